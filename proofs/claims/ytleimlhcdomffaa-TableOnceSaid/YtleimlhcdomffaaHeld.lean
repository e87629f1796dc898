/- The sparse walker at a region that draws its order, reads cells that nobody in it writes, and has calls that wait for what was read. -/
import Derived.Test.YtleimlhcdomffaaSparse
import Derived.Deep.RegionHeld3
namespace Go.Proofs.Ytleimlhcdomffaa
open Go.RowKit
set_option linter.unusedVariables false

def upTo (n k : Nat) : Array Bool := (List.replicate k true ++ List.replicate (n - k) false).toArray

theorem upTo_set {n k : Nat} (h : k < n) : (upTo n k).setIfInBounds k true = upTo n (k + 1) := by
  unfold upTo
  apply Array.ext'
  simp only [Array.toList_setIfInBounds]
  apply List.ext_getElem?
  intro j
  rw [List.getElem?_set]
  simp only [List.length_append, List.length_replicate, List.getElem?_append, List.getElem?_replicate]
  repeat' split
  all_goals first
    | rfl
    | omega

structure JH (P : Program) (n : Nat) (ops : Array Oper) (S : World → Prop) (k : Nat) (l : List Oper) (Q : Exit → Act → World → Prop) (m : Slots) (w : World) : Prop where
  out : ∀ a, Fits n m a → wpAnyH P .any ops Q S (ops.size - k) (upTo ops.size k) a w

def takeB (ops : Array Oper) (k : Nat) : Bool := decide (k < ops.size) && Region.noSelect ops && Region.free .any ops (upTo ops.size k) k && (Region.ready .any ops (upTo ops.size k)).contains k
def onlyB (ops : Array Oper) (k : Nat) : Bool := decide (k < ops.size) && decide (Region.ready .any ops (upTo ops.size k) = [k])
def doneB (ops : Array Oper) (k : Nat) : Bool := (Region.ready .any ops (upTo ops.size k)).isEmpty

section
variable {P : Program} {n : Nat} {Q : Exit → Act → World → Prop} {m : Slots} {w : World} {ops : Array Oper} {S : World → Prop} {k : Nat} {rest : List Oper} {op : Op} {ty : TypeId} {pos : String} {af : Array Edge}

theorem J.held (S : World → Prop) {id : Nat} {l : List Oper} (hm : P.follows .mixedOrders = true) (h : ∀ w1, Hid (w1 = w.drew) → JH P n l.toArray S 0 l (NoPanic Q) m w1) : J P n (.region id l.toArray true) Q m w := by
  refine .mk fun a ha => wp_region_noPanic (wp_region_held (S := S) hm ?_)
  have := (h _ (Lib.hid rfl)).out a ha
  have e : upTo l.toArray.size 0 = Array.replicate l.toArray.size false := by
    unfold upTo; simp
  rw [e] at this
  exact this

theorem JH.take {d : Nat} {v : Value} (hi : ops[k]? = some ⟨some d, op, ty, pos, af, none⟩) (hb : takeB ops k = true) (hd : Nat.blt d n = true) (hc : covOp m op = true) (hS : S w)
    (hv : ∀ w', S w' → (execOp (evS m) ⟨some d, op, ty, pos, af, none⟩).run P w' = .ok (.value v) w')
    (h : JH P n ops S (k + 1) rest (NoPanic Q) ((d, v) :: m) w) : JH P n ops S k (⟨some d, op, ty, pos, af, none⟩ :: rest) (NoPanic Q) m w := by
  simp only [takeB, Bool.and_eq_true, decide_eq_true_eq] at hb
  obtain ⟨⟨⟨hk, hs⟩, hf⟩, hr⟩ := hb
  refine .mk fun a ha => ?_
  rw [show ops.size - k = (ops.size - (k + 1)) + 1 by omega]
  refine wpAnyH_take (v := v) hi hs hf hr (fun c a w hq => hq) (.inl ⟨by simp [Region.wanted], fun w' hw' => ?_⟩) hS ?_
  · rw [ha.exec (o := ⟨some d, op, ty, pos, af, none⟩) hc]; exact hv w' hw'
  · rw [upTo_set hk]; exact h.out _ (ha.put hd v)

theorem JH.takeE {d : Nat} (hi : ops[k]? = some ⟨some d, op, ty, pos, af, none⟩) (hb : takeB ops k = true) (hd : Nat.blt d n = true) (hc : covOp m op = true) (hS : S w)
    (h : ∃ v, (∀ w', S w' → (execOp (evS m) ⟨some d, op, ty, pos, af, none⟩).run P w' = .ok (.value v) w') ∧ JH P n ops S (k + 1) rest (NoPanic Q) ((d, v) :: m) w) : JH P n ops S k (⟨some d, op, ty, pos, af, none⟩ :: rest) (NoPanic Q) m w := by
  obtain ⟨v, h1, h2⟩ := h
  exact JH.take hi hb hd hc hS h1 h2

theorem JH.move {d : Nat} {x : Operand} {v : Value} (hi : ops[k]? = some ⟨some d, .move x, ty, pos, af, none⟩) (hb : takeB ops k = true) (hd : Nat.blt d n = true) (hx : evO m x = some v) (hS : S w)
    (h : JH P n ops S (k + 1) rest (NoPanic Q) ((d, v) :: m) w) : JH P n ops S k (⟨some d, .move x, ty, pos, af, none⟩ :: rest) (NoPanic Q) m w :=
  JH.take hi hb hd (by simp [covOp, cov, hx]) hS (fun w' _ => by have : evS m x = v := by simp [evS, hx]
                                                                 rw [← this]; rfl) h

theorem JH.assign {d : Nat} {x : Operand} {v : Value} (hi : ops[k]? = some ⟨some d, .assign x, ty, pos, af, none⟩) (hb : takeB ops k = true) (hd : Nat.blt d n = true) (hx : evO m x = some v) (hS : S w)
    (h : JH P n ops S (k + 1) rest (NoPanic Q) ((d, v) :: m) w) : JH P n ops S k (⟨some d, .assign x, ty, pos, af, none⟩ :: rest) (NoPanic Q) m w :=
  JH.take hi hb hd (by simp [covOp, cov, hx]) hS (fun w' _ => by have : evS m x = v := by simp [evS, hx]
                                                                 rw [← this]; rfl) h

theorem JH.only {d : Nat} (hi : ops[k]? = some ⟨some d, op, ty, pos, af, none⟩) (hb : onlyB ops k = true) (hd : Nat.blt d n = true) (hc : covOp m op = true)
    (h : ∀ K : Value → World → Prop, (∀ v w', S w' → JH P n ops S (k + 1) rest (NoPanic Q) ((d, v) :: m) w' → K v w') → upV P K ((execOp (evS m) ⟨some d, op, ty, pos, af, none⟩).run P w)) :
    JH P n ops S k (⟨some d, op, ty, pos, af, none⟩ :: rest) (NoPanic Q) m w := by
  simp only [onlyB, Bool.and_eq_true, decide_eq_true_eq] at hb
  obtain ⟨hk, hr⟩ := hb
  refine .mk fun a ha => ?_
  rw [show ops.size - k = (ops.size - (k + 1)) + 1 by omega]
  refine wpAnyH_all hr (by simp) ?_
  intro i hik
  have : i = k := by simpa using hik
  subst this
  unfold wpOp
  simp only [hi]
  rw [if_pos (by simp [Region.wanted])]
  refine .inl ?_
  unfold Oper.wp
  rw [ha.exec (o := ⟨some d, op, ty, pos, af, none⟩) hc, upTo_set hk]
  refine upV_sound ?_
  exact h _ fun v w' hw' hj => ⟨hw', hj.out _ (ha.put hd v)⟩

theorem JH.done (hb : doneB ops k = true) (h : JE n .normal Q m w) : JH P n ops S k [] (NoPanic Q) m w :=
  .mk fun a ha => wpAnyH_done (Q := NoPanic Q) (by simpa [doneB] using hb) (h.out a ha) _
end
end Go.Proofs.Ytleimlhcdomffaa
