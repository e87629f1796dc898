/- The walker and the contracts that the law needs, part 17. -/
import Derived.RecoverIn
import Derived.Test.YtalholahapcpkaaGreatDoorJ16
namespace Go.Proofs.YtalholahapcpkaaGreatDoor
open Go.RowKit
set_option linter.unusedVariables false
set_option linter.unusedSimpArgs false
section
variable {P : Program} {w0 : World} {n : Nat} {Q : Exit → Act → World → Prop} {ds : List Deferred} {m : Slots} {H F : Heap} {ops : Array Oper} {rest : List Oper} {ty : TypeId} {pos : String} {af : Array Edge}
theorem KL.deferC {f : Operand} {g : FuncId} {cap : Array Value} (hf : evO m f = some (.func (.func g) #[] cap))
  (h : KL P w0 none n ops rest Q ({ target := .fn (.func g) cap, args := #[] } :: ds) m H) :
  KL P w0 none n ops (⟨none, .defer { callee := .value f, args := #[], argTypes := #[] }, ty, pos, af, none⟩ :: rest) Q ds m H := .mk fun a w ha hw =>
 wpListIn_plain rfl fun Kf hK => by
  unfold Oper.wpIn
  refine ⟨fun _ _ => trivial, ?_⟩
  have e : ((Oper.semAt (fen none).round a.eval ⟨none, .defer { callee := .value f, args := #[], argTypes := #[] }, ty, pos, af, none⟩).run P w) = .ok (.defer { target := .fn (.func g) cap, args := #[] }) w := by
   rw [show (fen none).round = none from rfl, Oper.semAt_none]
   simp [execOp, resolve, ha.eval hf, Deferred.ofValue]
  rw [e, Oper.uponIn_defer]
  exact hK _ _ (h.out { a with defers := { target := .fn (.func g) cap, args := #[] } :: a.defers } w ⟨by rw [ha.1], ha.2.1, ha.2.2⟩ hw)
theorem KE.finD {fn : Func} {R : Post} {g : FuncId} {cap : Array Value} {H' : Heap} {rs : List ResultVar} {vs : List Value}
  (hc : ∀ w, HF w0 H w → CallsDIn (fen none) 0 P g cap .returning w (fun e u' w' => (∃ v, e = .returned v) ∧ u' = .returning ∧ HF w0 H w'))
  (he : enters P g = true) (hr : fn.results = rs.toArray) (hv : ResV P w0 m H rs vs) (hp : Part H H') (h : R (resVal vs) H') :
  KE w0 n .ret (bodyPostM (fen none) 0 P fn (Ends w0 R)) [{ target := .fn (.func g) cap, args := #[] }] m H :=
 .mk fun a w ha hw => by
  show LeavesInM (fen none) 0 P fn a.tmps (Ends w0 R) a.defers .returning w
  rw [ha.1]
  refine ⟨by simp, .inr ⟨fun hh => by simp [fen, Fence.wide] at hh, .func g, cap, g, cap, rfl, ?_, fun _ _ => trivial, ?_⟩⟩
  ·have := enters_run he cap w
   show (callFunc g (#[] ++ cap)).run P w = _
   rw [Array.empty_append]
   exact this
  ·refine (hc w hw).mono ?_
   rintro e u' w' ⟨⟨v, rfl⟩, rfl, hw'⟩
   show LeavesInM (fen none) 0 P fn a.tmps (Ends w0 R) [] (settle .returning) w'
   exact ⟨resVal vs, hv.results hr hw' ha.2.2, resVal vs, H', rfl, hw'.part hp, h⟩
end
section
variable {P : Program} {w0 : World} {H F : Heap} {m : Slots} {ty : TypeId} {α : Type} {E : Enc α}
theorem Val.negW {t : TypeId} {x : Operand} {k : IntKind} {a : Int} (hx : evO m x = some (.int k a)) : Val P w0 H m ty (.unOp .neg t x) (.int k (k.wrap (-a))) :=
 ⟨by simp [covOp, cov, hx], fun w d pos af g _ => by simp [execOp, evS, hx, Op.unary, Op.intArith]⟩
def cleared (xs : List α) (i h : Nat) (x0 : α) : List α := xs.take i ++ List.replicate (h - i) x0 ++ xs.drop h
theorem cleared_len {xs : List α} {i h : Nat} {x0 : α} (hi : i ≤ h) (hh : h ≤ xs.length) : (cleared xs i h x0).length = xs.length := by
 simp only [cleared, List.length_append, List.length_take, List.length_replicate, List.length_drop]; omega
theorem cleared_none {xs : List α} {i : Nat} {x0 : α} : cleared xs i i x0 = xs := by simp [cleared]
theorem clr_all {xs : List α} {o : Own} (ok : oOk E xs o) : oV o xs.length = subV (oV o xs.length) 0 xs.length E.sz := (sub_all o xs.length E.sz (fun h => by subst h; simp only [oOk] at ok; subst ok; rfl)).symm
theorem cleared_all {xs : List α} {x0 : α} : cleared xs 0 xs.length x0 = List.replicate xs.length x0 := by simp [cleared]
theorem Eff.clearS {x : Operand} {t e : TypeId} {xs : List α} {o : Own} {i h : Nat} {vd : Value} {x0 : α} (hx : evO m x = some vd) (hvd : vd = subV (oV o xs.length) i h E.sz) (ht : sliceElem P t = some e)
  (hz0 : zeroOf P e = some (E.enc x0)) (hi : i ≤ h) (hh : h ≤ xs.length) (hT : TakeL (oH E e xs o) H F) (ok : oOk E xs o) :
  Eff P w0 H m ty (.call { callee := .builtin .clear, args := #[x], argTypes := #[t] }) (fun v H' => v = .tuple #[] ∧ oOk E (cleared xs i h x0) o ∧ H' = oH E e (cleared xs i h x0) o ++ F) := by
 refine ⟨by simp [covOp, covCall, cov, hx], fun w d pos af g hw0 => ?_⟩
 have hw := hw0.takeL hT
 have hu : P.underlying t = some (.slice e) := by unfold sliceElem at ht; split at ht <;> simp_all
 by_cases hn : h - i = 0
 ·have hie : i = h := by omega
  subst hie
  rw [cleared_none]
  have e3 : (Builtin.clear_ #[t] ty #[vd]).run P w = .ok (.tuple #[]) w := by
   subst hvd
   cases o with
   | none => simp [Builtin.clear_, run_und w hu, oV, subV]
   | some ob =>
    simp only [oV, subV, hn]
    split <;> simp [Builtin.clear_, run_und w hu]
  have e4 : (execOp (evS m) ⟨d, .call { callee := .builtin .clear, args := #[x], argTypes := #[t] }, ty, pos, af, g⟩).run P w = .ok (.value (.tuple #[])) w := by
   simp [execOp, resolve, invoke, builtin, evS, hx, e3]
  rw [e4]
  exact ⟨_, hw, rfl, ok, rfl⟩
 ·cases o with
  | none => simp only [oOk] at ok; subst ok; simp at hh; omega
  | some ob =>
   obtain ⟨g1, g2, g3⟩ := ok
   obtain ⟨k, hk⟩ : ∃ k, h - i = k + 1 := ⟨h - i - 1, by omega⟩
   have e2 : vd = .slice (some ⟨ob.b, i * E.sz, none⟩) (k + 1) (ob.c - i) := by
    subst hvd
    simp only [oV, subV]
    rw [if_neg (by omega), hk]
    simp [Addr.add]
    try omega
   rw [e2] at hx
   obtain ⟨zv, hz1, hz2⟩ := run_zero w hz0
   have hcl : (flat E (List.replicate (k + 1) x0)).length = (k + 1) * E.sz := by rw [flat_len, List.length_replicate]
   have hfit : i * E.sz + (k + 1) * E.sz ≤ xs.length * E.sz := by rw [← Nat.add_mul]; exact Nat.mul_le_mul_right _ (by omega)
   have hst := run_storeCells_at P ob.b (i * E.sz) e (flat E (List.replicate (k + 1) x0)) 0 (flat E xs ++ ob.tl).toArray w (hw.get _ (.head _))
    (by rw [hcl]; simp only [List.size_toArray, List.length_append, flat_len]; omega) (flat_one _)
   simp only [Nat.add_zero] at hst
   have hzc : (Builtin.zeroCells zv.cells (k + 1)).toList = flat E (List.replicate (k + 1) x0) := by
    rw [hz2]
    have := repL_made (E.enc x0) (k + 1)
    simp only [List.size_toArray, E.len] at this
    simp only [Builtin.zeroCells, List.size_toArray, E.len]
    rw [this, ← repL_flat]
   have e4 : (execOp (evS m) ⟨d, .call { callee := .builtin .clear, args := #[x], argTypes := #[t] }, ty, pos, af, g⟩).run P w = .ok (.value (.tuple #[])) (w.setRow ob.b (over (flat E xs ++ ob.tl).toArray (i * E.sz) (flat E (List.replicate (k + 1) x0)))) := by
    have : (Builtin.clear_ #[t] ty #[.slice (some ⟨ob.b, i * E.sz, none⟩) (k + 1) (ob.c - i)]).run P w = .ok (.tuple #[]) (w.setRow ob.b (over (flat E xs ++ ob.tl).toArray (i * E.sz) (flat E (List.replicate (k + 1) x0)))) := by
     simp [Builtin.clear_, run_und w hu, hz1, hzc, hst, over, Result.andThen]
    simp [execOp, resolve, invoke, builtin, evS, hx, this]
   rw [e4]
   refine ⟨_, hw.setRow, rfl, ?_, ?_⟩
   ·simp only [oOk, cleared_len hi hh]
    exact ⟨g1, g2, g3⟩
   ·simp only [oH, List.cons_append, List.nil_append, cells]
    congr 3
    unfold over cleared
    congr 1
    simp only [hcl]
    rw [← Nat.add_mul, flat_take_mul xs i (by omega), show i + (k + 1) = h by omega, flat_drop_mul xs h hh, flat_append, flat_append, hk]
    simp
end
open Go.RowKit
section
variable {P : Program} {w0 : World} {m : Slots} {H : Heap} {ty : TypeId}
theorem Val.indexV {t e : TypeId} {x y : Operand} {cs ds : List Value} {len z off : Nat} {i : Int} {k : IntKind} (hx : evO m x = some (.agg cs.toArray)) (hy : evO m y = some (.int k i)) (ht : arrElem P t = some (len, e)) (hz : szOf P e = some z) (h1 : aggB P e = true) (hj : 0 ≤ i ∧ i < len) (ho : i.toNat * z = off) (hd : Seg cs off z ds) : Val P w0 H m ty (.index t x y) (.agg ds.toArray) :=
 ⟨by simp [covOp, cov, hx, hy], fun w d pos af g _ => by
  have hu : P.underlying t = some (.array len e) := by unfold arrElem at ht; split at ht <;> simp_all
  have hp := run_partN (P := P) w (cs := cs.toArray) (off := off) h1 hz
  have hd := hd.eq.1
  subst hd
  have hr : (Instr.index t (.agg cs.toArray) (.int k i)).run P w = .ok (.agg ((cs.drop off).take z).toArray) w := by
   simp [Instr.index, asIntOf, run_und w hu, hj.1, hj.2, run_szOf w hz, ho, hp, List.take_drop]
  simp [execOp, evS, hx, hy, hr]⟩
end
end Go.Proofs.YtalholahapcpkaaGreatDoor
