/- The table of layer 13 as a plain list of entries, and how a memory holds it. -/
import Derived.Test.YtleimlhcdomffaaBase
namespace Go.Proofs.Ytleimlhcdomffaa
open Go.RowKit

structure Ent where
  st : Nat
  slot : Int
  gen : Nat
  deriving DecidableEq

def cnt (s : Nat) (es : List Ent) : Nat := es.countP (fun x => x.st == s)

/-- cells hold entries -/
def EntRows (arr : Array Value) (es : List Ent) : Prop :=
  ∀ i x, es[i]? = some x → arr[i * 3]? = some (.int .i64 (x.st : Nat)) ∧ arr[i * 3 + 1]? = some (.int .i64 x.slot) ∧ arr[i * 3 + 2]? = some (.int .u32 (x.gen : Nat))

/-- block b holds the table's head, block e (of c places) its entries -/
def Tab (w : World) (b e c : Nat) (es : List Ent) (gens : Int) : Prop :=
  ∃ hd arr, Blk w b hd 55 ∧ Blk w e arr 62 ∧ b ≠ e ∧ hd.size = 6 ∧ es.length ≤ c ∧ c ≤ maxLen ∧
    hd[0]? = some (.slice (some ⟨e, 0, none⟩) es.length c) ∧ hd[1]? = some (.int .i64 gens) ∧
    (∀ s, s < 4 → hd[2 + s]? = some (.int .i64 (cnt s es : Nat))) ∧
    EntRows arr es

/-- what the entries of a table are -/
def EntsOk (es : List Ent) : Prop := 1 ≤ es.length ∧ es.length ≤ 1024 ∧ ∀ x, x ∈ es → x.st < 4 ∧ x.gen ≤ 2147483648 ∧ 0 ≤ x.slot ∧ x.slot ≤ 9223372036854775807

instance (es : List Ent) : Decidable (EntsOk es) := by unfold EntsOk; infer_instance

theorem Tab.only {S : List Nat} {w w' : World} {b e c : Nat} {es : List Ent} {gens : Int} (h : Tab w b e c es gens) (ho : Only S w w') (hb : b ∉ S) (he : e ∉ S) : Tab w' b e c es gens := by
  obtain ⟨hd, arr, h1, h2, r⟩ := h
  exact ⟨hd, arr, h1.only ho hb, h2.only ho he, r⟩

theorem cnt_le (s : Nat) (es : List Ent) : cnt s es ≤ es.length := List.countP_le_length

theorem cnt_set {es : List Ent} {i : Nat} {x : Ent} (h : es[i]? = some x) (y : Ent) (s : Nat) :
    cnt s (es.set i y) + (if x.st = s then 1 else 0) = cnt s es + (if y.st = s then 1 else 0) := by
  induction es generalizing i with
  | nil => simp at h
  | cons z es ih =>
    cases i with
    | zero =>
      simp at h; subst h
      simp only [cnt, List.set_cons_zero, List.countP_cons, beq_iff_eq]
      omega
    | succ i =>
      simp at h
      have := ih h
      simp only [cnt, List.set_cons_succ, List.countP_cons] at this ⊢
      omega

theorem cnt_pos {es : List Ent} {i : Nat} {x : Ent} (h : es[i]? = some x) : 1 ≤ cnt x.st es := by
  unfold cnt
  have : 0 < es.countP (fun y => y.st == x.st) := List.countP_pos_iff.2 ⟨x, List.mem_of_getElem? h, by simp⟩
  omega

theorem lt_of_get {α : Type} {l : List α} {i : Nat} {x : α} (h : l[i]? = some x) : i < l.length := (List.getElem?_eq_some_iff.1 h).1

theorem EntRows.set {arr : Array Value} {es : List Ent} (h : EntRows arr es) {i : Nat} {x : Ent} (hx : es[i]? = some x) (y : Ent) (j : Nat) (hj : j < 3) (v : Value)
    (h0 : j ≠ 0 → y.st = x.st) (h1 : j ≠ 1 → y.slot = x.slot) (h2 : j ≠ 2 → y.gen = x.gen)
    (hv0 : j = 0 → v = .int .i64 (y.st : Nat)) (hv1 : j = 1 → v = .int .i64 y.slot) (hv2 : j = 2 → v = .int .u32 (y.gen : Nat)) :
    EntRows (arr.setIfInBounds (i * 3 + j) v) (es.set i y) := by
  intro k z hz
  obtain ⟨a0, a1, a2⟩ := h i x hx
  have hb0 := (Array.getElem?_eq_some_iff.1 a0).1
  have hb1 := (Array.getElem?_eq_some_iff.1 a1).1
  have hb2 := (Array.getElem?_eq_some_iff.1 a2).1
  simp only [Array.getElem?_setIfInBounds]
  by_cases hik : i = k
  · subst hik
    rw [List.getElem?_set_self (lt_of_get hx)] at hz
    cases hz
    have hj3 : j = 0 ∨ j = 1 ∨ j = 2 := by omega
    rcases hj3 with rfl | rfl | rfl
    · refine ⟨?_, ?_, ?_⟩
      · rw [Nat.add_zero, if_pos rfl, if_pos hb0, hv0 rfl]
      · rw [if_neg (by omega), a1, h1 (by omega)]
      · rw [if_neg (by omega), a2, h2 (by omega)]
    · refine ⟨?_, ?_, ?_⟩
      · rw [if_neg (by omega), a0, h0 (by omega)]
      · rw [if_pos rfl, if_pos hb1, hv1 rfl]
      · rw [if_neg (by omega), a2, h2 (by omega)]
    · refine ⟨?_, ?_, ?_⟩
      · rw [if_neg (by omega), a0, h0 (by omega)]
      · rw [if_neg (by omega), a1, h1 (by omega)]
      · rw [if_pos rfl, if_pos hb2, hv2 rfl]
  · rw [List.getElem?_set_ne hik] at hz
    obtain ⟨b0, b1, b2⟩ := h k z hz
    exact ⟨by rw [if_neg (by omega)]; exact b0, by rw [if_neg (by omega)]; exact b1, by rw [if_neg (by omega)]; exact b2⟩

/-- a store into an entry's slot -/
theorem Tab.set_slot {w : World} {b e c : Nat} {es : List Ent} {gens : Int} (hT : Tab w b e c es gens) {i : Nat} {x : Ent} (hx : es[i]? = some x) (v : Int) :
    Tab (w.setCell ⟨e, i * 3 + 1, none⟩ (.int .i64 v)) b e c (es.set i { x with slot := v }) gens := by
  obtain ⟨hd, arr, h1, h2, hne, hsz, hlc, hc, hd0, hd1, hds, hes⟩ := hT
  refine ⟨hd, _, h1.set_other (p := ⟨e, i * 3 + 1, none⟩) hne _, h2.set (i * 3 + 1) _, hne, hsz, by simpa using hlc, hc, by simpa using hd0, hd1, fun s hs => ?_, ?_⟩
  · have := cnt_set hx { x with slot := v } s
    simp at this
    rw [this]; exact hds s hs
  · exact hes.set (j := 1) hx _ (by omega) _ (by simp) (by simp) (by simp) (by simp) (by simp) (by simp)
theorem Tab.set_gen {w : World} {b e c : Nat} {es : List Ent} {gens : Int} (hT : Tab w b e c es gens) {i : Nat} {x : Ent} (hx : es[i]? = some x) (v : Nat) :
    Tab (w.setCell ⟨e, i * 3 + 2, none⟩ (.int .u32 (v : Nat))) b e c (es.set i { x with gen := v }) gens := by
  obtain ⟨hd, arr, h1, h2, hne, hsz, hlc, hc, hd0, hd1, hds, hes⟩ := hT
  refine ⟨hd, _, h1.set_other (p := ⟨e, i * 3 + 2, none⟩) hne _, h2.set (i * 3 + 2) _, hne, hsz, by simpa using hlc, hc, by simpa using hd0, hd1, fun s hs => ?_, ?_⟩
  · have := cnt_set hx { x with gen := v } s
    simp at this
    rw [this]; exact hds s hs
  · exact hes.set (j := 2) hx _ (by omega) _ (by simp) (by simp) (by simp) (by simp) (by simp) (by simp)
theorem Tab.cells {w : World} {b e c : Nat} {es : List Ent} {gens : Int} (hT : Tab w b e c es gens) {i : Nat} {x : Ent} (hx : es[i]? = some x) :
    w.cell? ⟨e, i * 3, none⟩ = some (.int .i64 (x.st : Nat)) ∧ w.cell? ⟨e, i * 3 + 1, none⟩ = some (.int .i64 x.slot) ∧ w.cell? ⟨e, i * 3 + 2, none⟩ = some (.int .u32 (x.gen : Nat)) ∧
    w.frozen? ⟨e, i * 3, none⟩ = false ∧ w.frozen? ⟨e, i * 3 + 1, none⟩ = false ∧ w.frozen? ⟨e, i * 3 + 2, none⟩ = false := by
  obtain ⟨hd, arr, h1, h2, hne, hsz, hlc, hc, hd0, hd1, hds, hes⟩ := hT
  exact ⟨h2.cell (hes i x hx).1, h2.cell (hes i x hx).2.1, h2.cell (hes i x hx).2.2, h2.frozen _, h2.frozen _, h2.frozen _⟩
theorem Tab.head {w : World} {b e c : Nat} {es : List Ent} {gens : Int} (hT : Tab w b e c es gens) :
    w.cell? ⟨b, 0, none⟩ = some (.slice (some ⟨e, 0, none⟩) es.length c) ∧ w.cell? ⟨b, 1, none⟩ = some (.int .i64 gens) ∧ b < w.heap.size ∧ e < w.heap.size ∧ b ≠ e := by
  obtain ⟨hd, arr, h1, h2, hne, hsz, hlc, hc, hd0, hd1, hds, hes⟩ := hT
  exact ⟨h1.cell hd0, h1.cell hd1, h1.lt, h2.lt, hne⟩

end Go.Proofs.Ytleimlhcdomffaa
