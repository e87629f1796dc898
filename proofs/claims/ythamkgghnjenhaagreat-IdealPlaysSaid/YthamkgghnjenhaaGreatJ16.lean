/- The walker: slices.Sort and slices.Compact on own slices of numbers; sorted lists. -/
import Derived.Test.YthamkgghnjenhaaGreatJ3
import Derived.Test.YthamkgghnjenhaaGreatJ11
namespace Go.Proofs.YthamkgghnjenhaaGreat
open Go.RowKit Go.Lib Go.Sort
set_option linter.unusedVariables false
set_option linter.unusedSimpArgs false

def iE : Enc Int := ⟨fun z => [.int .i64 z], 1, fun _ => rfl, by intro x v hv; simp at hv; subst hv; rfl⟩
theorem flat_iE (l : List Int) : flat iE l = l.map (Value.int .i64) := by
  induction l with
  | nil => rfl
  | cons z l ih => rw [flat_cons, ih]; rfl

section
variable {w0 w : World} {F : Heap} {e : TypeId} {ob : Ob} {zs zs' : List Int}
theorem HF.putRow' (hw : HF w0 (oH iE e zs (some ob) ++ F) w) (hl : zs'.length = zs.length) (n : Nat) (os : Array Obj) :
    HF w0 (oH iE e zs' (some ob) ++ F) (grow (putRow (Value.int .i64) (Sort.ahead w n) ob.b 0 zs'.toArray) os) := by
  have hb : w.heap[ob.b]? = some (cells (flat iE zs ++ ob.tl) e) := hw.get (ob.b, cells (flat iE zs ++ ob.tl) e) (by simp [oH])
  have hlt : ob.b < w.heap.size := (Array.getElem?_eq_some_iff.1 hb).1
  have ho : Only [ob.b] w (grow (putRow (Value.int .i64) (Sort.ahead w n) ob.b 0 zs'.toArray) os) := by
    refine ⟨rfl, rfl, rfl, by simp, fun k hk hS => ?_⟩
    rw [heap_grow_old _ _ (by simpa using hk)]
    have hne : ob.b ≠ k := fun h => hS (by simp [h])
    simp only [putRow, mapBlock, Sort.ahead, Array.getElem?_modify, if_neg hne]
  refine hw.only ho (by simp [oH]) ?_ (by simp [oH]) (by simp [oH])
  intro p hp
  simp only [oH, List.mem_singleton] at hp
  subst hp
  show (grow (putRow (Value.int .i64) (Sort.ahead w n) ob.b 0 zs'.toArray) os).heap[ob.b]? = some (cells (flat iE zs' ++ ob.tl) e)
  rw [heap_grow_old _ _ (by simpa using hlt)]
  simp only [putRow, mapBlock, Sort.ahead, Array.getElem?_modify, if_true, hb, Option.map_some, onCells, cells]
  congr 2
  apply Array.ext_getElem?
  intro k
  have e0 : ∀ q : List Int, (flat iE q).length = q.length := fun q => by rw [flat_iE]; simp
  simp only [putCells, Array.getElem?_mapIdx, List.getElem?_toArray, Nat.zero_le, true_and, Nat.zero_add, List.size_toArray]
  by_cases hk : k < zs'.length
  · rw [List.getElem?_append_left (by rw [e0]; omega), List.getElem?_append_left (by rw [e0]; omega)]
    rw [flat_iE, flat_iE, List.getElem?_map, List.getElem?_map, List.getElem?_eq_getElem (by omega : k < zs.length), List.getElem?_eq_getElem hk]
    simp [hk]
  · rw [List.getElem?_append_right (by rw [e0]; omega), List.getElem?_append_right (by rw [e0]; omega), e0, e0, hl]
    rw [hl] at hk
    cases ob.tl[k - zs.length]? <;> simp [hk, hl]

theorem HF.holds (hw : HF w0 (oH iE e zs (some ob) ++ F) w) : Holds (Value.int .i64) w ob.b 0 zs.toArray ∧ ob.b < w.heap.size := by
  have hb : w.heap[ob.b]? = some (cells (flat iE zs ++ ob.tl) e) := hw.get (ob.b, cells (flat iE zs ++ ob.tl) e) (by simp [oH])
  refine ⟨fun j hj => ?_, (Array.getElem?_eq_some_iff.1 hb).1⟩
  have hj' : j < zs.length := by simpa using hj
  have hB : Blk w ob.b (flat iE zs ++ ob.tl).toArray e := hb
  refine ⟨hB.cell ?_, hB.frozen _⟩
  rw [List.getElem?_toArray, Nat.zero_add, List.getElem?_append_left (by rw [flat_iE]; simpa using hj'), flat_iE, List.getElem?_map, List.getElem?_eq_getElem hj']
  simp [hj']
end

def sortP (zs : List Int) : List Int := zs.mergeSort fun x y => decide (x ≤ y)
theorem sortP_len (zs : List Int) : (sortP zs).length = zs.length := List.length_mergeSort _
theorem sortP_mem {zs : List Int} {x : Int} : x ∈ sortP zs ↔ x ∈ zs := List.mem_mergeSort
theorem sortP_sorted (zs : List Int) : (sortP zs).Pairwise (· ≤ ·) := by
  have := List.pairwise_mergeSort (le := fun x y : Int => decide (x ≤ y)) (by intro a b c; simp; omega) (by intro a b; simp; omega) zs
  exact this.imp (by intro a b h; simpa using h)

theorem Sort_K {w0 : World} {F : Heap} {o : Own} {zs : List Int} (ok : oOk iE zs o) (hl : zs.length ≤ 1000000) :
    Call Tryz.prog w0 57 [oV o zs.length] (oH iE 3 zs o ++ F) (fun r H' => r = .tuple #[] ∧ oOk iE (sortP zs) o ∧ H' = oH iE 3 (sortP zs) o ++ F) := by
  refine ⟨by kernel_rfl, fun w hw => ?_⟩
  cases o with
  | none =>
    simp only [oOk] at ok
    subst ok
    refine (Tryz.slices_Sort_int_none none 0 w).mono ?_
    rintro e w' ⟨he, rfl⟩
    have e0 : sortP [] = [] := by simp [sortP]
    rw [e0]
    exact ⟨_, _, he, hw, rfl, rfl, rfl⟩
  | some ob =>
    obtain ⟨hH, hb⟩ := hw.holds
    refine (Tryz.slices_Sort_int ob.b 0 ob.c zs w hH hb (by omega)).mono ?_
    rintro e w' ⟨he, n, os, rfl⟩
    refine ⟨_, _, he, hw.putRow' (zs' := sortP zs) (sortP_len zs) n os, rfl, ?_, rfl⟩
    simpa [oOk, sortP_len] using ok

/-! ## sorted lists -/
theorem sorted_ext : ∀ {a b : List Int}, a.Pairwise (· < ·) → b.Pairwise (· < ·) → (∀ x, x ∈ a ↔ x ∈ b) → a = b
  | [], b, _, _, h => by
    cases b with
    | nil => rfl
    | cons y b => have := (h y).2 (.head _); cases this
  | x :: a, [], _, _, h => by have := (h x).1 (.head _); cases this
  | x :: a, y :: b, ha, hb, h => by
    obtain ⟨a1, a2⟩ := List.pairwise_cons.1 ha
    obtain ⟨b1, b2⟩ := List.pairwise_cons.1 hb
    have hxy : x = y := by
      have h1 := (h x).1 (.head _)
      have h2 := (h y).2 (.head _)
      rcases List.mem_cons.1 h1 with h1 | h1
      · exact h1
      · rcases List.mem_cons.1 h2 with h2 | h2
        · exact h2.symm
        · have := a1 y h2; have := b1 x h1; omega
    subst hxy
    congr 1
    refine sorted_ext a2 b2 fun z => ?_
    constructor
    · intro hz
      rcases List.mem_cons.1 ((h z).1 (.tail _ hz)) with e | e
      · have := a1 z hz; omega
      · exact e
    · intro hz
      rcases List.mem_cons.1 ((h z).2 (.tail _ hz)) with e | e
      · have := b1 z hz; omega
      · exact e

end Go.Proofs.YthamkgghnjenhaaGreat
