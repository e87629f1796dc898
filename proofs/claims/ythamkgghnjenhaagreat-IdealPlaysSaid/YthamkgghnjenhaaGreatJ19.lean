/- The walker: what came in: slices inside of others, ranges of numbers. -/
import Derived.SizedLaws
import Derived.Lib.SmallJoins
import Derived.ChangeMaps5
import Derived.Test.YthamkgghnjenhaaGreatJ11
import Derived.Test.YthamkgghnjenhaaGreatJ13
import Derived.Test.YthamkgghnjenhaaGreatJ16
namespace Go.Proofs.YthamkgghnjenhaaGreat
open Go.RowKit Go.ChangeShapes Go.WideShapes Go.ChangeAt Go.Deep Go.Joins
set_option linter.unusedVariables false
set_option maxRecDepth 100000

def AwakeEnd (w : World) (e : Ending) (w' : World) : Prop := e = .returned (.bool true) ∧ Only [] w w'
def i64ok (z : Int) : Prop := -9223372036854775808 ≤ z ∧ z ≤ 9223372036854775807
def u64ok (z : Int) : Prop := 0 ≤ z ∧ z ≤ 18446744073709551615
def u8ok (z : Int) : Prop := 0 ≤ z ∧ z ≤ 255
theorem wf_i64 {z : Int} (h : (Lit.int .i64 z).wf = true) : i64ok z := by simpa [Lit.wf, IntKind.min, IntKind.max, IntKind.signed, IntKind.bits, i64ok] using h
theorem wf_u64 {z : Int} (h : (Lit.int .u64 z).wf = true) : u64ok z := by simpa [Lit.wf, IntKind.min, IntKind.max, IntKind.signed, IntKind.bits, u64ok] using h
theorem wf_u8 {z : Int} (h : (Lit.int .u8 z).wf = true) : u8ok z := by simpa [Lit.wf, IntKind.min, IntKind.max, IntKind.signed, IntKind.bits, u8ok] using h
theorem slice_tr {P : Program} {α : Type} {E : Enc α} {H : Type} {enc : TypeId × Value → H} {W : World} {t e : TypeId} (ht : P.underlying t = some (.slice e)) (hk : P.cellsOf e = E.sz) (hk0 : 0 < E.sz) {fuel : Nat} {cs : List Value} {x : DataW H × List MemPlace}
    (hf : DataW.trod enc P W 0 (fun _ => true) true fuel t cs = some x) (Ok : α → Prop)
    (hR : ∀ fuel cs x, DataW.trod enc P W 0 (fun _ => true) true fuel e cs = some x → cs.length = E.sz → ∃ y, cs = E.enc y ∧ Ok y) :
    ∃ a n c ys, cs = [.slice a n c] ∧ SlW W E (.slice a n c) ys ∧ ∀ y ∈ ys, Ok y := by
  rcases open_slice ht hf with ⟨hcs, _⟩ | ⟨a', len', cap', m, n, D, Pl, hcs, _, hl, hm, hmm, _, hx⟩
  · exact ⟨none, 0, 0, [], hcs, SlW.nil W E, fun y hy => by cases hy⟩
  · simp only [if_true] at hmm
    subst hmm
    have key : ∀ i, i < len' → ∃ y, Ok y ∧ ∀ j, j < E.sz → W.cell? (a'.add (i * E.sz + j)) = (E.enc y)[j]? := by
      intro i hi
      obtain ⟨cs', h1, h2⟩ := hx i (by omega)
      rw [hk] at h1
      obtain ⟨_, hlen, hat⟩ := World.cells?_some h1
      obtain ⟨y, rfl, hy⟩ := hR _ _ _ h2 hlen
      exact ⟨y, hy, fun j hj => by rw [← add_add]; exact hat j hj⟩
    obtain ⟨ys, hys, hall⟩ := exists_list len' (fun i y => Ok y ∧ ∀ j, j < E.sz → W.cell? (a'.add (i * E.sz + j)) = (E.enc y)[j]?) key
    subst hys
    have hspot : 0 < ys.length → ∃ b off, a' = ⟨b, off, none⟩ := by
      intro hpos
      obtain ⟨b, off, spot⟩ := a'
      obtain ⟨y0, _, hc0⟩ := key 0 hpos
      have h1 := hc0 0 hk0
      rw [List.getElem?_eq_getElem (by rw [E.len]; exact hk0)] at h1
      have hsp : spot = none := by simpa [Addr.add] using World.cell?_spot h1
      subst hsp
      exact ⟨b, off, rfl⟩
    refine ⟨some a', ys.length, _, ys, hcs, ⟨⟨some a', _, rfl, hl, hm, fun hne => ?_⟩, ?_⟩, ?_⟩
    · obtain ⟨b, off, rfl⟩ := hspot (List.length_pos_iff.2 hne)
      exact ⟨b, off, rfl⟩
    · intro i y hy j u hu
      have hi := (List.getElem?_eq_some_iff.1 hy).1
      obtain ⟨b, off, rfl⟩ := hspot (by omega)
      have hj : j < E.sz := by have := (List.getElem?_eq_some_iff.1 hu).1; rwa [E.len] at this
      have := (hall i y hy).2 j hj
      rw [add_mk, hu] at this
      simpa [adr] using this
    · intro y hy
      obtain ⟨i, hi⟩ := List.getElem?_of_mem hy
      exact (hall i y hi).1

section
variable {H : Type} {enc : TypeId × Value → H} {W : World}
theorem int_in {fuel : Nat} {cs : List Value} {x : DataW H × List MemPlace} (hx : DataW.trod enc Tryz.prog W 0 (fun _ => true) true fuel 3 cs = some x) : ∃ y : Int, cs = iE.enc y ∧ i64ok y := by
  obtain ⟨a0, e0, -, w0⟩ := DataW.trod_int Tryz.underlying3 hx
  exact ⟨a0, e0, wf_i64 w0⟩
theorem ints_sl {base : Nat} {v : Value} {d : DataW H} {p : List MemPlace} (ho : Value.okWide Tryz.prog W .any base 22 v) (h : DataW.Trod enc Tryz.prog W 0 (fun _ => true) true 22 v d p) :
    ∃ l : List Int, SlW W iE v l ∧ ∀ x ∈ l, i64ok x := slice_sl (P := Tryz.prog) (E := iE) Tryz.underlying22 (by kernel_rfl) (by decide) ho h i64ok (fun fuel cs x hx hl => int_in hx)
end
end Go.Proofs.YthamkgghnjenhaaGreat
