/- Ideal: operations and kinds that came in. -/
import Derived.Test.YthamkgghnjenhaaJ19
import Derived.Test.YthamkgghnjenhaaJ21
namespace Go.Proofs.Ythamkgghnjenhaa
open Go.RowKit Go.ChangeShapes Go.WideShapes Go.ChangeAt Go.Deep Go.Joins
set_option linter.unusedVariables false
set_option maxRecDepth 100000
def OpP.ok (op : OpP) : Prop := u8ok op.code ∧ i64ok op.h ∧ i64ok op.a ∧ i64ok op.b ∧ u64ok op.v ∧ i64ok op.to
def opL (op : OpP) : List Value := [.int .u8 op.code, .int .i64 op.h, .int .i64 op.a, .int .i64 op.b, .int .u64 op.v, .int .i64 op.to]
def opE : Enc OpP := ⟨opL, 6, fun _ => rfl, by
  intro x v hv
  simp only [opL, List.mem_cons, List.not_mem_nil, or_false] at hv
  rcases hv with rfl | rfl | rfl | rfl | rfl | rfl <;> rfl⟩
section
variable {H : Type} {enc : TypeId × Value → H} {W : World}
theorem plain_in {fuel : Nat} {cs : List Value} {x : DataW H × List MemPlace} (hx : DataW.trod enc Try.prog W 0 (fun _ => true) true fuel 51 cs = some x) (hlen : cs.length = 6) : ∃ y : OpP, cs = opE.enc y ∧ y.ok := by
  obtain ⟨c0, c1, c2, c3, c4, c5, rfl⟩ : ∃ c0 c1 c2 c3 c4 c5, cs = [c0, c1, c2, c3, c4, c5] := by
    match cs, hlen with
    | [c0, c1, c2, c3, c4, c5], _ => exact ⟨c0, c1, c2, c3, c4, c5, rfl⟩
  obtain ⟨xs, n, _, rfl, hl, hxl, hf⟩ := DataW.trod_struct Try.underlying51 hx
  have k8 : (Try.prog).cellsOf 5 = 1 := by kernel_rfl
  have ku : (Try.prog).cellsOf 46 = 1 := by kernel_rfl
  have ki : (Try.prog).cellsOf 3 = 1 := by kernel_rfl
  match xs, hxl with
  | [y0, y1, y2, y3, y4, y5], _ =>
    have h0 := hf 0 _ rfl
    have h1 := hf 1 _ rfl
    have h2 := hf 2 _ rfl
    have h3 := hf 3 _ rfl
    have h4 := hf 4 _ rfl
    have h5 := hf 5 _ rfl
    obtain ⟨a0, e0, -, w0⟩ := DataW.trod_int Try.underlying5 (by simpa [k8] using h0)
    obtain ⟨a1, e1, -, w1⟩ := DataW.trod_int Try.underlying3 (by simpa [ki] using h1)
    obtain ⟨a2, e2, -, w2⟩ := DataW.trod_int Try.underlying3 (by simpa [ki] using h2)
    obtain ⟨a3, e3, -, w3⟩ := DataW.trod_int Try.underlying3 (by simpa [ki] using h3)
    obtain ⟨a4, e4, -, w4⟩ := DataW.trod_int Try.underlying46 (by simpa [ku] using h4)
    obtain ⟨a5, e5, -, w5⟩ := DataW.trod_int Try.underlying3 (by simpa [ki] using h5)
    simp at e0 e1 e2 e3 e4 e5
    subst e0 e1 e2 e3 e4 e5
    exact ⟨⟨a0, a1, a2, a3, a4, a5⟩, rfl, wf_u8 w0, wf_i64 w1, wf_i64 w2, wf_i64 w3, wf_u64 w4, wf_i64 w5⟩
theorem plain_v {base : Nat} {v : Value} {d : DataW H} {p : List MemPlace} (ho : Value.okWide Try.prog W .any base 51 v) (h : DataW.Trod enc Try.prog W 0 (fun _ => true) true 51 v d p) : ∃ op : OpP, v = opV op ∧ op.ok := by
  obtain ⟨cs, rfl, hs⟩ := okWide_struct Try.underlying51 ho
  have k6 : (Try.prog).cellsOf 51 = 6 := by kernel_rfl
  rw [k6] at hs
  obtain ⟨fuel, hf⟩ := h
  obtain ⟨y, hy, hok⟩ := plain_in hf (by simpa [Value.cells] using hs)
  refine ⟨y, ?_, hok⟩
  have : cs.toList = opL y := hy
  show Value.agg cs = Value.agg (opL y).toArray
  rw [← this]
theorem plains_sl {base : Nat} {v : Value} {d : DataW H} {p : List MemPlace} (ho : Value.okWide Try.prog W .any base 25 v) (h : DataW.Trod enc Try.prog W 0 (fun _ => true) true 25 v d p) :
    ∃ l : List OpP, SlW W opE v l ∧ ∀ x ∈ l, x.ok := slice_sl (P := Try.prog) (E := opE) Try.underlying25 (by kernel_rfl) (by decide) ho h OpP.ok (fun fuel cs x hx hl => plain_in hx hl)
theorem kind_v {base : Nat} {v : Value} {d : DataW H} {p : List MemPlace} (ho : Value.okWide Try.prog W .any base 24 v) (h : DataW.Trod enc Try.prog W 0 (fun _ => true) true 24 v d p) :
    ∃ (vc : Value) (cl : List Int) (q c : Int), v = .agg [vc, .int .i64 q, .int .i64 c].toArray ∧ SlW W iE vc cl ∧ i64ok q ∧ i64ok c := by
  obtain ⟨cs, rfl, hs⟩ := okWide_struct Try.underlying24 ho
  have k3 : (Try.prog).cellsOf 24 = 3 := by kernel_rfl
  rw [k3] at hs
  obtain ⟨fuel, hf⟩ := h
  obtain ⟨c0, c1, c2, hcs⟩ : ∃ c0 c1 c2, cs = [c0, c1, c2].toArray := by
    obtain ⟨l⟩ := cs
    match l, hs with
    | [c0, c1, c2], _ => exact ⟨c0, c1, c2, rfl⟩
  subst hcs
  obtain ⟨y0, y1, y2, n, _, _, h0, h1, h2⟩ := trod_struct3 Try.underlying24 hf
  have ks : (Try.prog).cellsOf 22 = 1 := by kernel_rfl
  have ki : (Try.prog).cellsOf 3 = 1 := by kernel_rfl
  obtain ⟨a1, e1, -, w1⟩ := DataW.trod_int Try.underlying3 (by simpa [ki, Value.cells] using h1)
  obtain ⟨a2, e2, -, w2⟩ := DataW.trod_int Try.underlying3 (by simpa [ki, Value.cells] using h2)
  obtain ⟨a, nn, c, ys, e0, hS, _⟩ := slice_tr (P := Try.prog) (E := iE) Try.underlying22 (by kernel_rfl) (by decide) h0 i64ok (fun fuel cs x hx hl => int_in hx)
  simp [Value.cells, ks] at e0 e1 e2
  subst e0 e1 e2
  exact ⟨_, ys, a1, a2, rfl, hS, wf_i64 w1, wf_i64 w2⟩
end
end Go.Proofs.Ythamkgghnjenhaa
