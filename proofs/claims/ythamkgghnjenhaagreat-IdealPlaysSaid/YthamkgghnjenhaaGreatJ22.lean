/- Ideal: operations and kinds that came in. Ideal: two objects that are the same. Ideal: the document's store, plain: all that ever was, and what of it is there. Ideal: the document's sums of floats. Ideal: the document's store in memory; what of it is there. Ideal: the document's objects, sizes, handles. Ideal: the document's New, mint, alloc. Ideal: the document's operations in plain words; the swept store says the same. Ideal: a step of the document and a step of the swept store say the same. Ideal: an operation at the document and at the store: the same is said, the same is there. Ideal: the document's store with memory of its own; Copied, alloc. Ideal: the document's alloc. Ideal: the document's fields. -/
import Derived.Test.YthamkgghnjenhaaGreatJ19
import Derived.Test.YthamkgghnjenhaaGreatJ21
namespace Go.Proofs.YthamkgghnjenhaaGreat
open Go.RowKit Go.ChangeShapes Go.WideShapes Go.ChangeAt Go.Deep Go.Joins
set_option linter.unusedVariables false
set_option maxRecDepth 100000
def OpP.ok (op : OpP) : Prop := u8ok op.code ∧ i64ok op.h ∧ i64ok op.a ∧ i64ok op.b ∧ u64ok op.v ∧ i64ok op.to
def opL (op : OpP) : List Value := [.int .u8 op.code, .int .i64 op.h, .int .i64 op.a, .int .i64 op.b, .int .u64 op.v, .int .i64 op.to]
def opE : Enc OpP := ⟨opL, 6, fun _ => rfl, by
  intro x v hv
  simp only [opL, List.mem_cons, List.not_mem_nil, or_false] at hv
  rcases hv with rfl | rfl | rfl | rfl | rfl | rfl <;> rfl⟩
section
variable {H : Type} {enc : TypeId × Value → H} {W : World}
theorem plain_in {fuel : Nat} {cs : List Value} {x : DataW H × List MemPlace} (hx : DataW.trod enc Tryz.prog W 0 (fun _ => true) true fuel 46 cs = some x) (hlen : cs.length = 6) : ∃ y : OpP, cs = opE.enc y ∧ y.ok := by
  obtain ⟨c0, c1, c2, c3, c4, c5, rfl⟩ : ∃ c0 c1 c2 c3 c4 c5, cs = [c0, c1, c2, c3, c4, c5] := by
    match cs, hlen with
    | [c0, c1, c2, c3, c4, c5], _ => exact ⟨c0, c1, c2, c3, c4, c5, rfl⟩
  obtain ⟨xs, n, _, rfl, hl, hxl, hf⟩ := DataW.trod_struct Tryz.underlying46 hx
  have k8 : (Tryz.prog).cellsOf 5 = 1 := by kernel_rfl
  have ku : (Tryz.prog).cellsOf 40 = 1 := by kernel_rfl
  have ki : (Tryz.prog).cellsOf 3 = 1 := by kernel_rfl
  match xs, hxl with
  | [y0, y1, y2, y3, y4, y5], _ =>
    have h0 := hf 0 _ rfl
    have h1 := hf 1 _ rfl
    have h2 := hf 2 _ rfl
    have h3 := hf 3 _ rfl
    have h4 := hf 4 _ rfl
    have h5 := hf 5 _ rfl
    obtain ⟨a0, e0, -, w0⟩ := DataW.trod_int Tryz.underlying5 (by simpa [k8] using h0)
    obtain ⟨a1, e1, -, w1⟩ := DataW.trod_int Tryz.underlying3 (by simpa [ki] using h1)
    obtain ⟨a2, e2, -, w2⟩ := DataW.trod_int Tryz.underlying3 (by simpa [ki] using h2)
    obtain ⟨a3, e3, -, w3⟩ := DataW.trod_int Tryz.underlying3 (by simpa [ki] using h3)
    obtain ⟨a4, e4, -, w4⟩ := DataW.trod_int Tryz.underlying40 (by simpa [ku] using h4)
    obtain ⟨a5, e5, -, w5⟩ := DataW.trod_int Tryz.underlying3 (by simpa [ki] using h5)
    simp at e0 e1 e2 e3 e4 e5
    subst e0 e1 e2 e3 e4 e5
    exact ⟨⟨a0, a1, a2, a3, a4, a5⟩, rfl, wf_u8 w0, wf_i64 w1, wf_i64 w2, wf_i64 w3, wf_u64 w4, wf_i64 w5⟩
theorem plain_v {base : Nat} {v : Value} {d : DataW H} {p : List MemPlace} (ho : Value.okWide Tryz.prog W .any base 46 v) (h : DataW.Trod enc Tryz.prog W 0 (fun _ => true) true 46 v d p) : ∃ op : OpP, v = opV op ∧ op.ok := by
  obtain ⟨cs, rfl, hs⟩ := okWide_struct Tryz.underlying46 ho
  have k6 : (Tryz.prog).cellsOf 46 = 6 := by kernel_rfl
  rw [k6] at hs
  obtain ⟨fuel, hf⟩ := h
  obtain ⟨y, hy, hok⟩ := plain_in hf (by simpa [Value.cells] using hs)
  refine ⟨y, ?_, hok⟩
  have : cs.toList = opL y := hy
  show Value.agg cs = Value.agg (opL y).toArray
  rw [← this]
theorem plains_sl {base : Nat} {v : Value} {d : DataW H} {p : List MemPlace} (ho : Value.okWide Tryz.prog W .any base 25 v) (h : DataW.Trod enc Tryz.prog W 0 (fun _ => true) true 25 v d p) :
    ∃ l : List OpP, SlW W opE v l ∧ ∀ x ∈ l, x.ok := slice_sl (P := Tryz.prog) (E := opE) Tryz.underlying25 (by kernel_rfl) (by decide) ho h OpP.ok (fun fuel cs x hx hl => plain_in hx hl)
theorem kind_v {base : Nat} {v : Value} {d : DataW H} {p : List MemPlace} (ho : Value.okWide Tryz.prog W .any base 24 v) (h : DataW.Trod enc Tryz.prog W 0 (fun _ => true) true 24 v d p) :
    ∃ (vc : Value) (cl : List Int) (q c : Int), v = .agg [vc, .int .i64 q, .int .i64 c].toArray ∧ SlW W iE vc cl ∧ i64ok q ∧ i64ok c := by
  obtain ⟨cs, rfl, hs⟩ := okWide_struct Tryz.underlying24 ho
  have k3 : (Tryz.prog).cellsOf 24 = 3 := by kernel_rfl
  rw [k3] at hs
  obtain ⟨fuel, hf⟩ := h
  obtain ⟨c0, c1, c2, hcs⟩ : ∃ c0 c1 c2, cs = [c0, c1, c2].toArray := by
    obtain ⟨l⟩ := cs
    match l, hs with
    | [c0, c1, c2], _ => exact ⟨c0, c1, c2, rfl⟩
  subst hcs
  obtain ⟨y0, y1, y2, n, _, _, h0, h1, h2⟩ := trod_struct3 Tryz.underlying24 hf
  have ks : (Tryz.prog).cellsOf 22 = 1 := by kernel_rfl
  have ki : (Tryz.prog).cellsOf 3 = 1 := by kernel_rfl
  obtain ⟨a1, e1, -, w1⟩ := DataW.trod_int Tryz.underlying3 (by simpa [ki, Value.cells] using h1)
  obtain ⟨a2, e2, -, w2⟩ := DataW.trod_int Tryz.underlying3 (by simpa [ki, Value.cells] using h2)
  obtain ⟨a, nn, c, ys, e0, hS, _⟩ := slice_tr (P := Tryz.prog) (E := iE) Tryz.underlying22 (by kernel_rfl) (by decide) h0 i64ok (fun fuel cs x hx hl => int_in hx)
  simp [Value.cells, ks] at e0 e1 e2
  subst e0 e1 e2
  exact ⟨_, ys, a1, a2, rfl, hS, wf_i64 w1, wf_i64 w2⟩
end
end Go.Proofs.YthamkgghnjenhaaGreat
namespace Go.Proofs.YthamkgghnjenhaaGreat
open Go.RowKit
set_option linter.unusedVariables false
set_option linter.unusedSimpArgs false
set_option maxRecDepth 10000
theorem SameT_K {w0 : World} {H : Heap} {x : Th} {o1 o2 o3 o4 : Own} (h1 : Sli w0 H iE (oV o1 x.refs.length) x.refs) (h2 : Sli w0 H uE (oV o2 x.words.length) x.words) (h3 : Sli w0 H iE (oV o3 x.refs.length) x.refs) (h4 : Sli w0 H uE (oV o4 x.words.length) x.words) (hl : x.words.length ≤ 1000) :
    Call Tryz.prog w0 37 [tV x o1 o2, tV x o3 o4] H (fun r H' => r = .bool true ∧ H' = H) := by
  have a1 := oV_one o1 x.refs.length
  have a2 := oV_one o2 x.words.length
  have a3 := oV_one o3 x.refs.length
  have a4 := oV_one o4 x.words.length
  unfold tV
  refine Call.enter2 (n := 53) (by kernel_rfl) Tryz.func37 rfl rfl rfl ?_
  refine K.seq ?_
  refine K.region ?_
  (refine KL.e rfl (Eff.box rfl rfl) ?_; rintro _ _ ⟨b2, rfl, rfl⟩)
  (refine KL.e rfl (Eff.box rfl rfl) ?_; rintro _ _ ⟨b3, rfl, rfl⟩)
  (refine KL.v rfl (Val.assign rfl) ?_)
  refine KL.nil ?_
  refine KE.next ?_
  refine K.seq ?_
  refine K.seq ?_
  refine K.region ?_
  (refine KL.v rfl (Val.fieldAddr0 (k := 2) rfl rfl) ?_)
  (refine KL.v rfl (Val.loadP rfl rfl (Sees.cell byTake rfl)) ?_)
  (refine KL.v rfl (Val.fieldAddr0 (k := 2) rfl rfl) ?_)
  (refine KL.v rfl (Val.loadP rfl rfl (Sees.cell byTake rfl)) ?_)
  (refine KL.v rfl (Val.isF (Val.neq rfl rfl) byLt) ?_)
  (refine KL.v rfl (Val.move rfl) ?_)
  (refine KL.yes rfl rfl ?_; refine KL.v rfl (Val.fieldAddr0 (k := 3) rfl rfl) ?_)
  (refine KL.yes rfl rfl ?_; refine KL.v rfl (Val.loadP rfl rfl (Sees.cell byTake rfl)) ?_)
  (refine KL.yes rfl rfl ?_; refine KL.v rfl (Val.fieldAddr0 (k := 3) rfl rfl) ?_)
  (refine KL.yes rfl rfl ?_; refine KL.v rfl (Val.loadP rfl rfl (Sees.cell byTake rfl)) ?_)
  (refine KL.yes rfl rfl ?_; refine KL.v rfl (Val.isF (Val.neq rfl rfl) byLt) ?_)
  (refine KL.v rfl (Val.pickF rfl rfl rfl) ?_)
  (refine KL.v rfl (Val.move rfl) ?_)
  (refine KL.yes rfl rfl ?_; refine KL.v rfl (Val.fieldAddr0 (k := 0) rfl rfl) ?_)
  (refine KL.yes rfl rfl ?_; refine KL.v rfl (Val.loadP rfl rfl (Sees.cell byTake rfl)) ?_)
  (refine KL.yes rfl rfl ?_; refine KL.v rfl (Val.fieldAddr0 (k := 0) rfl rfl) ?_)
  (refine KL.yes rfl rfl ?_; refine KL.v rfl (Val.loadP rfl rfl (Sees.cell byTake rfl)) ?_)
  (refine KL.yes rfl rfl ?_; refine KL.callc rfl rfl byEvL fun T hT => ?_)
  refine (CallV.pure fun w hw => CallV.fn (Same_K (a := x.refs) (b := x.refs) (h1 w (hw.part byPart)) (h3 w (hw.part byPart)))).mono ?_
  rintro _ _ ⟨_, ⟨rfl, rfl⟩, rfl⟩
  rw [decide_eq_true rfl]
  refine hT _ _ ?_; clear hT; clear T
  (refine KL.yes rfl rfl ?_; refine KL.v rfl (Val.notT rfl) ?_)
  (refine KL.v rfl (Val.pickF rfl rfl rfl) ?_)
  (refine KL.v rfl (Val.move rfl) ?_)
  (refine KL.yes rfl rfl ?_; refine KL.v rfl (Val.fieldAddr0 (k := 1) rfl rfl) ?_)
  (refine KL.yes rfl rfl ?_; refine KL.v rfl (Val.loadP rfl rfl (Sees.cell byTake rfl)) ?_)
  (refine KL.yes rfl rfl ?_; refine KL.v rfl (Val.lenSl rfl rfl bySli) ?_)
  (refine KL.yes rfl rfl ?_; refine KL.v rfl (Val.fieldAddr0 (k := 1) rfl rfl) ?_)
  (refine KL.yes rfl rfl ?_; refine KL.v rfl (Val.loadP rfl rfl (Sees.cell byTake rfl)) ?_)
  (refine KL.yes rfl rfl ?_; refine KL.v rfl (Val.lenSl rfl rfl bySli) ?_)
  (refine KL.yes rfl rfl ?_; refine KL.v rfl (Val.isF (Val.neq rfl rfl) byLt) ?_)
  (refine KL.v rfl (Val.pickF rfl rfl rfl) ?_)
  refine KL.nil ?_
  refine KE.next ?_
  refine K.condF rfl ?_
  refine K.skip ?_
  refine KE.next ?_
  refine K.seq ?_
  refine K.seq ?_
  refine K.region ?_
  (refine KL.v rfl (Val.assign rfl) ?_)
  refine KL.nil ?_
  refine KE.next ?_
  refine K.block ?_
  refine K.loopT (σ := Nat) [(2, _), (3, _)] (fun s kp_ => (5, .int .i64 (s : Nat)) :: kp_) (fun s => (b3, cells [oV o3 x.refs.length, oV o4 x.words.length, .int .i64 x.size, .int .i64 x.pins] 63) :: (b2, cells [oV o1 x.refs.length, oV o2 x.words.length, .int .i64 x.size, .int .i64 x.pins] 63) :: H) (fun s => s ≤ x.words.length) (fun s => x.words.length - s) (0) bySub byPart (by simp) ?_
  rintro k hk
  by_cases hlt : k < x.words.length
  · obtain ⟨y, hy⟩ := get_of_lt hlt
    refine K.seq ?_
    refine K.seq ?_
    refine K.region ?_
    (refine KL.v rfl (Val.move rfl) ?_)
    (refine KL.v rfl (Val.fieldAddr0 (k := 1) rfl rfl) ?_)
    (refine KL.v rfl (Val.loadP rfl rfl (Sees.cell byTake rfl)) ?_)
    (refine KL.v rfl (Val.lenSl rfl rfl bySli) ?_)
    (refine KL.v rfl (Val.isT (Val.lss rfl rfl) byLt) ?_)
    refine KL.nil ?_
    refine KE.next ?_
    refine K.condT rfl ?_
    refine K.skip ?_
    refine KE.next ?_
    refine K.seq ?_
    refine K.block ?_
    refine K.seq ?_
    refine K.drawn [] [(0, 0), (1, 0), (2, 0), (3, 0), (4, 0), (5, 0), (6, 0), (7, 0), (8, 0), (9, 0), (10, 0)] (by kernel_rfl) (by kernel_rfl) (by kernel_rfl) (by kernel_rfl) (by kernel_rfl) (by kernel_rfl) Part.nil ?_
    refine KD.v0 rfl rfl (Val.fieldAddr0 (k := 1) rfl rfl) ?_
    refine KD.v0 rfl rfl (Val.loadP rfl rfl (Sees.cell byTake rfl)) ?_
    refine KD.v0 rfl rfl (Val.move rfl) ?_
    refine KD.v0 rfl rfl (Val.idxSl rfl rfl rfl bySli rfl byLt) ?_
    refine KD.v0 rfl rfl (Val.loadP rfl rfl bySee) ?_
    refine KD.v0 rfl rfl (Val.fieldAddr0 (k := 1) rfl rfl) ?_
    refine KD.v0 rfl rfl (Val.loadP rfl rfl (Sees.cell byTake rfl)) ?_
    refine KD.v0 rfl rfl (Val.move rfl) ?_
    refine KD.v0 rfl rfl (Val.idxSl rfl rfl rfl bySli rfl byLt) ?_
    refine KD.v0 rfl rfl (Val.loadP rfl rfl bySee) ?_
    refine KD.v0 rfl rfl (Val.isF (Val.neq rfl rfl) byLt) ?_
    refine KD.nil ?_
    refine KE.next ?_
    refine K.condF rfl ?_
    refine K.skip ?_
    refine KE.blkN ?_
    refine KE.next ?_
    refine K.region ?_
    (refine KL.v rfl (Val.move rfl) ?_)
    (refine KL.v rfl (Val.add rfl rfl (by simp only [Go.Proofs.YthamkgghnjenhaaGreat.lo, Go.Proofs.YthamkgghnjenhaaGreat.hi]; omega)) ?_)
    (refine KL.v rfl (Val.assign rfl) ?_)
    refine KL.nil ?_
    exact KE.again (k + 1) bySub byPart (by omega) (by omega)
  · refine K.seq ?_
    refine K.seq ?_
    refine K.region ?_
    (refine KL.v rfl (Val.move rfl) ?_)
    (refine KL.v rfl (Val.fieldAddr0 (k := 1) rfl rfl) ?_)
    (refine KL.v rfl (Val.loadP rfl rfl (Sees.cell byTake rfl)) ?_)
    (refine KL.v rfl (Val.lenSl rfl rfl bySli) ?_)
    (refine KL.v rfl (Val.isF (Val.lss rfl rfl) byLt) ?_)
    refine KL.nil ?_
    refine KE.next ?_
    refine K.condF rfl ?_
    refine K.exit ?_
    refine KE.passX ?_
    refine KE.passX ?_
    refine KE.blkX ?_
    refine KE.next ?_
    refine K.seq ?_
    refine K.region ?_
    (refine KL.v rfl (Val.assign rfl) ?_)
    refine KL.nil ?_
    refine KE.next ?_
    refine K.ret ?_
    exact KE.fin byMarks rfl byRes byPart ⟨rfl, rfl⟩
theorem first_spec {n : Int} : ∀ {l : List Int} {k : Nat} {x : Int}, l[k]? = some x → (k < firstP n l → x < n) ∧ (k = firstP n l → n ≤ x)
  | [], k, x, h => by simp at h
  | y :: l, 0, x, h => by
    simp at h; subst h
    unfold firstP
    by_cases e : n ≤ y
    · rw [if_pos e]; exact ⟨fun h => by omega, fun _ => e⟩
    · rw [if_neg e]; exact ⟨fun _ => by omega, fun h => by omega⟩
  | y :: l, k + 1, x, h => by
    unfold firstP
    by_cases e : n ≤ y
    · rw [if_pos e]; exact ⟨fun h => by omega, fun h => by omega⟩
    · rw [if_neg e]
      have := first_spec (n := n) (l := l) (k := k) (x := x) (by simpa using h)
      exact ⟨fun h => this.1 (by omega), fun h => this.2 (by omega)⟩
theorem round_first {l : List Int} {n : Int} (hc : classP l = true) (h : (roundP l n).2 = 0) : l[firstP n l]? = some (roundP l n).1 := by
  have hle := first_le n l
  unfold roundP at h ⊢
  split at h
  · rename_i ho
    rw [if_pos ho]
    have hlt : firstP n l < l.length := by
      unfold ofP at ho
      rw [if_pos hc] at ho
      split at ho
      · simp at ho
      · rename_i h2; omega
    obtain ⟨y, hy⟩ := get_of_lt hlt
    rw [hy]; rfl
  · rename_i ho; exact absurd h ho
end Go.Proofs.YthamkgghnjenhaaGreat
namespace Go.Proofs.YthamkgghnjenhaaGreat
open Go.RowKit
set_option linter.unusedVariables false
set_option linter.unusedSimpArgs false

structure Dc where
  cl : List Int
  quota : Int
  caps : Int
  ts : List Th
  hs : List Int
/-- as a store without sweeps -/
def atP {α : Type} (l : List α) (i : Int) : Option α := if 1 ≤ i then l[(i - 1).toNat]? else none
def allS (Q : Dc) : St := ⟨Q.cl, Q.quota, Q.caps, atP Q.ts, fun h => match atP Q.hs h with
  | some i => if i = 0 then none else some i
  | none => none, Q.ts.length, Q.hs.length⟩
theorem at_some {α : Type} {l : List α} {i : Int} {x : α} : atP l i = some x ↔ 1 ≤ i ∧ l[(i - 1).toNat]? = some x := by
  unfold atP
  by_cases h : 1 ≤ i
  · rw [if_pos h]; exact ⟨fun e => ⟨h, e⟩, fun e => e.2⟩
  · rw [if_neg h]; exact ⟨fun e => (by cases e), fun e => absurd e.1 h⟩
theorem at_nat {α : Type} {l : List α} {q : Nat} : atP l ((q : Int) + 1) = l[q]? := by
  unfold atP
  rw [if_pos (by omega), show ((q : Int) + 1 - 1).toNat = q by omega]
theorem all_T {Q : Dc} {i : Int} {x : Th} : (allS Q).T i = some x ↔ 1 ≤ i ∧ Q.ts[(i - 1).toNat]? = some x := at_some
theorem all_H {Q : Dc} {h i : Int} : (allS Q).Hd h = some i ↔ 1 ≤ h ∧ Q.hs[(h - 1).toNat]? = some i ∧ i ≠ 0 := by
  show (match atP Q.hs h with | some i => if i = 0 then none else some i | none => none) = some i ↔ _
  cases e : atP Q.hs h with
  | none =>
    constructor
    · intro h; cases h
    · rintro ⟨h1, h2, h3⟩; rw [at_some.2 ⟨h1, h2⟩] at e; cases e
  | some j =>
    obtain ⟨h1, h2⟩ := at_some.1 e
    dsimp only
    constructor
    · intro h
      split at h
      · cases h
      · rename_i h3; cases h; exact ⟨h1, h2, h3⟩
    · rintro ⟨_, h4, h3⟩
      rw [h2] at h4; cases h4
      rw [if_neg h3]
/-- numbers name what was -/
structure DcOk (Q : Dc) : Prop where
  rf : ∀ x ∈ Q.ts, ∀ r ∈ x.refs, 0 ≤ r ∧ r ≤ Q.ts.length
  hr : ∀ i ∈ Q.hs, 0 ≤ i ∧ i ≤ Q.ts.length
theorem all_nums (Q : Dc) : Nums (allS Q) := by
  refine ⟨fun i x h => ?_, fun h i hh => ?_⟩
  · obtain ⟨h1, h2⟩ := all_T.1 h
    have := lt_of_get h2
    exact ⟨h1, by show i ≤ (Q.ts.length : Nat); omega⟩
  · obtain ⟨h1, h2, _⟩ := all_H.1 hh
    have := lt_of_get h2
    exact ⟨h1, by show h ≤ (Q.hs.length : Nat); omega⟩
theorem all_closed {Q : Dc} (ok : DcOk Q) : Closed (allS Q) := by
  have key : ∀ r : Int, 0 ≤ r → r ≤ Q.ts.length → r ≠ 0 → ((allS Q).T r).isSome := fun r h1 h2 h3 => by
    obtain ⟨x, hx⟩ := get_of_lt (l := Q.ts) (k := (r - 1).toNat) (by omega)
    rw [all_T.2 ⟨by omega, hx⟩]; rfl
  refine ⟨all_nums Q, fun i x r hx hm h0 => ?_, fun h i hh => ?_⟩
  · obtain ⟨h1, h2⟩ := ok.rf x (List.mem_of_getElem? (all_T.1 hx).2) r hm
    exact key r h1 h2 h0
  · obtain ⟨_, h2, h3⟩ := all_H.1 hh
    obtain ⟨g1, g2⟩ := ok.hr i (List.mem_of_getElem? h2)
    exact key i g1 g2 h3

/-! ## what is there -/
def rowsD (Q : Dc) : List (List Int) := Q.ts.map fun x => x.refs.map fun r => r - 1
def pinsD (Q : Dc) (k : Nat) : List Int := ((List.range k).filter fun q => match Q.ts[q]? with
  | some x => decide (0 < x.pins)
  | none => false).map fun (q : Nat) => (q : Int)
def frmD (Q : Dc) : List Int := pinsD Q Q.ts.length ++ Q.hs.map fun i => i - 1
def thereD (Q : Dc) : List Bool := reachP (rowsD Q) (frmD Q)
theorem pinsD_succ {Q : Dc} {k : Nat} {x : Th} (h : Q.ts[k]? = some x) : pinsD Q (k + 1) = pinsD Q k ++ (if 0 < x.pins then [(k : Int)] else []) := by
  unfold pinsD
  rw [List.range_succ, List.filter_append, List.map_append]
  congr 1
  rw [List.filter_cons, h]
  by_cases hp : 0 < x.pins <;> simp [hp]
theorem pinsD_mem {Q : Dc} {z : Int} : z ∈ pinsD Q Q.ts.length ↔ ∃ (q : Nat) (x : Th), Q.ts[q]? = some x ∧ z = q ∧ 0 < x.pins := by
  unfold pinsD
  simp only [List.mem_map, List.mem_filter, List.mem_range]
  constructor
  · rintro ⟨q, ⟨h1, h2⟩, rfl⟩
    obtain ⟨x, hx⟩ := get_of_lt h1
    rw [hx] at h2
    exact ⟨q, x, hx, rfl, by simpa using h2⟩
  · rintro ⟨q, x, hx, rfl, hp⟩
    exact ⟨q, ⟨lt_of_get hx, by rw [hx]; simpa using hp⟩, rfl⟩
theorem rowsD_len (Q : Dc) : (rowsD Q).length = Q.ts.length := by simp [rowsD]
theorem rowsD_row {Q : Dc} {q : Nat} {x : Th} (hx : Q.ts[q]? = some x) : rowP (rowsD Q) (q : Int) = x.refs.map fun r => r - 1 := by
  unfold rowP rowsD
  rw [Int.toNat_natCast, List.getElem?_map, hx]
  rfl
theorem reach_all {Q : Dc} (ok : DcOk Q) {q : Nat} (hq : q < Q.ts.length) : (∃ k, Pth (rowsD Q) (frmD Q) k (q : Int)) ↔ Rch (allS Q) ((q : Int) + 1) := by
  have hC := all_closed ok
  have nd : ∀ {q : Nat}, q < Q.ts.length → Nd (rowsD Q) (q : Int) := fun h => ⟨by omega, by rw [rowsD_len]; omega⟩
  constructor
  · rintro ⟨k, hk⟩
    induction k generalizing q with
    | zero =>
      obtain ⟨hm, _⟩ := Pth.zero.1 hk
      unfold frmD at hm
      rcases List.mem_append.1 hm with h | h
      · obtain ⟨q', x, hx, e, hp⟩ := pinsD_mem.1 h
        have : q' = q := by omega
        subst this
        exact .pin (x := x) (by rw [show (allS Q).T = atP Q.ts from rfl, at_nat]; exact hx) hp
      · obtain ⟨i, hi, e⟩ := List.mem_map.1 h
        obtain ⟨j, hj⟩ := List.getElem?_of_mem hi
        have : i = (q : Int) + 1 := by omega
        subst this
        exact .hand (h := (j : Int) + 1) (all_H.2 ⟨by omega, by rw [show ((j : Int) + 1 - 1).toNat = j by omega]; exact hj, by omega⟩)
    | succ k ih =>
      obtain ⟨y, hy, hn, _, hxy⟩ := Pth.succ.1 hk
      obtain ⟨y', rfl⟩ : ∃ y' : Nat, y = y' := ⟨y.toNat, by have := hn.1; omega⟩
      have hyl : y' < Q.ts.length := by have := hn.2; rw [rowsD_len] at this; omega
      obtain ⟨x, hx⟩ := get_of_lt hyl
      rw [rowsD_row hx] at hxy
      obtain ⟨r, hr, e⟩ := List.mem_map.1 hxy
      have : r = (q : Int) + 1 := by omega
      subst this
      exact .ref (ih hyl hy) (x := x) (by rw [show (allS Q).T = atP Q.ts from rfl, at_nat]; exact hx) hr (by omega)
  · intro hr
    generalize hi : (q : Int) + 1 = i at hr
    induction hr generalizing q with
    | @hand h i h1 =>
      subst hi
      obtain ⟨_, g2, _⟩ := all_H.1 h1
      exact ⟨0, Pth.zero.2 ⟨List.mem_append_right _ (List.mem_map.2 ⟨_, List.mem_of_getElem? g2, by omega⟩), nd hq⟩⟩
    | @pin i x h1 h2 =>
      subst hi
      rw [show (allS Q).T = atP Q.ts from rfl, at_nat] at h1
      exact ⟨0, Pth.zero.2 ⟨List.mem_append_left _ (pinsD_mem.2 ⟨q, x, h1, rfl, h2⟩), nd hq⟩⟩
    | @ref i r x h1 h2 h3 h4 ih =>
      subst hi
      obtain ⟨g1, g2⟩ := all_T.1 h2
      have hil : (i - 1).toNat < Q.ts.length := lt_of_get g2
      obtain ⟨k, hk⟩ := ih hil (by omega)
      refine ⟨k + 1, Pth.succ.2 ⟨_, hk, nd hil, nd hq, ?_⟩⟩
      rw [rowsD_row g2]
      exact List.mem_map.2 ⟨_, h3, by omega⟩
theorem there_len (Q : Dc) : (thereD Q).length = Q.ts.length := by unfold thereD; rw [reach_len, rowsD_len]
theorem there_get {Q : Dc} (ok : DcOk Q) {q : Nat} (hq : q < Q.ts.length) : ∃ b, (thereD Q)[q]? = some b ∧ (b = true ↔ Rch (allS Q) ((q : Int) + 1)) := by
  obtain ⟨b, h1, h2⟩ := reach_get (rows := rowsD Q) (frm := frmD Q) (x := q) (by rw [rowsD_len]; exact hq)
  exact ⟨b, h1, h2.trans (reach_all ok hq)⟩
def objsD (Q : Dc) : List Int := (upTo Q.ts.length).filter fun i => ((thereD Q)[(i - 1).toNat]?).getD false
def liveD (Q : Dc) : List Int := (upTo Q.hs.length).filter fun h => decide (0 < (Q.hs[(h - 1).toNat]?).getD 0)
def szD (Q : Dc) (i : Int) : Int := ((Q.ts[(i - 1).toNat]?).map (·.size)).getD 0
def usedD (Q : Dc) : Int := ((objsD Q).map (szD Q)).sum
def namesD (Q : Dc) (h : Int) : Int := if h < 1 ∨ h > (Q.hs.length : Nat) then 0 else (Q.hs[(h - 1).toNat]?).getD 0
/-! ## the swept store has the same -/
theorem sim_objs {Q : Dc} {S : St} (ok : DcOk Q) (h : Swept (allS Q) S) : objsD Q = objsP S := by
  unfold objsD objsP
  rw [h.made]
  refine List.filter_congr fun i hi => ?_
  obtain ⟨h1, h2⟩ := upTo_mem.1 hi
  have hq : (i - 1).toNat < Q.ts.length := by omega
  obtain ⟨b, hb, hb2⟩ := there_get ok hq
  obtain ⟨x, hx⟩ := get_of_lt hq
  rw [hb]
  rw [show (((i - 1).toNat : Nat) : Int) + 1 = i by omega] at hb2
  have hT := h.T i x
  cases hS : S.T i with
  | none =>
    cases b with
    | false => rfl
    | true => rw [hT.2 ⟨all_T.2 ⟨h1, hx⟩, hb2.1 rfl⟩] at hS; cases hS
  | some y =>
    have := (h.T i y).1 hS
    rw [hb2.2 this.2]; rfl
theorem sim_live {Q : Dc} {S : St} (ok : DcOk Q) (h : Swept (allS Q) S) : liveD Q = handsP S := by
  unfold liveD handsP
  rw [h.minted, h.Hd]
  refine List.filter_congr fun i hi => ?_
  obtain ⟨h1, h2⟩ := upTo_mem.1 hi
  have hq : (i - 1).toNat < Q.hs.length := by
    have : ((allS Q).minted : Int) = (Q.hs.length : Nat) := rfl
    omega
  obtain ⟨z, hz⟩ := get_of_lt hq
  rw [hz]
  have hz0 := (ok.hr z (List.mem_of_getElem? hz)).1
  by_cases e : z = 0
  · have : (allS Q).Hd i = none := by
      cases hh : (allS Q).Hd i with
      | none => rfl
      | some j => obtain ⟨_, g2, g3⟩ := all_H.1 hh; rw [hz] at g2; cases g2; exact absurd e g3
    rw [this, e]; rfl
  · rw [all_H.2 ⟨h1, hz, e⟩]; simp; omega
theorem sim_used {Q : Dc} {S : St} (ok : DcOk Q) (h : Swept (allS Q) S) (hn : Nums S) : usedD Q = usedP S := by
  unfold usedD usedP
  rw [sim_objs ok h]
  congr 1
  refine List.map_congr_left fun i hi => ?_
  obtain ⟨x, hx⟩ := Option.isSome_iff_exists.1 ((objs_mem hn).1 hi)
  have := (all_T.1 ((h.T i x).1 hx).1).2
  unfold szD szP
  rw [hx, this]
theorem sim_names {Q : Dc} {S : St} (ok : DcOk Q) (h : Swept (allS Q) S) (k : Int) : namesD Q k = (S.Hd k).getD 0 := by
  rw [h.Hd]
  unfold namesD
  split
  · rename_i hk
    cases hh : (allS Q).Hd k with
    | none => rfl
    | some j =>
      obtain ⟨g1, g2, _⟩ := all_H.1 hh
      have := lt_of_get g2
      omega
  · rename_i hk
    obtain ⟨z, hz⟩ := get_of_lt (l := Q.hs) (k := (k - 1).toNat) (by omega)
    rw [hz]
    by_cases e : z = 0
    · cases hh : (allS Q).Hd k with
      | none => simp [e]
      | some j => obtain ⟨_, g2, g3⟩ := all_H.1 hh; rw [hz] at g2; cases g2; exact absurd e g3
    · rw [all_H.2 ⟨by omega, hz, e⟩]
/-- what a step keeps: A1 and S1 are the stores behind the step, without sweeps; S' is S1 swept -/
theorem sim_step {A1 S1 S' : St} (hc : S1.cl = A1.cl) (hq : S1.quota = A1.quota) (hp : S1.caps = A1.caps) (hm : S1.made = A1.made) (hi : S1.minted = A1.minted) (hH : S1.Hd = A1.Hd) (hC : Closed S1)
    (sub : ∀ i x, S1.T i = some x → A1.T i = some x) (pins : ∀ i x, A1.T i = some x → 0 < x.pins → (S1.T i).isSome) (h : Swept S1 S') : Swept A1 S' := by
  have there : ∀ i, Rch A1 i → (S1.T i).isSome := fun i hr => by
    induction hr with
    | @hand k i h1 => exact hC.hr k i (by rw [hH]; exact h1)
    | @pin i x h1 h2 => exact pins i x h1 h2
    | @ref i r x h1 h2 h3 h4 ih =>
      obtain ⟨y, hy⟩ := Option.isSome_iff_exists.1 ih
      have := sub i y hy
      rw [h2] at this; cases this
      exact hC.rf i x r hy h3 h4
  have agree : ∀ i x, Rch A1 i → A1.T i = some x → S1.T i = some x := fun i x hr hx => by
    obtain ⟨y, hy⟩ := Option.isSome_iff_exists.1 (there i hr)
    have := sub i y hy
    rw [hx] at this; cases this
    exact hy
  have r1 : ∀ i, Rch A1 i → Rch S1 i := fun i hr => by
    induction hr with
    | @hand k i h1 => exact .hand (by rw [hH]; exact h1)
    | @pin i x h1 h2 => exact .pin (agree i x (.pin h1 h2) h1) h2
    | @ref i r x h1 h2 h3 h4 ih => exact .ref ih (agree i x h1 h2) h3 h4
  have r2 : ∀ i, Rch S1 i → Rch A1 i := fun i hr => by
    induction hr with
    | @hand k i h1 => exact .hand (by rw [← hH]; exact h1)
    | @pin i x h1 h2 => exact .pin (sub i x h1) h2
    | @ref i r x h1 h2 h3 h4 ih => exact .ref ih (sub i x h2) h3 h4
  exact ⟨h.cl.trans hc, h.quota.trans hq, h.caps.trans hp, h.made.trans hm, h.minted.trans hi, h.Hd.trans hH, fun i x => by
    rw [h.T]
    exact ⟨fun ⟨h1, h2⟩ => ⟨sub i x h1, r2 i h2⟩, fun ⟨h1, h2⟩ => ⟨agree i x h2 h1, r1 i h2⟩⟩⟩
theorem swept_self {S : St} (h : ∀ i, (S.T i).isSome → Rch S i) : Swept S S := ⟨rfl, rfl, rfl, rfl, rfl, rfl, fun i x => ⟨fun hx => ⟨hx, h i (by rw [hx]; rfl)⟩, fun hx => hx.1⟩⟩
end Go.Proofs.YthamkgghnjenhaaGreat
namespace Go.Proofs.YthamkgghnjenhaaGreat
open Go.RowKit
set_option linter.unusedVariables false
set_option linter.unusedSimpArgs false
set_option maxRecDepth 10000

theorem fl_kind (n : Nat) : fl n = none ↔ n / 4503599627370496 % 2048 = 2047 ∧ n % 4503599627370496 ≠ 0 := by
  rw [fl_none]; omega
theorem Kind_K {w0 : World} {H : Heap} {n : Nat} (hn : n < 18446744073709551616) :
    Call Tryz.prog w0 72 [.int .u64 n] H (fun r H' => ∃ (k : Int) (b : Bool), (k = 0 ↔ fl n = none) ∧ r = .tuple [.int .u8 k, .bool b].toArray ∧ H' = H) := by
  have hsh : (n : Int).fdiv (2 ^ (min (Int.toNat 52) IntKind.u64.bits)) = ((n / 4503599627370496 : Nat) : Int) := by
    have e : (2 : Int) ^ min (Int.toNat 52) IntKind.u64.bits = 4503599627370496 := by decide
    rw [e, Int.fdiv_eq_ediv_of_nonneg _ (by omega)]; omega
  have hsh0 : 0 ≤ (n : Int).fdiv (2 ^ (min (Int.toNat 52) IntKind.u64.bits)) := by rw [hsh]; omega
  have hk := fl_kind n
  obtain ⟨e, he⟩ : ∃ e : Nat, e = n / 4503599627370496 % 2048 := ⟨_, rfl⟩
  obtain ⟨m, hm⟩ : ∃ m : Nat, m = n % 4503599627370496 := ⟨_, rfl⟩
  have he' : ((n / 4503599627370496 : Nat) : Int) % 2048 = (e : Int) := by omega
  have hm' : (n : Int) % 4503599627370496 = (m : Int) := by omega
  rw [← he, ← hm] at hk
  refine Call.enter1 (n := 32) (by kernel_rfl) Tryz.func72 rfl rfl rfl ?_
  refine K.seq ?_
  refine K.region ?_
  (refine KL.v rfl (Val.assign rfl) ?_)
  (refine KL.v rfl (Val.assign rfl) ?_)
  refine KL.nil ?_
  refine KE.next ?_
  refine K.seq ?_
  refine K.region ?_
  (refine KL.v rfl (Val.move rfl) ?_)
  (refine KL.v rfl (Val.shr rfl rfl (by omega)) ?_)
  (refine KL.v rfl (Val.eql rfl rfl) ?_)
  (refine KL.v rfl (Val.assign rfl) ?_)
  refine KL.nil ?_
  refine KE.next ?_
  refine K.seq ?_
  refine K.region ?_
  (refine KL.v rfl (Val.move rfl) ?_)
  (refine KL.v rfl (Val.shr rfl rfl (by omega)) ?_)
  (refine KL.v rfl (Val.remN rfl rfl (by omega)) ?_)
  (refine KL.v rfl (Val.move rfl) ?_)
  (refine KL.v rfl (Val.remN rfl rfl (by omega)) ?_)
  (refine KL.v rfl (Val.assign rfl) ?_)
  (refine KL.v rfl (Val.assign rfl) ?_)
  refine KL.nil ?_
  refine KE.next ?_
  rw [hsh, he', hm']
  by_cases h1 : (e : Int) = 2047
  · by_cases h2 : (m : Int) = 0
    · have h2' : ¬ (m : Int) ≠ 0 := by omega
      refine K.seq ?_
      refine K.seq ?_
      refine K.region ?_
      (refine KL.v rfl (Val.move rfl) ?_)
      (refine KL.v rfl (Val.isT (Val.eql rfl rfl) byLt) ?_)
      (refine KL.v rfl (Val.move rfl) ?_)
      (refine KL.yes rfl rfl ?_; refine KL.v rfl (Val.move rfl) ?_)
      (refine KL.yes rfl rfl ?_; refine KL.v rfl (Val.isF (Val.neq rfl rfl) byLt) ?_)
      (refine KL.v rfl (Val.pickT rfl rfl rfl) ?_)
      refine KL.nil ?_
      refine KE.next ?_
      refine K.condF rfl ?_
      refine K.skip ?_
      refine KE.next ?_
      refine K.seq ?_
      refine K.seq ?_
      refine K.region ?_
      (refine KL.v rfl (Val.move rfl) ?_)
      (refine KL.v rfl (Val.isT (Val.eql rfl rfl) byLt) ?_)
      refine KL.nil ?_
      refine KE.next ?_
      refine K.condT rfl ?_
      refine K.seq ?_
      refine K.region ?_
      (refine KL.v rfl (Val.move rfl) ?_)
      (refine KL.v rfl (Val.assign rfl) ?_)
      (refine KL.v rfl (Val.assign rfl) ?_)
      refine KL.nil ?_
      refine KE.next ?_
      refine K.ret ?_
      refine KE.passR ?_
      exact KE.fin byMarks rfl byRes byPart ⟨1, _, ⟨fun h => by omega, fun h => by have := (hk.1 h).2; omega⟩, rfl, rfl⟩
    · have h2' : (m : Int) ≠ 0 := h2
      refine K.seq ?_
      refine K.seq ?_
      refine K.region ?_
      (refine KL.v rfl (Val.move rfl) ?_)
      (refine KL.v rfl (Val.isT (Val.eql rfl rfl) byLt) ?_)
      (refine KL.v rfl (Val.move rfl) ?_)
      (refine KL.yes rfl rfl ?_; refine KL.v rfl (Val.move rfl) ?_)
      (refine KL.yes rfl rfl ?_; refine KL.v rfl (Val.isT (Val.neq rfl rfl) byLt) ?_)
      (refine KL.v rfl (Val.pickT rfl rfl rfl) ?_)
      refine KL.nil ?_
      refine KE.next ?_
      refine K.condT rfl ?_
      refine K.seq ?_
      refine K.region ?_
      (refine KL.v rfl (Val.move rfl) ?_)
      (refine KL.v rfl (Val.assign rfl) ?_)
      (refine KL.v rfl (Val.assign rfl) ?_)
      refine KL.nil ?_
      refine KE.next ?_
      refine K.ret ?_
      refine KE.passR ?_
      exact KE.fin byMarks rfl byRes byPart ⟨0, _, ⟨fun _ => hk.2 ⟨by omega, by omega⟩, fun _ => rfl⟩, rfl, rfl⟩
  · have hnn : fl n ≠ none := fun h => by have := (hk.1 h).1; omega
    by_cases h3 : (e : Int) ≠ 0
    · refine K.seq ?_
      refine K.seq ?_
      refine K.region ?_
      (refine KL.v rfl (Val.move rfl) ?_)
      (refine KL.v rfl (Val.isF (Val.eql rfl rfl) byLt) ?_)
      (refine KL.v rfl (Val.move rfl) ?_)
      refine KL.skipG rfl rfl rfl ?_
      refine KL.skipG rfl rfl rfl ?_
      (refine KL.v rfl (Val.pickF rfl rfl rfl) ?_)
      refine KL.nil ?_
      refine KE.next ?_
      refine K.condF rfl ?_
      refine K.skip ?_
      refine KE.next ?_
      refine K.seq ?_
      refine K.seq ?_
      refine K.region ?_
      (refine KL.v rfl (Val.move rfl) ?_)
      (refine KL.v rfl (Val.isF (Val.eql rfl rfl) byLt) ?_)
      refine KL.nil ?_
      refine KE.next ?_
      refine K.condF rfl ?_
      refine K.skip ?_
      refine KE.next ?_
      refine K.seq ?_
      refine K.seq ?_
      refine K.region ?_
      (refine KL.v rfl (Val.move rfl) ?_)
      (refine KL.v rfl (Val.isT (Val.neq rfl rfl) byLt) ?_)
      refine KL.nil ?_
      refine KE.next ?_
      refine K.condT rfl ?_
      refine K.seq ?_
      refine K.region ?_
      (refine KL.v rfl (Val.move rfl) ?_)
      (refine KL.v rfl (Val.assign rfl) ?_)
      (refine KL.v rfl (Val.assign rfl) ?_)
      refine KL.nil ?_
      refine KE.next ?_
      refine K.ret ?_
      refine KE.passR ?_
      exact KE.fin byMarks rfl byRes byPart ⟨2, _, ⟨fun h => by omega, fun h => absurd h hnn⟩, rfl, rfl⟩
    · by_cases h4 : (m : Int) ≠ 0
      · refine K.seq ?_
        refine K.seq ?_
        refine K.region ?_
        (refine KL.v rfl (Val.move rfl) ?_)
        (refine KL.v rfl (Val.isF (Val.eql rfl rfl) byLt) ?_)
        (refine KL.v rfl (Val.move rfl) ?_)
        refine KL.skipG rfl rfl rfl ?_
        refine KL.skipG rfl rfl rfl ?_
        (refine KL.v rfl (Val.pickF rfl rfl rfl) ?_)
        refine KL.nil ?_
        refine KE.next ?_
        refine K.condF rfl ?_
        refine K.skip ?_
        refine KE.next ?_
        refine K.seq ?_
        refine K.seq ?_
        refine K.region ?_
        (refine KL.v rfl (Val.move rfl) ?_)
        (refine KL.v rfl (Val.isF (Val.eql rfl rfl) byLt) ?_)
        refine KL.nil ?_
        refine KE.next ?_
        refine K.condF rfl ?_
        refine K.skip ?_
        refine KE.next ?_
        refine K.seq ?_
        refine K.seq ?_
        refine K.region ?_
        (refine KL.v rfl (Val.move rfl) ?_)
        (refine KL.v rfl (Val.isF (Val.neq rfl rfl) byLt) ?_)
        refine KL.nil ?_
        refine KE.next ?_
        refine K.condF rfl ?_
        refine K.skip ?_
        refine KE.next ?_
        refine K.seq ?_
        refine K.seq ?_
        refine K.region ?_
        (refine KL.v rfl (Val.move rfl) ?_)
        (refine KL.v rfl (Val.isT (Val.neq rfl rfl) byLt) ?_)
        refine KL.nil ?_
        refine KE.next ?_
        refine K.condT rfl ?_
        refine K.seq ?_
        refine K.region ?_
        (refine KL.v rfl (Val.move rfl) ?_)
        (refine KL.v rfl (Val.assign rfl) ?_)
        (refine KL.v rfl (Val.assign rfl) ?_)
        refine KL.nil ?_
        refine KE.next ?_
        refine K.ret ?_
        refine KE.passR ?_
        exact KE.fin byMarks rfl byRes byPart ⟨3, _, ⟨fun h => by omega, fun h => absurd h hnn⟩, rfl, rfl⟩
      · refine K.seq ?_
        refine K.seq ?_
        refine K.region ?_
        (refine KL.v rfl (Val.move rfl) ?_)
        (refine KL.v rfl (Val.isF (Val.eql rfl rfl) byLt) ?_)
        (refine KL.v rfl (Val.move rfl) ?_)
        refine KL.skipG rfl rfl rfl ?_
        refine KL.skipG rfl rfl rfl ?_
        (refine KL.v rfl (Val.pickF rfl rfl rfl) ?_)
        refine KL.nil ?_
        refine KE.next ?_
        refine K.condF rfl ?_
        refine K.skip ?_
        refine KE.next ?_
        refine K.seq ?_
        refine K.seq ?_
        refine K.region ?_
        (refine KL.v rfl (Val.move rfl) ?_)
        (refine KL.v rfl (Val.isF (Val.eql rfl rfl) byLt) ?_)
        refine KL.nil ?_
        refine KE.next ?_
        refine K.condF rfl ?_
        refine K.skip ?_
        refine KE.next ?_
        refine K.seq ?_
        refine K.seq ?_
        refine K.region ?_
        (refine KL.v rfl (Val.move rfl) ?_)
        (refine KL.v rfl (Val.isF (Val.neq rfl rfl) byLt) ?_)
        refine KL.nil ?_
        refine KE.next ?_
        refine K.condF rfl ?_
        refine K.skip ?_
        refine KE.next ?_
        refine K.seq ?_
        refine K.seq ?_
        refine K.region ?_
        (refine KL.v rfl (Val.move rfl) ?_)
        (refine KL.v rfl (Val.isF (Val.neq rfl rfl) byLt) ?_)
        refine KL.nil ?_
        refine KE.next ?_
        refine K.condF rfl ?_
        refine K.skip ?_
        refine KE.next ?_
        refine K.seq ?_
        refine K.region ?_
        (refine KL.v rfl (Val.move rfl) ?_)
        (refine KL.v rfl (Val.assign rfl) ?_)
        (refine KL.v rfl (Val.assign rfl) ?_)
        refine KL.nil ?_
        refine KE.next ?_
        refine K.ret ?_
        exact KE.fin byMarks rfl byRes byPart ⟨4, _, ⟨fun h => by omega, fun h => absurd h hnn⟩, rfl, rfl⟩
theorem nan_K {w0 : World} {H : Heap} {n : Nat} (hn : n < 18446744073709551616) :
    Call Tryz.prog w0 59 [.int .u64 n] H (fun r H' => r = .bool (fl n).isNone ∧ H' = H) := by
  refine Call.enter1 (n := 12) (by kernel_rfl) Tryz.func59 rfl rfl rfl ?_
  refine K.seq ?_
  refine K.region ?_
  (refine KL.v rfl (Val.assign rfl) ?_)
  refine KL.nil ?_
  refine KE.next ?_
  refine K.seq ?_
  refine K.region ?_
  (refine KL.v rfl (Val.move rfl) ?_)
  (refine KL.callc rfl rfl byEvL fun T hT => ?_)
  refine (CallV.fn (Kind_K hn)).mono ?_
  rintro _ _ ⟨k, b, hk, rfl, rfl⟩
  by_cases h0 : k = 0
  · have : (fl n).isNone = true := by rw [hk.1 h0]; rfl
    refine hT _ _ ?_; clear hT; clear T
    (refine KL.v rfl (Val.move rfl) ?_)
    (refine KL.v rfl (Val.extract rfl rfl) ?_)
    (refine KL.v rfl (Val.extract rfl rfl) ?_)
    (refine KL.v rfl (Val.assign rfl) ?_)
    (refine KL.v rfl (Val.assign rfl) ?_)
    refine KL.nil ?_
    refine KE.next ?_
    refine K.seq ?_
    refine K.region ?_
    (refine KL.v rfl (Val.move rfl) ?_)
    (refine KL.v rfl (Val.isT (Val.eql rfl rfl) byLt) ?_)
    (refine KL.v rfl (Val.assign rfl) ?_)
    refine KL.nil ?_
    refine KE.next ?_
    refine K.ret ?_
    exact KE.fin byMarks rfl byRes byPart ⟨by rw [this]; rfl, rfl⟩
  · have : (fl n).isNone = false := by
      cases h : fl n with
      | none => exact absurd (hk.2 h) h0
      | some c => rfl
    refine hT _ _ ?_; clear hT; clear T
    (refine KL.v rfl (Val.move rfl) ?_)
    (refine KL.v rfl (Val.extract rfl rfl) ?_)
    (refine KL.v rfl (Val.extract rfl rfl) ?_)
    (refine KL.v rfl (Val.assign rfl) ?_)
    (refine KL.v rfl (Val.assign rfl) ?_)
    refine KL.nil ?_
    refine KE.next ?_
    refine K.seq ?_
    refine K.region ?_
    (refine KL.v rfl (Val.move rfl) ?_)
    (refine KL.v rfl (Val.isF (Val.eql rfl rfl) byLt) ?_)
    (refine KL.v rfl (Val.assign rfl) ?_)
    refine KL.nil ?_
    refine KE.next ?_
    refine K.ret ?_
    exact KE.fin byMarks rfl byRes byPart ⟨by rw [this]; rfl, rfl⟩
theorem RCanon_K {w0 : World} {H : Heap} {n : Nat} (hn : n < 18446744073709551616) :
    Call Tryz.prog w0 45 [.int .u64 n] H (fun r H' => r = .int .u64 (canonN (fl n)) ∧ H' = H) := by
  refine Call.enter1 (n := 6) (by kernel_rfl) Tryz.func45 rfl rfl rfl ?_
  refine K.seq ?_
  refine K.region ?_
  (refine KL.v rfl (Val.assign rfl) ?_)
  refine KL.nil ?_
  refine KE.next ?_
  refine K.seq ?_
  refine K.seq ?_
  refine K.region ?_
  (refine KL.v rfl (Val.move rfl) ?_)
  (refine KL.callc rfl rfl byEvL fun T hT => ?_)
  refine (CallV.fn (nan_K hn)).mono ?_
  rintro _ _ ⟨rfl, rfl⟩
  cases hf : fl n with
  | none =>
    refine hT _ _ ?_; clear hT; clear T
    refine KL.nil ?_
    refine KE.next ?_
    refine K.condT rfl ?_
    refine K.seq ?_
    refine K.region ?_
    (refine KL.v rfl (Val.assign rfl) ?_)
    refine KL.nil ?_
    refine KE.next ?_
    refine K.ret ?_
    refine KE.passR ?_
    exact KE.fin byMarks rfl byRes byPart ⟨by rw [hf]; rfl, rfl⟩
  | some c =>
    have hc := fl_some hf
    subst hc
    refine hT _ _ ?_; clear hT; clear T
    refine KL.nil ?_
    refine KE.next ?_
    refine K.condF rfl ?_
    refine K.skip ?_
    refine KE.next ?_
    refine K.seq ?_
    refine K.region ?_
    (refine KL.v rfl (Val.move rfl) ?_)
    (refine KL.v rfl (Val.assign rfl) ?_)
    refine KL.nil ?_
    refine KE.next ?_
    refine K.ret ?_
    exact KE.fin byMarks rfl byRes byPart ⟨by rw [hf]; rfl, rfl⟩
structure RSuS where
  k : Nat
  r : Nat
theorem RSum_K {w0 : World} {H : Heap} {v : Value} {l : List Int} (hS : Sli w0 H uE v l) (hl : l.length ≤ 1000000) (hb : ∀ x ∈ l, 0 ≤ x ∧ x < 18446744073709551616) :
    Call Tryz.prog w0 27 [v] H (fun r H' => r = .int .u64 (sumP l) ∧ H' = H) := by
  refine Call.enter1 (n := 28) (by kernel_rfl) Tryz.func27 rfl rfl rfl ?_
  cases l with
  | nil =>
    have h0 : ((List.length ([] : List Int) : Nat) : Int) = 0 := rfl
    refine K.seq ?_
    refine K.region ?_
    (refine KL.v rfl (Val.assign rfl) ?_)
    refine KL.nil ?_
    refine KE.next ?_
    refine K.seq ?_
    refine K.seq ?_
    refine K.region ?_
    (refine KL.v rfl (Val.move rfl) ?_)
    (refine KL.v rfl (Val.lenSl rfl rfl bySli) ?_)
    (refine KL.v rfl (Val.isT (Val.eql rfl rfl) byLt) ?_)
    refine KL.nil ?_
    refine KE.next ?_
    refine K.condT rfl ?_
    refine K.seq ?_
    refine K.region ?_
    (refine KL.v rfl (Val.assign rfl) ?_)
    refine KL.nil ?_
    refine KE.next ?_
    refine K.ret ?_
    refine KE.passR ?_
    exact KE.fin byMarks rfl byRes byPart ⟨rfl, rfl⟩
  | cons x l =>
    have hx : (x :: l)[0]? = some x := rfl
    have hx0 : (x :: l)[Int.toNat 0]? = some x := rfl
    have hne : ¬ (((x :: l).length : Nat) : Int) = 0 := by simp only [List.length_cons]; omega
    have hl' : l.length ≤ 1000000 := by simp only [List.length_cons] at hl; omega
    have hxb := hb x (.head _)
    refine K.seq ?_
    refine K.region ?_
    (refine KL.v rfl (Val.assign rfl) ?_)
    refine KL.nil ?_
    refine KE.next ?_
    refine K.seq ?_
    refine K.seq ?_
    refine K.region ?_
    (refine KL.v rfl (Val.move rfl) ?_)
    (refine KL.v rfl (Val.lenSl rfl rfl bySli) ?_)
    (refine KL.v rfl (Val.isF (Val.eql rfl rfl) byLt) ?_)
    refine KL.nil ?_
    refine KE.next ?_
    refine K.condF rfl ?_
    refine K.skip ?_
    refine KE.next ?_
    refine K.seq ?_
    refine K.region ?_
    (refine KL.v rfl (Val.move rfl) ?_)
    (refine KL.v rfl (Val.idxSlZ rfl rfl rfl bySli rfl (by omega)) ?_)
    (refine KL.v rfl (Val.loadP rfl rfl bySee) ?_)
    (refine KL.callc rfl rfl byEvL fun T hT => ?_)
    refine (frombits_V x).mono ?_
    rintro _ H ⟨rfl, rfl⟩
    refine hT _ _ ?_; clear hT; clear T
    (refine KL.v rfl (Val.assign rfl) ?_)
    refine KL.nil ?_
    refine KE.next ?_
    refine K.seq ?_
    refine K.seq ?_
    refine K.region ?_
    (refine KL.v rfl (Val.assign rfl) ?_)
    refine KL.nil ?_
    refine KE.next ?_
    refine K.block ?_
    refine K.loopT (σ := RSuS) [(0, _)] (fun s kp_ => (4, .int .i64 (s.k : Nat)) :: (3, .float .f64 s.r) :: kp_) (fun s => H) (fun s => 1 ≤ s.k ∧ s.k ≤ (x :: l).length ∧ s.r < 18446744073709551616 ∧ fl s.r = (l.take (s.k - 1)).foldl (fun a w => addF a (fl w.toNat)) (fl x.toNat)) (fun s => (x :: l).length - s.k) (⟨1, x.toNat⟩) bySub byPart (⟨by simp, by simp, by dsimp only; omega, by simp⟩) ?_
    rintro ⟨k, r⟩ ⟨hk1, hk, hrb, hr⟩
    dsimp only at hk1 hk hrb hr ⊢
    by_cases hlt : k < (x :: l).length
    · obtain ⟨y, hy⟩ := get_of_lt hlt
      have hy2 : l[k - 1]? = some y := by rw [show k = (k - 1) + 1 by omega] at hy; simpa using hy
      refine K.seq ?_
      refine K.seq ?_
      refine K.region ?_
      (refine KL.v rfl (Val.move rfl) ?_)
      (refine KL.v rfl (Val.move rfl) ?_)
      (refine KL.v rfl (Val.lenSl rfl rfl bySli) ?_)
      (refine KL.v rfl (Val.isT (Val.lss rfl rfl) byLt) ?_)
      refine KL.nil ?_
      refine KE.next ?_
      refine K.condT rfl ?_
      refine K.skip ?_
      refine KE.next ?_
      refine K.seq ?_
      refine K.block ?_
      refine K.region ?_
      (refine KL.v rfl (Val.move rfl) ?_)
      (refine KL.v rfl (Val.move rfl) ?_)
      (refine KL.v rfl (Val.move rfl) ?_)
      (refine KL.v rfl (Val.idxSl rfl rfl rfl bySli rfl byLt) ?_)
      (refine KL.v rfl (Val.loadP rfl rfl bySee) ?_)
      (refine KL.callc rfl rfl byEvL fun T hT => ?_)
      refine (frombits_V y).mono ?_
      rintro _ H ⟨rfl, rfl⟩
      refine hT _ _ ?_; clear hT; clear T
      (refine KL.e rfl (Eff.fadd rfl rfl) ?_; rintro _ _ ⟨f24, fb24, fe24, rfl, rfl⟩)
      (refine KL.v rfl (Val.assign rfl) ?_)
      refine KL.nil ?_
      refine KE.blkN ?_
      refine KE.next ?_
      refine K.region ?_
      (refine KL.v rfl (Val.move rfl) ?_)
      (refine KL.v rfl (Val.add rfl rfl (by simp only [Go.Proofs.YthamkgghnjenhaaGreat.lo, Go.Proofs.YthamkgghnjenhaaGreat.hi]; omega)) ?_)
      (refine KL.v rfl (Val.assign rfl) ?_)
      refine KL.nil ?_
      exact KE.again ⟨k + 1, f24⟩ bySub byPart ⟨by show 1 ≤ k + 1; omega, by show k + 1 ≤ _; omega, fb24, by show fl f24 = (l.take (k + 1 - 1)).foldl _ _; rw [fe24, hr, show k + 1 - 1 = (k - 1) + 1 by omega, take_snoc hy2, List.foldl_append]; rfl⟩ (by show (x :: l).length - (k + 1) < (x :: l).length - k; omega)
    · have hkl : l.take (k - 1) = l := List.take_of_length_le (by simp only [List.length_cons] at hlt; omega)
      rw [hkl] at hr
      refine K.seq ?_
      refine K.seq ?_
      refine K.region ?_
      (refine KL.v rfl (Val.move rfl) ?_)
      (refine KL.v rfl (Val.move rfl) ?_)
      (refine KL.v rfl (Val.lenSl rfl rfl bySli) ?_)
      (refine KL.v rfl (Val.isF (Val.lss rfl rfl) byLt) ?_)
      refine KL.nil ?_
      refine KE.next ?_
      refine K.condF rfl ?_
      refine K.exit ?_
      refine KE.passX ?_
      refine KE.passX ?_
      refine KE.blkX ?_
      refine KE.next ?_
      refine K.seq ?_
      refine K.region ?_
      (refine KL.v rfl (Val.move rfl) ?_)
      (refine KL.callc rfl rfl byEvL fun T hT => ?_)
      refine (bits_V r).mono ?_
      rintro _ H ⟨rfl, rfl⟩
      refine hT _ _ ?_; clear hT; clear T
      (refine KL.callc rfl rfl byEvL fun T hT => ?_)
      refine (CallV.fn (RCanon_K hrb)).mono ?_
      rintro _ H ⟨rfl, rfl⟩
      refine hT _ _ ?_; clear hT; clear T
      (refine KL.v rfl (Val.assign rfl) ?_)
      refine KL.nil ?_
      refine KE.next ?_
      refine K.ret ?_
      exact KE.fin byMarks rfl byRes byPart ⟨by rw [hr]; rfl, rfl⟩
end Go.Proofs.YthamkgghnjenhaaGreat
namespace Go.Proofs.YthamkgghnjenhaaGreat
open Go.RowKit
set_option linter.unusedVariables false
set_option linter.unusedSimpArgs false
set_option maxRecDepth 10000

/-- an object of the document's store, as it lies in a list -/
structure TV where
  r : SV
  w : SV
  x : Th
def thE : Enc TV := ⟨fun t => [.slice t.r.a t.r.n t.r.c, .slice t.w.a t.w.n t.w.c, .int .i64 t.x.size, .int .i64 t.x.pins], 4, fun _ => rfl, by
  intro x v hv
  simp only [List.mem_cons, List.not_mem_nil, or_false] at hv
  rcases hv with rfl | rfl | rfl | rfl <;> rfl⟩
structure DV where
  vc : Value
  vt : Value
  vh : Value
  T : List TV
structure DocR (w : World) (d : DV) (Q : Dc) : Prop where
  c : SlW w iE d.vc Q.cl
  t : SlW w thE d.vt d.T
  x : d.T.map (·.x) = Q.ts
  r : ∀ t ∈ d.T, SlW w iE (.slice t.r.a t.r.n t.r.c) t.x.refs
  u : ∀ t ∈ d.T, SlW w uE (.slice t.w.a t.w.n t.w.c) t.x.words
  h : SlW w iE d.vh Q.hs
def docV (d : DV) (Q : Dc) : Value := .agg [d.vc, .int .i64 Q.quota, .int .i64 Q.caps, d.vt, d.vh].toArray
theorem DocR.only {w w' : World} {d : DV} {Q : Dc} (h : DocR w d Q) (ho : Only [] w w') : DocR w' d Q :=
  ⟨h.c.only ho, h.t.only ho, h.x, fun t ht => (h.r t ht).only ho, fun t ht => (h.u t ht).only ho, h.h.only ho⟩
theorem DocR.len {w : World} {d : DV} {Q : Dc} (h : DocR w d Q) : d.T.length = Q.ts.length := by rw [← h.x, List.length_map]
theorem DocR.get {w : World} {d : DV} {Q : Dc} (h : DocR w d Q) {i : Nat} {t : TV} (ht : d.T[i]? = some t) : Q.ts[i]? = some t.x := by rw [← h.x, List.getElem?_map, ht]; rfl
/-- what the store is, in bounds -/
structure DcB (Q : Dc) : Prop where
  ok : DcOk Q
  ts : Q.ts.length ≤ 100
  hs : Q.hs.length ≤ 100
  x : ∀ x ∈ Q.ts, ThOk x
  cl : classP Q.cl = true
  quota : 0 ≤ Q.quota ∧ Q.quota ≤ 4096
  caps : 0 ≤ Q.caps ∧ Q.caps ≤ 1024

theorem said_K {w0 : World} {H : Heap} {e : Int} : Call Tryz.prog w0 23 [.int .i64 e] H (fun r H' => r = sdV ⟨e, 0, 0⟩ ∧ H' = H) := by
  refine Call.enter1 (n := 5) (by kernel_rfl) Tryz.func23 rfl rfl rfl ?_
  refine K.seq ?_
  refine K.region ?_
  (refine KL.e rfl (Eff.alloc rfl) ?_; rintro _ _ ⟨b2, rfl, rfl⟩)
  refine KL.nil ?_
  refine KE.next ?_
  refine K.seq ?_
  refine K.region ?_
  (refine KL.v rfl (Val.move rfl) ?_)
  (refine KL.v rfl (Val.build byParts rfl rfl byFill) ?_)
  (refine KL.eN (Eff.storeAL rfl rfl rfl byTake byLay byOnes) ?_; rintro _ _ rfl)
  refine KL.nil ?_
  refine KE.next ?_
  refine K.ret ?_
  exact KE.fin byMarks rfl byRes byPart ⟨rfl, rfl⟩
theorem RNames_K {w0 : World} {H : Heap} {d : DV} {Q : Dc} {h : Int} (hD : DocR w0 d Q) (hB : DcB Q) : Call Tryz.prog w0 24 [docV d Q, .int .i64 h] H (fun r H' => r = .int .i64 (namesD Q h) ∧ H' = H) := by
  have a1 := hD.c.one
  have a2 := hD.t.one
  have a3 := hD.h.one
  have hh := hD.h
  have hl := hB.hs
  unfold docV
  refine Call.enter2 (n := 21) (by kernel_rfl) Tryz.func24 rfl rfl rfl ?_
  by_cases h1 : h < 1
  · have hn : namesD Q h = 0 := by unfold namesD; rw [if_pos (.inl h1)]
    refine K.seq ?_
    refine K.region ?_
    (refine KL.e rfl (Eff.box rfl rfl) ?_; rintro _ _ ⟨b2, rfl, rfl⟩)
    (refine KL.v rfl (Val.assign rfl) ?_)
    refine KL.nil ?_
    refine KE.next ?_
    refine K.seq ?_
    refine K.seq ?_
    refine K.region ?_
    (refine KL.v rfl (Val.move rfl) ?_)
    (refine KL.v rfl (Val.isT (Val.lss rfl rfl) byLt) ?_)
    (refine KL.v rfl (Val.move rfl) ?_)
    refine KL.skipG rfl rfl rfl ?_
    refine KL.skipG rfl rfl rfl ?_
    refine KL.skipG rfl rfl rfl ?_
    refine KL.skipG rfl rfl rfl ?_
    refine KL.skipG rfl rfl rfl ?_
    (refine KL.v rfl (Val.pickT rfl rfl rfl) ?_)
    refine KL.nil ?_
    refine KE.next ?_
    refine K.condT rfl ?_
    refine K.seq ?_
    refine K.region ?_
    (refine KL.v rfl (Val.assign rfl) ?_)
    refine KL.nil ?_
    refine KE.next ?_
    refine K.ret ?_
    refine KE.passR ?_
    exact KE.fin byMarks rfl byRes byPart ⟨by rw [hn]; rfl, rfl⟩
  · by_cases h2 : h > (Q.hs.length : Nat)
    · have hn : namesD Q h = 0 := by unfold namesD; rw [if_pos (.inr h2)]
      refine K.seq ?_
      refine K.region ?_
      (refine KL.e rfl (Eff.box rfl rfl) ?_; rintro _ _ ⟨b2, rfl, rfl⟩)
      (refine KL.v rfl (Val.assign rfl) ?_)
      refine KL.nil ?_
      refine KE.next ?_
      refine K.seq ?_
      refine K.seq ?_
      refine K.region ?_
      (refine KL.v rfl (Val.move rfl) ?_)
      (refine KL.v rfl (Val.isF (Val.lss rfl rfl) byLt) ?_)
      (refine KL.v rfl (Val.move rfl) ?_)
      (refine KL.yes rfl rfl ?_; refine KL.v rfl (Val.move rfl) ?_)
      (refine KL.yes rfl rfl ?_; refine KL.v rfl (Val.fieldAddr0 (k := 4) rfl rfl) ?_)
      (refine KL.yes rfl rfl ?_; refine KL.v rfl (Val.loadP rfl rfl (Sees.cell byTake rfl)) ?_)
      (refine KL.yes rfl rfl ?_; refine KL.v rfl (Val.lenSl rfl rfl bySli) ?_)
      (refine KL.yes rfl rfl ?_; refine KL.v rfl (Val.isT (Val.gtr rfl rfl) byLt) ?_)
      (refine KL.v rfl (Val.pickF rfl rfl rfl) ?_)
      refine KL.nil ?_
      refine KE.next ?_
      refine K.condT rfl ?_
      refine K.seq ?_
      refine K.region ?_
      (refine KL.v rfl (Val.assign rfl) ?_)
      refine KL.nil ?_
      refine KE.next ?_
      refine K.ret ?_
      refine KE.passR ?_
      exact KE.fin byMarks rfl byRes byPart ⟨by rw [hn]; rfl, rfl⟩
    · obtain ⟨z, hz⟩ := get_of_lt (l := Q.hs) (k := (h - 1).toNat) (by omega)
      have hn : namesD Q h = z := by unfold namesD; rw [if_neg (by omega), hz]; rfl
      refine K.seq ?_
      refine K.region ?_
      (refine KL.e rfl (Eff.box rfl rfl) ?_; rintro _ _ ⟨b2, rfl, rfl⟩)
      (refine KL.v rfl (Val.assign rfl) ?_)
      refine KL.nil ?_
      refine KE.next ?_
      refine K.seq ?_
      refine K.seq ?_
      refine K.region ?_
      (refine KL.v rfl (Val.move rfl) ?_)
      (refine KL.v rfl (Val.isF (Val.lss rfl rfl) byLt) ?_)
      (refine KL.v rfl (Val.move rfl) ?_)
      (refine KL.yes rfl rfl ?_; refine KL.v rfl (Val.move rfl) ?_)
      (refine KL.yes rfl rfl ?_; refine KL.v rfl (Val.fieldAddr0 (k := 4) rfl rfl) ?_)
      (refine KL.yes rfl rfl ?_; refine KL.v rfl (Val.loadP rfl rfl (Sees.cell byTake rfl)) ?_)
      (refine KL.yes rfl rfl ?_; refine KL.v rfl (Val.lenSl rfl rfl bySli) ?_)
      (refine KL.yes rfl rfl ?_; refine KL.v rfl (Val.isF (Val.gtr rfl rfl) byLt) ?_)
      (refine KL.v rfl (Val.pickF rfl rfl rfl) ?_)
      refine KL.nil ?_
      refine KE.next ?_
      refine K.condF rfl ?_
      refine K.skip ?_
      refine KE.next ?_
      refine K.seq ?_
      refine K.region ?_
      (refine KL.v rfl (Val.fieldAddr0 (k := 4) rfl rfl) ?_)
      (refine KL.v rfl (Val.loadP rfl rfl (Sees.cell byTake rfl)) ?_)
      (refine KL.v rfl (Val.move rfl) ?_)
      (refine KL.v rfl (Val.sub rfl rfl (by simp only [Go.Proofs.YthamkgghnjenhaaGreat.lo, Go.Proofs.YthamkgghnjenhaaGreat.hi]; omega)) ?_)
      (refine KL.v rfl (Val.idxSlZ rfl rfl rfl bySli rfl (by omega)) ?_)
      (refine KL.v rfl (Val.fieldSl (k := 0) rfl rfl) ?_)
      (refine KL.v rfl (Val.loadP rfl rfl (Sees.sl0 (Sli.old (by assumption)) (by assumption) rfl)) ?_)
      (refine KL.v rfl (Val.assign rfl) ?_)
      refine KL.nil ?_
      refine KE.next ?_
      refine K.ret ?_
      exact KE.fin byMarks rfl byRes byPart ⟨by rw [hn]; rfl, rfl⟩
structure LvS where
  k : Nat
  o : Own
def liveK (Q : Dc) (k : Nat) : List Int := (upTo k).filter fun h => decide (0 < (Q.hs[(h - 1).toNat]?).getD 0)
theorem liveK_succ {Q : Dc} {k : Nat} {z : Int} (h : Q.hs[k]? = some z) : liveK Q (k + 1) = liveK Q k ++ (if 0 < z then [(k : Int) + 1] else []) := by
  unfold liveK
  rw [upTo_succ, List.filter_append]
  congr 1
  rw [List.filter_cons, show ((k : Int) + 1 - 1).toNat = k by omega, h]
  by_cases hz : 0 < z <;> simp [hz]
theorem liveK_len (Q : Dc) (k : Nat) : (liveK Q k).length ≤ k := Nat.le_trans (List.length_filter_le _ _) (by rw [upTo_len]; exact Nat.le_refl _)
theorem RLive_K {w0 : World} {d : DV} {Q : Dc} (hD : DocR w0 d Q) (hB : DcB Q) : Call Tryz.prog w0 30 [docV d Q] [] (fun r H' => ∃ o, oOk iE (liveD Q) o ∧ r = oV o (liveD Q).length ∧ H' = oH iE 3 (liveD Q) o) := by
  have a1 := hD.c.one
  have a2 := hD.t.one
  have a3 := hD.h.one
  have hh := hD.h
  have hl := hB.hs
  unfold docV
  refine Call.enter1 (n := 25) (by kernel_rfl) Tryz.func30 rfl rfl rfl ?_
  refine K.seq ?_
  refine K.region ?_
  (refine KL.e rfl (Eff.box rfl rfl) ?_; rintro _ _ ⟨b1, rfl, rfl⟩)
  (refine KL.v rfl (Val.assign rfl) ?_)
  refine KL.nil ?_
  refine KE.next ?_
  refine K.seq ?_
  refine K.region ?_
  (refine KL.v rfl (Val.assign rfl) ?_)
  refine KL.nil ?_
  refine KE.next ?_
  refine K.seq ?_
  refine K.seq ?_
  refine K.region ?_
  (refine KL.v rfl (Val.assign rfl) ?_)
  refine KL.nil ?_
  refine KE.next ?_
  refine K.block ?_
  refine K.loopT (σ := LvS) [(1, _)] (fun s kp_ => (4, .int .i64 (s.k : Nat)) :: (3, oV s.o (liveK Q s.k).length) :: kp_) (fun s => oH iE 3 (liveK Q s.k) s.o ++ ((b1, cells [d.vc, .int .i64 Q.quota, .int .i64 Q.caps, d.vt, d.vh] 35) :: [])) (fun s => s.k ≤ Q.hs.length ∧ oOk iE (liveK Q s.k) s.o) (fun s => Q.hs.length - s.k) (⟨0, none⟩) bySub byPart (⟨by simp, rfl⟩) ?_
  rintro ⟨k, o⟩ ⟨hk, oko⟩
  dsimp only at hk oko ⊢
  by_cases hlt : k < Q.hs.length
  · obtain ⟨z, hz⟩ := get_of_lt hlt
    have hls := liveK_succ hz
    have hkl := liveK_len Q k
    by_cases hz0 : z > 0
    · rw [if_pos hz0] at hls
      have hbd : (liveK Q k ++ [(k : Int) + 1]).length ≤ 4294967296 := by simp only [List.length_append, List.length_singleton]; omega
      refine K.seq ?_
      refine K.seq ?_
      refine K.region ?_
      (refine KL.v rfl (Val.move rfl) ?_)
      (refine KL.v rfl (Val.fieldAddr0 (k := 4) rfl rfl) ?_)
      (refine KL.v rfl (Val.loadP rfl rfl (Sees.cell byTake rfl)) ?_)
      (refine KL.v rfl (Val.lenSl rfl rfl bySli) ?_)
      (refine KL.v rfl (Val.isT (Val.lss rfl rfl) byLt) ?_)
      refine KL.nil ?_
      refine KE.next ?_
      refine K.condT rfl ?_
      refine K.skip ?_
      refine KE.next ?_
      refine K.seq ?_
      refine K.block ?_
      refine K.seq ?_
      refine K.region ?_
      (refine KL.v rfl (Val.fieldAddr0 (k := 4) rfl rfl) ?_)
      (refine KL.v rfl (Val.loadP rfl rfl (Sees.cell byTake rfl)) ?_)
      (refine KL.v rfl (Val.move rfl) ?_)
      (refine KL.v rfl (Val.idxSl rfl rfl rfl bySli rfl byLt) ?_)
      (refine KL.v rfl (Val.fieldSl (k := 0) rfl rfl) ?_)
      (refine KL.v rfl (Val.loadP rfl rfl (Sees.sl0 (Sli.old (by assumption)) (by assumption) rfl)) ?_)
      (refine KL.v rfl (Val.isT (Val.gtr rfl rfl) byLt) ?_)
      refine KL.nil ?_
      refine KE.next ?_
      refine K.condT rfl ?_
      refine K.region ?_
      (refine KL.v rfl (Val.move rfl) ?_)
      (refine KL.v rfl (Val.move rfl) ?_)
      (refine KL.v rfl (Val.add rfl rfl (by simp only [Go.Proofs.YthamkgghnjenhaaGreat.lo, Go.Proofs.YthamkgghnjenhaaGreat.hi]; omega)) ?_)
      (refine KL.e rfl (Eff.buildS byParts rfl rfl rfl rfl rfl byFill) ?_; rintro _ _ ⟨b22, rfl, rfl⟩)
      (refine KL.e rfl (Eff.appZ (ys := [_]) rfl rfl rfl rfl rfl rfl byTakeL (by assumption) (by first | exact Sli.blk byTake rfl (by first | decide | simp) (by first | decide | (unfold maxLen; omega)) rfl | exact Sli.old (by assumption) | exact Sli.own byTakeL (by assumption) byLen | assumption | exact Sli.part (by assumption) byPart) rfl (by first | assumption | omega | (simp <;> fail) | (simp; omega)) rfl) ?_; rintro _ _ ⟨o23, ok23, rfl, rfl⟩)
      (refine KL.v rfl (Val.assign rfl) ?_)
      refine KL.nil ?_
      refine KE.blkN ?_
      refine KE.next ?_
      refine K.region ?_
      (refine KL.v rfl (Val.move rfl) ?_)
      (refine KL.v rfl (Val.add rfl rfl (by simp only [Go.Proofs.YthamkgghnjenhaaGreat.lo, Go.Proofs.YthamkgghnjenhaaGreat.hi]; omega)) ?_)
      (refine KL.v rfl (Val.assign rfl) ?_)
      refine KL.nil ?_
      rw [← hls] at ok23 ⊢
      exact KE.again ⟨k + 1, o23⟩ bySub byPart ⟨by show k + 1 ≤ _; omega, ok23⟩ (by show Q.hs.length - (k + 1) < Q.hs.length - k; omega)
    · rw [if_neg hz0, List.append_nil] at hls
      refine K.seq ?_
      refine K.seq ?_
      refine K.region ?_
      (refine KL.v rfl (Val.move rfl) ?_)
      (refine KL.v rfl (Val.fieldAddr0 (k := 4) rfl rfl) ?_)
      (refine KL.v rfl (Val.loadP rfl rfl (Sees.cell byTake rfl)) ?_)
      (refine KL.v rfl (Val.lenSl rfl rfl bySli) ?_)
      (refine KL.v rfl (Val.isT (Val.lss rfl rfl) byLt) ?_)
      refine KL.nil ?_
      refine KE.next ?_
      refine K.condT rfl ?_
      refine K.skip ?_
      refine KE.next ?_
      refine K.seq ?_
      refine K.block ?_
      refine K.seq ?_
      refine K.region ?_
      (refine KL.v rfl (Val.fieldAddr0 (k := 4) rfl rfl) ?_)
      (refine KL.v rfl (Val.loadP rfl rfl (Sees.cell byTake rfl)) ?_)
      (refine KL.v rfl (Val.move rfl) ?_)
      (refine KL.v rfl (Val.idxSl rfl rfl rfl bySli rfl byLt) ?_)
      (refine KL.v rfl (Val.fieldSl (k := 0) rfl rfl) ?_)
      (refine KL.v rfl (Val.loadP rfl rfl (Sees.sl0 (Sli.old (by assumption)) (by assumption) rfl)) ?_)
      (refine KL.v rfl (Val.isF (Val.gtr rfl rfl) byLt) ?_)
      refine KL.nil ?_
      refine KE.next ?_
      refine K.condF rfl ?_
      refine K.skip ?_
      refine KE.blkN ?_
      refine KE.next ?_
      refine K.region ?_
      (refine KL.v rfl (Val.move rfl) ?_)
      (refine KL.v rfl (Val.add rfl rfl (by simp only [Go.Proofs.YthamkgghnjenhaaGreat.lo, Go.Proofs.YthamkgghnjenhaaGreat.hi]; omega)) ?_)
      (refine KL.v rfl (Val.assign rfl) ?_)
      refine KL.nil ?_
      rw [← hls] at oko ⊢
      exact KE.again ⟨k + 1, o⟩ bySub byPart ⟨by show k + 1 ≤ _; omega, oko⟩ (by show Q.hs.length - (k + 1) < Q.hs.length - k; omega)
  · have hke : k = Q.hs.length := by omega
    subst hke
    refine K.seq ?_
    refine K.seq ?_
    refine K.region ?_
    (refine KL.v rfl (Val.move rfl) ?_)
    (refine KL.v rfl (Val.fieldAddr0 (k := 4) rfl rfl) ?_)
    (refine KL.v rfl (Val.loadP rfl rfl (Sees.cell byTake rfl)) ?_)
    (refine KL.v rfl (Val.lenSl rfl rfl bySli) ?_)
    (refine KL.v rfl (Val.isF (Val.lss rfl rfl) byLt) ?_)
    refine KL.nil ?_
    refine KE.next ?_
    refine K.condF rfl ?_
    refine K.exit ?_
    refine KE.passX ?_
    refine KE.passX ?_
    refine KE.blkX ?_
    refine KE.next ?_
    refine K.seq ?_
    refine K.region ?_
    (refine KL.v rfl (Val.move rfl) ?_)
    (refine KL.v rfl (Val.assign rfl) ?_)
    refine KL.nil ?_
    refine KE.next ?_
    refine K.ret ?_
    exact KE.fin byMarks rfl byRes byPart ⟨o, oko, rfl, rfl⟩
structure ThA where
  k : Nat
  ws : List WR
  ow : Own
  fo : Own
structure ThB where
  k : Nat
  fo : Own
def frmDK (Q : Dc) (k : Nat) : List Int := pinsD Q Q.ts.length ++ (Q.hs.take k).map fun i => i - 1
theorem pinsD_len (Q : Dc) (k : Nat) : (pinsD Q k).length ≤ k := by unfold pinsD; rw [List.length_map]; exact Nat.le_trans (List.length_filter_le _ _) (by rw [List.length_range]; exact Nat.le_refl _)
theorem ReachE_K {w0 : World} {H : Heap} {ws : List WR} {ow : Own} {rows : List (List Int)} {l : List Int} {v : Value} (okw : oOk wE ws ow) (oks : ∀ p ∈ ws, oOk iE p.2 p.1) (hmp : ws.map (·.2) = rows) (hp : Part H (oH wE 22 ws ow ++ wsH ws))
    (hS : Sli w0 H iE v l) (hl : l.length ≤ 100000) (hn : rows.length ≤ 100) (hs : ∀ r ∈ rows, r.length ≤ 1000) :
    CallV Tryz.prog w0 (.func (.func 67) #[] #[]) [oV ow ws.length, v] H (fun r H' => ∃ o, oOk boE (reachP rows l) o ∧ r = oV o (reachP rows l).length ∧ H' = oH boE 4 (reachP rows l) o ++ H) := by
  subst hmp
  have hl2 : (ws.map toSV).length ≤ 100 := by simpa using hn
  refine (CallV.pure fun w hw => CallV.fn (RReach_K (rowsT_at okw oks hp hw).1 (rowsT_at okw oks hp hw).2 (hS w hw) hl hl2 hs)).mono ?_
  rintro _ _ ⟨_, ⟨o, ok, rfl, rfl⟩, rfl⟩
  exact ⟨o, ok, rfl, rfl⟩
set_option maxHeartbeats 4000000 in
theorem There_K {w0 : World} {d : DV} {Q : Dc} (hD : DocR w0 d Q) (hB : DcB Q) : Call Tryz.prog w0 54 [docV d Q] [] (fun r H' => ∃ o, oOk boE (thereD Q) o ∧ r = oV o (thereD Q).length ∧ H' = oH boE 4 (thereD Q) o) := by
  have a1 := hD.c.one
  have a2 := hD.t.one
  have a3 := hD.h.one
  have hh := hD.h
  have htl := hD.t
  have hl := hB.hs
  have hl2 := hB.ts
  have hTl := hD.len
  unfold docV
  refine Call.enter1 (n := 75) (by kernel_rfl) Tryz.func54 rfl rfl rfl ?_
  refine K.seq ?_
  refine K.region ?_
  (refine KL.e rfl (Eff.box rfl rfl) ?_; rintro _ _ ⟨b1, rfl, rfl⟩)
  (refine KL.v rfl (Val.assign rfl) ?_)
  refine KL.nil ?_
  refine KE.next ?_
  refine K.seq ?_
  refine K.region ?_
  (refine KL.v rfl (Val.assign rfl) ?_)
  refine KL.nil ?_
  refine KE.next ?_
  refine K.seq ?_
  refine K.region ?_
  (refine KL.v rfl (Val.assign rfl) ?_)
  refine KL.nil ?_
  refine KE.next ?_
  refine K.seq ?_
  refine K.seq ?_
  refine K.region ?_
  (refine KL.v rfl (Val.assign rfl) ?_)
  refine KL.nil ?_
  refine KE.next ?_
  refine K.block ?_
  refine K.loopT (σ := ThA) [(1, _)] (fun s kp_ => (5, .int .i64 (s.k : Nat)) :: (3, oV s.ow s.ws.length) :: (4, oV s.fo (pinsD Q s.k).length) :: kp_) (fun s => oH wE 22 s.ws s.ow ++ (wsH s.ws ++ (oH iE 3 (pinsD Q s.k) s.fo ++ ((b1, cells [d.vc, .int .i64 Q.quota, .int .i64 Q.caps, d.vt, d.vh] 35) :: [])))) (fun s => s.k ≤ d.T.length ∧ oOk wE s.ws s.ow ∧ s.ws.map (·.2) = (rowsD Q).take s.k ∧ (∀ p ∈ s.ws, oOk iE p.2 p.1) ∧ oOk iE (pinsD Q s.k) s.fo) (fun s => d.T.length - s.k) (⟨0, [], none, none⟩) bySub byPart (⟨by simp, rfl, by simp, by simp, rfl⟩) ?_
  rintro ⟨k, ws, ow, fo⟩ ⟨hk, okw, hmp, oks, okf⟩
  dsimp only at hk okw hmp oks okf ⊢
  by_cases hlt : k < d.T.length
  · obtain ⟨t, ht⟩ := get_of_lt hlt
    have hx := hD.get ht
    have hr := hD.r t (List.mem_of_getElem? ht)
    have hto := hB.x t.x (List.mem_of_getElem? hx)
    have hsz := hto.sz
    have hro := hB.ok.rf t.x (List.mem_of_getElem? hx)
    refine K.seq ?_
    refine K.seq ?_
    refine K.region ?_
    (refine KL.v rfl (Val.move rfl) ?_)
    (refine KL.v rfl (Val.fieldAddr0 (k := 3) rfl rfl) ?_)
    (refine KL.v rfl (Val.loadP rfl rfl (Sees.cell byTake rfl)) ?_)
    (refine KL.v rfl (Val.lenSl rfl rfl bySli) ?_)
    (refine KL.v rfl (Val.isT (Val.lss rfl rfl) byLt) ?_)
    refine KL.nil ?_
    refine KE.next ?_
    refine K.condT rfl ?_
    refine K.skip ?_
    refine KE.next ?_
    refine K.seq ?_
    refine K.block ?_
    refine K.seq ?_
    refine K.region ?_
    (refine KL.v rfl (Val.assign rfl) ?_)
    refine KL.nil ?_
    refine KE.next ?_
    refine K.seq ?_
    refine K.seq ?_
    refine K.region ?_
    (refine KL.v rfl (Val.assign rfl) ?_)
    refine KL.nil ?_
    refine KE.next ?_
    refine K.block ?_
    refine K.loopT (σ := SwC) [(1, _), (3, _), (4, _), (5, _)] (fun s kp_ => (7, .int .i64 (s.j : Nat)) :: (6, oV s.o ((t.x.refs.take s.j).map fun r => r - 1).length) :: kp_) (fun s => oH iE 3 ((t.x.refs.take s.j).map fun r => r - 1) s.o ++ (oH wE 22 ws ow ++ (wsH ws ++ (oH iE 3 (pinsD Q k) fo ++ ((b1, cells [d.vc, .int .i64 Q.quota, .int .i64 Q.caps, d.vt, d.vh] 35) :: []))))) (fun s => s.j ≤ t.x.refs.length ∧ oOk iE ((t.x.refs.take s.j).map fun r => r - 1) s.o) (fun s => t.x.refs.length - s.j) (⟨0, none⟩) bySub byPart (⟨by simp, rfl⟩) ?_
    rintro ⟨j, oj⟩ ⟨hj, okj⟩
    dsimp only at hj okj ⊢
    by_cases hjl : j < t.x.refs.length
    · obtain ⟨r, hr'⟩ := get_of_lt hjl
      have hrr := hro r (List.mem_of_getElem? hr')
      have htn : (t.x.refs.take (j + 1)).map (fun r => r - 1) = (t.x.refs.take j).map (fun r => r - 1) ++ [r - 1] := by rw [take_snoc hr', List.map_append]; rfl
      have htl' : ((t.x.refs.take j).map (fun r => r - 1)).length ≤ 64 := by rw [List.length_map, List.length_take]; omega
      have hbd : ((t.x.refs.take j).map (fun r => r - 1) ++ [r - 1]).length ≤ 4294967296 := by simp only [List.length_append, List.length_singleton]; omega
      refine K.seq ?_
      refine K.seq ?_
      refine K.region ?_
      (refine KL.v rfl (Val.move rfl) ?_)
      (refine KL.v rfl (Val.fieldAddr0 (k := 3) rfl rfl) ?_)
      (refine KL.v rfl (Val.loadP rfl rfl (Sees.cell byTake rfl)) ?_)
      (refine KL.v rfl (Val.move rfl) ?_)
      (refine KL.v rfl (Val.idxSl rfl rfl rfl bySli rfl byLt) ?_)
      (refine KL.v rfl (Val.fieldSl (k := 0) rfl rfl) ?_)
      (refine KL.v rfl (Val.loadP rfl rfl (Sees.sl0 (Sli.old (by assumption)) (by assumption) rfl)) ?_)
      (refine KL.v rfl (Val.lenSl rfl rfl (Sli.old (by assumption))) ?_)
      (refine KL.v rfl (Val.isT (Val.lss rfl rfl) byLt) ?_)
      refine KL.nil ?_
      refine KE.next ?_
      refine K.condT rfl ?_
      refine K.skip ?_
      refine KE.next ?_
      refine K.seq ?_
      refine K.block ?_
      refine K.region ?_
      (refine KL.v rfl (Val.move rfl) ?_)
      (refine KL.v rfl (Val.fieldAddr0 (k := 3) rfl rfl) ?_)
      (refine KL.v rfl (Val.loadP rfl rfl (Sees.cell byTake rfl)) ?_)
      (refine KL.v rfl (Val.move rfl) ?_)
      (refine KL.v rfl (Val.idxSl rfl rfl rfl bySli rfl byLt) ?_)
      (refine KL.v rfl (Val.fieldSl (k := 0) rfl rfl) ?_)
      (refine KL.v rfl (Val.loadP rfl rfl (Sees.sl0 (Sli.old (by assumption)) (by assumption) rfl)) ?_)
      (refine KL.v rfl (Val.move rfl) ?_)
      (refine KL.v rfl (Val.idxSl rfl rfl rfl (Sli.old (by assumption)) rfl byLt) ?_)
      (refine KL.v rfl (Val.loadP rfl rfl (Sees.sl0 (Sli.old (by assumption)) (by assumption) rfl)) ?_)
      (refine KL.v rfl (Val.sub rfl rfl (by simp only [Go.Proofs.YthamkgghnjenhaaGreat.lo, Go.Proofs.YthamkgghnjenhaaGreat.hi]; omega)) ?_)
      (refine KL.e rfl (Eff.buildS byParts rfl rfl rfl rfl rfl byFill) ?_; rintro _ _ ⟨b38, rfl, rfl⟩)
      (refine KL.e rfl (Eff.appZ (ys := [_]) rfl rfl rfl rfl rfl rfl byTakeL (by assumption) (by first | exact Sli.blk byTake rfl (by first | decide | simp) (by first | decide | (unfold maxLen; omega)) rfl | exact Sli.old (by assumption) | exact Sli.own byTakeL (by assumption) byLen | assumption | exact Sli.part (by assumption) byPart) rfl (by first | assumption | omega | (simp <;> fail) | (simp; omega)) rfl) ?_; rintro _ _ ⟨o39, ok39, rfl, rfl⟩)
      (refine KL.v rfl (Val.assign rfl) ?_)
      refine KL.nil ?_
      refine KE.blkN ?_
      refine KE.next ?_
      refine K.region ?_
      (refine KL.v rfl (Val.move rfl) ?_)
      (refine KL.v rfl (Val.add rfl rfl (by simp only [Go.Proofs.YthamkgghnjenhaaGreat.lo, Go.Proofs.YthamkgghnjenhaaGreat.hi]; omega)) ?_)
      (refine KL.v rfl (Val.assign rfl) ?_)
      refine KL.nil ?_
      rw [← htn] at ok39 ⊢
      exact KE.again ⟨j + 1, o39⟩ bySub byPart ⟨by show j + 1 ≤ _; omega, ok39⟩ (by show t.x.refs.length - (j + 1) < t.x.refs.length - j; omega)
    · have hje : j = t.x.refs.length := by omega
      subst hje
      rw [List.take_length] at okj ⊢
      have hwl : ws.length = k := by have := congrArg List.length hmp; simp [rowsD_len] at this; omega
      have hsnw : (ws ++ [((oj, t.x.refs.map fun r => r - 1) : WR)]).map (fun p : WR => p.2) = (rowsD Q).take (k + 1) := by
        have : (rowsD Q)[k]? = some (t.x.refs.map fun r => r - 1) := by rw [rowsD, List.getElem?_map, hx]; rfl
        rw [take_snoc this, List.map_append, hmp]; rfl
      have hbd : (ws ++ [(oj, t.x.refs.map fun r => r - 1)]).length ≤ 4294967296 := by simp only [List.length_append, List.length_singleton]; omega
      have hfl := pinsD_len Q k
      have hfs := pinsD_succ hx
      have hws : wsH (ws ++ [(oj, t.x.refs.map fun r => r - 1)]) = wsH ws ++ oH iE 3 (t.x.refs.map fun r => r - 1) oj := by rw [wsH_app]; simp [wsH]
      have oks' : ∀ p ∈ ws ++ [(oj, t.x.refs.map fun r => r - 1)], oOk iE p.2 p.1 := fun p hp => by
        rcases List.mem_append.1 hp with h | h
        · exact oks p h
        · rw [List.mem_singleton.1 h]; exact okj
      refine K.seq ?_
      refine K.seq ?_
      refine K.region ?_
      (refine KL.v rfl (Val.move rfl) ?_)
      (refine KL.v rfl (Val.fieldAddr0 (k := 3) rfl rfl) ?_)
      (refine KL.v rfl (Val.loadP rfl rfl (Sees.cell byTake rfl)) ?_)
      (refine KL.v rfl (Val.move rfl) ?_)
      (refine KL.v rfl (Val.idxSl rfl rfl rfl bySli rfl byLt) ?_)
      (refine KL.v rfl (Val.fieldSl (k := 0) rfl rfl) ?_)
      (refine KL.v rfl (Val.loadP rfl rfl (Sees.sl0 (Sli.old (by assumption)) (by assumption) rfl)) ?_)
      (refine KL.v rfl (Val.lenSl rfl rfl (Sli.old (by assumption))) ?_)
      (refine KL.v rfl (Val.isF (Val.lss rfl rfl) byLt) ?_)
      refine KL.nil ?_
      refine KE.next ?_
      refine K.condF rfl ?_
      refine K.exit ?_
      refine KE.passX ?_
      refine KE.passX ?_
      refine KE.blkX ?_
      refine KE.next ?_
      refine byCode ?_
      (refine KL.v rfl (Val.move rfl) ?_)
      (refine KL.v rfl (Val.move rfl) ?_)
      (refine KL.e rfl (Eff.buildS byParts rfl rfl rfl rfl rfl byFill) ?_; rintro _ _ ⟨b42, rfl, rfl⟩)
      (refine KL.e rfl (Eff.appZ (E := wE) (xs := ws) (o := ow) (ys := [(oj, t.x.refs.map fun r => r - 1)]) (zs := ws ++ [(oj, t.x.refs.map fun r => r - 1)]) rfl rfl rfl rfl rfl rfl byTakeL (by assumption) (by first | exact Sli.blk byTake rfl (by first | decide | simp) (by first | decide | (unfold maxLen; omega)) rfl | exact Sli.old (by assumption) | exact Sli.own byTakeL (by assumption) byLen | assumption | exact Sli.part (by assumption) byPart) (rfl) (by first | assumption | omega | (simp <;> fail) | (simp; omega)) rfl) ?_; rintro _ _ ⟨o', ok', rfl, rfl⟩)
      (refine KL.v rfl (Val.assign rfl) ?_)
      refine KL.nil ?_
      refine KE.next ?_
      by_cases hp0 : t.x.pins > 0
      · rw [if_pos hp0] at hfs
        have hbf : (pinsD Q k ++ [(k : Int)]).length ≤ 4294967296 := by simp only [List.length_append, List.length_singleton]; omega
        refine K.seq ?_
        refine K.region ?_
        (refine KL.v rfl (Val.fieldAddr0 (k := 3) rfl rfl) ?_)
        (refine KL.v rfl (Val.loadP rfl rfl (Sees.cell byTake rfl)) ?_)
        (refine KL.v rfl (Val.move rfl) ?_)
        (refine KL.v rfl (Val.idxSl rfl rfl rfl bySli rfl byLt) ?_)
        (refine KL.v rfl (Val.fieldSl (k := 3) rfl rfl) ?_)
        (refine KL.v rfl (Val.loadP rfl rfl (Sees.sl (Sli.old (by assumption)) (by assumption) rfl)) ?_)
        (refine KL.v rfl (Val.isT (Val.gtr rfl rfl) byLt) ?_)
        refine KL.nil ?_
        refine KE.next ?_
        refine K.condT rfl ?_
        refine K.region ?_
        (refine KL.v rfl (Val.move rfl) ?_)
        (refine KL.v rfl (Val.move rfl) ?_)
        (refine KL.e rfl (Eff.buildS byParts rfl rfl rfl rfl rfl byFill) ?_; rintro _ _ ⟨b53, rfl, rfl⟩)
        (refine KL.e rfl (Eff.appZ (ys := [_]) rfl rfl rfl rfl rfl rfl byTakeL (by assumption) (by first | exact Sli.blk byTake rfl (by first | decide | simp) (by first | decide | (unfold maxLen; omega)) rfl | exact Sli.old (by assumption) | exact Sli.own byTakeL (by assumption) byLen | assumption | exact Sli.part (by assumption) byPart) rfl (by first | assumption | omega | (simp <;> fail) | (simp; omega)) rfl) ?_; rintro _ _ ⟨o54, ok54, rfl, rfl⟩)
        (refine KL.v rfl (Val.assign rfl) ?_)
        refine KL.nil ?_
        refine KE.blkN ?_
        refine KE.next ?_
        refine K.region ?_
        (refine KL.v rfl (Val.move rfl) ?_)
        (refine KL.v rfl (Val.add rfl rfl (by simp only [Go.Proofs.YthamkgghnjenhaaGreat.lo, Go.Proofs.YthamkgghnjenhaaGreat.hi]; omega)) ?_)
        (refine KL.v rfl (Val.assign rfl) ?_)
        refine KL.nil ?_
        rw [← hfs] at ok54 ⊢
        exact KE.again ⟨k + 1, ws ++ [(oj, t.x.refs.map fun r => r - 1)], o', o54⟩ bySub (by dsimp only; rw [hws]; simp only [List.append_assoc]; exact byPart) ⟨by show k + 1 ≤ _; omega, ok', hsnw, oks', ok54⟩ (by show d.T.length - (k + 1) < d.T.length - k; omega)
      · rw [if_neg hp0, List.append_nil] at hfs
        refine K.seq ?_
        refine K.region ?_
        (refine KL.v rfl (Val.fieldAddr0 (k := 3) rfl rfl) ?_)
        (refine KL.v rfl (Val.loadP rfl rfl (Sees.cell byTake rfl)) ?_)
        (refine KL.v rfl (Val.move rfl) ?_)
        (refine KL.v rfl (Val.idxSl rfl rfl rfl bySli rfl byLt) ?_)
        (refine KL.v rfl (Val.fieldSl (k := 3) rfl rfl) ?_)
        (refine KL.v rfl (Val.loadP rfl rfl (Sees.sl (Sli.old (by assumption)) (by assumption) rfl)) ?_)
        (refine KL.v rfl (Val.isF (Val.gtr rfl rfl) byLt) ?_)
        refine KL.nil ?_
        refine KE.next ?_
        refine K.condF rfl ?_
        refine K.skip ?_
        refine KE.blkN ?_
        refine KE.next ?_
        refine K.region ?_
        (refine KL.v rfl (Val.move rfl) ?_)
        (refine KL.v rfl (Val.add rfl rfl (by simp only [Go.Proofs.YthamkgghnjenhaaGreat.lo, Go.Proofs.YthamkgghnjenhaaGreat.hi]; omega)) ?_)
        (refine KL.v rfl (Val.assign rfl) ?_)
        refine KL.nil ?_
        rw [← hfs] at okf ⊢
        exact KE.again ⟨k + 1, ws ++ [(oj, t.x.refs.map fun r => r - 1)], o', fo⟩ bySub (by dsimp only; rw [hws]; simp only [List.append_assoc]; exact byPart) ⟨by show k + 1 ≤ _; omega, ok', hsnw, oks', okf⟩ (by show d.T.length - (k + 1) < d.T.length - k; omega)
  have hke : k = Q.ts.length := by omega
  subst hke
  have hmp' : ws.map (·.2) = rowsD Q := by rw [hmp]; exact List.take_of_length_le (by rw [rowsD_len]; exact Nat.le_refl _)
  have hfr0 : pinsD Q Q.ts.length = frmDK Q 0 := by unfold frmDK; simp
  rw [hfr0] at okf ⊢
  refine K.seq ?_
  refine K.seq ?_
  refine K.region ?_
  (refine KL.v rfl (Val.move rfl) ?_)
  (refine KL.v rfl (Val.fieldAddr0 (k := 3) rfl rfl) ?_)
  (refine KL.v rfl (Val.loadP rfl rfl (Sees.cell byTake rfl)) ?_)
  (refine KL.v rfl (Val.lenSl rfl rfl bySli) ?_)
  (refine KL.v rfl (Val.isF (Val.lss rfl rfl) byLt) ?_)
  refine KL.nil ?_
  refine KE.next ?_
  refine K.condF rfl ?_
  refine K.exit ?_
  refine KE.passX ?_
  refine KE.passX ?_
  refine KE.blkX ?_
  refine KE.next ?_
  refine K.seq ?_
  refine K.seq ?_
  refine K.region ?_
  (refine KL.v rfl (Val.assign rfl) ?_)
  refine KL.nil ?_
  refine KE.next ?_
  refine K.block ?_
  refine K.loopT (σ := ThB) [(1, _), (3, _)] (fun s kp_ => (8, .int .i64 (s.k : Nat)) :: (4, oV s.fo (frmDK Q s.k).length) :: kp_) (fun s => oH iE 3 (frmDK Q s.k) s.fo ++ (oH wE 22 ws ow ++ (wsH ws ++ ((b1, cells [d.vc, .int .i64 Q.quota, .int .i64 Q.caps, d.vt, d.vh] 35) :: [])))) (fun s => s.k ≤ Q.hs.length ∧ oOk iE (frmDK Q s.k) s.fo) (fun s => Q.hs.length - s.k) (⟨0, fo⟩) bySub byPart (⟨by simp, okf⟩) ?_
  rintro ⟨k, fk⟩ ⟨hk, okk⟩
  dsimp only at hk okk ⊢
  have hfl : (frmDK Q k).length ≤ 200 := by
    unfold frmDK
    have := pinsD_len Q Q.ts.length
    rw [List.length_append, List.length_map, List.length_take]; omega
  by_cases hlt : k < Q.hs.length
  · obtain ⟨z, hz⟩ := get_of_lt hlt
    have hzr := hB.ok.hr z (List.mem_of_getElem? hz)
    have hfs : frmDK Q (k + 1) = frmDK Q k ++ [z - 1] := by unfold frmDK; rw [take_snoc hz, List.map_append, ← List.append_assoc]; rfl
    have hbd : (frmDK Q k ++ [z - 1]).length ≤ 4294967296 := by simp only [List.length_append, List.length_singleton]; omega
    refine K.seq ?_
    refine K.seq ?_
    refine K.region ?_
    (refine KL.v rfl (Val.move rfl) ?_)
    (refine KL.v rfl (Val.fieldAddr0 (k := 4) rfl rfl) ?_)
    (refine KL.v rfl (Val.loadP rfl rfl (Sees.cell byTake rfl)) ?_)
    (refine KL.v rfl (Val.lenSl rfl rfl bySli) ?_)
    (refine KL.v rfl (Val.isT (Val.lss rfl rfl) byLt) ?_)
    refine KL.nil ?_
    refine KE.next ?_
    refine K.condT rfl ?_
    refine K.skip ?_
    refine KE.next ?_
    refine K.seq ?_
    refine K.block ?_
    refine K.region ?_
    (refine KL.v rfl (Val.move rfl) ?_)
    (refine KL.v rfl (Val.fieldAddr0 (k := 4) rfl rfl) ?_)
    (refine KL.v rfl (Val.loadP rfl rfl (Sees.cell byTake rfl)) ?_)
    (refine KL.v rfl (Val.move rfl) ?_)
    (refine KL.v rfl (Val.idxSl rfl rfl rfl bySli rfl byLt) ?_)
    (refine KL.v rfl (Val.fieldSl (k := 0) rfl rfl) ?_)
    (refine KL.v rfl (Val.loadP rfl rfl (Sees.sl0 (Sli.old (by assumption)) (by assumption) rfl)) ?_)
    (refine KL.v rfl (Val.sub rfl rfl (by simp only [Go.Proofs.YthamkgghnjenhaaGreat.lo, Go.Proofs.YthamkgghnjenhaaGreat.hi]; omega)) ?_)
    (refine KL.e rfl (Eff.buildS byParts rfl rfl rfl rfl rfl byFill) ?_; rintro _ _ ⟨b70, rfl, rfl⟩)
    (refine KL.e rfl (Eff.appZ (ys := [_]) rfl rfl rfl rfl rfl rfl byTakeL (by assumption) (by first | exact Sli.blk byTake rfl (by first | decide | simp) (by first | decide | (unfold maxLen; omega)) rfl | exact Sli.old (by assumption) | exact Sli.own byTakeL (by assumption) byLen | assumption | exact Sli.part (by assumption) byPart) rfl (by first | assumption | omega | (simp <;> fail) | (simp; omega)) rfl) ?_; rintro _ _ ⟨o71, ok71, rfl, rfl⟩)
    (refine KL.v rfl (Val.assign rfl) ?_)
    refine KL.nil ?_
    refine KE.blkN ?_
    refine KE.next ?_
    refine K.region ?_
    (refine KL.v rfl (Val.move rfl) ?_)
    (refine KL.v rfl (Val.add rfl rfl (by simp only [Go.Proofs.YthamkgghnjenhaaGreat.lo, Go.Proofs.YthamkgghnjenhaaGreat.hi]; omega)) ?_)
    (refine KL.v rfl (Val.assign rfl) ?_)
    refine KL.nil ?_
    rw [← hfs] at ok71 ⊢
    exact KE.again ⟨k + 1, o71⟩ bySub byPart ⟨by show k + 1 ≤ _; omega, ok71⟩ (by show Q.hs.length - (k + 1) < Q.hs.length - k; omega)
  · have hke : k = Q.hs.length := by omega
    subst hke
    have hfrm : frmDK Q Q.hs.length = frmD Q := by unfold frmDK frmD; rw [List.take_length]
    rw [hfrm] at okk hfl ⊢
    have hrows : ∀ r ∈ rowsD Q, r.length ≤ 1000 := by
      intro r hr
      obtain ⟨x, hx, rfl⟩ := List.mem_map.1 hr
      have := (hB.x x hx).sz
      rw [List.length_map]; omega
    refine K.seq ?_
    refine K.seq ?_
    refine K.region ?_
    (refine KL.v rfl (Val.move rfl) ?_)
    (refine KL.v rfl (Val.fieldAddr0 (k := 4) rfl rfl) ?_)
    (refine KL.v rfl (Val.loadP rfl rfl (Sees.cell byTake rfl)) ?_)
    (refine KL.v rfl (Val.lenSl rfl rfl bySli) ?_)
    (refine KL.v rfl (Val.isF (Val.lss rfl rfl) byLt) ?_)
    refine KL.nil ?_
    refine KE.next ?_
    refine K.condF rfl ?_
    refine K.exit ?_
    refine KE.passX ?_
    refine KE.passX ?_
    refine KE.blkX ?_
    refine KE.next ?_
    refine K.seq ?_
    refine K.region ?_
    (refine KL.v rfl (Val.move rfl) ?_)
    (refine KL.v rfl (Val.move rfl) ?_)
    (refine KL.callc rfl rfl byEvL fun T hT => ?_)
    refine (ReachE_K (rows := rowsD Q) (l := frmD Q) okw oks hmp' byPart bySli (by omega) (by rw [rowsD_len]; omega) hrows).mono ?_
    rintro _ _ ⟨ob, okb, rfl, rfl⟩
    refine hT _ _ ?_; clear hT; clear T
    (refine KL.v rfl (Val.assign rfl) ?_)
    refine KL.nil ?_
    refine KE.next ?_
    refine K.ret ?_
    exact KE.fin byMarks rfl byRes byPart ⟨ob, okb, rfl, rfl⟩
end Go.Proofs.YthamkgghnjenhaaGreat
namespace Go.Proofs.YthamkgghnjenhaaGreat
open Go.RowKit
set_option linter.unusedVariables false
set_option linter.unusedSimpArgs false
set_option maxRecDepth 10000

def objK (Q : Dc) (k : Nat) : List Int := (upTo k).filter fun i => ((thereD Q)[(i - 1).toNat]?).getD false
theorem objK_succ {Q : Dc} {k : Nat} {b : Bool} (h : (thereD Q)[k]? = some b) : objK Q (k + 1) = objK Q k ++ (if b then [(k : Int) + 1] else []) := by
  unfold objK
  rw [upTo_succ, List.filter_append]
  congr 1
  rw [List.filter_cons, show ((k : Int) + 1 - 1).toNat = k by omega, h]
  cases b <;> simp
theorem objK_len (Q : Dc) (k : Nat) : (objK Q k).length ≤ k := Nat.le_trans (List.length_filter_le _ _) (by rw [upTo_len]; exact Nat.le_refl _)
theorem RObjects_K {w0 : World} {d : DV} {Q : Dc} (hD : DocR w0 d Q) (hB : DcB Q) : Call Tryz.prog w0 31 [docV d Q] [] (fun r H' => ∃ o, oOk iE (objsD Q) o ∧ r = oV o (objsD Q).length ∧ H' = oH iE 3 (objsD Q) o) := by
  have a1 := hD.c.one
  have a2 := hD.t.one
  have a3 := hD.h.one
  have hl2 := hB.ts
  have htl := there_len Q
  unfold docV
  refine Call.enter1 (n := 24) (by kernel_rfl) Tryz.func31 rfl rfl rfl ?_
  refine K.seq ?_
  refine K.region ?_
  (refine KL.e rfl (Eff.box rfl rfl) ?_; rintro _ _ ⟨b1, rfl, rfl⟩)
  (refine KL.v rfl (Val.assign rfl) ?_)
  refine KL.nil ?_
  refine KE.next ?_
  refine K.seq ?_
  refine K.region ?_
  (refine KL.v rfl (Val.loadA rfl rfl rfl bySeeN) ?_)
  (refine KL.callc rfl rfl byEvL fun T hT => ?_)
  refine (CallV.pure fun w hw => CallV.fn (There_K (hD.only hw.old) hB)).mono ?_
  rintro _ _ ⟨_, ⟨ob, okb, rfl, rfl⟩, rfl⟩
  refine hT _ _ ?_; clear hT; clear T
  (refine KL.v rfl (Val.assign rfl) ?_)
  refine KL.nil ?_
  refine KE.next ?_
  refine K.seq ?_
  refine K.region ?_
  (refine KL.v rfl (Val.assign rfl) ?_)
  refine KL.nil ?_
  refine KE.next ?_
  refine K.seq ?_
  refine K.seq ?_
  refine K.region ?_
  (refine KL.v rfl (Val.assign rfl) ?_)
  refine KL.nil ?_
  refine KE.next ?_
  refine K.block ?_
  refine K.loopT (σ := LvS) [(3, _)] (fun s kp_ => (5, .int .i64 (s.k : Nat)) :: (4, oV s.o (objK Q s.k).length) :: kp_) (fun s => oH iE 3 (objK Q s.k) s.o ++ (oH boE 4 (thereD Q) ob ++ ((b1, cells [d.vc, .int .i64 Q.quota, .int .i64 Q.caps, d.vt, d.vh] 35) :: []))) (fun s => s.k ≤ (thereD Q).length ∧ oOk iE (objK Q s.k) s.o) (fun s => (thereD Q).length - s.k) (⟨0, none⟩) bySub byPart (⟨by simp, rfl⟩) ?_
  rintro ⟨k, o⟩ ⟨hk, oko⟩
  dsimp only at hk oko ⊢
  by_cases hlt : k < (thereD Q).length
  · obtain ⟨b, hb⟩ := get_of_lt hlt
    have hls := objK_succ hb
    have hkl := objK_len Q k
    cases b with
    | true =>
      rw [if_pos rfl] at hls
      have hbd : (objK Q k ++ [(k : Int) + 1]).length ≤ 4294967296 := by simp only [List.length_append, List.length_singleton]; omega
      refine K.seq ?_
      refine K.seq ?_
      refine K.region ?_
      (refine KL.v rfl (Val.move rfl) ?_)
      (refine KL.v rfl (Val.move rfl) ?_)
      (refine KL.v rfl (Val.lenSl rfl rfl (Sli.own byTakeL (by assumption) byLen)) ?_)
      (refine KL.v rfl (Val.isT (Val.lss rfl rfl) byLt) ?_)
      refine KL.nil ?_
      refine KE.next ?_
      refine K.condT rfl ?_
      refine K.skip ?_
      refine KE.next ?_
      refine K.seq ?_
      refine K.block ?_
      refine K.seq ?_
      refine K.region ?_
      (refine KL.v rfl (Val.move rfl) ?_)
      (refine KL.v rfl (Val.move rfl) ?_)
      (refine KL.v rfl (Val.idxSl rfl rfl rfl (Sli.own byTakeL (by assumption) byLen) rfl byLt) ?_)
      (refine KL.v rfl (Val.loadP rfl rfl (Sees.sl0 (Sli.own byTakeL (by assumption) byLen) (by assumption) rfl)) ?_)
      refine KL.nil ?_
      refine KE.next ?_
      refine K.condT rfl ?_
      refine K.region ?_
      (refine KL.v rfl (Val.move rfl) ?_)
      (refine KL.v rfl (Val.move rfl) ?_)
      (refine KL.v rfl (Val.add rfl rfl (by simp only [Go.Proofs.YthamkgghnjenhaaGreat.lo, Go.Proofs.YthamkgghnjenhaaGreat.hi]; omega)) ?_)
      (refine KL.e rfl (Eff.buildS byParts rfl rfl rfl rfl rfl byFill) ?_; rintro _ _ ⟨b21, rfl, rfl⟩)
      (refine KL.e rfl (Eff.appZ (ys := [_]) rfl rfl rfl rfl rfl rfl byTakeL (by assumption) (by first | exact Sli.blk byTake rfl (by first | decide | simp) (by first | decide | (unfold maxLen; omega)) rfl | exact Sli.old (by assumption) | exact Sli.own byTakeL (by assumption) byLen | assumption | exact Sli.part (by assumption) byPart) rfl (by first | assumption | omega | (simp <;> fail) | (simp; omega)) rfl) ?_; rintro _ _ ⟨o22, ok22, rfl, rfl⟩)
      (refine KL.v rfl (Val.assign rfl) ?_)
      refine KL.nil ?_
      refine KE.blkN ?_
      refine KE.next ?_
      refine K.region ?_
      (refine KL.v rfl (Val.move rfl) ?_)
      (refine KL.v rfl (Val.add rfl rfl (by simp only [Go.Proofs.YthamkgghnjenhaaGreat.lo, Go.Proofs.YthamkgghnjenhaaGreat.hi]; omega)) ?_)
      (refine KL.v rfl (Val.assign rfl) ?_)
      refine KL.nil ?_
      rw [← hls] at ok22 ⊢
      exact KE.again ⟨k + 1, o22⟩ bySub byPart ⟨by show k + 1 ≤ _; omega, ok22⟩ (by show (thereD Q).length - (k + 1) < (thereD Q).length - k; omega)
    | false =>
      rw [if_neg (by simp), List.append_nil] at hls
      refine K.seq ?_
      refine K.seq ?_
      refine K.region ?_
      (refine KL.v rfl (Val.move rfl) ?_)
      (refine KL.v rfl (Val.move rfl) ?_)
      (refine KL.v rfl (Val.lenSl rfl rfl (Sli.own byTakeL (by assumption) byLen)) ?_)
      (refine KL.v rfl (Val.isT (Val.lss rfl rfl) byLt) ?_)
      refine KL.nil ?_
      refine KE.next ?_
      refine K.condT rfl ?_
      refine K.skip ?_
      refine KE.next ?_
      refine K.seq ?_
      refine K.block ?_
      refine K.seq ?_
      refine K.region ?_
      (refine KL.v rfl (Val.move rfl) ?_)
      (refine KL.v rfl (Val.move rfl) ?_)
      (refine KL.v rfl (Val.idxSl rfl rfl rfl (Sli.own byTakeL (by assumption) byLen) rfl byLt) ?_)
      (refine KL.v rfl (Val.loadP rfl rfl (Sees.sl0 (Sli.own byTakeL (by assumption) byLen) (by assumption) rfl)) ?_)
      refine KL.nil ?_
      refine KE.next ?_
      refine K.condF rfl ?_
      refine K.skip ?_
      refine KE.blkN ?_
      refine KE.next ?_
      refine K.region ?_
      (refine KL.v rfl (Val.move rfl) ?_)
      (refine KL.v rfl (Val.add rfl rfl (by simp only [Go.Proofs.YthamkgghnjenhaaGreat.lo, Go.Proofs.YthamkgghnjenhaaGreat.hi]; omega)) ?_)
      (refine KL.v rfl (Val.assign rfl) ?_)
      refine KL.nil ?_
      rw [← hls] at oko ⊢
      exact KE.again ⟨k + 1, o⟩ bySub byPart ⟨by show k + 1 ≤ _; omega, oko⟩ (by show (thereD Q).length - (k + 1) < (thereD Q).length - k; omega)
  · have hke : objK Q k = objsD Q := by unfold objsD; rw [show k = Q.ts.length by omega]; rfl
    rw [hke] at oko ⊢
    refine K.seq ?_
    refine K.seq ?_
    refine K.region ?_
    (refine KL.v rfl (Val.move rfl) ?_)
    (refine KL.v rfl (Val.move rfl) ?_)
    (refine KL.v rfl (Val.lenSl rfl rfl (Sli.own byTakeL (by assumption) byLen)) ?_)
    (refine KL.v rfl (Val.isF (Val.lss rfl rfl) byLt) ?_)
    refine KL.nil ?_
    refine KE.next ?_
    refine K.condF rfl ?_
    refine K.exit ?_
    refine KE.passX ?_
    refine KE.passX ?_
    refine KE.blkX ?_
    refine KE.next ?_
    refine K.seq ?_
    refine K.region ?_
    (refine KL.v rfl (Val.move rfl) ?_)
    (refine KL.v rfl (Val.assign rfl) ?_)
    refine KL.nil ?_
    refine KE.next ?_
    refine K.ret ?_
    exact KE.fin byMarks rfl byRes byPart ⟨o, oko, rfl, rfl⟩
theorem objsD_mem {Q : Dc} {i : Int} (h : i ∈ objsD Q) : 1 ≤ i ∧ (i - 1).toNat < Q.ts.length := by
  have := upTo_mem.1 (List.mem_filter.1 h).1
  omega
theorem objsD_len (Q : Dc) : (objsD Q).length ≤ Q.ts.length := objK_len Q _
theorem RUsed_K {w0 : World} {d : DV} {Q : Dc} (hD : DocR w0 d Q) (hB : DcB Q) : Call Tryz.prog w0 32 [docV d Q] [] (fun r H' => r = .int .i64 (usedD Q) ∧ H' = []) := by
  have a1 := hD.c.one
  have a2 := hD.t.one
  have a3 := hD.h.one
  have hl2 := hB.ts
  have htl := hD.t
  have hol := objsD_len Q
  have hsum : ∀ k, 0 ≤ (((objsD Q).take k).map (szD Q)).sum ∧ (((objsD Q).take k).map (szD Q)).sum ≤ k * 64 := by
    intro k
    induction k with
    | zero => simp
    | succ k ih =>
      rw [List.take_add_one]
      cases hx : (objsD Q)[k]? with
      | none => simp only [Option.toList_none, List.append_nil]; omega
      | some i =>
        have hs : 0 ≤ szD Q i ∧ szD Q i ≤ 64 := by
          obtain ⟨h1, h2⟩ := objsD_mem (List.mem_of_getElem? hx)
          obtain ⟨x, hx⟩ := get_of_lt h2
          have := (hB.x x (List.mem_of_getElem? hx)).sz
          simp only [szD, hx, Option.map_some, Option.getD_some]; omega
        simp only [Option.toList_some, List.map_append, List.sum_append, List.map_cons, List.map_nil, List.sum_cons, List.sum_nil]; omega
  unfold docV
  refine Call.enter1 (n := 27) (by kernel_rfl) Tryz.func32 rfl rfl rfl ?_
  refine K.seq ?_
  refine K.region ?_
  (refine KL.e rfl (Eff.box rfl rfl) ?_; rintro _ _ ⟨b1, rfl, rfl⟩)
  (refine KL.v rfl (Val.assign rfl) ?_)
  refine KL.nil ?_
  refine KE.next ?_
  refine K.seq ?_
  refine K.region ?_
  (refine KL.v rfl (Val.loadA rfl rfl rfl bySeeN) ?_)
  (refine KL.callc rfl rfl byEvL fun T hT => ?_)
  refine (CallV.pure fun w hw => CallV.fn (RObjects_K (hD.only hw.old) hB)).mono ?_
  rintro _ _ ⟨_, ⟨o, oko, rfl, rfl⟩, rfl⟩
  refine hT _ _ ?_; clear hT; clear T
  (refine KL.v rfl (Val.assign rfl) ?_)
  refine KL.nil ?_
  refine KE.next ?_
  refine K.seq ?_
  refine K.region ?_
  (refine KL.v rfl (Val.assign rfl) ?_)
  refine KL.nil ?_
  refine KE.next ?_
  refine K.seq ?_
  refine K.seq ?_
  refine K.region ?_
  (refine KL.v rfl (Val.assign rfl) ?_)
  refine KL.nil ?_
  refine KE.next ?_
  refine K.block ?_
  refine K.loopT (σ := Nat) [(1, _), (3, _)] (fun s kp_ => (5, .int .i64 (s : Nat)) :: (4, .int .i64 (((objsD Q).take s).map (szD Q)).sum) :: kp_) (fun s => oH iE 3 (objsD Q) o ++ ((b1, cells [d.vc, .int .i64 Q.quota, .int .i64 Q.caps, d.vt, d.vh] 35) :: [])) (fun s => s ≤ (objsD Q).length) (fun s => (objsD Q).length - s) (0) bySub byPart (by simp) ?_
  rintro k hk
  have hk1 := hsum k
  by_cases hlt : k < (objsD Q).length
  · obtain ⟨i, hi⟩ := get_of_lt hlt
    obtain ⟨h1, h2⟩ := objsD_mem (List.mem_of_getElem? hi)
    obtain ⟨t, ht⟩ := get_of_lt (l := d.T) (k := (i - 1).toNat) (by rw [hD.len]; exact h2)
    have hx := hD.get ht
    have hTl : (i - 1).toNat < d.T.length := lt_of_get ht
    have hs : szD Q i = t.x.size := by simp only [szD, hx, Option.map_some, Option.getD_some]
    have hz := (hB.x t.x (List.mem_of_getElem? hx)).sz
    have hnx : (((objsD Q).take (k + 1)).map (szD Q)).sum = (((objsD Q).take k).map (szD Q)).sum + t.x.size := by
      rw [take_snoc hi, List.map_append, List.sum_append, ← hs]; simp
    refine K.seq ?_
    refine K.seq ?_
    refine K.region ?_
    (refine KL.v rfl (Val.move rfl) ?_)
    (refine KL.v rfl (Val.move rfl) ?_)
    (refine KL.v rfl (Val.lenSl rfl rfl (Sli.own byTakeL (by assumption) byLen)) ?_)
    (refine KL.v rfl (Val.isT (Val.lss rfl rfl) byLt) ?_)
    refine KL.nil ?_
    refine KE.next ?_
    refine K.condT rfl ?_
    refine K.skip ?_
    refine KE.next ?_
    refine K.seq ?_
    refine K.block ?_
    refine K.drawn [] [(0, 0), (1, 0), (2, 0), (3, 0), (4, 0), (5, 0), (6, 0), (7, 0), (8, 0), (9, 0), (10, 0), (11, 0), (12, 0)] (by kernel_rfl) (by kernel_rfl) (by kernel_rfl) (by kernel_rfl) (by kernel_rfl) (by kernel_rfl) Part.nil ?_
    refine KD.v0 rfl rfl (Val.move rfl) ?_
    refine KD.v0 rfl rfl (Val.fieldAddr0 (k := 3) rfl rfl) ?_
    refine KD.v0 rfl rfl (Val.loadP rfl rfl (Sees.cell byTake rfl)) ?_
    refine KD.v0 rfl rfl (Val.move rfl) ?_
    refine KD.v0 rfl rfl (Val.move rfl) ?_
    refine KD.v0 rfl rfl (Val.idxSl rfl rfl rfl (Sli.own byTakeL (by assumption) byLen) rfl byLt) ?_
    refine KD.v0 rfl rfl (Val.loadP rfl rfl (Sees.sl0 (Sli.own byTakeL (by assumption) byLen) (by assumption) rfl)) ?_
    refine KD.v0 rfl rfl (Val.sub rfl rfl (by simp only [Go.Proofs.YthamkgghnjenhaaGreat.lo, Go.Proofs.YthamkgghnjenhaaGreat.hi]; omega)) ?_
    refine KD.v0 rfl rfl (Val.idxSlZ rfl rfl rfl bySli rfl (by omega)) ?_
    refine KD.v0 rfl rfl (Val.fieldSl (k := 2) rfl rfl) ?_
    refine KD.v0 rfl rfl (Val.loadP rfl rfl (Sees.sl (Sli.old (by assumption)) (by assumption) rfl)) ?_
    refine KD.v0 rfl rfl (Val.add rfl rfl (by simp only [Go.Proofs.YthamkgghnjenhaaGreat.lo, Go.Proofs.YthamkgghnjenhaaGreat.hi]; omega)) ?_
    refine KD.v0 rfl rfl (Val.assign rfl) ?_
    refine KD.nil ?_
    refine KE.blkN ?_
    refine KE.next ?_
    refine K.region ?_
    (refine KL.v rfl (Val.move rfl) ?_)
    (refine KL.v rfl (Val.add rfl rfl (by simp only [Go.Proofs.YthamkgghnjenhaaGreat.lo, Go.Proofs.YthamkgghnjenhaaGreat.hi]; omega)) ?_)
    (refine KL.v rfl (Val.assign rfl) ?_)
    refine KL.nil ?_
    exact KE.again (k + 1) (by rw [hnx]; exact bySub) byPart (by omega) (by omega)
  · have hkl : (objsD Q).take k = objsD Q := List.take_of_length_le (by omega)
    rw [hkl]
    refine K.seq ?_
    refine K.seq ?_
    refine K.region ?_
    (refine KL.v rfl (Val.move rfl) ?_)
    (refine KL.v rfl (Val.move rfl) ?_)
    (refine KL.v rfl (Val.lenSl rfl rfl (Sli.own byTakeL (by assumption) byLen)) ?_)
    (refine KL.v rfl (Val.isF (Val.lss rfl rfl) byLt) ?_)
    refine KL.nil ?_
    refine KE.next ?_
    refine K.condF rfl ?_
    refine K.exit ?_
    refine KE.passX ?_
    refine KE.passX ?_
    refine KE.blkX ?_
    refine KE.next ?_
    refine K.seq ?_
    refine K.region ?_
    (refine KL.v rfl (Val.move rfl) ?_)
    (refine KL.v rfl (Val.assign rfl) ?_)
    refine KL.nil ?_
    refine KE.next ?_
    refine K.ret ?_
    exact KE.fin byMarks rfl byRes byPart ⟨rfl, rfl⟩
/-- what an object takes; 0: none may be -/
def sizeD (Q : Dc) (a b : Int) : Int := if mayP 0 a b then (Q.cl[firstP (a + b + 1) Q.cl]?).getD 0 else 0
theorem RsizeN_K {w0 : World} {H : Heap} {d : DV} {Q : Dc} {a b : Int} (hD : DocR w0 d Q) (hB : DcB Q) : Call Tryz.prog w0 42 [docV d Q, .int .i64 a, .int .i64 b] H (fun r H' => r = .int .i64 (sizeD Q a b) ∧ H' = H) := by
  have a1 := hD.c.one
  have a2 := hD.t.one
  have a3 := hD.h.one
  have hc := hD.c
  have hcl8 : Q.cl.length ≤ 8 := by have := hB.cl; simp [classP] at this; omega
  unfold docV
  refine Call.enter3 (n := 50) (by kernel_rfl) Tryz.func42 rfl rfl rfl ?_
  by_cases h1 : a < 0
  · have hs : sizeD Q a b = 0 := by unfold sizeD; rw [if_neg (by simp [mayP]; omega)]
    refine K.seq ?_
    refine K.region ?_
    (refine KL.e rfl (Eff.box rfl rfl) ?_; rintro _ _ ⟨b3, rfl, rfl⟩)
    (refine KL.v rfl (Val.assign rfl) ?_)
    refine KL.nil ?_
    refine KE.next ?_
    refine K.seq ?_
    refine K.seq ?_
    refine K.region ?_
    (refine KL.v rfl (Val.move rfl) ?_)
    (refine KL.v rfl (Val.isT (Val.lss rfl rfl) byLt) ?_)
    (refine KL.v rfl (Val.move rfl) ?_)
    refine KL.skipG rfl rfl rfl ?_
    refine KL.skipG rfl rfl rfl ?_
    (refine KL.v rfl (Val.pickT rfl rfl rfl) ?_)
    (refine KL.v rfl (Val.move rfl) ?_)
    refine KL.skipG rfl rfl rfl ?_
    refine KL.skipG rfl rfl rfl ?_
    (refine KL.v rfl (Val.pickT rfl rfl rfl) ?_)
    (refine KL.v rfl (Val.move rfl) ?_)
    refine KL.skipG rfl rfl rfl ?_
    refine KL.skipG rfl rfl rfl ?_
    (refine KL.v rfl (Val.pickT rfl rfl rfl) ?_)
    (refine KL.v rfl (Val.move rfl) ?_)
    refine KL.skipG rfl rfl rfl ?_
    refine KL.skipG rfl rfl rfl ?_
    refine KL.skipG rfl rfl rfl ?_
    refine KL.skipG rfl rfl rfl ?_
    (refine KL.v rfl (Val.pickT rfl rfl rfl) ?_)
    refine KL.nil ?_
    refine KE.next ?_
    refine K.condT rfl ?_
    refine K.seq ?_
    refine K.region ?_
    (refine KL.v rfl (Val.assign rfl) ?_)
    refine KL.nil ?_
    refine KE.next ?_
    refine K.ret ?_
    refine KE.passR ?_
    exact KE.fin byMarks rfl byRes byPart ⟨by rw [hs]; rfl, rfl⟩
  by_cases h2 : b < 0
  · have hs : sizeD Q a b = 0 := by unfold sizeD; rw [if_neg (by simp [mayP]; omega)]
    refine K.seq ?_
    refine K.region ?_
    (refine KL.e rfl (Eff.box rfl rfl) ?_; rintro _ _ ⟨b3, rfl, rfl⟩)
    (refine KL.v rfl (Val.assign rfl) ?_)
    refine KL.nil ?_
    refine KE.next ?_
    refine K.seq ?_
    refine K.seq ?_
    refine K.region ?_
    (refine KL.v rfl (Val.move rfl) ?_)
    (refine KL.v rfl (Val.isF (Val.lss rfl rfl) byLt) ?_)
    (refine KL.v rfl (Val.move rfl) ?_)
    (refine KL.yes rfl rfl ?_; refine KL.v rfl (Val.move rfl) ?_)
    (refine KL.yes rfl rfl ?_; refine KL.v rfl (Val.isT (Val.lss rfl rfl) byLt) ?_)
    (refine KL.v rfl (Val.pickF rfl rfl rfl) ?_)
    (refine KL.v rfl (Val.move rfl) ?_)
    refine KL.skipG rfl rfl rfl ?_
    refine KL.skipG rfl rfl rfl ?_
    (refine KL.v rfl (Val.pickT rfl rfl rfl) ?_)
    (refine KL.v rfl (Val.move rfl) ?_)
    refine KL.skipG rfl rfl rfl ?_
    refine KL.skipG rfl rfl rfl ?_
    (refine KL.v rfl (Val.pickT rfl rfl rfl) ?_)
    (refine KL.v rfl (Val.move rfl) ?_)
    refine KL.skipG rfl rfl rfl ?_
    refine KL.skipG rfl rfl rfl ?_
    refine KL.skipG rfl rfl rfl ?_
    refine KL.skipG rfl rfl rfl ?_
    (refine KL.v rfl (Val.pickT rfl rfl rfl) ?_)
    refine KL.nil ?_
    refine KE.next ?_
    refine K.condT rfl ?_
    refine K.seq ?_
    refine K.region ?_
    (refine KL.v rfl (Val.assign rfl) ?_)
    refine KL.nil ?_
    refine KE.next ?_
    refine K.ret ?_
    refine KE.passR ?_
    exact KE.fin byMarks rfl byRes byPart ⟨by rw [hs]; rfl, rfl⟩
  by_cases h3 : a > 63
  · have hs : sizeD Q a b = 0 := by unfold sizeD; rw [if_neg (by simp [mayP]; omega)]
    refine K.seq ?_
    refine K.region ?_
    (refine KL.e rfl (Eff.box rfl rfl) ?_; rintro _ _ ⟨b3, rfl, rfl⟩)
    (refine KL.v rfl (Val.assign rfl) ?_)
    refine KL.nil ?_
    refine KE.next ?_
    refine K.seq ?_
    refine K.seq ?_
    refine K.region ?_
    (refine KL.v rfl (Val.move rfl) ?_)
    (refine KL.v rfl (Val.isF (Val.lss rfl rfl) byLt) ?_)
    (refine KL.v rfl (Val.move rfl) ?_)
    (refine KL.yes rfl rfl ?_; refine KL.v rfl (Val.move rfl) ?_)
    (refine KL.yes rfl rfl ?_; refine KL.v rfl (Val.isF (Val.lss rfl rfl) byLt) ?_)
    (refine KL.v rfl (Val.pickF rfl rfl rfl) ?_)
    (refine KL.v rfl (Val.move rfl) ?_)
    (refine KL.yes rfl rfl ?_; refine KL.v rfl (Val.move rfl) ?_)
    (refine KL.yes rfl rfl ?_; refine KL.v rfl (Val.isT (Val.gtr rfl rfl) byLt) ?_)
    (refine KL.v rfl (Val.pickF rfl rfl rfl) ?_)
    (refine KL.v rfl (Val.move rfl) ?_)
    refine KL.skipG rfl rfl rfl ?_
    refine KL.skipG rfl rfl rfl ?_
    (refine KL.v rfl (Val.pickT rfl rfl rfl) ?_)
    (refine KL.v rfl (Val.move rfl) ?_)
    refine KL.skipG rfl rfl rfl ?_
    refine KL.skipG rfl rfl rfl ?_
    refine KL.skipG rfl rfl rfl ?_
    refine KL.skipG rfl rfl rfl ?_
    (refine KL.v rfl (Val.pickT rfl rfl rfl) ?_)
    refine KL.nil ?_
    refine KE.next ?_
    refine K.condT rfl ?_
    refine K.seq ?_
    refine K.region ?_
    (refine KL.v rfl (Val.assign rfl) ?_)
    refine KL.nil ?_
    refine KE.next ?_
    refine K.ret ?_
    refine KE.passR ?_
    exact KE.fin byMarks rfl byRes byPart ⟨by rw [hs]; rfl, rfl⟩
  by_cases h4 : b > 63
  · have hs : sizeD Q a b = 0 := by unfold sizeD; rw [if_neg (by simp [mayP]; omega)]
    refine K.seq ?_
    refine K.region ?_
    (refine KL.e rfl (Eff.box rfl rfl) ?_; rintro _ _ ⟨b3, rfl, rfl⟩)
    (refine KL.v rfl (Val.assign rfl) ?_)
    refine KL.nil ?_
    refine KE.next ?_
    refine K.seq ?_
    refine K.seq ?_
    refine K.region ?_
    (refine KL.v rfl (Val.move rfl) ?_)
    (refine KL.v rfl (Val.isF (Val.lss rfl rfl) byLt) ?_)
    (refine KL.v rfl (Val.move rfl) ?_)
    (refine KL.yes rfl rfl ?_; refine KL.v rfl (Val.move rfl) ?_)
    (refine KL.yes rfl rfl ?_; refine KL.v rfl (Val.isF (Val.lss rfl rfl) byLt) ?_)
    (refine KL.v rfl (Val.pickF rfl rfl rfl) ?_)
    (refine KL.v rfl (Val.move rfl) ?_)
    (refine KL.yes rfl rfl ?_; refine KL.v rfl (Val.move rfl) ?_)
    (refine KL.yes rfl rfl ?_; refine KL.v rfl (Val.isF (Val.gtr rfl rfl) byLt) ?_)
    (refine KL.v rfl (Val.pickF rfl rfl rfl) ?_)
    (refine KL.v rfl (Val.move rfl) ?_)
    (refine KL.yes rfl rfl ?_; refine KL.v rfl (Val.move rfl) ?_)
    (refine KL.yes rfl rfl ?_; refine KL.v rfl (Val.isT (Val.gtr rfl rfl) byLt) ?_)
    (refine KL.v rfl (Val.pickF rfl rfl rfl) ?_)
    (refine KL.v rfl (Val.move rfl) ?_)
    refine KL.skipG rfl rfl rfl ?_
    refine KL.skipG rfl rfl rfl ?_
    refine KL.skipG rfl rfl rfl ?_
    refine KL.skipG rfl rfl rfl ?_
    (refine KL.v rfl (Val.pickT rfl rfl rfl) ?_)
    refine KL.nil ?_
    refine KE.next ?_
    refine K.condT rfl ?_
    refine K.seq ?_
    refine K.region ?_
    (refine KL.v rfl (Val.assign rfl) ?_)
    refine KL.nil ?_
    refine KE.next ?_
    refine K.ret ?_
    refine KE.passR ?_
    exact KE.fin byMarks rfl byRes byPart ⟨by rw [hs]; rfl, rfl⟩
  by_cases h5 : a + b > 63
  · have hs : sizeD Q a b = 0 := by unfold sizeD; rw [if_neg (by simp [mayP]; omega)]
    refine K.seq ?_
    refine K.region ?_
    (refine KL.e rfl (Eff.box rfl rfl) ?_; rintro _ _ ⟨b3, rfl, rfl⟩)
    (refine KL.v rfl (Val.assign rfl) ?_)
    refine KL.nil ?_
    refine KE.next ?_
    refine K.seq ?_
    refine K.seq ?_
    refine K.region ?_
    (refine KL.v rfl (Val.move rfl) ?_)
    (refine KL.v rfl (Val.isF (Val.lss rfl rfl) byLt) ?_)
    (refine KL.v rfl (Val.move rfl) ?_)
    (refine KL.yes rfl rfl ?_; refine KL.v rfl (Val.move rfl) ?_)
    (refine KL.yes rfl rfl ?_; refine KL.v rfl (Val.isF (Val.lss rfl rfl) byLt) ?_)
    (refine KL.v rfl (Val.pickF rfl rfl rfl) ?_)
    (refine KL.v rfl (Val.move rfl) ?_)
    (refine KL.yes rfl rfl ?_; refine KL.v rfl (Val.move rfl) ?_)
    (refine KL.yes rfl rfl ?_; refine KL.v rfl (Val.isF (Val.gtr rfl rfl) byLt) ?_)
    (refine KL.v rfl (Val.pickF rfl rfl rfl) ?_)
    (refine KL.v rfl (Val.move rfl) ?_)
    (refine KL.yes rfl rfl ?_; refine KL.v rfl (Val.move rfl) ?_)
    (refine KL.yes rfl rfl ?_; refine KL.v rfl (Val.isF (Val.gtr rfl rfl) byLt) ?_)
    (refine KL.v rfl (Val.pickF rfl rfl rfl) ?_)
    (refine KL.v rfl (Val.move rfl) ?_)
    (refine KL.yes rfl rfl ?_; refine KL.v rfl (Val.move rfl) ?_)
    (refine KL.yes rfl rfl ?_; refine KL.v rfl (Val.move rfl) ?_)
    (refine KL.yes rfl rfl ?_; refine KL.v rfl (Val.add rfl rfl (by simp only [Go.Proofs.YthamkgghnjenhaaGreat.lo, Go.Proofs.YthamkgghnjenhaaGreat.hi]; omega)) ?_)
    (refine KL.yes rfl rfl ?_; refine KL.v rfl (Val.isT (Val.gtr rfl rfl) byLt) ?_)
    (refine KL.v rfl (Val.pickF rfl rfl rfl) ?_)
    refine KL.nil ?_
    refine KE.next ?_
    refine K.condT rfl ?_
    refine K.seq ?_
    refine K.region ?_
    (refine KL.v rfl (Val.assign rfl) ?_)
    refine KL.nil ?_
    refine KE.next ?_
    refine K.ret ?_
    refine KE.passR ?_
    exact KE.fin byMarks rfl byRes byPart ⟨by rw [hs]; rfl, rfl⟩
  have hs : sizeD Q a b = (Q.cl[firstP (a + b + 1) Q.cl]?).getD 0 := by unfold sizeD; rw [if_pos (by simp [mayP]; omega)]
  have hfl := first_le (a + b + 1) Q.cl
  refine K.seq ?_
  refine K.region ?_
  (refine KL.e rfl (Eff.box rfl rfl) ?_; rintro _ _ ⟨b3, rfl, rfl⟩)
  (refine KL.v rfl (Val.assign rfl) ?_)
  refine KL.nil ?_
  refine KE.next ?_
  refine K.seq ?_
  refine K.seq ?_
  refine K.region ?_
  (refine KL.v rfl (Val.move rfl) ?_)
  (refine KL.v rfl (Val.isF (Val.lss rfl rfl) byLt) ?_)
  (refine KL.v rfl (Val.move rfl) ?_)
  (refine KL.yes rfl rfl ?_; refine KL.v rfl (Val.move rfl) ?_)
  (refine KL.yes rfl rfl ?_; refine KL.v rfl (Val.isF (Val.lss rfl rfl) byLt) ?_)
  (refine KL.v rfl (Val.pickF rfl rfl rfl) ?_)
  (refine KL.v rfl (Val.move rfl) ?_)
  (refine KL.yes rfl rfl ?_; refine KL.v rfl (Val.move rfl) ?_)
  (refine KL.yes rfl rfl ?_; refine KL.v rfl (Val.isF (Val.gtr rfl rfl) byLt) ?_)
  (refine KL.v rfl (Val.pickF rfl rfl rfl) ?_)
  (refine KL.v rfl (Val.move rfl) ?_)
  (refine KL.yes rfl rfl ?_; refine KL.v rfl (Val.move rfl) ?_)
  (refine KL.yes rfl rfl ?_; refine KL.v rfl (Val.isF (Val.gtr rfl rfl) byLt) ?_)
  (refine KL.v rfl (Val.pickF rfl rfl rfl) ?_)
  (refine KL.v rfl (Val.move rfl) ?_)
  (refine KL.yes rfl rfl ?_; refine KL.v rfl (Val.move rfl) ?_)
  (refine KL.yes rfl rfl ?_; refine KL.v rfl (Val.move rfl) ?_)
  (refine KL.yes rfl rfl ?_; refine KL.v rfl (Val.add rfl rfl (by simp only [Go.Proofs.YthamkgghnjenhaaGreat.lo, Go.Proofs.YthamkgghnjenhaaGreat.hi]; omega)) ?_)
  (refine KL.yes rfl rfl ?_; refine KL.v rfl (Val.isF (Val.gtr rfl rfl) byLt) ?_)
  (refine KL.v rfl (Val.pickF rfl rfl rfl) ?_)
  refine KL.nil ?_
  refine KE.next ?_
  refine K.condF rfl ?_
  refine K.skip ?_
  refine KE.next ?_
  refine K.seq ?_
  refine K.seq ?_
  refine K.region ?_
  (refine KL.v rfl (Val.assign rfl) ?_)
  refine KL.nil ?_
  refine KE.next ?_
  refine K.block ?_
  refine K.loopT (σ := Nat) [(1, _), (2, _), (3, _)] (fun s kp_ => (7, .int .i64 (s : Nat)) :: kp_) (fun s => (b3, cells [d.vc, .int .i64 Q.quota, .int .i64 Q.caps, d.vt, d.vh] 35) :: H) (fun s => s ≤ firstP (a + b + 1) Q.cl) (fun s => Q.cl.length - s) (0) bySub byPart (by omega) ?_
  rintro k hk
  by_cases hkl : k < Q.cl.length
  · obtain ⟨x, hx⟩ := get_of_lt hkl
    have hsp := first_spec (n := a + b + 1) hx
    by_cases hkf : k = firstP (a + b + 1) Q.cl
    · have hge : x ≥ a + b + 1 := by have := hsp.2 hkf; omega
      have hxe : sizeD Q a b = x := by rw [hs, ← hkf, hx]; rfl
      refine K.seq ?_
      refine K.seq ?_
      refine K.region ?_
      (refine KL.v rfl (Val.move rfl) ?_)
      (refine KL.v rfl (Val.fieldAddr0 (k := 0) rfl rfl) ?_)
      (refine KL.v rfl (Val.loadP rfl rfl (Sees.cell byTake rfl)) ?_)
      (refine KL.v rfl (Val.lenSl rfl rfl bySli) ?_)
      (refine KL.v rfl (Val.isT (Val.lss rfl rfl) byLt) ?_)
      refine KL.nil ?_
      refine KE.next ?_
      refine K.condT rfl ?_
      refine K.skip ?_
      refine KE.next ?_
      refine K.seq ?_
      refine K.block ?_
      refine K.seq ?_
      refine K.region ?_
      (refine KL.v rfl (Val.fieldAddr0 (k := 0) rfl rfl) ?_)
      (refine KL.v rfl (Val.loadP rfl rfl (Sees.cell byTake rfl)) ?_)
      (refine KL.v rfl (Val.move rfl) ?_)
      (refine KL.v rfl (Val.idxSl rfl rfl rfl bySli rfl byLt) ?_)
      (refine KL.v rfl (Val.loadP rfl rfl (Sees.sl0 (Sli.old (by assumption)) (by assumption) rfl)) ?_)
      (refine KL.v rfl (Val.move rfl) ?_)
      (refine KL.v rfl (Val.move rfl) ?_)
      (refine KL.v rfl (Val.add rfl rfl (by simp only [Go.Proofs.YthamkgghnjenhaaGreat.lo, Go.Proofs.YthamkgghnjenhaaGreat.hi]; omega)) ?_)
      (refine KL.v rfl (Val.add rfl rfl (by simp only [Go.Proofs.YthamkgghnjenhaaGreat.lo, Go.Proofs.YthamkgghnjenhaaGreat.hi]; omega)) ?_)
      (refine KL.v rfl (Val.isT (Val.geq rfl rfl) byLt) ?_)
      refine KL.nil ?_
      refine KE.next ?_
      refine K.condT rfl ?_
      refine K.seq ?_
      refine K.region ?_
      (refine KL.v rfl (Val.fieldAddr0 (k := 0) rfl rfl) ?_)
      (refine KL.v rfl (Val.loadP rfl rfl (Sees.cell byTake rfl)) ?_)
      (refine KL.v rfl (Val.move rfl) ?_)
      (refine KL.v rfl (Val.idxSl rfl rfl rfl bySli rfl byLt) ?_)
      (refine KL.v rfl (Val.loadP rfl rfl (Sees.sl0 (Sli.old (by assumption)) (by assumption) rfl)) ?_)
      (refine KL.v rfl (Val.assign rfl) ?_)
      refine KL.nil ?_
      refine KE.next ?_
      refine K.ret ?_
      refine KE.blkR ?_
      refine KE.passR ?_
      refine KE.passR ?_
      refine KE.blkR ?_
      refine KE.passR ?_
      exact KE.fin byMarks rfl byRes byPart ⟨by rw [hxe]; rfl, rfl⟩
    · have hge : ¬ x ≥ a + b + 1 := by have := hsp.1 (by omega); omega
      refine K.seq ?_
      refine K.seq ?_
      refine K.region ?_
      (refine KL.v rfl (Val.move rfl) ?_)
      (refine KL.v rfl (Val.fieldAddr0 (k := 0) rfl rfl) ?_)
      (refine KL.v rfl (Val.loadP rfl rfl (Sees.cell byTake rfl)) ?_)
      (refine KL.v rfl (Val.lenSl rfl rfl bySli) ?_)
      (refine KL.v rfl (Val.isT (Val.lss rfl rfl) byLt) ?_)
      refine KL.nil ?_
      refine KE.next ?_
      refine K.condT rfl ?_
      refine K.skip ?_
      refine KE.next ?_
      refine K.seq ?_
      refine K.block ?_
      refine K.seq ?_
      refine K.region ?_
      (refine KL.v rfl (Val.fieldAddr0 (k := 0) rfl rfl) ?_)
      (refine KL.v rfl (Val.loadP rfl rfl (Sees.cell byTake rfl)) ?_)
      (refine KL.v rfl (Val.move rfl) ?_)
      (refine KL.v rfl (Val.idxSl rfl rfl rfl bySli rfl byLt) ?_)
      (refine KL.v rfl (Val.loadP rfl rfl (Sees.sl0 (Sli.old (by assumption)) (by assumption) rfl)) ?_)
      (refine KL.v rfl (Val.move rfl) ?_)
      (refine KL.v rfl (Val.move rfl) ?_)
      (refine KL.v rfl (Val.add rfl rfl (by simp only [Go.Proofs.YthamkgghnjenhaaGreat.lo, Go.Proofs.YthamkgghnjenhaaGreat.hi]; omega)) ?_)
      (refine KL.v rfl (Val.add rfl rfl (by simp only [Go.Proofs.YthamkgghnjenhaaGreat.lo, Go.Proofs.YthamkgghnjenhaaGreat.hi]; omega)) ?_)
      (refine KL.v rfl (Val.isF (Val.geq rfl rfl) byLt) ?_)
      refine KL.nil ?_
      refine KE.next ?_
      refine K.condF rfl ?_
      refine K.skip ?_
      refine KE.blkN ?_
      refine KE.next ?_
      refine K.region ?_
      (refine KL.v rfl (Val.move rfl) ?_)
      (refine KL.v rfl (Val.add rfl rfl (by simp only [Go.Proofs.YthamkgghnjenhaaGreat.lo, Go.Proofs.YthamkgghnjenhaaGreat.hi]; omega)) ?_)
      (refine KL.v rfl (Val.assign rfl) ?_)
      refine KL.nil ?_
      exact KE.again (k + 1) bySub byPart (by omega) (by omega)
  · have hxe : sizeD Q a b = 0 := by rw [hs, List.getElem?_eq_none (by omega)]; rfl
    refine K.seq ?_
    refine K.seq ?_
    refine K.region ?_
    (refine KL.v rfl (Val.move rfl) ?_)
    (refine KL.v rfl (Val.fieldAddr0 (k := 0) rfl rfl) ?_)
    (refine KL.v rfl (Val.loadP rfl rfl (Sees.cell byTake rfl)) ?_)
    (refine KL.v rfl (Val.lenSl rfl rfl bySli) ?_)
    (refine KL.v rfl (Val.isF (Val.lss rfl rfl) byLt) ?_)
    refine KL.nil ?_
    refine KE.next ?_
    refine K.condF rfl ?_
    refine K.exit ?_
    refine KE.passX ?_
    refine KE.passX ?_
    refine KE.blkX ?_
    refine KE.next ?_
    refine K.seq ?_
    refine K.region ?_
    (refine KL.v rfl (Val.assign rfl) ?_)
    refine KL.nil ?_
    refine KE.next ?_
    refine K.ret ?_
    exact KE.fin byMarks rfl byRes byPart ⟨by rw [hxe]; rfl, rfl⟩
def mintD (Q : Dc) (id : Int) : Dc × Sd := if Q.caps ≤ ((liveD Q).length : Nat) then (Q, ⟨131, 0, 0⟩) else ({ Q with hs := Q.hs ++ [id] }, ⟨0, (Q.hs.length : Int) + 1, 0⟩)
theorem liveD_len (Q : Dc) : (liveD Q).length ≤ Q.hs.length := liveK_len Q _
end Go.Proofs.YthamkgghnjenhaaGreat
namespace Go.Proofs.YthamkgghnjenhaaGreat
open Go.RowKit
set_option linter.unusedVariables false
set_option linter.unusedSimpArgs false
set_option maxRecDepth 10000

/-- a memory that lies in a world -/
def HasH (N : Heap) (w : World) : Prop := ∀ p, p ∈ N → w.heap[p.1]? = some p.2
theorem HF.has {w0 w : World} {H : Heap} (h : HF w0 H w) : HasH H w := h.get
theorem HasH.part {N N' : Heap} {w : World} (h : HasH N w) (hp : Part N N') : HasH N' w := fun p hm => h p (hp.mem p hm)
theorem HasH.own {α : Type} {E : Enc α} {e : TypeId} {xs : List α} {o : Own} {n : Nat} {w : World} (h : HasH (oH E e xs o) w) (ok : oOk E xs o) (hn : n = xs.length) : SlW w E (oV o n) xs := by
  subst hn
  cases o with
  | none => simp only [oOk] at ok; subst ok; exact SlW.nil _ _
  | some o =>
    obtain ⟨h1, h2, h3⟩ := ok
    refine ⟨⟨_, _, rfl, h1, h2, fun _ => ⟨_, _, rfl⟩⟩, ?_⟩
    intro i x hx j u hu
    have hb : w.heap[o.b]? = some (cells (flat E xs ++ o.tl) e) := h (o.b, cells (flat E xs ++ o.tl) e) (by simp [oH])
    have hg := flat_get hx hu
    have hlt := (List.getElem?_eq_some_iff.1 hg).1
    simp only [adr, oV, World.cell?, hb, Nat.zero_add]
    simp [List.getElem?_append_left hlt, hg]
/-- what a function of the document gives: a store that reads so wherever the given one does and the new memory lies -/
structure DvO (d : DV) : Prop where
  c : d.vc.oneCell' = true
  t : d.vt.oneCell' = true
  h : d.vh.oneCell' = true
theorem DocR.one {w : World} {d : DV} {Q : Dc} (h : DocR w d Q) : DvO d := ⟨h.c.one, h.t.one, h.h.one⟩
def GivesD (d : DV) (Q Q' : Dc) (r : Sd) : Value → Heap → Prop := fun v N => ∃ d', v = .tuple [docV d' Q', sdV r].toArray ∧ DvO d' ∧ ∀ w, DocR w d Q → HasH N w → DocR w d' Q'
theorem Rmint_K {w0 : World} {d : DV} {Q : Dc} {id : Int} (hD : DocR w0 d Q) (hB : DcB Q) : Call Tryz.prog w0 43 [docV d Q, .int .i64 id] [] (GivesD d Q (mintD Q id).1 (mintD Q id).2) := by
  have a1 := hD.c.one
  have a2 := hD.t.one
  have a3 := hD.h.one
  have hl := hB.hs
  have hll := liveD_len Q
  have hh := hD.h
  unfold docV
  refine Call.enter2 (n := 28) (by kernel_rfl) Tryz.func43 rfl rfl rfl ?_
  refine K.seq ?_
  refine K.region ?_
  (refine KL.e rfl (Eff.box rfl rfl) ?_; rintro _ _ ⟨b2, rfl, rfl⟩)
  (refine KL.e rfl (Eff.alloc rfl) ?_; rintro _ _ ⟨b4, rfl, rfl⟩)
  (refine KL.e rfl (Eff.alloc rfl) ?_; rintro _ _ ⟨b5, rfl, rfl⟩)
  refine KL.nil ?_
  refine KE.next ?_
  refine K.seq ?_
  refine K.seq ?_
  refine K.drawn _ [(0, 0), (3, 1), (4, 1), (1, 2), (2, 0), (5, 0)] (by kernel_rfl) (by kernel_rfl) (by kernel_rfl) (by kernel_rfl) (by kernel_rfl) (by kernel_rfl) Part.all ?_
  refine KD.v0 rfl rfl (Val.loadA rfl rfl rfl bySeeN) ?_
  refine KD.v1 rfl rfl (Val.fieldAddr0 (k := 2) rfl rfl) ?_
  refine KD.v1 rfl rfl (Val.loadP rfl rfl (Sees.cell byTake rfl)) ?_
  refine KD.callc rfl rfl rfl byEvL fun T hT => ?_
  refine (CallV.pure fun w hw => CallV.fn (RLive_K (hD.only hw.old) hB)).mono ?_
  rintro _ _ ⟨_, ⟨o, oko, rfl, rfl⟩, rfl⟩
  refine hT _ _ byPart ?_; clear hT; clear T
  by_cases hc : Q.caps ≤ ((liveD Q).length : Nat)
  · have hm : mintD Q id = (Q, ⟨131, 0, 0⟩) := by unfold mintD; rw [if_pos hc]
    rw [hm]
    refine KD.v0 rfl rfl (Val.lenSl rfl rfl (Sli.own byTakeL (by assumption) byLen)) ?_
    refine KD.v0 rfl rfl (Val.isT (Val.geq rfl rfl) byLt) ?_
    refine KD.nil ?_
    refine KE.next ?_
    refine K.condT rfl ?_
    refine K.seq ?_
    refine K.drawn _ [(0, 1), (1, 2), (2, 2), (3, 2)] (by kernel_rfl) (by kernel_rfl) (by kernel_rfl) (by kernel_rfl) (by kernel_rfl) (by kernel_rfl) (Part.takeA TakeL.head (Part.drop (Part.drop Part.all))) ?_
    refine KD.v1 rfl rfl (Val.loadA rfl rfl rfl bySeeN) ?_
    refine KD.callc rfl rfl rfl byEvL fun T hT => ?_
    (refine (CallV.fn said_K).mono ?_; rintro _ _ ⟨rfl, rfl⟩; unfold sdV; dsimp only)
    (refine hT _ _ byPart ?_; clear hT; clear T)
    (refine KD.eN rfl (Eff.storeAL rfl rfl rfl byTake byLay byOnes) ?_; rintro _ _ rfl; refine ⟨byPart, ?_⟩)
    (refine KD.eN rfl (Eff.storeAL rfl rfl rfl byTake byLay byOnes) ?_; rintro _ _ rfl; refine ⟨byPart, ?_⟩)
    refine KD.nil ?_
    refine KE.next ?_
    refine K.ret ?_
    refine KE.passR ?_
    exact KE.fin byMarks rfl byRes byPart ⟨d, rfl, hD.one, fun w h _ => h⟩
  · have hm : mintD Q id = ({ Q with hs := Q.hs ++ [id] }, ⟨0, (Q.hs.length : Int) + 1, 0⟩) := by unfold mintD; rw [if_neg hc]
    have hbd : (Q.hs ++ [id]).length ≤ 4294967296 := by simp only [List.length_append, List.length_singleton]; omega
    have hlen : (((Q.hs ++ [id]).length : Nat) : Int) = (Q.hs.length : Int) + 1 := by simp only [List.length_append, List.length_singleton]; omega
    rw [hm]
    refine KD.v0 rfl rfl (Val.lenSl rfl rfl (Sli.own byTakeL (by assumption) byLen)) ?_
    refine KD.v0 rfl rfl (Val.isF (Val.geq rfl rfl) byLt) ?_
    refine KD.nil ?_
    refine KE.next ?_
    refine K.condF rfl ?_
    refine K.skip ?_
    refine KE.next ?_
    refine K.seq ?_
    refine K.region ?_
    (refine KL.e rfl (Eff.buildS byParts rfl rfl rfl rfl rfl byFill) ?_; rintro _ _ ⟨b14, rfl, rfl⟩)
    (refine KL.v rfl (Val.fieldAddr0 (k := 4) rfl rfl) ?_)
    (refine KL.v rfl (Val.loadP rfl rfl (Sees.cell byTake rfl)) ?_)
    (refine KL.e rfl (Eff.appLit (E := iE) (ys := Q.hs) rfl rfl rfl rfl rfl rfl rfl byTake (by first | exact Sli.blk byTake rfl (by first | decide | simp) (by first | decide | (unfold maxLen; omega)) rfl | exact Sli.old (by assumption) | exact Sli.own byTakeL (by assumption) byLen | assumption | exact Sli.part (by assumption) byPart) (by first | assumption | omega | (simp <;> fail) | (simp; omega)) rfl) ?_; rintro _ _ ⟨o', ok', rfl, rfl⟩)
    (refine KL.v rfl (Val.move rfl) ?_)
    (refine KL.v rfl (Val.build byParts rfl rfl byFill) ?_)
    (refine KL.e rfl (Eff.buildS byParts rfl rfl rfl rfl rfl byFill) ?_; rintro _ _ ⟨b20, rfl, rfl⟩)
    (refine KL.e rfl (Eff.appZ (ys := [_]) rfl rfl rfl rfl rfl rfl byTakeL (by assumption) (by first | exact Sli.blk byTake rfl (by first | decide | simp) (by first | decide | (unfold maxLen; omega)) rfl | exact Sli.old (by assumption) | exact Sli.own byTakeL (by assumption) byLen | assumption | exact Sli.part (by assumption) byPart) rfl (by first | assumption | omega | (simp <;> fail) | (simp; omega)) rfl) ?_; rintro _ _ ⟨o21, ok21, rfl, rfl⟩)
    (refine KL.v rfl (Val.fieldAddr0 (k := 4) rfl rfl) ?_)
    (refine KL.eN (Eff.storeL rfl rfl byOne rfl byTake bySetAt) ?_; rintro _ _ rfl)
    refine KL.nil ?_
    refine KE.next ?_
    refine K.seq ?_
    refine K.drawn _ [(0, 0), (1, 1), (2, 1), (3, 1), (4, 1), (5, 2), (6, 2)] (by kernel_rfl) (by kernel_rfl) (by kernel_rfl) (by kernel_rfl) (by kernel_rfl) (by kernel_rfl) (Part.take Take.head (Part.takeA TakeL.head (Part.take Take.head (Part.takeA TakeL.head (Part.drop (Part.drop Part.all)))))) ?_
    refine KD.v0 rfl rfl (Val.loadA rfl rfl rfl bySeeN) ?_
    refine KD.v1 rfl rfl (Val.fieldAddr0 (k := 4) rfl rfl) ?_
    refine KD.v1 rfl rfl (Val.loadP rfl rfl (Sees.cell byTake rfl)) ?_
    refine KD.v1 rfl rfl (Val.lenSl rfl rfl (Sli.own byTakeL (by assumption) byLen)) ?_
    refine KD.v1 rfl rfl (Val.build byParts rfl rfl byFill) ?_
    (refine KD.eN rfl (Eff.storeAL rfl rfl rfl byTake byLay byOnes) ?_; rintro _ _ rfl; refine ⟨byPart, ?_⟩)
    (refine KD.eN rfl (Eff.storeAL rfl rfl rfl byTake byLay byOnes) ?_; rintro _ _ rfl; refine ⟨byPart, ?_⟩)
    refine KD.nil ?_
    refine KE.next ?_
    refine K.ret ?_
    rw [hlen]
    exact KE.fin (H' := oH iE 70 (Q.hs ++ [id]) o21 ++ []) byMarks rfl byRes byPart ⟨⟨d.vc, d.vt, oV o21 (Q.hs ++ [id]).length, d.T⟩, rfl, ⟨a1, a2, oV_one _ _⟩, fun w h hN => ⟨h.c, h.t, h.x, h.r, h.u, (hN.part byPart).own ok21 rfl⟩⟩
/-- classes that may be, as the document has it -/
theorem rise_of : ∀ {l : List Int} {a : Int}, (∀ x, l[0]? = some x → a < x) → (∀ j x y, l[j]? = some x → l[j + 1]? = some y → x < y) → riseP a l = true
  | [], _, _, _ => rfl
  | x :: l, a, h0, hp => by
    simp only [riseP, decide_eq_true (h0 x rfl), Bool.true_and]
    exact rise_of (fun y hy => hp 0 x y rfl (by simpa using hy)) (fun j y z hy hz => hp (j + 1) y z (by simpa using hy) (by simpa using hz))
theorem class_of {l : List Int} (h : ∀ j x, j < l.length → l[j]? = some x → 2 ≤ x ∧ x ≤ 64 ∧ ∀ y, 1 ≤ j → l[j - 1]? = some y → y < x) : classP l = (decide (1 ≤ l.length) && decide (l.length ≤ 8)) := by
  have h1 : riseP 1 l = true := rise_of (fun x hx => by have := (h 0 x (lt_of_get hx) hx).1; omega) (fun j x y hx hy => (h (j + 1) y (lt_of_get hy) hy).2.2 x (by omega) hx)
  have h2 : decide ((l.getLast?).getD 65 ≤ 64) = true ∨ l = [] := by
    cases hl : l.getLast? with
    | none => exact .inr (List.getLast?_eq_none_iff.1 hl)
    | some z =>
      left
      rw [List.getLast?_eq_getElem?] at hl
      have := (h _ z (lt_of_get hl) hl).2.1
      simp; omega
  unfold classP
  rcases h2 with h2 | rfl
  · rw [h1, h2]; simp
  · rfl
theorem class_bad {l : List Int} {j : Nat} {x : Int} (hx : l[j]? = some x) (h : x < 2 ∨ 64 < x ∨ ∃ y, 1 ≤ j ∧ l[j - 1]? = some y ∧ x ≤ y) : classP l = false := by
  cases hc : classP l with
  | false => rfl
  | true =>
    exfalso
    have hcc := hc
    simp only [classP, Bool.and_eq_true, decide_eq_true_eq] at hcc
    have hp := rise_pair hcc.2
    have h1 := hp.1 x (List.mem_of_getElem? hx)
    rcases h with h | h | ⟨y, hj, hy, hxy⟩
    · omega
    · cases hgl : l.getLast? with
      | none => rw [List.getLast?_eq_none_iff] at hgl; subst hgl; simp at hx
      | some z =>
        have hz : z ≤ 64 := by have := hcc.1.2; rw [hgl] at this; simpa using this
        rw [List.getLast?_eq_getElem?] at hgl
        have := class_mono hc (show j ≤ l.length - 1 by have := lt_of_get hx; omega) hx hgl
        omega
    · obtain ⟨g1, e1⟩ := List.getElem?_eq_some_iff.1 hy
      obtain ⟨g2, e2⟩ := List.getElem?_eq_some_iff.1 hx
      have := List.pairwise_iff_getElem.1 hp.2 (j - 1) j g1 g2 (by omega)
      omega
theorem Classes_K {w0 : World} {H : Heap} {v : Value} {l : List Int} (hS : SlW w0 iE v l) (hl : l.length ≤ 1000) : Call Tryz.prog w0 18 [v] H (fun r H' => r = .bool (classP l) ∧ H' = H) := by
  refine Call.enter1 (n := 46) (by kernel_rfl) Tryz.func18 rfl rfl rfl ?_
  refine K.seq ?_
  refine K.region ?_
  (refine KL.v rfl (Val.assign rfl) ?_)
  refine KL.nil ?_
  refine KE.next ?_
  refine K.seq ?_
  refine K.seq ?_
  refine K.region ?_
  (refine KL.v rfl (Val.assign rfl) ?_)
  refine KL.nil ?_
  refine KE.next ?_
  refine K.block ?_
  refine K.loopT (σ := Nat) [(0, _)] (fun s kp_ => (3, .int .i64 (s : Nat)) :: kp_) (fun s => H) (fun s => s ≤ l.length ∧ ∀ j x, j < s → l[j]? = some x → 2 ≤ x ∧ x ≤ 64 ∧ ∀ y, 1 ≤ j → l[j - 1]? = some y → y < x) (fun s => l.length - s) (0) bySub byPart (⟨by omega, fun j x hj => by omega⟩) ?_
  rintro k ⟨hk, hall⟩
  by_cases hlt : k < l.length
  · obtain ⟨x, hx⟩ := get_of_lt hlt
    by_cases h1 : x < 2
    · have hc := class_bad hx (.inl h1)
      refine K.seq ?_
      refine K.seq ?_
      refine K.region ?_
      (refine KL.v rfl (Val.move rfl) ?_)
      (refine KL.v rfl (Val.move rfl) ?_)
      (refine KL.v rfl (Val.lenSl rfl rfl (Sli.old (by assumption))) ?_)
      (refine KL.v rfl (Val.isT (Val.lss rfl rfl) byLt) ?_)
      refine KL.nil ?_
      refine KE.next ?_
      refine K.condT rfl ?_
      refine K.skip ?_
      refine KE.next ?_
      refine K.seq ?_
      refine K.block ?_
      refine K.seq ?_
      refine K.drawn [] [(0, 0), (1, 0), (2, 0), (3, 0), (4, 0), (5, 0), (6, 0), (7, 0), (8, 0), (9, 0), (10, 0), (11, 0), (12, 0), (13, 0), (14, 0), (15, 0), (16, 0), (17, 0), (18, 0), (19, 0), (20, 0), (21, 0), (22, 0), (23, 0), (24, 0), (25, 0), (26, 0), (27, 0)] (by kernel_rfl) (by kernel_rfl) (by kernel_rfl) (by kernel_rfl) (by kernel_rfl) (by kernel_rfl) Part.nil ?_
      refine KD.v0 rfl rfl (Val.move rfl) ?_
      refine KD.v0 rfl rfl (Val.move rfl) ?_
      refine KD.v0 rfl rfl (Val.idxSl rfl rfl rfl (Sli.old (by assumption)) rfl byLt) ?_
      refine KD.v0 rfl rfl (Val.loadP rfl rfl (Sees.sl0 (Sli.old (by assumption)) (by assumption) rfl)) ?_
      refine KD.v0 rfl rfl (Val.isT (Val.lss rfl rfl) byLt) ?_
      refine KD.v0 rfl rfl (Val.move rfl) ?_
      refine KD.no rfl rfl rfl rfl rfl ?_
      refine KD.no rfl rfl rfl rfl rfl ?_
      refine KD.no rfl rfl rfl rfl rfl ?_
      refine KD.no rfl rfl rfl rfl rfl ?_
      refine KD.no rfl rfl rfl rfl rfl ?_
      refine KD.v0 rfl rfl (Val.pickT rfl rfl rfl) ?_
      refine KD.v0 rfl rfl (Val.move rfl) ?_
      refine KD.no rfl rfl rfl rfl rfl ?_
      refine KD.no rfl rfl rfl rfl rfl ?_
      refine KD.no rfl rfl rfl rfl rfl ?_
      refine KD.noU rfl rfl rfl rfl rfl ?_
      refine KD.noU rfl rfl rfl rfl rfl ?_
      refine KD.noU rfl rfl rfl rfl rfl ?_
      refine KD.noU rfl rfl rfl rfl rfl ?_
      refine KD.noU rfl rfl rfl rfl rfl ?_
      refine KD.noU rfl rfl rfl rfl rfl ?_
      refine KD.noU rfl rfl rfl rfl rfl ?_
      refine KD.noU rfl rfl rfl rfl rfl ?_
      refine KD.noU rfl rfl rfl rfl rfl ?_
      refine KD.noU rfl rfl rfl rfl rfl ?_
      refine KD.no rfl rfl rfl rfl rfl ?_
      refine KD.v0 rfl rfl (Val.pickT rfl rfl rfl) ?_
      refine KD.nil ?_
      refine KE.next ?_
      refine K.condT rfl ?_
      refine K.seq ?_
      refine K.region ?_
      (refine KL.v rfl (Val.assign rfl) ?_)
      refine KL.nil ?_
      refine KE.next ?_
      refine K.ret ?_
      refine KE.blkR ?_
      refine KE.passR ?_
      refine KE.passR ?_
      refine KE.blkR ?_
      refine KE.passR ?_
      exact KE.fin byMarks rfl byRes byPart ⟨by rw [hc]; rfl, rfl⟩
    by_cases h2 : x > 64
    · have hc := class_bad hx (.inr (.inl (by omega)))
      refine K.seq ?_
      refine K.seq ?_
      refine K.region ?_
      (refine KL.v rfl (Val.move rfl) ?_)
      (refine KL.v rfl (Val.move rfl) ?_)
      (refine KL.v rfl (Val.lenSl rfl rfl (Sli.old (by assumption))) ?_)
      (refine KL.v rfl (Val.isT (Val.lss rfl rfl) byLt) ?_)
      refine KL.nil ?_
      refine KE.next ?_
      refine K.condT rfl ?_
      refine K.skip ?_
      refine KE.next ?_
      refine K.seq ?_
      refine K.block ?_
      refine K.seq ?_
      refine K.drawn [] [(0, 0), (1, 0), (2, 0), (3, 0), (4, 0), (5, 0), (6, 0), (7, 0), (8, 0), (9, 0), (10, 0), (11, 0), (12, 0), (13, 0), (14, 0), (15, 0), (16, 0), (17, 0), (18, 0), (19, 0), (20, 0), (21, 0), (22, 0), (23, 0), (24, 0), (25, 0), (26, 0), (27, 0)] (by kernel_rfl) (by kernel_rfl) (by kernel_rfl) (by kernel_rfl) (by kernel_rfl) (by kernel_rfl) Part.nil ?_
      refine KD.v0 rfl rfl (Val.move rfl) ?_
      refine KD.v0 rfl rfl (Val.move rfl) ?_
      refine KD.v0 rfl rfl (Val.idxSl rfl rfl rfl (Sli.old (by assumption)) rfl byLt) ?_
      refine KD.v0 rfl rfl (Val.loadP rfl rfl (Sees.sl0 (Sli.old (by assumption)) (by assumption) rfl)) ?_
      refine KD.v0 rfl rfl (Val.isF (Val.lss rfl rfl) byLt) ?_
      refine KD.v0 rfl rfl (Val.move rfl) ?_
      refine KD.y0 rfl rfl rfl rfl (Val.move rfl) ?_
      refine KD.y0 rfl rfl rfl rfl (Val.move rfl) ?_
      refine KD.y0 rfl rfl rfl rfl (Val.idxSl rfl rfl rfl (Sli.old (by assumption)) rfl byLt) ?_
      refine KD.y0 rfl rfl rfl rfl (Val.loadP rfl rfl (Sees.sl0 (Sli.old (by assumption)) (by assumption) rfl)) ?_
      refine KD.y0 rfl rfl rfl rfl (Val.isT (Val.gtr rfl rfl) byLt) ?_
      refine KD.v0 rfl rfl (Val.pickF rfl rfl rfl) ?_
      refine KD.v0 rfl rfl (Val.move rfl) ?_
      refine KD.no rfl rfl rfl rfl rfl ?_
      refine KD.no rfl rfl rfl rfl rfl ?_
      refine KD.no rfl rfl rfl rfl rfl ?_
      refine KD.noU rfl rfl rfl rfl rfl ?_
      refine KD.noU rfl rfl rfl rfl rfl ?_
      refine KD.noU rfl rfl rfl rfl rfl ?_
      refine KD.noU rfl rfl rfl rfl rfl ?_
      refine KD.noU rfl rfl rfl rfl rfl ?_
      refine KD.noU rfl rfl rfl rfl rfl ?_
      refine KD.noU rfl rfl rfl rfl rfl ?_
      refine KD.noU rfl rfl rfl rfl rfl ?_
      refine KD.noU rfl rfl rfl rfl rfl ?_
      refine KD.noU rfl rfl rfl rfl rfl ?_
      refine KD.no rfl rfl rfl rfl rfl ?_
      refine KD.v0 rfl rfl (Val.pickT rfl rfl rfl) ?_
      refine KD.nil ?_
      refine KE.next ?_
      refine K.condT rfl ?_
      refine K.seq ?_
      refine K.region ?_
      (refine KL.v rfl (Val.assign rfl) ?_)
      refine KL.nil ?_
      refine KE.next ?_
      refine K.ret ?_
      refine KE.blkR ?_
      refine KE.passR ?_
      refine KE.passR ?_
      refine KE.blkR ?_
      refine KE.passR ?_
      exact KE.fin byMarks rfl byRes byPart ⟨by rw [hc]; rfl, rfl⟩
    by_cases hk0 : k = 0
    · have hk0' : ¬ (k : Int) > 0 := by omega
      refine K.seq ?_
      refine K.seq ?_
      refine K.region ?_
      (refine KL.v rfl (Val.move rfl) ?_)
      (refine KL.v rfl (Val.move rfl) ?_)
      (refine KL.v rfl (Val.lenSl rfl rfl (Sli.old (by assumption))) ?_)
      (refine KL.v rfl (Val.isT (Val.lss rfl rfl) byLt) ?_)
      refine KL.nil ?_
      refine KE.next ?_
      refine K.condT rfl ?_
      refine K.skip ?_
      refine KE.next ?_
      refine K.seq ?_
      refine K.block ?_
      refine K.seq ?_
      refine K.drawn [] [(0, 0), (1, 0), (2, 0), (3, 0), (4, 0), (5, 0), (6, 0), (7, 0), (8, 0), (9, 0), (10, 0), (11, 0), (12, 0), (13, 0), (14, 0), (15, 0), (16, 0), (17, 0), (18, 0), (19, 0), (20, 0), (21, 0), (22, 0), (23, 0), (24, 0), (25, 0), (26, 0), (27, 0)] (by kernel_rfl) (by kernel_rfl) (by kernel_rfl) (by kernel_rfl) (by kernel_rfl) (by kernel_rfl) Part.nil ?_
      refine KD.v0 rfl rfl (Val.move rfl) ?_
      refine KD.v0 rfl rfl (Val.move rfl) ?_
      refine KD.v0 rfl rfl (Val.idxSl rfl rfl rfl (Sli.old (by assumption)) rfl byLt) ?_
      refine KD.v0 rfl rfl (Val.loadP rfl rfl (Sees.sl0 (Sli.old (by assumption)) (by assumption) rfl)) ?_
      refine KD.v0 rfl rfl (Val.isF (Val.lss rfl rfl) byLt) ?_
      refine KD.v0 rfl rfl (Val.move rfl) ?_
      refine KD.y0 rfl rfl rfl rfl (Val.move rfl) ?_
      refine KD.y0 rfl rfl rfl rfl (Val.move rfl) ?_
      refine KD.y0 rfl rfl rfl rfl (Val.idxSl rfl rfl rfl (Sli.old (by assumption)) rfl byLt) ?_
      refine KD.y0 rfl rfl rfl rfl (Val.loadP rfl rfl (Sees.sl0 (Sli.old (by assumption)) (by assumption) rfl)) ?_
      refine KD.y0 rfl rfl rfl rfl (Val.isF (Val.gtr rfl rfl) byLt) ?_
      refine KD.v0 rfl rfl (Val.pickF rfl rfl rfl) ?_
      refine KD.v0 rfl rfl (Val.move rfl) ?_
      refine KD.y0 rfl rfl rfl rfl (Val.move rfl) ?_
      refine KD.y0 rfl rfl rfl rfl (Val.isF (Val.gtr rfl rfl) byLt) ?_
      refine KD.y0 rfl rfl rfl rfl (Val.move rfl) ?_
      refine KD.no rfl rfl rfl rfl rfl ?_
      refine KD.no rfl rfl rfl rfl rfl ?_
      refine KD.no rfl rfl rfl rfl rfl ?_
      refine KD.no rfl rfl rfl rfl rfl ?_
      refine KD.no rfl rfl rfl rfl rfl ?_
      refine KD.no rfl rfl rfl rfl rfl ?_
      refine KD.no rfl rfl rfl rfl rfl ?_
      refine KD.no rfl rfl rfl rfl rfl ?_
      refine KD.no rfl rfl rfl rfl rfl ?_
      refine KD.no rfl rfl rfl rfl rfl ?_
      refine KD.y0 rfl rfl rfl rfl (Val.pickF rfl rfl rfl) ?_
      refine KD.v0 rfl rfl (Val.pickF rfl rfl rfl) ?_
      refine KD.nil ?_
      refine KE.next ?_
      refine K.condF rfl ?_
      refine K.skip ?_
      refine KE.blkN ?_
      refine KE.next ?_
      refine K.region ?_
      (refine KL.v rfl (Val.move rfl) ?_)
      (refine KL.v rfl (Val.add rfl rfl (by simp only [Go.Proofs.YthamkgghnjenhaaGreat.lo, Go.Proofs.YthamkgghnjenhaaGreat.hi]; omega)) ?_)
      (refine KL.v rfl (Val.assign rfl) ?_)
      refine KL.nil ?_
      refine KE.again (k + 1) bySub byPart ⟨by omega, fun j y hj hy => ?_⟩ (by omega)
      have : j = k := by omega
      subst this
      rw [hx] at hy; cases hy
      exact ⟨by omega, by omega, fun y h => by omega⟩
    · obtain ⟨y, hy⟩ := get_of_lt (l := l) (k := k - 1) (by omega)
      have hy' : l[((k : Int) - 1).toNat]? = some y := by rw [show ((k : Int) - 1).toNat = k - 1 by omega]; exact hy
      by_cases h3 : x ≤ y
      · have hc := class_bad hx (.inr (.inr ⟨y, by omega, hy, h3⟩))
        refine K.seq ?_
        refine K.seq ?_
        refine K.region ?_
        (refine KL.v rfl (Val.move rfl) ?_)
        (refine KL.v rfl (Val.move rfl) ?_)
        (refine KL.v rfl (Val.lenSl rfl rfl (Sli.old (by assumption))) ?_)
        (refine KL.v rfl (Val.isT (Val.lss rfl rfl) byLt) ?_)
        refine KL.nil ?_
        refine KE.next ?_
        refine K.condT rfl ?_
        refine K.skip ?_
        refine KE.next ?_
        refine K.seq ?_
        refine K.block ?_
        refine K.seq ?_
        refine K.drawn [] [(0, 0), (1, 0), (2, 0), (3, 0), (4, 0), (5, 0), (6, 0), (7, 0), (8, 0), (9, 0), (10, 0), (11, 0), (12, 0), (13, 0), (14, 0), (15, 0), (16, 0), (17, 0), (18, 0), (19, 0), (20, 0), (21, 0), (22, 0), (23, 0), (24, 0), (25, 0), (26, 0), (27, 0)] (by kernel_rfl) (by kernel_rfl) (by kernel_rfl) (by kernel_rfl) (by kernel_rfl) (by kernel_rfl) Part.nil ?_
        refine KD.v0 rfl rfl (Val.move rfl) ?_
        refine KD.v0 rfl rfl (Val.move rfl) ?_
        refine KD.v0 rfl rfl (Val.idxSl rfl rfl rfl (Sli.old (by assumption)) rfl byLt) ?_
        refine KD.v0 rfl rfl (Val.loadP rfl rfl (Sees.sl0 (Sli.old (by assumption)) (by assumption) rfl)) ?_
        refine KD.v0 rfl rfl (Val.isF (Val.lss rfl rfl) byLt) ?_
        refine KD.v0 rfl rfl (Val.move rfl) ?_
        refine KD.y0 rfl rfl rfl rfl (Val.move rfl) ?_
        refine KD.y0 rfl rfl rfl rfl (Val.move rfl) ?_
        refine KD.y0 rfl rfl rfl rfl (Val.idxSl rfl rfl rfl (Sli.old (by assumption)) rfl byLt) ?_
        refine KD.y0 rfl rfl rfl rfl (Val.loadP rfl rfl (Sees.sl0 (Sli.old (by assumption)) (by assumption) rfl)) ?_
        refine KD.y0 rfl rfl rfl rfl (Val.isF (Val.gtr rfl rfl) byLt) ?_
        refine KD.v0 rfl rfl (Val.pickF rfl rfl rfl) ?_
        refine KD.v0 rfl rfl (Val.move rfl) ?_
        refine KD.y0 rfl rfl rfl rfl (Val.move rfl) ?_
        refine KD.y0 rfl rfl rfl rfl (Val.isT (Val.gtr rfl rfl) byLt) ?_
        refine KD.y0 rfl rfl rfl rfl (Val.move rfl) ?_
        refine KD.y0 rfl rfl rfl rfl (Val.move rfl) ?_
        refine KD.y0 rfl rfl rfl rfl (Val.move rfl) ?_
        refine KD.y0 rfl rfl rfl rfl (Val.idxSl rfl rfl rfl (Sli.old (by assumption)) rfl byLt) ?_
        refine KD.y0 rfl rfl rfl rfl (Val.loadP rfl rfl (Sees.sl0 (Sli.old (by assumption)) (by assumption) rfl)) ?_
        refine KD.y0 rfl rfl rfl rfl (Val.move rfl) ?_
        refine KD.y0 rfl rfl rfl rfl (Val.move rfl) ?_
        refine KD.y0 rfl rfl rfl rfl (Val.sub rfl rfl (by simp only [Go.Proofs.YthamkgghnjenhaaGreat.lo, Go.Proofs.YthamkgghnjenhaaGreat.hi]; omega)) ?_
        refine KD.y0 rfl rfl rfl rfl (Val.idxSlZ rfl rfl rfl (Sli.old (by assumption)) rfl (by omega)) ?_
        refine KD.y0 rfl rfl rfl rfl (Val.loadP rfl rfl (Sees.sl0 (Sli.old (by assumption)) (by assumption) rfl)) ?_
        refine KD.y0 rfl rfl rfl rfl (Val.isT (Val.leq rfl rfl) byLt) ?_
        refine KD.y0 rfl rfl rfl rfl (Val.pickT rfl rfl rfl) ?_
        refine KD.v0 rfl rfl (Val.pickF rfl rfl rfl) ?_
        refine KD.nil ?_
        refine KE.next ?_
        refine K.condT rfl ?_
        refine K.seq ?_
        refine K.region ?_
        (refine KL.v rfl (Val.assign rfl) ?_)
        refine KL.nil ?_
        refine KE.next ?_
        refine K.ret ?_
        refine KE.blkR ?_
        refine KE.passR ?_
        refine KE.passR ?_
        refine KE.blkR ?_
        refine KE.passR ?_
        exact KE.fin byMarks rfl byRes byPart ⟨by rw [hc]; rfl, rfl⟩
      · refine K.seq ?_
        refine K.seq ?_
        refine K.region ?_
        (refine KL.v rfl (Val.move rfl) ?_)
        (refine KL.v rfl (Val.move rfl) ?_)
        (refine KL.v rfl (Val.lenSl rfl rfl (Sli.old (by assumption))) ?_)
        (refine KL.v rfl (Val.isT (Val.lss rfl rfl) byLt) ?_)
        refine KL.nil ?_
        refine KE.next ?_
        refine K.condT rfl ?_
        refine K.skip ?_
        refine KE.next ?_
        refine K.seq ?_
        refine K.block ?_
        refine K.seq ?_
        refine K.drawn [] [(0, 0), (1, 0), (2, 0), (3, 0), (4, 0), (5, 0), (6, 0), (7, 0), (8, 0), (9, 0), (10, 0), (11, 0), (12, 0), (13, 0), (14, 0), (15, 0), (16, 0), (17, 0), (18, 0), (19, 0), (20, 0), (21, 0), (22, 0), (23, 0), (24, 0), (25, 0), (26, 0), (27, 0)] (by kernel_rfl) (by kernel_rfl) (by kernel_rfl) (by kernel_rfl) (by kernel_rfl) (by kernel_rfl) Part.nil ?_
        refine KD.v0 rfl rfl (Val.move rfl) ?_
        refine KD.v0 rfl rfl (Val.move rfl) ?_
        refine KD.v0 rfl rfl (Val.idxSl rfl rfl rfl (Sli.old (by assumption)) rfl byLt) ?_
        refine KD.v0 rfl rfl (Val.loadP rfl rfl (Sees.sl0 (Sli.old (by assumption)) (by assumption) rfl)) ?_
        refine KD.v0 rfl rfl (Val.isF (Val.lss rfl rfl) byLt) ?_
        refine KD.v0 rfl rfl (Val.move rfl) ?_
        refine KD.y0 rfl rfl rfl rfl (Val.move rfl) ?_
        refine KD.y0 rfl rfl rfl rfl (Val.move rfl) ?_
        refine KD.y0 rfl rfl rfl rfl (Val.idxSl rfl rfl rfl (Sli.old (by assumption)) rfl byLt) ?_
        refine KD.y0 rfl rfl rfl rfl (Val.loadP rfl rfl (Sees.sl0 (Sli.old (by assumption)) (by assumption) rfl)) ?_
        refine KD.y0 rfl rfl rfl rfl (Val.isF (Val.gtr rfl rfl) byLt) ?_
        refine KD.v0 rfl rfl (Val.pickF rfl rfl rfl) ?_
        refine KD.v0 rfl rfl (Val.move rfl) ?_
        refine KD.y0 rfl rfl rfl rfl (Val.move rfl) ?_
        refine KD.y0 rfl rfl rfl rfl (Val.isT (Val.gtr rfl rfl) byLt) ?_
        refine KD.y0 rfl rfl rfl rfl (Val.move rfl) ?_
        refine KD.y0 rfl rfl rfl rfl (Val.move rfl) ?_
        refine KD.y0 rfl rfl rfl rfl (Val.move rfl) ?_
        refine KD.y0 rfl rfl rfl rfl (Val.idxSl rfl rfl rfl (Sli.old (by assumption)) rfl byLt) ?_
        refine KD.y0 rfl rfl rfl rfl (Val.loadP rfl rfl (Sees.sl0 (Sli.old (by assumption)) (by assumption) rfl)) ?_
        refine KD.y0 rfl rfl rfl rfl (Val.move rfl) ?_
        refine KD.y0 rfl rfl rfl rfl (Val.move rfl) ?_
        refine KD.y0 rfl rfl rfl rfl (Val.sub rfl rfl (by simp only [Go.Proofs.YthamkgghnjenhaaGreat.lo, Go.Proofs.YthamkgghnjenhaaGreat.hi]; omega)) ?_
        refine KD.y0 rfl rfl rfl rfl (Val.idxSlZ rfl rfl rfl (Sli.old (by assumption)) rfl (by omega)) ?_
        refine KD.y0 rfl rfl rfl rfl (Val.loadP rfl rfl (Sees.sl0 (Sli.old (by assumption)) (by assumption) rfl)) ?_
        refine KD.y0 rfl rfl rfl rfl (Val.isF (Val.leq rfl rfl) byLt) ?_
        refine KD.y0 rfl rfl rfl rfl (Val.pickT rfl rfl rfl) ?_
        refine KD.v0 rfl rfl (Val.pickF rfl rfl rfl) ?_
        refine KD.nil ?_
        refine KE.next ?_
        refine K.condF rfl ?_
        refine K.skip ?_
        refine KE.blkN ?_
        refine KE.next ?_
        refine K.region ?_
        (refine KL.v rfl (Val.move rfl) ?_)
        (refine KL.v rfl (Val.add rfl rfl (by simp only [Go.Proofs.YthamkgghnjenhaaGreat.lo, Go.Proofs.YthamkgghnjenhaaGreat.hi]; omega)) ?_)
        (refine KL.v rfl (Val.assign rfl) ?_)
        refine KL.nil ?_
        refine KE.again (k + 1) bySub byPart ⟨by omega, fun j z hj hz => ?_⟩ (by omega)
        by_cases hjk : j = k
        · subst hjk
          rw [hx] at hz; cases hz
          exact ⟨by omega, by omega, fun u _ hu => by rw [hy] at hu; cases hu; omega⟩
        · exact hall j z (by omega) hz
  · have hcc := class_of (l := l) fun j x hj hx => hall j x (by omega) hx
    by_cases h1 : 1 ≤ l.length
    · by_cases h8 : l.length ≤ 8
      · have hc : classP l = true := by rw [hcc]; simp [h1, h8]
        have h1' : ((l.length : Nat) : Int) ≥ 1 := by omega
        refine K.seq ?_
        refine K.seq ?_
        refine K.region ?_
        (refine KL.v rfl (Val.move rfl) ?_)
        (refine KL.v rfl (Val.move rfl) ?_)
        (refine KL.v rfl (Val.lenSl rfl rfl (Sli.old (by assumption))) ?_)
        (refine KL.v rfl (Val.isF (Val.lss rfl rfl) byLt) ?_)
        refine KL.nil ?_
        refine KE.next ?_
        refine K.condF rfl ?_
        refine K.exit ?_
        refine KE.passX ?_
        refine KE.passX ?_
        refine KE.blkX ?_
        refine KE.next ?_
        refine K.seq ?_
        refine K.region ?_
        (refine KL.v rfl (Val.move rfl) ?_)
        (refine KL.v rfl (Val.lenSl rfl rfl (Sli.old (by assumption))) ?_)
        (refine KL.v rfl (Val.isT (Val.geq rfl rfl) byLt) ?_)
        (refine KL.v rfl (Val.move rfl) ?_)
        (refine KL.yes rfl rfl ?_; refine KL.v rfl (Val.move rfl) ?_)
        (refine KL.yes rfl rfl ?_; refine KL.v rfl (Val.lenSl rfl rfl (Sli.old (by assumption))) ?_)
        (refine KL.yes rfl rfl ?_; refine KL.v rfl (Val.isT (Val.leq rfl rfl) byLt) ?_)
        (refine KL.v rfl (Val.pickT rfl rfl rfl) ?_)
        (refine KL.v rfl (Val.assign rfl) ?_)
        refine KL.nil ?_
        refine KE.next ?_
        refine K.ret ?_
        exact KE.fin byMarks rfl byRes byPart ⟨by rw [hc]; rfl, rfl⟩
      · have hc : classP l = false := by rw [hcc]; simp [h8]
        have h1' : ((l.length : Nat) : Int) ≥ 1 := by omega
        refine K.seq ?_
        refine K.seq ?_
        refine K.region ?_
        (refine KL.v rfl (Val.move rfl) ?_)
        (refine KL.v rfl (Val.move rfl) ?_)
        (refine KL.v rfl (Val.lenSl rfl rfl (Sli.old (by assumption))) ?_)
        (refine KL.v rfl (Val.isF (Val.lss rfl rfl) byLt) ?_)
        refine KL.nil ?_
        refine KE.next ?_
        refine K.condF rfl ?_
        refine K.exit ?_
        refine KE.passX ?_
        refine KE.passX ?_
        refine KE.blkX ?_
        refine KE.next ?_
        refine K.seq ?_
        refine K.region ?_
        (refine KL.v rfl (Val.move rfl) ?_)
        (refine KL.v rfl (Val.lenSl rfl rfl (Sli.old (by assumption))) ?_)
        (refine KL.v rfl (Val.isT (Val.geq rfl rfl) byLt) ?_)
        (refine KL.v rfl (Val.move rfl) ?_)
        (refine KL.yes rfl rfl ?_; refine KL.v rfl (Val.move rfl) ?_)
        (refine KL.yes rfl rfl ?_; refine KL.v rfl (Val.lenSl rfl rfl (Sli.old (by assumption))) ?_)
        (refine KL.yes rfl rfl ?_; refine KL.v rfl (Val.isF (Val.leq rfl rfl) byLt) ?_)
        (refine KL.v rfl (Val.pickT rfl rfl rfl) ?_)
        (refine KL.v rfl (Val.assign rfl) ?_)
        refine KL.nil ?_
        refine KE.next ?_
        refine K.ret ?_
        exact KE.fin byMarks rfl byRes byPart ⟨by rw [hc]; rfl, rfl⟩
    · have hc : classP l = false := by rw [hcc]; simp [h1]
      have h1' : ¬ ((l.length : Nat) : Int) ≥ 1 := by omega
      refine K.seq ?_
      refine K.seq ?_
      refine K.region ?_
      (refine KL.v rfl (Val.move rfl) ?_)
      (refine KL.v rfl (Val.move rfl) ?_)
      (refine KL.v rfl (Val.lenSl rfl rfl (Sli.old (by assumption))) ?_)
      (refine KL.v rfl (Val.isF (Val.lss rfl rfl) byLt) ?_)
      refine KL.nil ?_
      refine KE.next ?_
      refine K.condF rfl ?_
      refine K.exit ?_
      refine KE.passX ?_
      refine KE.passX ?_
      refine KE.blkX ?_
      refine KE.next ?_
      refine K.seq ?_
      refine K.region ?_
      (refine KL.v rfl (Val.move rfl) ?_)
      (refine KL.v rfl (Val.lenSl rfl rfl (Sli.old (by assumption))) ?_)
      (refine KL.v rfl (Val.isF (Val.geq rfl rfl) byLt) ?_)
      (refine KL.v rfl (Val.move rfl) ?_)
      refine KL.skipG rfl rfl rfl ?_
      refine KL.skipG rfl rfl rfl ?_
      refine KL.skipG rfl rfl rfl ?_
      (refine KL.v rfl (Val.pickF rfl rfl rfl) ?_)
      (refine KL.v rfl (Val.assign rfl) ?_)
      refine KL.nil ?_
      refine KE.next ?_
      refine K.ret ?_
      exact KE.fin byMarks rfl byRes byPart ⟨by rw [hc]; rfl, rfl⟩
theorem RNew_K {w0 : World} {v : Value} {l : List Int} {q c : Int} (hS : SlW w0 iE v l) (hl : l.length ≤ 1000) :
    Call Tryz.prog w0 7 [v, .int .i64 q, .int .i64 c] []
      (fun r H' => H' = [] ∧ ((newOk l q c ∧ r = .tuple [docV ⟨v, .slice none 0 0, .slice none 0 0, []⟩ ⟨l, q, c, [], []⟩, .int .i64 0].toArray) ∨ (¬ newOk l q c ∧ r = .tuple [.agg [.slice none 0 0, .int .i64 0, .int .i64 0, .slice none 0 0, .slice none 0 0].toArray, .int .i64 2].toArray))) := by
  have hS1 := hS.one
  refine Call.enter3 (n := 32) (by kernel_rfl) Tryz.func7 rfl rfl rfl ?_
  refine K.seq ?_
  refine K.region ?_
  (refine KL.e rfl (Eff.alloc rfl) ?_; rintro _ _ ⟨b6, rfl, rfl⟩)
  (refine KL.v rfl (Val.assign rfl) ?_)
  refine KL.nil ?_
  refine KE.next ?_
  refine K.seq ?_
  refine K.seq ?_
  refine K.region ?_
  (refine KL.v rfl (Val.move rfl) ?_)
  (refine KL.callc rfl rfl byEvL fun T hT => ?_)
  refine (CallV.fn (Classes_K hS hl)).mono ?_
  rintro _ _ ⟨rfl, rfl⟩
  cases hc : classP l with
  | false =>
    refine hT _ _ ?_; clear hT; clear T
    (refine KL.v rfl (Val.notF rfl) ?_)
    (refine KL.v rfl (Val.move rfl) ?_)
    refine KL.skipG rfl rfl rfl ?_
    refine KL.skipG rfl rfl rfl ?_
    (refine KL.v rfl (Val.pickT rfl rfl rfl) ?_)
    (refine KL.v rfl (Val.move rfl) ?_)
    refine KL.skipG rfl rfl rfl ?_
    refine KL.skipG rfl rfl rfl ?_
    (refine KL.v rfl (Val.pickT rfl rfl rfl) ?_)
    (refine KL.v rfl (Val.move rfl) ?_)
    refine KL.skipG rfl rfl rfl ?_
    refine KL.skipG rfl rfl rfl ?_
    (refine KL.v rfl (Val.pickT rfl rfl rfl) ?_)
    (refine KL.v rfl (Val.move rfl) ?_)
    refine KL.skipG rfl rfl rfl ?_
    refine KL.skipG rfl rfl rfl ?_
    (refine KL.v rfl (Val.pickT rfl rfl rfl) ?_)
    refine KL.nil ?_
    refine KE.next ?_
    refine K.condT rfl ?_
    refine K.seq ?_
    refine K.region ?_
    (refine KL.v rfl (Val.build byParts rfl rfl byFill) ?_)
    (refine KL.eN (Eff.storeAL rfl rfl rfl byTake byLay byOnes) ?_; rintro _ _ rfl)
    (refine KL.v rfl (Val.assign rfl) ?_)
    refine KL.nil ?_
    refine KE.next ?_
    refine K.ret ?_
    refine KE.passR ?_
    exact KE.fin byMarks rfl byRes byPart ⟨rfl, .inr ⟨(by rintro ⟨h, _⟩; rw [hc] at h; exact absurd h (by simp)), rfl⟩⟩
  | true =>
    refine hT _ _ ?_; clear hT; clear T
    by_cases h1 : q < 0
    · (refine KL.v rfl (Val.notT rfl) ?_)
      (refine KL.v rfl (Val.move rfl) ?_)
      (refine KL.yes rfl rfl ?_; refine KL.v rfl (Val.move rfl) ?_)
      (refine KL.yes rfl rfl ?_; refine KL.v rfl (Val.isT (Val.lss rfl rfl) byLt) ?_)
      (refine KL.v rfl (Val.pickF rfl rfl rfl) ?_)
      (refine KL.v rfl (Val.move rfl) ?_)
      refine KL.skipG rfl rfl rfl ?_
      refine KL.skipG rfl rfl rfl ?_
      (refine KL.v rfl (Val.pickT rfl rfl rfl) ?_)
      (refine KL.v rfl (Val.move rfl) ?_)
      refine KL.skipG rfl rfl rfl ?_
      refine KL.skipG rfl rfl rfl ?_
      (refine KL.v rfl (Val.pickT rfl rfl rfl) ?_)
      (refine KL.v rfl (Val.move rfl) ?_)
      refine KL.skipG rfl rfl rfl ?_
      refine KL.skipG rfl rfl rfl ?_
      (refine KL.v rfl (Val.pickT rfl rfl rfl) ?_)
      refine KL.nil ?_
      refine KE.next ?_
      refine K.condT rfl ?_
      refine K.seq ?_
      refine K.region ?_
      (refine KL.v rfl (Val.build byParts rfl rfl byFill) ?_)
      (refine KL.eN (Eff.storeAL rfl rfl rfl byTake byLay byOnes) ?_; rintro _ _ rfl)
      (refine KL.v rfl (Val.assign rfl) ?_)
      refine KL.nil ?_
      refine KE.next ?_
      refine K.ret ?_
      refine KE.passR ?_
      exact KE.fin byMarks rfl byRes byPart ⟨rfl, .inr ⟨(by rintro ⟨_, h, _⟩; omega), rfl⟩⟩
    by_cases h2 : q > 4096
    · (refine KL.v rfl (Val.notT rfl) ?_)
      (refine KL.v rfl (Val.move rfl) ?_)
      (refine KL.yes rfl rfl ?_; refine KL.v rfl (Val.move rfl) ?_)
      (refine KL.yes rfl rfl ?_; refine KL.v rfl (Val.isF (Val.lss rfl rfl) byLt) ?_)
      (refine KL.v rfl (Val.pickF rfl rfl rfl) ?_)
      (refine KL.v rfl (Val.move rfl) ?_)
      (refine KL.yes rfl rfl ?_; refine KL.v rfl (Val.move rfl) ?_)
      (refine KL.yes rfl rfl ?_; refine KL.v rfl (Val.isT (Val.gtr rfl rfl) byLt) ?_)
      (refine KL.v rfl (Val.pickF rfl rfl rfl) ?_)
      (refine KL.v rfl (Val.move rfl) ?_)
      refine KL.skipG rfl rfl rfl ?_
      refine KL.skipG rfl rfl rfl ?_
      (refine KL.v rfl (Val.pickT rfl rfl rfl) ?_)
      (refine KL.v rfl (Val.move rfl) ?_)
      refine KL.skipG rfl rfl rfl ?_
      refine KL.skipG rfl rfl rfl ?_
      (refine KL.v rfl (Val.pickT rfl rfl rfl) ?_)
      refine KL.nil ?_
      refine KE.next ?_
      refine K.condT rfl ?_
      refine K.seq ?_
      refine K.region ?_
      (refine KL.v rfl (Val.build byParts rfl rfl byFill) ?_)
      (refine KL.eN (Eff.storeAL rfl rfl rfl byTake byLay byOnes) ?_; rintro _ _ rfl)
      (refine KL.v rfl (Val.assign rfl) ?_)
      refine KL.nil ?_
      refine KE.next ?_
      refine K.ret ?_
      refine KE.passR ?_
      exact KE.fin byMarks rfl byRes byPart ⟨rfl, .inr ⟨(by rintro ⟨_, h, _⟩; omega), rfl⟩⟩
    by_cases h3 : c < 0
    · (refine KL.v rfl (Val.notT rfl) ?_)
      (refine KL.v rfl (Val.move rfl) ?_)
      (refine KL.yes rfl rfl ?_; refine KL.v rfl (Val.move rfl) ?_)
      (refine KL.yes rfl rfl ?_; refine KL.v rfl (Val.isF (Val.lss rfl rfl) byLt) ?_)
      (refine KL.v rfl (Val.pickF rfl rfl rfl) ?_)
      (refine KL.v rfl (Val.move rfl) ?_)
      (refine KL.yes rfl rfl ?_; refine KL.v rfl (Val.move rfl) ?_)
      (refine KL.yes rfl rfl ?_; refine KL.v rfl (Val.isF (Val.gtr rfl rfl) byLt) ?_)
      (refine KL.v rfl (Val.pickF rfl rfl rfl) ?_)
      (refine KL.v rfl (Val.move rfl) ?_)
      (refine KL.yes rfl rfl ?_; refine KL.v rfl (Val.move rfl) ?_)
      (refine KL.yes rfl rfl ?_; refine KL.v rfl (Val.isT (Val.lss rfl rfl) byLt) ?_)
      (refine KL.v rfl (Val.pickF rfl rfl rfl) ?_)
      (refine KL.v rfl (Val.move rfl) ?_)
      refine KL.skipG rfl rfl rfl ?_
      refine KL.skipG rfl rfl rfl ?_
      (refine KL.v rfl (Val.pickT rfl rfl rfl) ?_)
      refine KL.nil ?_
      refine KE.next ?_
      refine K.condT rfl ?_
      refine K.seq ?_
      refine K.region ?_
      (refine KL.v rfl (Val.build byParts rfl rfl byFill) ?_)
      (refine KL.eN (Eff.storeAL rfl rfl rfl byTake byLay byOnes) ?_; rintro _ _ rfl)
      (refine KL.v rfl (Val.assign rfl) ?_)
      refine KL.nil ?_
      refine KE.next ?_
      refine K.ret ?_
      refine KE.passR ?_
      exact KE.fin byMarks rfl byRes byPart ⟨rfl, .inr ⟨(by rintro ⟨_, _, h⟩; omega), rfl⟩⟩
    by_cases h4 : c > 1024
    · (refine KL.v rfl (Val.notT rfl) ?_)
      (refine KL.v rfl (Val.move rfl) ?_)
      (refine KL.yes rfl rfl ?_; refine KL.v rfl (Val.move rfl) ?_)
      (refine KL.yes rfl rfl ?_; refine KL.v rfl (Val.isF (Val.lss rfl rfl) byLt) ?_)
      (refine KL.v rfl (Val.pickF rfl rfl rfl) ?_)
      (refine KL.v rfl (Val.move rfl) ?_)
      (refine KL.yes rfl rfl ?_; refine KL.v rfl (Val.move rfl) ?_)
      (refine KL.yes rfl rfl ?_; refine KL.v rfl (Val.isF (Val.gtr rfl rfl) byLt) ?_)
      (refine KL.v rfl (Val.pickF rfl rfl rfl) ?_)
      (refine KL.v rfl (Val.move rfl) ?_)
      (refine KL.yes rfl rfl ?_; refine KL.v rfl (Val.move rfl) ?_)
      (refine KL.yes rfl rfl ?_; refine KL.v rfl (Val.isF (Val.lss rfl rfl) byLt) ?_)
      (refine KL.v rfl (Val.pickF rfl rfl rfl) ?_)
      (refine KL.v rfl (Val.move rfl) ?_)
      (refine KL.yes rfl rfl ?_; refine KL.v rfl (Val.move rfl) ?_)
      (refine KL.yes rfl rfl ?_; refine KL.v rfl (Val.isT (Val.gtr rfl rfl) byLt) ?_)
      (refine KL.v rfl (Val.pickF rfl rfl rfl) ?_)
      refine KL.nil ?_
      refine KE.next ?_
      refine K.condT rfl ?_
      refine K.seq ?_
      refine K.region ?_
      (refine KL.v rfl (Val.build byParts rfl rfl byFill) ?_)
      (refine KL.eN (Eff.storeAL rfl rfl rfl byTake byLay byOnes) ?_; rintro _ _ rfl)
      (refine KL.v rfl (Val.assign rfl) ?_)
      refine KL.nil ?_
      refine KE.next ?_
      refine K.ret ?_
      refine KE.passR ?_
      exact KE.fin byMarks rfl byRes byPart ⟨rfl, .inr ⟨(by rintro ⟨_, _, h⟩; omega), rfl⟩⟩
    · (refine KL.v rfl (Val.notT rfl) ?_)
      (refine KL.v rfl (Val.move rfl) ?_)
      (refine KL.yes rfl rfl ?_; refine KL.v rfl (Val.move rfl) ?_)
      (refine KL.yes rfl rfl ?_; refine KL.v rfl (Val.isF (Val.lss rfl rfl) byLt) ?_)
      (refine KL.v rfl (Val.pickF rfl rfl rfl) ?_)
      (refine KL.v rfl (Val.move rfl) ?_)
      (refine KL.yes rfl rfl ?_; refine KL.v rfl (Val.move rfl) ?_)
      (refine KL.yes rfl rfl ?_; refine KL.v rfl (Val.isF (Val.gtr rfl rfl) byLt) ?_)
      (refine KL.v rfl (Val.pickF rfl rfl rfl) ?_)
      (refine KL.v rfl (Val.move rfl) ?_)
      (refine KL.yes rfl rfl ?_; refine KL.v rfl (Val.move rfl) ?_)
      (refine KL.yes rfl rfl ?_; refine KL.v rfl (Val.isF (Val.lss rfl rfl) byLt) ?_)
      (refine KL.v rfl (Val.pickF rfl rfl rfl) ?_)
      (refine KL.v rfl (Val.move rfl) ?_)
      (refine KL.yes rfl rfl ?_; refine KL.v rfl (Val.move rfl) ?_)
      (refine KL.yes rfl rfl ?_; refine KL.v rfl (Val.isF (Val.gtr rfl rfl) byLt) ?_)
      (refine KL.v rfl (Val.pickF rfl rfl rfl) ?_)
      refine KL.nil ?_
      refine KE.next ?_
      refine K.condF rfl ?_
      refine K.skip ?_
      refine KE.next ?_
      refine K.seq ?_
      refine K.region ?_
      (refine KL.v rfl (Val.move rfl) ?_)
      (refine KL.v rfl (Val.move rfl) ?_)
      (refine KL.v rfl (Val.move rfl) ?_)
      (refine KL.v rfl (Val.build byParts rfl rfl byFill) ?_)
      (refine KL.eN (Eff.storeAL rfl rfl rfl byTake byLay byOnes) ?_; rintro _ _ rfl)
      (refine KL.v rfl (Val.assign rfl) ?_)
      refine KL.nil ?_
      refine KE.next ?_
      refine K.ret ?_
      exact KE.fin byMarks rfl byRes byPart ⟨rfl, .inl ⟨⟨hc, by omega, by omega⟩, rfl⟩⟩
end Go.Proofs.YthamkgghnjenhaaGreat
namespace Go.Proofs.YthamkgghnjenhaaGreat
open Go.RowKit
set_option linter.unusedVariables false
set_option linter.unusedSimpArgs false

def setD (Q : Dc) (id : Int) (x : Th) : Dc := { Q with ts := Q.ts.set (id - 1).toNat x }
def dropD (Q : Dc) (h : Int) : Dc := { Q with hs := Q.hs.set (h - 1).toNat 0 }
def allocD (Q : Dc) (op : OpP) : Dc × Sd :=
  if sizeD Q op.a op.b = 0 then (Q, ⟨50, 0, 0⟩)
  else if usedD Q + sizeD Q op.a op.b > Q.quota then (Q, ⟨100, 0, 0⟩)
  else if (mintD Q ((Q.ts.length : Int) + 1)).2.e = 0 then ({ (mintD Q ((Q.ts.length : Int) + 1)).1 with ts := Q.ts ++ [newTh op.a op.b (sizeD Q op.a op.b)] }, (mintD Q ((Q.ts.length : Int) + 1)).2)
  else (Q, (mintD Q ((Q.ts.length : Int) + 1)).2)
def fieldsD (Q : Dc) (id : Int) (x : Th) (op : OpP) : Dc × Sd :=
  if fieldP x op.a then
    if op.code = 2 then
      if op.a < (x.refs.length : Nat) then
        if (x.refs[op.a.toNat]?).getD 0 = 0 then (Q, ⟨0, 0, 0⟩) else mintD Q ((x.refs[op.a.toNat]?).getD 0)
      else (Q, ⟨0, 0, (x.words[op.a.toNat - x.refs.length]?).getD 0⟩)
    else if op.a < (x.refs.length : Nat) then
      if op.to ≠ 0 ∧ namesD Q op.to = 0 then (Q, ⟨130, 0, 0⟩)
      else (setD Q id { x with refs := x.refs.set op.a.toNat (namesD Q op.to) }, ⟨0, 0, 0⟩)
    else (setD Q id { x with words := x.words.set (op.a.toNat - x.refs.length) op.v }, ⟨0, 0, 0⟩)
  else (Q, ⟨110, 0, 0⟩)
def doD (Q : Dc) (op : OpP) : Dc × Sd :=
  if op.code = 1 then allocD Q op
  else if op.code < 1 ∨ op.code > 7 then (Q, ⟨250, 0, 0⟩)
  else if namesD Q op.h = 0 then (Q, ⟨130, 0, 0⟩)
  else match Q.ts[(namesD Q op.h - 1).toNat]? with
    | none => (Q, ⟨0, 0, 0⟩)
    | some x =>
      if op.code = 2 ∨ op.code = 3 then fieldsD Q (namesD Q op.h) x op
      else if op.code = 4 then (if x.pins ≥ 255 then (Q, ⟨140, 0, 0⟩) else (setD Q (namesD Q op.h) { x with pins := x.pins + 1 }, ⟨0, 0, 0⟩))
      else if op.code = 5 then (if x.pins = 0 then (Q, ⟨140, 0, 0⟩) else (setD Q (namesD Q op.h) { x with pins := x.pins - 1 }, ⟨0, 0, 0⟩))
      else if op.code = 6 then (dropD Q op.h, ⟨0, 0, 0⟩)
      else (Q, ⟨0, 0, sumP x.words⟩)

/-! ## the same as stores without sweeps -/
theorem all_set {Q : Dc} {id : Int} {x : Th} (h1 : 1 ≤ id) (h2 : (id - 1).toNat < Q.ts.length) : allS (setD Q id x) = setTP (allS Q) id x := by
  have hT : atP (Q.ts.set (id - 1).toNat x) = fun j => if j = id then some x else atP Q.ts j := by
    funext j
    unfold atP
    by_cases hj : 1 ≤ j
    · rw [if_pos hj, if_pos hj]
      by_cases e : j = id
      · subst e; rw [if_pos rfl, List.getElem?_set_self h2]
      · rw [if_neg e, List.getElem?_set_ne (by omega)]
    · rw [if_neg hj, if_neg hj, if_neg (by omega)]
  show (⟨Q.cl, Q.quota, Q.caps, atP (Q.ts.set (id - 1).toNat x), _, (Q.ts.set (id - 1).toNat x).length, Q.hs.length⟩ : St) = _
  rw [hT, List.length_set]; rfl
theorem all_drop {Q : Dc} {h : Int} (h1 : 1 ≤ h) : allS (dropD Q h) = dropP (allS Q) h := by
  have hH : (allS (dropD Q h)).Hd = (dropP (allS Q) h).Hd := by
    funext j
    apply Option.ext
    intro i
    rw [all_H]
    show _ ↔ (if j = h then none else (allS Q).Hd j) = some i
    by_cases e : j = h
    · subst e
      rw [if_pos rfl]
      constructor
      · rintro ⟨g1, g2, g3⟩
        have : (Q.hs.set (j - 1).toNat 0)[(j - 1).toNat]? = some i := g2
        have hl := lt_of_get this
        rw [List.length_set] at hl
        rw [List.getElem?_set_self hl] at this
        cases this; exact absurd rfl g3
      · intro h; cases h
    · rw [if_neg e, all_H]
      have : ∀ j', 1 ≤ j' → j' ≠ h → (Q.hs.set (h - 1).toNat 0)[(j' - 1).toNat]? = Q.hs[(j' - 1).toNat]? := fun j' g1 g2 => List.getElem?_set_ne (by omega)
      constructor
      · rintro ⟨g1, g2, g3⟩; exact ⟨g1, by rw [← this j g1 e]; exact g2, g3⟩
      · rintro ⟨g1, g2, g3⟩; exact ⟨g1, by show (Q.hs.set (h - 1).toNat 0)[(j - 1).toNat]? = some i; rw [this j g1 e]; exact g2, g3⟩
  show (⟨Q.cl, Q.quota, Q.caps, atP Q.ts, (allS (dropD Q h)).Hd, Q.ts.length, (Q.hs.set (h - 1).toNat 0).length⟩ : St) = _
  rw [hH, List.length_set]; rfl
theorem at_snoc {α : Type} {l : List α} {x : α} : atP (l ++ [x]) = fun j => if j = (l.length : Int) + 1 then some x else atP l j := by
  funext j
  unfold atP
  by_cases hj : 1 ≤ j
  · rw [if_pos hj, if_pos hj]
    by_cases e : j = (l.length : Int) + 1
    · subst e
      rw [if_pos rfl, show ((l.length : Int) + 1 - 1).toNat = l.length by omega, List.getElem?_append_right (Nat.le_refl _)]
      simp
    · rw [if_neg e]
      by_cases hl : (j - 1).toNat < l.length
      · rw [List.getElem?_append_left hl]
      · rw [List.getElem?_eq_none (by rw [List.length_append, List.length_singleton]; omega), List.getElem?_eq_none (by omega)]
  · rw [if_neg hj, if_neg hj, if_neg (by omega)]
/-- a new handle of something -/
theorem all_hand {Q : Dc} {id : Int} (h0 : id ≠ 0) : allS { Q with hs := Q.hs ++ [id] } = { allS Q with minted := (allS Q).minted + 1, Hd := fun h => if h = ((allS Q).minted : Int) + 1 then some id else (allS Q).Hd h } := by
  have hH : (allS { Q with hs := Q.hs ++ [id] }).Hd = fun h => if h = ((allS Q).minted : Int) + 1 then some id else (allS Q).Hd h := by
    funext j
    show (match atP (Q.hs ++ [id]) j with | some i => if i = 0 then none else some i | none => none) = if j = (Q.hs.length : Int) + 1 then some id else (match atP Q.hs j with | some i => if i = 0 then none else some i | none => none)
    rw [at_snoc]
    dsimp only
    by_cases e : j = (Q.hs.length : Int) + 1
    · rw [if_pos e, if_pos e]; simp [h0]
    · rw [if_neg e, if_neg e]
  show (⟨Q.cl, Q.quota, Q.caps, atP Q.ts, (allS { Q with hs := Q.hs ++ [id] }).Hd, Q.ts.length, (Q.hs ++ [id]).length⟩ : St) = _
  rw [hH]
  simp only [List.length_append, List.length_singleton]
  rfl
theorem size_round {Q : Dc} {a b : Int} (hc : classP Q.cl = true) : (sizeD Q a b = 0 ↔ ¬ (mayP 0 a b = true ∧ (roundP Q.cl (a + b + 1)).2 = 0)) ∧ (sizeD Q a b ≠ 0 → sizeD Q a b = (roundP Q.cl (a + b + 1)).1) := by
  by_cases hm : mayP 0 a b = true
  · have hab : 0 ≤ a ∧ 0 ≤ b := by simp [mayP] at hm; omega
    have hs : sizeD Q a b = (Q.cl[firstP (a + b + 1) Q.cl]?).getD 0 := by unfold sizeD; rw [if_pos hm]
    have hfl := first_le (a + b + 1) Q.cl
    by_cases hf : firstP (a + b + 1) Q.cl = Q.cl.length
    · have h0 : sizeD Q a b = 0 := by rw [hs, List.getElem?_eq_none (by omega)]; rfl
      have hr : (roundP Q.cl (a + b + 1)).2 ≠ 0 := by
        have : ofP Q.cl (a + b + 1) = (0, 50) := by unfold ofP; rw [if_pos hc, if_pos (.inl hf)]
        unfold roundP
        rw [this]; simp
      exact ⟨⟨fun _ h => hr h.2, fun _ => h0⟩, fun h => absurd h0 h⟩
    · obtain ⟨y, hy⟩ := get_of_lt (l := Q.cl) (k := firstP (a + b + 1) Q.cl) (by omega)
      have hsy : sizeD Q a b = y := by rw [hs, hy]; rfl
      have hr : roundP Q.cl (a + b + 1) = (y, 0) := by
        have : ofP Q.cl (a + b + 1) = (((firstP (a + b + 1) Q.cl : Nat) : Int), (0 : Int)) := by unfold ofP; rw [if_pos hc, if_neg (by omega)]
        unfold roundP
        rw [this]; simp [hy]
      have hy2 : 2 ≤ y := by
        have hcc := hc
        simp only [classP, Bool.and_eq_true, decide_eq_true_eq] at hcc
        have := (rise_pair hcc.2).1 y (List.mem_of_getElem? hy)
        omega
      refine ⟨⟨fun h => by omega, fun h => absurd ⟨hm, by rw [hr]⟩ h⟩, fun _ => by rw [hsy, hr]⟩
  · have hs : sizeD Q a b = 0 := by unfold sizeD; rw [if_neg hm]
    exact ⟨⟨fun _ h => hm h.1, fun _ => hs⟩, fun h => absurd hs h⟩
end Go.Proofs.YthamkgghnjenhaaGreat
namespace Go.Proofs.YthamkgghnjenhaaGreat
open Go.RowKit
set_option linter.unusedVariables false
set_option linter.unusedSimpArgs false

/-- the same but for what is not reached -/
structure Rel (A S : St) : Prop where
  cl : S.cl = A.cl
  quota : S.quota = A.quota
  caps : S.caps = A.caps
  made : S.made = A.made
  minted : S.minted = A.minted
  Hd : S.Hd = A.Hd
  sub : ∀ i x, S.T i = some x → A.T i = some x
  pins : ∀ i x, A.T i = some x → 0 < x.pins → (S.T i).isSome
theorem rel_of {A S : St} (h : Swept A S) : Rel A S := ⟨h.cl, h.quota, h.caps, h.made, h.minted, h.Hd, fun i x hx => ((h.T i x).1 hx).1, fun i x hx hp => by rw [(h.T i x).2 ⟨hx, .pin hx hp⟩]; rfl⟩
theorem rel_set {A S : St} (h : Rel A S) {i : Int} {x' : Th} : Rel (setTP A i x') (setTP S i x') := by
  refine ⟨h.cl, h.quota, h.caps, h.made, h.minted, h.Hd, fun j x hx => ?_, fun j x hx hp => ?_⟩
  · by_cases e : j = i
    · subst e; rw [set_some] at hx ⊢; exact hx
    · rw [set_ne e] at hx ⊢; exact h.sub j x hx
  · by_cases e : j = i
    · subst e; rw [set_some]; rfl
    · rw [set_ne e] at hx ⊢; exact h.pins j x hx hp
theorem rel_drop {A S : St} (h : Rel A S) {k : Int} : Rel (dropP A k) (dropP S k) :=
  ⟨h.cl, h.quota, h.caps, h.made, h.minted, by show (fun j => if j = k then none else S.Hd j) = fun j => if j = k then none else A.Hd j; rw [h.Hd], h.sub, h.pins⟩
theorem rel_hand {A S : St} (h : Rel A S) {id : Int} : Rel { A with minted := A.minted + 1, Hd := fun h => if h = (A.minted : Int) + 1 then some id else A.Hd h } { S with minted := S.minted + 1, Hd := fun h => if h = (S.minted : Int) + 1 then some id else S.Hd h } :=
  ⟨h.cl, h.quota, h.caps, h.made, by show S.minted + 1 = A.minted + 1; rw [h.minted], by show (fun j => if j = (S.minted : Int) + 1 then some id else S.Hd j) = fun j => if j = (A.minted : Int) + 1 then some id else A.Hd j; rw [h.Hd, h.minted], h.sub, h.pins⟩
theorem rel_mint {Q : Dc} {S : St} (ok : DcOk Q) (h : Swept (allS Q) S) {id : Int} (h0 : id ≠ 0) : (mintD Q id).2 = (mintP S id).2 ∧ Rel (allS (mintD Q id).1) (mintP S id).1 := by
  have hl := sim_live ok h
  have hcp : S.caps = Q.caps := h.caps
  have hmi : S.minted = Q.hs.length := h.minted
  unfold mintD mintP
  rw [hl]
  by_cases hc : Q.caps ≤ ((handsP S).length : Nat)
  · rw [if_pos hc, if_pos (by rw [hcp]; exact hc)]; exact ⟨rfl, rel_of h⟩
  · rw [if_neg hc, if_neg (by rw [hcp]; exact hc)]
    refine ⟨by rw [hmi], ?_⟩
    dsimp only
    rw [all_hand h0]
    exact rel_hand (rel_of h)
theorem rel_new {A S : St} (h : Rel A S) {x : Th} : Rel { A with made := A.made + 1, T := fun j => if j = (A.made : Int) + 1 then some x else A.T j } { S with made := S.made + 1, T := fun j => if j = (S.made : Int) + 1 then some x else S.T j } := by
  refine ⟨h.cl, h.quota, h.caps, by show S.made + 1 = A.made + 1; rw [h.made], h.minted, h.Hd, fun j y hy => ?_, fun j y hy hp => ?_⟩
  · have hy : (if j = (S.made : Int) + 1 then some x else S.T j) = some y := hy
    show (if j = (A.made : Int) + 1 then some x else A.T j) = some y
    rw [h.made] at hy
    split at hy
    · rename_i e; rw [if_pos e]; exact hy
    · rename_i e; rw [if_neg e]; exact h.sub j y hy
  · have hy : (if j = (A.made : Int) + 1 then some x else A.T j) = some y := hy
    show (if j = (S.made : Int) + 1 then some x else S.T j).isSome
    rw [h.made]
    split at hy
    · rename_i e; rw [if_pos e]; rfl
    · rename_i e; rw [if_neg e]; exact h.pins j y hy hp
theorem all_new {Q : Dc} {x : Th} : allS { Q with ts := Q.ts ++ [x] } = { allS Q with made := (allS Q).made + 1, T := fun j => if j = ((allS Q).made : Int) + 1 then some x else (allS Q).T j } := by
  show (⟨Q.cl, Q.quota, Q.caps, atP (Q.ts ++ [x]), _, (Q.ts ++ [x]).length, Q.hs.length⟩ : St) = _
  rw [at_snoc, List.length_append]
  rfl
theorem rel_alloc {Q : Dc} {S : St} {op : OpP} (hB : DcB Q) (hI : Inv S) (h : Swept (allS Q) S) : (allocD Q op).2 = (allocP S op).2 ∧ Rel (allS (allocD Q op).1) (allocP S op).1 := by
  have hcl : S.cl = Q.cl := h.cl
  have hq : S.quota = Q.quota := h.quota
  have hm : S.made = Q.ts.length := h.made
  obtain ⟨s1, s2⟩ := size_round (Q := Q) (a := op.a) (b := op.b) hB.cl
  have hu := sim_used hB.ok h hI.st.closed.nums
  obtain ⟨m1, m2⟩ := rel_mint hB.ok h (id := (Q.ts.length : Int) + 1) (by omega)
  unfold allocD allocP
  rw [hcl, hq, hm, ← hu]
  by_cases hz : sizeD Q op.a op.b = 0
  · rw [if_pos hz, if_neg (s1.1 hz)]; exact ⟨rfl, rel_of h⟩
  · have hy : mayP 0 op.a op.b = true ∧ (roundP Q.cl (op.a + op.b + 1)).2 = 0 := Classical.byContradiction fun hn => hz (s1.2 hn)
    rw [if_neg hz, if_pos hy, s2 hz]
    by_cases hqq : usedD Q + (roundP Q.cl (op.a + op.b + 1)).1 > Q.quota
    · rw [if_pos hqq, if_pos hqq]; exact ⟨rfl, rel_of h⟩
    · rw [if_neg hqq, if_neg hqq, ← m1]
      by_cases he : (mintD Q ((Q.ts.length : Int) + 1)).2.e = 0
      · rw [if_pos he, if_pos he]
        refine ⟨rfl, ?_⟩
        have hts : (mintD Q ((Q.ts.length : Int) + 1)).1.ts = Q.ts := by unfold mintD; split <;> rfl
        have hpm : ((mintP S ((Q.ts.length : Int) + 1)).1.made = Q.ts.length) := (mint_made S _).1.trans hm
        have hpt : (mintP S ((Q.ts.length : Int) + 1)).1.T = S.T := (mint_made S _).2.1
        have key := rel_new m2 (x := newTh op.a op.b (roundP Q.cl (op.a + op.b + 1)).1)
        rw [← all_new, hts, hpm, hpt] at key
        exact key
      · rw [if_neg he, if_neg he]; exact ⟨rfl, rel_of h⟩
theorem ref_nums {Q : Dc} (ok : DcOk Q) {x : Th} (hx : x ∈ Q.ts) {r : Int} (hr : r ∈ x.refs) : 0 ≤ r := (ok.rf x hx r hr).1
theorem rel_step {Q : Dc} {S : St} {op : OpP} (hB : DcB Q) (hI : Inv S) (h : Swept (allS Q) S) : (doD Q op).2 = (stepP S op).2.1 ∧ Rel (allS (doD Q op).1) (stepP S op).1 := by
  have hC := hI.st.closed
  have hn := fun k => sim_names hB.ok h k
  unfold doD stepP
  by_cases hc : op.code < 1 ∨ op.code > 7
  · rw [if_pos hc, if_pos hc, if_neg (by omega)]; exact ⟨rfl, rel_of h⟩
  by_cases h1 : op.code = 1
  · rw [if_pos h1, if_neg hc, if_pos h1]; exact rel_alloc hB hI h
  rw [if_neg hc, if_neg hc, if_neg h1, if_neg h1]
  cases hid : S.Hd op.h with
  | none =>
    have : namesD Q op.h = 0 := by rw [hn, hid]; rfl
    rw [if_pos this]; exact ⟨rfl, rel_of h⟩
  | some id =>
    have hnm : namesD Q op.h = id := by rw [hn, hid]; rfl
    obtain ⟨x, hx⟩ := Option.isSome_iff_exists.1 (hC.hr _ _ hid)
    have hid1 := (hC.nums.t _ _ hx).1
    obtain ⟨_, hq⟩ := all_T.1 ((h.T id x).1 hx).1
    have hlt := lt_of_get hq
    have hto := hI.st.tx _ _ hx
    rw [hnm, if_neg (by omega)]
    simp only [hx, hq]
    have hset : ∀ x', allS (setD Q id x') = setTP (allS Q) id x' := fun x' => all_set hid1 hlt
    by_cases h2 : op.code = 2
    · rw [if_pos (.inl h2), if_pos h2]
      unfold fieldsD readP stay
      by_cases hf : fieldP x op.a = true
      · rw [if_pos hf, if_pos hf, if_pos h2]
        by_cases hl : op.a < (x.refs.length : Nat)
        · rw [if_pos hl, if_pos hl]
          by_cases h0 : (x.refs[op.a.toNat]?).getD 0 = 0
          · rw [if_pos h0, if_pos h0]; exact ⟨rfl, rel_of h⟩
          · rw [if_neg h0, if_neg h0]; exact rel_mint hB.ok h h0
        · rw [if_neg hl, if_neg hl]; exact ⟨rfl, rel_of h⟩
      · rw [if_neg hf, if_neg hf]; exact ⟨rfl, rel_of h⟩
    by_cases h3 : op.code = 3
    · rw [if_pos (.inr h3), if_neg h2, if_pos h3]
      unfold fieldsD writeP
      by_cases hf : fieldP x op.a = true
      · rw [if_pos hf, if_pos hf, if_neg h2]
        by_cases hl : op.a < (x.refs.length : Nat)
        · rw [if_pos hl, if_pos hl]
          by_cases h0 : op.to = 0
          · have hnt : namesD Q op.to = 0 := by
              unfold namesD; rw [if_pos (by omega)]
            rw [if_neg (by omega), if_pos h0, hnt]
            dsimp only
            rw [hset]
            exact ⟨rfl, rel_set (rel_of h)⟩
          · rw [if_neg h0]
            cases hz : S.Hd op.to with
            | none =>
              have hnt : namesD Q op.to = 0 := by rw [hn, hz]; rfl
              rw [if_pos ⟨h0, hnt⟩]; exact ⟨rfl, rel_of h⟩
            | some z =>
              have hnt : namesD Q op.to = z := by rw [hn, hz]; rfl
              obtain ⟨y, hy⟩ := Option.isSome_iff_exists.1 (hC.hr _ _ hz)
              have hz1 := (hC.nums.t _ _ hy).1
              rw [if_neg (by omega), hnt]
              dsimp only
              rw [hset]
              exact ⟨rfl, rel_set (rel_of h)⟩
        · rw [if_neg hl, if_neg hl]
          dsimp only
          rw [hset]
          exact ⟨rfl, rel_set (rel_of h)⟩
      · rw [if_neg hf, if_neg hf]; exact ⟨rfl, rel_of h⟩
    rw [if_neg (by omega), if_neg h2, if_neg h3]
    by_cases h4 : op.code = 4
    · rw [if_pos h4, if_pos h4]
      unfold pinP stay
      by_cases hp : x.pins ≥ 255
      · rw [if_pos hp, if_neg (by omega)]; exact ⟨rfl, rel_of h⟩
      · rw [if_neg hp, if_pos (by have := hto.pins; omega)]
        dsimp only
        rw [hset]
        exact ⟨rfl, rel_set (rel_of h)⟩
    rw [if_neg h4, if_neg h4]
    by_cases h5 : op.code = 5
    · rw [if_pos h5, if_pos h5]
      unfold pinP stay
      by_cases hp : x.pins = 0
      · rw [if_pos hp, if_neg (by omega)]; exact ⟨rfl, rel_of h⟩
      · rw [if_neg hp, if_pos (by have := hto.pins; omega)]
        dsimp only
        rw [hset, show x.pins - 1 = x.pins + -1 from by omega]
        exact ⟨rfl, rel_set (rel_of h)⟩
    rw [if_neg h5, if_neg h5]
    by_cases h6 : op.code = 6
    · rw [if_pos h6, if_pos h6]
      dsimp only
      rw [all_drop (hC.nums.h _ _ hid).1]
      exact ⟨rfl, rel_drop (rel_of h)⟩
    · rw [if_neg h6, if_neg h6]; exact ⟨rfl, rel_of h⟩
end Go.Proofs.YthamkgghnjenhaaGreat
namespace Go.Proofs.YthamkgghnjenhaaGreat
open Go.RowKit
set_option linter.unusedVariables false
set_option linter.unusedSimpArgs false

theorem sim_do {Q : Dc} {S S' : St} {op : OpP} {r : Sd} (hB : DcB Q) (hI : Inv S) (hv : 0 ≤ op.v ∧ op.v < 18446744073709551616) (h : Swept (allS Q) S) (hD : DoR S op S' r) : (doD Q op).2 = r ∧ Swept (allS (doD Q op).1) S' := by
  obtain ⟨e1, rel⟩ := rel_step (op := op) hB hI h
  refine ⟨e1.trans hD.1, ?_⟩
  have h2 := hD.2
  by_cases hs : (stepP S op).2.2 = true
  · rw [if_pos hs] at h2
    exact sim_step rel.cl rel.quota rel.caps rel.made rel.minted rel.Hd (closed_step hI op hs) rel.sub rel.pins h2
  · rw [if_neg hs] at h2
    have hI' := (out_inv hI (out_of hI hv hD)).1
    rw [← h2] at rel
    exact sim_step rel.cl rel.quota rel.caps rel.made rel.minted rel.Hd hI'.st.closed rel.sub rel.pins (swept_self hI'.gc)
theorem b_set {Q : Dc} (hB : DcB Q) {id : Int} {x : Th} (hx : ThOk x) (hr : ∀ r ∈ x.refs, 0 ≤ r ∧ r ≤ Q.ts.length) : DcB (setD Q id x) := by
  have hm : ∀ y ∈ (setD Q id x).ts, y ∈ Q.ts ∨ y = x := fun y hy => List.mem_or_eq_of_mem_set hy
  have hl : (setD Q id x).ts.length = Q.ts.length := List.length_set
  refine ⟨⟨fun y hy r hm' => ?_, fun i hi => by rw [hl]; exact hB.ok.hr i hi⟩, by rw [hl]; exact hB.ts, hB.hs, fun y hy => ?_, hB.cl, hB.quota, hB.caps⟩
  · rw [hl]
    rcases hm y hy with h | h
    · exact hB.ok.rf y h r hm'
    · subst h; exact hr r hm'
  · rcases hm y hy with h | h
    · exact hB.x y h
    · subst h; exact hx
theorem b_drop {Q : Dc} (hB : DcB Q) {h : Int} : DcB (dropD Q h) := by
  have hl : (dropD Q h).hs.length = Q.hs.length := List.length_set
  refine ⟨⟨hB.ok.rf, fun i hi => ?_⟩, hB.ts, by rw [hl]; exact hB.hs, hB.x, hB.cl, hB.quota, hB.caps⟩
  rcases List.mem_or_eq_of_mem_set hi with g | g
  · exact hB.ok.hr i g
  · subst g; exact ⟨by omega, by show (0 : Int) ≤ (Q.ts.length : Nat); omega⟩
theorem b_mint {Q : Dc} (hB : DcB Q) (hl : Q.hs.length < 100) {id : Int} (h1 : 0 ≤ id ∧ id ≤ Q.ts.length) : DcB (mintD Q id).1 ∧ (mintD Q id).1.ts = Q.ts ∧ (mintD Q id).1.hs.length ≤ Q.hs.length + 1 := by
  unfold mintD
  split
  · exact ⟨hB, rfl, Nat.le_succ _⟩
  · refine ⟨⟨⟨hB.ok.rf, fun i hi => ?_⟩, hB.ts, ?_, hB.x, hB.cl, hB.quota, hB.caps⟩, rfl, by simp⟩
    · rcases List.mem_append.1 hi with g | g
      · exact hB.ok.hr i g
      · rw [List.mem_singleton] at g; subst g; exact h1
    · show (Q.hs ++ [id]).length ≤ 100
      rw [List.length_append, List.length_singleton]; omega
theorem b_new {Q : Dc} (hB : DcB Q) (hl : Q.ts.length < 100) {x : Th} (hx : ThOk x) (hr : ∀ r ∈ x.refs, r = 0) : DcB { Q with ts := Q.ts ++ [x] } := by
  have e : (Q.ts ++ [x]).length = Q.ts.length + 1 := by simp
  refine ⟨⟨fun y hy r hm => ?_, fun i hi => ?_⟩, by show (Q.ts ++ [x]).length ≤ 100; omega, hB.hs, fun y hy => ?_, hB.cl, hB.quota, hB.caps⟩
  · show 0 ≤ r ∧ r ≤ ((Q.ts ++ [x]).length : Nat)
    rcases List.mem_append.1 hy with g | g
    · have := hB.ok.rf y g r hm; omega
    · rw [List.mem_singleton] at g; subst g
      have := hr r hm; omega
  · show 0 ≤ i ∧ i ≤ ((Q.ts ++ [x]).length : Nat)
    have := hB.ok.hr i hi; omega
  · rcases List.mem_append.1 hy with g | g
    · exact hB.x y g
    · rw [List.mem_singleton] at g; subst g; exact hx
theorem b_alloc {Q : Dc} {op : OpP} (hB : DcB Q) (ht : Q.ts.length < 100) (hh : Q.hs.length < 100) : DcB (allocD Q op).1 ∧ (allocD Q op).1.ts.length ≤ Q.ts.length + 1 ∧ (allocD Q op).1.hs.length ≤ Q.hs.length + 1 := by
  unfold allocD
  by_cases hz : sizeD Q op.a op.b = 0
  · rw [if_pos hz]; exact ⟨hB, Nat.le_succ _, Nat.le_succ _⟩
  rw [if_neg hz]
  split
  · exact ⟨hB, Nat.le_succ _, Nat.le_succ _⟩
  split
  · rename_i he
    obtain ⟨s1, s2⟩ := size_round (Q := Q) (a := op.a) (b := op.b) hB.cl
    have hy : mayP 0 op.a op.b = true ∧ (roundP Q.cl (op.a + op.b + 1)).2 = 0 := Classical.byContradiction fun hn => hz (s1.2 hn)
    have hx : ThOk (newTh op.a op.b (sizeD Q op.a op.b)) := new_ok hy.1 (by rw [s2 hz]; have := round_bnd (n := op.a + op.b + 1) hB.cl hy.2; omega)
    have hb := b_new hB ht hx (fun r hr => List.eq_of_mem_replicate hr)
    have ht1 : (Q.ts ++ [newTh op.a op.b (sizeD Q op.a op.b)]).length = Q.ts.length + 1 := by simp
    unfold mintD at he ⊢
    split
    · rename_i hc; rw [if_pos hc] at he; exact absurd (show (131 : Int) = 0 from he) (by decide)
    · dsimp only
      refine ⟨⟨⟨hb.ok.rf, fun i hi => ?_⟩, hb.ts, ?_, hb.x, hB.cl, hB.quota, hB.caps⟩, by omega, by simp⟩
      · show 0 ≤ i ∧ i ≤ ((Q.ts ++ [newTh op.a op.b (sizeD Q op.a op.b)]).length : Nat)
        rcases List.mem_append.1 hi with g | g
        · have := hB.ok.hr i g; omega
        · rw [List.mem_singleton] at g; omega
      · show (Q.hs ++ [(Q.ts.length : Int) + 1]).length ≤ 100
        rw [List.length_append, List.length_singleton]; omega
  · exact ⟨hB, Nat.le_succ _, Nat.le_succ _⟩
theorem names_in {Q : Dc} (ok : DcOk Q) (k : Int) : 0 ≤ namesD Q k ∧ namesD Q k ≤ Q.ts.length := by
  unfold namesD
  split
  · omega
  · rename_i hk
    obtain ⟨z, hz⟩ := get_of_lt (l := Q.hs) (k := (k - 1).toNat) (by omega)
    rw [hz]
    exact ok.hr z (List.mem_of_getElem? hz)
theorem b_do {Q : Dc} {op : OpP} (hB : DcB Q) (hv : 0 ≤ op.v ∧ op.v < 18446744073709551616) (ht : Q.ts.length < 100) (hh : Q.hs.length < 100) : DcB (doD Q op).1 ∧ (doD Q op).1.ts.length ≤ Q.ts.length + 1 ∧ (doD Q op).1.hs.length ≤ Q.hs.length + 1 := by
  have same : DcB Q ∧ Q.ts.length ≤ Q.ts.length + 1 ∧ Q.hs.length ≤ Q.hs.length + 1 := ⟨hB, by omega, by omega⟩
  have set : ∀ {id : Int} {x : Th}, ThOk x → (∀ r ∈ x.refs, 0 ≤ r ∧ r ≤ Q.ts.length) → DcB (setD Q id x) ∧ (setD Q id x).ts.length ≤ Q.ts.length + 1 ∧ (setD Q id x).hs.length ≤ Q.hs.length + 1 := fun {id x} hx hr =>
    ⟨b_set hB hx hr, by show (Q.ts.set _ _).length ≤ _; rw [List.length_set]; omega, by show Q.hs.length ≤ _; omega⟩
  unfold doD
  split
  · exact b_alloc hB ht hh
  split
  · exact same
  split
  · exact same
  split
  · exact same
  rename_i x hx
  have hxm := List.mem_of_getElem? hx
  have hok := hB.x x hxm
  have hrf := hB.ok.rf x hxm
  split
  · unfold fieldsD
    split
    · rename_i hf
      split
      · split
        · rename_i hl
          split
          · exact same
          · have hf' : 0 ≤ op.a := by
              simp only [fieldP, decide_eq_true_eq] at hf
              exact hf.1
            obtain ⟨y, hy⟩ := get_of_lt (l := x.refs) (k := op.a.toNat) (by omega)
            rw [hy]
            obtain ⟨m1, m2, m3⟩ := b_mint hB hh (id := y) (hrf y (List.mem_of_getElem? hy))
            exact ⟨m1, by show (mintD Q y).1.ts.length ≤ _; rw [m2]; omega, m3⟩
        · exact same
      · split
        · split
          · exact same
          · refine set ⟨by simpa using hok.sz, hok.pins, hok.ws⟩ fun r hr => ?_
            rcases List.mem_or_eq_of_mem_set hr with g | g
            · exact hrf r g
            · subst g; exact names_in hB.ok _
        · refine set ⟨by simpa using hok.sz, hok.pins, fun w hw => ?_⟩ hrf
          rcases List.mem_or_eq_of_mem_set hw with g | g
          · exact hok.ws w g
          · subst g; exact hv
    · exact same
  split
  · split
    · exact same
    · exact set ⟨hok.sz, by have := hok.pins; show 0 ≤ x.pins + 1 ∧ x.pins + 1 ≤ 255; omega, hok.ws⟩ hrf
  split
  · split
    · exact same
    · exact set ⟨hok.sz, by have := hok.pins; show 0 ≤ x.pins - 1 ∧ x.pins - 1 ≤ 255; omega, hok.ws⟩ hrf
  split
  · exact ⟨b_drop hB, by show Q.ts.length ≤ _; omega, by show (Q.hs.set _ _).length ≤ _; rw [List.length_set]; omega⟩
  · exact same
end Go.Proofs.YthamkgghnjenhaaGreat
namespace Go.Proofs.YthamkgghnjenhaaGreat
open Go.RowKit
set_option linter.unusedVariables false
set_option linter.unusedSimpArgs false
set_option maxRecDepth 10000

structure OT where
  x : Th
  o1 : Own
  o2 : Own
def otE : Enc OT := ⟨fun t => [oV t.o1 t.x.refs.length, oV t.o2 t.x.words.length, .int .i64 t.x.size, .int .i64 t.x.pins], 4, fun _ => rfl, by
  intro x v hv
  simp only [List.mem_cons, List.not_mem_nil, or_false] at hv
  rcases hv with rfl | rfl | rfl | rfl
  · exact oV_one _ _
  · exact oV_one _ _
  · rfl
  · rfl⟩
def o1H (t : OT) : Heap := oH iE 3 t.x.refs t.o1 ++ oH uE 40 t.x.words t.o2
def otH : List OT → Heap
  | [] => []
  | t :: l => o1H t ++ otH l
theorem otH_app : ∀ A B : List OT, otH (A ++ B) = otH A ++ otH B
  | [], B => rfl
  | a :: A, B => by rw [List.cons_append]; show o1H a ++ otH (A ++ B) = o1H a ++ otH A ++ otH B; rw [otH_app A B, List.append_assoc]
structure OwD where
  ts : List OT
  ot : Own
  hs : List Int
  oh : Own
def cpH (c : OwD) : Heap := oH otE 63 c.ts c.ot ++ (otH c.ts ++ oH iE 70 c.hs c.oh)
structure COk (c : OwD) : Prop where
  ot : oOk otE c.ts c.ot
  oh : oOk iE c.hs c.oh
  ts : ∀ t ∈ c.ts, oOk iE t.x.refs t.o1 ∧ oOk uE t.x.words t.o2
def ovSV (o : Own) (n : Nat) : SV := match o with
  | none => ⟨none, 0, 0⟩
  | some ob => ⟨some ⟨ob.b, 0, none⟩, n, ob.c⟩
theorem ovSV_v (o : Own) (n : Nat) : Value.slice (ovSV o n).a (ovSV o n).n (ovSV o n).c = oV o n := by cases o <;> rfl
def toTV (t : OT) : TV := ⟨ovSV t.o1 t.x.refs.length, ovSV t.o2 t.x.words.length, t.x⟩
theorem toTV_r (t : OT) : Value.slice (toTV t).r.a (toTV t).r.n (toTV t).r.c = oV t.o1 t.x.refs.length := ovSV_v _ _
theorem toTV_w (t : OT) : Value.slice (toTV t).w.a (toTV t).w.n (toTV t).w.c = oV t.o2 t.x.words.length := ovSV_v _ _
def cpD (vc : Value) (c : OwD) : DV := ⟨vc, oV c.ot c.ts.length, oV c.oh c.hs.length, c.ts.map toTV⟩
theorem otH_part {ts : List OT} {t : OT} {w : World} (h : HasH (otH ts) w) (ht : t ∈ ts) : HasH (o1H t) w := by
  induction ts with
  | nil => cases ht
  | cons a l ih =>
    have h' : HasH (o1H a ++ otH l) w := h
    rcases List.mem_cons.1 ht with rfl | ht
    · exact fun p hp => h' p (List.mem_append_left _ hp)
    · exact ih (fun p hp => h' p (List.mem_append_right _ hp)) ht
theorem doc_own {w : World} {c : OwD} {vc : Value} {cl : List Int} {q p : Int} (ok : COk c) (hc : SlW w iE vc cl) (h : HasH (cpH c) w) : DocR w (cpD vc c) ⟨cl, q, p, c.ts.map (·.x), c.hs⟩ := by
  have h1 : HasH (oH otE 63 c.ts c.ot) w := fun p hp => h p (List.mem_append_left _ hp)
  have h2 : HasH (otH c.ts) w := fun p hp => h p (List.mem_append_right _ (List.mem_append_left _ hp))
  have h3 : HasH (oH iE 70 c.hs c.oh) w := fun p hp => h p (List.mem_append_right _ (List.mem_append_right _ hp))
  refine ⟨hc, (h1.own ok.ot rfl).conv toTV rfl (fun x => ?_), by show (c.ts.map toTV).map _ = _; rw [List.map_map]; rfl, fun t ht => ?_, fun t ht => ?_, h3.own ok.oh rfl⟩
  · show _ = [Value.slice (toTV x).r.a (toTV x).r.n (toTV x).r.c, Value.slice (toTV x).w.a (toTV x).w.n (toTV x).w.c, _, _]
    rw [toTV_r, toTV_w]; rfl
  · obtain ⟨t0, ht0, rfl⟩ := List.mem_map.1 ht
    rw [toTV_r]
    exact HasH.own (fun p hp => otH_part h2 ht0 p (List.mem_append_left _ hp)) (ok.ts t0 ht0).1 rfl
  · obtain ⟨t0, ht0, rfl⟩ := List.mem_map.1 ht
    rw [toTV_w]
    exact HasH.own (fun p hp => otH_part h2 ht0 p (List.mem_append_right _ hp)) (ok.ts t0 ht0).2 rfl
structure OwL where
  k : Nat
  ts : List OT
  ot : Own
theorem Copied_K {w0 : World} {d : DV} {Q : Dc} (hD : DocR w0 d Q) (hB : DcB Q) : Call Tryz.prog w0 25 [docV d Q] [] (fun r H' => ∃ c, COk c ∧ c.ts.map (·.x) = Q.ts ∧ c.hs = Q.hs ∧ r = docV (cpD d.vc c) Q ∧ H' = cpH c) := by
  have a1 := hD.c.one
  have a2 := hD.t.one
  have a3 := hD.h.one
  have hh := hD.h
  have htl := hD.t
  have hl := hB.hs
  have hl2 := hB.ts
  have hTl := hD.len
  unfold docV
  refine Call.enter1 (n := 40) (by kernel_rfl) Tryz.func25 rfl rfl rfl ?_
  refine K.seq ?_
  refine K.region ?_
  (refine KL.e rfl (Eff.box rfl rfl) ?_; rintro _ _ ⟨b1, rfl, rfl⟩)
  (refine KL.e rfl (Eff.alloc rfl) ?_; rintro _ _ ⟨b2, rfl, rfl⟩)
  refine KL.nil ?_
  refine KE.next ?_
  refine K.seq ?_
  refine K.region ?_
  (refine KL.v rfl (Val.assign rfl) ?_)
  refine KL.nil ?_
  refine KE.next ?_
  refine K.seq ?_
  refine K.seq ?_
  refine K.region ?_
  (refine KL.v rfl (Val.assign rfl) ?_)
  refine KL.nil ?_
  refine KE.next ?_
  refine K.block ?_
  refine K.loopT (σ := OwL) [(1, _), (2, _)] (fun s kp_ => (4, .int .i64 (s.k : Nat)) :: (3, oV s.ot s.ts.length) :: kp_) (fun s => oH otE 63 s.ts s.ot ++ (otH s.ts ++ ((b1, cells [d.vc, .int .i64 Q.quota, .int .i64 Q.caps, d.vt, d.vh] 35) :: (b2, cells [.slice none 0 0, .int .i64 0, .int .i64 0, .slice none 0 0, .slice none 0 0] 35) :: []))) (fun s => s.k ≤ d.T.length ∧ oOk otE s.ts s.ot ∧ s.ts.map (·.x) = Q.ts.take s.k ∧ (∀ t ∈ s.ts, oOk iE t.x.refs t.o1 ∧ oOk uE t.x.words t.o2)) (fun s => d.T.length - s.k) (⟨0, [], none⟩) bySub byPart (⟨by simp, rfl, by simp, by simp⟩) ?_
  rintro ⟨k, ts, ot⟩ ⟨hk, okt, hmp, oks⟩
  dsimp only at hk okt hmp oks ⊢
  by_cases hlt : k < d.T.length
  · obtain ⟨t, ht⟩ := get_of_lt hlt
    have hx := hD.get ht
    have hr := hD.r t (List.mem_of_getElem? ht)
    have hu := hD.u t (List.mem_of_getElem? ht)
    have hto := hB.x t.x (List.mem_of_getElem? hx)
    have hsz := hto.sz
    have hb1 : t.x.refs.length ≤ 4294967296 := by omega
    have hb2 : t.x.words.length ≤ 4294967296 := by omega
    have htsl : ts.length = k := by have := congrArg List.length hmp; simp at this; omega
    refine K.seq ?_
    refine K.seq ?_
    refine K.region ?_
    (refine KL.v rfl (Val.move rfl) ?_)
    (refine KL.v rfl (Val.fieldAddr0 (k := 3) rfl rfl) ?_)
    (refine KL.v rfl (Val.loadP rfl rfl (Sees.cell byTake rfl)) ?_)
    (refine KL.v rfl (Val.lenSl rfl rfl bySli) ?_)
    (refine KL.v rfl (Val.isT (Val.lss rfl rfl) byLt) ?_)
    refine KL.nil ?_
    refine KE.next ?_
    refine K.condT rfl ?_
    refine K.skip ?_
    refine KE.next ?_
    refine K.seq ?_
    refine K.block ?_
    refine K.seq ?_
    refine K.region ?_
    (refine KL.v rfl (Val.fieldAddr0 (k := 3) rfl rfl) ?_)
    (refine KL.v rfl (Val.loadP rfl rfl (Sees.cell byTake rfl)) ?_)
    (refine KL.v rfl (Val.move rfl) ?_)
    (refine KL.v rfl (Val.idxSl rfl rfl rfl bySli rfl byLt) ?_)
    (refine KL.v rfl (Val.loadAP rfl rfl rfl bySeeA) ?_)
    (refine KL.e rfl (Eff.alloc rfl) ?_; rintro _ _ ⟨b5, rfl, rfl⟩)
    (refine KL.eN (Eff.storeAL rfl rfl rfl byTake byLay byOnes) ?_; rintro _ _ rfl)
    refine KL.nil ?_
    refine KE.next ?_
    refine K.seq ?_
    refine K.region ?_
    (refine KL.e rfl (Eff.buildS byParts rfl rfl rfl rfl rfl byFill) ?_; rintro _ _ ⟨b18, rfl, rfl⟩)
    (refine KL.v rfl (Val.fieldAddr0 (k := 0) rfl rfl) ?_)
    (refine KL.v rfl (Val.loadP rfl rfl (Sees.cell byTake rfl)) ?_)
    (refine KL.e rfl (Eff.appLit (E := iE) (ys := t.x.refs) rfl rfl rfl rfl rfl rfl rfl byTake (by first | exact Sli.blk byTake rfl (by first | decide | simp) (by first | decide | (unfold maxLen; omega)) rfl | exact Sli.old (by assumption) | exact Sli.own byTakeL (by assumption) byLen | assumption | exact Sli.part (by assumption) byPart) (by first | assumption | omega | (simp <;> fail) | (simp; omega)) rfl) ?_; rintro _ _ ⟨oa, oka, rfl, rfl⟩)
    (refine KL.v rfl (Val.fieldAddr0 (k := 0) rfl rfl) ?_)
    (refine KL.eN (Eff.storeL rfl rfl byOne rfl byTake bySetAt) ?_; rintro _ _ rfl)
    refine KL.nil ?_
    refine KE.next ?_
    refine K.seq ?_
    refine K.region ?_
    (refine KL.e rfl (Eff.buildS byParts rfl rfl rfl rfl rfl byFill) ?_; rintro _ _ ⟨b23, rfl, rfl⟩)
    (refine KL.v rfl (Val.fieldAddr0 (k := 1) rfl rfl) ?_)
    (refine KL.v rfl (Val.loadP rfl rfl (Sees.cell byTake rfl)) ?_)
    (refine KL.e rfl (Eff.appLit (E := uE) (ys := t.x.words) rfl rfl rfl rfl rfl rfl rfl byTake (by first | exact Sli.blk byTake rfl (by first | decide | simp) (by first | decide | (unfold maxLen; omega)) rfl | exact Sli.old (by assumption) | exact Sli.own byTakeL (by assumption) byLen | assumption | exact Sli.part (by assumption) byPart) (by first | assumption | omega | (simp <;> fail) | (simp; omega)) rfl) ?_; rintro _ _ ⟨ob, okb, rfl, rfl⟩)
    (refine KL.v rfl (Val.fieldAddr0 (k := 1) rfl rfl) ?_)
    (refine KL.eN (Eff.storeL rfl rfl byOne rfl byTake bySetAt) ?_; rintro _ _ rfl)
    refine KL.nil ?_
    refine KE.next ?_
    have hsnw : (ts ++ [(⟨t.x, oa, ob⟩ : OT)]).map (·.x) = Q.ts.take (k + 1) := by rw [take_snoc hx, List.map_append, hmp]; rfl
    have hbd : (ts ++ [(⟨t.x, oa, ob⟩ : OT)]).length ≤ 4294967296 := by simp only [List.length_append, List.length_singleton]; omega
    have hot : otH (ts ++ [(⟨t.x, oa, ob⟩ : OT)]) = otH ts ++ (oH iE 3 t.x.refs oa ++ oH uE 40 t.x.words ob) := by rw [otH_app]; show _ ++ (o1H _ ++ []) = _; rw [List.append_nil]; rfl
    have oks' : ∀ t' ∈ ts ++ [(⟨t.x, oa, ob⟩ : OT)], oOk iE t'.x.refs t'.o1 ∧ oOk uE t'.x.words t'.o2 := fun p hp => by
      rcases List.mem_append.1 hp with h | h
      · exact oks p h
      · rw [List.mem_singleton.1 h]; exact ⟨oka, okb⟩
    refine byCode ?_
    (refine KL.v rfl (Val.move rfl) ?_)
    (first | (refine KL.v rfl (Val.loadAP rfl rfl rfl bySeeA) ?_) | (refine KL.v rfl (Val.loadA rfl rfl rfl bySeeN) ?_))
    (refine KL.e rfl (Eff.buildS byParts rfl rfl rfl rfl rfl byFill) ?_; rintro _ _ ⟨b30, rfl, rfl⟩)
    (refine KL.e rfl (Eff.appZ (E := otE) (xs := ts) (o := ot) (ys := [⟨t.x, oa, ob⟩]) (zs := ts ++ [⟨t.x, oa, ob⟩]) rfl rfl rfl rfl rfl rfl byTakeL (by assumption) (by first | exact Sli.blk byTake rfl (by first | decide | simp) (by first | decide | (unfold maxLen; omega)) rfl | exact Sli.old (by assumption) | exact Sli.own byTakeL (by assumption) byLen | assumption | exact Sli.part (by assumption) byPart) (rfl) (by first | assumption | omega | (simp <;> fail) | (simp; omega)) rfl) ?_; rintro _ _ ⟨o', ok', rfl, rfl⟩)
    (refine KL.v rfl (Val.assign rfl) ?_)
    refine KL.nil ?_
    refine KE.blkN ?_
    refine KE.next ?_
    refine K.region ?_
    (refine KL.v rfl (Val.move rfl) ?_)
    (refine KL.v rfl (Val.add rfl rfl (by simp only [Go.Proofs.YthamkgghnjenhaaGreat.lo, Go.Proofs.YthamkgghnjenhaaGreat.hi]; omega)) ?_)
    (refine KL.v rfl (Val.assign rfl) ?_)
    refine KL.nil ?_
    exact KE.again ⟨k + 1, ts ++ [⟨t.x, oa, ob⟩], o'⟩ bySub (by dsimp only; rw [hot]; simp only [List.append_assoc]; exact byPart) ⟨by show k + 1 ≤ _; omega, ok', hsnw, oks'⟩ (by show d.T.length - (k + 1) < d.T.length - k; omega)
  · have hmp' : ts.map (·.x) = Q.ts := by rw [hmp]; exact List.take_of_length_le (by omega)
    have hbh : Q.hs.length ≤ 4294967296 := by omega
    refine K.seq ?_
    refine K.seq ?_
    refine K.region ?_
    (refine KL.v rfl (Val.move rfl) ?_)
    (refine KL.v rfl (Val.fieldAddr0 (k := 3) rfl rfl) ?_)
    (refine KL.v rfl (Val.loadP rfl rfl (Sees.cell byTake rfl)) ?_)
    (refine KL.v rfl (Val.lenSl rfl rfl bySli) ?_)
    (refine KL.v rfl (Val.isF (Val.lss rfl rfl) byLt) ?_)
    refine KL.nil ?_
    refine KE.next ?_
    refine K.condF rfl ?_
    refine K.exit ?_
    refine KE.passX ?_
    refine KE.passX ?_
    refine KE.blkX ?_
    refine KE.next ?_
    refine K.seq ?_
    refine K.region ?_
    (refine KL.v rfl (Val.move rfl) ?_)
    (refine KL.v rfl (Val.fieldAddr0 (k := 3) rfl rfl) ?_)
    (refine KL.eN (Eff.storeL rfl rfl byOne rfl byTake bySetAt) ?_; rintro _ _ rfl)
    refine KL.nil ?_
    refine KE.next ?_
    refine K.seq ?_
    refine K.region ?_
    (refine KL.e rfl (Eff.buildS byParts rfl rfl rfl rfl rfl byFill) ?_; rintro _ _ ⟨b34, rfl, rfl⟩)
    (refine KL.v rfl (Val.fieldAddr0 (k := 4) rfl rfl) ?_)
    (refine KL.v rfl (Val.loadP rfl rfl (Sees.cell byTake rfl)) ?_)
    (refine KL.e rfl (Eff.appLit (E := iE) (ys := Q.hs) rfl rfl rfl rfl rfl rfl rfl byTake (by first | exact Sli.blk byTake rfl (by first | decide | simp) (by first | decide | (unfold maxLen; omega)) rfl | exact Sli.old (by assumption) | exact Sli.own byTakeL (by assumption) byLen | assumption | exact Sli.part (by assumption) byPart) (by first | assumption | omega | (simp <;> fail) | (simp; omega)) rfl) ?_; rintro _ _ ⟨oh, okh, rfl, rfl⟩)
    (refine KL.v rfl (Val.fieldAddr0 (k := 4) rfl rfl) ?_)
    (refine KL.eN (Eff.storeL rfl rfl byOne rfl byTake bySetAt) ?_; rintro _ _ rfl)
    refine KL.nil ?_
    refine KE.next ?_
    refine K.seq ?_
    refine K.region ?_
    (refine KL.v rfl (Val.loadA rfl rfl rfl bySeeN) ?_)
    (refine KL.eN (Eff.storeAL rfl rfl rfl byTake byLay byOnes) ?_; rintro _ _ rfl)
    refine KL.nil ?_
    refine KE.next ?_
    refine K.ret ?_
    exact KE.fin (H' := cpH ⟨ts, ot, Q.hs, oh⟩) byMarks rfl byRes (by unfold cpH; exact byPart) ⟨⟨ts, ot, Q.hs, oh⟩, ⟨okt, okh, oks⟩, hmp', rfl, rfl, rfl⟩
/-! ## what an object takes -/
theorem sizeD_bnd {Q : Dc} (hB : DcB Q) (a b : Int) : 0 ≤ sizeD Q a b ∧ sizeD Q a b ≤ 64 := by
  obtain ⟨s1, s2⟩ := size_round (Q := Q) (a := a) (b := b) hB.cl
  by_cases hz : sizeD Q a b = 0
  · omega
  · have hy : mayP 0 a b = true ∧ (roundP Q.cl (a + b + 1)).2 = 0 := Classical.byContradiction fun hn => hz (s1.2 hn)
    have := round_bnd (n := a + b + 1) hB.cl hy.2
    rw [s2 hz]; omega
theorem usedD_bnd {Q : Dc} (hB : DcB Q) : 0 ≤ usedD Q ∧ usedD Q ≤ 6400 := by
  have hol := objsD_len Q
  have hts := hB.ts
  have key : ∀ l : List Int, (∀ i ∈ l, (i - 1).toNat < Q.ts.length) → 0 ≤ (l.map (szD Q)).sum ∧ (l.map (szD Q)).sum ≤ l.length * 64 := by
    intro l
    induction l with
    | nil => intro _; simp
    | cons i l ih =>
      intro h
      have h1 := ih fun j hj => h j (.tail _ hj)
      obtain ⟨x, hx⟩ := get_of_lt (h i (.head _))
      have hs : 0 ≤ szD Q i ∧ szD Q i ≤ 64 := by
        have := (hB.x x (List.mem_of_getElem? hx)).sz
        simp only [szD, hx, Option.map_some, Option.getD_some]; omega
      simp only [List.map_cons, List.sum_cons, List.length_cons]; omega
  have := key (objsD Q) fun i hi => (objsD_mem hi).2
  unfold usedD; omega
end Go.Proofs.YthamkgghnjenhaaGreat
namespace Go.Proofs.YthamkgghnjenhaaGreat
open Go.RowKit
set_option linter.unusedVariables false
set_option linter.unusedSimpArgs false
set_option maxRecDepth 10000

structure AlA where
  b9 : Nat
  o1 : Own
  o2 : Own
set_option maxHeartbeats 4000000 in
theorem Ralloc_K {w0 : World} {d : DV} {Q : Dc} {op : OpP} (hD : DocR w0 d Q) (hB : DcB Q) (ht : Q.ts.length < 100) : Call Tryz.prog w0 22 [docV d Q, opV op] [] (GivesD d Q (allocD Q op).1 (allocD Q op).2) := by
  have a1 := hD.c.one
  have a2 := hD.t.one
  have a3 := hD.h.one
  have htl := hD.t
  have hTl := hD.len
  have hsb := sizeD_bnd hB op.a op.b
  have hub := usedD_bnd hB
  have hdv : docV d Q = .agg [d.vc, .int .i64 Q.quota, .int .i64 Q.caps, d.vt, d.vh].toArray := rfl
  have hopv : opV op = .agg [.int .u8 op.code, .int .i64 op.h, .int .i64 op.a, .int .i64 op.b, .int .u64 op.v, .int .i64 op.to].toArray := rfl
  rw [hdv, hopv]
  refine Call.enter2 (n := 61) (by kernel_rfl) Tryz.func22 rfl rfl rfl ?_
  refine K.seq ?_
  refine K.region ?_
  (refine KL.e rfl (Eff.box rfl rfl) ?_; rintro _ _ ⟨b2, rfl, rfl⟩)
  (refine KL.e rfl (Eff.box rfl rfl) ?_; rintro _ _ ⟨b3, rfl, rfl⟩)
  (refine KL.e rfl (Eff.alloc rfl) ?_; rintro _ _ ⟨b4, rfl, rfl⟩)
  (refine KL.e rfl (Eff.alloc rfl) ?_; rintro _ _ ⟨b5, rfl, rfl⟩)
  refine KL.nil ?_
  refine KE.next ?_
  refine K.seq ?_
  refine K.region ?_
  (refine KL.v rfl (Val.loadA rfl rfl rfl bySeeN) ?_)
  (refine KL.v rfl (Val.fieldAddr0 (k := 2) rfl rfl) ?_)
  (refine KL.v rfl (Val.loadP rfl rfl (Sees.cell byTake rfl)) ?_)
  (refine KL.v rfl (Val.fieldAddr0 (k := 3) rfl rfl) ?_)
  (refine KL.v rfl (Val.loadP rfl rfl (Sees.cell byTake rfl)) ?_)
  (refine KL.callc rfl rfl byEvL fun T hT => ?_)
  refine (CallV.fn (RsizeN_K (a := op.a) (b := op.b) hD hB)).mono ?_
  rintro _ _ ⟨rfl, rfl⟩
  refine hT _ _ ?_; clear hT; clear T
  by_cases hz : sizeD Q op.a op.b = 0
  · have hp : allocD Q op = (Q, ⟨50, 0, 0⟩) := by unfold allocD; rw [if_pos hz]
    rw [hz, hp]
    (refine KL.v rfl (Val.assign rfl) ?_)
    refine KL.nil ?_
    refine KE.next ?_
    refine K.seq ?_
    refine K.seq ?_
    refine K.region ?_
    (refine KL.v rfl (Val.move rfl) ?_)
    (refine KL.v rfl (Val.isT (Val.eql rfl rfl) byLt) ?_)
    refine KL.nil ?_
    refine KE.next ?_
    refine K.condT rfl ?_
    refine K.seq ?_
    refine K.drawn _ [(0, 1), (1, 2), (2, 2), (3, 2)] (by kernel_rfl) (by kernel_rfl) (by kernel_rfl) (by kernel_rfl) (by kernel_rfl) (by kernel_rfl) (Part.drop (Part.drop Part.all)) ?_
    refine KD.v1 rfl rfl (Val.loadA rfl rfl rfl bySeeN) ?_
    refine KD.callc rfl rfl rfl byEvL fun T hT => ?_
    (refine (CallV.fn said_K).mono ?_; rintro _ _ ⟨rfl, rfl⟩; unfold sdV; dsimp only)
    (refine hT _ _ byPart ?_; clear hT; clear T)
    (refine KD.eN rfl (Eff.storeAL rfl rfl rfl byTake byLay byOnes) ?_; rintro _ _ rfl; refine ⟨byPart, ?_⟩)
    (refine KD.eN rfl (Eff.storeAL rfl rfl rfl byTake byLay byOnes) ?_; rintro _ _ rfl; refine ⟨byPart, ?_⟩)
    refine KD.nil ?_
    refine KE.next ?_
    refine K.ret ?_
    refine KE.passR ?_
    exact KE.fin byMarks rfl byRes byPart ⟨d, rfl, hD.one, fun w h _ => h⟩
  (refine KL.v rfl (Val.assign rfl) ?_)
  refine KL.nil ?_
  refine KE.next ?_
  refine K.seq ?_
  refine K.seq ?_
  refine K.region ?_
  (refine KL.v rfl (Val.move rfl) ?_)
  (refine KL.v rfl (Val.isF (Val.eql rfl rfl) byLt) ?_)
  refine KL.nil ?_
  refine KE.next ?_
  refine K.condF rfl ?_
  refine K.skip ?_
  refine KE.next ?_
  refine K.seq ?_
  refine K.seq ?_
  refine K.drawn _ [(0, 0), (2, 1), (4, 1), (5, 1), (1, 2), (3, 0), (6, 0)] (by kernel_rfl) (by kernel_rfl) (by kernel_rfl) (by kernel_rfl) (by kernel_rfl) (by kernel_rfl) Part.all ?_
  refine KD.v0 rfl rfl (Val.loadA rfl rfl rfl bySeeN) ?_
  refine KD.v1 rfl rfl (Val.move rfl) ?_
  refine KD.v1 rfl rfl (Val.fieldAddr0 (k := 1) rfl rfl) ?_
  refine KD.v1 rfl rfl (Val.loadP rfl rfl (Sees.cell byTake rfl)) ?_
  refine KD.callc rfl rfl rfl byEvL fun T hT => ?_
  refine (CallV.pure fun w hw => CallV.fn (RUsed_K (hD.only hw.old) hB)).mono ?_
  rintro _ _ ⟨_, ⟨rfl, rfl⟩, rfl⟩
  refine hT _ _ byPart ?_; clear hT; clear T
  by_cases hq : usedD Q + sizeD Q op.a op.b > Q.quota
  · have hp : allocD Q op = (Q, ⟨100, 0, 0⟩) := by unfold allocD; rw [if_neg hz, if_pos hq]
    rw [hp]
    refine KD.v0 rfl rfl (Val.add rfl rfl (by simp only [Go.Proofs.YthamkgghnjenhaaGreat.lo, Go.Proofs.YthamkgghnjenhaaGreat.hi]; omega)) ?_
    refine KD.v0 rfl rfl (Val.isT (Val.gtr rfl rfl) byLt) ?_
    refine KD.nil ?_
    refine KE.next ?_
    refine K.condT rfl ?_
    refine K.seq ?_
    refine K.drawn _ [(0, 1), (1, 2), (2, 2), (3, 2)] (by kernel_rfl) (by kernel_rfl) (by kernel_rfl) (by kernel_rfl) (by kernel_rfl) (by kernel_rfl) (Part.takeA TakeL.head (Part.drop (Part.drop Part.all))) ?_
    refine KD.v1 rfl rfl (Val.loadA rfl rfl rfl bySeeN) ?_
    refine KD.callc rfl rfl rfl byEvL fun T hT => ?_
    (refine (CallV.fn said_K).mono ?_; rintro _ _ ⟨rfl, rfl⟩; unfold sdV; dsimp only)
    (refine hT _ _ byPart ?_; clear hT; clear T)
    (refine KD.eN rfl (Eff.storeAL rfl rfl rfl byTake byLay byOnes) ?_; rintro _ _ rfl; refine ⟨byPart, ?_⟩)
    (refine KD.eN rfl (Eff.storeAL rfl rfl rfl byTake byLay byOnes) ?_; rintro _ _ rfl; refine ⟨byPart, ?_⟩)
    refine KD.nil ?_
    refine KE.next ?_
    refine K.ret ?_
    refine KE.passR ?_
    exact KE.fin byMarks rfl byRes byPart ⟨d, rfl, hD.one, fun w h _ => h⟩
  refine KD.v0 rfl rfl (Val.add rfl rfl (by simp only [Go.Proofs.YthamkgghnjenhaaGreat.lo, Go.Proofs.YthamkgghnjenhaaGreat.hi]; omega)) ?_
  refine KD.v0 rfl rfl (Val.isF (Val.gtr rfl rfl) byLt) ?_
  refine KD.nil ?_
  refine KE.next ?_
  refine K.condF rfl ?_
  refine K.skip ?_
  refine KE.next ?_
  refine K.seq ?_
  refine K.region ?_
  (refine KL.v rfl (Val.loadA rfl rfl rfl bySeeN) ?_)
  (refine KL.v rfl (Val.fieldAddr0 (k := 3) rfl rfl) ?_)
  (refine KL.v rfl (Val.loadP rfl rfl (Sees.cell byTake rfl)) ?_)
  (refine KL.v rfl (Val.lenSl rfl rfl bySli) ?_)
  (refine KL.v rfl (Val.add rfl rfl (by simp only [Go.Proofs.YthamkgghnjenhaaGreat.lo, Go.Proofs.YthamkgghnjenhaaGreat.hi]; omega)) ?_)
  (refine KL.callc rfl rfl byEvL fun T hT => ?_)
  rw [hTl]
  refine (CallV.pure fun w hw => CallV.fn (Rmint_K (id := (Q.ts.length : Int) + 1) (hD.only hw.old) hB)).mono ?_
  rintro _ _ ⟨N, ⟨d', rfl, ⟨b1', b2', b3'⟩, hd'⟩, rfl⟩
  by_cases hc : Q.caps ≤ ((liveD Q).length : Nat)
  · have hm : mintD Q ((Q.ts.length : Int) + 1) = (Q, ⟨131, 0, 0⟩) := by unfold mintD; rw [if_pos hc]
    have hp : allocD Q op = (Q, ⟨131, 0, 0⟩) := by unfold allocD; rw [if_neg hz, if_neg hq, hm]; rfl
    rw [hm] at hd' ⊢
    unfold docV sdV
    dsimp only
    refine hT _ _ ?_; clear hT; clear T
    rw [hp]
    (refine KL.v rfl (Val.move rfl) ?_)
    (refine KL.v rfl (Val.extract rfl rfl) ?_)
    (refine KL.v rfl (Val.extract rfl rfl) ?_)
    (refine KL.e rfl (Eff.alloc rfl) ?_; rintro _ _ ⟨b7, rfl, rfl⟩)
    (refine KL.e rfl (Eff.alloc rfl) ?_; rintro _ _ ⟨b8, rfl, rfl⟩)
    (refine KL.eN (Eff.storeAL rfl rfl rfl byTake byLay byOnes) ?_; rintro _ _ rfl)
    (refine KL.eN (Eff.storeAL rfl rfl rfl byTake byLay byOnes) ?_; rintro _ _ rfl)
    refine KL.nil ?_
    refine KE.next ?_
    refine K.seq ?_
    refine K.seq ?_
    refine K.region ?_
    (refine KL.v rfl (Val.fieldAddr0 (k := 0) rfl rfl) ?_)
    (refine KL.v rfl (Val.loadP rfl rfl (Sees.cell byTake rfl)) ?_)
    (refine KL.v rfl (Val.isT (Val.neq rfl rfl) byLt) ?_)
    refine KL.nil ?_
    refine KE.next ?_
    refine K.condT rfl ?_
    refine K.seq ?_
    refine K.drawn _ [(0, 0), (1, 1), (2, 2), (3, 2)] (by kernel_rfl) (by kernel_rfl) (by kernel_rfl) (by kernel_rfl) (by kernel_rfl) (by kernel_rfl) (Part.take Take.head (Part.take Take.head (Part.takeA TakeL.head (Part.takeA TakeL.head (Part.drop (Part.drop Part.all)))))) ?_
    refine KD.v0 rfl rfl (Val.loadA rfl rfl rfl bySeeN) ?_
    refine KD.v1 rfl rfl (Val.loadA rfl rfl rfl bySeeN) ?_
    (refine KD.eN rfl (Eff.storeAL rfl rfl rfl byTake byLay byOnes) ?_; rintro _ _ rfl; refine ⟨byPart, ?_⟩)
    (refine KD.eN rfl (Eff.storeAL rfl rfl rfl byTake byLay byOnes) ?_; rintro _ _ rfl; refine ⟨byPart, ?_⟩)
    refine KD.nil ?_
    refine KE.next ?_
    refine K.ret ?_
    refine KE.passR ?_
    exact KE.fin byMarks rfl byRes byPart ⟨d, rfl, hD.one, fun w h _ => h⟩
  have hm : mintD Q ((Q.ts.length : Int) + 1) = ({ Q with hs := Q.hs ++ [(Q.ts.length : Int) + 1] }, ⟨0, (Q.hs.length : Int) + 1, 0⟩) := by unfold mintD; rw [if_neg hc]
  have hp : allocD Q op = ({ Q with hs := Q.hs ++ [(Q.ts.length : Int) + 1], ts := Q.ts ++ [newTh op.a op.b (sizeD Q op.a op.b)] }, ⟨0, (Q.hs.length : Int) + 1, 0⟩) := by unfold allocD; rw [if_neg hz, if_neg hq, hm]; rfl
  rw [hm] at hd' ⊢
  unfold docV sdV
  dsimp only at hd' ⊢
  refine hT _ _ ?_; clear hT; clear T
  rw [hp]
  obtain ⟨sz, hsz⟩ : ∃ sz, sz = sizeD Q op.a op.b := ⟨_, rfl⟩
  have hmy : 0 ≤ op.a ∧ 0 ≤ op.b ∧ op.a + op.b ≤ 63 := by
    obtain ⟨s1, s2⟩ := size_round (Q := Q) (a := op.a) (b := op.b) hB.cl
    have hy : mayP 0 op.a op.b = true ∧ (roundP Q.cl (op.a + op.b + 1)).2 = 0 := Classical.byContradiction fun hn => hz (s1.2 hn)
    have := hy.1
    simp [mayP] at this; omega
  rw [← hsz] at hz hq hsb ⊢
  clear hopv hp hm
  obtain ⟨code, hh, a, b, v, to⟩ := op
  dsimp only at *
  obtain ⟨na, rfl⟩ : ∃ na : Nat, a = na := ⟨a.toNat, by omega⟩
  obtain ⟨nb, rfl⟩ : ∃ nb : Nat, b = nb := ⟨b.toNat, by omega⟩
  (refine KL.v rfl (Val.move rfl) ?_)
  (refine KL.v rfl (Val.extract rfl rfl) ?_)
  (refine KL.v rfl (Val.extract rfl rfl) ?_)
  (refine KL.e rfl (Eff.alloc rfl) ?_; rintro _ _ ⟨b7, rfl, rfl⟩)
  (refine KL.e rfl (Eff.alloc rfl) ?_; rintro _ _ ⟨b8, rfl, rfl⟩)
  (refine KL.eN (Eff.storeAL rfl rfl rfl byTake byLay byOnes) ?_; rintro _ _ rfl)
  (refine KL.eN (Eff.storeAL rfl rfl rfl byTake byLay byOnes) ?_; rintro _ _ rfl)
  refine KL.nil ?_
  refine KE.next ?_
  refine K.seq ?_
  refine K.seq ?_
  refine K.region ?_
  (refine KL.v rfl (Val.fieldAddr0 (k := 0) rfl rfl) ?_)
  (refine KL.v rfl (Val.loadP rfl rfl (Sees.cell byTake rfl)) ?_)
  (refine KL.v rfl (Val.isF (Val.neq rfl rfl) byLt) ?_)
  refine KL.nil ?_
  refine KE.next ?_
  refine K.condF rfl ?_
  refine K.skip ?_
  refine KE.next ?_
  have hnx : newTh (na : Int) (nb : Int) sz = ⟨List.replicate na 0, List.replicate nb 0, sz, 0⟩ := by simp [newTh]
  rw [hnx]
  refine K.cutT (σ := AlA) [(2, _), (4, _), (5, _), (7, _), (8, _)] bySub (fun s kp_ => (9, .pointer (some ⟨s.b9, 0, none⟩)) :: kp_) (fun s => oH iE 3 (List.replicate na 0) s.o1 ++ (oH uE 40 (List.replicate nb 0) s.o2 ++ ((s.b9, cells [.slice (ovSV s.o1 (List.replicate na (0 : Int)).length).a (ovSV s.o1 (List.replicate na (0 : Int)).length).n (ovSV s.o1 (List.replicate na (0 : Int)).length).c, .slice (ovSV s.o2 (List.replicate nb (0 : Int)).length).a (ovSV s.o2 (List.replicate nb (0 : Int)).length).n (ovSV s.o2 (List.replicate nb (0 : Int)).length).c, .int .i64 sz, .int .i64 0] 63) :: (b8, cells [.int .i64 0, .int .i64 ((Q.hs.length : Int) + 1), .int .u64 0] 42) :: (b7, cells [d'.vc, .int .i64 Q.quota, .int .i64 Q.caps, d'.vt, d'.vh] 35) :: (N ++ ((b5, cells [.int .i64 0, .int .i64 0, .int .u64 0] 42) :: (b4, cells [.slice none 0 0, .int .i64 0, .int .i64 0, .slice none 0 0, .slice none 0 0] 35) :: (b2, cells [d.vc, .int .i64 Q.quota, .int .i64 Q.caps, d.vt, d.vh] 35) :: []))))) (fun s => oOk iE (List.replicate na 0) s.o1 ∧ oOk uE (List.replicate nb 0) s.o2) ?_ ?_
  · skip
    refine byCodeD ?_
    refine K.drawn (_) [(0, 1), (1, 1), (3, 1), (4, 1), (6, 1), (2, 3), (5, 3), (7, 1), (8, 2), (9, 2)] (by kernel_rfl) (by kernel_rfl) (by kernel_rfl) (by kernel_rfl) (by kernel_rfl) (by kernel_rfl) byPart ?_
    (first | refine KD.v1 rfl rfl (Val.fieldSl (k := 2) rfl rfl) ?_ | refine KD.v1 rfl rfl (Val.fieldAddr0 (k := 2) rfl rfl) ?_ | refine KD.v1 rfl rfl (Val.fieldAddrZ rfl rfl) ?_ | refine KD.v1 rfl rfl (Val.fieldAddr (k := 2) rfl rfl) ?_)
    refine KD.v1 rfl rfl (Val.loadP rfl rfl bySee) ?_
    (first | refine KD.v1 rfl rfl (Val.fieldSl (k := 3) rfl rfl) ?_ | refine KD.v1 rfl rfl (Val.fieldAddr0 (k := 3) rfl rfl) ?_ | refine KD.v1 rfl rfl (Val.fieldAddrZ rfl rfl) ?_ | refine KD.v1 rfl rfl (Val.fieldAddr (k := 3) rfl rfl) ?_)
    refine KD.v1 rfl rfl (Val.loadP rfl rfl bySee) ?_
    refine KD.v1 rfl rfl (Val.move rfl) ?_
    refine KD.fork3 (x := 2) (y := 5) (z := 8) (o1 := [(5, 3), (7, 1), (8, 2), (9, 2)]) (o2 := [(2, 3), (7, 1), (8, 2), (9, 2)]) (o3 := [(2, 3), (5, 2), (7, 0), (9, 2)]) (by kernel_rfl) rfl rfl rfl (by kernel_rfl) (by kernel_rfl) (by kernel_rfl) ?_ ?_ ?_
    · (refine ActK.e rfl (Eff.makeR (E := iE) (x0 := 0) rfl rfl rfl rfl rfl rfl (by first | assumption | omega | (simp <;> fail) | (simp; omega))) ?_; rintro _ _ ⟨o45, ok45, rfl, rfl⟩; refine ⟨byPart, ?_⟩)
      refine KD.fork2 (x := 5) (y := 8) (o1 := [(7, 1), (8, 2), (9, 2)]) (o2 := [(5, 2), (7, 0), (9, 2)]) (by kernel_rfl) rfl rfl (by kernel_rfl) (by kernel_rfl) ?_ ?_
      · (refine ActK.e rfl (Eff.makeR (E := uE) (x0 := 0) rfl rfl rfl rfl rfl rfl (by first | assumption | omega | (simp <;> fail) | (simp; omega))) ?_; rintro _ _ ⟨o48, ok48, rfl, rfl⟩; refine ⟨byPart, ?_⟩)
        refine KD.v1 rfl rfl (Val.build byParts rfl rfl byFill) ?_
        (refine KD.e rfl rfl (Eff.alloc rfl) ?_; rintro _ _ ⟨b9, rfl, rfl⟩; refine ⟨byPart, ?_⟩)
        (first | (refine KD.eN rfl (Eff.storeAL rfl rfl rfl byTake byLay byOnes) ?_; rintro _ _ rfl; refine ⟨byPart, ?_⟩) | (refine KD.eN rfl (Eff.stSlA rfl rfl rfl rfl byTakeL (by assumption) (by assumption)) ?_; rintro _ _ rfl; refine ⟨byPart, ?_⟩))
        refine KD.nil ?_
        exact KE.meet ⟨b9, o45, o48⟩ bySub (by dsimp only; rw [ovSV_v, ovSV_v]; exact byPart) ⟨ok45, ok48⟩
      · (refine ActK.e rfl (Eff.alloc rfl) ?_; rintro _ _ ⟨b9, rfl, rfl⟩; refine ⟨byPart, ?_⟩)
        (refine KD.e rfl rfl (Eff.makeR (E := uE) (x0 := 0) rfl rfl rfl rfl rfl rfl (by first | assumption | omega | (simp <;> fail) | (simp; omega))) ?_; rintro _ _ ⟨o48, ok48, rfl, rfl⟩; refine ⟨byPart, ?_⟩)
        refine KD.v0 rfl rfl (Val.build byParts rfl rfl byFill) ?_
        (first | (refine KD.eN rfl (Eff.storeAL rfl rfl rfl byTake byLay byOnes) ?_; rintro _ _ rfl; refine ⟨byPart, ?_⟩) | (refine KD.eN rfl (Eff.stSlA rfl rfl rfl rfl byTakeL (by assumption) (by assumption)) ?_; rintro _ _ rfl; refine ⟨byPart, ?_⟩))
        refine KD.nil ?_
        exact KE.meet ⟨b9, o45, o48⟩ bySub (by dsimp only; rw [ovSV_v, ovSV_v]; exact byPart) ⟨ok45, ok48⟩
    · (refine ActK.e rfl (Eff.makeR (E := uE) (x0 := 0) rfl rfl rfl rfl rfl rfl (by first | assumption | omega | (simp <;> fail) | (simp; omega))) ?_; rintro _ _ ⟨o48, ok48, rfl, rfl⟩; refine ⟨byPart, ?_⟩)
      refine KD.fork2 (x := 2) (y := 8) (o1 := [(7, 1), (8, 2), (9, 2)]) (o2 := [(2, 2), (7, 0), (9, 2)]) (by kernel_rfl) rfl rfl (by kernel_rfl) (by kernel_rfl) ?_ ?_
      · (refine ActK.e rfl (Eff.makeR (E := iE) (x0 := 0) rfl rfl rfl rfl rfl rfl (by first | assumption | omega | (simp <;> fail) | (simp; omega))) ?_; rintro _ _ ⟨o45, ok45, rfl, rfl⟩; refine ⟨byPart, ?_⟩)
        refine KD.v1 rfl rfl (Val.build byParts rfl rfl byFill) ?_
        (refine KD.e rfl rfl (Eff.alloc rfl) ?_; rintro _ _ ⟨b9, rfl, rfl⟩; refine ⟨byPart, ?_⟩)
        (first | (refine KD.eN rfl (Eff.storeAL rfl rfl rfl byTake byLay byOnes) ?_; rintro _ _ rfl; refine ⟨byPart, ?_⟩) | (refine KD.eN rfl (Eff.stSlA rfl rfl rfl rfl byTakeL (by assumption) (by assumption)) ?_; rintro _ _ rfl; refine ⟨byPart, ?_⟩))
        refine KD.nil ?_
        exact KE.meet ⟨b9, o45, o48⟩ bySub (by dsimp only; rw [ovSV_v, ovSV_v]; exact byPart) ⟨ok45, ok48⟩
      · (refine ActK.e rfl (Eff.alloc rfl) ?_; rintro _ _ ⟨b9, rfl, rfl⟩; refine ⟨byPart, ?_⟩)
        (refine KD.e rfl rfl (Eff.makeR (E := iE) (x0 := 0) rfl rfl rfl rfl rfl rfl (by first | assumption | omega | (simp <;> fail) | (simp; omega))) ?_; rintro _ _ ⟨o45, ok45, rfl, rfl⟩; refine ⟨byPart, ?_⟩)
        refine KD.v0 rfl rfl (Val.build byParts rfl rfl byFill) ?_
        (first | (refine KD.eN rfl (Eff.storeAL rfl rfl rfl byTake byLay byOnes) ?_; rintro _ _ rfl; refine ⟨byPart, ?_⟩) | (refine KD.eN rfl (Eff.stSlA rfl rfl rfl rfl byTakeL (by assumption) (by assumption)) ?_; rintro _ _ rfl; refine ⟨byPart, ?_⟩))
        refine KD.nil ?_
        exact KE.meet ⟨b9, o45, o48⟩ bySub (by dsimp only; rw [ovSV_v, ovSV_v]; exact byPart) ⟨ok45, ok48⟩
    · (refine ActK.e rfl (Eff.alloc rfl) ?_; rintro _ _ ⟨b9, rfl, rfl⟩; refine ⟨byPart, ?_⟩)
      refine KD.fork2 (x := 2) (y := 5) (o1 := [(5, 2), (7, 0), (9, 2)]) (o2 := [(2, 2), (7, 0), (9, 2)]) (by kernel_rfl) rfl rfl (by kernel_rfl) (by kernel_rfl) ?_ ?_
      · (refine ActK.e rfl (Eff.makeR (E := iE) (x0 := 0) rfl rfl rfl rfl rfl rfl (by first | assumption | omega | (simp <;> fail) | (simp; omega))) ?_; rintro _ _ ⟨o45, ok45, rfl, rfl⟩; refine ⟨byPart, ?_⟩)
        (refine KD.e rfl rfl (Eff.makeR (E := uE) (x0 := 0) rfl rfl rfl rfl rfl rfl (by first | assumption | omega | (simp <;> fail) | (simp; omega))) ?_; rintro _ _ ⟨o48, ok48, rfl, rfl⟩; refine ⟨byPart, ?_⟩)
        refine KD.v0 rfl rfl (Val.build byParts rfl rfl byFill) ?_
        (first | (refine KD.eN rfl (Eff.storeAL rfl rfl rfl byTake byLay byOnes) ?_; rintro _ _ rfl; refine ⟨byPart, ?_⟩) | (refine KD.eN rfl (Eff.stSlA rfl rfl rfl rfl byTakeL (by assumption) (by assumption)) ?_; rintro _ _ rfl; refine ⟨byPart, ?_⟩))
        refine KD.nil ?_
        exact KE.meet ⟨b9, o45, o48⟩ bySub (by dsimp only; rw [ovSV_v, ovSV_v]; exact byPart) ⟨ok45, ok48⟩
      · (refine ActK.e rfl (Eff.makeR (E := uE) (x0 := 0) rfl rfl rfl rfl rfl rfl (by first | assumption | omega | (simp <;> fail) | (simp; omega))) ?_; rintro _ _ ⟨o48, ok48, rfl, rfl⟩; refine ⟨byPart, ?_⟩)
        (refine KD.e rfl rfl (Eff.makeR (E := iE) (x0 := 0) rfl rfl rfl rfl rfl rfl (by first | assumption | omega | (simp <;> fail) | (simp; omega))) ?_; rintro _ _ ⟨o45, ok45, rfl, rfl⟩; refine ⟨byPart, ?_⟩)
        refine KD.v0 rfl rfl (Val.build byParts rfl rfl byFill) ?_
        (first | (refine KD.eN rfl (Eff.storeAL rfl rfl rfl byTake byLay byOnes) ?_; rintro _ _ rfl; refine ⟨byPart, ?_⟩) | (refine KD.eN rfl (Eff.stSlA rfl rfl rfl rfl byTakeL (by assumption) (by assumption)) ?_; rintro _ _ rfl; refine ⟨byPart, ?_⟩))
        refine KD.nil ?_
        exact KE.meet ⟨b9, o45, o48⟩ bySub (by dsimp only; rw [ovSV_v, ovSV_v]; exact byPart) ⟨ok45, ok48⟩
  · rintro ⟨b9, o1, o2⟩ ⟨ok1, ok2⟩
    dsimp only at ok1 ok2 ⊢
    obtain ⟨t, ht'⟩ : ∃ t : TV, t = ⟨ovSV o1 (List.replicate na (0 : Int)).length, ovSV o2 (List.replicate nb (0 : Int)).length, ⟨List.replicate na 0, List.replicate nb 0, sz, 0⟩⟩ := ⟨_, rfl⟩
    have hbd : (d.T ++ [t]).length ≤ 4294967296 := by simp only [List.length_append, List.length_singleton]; omega
    have hbd1 : d.T.length ≤ 4294967296 := by omega
    refine K.cutT (σ := Own) [(4, _), (5, _), (7, _), (8, _)] bySub (fun s kp_ => kp_) (fun s => oH thE 63 (d.T ++ [t]) s ++ (oH iE 3 (List.replicate na 0) o1 ++ (oH uE 40 (List.replicate nb 0) o2 ++ ((b8, cells [.int .i64 0, .int .i64 ((Q.hs.length : Int) + 1), .int .u64 0] 42) :: (b7, cells [d'.vc, .int .i64 Q.quota, .int .i64 Q.caps, oV s (d.T ++ [t]).length, d'.vh] 35) :: (N ++ ((b5, cells [.int .i64 0, .int .i64 0, .int .u64 0] 42) :: (b4, cells [.slice none 0 0, .int .i64 0, .int .i64 0, .slice none 0 0, .slice none 0 0] 35) :: (b2, cells [d.vc, .int .i64 Q.quota, .int .i64 Q.caps, d.vt, d.vh] 35) :: [])))))) (fun s => oOk thE (d.T ++ [t]) s) ?_ ?_
    · skip
      subst ht'
      refine byCodeD ?_
      refine K.drawn ((b9, cells [.slice (ovSV o1 (List.replicate na (0 : Int)).length).a (ovSV o1 (List.replicate na (0 : Int)).length).n (ovSV o1 (List.replicate na (0 : Int)).length).c, .slice (ovSV o2 (List.replicate nb (0 : Int)).length).a (ovSV o2 (List.replicate nb (0 : Int)).length).n (ovSV o2 (List.replicate nb (0 : Int)).length).c, .int .i64 sz, .int .i64 0] 63) :: (b2, cells [d.vc, .int .i64 Q.quota, .int .i64 Q.caps, d.vt, d.vh] 35) :: []) [(1, 1), (2, 1), (4, 1), (0, 3), (3, 3), (5, 2), (6, 2), (7, 0), (8, 2)] (by kernel_rfl) (by kernel_rfl) (by kernel_rfl) (by kernel_rfl) (by kernel_rfl) (by kernel_rfl) byPart ?_
      (first | refine KD.v1 rfl rfl (Val.fieldSl (k := 3) rfl rfl) ?_ | refine KD.v1 rfl rfl (Val.fieldAddr0 (k := 3) rfl rfl) ?_ | refine KD.v1 rfl rfl (Val.fieldAddrZ rfl rfl) ?_ | refine KD.v1 rfl rfl (Val.fieldAddr (k := 3) rfl rfl) ?_)
      refine KD.v1 rfl rfl (Val.loadP rfl rfl bySee) ?_
      (first | refine KD.v1 rfl rfl (Val.loadAP rfl rfl rfl bySeeA) ?_ | refine KD.v1 rfl rfl (Val.loadA rfl rfl rfl bySeeN) ?_)
      refine KD.fork2 (x := 0) (y := 5) (o1 := [(3, 3), (5, 2), (6, 2), (7, 0), (8, 2)]) (o2 := [(0, 2), (3, 2), (6, 2), (7, 0), (8, 2)]) (by kernel_rfl) rfl rfl (by kernel_rfl) (by kernel_rfl) ?_ ?_
      · (refine ActK.e rfl (Eff.buildS byParts rfl rfl rfl rfl rfl byFill) ?_; rintro _ _ ⟨b51, rfl, rfl⟩; refine ⟨byPart, ?_⟩)
        refine KD.fork2 (x := 3) (y := 5) (o1 := [(5, 2), (6, 2), (7, 0), (8, 2)]) (o2 := [(3, 2), (6, 2), (7, 0), (8, 2)]) (by kernel_rfl) rfl rfl (by kernel_rfl) (by kernel_rfl) ?_ ?_
        · (refine ActK.e rfl (Eff.appLit (E := thE) (ys := d.T) rfl rfl rfl rfl rfl rfl rfl byTake (by first | exact Sli.blk byTake rfl (by first | decide | simp) (by first | decide | (unfold maxLen; omega)) rfl | exact Sli.old (by assumption) | exact Sli.own byTakeL (by assumption) byLen | assumption | exact Sli.part (by assumption) byPart) (by first | assumption | omega | (simp <;> fail) | (simp; omega)) rfl) ?_; rintro _ _ ⟨oa, oka, rfl, rfl⟩; refine ⟨byPart, ?_⟩)
          (refine KD.e rfl rfl (Eff.buildS byParts rfl rfl rfl rfl rfl byFill) ?_; rintro _ _ ⟨b56, rfl, rfl⟩; refine ⟨byPart, ?_⟩)
          (refine KD.e rfl rfl (Eff.appZ (E := thE) (xs := d.T) (o := oa) (ys := [⟨ovSV o1 (List.replicate na (0 : Int)).length, ovSV o2 (List.replicate nb (0 : Int)).length, ⟨List.replicate na 0, List.replicate nb 0, sz, 0⟩⟩]) (zs := d.T ++ [⟨ovSV o1 (List.replicate na (0 : Int)).length, ovSV o2 (List.replicate nb (0 : Int)).length, ⟨List.replicate na 0, List.replicate nb 0, sz, 0⟩⟩]) rfl rfl rfl rfl rfl rfl byTakeL (by assumption) (by first | exact Sli.blk byTake rfl (by first | decide | simp) (by first | decide | (unfold maxLen; omega)) rfl | exact Sli.old (by assumption) | exact Sli.own byTakeL (by assumption) byLen | assumption | exact Sli.part (by assumption) byPart) (rfl) (by first | assumption | omega | (simp <;> fail) | (simp; omega)) rfl) ?_; rintro _ _ ⟨oz, okz, rfl, rfl⟩; refine ⟨byPart, ?_⟩)
          (first | refine KD.v0 rfl rfl (Val.fieldSl (k := 3) rfl rfl) ?_ | refine KD.v0 rfl rfl (Val.fieldAddr0 (k := 3) rfl rfl) ?_ | refine KD.v0 rfl rfl (Val.fieldAddrZ rfl rfl) ?_ | refine KD.v0 rfl rfl (Val.fieldAddr (k := 3) rfl rfl) ?_)
          (first | (refine KD.eN rfl (Eff.storeL rfl rfl byOne rfl byTake bySetAt) ?_; rintro _ _ rfl; refine ⟨byPart, ?_⟩) | (refine KD.eN rfl (Eff.stSl rfl rfl rfl rfl byTakeL (by assumption) (by assumption) rfl rfl) ?_; rintro _ _ rfl; refine ⟨byPart, ?_⟩) | (refine KD.eN rfl (Eff.stSl0 rfl rfl rfl rfl byTakeL (by assumption) (by assumption) rfl rfl) ?_; rintro _ _ rfl; refine ⟨byPart, ?_⟩))
          refine KD.nil ?_
          exact KE.meet oz bySub byPart okz
        · (refine ActK.e rfl (Eff.buildS byParts rfl rfl rfl rfl rfl byFill) ?_; rintro _ _ ⟨b56, rfl, rfl⟩; refine ⟨byPart, ?_⟩)
          (refine KD.e rfl rfl (Eff.appLit (E := thE) (ys := d.T) rfl rfl rfl rfl rfl rfl rfl byTake (by first | exact Sli.blk byTake rfl (by first | decide | simp) (by first | decide | (unfold maxLen; omega)) rfl | exact Sli.old (by assumption) | exact Sli.own byTakeL (by assumption) byLen | assumption | exact Sli.part (by assumption) byPart) (by first | assumption | omega | (simp <;> fail) | (simp; omega)) rfl) ?_; rintro _ _ ⟨oa, oka, rfl, rfl⟩; refine ⟨byPart, ?_⟩)
          (refine KD.e rfl rfl (Eff.appZ (E := thE) (xs := d.T) (o := oa) (ys := [⟨ovSV o1 (List.replicate na (0 : Int)).length, ovSV o2 (List.replicate nb (0 : Int)).length, ⟨List.replicate na 0, List.replicate nb 0, sz, 0⟩⟩]) (zs := d.T ++ [⟨ovSV o1 (List.replicate na (0 : Int)).length, ovSV o2 (List.replicate nb (0 : Int)).length, ⟨List.replicate na 0, List.replicate nb 0, sz, 0⟩⟩]) rfl rfl rfl rfl rfl rfl byTakeL (by assumption) (by first | exact Sli.blk byTake rfl (by first | decide | simp) (by first | decide | (unfold maxLen; omega)) rfl | exact Sli.old (by assumption) | exact Sli.own byTakeL (by assumption) byLen | assumption | exact Sli.part (by assumption) byPart) (rfl) (by first | assumption | omega | (simp <;> fail) | (simp; omega)) rfl) ?_; rintro _ _ ⟨oz, okz, rfl, rfl⟩; refine ⟨byPart, ?_⟩)
          (first | refine KD.v0 rfl rfl (Val.fieldSl (k := 3) rfl rfl) ?_ | refine KD.v0 rfl rfl (Val.fieldAddr0 (k := 3) rfl rfl) ?_ | refine KD.v0 rfl rfl (Val.fieldAddrZ rfl rfl) ?_ | refine KD.v0 rfl rfl (Val.fieldAddr (k := 3) rfl rfl) ?_)
          (first | (refine KD.eN rfl (Eff.storeL rfl rfl byOne rfl byTake bySetAt) ?_; rintro _ _ rfl; refine ⟨byPart, ?_⟩) | (refine KD.eN rfl (Eff.stSl rfl rfl rfl rfl byTakeL (by assumption) (by assumption) rfl rfl) ?_; rintro _ _ rfl; refine ⟨byPart, ?_⟩) | (refine KD.eN rfl (Eff.stSl0 rfl rfl rfl rfl byTakeL (by assumption) (by assumption) rfl rfl) ?_; rintro _ _ rfl; refine ⟨byPart, ?_⟩))
          refine KD.nil ?_
          exact KE.meet oz bySub byPart okz
      · (refine ActK.e rfl (Eff.buildS byParts rfl rfl rfl rfl rfl byFill) ?_; rintro _ _ ⟨b56, rfl, rfl⟩; refine ⟨byPart, ?_⟩)
        (refine KD.e rfl rfl (Eff.buildS byParts rfl rfl rfl rfl rfl byFill) ?_; rintro _ _ ⟨b51, rfl, rfl⟩; refine ⟨byPart, ?_⟩)
        (refine KD.e rfl rfl (Eff.appLit (E := thE) (ys := d.T) rfl rfl rfl rfl rfl rfl rfl byTake (by first | exact Sli.blk byTake rfl (by first | decide | simp) (by first | decide | (unfold maxLen; omega)) rfl | exact Sli.old (by assumption) | exact Sli.own byTakeL (by assumption) byLen | assumption | exact Sli.part (by assumption) byPart) (by first | assumption | omega | (simp <;> fail) | (simp; omega)) rfl) ?_; rintro _ _ ⟨oa, oka, rfl, rfl⟩; refine ⟨byPart, ?_⟩)
        (refine KD.e rfl rfl (Eff.appZ (E := thE) (xs := d.T) (o := oa) (ys := [⟨ovSV o1 (List.replicate na (0 : Int)).length, ovSV o2 (List.replicate nb (0 : Int)).length, ⟨List.replicate na 0, List.replicate nb 0, sz, 0⟩⟩]) (zs := d.T ++ [⟨ovSV o1 (List.replicate na (0 : Int)).length, ovSV o2 (List.replicate nb (0 : Int)).length, ⟨List.replicate na 0, List.replicate nb 0, sz, 0⟩⟩]) rfl rfl rfl rfl rfl rfl byTakeL (by assumption) (by first | exact Sli.blk byTake rfl (by first | decide | simp) (by first | decide | (unfold maxLen; omega)) rfl | exact Sli.old (by assumption) | exact Sli.own byTakeL (by assumption) byLen | assumption | exact Sli.part (by assumption) byPart) (rfl) (by first | assumption | omega | (simp <;> fail) | (simp; omega)) rfl) ?_; rintro _ _ ⟨oz, okz, rfl, rfl⟩; refine ⟨byPart, ?_⟩)
        (first | refine KD.v0 rfl rfl (Val.fieldSl (k := 3) rfl rfl) ?_ | refine KD.v0 rfl rfl (Val.fieldAddr0 (k := 3) rfl rfl) ?_ | refine KD.v0 rfl rfl (Val.fieldAddrZ rfl rfl) ?_ | refine KD.v0 rfl rfl (Val.fieldAddr (k := 3) rfl rfl) ?_)
        (first | (refine KD.eN rfl (Eff.storeL rfl rfl byOne rfl byTake bySetAt) ?_; rintro _ _ rfl; refine ⟨byPart, ?_⟩) | (refine KD.eN rfl (Eff.stSl rfl rfl rfl rfl byTakeL (by assumption) (by assumption) rfl rfl) ?_; rintro _ _ rfl; refine ⟨byPart, ?_⟩) | (refine KD.eN rfl (Eff.stSl0 rfl rfl rfl rfl byTakeL (by assumption) (by assumption) rfl rfl) ?_; rintro _ _ rfl; refine ⟨byPart, ?_⟩))
        refine KD.nil ?_
        exact KE.meet oz bySub byPart okz
    · rintro oz okz
      refine K.seq ?_
      refine K.drawn _ [(0, 0), (1, 1), (2, 2), (3, 2)] (by kernel_rfl) (by kernel_rfl) (by kernel_rfl) (by kernel_rfl) (by kernel_rfl) (by kernel_rfl) (Part.takeA TakeL.head (Part.takeA TakeL.head (Part.takeA TakeL.head (Part.take Take.head (Part.take Take.head (Part.takeA TakeL.head (Part.drop (Part.drop Part.all)))))))) ?_
      refine KD.v0 rfl rfl (Val.loadA rfl rfl rfl bySeeN) ?_
      refine KD.v1 rfl rfl (Val.loadA rfl rfl rfl bySeeN) ?_
      (refine KD.eN rfl (Eff.storeAL rfl rfl rfl byTake byLay byOnes) ?_; rintro _ _ rfl; refine ⟨byPart, ?_⟩)
      (refine KD.eN rfl (Eff.storeAL rfl rfl rfl byTake byLay byOnes) ?_; rintro _ _ rfl; refine ⟨byPart, ?_⟩)
      refine KD.nil ?_
      refine KE.next ?_
      refine K.ret ?_
      exact KE.fin (H' := oH thE 63 (d.T ++ [t]) oz ++ (oH iE 3 (List.replicate na 0) o1 ++ (oH uE 40 (List.replicate nb 0) o2 ++ N))) byMarks rfl byRes byPart ⟨⟨d'.vc, oV oz (d.T ++ [t]).length, d'.vh, d.T ++ [t]⟩, rfl, ⟨b1', oV_one _ _, b3'⟩, fun w hw hN => by
        have hN1 : HasH (oH thE 63 (d.T ++ [t]) oz) w := hN.part byPart
        have hN2 : HasH (oH iE 3 (List.replicate na 0) o1) w := hN.part byPart
        have hN3 : HasH (oH uE 40 (List.replicate nb 0) o2) w := hN.part byPart
        have hN4 : HasH N w := hN.part byPart
        have hd := hd' w hw hN4
        refine ⟨hd.c, hN1.own okz rfl, ?_, fun u hu => ?_, fun u hu => ?_, hd.h⟩
        · show (d.T ++ [t]).map (·.x) = Q.ts ++ _
          rw [List.map_append, hw.x, ht']; rfl
        · rcases List.mem_append.1 hu with g | g
          · exact hw.r u g
          · rw [List.mem_singleton.1 g, ht']
            show SlW w iE (.slice (ovSV o1 (List.replicate na (0 : Int)).length).a _ _) _
            rw [show Value.slice (ovSV o1 (List.replicate na (0 : Int)).length).a (ovSV o1 (List.replicate na (0 : Int)).length).n (ovSV o1 (List.replicate na (0 : Int)).length).c = oV o1 (List.replicate na (0 : Int)).length from ovSV_v _ _]
            exact hN2.own ok1 (by simp)
        · rcases List.mem_append.1 hu with g | g
          · exact hw.u u g
          · rw [List.mem_singleton.1 g, ht']
            show SlW w uE (.slice (ovSV o2 (List.replicate nb (0 : Int)).length).a _ _) _
            rw [show Value.slice (ovSV o2 (List.replicate nb (0 : Int)).length).a (ovSV o2 (List.replicate nb (0 : Int)).length).n (ovSV o2 (List.replicate nb (0 : Int)).length).c = oV o2 (List.replicate nb (0 : Int)).length from ovSV_v _ _]
            exact hN3.own ok2 (by simp)⟩
end Go.Proofs.YthamkgghnjenhaaGreat
namespace Go.Proofs.YthamkgghnjenhaaGreat
open Go.RowKit
set_option linter.unusedVariables false
set_option linter.unusedSimpArgs false
set_option maxRecDepth 10000

theorem split_at {α : Type} {l : List α} {k : Nat} {t : α} (h : l[k]? = some t) : ∃ A B, l = A ++ t :: B ∧ A.length = k := by
  obtain ⟨hl, e⟩ := List.getElem?_eq_some_iff.1 h
  refine ⟨l.take k, l.drop (k + 1), ?_, by rw [List.length_take]; omega⟩
  rw [← e, ← List.drop_eq_getElem_cons hl, List.take_append_drop]
theorem otE_enc (t : OT) : otE.enc t = [oV t.o1 t.x.refs.length, oV t.o2 t.x.words.length, .int .i64 t.x.size, .int .i64 t.x.pins] := rfl
theorem cpH_at {A B : List OT} {t : OT} {ot oh : Own} {hs : List Int} {F : Heap} : cpH ⟨A ++ t :: B, ot, hs, oh⟩ ++ F = oH otE 63 (A ++ t :: B) ot ++ (otH A ++ (oH iE 3 t.x.refs t.o1 ++ (oH uE 40 t.x.words t.o2 ++ (otH B ++ (oH iE 70 hs oh ++ F))))) := by
  unfold cpH
  rw [otH_app]
  show _ ++ ((otH A ++ (o1H t ++ otH B)) ++ _) ++ F = _
  unfold o1H
  simp only [List.append_assoc]
theorem set_own {A B : List OT} {t t' : OT} {ot oh : Own} {hs : List Int} (ok : COk ⟨A ++ t :: B, ot, hs, oh⟩) (he : otE.enc t' = otE.enc t) (h1 : oOk iE t'.x.refs t'.o1) (h2 : oOk uE t'.x.words t'.o2) (e : TypeId) : COk ⟨A ++ t' :: B, ot, hs, oh⟩ ∧ oH otE e (A ++ t' :: B) ot = oH otE e (A ++ t :: B) ot := by
  have hf : flat otE (A ++ t' :: B) = flat otE (A ++ t :: B) := by
    rw [flat_append, flat_append]; congr 1
    show otE.enc t' ++ flat otE B = otE.enc t ++ flat otE B
    rw [he]
  have hl : (A ++ t' :: B).length = (A ++ t :: B).length := by simp
  refine ⟨⟨?_, ok.oh, fun p hp => ?_⟩, ?_⟩
  · have := ok.ot
    cases ot with
    | none => exact absurd this (by simp [oOk])
    | some ob => simp only [oOk] at this ⊢; rw [hl]; exact this
  · rcases List.mem_append.1 hp with h | h
    · exact ok.ts p (List.mem_append_left _ h)
    · rcases List.mem_cons.1 h with rfl | h
      · exact ⟨h1, h2⟩
      · exact ok.ts p (List.mem_append_right _ (.tail _ h))
  · cases ot with
    | none => rfl
    | some ob => simp only [oH]; rw [hf]
theorem set_mid {α : Type} {A B : List α} {t t' : α} {k : Nat} (hk : A.length = k) : (A ++ t :: B).set k t' = A ++ t' :: B := by
  subst hk; simp
theorem set_doc {A B : List OT} {t t' : OT} {Q : Dc} {id : Int} (h : (A ++ t :: B).map (·.x) = Q.ts) (hk : A.length = (id - 1).toNat) : setD Q id t'.x = { Q with ts := (A ++ t' :: B).map (·.x) } := by
  unfold setD
  rw [← h, List.map_append, List.map_cons, set_mid (by rw [List.length_map]; exact hk), List.map_append, List.map_cons]
theorem docV_set {A B : List OT} {t t' : OT} {ot oh : Own} {hs : List Int} {vc : Value} {Q : Dc} : docV (cpD vc ⟨A ++ t' :: B, ot, hs, oh⟩) Q = .agg [vc, .int .i64 Q.quota, .int .i64 Q.caps, oV ot (A ++ t :: B).length, oV oh hs.length].toArray := by
  show Value.agg [vc, .int .i64 Q.quota, .int .i64 Q.caps, oV ot (A ++ t' :: B).length, oV oh hs.length].toArray = _
  rw [show (A ++ t' :: B).length = (A ++ t :: B).length by simp]
/-- a store that was turned at one object -/
theorem gives_set {A B : List OT} {t t' : OT} {ot oh : Own} {hs : List Int} {d : DV} {Q : Dc} {id : Int} {N : Heap} {r : Sd} (ok : COk ⟨A ++ t' :: B, ot, hs, oh⟩) (h : (A ++ t :: B).map (·.x) = Q.ts) (hh : hs = Q.hs) (hk : A.length = (id - 1).toNat) (hc : d.vc.oneCell' = true) (hN : N = cpH ⟨A ++ t' :: B, ot, hs, oh⟩) :
    GivesD d Q (setD Q id t'.x) r (.tuple [.agg [d.vc, .int .i64 Q.quota, .int .i64 Q.caps, oV ot (A ++ t :: B).length, oV oh hs.length].toArray, .agg [.int .i64 r.e, .int .i64 r.h, .int .u64 r.w].toArray].toArray) N := by
  subst hN
  refine ⟨cpD d.vc ⟨A ++ t' :: B, ot, hs, oh⟩, ?_, ⟨hc, oV_one _ _, oV_one _ _⟩, fun w hw hN => ?_⟩
  · rw [show docV (cpD d.vc ⟨A ++ t' :: B, ot, hs, oh⟩) (setD Q id t'.x) = docV (cpD d.vc ⟨A ++ t' :: B, ot, hs, oh⟩) Q from rfl, docV_set (t := t)]; rfl
  · have := doc_own (q := Q.quota) (p := Q.caps) ok hw.c hN
    rw [set_doc h hk]
    subst hh
    exact this
set_option maxHeartbeats 4000000 in
theorem Rfields_K {w0 : World} {F : Heap} {d : DV} {Q : Dc} {A B : List OT} {t : OT} {ot oh : Own} {hs : List Int} {id : Int} {op : OpP} (hD : DocR w0 d Q) (hB : DcB Q) (ok : COk ⟨A ++ t :: B, ot, hs, oh⟩) (hts : (A ++ t :: B).map (·.x) = Q.ts) (hhs : hs = Q.hs) (hid : (A.length : Int) + 1 = id) (hop : op.code = 2 ∨ op.code = 3) :
    Call Tryz.prog w0 26 [docV d Q, docV (cpD d.vc ⟨A ++ t :: B, ot, hs, oh⟩) Q, .int .i64 id, opV op] (cpH ⟨A ++ t :: B, ot, hs, oh⟩ ++ F)
      (fun v H' => ∃ N, H' = N ++ F ∧ GivesD d Q (fieldsD Q id t.x op).1 (fieldsD Q id t.x op).2 v N) := by
  have hk : A.length = (id - 1).toNat := by omega
  have a1 := hD.c.one
  have a2 := hD.t.one
  have a3 := hD.h.one
  have hl2 := hB.ts
  have hgl : (A ++ t :: B).length ≤ 100 := by have := congrArg List.length hts; simp only [List.length_map] at this; omega
  have hget : (A ++ t :: B)[(id - 1).toNat]? = some t := by rw [← hk]; simp
  have hglt : (id - 1).toNat < (A ++ t :: B).length := lt_of_get hget
  have hAl : A.length < 100 := by simp at hgl; omega
  have hsz := (hB.x t.x (by rw [← hts]; simp)).sz
  obtain ⟨ok1, ok2⟩ := ok.ts t (by simp)
  have okt := ok.ot
  have hdv : docV d Q = .agg [d.vc, .int .i64 Q.quota, .int .i64 Q.caps, d.vt, d.vh].toArray := rfl
  have hdv2 : docV (cpD d.vc ⟨A ++ t :: B, ot, hs, oh⟩) Q = .agg [d.vc, .int .i64 Q.quota, .int .i64 Q.caps, oV ot (A ++ t :: B).length, oV oh hs.length].toArray := rfl
  have hopv : opV op = .agg [.int .u8 op.code, .int .i64 op.h, .int .i64 op.a, .int .i64 op.b, .int .u64 op.v, .int .i64 op.to].toArray := rfl
  rw [hdv, hdv2, hopv]
  refine Call.enter4 (n := 125) (by kernel_rfl) Tryz.func26 rfl rfl rfl ?_
  rw [cpH_at]
  refine K.seq ?_
  refine K.region ?_
  (refine KL.e rfl (Eff.box rfl rfl) ?_; rintro _ _ ⟨b4, rfl, rfl⟩)
  (refine KL.e rfl (Eff.box rfl rfl) ?_; rintro _ _ ⟨b5, rfl, rfl⟩)
  (refine KL.e rfl (Eff.box rfl rfl) ?_; rintro _ _ ⟨b7, rfl, rfl⟩)
  (refine KL.e rfl (Eff.alloc rfl) ?_; rintro _ _ ⟨b8, rfl, rfl⟩)
  (refine KL.e rfl (Eff.alloc rfl) ?_; rintro _ _ ⟨b9, rfl, rfl⟩)
  refine KL.nil ?_
  refine KE.next ?_
  refine byCode ?_
  (first | (refine KL.v rfl (Val.fieldSl (k := 3) rfl rfl) ?_) | (refine KL.v rfl (Val.fieldAddr0 (k := 3) rfl rfl) ?_) | (refine KL.v rfl (Val.fieldAddrZ rfl rfl) ?_) | (refine KL.v rfl (Val.fieldAddr (k := 3) rfl rfl) ?_))
  (refine KL.v rfl (Val.loadP rfl rfl bySee) ?_)
  (refine KL.v rfl (Val.move rfl) ?_)
  (first | (refine KL.v rfl (Val.sub rfl rfl (by simp only [Go.Proofs.YthamkgghnjenhaaGreat.lo, Go.Proofs.YthamkgghnjenhaaGreat.hi]; omega)) ?_) | (refine KL.v rfl (Val.subW rfl rfl) ?_))
  (first | (refine KL.v rfl (Val.idxSl rfl rfl rfl bySli rfl byLt) ?_) | (refine KL.v rfl (Val.idxSlZ rfl rfl rfl bySli rfl (by omega)) ?_) | (refine KL.v rfl (Val.indexS1 rfl rfl rfl rfl (by omega)) ?_) | (refine KL.v rfl (Val.indexS rfl rfl rfl rfl (by omega)) ?_) | (refine KL.v rfl (Val.indexSO rfl rfl rfl rfl (by omega)) ?_) | (refine KL.v rfl (Val.indexSG rfl rfl rfl rfl (by omega)) ?_))
  (first | (refine KL.v rfl (Val.loadAP rfl rfl rfl bySeeA) ?_) | (refine KL.v rfl (Val.loadA rfl rfl rfl bySeeN) ?_))
  (refine KL.e rfl (Eff.alloc rfl) ?_; rintro _ _ ⟨b10, rfl, rfl⟩)
  rw [otE_enc]
  (first | (refine KL.eN (Eff.storeAL rfl rfl rfl byTake byLay byOnes) ?_; rintro _ _ rfl) | (refine KL.eN (Eff.stSlA rfl rfl rfl rfl byTakeL (by assumption) (by assumption)) ?_; rintro _ _ rfl))
  refine KL.nil ?_
  refine KE.next ?_
  by_cases h1 : op.a < 0
  · have hp : fieldsD Q id t.x op = (Q, ⟨110, 0, 0⟩) := by unfold fieldsD; rw [if_neg (by simp [fieldP]; omega)]
    rw [hp]
    refine K.seq ?_
    refine K.seq ?_
    refine K.region ?_
    (refine KL.v rfl (Val.fieldAddr0 (k := 2) rfl rfl) ?_)
    (refine KL.v rfl (Val.loadP rfl rfl (Sees.cell byTake rfl)) ?_)
    (refine KL.v rfl (Val.isT (Val.lss rfl rfl) byLt) ?_)
    (refine KL.v rfl (Val.move rfl) ?_)
    refine KL.skipG rfl rfl rfl ?_
    refine KL.skipG rfl rfl rfl ?_
    refine KL.skipG rfl rfl rfl ?_
    refine KL.skipG rfl rfl rfl ?_
    refine KL.skipG rfl rfl rfl ?_
    refine KL.skipG rfl rfl rfl ?_
    refine KL.skipG rfl rfl rfl ?_
    refine KL.skipG rfl rfl rfl ?_
    refine KL.skipG rfl rfl rfl ?_
    refine KL.skipG rfl rfl rfl ?_
    (refine KL.v rfl (Val.pickT rfl rfl rfl) ?_)
    refine KL.nil ?_
    refine KE.next ?_
    refine K.condT rfl ?_
    refine K.seq ?_
    refine K.drawn _ [(0, 1), (1, 2), (2, 2), (3, 2)] (by kernel_rfl) (by kernel_rfl) (by kernel_rfl) (by kernel_rfl) (by kernel_rfl) (by kernel_rfl) (Part.take Take.head (Part.drop (Part.drop Part.all))) ?_
    refine KD.v1 rfl rfl (Val.loadA rfl rfl rfl bySeeN) ?_
    refine KD.callc rfl rfl rfl byEvL fun T hT => ?_
    (refine (CallV.fn said_K).mono ?_; rintro _ _ ⟨rfl, rfl⟩; unfold sdV; dsimp only)
    (refine hT _ _ byPart ?_; clear hT; clear T)
    (refine KD.eN rfl (Eff.storeAL rfl rfl rfl byTake byLay byOnes) ?_; rintro _ _ rfl; refine ⟨byPart, ?_⟩)
    (refine KD.eN rfl (Eff.storeAL rfl rfl rfl byTake byLay byOnes) ?_; rintro _ _ rfl; refine ⟨byPart, ?_⟩)
    refine KD.nil ?_
    refine KE.next ?_
    refine K.ret ?_
    refine KE.passR ?_
    exact KE.fin byMarks rfl byRes byPart ⟨[], rfl, d, rfl, hD.one, fun w h _ => h⟩
  by_cases h2 : op.a ≥ (t.x.refs.length : Nat) + (t.x.words.length : Nat)
  · have hp : fieldsD Q id t.x op = (Q, ⟨110, 0, 0⟩) := by unfold fieldsD; rw [if_neg (by simp [fieldP]; omega)]
    rw [hp]
    refine K.seq ?_
    refine K.seq ?_
    refine K.region ?_
    (refine KL.v rfl (Val.fieldAddr0 (k := 2) rfl rfl) ?_)
    (refine KL.v rfl (Val.loadP rfl rfl (Sees.cell byTake rfl)) ?_)
    (refine KL.v rfl (Val.isF (Val.lss rfl rfl) byLt) ?_)
    (refine KL.v rfl (Val.move rfl) ?_)
    (refine KL.yes rfl rfl ?_; refine KL.v rfl (Val.fieldAddr0 (k := 2) rfl rfl) ?_)
    (refine KL.yes rfl rfl ?_; refine KL.v rfl (Val.loadP rfl rfl (Sees.cell byTake rfl)) ?_)
    (refine KL.yes rfl rfl ?_; refine KL.v rfl (Val.fieldAddr0 (k := 0) rfl rfl) ?_)
    (refine KL.yes rfl rfl ?_; refine KL.v rfl (Val.loadP rfl rfl (Sees.cell byTake rfl)) ?_)
    (refine KL.yes rfl rfl ?_; refine KL.v rfl (Val.lenSl rfl rfl (Sli.own byTakeL (by assumption) byLen)) ?_)
    (refine KL.yes rfl rfl ?_; refine KL.v rfl (Val.fieldAddr0 (k := 1) rfl rfl) ?_)
    (refine KL.yes rfl rfl ?_; refine KL.v rfl (Val.loadP rfl rfl (Sees.cell byTake rfl)) ?_)
    (refine KL.yes rfl rfl ?_; refine KL.v rfl (Val.lenSl rfl rfl (Sli.own byTakeL (by assumption) byLen)) ?_)
    (refine KL.yes rfl rfl ?_; refine KL.v rfl (Val.add rfl rfl (by simp only [Go.Proofs.YthamkgghnjenhaaGreat.lo, Go.Proofs.YthamkgghnjenhaaGreat.hi]; omega)) ?_)
    (refine KL.yes rfl rfl ?_; refine KL.v rfl (Val.isT (Val.geq rfl rfl) byLt) ?_)
    (refine KL.v rfl (Val.pickF rfl rfl rfl) ?_)
    refine KL.nil ?_
    refine KE.next ?_
    refine K.condT rfl ?_
    refine K.seq ?_
    refine K.drawn _ [(0, 1), (1, 2), (2, 2), (3, 2)] (by kernel_rfl) (by kernel_rfl) (by kernel_rfl) (by kernel_rfl) (by kernel_rfl) (by kernel_rfl) (Part.take Take.head (Part.drop (Part.drop Part.all))) ?_
    refine KD.v1 rfl rfl (Val.loadA rfl rfl rfl bySeeN) ?_
    refine KD.callc rfl rfl rfl byEvL fun T hT => ?_
    (refine (CallV.fn said_K).mono ?_; rintro _ _ ⟨rfl, rfl⟩; unfold sdV; dsimp only)
    (refine hT _ _ byPart ?_; clear hT; clear T)
    (refine KD.eN rfl (Eff.storeAL rfl rfl rfl byTake byLay byOnes) ?_; rintro _ _ rfl; refine ⟨byPart, ?_⟩)
    (refine KD.eN rfl (Eff.storeAL rfl rfl rfl byTake byLay byOnes) ?_; rintro _ _ rfl; refine ⟨byPart, ?_⟩)
    refine KD.nil ?_
    refine KE.next ?_
    refine K.ret ?_
    refine KE.passR ?_
    exact KE.fin byMarks rfl byRes byPart ⟨[], rfl, d, rfl, hD.one, fun w h _ => h⟩
  have hf : fieldP t.x op.a = true := by simp [fieldP]; omega
  refine K.seq ?_
  refine K.seq ?_
  refine K.region ?_
  (refine KL.v rfl (Val.fieldAddr0 (k := 2) rfl rfl) ?_)
  (refine KL.v rfl (Val.loadP rfl rfl (Sees.cell byTake rfl)) ?_)
  (refine KL.v rfl (Val.isF (Val.lss rfl rfl) byLt) ?_)
  (refine KL.v rfl (Val.move rfl) ?_)
  (refine KL.yes rfl rfl ?_; refine KL.v rfl (Val.fieldAddr0 (k := 2) rfl rfl) ?_)
  (refine KL.yes rfl rfl ?_; refine KL.v rfl (Val.loadP rfl rfl (Sees.cell byTake rfl)) ?_)
  (refine KL.yes rfl rfl ?_; refine KL.v rfl (Val.fieldAddr0 (k := 0) rfl rfl) ?_)
  (refine KL.yes rfl rfl ?_; refine KL.v rfl (Val.loadP rfl rfl (Sees.cell byTake rfl)) ?_)
  (refine KL.yes rfl rfl ?_; refine KL.v rfl (Val.lenSl rfl rfl (Sli.own byTakeL (by assumption) byLen)) ?_)
  (refine KL.yes rfl rfl ?_; refine KL.v rfl (Val.fieldAddr0 (k := 1) rfl rfl) ?_)
  (refine KL.yes rfl rfl ?_; refine KL.v rfl (Val.loadP rfl rfl (Sees.cell byTake rfl)) ?_)
  (refine KL.yes rfl rfl ?_; refine KL.v rfl (Val.lenSl rfl rfl (Sli.own byTakeL (by assumption) byLen)) ?_)
  (refine KL.yes rfl rfl ?_; refine KL.v rfl (Val.add rfl rfl (by simp only [Go.Proofs.YthamkgghnjenhaaGreat.lo, Go.Proofs.YthamkgghnjenhaaGreat.hi]; omega)) ?_)
  (refine KL.yes rfl rfl ?_; refine KL.v rfl (Val.isF (Val.geq rfl rfl) byLt) ?_)
  (refine KL.v rfl (Val.pickF rfl rfl rfl) ?_)
  refine KL.nil ?_
  refine KE.next ?_
  refine K.condF rfl ?_
  refine K.skip ?_
  refine KE.next ?_
  by_cases hr : op.a < (t.x.refs.length : Nat)
  · obtain ⟨y, hy⟩ := get_of_lt (l := t.x.refs) (k := op.a.toNat) (by omega)
    have hyr : (t.x.refs[op.a.toNat]?).getD 0 = y := by rw [hy]; rfl
    rcases hop with h3 | h3
    · by_cases hy0 : y = 0
      · have hp : fieldsD Q id t.x op = (Q, ⟨0, 0, 0⟩) := by unfold fieldsD; rw [if_pos hf, if_pos h3, if_pos hr, if_pos (by rw [hyr]; exact hy0)]
        rw [hp]
        refine K.seq ?_
        refine K.region ?_
        (refine KL.v rfl (Val.fieldAddr0 (k := 2) rfl rfl) ?_)
        (refine KL.v rfl (Val.loadP rfl rfl (Sees.cell byTake rfl)) ?_)
        (refine KL.v rfl (Val.fieldAddr0 (k := 0) rfl rfl) ?_)
        (refine KL.v rfl (Val.loadP rfl rfl (Sees.cell byTake rfl)) ?_)
        (refine KL.v rfl (Val.lenSl rfl rfl (Sli.own byTakeL (by assumption) byLen)) ?_)
        (refine KL.v rfl (Val.isT (Val.lss rfl rfl) byLt) ?_)
        (refine KL.v rfl (Val.assign rfl) ?_)
        refine KL.nil ?_
        refine KE.next ?_
        refine K.seq ?_
        refine K.seq ?_
        refine K.region ?_
        (refine KL.v rfl (Val.fieldAddr0 (k := 0) rfl rfl) ?_)
        (refine KL.v rfl (Val.loadP rfl rfl (Sees.cell byTake rfl)) ?_)
        (refine KL.v rfl (Val.isT (Val.eql rfl rfl) byLt) ?_)
        (refine KL.v rfl (Val.move rfl) ?_)
        (refine KL.yes rfl rfl ?_; refine KL.v rfl (Val.move rfl) ?_)
        (refine KL.yes rfl rfl ?_; refine KL.v rfl (Val.notT rfl) ?_)
        (refine KL.v rfl (Val.pickT rfl rfl rfl) ?_)
        refine KL.nil ?_
        refine KE.next ?_
        refine K.condF rfl ?_
        refine K.skip ?_
        refine KE.next ?_
        refine K.seq ?_
        refine K.seq ?_
        refine K.region ?_
        (refine KL.v rfl (Val.fieldAddr0 (k := 0) rfl rfl) ?_)
        (refine KL.v rfl (Val.loadP rfl rfl (Sees.cell byTake rfl)) ?_)
        (refine KL.v rfl (Val.isT (Val.eql rfl rfl) byLt) ?_)
        (refine KL.v rfl (Val.move rfl) ?_)
        (refine KL.yes rfl rfl ?_; refine KL.v rfl (Val.fieldAddr0 (k := 0) rfl rfl) ?_)
        (refine KL.yes rfl rfl ?_; refine KL.v rfl (Val.loadP rfl rfl (Sees.cell byTake rfl)) ?_)
        (refine KL.yes rfl rfl ?_; refine KL.v rfl (Val.fieldAddr0 (k := 2) rfl rfl) ?_)
        (refine KL.yes rfl rfl ?_; refine KL.v rfl (Val.loadP rfl rfl (Sees.cell byTake rfl)) ?_)
        (refine KL.yes rfl rfl ?_; refine KL.v rfl (Val.idxSlZ rfl rfl rfl (Sli.own byTakeL (by assumption) byLen) rfl (by omega)) ?_)
        (refine KL.yes rfl rfl ?_; refine KL.v rfl (Val.loadP rfl rfl (Sees.sl0 (Sli.own byTakeL (by assumption) byLen) (by assumption) rfl)) ?_)
        (refine KL.yes rfl rfl ?_; refine KL.v rfl (Val.isT (Val.eql rfl rfl) byLt) ?_)
        (refine KL.v rfl (Val.pickT rfl rfl rfl) ?_)
        refine KL.nil ?_
        refine KE.next ?_
        refine K.condT rfl ?_
        refine K.seq ?_
        refine K.drawn _ [(0, 1), (1, 2), (2, 2), (3, 2)] (by kernel_rfl) (by kernel_rfl) (by kernel_rfl) (by kernel_rfl) (by kernel_rfl) (by kernel_rfl) (Part.take Take.head (Part.drop (Part.drop Part.all))) ?_
        refine KD.v1 rfl rfl (Val.loadA rfl rfl rfl bySeeN) ?_
        refine KD.callc rfl rfl rfl byEvL fun T hT => ?_
        (refine (CallV.fn said_K).mono ?_; rintro _ _ ⟨rfl, rfl⟩; unfold sdV; dsimp only)
        (refine hT _ _ byPart ?_; clear hT; clear T)
        (refine KD.eN rfl (Eff.storeAL rfl rfl rfl byTake byLay byOnes) ?_; rintro _ _ rfl; refine ⟨byPart, ?_⟩)
        (refine KD.eN rfl (Eff.storeAL rfl rfl rfl byTake byLay byOnes) ?_; rintro _ _ rfl; refine ⟨byPart, ?_⟩)
        refine KD.nil ?_
        refine KE.next ?_
        refine K.ret ?_
        refine KE.passR ?_
        exact KE.fin byMarks rfl byRes byPart ⟨[], rfl, d, rfl, hD.one, fun w h _ => h⟩
      · have hp : fieldsD Q id t.x op = mintD Q y := by unfold fieldsD; rw [if_pos hf, if_pos h3, if_pos hr, if_neg (by rw [hyr]; exact hy0), hyr]
        rw [hp]
        refine K.seq ?_
        refine K.region ?_
        (refine KL.v rfl (Val.fieldAddr0 (k := 2) rfl rfl) ?_)
        (refine KL.v rfl (Val.loadP rfl rfl (Sees.cell byTake rfl)) ?_)
        (refine KL.v rfl (Val.fieldAddr0 (k := 0) rfl rfl) ?_)
        (refine KL.v rfl (Val.loadP rfl rfl (Sees.cell byTake rfl)) ?_)
        (refine KL.v rfl (Val.lenSl rfl rfl (Sli.own byTakeL (by assumption) byLen)) ?_)
        (refine KL.v rfl (Val.isT (Val.lss rfl rfl) byLt) ?_)
        (refine KL.v rfl (Val.assign rfl) ?_)
        refine KL.nil ?_
        refine KE.next ?_
        refine K.seq ?_
        refine K.seq ?_
        refine K.region ?_
        (refine KL.v rfl (Val.fieldAddr0 (k := 0) rfl rfl) ?_)
        (refine KL.v rfl (Val.loadP rfl rfl (Sees.cell byTake rfl)) ?_)
        (refine KL.v rfl (Val.isT (Val.eql rfl rfl) byLt) ?_)
        (refine KL.v rfl (Val.move rfl) ?_)
        (refine KL.yes rfl rfl ?_; refine KL.v rfl (Val.move rfl) ?_)
        (refine KL.yes rfl rfl ?_; refine KL.v rfl (Val.notT rfl) ?_)
        (refine KL.v rfl (Val.pickT rfl rfl rfl) ?_)
        refine KL.nil ?_
        refine KE.next ?_
        refine K.condF rfl ?_
        refine K.skip ?_
        refine KE.next ?_
        refine K.seq ?_
        refine K.seq ?_
        refine K.region ?_
        (refine KL.v rfl (Val.fieldAddr0 (k := 0) rfl rfl) ?_)
        (refine KL.v rfl (Val.loadP rfl rfl (Sees.cell byTake rfl)) ?_)
        (refine KL.v rfl (Val.isT (Val.eql rfl rfl) byLt) ?_)
        (refine KL.v rfl (Val.move rfl) ?_)
        (refine KL.yes rfl rfl ?_; refine KL.v rfl (Val.fieldAddr0 (k := 0) rfl rfl) ?_)
        (refine KL.yes rfl rfl ?_; refine KL.v rfl (Val.loadP rfl rfl (Sees.cell byTake rfl)) ?_)
        (refine KL.yes rfl rfl ?_; refine KL.v rfl (Val.fieldAddr0 (k := 2) rfl rfl) ?_)
        (refine KL.yes rfl rfl ?_; refine KL.v rfl (Val.loadP rfl rfl (Sees.cell byTake rfl)) ?_)
        (refine KL.yes rfl rfl ?_; refine KL.v rfl (Val.idxSlZ rfl rfl rfl (Sli.own byTakeL (by assumption) byLen) rfl (by omega)) ?_)
        (refine KL.yes rfl rfl ?_; refine KL.v rfl (Val.loadP rfl rfl (Sees.sl0 (Sli.own byTakeL (by assumption) byLen) (by assumption) rfl)) ?_)
        (refine KL.yes rfl rfl ?_; refine KL.v rfl (Val.isF (Val.eql rfl rfl) byLt) ?_)
        (refine KL.v rfl (Val.pickT rfl rfl rfl) ?_)
        refine KL.nil ?_
        refine KE.next ?_
        refine K.condF rfl ?_
        refine K.skip ?_
        refine KE.next ?_
        refine K.seq ?_
        refine K.seq ?_
        refine K.region ?_
        (refine KL.v rfl (Val.fieldAddr0 (k := 0) rfl rfl) ?_)
        (refine KL.v rfl (Val.loadP rfl rfl (Sees.cell byTake rfl)) ?_)
        (refine KL.v rfl (Val.isT (Val.eql rfl rfl) byLt) ?_)
        refine KL.nil ?_
        refine KE.next ?_
        refine K.condT rfl ?_
        refine K.seq ?_
        refine K.drawn [] [(0, 0), (1, 0), (2, 0), (3, 0), (4, 0), (5, 0), (6, 0), (7, 2), (8, 0), (9, 0), (10, 2), (11, 2)] (by kernel_rfl) (by kernel_rfl) (by kernel_rfl) (by kernel_rfl) (by kernel_rfl) (by kernel_rfl) Part.nil ?_
        refine KD.v0 rfl rfl (Val.loadA rfl rfl rfl bySeeN) ?_
        refine KD.v0 rfl rfl (Val.fieldAddr0 (k := 0) rfl rfl) ?_
        refine KD.v0 rfl rfl (Val.loadP rfl rfl (Sees.cell byTake rfl)) ?_
        refine KD.v0 rfl rfl (Val.fieldAddr0 (k := 2) rfl rfl) ?_
        refine KD.v0 rfl rfl (Val.loadP rfl rfl (Sees.cell byTake rfl)) ?_
        refine KD.v0 rfl rfl (Val.idxSlZ rfl rfl rfl (Sli.own byTakeL (by assumption) byLen) rfl (by omega)) ?_
        refine KD.v0 rfl rfl (Val.loadP rfl rfl (Sees.sl0 (Sli.own byTakeL (by assumption) byLen) (by assumption) rfl)) ?_
        refine KD.callc rfl rfl rfl byEvL fun T hT => ?_
        refine (CallV.pure fun w hw => CallV.fn (Rmint_K (id := y) (hD.only hw.old) hB)).mono ?_
        rintro _ _ ⟨N, ⟨d', rfl, ⟨b1', b2', b3'⟩, hd'⟩, rfl⟩
        unfold docV sdV
        refine hT _ _ byPart ?_; clear hT; clear T
        refine KD.v0 rfl rfl (Val.extract rfl rfl) ?_
        refine KD.v0 rfl rfl (Val.extract rfl rfl) ?_
        (refine KD.eN rfl (Eff.storeAL rfl rfl rfl byTake byLay byOnes) ?_; rintro _ _ rfl; refine ⟨byPart, ?_⟩)
        (refine KD.eN rfl (Eff.storeAL rfl rfl rfl byTake byLay byOnes) ?_; rintro _ _ rfl; refine ⟨byPart, ?_⟩)
        refine KD.nil ?_
        refine KE.next ?_
        refine K.ret ?_
        refine KE.passR ?_
        exact KE.fin byMarks rfl byRes byPart ⟨N, rfl, d', rfl, ⟨b1', b2', b3'⟩, hd'⟩
    · have h3' : ¬ op.code = 2 := by omega
      by_cases hto : op.to ≠ 0
      · refine K.seq ?_
        refine K.region ?_
        (refine KL.v rfl (Val.fieldAddr0 (k := 2) rfl rfl) ?_)
        (refine KL.v rfl (Val.loadP rfl rfl (Sees.cell byTake rfl)) ?_)
        (refine KL.v rfl (Val.fieldAddr0 (k := 0) rfl rfl) ?_)
        (refine KL.v rfl (Val.loadP rfl rfl (Sees.cell byTake rfl)) ?_)
        (refine KL.v rfl (Val.lenSl rfl rfl (Sli.own byTakeL (by assumption) byLen)) ?_)
        (refine KL.v rfl (Val.isT (Val.lss rfl rfl) byLt) ?_)
        (refine KL.v rfl (Val.assign rfl) ?_)
        refine KL.nil ?_
        refine KE.next ?_
        refine K.seq ?_
        refine K.seq ?_
        refine K.region ?_
        (refine KL.v rfl (Val.fieldAddr0 (k := 0) rfl rfl) ?_)
        (refine KL.v rfl (Val.loadP rfl rfl (Sees.cell byTake rfl)) ?_)
        (refine KL.v rfl (Val.isF (Val.eql rfl rfl) byLt) ?_)
        (refine KL.v rfl (Val.move rfl) ?_)
        refine KL.skipG rfl rfl rfl ?_
        refine KL.skipG rfl rfl rfl ?_
        (refine KL.v rfl (Val.pickF rfl rfl rfl) ?_)
        refine KL.nil ?_
        refine KE.next ?_
        refine K.condF rfl ?_
        refine K.skip ?_
        refine KE.next ?_
        refine K.seq ?_
        refine K.seq ?_
        refine K.region ?_
        (refine KL.v rfl (Val.fieldAddr0 (k := 0) rfl rfl) ?_)
        (refine KL.v rfl (Val.loadP rfl rfl (Sees.cell byTake rfl)) ?_)
        (refine KL.v rfl (Val.isF (Val.eql rfl rfl) byLt) ?_)
        (refine KL.v rfl (Val.move rfl) ?_)
        refine KL.skipG rfl rfl rfl ?_
        refine KL.skipG rfl rfl rfl ?_
        refine KL.skipG rfl rfl rfl ?_
        refine KL.skipG rfl rfl rfl ?_
        refine KL.skipG rfl rfl rfl ?_
        refine KL.skipG rfl rfl rfl ?_
        refine KL.skipG rfl rfl rfl ?_
        (refine KL.v rfl (Val.pickF rfl rfl rfl) ?_)
        refine KL.nil ?_
        refine KE.next ?_
        refine K.condF rfl ?_
        refine K.skip ?_
        refine KE.next ?_
        refine K.seq ?_
        refine K.seq ?_
        refine K.region ?_
        (refine KL.v rfl (Val.fieldAddr0 (k := 0) rfl rfl) ?_)
        (refine KL.v rfl (Val.loadP rfl rfl (Sees.cell byTake rfl)) ?_)
        (refine KL.v rfl (Val.isF (Val.eql rfl rfl) byLt) ?_)
        refine KL.nil ?_
        refine KE.next ?_
        refine K.condF rfl ?_
        refine K.skip ?_
        refine KE.next ?_
        refine K.seq ?_
        refine K.seq ?_
        refine K.region ?_
        (refine KL.v rfl (Val.move rfl) ?_)
        (refine KL.v rfl (Val.notT rfl) ?_)
        refine KL.nil ?_
        refine KE.next ?_
        refine K.condF rfl ?_
        refine K.skip ?_
        refine KE.next ?_
        refine K.seq ?_
        refine K.seq ?_
        refine K.region ?_
        (refine KL.v rfl (Val.fieldAddr0 (k := 5) rfl rfl) ?_)
        (refine KL.v rfl (Val.loadP rfl rfl (Sees.cell byTake rfl)) ?_)
        (refine KL.v rfl (Val.isT (Val.neq rfl rfl) byLt) ?_)
        (refine KL.v rfl (Val.move rfl) ?_)
        (refine KL.yes rfl rfl ?_; refine KL.v rfl (Val.loadA rfl rfl rfl bySeeN) ?_)
        (refine KL.yes rfl rfl ?_; refine KL.v rfl (Val.fieldAddr0 (k := 5) rfl rfl) ?_)
        (refine KL.yes rfl rfl ?_; refine KL.v rfl (Val.loadP rfl rfl (Sees.cell byTake rfl)) ?_)
        (refine KL.yes rfl rfl ?_; refine KL.callc rfl rfl byEvL fun T hT => ?_)
        refine (CallV.fn (RNames_K (h := op.to) hD hB)).mono ?_
        rintro _ _ ⟨rfl, rfl⟩
        refine hT _ _ ?_; clear hT; clear T
        obtain ⟨z, hz⟩ : ∃ z, z = namesD Q op.to := ⟨_, rfl⟩
        rw [← hz]
        by_cases hz0 : z = 0
        · have hp : fieldsD Q id t.x op = (Q, ⟨130, 0, 0⟩) := by unfold fieldsD; rw [if_pos hf, if_neg h3', if_pos hr, if_pos ⟨hto, by rw [← hz]; exact hz0⟩]
          rw [hp]
          (refine KL.yes rfl rfl ?_; refine KL.v rfl (Val.isT (Val.eql rfl rfl) byLt) ?_)
          (refine KL.v rfl (Val.pickT rfl rfl rfl) ?_)
          refine KL.nil ?_
          refine KE.next ?_
          refine K.condT rfl ?_
          refine K.seq ?_
          refine K.drawn _ [(0, 1), (1, 2), (2, 2), (3, 2)] (by kernel_rfl) (by kernel_rfl) (by kernel_rfl) (by kernel_rfl) (by kernel_rfl) (by kernel_rfl) (Part.take Take.head (Part.drop (Part.drop Part.all))) ?_
          refine KD.v1 rfl rfl (Val.loadA rfl rfl rfl bySeeN) ?_
          refine KD.callc rfl rfl rfl byEvL fun T hT => ?_
          (refine (CallV.fn said_K).mono ?_; rintro _ _ ⟨rfl, rfl⟩; unfold sdV; dsimp only)
          (refine hT _ _ byPart ?_; clear hT; clear T)
          (refine KD.eN rfl (Eff.storeAL rfl rfl rfl byTake byLay byOnes) ?_; rintro _ _ rfl; refine ⟨byPart, ?_⟩)
          (refine KD.eN rfl (Eff.storeAL rfl rfl rfl byTake byLay byOnes) ?_; rintro _ _ rfl; refine ⟨byPart, ?_⟩)
          refine KD.nil ?_
          refine KE.next ?_
          refine K.ret ?_
          refine KE.passR ?_
          exact KE.fin byMarks rfl byRes byPart ⟨[], rfl, d, rfl, hD.one, fun w h _ => h⟩
        · obtain ⟨t', ht'⟩ : ∃ t' : OT, t' = ⟨⟨t.x.refs.set op.a.toNat z, t.x.words, t.x.size, t.x.pins⟩, t.o1, t.o2⟩ := ⟨_, rfl⟩
          have hp : fieldsD Q id t.x op = (setD Q id t'.x, ⟨0, 0, 0⟩) := by unfold fieldsD; rw [if_pos hf, if_neg h3', if_pos hr, if_neg (by rw [← hz]; exact fun h => hz0 h.2), ← hz, ht']
          have hso := set_own (t' := t') ok (by rw [ht']; show [oV t.o1 (t.x.refs.set _ _).length, _, _, _] = [_, _, _, _]; rw [List.length_set]) (by rw [ht']; exact ok1.set _ _) (by rw [ht']; exact ok2) 63
          rw [hp]
          (refine KL.yes rfl rfl ?_; refine KL.v rfl (Val.isF (Val.eql rfl rfl) byLt) ?_)
          (refine KL.v rfl (Val.pickT rfl rfl rfl) ?_)
          refine KL.nil ?_
          refine KE.next ?_
          refine K.condF rfl ?_
          refine K.skip ?_
          refine KE.next ?_
          refine byCodeD ?_
          (first | refine K.seq (K.drawn _ [(0, 1), (1, 1), (2, 1), (3, 1), (4, 0), (5, 0), (6, 0), (7, 2), (8, 0), (9, 4)] (by kernel_rfl) (by kernel_rfl) (by kernel_rfl) (by kernel_rfl) (by kernel_rfl) (by kernel_rfl) Part.all ?_) | refine K.seq (K.seq (K.drawn _ [(0, 1), (1, 1), (2, 1), (3, 1), (4, 0), (5, 0), (6, 0), (7, 2), (8, 0), (9, 4)] (by kernel_rfl) (by kernel_rfl) (by kernel_rfl) (by kernel_rfl) (by kernel_rfl) (by kernel_rfl) Part.all ?_)) | refine K.drawn _ [(0, 1), (1, 1), (2, 1), (3, 1), (4, 0), (5, 0), (6, 0), (7, 2), (8, 0), (9, 4)] (by kernel_rfl) (by kernel_rfl) (by kernel_rfl) (by kernel_rfl) (by kernel_rfl) (by kernel_rfl) Part.all ?_)
          (first | refine KD.v1 rfl rfl (Val.fieldSl (k := 0) rfl rfl) ?_ | refine KD.v1 rfl rfl (Val.fieldAddr0 (k := 0) rfl rfl) ?_ | refine KD.v1 rfl rfl (Val.fieldAddrZ rfl rfl) ?_ | refine KD.v1 rfl rfl (Val.fieldAddr (k := 0) rfl rfl) ?_)
          refine KD.v1 rfl rfl (Val.loadP rfl rfl bySee) ?_
          (first | refine KD.v1 rfl rfl (Val.fieldSl (k := 2) rfl rfl) ?_ | refine KD.v1 rfl rfl (Val.fieldAddr0 (k := 2) rfl rfl) ?_ | refine KD.v1 rfl rfl (Val.fieldAddrZ rfl rfl) ?_ | refine KD.v1 rfl rfl (Val.fieldAddr (k := 2) rfl rfl) ?_)
          refine KD.v1 rfl rfl (Val.loadP rfl rfl bySee) ?_
          (first | refine KD.v0 rfl rfl (Val.loadAP rfl rfl rfl bySeeA) ?_ | refine KD.v0 rfl rfl (Val.loadA rfl rfl rfl bySeeN) ?_)
          (first | refine KD.v0 rfl rfl (Val.fieldSl (k := 5) rfl rfl) ?_ | refine KD.v0 rfl rfl (Val.fieldAddr0 (k := 5) rfl rfl) ?_ | refine KD.v0 rfl rfl (Val.fieldAddrZ rfl rfl) ?_ | refine KD.v0 rfl rfl (Val.fieldAddr (k := 5) rfl rfl) ?_)
          refine KD.v0 rfl rfl (Val.loadP rfl rfl bySee) ?_
          refine KD.callc rfl rfl rfl byEvL fun T hT => ?_
          refine (CallV.fn (RNames_K (h := op.to) hD hB)).mono ?_
          rintro _ _ ⟨rfl, rfl⟩
          rw [← hz]
          refine hT _ _ byPart ?_; clear hT; clear T
          (first | refine KD.v0 rfl rfl (Val.idxSl rfl rfl rfl bySli rfl byLt) ?_ | refine KD.v0 rfl rfl (Val.idxSlZ rfl rfl rfl bySli rfl (by omega)) ?_ | refine KD.v0 rfl rfl (Val.indexS1 rfl rfl rfl rfl (by omega)) ?_ | refine KD.v0 rfl rfl (Val.indexS rfl rfl rfl rfl (by omega)) ?_ | refine KD.v0 rfl rfl (Val.indexSO rfl rfl rfl rfl (by omega)) ?_ | refine KD.v0 rfl rfl (Val.indexSG rfl rfl rfl rfl (by omega)) ?_)
          (first | (refine KD.eNX rfl (Eff.storeL rfl rfl byOne rfl byTake bySetAt) ?_; rintro _ _ rfl) | (refine KD.eNX rfl (Eff.stSl rfl rfl rfl rfl byTakeL (by assumption) (by assumption) rfl rfl) ?_; rintro _ _ rfl) | (refine KD.eNX rfl (Eff.stSl0 rfl rfl rfl rfl byTakeL (by assumption) (by assumption) rfl rfl) ?_; rintro _ _ rfl))
          refine KD.nil ?_
          refine KE.next ?_
          refine K.seq ?_
          refine K.drawn _ [(0, 1), (1, 2), (2, 2), (3, 2)] (by kernel_rfl) (by kernel_rfl) (by kernel_rfl) (by kernel_rfl) (by kernel_rfl) (by kernel_rfl) (Part.takeA TakeL.head (Part.take Take.head (Part.drop (Part.drop Part.all)))) ?_
          refine KD.v1 rfl rfl (Val.loadA rfl rfl rfl bySeeN) ?_
          refine KD.callc rfl rfl rfl byEvL fun T hT => ?_
          (refine (CallV.fn said_K).mono ?_; rintro _ _ ⟨rfl, rfl⟩; unfold sdV; dsimp only)
          (refine hT _ _ byPart ?_; clear hT; clear T)
          (refine KD.eN rfl (Eff.storeAL rfl rfl rfl byTake byLay byOnes) ?_; rintro _ _ rfl; refine ⟨byPart, ?_⟩)
          (refine KD.eN rfl (Eff.storeAL rfl rfl rfl byTake byLay byOnes) ?_; rintro _ _ rfl; refine ⟨byPart, ?_⟩)
          refine KD.nil ?_
          refine KE.next ?_
          refine K.ret ?_
          exact KE.fin (H' := cpH ⟨A ++ t' :: B, ot, hs, oh⟩ ++ F) byMarks rfl byRes (by rw [cpH_at, hso.2, ht']; exact byPart) ⟨_, rfl, gives_set hso.1 hts hhs hk a1 rfl⟩
      · have hto0 : op.to = 0 := by omega
        have hz : namesD Q op.to = 0 := by unfold namesD; rw [if_pos (by omega)]
        obtain ⟨t', ht'⟩ : ∃ t' : OT, t' = ⟨⟨t.x.refs.set op.a.toNat 0, t.x.words, t.x.size, t.x.pins⟩, t.o1, t.o2⟩ := ⟨_, rfl⟩
        have hp : fieldsD Q id t.x op = (setD Q id t'.x, ⟨0, 0, 0⟩) := by unfold fieldsD; rw [if_pos hf, if_neg h3', if_pos hr, if_neg (fun h => hto h.1), hz, ht']
        have hso := set_own (t' := t') ok (by rw [ht']; show [oV t.o1 (t.x.refs.set _ _).length, _, _, _] = [_, _, _, _]; rw [List.length_set]) (by rw [ht']; exact ok1.set _ _) (by rw [ht']; exact ok2) 63
        rw [hp]
        refine K.seq ?_
        refine K.region ?_
        (refine KL.v rfl (Val.fieldAddr0 (k := 2) rfl rfl) ?_)
        (refine KL.v rfl (Val.loadP rfl rfl (Sees.cell byTake rfl)) ?_)
        (refine KL.v rfl (Val.fieldAddr0 (k := 0) rfl rfl) ?_)
        (refine KL.v rfl (Val.loadP rfl rfl (Sees.cell byTake rfl)) ?_)
        (refine KL.v rfl (Val.lenSl rfl rfl (Sli.own byTakeL (by assumption) byLen)) ?_)
        (refine KL.v rfl (Val.isT (Val.lss rfl rfl) byLt) ?_)
        (refine KL.v rfl (Val.assign rfl) ?_)
        refine KL.nil ?_
        refine KE.next ?_
        refine K.seq ?_
        refine K.seq ?_
        refine K.region ?_
        (refine KL.v rfl (Val.fieldAddr0 (k := 0) rfl rfl) ?_)
        (refine KL.v rfl (Val.loadP rfl rfl (Sees.cell byTake rfl)) ?_)
        (refine KL.v rfl (Val.isF (Val.eql rfl rfl) byLt) ?_)
        (refine KL.v rfl (Val.move rfl) ?_)
        refine KL.skipG rfl rfl rfl ?_
        refine KL.skipG rfl rfl rfl ?_
        (refine KL.v rfl (Val.pickF rfl rfl rfl) ?_)
        refine KL.nil ?_
        refine KE.next ?_
        refine K.condF rfl ?_
        refine K.skip ?_
        refine KE.next ?_
        refine K.seq ?_
        refine K.seq ?_
        refine K.region ?_
        (refine KL.v rfl (Val.fieldAddr0 (k := 0) rfl rfl) ?_)
        (refine KL.v rfl (Val.loadP rfl rfl (Sees.cell byTake rfl)) ?_)
        (refine KL.v rfl (Val.isF (Val.eql rfl rfl) byLt) ?_)
        (refine KL.v rfl (Val.move rfl) ?_)
        refine KL.skipG rfl rfl rfl ?_
        refine KL.skipG rfl rfl rfl ?_
        refine KL.skipG rfl rfl rfl ?_
        refine KL.skipG rfl rfl rfl ?_
        refine KL.skipG rfl rfl rfl ?_
        refine KL.skipG rfl rfl rfl ?_
        refine KL.skipG rfl rfl rfl ?_
        (refine KL.v rfl (Val.pickF rfl rfl rfl) ?_)
        refine KL.nil ?_
        refine KE.next ?_
        refine K.condF rfl ?_
        refine K.skip ?_
        refine KE.next ?_
        refine K.seq ?_
        refine K.seq ?_
        refine K.region ?_
        (refine KL.v rfl (Val.fieldAddr0 (k := 0) rfl rfl) ?_)
        (refine KL.v rfl (Val.loadP rfl rfl (Sees.cell byTake rfl)) ?_)
        (refine KL.v rfl (Val.isF (Val.eql rfl rfl) byLt) ?_)
        refine KL.nil ?_
        refine KE.next ?_
        refine K.condF rfl ?_
        refine K.skip ?_
        refine KE.next ?_
        refine K.seq ?_
        refine K.seq ?_
        refine K.region ?_
        (refine KL.v rfl (Val.move rfl) ?_)
        (refine KL.v rfl (Val.notT rfl) ?_)
        refine KL.nil ?_
        refine KE.next ?_
        refine K.condF rfl ?_
        refine K.skip ?_
        refine KE.next ?_
        refine K.seq ?_
        refine K.seq ?_
        refine K.region ?_
        (refine KL.v rfl (Val.fieldAddr0 (k := 5) rfl rfl) ?_)
        (refine KL.v rfl (Val.loadP rfl rfl (Sees.cell byTake rfl)) ?_)
        (refine KL.v rfl (Val.isF (Val.neq rfl rfl) byLt) ?_)
        (refine KL.v rfl (Val.move rfl) ?_)
        refine KL.skipG rfl rfl rfl ?_
        refine KL.skipG rfl rfl rfl ?_
        refine KL.skipG rfl rfl rfl ?_
        refine KL.skipG rfl rfl rfl ?_
        refine KL.skipG rfl rfl rfl ?_
        (refine KL.v rfl (Val.pickF rfl rfl rfl) ?_)
        refine KL.nil ?_
        refine KE.next ?_
        refine K.condF rfl ?_
        refine K.skip ?_
        refine KE.next ?_
        refine byCodeD ?_
        (first | refine K.seq (K.drawn _ [(0, 1), (1, 1), (2, 1), (3, 1), (4, 0), (5, 0), (6, 0), (7, 2), (8, 0), (9, 4)] (by kernel_rfl) (by kernel_rfl) (by kernel_rfl) (by kernel_rfl) (by kernel_rfl) (by kernel_rfl) Part.all ?_) | refine K.seq (K.seq (K.drawn _ [(0, 1), (1, 1), (2, 1), (3, 1), (4, 0), (5, 0), (6, 0), (7, 2), (8, 0), (9, 4)] (by kernel_rfl) (by kernel_rfl) (by kernel_rfl) (by kernel_rfl) (by kernel_rfl) (by kernel_rfl) Part.all ?_)) | refine K.drawn _ [(0, 1), (1, 1), (2, 1), (3, 1), (4, 0), (5, 0), (6, 0), (7, 2), (8, 0), (9, 4)] (by kernel_rfl) (by kernel_rfl) (by kernel_rfl) (by kernel_rfl) (by kernel_rfl) (by kernel_rfl) Part.all ?_)
        (first | refine KD.v1 rfl rfl (Val.fieldSl (k := 0) rfl rfl) ?_ | refine KD.v1 rfl rfl (Val.fieldAddr0 (k := 0) rfl rfl) ?_ | refine KD.v1 rfl rfl (Val.fieldAddrZ rfl rfl) ?_ | refine KD.v1 rfl rfl (Val.fieldAddr (k := 0) rfl rfl) ?_)
        refine KD.v1 rfl rfl (Val.loadP rfl rfl bySee) ?_
        (first | refine KD.v1 rfl rfl (Val.fieldSl (k := 2) rfl rfl) ?_ | refine KD.v1 rfl rfl (Val.fieldAddr0 (k := 2) rfl rfl) ?_ | refine KD.v1 rfl rfl (Val.fieldAddrZ rfl rfl) ?_ | refine KD.v1 rfl rfl (Val.fieldAddr (k := 2) rfl rfl) ?_)
        refine KD.v1 rfl rfl (Val.loadP rfl rfl bySee) ?_
        (first | refine KD.v0 rfl rfl (Val.loadAP rfl rfl rfl bySeeA) ?_ | refine KD.v0 rfl rfl (Val.loadA rfl rfl rfl bySeeN) ?_)
        (first | refine KD.v0 rfl rfl (Val.fieldSl (k := 5) rfl rfl) ?_ | refine KD.v0 rfl rfl (Val.fieldAddr0 (k := 5) rfl rfl) ?_ | refine KD.v0 rfl rfl (Val.fieldAddrZ rfl rfl) ?_ | refine KD.v0 rfl rfl (Val.fieldAddr (k := 5) rfl rfl) ?_)
        refine KD.v0 rfl rfl (Val.loadP rfl rfl bySee) ?_
        refine KD.callc rfl rfl rfl byEvL fun T hT => ?_
        refine (CallV.fn (RNames_K (h := op.to) hD hB)).mono ?_
        rintro _ _ ⟨rfl, rfl⟩
        rw [hz]
        refine hT _ _ byPart ?_; clear hT; clear T
        (first | refine KD.v0 rfl rfl (Val.idxSl rfl rfl rfl bySli rfl byLt) ?_ | refine KD.v0 rfl rfl (Val.idxSlZ rfl rfl rfl bySli rfl (by omega)) ?_ | refine KD.v0 rfl rfl (Val.indexS1 rfl rfl rfl rfl (by omega)) ?_ | refine KD.v0 rfl rfl (Val.indexS rfl rfl rfl rfl (by omega)) ?_ | refine KD.v0 rfl rfl (Val.indexSO rfl rfl rfl rfl (by omega)) ?_ | refine KD.v0 rfl rfl (Val.indexSG rfl rfl rfl rfl (by omega)) ?_)
        (first | (refine KD.eNX rfl (Eff.storeL rfl rfl byOne rfl byTake bySetAt) ?_; rintro _ _ rfl) | (refine KD.eNX rfl (Eff.stSl rfl rfl rfl rfl byTakeL (by assumption) (by assumption) rfl rfl) ?_; rintro _ _ rfl) | (refine KD.eNX rfl (Eff.stSl0 rfl rfl rfl rfl byTakeL (by assumption) (by assumption) rfl rfl) ?_; rintro _ _ rfl))
        refine KD.nil ?_
        refine KE.next ?_
        refine K.seq ?_
        refine K.drawn _ [(0, 1), (1, 2), (2, 2), (3, 2)] (by kernel_rfl) (by kernel_rfl) (by kernel_rfl) (by kernel_rfl) (by kernel_rfl) (by kernel_rfl) (Part.takeA TakeL.head (Part.take Take.head (Part.drop (Part.drop Part.all)))) ?_
        refine KD.v1 rfl rfl (Val.loadA rfl rfl rfl bySeeN) ?_
        refine KD.callc rfl rfl rfl byEvL fun T hT => ?_
        (refine (CallV.fn said_K).mono ?_; rintro _ _ ⟨rfl, rfl⟩; unfold sdV; dsimp only)
        (refine hT _ _ byPart ?_; clear hT; clear T)
        (refine KD.eN rfl (Eff.storeAL rfl rfl rfl byTake byLay byOnes) ?_; rintro _ _ rfl; refine ⟨byPart, ?_⟩)
        (refine KD.eN rfl (Eff.storeAL rfl rfl rfl byTake byLay byOnes) ?_; rintro _ _ rfl; refine ⟨byPart, ?_⟩)
        refine KD.nil ?_
        refine KE.next ?_
        refine K.ret ?_
        exact KE.fin (H' := cpH ⟨A ++ t' :: B, ot, hs, oh⟩ ++ F) byMarks rfl byRes (by rw [cpH_at, hso.2, ht']; exact byPart) ⟨_, rfl, gives_set hso.1 hts hhs hk a1 rfl⟩
  · obtain ⟨y, hy⟩ := get_of_lt (l := t.x.words) (k := (op.a - (t.x.refs.length : Nat)).toNat) (by omega)
    have hidx : op.a.toNat - t.x.refs.length = (op.a - (t.x.refs.length : Nat)).toNat := by omega
    rcases hop with h3 | h3
    · have hp : fieldsD Q id t.x op = (Q, ⟨0, 0, y⟩) := by unfold fieldsD; rw [if_pos hf, if_pos h3, if_neg hr, hidx, hy]; rfl
      rw [hp]
      refine K.seq ?_
      refine K.region ?_
      (refine KL.v rfl (Val.fieldAddr0 (k := 2) rfl rfl) ?_)
      (refine KL.v rfl (Val.loadP rfl rfl (Sees.cell byTake rfl)) ?_)
      (refine KL.v rfl (Val.fieldAddr0 (k := 0) rfl rfl) ?_)
      (refine KL.v rfl (Val.loadP rfl rfl (Sees.cell byTake rfl)) ?_)
      (refine KL.v rfl (Val.lenSl rfl rfl (Sli.own byTakeL (by assumption) byLen)) ?_)
      (refine KL.v rfl (Val.isF (Val.lss rfl rfl) byLt) ?_)
      (refine KL.v rfl (Val.assign rfl) ?_)
      refine KL.nil ?_
      refine KE.next ?_
      refine K.seq ?_
      refine K.seq ?_
      refine K.region ?_
      (refine KL.v rfl (Val.fieldAddr0 (k := 0) rfl rfl) ?_)
      (refine KL.v rfl (Val.loadP rfl rfl (Sees.cell byTake rfl)) ?_)
      (refine KL.v rfl (Val.isT (Val.eql rfl rfl) byLt) ?_)
      (refine KL.v rfl (Val.move rfl) ?_)
      (refine KL.yes rfl rfl ?_; refine KL.v rfl (Val.move rfl) ?_)
      (refine KL.yes rfl rfl ?_; refine KL.v rfl (Val.notF rfl) ?_)
      (refine KL.v rfl (Val.pickT rfl rfl rfl) ?_)
      refine KL.nil ?_
      refine KE.next ?_
      refine K.condT rfl ?_
      refine K.seq ?_
      refine K.drawn _ [(0, 0), (1, 1), (2, 1), (3, 1), (4, 1), (5, 1), (6, 1), (7, 1), (8, 1), (9, 1), (10, 1), (11, 1), (12, 2), (13, 2)] (by kernel_rfl) (by kernel_rfl) (by kernel_rfl) (by kernel_rfl) (by kernel_rfl) (by kernel_rfl) (Part.take Take.head (Part.drop (Part.drop Part.all))) ?_
      refine KD.v0 rfl rfl (Val.loadA rfl rfl rfl bySeeN) ?_
      refine KD.v1 rfl rfl (Val.fieldAddr0 (k := 1) rfl rfl) ?_
      refine KD.v1 rfl rfl (Val.loadP rfl rfl (Sees.cell byTake rfl)) ?_
      refine KD.v1 rfl rfl (Val.fieldAddr0 (k := 2) rfl rfl) ?_
      refine KD.v1 rfl rfl (Val.loadP rfl rfl (Sees.cell byTake rfl)) ?_
      refine KD.v1 rfl rfl (Val.fieldAddr0 (k := 0) rfl rfl) ?_
      refine KD.v1 rfl rfl (Val.loadP rfl rfl (Sees.cell byTake rfl)) ?_
      refine KD.v1 rfl rfl (Val.lenSl rfl rfl (Sli.own byTakeL (by assumption) byLen)) ?_
      refine KD.v1 rfl rfl (Val.sub rfl rfl (by simp only [Go.Proofs.YthamkgghnjenhaaGreat.lo, Go.Proofs.YthamkgghnjenhaaGreat.hi]; omega)) ?_
      refine KD.v1 rfl rfl (Val.idxSlZ rfl rfl rfl (Sli.own byTakeL (by assumption) byLen) rfl (by omega)) ?_
      refine KD.v1 rfl rfl (Val.loadP rfl rfl (Sees.sl0 (Sli.own byTakeL (by assumption) byLen) (by assumption) rfl)) ?_
      refine KD.v1 rfl rfl (Val.build byParts rfl rfl byFill) ?_
      (refine KD.eN rfl (Eff.storeAL rfl rfl rfl byTake byLay byOnes) ?_; rintro _ _ rfl; refine ⟨byPart, ?_⟩)
      (refine KD.eN rfl (Eff.storeAL rfl rfl rfl byTake byLay byOnes) ?_; rintro _ _ rfl; refine ⟨byPart, ?_⟩)
      refine KD.nil ?_
      refine KE.next ?_
      refine K.ret ?_
      refine KE.passR ?_
      exact KE.fin byMarks rfl byRes byPart ⟨[], rfl, d, rfl, hD.one, fun w h _ => h⟩
    · have h3' : ¬ op.code = 2 := by omega
      obtain ⟨t', ht'⟩ : ∃ t' : OT, t' = ⟨⟨t.x.refs, t.x.words.set (op.a - (t.x.refs.length : Nat)).toNat op.v, t.x.size, t.x.pins⟩, t.o1, t.o2⟩ := ⟨_, rfl⟩
      have hp : fieldsD Q id t.x op = (setD Q id t'.x, ⟨0, 0, 0⟩) := by unfold fieldsD; rw [if_pos hf, if_neg h3', if_neg hr, hidx, ht']
      have hso := set_own (t' := t') ok (by rw [ht']; show [_, oV t.o2 (t.x.words.set _ _).length, _, _] = [_, _, _, _]; rw [List.length_set]) (by rw [ht']; exact ok1) (by rw [ht']; exact ok2.set _ _) 63
      rw [hp]
      refine K.seq ?_
      refine K.region ?_
      (refine KL.v rfl (Val.fieldAddr0 (k := 2) rfl rfl) ?_)
      (refine KL.v rfl (Val.loadP rfl rfl (Sees.cell byTake rfl)) ?_)
      (refine KL.v rfl (Val.fieldAddr0 (k := 0) rfl rfl) ?_)
      (refine KL.v rfl (Val.loadP rfl rfl (Sees.cell byTake rfl)) ?_)
      (refine KL.v rfl (Val.lenSl rfl rfl (Sli.own byTakeL (by assumption) byLen)) ?_)
      (refine KL.v rfl (Val.isF (Val.lss rfl rfl) byLt) ?_)
      (refine KL.v rfl (Val.assign rfl) ?_)
      refine KL.nil ?_
      refine KE.next ?_
      refine K.seq ?_
      refine K.seq ?_
      refine K.region ?_
      (refine KL.v rfl (Val.fieldAddr0 (k := 0) rfl rfl) ?_)
      (refine KL.v rfl (Val.loadP rfl rfl (Sees.cell byTake rfl)) ?_)
      (refine KL.v rfl (Val.isF (Val.eql rfl rfl) byLt) ?_)
      (refine KL.v rfl (Val.move rfl) ?_)
      refine KL.skipG rfl rfl rfl ?_
      refine KL.skipG rfl rfl rfl ?_
      (refine KL.v rfl (Val.pickF rfl rfl rfl) ?_)
      refine KL.nil ?_
      refine KE.next ?_
      refine K.condF rfl ?_
      refine K.skip ?_
      refine KE.next ?_
      refine K.seq ?_
      refine K.seq ?_
      refine K.region ?_
      (refine KL.v rfl (Val.fieldAddr0 (k := 0) rfl rfl) ?_)
      (refine KL.v rfl (Val.loadP rfl rfl (Sees.cell byTake rfl)) ?_)
      (refine KL.v rfl (Val.isF (Val.eql rfl rfl) byLt) ?_)
      (refine KL.v rfl (Val.move rfl) ?_)
      refine KL.skipG rfl rfl rfl ?_
      refine KL.skipG rfl rfl rfl ?_
      refine KL.skipG rfl rfl rfl ?_
      refine KL.skipG rfl rfl rfl ?_
      refine KL.skipG rfl rfl rfl ?_
      refine KL.skipG rfl rfl rfl ?_
      refine KL.skipG rfl rfl rfl ?_
      (refine KL.v rfl (Val.pickF rfl rfl rfl) ?_)
      refine KL.nil ?_
      refine KE.next ?_
      refine K.condF rfl ?_
      refine K.skip ?_
      refine KE.next ?_
      refine K.seq ?_
      refine K.seq ?_
      refine K.region ?_
      (refine KL.v rfl (Val.fieldAddr0 (k := 0) rfl rfl) ?_)
      (refine KL.v rfl (Val.loadP rfl rfl (Sees.cell byTake rfl)) ?_)
      (refine KL.v rfl (Val.isF (Val.eql rfl rfl) byLt) ?_)
      refine KL.nil ?_
      refine KE.next ?_
      refine K.condF rfl ?_
      refine K.skip ?_
      refine KE.next ?_
      refine K.seq ?_
      refine K.seq ?_
      refine K.region ?_
      (refine KL.v rfl (Val.move rfl) ?_)
      (refine KL.v rfl (Val.notF rfl) ?_)
      refine KL.nil ?_
      refine KE.next ?_
      refine K.condT rfl ?_
      refine K.seq ?_
      refine K.region ?_
      (refine KL.v rfl (Val.fieldAddr0 (k := 1) rfl rfl) ?_)
      (refine KL.v rfl (Val.loadP rfl rfl (Sees.cell byTake rfl)) ?_)
      (refine KL.v rfl (Val.fieldAddr0 (k := 2) rfl rfl) ?_)
      (refine KL.v rfl (Val.loadP rfl rfl (Sees.cell byTake rfl)) ?_)
      (refine KL.v rfl (Val.fieldAddr0 (k := 0) rfl rfl) ?_)
      (refine KL.v rfl (Val.loadP rfl rfl (Sees.cell byTake rfl)) ?_)
      (refine KL.v rfl (Val.lenSl rfl rfl (Sli.own byTakeL (by assumption) byLen)) ?_)
      (refine KL.v rfl (Val.sub rfl rfl (by simp only [Go.Proofs.YthamkgghnjenhaaGreat.lo, Go.Proofs.YthamkgghnjenhaaGreat.hi]; omega)) ?_)
      (refine KL.v rfl (Val.fieldAddr0 (k := 4) rfl rfl) ?_)
      (refine KL.v rfl (Val.loadP rfl rfl (Sees.cell byTake rfl)) ?_)
      (refine KL.v rfl (Val.idxSlZ rfl rfl rfl (Sli.own byTakeL (by assumption) byLen) rfl (by omega)) ?_)
      (refine KL.eN (Eff.stSl0 rfl rfl rfl rfl byTakeL (by assumption) (by assumption) rfl rfl) ?_; rintro _ _ rfl)
      refine KL.nil ?_
      refine KE.next ?_
      refine K.seq ?_
      refine K.drawn _ [(0, 1), (1, 2), (2, 2), (3, 2)] (by kernel_rfl) (by kernel_rfl) (by kernel_rfl) (by kernel_rfl) (by kernel_rfl) (by kernel_rfl) (Part.takeA TakeL.head (Part.take Take.head (Part.drop (Part.drop Part.all)))) ?_
      refine KD.v1 rfl rfl (Val.loadA rfl rfl rfl bySeeN) ?_
      refine KD.callc rfl rfl rfl byEvL fun T hT => ?_
      (refine (CallV.fn said_K).mono ?_; rintro _ _ ⟨rfl, rfl⟩; unfold sdV; dsimp only)
      (refine hT _ _ byPart ?_; clear hT; clear T)
      (refine KD.eN rfl (Eff.storeAL rfl rfl rfl byTake byLay byOnes) ?_; rintro _ _ rfl; refine ⟨byPart, ?_⟩)
      (refine KD.eN rfl (Eff.storeAL rfl rfl rfl byTake byLay byOnes) ?_; rintro _ _ rfl; refine ⟨byPart, ?_⟩)
      refine KD.nil ?_
      refine KE.next ?_
      refine K.ret ?_
      refine KE.passR ?_
      exact KE.fin (H' := cpH ⟨A ++ t' :: B, ot, hs, oh⟩ ++ F) byMarks rfl byRes (by rw [cpH_at, hso.2, ht']; exact byPart) ⟨_, rfl, gives_set hso.1 hts hhs hk a1 rfl⟩
end Go.Proofs.YthamkgghnjenhaaGreat
