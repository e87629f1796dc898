/- Trace: what came in, as lists. -/
import Derived.Test.YtdkanfjpdnjhcaaTrA
import Derived.Test.YtdkanfjpdnjhcaaKIn
import Derived.Lib.SmallJoins
import Derived.ChangeMaps5
namespace Go.Proofs.Ytdkanfjpdnjhcaa
open Go.RowKit Go.ChangeShapes Go.WideShapes Go.ChangeAt Go.Deep Go.Joins
set_option linter.unusedVariables false

theorem slice_tr {P : Program} {α : Type} {E : Enc α} {H : Type} {enc : TypeId × Value → H} {W : World} {t e : TypeId} (ht : P.underlying t = some (.slice e)) (hk : P.cellsOf e = E.sz) (hk0 : 0 < E.sz) {fuel : Nat} {cs : List Value} {x : DataW H × List MemPlace}
    (hf : DataW.trod enc P W 0 (fun _ => true) true fuel t cs = some x) (Ok : α → Prop)
    (hR : ∀ fuel cs x, DataW.trod enc P W 0 (fun _ => true) true fuel e cs = some x → cs.length = E.sz → ∃ y, cs = E.enc y ∧ Ok y) :
    ∃ a n c ys, cs = [.slice a n c] ∧ SlW W E (.slice a n c) ys ∧ ∀ y ∈ ys, Ok y := by
  rcases open_slice ht hf with ⟨hcs, _⟩ | ⟨a', len', cap', m, n, D, Pl, hcs, _, hl, hm, hmm, _, hx⟩
  · exact ⟨none, 0, 0, [], hcs, SlW.nil W E, fun y hy => by cases hy⟩
  · simp only [if_true] at hmm
    subst hmm
    have key : ∀ i, i < len' → ∃ y, Ok y ∧ ∀ j, j < E.sz → W.cell? (a'.add (i * E.sz + j)) = (E.enc y)[j]? := by
      intro i hi
      obtain ⟨cs', h1, h2⟩ := hx i (by omega)
      rw [hk] at h1
      obtain ⟨_, hlen, hat⟩ := World.cells?_some h1
      obtain ⟨y, rfl, hy⟩ := hR _ _ _ h2 hlen
      exact ⟨y, hy, fun j hj => by rw [← add_add]; exact hat j hj⟩
    obtain ⟨ys, hys, hall⟩ := exists_list len' (fun i y => Ok y ∧ ∀ j, j < E.sz → W.cell? (a'.add (i * E.sz + j)) = (E.enc y)[j]?) key
    subst hys
    have hspot : 0 < ys.length → ∃ b off, a' = ⟨b, off, none⟩ := by
      intro hpos
      obtain ⟨b, off, spot⟩ := a'
      obtain ⟨y0, _, hc0⟩ := key 0 hpos
      have h1 := hc0 0 hk0
      rw [List.getElem?_eq_getElem (by rw [E.len]; exact hk0)] at h1
      have hsp : spot = none := by simpa [Addr.add] using World.cell?_spot h1
      subst hsp
      exact ⟨b, off, rfl⟩
    refine ⟨some a', ys.length, _, ys, hcs, ⟨⟨some a', _, rfl, hl, hm, fun hne => ?_⟩, ?_⟩, ?_⟩
    · obtain ⟨b, off, rfl⟩ := hspot (List.length_pos_iff.2 hne)
      exact ⟨b, off, rfl⟩
    · intro i y hy j u hu
      have hi := (List.getElem?_eq_some_iff.1 hy).1
      obtain ⟨b, off, rfl⟩ := hspot (by omega)
      have hj : j < E.sz := by have := (List.getElem?_eq_some_iff.1 hu).1; rwa [E.len] at this
      have := (hall i y hy).2 j hj
      rw [add_mk, hu] at this
      simpa [adr] using this
    · intro y hy
      obtain ⟨i, hi⟩ := List.getElem?_of_mem hy
      exact (hall i y hi).1

section
variable {H : Type} {enc : TypeId × Value → H} {W : World}
theorem seen_in {fuel : Nat} {cs : List Value} {x : DataW H × List MemPlace} (hx : DataW.trod enc Try.prog W 0 (fun _ => true) true fuel 46 cs = some x) (hlen : cs.length = 8) : ∃ y : Seen, cs = sE.enc y ∧ y.ok := by
  obtain ⟨c0, c1, c2, c3, c4, c5, c6, c7, rfl⟩ : ∃ c0 c1 c2 c3 c4 c5 c6 c7, cs = [c0, c1, c2, c3, c4, c5, c6, c7] := by
    match cs, hlen with
    | [c0, c1, c2, c3, c4, c5, c6, c7], _ => exact ⟨c0, c1, c2, c3, c4, c5, c6, c7, rfl⟩
  obtain ⟨xs, n, _, rfl, hl, hxl, hf⟩ := DataW.trod_struct Try.underlying46 hx
  have ke : (Try.prog).cellsOf 25 = 1 := by kernel_rfl
  have ku : (Try.prog).cellsOf 44 = 1 := by kernel_rfl
  have ki : (Try.prog).cellsOf 3 = 1 := by kernel_rfl
  have kb : (Try.prog).cellsOf 4 = 1 := by kernel_rfl
  match xs, hxl with
  | [y0, y1, y2, y3, y4, y5, y6, y7], _ =>
    have h0 := hf 0 _ rfl
    have h1 := hf 1 _ rfl
    have h2 := hf 2 _ rfl
    have h3 := hf 3 _ rfl
    have h4 := hf 4 _ rfl
    have h5 := hf 5 _ rfl
    have h6 := hf 6 _ rfl
    have h7 := hf 7 _ rfl
    obtain ⟨a0, e0, -, w0⟩ := DataW.trod_int Try.underlying25 (by simpa [ke] using h0)
    obtain ⟨a1, e1, -, w1⟩ := DataW.trod_int Try.underlying44 (by simpa [ku] using h1)
    obtain ⟨a2, e2, -, w2⟩ := DataW.trod_int Try.underlying44 (by simpa [ku] using h2)
    obtain ⟨a3, e3, -, w3⟩ := DataW.trod_int Try.underlying3 (by simpa [ki] using h3)
    obtain ⟨a4, e4, -, w4⟩ := DataW.trod_int Try.underlying3 (by simpa [ki] using h4)
    obtain ⟨a5, e5, -, w5⟩ := DataW.trod_int Try.underlying3 (by simpa [ki] using h5)
    obtain ⟨a6, e6, -, w6⟩ := DataW.trod_int Try.underlying3 (by simpa [ki] using h6)
    obtain ⟨a7, e7, -⟩ := DataW.trod_bool Try.underlying4 (by simpa [kb] using h7)
    simp at e0 e1 e2 e3 e4 e5 e6 e7
    subst e0 e1 e2 e3 e4 e5 e6 e7
    have i64 : ∀ z, (Lit.int .i64 z).wf = true → i64ok z := fun z h => by simpa [Lit.wf, IntKind.min, IntKind.max, IntKind.signed, IntKind.bits, i64ok] using h
    have u64 : ∀ z, (Lit.int .u64 z).wf = true → u64ok z := fun z h => by simpa [Lit.wf, IntKind.min, IntKind.max, IntKind.signed, IntKind.bits, u64ok] using h
    exact ⟨⟨a0, a1, a2, a3, a4, a5, a6, a7⟩, rfl, i64 _ w0, u64 _ w1, u64 _ w2, i64 _ w3, i64 _ w4, i64 _ w5, i64 _ w6⟩

theorem wat_in {fuel : Nat} {cs : List Value} {x : DataW H × List MemPlace} (hx : DataW.trod enc Try.prog W 0 (fun _ => true) true fuel 48 cs = some x) (hlen : cs.length = 9) : ∃ y : Wat, cs = wE.enc y ∧ y.s.ok ∧ i64ok y.t := by
  obtain ⟨c0, cr, rfl⟩ : ∃ c0 cr, cs = c0 :: cr := by
    match cs, hlen with
    | c0 :: cr, _ => exact ⟨c0, cr, rfl⟩
  have hcr : cr.length = 8 := by simpa using hlen
  obtain ⟨y0, y1, n, _, _, h0, h1⟩ := trod_struct2 Try.underlying48 hx
  have ki : (Try.prog).cellsOf 3 = 1 := by kernel_rfl
  have ks : (Try.prog).cellsOf 46 = 8 := by kernel_rfl
  obtain ⟨a0, e0, -, w0⟩ := DataW.trod_int Try.underlying3 (by simpa [ki] using h0)
  simp at e0
  subst e0
  have h1' : DataW.trod enc Try.prog W 0 (fun _ => true) true n 46 cr = some y1 := by
    have : ((Value.int .i64 a0 :: cr).drop 1).take 8 = cr := by rw [List.drop_one, List.tail_cons]; exact List.take_of_length_le (by omega)
    rw [ks] at h1
    rw [← this]
    exact h1
  obtain ⟨s, rfl, hs⟩ := seen_in h1' hcr
  exact ⟨⟨a0, s⟩, rfl, hs, by simpa [Lit.wf, IntKind.min, IntKind.max, IntKind.signed, IntKind.bits, i64ok] using w0⟩

theorem seens_sl {base : Nat} {v : Value} {d : DataW H} {p : List MemPlace} (ho : Value.okWide Try.prog W .any base 22 v) (h : DataW.Trod enc Try.prog W 0 (fun _ => true) true 22 v d p) :
    ∃ l : List Seen, SlW W sE v l ∧ ∀ x ∈ l, x.ok := slice_sl (P := Try.prog) (E := sE) Try.underlying22 (by kernel_rfl) (by decide) ho h Seen.ok (fun fuel cs x hx hl => seen_in hx hl)
theorem wats_sl {base : Nat} {v : Value} {d : DataW H} {p : List MemPlace} (ho : Value.okWide Try.prog W .any base 32 v) (h : DataW.Trod enc Try.prog W 0 (fun _ => true) true 32 v d p) :
    ∃ l : List Wat, SlW W wE v l ∧ ∀ x ∈ l, x.s.ok ∧ i64ok x.t := slice_sl (P := Try.prog) (E := wE) Try.underlying32 (by kernel_rfl) (by decide) ho h (fun x => x.s.ok ∧ i64ok x.t) (fun fuel cs x hx hl => wat_in hx hl)
theorem ints_sl {base : Nat} {v : Value} {d : DataW H} {p : List MemPlace} (ho : Value.okWide Try.prog W .any base 33 v) (h : DataW.Trod enc Try.prog W 0 (fun _ => true) true 33 v d p) :
    ∃ l : List Int, SlW W iE v l ∧ ∀ x ∈ l, i64ok x := slice_sl (P := Try.prog) (E := iE) Try.underlying33 (by kernel_rfl) (by decide) ho h i64ok (fun fuel cs x hx hl => by
      obtain ⟨a0, e0, -, w0⟩ := DataW.trod_int Try.underlying3 hx
      exact ⟨a0, e0, by simpa [Lit.wf, IntKind.min, IntKind.max, IntKind.signed, IntKind.bits, i64ok] using w0⟩)
theorem parts_sl {base : Nat} {v : Value} {d : DataW H} {p : List MemPlace} (ho : Value.okWide Try.prog W .any base 40 v) (h : DataW.Trod enc Try.prog W 0 (fun _ => true) true 40 v d p) :
    ∃ (ps : List SV) (rows : List (List Seen)), SlW W svE v ps ∧ RowsOf W ps rows ∧ ∀ r ∈ rows, ∀ x ∈ r, x.ok := by
  obtain ⟨ps, hS, hok⟩ := slice_sl (P := Try.prog) (E := svE) Try.underlying40 (by kernel_rfl) (by decide) ho h (fun q => ∃ r : List Seen, SlW W sE (.slice q.a q.n q.c) r ∧ ∀ x ∈ r, x.ok) (fun fuel cs x hx hl => by
    obtain ⟨a, n, c, ys, rfl, hs, hy⟩ := slice_tr (P := Try.prog) (E := sE) Try.underlying22 (by kernel_rfl) (by decide) hx Seen.ok (fun fuel cs x hx hl => seen_in hx hl)
    exact ⟨⟨a, n, c⟩, rfl, ys, hs, hy⟩)
  obtain ⟨rows, hrl, hrows⟩ := exists_list ps.length (fun i (r : List Seen) => ∀ q, ps[i]? = some q → SlW W sE (.slice q.a q.n q.c) r ∧ ∀ x ∈ r, x.ok) (fun i hi => by
    obtain ⟨q, hq⟩ := get_of_lt hi
    obtain ⟨r, hr⟩ := hok q (List.mem_of_getElem? hq)
    exact ⟨r, fun q' hq' => by rw [hq] at hq'; cases hq'; exact hr⟩)
  refine ⟨ps, rows, hS, ⟨hrl.symm, fun i q r hq hr => (hrows i r hr q hq).1⟩, fun r hr x hx => ?_⟩
  obtain ⟨i, hi⟩ := List.getElem?_of_mem hr
  obtain ⟨q, hq⟩ := get_of_lt (l := ps) (k := i) (by have := lt_of_get hi; omega)
  exact (hrows i r hi q hq).2 x hx
end
end Go.Proofs.Ytdkanfjpdnjhcaa
