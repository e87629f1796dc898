/- The walker: slices that came in, as lists. -/
import Derived.Test.YtfgmofaadcbokaaK6
namespace Go.Proofs.Ytfgmofaadcbokaa
open Go.RowKit Go.ChangeShapes Go.WideShapes Go.ChangeAt Go.Deep
variable {P : Program}

theorem slice_sl {α : Type} {E : Enc α} {H : Type} {enc : TypeId × Value → H} {W : World} {base : Nat} {t e : TypeId} (ht : P.underlying t = some (.slice e)) (hk : P.cellsOf e = E.sz) (hk0 : 0 < E.sz) {v : Value} {d : DataW H} {p : List MemPlace}
    (ho : Value.okWide P W .any base t v) (h : DataW.Trod enc P W 0 (fun _ => true) true t v d p) (Ok : α → Prop)
    (hR : ∀ fuel cs x, DataW.trod enc P W 0 (fun _ => true) true fuel e cs = some x → cs.length = E.sz → ∃ y, cs = E.enc y ∧ Ok y) :
    ∃ ys : List α, SlW W E v ys ∧ ∀ y ∈ ys, Ok y := by
  obtain ⟨a, len, cap, rfl⟩ := okWide_slice ht ho
  obtain ⟨fuel, hf⟩ := h
  rcases open_slice ht hf with ⟨hcs, _⟩ | ⟨a', len', cap', m, n, D, Pl, hcs, _, hl, hm, hmm, _, hx⟩
  · simp [Value.cells] at hcs
    obtain ⟨rfl, rfl, rfl⟩ := hcs
    exact ⟨[], SlW.nil W E, fun y hy => by cases hy⟩
  · simp [Value.cells] at hcs
    obtain ⟨rfl, rfl, rfl⟩ := hcs
    simp only [if_true] at hmm
    subst hmm
    have key : ∀ i, i < len → ∃ y, Ok y ∧ ∀ j, j < E.sz → W.cell? (a'.add (i * E.sz + j)) = (E.enc y)[j]? := by
      intro i hi
      obtain ⟨cs', h1, h2⟩ := hx i (by omega)
      rw [hk] at h1
      obtain ⟨_, hlen, hat⟩ := World.cells?_some h1
      obtain ⟨y, rfl, hy⟩ := hR _ _ _ h2 hlen
      exact ⟨y, hy, fun j hj => by rw [← add_add]; exact hat j hj⟩
    obtain ⟨ys, hys, hall⟩ := exists_list len (fun i y => Ok y ∧ ∀ j, j < E.sz → W.cell? (a'.add (i * E.sz + j)) = (E.enc y)[j]?) key
    subst hys
    have hspot : 0 < ys.length → ∃ b off, a' = ⟨b, off, none⟩ := by
      intro hpos
      obtain ⟨b, off, spot⟩ := a'
      obtain ⟨y0, _, hc0⟩ := key 0 hpos
      have h1 := hc0 0 hk0
      rw [List.getElem?_eq_getElem (by rw [E.len]; exact hk0)] at h1
      have hsp : spot = none := by simpa [Addr.add] using World.cell?_spot h1
      subst hsp
      exact ⟨b, off, rfl⟩
    refine ⟨ys, ⟨⟨some a', m, rfl, hl, hm, fun hne => ?_⟩, ?_⟩, ?_⟩
    · obtain ⟨b, off, rfl⟩ := hspot (List.length_pos_iff.2 hne)
      exact ⟨b, off, rfl⟩
    · intro i y hy j u hu
      have hi := (List.getElem?_eq_some_iff.1 hy).1
      obtain ⟨b, off, rfl⟩ := hspot (by omega)
      have hj : j < E.sz := by have := (List.getElem?_eq_some_iff.1 hu).1; rwa [E.len] at this
      have := (hall i y hy).2 j hj
      rw [add_mk, hu] at this
      simpa [adr] using this
    · intro y hy
      obtain ⟨i, hi⟩ := List.getElem?_of_mem hy
      exact (hall i y hi).1

theorem Call.calls {w0 : World} {f : FuncId} {args : List Value} {r : Value} (h : Call P w0 f args [] (fun v H' => v = r ∧ H' = [])) : Calls P f args.toArray w0 (fun e w' => e = .returned r ∧ Only [] w0 w') :=
  (h.out w0 (HF.self w0)).mono fun e w' ⟨v, H', he, hh, h1, h2⟩ => by subst h1; exact ⟨he, hh.old⟩
end Go.Proofs.Ytfgmofaadcbokaa
