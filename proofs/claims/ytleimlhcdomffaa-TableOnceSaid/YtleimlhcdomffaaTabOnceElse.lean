/- TableOnce: a handle is dropped, or all that is dropped is recycled, or nothing. -/
import Derived.Test.YtleimlhcdomffaaTabOnceD
namespace Go.Proofs.Ytleimlhcdomffaa
open Go.RowKit Go.Shelf
set_option linter.unusedVariables false

set_option maxRecDepth 100000 in
set_option maxHeartbeats 4000000 in
theorem once_else {Q : Exit → Act → World → Prop} {w : World} {b e c : Nat} {gens : Int} {es : List Ent} {hs : List Hnd} {a9 a10 a11 a12 : Option Addr} {n c9 c10 c11 c12 i k : Nat} {lv : Value} {y : Int} {W : World}
    (HM : Hid (OnceMem w b e c gens es hs (.slice a9 n c9) (.slice a10 n c10) (.slice a11 n c11) (.slice a12 n c12) W ∧ OnceInv es hs ∧ hs.length = n ∧ n ≤ i))
    (hi : i < 150) (hy : y = 2 ∨ y = 3 ∨ y = 4) (hk : 0 < n → k < n) (hg1 : 1 ≤ gens) (hg2 : gens ≤ 8)
    (hN : ∀ s W', OGood w b e c gens s (i + 1) W' → JE 264 .normal Q (oM i b lv s) W') :
    J Try.prog 264 onceElse Q [(75, .int .u8 y), (15, .int .i64 k), (13, .int .i64 i), (9, .slice a9 n c9), (10, .slice a10 n c10), (11, .slice a11 n c11), (12, .slice a12 n c12), (7, .pointer (some ⟨b, 0, none⟩)), (2, lv)] W := by
  have hn : n ≤ 150 := by have := HM.out.2.2.2; omega
  have same : Hid (OGood w b e c gens ⟨i, n, a9, a10, a11, a12, c9, c10, c11, c12, es, hs⟩ (i + 1) W) := Lib.hid (Lib.hid ⟨HM.out.1, HM.out.2.1, HM.out.2.2.1, by have := HM.out.2.2.2; simp only; omega⟩)
  rcases hy with rfl | rfl | rfl
  · (repeat (first | refine JL.move rfl rfl ?_ | refine JL.append rfl rfl rfl (by assumption) ?_ | refine JL.assign rfl rfl ?_ | refine JL.guardNo rfl rfl rfl ?_ | refine JL.guardU rfl rfl rfl ?_ | (refine JL.pickT rfl rfl rfl rfl ?_) | (refine JL.pickF rfl rfl rfl rfl ?_) | (refine JL.put rfl rfl fun K hK => ?_; go_simp; (try go_bits); refine hK _ _ ?_; clear hK; clear K) | (refine JL.no rfl fun K hK => ?_; go_simp; (try go_bits); refine hK _ _ ?_; clear hK; clear K) | (refine JL.guardYes rfl rfl rfl rfl fun K hK => ?_; go_simp; (try go_bits); refine hK _ _ ?_; clear hK; clear K) | refine JL.nil ?_ | refine JE.next ?_ | refine JE.passX ?_ | refine JE.passR ?_ | refine JE.blkN ?_ | refine JE.blkR ?_ | refine JE.blkX ?_ | refine JE.blkO rfl ?_ | refine J.seq (J.region ?_) | refine J.region ?_ | refine J.skip ?_ | refine J.exit ?_ | refine J.ret ?_ | refine J.condT rfl ?_ | refine J.condF rfl ?_ | refine J.seq (J.condT rfl ?_) | refine J.seq (J.condF rfl ?_) | refine J.seq (J.seq (J.region ?_))))
    exact JE.sub (oM i b lv ⟨i, n, a9, a10, a11, a12, c9, c10, c11, c12, es, hs⟩) ⟨rfl, rfl, rfl, rfl, rfl, rfl, rfl, trivial⟩ (hN _ _ same.out)
  · by_cases hn0 : 0 < n
    · have hkn := hk hn0
      obtain ⟨h, hh⟩ : ∃ h, hs[k]? = some h := ⟨hs[k]'(by rw [HM.out.2.2.1]; exact hkn), List.getElem?_eq_getElem _⟩
      have t9 := HM.out.1.s9
      have t10 := HM.out.1.s10
      have t11 := HM.out.1.s11
      have t12 := HM.out.1.s12
      rw [HM.out.2.2.1] at t9 t10 t11 t12
      obtain ⟨g9, rfl⟩ := t9.formPos (by omega)
      obtain ⟨g10, rfl⟩ := t10.formPos (by omega)
      obtain ⟨g11, rfl⟩ := t11.formPos (by omega)
      obtain ⟨g12, rfl⟩ := t12.formPos (by omega)
      have HH := Lib.hid hh
      clear t9 t10 t11 t12 hh hk
      (repeat (first | refine JL.move rfl rfl ?_ | refine JL.append rfl rfl rfl (by assumption) ?_ | refine JL.assign rfl rfl ?_ | refine JL.guardNo rfl rfl rfl ?_ | refine JL.guardU rfl rfl rfl ?_ | (refine JL.pickT rfl rfl rfl rfl ?_) | (refine JL.pickF rfl rfl rfl rfl ?_) | (refine JL.put rfl rfl fun K hK => ?_; go_simp; (try go_bits); refine hK _ _ ?_; clear hK; clear K) | (refine JL.no rfl fun K hK => ?_; go_simp; (try go_bits); refine hK _ _ ?_; clear hK; clear K) | (refine JL.guardYes rfl rfl rfl rfl fun K hK => ?_; go_simp; (try go_bits); refine hK _ _ ?_; clear hK; clear K) | refine JL.nil ?_ | refine JE.next ?_ | refine JE.passX ?_ | refine JE.passR ?_ | refine JE.blkN ?_ | refine JE.blkR ?_ | refine JE.blkX ?_ | refine JE.blkO rfl ?_ | refine J.seq (J.region ?_) | refine J.region ?_ | refine J.skip ?_ | refine J.exit ?_ | refine J.ret ?_ | refine J.condT rfl ?_ | refine J.condF rfl ?_ | refine J.seq (J.condT rfl ?_) | refine J.seq (J.condF rfl ?_) | refine J.seq (J.seq (J.region ?_))))
      refine J.seq (J.held (fun w' => w'.cell? ⟨g9, k, none⟩ = some (.int .i64 (h.idx : Nat)) ∧ w'.cell? ⟨g11, k, none⟩ = some (.int .u32 (h.gen : Nat))) (by kernel_rfl) ?_)
      intro wd HD
      have HMd : Hid (OnceMem w b e c gens es hs (.slice (some ⟨g9, 0, none⟩) n c9) (.slice (some ⟨g10, 0, none⟩) n c10) (.slice (some ⟨g11, 0, none⟩) n c11) (.slice (some ⟨g12, 0, none⟩) n c12) wd) := Lib.hid (by rw [HD.out]; exact HM.out.1.grow ((Only.refl _ _).drew))
      have cells : ∀ es' W', OnceMem w b e c gens es' hs (.slice (some ⟨g9, 0, none⟩) n c9) (.slice (some ⟨g10, 0, none⟩) n c10) (.slice (some ⟨g11, 0, none⟩) n c11) (.slice (some ⟨g12, 0, none⟩) n c12) W' →
          W'.cell? ⟨g9, k, none⟩ = some (.int .i64 (h.idx : Nat)) ∧ W'.cell? ⟨g10, k, none⟩ = some (.int .i64 h.slot) ∧ W'.cell? ⟨g11, k, none⟩ = some (.int .u32 (h.gen : Nat)) ∧ W'.cell? ⟨g12, k, none⟩ = some (.bool h.gone) ∧ W'.frozen? ⟨g12, k, none⟩ = false := by
        intro es' W' hm
        have t9 := hm.s9
        have t10 := hm.s10
        have t11 := hm.s11
        have t12 := hm.s12
        rw [HM.out.2.2.1] at t9 t10 t11 t12
        exact ⟨(t9.cell (j := k) (by simp [HH.out])).1, (t10.cell (j := k) (by simp [HH.out])).1, (t11.cell (j := k) (by simp [HH.out])).1, (t12.cell (j := k) (by simp [HH.out])).1, (t12.cell (j := k) (u := .bool h.gone) (by simp [HH.out])).2⟩
      have CE := Lib.hid cells
      have KD := Lib.hid (Drop_tab HMd.out.tab HMd.out.ok (h.idx : Nat) (h.gen : Nat))
      clear cells
      have HS : Hid (wd.cell? ⟨g9, k, none⟩ = some (.int .i64 (h.idx : Nat)) ∧ wd.cell? ⟨g11, k, none⟩ = some (.int .u32 (h.gen : Nat))) := Lib.hid ⟨(CE.out _ _ HMd.out).1, (CE.out _ _ HMd.out).2.2.1⟩
      (repeat (first | refine JH.move rfl (by kernel_rfl) rfl rfl HS.out ?_ | refine JH.assign rfl (by kernel_rfl) rfl rfl HS.out ?_ | (refine JH.takeE rfl (by kernel_rfl) rfl rfl HS.out ?_; apply Exists.intro; refine And.intro (fun w' hw' => ?_) ?_; (· go_simp; exact rfl)) | refine JH.done (by kernel_rfl) ?_))
      refine JH.only rfl (by kernel_rfl) rfl rfl fun K hK => ?_; go_simp; (try go_bits)
      refine KD.out.mono ?_
      rintro r w2 ⟨rfl, hT, ho⟩
      obtain ⟨x, hx, hxg, hxn⟩ := HM.out.2.1.each k h HH.out
      cases hgo : h.gone with
      | true =>
        have hnm : namedAt es h.idx h.gen = none := by have := look_named (HM.out.2.1.each k h HH.out); rw [hgo] at this; simpa using this
        have eL : lookP es h.idx h.gen = (0, 130) := by unfold lookP; rw [hnm]
        have eD : dropP es h.idx h.gen = es := by unfold dropP; rw [hnm]
        rw [eD] at hT
        have HM2 := Lib.hid (HMd.out.table hT HMd.out.ok ho)
        obtain ⟨p1, p2, p3, p4, p5⟩ := CE.out _ _ HM2.out
        have HS : Hid (w2.cell? ⟨g9, k, none⟩ = some (.int .i64 (h.idx : Nat)) ∧ w2.cell? ⟨g11, k, none⟩ = some (.int .u32 (h.gen : Nat))) := Lib.hid ⟨p1, p3⟩
        refine hK _ _ HS.out ?_
        clear hK
        clear K
        rw [eL]
        rw [hgo] at p4
        clear hT ho hx hxg hxn hnm eL eD
        (repeat (first | refine JH.move rfl (by kernel_rfl) rfl rfl HS.out ?_ | refine JH.assign rfl (by kernel_rfl) rfl rfl HS.out ?_ | (refine JH.takeE rfl (by kernel_rfl) rfl rfl HS.out ?_; apply Exists.intro; refine And.intro (fun w' hw' => ?_) ?_; (· go_simp; exact rfl)) | refine JH.done (by kernel_rfl) ?_))
        (repeat (first | refine JL.move rfl rfl ?_ | refine JL.append rfl rfl rfl (by assumption) ?_ | refine JL.assign rfl rfl ?_ | refine JL.guardNo rfl rfl rfl ?_ | refine JL.guardU rfl rfl rfl ?_ | (refine JL.pickT rfl rfl rfl rfl ?_) | (refine JL.pickF rfl rfl rfl rfl ?_) | (refine JL.put rfl rfl fun K hK => ?_; go_simp; (try go_bits); refine hK _ _ ?_; clear hK; clear K) | (refine JL.no rfl fun K hK => ?_; go_simp; (try go_bits); refine hK _ _ ?_; clear hK; clear K) | (refine JL.guardYes rfl rfl rfl rfl fun K hK => ?_; go_simp; (try go_bits); refine hK _ _ ?_; clear hK; clear K) | refine JL.nil ?_ | refine JE.next ?_ | refine JE.passX ?_ | refine JE.passR ?_ | refine JE.blkN ?_ | refine JE.blkR ?_ | refine JE.blkX ?_ | refine JE.blkO rfl ?_ | refine J.seq (J.region ?_) | refine J.region ?_ | refine J.skip ?_ | refine J.exit ?_ | refine J.ret ?_ | refine J.condT rfl ?_ | refine J.condF rfl ?_ | refine J.seq (J.condT rfl ?_) | refine J.seq (J.condF rfl ?_) | refine J.seq (J.seq (J.region ?_))))
        exact JE.sub (oM i b lv ⟨i, n, some ⟨g9, 0, none⟩, some ⟨g10, 0, none⟩, some ⟨g11, 0, none⟩, some ⟨g12, 0, none⟩, c9, c10, c11, c12, _, hs.set k { h with gone := true }⟩) ⟨rfl, rfl, rfl, rfl, rfl, rfl, rfl, trivial⟩ (hN _ _ (Lib.hid ⟨HM2.out.mark HM.out.2.2.1 HH.out, by rw [show ({ h with gone := true } : Hnd) = h by cases h; simp at hgo; subst hgo; rfl, set_self HH.out]; exact HM.out.2.1, by simp; exact HM.out.2.2.1, by have := HM.out.2.2.2; simp only; omega⟩))
      | false =>
        have hnm : namedAt es h.idx h.gen = some h.idx := by have := look_named (HM.out.2.1.each k h HH.out); rw [hgo] at this; simpa using this
        have hxe := hxn hgo
        have eL : lookP es h.idx h.gen = (h.slot, 0) := by unfold lookP slotAt; rw [hnm]; simp [hx, hxe]
        have eD : dropP es h.idx h.gen = es.set h.idx { x with st := 2 } := by unfold dropP; rw [hnm]; exact modify_eq_set hx _
        rw [eD] at hT
        have hok2 : EntsOk (es.set h.idx { x with st := 2 }) := HM.out.1.ok.set _ _ (by have := HM.out.1.ok.2.2 x (List.mem_of_getElem? hx); simp; omega)
        have HM2 := Lib.hid (HMd.out.table hT hok2 ho)
        obtain ⟨p1, p2, p3, p4, p5⟩ := CE.out _ _ HM2.out
        have HS : Hid (w2.cell? ⟨g9, k, none⟩ = some (.int .i64 (h.idx : Nat)) ∧ w2.cell? ⟨g11, k, none⟩ = some (.int .u32 (h.gen : Nat))) := Lib.hid ⟨p1, p3⟩
        have HI := Lib.hid (HM.out.2.1.drop HH.out hgo hx)
        refine hK _ _ HS.out ?_
        clear hK
        clear K
        rw [eL]
        rw [hgo] at p4
        clear hT ho hx hxg hxn hnm eL eD hok2 hxe
        (repeat (first | refine JH.move rfl (by kernel_rfl) rfl rfl HS.out ?_ | refine JH.assign rfl (by kernel_rfl) rfl rfl HS.out ?_ | (refine JH.takeE rfl (by kernel_rfl) rfl rfl HS.out ?_; apply Exists.intro; refine And.intro (fun w' hw' => ?_) ?_; (· go_simp; exact rfl)) | refine JH.done (by kernel_rfl) ?_))
        (repeat (first | refine JL.move rfl rfl ?_ | refine JL.append rfl rfl rfl (by assumption) ?_ | refine JL.assign rfl rfl ?_ | refine JL.guardNo rfl rfl rfl ?_ | refine JL.guardU rfl rfl rfl ?_ | (refine JL.pickT rfl rfl rfl rfl ?_) | (refine JL.pickF rfl rfl rfl rfl ?_) | (refine JL.put rfl rfl fun K hK => ?_; go_simp; (try go_bits); refine hK _ _ ?_; clear hK; clear K) | (refine JL.no rfl fun K hK => ?_; go_simp; (try go_bits); refine hK _ _ ?_; clear hK; clear K) | (refine JL.guardYes rfl rfl rfl rfl fun K hK => ?_; go_simp; (try go_bits); refine hK _ _ ?_; clear hK; clear K) | refine JL.nil ?_ | refine JE.next ?_ | refine JE.passX ?_ | refine JE.passR ?_ | refine JE.blkN ?_ | refine JE.blkR ?_ | refine JE.blkX ?_ | refine JE.blkO rfl ?_ | refine J.seq (J.region ?_) | refine J.region ?_ | refine J.skip ?_ | refine J.exit ?_ | refine J.ret ?_ | refine J.condT rfl ?_ | refine J.condF rfl ?_ | refine J.seq (J.condT rfl ?_) | refine J.seq (J.condF rfl ?_) | refine J.seq (J.seq (J.region ?_))))
        exact JE.sub (oM i b lv ⟨i, n, some ⟨g9, 0, none⟩, some ⟨g10, 0, none⟩, some ⟨g11, 0, none⟩, some ⟨g12, 0, none⟩, c9, c10, c11, c12, _, hs.set k { h with gone := true }⟩) ⟨rfl, rfl, rfl, rfl, rfl, rfl, rfl, trivial⟩ (hN _ _ (Lib.hid ⟨HM2.out.mark HM.out.2.2.1 HH.out, HI.out, by simp; exact HM.out.2.2.1, by have := HM.out.2.2.2; simp only; omega⟩))
    · have hn1 : n = 0 := by omega
      subst hn1
      (repeat (first | refine JL.move rfl rfl ?_ | refine JL.append rfl rfl rfl (by assumption) ?_ | refine JL.assign rfl rfl ?_ | refine JL.guardNo rfl rfl rfl ?_ | refine JL.guardU rfl rfl rfl ?_ | (refine JL.pickT rfl rfl rfl rfl ?_) | (refine JL.pickF rfl rfl rfl rfl ?_) | (refine JL.put rfl rfl fun K hK => ?_; go_simp; (try go_bits); refine hK _ _ ?_; clear hK; clear K) | (refine JL.no rfl fun K hK => ?_; go_simp; (try go_bits); refine hK _ _ ?_; clear hK; clear K) | (refine JL.guardYes rfl rfl rfl rfl fun K hK => ?_; go_simp; (try go_bits); refine hK _ _ ?_; clear hK; clear K) | refine JL.nil ?_ | refine JE.next ?_ | refine JE.passX ?_ | refine JE.passR ?_ | refine JE.blkN ?_ | refine JE.blkR ?_ | refine JE.blkX ?_ | refine JE.blkO rfl ?_ | refine J.seq (J.region ?_) | refine J.region ?_ | refine J.skip ?_ | refine J.exit ?_ | refine J.ret ?_ | refine J.condT rfl ?_ | refine J.condF rfl ?_ | refine J.seq (J.condT rfl ?_) | refine J.seq (J.condF rfl ?_) | refine J.seq (J.seq (J.region ?_))))
      exact JE.sub (oM i b lv ⟨i, 0, a9, a10, a11, a12, c9, c10, c11, c12, es, hs⟩) ⟨rfl, rfl, rfl, rfl, rfl, rfl, rfl, trivial⟩ (hN _ _ same.out)
  · have KR := Lib.hid (Recycle_tab HM.out.1.tab HM.out.1.ok hg1 (by omega))
    (repeat (first | refine JL.move rfl rfl ?_ | refine JL.append rfl rfl rfl (by assumption) ?_ | refine JL.assign rfl rfl ?_ | refine JL.guardNo rfl rfl rfl ?_ | refine JL.guardU rfl rfl rfl ?_ | (refine JL.pickT rfl rfl rfl rfl ?_) | (refine JL.pickF rfl rfl rfl rfl ?_) | (refine JL.put rfl rfl fun K hK => ?_; go_simp; (try go_bits); refine hK _ _ ?_; clear hK; clear K) | (refine JL.no rfl fun K hK => ?_; go_simp; (try go_bits); refine hK _ _ ?_; clear hK; clear K) | (refine JL.guardYes rfl rfl rfl rfl fun K hK => ?_; go_simp; (try go_bits); refine hK _ _ ?_; clear hK; clear K) | refine JL.nil ?_ | refine JE.next ?_ | refine JE.passX ?_ | refine JE.passR ?_ | refine JE.blkN ?_ | refine JE.blkR ?_ | refine JE.blkX ?_ | refine JE.blkO rfl ?_ | refine J.seq (J.region ?_) | refine J.region ?_ | refine J.skip ?_ | refine J.exit ?_ | refine J.ret ?_ | refine J.condT rfl ?_ | refine J.condF rfl ?_ | refine J.seq (J.condT rfl ?_) | refine J.seq (J.condF rfl ?_) | refine J.seq (J.seq (J.region ?_))))
    (first | refine JL.put rfl rfl fun K hK => ?_ | refine JL.guardYes rfl rfl rfl rfl fun K hK => ?_ | refine JL.no rfl fun K hK => ?_); go_simp; (try go_bits)
    refine KR.out.mono ?_
    rintro r w2 ⟨rfl, hT, ho⟩
    have HM2 := Lib.hid (HM.out.1.table hT (HM.out.1.ok.rec (by omega)) ho)
    clear hT ho
    refine hK _ _ ?_; clear hK; clear K
    (repeat (first | refine JL.move rfl rfl ?_ | refine JL.append rfl rfl rfl (by assumption) ?_ | refine JL.assign rfl rfl ?_ | refine JL.guardNo rfl rfl rfl ?_ | refine JL.guardU rfl rfl rfl ?_ | (refine JL.pickT rfl rfl rfl rfl ?_) | (refine JL.pickF rfl rfl rfl rfl ?_) | (refine JL.put rfl rfl fun K hK => ?_; go_simp; (try go_bits); refine hK _ _ ?_; clear hK; clear K) | (refine JL.no rfl fun K hK => ?_; go_simp; (try go_bits); refine hK _ _ ?_; clear hK; clear K) | (refine JL.guardYes rfl rfl rfl rfl fun K hK => ?_; go_simp; (try go_bits); refine hK _ _ ?_; clear hK; clear K) | refine JL.nil ?_ | refine JE.next ?_ | refine JE.passX ?_ | refine JE.passR ?_ | refine JE.blkN ?_ | refine JE.blkR ?_ | refine JE.blkX ?_ | refine JE.blkO rfl ?_ | refine J.seq (J.region ?_) | refine J.region ?_ | refine J.skip ?_ | refine J.exit ?_ | refine J.ret ?_ | refine J.condT rfl ?_ | refine J.condF rfl ?_ | refine J.seq (J.condT rfl ?_) | refine J.seq (J.condF rfl ?_) | refine J.seq (J.seq (J.region ?_))))
    exact JE.sub (oM i b lv ⟨i, n, a9, a10, a11, a12, c9, c10, c11, c12, _, hs⟩) ⟨rfl, rfl, rfl, rfl, rfl, rfl, rfl, trivial⟩ (hN _ _ (Lib.hid ⟨HM2.out, HM.out.2.1.recycle gens, HM.out.2.2.1, by have := HM.out.2.2.2; simp only; omega⟩))
end Go.Proofs.Ytleimlhcdomffaa
