/- TableOnce: behind each act all handles are looked at, and the counts. -/
import Derived.Test.YtleimlhcdomffaaTabOnceD
namespace Go.Proofs.Ytleimlhcdomffaa
open Go.RowKit Go.Shelf
set_option linter.unusedVariables false

theorem live_take {hs : List Hnd} {j : Nat} {h : Hnd} (hh : hs[j]? = some h) : liveNo (hs.take (j + 1)) = liveNo (hs.take j) + (if h.gone then 0 else 1) := by
  unfold liveNo
  rw [List.take_add_one, hh, List.countP_append]
  cases hg : h.gone <;> simp [hg]

set_option maxRecDepth 100000 in
set_option maxHeartbeats 4000000 in
theorem once_end {Q : Exit → Act → World → Prop} {w : World} {b e c : Nat} {gens : Int} {es : List Ent} {hs : List Hnd} {a9 a10 a11 a12 : Option Addr} {n c9 c10 c11 c12 i : Nat} {lv : Value} {W : World}
    (HM : Hid (OnceMem w b e c gens es hs (.slice a9 n c9) (.slice a10 n c10) (.slice a11 n c11) (.slice a12 n c12) W ∧ OnceInv es hs ∧ hs.length = n ∧ n ≤ i + 1))
    (hi : i < 150)
    (hN : ∀ s W', OGood w b e c gens s (i + 1) W' → JE 264 .normal Q (oM i b lv s) W') :
    J Try.prog 264 onceEnd Q (oM i b lv ⟨i, n, a9, a10, a11, a12, c9, c10, c11, c12, es, hs⟩) W := by
  have hn : n ≤ 150 := by have := HM.out.2.2.2; omega
  refine J.sub [(13, .int .i64 i), (9, .slice a9 n c9), (10, .slice a10 n c10), (11, .slice a11 n c11), (12, .slice a12 n c12), (7, .pointer (some ⟨b, 0, none⟩)), (2, lv)] ⟨rfl, rfl, rfl, rfl, rfl, rfl, rfl, trivial⟩ ?_
  (repeat (first | refine JL.move rfl rfl ?_ | refine JL.append rfl rfl rfl (by assumption) ?_ | refine JL.assign rfl rfl ?_ | refine JL.guardNo rfl rfl rfl ?_ | refine JL.guardU rfl rfl rfl ?_ | (refine JL.pickT rfl rfl rfl rfl ?_) | (refine JL.pickF rfl rfl rfl rfl ?_) | (refine JL.put rfl rfl fun K hK => ?_; go_simp; (try go_bits); refine hK _ _ ?_; clear hK; clear K) | (refine JL.no rfl fun K hK => ?_; go_simp; (try go_bits); refine hK _ _ ?_; clear hK; clear K) | (refine JL.guardYes rfl rfl rfl rfl fun K hK => ?_; go_simp; (try go_bits); refine hK _ _ ?_; clear hK; clear K) | refine JL.nil ?_ | refine JE.next ?_ | refine JE.passX ?_ | refine JE.passR ?_ | refine JE.blkN ?_ | refine JE.blkR ?_ | refine JE.blkX ?_ | refine JE.blkO rfl ?_ | refine J.seq (J.region ?_) | refine J.region ?_ | refine J.skip ?_ | refine J.exit ?_ | refine J.ret ?_ | refine J.condT rfl ?_ | refine J.condF rfl ?_ | refine J.seq (J.condT rfl ?_) | refine J.seq (J.condF rfl ?_)))
  refine J.cut (σ := Unit) (fun _ => [(23, .int .i64 (liveNo hs : Nat)), (13, .int .i64 i), (9, .slice a9 n c9), (10, .slice a10 n c10), (11, .slice a11 n c11), (12, .slice a12 n c12), (7, .pointer (some ⟨b, 0, none⟩)), (2, lv)])
    (fun _ W' => Hid (OnceMem w b e c gens es hs (.slice a9 n c9) (.slice a10 n c10) (.slice a11 n c11) (.slice a12 n c12) W')) ?_ ?_
  · (repeat (first | refine JL.move rfl rfl ?_ | refine JL.append rfl rfl rfl (by assumption) ?_ | refine JL.assign rfl rfl ?_ | refine JL.guardNo rfl rfl rfl ?_ | refine JL.guardU rfl rfl rfl ?_ | (refine JL.pickT rfl rfl rfl rfl ?_) | (refine JL.pickF rfl rfl rfl rfl ?_) | (refine JL.put rfl rfl fun K hK => ?_; go_simp; (try go_bits); refine hK _ _ ?_; clear hK; clear K) | (refine JL.no rfl fun K hK => ?_; go_simp; (try go_bits); refine hK _ _ ?_; clear hK; clear K) | (refine JL.guardYes rfl rfl rfl rfl fun K hK => ?_; go_simp; (try go_bits); refine hK _ _ ?_; clear hK; clear K) | refine JL.nil ?_ | refine JE.next ?_ | refine JE.passX ?_ | refine JE.passR ?_ | refine JE.blkN ?_ | refine JE.blkR ?_ | refine JE.blkX ?_ | refine JE.blkO rfl ?_ | refine J.seq (J.region ?_) | refine J.region ?_ | refine J.skip ?_ | refine J.exit ?_ | refine J.ret ?_ | refine J.condT rfl ?_ | refine J.condF rfl ?_ | refine J.seq (J.condT rfl ?_) | refine J.seq (J.condF rfl ?_)))
    refine J.block ?_
    refine J.loop (σ := Nat) (fun j => [(23, .int .i64 (liveNo (hs.take j) : Nat)), (24, .int .i64 (j : Nat)), (13, .int .i64 i), (9, .slice a9 n c9), (10, .slice a10 n c10), (11, .slice a11 n c11), (12, .slice a12 n c12), (7, .pointer (some ⟨b, 0, none⟩)), (2, lv)])
      (fun j W' => j ≤ n ∧ Hid (OnceMem w b e c gens es hs (.slice a9 n c9) (.slice a10 n c10) (.slice a11 n c11) (.slice a12 n c12) W')) (fun j => n - j) 0 ⟨rfl, rfl, rfl, rfl, rfl, rfl, rfl, rfl, rfl, trivial⟩ ⟨by omega, Lib.hid HM.out.1⟩ ?_
    rintro j wj ⟨hj, HJ⟩
    obtain ⟨live, hlive⟩ : ∃ live, liveNo (hs.take j) = live := ⟨_, rfl⟩
    have hlb : live ≤ j := by rw [← hlive]; unfold liveNo; exact Nat.le_trans List.countP_le_length (by simp; omega)
    refine J.sub [(23, .int .i64 (live : Nat)), (24, .int .i64 (j : Nat)), (13, .int .i64 i), (9, .slice a9 n c9), (10, .slice a10 n c10), (11, .slice a11 n c11), (12, .slice a12 n c12), (7, .pointer (some ⟨b, 0, none⟩)), (2, lv)] ⟨by rw [← hlive]; rfl, rfl, rfl, rfl, rfl, rfl, rfl, rfl, rfl, trivial⟩ ?_
    have HLV := Lib.hid hlive
    clear hlive
    by_cases hjn : j < n
    · obtain ⟨h, hh⟩ : ∃ h, hs[j]? = some h := ⟨hs[j]'(by rw [HM.out.2.2.1]; exact hjn), List.getElem?_eq_getElem _⟩
      have t9 := HM.out.1.s9
      have t10 := HM.out.1.s10
      have t11 := HM.out.1.s11
      have t12 := HM.out.1.s12
      rw [HM.out.2.2.1] at t9 t10 t11 t12
      obtain ⟨g9, rfl⟩ := t9.formPos (by omega)
      obtain ⟨g10, rfl⟩ := t10.formPos (by omega)
      obtain ⟨g11, rfl⟩ := t11.formPos (by omega)
      obtain ⟨g12, rfl⟩ := t12.formPos (by omega)
      have HH := Lib.hid hh
      clear t9 t10 t11 t12 hh
      (repeat (first | refine JL.move rfl rfl ?_ | refine JL.append rfl rfl rfl (by assumption) ?_ | refine JL.assign rfl rfl ?_ | refine JL.guardNo rfl rfl rfl ?_ | refine JL.guardU rfl rfl rfl ?_ | (refine JL.pickT rfl rfl rfl rfl ?_) | (refine JL.pickF rfl rfl rfl rfl ?_) | (refine JL.put rfl rfl fun K hK => ?_; go_simp; (try go_bits); refine hK _ _ ?_; clear hK; clear K) | (refine JL.no rfl fun K hK => ?_; go_simp; (try go_bits); refine hK _ _ ?_; clear hK; clear K) | (refine JL.guardYes rfl rfl rfl rfl fun K hK => ?_; go_simp; (try go_bits); refine hK _ _ ?_; clear hK; clear K) | refine JL.nil ?_ | refine JE.next ?_ | refine JE.passX ?_ | refine JE.passR ?_ | refine JE.blkN ?_ | refine JE.blkR ?_ | refine JE.blkX ?_ | refine JE.blkO rfl ?_ | refine J.seq (J.region ?_) | refine J.region ?_ | refine J.skip ?_ | refine J.exit ?_ | refine J.ret ?_ | refine J.condT rfl ?_ | refine J.condF rfl ?_ | refine J.seq (J.condT rfl ?_) | refine J.seq (J.condF rfl ?_) | refine J.seq (J.seq (J.region ?_))))
      refine J.seq (J.block ?_)
      refine J.seq (J.held (fun w' => w'.cell? ⟨g9, j, none⟩ = some (.int .i64 (h.idx : Nat)) ∧ w'.cell? ⟨g11, j, none⟩ = some (.int .u32 (h.gen : Nat))) (by kernel_rfl) ?_)
      intro wd HD
      have HMd : Hid (OnceMem w b e c gens es hs (.slice (some ⟨g9, 0, none⟩) n c9) (.slice (some ⟨g10, 0, none⟩) n c10) (.slice (some ⟨g11, 0, none⟩) n c11) (.slice (some ⟨g12, 0, none⟩) n c12) wd) := Lib.hid (by rw [HD.out]; exact HJ.out.grow ((Only.refl _ _).drew))
      obtain ⟨p1, p2, p3, p4⟩ : wd.cell? ⟨g9, j, none⟩ = some (.int .i64 (h.idx : Nat)) ∧ wd.cell? ⟨g10, j, none⟩ = some (.int .i64 h.slot) ∧ wd.cell? ⟨g11, j, none⟩ = some (.int .u32 (h.gen : Nat)) ∧ wd.cell? ⟨g12, j, none⟩ = some (.bool h.gone) := by
        have t9 := HMd.out.s9
        have t10 := HMd.out.s10
        have t11 := HMd.out.s11
        have t12 := HMd.out.s12
        rw [HM.out.2.2.1] at t9 t10 t11 t12
        exact ⟨(t9.cell (j := j) (by simp [HH.out])).1, (t10.cell (j := j) (by simp [HH.out])).1, (t11.cell (j := j) (by simp [HH.out])).1, (t12.cell (j := j) (by simp [HH.out])).1⟩
      have KL := Lib.hid (Look_tab HMd.out.tab HMd.out.ok (h.idx : Nat) (h.gen : Nat))
      have HS : Hid (wd.cell? ⟨g9, j, none⟩ = some (.int .i64 (h.idx : Nat)) ∧ wd.cell? ⟨g11, j, none⟩ = some (.int .u32 (h.gen : Nat))) := Lib.hid ⟨p1, p3⟩
      have hnm := look_named (HM.out.2.1.each j h HH.out)
      obtain ⟨x, hx, hxg, hxn⟩ := HM.out.2.1.each j h HH.out
      have hlt := live_take HH.out
      cases hgo : h.gone with
      | true =>
        rw [hgo] at hnm p4 hlt
        have eL : lookP es h.idx h.gen = (0, 130) := by unfold lookP; rw [hnm]; rfl
        rw [eL] at KL
        have HLT : Hid (liveNo (hs.take (j + 1)) = live) := Lib.hid (by rw [hlt, HLV.out]; rfl)
        clear hnm eL hx hxg hxn hlt hgo
        (repeat (first | refine JH.move rfl (by kernel_rfl) rfl rfl HS.out ?_ | refine JH.assign rfl (by kernel_rfl) rfl rfl HS.out ?_ | (refine JH.takeE rfl (by kernel_rfl) rfl rfl HS.out ?_; apply Exists.intro; refine And.intro (fun w' hw' => ?_) ?_; (· go_simp; exact rfl)) | refine JH.done (by kernel_rfl) ?_))
        refine JH.only rfl (by kernel_rfl) rfl rfl fun K hK => ?_; go_simp; (try go_bits)
        refine KL.out.mono ?_
        rintro r _ ⟨rfl, rfl⟩
        refine hK _ _ HS.out ?_
        clear hK
        clear K
        (repeat (first | refine JH.move rfl (by kernel_rfl) rfl rfl HS.out ?_ | refine JH.assign rfl (by kernel_rfl) rfl rfl HS.out ?_ | (refine JH.takeE rfl (by kernel_rfl) rfl rfl HS.out ?_; apply Exists.intro; refine And.intro (fun w' hw' => ?_) ?_; (· go_simp; exact rfl)) | refine JH.done (by kernel_rfl) ?_))
        (repeat (first | refine JL.move rfl rfl ?_ | refine JL.append rfl rfl rfl (by assumption) ?_ | refine JL.assign rfl rfl ?_ | refine JL.guardNo rfl rfl rfl ?_ | refine JL.guardU rfl rfl rfl ?_ | (refine JL.pickT rfl rfl rfl rfl ?_) | (refine JL.pickF rfl rfl rfl rfl ?_) | (refine JL.put rfl rfl fun K hK => ?_; go_simp; (try go_bits); refine hK _ _ ?_; clear hK; clear K) | (refine JL.no rfl fun K hK => ?_; go_simp; (try go_bits); refine hK _ _ ?_; clear hK; clear K) | (refine JL.guardYes rfl rfl rfl rfl fun K hK => ?_; go_simp; (try go_bits); refine hK _ _ ?_; clear hK; clear K) | refine JL.nil ?_ | refine JE.next ?_ | refine JE.passX ?_ | refine JE.passR ?_ | refine JE.blkN ?_ | refine JE.blkR ?_ | refine JE.blkX ?_ | refine JE.blkO rfl ?_ | refine J.seq (J.region ?_) | refine J.region ?_ | refine J.skip ?_ | refine J.exit ?_ | refine J.ret ?_ | refine J.condT rfl ?_ | refine J.condF rfl ?_ | refine J.seq (J.condT rfl ?_) | refine J.seq (J.condF rfl ?_) | refine J.seq (J.seq (J.region ?_))))
        exact JE.again (j + 1) ⟨by rw [HLT.out]; rfl, rfl, rfl, rfl, rfl, rfl, rfl, rfl, rfl, trivial⟩ ⟨by omega, HMd⟩ (show n - (j + 1) < n - j by omega)
      | false =>
        rw [hgo] at hnm p4 hlt
        have hxe := hxn hgo
        have eL : lookP es h.idx h.gen = (h.slot, 0) := by unfold lookP slotAt; rw [hnm]; simp [hx, hxe]
        rw [eL] at KL
        have HLT : Hid (liveNo (hs.take (j + 1)) = live + 1) := Lib.hid (by rw [hlt, HLV.out]; rfl)
        clear hnm eL hx hxg hxn hlt hgo hxe
        (repeat (first | refine JH.move rfl (by kernel_rfl) rfl rfl HS.out ?_ | refine JH.assign rfl (by kernel_rfl) rfl rfl HS.out ?_ | (refine JH.takeE rfl (by kernel_rfl) rfl rfl HS.out ?_; apply Exists.intro; refine And.intro (fun w' hw' => ?_) ?_; (· go_simp; exact rfl)) | refine JH.done (by kernel_rfl) ?_))
        refine JH.only rfl (by kernel_rfl) rfl rfl fun K hK => ?_; go_simp; (try go_bits)
        refine KL.out.mono ?_
        rintro r _ ⟨rfl, rfl⟩
        refine hK _ _ HS.out ?_
        clear hK
        clear K
        (repeat (first | refine JH.move rfl (by kernel_rfl) rfl rfl HS.out ?_ | refine JH.assign rfl (by kernel_rfl) rfl rfl HS.out ?_ | (refine JH.takeE rfl (by kernel_rfl) rfl rfl HS.out ?_; apply Exists.intro; refine And.intro (fun w' hw' => ?_) ?_; (· go_simp; exact rfl)) | refine JH.done (by kernel_rfl) ?_))
        (repeat (first | refine JL.move rfl rfl ?_ | refine JL.append rfl rfl rfl (by assumption) ?_ | refine JL.assign rfl rfl ?_ | refine JL.guardNo rfl rfl rfl ?_ | refine JL.guardU rfl rfl rfl ?_ | (refine JL.pickT rfl rfl rfl rfl ?_) | (refine JL.pickF rfl rfl rfl rfl ?_) | (refine JL.put rfl rfl fun K hK => ?_; go_simp; (try go_bits); refine hK _ _ ?_; clear hK; clear K) | (refine JL.no rfl fun K hK => ?_; go_simp; (try go_bits); refine hK _ _ ?_; clear hK; clear K) | (refine JL.guardYes rfl rfl rfl rfl fun K hK => ?_; go_simp; (try go_bits); refine hK _ _ ?_; clear hK; clear K) | refine JL.nil ?_ | refine JE.next ?_ | refine JE.passX ?_ | refine JE.passR ?_ | refine JE.blkN ?_ | refine JE.blkR ?_ | refine JE.blkX ?_ | refine JE.blkO rfl ?_ | refine J.seq (J.region ?_) | refine J.region ?_ | refine J.skip ?_ | refine J.exit ?_ | refine J.ret ?_ | refine J.condT rfl ?_ | refine J.condF rfl ?_ | refine J.seq (J.condT rfl ?_) | refine J.seq (J.condF rfl ?_) | refine J.seq (J.seq (J.region ?_))))
        exact JE.again (j + 1) ⟨by rw [HLT.out]; rfl, rfl, rfl, rfl, rfl, rfl, rfl, rfl, rfl, trivial⟩ ⟨by omega, HMd⟩ (show n - (j + 1) < n - j by omega)
    · have HLN : Hid (liveNo hs = live) := Lib.hid (by rw [← HLV.out, List.take_of_length_le (by rw [HM.out.2.2.1]; omega)])
      (repeat (first | refine JL.move rfl rfl ?_ | refine JL.append rfl rfl rfl (by assumption) ?_ | refine JL.assign rfl rfl ?_ | refine JL.guardNo rfl rfl rfl ?_ | refine JL.guardU rfl rfl rfl ?_ | (refine JL.pickT rfl rfl rfl rfl ?_) | (refine JL.pickF rfl rfl rfl rfl ?_) | (refine JL.put rfl rfl fun K hK => ?_; go_simp; (try go_bits); refine hK _ _ ?_; clear hK; clear K) | (refine JL.no rfl fun K hK => ?_; go_simp; (try go_bits); refine hK _ _ ?_; clear hK; clear K) | (refine JL.guardYes rfl rfl rfl rfl fun K hK => ?_; go_simp; (try go_bits); refine hK _ _ ?_; clear hK; clear K) | refine JL.nil ?_ | refine JE.next ?_ | refine JE.passX ?_ | refine JE.passR ?_ | refine JE.blkN ?_ | refine JE.blkR ?_ | refine JE.blkX ?_ | refine JE.blkO rfl ?_ | refine J.seq (J.region ?_) | refine J.region ?_ | refine J.skip ?_ | refine J.exit ?_ | refine J.ret ?_ | refine J.condT rfl ?_ | refine J.condF rfl ?_ | refine J.seq (J.condT rfl ?_) | refine J.seq (J.condF rfl ?_) | refine J.seq (J.seq (J.region ?_))))
      exact JE.meet () ⟨by rw [HLN.out]; rfl, rfl, rfl, rfl, rfl, rfl, rfl, rfl, trivial⟩ HJ
  · rintro _ wx HX
    obtain ⟨live, hlive⟩ : ∃ live, liveNo hs = live := ⟨_, rfl⟩
    refine J.sub [(23, .int .i64 (live : Nat)), (13, .int .i64 i), (9, .slice a9 n c9), (10, .slice a10 n c10), (11, .slice a11 n c11), (12, .slice a12 n c12), (7, .pointer (some ⟨b, 0, none⟩)), (2, lv)] ⟨by rw [← hlive]; rfl, rfl, rfl, rfl, rfl, rfl, rfl, rfl, trivial⟩ ?_
    have hT := HX.out.tab
    have hok := HX.out.ok
    have K0 := Lib.hid (Free_tab hT hok)
    have K1 := Lib.hid (Live_tab hT hok)
    have K2 := Lib.hid (Dropped_tab hT hok)
    have K3 := Lib.hid (Retired_tab hT hok)
    have K4 := Lib.hid (Len_tab hT hok)
    have hsum := cnt_sum hok
    have hlen := hok.2.1
    rw [HM.out.2.1.count, hlive] at K1 hsum
    obtain ⟨f, hf⟩ : ∃ f, cnt 0 es = f := ⟨_, rfl⟩
    obtain ⟨d, hd⟩ : ∃ d, cnt 2 es = d := ⟨_, rfl⟩
    obtain ⟨r, hr⟩ : ∃ r, cnt 3 es = r := ⟨_, rfl⟩
    rw [hf] at K0 hsum
    rw [hd] at K2 hsum
    rw [hr] at K3 hsum
    rw [← hsum] at K4 hlen
    clear hT hok hf hd hr hlive hsum
    (repeat (first | refine JL.move rfl rfl ?_ | refine JL.append rfl rfl rfl (by assumption) ?_ | refine JL.assign rfl rfl ?_ | refine JL.guardNo rfl rfl rfl ?_ | refine JL.guardU rfl rfl rfl ?_ | (refine JL.pickT rfl rfl rfl rfl ?_) | (refine JL.pickF rfl rfl rfl rfl ?_) | (refine JL.put rfl rfl fun K hK => ?_; go_simp; (try go_bits); refine hK _ _ ?_; clear hK; clear K) | (refine JL.no rfl fun K hK => ?_; go_simp; (try go_bits); refine hK _ _ ?_; clear hK; clear K) | (refine JL.guardYes rfl rfl rfl rfl fun K hK => ?_; go_simp; (try go_bits); refine hK _ _ ?_; clear hK; clear K) | refine JL.nil ?_ | refine JE.next ?_ | refine JE.passX ?_ | refine JE.passR ?_ | refine JE.blkN ?_ | refine JE.blkR ?_ | refine JE.blkX ?_ | refine JE.blkO rfl ?_ | refine J.seq (J.region ?_) | refine J.region ?_ | refine J.skip ?_ | refine J.exit ?_ | refine J.ret ?_ | refine J.condT rfl ?_ | refine J.condF rfl ?_ | refine J.seq (J.condT rfl ?_) | refine J.seq (J.condF rfl ?_)))
    (first | refine JL.put rfl rfl fun K hK => ?_ | refine JL.guardYes rfl rfl rfl rfl fun K hK => ?_ | refine JL.no rfl fun K hK => ?_); go_simp; (try go_bits)
    refine K1.out.mono ?_
    rintro _ _ ⟨rfl, rfl⟩
    refine hK _ _ ?_; clear hK; clear K
    (repeat (first | refine JL.move rfl rfl ?_ | refine JL.append rfl rfl rfl (by assumption) ?_ | refine JL.assign rfl rfl ?_ | refine JL.guardNo rfl rfl rfl ?_ | refine JL.guardU rfl rfl rfl ?_ | (refine JL.pickT rfl rfl rfl rfl ?_) | (refine JL.pickF rfl rfl rfl rfl ?_) | (refine JL.put rfl rfl fun K hK => ?_; go_simp; (try go_bits); refine hK _ _ ?_; clear hK; clear K) | (refine JL.no rfl fun K hK => ?_; go_simp; (try go_bits); refine hK _ _ ?_; clear hK; clear K) | (refine JL.guardYes rfl rfl rfl rfl fun K hK => ?_; go_simp; (try go_bits); refine hK _ _ ?_; clear hK; clear K) | refine JL.nil ?_ | refine JE.next ?_ | refine JE.passX ?_ | refine JE.passR ?_ | refine JE.blkN ?_ | refine JE.blkR ?_ | refine JE.blkX ?_ | refine JE.blkO rfl ?_ | refine J.seq (J.region ?_) | refine J.region ?_ | refine J.skip ?_ | refine J.exit ?_ | refine J.ret ?_ | refine J.condT rfl ?_ | refine J.condF rfl ?_ | refine J.seq (J.condT rfl ?_) | refine J.seq (J.condF rfl ?_)))
    (first | refine JL.put rfl rfl fun K hK => ?_ | refine JL.guardYes rfl rfl rfl rfl fun K hK => ?_ | refine JL.no rfl fun K hK => ?_); go_simp; (try go_bits)
    refine K0.out.mono ?_
    rintro _ _ ⟨rfl, rfl⟩
    refine hK _ _ ?_; clear hK; clear K
    (repeat (first | refine JL.move rfl rfl ?_ | refine JL.append rfl rfl rfl (by assumption) ?_ | refine JL.assign rfl rfl ?_ | refine JL.guardNo rfl rfl rfl ?_ | refine JL.guardU rfl rfl rfl ?_ | (refine JL.pickT rfl rfl rfl rfl ?_) | (refine JL.pickF rfl rfl rfl rfl ?_) | (refine JL.put rfl rfl fun K hK => ?_; go_simp; (try go_bits); refine hK _ _ ?_; clear hK; clear K) | (refine JL.no rfl fun K hK => ?_; go_simp; (try go_bits); refine hK _ _ ?_; clear hK; clear K) | (refine JL.guardYes rfl rfl rfl rfl fun K hK => ?_; go_simp; (try go_bits); refine hK _ _ ?_; clear hK; clear K) | refine JL.nil ?_ | refine JE.next ?_ | refine JE.passX ?_ | refine JE.passR ?_ | refine JE.blkN ?_ | refine JE.blkR ?_ | refine JE.blkX ?_ | refine JE.blkO rfl ?_ | refine J.seq (J.region ?_) | refine J.region ?_ | refine J.skip ?_ | refine J.exit ?_ | refine J.ret ?_ | refine J.condT rfl ?_ | refine J.condF rfl ?_ | refine J.seq (J.condT rfl ?_) | refine J.seq (J.condF rfl ?_)))
    (first | refine JL.put rfl rfl fun K hK => ?_ | refine JL.guardYes rfl rfl rfl rfl fun K hK => ?_ | refine JL.no rfl fun K hK => ?_); go_simp; (try go_bits)
    refine K1.out.mono ?_
    rintro _ _ ⟨rfl, rfl⟩
    refine hK _ _ ?_; clear hK; clear K
    (repeat (first | refine JL.move rfl rfl ?_ | refine JL.append rfl rfl rfl (by assumption) ?_ | refine JL.assign rfl rfl ?_ | refine JL.guardNo rfl rfl rfl ?_ | refine JL.guardU rfl rfl rfl ?_ | (refine JL.pickT rfl rfl rfl rfl ?_) | (refine JL.pickF rfl rfl rfl rfl ?_) | (refine JL.put rfl rfl fun K hK => ?_; go_simp; (try go_bits); refine hK _ _ ?_; clear hK; clear K) | (refine JL.no rfl fun K hK => ?_; go_simp; (try go_bits); refine hK _ _ ?_; clear hK; clear K) | (refine JL.guardYes rfl rfl rfl rfl fun K hK => ?_; go_simp; (try go_bits); refine hK _ _ ?_; clear hK; clear K) | refine JL.nil ?_ | refine JE.next ?_ | refine JE.passX ?_ | refine JE.passR ?_ | refine JE.blkN ?_ | refine JE.blkR ?_ | refine JE.blkX ?_ | refine JE.blkO rfl ?_ | refine J.seq (J.region ?_) | refine J.region ?_ | refine J.skip ?_ | refine J.exit ?_ | refine J.ret ?_ | refine J.condT rfl ?_ | refine J.condF rfl ?_ | refine J.seq (J.condT rfl ?_) | refine J.seq (J.condF rfl ?_)))
    (first | refine JL.put rfl rfl fun K hK => ?_ | refine JL.guardYes rfl rfl rfl rfl fun K hK => ?_ | refine JL.no rfl fun K hK => ?_); go_simp; (try go_bits)
    refine K2.out.mono ?_
    rintro _ _ ⟨rfl, rfl⟩
    refine hK _ _ ?_; clear hK; clear K
    (repeat (first | refine JL.move rfl rfl ?_ | refine JL.append rfl rfl rfl (by assumption) ?_ | refine JL.assign rfl rfl ?_ | refine JL.guardNo rfl rfl rfl ?_ | refine JL.guardU rfl rfl rfl ?_ | (refine JL.pickT rfl rfl rfl rfl ?_) | (refine JL.pickF rfl rfl rfl rfl ?_) | (refine JL.put rfl rfl fun K hK => ?_; go_simp; (try go_bits); refine hK _ _ ?_; clear hK; clear K) | (refine JL.no rfl fun K hK => ?_; go_simp; (try go_bits); refine hK _ _ ?_; clear hK; clear K) | (refine JL.guardYes rfl rfl rfl rfl fun K hK => ?_; go_simp; (try go_bits); refine hK _ _ ?_; clear hK; clear K) | refine JL.nil ?_ | refine JE.next ?_ | refine JE.passX ?_ | refine JE.passR ?_ | refine JE.blkN ?_ | refine JE.blkR ?_ | refine JE.blkX ?_ | refine JE.blkO rfl ?_ | refine J.seq (J.region ?_) | refine J.region ?_ | refine J.skip ?_ | refine J.exit ?_ | refine J.ret ?_ | refine J.condT rfl ?_ | refine J.condF rfl ?_ | refine J.seq (J.condT rfl ?_) | refine J.seq (J.condF rfl ?_)))
    (first | refine JL.put rfl rfl fun K hK => ?_ | refine JL.guardYes rfl rfl rfl rfl fun K hK => ?_ | refine JL.no rfl fun K hK => ?_); go_simp; (try go_bits)
    refine K3.out.mono ?_
    rintro _ _ ⟨rfl, rfl⟩
    refine hK _ _ ?_; clear hK; clear K
    (repeat (first | refine JL.move rfl rfl ?_ | refine JL.append rfl rfl rfl (by assumption) ?_ | refine JL.assign rfl rfl ?_ | refine JL.guardNo rfl rfl rfl ?_ | refine JL.guardU rfl rfl rfl ?_ | (refine JL.pickT rfl rfl rfl rfl ?_) | (refine JL.pickF rfl rfl rfl rfl ?_) | (refine JL.put rfl rfl fun K hK => ?_; go_simp; (try go_bits); refine hK _ _ ?_; clear hK; clear K) | (refine JL.no rfl fun K hK => ?_; go_simp; (try go_bits); refine hK _ _ ?_; clear hK; clear K) | (refine JL.guardYes rfl rfl rfl rfl fun K hK => ?_; go_simp; (try go_bits); refine hK _ _ ?_; clear hK; clear K) | refine JL.nil ?_ | refine JE.next ?_ | refine JE.passX ?_ | refine JE.passR ?_ | refine JE.blkN ?_ | refine JE.blkR ?_ | refine JE.blkX ?_ | refine JE.blkO rfl ?_ | refine J.seq (J.region ?_) | refine J.region ?_ | refine J.skip ?_ | refine J.exit ?_ | refine J.ret ?_ | refine J.condT rfl ?_ | refine J.condF rfl ?_ | refine J.seq (J.condT rfl ?_) | refine J.seq (J.condF rfl ?_)))
    (first | refine JL.put rfl rfl fun K hK => ?_ | refine JL.guardYes rfl rfl rfl rfl fun K hK => ?_ | refine JL.no rfl fun K hK => ?_); go_simp; (try go_bits)
    refine K4.out.mono ?_
    rintro _ _ ⟨rfl, rfl⟩
    refine hK _ _ ?_; clear hK; clear K
    (repeat (first | refine JL.move rfl rfl ?_ | refine JL.append rfl rfl rfl (by assumption) ?_ | refine JL.assign rfl rfl ?_ | refine JL.guardNo rfl rfl rfl ?_ | refine JL.guardU rfl rfl rfl ?_ | (refine JL.pickT rfl rfl rfl rfl ?_) | (refine JL.pickF rfl rfl rfl rfl ?_) | (refine JL.put rfl rfl fun K hK => ?_; go_simp; (try go_bits); refine hK _ _ ?_; clear hK; clear K) | (refine JL.no rfl fun K hK => ?_; go_simp; (try go_bits); refine hK _ _ ?_; clear hK; clear K) | (refine JL.guardYes rfl rfl rfl rfl fun K hK => ?_; go_simp; (try go_bits); refine hK _ _ ?_; clear hK; clear K) | refine JL.nil ?_ | refine JE.next ?_ | refine JE.passX ?_ | refine JE.passR ?_ | refine JE.blkN ?_ | refine JE.blkR ?_ | refine JE.blkX ?_ | refine JE.blkO rfl ?_ | refine J.seq (J.region ?_) | refine J.region ?_ | refine J.skip ?_ | refine J.exit ?_ | refine J.ret ?_ | refine J.condT rfl ?_ | refine J.condF rfl ?_ | refine J.seq (J.condT rfl ?_) | refine J.seq (J.condF rfl ?_) | refine J.seq (J.seq (J.region ?_))))
    exact JE.sub (oM i b lv ⟨i, n, a9, a10, a11, a12, c9, c10, c11, c12, es, hs⟩) ⟨rfl, rfl, rfl, rfl, rfl, rfl, rfl, trivial⟩ (hN _ _ (Lib.hid ⟨HX.out, HM.out.2.1, HM.out.2.2.1, HM.out.2.2.2⟩))
end Go.Proofs.Ytleimlhcdomffaa
