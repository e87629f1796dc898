/- Mark: a marker that is started again begins anew. -/
import Derived.Test.YtalholahapcpkaaGreatDoorD1
import Derived.Test.YtalholahapcpkaaGreatDoorJ33
import Derived.Test.YtalholahapcpkaaGreatDoorJ34
namespace Go.Proofs.YtalholahapcpkaaGreatDoor.Sw
open Go.RowKit
set_option linter.unusedVariables false
set_option linter.unusedSimpArgs false
set_option maxRecDepth 10000
set_option maxHeartbeats 16000000 in
theorem markAgain_K {w0 : World} {F : Heap} {c : Cfg} {vc vt vl vm : Value} {l st : List MActP} (hG : Glob w0) (hR : CfgR w0 F c vc vt) (hC : Sli w0 [] iE vc c.cl) (hvc : vc.oneCell' = true) (hl : Sli w0 F mactE vl l) (hlw : ∀ x ∈ l, x.ok) (hm : Sli w0 F mactE vm st) (hmw : ∀ x ∈ st, x.ok) :
  Call Tryz.prog w0 11 [cfgV c vc vt, vl, vm] F (fun r H' => r = .bool true ∧ H' = F) := by
 obtain ⟨okk, hokk⟩ : ∃ okk, okM c = okk := ⟨_, rfl⟩
 have hawake := fun A => mawake_K (w0 := w0) (F := A) hG
 cases okk with
 | false =>
  have hno := fun A (hp : Part A F) => mmade_no (hR.part hp) hokk
  obtain ⟨cl, page, tn, workers, grey, gens⟩ := c
  simp only [cfgV, cfgL] at hno ⊢
  unfold wm0 at hno
  refine Call.enter3 (n := 184) (by kernel_rfl) Tryz.func11 rfl rfl rfl ?_
  refine zW ?_; intro b3
  refine zp fun T hT => ?_
  refine zg2 ?_
  rintro _ _ ⟨rfl, rfl⟩
  refine zd ?_
  clear hT T
  refine zao ?_; intro b7
  refine zat ?_
  refine zg fun T hT => ?_
  refine zdb ?_
  rintro _ _ ⟨rfl, rfl⟩
  refine zd ?_
  clear hT T
  exact zar
 | true =>
  obtain ⟨g, long, nw, S0, hS0, hk0, hnw, hnw8, -, hmade⟩ := mmade_any hG hR hokk hC hvc
  obtain ⟨cl, page, tn, workers, grey, gens⟩ := c
  simp only [cfgV, cfgL] at hmade ⊢
  dsimp only at hnw
  clear hokk hR
  refine Call.enter3 (n := 184) (by kernel_rfl) Tryz.func11 rfl rfl rfl ?_
  refine zW ?_; intro b3
  refine zp fun T hT => ?_
  refine zg3 ?_
  rintro _ _ ⟨X, hX, rfl, rfl⟩
  obtain ⟨q1, q2, q3, q4, q5, q6, q7, q8, q9, r1, r2, r3⟩ := hX.o
  have ha0 : S0.m.act = false := by rw [hS0]; rfl
  have hlg := hX.lg
  have okg := hX.okg
  unfold wmL
  refine zd ?_
  clear hT T
  refine zao ?_; intro b7
  refine zF ?_
  refine zfC ?_
  refine K.cutE (σ := LmA) [(2, _), (3, _), (7, _)] bySub (fun s kp_ => kp_) (fun s => wmH s.X ++ ((b7, cells (wmL g long s.X s.S.k) 99) :: (b3, cells [vc, .int .i64 page, vt, .int .i64 workers, .int .i64 grey, .int .i64 gens] 25) :: F)) (fun s => WmR w0 g long 1 s.X s.S ∧ s.S.m = newM g nw false ∧ s.S.k = s.S.m) ?_ ?_
  ·refine K.block ?_
   refine K.loopT (σ := LmA) [(1, _), (2, _), (3, _), (7, _)] (fun s kp_ => (9, .int .i64 (s.i : Nat)) :: kp_) (fun s => wmH s.X ++ ((b7, cells (wmL g long s.X s.S.k) 99) :: (b3, cells [vc, .int .i64 page, vt, .int .i64 workers, .int .i64 grey, .int .i64 gens] 25) :: F)) (fun s => s.i ≤ l.length ∧ WmR w0 g long 1 s.X s.S ∧ s.S.m = newM g nw false ∧ s.S.k = s.S.m) (fun s => l.length - s.i) (⟨0, X, S0⟩) bySub byPart (⟨Nat.zero_le _, hX, hS0, hk0⟩) ?_
   rintro ⟨i, X1, S1⟩ ⟨hi, hX1, hm1, hk1⟩
   dsimp only at hi hX1 hm1 hk1 ⊢
   clear q1 q2 q3 q4 q5 q6 q7 q8 q9 r1 r2 r3
   obtain ⟨q1, q2, q3, q4, q5, q6, q7, q8, q9, r1, r2, r3⟩ := hX1.o
   have ha1 : S1.m.act = false := by rw [hm1]; rfl
   by_cases hlt : i < l.length ∧ i < 60
   ·obtain ⟨h1, h2⟩ := hlt
    have h2' : ((i : Nat) : Int) < 60 := by omega
    obtain ⟨x, hx⟩ := get_of_lt h1
    have hxo := hlw x (List.mem_of_getElem? hx)
    have hdoes := fun A => mdoes_K (w0 := w0) (F := A) hG hX1 hxo.1 hxo.2
    unfold WmD at hdoes
    obtain ⟨S2, hS2⟩ : ∃ S2, actS2 g long S1 x = S2 := ⟨_, rfl⟩
    have hm2 : S2.m = newM g nw false := by rw [← hS2, act_idle ha1]; exact hm1
    have hk2 : S2.k = S2.m := by rw [← hS2]; exact act_same hk1
    have hbb : (actB g long S1.W S1.m x == actB g long S1.W S1.k x) = true := by rw [hk1]; exact beq_b _
    simp only [hS2, hbb] at hdoes
    clear hS2 hbb
    unfold wmL
    refine zfl ?_
    refine zhE ?_
    refine zgu ?_
    refine zfz fun T hT => ?_
    refine zg4 ?_
    rintro _ _ ⟨X2, hX2, rfl, rfl⟩
    clear q1 q2 q3 q4 q5 q6 q7 q8 q9 r1 r2 r3
    obtain ⟨q1, q2, q3, q4, q5, q6, q7, q8, q9, r1, r2, r3⟩ := hX2.o
    unfold wmL
    refine zi ?_
    clear hT T
    refine zb7 ?_
    refine zde ?_
    refine zbr ?_
    exact zjA
   ·by_cases h1 : i < l.length
    ·have h2 : ¬ ((i : Nat) : Int) < 60 := by omega
     clear hlt
     unfold wmL
     refine zeq ?_
     exact zgb
    ·clear hlt
     unfold wmL
     refine zer ?_
     exact zgb
  ·rintro ⟨_, X5, S5⟩ ⟨hX5, hm5, hk5⟩
   dsimp only at hX5 hm5 hk5 ⊢
   obtain ⟨W, m5, kk⟩ := S5
   dsimp only at hm5 hk5 hX5 ⊢
   subst hm5
   clear hX q1 q2 q3 q4 q5 q6 q7 q8 q9 r1 r2 r3 hmade ha0 hS0 hk0
   obtain ⟨q1, q2, q3, q4, q5, q6, q7, q8, q9, r1, r2, r3⟩ := hX5.o
   have hX6 : WmR w0 g long 1 (setk X5 X5.k) ⟨W, newM g nw false, kk⟩ := hX5
   have hWw : MwOk g W := hX5.W.w
   have hLl : g.L.length = g.slots := L_len
   rw [show wmH X5 = wmH (setk X5 X5.k) from rfl]
   unfold wmL
   refine zc1 ?_
   refine zbh fun T hT => ?_
   refine ziu ?_
   rintro _ _ ⟨rfl, k1, hb1, hX1, rfl⟩
   rw [start_new] at hX1
   refine zd ?_
   clear hT T
   have hl1 : leftM g W (newM g nw true) ≤ lim g W := start_left okg nw
   refine zD ?_
   refine zu ?_
   refine zcm fun T hT => ?_
   refine (CallV.part (CallV.fn (finish_K hG hX1 hb1 rfl hl1)) byPart).mono ?_
   rintro _ _ ⟨rfl, k7, m7, hb7, hg7, hd7, hX8, rfl⟩
   have hgo := goes_ok okg (new_ok (W := W) hlg.1 hnw8) hWw new_in hg7
   have ha7 : m7.act = true := hgo.act
   have hh7 : m7.hs.length = nw + 1 := hgo.hs.trans (by simp [newM])
   have hC7 : m7.C.length = g.slots := hgo.ok.C
   have hPL := hX5.W.B.p.L
   have hsL : ∀ k', Sli w0 (wmH (setk X5 k') ++ []) slE X5.v.L g.L := fun k' => sli_nil (hPL.part setk_part)
   have hsl7 := hsL k7
   have hslots := okg.slots
   refine zd ?_
   clear hT T
   refine zbQ ?_
   refine zan ?_
   refine zcn ?_
   refine K.loopT (σ := LmW) [(2, _), (3, _), (7, _)] (fun s kp_ => (10, oV s.o (m7.C.take s.i).length) :: (11, .int .i64 (s.i : Nat)) :: kp_) (fun s => wmH (setk X5 k7) ++ (oH bE 5 (m7.C.take s.i) s.o ++ ((b7, cells (wmL g long X5 kk) 99) :: (b3, cells [vc, .int .i64 page, vt, .int .i64 workers, .int .i64 grey, .int .i64 gens] 25) :: F))) (fun s => s.i ≤ g.slots ∧ oOk bE (m7.C.take s.i) s.o) (fun s => g.slots - s.i) (⟨0, none⟩) bySub byPart (⟨Nat.zero_le _, rfl⟩) ?_
   rintro ⟨i, o⟩ ⟨hi, ho⟩
   dsimp only at hi ho ⊢
   have htl : i = (m7.C.take i).length := by rw [List.length_take]; omega
   unfold wmL
   by_cases hlt : i < g.slots
   ·have hlt' : i < g.L.length := by omega
    obtain ⟨c, hc⟩ := get_of_lt (l := m7.C) (k := i) (by omega)
    have hbd : (m7.C.take i ++ [c]).length ≤ 4294967296 := by simp only [List.length_append, List.length_take, List.length_singleton]; omega
    refine zv ?_
    refine zb8 ?_
    refine zcP ?_
    refine za3 ?_
    refine zg8 fun T hT => ?_
    refine zkE ?_
    refine ze ?_
    clear hT T
    refine zag ?_
    refine zdo ?_
    refine zj ?_
    refine zad ?_; intro b80
    refine KL.e rfl (Eff.appZ (ys := [_]) rfl rfl rfl rfl rfl rfl byTakeL (by assumption) (by first | exact Sli.blk byTake rfl (by first | decide | simp) (by first | decide | (unfold maxLen; omega)) rfl | exact Sli.old (by assumption) | exact Sli.own byTakeL (by assumption) byLen | assumption | exact Sli.part (by assumption) byPart) rfl (by first | assumption | omega | (simp <;> fail) | (simp; omega)) rfl) ?_; rintro _ _ ⟨o81, ok81, rfl, rfl⟩
    refine zbE ?_
    refine zbr ?_
    exact KE.again ⟨i + 1, o81⟩ (by dsimp only; rw [take_snoc hc]; exact bySub) (by dsimp only; rw [take_snoc hc]; exact byPart) ⟨hlt, by dsimp only; rw [take_snoc hc]; exact ok81⟩ (by show g.slots - (i + 1) < g.slots - i; omega)
   ·have hlt' : ¬ i < g.L.length := by omega
    have hi2 : i = g.slots := by omega
    subst hi2
    have htk : m7.C.take g.slots = m7.C := List.take_of_length_le (by omega)
    rw [htk] at ho htl ⊢
    clear hi hlt hlt'
    refine zv ?_
    refine zb8 ?_
    refine zcP ?_
    refine zdd ?_
    refine zbO ?_
    refine zgY ?_
    refine zbh fun T hT => ?_
    refine (CallV.part (CallV.fn (mStop_K hX8 hb7 ha7)) byPart).mono ?_
    rintro _ _ ⟨rfl, k8, hb8, hX9, rfl⟩
    refine zd ?_
    clear hT T
    refine zD ?_
    refine zu ?_
    refine zbS fun T hT => ?_
    refine (CallV.part (CallV.fn (mStart_K hX9 hb8 rfl (by decide))) byPart).mono ?_
    rintro _ _ ⟨rfl, k9, hb9, hXa, rfl⟩
    rw [start_of (m := { m7 with act := false }) (nw := nw) hh7] at hXa
    refine zd ?_
    clear hT T
    refine zdn ?_
    refine zbf ?_
    refine zbS fun T hT => ?_
    refine (CallV.part (CallV.fn (mSteps_K hXa hb9)) byPart).mono ?_
    refine zS ?_
    rw [show (newM g nw true).steps = 0 from rfl]
    refine zd ?_
    clear hT T
    refine zdn ?_
    refine zn ?_
    refine zfC ?_
    refine K.cutE (σ := LmB) [(3, _), (7, _), (10, _)] bySub (fun s kp_ => kp_) (fun s => wmH (setk X5 s.k) ++ (oH bE 5 m7.C o ++ ((b7, cells (wmL g long X5 kk) 99) :: (b3, cells [vc, .int .i64 page, vt, .int .i64 workers, .int .i64 grey, .int .i64 gens] 25) :: F))) (fun s => s.k.b = X5.k.b ∧ WmR w0 g long 3 (setk X5 s.k) ⟨W, s.m, kk⟩ ∧ Goes g long W (newM g nw true) s.m) ?_ ?_
    ·refine K.block ?_
     refine K.loopT (σ := LmB) [(2, _), (3, _), (7, _), (10, _)] (fun s kp_ => (14, .int .i64 (s.i : Nat)) :: kp_) (fun s => wmH (setk X5 s.k) ++ (oH bE 5 m7.C o ++ ((b7, cells (wmL g long X5 kk) 99) :: (b3, cells [vc, .int .i64 page, vt, .int .i64 workers, .int .i64 grey, .int .i64 gens] 25) :: F))) (fun s => s.i ≤ st.length ∧ s.k.b = X5.k.b ∧ WmR w0 g long 3 (setk X5 s.k) ⟨W, s.m, kk⟩ ∧ Goes g long W (newM g nw true) s.m) (fun s => st.length - s.i) (⟨0, k9, newM g nw true⟩) bySub byPart (⟨Nat.zero_le _, hb9, hXa, .refl⟩) ?_
     rintro ⟨i, k2, m2⟩ ⟨hi, hb2, hX2, hg2⟩
     dsimp only at hi hb2 hX2 hg2 ⊢
     by_cases hlt : i < st.length ∧ i < 100
     ·obtain ⟨h1, h2⟩ := hlt
      have h2' : ((i : Nat) : Int) < 100 := by omega
      obtain ⟨x, hx⟩ := get_of_lt h1
      have hxo := hmw x (List.mem_of_getElem? hx)
      have hst := fun A => mStep_K (F := A) (hd := x.i) (v := (x.u : Nat)) hG hX2 hb2 (by have := hxo.2; omega)
      unfold wmL
      refine zfl ?_
      refine zjB ?_
      refine zg0 ?_
      refine zgt ?_
      refine zhm ?_
      refine zgt ?_
      refine zjC ?_
      refine zax ?_
      refine zl fun T hT => ?_
      refine ze8 ?_
      rintro _ _ ⟨rfl, k3, hb3, hX3, rfl⟩
      refine zi ?_
      clear hT T
      refine zV ?_
      refine zbr ?_
      exact zkD
     ·by_cases h1 : i < st.length
      ·have h2 : ¬ ((i : Nat) : Int) < 100 := by omega
       clear hlt
       unfold wmL
       refine zeq ?_
       exact zgc
      ·clear hlt
       unfold wmL
       refine zer ?_
       exact zgc
    ·rintro ⟨_, ka, ma⟩ ⟨hba, hXb, hga⟩
     dsimp only at hba hXb hga ⊢
     have hgoa := goes_ok okg (new_ok (W := W) hlg.1 hnw8) hWw new_in hga
     have haa : ma.act = true := hgoa.act
     have hha : ma.hs.length = nw + 1 := hgoa.hs.trans (by simp [newM])
     unfold wmL
     refine zc1 ?_
     refine zbh fun T hT => ?_
     refine (CallV.part (CallV.fn (mStop_K hXb hba haa)) byPart).mono ?_
     rintro _ _ ⟨rfl, kb, hbb, hXc, rfl⟩
     refine zd ?_
     clear hT T
     refine zD ?_
     refine zu ?_
     refine zbS fun T hT => ?_
     refine (CallV.part (CallV.fn (mStart_K hXc hbb rfl (by decide))) byPart).mono ?_
     rintro _ _ ⟨rfl, kc, hbc, hXd, rfl⟩
     rw [start_of (m := { ma with act := false }) (nw := nw) hha] at hXd
     refine zd ?_
     clear hT T
     refine zdn ?_
     refine zn ?_
     refine zaW ?_
     refine zaE ?_
     refine K.loopT (σ := LmC) [(3, _), (7, _), (10, _)] (fun s kp_ => (15, .int .i64 (s.i : Nat)) :: kp_) (fun s => wmH (setk X5 kc) ++ (oH bE 5 m7.C o ++ ((b7, cells (wmL g long X5 kk) 99) :: (b3, cells [vc, .int .i64 page, vt, .int .i64 workers, .int .i64 grey, .int .i64 gens] 25) :: F))) (fun s => s.i ≤ nw + 1) (fun s => nw + 1 - s.i) (⟨0⟩) bySub byPart (Nat.zero_le _) ?_
     rintro ⟨j⟩ hj
     dsimp only at hj ⊢
     unfold wmL
     by_cases hjn : j ≤ nw
     ·have hjw : ((j : Nat) : Int) ≤ workers := by omega
      have hhn := fun A => mHand_K (F := A) (hd := ((j : Nat) : Int)) hXd hbc
      rw [hand_new] at hhn
      unfold hand0 at hhn
      dsimp only at hhn
      refine zv ?_
      refine zdc ?_
      refine zah ?_
      refine zev fun T hT => ?_
      refine (CallV.part (CallV.fn (hhn _)) byPart).mono ?_
      refine ze ?_
      clear hT T
      refine zcN ?_
      refine zav ?_
      refine za7 ?_
      refine zbr ?_
      exact KE.again ⟨j + 1⟩ bySub byPart (by show j + 1 ≤ nw + 1; omega) (by show nw + 1 - (j + 1) < nw + 1 - j; omega)
     ·have hjw : ¬ ((j : Nat) : Int) ≤ workers := by omega
      clear hj
      refine zv ?_
      refine zdc ?_
      refine zcq ?_
      refine zbO ?_
      refine zgY ?_
      refine zaE ?_
      refine K.loopT (σ := LmC) [(7, _), (10, _)] (fun s kp_ => (19, .int .i64 (s.i : Nat)) :: kp_) (fun s => wmH (setk X5 kc) ++ (oH bE 5 m7.C o ++ ((b7, cells (wmL g long X5 kk) 99) :: (b3, cells [vc, .int .i64 page, vt, .int .i64 workers, .int .i64 grey, .int .i64 gens] 25) :: F))) (fun s => s.i ≤ m7.C.length) (fun s => m7.C.length - s.i) (⟨0⟩) bySub byPart (Nat.zero_le _) ?_
      rintro ⟨j⟩ hj
      dsimp only at hj ⊢
      unfold wmL
      by_cases hjl : j < m7.C.length
      ·have hob : m7.C.length ≤ 4294967296 := by omega
       have hc0 : (newM g nw true).C[j]? = some 0 := C_new (by omega)
       refine zcx ?_
       refine zev fun T hT => ?_
       refine (CallV.part (CallV.fn (mOf_K hXd hbc hc0)) byPart).mono ?_
       refine ze ?_
       clear hT T
       refine zbv ?_
       refine zD ?_
       refine za7 ?_
       refine zbr ?_
       exact KE.again ⟨j + 1⟩ bySub byPart hjl (by show m7.C.length - (j + 1) < m7.C.length - j; omega)
      ·refine zhP ?_
       refine zj ?_
       refine za6 ?_
       refine zR ?_
       refine zbO ?_
       refine zgY ?_
       refine zp fun T hT => ?_
       refine (CallV.part (CallV.fn (finish_K hG hXd hbc rfl hl1)) byPart).mono ?_
       rintro _ _ ⟨rfl, ke, me, hbe, hge, hde, hXe, rfl⟩
       clear hj hjl
       refine zd ?_
       clear hT T
       refine zdV ?_
       refine zaE ?_
       refine K.loopT (σ := LmC) [(7, _), (10, _)] (fun s kp_ => (22, .int .i64 (s.i : Nat)) :: kp_) (fun s => wmH (setk X5 ke) ++ (oH bE 5 m7.C o ++ ((b7, cells (wmL g long X5 kk) 99) :: (b3, cells [vc, .int .i64 page, vt, .int .i64 workers, .int .i64 grey, .int .i64 gens] 25) :: F))) (fun s => s.i ≤ m7.C.length) (fun s => m7.C.length - s.i) (⟨0⟩) bySub byPart (Nat.zero_le _) ?_
       rintro ⟨j⟩ hj
       dsimp only at hj ⊢
       unfold wmL
       by_cases hjl : j < m7.C.length
       ·have hob : m7.C.length ≤ 4294967296 := by omega
        obtain ⟨c, hc⟩ := get_of_lt hjl
        have hc' : me.C[j]? = some c := (same_all okg hWw hlg.1 hnw8 hnw8 hge hde hg7 hd7 (by omega)).trans hc
        refine zcx ?_
        refine zev fun T hT => ?_
        refine (CallV.part (CallV.fn (mOf_K hXe hbe hc')) byPart).mono ?_
        refine ze ?_
        clear hT T
        refine zbw ?_
        refine zbI ?_
        refine zdQ ?_
        refine zD ?_
        refine za7 ?_
        refine zbr ?_
        exact KE.again ⟨j + 1⟩ bySub byPart hjl (by show m7.C.length - (j + 1) < m7.C.length - j; omega)
       ·refine zhP ?_
        refine zj ?_
        refine za6 ?_
        refine zfp ?_
        refine zg fun T hT => ?_
        refine zdb ?_
        rintro _ _ ⟨rfl, rfl⟩
        refine zd ?_
        clear hT T
        exact zw
end Go.Proofs.YtalholahapcpkaaGreatDoor.Sw
