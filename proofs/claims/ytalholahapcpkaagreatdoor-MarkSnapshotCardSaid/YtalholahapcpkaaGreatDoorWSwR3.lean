/- Mark: what could be reached at Start is black at last. -/
import Derived.Test.YtalholahapcpkaaGreatDoorD1
import Derived.Test.YtalholahapcpkaaGreatDoorJ33
import Derived.Test.YtalholahapcpkaaGreatDoorJ34
namespace Go.Proofs.YtalholahapcpkaaGreatDoor.Sw
open Go.RowKit
set_option linter.unusedVariables false
set_option linter.unusedSimpArgs false
set_option maxRecDepth 10000
set_option maxHeartbeats 16000000 in
theorem markSnapshot_K {w0 : World} {F : Heap} {c : Cfg} {vc vt vl vm : Value} {l st : List MActP} (hG : Glob w0) (hR : CfgR w0 F c vc vt) (hC : Sli w0 [] iE vc c.cl) (hvc : vc.oneCell' = true) (hl : Sli w0 F mactE vl l) (hlw : ∀ x ∈ l, x.ok) (hm : Sli w0 F mactE vm st) (hmw : ∀ x ∈ st, x.ok) :
  Call Tryz.prog w0 9 [cfgV c vc vt, vl, vm] F (fun r H' => r = .bool true ∧ H' = F) := by
 obtain ⟨okk, hokk⟩ : ∃ okk, okM c = okk := ⟨_, rfl⟩
 have hawake := fun A => mawake_K (w0 := w0) (F := A) hG
 cases okk with
 | false =>
  have hno := fun A (hp : Part A F) => mmade_no (hR.part hp) hokk
  obtain ⟨cl, page, tn, workers, grey, gens⟩ := c
  simp only [cfgV, cfgL] at hno ⊢
  unfold wm0 at hno
  refine Call.enter3 (n := 108) (by kernel_rfl) Tryz.func9 rfl rfl rfl ?_
  refine zW ?_; intro b3
  refine zp fun T hT => ?_
  refine zg2 ?_
  rintro _ _ ⟨rfl, rfl⟩
  refine zd ?_
  clear hT T
  refine zao ?_; intro b7
  refine zat ?_
  refine zg fun T hT => ?_
  refine zdb ?_
  rintro _ _ ⟨rfl, rfl⟩
  refine zd ?_
  clear hT T
  exact zar
 | true =>
  obtain ⟨g, long, nw, S0, hS0, hk0, hnw, hnw8, -, hmade⟩ := mmade_any hG hR hokk hC hvc
  obtain ⟨cl, page, tn, workers, grey, gens⟩ := c
  simp only [cfgV, cfgL] at hmade ⊢
  dsimp only at hnw
  clear hokk hR
  refine Call.enter3 (n := 108) (by kernel_rfl) Tryz.func9 rfl rfl rfl ?_
  refine zW ?_; intro b3
  refine zp fun T hT => ?_
  refine zg3 ?_
  rintro _ _ ⟨X, hX, rfl, rfl⟩
  obtain ⟨q1, q2, q3, q4, q5, q6, q7, q8, q9, r1, r2, r3⟩ := hX.o
  have ha0 : S0.m.act = false := by rw [hS0]; rfl
  have hlg := hX.lg
  have okg := hX.okg
  unfold wmL
  refine zd ?_
  clear hT T
  refine zao ?_; intro b7
  refine zF ?_
  refine zfC ?_
  refine K.cutE (σ := LmA) [(2, _), (7, _)] bySub (fun s kp_ => kp_) (fun s => wmH s.X ++ ((b7, cells (wmL g long s.X s.S.k) 99) :: F)) (fun s => WmR w0 g long 1 s.X s.S ∧ s.S.m = newM g nw false ∧ s.S.k = s.S.m) ?_ ?_
  ·refine K.block ?_
   refine zkC ?_
   rintro ⟨i, X1, S1⟩ ⟨hi, hX1, hm1, hk1⟩
   dsimp only at hi hX1 hm1 hk1 ⊢
   clear q1 q2 q3 q4 q5 q6 q7 q8 q9 r1 r2 r3
   obtain ⟨q1, q2, q3, q4, q5, q6, q7, q8, q9, r1, r2, r3⟩ := hX1.o
   have ha1 : S1.m.act = false := by rw [hm1]; rfl
   by_cases hlt : i < l.length ∧ i < 60
   ·obtain ⟨h1, h2⟩ := hlt
    have h2' : ((i : Nat) : Int) < 60 := by omega
    obtain ⟨x, hx⟩ := get_of_lt h1
    have hxo := hlw x (List.mem_of_getElem? hx)
    have hdoes := fun A => mdoes_K (w0 := w0) (F := A) hG hX1 hxo.1 hxo.2
    unfold WmD at hdoes
    obtain ⟨S2, hS2⟩ : ∃ S2, actS2 g long S1 x = S2 := ⟨_, rfl⟩
    have hm2 : S2.m = newM g nw false := by rw [← hS2, act_idle ha1]; exact hm1
    have hk2 : S2.k = S2.m := by rw [← hS2]; exact act_same hk1
    have hbb : (actB g long S1.W S1.m x == actB g long S1.W S1.k x) = true := by rw [hk1]; exact beq_b _
    simp only [hS2, hbb] at hdoes
    clear hS2 hbb
    unfold wmL
    refine zfl ?_
    refine zhE ?_
    refine zgu ?_
    refine zfz fun T hT => ?_
    refine zg4 ?_
    rintro _ _ ⟨X2, hX2, rfl, rfl⟩
    clear q1 q2 q3 q4 q5 q6 q7 q8 q9 r1 r2 r3
    obtain ⟨q1, q2, q3, q4, q5, q6, q7, q8, q9, r1, r2, r3⟩ := hX2.o
    unfold wmL
    refine zi ?_
    clear hT T
    refine zb7 ?_
    refine zde ?_
    refine zbr ?_
    exact zjA
   ·by_cases h1 : i < l.length
    ·have h2 : ¬ ((i : Nat) : Int) < 60 := by omega
     clear hlt
     unfold wmL
     refine zeq ?_
     exact zgb
    ·clear hlt
     unfold wmL
     refine zer ?_
     exact zgb
  ·rintro ⟨_, X5, S5⟩ ⟨hX5, hm5, hk5⟩
   dsimp only at hX5 hm5 hk5 ⊢
   obtain ⟨W, m5, kk⟩ := S5
   dsimp only at hm5 hk5 hX5 ⊢
   subst hm5
   clear hX q1 q2 q3 q4 q5 q6 q7 q8 q9 r1 r2 r3 hmade ha0 hS0 hk0
   obtain ⟨q1, q2, q3, q4, q5, q6, q7, q8, q9, r1, r2, r3⟩ := hX5.o
   have hX6 : WmR w0 g long 1 (setk X5 X5.k) ⟨W, newM g nw false, kk⟩ := hX5
   have hWw : MwOk g W := hX5.W.w
   have hreach := fun A => mReach_K (F := A) hX5
   unfold kwL at hreach
   unfold wmL
   refine zq ?_
   refine zZ ?_
   refine zp fun T hT => ?_
   refine (CallV.part (CallV.fn (hreach _)) byPart).mono ?_
   rintro _ _ ⟨out, o, hol, hoR, koo, rfl, rfl⟩
   dsimp only at hoR
   rw [show wmH X5 = wmH (setk X5 X5.k) from rfl]
   refine zd ?_
   clear hT T
   refine zal ?_
   refine zbh fun T hT => ?_
   refine ziu ?_
   rintro _ _ ⟨rfl, k1, hb1, hX1, rfl⟩
   rw [start_new] at hX1
   refine zd ?_
   clear hT T
   rw [← hb1]
   refine zD ?_
   refine zfC ?_
   refine K.cutE (σ := LmA) [(7, _), (10, _)] bySub (fun s kp_ => kp_) (fun s => wmH s.X ++ (oH boE 4 out o ++ ((b7, cells (wmL g long s.X s.S.k) 99) :: F))) (fun s => WmR w0 g long 2 s.X s.S ∧ SnIn g W s.S.W (newM g nw true) s.S.m) ?_ ?_
   ·refine K.block ?_
    refine K.loopT (σ := LmA) [(2, _), (7, _), (10, _)] (fun s kp_ => (11, .int .i64 (s.i : Nat)) :: kp_) (fun s => wmH s.X ++ (oH boE 4 out o ++ ((b7, cells (wmL g long s.X s.S.k) 99) :: F))) (fun s => s.i ≤ st.length ∧ WmR w0 g long 2 s.X s.S ∧ SnIn g W s.S.W (newM g nw true) s.S.m) (fun s => st.length - s.i) (⟨0, setk X5 k1, ⟨W, newM g nw true, kk⟩⟩) bySub byPart (⟨Nat.zero_le _, hX1, SnIn.new okg⟩) ?_
    rintro ⟨i, Xa, Sa⟩ ⟨hi, hXa, hsa⟩
    dsimp only at hi hXa hsa ⊢
    clear q1 q2 q3 q4 q5 q6 q7 q8 q9 r1 r2 r3
    obtain ⟨q1, q2, q3, q4, q5, q6, q7, q8, q9, r1, r2, r3⟩ := hXa.o
    by_cases hlt : i < st.length ∧ i < 100
    ·obtain ⟨h1, h2⟩ := hlt
     have h2' : ((i : Nat) : Int) < 100 := by omega
     obtain ⟨x, hx⟩ := get_of_lt h1
     have hxo := hmw x (List.mem_of_getElem? hx)
     by_cases hw2 : x.w % 10 < 2
     ·have hw3 : ((x.w : Nat) : Int) % 10 < 2 := by omega
      unfold wmL
      refine zkS ?_
      refine zjw ?_
      refine zj ?_
      refine zc4 ?_
      refine zhO ?_
      refine zkA ?_
      refine zE ?_
      refine zfW ?_
      refine zjE ?_
      refine ziL ?_
      refine zhR ?_
      refine zf ?_
      refine zlT ?_
      exact KE.again ⟨i + 1, Xa, Sa⟩ bySub byPart ⟨h1, hXa, hsa⟩ (by show st.length - (i + 1) < st.length - i; omega)
     ·have hw3 : ¬ ((x.w : Nat) : Int) % 10 < 2 := by omega
      have hdoes := fun A => mdoes_K (w0 := w0) (F := A) hG hXa hxo.1 hxo.2
      unfold WmD at hdoes
      have hs2 : SnIn g W (actS2 g long Sa x).W (newM g nw true) (actS2 g long Sa x).m := hsa.next okg hXa.m hXa.W.w hw2
      obtain ⟨S2, hS2⟩ : ∃ S2, actS2 g long Sa x = S2 := ⟨_, rfl⟩
      obtain ⟨bb, hbb⟩ : ∃ bb, (actB g long Sa.W Sa.m x == actB g long Sa.W Sa.k x) = bb := ⟨_, rfl⟩
      rw [hS2] at hs2
      simp only [hS2, hbb] at hdoes
      clear hS2 hbb
      unfold wmL
      refine zkS ?_
      refine zjw ?_
      refine zj ?_
      refine zc4 ?_
      refine zhO ?_
      refine zkA ?_
      refine zR ?_
      refine zd9 ?_
      refine zak ?_
      refine zhE ?_
      refine zgu ?_
      refine zfz fun T hT => ?_
      refine zg4 ?_
      rintro _ _ ⟨X2, hX2, rfl, rfl⟩
      clear q1 q2 q3 q4 q5 q6 q7 q8 q9 r1 r2 r3
      obtain ⟨q1, q2, q3, q4, q5, q6, q7, q8, q9, r1, r2, r3⟩ := hX2.o
      unfold wmL
      refine zi ?_
      clear hT T
      refine zb7 ?_
      refine zde ?_
      refine zbr ?_
      exact KE.again ⟨i + 1, X2, S2⟩ bySub byPart ⟨h1, hX2, hs2⟩ (by show st.length - (i + 1) < st.length - i; omega)
    ·by_cases h1 : i < st.length
     ·have h2 : ¬ ((i : Nat) : Int) < 100 := by omega
      clear hlt
      unfold wmL
      refine zeq ?_
      exact KE.meet ⟨0, Xa, Sa⟩ bySub byPart ⟨hXa, hsa⟩
     ·clear hlt
      unfold wmL
      refine zer ?_
      exact KE.meet ⟨0, Xa, Sa⟩ bySub byPart ⟨hXa, hsa⟩
   ·rintro ⟨_, Xa, Sa⟩ ⟨hXa, hsa⟩
    dsimp only at hXa hsa ⊢
    obtain ⟨Wa, ma, ka⟩ := Sa
    dsimp only at hXa hsa ⊢
    clear q1 q2 q3 q4 q5 q6 q7 q8 q9 r1 r2 r3
    obtain ⟨q1, q2, q3, q4, q5, q6, q7, q8, q9, r1, r2, r3⟩ := hXa.o
    have hXb : WmR w0 g long 2 (setk Xa Xa.k) ⟨Wa, ma, ka⟩ := hXa
    rw [show wmH Xa = wmH (setk Xa Xa.k) from rfl]
    unfold wmL
    refine zc1 ?_
    refine zp fun T hT => ?_
    refine (CallV.part (CallV.fn (finish_K hG hXb rfl hsa.act hsa.left)) byPart).mono ?_
    rintro _ _ ⟨rfl, k7, m7, hb7, hg7, hd7, hX8, rfl⟩
    obtain ⟨z1, z2, z3⟩ := hsa.goes okg hXa.m hXa.W.w hg7
    refine zd ?_
    clear hT T
    refine zdV ?_
    refine zaE ?_
    refine K.loopT (σ := LmC) [(7, _), (10, _)] (fun s kp_ => (12, .int .i64 (s.i : Nat)) :: kp_) (fun s => wmH (setk Xa k7) ++ (oH boE 4 out o ++ ((b7, cells (wmL g long Xa ka) 99) :: F))) (fun s => s.i ≤ out.length) (fun s => out.length - s.i) (⟨0⟩) bySub byPart (Nat.zero_le _) ?_
    rintro ⟨j⟩ hj
    dsimp only at hj ⊢
    unfold wmL
    by_cases hjl : j < out.length
    ·have hjs : j < g.slots := by omega
     have hob : out.length ≤ 4294967296 := by have := okg.slots; omega
     obtain ⟨e1, e2⟩ := snap_all hWw z1 z2 z3 hd7 hjs
     have hr := hoR j hjs
     obtain ⟨b, hb⟩ := get_of_lt hjl
     cases b with
     | true =>
      have e3 := e1 (hr.1 hb)
      refine zcx ?_
      refine zev fun T hT => ?_
      refine (CallV.part (CallV.fn (mOf_K hX8 hb7 e3)) byPart).mono ?_
      refine ze ?_
      clear hT T
      refine zbv ?_
      refine zeu ?_
      refine zen ?_
      refine zch ?_
      refine zD ?_
      refine zci ?_
      refine zba ?_
      refine zH ?_
      refine zce ?_
      refine zbr ?_
      exact zjD
     | false =>
      obtain ⟨c, hc⟩ := C_at z1 hjs
      have hc1 : ¬ c = 1 := fun h => e2 (by rw [hc, h])
      refine zcx ?_
      refine zev fun T hT => ?_
      refine zkE ?_
      refine ze ?_
      clear hT T
      refine zbv ?_
      refine zeu ?_
      refine zen ?_
      refine zfk ?_
      refine zba ?_
      refine zH ?_
      refine zce ?_
      refine zbr ?_
      exact zjD
    ·refine zhP ?_
     refine zj ?_
     refine za6 ?_
     refine zfp ?_
     refine zg fun T hT => ?_
     refine zdb ?_
     rintro _ _ ⟨rfl, rfl⟩
     refine zd ?_
     clear hT T
     exact zw
end Go.Proofs.YtalholahapcpkaaGreatDoor.Sw
