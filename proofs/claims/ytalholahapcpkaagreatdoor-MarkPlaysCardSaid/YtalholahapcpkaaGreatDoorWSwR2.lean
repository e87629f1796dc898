/- Mark: a marker does what the document says. -/
import Derived.Test.YtalholahapcpkaaGreatDoorD1
import Derived.Test.YtalholahapcpkaaGreatDoorJ33
import Derived.Test.YtalholahapcpkaaGreatDoorJ34
namespace Go.Proofs.YtalholahapcpkaaGreatDoor.Sw
open Go.RowKit
set_option linter.unusedVariables false
set_option linter.unusedSimpArgs false
set_option maxRecDepth 10000
set_option maxHeartbeats 16000000 in
theorem markPlays_K {w0 : World} {F : Heap} {c : Cfg} {vc vt vl vm : Value} {l st : List MActP} (hG : Glob w0) (hR : CfgR w0 F c vc vt) (hC : Sli w0 [] iE vc c.cl) (hvc : vc.oneCell' = true) (hl : Sli w0 F mactE vl l) (hlw : ∀ x ∈ l, x.ok) (hm : Sli w0 F mactE vm st) (hmw : ∀ x ∈ st, x.ok) :
  Call Tryz.prog w0 8 [cfgV c vc vt, vl, vm] F (fun r H' => r = .bool true ∧ H' = F) := by
 obtain ⟨okk, hokk⟩ : ∃ okk, okM c = okk := ⟨_, rfl⟩
 have hawake := fun A => mawake_K (w0 := w0) (F := A) hG
 cases okk with
 | false =>
  have hno := fun A (hp : Part A F) => mmade_no (hR.part hp) hokk
  obtain ⟨cl, page, tn, workers, grey, gens⟩ := c
  simp only [cfgV, cfgL] at hno ⊢
  unfold wm0 at hno
  refine Call.enter3 (n := 87) (by kernel_rfl) Tryz.func8 rfl rfl rfl ?_
  refine zW ?_; intro b3
  refine zp fun T hT => ?_
  refine zg2 ?_
  rintro _ _ ⟨rfl, rfl⟩
  refine zd ?_
  clear hT T
  refine zao ?_; intro b7
  refine zat ?_
  refine zg fun T hT => ?_
  refine zdb ?_
  rintro _ _ ⟨rfl, rfl⟩
  refine zd ?_
  clear hT T
  exact zar
 | true =>
  obtain ⟨g, long, nw, S0, hS0, hk0, hnw, hnw8, -, hmade⟩ := mmade_any hG hR hokk hC hvc
  obtain ⟨cl, page, tn, workers, grey, gens⟩ := c
  simp only [cfgV, cfgL] at hmade ⊢
  dsimp only at hnw
  clear hokk hR
  refine Call.enter3 (n := 87) (by kernel_rfl) Tryz.func8 rfl rfl rfl ?_
  refine zW ?_; intro b3
  refine zp fun T hT => ?_
  refine zg3 ?_
  rintro _ _ ⟨X, hX, rfl, rfl⟩
  obtain ⟨q1, q2, q3, q4, q5, q6, q7, q8, q9, r1, r2, r3⟩ := hX.o
  have ha0 : S0.m.act = false := by rw [hS0]; rfl
  have hlg := hX.lg
  have okg := hX.okg
  unfold wmL
  refine zd ?_
  clear hT T
  refine zao ?_; intro b7
  refine zF ?_
  refine zfC ?_
  refine K.cutE (σ := LmA) [(2, _), (7, _)] bySub (fun s kp_ => kp_) (fun s => wmH s.X ++ ((b7, cells (wmL g long s.X s.S.k) 99) :: F)) (fun s => WmR w0 g long 1 s.X s.S ∧ s.S.m = newM g nw false ∧ s.S.k = s.S.m) ?_ ?_
  ·refine K.block ?_
   refine zkC ?_
   rintro ⟨i, X1, S1⟩ ⟨hi, hX1, hm1, hk1⟩
   dsimp only at hi hX1 hm1 hk1 ⊢
   clear q1 q2 q3 q4 q5 q6 q7 q8 q9 r1 r2 r3
   obtain ⟨q1, q2, q3, q4, q5, q6, q7, q8, q9, r1, r2, r3⟩ := hX1.o
   have ha1 : S1.m.act = false := by rw [hm1]; rfl
   by_cases hlt : i < l.length ∧ i < 40
   ·obtain ⟨h1, h2⟩ := hlt
    have h2' : ((i : Nat) : Int) < 40 := by omega
    obtain ⟨x, hx⟩ := get_of_lt h1
    have hxo := hlw x (List.mem_of_getElem? hx)
    have hdoes := fun A => mdoes_K (w0 := w0) (F := A) hG hX1 hxo.1 hxo.2
    unfold WmD at hdoes
    obtain ⟨S2, hS2⟩ : ∃ S2, actS2 g long S1 x = S2 := ⟨_, rfl⟩
    have hm2 : S2.m = newM g nw false := by rw [← hS2, act_idle ha1]; exact hm1
    have hk2 : S2.k = S2.m := by rw [← hS2]; exact act_same hk1
    have hbb : (actB g long S1.W S1.m x == actB g long S1.W S1.k x) = true := by rw [hk1]; exact beq_b _
    simp only [hS2, hbb] at hdoes
    clear hS2 hbb
    unfold wmL
    refine zfl ?_
    refine zlQ ?_
    refine zgu ?_
    refine zfz fun T hT => ?_
    refine zg4 ?_
    rintro _ _ ⟨X2, hX2, rfl, rfl⟩
    clear q1 q2 q3 q4 q5 q6 q7 q8 q9 r1 r2 r3
    obtain ⟨q1, q2, q3, q4, q5, q6, q7, q8, q9, r1, r2, r3⟩ := hX2.o
    unfold wmL
    refine zi ?_
    clear hT T
    refine zb7 ?_
    refine zdl ?_
    refine zd0 ?_
    refine zF ?_
    refine za7 ?_
    refine zbr ?_
    exact zjA
   ·by_cases h1 : i < l.length
    ·have h2 : ¬ ((i : Nat) : Int) < 40 := by omega
     clear hlt
     unfold wmL
     refine zeq ?_
     exact zgb
    ·clear hlt
     unfold wmL
     refine zer ?_
     exact zgb
  ·rintro ⟨_, X5, S5⟩ ⟨hX5, hm5, hk5⟩
   dsimp only at hX5 hm5 hk5 ⊢
   obtain ⟨W, m5, kk⟩ := S5
   dsimp only at hm5 hk5 hX5 ⊢
   subst hm5
   clear hX q1 q2 q3 q4 q5 q6 q7 q8 q9 r1 r2 r3 hmade ha0 hS0 hk0
   obtain ⟨q1, q2, q3, q4, q5, q6, q7, q8, q9, r1, r2, r3⟩ := hX5.o
   have hX6 : WmR w0 g long 1 (setk X5 X5.k) ⟨W, newM g nw false, kk⟩ := hX5
   have hWw : MwOk g W := hX5.W.w
   rw [show wmH X5 = wmH (setk X5 X5.k) from rfl]
   unfold wmL
   refine zc1 ?_
   refine zbh fun T hT => ?_
   refine ziu ?_
   rintro _ _ ⟨rfl, k1, hb1, hX1, rfl⟩
   rw [start_new] at hX1
   refine zd ?_
   clear hT T
   refine zD ?_
   refine zu ?_
   refine zbS fun T hT => ?_
   refine (CallV.part (CallV.fn (mStart_E hX1 hb1 rfl)) byPart).mono ?_
   refine zS ?_
   have hks := fun A => mKStart_K (F := A) hX1
   unfold kmL kwL at hks
   refine zd ?_
   clear hT T
   refine zdn ?_
   refine zan ?_
   refine zaZ ?_
   refine zB ?_
   refine zZ ?_
   refine zp fun T hT => ?_
   refine (CallV.part (CallV.fn (hks _)) byPart).mono ?_
   rintro _ _ ⟨q', N, hX7, rfl, rfl⟩
   have p1 := hX7.K.oc
   have p2 := hX7.K.G.o1
   have p3 := hX7.K.G.o2
   have p4 := hX7.K.G.o3
   have p5 := hX7.K.oh
   rw [hk5, start_new] at hX7
   rw [hk5, start_new]
   rw [← hb1]
   refine zd ?_
   clear hT T
   refine zaZ ?_
   refine z9 ?_
   refine zb9 ?_
   refine zau ?_
   refine za0 ?_
   refine K.cutE (σ := LmA) [(7, _)] bySub (fun s kp_ => kp_) (fun s => wmH s.X ++ ((b7, cells (wmL g long s.X s.S.k) 99) :: F)) (fun s => WmR w0 g long 2 s.X s.S ∧ s.S.k = s.S.m) ?_ ?_
   ·refine K.block ?_
    refine K.loopT (σ := LmA) [(2, _), (7, _)] (fun s kp_ => (10, .int .i64 (s.i : Nat)) :: kp_) (fun s => wmH s.X ++ ((b7, cells (wmL g long s.X s.S.k) 99) :: F)) (fun s => s.i ≤ st.length ∧ WmR w0 g long 2 s.X s.S ∧ s.S.k = s.S.m) (fun s => st.length - s.i) (⟨0, _, _⟩) bySub byPart (⟨Nat.zero_le _, hX7, rfl⟩) ?_
    rintro ⟨i, Xa, Sa⟩ ⟨hi, hXa, hka⟩
    dsimp only at hi hXa hka ⊢
    clear q1 q2 q3 q4 q5 q6 q7 q8 q9 r1 r2 r3
    obtain ⟨q1, q2, q3, q4, q5, q6, q7, q8, q9, r1, r2, r3⟩ := hXa.o
    by_cases hlt : i < st.length ∧ i < 40
    ·obtain ⟨h1, h2⟩ := hlt
     have h2' : ((i : Nat) : Int) < 40 := by omega
     obtain ⟨x, hx⟩ := get_of_lt h1
     have hxo := hmw x (List.mem_of_getElem? hx)
     have hdoes := fun A => mdoes_K (w0 := w0) (F := A) hG hXa hxo.1 hxo.2
     unfold WmD at hdoes
     obtain ⟨S2, hS2⟩ : ∃ S2, actS2 g long Sa x = S2 := ⟨_, rfl⟩
     have hk2 : S2.k = S2.m := by rw [← hS2]; exact act_same hka
     have hbb : (actB g long Sa.W Sa.m x == actB g long Sa.W Sa.k x) = true := by rw [hka]; exact beq_b _
     simp only [hS2, hbb] at hdoes
     clear hS2 hbb
     unfold wmL
     refine zfl ?_
     refine zlQ ?_
     refine zgu ?_
     refine zfz fun T hT => ?_
     refine zg4 ?_
     rintro _ _ ⟨X2, hX2, rfl, rfl⟩
     clear q1 q2 q3 q4 q5 q6 q7 q8 q9 r1 r2 r3
     obtain ⟨q1, q2, q3, q4, q5, q6, q7, q8, q9, r1, r2, r3⟩ := hX2.o
     unfold wmL
     refine zi ?_
     clear hT T
     refine zb7 ?_
     refine zdl ?_
     refine zd0 ?_
     refine zF ?_
     refine zu ?_
     refine zcm fun T hT => ?_
     refine (CallV.part (CallV.fn (msame_E hG hX2 hk2)) byPart).mono ?_
     refine ze ?_
     clear hT T
     refine zbQ ?_
     refine zce ?_
     refine zbr ?_
     exact KE.again ⟨i + 1, X2, S2⟩ bySub byPart ⟨h1, hX2, hk2⟩ (by show st.length - (i + 1) < st.length - i; omega)
    ·by_cases h1 : i < st.length
     ·have h2 : ¬ ((i : Nat) : Int) < 40 := by omega
      clear hlt
      unfold wmL
      refine zeq ?_
      exact KE.meet ⟨0, Xa, Sa⟩ bySub byPart ⟨hXa, hka⟩
     ·clear hlt
      unfold wmL
      refine zer ?_
      exact KE.meet ⟨0, Xa, Sa⟩ bySub byPart ⟨hXa, hka⟩
   ·rintro ⟨_, Xa, Sa⟩ ⟨hXa, hka⟩
    dsimp only at hXa hka ⊢
    clear q1 q2 q3 q4 q5 q6 q7 q8 q9 r1 r2 r3
    obtain ⟨q1, q2, q3, q4, q5, q6, q7, q8, q9, r1, r2, r3⟩ := hXa.o
    unfold wmL
    refine zq ?_
    refine zp fun T hT => ?_
    refine (CallV.part (CallV.fn (msame_E hG hXa hka)) byPart).mono ?_
    refine ze ?_
    clear hT T
    refine zu ?_
    refine zg fun T hT => ?_
    refine zdb ?_
    rintro _ _ ⟨rfl, rfl⟩
    refine zd ?_
    clear hT T
    exact zb6
end Go.Proofs.YtalholahapcpkaaGreatDoor.Sw
