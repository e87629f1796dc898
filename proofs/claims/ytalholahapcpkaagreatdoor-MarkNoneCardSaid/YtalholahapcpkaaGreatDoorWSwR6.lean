/- Mark: no marker. -/
import Derived.Test.YtalholahapcpkaaGreatDoorD1
import Derived.Test.YtalholahapcpkaaGreatDoorJ33
import Derived.Test.YtalholahapcpkaaGreatDoorJ34
namespace Go.Proofs.YtalholahapcpkaaGreatDoor.Sw
open Go.RowKit
set_option linter.unusedVariables false
set_option linter.unusedSimpArgs false
set_option maxRecDepth 10000
set_option maxHeartbeats 16000000 in
theorem markNone_K {w0 : World} {F : Heap} {c : Cfg} {vc vt : Value} {x : MActP} (hG : Glob w0) (hR : CfgR w0 F c vc vt) (hC : Sli w0 [] iE vc c.cl) (hvc : vc.oneCell' = true) (hxo : x.ok) :
  Call Tryz.prog w0 7 [cfgV c vc vt, .agg (mactL x).toArray] F (fun r H' => r = .bool true ∧ H' = F) := by
 obtain ⟨okk, hokk⟩ : ∃ okk, okM c = okk := ⟨_, rfl⟩
 have hawake := fun A => mawake_K (w0 := w0) (F := A) hG
 obtain ⟨xw, xs, xi, xt, xr, xu⟩ := x
 have hxu : xu < 256 := hxo.2
 unfold mactL
 dsimp only
 cases okk with
 | false =>
  have hno := fun A (hp : Part A F) => mmade_no (hR.part hp) hokk
  obtain ⟨cl, page, tn, workers, grey, gens⟩ := c
  simp only [cfgV, cfgL] at hno ⊢
  unfold wm0 at hno
  refine Call.enter2 (n := 257) (by kernel_rfl) Tryz.func7 rfl rfl rfl ?_
  refine zb3 ?_; intro b2 b3
  refine zcB fun T hT => ?_
  refine zg2 ?_
  rintro _ _ ⟨rfl, rfl⟩
  refine zd ?_
  clear hT T
  refine zao ?_; intro b5
  refine zat ?_
  refine zg fun T hT => ?_
  refine zdb ?_
  rintro _ _ ⟨rfl, rfl⟩
  refine zd ?_
  clear hT T
  exact zar
 | true =>
  have ht : thereP c 0 0 = true := by
   unfold okM okC at hokk
   simp only [Bool.and_eq_true, decide_eq_true_eq] at hokk
   have hcfg := cfg_ok hokk.1.2.2
   exact there_of (i := 0) (j := 0) hokk.1.2.2 (by have := hcfg.tn; omega) (by have := hcfg.cl; omega)
  obtain ⟨g, long, nw, S0, hS0, hk0, hnw, hnw8, hgc, hmade⟩ := mmade_any hG hR hokk hC hvc
  have hpn : ∀ A, Part A F → Call Tryz.prog w0 22 [cfgV c vc vt, .int .i64 0] A (fun r H' => ∃ p : PlanM, PlanOk p ∧ p.g = g ∧ r = .tuple [.pointer (some ⟨p.b, 0, none⟩), .int .i64 0].toArray ∧ H' = planH p ++ A) := fun A hp =>
   (pNew_K (t := 0) (hR.part hp) ht).mono (by rintro _ _ ⟨p, h1, hpg, h2, h3⟩; exact ⟨p, h1, hpg.trans hgc.symm, h2, h3⟩)
  clear ht hgc
  obtain ⟨cl, page, tn, workers, grey, gens⟩ := c
  simp only [cfgV, cfgL] at hmade hpn ⊢
  dsimp only at hnw
  clear hokk hR
  refine Call.enter2 (n := 257) (by kernel_rfl) Tryz.func7 rfl rfl rfl ?_
  refine zb3 ?_; intro b2 b3
  refine zcB fun T hT => ?_
  refine zg3 ?_
  rintro _ _ ⟨X, hX, rfl, rfl⟩
  obtain ⟨q1, q2, q3, q4, q5, q6, q7, q8, q9, r1, r2, r3⟩ := hX.o
  have ha0 : S0.m.act = false := by rw [hS0]; rfl
  have hC0 : S0.m.C = List.replicate g.slots 0 := by rw [hS0]; rfl
  clear hmade
  unfold wmL
  refine zd ?_
  clear hT T
  refine zao ?_; intro b5
  refine zaG ?_
  refine zp fun T hT => ?_
  refine (CallV.fn (hpn _ byPart)).mono ?_
  rintro _ _ ⟨p, okp, hpg, rfl, rfl⟩
  have hq := hX.q
  have c1 := fun A => newm_b (w0 := w0) (F := A) (p := p) (X := X) (wk := 0) (lg := 1)
  have c2 := fun A => newm_p (w0 := w0) (F := A) (wk := 0) (lg := 1) hG hq okp
  have c3 := fun A => newm_t (w0 := w0) (F := A) (wk := 0) (lg := 1) hG hq okp
  have c4 := fun A => newm_n (w0 := w0) (F := A) (wk := 0) (lg := 1) hG hq okp
  have c5 := fun A => newm_K (w0 := w0) (F := A) (wk := xt) (lg := xr) hG hq okp hpg
  have hX6 : WmR w0 g long 1 (setk X X.k) S0 := hX
  refine zd ?_
  clear hT T
  refine zbv ?_
  refine zd2 ?_
  refine zg fun T hT => ?_
  refine (CallV.fn (c1 _)).mono ?_
  rintro _ _ ⟨rfl, rfl⟩
  refine zd ?_
  clear hT T
  refine zbw ?_
  refine zJ ?_
  refine zd2 ?_
  refine zg fun T hT => ?_
  refine (CallV.part (CallV.fn (c2 _)) byPart).mono ?_
  refine ze ?_
  clear hT T
  refine zbw ?_
  refine zbJ ?_
  refine zas ?_
  refine zg fun T hT => ?_
  refine (CallV.part (CallV.fn (c3 _)) byPart).mono ?_
  refine ze ?_
  clear hT T
  refine zbw ?_
  refine zbJ ?_
  refine zcf fun T hT => ?_
  refine (CallV.part (CallV.fn (c4 _)) byPart).mono ?_
  refine ze ?_
  clear hT T
  refine zgD ?_
  refine K.drawn [] [(0, 0), (1, 0), (2, 0), (3, 0), (4, 0), (5, 0)] (by kernel_rfl) (by kernel_rfl) (by kernel_rfl) (by kernel_rfl) (by kernel_rfl) (by kernel_rfl) Part.nil ?_
  refine zfF ?_
  refine zdJ ?_
  refine zx ?_
  refine zaw ?_
  refine zbm ?_
  refine zaN ?_
  refine zbJ ?_
  refine zU ?_
  refine za8 ?_
  refine zbo ?_
  refine zh fun T hT => ?_
  refine (CallV.part (CallV.fn (c5 _)) byPart).mono ?_
  rintro _ _ ⟨v, e, Dn, hna, rfl, rfl⟩
  refine zd ?_
  clear hT T
  refine zag ?_
  refine za0 ?_
  refine K.cutT (σ := Unit) [(3, _), (5, _)] bySub (fun s kp_ => kp_) (fun s => Dn ++ (wmH X ++ (planH p ++ ((b5, cells [.pointer (some ⟨X.B.b, 0, none⟩), .pointer (some ⟨X.T.b, 0, none⟩), .pointer (some ⟨X.N.b, 0, none⟩), .pointer (some ⟨X.k.b, 0, none⟩), X.z.vr, .int .i64 ((0 : Nat) : Int), X.v.L, X.v.F, X.v.M, .int .i64 (g.words : Nat), X.v.C, X.z.vt, .int .i64 X.z.gens, X.z.vn, X.q.c, X.v.L, X.v.F, X.v.M, .int .i64 (g.words : Nat), X.v.C, .int .i64 (long : Nat), X.q.u.Q, X.q.u.ow, X.q.u.di, .int .i64 (pgI S0.k.G), .int .i64 (S0.k.G.at_ : Nat), X.q.h, .int .i64 (S0.k.root : Nat), .bool S0.k.act, .int .i64 (S0.k.steps : Nat)] 99) :: (b3, cells [.int .u8 (xw : Nat), .int .i64 xs, .int .i64 xi, .int .i64 xt, .int .i64 xr, .int .u8 (xu : Nat)] 85) :: (b2, cells [vc, .int .i64 page, vt, .int .i64 workers, .int .i64 grey, .int .i64 gens] 25) :: F)))) (fun s => True) ?_ ?_
  ·rcases hna with ⟨⟨h1, h2, h3, h4⟩, rfl, b, rfl⟩ | ⟨hno, rfl, rfl⟩
   ·have h1' : xt ≥ 0 := h1
    have h3' : xr ≥ 1 := h3
    refine zbt ?_
    refine za1 ?_
    refine zbs ?_
    refine zbs ?_
    refine zbs ?_
    refine zY ?_
    refine zaF ?_
    refine z8 ?_
    refine zch ?_
    refine zah ?_
    refine zci ?_
    refine zch ?_
    refine z8 ?_
    refine zci ?_
    refine zch ?_
    refine zah ?_
    refine zci ?_
    refine zdk ?_
    refine zbB ?_
    refine zaF ?_
    refine zD ?_
    refine zdk ?_
    refine zD ?_
    refine zfk ?_
    refine zce ?_
    exact zgN
   ·by_cases c1 : xt ≥ 0
    ·by_cases c2 : xt ≤ 8
     ·by_cases c3 : xr ≥ 1
      ·have c4 : ¬ xr ≤ 64 := fun c4 => hno ⟨c1, c2, c3, c4⟩
       refine zbt ?_
       refine za1 ?_
       refine zbs ?_
       refine zbs ?_
       refine zbs ?_
       refine zH ?_
       refine zaF ?_
       refine z8 ?_
       refine zch ?_
       refine zah ?_
       refine zci ?_
       refine zch ?_
       refine z8 ?_
       refine zci ?_
       refine zch ?_
       refine zcq ?_
       refine zci ?_
       refine zdk ?_
       refine zbB ?_
       refine zaF ?_
       refine zaP ?_
       refine zdk ?_
       refine zaP ?_
       refine zch ?_
       refine zD ?_
       refine zci ?_
       refine zce ?_
       exact zgN
      ·refine zgr ?_
       refine zf ?_
       refine za1 ?_
       refine zbs ?_
       refine zbs ?_
       refine zbs ?_
       refine zH ?_
       refine zaF ?_
       refine z8 ?_
       refine zch ?_
       refine zah ?_
       refine zci ?_
       refine zch ?_
       refine zaJ ?_
       refine zci ?_
       refine zfk ?_
       refine zdk ?_
       refine zbB ?_
       refine zaF ?_
       refine zaP ?_
       refine zdk ?_
       refine zaP ?_
       refine zch ?_
       refine zD ?_
       refine zci ?_
       refine zce ?_
       exact zgN
     ·refine zgr ?_
      refine zf ?_
      refine za1 ?_
      refine zbs ?_
      refine zbs ?_
      refine zbs ?_
      refine zH ?_
      refine zaF ?_
      refine z8 ?_
      refine zch ?_
      refine zcq ?_
      refine zci ?_
      refine zfk ?_
      refine zfk ?_
      refine zdk ?_
      refine zbB ?_
      refine zaF ?_
      refine zaP ?_
      refine zdk ?_
      refine zaP ?_
      refine zch ?_
      refine zD ?_
      refine zci ?_
      refine zce ?_
      exact zgN
    ·refine zgr ?_
     refine zf ?_
     refine za1 ?_
     refine zbs ?_
     refine zbs ?_
     refine zbs ?_
     refine zH ?_
     refine zaF ?_
     refine zaJ ?_
     refine zfk ?_
     refine zfk ?_
     refine zfk ?_
     refine zdk ?_
     refine zbB ?_
     refine zaF ?_
     refine zaP ?_
     refine zdk ?_
     refine zaP ?_
     refine zch ?_
     refine zD ?_
     refine zci ?_
     refine zce ?_
     exact zgN
  ·rintro _ _
   rw [show wmH X = wmH (setk X X.k) from rfl]
   refine zq ?_
   refine zdc ?_
   refine zcf fun T hT => ?_
   refine (CallV.part (CallV.fn (mShade_no (kb := X.k.b) (s := xs) (W := S0.W) (m := S0.m) (kk := S0.k) hX6 rfl ha0)) byPart).mono ?_
   rintro _ _ ⟨rfl, k1, hb1, hX7, rfl⟩
   obtain ⟨e1, he1⟩ : ∃ e1 : Int, (if inS g xs then (0 : Int) else 2) = e1 := ⟨_, rfl⟩
   rw [he1]
   refine zd ?_
   clear hT T
   refine zr ?_
   refine zdc ?_
   refine zcf fun T hT => ?_
   have hOf := fun A => mOf_no (F := A) (s := xs) hX7 hb1 hC0
   rw [he1] at hOf
   refine (CallV.part (CallV.fn (hOf _)) byPart).mono ?_
   refine ze ?_
   clear hT T
   refine zag ?_
   refine zal ?_
   refine zj ?_
   refine za1 ?_
   refine zD ?_
   refine zbf ?_
   refine ziz ?_
   refine zaT ?_
   refine zaY ?_
   refine zaR ?_
   refine zg fun T hT => ?_
   refine (CallV.part (CallV.fn (mStep_no (hd := xi) (v := (xu : Nat)) hG hX7 hb1 (by omega) ha0)) byPart).mono ?_
   rintro _ _ ⟨rfl, k2, hb2, hX8, rfl⟩
   refine zd ?_
   clear hT T
   refine zbf ?_
   refine zbS fun T hT => ?_
   refine (CallV.part (CallV.fn (mHelp_no hG hX8 hb2 ha0)) byPart).mono ?_
   rintro _ _ ⟨rfl, k3, hb3, hX9, rfl⟩
   refine zd ?_
   clear hT T
   refine zbf ?_
   refine zbS fun T hT => ?_
   refine (CallV.part (CallV.fn (mDone_no hG hX9 hb3 ha0)) byPart).mono ?_
   refine ze ?_
   clear hT T
   refine zbf ?_
   refine zbS fun T hT => ?_
   have hac := fun A => mActive_K (F := A) hX9 hb3
   rw [ha0] at hac
   refine zcA ?_
   clear hT T
   refine zan ?_
   refine zr ?_
   refine zeT ?_; intro b191
   refine zr ?_
   refine zh fun T hT => ?_
   refine (CallV.fn of0_K).mono ?_
   refine zS ?_
   have z1 := fun A => khandZ_K (w0 := w0) (F := A) (zb := b191) (hd := 0)
   have z2 := fun A => kstopZ_K (w0 := w0) (F := A) (zb := b191)
   have z3 := fun A => kblackZ_K (w0 := w0) (F := A) (zb := b191) (s := 0)
   have z4 := fun A => khelpZ_K (w0 := w0) (F := A) (zb := b191)
   have z5 := fun A => kactZ_K (w0 := w0) (F := A) (zb := b191)
   simp only [zmH_app] at z1 z2 z3 z4 z5
   refine zd ?_
   clear hT T
   refine zbw ?_
   refine zh fun T hT => ?_
   refine (CallV.part (CallV.fn (z1 _)) byPart).mono ?_
   refine ze ?_
   clear hT T
   refine zcN ?_
   refine zav ?_
   refine zgx ?_
   refine zbA ?_
   refine zfP fun T hT => ?_
   refine (CallV.fn (kstart0_K)).mono ?_
   rintro _ _ ⟨rfl, rfl⟩
   refine zd ?_
   clear hT T
   refine zdZ ?_
   refine zfP fun T hT => ?_
   refine (CallV.part (CallV.fn (z2 _)) byPart).mono ?_
   refine ze ?_
   clear hT T
   refine zdZ ?_
   refine zfP fun T hT => ?_
   refine (CallV.fn (kshade0_K)).mono ?_
   rintro _ _ ⟨rfl, rfl⟩
   refine zd ?_
   clear hT T
   refine zdZ ?_
   refine zfP fun T hT => ?_
   refine (CallV.part (CallV.fn (z3 _)) byPart).mono ?_
   refine ze ?_
   clear hT T
   refine zdZ ?_
   refine zfP fun T hT => ?_
   refine (CallV.fn (kstep0_K)).mono ?_
   rintro _ _ ⟨rfl, rfl⟩
   refine zd ?_
   clear hT T
   refine zbe ?_
   refine zfP fun T hT => ?_
   refine (CallV.part (CallV.fn (z4 _)) byPart).mono ?_
   refine ze ?_
   clear hT T
   refine zbe ?_
   refine zfP fun T hT => ?_
   refine (CallV.fn (kdone0_K)).mono ?_
   rintro _ _ ⟨rfl, rfl⟩
   refine zd ?_
   clear hT T
   refine zbe ?_
   refine zfP fun T hT => ?_
   refine (CallV.part (CallV.fn (z5 _)) byPart).mono ?_
   refine ze ?_
   clear hT T
   refine zbe ?_
   refine zfP fun T hT => ?_
   refine (CallV.fn (ksteps0_K)).mono ?_
   rintro _ _ ⟨rfl, rfl⟩
   refine zd ?_
   clear hT T
   refine zdZ ?_
   refine zbn ?_
   refine zg fun T hT => ?_
   refine zdb ?_
   rintro _ _ ⟨rfl, rfl⟩
   refine zd ?_
   clear hT T
   exact zb6
end Go.Proofs.YtalholahapcpkaaGreatDoor.Sw
