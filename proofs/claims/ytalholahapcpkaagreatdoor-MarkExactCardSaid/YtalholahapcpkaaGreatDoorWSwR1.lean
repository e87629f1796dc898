/- Mark: of a world that is left alone just the slots are black that can be reached. -/
import Derived.Test.YtalholahapcpkaaGreatDoorD1
import Derived.Test.YtalholahapcpkaaGreatDoorJ33
import Derived.Test.YtalholahapcpkaaGreatDoorJ34
namespace Go.Proofs.YtalholahapcpkaaGreatDoor.Sw
open Go.RowKit
set_option linter.unusedVariables false
set_option linter.unusedSimpArgs false
set_option maxRecDepth 10000
set_option maxHeartbeats 16000000 in
theorem markExact_K {w0 : World} {F : Heap} {c : Cfg} {vc vt vl vm : Value} {l st : List MActP} (hG : Glob w0) (hR : CfgR w0 F c vc vt) (hC : Sli w0 [] iE vc c.cl) (hvc : vc.oneCell' = true) (hl : Sli w0 F mactE vl l) (hlw : ∀ x ∈ l, x.ok) (hm : Sli w0 F mactE vm st) (hmw : ∀ x ∈ st, x.ok) :
  Call Tryz.prog w0 10 [cfgV c vc vt, vl, vm] F (fun r H' => r = .bool true ∧ H' = F) := by
 obtain ⟨okk, hokk⟩ : ∃ okk, okM c = okk := ⟨_, rfl⟩
 have hawake := fun A => mawake_K (w0 := w0) (F := A) hG
 cases okk with
 | false =>
  have hno := fun A (hp : Part A F) => mmade_no (hR.part hp) hokk
  obtain ⟨cl, page, tn, workers, grey, gens⟩ := c
  simp only [cfgV, cfgL] at hno ⊢
  unfold wm0 at hno
  refine Call.enter3 (n := 153) (by kernel_rfl) Tryz.func10 rfl rfl rfl ?_
  refine zW ?_; intro b3
  refine zp fun T hT => ?_
  refine zg2 ?_
  rintro _ _ ⟨rfl, rfl⟩
  refine zd ?_
  clear hT T
  refine zao ?_; intro b7
  refine zat ?_
  refine zg fun T hT => ?_
  refine zdb ?_
  rintro _ _ ⟨rfl, rfl⟩
  refine zd ?_
  clear hT T
  exact zar
 | true =>
  obtain ⟨g, long, nw, S0, hS0, hk0, hnw, hnw8, -, hmade⟩ := mmade_any hG hR hokk hC hvc
  obtain ⟨cl, page, tn, workers, grey, gens⟩ := c
  simp only [cfgV, cfgL] at hmade ⊢
  dsimp only at hnw
  clear hokk hR
  refine Call.enter3 (n := 153) (by kernel_rfl) Tryz.func10 rfl rfl rfl ?_
  refine zW ?_; intro b3
  refine zp fun T hT => ?_
  refine zg3 ?_
  rintro _ _ ⟨X, hX, rfl, rfl⟩
  obtain ⟨q1, q2, q3, q4, q5, q6, q7, q8, q9, r1, r2, r3⟩ := hX.o
  have ha0 : S0.m.act = false := by rw [hS0]; rfl
  have hlg := hX.lg
  have okg := hX.okg
  unfold wmL
  refine zd ?_
  clear hT T
  refine zao ?_; intro b7
  refine zF ?_
  refine zfC ?_
  refine K.cutE (σ := LmA) [(2, _), (7, _)] bySub (fun s kp_ => kp_) (fun s => wmH s.X ++ ((b7, cells (wmL g long s.X s.S.k) 99) :: F)) (fun s => WmR w0 g long 1 s.X s.S ∧ s.S.m = newM g nw false ∧ s.S.k = s.S.m) ?_ ?_
  ·refine K.block ?_
   refine zkC ?_
   rintro ⟨i, X1, S1⟩ ⟨hi, hX1, hm1, hk1⟩
   dsimp only at hi hX1 hm1 hk1 ⊢
   clear q1 q2 q3 q4 q5 q6 q7 q8 q9 r1 r2 r3
   obtain ⟨q1, q2, q3, q4, q5, q6, q7, q8, q9, r1, r2, r3⟩ := hX1.o
   have ha1 : S1.m.act = false := by rw [hm1]; rfl
   by_cases hlt : i < l.length ∧ i < 60
   ·obtain ⟨h1, h2⟩ := hlt
    have h2' : ((i : Nat) : Int) < 60 := by omega
    obtain ⟨x, hx⟩ := get_of_lt h1
    have hxo := hlw x (List.mem_of_getElem? hx)
    have hdoes := fun A => mdoes_K (w0 := w0) (F := A) hG hX1 hxo.1 hxo.2
    unfold WmD at hdoes
    obtain ⟨S2, hS2⟩ : ∃ S2, actS2 g long S1 x = S2 := ⟨_, rfl⟩
    have hm2 : S2.m = newM g nw false := by rw [← hS2, act_idle ha1]; exact hm1
    have hk2 : S2.k = S2.m := by rw [← hS2]; exact act_same hk1
    have hbb : (actB g long S1.W S1.m x == actB g long S1.W S1.k x) = true := by rw [hk1]; exact beq_b _
    simp only [hS2, hbb] at hdoes
    clear hS2 hbb
    unfold wmL
    refine zfl ?_
    refine zhE ?_
    refine zgu ?_
    refine zfz fun T hT => ?_
    refine zg4 ?_
    rintro _ _ ⟨X2, hX2, rfl, rfl⟩
    clear q1 q2 q3 q4 q5 q6 q7 q8 q9 r1 r2 r3
    obtain ⟨q1, q2, q3, q4, q5, q6, q7, q8, q9, r1, r2, r3⟩ := hX2.o
    unfold wmL
    refine zi ?_
    clear hT T
    refine zb7 ?_
    refine zde ?_
    refine zbr ?_
    exact zjA
   ·by_cases h1 : i < l.length
    ·have h2 : ¬ ((i : Nat) : Int) < 60 := by omega
     clear hlt
     unfold wmL
     refine zeq ?_
     exact zgb
    ·clear hlt
     unfold wmL
     refine zer ?_
     exact zgb
  ·rintro ⟨_, X5, S5⟩ ⟨hX5, hm5, hk5⟩
   dsimp only at hX5 hm5 hk5 ⊢
   obtain ⟨W, m5, kk⟩ := S5
   dsimp only at hm5 hk5 hX5 ⊢
   subst hm5
   clear hX q1 q2 q3 q4 q5 q6 q7 q8 q9 r1 r2 r3 hmade ha0 hS0 hk0
   obtain ⟨q1, q2, q3, q4, q5, q6, q7, q8, q9, r1, r2, r3⟩ := hX5.o
   have hX6 : WmR w0 g long 1 (setk X5 X5.k) ⟨W, newM g nw false, kk⟩ := hX5
   have hWw : MwOk g W := hX5.W.w
   have hreach := fun A => mReach_K (F := A) hX5
   unfold kwL at hreach
   unfold wmL
   refine zq ?_
   refine zZ ?_
   refine zp fun T hT => ?_
   refine (CallV.part (CallV.fn (hreach _)) byPart).mono ?_
   rintro _ _ ⟨out, o, hol, hoR, koo, rfl, rfl⟩
   dsimp only at hoR
   rw [show wmH X5 = wmH (setk X5 X5.k) from rfl]
   refine zd ?_
   clear hT T
   refine zal ?_
   refine zbh fun T hT => ?_
   refine ziu ?_
   rintro _ _ ⟨rfl, k1, hb1, hX1, rfl⟩
   rw [start_new] at hX1
   refine zd ?_
   clear hT T
   refine zD ?_
   refine zfC ?_
   refine K.cutE (σ := LmB) [(7, _), (10, _)] bySub (fun s kp_ => kp_) (fun s => wmH (setk X5 s.k) ++ (oH boE 4 out o ++ ((b7, cells (wmL g long X5 kk) 99) :: F))) (fun s => s.k.b = X5.k.b ∧ WmR w0 g long 2 (setk X5 s.k) ⟨W, s.m, kk⟩ ∧ Goes g long W (newM g nw true) s.m) ?_ ?_
   ·refine K.block ?_
    refine K.loopT (σ := LmB) [(2, _), (7, _), (10, _)] (fun s kp_ => (11, .int .i64 (s.i : Nat)) :: kp_) (fun s => wmH (setk X5 s.k) ++ (oH boE 4 out o ++ ((b7, cells (wmL g long X5 kk) 99) :: F))) (fun s => s.i ≤ st.length ∧ s.k.b = X5.k.b ∧ WmR w0 g long 2 (setk X5 s.k) ⟨W, s.m, kk⟩ ∧ Goes g long W (newM g nw true) s.m) (fun s => st.length - s.i) (⟨0, k1, newM g nw true⟩) bySub byPart (⟨Nat.zero_le _, hb1, hX1, .refl⟩) ?_
    rintro ⟨i, k2, m2⟩ ⟨hi, hb2, hX2, hg2⟩
    dsimp only at hi hb2 hX2 hg2 ⊢
    by_cases hlt : i < st.length ∧ i < 200
    ·obtain ⟨h1, h2⟩ := hlt
     have h2' : ((i : Nat) : Int) < 200 := by omega
     obtain ⟨x, hx⟩ := get_of_lt h1
     have hxo := hmw x (List.mem_of_getElem? hx)
     have hst := fun A => mStep_K (F := A) (hd := x.i) (v := (x.u : Nat)) hG hX2 hb2 (by have := hxo.2; omega)
     unfold wmL
     refine zfl ?_
     refine zjB ?_
     refine zg0 ?_
     refine zgt ?_
     refine zhm ?_
     refine zgt ?_
     refine zjC ?_
     refine zax ?_
     refine zl fun T hT => ?_
     refine ze8 ?_
     rintro _ _ ⟨rfl, k3, hb3, hX3, rfl⟩
     refine zi ?_
     clear hT T
     refine zV ?_
     refine zbr ?_
     exact zkD
    ·by_cases h1 : i < st.length
     ·have h2 : ¬ ((i : Nat) : Int) < 200 := by omega
      clear hlt
      unfold wmL
      refine zeq ?_
      exact zgc
     ·clear hlt
      unfold wmL
      refine zer ?_
      exact zgc
   ·rintro ⟨_, k6, m6⟩ ⟨hb6, hX7, hg6⟩
    dsimp only at hb6 hX7 hg6 ⊢
    have hgo := goes_ok okg (new_ok (W := W) hlg.1 hnw8) hWw new_in hg6
    have ha6 : m6.act = true := hgo.act
    have hl6 : leftM g W m6 ≤ lim g W := by
     have := goes_lim okg (new_ok (W := W) hlg.1 hnw8) hWw new_in (by show 0 + _ ≤ _; have := start_left (W := W) okg nw; unfold lim; omega) hg6
     omega
    have hTn : (W.T.map docE).length = W.T.length := List.length_map ..
    have hwd := hX5.wd
    have hTl : W.T.length ≤ 60 := hX5.n
    have hTd : Sli w0 (wmH (setk X5 k6) ++ []) wE X5.z.vt (W.T.map docE) := sli_nil (hX5.W.T.part setk_part)
    have hfin := fun A => finish_K (F := A) hG hX7 hb6 ha6 hl6
    unfold wmL at hfin
    unfold wmL
    skip
    refine K.fact (p := ∃ a c, X5.z.vt = .slice a (W.T.map docE).length c) (fun w hw => ?_) ?_
    ·obtain ⟨a, c, h1, _⟩ := (hTd w (hw.part byPart)).shape
     exact ⟨a, c, h1⟩
    rintro ⟨za, zc, hz⟩
    simp only [hz] at hfin
    rw [hz]
    refine zak ?_
    (first | refine K.seq (K.drawn ((b7, cells [.pointer (some ⟨X5.B.b, 0, none⟩), .pointer (some ⟨X5.T.b, 0, none⟩), .pointer (some ⟨X5.N.b, 0, none⟩), .pointer (some ⟨X5.k.b, 0, none⟩), X5.z.vr, .int .i64 ((0 : Nat) : Int), X5.v.L, X5.v.F, X5.v.M, .int .i64 (g.words : Nat), X5.v.C, .slice za (W.T.map docE).length zc, .int .i64 X5.z.gens, X5.z.vn, X5.q.c, X5.v.L, X5.v.F, X5.v.M, .int .i64 (g.words : Nat), X5.v.C, .int .i64 (long : Nat), X5.q.u.Q, X5.q.u.ow, X5.q.u.di, .int .i64 (pgI kk.G), .int .i64 (kk.G.at_ : Nat), X5.q.h, .int .i64 (kk.root : Nat), .bool kk.act, .int .i64 (kk.steps : Nat)] 99) :: []) [(0, 0), (1, 2), (2, 0), (3, 0), (4, 0), (5, 0), (7, 1), (8, 1), (9, 1), (10, 1), (11, 1), (12, 1), (13, 1), (14, 1), (15, 1), (16, 1), (17, 1), (18, 1), (6, 2), (19, 0), (20, 0)] (by kernel_rfl) (by kernel_rfl) (by kernel_rfl) (by kernel_rfl) (by kernel_rfl) (by kernel_rfl) byPart ?_) | refine K.seq (K.seq (K.drawn ((b7, cells [.pointer (some ⟨X5.B.b, 0, none⟩), .pointer (some ⟨X5.T.b, 0, none⟩), .pointer (some ⟨X5.N.b, 0, none⟩), .pointer (some ⟨X5.k.b, 0, none⟩), X5.z.vr, .int .i64 ((0 : Nat) : Int), X5.v.L, X5.v.F, X5.v.M, .int .i64 (g.words : Nat), X5.v.C, .slice za (W.T.map docE).length zc, .int .i64 X5.z.gens, X5.z.vn, X5.q.c, X5.v.L, X5.v.F, X5.v.M, .int .i64 (g.words : Nat), X5.v.C, .int .i64 (long : Nat), X5.q.u.Q, X5.q.u.ow, X5.q.u.di, .int .i64 (pgI kk.G), .int .i64 (kk.G.at_ : Nat), X5.q.h, .int .i64 (kk.root : Nat), .bool kk.act, .int .i64 (kk.steps : Nat)] 99) :: []) [(0, 0), (1, 2), (2, 0), (3, 0), (4, 0), (5, 0), (7, 1), (8, 1), (9, 1), (10, 1), (11, 1), (12, 1), (13, 1), (14, 1), (15, 1), (16, 1), (17, 1), (18, 1), (6, 2), (19, 0), (20, 0)] (by kernel_rfl) (by kernel_rfl) (by kernel_rfl) (by kernel_rfl) (by kernel_rfl) (by kernel_rfl) byPart ?_)) | refine K.drawn ((b7, cells [.pointer (some ⟨X5.B.b, 0, none⟩), .pointer (some ⟨X5.T.b, 0, none⟩), .pointer (some ⟨X5.N.b, 0, none⟩), .pointer (some ⟨X5.k.b, 0, none⟩), X5.z.vr, .int .i64 ((0 : Nat) : Int), X5.v.L, X5.v.F, X5.v.M, .int .i64 (g.words : Nat), X5.v.C, .slice za (W.T.map docE).length zc, .int .i64 X5.z.gens, X5.z.vn, X5.q.c, X5.v.L, X5.v.F, X5.v.M, .int .i64 (g.words : Nat), X5.v.C, .int .i64 (long : Nat), X5.q.u.Q, X5.q.u.ow, X5.q.u.di, .int .i64 (pgI kk.G), .int .i64 (kk.G.at_ : Nat), X5.q.h, .int .i64 (kk.root : Nat), .bool kk.act, .int .i64 (kk.steps : Nat)] 99) :: []) [(0, 0), (1, 2), (2, 0), (3, 0), (4, 0), (5, 0), (7, 1), (8, 1), (9, 1), (10, 1), (11, 1), (12, 1), (13, 1), (14, 1), (15, 1), (16, 1), (17, 1), (18, 1), (6, 2), (19, 0), (20, 0)] (by kernel_rfl) (by kernel_rfl) (by kernel_rfl) (by kernel_rfl) (by kernel_rfl) (by kernel_rfl) byPart ?_)
    refine zfz fun T hT => ?_
    refine (CallV.part (CallV.fn (hfin _)) byPart).mono ?_
    rintro _ _ ⟨rfl, k7, m7, hb7, hg7, hd7, hX8, rfl⟩
    have hgg := hg6.trans hg7
    have hle := left_all okg hWw hlg.1 hnw8 hgg
    have ha7 : m7.act = true := (goes_ok okg (new_ok (W := W) hlg.1 hnw8) hWw new_in hgg).act
    have hngt : ¬ ((m7.steps : Nat) : Int) > 20 * ((g.words : Nat) + ((W.T.map docE).length : Nat)) := by rw [hTn]; omega
    refine zi ?_
    clear hT T
    (first | refine KD.v0 rfl rfl (Val.notT rfl) ?_ | refine KD.v0 rfl rfl (Val.notF rfl) ?_ | refine KD.v0 rfl rfl (Val.not rfl) ?_ | refine KD.v0 rfl rfl (Val.notB rfl) ?_)
    refine zo ?_
    (first | refine KD.no rfl rfl rfl rfl rfl ?_ | refine KD.noU rfl rfl rfl rfl rfl ?_ | refine KD.y0 rfl rfl rfl rfl (Val.fieldSl (k := 3) rfl rfl) ?_ | refine KD.y0 rfl rfl rfl rfl (Val.fieldAddr0 (k := 3) rfl rfl) ?_ | refine KD.y0 rfl rfl rfl rfl (Val.fieldAddrZ rfl rfl) ?_ | refine KD.y0 rfl rfl rfl rfl (Val.fieldAddr (k := 3) rfl rfl) ?_)
    (first | refine KD.no rfl rfl rfl rfl rfl ?_ | refine KD.noU rfl rfl rfl rfl rfl ?_ | refine KD.y0 rfl rfl rfl rfl (Val.loadP rfl rfl bySee) ?_ | refine KD.y0 rfl rfl rfl rfl (Val.loadP rfl rfl (Sees.more (by assumption) byPart)) ?_)
    refine zlN ?_
    refine zlO ?_
    (first | refine KD.no rfl rfl rfl rfl rfl ?_ | refine KD.noU rfl rfl rfl rfl rfl ?_ | refine KD.y1 rfl rfl rfl rfl (Val.fieldSl (k := 2) rfl rfl) ?_ | refine KD.y1 rfl rfl rfl rfl (Val.fieldAddr0 (k := 2) rfl rfl) ?_ | refine KD.y1 rfl rfl rfl rfl (Val.fieldAddrZ rfl rfl) ?_ | refine KD.y1 rfl rfl rfl rfl (Val.fieldAddr (k := 2) rfl rfl) ?_)
    (first | refine KD.no rfl rfl rfl rfl rfl ?_ | refine KD.noU rfl rfl rfl rfl rfl ?_ | refine KD.y1 rfl rfl rfl rfl (Val.fieldSl (k := 3) rfl rfl) ?_ | refine KD.y1 rfl rfl rfl rfl (Val.fieldAddr0 (k := 3) rfl rfl) ?_ | refine KD.y1 rfl rfl rfl rfl (Val.fieldAddrZ rfl rfl) ?_ | refine KD.y1 rfl rfl rfl rfl (Val.fieldAddr (k := 3) rfl rfl) ?_)
    refine zlP ?_
    refine zlN ?_
    (first | refine KD.no rfl rfl rfl rfl rfl ?_ | refine KD.noU rfl rfl rfl rfl rfl ?_ | refine KD.y1 rfl rfl rfl rfl (Val.fieldSl (k := 7) rfl rfl) ?_ | refine KD.y1 rfl rfl rfl rfl (Val.fieldAddr0 (k := 7) rfl rfl) ?_ | refine KD.y1 rfl rfl rfl rfl (Val.fieldAddrZ rfl rfl) ?_ | refine KD.y1 rfl rfl rfl rfl (Val.fieldAddr (k := 7) rfl rfl) ?_)
    refine zlO ?_
    refine zlP ?_
    (first | refine KD.no rfl rfl rfl rfl rfl ?_ | refine KD.noU rfl rfl rfl rfl rfl ?_ | refine KD.y1 rfl rfl rfl rfl (Val.lenSl rfl rfl bySli) ?_ | refine KD.y1 rfl rfl rfl rfl (Val.lenS rfl rfl) ?_)
    (first | refine KD.no rfl rfl rfl rfl rfl ?_ | refine KD.noU rfl rfl rfl rfl rfl ?_ | refine KD.y1 rfl rfl rfl rfl (Val.add rfl rfl (by simp only [Go.Proofs.YtalholahapcpkaaGreatDoor.lo, Go.Proofs.YtalholahapcpkaaGreatDoor.hi]; omega)) ?_ | refine KD.y1 rfl rfl rfl rfl (Val.addW rfl rfl) ?_)
    (first | refine KD.no rfl rfl rfl rfl rfl ?_ | refine KD.noU rfl rfl rfl rfl rfl ?_ | refine KD.y1 rfl rfl rfl rfl (Val.mul rfl rfl (by simp only [Go.Proofs.YtalholahapcpkaaGreatDoor.lo, Go.Proofs.YtalholahapcpkaaGreatDoor.hi]; omega)) ?_ | refine KD.y1 rfl rfl rfl rfl (Val.mulW rfl rfl) ?_)
    refine zb2 fun T hT => ?_
    refine (CallV.part (CallV.fn (mSteps_K hX8 hb7)) byPart).mono ?_
    refine zab ?_
    clear hT T
    (first | refine KD.no rfl rfl rfl rfl rfl ?_ | refine KD.noU rfl rfl rfl rfl rfl ?_ | refine KD.y0 rfl rfl rfl rfl (Val.isT (Val.gtr rfl rfl) byLt) ?_ | refine KD.y0 rfl rfl rfl rfl (Val.isF (Val.gtr rfl rfl) byLt) ?_ | refine KD.y0 rfl rfl rfl rfl (Val.gtr rfl rfl) ?_)
    (first | refine KD.v0 rfl rfl (Val.pickT rfl rfl rfl) ?_ | refine KD.v0 rfl rfl (Val.pickF rfl rfl rfl) ?_ | refine KD.v0 rfl rfl (Val.pickB rfl rfl rfl) ?_)
    refine zV ?_
    refine zkr ?_
    refine zaE ?_
    rw [← hz]
    refine K.loopT (σ := LmC) [(7, _), (10, _)] (fun s kp_ => (12, .int .i64 (s.i : Nat)) :: kp_) (fun s => wmH (setk X5 k7) ++ (oH boE 4 out o ++ ((b7, cells (wmL g long X5 kk) 99) :: F))) (fun s => s.i ≤ out.length) (fun s => out.length - s.i) (⟨0⟩) bySub byPart (Nat.zero_le _) ?_
    rintro ⟨j⟩ hj
    dsimp only at hj ⊢
    unfold wmL
    by_cases hjl : j < out.length
    ·have hjs : j < g.slots := by omega
     have hob : out.length ≤ 4294967296 := by have := okg.slots; omega
     obtain ⟨e1, e2⟩ := exact_all okg hWw hlg.1 hnw8 hgg hd7 hjs
     have hr := hoR j hjs
     by_cases hrr : RchM g W j
     ·have ho := hr.2 hrr
      refine zcx ?_
      refine zev fun T hT => ?_
      refine (CallV.part (CallV.fn (mOf_K hX8 hb7 (e1 hrr))) byPart).mono ?_
      refine ze ?_
      clear hT T
      refine zbv ?_
      refine zeu ?_
      refine zen ?_
      refine zaF ?_
      refine zY ?_
      refine zdk ?_
      refine zu ?_
      refine zen ?_
      refine zbQ ?_
      refine zfk ?_
      refine zce ?_
      refine zbr ?_
      exact zjD
     ·have ho : out[j]? = some false := by
       obtain ⟨b, hb⟩ := get_of_lt hjl
       cases b with
       | false => exact hb
       | true => exact absurd (hr.1 hb) hrr
      refine zcx ?_
      refine zev fun T hT => ?_
      refine (CallV.part (CallV.fn (mOf_K hX8 hb7 (e2 hrr))) byPart).mono ?_
      refine ze ?_
      clear hT T
      refine zbv ?_
      refine zeu ?_
      refine zen ?_
      refine zaF ?_
      refine zH ?_
      refine zdk ?_
      refine zu ?_
      refine zen ?_
      refine zbe ?_
      refine zch ?_
      refine zD ?_
      refine zci ?_
      refine zce ?_
      refine zbr ?_
      exact zjD
    ·refine zhP ?_
     refine zj ?_
     refine za6 ?_
     refine zfp ?_
     refine zbh fun T hT => ?_
     refine (CallV.part (CallV.fn (mStop_K hX8 hb7 ha7)) byPart).mono ?_
     rintro _ _ ⟨rfl, k8, hb8, hX9, rfl⟩
     refine zd ?_
     clear hT T
     refine zet ?_
     refine zbS fun T hT => ?_
     refine (CallV.part (CallV.fn (mStop_E hX9 hb8 rfl)) byPart).mono ?_
     refine ze ?_
     clear hT T
     refine zdZ ?_
     refine zbn ?_
     refine zbS fun T hT => ?_
     refine (CallV.part (CallV.fn (mHelp_no hG hX9 hb8 rfl)) byPart).mono ?_
     rintro _ _ ⟨rfl, k9, hb9, hXa, rfl⟩
     refine zd ?_
     clear hT T
     refine zbe ?_
     refine zbn ?_
     refine zbS fun T hT => ?_
     refine (CallV.part (CallV.fn (mDone_no hG hXa hb9 rfl)) byPart).mono ?_
     refine ze ?_
     clear hT T
     refine zbe ?_
     refine zbn ?_
     refine zg fun T hT => ?_
     refine zdb ?_
     rintro _ _ ⟨rfl, rfl⟩
     refine zd ?_
     clear hT T
     exact zb6
end Go.Proofs.YtalholahapcpkaaGreatDoor.Sw
