/- Mark: it does not hang on which hands made which micro-steps what is black at last. -/
import Derived.Test.YtalholahapcpkaaGreatDoorD1
import Derived.Test.YtalholahapcpkaaGreatDoorJ33
import Derived.Test.YtalholahapcpkaaGreatDoorJ34
namespace Go.Proofs.YtalholahapcpkaaGreatDoor.Sw
open Go.RowKit
set_option linter.unusedVariables false
set_option linter.unusedSimpArgs false
set_option maxRecDepth 10000
structure LmY where
 i : Nat
 X : WmM
 Y : WmM
 S : MsP
set_option maxHeartbeats 16000000 in
theorem markWhoever_K {w0 : World} {F : Heap} {c : Cfg} {vc vt vl vm : Value} {l st : List MActP} (hG : Glob w0) (hR : CfgR w0 F c vc vt) (hC : Sli w0 [] iE vc c.cl) (hvc : vc.oneCell' = true) (hl : Sli w0 F mactE vl l) (hlw : ∀ x ∈ l, x.ok) (hm : Sli w0 F mactE vm st) (hmw : ∀ x ∈ st, x.ok) :
  Call Tryz.prog w0 12 [cfgV c vc vt, vl, vm] F (fun r H' => r = .bool true ∧ H' = F) := by
 obtain ⟨okk, hokk⟩ : ∃ okk, okM c = okk := ⟨_, rfl⟩
 have hawake := fun A => mawake_K (w0 := w0) (F := A) hG
 cases okk with
 | false =>
  have hno := fun A (hp : Part A F) => mmade_no (hR.part hp) hokk
  obtain ⟨cl, page, tn, workers, grey, gens⟩ := c
  simp only [cfgV, cfgL] at hno ⊢
  unfold wm0 at hno
  refine Call.enter3 (n := 191) (by kernel_rfl) Tryz.func12 rfl rfl rfl ?_
  refine zW ?_; intro b3
  refine zp fun T hT => ?_
  refine zg2 ?_
  rintro _ _ ⟨rfl, rfl⟩
  refine zd ?_
  clear hT T
  refine zbp ?_; intro b7
  refine zcB fun T hT => ?_
  refine zg2 ?_
  rintro _ _ ⟨rfl, rfl⟩
  refine zd ?_
  clear hT T
  refine zao ?_; intro b9
  refine zat ?_
  refine zg fun T hT => ?_
  refine zdb ?_
  rintro _ _ ⟨rfl, rfl⟩
  refine zd ?_
  clear hT T
  exact zar
 | true =>
  obtain ⟨g, long, nw, S0, hS0, hk0, hnw, hnw8, -, hmade⟩ := mmade_any hG hR hokk hC hvc
  obtain ⟨cl, page, tn, workers, grey, gens⟩ := c
  simp only [cfgV, cfgL] at hmade ⊢
  dsimp only at hnw
  clear hokk hR
  refine Call.enter3 (n := 191) (by kernel_rfl) Tryz.func12 rfl rfl rfl ?_
  refine zW ?_; intro b3
  refine zp fun T hT => ?_
  refine zg3 ?_
  rintro _ _ ⟨X, hX, rfl, rfl⟩
  obtain ⟨q1, q2, q3, q4, q5, q6, q7, q8, q9, r1, r2, r3⟩ := hX.o
  have ha0 : S0.m.act = false := by rw [hS0]; rfl
  have hlg := hX.lg
  have okg := hX.okg
  unfold wmL
  refine zd ?_
  clear hT T
  refine zbp ?_; intro b7
  refine zcB fun T hT => ?_
  refine zg3 ?_
  rintro _ _ ⟨Y, hY, rfl, rfl⟩
  obtain ⟨u1, u2, u3, u4, u5, u6, u7, u8, u9, v1, v2, v3⟩ := hY.o
  unfold wmL
  refine zd ?_
  clear hT T
  refine zao ?_; intro b9
  refine zF ?_
  refine zfC ?_
  refine K.cutE (σ := LmY) [(2, _), (7, _), (9, _)] bySub (fun s kp_ => kp_) (fun s => wmH s.X ++ (wmH s.Y ++ ((b7, cells (wmL g long s.X s.S.k) 99) :: (b9, cells (wmL g long s.Y s.S.k) 99) :: F))) (fun s => WmR w0 g long 1 s.X s.S ∧ WmR w0 g long 1 s.Y s.S ∧ s.S.m = newM g nw false ∧ s.S.k = s.S.m) ?_ ?_
  ·refine K.block ?_
   refine K.loopT (σ := LmY) [(1, _), (2, _), (7, _), (9, _)] (fun s kp_ => (11, .int .i64 (s.i : Nat)) :: kp_) (fun s => wmH s.X ++ (wmH s.Y ++ ((b7, cells (wmL g long s.X s.S.k) 99) :: (b9, cells (wmL g long s.Y s.S.k) 99) :: F))) (fun s => s.i ≤ l.length ∧ WmR w0 g long 1 s.X s.S ∧ WmR w0 g long 1 s.Y s.S ∧ s.S.m = newM g nw false ∧ s.S.k = s.S.m) (fun s => l.length - s.i) (⟨0, X, Y, S0⟩) bySub byPart (⟨Nat.zero_le _, hX, hY, hS0, hk0⟩) ?_
   rintro ⟨i, X1, Y1, S1⟩ ⟨hi, hX1, hY1, hm1, hk1⟩
   dsimp only at hi hX1 hY1 hm1 hk1 ⊢
   clear q1 q2 q3 q4 q5 q6 q7 q8 q9 r1 r2 r3 u1 u2 u3 u4 u5 u6 u7 u8 u9 v1 v2 v3
   obtain ⟨q1, q2, q3, q4, q5, q6, q7, q8, q9, r1, r2, r3⟩ := hX1.o
   obtain ⟨u1, u2, u3, u4, u5, u6, u7, u8, u9, v1, v2, v3⟩ := hY1.o
   have ha1 : S1.m.act = false := by rw [hm1]; rfl
   by_cases hlt : i < l.length ∧ i < 60
   ·obtain ⟨h1, h2⟩ := hlt
    have h2' : ((i : Nat) : Int) < 60 := by omega
    obtain ⟨x, hx⟩ := get_of_lt h1
    have hxo := hlw x (List.mem_of_getElem? hx)
    have hdoes := fun A => mdoes_K (w0 := w0) (F := A) hG hX1 hxo.1 hxo.2
    have hdoes2 := fun A => mdoes_K (w0 := w0) (F := A) hG hY1 hxo.1 hxo.2
    unfold WmD at hdoes hdoes2
    obtain ⟨S2, hS2⟩ : ∃ S2, actS2 g long S1 x = S2 := ⟨_, rfl⟩
    have hm2 : S2.m = newM g nw false := by rw [← hS2, act_idle ha1]; exact hm1
    have hk2 : S2.k = S2.m := by rw [← hS2]; exact act_same hk1
    have hbb : (actB g long S1.W S1.m x == actB g long S1.W S1.k x) = true := by rw [hk1]; exact beq_b _
    simp only [hS2, hbb] at hdoes hdoes2
    clear hS2 hbb
    unfold wmL
    refine zfl ?_
    refine zhE ?_
    refine zgu ?_
    refine zfz fun T hT => ?_
    refine zg4 ?_
    rintro _ _ ⟨X2, hX2, rfl, rfl⟩
    clear q1 q2 q3 q4 q5 q6 q7 q8 q9 r1 r2 r3
    obtain ⟨q1, q2, q3, q4, q5, q6, q7, q8, q9, r1, r2, r3⟩ := hX2.o
    unfold wmL
    refine zi ?_
    clear hT T
    refine zb7 ?_
    refine zde ?_
    refine zcE ?_
    refine zak ?_
    refine zhE ?_
    refine zgu ?_
    refine zfz fun T hT => ?_
    refine (CallV.part (CallV.fn (hdoes2 _)) byPart).mono ?_
    rintro _ _ ⟨Y2, hY2, rfl, rfl⟩
    clear u1 u2 u3 u4 u5 u6 u7 u8 u9 v1 v2 v3
    obtain ⟨u1, u2, u3, u4, u5, u6, u7, u8, u9, v1, v2, v3⟩ := hY2.o
    unfold wmL
    refine zi ?_
    clear hT T
    refine zb7 ?_
    refine zde ?_
    refine zbr ?_
    exact KE.again ⟨i + 1, X2, Y2, S2⟩ bySub byPart ⟨h1, hX2, hY2, hm2, hk2⟩ (by show l.length - (i + 1) < l.length - i; omega)
   ·by_cases h1 : i < l.length
    ·have h2 : ¬ ((i : Nat) : Int) < 60 := by omega
     clear hlt
     unfold wmL
     refine zeq ?_
     exact KE.meet ⟨0, X1, Y1, S1⟩ bySub byPart ⟨hX1, hY1, hm1, hk1⟩
    ·clear hlt
     unfold wmL
     refine zer ?_
     exact KE.meet ⟨0, X1, Y1, S1⟩ bySub byPart ⟨hX1, hY1, hm1, hk1⟩
  ·rintro ⟨_, X5, Y5, S5⟩ ⟨hX5, hY5, hm5, hk5⟩
   dsimp only at hX5 hY5 hm5 hk5 ⊢
   obtain ⟨W, m5, kk⟩ := S5
   dsimp only at hm5 hk5 hX5 hY5 ⊢
   subst hm5
   clear hX hY q1 q2 q3 q4 q5 q6 q7 q8 q9 r1 r2 r3 u1 u2 u3 u4 u5 u6 u7 u8 u9 v1 v2 v3 hmade ha0 hS0 hk0
   obtain ⟨q1, q2, q3, q4, q5, q6, q7, q8, q9, r1, r2, r3⟩ := hX5.o
   obtain ⟨u1, u2, u3, u4, u5, u6, u7, u8, u9, v1, v2, v3⟩ := hY5.o
   have hX6 : WmR w0 g long 1 (setk X5 X5.k) ⟨W, newM g nw false, kk⟩ := hX5
   have hY6 : WmR w0 g long 1 (setk Y5 Y5.k) ⟨W, newM g nw false, kk⟩ := hY5
   have hWw : MwOk g W := hX5.W.w
   have hlim0 : (newM g nw true).steps + leftM g W (newM g nw true) ≤ lim g W := by show 0 + _ ≤ _; have := start_left (W := W) okg nw; unfold lim; omega
   rw [show wmH X5 = wmH (setk X5 X5.k) from rfl, show wmH Y5 = wmH (setk Y5 Y5.k) from rfl]
   unfold wmL
   refine zc1 ?_
   refine zbh fun T hT => ?_
   refine ziu ?_
   rintro _ _ ⟨rfl, k1, hb1, hX1, rfl⟩
   rw [start_new] at hX1
   refine zd ?_
   clear hT T
   refine zD ?_
   refine zu ?_
   refine ziz ?_
   refine zbB ?_
   refine zbf ?_
   refine zbS fun T hT => ?_
   refine (CallV.part (CallV.fn (mStart_K hY6 rfl rfl (by decide))) byPart).mono ?_
   rintro _ _ ⟨rfl, j1, hc1, hY1, rfl⟩
   rw [start_new] at hY1
   refine zd ?_
   clear hT T
   refine zdn ?_
   refine zn ?_
   refine zfC ?_
   refine K.cutE (σ := LmB) [(2, _), (7, _), (9, _)] bySub (fun s kp_ => kp_) (fun s => wmH (setk X5 s.k) ++ (wmH (setk Y5 j1) ++ ((b7, cells (wmL g long X5 kk) 99) :: (b9, cells (wmL g long Y5 kk) 99) :: F))) (fun s => s.k.b = X5.k.b ∧ WmR w0 g long 2 (setk X5 s.k) ⟨W, s.m, kk⟩ ∧ Goes g long W (newM g nw true) s.m) ?_ ?_
   ·refine K.block ?_
    refine K.loopT (σ := LmB) [(2, _), (7, _), (9, _)] (fun s kp_ => (12, .int .i64 (s.i : Nat)) :: kp_) (fun s => wmH (setk X5 s.k) ++ (wmH (setk Y5 j1) ++ ((b7, cells (wmL g long X5 kk) 99) :: (b9, cells (wmL g long Y5 kk) 99) :: F))) (fun s => s.i ≤ st.length ∧ s.k.b = X5.k.b ∧ WmR w0 g long 2 (setk X5 s.k) ⟨W, s.m, kk⟩ ∧ Goes g long W (newM g nw true) s.m) (fun s => st.length - s.i) (⟨0, k1, newM g nw true⟩) bySub byPart (⟨Nat.zero_le _, hb1, hX1, .refl⟩) ?_
    rintro ⟨i, k2, m2⟩ ⟨hi, hb2, hX2, hg2⟩
    dsimp only at hi hb2 hX2 hg2 ⊢
    by_cases hlt : i < st.length ∧ i < 200
    ·obtain ⟨h1, h2⟩ := hlt
     have h2' : ((i : Nat) : Int) < 200 := by omega
     obtain ⟨x, hx⟩ := get_of_lt h1
     have hxo := hmw x (List.mem_of_getElem? hx)
     have hst := fun A => mStep_K (F := A) (hd := x.i) (v := (x.u : Nat)) hG hX2 hb2 (by have := hxo.2; omega)
     unfold wmL
     refine zfl ?_
     refine zjB ?_
     refine zg0 ?_
     refine zgt ?_
     refine zhm ?_
     refine zgt ?_
     refine zjC ?_
     refine zax ?_
     refine zl fun T hT => ?_
     refine ze8 ?_
     rintro _ _ ⟨rfl, k3, hb3, hX3, rfl⟩
     refine zi ?_
     clear hT T
     refine zV ?_
     refine zbr ?_
     exact zkD
    ·by_cases h1 : i < st.length
     ·have h2 : ¬ ((i : Nat) : Int) < 200 := by omega
      clear hlt
      unfold wmL
      refine zeq ?_
      exact zgc
     ·clear hlt
      unfold wmL
      refine zer ?_
      exact zgc
   ·rintro ⟨_, k6, m6⟩ ⟨hb6, hX7, hg6⟩
    dsimp only at hb6 hX7 hg6 ⊢
    unfold wmL
    skip
    refine K.fact (p := st.length ≤ 9223372036854775807) (fun w hw => ?_) ?_
    ·have h1 := (hm w (hw.part byPart)).le
     unfold maxLen at h1
     omega
    intro hstl
    refine zau ?_
    refine zf ?_
    refine zia ?_
    (first | (refine KL.v rfl (Val.sub rfl rfl (by simp only [Go.Proofs.YtalholahapcpkaaGreatDoor.lo, Go.Proofs.YtalholahapcpkaaGreatDoor.hi]; omega)) ?_) | (refine KL.v rfl (Val.subW rfl rfl) ?_))
    refine za0 ?_
    refine K.cutE (σ := LmB) [(7, _), (9, _)] bySub (fun s kp_ => kp_) (fun s => wmH (setk X5 k6) ++ (wmH (setk Y5 s.k) ++ ((b7, cells (wmL g long X5 kk) 99) :: (b9, cells (wmL g long Y5 kk) 99) :: F))) (fun s => s.k.b = Y5.k.b ∧ WmR w0 g long 2 (setk Y5 s.k) ⟨W, s.m, kk⟩ ∧ Goes g long W (newM g nw true) s.m) ?_ ?_
    ·refine K.block ?_
     refine K.loopT (σ := LmB) [(2, _), (7, _), (9, _)] (fun s kp_ => (13, .int .i64 ((s.i : Nat) - 1)) :: kp_) (fun s => wmH (setk X5 k6) ++ (wmH (setk Y5 s.k) ++ ((b7, cells (wmL g long X5 kk) 99) :: (b9, cells (wmL g long Y5 kk) 99) :: F))) (fun s => s.i ≤ st.length ∧ s.k.b = Y5.k.b ∧ WmR w0 g long 2 (setk Y5 s.k) ⟨W, s.m, kk⟩ ∧ Goes g long W (newM g nw true) s.m) (fun s => s.i) (⟨st.length, j1, newM g nw true⟩) bySub byPart (⟨Nat.le_refl _, hc1, hY1, .refl⟩) ?_
     rintro ⟨i, k2, m2⟩ ⟨hi, hb2, hX2, hg2⟩
     dsimp only at hi hb2 hX2 hg2 ⊢
     unfold wmL
     by_cases h0 : i = 0
     ·subst h0
      have e0 : (((0 : Nat) : Int) - 1) = -1 := rfl
      rw [e0]
      refine zv ?_
      refine zaJ ?_
      refine zcl ?_
      refine zlW ?_
      exact zgc
     ·obtain ⟨n, rfl⟩ : ∃ n, i = n + 1 := ⟨i - 1, by omega⟩
      have e1 : (((n + 1 : Nat) : Int) - 1) = (n : Nat) := by omega
      rw [e1]
      have h0' : ((n : Nat) : Int) ≥ 0 := by omega
      by_cases hlt : ((n : Nat) : Int) ≥ ((st.length : Nat) : Int) - 200
      ·obtain ⟨x, hx⟩ := get_of_lt (l := st) (k := n) (by omega)
       have hxo := hmw x (List.mem_of_getElem? hx)
       have hst := fun A => mStep_K (F := A) (hd := x.i) (v := (x.u : Nat)) hG hX2 hb2 (by have := hxo.2; omega)
       refine zv ?_
       refine zes ?_
       refine zdt ?_
       refine zkF ?_
       refine zm ?_
       refine z8 ?_
       refine zC ?_
       refine zlZ ?_
       refine zjB ?_
       refine zg0 ?_
       refine zgt ?_
       refine zhm ?_
       refine zgt ?_
       refine zjC ?_
       refine zax ?_
       refine zl fun T hT => ?_
       refine ze8 ?_
       rintro _ _ ⟨rfl, k3, hb3, hX3, rfl⟩
       refine zi ?_
       clear hT T
       refine zV ?_
       refine zjF ?_
       refine zkF ?_
       refine zbE ?_
       exact KE.again ⟨n, k3, _⟩ bySub byPart ⟨by show n ≤ st.length; omega, hb3, hX3, hg2.tryM⟩ (by show n < n + 1; omega)
      ·refine K.seq ?_
       refine zbt ?_
       refine zes ?_
       refine zdt ?_
       refine zkF ?_
       refine zm ?_
       refine zaJ ?_
       refine zlX ?_
       exact zgc
    ·rintro ⟨_, j6, o6⟩ ⟨hc6, hY7, hh6⟩
     dsimp only at hc6 hY7 hh6 ⊢
     have ha6 : m6.act = true := (goes_ok okg (new_ok (W := W) hlg.1 hnw8) hWw new_in hg6).act
     have hl6 : leftM g W m6 ≤ lim g W := by have := goes_lim okg (new_ok (W := W) hlg.1 hnw8) hWw new_in hlim0 hg6; omega
     have hao : o6.act = true := (goes_ok okg (new_ok (W := W) hlg.1 hnw8) hWw new_in hh6).act
     have hlo : leftM g W o6 ≤ lim g W := by have := goes_lim okg (new_ok (W := W) hlg.1 hnw8) hWw new_in hlim0 hh6; omega
     unfold wmL
     refine zc1 ?_
     refine zp fun T hT => ?_
     refine (CallV.part (CallV.fn (finish_K hG hX7 hb6 ha6 hl6)) byPart).mono ?_
     rintro _ _ ⟨rfl, k7, m7, hb7, hg7, hd7, hX8, rfl⟩
     refine zd ?_
     clear hT T
     refine zF ?_
     refine zu ?_
     refine zcm fun T hT => ?_
     refine (CallV.part (CallV.fn (finish_K hG hY7 hc6 hao hlo)) byPart).mono ?_
     rintro _ _ ⟨rfl, j7, o7, hc7, hh7, he7, hY8, rfl⟩
     have hgg := hg6.trans hg7
     have hhh := hh6.trans hh7
     have hLl : g.L.length = g.slots := L_len
     have hsL : Sli w0 (wmH (setk X5 k7) ++ []) slE X5.v.L g.L := sli_nil (hX5.W.B.p.L.part setk_part)
     have hsN : Sli w0 (wmH (setk X5 k7) ++ []) iE X5.z.vn W.N := sli_nil (hX5.W.N.part setk_part)
     have hNl : W.N.length = g.slots := hWw.N
     have hok7 := (goes_ok okg (new_ok (W := W) hlg.1 hnw8) hWw new_in hgg).ok
     refine zd ?_
     clear hT T
     refine zbQ ?_
     refine zn ?_
     refine zaW ?_
     refine zaE ?_
     refine K.loopT (σ := LmC) [(7, _), (9, _)] (fun s kp_ => (14, .int .i64 (s.i : Nat)) :: kp_) (fun s => wmH (setk X5 k7) ++ (wmH (setk Y5 j7) ++ ((b7, cells (wmL g long X5 kk) 99) :: (b9, cells (wmL g long Y5 kk) 99) :: F))) (fun s => s.i ≤ g.slots) (fun s => g.slots - s.i) (⟨0⟩) bySub byPart (Nat.zero_le _) ?_
     rintro ⟨j⟩ hj
     dsimp only at hj ⊢
     unfold wmL
     by_cases hjs : j < g.slots
     ·have hjl : j < g.L.length := by omega
      have hob : g.slots ≤ 4294967296 := by have := okg.slots; omega
      obtain ⟨c, hc⟩ := C_at hok7 hjs
      have hc' : o7.C[j]? = some c := (same_all okg hWw hlg.1 hnw8 hnw8 hgg hd7 hhh he7 hjs).symm.trans hc
      obtain ⟨n, hn⟩ := get_of_lt (l := W.N) (k := j) (by omega)
      have hcnt := fun A => wmCount_K (w0 := w0) (F := A) (s := j) (kb := X5.N.b) hX8.q rfl
      simp only [hn, Option.getD_some] at hcnt
      refine zv ?_
      refine zb8 ?_
      refine zcP ?_
      refine za3 ?_
      refine zg8 fun T hT => ?_
      refine zkE ?_
      refine ze ?_
      clear hT T
      refine zbw ?_
      refine zg8 fun T hT => ?_
      refine (CallV.part (CallV.fn (mOf_K hY8 hc7 hc')) byPart).mono ?_
      refine ze ?_
      clear hT T
      refine zgD ?_
      refine K.drawn _ [(0, 0), (1, 0), (2, 0), (3, 0), (4, 0), (5, 0), (6, 0), (7, 0), (8, 0), (9, 0), (10, 0), (11, 0), (12, 0), (13, 0), (14, 0), (16, 1), (17, 1), (18, 1), (19, 1), (20, 1), (21, 1), (15, 2), (22, 0), (23, 0)] (by kernel_rfl) (by kernel_rfl) (by kernel_rfl) (by kernel_rfl) (by kernel_rfl) (by kernel_rfl) Part.all ?_
      refine zcd ?_
      refine zkX ?_
      refine zkG ?_
      refine za9 ?_
      refine zbd ?_
      refine zkG ?_
      refine za9 ?_
      refine zo ?_
      refine zc9 ?_
      refine zcu ?_
      refine KD.y1 rfl rfl rfl rfl (Val.fieldAddr0 (k := 4) rfl rfl) ?_
      refine KD.y1 rfl rfl rfl rfl (Val.fieldAddr (k := 9) rfl rfl) ?_
      refine zhB ?_
      refine KD.y1 rfl rfl rfl rfl (Val.move rfl) ?_
      refine KD.y1 rfl rfl rfl rfl (Val.idxSl rfl rfl rfl bySli rfl byLt) ?_
      refine KD.y1 rfl rfl rfl rfl (Val.loadP rfl rfl bySee) ?_
      refine zb2 fun T hT => ?_
      refine (CallV.part (CallV.fn (hcnt _)) byPart).mono ?_
      refine zab ?_
      clear hT T
      refine zkG ?_
      refine zbR ?_
      refine zgQ ?_
      refine zbr ?_
      exact KE.again ⟨j + 1⟩ bySub byPart hjs (by show g.slots - (j + 1) < g.slots - j; omega)
     ·have hjl : ¬ j < g.L.length := by omega
      have hlv := fun A => wmLive_K (w0 := w0) (F := A) (kb := X5.T.b) hX8.q rfl
      have hlw2 := fun A => wmLive_K (w0 := w0) (F := A) (kb := Y5.T.b) hY8.q rfl
      dsimp only at hlv hlw2
      refine zv ?_
      refine zb8 ?_
      refine zcP ?_
      refine zdd ?_
      refine zbO ?_
      refine zbC ?_
      refine K.drawn _ [(0, 0), (1, 0), (3, 1), (4, 1), (2, 2), (5, 2), (6, 0), (7, 0), (8, 2), (9, 0), (10, 0)] (by kernel_rfl) (by kernel_rfl) (by kernel_rfl) (by kernel_rfl) (by kernel_rfl) (by kernel_rfl) Part.all ?_
      refine zdj ?_
      refine ziN ?_
      refine zb0 ?_
      refine zl fun T hT => ?_
      refine (CallV.part (CallV.fn (hlv _)) byPart).mono ?_
      refine zab ?_
      clear hT T
      refine zl fun T hT => ?_
      refine (CallV.part (CallV.fn (hlw2 _)) byPart).mono ?_
      refine zab ?_
      clear hT T
      refine zdK ?_
      refine zo ?_
      refine zb2 fun T hT => ?_
      refine zdb ?_
      rintro _ _ ⟨rfl, rfl⟩
      refine zi ?_
      clear hT T
      refine zbj ?_
      exact zdU
end Go.Proofs.YtalholahapcpkaaGreatDoor.Sw
