/- The walker and the contracts that the law needs, part 32. -/
import Derived.Test.YtalholahapcpkaaGreatDoorD1
import Derived.Test.YtalholahapcpkaaGreatDoorJ26
import Derived.Test.YtalholahapcpkaaGreatDoorJ27
import Derived.Test.YtalholahapcpkaaGreatDoorJ28
import Derived.Test.YtalholahapcpkaaGreatDoorJ31
namespace Go.Proofs.YtalholahapcpkaaGreatDoor.Sw
open Go.Proofs.YtalholahapcpkaaGreatDoor renaming lo → qL, hi → qH
open Go.RowKit
set_option linter.unusedVariables false
set_option linter.unusedSimpArgs false
set_option maxRecDepth 10000
def mactL (a : MActP) : List Value := [.int .u8 (a.w : Nat), .int .i64 a.s, .int .i64 a.i, .int .i64 a.t, .int .i64 a.r, .int .u8 (a.u : Nat)]
def WmP (w0 : World) (g : PlG) (long nf : Nat) (S' : MsP) (F : Heap) (f : Value → Value) (r : Value) (H' : Heap) : Prop :=
 ∃ X' : WmM, WmR w0 g long nf X' S' ∧ r = f (.agg (wmL g long X' S'.k).toArray) ∧ H' = wmH X' ++ F
section
variable {w0 : World} {g : PlG} {long nf : Nat} {X : WmM} {S : MsP} {F : Heap} {a : MActP}
theorem WmR.to {k' : MkM} {m' kk : MaP} {q' : KmV} {D' : Heap} (h : WmR w0 g long nf X S) (kok : MkOk k' X.B.p) (kto : MkTo X.k k') (kR : MkR k' X.B.p m') (hm : MaOk g long S.W m') (hp : Part D' X.D) (hK : KmD w0 D' q' kk) (hk : MaOk g long S.W kk)
  (lm : m'.steps + leftM g S.W m' ≤ S.m.steps + leftM g S.W S.m) (lk : kk.steps + leftM g S.W kk ≤ S.k.steps + leftM g S.W S.k) : WmR w0 g long nf ⟨X.B, X.T, X.N, k', X.v, X.z, q', D'⟩ ⟨S.W, m', kk⟩ :=
 ⟨h.eg, kto.f.trans h.fl, kto.l.trans h.el, h.p.to kto, kok, kR, hm, hk, h.lg, h.W.part hp, hK, h.t, h.mem, Nat.le_trans lm h.lm, Nat.le_trans lk h.lk, h.n, h.wd⟩
theorem WmR.turn {B' : BoM} {T' : TbM} {N' : PiM} {z' : KwV} {D' : Heap} (h : WmR w0 g long nf X S) (ep : B'.p = X.B.p) (eb : B'.b = X.B.b) (hbo : BoOk B' (actW g S.W a).x) (htb : TbOk T') (hpi : PiOk N') (eT : T'.l = (actW g S.W a).T) (eN : N'.l = (actW g S.W a).N) (tb : T'.b = X.T.b) (nb : N'.b = X.N.b)
  (hD : KwD w0 D' X.v g z' (actW g S.W a)) (hp : Part D' X.D) (t' : B'.t = 0) (hmem : rwX z'.R = B'.m.R) : WmR w0 g long nf ⟨B', T', N', X.k, X.v, z', X.q, D'⟩ ⟨actW g S.W a, S.m, S.k⟩ := by
 have hlen := actW_len (g := g) (W := S.W) (a := a)
 have hl : ∀ m, leftM g (actW g S.W a) m = leftM g S.W m := fun m => left_world hlen
 refine ⟨?_, h.fl, h.el, ⟨hbo, htb, hpi, eT, eN, h.p.bb.trans eb.symm, h.p.tbb.trans tb.symm, h.p.nb.trans nb.symm, ?_⟩, ?_, ?_, h.m.world hlen fun t ht hq => actW_refs h.okg h.W.w ht hq, h.k.world hlen fun t ht hq => actW_refs h.okg h.W.w ht hq, h.lg, hD, h.K.part hp, t', hmem, ?_, ?_, ?_, h.wd⟩
 ·show B'.p.g = g; rw [ep]; exact h.eg
 ·show MwOk B'.p.g _; rw [ep, h.eg]; exact hD.w
 ·show MkOk X.k B'.p; rw [ep]; exact h.ok
 ·show MkR X.k B'.p S.m; rw [ep]; exact h.R
 ·rw [hl]
  exact h.lm
 ·rw [hl]
  exact h.lk
 ·show (actW g S.W a).T.length ≤ 60; rw [hlen]; exact h.n
theorem KwD.put {v : PlV} {z : KwV} {W : MwP} {D D' : Heap} {vr' : Value} {R' : List RwD} {x' : List Int} (h : KwD w0 D v g z W) (hB : BoD w0 D' v vr' g R') (hY : rwX R' = (rwX z.R).set 0 x') (hw : MwOk g { W with x := x' }) (hr : RfOk g x') (hp : Part D' D) :
  KwD w0 D' v g ⟨vr', z.vt, z.vn, R', z.gens⟩ { W with x := x' } :=
 ⟨hB, h.f.next hY (hw.x.trans h.w.x.symm) hw.w, h.T.part hp, h.N.part hp, h.oT, h.oN, hw, hr, h.st⟩
theorem KwD.tab {v : PlV} {z : KwV} {W : MwP} {D D' : Heap} {vt' : Value} {T' : List EntP} (h : KwD w0 D v g z W) (hT : Sli w0 D' wE vt' (T'.map docE)) (ho : vt'.oneCell' = true) (hw : MwOk g { W with T := T' }) (hst : StOk T') (hp : Part D' D) :
  KwD w0 D' v g ⟨z.vr, vt', z.vn, z.R, z.gens⟩ { W with T := T' } :=
 ⟨h.B.part hp, h.f, hT, h.N.part hp, ho, h.oN, hw, h.rf, hst⟩
theorem KwD.pin {v : PlV} {z : KwV} {W : MwP} {D D' : Heap} {vn' : Value} {N' : List Int} (h : KwD w0 D v g z W) (hN : Sli w0 D' iE vn' N') (ho : vn'.oneCell' = true) (hw : MwOk g { W with N := N' }) (hp : Part D' D) :
  KwD w0 D' v g ⟨z.vr, z.vt, vn', z.R, z.gens⟩ { W with N := N' } :=
 ⟨h.B.part hp, h.f, h.T.part hp, hN, h.oT, ho, hw, h.rf, h.st⟩
theorem WmR.putx {X1 : List Int} {vr' : Value} {R' : List RwD} {D' : Heap} (h : WmR w0 g long nf X S) (hA : actW g S.W a = { S.W with x := X1 }) (hB : BoD w0 D' X.v vr' g R') (hY : rwX R' = (rwX X.z.R).set 0 X1) (hp : Part D' X.D) :
  WmR w0 g long nf ⟨setB X.B X1, X.T, X.N, X.k, X.v, ⟨vr', X.z.vt, X.z.vn, R', X.z.gens⟩, X.q, D'⟩ ⟨actW g S.W a, S.m, S.k⟩ := by
 have hw := actW_ok (a := a) h.okg h.W.w
 have hr := actW_rf (a := a) h.okg h.W.w h.W.rf
 have hx1 : (actW g S.W a).x = X1 := by rw [hA]
 rw [hx1] at hr
 have hw' : MwOk g { S.W with x := X1 } := by rw [← hA]; exact hw
 refine h.turn rfl rfl ?_ h.p.tb h.p.pi ?_ ?_ rfl rfl ?_ hp h.t ?_
 ·rw [hx1]
  exact setB_ok h.p.bo (hw'.x.trans h.W.w.x.symm) hw'.w
 ·rw [hA]
  exact h.p.eT
 ·rw [hA]
  exact h.p.eN
 ·rw [hA]
  exact h.W.put hB hY hw' hr hp
 ·show rwX R' = X.B.m.R.set X.B.t X1
  rw [hY, h.mem, h.t]
theorem WmR.tab {T1 : List EntP} {T' : TbM} {vt' : Value} {D' : Heap} (h : WmR w0 g long nf X S) (hA : actW g S.W a = { S.W with T := T1 }) (htb : TbOk T') (eT : T'.l = T1) (tb : T'.b = X.T.b) (hT : Sli w0 D' wE vt' (T1.map docE)) (ho : vt'.oneCell' = true) (hst : ∀ e ∈ T1, 0 ≤ e.st ∧ e.st < 4) (hp : Part D' X.D) :
  WmR w0 g long nf ⟨X.B, T', X.N, X.k, X.v, ⟨X.z.vr, vt', X.z.vn, X.z.R, X.z.gens⟩, X.q, D'⟩ ⟨actW g S.W a, S.m, S.k⟩ := by
 have hw := actW_ok (a := a) h.okg h.W.w
 have hl := actW_len (g := g) (W := S.W) (a := a)
 have hn := h.n
 rw [hA] at hl
 have hw' : MwOk g { S.W with T := T1 } := by rw [← hA]; exact hw
 refine h.turn rfl rfl ?_ htb h.p.pi ?_ ?_ tb rfl ?_ hp h.t h.mem
 ·rw [hA]
  exact h.p.bo
 ·rw [hA]
  exact eT
 ·rw [hA]
  exact h.p.eN
 ·rw [hA]
  exact h.W.tab hT ho hw' ⟨by dsimp only at hl; omega, hst⟩ hp
theorem WmR.pin {N1 : List Int} {N' : PiM} {vn' : Value} {D' : Heap} (h : WmR w0 g long nf X S) (hA : actW g S.W a = { S.W with N := N1 }) (hpi : PiOk N') (eN : N'.l = N1) (nb : N'.b = X.N.b) (hN : Sli w0 D' iE vn' N1) (ho : vn'.oneCell' = true) (hp : Part D' X.D) :
  WmR w0 g long nf ⟨X.B, X.T, N', X.k, X.v, ⟨X.z.vr, X.z.vt, vn', X.z.R, X.z.gens⟩, X.q, D'⟩ ⟨actW g S.W a, S.m, S.k⟩ := by
 have hw := actW_ok (a := a) h.okg h.W.w
 have hw' : MwOk g { S.W with N := N1 } := by rw [← hA]; exact hw
 refine h.turn rfl rfl ?_ h.p.tb hpi ?_ ?_ rfl nb ?_ hp h.t h.mem
 ·rw [hA]
  exact h.p.bo
 ·rw [hA]
  exact h.p.eT
 ·rw [hA]
  exact eN
 ·rw [hA]
  exact h.W.pin hN ho hw' hp
theorem wm_has {s : Int} (h : WmR w0 g long nf X S) : ∀ A, Call Tryz.prog w0 67 [.agg (plL X.v g).toArray, .int .i64 s] (X.D ++ A) (fun r H' => r = .bool (decide (inS g s)) ∧ H' = X.D ++ A) := fun A => rHas_K h.W.B.p h.okg
structure WmO (X : WmM) : Prop where
 q1 : X.v.L.oneCell' = true
 q2 : X.v.F.oneCell' = true
 q3 : X.v.M.oneCell' = true
 q4 : X.v.C.oneCell' = true
 q5 : X.z.vr.oneCell' = true
 q6 : X.z.vt.oneCell' = true
 q7 : X.z.vn.oneCell' = true
 q8 : X.q.c.oneCell' = true
 q9 : X.q.u.Q.oneCell' = true
 r1 : X.q.u.ow.oneCell' = true
 r2 : X.q.u.di.oneCell' = true
 r3 : X.q.h.oneCell' = true
theorem WmR.o (h : WmR w0 g long nf X S) : WmO X := ⟨h.W.B.p.oL, h.W.B.p.oF, h.W.B.p.oM, h.W.B.p.oC, h.W.B.m.o, h.W.oT, h.W.oN, h.K.oc, h.K.G.o1, h.K.G.o2, h.K.G.o3, h.K.oh⟩
set_option maxHeartbeats 4000000 in
theorem shades_K {s : Int} (hX : WmR w0 g long nf X S) :
  Call Tryz.prog w0 125 [.agg (wmL g long X S.k).toArray, .int .i64 s] (wmH X ++ F) (WmP w0 g long nf ⟨S.W, shdS g long S.m s, shdS g long S.k s⟩ F id) := by
 have hhas := wm_has (s := s) hX
 obtain ⟨q1, q2, q3, q4, q5, q6, q7, q8, q9, r1, r2, r3⟩ := hX.o
 unfold WmP id
 by_cases hin : inS g s
 ·obtain ⟨s0, rfl⟩ : ∃ s0 : Nat, s = s0 := ⟨s.toNat, by have := hin.1; omega⟩
  have hs0 : s0 < g.slots := by have := hin.2; omega
  have hsh := fun A => mkShade_K (w0 := w0) (F := A) (s := s0) hX.ok hX.R (by rw [hX.eg]; exact hs0)
  rw [hX.eg, hX.el] at hsh
  have hrs := fun A => rkShade_K (w0 := w0) (F := A) hX.W.B.p hX.okg hX.K hX.k hX.lg.2 hs0
  have e1 : shdS g long S.m (s0 : Nat) = shdM g long S.m (s0 : Nat) := if_pos hin
  have e2 : shdS g long S.k (s0 : Nat) = shdM g long S.k (s0 : Nat) := if_pos hin
  have okm := shdS_ok hX.okg hX.m (s0 : Nat)
  have okk := shdS_ok hX.okg hX.k (s0 : Nat)
  have lm := shdS_left hX.okg hX.m (s0 : Nat)
  have lk := shdS_left hX.okg hX.k (s0 : Nat)
  have sm := (shdS_hs (g := g) (long := long) (m := S.m) (s0 : Nat)).2.2.2
  have sk := (shdS_hs (g := g) (long := long) (m := S.k) (s0 : Nat)).2.2.2
  simp only [e1, e2] at *
  have hto := fun k' q' D' kok kto kR hp hK => hX.to (k' := k') (q' := q') (D' := D') kok kto kR okm hp hK okk (by rw [sm]; omega) (by rw [sk]; omega)
  obtain ⟨km, hkm⟩ : ∃ km, shdM g long S.m (s0 : Nat) = km := ⟨_, rfl⟩
  obtain ⟨kk, hkk⟩ : ∃ kk, shdM g long S.k (s0 : Nat) = kk := ⟨_, rfl⟩
  simp only [hkm, hkk] at *
  rw [decide_eq_true hin] at hhas
  unfold KmG id at hrs
  clear okm okk lm lk sm sk e1 e2 hkm hkk
  unfold plL at hhas
  obtain ⟨B, T, N, k, v, z, q, D⟩ := X
  unfold kmL at hrs
  unfold wmL
  dsimp only at *
  refine Call.enter2 (n := 21) (by kernel_rfl) Tryz.func125 rfl rfl rfl ?_
  rw [wmH_app, seenH_app]
  refine zeR ?_; intro b2 b4
  refine zb8 ?_
  refine zz fun T hT => ?_
  refine zip ?_
  refine ze ?_
  clear hT T
  refine zI ?_
  refine zg8 fun T hT => ?_
  refine zhx ?_
  rintro _ _ ⟨rfl, k', kok, kto, kR, rfl⟩
  refine zd ?_
  clear hT T
  refine zc3 ?_
  refine zaZ ?_
  refine zz fun T hT => ?_
  refine (CallV.part (CallV.fn (hrs _)) byPart).mono ?_
  rintro _ _ ⟨q', N1, hK', rfl, rfl⟩
  have p1 := hK'.oc
  have p2 := hK'.G.o1
  have p3 := hK'.G.o2
  have p4 := hK'.G.o3
  have p5 := hK'.oh
  have hX' := hto k' q' (N1 ++ D) kok kto kR byPart hK'
  refine zd ?_
  clear hT T
  refine zaZ ?_
  refine zcj ?_
  refine zbx ?_
  exact KE.fin (H' := wmH ⟨B, T, N, k', v, z, q', N1 ++ D⟩ ++ F) byMarks rfl byRes (by simp only [wmH_app, seenH_app, List.append_assoc]; exact byPart) ⟨⟨B, T, N, k', v, z, q', N1 ++ D⟩, hX', by dsimp only [wmL]; rw [kto.b]; rfl, rfl⟩
 ·have e1 : shdS g long S.m s = S.m := if_neg hin
  have e2 : shdS g long S.k s = S.k := if_neg hin
  rw [e1, e2]
  rw [decide_eq_false hin] at hhas
  unfold plL at hhas
  obtain ⟨B, T, N, k, v, z, q, D⟩ := X
  unfold wmL
  dsimp only at *
  refine Call.enter2 (n := 21) (by kernel_rfl) Tryz.func125 rfl rfl rfl ?_
  rw [wmH_app, seenH_app]
  refine zeR ?_; intro b2 b4
  refine zb8 ?_
  refine zz fun T hT => ?_
  refine zip ?_
  refine ze ?_
  clear hT T
  refine zM ?_
  refine zbx ?_
  exact zei
set_option maxHeartbeats 4000000 in
theorem makes_K (hG : Glob w0) (hX : WmR w0 g long nf X S) (hw : a.w % 10 < 2) :
  Call Tryz.prog w0 122 [.agg (wmL g long X S.k).toArray, .agg (mactL a).toArray] (wmH X ++ F) (WmP w0 g long nf (actS2 g long S a) F id) := by
 have hhas := wm_has (s := a.s) hX
 obtain ⟨q1, q2, q3, q4, q5, q6, q7, q8, q9, r1, r2, r3⟩ := hX.o
 have hS : actS2 g long S a = ⟨actW g S.W a, S.m, S.k⟩ := by unfold actS2 actK; simp only [if_pos hw]
 rw [hS]
 unfold WmP id
 by_cases hin : inS g a.s
 ·obtain ⟨s0, y, es, hy, hya⟩ := slot_ex hin
  have hAW : actW g S.W a = { S.W with x := (makeP S.W.x y (hdM y a.r)).2 } := by unfold actW; rw [if_pos hw, if_pos hin, hya]
  have hmake := fun A => Make_K (w0 := w0) (F := A) (h := hdM y a.r) hG hX.p.bo (by rw [hX.eg]; exact hy)
  have hrmake := fun A => rbMake_K (w0 := w0) (F := A) (h := hdM y a.r) hX.W.B hX.W.f hy
  have hPL := hX.W.B.p.L
  have hfit := hX.okg.fits hy
  have hsl := hX.okg.slots
  have hLl := L_len (g := g)
  have hs0 : s0 < g.L.length := lt_of_get hy
  obtain ⟨X1, hX1⟩ : ∃ X1, (makeP S.W.x y (hdM y a.r)).2 = X1 := ⟨_, rfl⟩
  rw [hX1] at hAW
  simp only [hX1] at hmake hrmake
  obtain ⟨e1, he1⟩ : ∃ e1, (makeP S.W.x y (hdM y a.r)).1 = e1 := ⟨_, rfl⟩
  simp only [he1] at hmake hrmake
  have hto := fun vr' R' D' hB hY hp => hX.putx (vr' := vr') (R' := R') (D' := D') hAW hB hY hp
  rw [decide_eq_true hin] at hhas
  unfold plL at hhas
  unfold hdV hdM at hmake hrmake
  unfold boL at hrmake
  clear hX1 he1 hAW hS hya
  obtain ⟨B, T, N, k, v, z, q, D⟩ := X
  obtain ⟨aw, sa, ai, at_, ar, au⟩ := a
  unfold wmL mactL
  dsimp only at *
  subst es
  refine Call.enter2 (n := 54) (by kernel_rfl) Tryz.func122 rfl rfl rfl ?_
  rw [wmH_app, seenH_app]
  refine zb4 ?_; intro b2 b3 b4
  refine zbM ?_
  refine zb8 ?_
  refine zdC fun T hT => ?_
  refine zip ?_
  refine ze ?_
  clear hT T
  refine zaG ?_
  refine zb8 ?_
  refine zcP ?_
  refine zU ?_
  refine zc4 ?_
  refine zfQ ?_; intro b5
  refine zy ?_
  refine zJ ?_
  refine zZ ?_
  refine zk ?_
  refine KL.v rfl (Val.max rfl rfl) ?_
  refine zU ?_
  refine zbi ?_
  refine KL.v rfl (Val.min rfl rfl) ?_
  refine zaf ?_
  refine zay ?_; intro b6
  refine zy ?_
  refine zJ ?_
  refine zU ?_
  refine zp fun T hT => ?_
  rw [show (if ((y.size : Nat) : Int) - 1 < (if ar < 0 then 0 else ar) then ((y.size : Nat) : Int) - 1 else (if ar < 0 then 0 else ar)) = min (max ar 0) (((y.size : Nat) : Int) - 1) by rw [Int.min_def, Int.max_def]; repeat' split; all_goals omega]
  refine (CallV.part (CallV.fn (hmake _)) byPart).mono ?_
  refine ze ?_
  clear hT T
  refine zy ?_
  refine zgh ?_
  refine zB ?_
  refine zU ?_
  refine zp fun T hT => ?_
  refine (CallV.part (CallV.fn (hrmake _)) byPart).mono ?_
  rintro _ _ ⟨vr', R', N1, hB', hY', rfl, rfl⟩
  have q5' := hB'.m.o
  have hX' := hto vr' R' (N1 ++ D) hB' hY' byPart
  refine zd ?_
  clear hT T
  refine zai ?_
  refine zgh ?_
  refine zcj ?_
  refine zbx ?_
  exact KE.fin (H' := wmH ⟨setB B X1, T, N, k, v, ⟨vr', z.vt, z.vn, R', z.gens⟩, q, N1 ++ D⟩ ++ F) byMarks rfl byRes (by simp only [wmH_app, seenH_app, List.append_assoc, show bodyH (setB B X1) = bodyH B from rfl, show (setB B X1).m = putM B.m B.t X1 from rfl, show (setB B X1).p = B.p from rfl]; exact byPart) ⟨_, hX', rfl, rfl⟩
 ·have hAW : actW g S.W a = S.W := by unfold actW; rw [if_pos hw, if_neg hin]
  rw [hAW]
  rw [decide_eq_false hin] at hhas
  unfold plL at hhas
  obtain ⟨B, T, N, k, v, z, q, D⟩ := X
  obtain ⟨aw, sa, ai, at_, ar, au⟩ := a
  unfold wmL mactL
  dsimp only at *
  refine Call.enter2 (n := 54) (by kernel_rfl) Tryz.func122 rfl rfl rfl ?_
  rw [wmH_app, seenH_app]
  refine zb4 ?_; intro b2 b3 b4
  refine zbM ?_
  refine zb8 ?_
  refine zdC fun T hT => ?_
  refine zip ?_
  refine ze ?_
  clear hT T
  refine zat ?_
  refine zbx ?_
  refine zaH ?_
  exact zei
end
open Go.RowKit
set_option maxRecDepth 10000
section
variable {g : PlG} {long : Nat} {W W' : MwP} {m m' m1 : MaP}
theorem Goes.tryM {k u : Int} (h : Goes g long W m m1) : Goes g long W m ((stepM g long W m1 k u).getD m1) := by
 cases hs : stepM g long W m1 k u with
 | none => exact h
 | some m2 => exact .step h hs
theorem Goes.help {m2 : MaP} (h : Goes g long W m m1) (hs : helpM g long W m1 = some m2) : Goes g long W m m2 := by
 obtain ⟨k, u, hk⟩ := help_step hs
 exact .step h hk
def lim (g : PlG) (W : MwP) : Nat := 18 * g.words + W.T.length
theorem goes_lim (ok : PlOk g) (hm : MaOk g long W m) (hW : MwOk g W) (hi : MaIn m) (hl : m.steps + leftM g W m ≤ lim g W) (h : Goes g long W m m') : m'.steps + leftM g W m' ≤ lim g W := by
 have := (goes_ok ok hm hW hi h).left; omega
theorem same_all (ok : PlOk g) (hW : MwOk g W) {nw nw' : Nat} (hl : 1 ≤ long) (hn : nw ≤ 8) (hn' : nw' ≤ 8) (h : Goes g long W (newM g nw true) m) (hd : doneM g W m = true) (h' : Goes g long W (newM g nw' true) m') (hd' : doneM g W m' = true) {s : Nat} (hs : s < g.slots) : m.C[s]? = m'.C[s]? := by
 obtain ⟨a1, a2⟩ := exact_all ok hW hl hn h hd hs
 obtain ⟨b1, b2⟩ := exact_all ok hW hl hn' h' hd' hs
 by_cases hr : RchM g W s
 ·rw [a1 hr, b1 hr]
 ·rw [a2 hr, b2 hr]
structure SnIn (g : PlG) (W0 W : MwP) (m0 m : MaP) : Prop where
 i : MaIn m
 k : Keep g W0 W m0 m
 act : m.act = true
 left : leftM g W m ≤ lim g W
theorem SnIn.new {nw : Nat} (ok : PlOk g) : SnIn g W W (newM g nw true) (newM g nw true) := ⟨new_in, Keep.refl, rfl, start_left ok nw⟩
theorem SnIn.next {W0 : MwP} {m0 : MaP} {a : MActP} (ok : PlOk g) (h : SnIn g W0 W m0 m) (hm : MaOk g long W m) (hW : MwOk g W) (h2 : ¬ a.w % 10 < 2) : SnIn g W0 (actW g W a) m0 (actK g long W m a) := by
 obtain ⟨h3, h4⟩ := act_keep ok hm hW h.i h.act h2
 obtain ⟨_, _, h5, _⟩ := actK_all (a := a) ok hm
 refine ⟨h3, h.k.trans h4, h5.trans h.act, ?_⟩
 have h6 := actK_left (a := a) ok hm
 have h7 := h.left
 unfold lim at *
 rw [actW_len]; omega
theorem SnIn.goes {W0 : MwP} {m0 : MaP} (ok : PlOk g) (h : SnIn g W0 W m0 m) (hm : MaOk g long W m) (hW : MwOk g W) (hg : Goes g long W m m') : MaOk g long W m' ∧ MaIn m' ∧ Keep g W0 W m0 m' := by
 have h1 := goes_ok ok hm hW h.i hg
 exact ⟨h1.ok, h1.mic.i, h.k.trans h1.mic.k⟩
theorem snap_all {W0 : MwP} {nw : Nat} (hW0 : MwOk g W0) (hm : MaOk g long W m) (hi : MaIn m) (hk : Keep g W0 W (newM g nw true) m) (hd : doneM g W m = true) {s : Nat} (hs : s < g.slots) : (RchM g W0 s → m.C[s]? = some 2) ∧ m.C[s]? ≠ some 1 := by
 obtain ⟨h1, h2⟩ := snap_end hm hi hd hs
 exact ⟨fun hr => h1 ((new_prot hW0 hr).keep hk), h2⟩
theorem C_at (hm : MaOk g long W m) {s : Nat} (hs : s < g.slots) : ∃ c, m.C[s]? = some c := get_of_lt (by rw [hm.C]; exact hs)
end
open Go.RowKit
set_option maxRecDepth 10000
def WmK (w0 : World) (g : PlG) (long nf : Nat) (X : WmM) (W : MwP) (m' kk : MaP) (kb : Nat) (F : Heap) (H' : Heap) : Prop :=
 ∃ k' : MkM, k'.b = kb ∧ WmR w0 g long nf (setk X k') ⟨W, m', kk⟩ ∧ H' = wmH (setk X k') ++ F
section
variable {w0 : World} {g : PlG} {long nf nf' : Nat} {X : WmM} {k : MkM} {W : MwP} {m m' kk : MaP} {F H' : Heap} {kb : Nat}
theorem setk_part {k' : MkM} : Part (wmH (setk X k')) X.D := by
 show Part (markH k' X.B.p ++ (planH X.B.p ++ (seenH X.B X.T X.N ++ X.D))) X.D
 exact byPart
theorem wqk_m (h : WmR w0 g long nf (setk X k) ⟨W, m, kk⟩) (hkb : k.b = kb) (hq : WqK g long nf' (setk X k) W m' F H') : WmK w0 g long nf' X W m' kk kb F H' := by
 obtain ⟨k', h1, h2, h3⟩ := hq
 exact ⟨k', h1.trans hkb, WmR.back (X := setk X k) h h2, h3⟩
theorem mStart_K (h : WmR w0 g long nf (setk X k) ⟨W, m, kk⟩) (hkb : k.b = kb) (ha : m.act = false) (hn : nf ≤ 1000000) : Call Tryz.prog w0 42 [.pointer (some ⟨kb, 0, none⟩)] (wmH (setk X k) ++ F)
  (fun r H' => r = .int .i64 0 ∧ WmK w0 g long (nf + 1) X W (startM g m) kk kb F H') :=
 (wmStart_K h.q hkb ha hn).mono fun _ _ hh => ⟨hh.1, wqk_m h hkb hh.2⟩
theorem mStart_E (h : WmR w0 g long nf (setk X k) ⟨W, m, kk⟩) (hkb : k.b = kb) (ha : m.act = true) : Call Tryz.prog w0 42 [.pointer (some ⟨kb, 0, none⟩)] (wmH (setk X k) ++ F)
  (fun r H' => r = .int .i64 9 ∧ H' = wmH (setk X k) ++ F) := wmStart_E h.q hkb ha
theorem mStep_K {hd v : Int} (hG : Glob w0) (h : WmR w0 g long nf (setk X k) ⟨W, m, kk⟩) (hkb : k.b = kb) (hv : 0 ≤ v ∧ v < 256) : Call Tryz.prog w0 37 [.pointer (some ⟨kb, 0, none⟩), .int .i64 hd, .int .u8 v] (wmH (setk X k) ++ F)
  (fun r H' => r = .bool (stepM g long W m hd v).isSome ∧ WmK w0 g long nf X W ((stepM g long W m hd v).getD m) kk kb F H') :=
 (wmStep_K hG h.q hkb hv).mono fun _ _ hh => ⟨hh.1, wqk_m h hkb hh.2⟩
theorem mHelp_K (hG : Glob w0) (h : WmR w0 g long nf (setk X k) ⟨W, m, kk⟩) (hkb : k.b = kb) : Call Tryz.prog w0 38 [.pointer (some ⟨kb, 0, none⟩)] (wmH (setk X k) ++ F)
  (fun r H' => r = .bool (helpM g long W m).isSome ∧ WmK w0 g long nf X W ((helpM g long W m).getD m) kk kb F H') :=
 (wmHelp_K hG h.q hkb).mono fun _ _ hh => ⟨hh.1, wqk_m h hkb hh.2⟩
theorem mDone_K (hG : Glob w0) (h : WmR w0 g long nf (setk X k) ⟨W, m, kk⟩) (hkb : k.b = kb) : Call Tryz.prog w0 39 [.pointer (some ⟨kb, 0, none⟩)] (wmH (setk X k) ++ F)
  (fun r H' => r = .bool (doneM g W m) ∧ H' = wmH (setk X k) ++ F) := wmDone_K hG h.q hkb
theorem mStop_K (h : WmR w0 g long nf (setk X k) ⟨W, m, kk⟩) (hkb : k.b = kb) (ha : m.act = true) : Call Tryz.prog w0 43 [.pointer (some ⟨kb, 0, none⟩)] (wmH (setk X k) ++ F)
  (fun r H' => r = .int .i64 0 ∧ WmK w0 g long nf X W { m with act := false } kk kb F H') :=
 (wmStop_K h.q hkb ha).mono fun _ _ hh => ⟨hh.1, wqk_m h hkb hh.2⟩
theorem mStop_E (h : WmR w0 g long nf (setk X k) ⟨W, m, kk⟩) (hkb : k.b = kb) (ha : m.act = false) : Call Tryz.prog w0 43 [.pointer (some ⟨kb, 0, none⟩)] (wmH (setk X k) ++ F)
  (fun r H' => r = .int .i64 9 ∧ H' = wmH (setk X k) ++ F) := wmStop_E h.q hkb ha
theorem mActive_K (h : WmR w0 g long nf (setk X k) ⟨W, m, kk⟩) (hkb : k.b = kb) : Call Tryz.prog w0 40 [.pointer (some ⟨kb, 0, none⟩)] (wmH (setk X k) ++ F)
  (fun r H' => r = .bool m.act ∧ H' = wmH (setk X k) ++ F) := wmActive_K h.q hkb
theorem mSteps_K (h : WmR w0 g long nf (setk X k) ⟨W, m, kk⟩) (hkb : k.b = kb) : Call Tryz.prog w0 45 [.pointer (some ⟨kb, 0, none⟩)] (wmH (setk X k) ++ F)
  (fun r H' => r = .int .i64 (m.steps : Nat) ∧ H' = wmH (setk X k) ++ F) := wmSteps_K h.q hkb
theorem mOf_K {s : Nat} {c : Int} (h : WmR w0 g long nf (setk X k) ⟨W, m, kk⟩) (hkb : k.b = kb) (hc : m.C[s]? = some c) : Call Tryz.prog w0 36 [.pointer (some ⟨kb, 0, none⟩), .int .i64 (s : Nat)] (wmH (setk X k) ++ F)
  (fun r H' => r = .tuple [.int .u8 c, .int .i64 0].toArray ∧ H' = wmH (setk X k) ++ F) := wmOf_K h.q hkb hc
theorem mHand_K {hd : Int} (h : WmR w0 g long nf (setk X k) ⟨W, m, kk⟩) (hkb : k.b = kb) : Call Tryz.prog w0 41 [.pointer (some ⟨kb, 0, none⟩), .int .i64 hd] (wmH (setk X k) ++ F)
  (fun r H' => r = .tuple [.int .i64 (handI m hd).slot, .int .i64 (handI m hd).field, .bool (handI m hd).is].toArray ∧ H' = wmH (setk X k) ++ F) := wmHand_K h.q hkb
theorem sli_nil {H : Heap} {α : Type} {E : Enc α} {v : Value} {xs : List α} (h : Sli w0 H E v xs) : Sli w0 (H ++ []) E v xs := by rw [List.append_nil]; exact h
structure FnA where
 i : Nat
 k : MkM
 m : MaP
set_option maxHeartbeats 4000000 in
theorem finish_K (hG : Glob w0) (hX : WmR w0 g long nf (setk X k) ⟨W, m, kk⟩) (hkb : k.b = X.k.b) (ha : m.act = true) (hl : leftM g W m ≤ lim g W) :
  Call Tryz.prog w0 50 [.agg (wmL g long X kk).toArray] (wmH (setk X k) ++ F)
   (fun r H' => r = .bool true ∧ ∃ (k' : MkM) (m' : MaP), k'.b = X.k.b ∧ Goes g long W m m' ∧ doneM g W m' = true ∧ WmR w0 g long nf (setk X k') ⟨W, m', kk⟩ ∧ H' = wmH (setk X k') ++ F) := by
 obtain ⟨q1, q2, q3, q4, q5, q6, q7, q8, q9, r1, r2, r3⟩ := hX.o
 have hT : Sli w0 X.D wE X.z.vt (W.T.map docE) := hX.W.T
 have hTn : (W.T.map docE).length = W.T.length := List.length_map ..
 have okg := hX.okg
 have hwd := hX.wd
 have hn : W.T.length ≤ 60 := hX.n
 have hTh := fun k' : MkM => (setk_part : Part (wmH (setk X k')) X.D)
 have hhelp := fun A k' m' (h : WmR w0 g long nf (setk X k') ⟨W, m', kk⟩) (hb : k'.b = X.k.b) => mHelp_K (F := A) hG h hb
 have hdone := fun A k' m' (h : WmR w0 g long nf (setk X k') ⟨W, m', kk⟩) (hb : k'.b = X.k.b) => mDone_K (F := A) hG h hb
 have hsT := fun k' : MkM => sli_nil (hT.part (hTh k'))
 unfold wmL
 dsimp only [setk] at q1 q2 q3 q4 q5 q6 q7 q8 q9 r1 r2 r3
 have hlim : 20 * (g.words + W.T.length) ≤ 100000 := by omega
 refine Call.enter1 (n := 28) (by kernel_rfl) Tryz.func50 rfl rfl rfl ?_
 refine zW ?_; intro b1
 refine zb8 ?_
 refine KL.v rfl (Val.fieldAddr (k := 3) rfl rfl) ?_
 refine zk ?_
 refine zcn ?_
 refine K.loopT (σ := FnA) [(1, _), (3, _)] (fun s kp_ => (4, .int .i64 (s.i : Nat)) :: kp_) (fun s => wmH (setk X s.k) ++ ((b1, cells (wmL g long X kk) 99) :: F)) (fun s => s.k.b = X.k.b ∧ Goes g long W m s.m ∧ WmR w0 g long nf (setk X s.k) ⟨W, s.m, kk⟩ ∧ s.i + leftM g W s.m ≤ lim g W ∧ s.m.act = true) (fun s => leftM g W s.m) (⟨0, k, m⟩) bySub byPart (⟨hkb, .refl, hX, by show 0 + leftM g W m ≤ lim g W; omega, ha⟩) ?_
 rintro ⟨i, k1, m1⟩ ⟨hb1, hg1, hX1, hl1, ha1⟩
 dsimp only at hb1 hg1 hX1 hl1 ha1 ⊢
 have hh1 := fun A => hhelp A k1 m1 hX1 hb1
 have hsl := hsT k1
 cases hs : helpM g long W m1 with
 | some m2 =>
  obtain ⟨z1, z2, z3, z4, z5⟩ := help_all okg hX1.m hs
  dsimp only at z1 z2 z3 z4 z5
  rw [hs] at hh1
  simp only [Option.isSome_some, Option.getD_some] at hh1
  have hle : ¬ ((i : Nat) : Int) > 20 * ((g.words : Nat) + ((W.T.map docE).length : Nat)) := by
   rw [hTn]; unfold lim at hl1; omega
  unfold wmL
  refine zc1 ?_
  refine zbh fun T hT => ?_
  refine (CallV.part (CallV.fn (hh1 _)) byPart).mono ?_
  rintro _ _ ⟨rfl, k2, hb2, hX2, rfl⟩
  have hsl2 := hsT k2
  refine zd ?_
  clear hT T
  refine zed ?_
  refine zj ?_
  refine zZ ?_
  refine zdN ?_
  refine zcP ?_
  refine zP ?_
  refine zQ ?_
  refine zeX ?_
  refine zae ?_
  refine zgy ?_
  exact KE.again ⟨i + 1, k2, m2⟩ bySub byPart ⟨hb2, hg1.help hs, hX2, by show i + 1 + leftM g W m2 ≤ lim g W; omega, z4.trans ha1⟩ (by show leftM g W m2 < leftM g W m1; omega)
 | none =>
  rw [hs] at hh1
  simp only [Option.isSome_none, Option.getD_none] at hh1
  have hd := help_done okg hX1.m ha1 hs
  unfold wmL
  refine zc1 ?_
  refine zbh fun T hT => ?_
  refine (CallV.part (CallV.fn (hh1 _)) byPart).mono ?_
  rintro _ _ ⟨rfl, k2, hb2, hX2, rfl⟩
  refine zd ?_
  clear hT T
  have hd2 := fun A => hdone A k2 m1 hX2 hb2
  rw [hd] at hd2
  refine zfg ?_
  refine zbh fun T hT => ?_
  refine (CallV.part (CallV.fn (hd2 _)) byPart).mono ?_
  refine ze ?_
  clear hT T
  refine zt ?_
  exact KE.fin byMarks rfl byRes byPart ⟨rfl, k2, m1, hb2, hg1, hd, hX2, rfl⟩
end
open Go.RowKit
set_option maxRecDepth 10000
def capsP (c : Cfg) : Int := ((c.tn[0]?).map (·.caps)).getD 0
def okM (c : Cfg) : Bool := okC c && decide (capsP c ≤ 60)
def wm0 : List Value := [.pointer none, .pointer none, .pointer none, .pointer none, .slice none 0 0, .int .i64 0, .slice none 0 0, .slice none 0 0, .slice none 0 0, .int .i64 0, .slice none 0 0, .slice none 0 0, .int .i64 0, .slice none 0 0, .slice none 0 0, .slice none 0 0, .slice none 0 0, .slice none 0 0, .int .i64 0, .slice none 0 0, .int .i64 0, .slice none 0 0, .slice none 0 0, .slice none 0 0, .int .i64 0, .int .i64 0, .slice none 0 0, .int .i64 0, .bool false, .int .i64 0]
theorem sumN_nn {f : Nat → Int} : ∀ {n : Nat}, (∀ i, i < n → 0 ≤ f i) → 0 ≤ sumN f n
 | 0, _ => Int.le_refl _
 | n + 1, h => by
  have h1 := sumN_nn (f := f) (n := n) fun i hi => h i (by omega)
  have h2 := h n (by omega)
  simp only [sumN]; omega
theorem sumN_at {f : Nat → Int} : ∀ {n k : Nat}, (∀ i, i < n → 0 ≤ f i) → k < n → f k ≤ sumN f n
 | 0, _, _, h => absurd h (Nat.not_lt_zero _)
 | n + 1, k, h0, hk => by
  have h1 := sumN_nn (f := f) (n := n) fun i hi => h0 i (by omega)
  have h2 := h0 n (by omega)
  simp only [sumN]
  rcases Nat.lt_or_ge k n with h | h
  ·have := sumN_at (f := f) (n := n) (fun i hi => h0 i (by omega)) h; omega
  ·have : k = n := by omega
   subst this; omega
theorem mmade_no {w0 : World} {F : Heap} {c : Cfg} {vc vt : Value} (hR : CfgR w0 F c vc vt) (hno : okM c = false) :
  Call Tryz.prog w0 32 [cfgV c vc vt] F (fun r H' => r = .tuple [.agg wm0.toArray, .bool false].toArray ∧ H' = F) := by
 have htot := fun A (hp : Part A F) => rTotal_K (hR.part hp)
 have hsm := fun A (hp : Part A F) => Small_K (hR.part hp)
 have hck := fun A (hp : Part A F) => rconfCheck_K (hR.part hp)
 have hlen : cfgP c = true → ∃ t0, c.tn[0]? = some t0 := fun h => get_of_lt (by have := (cfg_ok h).tn; omega)
 obtain ⟨tt, te, htt⟩ : ∃ tt te, totalP c = (tt, te) := ⟨_, _, rfl⟩
 obtain ⟨hS, hT', o1, o2, l1, l2⟩ := hR
 unfold okM okC capsP at hno
 rw [htt] at hno
 simp only [htt] at htot
 obtain ⟨cp, hcp⟩ : ∃ cp, cp = cfgP c := ⟨_, rfl⟩
 obtain ⟨sp, hsp⟩ : ∃ sp, sp = smallP c := ⟨_, rfl⟩
 simp only [← hcp] at hno hck hlen
 simp only [← hsp] at hno hsm
 clear hcp hsp htt
 obtain ⟨cl, page, tn, workers, grey, gens⟩ := c
 dsimp only at hS hT' l1 l2
 simp only [cfgV, cfgL, prV] at htot hsm hck ⊢
 unfold wm0
 cases sp with
 | false =>
  refine ziq ?_
  refine zaq ?_; intro b1 b2
  refine zcB fun T hT => ?_
  refine zhr ?_
  rintro _ _ ⟨rfl, rfl⟩
  refine zd ?_
  clear hT T
  refine zag ?_
  refine zal ?_
  refine zp fun T hT => ?_
  refine zir ?_
  rintro _ _ ⟨rfl, rfl⟩
  refine zd ?_
  clear hT T
  refine zbA ?_
  refine zd6 ?_
  refine zdv ?_
  refine zct ?_
  refine z7 ?_
  exact zdp
 | true =>
  by_cases ht : tt ≤ 2000
  ·have hgt : ¬ tt > 2000 := by omega
   cases cp with
   | true =>
    rw [decide_eq_true ht] at hno
    obtain ⟨t0, h0⟩ := hlen rfl
    dsimp only at h0 hno
    rw [h0] at hno
    obtain ⟨x1, x2, x3, x4⟩ := t0
    have hcg : x3 > 60 := by
     simp only [Bool.true_and, Bool.and_true, Option.map_some, Option.getD_some, decide_eq_false_iff_not] at hno
     omega
    unfold errB at hck
    simp only [if_true] at hck
    have h0l := lt_of_get h0
    refine ziq ?_
    refine zaq ?_; intro b1 b2
    refine zcB fun T hT => ?_
    refine zhr ?_
    rintro _ _ ⟨rfl, rfl⟩
    refine zd ?_
    clear hT T
    refine zag ?_
    refine zal ?_
    refine zp fun T hT => ?_
    refine zir ?_
    rintro _ _ ⟨rfl, rfl⟩
    refine zd ?_
    clear hT T
    refine zF ?_
    refine zaa ?_
    refine zae ?_
    refine zbf ?_
    refine zcm fun T hT => ?_
    refine (CallV.fn (hck _ byPart)).mono ?_
    rintro _ _ ⟨rfl, rfl⟩
    refine zd ?_
    clear hT T
    refine zdn ?_
    refine zbf ?_
    refine zaT ?_
    refine zc4 ?_
    refine zm ?_
    refine zif ?_
    refine zcy ?_
    refine zcb ?_
    refine zaz ?_
    exact zdp
   | false =>
    unfold errB at hck
    simp only [Bool.false_eq_true, if_false] at hck
    refine ziq ?_
    refine zaq ?_; intro b1 b2
    refine zcB fun T hT => ?_
    refine zhr ?_
    rintro _ _ ⟨rfl, rfl⟩
    refine zd ?_
    clear hT T
    refine zag ?_
    refine zal ?_
    refine zp fun T hT => ?_
    refine zir ?_
    rintro _ _ ⟨rfl, rfl⟩
    refine zd ?_
    clear hT T
    refine zF ?_
    refine zaa ?_
    refine zae ?_
    refine zbf ?_
    refine zcm fun T hT => ?_
    refine (CallV.fn (hck _ byPart)).mono ?_
    rintro _ _ ⟨rfl, rfl⟩
    refine zd ?_
    clear hT T
    refine zm ?_
    refine zaP ?_
    refine zn ?_
    refine zct ?_
    refine z7 ?_
    exact zdp
  ·have hgt : tt > 2000 := by omega
   refine ziq ?_
   refine zaq ?_; intro b1 b2
   refine zcB fun T hT => ?_
   refine zhr ?_
   rintro _ _ ⟨rfl, rfl⟩
   refine zd ?_
   clear hT T
   refine zag ?_
   refine zal ?_
   refine zp fun T hT => ?_
   refine zir ?_
   rintro _ _ ⟨rfl, rfl⟩
   refine zd ?_
   clear hT T
   refine zF ?_
   refine zaa ?_
   refine zcb ?_
   refine zn ?_
   refine zdv ?_
   refine zct ?_
   refine z7 ?_
   exact zdp
def freshM (g : PlG) (caps nw : Nat) : MsP := ⟨⟨List.replicate g.words 0, List.replicate caps ⟨0, 0, 1⟩, List.replicate g.slots 0⟩, newM g nw false, newM g nw false⟩
theorem rep_st {n : Nat} {e : EntP} (h : e ∈ List.replicate n (⟨0, 0, 1⟩ : EntP)) : e = ⟨0, 0, 1⟩ := (List.mem_replicate.1 h).2
theorem fresh_w {g : PlG} {caps : Nat} : MwOk g ⟨List.replicate g.words 0, List.replicate caps ⟨0, 0, 1⟩, List.replicate g.slots 0⟩ :=
 ⟨by simp, WdOk.rep _, by simp, fun v hv => by have := (List.mem_replicate.1 hv).2; omega, fun e he h => by have := rep_st he; subst this; cases h⟩
theorem rep_rf {g : PlG} : RfOk g (List.replicate g.words 0) := fun s y hy j h1 h2 => by
 have : wAt (List.replicate g.words 0) (y.addr + j) = 0 := by
  unfold wAt
  rw [List.getElem?_replicate]
  split <;> rfl
 rw [this]; omega
theorem doc_fresh (n : Nat) : (List.replicate n (⟨0, 0, 1⟩ : EntP)).map docE = List.replicate n ent0 := by rw [List.map_replicate]; rfl
theorem mmade_rel {w0 : World} {g : PlG} {caps nw long : Nat} {B : BoM} {T : TbM} {N : PiM} {k : MkM} {v : PlV} {z : KwV} {q : KmV} {D : Heap} (okg : PlOk g) (hwd : g.words ≤ 2000) (hn : caps ≤ 60) (hnw : nw ≤ 8) (hlg : 1 ≤ long ∧ long ≤ 64) (hpg : B.p.g = g) (okB : BoOk B (List.replicate g.words 0)) (ht : B.t = 0)
  (okT : TbOk T) (eT : T.l = List.replicate caps ⟨0, 0, 1⟩) (okN : PiOk N) (eN : N.l = List.replicate g.slots 0) (okk : MkOk k B.p) (knil : MkNil k B.p) (kact : k.act = false) (kf : k.c.f = 1) (kb : k.bb = B.b) (kt : k.tb = T.b) (kn : k.nb = N.b) (kh : k.hs.length = nw + 1) (kl : k.g.ring.length = long)
  (hW : KwD w0 D v g z ⟨List.replicate g.words 0, List.replicate caps ⟨0, 0, 1⟩, List.replicate g.slots 0⟩) (hK : KmD w0 D q (newM g nw false)) (hmem : rwX z.R = B.m.R) :
  WmR w0 g long 1 ⟨B, T, N, k, v, z, q, D⟩ (freshM g caps nw) := by
 have hst := start_left (W := ⟨List.replicate g.words 0, List.replicate caps ⟨0, 0, 1⟩, List.replicate g.slots 0⟩) okg nw
 have hle : leftM g ⟨List.replicate g.words 0, List.replicate caps ⟨0, 0, 1⟩, List.replicate g.slots 0⟩ (newM g nw false) ≤ 18 * g.words + (List.replicate caps (⟨0, 0, 1⟩ : EntP)).length := hst
 rw [List.length_replicate] at hle
 have hlm : (newM g nw false).steps + leftM g ⟨List.replicate g.words 0, List.replicate caps ⟨0, 0, 1⟩, List.replicate g.slots 0⟩ (newM g nw false) ≤ 40000 := by
  show 0 + _ ≤ _
  omega
 refine ⟨hpg, kf, kl, ⟨okB, okT, okN, eT, eN, kb, kt, kn, by show MwOk B.p.g _; rw [hpg]; exact fresh_w⟩, okk, ?_, new_ok hlg.1 hnw, new_ok hlg.1 hnw, hlg, hW, hK, ht, hmem, hlm, hlm, by show (List.replicate _ _).length ≤ _; rw [List.length_replicate]; exact hn, hwd⟩
 have := nil_R (nw := nw) knil (by rw [kl]; exact hlg.1) kact kh
 rw [hpg] at this
 exact this
structure MmT where
 b : Nat
 o : Own
structure MmU where
 vr : Value
 R : List RwD
 N : Heap
 o : Own
def MMadeW (w0 : World) (c : Cfg) (X : WmM) : Prop := WmR w0 (gOf c 0) c.grey.toNat 1 X (freshM (gOf c 0) (capsP c).toNat c.workers.toNat)
set_option maxHeartbeats 8000000 in
theorem mmade_K {w0 : World} {Dc F : Heap} {c : Cfg} {vc vt : Value} (hG : Glob w0) (hR : CfgR w0 (Dc ++ F) c vc vt) (hok : okM c = true) (hC : Sli w0 Dc iE vc c.cl) (hvc : vc.oneCell' = true) :
  Call Tryz.prog w0 32 [cfgV c vc vt] (Dc ++ F) (fun r H' => ∃ X : WmM, MMadeW w0 c X ∧ r = .tuple [.agg (wmL (gOf c 0) c.grey.toNat X (newM (gOf c 0) c.workers.toNat false)).toArray, .bool true].toArray ∧ H' = wmH X ++ F) := by
 unfold okM okC at hok
 simp only [Bool.and_eq_true, decide_eq_true_eq] at hok
 obtain ⟨⟨k1, k2, k3⟩, k4⟩ := hok
 have htot := fun A (hp : Part A (Dc ++ F)) => rTotal_K (hR.part hp)
 have hsm := fun A (hp : Part A (Dc ++ F)) => Small_K (hR.part hp)
 have hck := fun A (hp : Part A (Dc ++ F)) => rconfCheck_K (hR.part hp)
 have hcfg := cfg_ok k3
 have ht : thereP c 0 0 = true := there_of (i := 0) (j := 0) k3 (by have := hcfg.tn; omega) (by have := hcfg.cl; omega)
 have ga := g_at ht
 have okg := ga.ok
 have hreg : wordsP c 0 = (gOf c 0).words := by
  have h1 := ga.region
  have h2 := region_in (i := 0) k3 (by have := hcfg.tn; omega)
  have h3 : regionP c 0 = (wordsP c ((0 : Nat) : Int), 0) := h2
  rw [h3] at h1
  exact (Prod.mk.inj h1).1
 have hmn := fun A (hp : Part A (Dc ++ F)) => mNew_K (hR.part hp) k3
 have hpn := fun A (hp : Part A (Dc ++ F)) => pNew_K (t := 0) (hR.part hp) ht
 have hrp := fun A (hp : Part A (Dc ++ F)) => rpNew_K (t := 0) (hR.part hp) ht hvc
 have hrm := fun A (hp : Part A (Dc ++ F)) => rmNew_K (hR.part hp) k3
 have hlen := hcfg.tn
 have htt : totalP c = (sumN (fun i => wordsP c (i : Nat)) c.tn.length, 0) := by simp [totalP, k3]
 have hwd : (gOf c 0).words ≤ 2000 := by
  have h1 := sumN_at (f := fun i => wordsP c (i : Nat)) (n := c.tn.length) (k := 0) (fun i hi => (words_le k3 hi).1) (by omega)
  rw [htt] at k2
  dsimp only at k2
  have h2 : wordsP c ((0 : Nat) : Int) = (gOf c 0).words := hreg
  omega
 obtain ⟨t0, ht0⟩ := get_of_lt (l := c.tn) (k := 0) (by omega)
 have hten := hcfg.ten t0 (List.mem_of_getElem? ht0)
 have hcp : capsP c = t0.caps := by unfold capsP; rw [ht0]; rfl
 rw [hcp] at k4
 obtain ⟨caps, hcaps⟩ : ∃ caps : Nat, t0.caps = caps := ⟨t0.caps.toNat, by omega⟩
 have hwk := hcfg.workers
 have hgy := hcfg.grey
 have hgn := hcfg.gens
 have hxl : (List.replicate (wordsP c ((0 : Nat) : Int)).toNat (0 : Int)).length = (gOf c 0).words := by
  rw [List.length_replicate]; show (wordsP c 0).toNat = _; rw [hreg]; omega
 obtain ⟨tt, htt'⟩ : ∃ tt, sumN (fun i => wordsP c (i : Nat)) c.tn.length = tt := ⟨_, rfl⟩
 rw [htt, htt'] at k2
 simp only [htt, htt'] at htot
 dsimp only at k2
 have hgt : ¬ tt > 2000 := by omega
 obtain ⟨mm, hmm⟩ : ∃ mm, mm = mR (fun t => wordsP c (t : Nat)) c.tn.length := ⟨_, rfl⟩
 have hm0 : mm[0]? = some (List.replicate (wordsP c ((0 : Nat) : Int)).toNat (0 : Int)) := by rw [hmm]; exact mR_get (by omega)
 have hml : mm.length ≤ 1000 := by rw [hmm, mR_len]; omega
 have hx0r : List.replicate (wordsP c ((0 : Nat) : Int)).toNat (0 : Int) = List.replicate (gOf c 0).words 0 := by show List.replicate (wordsP c 0).toNat 0 = _; rw [hreg]; rfl
 rw [hx0r] at hm0
 unfold MMadeW
 rw [hcp]
 simp only [← hmm] at hmn hrm
 obtain ⟨g, hg⟩ : ∃ g, g = gOf c 0 := ⟨_, rfl⟩
 simp only [← hg] at hpn hrp okg hwd hm0 ⊢
 unfold errB at hck
 simp only [k1, k3, if_true] at hck hsm
 obtain ⟨hS, hT', o1, o2, l1, l2⟩ := hR
 clear htt htt' hg hmm hreg ga ht hcfg k1 k3 hxl hx0r hcp
 obtain ⟨cl, page, tn, workers, grey, gens⟩ := c
 obtain ⟨x1, x2, x3, x4⟩ := t0
 dsimp only at hS hT' l1 l2 hC hlen ht0 hcaps k4 hwk hgy hgn hten ⊢
 subst hcaps
 obtain ⟨nw, rfl⟩ : ∃ nw : Nat, workers = nw := ⟨workers.toNat, by omega⟩
 obtain ⟨long, rfl⟩ : ∃ long : Nat, grey = long := ⟨grey.toNat, by omega⟩
 simp only [Int.toNat_natCast]
 have hcg : ¬ ((caps : Nat) : Int) > 60 := by omega
 have h0l := lt_of_get ht0
 simp only [cfgV, cfgL, prV] at htot hsm hck hmn hpn hrp hrm ⊢
 have hslots := okg.slots
 have hLl := L_len (g := g)
 have hx0w : WdOk (List.replicate g.words 0) := WdOk.rep _
 refine ziq ?_
 refine zaq ?_; intro b1 b2
 refine zcB fun T hT => ?_
 refine zhr ?_
 rintro _ _ ⟨rfl, rfl⟩
 refine zd ?_
 clear hT T
 refine zag ?_
 refine zal ?_
 refine zp fun T hT => ?_
 refine zir ?_
 rintro _ _ ⟨rfl, rfl⟩
 refine zd ?_
 clear hT T
 refine zF ?_
 refine zaa ?_
 refine zae ?_
 refine zbf ?_
 refine zcm fun T hT => ?_
 refine (CallV.fn (hck _ byPart)).mono ?_
 rintro _ _ ⟨rfl, rfl⟩
 refine zd ?_
 clear hT T
 refine zdn ?_
 refine zbf ?_
 refine zaT ?_
 refine zc4 ?_
 refine zm ?_
 refine zif ?_
 refine zcy ?_
 refine zae ?_
 refine zan ?_
 refine zp fun T hT => ?_
 refine (CallV.fn (hmn _ byPart)).mono ?_
 rintro _ _ ⟨m, okm, hmR, rfl, rfl⟩
 refine zd ?_
 clear hT T
 refine zbw ?_
 refine zp fun T hT => ?_
 refine (CallV.fn (hpn _ byPart)).mono ?_
 rintro _ _ ⟨p, okp, hpg, rfl, rfl⟩
 refine zd ?_
 clear hT T
 refine zbw ?_
 refine zp fun T hT => ?_
 refine (CallV.fn (hrp _ byPart)).mono ?_
 rintro _ _ ⟨v, Dp, hPD0, rfl, rfl⟩
 have hPD := hPD0 Dc hC
 clear hPD0
 have q1 := hPD.oL
 have q2 := hPD.oF
 have q3 := hPD.oM
 have q4 := hPD.oC
 have hPL := hPD.L
 unfold plL
 refine zd ?_
 clear hT T
 refine zbp ?_; intro b10
 refine zr ?_
 refine zaI ?_; intro b12
 refine zy ?_
 refine zbb fun T hT => ?_
 refine (CallV.part (CallV.fn (bNew_K (t := 0) (x := List.replicate g.words 0) okm (by rw [hmR]; exact hm0) okp (by rw [hpg, List.length_replicate]) hx0w)) byPart).mono ?_
 rintro _ _ ⟨B, okB, rfl, hBt, rfl, rfl, rfl⟩
 refine zd ?_
 clear hT T
 refine zai ?_
 refine zaM ?_
 refine zN ?_
 refine zcF ?_
 refine K.drawn _ [(0, 0), (1, 0), (2, 0), (3, 0), (4, 0), (5, 0), (6, 0), (7, 2), (8, 0), (9, 0), (10, 1), (11, 0), (12, 2)] (by kernel_rfl) (by kernel_rfl) (by kernel_rfl) (by kernel_rfl) (by kernel_rfl) (by kernel_rfl) (Part.drop Part.all) ?_
 refine zgI ?_
 refine zgP ?_
 refine KD.v0 rfl rfl (Val.fieldSl (k := 2) rfl rfl) ?_
 refine zeb ?_
 refine zht ?_
 refine zx ?_
 refine zl fun T hT => ?_
 refine (CallV.fn (tbNew_K (n := caps) (gens := gens) (by omega) hgn)).mono ?_
 rintro _ _ ⟨tb, oktb, htbl, htbg, rfl, rfl⟩
 refine zi ?_
 clear hT T
 refine zb7 ?_
 refine zfX ?_
 refine zd5 ?_
 refine zaN ?_
 refine zh fun T hT => ?_
 refine ze4 ?_
 refine ze ?_
 clear hT T
 refine zg fun T hT => ?_
 refine (CallV.fn (piNew_K (n := B.p.g.slots) (by rw [hpg]; omega))).mono ?_
 rintro _ _ ⟨pi, okpi, hpil, rfl, rfl⟩
 refine zd ?_
 clear hT T
 refine zai ?_
 refine za8 ?_
 refine zaA ?_
 refine zbJ ?_
 refine zd2 ?_
 refine zdc ?_
 refine zZ ?_
 refine zbL fun T hT => ?_
 refine (CallV.part (CallV.fn (mkNew_K (nw := nw) (long := long) hG okB oktb okpi (by rw [hpil, List.length_replicate]) (by omega) (by omega))) byPart).mono ?_
 rintro _ _ ⟨k, okk, hkn, hka, hkf, hkb, hkt, hkp, hkh, hkr, rfl, rfl⟩
 refine zd ?_
 clear hT T
 refine zai ?_
 refine zjW ?_
 refine zN ?_
 refine zb9 ?_
 refine K.cutT (σ := MmT) [(1, _), (2, _), (10, _), (12, _)] bySub (fun s kp_ => (13, .pointer (some ⟨s.b, 0, none⟩)) :: kp_) (fun s => oH wE 220 (List.replicate caps ent0) s.o ++ ((s.b, cells [oV s.o (List.replicate caps ent0).length, .int .i64 gens] 90) :: (b12, cells [.pointer (some ⟨B.b, 0, none⟩), .pointer (some ⟨tb.b, 0, none⟩), .pointer (some ⟨pi.b, 0, none⟩), .pointer (some ⟨k.b, 0, none⟩), .slice none 0 0, .int .i64 0, .slice none 0 0, .slice none 0 0, .slice none 0 0, .int .i64 0, .slice none 0 0, .slice none 0 0, .int .i64 0, .slice none 0 0, .slice none 0 0, .slice none 0 0, .slice none 0 0, .slice none 0 0, .int .i64 0, .slice none 0 0, .int .i64 0, .slice none 0 0, .slice none 0 0, .slice none 0 0, .int .i64 0, .int .i64 0, .slice none 0 0, .int .i64 0, .bool false, .int .i64 0] 99) :: (markH k B.p ++ (bodyH B ++ (memH B.m ++ (planH B.p ++ (tabH tb ++ (pinsH pi ++ ((b10, cells [v.L, v.F, v.M, .int .i64 (g.words : Nat), v.C] 34) :: (Dp ++ ((b2, cells [.pointer none, .pointer none, .pointer none, .pointer none, .slice none 0 0, .int .i64 0, .slice none 0 0, .slice none 0 0, .slice none 0 0, .int .i64 0, .slice none 0 0, .slice none 0 0, .int .i64 0, .slice none 0 0, .slice none 0 0, .slice none 0 0, .slice none 0 0, .slice none 0 0, .int .i64 0, .slice none 0 0, .int .i64 0, .slice none 0 0, .slice none 0 0, .slice none 0 0, .int .i64 0, .int .i64 0, .slice none 0 0, .int .i64 0, .bool false, .int .i64 0] 99) :: (b1, cells [vc, .int .i64 page, vt, .int .i64 (nw : Nat), .int .i64 (long : Nat), .int .i64 gens] 25) :: (Dc ++ F)))))))))))) (fun s => oOk wE (List.replicate caps ent0) s.o) ?_ ?_
 ·skip
  refine zak ?_
  refine K.drawn ((b1, cells [vc, .int .i64 page, vt, .int .i64 (nw : Nat), .int .i64 (long : Nat), .int .i64 gens] 25) :: (Dc ++ F)) [(0, 1), (1, 1), (2, 1), (3, 1), (4, 1), (5, 1), (6, 1), (7, 3), (8, 1), (9, 1), (10, 1), (11, 2), (12, 2), (13, 0)] (by kernel_rfl) (by kernel_rfl) (by kernel_rfl) (by kernel_rfl) (by kernel_rfl) (by kernel_rfl) byPart ?_
  refine zef ?_
  refine zaO ?_
  refine zln ?_
  refine zef ?_
  refine zaO ?_
  (first | refine KD.v1 rfl rfl (Val.fieldSl (k := 5) rfl rfl) ?_ | refine KD.v1 rfl rfl (Val.fieldAddr0 (k := 5) rfl rfl) ?_ | refine KD.v1 rfl rfl (Val.fieldAddrZ rfl rfl) ?_ | refine KD.v1 rfl rfl (Val.fieldAddr (k := 5) rfl rfl) ?_)
  refine zaO ?_
  refine KD.fork2 (x := 7) (y := 11) (o1 := [(8, 1), (9, 1), (10, 1), (11, 2), (12, 2), (13, 0)]) (o2 := [(7, 2), (8, 0), (9, 0), (10, 1), (12, 2), (13, 0)]) (by kernel_rfl) rfl rfl (by kernel_rfl) (by kernel_rfl) ?_ ?_
  ·refine zcG fun T hT => ?_
   refine (CallV.fn (rtNew_K (n := caps) (gens := gens) (by omega) hgn)).mono ?_
   rintro _ _ ⟨ot, okot, rfl, rfl⟩
   refine zi ?_
   clear hT T
   refine zO ?_
   refine zdG ?_
   refine zdG ?_
   refine zeI ?_; intro b13
   refine zdl ?_
   exact KE.meet ⟨b13, ot⟩ bySub byPart okot
  ·(refine ActK.e rfl (Eff.alloc rfl) ?_; rintro _ _ ⟨b13, rfl, rfl⟩; refine ⟨byPart, ?_⟩)
   refine zl fun T hT => ?_
   refine (CallV.fn (rtNew_K (n := caps) (gens := gens) (by omega) hgn)).mono ?_
   rintro _ _ ⟨ot, okot, rfl, rfl⟩
   refine zi ?_
   clear hT T
   refine zb7 ?_
   refine zdl ?_
   exact KE.meet ⟨b13, ot⟩ bySub byPart okot
 ·rintro ⟨b13, ot⟩ okot
  dsimp only at okot ⊢
  refine K.cutT (σ := MmU) [(1, _), (2, _), (12, _)] bySub (fun s kp_ => kp_) (fun s => oH iE 3 (List.replicate g.L.length 0) s.o ++ (s.N ++ (oH wE 220 (List.replicate caps ent0) ot ++ ((b13, cells [oV ot (List.replicate caps ent0).length, .int .i64 gens] 90) :: (b12, cells [.pointer (some ⟨B.b, 0, none⟩), .pointer (some ⟨tb.b, 0, none⟩), .pointer (some ⟨pi.b, 0, none⟩), .pointer (some ⟨k.b, 0, none⟩), s.vr, .int .i64 0, v.L, v.F, v.M, .int .i64 (g.words : Nat), v.C, oV ot (List.replicate caps ent0).length, .int .i64 gens, oV s.o (List.replicate g.L.length (0 : Int)).length, .slice none 0 0, .slice none 0 0, .slice none 0 0, .slice none 0 0, .int .i64 0, .slice none 0 0, .int .i64 0, .slice none 0 0, .slice none 0 0, .slice none 0 0, .int .i64 0, .int .i64 0, .slice none 0 0, .int .i64 0, .bool false, .int .i64 0] 99) :: (markH k B.p ++ (bodyH B ++ (memH B.m ++ (planH B.p ++ (tabH tb ++ (pinsH pi ++ ((b10, cells [v.L, v.F, v.M, .int .i64 (g.words : Nat), v.C] 34) :: (Dp ++ ((b2, cells [.pointer none, .pointer none, .pointer none, .pointer none, .slice none 0 0, .int .i64 0, .slice none 0 0, .slice none 0 0, .slice none 0 0, .int .i64 0, .slice none 0 0, .slice none 0 0, .int .i64 0, .slice none 0 0, .slice none 0 0, .slice none 0 0, .slice none 0 0, .slice none 0 0, .int .i64 0, .slice none 0 0, .int .i64 0, .slice none 0 0, .slice none 0 0, .slice none 0 0, .int .i64 0, .int .i64 0, .slice none 0 0, .int .i64 0, .bool false, .int .i64 0] 99) :: (b1, cells [vc, .int .i64 page, vt, .int .i64 (nw : Nat), .int .i64 (long : Nat), .int .i64 gens] 25) :: (Dc ++ F)))))))))))))) (fun s => MemD w0 s.N s.vr s.R ∧ rwX s.R = mm ∧ oOk iE (List.replicate g.L.length 0) s.o) ?_ ?_
  ·skip
   refine zak ?_
   refine K.drawn ((b1, cells [vc, .int .i64 page, vt, .int .i64 (nw : Nat), .int .i64 (long : Nat), .int .i64 gens] 25) :: (b10, cells [v.L, v.F, v.M, .int .i64 (g.words : Nat), v.C] 34) :: (b13, cells [oV ot (List.replicate caps ent0).length, .int .i64 gens] 90) :: (Dp ++ (Dc ++ F))) [(0, 1), (2, 1), (4, 1), (5, 1), (6, 1), (7, 1), (1, 3), (3, 1), (8, 2), (9, 0), (10, 0), (11, 2)] (by kernel_rfl) (by kernel_rfl) (by kernel_rfl) (by kernel_rfl) (by kernel_rfl) (by kernel_rfl) byPart ?_
   refine ze7 ?_
   refine ze7 ?_
   refine ze7 ?_
   refine zd4 ?_
   refine zjd ?_
   refine KD.fork2 (x := 1) (y := 8) (o1 := [(3, 1), (8, 2), (9, 0), (10, 0), (11, 2)]) (o2 := [(1, 2), (3, 0), (9, 0), (10, 0), (11, 2)]) (by kernel_rfl) rfl rfl (by kernel_rfl) (by kernel_rfl) ?_ ?_
   ·refine zcG fun T hT => ?_
    refine (CallV.fn (hrm _ byPart)).mono ?_
    rintro _ _ ⟨vr, R, Nr, hMD, hrR, rfl, rfl⟩
    have q6 := hMD.o
    refine zi ?_
    clear hT T
    refine KD.v1 rfl rfl (Val.build byParts rfl rfl byFill) ?_
    refine KD.e rfl rfl (Eff.makeR (E := iE) (x0 := 0) rfl rfl rfl rfl rfl rfl (by first | assumption | omega | (simp <;> fail) | (simp; omega))) ?_; rintro _ _ ⟨o117, ok117, rfl, rfl⟩; refine ⟨byPart, ?_⟩
    refine zeY ?_
    refine zkx ?_
    refine zde ?_
    exact KE.meet ⟨vr, R, Nr, o117⟩ bySub byPart ⟨hMD, hrR, ok117⟩
   ·(refine ActK.e rfl (Eff.makeR (E := iE) (x0 := 0) rfl rfl rfl rfl rfl rfl (by first | assumption | omega | (simp <;> fail) | (simp; omega))) ?_; rintro _ _ ⟨o117, ok117, rfl, rfl⟩; refine ⟨byPart, ?_⟩)
    refine zl fun T hT => ?_
    refine (CallV.fn (hrm _ byPart)).mono ?_
    rintro _ _ ⟨vr, R, Nr, hMD, hrR, rfl, rfl⟩
    have q6 := hMD.o
    refine zi ?_
    clear hT T
    refine zeY ?_
    refine zeY ?_
    refine zkx ?_
    refine zde ?_
    exact KE.meet ⟨vr, R, Nr, o117⟩ bySub byPart ⟨hMD, hrR, ok117⟩
  ·rintro ⟨vr, R, Nr, on⟩ ⟨hMD, hrR, okn⟩
   dsimp only at hMD hrR okn ⊢
   have q6 := hMD.o
   obtain ⟨DD, hDD⟩ : ∃ DD : Heap, DD = oH iE 3 (List.replicate g.L.length 0) on ++ (Nr ++ (oH wE 220 (List.replicate caps ent0) ot ++ (Dp ++ Dc))) := ⟨_, rfl⟩
   have hKD : KwD w0 DD v g ⟨vr, oV ot (List.replicate caps ent0).length, oV on (List.replicate g.L.length (0 : Int)).length, R, gens⟩ ⟨List.replicate g.words 0, List.replicate caps ⟨0, 0, 1⟩, List.replicate g.slots 0⟩ := by
    subst hDD
    refine ⟨⟨hPD.part byPart, hMD.part byPart⟩, ⟨okg, ?_, ?_, List.length_replicate .., hx0w⟩, ?_, ?_, oV_one _ _, oV_one _ _, fresh_w, rep_rf, ?_⟩
    ·have : (rwX R).length ≤ 1000 := by rw [hrR]; exact hml
     simpa [rwX] using this
    ·rw [hrR]
     exact hm0
    ·dsimp only
     rw [doc_fresh]
     exact Sli.own byTakeL okot rfl
    ·dsimp only
     rw [← hLl]
     exact Sli.own byTakeL okn rfl
    ·exact ⟨by rw [List.length_replicate]; omega, fun e he => by rw [rep_st he]; decide⟩
   have hnew := fun A => rkNew_K (w0 := w0) (F := A) (long := long) (nw := nw) okg hKD (by omega)
   unfold KmG kwL id kmL at hnew
   dsimp only at hnew
   refine zq ?_
   refine zZ ?_
   refine zB ?_
   refine zdc ?_
   refine zZ ?_
   refine zbL fun T hT => ?_
   refine (CallV.part (CallV.fn (hnew _)) (by subst hDD; simp only [List.append_assoc]; exact byPart)).mono ?_
   rintro _ _ ⟨q', N19, hK', rfl, rfl⟩
   have p1 := hK'.oc
   have p2 := hK'.G.o1
   have p3 := hK'.G.o2
   have p4 := hK'.G.o3
   have p5 := hK'.oh
   refine zd ?_
   clear hT T
   refine zaZ ?_
   refine z9 ?_
   refine zcF ?_
   refine K.drawn _ [(0, 0), (1, 0), (2, 0), (3, 0), (4, 0), (5, 0), (6, 0), (7, 0), (8, 0), (9, 0), (10, 0), (11, 0), (12, 0), (13, 0), (14, 0), (15, 1), (16, 1), (17, 1), (18, 1), (19, 2), (20, 0)] (by kernel_rfl) (by kernel_rfl) (by kernel_rfl) (by kernel_rfl) (by kernel_rfl) (by kernel_rfl) (Part.take Take.head (Part.takeA TakeL.head (Part.takeA TakeL.head (Part.take Take.head (Part.takeA TakeL.head (Part.takeA TakeL.head (Part.takeA TakeL.head (Part.takeA TakeL.head (Part.takeA TakeL.head (Part.takeA TakeL.head (Part.take Take.head (Part.drop Part.all)))))))))))) ?_
   refine ze6 ?_
   refine zaV ?_
   refine zx ?_
   refine KD.v0 rfl rfl (Val.neqPN rfl rfl rfl) ?_
   refine zo ?_
   refine zgU ?_
   refine zbk ?_
   refine KD.y0 rfl rfl rfl rfl (Val.neqPN rfl rfl rfl) ?_
   refine zcS ?_
   refine zc9 ?_
   refine zbk ?_
   refine KD.y0 rfl rfl rfl rfl (Val.neqPN rfl rfl rfl) ?_
   refine zcS ?_
   refine KD.y1 rfl rfl rfl rfl (Val.fieldAddr0 (k := 3) rfl rfl) ?_
   refine zhB ?_
   refine KD.y1 rfl rfl rfl rfl (Val.neqPN rfl rfl rfl) ?_
   refine KD.v1 rfl rfl (Val.pickT rfl rfl rfl) ?_
   refine zhV ?_
   refine zcD ?_
   refine za2 ?_
   obtain ⟨X, hXd⟩ : ∃ X : WmM, X = ⟨B, tb, pi, k, v, ⟨vr, oV ot (List.replicate caps ent0).length, oV on (List.replicate g.L.length (0 : Int)).length, R, gens⟩, q', N19 ++ DD⟩ := ⟨_, rfl⟩
   have hH : wmH X ++ F = markH k B.p ++ (planH B.p ++ (bodyH B ++ (memH B.m ++ (tabH tb ++ (pinsH pi ++ (N19 ++ (DD ++ F))))))) := by
    rw [hXd, wmH_app, seenH_app]
    simp only [List.append_assoc]
   have hL : wmL g long X (newM g nw false) = [.pointer (some ⟨B.b, 0, none⟩), .pointer (some ⟨tb.b, 0, none⟩), .pointer (some ⟨pi.b, 0, none⟩), .pointer (some ⟨k.b, 0, none⟩), vr, .int .i64 ((0 : Nat) : Int), v.L, v.F, v.M, .int .i64 (g.words : Nat), v.C, oV ot (List.replicate caps ent0).length, .int .i64 gens, oV on (List.replicate g.L.length (0 : Int)).length, q'.c, v.L, v.F, v.M, .int .i64 (g.words : Nat), v.C, .int .i64 (long : Nat), q'.u.Q, q'.u.ow, q'.u.di, .int .i64 (pgI (newM g nw false).G), .int .i64 ((newM g nw false).G.at_ : Nat), q'.h, .int .i64 ((newM g nw false).root : Nat), .bool (newM g nw false).act, .int .i64 ((newM g nw false).steps : Nat)] := by
    rw [hXd]; rfl
   have hrel := mmade_rel (w0 := w0) okg hwd (by omega) (by omega) (by omega) hpg okB hBt oktb htbl okpi (by rw [hpil, hpg]) okk hkn hka hkf hkb hkt hkp hkh hkr (hKD.part byPart) hK' (by rw [hrR, hmR])
   rw [← hXd] at hrel
   exact KE.fin (H' := wmH X ++ F) byMarks rfl byRes (by rw [hH, hDD]; simp only [List.append_assoc]; exact byPart) ⟨X, hrel, by rw [hL]; rfl, rfl⟩
open Go.RowKit
set_option maxRecDepth 100000
def amY0 : SlotP := ⟨1, 4, 24, 3⟩
def amY1 : SlotP := ⟨1, 4, 28, 3⟩
def amX0 : List Int := List.replicate awG.words 0
def amX1 : List Int := (makeP amX0 amY0 ⟨1, 2, 0⟩).2
def amX2 : List Int := (makeP amX1 amY1 ⟨1, 1, 0⟩).2
def amX3 : List Int := (setRefP amX2 awG.slots amY0 0 11).2
def amT : List EntP := mintT (List.replicate 4 ⟨0, 0, 1⟩) 10
def amW : MwP := ⟨amX3, amT, List.replicate awG.slots 0⟩
def am0 : MaP := newM awG 1 true
def am1 : MaP := (stepM awG 2 amW am0 0 1).getD am0
def am2 : MaP := (stepM awG 2 amW am1 0 2).getD am1
def am3 : MaP := (stepM awG 2 amW am2 0 3).getD am2
def am4 : MaP := (stepM awG 2 amW am3 0 3).getD am3
def am5 : MaP := (helpM awG 2 amW am4).getD am4
def am6 : MaP := (helpM awG 2 amW am5).getD am5
def amH : Nat → MaP
 | 0 => am6
 | t + 1 => (helpM awG 2 amW (amH t)).getD (amH t)
theorem am_ok : okM awC = true := by kernel_rfl
theorem am_y0 : awG.L[10]? = some amY0 := by kernel_rfl
theorem am_y1 : awG.L[11]? = some amY1 := by kernel_rfl
theorem am_b : stepM awG 2 amW am0 0 2 = none := by kernel_rfl
theorem am_d : (stepM awG 2 amW am0 0 1).isSome = true := by kernel_rfl
theorem am_g : am1.C[10]? = some 1 := by kernel_rfl
theorem am_e : (stepM awG 2 amW am1 0 2).isSome = true := by kernel_rfl
theorem am_h : handI am2 0 = ⟨10, 0, true⟩ := by kernel_rfl
theorem am_i : (stepM awG 2 amW am2 0 3).isSome = true := by kernel_rfl
theorem am_j : (stepM awG 2 amW am3 0 3).isSome = true := by kernel_rfl
theorem am_k : am4.C[10]? = some 2 := by kernel_rfl
theorem am_l : (helpM awG 2 amW am4).isSome = true := by kernel_rfl
theorem am_n : (helpM awG 2 amW am5).isSome = true := by kernel_rfl
theorem am_o : am6.C[11]? = some 2 := by kernel_rfl
theorem am_q : doneM awG amW am6 = false := by kernel_rfl
theorem am_all : (List.range 18).all (fun t => (helpM awG 2 amW (amH t)).isSome) = true := by kernel_rfl
theorem am_end : helpM awG 2 amW (amH 18) = none := by kernel_rfl
theorem am_done : doneM awG amW (amH 18) = true := by kernel_rfl
theorem am_steps : (amH 18).steps = 24 := by kernel_rfl
theorem am_step {t : Nat} (h : t < 18) : (helpM awG 2 amW (amH t)).isSome = true := List.all_eq_true.1 am_all t (List.mem_range.2 h)
section
variable {w0 : World} {g : PlG} {long nf nw : Nat} {b : Bool} {X : WmM} {W : MwP} {F : Heap} {pb : Nat}
def setx (X : WmM) (x : List Int) : WmM := ⟨setB X.B x, X.T, X.N, X.k, X.v, X.z, X.q, X.D⟩
def sett (X : WmM) (T : TbM) : WmM := ⟨X.B, T, X.N, X.k, X.v, X.z, X.q, X.D⟩
theorem WqR.putx {x : List Int} (h : WqR g long nf X W (newM g nw b)) (hnw : nw ≤ 8) (hl : x.length = W.x.length) (hw : WdOk x) : WqR g long nf (setx X x) { W with x := x } (newM g nw b) :=
 ⟨h.eg, h.fl, h.el, ⟨setB_ok h.p.bo hl hw, h.p.tb, h.p.pi, h.p.eT, h.p.eN, h.p.bb, h.p.tbb, h.p.nb, ⟨hl.trans h.p.w.x, hw, h.p.w.N, h.p.w.n, h.p.w.t⟩⟩, h.ok, h.R, new_ok h.lg.1 hnw, h.lg, h.t, by rw [left_world (W' := { W with x := x }) (W := W) rfl]; exact h.lm, h.n, h.wd⟩
theorem wqMake_K {s : Nat} {y : SlotP} {hd : HdP} (hG : Glob w0) (h : WqR g long nf X W (newM g nw b)) (hpb : X.B.b = pb) (hnw : nw ≤ 8) (hy : g.L[s]? = some y) :
  Call Tryz.prog w0 70 [.pointer (some ⟨pb, 0, none⟩), .int .i64 (s : Nat), hdV hd] (wmH X ++ F) (fun r H' => r = .int .i64 (makeP W.x y hd).1 ∧ WqR g long nf (setx X (makeP W.x y hd).2) { W with x := (makeP W.x y hd).2 } (newM g nw b) ∧ H' = wmH (setx X (makeP W.x y hd).2) ++ F) := by
 subst hpb
 have hyl := h.okg.fits hy
 have hx := h.w.x
 have hc := Make_K (w0 := w0) (h := hd) (F := markH X.k X.B.p ++ (tabH X.T ++ (pinsH X.N ++ (X.D ++ F)))) hG h.p.bo (by rw [h.eg]; exact hy)
 refine zky ?_
 refine zS ?_
 exact ⟨_, ⟨rfl, h.putx hnw (make_len (by omega)) (make_ok h.w.w), rfl⟩, by rw [wmH_app, seenH_app]; exact byPart⟩
theorem wqSetRef_K {s : Nat} {y : SlotP} {i to : Int} (hG : Glob w0) (h : WqR g long nf X W (newM g nw b)) (hpb : X.B.b = pb) (hnw : nw ≤ 8) (hy : g.L[s]? = some y) :
  Call Tryz.prog w0 102 [.pointer (some ⟨pb, 0, none⟩), .int .i64 (s : Nat), .int .i64 i, .int .i64 to] (wmH X ++ F) (fun r H' => (∃ e, r = .int .i64 e) ∧ WqR g long nf (setx X (setRefP W.x g.slots y i to).2) { W with x := (setRefP W.x g.slots y i to).2 } (newM g nw b) ∧ H' = wmH (setx X (setRefP W.x g.slots y i to).2) ++ F) := by
 subst hpb
 have hc := bSetRef_K (w0 := w0) (i := i) (to := to) (F := markH X.k X.B.p ++ (tabH X.T ++ (pinsH X.N ++ (X.D ++ F)))) hG h.p.bo (by rw [h.eg]; exact hy)
 rw [h.eg] at hc
 refine zky ?_
 refine zS ?_
 exact ⟨_, ⟨⟨_, rfl⟩, h.putx hnw setRef_len (setRef_ok h.w.w (by have := h.okg.slots; omega)), rfl⟩, by rw [wmH_app, seenH_app]; exact byPart⟩
theorem wqMint_K {s : Nat} (h : WqR g long nf X W (newM g nw b)) (hpb : X.T.b = pb) (hnw : nw ≤ 8) (hs : s < g.slots) :
  Call Tryz.prog w0 103 [.pointer (some ⟨pb, 0, none⟩), .int .i64 (s : Nat)] (wmH X ++ F) (fun r H' => (∃ a b c, r = .tuple [.int .i64 a, .int .u32 b, .int .i64 c].toArray) ∧ ∃ T', T'.b = X.T.b ∧ WqR g long nf (sett X T') { W with T := mintT W.T (s : Nat) } (newM g nw b) ∧ H' = wmH (sett X T') ++ F) := by
 subst hpb
 have hsl := h.okg.slots
 have hc := tbMint_K (w0 := w0) (s := s) (F := markH X.k X.B.p ++ (planH X.B.p ++ (bodyH X.B ++ (memH X.B.m ++ (pinsH X.N ++ (X.D ++ F)))))) h.p.tb (by omega)
 rw [h.p.eT] at hc
 refine zky ?_
 rintro _ _ ⟨T', htb, eb, eT, rfl, rfl⟩
 refine ⟨_, ⟨⟨_, _, _, rfl⟩, T', eb, ⟨h.eg, h.fl, h.el, ⟨h.p.bo, htb, h.p.pi, eT, h.p.eN, h.p.bb, h.p.tbb.trans eb.symm, h.p.nb, ⟨h.p.w.x, h.p.w.w, h.p.w.N, h.p.w.n, fun e he h1 => ?_⟩⟩, h.ok, h.R, new_ok h.lg.1 hnw, h.lg, h.t, ?_, ?_, h.wd⟩, rfl⟩, by rw [wmH_app, seenH_app]; exact byPart⟩
 ·obtain ⟨j, hj⟩ := List.getElem?_of_mem he
  rcases mint_at hj with hh | ⟨_, hh⟩
  ·exact h.p.w.t _ (List.mem_of_getElem? hh) h1
  ·show 0 ≤ e.slot ∧ e.slot < ((X.B.p.g.slots : Nat) : Int)
   rw [h.eg, hh]; omega
 ·rw [left_world (W' := { W with T := mintT W.T (s : Nat) }) (W := W) mintT_len]
  exact h.lm
 ·show (mintT W.T (s : Nat)).length ≤ 60; rw [mintT_len]; exact h.n
end
open Go.RowKit
set_option maxRecDepth 100000
def AmR (g : PlG) (long nf pb pt pk : Nat) (X : WmM) (W : MwP) (m : MaP) : Prop := X.B.b = pb ∧ X.T.b = pt ∧ X.k.b = pk ∧ WqR g long nf X W m
def AmQ (g : PlG) (long nf pb pt pk : Nat) (W : MwP) (m : MaP) (F H' : Heap) : Prop := ∃ X, AmR g long nf pb pt pk X W m ∧ H' = wmH X ++ F
section
variable {w0 : World} {g : PlG} {long nf nw pb pt pk : Nat} {b : Bool} {X : WmM} {W W' : MwP} {m m' : MaP} {F : Heap}
theorem amMake_K {s : Nat} {y : SlotP} {hd : HdP} (hG : Glob w0) (h : AmR g long nf pb pt pk X W (newM g nw b)) (hnw : nw ≤ 8) (hy : g.L[s]? = some y) (hW : { W with x := (makeP W.x y hd).2 } = W') :
  Call Tryz.prog w0 70 [.pointer (some ⟨pb, 0, none⟩), .int .i64 (s : Nat), hdV hd] (wmH X ++ F) (fun r H' => (∃ e, r = .int .i64 e) ∧ AmQ g long nf pb pt pk W' (newM g nw b) F H') := by
 obtain ⟨h1, h2, h3, h4⟩ := h
 refine (wqMake_K (hd := hd) hG h4 h1 hnw hy).mono ?_
 rintro _ _ ⟨rfl, h5, rfl⟩
 subst hW
 exact ⟨⟨_, rfl⟩, setx X (makeP W.x y hd).2, ⟨h1, h2, h3, h5⟩, rfl⟩
theorem amSetRef_K {s : Nat} {y : SlotP} {i to : Int} (hG : Glob w0) (h : AmR g long nf pb pt pk X W (newM g nw b)) (hnw : nw ≤ 8) (hy : g.L[s]? = some y) (hW : { W with x := (setRefP W.x g.slots y i to).2 } = W') :
  Call Tryz.prog w0 102 [.pointer (some ⟨pb, 0, none⟩), .int .i64 (s : Nat), .int .i64 i, .int .i64 to] (wmH X ++ F) (fun r H' => (∃ e, r = .int .i64 e) ∧ AmQ g long nf pb pt pk W' (newM g nw b) F H') := by
 obtain ⟨h1, h2, h3, h4⟩ := h
 refine (wqSetRef_K (i := i) (to := to) hG h4 h1 hnw hy).mono ?_
 rintro _ _ ⟨h0, h5, rfl⟩
 subst hW
 exact ⟨h0, setx X (setRefP W.x g.slots y i to).2, ⟨h1, h2, h3, h5⟩, rfl⟩
theorem amMint_K {s : Nat} (h : AmR g long nf pb pt pk X W (newM g nw b)) (hnw : nw ≤ 8) (hs : s < g.slots) (hW : { W with T := mintT W.T (s : Nat) } = W') :
  Call Tryz.prog w0 103 [.pointer (some ⟨pt, 0, none⟩), .int .i64 (s : Nat)] (wmH X ++ F) (fun r H' => (∃ a b c, r = .tuple [.int .i64 a, .int .u32 b, .int .i64 c].toArray) ∧ AmQ g long nf pb pt pk W' (newM g nw b) F H') := by
 obtain ⟨h1, h2, h3, h4⟩ := h
 refine (wqMint_K h4 h2 hnw hs).mono ?_
 rintro _ _ ⟨h0, T', hb, h5, rfl⟩
 subst hW
 exact ⟨h0, sett X T', ⟨h1, hb.trans h2, h3, h5⟩, rfl⟩
theorem wqk_am (h : AmR g long nf pb pt pk X W m) {nf' : Nat} {H' : Heap} (hq : WqK g long nf' X W m' F H') : AmQ g long nf' pb pt pk W m' F H' := by
 obtain ⟨h1, h2, h3, h4⟩ := h
 obtain ⟨k', hb, h5, rfl⟩ := hq
 exact ⟨setk X k', ⟨h1, h2, hb.trans h3, h5⟩, rfl⟩
theorem amStart_K (h : AmR g long nf pb pt pk X W m) (ha : m.act = false) (hn : nf ≤ 1000000) (hm : startM g m = m') : Call Tryz.prog w0 42 [.pointer (some ⟨pk, 0, none⟩)] (wmH X ++ F)
  (fun r H' => r = .int .i64 0 ∧ AmQ g long (nf + 1) pb pt pk W m' F H') := by
 subst hm
 exact (wmStart_K h.2.2.2 h.2.2.1 ha hn).mono fun _ _ hh => ⟨hh.1, wqk_am h hh.2⟩
theorem amStep_K {hd v : Int} {x : Bool} (hG : Glob w0) (h : AmR g long nf pb pt pk X W m) (hv : 0 ≤ v ∧ v < 256) (hx : (stepM g long W m hd v).isSome = x) (hm : (stepM g long W m hd v).getD m = m') : Call Tryz.prog w0 37 [.pointer (some ⟨pk, 0, none⟩), .int .i64 hd, .int .u8 v] (wmH X ++ F)
  (fun r H' => r = .bool x ∧ AmQ g long nf pb pt pk W m' F H') := by
 subst hm hx
 exact (wmStep_K hG h.2.2.2 h.2.2.1 hv).mono fun _ _ hh => ⟨hh.1, wqk_am h hh.2⟩
theorem amHelp_K {x : Bool} (hG : Glob w0) (h : AmR g long nf pb pt pk X W m) (hx : (helpM g long W m).isSome = x) (hm : (helpM g long W m).getD m = m') : Call Tryz.prog w0 38 [.pointer (some ⟨pk, 0, none⟩)] (wmH X ++ F)
  (fun r H' => r = .bool x ∧ AmQ g long nf pb pt pk W m' F H') := by
 subst hm hx
 exact (wmHelp_K hG h.2.2.2 h.2.2.1).mono fun _ _ hh => ⟨hh.1, wqk_am h hh.2⟩
theorem amDone_K {x : Bool} (hG : Glob w0) (h : AmR g long nf pb pt pk X W m) (hx : doneM g W m = x) : Call Tryz.prog w0 39 [.pointer (some ⟨pk, 0, none⟩)] (wmH X ++ F) (fun r H' => r = .bool x ∧ H' = wmH X ++ F) := by
 subst hx
 exact wmDone_K hG h.2.2.2 h.2.2.1
theorem amOf_K {s : Nat} {c : Int} (h : AmR g long nf pb pt pk X W m) (hc : m.C[s]? = some c) : Call Tryz.prog w0 36 [.pointer (some ⟨pk, 0, none⟩), .int .i64 (s : Nat)] (wmH X ++ F) (fun r H' => r = .tuple [.int .u8 c, .int .i64 0].toArray ∧ H' = wmH X ++ F) := wmOf_K h.2.2.2 h.2.2.1 hc
theorem amHand_K {hd : Int} {x : HanP} (h : AmR g long nf pb pt pk X W m) (hx : handI m hd = x) : Call Tryz.prog w0 41 [.pointer (some ⟨pk, 0, none⟩), .int .i64 hd] (wmH X ++ F) (fun r H' => r = .tuple [.int .i64 x.slot, .int .i64 x.field, .bool x.is].toArray ∧ H' = wmH X ++ F) := by
 subst hx
 exact wmHand_K h.2.2.2 h.2.2.1
theorem amSteps_K {n : Nat} (h : AmR g long nf pb pt pk X W m) (hn : m.steps = n) : Call Tryz.prog w0 45 [.pointer (some ⟨pk, 0, none⟩)] (wmH X ++ F) (fun r H' => r = .int .i64 (n : Nat) ∧ H' = wmH X ++ F) := by
 subst hn
 exact wmSteps_K h.2.2.2 h.2.2.1
end
structure AmB where
 t : Nat
 X : WmM
def amW0 : MwP := ⟨amX0, List.replicate 4 ⟨0, 0, 1⟩, List.replicate awG.slots 0⟩
def amW1 : MwP := ⟨amX1, List.replicate 4 ⟨0, 0, 1⟩, List.replicate awG.slots 0⟩
def amW2 : MwP := ⟨amX2, List.replicate 4 ⟨0, 0, 1⟩, List.replicate awG.slots 0⟩
def amW3 : MwP := ⟨amX3, List.replicate 4 ⟨0, 0, 1⟩, List.replicate awG.slots 0⟩
set_option maxHeartbeats 8000000 in
theorem mawake_K {w0 : World} {F : Heap} (hG : Glob w0) : Call Tryz.prog w0 33 [] F (fun r H' => r = .bool true ∧ H' = F) := by
 refine Call.enter0 (n := 172) (by kernel_rfl) Tryz.func33 rfl rfl rfl ?_
 refine zbH ?_
 refine zad ?_; intro b23
 refine zaf ?_
 refine zaf ?_
 refine zad ?_; intro b26
 refine zaf ?_
 refine zay ?_; intro b1
 refine zy ?_
 refine zp fun T hT => ?_
 have hC : Sli w0 [(b23, cells [.int .i64 2, .int .i64 4] 3)] iE (.slice (some ⟨b23, 0, none⟩) 2 2) awC.cl := Sli.blk Take.head rfl (by decide) (by decide) rfl
 have hT : Sli w0 [(b26, cells (flat tnE awC.tn) 141)] tnE (.slice (some ⟨b26, 0, none⟩) 2 2) awC.tn := Sli.blk Take.head rfl (by decide) (by decide) rfl
 have hR : CfgR w0 ([(b23, cells [.int .i64 2, .int .i64 4] 3)] ++ ((b26, cells (flat tnE awC.tn) 141) :: F)) awC (.slice (some ⟨b23, 0, none⟩) 2 2) (.slice (some ⟨b26, 0, none⟩) 2 2) := ⟨hC.part byPart, hT.part byPart, rfl, rfl, by decide, by decide⟩
 refine (CallV.part (CallV.fn (mmade_K hG hR am_ok hC rfl)) byPart).mono ?_
 rintro _ _ ⟨X, hX, rfl, rfl⟩
 obtain ⟨q1, q2, q3, q4, q5, q6, q7, q8, q9, r1, r2, r3⟩ := hX.o
 obtain ⟨pb, hpb⟩ : ∃ pb, X.B.b = pb := ⟨_, rfl⟩
 obtain ⟨pt, hpt⟩ : ∃ pt, X.T.b = pt := ⟨_, rfl⟩
 obtain ⟨pk, hpk⟩ : ∃ pk, X.k.b = pk := ⟨_, rfl⟩
 have hA0 : AmR awG 2 1 pb pt pk X amW0 (newM awG 1 false) := ⟨hpb, hpt, hpk, hX.q⟩
 clear hX hR hT hC
 unfold wmL
 simp only [hpb, hpt, hpk]
 refine zd ?_
 clear hT T
 refine zao ?_; intro b2
 refine zaG ?_
 refine zJ ?_
 refine zaf ?_
 refine zg fun T hT => ?_
 refine (CallV.part (CallV.fn (amMake_K (W' := amW1) (s := 10) (hd := ⟨1, 2, 0⟩) hG hA0 (by decide) am_y0 rfl)) byPart).mono ?_
 rintro _ _ ⟨⟨e1, rfl⟩, X1, hA1, rfl⟩
 refine zd ?_
 clear hT T
 refine zy ?_
 refine zJ ?_
 refine zaf ?_
 refine zg fun T hT => ?_
 refine (CallV.part (CallV.fn (amMake_K (W' := amW2) (s := 11) (hd := ⟨1, 1, 0⟩) hG hA1 (by decide) am_y1 rfl)) byPart).mono ?_
 rintro _ _ ⟨⟨e2, rfl⟩, X2, hA2, rfl⟩
 refine zd ?_
 clear hT T
 refine zy ?_
 refine zeQ fun T hT => ?_
 refine (CallV.part (CallV.fn (amSetRef_K (W' := amW3) (s := 10) (i := 0) (to := 11) hG hA2 (by decide) am_y0 rfl)) byPart).mono ?_
 rintro _ _ ⟨⟨e3, rfl⟩, X3, hA3, rfl⟩
 refine zd ?_
 clear hT T
 refine zy ?_
 refine zcf fun T hT => ?_
 refine (CallV.part (CallV.fn (amMint_K (W' := amW) (s := 10) hA3 (by decide) (lt_of_get am_y0) rfl)) byPart).mono ?_
 rintro _ _ ⟨⟨u1, u2, u3, rfl⟩, X4, hA4, rfl⟩
 refine zd ?_
 clear hT T
 refine zb9 ?_
 refine zak ?_
 (first | refine K.seq (K.drawn ((b2, cells [.pointer (some ⟨pb, 0, none⟩), .pointer (some ⟨pt, 0, none⟩), .pointer (some ⟨X.N.b, 0, none⟩), .pointer (some ⟨pk, 0, none⟩), X.z.vr, .int .i64 ((0 : Nat) : Int), X.v.L, X.v.F, X.v.M, .int .i64 ((gOf awC 0).words : Nat), X.v.C, X.z.vt, .int .i64 X.z.gens, X.z.vn, X.q.c, X.v.L, X.v.F, X.v.M, .int .i64 ((gOf awC 0).words : Nat), X.v.C, .int .i64 (awC.grey.toNat : Nat), X.q.u.Q, X.q.u.ow, X.q.u.di, .int .i64 (pgI (newM (gOf awC 0) awC.workers.toNat false).G), .int .i64 ((newM (gOf awC 0) awC.workers.toNat false).G.at_ : Nat), X.q.h, .int .i64 ((newM (gOf awC 0) awC.workers.toNat false).root : Nat), .bool (newM (gOf awC 0) awC.workers.toNat false).act, .int .i64 ((newM (gOf awC 0) awC.workers.toNat false).steps : Nat)] 99) :: []) [(0, 0), (1, 0), (3, 1), (4, 1), (6, 1), (7, 1), (2, 2), (5, 2), (8, 2), (9, 0), (10, 0), (11, 0)] (by kernel_rfl) (by kernel_rfl) (by kernel_rfl) (by kernel_rfl) (by kernel_rfl) (by kernel_rfl) byPart ?_) | refine K.seq (K.seq (K.drawn ((b2, cells [.pointer (some ⟨pb, 0, none⟩), .pointer (some ⟨pt, 0, none⟩), .pointer (some ⟨X.N.b, 0, none⟩), .pointer (some ⟨pk, 0, none⟩), X.z.vr, .int .i64 ((0 : Nat) : Int), X.v.L, X.v.F, X.v.M, .int .i64 ((gOf awC 0).words : Nat), X.v.C, X.z.vt, .int .i64 X.z.gens, X.z.vn, X.q.c, X.v.L, X.v.F, X.v.M, .int .i64 ((gOf awC 0).words : Nat), X.v.C, .int .i64 (awC.grey.toNat : Nat), X.q.u.Q, X.q.u.ow, X.q.u.di, .int .i64 (pgI (newM (gOf awC 0) awC.workers.toNat false).G), .int .i64 ((newM (gOf awC 0) awC.workers.toNat false).G.at_ : Nat), X.q.h, .int .i64 ((newM (gOf awC 0) awC.workers.toNat false).root : Nat), .bool (newM (gOf awC 0) awC.workers.toNat false).act, .int .i64 ((newM (gOf awC 0) awC.workers.toNat false).steps : Nat)] 99) :: []) [(0, 0), (1, 0), (3, 1), (4, 1), (6, 1), (7, 1), (2, 2), (5, 2), (8, 2), (9, 0), (10, 0), (11, 0)] (by kernel_rfl) (by kernel_rfl) (by kernel_rfl) (by kernel_rfl) (by kernel_rfl) (by kernel_rfl) byPart ?_)) | refine K.drawn ((b2, cells [.pointer (some ⟨pb, 0, none⟩), .pointer (some ⟨pt, 0, none⟩), .pointer (some ⟨X.N.b, 0, none⟩), .pointer (some ⟨pk, 0, none⟩), X.z.vr, .int .i64 ((0 : Nat) : Int), X.v.L, X.v.F, X.v.M, .int .i64 ((gOf awC 0).words : Nat), X.v.C, X.z.vt, .int .i64 X.z.gens, X.z.vn, X.q.c, X.v.L, X.v.F, X.v.M, .int .i64 ((gOf awC 0).words : Nat), X.v.C, .int .i64 (awC.grey.toNat : Nat), X.q.u.Q, X.q.u.ow, X.q.u.di, .int .i64 (pgI (newM (gOf awC 0) awC.workers.toNat false).G), .int .i64 ((newM (gOf awC 0) awC.workers.toNat false).G.at_ : Nat), X.q.h, .int .i64 ((newM (gOf awC 0) awC.workers.toNat false).root : Nat), .bool (newM (gOf awC 0) awC.workers.toNat false).act, .int .i64 ((newM (gOf awC 0) awC.workers.toNat false).steps : Nat)] 99) :: []) [(0, 0), (1, 0), (3, 1), (4, 1), (6, 1), (7, 1), (2, 2), (5, 2), (8, 2), (9, 0), (10, 0), (11, 0)] (by kernel_rfl) (by kernel_rfl) (by kernel_rfl) (by kernel_rfl) (by kernel_rfl) (by kernel_rfl) byPart ?_)
 refine zg0 ?_
 refine zax ?_
 refine zis ?_
 refine zaO ?_
 refine zis ?_
 refine zaO ?_
 refine zl fun T hT => ?_
 refine (CallV.part (CallV.fn (amStart_K (m' := am0) hA4 rfl (by decide) rfl)) byPart).mono ?_
 rintro _ _ ⟨rfl, X5, hA5, rfl⟩
 refine zi ?_
 clear hT T
 refine zl fun T hT => ?_
 refine (CallV.part (CallV.fn (amStep_K (m' := am0) (hd := 0) (v := 2) hG hA5 (by decide) (by rw [am_b] <;> rfl) (by rw [am_b] <;> rfl))) byPart).mono ?_
 rintro _ _ ⟨rfl, X6, hA6, rfl⟩
 refine zi ?_
 clear hT T
 refine zl fun T hT => ?_
 refine (CallV.part (CallV.fn (amStep_K (m' := am1) (hd := 0) (v := 1) hG hA6 (by decide) am_d rfl)) byPart).mono ?_
 rintro _ _ ⟨rfl, X7, hA7, rfl⟩
 refine zi ?_
 clear hT T
 refine zaw ?_
 refine zaw ?_
 refine zbm ?_
 refine zaN ?_
 refine zbh fun T hT => ?_
 refine (CallV.part (CallV.fn (amOf_K (s := 10) hA7 am_g)) byPart).mono ?_
 refine ze ?_
 clear hT T
 refine zbw ?_
 refine zbh fun T hT => ?_
 refine (CallV.part (CallV.fn (amStep_K (m' := am2) (hd := 0) (v := 2) hG hA7 (by decide) am_e rfl)) byPart).mono ?_
 rintro _ _ ⟨rfl, X8, hA8, rfl⟩
 refine zd ?_
 clear hT T
 refine zr ?_
 refine zbh fun T hT => ?_
 refine (CallV.part (CallV.fn (amHand_K (hd := 0) hA8 am_h)) byPart).mono ?_
 refine ze ?_
 clear hT T
 refine zcN ?_
 refine za0 ?_
 refine zak ?_
 refine zlK ?_
 refine zg0 ?_
 refine zax ?_
 refine zis ?_
 refine zaO ?_
 refine zl fun T hT => ?_
 refine (CallV.part (CallV.fn (amStep_K (m' := am3) (hd := 0) (v := 3) hG hA8 (by decide) am_i rfl)) byPart).mono ?_
 rintro _ _ ⟨rfl, X9, hA9, rfl⟩
 refine zi ?_
 clear hT T
 refine zl fun T hT => ?_
 refine (CallV.part (CallV.fn (amStep_K (m' := am4) (hd := 0) (v := 3) hG hA9 (by decide) am_j rfl)) byPart).mono ?_
 rintro _ _ ⟨rfl, Xa, hAa, rfl⟩
 refine zi ?_
 clear hT T
 refine zaw ?_
 refine zbm ?_
 refine zaN ?_
 refine zbh fun T hT => ?_
 refine (CallV.part (CallV.fn (amOf_K (s := 10) hAa am_k)) byPart).mono ?_
 refine ze ?_
 clear hT T
 refine zag ?_
 refine za0 ?_
 refine zak ?_
 refine zlK ?_
 refine zg0 ?_
 refine zax ?_
 refine zis ?_
 refine zaO ?_
 refine zl fun T hT => ?_
 refine (CallV.part (CallV.fn (amHelp_K (m' := am5) hG hAa am_l rfl)) byPart).mono ?_
 rintro _ _ ⟨rfl, Xb, hAb, rfl⟩
 refine zi ?_
 clear hT T
 refine zl fun T hT => ?_
 refine (CallV.part (CallV.fn (amHelp_K (m' := am6) hG hAb am_n rfl)) byPart).mono ?_
 rintro _ _ ⟨rfl, Xc, hAc, rfl⟩
 refine zi ?_
 clear hT T
 refine zaw ?_
 refine zbm ?_
 refine zaN ?_
 refine zbh fun T hT => ?_
 refine (CallV.part (CallV.fn (amOf_K (s := 11) hAc am_o)) byPart).mono ?_
 refine ze ?_
 clear hT T
 refine zbw ?_
 refine zbh fun T hT => ?_
 refine (CallV.part (CallV.fn (amDone_K hG hAc am_q)) byPart).mono ?_
 refine ze ?_
 clear hT T
 refine zcn ?_
 clear hA0 hA1 hA2 hA3 hA4 hA5 hA6 hA7 hA8 hA9 hAa hAb hpb hpt hpk
 refine K.loopT (σ := AmB) [(2, _), (4, _), (5, _), (6, _), (7, _), (9, _), (10, _), (11, _), (12, _), (13, _), (14, _), (15, _), (17, _), (18, _), (19, _), (21, _)] (fun s kp_ => (22, .int .i64 (s.t : Nat)) :: kp_) (fun s => wmH s.X ++ ((b2, cells [.pointer (some ⟨pb, 0, none⟩), .pointer (some ⟨pt, 0, none⟩), .pointer (some ⟨X.N.b, 0, none⟩), .pointer (some ⟨pk, 0, none⟩), X.z.vr, .int .i64 ((0 : Nat) : Int), X.v.L, X.v.F, X.v.M, .int .i64 ((gOf awC 0).words : Nat), X.v.C, X.z.vt, .int .i64 X.z.gens, X.z.vn, X.q.c, X.v.L, X.v.F, X.v.M, .int .i64 ((gOf awC 0).words : Nat), X.v.C, .int .i64 (awC.grey.toNat : Nat), X.q.u.Q, X.q.u.ow, X.q.u.di, .int .i64 (pgI (newM (gOf awC 0) awC.workers.toNat false).G), .int .i64 ((newM (gOf awC 0) awC.workers.toNat false).G.at_ : Nat), X.q.h, .int .i64 ((newM (gOf awC 0) awC.workers.toNat false).root : Nat), .bool (newM (gOf awC 0) awC.workers.toNat false).act, .int .i64 ((newM (gOf awC 0) awC.workers.toNat false).steps : Nat)] 99) :: F)) (fun s => s.t ≤ 18 ∧ AmR awG 2 2 pb pt pk s.X amW (amH s.t)) (fun s => 19 - s.t) (⟨0, Xc⟩) bySub byPart (⟨Nat.zero_le _, hAc⟩) ?_
 rintro ⟨t, Y⟩ ⟨ht, hA⟩
 dsimp only at ht hA ⊢
 have ht100 : ((t : Nat) : Int) < 100 := by omega
 by_cases hlt : t < 18
 ·refine K.seq ?_
  refine zbt ?_
  refine zE ?_
  refine zu ?_
  refine zbS fun T hT => ?_
  refine (CallV.part (CallV.fn (amHelp_K (m' := amH (t + 1)) hG hA (am_step hlt) rfl)) byPart).mono ?_
  rintro _ _ ⟨rfl, Y2, hA2, rfl⟩
  refine zd ?_
  clear hT T
  refine zC ?_
  refine KL.nil (KE.next (K.condT rfl (K.skip (KE.next (K.seq (K.block (K.skip ?_)))))))
  refine zbq ?_
  exact KE.again ⟨t + 1, Y2⟩ bySub byPart ⟨hlt, hA2⟩ (by show 19 - (t + 1) < 19 - t; omega)
 ·have ht18 : t = 18 := by omega
  subst ht18
  refine zv ?_
  refine zE ?_
  refine zu ?_
  refine zbS fun T hT => ?_
  refine (CallV.part (CallV.fn (amHelp_K (m' := amH 18) hG hA (by rw [am_end] <;> rfl) (by rw [am_end] <;> rfl))) byPart).mono ?_
  rintro _ _ ⟨rfl, Y2, hA2, rfl⟩
  refine zd ?_
  clear hT T
  refine zC ?_
  refine zfg ?_
  refine zf ?_
  refine zgx ?_
  refine zbA ?_
  refine zbn ?_
  refine zf ?_
  refine zdi ?_
  refine zY ?_
  refine zbn ?_
  refine zf ?_
  refine zdi ?_
  refine zY ?_
  refine zdi ?_
  refine zY ?_
  refine zbn ?_
  refine zf ?_
  refine zbn ?_
  refine zf ?_
  refine zbn ?_
  refine zf ?_
  refine zdi ?_
  refine zY ?_
  refine zbn ?_
  refine zf ?_
  refine zbn ?_
  refine zf ?_
  refine zdi ?_
  refine zY ?_
  refine zdi ?_
  refine zbA ?_
  refine zbn ?_
  refine zbS fun T hT => ?_
  refine (CallV.part (CallV.fn (amDone_K hG hA2 am_done)) byPart).mono ?_
  refine ze ?_
  clear hT T
  refine zbn ?_
  refine zbS fun T hT => ?_
  refine (CallV.part (CallV.fn (amSteps_K hA2 am_steps)) byPart).mono ?_
  refine ze ?_
  clear hT T
  refine zdZ ?_
  exact zb6
open Go.RowKit
set_option maxRecDepth 10000
structure SmA where
 i : Nat
theorem hand_in {m : MaP} {j : Nat} {x : HanP} (h : m.hs[j]? = some x) : handI m (j : Nat) = x := by
 unfold handI; rw [if_pos (by omega), Int.toNat_natCast, h]; rfl
theorem hand_neg {m : MaP} : handI m (-1) = hand0 := by unfold handI; rw [if_neg (by decide)]
theorem hand_out {m : MaP} : handI m (m.hs.length : Nat) = hand0 := by
 unfold handI; rw [if_pos (by omega), Int.toNat_natCast, List.getElem?_eq_none (Nat.le_refl _)]; rfl
theorem beq_b (b : Bool) : (b == b) = true := by cases b <;> rfl
theorem bne_b (b : Bool) : (b != b) = false := by cases b <;> rfl
section
variable {w0 : World} {g : PlG} {long nf : Nat} {X : WmM} {W : MwP} {m : MaP} {F : Heap}
set_option maxHeartbeats 4000000 in
theorem msame_K (hG : Glob w0) (hX : WmR w0 g long nf X ⟨W, m, m⟩) :
  Call Tryz.prog w0 48 [.agg (wmL g long X m).toArray] (wmH X ++ F) (fun r H' => r = .bool true ∧ H' = wmH X ++ F) := by
 obtain ⟨q1, q2, q3, q4, q5, q6, q7, q8, q9, r1, r2, r3⟩ := hX.o
 have hpD : Part (wmH X) X.D := by unfold wmH; exact byPart
 have hC : Sli w0 (wmH X ++ []) bE X.q.c m.C := sli_nil (hX.K.C.part hpD)
 have hH : Sli w0 (wmH X ++ []) hanE X.q.h m.hs := sli_nil (hX.K.H.part hpD)
 have hof := fun A (s : Nat) (c : Int) (h : m.C[s]? = some c) => wmOf_K (w0 := w0) (F := A) (kb := X.k.b) hX.q rfl h
 have hha := fun A (hd : Int) => wmHand_K (w0 := w0) (F := A) (kb := X.k.b) (hd := hd) hX.q rfl
 have hdo := fun A => wmDone_K (w0 := w0) (F := A) (kb := X.k.b) hG hX.q rfl
 have hac := fun A => wmActive_K (w0 := w0) (F := A) (kb := X.k.b) hX.q rfl
 have hst := fun A => wmSteps_K (w0 := w0) (F := A) (kb := X.k.b) hX.q rfl
 have hrd := fun A => Call.ro (w0 := w0) (A := X.D) (H := wmH X ++ A) (fun F => rkDone_K (F := F) hX.okg hX.K hX.k hX.lg.2 hX.W) (by rw [wmH_app]; exact byPart)
 have hhl := hX.k.hs
 have hcl := hX.k.C
 have hsl := hX.okg.slots
 dsimp only at hhl hcl hrd hdo hof hha hac hst
 obtain ⟨dn, hdn⟩ : ∃ dn, doneM g W m = dn := ⟨_, rfl⟩
 simp only [hdn] at hrd hdo
 clear hdn hpD
 unfold kmL kwL at hrd
 unfold wmL
 refine Call.enter1 (n := 114) (by kernel_rfl) Tryz.func48 rfl rfl rfl ?_
 refine zbl ?_; intro b1
 refine zcn ?_
 refine K.loopT (σ := SmA) [(1, _)] (fun s kp_ => (3, .int .i64 (s.i : Nat)) :: kp_) (fun s => wmH X ++ ((b1, cells (wmL g long X m) 99) :: F)) (fun s => s.i ≤ m.C.length) (fun s => m.C.length - s.i) (⟨0⟩) bySub byPart (Nat.zero_le _) ?_
 rintro ⟨i⟩ hi
 dsimp only at hi ⊢
 unfold wmL
 by_cases hlt : i < m.C.length
 ·obtain ⟨c, hc⟩ := get_of_lt hlt
  refine zv ?_
  refine zaZ ?_
  refine zcP ?_
  refine za3 ?_
  refine zg8 fun T hT => ?_
  refine (CallV.part (CallV.fn (hof _ i c hc)) byPart).mono ?_
  refine ze ?_
  clear hT T
  refine zbv ?_
  refine za1 ?_
  refine zaZ ?_
  refine zdX ?_
  refine zaR ?_
  refine zdq ?_
  refine zcy ?_
  refine zD ?_
  refine zhe ?_
  exact KE.again ⟨i + 1⟩ bySub byPart hlt (by show m.C.length - (i + 1) < m.C.length - i; omega)
 ·refine K.seq ?_
  refine zbt ?_
  refine zaZ ?_
  refine zcP ?_
  refine zdd ?_
  refine zbO ?_
  refine zgY ?_
  refine zaE ?_
  refine K.loopT (σ := SmA) [(1, _)] (fun s kp_ => (6, .int .i64 ((s.i : Nat) - 1)) :: kp_) (fun s => wmH X ++ ((b1, cells (wmL g long X m) 99) :: F)) (fun s => s.i ≤ m.hs.length + 2) (fun s => m.hs.length + 2 - s.i) (⟨0⟩) bySub byPart (Nat.zero_le _) ?_
  rintro ⟨j⟩ hj
  dsimp only at hj ⊢
  unfold wmL
  by_cases h0 : j = 0
  ·subst h0
   have e0 : (((0 : Nat) : Int) - 1) = -1 := rfl
   have hh0 := fun A => hha A (-1)
   rw [hand_neg] at hh0
   unfold hand0 at hh0
   dsimp only at hh0
   rw [e0]
   refine zv ?_
   refine zaZ ?_
   refine zg1 ?_
   refine zk ?_
   refine zP ?_
   refine zah ?_
   refine zev fun T hT => ?_
   refine zk1 ?_
   clear hT T
   refine zcN ?_
   refine zr ?_
   refine zaf ?_
   refine zay ?_; intro b10
   refine zg9 ?_
   refine zaJ ?_
   refine zct ?_
   refine zan ?_
   refine zf ?_
   refine zJ ?_
   refine za1 ?_
   refine z6 ?_
   refine zbs ?_
   refine zaT ?_
   refine zf6 ?_
   refine zhe ?_
   exact KE.again ⟨1⟩ bySub byPart (by show 1 ≤ m.hs.length + 2; omega) (by show m.hs.length + 2 - 1 < m.hs.length + 2 - 0; omega)
  ·obtain ⟨n, rfl⟩ : ∃ n, j = n + 1 := ⟨j - 1, by omega⟩
   have e1 : (((n + 1 : Nat) : Int) - 1) = (n : Nat) := by omega
   have e2 : (((n + 1 + 1 : Nat) : Int) - 1) = ((n : Nat) : Int) + 1 := by omega
   rw [e1]
   by_cases hn : n < m.hs.length
   ·obtain ⟨x, hx⟩ := get_of_lt hn
    have hh0 := fun A => hha A (n : Nat)
    rw [hand_in hx] at hh0
    have hn' : ((n : Nat) : Int) ≥ 0 := by omega
    refine zv ?_
    refine zaZ ?_
    refine zg1 ?_
    refine zk ?_
    refine zP ?_
    refine zah ?_
    refine zev fun T hT => ?_
    refine zk1 ?_
    clear hT T
    refine zcN ?_
    refine zr ?_
    refine zaf ?_
    refine zay ?_; intro b10
    refine zg9 ?_
    refine zes ?_
    refine zaZ ?_
    refine zm ?_
    refine zg1 ?_
    refine zdR ?_
    refine zgi ?_
    refine zbz ?_
    refine zaZ ?_
    refine zg1 ?_
    refine zcO ?_
    refine ziO ?_
    refine zcj ?_
    refine zf ?_
    refine zJ ?_
    refine za1 ?_
    refine z6 ?_
    refine zbs ?_
    refine zaT ?_
    refine zf6 ?_
    refine zn ?_
    refine zb9 ?_
    rw [bne_b]
    refine K.condF rfl (K.skip ?_)
    refine zbq ?_
    exact KE.again ⟨n + 1 + 1⟩ bySub byPart (by show n + 1 + 1 ≤ m.hs.length + 2; omega) (by show m.hs.length + 2 - (n + 1 + 1) < m.hs.length + 2 - (n + 1); omega)
   ·by_cases hn1 : n = m.hs.length
    ·subst hn1
     have hh0 := fun A => hha A (m.hs.length : Nat)
     rw [hand_out] at hh0
     unfold hand0 at hh0
     dsimp only at hh0
     refine zv ?_
     refine zaZ ?_
     refine zg1 ?_
     refine zk ?_
     refine zP ?_
     refine zah ?_
     refine zev fun T hT => ?_
     refine zk1 ?_
     clear hT T
     refine zcN ?_
     refine zr ?_
     refine zaf ?_
     refine zay ?_; intro b10
     refine zg9 ?_
     refine zes ?_
     refine zaZ ?_
     refine zm ?_
     refine zg1 ?_
     refine zdR ?_
     refine zR ?_
     refine zC ?_
     refine zM ?_
     refine zf ?_
     refine zJ ?_
     refine za1 ?_
     refine z6 ?_
     refine zbs ?_
     refine zaT ?_
     refine zf6 ?_
     refine zhe ?_
     exact KE.again ⟨m.hs.length + 1 + 1⟩ bySub byPart (Nat.le_refl _) (by show m.hs.length + 2 - (m.hs.length + 1 + 1) < m.hs.length + 2 - (m.hs.length + 1); omega)
    ·have hn2 : ¬ ((n : Nat) : Int) ≤ (m.hs.length : Nat) := by omega
     refine zv ?_
     refine zaZ ?_
     refine zg1 ?_
     refine zk ?_
     refine zP ?_
     refine zcq ?_
     refine zbO ?_
     refine zbC ?_
     refine K.drawn _ [(0, 0), (1, 0), (3, 1), (4, 1), (5, 1), (6, 1), (2, 2), (7, 2), (8, 0), (9, 0), (10, 0), (11, 0), (13, 1), (14, 1), (15, 1), (12, 2), (16, 0), (17, 0), (18, 0), (19, 0), (20, 0), (22, 1), (23, 1), (24, 1), (21, 2), (25, 0), (26, 0), (27, 0)] (by kernel_rfl) (by kernel_rfl) (by kernel_rfl) (by kernel_rfl) (by kernel_rfl) (by kernel_rfl) Part.all ?_
     refine zfF ?_
     refine KD.v1 rfl rfl (Val.fieldAddr0 (k := 14) rfl rfl) ?_
     refine KD.v1 rfl rfl (Val.loadA rfl rfl rfl bySeeN) ?_
     refine KD.v1 rfl rfl (Val.fieldAddr0 (k := 4) rfl rfl) ?_
     refine KD.v1 rfl rfl (Val.loadA rfl rfl rfl bySeeN) ?_
     refine zl fun T hT => ?_
     refine (CallV.part (CallV.fn (hdo _)) byPart).mono ?_
     refine zab ?_
     clear hT T
     refine zl fun T hT => ?_
     refine (CallV.part (CallV.fn (hrd _)) byPart).mono ?_
     refine zab ?_
     clear hT T
     refine KD.v0 rfl rfl (Val.eqlB rfl rfl rfl) ?_
     refine zo ?_
     rw [beq_b]
     refine KD.y0 rfl rfl rfl rfl (Val.fieldAddr0 (k := 3) rfl rfl) ?_
     refine zbk ?_
     refine KD.y1 rfl rfl rfl rfl (Val.fieldAddr0 (k := 14) rfl rfl) ?_
     refine KD.y1 rfl rfl rfl rfl (Val.fieldAddr (k := 14) rfl rfl) ?_
     refine zhB ?_
     refine zb2 fun T hT => ?_
     refine zlE ?_
     refine zab ?_
     clear hT T
     refine KD.y0 rfl rfl rfl rfl (Val.eqlB rfl rfl rfl) ?_
     refine zcS ?_
     rw [beq_b]
     refine KD.y0 rfl rfl rfl rfl (Val.fieldAddr0 (k := 3) rfl rfl) ?_
     refine zbk ?_
     refine KD.y1 rfl rfl rfl rfl (Val.fieldAddr0 (k := 14) rfl rfl) ?_
     refine KD.y1 rfl rfl rfl rfl (Val.fieldAddr (k := 15) rfl rfl) ?_
     refine zhB ?_
     refine zb2 fun T hT => ?_
     refine ze8 ?_
     refine zab ?_
     clear hT T
     refine zhs ?_
     refine zbj ?_
     exact zdU
end
set_option maxRecDepth 10000
theorem count_set {l : List Bool} {i : Nat} (h : l[i]? = some false) : (l.set i true).count false + 1 = l.count false := by
 induction l generalizing i with
 | nil => simp at h
 | cons x l ih =>
  cases i with
  | zero => simp at h; subst h; simp
  | succ i =>
   simp at h
   have := ih h
   simp only [List.set_cons_succ, List.count_cons]
   omega
section
variable {g : PlG} {W : MwP} {o o0 : List Bool} {mr : Bool} {n : Nat}
structure RcA (g : PlG) (W : MwP) (n : Nat) (o : List Bool) : Prop where
 len : o.length = g.slots
 ok : ∀ s : Nat, o[s]? = some true → RchM g W s
 rt : ∀ r s : Nat, r < n → rootSl g W r = some (s : Nat) → o[s]? = some true
theorem RcA.nil : RcA g W 0 (List.replicate g.slots false) := ⟨by simp, fun s h => (by
 rw [List.getElem?_replicate] at h
 split at h <;> cases h), fun r s h => absurd h (Nat.not_lt_zero _)⟩
theorem set_true {s t : Nat} (h : o[t]? = some true) : (o.set s true)[t]? = some true := by
 by_cases e : s = t
 ·subst e; rw [List.getElem?_set_self (lt_of_get h)]
 ·rw [List.getElem?_set_ne e]
  exact h
theorem of_set {s t : Nat} (h : (o.set s true)[t]? = some true) : o[t]? = some true ∨ (t = s) := by
 by_cases e : s = t
 ·exact .inr e.symm
 ·rw [List.getElem?_set_ne e] at h; exact .inl h
theorem RcA.put {s : Nat} (h : RcA g W n o) (hn : n < W.T.length + g.slots) (hW : MwOk g W) (hr : rootSl g W n = some (s : Nat)) : RcA g W (n + 1) (o.set s true) := by
 have hs : s < g.slots := by have := (rootSl_in hW hn hr).2; omega
 refine ⟨by rw [List.length_set]; exact h.len, fun t ht => ?_, fun r t hrn hrt => ?_⟩
 ·rcases of_set ht with e | e
  ·exact h.ok t e
  ·subst e; exact .root hn hr
 ·rcases Nat.lt_or_ge r n with hl | hl
  ·exact set_true (h.rt r t hl hrt)
  ·have : r = n := by omega
   subst this
   rw [hr] at hrt
   have e : s = t := by have := Option.some.inj hrt; omega
   subst e
   exact List.getElem?_set_self (by rw [h.len]; exact hs)
theorem RcA.skip (h : RcA g W n o) (hr : ∀ s : Nat, rootSl g W n = some (s : Nat) → o[s]? = some true) : RcA g W (n + 1) o := ⟨h.len, h.ok, fun r t hrn hrt => by
 rcases Nat.lt_or_ge r n with hl | hl
 ·exact h.rt r t hl hrt
 ·have : r = n := by omega
  subst this; exact hr t hrt⟩
structure RdS (g : PlG) (W : MwP) (o0 o : List Bool) (mr : Bool) : Prop where
 a : RcA g W (W.T.length + g.slots) o
 c : mr = true → o.count false < o0.count false
 e : mr = false → o = o0
theorem RdS.put {s : Nat} (h : RdS g W o0 o mr) (hs : RchM g W s) (hf : o[s]? = some false) : RdS g W o0 (o.set s true) true := by
 have h1 := count_set hf
 refine ⟨⟨by rw [List.length_set]; exact h.a.len, fun t ht => ?_, fun r t hr ht => set_true (h.a.rt r t hr ht)⟩, fun _ => ?_, fun e => (by cases e)⟩
 ·rcases of_set ht with e | e
  ·exact h.a.ok t e
  ·subst e; exact hs
 ·cases mr with
  | true => have := h.c rfl; omega
  | false => have := h.e rfl; subst this; omega
def ClN (g : PlG) (W : MwP) (o : List Bool) (n : Nat) : Prop := ∀ (s t : Nat) (i : Int), s < n → o[s]? = some true → refO g W.x (s : Nat) i = some (t : Nat) → o[t]? = some true
theorem RcA.done (hW : MwOk g W) (h : RcA g W (W.T.length + g.slots) o) (hc : ClN g W o g.slots) (s : Nat) (hs : s < g.slots) : o[s]? = some true ↔ RchM g W s := by
 refine ⟨h.ok s, fun hr => ?_⟩
 induction hr with
 | root h1 h2 => exact h.rt _ _ h1 h2
 | edge h1 h2 ih =>
  have hs1 := rch_in hW h1
  exact hc _ _ _ hs1 (ih hs1) h2
theorem ref_list (ok : PlOk g) (hW : MwOk g W) (hrf : RfOk g W.x) {s : Nat} {y : SlotP} (hy : g.L[s]? = some y) {k : Nat} {v : Int} (h : (refsL W.x g.slots y (refsN W.x y).toNat)[k]? = some v) (h0 : 0 ≤ v) : refO g W.x (s : Nat) (k : Nat) = some v ∧ v < (g.slots : Nat) := by
 have hk : k < (refsN W.x y).toNat := by have := lt_of_get h; rwa [refsL_len] at this
 have hv : (refP W.x g.slots y (k : Nat)).1 = v := by
  unfold refsL at h
  rw [List.getElem?_map, List.getElem?_range hk] at h
  simpa using h
 have hf : fldP W.x y true (k : Nat) = 0 := by
  unfold refsN at hk
  cases hh : headP W.x y with
  | none => rw [hh] at hk; simp at hk
  | some q =>
   rw [hh] at hk
   have hm := (lies_of (headP_of hh).2).1
   simp only [mayH, decide_eq_true_eq] at hm
   unfold fldP
   rw [hh]
   dsimp only at hk ⊢
   rw [if_pos ⟨by omega, by omega, decide_eq_true (by omega)⟩]
 have h2 := rf_ok ok hrf hy hf
 have hr : refO g W.x (s : Nat) (k : Nat) = some v := by
  unfold refO
  rw [slotA_at hy, if_pos ⟨h2, by rw [hv]; exact h0⟩, hv]
 exact ⟨hr, (refO_in hr hW.w).2.1⟩
theorem ref_in (hW : MwOk g W) {s t : Nat} {y : SlotP} (hy : g.L[s]? = some y) {i : Int} (h : refO g W.x (s : Nat) i = some (t : Nat)) : ∃ k : Nat, (refsL W.x g.slots y (refsN W.x y).toNat)[k]? = some ((t : Nat) : Int) := by
 obtain ⟨_, _, h3, h4⟩ := refO_in h hW.w
 rw [slotA_at hy] at h4
 refine ⟨i.toNat, ?_⟩
 unfold refsL
 rw [List.getElem?_map, List.getElem?_range (by omega)]
 have he : refO g W.x (s : Nat) i = some (refP W.x g.slots y i).1 := by
  unfold refO at h ⊢
  rw [slotA_at hy] at h ⊢
  split at h
  ·rename_i hc; rw [if_pos hc]
  ·cases h
 rw [h] at he
 have := Option.some.inj he
 simp only [Option.map_some]
 rw [show ((i.toNat : Nat) : Int) = i by omega, ← this]
end
end Go.Proofs.YtalholahapcpkaaGreatDoor.Sw
