/- The walker and the contracts that the law needs, part 30. -/
import Derived.Test.YtalholahapcpkaaGreatDoorD1
import Derived.Test.YtalholahapcpkaaGreatDoorJ29
namespace Go.Proofs.YtalholahapcpkaaGreatDoor.Sw
open Go.Proofs.YtalholahapcpkaaGreatDoor renaming lo → qL, hi → qH
open Go.RowKit
set_option linter.unusedVariables false
set_option linter.unusedSimpArgs false
set_option maxRecDepth 10000
structure KwV where
 vr : Value
 vt : Value
 vn : Value
 R : List RwD
 gens : Int
def kwL (v : PlV) (g : PlG) (z : KwV) : List Value := [z.vr, .int .i64 ((0 : Nat) : Int), v.L, v.F, v.M, .int .i64 (g.words : Nat), v.C, z.vt, .int .i64 z.gens, z.vn]
structure KwD (w0 : World) (D : Heap) (v : PlV) (g : PlG) (z : KwV) (W : MwP) : Prop where
 B : BoD w0 D v z.vr g z.R
 f : BoF g z.R 0 W.x
 T : Sli w0 D wE z.vt (W.T.map docE)
 N : Sli w0 D iE z.vn W.N
 oT : z.vt.oneCell' = true
 oN : z.vn.oneCell' = true
 w : MwOk g W
 rf : RfOk g W.x
 st : StOk W.T
theorem KwD.part {w0 : World} {D D' : Heap} {v : PlV} {g : PlG} {z : KwV} {W : MwP} (h : KwD w0 D v g z W) (hp : Part D' D) : KwD w0 D' v g z W := ⟨h.B.part hp, h.f, h.T.part hp, h.N.part hp, h.oT, h.oN, h.w, h.rf, h.st⟩
section
variable {w0 : World} {D F : Heap} {v : PlV} {g : PlG} {long : Nat} {q : KmV} {m : MaP} {W : MwP} {z : KwV}
theorem rkroots_K (hW : KwD w0 D v g z W) :
  Call Tryz.prog w0 210 [.agg (kwL v g z).toArray] (D ++ F) (fun r H' => r = .int .i64 ((W.T.length + g.slots : Nat) : Int) ∧ H' = D ++ F) := by
 have q1 := hW.B.p.oL
 have q2 := hW.B.p.oF
 have q3 := hW.B.p.oM
 have q4 := hW.B.p.oC
 have q5 := hW.B.m.o
 have q6 := hW.oT
 have q7 := hW.oN
 have hT := hW.T
 have hL := hW.B.p.L
 have hll := L_len (g := g)
 have hsl := hW.f.ok.slots
 have htl : (W.T.map docE).length = W.T.length := List.length_map ..
 have h1024 := hW.st.1
 have e : (((W.T.map docE).length : Nat) : Int) + ((g.L.length : Nat) : Int) = ((W.T.length + g.slots : Nat) : Int) := by omega
 unfold kwL
 refine Call.enter1 (n := 13) (by kernel_rfl) Tryz.func210 rfl rfl rfl ?_
 refine zW ?_; intro b1
 refine zft ?_
 refine zP ?_
 refine zaM ?_
 refine za8 ?_
 refine zcP ?_
 refine zP ?_
 refine zQ ?_
 refine zt ?_
 rw [e]
 exact zaU
set_option maxHeartbeats 1000000 in
theorem rkroot_K (ok : PlOk g) (hK : KmD w0 D q m) (hm : MaOk g long W m) (hlg : long ≤ 64) (hW : KwD w0 D v g z W) :
  Call Tryz.prog w0 206 [.agg (kmL v g long q m).toArray, .agg (kwL v g z).toArray] (D ++ F) (KmO w0 D F v g long m (rootM g long W m)) := by
 have hP := hW.B.p
 have q1 := hP.oL
 have q2 := hP.oF
 have q3 := hP.oM
 have q4 := hP.oC
 have q5 := hK.G.o1
 have q6 := hK.G.o2
 have q7 := hK.G.o3
 have q8 := hK.oc
 have q9 := hK.oh
 have r5 := hW.B.m.o
 have r6 := hW.oT
 have r7 := hW.oN
 have hT := hW.T
 have hN := hW.N
 have hNl := hW.w.N
 have hsl := ok.slots
 have htl : (W.T.map docE).length = W.T.length := List.length_map ..
 have h1024 := hW.st.1
 have hroots := fun A => rkroots_K (w0 := w0) (F := A) hW
 have hrt := hm.root
 unfold kwL at hroots ⊢
 unfold KmO
 by_cases hlt : m.root < W.T.length + g.slots
 ·have hge : ¬ ((m.root : Nat) : Int) ≥ ((W.T.length + g.slots : Nat) : Int) := by omega
  have hrm : rootM g long W m = some (shadeO g long { m with root := m.root + 1 } (rootSl g W m.root)) := by unfold rootM; rw [if_pos hlt]
  rw [hrm]
  simp only [Option.isSome, Option.getD]
  have hK1 : KmD w0 D q { m with root := m.root + 1 } := ⟨hK.C, hK.G, hK.H, hK.oc, hK.oh⟩
  have hm1 : MaOk g long W { m with root := m.root + 1 } := ⟨hm.C, hm.c, hm.G, hm.hs, hm.h, by show m.root + 1 ≤ _; omega⟩
  have e1 : ((m.root : Nat) : Int) + 1 = ((m.root + 1 : Nat) : Int) := by omega
  have hsh := fun A (s : Nat) (hs : s < g.slots) => rkshade_K (w0 := w0) (F := A) hP ok hK1 hm1 hlg hs
  unfold KmG id at hsh
  by_cases hrl : m.root < W.T.length
  ·have hrl' : ((m.root : Nat) : Int) < ((W.T.map docE).length : Nat) := by omega
   obtain ⟨e, he⟩ := get_of_lt hrl
   have hst := hW.st.2 e (List.mem_of_getElem? he)
   have he' : (W.T.map docE)[m.root]? = some (docE e) := by rw [List.getElem?_map, he]; rfl
   have hds := (docE_st e).1
   have hro : rootSl g W m.root = if e.st = 1 then some e.slot else none := by unfold rootSl; rw [he]
   by_cases h1 : e.st = 1
   ·have h2 : (stB (docE e).st.toNat).1.toList = [108, 105, 118, 101] := by rw [hds, h1]; rfl
    have hd1 : docE e = e := by unfold docE; rw [if_pos h1]
    rw [if_pos h1] at hro
    have hin := rootSl_in hW.w hlt hro
    obtain ⟨s, hs⟩ : ∃ s : Nat, e.slot = s := ⟨e.slot.toNat, by omega⟩
    have hsl' : (docE e).slot = (s : Nat) := by rw [hd1, hs]
    rw [hro, hs]
    have hsh1 := fun A => hsh A s (by omega)
    obtain ⟨m1, hm1'⟩ : ∃ m1, m1 = shadeM g long { m with root := m.root + 1 } ((s : Nat) : Int) := ⟨_, rfl⟩
    have hso : shadeO g long { m with root := m.root + 1 } (some ((s : Nat) : Int)) = m1 := hm1'.symm
    rw [hso]
    simp only [← hm1'] at hsh1
    unfold kmL at hsh1 ⊢
    dsimp only at hsh1
    refine zik ?_
    refine zb4 ?_; intro b2 b3 b4
    refine zA ?_
    refine zdL ?_
    refine zil ?_
    refine zim ?_
    refine zb0 ?_
    refine ze6 ?_
    refine zl fun T hT => ?_
    refine zgZ ?_
    refine zab ?_
    clear hT T
    refine zjl ?_
    refine zV ?_
    refine zfb ?_
    refine zda ?_
    refine zk ?_
    refine zr ?_
    refine zda ?_
    refine zcQ ?_
    refine zda ?_
    refine zfm ?_
    refine zft ?_
    refine zfe ?_
    refine KL.nil (KE.next (K.condT rfl (K.seq (K.seq (K.region ?_)))))
    refine zaL ?_
    refine zfa ?_
    refine zcO ?_
    refine zhO ?_
    refine KL.v rfl (Val.isT (Val.eqlBs rfl rfl) byLt) ?_
    refine zfW ?_
    refine K.drawn [] [(0, 0), (1, 0), (2, 0), (3, 0), (4, 0), (5, 0), (6, 0), (7, 0), (8, 2), (9, 2)] (by kernel_rfl) (by kernel_rfl) (by kernel_rfl) (by kernel_rfl) (by kernel_rfl) (by kernel_rfl) Part.nil ?_
    refine ze6 ?_
    refine zi9 ?_
    refine KD.v0 rfl rfl (Val.fieldAddrZ rfl rfl) ?_
    refine zb5 ?_
    refine zgP ?_
    refine KD.v0 rfl rfl (Val.fieldSl (k := 1) rfl rfl) ?_
    refine zeb ?_
    refine zl fun T hT => ?_
    rw [hsl', e1]
    refine (CallV.part (CallV.fn (hsh1 _)) byPart).mono ?_
    rintro _ _ ⟨q', N, hK', rfl, rfl⟩
    have p5 := hK'.G.o1
    have p6 := hK'.G.o2
    have p7 := hK'.G.o3
    have p8 := hK'.oc
    have p9 := hK'.oh
    refine zi ?_
    clear hT T
    refine zhV ?_
    refine zgl ?_
    refine zaN ?_
    refine zbg ?_
    exact zjk
   ·have h2 : ¬ (stB (docE e).st.toNat).1.toList = [108, 105, 118, 101] := stB_ne1 (by rw [hds]; exact hst) (by rw [hds]; exact h1)
    rw [if_neg h1] at hro
    rw [hro]
    have hso : shadeO g long { m with root := m.root + 1 } none = { m with root := m.root + 1 } := rfl
    rw [hso]
    unfold kmL
    dsimp only
    refine zik ?_
    refine zb4 ?_; intro b2 b3 b4
    refine zA ?_
    refine zdL ?_
    refine zil ?_
    refine zim ?_
    refine zb0 ?_
    refine ze6 ?_
    refine zl fun T hT => ?_
    refine zgZ ?_
    refine zab ?_
    clear hT T
    refine zjl ?_
    refine zV ?_
    refine zfb ?_
    refine zda ?_
    refine zk ?_
    refine zr ?_
    refine zda ?_
    refine zcQ ?_
    refine zda ?_
    refine zfm ?_
    refine zft ?_
    refine zfe ?_
    refine KL.nil (KE.next (K.condT rfl (K.seq (K.seq (K.region ?_)))))
    refine zaL ?_
    refine zfa ?_
    refine zcO ?_
    refine zk3 ?_
    refine zM ?_
    refine zbg ?_
    rw [e1]
    exact KE.fin byMarks rfl byRes byPart ⟨q, [], hK1, rfl, rfl⟩
  ·have hrl' : ¬ ((m.root : Nat) : Int) < ((W.T.map docE).length : Nat) := by omega
   have hj : ((m.root : Nat) : Int) - (((W.T.map docE).length : Nat) : Int) = ((m.root - W.T.length : Nat) : Int) := by omega
   obtain ⟨j, hjd⟩ : ∃ j, m.root - W.T.length = j := ⟨_, rfl⟩
   rw [hjd] at hj
   obtain ⟨c, hc⟩ := get_of_lt (l := W.N) (k := j) (by omega)
   have hjs : j < g.slots := by omega
   have hro : rootSl g W m.root = if 0 < c then some ((j : Nat) : Int) else none := by
    unfold rootSl
    rw [List.getElem?_eq_none (by omega)]
    dsimp only
    rw [hjd, hc]; rfl
   have hjl : j < W.N.length := by omega
   by_cases h1 : 0 < c
   ·have h1' : c > 0 := h1
    rw [if_pos h1] at hro
    rw [hro]
    have hsh1 := fun A => hsh A j hjs
    obtain ⟨m1, hm1'⟩ : ∃ m1, m1 = shadeM g long { m with root := m.root + 1 } ((j : Nat) : Int) := ⟨_, rfl⟩
    have hso : shadeO g long { m with root := m.root + 1 } (some ((j : Nat) : Int)) = m1 := hm1'.symm
    rw [hso]
    simp only [← hm1'] at hsh1
    unfold kmL at hsh1 ⊢
    dsimp only at hsh1
    refine zik ?_
    refine zb4 ?_; intro b2 b3 b4
    refine zA ?_
    refine zdL ?_
    refine zil ?_
    refine zim ?_
    refine zb0 ?_
    refine ze6 ?_
    refine zl fun T hT => ?_
    refine zgZ ?_
    refine zab ?_
    clear hT T
    refine zjl ?_
    refine zV ?_
    refine zfb ?_
    refine zda ?_
    refine zk ?_
    refine zr ?_
    refine zda ?_
    refine zcQ ?_
    refine zda ?_
    refine zfm ?_
    refine zft ?_
    refine zdd ?_
    refine zgp ?_
    refine zlA ?_
    refine zfo ?_
    refine zlB ?_
    refine zc5 ?_
    refine zbN ?_
    refine zia ?_
    refine zhQ ?_
    rw [hj]
    refine zjg ?_
    refine zbN ?_
    refine zlC ?_
    refine zbz ?_
    refine zgw ?_
    refine zft ?_
    refine zP ?_
    refine zbi ?_
    refine zg fun T hT => ?_
    rw [hj, e1]
    refine (CallV.part (CallV.fn (hsh1 _)) byPart).mono ?_
    rintro _ _ ⟨q', N, hK', rfl, rfl⟩
    have p5 := hK'.G.o1
    have p6 := hK'.G.o2
    have p7 := hK'.G.o3
    have p8 := hK'.oc
    have p9 := hK'.oh
    refine zd ?_
    clear hT T
    refine zcj ?_
    refine zck ?_
    exact zjk
   ·have h1' : ¬ c > 0 := h1
    rw [if_neg h1] at hro
    rw [hro]
    have hso : shadeO g long { m with root := m.root + 1 } none = { m with root := m.root + 1 } := rfl
    rw [hso]
    unfold kmL
    dsimp only
    refine zik ?_
    refine zb4 ?_; intro b2 b3 b4
    refine zA ?_
    refine zdL ?_
    refine zil ?_
    refine zim ?_
    refine zb0 ?_
    refine ze6 ?_
    refine zl fun T hT => ?_
    refine zgZ ?_
    refine zab ?_
    clear hT T
    refine zjl ?_
    refine zV ?_
    refine zfb ?_
    refine zda ?_
    refine zk ?_
    refine zr ?_
    refine zda ?_
    refine zcQ ?_
    refine zda ?_
    refine zfm ?_
    refine zft ?_
    refine zdd ?_
    refine zgp ?_
    refine zlA ?_
    refine zfo ?_
    refine zlB ?_
    refine zc5 ?_
    refine zbN ?_
    refine zia ?_
    refine zhQ ?_
    rw [hj]
    refine zjg ?_
    refine zbN ?_
    refine zlC ?_
    refine zM ?_
    refine zck ?_
    rw [e1]
    exact KE.fin byMarks rfl byRes byPart ⟨q, [], hK1, rfl, rfl⟩
 ·have hge : ((m.root : Nat) : Int) ≥ ((W.T.length + g.slots : Nat) : Int) := by omega
  have hrm : rootM g long W m = none := by unfold rootM; rw [if_neg hlt]
  rw [hrm]
  simp only [Option.isSome, Option.getD]
  unfold kmL
  refine zik ?_
  refine zb4 ?_; intro b2 b3 b4
  refine zA ?_
  refine zdL ?_
  refine zil ?_
  refine zim ?_
  refine zb0 ?_
  refine ze6 ?_
  refine zl fun T hT => ?_
  refine zgZ ?_
  refine zab ?_
  clear hT T
  refine KD.v0 rfl rfl (Val.isT (Val.geq rfl rfl) byLt) ?_
  refine zdY ?_
  refine zbg ?_
  exact zfc
end
open Go.RowKit
set_option maxRecDepth 10000
structure RcK where
 q : KmV
 N : Heap
section
variable {w0 : World} {D F : Heap} {v : PlV} {g : PlG} {long : Nat} {q : KmV} {m : MaP} {W : MwP} {z : KwV}
set_option maxHeartbeats 4000000 in
theorem rkscan_K {i : Nat} (ok : PlOk g) (hK : KmD w0 D q m) (hm : MaOk g long W m) (hlg : long ≤ 64) (hW : KwD w0 D v g z W) (hi : i < m.hs.length) :
  Call Tryz.prog w0 208 [.agg (kmL v g long q m).toArray, .agg (kwL v g z).toArray, .int .i64 (i : Nat)] (D ++ F) (KmO w0 D F v g long m (scanM g long W m i)) := by
 have hP := hW.B.p
 have q1 := hP.oL
 have q2 := hP.oF
 have q3 := hP.oM
 have q4 := hP.oC
 have q5 := hK.G.o1
 have q6 := hK.G.o2
 have q7 := hK.G.o3
 have q8 := hK.oc
 have q9 := hK.oh
 have r5 := hW.B.m.o
 have r6 := hW.oT
 have r7 := hW.oN
 have hH := hK.H
 obtain ⟨h, hh⟩ := get_of_lt hi
 have hha := handA_at hh
 unfold KmO
 obtain ⟨hsl, hfi, his⟩ := h
 cases his with
 | false =>
  have hmn : scanM g long W m i = none := by unfold scanM; rw [hha]; rfl
  rw [hmn]
  simp only [Option.isSome, Option.getD]
  unfold kmL kwL
  refine Call.enter3 (n := 88) (by kernel_rfl) Tryz.func208 rfl rfl rfl ?_
  refine ziI ?_; intro b3 b4 b6
  refine zeC ?_
  refine zfQ ?_; intro b8
  refine zbM ?_
  refine zas ?_
  refine zat ?_
  refine zbg ?_
  exact zfc
 | true =>
  obtain ⟨sl0, rfl, hsb, hf0, hfb⟩ : ∃ s : Nat, hsl = s ∧ s < g.slots ∧ 0 ≤ hfi ∧ (hfi = 0 ∨ hfi < refsN W.x (slotA g hsl)) := by
   rcases hm.h i _ hh with ⟨a1, a2, a3, a4, a5⟩ | e
   ·exact ⟨hsl.toNat, by dsimp only at a2; omega, by dsimp only at a2 a3; omega, a4, a5⟩
   ·cases e
  obtain ⟨y, hy⟩ := L_ex (g := g) hsb
  have hya := slotA_at hy
  rw [hya] at hfb
  have href := refO_eq (x := W.x) (i := hfi) hy
  have hrn : refsN W.x y = match headP W.x y with | some h => h.r | none => 0 := rfl
  have hhead := fun A => rbHead_K (w0 := w0) (D := D) (F := A) hW.B hW.f hy
  have hrf := fun A => rbRef_K (w0 := w0) (D := D) (F := A) (i := hfi) hW.B hW.f hy
  obtain ⟨o, hod⟩ : ∃ o, o = refO g W.x (sl0 : Nat) hfi := ⟨_, rfl⟩
  have hoin : ∀ q : Int, o = some q → 0 ≤ q ∧ q < (g.slots : Nat) ∧ hfi < refsN W.x y := fun q hq => by
   have := refO_in (hod.symm.trans hq) hW.w.w
   rw [hya] at this
   exact ⟨this.1, this.2.1, this.2.2.2⟩
  have hsc : scanM g long W m i = if hfi + 1 < refsN W.x y then some { shadeO g long m o with hs := m.hs.set i ⟨(sl0 : Nat), hfi + 1, true⟩ }
   else some { shadeO g long m o with hs := m.hs.set i hand0, C := (shadeO g long m o).C.set sl0 2 } := by
   unfold scanM
   rw [hha, if_pos rfl]
   dsimp only
   rw [hya, ← hod]
   rfl
  rw [← hod] at href
  obtain ⟨rt, hrt⟩ : ∃ rt, refP W.x g.slots y hfi = rt := ⟨_, rfl⟩
  simp only [hrt] at hrf href
  obtain ⟨rn, hrnd⟩ : ∃ rn, refsN W.x y = rn := ⟨_, rfl⟩
  have hrs := refs_size ok hsb W.x
  have hzb := szA_bnd ok hsb
  rw [hya] at hrs
  rw [hrnd] at hrn hsc hfb hrs
  simp only [hrnd] at hoin
  have hfb2 : hfi ≤ 64 := by rcases hfb with e | e <;> omega
  obtain ⟨hc, hr, hw, he, hhv, hcond⟩ : ∃ hc hr hw he, headV (headP W.x y) = .tuple [.agg [.int .i64 hc, .int .i64 hr, .int .i64 hw].toArray, .int .i64 he].toArray ∧ ((he = 0 ∧ hr = rn) ∨ (he ≠ 0 ∧ rn = 0)) := by
   unfold headV hdV
   cases hq : headP W.x y with
   | none => rw [hq] at hrn; exact ⟨0, 0, 0, 5, rfl, .inr ⟨by decide, hrn⟩⟩
   | some q => rw [hq] at hrn; exact ⟨q.c, q.r, q.w, 0, rfl, .inl ⟨rfl, hrn.symm⟩⟩
  simp only [hhv] at hhead
  have hshm := fun A (t : Nat) (ht : t < g.slots) => rkshade_K (w0 := w0) (D := D) (F := A) hP ok hK hm hlg ht
  unfold KmG id at hshm
  obtain ⟨to, f⟩ := rt
  dsimp only at href hrf
  obtain ⟨h1s, h1r, h1a, h1t⟩ := shadeO_hs (g := g) (long := long) (m := m) o
  have hmo := shadeO_ok ok hm o
  unfold boL at hhead hrf
  unfold kmL kwL
  refine Call.enter3 (n := 88) (by kernel_rfl) Tryz.func208 rfl rfl rfl ?_
  refine ziI ?_; intro b3 b4 b6
  refine zeC ?_
  refine zfQ ?_; intro b8
  refine zbM ?_
  refine zas ?_
  refine zaG ?_
  refine zaM ?_
  refine zB ?_
  refine zeQ fun T hT => ?_
  refine zbT ?_
  clear hT T
  refine zbp ?_; intro b9
  refine za0 ?_
  (try dsimp only)
  refine K.cutT (σ := RcK) [(2, _), (3, _), (6, _), (8, _), (9, _), (10, _)] bySub (fun s kp_ => kp_) (fun s => s.N ++ (D ++ ((b6, cells [.slice none 0 0, .slice none 0 0, .slice none 0 0, .slice none 0 0, .int .i64 0, .slice none 0 0, .int .i64 0, .slice none 0 0, .slice none 0 0, .slice none 0 0, .int .i64 0, .int .i64 0, .slice none 0 0, .int .i64 0, .bool false, .int .i64 0] 97) :: (b9, cells [.int .i64 hc, .int .i64 hr, .int .i64 hw] 148) :: (b8, cells [.int .i64 ((sl0 : Nat) : Int), .int .i64 hfi, .bool true] 217) :: (b3, cells (kmL v g long s.q (shadeO g long m o)) 97) :: F))) (fun s => KmD w0 (s.N ++ D) s.q (shadeO g long m o)) ?_ ?_
  ·by_cases hgo : he = 0 ∧ hfi < hr
   ·obtain ⟨g1, g2⟩ := hgo
    by_cases h2 : f = 0
    ·by_cases h1 : 0 ≤ to
     ·rw [if_pos ⟨h2, h1⟩] at href
      have hin := hoin to href
      obtain ⟨tq, rfl⟩ : ∃ tq : Nat, to = tq := ⟨to.toNat, by omega⟩
      have hge : ((tq : Nat) : Int) ≥ 0 := by omega
      have hsh := fun A => hshm A tq (by omega)
      have hso : shadeO g long m o = shadeM g long m ((tq : Nat) : Int) := by rw [href]; rfl
      rw [← hso] at hsh
      unfold kmL at hsh
      refine zbt ?_
      refine zet ?_
      refine z6 ?_
      refine z6 ?_
      refine zE ?_
      refine z7 ?_
      refine zaM ?_
      refine zB ?_
      refine zJ ?_
      refine zcf fun T hT => ?_
      refine zk0 ?_
      clear hT T
      refine zbv ?_
      refine zgx ?_
      refine z8 ?_
      refine zC ?_
      refine zbz ?_
      refine zz fun T hT => ?_
      refine zhx ?_
      rintro _ _ ⟨q', N, hK', rfl, rfl⟩
      have p5 := hK'.G.o1
      have p6 := hK'.G.o2
      have p7 := hK'.G.o3
      have p8 := hK'.oc
      have p9 := hK'.oh
      refine zd ?_
      clear hT T
      refine z9 ?_
      refine zap ?_
      exact KE.meet ⟨q', N⟩ bySub (by unfold kmL; exact byPart) hK'
     ·rw [if_neg (by rintro ⟨_, h⟩; exact h1 h)] at href
      have hge : ¬ to ≥ 0 := h1
      have hso : shadeO g long m o = m := by rw [href]; rfl
      refine zbt ?_
      refine zet ?_
      refine z6 ?_
      refine z6 ?_
      refine zE ?_
      refine z7 ?_
      refine zaM ?_
      refine zB ?_
      refine zJ ?_
      refine zcf fun T hT => ?_
      refine zk0 ?_
      clear hT T
      refine zbv ?_
      refine zgx ?_
      refine zaJ ?_
      refine zC ?_
      refine za7 ?_
      exact zjm
    ·rw [if_neg (by rintro ⟨h, _⟩; exact h2 h)] at href
     have hso : shadeO g long m o = m := by rw [href]; rfl
     refine zbt ?_
     refine zet ?_
     refine z6 ?_
     refine z6 ?_
     refine zE ?_
     refine z7 ?_
     refine zaM ?_
     refine zB ?_
     refine zJ ?_
     refine zcf fun T hT => ?_
     refine zk0 ?_
     clear hT T
     refine zbv ?_
     refine zH ?_
     refine zcs ?_
     refine zce ?_
     exact zjm
   ·have hso : shadeO g long m o = m := by
     cases ho : o with
     | none => rfl
     | some t =>
      have := hoin t ho
      rcases hcond with ⟨c1, c2⟩ | ⟨c1, c2⟩
      ·exact absurd ⟨c1, by omega⟩ hgo
      ·omega
    by_cases g1 : he = 0
    ·have g2 : ¬ hfi < hr := fun h => hgo ⟨g1, h⟩
     refine zbt ?_
     refine zet ?_
     refine z6 ?_
     refine z6 ?_
     refine zR ?_
     refine zC ?_
     refine za7 ?_
     exact zjm
    ·refine zgr ?_
     refine zf ?_
     refine zH ?_
     refine zcl ?_
     refine zce ?_
     exact zjm
  ·rintro ⟨k1, N1⟩ hK1
   dsimp only at hK1 ⊢
   obtain ⟨m1, hm1d⟩ : ∃ m1, m1 = shadeO g long m o := ⟨_, rfl⟩
   rw [← hm1d] at hK1 hmo h1s hsc ⊢
   have p5 := hK1.G.o1
   have p6 := hK1.G.o2
   have p7 := hK1.G.o3
   have p8 := hK1.oc
   have p9 := hK1.oh
   have hcl := hmo.C
   have hsl0 : sl0 < m1.C.length := by omega
   have hsl := ok.slots
   have hm3 : MaOk g long W { m1 with C := m1.C.set sl0 2 } := ⟨by show (m1.C.set sl0 2).length = _; rw [List.length_set]; exact hcl, fun u hu => by
    rcases List.mem_or_eq_of_mem_set hu with h | h
    ·exact hmo.c u h
    ·exact .inr (.inr h), hmo.G, hmo.hs, hmo.h, hmo.root⟩
   have hhe1 := fun A => rkheld_K (w0 := w0) (D := N1 ++ D) (F := A) (h := ⟨(sl0 : Nat), hfi + 1, true⟩) (hP.part byPart) hK1 hmo (i := i) (by rw [h1s]; exact hi)
   have hbk := fun A => rtBlack_K (w0 := w0) (D := N1 ++ D) (F := A) hK1.C hsl0 (by omega)
   unfold KmG id kmL at hhe1
   unfold kmL
   dsimp only at hhe1
   rcases hcond with ⟨hc1, hc2⟩ | ⟨hc1, hc2⟩
   ·by_cases hlt : hfi + 1 < rn
    ·have hge : hfi + 1 < hr := by omega
     rw [if_pos hlt] at hsc
     rw [hsc]
     simp only [Option.isSome, Option.getD]
     refine zq ?_
     refine zU ?_
     refine zQ ?_
     refine zcp ?_
     refine zfm ?_
     refine zet ?_
     refine z6 ?_
     refine z6 ?_
     refine zE ?_
     refine z7 ?_
     refine zgw ?_
     refine zp fun T hT => ?_
     refine (CallV.part (CallV.fn (hhe1 _)) (by rw [List.append_assoc]; exact byPart)).mono ?_
     rintro _ _ ⟨q2, N2, hK2, rfl, rfl⟩
     rw [h1s] at hK2
     have s5 := hK2.G.o1
     have s6 := hK2.G.o2
     have s7 := hK2.G.o3
     have s8 := hK2.oc
     have s9 := hK2.oh
     refine zd ?_
     clear hT T
     refine z9 ?_
     refine zam ?_
     exact KE.fin (H' := (N2 ++ N1) ++ (D ++ F)) byMarks rfl byRes (by simp only [List.append_assoc]; exact byPart) ⟨q2, N2 ++ N1, by simp only [List.append_assoc]; exact hK2, rfl, by simp only [List.append_assoc]⟩
    ·have hge : ¬ hfi + 1 < hr := by omega
     rw [if_neg hlt] at hsc
     rw [hsc]
     simp only [Option.isSome, Option.getD]
     refine zq ?_
     refine zU ?_
     refine zQ ?_
     refine zcp ?_
     refine zfm ?_
     refine zet ?_
     refine z6 ?_
     refine z6 ?_
     refine zR ?_
     refine zC ?_
     refine zM ?_
     refine zJ ?_
     refine zeQ fun T hT => ?_
     refine (CallV.part (CallV.fn (hbk _)) (by rw [List.append_assoc]; exact byPart)).mono ?_
     rintro _ _ ⟨vc', N2, hC2, ov2, rfl, rfl⟩
     have hK3 : KmD w0 (N2 ++ (N1 ++ D)) ⟨vc', k1.u, k1.h⟩ { m1 with C := m1.C.set sl0 2 } := ⟨hC2, hK1.G.part byPart, hK1.H.part byPart, ov2, hK1.oh⟩
     have hhe := fun A => rkheld_K (w0 := w0) (D := N2 ++ (N1 ++ D)) (F := A) (h := hand0) (hP.part byPart) hK3 hm3 (i := i) (by show i < m1.hs.length; rw [h1s]; exact hi)
     unfold KmG id kmL hand0 at hhe
     dsimp only at hhe
     refine zd ?_
     clear hT T
     refine zai ?_
     refine zaM ?_
     refine zaA ?_
     refine zgw ?_
     refine zaf ?_
     refine zg fun T hT => ?_
     refine (CallV.part (CallV.fn (hhe _)) (by simp only [List.append_assoc]; exact byPart)).mono ?_
     rintro _ _ ⟨q2, N3, hK2, rfl, rfl⟩
     rw [h1s] at hK2
     have s5 := hK2.G.o1
     have s6 := hK2.G.o2
     have s7 := hK2.G.o3
     have s8 := hK2.oc
     have s9 := hK2.oh
     refine zd ?_
     clear hT T
     refine zgj ?_
     exact zlD
   ·have hlt : ¬ hfi + 1 < rn := by omega
    rw [if_neg hlt] at hsc
    rw [hsc]
    simp only [Option.isSome, Option.getD]
    refine zq ?_
    refine zU ?_
    refine zQ ?_
    refine zcp ?_
    refine zfm ?_
    refine zH ?_
    refine zcl ?_
    refine zan ?_
    refine zJ ?_
    refine zeQ fun T hT => ?_
    refine (CallV.part (CallV.fn (hbk _)) (by rw [List.append_assoc]; exact byPart)).mono ?_
    rintro _ _ ⟨vc', N2, hC2, ov2, rfl, rfl⟩
    have hK3 : KmD w0 (N2 ++ (N1 ++ D)) ⟨vc', k1.u, k1.h⟩ { m1 with C := m1.C.set sl0 2 } := ⟨hC2, hK1.G.part byPart, hK1.H.part byPart, ov2, hK1.oh⟩
    have hhe := fun A => rkheld_K (w0 := w0) (D := N2 ++ (N1 ++ D)) (F := A) (h := hand0) (hP.part byPart) hK3 hm3 (i := i) (by show i < m1.hs.length; rw [h1s]; exact hi)
    unfold KmG id kmL hand0 at hhe
    dsimp only at hhe
    refine zd ?_
    clear hT T
    refine zai ?_
    refine zaM ?_
    refine zaA ?_
    refine zgw ?_
    refine zaf ?_
    refine zg fun T hT => ?_
    refine (CallV.part (CallV.fn (hhe _)) (by simp only [List.append_assoc]; exact byPart)).mono ?_
    rintro _ _ ⟨q2, N3, hK2, rfl, rfl⟩
    rw [h1s] at hK2
    have s5 := hK2.G.o1
    have s6 := hK2.G.o2
    have s7 := hK2.G.o3
    have s8 := hK2.oc
    have s9 := hK2.oh
    refine zd ?_
    clear hT T
    refine zgj ?_
    exact zlD
end
set_option maxRecDepth 10000
structure StB where
 b : Nat
section
variable {w0 : World} {F : Heap} {k : MkM} {B : BoM} {T : TbM} {N : PiM} {W : MwP} {m : MaP}
def StepP (k : MkM) (B : BoM) (T : TbM) (N : PiM) (F : Heap) (m : MaP) (o : Option MaP) (r : Value) (H' : Heap) : Prop :=
 r = .bool o.isSome ∧ ∃ k', MkOk k' B.p ∧ MkTo k k' ∧ MkR k' B.p (o.getD m) ∧ H' = markH k' B.p ++ (planH B.p ++ (seenH B T N ++ F))
set_option maxHeartbeats 4000000 in
theorem mkStep1_K {i : Nat} (hG : Glob w0) (hp : MpR k B T N W) (ok : MkOk k B.p) (hR : MkR k B.p m) (hm : MaOk B.p.g k.g.ring.length W m) (hst : m.steps ≤ 1000000000) (hact : k.act = true) (hil : i < k.hs.length) :
  Call Tryz.prog w0 37 [.pointer (some ⟨k.b, 0, none⟩), .int .i64 (i : Nat), .int .u8 1] (markH k B.p ++ (planH B.p ++ (seenH B T N ++ F))) (StepP k B T N F m ((microM B.p.g k.g.ring.length W m i 1).map upM)) := by
 have okp := hp.bo.p
 have ho := ok.o
 obtain ⟨h, hkh⟩ := get_of_lt hil
 have hmh : m.hs[i]? = some h := by rw [← hR.hs]; exact hkh
 have hih : i < m.hs.length := lt_of_get hmh
 have hac := fun A => mkActive_K (w0 := w0) (F := A) (k := k) (p := B.p)
 simp only [hact] at hac
 have hge : ¬ ((i : Nat) : Int) ≥ (k.hs.length : Nat) := by omega
 have hstp : ∀ m1 : MaP, microM B.p.g k.g.ring.length W m i 1 = some m1 → m1.steps ≤ 1000000000 := fun m1 h => by
  have := (micro_ok okp.g hm hih h).2.2.1
  omega
 unfold StepP
 have hmc : microM B.p.g k.g.ring.length W m i 1 = rootM B.p.g k.g.ring.length W m := rfl
 rw [hmc]
 refine zeS fun T hT => ?_
 refine zcA ?_
 clear hT T
 refine zhb ?_
 refine zfG ?_
 refine zfM ?_
 refine zR ?_
 refine zba ?_
 refine zeL ?_
 refine zd9 ?_
 refine K.cutT (σ := StB) [(0, _)] bySub (fun s kp_ => (7, .pointer (some (adr (oV k.o k.hs.length) (i * hanE.sz)))) :: (8, .pointer (some ⟨s.b, 0, none⟩)) :: kp_) (fun s => markH k B.p ++ (planH B.p ++ (seenH B T N ++ ((s.b, cells [.bool false, .bool true, .func (.func 186) #[] #[]] 203) :: F)))) (fun s => True) ?_ ?_
 ·skip
  refine zak ?_
  refine zjn ?_
  refine zO ?_
  refine zgV ?_
  refine zjo ?_
  refine zaO ?_
  refine zfE ?_
  refine zO ?_
  refine KD.fork2 (x := 6) (y := 9) (o1 := [(8, 1), (9, 2), (10, 0), (11, 2)]) (o2 := [(6, 2), (8, 0), (10, 0), (11, 2)]) (by kernel_rfl) rfl rfl (by kernel_rfl) (by kernel_rfl) ?_ ?_
  ·refine zcG fun T hT => ?_
   refine zgG ?_
   unfold microsV
   refine zi ?_
   clear hT T
   refine zjp ?_
   refine zeI ?_; intro b8
   exact zgC
  ·(refine ActK.e rfl (Eff.alloc rfl) ?_; rintro _ _ ⟨b8, rfl, rfl⟩; refine ⟨byPart, ?_⟩)
   refine zl fun T hT => ?_
   refine zgG ?_
   unfold microsV
   refine zi ?_
   clear hT T
   refine zjq ?_
   exact zgC
 ·rintro ⟨b8⟩ _
  dsimp only
  have hsk := fun A => mkseek_K (w0 := w0) (F := A) (hv := .pointer (some (adr (oV k.o k.hs.length) (i * hanE.sz)))) hp ok hR hm
  cases hrm : rootM B.p.g k.g.ring.length W m with
  | none =>
   simp only [hrm, Option.isSome, Option.getD, Option.map] at hsk ⊢
   refine zf1 ?_
   refine zgH ?_
   refine KD.v0 rfl rfl (Val.notT rfl) ?_
   refine zfr ?_
   refine zgF ?_
   refine za9 ?_
   refine zo ?_
   refine zc9 ?_
   refine zcu ?_
   refine zaX ?_
   refine zb2 fun T hT => ?_
   refine zlF ?_
   rintro _ _ ⟨rfl, k', kok, kto, kR, rfl⟩
   refine zi ?_
   clear hT T
   refine zjc ?_
   refine zbR ?_
   refine zhi ?_
   refine zam ?_
   exact KE.fin (H' := markH k' B.p ++ (planH B.p ++ (seenH B T N ++ F))) byMarks rfl byRes (by first | exact byPart | (simp only [markH_app, seenH_app]; exact byPart)) ⟨rfl, k', kok, kto, kR, by simp only [markH_app, seenH_app]⟩
  | some m1 =>
   have hst1 := hstp m1 (hmc.trans hrm)
   simp only [hrm, Option.isSome, Option.getD, Option.map] at hsk ⊢
   refine zf1 ?_
   refine zgH ?_
   refine KD.v0 rfl rfl (Val.notT rfl) ?_
   refine zfr ?_
   refine zgF ?_
   refine za9 ?_
   refine zo ?_
   refine zc9 ?_
   refine zcu ?_
   refine zaX ?_
   refine zb2 fun T hT => ?_
   refine zlF ?_
   rintro _ _ ⟨rfl, k', kok, kto, kR, rfl⟩
   refine zi ?_
   clear hT T
   rw [← kto.b]
   have e5 : ((k'.steps : Nat) : Int) + 1 = ((k'.steps + 1 : Nat) : Int) := by omega
   have hks : k'.steps ≤ 1000000000 := by rw [kR.steps]; exact hst1
   refine zjN ?_
   refine zbR ?_
   refine zfb ?_
   refine zX ?_
   refine zaQ ?_
   refine zgB ?_
   refine zaQ ?_
   refine zaA ?_
   refine zt ?_
   rw [e5]
   exact KE.fin (H' := markH { k' with steps := k'.steps + 1 } B.p ++ (planH B.p ++ (seenH B T N ++ F))) byMarks rfl byRes (by simp only [markH_app, seenH_app]; exact byPart)
    ⟨rfl, { k' with steps := k'.steps + 1 }, ⟨kok.c, kok.g, kok.n, kok.o, kok.hs⟩, ⟨⟨kto.b, kto.bb, kto.tb, kto.nb, kto.n, kto.l⟩, kto.f, kto.cb, kto.gb, kto.o⟩, ⟨kR.C, kR.G, kR.hs, kR.root, kR.act, by show k'.steps + 1 = _ + 1; rw [kR.steps]⟩, by simp only [markH_app, seenH_app]⟩
set_option maxHeartbeats 4000000 in
theorem mkStep2_K {i : Nat} (hG : Glob w0) (hp : MpR k B T N W) (ok : MkOk k B.p) (hR : MkR k B.p m) (hm : MaOk B.p.g k.g.ring.length W m) (hst : m.steps ≤ 1000000000) (hact : k.act = true) (hil : i < k.hs.length) :
  Call Tryz.prog w0 37 [.pointer (some ⟨k.b, 0, none⟩), .int .i64 (i : Nat), .int .u8 2] (markH k B.p ++ (planH B.p ++ (seenH B T N ++ F))) (StepP k B T N F m ((microM B.p.g k.g.ring.length W m i 2).map upM)) := by
 have okp := hp.bo.p
 have ho := ok.o
 obtain ⟨h, hkh⟩ := get_of_lt hil
 have hmh : m.hs[i]? = some h := by rw [← hR.hs]; exact hkh
 have hih : i < m.hs.length := lt_of_get hmh
 have hac := fun A => mkActive_K (w0 := w0) (F := A) (k := k) (p := B.p)
 simp only [hact] at hac
 have hge : ¬ ((i : Nat) : Int) ≥ (k.hs.length : Nat) := by omega
 have hstp : ∀ m1 : MaP, microM B.p.g k.g.ring.length W m i 2 = some m1 → m1.steps ≤ 1000000000 := fun m1 h => by
  have := (micro_ok okp.g hm hih h).2.2.1
  omega
 unfold StepP
 have hmc : microM B.p.g k.g.ring.length W m i 2 = takeM m i := rfl
 rw [hmc]
 refine zeS fun T hT => ?_
 refine zcA ?_
 clear hT T
 refine zhb ?_
 refine zfG ?_
 refine zfM ?_
 refine zR ?_
 refine zba ?_
 refine zeL ?_
 refine zd9 ?_
 refine K.cutT (σ := StB) [(0, _)] bySub (fun s kp_ => (7, .pointer (some (adr (oV k.o k.hs.length) (i * hanE.sz)))) :: (8, .pointer (some ⟨s.b, 0, none⟩)) :: kp_) (fun s => markH k B.p ++ (planH B.p ++ (seenH B T N ++ ((s.b, cells [.bool false, .bool false, .func (.func 187) #[] #[]] 203) :: F)))) (fun s => True) ?_ ?_
 ·skip
  refine zak ?_
  refine zjn ?_
  refine zO ?_
  refine zgV ?_
  refine zjo ?_
  refine zaO ?_
  refine zfE ?_
  refine zO ?_
  refine KD.fork2 (x := 6) (y := 9) (o1 := [(8, 1), (9, 2), (10, 0), (11, 2)]) (o2 := [(6, 2), (8, 0), (10, 0), (11, 2)]) (by kernel_rfl) rfl rfl (by kernel_rfl) (by kernel_rfl) ?_ ?_
  ·refine zcG fun T hT => ?_
   refine zgG ?_
   unfold microsV
   refine zi ?_
   clear hT T
   refine zjp ?_
   refine zeI ?_; intro b8
   exact zgC
  ·(refine ActK.e rfl (Eff.alloc rfl) ?_; rintro _ _ ⟨b8, rfl, rfl⟩; refine ⟨byPart, ?_⟩)
   refine zl fun T hT => ?_
   refine zgG ?_
   unfold microsV
   refine zi ?_
   clear hT T
   refine zjq ?_
   exact zgC
 ·rintro ⟨b8⟩ _
  dsimp only
  obtain ⟨hsl, hfi, hi⟩ := h
  cases hi with
  | true =>
   have hmn : takeM m i = none := by unfold takeM; rw [handA_at hmh]; rfl
   rw [hmn]
   simp only [Option.isSome, Option.getD, Option.map]
   refine zha ?_
   refine zgH ?_
   refine zgM ?_
   refine zfs ?_
   refine zfy ?_
   refine zhz ?_
   refine zf9 ?_
   refine zhA ?_
   refine zcS ?_
   refine zcv ?_
   refine zeg ?_
   refine zbD ?_
   refine zbj ?_
   refine zdY ?_
   refine zam ?_
   exact zhy
  | false =>
   refine zha ?_
   refine zgH ?_
   refine zgM ?_
   refine zfs ?_
   refine zfy ?_
   refine zhz ?_
   refine zf9 ?_
   refine zhA ?_
   refine zcS ?_
   refine zc9 ?_
   refine zcu ?_
   refine zaX ?_
   refine zb2 fun T hT => ?_
   refine (CallV.part (CallV.fn (mktake_K ok hR hil)) (by first | exact byPart | (simp only [markH_app, seenH_app]; exact byPart))).mono ?_
   rintro _ _ (⟨hq, rfl, rfl⟩ | ⟨s, q, k', hq, rfl, kok, kto, kR, rfl⟩)
   ·have hmn : takeM m i = none := by unfold takeM; rw [handA_at hmh, if_neg (by simp), hq]
    refine zi ?_
    clear hT T
    rw [hmn]
    simp only [Option.isSome, Option.getD, Option.map]
    refine zjc ?_
    refine zbR ?_
    refine zhi ?_
    refine zam ?_
    exact zhy
   ·have hmn : takeM m i = some { m with G := { m.G with q := q }, hs := m.hs.set i ⟨(s : Nat), 0, true⟩ } := by unfold takeM; rw [handA_at hmh, if_neg (by simp), hq]
    have hst1 := hstp _ (hmc.trans hmn)
    refine zi ?_
    clear hT T
    rw [hmn]
    simp only [Option.isSome, Option.getD, Option.map]
    rw [← kto.b]
    have e5 : ((k'.steps : Nat) : Int) + 1 = ((k'.steps + 1 : Nat) : Int) := by omega
    have hks : k'.steps ≤ 1000000000 := by rw [kR.steps]; exact hst1
    refine zjN ?_
    refine zbR ?_
    refine zfb ?_
    refine zX ?_
    refine zaQ ?_
    refine zgB ?_
    refine zaQ ?_
    refine zaA ?_
    refine zt ?_
    rw [e5]
    exact KE.fin (H' := markH { k' with steps := k'.steps + 1 } B.p ++ (planH B.p ++ (seenH B T N ++ F))) byMarks rfl byRes (by simp only [markH_app, seenH_app]; exact byPart)
     ⟨rfl, { k' with steps := k'.steps + 1 }, ⟨kok.c, kok.g, kok.n, kok.o, kok.hs⟩, ⟨⟨kto.b, kto.bb, kto.tb, kto.nb, kto.n, kto.l⟩, kto.f, kto.cb, kto.gb, kto.o⟩, ⟨kR.C, kR.G, kR.hs, kR.root, kR.act, by show k'.steps + 1 = _ + 1; rw [kR.steps]⟩, by simp only [markH_app, seenH_app]⟩
set_option maxHeartbeats 4000000 in
theorem mkStep3_K {i : Nat} (hG : Glob w0) (hp : MpR k B T N W) (ok : MkOk k B.p) (hR : MkR k B.p m) (hm : MaOk B.p.g k.g.ring.length W m) (hst : m.steps ≤ 1000000000) (hact : k.act = true) (hil : i < k.hs.length) :
  Call Tryz.prog w0 37 [.pointer (some ⟨k.b, 0, none⟩), .int .i64 (i : Nat), .int .u8 3] (markH k B.p ++ (planH B.p ++ (seenH B T N ++ F))) (StepP k B T N F m ((microM B.p.g k.g.ring.length W m i 3).map upM)) := by
 have okp := hp.bo.p
 have ho := ok.o
 obtain ⟨h, hkh⟩ := get_of_lt hil
 have hmh : m.hs[i]? = some h := by rw [← hR.hs]; exact hkh
 have hih : i < m.hs.length := lt_of_get hmh
 have hac := fun A => mkActive_K (w0 := w0) (F := A) (k := k) (p := B.p)
 simp only [hact] at hac
 have hge : ¬ ((i : Nat) : Int) ≥ (k.hs.length : Nat) := by omega
 have hstp : ∀ m1 : MaP, microM B.p.g k.g.ring.length W m i 3 = some m1 → m1.steps ≤ 1000000000 := fun m1 h => by
  have := (micro_ok okp.g hm hih h).2.2.1
  omega
 unfold StepP
 have hmc : microM B.p.g k.g.ring.length W m i 3 = scanM B.p.g k.g.ring.length W m i := rfl
 rw [hmc]
 refine zeS fun T hT => ?_
 refine zcA ?_
 clear hT T
 refine zhb ?_
 refine zfG ?_
 refine zfM ?_
 refine zR ?_
 refine zba ?_
 refine zeL ?_
 refine zd9 ?_
 refine K.cutT (σ := StB) [(0, _)] bySub (fun s kp_ => (7, .pointer (some (adr (oV k.o k.hs.length) (i * hanE.sz)))) :: (8, .pointer (some ⟨s.b, 0, none⟩)) :: kp_) (fun s => markH k B.p ++ (planH B.p ++ (seenH B T N ++ ((s.b, cells [.bool true, .bool false, .func (.func 190) #[] #[]] 203) :: F)))) (fun s => True) ?_ ?_
 ·skip
  refine zak ?_
  refine zjn ?_
  refine zO ?_
  refine zgV ?_
  refine zjo ?_
  refine zaO ?_
  refine zfE ?_
  refine zO ?_
  refine KD.fork2 (x := 6) (y := 9) (o1 := [(8, 1), (9, 2), (10, 0), (11, 2)]) (o2 := [(6, 2), (8, 0), (10, 0), (11, 2)]) (by kernel_rfl) rfl rfl (by kernel_rfl) (by kernel_rfl) ?_ ?_
  ·refine zcG fun T hT => ?_
   refine zgG ?_
   unfold microsV
   refine zi ?_
   clear hT T
   refine zjp ?_
   refine zeI ?_; intro b8
   exact zgC
  ·(refine ActK.e rfl (Eff.alloc rfl) ?_; rintro _ _ ⟨b8, rfl, rfl⟩; refine ⟨byPart, ?_⟩)
   refine zl fun T hT => ?_
   refine zgG ?_
   unfold microsV
   refine zi ?_
   clear hT T
   refine zjq ?_
   exact zgC
 ·rintro ⟨b8⟩ _
  dsimp only
  obtain ⟨hsl, hfi, hi⟩ := h
  cases hi with
  | false =>
   have hmn : scanM B.p.g k.g.ring.length W m i = none := by unfold scanM; rw [handA_at hmh]; rfl
   rw [hmn]
   simp only [Option.isSome, Option.getD, Option.map]
   refine zha ?_
   refine zgH ?_
   refine zgM ?_
   refine zfs ?_
   refine zfy ?_
   refine zhz ?_
   refine zf9 ?_
   refine zhA ?_
   refine zcS ?_
   refine zcv ?_
   refine zeg ?_
   refine zbD ?_
   refine zbj ?_
   refine zdY ?_
   refine zam ?_
   exact zhy
  | true =>
   refine zha ?_
   refine zgH ?_
   refine zgM ?_
   refine zfs ?_
   refine zfy ?_
   refine zhz ?_
   refine zf9 ?_
   refine zhA ?_
   refine zcS ?_
   refine zc9 ?_
   refine zcu ?_
   refine zaX ?_
   refine zb2 fun T hT => ?_
   refine (CallV.part (CallV.fn (mkscan_K hG hp ok hR hm hkh rfl)) (by first | exact byPart | (simp only [markH_app, seenH_app]; exact byPart))).mono ?_
   rintro _ _ ⟨rfl, m1, k', hmn, kok, kto, kR, rfl⟩
   have hst1 := hstp _ (hmc.trans hmn)
   refine zi ?_
   clear hT T
   rw [hmn]
   simp only [Option.isSome, Option.getD, Option.map]
   rw [← kto.b]
   have e5 : ((k'.steps : Nat) : Int) + 1 = ((k'.steps + 1 : Nat) : Int) := by omega
   have hks : k'.steps ≤ 1000000000 := by rw [kR.steps]; exact hst1
   refine zjN ?_
   refine zbR ?_
   refine zfb ?_
   refine zX ?_
   refine zaQ ?_
   refine zgB ?_
   refine zaQ ?_
   refine zaA ?_
   refine zt ?_
   rw [e5]
   exact KE.fin (H' := markH { k' with steps := k'.steps + 1 } B.p ++ (planH B.p ++ (seenH B T N ++ F))) byMarks rfl byRes (by simp only [markH_app, seenH_app]; exact byPart)
    ⟨rfl, { k' with steps := k'.steps + 1 }, ⟨kok.c, kok.g, kok.n, kok.o, kok.hs⟩, ⟨⟨kto.b, kto.bb, kto.tb, kto.nb, kto.n, kto.l⟩, kto.f, kto.cb, kto.gb, kto.o⟩, ⟨kR.C, kR.G, kR.hs, kR.root, kR.act, by show k'.steps + 1 = _ + 1; rw [kR.steps]⟩, by simp only [markH_app, seenH_app]⟩
set_option maxHeartbeats 4000000 in
theorem mkStep4_K {i : Nat} (hG : Glob w0) (hp : MpR k B T N W) (ok : MkOk k B.p) (hR : MkR k B.p m) (hm : MaOk B.p.g k.g.ring.length W m) (hst : m.steps ≤ 1000000000) (hact : k.act = true) (hil : i < k.hs.length) :
  Call Tryz.prog w0 37 [.pointer (some ⟨k.b, 0, none⟩), .int .i64 (i : Nat), .int .u8 4] (markH k B.p ++ (planH B.p ++ (seenH B T N ++ F))) (StepP k B T N F m ((microM B.p.g k.g.ring.length W m i 4).map upM)) := by
 have okp := hp.bo.p
 have ho := ok.o
 obtain ⟨h, hkh⟩ := get_of_lt hil
 have hmh : m.hs[i]? = some h := by rw [← hR.hs]; exact hkh
 have hih : i < m.hs.length := lt_of_get hmh
 have hac := fun A => mkActive_K (w0 := w0) (F := A) (k := k) (p := B.p)
 simp only [hact] at hac
 have hge : ¬ ((i : Nat) : Int) ≥ (k.hs.length : Nat) := by omega
 have hstp : ∀ m1 : MaP, microM B.p.g k.g.ring.length W m i 4 = some m1 → m1.steps ≤ 1000000000 := fun m1 h => by
  have := (micro_ok okp.g hm hih h).2.2.1
  omega
 unfold StepP
 have hmc : microM B.p.g k.g.ring.length W m i 4 = walkM B.p.g m i := rfl
 rw [hmc]
 refine zeS fun T hT => ?_
 refine zcA ?_
 clear hT T
 refine zhb ?_
 refine zfG ?_
 refine zfM ?_
 refine zR ?_
 refine zba ?_
 refine zeL ?_
 refine zd9 ?_
 refine K.cutT (σ := StB) [(0, _)] bySub (fun s kp_ => (7, .pointer (some (adr (oV k.o k.hs.length) (i * hanE.sz)))) :: (8, .pointer (some ⟨s.b, 0, none⟩)) :: kp_) (fun s => markH k B.p ++ (planH B.p ++ (seenH B T N ++ ((s.b, cells [.bool false, .bool false, .func (.func 191) #[] #[]] 203) :: F)))) (fun s => True) ?_ ?_
 ·skip
  refine zak ?_
  refine zjn ?_
  refine zO ?_
  refine zgV ?_
  refine zjo ?_
  refine zaO ?_
  refine zfE ?_
  refine zO ?_
  refine KD.fork2 (x := 6) (y := 9) (o1 := [(8, 1), (9, 2), (10, 0), (11, 2)]) (o2 := [(6, 2), (8, 0), (10, 0), (11, 2)]) (by kernel_rfl) rfl rfl (by kernel_rfl) (by kernel_rfl) ?_ ?_
  ·refine zcG fun T hT => ?_
   refine zgG ?_
   unfold microsV
   refine zi ?_
   clear hT T
   refine zjp ?_
   refine zeI ?_; intro b8
   exact zgC
  ·(refine ActK.e rfl (Eff.alloc rfl) ?_; rintro _ _ ⟨b8, rfl, rfl⟩; refine ⟨byPart, ?_⟩)
   refine zl fun T hT => ?_
   refine zgG ?_
   unfold microsV
   refine zi ?_
   clear hT T
   refine zjq ?_
   exact zgC
 ·rintro ⟨b8⟩ _
  dsimp only
  obtain ⟨hsl, hfi, hi⟩ := h
  cases hi with
  | true =>
   have hmn : walkM B.p.g m i = none := by unfold walkM; rw [handA_at hmh]; rfl
   rw [hmn]
   simp only [Option.isSome, Option.getD, Option.map]
   refine zha ?_
   refine zgH ?_
   refine zgM ?_
   refine zfs ?_
   refine zfy ?_
   refine zhz ?_
   refine zf9 ?_
   refine zhA ?_
   refine zcS ?_
   refine zcv ?_
   refine zeg ?_
   refine zbD ?_
   refine zbj ?_
   refine zdY ?_
   refine zam ?_
   exact zhy
  | false =>
   refine zha ?_
   refine zgH ?_
   refine zgM ?_
   refine zfs ?_
   refine zfy ?_
   refine zhz ?_
   refine zf9 ?_
   refine zhA ?_
   refine zcS ?_
   refine zc9 ?_
   refine zcu ?_
   refine zaX ?_
   refine zb2 fun T hT => ?_
   refine (CallV.part (CallV.fn (mkwalk_K hG ok hR hm hil)) (by first | exact byPart | (simp only [markH_app, seenH_app]; exact byPart))).mono ?_
   rintro _ _ (⟨hq, rfl, rfl⟩ | ⟨o, G', k', hq, rfl, kok, kto, kR, rfl⟩)
   ·have hmn : walkM B.p.g m i = none := walkM_no hq
    refine zi ?_
    clear hT T
    rw [hmn]
    simp only [Option.isSome, Option.getD, Option.map]
    refine zjc ?_
    refine zbR ?_
    refine zhi ?_
    refine zam ?_
    exact zhy
   ·have hmn : walkM B.p.g m i = some (wtM m i o G') := walkM_some (by rw [handA_at hmh]) hq
    have hst1 := hstp _ (hmc.trans hmn)
    refine zi ?_
    clear hT T
    rw [hmn]
    simp only [Option.isSome, Option.getD, Option.map]
    rw [← kto.b]
    have e5 : ((k'.steps : Nat) : Int) + 1 = ((k'.steps + 1 : Nat) : Int) := by omega
    have hks : k'.steps ≤ 1000000000 := by rw [kR.steps]; exact hst1
    refine zjN ?_
    refine zbR ?_
    refine zfb ?_
    refine zX ?_
    refine zaQ ?_
    refine zgB ?_
    refine zaQ ?_
    refine zaA ?_
    refine zt ?_
    rw [e5]
    exact KE.fin (H' := markH { k' with steps := k'.steps + 1 } B.p ++ (planH B.p ++ (seenH B T N ++ F))) byMarks rfl byRes (by simp only [markH_app, seenH_app]; exact byPart)
     ⟨rfl, { k' with steps := k'.steps + 1 }, ⟨kok.c, kok.g, kok.n, kok.o, kok.hs⟩, ⟨⟨kto.b, kto.bb, kto.tb, kto.nb, kto.n, kto.l⟩, kto.f, kto.cb, kto.gb, kto.o⟩, ⟨kR.C, kR.G, kR.hs, kR.root, kR.act, by show k'.steps + 1 = _ + 1; rw [kR.steps]⟩, by simp only [markH_app, seenH_app]⟩
theorem mkStep_no {hd : Int} {u : Nat} (ok : MkOk k B.p) (hR : MkR k B.p m) (hu : u < 256) (hno : ¬ (k.act = true ∧ 0 ≤ hd ∧ hd < (k.hs.length : Nat) ∧ 1 ≤ u ∧ u ≤ 4)) :
  Call Tryz.prog w0 37 [.pointer (some ⟨k.b, 0, none⟩), .int .i64 hd, .int .u8 (u : Nat)] (markH k B.p ++ (planH B.p ++ (seenH B T N ++ F))) (StepP k B T N F m none) := by
 have ho := ok.o
 have hac := fun A => mkActive_K (w0 := w0) (F := A) (k := k) (p := B.p)
 unfold StepP
 simp only [Option.isSome, Option.getD]
 cases ha : k.act with
 | false =>
  simp only [ha] at hac
  refine zeS fun T hT => ?_
  refine zcA ?_
  clear hT T
  simp only [markH_app, seenH_app]
  refine zbA ?_
  refine zd6 ?_
  refine zcz ?_
  refine zC ?_
  refine zd6 ?_
  refine zcs ?_
  refine zdm ?_
  exact zin
 | true =>
  simp only [ha] at hac
  have hno' : hd < 0 ∨ (¬ hd < 0 ∧ hd ≥ (k.hs.length : Nat)) ∨ (¬ hd < 0 ∧ ¬ hd ≥ (k.hs.length : Nat) ∧ ((u : Nat) : Int) < 1) ∨ (¬ hd < 0 ∧ ¬ hd ≥ (k.hs.length : Nat) ∧ ¬ ((u : Nat) : Int) < 1 ∧ ((u : Nat) : Int) > 4) := by
   by_cases c1 : hd < 0
   ·exact .inl c1
   ·by_cases c2 : hd ≥ (k.hs.length : Nat)
    ·exact .inr (.inl ⟨c1, c2⟩)
    ·by_cases c3 : ((u : Nat) : Int) < 1
     ·exact .inr (.inr (.inl ⟨c1, c2, c3⟩))
     ·exact .inr (.inr (.inr ⟨c1, c2, c3, by have : ¬ u ≤ 4 := fun h => hno ⟨ha, by omega, by omega, by omega, h⟩; omega⟩))
  rcases hno' with c1 | ⟨c1, c2⟩ | ⟨c1, c2, c3⟩ | ⟨c1, c2, c3, c4⟩
  ·refine zeS fun T hT => ?_
   refine zcA ?_
   clear hT T
   simp only [markH_app, seenH_app]
   refine zF ?_
   refine zaa ?_
   refine zE ?_
   refine zn ?_
   refine zcz ?_
   refine zC ?_
   refine zd6 ?_
   refine zcs ?_
   refine zdm ?_
   exact zin
  ·refine zeS fun T hT => ?_
   refine zcA ?_
   clear hT T
   refine zhb ?_
   refine zfG ?_
   refine z8 ?_
   refine zn ?_
   refine zd6 ?_
   refine zcs ?_
   refine zdm ?_
   exact zin
  ·refine zeS fun T hT => ?_
   refine zcA ?_
   clear hT T
   refine zhb ?_
   refine zfG ?_
   refine zfM ?_
   refine zE ?_
   refine zn ?_
   refine zcs ?_
   refine zdm ?_
   exact zin
  ·refine zeS fun T hT => ?_
   refine zcA ?_
   clear hT T
   refine zhb ?_
   refine zfG ?_
   refine zfM ?_
   refine zR ?_
   refine zba ?_
   refine zcb ?_
   refine zaz ?_
   refine zam ?_
   exact zin
theorem mkStep_K {hd : Int} {u : Nat} (hG : Glob w0) (hp : MpR k B T N W) (ok : MkOk k B.p) (hR : MkR k B.p m) (hm : MaOk B.p.g k.g.ring.length W m) (hst : m.steps ≤ 1000000000) (hu : u < 256) :
  Call Tryz.prog w0 37 [.pointer (some ⟨k.b, 0, none⟩), .int .i64 hd, .int .u8 (u : Nat)] (markH k B.p ++ (planH B.p ++ (seenH B T N ++ F))) (StepP k B T N F m (stepM B.p.g k.g.ring.length W m hd (u : Nat))) := by
 have hact := hR.act
 have hhs := hR.hs
 by_cases hy : k.act = true ∧ 0 ≤ hd ∧ hd < (k.hs.length : Nat) ∧ 1 ≤ u ∧ u ≤ 4
 ·obtain ⟨h1, h2, h3, h4, h5⟩ := hy
  obtain ⟨i, rfl⟩ : ∃ i : Nat, hd = i := ⟨hd.toNat, by omega⟩
  have hs : ∀ q : Int, stepM B.p.g k.g.ring.length W m (i : Nat) q = (microM B.p.g k.g.ring.length W m i q).map upM := fun q => by
   unfold stepM
   rw [if_pos ⟨by rw [← hact]; exact h1, by omega, by rw [← hhs]; exact h3⟩, Int.toNat_natCast]
  rw [hs]
  rcases (show u = 1 ∨ u = 2 ∨ u = 3 ∨ u = 4 by omega) with rfl | rfl | rfl | rfl
  ·exact mkStep1_K hG hp ok hR hm hst h1 (by omega)
  ·exact mkStep2_K hG hp ok hR hm hst h1 (by omega)
  ·exact mkStep3_K hG hp ok hR hm hst h1 (by omega)
  ·exact mkStep4_K hG hp ok hR hm hst h1 (by omega)
 ·have hs : stepM B.p.g k.g.ring.length W m hd (u : Nat) = none := by
   unfold stepM
   split
   ·rename_i hc
    have : microM B.p.g k.g.ring.length W m hd.toNat (u : Nat) = none := by
     unfold microM
     rw [← hact, ← hhs] at hc
     have : ¬ (1 ≤ u ∧ u ≤ 4) := fun h => hy ⟨hc.1, hc.2.1, hc.2.2, h.1, h.2⟩
     rw [if_neg (by omega), if_neg (by omega), if_neg (by omega), if_neg (by omega)]
    rw [this]; rfl
   ·rfl
  rw [hs]
  exact mkStep_no ok hR hu hy
end
open Go.RowKit
set_option maxRecDepth 10000
structure FuI where
 i : Nat
theorem fullM_is {m : MaP} {i : Nat} (hi : i < m.hs.length) (h : (handA m i).is = true) (hno : ∀ j, j < i → (handA m j).is = false) : fullM m = some i := by
 unfold fullM
 rw [List.find?_range_eq_some]
 exact ⟨h, List.mem_range.2 hi, fun j hj => by rw [hno j hj]; decide⟩
theorem fullM_no {m : MaP} (hno : ∀ j, j < m.hs.length → (handA m j).is = false) : fullM m = none := by
 unfold fullM
 rw [List.find?_eq_none]
 intro j hj
 rw [hno j (List.mem_range.1 hj)]; decide
section
variable {w0 : World} {F : Heap} {k : MkM} {B : BoM} {T : TbM} {N : PiM} {W : MwP} {m : MaP}
theorem mkfull_K {H : Heap} {b : Nat} :
  Call Tryz.prog w0 114 [.pointer (some ⟨b, 0, none⟩)] H (fun u H' => ∃ bl, u = .func (.func 193) #[] [.pointer (some ⟨bl, 0, none⟩)].toArray ∧ H' = (bl, cells [.pointer (some ⟨b, 0, none⟩)] 30) :: H) := by
 refine Call.enter1 (n := 4) (by kernel_rfl) Tryz.func114 rfl rfl rfl ?_
 refine zW ?_; intro b1
 refine ziM ?_
 refine zt ?_
 exact KE.fin byMarks rfl byRes byPart ⟨b1, rfl, rfl⟩
theorem mkfull1_K {A0 : Heap} {bl : Nat} {yv : Value} (ok : MkOk k B.p) (hhs : k.hs = m.hs) (E : Heap → Prop)
  (hy : ∀ i, fullM m = some i → CallV Tryz.prog w0 yv [.int .i64 (i : Nat)] (A0 ++ ((bl, cells [.pointer (some ⟨k.b, 0, none⟩)] 30) :: (markH k B.p ++ F))) (fun u H' => u = .bool false ∧ E H')) :
  Call Tryz.prog w0 193 [yv, .pointer (some ⟨bl, 0, none⟩)] (A0 ++ ((bl, cells [.pointer (some ⟨k.b, 0, none⟩)] 30) :: (markH k B.p ++ F)))
   (fun _ H' => (fullM m = none ∧ H' = A0 ++ ((bl, cells [.pointer (some ⟨k.b, 0, none⟩)] 30) :: (markH k B.p ++ F))) ∨ E H') := by
 have ho := ok.o
 have hh9 := ok.hs
 have hml : m.hs.length = k.hs.length := by rw [hhs]
 refine Call.enter2 (n := 24) (by kernel_rfl) Tryz.func193 rfl rfl rfl ?_
 simp only [markH_app]
 refine zq ?_
 refine zk ?_
 refine zac ?_
 refine zem ?_
 refine za6 ?_
 refine zeM ?_
 refine K.loopT (σ := FuI) [(0, _), (8, _), (9, _)] (fun s kp_ => (10, .int .i64 (s.i : Nat)) :: kp_) (fun s => A0 ++ ((bl, cells [.pointer (some ⟨k.b, 0, none⟩)] 30) :: (markH k B.p ++ F))) (fun s => s.i ≤ k.hs.length ∧ ∀ j, j < s.i → (handA m j).is = false) (fun s => k.hs.length - s.i) (⟨0⟩) bySub (by first | exact byPart | (simp only [markH_app]; exact byPart)) (⟨Nat.zero_le _, fun j h => absurd h (Nat.not_lt_zero _)⟩) ?_
 rintro ⟨i⟩ ⟨hi, hno⟩
 dsimp only at hi hno ⊢
 simp only [markH_app]
 by_cases hlt : i < k.hs.length
 ·obtain ⟨h, hh⟩ := get_of_lt hlt
  have hha : handA m i = h := handA_at (by rw [← hhs]; exact hh)
  obtain ⟨hsl, hfi, his⟩ := h
  cases his with
  | true =>
   have hf := fullM_is (by omega) (by rw [hha]) hno
   refine zd1 ?_
   refine zf ?_
   refine zbZ ?_
   refine ziO ?_
   refine zaI ?_; intro b4
   refine zA ?_
   refine zcj ?_
   refine zas ?_
   refine zaa ?_
   refine zu ?_
   refine zg fun T hT => ?_
   refine (CallV.part (hy i hf) (by first | exact byPart | (simp only [markH_app]; exact byPart))).mono ?_
   rintro _ H' ⟨rfl, hE⟩
   refine zd ?_
   clear hT T
   refine zbe ?_
   refine zC ?_
   refine zfW ?_
   refine zea ?_
   refine zdO ?_
   refine zaH ?_
   refine zfV ?_
   exact KE.fin byMarks rfl byRes byPart (.inr hE)
  | false =>
   refine zd1 ?_
   refine zf ?_
   refine zbZ ?_
   refine ziO ?_
   refine zaI ?_; intro b4
   refine zA ?_
   refine zcj ?_
   refine zas ?_
   refine zbF ?_
   refine zce ?_
   refine zeB ?_
   exact KE.again ⟨i + 1⟩ bySub (by first | exact byPart | (simp only [markH_app]; exact byPart)) ⟨hlt, fun j (hj : j < i + 1) => by
    rcases Nat.lt_or_ge j i with h | h
    ·exact hno j h
    ·have : j = i := by omega
     subst this
     rw [hha]⟩ (by show k.hs.length - (i + 1) < k.hs.length - i; omega)
 ·refine zgr ?_
  refine zeD ?_
  exact KE.finN byMarks rfl byRes (by first | exact byPart | (simp only [markH_app]; exact byPart)) (.inl ⟨fullM_no fun j hj => hno j (by omega), rfl⟩)
end
section
variable {w0 : World} {F : Heap} {k : MkM} {B : BoM} {T : TbM} {N : PiM} {W : MwP} {m : MaP}
theorem mkDone_K (hG : Glob w0) (hp : MpR k B T N W) (ok : MkOk k B.p) (hR : MkR k B.p m) (hm : MaOk B.p.g k.g.ring.length W m) :
  Call Tryz.prog w0 39 [.pointer (some ⟨k.b, 0, none⟩)] (markH k B.p ++ (planH B.p ++ (seenH B T N ++ F))) (fun r H' => r = .bool (doneM B.p.g W m) ∧ H' = markH k B.p ++ (planH B.p ++ (seenH B T N ++ F))) := by
 have okg := ok.g
 have hac := fun A => mkActive_K (w0 := w0) (F := A) (k := k) (p := B.p)
 have hact := hR.act
 have hroots := fun A => mkroots_K (w0 := w0) (F := A) hp ok
 have hem := fun A => grEmpty_K (w0 := w0) (F := A) hG okg hR.G hm.G
 have hrt := hm.root
 have hr := hR.root
 rw [← hr] at hrt
 have hd : doneM B.p.g W m = (k.act && ((fullM m).isNone && (decide (((k.root : Nat) : Int) = ((W.T.length + B.p.g.slots : Nat) : Int)) && emptyG m.G))) := by
  unfold doneM
  rw [hact, ← hr]
  congr 3
  exact decide_eq_decide.2 (by omega)
 cases ha : k.act with
 | false =>
  have hdf : doneM B.p.g W m = false := by rw [hd, ha]; rfl
  rw [hdf]
  simp only [ha] at hac
  refine zks ?_
  refine zq ?_
  refine zaI ?_; intro b2
  refine zbM ?_
  refine zh fun T hT => ?_
  refine zcA ?_
  clear hT T
  refine zat ?_
  refine zcR ?_
  refine zaH ?_
  exact zhw
 | true =>
  simp only [ha] at hac
  refine zks ?_
  refine zq ?_
  refine zaI ?_; intro b2
  refine zbM ?_
  refine zh fun T hT => ?_
  refine zcA ?_
  clear hT T
  refine zdV ?_
  refine zh fun T hT => ?_
  refine (CallV.fn mkfull_K).mono ?_
  rintro _ _ ⟨bl, rfl, rfl⟩
  refine zd ?_
  clear hT T
  refine zhf ?_
  refine K.rangeFunc (lb := [.pointer (some ⟨bl, 0, none⟩)]) rfl
   (fun D G => fullM m = none ∧ G = (D, .deferred (some [])) :: (b2, cells [.bool false] 4) :: (markH k B.p ++ (planH B.p ++ (seenH B T N ++ F))))
   (fun D c G => c = .ret ∧ ∃ i, fullM m = some i ∧ G = (D, .deferred (some [])) :: (b2, cells [.bool false] 4) :: (markH k B.p ++ (planH B.p ++ (seenH B T N ++ F)))) ?_ ?_ ?_
  ·intro l D rc hyl
   refine (Call.part (mkfull1_K (F := planH B.p ++ (seenH B T N ++ F)) (bl := bl) ok hR.hs
    (fun H' => ∃ i, fullM m = some i ∧ H' = (l, .loop (rc .done (some .ret))) :: ((D, .deferred (some [])) :: (b2, cells [.bool false] 4) :: (bl, cells [.pointer (some ⟨k.b, 0, none⟩)] 30) :: (markH k B.p ++ (planH B.p ++ (seenH B T N ++ F)))))
    (A0 := (l, .loop (rc .ready none)) :: (D, .deferred (some [])) :: (b2, cells [.bool false] 4) :: []) ?_) (by simp only [List.cons_append, List.nil_append]; exact byPart)).mono ?_
   ·intro i hf
    simp only [List.cons_append, List.nil_append]
    refine hyl _ _ _ _ _ (ParS.cons rfl ParS.nil) byTake ?_
    refine K.skip ?_
    refine KE.begin byTake ?_
    refine K.block (K.seq (K.region ?_))
    refine zcR ?_
    refine zfV ?_
    refine KE.part ((l, .loop (rc .busy none)) :: ((D, .deferred (some [])) :: (b2, cells [.bool false] 4) :: (bl, cells [.pointer (some ⟨k.b, 0, none⟩)] 30) :: (markH k B.p ++ (planH B.p ++ (seenH B T N ++ F))))) byPart ?_
    exact KE.roundR Take.head ⟨rfl, i, hf, rfl⟩
   ·rintro _ _ (⟨hno, rfl⟩ | ⟨i, hf, rfl⟩)
    ·refine .inl ⟨_, ?_, hno, rfl⟩
     exact ziG
    ·exact .inr ⟨.ret, _, byPart, rfl, i, hf, rfl⟩
  ·rintro D G ⟨hf, rfl⟩
   by_cases hrr : ((k.root : Nat) : Int) = ((W.T.length + B.p.g.slots : Nat) : Int)
   ·have hdf : doneM B.p.g W m = emptyG m.G := by rw [hd, ha, hf, decide_eq_true hrr]; rfl
    rw [hdf]
    simp only [markH_app, seenH_app]
    refine zbY ?_
    refine zbC ?_
    refine zlG ?_
    refine zeG ?_
    refine zih ?_
    refine zb0 ?_
    refine zo ?_
    refine zl fun T hT => ?_
    refine zjj ?_
    refine zS ?_
    simp only [markH_app, seenH_app]
    refine zi ?_
    clear hT T
    refine zdK ?_
    refine zbd ?_
    refine ze0 ?_
    refine zja ?_
    refine zbk ?_
    refine zb2 fun T hT => ?_
    refine (CallV.part (CallV.fn (hem _)) (by first | exact byPart | (simp only [markH_app, seenH_app]; exact byPart))).mono ?_
    refine zab ?_
    clear hT T
    refine zbj ?_
    refine zd5 ?_
    refine zjG ?_
    exact zlH
   ·have hdf : doneM B.p.g W m = false := by rw [hd, ha, decide_eq_false hrr]; simp
    rw [hdf]
    simp only [markH_app, seenH_app]
    refine zbY ?_
    refine zbC ?_
    refine zlG ?_
    refine zeG ?_
    refine zih ?_
    refine zb0 ?_
    refine zo ?_
    refine zl fun T hT => ?_
    refine zjj ?_
    refine zS ?_
    simp only [markH_app, seenH_app]
    refine zi ?_
    clear hT T
    refine zf7 ?_
    refine zfr ?_
    refine zeg ?_
    refine za9 ?_
    refine zd5 ?_
    refine zjG ?_
    exact zlH
  ·rintro D c G ⟨rfl, i, hf, rfl⟩
   have hdf : doneM B.p.g W m = false := by rw [hd, hf]; simp
   rw [hdf]
   refine zea ?_
   refine zdO ?_
   exact zaU
end
end Go.Proofs.YtalholahapcpkaaGreatDoor.Sw
