/- The walker and the contracts that the law needs, part 31. -/
import Derived.Test.YtalholahapcpkaaGreatDoorD1
import Derived.Test.YtalholahapcpkaaGreatDoorJ27
import Derived.Test.YtalholahapcpkaaGreatDoorJ28
import Derived.Test.YtalholahapcpkaaGreatDoorJ30
namespace Go.Proofs.YtalholahapcpkaaGreatDoor.Sw
open Go.Proofs.YtalholahapcpkaaGreatDoor renaming lo → qL, hi → qH
open Go.RowKit
set_option linter.unusedVariables false
set_option linter.unusedSimpArgs false
set_option maxRecDepth 10000
structure HpI where
 i : Nat
structure HpB where
 q : KmV
 N : Heap
 b : Nat
section
variable {w0 : World} {D F : Heap} {v : PlV} {g : PlG} {long : Nat} {q : KmV} {m : MaP} {W : MwP} {z : KwV}
theorem KmD.up (h : KmD w0 D q m) : KmD w0 D q (upM m) := ⟨h.C, h.G, h.H, h.oc, h.oh⟩
set_option maxHeartbeats 4000000 in
theorem rkStep1_K {i : Nat} (ok : PlOk g) (hK : KmD w0 D q m) (hm : MaOk g long W m) (hlg : long ≤ 64) (hW : KwD w0 D v g z W) (hst : m.steps ≤ 1000000000) (hact : m.act = true) (hi : i < m.hs.length) :
  Call Tryz.prog w0 131 [.agg (kmL v g long q m).toArray, .agg (kwL v g z).toArray, .int .i64 (i : Nat), .int .u8 1] (D ++ F) (KmO w0 D F v g long m ((microM g long W m i 1).map upM)) := by
 have hP := hW.B.p
 have q1 := hP.oL
 have q2 := hP.oF
 have q3 := hP.oM
 have q4 := hP.oC
 have q5 := hK.G.o1
 have q6 := hK.G.o2
 have q7 := hK.G.o3
 have q8 := hK.oc
 have q9 := hK.oh
 have r5 := hW.B.m.o
 have r6 := hW.oT
 have r7 := hW.oN
 have hH := hK.H
 have h9 := hm.hs
 have hmc : microM g long W m i 1 = rootM g long W m := rfl
 have hstp : ∀ m1 : MaP, microM g long W m i 1 = some m1 → m1.steps ≤ 1000000000 := fun m1 h => by
  have := (micro_ok ok hm hi h).2.2.1
  omega
 rw [hmc] at hstp ⊢
 have hcl := fun A => rkroot_K (w0 := w0) (D := D) (F := A) ok hK hm hlg hW
 have hlt : ¬ ((i : Nat) : Int) < 0 := by omega
 have hge : ¬ ((i : Nat) : Int) ≥ (m.hs.length : Nat) := by omega
 obtain ⟨o, ho⟩ : ∃ o, rootM g long W m = o := ⟨_, rfl⟩
 rw [ho] at hstp
 simp only [ho] at hcl ⊢
 unfold KmO at hcl ⊢
 unfold kmL kwL at hcl
 unfold kmL kwL
 rw [hact]
 simp only [hact] at hcl
 cases o with
 | none =>
  simp only [Option.isSome, Option.getD, Option.map] at hcl ⊢
  refine zdB ?_; intro b4 b5 b8
  refine zfH ?_
  refine zay ?_; intro b10
  refine zfI ?_
  refine zd7 ?_
  refine zB ?_
  refine zp fun T hT => ?_
  refine zcH ?_
  rintro _ _ ⟨q', N, hK', rfl, rfl⟩
  have p5 := hK'.G.o1
  have p6 := hK'.G.o2
  have p7 := hK'.G.o3
  have p8 := hK'.oc
  have p9 := hK'.oh
  refine zd ?_
  clear hT T
  refine zai ?_
  refine zeJ ?_
  refine zfJ ?_
  refine zM ?_
  refine zck ?_
  exact zjr
 | some m1 =>
  have hs1 := hstp m1 rfl
  have e5 : ((m1.steps : Nat) : Int) + 1 = (((upM m1).steps : Nat) : Int) := by show _ = ((m1.steps + 1 : Nat) : Int); omega
  simp only [Option.isSome, Option.getD, Option.map] at hcl ⊢
  refine zdB ?_; intro b4 b5 b8
  refine zfH ?_
  refine zay ?_; intro b10
  refine zfI ?_
  refine zd7 ?_
  refine zB ?_
  refine zp fun T hT => ?_
  refine zcH ?_
  rintro _ _ ⟨q', N, hK', rfl, rfl⟩
  have p5 := hK'.G.o1
  have p6 := hK'.G.o2
  have p7 := hK'.G.o3
  have p8 := hK'.oc
  have p9 := hK'.oh
  refine zd ?_
  clear hT T
  refine zai ?_
  refine zeJ ?_
  refine zfJ ?_
  refine zI ?_
  refine zga ?_
  refine zcQ ?_
  refine zga ?_
  refine zaA ?_
  refine zbg ?_
  rw [e5]
  exact zjs
set_option maxHeartbeats 4000000 in
theorem rkStep2_K {i : Nat} (ok : PlOk g) (hK : KmD w0 D q m) (hm : MaOk g long W m) (hlg : long ≤ 64) (hW : KwD w0 D v g z W) (hst : m.steps ≤ 1000000000) (hact : m.act = true) (hi : i < m.hs.length) :
  Call Tryz.prog w0 131 [.agg (kmL v g long q m).toArray, .agg (kwL v g z).toArray, .int .i64 (i : Nat), .int .u8 2] (D ++ F) (KmO w0 D F v g long m ((microM g long W m i 2).map upM)) := by
 have hP := hW.B.p
 have q1 := hP.oL
 have q2 := hP.oF
 have q3 := hP.oM
 have q4 := hP.oC
 have q5 := hK.G.o1
 have q6 := hK.G.o2
 have q7 := hK.G.o3
 have q8 := hK.oc
 have q9 := hK.oh
 have r5 := hW.B.m.o
 have r6 := hW.oT
 have r7 := hW.oN
 have hH := hK.H
 have h9 := hm.hs
 have hmc : microM g long W m i 2 = takeM m i := rfl
 have hstp : ∀ m1 : MaP, microM g long W m i 2 = some m1 → m1.steps ≤ 1000000000 := fun m1 h => by
  have := (micro_ok ok hm hi h).2.2.1
  omega
 rw [hmc] at hstp ⊢
 have hcl := fun A => rktake_K (w0 := w0) (D := D) (F := A) hP ok hK hm hlg hi
 have hlt : ¬ ((i : Nat) : Int) < 0 := by omega
 have hge : ¬ ((i : Nat) : Int) ≥ (m.hs.length : Nat) := by omega
 obtain ⟨o, ho⟩ : ∃ o, takeM m i = o := ⟨_, rfl⟩
 rw [ho] at hstp
 simp only [ho] at hcl ⊢
 unfold KmO at hcl ⊢
 unfold kmL at hcl
 unfold kmL kwL
 rw [hact]
 simp only [hact] at hcl
 cases o with
 | none =>
  simp only [Option.isSome, Option.getD, Option.map] at hcl ⊢
  refine zdB ?_; intro b4 b5 b8
  refine zfH ?_
  refine zay ?_; intro b10
  refine zfI ?_
  refine zbP ?_
  refine zd7 ?_
  refine zz fun T hT => ?_
  refine zcH ?_
  rintro _ _ ⟨q', N, hK', rfl, rfl⟩
  have p5 := hK'.G.o1
  have p6 := hK'.G.o2
  have p7 := hK'.G.o3
  have p8 := hK'.oc
  have p9 := hK'.oh
  refine zd ?_
  clear hT T
  refine zai ?_
  refine zeJ ?_
  refine zfJ ?_
  refine zM ?_
  refine zck ?_
  exact zjr
 | some m1 =>
  have hs1 := hstp m1 rfl
  have e5 : ((m1.steps : Nat) : Int) + 1 = (((upM m1).steps : Nat) : Int) := by show _ = ((m1.steps + 1 : Nat) : Int); omega
  simp only [Option.isSome, Option.getD, Option.map] at hcl ⊢
  refine zdB ?_; intro b4 b5 b8
  refine zfH ?_
  refine zay ?_; intro b10
  refine zfI ?_
  refine zbP ?_
  refine zd7 ?_
  refine zz fun T hT => ?_
  refine zcH ?_
  rintro _ _ ⟨q', N, hK', rfl, rfl⟩
  have p5 := hK'.G.o1
  have p6 := hK'.G.o2
  have p7 := hK'.G.o3
  have p8 := hK'.oc
  have p9 := hK'.oh
  refine zd ?_
  clear hT T
  refine zai ?_
  refine zeJ ?_
  refine zfJ ?_
  refine zI ?_
  refine zga ?_
  refine zcQ ?_
  refine zga ?_
  refine zaA ?_
  refine zbg ?_
  rw [e5]
  exact zjs
set_option maxHeartbeats 4000000 in
theorem rkStep3_K {i : Nat} (ok : PlOk g) (hK : KmD w0 D q m) (hm : MaOk g long W m) (hlg : long ≤ 64) (hW : KwD w0 D v g z W) (hst : m.steps ≤ 1000000000) (hact : m.act = true) (hi : i < m.hs.length) :
  Call Tryz.prog w0 131 [.agg (kmL v g long q m).toArray, .agg (kwL v g z).toArray, .int .i64 (i : Nat), .int .u8 3] (D ++ F) (KmO w0 D F v g long m ((microM g long W m i 3).map upM)) := by
 have hP := hW.B.p
 have q1 := hP.oL
 have q2 := hP.oF
 have q3 := hP.oM
 have q4 := hP.oC
 have q5 := hK.G.o1
 have q6 := hK.G.o2
 have q7 := hK.G.o3
 have q8 := hK.oc
 have q9 := hK.oh
 have r5 := hW.B.m.o
 have r6 := hW.oT
 have r7 := hW.oN
 have hH := hK.H
 have h9 := hm.hs
 have hmc : microM g long W m i 3 = scanM g long W m i := rfl
 have hstp : ∀ m1 : MaP, microM g long W m i 3 = some m1 → m1.steps ≤ 1000000000 := fun m1 h => by
  have := (micro_ok ok hm hi h).2.2.1
  omega
 rw [hmc] at hstp ⊢
 have hcl := fun A => rkscan_K (w0 := w0) (D := D) (F := A) ok hK hm hlg hW hi
 have hlt : ¬ ((i : Nat) : Int) < 0 := by omega
 have hge : ¬ ((i : Nat) : Int) ≥ (m.hs.length : Nat) := by omega
 obtain ⟨o, ho⟩ : ∃ o, scanM g long W m i = o := ⟨_, rfl⟩
 rw [ho] at hstp
 simp only [ho] at hcl ⊢
 unfold KmO at hcl ⊢
 unfold kmL kwL at hcl
 unfold kmL kwL
 rw [hact]
 simp only [hact] at hcl
 cases o with
 | none =>
  simp only [Option.isSome, Option.getD, Option.map] at hcl ⊢
  refine zdB ?_; intro b4 b5 b8
  refine zfH ?_
  refine zay ?_; intro b10
  refine zfI ?_
  refine zbW ?_
  refine zd7 ?_
  refine zB ?_
  refine zz fun T hT => ?_
  refine zcH ?_
  rintro _ _ ⟨q', N, hK', rfl, rfl⟩
  have p5 := hK'.G.o1
  have p6 := hK'.G.o2
  have p7 := hK'.G.o3
  have p8 := hK'.oc
  have p9 := hK'.oh
  refine zd ?_
  clear hT T
  refine zai ?_
  refine zeJ ?_
  refine zfJ ?_
  refine zM ?_
  refine zck ?_
  exact zjr
 | some m1 =>
  have hs1 := hstp m1 rfl
  have e5 : ((m1.steps : Nat) : Int) + 1 = (((upM m1).steps : Nat) : Int) := by show _ = ((m1.steps + 1 : Nat) : Int); omega
  simp only [Option.isSome, Option.getD, Option.map] at hcl ⊢
  refine zdB ?_; intro b4 b5 b8
  refine zfH ?_
  refine zay ?_; intro b10
  refine zfI ?_
  refine zbW ?_
  refine zd7 ?_
  refine zB ?_
  refine zz fun T hT => ?_
  refine zcH ?_
  rintro _ _ ⟨q', N, hK', rfl, rfl⟩
  have p5 := hK'.G.o1
  have p6 := hK'.G.o2
  have p7 := hK'.G.o3
  have p8 := hK'.oc
  have p9 := hK'.oh
  refine zd ?_
  clear hT T
  refine zai ?_
  refine zeJ ?_
  refine zfJ ?_
  refine zI ?_
  refine zga ?_
  refine zcQ ?_
  refine zga ?_
  refine zaA ?_
  refine zbg ?_
  rw [e5]
  exact zjs
set_option maxHeartbeats 4000000 in
theorem rkStep4_K {i : Nat} (ok : PlOk g) (hK : KmD w0 D q m) (hm : MaOk g long W m) (hlg : long ≤ 64) (hW : KwD w0 D v g z W) (hst : m.steps ≤ 1000000000) (hact : m.act = true) (hi : i < m.hs.length) :
  Call Tryz.prog w0 131 [.agg (kmL v g long q m).toArray, .agg (kwL v g z).toArray, .int .i64 (i : Nat), .int .u8 4] (D ++ F) (KmO w0 D F v g long m ((microM g long W m i 4).map upM)) := by
 have hP := hW.B.p
 have q1 := hP.oL
 have q2 := hP.oF
 have q3 := hP.oM
 have q4 := hP.oC
 have q5 := hK.G.o1
 have q6 := hK.G.o2
 have q7 := hK.G.o3
 have q8 := hK.oc
 have q9 := hK.oh
 have r5 := hW.B.m.o
 have r6 := hW.oT
 have r7 := hW.oN
 have hH := hK.H
 have h9 := hm.hs
 have hmc : microM g long W m i 4 = walkM g m i := rfl
 have hstp : ∀ m1 : MaP, microM g long W m i 4 = some m1 → m1.steps ≤ 1000000000 := fun m1 h => by
  have := (micro_ok ok hm hi h).2.2.1
  omega
 rw [hmc] at hstp ⊢
 have hcl := fun A => rkwalk_K (w0 := w0) (D := D) (F := A) hP ok hK hm hlg hi
 have hlt : ¬ ((i : Nat) : Int) < 0 := by omega
 have hge : ¬ ((i : Nat) : Int) ≥ (m.hs.length : Nat) := by omega
 obtain ⟨o, ho⟩ : ∃ o, walkM g m i = o := ⟨_, rfl⟩
 rw [ho] at hstp
 simp only [ho] at hcl ⊢
 unfold KmO at hcl ⊢
 unfold kmL at hcl
 unfold kmL kwL
 rw [hact]
 simp only [hact] at hcl
 cases o with
 | none =>
  simp only [Option.isSome, Option.getD, Option.map] at hcl ⊢
  refine zdB ?_; intro b4 b5 b8
  refine zfH ?_
  refine zay ?_; intro b10
  refine zfI ?_
  refine zbW ?_
  refine zbP ?_
  refine zd7 ?_
  refine zz fun T hT => ?_
  refine zcH ?_
  rintro _ _ ⟨q', N, hK', rfl, rfl⟩
  have p5 := hK'.G.o1
  have p6 := hK'.G.o2
  have p7 := hK'.G.o3
  have p8 := hK'.oc
  have p9 := hK'.oh
  refine zd ?_
  clear hT T
  refine zai ?_
  refine zeJ ?_
  refine zfJ ?_
  refine zM ?_
  refine zck ?_
  exact zjr
 | some m1 =>
  have hs1 := hstp m1 rfl
  have e5 : ((m1.steps : Nat) : Int) + 1 = (((upM m1).steps : Nat) : Int) := by show _ = ((m1.steps + 1 : Nat) : Int); omega
  simp only [Option.isSome, Option.getD, Option.map] at hcl ⊢
  refine zdB ?_; intro b4 b5 b8
  refine zfH ?_
  refine zay ?_; intro b10
  refine zfI ?_
  refine zbW ?_
  refine zbP ?_
  refine zd7 ?_
  refine zz fun T hT => ?_
  refine zcH ?_
  rintro _ _ ⟨q', N, hK', rfl, rfl⟩
  have p5 := hK'.G.o1
  have p6 := hK'.G.o2
  have p7 := hK'.G.o3
  have p8 := hK'.oc
  have p9 := hK'.oh
  refine zd ?_
  clear hT T
  refine zai ?_
  refine zeJ ?_
  refine zfJ ?_
  refine zI ?_
  refine zga ?_
  refine zcQ ?_
  refine zga ?_
  refine zaA ?_
  refine zbg ?_
  rw [e5]
  exact zjs
theorem rkStep_no {hd : Int} {u : Nat} (ok : PlOk g) (hK : KmD w0 D q m) (hm : MaOk g long W m) (hlg : long ≤ 64) (hW : KwD w0 D v g z W) (hu : u < 256) (hno : ¬ (m.act = true ∧ 0 ≤ hd ∧ hd < (m.hs.length : Nat) ∧ 1 ≤ u ∧ u ≤ 4)) :
  Call Tryz.prog w0 131 [.agg (kmL v g long q m).toArray, .agg (kwL v g z).toArray, .int .i64 hd, .int .u8 (u : Nat)] (D ++ F) (KmO w0 D F v g long m none) := by
 have hP := hW.B.p
 have q1 := hP.oL
 have q2 := hP.oF
 have q3 := hP.oM
 have q4 := hP.oC
 have q5 := hK.G.o1
 have q6 := hK.G.o2
 have q7 := hK.G.o3
 have q8 := hK.oc
 have q9 := hK.oh
 have r5 := hW.B.m.o
 have r6 := hW.oT
 have r7 := hW.oN
 have hH := hK.H
 have h9 := hm.hs
 unfold KmO
 simp only [Option.isSome, Option.getD]
 unfold kmL kwL
 cases ha : m.act with
 | false =>
  refine zdB ?_; intro b4 b5 b8
  refine zbA ?_
  refine zd6 ?_
  refine zcl ?_
  refine z7 ?_
  refine zbg ?_
  exact zjt
 | true =>
  have hno' : hd < 0 ∨ (¬ hd < 0 ∧ hd ≥ (m.hs.length : Nat)) ∨ (¬ hd < 0 ∧ ¬ hd ≥ (m.hs.length : Nat) ∧ ¬ ((u : Nat) : Int) = 1 ∧ ¬ ((u : Nat) : Int) = 2 ∧ ¬ ((u : Nat) : Int) = 3 ∧ ¬ ((u : Nat) : Int) = 4) := by
   by_cases c1 : hd < 0
   ·exact .inl c1
   ·by_cases c2 : hd ≥ (m.hs.length : Nat)
    ·exact .inr (.inl ⟨c1, c2⟩)
    ·have : ¬ (1 ≤ u ∧ u ≤ 4) := fun h => hno ⟨ha, by omega, by omega, h.1, h.2⟩
     exact .inr (.inr ⟨c1, c2, by omega, by omega, by omega, by omega⟩)
  rcases hno' with c1 | ⟨c1, c2⟩ | ⟨c1, c2, c3, c4, c5, c6⟩
  ·refine zdB ?_; intro b4 b5 b8
   refine zF ?_
   refine zaa ?_
   refine zE ?_
   refine zn ?_
   refine zcl ?_
   refine z7 ?_
   refine zbg ?_
   exact zjt
  ·refine zdB ?_; intro b4 b5 b8
   refine zl2 ?_
   refine zdR ?_
   refine z8 ?_
   refine zaz ?_
   refine zbg ?_
   exact zjt
  ·refine zdB ?_; intro b4 b5 b8
   refine zfH ?_
   refine zay ?_; intro b10
   refine zfI ?_
   refine zbW ?_
   refine zbP ?_
   refine zix ?_
   refine za7 ?_
   refine zfJ ?_
   refine zM ?_
   refine zck ?_
   exact zjt
theorem rkStep_K {hd v0 : Int} (ok : PlOk g) (hK : KmD w0 D q m) (hm : MaOk g long W m) (hlg : long ≤ 64) (hW : KwD w0 D v g z W) (hst : m.steps ≤ 1000000000) (hv : 0 ≤ v0 ∧ v0 < 256) :
  Call Tryz.prog w0 131 [.agg (kmL v g long q m).toArray, .agg (kwL v g z).toArray, .int .i64 hd, .int .u8 v0] (D ++ F) (KmO w0 D F v g long m (stepM g long W m hd v0)) := by
 obtain ⟨u, rfl⟩ : ∃ u : Nat, v0 = u := ⟨v0.toNat, by omega⟩
 have hP := hW.B.p
 by_cases hy : m.act = true ∧ 0 ≤ hd ∧ hd < (m.hs.length : Nat) ∧ 1 ≤ u ∧ u ≤ 4
 ·obtain ⟨h1, h2, h3, h4, h5⟩ := hy
  obtain ⟨i, rfl⟩ : ∃ i : Nat, hd = i := ⟨hd.toNat, by omega⟩
  have hs : ∀ q : Int, stepM g long W m (i : Nat) q = (microM g long W m i q).map upM := fun q => by
   unfold stepM
   rw [if_pos ⟨h1, by omega, h3⟩, Int.toNat_natCast]
  rw [hs]
  rcases (show u = 1 ∨ u = 2 ∨ u = 3 ∨ u = 4 by omega) with rfl | rfl | rfl | rfl
  ·exact rkStep1_K ok hK hm hlg hW hst h1 (by omega)
  ·exact rkStep2_K ok hK hm hlg hW hst h1 (by omega)
  ·exact rkStep3_K ok hK hm hlg hW hst h1 (by omega)
  ·exact rkStep4_K ok hK hm hlg hW hst h1 (by omega)
 ·have hs : stepM g long W m hd (u : Nat) = none := by
   unfold stepM
   split
   ·rename_i hc
    have : microM g long W m hd.toNat (u : Nat) = none := by
     unfold microM
     have : ¬ (1 ≤ u ∧ u ≤ 4) := fun h => hy ⟨hc.1, hc.2.1, hc.2.2, h.1, h.2⟩
     rw [if_neg (by omega), if_neg (by omega), if_neg (by omega), if_neg (by omega)]
    rw [this]; rfl
   ·rfl
  rw [hs]
  exact rkStep_no ok hK hm hlg hW (by omega) hy
set_option maxHeartbeats 4000000 in
theorem rkHelp_K (ok : PlOk g) (hK : KmD w0 D q m) (hm : MaOk g long W m) (hlg : long ≤ 64) (hW : KwD w0 D v g z W) (hst : m.steps ≤ 1000000000) :
  Call Tryz.prog w0 132 [.agg (kmL v g long q m).toArray, .agg (kwL v g z).toArray] (D ++ F) (KmO w0 D F v g long m (helpM g long W m)) := by
 have hP := hW.B.p
 have q1 := hP.oL
 have q2 := hP.oF
 have q3 := hP.oM
 have q4 := hP.oC
 have q5 := hK.G.o1
 have q6 := hK.G.o2
 have q7 := hK.G.o3
 have q8 := hK.oc
 have q9 := hK.oh
 have r5 := hW.B.m.o
 have r6 := hW.oT
 have r7 := hW.oN
 have hH := hK.H
 have h9 := hm.hs
 obtain ⟨own, hod⟩ : ∃ own : Nat, own = m.hs.length - 1 := ⟨_, rfl⟩
 have hown : ((m.hs.length : Nat) : Int) - 1 = ((own : Nat) : Int) := by omega
 have hstep := fun A (i : Nat) (u : Int) (hu : 0 ≤ u ∧ u < 256) => rkStep_K (w0 := w0) (D := D) (F := A) (hd := ((i : Nat) : Int)) (v0 := u) ok hK hm hlg hW hst hu
 have hhm : helpM g long W m = match fullM m with
   | some i => stepM g long W m (i : Nat) 3
   | none => match stepM g long W m (own : Nat) 2 with
    | some m' => some m'
    | none => match stepM g long W m (own : Nat) 1 with
     | some m' => some m'
     | none => stepM g long W m (own : Nat) 4 := by rw [hod]; rfl
 unfold KmO at hstep ⊢
 unfold kmL kwL at hstep ⊢
 refine Call.enter2 (n := 52) (by kernel_rfl) Tryz.func132 rfl rfl rfl ?_
 refine ziI ?_; intro b2 b3 b4
 refine zeh ?_
 refine zk ?_
 refine zP ?_
 refine zbi ?_
 refine za0 ?_
 rw [hown]
 refine zc1 ?_
 refine zaE ?_
 refine K.loopT (σ := HpI) [(2, _), (3, _), (4, _), (6, _)] (fun s kp_ => (7, .int .i64 (s.i : Nat)) :: kp_) (fun s => D ++ ((b4, cells [.slice none 0 0, .slice none 0 0, .slice none 0 0, .slice none 0 0, .int .i64 0, .slice none 0 0, .int .i64 0, .slice none 0 0, .slice none 0 0, .slice none 0 0, .int .i64 0, .int .i64 0, .slice none 0 0, .int .i64 0, .bool false, .int .i64 0] 97) :: (b3, cells [z.vr, .int .i64 ((0 : Nat) : Int), v.L, v.F, v.M, .int .i64 (g.words : Nat), v.C, z.vt, .int .i64 z.gens, z.vn] 92) :: (b2, cells [q.c, v.L, v.F, v.M, .int .i64 (g.words : Nat), v.C, .int .i64 (long : Nat), q.u.Q, q.u.ow, q.u.di, .int .i64 (pgI m.G), .int .i64 (m.G.at_ : Nat), q.h, .int .i64 (m.root : Nat), .bool m.act, .int .i64 (m.steps : Nat)] 97) :: F)) (fun s => s.i ≤ own + 1 ∧ ∀ j, j < s.i → (handA m j).is = false) (fun s => own + 1 - s.i) (⟨0⟩) bySub byPart (⟨Nat.zero_le _, fun j h => absurd h (Nat.not_lt_zero _)⟩) ?_
 rintro ⟨i⟩ ⟨hi, hno⟩
 dsimp only at hi hno ⊢
 by_cases hlt : i < own + 1
 ·have hle : ((i : Nat) : Int) ≤ ((own : Nat) : Int) := by omega
  have hil : i < m.hs.length := by omega
  obtain ⟨h, hh⟩ := get_of_lt hil
  have hha := handA_at hh
  obtain ⟨hsl, hfi, his⟩ := h
  cases his with
  | true =>
   have hf := fullM_is hil (by rw [hha]) hno
   have he : helpM g long W m = stepM g long W m (i : Nat) 3 := by rw [hhm, hf]
   have hs3 := fun A => hstep A i 3 (by decide)
   rw [he]
   refine zcI ?_
   refine zah ?_
   refine zed ?_
   refine zeC ?_
   refine zfB ?_
   refine zI ?_
   refine zB ?_
   refine zz fun T hT => ?_
   refine (CallV.part (CallV.fn (hs3 _)) byPart).mono ?_
   rintro _ _ ⟨q', N, hK', rfl, rfl⟩
   have p5 := hK'.G.o1
   have p6 := hK'.G.o2
   have p7 := hK'.G.o3
   have p8 := hK'.oc
   have p9 := hK'.oh
   refine zd ?_
   clear hT T
   refine zfd ?_
   refine z9 ?_
   refine zgo ?_
   exact zjk
  | false =>
   refine zcI ?_
   refine zah ?_
   refine zed ?_
   refine zeC ?_
   refine zfB ?_
   refine zgy ?_
   exact KE.again ⟨i + 1⟩ bySub byPart ⟨by show i + 1 ≤ own + 1; omega, fun j (hj : j < i + 1) => by
    rcases Nat.lt_or_ge j i with h | h
    ·exact hno j h
    ·have : j = i := by omega
     subst this; rw [hha]⟩ (by show own + 1 - (i + 1) < own + 1 - i; omega)
 ·have hle : ¬ ((i : Nat) : Int) ≤ ((own : Nat) : Int) := by omega
  have hf : fullM m = none := fullM_no fun j hj => hno j (by omega)
  rw [hf] at hhm
  dsimp only at hhm
  clear hno
  have hend : (∀ (j : Nat) (u : Int), j < 3 → ([2, 1, 4] : List Int)[j]? = some u → stepM g long W m (own : Nat) u = none) → helpM g long W m = none := fun h => by
   rw [hhm, h 0 2 (by omega) rfl, h 1 1 (by omega) rfl, h 2 4 (by omega) rfl]
  have hhit : ∀ (i : Nat) (u : Int) (m' : MaP), ([2, 1, 4] : List Int)[i]? = some u → (∀ (j : Nat) (u : Int), j < i → ([2, 1, 4] : List Int)[j]? = some u → stepM g long W m (own : Nat) u = none) → stepM g long W m (own : Nat) u = some m' → helpM g long W m = some m' := fun i u m' hu h hs => by
   rw [hhm]
   match i, hu with
   | 0, hu => cases hu; rw [hs]
   | 1, hu => cases hu; rw [h 0 2 (by omega) rfl, hs]
   | 2, hu => cases hu; rw [h 0 2 (by omega) rfl, h 1 1 (by omega) rfl, hs]
   | k + 3, hu => simp at hu
  clear hhm
  refine zcI ?_
  refine zcq ?_
  refine zfg ?_
  refine zad ?_; intro b33
  refine zcn ?_
  have hord : Sli w0 [(b33, cells [.int .u8 2, .int .u8 1, .int .u8 4] 5)] bE (.slice (some ⟨b33, 0, none⟩) 3 3) [2, 1, 4] := Sli.blk Take.head rfl (by decide) (by decide) rfl
  refine K.loopT (σ := HpI) [(2, _), (3, _), (4, _), (6, _), (8, _)] (fun s kp_ => (9, .int .i64 (s.i : Nat)) :: kp_) (fun s => D ++ ((b33, cells [.int .u8 2, .int .u8 1, .int .u8 4] 5) :: (b4, cells [.slice none 0 0, .slice none 0 0, .slice none 0 0, .slice none 0 0, .int .i64 0, .slice none 0 0, .int .i64 0, .slice none 0 0, .slice none 0 0, .slice none 0 0, .int .i64 0, .int .i64 0, .slice none 0 0, .int .i64 0, .bool false, .int .i64 0] 97) :: (b3, cells [z.vr, .int .i64 ((0 : Nat) : Int), v.L, v.F, v.M, .int .i64 (g.words : Nat), v.C, z.vt, .int .i64 z.gens, z.vn] 92) :: (b2, cells [q.c, v.L, v.F, v.M, .int .i64 (g.words : Nat), v.C, .int .i64 (long : Nat), q.u.Q, q.u.ow, q.u.di, .int .i64 (pgI m.G), .int .i64 (m.G.at_ : Nat), q.h, .int .i64 (m.root : Nat), .bool m.act, .int .i64 (m.steps : Nat)] 97) :: F)) (fun s => s.i ≤ 3 ∧ ∀ (j : Nat) (u : Int), j < s.i → ([2, 1, 4] : List Int)[j]? = some u → stepM g long W m (own : Nat) u = none) (fun s => 3 - s.i) (⟨0⟩) bySub byPart (⟨Nat.zero_le _, fun j _ h => absurd h (Nat.not_lt_zero _)⟩) ?_
  rintro ⟨i'⟩ ⟨hi', hno⟩
  dsimp only at hi' hno ⊢
  by_cases hlt3 : i' < 3
  ·have hlt3' : ((i' : Nat) : Int) < 3 := by omega
   obtain ⟨u, hu⟩ := get_of_lt (l := ([2, 1, 4] : List Int)) (k := i') hlt3
   have hub : 0 ≤ u ∧ u < 256 := by
    have := List.mem_of_getElem? hu
    simp only [List.mem_cons, List.not_mem_nil, or_false] at this
    omega
   have hs := fun A => hstep A own u hub
   obtain ⟨so, hso⟩ : ∃ so, stepM g long W m ((own : Nat) : Int) u = so := ⟨_, rfl⟩
   simp only [hso] at hs
   refine zv ?_
   refine zE ?_
   refine zko ?_
   refine K.cutT (σ := HpB) [(2, _), (3, _), (4, _), (6, _), (8, _), (9, _)] bySub (fun s kp_ => (10, .pointer (some ⟨s.b, 0, none⟩)) :: (11, .bool so.isSome) :: kp_) (fun s => (s.N ++ D) ++ ((s.b, cells (kmL v g long s.q (so.getD m)) 97) :: (b33, cells [.int .u8 2, .int .u8 1, .int .u8 4] 5) :: (b4, cells [.slice none 0 0, .slice none 0 0, .slice none 0 0, .slice none 0 0, .int .i64 0, .slice none 0 0, .int .i64 0, .slice none 0 0, .slice none 0 0, .slice none 0 0, .int .i64 0, .int .i64 0, .slice none 0 0, .int .i64 0, .bool false, .int .i64 0] 97) :: (b3, cells [z.vr, .int .i64 ((0 : Nat) : Int), v.L, v.F, v.M, .int .i64 (g.words : Nat), v.C, z.vt, .int .i64 z.gens, z.vn] 92) :: (b2, cells [q.c, v.L, v.F, v.M, .int .i64 (g.words : Nat), v.C, .int .i64 (long : Nat), q.u.Q, q.u.ow, q.u.di, .int .i64 (pgI m.G), .int .i64 (m.G.at_ : Nat), q.h, .int .i64 (m.root : Nat), .bool m.act, .int .i64 (m.steps : Nat)] 97) :: F)) (fun s => KmD w0 (s.N ++ D) s.q (so.getD m)) ?_ ?_
   ·skip
    refine zak ?_
    refine K.drawn (_) [(0, 1), (1, 1), (2, 1), (3, 1), (4, 1), (5, 1), (6, 1), (7, 3), (8, 1), (9, 1), (10, 1), (11, 2), (12, 2), (13, 0)] (by kernel_rfl) (by kernel_rfl) (by kernel_rfl) (by kernel_rfl) (by kernel_rfl) (by kernel_rfl) byPart ?_
    refine ze7 ?_
    refine ze7 ?_
    refine zO ?_
    refine zO ?_
    refine zfE ?_
    refine zaO ?_
    refine KD.fork2 (x := 7) (y := 11) (o1 := [(8, 1), (9, 1), (10, 1), (11, 2), (12, 2), (13, 0)]) (o2 := [(7, 2), (8, 0), (9, 0), (10, 1), (12, 2), (13, 0)]) (by kernel_rfl) rfl rfl (by kernel_rfl) (by kernel_rfl) ?_ ?_
    ·refine zcG fun T hT => ?_
     refine (CallV.part (CallV.fn (hs _)) byPart).mono ?_
     rintro _ _ ⟨q', N, hK', rfl, rfl⟩
     have p5 := hK'.G.o1
     have p6 := hK'.G.o2
     have p7 := hK'.G.o3
     have p8 := hK'.oc
     have p9 := hK'.oh
     refine zi ?_
     clear hT T
     refine zO ?_
     refine zdG ?_
     refine zdG ?_
     refine zeI ?_; intro b10
     refine zdl ?_
     exact KE.meet ⟨q', N, b10⟩ bySub (by unfold kmL; simp only [List.append_assoc]; exact byPart) hK'
    ·(refine ActK.e rfl (Eff.alloc rfl) ?_; rintro _ _ ⟨b10, rfl, rfl⟩; refine ⟨byPart, ?_⟩)
     refine zl fun T hT => ?_
     refine (CallV.part (CallV.fn (hs _)) byPart).mono ?_
     rintro _ _ ⟨q', N, hK', rfl, rfl⟩
     have p5 := hK'.G.o1
     have p6 := hK'.G.o2
     have p7 := hK'.G.o3
     have p8 := hK'.oc
     have p9 := hK'.oh
     refine zi ?_
     clear hT T
     refine zb7 ?_
     refine zdl ?_
     exact KE.meet ⟨q', N, b10⟩ bySub (by unfold kmL; simp only [List.append_assoc]; exact byPart) hK'
   ·rintro ⟨q', N, bb⟩ hK'
    dsimp only at hK' ⊢
    have p5 := hK'.G.o1
    have p6 := hK'.G.o2
    have p7 := hK'.G.o3
    have p8 := hK'.oc
    have p9 := hK'.oh
    unfold kmL
    cases so with
    | some m2 =>
     have he := hhit i' u m2 hu hno hso
     rw [he]
     simp only [Option.isSome, Option.getD]
     refine zbt ?_
     refine zI ?_
     refine zcJ ?_
     refine zgo ?_
     exact KE.fin (H' := N ++ (D ++ F)) byMarks rfl byRes (by simp only [List.append_assoc]; exact byPart) ⟨q', N, hK', rfl, rfl⟩
    | none =>
     simp only [Option.isSome, Option.getD]
     refine zbt ?_
     refine zgy ?_
     exact KE.again ⟨i' + 1⟩ bySub (by simp only [List.append_assoc]; exact byPart) ⟨hlt3, fun j u' (hj : j < i' + 1) hu' => by
      rcases Nat.lt_or_ge j i' with h | h
      ·exact hno j u' h hu'
      ·have : j = i' := by omega
       subst this
       rw [hu] at hu'; cases hu'; exact hso⟩ (by show 3 - (i' + 1) < 3 - i'; omega)
  ·have hlt3' : ¬ ((i' : Nat) : Int) < 3 := by omega
   have he : helpM g long W m = none := hend fun j u hj hu => hno j u (by omega) hu
   rw [he]
   simp only [Option.isSome, Option.getD]
   refine zv ?_
   refine zfp ?_
   refine zck ?_
   exact zfc
end
open Go.RowKit
set_option maxRecDepth 10000
section
variable {w0 : World} {D F : Heap} {v : PlV} {g : PlG} {long : Nat} {q : KmV} {m : MaP} {W : MwP} {z : KwV}
set_option maxHeartbeats 4000000 in
theorem rkDone_K (ok : PlOk g) (hK : KmD w0 D q m) (hm : MaOk g long W m) (hlg : long ≤ 64) (hW : KwD w0 D v g z W) :
  Call Tryz.prog w0 133 [.agg (kmL v g long q m).toArray, .agg (kwL v g z).toArray] (D ++ F) (fun r H' => r = .bool (doneM g W m) ∧ H' = D ++ F) := by
 have hP := hW.B.p
 have q1 := hP.oL
 have q2 := hP.oF
 have q3 := hP.oM
 have q4 := hP.oC
 have q5 := hK.G.o1
 have q6 := hK.G.o2
 have q7 := hK.G.o3
 have q8 := hK.oc
 have q9 := hK.oh
 have r5 := hW.B.m.o
 have r6 := hW.oT
 have r7 := hW.oN
 have hH := hK.H
 have h9 := hm.hs
 have hroots := fun A => rkroots_K (w0 := w0) (D := D) (F := A) hW
 have hem := fun A => ryEmpty_K (w0 := w0) (D := D) (F := A) hP hK.G hm.G ok
 unfold gyL at hem
 unfold kwL at hroots
 unfold kmL kwL
 refine Call.enter2 (n := 33) (by kernel_rfl) Tryz.func133 rfl rfl rfl ?_
 refine zb3 ?_; intro b2 b3
 refine zcn ?_
 refine K.loopT (σ := HpI) [(2, _), (3, _)] (fun s kp_ => (5, .int .i64 (s.i : Nat)) :: kp_) (fun s => D ++ ((b3, cells [z.vr, .int .i64 ((0 : Nat) : Int), v.L, v.F, v.M, .int .i64 (g.words : Nat), v.C, z.vt, .int .i64 z.gens, z.vn] 92) :: (b2, cells [q.c, v.L, v.F, v.M, .int .i64 (g.words : Nat), v.C, .int .i64 (long : Nat), q.u.Q, q.u.ow, q.u.di, .int .i64 (pgI m.G), .int .i64 (m.G.at_ : Nat), q.h, .int .i64 (m.root : Nat), .bool m.act, .int .i64 (m.steps : Nat)] 97) :: F)) (fun s => s.i ≤ m.hs.length ∧ ∀ j, j < s.i → (handA m j).is = false) (fun s => m.hs.length - s.i) (⟨0⟩) bySub byPart (⟨Nat.zero_le _, fun j h => absurd h (Nat.not_lt_zero _)⟩) ?_
 rintro ⟨i⟩ ⟨hi, hno⟩
 dsimp only at hi hno ⊢
 by_cases hlt : i < m.hs.length
 ·obtain ⟨h, hh⟩ := get_of_lt hlt
  have hha := handA_at hh
  obtain ⟨hsl, hfi, his⟩ := h
  cases his with
  | true =>
   have hf := fullM_is hlt (by rw [hha]) hno
   have hd : doneM g W m = false := by unfold doneM; rw [hf]; simp
   rw [hd]
   refine zv ?_
   refine zeh ?_
   refine zk ?_
   refine za3 ?_
   refine zeC ?_
   refine zfB ?_
   refine zI ?_
   refine zgo ?_
   exact zaU
  | false =>
   refine zv ?_
   refine zeh ?_
   refine zk ?_
   refine za3 ?_
   refine zeC ?_
   refine zfB ?_
   refine zgy ?_
   exact KE.again ⟨i + 1⟩ bySub byPart ⟨hlt, fun j (hj : j < i + 1) => by
    rcases Nat.lt_or_ge j i with h | h
    ·exact hno j h
    ·have : j = i := by omega
     subst this; rw [hha]⟩ (by show m.hs.length - (i + 1) < m.hs.length - i; omega)
 ·have hf : fullM m = none := fullM_no fun j hj => hno j (by omega)
  have hd : doneM g W m = (m.act && (decide (W.T.length + g.slots ≤ m.root) && emptyG m.G)) := by unfold doneM; rw [hf]; rfl
  rw [hd]
  clear hno hd
  cases ha : m.act with
  | false =>
   refine zv ?_
   refine zeh ?_
   refine zk ?_
   refine zdd ?_
   refine zbO ?_
   refine zbC ?_
   refine zkZ ?_
   refine zb5 ?_
   refine zgF ?_
   refine zeg ?_
   refine zbD ?_
   refine za9 ?_
   refine zo ?_
   refine zgd ?_
   refine zeg ?_
   refine za9 ?_
   exact zdU
  | true =>
   by_cases hr : W.T.length + g.slots ≤ m.root
   ·have hr' : ((m.root : Nat) : Int) ≥ ((W.T.length + g.slots : Nat) : Int) := by omega
    rw [decide_eq_true hr]
    refine zv ?_
    refine zeh ?_
    refine zk ?_
    refine zdd ?_
    refine zbO ?_
    refine zbC ?_
    refine zkZ ?_
    refine zb5 ?_
    refine KD.y1 rfl rfl rfl rfl (Val.fieldAddr0 (k := 13) rfl rfl) ?_
    refine zhB ?_
    refine zkt ?_
    refine zb2 fun T hT => ?_
    refine zgZ ?_
    refine zab ?_
    clear hT T
    refine KD.y0 rfl rfl rfl rfl (Val.isT (Val.geq rfl rfl) byLt) ?_
    refine zcS ?_
    refine zgU ?_
    refine zkt ?_
    refine zb2 fun T hT => ?_
    refine (CallV.part (CallV.fn (hem _)) byPart).mono ?_
    refine zab ?_
    clear hT T
    refine zbj ?_
    exact zdU
   ·have hr' : ¬ ((m.root : Nat) : Int) ≥ ((W.T.length + g.slots : Nat) : Int) := by omega
    rw [decide_eq_false hr]
    refine zv ?_
    refine zeh ?_
    refine zk ?_
    refine zdd ?_
    refine zbO ?_
    refine zbC ?_
    refine zkZ ?_
    refine zb5 ?_
    refine KD.y1 rfl rfl rfl rfl (Val.fieldAddr0 (k := 13) rfl rfl) ?_
    refine zhB ?_
    refine zkt ?_
    refine zb2 fun T hT => ?_
    refine zgZ ?_
    refine zab ?_
    clear hT T
    refine zj0 ?_
    refine zcS ?_
    refine zgd ?_
    refine zeg ?_
    refine za9 ?_
    exact zdU
set_option maxHeartbeats 4000000 in
theorem rkNew_K {nw : Nat} (ok : PlOk g) (hW : KwD w0 D v g z W) (hnw : nw ≤ 8) :
  Call Tryz.prog w0 101 [.agg (kwL v g z).toArray, .int .i64 (nw : Nat), .int .i64 (long : Nat)] (D ++ F) (KmG w0 D F v g long (newM g nw false) id) := by
 have hP := hW.B.p
 have hL := hP.L
 have q1 := hP.oL
 have q2 := hP.oF
 have q3 := hP.oM
 have q4 := hP.oC
 have r5 := hW.B.m.o
 have r6 := hW.oT
 have r7 := hW.oN
 have hLl := L_len (g := g)
 have hsl := ok.slots
 have he : ((nw : Nat) : Int) + 1 = ((nw + 1 : Nat) : Int) := by omega
 have hnew := fun A => ryNew_K (w0 := w0) (D := D) (F := A) (long := long) hP ok
 unfold gyL plL at hnew
 unfold KmG id kwL
 refine Call.enter3 (n := 22) (by kernel_rfl) Tryz.func101 rfl rfl rfl ?_
 refine zaq ?_; intro b3 b6
 refine zcF ?_
 refine zak ?_
 refine K.drawn ((b3, cells [z.vr, .int .i64 ((0 : Nat) : Int), v.L, v.F, v.M, .int .i64 (g.words : Nat), v.C, z.vt, .int .i64 z.gens, z.vn] 92) :: D) [(0, 1), (1, 1), (2, 1), (3, 1), (4, 1), (6, 1), (7, 1), (8, 1), (9, 1), (11, 1), (12, 1), (5, 3), (10, 3), (13, 2), (14, 0), (15, 2)] (by kernel_rfl) (by kernel_rfl) (by kernel_rfl) (by kernel_rfl) (by kernel_rfl) (by kernel_rfl) byPart ?_
 refine zh4 ?_
 refine zef ?_
 refine zd4 ?_
 refine zjd ?_
 refine zh4 ?_
 refine zef ?_
 refine ze7 ?_
 refine zO ?_
 refine zO ?_
 refine zlo ?_
 refine KD.fork3 (x := 5) (y := 10) (z := 13) (o1 := [(10, 3), (13, 2), (14, 0), (15, 2)]) (o2 := [(5, 3), (13, 2), (14, 0), (15, 2)]) (o3 := [(5, 3), (10, 2), (14, 0), (15, 2)]) (by kernel_rfl) rfl rfl rfl (by kernel_rfl) (by kernel_rfl) (by kernel_rfl) ?_ ?_ ?_
 ·(refine ActK.e rfl (Eff.makeR (E := bE) (x0 := 0) rfl rfl rfl rfl rfl rfl (by first | assumption | omega | (simp <;> fail) | (simp; omega))) ?_; rintro _ _ ⟨o12, ok12, rfl, rfl⟩; refine ⟨byPart, ?_⟩)
  refine KD.fork2 (x := 10) (y := 13) (o1 := [(13, 2), (14, 0), (15, 2)]) (o2 := [(10, 2), (14, 0), (15, 2)]) (by kernel_rfl) rfl rfl (by kernel_rfl) (by kernel_rfl) ?_ ?_
  ·refine zcG fun T hT => ?_
   refine zhC ?_
   rintro _ _ ⟨u', N, hG', rfl, rfl⟩
   have p5 := hG'.o1
   have p6 := hG'.o2
   have p7 := hG'.o3
   refine zi ?_
   clear hT T
   refine KD.e rfl rfl (Eff.makeR (n := nw + 1) (E := hanE) (x0 := hand0) (congrArg (fun q => some (Value.int .i64 q)) he) (congrArg (fun q => some (Value.int .i64 q)) he) rfl rfl rfl rfl (by omega)) ?_; rintro _ _ ⟨o20, ok20, rfl, rfl⟩; refine ⟨byPart, ?_⟩
   refine zgK ?_
   refine KE.fin (H' := (oH bE 5 (List.replicate g.L.length 0) o12 ++ (oH hanE 217 (List.replicate (nw + 1) hand0) o20 ++ N)) ++ (D ++ F)) byMarks rfl byRes (by simp only [List.append_assoc]; exact byPart) ⟨⟨oV o12 (List.replicate g.L.length (0 : Int)).length, u', oV o20 (List.replicate (nw + 1) hand0).length⟩, oH bE 5 (List.replicate g.L.length 0) o12 ++ (oH hanE 217 (List.replicate (nw + 1) hand0) o20 ++ N), ⟨by show Sli _ _ _ _ (List.replicate g.slots 0); rw [← hLl]; exact Sli.own (by simp only [List.append_assoc]; exact byTakeL) ok12 rfl, hG'.part (by simp only [List.append_assoc]; exact byPart), Sli.own (by simp only [List.append_assoc]; exact byTakeL) ok20 rfl, oV_one _ _, oV_one _ _⟩, rfl, rfl⟩
  ·(refine ActK.e rfl (Eff.makeR (n := nw + 1) (E := hanE) (x0 := hand0) (congrArg (fun q => some (Value.int .i64 q)) he) (congrArg (fun q => some (Value.int .i64 q)) he) rfl rfl rfl rfl (by omega)) ?_; rintro _ _ ⟨o20, ok20, rfl, rfl⟩; refine ⟨byPart, ?_⟩)
   refine zl fun T hT => ?_
   refine zhC ?_
   rintro _ _ ⟨u', N, hG', rfl, rfl⟩
   have p5 := hG'.o1
   have p6 := hG'.o2
   have p7 := hG'.o3
   refine zi ?_
   clear hT T
   refine zgK ?_
   refine KE.fin (H' := (oH bE 5 (List.replicate g.L.length 0) o12 ++ (oH hanE 217 (List.replicate (nw + 1) hand0) o20 ++ N)) ++ (D ++ F)) byMarks rfl byRes (by simp only [List.append_assoc]; exact byPart) ⟨⟨oV o12 (List.replicate g.L.length (0 : Int)).length, u', oV o20 (List.replicate (nw + 1) hand0).length⟩, oH bE 5 (List.replicate g.L.length 0) o12 ++ (oH hanE 217 (List.replicate (nw + 1) hand0) o20 ++ N), ⟨by show Sli _ _ _ _ (List.replicate g.slots 0); rw [← hLl]; exact Sli.own (by simp only [List.append_assoc]; exact byTakeL) ok12 rfl, hG'.part (by simp only [List.append_assoc]; exact byPart), Sli.own (by simp only [List.append_assoc]; exact byTakeL) ok20 rfl, oV_one _ _, oV_one _ _⟩, rfl, rfl⟩
 ·refine zcG fun T hT => ?_
  refine zhC ?_
  rintro _ _ ⟨u', N, hG', rfl, rfl⟩
  have p5 := hG'.o1
  have p6 := hG'.o2
  have p7 := hG'.o3
  refine zi ?_
  clear hT T
  refine KD.fork2 (x := 5) (y := 13) (o1 := [(13, 2), (14, 0), (15, 2)]) (o2 := [(5, 2), (14, 0), (15, 2)]) (by kernel_rfl) rfl rfl (by kernel_rfl) (by kernel_rfl) ?_ ?_
  ·(refine ActK.e rfl (Eff.makeR (E := bE) (x0 := 0) rfl rfl rfl rfl rfl rfl (by first | assumption | omega | (simp <;> fail) | (simp; omega))) ?_; rintro _ _ ⟨o12, ok12, rfl, rfl⟩; refine ⟨byPart, ?_⟩)
   refine KD.e rfl rfl (Eff.makeR (n := nw + 1) (E := hanE) (x0 := hand0) (congrArg (fun q => some (Value.int .i64 q)) he) (congrArg (fun q => some (Value.int .i64 q)) he) rfl rfl rfl rfl (by omega)) ?_; rintro _ _ ⟨o20, ok20, rfl, rfl⟩; refine ⟨byPart, ?_⟩
   refine zgK ?_
   refine KE.fin (H' := (oH bE 5 (List.replicate g.L.length 0) o12 ++ (oH hanE 217 (List.replicate (nw + 1) hand0) o20 ++ N)) ++ (D ++ F)) byMarks rfl byRes (by simp only [List.append_assoc]; exact byPart) ⟨⟨oV o12 (List.replicate g.L.length (0 : Int)).length, u', oV o20 (List.replicate (nw + 1) hand0).length⟩, oH bE 5 (List.replicate g.L.length 0) o12 ++ (oH hanE 217 (List.replicate (nw + 1) hand0) o20 ++ N), ⟨by show Sli _ _ _ _ (List.replicate g.slots 0); rw [← hLl]; exact Sli.own (by simp only [List.append_assoc]; exact byTakeL) ok12 rfl, hG'.part (by simp only [List.append_assoc]; exact byPart), Sli.own (by simp only [List.append_assoc]; exact byTakeL) ok20 rfl, oV_one _ _, oV_one _ _⟩, rfl, rfl⟩
  ·(refine ActK.e rfl (Eff.makeR (n := nw + 1) (E := hanE) (x0 := hand0) (congrArg (fun q => some (Value.int .i64 q)) he) (congrArg (fun q => some (Value.int .i64 q)) he) rfl rfl rfl rfl (by omega)) ?_; rintro _ _ ⟨o20, ok20, rfl, rfl⟩; refine ⟨byPart, ?_⟩)
   refine KD.e rfl rfl (Eff.makeR (E := bE) (x0 := 0) rfl rfl rfl rfl rfl rfl (by first | assumption | omega | (simp <;> fail) | (simp; omega))) ?_; rintro _ _ ⟨o12, ok12, rfl, rfl⟩; refine ⟨byPart, ?_⟩
   refine zgK ?_
   refine KE.fin (H' := (oH bE 5 (List.replicate g.L.length 0) o12 ++ (oH hanE 217 (List.replicate (nw + 1) hand0) o20 ++ N)) ++ (D ++ F)) byMarks rfl byRes (by simp only [List.append_assoc]; exact byPart) ⟨⟨oV o12 (List.replicate g.L.length (0 : Int)).length, u', oV o20 (List.replicate (nw + 1) hand0).length⟩, oH bE 5 (List.replicate g.L.length 0) o12 ++ (oH hanE 217 (List.replicate (nw + 1) hand0) o20 ++ N), ⟨by show Sli _ _ _ _ (List.replicate g.slots 0); rw [← hLl]; exact Sli.own (by simp only [List.append_assoc]; exact byTakeL) ok12 rfl, hG'.part (by simp only [List.append_assoc]; exact byPart), Sli.own (by simp only [List.append_assoc]; exact byTakeL) ok20 rfl, oV_one _ _, oV_one _ _⟩, rfl, rfl⟩
 ·(refine ActK.e rfl (Eff.makeR (n := nw + 1) (E := hanE) (x0 := hand0) (congrArg (fun q => some (Value.int .i64 q)) he) (congrArg (fun q => some (Value.int .i64 q)) he) rfl rfl rfl rfl (by omega)) ?_; rintro _ _ ⟨o20, ok20, rfl, rfl⟩; refine ⟨byPart, ?_⟩)
  refine KD.fork2 (x := 5) (y := 10) (o1 := [(10, 2), (14, 0), (15, 2)]) (o2 := [(5, 2), (14, 0), (15, 2)]) (by kernel_rfl) rfl rfl (by kernel_rfl) (by kernel_rfl) ?_ ?_
  ·(refine ActK.e rfl (Eff.makeR (E := bE) (x0 := 0) rfl rfl rfl rfl rfl rfl (by first | assumption | omega | (simp <;> fail) | (simp; omega))) ?_; rintro _ _ ⟨o12, ok12, rfl, rfl⟩; refine ⟨byPart, ?_⟩)
   refine zl fun T hT => ?_
   refine zhC ?_
   rintro _ _ ⟨u', N, hG', rfl, rfl⟩
   have p5 := hG'.o1
   have p6 := hG'.o2
   have p7 := hG'.o3
   refine zi ?_
   clear hT T
   refine zgK ?_
   refine KE.fin (H' := (oH bE 5 (List.replicate g.L.length 0) o12 ++ (oH hanE 217 (List.replicate (nw + 1) hand0) o20 ++ N)) ++ (D ++ F)) byMarks rfl byRes (by simp only [List.append_assoc]; exact byPart) ⟨⟨oV o12 (List.replicate g.L.length (0 : Int)).length, u', oV o20 (List.replicate (nw + 1) hand0).length⟩, oH bE 5 (List.replicate g.L.length 0) o12 ++ (oH hanE 217 (List.replicate (nw + 1) hand0) o20 ++ N), ⟨by show Sli _ _ _ _ (List.replicate g.slots 0); rw [← hLl]; exact Sli.own (by simp only [List.append_assoc]; exact byTakeL) ok12 rfl, hG'.part (by simp only [List.append_assoc]; exact byPart), Sli.own (by simp only [List.append_assoc]; exact byTakeL) ok20 rfl, oV_one _ _, oV_one _ _⟩, rfl, rfl⟩
  ·refine zcG fun T hT => ?_
   refine zhC ?_
   rintro _ _ ⟨u', N, hG', rfl, rfl⟩
   have p5 := hG'.o1
   have p6 := hG'.o2
   have p7 := hG'.o3
   refine zi ?_
   clear hT T
   refine KD.e rfl rfl (Eff.makeR (E := bE) (x0 := 0) rfl rfl rfl rfl rfl rfl (by first | assumption | omega | (simp <;> fail) | (simp; omega))) ?_; rintro _ _ ⟨o12, ok12, rfl, rfl⟩; refine ⟨byPart, ?_⟩
   refine zgK ?_
   refine KE.fin (H' := (oH bE 5 (List.replicate g.L.length 0) o12 ++ (oH hanE 217 (List.replicate (nw + 1) hand0) o20 ++ N)) ++ (D ++ F)) byMarks rfl byRes (by simp only [List.append_assoc]; exact byPart) ⟨⟨oV o12 (List.replicate g.L.length (0 : Int)).length, u', oV o20 (List.replicate (nw + 1) hand0).length⟩, oH bE 5 (List.replicate g.L.length 0) o12 ++ (oH hanE 217 (List.replicate (nw + 1) hand0) o20 ++ N), ⟨by show Sli _ _ _ _ (List.replicate g.slots 0); rw [← hLl]; exact Sli.own (by simp only [List.append_assoc]; exact byTakeL) ok12 rfl, hG'.part (by simp only [List.append_assoc]; exact byPart), Sli.own (by simp only [List.append_assoc]; exact byTakeL) ok20 rfl, oV_one _ _, oV_one _ _⟩, rfl, rfl⟩
set_option maxHeartbeats 4000000 in
theorem rkStart_K (ok : PlOk g) (hK : KmD w0 D q m) (hm : MaOk g long W m) (hW : KwD w0 D v g z W) :
  Call Tryz.prog w0 47 [.agg (kmL v g long q m).toArray, .agg (kwL v g z).toArray] (D ++ F) (KmG w0 D F v g long (startM g m) id) := by
 have hP := hW.B.p
 have q1 := hP.oL
 have q2 := hP.oF
 have q3 := hP.oM
 have q4 := hP.oC
 have q5 := hK.G.o1
 have q6 := hK.G.o2
 have q7 := hK.G.o3
 have q8 := hK.oc
 have q9 := hK.oh
 have r5 := hW.B.m.o
 have r6 := hW.oT
 have r7 := hW.oN
 have hH := hK.H
 have h9 := hm.hs
 obtain ⟨nw, hnw⟩ : ∃ nw : Nat, nw = m.hs.length - 1 := ⟨_, rfl⟩
 have he : ((m.hs.length : Nat) : Int) - 1 = ((nw : Nat) : Int) := by omega
 have hnew := fun A => rkNew_K (w0 := w0) (D := D) (F := A) (long := long) (nw := nw) ok hW (by omega)
 unfold startM
 rw [← hnw]
 unfold KmG id at *
 unfold kwL at hnew
 unfold kmL at *
 unfold kwL
 refine Call.enter2 (n := 17) (by kernel_rfl) Tryz.func47 rfl rfl rfl ?_
 refine zb4 ?_; intro b2 b3 b4
 refine zb9 ?_
 refine zau ?_
 refine zkn ?_
 (first | (refine KL.v rfl (Val.fieldSl (k := 12) rfl rfl) ?_) | (refine KL.v rfl (Val.fieldAddr0 (k := 12) rfl rfl) ?_) | (refine KL.v rfl (Val.fieldAddrZ rfl rfl) ?_) | (refine KL.v rfl (Val.fieldAddr (k := 12) rfl rfl) ?_))
 refine zbN ?_
 refine zia ?_
 refine zhQ ?_
 rw [he]
 refine zdH ?_
 (first | (refine KL.v rfl (Val.fieldSl (k := 5) rfl rfl) ?_) | (refine KL.v rfl (Val.fieldAddr0 (k := 5) rfl rfl) ?_) | (refine KL.v rfl (Val.fieldAddrZ rfl rfl) ?_) | (refine KL.v rfl (Val.fieldAddr (k := 5) rfl rfl) ?_))
 refine zbN ?_
 refine zg fun T hT => ?_
 refine zhC ?_
 rintro _ _ ⟨q', N, hK', rfl, rfl⟩
 have p5 := hK'.G.o1
 have p6 := hK'.G.o2
 have p7 := hK'.G.o3
 have p8 := hK'.oc
 have p9 := hK'.oh
 refine zd ?_
 clear hT T
 refine zay ?_; intro b5
 refine zy ?_
 refine zaZ ?_
 refine zaA ?_
 refine zbx ?_
 exact KE.fin byMarks rfl byRes byPart ⟨q', N, ⟨hK'.C, hK'.G, hK'.H, p8, p9⟩, rfl, rfl⟩
end
set_option maxRecDepth 10000
section
variable {w0 : World} {F : Heap} {k : MkM} {B : BoM} {T : TbM} {N : PiM} {W : MwP} {m : MaP}
theorem mkStepI_K {hd v : Int} (hG : Glob w0) (hp : MpR k B T N W) (ok : MkOk k B.p) (hR : MkR k B.p m) (hm : MaOk B.p.g k.g.ring.length W m) (hst : m.steps ≤ 1000000000) (hv : 0 ≤ v ∧ v < 256) :
  Call Tryz.prog w0 37 [.pointer (some ⟨k.b, 0, none⟩), .int .i64 hd, .int .u8 v] (markH k B.p ++ (planH B.p ++ (seenH B T N ++ F))) (StepP k B T N F m (stepM B.p.g k.g.ring.length W m hd v)) := by
 obtain ⟨u, rfl⟩ : ∃ u : Nat, v = u := ⟨v.toNat, by omega⟩
 exact mkStep_K hG hp ok hR hm hst (by omega)
set_option maxHeartbeats 4000000 in
theorem mkHelp_K (hG : Glob w0) (hp : MpR k B T N W) (ok : MkOk k B.p) (hR : MkR k B.p m) (hm : MaOk B.p.g k.g.ring.length W m) (hst : m.steps ≤ 1000000000) :
  Call Tryz.prog w0 38 [.pointer (some ⟨k.b, 0, none⟩)] (markH k B.p ++ (planH B.p ++ (seenH B T N ++ F))) (StepP k B T N F m (helpM B.p.g k.g.ring.length W m)) := by
 have hac := fun A => mkActive_K (w0 := w0) (F := A) (k := k) (p := B.p)
 have hact := hR.act
 have hhs := hR.hs
 have hl9 := ok.hs
 have ho := ok.o
 have hml : m.hs.length = k.hs.length := by rw [hhs]
 have hstep := fun A (k' : MkM) (i : Nat) (u : Int) (hu : 0 ≤ u ∧ u < 256) (kok : MkOk k' B.p) (kto : MkTo k k') (kR : MkR k' B.p m) => mkStepI_K (w0 := w0) (F := A) (hd := (i : Nat)) hG (hp.to kto) kok kR (by rw [kto.l]; exact hm) hst hu
 have hlen : ∀ k' : MkM, MkTo k k' → k'.g.ring.length = k.g.ring.length := fun k' h => h.l
 unfold StepP at hstep ⊢
 cases ha : k.act with
 | false =>
  have hn : helpM B.p.g k.g.ring.length W m = none := help_idle (by rw [← hact]; exact ha)
  rw [hn]
  simp only [Option.isSome, Option.getD]
  simp only [ha] at hac
  refine zku ?_
  refine zeR ?_; intro b1 b2
  refine zbL fun T hT => ?_
  refine zcA ?_
  clear hT T
  refine zat ?_
  refine zcR ?_
  refine zaH ?_
  exact KE.fin (H' := markH k B.p ++ (planH B.p ++ (seenH B T N ++ F))) byMarks rfl byRes (by first | exact byPart | (simp only [markH_app, seenH_app]; exact byPart)) ⟨rfl, k, ok, MkTo.refl k, hR, rfl⟩
 | true =>
  simp only [ha] at hac
  have hown : ((k.hs.length : Nat) : Int) - 1 = ((k.hs.length - 1 : Nat) : Int) := by omega
  obtain ⟨own, hod⟩ : ∃ own : Nat, own = k.hs.length - 1 := ⟨_, rfl⟩
  rw [← hod] at hown
  have hhm : helpM B.p.g k.g.ring.length W m = match fullM m with
   | some i => stepM B.p.g k.g.ring.length W m (i : Nat) 3
   | none => match stepM B.p.g k.g.ring.length W m (own : Nat) 2 with
    | some m' => some m'
    | none => match stepM B.p.g k.g.ring.length W m (own : Nat) 1 with
     | some m' => some m'
     | none => stepM B.p.g k.g.ring.length W m (own : Nat) 4 := by
   rw [hod, ← hml]; rfl
  refine zku ?_
  refine zeR ?_; intro b1 b2
  refine zbL fun T hT => ?_
  refine zcA ?_
  clear hT T
  refine zdV ?_
  refine zbL fun T hT => ?_
  refine (CallV.fn mkfull_K).mono ?_
  rintro _ _ ⟨bl, rfl, rfl⟩
  refine zd ?_
  clear hT T
  refine zhf ?_
  refine K.rangeFunc (lb := [.pointer (some ⟨bl, 0, none⟩)]) rfl
   (fun D G => fullM m = none ∧ G = (D, .deferred (some [])) :: (b2, cells [.bool false] 4) :: (b1, cells [.pointer (some ⟨k.b, 0, none⟩)] 30) :: (markH k B.p ++ (planH B.p ++ (seenH B T N ++ F))))
   (fun D c G => c = .ret ∧ ∃ i k', fullM m = some i ∧ MkOk k' B.p ∧ MkTo k k' ∧ MkR k' B.p ((stepM B.p.g k.g.ring.length W m (i : Nat) 3).getD m) ∧ G = (D, .deferred (some [])) :: (b2, cells [.bool (stepM B.p.g k.g.ring.length W m (i : Nat) 3).isSome] 4) :: (b1, cells [.pointer (some ⟨k.b, 0, none⟩)] 30) :: (markH k' B.p ++ (planH B.p ++ (seenH B T N ++ F)))) ?_ ?_ ?_
  ·intro l D rc hyl
   refine (Call.part (mkfull1_K (F := planH B.p ++ (seenH B T N ++ F)) (bl := bl) ok hR.hs
    (fun H' => ∃ i k', fullM m = some i ∧ MkOk k' B.p ∧ MkTo k k' ∧ MkR k' B.p ((stepM B.p.g k.g.ring.length W m (i : Nat) 3).getD m) ∧ H' = (l, .loop (rc .done (some .ret))) :: ((D, .deferred (some [])) :: (b2, cells [.bool (stepM B.p.g k.g.ring.length W m (i : Nat) 3).isSome] 4) :: (b1, cells [.pointer (some ⟨k.b, 0, none⟩)] 30) :: (bl, cells [.pointer (some ⟨k.b, 0, none⟩)] 30) :: (markH k' B.p ++ (planH B.p ++ (seenH B T N ++ F)))))
    (A0 := (l, .loop (rc .ready none)) :: (D, .deferred (some [])) :: (b2, cells [.bool false] 4) :: (b1, cells [.pointer (some ⟨k.b, 0, none⟩)] 30) :: []) ?_) (by simp only [List.cons_append, List.nil_append]; exact byPart)).mono ?_
   ·intro i hf
    have hs3 := fun A => hstep A k i 3 (by decide) ok (MkTo.refl k) hR
    simp only [List.cons_append, List.nil_append]
    refine hyl _ _ _ _ _ (ParS.cons rfl ParS.nil) byTake ?_
    refine zau ?_
    refine zbE ?_
    refine KE.begin byTake ?_
    refine K.block (K.seq (K.region ?_))
    refine zdx fun T hT => ?_
    refine (CallV.part (CallV.fn (hs3 _)) byPart).mono ?_
    rintro _ _ ⟨rfl, k', kok, kto, kR, rfl⟩
    refine zd ?_
    clear hT T
    refine zcR ?_
    refine zfV ?_
    refine KE.part ((l, .loop (rc .busy none)) :: ((D, .deferred (some [])) :: (b2, cells [.bool (stepM B.p.g k.g.ring.length W m (i : Nat) 3).isSome] 4) :: (b1, cells [.pointer (some ⟨k.b, 0, none⟩)] 30) :: (bl, cells [.pointer (some ⟨k.b, 0, none⟩)] 30) :: (markH k' B.p ++ (planH B.p ++ (seenH B T N ++ F))))) byPart ?_
    exact KE.roundR Take.head ⟨rfl, i, k', hf, kok, kto, kR, rfl⟩
   ·rintro _ _ (⟨hno, rfl⟩ | ⟨i, k', hf, kok, kto, kR, rfl⟩)
    ·refine .inl ⟨_, ?_, hno, rfl⟩
     exact ziG
    ·exact .inr ⟨.ret, _, byPart, rfl, i, k', hf, kok, kto, kR, rfl⟩
  ·rintro D G ⟨hf, rfl⟩
   rw [hf] at hhm
   dsimp only at hhm
   have hs2 := fun A => hstep A k own 2 (by decide) ok (MkTo.refl k) hR
   rw [hhm]
   simp only [markH_app, seenH_app]
   refine zff ?_
   refine zk ?_
   refine zac ?_
   refine zem ?_
   refine za6 ?_
   refine zbi ?_
   refine za0 ?_
   rw [hown]
   cases h2 : stepM B.p.g k.g.ring.length W m (own : Nat) 2 with
   | some m2 =>
    simp only [h2, Option.isSome, Option.getD] at hs2 ⊢
    refine zq ?_
    refine zdx fun T hT => ?_
    refine zlI ?_
    rintro _ _ ⟨rfl, k2, kok, kto, kR, rfl⟩
    refine zd ?_
    clear hT T
    refine zdv ?_
    refine zdv ?_
    refine zcR ?_
    exact KE.fin (H' := markH k2 B.p ++ (planH B.p ++ (seenH B T N ++ F))) byMarks rfl byRes (by first | exact byPart | (simp only [markH_app, seenH_app]; exact byPart)) ⟨rfl, k2, kok, kto, kR, by simp only [markH_app, seenH_app]⟩
   | none =>
    simp only [h2, Option.isSome, Option.getD] at hs2 ⊢
    refine zq ?_
    refine zdx fun T hT => ?_
    refine zlI ?_
    rintro _ _ ⟨rfl, k2, kok2, kto2, kR2, rfl⟩
    have hs1 := fun A => hstep A k2 own 1 (by decide) kok2 kto2 kR2
    simp only [hlen k2 kto2, kto2.b] at hs1
    refine zd ?_
    clear hT T
    cases h1 : stepM B.p.g k.g.ring.length W m (own : Nat) 1 with
    | some m1 =>
     simp only [h1, Option.isSome, Option.getD] at hs1 ⊢
     refine zu ?_
     refine ziv ?_
     refine zu ?_
     refine zg fun T hT => ?_
     refine zlJ ?_
     rintro _ _ ⟨rfl, k1, kok, kto, kR, rfl⟩
     refine zd ?_
     clear hT T
     refine zn ?_
     refine zdv ?_
     refine zcR ?_
     exact KE.fin (H' := markH k1 B.p ++ (planH B.p ++ (seenH B T N ++ F))) byMarks rfl byRes (by first | exact byPart | (simp only [markH_app, seenH_app]; exact byPart)) ⟨rfl, k1, kok, kto2.trans kto, kR, by simp only [markH_app, seenH_app]⟩
    | none =>
     simp only [h1, Option.isSome, Option.getD] at hs1 ⊢
     refine zu ?_
     refine ziv ?_
     refine zu ?_
     refine zg fun T hT => ?_
     refine zlJ ?_
     rintro _ _ ⟨rfl, k1, kok1, kto1, kR1, rfl⟩
     have kto12 := kto2.trans kto1
     have hs4 := fun A => hstep A k1 own 4 (by decide) kok1 kto12 kR1
     simp only [hlen k1 kto12, kto12.b] at hs4
     refine zd ?_
     clear hT T
     refine zbf ?_
     refine ziv ?_
     refine zu ?_
     refine zg fun T hT => ?_
     refine (CallV.part (CallV.fn (hs4 _)) (by first | exact byPart | (simp only [markH_app, seenH_app]; exact byPart))).mono ?_
     rintro _ _ ⟨rfl, k4, kok, kto, kR, rfl⟩
     refine zd ?_
     clear hT T
     refine zn ?_
     refine zcR ?_
     exact KE.fin (H' := markH k4 B.p ++ (planH B.p ++ (seenH B T N ++ F))) byMarks rfl byRes (by first | exact byPart | (simp only [markH_app, seenH_app]; exact byPart)) ⟨rfl, k4, kok, kto12.trans kto, kR, by simp only [markH_app, seenH_app]⟩
  ·rintro D c G ⟨rfl, i, k', hf, kok, kto, kR, rfl⟩
   rw [hf] at hhm
   dsimp only at hhm
   rw [hhm]
   refine zea ?_
   refine zdO ?_
   exact KE.fin byMarks rfl byRes byPart ⟨rfl, k', kok, kto, kR, rfl⟩
theorem mktouchB_K {s : Nat} {c : Int} {g : FuncId} {fi : List Value} {R : Heap → Prop} (ok : MkOk k B.p) (hc : (tiC k.c)[s]? = some c)
  (hdo : k.act = true → CallV Tryz.prog w0 (.func (.func g) fi.toArray #[]) [.int .i64 (s : Nat)] (markH k B.p ++ F) (fun r H' => r = .tuple #[] ∧ R H')) :
  Call Tryz.prog w0 109 [.pointer (some ⟨k.b, 0, none⟩), .int .i64 (s : Nat), .func (.func g) fi.toArray #[]] (markH k B.p ++ F) (fun r H' => r = .int .i64 0 ∧ (k.act = true → R H') ∧ (k.act = false → H' = markH k B.p ++ F)) := by
 cases ha : k.act with
 | true =>
  have h1 := hdo ha
  refine zio ?_
  refine zcM ?_
  refine zh fun T hT => ?_
  refine (CallV.fn (mkOf_K ok hc)).mono ?_
  rintro _ _ ⟨rfl, rfl⟩
  refine zd ?_
  clear hT T
  rw [markH_app, ha]
  refine zG ?_
  refine zY ?_
  refine zhM ?_
  refine zcr ?_
  refine zm ?_
  refine zk ?_
  refine zC ?_
  refine zbz ?_
  refine zbb fun T hT => ?_
  refine (CallV.part h1 (by rw [markH_app, ha]; exact byPart)).mono ?_
  rintro _ H' ⟨rfl, hR⟩
  refine zd ?_
  clear hT T
  refine zy ?_
  refine zbV ?_
  exact KE.fin byMarks rfl byRes byPart ⟨rfl, fun _ => hR, fun h => by cases h⟩
 | false =>
  refine zio ?_
  refine zcM ?_
  refine zh fun T hT => ?_
  refine (CallV.fn (mkOf_K ok hc)).mono ?_
  rintro _ _ ⟨rfl, rfl⟩
  refine zd ?_
  clear hT T
  rw [markH_app, ha]
  refine zG ?_
  refine zY ?_
  refine zhM ?_
  refine zcr ?_
  refine zm ?_
  refine zk ?_
  refine zC ?_
  refine zM ?_
  refine zbV ?_
  exact KE.fin (H' := markH k B.p ++ F) byMarks rfl byRes (by rw [markH_app, ha]; exact byPart) ⟨rfl, fun h => (by cases h), fun _ => by rw [markH_app, ha]⟩
theorem mkShade_K {s : Nat} (ok : MkOk k B.p) (hR : MkR k B.p m) (hs : s < B.p.g.slots) :
  Call Tryz.prog w0 35 [.pointer (some ⟨k.b, 0, none⟩), .int .i64 (s : Nat)] (markH k B.p ++ (planH B.p ++ F))
   (fun r H' => r = .int .i64 0 ∧ ∃ k', MkOk k' B.p ∧ MkTo k k' ∧ MkR k' B.p (shdM B.p.g k.g.ring.length m (s : Nat)) ∧ H' = markH k' B.p ++ (planH B.p ++ F)) := by
 obtain ⟨c, hc⟩ := tiC_get ok hs
 have hact := hR.act
 unfold shdM
 rw [← hact]
 refine zkv ?_
 refine zbH ?_
 refine zbI ?_
 refine zby fun T hT => ?_
 refine (CallV.fn (mktouchB_K (fi := [.pointer (some ⟨k.b, 0, none⟩)]) (R := fun H' => ∃ k', MkOk k' B.p ∧ MkTo k k' ∧ MkR k' B.p (shadeM B.p.g k.g.ring.length m (s : Nat)) ∧ H' = markH k' B.p ++ (planH B.p ++ F)) ok hc fun _ => CallV.bound (first := [.pointer (some ⟨k.b, 0, none⟩)]) (mkshade_K ok hR hs))).mono ?_
 rintro _ H' ⟨rfl, h1, h2⟩
 cases ha : k.act with
 | true =>
  obtain ⟨k', kok, kto, kR, rfl⟩ := h1 ha
  refine zd ?_
  clear hT T
  rw [ha]
  refine zt ?_
  exact KE.fin byMarks rfl byRes byPart ⟨rfl, k', kok, kto, kR, rfl⟩
 | false =>
  obtain rfl := h2 ha
  refine zd ?_
  clear hT T
  rw [ha]
  refine zt ?_
  exact KE.fin byMarks rfl byRes byPart ⟨rfl, k, ok, MkTo.refl k, hR, rfl⟩
theorem mkSteps_K : Call Tryz.prog w0 45 [.pointer (some ⟨k.b, 0, none⟩)] (markH k B.p ++ F) (fun r H' => r = .int .i64 (k.steps : Nat) ∧ H' = markH k B.p ++ F) := by
 refine Call.enter1 (n := 9) (by kernel_rfl) Tryz.func45 rfl rfl rfl ?_
 refine zbc fun T hT => ?_
 refine zju ?_
 rintro _ _ ⟨rfl, rfl⟩
 refine zd ?_
 clear hT T
 simp only [markH_app, seenH_app]
 refine zdz ?_
 refine zaQ ?_
 refine zk ?_
 refine zt ?_
 exact zhw
theorem mkStop_K (ha : k.act = true) : Call Tryz.prog w0 43 [.pointer (some ⟨k.b, 0, none⟩)] (markH k B.p ++ F) (fun r H' => r = .int .i64 0 ∧ H' = markH { k with act := false } B.p ++ F) := by
 refine zkw ?_
 refine zeV fun T hT => ?_
 refine (CallV.fn (mkturn_K (p := B.p) (v := false) ha)).mono ?_
 rintro _ _ ⟨rfl, rfl⟩
 refine zd ?_
 clear hT T
 exact zw
theorem mkStop_E (ha : k.act = false) : Call Tryz.prog w0 43 [.pointer (some ⟨k.b, 0, none⟩)] (markH k B.p ++ F) (fun r H' => r = .int .i64 9 ∧ H' = markH k B.p ++ F) := by
 refine zkw ?_
 refine zeV fun T hT => ?_
 refine (CallV.fn (mkturn_E (p := B.p) (v := false) ha)).mono ?_
 rintro _ _ ⟨rfl, rfl⟩
 refine zd ?_
 clear hT T
 exact zw
theorem mkHand_K {hd : Int} (ok : MkOk k B.p) : Call Tryz.prog w0 41 [.pointer (some ⟨k.b, 0, none⟩), .int .i64 hd] (markH k B.p ++ F)
  (fun r H' => r = .tuple [.int .i64 (if 0 ≤ hd then (k.hs[hd.toNat]?).getD hand0 else hand0).slot, .int .i64 (if 0 ≤ hd then (k.hs[hd.toNat]?).getD hand0 else hand0).field, .bool (if 0 ≤ hd then (k.hs[hd.toNat]?).getD hand0 else hand0).is].toArray ∧ H' = markH k B.p ++ F) := by
 have ho := ok.o
 have h9 := ok.hs
 by_cases h0 : hd < 0
 ·rw [if_neg (by omega)]
  unfold hand0
  dsimp only
  refine zjv ?_
  refine zfN ?_
  refine zdP fun T hT => ?_
  refine zju ?_
  rintro _ _ ⟨rfl, rfl⟩
  refine zd ?_
  clear hT T
  simp only [markH_app, seenH_app]
  refine zaa ?_
  refine zE ?_
  refine zn ?_
  refine zcz ?_
  refine z7 ?_
  refine zey ?_
  exact zhw
 ·obtain ⟨i, rfl⟩ : ∃ i : Nat, hd = i := ⟨hd.toNat, by omega⟩
  rw [if_pos (by omega), Int.toNat_natCast]
  by_cases hlt : i < k.hs.length
  ·obtain ⟨h, hh⟩ := get_of_lt hlt
   have hge : ¬ ((i : Nat) : Int) ≥ (k.hs.length : Nat) := by omega
   rw [hh]
   dsimp only [Option.getD]
   obtain ⟨hsl, hfi, his⟩ := h
   dsimp only
   refine zjv ?_
   refine zfN ?_
   refine zdP fun T hT => ?_
   refine zju ?_
   rintro _ _ ⟨rfl, rfl⟩
   refine zd ?_
   clear hT T
   simp only [markH_app, seenH_app]
   refine zej ?_
   refine zfG ?_
   refine zgk ?_
   refine zX ?_
   refine ze3 ?_
   refine zbo ?_
   refine zbZ ?_
   refine zfQ ?_; intro b7
   refine zcF ?_
   refine ziR ?_
   refine zaV ?_
   refine zx ?_
   refine zdj ?_
   refine zgI ?_
   refine zaw ?_
   refine zaw ?_
   refine za2 ?_
   exact zhw
  ·have hge : ((i : Nat) : Int) ≥ (k.hs.length : Nat) := by omega
   rw [List.getElem?_eq_none (by omega)]
   unfold hand0
   dsimp only [Option.getD]
   refine zjv ?_
   refine zfN ?_
   refine zdP fun T hT => ?_
   refine zju ?_
   rintro _ _ ⟨rfl, rfl⟩
   refine zd ?_
   clear hT T
   simp only [markH_app, seenH_app]
   refine zej ?_
   refine zfG ?_
   refine z8 ?_
   refine zaz ?_
   refine zey ?_
   exact zhw
end
open Go.RowKit
set_option maxRecDepth 10000
section
variable {g : PlG} {long : Nat} {W W' : MwP} {m m' : MaP} {a : MActP}
theorem help_all (ok : PlOk g) (hm : MaOk g long W m) (h : helpM g long W m = some m') : MaOk g long W m' ∧ leftM g W m' + 1 ≤ leftM g W m ∧ m'.steps = m.steps + 1 ∧ m'.act = m.act ∧ m'.hs.length = m.hs.length := by
 obtain ⟨k, u, hk⟩ := help_step h
 exact step_ok ok hm hk
theorem actK_sum (ok : PlOk g) (hm : MaOk g long W m) : (actK g long W m a).steps + leftM g W (actK g long W m a) ≤ m.steps + leftM g W m := by
 have hs1 : ∀ (m : MaP) (s : Int), MaOk g long W m → MaOk g long W (shdS g long m s) ∧ (shdS g long m s).steps + leftM g W (shdS g long m s) ≤ m.steps + leftM g W m := fun m s hm =>
  ⟨shdS_ok ok hm s, by have := shdS_left ok hm s; rw [(shdS_hs s).2.2.2]; omega⟩
 unfold actK
 split
 ·exact Nat.le_refl _
 ·split
  ·split
   ·obtain ⟨h1, h2⟩ := hs1 m (oldS g W a).1 hm
    exact Nat.le_trans (hs1 _ a.t h1).2 h2
   ·exact Nat.le_refl _
  ·split
   ·split
    ·exact (hs1 _ _ hm).2
    ·exact Nat.le_refl _
   ·split
    ·exact (hs1 _ _ hm).2
    ·split
     ·cases h : stepM g long W m a.i (a.u : Nat) with
      | none => exact Nat.le_refl _
      | some m' =>
       obtain ⟨h1, h2, h3, h4, h5⟩ := step_ok ok hm h
       show m'.steps + leftM g W m' ≤ _
       omega
     ·cases h : helpM g long W m with
      | none => exact Nat.le_refl _
      | some m' =>
       obtain ⟨h1, h2, h3, h4, h5⟩ := help_all ok hm h
       show m'.steps + leftM g W m' ≤ _
       omega
end
structure WmM where
 B : BoM
 T : TbM
 N : PiM
 k : MkM
 v : PlV
 z : KwV
 q : KmV
 D : Heap
def wmL (g : PlG) (long : Nat) (X : WmM) (km : MaP) : List Value := [.pointer (some ⟨X.B.b, 0, none⟩), .pointer (some ⟨X.T.b, 0, none⟩), .pointer (some ⟨X.N.b, 0, none⟩), .pointer (some ⟨X.k.b, 0, none⟩),
 X.z.vr, .int .i64 ((0 : Nat) : Int), X.v.L, X.v.F, X.v.M, .int .i64 (g.words : Nat), X.v.C, X.z.vt, .int .i64 X.z.gens, X.z.vn,
 X.q.c, X.v.L, X.v.F, X.v.M, .int .i64 (g.words : Nat), X.v.C, .int .i64 (long : Nat), X.q.u.Q, X.q.u.ow, X.q.u.di, .int .i64 (pgI km.G), .int .i64 (km.G.at_ : Nat), X.q.h, .int .i64 (km.root : Nat), .bool km.act, .int .i64 (km.steps : Nat)]
def wmH (X : WmM) : Heap := markH X.k X.B.p ++ (planH X.B.p ++ (seenH X.B X.T X.N ++ X.D))
theorem wmH_app {X : WmM} {F : Heap} : wmH X ++ F = markH X.k X.B.p ++ (planH X.B.p ++ (seenH X.B X.T X.N ++ (X.D ++ F))) := by
 unfold wmH; simp only [List.append_assoc]
structure WmR (w0 : World) (g : PlG) (long nf : Nat) (X : WmM) (S : MsP) : Prop where
 eg : X.B.p.g = g
 fl : X.k.c.f = nf
 el : X.k.g.ring.length = long
 p : MpR X.k X.B X.T X.N S.W
 ok : MkOk X.k X.B.p
 R : MkR X.k X.B.p S.m
 m : MaOk g long S.W S.m
 k : MaOk g long S.W S.k
 lg : 1 ≤ long ∧ long ≤ 64
 W : KwD w0 X.D X.v g X.z S.W
 K : KmD w0 X.D X.q S.k
 t : X.B.t = 0
 mem : rwX X.z.R = X.B.m.R
 lm : S.m.steps + leftM g S.W S.m ≤ 40000
 lk : S.k.steps + leftM g S.W S.k ≤ 40000
 n : S.W.T.length ≤ 60
 wd : g.words ≤ 2000
section
variable {w0 : World} {g : PlG} {long nf : Nat} {X : WmM} {S : MsP}
theorem WmR.okg (h : WmR w0 g long nf X S) : PlOk g := h.W.f.ok
end
theorem nil_R {k : MkM} {p : PlanM} {nw : Nat} {b : Bool} (h : MkNil k p) (hr : 1 ≤ k.g.ring.length) (ha : k.act = b) (hl : k.hs.length = nw + 1) : MkR k p (newM p.g nw b) :=
 ⟨h.c, ⟨h.g.ow, h.g.di, by rw [h.g.first, h.g.many]; exact ⟨rfl, Nat.zero_le _, hr, fun i hi => absurd hi (Nat.not_lt_zero _)⟩, by show k.g.at_ = k.g.end_; rw [h.g.at_, h.g.end_], by rw [h.g.end_]; exact Nat.zero_le _⟩, by rw [h.hs, hl]; rfl, h.root, ha, h.steps⟩
open Go.RowKit
set_option maxRecDepth 10000
def setk (X : WmM) (k' : MkM) : WmM := ⟨X.B, X.T, X.N, k', X.v, X.z, X.q, X.D⟩
structure WqR (g : PlG) (long nf : Nat) (X : WmM) (W : MwP) (ma : MaP) : Prop where
 eg : X.B.p.g = g
 fl : X.k.c.f = nf
 el : X.k.g.ring.length = long
 p : MpR X.k X.B X.T X.N W
 ok : MkOk X.k X.B.p
 R : MkR X.k X.B.p ma
 m : MaOk g long W ma
 lg : 1 ≤ long ∧ long ≤ 64
 t : X.B.t = 0
 lm : ma.steps + leftM g W ma ≤ 40000
 n : W.T.length ≤ 60
 wd : g.words ≤ 2000
def WqK (g : PlG) (long nf : Nat) (X : WmM) (W : MwP) (m' : MaP) (F : Heap) (H' : Heap) : Prop :=
 ∃ k', k'.b = X.k.b ∧ WqR g long nf (setk X k') W m' ∧ H' = wmH (setk X k') ++ F
section
variable {w0 : World} {g : PlG} {long nf : Nat} {X : WmM} {S : MsP} {W : MwP} {m : MaP} {F : Heap} {kb : Nat}
theorem WmR.q (h : WmR w0 g long nf X S) : WqR g long nf X S.W S.m := ⟨h.eg, h.fl, h.el, h.p, h.ok, h.R, h.m, h.lg, h.t, h.lm, h.n, h.wd⟩
theorem WmR.back {k' : MkM} {m' : MaP} {nf' : Nat} (h : WmR w0 g long nf X S) (hq : WqR g long nf' (setk X k') S.W m') : WmR w0 g long nf' (setk X k') ⟨S.W, m', S.k⟩ :=
 ⟨hq.eg, hq.fl, hq.el, hq.p, hq.ok, hq.R, hq.m, h.k, h.lg, h.W, h.K, h.t, h.mem, hq.lm, h.lk, h.n, h.wd⟩
theorem WqR.okg (h : WqR g long nf X W m) : PlOk g := by have := h.p.bo.p.g; rw [h.eg] at this; exact this
theorem WqR.w (h : WqR g long nf X W m) : MwOk g W := by have := h.p.w; rw [h.eg] at this; exact this
theorem WqR.setm {k' : MkM} {m' : MaP} {nf' : Nat} (h : WqR g long nf X W m) (kok : MkOk k' X.B.p) (kas : MkAs X.k k') (kR : MkR k' X.B.p m') (hm : MaOk g long W m') (hf : k'.c.f = nf') (lm : m'.steps + leftM g W m' ≤ 40000) : WqR g long nf' (setk X k') W m' :=
 ⟨h.eg, hf, kas.l.trans h.el, ⟨h.p.bo, h.p.tb, h.p.pi, h.p.eT, h.p.eN, kas.bb.trans h.p.bb, kas.tb.trans h.p.tbb, kas.nb.trans h.p.nb, h.p.w⟩, kok, kR, hm, h.lg, h.t, lm, h.n, h.wd⟩
theorem wmStart_K (h : WqR g long nf X W m) (hkb : X.k.b = kb) (ha : m.act = false) (hn : nf ≤ 1000000) : Call Tryz.prog w0 42 [.pointer (some ⟨kb, 0, none⟩)] (wmH X ++ F)
  (fun r H' => r = .int .i64 0 ∧ WqK g long (nf + 1) X W (startM g m) F H') := by
 subst hkb
 rw [wmH_app]
 refine (mkStart_K h.ok (h.R.act.trans ha) (by rw [h.fl]; exact hn)).mono ?_
 rintro _ _ ⟨rfl, k', kok, knil, kas, kact, kf, rfl⟩
 have h9 := h.m.hs
 have hl : k'.hs.length = (m.hs.length - 1) + 1 := by rw [kas.n, h.R.hs]; omega
 have hst := start_left (W := W) h.okg (m.hs.length - 1)
 have hn := h.n
 have hwd := h.wd
 refine ⟨rfl, k', kas.b, h.setm kok kas ?_ (new_ok h.lg.1 (by omega)) (by rw [kf, h.fl]) ?_, ?_⟩
 ·have hr := nil_R (k := k') (p := X.B.p) (nw := m.hs.length - 1) (b := true) knil (by rw [kas.l, h.el]; exact h.lg.1) kact hl
  rw [h.eg] at hr; exact hr
 ·show 0 + leftM g W (newM g (m.hs.length - 1) true) ≤ _
  omega
 ·rw [wmH_app]; rfl
theorem wmStart_E (h : WqR g long nf X W m) (hkb : X.k.b = kb) (ha : m.act = true) : Call Tryz.prog w0 42 [.pointer (some ⟨kb, 0, none⟩)] (wmH X ++ F) (fun r H' => r = .int .i64 9 ∧ H' = wmH X ++ F) := by
 subst hkb
 rw [wmH_app]
 exact mkStart_E (h.R.act.trans ha)
theorem wmStep_K {hd v : Int} (hG : Glob w0) (h : WqR g long nf X W m) (hkb : X.k.b = kb) (hv : 0 ≤ v ∧ v < 256) : Call Tryz.prog w0 37 [.pointer (some ⟨kb, 0, none⟩), .int .i64 hd, .int .u8 v] (wmH X ++ F)
  (fun r H' => r = .bool (stepM g long W m hd v).isSome ∧ WqK g long nf X W ((stepM g long W m hd v).getD m) F H') := by
 subst hkb
 have lm := h.lm
 have hst := mkStepI_K (w0 := w0) (F := X.D ++ F) (hd := hd) hG h.p h.ok h.R (by rw [h.eg, h.el]; exact h.m) (by omega) hv
 rw [h.eg, h.el] at hst
 rw [wmH_app]
 refine hst.mono ?_
 rintro _ _ ⟨rfl, k', kok, kto, kR, rfl⟩
 refine ⟨rfl, k', kto.b, h.setm kok kto.toMkAs kR ?_ (kto.f.trans h.fl) ?_, by rw [wmH_app]; rfl⟩
 ·cases hs : stepM g long W m hd v with
  | none => exact h.m
  | some m' => exact (step_ok h.okg h.m hs).1
 ·cases hs : stepM g long W m hd v with
  | none => exact lm
  | some m' =>
   obtain ⟨_, h2, h3, _⟩ := step_ok h.okg h.m hs
   show m'.steps + leftM g W m' ≤ _
   omega
theorem wmHelp_K (hG : Glob w0) (h : WqR g long nf X W m) (hkb : X.k.b = kb) : Call Tryz.prog w0 38 [.pointer (some ⟨kb, 0, none⟩)] (wmH X ++ F)
  (fun r H' => r = .bool (helpM g long W m).isSome ∧ WqK g long nf X W ((helpM g long W m).getD m) F H') := by
 subst hkb
 have lm := h.lm
 have hst := mkHelp_K (w0 := w0) (F := X.D ++ F) hG h.p h.ok h.R (by rw [h.eg, h.el]; exact h.m) (by omega)
 rw [h.eg, h.el] at hst
 rw [wmH_app]
 refine hst.mono ?_
 rintro _ _ ⟨rfl, k', kok, kto, kR, rfl⟩
 refine ⟨rfl, k', kto.b, h.setm kok kto.toMkAs kR ?_ (kto.f.trans h.fl) ?_, by rw [wmH_app]; rfl⟩
 ·cases hs : helpM g long W m with
  | none => exact h.m
  | some m' => exact (help_all h.okg h.m hs).1
 ·cases hs : helpM g long W m with
  | none => exact lm
  | some m' =>
   obtain ⟨_, h2, h3, _⟩ := help_all h.okg h.m hs
   show m'.steps + leftM g W m' ≤ _
   omega
theorem wmDone_K (hG : Glob w0) (h : WqR g long nf X W m) (hkb : X.k.b = kb) : Call Tryz.prog w0 39 [.pointer (some ⟨kb, 0, none⟩)] (wmH X ++ F) (fun r H' => r = .bool (doneM g W m) ∧ H' = wmH X ++ F) := by
 subst hkb
 have hst := mkDone_K (w0 := w0) (F := X.D ++ F) hG h.p h.ok h.R (by rw [h.eg, h.el]; exact h.m)
 rw [h.eg] at hst
 rw [wmH_app]
 exact hst
theorem wmStop_K (h : WqR g long nf X W m) (hkb : X.k.b = kb) (ha : m.act = true) : Call Tryz.prog w0 43 [.pointer (some ⟨kb, 0, none⟩)] (wmH X ++ F) (fun r H' => r = .int .i64 0 ∧ WqK g long nf X W { m with act := false } F H') := by
 subst hkb
 rw [wmH_app]
 refine (mkStop_K (B := X.B) (h.R.act.trans ha)).mono ?_
 refine zS ?_
 refine ⟨rfl, { X.k with act := false }, rfl, h.setm ⟨h.ok.c, h.ok.g, h.ok.n, h.ok.o, h.ok.hs⟩ ⟨rfl, rfl, rfl, rfl, rfl, rfl⟩ ⟨h.R.C, h.R.G, h.R.hs, h.R.root, rfl, h.R.steps⟩ ⟨h.m.C, h.m.c, h.m.G, h.m.hs, h.m.h, h.m.root⟩ h.fl h.lm, by rw [wmH_app]; rfl⟩
theorem wmStop_E (h : WqR g long nf X W m) (hkb : X.k.b = kb) (ha : m.act = false) : Call Tryz.prog w0 43 [.pointer (some ⟨kb, 0, none⟩)] (wmH X ++ F) (fun r H' => r = .int .i64 9 ∧ H' = wmH X ++ F) := by
 subst hkb
 rw [wmH_app]
 exact mkStop_E (B := X.B) (h.R.act.trans ha)
theorem wmActive_K (h : WqR g long nf X W m) (hkb : X.k.b = kb) : Call Tryz.prog w0 40 [.pointer (some ⟨kb, 0, none⟩)] (wmH X ++ F) (fun r H' => r = .bool m.act ∧ H' = wmH X ++ F) := by
 subst hkb
 rw [wmH_app, ← h.R.act]
 exact mkActive_K
theorem wmSteps_K (h : WqR g long nf X W m) (hkb : X.k.b = kb) : Call Tryz.prog w0 45 [.pointer (some ⟨kb, 0, none⟩)] (wmH X ++ F) (fun r H' => r = .int .i64 (m.steps : Nat) ∧ H' = wmH X ++ F) := by
 subst hkb
 rw [wmH_app, ← h.R.steps]
 exact mkSteps_K
theorem wmOf_K {s : Nat} {c : Int} (h : WqR g long nf X W m) (hkb : X.k.b = kb) (hc : m.C[s]? = some c) : Call Tryz.prog w0 36 [.pointer (some ⟨kb, 0, none⟩), .int .i64 (s : Nat)] (wmH X ++ F) (fun r H' => r = .tuple [.int .u8 c, .int .i64 0].toArray ∧ H' = wmH X ++ F) := by
 subst hkb
 rw [wmH_app]
 exact mkOf_K h.ok (by rw [h.R.C]; exact hc)
def handI (m : MaP) (hd : Int) : HanP := if 0 ≤ hd then (m.hs[hd.toNat]?).getD hand0 else hand0
theorem wmHand_K {hd : Int} (h : WqR g long nf X W m) (hkb : X.k.b = kb) : Call Tryz.prog w0 41 [.pointer (some ⟨kb, 0, none⟩), .int .i64 hd] (wmH X ++ F) (fun r H' => r = .tuple [.int .i64 (handI m hd).slot, .int .i64 (handI m hd).field, .bool (handI m hd).is].toArray ∧ H' = wmH X ++ F) := by
 subst hkb
 have := mkHand_K (w0 := w0) (F := planH X.B.p ++ (seenH X.B X.T X.N ++ (X.D ++ F))) (hd := hd) h.ok
 rw [h.R.hs] at this
 rw [wmH_app]
 exact this
theorem wmCount_K {s : Nat} (h : WqR g long nf X W m) (hkb : X.N.b = kb) : Call Tryz.prog w0 51 [.pointer (some ⟨kb, 0, none⟩), .int .i64 (s : Nat)] (wmH X ++ F) (fun r H' => r = .int .i64 ((W.N[s]?).getD 0) ∧ H' = wmH X ++ F) := by
 subst hkb
 have hh := Call.ro (w0 := w0) (A := pinsH X.N) (H := wmH X ++ F) (fun F => piCount_K (F := F) (s := (s : Nat)) h.p.pi) (by rw [wmH_app, seenH_app]; exact byPart)
 rw [if_pos (by omega), Int.toNat_natCast, h.p.eN] at hh
 exact hh
theorem wmLive_K (h : WqR g long nf X W m) (hkb : X.T.b = kb) : Call Tryz.prog w0 52 [.pointer (some ⟨kb, 0, none⟩)] (wmH X ++ F) (fun r H' => r = .int .i64 (cntP 1 W.T : Nat) ∧ H' = wmH X ++ F) := by
 subst hkb
 have hh := Call.ro (w0 := w0) (A := tabH X.T) (H := wmH X ++ F) (fun F => tbLive_K (F := F) h.p.tb) (by rw [wmH_app, seenH_app]; exact byPart)
 rw [h.p.eT] at hh
 exact hh
end
end Go.Proofs.YtalholahapcpkaaGreatDoor.Sw
