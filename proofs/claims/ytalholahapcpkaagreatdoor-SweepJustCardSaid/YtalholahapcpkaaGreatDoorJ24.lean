/- The walker and the contracts that the law needs, part 24. -/
import Derived.Test.YtalholahapcpkaaGreatDoorJ23
namespace Go.Proofs.YtalholahapcpkaaGreatDoor.Sw
open Go.Proofs.YtalholahapcpkaaGreatDoor renaming lo → qL, hi → qH
open Go.RowKit
set_option linter.unusedVariables false
set_option linter.unusedSimpArgs false
set_option maxRecDepth 10000
theorem Size0_K {w0 : World} {F : Heap} {p : PlanM} {s : Nat} {x : SlotP} (ok : PlanOk p) (hx : p.g.L[s]? = some x) :
  Call Tryz.prog w0 224 [.pointer (some ⟨p.b, 0, none⟩), .int .i64 (s : Nat)] (planH p ++ F) (fun r H' => r = .tuple [.int .i64 (x.size : Nat), .int .i64 0].toArray ∧ H' = planH p ++ F) := by
 obtain ⟨k, d, hk, hd, hs, rfl⟩ := L_at hx
 have ho := ok.o
 have hpl : p.g.parts.length = p.g.m := parts_len
 have hkl : k < p.g.parts.length := by omega
 have hx : p.g.parts[k]? = some (p.g.pt k) := parts_get hk
 refine Call.enter2 (n := 27) (by kernel_rfl) Tryz.func224 rfl rfl rfl ?_
 refine K.seq (K.region ?_)
 refine KL.v rfl (Val.assign rfl) ?_
 refine KL.v rfl (Val.assign rfl) ?_
 refine KL.nil (KE.next (K.seq (K.region ?_)))
 refine KL.v rfl (Val.move rfl) ?_
 refine KL.v rfl (Val.move rfl) ?_
 refine KL.callc rfl rfl byEvL fun T hT => ?_
 refine (CallV.fn (find_K ok hk hd hs)).mono ?_
 rintro _ _ ⟨rfl, rfl⟩
 refine hT _ _ ?_; clear hT T
 simp only [rowH_app, memH_app, planH_app]
 refine KL.v rfl (Val.move rfl) ?_
 refine KL.v rfl (Val.extract rfl rfl) ?_
 refine KL.v rfl (Val.extract rfl rfl) ?_
 refine KL.v rfl (Val.extract rfl rfl) ?_
 refine KL.v rfl (Val.assign rfl) ?_
 refine KL.v rfl (Val.assign rfl) ?_
 refine KL.v rfl (Val.assign rfl) ?_
 refine KL.nil (KE.next (K.seq (K.seq (K.region ?_))))
 refine KL.v rfl (Val.move rfl) ?_
 refine KL.v rfl (Val.isF (Val.neq rfl rfl) byLt) ?_
 refine KL.nil (KE.next (K.condF rfl (K.skip (KE.next (K.seq (K.region ?_))))))
 refine KL.v rfl (Val.move rfl) ?_
 refine KL.v rfl (Val.nilCheck rfl) ?_
 refine KL.v rfl (Val.fieldAddr0 (k := 0) rfl rfl) ?_
 refine KL.v rfl (Val.loadP rfl rfl (Sees.cell byTake rfl)) ?_
 refine KL.v rfl (Val.move rfl) ?_
 refine KL.v rfl (Val.idxSl rfl rfl rfl (Sli.own byTakeL (by assumption) byLen) rfl byLt) ?_
 refine KL.v rfl (Val.fieldSl (k := 0) rfl rfl) ?_
 refine KL.v rfl (Val.loadP rfl rfl (Sees.sl0 (Sli.own byTakeL (by assumption) byLen) (by assumption) rfl)) ?_
 refine KL.v rfl (Val.assign rfl) ?_
 refine KL.v rfl (Val.assign rfl) ?_
 refine KL.nil (KE.next ?_)
 refine K.ret ?_
 exact KE.fin byMarks rfl byRes (by first | exact byPart | (simp only [rowH_app, memH_app, planH_app]; exact byPart)) ⟨rfl, rfl⟩
theorem Class0_K {w0 : World} {F : Heap} {p : PlanM} {s : Nat} {x : SlotP} (ok : PlanOk p) (hx : p.g.L[s]? = some x) :
  Call Tryz.prog w0 228 [.pointer (some ⟨p.b, 0, none⟩), .int .i64 (s : Nat)] (planH p ++ F) (fun r H' => r = .tuple [.int .i64 (x.cls : Nat), .int .i64 0].toArray ∧ H' = planH p ++ F) := by
 obtain ⟨k, d, hk, hd, hs, rfl⟩ := L_at hx
 refine Call.enter2 (n := 18) (by kernel_rfl) Tryz.func228 rfl rfl rfl ?_
 refine K.seq (K.region ?_)
 refine KL.v rfl (Val.assign rfl) ?_
 refine KL.v rfl (Val.assign rfl) ?_
 refine KL.nil (KE.next (K.seq (K.region ?_)))
 refine KL.v rfl (Val.move rfl) ?_
 refine KL.v rfl (Val.move rfl) ?_
 refine KL.callc rfl rfl byEvL fun T hT => ?_
 refine (CallV.fn (find_K ok hk hd hs)).mono ?_
 rintro _ _ ⟨rfl, rfl⟩
 refine hT _ _ ?_; clear hT T
 refine KL.v rfl (Val.move rfl) ?_
 refine KL.v rfl (Val.extract rfl rfl) ?_
 refine KL.v rfl (Val.extract rfl rfl) ?_
 refine KL.v rfl (Val.extract rfl rfl) ?_
 refine KL.v rfl (Val.assign rfl) ?_
 refine KL.v rfl (Val.assign rfl) ?_
 refine KL.v rfl (Val.assign rfl) ?_
 refine KL.nil (KE.next (K.seq (K.region ?_)))
 refine KL.v rfl (Val.move rfl) ?_
 refine KL.v rfl (Val.move rfl) ?_
 refine KL.v rfl (Val.assign rfl) ?_
 refine KL.v rfl (Val.assign rfl) ?_
 refine KL.nil (KE.next ?_)
 refine K.ret ?_
 exact KE.fin byMarks rfl byRes (by first | exact byPart | (simp only [rowH_app, memH_app, planH_app]; exact byPart)) ⟨rfl, rfl⟩
theorem Addr0_K {w0 : World} {F : Heap} {p : PlanM} {s : Nat} {x : SlotP} (ok : PlanOk p) (hx : p.g.L[s]? = some x) :
  Call Tryz.prog w0 226 [.pointer (some ⟨p.b, 0, none⟩), .int .i64 (s : Nat)] (planH p ++ F) (fun r H' => r = .tuple [.int .i64 (x.addr : Nat), .int .i64 0].toArray ∧ H' = planH p ++ F) := by
 obtain ⟨h1, _, _, h2, h3, h4, _⟩ := ok.g.fits hx
 have hw := ok.g.words
 have hpg := ok.g.pg
 have hpp := ok.g.pages.2
 obtain ⟨k, d, hk, hd, hs, rfl⟩ := L_at hx
 have hn := ok.g.n hk
 have hper := ok.g.per hk
 have hy := ok.g.y k hk
 have ho := ok.o
 have hpl : p.g.parts.length = p.g.m := parts_len
 have hkl : k < p.g.parts.length := by omega
 have hx : p.g.parts[k]? = some (p.g.pt k) := parts_get hk
 simp only [PlG.sl] at h1 h2 h3 h4 ⊢
 obtain ⟨pt, hpt⟩ : ∃ pt, pt = p.g.pt k := ⟨_, rfl⟩
 obtain ⟨y, hy'⟩ : ∃ y, y = p.g.y k := ⟨_, rfl⟩
 obtain ⟨per, hper'⟩ : ∃ y, y = p.g.per k := ⟨_, rfl⟩
 obtain ⟨pg, hpg'⟩ : ∃ y, y = p.g.page k := ⟨_, rfl⟩
 rw [← hy', ← hper', ← hpg'] at h1 h3 h4 ⊢
 rw [← hper', ← hpg'] at h2
 rw [← hper'] at hper
 rw [← hy'] at hy
 rw [← hpt] at hx
 obtain ⟨sz, fi, ma, pa, pe⟩ := pt
 obtain ⟨rfl, _, _, rfl, rfl⟩ : sz = y ∧ fi = p.g.first k ∧ ma = p.g.n k ∧ pa = pg ∧ pe = per := by
  simp only [PlG.pt, PartP.mk.injEq] at hpt
  obtain ⟨e1, e2, e3, e4, e5⟩ := hpt
  exact ⟨by rw [e1, hy'], e2, e3, by rw [e4, hpg'], by rw [e5, hper']⟩
 clear hpt hy' hper' hpg'
 obtain ⟨a, ha⟩ : ∃ a, a = d / pe := ⟨_, rfl⟩
 obtain ⟨b, hb⟩ : ∃ b, b = d % pe := ⟨_, rfl⟩
 have e1 : ((d : Nat) : Int) / ((pe : Nat) : Int) = (a : Nat) := by rw [ha]; rfl
 have e2 : ((d : Nat) : Int) % ((pe : Nat) : Int) = (b : Nat) := by rw [hb]; rfl
 rw [← ha, ← hb] at h1 ⊢
 rw [← ha] at h2 h3 h4
 rw [← hb] at h4
 obtain ⟨m1, hm1⟩ : ∃ m, m = (pa + a) * p.g.pg := ⟨_, rfl⟩
 obtain ⟨m2, hm2⟩ : ∃ m, m = b * sz := ⟨_, rfl⟩
 have e3 : (((pa : Nat) : Int) + (a : Nat)) * ((p.g.pg : Nat) : Int) = (m1 : Nat) := by rw [hm1]; simp
 have e4 : ((b : Nat) : Int) * ((sz : Nat) : Int) = (m2 : Nat) := by rw [hm2]; simp
 have hal : a ≤ d := by rw [ha]; exact Nat.div_le_self _ _
 have hbl : b ≤ d := by rw [hb]; exact Nat.mod_le _ _
 rw [← hm1, ← hm2] at h1 ⊢
 have hm1b : m1 ≤ 1048576 := by omega
 have hm2b : m2 ≤ 1048576 := by omega
 clear h3 h4
 refine Call.enter2 (n := 47) (by kernel_rfl) Tryz.func226 rfl rfl rfl ?_
 refine K.seq (K.region ?_)
 refine KL.v rfl (Val.assign rfl) ?_
 refine KL.v rfl (Val.assign rfl) ?_
 refine KL.nil (KE.next (K.seq (K.region ?_)))
 refine KL.v rfl (Val.move rfl) ?_
 refine KL.v rfl (Val.move rfl) ?_
 refine KL.callc rfl rfl byEvL fun T hT => ?_
 refine (CallV.fn (find_K ok hk hd hs)).mono ?_
 rintro _ _ ⟨rfl, rfl⟩
 refine hT _ _ ?_; clear hT T
 simp only [rowH_app, memH_app, planH_app]
 refine KL.v rfl (Val.move rfl) ?_
 refine KL.v rfl (Val.extract rfl rfl) ?_
 refine KL.v rfl (Val.extract rfl rfl) ?_
 refine KL.v rfl (Val.extract rfl rfl) ?_
 refine KL.v rfl (Val.assign rfl) ?_
 refine KL.v rfl (Val.assign rfl) ?_
 refine KL.v rfl (Val.assign rfl) ?_
 refine KL.nil (KE.next (K.seq (K.seq (K.region ?_))))
 refine KL.v rfl (Val.move rfl) ?_
 refine KL.v rfl (Val.isF (Val.neq rfl rfl) byLt) ?_
 refine KL.nil (KE.next (K.condF rfl (K.skip (KE.next (K.seq (K.region ?_))))))
 refine KL.v rfl (Val.move rfl) ?_
 refine KL.v rfl (Val.nilCheck rfl) ?_
 refine KL.v rfl (Val.fieldAddr0 (k := 0) rfl rfl) ?_
 refine KL.v rfl (Val.loadP rfl rfl (Sees.cell byTake rfl)) ?_
 refine KL.v rfl (Val.move rfl) ?_
 refine KL.v rfl (Val.idxSl rfl rfl rfl (Sli.own byTakeL (by assumption) byLen) rfl byLt) ?_
 refine KL.v rfl (Val.loadAP rfl rfl rfl bySeeA) ?_
 refine KL.e rfl (Eff.alloc rfl) ?_; rintro _ _ ⟨b9, rfl, rfl⟩
 refine KL.eN (Eff.storeAL rfl rfl rfl byTake byLay byOnes) ?_; rintro _ _ rfl
 refine KL.nil (KE.next ?_)
 simp only [partE_enc]
 have e5 : (((pa : Nat) : Int) + ((d : Nat) : Int) / ((pe : Nat) : Int)) * ((p.g.pg : Nat) : Int) = (m1 : Nat) := by rw [e1, e3]
 have e6 : ((d : Nat) : Int) % ((pe : Nat) : Int) * ((sz : Nat) : Int) = (m2 : Nat) := by rw [e2, e4]
 have e7 : ((m1 : Nat) : Int) + ((m2 : Nat) : Int) = ((m1 + m2 : Nat) : Int) := by omega
 refine K.seq ?_
 refine K.drawn [] [(0, 0), (1, 0), (2, 0), (3, 0), (4, 0), (5, 0), (6, 0), (7, 0), (8, 0), (9, 0), (10, 0), (11, 0), (12, 0), (13, 0), (14, 0), (15, 0), (16, 0), (17, 0), (18, 0), (19, 0), (20, 0), (21, 0)] (by kernel_rfl) (by kernel_rfl) (by kernel_rfl) (by kernel_rfl) (by kernel_rfl) (by kernel_rfl) Part.nil ?_
 refine KD.v0 rfl rfl (Val.fieldAddr0 (k := 3) rfl rfl) ?_
 refine KD.v0 rfl rfl (Val.loadP rfl rfl (Sees.cell byTake rfl)) ?_
 refine KD.v0 rfl rfl (Val.move rfl) ?_
 refine KD.v0 rfl rfl (Val.fieldAddr0 (k := 4) rfl rfl) ?_
 refine KD.v0 rfl rfl (Val.loadP rfl rfl (Sees.cell byTake rfl)) ?_
 refine KD.v0 rfl rfl (Val.quoN rfl rfl (by simp only [qL, qH]; omega)) ?_
 refine KD.v0 rfl rfl (Val.add rfl rfl (by simp only [qL, qH]; omega)) ?_
 refine KD.v0 rfl rfl (Val.move rfl) ?_
 refine KD.v0 rfl rfl (Val.nilCheck rfl) ?_
 refine KD.v0 rfl rfl (Val.fieldAddr0 (k := 3) rfl rfl) ?_
 refine KD.v0 rfl rfl (Val.loadP rfl rfl (Sees.cell byTake rfl)) ?_
 refine KD.v0 rfl rfl (Val.mul rfl rfl (by simp only [qL, qH]; omega)) ?_
 refine KD.v0 rfl rfl (Val.move rfl) ?_
 refine KD.v0 rfl rfl (Val.fieldAddr0 (k := 4) rfl rfl) ?_
 refine KD.v0 rfl rfl (Val.loadP rfl rfl (Sees.cell byTake rfl)) ?_
 refine KD.v0 rfl rfl (Val.remN rfl rfl (by omega)) ?_
 refine KD.v0 rfl rfl (Val.fieldAddr0 (k := 0) rfl rfl) ?_
 refine KD.v0 rfl rfl (Val.loadP rfl rfl (Sees.cell byTake rfl)) ?_
 refine KD.v0 rfl rfl (Val.mul rfl rfl (by simp only [qL, qH]; omega)) ?_
 refine KD.v0 rfl rfl (Val.add rfl rfl (by simp only [qL, qH]; omega)) ?_
 refine KD.v0 rfl rfl (Val.assign rfl) ?_
 refine KD.v0 rfl rfl (Val.assign rfl) ?_
 refine KD.nil ?_
 refine KE.next ?_
 refine K.ret ?_
 rw [e5, e6, e7]
 exact KE.fin byMarks rfl byRes (by first | exact byPart | (simp only [rowH_app, memH_app, planH_app]; exact byPart)) ⟨rfl, rfl⟩
set_option maxRecDepth 10000
theorem Of0_K {w0 : World} {F : Heap} {p : PlanM} {k : Nat} (ok : PlanOk p) (hk : k < p.g.m) :
  Call Tryz.prog w0 148 [.pointer (some ⟨p.b, 0, none⟩), .int .i64 (k : Nat)] (planH p ++ F) (fun r H' => r = .tuple [.int .i64 (p.g.first k : Nat), .int .i64 (p.g.n k : Nat), .int .i64 0].toArray ∧ H' = planH p ++ F) := by
 have ho := ok.o
 have hpl : p.g.parts.length = p.g.m := parts_len
 have hkl : k < p.g.parts.length := by omega
 have hge : ¬ ((k : Nat) : Int) ≥ ((p.g.parts.length : Nat) : Int) := by omega
 have hx : p.g.parts[k]? = some (p.g.pt k) := parts_get hk
 refine Call.enter2 (n := 38) (by kernel_rfl) Tryz.func148 rfl rfl rfl ?_
 refine K.seq (K.region ?_)
 refine KL.v rfl (Val.assign rfl) ?_
 refine KL.v rfl (Val.assign rfl) ?_
 refine KL.v rfl (Val.assign rfl) ?_
 refine KL.nil (KE.next (K.seq (K.block (K.seq (K.region ?_)))))
 refine KL.v rfl (Val.move rfl) ?_
 refine KL.callc rfl rfl byEvL fun T hT => ?_
 refine (CallV.fn (plnone_K ok)).mono ?_
 rintro _ _ ⟨rfl, rfl⟩
 refine hT _ _ ?_; clear hT T
 simp only [rowH_app, memH_app, planH_app]
 refine KL.v rfl (Val.assign rfl) ?_
 refine KL.nil (KE.next (K.condF rfl (K.seq (K.region ?_))))
 refine KL.v rfl (Val.move rfl) ?_
 refine KL.v rfl (Val.isF (Val.lss rfl rfl) byLt) ?_
 refine KL.v rfl (Val.move rfl) ?_
 refine KL.yes rfl rfl ?_; refine KL.v rfl (Val.move rfl) ?_
 refine KL.yes rfl rfl ?_; refine KL.v rfl (Val.move rfl) ?_
 refine KL.yes rfl rfl ?_; refine KL.v rfl (Val.nilCheck rfl) ?_
 refine KL.yes rfl rfl ?_; refine KL.v rfl (Val.fieldAddr0 (k := 0) rfl rfl) ?_
 refine KL.yes rfl rfl ?_; refine KL.v rfl (Val.loadP rfl rfl (Sees.cell byTake rfl)) ?_
 refine KL.yes rfl rfl ?_; refine KL.v rfl (Val.lenSl rfl rfl (Sli.own byTakeL (by assumption) byLen)) ?_
 refine KL.yes rfl rfl ?_; refine KL.v rfl (Val.isF (Val.geq rfl rfl) byLt) ?_
 refine KL.v rfl (Val.pickF rfl rfl rfl) ?_
 refine KL.v rfl (Val.assign rfl) ?_
 refine KL.nil (KE.next (K.condF rfl (K.skip ?_)))
 refine KE.blkN ?_
 refine KE.next (K.seq ?_)
 refine K.drawn [] [(0, 0), (1, 0), (2, 0), (3, 0), (4, 0), (5, 0), (6, 0), (7, 0), (8, 0), (9, 0), (10, 0), (11, 0), (12, 0), (13, 0), (14, 0), (15, 0), (16, 0), (17, 0), (18, 0)] (by kernel_rfl) (by kernel_rfl) (by kernel_rfl) (by kernel_rfl) (by kernel_rfl) (by kernel_rfl) Part.nil ?_
 refine KD.v0 rfl rfl (Val.move rfl) ?_
 refine KD.v0 rfl rfl (Val.nilCheck rfl) ?_
 refine KD.v0 rfl rfl (Val.fieldAddr0 (k := 0) rfl rfl) ?_
 refine KD.v0 rfl rfl (Val.loadP rfl rfl (Sees.cell byTake rfl)) ?_
 refine KD.v0 rfl rfl (Val.move rfl) ?_
 refine KD.v0 rfl rfl (Val.idxSl rfl rfl rfl (Sli.own byTakeL (by assumption) byLen) rfl byLt) ?_
 refine KD.v0 rfl rfl (Val.fieldSl (k := 1) rfl rfl) ?_
 refine KD.v0 rfl rfl (Val.loadP rfl rfl (Sees.sl (Sli.own byTakeL (by assumption) byLen) (by assumption) rfl)) ?_
 refine KD.v0 rfl rfl (Val.move rfl) ?_
 refine KD.v0 rfl rfl (Val.nilCheck rfl) ?_
 refine KD.v0 rfl rfl (Val.fieldAddr0 (k := 0) rfl rfl) ?_
 refine KD.v0 rfl rfl (Val.loadP rfl rfl (Sees.cell byTake rfl)) ?_
 refine KD.v0 rfl rfl (Val.move rfl) ?_
 refine KD.v0 rfl rfl (Val.idxSl rfl rfl rfl (Sli.own byTakeL (by assumption) byLen) rfl byLt) ?_
 refine KD.v0 rfl rfl (Val.fieldSl (k := 2) rfl rfl) ?_
 refine KD.v0 rfl rfl (Val.loadP rfl rfl (Sees.sl (Sli.own byTakeL (by assumption) byLen) (by assumption) rfl)) ?_
 refine KD.v0 rfl rfl (Val.assign rfl) ?_
 refine KD.v0 rfl rfl (Val.assign rfl) ?_
 refine KD.v0 rfl rfl (Val.assign rfl) ?_
 refine KD.nil ?_
 refine KE.next ?_
 refine K.ret ?_
 exact KE.fin byMarks rfl byRes (by first | exact byPart | (simp only [rowH_app, memH_app, planH_app]; exact byPart)) ⟨rfl, rfl⟩
theorem Of0_E {w0 : World} {F : Heap} {p : PlanM} {k : Int} (ok : PlanOk p) (hk : ¬ (0 ≤ k ∧ k < (p.g.m : Nat))) :
  Call Tryz.prog w0 148 [.pointer (some ⟨p.b, 0, none⟩), .int .i64 k] (planH p ++ F) (fun r H' => r = .tuple [.int .i64 0, .int .i64 0, .int .i64 2].toArray ∧ H' = planH p ++ F) := by
 have ho := ok.o
 have hpl : p.g.parts.length = p.g.m := parts_len
 refine Call.enter2 (n := 38) (by kernel_rfl) Tryz.func148 rfl rfl rfl ?_
 by_cases h0 : k < 0
 ·refine K.seq ?_
  refine K.region ?_
  refine KL.v rfl (Val.assign rfl) ?_
  refine KL.v rfl (Val.assign rfl) ?_
  refine KL.v rfl (Val.assign rfl) ?_
  refine KL.nil (KE.next (K.seq (K.block (K.seq (K.region ?_)))))
  refine KL.v rfl (Val.move rfl) ?_
  refine KL.callc rfl rfl byEvL fun T hT => ?_
  refine (CallV.fn (plnone_K ok)).mono ?_
  rintro _ _ ⟨rfl, rfl⟩
  refine hT _ _ ?_; clear hT T
  simp only [rowH_app, memH_app, planH_app]
  refine KL.v rfl (Val.assign rfl) ?_
  refine KL.nil (KE.next (K.condF rfl (K.seq (K.region ?_))))
  refine KL.v rfl (Val.move rfl) ?_
  refine KL.v rfl (Val.isT (Val.lss rfl rfl) byLt) ?_
  refine KL.v rfl (Val.move rfl) ?_
  refine KL.skipG rfl rfl rfl ?_
  refine KL.skipG rfl rfl rfl ?_
  refine KL.skipG rfl rfl rfl ?_
  refine KL.skipG rfl rfl rfl ?_
  refine KL.skipG rfl rfl rfl ?_
  refine KL.skipG rfl rfl rfl ?_
  refine KL.skipG rfl rfl rfl ?_
  refine KL.v rfl (Val.pickT rfl rfl rfl) ?_
  refine KL.v rfl (Val.assign rfl) ?_
  refine KL.nil (KE.next (K.condT rfl (K.seq (K.region ?_))))
  refine KL.v rfl (Val.assign rfl) ?_
  refine KL.v rfl (Val.assign rfl) ?_
  refine KL.v rfl (Val.assign rfl) ?_
  refine KL.nil (KE.next ?_)
  refine K.ret ?_
  refine KE.blkR ?_
  refine KE.passR ?_
  exact KE.fin byMarks rfl byRes (by first | exact byPart | (simp only [rowH_app, memH_app, planH_app]; exact byPart)) ⟨rfl, rfl⟩
 ·have hge : k ≥ ((p.g.parts.length : Nat) : Int) := by omega
  refine K.seq (K.region ?_)
  refine KL.v rfl (Val.assign rfl) ?_
  refine KL.v rfl (Val.assign rfl) ?_
  refine KL.v rfl (Val.assign rfl) ?_
  refine KL.nil (KE.next (K.seq (K.block (K.seq (K.region ?_)))))
  refine KL.v rfl (Val.move rfl) ?_
  refine KL.callc rfl rfl byEvL fun T hT => ?_
  refine (CallV.fn (plnone_K ok)).mono ?_
  rintro _ _ ⟨rfl, rfl⟩
  refine hT _ _ ?_; clear hT T
  simp only [rowH_app, memH_app, planH_app]
  refine KL.v rfl (Val.assign rfl) ?_
  refine KL.nil (KE.next (K.condF rfl (K.seq (K.region ?_))))
  refine KL.v rfl (Val.move rfl) ?_
  refine KL.v rfl (Val.isF (Val.lss rfl rfl) byLt) ?_
  refine KL.v rfl (Val.move rfl) ?_
  refine KL.yes rfl rfl ?_; refine KL.v rfl (Val.move rfl) ?_
  refine KL.yes rfl rfl ?_; refine KL.v rfl (Val.move rfl) ?_
  refine KL.yes rfl rfl ?_; refine KL.v rfl (Val.nilCheck rfl) ?_
  refine KL.yes rfl rfl ?_; refine KL.v rfl (Val.fieldAddr0 (k := 0) rfl rfl) ?_
  refine KL.yes rfl rfl ?_; refine KL.v rfl (Val.loadP rfl rfl (Sees.cell byTake rfl)) ?_
  refine KL.yes rfl rfl ?_; refine KL.v rfl (Val.lenSl rfl rfl (Sli.own byTakeL (by assumption) byLen)) ?_
  refine KL.yes rfl rfl ?_; refine KL.v rfl (Val.isT (Val.geq rfl rfl) byLt) ?_
  refine KL.v rfl (Val.pickF rfl rfl rfl) ?_
  refine KL.v rfl (Val.assign rfl) ?_
  refine KL.nil (KE.next (K.condT rfl (K.seq (K.region ?_))))
  refine KL.v rfl (Val.assign rfl) ?_
  refine KL.v rfl (Val.assign rfl) ?_
  refine KL.v rfl (Val.assign rfl) ?_
  refine KL.nil (KE.next ?_)
  refine K.ret ?_
  refine KE.blkR ?_
  refine KE.passR ?_
  exact KE.fin byMarks rfl byRes (by first | exact byPart | (simp only [rowH_app, memH_app, planH_app]; exact byPart)) ⟨rfl, rfl⟩
def ptsP (g : PlG) (k : Nat) : List PartP := (List.range k).map g.pt
theorem pts_succ (g : PlG) (k : Nat) : ptsP g k ++ [g.pt k] = ptsP g (k + 1) := by simp [ptsP, List.range_succ]
theorem pts_len (g : PlG) (k : Nat) : (ptsP g k).length = k := by simp [ptsP]
structure NwS where
 k : Nat
 o : Own
theorem pNew_K {w0 : World} {F : Heap} {c : Cfg} {vc vt : Value} {t : Int} (hR : CfgR w0 F c vc vt) (ht : thereP c t 0 = true) :
  Call Tryz.prog w0 22 [cfgV c vc vt, .int .i64 t] F (fun r H' => ∃ p : PlanM, PlanOk p ∧ p.g = gOf c t ∧ r = .tuple [.pointer (some ⟨p.b, 0, none⟩), .int .i64 0].toArray ∧ H' = planH p ++ F) := by
 have ga := g_at ht
 obtain ⟨g, hg⟩ : ∃ g, g = gOf c t := ⟨_, rfl⟩
 rw [← hg] at ga ⊢
 have hreg := fun A (hp : Part A F) => Region_K (t := t) (hR.part hp)
 have hsl := fun A (k : Nat) (hp : Part A F) => Slots_K (t := t) (k := (k : Nat)) (hR.part hp)
 have hpg := fun A (k : Nat) (hp : Part A F) => Pages_K (t := t) (k := (k : Nat)) (hR.part hp)
 rw [ga.region] at hreg
 have ok := ga.ok
 have hm := ok.m
 have hgm := ga.m
 have hgy := ga.y
 have hgs := ga.slots
 have hgp := ga.pages
 have hgpg := ga.page
 have hpgl := ok.pg
 obtain ⟨hS, hT', o1, o2, l1, l2⟩ := hR
 obtain ⟨cl, page, tn, workers, grey, gens⟩ := c
 dsimp only at hS hT' l1 l2 hgm hgy hgpg
 simp only [cfgV, cfgL] at hreg hsl hpg ⊢
 subst hgpg
 simp only [prV] at hreg hsl hpg
 clear ga hg ht
 have f0 : g.first 0 = 0 := rfl
 have q0 : g.page 0 = 0 := rfl
 refine Call.enter2 (n := 92) (by kernel_rfl) Tryz.func22 rfl rfl rfl ?_
 refine K.seq (K.region ?_)
 refine KL.e rfl (Eff.box rfl rfl) ?_; rintro _ _ ⟨b2, rfl, rfl⟩
 refine KL.v rfl (Val.assign rfl) ?_
 refine KL.v rfl (Val.assign rfl) ?_
 refine KL.nil (KE.next (K.seq (K.seq (K.region ?_))))
 refine KL.v rfl (Val.loadA rfl rfl rfl bySeeN) ?_
 refine KL.v rfl (Val.move rfl) ?_
 refine KL.callc rfl rfl byEvL fun T hT => ?_
 refine (CallV.fn (hreg _ byPart)).mono ?_
 rintro _ _ ⟨rfl, rfl⟩
 refine hT _ _ ?_; clear hT T
 refine KL.v rfl (Val.move rfl) ?_
 refine KL.v rfl (Val.extract rfl rfl) ?_
 refine KL.v rfl (Val.extract rfl rfl) ?_
 refine KL.v rfl (Val.assign rfl) ?_
 refine KL.v rfl (Val.assign rfl) ?_
 refine KL.nil (KE.next (K.seq (K.region ?_)))
 refine KL.v rfl (Val.move rfl) ?_
 refine KL.v rfl (Val.isF (Val.neq rfl rfl) byLt) ?_
 refine KL.nil (KE.next (K.condF rfl (K.skip (KE.next (K.seq (K.region ?_))))))
 refine KL.v rfl (Val.fieldAddr0 (k := 1) rfl rfl) ?_
 refine KL.v rfl (Val.loadP rfl rfl (Sees.cell byTake rfl)) ?_
 refine KL.v rfl (Val.build byParts rfl rfl byFill) ?_
 refine KL.e rfl (Eff.box rfl rfl) ?_; rintro _ _ ⟨b27, rfl, rfl⟩
 refine KL.v rfl (Val.assign rfl) ?_
 refine KL.nil (KE.next (K.seq (K.seq (K.region ?_))))
 refine KL.v rfl (Val.fieldAddr0 (k := 0) rfl rfl) ?_
 refine KL.v rfl (Val.loadP rfl rfl (Sees.cell byTake rfl)) ?_
 refine KL.v rfl (Val.lenSl rfl rfl bySli) ?_
 refine KL.v rfl (Val.move rfl) ?_
 refine KL.nil (KE.next (K.block ?_))
 refine K.loopT (σ := NwS) [(1, _), (2, _), (8, _), (29, _), (30, _)] (fun s kp_ => (31, .int .i64 (s.k : Nat)) :: kp_) (fun s => (b27, cells [oV s.o (ptsP g s.k).length, .int .i64 (g.first s.k : Nat), .int .i64 (g.page s.k : Nat), .int .i64 (g.pg : Nat)] 173) :: (oH partE 176 (ptsP g s.k) s.o ++ ((b2, cells [vc, .int .i64 (g.pg : Nat), vt, .int .i64 workers, .int .i64 grey, .int .i64 gens] 25) :: F))) (fun s => s.k ≤ g.m ∧ oOk partE (ptsP g s.k) s.o) (fun s => g.m - s.k) (⟨0, none⟩) bySub byPart (⟨Nat.zero_le _, rfl⟩) ?_
 rintro ⟨k, o⟩ ⟨hk, hok⟩
 dsimp only at hk hok ⊢
 by_cases hlt : k < g.m
 ·obtain ⟨y, hy⟩ := get_of_lt (l := cl) (k := k) (by omega)
  have hyk := hgy k y hy
  subst hyk
  have hkl : k < cl.length := by omega
  have hsl1 := fun A hp => hsl A k hp
  have hpg1 := fun A hp => hpg A k hp
  rw [hgs k hlt] at hsl1
  rw [hgp k hlt] at hpg1
  have y1 := ok.y k hlt
  have hper : ((g.pg : Nat) : Int) / ((g.y k : Nat) : Int) = ((g.per k : Nat) : Int) := rfl
  have b1 := ok.first (show k ≤ g.m by omega)
  have b2' := ok.page (show k ≤ g.m by omega)
  have b3 := ok.n hlt
  have b4 := ok.pgs hlt
  have e1 : ((g.first k : Nat) : Int) + ((g.n k : Nat) : Int) = ((g.first (k + 1) : Nat) : Int) := rfl
  have e2 : ((g.page k : Nat) : Int) + ((g.pgs k : Nat) : Int) = ((g.page (k + 1) : Nat) : Int) := rfl
  have hptl := pts_len g k
  have hptb : (ptsP g (k + 1)).length ≤ 4294967296 := by rw [pts_len]; omega
  dsimp only at hsl1 hpg1
  clear hsl hpg hgs hgp hgy
  refine K.seq (K.region ?_)
  refine KL.v rfl (Val.isT (Val.lss rfl rfl) byLt) ?_
  refine KL.nil (KE.next (K.seq (K.condT rfl (K.skip (KE.next (K.seq (K.block (K.seq (K.region ?_)))))))))
  refine KL.v rfl (Val.move rfl) ?_
  refine KL.v rfl (Val.idxSl rfl rfl rfl bySli rfl byLt) ?_
  refine KL.v rfl (Val.loadP rfl rfl bySee) ?_
  refine KL.v rfl (Val.assign rfl) ?_
  refine KL.v rfl (Val.assign rfl) ?_
  refine KL.nil (KE.next (K.seq (K.region ?_)))
  refine KL.v rfl (Val.loadA rfl rfl rfl bySeeN) ?_
  refine KL.v rfl (Val.move rfl) ?_
  refine KL.v rfl (Val.move rfl) ?_
  refine KL.callc rfl rfl byEvL fun T hT => ?_
  refine (CallV.fn (hsl1 _ byPart)).mono ?_
  rintro _ _ ⟨rfl, rfl⟩
  refine hT _ _ ?_; clear hT T
  refine KL.v rfl (Val.move rfl) ?_
  refine KL.v rfl (Val.extract rfl rfl) ?_
  refine KL.v rfl (Val.extract rfl rfl) ?_
  refine KL.v rfl (Val.assign rfl) ?_
  refine KL.v rfl (Val.assign rfl) ?_
  refine KL.nil (KE.next (K.seq (K.region ?_)))
  refine KL.v rfl (Val.loadA rfl rfl rfl bySeeN) ?_
  refine KL.v rfl (Val.move rfl) ?_
  refine KL.v rfl (Val.move rfl) ?_
  refine KL.callc rfl rfl byEvL fun T hT => ?_
  refine (CallV.fn (hpg1 _ byPart)).mono ?_
  rintro _ _ ⟨rfl, rfl⟩
  refine hT _ _ ?_; clear hT T
  refine KL.v rfl (Val.move rfl) ?_
  refine KL.v rfl (Val.extract rfl rfl) ?_
  refine KL.v rfl (Val.extract rfl rfl) ?_
  refine KL.v rfl (Val.assign rfl) ?_
  refine KL.v rfl (Val.assign rfl) ?_
  refine KL.nil (KE.next ?_)
  refine byCodeD ?_
  (first | refine K.seq (K.drawn ((b27, cells [oV o (ptsP g k).length, .int .i64 (g.first k : Nat), .int .i64 (g.page k : Nat), .int .i64 (g.pg : Nat)] 173) :: []) [(0, 1), (1, 1), (2, 1), (3, 1), (4, 1), (5, 0), (6, 0), (7, 0), (8, 0), (9, 0), (10, 0), (11, 0), (12, 0), (13, 0), (14, 0), (15, 0), (16, 0), (17, 0), (18, 0), (19, 0), (20, 2), (21, 2), (22, 0), (23, 0), (24, 4)] (by kernel_rfl) (by kernel_rfl) (by kernel_rfl) (by kernel_rfl) (by kernel_rfl) (by kernel_rfl) byPart ?_) | refine K.seq (K.seq (K.drawn ((b27, cells [oV o (ptsP g k).length, .int .i64 (g.first k : Nat), .int .i64 (g.page k : Nat), .int .i64 (g.pg : Nat)] 173) :: []) [(0, 1), (1, 1), (2, 1), (3, 1), (4, 1), (5, 0), (6, 0), (7, 0), (8, 0), (9, 0), (10, 0), (11, 0), (12, 0), (13, 0), (14, 0), (15, 0), (16, 0), (17, 0), (18, 0), (19, 0), (20, 2), (21, 2), (22, 0), (23, 0), (24, 4)] (by kernel_rfl) (by kernel_rfl) (by kernel_rfl) (by kernel_rfl) (by kernel_rfl) (by kernel_rfl) byPart ?_)) | refine K.drawn ((b27, cells [oV o (ptsP g k).length, .int .i64 (g.first k : Nat), .int .i64 (g.page k : Nat), .int .i64 (g.pg : Nat)] 173) :: []) [(0, 1), (1, 1), (2, 1), (3, 1), (4, 1), (5, 0), (6, 0), (7, 0), (8, 0), (9, 0), (10, 0), (11, 0), (12, 0), (13, 0), (14, 0), (15, 0), (16, 0), (17, 0), (18, 0), (19, 0), (20, 2), (21, 2), (22, 0), (23, 0), (24, 4)] (by kernel_rfl) (by kernel_rfl) (by kernel_rfl) (by kernel_rfl) (by kernel_rfl) (by kernel_rfl) byPart ?_)
  refine KD.v1 rfl rfl (Val.move rfl) ?_
  refine KD.v1 rfl rfl (Val.move rfl) ?_
  (first | refine KD.v1 rfl rfl (Val.nilCheck rfl) ?_ | refine KD.v1 rfl rfl (Val.nilCheckF rfl) ?_ | refine KD.v1 rfl rfl (Val.nilCheckY rfl) ?_)
  (first | refine KD.v1 rfl rfl (Val.fieldSl (k := 0) rfl rfl) ?_ | refine KD.v1 rfl rfl (Val.fieldAddr0 (k := 0) rfl rfl) ?_ | refine KD.v1 rfl rfl (Val.fieldAddrZ rfl rfl) ?_ | refine KD.v1 rfl rfl (Val.fieldAddr (k := 0) rfl rfl) ?_)
  (first | refine KD.v1 rfl rfl (Val.loadP rfl rfl bySee) ?_ | refine KD.v1 rfl rfl (Val.loadP rfl rfl (Sees.more (by assumption) byPart)) ?_)
  refine KD.v0 rfl rfl (Val.move rfl) ?_
  refine KD.v0 rfl rfl (Val.move rfl) ?_
  (first | refine KD.v0 rfl rfl (Val.nilCheck rfl) ?_ | refine KD.v0 rfl rfl (Val.nilCheckF rfl) ?_ | refine KD.v0 rfl rfl (Val.nilCheckY rfl) ?_)
  (first | refine KD.v0 rfl rfl (Val.fieldSl (k := 1) rfl rfl) ?_ | refine KD.v0 rfl rfl (Val.fieldAddr0 (k := 1) rfl rfl) ?_ | refine KD.v0 rfl rfl (Val.fieldAddrZ rfl rfl) ?_ | refine KD.v0 rfl rfl (Val.fieldAddr (k := 1) rfl rfl) ?_)
  (first | refine KD.v0 rfl rfl (Val.loadP rfl rfl bySee) ?_ | refine KD.v0 rfl rfl (Val.loadP rfl rfl (Sees.more (by assumption) byPart)) ?_)
  refine KD.v0 rfl rfl (Val.move rfl) ?_
  refine KD.v0 rfl rfl (Val.move rfl) ?_
  (first | refine KD.v0 rfl rfl (Val.nilCheck rfl) ?_ | refine KD.v0 rfl rfl (Val.nilCheckF rfl) ?_ | refine KD.v0 rfl rfl (Val.nilCheckY rfl) ?_)
  (first | refine KD.v0 rfl rfl (Val.fieldSl (k := 2) rfl rfl) ?_ | refine KD.v0 rfl rfl (Val.fieldAddr0 (k := 2) rfl rfl) ?_ | refine KD.v0 rfl rfl (Val.fieldAddrZ rfl rfl) ?_ | refine KD.v0 rfl rfl (Val.fieldAddr (k := 2) rfl rfl) ?_)
  (first | refine KD.v0 rfl rfl (Val.loadP rfl rfl bySee) ?_ | refine KD.v0 rfl rfl (Val.loadP rfl rfl (Sees.more (by assumption) byPart)) ?_)
  (first | refine KD.v0 rfl rfl (Val.fieldSl (k := 1) rfl rfl) ?_ | refine KD.v0 rfl rfl (Val.fieldAddr0 (k := 1) rfl rfl) ?_ | refine KD.v0 rfl rfl (Val.fieldAddrZ rfl rfl) ?_ | refine KD.v0 rfl rfl (Val.fieldAddr (k := 1) rfl rfl) ?_)
  (first | refine KD.v0 rfl rfl (Val.loadP rfl rfl bySee) ?_ | refine KD.v0 rfl rfl (Val.loadP rfl rfl (Sees.more (by assumption) byPart)) ?_)
  refine KD.v0 rfl rfl (Val.move rfl) ?_
  (first | refine KD.v0 rfl rfl (Val.quoN rfl rfl (by simp only [qL, qH]; omega)) ?_ | refine KD.v0 rfl rfl (Val.quo rfl rfl (by omega)) ?_)
  refine KD.v0 rfl rfl (Val.build byParts rfl rfl byFill) ?_
  refine KD.e rfl rfl (Eff.buildS byParts rfl rfl rfl rfl rfl byFill) ?_; rintro _ _ ⟨b70, rfl, rfl⟩; refine ⟨byPart, ?_⟩
  -- STOP at region 10 op 21: {"h": "Op.call", "a": [{"callee": {"h": "Callee.builtin", "a": ["Builtin.append"]}, "args": [{"h": "Operand.tmp", "a": [54]}, {"h": "Operand.tmp", "a": [70]}], "argTypes": [171, 171]}]}
  refine KD.e rfl rfl (Eff.appZ (E := partE) (xs := ptsP g k) (o := o) (ys := [g.pt k]) (zs := ptsP g (k + 1)) rfl rfl rfl rfl rfl rfl byTakeL (by assumption) (by first | exact Sli.blk byTake rfl (by first | decide | simp) (by first | decide | (unfold maxLen; omega)) rfl | exact Sli.old (by assumption) | exact Sli.own byTakeL (by assumption) byLen | assumption | exact Sli.part (by assumption) byPart) (pts_succ g k) (by first | assumption | omega | (simp <;> fail) | (simp; omega)) rfl) ?_; rintro _ _ ⟨o', ok', rfl, rfl⟩; refine ⟨byPart, ?_⟩
  (first | refine KD.v0 rfl rfl (Val.nilCheck rfl) ?_ | refine KD.v0 rfl rfl (Val.nilCheckF rfl) ?_ | refine KD.v0 rfl rfl (Val.nilCheckY rfl) ?_)
  (first | refine KD.v0 rfl rfl (Val.fieldSl (k := 0) rfl rfl) ?_ | refine KD.v0 rfl rfl (Val.fieldAddr0 (k := 0) rfl rfl) ?_ | refine KD.v0 rfl rfl (Val.fieldAddrZ rfl rfl) ?_ | refine KD.v0 rfl rfl (Val.fieldAddr (k := 0) rfl rfl) ?_)
  (first | (refine KD.eNX rfl (Eff.storeL rfl rfl byOne rfl byTake bySetAt) ?_; rintro _ _ rfl) | (refine KD.eNX rfl (Eff.stSl rfl rfl rfl rfl byTakeL (by assumption) (by assumption) rfl rfl) ?_; rintro _ _ rfl) | (refine KD.eNX rfl (Eff.stSl0 rfl rfl rfl rfl byTakeL (by assumption) (by assumption) rfl rfl) ?_; rintro _ _ rfl))
  refine KD.nil ?_
  refine KE.next (K.seq (K.region ?_))
  refine KL.v rfl (Val.move rfl) ?_
  refine KL.v rfl (Val.nilCheck rfl) ?_
  refine KL.v rfl (Val.fieldAddr0 (k := 1) rfl rfl) ?_
  refine KL.v rfl (Val.loadP rfl rfl (Sees.cell byTake rfl)) ?_
  refine KL.v rfl (Val.move rfl) ?_
  refine KL.v rfl (Val.add rfl rfl (by simp only [qL, qH]; omega)) ?_
  refine KL.v rfl (Val.nilCheck rfl) ?_
  refine KL.v rfl (Val.fieldAddr0 (k := 1) rfl rfl) ?_
  refine KL.eN (Eff.storeL rfl rfl byOne rfl byTake bySetAt) ?_; rintro _ _ rfl
  refine KL.nil (KE.next (K.region ?_))
  refine KL.v rfl (Val.move rfl) ?_
  refine KL.v rfl (Val.nilCheck rfl) ?_
  refine KL.v rfl (Val.fieldAddr0 (k := 2) rfl rfl) ?_
  refine KL.v rfl (Val.loadP rfl rfl (Sees.cell byTake rfl)) ?_
  refine KL.v rfl (Val.move rfl) ?_
  refine KL.v rfl (Val.add rfl rfl (by simp only [qL, qH]; omega)) ?_
  refine KL.v rfl (Val.nilCheck rfl) ?_
  refine KL.v rfl (Val.fieldAddr0 (k := 2) rfl rfl) ?_
  refine KL.eN (Eff.storeL rfl rfl byOne rfl byTake bySetAt) ?_; rintro _ _ rfl
  refine KL.nil ?_
  refine KE.blkN ?_
  refine KE.next (K.region ?_)
  refine KL.v rfl (Val.add rfl rfl (by simp only [qL, qH]; omega)) ?_
  refine KL.v rfl (Val.move rfl) ?_
  refine KL.nil ?_
  rw [e1, e2]
  exact KE.again ⟨k + 1, o'⟩ bySub byPart ⟨hlt, ok'⟩ (by show g.m - (k + 1) < g.m - k; omega)
 ·have hke : k = g.m := by omega
  subst hke
  refine K.seq (K.region ?_)
  refine KL.v rfl (Val.isF (Val.lss rfl rfl) byLt) ?_
  refine KL.nil (KE.next (K.seq (K.condF rfl ?_)))
  refine K.exit ?_
  refine KE.passX ?_
  refine KE.passX ?_
  refine KE.blkX ?_
  refine KE.next (K.seq (K.region ?_))
  refine KL.v rfl (Val.move rfl) ?_
  refine KL.v rfl (Val.assign rfl) ?_
  refine KL.v rfl (Val.assign rfl) ?_
  refine KL.nil (KE.next ?_)
  refine K.ret ?_
  exact KE.fin (H' := planH ⟨b27, g, o⟩ ++ F) byMarks rfl byRes (by rw [planH_app]; exact byPart) ⟨⟨b27, g, o⟩, ⟨ok, hok⟩, rfl, rfl, rfl⟩
open Go.RowKit
set_option maxRecDepth 10000
structure SwP where
 A : List Bool
 R : List (List Int)
 C : List Int
 act : Bool
 at_ : Nat
 D : List Bool
def SwP.x (s : SwP) : List Int := (s.R[0]?).getD []
structure SwOk (g : PlG) (s : SwP) : Prop where
 A : s.A.length = g.slots
 C : s.C.length = g.slots
 D : s.D.length = g.slots
 R : s.R[0]? = some s.x
 x : s.x.length = g.words
 w : WdOk s.x
 c : ∀ v ∈ s.C, v = 0 ∨ v = 2
 at_ : s.at_ ≤ g.slots
 idle : s.act = false → s.at_ = 0 ∧ s.D = List.replicate g.slots false
def stepS (g : PlG) (s : SwP) : SwP × Bool :=
 if s.act = true ∧ s.at_ < g.slots then
  match g.L[s.at_]? with
  | some p => if s.A[s.at_]? = some true ∧ s.C[s.at_]? = some 0 then (⟨s.A, s.R.set 0 (wipeP s.x p), s.C, s.act, s.at_ + 1, s.D.set s.at_ true⟩, true) else (⟨s.A, s.R, s.C, s.act, s.at_ + 1, s.D⟩, true)
  | none => (s, true)
 else (s, false)
def actS (g : PlG) (s : SwP) (w : Nat) (n : Int) : SwP :=
 if w % 6 < 2 then
  (if (takeP g s.A n).2.1 = 0 then
   match g.L[(takeP g s.A n).1.toNat]? with
   | some p => ⟨(takeP g s.A n).2.2, s.R.set 0 (setWordP (makeP s.x p ⟨n, 0, 1⟩).2 p 0 7).2, s.C, s.act, s.at_, s.D⟩
   | none => s
  else s)
 else if w % 6 = 2 then
  (if 0 ≤ n ∧ n < (g.slots : Nat) ∧ (s.act = false ∨ s.D[n.toNat]? = some false) then ⟨(giveP s.A n).2, s.R, s.C, s.act, s.at_, s.D⟩ else s)
 else if w % 6 = 3 then
  (if 0 ≤ n ∧ n < (g.slots : Nat) then ⟨s.A, s.R, s.C.set n.toNat 2, s.act, s.at_, s.D⟩ else s)
 else (stepS g s).1
def startS (s : SwP) : SwP := ⟨s.A, s.R, s.C, true, s.at_, s.D⟩
def stopS (g : PlG) (s : SwP) : SwP := ⟨(giveAllP s.A s.D).2, s.R, s.C, false, 0, List.replicate g.slots false⟩
theorem x_set {R : List (List Int)} {x y : List Int} (h : R[0]? = some x) : (R.set 0 y)[0]? = some y := by
 rw [List.getElem?_set_self (lt_of_get h)]
theorem SwOk.putx {g : PlG} {s : SwP} (ok : SwOk g s) {y : List Int} (h1 : y.length = g.words) (h2 : WdOk y) {A : List Bool} (hA : A.length = g.slots) : SwOk g ⟨A, s.R.set 0 y, s.C, s.act, s.at_, s.D⟩ := by
 have e : SwP.x ⟨A, s.R.set 0 y, s.C, s.act, s.at_, s.D⟩ = y := by unfold SwP.x; rw [x_set ok.R]; rfl
 exact ⟨hA, ok.C, ok.D, by rw [e]; exact x_set ok.R, by rw [e]; exact h1, by rw [e]; exact h2, ok.c, ok.at_, ok.idle⟩
theorem L_ex {g : PlG} {i : Nat} (h : i < g.slots) : ∃ p, g.L[i]? = some p := get_of_lt (by rw [L_len]; exact h)
theorem give_len (A : List Bool) (n : Int) : (giveP A n).2.length = A.length := by
 unfold giveP; split
 ·split <;> simp
 ·rfl
theorem less_len : ∀ A D : List Bool, (lessL A D).length = A.length
 | [], D => by cases D <;> rfl
 | a :: A, [] => rfl
 | a :: A, d :: D => by simp [lessL, less_len A D]
theorem giveAll_len (A D : List Bool) : (giveAllP A D).2.length = A.length := by
 unfold giveAllP; split
 ·split
  ·exact less_len _ _
  ·rfl
 ·rfl
theorem take_some {g : PlG} {A : List Bool} {n : Int} (h : (takeP g A n).2.1 = 0) : ∃ (k i : Nat), n = k ∧ k < g.m ∧ freeP A (g.first k) (g.n k) = some i ∧ takeP g A n = ((i : Int), 0, A.set i true) ∧ i < A.length := by
 unfold takeP at h ⊢
 split at h
 ·rename_i hk
  obtain ⟨k, rfl⟩ : ∃ k : Nat, n = k := ⟨n.toNat, by omega⟩
  rw [if_pos hk]
  simp only [Int.toNat_natCast] at h ⊢
  cases hf : freeP A (g.first k) (g.n k) with
  | none => rw [hf] at h; simp at h
  | some i => exact ⟨k, i, rfl, by omega, hf, rfl, lt_of_get (free_some hf).2.2.1⟩
 ·simp at h
theorem actS_ok {g : PlG} (hg : PlOk g) {s : SwP} (ok : SwOk g s) (w : Nat) (n : Int) (hw : w % 6 < 4) : SwOk g (actS g s w n) := by
 unfold actS
 split
 ·split
  ·rename_i h
   obtain ⟨k, i, rfl, hk, hf, he, hi⟩ := take_some h
   rw [he]
   simp only [Int.toNat_natCast]
   split
   ·rename_i p hp
    have hfit := hg.fits hp
    refine ok.putx ?_ ?_ (by rw [List.length_set]; exact ok.A)
    ·rw [setWord_len, make_len (by rw [ok.x]; exact hfit.1)]; exact ok.x
    ·exact setWord_ok (make_ok ok.w) (by omega)
   ·exact ok
  ·exact ok
 ·split
  ·split
   ·exact ⟨by rw [give_len]; exact ok.A, ok.C, ok.D, ok.R, ok.x, ok.w, ok.c, ok.at_, ok.idle⟩
   ·exact ok
  ·split
   ·split
    ·refine ⟨ok.A, by rw [List.length_set]; exact ok.C, ok.D, ok.R, ok.x, ok.w, ?_, ok.at_, ok.idle⟩
     intro v hv
     rcases List.mem_or_eq_of_mem_set hv with h1 | h1
     ·exact ok.c v h1
     ·exact .inr h1
    ·exact ok
   ·omega
theorem stepS_ok {g : PlG} (hg : PlOk g) {s : SwP} (ok : SwOk g s) : SwOk g (stepS g s).1 := by
 unfold stepS
 split
 ·rename_i h
  obtain ⟨p, hp⟩ := L_ex h.2
  rw [hp]
  dsimp only
  have hfit := hg.fits hp
  split
  ·have h1 := ok.putx (y := wipeP s.x p) (by rw [wipe_len (by rw [ok.x]; exact hfit.1)]; exact ok.x) (WdOk.cleared ok.w) ok.A
   exact ⟨h1.A, h1.C, by show (s.D.set s.at_ true).length = _; rw [List.length_set]; exact ok.D, h1.R, h1.x, h1.w, h1.c, h.2, fun he => by rw [h.1] at he; cases he⟩
  ·exact ⟨ok.A, ok.C, ok.D, ok.R, ok.x, ok.w, ok.c, h.2, fun he => by rw [h.1] at he; cases he⟩
 ·exact ok
theorem actS_ok' {g : PlG} (hg : PlOk g) {s : SwP} (ok : SwOk g s) (w : Nat) (n : Int) : SwOk g (actS g s w n) := by
 by_cases hw : w % 6 < 4
 ·exact actS_ok hg ok w n hw
 ·unfold actS
  rw [if_neg (by omega), if_neg (by omega), if_neg (by omega)]
  exact stepS_ok hg ok
theorem startS_ok {g : PlG} {s : SwP} (ok : SwOk g s) : SwOk g (startS s) := ⟨ok.A, ok.C, ok.D, ok.R, ok.x, ok.w, ok.c, ok.at_, fun h => by cases h⟩
theorem stopS_ok {g : PlG} {s : SwP} (ok : SwOk g s) : SwOk g (stopS g s) := ⟨by show (giveAllP s.A s.D).2.length = _; rw [giveAll_len]; exact ok.A, ok.C, by simp [stopS], ok.R, ok.x, ok.w, ok.c, Nat.zero_le _, fun _ => ⟨rfl, rfl⟩⟩
theorem step_act {g : PlG} {s : SwP} : (stepS g s).1.act = s.act := by
 unfold stepS; split
 ·split
  ·split <;> rfl
  ·rfl
 ·rfl
theorem actS_act {g : PlG} {s : SwP} {w : Nat} {n : Int} : (actS g s w n).act = s.act := by
 unfold actS
 split
 ·split
  ·split <;> rfl
  ·rfl
 ·split
  ·split <;> rfl
  ·split
   ·split <;> rfl
   ·exact step_act
def goneP (s : SwP) (i : Nat) : Bool := (s.A[i]?).getD false && decide (s.C[i]? = some 0)
structure Run (g : PlG) (s : SwP) (j : Nat) (t : SwP) : Prop where
 A : t.A = s.A
 C : t.C = s.C
 act : t.act = true
 at_ : t.at_ = j
 dl : t.D.length = g.slots
 D : ∀ i, i < g.slots → t.D[i]? = some (decide (i < j) && goneP s i)
 tl : t.R.tail = s.R.tail
 R : t.R[0]? = some t.x
 xl : t.x.length = g.words
 x : ∀ i p, g.L[i]? = some p → ∀ a, p.addr ≤ a → a < p.addr + p.size → t.x[a]? = if decide (i < j) && goneP s i then some 0 else s.x[a]?
theorem Run.ok {g : PlG} {s t : SwP} {j : Nat} (hg : PlOk g) (h : Run g s j t) (ok : SwOk g t) (hj : j < g.slots) : ∃ t', stepS g t = (t', true) ∧ Run g s (j + 1) t' := by
 obtain ⟨p, hp⟩ := L_ex hj
 have hfit := hg.fits hp
 unfold stepS
 rw [if_pos ⟨h.act, by rw [h.at_]; exact hj⟩, h.at_, hp]
 dsimp only
 have hAl : j < s.A.length := by rw [← h.A, ok.A]; exact hj
 have hg' : (s.A[j]? = some true ∧ s.C[j]? = some 0) ↔ goneP s j = true := by
  unfold goneP
  rw [List.getElem?_eq_getElem hAl]
  simp
 rw [h.A, h.C]
 by_cases hc : s.A[j]? = some true ∧ s.C[j]? = some 0
 ·rw [if_pos hc]
  have hgn := hg'.1 hc
  refine ⟨_, rfl, ?_⟩
  have e : SwP.x ⟨s.A, t.R.set 0 (wipeP t.x p), s.C, t.act, j + 1, t.D.set j true⟩ = wipeP t.x p := by unfold SwP.x; rw [x_set h.R]; rfl
  refine ⟨rfl, rfl, h.act, rfl, by rw [List.length_set]; exact h.dl, ?_, ?_, by rw [e]; exact x_set h.R, by rw [e, wipe_len (by rw [h.xl]; exact hfit.1)]; exact h.xl, ?_⟩
  ·intro i hi
   dsimp only
   by_cases hij : i = j
   ·subst hij
    rw [List.getElem?_set_self (by rw [h.dl]; exact hi), hgn]; simp
   ·rw [List.getElem?_set_ne (by omega), h.D i hi]
    congr 2
    exact decide_eq_decide.2 (by omega)
  ·dsimp only
   rw [← h.tl]
   cases t.R <;> rfl
  ·intro i q hq a ha1 ha2
   rw [e]
   have hxl := h.xl
   by_cases hij : i = j
   ·subst hij
    rw [hp] at hq; cases hq
    rw [hgn]
    simp only [Nat.lt_succ_self, decide_true, Bool.and_self, if_true]
    unfold wipeP Go.Proofs.YtalholahapcpkaaGreatDoor.cleared
    rw [List.append_assoc, List.getElem?_append_right (by rw [List.length_take]; omega), List.getElem?_append_left (by rw [List.length_replicate, List.length_take]; omega), List.getElem?_replicate, if_pos (by rw [List.length_take]; omega)]
   ·have hap := hg.apart hq hp hij
    rw [show (decide (i < j + 1) && goneP s i) = (decide (i < j) && goneP s i) by congr 1; exact decide_eq_decide.2 (by omega), ← h.x i q hq a ha1 ha2]
    have hfq := hg.fits hq
    unfold wipeP Go.Proofs.YtalholahapcpkaaGreatDoor.cleared
    rcases Nat.lt_or_ge a p.addr with h1 | h1
    ·rw [List.append_assoc, List.getElem?_append_left (by rw [List.length_take]; omega), List.getElem?_take_of_lt h1]
    ·rw [List.getElem?_append_right (by rw [List.length_append, List.length_take, List.length_replicate]; omega), List.getElem?_drop]
     congr 1
     rw [List.length_append, List.length_take, List.length_replicate]; omega
 ·rw [if_neg hc]
  have hgn : goneP s j = false := by
   cases hx : goneP s j with
   | false => rfl
   | true => exact absurd (hg'.2 hx) hc
  refine ⟨_, rfl, ⟨rfl, rfl, h.act, rfl, h.dl, ?_, h.tl, h.R, h.xl, ?_⟩⟩
  ·intro i hi
   dsimp only
   rw [h.D i hi]
   by_cases hij : i = j
   ·subst hij; rw [hgn]; simp
   ·congr 2
    exact decide_eq_decide.2 (by omega)
  ·intro i q hq a ha1 ha2
   have := h.x i q hq a ha1 ha2
   show t.x[a]? = _
   rw [this]
   by_cases hij : i = j
   ·subst hij; rw [hgn]; simp
   ·rw [show (decide (i < j + 1) && goneP s i) = (decide (i < j) && goneP s i) by congr 1; exact decide_eq_decide.2 (by omega)]
theorem run_start {g : PlG} {s : SwP} (ok : SwOk g s) (hi : s.act = false) : Run g s 0 (startS s) := by
 obtain ⟨h1, h2⟩ := ok.idle hi
 refine ⟨rfl, rfl, rfl, h1, ok.D, fun i hi => ?_, rfl, ok.R, ok.x, fun i p hp a h1 h2 => by simp; rfl⟩
 show s.D[i]? = _
 rw [h2, List.getElem?_replicate, if_pos hi]; simp
theorem ok_all : ∀ {A D : List Bool}, (∀ i : Nat, D[i]? = some true → A[i]? = some true) → okAll A D = true
 | [], D, _ => by cases D <;> rfl
 | a :: A, [], _ => rfl
 | a :: A, d :: D, h => by
  have h1 := h 0
  simp only [List.getElem?_cons_zero, Option.some.injEq] at h1
  have h2 := ok_all (A := A) (D := D) (fun i hi => by have := h (i + 1); simp only [List.getElem?_cons_succ] at this; exact this hi)
  simp only [okAll, h2, Bool.and_true]
  cases d with
  | false => rfl
  | true => rw [h1 rfl]; rfl
theorem less_get : ∀ {A D : List Bool} (i : Nat), A.length = D.length → (lessL A D)[i]? = (A[i]?).map fun a => a && !((D[i]?).getD false)
 | [], D, i, h => by cases D with
  | nil => simp [lessL]
  | cons d D => simp at h
 | a :: A, [], i, h => by simp at h
 | a :: A, d :: D, 0, h => by simp [lessL]
 | a :: A, d :: D, i + 1, h => by
  simp only [lessL, List.getElem?_cons_succ]
  exact less_get i (by simpa using h)
theorem run_stop {g : PlG} {s t : SwP} (ok : SwOk g s) (h : Run g s g.slots t) : giveAllP t.A t.D = (0, lessL s.A t.D) ∧ ∀ i, i < g.slots → (lessL s.A t.D)[i]? = some ((s.A[i]?).getD false && !goneP s i) := by
 have hl : t.D.length = s.A.length := by rw [h.dl, ok.A]
 constructor
 ·unfold giveAllP
  rw [h.A, if_pos hl, if_pos]
  refine ok_all fun i hi => ?_
  have hil : i < g.slots := by have := lt_of_get hi; rw [h.dl] at this; exact this
  rw [h.D i hil] at hi
  simp only [hil, decide_true, Bool.true_and, Option.some.injEq, goneP, Bool.and_eq_true] at hi
  have hAl : i < s.A.length := by rw [ok.A]; exact hil
  rw [List.getElem?_eq_getElem hAl] at hi ⊢
  simp at hi; simp [hi.1]
 ·intro i hi
  rw [less_get i hl.symm, h.D i hi]
  have hAl : i < s.A.length := by rw [ok.A]; exact hi
  rw [List.getElem?_eq_getElem hAl]
  simp [hi]
open Go.RowKit
set_option maxRecDepth 10000
structure ArM where
 b : Nat
 r : RowM
def arenaH (a : ArM) (p : PlanM) : Heap := (a.b, cells [.pointer (some ⟨p.b, 0, none⟩), .pointer (some ⟨a.r.b, 0, none⟩), .int .i64 (usedL p.g.L a.r.bs : Nat)] 168) :: rowH a.r
theorem arenaH_app {a : ArM} {p : PlanM} {F : Heap} : arenaH a p ++ F = (a.b, cells [.pointer (some ⟨p.b, 0, none⟩), .pointer (some ⟨a.r.b, 0, none⟩), .int .i64 (usedL p.g.L a.r.bs : Nat)] 168) :: (rowH a.r ++ F) := rfl
structure ArOk (a : ArM) (p : PlanM) : Prop where
 pl : PlanOk p
 r : RowOk a.r
 n : a.r.bs.length = p.g.slots
theorem used_bnd {a : ArM} {p : PlanM} (ok : ArOk a p) (A : List Bool) : usedL p.g.L A ≤ 1048576 := by
 have h := used_le (B := 64) (l := p.g.L) (A := A) (fun q hq => by
  obtain ⟨i, hi⟩ := List.getElem?_of_mem hq
  exact (ok.pl.g.fits hi).2.2.1)
 have := ok.pl.g.slots.2
 rw [L_len] at h; omega
def setA (a : ArM) (i : Nat) (v : Bool) : ArM := ⟨a.b, setR a.r i v⟩
theorem setA_ok {a : ArM} {p : PlanM} (ok : ArOk a p) (i : Nat) (v : Bool) : ArOk (setA a i v) p := ⟨ok.pl, setR_ok ok.r i v, by simp [setA, setR, ok.n]⟩
theorem arnone_K {w0 : World} {F : Heap} {a : ArM} {p : PlanM} :
  Call Tryz.prog w0 86 [.pointer (some ⟨a.b, 0, none⟩)] (arenaH a p ++ F) (fun r H' => r = .bool false ∧ H' = arenaH a p ++ F) := by
 refine Call.enter1 (n := 12) (by kernel_rfl) Tryz.func86 rfl rfl rfl ?_
 simp only [rowH_app, planH_app, arenaH_app]
 refine K.seq (K.region ?_)
 refine KL.v rfl (Val.assign rfl) ?_
 refine KL.nil (KE.next (K.seq (K.region ?_)))
 refine KL.v rfl (Val.move rfl) ?_
 refine KL.v rfl (Val.eqlPN rfl rfl rfl) ?_
 refine KL.v rfl (Val.move rfl) ?_
 refine KL.yes rfl rfl ?_; refine KL.v rfl (Val.move rfl) ?_
 refine KL.yes rfl rfl ?_; refine KL.v rfl (Val.nilCheck rfl) ?_
 refine KL.yes rfl rfl ?_; refine KL.v rfl (Val.fieldAddr0 (k := 1) rfl rfl) ?_
 refine KL.yes rfl rfl ?_; refine KL.v rfl (Val.loadP rfl rfl (Sees.cell byTake rfl)) ?_
 refine KL.yes rfl rfl ?_; refine KL.v rfl (Val.eqlPN rfl rfl rfl) ?_
 refine KL.v rfl (Val.pickF rfl rfl rfl) ?_
 refine KL.v rfl (Val.assign rfl) ?_
 refine KL.nil (KE.next ?_)
 refine K.ret ?_
 exact KE.fin byMarks rfl byRes (by first | exact byPart | (simp only [rowH_app, planH_app, arenaH_app]; exact byPart)) ⟨rfl, rfl⟩
theorem Has_K {w0 : World} {F : Heap} {a : ArM} {p : PlanM} {i : Int} (ok : ArOk a p) :
  Call Tryz.prog w0 20 [.pointer (some ⟨a.b, 0, none⟩), .int .i64 i] (arenaH a p ++ F) (fun r H' => r = .bool (getB a.r.bs i) ∧ H' = arenaH a p ++ F) := by
 have okr := ok.r
 refine Call.enter2 (n := 16) (by kernel_rfl) Tryz.func20 rfl rfl rfl ?_
 refine K.seq (K.region ?_)
 refine KL.v rfl (Val.assign rfl) ?_
 refine KL.nil (KE.next (K.seq (K.region ?_)))
 refine KL.v rfl (Val.move rfl) ?_
 refine KL.callc rfl rfl byEvL fun T hT => ?_
 refine (CallV.fn (arnone_K (a := a) (p := p))).mono ?_
 rintro _ _ ⟨rfl, rfl⟩
 refine hT _ _ ?_; clear hT T
 simp only [rowH_app, planH_app, arenaH_app]
 refine KL.v rfl (Val.notF rfl) ?_
 refine KL.v rfl (Val.move rfl) ?_
 refine KL.yes rfl rfl ?_; refine KL.v rfl (Val.move rfl) ?_
 refine KL.yes rfl rfl ?_; refine KL.v rfl (Val.nilCheck rfl) ?_
 refine KL.yes rfl rfl ?_; refine KL.v rfl (Val.fieldAddr0 (k := 1) rfl rfl) ?_
 refine KL.yes rfl rfl ?_; refine KL.v rfl (Val.loadP rfl rfl (Sees.cell byTake rfl)) ?_
 refine KL.yes rfl rfl ?_; refine KL.v rfl (Val.move rfl) ?_
 refine KL.yes rfl rfl ?_; refine KL.callc rfl rfl byEvL fun T hT => ?_
 refine (CallV.part (CallV.fn (Get_K (i := i) okr)) byPart).mono ?_
 rintro _ _ ⟨rfl, rfl⟩
 refine hT _ _ ?_; clear hT T
 simp only [rowH_app, planH_app, arenaH_app]
 refine KL.v rfl (Val.pickT rfl rfl rfl) ?_
 refine KL.v rfl (Val.assign rfl) ?_
 refine KL.nil (KE.next ?_)
 refine K.ret ?_
 exact KE.fin byMarks rfl byRes (by first | exact byPart | (simp only [rowH_app, planH_app, arenaH_app]; exact byPart)) ⟨rfl, rfl⟩
theorem aCount_K {w0 : World} {F : Heap} {a : ArM} {p : PlanM} (ok : ArOk a p) :
  Call Tryz.prog w0 66 [.pointer (some ⟨a.b, 0, none⟩)] (arenaH a p ++ F) (fun r H' => r = .int .i64 (a.r.bs.count true : Nat) ∧ H' = arenaH a p ++ F) := by
 have okr := ok.r
 refine Call.enter1 (n := 10) (by kernel_rfl) Tryz.func66 rfl rfl rfl ?_
 refine K.seq (K.region ?_)
 refine KL.v rfl (Val.assign rfl) ?_
 refine KL.nil (KE.next (K.seq (K.seq (K.region ?_))))
 refine KL.v rfl (Val.move rfl) ?_
 refine KL.callc rfl rfl byEvL fun T hT => ?_
 refine (CallV.fn (arnone_K (a := a) (p := p))).mono ?_
 rintro _ _ ⟨rfl, rfl⟩
 refine hT _ _ ?_; clear hT T
 simp only [rowH_app, planH_app, arenaH_app]
 refine KL.nil (KE.next (K.condF rfl (K.skip (KE.next (K.seq (K.region ?_))))))
 refine KL.v rfl (Val.move rfl) ?_
 refine KL.v rfl (Val.nilCheck rfl) ?_
 refine KL.v rfl (Val.fieldAddr0 (k := 1) rfl rfl) ?_
 refine KL.v rfl (Val.loadP rfl rfl (Sees.cell byTake rfl)) ?_
 refine KL.callc rfl rfl byEvL fun T hT => ?_
 refine (CallV.part (CallV.fn (Count_K okr)) byPart).mono ?_
 rintro _ _ ⟨rfl, rfl⟩
 refine hT _ _ ?_; clear hT T
 simp only [rowH_app, planH_app, arenaH_app]
 refine KL.v rfl (Val.assign rfl) ?_
 refine KL.nil (KE.next ?_)
 refine K.ret ?_
 exact KE.fin byMarks rfl byRes (by first | exact byPart | (simp only [rowH_app, planH_app, arenaH_app]; exact byPart)) ⟨rfl, rfl⟩
theorem aCopy_K {w0 : World} {F : Heap} {a : ArM} {p : PlanM} (ok : ArOk a p) :
  Call Tryz.prog w0 95 [.pointer (some ⟨a.b, 0, none⟩)] (arenaH a p ++ F) (fun r H' => ∃ a' : ArM, ArOk a' p ∧ a'.r.bs = a.r.bs ∧ r = .pointer (some ⟨a'.b, 0, none⟩) ∧ H' = arenaH a' p ++ (arenaH a p ++ F)) := by
 have okr := ok.r
 refine Call.enter1 (n := 20) (by kernel_rfl) Tryz.func95 rfl rfl rfl ?_
 refine K.seq (K.region ?_)
 refine KL.v rfl (Val.assign rfl) ?_
 refine KL.nil (KE.next (K.seq (K.seq (K.region ?_))))
 refine KL.v rfl (Val.move rfl) ?_
 refine KL.callc rfl rfl byEvL fun T hT => ?_
 refine (CallV.fn (arnone_K (a := a) (p := p))).mono ?_
 rintro _ _ ⟨rfl, rfl⟩
 refine hT _ _ ?_; clear hT T
 simp only [rowH_app, planH_app, arenaH_app]
 refine KL.nil (KE.next (K.condF rfl (K.skip (KE.next (K.seq ?_)))))
 refine K.drawn _ [(0, 1), (1, 1), (2, 1), (3, 1), (4, 0), (5, 0), (6, 0), (7, 0), (9, 1), (10, 1), (11, 1), (12, 1), (8, 2), (13, 0), (14, 2), (15, 0)] (by kernel_rfl) (by kernel_rfl) (by kernel_rfl) (by kernel_rfl) (by kernel_rfl) (by kernel_rfl) Part.all ?_
 refine KD.v1 rfl rfl (Val.move rfl) ?_
 refine KD.v1 rfl rfl (Val.nilCheck rfl) ?_
 refine KD.v1 rfl rfl (Val.fieldAddr0 (k := 0) rfl rfl) ?_
 refine KD.v1 rfl rfl (Val.loadP rfl rfl (Sees.cell byTake rfl)) ?_
 refine KD.v0 rfl rfl (Val.move rfl) ?_
 refine KD.v0 rfl rfl (Val.nilCheck rfl) ?_
 refine KD.v0 rfl rfl (Val.fieldAddr0 (k := 1) rfl rfl) ?_
 refine KD.v0 rfl rfl (Val.loadP rfl rfl (Sees.cell byTake rfl)) ?_
 refine KD.v1 rfl rfl (Val.move rfl) ?_
 refine KD.v1 rfl rfl (Val.nilCheck rfl) ?_
 refine KD.v1 rfl rfl (Val.fieldAddr0 (k := 2) rfl rfl) ?_
 refine KD.v1 rfl rfl (Val.loadP rfl rfl (Sees.cell byTake rfl)) ?_
 refine KD.callc rfl rfl rfl byEvL fun T hT => ?_
 refine (CallV.part (CallV.fn (rCopy_K okr)) byPart).mono ?_
 rintro _ _ ⟨r', kr', hbs, rfl, rfl⟩
 refine hT _ _ byPart ?_; clear hT T
 simp only [rowH_app, planH_app, arenaH_app]
 refine KD.v0 rfl rfl (Val.build byParts rfl rfl byFill) ?_
 refine KD.e rfl rfl (Eff.box rfl rfl) ?_; rintro _ _ ⟨b19, rfl, rfl⟩; refine ⟨byPart, ?_⟩
 refine KD.v0 rfl rfl (Val.assign rfl) ?_
 refine KD.nil ?_
 refine KE.next ?_
 refine K.ret ?_
 exact KE.fin (H' := arenaH ⟨b19, r'⟩ p ++ (arenaH a p ++ F)) byMarks rfl byRes (by simp only [arenaH_app, rowH_app, hbs]; exact byPart) ⟨⟨b19, r'⟩, ⟨ok.pl, kr', by rw [hbs]; exact ok.n⟩, hbs, rfl, rfl⟩
theorem aNew_K {w0 : World} {F : Heap} {p : PlanM} (ok : PlanOk p) :
  Call Tryz.prog w0 61 [.pointer (some ⟨p.b, 0, none⟩)] (planH p ++ F) (fun r H' => ∃ a : ArM, ArOk a p ∧ a.r.bs = List.replicate p.g.slots false ∧ r = .tuple [.pointer (some ⟨a.b, 0, none⟩), .int .i64 0].toArray ∧ H' = arenaH a p ++ (planH p ++ F)) := by
 have hs := ok.g.slots
 have hne : ¬ ((p.g.slots : Nat) : Int) = 0 := by omega
 refine Call.enter1 (n := 20) (by kernel_rfl) Tryz.func61 rfl rfl rfl ?_
 refine K.seq (K.region ?_)
 refine KL.v rfl (Val.assign rfl) ?_
 refine KL.v rfl (Val.assign rfl) ?_
 refine KL.nil (KE.next (K.seq (K.seq (K.region ?_))))
 refine KL.v rfl (Val.move rfl) ?_
 refine KL.callc rfl rfl byEvL fun T hT => ?_
 refine (CallV.fn (Slots0_K ok)).mono ?_
 rintro _ _ ⟨rfl, rfl⟩
 refine hT _ _ ?_; clear hT T
 refine KL.v rfl (Val.isF (Val.eql rfl rfl) byLt) ?_
 refine KL.nil (KE.next (K.condF rfl (K.skip (KE.next (K.seq (K.region ?_))))))
 refine KL.v rfl (Val.move rfl) ?_
 refine KL.callc rfl rfl byEvL fun T hT => ?_
 refine (CallV.fn (Slots0_K ok)).mono ?_
 rintro _ _ ⟨rfl, rfl⟩
 refine hT _ _ ?_; clear hT T
 refine KL.callc rfl rfl byEvL fun T hT => ?_
 refine (CallV.fn (rNew_K (n := p.g.slots) (by omega))).mono ?_
 rintro _ _ ⟨r, kr, hbs, rfl, rfl⟩
 refine hT _ _ ?_; clear hT T
 refine KL.v rfl (Val.move rfl) ?_
 refine KL.v rfl (Val.extract rfl rfl) ?_
 refine KL.v rfl (Val.extract rfl rfl) ?_
 refine KL.v rfl (Val.assign rfl) ?_
 refine KL.v rfl (Val.assign rfl) ?_
 refine KL.nil (KE.next (K.seq (K.region ?_)))
 refine KL.v rfl (Val.move rfl) ?_
 refine KL.v rfl (Val.move rfl) ?_
 refine KL.v rfl (Val.build byParts rfl rfl byFill) ?_
 refine KL.e rfl (Eff.box rfl rfl) ?_; rintro _ _ ⟨b18, rfl, rfl⟩
 refine KL.v rfl (Val.move rfl) ?_
 refine KL.v rfl (Val.assign rfl) ?_
 refine KL.v rfl (Val.assign rfl) ?_
 refine KL.nil (KE.next ?_)
 refine K.ret ?_
 have hu : usedL p.g.L r.bs = 0 := by rw [hbs]; exact used_rep
 exact KE.fin (H' := arenaH ⟨b18, r⟩ p ++ (planH p ++ F)) byMarks rfl byRes (by simp only [arenaH_app, hu]; exact byPart) ⟨⟨b18, r⟩, ⟨ok, kr, by rw [hbs]; exact List.length_replicate⟩, hbs, rfl, rfl⟩
theorem turn_K {w0 : World} {F : Heap} {a : ArM} {p : PlanM} {i : Nat} {v : Bool} {x : SlotP} {g : FuncId} {cap : List Value} {u : Int} (ok : ArOk a p) (hx : p.g.L[i]? = some x) (hu : u = (usedL p.g.L (a.r.bs.set i v) : Nat))
  (hf : ∀ H', Part H' ((a.b, cells [.pointer (some ⟨p.b, 0, none⟩), .pointer (some ⟨a.r.b, 0, none⟩), .int .i64 (usedL p.g.L a.r.bs : Nat)] 168) :: F) → CallV Tryz.prog w0 (.func (.func g) #[] cap.toArray) [.int .i64 (x.size : Nat)] H' (fun r H'' => r = .int .i64 u ∧ H'' = H')) :
  Call Tryz.prog w0 150 [.pointer (some ⟨a.b, 0, none⟩), .int .i64 (i : Nat), .bool v, .func (.func g) #[] cap.toArray] (arenaH a p ++ (planH p ++ F)) (fun r H' => r = .tuple #[] ∧ H' = arenaH (setA a i v) p ++ (planH p ++ F)) := by
 have okr := ok.r
 have okp := ok.pl
 have hil : i < a.r.bs.length := by rw [ok.n, ← L_len]; exact lt_of_get hx
 refine Call.enter4 (n := 32) (by kernel_rfl) Tryz.func150 rfl rfl rfl ?_
 simp only [rowH_app, planH_app, arenaH_app]
 refine K.seq (K.region ?_)
 refine KL.v rfl (Val.move rfl) ?_
 refine KL.v rfl (Val.nilCheck rfl) ?_
 refine KL.v rfl (Val.fieldAddr0 (k := 0) rfl rfl) ?_
 refine KL.v rfl (Val.loadP rfl rfl (Sees.cell byTake rfl)) ?_
 refine KL.v rfl (Val.move rfl) ?_
 refine KL.callc rfl rfl byEvL fun T hT => ?_
 refine (CallV.part (CallV.fn (Size0_K okp hx)) (by first | exact byPart | (simp only [rowH_app, planH_app, arenaH_app]; exact byPart))).mono ?_
 rintro _ _ ⟨rfl, rfl⟩
 refine hT _ _ ?_; clear hT T
 simp only [rowH_app, planH_app, arenaH_app]
 refine KL.v rfl (Val.move rfl) ?_
 refine KL.v rfl (Val.extract rfl rfl) ?_
 refine KL.v rfl (Val.extract rfl rfl) ?_
 refine KL.v rfl (Val.assign rfl) ?_
 refine KL.v rfl (Val.assign rfl) ?_
 refine KL.nil (KE.next (K.seq (K.region ?_)))
 refine KL.v rfl (Val.move rfl) ?_
 refine KL.v rfl (Val.nilCheck rfl) ?_
 refine KL.v rfl (Val.fieldAddr0 (k := 1) rfl rfl) ?_
 refine KL.v rfl (Val.loadP rfl rfl (Sees.cell byTake rfl)) ?_
 refine KL.v rfl (Val.move rfl) ?_
 refine KL.v rfl (Val.move rfl) ?_
 refine KL.callc rfl rfl byEvL fun T hT => ?_
 refine (CallV.part (CallV.fn (Set_K (v := v) okr hil)) (by first | exact byPart | (simp only [rowH_app, planH_app, arenaH_app]; exact byPart))).mono ?_
 rintro _ _ ⟨rfl, rfl⟩
 refine hT _ _ ?_; clear hT T
 refine KL.nil (KE.next (K.region ?_))
 refine KL.v rfl (Val.move rfl) ?_
 refine KL.v rfl (Val.move rfl) ?_
 refine KL.v rfl (Val.move rfl) ?_
 refine KL.callc rfl rfl byEvL fun T hT => ?_
 refine (hf _ byPart).mono ?_
 rintro _ _ ⟨rfl, rfl⟩
 refine hT _ _ ?_; clear hT T
 refine KL.v rfl (Val.nilCheck rfl) ?_
 refine KL.v rfl (Val.fieldAddr0 (k := 2) rfl rfl) ?_
 refine KL.eN (Eff.storeL rfl rfl byOne rfl byTake bySetAt) ?_; rintro _ _ rfl
 refine KL.nil ?_
 subst hu
 exact KE.finN (H' := arenaH (setA a i v) p ++ (planH p ++ F)) byMarks rfl byRes (by simp only [arenaH_app, planH_app, setA]; exact byPart) ⟨rfl, rfl⟩
open Go.RowKit
set_option maxRecDepth 10000
structure BoM where
 b : Nat
 m : MemM
 t : Nat
 p : PlanM
def bodyH (B : BoM) : Heap := [(B.b, cells [.pointer (some ⟨B.m.b, 0, none⟩), .int .i64 (B.t : Nat), .pointer (some ⟨B.p.b, 0, none⟩)] 239)]
theorem bodyH_app {B : BoM} {F : Heap} : bodyH B ++ F = (B.b, cells [.pointer (some ⟨B.m.b, 0, none⟩), .int .i64 (B.t : Nat), .pointer (some ⟨B.p.b, 0, none⟩)] 239) :: F := rfl
structure BoOk (B : BoM) (x : List Int) : Prop where
 m : MemOk B.m
 p : PlanOk B.p
 r : B.m.R[B.t]? = some x
 n : x.length = B.p.g.words
 w : WdOk x
def putM (m : MemM) (t : Nat) (x : List Int) : MemM := ⟨m.b, m.R.set t x, m.ow, m.ob⟩
theorem setM_put {m : MemM} {t a : Nat} {w : Int} {x : List Int} (ht : m.R[t]? = some x) : setM m t a w = putM m t (x.set a w) := by unfold setM putM; rw [ht]; rfl
theorem zeroM_put {m : MemM} {t : Nat} {x : List Int} {p : SlotP} (ht : m.R[t]? = some x) : zeroM m t p.addr p.size = putM m t (wipeP x p) := by unfold zeroM putM; rw [ht]; rfl
theorem putM_put {m : MemM} {t : Nat} {x y : List Int} : putM (putM m t x) t y = putM m t y := by unfold putM; simp [List.set_set]
theorem putM_R {m : MemM} {t : Nat} {x y : List Int} (ht : m.R[t]? = some x) : (putM m t y).R[t]? = some y := by unfold putM; exact List.getElem?_set_self (lt_of_get ht)
theorem putM_self {m : MemM} {t : Nat} {x : List Int} (ht : m.R[t]? = some x) : putM m t x = m := by
 unfold putM
 have : m.R.set t x = m.R := by
  apply List.ext_getElem?
  intro i
  by_cases h : i = t
  ·subst h; rw [List.getElem?_set_self (lt_of_get ht), ht]
  ·rw [List.getElem?_set_ne (by omega)]
 rw [this]
theorem putM_ok {m : MemM} {t : Nat} {x y : List Int} (ok : MemOk m) (ht : m.R[t]? = some x) (hl : y.length = x.length) : MemOk (putM m t y) := by
 have h := set_r ht (x' := y) hl
 refine ok_of ok ?_ h.2 (by simp)
 obtain ⟨e1, e2⟩ := base_at ht
 show (m.R.set t y).flatten.length = _
 rw [h.1]; simp only [List.length_append, List.length_take, List.length_drop]; omega
def setB (B : BoM) (x : List Int) : BoM := ⟨B.b, putM B.m B.t x, B.t, B.p⟩
theorem setB_ok {B : BoM} {x y : List Int} (ok : BoOk B x) (hl : y.length = x.length) (hw : WdOk y) : BoOk (setB B y) y := ⟨putM_ok ok.m ok.r hl, ok.p, putM_R ok.r, by rw [hl]; exact ok.n, hw⟩
def headV (o : Option HdP) : Value := match o with
 | some h => .tuple [hdV h, .int .i64 0].toArray
 | none => .tuple [hdV ⟨0, 0, 0⟩, .int .i64 5].toArray
section
variable {w0 : World} {F : Heap} {B : BoM} {x : List Int} {s : Nat} {y : SlotP}
theorem bonone_K :
  Call Tryz.prog w0 225 [.pointer (some ⟨B.b, 0, none⟩)] (bodyH B ++ (memH B.m ++ (planH B.p ++ F))) (fun r H' => r = .bool false ∧ H' = bodyH B ++ (memH B.m ++ (planH B.p ++ F))) := by
 refine Call.enter1 (n := 12) (by kernel_rfl) Tryz.func225 rfl rfl rfl ?_
 simp only [rowH_app, planH_app, memH_app, bodyH_app]
 refine K.seq (K.region ?_)
 refine KL.v rfl (Val.assign rfl) ?_
 refine KL.nil (KE.next (K.seq (K.region ?_)))
 refine KL.v rfl (Val.move rfl) ?_
 refine KL.v rfl (Val.eqlPN rfl rfl rfl) ?_
 refine KL.v rfl (Val.move rfl) ?_
 refine KL.yes rfl rfl ?_; refine KL.v rfl (Val.move rfl) ?_
 refine KL.yes rfl rfl ?_; refine KL.v rfl (Val.nilCheck rfl) ?_
 refine KL.yes rfl rfl ?_; refine KL.v rfl (Val.fieldAddr0 (k := 0) rfl rfl) ?_
 refine KL.yes rfl rfl ?_; refine KL.v rfl (Val.loadP rfl rfl (Sees.cell byTake rfl)) ?_
 refine KL.yes rfl rfl ?_; refine KL.v rfl (Val.eqlPN rfl rfl rfl) ?_
 refine KL.v rfl (Val.pickF rfl rfl rfl) ?_
 refine KL.v rfl (Val.assign rfl) ?_
 refine KL.nil (KE.next ?_)
 refine K.ret ?_
 exact KE.fin byMarks rfl byRes (by first | exact byPart | (simp only [rowH_app, planH_app, memH_app, bodyH_app]; exact byPart)) ⟨rfl, rfl⟩
theorem place_K (ok : BoOk B x) (hy : B.p.g.L[s]? = some y) :
  Call Tryz.prog w0 152 [.pointer (some ⟨B.b, 0, none⟩), .int .i64 (s : Nat)] (bodyH B ++ (memH B.m ++ (planH B.p ++ F))) (fun r H' => r = .tuple [.int .i64 (y.addr : Nat), .int .i64 (y.size : Nat), .int .i64 0].toArray ∧ H' = bodyH B ++ (memH B.m ++ (planH B.p ++ F))) := by
 have okp := ok.p
 refine Call.enter2 (n := 33) (by kernel_rfl) Tryz.func152 rfl rfl rfl ?_
 refine K.seq (K.region ?_)
 refine KL.v rfl (Val.assign rfl) ?_
 refine KL.v rfl (Val.assign rfl) ?_
 refine KL.v rfl (Val.assign rfl) ?_
 refine KL.nil (KE.next (K.seq (K.seq (K.region ?_))))
 refine KL.v rfl (Val.move rfl) ?_
 refine KL.callc rfl rfl byEvL fun T hT => ?_
 refine (CallV.fn (bonone_K (B := B))).mono ?_
 rintro _ _ ⟨rfl, rfl⟩
 refine hT _ _ ?_; clear hT T
 simp only [rowH_app, planH_app, memH_app, bodyH_app]
 refine KL.nil (KE.next (K.condF rfl (K.skip (KE.next (K.seq (K.seq (K.region ?_)))))))
 refine KL.v rfl (Val.move rfl) ?_
 refine KL.v rfl (Val.nilCheck rfl) ?_
 refine KL.v rfl (Val.fieldAddr0 (k := 2) rfl rfl) ?_
 refine KL.v rfl (Val.loadP rfl rfl (Sees.cell byTake rfl)) ?_
 refine KL.v rfl (Val.move rfl) ?_
 refine KL.callc rfl rfl byEvL fun T hT => ?_
 refine (CallV.part (CallV.fn (Addr0_K okp hy)) (by first | exact byPart | (simp only [rowH_app, planH_app, memH_app, bodyH_app]; exact byPart))).mono ?_
 rintro _ _ ⟨rfl, rfl⟩
 refine hT _ _ ?_; clear hT T
 simp only [rowH_app, planH_app, memH_app, bodyH_app]
 refine KL.v rfl (Val.move rfl) ?_
 refine KL.v rfl (Val.extract rfl rfl) ?_
 refine KL.v rfl (Val.extract rfl rfl) ?_
 refine KL.v rfl (Val.assign rfl) ?_
 refine KL.v rfl (Val.assign rfl) ?_
 refine KL.nil (KE.next (K.seq (K.region ?_)))
 refine KL.v rfl (Val.move rfl) ?_
 refine KL.v rfl (Val.isF (Val.neq rfl rfl) byLt) ?_
 refine KL.nil (KE.next (K.condF rfl (K.skip (KE.next (K.seq (K.region ?_))))))
 refine KL.v rfl (Val.move rfl) ?_
 refine KL.v rfl (Val.nilCheck rfl) ?_
 refine KL.v rfl (Val.fieldAddr0 (k := 2) rfl rfl) ?_
 refine KL.v rfl (Val.loadP rfl rfl (Sees.cell byTake rfl)) ?_
 refine KL.v rfl (Val.move rfl) ?_
 refine KL.callc rfl rfl byEvL fun T hT => ?_
 refine (CallV.part (CallV.fn (Size0_K okp hy)) (by first | exact byPart | (simp only [rowH_app, planH_app, memH_app, bodyH_app]; exact byPart))).mono ?_
 rintro _ _ ⟨rfl, rfl⟩
 refine hT _ _ ?_; clear hT T
 simp only [rowH_app, planH_app, memH_app, bodyH_app]
 refine KL.v rfl (Val.move rfl) ?_
 refine KL.v rfl (Val.extract rfl rfl) ?_
 refine KL.v rfl (Val.extract rfl rfl) ?_
 refine KL.v rfl (Val.assign rfl) ?_
 refine KL.v rfl (Val.assign rfl) ?_
 refine KL.nil (KE.next (K.seq (K.region ?_)))
 refine KL.v rfl (Val.move rfl) ?_
 refine KL.v rfl (Val.move rfl) ?_
 refine KL.v rfl (Val.move rfl) ?_
 refine KL.v rfl (Val.assign rfl) ?_
 refine KL.v rfl (Val.assign rfl) ?_
 refine KL.v rfl (Val.assign rfl) ?_
 refine KL.nil (KE.next ?_)
 refine K.ret ?_
 exact KE.fin byMarks rfl byRes (by first | exact byPart | (simp only [rowH_app, planH_app, memH_app, bodyH_app]; exact byPart)) ⟨rfl, rfl⟩
theorem lies_K {h : HdP} (ok : BoOk B x) (hy : B.p.g.L[s]? = some y) :
  Call Tryz.prog w0 153 [.pointer (some ⟨B.b, 0, none⟩), .int .i64 (s : Nat), .int .i64 (y.size : Nat), hdV h] (bodyH B ++ (memH B.m ++ (planH B.p ++ F))) (fun r H' => r = .bool (liesP y h) ∧ H' = bodyH B ++ (memH B.m ++ (planH B.p ++ F))) := by
 have okp := ok.p
 have hneed := fun A => Need_K (w0 := w0) (H := A) (h := h)
 obtain ⟨c, r, w⟩ := h
 unfold hdV at *
 dsimp only at *
 cases hm : mayH ⟨c, r, w⟩ with
 | false =>
  have e : liesP y ⟨c, r, w⟩ = false := by simp [liesP, hm]
  have hn : needH ⟨c, r, w⟩ = (0, 2) := by simp [needH, hm]
  simp only [hn] at hneed
  rw [e]
  refine Call.enter4 (n := 40) (by kernel_rfl) Tryz.func153 rfl rfl rfl ?_
  refine K.seq (K.region ?_)
  refine KL.e rfl (Eff.box rfl rfl) ?_; rintro _ _ ⟨b7, rfl, rfl⟩
  refine KL.v rfl (Val.assign rfl) ?_
  refine KL.nil (KE.next (K.seq (K.region ?_)))
  refine KL.v rfl (Val.loadA rfl rfl rfl bySeeN) ?_
  refine KL.callc rfl rfl byEvL fun T hT => ?_
  refine (CallV.fn (hneed _)).mono ?_
  rintro _ _ ⟨rfl, rfl⟩
  refine hT _ _ ?_; clear hT T
  simp only [rowH_app, planH_app, memH_app, bodyH_app]
  refine KL.v rfl (Val.move rfl) ?_
  refine KL.v rfl (Val.extract rfl rfl) ?_
  refine KL.v rfl (Val.extract rfl rfl) ?_
  refine KL.v rfl (Val.assign rfl) ?_
  refine KL.v rfl (Val.assign rfl) ?_
  refine KL.nil (KE.next (K.seq (K.region ?_)))
  refine KL.v rfl (Val.move rfl) ?_
  refine KL.v rfl (Val.nilCheck rfl) ?_
  refine KL.v rfl (Val.fieldAddr0 (k := 2) rfl rfl) ?_
  refine KL.v rfl (Val.loadP rfl rfl (Sees.cell byTake rfl)) ?_
  refine KL.v rfl (Val.move rfl) ?_
  refine KL.callc rfl rfl byEvL fun T hT => ?_
  refine (CallV.part (CallV.fn (Class0_K okp hy)) (by simp only [rowH_app, planH_app, memH_app, bodyH_app]; exact byPart)).mono ?_
  rintro _ _ ⟨rfl, rfl⟩
  refine hT _ _ ?_; clear hT T
  simp only [rowH_app, planH_app, memH_app, bodyH_app]
  refine KL.v rfl (Val.move rfl) ?_
  refine KL.v rfl (Val.extract rfl rfl) ?_
  refine KL.v rfl (Val.extract rfl rfl) ?_
  refine KL.v rfl (Val.assign rfl) ?_
  refine KL.v rfl (Val.assign rfl) ?_
  refine KL.nil (KE.next (K.seq (K.region ?_)))
  refine KL.v rfl (Val.move rfl) ?_
  refine KL.v rfl (Val.isF (Val.eql rfl rfl) byLt) ?_
  refine KL.v rfl (Val.move rfl) ?_
  refine KL.skipG rfl rfl rfl ?_
  refine KL.skipG rfl rfl rfl ?_
  refine KL.skipG rfl rfl rfl ?_
  refine KL.skipG rfl rfl rfl ?_
  refine KL.v rfl (Val.pickF rfl rfl rfl) ?_
  refine KL.v rfl (Val.move rfl) ?_
  refine KL.skipG rfl rfl rfl ?_
  refine KL.skipG rfl rfl rfl ?_
  refine KL.skipG rfl rfl rfl ?_
  refine KL.v rfl (Val.pickF rfl rfl rfl) ?_
  refine KL.v rfl (Val.assign rfl) ?_
  refine KL.nil (KE.next ?_)
  refine K.ret ?_
  exact KE.fin byMarks rfl byRes (by first | exact byPart | (simp only [rowH_app, planH_app, memH_app, bodyH_app]; exact byPart)) ⟨rfl, rfl⟩
 | true =>
  have hn : needH ⟨c, r, w⟩ = (r + w + 1, 0) := by simp [needH, hm]
  simp only [hn] at hneed
  by_cases h1 : c = (y.cls : Nat)
  ·by_cases h2 : r + w + 1 ≤ (y.size : Nat)
   ·have e : liesP y ⟨c, r, w⟩ = true := by unfold liesP; rw [hm, Bool.true_and, decide_eq_true h1, decide_eq_true h2]; rfl
    rw [e]
    refine Call.enter4 (n := 40) (by kernel_rfl) Tryz.func153 rfl rfl rfl ?_
    refine K.seq (K.region ?_)
    refine KL.e rfl (Eff.box rfl rfl) ?_; rintro _ _ ⟨b7, rfl, rfl⟩
    refine KL.v rfl (Val.assign rfl) ?_
    refine KL.nil (KE.next (K.seq (K.region ?_)))
    refine KL.v rfl (Val.loadA rfl rfl rfl bySeeN) ?_
    refine KL.callc rfl rfl byEvL fun T hT => ?_
    refine (CallV.fn (hneed _)).mono ?_
    rintro _ _ ⟨rfl, rfl⟩
    refine hT _ _ ?_; clear hT T
    simp only [rowH_app, planH_app, memH_app, bodyH_app]
    refine KL.v rfl (Val.move rfl) ?_
    refine KL.v rfl (Val.extract rfl rfl) ?_
    refine KL.v rfl (Val.extract rfl rfl) ?_
    refine KL.v rfl (Val.assign rfl) ?_
    refine KL.v rfl (Val.assign rfl) ?_
    refine KL.nil (KE.next (K.seq (K.region ?_)))
    refine KL.v rfl (Val.move rfl) ?_
    refine KL.v rfl (Val.nilCheck rfl) ?_
    refine KL.v rfl (Val.fieldAddr0 (k := 2) rfl rfl) ?_
    refine KL.v rfl (Val.loadP rfl rfl (Sees.cell byTake rfl)) ?_
    refine KL.v rfl (Val.move rfl) ?_
    refine KL.callc rfl rfl byEvL fun T hT => ?_
    refine (CallV.part (CallV.fn (Class0_K okp hy)) (by simp only [rowH_app, planH_app, memH_app, bodyH_app]; exact byPart)).mono ?_
    rintro _ _ ⟨rfl, rfl⟩
    refine hT _ _ ?_; clear hT T
    simp only [rowH_app, planH_app, memH_app, bodyH_app]
    refine KL.v rfl (Val.move rfl) ?_
    refine KL.v rfl (Val.extract rfl rfl) ?_
    refine KL.v rfl (Val.extract rfl rfl) ?_
    refine KL.v rfl (Val.assign rfl) ?_
    refine KL.v rfl (Val.assign rfl) ?_
    refine KL.nil (KE.next (K.seq (K.region ?_)))
    refine KL.v rfl (Val.move rfl) ?_
    refine KL.v rfl (Val.isT (Val.eql rfl rfl) byLt) ?_
    refine KL.v rfl (Val.move rfl) ?_
    refine KL.yes rfl rfl ?_; refine KL.v rfl (Val.fieldAddr0 (k := 0) rfl rfl) ?_
    refine KL.yes rfl rfl ?_; refine KL.v rfl (Val.loadP rfl rfl (Sees.cell byTake rfl)) ?_
    refine KL.yes rfl rfl ?_; refine KL.v rfl (Val.move rfl) ?_
    refine KL.yes rfl rfl ?_; refine KL.v rfl (Val.isT (Val.eql rfl rfl) byLt) ?_
    refine KL.v rfl (Val.pickT rfl rfl rfl) ?_
    refine KL.v rfl (Val.move rfl) ?_
    refine KL.yes rfl rfl ?_; refine KL.v rfl (Val.move rfl) ?_
    refine KL.yes rfl rfl ?_; refine KL.v rfl (Val.move rfl) ?_
    refine KL.yes rfl rfl ?_; refine KL.v rfl (Val.isT (Val.leq rfl rfl) byLt) ?_
    refine KL.v rfl (Val.pickT rfl rfl rfl) ?_
    refine KL.v rfl (Val.assign rfl) ?_
    refine KL.nil (KE.next ?_)
    refine K.ret ?_
    exact KE.fin byMarks rfl byRes (by first | exact byPart | (simp only [rowH_app, planH_app, memH_app, bodyH_app]; exact byPart)) ⟨rfl, rfl⟩
   ·have e : liesP y ⟨c, r, w⟩ = false := by simp [liesP, hm, h2]
    rw [e]
    refine Call.enter4 (n := 40) (by kernel_rfl) Tryz.func153 rfl rfl rfl ?_
    refine K.seq (K.region ?_)
    refine KL.e rfl (Eff.box rfl rfl) ?_; rintro _ _ ⟨b7, rfl, rfl⟩
    refine KL.v rfl (Val.assign rfl) ?_
    refine KL.nil (KE.next (K.seq (K.region ?_)))
    refine KL.v rfl (Val.loadA rfl rfl rfl bySeeN) ?_
    refine KL.callc rfl rfl byEvL fun T hT => ?_
    refine (CallV.fn (hneed _)).mono ?_
    rintro _ _ ⟨rfl, rfl⟩
    refine hT _ _ ?_; clear hT T
    simp only [rowH_app, planH_app, memH_app, bodyH_app]
    refine KL.v rfl (Val.move rfl) ?_
    refine KL.v rfl (Val.extract rfl rfl) ?_
    refine KL.v rfl (Val.extract rfl rfl) ?_
    refine KL.v rfl (Val.assign rfl) ?_
    refine KL.v rfl (Val.assign rfl) ?_
    refine KL.nil (KE.next (K.seq (K.region ?_)))
    refine KL.v rfl (Val.move rfl) ?_
    refine KL.v rfl (Val.nilCheck rfl) ?_
    refine KL.v rfl (Val.fieldAddr0 (k := 2) rfl rfl) ?_
    refine KL.v rfl (Val.loadP rfl rfl (Sees.cell byTake rfl)) ?_
    refine KL.v rfl (Val.move rfl) ?_
    refine KL.callc rfl rfl byEvL fun T hT => ?_
    refine (CallV.part (CallV.fn (Class0_K okp hy)) (by simp only [rowH_app, planH_app, memH_app, bodyH_app]; exact byPart)).mono ?_
    rintro _ _ ⟨rfl, rfl⟩
    refine hT _ _ ?_; clear hT T
    simp only [rowH_app, planH_app, memH_app, bodyH_app]
    refine KL.v rfl (Val.move rfl) ?_
    refine KL.v rfl (Val.extract rfl rfl) ?_
    refine KL.v rfl (Val.extract rfl rfl) ?_
    refine KL.v rfl (Val.assign rfl) ?_
    refine KL.v rfl (Val.assign rfl) ?_
    refine KL.nil (KE.next (K.seq (K.region ?_)))
    refine KL.v rfl (Val.move rfl) ?_
    refine KL.v rfl (Val.isT (Val.eql rfl rfl) byLt) ?_
    refine KL.v rfl (Val.move rfl) ?_
    refine KL.yes rfl rfl ?_; refine KL.v rfl (Val.fieldAddr0 (k := 0) rfl rfl) ?_
    refine KL.yes rfl rfl ?_; refine KL.v rfl (Val.loadP rfl rfl (Sees.cell byTake rfl)) ?_
    refine KL.yes rfl rfl ?_; refine KL.v rfl (Val.move rfl) ?_
    refine KL.yes rfl rfl ?_; refine KL.v rfl (Val.isT (Val.eql rfl rfl) byLt) ?_
    refine KL.v rfl (Val.pickT rfl rfl rfl) ?_
    refine KL.v rfl (Val.move rfl) ?_
    refine KL.yes rfl rfl ?_; refine KL.v rfl (Val.move rfl) ?_
    refine KL.yes rfl rfl ?_; refine KL.v rfl (Val.move rfl) ?_
    refine KL.yes rfl rfl ?_; refine KL.v rfl (Val.isF (Val.leq rfl rfl) byLt) ?_
    refine KL.v rfl (Val.pickT rfl rfl rfl) ?_
    refine KL.v rfl (Val.assign rfl) ?_
    refine KL.nil (KE.next ?_)
    refine K.ret ?_
    exact KE.fin byMarks rfl byRes (by first | exact byPart | (simp only [rowH_app, planH_app, memH_app, bodyH_app]; exact byPart)) ⟨rfl, rfl⟩
  ·have e : liesP y ⟨c, r, w⟩ = false := by simp [liesP, hm, h1]
   rw [e]
   refine Call.enter4 (n := 40) (by kernel_rfl) Tryz.func153 rfl rfl rfl ?_
   refine K.seq (K.region ?_)
   refine KL.e rfl (Eff.box rfl rfl) ?_; rintro _ _ ⟨b7, rfl, rfl⟩
   refine KL.v rfl (Val.assign rfl) ?_
   refine KL.nil (KE.next (K.seq (K.region ?_)))
   refine KL.v rfl (Val.loadA rfl rfl rfl bySeeN) ?_
   refine KL.callc rfl rfl byEvL fun T hT => ?_
   refine (CallV.fn (hneed _)).mono ?_
   rintro _ _ ⟨rfl, rfl⟩
   refine hT _ _ ?_; clear hT T
   simp only [rowH_app, planH_app, memH_app, bodyH_app]
   refine KL.v rfl (Val.move rfl) ?_
   refine KL.v rfl (Val.extract rfl rfl) ?_
   refine KL.v rfl (Val.extract rfl rfl) ?_
   refine KL.v rfl (Val.assign rfl) ?_
   refine KL.v rfl (Val.assign rfl) ?_
   refine KL.nil (KE.next (K.seq (K.region ?_)))
   refine KL.v rfl (Val.move rfl) ?_
   refine KL.v rfl (Val.nilCheck rfl) ?_
   refine KL.v rfl (Val.fieldAddr0 (k := 2) rfl rfl) ?_
   refine KL.v rfl (Val.loadP rfl rfl (Sees.cell byTake rfl)) ?_
   refine KL.v rfl (Val.move rfl) ?_
   refine KL.callc rfl rfl byEvL fun T hT => ?_
   refine (CallV.part (CallV.fn (Class0_K okp hy)) (by simp only [rowH_app, planH_app, memH_app, bodyH_app]; exact byPart)).mono ?_
   rintro _ _ ⟨rfl, rfl⟩
   refine hT _ _ ?_; clear hT T
   simp only [rowH_app, planH_app, memH_app, bodyH_app]
   refine KL.v rfl (Val.move rfl) ?_
   refine KL.v rfl (Val.extract rfl rfl) ?_
   refine KL.v rfl (Val.extract rfl rfl) ?_
   refine KL.v rfl (Val.assign rfl) ?_
   refine KL.v rfl (Val.assign rfl) ?_
   refine KL.nil (KE.next (K.seq (K.region ?_)))
   refine KL.v rfl (Val.move rfl) ?_
   refine KL.v rfl (Val.isT (Val.eql rfl rfl) byLt) ?_
   refine KL.v rfl (Val.move rfl) ?_
   refine KL.yes rfl rfl ?_; refine KL.v rfl (Val.fieldAddr0 (k := 0) rfl rfl) ?_
   refine KL.yes rfl rfl ?_; refine KL.v rfl (Val.loadP rfl rfl (Sees.cell byTake rfl)) ?_
   refine KL.yes rfl rfl ?_; refine KL.v rfl (Val.move rfl) ?_
   refine KL.yes rfl rfl ?_; refine KL.v rfl (Val.isF (Val.eql rfl rfl) byLt) ?_
   refine KL.v rfl (Val.pickT rfl rfl rfl) ?_
   refine KL.v rfl (Val.move rfl) ?_
   refine KL.skipG rfl rfl rfl ?_
   refine KL.skipG rfl rfl rfl ?_
   refine KL.skipG rfl rfl rfl ?_
   refine KL.v rfl (Val.pickF rfl rfl rfl) ?_
   refine KL.v rfl (Val.assign rfl) ?_
   refine KL.nil (KE.next ?_)
   refine K.ret ?_
   exact KE.fin byMarks rfl byRes (by first | exact byPart | (simp only [rowH_app, planH_app, memH_app, bodyH_app]; exact byPart)) ⟨rfl, rfl⟩
theorem Head_K (hG : Glob w0) (ok : BoOk B x) (hy : B.p.g.L[s]? = some y) :
  Call Tryz.prog w0 94 [.pointer (some ⟨B.b, 0, none⟩), .int .i64 (s : Nat)] (bodyH B ++ (memH B.m ++ (planH B.p ++ F))) (fun r H' => r = headV (headP x y) ∧ H' = bodyH B ++ (memH B.m ++ (planH B.p ++ F))) := by
 have okp := ok.p
 have okm := ok.m
 have hr := ok.r
 obtain ⟨f1, f2, _⟩ := ok.p.g.fits hy
 have hal : y.addr < x.length := by rw [ok.n]; omega
 have hwx := wAt_get hal
 obtain ⟨w1, w2⟩ := ok.w.at_ y.addr
 obtain ⟨w, hw⟩ : ∃ w : Nat, wAt x y.addr = w := ⟨(wAt x y.addr).toNat, by omega⟩
 have hhead : headP x y = match getH w with | some h => if liesP y h then some h else none | none => none := by unfold headP; rw [hw]; rfl
 rw [hw] at hwx w2
 have hwl : w < 18446744073709551616 := by omega
 refine Call.enter2 (n := 53) (by kernel_rfl) Tryz.func94 rfl rfl rfl ?_
 refine K.seq (K.region ?_)
 refine KL.e rfl (Eff.alloc rfl) ?_; rintro _ _ ⟨b4, rfl, rfl⟩
 refine KL.v rfl (Val.assign rfl) ?_
 refine KL.nil (KE.next (K.seq (K.region ?_)))
 refine KL.v rfl (Val.move rfl) ?_
 refine KL.v rfl (Val.move rfl) ?_
 refine KL.callc rfl rfl byEvL fun T hT => ?_
 refine (CallV.part (CallV.fn (place_K ok hy)) byPart).mono ?_
 rintro _ _ ⟨rfl, rfl⟩
 refine hT _ _ ?_; clear hT T
 rw [bodyH_app]
 refine KL.v rfl (Val.move rfl) ?_
 refine KL.v rfl (Val.extract rfl rfl) ?_
 refine KL.v rfl (Val.extract rfl rfl) ?_
 refine KL.v rfl (Val.extract rfl rfl) ?_
 refine KL.v rfl (Val.assign rfl) ?_
 refine KL.v rfl (Val.assign rfl) ?_
 refine KL.v rfl (Val.assign rfl) ?_
 refine KL.nil (KE.next (K.seq (K.seq (K.region ?_))))
 refine KL.v rfl (Val.move rfl) ?_
 refine KL.v rfl (Val.isF (Val.neq rfl rfl) byLt) ?_
 refine KL.nil (KE.next (K.condF rfl (K.skip (KE.next (K.seq ?_)))))
 refine K.drawn [] [(0, 0), (1, 0), (2, 0), (3, 0), (4, 0), (5, 0), (6, 0), (7, 0), (8, 0), (9, 2), (10, 0), (11, 0), (12, 0), (13, 0), (14, 0)] (by kernel_rfl) (by kernel_rfl) (by kernel_rfl) (by kernel_rfl) (by kernel_rfl) (by kernel_rfl) Part.nil ?_
 refine KD.v0 rfl rfl (Val.move rfl) ?_
 refine KD.v0 rfl rfl (Val.nilCheck rfl) ?_
 refine KD.v0 rfl rfl (Val.fieldAddr0 (k := 0) rfl rfl) ?_
 refine KD.v0 rfl rfl (Val.loadP rfl rfl (Sees.cell byTake rfl)) ?_
 refine KD.v0 rfl rfl (Val.move rfl) ?_
 refine KD.v0 rfl rfl (Val.nilCheck rfl) ?_
 refine KD.v0 rfl rfl (Val.fieldAddr0 (k := 1) rfl rfl) ?_
 refine KD.v0 rfl rfl (Val.loadP rfl rfl (Sees.cell byTake rfl)) ?_
 refine KD.v0 rfl rfl (Val.move rfl) ?_
 refine KD.callc rfl rfl rfl byEvL fun T hT => ?_
 refine (CallV.part (CallV.fn (Load_K okm hr hwx)) byPart).mono ?_
 rintro _ _ ⟨rfl, rfl⟩
 refine hT _ _ byPart ?_; clear hT T
 refine KD.v0 rfl rfl (Val.move rfl) ?_
 refine KD.v0 rfl rfl (Val.extract rfl rfl) ?_
 refine KD.v0 rfl rfl (Val.extract rfl rfl) ?_
 refine KD.v0 rfl rfl (Val.assign rfl) ?_
 refine KD.v0 rfl rfl (Val.assign rfl) ?_
 refine KD.nil ?_
 refine KE.next (K.seq (K.region ?_))
 refine KL.v rfl (Val.move rfl) ?_
 refine KL.callc rfl rfl byEvL fun T hT => ?_
 refine (CallV.fn (hGet_K hG hwl)).mono ?_
 rintro _ _ ⟨rfl, rfl⟩
 unfold hGetP
 cases hg : getH w with
 | none =>
  rw [hg] at hhead
  dsimp only at hhead ⊢
  refine hT _ _ ?_; clear hT T
  rw [hhead]
  unfold hdV headV
  refine KL.v rfl (Val.move rfl) ?_
  refine KL.v rfl (Val.extract rfl rfl) ?_
  refine KL.v rfl (Val.extract rfl rfl) ?_
  refine KL.e rfl (Eff.alloc rfl) ?_; rintro _ _ ⟨b11, rfl, rfl⟩
  refine KL.eN (Eff.storeAL rfl rfl rfl byTake byLay byOnes) ?_; rintro _ _ rfl
  refine KL.v rfl (Val.assign rfl) ?_
  refine KL.nil (KE.next (K.seq (K.seq (K.region ?_))))
  refine KL.v rfl (Val.move rfl) ?_
  refine KL.v rfl (Val.isT (Val.neq rfl rfl) byLt) ?_
  refine KL.v rfl (Val.move rfl) ?_
  refine KL.skipG rfl rfl rfl ?_
  refine KL.skipG rfl rfl rfl ?_
  refine KL.skipG rfl rfl rfl ?_
  refine KL.skipG rfl rfl rfl ?_
  refine KL.skipG rfl rfl rfl ?_
  refine KL.skipG rfl rfl rfl ?_
  refine KL.v rfl (Val.pickT rfl rfl rfl) ?_
  refine KL.nil (KE.next (K.condT rfl (K.seq (K.region ?_))))
  refine KL.v rfl (Val.build byParts rfl rfl byFill) ?_
  refine KL.eN (Eff.storeAL rfl rfl rfl byTake byLay byOnes) ?_; rintro _ _ rfl
  refine KL.v rfl (Val.assign rfl) ?_
  refine KL.nil (KE.next ?_)
  refine K.ret ?_
  refine KE.passR ?_
  exact KE.fin byMarks rfl byRes (by first | exact byPart | (simp only [rowH_app, planH_app, memH_app, bodyH_app]; exact byPart)) ⟨rfl, rfl⟩
 | some h =>
  rw [hg] at hhead
  dsimp only at hhead ⊢
  have hlies := fun A => lies_K (w0 := w0) (F := A) (h := h) ok hy
  obtain ⟨c, r, w⟩ := h
  unfold hdV at *
  dsimp only at *
  refine hT _ _ ?_; clear hT T
  refine KL.v rfl (Val.move rfl) ?_
  refine KL.v rfl (Val.extract rfl rfl) ?_
  refine KL.v rfl (Val.extract rfl rfl) ?_
  refine KL.e rfl (Eff.alloc rfl) ?_; rintro _ _ ⟨b11, rfl, rfl⟩
  refine KL.eN (Eff.storeAL rfl rfl rfl byTake byLay byOnes) ?_; rintro _ _ rfl
  refine KL.v rfl (Val.assign rfl) ?_
  refine KL.nil (KE.next (K.seq (K.seq (K.region ?_))))
  refine KL.v rfl (Val.move rfl) ?_
  refine KL.v rfl (Val.isF (Val.neq rfl rfl) byLt) ?_
  refine KL.v rfl (Val.move rfl) ?_
  refine KL.yes rfl rfl ?_; refine KL.v rfl (Val.move rfl) ?_
  refine KL.yes rfl rfl ?_; refine KL.v rfl (Val.move rfl) ?_
  refine KL.yes rfl rfl ?_; refine KL.v rfl (Val.move rfl) ?_
  refine KL.yes rfl rfl ?_; refine KL.v rfl (Val.loadA rfl rfl rfl bySeeN) ?_
  refine KL.yes rfl rfl ?_; refine KL.callc rfl rfl byEvL fun T hT => ?_
  refine (CallV.part (CallV.fn (hlies _)) (by first | exact byPart | (simp only [rowH_app, planH_app, memH_app, bodyH_app]; exact byPart))).mono ?_
  rintro _ _ ⟨rfl, rfl⟩
  cases hl : liesP y ⟨c, r, w⟩ with
  | true =>
   rw [hl] at hhead
   simp only [if_true] at hhead
   refine hT _ _ ?_; clear hT T
   rw [hhead]
   unfold headV hdV
   refine KL.yes rfl rfl ?_; refine KL.v rfl (Val.notT rfl) ?_
   refine KL.v rfl (Val.pickF rfl rfl rfl) ?_
   refine KL.nil (KE.next (K.condF rfl (K.skip (KE.next (K.seq (K.region ?_))))))
   refine KL.v rfl (Val.loadA rfl rfl rfl bySeeN) ?_
   refine KL.eN (Eff.storeAL rfl rfl rfl byTake byLay byOnes) ?_; rintro _ _ rfl
   refine KL.v rfl (Val.assign rfl) ?_
   refine KL.nil (KE.next ?_)
   refine K.ret ?_
   exact KE.fin byMarks rfl byRes (by first | exact byPart | (simp only [rowH_app, planH_app, memH_app, bodyH_app]; exact byPart)) ⟨rfl, rfl⟩
  | false =>
   rw [hl] at hhead
   simp only [Bool.false_eq_true, if_false] at hhead
   refine hT _ _ ?_; clear hT T
   rw [hhead]
   unfold headV hdV
   refine KL.yes rfl rfl ?_; refine KL.v rfl (Val.notF rfl) ?_
   refine KL.v rfl (Val.pickF rfl rfl rfl) ?_
   refine KL.nil (KE.next (K.condT rfl (K.seq (K.region ?_))))
   refine KL.v rfl (Val.build byParts rfl rfl byFill) ?_
   refine KL.eN (Eff.storeAL rfl rfl rfl byTake byLay byOnes) ?_; rintro _ _ rfl
   refine KL.v rfl (Val.assign rfl) ?_
   refine KL.nil (KE.next ?_)
   refine K.ret ?_
   refine KE.passR ?_
   exact KE.fin byMarks rfl byRes (by first | exact byPart | (simp only [rowH_app, planH_app, memH_app, bodyH_app]; exact byPart)) ⟨rfl, rfl⟩
end
open Go.RowKit
set_option maxRecDepth 10000
section
variable {w0 : World} {F : Heap} {B : BoM} {x : List Int} {s : Nat} {y : SlotP}
theorem zero_ok {m : MemM} {t : Nat} {p : SlotP} (okm : MemOk m) (hr : m.R[t]? = some x) (hl : p.addr + p.size ≤ x.length) : MemOk (putM m t (wipeP x p)) := putM_ok okm hr (wipe_len hl)
theorem bWipe_K (ok : BoOk B x) (hy : B.p.g.L[s]? = some y) :
  Call Tryz.prog w0 82 [.pointer (some ⟨B.b, 0, none⟩), .int .i64 (s : Nat)] (bodyH B ++ (memH B.m ++ (planH B.p ++ F))) (fun r H' => r = .int .i64 0 ∧ H' = bodyH B ++ (memH (putM B.m B.t (wipeP x y)) ++ (planH B.p ++ F))) := by
 have okm := ok.m
 have hr := ok.r
 obtain ⟨f1, f2, _⟩ := ok.p.g.fits hy
 have hz := zeroM_put (p := y) hr
 refine Call.enter2 (n := 29) (by kernel_rfl) Tryz.func82 rfl rfl rfl ?_
 refine K.seq (K.region ?_)
 refine KL.v rfl (Val.assign rfl) ?_
 refine KL.nil (KE.next (K.seq (K.region ?_)))
 refine KL.v rfl (Val.move rfl) ?_
 refine KL.v rfl (Val.move rfl) ?_
 refine KL.callc rfl rfl byEvL fun T hT => ?_
 refine (CallV.part (CallV.fn (place_K ok hy)) byPart).mono ?_
 rintro _ _ ⟨rfl, rfl⟩
 refine hT _ _ ?_; clear hT T
 rw [bodyH_app]
 refine KL.v rfl (Val.move rfl) ?_
 refine KL.v rfl (Val.extract rfl rfl) ?_
 refine KL.v rfl (Val.extract rfl rfl) ?_
 refine KL.v rfl (Val.extract rfl rfl) ?_
 refine KL.v rfl (Val.assign rfl) ?_
 refine KL.v rfl (Val.assign rfl) ?_
 refine KL.v rfl (Val.assign rfl) ?_
 refine KL.nil (KE.next (K.seq (K.seq (K.region ?_))))
 refine KL.v rfl (Val.move rfl) ?_
 refine KL.v rfl (Val.isF (Val.neq rfl rfl) byLt) ?_
 refine KL.nil (KE.next (K.condF rfl (K.skip (KE.next (K.seq ?_)))))
 refine K.drawn [] [(0, 0), (1, 0), (2, 0), (3, 0), (4, 0), (5, 0), (6, 0), (7, 0), (8, 0), (9, 0), (10, 2), (11, 0)] (by kernel_rfl) (by kernel_rfl) (by kernel_rfl) (by kernel_rfl) (by kernel_rfl) (by kernel_rfl) Part.nil ?_
 refine KD.v0 rfl rfl (Val.move rfl) ?_
 refine KD.v0 rfl rfl (Val.nilCheck rfl) ?_
 refine KD.v0 rfl rfl (Val.fieldAddr0 (k := 0) rfl rfl) ?_
 refine KD.v0 rfl rfl (Val.loadP rfl rfl (Sees.cell byTake rfl)) ?_
 refine KD.v0 rfl rfl (Val.move rfl) ?_
 refine KD.v0 rfl rfl (Val.nilCheck rfl) ?_
 refine KD.v0 rfl rfl (Val.fieldAddr0 (k := 1) rfl rfl) ?_
 refine KD.v0 rfl rfl (Val.loadP rfl rfl (Sees.cell byTake rfl)) ?_
 refine KD.v0 rfl rfl (Val.move rfl) ?_
 refine KD.v0 rfl rfl (Val.move rfl) ?_
 refine KD.callc rfl rfl rfl byEvL fun T hT => ?_
 refine (CallV.part (CallV.fn (Zero_K (n := y.size) okm hr (by omega) (by rw [ok.n]; omega))) byPart).mono ?_
 rintro _ _ ⟨rfl, rfl⟩
 rw [hz]
 refine hT _ _ byPart ?_; clear hT T
 refine KD.v0 rfl rfl (Val.assign rfl) ?_
 refine KD.nil ?_
 refine KE.next ?_
 refine K.ret ?_
 exact KE.fin byMarks rfl byRes (by first | exact byPart | (simp only [bodyH_app]; exact byPart)) ⟨rfl, rfl⟩
theorem Make_K {h : HdP} (hG : Glob w0) (ok : BoOk B x) (hy : B.p.g.L[s]? = some y) :
  Call Tryz.prog w0 70 [.pointer (some ⟨B.b, 0, none⟩), .int .i64 (s : Nat), hdV h] (bodyH B ++ (memH B.m ++ (planH B.p ++ F))) (fun r H' => r = .int .i64 (makeP x y h).1 ∧ H' = bodyH B ++ (memH (putM B.m B.t (makeP x y h).2) ++ (planH B.p ++ F))) := by
 have okm := ok.m
 have hr := ok.r
 obtain ⟨f1, f2, _⟩ := ok.p.g.fits hy
 have hz := zeroM_put (p := y) hr
 have hself := putM_self hr
 have hput := fun A (hm : mayH h = true) => Put_K (w0 := w0) (H := A) hG hm
 have hlies := fun A => lies_K (w0 := w0) (F := A) (h := h) ok hy
 have hmk : makeP x y h = if liesP y h then (if (headP x y).isSome then (8, x) else (0, (wipeP x y).set y.addr (putW h))) else (2, x) := rfl
 have hpw : putW h = (putN h.c.toNat h.r.toNat h.w.toNat : Nat) := rfl
 have hlm := fun e => (lies_of (p := y) (h := h) e).1
 obtain ⟨pw, hpw'⟩ : ∃ pw, pw = putW h := ⟨_, rfl⟩
 rw [← hpw'] at hmk hpw
 simp only [← hpw] at hput
 obtain ⟨mk, hmk'⟩ : ∃ mk, mk = makeP x y h := ⟨_, rfl⟩
 rw [← hmk'] at hmk ⊢
 obtain ⟨li, hli⟩ : ∃ li, li = liesP y h := ⟨_, rfl⟩
 rw [← hli] at hmk hlm
 simp only [← hli] at hlies
 obtain ⟨c, r, w⟩ := h
 unfold hdV at *
 dsimp only at *
 clear hpw hpw' hmk' hli
 refine Call.enter3 (n := 65) (by kernel_rfl) Tryz.func70 rfl rfl rfl ?_
 refine K.seq (K.region ?_)
 refine KL.e rfl (Eff.box rfl rfl) ?_; rintro _ _ ⟨b5, rfl, rfl⟩
 refine KL.v rfl (Val.assign rfl) ?_
 refine KL.nil (KE.next (K.seq (K.region ?_)))
 refine KL.v rfl (Val.move rfl) ?_
 refine KL.v rfl (Val.move rfl) ?_
 refine KL.callc rfl rfl byEvL fun T hT => ?_
 refine (CallV.part (CallV.fn (place_K ok hy)) byPart).mono ?_
 rintro _ _ ⟨rfl, rfl⟩
 refine hT _ _ ?_; clear hT T
 refine KL.v rfl (Val.move rfl) ?_
 refine KL.v rfl (Val.extract rfl rfl) ?_
 refine KL.v rfl (Val.extract rfl rfl) ?_
 refine KL.v rfl (Val.extract rfl rfl) ?_
 refine KL.v rfl (Val.assign rfl) ?_
 refine KL.v rfl (Val.assign rfl) ?_
 refine KL.v rfl (Val.assign rfl) ?_
 refine KL.nil (KE.next (K.seq (K.seq (K.region ?_))))
 refine KL.v rfl (Val.move rfl) ?_
 refine KL.v rfl (Val.isF (Val.neq rfl rfl) byLt) ?_
 refine KL.nil (KE.next (K.condF rfl (K.skip (KE.next (K.seq (K.seq (K.region ?_)))))))
 refine KL.v rfl (Val.move rfl) ?_
 refine KL.v rfl (Val.move rfl) ?_
 refine KL.v rfl (Val.move rfl) ?_
 refine KL.v rfl (Val.loadA rfl rfl rfl bySeeN) ?_
 refine KL.callc rfl rfl byEvL fun T hT => ?_
 refine (CallV.part (CallV.fn (hlies _)) byPart).mono ?_
 rintro _ _ ⟨rfl, rfl⟩
 cases li with
 | false =>
  refine hT _ _ ?_; clear hT T
  simp only [Bool.false_eq_true, if_false] at hmk
  rw [hmk]
  dsimp only
  rw [hself]
  refine KL.v rfl (Val.notF rfl) ?_
  refine KL.nil (KE.next (K.condT rfl (K.seq (K.region ?_))))
  refine KL.v rfl (Val.assign rfl) ?_
  refine KL.nil (KE.next ?_)
  refine K.ret ?_
  refine KE.passR ?_
  exact KE.fin byMarks rfl byRes byPart ⟨rfl, rfl⟩
 | true =>
  simp only [if_true] at hmk
  refine hT _ _ ?_; clear hT T
  refine KL.v rfl (Val.notT rfl) ?_
  refine KL.nil (KE.next (K.condF rfl (K.skip (KE.next (K.seq (K.seq (K.region ?_)))))))
  refine KL.v rfl (Val.move rfl) ?_
  refine KL.v rfl (Val.move rfl) ?_
  refine KL.callc rfl rfl byEvL fun T hT => ?_
  refine (CallV.part (CallV.fn (Head_K hG ok hy)) byPart).mono ?_
  rintro _ _ ⟨rfl, rfl⟩
  unfold headV
  cases hh : headP x y with
  | some h' =>
   rw [hh] at hmk
   simp only [Option.isSome, if_true] at hmk
   dsimp only
   obtain ⟨c', r', w'⟩ := h'
   unfold hdV
   dsimp only
   refine hT _ _ ?_; clear hT T
   rw [hmk]
   dsimp only
   rw [hself]
   refine KL.v rfl (Val.move rfl) ?_
   refine KL.v rfl (Val.extract rfl rfl) ?_
   refine KL.v rfl (Val.extract rfl rfl) ?_
   refine KL.e rfl (Eff.alloc rfl) ?_; rintro _ _ ⟨b10, rfl, rfl⟩
   refine KL.eN (Eff.storeAL rfl rfl rfl byTake byLay byOnes) ?_; rintro _ _ rfl
   refine KL.v rfl (Val.assign rfl) ?_
   refine KL.nil (KE.next (K.seq (K.region ?_)))
   refine KL.v rfl (Val.move rfl) ?_
   refine KL.v rfl (Val.isT (Val.eql rfl rfl) byLt) ?_
   refine KL.nil (KE.next (K.condT rfl (K.seq (K.region ?_))))
   refine KL.v rfl (Val.assign rfl) ?_
   refine KL.nil (KE.next ?_)
   refine K.ret ?_
   refine KE.passR ?_
   exact KE.fin byMarks rfl byRes byPart ⟨rfl, rfl⟩
  | none =>
   rw [hh] at hmk
   simp only [Option.isSome, Bool.false_eq_true, if_false] at hmk
   dsimp only
   unfold hdV
   dsimp only
   refine hT _ _ ?_; clear hT T
   refine KL.v rfl (Val.move rfl) ?_
   refine KL.v rfl (Val.extract rfl rfl) ?_
   refine KL.v rfl (Val.extract rfl rfl) ?_
   refine KL.e rfl (Eff.alloc rfl) ?_; rintro _ _ ⟨b10, rfl, rfl⟩
   refine KL.eN (Eff.storeAL rfl rfl rfl byTake byLay byOnes) ?_; rintro _ _ rfl
   refine KL.v rfl (Val.assign rfl) ?_
   refine KL.nil (KE.next (K.seq (K.region ?_)))
   refine KL.v rfl (Val.move rfl) ?_
   refine KL.v rfl (Val.isF (Val.eql rfl rfl) byLt) ?_
   refine KL.nil (KE.next (K.condF rfl (K.skip (KE.next (K.seq (K.region ?_))))))
   refine KL.v rfl (Val.loadA rfl rfl rfl bySeeN) ?_
   refine KL.callc rfl rfl byEvL fun T hT => ?_
   refine (CallV.fn (hput _ (hlm rfl))).mono ?_
   rintro _ _ ⟨rfl, rfl⟩
   refine hT _ _ ?_; clear hT T
   rw [bodyH_app]
   refine KL.v rfl (Val.move rfl) ?_
   refine KL.v rfl (Val.extract rfl rfl) ?_
   refine KL.v rfl (Val.extract rfl rfl) ?_
   refine KL.v rfl (Val.assign rfl) ?_
   refine KL.v rfl (Val.assign rfl) ?_
   refine KL.nil (KE.next (K.seq ?_))
   refine K.drawn [] [(0, 0), (1, 0), (2, 0), (3, 0), (4, 0), (5, 0), (6, 0), (7, 0), (8, 0), (9, 0), (10, 2)] (by kernel_rfl) (by kernel_rfl) (by kernel_rfl) (by kernel_rfl) (by kernel_rfl) (by kernel_rfl) Part.nil ?_
   refine KD.v0 rfl rfl (Val.move rfl) ?_
   refine KD.v0 rfl rfl (Val.nilCheck rfl) ?_
   refine KD.v0 rfl rfl (Val.fieldAddr0 (k := 0) rfl rfl) ?_
   refine KD.v0 rfl rfl (Val.loadP rfl rfl (Sees.cell byTake rfl)) ?_
   refine KD.v0 rfl rfl (Val.move rfl) ?_
   refine KD.v0 rfl rfl (Val.nilCheck rfl) ?_
   refine KD.v0 rfl rfl (Val.fieldAddr0 (k := 1) rfl rfl) ?_
   refine KD.v0 rfl rfl (Val.loadP rfl rfl (Sees.cell byTake rfl)) ?_
   refine KD.v0 rfl rfl (Val.move rfl) ?_
   refine KD.v0 rfl rfl (Val.move rfl) ?_
   refine KD.callc rfl rfl rfl byEvL fun T hT => ?_
   refine (CallV.part (CallV.fn (Zero_K (n := y.size) okm hr (by omega) (by rw [ok.n]; omega))) byPart).mono ?_
   rintro _ _ ⟨rfl, rfl⟩
   rw [hz]
   refine hT _ _ byPart ?_; clear hT T
   refine KD.nil ?_
   refine KE.next (K.seq ?_)
   refine K.drawn [] [(0, 0), (1, 0), (2, 0), (3, 0), (4, 0), (5, 0), (6, 0), (7, 0), (8, 0), (9, 0), (10, 2), (11, 0)] (by kernel_rfl) (by kernel_rfl) (by kernel_rfl) (by kernel_rfl) (by kernel_rfl) (by kernel_rfl) Part.nil ?_
   refine KD.v0 rfl rfl (Val.move rfl) ?_
   refine KD.v0 rfl rfl (Val.nilCheck rfl) ?_
   refine KD.v0 rfl rfl (Val.fieldAddr0 (k := 0) rfl rfl) ?_
   refine KD.v0 rfl rfl (Val.loadP rfl rfl (Sees.cell byTake rfl)) ?_
   refine KD.v0 rfl rfl (Val.move rfl) ?_
   refine KD.v0 rfl rfl (Val.nilCheck rfl) ?_
   refine KD.v0 rfl rfl (Val.fieldAddr0 (k := 1) rfl rfl) ?_
   refine KD.v0 rfl rfl (Val.loadP rfl rfl (Sees.cell byTake rfl)) ?_
   refine KD.v0 rfl rfl (Val.move rfl) ?_
   refine KD.v0 rfl rfl (Val.move rfl) ?_
   refine KD.callc rfl rfl rfl byEvL fun T hT => ?_
   refine (CallV.part (CallV.fn (Store_K (t := B.t) (a := y.addr) (x := wipeP x y) (w := pw) (zero_ok okm hr (by rw [ok.n]; omega)) (putM_R hr) (by rw [wipe_len (by rw [ok.n]; omega), ok.n]; omega))) byPart).mono ?_
   rintro _ _ ⟨rfl, rfl⟩
   rw [setM_put (putM_R hr), putM_put]
   refine hT _ _ byPart ?_; clear hT T
   rw [hmk]
   dsimp only
   refine KD.v0 rfl rfl (Val.assign rfl) ?_
   refine KD.nil ?_
   refine KE.next ?_
   refine K.ret ?_
   exact KE.fin byMarks rfl byRes (by first | exact byPart | (simp only [bodyH_app]; exact byPart)) ⟨rfl, rfl⟩
end
set_option maxRecDepth 10000
section
variable {w0 : World} {F : Heap} {B : BoM} {x : List Int} {s : Nat} {y : SlotP}
theorem bat_K {ref : Bool} {i : Int} {g : FuncId} {cap : List Value} {B1 : Heap} (hG : Glob w0) (ok : BoOk B x) (hy : B.p.g.L[s]? = some y)
  (hdo : fldP x y ref i = 0 → ∀ A, CallV Tryz.prog w0 (.func (.func g) #[] cap.toArray) [.int .i64 (fAt y i : Nat)] (A ++ (bodyH B ++ (memH B.m ++ (planH B.p ++ F)))) (fun r H' => r = .tuple #[] ∧ H' = A ++ B1)) :
  Call Tryz.prog w0 240 [.pointer (some ⟨B.b, 0, none⟩), .bool ref, .int .i64 (s : Nat), .int .i64 i, .func (.func g) #[] cap.toArray] (bodyH B ++ (memH B.m ++ (planH B.p ++ F)))
   (fun r H' => r = .int .i64 (fldP x y ref i) ∧ H' = if fldP x y ref i = 0 then B1 else bodyH B ++ (memH B.m ++ (planH B.p ++ F))) := by
 obtain ⟨f1, f2, f3, _⟩ := ok.p.g.fits hy
 have hfl : fldP x y ref i = match headP x y with | none => 5 | some h => if 0 ≤ i ∧ i < h.r + h.w ∧ decide (i < h.r) = ref then 0 else 110 := rfl
 have hwords := ok.p.g.words
 have hhm : ∀ h, headP x y = some h → mayH h = true := fun h e => (lies_of (headP_of e).2).1
 have hin := fun (e : fldP x y ref i = 0) => fld_in e
 refine Call.enter5 (n := 53) (by kernel_rfl) Tryz.func240 rfl rfl rfl ?_
 refine K.seq (K.region ?_)
 refine KL.v rfl (Val.assign rfl) ?_
 refine KL.nil (KE.next (K.seq (K.region ?_)))
 refine KL.v rfl (Val.move rfl) ?_
 refine KL.v rfl (Val.move rfl) ?_
 refine KL.callc rfl rfl byEvL fun T hT => ?_
 refine (CallV.part (CallV.fn (Head_K hG ok hy)) byPart).mono ?_
 rintro _ _ ⟨rfl, rfl⟩
 unfold headV
 cases hh : headP x y with
 | none =>
  rw [hh] at hfl
  dsimp only at hfl
  unfold hdV
  dsimp only
  refine hT _ _ ?_; clear hT T
  rw [hfl, if_neg (by decide)]
  refine KL.v rfl (Val.move rfl) ?_
  refine KL.v rfl (Val.extract rfl rfl) ?_
  refine KL.v rfl (Val.extract rfl rfl) ?_
  refine KL.e rfl (Eff.alloc rfl) ?_; rintro _ _ ⟨b11, rfl, rfl⟩
  refine KL.eN (Eff.storeAL rfl rfl rfl byTake byLay byOnes) ?_; rintro _ _ rfl
  refine KL.v rfl (Val.assign rfl) ?_
  refine KL.nil (KE.next (K.seq (K.seq (K.region ?_))))
  refine KL.v rfl (Val.move rfl) ?_
  refine KL.v rfl (Val.isT (Val.neq rfl rfl) byLt) ?_
  refine KL.nil (KE.next (K.condT rfl (K.seq (K.region ?_))))
  refine KL.v rfl (Val.move rfl) ?_
  refine KL.v rfl (Val.assign rfl) ?_
  refine KL.nil (KE.next ?_)
  refine K.ret ?_
  refine KE.passR ?_
  exact KE.fin byMarks rfl byRes byPart ⟨rfl, rfl⟩
 | some h =>
  rw [hh] at hfl
  dsimp only at hfl
  have hm := hhm h hh
  have hF := fun A => hField_K (w0 := w0) (H := A) (h := h) (i := i)
  have hfd : fieldH h i = if i < 0 ∨ i ≥ h.r + h.w then (false, 110) else (decide (i < h.r), 0) := by unfold fieldH; rw [if_pos hm]
  obtain ⟨c, r, w⟩ := h
  unfold hdV at *
  dsimp only at *
  clear hhm
  by_cases h1 : i < 0 ∨ i ≥ r + w
  ·rw [if_pos h1] at hfd
   rw [if_neg (by omega)] at hfl
   simp only [hfd] at hF
   refine hT _ _ ?_; clear hT T
   rw [hfl, if_neg (by decide)]
   refine KL.v rfl (Val.move rfl) ?_
   refine KL.v rfl (Val.extract rfl rfl) ?_
   refine KL.v rfl (Val.extract rfl rfl) ?_
   refine KL.e rfl (Eff.alloc rfl) ?_; rintro _ _ ⟨b11, rfl, rfl⟩
   refine KL.eN (Eff.storeAL rfl rfl rfl byTake byLay byOnes) ?_; rintro _ _ rfl
   refine KL.v rfl (Val.assign rfl) ?_
   refine KL.nil (KE.next (K.seq (K.seq (K.region ?_))))
   refine KL.v rfl (Val.move rfl) ?_
   refine KL.v rfl (Val.isF (Val.neq rfl rfl) byLt) ?_
   refine KL.nil (KE.next (K.condF rfl (K.skip (KE.next (K.seq (K.seq (K.region ?_)))))))
   refine KL.v rfl (Val.loadA rfl rfl rfl bySeeN) ?_
   refine KL.v rfl (Val.move rfl) ?_
   refine KL.callc rfl rfl byEvL fun T hT => ?_
   refine (CallV.fn (hF _)).mono ?_
   rintro _ _ ⟨rfl, rfl⟩
   refine hT _ _ ?_; clear hT T
   refine KL.v rfl (Val.move rfl) ?_
   refine KL.v rfl (Val.extract rfl rfl) ?_
   refine KL.v rfl (Val.extract rfl rfl) ?_
   refine KL.v rfl (Val.assign rfl) ?_
   refine KL.v rfl (Val.assign rfl) ?_
   refine KL.nil (KE.next (K.seq (K.region ?_)))
   refine KL.v rfl (Val.move rfl) ?_
   refine KL.v rfl (Val.isT (Val.neq rfl rfl) byLt) ?_
   refine KL.v rfl (Val.move rfl) ?_
   refine KL.skipG rfl rfl rfl ?_
   refine KL.skipG rfl rfl rfl ?_
   refine KL.skipG rfl rfl rfl ?_
   refine KL.v rfl (Val.pickT rfl rfl rfl) ?_
   refine KL.nil (KE.next (K.condT rfl (K.seq (K.region ?_))))
   refine KL.v rfl (Val.assign rfl) ?_
   refine KL.nil (KE.next ?_)
   refine K.ret ?_
   refine KE.passR ?_
   exact KE.fin byMarks rfl byRes byPart ⟨rfl, rfl⟩
  ·rw [if_neg h1] at hfd
   simp only [hfd] at hF
   by_cases h2 : decide (i < r) = ref
   ·rw [if_pos ⟨by omega, by omega, h2⟩] at hfl
    obtain ⟨q1, q2, q3⟩ := hin hfl
    have had : ((y.addr : Nat) : Int) + 1 + i = (fAt y i : Nat) := by unfold fAt; omega
    subst h2
    refine hT _ _ ?_; clear hT T
    rw [hfl, if_pos rfl]
    refine KL.v rfl (Val.move rfl) ?_
    refine KL.v rfl (Val.extract rfl rfl) ?_
    refine KL.v rfl (Val.extract rfl rfl) ?_
    refine KL.e rfl (Eff.alloc rfl) ?_; rintro _ _ ⟨b11, rfl, rfl⟩
    refine KL.eN (Eff.storeAL rfl rfl rfl byTake byLay byOnes) ?_; rintro _ _ rfl
    refine KL.v rfl (Val.assign rfl) ?_
    refine KL.nil (KE.next (K.seq (K.seq (K.region ?_))))
    refine KL.v rfl (Val.move rfl) ?_
    refine KL.v rfl (Val.isF (Val.neq rfl rfl) byLt) ?_
    refine KL.nil (KE.next (K.condF rfl (K.skip (KE.next (K.seq (K.seq (K.region ?_)))))))
    refine KL.v rfl (Val.loadA rfl rfl rfl bySeeN) ?_
    refine KL.v rfl (Val.move rfl) ?_
    refine KL.callc rfl rfl byEvL fun T hT => ?_
    refine (CallV.fn (hF _)).mono ?_
    rintro _ _ ⟨rfl, rfl⟩
    have hdo1 := hdo hfl [(b11, cells [.int .i64 c, .int .i64 r, .int .i64 w] 148)]
    have hbn : (decide (i < r) != decide (i < r)) = false := by simp
    refine hT _ _ ?_; clear hT T
    refine KL.v rfl (Val.move rfl) ?_
    refine KL.v rfl (Val.extract rfl rfl) ?_
    refine KL.v rfl (Val.extract rfl rfl) ?_
    refine KL.v rfl (Val.assign rfl) ?_
    refine KL.v rfl (Val.assign rfl) ?_
    refine KL.nil (KE.next (K.seq (K.region ?_)))
    refine KL.v rfl (Val.move rfl) ?_
    refine KL.v rfl (Val.isF (Val.neq rfl rfl) byLt) ?_
    refine KL.v rfl (Val.move rfl) ?_
    refine KL.yes rfl rfl ?_; refine KL.v rfl (Val.move rfl) ?_
    refine KL.yes rfl rfl ?_; refine KL.v rfl (Val.move rfl) ?_
    refine KL.yes rfl rfl ?_; refine KL.v rfl (Val.neqB rfl rfl rfl) ?_
    refine KL.v rfl (Val.pickF rfl rfl rfl) ?_
    refine KL.nil (KE.next ?_)
    rw [hbn]
    refine K.condF rfl (K.skip (KE.next (K.seq (K.region ?_))))
    refine KL.v rfl (Val.move rfl) ?_
    refine KL.v rfl (Val.move rfl) ?_
    refine KL.callc rfl rfl byEvL fun T hT => ?_
    refine (CallV.part (CallV.fn (place_K ok hy)) byPart).mono ?_
    rintro _ _ ⟨rfl, rfl⟩
    refine hT _ _ ?_; clear hT T
    refine KL.v rfl (Val.move rfl) ?_
    refine KL.v rfl (Val.extract rfl rfl) ?_
    refine KL.v rfl (Val.extract rfl rfl) ?_
    refine KL.v rfl (Val.extract rfl rfl) ?_
    refine KL.v rfl (Val.assign rfl) ?_
    refine KL.v rfl (Val.assign rfl) ?_
    refine KL.v rfl (Val.assign rfl) ?_
    refine KL.nil (KE.next (K.seq (K.region ?_)))
    refine KL.v rfl (Val.move rfl) ?_
    refine KL.v rfl (Val.move rfl) ?_
    refine KL.v rfl (Val.add rfl rfl (by simp only [qL, qH]; omega)) ?_
    refine KL.v rfl (Val.move rfl) ?_
    refine KL.v rfl (Val.add rfl rfl (by simp only [qL, qH]; omega)) ?_
    refine KL.callc rfl rfl byEvL fun T hT => ?_
    rw [had]
    refine (CallV.part hdo1 byPart).mono ?_
    rintro _ _ ⟨rfl, rfl⟩
    refine hT _ _ ?_; clear hT T
    refine KL.nil (KE.next (K.seq (K.region ?_)))
    refine KL.v rfl (Val.assign rfl) ?_
    refine KL.nil (KE.next ?_)
    refine K.ret ?_
    exact KE.fin byMarks rfl byRes byPart ⟨rfl, rfl⟩
   ·rw [if_neg (by intro h; exact h2 h.2.2)] at hfl
    have hbn : (decide (i < r) != ref) = true := by
     cases hd : decide (i < r) <;> cases ref <;> simp_all
    refine hT _ _ ?_; clear hT T
    rw [hfl, if_neg (by decide)]
    refine KL.v rfl (Val.move rfl) ?_
    refine KL.v rfl (Val.extract rfl rfl) ?_
    refine KL.v rfl (Val.extract rfl rfl) ?_
    refine KL.e rfl (Eff.alloc rfl) ?_; rintro _ _ ⟨b11, rfl, rfl⟩
    refine KL.eN (Eff.storeAL rfl rfl rfl byTake byLay byOnes) ?_; rintro _ _ rfl
    refine KL.v rfl (Val.assign rfl) ?_
    refine KL.nil (KE.next (K.seq (K.seq (K.region ?_))))
    refine KL.v rfl (Val.move rfl) ?_
    refine KL.v rfl (Val.isF (Val.neq rfl rfl) byLt) ?_
    refine KL.nil (KE.next (K.condF rfl (K.skip (KE.next (K.seq (K.seq (K.region ?_)))))))
    refine KL.v rfl (Val.loadA rfl rfl rfl bySeeN) ?_
    refine KL.v rfl (Val.move rfl) ?_
    refine KL.callc rfl rfl byEvL fun T hT => ?_
    refine (CallV.fn (hF _)).mono ?_
    rintro _ _ ⟨rfl, rfl⟩
    refine hT _ _ ?_; clear hT T
    refine KL.v rfl (Val.move rfl) ?_
    refine KL.v rfl (Val.extract rfl rfl) ?_
    refine KL.v rfl (Val.extract rfl rfl) ?_
    refine KL.v rfl (Val.assign rfl) ?_
    refine KL.v rfl (Val.assign rfl) ?_
    refine KL.nil (KE.next (K.seq (K.region ?_)))
    refine KL.v rfl (Val.move rfl) ?_
    refine KL.v rfl (Val.isF (Val.neq rfl rfl) byLt) ?_
    refine KL.v rfl (Val.move rfl) ?_
    refine KL.yes rfl rfl ?_; refine KL.v rfl (Val.move rfl) ?_
    refine KL.yes rfl rfl ?_; refine KL.v rfl (Val.move rfl) ?_
    refine KL.yes rfl rfl ?_; refine KL.v rfl (Val.neqB rfl rfl rfl) ?_
    refine KL.v rfl (Val.pickF rfl rfl rfl) ?_
    refine KL.nil (KE.next ?_)
    rw [hbn]
    refine K.condT rfl (K.seq (K.region ?_))
    refine KL.v rfl (Val.assign rfl) ?_
    refine KL.nil (KE.next ?_)
    refine K.ret ?_
    refine KE.passR ?_
    exact KE.fin byMarks rfl byRes byPart ⟨rfl, rfl⟩
theorem bstore_K {ref : Bool} {i w : Int} (hG : Glob w0) (ok : BoOk B x) (hy : B.p.g.L[s]? = some y) :
  Call Tryz.prog w0 162 [.pointer (some ⟨B.b, 0, none⟩), .bool ref, .int .i64 (s : Nat), .int .i64 i, .int .u64 w] (bodyH B ++ (memH B.m ++ (planH B.p ++ F)))
   (fun r H' => r = .int .i64 (fldP x y ref i) ∧ H' = bodyH B ++ (memH (putM B.m B.t (if fldP x y ref i = 0 then x.set (fAt y i) w else x)) ++ (planH B.p ++ F))) := by
 have okm := ok.m
 have hr := ok.r
 obtain ⟨f1, f2, f3, _⟩ := ok.p.g.fits hy
 have hin := fun (e : fldP x y ref i = 0) => fld_in e
 have hn := ok.n
 have hself := putM_self hr
 refine Call.enter5 (n := 17) (by kernel_rfl) Tryz.func162 rfl rfl rfl ?_
 refine K.seq (K.region ?_)
 refine KL.e rfl (Eff.box rfl rfl) ?_; rintro _ _ ⟨b5, rfl, rfl⟩
 refine KL.e rfl (Eff.box rfl rfl) ?_; rintro _ _ ⟨b9, rfl, rfl⟩
 refine KL.v rfl (Val.assign rfl) ?_
 refine KL.nil (KE.next (K.seq (K.region ?_)))
 refine KL.v rfl (Val.loadP rfl rfl (Sees.cell byTake rfl)) ?_
 refine KL.v rfl (Val.move rfl) ?_
 refine KL.v rfl (Val.move rfl) ?_
 refine KL.v rfl (Val.move rfl) ?_
 refine KL.v rfl (Val.makeFunc byEvL byEvL) ?_
 refine KL.callc rfl rfl byEvL fun T hT => ?_
 refine (CallV.part (CallV.fn (bat_K (F := (b5, cells [.pointer (some ⟨B.b, 0, none⟩)] 29) :: (b9, cells [.int .u64 w] 64) :: F) (ref := ref) (i := i) (g := 241) (cap := [.pointer (some ⟨b5, 0, none⟩), .pointer (some ⟨b9, 0, none⟩)])
  (B1 := bodyH B ++ (memH (putM B.m B.t (x.set (fAt y i) w)) ++ (planH B.p ++ ((b5, cells [.pointer (some ⟨B.b, 0, none⟩)] 29) :: (b9, cells [.int .u64 w] 64) :: F)))) hG ok hy ?_)) byPart).mono ?_
 ·intro e A
  obtain ⟨q1, q2, q3⟩ := hin e
  refine CallV.clo (cap := [.pointer (some ⟨b5, 0, none⟩), .pointer (some ⟨b9, 0, none⟩)]) ?_
  refine Call.enter3 (n := 15) (by kernel_rfl) Tryz.func241 rfl rfl rfl ?_
  rw [bodyH_app]
  refine K.drawn [] [(0, 0), (1, 0), (2, 0), (3, 0), (4, 0), (5, 0), (6, 0), (7, 0), (8, 0), (9, 0), (10, 2)] (by kernel_rfl) (by kernel_rfl) (by kernel_rfl) (by kernel_rfl) (by kernel_rfl) (by kernel_rfl) Part.nil ?_
  refine KD.v0 rfl rfl (Val.loadP rfl rfl (Sees.cell byTake rfl)) ?_
  refine KD.v0 rfl rfl (Val.nilCheck rfl) ?_
  refine KD.v0 rfl rfl (Val.fieldAddr0 (k := 0) rfl rfl) ?_
  refine KD.v0 rfl rfl (Val.loadP rfl rfl (Sees.cell byTake rfl)) ?_
  refine KD.v0 rfl rfl (Val.loadP rfl rfl (Sees.cell byTake rfl)) ?_
  refine KD.v0 rfl rfl (Val.nilCheck rfl) ?_
  refine KD.v0 rfl rfl (Val.fieldAddr0 (k := 1) rfl rfl) ?_
  refine KD.v0 rfl rfl (Val.loadP rfl rfl (Sees.cell byTake rfl)) ?_
  refine KD.v0 rfl rfl (Val.move rfl) ?_
  refine KD.v0 rfl rfl (Val.loadP rfl rfl (Sees.cell byTake rfl)) ?_
  refine KD.callc rfl rfl rfl byEvL fun T hT => ?_
  refine (CallV.part (CallV.fn (Store_K (t := B.t) (a := fAt y i) (x := x) (w := w) okm hr (by omega))) byPart).mono ?_
  rintro _ _ ⟨rfl, rfl⟩
  rw [setM_put hr]
  refine hT _ _ byPart ?_; clear hT T
  refine KD.nil ?_
  exact KE.finN byMarks rfl byRes (by rw [bodyH_app]; exact byPart) ⟨rfl, rfl⟩
 ·rintro _ _ ⟨rfl, rfl⟩
  by_cases e : fldP x y ref i = 0
  ·rw [if_pos e]
   refine hT _ _ ?_; clear hT T
   rw [if_pos e]
   refine KL.v rfl (Val.assign rfl) ?_
   refine KL.nil (KE.next ?_)
   refine K.ret ?_
   exact KE.fin byMarks rfl byRes byPart ⟨rfl, rfl⟩
  ·rw [if_neg e]
   refine hT _ _ ?_; clear hT T
   rw [if_neg e, hself]
   refine KL.v rfl (Val.assign rfl) ?_
   refine KL.nil (KE.next ?_)
   refine K.ret ?_
   exact KE.fin byMarks rfl byRes byPart ⟨rfl, rfl⟩
theorem setWord_def {i w : Int} : setWordP x y i w = (fldP x y false i, if fldP x y false i = 0 then x.set (fAt y i) w else x) := by
 unfold setWordP; split
 ·rename_i h; rw [h]
 ·rfl
theorem bSetWord_K {i w : Int} (hG : Glob w0) (ok : BoOk B x) (hy : B.p.g.L[s]? = some y) :
  Call Tryz.prog w0 72 [.pointer (some ⟨B.b, 0, none⟩), .int .i64 (s : Nat), .int .i64 i, .int .u64 w] (bodyH B ++ (memH B.m ++ (planH B.p ++ F)))
   (fun r H' => r = .int .i64 (setWordP x y i w).1 ∧ H' = bodyH B ++ (memH (putM B.m B.t (setWordP x y i w).2) ++ (planH B.p ++ F))) := by
 rw [setWord_def]
 dsimp only
 refine Call.enter4 (n := 14) (by kernel_rfl) Tryz.func72 rfl rfl rfl ?_
 refine K.seq (K.region ?_)
 refine KL.v rfl (Val.assign rfl) ?_
 refine KL.nil (KE.next (K.seq (K.region ?_)))
 refine KL.v rfl (Val.move rfl) ?_
 refine KL.v rfl (Val.move rfl) ?_
 refine KL.v rfl (Val.move rfl) ?_
 refine KL.v rfl (Val.move rfl) ?_
 refine KL.callc rfl rfl byEvL fun T hT => ?_
 refine (CallV.part (CallV.fn (bstore_K hG ok hy)) byPart).mono ?_
 rintro _ _ ⟨rfl, rfl⟩
 refine hT _ _ ?_; clear hT T
 refine KL.v rfl (Val.assign rfl) ?_
 refine KL.nil (KE.next ?_)
 refine K.ret ?_
 exact KE.fin byMarks rfl byRes byPart ⟨rfl, rfl⟩
end
open Go.RowKit
set_option maxRecDepth 10000
theorem bNew_K {w0 : World} {F : Heap} {m : MemM} {t : Nat} {p : PlanM} {x : List Int} (okm : MemOk m) (hr : m.R[t]? = some x) (ok : PlanOk p) (hn : x.length = p.g.words) (hw : WdOk x) :
  Call Tryz.prog w0 62 [.pointer (some ⟨m.b, 0, none⟩), .int .i64 (t : Nat), .pointer (some ⟨p.b, 0, none⟩)] (memH m ++ (planH p ++ F)) (fun r H' => ∃ B : BoM, BoOk B x ∧ B.m = m ∧ B.t = t ∧ B.p = p ∧ r = .tuple [.pointer (some ⟨B.b, 0, none⟩), .int .i64 0].toArray ∧ H' = bodyH B ++ (memH m ++ (planH p ++ F))) := by
 have hs := ok.g.slots
 have hne : ¬ ((p.g.slots : Nat) : Int) = 0 := by omega
 have hne2 : ¬ ((x.length : Nat) : Int) ≠ (p.g.words : Nat) := by omega
 refine Call.enter3 (n := 39) (by kernel_rfl) Tryz.func62 rfl rfl rfl ?_
 refine K.seq (K.region ?_)
 refine KL.v rfl (Val.assign rfl) ?_
 refine KL.v rfl (Val.assign rfl) ?_
 refine KL.nil (KE.next (K.seq (K.region ?_)))
 refine KL.v rfl (Val.move rfl) ?_
 refine KL.v rfl (Val.move rfl) ?_
 refine KL.callc rfl rfl byEvL fun T hT => ?_
 refine (CallV.part (CallV.fn (Words_K okm hr)) byPart).mono ?_
 rintro _ _ ⟨o, ko, rfl, rfl⟩
 refine hT _ _ ?_; clear hT T
 refine KL.v rfl (Val.move rfl) ?_
 refine KL.v rfl (Val.extract rfl rfl) ?_
 refine KL.v rfl (Val.extract rfl rfl) ?_
 refine KL.v rfl (Val.assign rfl) ?_
 refine KL.v rfl (Val.assign rfl) ?_
 refine KL.nil (KE.next (K.seq (K.block (K.seq (K.region ?_)))))
 refine KL.v rfl (Val.move rfl) ?_
 refine KL.v rfl (Val.isF (Val.eql rfl rfl) byLt) ?_
 refine KL.v rfl (Val.move rfl) ?_
 refine KL.yes rfl rfl ?_; refine KL.v rfl (Val.move rfl) ?_
 refine KL.yes rfl rfl ?_; refine KL.callc rfl rfl byEvL fun T hT => ?_
 refine (CallV.part (CallV.fn (Slots0_K ok)) byPart).mono ?_
 rintro _ _ ⟨rfl, rfl⟩
 refine hT _ _ ?_; clear hT T
 refine KL.yes rfl rfl ?_; refine KL.v rfl (Val.isF (Val.eql rfl rfl) byLt) ?_
 refine KL.v rfl (Val.pickF rfl rfl rfl) ?_
 refine KL.v rfl (Val.assign rfl) ?_
 refine KL.nil (KE.next (K.condF rfl (K.seq (K.region ?_))))
 refine KL.v rfl (Val.move rfl) ?_
 refine KL.v rfl (Val.isF (Val.neq rfl rfl) byLt) ?_
 refine KL.v rfl (Val.move rfl) ?_
 refine KL.yes rfl rfl ?_; refine KL.v rfl (Val.move rfl) ?_
 refine KL.yes rfl rfl ?_; refine KL.v rfl (Val.lenSl rfl rfl (Sli.own byTakeL (by assumption) byLen)) ?_
 refine KL.yes rfl rfl ?_; refine KL.v rfl (Val.move rfl) ?_
 refine KL.yes rfl rfl ?_; refine KL.callc rfl rfl byEvL fun T hT => ?_
 refine (CallV.part (CallV.fn (Words0_K ok)) byPart).mono ?_
 rintro _ _ ⟨rfl, rfl⟩
 refine hT _ _ ?_; clear hT T
 refine KL.yes rfl rfl ?_; refine KL.v rfl (Val.isF (Val.neq rfl rfl) byLt) ?_
 refine KL.v rfl (Val.pickF rfl rfl rfl) ?_
 refine KL.v rfl (Val.assign rfl) ?_
 refine KL.nil (KE.next (K.condF rfl (K.skip ?_)))
 refine KE.blkN ?_
 refine KE.next (K.seq (K.region ?_))
 refine KL.v rfl (Val.move rfl) ?_
 refine KL.v rfl (Val.move rfl) ?_
 refine KL.v rfl (Val.move rfl) ?_
 refine KL.v rfl (Val.build byParts rfl rfl byFill) ?_
 refine KL.e rfl (Eff.box rfl rfl) ?_; rintro _ _ ⟨b38, rfl, rfl⟩
 refine KL.v rfl (Val.assign rfl) ?_
 refine KL.v rfl (Val.assign rfl) ?_
 refine KL.nil (KE.next ?_)
 refine K.ret ?_
 exact KE.fin (H' := bodyH ⟨b38, m, t, p⟩ ++ (memH m ++ (planH p ++ F))) byMarks rfl byRes (by rw [bodyH_app]; exact byPart) ⟨⟨b38, m, t, p⟩, ⟨okm, ok, hr, hn, hw⟩, rfl, rfl, rfl, rfl, rfl⟩
set_option maxRecDepth 10000
theorem nextB_free {A : List Bool} {f m : Nat} : freeP A f m = match nextB A f false with
  | some i => if i < f + m then some i else none
  | none => none := by
 cases h : nextB A f false with
 | none =>
  refine free_no fun j h1 h2 h3 => ?_
  unfold nextB at h
  rw [List.find?_eq_none] at h
  have hj := lt_of_get h3
  have := h j (List.mem_range.2 hj)
  rw [h3] at this
  simp [h1] at this
 | some i =>
  obtain ⟨h1, h2, h3, h4⟩ := nextB_of h
  have hi : A[i]? = some false := by
   rw [List.getElem?_eq_getElem h1] at h3 ⊢
   simp at h3; rw [h3]
  have hno : ∀ j, f ≤ j → j < i → A[j]? ≠ some false := fun j q1 q2 q3 => h4 j q1 q2 (by rw [q3]; rfl)
  dsimp only
  split
  ·exact free_is h2 (by assumption) hi hno
  ·exact free_no fun j q1 q2 => hno j q1 (by omega)
theorem Take_K {w0 : World} {F : Heap} {a : ArM} {p : PlanM} {k : Int} (hG : Glob w0) (ok : ArOk a p) :
  Call Tryz.prog w0 68 [.pointer (some ⟨a.b, 0, none⟩), .int .i64 k] (arenaH a p ++ (planH p ++ F)) (fun r H' => r = .tuple [.int .i64 (takeP p.g a.r.bs k).1, .int .i64 (takeP p.g a.r.bs k).2.1].toArray ∧ ∃ a' : ArM, ArOk a' p ∧ a'.b = a.b ∧ a'.r.b = a.r.b ∧ a'.r.bs = (takeP p.g a.r.bs k).2.2 ∧ H' = arenaH a' p ++ (planH p ++ F)) := by
 have okr := ok.r
 have okp := ok.pl
 by_cases hk : 0 ≤ k ∧ k < (p.g.m : Nat)
 ·obtain ⟨k, rfl⟩ : ∃ q : Nat, k = q := ⟨k.toNat, by omega⟩
  have hkm : k < p.g.m := by omega
  have hfi := okp.g.first (Nat.le_of_lt hkm)
  have hni := okp.g.n hkm
  have htk : takeP p.g a.r.bs (k : Nat) = match freeP a.r.bs (p.g.first k) (p.g.n k) with | some i => ((i : Nat), 0, a.r.bs.set i true) | none => (0, 6, a.r.bs) := by
   unfold takeP; rw [if_pos hk]; rfl
  have hsum : ((p.g.first k : Nat) : Int) + ((p.g.n k : Nat) : Int) = ((p.g.first k + p.g.n k : Nat) : Int) := by omega
  refine Call.enter2 (n := 49) (by kernel_rfl) Tryz.func68 rfl rfl rfl ?_
  refine K.seq (K.region ?_)
  refine KL.e rfl (Eff.box rfl rfl) ?_; rintro _ _ ⟨b2, rfl, rfl⟩
  refine KL.v rfl (Val.assign rfl) ?_
  refine KL.v rfl (Val.assign rfl) ?_
  refine KL.nil (KE.next (K.seq (K.seq (K.region ?_))))
  refine KL.v rfl (Val.loadP rfl rfl (Sees.cell byTake rfl)) ?_
  refine KL.callc rfl rfl byEvL fun T hT => ?_
  refine (CallV.part (CallV.fn (arnone_K (a := a) (p := p))) byPart).mono ?_
  rintro _ _ ⟨rfl, rfl⟩
  refine hT _ _ ?_; clear hT T
  rw [arenaH_app]
  refine KL.nil (KE.next (K.condF rfl (K.skip (KE.next (K.seq (K.region ?_))))))
  refine KL.v rfl (Val.loadP rfl rfl (Sees.cell byTake rfl)) ?_
  refine KL.v rfl (Val.nilCheck rfl) ?_
  refine KL.v rfl (Val.fieldAddr0 (k := 0) rfl rfl) ?_
  refine KL.v rfl (Val.loadP rfl rfl (Sees.cell byTake rfl)) ?_
  refine KL.v rfl (Val.move rfl) ?_
  refine KL.callc rfl rfl byEvL fun T hT => ?_
  refine (CallV.part (CallV.fn (Of0_K okp hkm)) byPart).mono ?_
  rintro _ _ ⟨rfl, rfl⟩
  refine hT _ _ ?_; clear hT T
  refine KL.v rfl (Val.move rfl) ?_
  refine KL.v rfl (Val.extract rfl rfl) ?_
  refine KL.v rfl (Val.extract rfl rfl) ?_
  refine KL.v rfl (Val.extract rfl rfl) ?_
  refine KL.v rfl (Val.assign rfl) ?_
  refine KL.v rfl (Val.assign rfl) ?_
  refine KL.v rfl (Val.assign rfl) ?_
  refine KL.nil (KE.next (K.seq (K.seq (K.region ?_))))
  refine KL.v rfl (Val.move rfl) ?_
  refine KL.v rfl (Val.isF (Val.neq rfl rfl) byLt) ?_
  refine KL.nil (KE.next (K.condF rfl (K.skip (KE.next (K.seq (K.region ?_))))))
  refine KL.v rfl (Val.loadP rfl rfl (Sees.cell byTake rfl)) ?_
  refine KL.v rfl (Val.nilCheck rfl) ?_
  refine KL.v rfl (Val.fieldAddr0 (k := 1) rfl rfl) ?_
  refine KL.v rfl (Val.loadP rfl rfl (Sees.cell byTake rfl)) ?_
  refine KL.v rfl (Val.move rfl) ?_
  refine KL.callc rfl rfl byEvL fun T hT => ?_
  refine (CallV.part (CallV.fn (Next_K (k := p.g.first k) (v := false) okr hG (by omega))) byPart).mono ?_
  rintro _ _ ⟨rfl, rfl⟩
  rw [nextB_free] at htk
  cases hnx : nextB a.r.bs (p.g.first k) false with
  | none =>
   rw [hnx] at htk
   dsimp only at htk
   unfold nxI
   dsimp only [Option.isSome, Option.getD]
   refine hT _ _ ?_; clear hT T
   rw [htk]
   refine KL.v rfl (Val.move rfl) ?_
   refine KL.v rfl (Val.extract rfl rfl) ?_
   refine KL.v rfl (Val.extract rfl rfl) ?_
   refine KL.v rfl (Val.assign rfl) ?_
   refine KL.v rfl (Val.assign rfl) ?_
   refine KL.nil (KE.next (K.seq (K.seq (K.region ?_))))
   refine KL.v rfl (Val.move rfl) ?_
   refine KL.v rfl (Val.notF rfl) ?_
   refine KL.v rfl (Val.move rfl) ?_
   refine KL.skipG rfl rfl rfl ?_
   refine KL.skipG rfl rfl rfl ?_
   refine KL.skipG rfl rfl rfl ?_
   refine KL.skipG rfl rfl rfl ?_
   refine KL.skipG rfl rfl rfl ?_
   refine KL.v rfl (Val.pickT rfl rfl rfl) ?_
   refine KL.nil (KE.next (K.condT rfl (K.seq (K.region ?_))))
   refine KL.v rfl (Val.assign rfl) ?_
   refine KL.v rfl (Val.assign rfl) ?_
   refine KL.nil (KE.next ?_)
   refine K.ret ?_
   refine KE.passR ?_
   exact KE.fin byMarks rfl byRes (by first | exact byPart | (simp only [rowH_app, planH_app, arenaH_app]; exact byPart)) ⟨rfl, a, ok, rfl, rfl, rfl, rfl⟩
  | some i =>
   rw [hnx] at htk
   dsimp only at htk
   unfold nxI
   dsimp only [Option.isSome, Option.getD]
   obtain ⟨n1, n2, n3, n4⟩ := nextB_of hnx
   by_cases hin : i < p.g.first k + p.g.n k
   ·rw [if_pos hin] at htk
    dsimp only at htk
    have hnge : ¬ ((i : Nat) : Int) ≥ ((p.g.first k : Nat) : Int) + ((p.g.n k : Nat) : Int) := by omega
    obtain ⟨x, hx⟩ := L_ex (g := p.g) (i := i) (by rw [← ok.n]; exact n1)
    have hus := used_set (v := true) hx n1
    have hi : a.r.bs[i]? = some false := by
     rw [List.getElem?_eq_getElem n1] at n3 ⊢
     simp at n3; rw [n3]
    rw [hi] at hus
    simp only [Option.some.injEq, Bool.false_eq_true, if_false, if_true] at hus
    have hub := used_bnd ok (a.r.bs.set i true)
    have hua := used_bnd ok a.r.bs
    refine hT _ _ ?_; clear hT T
    rw [htk]
    refine KL.v rfl (Val.move rfl) ?_
    refine KL.v rfl (Val.extract rfl rfl) ?_
    refine KL.v rfl (Val.extract rfl rfl) ?_
    refine KL.v rfl (Val.assign rfl) ?_
    refine KL.v rfl (Val.assign rfl) ?_
    refine KL.nil (KE.next (K.seq (K.seq (K.region ?_))))
    refine KL.v rfl (Val.move rfl) ?_
    refine KL.v rfl (Val.notT rfl) ?_
    refine KL.v rfl (Val.move rfl) ?_
    refine KL.yes rfl rfl ?_; refine KL.v rfl (Val.move rfl) ?_
    refine KL.yes rfl rfl ?_; refine KL.v rfl (Val.move rfl) ?_
    refine KL.yes rfl rfl ?_; refine KL.v rfl (Val.move rfl) ?_
    refine KL.yes rfl rfl ?_; refine KL.v rfl (Val.add rfl rfl (by simp only [qL, qH]; omega)) ?_
    refine KL.yes rfl rfl ?_; refine KL.v rfl (Val.isF (Val.geq rfl rfl) byLt) ?_
    refine KL.v rfl (Val.pickF rfl rfl rfl) ?_
    refine KL.nil (KE.next (K.condF rfl (K.skip (KE.next (K.seq (K.region ?_))))))
    refine KL.v rfl (Val.loadP rfl rfl (Sees.cell byTake rfl)) ?_
    refine KL.v rfl (Val.move rfl) ?_
    refine KL.v rfl (Val.makeFunc byEvL byEvL) ?_
    refine KL.callc rfl rfl byEvL fun T hT => ?_
    refine (CallV.part (CallV.fn (turn_K (F := (b2, cells [.pointer (some ⟨a.b, 0, none⟩)] 28) :: F) (v := true) (g := 151) (cap := [.pointer (some ⟨b2, 0, none⟩)]) ok hx rfl ?_)) (by first | exact byPart | (simp only [rowH_app, planH_app, arenaH_app]; exact byPart))).mono ?_
    ·intro H' hp
     refine CallV.clo (cap := [.pointer (some ⟨b2, 0, none⟩)]) ?_
     have s1 : Sees w0 H' ⟨b2, 0, none⟩ (.pointer (some ⟨a.b, 0, none⟩)) := (Sees.cell (H := (a.b, cells [.pointer (some ⟨p.b, 0, none⟩), .pointer (some ⟨a.r.b, 0, none⟩), .int .i64 (usedL p.g.L a.r.bs : Nat)] 168) :: (b2, cells [.pointer (some ⟨a.b, 0, none⟩)] 28) :: F) byTake rfl).more hp
     have s2 : Sees w0 H' ⟨a.b, 2, none⟩ (.int .i64 (usedL p.g.L a.r.bs : Nat)) := (Sees.cell (H := (a.b, cells [.pointer (some ⟨p.b, 0, none⟩), .pointer (some ⟨a.r.b, 0, none⟩), .int .i64 (usedL p.g.L a.r.bs : Nat)] 168) :: (b2, cells [.pointer (some ⟨a.b, 0, none⟩)] 28) :: F) byTake rfl).more hp
     have hue : ((usedL p.g.L (a.r.bs.set i true) : Nat) : Int) = ((usedL p.g.L a.r.bs : Nat) : Int) + ((x.size : Nat) : Int) := by omega
     rw [hue]
     refine Call.enter2 (n := 10) (by kernel_rfl) Tryz.func151 rfl rfl rfl ?_
     refine K.seq (K.region ?_)
     refine KL.v rfl (Val.assign rfl) ?_
     refine KL.nil (KE.next (K.seq (K.region ?_)))
     refine KL.v rfl (Val.loadP rfl rfl bySee) ?_
     refine KL.v rfl (Val.nilCheck rfl) ?_
     refine KL.v rfl (Val.fieldAddr0 (k := 2) rfl rfl) ?_
     refine KL.v rfl (Val.loadP rfl rfl bySee) ?_
     refine KL.v rfl (Val.move rfl) ?_
     refine KL.v rfl (Val.add rfl rfl (by simp only [qL, qH]; omega)) ?_
     refine KL.v rfl (Val.assign rfl) ?_
     refine KL.nil (KE.next ?_)
     refine K.ret ?_
     exact KE.fin byMarks rfl byRes byPart ⟨rfl, rfl⟩
    ·rintro _ _ ⟨rfl, rfl⟩
     refine hT _ _ ?_; clear hT T
     refine KL.nil (KE.next (K.seq (K.region ?_)))
     refine KL.v rfl (Val.move rfl) ?_
     refine KL.v rfl (Val.assign rfl) ?_
     refine KL.v rfl (Val.assign rfl) ?_
     refine KL.nil (KE.next ?_)
     refine K.ret ?_
     exact KE.fin byMarks rfl byRes byPart ⟨rfl, setA a i true, setA_ok ok i true, rfl, rfl, rfl, rfl⟩
   ·rw [if_neg hin] at htk
    dsimp only at htk
    have hge : ((i : Nat) : Int) ≥ ((p.g.first k : Nat) : Int) + ((p.g.n k : Nat) : Int) := by omega
    refine hT _ _ ?_; clear hT T
    rw [htk]
    refine KL.v rfl (Val.move rfl) ?_
    refine KL.v rfl (Val.extract rfl rfl) ?_
    refine KL.v rfl (Val.extract rfl rfl) ?_
    refine KL.v rfl (Val.assign rfl) ?_
    refine KL.v rfl (Val.assign rfl) ?_
    refine KL.nil (KE.next (K.seq (K.seq (K.region ?_))))
    refine KL.v rfl (Val.move rfl) ?_
    refine KL.v rfl (Val.notT rfl) ?_
    refine KL.v rfl (Val.move rfl) ?_
    refine KL.yes rfl rfl ?_; refine KL.v rfl (Val.move rfl) ?_
    refine KL.yes rfl rfl ?_; refine KL.v rfl (Val.move rfl) ?_
    refine KL.yes rfl rfl ?_; refine KL.v rfl (Val.move rfl) ?_
    refine KL.yes rfl rfl ?_; refine KL.v rfl (Val.add rfl rfl (by simp only [qL, qH]; omega)) ?_
    refine KL.yes rfl rfl ?_; refine KL.v rfl (Val.isT (Val.geq rfl rfl) byLt) ?_
    refine KL.v rfl (Val.pickF rfl rfl rfl) ?_
    refine KL.nil (KE.next (K.condT rfl (K.seq (K.region ?_))))
    refine KL.v rfl (Val.assign rfl) ?_
    refine KL.v rfl (Val.assign rfl) ?_
    refine KL.nil (KE.next ?_)
    refine K.ret ?_
    refine KE.passR ?_
    exact KE.fin byMarks rfl byRes (by first | exact byPart | (simp only [rowH_app, planH_app, arenaH_app]; exact byPart)) ⟨rfl, a, ok, rfl, rfl, rfl, rfl⟩
 ·have htk : takeP p.g a.r.bs k = (0, 2, a.r.bs) := by unfold takeP; rw [if_neg hk]
  rw [htk]
  refine Call.enter2 (n := 49) (by kernel_rfl) Tryz.func68 rfl rfl rfl ?_
  refine K.seq (K.region ?_)
  refine KL.e rfl (Eff.box rfl rfl) ?_; rintro _ _ ⟨b2, rfl, rfl⟩
  refine KL.v rfl (Val.assign rfl) ?_
  refine KL.v rfl (Val.assign rfl) ?_
  refine KL.nil (KE.next (K.seq (K.seq (K.region ?_))))
  refine KL.v rfl (Val.loadP rfl rfl (Sees.cell byTake rfl)) ?_
  refine KL.callc rfl rfl byEvL fun T hT => ?_
  refine (CallV.part (CallV.fn (arnone_K (a := a) (p := p))) byPart).mono ?_
  rintro _ _ ⟨rfl, rfl⟩
  refine hT _ _ ?_; clear hT T
  rw [arenaH_app]
  refine KL.nil (KE.next (K.condF rfl (K.skip (KE.next (K.seq (K.region ?_))))))
  refine KL.v rfl (Val.loadP rfl rfl (Sees.cell byTake rfl)) ?_
  refine KL.v rfl (Val.nilCheck rfl) ?_
  refine KL.v rfl (Val.fieldAddr0 (k := 0) rfl rfl) ?_
  refine KL.v rfl (Val.loadP rfl rfl (Sees.cell byTake rfl)) ?_
  refine KL.v rfl (Val.move rfl) ?_
  refine KL.callc rfl rfl byEvL fun T hT => ?_
  refine (CallV.part (CallV.fn (Of0_E okp hk)) byPart).mono ?_
  rintro _ _ ⟨rfl, rfl⟩
  refine hT _ _ ?_; clear hT T
  refine KL.v rfl (Val.move rfl) ?_
  refine KL.v rfl (Val.extract rfl rfl) ?_
  refine KL.v rfl (Val.extract rfl rfl) ?_
  refine KL.v rfl (Val.extract rfl rfl) ?_
  refine KL.v rfl (Val.assign rfl) ?_
  refine KL.v rfl (Val.assign rfl) ?_
  refine KL.v rfl (Val.assign rfl) ?_
  refine KL.nil (KE.next (K.seq (K.seq (K.region ?_))))
  refine KL.v rfl (Val.move rfl) ?_
  refine KL.v rfl (Val.isT (Val.neq rfl rfl) byLt) ?_
  refine KL.nil (KE.next (K.condT rfl (K.seq (K.region ?_))))
  refine KL.v rfl (Val.move rfl) ?_
  refine KL.v rfl (Val.assign rfl) ?_
  refine KL.v rfl (Val.assign rfl) ?_
  refine KL.nil (KE.next ?_)
  refine K.ret ?_
  refine KE.passR ?_
  exact KE.fin byMarks rfl byRes (by first | exact byPart | (simp only [rowH_app, planH_app, arenaH_app]; exact byPart)) ⟨rfl, a, ok, rfl, rfl, rfl, rfl⟩
theorem agive_K {w0 : World} {F : Heap} {a : ArM} {p : PlanM} {i : Nat} (ok : ArOk a p) (hi : a.r.bs[i]? = some true) :
  Call Tryz.prog w0 164 [.pointer (some ⟨a.b, 0, none⟩), .int .i64 (i : Nat)] (arenaH a p ++ (planH p ++ F)) (fun r H' => r = .tuple #[] ∧ H' = arenaH (setA a i false) p ++ (planH p ++ F)) := by
 have n1 := lt_of_get hi
 obtain ⟨x, hx⟩ := L_ex (g := p.g) (i := i) (by rw [← ok.n]; exact n1)
 have hus := used_set (v := false) hx n1
 rw [hi] at hus
 simp only [Bool.false_eq_true, if_false, if_true] at hus
 have hua := used_bnd ok a.r.bs
 refine Call.enter2 (n := 8) (by kernel_rfl) Tryz.func164 rfl rfl rfl ?_
 refine K.seq (K.region ?_)
 refine KL.e rfl (Eff.box rfl rfl) ?_; rintro _ _ ⟨b2, rfl, rfl⟩
 refine KL.nil (KE.next (K.region ?_))
 refine KL.v rfl (Val.loadP rfl rfl (Sees.cell byTake rfl)) ?_
 refine KL.v rfl (Val.move rfl) ?_
 refine KL.v rfl (Val.makeFunc byEvL byEvL) ?_
 refine KL.callc rfl rfl byEvL fun T hT => ?_
 refine (CallV.part (CallV.fn (turn_K (F := (b2, cells [.pointer (some ⟨a.b, 0, none⟩)] 28) :: F) (v := false) (g := 243) (cap := [.pointer (some ⟨b2, 0, none⟩)]) ok hx rfl ?_)) byPart).mono ?_
 ·intro H' hp
  refine CallV.clo (cap := [.pointer (some ⟨b2, 0, none⟩)]) ?_
  have s1 : Sees w0 H' ⟨b2, 0, none⟩ (.pointer (some ⟨a.b, 0, none⟩)) := (Sees.cell (H := (a.b, cells [.pointer (some ⟨p.b, 0, none⟩), .pointer (some ⟨a.r.b, 0, none⟩), .int .i64 (usedL p.g.L a.r.bs : Nat)] 168) :: (b2, cells [.pointer (some ⟨a.b, 0, none⟩)] 28) :: F) byTake rfl).more hp
  have s2 : Sees w0 H' ⟨a.b, 2, none⟩ (.int .i64 (usedL p.g.L a.r.bs : Nat)) := (Sees.cell (H := (a.b, cells [.pointer (some ⟨p.b, 0, none⟩), .pointer (some ⟨a.r.b, 0, none⟩), .int .i64 (usedL p.g.L a.r.bs : Nat)] 168) :: (b2, cells [.pointer (some ⟨a.b, 0, none⟩)] 28) :: F) byTake rfl).more hp
  have hue : ((usedL p.g.L (a.r.bs.set i false) : Nat) : Int) = ((usedL p.g.L a.r.bs : Nat) : Int) - ((x.size : Nat) : Int) := by omega
  rw [hue]
  refine Call.enter2 (n := 10) (by kernel_rfl) Tryz.func243 rfl rfl rfl ?_
  refine K.seq (K.region ?_)
  refine KL.v rfl (Val.assign rfl) ?_
  refine KL.nil (KE.next (K.seq (K.region ?_)))
  refine KL.v rfl (Val.loadP rfl rfl bySee) ?_
  refine KL.v rfl (Val.nilCheck rfl) ?_
  refine KL.v rfl (Val.fieldAddr0 (k := 2) rfl rfl) ?_
  refine KL.v rfl (Val.loadP rfl rfl bySee) ?_
  refine KL.v rfl (Val.move rfl) ?_
  refine KL.v rfl (Val.sub rfl rfl (by simp only [qL, qH]; omega)) ?_
  refine KL.v rfl (Val.assign rfl) ?_
  refine KL.nil (KE.next ?_)
  refine K.ret ?_
  exact KE.fin byMarks rfl byRes byPart ⟨rfl, rfl⟩
 ·rintro _ _ ⟨rfl, rfl⟩
  refine hT _ _ ?_; clear hT T
  refine KL.nil ?_
  exact KE.finN byMarks rfl byRes byPart ⟨rfl, rfl⟩
theorem Give_K {w0 : World} {F : Heap} {a : ArM} {p : PlanM} {i : Int} (ok : ArOk a p) :
  Call Tryz.prog w0 75 [.pointer (some ⟨a.b, 0, none⟩), .int .i64 i] (arenaH a p ++ (planH p ++ F)) (fun r H' => r = .int .i64 (giveP a.r.bs i).1 ∧ ∃ a' : ArM, ArOk a' p ∧ a'.b = a.b ∧ a'.r.b = a.r.b ∧ a'.r.bs = (giveP a.r.bs i).2 ∧ H' = arenaH a' p ++ (planH p ++ F)) := by
 have okr := ok.r
 refine Call.enter2 (n := 31) (by kernel_rfl) Tryz.func75 rfl rfl rfl ?_
 refine K.seq (K.region ?_)
 refine KL.v rfl (Val.assign rfl) ?_
 refine KL.nil (KE.next (K.seq (K.block (K.seq (K.region ?_)))))
 refine KL.v rfl (Val.move rfl) ?_
 refine KL.callc rfl rfl byEvL fun T hT => ?_
 refine (CallV.part (CallV.fn (arnone_K (a := a) (p := p))) byPart).mono ?_
 rintro _ _ ⟨rfl, rfl⟩
 by_cases h0 : i < 0
 ·have hg : giveP a.r.bs i = (2, a.r.bs) := by unfold giveP; rw [if_neg (by omega)]
  refine hT _ _ ?_; clear hT T
  rw [hg]
  refine KL.v rfl (Val.assign rfl) ?_
  refine KL.nil (KE.next (K.condF rfl (K.seq (K.region ?_))))
  refine KL.v rfl (Val.move rfl) ?_
  refine KL.v rfl (Val.isT (Val.lss rfl rfl) byLt) ?_
  refine KL.v rfl (Val.move rfl) ?_
  refine KL.skipG rfl rfl rfl ?_
  refine KL.skipG rfl rfl rfl ?_
  refine KL.skipG rfl rfl rfl ?_
  refine KL.skipG rfl rfl rfl ?_
  refine KL.skipG rfl rfl rfl ?_
  refine KL.skipG rfl rfl rfl ?_
  refine KL.skipG rfl rfl rfl ?_
  refine KL.v rfl (Val.pickT rfl rfl rfl) ?_
  refine KL.v rfl (Val.assign rfl) ?_
  refine KL.nil (KE.next (K.condT rfl (K.seq (K.region ?_))))
  refine KL.v rfl (Val.assign rfl) ?_
  refine KL.nil (KE.next ?_)
  refine K.ret ?_
  refine KE.blkR ?_
  refine KE.passR ?_
  exact KE.fin byMarks rfl byRes byPart ⟨rfl, a, ok, rfl, rfl, rfl, rfl⟩
 ·refine hT _ _ ?_; clear hT T
  rw [arenaH_app]
  refine KL.v rfl (Val.assign rfl) ?_
  refine KL.nil (KE.next (K.condF rfl (K.seq (K.region ?_))))
  refine KL.v rfl (Val.move rfl) ?_
  refine KL.v rfl (Val.isF (Val.lss rfl rfl) byLt) ?_
  refine KL.v rfl (Val.move rfl) ?_
  refine KL.yes rfl rfl ?_; refine KL.v rfl (Val.move rfl) ?_
  refine KL.yes rfl rfl ?_; refine KL.v rfl (Val.move rfl) ?_
  refine KL.yes rfl rfl ?_; refine KL.v rfl (Val.nilCheck rfl) ?_
  refine KL.yes rfl rfl ?_; refine KL.v rfl (Val.fieldAddr0 (k := 1) rfl rfl) ?_
  refine KL.yes rfl rfl ?_; refine KL.v rfl (Val.loadP rfl rfl (Sees.cell byTake rfl)) ?_
  refine KL.yes rfl rfl ?_; refine KL.callc rfl rfl byEvL fun T hT => ?_
  refine (CallV.part (CallV.fn (rLen_K (r := a.r))) byPart).mono ?_
  rintro _ _ ⟨rfl, rfl⟩
  by_cases h1 : i ≥ (a.r.bs.length : Nat)
  ·have hg : giveP a.r.bs i = (2, a.r.bs) := by unfold giveP; rw [if_neg (by omega)]
   refine hT _ _ ?_; clear hT T
   rw [hg]
   refine KL.yes rfl rfl ?_; refine KL.v rfl (Val.isT (Val.geq rfl rfl) byLt) ?_
   refine KL.v rfl (Val.pickF rfl rfl rfl) ?_
   refine KL.v rfl (Val.assign rfl) ?_
   refine KL.nil (KE.next (K.condT rfl (K.seq (K.region ?_))))
   refine KL.v rfl (Val.assign rfl) ?_
   refine KL.nil (KE.next ?_)
   refine K.ret ?_
   refine KE.blkR ?_
   refine KE.passR ?_
   exact KE.fin byMarks rfl byRes (by first | exact byPart | (simp only [rowH_app, planH_app, arenaH_app]; exact byPart)) ⟨rfl, a, ok, rfl, rfl, rfl, rfl⟩
  ·obtain ⟨i, rfl⟩ : ∃ q : Nat, i = q := ⟨i.toNat, by omega⟩
   have hil : i < a.r.bs.length := by omega
   have hgp : giveP a.r.bs (i : Nat) = if (a.r.bs[i]?).getD false then (0, a.r.bs.set i false) else (9, a.r.bs) := by unfold giveP; rw [if_pos (by omega)]; rfl
   have hgb : getB a.r.bs (i : Nat) = (a.r.bs[i]?).getD false := getB_in
   obtain ⟨v, hv⟩ := get_of_lt hil
   rw [hv] at hgp hgb
   dsimp only [Option.getD] at hgp hgb
   refine hT _ _ ?_; clear hT T
   refine KL.yes rfl rfl ?_; refine KL.v rfl (Val.isF (Val.geq rfl rfl) byLt) ?_
   refine KL.v rfl (Val.pickF rfl rfl rfl) ?_
   refine KL.v rfl (Val.assign rfl) ?_
   refine KL.nil (KE.next (K.condF rfl (K.seq (K.region ?_))))
   refine KL.v rfl (Val.move rfl) ?_
   refine KL.v rfl (Val.nilCheck rfl) ?_
   refine KL.v rfl (Val.fieldAddr0 (k := 1) rfl rfl) ?_
   refine KL.v rfl (Val.loadP rfl rfl (Sees.cell byTake rfl)) ?_
   refine KL.v rfl (Val.move rfl) ?_
   refine KL.callc rfl rfl byEvL fun T hT => ?_
   refine (CallV.part (CallV.fn (Get_K (i := (i : Nat)) okr)) byPart).mono ?_
   rintro _ _ ⟨rfl, rfl⟩
   rw [hgb]
   cases v with
   | false =>
    simp only [Bool.false_eq_true, if_false] at hgp
    refine hT _ _ ?_; clear hT T
    rw [hgp]
    refine KL.v rfl (Val.notF rfl) ?_
    refine KL.v rfl (Val.assign rfl) ?_
    refine KL.nil (KE.next (K.condT rfl (K.seq (K.region ?_))))
    refine KL.v rfl (Val.assign rfl) ?_
    refine KL.nil (KE.next ?_)
    refine K.ret ?_
    refine KE.blkR ?_
    refine KE.passR ?_
    exact KE.fin byMarks rfl byRes (by first | exact byPart | (simp only [rowH_app, planH_app, arenaH_app]; exact byPart)) ⟨rfl, a, ok, rfl, rfl, rfl, rfl⟩
   | true =>
    simp only [if_true] at hgp
    refine hT _ _ ?_; clear hT T
    rw [hgp]
    refine KL.v rfl (Val.notT rfl) ?_
    refine KL.v rfl (Val.assign rfl) ?_
    refine KL.nil (KE.next (K.condF rfl (K.skip ?_)))
    refine KE.blkN ?_
    refine KE.next (K.seq (K.region ?_))
    refine KL.v rfl (Val.move rfl) ?_
    refine KL.v rfl (Val.move rfl) ?_
    refine KL.callc rfl rfl byEvL fun T hT => ?_
    refine (CallV.part (CallV.fn (agive_K ok hv)) (by first | exact byPart | (simp only [rowH_app, planH_app, arenaH_app]; exact byPart))).mono ?_
    rintro _ _ ⟨rfl, rfl⟩
    refine hT _ _ ?_; clear hT T
    refine KL.nil (KE.next (K.seq (K.region ?_)))
    refine KL.v rfl (Val.assign rfl) ?_
    refine KL.nil (KE.next ?_)
    refine K.ret ?_
    exact KE.fin byMarks rfl byRes byPart ⟨rfl, setA a i false, setA_ok ok i false, rfl, rfl, rfl, rfl⟩
set_option maxRecDepth 10000
structure AeS where
 k : Nat
 A : Heap
theorem each1_K {w0 : World} {F A0 : Heap} {r : RowM} {bl : Nat} {yv : Value} (hG : Glob w0) (ok : RowOk r) (J : Nat → Heap → Prop) (E : Heap → Prop)
  (hy : ∀ k i A, J k A → nextB r.bs k true = some i → CallV Tryz.prog w0 yv [.int .i64 (i : Nat)] (A ++ ((bl, cells [.pointer (some ⟨r.b, 0, none⟩)] 71) :: (rowH r ++ F)))
   (fun u H' => (u = .bool true ∧ ∃ A', J (i + 1) A' ∧ H' = A' ++ ((bl, cells [.pointer (some ⟨r.b, 0, none⟩)] 71) :: (rowH r ++ F))) ∨ (u = .bool false ∧ ∃ A', E A' ∧ H' = A' ++ ((bl, cells [.pointer (some ⟨r.b, 0, none⟩)] 71) :: (rowH r ++ F)))))
  (h0 : J 0 A0) :
  Call Tryz.prog w0 244 [yv, .pointer (some ⟨bl, 0, none⟩)] (A0 ++ ((bl, cells [.pointer (some ⟨r.b, 0, none⟩)] 71) :: (rowH r ++ F)))
   (fun _ H' => ∃ A', H' = A' ++ ((bl, cells [.pointer (some ⟨r.b, 0, none⟩)] 71) :: (rowH r ++ F)) ∧ ((∃ k, nextB r.bs k true = none ∧ J k A') ∨ E A')) := by
 have hn := ok.n
 refine Call.enter2 (n := 22) (by kernel_rfl) Tryz.func244 rfl rfl rfl ?_
 refine K.seq (K.region ?_)
 refine KL.v rfl (Val.loadP rfl rfl (Sees.cell byTake rfl)) ?_
 refine KL.callc rfl rfl byEvL fun T hT => ?_
 refine (CallV.part (CallV.fn (Next_K (k := 0) (v := true) ok hG (by omega))) byPart).mono ?_
 rintro _ _ ⟨rfl, rfl⟩
 refine hT _ _ ?_; clear hT T
 refine KL.v rfl (Val.move rfl) ?_
 refine KL.v rfl (Val.extract rfl rfl) ?_
 refine KL.v rfl (Val.extract rfl rfl) ?_
 refine KL.v rfl (Val.assign rfl) ?_
 refine KL.v rfl (Val.assign rfl) ?_
 refine KL.nil (KE.next (K.block ?_))
 refine K.loopT (σ := AeS) [(0, _), (1, _)] (fun s kp_ => (3, .int .i64 (nxI (nextB r.bs s.k true))) :: (4, .bool (nextB r.bs s.k true).isSome) :: kp_) (fun s => s.A ++ ((bl, cells [.pointer (some ⟨r.b, 0, none⟩)] 71) :: (rowH r ++ F))) (fun s => J s.k s.A) (fun s => r.bs.length + 1 - s.k) (⟨0, A0⟩) bySub byPart (h0) ?_
 rintro ⟨k, A⟩ hJ
 dsimp only at hJ ⊢
 cases hnx : nextB r.bs k true with
 | none =>
  unfold nxI
  dsimp only [Option.isSome, Option.getD]
  refine K.seq (K.seq (K.region ?_))
  refine KL.v rfl (Val.move rfl) ?_
  refine KL.nil (KE.next (K.condF rfl ?_))
  refine K.exit ?_
  refine KE.passX ?_
  refine KE.passX ?_
  refine KE.blkX ?_
  exact KE.finN byMarks rfl byRes byPart ⟨A, rfl, .inl ⟨k, hnx, hJ⟩⟩
 | some i =>
  unfold nxI
  dsimp only [Option.isSome, Option.getD]
  obtain ⟨n1, n2, n3, n4⟩ := nextB_of hnx
  have he : ((i : Nat) : Int) + 1 = ((i + 1 : Nat) : Int) := by omega
  refine K.seq (K.seq (K.region ?_))
  refine KL.v rfl (Val.move rfl) ?_
  refine KL.nil (KE.next (K.condT rfl (K.skip (KE.next (K.seq (K.block (K.seq (K.region ?_))))))))
  refine KL.v rfl (Val.move rfl) ?_
  refine KL.v rfl (Val.move rfl) ?_
  refine KL.callc rfl rfl byEvL fun T hT => ?_
  refine (hy k i A hJ hnx).mono ?_
  rintro _ _ (⟨rfl, A', hJ', rfl⟩ | ⟨rfl, A', hE', rfl⟩)
  ·refine hT _ _ ?_; clear hT T
   refine KL.v rfl (Val.notT rfl) ?_
   refine KL.nil (KE.next (K.condF rfl (K.skip ?_)))
   refine KE.blkN ?_
   refine KE.next (K.region ?_)
   refine KL.v rfl (Val.loadP rfl rfl (Sees.cell byTake rfl)) ?_
   refine KL.v rfl (Val.move rfl) ?_
   refine KL.v rfl (Val.add rfl rfl (by simp only [qL, qH]; omega)) ?_
   refine KL.callc rfl rfl byEvL fun T hT => ?_
   rw [he]
   refine (CallV.part (CallV.fn (Next_K (k := i + 1) (v := true) ok hG (by omega))) byPart).mono ?_
   rintro _ _ ⟨rfl, rfl⟩
   refine hT _ _ ?_; clear hT T
   refine KL.v rfl (Val.move rfl) ?_
   refine KL.v rfl (Val.extract rfl rfl) ?_
   refine KL.v rfl (Val.extract rfl rfl) ?_
   refine KL.v rfl (Val.assign rfl) ?_
   refine KL.v rfl (Val.assign rfl) ?_
   refine KL.nil ?_
   exact KE.again ⟨i + 1, A'⟩ bySub byPart hJ' (by show r.bs.length + 1 - (i + 1) < r.bs.length + 1 - k; omega)
  ·refine hT _ _ ?_; clear hT T
   refine KL.v rfl (Val.notF rfl) ?_
   refine KL.nil (KE.next (K.condT rfl ?_))
   refine K.ret ?_
   refine KE.blkR ?_
   refine KE.passR ?_
   refine KE.passR ?_
   refine KE.blkR ?_
   exact KE.fin byMarks rfl byRes byPart ⟨A', rfl, .inr hE'⟩
theorem aeach_K {w0 : World} {H : Heap} {b : Nat} :
  Call Tryz.prog w0 171 [.pointer (some ⟨b, 0, none⟩)] H (fun u H' => ∃ bl, u = .func (.func 244) #[] [.pointer (some ⟨bl, 0, none⟩)].toArray ∧ H' = (bl, cells [.pointer (some ⟨b, 0, none⟩)] 71) :: H) := by
 refine Call.enter1 (n := 4) (by kernel_rfl) Tryz.func171 rfl rfl rfl ?_
 refine K.seq (K.region ?_)
 refine KL.e rfl (Eff.box rfl rfl) ?_; rintro _ _ ⟨b1, rfl, rfl⟩
 refine KL.v rfl (Val.assign rfl) ?_
 refine KL.nil (KE.next (K.seq (K.region ?_)))
 refine KL.v rfl (Val.makeFunc byEvL byEvL) ?_
 refine KL.v rfl (Val.assign rfl) ?_
 refine KL.nil (KE.next ?_)
 refine K.ret ?_
 exact KE.fin byMarks rfl byRes byPart ⟨b1, rfl, rfl⟩
def lessK (A D : List Bool) (k : Nat) : List Bool := (List.range A.length).map fun i => (A[i]?).getD false && !(decide (i < k) && (D[i]?).getD false)
theorem lessK_len (A D : List Bool) (k : Nat) : (lessK A D k).length = A.length := by simp [lessK]
theorem lessK_get {A D : List Bool} {k i : Nat} (h : i < A.length) : (lessK A D k)[i]? = some ((A[i]?).getD false && !(decide (i < k) && (D[i]?).getD false)) := by
 unfold lessK; rw [List.getElem?_map, List.getElem?_range h]; rfl
theorem lessK_zero (A D : List Bool) : lessK A D 0 = A := by
 apply List.ext_getElem?
 intro i
 by_cases h : i < A.length
 ·rw [lessK_get h, List.getElem?_eq_getElem h]; simp
 ·rw [List.getElem?_eq_none (by rw [lessK_len]; omega), List.getElem?_eq_none (by omega)]
theorem lessK_next {A D : List Bool} {k i : Nat} (hl : D.length = A.length) (h : nextB D k true = some i) : (lessK A D k).set i false = lessK A D (i + 1) := by
 obtain ⟨n1, n2, n3, n4⟩ := nextB_of h
 apply List.ext_getElem?
 intro j
 by_cases hj : j < A.length
 ·rw [lessK_get hj]
  by_cases hij : j = i
  ·subst hij
   rw [List.getElem?_set_self (by rw [lessK_len]; exact hj), n3]; simp
  ·rw [List.getElem?_set_ne (by omega), lessK_get hj]
   by_cases hjk : j < k
   ·simp [hjk, show j < i + 1 by omega]
   ·by_cases hji : j < i
    ·have := n4 j (by omega) hji
     simp only [Bool.not_eq_true] at this
     rw [this]; simp
    ·simp [hjk, show ¬ j < i + 1 by omega]
 ·rw [List.getElem?_eq_none (by simp [lessK_len]; omega), List.getElem?_eq_none (by rw [lessK_len]; omega)]
theorem lessK_done {A D : List Bool} {k : Nat} (hl : D.length = A.length) (h : nextB D k true = none) : lessK A D k = lessL A D := by
 apply List.ext_getElem?
 intro j
 by_cases hj : j < A.length
 ·rw [lessK_get hj, less_get j hl.symm, List.getElem?_eq_getElem hj]
  simp only [Option.map_some, Option.getD_some]
  by_cases hjk : j < k
  ·simp [hjk]
  ·unfold nextB at h
   rw [List.find?_eq_none] at h
   have := h j (List.mem_range.2 (by omega))
   simp only [show k ≤ j by omega, decide_true, Bool.true_and, beq_iff_eq, Bool.not_eq_true] at this
   rw [this]; simp [hjk]
 ·rw [List.getElem?_eq_none (by rw [lessK_len]; omega), List.getElem?_eq_none (by rw [less_len]; omega)]
theorem ok_bad : ∀ {A D : List Bool} {i : Nat}, A[i]? = some false → D[i]? = some true → okAll A D = false
 | a :: A, d :: D, 0, h1, h2 => by
  simp at h1 h2; subst h1; subst h2; rfl
 | a :: A, d :: D, i + 1, h1, h2 => by
  simp only [List.getElem?_cons_succ] at h1 h2
  simp [okAll, ok_bad h1 h2]
 | [], D, i, h1, h2 => by simp at h1
 | a :: A, [], i, h1, h2 => by simp at h2
end Go.Proofs.YtalholahapcpkaaGreatDoor.Sw
