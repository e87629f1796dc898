/- The walker and the contracts that the law needs, part 24. -/
import Derived.Test.YtalholahapcpkaaGreatDoorD1
import Derived.Test.YtalholahapcpkaaGreatDoorJ13
import Derived.Test.YtalholahapcpkaaGreatDoorJ23
namespace Go.Proofs.YtalholahapcpkaaGreatDoor.Sw
open Go.Proofs.YtalholahapcpkaaGreatDoor renaming lo → qL, hi → qH
open Go.RowKit
set_option linter.unusedVariables false
set_option linter.unusedSimpArgs false
set_option maxRecDepth 10000
theorem Size0_K {w0 : World} {F : Heap} {p : PlanM} {s : Nat} {x : SlotP} (ok : PlanOk p) (hx : p.g.L[s]? = some x) :
  Call Tryz.prog w0 224 [.pointer (some ⟨p.b, 0, none⟩), .int .i64 (s : Nat)] (planH p ++ F) (fun r H' => r = .tuple [.int .i64 (x.size : Nat), .int .i64 0].toArray ∧ H' = planH p ++ F) := by
 obtain ⟨k, d, hk, hd, hs, rfl⟩ := L_at hx
 have ho := ok.o
 have hpl : p.g.parts.length = p.g.m := parts_len
 have hkl : k < p.g.parts.length := by omega
 have hx : p.g.parts[k]? = some (p.g.pt k) := parts_get hk
 refine Call.enter2 (n := 27) (by kernel_rfl) Tryz.func224 rfl rfl rfl ?_
 refine zaj ?_
 refine zcC fun T hT => ?_
 refine ziV ?_
 rintro _ _ ⟨rfl, rfl⟩
 refine zd ?_
 clear hT T
 simp only [rowH_app, memH_app, planH_app]
 refine zd8 ?_
 refine zaB ?_
 refine zX ?_
 refine zbJ ?_
 refine zbZ ?_
 refine zf4 ?_
 refine zhg ?_
 refine zL ?_
 exact zf2
theorem Class0_K {w0 : World} {F : Heap} {p : PlanM} {s : Nat} {x : SlotP} (ok : PlanOk p) (hx : p.g.L[s]? = some x) :
  Call Tryz.prog w0 228 [.pointer (some ⟨p.b, 0, none⟩), .int .i64 (s : Nat)] (planH p ++ F) (fun r H' => r = .tuple [.int .i64 (x.cls : Nat), .int .i64 0].toArray ∧ H' = planH p ++ F) := by
 obtain ⟨k, d, hk, hd, hs, rfl⟩ := L_at hx
 refine Call.enter2 (n := 18) (by kernel_rfl) Tryz.func228 rfl rfl rfl ?_
 refine zaj ?_
 refine zcC fun T hT => ?_
 refine ziV ?_
 rintro _ _ ⟨rfl, rfl⟩
 refine zd ?_
 clear hT T
 refine zcN ?_
 refine zr ?_
 refine zj ?_
 refine zL ?_
 exact zf2
theorem Addr0_K {w0 : World} {F : Heap} {p : PlanM} {s : Nat} {x : SlotP} (ok : PlanOk p) (hx : p.g.L[s]? = some x) :
  Call Tryz.prog w0 226 [.pointer (some ⟨p.b, 0, none⟩), .int .i64 (s : Nat)] (planH p ++ F) (fun r H' => r = .tuple [.int .i64 (x.addr : Nat), .int .i64 0].toArray ∧ H' = planH p ++ F) := by
 obtain ⟨h1, _, _, h2, h3, h4, _⟩ := ok.g.fits hx
 have hw := ok.g.words
 have hpg := ok.g.pg
 have hpp := ok.g.pages.2
 obtain ⟨k, d, hk, hd, hs, rfl⟩ := L_at hx
 have hn := ok.g.n hk
 have hper := ok.g.per hk
 have hy := ok.g.y k hk
 have ho := ok.o
 have hpl : p.g.parts.length = p.g.m := parts_len
 have hkl : k < p.g.parts.length := by omega
 have hx : p.g.parts[k]? = some (p.g.pt k) := parts_get hk
 simp only [PlG.sl] at h1 h2 h3 h4 ⊢
 obtain ⟨pt, hpt⟩ : ∃ pt, pt = p.g.pt k := ⟨_, rfl⟩
 obtain ⟨y, hy'⟩ : ∃ y, y = p.g.y k := ⟨_, rfl⟩
 obtain ⟨per, hper'⟩ : ∃ y, y = p.g.per k := ⟨_, rfl⟩
 obtain ⟨pg, hpg'⟩ : ∃ y, y = p.g.page k := ⟨_, rfl⟩
 rw [← hy', ← hper', ← hpg'] at h1 h3 h4 ⊢
 rw [← hper', ← hpg'] at h2
 rw [← hper'] at hper
 rw [← hy'] at hy
 rw [← hpt] at hx
 obtain ⟨sz, fi, ma, pa, pe⟩ := pt
 obtain ⟨rfl, _, _, rfl, rfl⟩ : sz = y ∧ fi = p.g.first k ∧ ma = p.g.n k ∧ pa = pg ∧ pe = per := by
  simp only [PlG.pt, PartP.mk.injEq] at hpt
  obtain ⟨e1, e2, e3, e4, e5⟩ := hpt
  exact ⟨by rw [e1, hy'], e2, e3, by rw [e4, hpg'], by rw [e5, hper']⟩
 clear hpt hy' hper' hpg'
 obtain ⟨a, ha⟩ : ∃ a, a = d / pe := ⟨_, rfl⟩
 obtain ⟨b, hb⟩ : ∃ b, b = d % pe := ⟨_, rfl⟩
 have e1 : ((d : Nat) : Int) / ((pe : Nat) : Int) = (a : Nat) := by rw [ha]; rfl
 have e2 : ((d : Nat) : Int) % ((pe : Nat) : Int) = (b : Nat) := by rw [hb]; rfl
 rw [← ha, ← hb] at h1 ⊢
 rw [← ha] at h2 h3 h4
 rw [← hb] at h4
 obtain ⟨m1, hm1⟩ : ∃ m, m = (pa + a) * p.g.pg := ⟨_, rfl⟩
 obtain ⟨m2, hm2⟩ : ∃ m, m = b * sz := ⟨_, rfl⟩
 have e3 : (((pa : Nat) : Int) + (a : Nat)) * ((p.g.pg : Nat) : Int) = (m1 : Nat) := by rw [hm1]; simp
 have e4 : ((b : Nat) : Int) * ((sz : Nat) : Int) = (m2 : Nat) := by rw [hm2]; simp
 have hal : a ≤ d := by rw [ha]; exact Nat.div_le_self _ _
 have hbl : b ≤ d := by rw [hb]; exact Nat.mod_le _ _
 rw [← hm1, ← hm2] at h1 ⊢
 have hm1b : m1 ≤ 1048576 := by omega
 have hm2b : m2 ≤ 1048576 := by omega
 clear h3 h4
 refine Call.enter2 (n := 47) (by kernel_rfl) Tryz.func226 rfl rfl rfl ?_
 refine zaj ?_
 refine zcC fun T hT => ?_
 refine ziV ?_
 rintro _ _ ⟨rfl, rfl⟩
 refine zd ?_
 clear hT T
 simp only [rowH_app, memH_app, planH_app]
 refine zd8 ?_
 refine zaB ?_
 refine zX ?_
 refine zbJ ?_
 refine zbZ ?_
 refine zfQ ?_; intro b9
 refine zb9 ?_
 simp only [partE_enc]
 have e5 : (((pa : Nat) : Int) + ((d : Nat) : Int) / ((pe : Nat) : Int)) * ((p.g.pg : Nat) : Int) = (m1 : Nat) := by rw [e1, e3]
 have e6 : ((d : Nat) : Int) % ((pe : Nat) : Int) * ((sz : Nat) : Int) = (m2 : Nat) := by rw [e2, e4]
 have e7 : ((m1 : Nat) : Int) + ((m2 : Nat) : Int) = ((m1 + m2 : Nat) : Int) := by omega
 refine K.seq ?_
 refine K.drawn [] [(0, 0), (1, 0), (2, 0), (3, 0), (4, 0), (5, 0), (6, 0), (7, 0), (8, 0), (9, 0), (10, 0), (11, 0), (12, 0), (13, 0), (14, 0), (15, 0), (16, 0), (17, 0), (18, 0), (19, 0), (20, 0), (21, 0)] (by kernel_rfl) (by kernel_rfl) (by kernel_rfl) (by kernel_rfl) (by kernel_rfl) (by kernel_rfl) Part.nil ?_
 refine ziT ?_
 refine zb5 ?_
 refine zdJ ?_
 refine zx ?_
 refine zgS ?_
 refine zb1 ?_
 refine zK ?_
 refine zfF ?_
 refine zgT ?_
 refine zo ?_
 refine zdJ ?_
 refine zx ?_
 refine KD.v0 rfl rfl (Val.remN rfl rfl (by omega)) ?_
 refine zaV ?_
 refine zx ?_
 refine zgT ?_
 refine zb1 ?_
 refine zaw ?_
 refine za2 ?_
 rw [e5, e6, e7]
 exact zf2
set_option maxRecDepth 10000
def ptsP (g : PlG) (k : Nat) : List PartP := (List.range k).map g.pt
theorem pts_succ (g : PlG) (k : Nat) : ptsP g k ++ [g.pt k] = ptsP g (k + 1) := by simp [ptsP, List.range_succ]
theorem pts_len (g : PlG) (k : Nat) : (ptsP g k).length = k := by simp [ptsP]
structure NwS where
 k : Nat
 o : Own
theorem pNew_K {w0 : World} {F : Heap} {c : Cfg} {vc vt : Value} {t : Int} (hR : CfgR w0 F c vc vt) (ht : thereP c t 0 = true) :
  Call Tryz.prog w0 22 [cfgV c vc vt, .int .i64 t] F (fun r H' => ∃ p : PlanM, PlanOk p ∧ p.g = gOf c t ∧ r = .tuple [.pointer (some ⟨p.b, 0, none⟩), .int .i64 0].toArray ∧ H' = planH p ++ F) := by
 have ga := g_at ht
 obtain ⟨g, hg⟩ : ∃ g, g = gOf c t := ⟨_, rfl⟩
 rw [← hg] at ga ⊢
 have hreg := fun A (hp : Part A F) => Region_K (t := t) (hR.part hp)
 have hsl := fun A (k : Nat) (hp : Part A F) => Slots_K (t := t) (k := (k : Nat)) (hR.part hp)
 have hpg := fun A (k : Nat) (hp : Part A F) => Pages_K (t := t) (k := (k : Nat)) (hR.part hp)
 rw [ga.region] at hreg
 have ok := ga.ok
 have hm := ok.m
 have hgm := ga.m
 have hgy := ga.y
 have hgs := ga.slots
 have hgp := ga.pages
 have hgpg := ga.page
 have hpgl := ok.pg
 obtain ⟨hS, hT', o1, o2, l1, l2⟩ := hR
 obtain ⟨cl, page, tn, workers, grey, gens⟩ := c
 dsimp only at hS hT' l1 l2 hgm hgy hgpg
 simp only [cfgV, cfgL] at hreg hsl hpg ⊢
 subst hgpg
 simp only [prV] at hreg hsl hpg
 clear ga hg ht
 have f0 : g.first 0 = 0 := rfl
 have q0 : g.page 0 = 0 := rfl
 refine Call.enter2 (n := 92) (by kernel_rfl) Tryz.func22 rfl rfl rfl ?_
 refine za5 ?_; intro b2
 refine zz fun T hT => ?_
 refine (CallV.fn (hreg _ byPart)).mono ?_
 rintro _ _ ⟨rfl, rfl⟩
 refine zd ?_
 clear hT T
 refine zbv ?_
 refine zaB ?_
 refine zU ?_
 refine zeT ?_; intro b27
 refine zal ?_
 refine zJ ?_
 refine zP ?_
 refine zeM ?_
 refine K.loopT (σ := NwS) [(1, _), (2, _), (8, _), (29, _), (30, _)] (fun s kp_ => (31, .int .i64 (s.k : Nat)) :: kp_) (fun s => (b27, cells [oV s.o (ptsP g s.k).length, .int .i64 (g.first s.k : Nat), .int .i64 (g.page s.k : Nat), .int .i64 (g.pg : Nat)] 173) :: (oH partE 176 (ptsP g s.k) s.o ++ ((b2, cells [vc, .int .i64 (g.pg : Nat), vt, .int .i64 workers, .int .i64 grey, .int .i64 gens] 25) :: F))) (fun s => s.k ≤ g.m ∧ oOk partE (ptsP g s.k) s.o) (fun s => g.m - s.k) (⟨0, none⟩) bySub byPart (⟨Nat.zero_le _, rfl⟩) ?_
 rintro ⟨k, o⟩ ⟨hk, hok⟩
 dsimp only at hk hok ⊢
 by_cases hlt : k < g.m
 ·obtain ⟨y, hy⟩ := get_of_lt (l := cl) (k := k) (by omega)
  have hyk := hgy k y hy
  subst hyk
  have hkl : k < cl.length := by omega
  have hsl1 := fun A hp => hsl A k hp
  have hpg1 := fun A hp => hpg A k hp
  rw [hgs k hlt] at hsl1
  rw [hgp k hlt] at hpg1
  have y1 := ok.y k hlt
  have hper : ((g.pg : Nat) : Int) / ((g.y k : Nat) : Int) = ((g.per k : Nat) : Int) := rfl
  have b1 := ok.first (show k ≤ g.m by omega)
  have b2' := ok.page (show k ≤ g.m by omega)
  have b3 := ok.n hlt
  have b4 := ok.pgs hlt
  have e1 : ((g.first k : Nat) : Int) + ((g.n k : Nat) : Int) = ((g.first (k + 1) : Nat) : Int) := rfl
  have e2 : ((g.page k : Nat) : Int) + ((g.pgs k : Nat) : Int) = ((g.page (k + 1) : Nat) : Int) := rfl
  have hptl := pts_len g k
  have hptb : (ptsP g (k + 1)).length ≤ 4294967296 := by rw [pts_len]; omega
  dsimp only at hsl1 hpg1
  clear hsl hpg hgs hgp hgy
  refine zd1 ?_
  refine zf ?_
  refine zbK ?_
  refine zkJ ?_
  refine zaC fun T hT => ?_
  refine (CallV.fn (hsl1 _ byPart)).mono ?_
  rintro _ _ ⟨rfl, rfl⟩
  refine zd ?_
  clear hT T
  refine zbw ?_
  refine zaC fun T hT => ?_
  refine (CallV.fn (hpg1 _ byPart)).mono ?_
  rintro _ _ ⟨rfl, rfl⟩
  refine zd ?_
  clear hT T
  refine zag ?_
  refine za0 ?_
  refine zak ?_
  (first | refine K.seq (K.drawn ((b27, cells [oV o (ptsP g k).length, .int .i64 (g.first k : Nat), .int .i64 (g.page k : Nat), .int .i64 (g.pg : Nat)] 173) :: []) [(0, 1), (1, 1), (2, 1), (3, 1), (4, 1), (5, 0), (6, 0), (7, 0), (8, 0), (9, 0), (10, 0), (11, 0), (12, 0), (13, 0), (14, 0), (15, 0), (16, 0), (17, 0), (18, 0), (19, 0), (20, 2), (21, 2), (22, 0), (23, 0), (24, 4)] (by kernel_rfl) (by kernel_rfl) (by kernel_rfl) (by kernel_rfl) (by kernel_rfl) (by kernel_rfl) byPart ?_) | refine K.seq (K.seq (K.drawn ((b27, cells [oV o (ptsP g k).length, .int .i64 (g.first k : Nat), .int .i64 (g.page k : Nat), .int .i64 (g.pg : Nat)] 173) :: []) [(0, 1), (1, 1), (2, 1), (3, 1), (4, 1), (5, 0), (6, 0), (7, 0), (8, 0), (9, 0), (10, 0), (11, 0), (12, 0), (13, 0), (14, 0), (15, 0), (16, 0), (17, 0), (18, 0), (19, 0), (20, 2), (21, 2), (22, 0), (23, 0), (24, 4)] (by kernel_rfl) (by kernel_rfl) (by kernel_rfl) (by kernel_rfl) (by kernel_rfl) (by kernel_rfl) byPart ?_)) | refine K.drawn ((b27, cells [oV o (ptsP g k).length, .int .i64 (g.first k : Nat), .int .i64 (g.page k : Nat), .int .i64 (g.pg : Nat)] 173) :: []) [(0, 1), (1, 1), (2, 1), (3, 1), (4, 1), (5, 0), (6, 0), (7, 0), (8, 0), (9, 0), (10, 0), (11, 0), (12, 0), (13, 0), (14, 0), (15, 0), (16, 0), (17, 0), (18, 0), (19, 0), (20, 2), (21, 2), (22, 0), (23, 0), (24, 4)] (by kernel_rfl) (by kernel_rfl) (by kernel_rfl) (by kernel_rfl) (by kernel_rfl) (by kernel_rfl) byPart ?_)
  refine zO ?_
  refine zO ?_
  refine zgV ?_
  refine zd4 ?_
  refine zcd ?_
  refine zj1 ?_
  refine ziW ?_
  refine zax ?_
  refine zcd ?_
  refine zj1 ?_
  refine zhm ?_
  refine zax ?_
  refine ziW ?_
  refine zax ?_
  refine zo ?_
  (first | refine KD.v0 rfl rfl (Val.quoN rfl rfl (by simp only [qL, qH]; omega)) ?_ | refine KD.v0 rfl rfl (Val.quo rfl rfl (by omega)) ?_)
  refine zeY ?_
  refine KD.e rfl rfl (Eff.buildS byParts rfl rfl rfl rfl rfl byFill) ?_; rintro _ _ ⟨b70, rfl, rfl⟩
  refine zcD ?_
  -- STOP at region 10 op 21: {"h": "Op.call", "a": [{"callee": {"h": "Callee.builtin", "a": ["Builtin.append"]}, "args": [{"h": "Operand.tmp", "a": [54]}, {"h": "Operand.tmp", "a": [70]}], "argTypes": [171, 171]}]}
  refine KD.e rfl rfl (Eff.appZ (E := partE) (xs := ptsP g k) (o := o) (ys := [g.pt k]) (zs := ptsP g (k + 1)) rfl rfl rfl rfl rfl rfl byTakeL (by assumption) (by first | exact Sli.blk byTake rfl (by first | decide | simp) (by first | decide | (unfold maxLen; omega)) rfl | exact Sli.old (by assumption) | exact Sli.own byTakeL (by assumption) byLen | assumption | exact Sli.part (by assumption) byPart) (pts_succ g k) (by first | assumption | omega | (simp <;> fail) | (simp; omega)) rfl) ?_; rintro _ _ ⟨o', ok', rfl, rfl⟩; refine ⟨byPart, ?_⟩
  refine zj1 ?_
  refine zgW ?_
  refine zlk ?_
  refine zV ?_
  refine zaN ?_
  refine zfD ?_
  refine zf ?_
  refine zQ ?_
  refine zac ?_
  refine zcp ?_
  refine zN ?_
  refine zc3 ?_
  refine zX ?_
  refine za8 ?_
  refine zbo ?_
  refine zQ ?_
  refine zac ?_
  refine za8 ?_
  refine zN ?_
  refine zap ?_
  refine zeB ?_
  rw [e1, e2]
  exact KE.again ⟨k + 1, o'⟩ bySub byPart ⟨hlt, ok'⟩ (by show g.m - (k + 1) < g.m - k; omega)
 ·have hke : k = g.m := by omega
  subst hke
  refine zq ?_
  refine zeD ?_
  refine zd0 ?_
  refine zL ?_
  exact KE.fin (H' := planH ⟨b27, g, o⟩ ++ F) byMarks rfl byRes (by rw [planH_app]; exact byPart) ⟨⟨b27, g, o⟩, ⟨ok, hok⟩, rfl, rfl, rfl⟩
open Go.RowKit
set_option maxRecDepth 10000
structure SwP where
 A : List Bool
 R : List (List Int)
 C : List Int
 act : Bool
 at_ : Nat
 D : List Bool
def SwP.x (s : SwP) : List Int := (s.R[0]?).getD []
structure SwOk (g : PlG) (s : SwP) : Prop where
 A : s.A.length = g.slots
 C : s.C.length = g.slots
 D : s.D.length = g.slots
 R : s.R[0]? = some s.x
 x : s.x.length = g.words
 w : WdOk s.x
 c : ∀ v ∈ s.C, v = 0 ∨ v = 2
 at_ : s.at_ ≤ g.slots
 idle : s.act = false → s.at_ = 0 ∧ s.D = List.replicate g.slots false
def stepS (g : PlG) (s : SwP) : SwP × Bool :=
 if s.act = true ∧ s.at_ < g.slots then
  match g.L[s.at_]? with
  | some p => if s.A[s.at_]? = some true ∧ s.C[s.at_]? = some 0 then (⟨s.A, s.R.set 0 (wipeP s.x p), s.C, s.act, s.at_ + 1, s.D.set s.at_ true⟩, true) else (⟨s.A, s.R, s.C, s.act, s.at_ + 1, s.D⟩, true)
  | none => (s, true)
 else (s, false)
theorem x_set {R : List (List Int)} {x y : List Int} (h : R[0]? = some x) : (R.set 0 y)[0]? = some y := by
 rw [List.getElem?_set_self (lt_of_get h)]
theorem SwOk.putx {g : PlG} {s : SwP} (ok : SwOk g s) {y : List Int} (h1 : y.length = g.words) (h2 : WdOk y) {A : List Bool} (hA : A.length = g.slots) : SwOk g ⟨A, s.R.set 0 y, s.C, s.act, s.at_, s.D⟩ := by
 have e : SwP.x ⟨A, s.R.set 0 y, s.C, s.act, s.at_, s.D⟩ = y := by unfold SwP.x; rw [x_set ok.R]; rfl
 exact ⟨hA, ok.C, ok.D, by rw [e]; exact x_set ok.R, by rw [e]; exact h1, by rw [e]; exact h2, ok.c, ok.at_, ok.idle⟩
theorem L_ex {g : PlG} {i : Nat} (h : i < g.slots) : ∃ p, g.L[i]? = some p := get_of_lt (by rw [L_len]; exact h)
def goneP (s : SwP) (i : Nat) : Bool := (s.A[i]?).getD false && decide (s.C[i]? = some 0)
structure Run (g : PlG) (s : SwP) (j : Nat) (t : SwP) : Prop where
 A : t.A = s.A
 C : t.C = s.C
 act : t.act = true
 at_ : t.at_ = j
 dl : t.D.length = g.slots
 D : ∀ i, i < g.slots → t.D[i]? = some (decide (i < j) && goneP s i)
 tl : t.R.tail = s.R.tail
 R : t.R[0]? = some t.x
 xl : t.x.length = g.words
 x : ∀ i p, g.L[i]? = some p → ∀ a, p.addr ≤ a → a < p.addr + p.size → t.x[a]? = if decide (i < j) && goneP s i then some 0 else s.x[a]?
theorem Run.ok {g : PlG} {s t : SwP} {j : Nat} (hg : PlOk g) (h : Run g s j t) (ok : SwOk g t) (hj : j < g.slots) : ∃ t', stepS g t = (t', true) ∧ Run g s (j + 1) t' := by
 obtain ⟨p, hp⟩ := L_ex hj
 have hfit := hg.fits hp
 unfold stepS
 rw [if_pos ⟨h.act, by rw [h.at_]; exact hj⟩, h.at_, hp]
 dsimp only
 have hAl : j < s.A.length := by rw [← h.A, ok.A]; exact hj
 have hg' : (s.A[j]? = some true ∧ s.C[j]? = some 0) ↔ goneP s j = true := by
  unfold goneP
  rw [List.getElem?_eq_getElem hAl]
  simp
 rw [h.A, h.C]
 by_cases hc : s.A[j]? = some true ∧ s.C[j]? = some 0
 ·rw [if_pos hc]
  have hgn := hg'.1 hc
  refine ⟨_, rfl, ?_⟩
  have e : SwP.x ⟨s.A, t.R.set 0 (wipeP t.x p), s.C, t.act, j + 1, t.D.set j true⟩ = wipeP t.x p := by unfold SwP.x; rw [x_set h.R]; rfl
  refine ⟨rfl, rfl, h.act, rfl, by rw [List.length_set]; exact h.dl, ?_, ?_, by rw [e]; exact x_set h.R, by rw [e, wipe_len (by rw [h.xl]; exact hfit.1)]; exact h.xl, ?_⟩
  ·intro i hi
   dsimp only
   by_cases hij : i = j
   ·subst hij
    rw [List.getElem?_set_self (by rw [h.dl]; exact hi), hgn]; simp
   ·rw [List.getElem?_set_ne (by omega), h.D i hi]
    congr 2
    exact decide_eq_decide.2 (by omega)
  ·dsimp only
   rw [← h.tl]
   cases t.R <;> rfl
  ·intro i q hq a ha1 ha2
   rw [e]
   have hxl := h.xl
   by_cases hij : i = j
   ·subst hij
    rw [hp] at hq; cases hq
    rw [hgn]
    simp only [Nat.lt_succ_self, decide_true, Bool.and_self, if_true]
    unfold wipeP Go.Proofs.YtalholahapcpkaaGreatDoor.cleared
    rw [List.append_assoc, List.getElem?_append_right (by rw [List.length_take]; omega), List.getElem?_append_left (by rw [List.length_replicate, List.length_take]; omega), List.getElem?_replicate, if_pos (by rw [List.length_take]; omega)]
   ·have hap := hg.apart hq hp hij
    rw [show (decide (i < j + 1) && goneP s i) = (decide (i < j) && goneP s i) by congr 1; exact decide_eq_decide.2 (by omega), ← h.x i q hq a ha1 ha2]
    have hfq := hg.fits hq
    unfold wipeP Go.Proofs.YtalholahapcpkaaGreatDoor.cleared
    rcases Nat.lt_or_ge a p.addr with h1 | h1
    ·rw [List.append_assoc, List.getElem?_append_left (by rw [List.length_take]; omega), List.getElem?_take_of_lt h1]
    ·rw [List.getElem?_append_right (by rw [List.length_append, List.length_take, List.length_replicate]; omega), List.getElem?_drop]
     congr 1
     rw [List.length_append, List.length_take, List.length_replicate]; omega
 ·rw [if_neg hc]
  have hgn : goneP s j = false := by
   cases hx : goneP s j with
   | false => rfl
   | true => exact absurd (hg'.2 hx) hc
  refine ⟨_, rfl, ⟨rfl, rfl, h.act, rfl, h.dl, ?_, h.tl, h.R, h.xl, ?_⟩⟩
  ·intro i hi
   dsimp only
   rw [h.D i hi]
   by_cases hij : i = j
   ·subst hij; rw [hgn]; simp
   ·congr 2
    exact decide_eq_decide.2 (by omega)
  ·intro i q hq a ha1 ha2
   have := h.x i q hq a ha1 ha2
   show t.x[a]? = _
   rw [this]
   by_cases hij : i = j
   ·subst hij; rw [hgn]; simp
   ·rw [show (decide (i < j + 1) && goneP s i) = (decide (i < j) && goneP s i) by congr 1; exact decide_eq_decide.2 (by omega)]
set_option maxRecDepth 10000
structure ArM where
 b : Nat
 r : RowM
structure ArOk (a : ArM) (p : PlanM) : Prop where
 pl : PlanOk p
 r : RowOk a.r
 n : a.r.bs.length = p.g.slots
open Go.RowKit
set_option maxRecDepth 10000
structure BoM where
 b : Nat
 m : MemM
 t : Nat
 p : PlanM
def bodyH (B : BoM) : Heap := [(B.b, cells [.pointer (some ⟨B.m.b, 0, none⟩), .int .i64 (B.t : Nat), .pointer (some ⟨B.p.b, 0, none⟩)] 239)]
theorem bodyH_app {B : BoM} {F : Heap} : bodyH B ++ F = (B.b, cells [.pointer (some ⟨B.m.b, 0, none⟩), .int .i64 (B.t : Nat), .pointer (some ⟨B.p.b, 0, none⟩)] 239) :: F := rfl
structure BoOk (B : BoM) (x : List Int) : Prop where
 m : MemOk B.m
 p : PlanOk B.p
 r : B.m.R[B.t]? = some x
 n : x.length = B.p.g.words
 w : WdOk x
def putM (m : MemM) (t : Nat) (x : List Int) : MemM := ⟨m.b, m.R.set t x, m.ow, m.ob⟩
theorem setM_put {m : MemM} {t a : Nat} {w : Int} {x : List Int} (ht : m.R[t]? = some x) : setM m t a w = putM m t (x.set a w) := by unfold setM putM; rw [ht]; rfl
theorem zeroM_put {m : MemM} {t : Nat} {x : List Int} {p : SlotP} (ht : m.R[t]? = some x) : zeroM m t p.addr p.size = putM m t (wipeP x p) := by unfold zeroM putM; rw [ht]; rfl
theorem putM_put {m : MemM} {t : Nat} {x y : List Int} : putM (putM m t x) t y = putM m t y := by unfold putM; simp [List.set_set]
theorem putM_R {m : MemM} {t : Nat} {x y : List Int} (ht : m.R[t]? = some x) : (putM m t y).R[t]? = some y := by unfold putM; exact List.getElem?_set_self (lt_of_get ht)
theorem putM_self {m : MemM} {t : Nat} {x : List Int} (ht : m.R[t]? = some x) : putM m t x = m := by
 unfold putM
 have : m.R.set t x = m.R := by
  apply List.ext_getElem?
  intro i
  by_cases h : i = t
  ·subst h; rw [List.getElem?_set_self (lt_of_get ht), ht]
  ·rw [List.getElem?_set_ne (by omega)]
 rw [this]
theorem putM_ok {m : MemM} {t : Nat} {x y : List Int} (ok : MemOk m) (ht : m.R[t]? = some x) (hl : y.length = x.length) : MemOk (putM m t y) := by
 have h := set_r ht (x' := y) hl
 refine ok_of ok ?_ h.2 (by simp)
 obtain ⟨e1, e2⟩ := base_at ht
 show (m.R.set t y).flatten.length = _
 rw [h.1]; simp only [List.length_append, List.length_take, List.length_drop]; omega
def setB (B : BoM) (x : List Int) : BoM := ⟨B.b, putM B.m B.t x, B.t, B.p⟩
theorem setB_ok {B : BoM} {x y : List Int} (ok : BoOk B x) (hl : y.length = x.length) (hw : WdOk y) : BoOk (setB B y) y := ⟨putM_ok ok.m ok.r hl, ok.p, putM_R ok.r, by rw [hl]; exact ok.n, hw⟩
def headV (o : Option HdP) : Value := match o with
 | some h => .tuple [hdV h, .int .i64 0].toArray
 | none => .tuple [hdV ⟨0, 0, 0⟩, .int .i64 5].toArray
section
variable {w0 : World} {F : Heap} {B : BoM} {x : List Int} {s : Nat} {y : SlotP}
theorem bonone_K :
  Call Tryz.prog w0 225 [.pointer (some ⟨B.b, 0, none⟩)] (bodyH B ++ (memH B.m ++ (planH B.p ++ F))) (fun r H' => r = .bool false ∧ H' = bodyH B ++ (memH B.m ++ (planH B.p ++ F))) := by
 refine Call.enter1 (n := 12) (by kernel_rfl) Tryz.func225 rfl rfl rfl ?_
 simp only [rowH_app, planH_app, memH_app, bodyH_app]
 refine zfU ?_
 refine zaD ?_
 refine zbB ?_
 refine zdy ?_
 exact ze1
theorem place_K (ok : BoOk B x) (hy : B.p.g.L[s]? = some y) :
  Call Tryz.prog w0 152 [.pointer (some ⟨B.b, 0, none⟩), .int .i64 (s : Nat)] (bodyH B ++ (memH B.m ++ (planH B.p ++ F))) (fun r H' => r = .tuple [.int .i64 (y.addr : Nat), .int .i64 (y.size : Nat), .int .i64 0].toArray ∧ H' = bodyH B ++ (memH B.m ++ (planH B.p ++ F))) := by
 have okp := ok.p
 refine Call.enter2 (n := 33) (by kernel_rfl) Tryz.func152 rfl rfl rfl ?_
 refine zfN ?_
 refine zdP fun T hT => ?_
 refine (CallV.fn (bonone_K (B := B))).mono ?_
 rintro _ _ ⟨rfl, rfl⟩
 refine zd ?_
 clear hT T
 simp only [rowH_app, planH_app, memH_app, bodyH_app]
 refine zaW ?_
 refine zX ?_
 refine zfT fun T hT => ?_
 refine (CallV.part (CallV.fn (Addr0_K okp hy)) (by first | exact byPart | (simp only [rowH_app, planH_app, memH_app, bodyH_app]; exact byPart))).mono ?_
 refine ze ?_
 clear hT T
 refine zfv ?_
 refine zaB ?_
 refine zX ?_
 refine zfT fun T hT => ?_
 refine (CallV.part (CallV.fn (Size0_K okp hy)) (by first | exact byPart | (simp only [rowH_app, planH_app, memH_app, bodyH_app]; exact byPart))).mono ?_
 refine ze ?_
 clear hT T
 refine zlS ?_
 refine zr ?_
 refine zbI ?_
 refine zA ?_
 refine zL ?_
 exact ze1
theorem lies_K {h : HdP} (ok : BoOk B x) (hy : B.p.g.L[s]? = some y) :
  Call Tryz.prog w0 153 [.pointer (some ⟨B.b, 0, none⟩), .int .i64 (s : Nat), .int .i64 (y.size : Nat), hdV h] (bodyH B ++ (memH B.m ++ (planH B.p ++ F))) (fun r H' => r = .bool (liesP y h) ∧ H' = bodyH B ++ (memH B.m ++ (planH B.p ++ F))) := by
 have okp := ok.p
 have hneed := fun A => Need_K (w0 := w0) (H := A) (h := h)
 obtain ⟨c, r, w⟩ := h
 unfold hdV at *
 dsimp only at *
 cases hm : mayH ⟨c, r, w⟩ with
 | false =>
  have e : liesP y ⟨c, r, w⟩ = false := by simp [liesP, hm]
  have hn : needH ⟨c, r, w⟩ = (0, 2) := by simp [needH, hm]
  simp only [hn] at hneed
  rw [e]
  refine ziX ?_
  refine zW ?_; intro b7
  refine zp fun T hT => ?_
  refine zf5 ?_
  rintro _ _ ⟨rfl, rfl⟩
  refine zd ?_
  clear hT T
  refine zfv ?_
  refine zac ?_
  refine zfT fun T hT => ?_
  refine ziY ?_
  refine ze ?_
  clear hT T
  refine zfv ?_
  refine zH ?_
  refine zbF ?_
  refine zn ?_
  refine zek ?_
  refine zt ?_
  exact ze1
 | true =>
  have hn : needH ⟨c, r, w⟩ = (r + w + 1, 0) := by simp [needH, hm]
  simp only [hn] at hneed
  by_cases h1 : c = (y.cls : Nat)
  ·by_cases h2 : r + w + 1 ≤ (y.size : Nat)
   ·have e : liesP y ⟨c, r, w⟩ = true := by unfold liesP; rw [hm, Bool.true_and, decide_eq_true h1, decide_eq_true h2]; rfl
    rw [e]
    refine ziX ?_
    refine zW ?_; intro b7
    refine zp fun T hT => ?_
    refine zf5 ?_
    rintro _ _ ⟨rfl, rfl⟩
    refine zd ?_
    clear hT T
    refine zfv ?_
    refine zac ?_
    refine zfT fun T hT => ?_
    refine ziY ?_
    refine ze ?_
    clear hT T
    refine zfv ?_
    refine zY ?_
    refine ziE ?_
    refine zu ?_
    refine zY ?_
    refine zdi ?_
    refine zu ?_
    refine zah ?_
    refine zgJ ?_
    exact ze1
   ·have e : liesP y ⟨c, r, w⟩ = false := by simp [liesP, hm, h2]
    rw [e]
    refine ziX ?_
    refine zW ?_; intro b7
    refine zp fun T hT => ?_
    refine zf5 ?_
    rintro _ _ ⟨rfl, rfl⟩
    refine zd ?_
    clear hT T
    refine zfv ?_
    refine zac ?_
    refine zfT fun T hT => ?_
    refine ziY ?_
    refine ze ?_
    clear hT T
    refine zfv ?_
    refine zY ?_
    refine ziE ?_
    refine zu ?_
    refine zY ?_
    refine zdi ?_
    refine zu ?_
    refine zcq ?_
    refine zgJ ?_
    exact ze1
  ·have e : liesP y ⟨c, r, w⟩ = false := by simp [liesP, hm, h1]
   rw [e]
   refine ziX ?_
   refine zW ?_; intro b7
   refine zp fun T hT => ?_
   refine zf5 ?_
   rintro _ _ ⟨rfl, rfl⟩
   refine zd ?_
   clear hT T
   refine zfv ?_
   refine zac ?_
   refine zfT fun T hT => ?_
   refine ziY ?_
   refine ze ?_
   clear hT T
   refine zfv ?_
   refine zY ?_
   refine ziE ?_
   refine zu ?_
   refine zH ?_
   refine zC ?_
   refine zek ?_
   refine zt ?_
   exact ze1
theorem Head_K (hG : Glob w0) (ok : BoOk B x) (hy : B.p.g.L[s]? = some y) :
  Call Tryz.prog w0 94 [.pointer (some ⟨B.b, 0, none⟩), .int .i64 (s : Nat)] (bodyH B ++ (memH B.m ++ (planH B.p ++ F))) (fun r H' => r = headV (headP x y) ∧ H' = bodyH B ++ (memH B.m ++ (planH B.p ++ F))) := by
 have okp := ok.p
 have okm := ok.m
 have hr := ok.r
 obtain ⟨f1, f2, _⟩ := ok.p.g.fits hy
 have hal : y.addr < x.length := by rw [ok.n]; omega
 have hwx := wAt_get hal
 obtain ⟨w1, w2⟩ := ok.w.at_ y.addr
 obtain ⟨w, hw⟩ : ∃ w : Nat, wAt x y.addr = w := ⟨(wAt x y.addr).toNat, by omega⟩
 have hhead : headP x y = match getH w with | some h => if liesP y h then some h else none | none => none := by unfold headP; rw [hw]; rfl
 rw [hw] at hwx w2
 have hwl : w < 18446744073709551616 := by omega
 refine Call.enter2 (n := 53) (by kernel_rfl) Tryz.func94 rfl rfl rfl ?_
 refine zq ?_
 refine zaI ?_; intro b4
 refine zcC fun T hT => ?_
 refine zhn ?_
 refine ze ?_
 clear hT T
 rw [bodyH_app]
 refine zd8 ?_
 refine zD ?_
 refine zdF ?_
 refine K.drawn [] [(0, 0), (1, 0), (2, 0), (3, 0), (4, 0), (5, 0), (6, 0), (7, 0), (8, 0), (9, 2), (10, 0), (11, 0), (12, 0), (13, 0), (14, 0)] (by kernel_rfl) (by kernel_rfl) (by kernel_rfl) (by kernel_rfl) (by kernel_rfl) (by kernel_rfl) Part.nil ?_
 refine zK ?_
 refine zaV ?_
 refine zbU ?_
 refine zfX ?_
 refine zb5 ?_
 refine zl fun T hT => ?_
 refine (CallV.part (CallV.fn (Load_K okm hr hwx)) byPart).mono ?_
 refine zab ?_
 clear hT T
 refine ziB ?_
 refine zhT ?_
 refine zaw ?_
 refine zbm ?_
 refine zaN ?_
 refine zh fun T hT => ?_
 refine (CallV.fn (hGet_K hG hwl)).mono ?_
 rintro _ _ ⟨rfl, rfl⟩
 unfold hGetP
 cases hg : getH w with
 | none =>
  rw [hg] at hhead
  dsimp only at hhead ⊢
  refine zd ?_
  clear hT T
  rw [hhead]
  unfold hdV headV
  refine zao ?_; intro b11
  refine zaP ?_
  refine zct ?_
  refine z7 ?_
  refine zhK ?_
  refine zam ?_
  exact ze1
 | some h =>
  rw [hg] at hhead
  dsimp only at hhead ⊢
  have hlies := fun A => lies_K (w0 := w0) (F := A) (h := h) ok hy
  obtain ⟨c, r, w⟩ := h
  unfold hdV at *
  dsimp only at *
  refine zd ?_
  clear hT T
  refine zao ?_; intro b11
  refine za1 ?_
  refine zaa ?_
  refine zcm fun T hT => ?_
  refine (CallV.part (CallV.fn (hlies _)) (by first | exact byPart | (simp only [rowH_app, planH_app, memH_app, bodyH_app]; exact byPart))).mono ?_
  refine zS ?_
  cases hl : liesP y ⟨c, r, w⟩ with
  | true =>
   rw [hl] at hhead
   simp only [if_true] at hhead
   refine zd ?_
   clear hT T
   rw [hhead]
   unfold headV hdV
   refine zbQ ?_
   refine zan ?_
   refine zck ?_
   exact ze1
  | false =>
   rw [hl] at hhead
   simp only [Bool.false_eq_true, if_false] at hhead
   refine zd ?_
   clear hT T
   rw [hhead]
   unfold headV hdV
   refine zbe ?_
   refine zaz ?_
   refine zhK ?_
   refine zam ?_
   exact ze1
end
open Go.RowKit
set_option maxRecDepth 10000
section
variable {w0 : World} {F : Heap} {B : BoM} {x : List Int} {s : Nat} {y : SlotP}
theorem zero_ok {m : MemM} {t : Nat} {p : SlotP} (okm : MemOk m) (hr : m.R[t]? = some x) (hl : p.addr + p.size ≤ x.length) : MemOk (putM m t (wipeP x p)) := putM_ok okm hr (wipe_len hl)
theorem Make_K {h : HdP} (hG : Glob w0) (ok : BoOk B x) (hy : B.p.g.L[s]? = some y) :
  Call Tryz.prog w0 70 [.pointer (some ⟨B.b, 0, none⟩), .int .i64 (s : Nat), hdV h] (bodyH B ++ (memH B.m ++ (planH B.p ++ F))) (fun r H' => r = .int .i64 (makeP x y h).1 ∧ H' = bodyH B ++ (memH (putM B.m B.t (makeP x y h).2) ++ (planH B.p ++ F))) := by
 have okm := ok.m
 have hr := ok.r
 obtain ⟨f1, f2, _⟩ := ok.p.g.fits hy
 have hz := zeroM_put (p := y) hr
 have hself := putM_self hr
 have hput := fun A (hm : mayH h = true) => Put_K (w0 := w0) (H := A) hG hm
 have hlies := fun A => lies_K (w0 := w0) (F := A) (h := h) ok hy
 have hmk : makeP x y h = if liesP y h then (if (headP x y).isSome then (8, x) else (0, (wipeP x y).set y.addr (putW h))) else (2, x) := rfl
 have hpw : putW h = (putN h.c.toNat h.r.toNat h.w.toNat : Nat) := rfl
 have hlm := fun e => (lies_of (p := y) (h := h) e).1
 obtain ⟨pw, hpw'⟩ : ∃ pw, pw = putW h := ⟨_, rfl⟩
 rw [← hpw'] at hmk hpw
 simp only [← hpw] at hput
 obtain ⟨mk, hmk'⟩ : ∃ mk, mk = makeP x y h := ⟨_, rfl⟩
 rw [← hmk'] at hmk ⊢
 obtain ⟨li, hli⟩ : ∃ li, li = liesP y h := ⟨_, rfl⟩
 rw [← hli] at hmk hlm
 simp only [← hli] at hlies
 obtain ⟨c, r, w⟩ := h
 unfold hdV at *
 dsimp only at *
 clear hpw hpw' hmk' hli
 refine Call.enter3 (n := 65) (by kernel_rfl) Tryz.func70 rfl rfl rfl ?_
 refine zbl ?_; intro b5
 refine zcC fun T hT => ?_
 refine zhn ?_
 refine ze ?_
 clear hT T
 refine zd8 ?_
 refine zD ?_
 refine zaW ?_
 refine zbI ?_
 refine zp fun T hT => ?_
 refine ziZ ?_
 refine zS ?_
 cases li with
 | false =>
  refine zd ?_
  clear hT T
  simp only [Bool.false_eq_true, if_false] at hmk
  rw [hmk]
  dsimp only
  rw [hself]
  refine zat ?_
  exact zar
 | true =>
  simp only [if_true] at hmk
  refine zd ?_
  clear hT T
  refine zdV ?_
  refine zbb fun T hT => ?_
  refine (CallV.part (CallV.fn (Head_K hG ok hy)) byPart).mono ?_
  refine zS ?_
  unfold headV
  cases hh : headP x y with
  | some h' =>
   rw [hh] at hmk
   simp only [Option.isSome, if_true] at hmk
   dsimp only
   obtain ⟨c', r', w'⟩ := h'
   unfold hdV
   dsimp only
   refine zd ?_
   clear hT T
   rw [hmk]
   dsimp only
   rw [hself]
   refine zbp ?_; intro b10
   refine zav ?_
   refine zY ?_
   refine zI ?_
   exact zar
  | none =>
   rw [hh] at hmk
   simp only [Option.isSome, Bool.false_eq_true, if_false] at hmk
   dsimp only
   unfold hdV
   dsimp only
   refine zd ?_
   clear hT T
   refine zbp ?_; intro b10
   refine zav ?_
   refine zH ?_
   refine zM ?_
   refine zp fun T hT => ?_
   refine (CallV.fn (hput _ (hlm rfl))).mono ?_
   rintro _ _ ⟨rfl, rfl⟩
   refine zd ?_
   clear hT T
   rw [bodyH_app]
   refine zgD ?_
   refine zh5 ?_
   refine zK ?_
   refine zaV ?_
   refine zbU ?_
   refine zdj ?_
   refine zcd ?_
   refine zl fun T hT => ?_
   refine (CallV.part (CallV.fn (Zero_K (n := y.size) okm hr (by omega) (by rw [ok.n]; omega))) byPart).mono ?_
   refine zS ?_
   rw [hz]
   refine zi ?_
   clear hT T
   refine zV ?_
   refine zbC ?_
   refine K.drawn [] [(0, 0), (1, 0), (2, 0), (3, 0), (4, 0), (5, 0), (6, 0), (7, 0), (8, 0), (9, 0), (10, 2), (11, 0)] (by kernel_rfl) (by kernel_rfl) (by kernel_rfl) (by kernel_rfl) (by kernel_rfl) (by kernel_rfl) Part.nil ?_
   refine zK ?_
   refine zaV ?_
   refine zbU ?_
   refine zdj ?_
   refine zcd ?_
   refine zl fun T hT => ?_
   refine (CallV.part (CallV.fn (Store_K (t := B.t) (a := y.addr) (x := wipeP x y) (w := pw) (zero_ok okm hr (by rw [ok.n]; omega)) (putM_R hr) (by rw [wipe_len (by rw [ok.n]; omega), ok.n]; omega))) byPart).mono ?_
   refine zS ?_
   rw [setM_put (putM_R hr), putM_put]
   refine zi ?_
   clear hT T
   rw [hmk]
   dsimp only
   refine za2 ?_
   exact KE.fin byMarks rfl byRes (by first | exact byPart | (simp only [bodyH_app]; exact byPart)) ⟨rfl, rfl⟩
end
set_option maxRecDepth 10000
section
variable {w0 : World} {F : Heap} {B : BoM} {x : List Int} {s : Nat} {y : SlotP}
theorem bat_K {ref : Bool} {i : Int} {g : FuncId} {cap : List Value} {B1 : Heap} (hG : Glob w0) (ok : BoOk B x) (hy : B.p.g.L[s]? = some y)
  (hdo : fldP x y ref i = 0 → ∀ A, CallV Tryz.prog w0 (.func (.func g) #[] cap.toArray) [.int .i64 (fAt y i : Nat)] (A ++ (bodyH B ++ (memH B.m ++ (planH B.p ++ F)))) (fun r H' => r = .tuple #[] ∧ H' = A ++ B1)) :
  Call Tryz.prog w0 240 [.pointer (some ⟨B.b, 0, none⟩), .bool ref, .int .i64 (s : Nat), .int .i64 i, .func (.func g) #[] cap.toArray] (bodyH B ++ (memH B.m ++ (planH B.p ++ F)))
   (fun r H' => r = .int .i64 (fldP x y ref i) ∧ H' = if fldP x y ref i = 0 then B1 else bodyH B ++ (memH B.m ++ (planH B.p ++ F))) := by
 obtain ⟨f1, f2, f3, _⟩ := ok.p.g.fits hy
 have hfl : fldP x y ref i = match headP x y with | none => 5 | some h => if 0 ≤ i ∧ i < h.r + h.w ∧ decide (i < h.r) = ref then 0 else 110 := rfl
 have hwords := ok.p.g.words
 have hhm : ∀ h, headP x y = some h → mayH h = true := fun h e => (lies_of (headP_of e).2).1
 have hin := fun (e : fldP x y ref i = 0) => fld_in e
 refine Call.enter5 (n := 53) (by kernel_rfl) Tryz.func240 rfl rfl rfl ?_
 refine zcM ?_
 refine zh fun T hT => ?_
 refine (CallV.part (CallV.fn (Head_K hG ok hy)) byPart).mono ?_
 refine zS ?_
 unfold headV
 cases hh : headP x y with
 | none =>
  rw [hh] at hfl
  dsimp only at hfl
  unfold hdV
  dsimp only
  refine zd ?_
  clear hT T
  rw [hfl, if_neg (by decide)]
  refine zao ?_; intro b11
  refine zcU ?_
  exact zar
 | some h =>
  rw [hh] at hfl
  dsimp only at hfl
  have hm := hhm h hh
  have hF := fun A => hField_K (w0 := w0) (H := A) (h := h) (i := i)
  have hfd : fieldH h i = if i < 0 ∨ i ≥ h.r + h.w then (false, 110) else (decide (i < h.r), 0) := by unfold fieldH; rw [if_pos hm]
  obtain ⟨c, r, w⟩ := h
  unfold hdV at *
  dsimp only at *
  clear hhm
  by_cases h1 : i < 0 ∨ i ≥ r + w
  ·rw [if_pos h1] at hfd
   rw [if_neg (by omega)] at hfl
   simp only [hfd] at hF
   refine zd ?_
   clear hT T
   rw [hfl, if_neg (by decide)]
   refine zao ?_; intro b11
   refine zD ?_
   refine zaW ?_
   refine zz fun T hT => ?_
   refine zho ?_
   rintro _ _ ⟨rfl, rfl⟩
   refine zd ?_
   clear hT T
   refine zbv ?_
   refine zaP ?_
   refine zge ?_
   refine z7 ?_
   exact zar
  ·rw [if_neg h1] at hfd
   simp only [hfd] at hF
   by_cases h2 : decide (i < r) = ref
   ·rw [if_pos ⟨by omega, by omega, h2⟩] at hfl
    obtain ⟨q1, q2, q3⟩ := hin hfl
    have had : ((y.addr : Nat) : Int) + 1 + i = (fAt y i : Nat) := by unfold fAt; omega
    subst h2
    refine zd ?_
    clear hT T
    rw [hfl, if_pos rfl]
    refine zao ?_; intro b11
    refine zD ?_
    refine zaW ?_
    refine zz fun T hT => ?_
    refine zho ?_
    rintro _ _ ⟨rfl, rfl⟩
    have hdo1 := hdo hfl [(b11, cells [.int .i64 c, .int .i64 r, .int .i64 w] 148)]
    have hbn : (decide (i < r) != decide (i < r)) = false := by simp
    refine zd ?_
    clear hT T
    refine zbv ?_
    refine zeu ?_
    refine zf6 ?_
    refine zn ?_
    refine zb9 ?_
    rw [hbn]
    refine K.condF rfl (K.skip (KE.next (K.seq (K.region ?_))))
    refine zbb fun T hT => ?_
    refine zhn ?_
    refine ze ?_
    clear hT T
    refine zcN ?_
    refine zr ?_
    refine zj ?_
    refine zgm ?_
    refine zQ ?_
    refine zg fun T hT => ?_
    rw [had]
    refine (CallV.part hdo1 byPart).mono ?_
    refine ze ?_
    clear hT T
    refine zy ?_
    exact zw
   ·rw [if_neg (by intro h; exact h2 h.2.2)] at hfl
    have hbn : (decide (i < r) != ref) = true := by
     cases hd : decide (i < r) <;> cases ref <;> simp_all
    refine zd ?_
    clear hT T
    rw [hfl, if_neg (by decide)]
    refine zao ?_; intro b11
    refine zD ?_
    refine zaW ?_
    refine zz fun T hT => ?_
    refine zho ?_
    rintro _ _ ⟨rfl, rfl⟩
    refine zd ?_
    clear hT T
    refine zbv ?_
    refine zeu ?_
    refine zf6 ?_
    refine zn ?_
    refine zb9 ?_
    rw [hbn]
    refine K.condT rfl (K.seq (K.region ?_))
    exact zar
theorem bstore_K {ref : Bool} {i w : Int} (hG : Glob w0) (ok : BoOk B x) (hy : B.p.g.L[s]? = some y) :
  Call Tryz.prog w0 162 [.pointer (some ⟨B.b, 0, none⟩), .bool ref, .int .i64 (s : Nat), .int .i64 i, .int .u64 w] (bodyH B ++ (memH B.m ++ (planH B.p ++ F)))
   (fun r H' => r = .int .i64 (fldP x y ref i) ∧ H' = bodyH B ++ (memH (putM B.m B.t (if fldP x y ref i = 0 then x.set (fAt y i) w else x)) ++ (planH B.p ++ F))) := by
 have okm := ok.m
 have hr := ok.r
 obtain ⟨f1, f2, f3, _⟩ := ok.p.g.fits hy
 have hin := fun (e : fldP x y ref i = 0) => fld_in e
 have hn := ok.n
 have hself := putM_self hr
 refine Call.enter5 (n := 17) (by kernel_rfl) Tryz.func162 rfl rfl rfl ?_
 refine zb3 ?_; intro b5 b9
 refine zr ?_
 refine zk ?_
 refine zbI ?_
 refine zby fun T hT => ?_
 refine (CallV.part (CallV.fn (bat_K (F := (b5, cells [.pointer (some ⟨B.b, 0, none⟩)] 29) :: (b9, cells [.int .u64 w] 64) :: F) (ref := ref) (i := i) (g := 241) (cap := [.pointer (some ⟨b5, 0, none⟩), .pointer (some ⟨b9, 0, none⟩)])
  (B1 := bodyH B ++ (memH (putM B.m B.t (x.set (fAt y i) w)) ++ (planH B.p ++ ((b5, cells [.pointer (some ⟨B.b, 0, none⟩)] 29) :: (b9, cells [.int .u64 w] 64) :: F)))) hG ok hy ?_)) byPart).mono ?_
 ·intro e A
  obtain ⟨q1, q2, q3⟩ := hin e
  refine CallV.clo (cap := [.pointer (some ⟨b5, 0, none⟩), .pointer (some ⟨b9, 0, none⟩)]) ?_
  refine Call.enter3 (n := 15) (by kernel_rfl) Tryz.func241 rfl rfl rfl ?_
  rw [bodyH_app]
  refine zh5 ?_
  refine zx ?_
  refine zca ?_
  refine zaV ?_
  refine zx ?_
  refine zx ?_
  refine zca ?_
  refine zfX ?_
  refine zb5 ?_
  refine zx ?_
  refine zl fun T hT => ?_
  refine (CallV.part (CallV.fn (Store_K (t := B.t) (a := fAt y i) (x := x) (w := w) okm hr (by omega))) byPart).mono ?_
  refine zS ?_
  rw [setM_put hr]
  refine zi ?_
  clear hT T
  refine zV ?_
  exact KE.finN byMarks rfl byRes (by rw [bodyH_app]; exact byPart) ⟨rfl, rfl⟩
 ·refine zS ?_
  by_cases e : fldP x y ref i = 0
  ·rw [if_pos e]
   refine zd ?_
   clear hT T
   rw [if_pos e]
   exact zw
  ·rw [if_neg e]
   refine zd ?_
   clear hT T
   rw [if_neg e, hself]
   exact zw
end
open Go.RowKit
set_option maxRecDepth 10000
theorem bNew_K {w0 : World} {F : Heap} {m : MemM} {t : Nat} {p : PlanM} {x : List Int} (okm : MemOk m) (hr : m.R[t]? = some x) (ok : PlanOk p) (hn : x.length = p.g.words) (hw : WdOk x) :
  Call Tryz.prog w0 62 [.pointer (some ⟨m.b, 0, none⟩), .int .i64 (t : Nat), .pointer (some ⟨p.b, 0, none⟩)] (memH m ++ (planH p ++ F)) (fun r H' => ∃ B : BoM, BoOk B x ∧ B.m = m ∧ B.t = t ∧ B.p = p ∧ r = .tuple [.pointer (some ⟨B.b, 0, none⟩), .int .i64 0].toArray ∧ H' = bodyH B ++ (memH m ++ (planH p ++ F))) := by
 have hs := ok.g.slots
 have hne : ¬ ((p.g.slots : Nat) : Int) = 0 := by omega
 have hne2 : ¬ ((x.length : Nat) : Int) ≠ (p.g.words : Nat) := by omega
 refine Call.enter3 (n := 39) (by kernel_rfl) Tryz.func62 rfl rfl rfl ?_
 refine zaj ?_
 refine zcC fun T hT => ?_
 refine (CallV.part (CallV.fn (Words_K okm hr)) byPart).mono ?_
 rintro _ _ ⟨o, ko, rfl, rfl⟩
 refine zd ?_
 clear hT T
 refine zag ?_
 refine zfK ?_
 refine zg fun T hT => ?_
 refine (CallV.part (CallV.fn (Slots0_K ok)) byPart).mono ?_
 refine ze ?_
 clear hT T
 refine zkL ?_
 refine zn ?_
 refine zdg ?_
 refine zf ?_
 refine za1 ?_
 refine za6 ?_
 refine zaF ?_
 refine zg fun T hT => ?_
 refine (CallV.part (CallV.fn (Words0_K ok)) byPart).mono ?_
 refine ze ?_
 clear hT T
 refine zdn ?_
 refine zn ?_
 refine zdu ?_
 refine zbI ?_
 refine zeT ?_; intro b38
 refine zL ?_
 exact KE.fin (H' := bodyH ⟨b38, m, t, p⟩ ++ (memH m ++ (planH p ++ F))) byMarks rfl byRes (by rw [bodyH_app]; exact byPart) ⟨⟨b38, m, t, p⟩, ⟨okm, ok, hr, hn, hw⟩, rfl, rfl, rfl, rfl, rfl⟩
set_option maxRecDepth 10000
set_option maxRecDepth 10000
set_option maxRecDepth 10000
set_option maxRecDepth 10000
structure TiM where
 b : Nat
 l : List Int
 f : Nat
 o : Own
def colP (f : Nat) (v : Int) : Int := if v = 2 * (f : Int) then 1 else if v = 2 * (f : Int) + 1 then 2 else 0
def tiC (t : TiM) : List Int := t.l.map (colP t.f)
def tintH (t : TiM) : Heap := (t.b, cells [oV t.o t.l.length, .int .u64 (t.f : Nat)] 279) :: oH uE 64 t.l t.o
theorem tintH_app {t : TiM} {F : Heap} : tintH t ++ F = (t.b, cells [oV t.o t.l.length, .int .u64 (t.f : Nat)] 279) :: (oH uE 64 t.l t.o ++ F) := rfl
structure TiOk (t : TiM) : Prop where
 o : oOk uE t.l t.o
 n : t.l.length ≤ 65536
 f : 1 ≤ t.f ∧ t.f ≤ 1000000000
 v : ∀ v ∈ t.l, 0 ≤ v ∧ v ≤ 2 * (t.f : Int) + 1
theorem tiC_len (t : TiM) : (tiC t).length = t.l.length := by simp [tiC]
section
variable {w0 : World} {F : Heap} {t : TiM}
theorem tinone_K (ok : TiOk t) : Call Tryz.prog w0 196 [.pointer (some ⟨t.b, 0, none⟩)] (tintH t ++ F) (fun r H' => r = .bool false ∧ H' = tintH t ++ F) := by
 have hf := ok.f
 have hne : ¬ ((t.f : Nat) : Int) = 0 := by omega
 refine Call.enter1 (n := 12) (by kernel_rfl) Tryz.func196 rfl rfl rfl ?_
 simp only [tintH_app]
 refine zfU ?_
 refine z6 ?_
 refine zH ?_
 refine zdy ?_
 exact ze2
theorem tihas_K {s : Nat} (ok : TiOk t) (hs : s < t.l.length) : Call Tryz.prog w0 184 [.pointer (some ⟨t.b, 0, none⟩), .int .i64 (s : Nat)] (tintH t ++ F) (fun r H' => r = .int .i64 0 ∧ H' = tintH t ++ F) := by
 have ho := ok.o
 have hge : ¬ ((s : Nat) : Int) ≥ (t.l.length : Nat) := by omega
 refine zj2 ?_
 refine zfS ?_
 refine zh fun T hT => ?_
 refine (CallV.fn (tinone_K ok)).mono ?_
 rintro _ _ ⟨rfl, rfl⟩
 refine zd ?_
 clear hT T
 simp only [tintH_app]
 refine zds ?_
 refine zcw ?_
 refine zaD ?_
 refine zcg ?_
 refine zdw ?_
 refine zdu ?_
 refine zt ?_
 exact ze2
theorem tihas_E {s : Int} (ok : TiOk t) (hs : ¬ (0 ≤ s ∧ s < (t.l.length : Nat))) : Call Tryz.prog w0 184 [.pointer (some ⟨t.b, 0, none⟩), .int .i64 s] (tintH t ++ F) (fun r H' => r = .int .i64 2 ∧ H' = tintH t ++ F) := by
 have ho := ok.o
 by_cases h0 : s < 0
 ·refine zj2 ?_
  refine zfS ?_
  refine zh fun T hT => ?_
  refine (CallV.fn (tinone_K ok)).mono ?_
  rintro _ _ ⟨rfl, rfl⟩
  refine zd ?_
  clear hT T
  simp only [tintH_app]
  refine zdg ?_
  refine zf ?_
  refine zE ?_
  refine zcz ?_
  refine zC ?_
  refine zg6 ?_
  refine zgg ?_
  exact ze2
 ·have hge : s ≥ ((t.l.length : Nat) : Int) := by omega
  refine zj2 ?_
  refine zfS ?_
  refine zh fun T hT => ?_
  refine (CallV.fn (tinone_K ok)).mono ?_
  rintro _ _ ⟨rfl, rfl⟩
  refine zd ?_
  clear hT T
  simp only [tintH_app]
  refine zds ?_
  refine zcw ?_
  refine zaD ?_
  refine zcg ?_
  refine z8 ?_
  refine zn ?_
  refine zg6 ?_
  refine zgg ?_
  exact ze2
theorem ticol_K {v : Int} (ok : TiOk t) : Call Tryz.prog w0 185 [.pointer (some ⟨t.b, 0, none⟩), .int .u64 v] (tintH t ++ F) (fun r H' => r = .int .u8 (colP t.f v) ∧ H' = tintH t ++ F) := by
 have hf := ok.f
 by_cases h1 : v = 2 * (t.f : Int)
 ·have e : colP t.f v = 1 := by unfold colP; rw [if_pos h1]
  rw [e]
  refine zj3 ?_
  simp only [tintH_app]
  refine zbu ?_
  refine zi0 ?_
  refine zfD ?_
  refine zeX ?_
  refine zfR ?_
  refine zgg ?_
  exact ze2
 ·by_cases h2 : v = 2 * (t.f : Int) + 1
  ·have e : colP t.f v = 2 := by unfold colP; rw [if_neg h1, if_pos h2]
   rw [e]
   refine zj3 ?_
   simp only [tintH_app]
   refine zbu ?_
   refine zi0 ?_
   refine zfD ?_
   refine zeX ?_
   refine zbP ?_
   refine zfD ?_
   refine zeX ?_
   refine zQ ?_
   refine zfR ?_
   refine zgg ?_
   exact ze2
  ·have e : colP t.f v = 0 := by unfold colP; rw [if_neg h1, if_neg h2]
   rw [e]
   refine zj3 ?_
   simp only [tintH_app]
   refine zbu ?_
   refine zi0 ?_
   refine zfD ?_
   refine zeX ?_
   refine zbP ?_
   refine zfD ?_
   refine zeX ?_
   refine zQ ?_
   refine zix ?_
   refine ziF ?_
   refine zt ?_
   exact ze2
theorem tiOf_K {s : Nat} {c : Int} (ok : TiOk t) (hc : (tiC t)[s]? = some c) : Call Tryz.prog w0 112 [.pointer (some ⟨t.b, 0, none⟩), .int .i64 (s : Nat)] (tintH t ++ F) (fun r H' => r = .tuple [.int .u8 c, .int .i64 0].toArray ∧ H' = tintH t ++ F) := by
 have hs : s < t.l.length := by have := lt_of_get hc; rwa [tiC_len] at this
 have ho := ok.o
 obtain ⟨v, hv⟩ := get_of_lt hs
 have hcv : c = colP t.f v := by
  unfold tiC at hc
  rw [List.getElem?_map, hv] at hc
  simpa using hc.symm
 subst hcv
 refine Call.enter2 (n := 22) (by kernel_rfl) Tryz.func112 rfl rfl rfl ?_
 refine zdA ?_
 refine zh fun T hT => ?_
 refine (CallV.fn (tihas_K ok hs)).mono ?_
 rintro _ _ ⟨rfl, rfl⟩
 refine zd ?_
 clear hT T
 simp only [tintH_app]
 refine zav ?_
 refine zaB ?_
 refine zeK ?_
 refine zbJ ?_
 refine zdQ ?_
 refine zg fun T hT => ?_
 refine (CallV.part (CallV.fn (ticol_K (v := v) ok)) (by first | exact byPart | (simp only [tintH_app]; exact byPart))).mono ?_
 refine ze ?_
 clear hT T
 simp only [tintH_app]
 refine zL ?_
 exact ze2
theorem tiOf_E {s : Int} (ok : TiOk t) (hs : ¬ (0 ≤ s ∧ s < (t.l.length : Nat))) : Call Tryz.prog w0 112 [.pointer (some ⟨t.b, 0, none⟩), .int .i64 s] (tintH t ++ F) (fun r H' => r = .tuple [.int .u8 0, .int .i64 2].toArray ∧ H' = tintH t ++ F) := by
 refine Call.enter2 (n := 22) (by kernel_rfl) Tryz.func112 rfl rfl rfl ?_
 refine zdA ?_
 refine zh fun T hT => ?_
 refine (CallV.fn (tihas_E ok hs)).mono ?_
 rintro _ _ ⟨rfl, rfl⟩
 refine zd ?_
 clear hT T
 refine zav ?_
 refine zcU ?_
 refine zeF ?_
 exact ze2
theorem tiBlack_K {s : Nat} (ok : TiOk t) (hs : s < t.l.length) : Call Tryz.prog w0 121 [.pointer (some ⟨t.b, 0, none⟩), .int .i64 (s : Nat)] (tintH t ++ F) (fun r H' => r = .int .i64 0 ∧ ∃ t', TiOk t' ∧ t'.b = t.b ∧ t'.f = t.f ∧ tiC t' = (tiC t).set s 2 ∧ H' = tintH t' ++ F) := by
 have ho := ok.o
 have hf := ok.f
 obtain ⟨v, hv⟩ := get_of_lt hs
 refine Call.enter2 (n := 24) (by kernel_rfl) Tryz.func121 rfl rfl rfl ?_
 refine zcM ?_
 refine zh fun T hT => ?_
 refine (CallV.fn (tihas_K ok hs)).mono ?_
 rintro _ _ ⟨rfl, rfl⟩
 refine zd ?_
 clear hT T
 simp only [tintH_app]
 refine zT ?_
 refine zY ?_
 refine zfW ?_
 refine K.drawn [] [(0, 0), (1, 0), (2, 0), (3, 0), (4, 0), (5, 0), (6, 0), (7, 0), (8, 0), (9, 0), (10, 0), (11, 0), (12, 2)] (by kernel_rfl) (by kernel_rfl) (by kernel_rfl) (by kernel_rfl) (by kernel_rfl) (by kernel_rfl) Part.nil ?_
 refine zK ?_
 refine zcT ?_
 refine zK ?_
 refine zdj ?_
 refine zgT ?_
 refine zb1 ?_
 refine zdD ?_
 refine zi1 ?_
 refine zgl ?_
 refine zaN ?_
 refine zbV ?_
 have hle : (t.l.set s (2 * (t.f : Int) + 1)).length = t.l.length := List.length_set
 refine KE.fin (H' := tintH ⟨t.b, t.l.set s (2 * (t.f : Int) + 1), t.f, t.o⟩ ++ F) byMarks rfl byRes (by simp only [tintH_app, hle]; exact byPart) ⟨rfl, ⟨t.b, t.l.set s (2 * (t.f : Int) + 1), t.f, t.o⟩, ⟨ho.set s _, by rw [hle]; exact ok.n, hf, ?_⟩, rfl, rfl, ?_, rfl⟩
 ·intro u hu
  rcases List.mem_or_eq_of_mem_set hu with h | h
  ·exact ok.v u h
  ·rw [h]; show 0 ≤ 2 * ((t.f : Nat) : Int) + 1 ∧ 2 * ((t.f : Nat) : Int) + 1 ≤ 2 * ((t.f : Nat) : Int) + 1; omega
 ·unfold tiC
  rw [List.map_set]
  congr 1
  unfold colP
  rw [if_neg (by omega), if_pos rfl]
theorem tiFlip_K (ok : TiOk t) (hb : t.f ≤ 1000000) : Call Tryz.prog w0 118 [.pointer (some ⟨t.b, 0, none⟩)] (tintH t ++ F) (fun r H' => r = .tuple #[] ∧ ∃ t', TiOk t' ∧ t'.b = t.b ∧ t'.f = t.f + 1 ∧ tiC t' = List.replicate t.l.length 0 ∧ H' = tintH t' ++ F) := by
 have hf := ok.f
 have ho := ok.o
 have he : ((t.f : Nat) : Int) + 1 = ((t.f + 1 : Nat) : Int) := by omega
 refine Call.enter1 (n := 12) (by kernel_rfl) Tryz.func118 rfl rfl rfl ?_
 refine zq ?_
 refine zh fun T hT => ?_
 refine (CallV.fn (tinone_K ok)).mono ?_
 rintro _ _ ⟨rfl, rfl⟩
 refine zd ?_
 clear hT T
 simp only [tintH_app]
 refine zbA ?_
 refine zbz ?_
 refine zfD ?_
 refine zQ ?_
 refine zac ?_
 refine zcp ?_
 refine zN ?_
 refine zap ?_
 rw [he]
 refine KE.finN (H' := tintH ⟨t.b, t.l, t.f + 1, t.o⟩ ++ F) byMarks rfl byRes (by simp only [tintH_app]; exact byPart) ⟨rfl, ⟨t.b, t.l, t.f + 1, t.o⟩, ⟨ho, ok.n, by show 1 ≤ t.f + 1 ∧ t.f + 1 ≤ _; omega, ?_⟩, rfl, rfl, ?_, rfl⟩
 ·intro v hv
  have := ok.v v hv
  show 0 ≤ v ∧ v ≤ 2 * ((t.f + 1 : Nat) : Int) + 1
  omega
 ·refine List.eq_replicate_iff.2 ⟨by simp [tiC], fun c hc => ?_⟩
  obtain ⟨v, hv, rfl⟩ := List.mem_map.1 hc
  have := ok.v v hv
  unfold colP
  rw [if_neg (by show ¬ v = 2 * ((t.f + 1 : Nat) : Int); omega), if_neg (by show ¬ v = 2 * ((t.f + 1 : Nat) : Int) + 1; omega)]
end
theorem tiNew_K {w0 : World} {H : Heap} {n : Nat} (hn : n ≤ 65536) : Call Tryz.prog w0 108 [.int .i64 (n : Nat)] H (fun r H' => ∃ t, TiOk t ∧ t.f = 1 ∧ tiC t = List.replicate n 0 ∧ r = .tuple [.pointer (some ⟨t.b, 0, none⟩), .int .i64 0].toArray ∧ H' = tintH t ++ H) := by
 have hgt : ¬ ((n : Nat) : Int) > 65536 := by omega
 refine Call.enter1 (n := 14) (by kernel_rfl) Tryz.func108 rfl rfl rfl ?_
 refine zdA ?_
 refine zbG ?_
 refine zae ?_
 refine zan ?_
 refine zf ?_
 refine KL.e rfl (Eff.makeR (E := uE) (x0 := 0) rfl rfl rfl rfl rfl rfl (by first | assumption | omega | (simp <;> fail) | (simp; omega))) ?_; rintro _ _ ⟨o11, ok11, rfl, rfl⟩
 refine zeT ?_; intro b13
 refine zL ?_
 refine KE.fin (H' := tintH ⟨b13, List.replicate n 0, 1, o11⟩ ++ H) byMarks rfl byRes (by rw [tintH_app]; simp only [List.length_replicate]; exact byPart) ⟨⟨b13, List.replicate n 0, 1, o11⟩, ⟨ok11, by simpa using hn, by show 1 ≤ 1 ∧ 1 ≤ 1000000000; omega, fun v hv => ?_⟩, rfl, ?_, rfl, rfl⟩
 ·rw [(List.mem_replicate.1 hv).2]; show (0 : Int) ≤ 0 ∧ (0 : Int) ≤ 2 * ((1 : Nat) : Int) + 1; omega
 ·unfold tiC colP; simp
open Go.RowKit
set_option maxRecDepth 10000
structure GrM where
 b : Nat
 ow : RowM
 di : RowM
 ring : List Int
 o : Own
 first : Nat
 many : Nat
 at_ : Nat
 end_ : Nat
def greyH (g : GrM) (p : PlanM) : Heap := (g.b, cells [.pointer (some ⟨g.ow.b, 0, none⟩), .pointer (some ⟨g.di.b, 0, none⟩), .pointer (some ⟨p.b, 0, none⟩), oV g.o g.ring.length, .int .i64 (g.first : Nat), .int .i64 (g.many : Nat), .int .i64 (g.at_ : Nat), .int .i64 (g.end_ : Nat)] 277) :: (rowH g.ow ++ (rowH g.di ++ oH iE 3 g.ring g.o))
theorem greyH_app {g : GrM} {p : PlanM} {F : Heap} : greyH g p ++ F = (g.b, cells [.pointer (some ⟨g.ow.b, 0, none⟩), .pointer (some ⟨g.di.b, 0, none⟩), .pointer (some ⟨p.b, 0, none⟩), oV g.o g.ring.length, .int .i64 (g.first : Nat), .int .i64 (g.many : Nat), .int .i64 (g.at_ : Nat), .int .i64 (g.end_ : Nat)] 277) :: (rowH g.ow ++ (rowH g.di ++ (oH iE 3 g.ring g.o ++ F))) := by
 unfold greyH; simp only [List.cons_append, List.append_assoc]
structure GrOk (g : GrM) (p : PlanM) : Prop where
 pl : PlanOk p
 ow : RowOk g.ow
 di : RowOk g.di
 o : oOk iE g.ring g.o
 n1 : g.ow.bs.length = p.g.slots
 n2 : g.di.bs.length = p.g.pages
 l : 1 ≤ g.ring.length ∧ g.ring.length ≤ 64
structure GrNil (g : GrM) (p : PlanM) : Prop where
 ow : g.ow.bs = List.replicate p.g.slots false
 di : g.di.bs = List.replicate p.g.pages false
 first : g.first = 0
 many : g.many = 0
 at_ : g.at_ = 0
 end_ : g.end_ = 0
section
variable {w0 : World} {F : Heap} {p : PlanM} {g : GrM}
theorem Pages0_K (ok : PlanOk p) :
  Call Tryz.prog w0 181 [.pointer (some ⟨p.b, 0, none⟩)] (planH p ++ F) (fun r H' => r = .int .i64 (p.g.pages : Nat) ∧ H' = planH p ++ F) := by
 refine Call.enter1 (n := 9) (by kernel_rfl) Tryz.func181 rfl rfl rfl ?_
 refine zbc fun T hT => ?_
 refine (CallV.fn (plnone_K ok)).mono ?_
 rintro _ _ ⟨rfl, rfl⟩
 refine zd ?_
 clear hT T
 rw [planH_app]
 refine zdz ?_
 refine zas ?_
 exact zw
theorem grnone_K (ok : GrOk g p) :
  Call Tryz.prog w0 194 [.pointer (some ⟨g.b, 0, none⟩)] (greyH g p ++ F) (fun r H' => r = .bool false ∧ H' = greyH g p ++ F) := by
 have hl := ok.l
 have ho := ok.o
 have hne : ¬ ((g.ring.length : Nat) : Int) = 0 := by omega
 refine Call.enter1 (n := 13) (by kernel_rfl) Tryz.func194 rfl rfl rfl ?_
 simp only [greyH_app]
 refine zfU ?_
 refine ziz ?_
 refine zcg ?_
 refine zH ?_
 refine zdy ?_
 exact zh6
theorem grNew_K {n : Nat} (ok : PlanOk p) (hn : 1 ≤ n ∧ n ≤ 64) :
  Call Tryz.prog w0 107 [.pointer (some ⟨p.b, 0, none⟩), .int .i64 (n : Nat)] (planH p ++ F) (fun r H' => ∃ g, GrOk g p ∧ GrNil g p ∧ g.ring.length = n ∧ r = .tuple [.pointer (some ⟨g.b, 0, none⟩), .int .i64 0].toArray ∧ H' = greyH g p ++ (planH p ++ F)) := by
 have hs := ok.g.slots
 have hp := ok.g.pages
 have hne : ¬ ((p.g.slots : Nat) : Int) = 0 := by omega
 have h1 : ¬ ((n : Nat) : Int) < 1 := by omega
 have h2 : ¬ ((n : Nat) : Int) > 64 := by omega
 refine zj4 ?_
 refine zaj ?_
 refine zhH ?_
 refine zh fun T hT => ?_
 refine (CallV.fn (Slots0_K ok)).mono ?_
 rintro _ _ ⟨rfl, rfl⟩
 refine zd ?_
 clear hT T
 refine zbP ?_
 refine zdf ?_
 refine zeL ?_
 refine zdu ?_
 refine zh fun T hT => ?_
 refine (CallV.fn (Slots0_K ok)).mono ?_
 rintro _ _ ⟨rfl, rfl⟩
 refine zd ?_
 clear hT T
 refine zg fun T hT => ?_
 refine (CallV.fn (rNew_K (n := p.g.slots) (by omega))).mono ?_
 rintro _ _ ⟨r1, kr1, hb1, rfl, rfl⟩
 refine zd ?_
 clear hT T
 refine zbw ?_
 refine zh fun T hT => ?_
 refine (CallV.part (CallV.fn (Pages0_K ok)) byPart).mono ?_
 refine ze ?_
 clear hT T
 refine zg fun T hT => ?_
 refine (CallV.fn (rNew_K (n := p.g.pages) (by omega))).mono ?_
 rintro _ _ ⟨r2, kr2, hb2, rfl, rfl⟩
 refine zd ?_
 clear hT T
 refine zbw ?_
 refine zj ?_
 refine zaf ?_
 refine zj ?_
 refine KL.e rfl (Eff.makeR (E := iE) (x0 := 0) rfl rfl rfl rfl rfl rfl (by first | assumption | omega | (simp <;> fail) | (simp; omega))) ?_; rintro _ _ ⟨o38, ok38, rfl, rfl⟩
 refine zeT ?_; intro b40
 refine zL ?_
 exact KE.fin (H' := greyH ⟨b40, r1, r2, List.replicate n 0, o38, 0, 0, 0, 0⟩ p ++ (planH p ++ F)) byMarks rfl byRes (by simp only [greyH_app, List.length_replicate]; exact byPart) ⟨⟨b40, r1, r2, List.replicate n 0, o38, 0, 0, 0, 0⟩, ⟨ok, kr1, kr2, ok38, by simp [hb1], by simp [hb2], by simpa using hn⟩, ⟨hb1, hb2, rfl, rfl, rfl, rfl⟩, by simp, rfl, rfl⟩
theorem grClear_K (ok : GrOk g p) :
  Call Tryz.prog w0 119 [.pointer (some ⟨g.b, 0, none⟩)] (greyH g p ++ F) (fun r H' => r = .tuple #[] ∧ ∃ g', GrOk g' p ∧ GrNil g' p ∧ g'.b = g.b ∧ g'.ring.length = g.ring.length ∧ H' = greyH g' p ++ F) := by
 have k1 := ok.ow
 have k2 := ok.di
 have ho := ok.o
 refine Call.enter1 (n := 29) (by kernel_rfl) Tryz.func119 rfl rfl rfl ?_
 refine zq ?_
 refine zh fun T hT => ?_
 refine (CallV.fn (grnone_K ok)).mono ?_
 rintro _ _ ⟨rfl, rfl⟩
 refine zd ?_
 clear hT T
 simp only [greyH_app]
 refine zat ?_
 refine zX ?_
 refine zaM ?_
 refine zeQ fun T hT => ?_
 refine (CallV.part (CallV.fn (Clear_K k1)) byPart).mono ?_
 rintro _ _ ⟨rfl, r1, kr1, hr1, hb1, rfl⟩
 refine zd ?_
 clear hT T
 refine zy ?_
 refine zX ?_
 refine zaM ?_
 refine zcf fun T hT => ?_
 refine (CallV.part (CallV.fn (Clear_K k2)) byPart).mono ?_
 rintro _ _ ⟨rfl, r2, kr2, hr2, hb2, rfl⟩
 refine zd ?_
 clear hT T
 refine zc3 ?_
 refine zj ?_
 refine zeK ?_
 refine zZ ?_
 refine zN ?_
 refine zac ?_
 refine zaY ?_
 refine zN ?_
 refine zac ?_
 refine ze3 ?_
 refine zN ?_
 refine zac ?_
 refine zaL ?_
 refine zN ?_
 refine zap ?_
 rw [← hr1, ← hr2]
 rw [ok.n1] at hb1
 rw [ok.n2] at hb2
 exact KE.finN (H' := greyH ⟨g.b, r1, r2, g.ring, g.o, 0, 0, 0, 0⟩ p ++ F) byMarks rfl byRes (by simp only [greyH_app]; exact byPart) ⟨rfl, ⟨g.b, r1, r2, g.ring, g.o, 0, 0, 0, 0⟩, ⟨ok.pl, kr1, kr2, ho, by simp [hb1], by simp [hb2], ok.l⟩, ⟨hb1, hb2, rfl, rfl, rfl, rfl⟩, rfl, rfl, by simp only [greyH_app]⟩
end
structure PiM where
 b : Nat
 r : RowM
 l : List Int
 o : Own
def pinsH (q : PiM) : Heap := (q.b, cells [.pointer (some ⟨q.r.b, 0, none⟩), oV q.o q.l.length] 223) :: (rowH q.r ++ oH bE 5 q.l q.o)
theorem pinsH_app {q : PiM} {F : Heap} : pinsH q ++ F = (q.b, cells [.pointer (some ⟨q.r.b, 0, none⟩), oV q.o q.l.length] 223) :: (rowH q.r ++ (oH bE 5 q.l q.o ++ F)) := by
 unfold pinsH; simp only [List.cons_append, List.append_assoc]
structure PiOk (q : PiM) : Prop where
 r : RowOk q.r
 o : oOk bE q.l q.o
 n : q.r.bs = q.l.map fun v => decide (0 < v)
 m : q.l.length ≤ 65536
 v : ∀ v ∈ q.l, 0 ≤ v ∧ v ≤ 255
section
variable {w0 : World} {F : Heap} {q : PiM}
theorem pinone_K : Call Tryz.prog w0 135 [.pointer (some ⟨q.b, 0, none⟩)] (pinsH q ++ F) (fun r H' => r = .bool false ∧ H' = pinsH q ++ F) := by
 refine Call.enter1 (n := 12) (by kernel_rfl) Tryz.func135 rfl rfl rfl ?_
 simp only [pinsH_app]
 refine zfU ?_
 refine zaD ?_
 refine zbB ?_
 refine zdy ?_
 exact zh7
theorem piLen_K (ok : PiOk q) : Call Tryz.prog w0 106 [.pointer (some ⟨q.b, 0, none⟩)] (pinsH q ++ F) (fun r H' => r = .int .i64 (q.l.length : Nat) ∧ H' = pinsH q ++ F) := by
 have ho := ok.o
 refine Call.enter1 (n := 10) (by kernel_rfl) Tryz.func106 rfl rfl rfl ?_
 refine zbc fun T hT => ?_
 refine zhp ?_
 rintro _ _ ⟨rfl, rfl⟩
 refine zd ?_
 clear hT T
 simp only [pinsH_app]
 refine zdz ?_
 refine zU ?_
 refine za6 ?_
 refine zt ?_
 exact zh7
theorem CloneB_K {w0 : World} {v : Value} {l : List Int} (hS : SlW w0 bE v l) (hl : l.length ≤ 4294967296) :
  Call Tryz.prog w0 180 [v] [] (fun r H' => ∃ o, oOk bE l o ∧ r = oV o l.length ∧ H' = oH bE 5 l o) := by
 refine Call.enter1 (n := 8) (by kernel_rfl) Tryz.func180 rfl rfl rfl ?_
 have hS0 := hS
 obtain ⟨a, c, rfl, h1, h2, h3⟩ := hS.shape
 cases a with
 | none =>
  have hn : l = [] := by
   cases l with
   | nil => rfl
   | cons x r => obtain ⟨b, o, h⟩ := h3 (by simp); cases h
  subst hn
  refine zjM ?_
  refine zI ?_
  refine zam ?_
  exact KE.fin byMarks rfl byRes byPart ⟨none, rfl, rfl, rfl⟩
 | some a =>
  refine zjM ?_
  refine zM ?_
  refine zad ?_; intro b5
  refine zf ?_
  refine KL.e rfl (Eff.appLit (E := bE) (ys := l) rfl rfl rfl rfl rfl rfl rfl byTake (by first | exact Sli.blk byTake rfl (by first | decide | simp) (by first | decide | (unfold maxLen; omega)) rfl | exact Sli.old (by assumption) | exact Sli.own byTakeL (by assumption) byLen | assumption | exact Sli.part (by assumption) byPart) (by first | assumption | omega | (simp <;> fail) | (simp; omega)) rfl) ?_; rintro _ _ ⟨o', ok', rfl, rfl⟩
  refine zt ?_
  exact KE.fin byMarks rfl byRes byPart ⟨o', ok', rfl, rfl⟩
theorem piCopy_K (ok : PiOk q) : Call Tryz.prog w0 105 [.pointer (some ⟨q.b, 0, none⟩)] (pinsH q ++ F) (fun r H' => ∃ q', PiOk q' ∧ q'.l = q.l ∧ r = .pointer (some ⟨q'.b, 0, none⟩) ∧ H' = pinsH q' ++ (pinsH q ++ F)) := by
 have ho := ok.o
 have okr := ok.r
 have hm := ok.m
 refine Call.enter1 (n := 17) (by kernel_rfl) Tryz.func105 rfl rfl rfl ?_
 refine zbc fun T hT => ?_
 refine zhp ?_
 rintro _ _ ⟨rfl, rfl⟩
 refine zd ?_
 clear hT T
 simp only [pinsH_app]
 refine zdF ?_
 refine K.drawn _ [(0, 0), (1, 0), (2, 0), (3, 0), (5, 1), (6, 1), (7, 1), (8, 1), (4, 2), (9, 2), (10, 0), (11, 2), (12, 0)] (by kernel_rfl) (by kernel_rfl) (by kernel_rfl) (by kernel_rfl) (by kernel_rfl) (by kernel_rfl) Part.all ?_
 refine zK ?_
 refine zaV ?_
 refine zx ?_
 refine zeG ?_
 refine ziN ?_
 refine zb0 ?_
 refine zl fun T hT => ?_
 refine (CallV.part (CallV.fn (rCopy_K okr)) byPart).mono ?_
 rintro _ _ ⟨r', kr', hbs, rfl, rfl⟩
 refine zi ?_
 clear hT T
 refine zl fun T hT => ?_
 refine (CallV.pure fun w hw => CallV.fn (CloneB_K (Sli.own byTakeL ho rfl w hw) (by omega))).mono ?_
 rintro _ _ ⟨_, ⟨o1, ko1, rfl, rfl⟩, rfl⟩
 refine zi ?_
 clear hT T
 refine zeY ?_
 refine KD.e rfl rfl (Eff.box rfl rfl) ?_; rintro _ _ ⟨b16, rfl, rfl⟩
 refine zcD ?_
 refine za2 ?_
 exact KE.fin (H' := pinsH ⟨b16, r', q.l, o1⟩ ++ (pinsH q ++ F)) byMarks rfl byRes (by simp only [pinsH_app]; exact byPart) ⟨⟨b16, r', q.l, o1⟩, ⟨kr', ko1, by rw [hbs]; exact ok.n, hm, ok.v⟩, rfl, rfl, by simp only [pinsH_app]⟩
end
theorem piNew_K {w0 : World} {H : Heap} {n : Nat} (hn : n ≤ 65536) : Call Tryz.prog w0 59 [.int .i64 (n : Nat)] H (fun r H' => ∃ q, PiOk q ∧ q.l = List.replicate n 0 ∧ r = .tuple [.pointer (some ⟨q.b, 0, none⟩), .int .i64 0].toArray ∧ H' = pinsH q ++ H) := by
 have hgt : ¬ ((n : Nat) : Int) > 65536 := by omega
 refine Call.enter1 (n := 23) (by kernel_rfl) Tryz.func59 rfl rfl rfl ?_
 refine zdA ?_
 refine zbG ?_
 refine zae ?_
 refine zan ?_
 refine zh fun T hT => ?_
 refine (CallV.fn (rNew_K (n := n) (by omega))).mono ?_
 rintro _ _ ⟨r1, kr1, hb1, rfl, rfl⟩
 refine zd ?_
 clear hT T
 refine zbw ?_
 refine zj ?_
 refine KL.e rfl (Eff.makeR (E := bE) (x0 := 0) rfl rfl rfl rfl rfl rfl (by first | assumption | omega | (simp <;> fail) | (simp; omega))) ?_; rintro _ _ ⟨o19, ok19, rfl, rfl⟩
 refine zeT ?_; intro b21
 refine zf ?_
 refine zL ?_
 refine KE.fin (H' := pinsH ⟨b21, r1, List.replicate n 0, o19⟩ ++ H) byMarks rfl byRes (by simp only [pinsH_app, List.length_replicate]; exact byPart) ⟨⟨b21, r1, List.replicate n 0, o19⟩, ⟨kr1, ok19, by rw [hb1]; simp, by simpa using hn, fun v hv => ?_⟩, rfl, rfl, rfl⟩
 rw [(List.mem_replicate.1 hv).2]; decide
open Go.RowKit
set_option maxRecDepth 10000
structure EntP where
 st : Int
 slot : Int
 gen : Int
def enE : Enc EntP := ⟨fun e => [.int .i64 e.st, .int .i64 e.slot, .int .u32 e.gen], 3, fun _ => rfl, by intro x v hv; simp at hv; rcases hv with rfl | rfl | rfl <;> rfl⟩
def cntP (s : Int) (l : List EntP) : Nat := l.countP fun e => decide (e.st = s)
structure TbM where
 b : Nat
 l : List EntP
 gens : Int
 o : Own
def tabH (t : TbM) : Heap := (t.b, cells [oV t.o t.l.length, .int .i64 t.gens, .int .i64 (cntP 0 t.l : Nat), .int .i64 (cntP 1 t.l : Nat), .int .i64 (cntP 2 t.l : Nat), .int .i64 (cntP 3 t.l : Nat)] 235) :: oH enE 232 t.l t.o
theorem tabH_app {t : TbM} {F : Heap} : tabH t ++ F = (t.b, cells [oV t.o t.l.length, .int .i64 t.gens, .int .i64 (cntP 0 t.l : Nat), .int .i64 (cntP 1 t.l : Nat), .int .i64 (cntP 2 t.l : Nat), .int .i64 (cntP 3 t.l : Nat)] 235) :: (oH enE 232 t.l t.o ++ F) := rfl
structure TbOk (t : TbM) : Prop where
 o : oOk enE t.l t.o
 n : 1 ≤ t.l.length ∧ t.l.length ≤ 1024
 g : 1 ≤ t.gens ∧ t.gens ≤ 2147483648
 e : ∀ e ∈ t.l, 0 ≤ e.st ∧ e.st < 4 ∧ 1 ≤ e.gen ∧ e.gen ≤ 2147483648 ∧ 0 ≤ e.slot ∧ e.slot ≤ 1000000
theorem Mul_K {w0 : World} {H : Heap} (x y : Nat) (hx : x < 18446744073709551616) (hy : y < 18446744073709551616) :
  Call Tryz.prog w0 218 [.int .u64 x, .int .u64 y] H (fun r H' => r = .tuple #[.int .u64 ((x * y / 18446744073709551616 : Nat) : Int), .int .u64 ((x * y % 18446744073709551616 : Nat) : Int)] ∧ H' = H) := by
 refine ⟨by kernel_rfl, fun w hw => ?_⟩
 refine (Tryz.bits_Mul x y hx hy w).mono ?_
 rintro e w' ⟨he, rfl⟩
 exact ⟨_, _, he, hw, rfl, rfl⟩
structure RqS where
 k : Nat
 zs : List EntP
theorem copied_rep {α : Type} {n k j : Nat} {z : α} {zs : List α} (h : zs.length = n) (hk : k ≤ n) (ht : zs.take k = List.replicate k z) {ys : List α} (hy : ys = List.replicate j z) :
  (copied zs ys k).length = n ∧ (copied zs ys k).take (k + min j (n - k)) = List.replicate (k + min j (n - k)) z := by
 subst hy
 unfold copied
 have e0 : min (min j (n - k)) j = min j (n - k) := by omega
 simp only [List.length_replicate, h, List.take_replicate, ht, e0]
 constructor
 ·simp; omega
 ·rw [List.take_append_of_le_length (by simp), List.take_of_length_le (by simp), List.replicate_append_replicate]
set_option maxHeartbeats 1000000 in
theorem Repeat_K {w0 : World} {H : Heap} {v : Value} {z : EntP} {n : Nat} (hS : Sli w0 H enE v [z]) (hn : n ≤ 100000) :
  Call Tryz.prog w0 144 [v, .int .i64 (n : Nat)] H (fun r H' => ∃ o, oOk enE (List.replicate n z) o ∧ r = oV o (List.replicate n z).length ∧ H' = oH enE 232 (List.replicate n z) o ++ H) := by
 refine Call.enter2 (n := 48) (by kernel_rfl) Tryz.func144 rfl rfl rfl ?_
 refine zbu ?_
 refine zR ?_
 refine zM ?_
 refine zf ?_
 refine zP ?_
 refine KL.v rfl (Val.convW rfl rfl rfl) ?_
 refine zf ?_
 refine zbX ?_
 refine zg fun T hT => ?_
 refine (CallV.fn (Mul_K 1 n (by omega) (by omega))).mono ?_
 rintro _ H ⟨rfl, rfl⟩
 have e1 : 1 * n / 18446744073709551616 = 0 := by omega
 have e2 : 1 * n % 18446744073709551616 = n := by omega
 rw [e1, e2]
 refine zd ?_
 clear hT T
 refine zG ?_
 refine zae ?_
 refine zaa ?_
 refine zeL ?_
 refine zgp ?_
 refine zf ?_
 refine zgO ?_
 refine KL.e rfl (Eff.makeR (E := enE) (x0 := ⟨0, 0, 0⟩) rfl rfl rfl rfl rfl rfl (by omega)) ?_; rintro _ _ ⟨o30, ok30, rfl, rfl⟩
 refine zr ?_
 refine zj ?_
 refine KL.e rfl (Eff.copyS0 rfl rfl rfl rfl byTakeL (by assumption) (by first | exact Sli.blk byTake rfl (by first | decide | simp) (by first | decide | (unfold maxLen; omega)) rfl | exact Sli.old (by assumption) | exact Sli.own byTakeL (by assumption) byLen | assumption | exact Sli.part (by assumption) byPart)) ?_; rintro _ _ ⟨rfl, ok33, rfl⟩
 refine zA ?_
 refine KL.nil (KE.next (K.seq (K.block ?_)))
 have hc0 := copied_rep (k := 0) (j := 1) (z := z) (zs := List.replicate n (⟨0, 0, 0⟩ : EntP)) (n := n) (by simp) (by omega) (by simp) (ys := [z]) rfl
 refine K.loopT (σ := RqS) [] (fun s kp_ => (8, .int .i64 (s.k : Nat)) :: (7, oV o30 s.zs.length) :: kp_) (fun s => oH enE 232 s.zs o30 ++ H) (fun s => s.zs.length = n ∧ s.k ≤ n ∧ s.zs.take s.k = List.replicate s.k z ∧ oOk enE s.zs o30 ∧ (s.k = 0 → n = 0)) (fun s => n - s.k) (⟨min 1 n, copied (List.replicate n ⟨0, 0, 0⟩) [z] 0⟩) bySub byPart (⟨hc0.1, by dsimp only; omega, by have := hc0.2; simpa using this, ok33, by dsimp only; omega⟩) ?_
 rintro ⟨k, zs⟩ ⟨hl, hk, ht, ok, h0⟩
 dsimp only at hl hk ht ok h0 ⊢
 by_cases hlt : k < n
 ·have hkl : k ≤ zs.length := by omega
  have hkl' : k < zs.length := by omega
  have hsli : Sli w0 (oH enE 232 zs o30 ++ H) enE (oV o30 zs.length) zs := Sli.own TakeL.head ok rfl
  refine zcx ?_
  refine KL.nil (KE.next (K.condT rfl (K.skip (KE.next (K.block ?_)))))
  refine zak ?_
  (first | refine K.seq (K.drawn (H) [(0, 1), (1, 0), (2, 0), (3, 0), (4, 0), (5, 0), (6, 0), (7, 2), (8, 0), (9, 0)] (by kernel_rfl) (by kernel_rfl) (by kernel_rfl) (by kernel_rfl) (by kernel_rfl) (by kernel_rfl) byPart ?_) | refine K.seq (K.seq (K.drawn (H) [(0, 1), (1, 0), (2, 0), (3, 0), (4, 0), (5, 0), (6, 0), (7, 2), (8, 0), (9, 0)] (by kernel_rfl) (by kernel_rfl) (by kernel_rfl) (by kernel_rfl) (by kernel_rfl) (by kernel_rfl) byPart ?_)) | refine K.drawn (H) [(0, 1), (1, 0), (2, 0), (3, 0), (4, 0), (5, 0), (6, 0), (7, 2), (8, 0), (9, 0)] (by kernel_rfl) (by kernel_rfl) (by kernel_rfl) (by kernel_rfl) (by kernel_rfl) (by kernel_rfl) byPart ?_)
  refine zO ?_
  refine zcd ?_
  (first | refine KD.v0 rfl rfl (Val.sliceL rfl rfl rfl bySli rfl byLt) ?_ | refine KD.v0 rfl rfl (Val.sliceLZ rfl rfl rfl bySli rfl (by omega)) ?_)
  refine zcd ?_
  refine KD.v0 rfl rfl (Val.sliceH rfl rfl rfl bySli rfl byLt) ?_
  -- STOP before op 7
  refine KD.e rfl rfl (Eff.copyS (E := enE) (xs := zs) (ys := (zs.take k).drop 0) (o := o30) (i := k) rfl rfl rfl rfl rfl hkl TakeL.head ok (hsli.sub (Nat.zero_le _) hkl)) ?_; rintro _ _ ⟨rfl, ok', rfl⟩; refine ⟨byPart, ?_⟩
  have hys : (zs.take k).drop 0 = List.replicate k z := by simpa using ht
  have hc := copied_rep (j := k) hl hk ht hys
  rw [hys] at ok' hc ⊢
  simp only [List.length_replicate]
  have hmin : min k (zs.length - k) + k ≤ n := by omega
  refine zll ?_
  refine zbm ?_
  refine zbY ?_
  exact KE.again ⟨k + min k (zs.length - k), copied zs (List.replicate k z) k⟩ bySub byPart ⟨hc.1, by dsimp only; omega, by have := hc.2; rw [hl]; exact this, ok', by dsimp only; omega⟩ (by dsimp only; omega)
 ·have hkn : k = n := by omega
  subst hkn
  have hzs : zs = List.replicate k z := by rw [← ht, List.take_of_length_le (by omega)]
  subst hzs
  refine ziA ?_
  refine zfp ?_
  refine zbV ?_
  exact KE.fin byMarks rfl byRes byPart ⟨o30, ok, rfl, rfl⟩
theorem cnt_rep (s : Int) (z : EntP) (n : Nat) : cntP s (List.replicate n z) = if z.st = s then n else 0 := by
 unfold cntP
 rw [List.countP_replicate]
 simp
theorem tbNew_K {w0 : World} {H : Heap} {n : Nat} {gens : Int} (hn : 1 ≤ n ∧ n ≤ 1024) (hg : 1 ≤ gens ∧ gens ≤ 2147483648) :
  Call Tryz.prog w0 58 [.int .i64 (n : Nat), .int .i64 gens] H (fun r H' => ∃ t, TbOk t ∧ t.l = List.replicate n ⟨0, 0, 1⟩ ∧ t.gens = gens ∧ r = .tuple [.pointer (some ⟨t.b, 0, none⟩), .int .i64 0].toArray ∧ H' = tabH t ++ H) := by
 have h1 : ¬ ((n : Nat) : Int) < 1 := by omega
 have h2 : ¬ ((n : Nat) : Int) > 1024 := by omega
 refine Call.enter2 (n := 34) (by kernel_rfl) Tryz.func58 rfl rfl rfl ?_
 refine zdA ?_
 refine zbG ?_
 refine zae ?_
 refine zba ?_
 refine zR ?_
 refine zba ?_
 refine zae ?_
 refine zan ?_
 refine zaf ?_
 refine zad ?_; intro b22
 refine zh fun T hT => ?_
 refine (CallV.fn (Repeat_K (z := ⟨0, 0, 1⟩) (n := n) (Sli.blk byTake rfl (by simp) (by simp [maxLen]) rfl) (by omega))).mono ?_
 rintro _ _ ⟨o, ko, rfl, rfl⟩
 refine zd ?_
 clear hT T
 refine zf ?_
 refine zeT ?_; intro b27
 refine zr ?_
 refine zeK ?_
 refine za8 ?_
 refine KL.v rfl (Val.indexA rfl rfl rfl rfl (by omega)) ?_
 refine zaA ?_
 refine zf ?_
 refine zL ?_
 refine KE.fin (H' := tabH ⟨b27, List.replicate n ⟨0, 0, 1⟩, gens, o⟩ ++ H) byMarks rfl byRes (by simp only [tabH_app, cnt_rep]; exact byPart) ⟨⟨b27, List.replicate n ⟨0, 0, 1⟩, gens, o⟩, ⟨ko, by simpa using hn, hg, fun e he => ?_⟩, rfl, rfl, rfl, rfl⟩
 rw [(List.mem_replicate.1 he).2]; decide
section
variable {w0 : World} {F : Heap} {t : TbM}
theorem tbnone_K (ok : TbOk t) : Call Tryz.prog w0 177 [.pointer (some ⟨t.b, 0, none⟩)] (tabH t ++ F) (fun r H' => r = .bool false ∧ H' = tabH t ++ F) := by
 have ho := ok.o
 have hn := ok.n
 have hne : ¬ ((t.l.length : Nat) : Int) = 0 := by omega
 refine Call.enter1 (n := 13) (by kernel_rfl) Tryz.func177 rfl rfl rfl ?_
 simp only [tabH_app]
 refine zfU ?_
 refine zaD ?_
 refine zcg ?_
 refine zH ?_
 refine zdy ?_
 exact zee
theorem tbLen_K (ok : TbOk t) : Call Tryz.prog w0 104 [.pointer (some ⟨t.b, 0, none⟩)] (tabH t ++ F) (fun r H' => r = .int .i64 (t.l.length : Nat) ∧ H' = tabH t ++ F) := by
 have ho := ok.o
 refine Call.enter1 (n := 10) (by kernel_rfl) Tryz.func104 rfl rfl rfl ?_
 refine zbc fun T hT => ?_
 refine (CallV.fn (tbnone_K ok)).mono ?_
 rintro _ _ ⟨rfl, rfl⟩
 refine zd ?_
 clear hT T
 simp only [tabH_app]
 refine zdz ?_
 refine zJ ?_
 refine za6 ?_
 refine zt ?_
 exact zee
end
end Go.Proofs.YtalholahapcpkaaGreatDoor.Sw
