/- The walker and the contracts that the law needs, part 25. -/
import Derived.Test.YtalholahapcpkaaGreatDoorD1
import Derived.Test.YtalholahapcpkaaGreatDoorJ24
namespace Go.Proofs.YtalholahapcpkaaGreatDoor.Sw
open Go.Proofs.YtalholahapcpkaaGreatDoor renaming lo → qL, hi → qH
open Go.RowKit
set_option linter.unusedVariables false
set_option linter.unusedSimpArgs false
set_option maxRecDepth 10000
structure HanP where
 slot : Int
 field : Int
 is : Bool
def hanE : Enc HanP := ⟨fun h => [.int .i64 h.slot, .int .i64 h.field, .bool h.is], 3, fun _ => rfl, by intro x v hv; simp at hv; rcases hv with rfl | rfl | rfl <;> rfl⟩
structure MkM where
 b : Nat
 c : TiM
 g : GrM
 hs : List HanP
 o : Own
 root : Nat
 act : Bool
 steps : Nat
 bb : Nat
 tb : Nat
 nb : Nat
def markH (k : MkM) (p : PlanM) : Heap := (k.b, cells [.pointer (some ⟨k.bb, 0, none⟩), .pointer (some ⟨p.b, 0, none⟩), .pointer (some ⟨k.tb, 0, none⟩), .pointer (some ⟨k.nb, 0, none⟩), .pointer (some ⟨k.c.b, 0, none⟩), .pointer (some ⟨k.g.b, 0, none⟩), oV k.o k.hs.length, .int .i64 (k.root : Nat), .bool k.act, .int .i64 (k.steps : Nat)] 112) :: (tintH k.c ++ (greyH k.g p ++ oH hanE 200 k.hs k.o))
theorem markH_app {k : MkM} {p : PlanM} {F : Heap} : markH k p ++ F = (k.b, cells [.pointer (some ⟨k.bb, 0, none⟩), .pointer (some ⟨p.b, 0, none⟩), .pointer (some ⟨k.tb, 0, none⟩), .pointer (some ⟨k.nb, 0, none⟩), .pointer (some ⟨k.c.b, 0, none⟩), .pointer (some ⟨k.g.b, 0, none⟩), oV k.o k.hs.length, .int .i64 (k.root : Nat), .bool k.act, .int .i64 (k.steps : Nat)] 112) :: (tintH k.c ++ (greyH k.g p ++ (oH hanE 200 k.hs k.o ++ F))) := by
 unfold markH; simp only [List.cons_append, List.append_assoc]
structure MkOk (k : MkM) (p : PlanM) : Prop where
 c : TiOk k.c
 g : GrOk k.g p
 n : k.c.l.length = p.g.slots
 o : oOk hanE k.hs k.o
 hs : 1 ≤ k.hs.length ∧ k.hs.length ≤ 9
structure MkNil (k : MkM) (p : PlanM) : Prop where
 c : tiC k.c = List.replicate p.g.slots 0
 g : GrNil k.g p
 hs : k.hs = List.replicate k.hs.length ⟨0, 0, false⟩
 root : k.root = 0
 steps : k.steps = 0
structure MkAs (k k' : MkM) : Prop where
 b : k'.b = k.b
 bb : k'.bb = k.bb
 tb : k'.tb = k.tb
 nb : k'.nb = k.nb
 n : k'.hs.length = k.hs.length
 l : k'.g.ring.length = k.g.ring.length
theorem tiC_get {k : MkM} {p : PlanM} (ok : MkOk k p) {s : Nat} (h : s < p.g.slots) : ∃ c, (tiC k.c)[s]? = some c := get_of_lt (by rw [tiC_len, ok.n]; exact h)
section
variable {w0 : World} {F : Heap} {k : MkM} {p : PlanM}
theorem mknone_K : Call Tryz.prog w0 111 [.pointer (some ⟨k.b, 0, none⟩)] (markH k p ++ F) (fun r H' => r = .bool false ∧ H' = markH k p ++ F) := by
 refine zj5 ?_
 simp only [markH_app]
 refine zfU ?_
 refine zaY ?_
 refine zaR ?_
 refine zbB ?_
 refine zdy ?_
 exact zgX
theorem mkOf_K {s : Nat} {c : Int} (ok : MkOk k p) (hc : (tiC k.c)[s]? = some c) : Call Tryz.prog w0 36 [.pointer (some ⟨k.b, 0, none⟩), .int .i64 (s : Nat)] (markH k p ++ F) (fun r H' => r = .tuple [.int .u8 c, .int .i64 0].toArray ∧ H' = markH k p ++ F) := by
 have okc := ok.c
 refine zi2 ?_
 refine zeU fun T hT => ?_
 refine zh8 ?_
 rintro _ _ ⟨rfl, rfl⟩
 refine zd ?_
 clear hT T
 simp only [markH_app]
 refine zdz ?_
 refine zZ ?_
 refine zdx fun T hT => ?_
 refine (CallV.part (CallV.fn (tiOf_K okc hc)) byPart).mono ?_
 refine ze ?_
 clear hT T
 refine zfd ?_
 refine zL ?_
 exact zgX
theorem mkOf_E {s : Int} (ok : MkOk k p) (hs : ¬ (0 ≤ s ∧ s < (p.g.slots : Nat))) : Call Tryz.prog w0 36 [.pointer (some ⟨k.b, 0, none⟩), .int .i64 s] (markH k p ++ F) (fun r H' => r = .tuple [.int .u8 0, .int .i64 2].toArray ∧ H' = markH k p ++ F) := by
 have okc := ok.c
 have hn := ok.n
 refine zi2 ?_
 refine zeU fun T hT => ?_
 refine zh8 ?_
 rintro _ _ ⟨rfl, rfl⟩
 refine zd ?_
 clear hT T
 simp only [markH_app]
 refine zdz ?_
 refine zZ ?_
 refine zdx fun T hT => ?_
 refine (CallV.part (CallV.fn (tiOf_E okc (by rw [hn]; exact hs))) byPart).mono ?_
 refine ze ?_
 clear hT T
 refine zfd ?_
 refine zL ?_
 exact zgX
theorem mkActive_K : Call Tryz.prog w0 40 [.pointer (some ⟨k.b, 0, none⟩)] (markH k p ++ F) (fun r H' => r = .bool k.act ∧ H' = markH k p ++ F) := by
 refine zj6 ?_
 refine zeV fun T hT => ?_
 refine zh8 ?_
 rintro _ _ ⟨rfl, rfl⟩
 refine zd ?_
 clear hT T
 simp only [markH_app]
 refine zbA ?_
 refine zhM ?_
 refine zcr ?_
 refine zm ?_
 refine zk ?_
 refine zgJ ?_
 exact zgX
theorem mkturn_K {v : Bool} (hv : k.act = !v) : Call Tryz.prog w0 117 [.pointer (some ⟨k.b, 0, none⟩), .bool v] (markH k p ++ F) (fun r H' => r = .int .i64 0 ∧ H' = markH { k with act := v } p ++ F) := by
 have hb : (k.act == v) = false := by rw [hv]; cases v <;> rfl
 refine zi3 ?_
 refine zfS ?_
 refine zh fun T hT => ?_
 refine zh8 ?_
 rintro _ _ ⟨rfl, rfl⟩
 refine zd ?_
 clear hT T
 simp only [markH_app]
 refine zdg ?_
 refine zX ?_
 refine zcr ?_
 refine zbo ?_
 refine zj7 ?_
 refine za0 ?_
 rw [hb]
 refine K.condF rfl (K.skip ?_)
 refine zff ?_
 refine zeK ?_
 refine zcr ?_
 refine zaA ?_
 refine zt ?_
 exact zgX
theorem mkturn_E {v : Bool} (hv : k.act = v) : Call Tryz.prog w0 117 [.pointer (some ⟨k.b, 0, none⟩), .bool v] (markH k p ++ F) (fun r H' => r = .int .i64 9 ∧ H' = markH k p ++ F) := by
 have hb : (k.act == v) = true := by rw [hv]; cases v <;> rfl
 refine zi3 ?_
 refine zfS ?_
 refine zh fun T hT => ?_
 refine zh8 ?_
 rintro _ _ ⟨rfl, rfl⟩
 refine zd ?_
 clear hT T
 simp only [markH_app]
 refine zdg ?_
 refine zX ?_
 refine zcr ?_
 refine zbo ?_
 refine zj7 ?_
 refine za0 ?_
 refine K.condP rfl byLt ?_
 refine zq ?_
 refine zgg ?_
 rw [hb]
 skip
 exact zgX
theorem mkStart_E (hv : k.act = true) : Call Tryz.prog w0 42 [.pointer (some ⟨k.b, 0, none⟩)] (markH k p ++ F) (fun r H' => r = .int .i64 9 ∧ H' = markH k p ++ F) := by
 refine zj8 ?_
 refine zeV fun T hT => ?_
 refine (CallV.fn (mkturn_E (p := p) hv)).mono ?_
 rintro _ _ ⟨rfl, rfl⟩
 refine zd ?_
 clear hT T
 refine zT ?_
 refine zH ?_
 refine zM ?_
 refine zbV ?_
 exact zgX
theorem mkStart_K (ok : MkOk k p) (hv : k.act = false) (hf : k.c.f ≤ 1000000) : Call Tryz.prog w0 42 [.pointer (some ⟨k.b, 0, none⟩)] (markH k p ++ F)
  (fun r H' => r = .int .i64 0 ∧ ∃ k', MkOk k' p ∧ MkNil k' p ∧ MkAs k k' ∧ k'.act = true ∧ k'.c.f = k.c.f + 1 ∧ H' = markH k' p ++ F) := by
 have okc := ok.c
 have okg := ok.g
 have oko := ok.o
 refine zj8 ?_
 refine zeV fun T hT => ?_
 refine (CallV.fn (mkturn_K (p := p) hv)).mono ?_
 rintro _ _ ⟨rfl, rfl⟩
 refine zd ?_
 clear hT T
 simp only [markH_app]
 refine zT ?_
 refine zY ?_
 refine zI ?_
 refine zX ?_
 refine zZ ?_
 refine zbL fun T hT => ?_
 refine (CallV.part (CallV.fn (tiFlip_K okc hf)) byPart).mono ?_
 rintro _ _ ⟨rfl, c', kc, cb, cf, cc, rfl⟩
 refine zd ?_
 clear hT T
 refine zy ?_
 refine zX ?_
 refine zaY ?_
 refine zbL fun T hT => ?_
 refine (CallV.part (CallV.fn (grClear_K okg)) byPart).mono ?_
 rintro _ _ ⟨rfl, g', kg, gn, gb, gl, rfl⟩
 refine zd ?_
 clear hT T
 refine zy ?_
 refine zX ?_
 refine zem ?_
 refine KL.eN (Eff.clearS (x0 := (⟨0, 0, false⟩ : HanP)) (i := 0) rfl (clr_all (by assumption)) rfl rfl (Nat.zero_le _) (Nat.le_refl _) byTakeL (by assumption)) ?_; rintro _ _ ⟨rfl, okc, rfl⟩
 refine zap ?_
 rw [cleared_all] at okc ⊢
 refine zhR ?_
 refine zeK ?_
 refine zaL ?_
 refine zN ?_
 refine zac ?_
 refine zaQ ?_
 refine zaA ?_
 refine zbV ?_
 rw [← cb, ← gb]
 have hcn : c'.l.length = p.g.slots := by have := congrArg List.length cc; rw [tiC_len, List.length_replicate, ok.n] at this; exact this
 have hcc := cc
 rw [ok.n] at hcc
 exact KE.fin (H' := markH ⟨k.b, c', g', List.replicate k.hs.length ⟨0, 0, false⟩, k.o, 0, true, 0, k.bb, k.tb, k.nb⟩ p ++ F) byMarks rfl byRes (by simp only [markH_app, List.length_replicate]; exact byPart) ⟨rfl, ⟨k.b, c', g', List.replicate k.hs.length ⟨0, 0, false⟩, k.o, 0, true, 0, k.bb, k.tb, k.nb⟩, ⟨kc, kg, hcn, okc, by simpa using ok.hs⟩, ⟨hcc, gn, by simp, rfl, rfl⟩, ⟨rfl, rfl, rfl, rfl, by simp, gl⟩, rfl, cf, by simp only [markH_app]⟩
end
open Go.RowKit
set_option maxRecDepth 10000
section
variable {w0 : World} {F : Heap} {k : MkM} {p : PlanM}
end
theorem mkNew_K {w0 : World} {F : Heap} {B : BoM} {x : List Int} {T : TbM} {N : PiM} {nw long : Nat} (hG : Glob w0) (ok : BoOk B x) (okT : TbOk T) (okN : PiOk N) (hN : N.l.length = B.p.g.slots) (hw : nw ≤ 8) (hl : 1 ≤ long ∧ long ≤ 64) :
  Call Tryz.prog w0 34 [.pointer (some ⟨B.b, 0, none⟩), .pointer (some ⟨B.p.b, 0, none⟩), .pointer (some ⟨T.b, 0, none⟩), .pointer (some ⟨N.b, 0, none⟩), .int .i64 (nw : Nat), .int .i64 (long : Nat)] (bodyH B ++ (memH B.m ++ (planH B.p ++ (tabH T ++ (pinsH N ++ F)))))
   (fun r H' => ∃ k, MkOk k B.p ∧ MkNil k B.p ∧ k.act = false ∧ k.c.f = 1 ∧ k.bb = B.b ∧ k.tb = T.b ∧ k.nb = N.b ∧ k.hs.length = nw + 1 ∧ k.g.ring.length = long ∧ r = .tuple [.pointer (some ⟨k.b, 0, none⟩), .int .i64 0].toArray ∧ H' = markH k B.p ++ (bodyH B ++ (memH B.m ++ (planH B.p ++ (tabH T ++ (pinsH N ++ F)))))) := by
 have okp := ok.p
 have hs := okp.g.slots
 obtain ⟨y, hy⟩ := L_ex (g := B.p.g) (i := 0) (by omega)
 have hne : ¬ ((B.p.g.slots : Nat) : Int) = 0 := by omega
 have hT := okT.n
 have hne2 : ¬ ((T.l.length : Nat) : Int) = 0 := by omega
 have hne3 : ¬ ((N.l.length : Nat) : Int) ≠ (B.p.g.slots : Nat) := by omega
 have hgt : ¬ ((nw : Nat) : Int) > 8 := by omega
 have he : ((nw : Nat) : Int) + 1 = ((nw + 1 : Nat) : Int) := by omega
 have hhead := fun A => Head_K (w0 := w0) (F := A) (s := 0) hG ok hy
 have hhv : ∃ c r w e, headV (headP x y) = .tuple [.agg [.int .i64 c, .int .i64 r, .int .i64 w].toArray, .int .i64 e].toArray ∧ e ≠ 1 := by
  unfold headV
  cases headP x y with
  | none => exact ⟨0, 0, 0, 5, rfl, by decide⟩
  | some h => exact ⟨h.c, h.r, h.w, 0, rfl, by decide⟩
 obtain ⟨c, r, w, e, hev, hen⟩ := hhv
 simp only [hev] at hhead
 have hen' : ¬ e = 1 := hen
 refine zfL ?_
 refine zh fun T hT => ?_
 refine zbT ?_
 clear hT T
 refine zbp ?_; intro b14
 refine zfK ?_
 refine zg fun T hT => ?_
 refine ze4 ?_
 refine ze ?_
 clear hT T
 refine zcV fun T hT => ?_
 refine zhq ?_
 refine ze ?_
 clear hT T
 refine zcV fun T hT => ?_
 refine zh9 ?_
 rintro _ _ ⟨N', _, _, rfl, rfl⟩
 refine zd ?_
 clear hT T
 refine zm ?_
 refine zbB ?_
 refine zn ?_
 refine zds ?_
 refine zae ?_
 refine zjJ fun T hT => ?_
 refine zkY ?_
 clear hT T
 refine zaF ?_
 refine zg fun T hT => ?_
 refine ze4 ?_
 refine ze ?_
 clear hT T
 refine zdn ?_
 refine zn ?_
 refine zdu ?_
 refine zbb fun T hT => ?_
 refine (CallV.part (CallV.fn (grNew_K okp hl)) byPart).mono ?_
 rintro _ _ ⟨g, kg, gn, gl, rfl, rfl⟩
 refine zd ?_
 clear hT T
 refine zG ?_
 refine zaB ?_
 refine zh fun T hT => ?_
 refine ze4 ?_
 refine ze ?_
 clear hT T
 refine zg fun T hT => ?_
 refine (CallV.fn (tiNew_K (n := B.p.g.slots) (by omega))).mono ?_
 rintro _ _ ⟨t, kt, tf, tc, rfl, rfl⟩
 refine zd ?_
 clear hT T
 refine zag ?_
 refine zfO ?_
 refine zj ?_
 refine zbI ?_
 refine zc2 ?_
 rw [he]
 refine KL.e rfl (Eff.makeR (E := hanE) (x0 := ⟨0, 0, false⟩) rfl rfl rfl rfl rfl rfl (by omega)) ?_; rintro _ _ ⟨o79, ok79, rfl, rfl⟩
 refine zeT ?_; intro b81
 refine zf ?_
 refine zL ?_
 have hcn : t.l.length = B.p.g.slots := by have := congrArg List.length tc; rw [tiC_len, List.length_replicate] at this; exact this
 exact KE.fin (H' := markH ⟨b81, t, g, List.replicate (nw + 1) ⟨0, 0, false⟩, o79, 0, false, 0, B.b, T.b, N.b⟩ B.p ++ (bodyH B ++ (memH B.m ++ (planH B.p ++ (tabH T ++ (pinsH N ++ F)))))) byMarks rfl byRes (by simp only [markH_app, List.length_replicate]; exact byPart)
  ⟨⟨b81, t, g, List.replicate (nw + 1) ⟨0, 0, false⟩, o79, 0, false, 0, B.b, T.b, N.b⟩, ⟨kt, kg, hcn, ok79, by simp; omega⟩, ⟨tc, gn, by simp, rfl, rfl⟩, rfl, tf, rfl, rfl, rfl, by simp, gl, rfl, rfl⟩
set_option maxRecDepth 10000
structure SpM where
 b : Nat
 d : RowM
 at_ : Nat
 act : Bool
 ab : Nat
 bb : Nat
 mb : Nat
structure SpOk (s : SpM) (n : Nat) : Prop where
 d : RowOk s.d
 dn : s.d.bs.length = n
 at_ : s.at_ ≤ n
section
variable {w0 : World} {F : Heap} {s : SpM}
end
set_option maxRecDepth 10000
open Go.RowKit
set_option maxRecDepth 10000
set_option maxRecDepth 10000
section
variable {w0 : World} {F : Heap} {s : SpM} {a : ArM} {B : BoM} {k : MkM} {x : List Int} {n : Nat}
end
set_option maxRecDepth 10000
set_option maxRecDepth 10000
def mR (f : Nat → Int) (n : Nat) : List (List Int) := (List.range n).map fun t => List.replicate (f t).toNat 0
theorem mR_len (f : Nat → Int) (n : Nat) : (mR f n).length = n := by simp [mR]
theorem mR_get {f : Nat → Int} {n t : Nat} (h : t < n) : (mR f n)[t]? = some (List.replicate (f t).toNat 0) := by simp [mR, h]
theorem mR_base {f : Nat → Int} {n : Nat} (hf : ∀ i, i < n → 0 ≤ f i) : ∀ t, t ≤ n → ((baseP (mR f n) t : Nat) : Int) = sumN f t
 | 0, _ => rfl
 | t + 1, h => by
  have h1 := mR_base hf t (by omega)
  have h2 := (base_at (mR_get (f := f) (n := n) (t := t) (by omega))).1
  rw [h2, List.length_replicate]
  have := hf t (by omega)
  simp only [sumN]
  omega
theorem mR_flat {f : Nat → Int} {n : Nat} : (mR f n).flatten = List.replicate ((mR f n).flatten).length 0 := by
 refine List.eq_replicate_iff.2 ⟨rfl, fun v hv => ?_⟩
 obtain ⟨l, hl, hv⟩ := List.mem_flatten.1 hv
 obtain ⟨t, _, rfl⟩ := List.mem_map.1 hl
 exact (List.mem_replicate.1 hv).2
theorem mR_flen {f : Nat → Int} {n : Nat} (hf : ∀ i, i < n → 0 ≤ f i) : (((mR f n).flatten.length : Nat) : Int) = sumN f n := by
 rw [← mR_base hf n (Nat.le_refl n), flat_len_sum]
 unfold baseP
 rw [List.take_of_length_le (by rw [mR_len]; exact Nat.le_refl n)]
def bsK (f : Nat → Int) (k : Nat) : List Int := (List.range k).map fun t => sumN f t
theorem bsK_succ (f : Nat → Int) (k : Nat) : bsK f k ++ [sumN f k] = bsK f (k + 1) := by simp [bsK, List.range_succ]
theorem bsK_len (f : Nat → Int) (k : Nat) : (bsK f k).length = k := by simp [bsK]
theorem bsK_all {f : Nat → Int} {n : Nat} (hf : ∀ i, i < n → 0 ≤ f i) : bsK f (n + 1) = basesP (mR f n) := by
 unfold bsK basesP
 rw [mR_len]
 refine List.map_congr_left fun t ht => (mR_base hf t ?_).symm
 have := List.mem_range.1 ht; omega
structure MnS where
 k : Nat
 o : Own
theorem mNew_K {w0 : World} {F : Heap} {c : Cfg} {vc vt : Value} (hR : CfgR w0 F c vc vt) (hc : cfgP c = true) :
  Call Tryz.prog w0 56 [cfgV c vc vt] F (fun r H' => ∃ m : MemM, MemOk m ∧ m.R = mR (fun t => wordsP c (t : Nat)) c.tn.length ∧ r = .tuple [.pointer (some ⟨m.b, 0, none⟩), .int .i64 0].toArray ∧ H' = memH m ++ F) := by
 have hok := (cfg_ok hc).tn
 have htot := fun A (hp : Part A F) => Total_K (hR.part hp)
 have hbase := fun A (k : Nat) (hp : Part A F) => Base_K (t := (k : Nat)) (hR.part hp)
 have he : totalP c = (sumN (fun i => wordsP c (i : Nat)) c.tn.length, 0) := by simp [totalP, hc]
 have hB := fun k (hk : k < c.tn.length) => words_le hc hk
 have hbe := fun k (hk : k < c.tn.length) => base_in hc hk
 rw [he] at htot
 obtain ⟨f, hf⟩ : ∃ f : Nat → Int, f = fun i => wordsP c (i : Nat) := ⟨_, rfl⟩
 have hfi : ∀ i : Nat, wordsP c (i : Nat) = f i := fun i => by rw [hf]
 simp only [hfi] at hB hbe htot ⊢
 have hf0 : ∀ i, i < c.tn.length → 0 ≤ f i := fun i hi => (hB i hi).1
 have hsum := sumN_le (f := f) (n := c.tn.length) hB
 obtain ⟨tot, htt⟩ : ∃ tot : Nat, sumN f c.tn.length = tot := ⟨(sumN f c.tn.length).toNat, by omega⟩
 have hflen : (mR f c.tn.length).flatten.length = tot := by have := mR_flen hf0; omega
 have hflat : List.replicate tot 0 = (mR f c.tn.length).flatten := by rw [← hflen]; exact mR_flat.symm
 have hball := bsK_all hf0
 have hsn : bsK f c.tn.length ++ [((tot : Nat) : Int)] = bsK f (c.tn.length + 1) := by rw [← htt]; exact bsK_succ f _
 rw [htt] at htot hsum
 obtain ⟨hS, hT', o1, o2, l1, l2⟩ := hR
 obtain ⟨cl, page, tn, workers, grey, gens⟩ := c
 dsimp only at hS hT' l1 l2 hok htot hbase hB hbe hf0 htt hflen hflat hball hsn hsum ⊢
 simp only [cfgV, cfgL, prV] at htot hbase ⊢
 clear he hf hfi hc
 refine Call.enter1 (n := 56) (by kernel_rfl) Tryz.func56 rfl rfl rfl ?_
 refine zco ?_; intro b1
 refine zp fun T hT => ?_
 refine zhr ?_
 rintro _ _ ⟨rfl, rfl⟩
 refine zd ?_
 clear hT T
 refine zG ?_
 refine zaB ?_
 refine zf ?_
 refine KL.e rfl (Eff.makeR (E := uE) (x0 := 0) rfl rfl rfl rfl rfl rfl (by first | assumption | omega | (simp <;> fail) | (simp; omega))) ?_; rintro _ _ ⟨o19, ok19, rfl, rfl⟩
 refine zeT ?_; intro b21
 refine zal ?_
 refine zas ?_
 refine zP ?_
 refine zeM ?_
 refine K.loopT (σ := MnS) [(1, _), (4, _), (6, _), (24, _)] (fun s kp_ => (25, .int .i64 (s.k : Nat)) :: kp_) (fun s => (b21, cells [oV o19 (List.replicate tot (0 : Int)).length, oV s.o (bsK f s.k).length] 160) :: (oH uE 64 (List.replicate tot 0) o19 ++ (oH iE 3 (bsK f s.k) s.o ++ ((b1, cells [vc, .int .i64 page, vt, .int .i64 workers, .int .i64 grey, .int .i64 gens] 25) :: F)))) (fun s => s.k ≤ tn.length ∧ oOk iE (bsK f s.k) s.o) (fun s => tn.length - s.k) (⟨0, none⟩) bySub byPart (⟨Nat.zero_le _, rfl⟩) ?_
 rintro ⟨k, o⟩ ⟨hk, hok2⟩
 dsimp only at hk hok2 ⊢
 have hbl := bsK_len f k
 have hbl1 := bsK_len f (k + 1)
 by_cases hlt : k < tn.length
 ·have hb1 := fun A hp => hbase A k hp
  rw [hbe k hlt] at hb1
  dsimp only at hb1
  have hbd : (bsK f (k + 1)).length ≤ 4294967296 := by omega
  clear hbase
  refine zd1 ?_
  refine zf ?_
  refine zr ?_
  refine zz fun T hT => ?_
  refine (CallV.fn (hb1 _ byPart)).mono ?_
  rintro _ _ ⟨rfl, rfl⟩
  refine zd ?_
  clear hT T
  refine zag ?_
  refine zfO ?_
  refine zc8 ?_
  refine zdH ?_
  refine zfo ?_
  refine zad ?_; intro b40
  refine KL.e rfl (Eff.appZ (E := iE) (xs := bsK f k) (o := o) (ys := [sumN f k]) (zs := bsK f (k + 1)) rfl rfl rfl rfl rfl rfl byTakeL (by assumption) (by first | exact Sli.blk byTake rfl (by first | decide | simp) (by first | decide | (unfold maxLen; omega)) rfl | exact Sli.old (by assumption) | exact Sli.own byTakeL (by assumption) byLen | assumption | exact Sli.part (by assumption) byPart) (bsK_succ f k) (by first | assumption | omega | (simp <;> fail) | (simp; omega)) rfl) ?_; rintro _ _ ⟨o', ok', rfl, rfl⟩
  refine zc8 ?_
  refine zdH ?_
  refine ze5 ?_
  refine zap ?_
  refine zeB ?_
  exact KE.again ⟨k + 1, o'⟩ bySub byPart ⟨hlt, ok'⟩ (by show tn.length - (k + 1) < tn.length - k; omega)
 ·have hke : k = tn.length := by omega
  subst hke
  have hbd : (bsK f (tn.length + 1)).length ≤ 4294967296 := by omega
  refine zq ?_
  refine zeD ?_
  refine zcE ?_
  refine zau ?_
  refine zj ?_
  refine zc8 ?_
  refine zdH ?_
  refine zfo ?_
  refine zad ?_; intro b51
  refine KL.e rfl (Eff.appZ (E := iE) (xs := bsK f tn.length) (o := o) (ys := [((tot : Nat) : Int)]) (zs := bsK f (tn.length + 1)) rfl rfl rfl rfl rfl rfl byTakeL (by assumption) (by first | exact Sli.blk byTake rfl (by first | decide | simp) (by first | decide | (unfold maxLen; omega)) rfl | exact Sli.old (by assumption) | exact Sli.own byTakeL (by assumption) byLen | assumption | exact Sli.part (by assumption) byPart) (hsn) (by first | assumption | omega | (simp <;> fail) | (simp; omega)) rfl) ?_; rintro _ _ ⟨o', ok', rfl, rfl⟩
  refine zc8 ?_
  refine zdH ?_
  refine ze5 ?_
  refine zy ?_
  refine zf ?_
  refine zL ?_
  rw [hball, hflat] at *
  exact KE.fin (H' := memH ⟨b21, mR f tn.length, o19, o'⟩ ++ F) byMarks rfl byRes (by rw [memH_app]; exact byPart) ⟨⟨b21, mR f tn.length, o19, o'⟩, ⟨ok19, ok', by rw [hflen]; omega, by rw [mR_len]; omega⟩, rfl, rfl, rfl⟩
open Go.RowKit
set_option maxRecDepth 10000
def slL (x : SlotP) : List Value := [.int .i64 (x.cls : Nat), .int .i64 (x.size : Nat), .int .i64 (x.addr : Nat), .int .i64 (x.page : Nat)]
def slE : Enc SlotP := ⟨slL, 4, fun _ => rfl, by intro x v hv; simp [slL] at hv; rcases hv with rfl | rfl | rfl | rfl <;> rfl⟩
namespace PlG
def firsts (g : PlG) : List Int := (cutL g.pgs (fun k j => g.first k + j * g.per k) g.m).map fun n => ((n : Nat) : Int)
def manys (g : PlG) : List Int := (cutL g.pgs (fun k j => min (g.per k) (g.n k - j * g.per k)) g.m).map fun n => ((n : Nat) : Int)
def clI (g : PlG) : List Int := g.cl.map fun n => ((n : Nat) : Int)
end PlG
structure PlV where
 L : Value
 F : Value
 M : Value
 C : Value
def plL (v : PlV) (g : PlG) : List Value := [v.L, v.F, v.M, .int .i64 (g.words : Nat), v.C]
structure PlanD (w0 : World) (D : Heap) (v : PlV) (g : PlG) : Prop where
 L : Sli w0 D slE v.L g.L
 F : Sli w0 D iE v.F g.firsts
 M : Sli w0 D iE v.M g.manys
 C : Sli w0 D iE v.C g.clI
 oL : v.L.oneCell' = true
 oF : v.F.oneCell' = true
 oM : v.M.oneCell' = true
 oC : v.C.oneCell' = true
theorem PlanD.part {w0 : World} {D D' : Heap} {v : PlV} {g : PlG} (h : PlanD w0 D v g) (hp : Part D' D) : PlanD w0 D' v g := ⟨h.L.part hp, h.F.part hp, h.M.part hp, h.C.part hp, h.oL, h.oF, h.oM, h.oC⟩
structure ArD (w0 : World) (D : Heap) (v : PlV) (va : Value) (g : PlG) (A : List Bool) : Prop where
 p : PlanD w0 D v g
 a : Sli w0 D boE va A
 o : va.oneCell' = true
theorem ArD.part {w0 : World} {D D' : Heap} {v : PlV} {va : Value} {g : PlG} {A : List Bool} (h : ArD w0 D v va g A) (hp : Part D' D) : ArD w0 D' v va g A := ⟨h.p.part hp, h.a.part hp, h.o⟩
structure RwD where
 a : Option Addr
 n : Nat
 c : Nat
 x : List Int
def rwE : Enc RwD := ⟨fun r => [.slice r.a r.n r.c], 1, fun _ => rfl, by intro x v hv; simp at hv; subst hv; rfl⟩
structure MemD (w0 : World) (D : Heap) (vr : Value) (R : List RwD) : Prop where
 r : Sli w0 D rwE vr R
 o : vr.oneCell' = true
 x : ∀ q ∈ R, Sli w0 D uE (.slice q.a q.n q.c) q.x
theorem MemD.part {w0 : World} {D D' : Heap} {vr : Value} {R : List RwD} (h : MemD w0 D vr R) (hp : Part D' D) : MemD w0 D' vr R := ⟨h.r.part hp, h.o, fun q hq => (h.x q hq).part hp⟩
def rwX (R : List RwD) : List (List Int) := R.map (·.x)
open Go.RowKit
set_option maxRecDepth 10000
def LKx (g : PlG) (k d : Nat) : List SlotP := cutL g.n g.sl k ++ (List.range d).map (g.sl k)
def fstP (g : PlG) (k j : Nat) : Nat := g.first k + j * g.per k
def mnyP (g : PlG) (k j : Nat) : Nat := min (g.per k) (g.n k - j * g.per k)
def FKx (g : PlG) (k j : Nat) : List Int := (cutL g.pgs (fstP g) k ++ (List.range j).map (fstP g k)).map fun n => ((n : Nat) : Int)
def MKx (g : PlG) (k j : Nat) : List Int := (cutL g.pgs (mnyP g) k ++ (List.range j).map (mnyP g k)).map fun n => ((n : Nat) : Int)
section
variable {g : PlG} {k d j : Nat}
theorem LKx_len : (LKx g k d).length = g.first k + d := by simp [LKx, cutL_len]; rfl
theorem FKx_len : (FKx g k j).length = g.page k + j := by simp [FKx, cutL_len]; rfl
theorem MKx_len : (MKx g k j).length = g.page k + j := by simp [MKx, cutL_len]; rfl
theorem LKx_next : LKx g k d ++ [g.sl k d] = LKx g k (d + 1) := by simp [LKx, List.range_succ]
theorem FKx_next : FKx g k j ++ [((fstP g k j : Nat) : Int)] = FKx g k (j + 1) := by simp [FKx, List.range_succ]
theorem MKx_next : MKx g k j ++ [((mnyP g k j : Nat) : Int)] = MKx g k (j + 1) := by simp [MKx, List.range_succ]
theorem LKx_up : LKx g k (g.n k) = LKx g (k + 1) 0 := by simp [LKx, cutL]
theorem FKx_up : FKx g k (g.pgs k) = FKx g (k + 1) 0 := by simp [FKx, cutL]
theorem MKx_up : MKx g k (g.pgs k) = MKx g (k + 1) 0 := by simp [MKx, cutL]
theorem LKx_all : LKx g g.m 0 = g.L := by simp [LKx, PlG.L]
theorem FKx_all : FKx g g.m 0 = g.firsts := by simp only [FKx, PlG.firsts, List.range_zero, List.map_nil, List.append_nil]; rfl
theorem MKx_all : MKx g g.m 0 = g.manys := by simp only [MKx, PlG.manys, List.range_zero, List.map_nil, List.append_nil]; rfl
theorem pgs_lt (ok : PlOk g) (hk : k < g.m) : j < g.pgs k ↔ j * g.per k < g.n k := by
 have h2 := ok.per hk
 have h1 := ok.n hk
 unfold PlG.pgs
 constructor
 ·intro h
  have := (Nat.le_div_iff_mul_le (show 0 < g.per k by omega)).1 (show j + 1 ≤ _ from h)
  rw [Nat.succ_mul] at this; omega
 ·intro h
  refine (Nat.le_div_iff_mul_le (show 0 < g.per k by omega)).2 ?_
  rw [Nat.succ_mul]; omega
theorem sl_in (ok : PlOk g) (hk : k < g.m) {i : Nat} (hi : i < g.per k) : g.sl k (j * g.per k + i) = ⟨k, g.y k, (g.page k + j) * g.pg + i * g.y k, g.page k + j⟩ := by
 have h1 : (j * g.per k + i) / g.per k = j := by
  rw [Nat.mul_comm, Nat.mul_add_div (by omega), Nat.div_eq_of_lt hi]; rfl
 have h2 : (j * g.per k + i) % g.per k = i := by
  rw [Nat.mul_comm, Nat.mul_add_mod, Nat.mod_eq_of_lt hi]
 unfold PlG.sl
 rw [h1, h2]
theorem per_iff (ok : PlOk g) (hk : k < g.m) {i : Nat} : i < g.per k ↔ i * g.y k + g.y k ≤ g.pg := by
 have h2 := ok.y k hk
 rw [← Nat.succ_mul]
 exact Nat.le_div_iff_mul_le (by omega)
end
theorem g_clI {c : Cfg} {t : Int} (ga : GAt c t (gOf c t)) : (gOf c t).clI = c.cl := by
 unfold PlG.clI gOf
 dsimp only
 rw [List.map_map]
 conv => rhs; rw [← List.map_id c.cl]
 refine List.map_congr_left fun y hy => ?_
 obtain ⟨k, hk⟩ := List.getElem?_of_mem hy
 have := ga.y k y hk
 show ((y.toNat : Nat) : Int) = y
 omega
structure DnA where
 k : Nat
 oL : Own
 oF : Own
 oM : Own
structure DnC where
 i : Nat
 oL : Own
def plnHp (g : PlG) (k d j jm : Nat) (b8 : Nat) (vc : Value) (oL oF oM : Own) : Heap :=
 (b8, cells [oV oL (LKx g k d).length, oV oF (FKx g k j).length, oV oM (MKx g k jm).length, .int .i64 (g.words : Nat), vc] 34) :: (oH slE 63 (LKx g k d) oL ++ (oH iE 3 (FKx g k j) oF ++ oH iE 3 (MKx g k jm) oM))
theorem plnHp_app {g : PlG} {k d j jm b8 : Nat} {vc : Value} {oL oF oM : Own} {F : Heap} : plnHp g k d j jm b8 vc oL oF oM ++ F = (b8, cells [oV oL (LKx g k d).length, oV oF (FKx g k j).length, oV oM (MKx g k jm).length, .int .i64 (g.words : Nat), vc] 34) :: (oH slE 63 (LKx g k d) oL ++ (oH iE 3 (FKx g k j) oF ++ (oH iE 3 (MKx g k jm) oM ++ F))) := by
 unfold plnHp; simp only [List.cons_append, List.append_assoc]
set_option maxHeartbeats 4000000 in
theorem rpNew_K {w0 : World} {F : Heap} {c : Cfg} {vc vt : Value} {t : Int} (hR : CfgR w0 F c vc vt) (ht : thereP c t 0 = true) (hvc : vc.oneCell' = true) :
  Call Tryz.prog w0 57 [cfgV c vc vt, .int .i64 t] F (fun r H' => ∃ (v : PlV) (N : Heap), (∀ Dc, Sli w0 Dc iE vc c.cl → PlanD w0 (N ++ Dc) v (gOf c t)) ∧ r = .tuple [.agg (plL v (gOf c t)).toArray, .int .i64 0].toArray ∧ H' = N ++ F) := by
 have ga := g_at ht
 have hcl := g_clI ga
 obtain ⟨g, hg⟩ : ∃ g, g = gOf c t := ⟨_, rfl⟩
 rw [← hg] at ga hcl ⊢
 have hreg := fun A (hp : Part A F) => rRegion_K (t := t) (hR.part hp)
 have hsl := fun A (k : Nat) (hp : Part A F) => rSlots_K (t := t) (k := (k : Nat)) (hR.part hp)
 rw [ga.region] at hreg
 have ok := ga.ok
 have hm := ok.m
 have hgm := ga.m
 have hgy := ga.y
 have hgs := ga.slots
 have hgpg := ga.page
 have hpgl := ok.pg
 obtain ⟨hS, hT', o1, o2, l1, l2⟩ := hR
 obtain ⟨cl, page, tn, workers, grey, gens⟩ := c
 dsimp only at hS hT' l1 l2 hgm hgy hgpg hcl
 simp only [cfgV, cfgL] at hreg hsl ⊢
 subst hgpg
 simp only [prV] at hreg hsl
 clear ga hg ht
 refine Call.enter2 (n := 106) (by kernel_rfl) Tryz.func57 rfl rfl rfl ?_
 refine zaq ?_; intro b2 b4
 refine zr ?_
 refine zz fun T hT => ?_
 refine (CallV.fn (hreg _ byPart)).mono ?_
 rintro _ _ ⟨rfl, rfl⟩
 refine zd ?_
 clear hT T
 refine zG ?_
 refine zaB ?_
 refine zf ?_
 refine zJ ?_
 refine zaf ?_
 refine zay ?_; intro b8
 refine zbM ?_
 refine zaE ?_
 refine K.loopT (σ := DnA) [(1, _), (2, _), (4, _), (8, _)] (fun s kp_ => (9, .int .i64 (s.k : Nat)) :: kp_) (fun s => plnHp g s.k 0 0 0 b8 vc s.oL s.oF s.oM ++ ((b2, cells [vc, .int .i64 (g.pg : Nat), vt, .int .i64 workers, .int .i64 grey, .int .i64 gens] 25) :: (b4, cells [.slice none 0 0, .slice none 0 0, .slice none 0 0, .int .i64 0, .slice none 0 0] 34) :: F)) (fun s => s.k ≤ g.m ∧ oOk slE (LKx g s.k 0) s.oL ∧ oOk iE (FKx g s.k 0) s.oF ∧ oOk iE (MKx g s.k 0) s.oM) (fun s => g.m - s.k) (⟨0, none, none, none⟩) bySub (by rw [plnHp_app]; exact byPart) (⟨Nat.zero_le _, rfl, rfl, rfl⟩) ?_
 rintro ⟨k, oL, oF, oM⟩ ⟨hk, kL, kF, kM⟩
 dsimp only at hk kL kF kM ⊢
 rw [plnHp_app]
 by_cases hlt : k < g.m
 ·obtain ⟨y, hy⟩ := get_of_lt (l := cl) (k := k) (by omega)
  have hyk := hgy k y hy
  subst hyk
  have hkl : k < cl.length := by omega
  have hsl1 := fun A hp => hsl A k hp
  rw [hgs k hlt] at hsl1
  dsimp only at hsl1
  have y1 := ok.y k hlt
  have p1 := ok.per hlt
  have n1 := ok.n hlt
  have g1 := ok.pgs hlt
  have f1 := ok.first (show k + 1 ≤ g.m by omega)
  have q1 := ok.page (show k + 1 ≤ g.m by omega)
  have f2 : g.first (k + 1) = g.first k + g.n k := rfl
  have q2 : g.page (k + 1) = g.page k + g.pgs k := rfl
  clear hsl hgs hgy
  refine zdr ?_
  refine za3 ?_
  refine zaC fun T hT => ?_
  refine (CallV.fn (hsl1 _ byPart)).mono ?_
  rintro _ _ ⟨rfl, rfl⟩
  refine zd ?_
  clear hT T
  refine zag ?_
  refine zaE ?_
  refine K.loopT (σ := DnA) [(1, _), (2, _), (4, _), (8, _), (9, _)] (fun s kp_ => (10, .int .i64 ((g.n k - min (s.k * g.per k) (g.n k) : Nat) : Int)) :: kp_) (fun s => plnHp g k (min (s.k * g.per k) (g.n k)) s.k s.k b8 vc s.oL s.oF s.oM ++ ((b2, cells [vc, .int .i64 (g.pg : Nat), vt, .int .i64 workers, .int .i64 grey, .int .i64 gens] 25) :: (b4, cells [.slice none 0 0, .slice none 0 0, .slice none 0 0, .int .i64 0, .slice none 0 0] 34) :: F)) (fun s => s.k ≤ g.pgs k ∧ oOk slE (LKx g k (min (s.k * g.per k) (g.n k))) s.oL ∧ oOk iE (FKx g k s.k) s.oF ∧ oOk iE (MKx g k s.k) s.oM) (fun s => g.pgs k - s.k) (⟨0, oL, oF, oM⟩) bySub (by rw [plnHp_app]; simp only [Nat.zero_mul, Nat.zero_min]; exact byPart) ((by simp only [Nat.zero_mul, Nat.zero_min]; exact ⟨Nat.zero_le _, kL, kF, kM⟩)) ?_
  rintro ⟨j, oL, oF, oM⟩ ⟨hjp, kL, kF, kM⟩
  dsimp only at hjp kL kF kM ⊢
  by_cases hj : j < g.pgs k
  ·have hd := (pgs_lt ok hlt).1 hj
   have hmin : min (j * g.per k) (g.n k) = j * g.per k := by omega
   rw [hmin] at kL ⊢
   obtain ⟨D, hD⟩ : ∃ D, D = j * g.per k := ⟨_, rfl⟩
   have hDn' : (j + 1) * g.per k = D + g.per k := by rw [Nat.succ_mul, hD]
   have hfs : FKx g k j ++ [(((LKx g k D).length : Nat) : Int)] = FKx g k (j + 1) := by rw [LKx_len, hD]; exact FKx_next
   have hmp : mnyP g k j = min (g.per k) (g.n k - D) := by unfold mnyP; rw [hD]
   have hsle : ∀ i, i < g.per k → g.sl k (D + i) = ⟨k, g.y k, (g.page k + j) * g.pg + i * g.y k, g.page k + j⟩ := fun i hi => by rw [hD]; exact sl_in ok hlt hi
   have hle : ∀ i, i < g.per k ↔ i * g.y k + g.y k ≤ g.pg := fun i => per_iff ok hlt
   rw [← hD] at kL hd ⊢
   have hfl := FKx_len (g := g) (k := k) (j := j)
   have hfl1 := FKx_len (g := g) (k := k) (j := j + 1)
   have hml := MKx_len (g := g) (k := k) (j := j)
   have hml1 := MKx_len (g := g) (k := k) (j := j + 1)
   have hbF : (FKx g k (j + 1)).length ≤ 4294967296 := by omega
   have hbM : (MKx g k (j + 1)).length ≤ 4294967296 := by omega
   have hgt0 : ((g.n k - D : Nat) : Int) > 0 := by omega
   have hPw : (g.page k + j) * g.pg ≤ g.words := Nat.mul_le_mul_right _ (by have := cumN_step (n := g.pgs) hlt; unfold PlG.pages; unfold PlG.page at *; omega)
   have hww := ok.words
   clear hD
   rw [plnHp_app]
   refine zv ?_
   refine zcb ?_
   refine zjV ?_
   refine zU ?_
   refine za6 ?_
   refine zfi ?_
   refine zdH ?_
   refine zbN ?_
   refine zc5 ?_
   refine zbN ?_
   refine zia ?_
   refine zad ?_; intro b52
   refine KL.e rfl (Eff.appZ (E := iE) (xs := FKx g k j) (o := oF) (ys := [(((LKx g k D).length : Nat) : Int)]) (zs := FKx g k (j + 1)) rfl rfl rfl rfl rfl rfl byTakeL (by assumption) (Sli.blk byTake rfl (by simp) (by decide) rfl) hfs hbF rfl) ?_; rintro _ _ ⟨o6, ok6, rfl, rfl⟩
   refine zdH ?_
   refine ze5 ?_
   refine zy ?_
   refine zcn ?_
   refine K.loopT (σ := DnC) [(1, _), (2, _), (4, _), (8, _), (9, _), (12, _)] (fun s kp_ => (10, .int .i64 ((g.n k - (D + s.i) : Nat) : Int)) :: (13, .int .i64 (s.i : Nat)) :: (14, .int .i64 ((s.i * g.y k : Nat) : Int)) :: kp_) (fun s => plnHp g k (D + s.i) (j + 1) j b8 vc s.oL o6 oM ++ ((b2, cells [vc, .int .i64 (g.pg : Nat), vt, .int .i64 workers, .int .i64 grey, .int .i64 gens] 25) :: (b4, cells [.slice none 0 0, .slice none 0 0, .slice none 0 0, .int .i64 0, .slice none 0 0] 34) :: F)) (fun s => D + s.i ≤ g.n k ∧ s.i ≤ g.per k ∧ oOk slE (LKx g k (D + s.i)) s.oL) (fun s => g.n k - (D + s.i)) (⟨0, oL⟩) bySub (by rw [plnHp_app]; exact byPart) (⟨by show D + 0 ≤ _; omega, Nat.zero_le _, kL⟩) ?_
   rintro ⟨i, oL2⟩ ⟨hDi, hip, kL2⟩
   dsimp only at hDi hip kL2 ⊢
   rw [plnHp_app]
   have hlei := hle i
   have hLl := LKx_len (g := g) (k := k) (d := D + i)
   have hiy : i * g.y k ≤ 64 := by
    have h1 : i * g.y k ≤ g.per k * g.y k := Nat.mul_le_mul_right _ hip
    have h2 : g.per k * g.y k ≤ g.pg := Nat.div_mul_le_self _ _
    omega
   have hLl1 := LKx_len (g := g) (k := k) (d := D + (i + 1))
   by_cases h1 : D + i < g.n k
   ·have hg1 : ((g.n k - (D + i) : Nat) : Int) > 0 := by omega
    by_cases h2 : i < g.per k
    ·have hle2 : ((i * g.y k : Nat) : Int) + ((g.y k : Nat) : Int) ≤ ((g.pg : Nat) : Int) := by have := hlei.1 h2; omega
     have hx := hsle i h2
     have hbL : (LKx g k (D + (i + 1))).length ≤ 4294967296 := by omega
     have hq1 : (((FKx g k j).length : Nat) : Int) * ((g.pg : Nat) : Int) = (((g.page k + j) * g.pg : Nat) : Int) := by rw [hfl]; simp
     have hq2 : (((g.page k + j) * g.pg : Nat) : Int) + ((i * g.y k : Nat) : Int) = (((g.sl k (D + i)).addr : Nat) : Int) := by rw [hx]; simp
     have hq3 : (((FKx g k j).length : Nat) : Int) = (((g.sl k (D + i)).page : Nat) : Int) := by rw [hx, hfl]
     have hq4 : ((g.y k : Nat) : Int) = (((g.sl k (D + i)).size : Nat) : Int) := by rw [hx]
     have hq5 : ((k : Nat) : Int) = (((g.sl k (D + i)).cls : Nat) : Int) := by rw [hx]
     obtain ⟨PP, hPP⟩ : ∃ PP, PP = (g.page k + j) * g.pg := ⟨_, rfl⟩
     rw [← hPP] at hq1 hq2 hPw
     have hsn : LKx g k (D + i) ++ [g.sl k (D + i)] = LKx g k (D + (i + 1)) := LKx_next
     refine zf1 ?_
     refine zgR ?_
     refine zo ?_
     refine KD.v0 rfl rfl (Val.isT (Val.gtr rfl rfl) byLt) ?_
     refine zbd ?_
     refine zka ?_
     refine zcu ?_
     refine zgv ?_
     refine zhj ?_
     refine zgU ?_
     refine zbk ?_
     refine zjX ?_
     refine zbj ?_
     refine zV ?_
     refine KE.next (K.condT rfl (K.skip (KE.next (K.seq (K.block ?_)))))
     refine zak ?_
     (first | refine K.seq (K.drawn ((b8, cells [oV oL2 (LKx g k (D + i)).length, oV o6 (FKx g k (j + 1)).length, oV oM (MKx g k j).length, .int .i64 (g.words : Nat), vc] 34) :: []) [(0, 1), (1, 1), (2, 0), (3, 0), (4, 0), (5, 0), (6, 0), (7, 0), (8, 0), (9, 0), (10, 0), (11, 0), (12, 0), (13, 0), (14, 0), (15, 0), (16, 2), (17, 2), (18, 0), (19, 4)] (by kernel_rfl) (by kernel_rfl) (by kernel_rfl) (by kernel_rfl) (by kernel_rfl) (by kernel_rfl) byPart ?_) | refine K.seq (K.seq (K.drawn ((b8, cells [oV oL2 (LKx g k (D + i)).length, oV o6 (FKx g k (j + 1)).length, oV oM (MKx g k j).length, .int .i64 (g.words : Nat), vc] 34) :: []) [(0, 1), (1, 1), (2, 0), (3, 0), (4, 0), (5, 0), (6, 0), (7, 0), (8, 0), (9, 0), (10, 0), (11, 0), (12, 0), (13, 0), (14, 0), (15, 0), (16, 2), (17, 2), (18, 0), (19, 4)] (by kernel_rfl) (by kernel_rfl) (by kernel_rfl) (by kernel_rfl) (by kernel_rfl) (by kernel_rfl) byPart ?_)) | refine K.drawn ((b8, cells [oV oL2 (LKx g k (D + i)).length, oV o6 (FKx g k (j + 1)).length, oV oM (MKx g k j).length, .int .i64 (g.words : Nat), vc] 34) :: []) [(0, 1), (1, 1), (2, 0), (3, 0), (4, 0), (5, 0), (6, 0), (7, 0), (8, 0), (9, 0), (10, 0), (11, 0), (12, 0), (13, 0), (14, 0), (15, 0), (16, 2), (17, 2), (18, 0), (19, 4)] (by kernel_rfl) (by kernel_rfl) (by kernel_rfl) (by kernel_rfl) (by kernel_rfl) (by kernel_rfl) byPart ?_)
     refine zd4 ?_
     refine zo ?_
     refine zgW ?_
     refine zax ?_
     refine zo ?_
     refine zhh ?_
     refine zax ?_
     refine zo ?_
     refine ziW ?_
     refine zax ?_
     (first | refine KD.v0 rfl rfl (Val.mul rfl rfl (by simp only [qL, qH]; omega)) ?_ | refine KD.v0 rfl rfl (Val.mulW rfl rfl) ?_)
     refine zo ?_
     refine zll ?_
     refine zo ?_
     refine zeY ?_
     refine KD.e rfl rfl (Eff.buildS byParts rfl rfl rfl rfl rfl byFill) ?_; rintro _ _ ⟨b92, rfl, rfl⟩
     refine zcD ?_
     -- STOP at region 16 op 17: {"h": "Op.call", "a": [{"callee": {"h": "Callee.builtin", "a": ["Builtin.append"]}, "args": [{"h": "Operand.tmp", "a": [77]}, {"h": "Operand.tmp", "a": [92]}], "argTypes": [32, 32]}]}
     rw [hq1, hq2, hq3]
     refine KD.e rfl rfl (Eff.appZ (E := slE) (xs := LKx g k (D + i)) (o := oL2) (ys := [g.sl k (D + i)]) (zs := LKx g k (D + (i + 1))) rfl rfl rfl rfl rfl rfl byTakeL (by assumption) (by first | exact Sli.blk byTake rfl (by first | decide | simp) (by first | decide | (unfold maxLen; omega)) rfl | exact Sli.old (by assumption) | exact Sli.own byTakeL (by assumption) byLen | assumption | exact Sli.part (by assumption) byPart) (hsn) (by first | assumption | omega | (simp <;> fail) | (simp; omega)) rfl) ?_; rintro _ _ ⟨o', ok', rfl, rfl⟩; refine ⟨byPart, ?_⟩
     refine zgW ?_
     refine zlk ?_
     refine zV ?_
     rw [← hq3]
     have he1 : ((i * g.y k : Nat) : Int) + ((g.y k : Nat) : Int) = (((i + 1) * g.y k : Nat) : Int) := by rw [Nat.succ_mul]; omega
     have he2 : ((g.n k - (D + i) : Nat) : Int) - 1 = ((g.n k - (D + (i + 1)) : Nat) : Int) := by omega
     clear hq1 hq2 hq3 hq4 hq5 hx hsn
     refine zd0 ?_
     refine zbi ?_
     refine zdo ?_
     refine zf ?_
     refine zcK ?_
     refine zjF ?_
     refine zbJ ?_
     refine zbK ?_
     refine zcK ?_
     rw [he1, he2]
     exact KE.again ⟨i + 1, o'⟩ bySub (by rw [plnHp_app]; exact byPart) ⟨by show D + (i + 1) ≤ _; omega, h2, ok'⟩ (by show g.n k - (D + (i + 1)) < g.n k - (D + i); omega)
    ·have hgt2 : ¬ ((i * g.y k : Nat) : Int) + ((g.y k : Nat) : Int) ≤ ((g.pg : Nat) : Int) := by have := mt hlei.2 h2; omega
     have hie : i = g.per k := by omega
     have hDn : min ((j + 1) * g.per k) (g.n k) = D + i := by rw [hDn']; omega
     have hmn : MKx g k j ++ [((i : Nat) : Int)] = MKx g k (j + 1) := by rw [← MKx_next, hmp, show min (g.per k) (g.n k - D) = i by omega]
     ·skip
      refine zf1 ?_
      refine zgR ?_
      refine zo ?_
      refine KD.v0 rfl rfl (Val.isT (Val.gtr rfl rfl) byLt) ?_
      refine zbd ?_
      refine zka ?_
      refine zcu ?_
      refine zgv ?_
      refine zhj ?_
      refine zgU ?_
      refine zbk ?_
      refine zjY ?_
      refine zbj ?_
      refine zV ?_
      refine KE.next (K.condF rfl ?_)
      refine ziw ?_
      refine zcE ?_
      refine zau ?_
      refine zhX ?_
      refine zfo ?_
      refine zad ?_; intro b102
      refine KL.e rfl (Eff.appZ (E := iE) (xs := MKx g k j) (o := oM) (ys := [((i : Nat) : Int)]) (zs := MKx g k (j + 1)) rfl rfl rfl rfl rfl rfl byTakeL (by assumption) (by first | exact Sli.blk byTake rfl (by first | decide | simp) (by first | decide | (unfold maxLen; omega)) rfl | exact Sli.old (by assumption) | exact Sli.own byTakeL (by assumption) byLen | assumption | exact Sli.part (by assumption) byPart) (hmn) (by first | assumption | omega | (simp <;> fail) | (simp; omega)) rfl) ?_; rintro _ _ ⟨o', ok', rfl, rfl⟩
      refine zhX ?_
      refine ze5 ?_
      refine zap ?_
      refine zbY ?_
      exact zlm
   ·have hg1 : ¬ ((g.n k - (D + i) : Nat) : Int) > 0 := by omega
    have hDn : min ((j + 1) * g.per k) (g.n k) = D + i := by rw [hDn']; omega
    have hmn : MKx g k j ++ [((i : Nat) : Int)] = MKx g k (j + 1) := by rw [← MKx_next, hmp, show min (g.per k) (g.n k - D) = i by omega]
    ·skip
     ·skip
      refine zf1 ?_
      refine zgR ?_
      refine zo ?_
      refine KD.v0 rfl rfl (Val.isF (Val.gtr rfl rfl) byLt) ?_
      refine zfr ?_
      refine zcv ?_
      refine zgd ?_
      refine zbR ?_
      refine KE.next (K.condF rfl ?_)
      refine ziw ?_
      refine zcE ?_
      refine zau ?_
      refine zhX ?_
      refine zfo ?_
      refine zad ?_; intro b102
      refine KL.e rfl (Eff.appZ (E := iE) (xs := MKx g k j) (o := oM) (ys := [((i : Nat) : Int)]) (zs := MKx g k (j + 1)) rfl rfl rfl rfl rfl rfl byTakeL (by assumption) (by first | exact Sli.blk byTake rfl (by first | decide | simp) (by first | decide | (unfold maxLen; omega)) rfl | exact Sli.old (by assumption) | exact Sli.own byTakeL (by assumption) byLen | assumption | exact Sli.part (by assumption) byPart) (hmn) (by first | assumption | omega | (simp <;> fail) | (simp; omega)) rfl) ?_; rintro _ _ ⟨o', ok', rfl, rfl⟩
      refine zhX ?_
      refine ze5 ?_
      refine zap ?_
      refine zbY ?_
      exact zlm
  ·have hje : j = g.pgs k := by omega
   have hnle : g.n k ≤ j * g.per k := by have := mt (pgs_lt ok hlt).2 hj; omega
   have hmin : min (j * g.per k) (g.n k) = g.n k := by omega
   rw [hmin] at kL ⊢
   subst hje
   rw [plnHp_app]
   rw [LKx_up] at kL ⊢
   rw [FKx_up] at kF ⊢
   rw [MKx_up] at kM ⊢
   have hgt0 : ¬ ((g.n k - g.n k : Nat) : Int) > 0 := by omega
   refine zv ?_
   refine zae ?_
   refine zbO ?_
   refine zbq ?_
   exact KE.again ⟨k + 1, oL, oF, oM⟩ bySub (by rw [plnHp_app]; exact byPart) ⟨hlt, kL, kF, kM⟩ (by show g.m - (k + 1) < g.m - k; omega)
 ·have hke : k = g.m := by omega
  subst hke
  rw [LKx_all] at kL ⊢
  rw [FKx_all] at kF ⊢
  rw [MKx_all] at kM ⊢
  refine zdr ?_
  refine zfx ?_
  refine zck ?_
  refine KE.fin (H' := (oH slE 63 g.L oL ++ (oH iE 3 g.firsts oF ++ oH iE 3 g.manys oM)) ++ F) byMarks rfl byRes (by simp only [List.append_assoc]; exact byPart) ⟨⟨oV oL g.L.length, oV oF g.firsts.length, oV oM g.manys.length, vc⟩, _, fun Dc hC => ⟨Sli.own (by simp only [List.append_assoc]; exact byTakeL) kL rfl, Sli.own (by simp only [List.append_assoc]; exact byTakeL) kF rfl, Sli.own (by simp only [List.append_assoc]; exact byTakeL) kM rfl, by rw [hcl]; exact hC.part (by simp only [List.append_assoc]; exact byPart), oV_one _ _, oV_one _ _, oV_one _ _, hvc⟩, rfl, rfl⟩
open Go.RowKit
set_option maxRecDepth 10000
theorem g_L_bnd {g : PlG} (ok : PlOk g) : g.L.length ≤ 16384 := by rw [L_len]; exact ok.slots.2
section
variable {w0 : World} {D F : Heap} {v : PlV} {va : Value} {g : PlG} {A : List Bool}
theorem rHas_K {n : Int} (hP : PlanD w0 D v g) (ok : PlOk g) :
  Call Tryz.prog w0 67 [.agg (plL v g).toArray, .int .i64 n] (D ++ F) (fun r H' => r = .bool (decide (0 ≤ n ∧ n < (g.slots : Nat))) ∧ H' = D ++ F) := by
 have hL := hP.L
 have q1 := hP.oL
 have q2 := hP.oF
 have q3 := hP.oM
 have q4 := hP.oC
 have hlen := L_len (g := g)
 unfold plL
 by_cases h0 : n ≥ 0
 ·by_cases h1 : n < ((g.L.length : Nat) : Int)
  ·rw [decide_eq_true (show 0 ≤ n ∧ n < (g.slots : Nat) by omega)]
   refine zkb ?_
   refine zbl ?_; intro b2
   refine zav ?_
   refine zes ?_
   refine zaD ?_
   refine zaS ?_
   refine zgi ?_
   exact zw
  ·rw [decide_eq_false (show ¬ (0 ≤ n ∧ n < (g.slots : Nat)) by omega)]
   refine zkb ?_
   refine zbl ?_; intro b2
   refine zav ?_
   refine zes ?_
   refine zaD ?_
   refine zaS ?_
   refine zR ?_
   exact zb6
 ·rw [decide_eq_false (show ¬ (0 ≤ n ∧ n < (g.slots : Nat)) by omega)]
  refine zkb ?_
  refine zbl ?_; intro b2
  refine zav ?_
  refine zaJ ?_
  refine zcl ?_
  exact ziH
end
set_option maxRecDepth 10000
section
variable {w0 : World} {D F : Heap} {v : PlV} {va vd : Value} {g : PlG} {A R : List Bool}
end
set_option maxRecDepth 10000
theorem rwX_get {R : List RwD} {t : Nat} {q : RwD} (h : R[t]? = some q) : (rwX R)[t]? = some q.x := by unfold rwX; rw [List.getElem?_map, h]; rfl
theorem rwX_of {R : List RwD} {t : Nat} {x : List Int} (h : (rwX R)[t]? = some x) : ∃ q, R[t]? = some q ∧ q.x = x := by
 unfold rwX at h
 rw [List.getElem?_map] at h
 cases hq : R[t]? with
 | none => rw [hq] at h; cases h
 | some q => rw [hq] at h; exact ⟨q, rfl, by simpa using h⟩
structure WtS where
 k : Nat
 oo : Own
 R : List RwD
 N : Heap
section
variable {w0 : World} {D F : Heap} {vr : Value} {R : List RwD} {t a : Nat} {q : RwD} {x : List Int}
theorem rIn_K (hM : MemD w0 D vr R) (hR : R.length ≤ 1000) (hq : R[t]? = some q) (ha : a < q.x.length) :
  Call Tryz.prog w0 276 [.agg [vr].toArray, .int .i64 (t : Nat), .int .i64 (a : Nat)] (D ++ F) (fun r H' => r = .int .i64 0 ∧ H' = D ++ F) := by
 have hr := hM.r
 have ho := hM.o
 have hx := hM.x q (List.mem_of_getElem? hq)
 have htl := lt_of_get hq
 have hge : ¬ ((t : Nat) : Int) ≥ ((R.length : Nat) : Int) := by omega
 have hge2 : ¬ ((a : Nat) : Int) ≥ ((q.x.length : Nat) : Int) := by omega
 refine Call.enter3 (n := 28) (by kernel_rfl) Tryz.func276 rfl rfl rfl ?_
 refine zbl ?_; intro b3
 refine zT ?_
 refine zbG ?_
 refine zaD ?_
 refine zaS ?_
 refine zdw ?_
 refine zaW ?_
 refine zdf ?_
 refine zaD ?_
 refine zdq ?_
 refine zcy ?_
 refine zaS ?_
 refine zgk ?_
 exact zw
theorem rLoad_K {w : Int} (hM : MemD w0 D vr R) (hR : R.length ≤ 1000) (hq : R[t]? = some q) (hw : q.x[a]? = some w) :
  Call Tryz.prog w0 274 [.agg [vr].toArray, .int .i64 (t : Nat), .int .i64 (a : Nat)] (D ++ F) (fun r H' => r = .tuple [.int .u64 w, .int .i64 0].toArray ∧ H' = D ++ F) := by
 have hr := hM.r
 have ho := hM.o
 have hx := hM.x q (List.mem_of_getElem? hq)
 have htl := lt_of_get hq
 have hal := lt_of_get hw
 refine Call.enter3 (n := 24) (by kernel_rfl) Tryz.func274 rfl rfl rfl ?_
 refine zco ?_; intro b3
 refine zaC fun T hT => ?_
 refine (CallV.part (CallV.fn (rIn_K hM hR hq hal)) byPart).mono ?_
 refine ze ?_
 clear hT T
 refine zT ?_
 refine zaB ?_
 refine zbJ ?_
 refine zbK ?_
 refine zf ?_
 refine zbK ?_
 exact za4
theorem rwith_K {w : Int} (hM : MemD w0 D vr R) (hR : R.length ≤ 1000) (hq : R[t]? = some q) (ha : a < q.x.length) (hl : q.x.length ≤ 4294967296) :
  Call Tryz.prog w0 275 [.agg [vr].toArray, .int .i64 (t : Nat), .int .i64 (a : Nat), .int .u64 w] (D ++ F) (fun r H' => ∃ (vr' : Value) (R' : List RwD) (N : Heap), MemD w0 (N ++ D) vr' R' ∧ rwX R' = (rwX R).set t (q.x.set a w) ∧ r = .agg [vr'].toArray ∧ H' = N ++ (D ++ F)) := by
 have hr := hM.r
 have ho := hM.o
 have htl := lt_of_get hq
 have hrl : (rwX R).length = R.length := by simp [rwX]
 obtain ⟨X, hX⟩ : ∃ X, X = (rwX R).set t (q.x.set a w) := ⟨_, rfl⟩
 have hXl : X.length = R.length := by rw [hX, List.length_set, hrl]
 have hXt : X[t]? = some (q.x.set a w) := by rw [hX, List.getElem?_set_self (by omega)]
 have hXn : ∀ k q', k ≠ t → R[k]? = some q' → X[k]? = some q'.x := fun k q' h1 h2 => by rw [hX, List.getElem?_set_ne (by omega)]; exact rwX_get h2
 rw [← hX]
 clear hX
 refine Call.enter4 (n := 41) (by kernel_rfl) Tryz.func275 rfl rfl rfl ?_
 refine zaq ?_; intro b4 b8
 refine zy ?_
 refine zaI ?_; intro b9
 refine zbM ?_
 refine zaE ?_
 refine K.loopT (σ := WtS) [(1, _), (2, _), (3, _), (4, _), (8, _), (9, _)] (fun s kp_ => (10, .int .i64 (s.k : Nat)) :: kp_) (fun s => (s.N ++ (oH rwE 54 s.R s.oo ++ ((b9, cells [oV s.oo s.R.length] 40) :: (b4, cells [vr] 40) :: (b8, cells [.slice none 0 0] 40) :: (D ++ F))))) (fun s => s.k ≤ R.length ∧ oOk rwE s.R s.oo ∧ rwX s.R = X.take s.k ∧ ∀ q' ∈ s.R, Sli w0 (s.N ++ D) uE (.slice q'.a q'.n q'.c) q'.x) (fun s => R.length - s.k) (⟨0, none, [], []⟩) bySub byPart (⟨Nat.zero_le _, rfl, rfl, fun q' h => by cases h⟩) ?_
 rintro ⟨k, oo, R1, N1⟩ ⟨hk, hoo, hX1, hs1⟩
 dsimp only at hk hoo hX1 hs1 ⊢
 have hR1 : R1.length = k := by have := congrArg List.length hX1; simp [rwX, hXl] at this; omega
 by_cases hlt : k < R.length
 ·obtain ⟨q', hq'⟩ := get_of_lt hlt
  have hx' := hM.x q' (List.mem_of_getElem? hq')
  by_cases hkt : k = t
  ·have hkt' : ((k : Nat) : Int) = ((t : Nat) : Int) := by rw [hkt]
   have hqq : q' = q := by rw [hkt] at hq'; rw [hq] at hq'; cases hq'; rfl
   subst hqq
   obtain ⟨v0, hv0⟩ := get_of_lt ha
   refine zdr ?_
   refine za3 ?_
   refine zbJ ?_
   refine zbK ?_
   refine zal ?_
   refine zj ?_
   refine zY ?_
   refine zI ?_
   refine zad ?_; intro b27
   refine zf ?_
   refine KL.e rfl (Eff.appLit (E := uE) (ys := q'.x) rfl rfl rfl rfl rfl rfl rfl byTake (by first | exact Sli.blk byTake rfl (by first | decide | simp) (by first | decide | (unfold maxLen; omega)) rfl | exact Sli.old (by assumption) | exact Sli.own byTakeL (by assumption) byLen | assumption | exact Sli.part (by assumption) byPart) (by first | assumption | omega | (simp <;> fail) | (simp; omega)) rfl) ?_; rintro _ _ ⟨o', ok', rfl, rfl⟩
   refine zdo ?_
   refine zbI ?_
   refine zgn ?_
   refine zb9 ?_
   have hset := ok'.set a w
   have hlen : (q'.x.set a w).length = q'.x.length := List.length_set
   cases o' with
   | none =>
    exfalso
    simp only [oOk] at ok'
    rw [ok'] at ha; simp at ha
   | some ob =>
    have hnew : ∀ A, Sli w0 (oH uE 64 (q'.x.set a w) (some ob) ++ A) uE (.slice (some ⟨ob.b, 0, none⟩) q'.x.length ob.c) (q'.x.set a w) := fun A => Sli.own TakeL.head hset hlen.symm
    have hXs : X.take (k + 1) = X.take k ++ [q'.x.set a w] := by rw [hkt]; exact take_snoc hXt
    have hbd : (R1 ++ [(⟨some ⟨ob.b, 0, none⟩, q'.x.length, ob.c, q'.x.set a w⟩ : RwD)]).length ≤ 4294967296 := by simp; omega
    obtain ⟨qn, hqn⟩ : ∃ qn : RwD, qn = ⟨some ⟨ob.b, 0, none⟩, q'.x.length, ob.c, q'.x.set a w⟩ := ⟨_, rfl⟩
    refine zau ?_
    refine zc5 ?_
    refine zfo ?_
    refine zad ?_; intro b37
    refine KL.e rfl (Eff.appZ (E := rwE) (xs := R1) (o := oo) (ys := [⟨some ⟨ob.b, 0, none⟩, q'.x.length, ob.c, q'.x.set a w⟩]) (zs := R1 ++ [⟨some ⟨ob.b, 0, none⟩, q'.x.length, ob.c, q'.x.set a w⟩]) rfl rfl rfl rfl rfl rfl byTakeL (by assumption) (by first | exact Sli.blk byTake rfl (by first | decide | simp) (by first | decide | (unfold maxLen; omega)) rfl | exact Sli.old (by assumption) | exact Sli.own byTakeL (by assumption) byLen | assumption | exact Sli.part (by assumption) byPart) (rfl) (by first | assumption | omega | (simp <;> fail) | (simp; omega)) rfl) ?_; rintro _ _ ⟨o', ok', rfl, rfl⟩
    refine zc5 ?_
    refine ze5 ?_
    refine zgz ?_
    exact KE.again ⟨k + 1, o', R1 ++ [⟨some ⟨ob.b, 0, none⟩, q'.x.length, ob.c, q'.x.set a w⟩], oH uE 64 (q'.x.set a w) (some ob) ++ N1⟩ bySub byPart ⟨hlt, ok', by show rwX _ = _; rw [hXs, ← hX1]; simp [rwX], fun q2 h2 => by
     rcases List.mem_append.1 h2 with h2 | h2
     ·exact (hs1 q2 h2).part byPart
     ·rw [List.mem_singleton.1 h2, List.append_assoc]; exact hnew _⟩ (by show R.length - (k + 1) < R.length - k; omega)
  ·have hkt' : ¬ ((k : Nat) : Int) = ((t : Nat) : Int) := by omega
   have hXs : X.take (k + 1) = X.take k ++ [q'.x] := take_snoc (hXn k q' hkt hq')
   have hbd : (R1 ++ [(⟨q'.a, q'.n, q'.c, q'.x⟩ : RwD)]).length ≤ 4294967296 := by simp; omega
   refine zdr ?_
   refine za3 ?_
   refine zbJ ?_
   refine zbK ?_
   refine zal ?_
   refine zj ?_
   refine zH ?_
   refine zgp ?_
   refine zc5 ?_
   refine zfo ?_
   refine zad ?_; intro b37
   refine KL.e rfl (Eff.appZ (E := rwE) (xs := R1) (o := oo) (ys := [⟨q'.a, q'.n, q'.c, q'.x⟩]) (zs := R1 ++ [⟨q'.a, q'.n, q'.c, q'.x⟩]) rfl rfl rfl rfl rfl rfl byTakeL (by assumption) (by first | exact Sli.blk byTake rfl (by first | decide | simp) (by first | decide | (unfold maxLen; omega)) rfl | exact Sli.old (by assumption) | exact Sli.own byTakeL (by assumption) byLen | assumption | exact Sli.part (by assumption) byPart) (rfl) (by first | assumption | omega | (simp <;> fail) | (simp; omega)) rfl) ?_; rintro _ _ ⟨o', ok', rfl, rfl⟩
   refine zc5 ?_
   refine ze5 ?_
   refine zgz ?_
   exact KE.again ⟨k + 1, o', R1 ++ [⟨q'.a, q'.n, q'.c, q'.x⟩], N1⟩ bySub byPart ⟨hlt, ok', by show rwX _ = _; rw [hXs, ← hX1]; simp [rwX], fun q2 h2 => by
    rcases List.mem_append.1 h2 with h2 | h2
    ·exact hs1 q2 h2
    ·rw [List.mem_singleton.1 h2]; exact hx'.part byPart⟩ (by show R.length - (k + 1) < R.length - k; omega)
 ·have hkR : k = R.length := by omega
  have hX2 : rwX R1 = X := by rw [hX1, List.take_of_length_le (by omega)]
  refine zdr ?_
  refine zfx ?_
  refine zbx ?_
  exact KE.fin (H' := (N1 ++ oH rwE 54 R1 oo) ++ (D ++ F)) byMarks rfl byRes (by rw [List.append_assoc]; exact byPart) ⟨oV oo R1.length, R1, _, ⟨Sli.own (H := (N1 ++ oH rwE 54 R1 oo) ++ D) (by rw [List.append_assoc]; exact byTakeL) hoo rfl, oV_one _ _, fun q2 h2 => (hs1 q2 h2).part (by rw [List.append_assoc]; exact byPart)⟩, hX2, rfl, rfl⟩
end
open Go.RowKit
set_option maxRecDepth 10000
structure ZrS where
 i : Nat
 vr : Value
 R : List RwD
 N : Heap
theorem cleared_step {x : List Int} {a i : Nat} (h : a + i < x.length) : (cleared x a (a + i) 0).set (a + i) 0 = cleared x a (a + (i + 1)) 0 := by
 apply List.ext_getElem?
 intro j
 have key : ∀ (b : Nat), a ≤ b → b ≤ x.length → ∀ j : Nat, (cleared x a b 0)[j]? = if a ≤ j ∧ j < b then some 0 else x[j]? := by
  intro b h1 h2 j
  unfold cleared
  rcases Nat.lt_or_ge j a with hj | hj
  ·rw [List.append_assoc, List.getElem?_append_left (by rw [List.length_take]; omega), List.getElem?_take_of_lt hj, if_neg (by omega)]
  ·rcases Nat.lt_or_ge j b with hb | hb
   ·rw [List.append_assoc, List.getElem?_append_right (by rw [List.length_take]; omega), List.getElem?_append_left (by rw [List.length_replicate, List.length_take]; omega), List.getElem?_replicate, if_pos (by rw [List.length_take]; omega), if_pos ⟨hj, hb⟩]
   ·rw [List.getElem?_append_right (by rw [List.length_append, List.length_take, List.length_replicate]; omega), List.getElem?_drop, if_neg (by omega)]
    congr 1
    rw [List.length_append, List.length_take, List.length_replicate]; omega
 by_cases hj : j = a + i
 ·subst hj
  rw [List.getElem?_set_self (by rw [cleared_len (by omega) (by omega)]; exact h), key _ (by omega) (by omega), if_pos (by omega)]
 ·rw [List.getElem?_set_ne (by omega), key _ (by omega) (by omega), key _ (by omega) (by omega)]
  by_cases hc : a ≤ j ∧ j < a + i
  ·rw [if_pos hc, if_pos (by omega)]
  ·rw [if_neg hc, if_neg (by omega)]
section
variable {w0 : World} {D F : Heap} {vr : Value} {R : List RwD} {t a n : Nat} {q : RwD} {x : List Int}
theorem rStore_K {w : Int} (hM : MemD w0 D vr R) (hR : R.length ≤ 1000) (hq : R[t]? = some q) (ha : a < q.x.length) (hl : q.x.length ≤ 4294967296) :
  Call Tryz.prog w0 239 [.agg [vr].toArray, .int .i64 (t : Nat), .int .i64 (a : Nat), .int .u64 w] (D ++ F) (fun r H' => ∃ (vr' : Value) (R' : List RwD) (N : Heap), MemD w0 (N ++ D) vr' R' ∧ rwX R' = (rwX R).set t (q.x.set a w) ∧ r = .tuple [.agg [vr'].toArray, .int .i64 0].toArray ∧ H' = N ++ (D ++ F)) := by
 have ho := hM.o
 refine Call.enter4 (n := 24) (by kernel_rfl) Tryz.func239 rfl rfl rfl ?_
 refine zaq ?_; intro b4 b8
 refine zr ?_
 refine zaC fun T hT => ?_
 refine (CallV.part (CallV.fn (rIn_K hM hR hq ha)) byPart).mono ?_
 refine ze ?_
 clear hT T
 refine zT ?_
 refine zaB ?_
 refine zfh ?_
 refine zh fun T hT => ?_
 refine (CallV.part (CallV.fn (rwith_K hM hR hq ha hl)) byPart).mono ?_
 rintro _ _ ⟨vr', R', N, hM', hX, rfl, rfl⟩
 have ho' := hM'.o
 refine zd ?_
 clear hT T
 refine zgj ?_
 exact KE.fin byMarks rfl byRes byPart ⟨vr', R', N, hM', hX, rfl, rfl⟩
theorem rZero_K (hM : MemD w0 D vr R) (hR : R.length ≤ 1000) (hq : R[t]? = some q) (ha : a + n ≤ q.x.length) (hl : q.x.length ≤ 4294967296) :
  Call Tryz.prog w0 238 [.agg [vr].toArray, .int .i64 (t : Nat), .int .i64 (a : Nat), .int .i64 (n : Nat)] (D ++ F) (fun r H' => ∃ (vr' : Value) (R' : List RwD) (N : Heap), MemD w0 (N ++ D) vr' R' ∧ rwX R' = (rwX R).set t (cleared q.x a (a + n) 0) ∧ r = .tuple [.agg [vr'].toArray, .int .i64 0].toArray ∧ H' = N ++ (D ++ F)) := by
 have hr := hM.r
 have ho := hM.o
 have htl := lt_of_get hq
 have hx := hM.x q (List.mem_of_getElem? hq)
 have hrl : (rwX R).length = R.length := by simp [rwX]
 have hge : ¬ ((t : Nat) : Int) ≥ ((R.length : Nat) : Int) := by omega
 have hgt : ¬ ((a : Nat) : Int) > ((q.x.length : Nat) : Int) := by omega
 have hgt2 : ¬ ((n : Nat) : Int) > ((q.x.length : Nat) : Int) - ((a : Nat) : Int) := by omega
 have h0 : rwX R = (rwX R).set t (cleared q.x a (a + 0) 0) := by
  rw [Nat.add_zero, cleared_none]
  apply List.ext_getElem?
  intro j
  by_cases hj : j = t
  ·subst hj; rw [List.getElem?_set_self (by omega)]; exact rwX_get hq
  ·rw [List.getElem?_set_ne (by omega)]
 refine Call.enter4 (n := 62) (by kernel_rfl) Tryz.func238 rfl rfl rfl ?_
 refine zaq ?_; intro b4 b8
 refine zT ?_
 refine zbG ?_
 refine zaD ?_
 refine zaS ?_
 refine zdw ?_
 refine zaW ?_
 refine zf ?_
 refine zR ?_
 refine zej ?_
 refine zaD ?_
 refine zdq ?_
 refine zcy ?_
 refine zaS ?_
 refine zae ?_
 refine zba ?_
 refine zaD ?_
 refine zdq ?_
 refine zcy ?_
 refine zaS ?_
 refine zu ?_
 refine zdW ?_
 refine zeL ?_
 refine zaW ?_
 refine zaE ?_
 refine K.loopT (σ := ZrS) [(1, _), (2, _), (3, _), (4, _), (8, _)] (fun s kp_ => (10, .int .i64 (s.i : Nat)) :: kp_) (fun s => (b4, cells [s.vr] 40) :: (b8, cells [.slice none 0 0] 40) :: (s.N ++ (D ++ F))) (fun s => s.i ≤ n ∧ MemD w0 (s.N ++ D) s.vr s.R ∧ rwX s.R = (rwX R).set t (cleared q.x a (a + s.i) 0)) (fun s => n - s.i) (⟨0, vr, R, []⟩) bySub byPart (⟨Nat.zero_le _, hM, h0⟩) ?_
 rintro ⟨i, v1, R1, N⟩ ⟨hi, hM1, hX1⟩
 dsimp only at hi hM1 hX1 ⊢
 have ho1 := hM1.o
 by_cases hlt : i < n
 ·have hR1 : R1.length = R.length := by have := congrArg List.length hX1; rw [List.length_set, hrl] at this; simpa [rwX] using this
  obtain ⟨q1, hq1, hqx⟩ := rwX_of (R := R1) (t := t) (x := cleared q.x a (a + i) 0) (by rw [hX1, List.getElem?_set_self (by omega)])
  have hql : q1.x.length = q.x.length := by rw [hqx]; exact cleared_len (by omega) (by omega)
  have hai : ((a : Nat) : Int) + ((i : Nat) : Int) = ((a + i : Nat) : Int) := by omega
  refine zcI ?_
  refine zE ?_
  refine zhZ ?_
  refine zfh ?_
  refine zf ?_
  refine zQ ?_
  refine zg fun T hT => ?_
  rw [hai]
  refine (CallV.part (CallV.fn (rwith_K (F := (b4, cells [v1] 40) :: (b8, cells [.slice none 0 0] 40) :: F) hM1 (by omega) hq1 (a := a + i) (by omega) (by omega))) (by rw [List.append_assoc]; exact byPart)).mono ?_
  rintro _ _ ⟨v2, R2, N2, hM2, hX2, rfl, rfl⟩
  have ho2 := hM2.o
  rw [hqx, hX1, List.set_set, cleared_step (by omega)] at hX2
  rw [← List.append_assoc] at hM2
  refine zd ?_
  clear hT T
  simp only [List.append_assoc]
  refine z9 ?_
  refine zgz ?_
  exact KE.again ⟨i + 1, v2, R2, N2 ++ N⟩ bySub (by simp only [List.append_assoc]; exact byPart) ⟨hlt, hM2, hX2⟩ (by show n - (i + 1) < n - i; omega)
 ·have hin : i = n := by omega
  subst hin
  refine zcI ?_
  refine zfp ?_
  refine zck ?_
  exact KE.fin byMarks rfl byRes byPart ⟨v1, R1, N, hM1, hX1, rfl, rfl⟩
end
set_option maxRecDepth 10000
def boL (v : PlV) (g : PlG) (vr : Value) (t : Nat) : List Value := [vr, .int .i64 (t : Nat), v.L, v.F, v.M, .int .i64 (g.words : Nat), v.C]
structure BoD (w0 : World) (D : Heap) (v : PlV) (vr : Value) (g : PlG) (R : List RwD) : Prop where
 p : PlanD w0 D v g
 m : MemD w0 D vr R
theorem BoD.part {w0 : World} {D D' : Heap} {v : PlV} {vr : Value} {g : PlG} {R : List RwD} (h : BoD w0 D v vr g R) (hp : Part D' D) : BoD w0 D' v vr g R := ⟨h.p.part hp, h.m.part hp⟩
structure BoF (g : PlG) (R : List RwD) (t : Nat) (x : List Int) : Prop where
 ok : PlOk g
 n : R.length ≤ 1000
 r : (rwX R)[t]? = some x
 l : x.length = g.words
 w : WdOk x
theorem BoF.q {g : PlG} {R : List RwD} {t : Nat} {x : List Int} (h : BoF g R t x) : ∃ q, R[t]? = some q ∧ q.x = x := rwX_of h.r
theorem BoF.self {g : PlG} {R : List RwD} {t : Nat} {x : List Int} (h : BoF g R t x) : rwX R = (rwX R).set t x := by
 apply List.ext_getElem?
 intro j
 by_cases hj : j = t
 ·subst hj; rw [List.getElem?_set_self (lt_of_get h.r)]; exact h.r
 ·rw [List.getElem?_set_ne (by omega)]
theorem BoF.next {g : PlG} {R R' : List RwD} {t : Nat} {x y : List Int} (h : BoF g R t x) (hX : rwX R' = (rwX R).set t y) (hl : y.length = x.length) (hw : WdOk y) : BoF g R' t y := by
 refine ⟨h.ok, ?_, by rw [hX]; exact List.getElem?_set_self (lt_of_get h.r), by rw [hl]; exact h.l, hw⟩
 have := congrArg List.length hX
 rw [List.length_set] at this
 have h2 := h.n
 simp only [rwX, List.length_map] at this
 omega
structure StA where
 b9 : Nat
 vr : Value
 R : List RwD
 N : Heap
section
variable {w0 : World} {D F : Heap} {v : PlV} {vr : Value} {g : PlG} {R : List RwD} {t s : Nat} {x : List Int} {y : SlotP}
theorem rbload_K {i : Nat} (hB : BoD w0 D v vr g R) (hf : BoF g R t x) (hy : g.L[s]? = some y) (hi : y.addr + i < x.length) :
  Call Tryz.prog w0 236 [.agg (boL v g vr t).toArray, .int .i64 (s : Nat), .int .i64 (i : Nat)] (D ++ F) (fun r H' => r = .int .u64 (wAt x (y.addr + i)) ∧ H' = D ++ F) := by
 obtain ⟨q, hq, hqx⟩ := hf.q
 subst hqx
 have hL := hB.p.L
 have ho := hB.m.o
 have q1 := hB.p.oL
 have q2 := hB.p.oF
 have q3 := hB.p.oM
 have q4 := hB.p.oC
 have hsl := lt_of_get hy
 have hfit := hf.ok.fits hy
 have hww := hf.ok.words
 have hlx := hf.l
 have hai : ((y.addr : Nat) : Int) + ((i : Nat) : Int) = ((y.addr + i : Nat) : Int) := by omega
 unfold boL
 refine Call.enter3 (n := 27) (by kernel_rfl) Tryz.func236 rfl rfl rfl ?_
 refine zbl ?_; intro b3
 refine zhc ?_
 refine K.drawn [] [(0, 0), (1, 0), (2, 0), (3, 0), (4, 0), (5, 0), (6, 0), (7, 0), (8, 0), (9, 0), (10, 0), (11, 0), (12, 0), (13, 2), (14, 0), (15, 0), (16, 0), (17, 0), (18, 0)] (by kernel_rfl) (by kernel_rfl) (by kernel_rfl) (by kernel_rfl) (by kernel_rfl) (by kernel_rfl) Part.nil ?_
 refine zaV ?_
 refine ze6 ?_
 refine zdj ?_
 refine zcc ?_
 refine KD.v0 rfl rfl (Val.fieldAddrZ rfl rfl) ?_
 refine zb5 ?_
 refine zgP ?_
 refine KD.v0 rfl rfl (Val.fieldSl (k := 2) rfl rfl) ?_
 refine zeb ?_
 refine zo ?_
 refine zb1 ?_
 refine zl fun T hT => ?_
 rw [hai]
 refine (CallV.part (CallV.fn (rLoad_K hB.m hf.n hq (wAt_get hi))) byPart).mono ?_
 refine zab ?_
 clear hT T
 refine ziB ?_
 refine zhT ?_
 refine zaw ?_
 refine zbm ?_
 refine zd0 ?_
 exact zw
theorem rbstore_K {i : Nat} {w : Int} (hB : BoD w0 D v vr g R) (hf : BoF g R t x) (hy : g.L[s]? = some y) (hi : y.addr + i < x.length) :
  Call Tryz.prog w0 161 [.agg (boL v g vr t).toArray, .int .i64 (s : Nat), .int .i64 (i : Nat), .int .u64 w] (D ++ F) (fun r H' => ∃ (vr' : Value) (R' : List RwD) (N : Heap), BoD w0 (N ++ D) v vr' g R' ∧ rwX R' = (rwX R).set t (x.set (y.addr + i) w) ∧ r = .agg (boL v g vr' t).toArray ∧ H' = N ++ (D ++ F)) := by
 obtain ⟨q, hq, hqx⟩ := hf.q
 subst hqx
 have hL := hB.p.L
 have ho := hB.m.o
 have q1 := hB.p.oL
 have q2 := hB.p.oF
 have q3 := hB.p.oM
 have q4 := hB.p.oC
 have hsl := lt_of_get hy
 have hfit := hf.ok.fits hy
 have hww := hf.ok.words
 have hlx := hf.l
 have hai : ((y.addr : Nat) : Int) + ((i : Nat) : Int) = ((y.addr + i : Nat) : Int) := by omega
 unfold boL
 refine Call.enter4 (n := 35) (by kernel_rfl) Tryz.func161 rfl rfl rfl ?_
 refine zaq ?_; intro b4 b8
 refine zb9 ?_
 refine K.cutT (σ := StA) [(4, _), (8, _)] bySub (fun s kp_ => (9, .pointer (some ⟨s.b9, 0, none⟩)) :: kp_) (fun s => s.N ++ ((s.b9, cells [s.vr] 40) :: (b4, cells [vr, .int .i64 (t : Nat), v.L, v.F, v.M, .int .i64 (g.words : Nat), v.C] 42) :: (b8, cells [.slice none 0 0, .int .i64 0, .slice none 0 0, .slice none 0 0, .slice none 0 0, .int .i64 0, .slice none 0 0] 42) :: (D ++ F))) (fun s => MemD w0 (s.N ++ D) s.vr s.R ∧ rwX s.R = (rwX R).set t (q.x.set (y.addr + i) w)) ?_ ?_
 ·skip
  refine zak ?_
  refine K.drawn ((b4, cells [vr, .int .i64 (t : Nat), v.L, v.F, v.M, .int .i64 (g.words : Nat), v.C] 42) :: D) [(0, 1), (1, 1), (2, 1), (3, 1), (4, 1), (5, 1), (6, 1), (7, 1), (8, 1), (9, 1), (10, 1), (11, 1), (12, 1), (13, 1), (14, 3), (15, 1), (16, 1), (17, 1), (18, 2), (19, 2), (20, 0)] (by kernel_rfl) (by kernel_rfl) (by kernel_rfl) (by kernel_rfl) (by kernel_rfl) (by kernel_rfl) byPart ?_
  refine zh4 ?_
  refine ze7 ?_
  refine zi4 ?_
  refine zaO ?_
  refine zef ?_
  refine zd4 ?_
  refine zfE ?_
  refine zef ?_
  refine zaO ?_
  refine zO ?_
  refine zlo ?_
  refine zO ?_
  refine KD.fork2 (x := 14) (y := 18) (o1 := [(15, 1), (16, 1), (17, 1), (18, 2), (19, 2), (20, 0)]) (o2 := [(14, 2), (15, 0), (16, 0), (17, 1), (19, 2), (20, 0)]) (by kernel_rfl) rfl rfl (by kernel_rfl) (by kernel_rfl) ?_ ?_
  ·refine zcG fun T hT => ?_
   rw [hai]
   refine (CallV.part (CallV.fn (rStore_K hB.m hf.n hq hi (by omega))) byPart).mono ?_
   rintro _ _ ⟨vr', R', N, hM', hX, rfl, rfl⟩
   have ho' := hM'.o
   refine zi ?_
   clear hT T
   refine zO ?_
   refine zdG ?_
   refine zdG ?_
   refine zeI ?_; intro b9
   refine zdl ?_
   exact KE.meet ⟨b9, vr', R', N⟩ bySub byPart ⟨hM', hX⟩
  ·(refine ActK.e rfl (Eff.alloc rfl) ?_; rintro _ _ ⟨b9, rfl, rfl⟩; refine ⟨byPart, ?_⟩)
   refine zl fun T hT => ?_
   rw [hai]
   refine (CallV.part (CallV.fn (rStore_K hB.m hf.n hq hi (by omega))) byPart).mono ?_
   rintro _ _ ⟨vr', R', N, hM', hX, rfl, rfl⟩
   have ho' := hM'.o
   refine zi ?_
   clear hT T
   refine zb7 ?_
   refine zdl ?_
   exact KE.meet ⟨b9, vr', R', N⟩ bySub byPart ⟨hM', hX⟩
 ·rintro ⟨b9, vr', R', N⟩ ⟨hM', hX⟩
  dsimp only at hM' hX ⊢
  have ho' := hM'.o
  refine zq ?_
  refine zB ?_
  refine zU ?_
  refine za8 ?_
  refine zB ?_
  refine zhK ?_
  refine zhG ?_
  exact zlp
theorem rblies_K {h : HdP} (hB : BoD w0 D v vr g R) (hy : g.L[s]? = some y) :
  Call Tryz.prog w0 157 [.agg (boL v g vr t).toArray, .int .i64 (s : Nat), hdV h] (D ++ F) (fun r H' => r = .bool (liesP y h) ∧ H' = D ++ F) := by
 have hL := hB.p.L
 have ho := hB.m.o
 have q1 := hB.p.oL
 have q2 := hB.p.oF
 have q3 := hB.p.oM
 have q4 := hB.p.oC
 have hsl := lt_of_get hy
 have hneed := fun A => rNeed_K (w0 := w0) (H := A) (h := h)
 obtain ⟨c, r, w⟩ := h
 unfold hdV boL at *
 dsimp only at *
 cases hm : mayH ⟨c, r, w⟩ with
 | false =>
  have e : liesP y ⟨c, r, w⟩ = false := by simp [liesP, hm]
  have hn : needH ⟨c, r, w⟩ = (0, 2) := by simp [needH, hm]
  simp only [hn] at hneed
  rw [e]
  refine zi5 ?_
  refine zb3 ?_; intro b3 b5
  refine zcB fun T hT => ?_
  refine zf5 ?_
  rintro _ _ ⟨rfl, rfl⟩
  refine zd ?_
  clear hT T
  refine zgD ?_
  refine zi6 ?_
  refine zo ?_
  refine zf7 ?_
  refine zfr ?_
  refine zcv ?_
  refine zgd ?_
  refine za9 ?_
  refine zfr ?_
  refine zcv ?_
  refine zbD ?_
  refine za9 ?_
  exact zdU
 | true =>
  have hn : needH ⟨c, r, w⟩ = (r + w + 1, 0) := by simp [needH, hm]
  simp only [hn] at hneed
  by_cases h1 : c = (y.cls : Nat)
  ·by_cases h2 : r + w + 1 ≤ (y.size : Nat)
   ·have e : liesP y ⟨c, r, w⟩ = true := by unfold liesP; rw [hm, Bool.true_and, decide_eq_true h1, decide_eq_true h2]; rfl
    rw [e]
    refine zi5 ?_
    refine zb3 ?_; intro b3 b5
    refine zcB fun T hT => ?_
    refine zf5 ?_
    rintro _ _ ⟨rfl, rfl⟩
    refine zd ?_
    clear hT T
    refine zgD ?_
    refine zi6 ?_
    refine zo ?_
    refine zdK ?_
    refine zfs ?_
    refine zbk ?_
    refine zc9 ?_
    refine zib ?_
    refine zcu ?_
    refine zhl ?_
    refine zkd ?_
    refine zc7 ?_
    refine zhs ?_
    refine zbj ?_
    refine zbd ?_
    refine zc9 ?_
    refine zib ?_
    refine zcu ?_
    refine zhl ?_
    refine zi7 ?_
    refine zc7 ?_
    refine zjX ?_
    refine zbj ?_
    exact zdU
   ·have e : liesP y ⟨c, r, w⟩ = false := by simp [liesP, hm, h2]
    rw [e]
    refine zi5 ?_
    refine zb3 ?_; intro b3 b5
    refine zcB fun T hT => ?_
    refine zf5 ?_
    rintro _ _ ⟨rfl, rfl⟩
    refine zd ?_
    clear hT T
    refine zgD ?_
    refine zi6 ?_
    refine zo ?_
    refine zdK ?_
    refine zfs ?_
    refine zbk ?_
    refine zc9 ?_
    refine zib ?_
    refine zcu ?_
    refine zhl ?_
    refine zkd ?_
    refine zc7 ?_
    refine zhs ?_
    refine zbj ?_
    refine zbd ?_
    refine zc9 ?_
    refine zib ?_
    refine zcu ?_
    refine zhl ?_
    refine zi7 ?_
    refine zc7 ?_
    refine zjY ?_
    refine zbj ?_
    exact zdU
  ·have e : liesP y ⟨c, r, w⟩ = false := by simp [liesP, hm, h1]
   rw [e]
   refine zi5 ?_
   refine zb3 ?_; intro b3 b5
   refine zcB fun T hT => ?_
   refine zf5 ?_
   rintro _ _ ⟨rfl, rfl⟩
   refine zd ?_
   clear hT T
   refine zgD ?_
   refine zi6 ?_
   refine zo ?_
   refine zdK ?_
   refine zfs ?_
   refine zbk ?_
   refine zc9 ?_
   refine zib ?_
   refine zcu ?_
   refine zhl ?_
   refine zkd ?_
   refine zc7 ?_
   refine zke ?_
   refine zcS ?_
   refine zcv ?_
   refine zcv ?_
   refine zbD ?_
   refine za9 ?_
   exact zdU
end
open Go.RowKit
set_option maxRecDepth 10000
structure WpA where
 b6 : Nat
 vr : Value
 R : List RwD
 N : Heap
section
variable {w0 : World} {D F : Heap} {v : PlV} {vr : Value} {g : PlG} {R : List RwD} {t s : Nat} {x : List Int} {y : SlotP}
theorem has_slot {g : PlG} {s : Nat} {y : SlotP} (hy : g.L[s]? = some y) : decide (0 ≤ ((s : Nat) : Int) ∧ ((s : Nat) : Int) < (g.slots : Nat)) = true := by
 have := lt_of_get hy
 rw [L_len] at this
 exact decide_eq_true (by omega)
theorem rbHead_K (hB : BoD w0 D v vr g R) (hf : BoF g R t x) (hy : g.L[s]? = some y) :
  Call Tryz.prog w0 158 [.agg (boL v g vr t).toArray, .int .i64 (s : Nat)] (D ++ F) (fun r H' => r = headV (headP x y) ∧ H' = D ++ F) := by
 have ho := hB.m.o
 have q1 := hB.p.oL
 have q2 := hB.p.oF
 have q3 := hB.p.oM
 have q4 := hB.p.oC
 have hHas := fun A => rHas_K (w0 := w0) (D := D) (F := A) (n := (s : Nat)) hB.p hf.ok
 simp only [has_slot hy] at hHas
 obtain ⟨f1, f2, _⟩ := hf.ok.fits hy
 have hlx := hf.l
 have hal : y.addr + 0 < x.length := by omega
 have hload := fun A => rbload_K (w0 := w0) (D := D) (F := A) (i := 0) hB hf hy hal
 obtain ⟨w1, w2⟩ := hf.w.at_ y.addr
 obtain ⟨w, hw⟩ : ∃ w : Nat, wAt x y.addr = w := ⟨(wAt x y.addr).toNat, by omega⟩
 have hhead : headP x y = match getH w with | some h => if liesP y h then some h else none | none => none := by unfold headP; rw [hw]; rfl
 have hwl : w < 18446744073709551616 := by omega
 have hlies := fun A h => rblies_K (w0 := w0) (D := D) (F := A) (t := t) (h := h) hB hy
 simp only [Nat.add_zero, hw] at hload
 clear hw w1 w2
 unfold boL at *
 unfold plL at hHas
 refine Call.enter2 (n := 32) (by kernel_rfl) Tryz.func158 rfl rfl rfl ?_
 refine zcX ?_; intro b2 b4
 refine zeO fun T hT => ?_
 refine zd3 ?_
 clear hT T
 refine zaG ?_
 refine zz fun T hT => ?_
 refine (CallV.part (CallV.fn (hload _)) byPart).mono ?_
 refine ze ?_
 clear hT T
 refine zg fun T hT => ?_
 refine (CallV.fn (rGet_K hwl)).mono ?_
 rintro _ _ ⟨rfl, rfl⟩
 unfold hGetP
 cases hg : getH w with
 | none =>
  rw [hg] at hhead
  dsimp only at hhead ⊢
  unfold hdV
  dsimp only
  refine zd ?_
  clear hT T
  rw [hhead]
  unfold headV hdV
  refine zao ?_; intro b6
  refine zaP ?_
  refine zcl ?_
  refine z7 ?_
  exact zdp
 | some h =>
  rw [hg] at hhead
  dsimp only at hhead ⊢
  have hl1 := fun A => hlies A h
  obtain ⟨c, r, w⟩ := h
  unfold hdV at *
  dsimp only at *
  refine zd ?_
  clear hT T
  refine zao ?_; intro b6
  refine zD ?_
  refine zu ?_
  refine zB ?_
  refine zaF ?_
  refine zcm fun T hT => ?_
  refine (CallV.part (CallV.fn (hl1 _)) byPart).mono ?_
  refine zS ?_
  cases hl : liesP y ⟨c, r, w⟩ with
  | true =>
   rw [hl] at hhead
   simp only [if_true] at hhead
   refine zd ?_
   clear hT T
   rw [hhead]
   unfold headV hdV
   refine zbQ ?_
   refine zan ?_
   refine zcJ ?_
   exact zw
  | false =>
   rw [hl] at hhead
   simp only [Bool.false_eq_true, if_false] at hhead
   refine zd ?_
   clear hT T
   rw [hhead]
   unfold headV hdV
   refine zbe ?_
   refine zaz ?_
   exact zdp
theorem rbWipe_K (hB : BoD w0 D v vr g R) (hf : BoF g R t x) (hy : g.L[s]? = some y) :
  Call Tryz.prog w0 160 [.agg (boL v g vr t).toArray, .int .i64 (s : Nat)] (D ++ F) (fun r H' => ∃ (vr' : Value) (R' : List RwD) (N : Heap), BoD w0 (N ++ D) v vr' g R' ∧ rwX R' = (rwX R).set t (wipeP x y) ∧ r = .tuple [.agg (boL v g vr' t).toArray, .int .i64 0].toArray ∧ H' = N ++ (D ++ F)) := by
 obtain ⟨q, hq, hqx⟩ := hf.q
 subst hqx
 have hL := hB.p.L
 have ho := hB.m.o
 have q1 := hB.p.oL
 have q2 := hB.p.oF
 have q3 := hB.p.oM
 have q4 := hB.p.oC
 have hsl := lt_of_get hy
 have hfit := hf.ok.fits hy
 have hww := hf.ok.words
 have hlx := hf.l
 have hHas := fun A => rHas_K (w0 := w0) (D := D) (F := A) (n := (s : Nat)) hB.p hf.ok
 simp only [has_slot hy] at hHas
 unfold boL
 unfold plL at hHas
 refine Call.enter2 (n := 42) (by kernel_rfl) Tryz.func160 rfl rfl rfl ?_
 refine zcX ?_; intro b2 b4
 refine zeO fun T hT => ?_
 refine zd3 ?_
 clear hT T
 refine zF ?_
 refine zd9 ?_
 refine K.cutT (σ := WpA) [(2, _), (4, _)] bySub (fun s kp_ => (6, .pointer (some ⟨s.b6, 0, none⟩)) :: kp_) (fun s => s.N ++ ((s.b6, cells [s.vr] 40) :: (b2, cells [vr, .int .i64 (t : Nat), v.L, v.F, v.M, .int .i64 (g.words : Nat), v.C] 42) :: (b4, cells [.slice none 0 0, .int .i64 0, .slice none 0 0, .slice none 0 0, .slice none 0 0, .int .i64 0, .slice none 0 0] 42) :: (D ++ F))) (fun s => MemD w0 (s.N ++ D) s.vr s.R ∧ rwX s.R = (rwX R).set t (wipeP q.x y)) ?_ ?_
 ·skip
  refine zak ?_
  refine K.drawn ((b2, cells [vr, .int .i64 (t : Nat), v.L, v.F, v.M, .int .i64 (g.words : Nat), v.C] 42) :: D) [(0, 1), (1, 1), (2, 1), (3, 1), (4, 1), (5, 1), (6, 1), (7, 1), (8, 1), (9, 1), (10, 1), (11, 1), (12, 1), (13, 1), (14, 1), (15, 1), (16, 1), (17, 1), (18, 3), (19, 1), (20, 1), (21, 1), (22, 2), (23, 2), (24, 0)] (by kernel_rfl) (by kernel_rfl) (by kernel_rfl) (by kernel_rfl) (by kernel_rfl) (by kernel_rfl) byPart ?_
  refine zh4 ?_
  refine ze7 ?_
  refine zi4 ?_
  refine zaO ?_
  refine zef ?_
  refine zd4 ?_
  refine zfE ?_
  refine zef ?_
  refine zaO ?_
  refine zef ?_
  refine zd4 ?_
  refine zfE ?_
  refine zi4 ?_
  refine zaO ?_
  refine KD.fork2 (x := 18) (y := 22) (o1 := [(19, 1), (20, 1), (21, 1), (22, 2), (23, 2), (24, 0)]) (o2 := [(18, 2), (19, 0), (20, 0), (21, 1), (23, 2), (24, 0)]) (by kernel_rfl) rfl rfl (by kernel_rfl) (by kernel_rfl) ?_ ?_
  ·refine zcG fun T hT => ?_
   refine zlq ?_
   rintro _ _ ⟨vr', R', N, hM', hX, rfl, rfl⟩
   have ho' := hM'.o
   refine zi ?_
   clear hT T
   refine zO ?_
   refine zdG ?_
   refine zdG ?_
   refine zeI ?_; intro b6
   refine zdl ?_
   exact KE.meet ⟨b6, vr', R', N⟩ bySub byPart ⟨hM', hX⟩
  ·(refine ActK.e rfl (Eff.alloc rfl) ?_; rintro _ _ ⟨b6, rfl, rfl⟩; refine ⟨byPart, ?_⟩)
   refine zl fun T hT => ?_
   refine zlq ?_
   rintro _ _ ⟨vr', R', N, hM', hX, rfl, rfl⟩
   have ho' := hM'.o
   refine zi ?_
   clear hT T
   refine zb7 ?_
   refine zdl ?_
   exact KE.meet ⟨b6, vr', R', N⟩ bySub byPart ⟨hM', hX⟩
 ·rintro ⟨b6, vr', R', N⟩ ⟨hM', hX⟩
  dsimp only at hM' hX ⊢
  have ho' := hM'.o
  refine zq ?_
  refine zB ?_
  refine zU ?_
  refine za8 ?_
  refine zB ?_
  refine zaf ?_
  refine zgj ?_
  exact zlp
end
end Go.Proofs.YtalholahapcpkaaGreatDoor.Sw
