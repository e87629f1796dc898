/- The walker and the contracts that the law needs, part 26. -/
import Derived.Test.YtalholahapcpkaaGreatDoorD1
import Derived.Test.YtalholahapcpkaaGreatDoorJ24
import Derived.Test.YtalholahapcpkaaGreatDoorJ25
namespace Go.Proofs.YtalholahapcpkaaGreatDoor.Sw
open Go.Proofs.YtalholahapcpkaaGreatDoor renaming lo → qL, hi → qH
open Go.RowKit
set_option linter.unusedVariables false
set_option linter.unusedSimpArgs false
set_option maxRecDepth 10000
section
variable {w0 : World} {D F : Heap} {v : PlV} {vr : Value} {g : PlG} {R : List RwD} {t s : Nat} {x : List Int} {y : SlotP}
theorem rbfield_K {ref : Bool} {i : Int} (hB : BoD w0 D v vr g R) (hf : BoF g R t x) (hy : g.L[s]? = some y) :
  Call Tryz.prog w0 163 [.agg (boL v g vr t).toArray, .int .i64 (s : Nat), .int .i64 i, .bool ref] (D ++ F) (fun r H' => r = .int .i64 (fldP x y ref i) ∧ H' = D ++ F) := by
 have ho := hB.m.o
 have q1 := hB.p.oL
 have q2 := hB.p.oF
 have q3 := hB.p.oM
 have q4 := hB.p.oC
 have hhead := fun A => rbHead_K (w0 := w0) (D := D) (F := A) hB hf hy
 have hfl : fldP x y ref i = match headP x y with | none => 5 | some h => if 0 ≤ i ∧ i < h.r + h.w ∧ decide (i < h.r) = ref then 0 else 110 := rfl
 have hhm : ∀ h, headP x y = some h → mayH h = true := fun h e => (lies_of (headP_of e).2).1
 unfold headV at hhead
 unfold boL at *
 cases hh : headP x y with
 | none =>
  rw [hh] at hfl
  simp only [hh] at hhead
  dsimp only at hfl
  rw [hfl]
  unfold hdV at hhead
  dsimp only at hhead
  refine zic ?_
  refine zW ?_; intro b4
  refine zz fun T hT => ?_
  refine zbT ?_
  clear hT T
  refine zao ?_; intro b9
  refine zcU ?_
  exact zar
 | some h =>
  rw [hh] at hfl
  simp only [hh] at hhead
  dsimp only at hfl
  have hm := hhm h hh
  have hF := fun A => rField_K (w0 := w0) (H := A) (h := h) (i := i)
  have hfd : fieldH h i = if i < 0 ∨ i ≥ h.r + h.w then (false, 110) else (decide (i < h.r), 0) := by unfold fieldH; rw [if_pos hm]
  obtain ⟨c, r, w⟩ := h
  unfold hdV at *
  dsimp only at *
  clear hhm
  by_cases h1 : i < 0 ∨ i ≥ r + w
  ·rw [if_pos h1] at hfd
   rw [if_neg (by omega)] at hfl
   simp only [hfd] at hF
   rw [hfl]
   refine zic ?_
   refine zW ?_; intro b4
   refine zz fun T hT => ?_
   refine zbT ?_
   clear hT T
   refine zao ?_; intro b9
   refine zaB ?_
   refine zz fun T hT => ?_
   refine zho ?_
   rintro _ _ ⟨rfl, rfl⟩
   refine zd ?_
   clear hT T
   refine zG ?_
   refine zaP ?_
   refine zge ?_
   refine z7 ?_
   exact zar
  ·rw [if_neg h1] at hfd
   simp only [hfd] at hF
   by_cases h2 : decide (i < r) = ref
   ·rw [if_pos ⟨by omega, by omega, h2⟩] at hfl
    rw [hfl]
    subst h2
    have hbn : (decide (i < r) != decide (i < r)) = false := by simp
    refine zic ?_
    refine zW ?_; intro b4
    refine zz fun T hT => ?_
    refine zbT ?_
    clear hT T
    refine zao ?_; intro b9
    refine zaB ?_
    refine zz fun T hT => ?_
    refine zho ?_
    rintro _ _ ⟨rfl, rfl⟩
    refine zd ?_
    clear hT T
    refine zG ?_
    refine zeu ?_
    refine zf6 ?_
    refine zn ?_
    refine zb9 ?_
    rw [hbn]
    refine K.condF rfl (K.skip (KE.next (K.seq (K.region ?_))))
    exact zw
   ·rw [if_neg (by intro h; exact h2 h.2.2)] at hfl
    rw [hfl]
    have hbn : (decide (i < r) != ref) = true := by
     cases hd : decide (i < r) <;> cases ref <;> simp_all
    refine zic ?_
    refine zW ?_; intro b4
    refine zz fun T hT => ?_
    refine zbT ?_
    clear hT T
    refine zao ?_; intro b9
    refine zaB ?_
    refine zz fun T hT => ?_
    refine zho ?_
    rintro _ _ ⟨rfl, rfl⟩
    refine zd ?_
    clear hT T
    refine zG ?_
    refine zeu ?_
    refine zf6 ?_
    refine zn ?_
    refine zb9 ?_
    rw [hbn]
    refine K.condT rfl (K.seq (K.region ?_))
    exact zar
theorem rbMake_K {h : HdP} (hB : BoD w0 D v vr g R) (hf : BoF g R t x) (hy : g.L[s]? = some y) :
  Call Tryz.prog w0 71 [.agg (boL v g vr t).toArray, .int .i64 (s : Nat), hdV h] (D ++ F) (fun r H' => ∃ (vr' : Value) (R' : List RwD) (N : Heap), BoD w0 (N ++ D) v vr' g R' ∧ rwX R' = (rwX R).set t (makeP x y h).2 ∧ r = .tuple [.agg (boL v g vr' t).toArray, .int .i64 (makeP x y h).1].toArray ∧ H' = N ++ (D ++ F)) := by
 have ho := hB.m.o
 have q1 := hB.p.oL
 have q2 := hB.p.oF
 have q3 := hB.p.oM
 have q4 := hB.p.oC
 have hself := hf.self
 have hfit := hf.ok.fits hy
 have hww := hf.ok.words
 have hlx := hf.l
 have hHas := fun A => rHas_K (w0 := w0) (D := D) (F := A) (n := (s : Nat)) hB.p hf.ok
 simp only [has_slot hy] at hHas
 have hhead := fun A => rbHead_K (w0 := w0) (D := D) (F := A) hB hf hy
 have hwipe := fun A => rbWipe_K (w0 := w0) (D := D) (F := A) hB hf hy
 have hlies := fun A => rblies_K (w0 := w0) (D := D) (F := A) (t := t) (h := h) hB hy
 have hput := fun A => rPut_K (w0 := w0) (H := A) (h := h)
 have hmk : makeP x y h = if liesP y h then (if (headP x y).isSome then (8, x) else (0, (wipeP x y).set y.addr (putW h))) else (2, x) := rfl
 have hpw : putW h = (putN h.c.toNat h.r.toNat h.w.toNat : Nat) := rfl
 have hlm := fun e => (lies_of (p := y) (h := h) e).1
 have hpp : mayH h = true → putP h = .tuple [.int .u64 (putW h), .int .i64 0].toArray := fun e => by unfold putP; rw [if_pos e]; rfl
 obtain ⟨pw, hpw'⟩ : ∃ pw, pw = putW h := ⟨_, rfl⟩
 rw [← hpw'] at hmk hpp
 obtain ⟨mk, hmk'⟩ : ∃ mk, mk = makeP x y h := ⟨_, rfl⟩
 rw [← hmk'] at hmk ⊢
 obtain ⟨li, hli⟩ : ∃ li, li = liesP y h := ⟨_, rfl⟩
 rw [← hli] at hmk hlm
 simp only [← hli] at hlies
 obtain ⟨c, r, w⟩ := h
 unfold hdV boL at *
 unfold plL at hHas
 dsimp only at *
 clear hpw hpw' hmk' hli
 cases li with
 | false =>
  simp only [Bool.false_eq_true, if_false] at hmk
  rw [hmk]
  dsimp only
  refine zkf ?_
  refine zjK ?_; intro b3 b5 b6
  refine zeO fun T hT => ?_
  refine zd3 ?_
  clear hT T
  refine zF ?_
  refine zu ?_
  refine zB ?_
  refine zaF ?_
  refine zcm fun T hT => ?_
  refine ziZ ?_
  refine ze ?_
  clear hT T
  refine zbe ?_
  refine zaz ?_
  refine zbg ?_
  exact zid
 | true =>
  simp only [if_true] at hmk
  unfold headV hdV at hhead
  cases hh : headP x y with
  | some h' =>
   rw [hh] at hmk
   simp only [hh] at hhead
   simp only [Option.isSome, if_true] at hmk
   obtain ⟨c', r', w'⟩ := h'
   dsimp only at hhead
   rw [hmk]
   dsimp only
   refine zkf ?_
   refine zjK ?_; intro b3 b5 b6
   refine zeO fun T hT => ?_
   refine zd3 ?_
   clear hT T
   refine zF ?_
   refine zu ?_
   refine zB ?_
   refine zaF ?_
   refine zcm fun T hT => ?_
   refine ziZ ?_
   refine ze ?_
   clear hT T
   refine zbQ ?_
   refine zan ?_
   refine zz fun T hT => ?_
   refine zbT ?_
   clear hT T
   refine zao ?_; intro b8
   refine zY ?_
   refine zI ?_
   refine zbg ?_
   exact zid
  | none =>
   rw [hh] at hmk
   simp only [hh] at hhead
   simp only [Option.isSome, Bool.false_eq_true, if_false] at hmk
   rw [hmk]
   dsimp only
   simp only [hpp (hlm rfl)] at hput
   refine zkf ?_
   refine zjK ?_; intro b3 b5 b6
   refine zeO fun T hT => ?_
   refine zd3 ?_
   clear hT T
   refine zF ?_
   refine zu ?_
   refine zB ?_
   refine zaF ?_
   refine zcm fun T hT => ?_
   refine ziZ ?_
   refine ze ?_
   clear hT T
   refine zbQ ?_
   refine zan ?_
   refine zz fun T hT => ?_
   refine zbT ?_
   clear hT T
   refine zao ?_; intro b8
   refine zH ?_
   refine zM ?_
   refine zp fun T hT => ?_
   refine (CallV.fn (hput _)).mono ?_
   rintro _ _ ⟨rfl, rfl⟩
   refine zd ?_
   clear hT T
   refine zbw ?_
   refine zz fun T hT => ?_
   refine (CallV.part (CallV.fn (hwipe _)) byPart).mono ?_
   rintro _ _ ⟨vr1, R1, N1, hB1, hX1, rfl, rfl⟩
   have ho1 := hB1.m.o
   have hf1 := hf.next hX1 (wipe_len (by omega)) (WdOk.cleared hf.w)
   have hst := fun A => rbstore_K (w0 := w0) (D := N1 ++ D) (F := A) (i := 0) (w := pw) hB1 hf1 hy (by have := hf1.l; omega)
   unfold boL at hst
   refine zd ?_
   clear hT T
   refine zai ?_
   refine zcj ?_
   refine zaC fun T hT => ?_
   refine (CallV.part (CallV.fn (hst _)) (by rw [List.append_assoc]; exact byPart)).mono ?_
   rintro _ _ ⟨vr2, R2, N2, hB2, hX2, rfl, rfl⟩
   have ho2 := hB2.m.o
   rw [hX1, List.set_set] at hX2
   rw [← List.append_assoc] at hB2
   refine zd ?_
   clear hT T
   refine zgj ?_
   exact KE.fin (H' := (N2 ++ N1) ++ (D ++ F)) byMarks rfl byRes (by simp only [List.append_assoc]; exact byPart) ⟨vr2, R2, N2 ++ N1, hB2, hX2, rfl, rfl⟩
end
set_option maxRecDepth 10000
structure RnS where
 k : Nat
 oo : Own
 R : List RwD
 N : Heap
theorem rmNew_K {w0 : World} {F : Heap} {c : Cfg} {vc vt : Value} (hR : CfgR w0 F c vc vt) (hc : cfgP c = true) :
  Call Tryz.prog w0 64 [cfgV c vc vt] F (fun r H' => ∃ (vr : Value) (R : List RwD) (N : Heap), MemD w0 N vr R ∧ rwX R = mR (fun t => wordsP c (t : Nat)) c.tn.length ∧ r = .agg [vr].toArray ∧ H' = N ++ F) := by
 have hok := (cfg_ok hc).tn
 have hB := fun k (hk : k < c.tn.length) => words_le hc hk
 have hreg := fun A (k : Nat) (hk : k < c.tn.length) (hp : Part A F) => rRegion_K (t := (k : Nat)) (hR.part hp)
 have hrin := fun k (hk : k < c.tn.length) => region_in hc hk
 obtain ⟨f, hf⟩ : ∃ f : Nat → Int, f = fun i => wordsP c (i : Nat) := ⟨_, rfl⟩
 have hfi : ∀ i : Nat, wordsP c (i : Nat) = f i := fun i => by rw [hf]
 simp only [hfi] at hB hrin ⊢
 obtain ⟨hS, hT', o1, o2, l1, l2⟩ := hR
 obtain ⟨cl, page, tn, workers, grey, gens⟩ := c
 dsimp only at hS hT' l1 l2 hok hB hreg hrin ⊢
 simp only [cfgV, cfgL, prV] at hreg ⊢
 clear hf hfi hc
 refine Call.enter1 (n := 28) (by kernel_rfl) Tryz.func64 rfl rfl rfl ?_
 refine zaq ?_; intro b1 b2
 refine zy ?_
 refine zaI ?_; intro b3
 refine zbM ?_
 refine zaE ?_
 refine K.loopT (σ := RnS) [(1, _), (2, _), (3, _)] (fun s kp_ => (4, .int .i64 (s.k : Nat)) :: kp_) (fun s => (s.N ++ (oH rwE 54 s.R s.oo ++ ((b3, cells [oV s.oo s.R.length] 40) :: (b1, cells [vc, .int .i64 page, vt, .int .i64 workers, .int .i64 grey, .int .i64 gens] 25) :: (b2, cells [.slice none 0 0] 40) :: F)))) (fun s => s.k ≤ tn.length ∧ oOk rwE s.R s.oo ∧ rwX s.R = mR f s.k ∧ ∀ q' ∈ s.R, Sli w0 s.N uE (.slice q'.a q'.n q'.c) q'.x) (fun s => tn.length - s.k) (⟨0, none, [], []⟩) bySub byPart (⟨Nat.zero_le _, rfl, rfl, fun q' h => by cases h⟩) ?_
 rintro ⟨k, oo, R1, N1⟩ ⟨hk, hoo, hX1, hs1⟩
 dsimp only at hk hoo hX1 hs1 ⊢
 have hR1 : R1.length = k := by have := congrArg List.length hX1; simpa [rwX, mR_len] using this
 by_cases hlt : k < tn.length
 ·have hreg1 := fun A hp => hreg A k hlt hp
  have hbk := hB k hlt
  obtain ⟨n, hn⟩ : ∃ n : Nat, f k = n := ⟨(f k).toNat, by omega⟩
  simp only [hrin k hlt, hn] at hreg1
  rw [hn] at hbk
  have hXs : mR f (k + 1) = mR f k ++ [List.replicate n 0] := by simp [mR, List.range_succ, hn]
  clear hreg hrin hB
  refine zv ?_
  refine zas ?_
  refine za3 ?_
  refine zz fun T hT => ?_
  refine (CallV.fn (hreg1 _ byPart)).mono ?_
  rintro _ _ ⟨rfl, rfl⟩
  refine zd ?_
  clear hT T
  refine zag ?_
  refine za0 ?_
  refine zak ?_
  (first | refine K.seq (K.drawn ([]) [(0, 0), (1, 0), (2, 0), (3, 5), (4, 5), (5, 2), (6, 0), (7, 2)] (by kernel_rfl) (by kernel_rfl) (by kernel_rfl) (by kernel_rfl) (by kernel_rfl) (by kernel_rfl) byPart ?_) | refine K.seq (K.seq (K.drawn ([]) [(0, 0), (1, 0), (2, 0), (3, 5), (4, 5), (5, 2), (6, 0), (7, 2)] (by kernel_rfl) (by kernel_rfl) (by kernel_rfl) (by kernel_rfl) (by kernel_rfl) (by kernel_rfl) byPart ?_)) | refine K.drawn ([]) [(0, 0), (1, 0), (2, 0), (3, 5), (4, 5), (5, 2), (6, 0), (7, 2)] (by kernel_rfl) (by kernel_rfl) (by kernel_rfl) (by kernel_rfl) (by kernel_rfl) (by kernel_rfl) byPart ?_)
  refine zgW ?_
  refine zax ?_
  refine zo ?_
  refine KD.eM rfl rfl (Eff.makeR (E := uE) (x0 := 0) rfl rfl rfl rfl rfl rfl (by first | assumption | omega | (simp <;> fail) | (simp; omega))) ?_; rintro _ _ ⟨o23, ok23, rfl, rfl⟩; refine ⟨byPart, ?_⟩
  refine KD.eM rfl rfl (Eff.buildS byParts rfl rfl rfl rfl rfl byFill) ?_; rintro _ _ ⟨b24, rfl, rfl⟩
  refine zcD ?_
  -- STOP before op 5
  cases o23 with
  | none =>
   have hr0 : List.replicate n (0 : Int) = [] := ok23
   have hn0 : n = 0 := by simpa using congrArg List.length hr0
   subst hn0
   have hbd : (R1 ++ [(⟨none, 0, 0, List.replicate 0 0⟩ : RwD)]).length ≤ 4294967296 := by simp; omega
   have hS1 : Sli w0 [(b24, cells (flat rwE [(⟨none, 0, 0, List.replicate 0 0⟩ : RwD)]) 54)] rwE (.slice (some ⟨b24, 0, none⟩) 1 1) [(⟨none, 0, 0, List.replicate 0 0⟩ : RwD)] := Sli.blk Take.head rfl (by simp) (by decide) rfl
   refine KD.e rfl rfl (Eff.appZ (E := rwE) (xs := R1) (o := oo) (ys := [⟨none, 0, 0, List.replicate 0 0⟩]) (zs := R1 ++ [⟨none, 0, 0, List.replicate 0 0⟩]) rfl rfl rfl rfl rfl rfl byTakeL (by assumption) (by first | exact Sli.blk byTake rfl (by first | decide | simp) (by first | decide | (unfold maxLen; omega)) rfl | exact Sli.old (by assumption) | exact Sli.own byTakeL (by assumption) byLen | assumption | exact Sli.part (by assumption) byPart) (rfl) (by first | assumption | omega | (simp <;> fail) | (simp; omega)) rfl) ?_; rintro _ _ ⟨o', ok', rfl, rfl⟩; refine ⟨byPart, ?_⟩
   refine zgW ?_
   (first | (refine KD.eN rfl (Eff.storeL rfl rfl byOne rfl byTake bySetAt) ?_; rintro _ _ rfl; refine ⟨byPart, ?_⟩) | (refine KD.eN rfl (Eff.stSl rfl rfl rfl rfl byTakeL (by assumption) (by assumption) rfl rfl) ?_; rintro _ _ rfl; refine ⟨byPart, ?_⟩) | (refine KD.eN rfl (Eff.stSl0 rfl rfl rfl rfl byTakeL (by assumption) (by assumption) rfl rfl) ?_; rintro _ _ rfl; refine ⟨byPart, ?_⟩))
   refine zV ?_
   refine zbq ?_
   exact KE.again ⟨k + 1, o', R1 ++ [⟨none, 0, 0, List.replicate 0 0⟩], oH uE 64 (List.replicate 0 0) none ++ N1⟩ bySub byPart ⟨hlt, ok', by show rwX _ = _; rw [hXs, ← hX1]; simp [rwX], fun q2 h2 => by
    rcases List.mem_append.1 h2 with h2 | h2
    ·exact (hs1 q2 h2).part byPart
    ·rw [List.mem_singleton.1 h2]; exact Sli.own (o := none) byTakeL rfl rfl⟩ (by show tn.length - (k + 1) < tn.length - k; omega)
  | some ob =>
   have hbd : (R1 ++ [(⟨some ⟨ob.b, 0, none⟩, (List.replicate n (0 : Int)).length, ob.c, List.replicate n 0⟩ : RwD)]).length ≤ 4294967296 := by simp; omega
   have hS1 : Sli w0 [(b24, cells (flat rwE [(⟨some ⟨ob.b, 0, none⟩, (List.replicate n (0 : Int)).length, ob.c, List.replicate n 0⟩ : RwD)]) 54)] rwE (.slice (some ⟨b24, 0, none⟩) 1 1) [(⟨some ⟨ob.b, 0, none⟩, (List.replicate n (0 : Int)).length, ob.c, List.replicate n 0⟩ : RwD)] := Sli.blk Take.head rfl (by simp) (by decide) rfl
   refine KD.e rfl rfl (Eff.appZ (E := rwE) (xs := R1) (o := oo) (ys := [⟨some ⟨ob.b, 0, none⟩, (List.replicate n (0 : Int)).length, ob.c, List.replicate n 0⟩]) (zs := R1 ++ [⟨some ⟨ob.b, 0, none⟩, (List.replicate n (0 : Int)).length, ob.c, List.replicate n 0⟩]) rfl rfl rfl rfl rfl rfl byTakeL (by assumption) (by first | exact Sli.blk byTake rfl (by first | decide | simp) (by first | decide | (unfold maxLen; omega)) rfl | exact Sli.old (by assumption) | exact Sli.own byTakeL (by assumption) byLen | assumption | exact Sli.part (by assumption) byPart) (rfl) (by first | assumption | omega | (simp <;> fail) | (simp; omega)) rfl) ?_; rintro _ _ ⟨o', ok', rfl, rfl⟩; refine ⟨byPart, ?_⟩
   -- nothing is left
   refine zaV ?_
   refine zd5 ?_
   refine zbq ?_
   exact KE.again ⟨k + 1, o', R1 ++ [⟨some ⟨ob.b, 0, none⟩, (List.replicate n (0 : Int)).length, ob.c, List.replicate n 0⟩], oH uE 64 (List.replicate n 0) (some ob) ++ N1⟩ bySub byPart ⟨hlt, ok', by show rwX _ = _; rw [hXs, ← hX1]; simp [rwX], fun q2 h2 => by
    rcases List.mem_append.1 h2 with h2 | h2
    ·exact (hs1 q2 h2).part byPart
    ·rw [List.mem_singleton.1 h2]; exact Sli.own byTakeL ok23 rfl⟩ (by show tn.length - (k + 1) < tn.length - k; omega)
 ·have hke : k = tn.length := by omega
  subst hke
  refine zv ?_
  refine zas ?_
  refine zfx ?_
  refine zbx ?_
  exact KE.fin (H' := (N1 ++ oH rwE 54 R1 oo) ++ F) byMarks rfl byRes (by rw [List.append_assoc]; exact byPart) ⟨oV oo R1.length, R1, _, ⟨Sli.own (H := (N1 ++ oH rwE 54 R1 oo)) byTakeL hoo rfl, oV_one _ _, fun q2 h2 => (hs1 q2 h2).part byPart⟩, hX1, rfl, rfl⟩
set_option maxRecDepth 10000
section
variable {w0 : World} {D F : Heap} {v : PlV} {vr va vd vc : Value} {g : PlG} {R : List RwD} {A Ds : List Bool} {C : List Int} {t s : Nat} {x : List Int} {y : SlotP} {ka : Bool} {kat : Nat}
end
open Go.RowKit
set_option maxRecDepth 10000
set_option maxRecDepth 10000
structure WoM where
 sp : SpM
 a : ArM
 B : BoM
 k : MkM
 v : PlV
 va : Value
 vr : Value
 R : List RwD
 vc : Value
 ka : Bool
 kat : Nat
 vd : Value
 D : Heap
namespace WoM
def g (W : WoM) : PlG := W.B.p.g
end WoM
def woL (W : WoM) : List Value := [.pointer (some ⟨W.B.m.b, 0, none⟩), .pointer (some ⟨W.a.b, 0, none⟩), .pointer (some ⟨W.B.b, 0, none⟩), .pointer (some ⟨W.k.b, 0, none⟩), .pointer (some ⟨W.sp.b, 0, none⟩),
 W.v.L, W.v.F, W.v.M, .int .i64 (W.B.p.g.words : Nat), W.v.C, W.va, W.vr, .int .i64 ((0 : Nat) : Int), W.v.L, W.v.F, W.v.M, .int .i64 (W.B.p.g.words : Nat), W.v.C, W.vc, .bool W.ka, .int .i64 (W.kat : Nat), W.vd]
structure WoR (w0 : World) (W : WoM) (s : SwP) : Prop where
 ok : SwOk W.B.p.g s
 sp : SpOk W.sp W.B.p.g.slots
 ar : ArOk W.a W.B.p
 bo : BoOk W.B s.x
 mK : MkOk W.k W.B.p
 e1 : W.sp.ab = W.a.b
 e2 : W.sp.bb = W.B.b
 e3 : W.sp.mb = W.k.b
 A : W.a.r.bs = s.A
 R : W.B.m.R = s.R
 t : W.B.t = 0
 C : tiC W.k.c = s.C
 act : W.k.act = true
 sact : W.sp.act = s.act
 sat : W.sp.at_ = s.at_
 sD : W.sp.d.bs = s.D
 dA : ArD w0 W.D W.v W.va W.B.p.g s.A
 dM : MemD w0 W.D W.vr W.R
 dR : rwX W.R = s.R
 dC : Sli w0 W.D bE W.vc s.C
 oC : W.vc.oneCell' = true
 oD : W.vd.oneCell' = true
 n : s.R.length ≤ 1000
set_option maxRecDepth 10000
def okC (c : Cfg) : Bool := smallP c && (decide ((totalP c).1 ≤ 2000) && cfgP c)
set_option maxRecDepth 10000
section
variable {w0 : World} {s : SwP} {sp : SpM} {a a' : ArM} {B : BoM} {k k' : MkM} {v : PlV} {va vr vc vd va' vr' vc' vd' : Value} {R R' : List RwD} {ka ka' : Bool} {kat kat' : Nat} {D D' : Heap}
end
section
variable {w0 : World} {F : Heap} {W : WoM} {s : SwP} {what : Nat} {n : Int}
end
open Go.RowKit
set_option maxRecDepth 10000
section
variable {w0 : World} {s s' : SwP} {sp : SpM} {a a' : ArM} {B : BoM} {k k' : MkM} {v : PlV} {va vr vc vd va' vr' vc' vd' : Value} {R R' : List RwD} {ka ka' : Bool} {kat kat' : Nat} {D D' : Heap}
end
section
variable {w0 : World} {F : Heap} {W : WoM} {s : SwP} {what : Nat} {n : Int}
end
set_option maxRecDepth 10000
section
variable {w0 : World} {F : Heap} {W : WoM} {s : SwP} {what : Nat} {n : Int}
end
set_option maxRecDepth 10000
structure WpR (W : WoM) (s : SwP) : Prop where
 ok : SwOk W.B.p.g s
 sp : SpOk W.sp W.B.p.g.slots
 ar : ArOk W.a W.B.p
 bo : BoOk W.B s.x
 mK : MkOk W.k W.B.p
 e1 : W.sp.ab = W.a.b
 e2 : W.sp.bb = W.B.b
 e3 : W.sp.mb = W.k.b
 A : W.a.r.bs = s.A
 R : W.B.m.R = s.R
 t : W.B.t = 0
 C : tiC W.k.c = s.C
 act : W.k.act = true
 sact : W.sp.act = s.act
 sat : W.sp.at_ = s.at_
 sD : W.sp.d.bs = s.D
 n : s.R.length ≤ 1000
theorem WoR.p {w0 : World} {W : WoM} {s : SwP} (h : WoR w0 W s) : WpR W s := ⟨h.ok, h.sp, h.ar, h.bo, h.mK, h.e1, h.e2, h.e3, h.A, h.R, h.t, h.C, h.act, h.sact, h.sat, h.sD, h.n⟩
structure Wsame (W W' : WoM) : Prop where
 L : woL W' = woL W
 D : W'.D = W.D
 g : W'.B.p.g = W.B.p.g
 sp : W'.sp.b = W.sp.b
 a : W'.a.b = W.a.b
 m : W'.B.m.b = W.B.m.b
theorem Wsame.refl {W : WoM} : Wsame W W := ⟨rfl, rfl, rfl, rfl, rfl, rfl⟩
theorem Wsame.trans {W W' W'' : WoM} (h : Wsame W W') (h' : Wsame W' W'') : Wsame W W'' := ⟨h'.L.trans h.L, h'.D.trans h.D, h'.g.trans h.g, h'.sp.trans h.sp, h'.a.trans h.a, h'.m.trans h.m⟩
theorem Call.post {P : Program} {w0 : World} {f : FuncId} {args : List Value} {H : Heap} {R R' : Value → Heap → Prop} (h : Call P w0 f args H R) (hr : ∀ v H1, R v H1 → ∃ H2, R' v H2 ∧ Part H1 H2) : Call P w0 f args H R' :=
 ⟨h.ent, fun w hw => (h.out w hw).mono (by
  rintro e w' ⟨v, H1, he, hh, hR⟩
  obtain ⟨H2, h2, hp⟩ := hr _ _ hR
  exact ⟨v, H2, he, hh.part hp, h2⟩)⟩
section
variable {w0 : World} {F : Heap} {W : WoM} {s : SwP}
structure WoO (W : WoM) : Prop where
 q1 : W.v.L.oneCell' = true
 q2 : W.v.F.oneCell' = true
 q3 : W.v.M.oneCell' = true
 q4 : W.v.C.oneCell' = true
 q5 : W.va.oneCell' = true
 q6 : W.vr.oneCell' = true
 q7 : W.vc.oneCell' = true
 q8 : W.vd.oneCell' = true
theorem WoR.o (hW : WoR w0 W s) : WoO W := ⟨hW.dA.p.oL, hW.dA.p.oF, hW.dA.p.oM, hW.dA.p.oC, hW.dA.o, hW.dM.o, hW.oC, hW.oD⟩
end
open Go.RowKit
set_option maxRecDepth 100000
structure ActP where
 w : Nat
 n : Int
def awC : Cfg := ⟨[2, 4], 8, [⟨20, 8, 4, 1⟩, ⟨4, 1, 1, 0⟩], 1, 2, 3⟩
def awG : PlG := gOf awC 0
set_option maxRecDepth 10000
set_option maxRecDepth 10000
section
variable {w0 : World} {F : Heap} {B : BoM} {x : List Int} {s : Nat} {y : SlotP}
theorem bload_K {ref : Bool} {i : Int} (hG : Glob w0) (ok : BoOk B x) (hy : B.p.g.L[s]? = some y) :
  Call Tryz.prog w0 283 [.pointer (some ⟨B.b, 0, none⟩), .bool ref, .int .i64 (s : Nat), .int .i64 i] (bodyH B ++ (memH B.m ++ (planH B.p ++ F)))
   (fun r H' => r = .tuple [.int .u64 (if fldP x y ref i = 0 then wAt x (fAt y i) else 0), .int .i64 (fldP x y ref i)].toArray ∧ H' = bodyH B ++ (memH B.m ++ (planH B.p ++ F))) := by
 have okm := ok.m
 have hr := ok.r
 obtain ⟨f1, f2, f3, _⟩ := ok.p.g.fits hy
 have hin := fun (e : fldP x y ref i = 0) => fld_in e
 have hn := ok.n
 refine Call.enter4 (n := 18) (by kernel_rfl) Tryz.func283 rfl rfl rfl ?_
 refine zaq ?_; intro b4 b8
 refine zr ?_
 refine zk ?_
 refine zbI ?_
 refine zby fun T hT => ?_
 refine (CallV.part (CallV.fn (bat_K (F := (b4, cells [.pointer (some ⟨B.b, 0, none⟩)] 29) :: (b8, cells [.int .u64 0] 64) :: F) (ref := ref) (i := i) (g := 298) (cap := [.pointer (some ⟨b4, 0, none⟩), .pointer (some ⟨b8, 0, none⟩)])
  (B1 := bodyH B ++ (memH B.m ++ (planH B.p ++ ((b4, cells [.pointer (some ⟨B.b, 0, none⟩)] 29) :: (b8, cells [.int .u64 (wAt x (fAt y i))] 64) :: F)))) hG ok hy ?_)) byPart).mono ?_
 ·intro e A
  obtain ⟨q1, q2, q3⟩ := hin e
  have hwx := wAt_get (x := x) (a := fAt y i) (by rw [hn]; omega)
  refine CallV.clo (cap := [.pointer (some ⟨b4, 0, none⟩), .pointer (some ⟨b8, 0, none⟩)]) ?_
  refine Call.enter3 (n := 17) (by kernel_rfl) Tryz.func298 rfl rfl rfl ?_
  rw [bodyH_app]
  refine K.drawn _ [(0, 0), (1, 0), (2, 0), (3, 0), (4, 0), (5, 0), (6, 0), (7, 0), (8, 0), (9, 2), (10, 0), (11, 0), (12, 1), (13, 2)] (by kernel_rfl) (by kernel_rfl) (by kernel_rfl) (by kernel_rfl) (by kernel_rfl) (by kernel_rfl) (Part.takeA TakeL.head (Part.takeA TakeL.head (Part.takeA TakeL.head (Part.takeA TakeL.head (Part.take Take.head (Part.drop Part.all)))))) ?_
  refine zx ?_
  refine zca ?_
  refine zaV ?_
  refine zx ?_
  refine zx ?_
  refine zca ?_
  refine zfX ?_
  refine zb5 ?_
  refine zl fun T hT => ?_
  refine (CallV.part (CallV.fn (Load_K okm hr hwx)) byPart).mono ?_
  refine zab ?_
  clear hT T
  refine zb7 ?_
  refine zd5 ?_
  exact KE.finN byMarks rfl byRes (by rw [bodyH_app]; exact byPart) ⟨rfl, rfl⟩
 ·refine zS ?_
  by_cases e : fldP x y ref i = 0
  ·rw [if_pos e]
   refine zd ?_
   clear hT T
   simp only [if_pos e]
   refine zr ?_
   refine zbo ?_
   refine zN ?_
   exact zw
  ·rw [if_neg e]
   refine zd ?_
   clear hT T
   simp only [if_neg e]
   refine zr ?_
   refine zbo ?_
   refine zN ?_
   exact zw
theorem bRef_K {i : Int} (hG : Glob w0) (ok : BoOk B x) (hy : B.p.g.L[s]? = some y) :
  Call Tryz.prog w0 254 [.pointer (some ⟨B.b, 0, none⟩), .int .i64 (s : Nat), .int .i64 i] (bodyH B ++ (memH B.m ++ (planH B.p ++ F)))
   (fun r H' => r = .tuple [.int .i64 (refP x B.p.g.slots y i).1, .int .i64 (refP x B.p.g.slots y i).2].toArray ∧ H' = bodyH B ++ (memH B.m ++ (planH B.p ++ F))) := by
 have okp := ok.p
 have hs := okp.g.slots
 have hw := ok.w.at_ (fAt y i)
 obtain ⟨e, he⟩ : ∃ e, fldP x y true i = e := ⟨_, rfl⟩
 obtain ⟨v, hv⟩ : ∃ v, wAt x (fAt y i) = v := ⟨_, rfl⟩
 have hl := fun A => bload_K (w0 := w0) (F := A) (ref := true) (i := i) hG ok hy
 unfold refP
 rw [he] at hl ⊢
 rw [hv] at hw hl ⊢
 by_cases h0 : e = 0
 ·subst h0
  simp only [if_true] at hl ⊢
  by_cases hgt : v > (B.p.g.slots : Nat)
  ·rw [if_pos hgt]
   have hgt' : ((B.p.g.slots : Nat) : Int) < v := hgt
   refine zkg ?_
   refine zhL ?_
   refine zj ?_
   refine zh fun T hT => ?_
   refine zk5 ?_
   clear hT T
   refine zag ?_
   refine zgq ?_
   refine zD ?_
   refine zdg ?_
   refine zeK ?_
   refine zas ?_
   refine zg fun T hT => ?_
   refine ze4 ?_
   refine ze ?_
   clear hT T
   refine zbX ?_
   refine zcb ?_
   exact zeH
  ·rw [if_neg hgt]
   have hgt' : ¬ v > ((B.p.g.slots : Nat) : Int) := hgt
   refine zkg ?_
   refine zhL ?_
   refine zj ?_
   refine zh fun T hT => ?_
   refine zk5 ?_
   clear hT T
   refine zag ?_
   refine zgq ?_
   refine zD ?_
   refine zdg ?_
   refine zeK ?_
   refine zas ?_
   refine zg fun T hT => ?_
   refine ze4 ?_
   refine ze ?_
   clear hT T
   refine zbX ?_
   refine zae ?_
   refine zdu ?_
   refine zf ?_
   refine zbX ?_
   refine zbi ?_
   exact za4
 ·simp only [if_neg h0] at hl ⊢
  refine zkg ?_
  refine zhL ?_
  refine zj ?_
  refine zh fun T hT => ?_
  refine zk5 ?_
  clear hT T
  refine zag ?_
  refine zgq ?_
  refine zaP ?_
  refine zg6 ?_
  refine zf ?_
  refine zkQ ?_
  exact zaU
theorem bSetRef_K {i to : Int} (hG : Glob w0) (ok : BoOk B x) (hy : B.p.g.L[s]? = some y) :
  Call Tryz.prog w0 102 [.pointer (some ⟨B.b, 0, none⟩), .int .i64 (s : Nat), .int .i64 i, .int .i64 to] (bodyH B ++ (memH B.m ++ (planH B.p ++ F)))
   (fun r H' => r = .int .i64 (setRefP x B.p.g.slots y i to).1 ∧ H' = bodyH B ++ (memH (putM B.m B.t (setRefP x B.p.g.slots y i to).2) ++ (planH B.p ++ F))) := by
 have okp := ok.p
 have hs := okp.g.slots
 have hself := putM_self ok.r
 have hst := fun A => bstore_K (w0 := w0) (F := A) (ref := true) (i := i) (w := to + 1) hG ok hy
 unfold setRefP
 by_cases h1 : to < -1
 ·rw [if_pos (.inl h1)]
  dsimp only
  rw [hself]
  refine zkh ?_
  refine zbu ?_
  refine zh fun T hT => ?_
  refine zhn ?_
  refine ze ?_
  clear hT T
  refine zcN ?_
  refine zav ?_
  refine zD ?_
  refine zaW ?_
  refine zf ?_
  refine zE ?_
  refine zcz ?_
  refine z7 ?_
  exact zar
 ·by_cases h2 : to ≥ (B.p.g.slots : Nat)
  ·rw [if_pos (.inr h2)]
   dsimp only
   rw [hself]
   have h2' : to ≥ ((B.p.g.slots : Nat) : Int) := h2
   refine zkh ?_
   refine zbu ?_
   refine zh fun T hT => ?_
   refine zhn ?_
   refine ze ?_
   clear hT T
   refine zcN ?_
   refine zav ?_
   refine zD ?_
   refine zaW ?_
   refine zdf ?_
   refine zcw ?_
   refine zaT ?_
   refine zg fun T hT => ?_
   refine ze4 ?_
   refine ze ?_
   clear hT T
   refine zm ?_
   refine z8 ?_
   refine zaz ?_
   exact zar
  ·rw [if_neg (by omega)]
   have h2' : ¬ to ≥ ((B.p.g.slots : Nat) : Int) := h2
   refine zkh ?_
   refine zbu ?_
   refine zh fun T hT => ?_
   refine zhn ?_
   refine ze ?_
   clear hT T
   refine zcN ?_
   refine zav ?_
   refine zD ?_
   refine zaW ?_
   refine zdf ?_
   refine zcw ?_
   refine zaT ?_
   refine zg fun T hT => ?_
   refine ze4 ?_
   refine ze ?_
   clear hT T
   refine zm ?_
   refine zgk ?_
   refine zj ?_
   refine zj ?_
   refine zQ ?_
   refine zbX ?_
   refine zg fun T hT => ?_
   refine ze8 ?_
   refine ze ?_
   clear hT T
   by_cases e : fldP x y true i = 0
   ·simp only [e, if_true]
    exact zw
   ·simp only [if_neg e]
    exact zw
end
open Go.RowKit
set_option maxRecDepth 10000
namespace PlG
def fp (g : PlG) (k : Nat) : Nat := ((g.firsts[k]?).getD 0).toNat
def mp (g : PlG) (k : Nat) : Nat := ((g.manys[k]?).getD 0).toNat
def pgOf (g : PlG) (s : Nat) : Nat := ((g.L[s]?).map (·.page)).getD 0
end PlG
section
variable {g : PlG}
theorem firsts_len : g.firsts.length = g.pages := by simp [PlG.firsts, cutL_len]; rfl
theorem manys_len : g.manys.length = g.pages := by simp [PlG.manys, cutL_len]; rfl
theorem fp_get {k : Nat} (hk : k < g.pages) : g.firsts[k]? = some ((g.fp k : Nat) : Int) := by
 have hl : k < g.firsts.length := by rw [firsts_len]; exact hk
 unfold PlG.fp
 rw [List.getElem?_eq_getElem hl]
 have : g.firsts[k] ∈ g.firsts := List.getElem_mem hl
 simp only [PlG.firsts, List.mem_map] at this
 obtain ⟨n, _, hn⟩ := this
 simp only [PlG.firsts] at hn ⊢
 simp only [Option.getD_some, ← hn, Int.toNat_natCast]
theorem mp_get {k : Nat} (hk : k < g.pages) : g.manys[k]? = some ((g.mp k : Nat) : Int) := by
 have hl : k < g.manys.length := by rw [manys_len]; exact hk
 unfold PlG.mp
 rw [List.getElem?_eq_getElem hl]
 have : g.manys[k] ∈ g.manys := List.getElem_mem hl
 simp only [PlG.manys, List.mem_map] at this
 obtain ⟨n, _, hn⟩ := this
 simp only [PlG.manys] at hn ⊢
 simp only [Option.getD_some, ← hn, Int.toNat_natCast]
theorem fp_at {k j : Nat} (hk : k < g.m) (hj : j < g.pgs k) : g.fp (g.page k + j) = g.first k + j * g.per k := by
 unfold PlG.fp PlG.firsts
 rw [List.getElem?_map]
 have := cutL_get (n := g.pgs) (f := fun k j => g.first k + j * g.per k) hk hj
 unfold PlG.page
 rw [this]; simp only [Option.map_some, Option.getD_some]; omega
theorem mp_at {k j : Nat} (hk : k < g.m) (hj : j < g.pgs k) : g.mp (g.page k + j) = min (g.per k) (g.n k - j * g.per k) := by
 unfold PlG.mp PlG.manys
 rw [List.getElem?_map]
 have := cutL_get (n := g.pgs) (f := fun k j => min (g.per k) (g.n k - j * g.per k)) hk hj
 unfold PlG.page
 rw [this]; simp only [Option.map_some, Option.getD_some]; omega
theorem pgs_iff (ok : PlOk g) {k j : Nat} (hk : k < g.m) : j < g.pgs k ↔ j * g.per k < g.n k := by
 have h1 := ok.n hk
 have h2 := ok.per hk
 unfold PlG.pgs
 rw [Nat.lt_iff_add_one_le, Nat.le_div_iff_mul_le (by omega), Nat.succ_mul]
 omega
theorem pg_of (ok : PlOk g) {s : Nat} {y : SlotP} (h : g.L[s]? = some y) : y.page < g.pages ∧ g.fp y.page ≤ s ∧ s < g.fp y.page + g.mp y.page := by
 obtain ⟨k, d, hk, hd, rfl, rfl⟩ := L_at h
 have h1 := ok.pg_lt hk hd
 have h2 := ok.inpg hk hd
 have h3 := ok.per hk
 refine ⟨h1, ?_⟩
 simp only [PlG.sl]
 rw [fp_at hk h2, mp_at hk h2]
 have h4 := Nat.div_mul_le_self d (g.per k)
 have h5 : d < (d / g.per k + 1) * g.per k := by
  have := Nat.lt_succ_self (d / g.per k)
  exact (Nat.div_lt_iff_lt_mul (by omega)).1 this
 rw [Nat.succ_mul] at h5
 omega
theorem mp_bnd (ok : PlOk g) {k : Nat} (hk : k < g.pages) : 1 ≤ g.mp k ∧ g.mp k ≤ 32 ∧ g.fp k + g.mp k ≤ g.slots := by
 obtain ⟨c, j, hc, hj, rfl⟩ := cum_find (n := g.pgs) hk
 have hm := mp_at hc hj
 have hf := fp_at hc hj
 have hper := ok.per hc
 have h1 := (pgs_iff ok hc).1 hj
 have h2 := cumN_step (n := g.n) hc
 unfold PlG.page at hm hf
 rw [hm, hf]
 unfold PlG.slots; unfold PlG.first at *
 omega
theorem pgOf_at {s : Nat} {y : SlotP} (h : g.L[s]? = some y) : g.pgOf s = y.page := by unfold PlG.pgOf; rw [h]; rfl
end
structure GyP where
 q : List Nat
 ow : List Bool
 di : List Bool
 pg : Option Nat
 at_ : Nat
def putG (g : PlG) (long : Nat) (G : GyP) (s : Nat) : GyP :=
 if G.q.length < long then { G with q := G.q ++ [s] } else { G with ow := G.ow.set s true, di := G.di.set (g.pgOf s) true }
def openG (G : GyP) : Option (Nat × GyP) := match G.pg with
 | some k => some (k, G)
 | none => match G.q with
  | [] => match nextB G.di 0 true with
   | some k => some (k, { G with di := G.di.set k false, pg := some k, at_ := 0 })
   | none => none
  | _ :: _ => none
def walk1 (g : PlG) (k : Nat) (G : GyP) : Option Nat × GyP :=
  (if (G.ow[g.fp k + G.at_]?).getD false then some (g.fp k + G.at_) else none,
   { G with ow := G.ow.set (g.fp k + G.at_) false, pg := if G.at_ + 1 = g.mp k then none else some k, at_ := if G.at_ + 1 = g.mp k then 0 else G.at_ + 1 })
def walkG (g : PlG) (G : GyP) : Option (Option Nat × GyP) := (openG G).map fun x => walk1 g x.1 x.2
def emptyG (G : GyP) : Bool := G.q.isEmpty && (decide (G.ow.count true = 0) && G.pg.isNone)
structure GyOk (g : PlG) (long : Nat) (G : GyP) : Prop where
 q : ∀ s ∈ G.q, s < g.slots
 ql : G.q.length ≤ long
 ow : G.ow.length = g.slots
 di : G.di.length = g.pages
 pg : ∀ k, G.pg = some k → k < g.pages ∧ G.at_ < g.mp k
 no : G.pg = none → G.at_ = 0
 /-- what is owed lies in a dirty page, or ahead in the page that is walked through -/
 od : ∀ s : Nat, G.ow[s]? = some true → G.di[g.pgOf s]? = some true ∨ ∃ k, G.pg = some k ∧ g.pgOf s = k ∧ g.fp k + G.at_ ≤ s
structure MaP where
 C : List Int
 G : GyP
 hs : List HanP
 root : Nat
 act : Bool
 steps : Nat
structure MwP where
 x : List Int
 T : List EntP
 N : List Int
def slotA (g : PlG) (s : Int) : SlotP := (g.L[s.toNat]?).getD ⟨0, 0, 0, 0⟩
def shadeM (g : PlG) (long : Nat) (m : MaP) (s : Int) : MaP := if 0 ≤ s ∧ m.C[s.toNat]? = some 0 then { m with C := m.C.set s.toNat 1, G := putG g long m.G s.toNat } else m
def shdM (g : PlG) (long : Nat) (m : MaP) (s : Int) : MaP := if m.act then shadeM g long m s else m
def rootSl (g : PlG) (W : MwP) (r : Nat) : Option Int := match W.T[r]? with
 | some e => if e.st = 1 then some e.slot else none
 | none => if (W.N[r - W.T.length]?).getD 0 > 0 then some ((r - W.T.length : Nat) : Int) else none
def shadeO (g : PlG) (long : Nat) (m : MaP) (o : Option Int) : MaP := match o with
 | some s => shadeM g long m s
 | none => m
def rootM (g : PlG) (long : Nat) (W : MwP) (m : MaP) : Option MaP :=
 if m.root < W.T.length + g.slots then some (shadeO g long { m with root := m.root + 1 } (rootSl g W m.root)) else none
def hand0 : HanP := ⟨0, 0, false⟩
def handA (m : MaP) (k : Nat) : HanP := (m.hs[k]?).getD hand0
def takeM (m : MaP) (k : Nat) : Option MaP := if (handA m k).is then none else match m.G.q with
 | [] => none
 | s :: q => some { m with G := { m.G with q := q }, hs := m.hs.set k ⟨(s : Nat), 0, true⟩ }
def refO (g : PlG) (x : List Int) (s i : Int) : Option Int := if (refP x g.slots (slotA g s) i).2 = 0 ∧ 0 ≤ (refP x g.slots (slotA g s) i).1 then some (refP x g.slots (slotA g s) i).1 else none
def refsN (x : List Int) (y : SlotP) : Int := match headP x y with
 | some h => h.r
 | none => 0
def scanM (g : PlG) (long : Nat) (W : MwP) (m : MaP) (k : Nat) : Option MaP :=
 if (handA m k).is then
  (if (handA m k).field + 1 < refsN W.x (slotA g (handA m k).slot) then
   some { shadeO g long m (refO g W.x (handA m k).slot (handA m k).field) with hs := m.hs.set k ⟨(handA m k).slot, (handA m k).field + 1, true⟩ }
  else some { shadeO g long m (refO g W.x (handA m k).slot (handA m k).field) with hs := m.hs.set k hand0, C := (shadeO g long m (refO g W.x (handA m k).slot (handA m k).field)).C.set (handA m k).slot.toNat 2 })
 else none
def walkM (g : PlG) (m : MaP) (k : Nat) : Option MaP := if (handA m k).is then none else match walkG g m.G with
 | none => none
 | some (none, G) => some { m with G := G }
 | some (some s, G) => some { m with G := G, hs := m.hs.set k ⟨(s : Nat), 0, true⟩ }
def microM (g : PlG) (long : Nat) (W : MwP) (m : MaP) (k : Nat) (u : Int) : Option MaP :=
 if u = 1 then rootM g long W m else if u = 2 then takeM m k else if u = 3 then scanM g long W m k else if u = 4 then walkM g m k else none
def upM (m : MaP) : MaP := { m with steps := m.steps + 1 }
def stepM (g : PlG) (long : Nat) (W : MwP) (m : MaP) (k : Int) (u : Int) : Option MaP :=
 if m.act = true ∧ 0 ≤ k ∧ k < (m.hs.length : Nat) then (microM g long W m k.toNat u).map upM else none
def fullM (m : MaP) : Option Nat := (List.range m.hs.length).find? fun k => (handA m k).is
def helpM (g : PlG) (long : Nat) (W : MwP) (m : MaP) : Option MaP := match fullM m with
 | some k => stepM g long W m (k : Nat) 3
 | none => match stepM g long W m ((m.hs.length - 1 : Nat) : Int) 2 with
  | some m' => some m'
  | none => match stepM g long W m ((m.hs.length - 1 : Nat) : Int) 1 with
   | some m' => some m'
   | none => stepM g long W m ((m.hs.length - 1 : Nat) : Int) 4
def doneM (g : PlG) (W : MwP) (m : MaP) : Bool := m.act && ((fullM m).isNone && (decide (W.T.length + g.slots ≤ m.root) && emptyG m.G))
def nilG (g : PlG) : GyP := ⟨[], List.replicate g.slots false, List.replicate g.pages false, none, 0⟩
def newM (g : PlG) (nw : Nat) (act : Bool) : MaP := ⟨List.replicate g.slots 0, nilG g, List.replicate (nw + 1) hand0, 0, act, 0⟩
def startM (g : PlG) (m : MaP) : MaP := newM g (m.hs.length - 1) true
structure MaOk (g : PlG) (long : Nat) (W : MwP) (m : MaP) : Prop where
 C : m.C.length = g.slots
 c : ∀ v ∈ m.C, v = 0 ∨ v = 1 ∨ v = 2
 G : GyOk g long m.G
 hs : 1 ≤ m.hs.length ∧ m.hs.length ≤ 9
 h : ∀ (k : Nat) (h : HanP), m.hs[k]? = some h → (h.is = true ∧ 0 ≤ h.slot ∧ h.slot < ((g.slots : Nat) : Int) ∧ 0 ≤ h.field ∧ (h.field = 0 ∨ h.field < refsN W.x (slotA g h.slot))) ∨ h = hand0
 root : m.root ≤ W.T.length + g.slots
structure MwOk (g : PlG) (W : MwP) : Prop where
 x : W.x.length = g.words
 w : WdOk W.x
 N : W.N.length = g.slots
 n : ∀ v ∈ W.N, 0 ≤ v ∧ v ≤ 255
 t : ∀ e ∈ W.T, e.st = 1 → 0 ≤ e.slot ∧ e.slot < ((g.slots : Nat) : Int)
open Go.RowKit
set_option maxRecDepth 10000
theorem Page0_K {w0 : World} {F : Heap} {p : PlanM} {s : Nat} {x : SlotP} (ok : PlanOk p) (hx : p.g.L[s]? = some x) :
  Call Tryz.prog w0 251 [.pointer (some ⟨p.b, 0, none⟩), .int .i64 (s : Nat)] (planH p ++ F) (fun r H' => r = .tuple [.int .i64 (x.page : Nat), .int .i64 0].toArray ∧ H' = planH p ++ F) := by
 have hpp := ok.g.pages.2
 have hpb := (pg_of ok.g hx).1
 obtain ⟨k, d, hk, hd, hs, rfl⟩ := L_at hx
 have hper := ok.g.per hk
 have hnk := ok.g.n hk
 have hal := Nat.div_le_self d (p.g.per k)
 have ho := ok.o
 have hpl : p.g.parts.length = p.g.m := parts_len
 have hkl : k < p.g.parts.length := by omega
 have hx : p.g.parts[k]? = some (p.g.pt k) := parts_get hk
 simp only [PlG.sl] at hpb ⊢
 obtain ⟨pt, hpt⟩ : ∃ pt, pt = p.g.pt k := ⟨_, rfl⟩
 have hp1 : p.g.page k = pt.page := by rw [hpt]; rfl
 have hp2 : p.g.per k = pt.per := by rw [hpt]; rfl
 rw [hp1, hp2] at hpb ⊢
 rw [hp2] at hper hal
 rw [← hpt] at hx
 clear hpt
 obtain ⟨a, ha⟩ : ∃ a, a = d / pt.per := ⟨_, rfl⟩
 have e1 : ((d : Nat) : Int) / ((pt.per : Nat) : Int) = (a : Nat) := by rw [ha]; rfl
 rw [← ha] at hpb hal ⊢
 have e2 : ((pt.page : Nat) : Int) + ((a : Nat) : Int) = ((pt.page + a : Nat) : Int) := by omega
 have hpe : ¬ ((pt.per : Nat) : Int) = 0 := by omega
 have hpn : ¬ ((pt.per : Nat) : Int) = -1 := by omega
 refine Call.enter2 (n := 38) (by kernel_rfl) Tryz.func251 rfl rfl rfl ?_
 refine zaj ?_
 refine zcC fun T hT => ?_
 refine ziV ?_
 rintro _ _ ⟨rfl, rfl⟩
 refine zd ?_
 clear hT T
 simp only [planH_app]
 refine zd8 ?_
 refine zD ?_
 refine zdF ?_
 refine zlb ?_
 refine zK ?_
 refine zcT ?_
 refine zdD ?_
 refine KD.v0 rfl rfl (Val.fieldSl (k := 3) rfl rfl) ?_
 refine ziU ?_
 refine zo ?_
 refine zK ?_
 refine zcT ?_
 refine zdD ?_
 refine KD.v0 rfl rfl (Val.fieldSl (k := 4) rfl rfl) ?_
 refine ziU ?_
 refine zgS ?_
 refine zb1 ?_
 refine zaw ?_
 refine za2 ?_
 rw [e1, e2]
 exact zki
theorem pin_K {w0 : World} {F : Heap} {p : PlanM} {c j : Nat} (ok : PlanOk p) (hc : c < p.g.m) (hj : j < p.g.pgs c) :
  Call Tryz.prog w0 284 [.pointer (some ⟨p.b, 0, none⟩), .int .i64 (p.g.page c + j : Nat)] (planH p ++ F) (fun r H' => r = .tuple [.agg (partL (p.g.pt c)).toArray, .int .i64 ((j * p.g.per c : Nat))].toArray ∧ H' = planH p ++ F) := by
 have hm := ok.g.m
 have hpl : p.g.parts.length = p.g.m := parts_len
 have ho := ok.o
 have hpc := ok.g.page (Nat.le_of_lt hc)
 have hper := ok.g.per hc
 have hn := ok.g.n hc
 have hjn := (pgs_iff ok.g hc).1 hj
 have hpb := ok.g.pages
 have hpp := cumN_step (n := p.g.pgs) hc
 obtain ⟨s, hs⟩ : ∃ s, s = p.g.page c + j := ⟨_, rfl⟩
 rw [← hs]
 have hsb : s < p.g.pages := by show s < cumN p.g.pgs p.g.m; have : cumN p.g.pgs c = p.g.page c := rfl; omega
 have hx : p.g.parts[c]? = some (p.g.pt c) := parts_get hc
 obtain ⟨pt, hpt⟩ : ∃ pt, pt = p.g.pt c := ⟨_, rfl⟩
 have hp1 : p.g.page c = pt.page := by rw [hpt]; rfl
 have hp2 : p.g.per c = pt.per := by rw [hpt]; rfl
 rw [← hpt] at hx ⊢
 rw [hp2] at hper hjn ⊢
 rw [hp1] at hs hpc
 unfold partL
 clear hpt
 have hq : ∀ i, decide (p.g.page i ≤ s) = decide (((p.g.page i : Nat) : Int) ≤ (s : Nat)) := fun i => decide_eq_decide.2 (by omega)
 refine Call.enter2 (n := 23) (by kernel_rfl) Tryz.func284 rfl rfl rfl ?_
 simp only [planH_app]
 refine zaq ?_; intro b3 b4
 refine zhc ?_
 refine K.drawn _ [(0, 1), (1, 1), (2, 1), (3, 1), (4, 0), (5, 0), (6, 2), (7, 0), (8, 0), (9, 2)] (by kernel_rfl) (by kernel_rfl) (by kernel_rfl) (by kernel_rfl) (by kernel_rfl) (by kernel_rfl) (Part.drop Part.all) ?_
 refine zeG ?_
 refine KD.v1 rfl rfl (Val.fieldAddr0 (k := 0) rfl rfl) ?_
 refine zb0 ?_
 refine zo ?_
 refine KD.v0 rfl rfl (Val.makeFunc byEvL byEvL) ?_
 refine zl fun T hT => ?_
 refine (CallV.part (CallV.fn (last_K (F := (b3, cells [.int .i64 (s : Nat)] 3) :: (b4, cells [.int .i64 0, .int .i64 0, .int .i64 0, .int .i64 0, .int .i64 0] 176) :: F) (g := 299) (cap := [.pointer (some ⟨b3, 0, none⟩)]) (q := fun i => decide (p.g.page i ≤ s)) ok ?_ ?_)) (by first | exact byPart | (simp only [planH_app]; exact byPart))).mono ?_
 ·intro i j h1 h2 h3
  have h4 : p.g.page i ≤ p.g.page j := cumN_mono h1
  have h5 := of_decide_eq_true h3
  exact decide_eq_true (by omega)
 ·intro H' i hp hi
  refine CallV.clo (cap := [.pointer (some ⟨b3, 0, none⟩)]) ?_
  have hsee : Sees w0 H' ⟨b3, 0, none⟩ (.int .i64 (s : Nat)) := (Sees.cell (H := planH p ++ ((b3, cells [.int .i64 (s : Nat)] 3) :: (b4, cells [.int .i64 0, .int .i64 0, .int .i64 0, .int .i64 0, .int .i64 0] 176) :: F)) byTake rfl).more hp
  rw [hq]
  unfold partL PlG.pt
  dsimp only
  refine Call.enter2 (n := 8) (by kernel_rfl) Tryz.func299 rfl rfl rfl ?_
  refine zW ?_; intro b2
  refine zdc ?_
  refine KL.v rfl (Val.loadP rfl rfl (Sees.more (by assumption) byPart)) ?_
  refine KL.v rfl (Val.leq rfl rfl) ?_
  exact zw
 ·rintro _ _ ⟨i, hi, h1, h2, rfl, rfl⟩
  have hf0 : p.g.page 0 = 0 := rfl
  have hi1 : 1 ≤ i := by
   rcases Nat.eq_zero_or_pos i with h | h
   ·subst h
    have := h2 0 (by omega) (by omega)
    simp [hf0] at this
   ·exact h
  have hik : i = c + 1 := by
   have e1 : c < i := by
    rcases Nat.lt_or_ge c i with h | h
    ·exact h
    ·have := h2 c h hc
     have := of_decide_eq_false this
     omega
   rcases Nat.lt_or_ge (c + 1) i with h | h
   ·have h3 := of_decide_eq_true (h1 (c + 1) h)
    have h4 : p.g.page (c + 1) = p.g.page c + p.g.pgs c := rfl
    omega
   ·omega
  have he : (i : Int) - 1 = ((c : Nat) : Int) := by omega
  have hj' : ((s : Nat) : Int) - ((pt.page : Nat) : Int) = ((j : Nat) : Int) := by omega
  have hmul : (((s : Nat) : Int) - ((pt.page : Nat) : Int)) * ((pt.per : Nat) : Int) = ((j * pt.per : Nat) : Int) := by rw [hj']; exact (Int.natCast_mul j pt.per).symm
  rw [he]
  refine zi ?_
  clear hT T
  simp only [planH_app]
  refine zdD ?_
  refine KD.v0 rfl rfl (Val.loadAP rfl rfl rfl bySeeA) ?_
  refine zhV ?_
  refine zgl ?_
  refine zbC ?_
  refine K.drawn _ [(0, 0), (1, 1), (2, 0), (3, 0), (4, 1), (5, 0), (6, 0), (7, 1), (8, 2), (9, 0)] (by kernel_rfl) (by kernel_rfl) (by kernel_rfl) (by kernel_rfl) (by kernel_rfl) (by kernel_rfl) (Part.drop Part.all) ?_
  refine ze6 ?_
  refine zb0 ?_
  refine zfF ?_
  refine KD.v1 rfl rfl (Val.sub rfl rfl (by simp only [qL, qH]; omega)) ?_
  refine zdJ ?_
  refine zx ?_
  refine KD.v1 rfl rfl (Val.mul rfl rfl (by simp only [qL, qH]; omega)) ?_
  refine zhV ?_
  refine zcD ?_
  refine za2 ?_
  rw [hmul]
  exact zki
theorem In_K {w0 : World} {F : Heap} {p : PlanM} {k : Nat} (ok : PlanOk p) (hk : k < p.g.pages) :
  Call Tryz.prog w0 255 [.pointer (some ⟨p.b, 0, none⟩), .int .i64 (k : Nat)] (planH p ++ F) (fun r H' => r = .tuple [.int .i64 (p.g.fp k : Nat), .int .i64 (p.g.mp k : Nat), .int .i64 0].toArray ∧ H' = planH p ++ F) := by
 have hpb := ok.g.pages
 have hmb := mp_bnd ok.g hk
 obtain ⟨c, j, hc, hj, hkj⟩ := cum_find (n := p.g.pgs) hk
 have hkj' : k = p.g.page c + j := hkj
 have hin := fun A => pin_K (w0 := w0) (F := A) ok hc hj
 have hper := ok.g.per hc
 have hn := ok.g.n hc
 have hfc := ok.g.first (Nat.le_of_lt hc)
 have hjn := (pgs_iff ok.g hc).1 hj
 have h1 := fp_at hc hj
 have h2 := mp_at hc hj
 rw [← hkj'] at h1 h2 hin
 have hge : ¬ ((k : Nat) : Int) ≥ (p.g.pages : Nat) := by omega
 obtain ⟨pt, hpt⟩ : ∃ pt, pt = p.g.pt c := ⟨_, rfl⟩
 have hp1 : pt.first = p.g.first c := by rw [hpt]; rfl
 have hp2 : pt.many = p.g.n c := by rw [hpt]; rfl
 have hp3 : pt.per = p.g.per c := by rw [hpt]; rfl
 rw [← hpt] at hin
 rw [← hp1] at h1 hfc
 rw [← hp2] at h2 hn hjn
 rw [← hp3] at h1 h2 hper hjn hin
 obtain ⟨sz, fi, ma, pa, pe⟩ := pt
 unfold partL at hin
 dsimp only at hin h1 h2 hn hjn hper hfc
 obtain ⟨q, hq⟩ : ∃ q, q = j * pe := ⟨_, rfl⟩
 rw [← hq] at hin h1 h2 hjn
 have e1 : ((fi : Nat) : Int) + ((q : Nat) : Int) = ((p.g.fp k : Nat) : Int) := by omega
 have e2 : ((ma : Nat) : Int) - ((q : Nat) : Int) = ((ma - q : Nat) : Int) := by omega
 have e3 : (if ((ma : Nat) : Int) - ((q : Nat) : Int) < ((pe : Nat) : Int) then ((ma : Nat) : Int) - ((q : Nat) : Int) else ((pe : Nat) : Int)) = ((p.g.mp k : Nat) : Int) := by split <;> omega
 clear hpt hp1 hp2 hp3 hq
 refine Call.enter2 (n := 40) (by kernel_rfl) Tryz.func255 rfl rfl rfl ?_
 refine zaj ?_
 refine zcL ?_
 refine zhS ?_
 refine zh fun T hT => ?_
 refine (CallV.fn (plnone_K ok)).mono ?_
 rintro _ _ ⟨rfl, rfl⟩
 refine zd ?_
 clear hT T
 simp only [planH_app]
 refine zds ?_
 refine zcw ?_
 refine zaT ?_
 refine zdw ?_
 refine zdu ?_
 refine zbb fun T hT => ?_
 refine (CallV.part (CallV.fn (hin _)) (by first | exact byPart | (simp only [planH_app]; exact byPart))).mono ?_
 refine ze ?_
 clear hT T
 refine zbp ?_; intro b7
 refine zhc ?_
 refine zgR ?_
 refine zfX ?_
 refine zb5 ?_
 refine zb1 ?_
 refine zdJ ?_
 refine zx ?_
 refine zcc ?_
 refine zb5 ?_
 refine zh3 ?_
 refine KD.v0 rfl rfl (Val.min rfl rfl) ?_
 refine zaw ?_
 refine zaw ?_
 refine za2 ?_
 rw [e1, e3]
 exact zki
set_option maxRecDepth 10000
theorem cum_ext {f h : Nat → Nat} : ∀ {n : Nat}, (∀ i, i < n → f i = h i) → cumN f n = cumN h n
 | 0, _ => rfl
 | n + 1, e => by
  have h1 := cum_ext (n := n) fun i hi => e i (by omega)
  have h2 := e n (by omega)
  simp only [cumN]; omega
theorem cum_at {f h : Nat → Nat} {s : Nat} : ∀ {n : Nat}, s < n → (∀ i, i < n → i ≠ s → h i = f i) → cumN h n + f s = cumN f n + h s
 | 0, hs, _ => by omega
 | n + 1, hs, e => by
  simp only [cumN]
  by_cases hn : s = n
  ·subst hn
   have h1 := cum_ext (f := h) (h := f) (n := s) fun i hi => e i (by omega) (by omega)
   omega
  ·have h1 := cum_at (f := f) (h := h) (n := n) (by omega) fun i hi hne => e i (by omega) hne
   have h2 := e n (by omega) (by omega)
   omega
theorem cum_le' {f h : Nat → Nat} : ∀ {n : Nat}, (∀ i, i < n → f i ≤ h i) → cumN f n ≤ cumN h n
 | 0, _ => Nat.le_refl _
 | n + 1, e => by
  have h1 := cum_le' (n := n) fun i hi => e i (by omega)
  have h2 := e n (by omega)
  simp only [cumN]; omega
theorem cum_add {f h : Nat → Nat} : ∀ n : Nat, cumN (fun i => f i + h i) n = cumN f n + cumN h n
 | 0 => rfl
 | n + 1 => by have := cum_add (f := f) (h := h) n; simp only [cumN]; omega
theorem cum_const (c : Nat) : ∀ n : Nat, cumN (fun _ => c) n = n * c
 | 0 => by simp [cumN]
 | n + 1 => by have := cum_const c n; simp only [cumN, Nat.succ_mul]; omega
theorem cum_zero {f : Nat → Nat} {n : Nat} (h : ∀ i, i < n → f i = 0) : cumN f n = 0 := by
 rw [cum_ext (h := fun _ => 0) h, cum_const]; omega
theorem cum_append {f h : Nat → Nat} {a : Nat} : ∀ b : Nat, (∀ i, i < b → f (a + i) = h i) → cumN f (a + b) = cumN f a + cumN h b
 | 0, _ => by simp [cumN]
 | b + 1, e => by
  have h1 := cum_append (f := f) (h := h) (a := a) b fun i hi => e i (by omega)
  have h2 := e b (by omega)
  rw [← Nat.add_assoc]; simp only [cumN]; omega
def szA (g : PlG) (s : Nat) : Nat := (slotA g (s : Nat)).size
section
variable {g : PlG}
theorem slotA_at {s : Nat} {y : SlotP} (h : g.L[s]? = some y) : slotA g (s : Nat) = y := by unfold slotA; simp [h]
theorem szA_at {s : Nat} {y : SlotP} (h : g.L[s]? = some y) : szA g s = y.size := by unfold szA; rw [slotA_at h]
theorem szA_bnd (ok : PlOk g) {s : Nat} (hs : s < g.slots) : 2 ≤ szA g s ∧ szA g s ≤ 64 := by
 obtain ⟨y, hy⟩ := L_ex hs
 rw [szA_at hy]
 have := ok.fits hy
 omega
theorem size_sum (ok : PlOk g) : ∀ k, k ≤ g.m → cumN (szA g) (g.first k) ≤ g.page k * g.pg
 | 0, _ => by simp [PlG.first, cumN]
 | k + 1, h => by
  have h1 := size_sum ok k (by omega)
  have hk : k < g.m := by omega
  have h2 : cumN (szA g) (g.first k + g.n k) = cumN (szA g) (g.first k) + cumN (fun _ => g.y k) (g.n k) := cum_append _ fun i hi => by
   rw [szA_at (L_get hk hi)]; rfl
  rw [cum_const] at h2
  have h3 : g.first (k + 1) = g.first k + g.n k := rfl
  have h4 : g.page (k + 1) = g.page k + g.pgs k := rfl
  rw [h3, h4, h2, Nat.add_mul]
  have hper := ok.per hk
  have h5 : g.n k ≤ g.pgs k * g.per k := by
   unfold PlG.pgs
   have := Nat.div_add_mod (g.n k + g.per k - 1) (g.per k)
   have h6 := Nat.mod_lt (g.n k + g.per k - 1) (show 0 < g.per k by omega)
   rw [Nat.mul_comm] at this
   omega
  have h6 : g.per k * g.y k ≤ g.pg := Nat.div_mul_le_self _ _
  have h7 : g.n k * g.y k ≤ g.pgs k * g.per k * g.y k := Nat.mul_le_mul_right _ h5
  have h8 : g.pgs k * (g.per k * g.y k) ≤ g.pgs k * g.pg := Nat.mul_le_mul_left _ h6
  rw [Nat.mul_assoc] at h7
  omega
theorem size_words (ok : PlOk g) : cumN (szA g) g.slots ≤ g.words := size_sum ok g.m (Nat.le_refl _)
theorem slots_words (ok : PlOk g) : 2 * g.slots ≤ g.words := by
 have h1 := size_words ok
 have h2 : cumN (fun _ => 2) g.slots ≤ cumN (szA g) g.slots := cum_le' fun i hi => (szA_bnd ok hi).1
 rw [cum_const] at h2
 omega
end
def wtA (g : PlG) (C : List Int) (s : Nat) : Nat := if C[s]? = some 0 then szA g s + 33 else 0
def wtO (g : PlG) (ow : List Bool) (s : Nat) : Nat := if ow[s]? = some true then szA g s + 1 else 0
def wtD (di : List Bool) (k : Nat) : Nat := if di[k]? = some true then 32 else 0
def wtH (g : PlG) (hs : List HanP) (k : Nat) : Nat := if ((hs[k]?).getD hand0).is then szA g ((hs[k]?).getD hand0).slot.toNat - ((hs[k]?).getD hand0).field.toNat else 0
def wtP (g : PlG) (G : GyP) : Nat := match G.pg with
 | some k => g.mp k - G.at_
 | none => 0
def wtQ (g : PlG) (q : List Nat) : Nat := (q.map fun s => szA g s + 1).sum
def leftG (g : PlG) (G : GyP) : Nat := wtQ g G.q + (cumN (wtO g G.ow) g.slots + (cumN (wtD G.di) g.pages + wtP g G))
def leftM (g : PlG) (W : MwP) (m : MaP) : Nat := cumN (wtA g m.C) g.slots + (leftG g m.G + (cumN (wtH g m.hs) m.hs.length + (W.T.length + g.slots - m.root)))
section
variable {g : PlG} {long : Nat} {W : MwP} {m m' : MaP} {G G' : GyP}
theorem wtA_set {C : List Int} {s : Nat} {c : Int} (hs : s < g.slots) (h0 : c ≠ 0) : cumN (wtA g (C.set s c)) g.slots + wtA g C s = cumN (wtA g C) g.slots := by
 have h := cum_at (f := wtA g C) (h := wtA g (C.set s c)) hs fun i hi hne => by unfold wtA; rw [List.getElem?_set_ne (by omega)]
 have h1 : wtA g (C.set s c) s = 0 := by
  unfold wtA
  rw [if_neg]
  intro e
  rcases Nat.lt_or_ge s C.length with hl | hl
  ·rw [List.getElem?_set_self hl] at e; simp at e; exact h0 e
  ·rw [List.getElem?_eq_none (by rw [List.length_set]; omega)] at e; cases e
 omega
theorem wtA_set_le {C : List Int} {s : Nat} {c : Int} (h0 : c ≠ 0) : cumN (wtA g (C.set s c)) g.slots ≤ cumN (wtA g C) g.slots := by
 rcases Nat.lt_or_ge s g.slots with hs | hs
 ·have := wtA_set (g := g) (C := C) hs h0; omega
 ·rw [cum_ext (h := wtA g C) fun i hi => by unfold wtA; rw [List.getElem?_set_ne (by omega)]]
  exact Nat.le_refl _
theorem wtO_set {ow : List Bool} {s : Nat} (b : Bool) (hs : s < g.slots) (hl : s < ow.length) : cumN (wtO g (ow.set s b)) g.slots + wtO g ow s = cumN (wtO g ow) g.slots + (if b then szA g s + 1 else 0) := by
 have h := cum_at (f := wtO g ow) (h := wtO g (ow.set s b)) hs fun i hi hne => by unfold wtO; rw [List.getElem?_set_ne (by omega)]
 rw [h]
 congr 1
 unfold wtO
 rw [List.getElem?_set_self hl]
 cases b <;> simp
theorem wtD_set {di : List Bool} {k : Nat} (b : Bool) (hk : k < g.pages) (hl : k < di.length) : cumN (wtD (di.set k b)) g.pages + wtD di k = cumN (wtD di) g.pages + (if b then 32 else 0) := by
 have h := cum_at (f := wtD di) (h := wtD (di.set k b)) hk fun i hi hne => by unfold wtD; rw [List.getElem?_set_ne (by omega)]
 rw [h]
 congr 1
 unfold wtD
 rw [List.getElem?_set_self hl]
 cases b <;> simp
theorem wtH_set {hs : List HanP} {k : Nat} (h : HanP) (hk : k < hs.length) : cumN (wtH g (hs.set k h)) hs.length + wtH g hs k = cumN (wtH g hs) hs.length + (if h.is then szA g h.slot.toNat - h.field.toNat else 0) := by
 have e := cum_at (f := wtH g hs) (h := wtH g (hs.set k h)) hk fun i hi hne => by unfold wtH; rw [List.getElem?_set_ne (by omega)]
 rw [e]
 congr 1
 unfold wtH
 rw [List.getElem?_set_self hk]
 rfl
theorem put_left (ok : PlOk g) (hG : GyOk g long G) {s : Nat} (hs : s < g.slots) : leftG g (putG g long G s) ≤ leftG g G + (szA g s + 33) := by
 unfold putG
 split
 ·unfold leftG wtQ
  simp only [List.map_append, List.sum_append, List.map_cons, List.map_nil, List.sum_cons, List.sum_nil]
  show _ + (_ + (_ + wtP g G)) ≤ _
  omega
 ·obtain ⟨y, hy⟩ := L_ex hs
  have h1 := wtO_set (g := g) (ow := G.ow) true hs (by rw [hG.ow]; exact hs)
  have hp : g.pgOf s < g.pages := by rw [pgOf_at hy]; exact (pg_of ok hy).1
  have h2 := wtD_set (g := g) (di := G.di) true hp (by rw [hG.di]; exact hp)
  simp only [if_true] at h1 h2
  unfold leftG
  show wtQ g G.q + (_ + (_ + wtP g G)) ≤ _
  dsimp only
  omega
theorem shade_left (ok : PlOk g) (hm : MaOk g long W m) (s : Int) : leftM g W (shadeM g long m s) ≤ leftM g W m := by
 unfold shadeM
 split
 ·rename_i h
  obtain ⟨n, rfl⟩ : ∃ n : Nat, s = n := ⟨s.toNat, by omega⟩
  simp only [Int.toNat_natCast] at h ⊢
  have hn : n < g.slots := by rw [← hm.C]; exact lt_of_get h.2
  have h1 := wtA_set (g := g) (C := m.C) (c := 1) hn (by decide)
  have h2 := put_left ok hm.G hn
  have h3 : wtA g m.C n = szA g n + 33 := by unfold wtA; rw [if_pos h.2]
  unfold leftM
  dsimp only
  omega
 ·exact Nat.le_refl _
theorem walk1_left (ok : PlOk g) (hG : GyOk g long G) {k : Nat} (hk : G.pg = some k) :
  leftG g (walk1 g k G).2 + (match (walk1 g k G).1 with | some s => szA g s + 1 | none => 0) + 1 ≤ leftG g G := by
 obtain ⟨h1, h2⟩ := hG.pg k hk
 obtain ⟨b1, b2, b3⟩ := mp_bnd ok h1
 have hs : g.fp k + G.at_ < g.slots := by omega
 have ho := wtO_set (g := g) (ow := G.ow) false hs (by rw [hG.ow]; exact hs)
 have hp : wtP g G = g.mp k - G.at_ := by unfold wtP; rw [hk]
 have hp' : wtP g (walk1 g k G).2 + 1 ≤ g.mp k - G.at_ := by
  unfold wtP walk1
  dsimp only
  by_cases he : G.at_ + 1 = g.mp k
  ·rw [if_pos he]; dsimp only; omega
  ·rw [if_neg he, if_neg he]; dsimp only; omega
 have hx : (match (walk1 g k G).1 with | some s => szA g s + 1 | none => 0) = wtO g G.ow (g.fp k + G.at_) := by
  unfold walk1 wtO
  dsimp only
  cases ho' : G.ow[g.fp k + G.at_]? with
  | none => simp
  | some b => cases b <;> simp
 rw [hx]
 simp only [Bool.false_eq_true, if_false] at ho
 unfold leftG
 rw [hp]
 show wtQ g G.q + (cumN (wtO g (G.ow.set (g.fp k + G.at_) false)) g.slots + (cumN (wtD G.di) g.pages + wtP g (walk1 g k G).2)) + _ + 1 ≤ _
 omega
theorem open_left (ok : PlOk g) (hG : GyOk g long G) {k : Nat} (h : openG G = some (k, G')) : GyOk g long G' ∧ G'.pg = some k ∧ leftG g G' ≤ leftG g G := by
 unfold openG at h
 cases hp : G.pg with
 | some k' =>
  rw [hp] at h
  simp only [Option.some.injEq, Prod.mk.injEq] at h
  obtain ⟨rfl, rfl⟩ := h
  exact ⟨hG, hp, Nat.le_refl _⟩
 | none =>
  rw [hp] at h
  cases hq : G.q with
  | cons a l => rw [hq] at h; cases h
  | nil =>
   rw [hq] at h
   dsimp only at h
   cases hn : nextB G.di 0 true with
   | none => rw [hn] at h; cases h
   | some k' =>
    rw [hn] at h
    simp only [Option.some.injEq, Prod.mk.injEq] at h
    obtain ⟨rfl, rfl⟩ := h
    obtain ⟨n1, n2, n3, n4⟩ := nextB_of hn
    have hk : k' < g.pages := by rw [← hG.di]; exact n1
    obtain ⟨b1, b2, b3⟩ := mp_bnd ok hk
    refine ⟨⟨fun s hs => (by cases hs), Nat.zero_le _, hG.ow, by rw [List.length_set]; exact hG.di, ?_, ?_, ?_⟩, rfl, ?_⟩
    ·intro k hk'
     cases hk'
     exact ⟨hk, by show 0 < _; omega⟩
    ·intro h; cases h
    ·intro s hs
     rcases hG.od s hs with hd | ⟨k, hk', _⟩
     ·by_cases hpk : g.pgOf s = k'
      ·right
       refine ⟨k', rfl, hpk, ?_⟩
       have hsl : s < g.slots := by rw [← hG.ow]; exact lt_of_get hs
       obtain ⟨y, hy⟩ := L_ex hsl
       have := pg_of ok hy
       rw [← pgOf_at hy, hpk] at this
       show g.fp k' + 0 ≤ s
       omega
      ·left
       show (G.di.set k' false)[g.pgOf s]? = some true
       rw [List.getElem?_set_ne (by omega)]
       exact hd
     ·rw [hp] at hk'; cases hk'
    ·have h1 := wtD_set (g := g) (di := G.di) false hk n1
     have h2 : wtD G.di k' = 32 := by
      unfold wtD
      rw [if_pos]
      rw [List.getElem?_eq_getElem n1] at n3 ⊢
      simpa using n3
     simp only [Bool.false_eq_true, if_false] at h1
     have h3 : wtP g G = 0 := by unfold wtP; rw [hp]
     have h4 : wtP g ⟨[], G.ow, G.di.set k' false, some k', 0⟩ = g.mp k' - 0 := rfl
     unfold leftG
     dsimp only
     rw [hq, h3]
     have h5 : wtP g { q := G.q, ow := G.ow, di := G.di.set k' false, pg := some k', at_ := 0 } = g.mp k' - 0 := rfl
     rw [hq] at h5
     rw [h5]
     omega
theorem walk1_ok (ok : PlOk g) (hG : GyOk g long G) {k : Nat} (hk : G.pg = some k) : GyOk g long (walk1 g k G).2 ∧ ∀ s, (walk1 g k G).1 = some s → s < g.slots ∧ G.ow[s]? = some true := by
 obtain ⟨h1, h2⟩ := hG.pg k hk
 obtain ⟨b1, b2, b3⟩ := mp_bnd ok h1
 have hs : g.fp k + G.at_ < g.slots := by omega
 have hl : g.fp k + G.at_ < G.ow.length := by rw [hG.ow]; exact hs
 constructor
 ·refine ⟨hG.q, hG.ql, by show (G.ow.set _ _).length = _; rw [List.length_set]; exact hG.ow, hG.di, ?_, ?_, ?_⟩
  ·intro k' hk'
   unfold walk1 at hk' ⊢
   dsimp only at hk' ⊢
   by_cases he : G.at_ + 1 = g.mp k
   ·rw [if_pos he] at hk'; cases hk'
   ·rw [if_neg he] at hk' ⊢
    cases hk'
    exact ⟨h1, by omega⟩
  ·intro h
   unfold walk1 at h ⊢
   dsimp only at h ⊢
   by_cases he : G.at_ + 1 = g.mp k
   ·rw [if_pos he]
   ·rw [if_neg he] at h; cases h
  ·intro s hs'
   change (G.ow.set (g.fp k + G.at_) false)[s]? = some true at hs'
   by_cases hse : s = g.fp k + G.at_
   ·subst hse
    rw [List.getElem?_set_self hl] at hs'; cases hs'
   ·rw [List.getElem?_set_ne (by omega)] at hs'
    rcases hG.od s hs' with hd | ⟨k', hk', e1, e2⟩
    ·exact .inl hd
    ·rw [hk] at hk'; cases hk'
     right
     have hsl : s < g.slots := by rw [← hG.ow]; exact lt_of_get hs'
     obtain ⟨y, hy⟩ := L_ex hsl
     have := pg_of ok hy
     rw [← pgOf_at hy, e1] at this
     unfold walk1
     dsimp only
     by_cases he : G.at_ + 1 = g.mp k
     ·omega
     ·rw [if_neg he, if_neg he]
      exact ⟨k, rfl, e1, by omega⟩
 ·intro s hs'
  unfold walk1 at hs'
  dsimp only at hs'
  split at hs'
  ·rename_i ho
   cases hs'
   refine ⟨hs, ?_⟩
   rw [List.getElem?_eq_getElem hl] at ho ⊢
   simpa using ho
  ·cases hs'
theorem put_ok (ok : PlOk g) (hG : GyOk g long G) {s : Nat} (hs : s < g.slots) : GyOk g long (putG g long G s) := by
 unfold putG
 obtain ⟨y, hy⟩ := L_ex hs
 have hp : g.pgOf s < g.pages := by rw [pgOf_at hy]; exact (pg_of ok hy).1
 split
 ·refine ⟨fun t ht => ?_, by simp; omega, hG.ow, hG.di, hG.pg, hG.no, hG.od⟩
  rcases List.mem_append.1 ht with h | h
  ·exact hG.q t h
  ·rw [List.mem_singleton.1 h]
   exact hs
 ·refine ⟨hG.q, hG.ql, by rw [List.length_set]; exact hG.ow, by rw [List.length_set]; exact hG.di, hG.pg, hG.no, fun t ht => ?_⟩
  dsimp only at ht ⊢
  by_cases hts : t = s
  ·subst hts
   left; rw [List.getElem?_set_self (by rw [hG.di]; exact hp)]
  ·rw [List.getElem?_set_ne (by omega)] at ht
   rcases hG.od t ht with hd | h
   ·left
    by_cases hpp : g.pgOf s = g.pgOf t
    ·rw [hpp, List.getElem?_set_self (by rw [hG.di, ← hpp]; exact hp)]
    ·rw [List.getElem?_set_ne hpp]
     exact hd
   ·exact .inr h
theorem shade_ok (ok : PlOk g) (hm : MaOk g long W m) (s : Int) : MaOk g long W (shadeM g long m s) := by
 unfold shadeM
 split
 ·rename_i h
  have hn : s.toNat < g.slots := by rw [← hm.C]; exact lt_of_get h.2
  refine ⟨by rw [List.length_set]; exact hm.C, fun v hv => ?_, put_ok ok hm.G hn, hm.hs, hm.h, hm.root⟩
  rcases List.mem_or_eq_of_mem_set hv with h1 | h1
  ·exact hm.c v h1
  ·rw [h1]
   exact .inr (.inl rfl)
 ·exact hm
theorem shadeO_ok (ok : PlOk g) (hm : MaOk g long W m) (o : Option Int) : MaOk g long W (shadeO g long m o) := by
 cases o with
 | none => exact hm
 | some s => exact shade_ok ok hm s
theorem shadeO_left (ok : PlOk g) (hm : MaOk g long W m) (o : Option Int) : leftM g W (shadeO g long m o) ≤ leftM g W m := by
 cases o with
 | none => exact Nat.le_refl _
 | some s => exact shade_left ok hm s
theorem shade_hs (s : Int) : (shadeM g long m s).hs = m.hs ∧ (shadeM g long m s).root = m.root ∧ (shadeM g long m s).act = m.act ∧ (shadeM g long m s).steps = m.steps := by
 unfold shadeM; split <;> exact ⟨rfl, rfl, rfl, rfl⟩
theorem shadeO_hs (o : Option Int) : (shadeO g long m o).hs = m.hs ∧ (shadeO g long m o).root = m.root ∧ (shadeO g long m o).act = m.act ∧ (shadeO g long m o).steps = m.steps := by
 cases o with
 | none => exact ⟨rfl, rfl, rfl, rfl⟩
 | some s => exact shade_hs s
theorem root_ok (ok : PlOk g) (hm : MaOk g long W m) (h : rootM g long W m = some m') : MaOk g long W m' ∧ leftM g W m' + 1 ≤ leftM g W m ∧ m'.steps = m.steps ∧ m'.act = m.act ∧ m'.hs.length = m.hs.length := by
 unfold rootM at h
 split at h
 ·rename_i hr
  cases h
  have hm1 : MaOk g long W { m with root := m.root + 1 } := ⟨hm.C, hm.c, hm.G, hm.hs, hm.h, hr⟩
  obtain ⟨q1, q2, q3, q4⟩ := shadeO_hs (g := g) (long := long) (m := { m with root := m.root + 1 }) (rootSl g W m.root)
  refine ⟨shadeO_ok ok hm1 _, ?_, q4, q3, by rw [q1]⟩
  have h1 := shadeO_left ok hm1 (rootSl g W m.root)
  have h2 : leftM g W { m with root := m.root + 1 } + 1 ≤ leftM g W m := by unfold leftM; dsimp only; omega
  omega
 ·cases h
theorem hand_ok (hm : MaOk g long W m) {k : Nat} (hk : k < m.hs.length) {h : HanP} (hh : (h.is = true ∧ 0 ≤ h.slot ∧ h.slot < (g.slots : Nat) ∧ 0 ≤ h.field ∧ (h.field = 0 ∨ h.field < refsN W.x (slotA g h.slot))) ∨ h = hand0) {C : List Int} {G : GyP} (hC : C.length = g.slots) (hc : ∀ v ∈ C, v = 0 ∨ v = 1 ∨ v = 2) (hG : GyOk g long G) :
  MaOk g long W { m with C := C, G := G, hs := m.hs.set k h } := by
 refine ⟨hC, hc, hG, by show 1 ≤ (m.hs.set k h).length ∧ _; rw [List.length_set]; exact hm.hs, fun j h' hj => ?_, hm.root⟩
 change (m.hs.set k h)[j]? = some h' at hj
 by_cases hjk : j = k
 ·subst hjk
  rw [List.getElem?_set_self hk] at hj; cases hj
  exact hh
 ·rw [List.getElem?_set_ne (by omega)] at hj
  exact hm.h j h' hj
theorem handA_at {k : Nat} {h : HanP} (hk : m.hs[k]? = some h) : handA m k = h := by unfold handA; rw [hk]; rfl
theorem take_ok (ok : PlOk g) (hm : MaOk g long W m) {k : Nat} (hk : k < m.hs.length) (h : takeM m k = some m') : MaOk g long W m' ∧ leftM g W m' + 1 ≤ leftM g W m ∧ m'.steps = m.steps ∧ m'.act = m.act ∧ m'.hs.length = m.hs.length := by
 unfold takeM at h
 split at h
 ·cases h
 ·rename_i hn
  cases hq : m.G.q with
  | nil => rw [hq] at h; cases h
  | cons s q =>
   rw [hq] at h
   cases h
   have hs : s < g.slots := hm.G.q s (by rw [hq]; exact .head _)
   have hG : GyOk g long { m.G with q := q } := ⟨fun t ht => hm.G.q t (by rw [hq]; exact .tail _ ht), by have := hm.G.ql; rw [hq] at this; simp at this; show q.length ≤ long; omega, hm.G.ow, hm.G.di, hm.G.pg, hm.G.no, hm.G.od⟩
   refine ⟨hand_ok (C := m.C) hm hk (.inl ⟨rfl, by show (0 : Int) ≤ ((s : Nat) : Int); omega, by show ((s : Nat) : Int) < _; omega, Int.le_refl 0, .inl rfl⟩) hm.C hm.c hG, ?_, rfl, rfl, by show (m.hs.set _ _).length = _; rw [List.length_set]⟩
   have h1 := wtH_set (g := g) (hs := m.hs) ⟨(s : Nat), 0, true⟩ hk
   have h2 : wtH g m.hs k = 0 := by unfold wtH; exact if_neg hn
   have h3 : wtQ g m.G.q = (szA g s + 1) + wtQ g q := by rw [hq]; rfl
   simp only [if_true, Int.toNat_natCast, Int.toNat_zero, Nat.sub_zero] at h1
   unfold leftM leftG
   show _ + (wtQ g q + (_ + (_ + wtP g m.G)) + (cumN (wtH g (m.hs.set k ⟨(s : Nat), 0, true⟩)) (m.hs.set k ⟨(s : Nat), 0, true⟩).length + _)) + 1 ≤ _
   rw [List.length_set]
   dsimp only
   omega
theorem refs_size (ok : PlOk g) {s : Nat} (hs : s < g.slots) (x : List Int) : refsN x (slotA g (s : Nat)) + 1 ≤ (szA g s : Nat) := by
 obtain ⟨y, hy⟩ := L_ex hs
 rw [slotA_at hy, szA_at hy]
 have := ok.fits hy
 unfold refsN
 cases hh : headP x y with
 | none => dsimp only; omega
 | some h =>
  obtain ⟨_, hl⟩ := headP_of hh
  obtain ⟨hm, _, hl⟩ := lies_of hl
  simp only [mayH, decide_eq_true_eq] at hm
  dsimp only
  omega
theorem scan_ok (ok : PlOk g) (hm : MaOk g long W m) {k : Nat} (hk : k < m.hs.length) (h : scanM g long W m k = some m') : MaOk g long W m' ∧ leftM g W m' + 1 ≤ leftM g W m ∧ m'.steps = m.steps ∧ m'.act = m.act ∧ m'.hs.length = m.hs.length := by
 unfold scanM at h
 split at h
 ·rename_i hn
  obtain ⟨hd, hhd⟩ := get_of_lt hk
  rw [handA_at hhd] at h hn
  rcases hm.h k hd hhd with ⟨e1, e2, e3, e4, e5⟩ | e
  ·obtain ⟨s, hs⟩ : ∃ s : Nat, hd.slot = s := ⟨hd.slot.toNat, by omega⟩
   obtain ⟨f, hf⟩ : ∃ f : Nat, hd.field = f := ⟨hd.field.toNat, by omega⟩
   rw [hs] at e3 e5 h
   rw [hf] at e5 h
   have hsl : s < g.slots := by omega
   have hrs := refs_size ok hsl W.x
   obtain ⟨o, ho⟩ : ∃ o, o = refO g W.x (s : Nat) (f : Nat) := ⟨_, rfl⟩
   rw [← ho] at h
   have k1 := shadeO_ok ok hm o
   have k2 := shadeO_left ok hm o
   obtain ⟨q1, q2, q3, q4⟩ := shadeO_hs (g := g) (long := long) (m := m) o
   obtain ⟨m1, hm1⟩ : ∃ m1, m1 = shadeO g long m o := ⟨_, rfl⟩
   rw [← hm1] at h k1 k2 q1 q2 q3 q4
   have h2 : wtH g m1.hs k = szA g s - f := by unfold wtH; rw [q1, hhd]; simp only [Option.getD_some, e1, if_true, hs, hf, Int.toNat_natCast]
   have hsz := (szA_bnd ok hsl).1
   have hk1 : k < m1.hs.length := by rw [q1]; exact hk
   split at h
   ·rename_i hlt
    cases h
    have h1 := wtH_set (g := g) (hs := m1.hs) ⟨(s : Nat), (f : Nat) + 1, true⟩ hk1
    have h4 := hand_ok (C := m1.C) (h := ⟨(s : Nat), (f : Nat) + 1, true⟩) k1 hk1 (.inl ⟨rfl, by show (0 : Int) ≤ ((s : Nat) : Int); omega, e3, by show (0 : Int) ≤ ((f : Nat) : Int) + 1; omega, .inr hlt⟩) k1.C k1.c k1.G
    rw [q1] at h4 h1
    refine ⟨h4, ?_, q4, q3, by show (m.hs.set _ _).length = _; rw [List.length_set]⟩
    have e : (((f : Nat) : Int) + 1).toNat = f + 1 := by omega
    simp only [if_true, Int.toNat_natCast, e] at h1
    rw [q1] at h2
    unfold leftM at k2 ⊢
    dsimp only
    rw [List.length_set]
    rw [q1] at k2
    omega
   ·cases h
    have h1 := wtH_set (g := g) (hs := m1.hs) hand0 hk1
    have h4 := hand_ok (C := m1.C.set s 2) (h := hand0) k1 hk1 (.inr rfl) (by rw [List.length_set]; exact k1.C) (fun v hv => by
     rcases List.mem_or_eq_of_mem_set hv with h | h
     ·exact k1.c v h
     ·rw [h]; exact .inr (.inr rfl)) k1.G
    rw [q1] at h4 h1
    refine ⟨by simpa using h4, ?_, q4, q3, by show (m.hs.set _ _).length = _; rw [List.length_set]⟩
    have h5 := wtA_set_le (g := g) (C := m1.C) (s := s) (c := 2) (by decide)
    have e : hand0.is = false := rfl
    rw [e] at h1
    simp only [Bool.false_eq_true, if_false] at h1
    rw [q1] at h2
    have hfs : f + 1 ≤ szA g s := by omega
    unfold leftM at k2 ⊢
    dsimp only
    simp only [Int.toNat_natCast]
    rw [List.length_set]
    rw [q1] at k2
    omega
  ·rw [e] at hn; cases hn
 ·cases h
theorem walk_ok (ok : PlOk g) (hm : MaOk g long W m) {k : Nat} (hk : k < m.hs.length) (h : walkM g m k = some m') : MaOk g long W m' ∧ leftM g W m' + 1 ≤ leftM g W m ∧ m'.steps = m.steps ∧ m'.act = m.act ∧ m'.hs.length = m.hs.length := by
 unfold walkM at h
 split at h
 ·cases h
 ·rename_i hn
  unfold walkG at h
  cases hop : openG m.G with
  | none => rw [hop] at h; cases h
  | some x =>
   obtain ⟨j, G1⟩ := x
   rw [hop] at h
   obtain ⟨k1, k2, k3⟩ := open_left ok hm.G hop
   have k4 := walk1_left ok k1 k2
   obtain ⟨k5, k6⟩ := walk1_ok ok k1 k2
   simp only [Option.map_some] at h
   obtain ⟨r, hr⟩ : ∃ r, r = walk1 g j G1 := ⟨_, rfl⟩
   rw [← hr] at h k4 k5 k6
   obtain ⟨o, G2⟩ := r
   cases o with
   | none =>
    dsimp only at h k4 k5
    cases h
    refine ⟨⟨hm.C, hm.c, k5, hm.hs, hm.h, hm.root⟩, ?_, rfl, rfl, rfl⟩
    unfold leftM
    dsimp only
    omega
   | some s =>
    dsimp only at h k4 k5
    cases h
    have k4' : leftG g G2 + (szA g s + 1) + 1 ≤ leftG g G1 := k4
    obtain ⟨hs, _⟩ := k6 s rfl
    refine ⟨hand_ok (C := m.C) hm hk (.inl ⟨rfl, by show (0 : Int) ≤ ((s : Nat) : Int); omega, by show ((s : Nat) : Int) < _; omega, Int.le_refl 0, .inl rfl⟩) hm.C hm.c k5, ?_, rfl, rfl, by show (m.hs.set _ _).length = _; rw [List.length_set]⟩
    have h1 := wtH_set (g := g) (hs := m.hs) ⟨(s : Nat), 0, true⟩ hk
    have h2 : wtH g m.hs k = 0 := by unfold wtH; exact if_neg hn
    simp only [if_true, Int.toNat_natCast, Int.toNat_zero, Nat.sub_zero] at h1
    unfold leftM
    dsimp only
    rw [List.length_set]
    omega
theorem micro_ok (ok : PlOk g) (hm : MaOk g long W m) {k : Nat} (hk : k < m.hs.length) {u : Int} (h : microM g long W m k u = some m') : MaOk g long W m' ∧ leftM g W m' + 1 ≤ leftM g W m ∧ m'.steps = m.steps ∧ m'.act = m.act ∧ m'.hs.length = m.hs.length := by
 unfold microM at h
 split at h
 ·exact root_ok ok hm h
 ·split at h
  ·exact take_ok ok hm hk h
  ·split at h
   ·exact scan_ok ok hm hk h
   ·split at h
    ·exact walk_ok ok hm hk h
    ·cases h
theorem up_ok (hm : MaOk g long W m) : MaOk g long W (upM m) := ⟨hm.C, hm.c, hm.G, hm.hs, hm.h, hm.root⟩
theorem step_ok (ok : PlOk g) (hm : MaOk g long W m) {k u : Int} (h : stepM g long W m k u = some m') : MaOk g long W m' ∧ leftM g W m' + 1 ≤ leftM g W m ∧ m'.steps = m.steps + 1 ∧ m'.act = m.act ∧ m'.hs.length = m.hs.length := by
 unfold stepM at h
 split at h
 ·rename_i hc
  cases hu : microM g long W m k.toNat u with
  | none => rw [hu] at h; cases h
  | some m1 =>
   rw [hu] at h
   simp only [Option.map_some, Option.some.injEq] at h
   subst h
   obtain ⟨k1, k2, k3, k4, k5⟩ := micro_ok ok hm (by omega) hu
   exact ⟨up_ok k1, k2, by show m1.steps + 1 = _; rw [k3], k4, k5⟩
 ·cases h
theorem help_step {m' : MaP} (h : helpM g long W m = some m') : ∃ k u : Int, stepM g long W m k u = some m' := by
 unfold helpM at h
 split at h
 ·exact ⟨_, _, h⟩
 ·split at h
  ·rename_i m1 hm1
   cases h
   exact ⟨_, _, hm1⟩
  ·split at h
   ·rename_i m1 hm1
    cases h
    exact ⟨_, _, hm1⟩
   ·exact ⟨_, _, h⟩
theorem start_left (ok : PlOk g) (nw : Nat) : leftM g W (newM g nw true) ≤ 18 * g.words + W.T.length := by
 have h1 : cumN (wtA g (List.replicate g.slots 0)) g.slots = cumN (szA g) g.slots + g.slots * 33 := by
  rw [← cum_const, ← cum_add]
  refine cum_ext fun i hi => ?_
  unfold wtA
  rw [List.getElem?_replicate, if_pos hi, if_pos rfl]
 have h2 : cumN (wtO g (List.replicate g.slots false)) g.slots = 0 := cum_zero fun i hi => by
  unfold wtO; rw [List.getElem?_replicate, if_pos hi]; simp
 have h3 : cumN (wtD (List.replicate g.pages false)) g.pages = 0 := cum_zero fun i hi => by
  unfold wtD; rw [List.getElem?_replicate, if_pos hi]; simp
 have h4 : cumN (wtH g (List.replicate (nw + 1) hand0)) (List.replicate (nw + 1) hand0).length = 0 := cum_zero fun i hi => by
  unfold wtH
  rw [List.getElem?_replicate, if_pos (show i < nw + 1 by simpa using hi)]; rfl
 have h5 := size_words ok
 have h6 := slots_words ok
 unfold leftM leftG newM nilG
 dsimp only
 rw [h1, h2, h3, h4]
 show _ + (0 + (0 + (0 + 0)) + (0 + (W.T.length + g.slots - 0))) ≤ _
 omega
theorem new_ok {nw : Nat} {act : Bool} (hl : 1 ≤ long) (hn : nw ≤ 8) : MaOk g long W (newM g nw act) := by
 refine ⟨by simp [newM], fun v hv => ?_, ⟨fun s hs => (by cases hs), by simp [newM, nilG], by simp [newM, nilG], by simp [newM, nilG], fun k hk => (by cases hk), fun _ => rfl, fun s hs => ?_⟩, by simp [newM]; omega, fun k h hk => ?_, Nat.zero_le _⟩
 ·exact .inl (List.mem_replicate.1 hv).2
 ·simp only [newM, nilG, List.getElem?_replicate] at hs
  split at hs <;> simp at hs
 ·simp only [newM, List.getElem?_replicate] at hk
  split at hk
  ·right; simpa using hk.symm
  ·cases hk
end
end Go.Proofs.YtalholahapcpkaaGreatDoor.Sw
