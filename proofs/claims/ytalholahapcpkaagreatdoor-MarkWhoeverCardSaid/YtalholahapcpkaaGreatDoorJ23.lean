/- The walker and the contracts that the law needs, part 23. -/
import Derived.Test.YtalholahapcpkaaGreatDoorD1
import Derived.Test.YtalholahapcpkaaGreatDoorJ22
namespace Go.Proofs.YtalholahapcpkaaGreatDoor.Sw
open Go.Proofs.YtalholahapcpkaaGreatDoor renaming lo → qL, hi → qH
open Go.RowKit
set_option linter.unusedVariables false
set_option linter.unusedSimpArgs false
set_option maxRecDepth 10000
def pwP (c : Cfg) (t : Int) (k : Nat) : Int := (pagesP c t (k : Nat)).1 * c.page
def wordsP (c : Cfg) (t : Int) : Int := sumN (pwP c t) c.cl.length
def regionP (c : Cfg) (t : Int) : Int × Int := if thereP c t 0 then (wordsP c t, 0) else (0, 2)
def cbaseP (c : Cfg) (t : Int) : Int × Int := if thereP c t 0 then (sumN (fun i => wordsP c (i : Nat)) t.toNat, 0) else (0, 2)
def totalP (c : Cfg) : Int × Int := if cfgP c then (sumN (fun i => wordsP c (i : Nat)) c.tn.length, 0) else (0, 2)
theorem there_of {c : Cfg} {i j : Nat} (hc : cfgP c = true) (hi : i < c.tn.length) (hj : j < c.cl.length) : thereP c (i : Nat) (j : Nat) = true := by
 simp only [thereP, hc, withinP, Bool.and_eq_true, decide_eq_true_eq]
 refine ⟨trivial, ?_, ?_, ?_, ?_, trivial⟩ <;> omega
theorem pages_le {c : Cfg} {t k : Int} (h : thereP c t k = true) : 1 ≤ (pagesP c t k).1 ∧ (pagesP c t k).1 ≤ 2048 ∧ (pagesP c t k).2 = 0 := by
 have h' := h
 obtain ⟨i, j, x, y, rfl, rfl, hx, hy, ok⟩ := there_at h
 have hb := (ok.ten x (List.mem_of_getElem? hx)).1
 have hb2 := ok.el y (List.mem_of_getElem? hy)
 have hpg := ok.page
 have he : pagesP c (i : Nat) (j : Nat) = (pageN c.page x.quota y, 0) := by simp [pagesP, h', cfgQ, cfgC, hx, hy]
 have hsl := slotN_le (q := x.quota) (y := y) (by omega) (by omega) hb.2
 have hper : 1 ≤ c.page / y ∧ c.page / y ≤ 64 := ⟨(Int.le_ediv_iff_mul_le (by omega)).2 (by omega), Int.le_trans (Int.ediv_le_self _ (by omega)) hpg.2⟩
 rw [he]
 unfold pageN
 unfold slotN at hsl
 obtain ⟨n, hn⟩ : ∃ n, n = x.quota / y := ⟨_, rfl⟩
 obtain ⟨p, hp⟩ : ∃ p, p = c.page / y := ⟨_, rfl⟩
 rw [← hn] at hsl ⊢
 rw [← hp] at hper ⊢
 refine ⟨(Int.le_ediv_iff_mul_le (by omega)).2 (by omega), ?_, rfl⟩
 have h1 : (n + p - 1) / p < n + 1 := (Int.ediv_lt_iff_lt_mul (by omega)).2 (by
  have e : (n + 1) * p = n * p + p := by rw [Int.add_mul, Int.one_mul]
  have : n * 1 ≤ n * p := Int.mul_le_mul_of_nonneg_left hper.1 (by omega)
  omega)
 show (n + p - 1) / p ≤ 2048
 omega
theorem pw_le {c : Cfg} {t : Int} {k : Nat} (h : thereP c t (k : Nat) = true) : 0 ≤ pwP c t k ∧ pwP c t k ≤ 131072 := by
 obtain ⟨h1, h2, _⟩ := pages_le h
 obtain ⟨i, j, x, y, _, _, hx, hy, ok⟩ := there_at h
 have hb2 := ok.el y (List.mem_of_getElem? hy)
 have hpg := ok.page
 unfold pwP
 refine ⟨Int.mul_nonneg (by omega) (by omega), ?_⟩
 have h3 : (pagesP c t (k : Nat)).1 * c.page ≤ 2048 * c.page := Int.mul_le_mul_of_nonneg_right h2 (by omega)
 omega
theorem words_le {c : Cfg} {i : Nat} (hc : cfgP c = true) (hi : i < c.tn.length) : 0 ≤ wordsP c (i : Nat) ∧ wordsP c (i : Nat) ≤ 1048576 := by
 have ok := cfg_ok hc
 have h := sumN_le (f := pwP c (i : Nat)) (B := 131072) (n := c.cl.length) (fun k hk => pw_le (there_of hc hi hk))
 have := ok.cl.2
 unfold wordsP
 omega
set_option maxHeartbeats 2000000 in
theorem words1_K {w0 : World} {F : Heap} {c : Cfg} {vc vt : Value} {b1 b2 i k : Nat} (hR : CfgR w0 F c vc vt) (hc : cfgP c = true) (hi : i < c.tn.length) (hk : k < c.cl.length) :
  Call Tryz.prog w0 247 [.int .i64 (k : Nat), .pointer (some ⟨b1, 0, none⟩), .pointer (some ⟨b2, 0, none⟩)] ((b1, cells (cfgL c vc vt) 25) :: (b2, cells [.int .i64 (i : Nat)] 3) :: F)
   (fun r H' => r = .int .i64 (pwP c (i : Nat) k) ∧ H' = (b1, cells (cfgL c vc vt) 25) :: (b2, cells [.int .i64 (i : Nat)] 3) :: F) := by
 have hth := there_of hc hi hk
 have hc0 := fun A (hp : Part A F) => Pages_K (t := (i : Nat)) (k := (k : Nat)) (hR.part hp)
 have hpl := pages_le hth
 have hpw := pw_le hth
 have hok := cfg_ok hc
 have e1 : pwP c (i : Nat) k = (pagesP c (i : Nat) (k : Nat)).1 * c.page := rfl
 rw [e1] at hpw ⊢
 obtain ⟨p, hp⟩ : ∃ p, p = (pagesP c (i : Nat) (k : Nat)) := ⟨_, rfl⟩
 rw [← hp] at hc0 hpl hpw ⊢
 obtain ⟨p1, p2⟩ := p
 obtain ⟨hS, hT', o1, o2, l1, l2⟩ := hR
 obtain ⟨cl, page, tn, workers, grey, gens⟩ := c
 dsimp only at hS hT' l1 l2 hpl hpw hc0 ⊢
 obtain ⟨_, _, rfl⟩ := hpl
 simp only [cfgV, cfgL, prV] at hc0 ⊢
 refine Call.enter3 (n := 18) (by kernel_rfl) Tryz.func247 rfl rfl rfl ?_
 refine zbH ?_
 refine zB ?_
 refine zdx fun T hT => ?_
 refine zaK ?_
 rintro _ _ ⟨rfl, rfl⟩
 refine zd ?_
 clear hT T
 refine zbv ?_
 refine zU ?_
 refine zeX ?_
 exact zw
open Go.RowKit
set_option maxRecDepth 10000
theorem words_K {w0 : World} {H : Heap} {c : Cfg} {vc vt : Value} {i : Nat} (hR : CfgR w0 H c vc vt) (hc : cfgP c = true) (hi : i < c.tn.length) :
  Call Tryz.prog w0 173 [cfgV c vc vt, .int .i64 (i : Nat)] H (fun r H' => r = .int .i64 (wordsP c (i : Nat)) ∧ H' = H) := by
 have hc1 := fun k b1 b2 (hk : k < c.cl.length) => words1_K (b1 := b1) (b2 := b2) hR hc hi hk
 have hok := cfg_ok hc
 have hB := fun k (hk : k < c.cl.length) => pw_le (there_of hc hi hk)
 obtain ⟨hS, hT', o1, o2, l1, l2⟩ := hR
 have e1 : wordsP c (i : Nat) = sumN (pwP c (i : Nat)) c.cl.length := rfl
 rw [e1]
 obtain ⟨f, hf⟩ : ∃ f, f = pwP c (i : Nat) := ⟨_, rfl⟩
 rw [← hf] at hB hc1 ⊢
 obtain ⟨cl, page, tn, workers, grey, gens⟩ := c
 have hcl := hok.cl
 dsimp only at hS hT' l1 l2 hcl hc1 hB ⊢
 simp only [cfgV, cfgL] at hc1 ⊢
 refine Call.enter2 (n := 9) (by kernel_rfl) Tryz.func173 rfl rfl rfl ?_
 refine zb3 ?_; intro b2 b3
 refine zr ?_
 refine zJ ?_
 refine zby fun T hT => ?_
 refine (CallV.part (CallV.fn (sumI_K (H := (b2, cells [vc, .int .i64 page, vt, .int .i64 workers, .int .i64 grey, .int .i64 gens] 25) :: (b3, cells [.int .i64 (i : Nat)] 3) :: H) (l := cl) (f := f) (hS.part byPart) hcl.2 ?_ ?_)) byPart).mono ?_
 ·intro k hk
  have := hB k hk
  omega
 ·intro k hk
  exact CallV.clo (cap := [_, _]) (hc1 k _ _ hk)
 ·refine ze ?_
  clear hT T
  exact zw
set_option maxRecDepth 10000
theorem tot1_K {w0 : World} {F : Heap} {c : Cfg} {vc vt : Value} {b1 i : Nat} (hR : CfgR w0 F c vc vt) (hc : cfgP c = true) (hi : i < c.tn.length) :
  Call Tryz.prog w0 216 [.int .i64 (i : Nat), .pointer (some ⟨b1, 0, none⟩)] ((b1, cells (cfgL c vc vt) 25) :: F)
   (fun r H' => r = .int .i64 (wordsP c (i : Nat)) ∧ H' = (b1, cells (cfgL c vc vt) 25) :: F) := by
 have hc0 := fun A (hp : Part A F) => words_K (hR.part hp) hc hi
 obtain ⟨hS, hT', o1, o2, l1, l2⟩ := hR
 obtain ⟨p, hp⟩ : ∃ p, p = wordsP c (i : Nat) := ⟨_, rfl⟩
 rw [← hp] at hc0 ⊢
 obtain ⟨cl, page, tn, workers, grey, gens⟩ := c
 dsimp only at hS hT' l1 l2 hc0 ⊢
 simp only [cfgV, cfgL] at hc0 ⊢
 refine Call.enter2 (n := 7) (by kernel_rfl) Tryz.func216 rfl rfl rfl ?_
 refine zbH ?_
 refine zz fun T hT => ?_
 refine zaK ?_
 rintro _ _ ⟨rfl, rfl⟩
 refine zd ?_
 clear hT T
 exact zw
theorem base1_K {w0 : World} {F : Heap} {c : Cfg} {vc vt : Value} {b1 i : Nat} (hR : CfgR w0 F c vc vt) (hc : cfgP c = true) (hi : i < c.tn.length) :
  Call Tryz.prog w0 217 [.int .i64 (i : Nat), .pointer (some ⟨b1, 0, none⟩)] ((b1, cells (cfgL c vc vt) 25) :: F)
   (fun r H' => r = .int .i64 (wordsP c (i : Nat)) ∧ H' = (b1, cells (cfgL c vc vt) 25) :: F) := by
 have hc0 := fun A (hp : Part A F) => words_K (hR.part hp) hc hi
 obtain ⟨hS, hT', o1, o2, l1, l2⟩ := hR
 obtain ⟨p, hp⟩ : ∃ p, p = wordsP c (i : Nat) := ⟨_, rfl⟩
 rw [← hp] at hc0 ⊢
 obtain ⟨cl, page, tn, workers, grey, gens⟩ := c
 dsimp only at hS hT' l1 l2 hc0 ⊢
 simp only [cfgV, cfgL] at hc0 ⊢
 refine Call.enter2 (n := 7) (by kernel_rfl) Tryz.func217 rfl rfl rfl ?_
 refine zbH ?_
 refine zz fun T hT => ?_
 refine zaK ?_
 rintro _ _ ⟨rfl, rfl⟩
 refine zd ?_
 clear hT T
 exact zw
theorem Region_K {w0 : World} {H : Heap} {c : Cfg} {vc vt : Value} {t : Int} (hR : CfgR w0 H c vc vt) :
  Call Tryz.prog w0 91 [cfgV c vc vt, .int .i64 t] H (fun r H' => r = prV (regionP c t) ∧ H' = H) := by
 have hc0 := fun A (hp : Part A H) => there_K (t := t) (k := 0) (hR.part hp)
 have hw := fun A (hp : Part A H) (i : Nat) (hc : cfgP c = true) (hi : i < c.tn.length) => words_K (hR.part hp) hc hi
 obtain ⟨hS, hT', o1, o2, l1, l2⟩ := hR
 cases ht : thereP c t 0 with
 | false =>
  have he : regionP c t = (0, 2) := by simp [regionP, ht]
  rw [ht] at hc0
  rw [he]
  clear hw
  obtain ⟨cl, page, tn, workers, grey, gens⟩ := c
  dsimp only at hS hT' l1 l2 he
  simp only [cfgV, cfgL] at hc0 ⊢
  refine Call.enter2 (n := 13) (by kernel_rfl) Tryz.func91 rfl rfl rfl ?_
  refine za5 ?_; intro b2
  refine zz fun T hT => ?_
  refine zaK ?_
  rintro _ _ ⟨rfl, rfl⟩
  refine zd ?_
  clear hT T
  exact zeE
 | true =>
  obtain ⟨i, j, x, y, rfl, _, hx, hy, ok⟩ := there_at ht
  have hil := lt_of_get hx
  have hcp : cfgP c = true := by simp only [thereP, Bool.and_eq_true] at ht; exact ht.1
  have he : regionP c (i : Nat) = (wordsP c (i : Nat), 0) := by simp [regionP, ht]
  have hw' := fun A hp => hw A hp i hcp hil
  clear hw
  rw [ht] at hc0
  rw [he]
  obtain ⟨p, hp⟩ : ∃ p, p = wordsP c (i : Nat) := ⟨_, rfl⟩
  rw [← hp] at hw' ⊢
  obtain ⟨cl, page, tn, workers, grey, gens⟩ := c
  dsimp only at hS hT' l1 l2 he hx hy hil
  simp only [cfgV, cfgL] at hc0 hw' ⊢
  refine Call.enter2 (n := 13) (by kernel_rfl) Tryz.func91 rfl rfl rfl ?_
  refine za5 ?_; intro b2
  refine zz fun T hT => ?_
  refine zaK ?_
  rintro _ _ ⟨rfl, rfl⟩
  refine zd ?_
  clear hT T
  refine zaG ?_
  refine zz fun T hT => ?_
  refine (CallV.fn (hw' _ byPart)).mono ?_
  rintro _ _ ⟨rfl, rfl⟩
  refine zd ?_
  clear hT T
  exact za4
theorem Total_K {w0 : World} {H : Heap} {c : Cfg} {vc vt : Value} (hR : CfgR w0 H c vc vt) :
  Call Tryz.prog w0 141 [cfgV c vc vt] H (fun r H' => r = prV (totalP c) ∧ H' = H) := by
 have hc0 := fun A (hp : Part A H) => confCheck_K (hR.part hp)
 cases hc : cfgP c with
 | false =>
  have he : totalP c = (0, 2) := by simp [totalP, hc]
  rw [hc] at hc0
  rw [he]
  simp only [errB, Bool.false_eq_true, if_false] at hc0
  obtain ⟨hS, hT', o1, o2, l1, l2⟩ := hR
  obtain ⟨cl, page, tn, workers, grey, gens⟩ := c
  dsimp only at hS hT' l1 l2 he
  simp only [cfgV, cfgL] at hc0 ⊢
  refine Call.enter1 (n := 14) (by kernel_rfl) Tryz.func141 rfl rfl rfl ?_
  refine za5 ?_; intro b1
  refine zp fun T hT => ?_
  refine zaK ?_
  rintro _ _ ⟨rfl, rfl⟩
  refine zd ?_
  clear hT T
  refine zav ?_
  refine zcU ?_
  exact zdh
 | true =>
  have hok := (cfg_ok hc).tn
  have he : totalP c = (sumN (fun i => wordsP c (i : Nat)) c.tn.length, 0) := by simp [totalP, hc]
  have hc1 := fun k b1 (hk : k < c.tn.length) => tot1_K (b1 := b1) hR hc hk
  have hB := fun k (hk : k < c.tn.length) => words_le hc hk
  rw [hc] at hc0
  rw [he]
  simp only [errB, if_true] at hc0
  obtain ⟨f, hf⟩ : ∃ f : Nat → Int, f = fun i => wordsP c (i : Nat) := ⟨_, rfl⟩
  have hfi : ∀ i, wordsP c (i : Nat) = f i := fun i => by rw [hf]
  rw [← hf]
  simp only [hfi] at hB hc1
  obtain ⟨hS, hT', o1, o2, l1, l2⟩ := hR
  obtain ⟨cl, page, tn, workers, grey, gens⟩ := c
  dsimp only at hS hT' l1 l2 he hok hB hc1 ⊢
  simp only [cfgV, cfgL] at hc0 hc1 ⊢
  refine Call.enter1 (n := 14) (by kernel_rfl) Tryz.func141 rfl rfl rfl ?_
  refine za5 ?_; intro b1
  refine zp fun T hT => ?_
  refine zaK ?_
  rintro _ _ ⟨rfl, rfl⟩
  refine zd ?_
  clear hT T
  refine zav ?_
  refine zaB ?_
  refine zas ?_
  refine zby fun T hT => ?_
  refine (CallV.part (CallV.fn (sumT_K (H := (b1, cells [vc, .int .i64 page, vt, .int .i64 workers, .int .i64 grey, .int .i64 gens] 25) :: H) (l := tn) (f := f) (hT'.part byPart) hok.2 (fun k hk => hB k hk) ?_)) byPart).mono ?_
  ·intro k hk
   exact CallV.clo (cap := [_]) (hc1 k _ hk)
  ·refine ze ?_
   clear hT T
   exact za4
set_option maxRecDepth 10000
theorem Base_K {w0 : World} {H : Heap} {c : Cfg} {vc vt : Value} {t : Int} (hR : CfgR w0 H c vc vt) :
  Call Tryz.prog w0 142 [cfgV c vc vt, .int .i64 t] H (fun r H' => r = prV (cbaseP c t) ∧ H' = H) := by
 have hc0 := fun A (hp : Part A H) => there_K (t := t) (k := 0) (hR.part hp)
 cases ht : thereP c t 0 with
 | false =>
  have he : cbaseP c t = (0, 2) := by simp [cbaseP, ht]
  rw [ht] at hc0
  rw [he]
  obtain ⟨hS, hT', o1, o2, l1, l2⟩ := hR
  obtain ⟨cl, page, tn, workers, grey, gens⟩ := c
  dsimp only at hS hT' l1 l2 he
  simp only [cfgV, cfgL] at hc0 ⊢
  refine Call.enter2 (n := 16) (by kernel_rfl) Tryz.func142 rfl rfl rfl ?_
  refine za5 ?_; intro b2
  refine zz fun T hT => ?_
  refine zaK ?_
  rintro _ _ ⟨rfl, rfl⟩
  refine zd ?_
  clear hT T
  exact zeE
 | true =>
  obtain ⟨i, j, x, y, rfl, _, hx, hy, ok⟩ := there_at ht
  have hil := lt_of_get hx
  have hok := ok.tn
  have hcp : cfgP c = true := by simp only [thereP, Bool.and_eq_true] at ht; exact ht.1
  have he : cbaseP c (i : Nat) = (sumN (fun i => wordsP c (i : Nat)) i, 0) := by simp [cbaseP, ht]
  have hc1 := fun k b1 (hk : k < c.tn.length) => base1_K (b1 := b1) hR hcp hk
  have hB := fun k (hk : k < c.tn.length) => words_le hcp hk
  rw [ht] at hc0
  rw [he]
  obtain ⟨f, hf⟩ : ∃ f : Nat → Int, f = fun i => wordsP c (i : Nat) := ⟨_, rfl⟩
  have hfi : ∀ i, wordsP c (i : Nat) = f i := fun i => by rw [hf]
  rw [← hf]
  simp only [hfi] at hB hc1
  obtain ⟨hS, hT', o1, o2, l1, l2⟩ := hR
  obtain ⟨cl, page, tn, workers, grey, gens⟩ := c
  dsimp only at hS hT' l1 l2 he hok hB hc1 hil hx hy ⊢
  simp only [cfgV, cfgL] at hc0 hc1 ⊢
  have htl : (tn.take i).length = i := by rw [List.length_take]; omega
  have hT2 : Sli w0 H tnE (subV vt 0 i tnE.sz) (tn.take i) := hT'.sub (Nat.zero_le _) (by omega)
  refine Call.enter2 (n := 16) (by kernel_rfl) Tryz.func142 rfl rfl rfl ?_
  refine za5 ?_; intro b2
  refine zz fun T hT => ?_
  refine zaK ?_
  rintro _ _ ⟨rfl, rfl⟩
  refine zd ?_
  clear hT T
  refine zaG ?_
  refine za8 ?_
  refine zbo ?_
  refine KL.v rfl (Val.sliceH rfl rfl rfl bySli rfl byLt) ?_
  refine zby fun T hT => ?_
  refine (CallV.part (CallV.fn (sumT_K (H := (b2, cells [vc, .int .i64 page, vt, .int .i64 workers, .int .i64 grey, .int .i64 gens] 25) :: H) (l := tn.take i) (f := f) (hT2.part byPart) (by omega) (fun k hk => hB k (by omega)) ?_)) byPart).mono ?_
  ·intro k hk
   exact CallV.clo (cap := [_]) (hc1 k _ (by omega))
  ·refine zS ?_
   rw [htl]
   refine zd ?_
   clear hT T
   exact za4
set_option maxRecDepth 10000
def rnP (x a b : Int) : Bool := decide (a ≤ x) && decide (x ≤ b)
theorem rfrom_K {w0 : World} {H : Heap} {x a b : Int} : Call Tryz.prog w0 140 [.int .i64 x, .int .i64 a, .int .i64 b] H (fun r H' => r = .bool (rnP x a b) ∧ H' = H) := by
 refine Call.enter3 (n := 15) (by kernel_rfl) Tryz.func140 rfl rfl rfl ?_
 by_cases h1 : x ≥ a
 ·have he : rnP x a b = decide (x ≤ b) := by unfold rnP; rw [decide_eq_true (show a ≤ x from h1), Bool.true_and]
  refine zbH ?_
  refine zj ?_
  refine zes ?_
  refine zu ?_
  refine KL.v rfl (Val.leq rfl rfl) ?_
  refine zgJ ?_
  exact zec
 ·have he : rnP x a b = false := by unfold rnP; rw [decide_eq_false (show ¬ a ≤ x from h1), Bool.false_and]
  refine zbH ?_
  refine zj ?_
  refine zaJ ?_
  refine zek ?_
  refine zt ?_
  exact zec
theorem class_el {l : List Int} (h : classP l = true) : (∀ x ∈ l, 1 < x ∧ x ≤ 64) ∧ l.Pairwise (· < ·) := by
 have hc := h
 simp only [classP, Bool.and_eq_true, decide_eq_true_eq] at hc
 refine ⟨fun x hx => ⟨(rise_pair hc.2).1 x hx, ?_⟩, (rise_pair hc.2).2⟩
 obtain ⟨i, hi⟩ := List.getElem?_of_mem hx
 obtain ⟨z, hz⟩ := get_of_lt (l := l) (k := l.length - 1) (by omega)
 have h1 := class_mono h (by have := lt_of_get hi; omega : i ≤ l.length - 1) hi hz
 have hzl : l.getLast? = some z := by rw [List.getLast?_eq_getElem?]; exact hz
 have h2 := hc.1.2
 rw [hzl] at h2
 simp only [Option.getD_some] at h2
 omega
structure RcS where
 k : Nat
 last : Int
set_option maxHeartbeats 1000000 in
theorem rCheck_K {w0 : World} {H : Heap} {v : Value} {l : List Int} (hS : Sli w0 H iE v l) (hl : l.length ≤ 140737488355328) :
  Call Tryz.prog w0 139 [v] H (fun r H' => r = .int .i64 (errB (classP l) 2) ∧ H' = H) := by
 refine Call.enter1 (n := 46) (by kernel_rfl) Tryz.func139 rfl rfl rfl ?_
 by_cases h1 : l.length < 1
 ·have hc : classP l = false := by simp [classP]; omega
  have h1' : ((l.length : Nat) : Int) < 1 := by omega
  refine zbu ?_
  refine zfe ?_
  refine zge ?_
  refine zdm ?_
  exact zdI
 by_cases h8 : 8 < l.length
 ·have hc : classP l = false := by simp [classP]; omega
  refine zbu ?_
  refine zP ?_
  refine zbG ?_
  refine zaS ?_
  refine zcb ?_
  refine zaz ?_
  refine zam ?_
  exact zdI
 refine zbu ?_
 refine zP ?_
 refine zbG ?_
 refine zaS ?_
 refine zeL ?_
 refine zaW ?_
 refine zaE ?_
 refine K.loopT (σ := RcS) [(0, _)] (fun s kp_ => (3, .int .i64 (s.k : Nat)) :: kp_) (fun s => H) (fun s => s.k ≤ l.length ∧ riseP 1 l = riseP s.last (l.drop s.k) ∧ (s.k = 0 → s.last = 1) ∧ (0 < s.k → l[s.k - 1]? = some s.last) ∧ s.last ≤ 64) (fun s => l.length - s.k) (⟨0, 1⟩) bySub byPart (⟨by simp, by simp, by simp, by simp, by simp⟩) ?_
 rintro ⟨k, last⟩ ⟨hk, hr, hz, hp, h64⟩
 dsimp only at hk hr hz hp h64 ⊢
 by_cases hlt : k < l.length
 ·obtain ⟨x, hx⟩ := get_of_lt hlt
  have hmem := List.mem_of_getElem? hx
  have hd : l.drop k = x :: l.drop (k + 1) := by
   obtain ⟨h1, e⟩ := List.getElem?_eq_some_iff.1 hx
   rw [List.drop_eq_getElem_cons h1, e]
  have hfalse : (x < 2 ∨ x > 64 ∨ (0 < k ∧ x ≤ last)) → classP l = false := by
   intro h
   cases hc : classP l with
   | false => rfl
   | true =>
    exfalso
    obtain ⟨e1, e2⟩ := class_el hc
    have := e1 x hmem
    rcases h with h | h | ⟨h, h'⟩
    ·omega
    ·omega
    ·obtain ⟨g1, f1⟩ := List.getElem?_eq_some_iff.1 (hp h)
     obtain ⟨g2, f2⟩ := List.getElem?_eq_some_iff.1 hx
     have := List.pairwise_iff_getElem.1 e2 (k - 1) k g1 g2 (by omega)
     rw [f1, f2] at this
     omega
  by_cases hx2 : x < 2
  ·have hc := hfalse (.inl hx2)
   refine zgf ?_
   refine zfZ ?_
   refine zh0 ?_
   refine zgE ?_
   refine KD.v0 rfl rfl (Val.isT (Val.lss rfl rfl) byLt) ?_
   refine zfr ?_
   refine zbD ?_
   refine zcS ?_
   refine zgF ?_
   refine zeA ?_
   refine zeA ?_
   refine zeA ?_
   refine zeA ?_
   refine zeA ?_
   refine zbD ?_
   refine zbj ?_
   refine zdY ?_
   refine zgo ?_
   exact zdI
  by_cases hx64 : x > 64
  ·have hc := hfalse (.inr (.inl hx64))
   refine zgf ?_
   refine zfZ ?_
   refine zh0 ?_
   refine zgE ?_
   refine zf0 ?_
   refine zbd ?_
   refine zaX ?_
   refine zgv ?_
   refine ziQ ?_
   refine za9 ?_
   refine zo ?_
   refine zgF ?_
   refine zeA ?_
   refine zeA ?_
   refine zeA ?_
   refine zeA ?_
   refine zeA ?_
   refine zbD ?_
   refine zbj ?_
   refine zdY ?_
   refine zgo ?_
   exact zdI
  by_cases hk0 : 0 < k
  ·have hp' := hp hk0
   have hp2 : l[((k : Int) - 1).toNat]? = some last := by rw [show ((k : Int) - 1).toNat = k - 1 by omega]; exact hp'
   by_cases hxl : x ≤ last
   ·have hc := hfalse (.inr (.inr ⟨hk0, hxl⟩))
    refine zgf ?_
    refine zfZ ?_
    refine zh0 ?_
    refine zgE ?_
    refine zf0 ?_
    refine zbd ?_
    refine zaX ?_
    refine zgv ?_
    refine zhY ?_
    refine za9 ?_
    refine zbd ?_
    refine ziQ ?_
    refine zez ?_
    refine zaX ?_
    refine zgv ?_
    refine zez ?_
    refine KD.y0 rfl rfl rfl rfl (Val.sub rfl rfl (by simp only [qL, qH]; omega)) ?_
    refine zhk ?_
    refine zc7 ?_
    refine zjX ?_
    refine zh1 ?_
    refine zbR ?_
    refine zhi ?_
    refine zgo ?_
    exact zdI
   ·rw [hd] at hr
    simp only [riseP] at hr
    rw [decide_eq_true (show last < x by omega), Bool.true_and] at hr
    refine zgf ?_
    refine zfZ ?_
    refine zh0 ?_
    refine zgE ?_
    refine zf0 ?_
    refine zbd ?_
    refine zaX ?_
    refine zgv ?_
    refine zhY ?_
    refine za9 ?_
    refine zbd ?_
    refine ziQ ?_
    refine zez ?_
    refine zaX ?_
    refine zgv ?_
    refine zez ?_
    refine KD.y0 rfl rfl rfl rfl (Val.sub rfl rfl (by simp only [qL, qH]; omega)) ?_
    refine zhk ?_
    refine zc7 ?_
    refine zjY ?_
    refine zh1 ?_
    refine zbR ?_
    refine zgQ ?_
    refine zbq ?_
    exact zlh
  ·have hk1 : k = 0 := by omega
   have hl1 := hz hk1
   have hk1' : ¬ ((k : Nat) : Int) > 0 := by omega
   rw [hd] at hr
   simp only [riseP] at hr
   rw [decide_eq_true (show last < x by omega), Bool.true_and] at hr
   refine zgf ?_
   refine zfZ ?_
   refine zh0 ?_
   refine zgE ?_
   refine zf0 ?_
   refine zbd ?_
   refine zaX ?_
   refine zgv ?_
   refine zhY ?_
   refine za9 ?_
   refine zbd ?_
   refine zhY ?_
   refine zaX ?_
   refine zcv ?_
   refine zcv ?_
   refine zgd ?_
   refine ziS ?_
   refine zbR ?_
   refine zgQ ?_
   refine zbq ?_
   exact zlh
 ·have hke : k = l.length := by omega
  have hlast := hp (by omega)
  have hzl : l.getLast? = some last := by rw [List.getLast?_eq_getElem?, ← hke]; exact hlast
  have hc : classP l = true := by
   rw [List.drop_of_length_le (by omega)] at hr
   simp only [classP, Bool.and_eq_true, decide_eq_true_eq, hzl, Option.getD_some]
   exact ⟨⟨⟨by omega, by omega⟩, by omega⟩, hr⟩
  refine zkO ?_
  refine zfg ?_
  refine zt ?_
  exact zdI
open Go.RowKit
set_option maxRecDepth 10000
structure RkS where
 k : Nat
set_option maxHeartbeats 1000000 in
theorem rconfCheck_K {w0 : World} {H : Heap} {c : Cfg} {vc vt : Value} (hR : CfgR w0 H c vc vt) :
  Call Tryz.prog w0 55 [cfgV c vc vt] H (fun r H' => r = .int .i64 (errB (cfgP c) 2) ∧ H' = H) := by
 obtain ⟨hS, hT', o1, o2, l1, l2⟩ := hR
 obtain ⟨cl, page, tn, workers, grey, gens⟩ := c
 dsimp only at hS hT' l1 l2
 simp only [cfgV, cfgL]
 cases hc : classP cl with
 | false =>
  have hf : cfgP ⟨cl, page, tn, workers, grey, gens⟩ = false := by simp [cfgP, hc]
  refine Call.enter1 (n := 83) (by kernel_rfl) Tryz.func55 rfl rfl rfl ?_
  refine zbl ?_; intro b1
  refine zal ?_
  refine zeQ fun T hT => ?_
  refine (CallV.fn (rCheck_K (l := cl) (hS.part byPart) l1)).mono ?_
  rintro _ _ ⟨rfl, rfl⟩
  rw [hc]
  refine zjL ?_
  clear hT T
  refine zhJ ?_
  refine zam ?_
  exact zc6
 | true =>
  have hcc := hc
  simp only [classP, Bool.and_eq_true, decide_eq_true_eq] at hcc
  obtain ⟨z, hz⟩ := get_of_lt (l := cl) (k := cl.length - 1) (by omega)
  have hzl : cl.getLast? = some z := by rw [List.getLast?_eq_getElem?]; exact hz
  have htop : topP cl = z := by simp [topP, hzl]
  have hz' : cl[(((cl.length : Nat) : Int) - 1).toNat]? = some z := by rw [show (((cl.length : Nat) : Int) - 1).toNat = cl.length - 1 by omega]; exact hz
  have hcl1 : 1 ≤ cl.length := hcc.1.1.1
  have hpl : planP ⟨cl, page, tn, workers, grey, gens⟩ = (rnP page z 64 && (rnP (tn.length : Nat) 1 8 && (rnP workers 0 8 && (rnP grey 1 64 && rnP gens 1 2147483648)))) := by
   simp only [planP, htop, withinP, rnP, Bool.and_true, Bool.and_assoc]
  have hcp : cfgP ⟨cl, page, tn, workers, grey, gens⟩ = (planP ⟨cl, page, tn, workers, grey, gens⟩ && tn.all (tenP z)) := by simp [cfgP, hc, htop]
  have hout : planP ⟨cl, page, tn, workers, grey, gens⟩ = false → cfgP ⟨cl, page, tn, workers, grey, gens⟩ = false := fun h => by rw [hcp, h]; rfl
  refine Call.enter1 (n := 83) (by kernel_rfl) Tryz.func55 rfl rfl rfl ?_
  refine zbl ?_; intro b1
  refine zal ?_
  refine zeQ fun T hT => ?_
  refine (CallV.fn (rCheck_K (l := cl) (hS.part byPart) l1)).mono ?_
  rintro _ _ ⟨rfl, rfl⟩
  rw [hc]
  simp only [errB, if_true]
  refine zd ?_
  clear hT T
  refine zaB ?_
  refine zJ ?_
  refine zJ ?_
  refine zP ?_
  refine zbi ?_
  refine zjS ?_
  refine zc0 ?_
  refine zal ?_
  refine zU ?_
  refine zh fun T hT => ?_
  refine zeo ?_
  cases g1 : rnP page z 64 with
  | false =>
   have hf := hout (by rw [hpl, g1]; rfl)
   refine zd ?_
   clear hT T
   refine zbA ?_
   refine zcl ?_
   refine zfj ?_
   refine zfj ?_
   refine zfj ?_
   refine zdm ?_
   exact zc6
  | true =>
   refine zd ?_
   clear hT T
   refine zF ?_
   refine zu ?_
   refine zaT ?_
   refine zaS ?_
   refine zg fun T hT => ?_
   refine zeo ?_
   cases g2 : rnP (tn.length : Nat) 1 8 with
   | false =>
    have hf := hout (by rw [hpl, g1, g2]; rfl)
    refine zd ?_
    clear hT T
    refine zbe ?_
    refine zn ?_
    refine zbF ?_
    refine zfj ?_
    refine zfj ?_
    refine zdm ?_
    exact zc6
   | true =>
    refine zd ?_
    clear hT T
    refine zbQ ?_
    refine zbf ?_
    refine zbS fun T hT => ?_
    refine zeo ?_
    cases g3 : rnP workers 0 8 with
    | false =>
     have hf := hout (by rw [hpl, g1, g2, g3]; rfl)
     refine zd ?_
     clear hT T
     refine zbe ?_
     refine zn ?_
     refine zbF ?_
     refine zfj ?_
     refine zdm ?_
     exact zc6
    | true =>
     refine zd ?_
     clear hT T
     refine zbQ ?_
     refine zbf ?_
     refine zZ ?_
     refine zaR ?_
     refine zg fun T hT => ?_
     refine zeo ?_
     cases g4 : rnP grey 1 64 with
     | false =>
      have hf := hout (by rw [hpl, g1, g2, g3, g4]; rfl)
      refine zd ?_
      clear hT T
      refine zbe ?_
      refine zn ?_
      refine zbF ?_
      refine zdm ?_
      exact zc6
     | true =>
      refine zd ?_
      clear hT T
      refine zbQ ?_
      refine zbf ?_
      refine zaY ?_
      refine zaR ?_
      refine zg fun T hT => ?_
      refine zeo ?_
      cases g5 : rnP gens 1 2147483648 with
      | false =>
       have hf := hout (by rw [hpl, g1, g2, g3, g4, g5]; rfl)
       refine zd ?_
       clear hT T
       refine zbe ?_
       refine zaz ?_
       refine zam ?_
       exact zc6
      | true =>
       have hcr : cfgP ⟨cl, page, tn, workers, grey, gens⟩ = tn.all (tenP z) := by rw [hcp, hpl, g1, g2, g3, g4, g5]; rfl
       refine zd ?_
       clear hT T
       refine zbQ ?_
       refine zn ?_
       refine zaW ?_
       refine zaE ?_
       refine K.loopT (σ := RkS) [(1, _), (3, _)] (fun s kp_ => (4, .int .i64 (s.k : Nat)) :: kp_) (fun s => (b1, cells [vc, .int .i64 page, vt, .int .i64 workers, .int .i64 grey, .int .i64 gens] 25) :: H) (fun s => s.k ≤ tn.length ∧ tn.all (tenP z) = (tn.drop s.k).all (tenP z)) (fun s => tn.length - s.k) (⟨0⟩) bySub byPart (⟨by simp, by simp⟩) ?_
       rintro ⟨k⟩ ⟨hk, hr⟩
       dsimp only at hk hr ⊢
       by_cases hlt : k < tn.length
       ·obtain ⟨t, ht⟩ := get_of_lt hlt
        have hd : tn.drop k = t :: tn.drop (k + 1) := by
         obtain ⟨h1, e⟩ := List.getElem?_eq_some_iff.1 ht
         rw [List.drop_eq_getElem_cons h1, e]
        rw [hd, List.all_cons] at hr
        obtain ⟨q, tr, cp, ax⟩ := t
        have hte : tenP z ⟨q, tr, cp, ax⟩ = (rnP q z 4096 && (rnP tr 1 1048576 && (rnP cp 1 1024 && rnP ax 0 1024))) := by
         simp only [tenP, withinP, rnP, Bool.and_true, Bool.and_assoc]
        have hno : tenP z ⟨q, tr, cp, ax⟩ = false → cfgP ⟨cl, page, tn, workers, grey, gens⟩ = false := fun h => by rw [hcr, hr, h]; rfl
        rw [hte] at hr hno
        refine zv ?_
        refine zas ?_
        refine za3 ?_
        refine za8 ?_
        refine zcO ?_
        refine zfQ ?_; intro b5
        refine zy ?_
        refine zJ ?_
        refine zh fun T hT => ?_
        refine zeo ?_
        cases m1 : rnP q z 4096 with
        | false =>
         have hf := hno (by rw [m1]; rfl)
         refine zd ?_
         clear hT T
         refine zbA ?_
         refine zbF ?_
         refine zfj ?_
         refine zfj ?_
         refine z7 ?_
         exact zhd
        | true =>
         refine zd ?_
         clear hT T
         refine zF ?_
         refine zu ?_
         refine z6 ?_
         refine zg fun T hT => ?_
         refine zeo ?_
         cases m2 : rnP tr 1 1048576 with
         | false =>
          have hf := hno (by rw [m1, m2]; rfl)
          refine zd ?_
          clear hT T
          refine zbe ?_
          refine zn ?_
          refine zbF ?_
          refine zfj ?_
          refine z7 ?_
          exact zhd
         | true =>
          refine zd ?_
          clear hT T
          refine zbQ ?_
          refine zbf ?_
          refine zaT ?_
          refine zg fun T hT => ?_
          refine zeo ?_
          cases m3 : rnP cp 1 1024 with
          | false =>
           have hf := hno (by rw [m1, m2, m3]; rfl)
           refine zd ?_
           clear hT T
           refine zbe ?_
           refine zn ?_
           refine zbF ?_
           refine z7 ?_
           exact zhd
          | true =>
           refine zd ?_
           clear hT T
           refine zbQ ?_
           refine zbf ?_
           refine zbS fun T hT => ?_
           refine zeo ?_
           cases m4 : rnP ax 0 1024 with
           | false =>
            have hf := hno (by rw [m1, m2, m3, m4]; rfl)
            refine zd ?_
            clear hT T
            refine zbe ?_
            refine zaz ?_
            exact zhd
           | true =>
            rw [m1, m2, m3, m4, Bool.true_and, Bool.true_and, Bool.true_and, Bool.true_and] at hr
            refine zd ?_
            clear hT T
            refine zbQ ?_
            refine zhe ?_
            exact zld
       ·have hf : cfgP ⟨cl, page, tn, workers, grey, gens⟩ = true := by rw [hcr, hr, List.drop_of_length_le (by omega)]; rfl
        refine zv ?_
        refine zas ?_
        refine zfx ?_
        refine zt ?_
        exact zc6
set_option maxRecDepth 10000
theorem rthere_K {w0 : World} {H : Heap} {c : Cfg} {vc vt : Value} {t k : Int} (hR : CfgR w0 H c vc vt) :
  Call Tryz.prog w0 212 [cfgV c vc vt, .int .i64 t, .int .i64 k] H (fun r H' => r = .bool (thereP c t k) ∧ H' = H) := by
 have hc0 := fun A (hp : Part A H) => rconfCheck_K (hR.part hp)
 obtain ⟨hS, hT', o1, o2, l1, l2⟩ := hR
 have he : thereP c t k = (cfgP c && (rnP t 0 ((c.tn.length : Nat) - 1) && rnP k 0 ((c.cl.length : Nat) - 1))) := by
  simp only [thereP, withinP, rnP, Bool.and_true, Bool.and_assoc]
 obtain ⟨cl, page, tn, workers, grey, gens⟩ := c
 dsimp only at hS hT' l1 l2 he
 simp only [cfgV, cfgL] at hc0 ⊢
 refine Call.enter3 (n := 26) (by kernel_rfl) Tryz.func212 rfl rfl rfl ?_
 refine zW ?_; intro b3
 refine zp fun T hT => ?_
 refine zaK ?_
 rintro _ _ ⟨rfl, rfl⟩
 cases hc : cfgP ⟨cl, page, tn, workers, grey, gens⟩ with
 | false =>
  rw [hc, Bool.false_and] at he
  refine zjL ?_
  clear hT T
  refine zH ?_
  refine zct ?_
  refine zn ?_
  refine zct ?_
  refine zdy ?_
  exact zec
 | true =>
  rw [hc, Bool.true_and] at he
  simp only [errB, if_true]
  refine zd ?_
  clear hT T
  refine zgx ?_
  refine zaT ?_
  refine zaS ?_
  refine zbi ?_
  refine zjI fun T hT => ?_
  refine zeo ?_
  cases g1 : rnP t 0 ((tn.length : Nat) - 1) with
  | false =>
   rw [g1, Bool.false_and] at he
   refine zd ?_
   clear hT T
   refine zC ?_
   refine zct ?_
   refine zdy ?_
   exact zec
  | true =>
   rw [g1, Bool.true_and] at he
   refine zd ?_
   clear hT T
   refine zdi ?_
   refine zaD ?_
   refine zaS ?_
   refine zbi ?_
   refine zjI fun T hT => ?_
   refine zli ?_
   refine ze ?_
   clear hT T
   refine zgJ ?_
   exact zec
theorem rSlots_K {w0 : World} {H : Heap} {c : Cfg} {vc vt : Value} {t k : Int} (hR : CfgR w0 H c vc vt) :
  Call Tryz.prog w0 143 [cfgV c vc vt, .int .i64 t, .int .i64 k] H (fun r H' => r = prV (slotsP c t k) ∧ H' = H) := by
 have hc0 := fun A (hp : Part A H) => rthere_K (t := t) (k := k) (hR.part hp)
 obtain ⟨hS, hT', o1, o2, l1, l2⟩ := hR
 cases ht : thereP c t k with
 | false =>
  have he : slotsP c t k = (0, 2) := by simp [slotsP, ht]
  rw [ht] at hc0
  rw [he]
  obtain ⟨cl, page, tn, workers, grey, gens⟩ := c
  dsimp only at hS hT' l1 l2 he
  simp only [cfgV, cfgL] at hc0 ⊢
  refine Call.enter3 (n := 25) (by kernel_rfl) Tryz.func143 rfl rfl rfl ?_
  refine za5 ?_; intro b3
  refine zaC fun T hT => ?_
  refine zaK ?_
  rintro _ _ ⟨rfl, rfl⟩
  refine zd ?_
  clear hT T
  exact zeE
 | true =>
  obtain ⟨i, j, x, y, rfl, rfl, hx, hy, ok⟩ := there_at ht
  have he : slotsP c (i : Nat) (j : Nat) = (x.quota / y, 0) := by simp [slotsP, ht, slotN, cfgQ, cfgC, hx, hy]
  have hb := (ok.ten x (List.mem_of_getElem? hx)).1
  have hb2 := ok.el y (List.mem_of_getElem? hy)
  have hil := lt_of_get hx
  have hjl := lt_of_get hy
  rw [ht] at hc0
  rw [he]
  obtain ⟨q, tr, cp, ax⟩ := x
  obtain ⟨cl, page, tn, workers, grey, gens⟩ := c
  dsimp only at hS hT' l1 l2 he hx hy hb hb2 hil hjl
  simp only [cfgV, cfgL] at hc0 ⊢
  refine Call.enter3 (n := 25) (by kernel_rfl) Tryz.func143 rfl rfl rfl ?_
  refine za5 ?_; intro b3
  refine zaC fun T hT => ?_
  refine zaK ?_
  rintro _ _ ⟨rfl, rfl⟩
  refine zd ?_
  clear hT T
  refine zF ?_
  refine zdF ?_
  refine zgR ?_
  refine zcc ?_
  refine zb5 ?_
  refine zgP ?_
  refine zeZ ?_
  refine zeb ?_
  refine zcT ?_
  refine zdS ?_
  refine zgS ?_
  refine zaw ?_
  exact zdU
set_option maxRecDepth 10000
theorem ceil_of {n p k : Int} (hp : 1 ≤ p) (h1 : n ≤ k * p) (h2 : k = 0 ∨ (k - 1) * p < n) (hn : 1 ≤ n) : (n + p - 1) / p = k := by
 have hk : k ≠ 0 := by
  rintro rfl
  rw [Int.zero_mul] at h1
  omega
 have h2' : (k - 1) * p < n := by rcases h2 with h | h; exact absurd h hk; exact h
 rw [Int.sub_mul, Int.one_mul] at h2'
 obtain ⟨q, hq⟩ : ∃ q, q = k * p := ⟨_, rfl⟩
 rw [← hq] at h1 h2'
 have e : n + p - 1 = (n + p - 1 - q) + k * p := by rw [← hq]; omega
 rw [e, Int.add_mul_ediv_right _ _ (by omega), Int.ediv_eq_zero_of_lt (by omega) (by omega)]
 omega
structure RpS where
 k : Nat
set_option maxHeartbeats 1000000 in
theorem rPages_K {w0 : World} {H : Heap} {c : Cfg} {vc vt : Value} {t k : Int} (hR : CfgR w0 H c vc vt) :
  Call Tryz.prog w0 213 [cfgV c vc vt, .int .i64 t, .int .i64 k] H (fun r H' => r = prV (pagesP c t k) ∧ H' = H) := by
 have hc0 := fun A (hp : Part A H) => rSlots_K (t := t) (k := k) (hR.part hp)
 obtain ⟨hS, hT', o1, o2, l1, l2⟩ := hR
 cases ht : thereP c t k with
 | false =>
  have he : pagesP c t k = (0, 2) := by simp [pagesP, ht]
  have he2 : slotsP c t k = (0, 2) := by simp [slotsP, ht]
  rw [he2] at hc0
  rw [he]
  obtain ⟨cl, page, tn, workers, grey, gens⟩ := c
  dsimp only at hS hT' l1 l2 he
  simp only [cfgV, cfgL] at hc0 ⊢
  refine Call.enter3 (n := 36) (by kernel_rfl) Tryz.func213 rfl rfl rfl ?_
  refine zco ?_; intro b3
  refine zaC fun T hT => ?_
  refine zaK ?_
  rintro _ _ ⟨rfl, rfl⟩
  simp only [prV]
  refine zd ?_
  clear hT T
  refine zG ?_
  refine zcU ?_
  exact zdh
 | true =>
  obtain ⟨i, j, x, y, rfl, rfl, hx, hy, ok⟩ := there_at ht
  have he : pagesP c (i : Nat) (j : Nat) = (pageN c.page x.quota y, 0) := by simp [pagesP, ht, cfgQ, cfgC, hx, hy]
  have hb := (ok.ten x (List.mem_of_getElem? hx)).1
  have hb2 := ok.el y (List.mem_of_getElem? hy)
  have hpg := ok.page
  have hn : slotsP c (i : Nat) (j : Nat) = (slotN x.quota y, 0) := by simp [slotsP, ht, cfgQ, cfgC, hx, hy]
  have hsl := slotN_le (q := x.quota) (y := y) (by omega) (by omega) hb.2
  have hper : 1 ≤ c.page / y ∧ c.page / y ≤ 64 := ⟨(Int.le_ediv_iff_mul_le (by omega)).2 (by omega), Int.le_trans (Int.ediv_le_self _ (by omega)) hpg.2⟩
  have hil := lt_of_get hx
  have hjl := lt_of_get hy
  rw [hn] at hc0
  rw [he]
  have hpn : pageN c.page x.quota y = (slotN x.quota y + c.page / y - 1) / (c.page / y) := rfl
  rw [hpn]
  obtain ⟨n, hn'⟩ : ∃ n, n = slotN x.quota y := ⟨_, rfl⟩
  rw [← hn'] at hc0 hsl ⊢
  obtain ⟨q, tr, cp, ax⟩ := x
  obtain ⟨cl, page, tn, workers, grey, gens⟩ := c
  dsimp only at hS hT' l1 l2 he hx hy hb hb2 hil hjl hpg hper
  simp only [cfgV, cfgL] at hc0 ⊢
  obtain ⟨pr, hpr⟩ : ∃ p, p = page / y := ⟨_, rfl⟩
  rw [← hpr] at hper ⊢
  refine Call.enter3 (n := 36) (by kernel_rfl) Tryz.func213 rfl rfl rfl ?_
  refine zco ?_; intro b3
  refine zaC fun T hT => ?_
  refine zaK ?_
  rintro _ _ ⟨rfl, rfl⟩
  simp only [prV]
  refine zd ?_
  clear hT T
  refine zG ?_
  refine zaB ?_
  refine zA ?_
  refine KL.nil (KE.next (K.seq (K.block ?_)))
  refine K.loopT (σ := RpS) [(2, _), (3, _), (8, _)] (fun s kp_ => (10, .int .i64 (s.k : Nat)) :: kp_) (fun s => (b3, cells [vc, .int .i64 page, vt, .int .i64 workers, .int .i64 grey, .int .i64 gens] 25) :: H) (fun s => s.k ≤ 4096 ∧ (s.k = 0 ∨ ((s.k : Int) - 1) * pr < n)) (fun s => 4096 - s.k) (⟨0⟩) bySub byPart (⟨by simp, by simp⟩) ?_
  rintro ⟨u⟩ ⟨hu, hr⟩
  dsimp only at hu hr ⊢
  have hum : 0 ≤ (u : Int) * (page / y) := Int.mul_nonneg (by omega) (by rw [← hpr]; omega)
  have hum1 : (u : Int) ≤ (u : Int) * (page / y) := by
   have : (u : Int) * 1 ≤ (u : Int) * (page / y) := Int.mul_le_mul_of_nonneg_left (by rw [← hpr]; exact hper.1) (by omega)
   omega
  have hum2 : (u : Int) * (page / y) ≤ 262144 := by
   have : (u : Int) * (page / y) ≤ (u : Int) * 64 := Int.mul_le_mul_of_nonneg_left (by rw [← hpr]; exact hper.2) (by omega)
   omega
  by_cases hlt : (u : Int) * (page / y) < n
  ·have hu4 : u + 1 ≤ 4096 := by omega
   have hnx : (((u + 1 : Nat) : Int) - 1) * pr < n := by rw [show (((u + 1 : Nat) : Int) - 1) = (u : Int) by omega, hpr]; exact hlt
   refine zf1 ?_
   refine zlj ?_
   refine zo ?_
   refine zdj ?_
   refine zcT ?_
   refine zdS ?_
   refine zgS ?_
   refine zgT ?_
   refine zo ?_
   refine KD.v0 rfl rfl (Val.isT (Val.lss rfl rfl) byLt) ?_
   refine zV ?_
   refine KE.next (K.condT rfl (K.skip (KE.next (K.block (K.region ?_)))))
   refine zf ?_
   refine zcK ?_
   refine zbY ?_
   exact KE.again ⟨u + 1⟩ bySub byPart ⟨hu4, .inr hnx⟩ (by show 4096 - (u + 1) < 4096 - u; omega)
  ·have hcl : (n + pr - 1) / pr = (u : Int) := ceil_of hper.1 (by rw [hpr]; omega) (by rcases hr with h | h; exact .inl (by omega); exact .inr h) (by omega)
   rw [hcl]
   refine zf1 ?_
   refine zlj ?_
   refine zo ?_
   refine zdj ?_
   refine zcT ?_
   refine zdS ?_
   refine zgS ?_
   refine zgT ?_
   refine zo ?_
   refine zf0 ?_
   refine zV ?_
   refine KE.next (K.condF rfl ?_)
   refine ziw ?_
   refine zd0 ?_
   exact za4
set_option maxRecDepth 10000
structure RrS where
 k : Nat
theorem rRegion_K {w0 : World} {H : Heap} {c : Cfg} {vc vt : Value} {t : Int} (hR : CfgR w0 H c vc vt) :
  Call Tryz.prog w0 138 [cfgV c vc vt, .int .i64 t] H (fun r H' => r = prV (regionP c t) ∧ H' = H) := by
 have hc0 := fun A (hp : Part A H) => rthere_K (t := t) (k := 0) (hR.part hp)
 cases ht : thereP c t 0 with
 | false =>
  obtain ⟨hS, hT', o1, o2, l1, l2⟩ := hR
  have he : regionP c t = (0, 2) := by simp [regionP, ht]
  rw [ht] at hc0
  rw [he]
  obtain ⟨cl, page, tn, workers, grey, gens⟩ := c
  dsimp only at hS hT' l1 l2 he
  simp only [cfgV, cfgL] at hc0 ⊢
  refine Call.enter2 (n := 35) (by kernel_rfl) Tryz.func138 rfl rfl rfl ?_
  refine za5 ?_; intro b2
  refine zz fun T hT => ?_
  refine zaK ?_
  rintro _ _ ⟨rfl, rfl⟩
  refine zd ?_
  clear hT T
  exact zeE
 | true =>
  obtain ⟨i, j, x, y, rfl, _, hx, hy, ok⟩ := there_at ht
  have hil := lt_of_get hx
  have hcp : cfgP c = true := by simp only [thereP, Bool.and_eq_true] at ht; exact ht.1
  have hok := ok.cl
  have he : regionP c (i : Nat) = (sumN (pwP c (i : Nat)) c.cl.length, 0) := by simp [regionP, ht, wordsP]
  have hpg := fun A (hp : Part A H) (k : Nat) => rPages_K (t := (i : Nat)) (k := (k : Nat)) (hR.part hp)
  have hB := fun k (hk : k < c.cl.length) => pw_le (there_of hcp hil hk)
  have hz := fun k (hk : k < c.cl.length) => (pages_le (there_of hcp hil hk)).2.2
  have hpwd : ∀ k, (pagesP c (i : Nat) ((k : Nat) : Int)).1 * c.page = pwP c (i : Nat) k := fun k => rfl
  obtain ⟨hS, hT', o1, o2, l1, l2⟩ := hR
  rw [ht] at hc0
  rw [he]
  obtain ⟨f, hf⟩ : ∃ f, f = pwP c (i : Nat) := ⟨_, rfl⟩
  obtain ⟨g, hg⟩ : ∃ g : Nat → Int × Int, g = fun k => pagesP c (i : Nat) ((k : Nat) : Int) := ⟨_, rfl⟩
  have hgk : ∀ k : Nat, pagesP c (i : Nat) ((k : Nat) : Int) = g k := fun k => by rw [hg]
  rw [← hf] at hB hpwd ⊢
  simp only [hgk] at hpg hz hpwd
  clear hg hgk hf he
  obtain ⟨cl, page, tn, workers, grey, gens⟩ := c
  dsimp only at hS hT' l1 l2 hok hB hz hpwd hil ⊢
  simp only [cfgV, cfgL, prV] at hc0 hpg ⊢
  refine Call.enter2 (n := 35) (by kernel_rfl) Tryz.func138 rfl rfl rfl ?_
  refine za5 ?_; intro b2
  refine zz fun T hT => ?_
  refine zaK ?_
  rintro _ _ ⟨rfl, rfl⟩
  refine zd ?_
  clear hT T
  refine zaG ?_
  refine zcn ?_
  refine K.loopT (σ := RrS) [(1, _), (2, _)] (fun s kp_ => (7, .int .i64 (s.k : Nat)) :: (6, .int .i64 (sumN f s.k)) :: kp_) (fun s => (b2, cells [vc, .int .i64 page, vt, .int .i64 workers, .int .i64 grey, .int .i64 gens] 25) :: H) (fun s => s.k ≤ cl.length) (fun s => cl.length - s.k) (⟨0⟩) bySub byPart ((by simp)) ?_
  rintro ⟨k⟩ hk
  dsimp only at hk ⊢
  by_cases hlt : k < cl.length
  ·have b1' := sumN_le (f := f) (n := k) (fun i hi => hB i (by omega))
   have b2' := hB k hlt
   have hzk := hz k hlt
   have hpk := hpwd k
   have hpgk := fun A hp => hpg A hp k
   obtain ⟨⟨p1, p2⟩, hgp⟩ : ∃ p, p = g k := ⟨_, rfl⟩
   rw [← hgp] at hzk hpk
   simp only [← hgp] at hpgk
   dsimp only at hzk hpk hpgk
   subst hzk
   obtain ⟨a, ha⟩ : ∃ a, a = sumN f k := ⟨_, rfl⟩
   have hs : sumN f (k + 1) = a + p1 * page := by rw [ha, hpk]; rfl
   rw [← hpk] at b2'
   rw [← ha] at b1' ⊢
   refine zdr ?_
   refine za3 ?_
   refine zaC fun T hT => ?_
   refine (CallV.fn (hpgk _ byPart)).mono ?_
   rintro _ _ ⟨rfl, rfl⟩
   refine zd ?_
   clear hT T
   refine zag ?_
   refine zdo ?_
   refine zj ?_
   refine zU ?_
   refine zeX ?_
   refine zcK ?_
   refine zbq ?_
   rw [← hs]
   exact KE.again ⟨k + 1⟩ bySub byPart (by show k + 1 ≤ _; omega) (by show cl.length - (k + 1) < cl.length - k; omega)
  ·have hke : k = cl.length := by omega
   subst hke
   refine zdr ?_
   refine zfx ?_
   refine zf ?_
   exact za4
open Go.RowKit
set_option maxRecDepth 10000
structure RbS where
 k : Nat
theorem region_in {c : Cfg} {i : Nat} (hc : cfgP c = true) (hi : i < c.tn.length) : regionP c ((i : Nat) : Int) = (wordsP c (i : Nat), 0) := by
 have h := there_of (j := 0) hc hi (by have := (cfg_ok hc).cl; omega)
 have h' : thereP c ((i : Nat) : Int) 0 = true := h
 simp [regionP, h']
theorem base_in {c : Cfg} {i : Nat} (hc : cfgP c = true) (hi : i < c.tn.length) : cbaseP c ((i : Nat) : Int) = (sumN (fun i => wordsP c (i : Nat)) i, 0) := by
 have h := there_of (j := 0) hc hi (by have := (cfg_ok hc).cl; omega)
 have h' : thereP c ((i : Nat) : Int) 0 = true := h
 simp [cbaseP, h']
theorem rBase_K {w0 : World} {H : Heap} {c : Cfg} {vc vt : Value} {t : Int} (hR : CfgR w0 H c vc vt) :
  Call Tryz.prog w0 137 [cfgV c vc vt, .int .i64 t] H (fun r H' => r = prV (cbaseP c t) ∧ H' = H) := by
 have hc0 := fun A (hp : Part A H) => rthere_K (t := t) (k := 0) (hR.part hp)
 cases ht : thereP c t 0 with
 | false =>
  obtain ⟨hS, hT', o1, o2, l1, l2⟩ := hR
  have he : cbaseP c t = (0, 2) := by simp [cbaseP, ht]
  rw [ht] at hc0
  rw [he]
  obtain ⟨cl, page, tn, workers, grey, gens⟩ := c
  dsimp only at hS hT' l1 l2 he
  simp only [cfgV, cfgL] at hc0 ⊢
  refine Call.enter2 (n := 29) (by kernel_rfl) Tryz.func137 rfl rfl rfl ?_
  refine za5 ?_; intro b2
  refine zz fun T hT => ?_
  refine zaK ?_
  rintro _ _ ⟨rfl, rfl⟩
  refine zd ?_
  clear hT T
  exact zeE
 | true =>
  obtain ⟨i, j, x, y, rfl, _, hx, hy, ok⟩ := there_at ht
  have hil := lt_of_get hx
  have hcp : cfgP c = true := by simp only [thereP, Bool.and_eq_true] at ht; exact ht.1
  have hok := ok.tn
  have he := base_in hcp hil
  have hpg := fun A (hp : Part A H) (k : Nat) (hk : k < c.tn.length) => (region_in hcp hk) ▸ rRegion_K (t := (k : Nat)) (hR.part hp)
  have hB := fun k (hk : k < c.tn.length) => words_le hcp hk
  obtain ⟨hS, hT', o1, o2, l1, l2⟩ := hR
  rw [ht] at hc0
  rw [he]
  obtain ⟨f, hf⟩ : ∃ f : Nat → Int, f = fun i => wordsP c (i : Nat) := ⟨_, rfl⟩
  have hfi : ∀ i, wordsP c (i : Nat) = f i := fun i => by rw [hf]
  rw [← hf]
  simp only [hfi] at hB hpg
  clear hf hfi he
  obtain ⟨cl, page, tn, workers, grey, gens⟩ := c
  dsimp only at hS hT' l1 l2 hok hB hil hpg ⊢
  simp only [cfgV, cfgL, prV] at hc0 hpg ⊢
  refine Call.enter2 (n := 29) (by kernel_rfl) Tryz.func137 rfl rfl rfl ?_
  refine za5 ?_; intro b2
  refine zz fun T hT => ?_
  refine zaK ?_
  rintro _ _ ⟨rfl, rfl⟩
  refine zd ?_
  clear hT T
  refine zaG ?_
  refine zcn ?_
  refine K.loopT (σ := RbS) [(1, _), (2, _)] (fun s kp_ => (7, .int .i64 (s.k : Nat)) :: (6, .int .i64 (sumN f s.k)) :: kp_) (fun s => (b2, cells [vc, .int .i64 page, vt, .int .i64 workers, .int .i64 grey, .int .i64 gens] 25) :: H) (fun s => s.k ≤ i) (fun s => i - s.k) (⟨0⟩) bySub byPart ((by simp)) ?_
  rintro ⟨k⟩ hk
  dsimp only at hk ⊢
  by_cases hlt : k < i
  ·have b1' := sumN_le (f := f) (n := k) (fun i hi => hB i (by omega))
   have b2' := hB k (by omega)
   have hpgk := fun A hp => hpg A hp k (by omega)
   obtain ⟨a, ha⟩ : ∃ a, a = sumN f k := ⟨_, rfl⟩
   obtain ⟨b, hb⟩ : ∃ b, b = f k := ⟨_, rfl⟩
   have hs : sumN f (k + 1) = a + b := by rw [ha, hb]; rfl
   rw [← hb] at b2'
   simp only [← hb] at hpgk
   rw [← ha] at b1' ⊢
   refine zcI ?_
   refine zE ?_
   refine zed ?_
   refine zz fun T hT => ?_
   refine (CallV.fn (hpgk _ byPart)).mono ?_
   rintro _ _ ⟨rfl, rfl⟩
   refine zd ?_
   clear hT T
   refine zag ?_
   refine zdo ?_
   refine zj ?_
   refine zcK ?_
   refine zbq ?_
   rw [← hs]
   exact KE.again ⟨k + 1⟩ bySub byPart (by show k + 1 ≤ _; omega) (by show i - (k + 1) < i - k; omega)
  ·have hke : k = i := by omega
   subst hke
   refine zcI ?_
   refine zfp ?_
   refine zf ?_
   exact za4
set_option maxRecDepth 10000
theorem rTotal_K {w0 : World} {H : Heap} {c : Cfg} {vc vt : Value} (hR : CfgR w0 H c vc vt) :
  Call Tryz.prog w0 53 [cfgV c vc vt] H (fun r H' => r = prV (totalP c) ∧ H' = H) := by
 have hb0 := fun A (hp : Part A H) => rBase_K (t := (c.tn.length : Nat) - 1) (hR.part hp)
 have hr0 := fun A (hp : Part A H) => rRegion_K (t := (c.tn.length : Nat) - 1) (hR.part hp)
 cases hc : cfgP c with
 | false =>
  obtain ⟨hS, hT', o1, o2, l1, l2⟩ := hR
  have he : totalP c = (0, 2) := by simp [totalP, hc]
  have hb : cbaseP c ((c.tn.length : Nat) - 1) = (0, 2) := by simp [cbaseP, thereP, hc]
  rw [hb] at hb0
  rw [he]
  clear hr0 hb
  obtain ⟨cl, page, tn, workers, grey, gens⟩ := c
  dsimp only at hS hT' l1 l2 he hb0
  simp only [cfgV, cfgL, prV] at hb0 ⊢
  refine Call.enter1 (n := 32) (by kernel_rfl) Tryz.func53 rfl rfl rfl ?_
  refine zco ?_; intro b1
  refine zB ?_
  refine zas ?_
  refine zP ?_
  refine zbi ?_
  refine zg fun T hT => ?_
  refine (CallV.fn (hb0 _ byPart)).mono ?_
  rintro _ _ ⟨rfl, rfl⟩
  refine zd ?_
  clear hT T
  refine zG ?_
  refine zcU ?_
  exact zdh
 | true =>
  have hok := (cfg_ok hc).tn
  obtain ⟨m, hm⟩ : ∃ m, c.tn.length = m + 1 := ⟨c.tn.length - 1, by omega⟩
  have hml : m < c.tn.length := by omega
  have hmi : ((c.tn.length : Nat) : Int) - 1 = (m : Nat) := by omega
  have hb : cbaseP c ((c.tn.length : Nat) - 1) = (sumN (fun i => wordsP c (i : Nat)) m, 0) := by rw [hmi]; exact base_in hc hml
  have hr : regionP c ((c.tn.length : Nat) - 1) = (wordsP c (m : Nat), 0) := by rw [hmi]; exact region_in hc hml
  have hB := fun k (hk : k < c.tn.length) => words_le hc hk
  have he : totalP c = (sumN (fun i => wordsP c (i : Nat)) m + wordsP c (m : Nat), 0) := by simp only [totalP, hc, if_true, hm]; rfl
  have hb1 := sumN_le (f := fun i => wordsP c (i : Nat)) (n := m) (fun k hk => hB k (by omega))
  have hb2 := hB m hml
  rw [hb] at hb0
  rw [hr] at hr0
  rw [he]
  obtain ⟨a, ha⟩ : ∃ a, a = sumN (fun i => wordsP c (i : Nat)) m := ⟨_, rfl⟩
  obtain ⟨b, hb'⟩ : ∃ b, b = wordsP c (m : Nat) := ⟨_, rfl⟩
  rw [← ha] at hb0 hb1 ⊢
  rw [← hb'] at hr0 hb2 ⊢
  clear ha hb' hb hr he hB
  obtain ⟨hS, hT', o1, o2, l1, l2⟩ := hR
  obtain ⟨cl, page, tn, workers, grey, gens⟩ := c
  dsimp only at hS hT' l1 l2 hok hb0 hr0 hm hml hmi ⊢
  simp only [cfgV, cfgL, prV] at hb0 hr0 ⊢
  refine Call.enter1 (n := 32) (by kernel_rfl) Tryz.func53 rfl rfl rfl ?_
  refine zco ?_; intro b1
  refine zB ?_
  refine zas ?_
  refine zP ?_
  refine zbi ?_
  refine zg fun T hT => ?_
  refine (CallV.fn (hb0 _ byPart)).mono ?_
  rintro _ _ ⟨rfl, rfl⟩
  refine zd ?_
  clear hT T
  refine zG ?_
  refine zaB ?_
  refine zB ?_
  refine zas ?_
  refine zP ?_
  refine zbi ?_
  refine zg fun T hT => ?_
  refine (CallV.fn (hr0 _ byPart)).mono ?_
  rintro _ _ ⟨rfl, rfl⟩
  refine zd ?_
  clear hT T
  refine zbw ?_
  refine zj ?_
  refine zQ ?_
  exact za4
set_option maxRecDepth 10000
def smallP (c : Cfg) : Bool := decide (c.cl.length ≤ 50) && decide (c.tn.length ≤ 50)
theorem Small_K {w0 : World} {H : Heap} {c : Cfg} {vc vt : Value} (hR : CfgR w0 H c vc vt) :
  Call Tryz.prog w0 54 [cfgV c vc vt] H (fun r H' => r = .bool (smallP c) ∧ H' = H) := by
 obtain ⟨hS, hT', o1, o2, l1, l2⟩ := hR
 obtain ⟨cl, page, tn, workers, grey, gens⟩ := c
 dsimp only at hS hT' l1 l2
 simp only [cfgV, cfgL]
 have hd : smallP ⟨cl, page, tn, workers, grey, gens⟩ = (decide (cl.length ≤ 50) && decide (tn.length ≤ 50)) := rfl
 refine Call.enter1 (n := 13) (by kernel_rfl) Tryz.func54 rfl rfl rfl ?_
 by_cases h1 : cl.length ≤ 50
 ·by_cases h2 : tn.length ≤ 50
  ·have he : smallP ⟨cl, page, tn, workers, grey, gens⟩ = true := by rw [hd, decide_eq_true h1, decide_eq_true h2]; rfl
   refine zg7 ?_; intro b1
   refine zP ?_
   refine zah ?_
   refine zu ?_
   refine zaT ?_
   refine zaS ?_
   refine zah ?_
   refine zgJ ?_
   exact zec
  ·have he : smallP ⟨cl, page, tn, workers, grey, gens⟩ = false := by rw [hd, decide_eq_true h1, decide_eq_false h2]; rfl
   refine zg7 ?_; intro b1
   refine zP ?_
   refine zah ?_
   refine zu ?_
   refine zaT ?_
   refine zaS ?_
   refine zcq ?_
   refine zgJ ?_
   exact zec
 ·have he : smallP ⟨cl, page, tn, workers, grey, gens⟩ = false := by rw [hd, decide_eq_false h1]; rfl
  refine zg7 ?_; intro b1
  refine zP ?_
  refine zcq ?_
  refine zbF ?_
  refine zdy ?_
  exact zec
set_option maxRecDepth 10000
def cumN (n : Nat → Nat) : Nat → Nat
 | 0 => 0
 | k + 1 => cumN n k + n k
def cutL {β : Type} (n : Nat → Nat) (f : Nat → Nat → β) : Nat → List β
 | 0 => []
 | m + 1 => cutL n f m ++ (List.range (n m)).map (f m)
section
variable {β : Type} {n : Nat → Nat} {f : Nat → Nat → β}
theorem cutL_len : ∀ m, (cutL n f m).length = cumN n m
 | 0 => rfl
 | m + 1 => by simp [cutL, cumN, cutL_len m]
theorem cumN_mono {k m : Nat} (h : k ≤ m) : cumN n k ≤ cumN n m := by
  induction m with
  | zero => have : k = 0 := by omega
            subst this; exact Nat.le_refl _
  | succ m ih =>
    by_cases hk : k = m + 1
    · subst hk; exact Nat.le_refl _
    · have := ih (by omega); simp only [cumN]; omega
theorem cumN_step {k m : Nat} (h : k < m) : cumN n k + n k ≤ cumN n m := cumN_mono (n := n) (show k + 1 ≤ m from h)
theorem cutL_get {k d : Nat} : ∀ {m : Nat}, k < m → d < n k → (cutL n f m)[cumN n k + d]? = some (f k d)
 | m + 1, hk, hd => by
  rw [cutL]
  by_cases h : k = m
  ·subst h
   rw [List.getElem?_append_right (by rw [cutL_len]; omega), cutL_len, Nat.add_sub_cancel_left, List.getElem?_map, List.getElem?_range hd]; rfl
  ·have := cumN_step (n := n) (show k < m by omega)
   rw [List.getElem?_append_left (by rw [cutL_len]; omega)]
   exact cutL_get (by omega) hd
theorem cum_find {i : Nat} : ∀ {m : Nat}, i < cumN n m → ∃ k d, k < m ∧ d < n k ∧ i = cumN n k + d
 | 0, h => by simp [cumN] at h
 | m + 1, h => by
  by_cases h1 : i < cumN n m
  ·obtain ⟨k, d, hk, hd, e⟩ := cum_find h1
   exact ⟨k, d, by omega, hd, e⟩
  ·simp only [cumN] at h
   exact ⟨m, i - cumN n m, by omega, by omega, by omega⟩
theorem cut_at {m i : Nat} {x : β} (h : (cutL n f m)[i]? = some x) : ∃ k d, k < m ∧ d < n k ∧ i = cumN n k + d ∧ x = f k d := by
 have hi : i < cumN n m := by have := (List.getElem?_eq_some_iff.1 h).1; rwa [cutL_len] at this
 obtain ⟨k, d, hk, hd, rfl⟩ := cum_find hi
 rw [cutL_get hk hd] at h
 cases h
 exact ⟨k, d, hk, hd, rfl, rfl⟩
theorem cum_uniq {k d k' d' : Nat} (hd : d < n k) (hd' : d' < n k') (h : cumN n k + d = cumN n k' + d') : k = k' ∧ d = d' := by
 rcases Nat.lt_trichotomy k k' with h1 | h1 | h1
 ·have := cumN_step (n := n) h1; omega
 ·subst h1; omega
 ·have := cumN_step (n := n) h1; omega
end
structure PlG where
 cl : List Nat
 pg : Nat
 q : Nat
namespace PlG
def y (g : PlG) (k : Nat) : Nat := g.cl.getD k 0
def n (g : PlG) (k : Nat) : Nat := g.q / g.y k
def per (g : PlG) (k : Nat) : Nat := g.pg / g.y k
def pgs (g : PlG) (k : Nat) : Nat := (g.n k + g.per k - 1) / g.per k
def m (g : PlG) : Nat := g.cl.length
def first (g : PlG) (k : Nat) : Nat := cumN g.n k
def page (g : PlG) (k : Nat) : Nat := cumN g.pgs k
def slots (g : PlG) : Nat := g.first g.m
def pages (g : PlG) : Nat := g.page g.m
def words (g : PlG) : Nat := g.pages * g.pg
end PlG
structure SlotP where
 cls : Nat
 size : Nat
 addr : Nat
 page : Nat
structure PartP where
 size : Nat
 first : Nat
 many : Nat
 page : Nat
 per : Nat
namespace PlG
def sl (g : PlG) (k d : Nat) : SlotP := ⟨k, g.y k, (g.page k + d / g.per k) * g.pg + d % g.per k * g.y k, g.page k + d / g.per k⟩
def L (g : PlG) : List SlotP := cutL g.n g.sl g.m
def pt (g : PlG) (k : Nat) : PartP := ⟨g.y k, g.first k, g.n k, g.page k, g.per k⟩
def parts (g : PlG) : List PartP := (List.range g.m).map g.pt
end PlG
structure PlOk (g : PlG) : Prop where
 m : 1 ≤ g.m ∧ g.m ≤ 8
 y : ∀ k, k < g.m → 2 ≤ g.y k ∧ g.y k ≤ g.pg ∧ g.y k ≤ g.q
 pg : g.pg ≤ 64
 q : g.q ≤ 4096
section
variable {g : PlG}
theorem PlOk.n (ok : PlOk g) {k : Nat} (hk : k < g.m) : 1 ≤ g.n k ∧ g.n k ≤ 2048 := by
 obtain ⟨h1, h2, h3⟩ := ok.y k hk
 have := ok.q
 refine zjZ ?_
 unfold PlG.n
 exact Nat.le_trans (Nat.div_le_div_left h1 (by omega)) (by omega)
theorem PlOk.per (ok : PlOk g) {k : Nat} (hk : k < g.m) : 1 ≤ g.per k ∧ g.per k ≤ 32 := by
 obtain ⟨h1, h2, h3⟩ := ok.y k hk
 have := ok.pg
 refine zjZ ?_
 unfold PlG.per
 exact Nat.le_trans (Nat.div_le_div_left h1 (by omega)) (by omega)
theorem PlOk.pgs (ok : PlOk g) {k : Nat} (hk : k < g.m) : 1 ≤ g.pgs k ∧ g.pgs k ≤ g.n k := by
 have h1 := ok.n hk
 have h2 := ok.per hk
 refine zjZ ?_
 unfold PlG.pgs
 obtain ⟨a, ha⟩ : ∃ a, g.n k = a + 1 := ⟨g.n k - 1, by omega⟩
 obtain ⟨b, hb⟩ : ∃ b, g.per k = b + 1 := ⟨g.per k - 1, by omega⟩
 rw [ha, hb]
 refine Nat.div_le_of_le_mul ?_
 rw [Nat.add_mul]; simp only [Nat.mul_add]; omega
theorem cum_le {f : Nat → Nat} {B : Nat} : ∀ {m : Nat}, (∀ k, k < m → f k ≤ B) → cumN f m ≤ m * B
 | 0, _ => by simp [cumN]
 | m + 1, h => by
  have h1 := cum_le (m := m) (fun k hk => h k (by omega))
  have h2 := h m (by omega)
  simp only [cumN, Nat.succ_mul]; omega
theorem PlOk.first (ok : PlOk g) {k : Nat} (hk : k ≤ g.m) : g.first k ≤ 16384 := by
 have h := cum_le (f := g.n) (B := 2048) (m := k) (fun j hj => (ok.n (by omega)).2)
 have := ok.m
 unfold PlG.first; omega
theorem PlOk.page (ok : PlOk g) {k : Nat} (hk : k ≤ g.m) : g.page k ≤ 16384 := by
 have h := cum_le (f := g.pgs) (B := 2048) (m := k) (fun j hj => Nat.le_trans (ok.pgs (by omega)).2 (ok.n (by omega)).2)
 have := ok.m
 unfold PlG.page; omega
theorem PlOk.slots (ok : PlOk g) : 1 ≤ g.slots ∧ g.slots ≤ 16384 := by
 refine ⟨?_, ok.first (Nat.le_refl _)⟩
 have h := cumN_step (n := g.n) (k := 0) (m := g.m) (by have := ok.m; omega)
 have := (ok.n (k := 0) (by have := ok.m; omega)).1
 unfold PlG.slots PlG.first; omega
theorem PlOk.pages (ok : PlOk g) : 1 ≤ g.pages ∧ g.pages ≤ 16384 := by
 refine ⟨?_, ok.page (Nat.le_refl _)⟩
 have h := cumN_step (n := g.pgs) (k := 0) (m := g.m) (by have := ok.m; omega)
 have := (ok.pgs (k := 0) (by have := ok.m; omega)).1
 unfold PlG.pages PlG.page; omega
theorem PlOk.pg1 (ok : PlOk g) : 2 ≤ g.pg := by
 have h := ok.y 0 (by have := ok.m; omega)
 omega
theorem PlOk.words (ok : PlOk g) : g.words ≤ 1048576 := by
 have h1 := ok.pages.2
 have h2 := ok.pg
 exact Nat.le_trans (Nat.mul_le_mul h1 h2) (by omega)
theorem L_len : g.L.length = g.slots := cutL_len _
theorem L_get {k d : Nat} (hk : k < g.m) (hd : d < g.n k) : g.L[g.first k + d]? = some (g.sl k d) := cutL_get hk hd
theorem L_at {i : Nat} {x : SlotP} (h : g.L[i]? = some x) : ∃ k d, k < g.m ∧ d < g.n k ∧ i = g.first k + d ∧ x = g.sl k d := cut_at h
theorem PlOk.inpg (ok : PlOk g) {k d : Nat} (hk : k < g.m) (hd : d < g.n k) : d / g.per k < g.pgs k := by
 have h1 := ok.n hk
 have h2 := ok.per hk
 unfold PlG.pgs
 refine (Nat.le_div_iff_mul_le (by omega)).2 ?_
 have h3 := Nat.div_mul_le_self d (g.per k)
 rw [Nat.succ_mul]; omega
theorem PlOk.pg_lt (ok : PlOk g) {k d : Nat} (hk : k < g.m) (hd : d < g.n k) : g.page k + d / g.per k < g.pages := by
 have h1 := ok.inpg hk hd
 have h2 := cumN_step (n := g.pgs) hk
 unfold PlG.pages; unfold PlG.page at *; omega
theorem PlOk.inside (ok : PlOk g) {k d : Nat} (hk : k < g.m) : d % g.per k * g.y k + g.y k ≤ g.pg := by
 have h2 := ok.per hk
 have h3 := Nat.mod_lt d (show 0 < g.per k by omega)
 have h4 : (d % g.per k + 1) * g.y k ≤ g.per k * g.y k := Nat.mul_le_mul_right _ (by omega)
 have h5 : g.per k * g.y k ≤ g.pg := Nat.div_mul_le_self _ _
 rw [Nat.succ_mul] at h4
 omega
theorem PlOk.fits (ok : PlOk g) {i : Nat} {x : SlotP} (h : g.L[i]? = some x) : x.addr + x.size ≤ g.words ∧ 2 ≤ x.size ∧ x.size ≤ 64 ∧ x.page < g.pages ∧ x.page * g.pg ≤ x.addr ∧ x.addr + x.size ≤ (x.page + 1) * g.pg ∧ x.cls < g.m := by
 obtain ⟨k, d, hk, hd, rfl, rfl⟩ := L_at h
 have h1 := ok.pg_lt hk hd
 have h2 := ok.inside (d := d) hk
 have h3 := ok.y k hk
 have h4 := ok.pg
 have h5 : (g.page k + d / g.per k + 1) * g.pg ≤ g.words := Nat.mul_le_mul_right _ h1
 rw [Nat.succ_mul] at h5
 simp only [PlG.sl, Nat.succ_mul]
 refine ⟨by omega, by omega, by omega, h1, by omega, by omega, hk⟩
theorem PlOk.apart (ok : PlOk g) {i i' : Nat} {x x' : SlotP} (h : g.L[i]? = some x) (h' : g.L[i']? = some x') (hne : i ≠ i') : x.addr + x.size ≤ x'.addr ∨ x'.addr + x'.size ≤ x.addr := by
 obtain ⟨a1, _, _, _, a2, a3, _⟩ := ok.fits h
 obtain ⟨b1, _, _, _, b2, b3, _⟩ := ok.fits h'
 rcases Nat.lt_trichotomy x.page x'.page with h1 | h1 | h1
 ·have : (x.page + 1) * g.pg ≤ x'.page * g.pg := Nat.mul_le_mul_right _ h1
  left; omega
 ·obtain ⟨k, d, hk, hd, rfl, rfl⟩ := L_at h
  obtain ⟨k', d', hk', hd', rfl, rfl⟩ := L_at h'
  obtain ⟨e1, e2⟩ := cum_uniq (n := g.pgs) (ok.inpg hk hd) (ok.inpg hk' hd') h1
  subst e1
  simp only [PlG.sl] at a2 a3 b2 b3 ⊢
  rw [e2]
  have hy := ok.y k hk
  rcases Nat.lt_trichotomy (d % g.per k) (d' % g.per k) with h2 | h2 | h2
  ·have : (d % g.per k + 1) * g.y k ≤ d' % g.per k * g.y k := Nat.mul_le_mul_right _ h2
   rw [Nat.succ_mul] at this
   left; omega
  ·exfalso
   have q1 := Nat.div_add_mod d (g.per k)
   have q2 := Nat.div_add_mod d' (g.per k)
   rw [← e2, ← h2] at q2
   omega
  ·have : (d' % g.per k + 1) * g.y k ≤ d % g.per k * g.y k := Nat.mul_le_mul_right _ h2
   rw [Nat.succ_mul] at this
   right; omega
 ·have : (x'.page + 1) * g.pg ≤ x.page * g.pg := Nat.mul_le_mul_right _ h1
  right; omega
theorem parts_len : g.parts.length = g.m := by simp [PlG.parts]
theorem parts_get {k : Nat} (hk : k < g.m) : g.parts[k]? = some (g.pt k) := by simp [PlG.parts, hk]
end
open Go.RowKit
set_option maxRecDepth 10000
def WdOk (x : List Int) : Prop := ∀ w ∈ x, 0 ≤ w ∧ w < 18446744073709551616
theorem WdOk.set {x : List Int} (h : WdOk x) {a : Nat} {w : Int} (hw : 0 ≤ w ∧ w < 18446744073709551616) : WdOk (x.set a w) := by
 intro v hv
 rcases List.mem_or_eq_of_mem_set hv with h1 | h1
 ·exact h v h1
 ·rw [h1]
  exact hw
theorem WdOk.cleared {x : List Int} (h : WdOk x) {a b : Nat} : WdOk (cleared x a b 0) := by
 intro v hv
 simp only [Go.Proofs.YtalholahapcpkaaGreatDoor.cleared, List.mem_append] at hv
 rcases hv with (h1 | h1) | h1
 ·exact h v (List.mem_of_mem_take h1)
 ·rw [(List.mem_replicate.1 h1).2]; omega
 ·exact h v (List.mem_of_mem_drop h1)
theorem WdOk.rep (n : Nat) : WdOk (List.replicate n 0) := by
 intro v hv; rw [(List.mem_replicate.1 hv).2]; omega
def wAt (x : List Int) (a : Nat) : Int := (x[a]?).getD 0
theorem wAt_get {x : List Int} {a : Nat} (h : a < x.length) : x[a]? = some (wAt x a) := by
 unfold wAt; rw [List.getElem?_eq_getElem h]; rfl
theorem WdOk.at_ {x : List Int} (h : WdOk x) (a : Nat) : 0 ≤ wAt x a ∧ wAt x a < 18446744073709551616 := by
 unfold wAt
 cases hx : x[a]? with
 | none => simp
 | some w => exact h w (List.mem_of_getElem? hx)
def liesP (p : SlotP) (h : HdP) : Bool := mayH h && (decide (h.c = p.cls) && decide (h.r + h.w + 1 ≤ p.size))
def headP (x : List Int) (p : SlotP) : Option HdP := match getH (wAt x p.addr).toNat with
 | some h => if liesP p h then some h else none
 | none => none
def wipeP (x : List Int) (p : SlotP) : List Int := cleared x p.addr (p.addr + p.size) 0
def putW (h : HdP) : Int := (putN h.c.toNat h.r.toNat h.w.toNat : Nat)
def makeP (x : List Int) (p : SlotP) (h : HdP) : Int × List Int :=
 if liesP p h then (if (headP x p).isSome then (8, x) else (0, (wipeP x p).set p.addr (putW h))) else (2, x)
def fldP (x : List Int) (p : SlotP) (ref : Bool) (i : Int) : Int := match headP x p with
 | none => 5
 | some h => if 0 ≤ i ∧ i < h.r + h.w ∧ decide (i < h.r) = ref then 0 else 110
def fAt (p : SlotP) (i : Int) : Nat := p.addr + 1 + i.toNat
def refP (x : List Int) (n : Nat) (p : SlotP) (i : Int) : Int × Int :=
 if fldP x p true i = 0 then (if wAt x (fAt p i) > n then (0, 5) else (wAt x (fAt p i) - 1, 0)) else (0, fldP x p true i)
def setRefP (x : List Int) (n : Nat) (p : SlotP) (i to : Int) : Int × List Int :=
 if to < -1 ∨ to ≥ n then (2, x) else if fldP x p true i = 0 then (0, x.set (fAt p i) (to + 1)) else (fldP x p true i, x)
theorem lies_of {p : SlotP} {h : HdP} (e : liesP p h = true) : mayH h = true ∧ h.c = p.cls ∧ h.r + h.w + 1 ≤ p.size := by
 simp only [liesP, Bool.and_eq_true, decide_eq_true_eq] at e; exact e
theorem headP_of {x : List Int} {p : SlotP} {h : HdP} (e : headP x p = some h) : getH (wAt x p.addr).toNat = some h ∧ liesP p h = true := by
 unfold headP at e
 cases hg : getH (wAt x p.addr).toNat with
 | none => rw [hg] at e; cases e
 | some h' =>
  rw [hg] at e
  dsimp only at e
  split at e
  ·cases e; exact ⟨rfl, by assumption⟩
  ·cases e
theorem fld_in {x : List Int} {p : SlotP} {ref : Bool} {i : Int} (e : fldP x p ref i = 0) : 0 ≤ i ∧ fAt p i < p.addr + p.size ∧ p.addr < fAt p i := by
 unfold fldP at e
 cases hh : headP x p with
 | none => rw [hh] at e; simp at e
 | some h =>
  rw [hh] at e
  dsimp only at e
  obtain ⟨_, hl⟩ := headP_of hh
  obtain ⟨hm, _, hs⟩ := lies_of hl
  split at e
  ·rename_i hc
   simp only [mayH, decide_eq_true_eq] at hm
   unfold fAt
   omega
  ·omega
theorem wipe_len {x : List Int} {p : SlotP} (h : p.addr + p.size ≤ x.length) : (wipeP x p).length = x.length := cleared_len (by omega) h
theorem make_len {x : List Int} {p : SlotP} {h : HdP} (hp : p.addr + p.size ≤ x.length) : (makeP x p h).2.length = x.length := by
 unfold makeP; split
 ·split
  ·rfl
  ·simp only [List.length_set]
   exact wipe_len hp
 ·rfl
theorem setRef_len {x : List Int} {n : Nat} {p : SlotP} {i to : Int} : (setRefP x n p i to).2.length = x.length := by
 unfold setRefP; split
 ·rfl
 ·split
  ·simp
  ·rfl
theorem putW_bnd {h : HdP} (hm : mayH h = true) : 0 ≤ putW h ∧ putW h < 18446744073709551616 := by
 simp only [mayH, decide_eq_true_eq] at hm
 unfold putW putN
 have e1 : (2 : Nat) ^ 16 = 65536 := by decide
 have e2 : (2 : Nat) ^ 32 = 4294967296 := by decide
 have e3 : (2 : Nat) ^ 48 = 281474976710656 := by decide
 have e4 : (2 : Nat) ^ 56 = 72057594037927936 := by decide
 rw [e1, e2, e3, e4]; omega
theorem make_ok {x : List Int} {p : SlotP} {h : HdP} (hx : WdOk x) : WdOk (makeP x p h).2 := by
 unfold makeP; split
 ·rename_i hl
  split
  ·exact hx
  ·exact (WdOk.cleared hx).set (putW_bnd (lies_of hl).1)
 ·exact hx
theorem setRef_ok {x : List Int} {n : Nat} {p : SlotP} {i to : Int} (hx : WdOk x) (hn : n ≤ 1000000) : WdOk (setRefP x n p i to).2 := by
 unfold setRefP; split
 ·exact hx
 ·split
  ·exact hx.set (by omega)
  ·exact hx
open Go.RowKit
set_option maxRecDepth 10000
def gOf (c : Cfg) (t : Int) : PlG := ⟨c.cl.map Int.toNat, c.page.toNat, (cfgQ c t).toNat⟩
section
variable {c : Cfg} {t : Int}
theorem gOf_m : (gOf c t).m = c.cl.length := by simp [PlG.m, gOf]
theorem gOf_y {k : Nat} {y : Int} (h : c.cl[k]? = some y) : (gOf c t).y k = y.toNat := by
 simp [PlG.y, gOf, List.getD, h]
structure GAt (c : Cfg) (t : Int) (g : PlG) : Prop where
 ok : PlOk g
 m : g.m = c.cl.length
 page : c.page = (g.pg : Nat)
 y : ∀ (k : Nat) (y : Int), c.cl[k]? = some y → y = (g.y k : Nat)
 slots : ∀ k : Nat, k < g.m → slotsP c t (k : Nat) = (((g.n k : Nat) : Int), 0)
 pages : ∀ k : Nat, k < g.m → pagesP c t (k : Nat) = (((g.pgs k : Nat) : Int), 0)
 region : regionP c t = (((g.words : Nat) : Int), 0)
theorem sum_cum {f : Nat → Int} {n : Nat → Nat} {p : Nat} : ∀ {m : Nat}, (∀ k, k < m → f k = ((n k * p : Nat) : Int)) → sumN f m = ((cumN n m * p : Nat) : Int)
 | 0, _ => by simp [sumN, cumN]
 | m + 1, h => by
  have h1 := sum_cum (m := m) (fun k hk => h k (by omega))
  have h2 := h m (by omega)
  simp only [sumN, cumN, h1, h2, Nat.add_mul]; omega
theorem g_at (h : thereP c t 0 = true) : GAt c t (gOf c t) := by
 obtain ⟨i, j, x, y0, rfl, _, hx, _, ok⟩ := there_at h
 have hil := lt_of_get hx
 have hcp : cfgP c = true := by simp only [thereP, Bool.and_eq_true] at h; exact h.1
 have hq : cfgQ c (i : Nat) = x.quota := by simp [cfgQ, hx]
 obtain ⟨⟨q1, q2⟩, _⟩ := ok.ten x (List.mem_of_getElem? hx)
 have hpg := ok.page
 have key : ∀ k, k < c.cl.length → ∃ y : Nat, c.cl[k]? = some (y : Int) ∧ 2 ≤ y ∧ (y : Int) ≤ topP c.cl ∧ (gOf c (i : Nat)).y k = y := by
  intro k hk
  obtain ⟨y, hy⟩ := get_of_lt hk
  have h1 := ok.el y (List.mem_of_getElem? hy)
  refine ⟨y.toNat, by rw [hy]; congr 1; omega, by omega, by omega, gOf_y hy⟩
 obtain ⟨q, hqn⟩ : ∃ q : Nat, x.quota = q := ⟨x.quota.toNat, by obtain ⟨y, _, h2, h3, _⟩ := key 0 (by have := ok.cl; omega); omega⟩
 obtain ⟨p, hpn⟩ : ∃ p : Nat, c.page = p := ⟨c.page.toNat, by obtain ⟨y, _, h2, h3, _⟩ := key 0 (by have := ok.cl; omega); omega⟩
 have hgq : (gOf c (i : Nat)).q = q := by simp [gOf, hq, hqn]
 have hgp : (gOf c (i : Nat)).pg = p := by simp [gOf, hpn]
 have hgm : (gOf c (i : Nat)).m = c.cl.length := gOf_m
 have hth : ∀ k, k < c.cl.length → thereP c (i : Nat) (k : Nat) = true := fun k hk => there_of hcp hil hk
 have hok : PlOk (gOf c (i : Nat)) := by
  refine ⟨by rw [hgm]; exact ok.cl, fun k hk => ?_, by rw [hgp]; omega, by rw [hgq]; omega⟩
  rw [hgm] at hk
  obtain ⟨y, _, h2, h3, h4⟩ := key k hk
  rw [h4, hgp, hgq]; omega
 have hsl : ∀ k : Nat, k < (gOf c (i : Nat)).m → slotsP c (i : Nat) (k : Nat) = ((((gOf c (i : Nat)).n k : Nat) : Int), 0) := by
  intro k hk
  rw [hgm] at hk
  obtain ⟨y, h1, h2, h3, h4⟩ := key k hk
  simp only [slotsP, hth k hk, if_true, slotN, hq, cfgC, Int.toNat_natCast, h1, Option.getD_some, PlG.n, h4, hgq, hqn]
  rfl
 have hpp : ∀ k : Nat, k < (gOf c (i : Nat)).m → pagesP c (i : Nat) (k : Nat) = ((((gOf c (i : Nat)).pgs k : Nat) : Int), 0) := by
  intro k hk
  have b1 := hok.n hk
  have b2 := hok.per hk
  rw [hgm] at hk
  obtain ⟨y, h1, h2, h3, h4⟩ := key k hk
  have e1 : ((gOf c (i : Nat)).n k : Int) = (q : Int) / (y : Int) := by simp only [PlG.n, h4, hgq]; rfl
  have e2 : ((gOf c (i : Nat)).per k : Int) = (p : Int) / (y : Int) := by simp only [PlG.per, h4, hgp]; rfl
  simp only [pagesP, hth k hk, if_true, pageN, hq, cfgC, Int.toNat_natCast, h1, Option.getD_some, hqn, hpn, ← e1, ← e2]
  congr 1
  unfold PlG.pgs
  have e3 : (((gOf c (i : Nat)).n k : Nat) : Int) + ((gOf c (i : Nat)).per k : Nat) - 1 = (((gOf c (i : Nat)).n k + (gOf c (i : Nat)).per k - 1 : Nat) : Int) := by omega
  rw [e3]; rfl
 refine ⟨hok, hgm, by rw [hgp, hpn], ?_, hsl, hpp, ?_⟩
 ·intro k y hy
  obtain ⟨y', h1, h2, h3, h4⟩ := key k (lt_of_get hy)
  rw [h4, hy] at *
  cases h1; rfl
 ·simp only [regionP, h, if_true, wordsP]
  congr 1
  rw [← hgm]
  refine sum_cum fun k hk => ?_
  simp only [pwP, hpp k hk, hpn, hgp]
  rfl
end
set_option maxRecDepth 10000
theorem sub_perm {α : Type} {A S : List α} (h : A.Sublist S) : ∃ F, S.Perm (A ++ F) := by
 induction h with
 | slnil => exact ⟨[], List.Perm.refl _⟩
 | cons a h ih => obtain ⟨F, hF⟩ := ih; exact ⟨a :: F, (hF.cons a).trans List.perm_middle.symm⟩
 | cons_cons a h ih => obtain ⟨F, hF⟩ := ih; exact ⟨F, hF.cons a⟩
theorem Call.ro {P : Program} {w0 : World} {f : FuncId} {args : List Value} {A H : Heap} {R : Value → Prop} (h : ∀ F, Call P w0 f args (A ++ F) (fun r H' => R r ∧ H' = A ++ F)) (hp : Part H A) : Call P w0 f args H (fun r H' => R r ∧ H' = H) := by
 obtain ⟨S, h1, h2⟩ := hp.sub
 obtain ⟨F, h3⟩ := sub_perm h2
 have hF := h1.trans h3
 refine ⟨(h F).ent, fun w hw => ((h F).out w (hw.perm hF)).mono ?_⟩
 rintro e w' ⟨v, H', rfl, hw', hr, rfl⟩
 exact ⟨v, H, rfl, hw'.perm hF.symm, hr, rfl⟩
def partL (x : PartP) : List Value := [.int .i64 (x.size : Nat), .int .i64 (x.first : Nat), .int .i64 (x.many : Nat), .int .i64 (x.page : Nat), .int .i64 (x.per : Nat)]
def partE : Enc PartP := ⟨partL, 5, fun _ => rfl, by intro x v hv; simp [partL] at hv; rcases hv with rfl | rfl | rfl | rfl | rfl <;> rfl⟩
theorem partE_enc (x : PartP) : partE.enc x = [.int .i64 (x.size : Nat), .int .i64 (x.first : Nat), .int .i64 (x.many : Nat), .int .i64 (x.page : Nat), .int .i64 (x.per : Nat)] := rfl
structure PlanM where
 b : Nat
 g : PlG
 o : Own
def planH (p : PlanM) : Heap := (p.b, cells [oV p.o p.g.parts.length, .int .i64 (p.g.slots : Nat), .int .i64 (p.g.pages : Nat), .int .i64 (p.g.pg : Nat)] 173) :: oH partE 176 p.g.parts p.o
theorem planH_app {p : PlanM} {F : Heap} : planH p ++ F = (p.b, cells [oV p.o p.g.parts.length, .int .i64 (p.g.slots : Nat), .int .i64 (p.g.pages : Nat), .int .i64 (p.g.pg : Nat)] 173) :: (oH partE 176 p.g.parts p.o ++ F) := rfl
structure PlanOk (p : PlanM) : Prop where
 g : PlOk p.g
 o : oOk partE p.g.parts p.o
theorem plnone_K {w0 : World} {F : Heap} {p : PlanM} (ok : PlanOk p) :
  Call Tryz.prog w0 145 [.pointer (some ⟨p.b, 0, none⟩)] (planH p ++ F) (fun r H' => r = .bool false ∧ H' = planH p ++ F) := by
 have h1 := ok.g.pg1
 have hne : ¬ ((p.g.pg : Nat) : Int) = 0 := by omega
 refine Call.enter1 (n := 12) (by kernel_rfl) Tryz.func145 rfl rfl rfl ?_
 simp only [rowH_app, memH_app, planH_app]
 refine zfU ?_
 refine ziz ?_
 refine zH ?_
 refine zdy ?_
 exact zf2
theorem Slots0_K {w0 : World} {F : Heap} {p : PlanM} (ok : PlanOk p) :
  Call Tryz.prog w0 60 [.pointer (some ⟨p.b, 0, none⟩)] (planH p ++ F) (fun r H' => r = .int .i64 (p.g.slots : Nat) ∧ H' = planH p ++ F) := by
 refine Call.enter1 (n := 9) (by kernel_rfl) Tryz.func60 rfl rfl rfl ?_
 refine zbc fun T hT => ?_
 refine (CallV.fn (plnone_K ok)).mono ?_
 rintro _ _ ⟨rfl, rfl⟩
 refine zd ?_
 clear hT T
 simp only [rowH_app, memH_app, planH_app]
 refine zdz ?_
 refine zU ?_
 refine zt ?_
 exact zf2
theorem Words0_K {w0 : World} {F : Heap} {p : PlanM} (ok : PlanOk p) :
  Call Tryz.prog w0 147 [.pointer (some ⟨p.b, 0, none⟩)] (planH p ++ F) (fun r H' => r = .int .i64 (p.g.words : Nat) ∧ H' = planH p ++ F) := by
 have hw := ok.g.words
 have e : ((p.g.pages : Nat) : Int) * ((p.g.pg : Nat) : Int) = ((p.g.words : Nat) : Int) := rfl
 refine Call.enter1 (n := 14) (by kernel_rfl) Tryz.func147 rfl rfl rfl ?_
 refine zbc fun T hT => ?_
 refine (CallV.fn (plnone_K ok)).mono ?_
 rintro _ _ ⟨rfl, rfl⟩
 refine zd ?_
 clear hT T
 simp only [rowH_app, memH_app, planH_app]
 refine zdF ?_
 refine zh2 ?_
 refine zK ?_
 refine zcc ?_
 refine zbU ?_
 refine zfF ?_
 refine zgT ?_
 refine za2 ?_
 exact zf2
theorem last_K {w0 : World} {F : Heap} {p : PlanM} {g : FuncId} {cap : List Value} {q : Nat → Bool} (ok : PlanOk p) (hmono : ∀ i j, i ≤ j → j < p.g.m → q j = true → q i = true)
  (hso : ∀ H' i, Part H' (planH p ++ F) → i < p.g.m → CallV Tryz.prog w0 (.func (.func g) #[] cap.toArray) [.agg (partL (p.g.pt i)).toArray] H' (fun r H'' => r = .bool (q i) ∧ H'' = H')) :
  Call Tryz.prog w0 291 [.pointer (some ⟨p.b, 0, none⟩), .func (.func g) #[] cap.toArray] (planH p ++ F) (fun r H' => ∃ i : Nat, i ≤ p.g.m ∧ (∀ j, j < i → q j = true) ∧ (∀ j, i ≤ j → j < p.g.m → q j = false) ∧ r = .int .i64 ((i : Int) - 1) ∧ H' = planH p ++ F) := by
 have hm := ok.g.m
 have hpl : p.g.parts.length = p.g.m := parts_len
 have ho := ok.o
 refine Call.enter2 (n := 13) (by kernel_rfl) Tryz.func291 rfl rfl rfl ?_
 simp only [rowH_app, memH_app, planH_app]
 refine zb3 ?_; intro b2 b3
 refine zr ?_
 refine zk ?_
 refine zac ?_
 refine zJ ?_
 refine za6 ?_
 refine zby fun T hT => ?_
 refine (CallV.part (CallV.fn (Search_K (H := (b2, cells [.pointer (some ⟨p.b, 0, none⟩)] 66) :: (b3, cells [.func (.func g) #[] cap.toArray] 369) :: (planH p ++ F)) (n := p.g.parts.length) (fun i => !q i) (by omega) ?_ ?_)) (by simp only [rowH_app, memH_app, planH_app]; exact byPart)).mono ?_
 ·intro i j h1 h2 h3
  cases hq : q j with
  | false => rfl
  | true => rw [hmono i j h1 (by omega) hq] at h3; cases h3
 ·intro i hi0
  have hi : i < p.g.m := by omega
  have hx : p.g.parts[i]? = some (p.g.pt i) := parts_get hi
  refine CallV.clo (cap := [.pointer (some ⟨b3, 0, none⟩), .pointer (some ⟨b2, 0, none⟩)]) ?_
  refine Call.enter3 (n := 15) (by kernel_rfl) Tryz.func301 rfl rfl rfl ?_
  simp only [rowH_app, memH_app, planH_app]
  refine zaj ?_
  refine zcF ?_
  refine K.drawn [] [(0, 0), (1, 0), (2, 0), (3, 0), (4, 0), (5, 0), (6, 0), (7, 0), (8, 2), (9, 0), (10, 0)] (by kernel_rfl) (by kernel_rfl) (by kernel_rfl) (by kernel_rfl) (by kernel_rfl) (by kernel_rfl) Part.nil ?_
  refine zx ?_
  refine zx ?_
  refine zca ?_
  refine zcT ?_
  refine zdD ?_
  refine KD.v0 rfl rfl (Val.loadAP rfl rfl rfl bySeeA) ?_
  refine zl fun T hT => ?_
  refine (hso _ i (by simp only [rowH_app, memH_app, planH_app]; exact byPart) hi).mono ?_
  refine zab ?_
  clear hT T
  refine KD.v0 rfl rfl (Val.notB rfl) ?_
  refine za2 ?_
  exact zf2
 ·rintro _ _ ⟨i, hi, h1, h2, rfl, rfl⟩
  refine zd ?_
  clear hT T
  refine zbi ?_
  refine zt ?_
  exact KE.fin byMarks rfl byRes (by first | exact byPart | (simp only [rowH_app, memH_app, planH_app]; exact byPart)) ⟨i, by omega, fun j hj => by have := h1 j hj; simpa using this, fun j h3 h4 => by have := h2 j h3 (by omega); simpa using this, rfl, rfl⟩
theorem find_K {w0 : World} {F : Heap} {p : PlanM} {s k d : Nat} (ok : PlanOk p) (hk : k < p.g.m) (hd : d < p.g.n k) (hs : s = p.g.first k + d) :
  Call Tryz.prog w0 272 [.pointer (some ⟨p.b, 0, none⟩), .int .i64 (s : Nat)] (planH p ++ F) (fun r H' => r = .tuple [.int .i64 (k : Nat), .int .i64 (d : Nat), .int .i64 0].toArray ∧ H' = planH p ++ F) := by
 have hm := ok.g.m
 have hpl : p.g.parts.length = p.g.m := parts_len
 have ho := ok.o
 have hst : s < p.g.slots := by
  have := cumN_step (n := p.g.n) hk
  unfold PlG.slots; unfold PlG.first at *; omega
 have hge : ¬ ((s : Nat) : Int) ≥ (p.g.slots : Nat) := by omega
 have hslb := ok.g.slots.2
 have hq : ∀ j, decide (p.g.first j ≤ s) = decide (((p.g.first j : Nat) : Int) ≤ (s : Nat)) := fun j => decide_eq_decide.2 (by omega)
 refine Call.enter2 (n := 35) (by kernel_rfl) Tryz.func272 rfl rfl rfl ?_
 refine zbl ?_; intro b3
 refine zcL ?_
 refine zhH ?_
 refine zh fun T hT => ?_
 refine (CallV.part (CallV.fn (plnone_K ok)) byPart).mono ?_
 refine ze ?_
 clear hT T
 simp only [rowH_app, memH_app, planH_app]
 refine zA ?_
 refine KL.nil (KE.next (K.condF rfl (K.seq ?_)))
 refine zf3 ?_
 refine zx ?_
 refine zf0 ?_
 refine zo ?_
 refine zfy ?_
 refine zgU ?_
 refine zbk ?_
 refine zj0 ?_
 refine za9 ?_
 refine zbm ?_
 refine zgQ ?_
 refine zff ?_
 refine zf ?_
 refine zby fun T hT => ?_
 refine (CallV.part (CallV.fn (last_K (F := (b3, cells [.int .i64 (s : Nat)] 3) :: F) (g := 292) (cap := [.pointer (some ⟨b3, 0, none⟩)]) (q := fun j => decide (p.g.first j ≤ s)) ok ?_ ?_)) (by first | exact byPart | (simp only [rowH_app, memH_app, planH_app]; exact byPart))).mono ?_
 ·intro i j h1 h2 h3
  have h4 : p.g.first i ≤ p.g.first j := cumN_mono h1
  have h5 := of_decide_eq_true h3
  exact decide_eq_true (by omega)
 ·intro H' i hp hi
  refine CallV.clo (cap := [.pointer (some ⟨b3, 0, none⟩)]) ?_
  have hsee : Sees w0 H' ⟨b3, 0, none⟩ (.int .i64 (s : Nat)) := (Sees.cell (H := planH p ++ ((b3, cells [.int .i64 (s : Nat)] 3) :: F)) byTake rfl).more hp
  rw [hq]
  unfold partL PlG.pt
  dsimp only
  refine Call.enter2 (n := 8) (by kernel_rfl) Tryz.func292 rfl rfl rfl ?_
  refine zW ?_; intro b2
  refine zU ?_
  refine KL.v rfl (Val.loadP rfl rfl (Sees.more (by assumption) byPart)) ?_
  refine KL.v rfl (Val.leq rfl rfl) ?_
  exact zw
 ·rintro _ _ ⟨i, hi, h1, h2, rfl, rfl⟩
  have hf0 : p.g.first 0 = 0 := rfl
  have hi1 : 1 ≤ i := by
   rcases Nat.eq_zero_or_pos i with h | h
   ·subst h
    have := h2 0 (by omega) (by omega)
    simp [hf0] at this
   ·exact h
  have hik : i = k + 1 := by
   have e1 : k < i := by
    rcases Nat.lt_or_ge k i with h | h
    ·exact h
    ·have := h2 k h hk
     have := of_decide_eq_false this
     omega
   rcases Nat.lt_or_ge (k + 1) i with h | h
   ·have h3 := of_decide_eq_true (h1 (k + 1) h)
    have h4 : p.g.first (k + 1) = p.g.first k + p.g.n k := rfl
    omega
   ·omega
  have he : (i : Int) - 1 = ((k : Nat) : Int) := by omega
  have hx : p.g.parts[k]? = some (p.g.pt k) := parts_get hk
  have hsd : ((s : Nat) : Int) - ((p.g.first k : Nat) : Int) = (d : Nat) := by omega
  have hpt : (p.g.pt k).first = p.g.first k := rfl
  have hf := ok.g.first (Nat.le_of_lt hk)
  rw [he]
  refine zd ?_
  clear hT T
  simp only [rowH_app, memH_app, planH_app]
  refine zhc ?_
  refine zgR ?_
  refine zo ?_
  refine zbU ?_
  refine zcT ?_
  refine zdD ?_
  refine KD.v0 rfl rfl (Val.fieldSl (k := 1) rfl rfl) ?_
  refine ziU ?_
  refine zh3 ?_
  refine zaw ?_
  refine zaw ?_
  refine za2 ?_
  rw [hpt, hsd]
  exact zf2
end Go.Proofs.YtalholahapcpkaaGreatDoor.Sw
