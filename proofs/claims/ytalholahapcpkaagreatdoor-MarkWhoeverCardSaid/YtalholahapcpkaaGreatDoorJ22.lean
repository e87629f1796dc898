/- The walker and the contracts that the law needs, part 22. -/
import Derived.Test.YtalholahapcpkaaGreatDoorD1
import Derived.Test.YtalholahapcpkaaGreatDoorJ21
namespace Go.Proofs.YtalholahapcpkaaGreatDoor.Sw
open Go.Proofs.YtalholahapcpkaaGreatDoor renaming lo → qL, hi → qH
open Go.RowKit
set_option linter.unusedVariables false
set_option linter.unusedSimpArgs false
set_option maxRecDepth 10000
structure HdP where
 c : Int
 r : Int
 w : Int
def hdV (h : HdP) : Value := .agg [.int .i64 h.c, .int .i64 h.r, .int .i64 h.w].toArray
def mayH (h : HdP) : Bool := decide (0 ≤ h.c ∧ h.c < 8 ∧ 0 ≤ h.r ∧ 0 ≤ h.w ∧ h.r ≤ 63 ∧ h.w ≤ 63 - h.r)
theorem hmay_K {w0 : World} {H : Heap} {h : HdP} : Call Tryz.prog w0 229 [hdV h] H (fun r H' => r = .bool (mayH h) ∧ H' = H) := by
 obtain ⟨c, r, w⟩ := h
 unfold hdV
 have yes : (0 ≤ c ∧ c < 8 ∧ 0 ≤ r ∧ 0 ≤ w ∧ r ≤ 63 ∧ w ≤ 63 - r) → mayH ⟨c, r, w⟩ = true := fun h => decide_eq_true h
 have no : ¬ (0 ≤ c ∧ c < 8 ∧ 0 ≤ r ∧ 0 ≤ w ∧ r ≤ 63 ∧ w ≤ 63 - r) → mayH ⟨c, r, w⟩ = false := fun h => decide_eq_false h
 refine Call.enter1 (n := 34) (by kernel_rfl) Tryz.func229 rfl rfl rfl ?_
 by_cases h1 : c ≥ 0
 ·by_cases h2 : c < 8
  ·by_cases h3 : r ≥ 0
   ·by_cases h4 : w ≥ 0
    ·by_cases h5 : r ≤ 63
     ·by_cases h6 : w ≤ 63 - r
      ·rw [yes ⟨h1, h2, h3, h4, h5, h6⟩]
       refine zg7 ?_; intro b1
       refine zkM ?_
       refine zE ?_
       refine zgs ?_
       refine zdT ?_
       refine z8 ?_
       refine zel ?_
       refine zah ?_
       refine zdT ?_
       refine z6 ?_
       refine zdW ?_
       refine zah ?_
       exact zb6
      ·refine zex ?_; intro b1
       refine zE ?_
       refine zgs ?_
       refine zdT ?_
       refine z8 ?_
       refine zel ?_
       refine zah ?_
       refine zdT ?_
       refine z6 ?_
       refine zdW ?_
       refine zcq ?_
       exact zb6
     ·refine zex ?_; intro b1
      refine zE ?_
      refine zgs ?_
      refine zdT ?_
      refine z8 ?_
      refine zel ?_
      refine zcq ?_
      refine zC ?_
      exact zew
    ·refine zex ?_; intro b1
     refine zE ?_
     refine zgs ?_
     refine zdT ?_
     refine zaJ ?_
     refine zC ?_
     refine zek ?_
     exact zew
   ·refine zex ?_; intro b1
    refine zE ?_
    refine zel ?_
    refine zaJ ?_
    refine zC ?_
    refine zfA ?_
    exact zew
  ·refine zex ?_; intro b1
   refine zR ?_
   refine zC ?_
   refine zfA ?_
   refine zek ?_
   exact zew
 ·refine zkI ?_; intro b1
  refine zaJ ?_
  refine zfA ?_
  refine zfA ?_
  exact zew
theorem wd_ok : WsOk wdL := ⟨by decide, by decide, by decide⟩
theorem wd_sees {w0 : World} {H : Heap} (hG : Glob w0) : SeesA w0 H ⟨0, 0, none⟩ 5 [.int .i64 16, .int .i64 16, .int .i64 16, .int .i64 8, .int .i64 8] := by
 refine ⟨rfl, fun j v hj => Sees.old ?_⟩
 have e : (Addr.mk 0 0 none).add j = ⟨0, j, none⟩ := by
  unfold Addr.add; by_cases h : j = 0
  ·simp [h]
  ·simp [h]
 rw [e]
 match j, hj with
 | 0, hj => cases hj; exact hG.wd 0 16 rfl
 | 1, hj => cases hj; exact hG.wd 1 16 rfl
 | 2, hj => cases hj; exact hG.wd 2 16 rfl
 | 3, hj => cases hj; exact hG.wd 3 8 rfl
 | 4, hj => cases hj; exact hG.wd 4 8 rfl
 | j + 5, hj => simp at hj
def putN (c r w : Nat) : Nat := w * 2 ^ 16 + r * 2 ^ 32 + c * 2 ^ 48 + 199 * 2 ^ 56
theorem pack_put (c r w : Nat) : packK wdL [0, w, r, c, 199] 5 = putN c r w := by
 have h1 := packK_succ (ws := wdL) (vs := [0, w, r, c, 199]) (k := 0) rfl
 have h2 := packK_succ (ws := wdL) (vs := [0, w, r, c, 199]) (k := 1) rfl
 have h3 := packK_succ (ws := wdL) (vs := [0, w, r, c, 199]) (k := 2) rfl
 have h4 := packK_succ (ws := wdL) (vs := [0, w, r, c, 199]) (k := 3) rfl
 have h5 := packK_succ (ws := wdL) (vs := [0, w, r, c, 199]) (k := 4) rfl
 have e0 : packK wdL [0, w, r, c, 199] 0 = 0 := rfl
 rw [show (wdL.take 0).sum = 0 from rfl] at h1
 rw [show (wdL.take 1).sum = 16 from rfl] at h2
 rw [show (wdL.take 2).sum = 32 from rfl] at h3
 rw [show (wdL.take 3).sum = 48 from rfl] at h4
 rw [show (wdL.take 4).sum = 56 from rfl] at h5
 rw [h5, h4, h3, h2, h1, e0]
 unfold putN
 generalize 2 ^ 16 = a
 generalize 2 ^ 32 = b
 generalize 2 ^ 48 = d
 generalize 2 ^ 56 = e
 rw [Nat.zero_mul, Nat.zero_add]
theorem packed_K {w0 : World} {H : Heap} {vv : Value} {c r w : Nat} (hG : Glob w0) (hc8 : c < 8) (hr : r < 64) (hw : w < 64) (hV : Sli w0 H uE vv (natL [0, w, r, c, 199])) (hc : vv.cells = [vv].toArray) :
  Call Tryz.prog w0 230 [vv] H (fun u H' => u = .int .u64 (putN c r w : Nat) ∧ H' = H) := by
 have hwd := wd_sees (H := H) hG
 refine Call.enter1 (n := 14) (by kernel_rfl) Tryz.func230 rfl rfl rfl ?_
 refine zbH ?_
 refine zfQ ?_; intro b3
 refine zy ?_
 refine KL.v rfl (Val.sliceA rfl rfl rfl) ?_
 refine zh fun T hT => ?_
 refine (CallV.fn (Pack_K (ws := wdL) (vs := [0, w, r, c, 199]) wd_ok rfl ?_ (Sli.blk byTake rfl (by decide) (by decide) rfl) (hV.part byPart) hc)).mono ?_
 ·intro i n v hi hv
  match i, hi, hv with
  | 0, hi, hv => cases hi; cases hv; decide
  | 1, hi, hv => cases hi; cases hv; exact Nat.lt_of_lt_of_le hw (by decide)
  | 2, hi, hv => cases hi; cases hv; exact Nat.lt_of_lt_of_le hr (by decide)
  | 3, hi, hv => cases hi; cases hv; exact Nat.lt_of_lt_of_le hc8 (by decide)
  | 4, hi, hv => cases hi; cases hv; decide
  | i + 5, hi, hv => simp [wdL] at hi
 ·refine zS ?_
  rw [show packK wdL [0, w, r, c, 199] wdL.length = putN c r w from pack_put c r w]
  refine zd ?_
  clear hT T
  refine zbv ?_
  exact zw
theorem Put_K {w0 : World} {H : Heap} {h : HdP} (hG : Glob w0) (hm : mayH h = true) :
  Call Tryz.prog w0 154 [hdV h] H (fun u H' => u = .tuple [.int .u64 (putN h.c.toNat h.r.toNat h.w.toNat : Nat), .int .i64 0].toArray ∧ H' = H) := by
 obtain ⟨c, r, w⟩ := h
 have hb : 0 ≤ c ∧ c < 8 ∧ 0 ≤ r ∧ 0 ≤ w ∧ r ≤ 63 ∧ w ≤ 63 - r := of_decide_eq_true hm
 obtain ⟨c, rfl⟩ : ∃ q : Nat, c = q := ⟨c.toNat, by omega⟩
 obtain ⟨r, rfl⟩ : ∃ q : Nat, r = q := ⟨r.toNat, by omega⟩
 obtain ⟨w, rfl⟩ : ∃ q : Nat, w = q := ⟨w.toNat, by omega⟩
 have hu : hdV ⟨(c : Int), (r : Int), (w : Int)⟩ = .agg [.int .i64 (c : Int), .int .i64 (r : Int), .int .i64 (w : Int)].toArray := rfl
 rw [hu]
 dsimp only [Int.toNat_natCast]
 refine Call.enter1 (n := 18) (by kernel_rfl) Tryz.func154 rfl rfl rfl ?_
 refine za5 ?_; intro b1
 refine zp fun T hT => ?_
 refine (CallV.fn (hmay_K (h := ⟨(c : Int), (r : Int), (w : Int)⟩))).mono ?_
 rintro _ _ ⟨rfl, rfl⟩
 rw [hm]
 refine zd ?_
 clear hT T
 refine zaG ?_
 refine zas ?_
 refine zbX ?_
 refine zU ?_
 refine zbX ?_
 refine zJ ?_
 refine zbX ?_
 refine zad ?_; intro b16
 refine zg fun T hT => ?_
 refine (CallV.fn (packed_K (c := c) (r := r) (w := w) hG (by omega) (by omega) (by omega) (Sli.blk byTake rfl (by simp [natL]) (by decide) rfl) rfl)).mono ?_
 rintro _ _ ⟨rfl, rfl⟩
 refine zd ?_
 clear hT T
 exact za4
def getH (w : Nat) : Option HdP :=
 if w % 2 ^ 16 = 0 ∧ w / 2 ^ 56 % 2 ^ 8 = 199 ∧ mayH ⟨((w / 2 ^ 48 % 2 ^ 8 : Nat) : Int), ((w / 2 ^ 32 % 2 ^ 16 : Nat) : Int), ((w / 2 ^ 16 % 2 ^ 16 : Nat) : Int)⟩ = true then some ⟨((w / 2 ^ 48 % 2 ^ 8 : Nat) : Int), ((w / 2 ^ 32 % 2 ^ 16 : Nat) : Int), ((w / 2 ^ 16 % 2 ^ 16 : Nat) : Int)⟩ else none
theorem dig_wd (w : Nat) : digK wdL w 5 = [w % 2 ^ 16, w / 2 ^ 16 % 2 ^ 16, w / 2 ^ 32 % 2 ^ 16, w / 2 ^ 48 % 2 ^ 8, w / 2 ^ 56 % 2 ^ 8] := by
 have h1 := digK_succ (ws := wdL) (w := w) (k := 0) rfl
 have h2 := digK_succ (ws := wdL) (w := w) (k := 1) rfl
 have h3 := digK_succ (ws := wdL) (w := w) (k := 2) rfl
 have h4 := digK_succ (ws := wdL) (w := w) (k := 3) rfl
 have h5 := digK_succ (ws := wdL) (w := w) (k := 4) rfl
 have e0 : digK wdL w 0 = [] := rfl
 rw [show (wdL.take 0).sum = 0 from rfl, Nat.pow_zero, Nat.div_one] at h1
 rw [show (wdL.take 1).sum = 16 from rfl] at h2
 rw [show (wdL.take 2).sum = 32 from rfl] at h3
 rw [show (wdL.take 3).sum = 48 from rfl] at h4
 rw [show (wdL.take 4).sum = 56 from rfl] at h5
 rw [h5, h4, h3, h2, h1, e0]
 rfl
def hGetP (w : Nat) : Value := match getH w with
 | some h => .tuple [hdV h, .int .i64 0].toArray
 | none => .tuple [hdV ⟨0, 0, 0⟩, .int .i64 5].toArray
theorem hGet_K {w0 : World} {H : Heap} {w : Nat} (hG : Glob w0) (hw : w < 18446744073709551616) :
  Call Tryz.prog w0 175 [.int .u64 (w : Nat)] H (fun u H' => u = hGetP w ∧ H' = H) := by
 obtain ⟨d0, hd0⟩ : ∃ d, d = w % 2 ^ 16 := ⟨_, rfl⟩
 obtain ⟨d1, hd1⟩ : ∃ d, d = w / 2 ^ 16 % 2 ^ 16 := ⟨_, rfl⟩
 obtain ⟨d2, hd2⟩ : ∃ d, d = w / 2 ^ 32 % 2 ^ 16 := ⟨_, rfl⟩
 obtain ⟨d3, hd3⟩ : ∃ d, d = w / 2 ^ 48 % 2 ^ 8 := ⟨_, rfl⟩
 obtain ⟨d4, hd4⟩ : ∃ d, d = w / 2 ^ 56 % 2 ^ 8 := ⟨_, rfl⟩
 have b1 : d1 < 65536 := by rw [hd1]; exact Nat.mod_lt _ (by decide)
 have b2 : d2 < 65536 := by rw [hd2]; exact Nat.mod_lt _ (by decide)
 have b3' : d3 < 256 := by rw [hd3]; exact Nat.mod_lt _ (by decide)
 have hg : getH w = if d0 = 0 ∧ d4 = 199 ∧ mayH ⟨(d3 : Int), (d2 : Int), (d1 : Int)⟩ = true then some ⟨(d3 : Int), (d2 : Int), (d1 : Int)⟩ else none := by unfold getH; rw [← hd0, ← hd1, ← hd2, ← hd3, ← hd4]
 obtain ⟨D, hD⟩ : ∃ D, D = natL (digK wdL w wdL.length) := ⟨_, rfl⟩
 have hD' : D = [(d0 : Int), (d1 : Int), (d2 : Int), (d3 : Int), (d4 : Int)] := by
  rw [hD, show wdL.length = 5 from rfl, dig_wd, ← hd0, ← hd1, ← hd2, ← hd3, ← hd4]; rfl
 have hDl : D.length = 5 := by rw [hD']; rfl
 have x0 : D[Int.toNat 0]? = some (d0 : Int) := by rw [hD']; rfl
 have x1 : D[Int.toNat 1]? = some (d1 : Int) := by rw [hD']; rfl
 have x2 : D[Int.toNat 2]? = some (d2 : Int) := by rw [hD']; rfl
 have x3 : D[Int.toNat 3]? = some (d3 : Int) := by rw [hD']; rfl
 have x4 : D[Int.toNat 4]? = some (d4 : Int) := by rw [hD']; rfl
 clear hd0 hd1 hd2 hd3 hd4 hD'
 refine Call.enter1 (n := 45) (by kernel_rfl) Tryz.func175 rfl rfl rfl ?_
 refine zq ?_
 refine zaI ?_; intro b2
 refine za0 ?_
 have hwd := wd_sees (H := (b2, cells [.int .i64 0, .int .i64 0, .int .i64 0] 148) :: H) hG
 refine zq ?_
 refine zfQ ?_; intro b4
 refine zy ?_
 refine KL.v rfl (Val.sliceA rfl rfl rfl) ?_
 refine zh fun T hT => ?_
 refine (CallV.fn (Unpack_K (ws := wdL) wd_ok rfl hw (Sli.blk byTake rfl (by decide) (by decide) rfl))).mono ?_
 rintro _ _ ⟨o, ko, rfl, rfl⟩
 rw [← hD] at ko ⊢
 refine zd ?_
 clear hT T
 refine zgD ?_
 refine K.drawn _ [(0, 1), (1, 1), (2, 1), (3, 1), (4, 1), (5, 1), (6, 1), (7, 1), (8, 1), (9, 1), (10, 1), (11, 1), (12, 1), (13, 2), (14, 2)] (by kernel_rfl) (by kernel_rfl) (by kernel_rfl) (by kernel_rfl) (by kernel_rfl) (by kernel_rfl) Part.all ?_
 refine zO ?_
 refine zjP ?_
 refine zjQ ?_
 refine zjR ?_
 refine zO ?_
 refine zjP ?_
 refine zjQ ?_
 refine zjR ?_
 refine zO ?_
 refine zjP ?_
 refine zjQ ?_
 refine zjR ?_
 refine KD.v1 rfl rfl (Val.build byParts rfl rfl byFill) ?_
 refine zeI ?_; intro b7
 refine zhV ?_
 refine zgl ?_
 refine zcE ?_
 have hres : ∀ b : Bool, b = mayH ⟨(d3 : Int), (d2 : Int), (d1 : Int)⟩ → hGetP w = if d0 = 0 ∧ d4 = 199 ∧ b = true then .tuple [.agg [.int .i64 (d3 : Nat), .int .i64 (d2 : Nat), .int .i64 (d1 : Nat)].toArray, .int .i64 0].toArray else .tuple [.agg [.int .i64 0, .int .i64 0, .int .i64 0].toArray, .int .i64 5].toArray := fun b hb => by
  unfold hGetP
  rw [hg, hb]
  by_cases h : d0 = 0 ∧ d4 = 199 ∧ mayH ⟨(d3 : Int), (d2 : Int), (d1 : Int)⟩ = true
  ·rw [if_pos h, if_pos h]; rfl
  ·rw [if_neg h, if_neg h]; rfl
 by_cases h0 : (d0 : Int) ≠ 0
 ·have hr := hres _ rfl
  rw [if_neg (by omega)] at hr
  rw [hr]
  refine zv ?_
  refine zhW ?_
  refine zhg ?_
  refine zaP ?_
  refine zbF ?_
  refine zC ?_
  refine zge ?_
  refine z7 ?_
  exact zdp
 by_cases h4 : (d4 : Int) ≠ 199
 ·have hr := hres _ rfl
  rw [if_neg (by omega)] at hr
  rw [hr]
  refine zv ?_
  refine zhW ?_
  refine zhg ?_
  refine za1 ?_
  refine zhW ?_
  refine zhI ?_
  refine zm ?_
  refine zaP ?_
  refine zn ?_
  refine zge ?_
  refine z7 ?_
  exact zdp
 refine zv ?_
 refine zhW ?_
 refine zhg ?_
 refine za1 ?_
 refine zhW ?_
 refine zhI ?_
 refine zdn ?_
 refine zbf ?_
 refine zcm fun T hT => ?_
 refine (CallV.fn (hmay_K (h := ⟨(d3 : Int), (d2 : Int), (d1 : Int)⟩))).mono ?_
 rintro _ _ ⟨rfl, rfl⟩
 cases hm : mayH ⟨(d3 : Int), (d2 : Int), (d1 : Int)⟩ with
 | true =>
  have hr := hres true hm.symm
  rw [if_pos ⟨by omega, by omega, rfl⟩] at hr
  refine zd ?_
  clear hT T
  rw [hr]
  refine zbQ ?_
  refine zan ?_
  refine zcJ ?_
  exact zw
 | false =>
  have hr := hres false hm.symm
  rw [if_neg (by simp)] at hr
  refine zd ?_
  clear hT T
  rw [hr]
  refine zbe ?_
  refine zaz ?_
  exact zdp
open Go.RowKit
set_option maxRecDepth 10000
def needH (h : HdP) : Int × Int := if mayH h then (h.r + h.w + 1, 0) else (0, 2)
def fieldH (h : HdP) (i : Int) : Bool × Int := if mayH h then (if i < 0 ∨ i ≥ h.r + h.w then (false, 110) else (decide (i < h.r), 0)) else (false, 2)
theorem may_of {h : HdP} (hm : mayH h = true) : 0 ≤ h.c ∧ h.c < 8 ∧ 0 ≤ h.r ∧ 0 ≤ h.w ∧ h.r ≤ 63 ∧ h.w ≤ 63 - h.r := of_decide_eq_true hm
theorem Need_K {w0 : World} {H : Heap} {h : HdP} : Call Tryz.prog w0 227 [hdV h] H (fun u H' => u = .tuple [.int .i64 (needH h).1, .int .i64 (needH h).2].toArray ∧ H' = H) := by
 have hu : hdV h = .agg [.int .i64 h.c, .int .i64 h.r, .int .i64 h.w].toArray := rfl
 rw [hu]
 refine Call.enter1 (n := 13) (by kernel_rfl) Tryz.func227 rfl rfl rfl ?_
 refine za5 ?_; intro b1
 refine zp fun T hT => ?_
 refine (CallV.fn (hmay_K (h := h))).mono ?_
 rintro _ _ ⟨rfl, rfl⟩
 cases hm : mayH h with
 | true =>
  have hb := may_of hm
  have hn : needH h = (h.r + h.w + 1, 0) := by unfold needH; rw [if_pos hm]
  refine zd ?_
  clear hT T
  rw [hn]
  refine zaG ?_
  refine zd2 ?_
  refine zQ ?_
  refine zQ ?_
  exact za4
 | false =>
  have hn : needH h = (0, 2) := by unfold needH; rw [if_neg (by simp [hm])]
  refine zd ?_
  clear hT T
  rw [hn]
  exact zeE
theorem hField_K {w0 : World} {H : Heap} {h : HdP} {i : Int} : Call Tryz.prog w0 277 [hdV h, .int .i64 i] H (fun u H' => u = .tuple [.bool (fieldH h i).1, .int .i64 (fieldH h i).2].toArray ∧ H' = H) := by
 have hu : hdV h = .agg [.int .i64 h.c, .int .i64 h.r, .int .i64 h.w].toArray := rfl
 rw [hu]
 refine Call.enter2 (n := 26) (by kernel_rfl) Tryz.func277 rfl rfl rfl ?_
 refine zbl ?_; intro b2
 refine zcL ?_
 refine zhS ?_
 refine zp fun T hT => ?_
 refine (CallV.fn (hmay_K (h := h))).mono ?_
 rintro _ _ ⟨rfl, rfl⟩
 cases hm : mayH h with
 | true =>
  have hb := may_of hm
  refine zd ?_
  clear hT T
  by_cases h1 : i < 0
  ·have hn : fieldH h i = (false, 110) := by unfold fieldH; rw [if_pos hm, if_pos (.inl h1)]
   rw [hn]
   refine zF ?_
   refine zdg ?_
   refine zf ?_
   refine zE ?_
   refine zcz ?_
   refine zC ?_
   exact zeH
  by_cases h2 : i ≥ h.r + h.w
  ·have hn : fieldH h i = (false, 110) := by unfold fieldH; rw [if_pos hm, if_pos (.inr h2)]
   rw [hn]
   refine zF ?_
   refine zds ?_
   refine z6 ?_
   refine zaT ?_
   refine zQ ?_
   refine zm ?_
   refine z8 ?_
   refine zn ?_
   exact zeH
  ·have hn : fieldH h i = (decide (i < h.r), 0) := by unfold fieldH; rw [if_pos hm, if_neg (by omega)]
   rw [hn]
   by_cases h3 : i < h.r
   ·have hd : decide (i < h.r) = true := decide_eq_true h3
    refine zF ?_
    refine zds ?_
    refine z6 ?_
    refine zaT ?_
    refine zQ ?_
    refine zm ?_
    refine zdw ?_
    refine zdu ?_
    refine zf ?_
    refine zU ?_
    refine zE ?_
    refine zL ?_
    exact ziP
   ·have hd : decide (i < h.r) = false := decide_eq_false h3
    refine zF ?_
    refine zds ?_
    refine z6 ?_
    refine zaT ?_
    refine zQ ?_
    refine zm ?_
    refine zdw ?_
    refine zdu ?_
    refine zf ?_
    refine zU ?_
    refine zR ?_
    refine zL ?_
    exact ziP
 | false =>
  have hn : fieldH h i = (false, 2) := by unfold fieldH; rw [if_neg (by simp [hm])]
  refine zd ?_
  clear hT T
  rw [hn]
  refine zbA ?_
  exact zeH
theorem rMay_K {w0 : World} {H : Heap} {h : HdP} : Call Tryz.prog w0 237 [hdV h] H (fun r H' => r = .bool (mayH h) ∧ H' = H) := by
 obtain ⟨c, r, w⟩ := h
 unfold hdV
 have yes : (0 ≤ c ∧ c < 8 ∧ 0 ≤ r ∧ 0 ≤ w ∧ r ≤ 63 ∧ w ≤ 63 - r) → mayH ⟨c, r, w⟩ = true := fun h => decide_eq_true h
 have no : ¬ (0 ≤ c ∧ c < 8 ∧ 0 ≤ r ∧ 0 ≤ w ∧ r ≤ 63 ∧ w ≤ 63 - r) → mayH ⟨c, r, w⟩ = false := fun h => decide_eq_false h
 refine Call.enter1 (n := 34) (by kernel_rfl) Tryz.func237 rfl rfl rfl ?_
 by_cases h1 : c ≥ 0
 ·by_cases h2 : c ≤ 7
  ·by_cases h3 : r ≥ 0
   ·by_cases h5 : r ≤ 63
    ·by_cases h4 : w ≥ 0
     ·by_cases h6 : w ≤ 63 - r
      ·rw [yes (by omega)]
       refine zg7 ?_; intro b1
       refine zkM ?_
       refine zah ?_
       refine zgs ?_
       refine zel ?_
       refine zah ?_
       refine zdT ?_
       refine z8 ?_
       refine zdT ?_
       refine z6 ?_
       refine zdW ?_
       refine zah ?_
       exact zb6
      ·refine zex ?_; intro b1
       refine zah ?_
       refine zgs ?_
       refine zel ?_
       refine zah ?_
       refine zdT ?_
       refine z8 ?_
       refine zdT ?_
       refine z6 ?_
       refine zdW ?_
       refine zcq ?_
       exact zb6
     ·refine zex ?_; intro b1
      refine zah ?_
      refine zgs ?_
      refine zel ?_
      refine zah ?_
      refine zdT ?_
      refine zaJ ?_
      refine zC ?_
      exact zew
    ·refine zex ?_; intro b1
     refine zah ?_
     refine zgs ?_
     refine zel ?_
     refine zcq ?_
     refine zC ?_
     refine zek ?_
     exact zew
   ·refine zex ?_; intro b1
    refine zah ?_
    refine zel ?_
    refine zaJ ?_
    refine zC ?_
    refine zfA ?_
    exact zew
  ·refine zex ?_; intro b1
   refine zcq ?_
   refine zC ?_
   refine zfA ?_
   refine zek ?_
   exact zew
 ·refine zkI ?_; intro b1
  refine zaJ ?_
  refine zfA ?_
  refine zfA ?_
  exact zew
def putP (h : HdP) : Value := if mayH h then .tuple [.int .u64 (putN h.c.toNat h.r.toNat h.w.toNat : Nat), .int .i64 0].toArray else .tuple [.int .u64 0, .int .i64 2].toArray
theorem rPut_K {w0 : World} {H : Heap} {h : HdP} : Call Tryz.prog w0 159 [hdV h] H (fun u H' => u = putP h ∧ H' = H) := by
 have hu : hdV h = .agg [.int .i64 h.c, .int .i64 h.r, .int .i64 h.w].toArray := rfl
 rw [hu]
 refine Call.enter1 (n := 22) (by kernel_rfl) Tryz.func159 rfl rfl rfl ?_
 refine za5 ?_; intro b1
 refine zp fun T hT => ?_
 refine (CallV.fn (rMay_K (h := h))).mono ?_
 rintro _ _ ⟨rfl, rfl⟩
 cases hm : mayH h with
 | true =>
  have hb := may_of hm
  have hn : putP h = .tuple [.int .u64 (putN h.c.toNat h.r.toNat h.w.toNat : Nat), .int .i64 0].toArray := by unfold putP; rw [if_pos hm]
  refine zd ?_
  clear hT T
  rw [hn]
  clear hm hn
  obtain ⟨c, r, w⟩ := h
  dsimp only at hb ⊢
  obtain ⟨c, rfl⟩ : ∃ q : Nat, c = q := ⟨c.toNat, by omega⟩
  obtain ⟨r, rfl⟩ : ∃ q : Nat, r = q := ⟨r.toNat, by omega⟩
  obtain ⟨w, rfl⟩ : ∃ q : Nat, w = q := ⟨w.toNat, by omega⟩
  simp only [Int.toNat_natCast]
  obtain ⟨A, hA⟩ : ∃ A, A = c * 2 ^ 48 := ⟨_, rfl⟩
  obtain ⟨B, hB⟩ : ∃ A, A = r * 2 ^ 32 := ⟨_, rfl⟩
  obtain ⟨C, hC⟩ : ∃ A, A = w * 2 ^ 16 := ⟨_, rfl⟩
  have bA : A ≤ 7 * 2 ^ 48 := by rw [hA]; exact Nat.mul_le_mul_right _ (by omega)
  have bB : B ≤ 63 * 2 ^ 32 := by rw [hB]; exact Nat.mul_le_mul_right _ (by omega)
  have bC : C ≤ 63 * 2 ^ 16 := by rw [hC]; exact Nat.mul_le_mul_right _ (by omega)
  rw [show 7 * 2 ^ 48 = 1970324836974592 by decide] at bA
  rw [show 63 * 2 ^ 32 = 270582939648 by decide] at bB
  rw [show 63 * 2 ^ 16 = 4128768 by decide] at bC
  have hp : putN c r w = 14339461213547659264 + A + B + C := by
   unfold putN
   rw [← hA, ← hB, ← hC, show 199 * 2 ^ 56 = 14339461213547659264 by decide]; omega
  have s1 : IntKind.u64.wrap ((c : Int) * 2 ^ (min (Int.toNat 48) IntKind.u64.bits)) = (A : Int) := by rw [hA]; exact shl_any (j := 48) (by omega) (by rw [← hA]; omega)
  have s2 : IntKind.u64.wrap ((r : Int) * 2 ^ (min (Int.toNat 32) IntKind.u64.bits)) = (B : Int) := by rw [hB]; exact shl_any (j := 32) (by omega) (by rw [← hB]; omega)
  have s3 : IntKind.u64.wrap ((w : Int) * 2 ^ (min (Int.toNat 16) IntKind.u64.bits)) = (C : Int) := by rw [hC]; exact shl_any (j := 16) (by omega) (by rw [← hC]; omega)
  have t1 : (14339461213547659264 : Int) + (A : Int) = ((14339461213547659264 + A : Nat) : Int) := by omega
  rw [hp]
  clear hA hB hC hp
  refine zF ?_
  refine zgp ?_
  refine zc5 ?_
  refine zbN ?_
  refine zgO ?_
  refine ziK ?_
  rw [s1]
  refine zc2 ?_
  refine zdH ?_
  refine zbN ?_
  refine zgO ?_
  refine ziK ?_
  rw [s2]
  refine zc2 ?_
  refine zhX ?_
  refine zbN ?_
  refine zgO ?_
  refine ziK ?_
  rw [s3]
  refine zQ ?_
  refine zL ?_
  exact KE.fin byMarks rfl byRes byPart ⟨by show Value.tuple [.int .u64 ((14339461213547659264 : Int) + (A : Int) + (B : Int) + (C : Int)), _].toArray = _; rfl, rfl⟩
 | false =>
  have hn : putP h = .tuple [.int .u64 0, .int .i64 2].toArray := by unfold putP; rw [if_neg (by simp [hm])]
  refine zd ?_
  clear hT T
  rw [hn]
  exact zeE
theorem dig_pack {ws : List Nat} {w : Nat} : ∀ k, k ≤ ws.length → packK ws (digK ws w ws.length) k = w % 2 ^ (ws.take k).sum
 | 0, _ => by simp [packK, Nat.mod_one]
 | k + 1, h => by
  obtain ⟨n, hn⟩ := get_of_lt (l := ws) (k := k) (by omega)
  have hd : (digK ws w ws.length)[k]? = some (w / 2 ^ (ws.take k).sum % 2 ^ n) := by
   unfold digK
   rw [List.getElem?_map, List.getElem?_range (by omega), Option.map_some, hn]; rfl
  rw [packK_succ hd, dig_pack k (by omega), take_snoc hn, List.sum_append, List.sum_cons, List.sum_nil, Nat.add_zero, Nat.pow_add, Nat.mod_mul, Nat.mul_comm (w / 2 ^ (ws.take k).sum % 2 ^ n)]
theorem pack5 (a b c d e : Nat) : packK wdL [a, b, c, d, e] 5 = a + b * 2 ^ 16 + c * 2 ^ 32 + d * 2 ^ 48 + e * 2 ^ 56 := by
 have h1 := packK_succ (ws := wdL) (vs := [a, b, c, d, e]) (k := 0) rfl
 have h2 := packK_succ (ws := wdL) (vs := [a, b, c, d, e]) (k := 1) rfl
 have h3 := packK_succ (ws := wdL) (vs := [a, b, c, d, e]) (k := 2) rfl
 have h4 := packK_succ (ws := wdL) (vs := [a, b, c, d, e]) (k := 3) rfl
 have h5 := packK_succ (ws := wdL) (vs := [a, b, c, d, e]) (k := 4) rfl
 have e0 : packK wdL [a, b, c, d, e] 0 = 0 := rfl
 rw [show (wdL.take 0).sum = 0 from rfl, Nat.pow_zero, Nat.mul_one] at h1
 rw [show (wdL.take 1).sum = 16 from rfl] at h2
 rw [show (wdL.take 2).sum = 32 from rfl] at h3
 rw [show (wdL.take 3).sum = 48 from rfl] at h4
 rw [show (wdL.take 4).sum = 56 from rfl] at h5
 rw [h5, h4, h3, h2, h1, e0, Nat.zero_add]
theorem put_get {w d0 d1 d2 d3 d4 : Nat} (hw : w < 18446744073709551616) (h0 : d0 = w % 2 ^ 16) (h1 : d1 = w / 2 ^ 16 % 2 ^ 16) (h2 : d2 = w / 2 ^ 32 % 2 ^ 16) (h3 : d3 = w / 2 ^ 48 % 2 ^ 8) (h4 : d4 = w / 2 ^ 56 % 2 ^ 8) : putN d3 d2 d1 = w ↔ d0 = 0 ∧ d4 = 199 := by
 have hp := dig_pack (ws := wdL) (w := w) 5 (by decide)
 rw [show wdL.length = 5 from rfl, dig_wd, ← h0, ← h1, ← h2, ← h3, ← h4, pack5, show (wdL.take 5).sum = 64 from rfl, show (2 : Nat) ^ 64 = 18446744073709551616 by decide, Nat.mod_eq_of_lt hw] at hp
 have hd0 : d0 < 65536 := by rw [h0]; exact Nat.mod_lt _ (by decide)
 clear h0 h1 h2 h3 h4
 unfold putN
 clear hw
 have hE0 : 65536 ≤ 2 ^ 56 := by decide
 obtain ⟨A, hA⟩ : ∃ A, A = d1 * 2 ^ 16 := ⟨_, rfl⟩
 obtain ⟨B, hB⟩ : ∃ A, A = d2 * 2 ^ 32 := ⟨_, rfl⟩
 obtain ⟨C, hC⟩ : ∃ A, A = d3 * 2 ^ 48 := ⟨_, rfl⟩
 obtain ⟨E, hE⟩ : ∃ A, A = 2 ^ 56 := ⟨_, rfl⟩
 rw [← hA, ← hB, ← hC, ← hE] at hp ⊢
 rw [← hE] at hE0
 clear hA hB hC hE
 constructor
 ·intro h
  have he : d0 + d4 * E = 199 * E := by omega
  have h0 : d0 = 0 := by
   have h5 : (d0 + d4 * E) % E = (199 * E) % E := by rw [he]
   rw [Nat.add_mul_mod_self_right, Nat.mul_mod_left, Nat.mod_eq_of_lt (by omega)] at h5
   exact h5
  refine ⟨h0, ?_⟩
  rw [h0, Nat.zero_add] at he
  exact Nat.eq_of_mul_eq_mul_right (by omega) he
 ·rintro ⟨h0, h4⟩
  rw [h0, h4] at hp
  omega
theorem rGet_K {w0 : World} {H : Heap} {w : Nat} (hw : w < 18446744073709551616) : Call Tryz.prog w0 235 [.int .u64 (w : Nat)] H (fun u H' => u = hGetP w ∧ H' = H) := by
 obtain ⟨d0, hd0⟩ : ∃ d, d = w % 2 ^ 16 := ⟨_, rfl⟩
 obtain ⟨d1, hd1⟩ : ∃ d, d = w / 2 ^ 16 % 2 ^ 16 := ⟨_, rfl⟩
 obtain ⟨d2, hd2⟩ : ∃ d, d = w / 2 ^ 32 % 2 ^ 16 := ⟨_, rfl⟩
 obtain ⟨d3, hd3⟩ : ∃ d, d = w / 2 ^ 48 % 2 ^ 8 := ⟨_, rfl⟩
 obtain ⟨d4, hd4⟩ : ∃ d, d = w / 2 ^ 56 % 2 ^ 8 := ⟨_, rfl⟩
 have hpg := put_get hw hd0 hd1 hd2 hd3 hd4
 have c1 : d1 < 65536 := by rw [hd1]; exact Nat.mod_lt _ (by decide)
 have c2 : d2 < 65536 := by rw [hd2]; exact Nat.mod_lt _ (by decide)
 have c3 : d3 < 256 := by rw [hd3]; exact Nat.mod_lt _ (by decide)
 have hg : getH w = if d0 = 0 ∧ d4 = 199 ∧ mayH ⟨(d3 : Int), (d2 : Int), (d1 : Int)⟩ = true then some ⟨(d3 : Int), (d2 : Int), (d1 : Int)⟩ else none := by unfold getH; rw [← hd0, ← hd1, ← hd2, ← hd3, ← hd4]
 obtain ⟨u1, hu1⟩ : ∃ u, u = w / 2 ^ 48 := ⟨_, rfl⟩
 obtain ⟨u2, hu2⟩ : ∃ u, u = w / 2 ^ 32 := ⟨_, rfl⟩
 obtain ⟨u3, hu3⟩ : ∃ u, u = w / 2 ^ 16 := ⟨_, rfl⟩
 have s1 : (w : Int).fdiv (2 ^ (min (Int.toNat 48) IntKind.u64.bits)) = (u1 : Int) := by rw [hu1]; exact shr_nat (j := 48) (by omega)
 have s2 : (w : Int).fdiv (2 ^ (min (Int.toNat 32) IntKind.u64.bits)) = (u2 : Int) := by rw [hu2]; exact shr_nat (j := 32) (by omega)
 have s3 : (w : Int).fdiv (2 ^ (min (Int.toNat 16) IntKind.u64.bits)) = (u3 : Int) := by rw [hu3]; exact shr_nat (j := 16) (by omega)
 have m1 : (u1 : Int) % 256 = (d3 : Int) := by rw [← hu1, show (2 : Nat) ^ 8 = 256 by decide] at hd3; omega
 have m2 : (u2 : Int) % 65536 = (d2 : Int) := by rw [← hu2, show (2 : Nat) ^ 16 = 65536 by decide] at hd2; omega
 have m3 : (u3 : Int) % 65536 = (d1 : Int) := by rw [← hu3, show (2 : Nat) ^ 16 = 65536 by decide] at hd1; omega
 clear hd0 hd1 hd2 hd3 hd4 hu1 hu2 hu3
 refine Call.enter1 (n := 34) (by kernel_rfl) Tryz.func235 rfl rfl rfl ?_
 refine zq ?_
 refine zaI ?_; intro b2
 refine zfi ?_
 refine zf ?_
 refine zcZ ?_
 rw [s1]
 refine ziJ ?_
 rw [m1]
 refine zgO ?_
 refine zf ?_
 refine zcZ ?_
 rw [s2]
 refine ziJ ?_
 rw [m2]
 refine zgO ?_
 refine zf ?_
 refine zcZ ?_
 rw [s3]
 refine ziJ ?_
 rw [m3]
 refine zbX ?_
 refine zaf ?_
 refine zay ?_; intro b4
 refine zy ?_
 refine zp fun T hT => ?_
 refine (CallV.fn (rPut_K (h := ⟨(d3 : Int), (d2 : Int), (d1 : Int)⟩))).mono ?_
 rintro _ _ ⟨rfl, rfl⟩
 cases hm : mayH ⟨(d3 : Int), (d2 : Int), (d1 : Int)⟩ with
 | true =>
  have hpp : putP ⟨(d3 : Int), (d2 : Int), (d1 : Int)⟩ = .tuple [.int .u64 (putN d3 d2 d1 : Nat), .int .i64 0].toArray := by unfold putP; rw [if_pos hm]; rfl
  rw [hpp]
  by_cases he : putN d3 d2 d1 = w
  ·have hr : hGetP w = .tuple [.agg [.int .i64 (d3 : Nat), .int .i64 (d2 : Nat), .int .i64 (d1 : Nat)].toArray, .int .i64 0].toArray := by
    unfold hGetP; rw [hg, if_pos ⟨(hpg.1 he).1, (hpg.1 he).2, hm⟩]; rfl
   rw [he]
   have hne : ¬ (w : Int) ≠ (w : Int) := by omega
   refine zd ?_
   clear hT T
   rw [hr]
   refine zG ?_
   refine zeu ?_
   refine zD ?_
   refine zan ?_
   refine zcJ ?_
   exact zw
  ·have hr : hGetP w = .tuple [.agg [.int .i64 0, .int .i64 0, .int .i64 0].toArray, .int .i64 5].toArray := by
    unfold hGetP; rw [hg, if_neg fun h => he (hpg.2 ⟨h.1, h.2.1⟩)]; rfl
   have hne : ((putN d3 d2 d1 : Nat) : Int) ≠ (w : Int) := by omega
   refine zd ?_
   clear hT T
   rw [hr]
   refine zG ?_
   refine zeu ?_
   refine zaP ?_
   refine zaz ?_
   exact zdp
 | false =>
  have hpp : putP ⟨(d3 : Int), (d2 : Int), (d1 : Int)⟩ = .tuple [.int .u64 0, .int .i64 2].toArray := by unfold putP; rw [if_neg (by simp [hm])]
  have hr : hGetP w = .tuple [.agg [.int .i64 0, .int .i64 0, .int .i64 0].toArray, .int .i64 5].toArray := by
   unfold hGetP; rw [hg, if_neg fun h => by rw [hm] at h; exact absurd h.2.2 (by simp)]; rfl
  rw [hpp]
  refine zd ?_
  clear hT T
  rw [hr]
  refine zG ?_
  refine zaP ?_
  refine zge ?_
  refine z7 ?_
  exact zdp
theorem rNeed_K {w0 : World} {H : Heap} {h : HdP} : Call Tryz.prog w0 234 [hdV h] H (fun u H' => u = .tuple [.int .i64 (needH h).1, .int .i64 (needH h).2].toArray ∧ H' = H) := by
 have hu : hdV h = .agg [.int .i64 h.c, .int .i64 h.r, .int .i64 h.w].toArray := rfl
 rw [hu]
 refine Call.enter1 (n := 13) (by kernel_rfl) Tryz.func234 rfl rfl rfl ?_
 refine za5 ?_; intro b1
 refine zp fun T hT => ?_
 refine (CallV.fn (rMay_K (h := h))).mono ?_
 rintro _ _ ⟨rfl, rfl⟩
 cases hm : mayH h with
 | true =>
  have hb := may_of hm
  have hn : needH h = (1 + h.r + h.w, 0) := by unfold needH; rw [if_pos hm]; congr 1; omega
  refine zd ?_
  clear hT T
  rw [hn]
  refine zaG ?_
  refine zU ?_
  refine zQ ?_
  refine zas ?_
  refine zQ ?_
  exact za4
 | false =>
  have hn : needH h = (0, 2) := by unfold needH; rw [if_neg (by simp [hm])]
  refine zd ?_
  clear hT T
  rw [hn]
  exact zeE
theorem rField_K {w0 : World} {H : Heap} {h : HdP} {i : Int} : Call Tryz.prog w0 242 [hdV h, .int .i64 i] H (fun u H' => u = .tuple [.bool (fieldH h i).1, .int .i64 (fieldH h i).2].toArray ∧ H' = H) := by
 have hu : hdV h = .agg [.int .i64 h.c, .int .i64 h.r, .int .i64 h.w].toArray := rfl
 rw [hu]
 refine Call.enter2 (n := 24) (by kernel_rfl) Tryz.func242 rfl rfl rfl ?_
 refine za5 ?_; intro b2
 refine zp fun T hT => ?_
 refine (CallV.fn (rMay_K (h := h))).mono ?_
 rintro _ _ ⟨rfl, rfl⟩
 cases hm : mayH h with
 | true =>
  have hb := may_of hm
  refine zd ?_
  clear hT T
  by_cases h1 : i < 0
  ·have hn : fieldH h i = (false, 110) := by unfold fieldH; rw [if_pos hm, if_pos (.inl h1)]
   rw [hn]
   refine zdV ?_
   refine zf ?_
   refine zE ?_
   refine zcz ?_
   refine z7 ?_
   exact zdh
  by_cases h2 : i ≥ h.r + h.w
  ·have hn : fieldH h i = (false, 110) := by unfold fieldH; rw [if_pos hm, if_pos (.inr h2)]
   rw [hn]
   refine zdV ?_
   refine zdf ?_
   refine z6 ?_
   refine zaT ?_
   refine zQ ?_
   refine zm ?_
   refine z8 ?_
   refine zaz ?_
   exact zdh
  ·have hn : fieldH h i = (decide (i < h.r), 0) := by unfold fieldH; rw [if_pos hm, if_neg (by omega)]
   rw [hn]
   by_cases h3 : i < h.r
   ·have hd : decide (i < h.r) = true := decide_eq_true h3
    refine zdV ?_
    refine zdf ?_
    refine z6 ?_
    refine zaT ?_
    refine zQ ?_
    refine zm ?_
    refine zgk ?_
    refine zf ?_
    refine zU ?_
    refine zE ?_
    refine zL ?_
    exact ziP
   ·have hd : decide (i < h.r) = false := decide_eq_false h3
    refine zdV ?_
    refine zdf ?_
    refine z6 ?_
    refine zaT ?_
    refine zQ ?_
    refine zm ?_
    refine zgk ?_
    refine zf ?_
    refine zU ?_
    refine zR ?_
    refine zL ?_
    exact ziP
 | false =>
  have hn : fieldH h i = (false, 2) := by unfold fieldH; rw [if_neg (by simp [hm])]
  refine zd ?_
  clear hT T
  rw [hn]
  exact zeE
open Go.RowKit
set_option maxRecDepth 10000
def riseP : Int → List Int → Bool
 | _, [] => true
 | a, x :: l => decide (a < x) && riseP x l
def classP (l : List Int) : Bool := decide (1 ≤ l.length) && decide (l.length ≤ 8) && decide ((l.getLast?).getD 65 ≤ 64) && riseP 1 l
def errB (b : Bool) (e : Int) : Int := if b then 0 else e
structure CkS where
 k : Nat
 last : Int
set_option maxRecDepth 10000 in
theorem Check_K {w0 : World} {H : Heap} {v : Value} {l : List Int} (hS : Sli w0 H iE v l) (hl : l.length ≤ 140737488355328) :
  Call Tryz.prog w0 266 [v] H (fun r H' => r = .int .i64 (errB (classP l) 2) ∧ H' = H) := by
 refine Call.enter1 (n := 34) (by kernel_rfl) Tryz.func266 rfl rfl rfl ?_
 by_cases h1 : l.length < 1
 ·have hc : classP l = false := by simp [classP]; omega
  have h1' : ((l.length : Nat) : Int) < 1 := by omega
  refine zbu ?_
  refine zfe ?_
  refine zdv ?_
  refine zcz ?_
  refine zdm ?_
  exact zdI
 by_cases h8 : 8 < l.length
 ·have hc : classP l = false := by simp [classP]; omega
  refine zbu ?_
  refine zP ?_
  refine zbG ?_
  refine zaS ?_
  refine zcb ?_
  refine zn ?_
  refine zcz ?_
  refine zdm ?_
  exact zdI
 obtain ⟨z, hz⟩ := get_of_lt (l := l) (k := l.length - 1) (by omega)
 have hzl : l.getLast? = some z := by rw [List.getLast?_eq_getElem?]; exact hz
 have hz' : l[(((l.length : Nat) : Int) - 1).toNat]? = some z := by rw [show (((l.length : Nat) : Int) - 1).toNat = l.length - 1 by omega]; exact hz
 by_cases h64 : z > 64
 ·have hc : classP l = false := by simp [classP, hzl]; omega
  refine zbu ?_
  refine zP ?_
  refine zbG ?_
  refine zaS ?_
  refine zae ?_
  refine zba ?_
  refine zdt ?_
  refine zdW ?_
  refine zjS ?_
  refine zcy ?_
  refine zcb ?_
  refine zaz ?_
  refine zam ?_
  exact zdI
 have hcr : classP l = riseP 1 l := by simp [classP, hzl]; omega
 refine zbu ?_
 refine zP ?_
 refine zbG ?_
 refine zaS ?_
 refine zae ?_
 refine zba ?_
 refine zdt ?_
 refine zdW ?_
 refine zjS ?_
 refine zcy ?_
 refine zae ?_
 refine zan ?_
 refine zT ?_
 refine zP ?_
 refine zeM ?_
 refine K.loopT (σ := CkS) [(23, _), (24, _)] (fun s kp_ => (25, .int .i64 (s.k : Nat)) :: (3, .int .i64 s.last) :: kp_) (fun s => H) (fun s => s.k ≤ l.length ∧ riseP 1 l = riseP s.last (l.drop s.k)) (fun s => l.length - s.k) (⟨0, 1⟩) bySub byPart (⟨by simp, by simp⟩) ?_
 rintro ⟨k, last⟩ ⟨hk, hr⟩
 dsimp only at hk hr ⊢
 by_cases hlt : k < l.length
 ·obtain ⟨x, hx⟩ := get_of_lt hlt
  have hd : l.drop k = x :: l.drop (k + 1) := by
   obtain ⟨h1, e⟩ := List.getElem?_eq_some_iff.1 hx
   rw [List.drop_eq_getElem_cons h1, e]
  rw [hd] at hr
  simp only [riseP] at hr
  by_cases hxl : x ≤ last
  ·have hc : classP l = false := by rw [hcr, hr]; simp; omega
   refine zd1 ?_
   refine zbK ?_
   refine zal ?_
   refine zj ?_
   refine zah ?_
   refine zI ?_
   refine zam ?_
   refine zdO ?_
   refine ziC ?_
   exact zdI
  ·rw [decide_eq_true (show last < x by omega), Bool.true_and] at hr
   refine zd1 ?_
   refine zbK ?_
   refine zal ?_
   refine zj ?_
   refine zcq ?_
   refine KL.nil (KE.next (K.condF rfl (K.skip (KE.next (K.region ?_)))))
   refine zf ?_
   refine zbE ?_
   refine zeB ?_
   exact KE.again ⟨k + 1, x⟩ bySub byPart ⟨by show k + 1 ≤ _; omega, hr⟩ (by show l.length - (k + 1) < l.length - k; omega)
 ·have hc : classP l = true := by rw [hcr, hr, List.drop_of_length_le (by omega)]; rfl
  refine zq ?_
  refine zeD ?_
  refine zaN ?_
  refine zt ?_
  exact zdI
def withinP : List Int → Bool
 | a :: b :: c :: l => decide (a ≤ b) && (decide (b ≤ c) && withinP l)
 | _ => true
structure WiS where
 k : Nat
set_option maxHeartbeats 1000000 in
theorem within_K {w0 : World} {H : Heap} {v : Value} {l : List Int} {n : Nat} (hS : Sli w0 H iE v l) (hl : l.length = 3 * n) (hn : n ≤ 140737488355328) :
  Call Tryz.prog w0 245 [v] H (fun r H' => r = .bool (withinP l) ∧ H' = H) := by
 refine Call.enter1 (n := 34) (by kernel_rfl) Tryz.func245 rfl rfl rfl ?_
 refine zq ?_
 refine zcn ?_
 refine K.loopT (σ := WiS) [(0, _)] (fun s kp_ => (3, .int .i64 ((3 * s.k : Nat) : Int)) :: kp_) (fun s => H) (fun s => s.k ≤ n ∧ withinP l = withinP (l.drop (3 * s.k))) (fun s => n - s.k) (⟨0⟩) bySub byPart (⟨by simp, by simp⟩) ?_
 rintro ⟨k⟩ ⟨hk, hr⟩
 dsimp only at hk hr ⊢
 by_cases hlt : k < n
 ·obtain ⟨a, ha⟩ := get_of_lt (l := l) (k := 3 * k) (by omega)
  obtain ⟨b, hb⟩ := get_of_lt (l := l) (k := 3 * k + 1) (by omega)
  obtain ⟨c, hc⟩ := get_of_lt (l := l) (k := 3 * k + 2) (by omega)
  have hd : l.drop (3 * k) = a :: b :: c :: l.drop (3 * (k + 1)) := by
   obtain ⟨h1, e1⟩ := List.getElem?_eq_some_iff.1 ha
   obtain ⟨h2, e2⟩ := List.getElem?_eq_some_iff.1 hb
   obtain ⟨h3, e3⟩ := List.getElem?_eq_some_iff.1 hc
   rw [List.drop_eq_getElem_cons h1, List.drop_eq_getElem_cons h2, List.drop_eq_getElem_cons h3, e1, e2, e3]
   rfl
  rw [hd] at hr
  simp only [withinP] at hr
  by_cases hab : b < a
  ·have hf : withinP l = false := by rw [hr, decide_eq_false (show ¬ a ≤ b by omega)]; rfl
   refine zv ?_
   refine zgm ?_
   refine zfe ?_
   refine zfZ ?_
   refine zjT ?_
   refine zcd ?_
   refine zb1 ?_
   refine zjU ?_
   refine zeb ?_
   refine zgE ?_
   refine KD.v0 rfl rfl (Val.isT (Val.lss rfl rfl) byLt) ?_
   refine zfr ?_
   refine zcv ?_
   refine zgF ?_
   refine zbj ?_
   refine zdY ?_
   exact zhd
  by_cases hbc : b > c
  ·have hf : withinP l = false := by rw [hr, decide_eq_false (show ¬ b ≤ c by omega), Bool.false_and, Bool.and_false]
   refine zv ?_
   refine zgm ?_
   refine zfe ?_
   refine zfZ ?_
   refine zjT ?_
   refine zcd ?_
   refine zb1 ?_
   refine zjU ?_
   refine zeb ?_
   refine zgE ?_
   refine zf0 ?_
   refine zbd ?_
   refine zaX ?_
   refine zhj ?_
   refine zhk ?_
   refine zc7 ?_
   refine zez ?_
   refine zhj ?_
   refine zhk ?_
   refine zc7 ?_
   refine ziQ ?_
   refine zbR ?_
   refine zhi ?_
   exact zhd
  rw [decide_eq_true (show a ≤ b by omega), decide_eq_true (show b ≤ c by omega), Bool.true_and, Bool.true_and] at hr
  refine zv ?_
  refine zgm ?_
  refine zfe ?_
  refine zfZ ?_
  refine zjT ?_
  refine zcd ?_
  refine zb1 ?_
  refine zjU ?_
  refine zeb ?_
  refine zgE ?_
  refine zf0 ?_
  refine zbd ?_
  refine zaX ?_
  refine zhj ?_
  refine zhk ?_
  refine zc7 ?_
  refine zez ?_
  refine zhj ?_
  refine zhk ?_
  refine zc7 ?_
  refine zhY ?_
  refine zbR ?_
  refine zgQ ?_
  refine zbq ?_
  exact KE.again ⟨k + 1⟩ bySub byPart ⟨by show k + 1 ≤ _; omega, hr⟩ (by show n - (k + 1) < n - k; omega)
 ·have hf : withinP l = true := by rw [hr, List.drop_of_length_le (by omega)]; rfl
  refine zv ?_
  refine zgm ?_
  refine zfx ?_
  refine zt ?_
  exact zc6
set_option maxRecDepth 10000
theorem rise_pair : ∀ {l : List Int} {a : Int}, riseP a l = true → (∀ x ∈ l, a < x) ∧ l.Pairwise (· < ·)
 | [], a, _ => ⟨by simp, List.Pairwise.nil⟩
 | x :: l, a, h => by
  simp only [riseP, Bool.and_eq_true, decide_eq_true_eq] at h
  obtain ⟨h1, h2⟩ := rise_pair h.2
  refine ⟨fun y hy => ?_, List.pairwise_cons.2 ⟨h1, h2⟩⟩
  rcases List.mem_cons.1 hy with rfl | hy
  ·exact h.1
  ·have := h1 y hy; omega
theorem class_mono {l : List Int} (h : classP l = true) {i j : Nat} {x y : Int} (hij : i ≤ j) (hx : l[i]? = some x) (hy : l[j]? = some y) : x ≤ y := by
 simp only [classP, Bool.and_eq_true] at h
 have hp := (rise_pair h.2).2
 rcases Nat.lt_or_ge i j with h1 | h1
 ·obtain ⟨g1, e1⟩ := List.getElem?_eq_some_iff.1 hx
  obtain ⟨g2, e2⟩ := List.getElem?_eq_some_iff.1 hy
  have := List.pairwise_iff_getElem.1 hp i j g1 g2 h1
  rw [e1, e2] at this
  omega
 ·have : i = j := by omega
  subst this
  rw [hx] at hy; cases hy; omega
structure SeS where
 i : Nat
 j : Nat
set_option maxRecDepth 10000 in
theorem Search_K {w0 : World} {H : Heap} {fv : Value} {n : Nat} (p : Nat → Bool) (hn : n ≤ 140737488355328) (hmono : ∀ i j, i ≤ j → j < n → p i = true → p j = true)
  (hy : ∀ i, i < n → CallV Tryz.prog w0 fv [.int .i64 (i : Nat)] H (fun r H' => r = .bool (p i) ∧ H' = H)) :
  Call Tryz.prog w0 300 [.int .i64 (n : Nat), fv] H (fun r H' => ∃ i : Nat, i ≤ n ∧ (∀ j, j < i → p j = false) ∧ (∀ j, i ≤ j → j < n → p j = true) ∧ r = .int .i64 (i : Nat) ∧ H' = H) := by
 refine Call.enter2 (n := 26) (by kernel_rfl) Tryz.func300 rfl rfl rfl ?_
 refine zcM ?_
 refine zcL ?_
 refine KL.nil (KE.next (K.seq (K.block ?_)))
 refine K.loopT (σ := SeS) [(1, _)] (fun s kp_ => (5, .int .i64 (s.i : Nat)) :: (6, .int .i64 (s.j : Nat)) :: kp_) (fun s => H) (fun s => s.i ≤ s.j ∧ s.j ≤ n ∧ (∀ q, q < s.i → p q = false) ∧ (∀ q, s.j ≤ q → q < n → p q = true)) (fun s => s.j - s.i) (⟨0, n⟩) bySub byPart (⟨by simp, by simp, fun q hq => by simp at hq, fun q h1 h2 => by dsimp only at h1; omega⟩) ?_
 rintro ⟨i, j⟩ ⟨hij, hjn, hlo, hhi⟩
 dsimp only at hij hjn hlo hhi ⊢
 by_cases hlt : i < j
 ·have hmid : IntKind.i64.wrap (((i : Int) + (j : Int)).fdiv (2 ^ min (Int.toNat 1) IntKind.u64.bits)) = (((i + j) / 2 : Nat) : Int) := by
   have e : (2 : Int) ^ min (Int.toNat 1) IntKind.u64.bits = 2 := by decide
   rw [e]
   have e2 : ((i : Int) + (j : Int)).fdiv 2 = (((i + j) / 2 : Nat) : Int) := by
    rw [Int.fdiv_eq_ediv_of_nonneg _ (by omega)]; omega
   rw [e2]
   exact wrap_in (by simp only [qL, qH]; omega)
  obtain ⟨h, hh⟩ : ∃ h, h = (i + j) / 2 := ⟨_, rfl⟩
  rw [← hh] at hmid
  have hih : i ≤ h := by omega
  have hhj : h < j := by omega
  refine zcI ?_
  refine zE ?_
  refine zjV ?_
  refine zj ?_
  refine zQ ?_
  refine zbX ?_
  refine zcZ ?_
  refine KL.v rfl (Val.convW rfl rfl rfl) ?_
  refine zcC fun T hT => ?_
  rw [hmid] at hT ⊢
  refine (hy h (by omega)).mono ?_
  refine zS ?_
  cases hp : p h with
  | true =>
   refine zd ?_
   clear hT T
   refine zF ?_
   refine zlc ?_
   refine zf ?_
   refine zbE ?_
   refine zbY ?_
   exact KE.again ⟨i, h⟩ bySub byPart ⟨hih, by dsimp only; omega, hlo, fun q h1 h2 => hmono h q h1 h2 hp⟩ (by show h - i < j - i; omega)
  | false =>
   have hlo2 : ∀ q, q < h + 1 → p q = false := by
    intro q hq
    cases hpq : p q with
    | false => rfl
    | true =>
     have := hmono q h (by omega) (by omega) hpq
     rw [hp] at this
     cases this
   refine zd ?_
   clear hT T
   refine zbA ?_
   refine zbz ?_
   refine zf ?_
   refine zcK ?_
   refine zbY ?_
   exact KE.again ⟨h + 1, j⟩ bySub byPart ⟨by dsimp only; omega, hjn, hlo2, hhi⟩ (by show j - (h + 1) < j - i; omega)
 ·have : i = j := by omega
  subst this
  refine zcI ?_
  refine zfp ?_
  refine zbV ?_
  exact KE.fin byMarks rfl byRes byPart ⟨i, by omega, hlo, hhi, rfl, rfl⟩
structure MxS where
 k : Nat
 z : Int
theorem Max_K {w0 : World} {H : Heap} {v : Value} {l : List Int} {top : Int} (hS : Sli w0 H iE v l) (hl : l.length ≤ 140737488355328) (ht : l.getLast? = some top) (hr : l.Pairwise (· < ·)) :
  Call Tryz.prog w0 267 [v] H (fun r H' => r = .int .i64 top ∧ H' = H) := by
 have h0 : 0 < l.length := by
  cases l with
  | nil => cases ht
  | cons x l => simp
 obtain ⟨z, hz⟩ := get_of_lt (l := l) (k := 0) h0
 have hz' : l[Int.toNat 0]? = some z := hz
 refine Call.enter1 (n := 25) (by kernel_rfl) Tryz.func267 rfl rfl rfl ?_
 refine zbu ?_
 refine zdd ?_
 refine zM ?_
 refine zf ?_
 refine zbK ?_
 refine zcn ?_
 refine K.loopT (σ := MxS) [(0, _)] (fun s kp_ => (4, .int .i64 (s.k : Nat)) :: (3, .int .i64 s.z) :: kp_) (fun s => H) (fun s => 1 ≤ s.k ∧ s.k ≤ l.length ∧ l[s.k - 1]? = some s.z) (fun s => l.length - s.k) (⟨1, z⟩) bySub byPart (⟨by simp, by show 1 ≤ _; omega, hz⟩) ?_
 rintro ⟨k, m⟩ ⟨hk1, hk, hm⟩
 dsimp only at hk1 hk hm ⊢
 by_cases hlt : k < l.length
 ·obtain ⟨x, hx⟩ := get_of_lt hlt
  have hmx : m < x := by
   obtain ⟨g1, e1⟩ := List.getElem?_eq_some_iff.1 hm
   obtain ⟨g2, e2⟩ := List.getElem?_eq_some_iff.1 hx
   have := List.pairwise_iff_getElem.1 hr (k - 1) k g1 g2 (by omega)
   rw [e1, e2] at this
   exact this
  refine zgf ?_
  refine zhZ ?_
  refine zbI ?_
  refine zbK ?_
  refine KL.v rfl (Val.max rfl rfl) ?_
  refine zbE ?_
  refine zbq ?_
  exact KE.again ⟨k + 1, if m < x then x else m⟩ bySub byPart ⟨by show 1 ≤ k + 1; omega, by show k + 1 ≤ _; omega, by show l[k + 1 - 1]? = some (if m < x then x else m); rw [if_pos hmx]; exact hx⟩ (by show l.length - (k + 1) < l.length - k; omega)
 ·have hke : k = l.length := by omega
  have hmt : m = top := by
   rw [List.getLast?_eq_getElem?, ← hke, hm] at ht
   cases ht; rfl
  refine zkO ?_
  refine zfg ?_
  refine zbV ?_
  exact KE.fin byMarks rfl byRes byPart ⟨by rw [hmt]; rfl, rfl⟩
open Go.RowKit
set_option maxRecDepth 10000
structure Tn where
 quota : Int
 trigger : Int
 caps : Int
 assist : Int
def tnE : Enc Tn := ⟨fun t => [.int .i64 t.quota, .int .i64 t.trigger, .int .i64 t.caps, .int .i64 t.assist], 4, fun _ => rfl, by intro x v hv; simp at hv; rcases hv with rfl | rfl | rfl | rfl <;> rfl⟩
structure Cfg where
 cl : List Int
 page : Int
 tn : List Tn
 workers : Int
 grey : Int
 gens : Int
def topP (l : List Int) : Int := (l.getLast?).getD 0
def tenP (great : Int) (t : Tn) : Bool := withinP [great, t.quota, 4096, 1, t.trigger, 1048576, 1, t.caps, 1024, 0, t.assist, 1024]
def planP (c : Cfg) : Bool := withinP [topP c.cl, c.page, 64, 1, (c.tn.length : Nat), 8, 0, c.workers, 8, 1, c.grey, 64, 1, c.gens, 2147483648]
def cfgP (c : Cfg) : Bool := classP c.cl && (planP c && c.tn.all (tenP (topP c.cl)))
def cfgL (c : Cfg) (vc vt : Value) : List Value := [vc, .int .i64 c.page, vt, .int .i64 c.workers, .int .i64 c.grey, .int .i64 c.gens]
def cfgV (c : Cfg) (vc vt : Value) : Value := .agg (cfgL c vc vt).toArray
structure CfgR (w0 : World) (H : Heap) (c : Cfg) (vc vt : Value) : Prop where
 cl : Sli w0 H iE vc c.cl
 tn : Sli w0 H tnE vt c.tn
 one1 : vc.cells = [vc].toArray
 one2 : vt.cells = [vt].toArray
 len1 : c.cl.length ≤ 140737488355328
 len2 : c.tn.length ≤ 140737488355328
theorem CfgR.part {w0 : World} {H H' : Heap} {c : Cfg} {vc vt : Value} (h : CfgR w0 H' c vc vt) (hp : Part H H') : CfgR w0 H c vc vt :=
 ⟨h.cl.part hp, h.tn.part hp, h.one1, h.one2, h.len1, h.len2⟩
structure CcS where
 k : Nat
theorem confCheck_K {w0 : World} {H : Heap} {c : Cfg} {vc vt : Value} (hR : CfgR w0 H c vc vt) :
  Call Tryz.prog w0 214 [cfgV c vc vt] H (fun r H' => r = .int .i64 (errB (cfgP c) 2) ∧ H' = H) := by
 obtain ⟨hS, hT', o1, o2, l1, l2⟩ := hR
 obtain ⟨cl, page, tn, workers, grey, gens⟩ := c
 dsimp only at hS hT' l1 l2
 simp only [cfgV, cfgL]
 refine Call.enter1 (n := 51) (by kernel_rfl) Tryz.func214 rfl rfl rfl ?_
 refine zbl ?_; intro b1
 refine zal ?_
 refine zeQ fun T hT => ?_
 refine (CallV.fn (Check_K (l := cl) (hS.part byPart) l1)).mono ?_
 rintro _ _ ⟨rfl, rfl⟩
 cases hc : classP cl with
 | false =>
  have hf : cfgP ⟨cl, page, tn, workers, grey, gens⟩ = false := by simp [cfgP, hc]
  refine zjL ?_
  clear hT T
  refine zav ?_
  refine zcU ?_
  refine zam ?_
  exact zc6
 | true =>
  simp only [errB, if_true]
  have hcc := hc
  simp only [classP, Bool.and_eq_true, decide_eq_true_eq] at hcc
  obtain ⟨z, hz⟩ := get_of_lt (l := cl) (k := cl.length - 1) (by omega)
  have hzl : cl.getLast? = some z := by rw [List.getLast?_eq_getElem?]; exact hz
  have htop : topP cl = z := by simp [topP, hzl]
  refine zd ?_
  clear hT T
  refine zav ?_
  refine zaB ?_
  refine zeQ fun T hT => ?_
  refine (CallV.fn (Max_K (l := cl) (top := z) (hS.part byPart) l1 hzl (rise_pair hcc.2).2)).mono ?_
  rintro _ _ ⟨rfl, rfl⟩
  refine zd ?_
  clear hT T
  refine zT ?_
  refine zd2 ?_
  refine zP ?_
  refine zdc ?_
  refine zZ ?_
  refine zk ?_
  refine zaY ?_
  refine zk ?_
  refine zad ?_; intro b28
  refine zg fun T hT => ?_
  refine (CallV.fn (within_K (l := [z, page, 64, 1, (tn.length : Nat), 8, 0, workers, 8, 1, grey, 64, 1, gens, 2147483648]) (n := 5) (Sli.blk byTake rfl (by simp) (by decide) rfl) rfl (by decide))).mono ?_
  rintro _ _ ⟨rfl, rfl⟩
  cases hp : withinP [z, page, 64, 1, (tn.length : Nat), 8, 0, workers, 8, 1, grey, 64, 1, gens, 2147483648] with
  | false =>
   have hf : cfgP ⟨cl, page, tn, workers, grey, gens⟩ = false := by simp [cfgP, planP, hc, htop, hp]
   refine zd ?_
   clear hT T
   refine zat ?_
   refine zam ?_
   exact zc6
  | true =>
   have hcr : cfgP ⟨cl, page, tn, workers, grey, gens⟩ = tn.all (tenP z) := by simp [cfgP, planP, hc, htop, hp]
   refine zd ?_
   clear hT T
   refine zdV ?_
   refine zas ?_
   refine zP ?_
   refine zeM ?_
   refine K.loopT (σ := CcS) [(4, _), (32, _), (33, _)] (fun s kp_ => (34, .int .i64 (s.k : Nat)) :: kp_) (fun s => H) (fun s => s.k ≤ tn.length ∧ tn.all (tenP z) = (tn.drop s.k).all (tenP z)) (fun s => tn.length - s.k) (⟨0⟩) bySub byPart (⟨by simp, by simp⟩) ?_
   rintro ⟨k⟩ ⟨hk, hr⟩
   dsimp only at hk hr ⊢
   by_cases hlt : k < tn.length
   ·obtain ⟨t, ht⟩ := get_of_lt hlt
    have hd : tn.drop k = t :: tn.drop (k + 1) := by
     obtain ⟨h1, e⟩ := List.getElem?_eq_some_iff.1 ht
     rw [List.drop_eq_getElem_cons h1, e]
    rw [hd, List.all_cons] at hr
    obtain ⟨q, tr, cp, ax⟩ := t
    refine zd1 ?_
    refine zc4 ?_
    refine zfQ ?_; intro b6
    refine zy ?_
    refine zf ?_
    refine zJ ?_
    refine zd2 ?_
    refine zdc ?_
    refine zad ?_; intro b47
    refine zg fun T hT => ?_
    refine (CallV.fn (within_K (l := [z, q, 4096, 1, tr, 1048576, 1, cp, 1024, 0, ax, 1024]) (n := 4) (Sli.blk byTake rfl (by simp) (by decide) rfl) rfl (by decide))).mono ?_
    rintro _ _ ⟨rfl, rfl⟩
    have htp : tenP z ⟨q, tr, cp, ax⟩ = withinP [z, q, 4096, 1, tr, 1048576, 1, cp, 1024, 0, ax, 1024] := rfl
    cases hw : withinP [z, q, 4096, 1, tr, 1048576, 1, cp, 1024, 0, ax, 1024] with
    | false =>
     have hf : cfgP ⟨cl, page, tn, workers, grey, gens⟩ = false := by rw [hcr, hr, htp, hw]; rfl
     refine zd ?_
     clear hT T
     refine zat ?_
     exact zhd
    | true =>
     rw [htp, hw, Bool.true_and] at hr
     refine zd ?_
     clear hT T
     refine zF ?_
     refine za7 ?_
     refine zeB ?_
     exact zld
   ·have hf : cfgP ⟨cl, page, tn, workers, grey, gens⟩ = true := by rw [hcr, hr, List.drop_of_length_le (by omega)]; rfl
    refine zq ?_
    refine zeD ?_
    refine zaN ?_
    refine zt ?_
    exact zc6
open Go.RowKit
set_option maxRecDepth 10000
structure CfgOk (c : Cfg) : Prop where
 cl : 1 ≤ c.cl.length ∧ c.cl.length ≤ 8
 tn : 1 ≤ c.tn.length ∧ c.tn.length ≤ 8
 el : ∀ x ∈ c.cl, 1 < x ∧ x ≤ topP c.cl
 page : topP c.cl ≤ c.page ∧ c.page ≤ 64
 workers : 0 ≤ c.workers ∧ c.workers ≤ 8
 grey : 1 ≤ c.grey ∧ c.grey ≤ 64
 gens : 1 ≤ c.gens ∧ c.gens ≤ 2147483648
 ten : ∀ t ∈ c.tn, (topP c.cl ≤ t.quota ∧ t.quota ≤ 4096) ∧ (1 ≤ t.trigger ∧ t.trigger ≤ 1048576) ∧ (1 ≤ t.caps ∧ t.caps ≤ 1024) ∧ (0 ≤ t.assist ∧ t.assist ≤ 1024)
theorem cfg_ok {c : Cfg} (h : cfgP c = true) : CfgOk c := by
 simp only [cfgP, planP, Bool.and_eq_true, List.all_eq_true, tenP, withinP, decide_eq_true_eq] at h
 obtain ⟨hc, ⟨p1, p2, p3, p4, p5, p6, p7, p8, p9, p10, _⟩, ht⟩ := h
 have hcc := hc
 simp only [classP, Bool.and_eq_true, decide_eq_true_eq] at hcc
 obtain ⟨⟨⟨c1, c2⟩, c3⟩, c4⟩ := hcc
 refine ⟨⟨c1, c2⟩, ⟨by omega, by omega⟩, ?_, ⟨p1, p2⟩, ⟨p5, p6⟩, ⟨p7, p8⟩, ⟨p9, p10⟩, ?_⟩
 ·intro x hx
  refine ⟨(rise_pair c4).1 x hx, ?_⟩
  obtain ⟨i, hi⟩ := List.getElem?_of_mem hx
  obtain ⟨z, hz⟩ := get_of_lt (l := c.cl) (k := c.cl.length - 1) (by omega)
  have := class_mono hc (by have := lt_of_get hi; omega : i ≤ c.cl.length - 1) hi hz
  have hzl : c.cl.getLast? = some z := by rw [List.getLast?_eq_getElem?]; exact hz
  simpa [topP, hzl] using this
 ·intro t hm
  obtain ⟨q1, q2, q3, q4, q5, q6, q7, q8, _⟩ := ht t hm
  exact ⟨⟨q1, q2⟩, ⟨q3, q4⟩, ⟨q5, q6⟩, ⟨q7, q8⟩⟩
def thereP (c : Cfg) (t k : Int) : Bool := cfgP c && withinP [0, t, (c.tn.length : Nat) - 1, 0, k, (c.cl.length : Nat) - 1]
theorem there_at {c : Cfg} {t k : Int} (h : thereP c t k = true) : ∃ (i j : Nat) (x : Tn) (y : Int), t = i ∧ k = j ∧ c.tn[i]? = some x ∧ c.cl[j]? = some y ∧ CfgOk c := by
 simp only [thereP, Bool.and_eq_true, withinP, decide_eq_true_eq] at h
 obtain ⟨hc, h1, h2, h3, h4, _⟩ := h
 obtain ⟨x, hx⟩ := get_of_lt (l := c.tn) (k := t.toNat) (by omega)
 obtain ⟨y, hy⟩ := get_of_lt (l := c.cl) (k := k.toNat) (by omega)
 exact ⟨t.toNat, k.toNat, x, y, by omega, by omega, hx, hy, cfg_ok hc⟩
theorem there_K {w0 : World} {H : Heap} {c : Cfg} {vc vt : Value} {t k : Int} (hR : CfgR w0 H c vc vt) :
  Call Tryz.prog w0 172 [cfgV c vc vt, .int .i64 t, .int .i64 k] H (fun r H' => r = .bool (thereP c t k) ∧ H' = H) := by
 have hc0 := fun A (hp : Part A H) => confCheck_K (hR.part hp)
 obtain ⟨hS, hT', o1, o2, l1, l2⟩ := hR
 have he : thereP c t k = (cfgP c && withinP [0, t, (c.tn.length : Nat) - 1, 0, k, (c.cl.length : Nat) - 1]) := rfl
 obtain ⟨cl, page, tn, workers, grey, gens⟩ := c
 dsimp only at hS hT' l1 l2 he
 simp only [cfgV, cfgL] at hc0 ⊢
 refine Call.enter3 (n := 24) (by kernel_rfl) Tryz.func172 rfl rfl rfl ?_
 refine zW ?_; intro b3
 refine zp fun T hT => ?_
 refine zaK ?_
 rintro _ _ ⟨rfl, rfl⟩
 cases hc : cfgP ⟨cl, page, tn, workers, grey, gens⟩ with
 | false =>
  rw [hc, Bool.false_and] at he
  refine zjL ?_
  clear hT T
  refine zH ?_
  refine zgA ?_
  refine zg5 ?_
  refine zg5 ?_
  refine zdy ?_
  exact zec
 | true =>
  rw [hc, Bool.true_and] at he
  simp only [errB, if_true]
  refine zd ?_
  clear hT T
  refine zgx ?_
  refine zaT ?_
  refine zaS ?_
  refine zbi ?_
  refine zaF ?_
  refine zaD ?_
  refine zaS ?_
  refine zdW ?_
  refine zad ?_; intro b21
  refine zjI fun T hT => ?_
  refine (CallV.fn (within_K (l := [0, t, (tn.length : Nat) - 1, 0, k, (cl.length : Nat) - 1]) (n := 2) (Sli.blk byTake rfl (by simp) (by decide) rfl) rfl (by decide))).mono ?_
  rintro _ _ ⟨rfl, rfl⟩
  refine zd ?_
  clear hT T
  refine zgJ ?_
  exact zec
set_option maxRecDepth 10000
def slotN (q y : Int) : Int := q / y
def pageN (page q y : Int) : Int := (q / y + page / y - 1) / (page / y)
def cfgQ (c : Cfg) (t : Int) : Int := ((c.tn[t.toNat]?).map (·.quota)).getD 0
def cfgC (c : Cfg) (k : Int) : Int := ((c.cl[k.toNat]?)).getD 0
def slotsP (c : Cfg) (t k : Int) : Int × Int := if thereP c t k then (slotN (cfgQ c t) (cfgC c k), 0) else (0, 2)
def pagesP (c : Cfg) (t k : Int) : Int × Int := if thereP c t k then (pageN c.page (cfgQ c t) (cfgC c k), 0) else (0, 2)
def prV (p : Int × Int) : Value := .tuple [.int .i64 p.1, .int .i64 p.2].toArray
theorem slotN_le {q y : Int} (hy : 2 ≤ y) (hq : y ≤ q) (hq2 : q ≤ 4096) : 1 ≤ slotN q y ∧ slotN q y ≤ 2048 := by
 unfold slotN
 constructor
 ·exact (Int.le_ediv_iff_mul_le (by omega)).2 (by omega)
 ·exact Int.le_trans (Int.ediv_le_ediv (by omega) hq2) (by
   have : (4096 : Int) / y * y ≤ 4096 := Int.ediv_mul_le _ (by omega)
   have h0 : 0 ≤ (4096 : Int) / y := Int.ediv_nonneg (by omega) (by omega)
   have : (4096 : Int) / y * 2 ≤ 4096 / y * y := Int.mul_le_mul_of_nonneg_left hy h0
   omega)
theorem Slots_K {w0 : World} {H : Heap} {c : Cfg} {vc vt : Value} {t k : Int} (hR : CfgR w0 H c vc vt) :
  Call Tryz.prog w0 92 [cfgV c vc vt, .int .i64 t, .int .i64 k] H (fun r H' => r = prV (slotsP c t k) ∧ H' = H) := by
 have hc0 := fun A (hp : Part A H) => there_K (t := t) (k := k) (hR.part hp)
 obtain ⟨hS, hT', o1, o2, l1, l2⟩ := hR
 cases ht : thereP c t k with
 | false =>
  have he : slotsP c t k = (0, 2) := by simp [slotsP, ht]
  rw [ht] at hc0
  rw [he]
  obtain ⟨cl, page, tn, workers, grey, gens⟩ := c
  dsimp only at hS hT' l1 l2 he
  simp only [cfgV, cfgL] at hc0 ⊢
  refine Call.enter3 (n := 25) (by kernel_rfl) Tryz.func92 rfl rfl rfl ?_
  refine za5 ?_; intro b3
  refine zaC fun T hT => ?_
  refine zaK ?_
  rintro _ _ ⟨rfl, rfl⟩
  refine zd ?_
  clear hT T
  exact zeE
 | true =>
  obtain ⟨i, j, x, y, rfl, rfl, hx, hy, ok⟩ := there_at ht
  have he : slotsP c (i : Nat) (j : Nat) = (x.quota / y, 0) := by simp [slotsP, ht, slotN, cfgQ, cfgC, hx, hy]
  have hb := (ok.ten x (List.mem_of_getElem? hx)).1
  have hb2 := ok.el y (List.mem_of_getElem? hy)
  have hil := lt_of_get hx
  have hjl := lt_of_get hy
  rw [ht] at hc0
  rw [he]
  obtain ⟨q, tr, cp, ax⟩ := x
  obtain ⟨cl, page, tn, workers, grey, gens⟩ := c
  dsimp only at hS hT' l1 l2 he hx hy hb hb2 hil hjl
  simp only [cfgV, cfgL] at hc0 ⊢
  refine Call.enter3 (n := 25) (by kernel_rfl) Tryz.func92 rfl rfl rfl ?_
  refine za5 ?_; intro b3
  refine zaC fun T hT => ?_
  refine zaK ?_
  rintro _ _ ⟨rfl, rfl⟩
  refine zd ?_
  clear hT T
  refine zF ?_
  refine zdF ?_
  refine zgR ?_
  refine zcc ?_
  refine zb5 ?_
  refine zgP ?_
  refine zeZ ?_
  refine zeb ?_
  refine zcT ?_
  refine zdS ?_
  refine zgS ?_
  refine zaw ?_
  exact zdU
theorem Pages_K {w0 : World} {H : Heap} {c : Cfg} {vc vt : Value} {t k : Int} (hR : CfgR w0 H c vc vt) :
  Call Tryz.prog w0 93 [cfgV c vc vt, .int .i64 t, .int .i64 k] H (fun r H' => r = prV (pagesP c t k) ∧ H' = H) := by
 have hc0 := fun A (hp : Part A H) => Slots_K (t := t) (k := k) (hR.part hp)
 obtain ⟨hS, hT', o1, o2, l1, l2⟩ := hR
 cases ht : thereP c t k with
 | false =>
  have he : pagesP c t k = (0, 2) := by simp [pagesP, ht]
  have he2 : slotsP c t k = (0, 2) := by simp [slotsP, ht]
  rw [he2] at hc0
  rw [he]
  obtain ⟨cl, page, tn, workers, grey, gens⟩ := c
  dsimp only at hS hT' l1 l2 he
  simp only [cfgV, cfgL] at hc0 ⊢
  refine Call.enter3 (n := 35) (by kernel_rfl) Tryz.func93 rfl rfl rfl ?_
  refine zco ?_; intro b3
  refine zaC fun T hT => ?_
  refine zaK ?_
  rintro _ _ ⟨rfl, rfl⟩
  simp only [prV]
  refine zd ?_
  clear hT T
  refine zG ?_
  refine zcU ?_
  exact zdh
 | true =>
  obtain ⟨i, j, x, y, rfl, rfl, hx, hy, ok⟩ := there_at ht
  have he : pagesP c (i : Nat) (j : Nat) = (pageN c.page x.quota y, 0) := by simp [pagesP, ht, cfgQ, cfgC, hx, hy]
  have hb := (ok.ten x (List.mem_of_getElem? hx)).1
  have hb2 := ok.el y (List.mem_of_getElem? hy)
  have hpg := ok.page
  have hn : slotsP c (i : Nat) (j : Nat) = (slotN x.quota y, 0) := by simp [slotsP, ht, cfgQ, cfgC, hx, hy]
  have hsl := slotN_le (q := x.quota) (y := y) (by omega) (by omega) hb.2
  have hper : 1 ≤ c.page / y ∧ c.page / y ≤ 64 := ⟨(Int.le_ediv_iff_mul_le (by omega)).2 (by omega), Int.le_trans (Int.ediv_le_self _ (by omega)) hpg.2⟩
  have hil := lt_of_get hx
  have hjl := lt_of_get hy
  rw [hn] at hc0
  rw [he]
  have hpn : pageN c.page x.quota y = (slotN x.quota y + c.page / y - 1) / (c.page / y) := rfl
  rw [hpn]
  obtain ⟨n, hn'⟩ : ∃ n, n = slotN x.quota y := ⟨_, rfl⟩
  rw [← hn'] at hc0 hsl ⊢
  obtain ⟨q, tr, cp, ax⟩ := x
  obtain ⟨cl, page, tn, workers, grey, gens⟩ := c
  dsimp only at hS hT' l1 l2 he hx hy hb hb2 hil hjl hpg hper
  simp only [cfgV, cfgL] at hc0 ⊢
  obtain ⟨pr, hpr⟩ : ∃ p, p = page / y := ⟨_, rfl⟩
  rw [← hpr] at hper
  refine Call.enter3 (n := 35) (by kernel_rfl) Tryz.func93 rfl rfl rfl ?_
  refine zco ?_; intro b3
  refine zaC fun T hT => ?_
  refine zaK ?_
  rintro _ _ ⟨rfl, rfl⟩
  simp only [prV]
  refine zd ?_
  clear hT T
  refine zG ?_
  refine zD ?_
  refine zdF ?_
  refine ziR ?_
  refine zdj ?_
  refine zcT ?_
  refine zdS ?_
  refine zgS ?_
  refine zbm ?_
  refine zaN ?_
  refine zj ?_
  refine zQ ?_
  refine zbi ?_
  refine zf ?_
  refine KL.v rfl (Val.quoN rfl rfl (by simp only [qL, qH]; omega)) ?_
  exact za4
open Go.RowKit
set_option maxRecDepth 10000
def sumN (f : Nat → Int) : Nat → Int
 | 0 => 0
 | k + 1 => sumN f k + f k
theorem sumN_le {f : Nat → Int} {B : Int} : ∀ {n : Nat}, (∀ i, i < n → 0 ≤ f i ∧ f i ≤ B) → 0 ≤ sumN f n ∧ sumN f n ≤ (n : Int) * B
 | 0, _ => by simp [sumN]
 | n + 1, h => by
  obtain ⟨h1, h2⟩ := sumN_le (n := n) (fun i hi => h i (by omega))
  obtain ⟨h3, h4⟩ := h n (by omega)
  have e : ((n + 1 : Nat) : Int) * B = (n : Int) * B + B := by rw [Int.natCast_add, Int.add_mul]; simp
  rw [e]
  simp only [sumN]
  omega
structure SmS where
 k : Nat
theorem sumI_K {w0 : World} {H : Heap} {v fv : Value} {l : List Int} {f : Nat → Int} (hS : Sli w0 H iE v l) (hl : l.length ≤ 8) (hB : ∀ i, i < l.length → 0 ≤ f i ∧ f i ≤ 1048576)
  (hf : ∀ i, i < l.length → CallV Tryz.prog w0 fv [.int .i64 (i : Nat)] H (fun r H' => r = .int .i64 (f i) ∧ H' = H)) :
  Call Tryz.prog w0 246 [v, fv] H (fun r H' => r = .int .i64 (sumN f l.length) ∧ H' = H) := by
 refine Call.enter2 (n := 19) (by kernel_rfl) Tryz.func246 rfl rfl rfl ?_
 refine zbH ?_
 refine zT ?_
 refine zP ?_
 refine zeM ?_
 refine zle ?_
 rintro ⟨k⟩ hk
 dsimp only at hk ⊢
 by_cases hlt : k < l.length
 ·have b1 := sumN_le (f := f) (n := k) (fun i hi => hB i (by omega))
  have b2 := hB k hlt
  obtain ⟨a, ha⟩ : ∃ a, a = sumN f k := ⟨_, rfl⟩
  obtain ⟨b, hb⟩ : ∃ b, b = f k := ⟨_, rfl⟩
  have hs : sumN f (k + 1) = a + b := by rw [ha, hb]; rfl
  rw [← ha] at b1 ⊢
  rw [← hb] at b2
  have hfk := hf k hlt
  rw [← hb] at hfk
  refine zd1 ?_
  refine zf ?_
  refine zdo ?_
  refine zj ?_
  refine zh fun T hT => ?_
  refine hfk.mono ?_
  rintro _ _ ⟨rfl, rfl⟩; refine hT _ _ ?_
  clear hT T
  refine zcK ?_
  refine zeB ?_
  rw [← hs]
  exact zlf
 ·have hke : k = l.length := by omega
  subst hke
  refine zq ?_
  refine zeD ?_
  refine zd0 ?_
  exact zw
theorem sumT_K {w0 : World} {H : Heap} {v fv : Value} {l : List Tn} {f : Nat → Int} (hS : Sli w0 H tnE v l) (hl : l.length ≤ 8) (hB : ∀ i, i < l.length → 0 ≤ f i ∧ f i ≤ 1048576)
  (hf : ∀ i, i < l.length → CallV Tryz.prog w0 fv [.int .i64 (i : Nat)] H (fun r H' => r = .int .i64 (f i) ∧ H' = H)) :
  Call Tryz.prog w0 215 [v, fv] H (fun r H' => r = .int .i64 (sumN f l.length) ∧ H' = H) := by
 refine Call.enter2 (n := 19) (by kernel_rfl) Tryz.func215 rfl rfl rfl ?_
 refine zbH ?_
 refine zT ?_
 refine zP ?_
 refine zeM ?_
 refine zle ?_
 rintro ⟨k⟩ hk
 dsimp only at hk ⊢
 by_cases hlt : k < l.length
 ·have b1 := sumN_le (f := f) (n := k) (fun i hi => hB i (by omega))
  have b2 := hB k hlt
  obtain ⟨a, ha⟩ : ∃ a, a = sumN f k := ⟨_, rfl⟩
  obtain ⟨b, hb⟩ : ∃ b, b = f k := ⟨_, rfl⟩
  have hs : sumN f (k + 1) = a + b := by rw [ha, hb]; rfl
  rw [← ha] at b1 ⊢
  rw [← hb] at b2
  have hfk := hf k hlt
  rw [← hb] at hfk
  refine zd1 ?_
  refine zf ?_
  refine zdo ?_
  refine zj ?_
  refine zh fun T hT => ?_
  refine hfk.mono ?_
  rintro _ _ ⟨rfl, rfl⟩; refine hT _ _ ?_
  clear hT T
  refine zcK ?_
  refine zeB ?_
  rw [← hs]
  exact zlf
 ·have hke : k = l.length := by omega
  subst hke
  refine zq ?_
  refine zeD ?_
  refine zd0 ?_
  exact zw
end Go.Proofs.YtalholahapcpkaaGreatDoor.Sw
