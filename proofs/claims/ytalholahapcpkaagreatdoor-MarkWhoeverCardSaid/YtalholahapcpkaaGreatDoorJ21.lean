/- The walker and the contracts that the law needs, part 21. -/
import Derived.Test.YtalholahapcpkaaGreatDoorD1
import Derived.Shelf.Spec.TrailingZeros
import Derived.Test.YtalholahapcpkaaGreatDoorJ20
namespace Go.Proofs.YtalholahapcpkaaGreatDoor.Sw
open Go.Proofs.YtalholahapcpkaaGreatDoor renaming lo → qL, hi → qH
open Go.RowKit
set_option linter.unusedVariables false
set_option linter.unusedSimpArgs false
set_option maxRecDepth 10000
def wdL : List Nat := [16, 16, 16, 8, 8]
structure Glob (w : World) : Prop where
 tab : TabAt 1 Lib.deBruijn64tab w
 wd : ∀ j n, wdL[j]? = some n → w.cell? ⟨0, j, none⟩ = some (.int .i64 (n : Nat))
theorem Glob.only {w w' : World} (h : Glob w) (ho : Only [] w w') : Glob w' := ⟨fun j hj => cell_only ho (h.tab j hj), fun j n hn => cell_only ho (h.wd j n hn)⟩
theorem neg_nat {x : Nat} (h0 : x ≠ 0) (h : x < 18446744073709551616) : IntKind.u64.wrap (-(x : Int)) = ((18446744073709551616 - x : Nat) : Int) := by
 rw [IntKind.wrap_u64]; omega
theorem ctz_K {w0 : World} {H : Heap} (hG : Glob w0) {x : Nat} (h : x < 18446744073709551616) (h0 : x ≠ 0) :
  Call Tryz.prog w0 223 [.int .u64 (x : Nat)] H (fun r H' => r = .int .i64 (Lib.ctz 64 x : Nat) ∧ H' = H) := by
 obtain ⟨hlow, hk⟩ := Lib.lowest_bit 64 x h0 h
 obtain ⟨hi, htab⟩ := Lib.deBruijn64_at _ hk
 have hcell := hG.tab _ hi
 have hx0 : ¬ (x : Int) = 0 := by omega
 have hxl : 18446744073709551616 - x < 18446744073709551616 := by omega
 have hlow' : x &&& (18446744073709551616 - x) = 2 ^ Lib.ctz 64 x := hlow
 have hpw := pow_lt hk
 obtain ⟨c, hc⟩ : ∃ c, c = Lib.ctz 64 x := ⟨_, rfl⟩
 rw [← hc] at hlow' hi htab hpw hcell hk ⊢
 have hml : 2 ^ c * 285870213051353865 % 18446744073709551616 < 18446744073709551616 := Nat.mod_lt _ (by decide)
 obtain ⟨p, hp⟩ : ∃ p, p = 2 ^ c := ⟨_, rfl⟩
 rw [← hp] at hlow' hi htab hpw hcell hml
 obtain ⟨y, hy⟩ : ∃ y, y = p * 285870213051353865 % 18446744073709551616 := ⟨_, rfl⟩
 have hmul : IntKind.u64.wrap ((p : Int) * 285870213051353865) = (y : Int) := by
  rw [IntKind.wrap_u64, hy]; omega
 rw [← hy] at hi htab hcell hml
 clear hy
 obtain ⟨idx, hidx⟩ : ∃ idx, idx = y / 288230376151711744 := ⟨_, rfl⟩
 have hsh : (y : Int).fdiv (2 ^ (min (Int.toNat 58) IntKind.u64.bits)) = (idx : Int) := by
  have e : (2 : Int) ^ (min (Int.toNat 58) IntKind.u64.bits) = 288230376151711744 := by decide
  rw [e, Int.fdiv_eq_ediv_of_nonneg _ (by omega), hidx]; omega
 rw [← hidx] at hi htab hcell
 rw [htab] at hcell
 have hidx' : (idx : Int) < 64 := by omega
 have hse : Sees w0 H ⟨1, 0 + Int.toNat ((idx : Nat) : Int) * 1, none⟩ (.int .u8 (c : Nat)) := by
  rw [show 0 + Int.toNat ((idx : Nat) : Int) * 1 = idx by simp]
  exact Sees.old hcell
 refine Call.enter1 (n := 14) (by kernel_rfl) Tryz.func223 rfl rfl rfl ?_
 refine zbu ?_
 refine zH ?_
 refine zgp ?_
 refine zj ?_
 (first | (refine KL.v rfl (Val.neg rfl (by simp only [qL, qH]; omega)) ?_) | (refine KL.v rfl (Val.negW rfl) ?_))
 rw [neg_nat h0 h]
 refine zgL ?_
 rw [and_nat h hxl, hlow']
 (first | (refine KL.v rfl (Val.mul rfl rfl (by simp only [qL, qH]; omega)) ?_) | (refine KL.v rfl (Val.mulW rfl rfl) ?_))
 rw [hmul]
 refine zcZ ?_
 rw [hsh]
 refine KL.v rfl (Val.indexA rfl rfl rfl rfl (by omega)) ?_
 refine zc0 ?_
 refine zbX ?_
 exact zw
def nextB (bs : List Bool) (k : Nat) (v : Bool) : Option Nat := (List.range bs.length).find? fun i => decide (k ≤ i) && ((bs[i]?).getD false == v)
theorem nextB_some {bs : List Bool} {k i : Nat} {v : Bool} (hi : i < bs.length) (hk : k ≤ i) (hv : (bs[i]?).getD false = v) (hl : ∀ j, k ≤ j → j < i → (bs[j]?).getD false ≠ v) : nextB bs k v = some i := by
 unfold nextB
 rw [List.find?_range_eq_some]
 refine ⟨by simp [hk, hv], List.mem_range.2 hi, fun j hj => ?_⟩
 by_cases h : k ≤ j
 ·simp [h, hl j h hj]
 ·simp [h]
theorem nextB_none {bs : List Bool} {k : Nat} {v : Bool} (h : ∀ j, k ≤ j → j < bs.length → (bs[j]?).getD false ≠ v) : nextB bs k v = none := by
 unfold nextB
 rw [List.find?_eq_none]
 intro j hj
 have := List.mem_range.1 hj
 by_cases hk : k ≤ j
 ·simp [hk, h j hk this]
 ·simp [hk]
theorem nextB_of {bs : List Bool} {k i : Nat} {v : Bool} (h : nextB bs k v = some i) : i < bs.length ∧ k ≤ i ∧ (bs[i]?).getD false = v ∧ ∀ j, k ≤ j → j < i → (bs[j]?).getD false ≠ v := by
 unfold nextB at h
 rw [List.find?_range_eq_some] at h
 obtain ⟨h1, h2, h3⟩ := h
 simp only [Bool.and_eq_true, decide_eq_true_eq, beq_iff_eq] at h1
 refine ⟨List.mem_range.1 h2, h1.1, h1.2, fun j hj hji => ?_⟩
 have := h3 j hji
 simpa [hj] using this
def turnN (v : Bool) : Nat := if v then 0 else 18446744073709551615
theorem turn_lt (v : Bool) : turnN v < 18446744073709551616 := by unfold turnN; split <;> omega
def aheadN (k q : Nat) : Nat := if q = k / 64 then 2 ^ (k % 64) - 1 else 0
theorem ahead_lt (k q : Nat) : aheadN k q < 18446744073709551616 := by
 unfold aheadN
 have := pow_lt (j := k % 64) (by omega)
 split <;> omega
def leftN (bs : List Bool) (k : Nat) (v : Bool) (q : Nat) : Nat := lessN (wordN bs q ^^^ turnN v) (aheadN k q)
theorem xor_lt {a b : Nat} (ha : a < 18446744073709551616) (hb : b < 18446744073709551616) : a ^^^ b < 18446744073709551616 := Nat.xor_lt_two_pow (n := 64) (by omega) (by omega)
theorem left_lt (bs : List Bool) (k : Nat) (v : Bool) (q : Nat) : leftN bs k v q < 18446744073709551616 := lessN_lt (xor_lt (wordN_lt _ _) (turn_lt _))
theorem left_bit {bs : List Bool} {k q t : Nat} {v : Bool} (hq : k / 64 ≤ q) (ht : t < 64) : (leftN bs k v q).testBit t = (((bs[64 * q + t]?).getD false == v) && decide (k ≤ 64 * q + t)) := by
 unfold leftN
 rw [lessN_bit (ahead_lt _ _), Nat.testBit_xor, wordN_bit]
 have e1 : (turnN v).testBit t = !v := by
  unfold turnN
  cases v
  ·simp only [Bool.false_eq_true, if_false]
   rw [show (18446744073709551615 : Nat) = 2 ^ 64 - 1 by decide, Nat.testBit_two_pow_sub_one]; simp [ht]
  ·simp
 have e2 : (aheadN k q).testBit t = !decide (k ≤ 64 * q + t) := by
  unfold aheadN
  by_cases e : q = k / 64
  ·rw [if_pos e, Nat.testBit_two_pow_sub_one]
   by_cases h : t < k % 64
   ·simp [h]; omega
   ·simp [h]; omega
  ·rw [if_neg e]
   simp; omega
 rw [e1, e2]
 simp only [ht, decide_true, Bool.true_and, Bool.not_not]
 congr 1
 cases (bs[64 * q + t]?).getD false <;> cases v <;> rfl
structure FrS where
 q : Nat
 A : Heap
def frM (bi br bt k : Nat) (v : Bool) (rb : Nat) : Heap := [(bi, cells [.int .i64 (k : Nat)] 3), (br, cells [.pointer (some ⟨rb, 0, none⟩)] 71), (bt, cells [.int .u64 (turnN v : Nat)] 64)]
theorem frM_app {bi br bt k : Nat} {v : Bool} {rb : Nat} {F : Heap} : frM bi br bt k v rb ++ F = (bi, cells [.int .i64 (k : Nat)] 3) :: (br, cells [.pointer (some ⟨rb, 0, none⟩)] 71) :: (bt, cells [.int .u64 (turnN v : Nat)] 64) :: F := rfl
theorem from1_K {w0 : World} {F A0 : Heap} {r : RowM} {k bi br bt : Nat} {v : Bool} {yv : Value} (ok : RowOk r) (J : Nat → Heap → Prop) (E : Heap → Prop) (hk : k ≤ 65536)
  (hy : ∀ q A, k / 64 ≤ q → q < (wordsOf r.bs).length → J q A → CallV Tryz.prog w0 yv [.int .i64 (q : Nat), .int .u64 (leftN r.bs k v q : Nat)] (A ++ (frM bi br bt k v r.b ++ (rowH r ++ F)))
   (fun u H' => (u = .bool true ∧ ∃ A', J (q + 1) A' ∧ H' = A' ++ (frM bi br bt k v r.b ++ (rowH r ++ F))) ∨ (u = .bool false ∧ ∃ A', E A' ∧ H' = A' ++ (frM bi br bt k v r.b ++ (rowH r ++ F)))))
  (h0 : J (k / 64) A0) :
  Call Tryz.prog w0 271 [yv, .pointer (some ⟨bi, 0, none⟩), .pointer (some ⟨br, 0, none⟩), .pointer (some ⟨bt, 0, none⟩)] (A0 ++ (frM bi br bt k v r.b ++ (rowH r ++ F)))
   (fun _ H' => ∃ A', H' = A' ++ (frM bi br bt k v r.b ++ (rowH r ++ F)) ∧ ((∃ q, (wordsOf r.bs).length ≤ q ∧ J q A') ∨ E A')) := by
 have ok1 := ok.o
 have hn := ok.n
 have hpl := pow_lt (j := k % 64) (by omega)
 have hp1 : 1 ≤ 2 ^ (k % 64) := Nat.one_le_two_pow
 have hm : (k : Int) % 64 = ((k % 64 : Nat) : Int) := by omega
 have hd : (k : Int) / 64 = ((k / 64 : Nat) : Int) := by omega
 have ha0 : ((2 ^ (k % 64) : Nat) : Int) - 1 = ((aheadN k (k / 64) : Nat) : Int) := by unfold aheadN; rw [if_pos rfl]; omega
 have hwl : (wordsOf r.bs).length ≤ 1024 := by rw [words_len]; omega
 refine Call.enter4 (n := 37) (by kernel_rfl) Tryz.func271 rfl rfl rfl ?_
 simp only [rowH_app, frM_app]
 skip
 refine zau ?_
 refine zbN ?_
 refine ziJ ?_
 rw [hm]
 refine ziK ?_
 rw [shl_nat (j := k % 64) (by omega)]
 refine zhQ ?_
 rw [ha0]
 refine zfi ?_
 refine zbN ?_
 (first | (refine KL.v rfl (Val.quoN rfl rfl (by simp only [qL, qH]; omega)) ?_) | (refine KL.v rfl (Val.quo rfl rfl (by omega)) ?_))
 rw [hd]
 refine zaE ?_
 refine K.loopT (σ := FrS) [(0, _), (2, _), (3, _)] (fun s kp_ => (6, .int .i64 (s.q : Nat)) :: (5, .int .u64 (aheadN k s.q : Nat)) :: kp_) (fun s => s.A ++ (frM bi br bt k v r.b ++ (rowH r ++ F))) (fun s => k / 64 ≤ s.q ∧ J s.q s.A) (fun s => (wordsOf r.bs).length - s.q) (⟨k / 64, A0⟩) bySub (by first | exact byPart | (simp only [rowH_app, frM_app]; exact byPart)) (⟨Nat.le_refl _, h0⟩) ?_
 rintro ⟨q, A⟩ ⟨hq, hJ⟩
 dsimp only at hq hJ ⊢
 simp only [rowH_app, frM_app]
 by_cases hlt : q < (wordsOf r.bs).length
 ·have hx := words_get (bs := r.bs) (k := q) (by rw [words_len] at hlt; exact hlt)
  have hlw := wordN_lt r.bs q
  refine zv ?_
  refine zk ?_
  refine zac ?_
  refine zJ ?_
  refine za6 ?_
  refine zE ?_
  refine KL.nil (KE.next (K.condT rfl (K.skip (KE.next (K.seq (K.block (K.seq (K.seq ?_))))))))
  refine K.drawn [] [(0, 0), (1, 0), (2, 0), (3, 0), (4, 0), (5, 0), (6, 0), (7, 0), (8, 0), (9, 0), (10, 0), (11, 0), (12, 0), (13, 2), (14, 0)] (by kernel_rfl) (by kernel_rfl) (by kernel_rfl) (by kernel_rfl) (by kernel_rfl) (by kernel_rfl) Part.nil ?_
  refine zcd ?_
  refine zx ?_
  refine zca ?_
  refine zcT ?_
  refine zdD ?_
  refine zdE ?_
  refine zx ?_
  refine KD.v0 rfl rfl (Val.xor rfl rfl) ?_
  refine zo ?_
  refine KD.v0 rfl rfl (Val.andNot rfl rfl) ?_
  refine zl fun T hT => ?_
  rw [xor_nat hlw (turn_lt v), less_nat (xor_lt hlw (turn_lt v)) (ahead_lt k q)]
  refine (CallV.part (hy q A hq hlt hJ) (by first | exact byPart | (simp only [rowH_app, frM_app]; exact byPart))).mono ?_
  rintro _ _ (⟨rfl, A', hJ', rfl⟩ | ⟨rfl, A', hE', rfl⟩)
  ·have h0' : (0 : Int) = ((aheadN k (q + 1) : Nat) : Int) := by unfold aheadN; rw [if_neg (by omega)]; rfl
   refine zi ?_
   clear hT T
   refine KD.v0 rfl rfl (Val.notT rfl) ?_
   refine zV ?_
   refine KE.next (K.condF rfl (K.skip (KE.next (K.region ?_))))
   refine zbE ?_
   refine zbq ?_
   rw [show (Value.int .u64 0) = Value.int .u64 ((aheadN k (q + 1) : Nat) : Int) from by rw [← h0']]
   exact KE.again ⟨q + 1, A'⟩ bySub (by first | exact byPart | (simp only [rowH_app, frM_app]; exact byPart)) ⟨by show k / 64 ≤ q + 1; omega, hJ'⟩ (by show (wordsOf r.bs).length - (q + 1) < (wordsOf r.bs).length - q; omega)
  ·refine zi ?_
   clear hT T
   refine zgM ?_
   refine zV ?_
   refine KE.next (K.condT rfl ?_)
   refine zea ?_
   refine ziC ?_
   refine zaH ?_
   refine zfV ?_
   exact KE.fin byMarks rfl byRes (by first | exact byPart | (simp only [rowH_app, frM_app]; exact byPart)) ⟨A', rfl, .inr hE'⟩
 ·refine K.seq ?_
  refine zbt ?_
  refine zk ?_
  refine zac ?_
  refine zJ ?_
  refine za6 ?_
  refine zR ?_
  refine zbO ?_
  exact KE.finN byMarks rfl byRes (by first | exact byPart | (simp only [rowH_app, frM_app]; exact byPart)) ⟨A, rfl, .inl ⟨q, by omega, hJ⟩⟩
theorem from_K {w0 : World} {H : Heap} {rb k : Nat} {v : Bool} :
  Call Tryz.prog w0 222 [.pointer (some ⟨rb, 0, none⟩), .int .i64 (k : Nat), .int .u64 (turnN v : Nat)] H
   (fun u H' => ∃ bi br bt, u = .func (.func 271) #[] [.pointer (some ⟨bi, 0, none⟩), .pointer (some ⟨br, 0, none⟩), .pointer (some ⟨bt, 0, none⟩)].toArray ∧ H' = frM bi br bt k v rb ++ H) := by
 refine Call.enter3 (n := 8) (by kernel_rfl) Tryz.func222 rfl rfl rfl ?_
 refine zb3 ?_; intro b3 b4
 refine zeW ?_; intro b5
 refine zr ?_
 refine ziM ?_
 refine zt ?_
 exact KE.fin (H' := frM b4 b3 b5 k v rb ++ H) byMarks rfl byRes (by rw [frM_app]; exact byPart) ⟨b4, b3, b5, rfl, rfl⟩
def nxI (o : Option Nat) : Int := ((o.getD 0 : Nat) : Int)
def NxJ (l D : Nat) (rc : Rec) (b7 b6 b3 rb : Nat) (bs : List Bool) (k : Nat) (v : Bool) (q : Nat) (A : Heap) : Prop :=
 A = [(l, .loop (rc .ready none)), (D, .deferred (some [])), (b7, cells [.bool false] 4), (b6, cells [.int .i64 0] 3), (b3, cells [.pointer (some ⟨rb, 0, none⟩)] 71)] ∧ ∀ j, k ≤ j → j < 64 * q → j < bs.length → (bs[j]?).getD false ≠ v
def NxE (l D : Nat) (rc : Rec) (b7 b6 b3 rb : Nat) (bs : List Bool) (k : Nat) (v : Bool) (A : Heap) : Prop :=
 ∃ i : Nat, nextB bs k v = some i ∧ A = [(l, .loop (rc .done (some .ret))), (D, .deferred (some [])), (b7, cells [.bool true] 4), (b6, cells [.int .i64 (i : Nat)] 3), (b3, cells [.pointer (some ⟨rb, 0, none⟩)] 71)]
set_option maxHeartbeats 2000000 in
theorem Next_K {w0 : World} {F : Heap} {r : RowM} {k : Nat} {v : Bool} (ok : RowOk r) (hG : Glob w0) (hk : k ≤ 1000000) :
  Call Tryz.prog w0 149 [.pointer (some ⟨r.b, 0, none⟩), .int .i64 (k : Nat), .bool v] (rowH r ++ F)
   (fun u H' => u = .tuple [.int .i64 (nxI (nextB r.bs k v)), .bool (nextB r.bs k v).isSome].toArray ∧ H' = rowH r ++ F) := by
 have hmax : (if ((k : Nat) : Int) < 0 then (0 : Int) else ((k : Nat) : Int)) = ((k : Nat) : Int) := if_neg (by omega)
 have hn := ok.n
 have hwl : (wordsOf r.bs).length ≤ 1024 := by rw [words_len]; omega
 refine Call.enter3 (n := 36) (by kernel_rfl) Tryz.func149 rfl rfl rfl ?_
 refine zaq ?_; intro b3 b6
 refine zaI ?_; intro b7
 refine zy ?_
 refine za0 ?_
 refine K.cutT (σ := Unit) [(1, _), (3, _), (6, _), (7, _)] bySub (fun s kp_ => (8, .int .u64 (turnN v : Nat)) :: kp_) (fun s => (b7, cells [.bool false] 4) :: (b6, cells [.int .i64 0] 3) :: (b3, cells [.pointer (some ⟨r.b, 0, none⟩)] 71) :: (rowH r ++ F)) (fun s => True) ?_ ?_
 ·cases v with
  | true =>
   refine zbt ?_
   refine zbz ?_
   refine zbE ?_
   exact zgN
  | false =>
   refine zbt ?_
   refine za7 ?_
   exact zgN
 ·rintro _ _
  skip
  refine zau ?_
  refine zf ?_
  refine KL.v rfl (Val.max rfl rfl) ?_
  rw [hmax]
  refine zal ?_
  refine zdx fun T hT => ?_
  refine (CallV.part (CallV.fn (has_K (r := r) (i := (k : Nat)))) byPart).mono ?_
  refine zS ?_
  by_cases hkl : k < r.bs.length
  ·rw [decide_eq_true (show 0 ≤ ((k : Nat) : Int) ∧ ((k : Nat) : Int) < (r.bs.length : Nat) by omega)]
   refine zd ?_
   clear hT T
   refine zdV ?_
   refine zbo ?_
   refine zh fun T hT => ?_
   refine (CallV.fn (from_K (rb := r.b) (k := k) (v := v))).mono ?_
   rintro _ _ ⟨bi, br, bt, rfl, rfl⟩
   refine zd ?_
   clear hT T
   refine zhf ?_
   refine K.rangeFunc (lb := [.pointer (some ⟨bi, 0, none⟩), .pointer (some ⟨br, 0, none⟩), .pointer (some ⟨bt, 0, none⟩)]) rfl
    (fun D G => G = (b7, cells [.bool false] 4) :: (b6, cells [.int .i64 0] 3) :: (b3, cells [.pointer (some ⟨r.b, 0, none⟩)] 71) :: (D, .deferred (some [])) :: (rowH r ++ F) ∧ nextB r.bs k v = none)
    (fun D c G => c = .ret ∧ ∃ i : Nat, nextB r.bs k v = some i ∧ G = (b7, cells [.bool true] 4) :: (b6, cells [.int .i64 (i : Nat)] 3) :: (b3, cells [.pointer (some ⟨r.b, 0, none⟩)] 71) :: (D, .deferred (some [])) :: (rowH r ++ F)) ?_ ?_ ?_
   ·intro l D rc hyl
    refine (Call.part (from1_K (F := F) (r := r) (k := k) (v := v) (bi := bi) (br := br) (bt := bt) ok (NxJ l D rc b7 b6 b3 r.b r.bs k v) (NxE l D rc b7 b6 b3 r.b r.bs k v) (by omega)
     (A0 := [(l, .loop (rc .ready none)), (D, .deferred (some [])), (b7, cells [.bool false] 4), (b6, cells [.int .i64 0] 3), (b3, cells [.pointer (some ⟨r.b, 0, none⟩)] 71)]) ?_ ⟨rfl, fun j h1 h2 => by omega⟩) (by simp only [List.cons_append, List.nil_append]; exact byPart)).mono ?_
    ·rintro q A hq hql ⟨rfl, hno⟩
     have hlw := left_lt r.bs k v q
     obtain ⟨w, hw⟩ : ∃ w, w = leftN r.bs k v q := ⟨_, rfl⟩
     have hbit : ∀ t, t < 64 → w.testBit t = (((r.bs[64 * q + t]?).getD false == v) && decide (k ≤ 64 * q + t)) := fun t ht => by rw [hw]; exact left_bit hq ht
     rw [← hw] at hlw ⊢
     simp only [List.cons_append, List.nil_append]
     refine hyl _ _ _ _ _ (ParS.cons rfl (ParS.cons rfl ParS.nil)) byTake ?_
     refine zau ?_
     refine zbE ?_
     refine zau ?_
     refine zbE ?_
     refine KE.begin byTake ?_
     refine K.block ?_
     by_cases hw0 : w = 0
     ·have hw0' : (w : Int) = 0 := by omega
      refine zv ?_
      refine zY ?_
      refine zfW ?_
      refine zjE ?_
      refine ziL ?_
      refine zk7 ?_
      exact KE.roundN Take.head (.inl ⟨rfl, _, ⟨rfl, fun j h1 h2 h3 hv => by
       by_cases hj : j < 64 * q
       ·exact hno j h1 hj h3 hv
       ·have := hbit (j - 64 * q) (by omega)
        rw [hw0, show 64 * q + (j - 64 * q) = j by omega, hv] at this
        simp at this; omega⟩, rfl⟩)
     ·have hw0' : ¬ (w : Int) = 0 := by omega
      obtain ⟨c1, c2, c3⟩ := ctz_bit hw0 hlw
      have hb := hbit _ c1
      rw [c2] at hb
      simp only [Bool.true_eq, Bool.and_eq_true, beq_iff_eq, decide_eq_true_eq] at hb
      refine zv ?_
      refine zH ?_
      refine zM ?_
      refine zf ?_
      refine zeX ?_
      refine zh fun T hT => ?_
      refine (CallV.fn (ctz_K hG hlw hw0)).mono ?_
      rintro _ _ ⟨rfl, rfl⟩
      obtain ⟨c, hc⟩ : ∃ c, c = Lib.ctz 64 w := ⟨_, rfl⟩
      rw [← hc] at c1 c2 c3 hb ⊢
      have hqc : (q : Int) * 64 + (c : Int) = ((64 * q + c : Nat) : Int) := by omega
      refine zd ?_
      clear hT T
      refine zQ ?_
      refine zr ?_
      refine zdx fun T hT => ?_
      rw [hqc]
      refine (CallV.part (CallV.fn (has_K (r := r) (i := ((64 * q + c : Nat) : Int)))) byPart).mono ?_
      refine zS ?_
      have hlow : ∀ j, k ≤ j → j < 64 * q + c → j < r.bs.length → (r.bs[j]?).getD false ≠ v := fun j h1 h2 h3 hv => by
       by_cases hj : j < 64 * q
       ·exact hno j h1 hj h3 hv
       ·have h4 := c3 (j - 64 * q) (by omega)
        have h5 := hbit (j - 64 * q) (by omega)
        rw [h4, show 64 * q + (j - 64 * q) = j by omega, hv] at h5
        simp at h5; omega
      by_cases hin : 64 * q + c < r.bs.length
      ·rw [decide_eq_true (show 0 ≤ ((64 * q + c : Nat) : Int) ∧ ((64 * q + c : Nat) : Int) < (r.bs.length : Nat) by omega)]
       refine zd ?_
       clear hT T
       refine zI ?_
       refine zf ?_
       refine zN ?_
       refine zcR ?_
       refine zfV ?_
       refine KE.part ((l, .loop (rc .busy none)) :: ([(D, .deferred (some [])), (b7, cells [.bool true] 4), (b6, cells [.int .i64 ((64 * q + c : Nat) : Int)] 3), (b3, cells [.pointer (some ⟨r.b, 0, none⟩)] 71)] ++ (frM bi br bt k v r.b ++ (rowH r ++ F)))) (by simp only [List.cons_append, List.nil_append]; rw [← hqc]; exact byPart) ?_
       exact KE.roundR Take.head (.inr ⟨rfl, _, ⟨64 * q + c, nextB_some hin hb.2 hb.1 fun j h1 h2 => hlow j h1 h2 (by omega), rfl⟩, rfl⟩)
      ·rw [decide_eq_false (show ¬ (0 ≤ ((64 * q + c : Nat) : Int) ∧ ((64 * q + c : Nat) : Int) < (r.bs.length : Nat)) by omega)]
       refine zd ?_
       clear hT T
       refine za7 ?_
       refine zbY ?_
       refine zk7 ?_
       exact KE.roundN Take.head (.inl ⟨rfl, _, ⟨rfl, fun j h1 h2 h3 => hlow j h1 (by omega) h3⟩, rfl⟩)
    ·rintro u H' ⟨A', rfl, (⟨q, hq, rfl, hno⟩ | ⟨i, hi, rfl⟩)⟩
     ·refine .inl ⟨_, ?_, rfl, nextB_none fun j h1 h2 => hno j h1 (by rw [words_len] at hq; omega) h2⟩
      exact ziG
     ·refine .inr ⟨.ret, _, ?_, rfl, i, hi, rfl⟩
      exact ziG
   ·rintro D G ⟨rfl, hnx⟩
    rw [hnx]
    refine zff ?_
    refine zN ?_
    refine zcR ?_
    exact zaU
   ·rintro D c G ⟨rfl, i, hi, rfl⟩
    rw [hi]
    refine zea ?_
    refine zdO ?_
    exact zaU
  ·rw [decide_eq_false (show ¬ (0 ≤ ((k : Nat) : Int) ∧ ((k : Nat) : Int) < (r.bs.length : Nat)) by omega)]
   have hnx : nextB r.bs k v = none := nextB_none fun j h1 h2 => by omega
   refine zd ?_
   clear hT T
   rw [hnx]
   refine zat ?_
   refine zN ?_
   refine zcR ?_
   refine zaH ?_
   exact zaU
open Go.RowKit
theorem and_split {a c p d : Nat} (ha : a < 256) (hc : c < 256) : (a + 256 * p) &&& (c + 256 * d) = (a &&& c) + 256 * (p &&& d) := by
 have h1 : (a &&& c) < 2 ^ 8 := Nat.lt_of_le_of_lt Nat.and_le_left (by omega)
 apply Nat.eq_of_testBit_eq
 intro t
 rw [Nat.testBit_and, Nat.add_comm a, Nat.add_comm c, Nat.add_comm (a &&& c), show (256 : Nat) = 2 ^ 8 by decide, Nat.testBit_two_pow_mul_add _ (by omega), Nat.testBit_two_pow_mul_add _ (by omega), Nat.testBit_two_pow_mul_add _ h1]
 by_cases h : t < 8
 ·simp [h]
 ·simp [h]
def rep (c : Nat) : Nat → Nat
 | 0 => 0
 | n + 1 => c + 256 * rep c n
def valB : List Nat → Nat
 | [] => 0
 | b :: l => b + 256 * valB l
def f1 (b : Nat) : Nat := (b / 2 &&& 85) + (b &&& 85)
def f2 (b : Nat) : Nat := (b / 4 &&& 51) + (b &&& 51)
def f3 (b : Nat) : Nat := (b / 16 + b) &&& 15
def g1 (n x : Nat) : Nat := (x / 2 &&& rep 85 n) + (x &&& rep 85 n)
def g2 (n x : Nat) : Nat := (x / 4 &&& rep 51 n) + (x &&& rep 51 n)
def g3 (n x : Nat) : Nat := (x / 16 + x) &&& rep 15 n
set_option maxRecDepth 100000 in
theorem h1 : ∀ b, b < 256 → ∀ e, e < 2 → (b / 2 + 128 * e) &&& 85 = b / 2 &&& 85 := by decide +kernel
set_option maxRecDepth 100000 in
theorem h2 : ∀ b, b < 256 → ∀ e, e < 4 → (b / 4 + 64 * e) &&& 51 = b / 4 &&& 51 := by decide +kernel
set_option maxRecDepth 100000 in
theorem h3 : ∀ b, b < 70 → ∀ e, e < 5 → (b / 16 + b + 16 * e) &&& 15 = (b / 16 + b) &&& 15 := by decide +kernel
theorem g1_val : ∀ l : List Nat, (∀ b ∈ l, b < 256) → g1 l.length (valB l) = valB (l.map f1)
 | [], _ => by simp [g1, valB, rep]
 | b :: l, h => by
  have hb := h b (.head _)
  have ih := g1_val l fun x hx => h x (.tail _ hx)
  obtain ⟨y, hy⟩ : ∃ y, y = valB l := ⟨_, rfl⟩
  show (((b + 256 * valB l) / 2) &&& (85 + 256 * rep 85 l.length)) + ((b + 256 * valB l) &&& (85 + 256 * rep 85 l.length)) = f1 b + 256 * valB (l.map f1)
  rw [← ih, ← hy, show (b + 256 * y) / 2 = (b / 2 + 128 * (y % 2)) + 256 * (y / 2) by omega, and_split (by omega) (by omega), and_split hb (by omega), h1 b hb (y % 2) (by omega)]
  unfold f1 g1; omega
theorem g2_val : ∀ l : List Nat, (∀ b ∈ l, b < 256) → g2 l.length (valB l) = valB (l.map f2)
 | [], _ => by simp [g2, valB, rep]
 | b :: l, h => by
  have hb := h b (.head _)
  have ih := g2_val l fun x hx => h x (.tail _ hx)
  obtain ⟨y, hy⟩ : ∃ y, y = valB l := ⟨_, rfl⟩
  show (((b + 256 * valB l) / 4) &&& (51 + 256 * rep 51 l.length)) + ((b + 256 * valB l) &&& (51 + 256 * rep 51 l.length)) = f2 b + 256 * valB (l.map f2)
  rw [← ih, ← hy, show (b + 256 * y) / 4 = (b / 4 + 64 * (y % 4)) + 256 * (y / 4) by omega, and_split (by omega) (by omega), and_split hb (by omega), h2 b hb (y % 4) (by omega)]
  unfold f2 g2; omega
theorem valB_mod : ∀ l : List Nat, (∀ b ∈ l, b < 70 ∧ b % 16 < 5) → valB l % 16 < 5
 | [], _ => by simp [valB]
 | b :: l, h => by
  have := (h b (.head _)).2
  show (b + 256 * valB l) % 16 < 5
  omega
theorem g3_val : ∀ l : List Nat, (∀ b ∈ l, b < 70 ∧ b % 16 < 5) → g3 l.length (valB l) = valB (l.map f3)
 | [], _ => by simp [g3, valB, rep]
 | b :: l, h => by
  have hb := h b (.head _)
  have ih := g3_val l fun x hx => h x (.tail _ hx)
  have hm := valB_mod l fun x hx => h x (.tail _ hx)
  obtain ⟨y, hy⟩ : ∃ y, y = valB l := ⟨_, rfl⟩
  show (((b + 256 * valB l) / 16 + (b + 256 * valB l)) &&& (15 + 256 * rep 15 l.length)) = f3 b + 256 * valB (l.map f3)
  rw [← ih, ← hy]
  rw [← hy] at hm
  rw [show (b + 256 * y) / 16 + (b + 256 * y) = (b / 16 + b + 16 * (y % 16)) + 256 * (y / 16 + y) by omega, and_split (by omega) (by omega), h3 b hb.1 (y % 16) hm]
  rfl
theorem dv {p q : Nat} (h : p < 256) : (p + 256 * q) / 256 = q := by omega
theorem ad {a b x y : Nat} : (a + 256 * x) + (b + 256 * y) = (a + b) + 256 * (x + y) := by omega
theorem lt_next {a x m : Nat} (ha : a < 256) (hx : x < m) : a + 256 * x < 256 * m := by omega
theorem tail_sum {p0 p1 p2 p3 p4 p5 p6 p7 v a b c : Nat} (h0 : p0 ≤ 8) (h1 : p1 ≤ 8) (h2 : p2 ≤ 8) (h3 : p3 ≤ 8) (h4 : p4 ≤ 8) (h5 : p5 ≤ 8) (h6 : p6 ≤ 8) (h7 : p7 ≤ 8)
  (hv : v = p0 + 256 * (p1 + 256 * (p2 + 256 * (p3 + 256 * (p4 + 256 * (p5 + 256 * (p6 + 256 * p7)))))))
  (ha : a = v + v / 256) (hb : b = a + a / 65536) (hc : c = b + b / 4294967296) : c % 128 = p0 + p1 + p2 + p3 + p4 + p5 + p6 + p7 ∧ a < 18446744073709551616 ∧ b < 18446744073709551616 ∧ c < 648518346341351424 := by
 have e1 : v / 256 = p1 + 256 * (p2 + 256 * (p3 + 256 * (p4 + 256 * (p5 + 256 * (p6 + 256 * p7))))) := by rw [hv]; exact dv (by omega)
 have z1 : ∀ x : Nat, x + 256 * 0 = x := fun x => by omega
 have ea : a = (p0 + p1) + 256 * ((p1 + p2) + 256 * ((p2 + p3) + 256 * ((p3 + p4) + 256 * ((p4 + p5) + 256 * ((p5 + p6) + 256 * ((p6 + p7) + 256 * p7)))))) := by
  rw [ha, e1, hv, ad, ad, ad, ad, ad, ad]
  congr 7; omega
 clear ha hv e1
 have e2 : a / 65536 = (p2 + p3) + 256 * ((p3 + p4) + 256 * ((p4 + p5) + 256 * ((p5 + p6) + 256 * ((p6 + p7) + 256 * p7)))) := by
  rw [show (65536 : Nat) = 256 * 256 by decide, ← Nat.div_div_eq_div_mul, ea, dv (by omega), dv (by omega)]
 have eb : b = (p0 + p1 + (p2 + p3)) + 256 * ((p1 + p2 + (p3 + p4)) + 256 * ((p2 + p3 + (p4 + p5)) + 256 * ((p3 + p4 + (p5 + p6)) + 256 * ((p4 + p5 + (p6 + p7)) + 256 * ((p5 + p6 + p7) + 256 * ((p6 + p7) + 256 * p7)))))) := by
  rw [hb, e2, ea, ad, ad, ad, ad, ad]
  congr 6; omega
 have la : a < 18446744073709551616 := by
  rw [ea]
  exact zk8
 clear hb e2 ea
 have e3 : b / 4294967296 = (p4 + p5 + (p6 + p7)) + 256 * ((p5 + p6 + p7) + 256 * ((p6 + p7) + 256 * p7)) := by
  rw [show (4294967296 : Nat) = 256 * 256 * 256 * 256 by decide, ← Nat.div_div_eq_div_mul, ← Nat.div_div_eq_div_mul, ← Nat.div_div_eq_div_mul, eb, dv (by omega), dv (by omega), dv (by omega), dv (by omega)]
 have ec : c = (p0 + p1 + (p2 + p3) + (p4 + p5 + (p6 + p7))) + 256 * ((p1 + p2 + (p3 + p4) + (p5 + p6 + p7)) + 256 * ((p2 + p3 + (p4 + p5) + (p6 + p7)) + 256 * ((p3 + p4 + (p5 + p6) + p7) + 256 * ((p4 + p5 + (p6 + p7)) + 256 * ((p5 + p6 + p7) + 256 * ((p6 + p7) + 256 * p7)))))) := by
  rw [hc, e3, eb, ad, ad, ad]
  congr 4; omega
 have lb : b < 18446744073709551616 := by
  rw [eb]
  exact zk8
 clear hc e3 eb
 refine ⟨?_, la, lb, ?_⟩
 ·rw [ec]
  generalize (p1 + p2 + (p3 + p4) + (p5 + p6 + p7)) + 256 * ((p2 + p3 + (p4 + p5) + (p6 + p7)) + 256 * ((p3 + p4 + (p5 + p6) + p7) + 256 * ((p4 + p5 + (p6 + p7)) + 256 * ((p5 + p6 + p7) + 256 * ((p6 + p7) + 256 * p7))))) = z
  omega
 ·rw [ec]
  exact lt_next (m := 2533274790395904) (by omega) (lt_next (m := 9895604649984) (by omega) (lt_next (m := 38654705664) (by omega) (lt_next (m := 150994944) (by omega) (lt_next (m := 589824) (by omega) (lt_next (m := 2304) (by omega) (lt_next (m := 9) (by omega) (by omega)))))))
set_option maxRecDepth 100000 in
theorem byte_ok : ∀ b, b < 256 → f1 b < 256 ∧ f2 (f1 b) < 70 ∧ f2 (f1 b) % 16 < 5 ∧ f3 (f2 (f1 b)) ≤ 8 := by decide +kernel
theorem byte_pop : ∀ b0 b1 b2 b3 b4 b5 b6 b7 : Bool, f3 (f2 (f1 (bitsN [b0, b1, b2, b3, b4, b5, b6, b7]))) = [b0, b1, b2, b3, b4, b5, b6, b7].count true := by decide +kernel
theorem bytes_of : ∀ (n : Nat) (l : List Bool), l.length = 8 * n → ∃ bl : List Nat, bl.length = n ∧ (∀ b ∈ bl, b < 256) ∧ valB bl = bitsN l ∧ (bl.map fun b => f3 (f2 (f1 b))).sum = l.count true
 | 0, l, h => by
  have : l = [] := List.length_eq_zero_iff.1 (by omega)
  subst this
  exact ⟨[], rfl, by simp, rfl, rfl⟩
 | n + 1, l, h => by
  match l, h with
  | b0 :: b1 :: b2 :: b3 :: b4 :: b5 :: b6 :: b7 :: r, h =>
   obtain ⟨bl, e1, e2, e3, e4⟩ := bytes_of n r (by simp only [List.length_cons] at h; omega)
   refine ⟨bitsN [b0, b1, b2, b3, b4, b5, b6, b7] :: bl, by simp [e1], fun b hb => ?_, ?_, ?_⟩
   ·rcases List.mem_cons.1 hb with rfl | hb
    ·have h8 := bitsN_lt [b0, b1, b2, b3, b4, b5, b6, b7]
     rw [show ([b0, b1, b2, b3, b4, b5, b6, b7] : List Bool).length = 8 from rfl, show 2 ^ 8 = 256 by decide] at h8
     exact h8
    ·exact e2 b hb
   ·show bitsN [b0, b1, b2, b3, b4, b5, b6, b7] + 256 * valB bl = _
    rw [e3]
    simp only [bitsN]
    omega
   ·rw [List.map_cons, List.sum_cons, e4, byte_pop]
    have : b0 :: b1 :: b2 :: b3 :: b4 :: b5 :: b6 :: b7 :: r = [b0, b1, b2, b3, b4, b5, b6, b7] ++ r := rfl
    rw [this, List.count_append]
  | [], h => simp at h
  | [_], h => simp only [List.length_cons, List.length_nil] at h; omega
  | [_, _], h => simp only [List.length_cons, List.length_nil] at h; omega
  | [_, _, _], h => simp only [List.length_cons, List.length_nil] at h; omega
  | [_, _, _, _], h => simp only [List.length_cons, List.length_nil] at h; omega
  | [_, _, _, _, _], h => simp only [List.length_cons, List.length_nil] at h; omega
  | [_, _, _, _, _, _], h => simp only [List.length_cons, List.length_nil] at h; omega
  | [_, _, _, _, _, _, _], h => simp only [List.length_cons, List.length_nil] at h; omega
theorem bitsN_pad (l : List Bool) (n : Nat) : bitsN (l ++ List.replicate n false) = bitsN l := by
 apply Nat.eq_of_testBit_eq
 intro t
 rw [bitsN_bit, bitsN_bit, List.getElem?_append]
 split
 ·rfl
 ·rename_i h
  rw [List.getElem?_replicate, List.getElem?_eq_none (by omega)]
  split <;> rfl
theorem pop_law {l : List Bool} (hl : l.length ≤ 64) {x a b c : Nat} (hx : x = g3 8 (g2 8 (g1 8 (bitsN l)))) (ha : a = x + x / 256) (hb : b = a + a / 65536) (hc : c = b + b / 4294967296) :
  c % 128 = l.count true ∧ a < 18446744073709551616 ∧ b < 18446744073709551616 ∧ c < 648518346341351424 := by
 obtain ⟨bl, e1, e2, e3, e4⟩ := bytes_of 8 (l ++ List.replicate (64 - l.length) false) (by simp; omega)
 rw [bitsN_pad] at e3
 rw [List.count_append, show (List.replicate (64 - l.length) false).count true = 0 by rw [List.count_replicate]; rfl, Nat.add_zero] at e4
 have b1 : ∀ y ∈ bl.map f1, y < 256 := fun y hy => by
  obtain ⟨q, hq, rfl⟩ := List.mem_map.1 hy
  exact (byte_ok q (e2 q hq)).1
 have b2 : ∀ y ∈ (bl.map f1).map f2, y < 70 ∧ y % 16 < 5 := fun y hy => by
  rw [List.map_map] at hy
  obtain ⟨q, hq, rfl⟩ := List.mem_map.1 hy
  have := byte_ok q (e2 q hq)
  exact ⟨this.2.1, this.2.2.1⟩
 have hx' : x = valB (((bl.map f1).map f2).map f3) := by
  rw [hx, ← e3]
  have q1 := g1_val bl e2
  rw [e1] at q1
  have q2 := g2_val (bl.map f1) b1
  rw [List.length_map, e1] at q2
  have q3 := g3_val ((bl.map f1).map f2) b2
  rw [List.length_map, List.length_map, e1] at q3
  rw [q1, q2, q3]
 rw [List.map_map, List.map_map] at hx'
 rw [← e4]
 match bl, e1, e2 with
 | [p0, p1, p2, p3, p4, p5, p6, p7], _, e2 =>
  have k := fun q hq => (byte_ok q (e2 q hq)).2.2.2
  have := tail_sum (k p0 (by simp)) (k p1 (by simp)) (k p2 (by simp)) (k p3 (by simp)) (k p4 (by simp)) (k p5 (by simp)) (k p6 (by simp)) (k p7 (by simp)) (v := x) (by rw [hx']; simp [valB]) ha hb hc
  refine ⟨?_, this.2⟩
  rw [this.1]
  simp only [List.map_cons, List.map_nil, List.sum_cons, List.sum_nil]
  omega
theorem rep_85 : rep 85 8 = 6148914691236517205 := by decide +kernel
theorem rep_51 : rep 51 8 = 3689348814741910323 := by decide +kernel
theorem rep_15 : rep 15 8 = 1085102592571150095 := by decide +kernel
open Go.RowKit
set_option maxRecDepth 10000
theorem and_i64 {a b : Nat} (ha : a < 9223372036854775808) (hb : b < 9223372036854775808) : bitsOf .and .i64 (a : Int) (b : Int) = ((a &&& b : Nat) : Int) := by
 show IntKind.i64.wrap ((BitVec.ofInt 64 (a : Int) &&& BitVec.ofInt 64 (b : Int)).toNat : Int) = _
 rw [BitVec.toNat_and, bv_nat (by omega), bv_nat (by omega)]
 have := Nat.and_lt_two_pow a (n := 63) (y := b) (by omega)
 exact wrap_in (by simp only [qL, qH]; omega)
theorem ones_K {w0 : World} {H : Heap} {l : List Bool} (hl : l.length ≤ 64) :
  Call Tryz.prog w0 169 [.int .u64 (bitsN l : Nat)] H (fun r H' => r = .int .i64 (l.count true : Nat) ∧ H' = H) := by
 have hx64 : bitsN l < 18446744073709551616 := by
  have h := bitsN_lt l
  have h2 : 2 ^ l.length ≤ 2 ^ 64 := Nat.pow_le_pow_right (by omega) hl
  omega
 have hlaw := fun x a b c => pop_law hl (x := x) (a := a) (b := b) (c := c)
 obtain ⟨x, hx⟩ : ∃ x, x = bitsN l := ⟨_, rfl⟩
 rw [← hx] at hx64 hlaw ⊢
 clear hx
 -- the steps
 obtain ⟨u1, hu1⟩ : ∃ u, u = x / 2 &&& 6148914691236517205 := ⟨_, rfl⟩
 obtain ⟨v1, hv1⟩ : ∃ u, u = x &&& 6148914691236517205 := ⟨_, rfl⟩
 obtain ⟨x1, hx1⟩ : ∃ u, u = u1 + v1 := ⟨_, rfl⟩
 obtain ⟨u2, hu2⟩ : ∃ u, u = x1 / 4 &&& 3689348814741910323 := ⟨_, rfl⟩
 obtain ⟨v2, hv2⟩ : ∃ u, u = x1 &&& 3689348814741910323 := ⟨_, rfl⟩
 obtain ⟨x2, hx2⟩ : ∃ u, u = u2 + v2 := ⟨_, rfl⟩
 obtain ⟨u3, hu3⟩ : ∃ u, u = x2 / 16 := ⟨_, rfl⟩
 obtain ⟨v3, hv3⟩ : ∃ u, u = u3 + x2 := ⟨_, rfl⟩
 obtain ⟨x3, hx3⟩ : ∃ u, u = v3 &&& 1085102592571150095 := ⟨_, rfl⟩
 obtain ⟨a, ha⟩ : ∃ u, u = x3 + x3 / 256 := ⟨_, rfl⟩
 obtain ⟨b, hb⟩ : ∃ u, u = a + a / 65536 := ⟨_, rfl⟩
 obtain ⟨c, hc⟩ : ∃ u, u = b + b / 4294967296 := ⟨_, rfl⟩
 have bu1 : u1 ≤ 6148914691236517205 := by rw [hu1]; exact Nat.and_le_right
 have bv1 : v1 ≤ 6148914691236517205 := by rw [hv1]; exact Nat.and_le_right
 have bu2 : u2 ≤ 3689348814741910323 := by rw [hu2]; exact Nat.and_le_right
 have bv2 : v2 ≤ 3689348814741910323 := by rw [hv2]; exact Nat.and_le_right
 have bx3 : x3 ≤ 1085102592571150095 := by rw [hx3]; exact Nat.and_le_right
 obtain ⟨k1, k2, k3, k4⟩ := hlaw x3 a b c (by unfold g3 g2 g1; rw [rep_85, rep_51, rep_15, ← hu1, ← hv1, ← hx1, ← hu2, ← hv2, ← hx2, ← hu3, ← hv3, hx3]) ha hb hc
 have s1 : (x : Int).fdiv (2 ^ (min (Int.toNat 1) IntKind.u64.bits)) = ((x / 2 : Nat) : Int) := shr_nat (j := 1) (by omega)
 have s2 : (x1 : Int).fdiv (2 ^ (min (Int.toNat 2) IntKind.u64.bits)) = ((x1 / 4 : Nat) : Int) := shr_nat (j := 2) (by omega)
 have s3 : (x2 : Int).fdiv (2 ^ (min (Int.toNat 4) IntKind.u64.bits)) = ((x2 / 16 : Nat) : Int) := shr_nat (j := 4) (by omega)
 have s4 : (x3 : Int).fdiv (2 ^ (min (Int.toNat 8) IntKind.u64.bits)) = ((x3 / 256 : Nat) : Int) := shr_nat (j := 8) (by omega)
 have s5 : (a : Int).fdiv (2 ^ (min (Int.toNat 16) IntKind.u64.bits)) = ((a / 65536 : Nat) : Int) := shr_nat (j := 16) (by omega)
 have s6 : (b : Int).fdiv (2 ^ (min (Int.toNat 32) IntKind.u64.bits)) = ((b / 4294967296 : Nat) : Int) := shr_nat (j := 32) (by omega)
 have m1 : bitsOf .and .u64 ((x / 2 : Nat) : Int) 6148914691236517205 = (u1 : Int) := by rw [hu1]; exact and_nat (b := 6148914691236517205) (by omega) (by omega)
 have m2 : bitsOf .and .u64 (x : Int) 6148914691236517205 = (v1 : Int) := by rw [hv1]; exact and_nat (b := 6148914691236517205) (by omega) (by omega)
 have m3 : bitsOf .and .u64 ((x1 / 4 : Nat) : Int) 3689348814741910323 = (u2 : Int) := by rw [hu2]; exact and_nat (b := 3689348814741910323) (by omega) (by omega)
 have m4 : bitsOf .and .u64 (x1 : Int) 3689348814741910323 = (v2 : Int) := by rw [hv2]; exact and_nat (b := 3689348814741910323) (by omega) (by omega)
 have m5 : bitsOf .and .u64 (v3 : Int) 1085102592571150095 = (x3 : Int) := by rw [hx3]; exact and_nat (b := 1085102592571150095) (by omega) (by omega)
 have m6 : bitsOf .and .i64 (c : Int) 127 = (l.count true : Nat) := by
  rw [show bitsOf .and .i64 (c : Int) 127 = ((c &&& 127 : Nat) : Int) from and_i64 (b := 127) (by omega) (by omega), show (127 : Nat) = 2 ^ 7 - 1 by decide, Nat.and_two_pow_sub_one_eq_mod, show 2 ^ 7 = 128 by decide, k1]
 have t1 : (u1 : Int) + (v1 : Int) = (x1 : Int) := by omega
 have t2 : (u2 : Int) + (v2 : Int) = (x2 : Int) := by omega
 have t3 : ((x2 / 16 : Nat) : Int) + (x2 : Int) = (v3 : Int) := by omega
 have t4 : (x3 : Int) + ((x3 / 256 : Nat) : Int) = (a : Int) := by omega
 have t5 : (a : Int) + ((a / 65536 : Nat) : Int) = (b : Int) := by omega
 have t6 : (b : Int) + ((b / 4294967296 : Nat) : Int) = (c : Int) := by omega
 clear hu1 hv1 hu2 hv2 hx3 k1 hlaw
 refine Call.enter1 (n := 35) (by kernel_rfl) Tryz.func169 rfl rfl rfl ?_
 refine zq ?_
 refine zfi ?_
 refine zf ?_
 refine zcZ ?_
 rw [s1]
 refine zgL ?_
 rw [m1]
 refine zf ?_
 refine zgL ?_
 rw [m2]
 refine zc2 ?_
 rw [t1]
 refine zfi ?_
 refine zf ?_
 refine zcZ ?_
 rw [s2]
 refine zgL ?_
 rw [m3]
 refine zf ?_
 refine zgL ?_
 rw [m4]
 refine zc2 ?_
 rw [t2]
 refine zfi ?_
 refine zf ?_
 refine zcZ ?_
 rw [s3]
 refine zf ?_
 refine zc2 ?_
 rw [t3]
 refine zgL ?_
 rw [m5]
 refine zfO ?_
 refine zcZ ?_
 rw [s4]
 refine zc2 ?_
 rw [t4]
 refine zfO ?_
 refine zcZ ?_
 rw [s5]
 refine zc2 ?_
 rw [t5]
 refine zfO ?_
 refine zcZ ?_
 rw [s6]
 refine zc2 ?_
 rw [t6]
 refine zfi ?_
 refine zf ?_
 refine zgO ?_
 refine zgL ?_
 rw [m6]
 exact zw
theorem Count_K {w0 : World} {F : Heap} {r : RowM} (ok : RowOk r) :
  Call Tryz.prog w0 88 [.pointer (some ⟨r.b, 0, none⟩)] (rowH r ++ F) (fun u H' => u = .int .i64 (r.bs.count true : Nat) ∧ H' = rowH r ++ F) := by
 have ok1 := ok.o
 have hn := ok.n
 have hwl : (wordsOf r.bs).length ≤ 1024 := by rw [words_len]; omega
 have hcb : ∀ k, (r.bs.take k).count true ≤ 65536 := fun k => Nat.le_trans List.count_le_length (by rw [List.length_take]; omega)
 refine Call.enter1 (n := 24) (by kernel_rfl) Tryz.func88 rfl rfl rfl ?_
 refine zbH ?_
 refine zdP fun T hT => ?_
 simp only [rowH_app]
 refine (CallV.fn (rnone_K (Sees.cell byTake rfl))).mono ?_
 rintro _ _ ⟨rfl, rfl⟩
 refine zd ?_
 clear hT T
 refine zat ?_
 refine zX ?_
 refine zJ ?_
 refine za6 ?_
 refine zeM ?_
 refine K.loopT (σ := Nat) [(12, _), (13, _)] (fun s kp_ => (14, .int .i64 (s : Nat)) :: (3, .int .i64 ((r.bs.take (64 * s)).count true : Nat)) :: kp_) (fun s => (r.b, cells [oV r.o (wordsOf r.bs).length, .int .i64 (r.bs.length : Nat), .bool true] 259) :: (oH uE 64 (wordsOf r.bs) r.o ++ F)) (fun s => s ≤ (wordsOf r.bs).length) (fun s => (wordsOf r.bs).length - s) (0) bySub byPart (by omega) ?_
 rintro k hk
 have hck := hcb (64 * k)
 by_cases hlt : k < (wordsOf r.bs).length
 ·have hx := words_get (bs := r.bs) (k := k) (by rw [words_len] at hlt; exact hlt)
  have hl : ((r.bs.drop (64 * k)).take 64).length ≤ 64 := by rw [List.length_take]; omega
  have hsum : ((r.bs.take (64 * (k + 1))).count true : Nat) = (r.bs.take (64 * k)).count true + ((r.bs.drop (64 * k)).take 64).count true := by
   rw [show 64 * (k + 1) = 64 * k + 64 by omega, List.take_add, List.count_append]
  have hcl : ((r.bs.drop (64 * k)).take 64).count true ≤ 64 := Nat.le_trans List.count_le_length hl
  unfold wordN at hx
  refine zd1 ?_
  refine zdQ ?_
  refine zdo ?_
  refine zbb fun T hT => ?_
  refine (CallV.fn (ones_K hl)).mono ?_
  rintro _ _ ⟨rfl, rfl⟩
  refine zd ?_
  clear hT T
  refine zcK ?_
  refine zeB ?_
  exact KE.again (k + 1) bySub byPart (by omega) (by omega)
 ·have he : r.bs.take (64 * k) = r.bs := List.take_of_length_le (by rw [words_len] at hlt; omega)
  rw [he]
  refine zq ?_
  refine zeD ?_
  refine zd0 ?_
  exact zw
theorem CloneU_K {w0 : World} {v : Value} {l : List Int} (hS : SlW w0 uE v l) (hl : l.length ≤ 4294967296) :
  Call Tryz.prog w0 78 [v] [] (fun r H' => ∃ o, oOk uE l o ∧ r = oV o l.length ∧ H' = oH uE 64 l o) := by
 refine Call.enter1 (n := 8) (by kernel_rfl) Tryz.func78 rfl rfl rfl ?_
 have hS0 := hS
 obtain ⟨a, c, rfl, h1, h2, h3⟩ := hS.shape
 cases a with
 | none =>
  have hn : l = [] := by
   cases l with
   | nil => rfl
   | cons x r => obtain ⟨b, o, h⟩ := h3 (by simp); cases h
  subst hn
  refine zjM ?_
  refine zI ?_
  refine zam ?_
  exact KE.fin byMarks rfl byRes byPart ⟨none, rfl, rfl, rfl⟩
 | some a =>
  refine zjM ?_
  refine zM ?_
  refine zad ?_; intro b5
  refine zf ?_
  refine KL.e rfl (Eff.appLit (E := uE) (ys := l) rfl rfl rfl rfl rfl rfl rfl byTake (by first | exact Sli.blk byTake rfl (by first | decide | simp) (by first | decide | (unfold maxLen; omega)) rfl | exact Sli.old (by assumption) | exact Sli.own byTakeL (by assumption) byLen | assumption | exact Sli.part (by assumption) byPart) (by first | assumption | omega | (simp <;> fail) | (simp; omega)) rfl) ?_; rintro _ _ ⟨o', ok', rfl, rfl⟩
  refine zt ?_
  exact KE.fin byMarks rfl byRes byPart ⟨o', ok', rfl, rfl⟩
theorem rCopy_K {w0 : World} {F : Heap} {r : RowM} (ok : RowOk r) :
  Call Tryz.prog w0 170 [.pointer (some ⟨r.b, 0, none⟩)] (rowH r ++ F) (fun u H' => ∃ r', RowOk r' ∧ r'.bs = r.bs ∧ u = .pointer (some ⟨r'.b, 0, none⟩) ∧ H' = rowH r' ++ (rowH r ++ F)) := by
 have ok1 := ok.o
 have hn := ok.n
 have hwl : (wordsOf r.bs).length ≤ 1024 := by rw [words_len]; omega
 refine Call.enter1 (n := 16) (by kernel_rfl) Tryz.func170 rfl rfl rfl ?_
 refine zbc fun T hT => ?_
 simp only [rowH_app]
 refine (CallV.fn (rnone_K (Sees.cell byTake rfl))).mono ?_
 rintro _ _ ⟨rfl, rfl⟩
 refine zd ?_
 clear hT T
 refine zdF ?_
 refine K.drawn _ [(0, 0), (1, 0), (2, 0), (3, 0), (5, 1), (6, 1), (7, 1), (8, 1), (4, 2), (9, 0), (10, 2), (11, 0)] (by kernel_rfl) (by kernel_rfl) (by kernel_rfl) (by kernel_rfl) (by kernel_rfl) (by kernel_rfl) Part.all ?_
 refine zK ?_
 refine zaV ?_
 refine zx ?_
 refine zeG ?_
 refine ziN ?_
 refine zb0 ?_
 refine zl fun T hT => ?_
 refine (CallV.pure fun w hw => CallV.fn (CloneU_K (Sli.own byTakeL ok1 rfl w hw) (by omega))).mono ?_
 rintro _ _ ⟨_, ⟨o1, ko1, rfl, rfl⟩, rfl⟩
 refine zi ?_
 clear hT T
 refine zeY ?_
 refine KD.e rfl rfl (Eff.box rfl rfl) ?_; rintro _ _ ⟨b15, rfl, rfl⟩
 refine zcD ?_
 refine za2 ?_
 exact KE.fin (H' := rowH ⟨b15, r.bs, o1⟩ ++ (rowH r ++ F)) byMarks rfl byRes (by first | exact byPart | (simp only [rowH_app]; exact byPart)) ⟨⟨b15, r.bs, o1⟩, ⟨ko1, hn⟩, rfl, rfl, rfl⟩
set_option maxRecDepth 10000
def baseP (R : List (List Int)) (t : Nat) : Nat := ((R.take t).map List.length).sum
def basesP (R : List (List Int)) : List Int := (List.range (R.length + 1)).map fun t => ((baseP R t : Nat) : Int)
theorem bases_len (R : List (List Int)) : (basesP R).length = R.length + 1 := by simp [basesP]
theorem bases_get {R : List (List Int)} {t : Nat} (h : t ≤ R.length) : (basesP R)[t]? = some ((baseP R t : Nat) : Int) := by
 unfold basesP
 rw [List.getElem?_map, List.getElem?_range (by omega)]; rfl
theorem flat_len_sum (R : List (List Int)) : R.flatten.length = (R.map List.length).sum := by
 induction R with
 | nil => rfl
 | cons x R ih => simp [ih]
theorem base_mid {A B : List (List Int)} {x : List Int} : baseP (A ++ x :: B) A.length = A.flatten.length ∧ baseP (A ++ x :: B) (A.length + 1) = A.flatten.length + x.length := by
 constructor
 ·unfold baseP; rw [List.take_left', flat_len_sum]; rfl
 ·unfold baseP
  rw [show (A ++ x :: B).take (A.length + 1) = A ++ [x] by
   rw [List.take_append, List.take_of_length_le (by omega)]; simp, List.map_append, List.sum_append, ← flat_len_sum]; simp
theorem split_r {R : List (List Int)} {t : Nat} {x : List Int} (h : R[t]? = some x) : ∃ A B, R = A ++ x :: B ∧ A.length = t := by
 obtain ⟨hl, e⟩ := List.getElem?_eq_some_iff.1 h
 exact ⟨R.take t, R.drop (t + 1), by rw [← e, ← List.drop_eq_getElem_cons hl, List.take_append_drop], by rw [List.length_take]; omega⟩
theorem base_at {R : List (List Int)} {t : Nat} {x : List Int} (h : R[t]? = some x) : baseP R (t + 1) = baseP R t + x.length ∧ baseP R t + x.length ≤ R.flatten.length := by
 obtain ⟨A, B, rfl, rfl⟩ := split_r h
 rw [base_mid.1, base_mid.2]
 refine ⟨rfl, ?_⟩
 rw [List.flatten_append, List.flatten_cons]; simp
theorem flat_at_r {R : List (List Int)} {t i : Nat} {x : List Int} {w : Int} (h : R[t]? = some x) (hw : x[i]? = some w) : R.flatten[baseP R t + i]? = some w := by
 obtain ⟨A, B, rfl, rfl⟩ := split_r h
 have hi := lt_of_get hw
 rw [base_mid.1, List.flatten_append, List.flatten_cons, List.getElem?_append_right (by omega), show A.flatten.length + i - A.flatten.length = i by omega, List.getElem?_append_left hi, hw]
theorem flat_part {R : List (List Int)} {t : Nat} {x : List Int} (h : R[t]? = some x) : (R.flatten.take (baseP R t + x.length)).drop (baseP R t) = x := by
 obtain ⟨A, B, rfl, rfl⟩ := split_r h
 rw [base_mid.1, List.flatten_append, List.flatten_cons, ← List.append_assoc, show A.flatten.length + x.length = (A.flatten ++ x).length by simp, List.take_left', List.drop_left']
 ·rfl
 ·rfl
theorem set_r {R : List (List Int)} {t : Nat} {x x' : List Int} (h : R[t]? = some x) (hl : x'.length = x.length) : (R.set t x').flatten = R.flatten.take (baseP R t) ++ x' ++ R.flatten.drop (baseP R t + x.length) ∧ basesP (R.set t x') = basesP R := by
 obtain ⟨A, B, rfl, rfl⟩ := split_r h
 have hs : (A ++ x :: B).set A.length x' = A ++ x' :: B := by simp
 constructor
 ·rw [hs, base_mid.1, List.flatten_append, List.flatten_cons, List.flatten_append, List.flatten_cons, List.take_left', ← List.append_assoc, ← List.append_assoc, show A.flatten.length + x.length = (A.flatten ++ x).length by simp, List.drop_left']
  ·rfl
  ·rfl
 ·rw [hs]
  unfold basesP
  simp only [List.length_append, List.length_cons]
  refine List.map_congr_left fun q _ => ?_
  congr 1
  unfold baseP
  rw [List.map_take, List.map_take]
  simp [hl]
theorem set_word {R : List (List Int)} {t i : Nat} {x : List Int} {w : Int} (h : R[t]? = some x) (hi : i < x.length) : (R.set t (x.set i w)).flatten = R.flatten.set (baseP R t + i) w := by
 obtain ⟨A, B, rfl, rfl⟩ := split_r h
 have hs : (A ++ x :: B).set A.length (x.set i w) = A ++ x.set i w :: B := by simp
 rw [hs, base_mid.1, List.flatten_append, List.flatten_cons, List.flatten_append, List.flatten_cons, List.set_append_right _ _ (by omega), show A.flatten.length + i - A.flatten.length = i by omega, List.set_append_left _ _ hi]
theorem set_clear {R : List (List Int)} {t i h' : Nat} {x : List Int} (h : R[t]? = some x) (hi : i ≤ h') (hh : h' ≤ x.length) : (R.set t (cleared x i h' 0)).flatten = cleared R.flatten (baseP R t + i) (baseP R t + h') 0 := by
 obtain ⟨A, B, rfl, rfl⟩ := split_r h
 have hs : (A ++ x :: B).set A.length (cleared x i h' 0) = A ++ cleared x i h' 0 :: B := by simp
 rw [hs, base_mid.1, List.flatten_append, List.flatten_cons, List.flatten_append, List.flatten_cons]
 unfold cleared
 rw [show A.flatten.length + h' - (A.flatten.length + i) = h' - i by omega, List.take_append, List.take_of_length_le (show A.flatten.length ≤ A.flatten.length + i by omega), show A.flatten.length + i - A.flatten.length = i by omega, List.take_append_of_le_length (by omega), List.drop_append, List.drop_of_length_le (show A.flatten.length ≤ A.flatten.length + h' by omega), List.nil_append, show A.flatten.length + h' - A.flatten.length = h' by omega, List.drop_append_of_le_length hh]
 simp only [List.append_assoc]
structure MemM where
 b : Nat
 R : List (List Int)
 ow : Own
 ob : Own
def memH (m : MemM) : Heap := (m.b, cells [oV m.ow m.R.flatten.length, oV m.ob (basesP m.R).length] 160) :: (oH uE 64 m.R.flatten m.ow ++ oH iE 3 (basesP m.R) m.ob)
theorem memH_app {m : MemM} {F : Heap} : memH m ++ F = (m.b, cells [oV m.ow m.R.flatten.length, oV m.ob (basesP m.R).length] 160) :: (oH uE 64 m.R.flatten m.ow ++ (oH iE 3 (basesP m.R) m.ob ++ F)) := by
 unfold memH; rw [List.cons_append, List.append_assoc]
structure MemOk (m : MemM) : Prop where
 w : oOk uE m.R.flatten m.ow
 b : oOk iE (basesP m.R) m.ob
 n : m.R.flatten.length ≤ 1000000000
 t : 1 ≤ m.R.length ∧ m.R.length ≤ 1000
theorem subV_two {o : Own} {n a b c d : Nat} (hn : ∀ ob, o = some ob → n ≤ ob.c) (h0 : o = none → n = 0) (hb : b ≤ n) (hcd : c < d) (hd : d ≤ b - a) (hab : a ≤ b) : subV (subV (oV o n) a b 1) c d 1 = subV (oV o n) (a + c) (a + d) 1 := by
 cases o with
 | none => have := h0 rfl; omega
 | some ob =>
  have := hn ob rfl
  simp only [oV, subV]
  rw [if_neg (by omega), if_neg (by omega), if_neg (by omega)]
  simp only [Option.map_some, Addr.add]
  congr 1
  ·by_cases hc : c = 0
   ·subst hc; by_cases ha : a = 0 <;> simp [ha]
   ·by_cases ha : a = 0
    ·subst ha; simp [hc]
    ·simp [ha, hc]
  ·omega
  ·omega
theorem adr_sub {o : Own} {n a b : Nat} (hn : ∀ ob, o = some ob → n ≤ ob.c) (h0 : o = none → n = 0) (hab : a < b) (hb : b ≤ n) : adr (subV (oV o n) a b 1) (0 * 1) = adr (oV o n) (a * 1) := by
 cases o with
 | none => have := h0 rfl; omega
 | some ob =>
  have := hn ob rfl
  simp only [oV, subV]
  rw [if_neg (by omega)]
  simp only [Option.map_some, Addr.add, adr]
  by_cases ha : a = 0 <;> simp [ha]
theorem own_cap {E : Enc Int} {xs : List Int} {o : Own} (ok : oOk E xs o) : (∀ ob, o = some ob → xs.length ≤ ob.c) ∧ (o = none → xs.length = 0) := by
 constructor
 ·rintro ob rfl; exact ok.1
 ·rintro rfl; simp only [oOk] at ok; rw [ok]; rfl
open Go.RowKit
set_option maxRecDepth 10000
theorem mnone_K {w0 : World} {F : Heap} {m : MemM} (ok : MemOk m) :
  Call Tryz.prog w0 77 [.pointer (some ⟨m.b, 0, none⟩)] (memH m ++ F) (fun r H' => r = .bool false ∧ H' = memH m ++ F) := by
 have hb := ok.b
 have hl := bases_len m.R
 have hne : ¬ (((basesP m.R).length : Nat) : Int) = 0 := by omega
 refine Call.enter1 (n := 13) (by kernel_rfl) Tryz.func77 rfl rfl rfl ?_
 simp only [rowH_app, memH_app]
 refine zfU ?_
 refine z6 ?_
 refine zcg ?_
 refine zH ?_
 refine zdy ?_
 exact zk9
theorem region_K {w0 : World} {F : Heap} {m : MemM} {t : Nat} {x : List Int} (ok : MemOk m) (ht : m.R[t]? = some x) :
  Call Tryz.prog w0 221 [.pointer (some ⟨m.b, 0, none⟩), .int .i64 (t : Nat)] (memH m ++ F) (fun r H' => r = subV (oV m.ow m.R.flatten.length) (baseP m.R t) (baseP m.R t + x.length) 1 ∧ H' = memH m ++ F) := by
 have hb := ok.b
 have hw := ok.w
 have hl := bases_len m.R
 have htl := lt_of_get ht
 have htn := ok.t
 have hfn := ok.n
 obtain ⟨e1, e2⟩ := base_at ht
 have g1 := bases_get (R := m.R) (t := t) (by omega)
 have g2 := bases_get (R := m.R) (t := t + 1) (by omega)
 have g2' : (basesP m.R)[((t : Int) + 1).toNat]? = some ((baseP m.R t + x.length : Nat) : Int) := by rw [show ((t : Int) + 1).toNat = t + 1 by omega, g2, e1]
 have hge : ¬ (t : Int) ≥ ((basesP m.R).length : Nat) - 1 := by omega
 refine Call.enter2 (n := 43) (by kernel_rfl) Tryz.func221 rfl rfl rfl ?_
 refine zfS ?_
 refine zh fun T hT => ?_
 refine (CallV.fn (mnone_K ok)).mono ?_
 rintro _ _ ⟨rfl, rfl⟩
 refine zd ?_
 clear hT T
 simp only [rowH_app, memH_app]
 refine zds ?_
 refine zcw ?_
 refine z6 ?_
 refine zcg ?_
 refine zdW ?_
 refine zdw ?_
 refine zA ?_
 refine za7 ?_
 refine zbY ?_
 refine zbC ?_
 refine zlb ?_
 refine zK ?_
 refine zaV ?_
 refine zbU ?_
 refine zfX ?_
 refine zb5 ?_
 refine zdD ?_
 refine zdE ?_
 refine zK ?_
 refine zfX ?_
 refine zb5 ?_
 refine zb1 ?_
 refine KD.v0 rfl rfl (Val.idxSlZ rfl rfl rfl (Sli.own byTakeL (by assumption) byLen) rfl (by omega)) ?_
 refine zdE ?_
 refine KD.v0 rfl rfl (Val.sliceLH rfl rfl rfl rfl (Sli.own byTakeL (by assumption) byLen) rfl byLt byLt) ?_
 refine za2 ?_
 exact zk9
theorem part_K {w0 : World} {F : Heap} {m : MemM} {t a n : Nat} {x : List Int} (ok : MemOk m) (ht : m.R[t]? = some x) (hn : 1 ≤ n) (ha : a + n ≤ x.length) :
  Call Tryz.prog w0 232 [.pointer (some ⟨m.b, 0, none⟩), .int .i64 (t : Nat), .int .i64 (a : Nat), .int .i64 (n : Nat)] (memH m ++ F)
   (fun r H' => r = subV (oV m.ow m.R.flatten.length) (baseP m.R t + a) (baseP m.R t + (a + n)) 1 ∧ H' = memH m ++ F) := by
 have hw := ok.w
 obtain ⟨e1, e2⟩ := base_at ht
 have hfn := ok.n
 have hsl : Sli w0 (memH m ++ F) uE (subV (oV m.ow m.R.flatten.length) (baseP m.R t) (baseP m.R t + x.length) 1) x := by
  have h : Sli w0 (memH m ++ F) uE (oV m.ow m.R.flatten.length) m.R.flatten := by rw [memH_app]; exact Sli.own byTakeL hw rfl
  have h2 := h.sub (l := baseP m.R t) (h := baseP m.R t + x.length) (by omega) e2
  rw [flat_part ht] at h2
  exact h2
 have hxl : x.length ≤ 1000000000 := by omega
 have hcap := own_cap hw
 have h2v := fun hd => subV_two (a := baseP m.R t) (b := baseP m.R t + x.length) (c := a) (d := a + n) hcap.1 hcap.2 e2 (by omega) hd (by omega)
 have h2v' := h2v (by omega)
 have hle : (a : Int) + (n : Int) = ((a + n : Nat) : Int) := by omega
 refine Call.enter4 (n := 40) (by kernel_rfl) Tryz.func232 rfl rfl rfl ?_
 refine zcM ?_
 refine zh fun T hT => ?_
 refine (CallV.fn (region_K ok ht)).mono ?_
 rintro _ _ ⟨rfl, rfl⟩
 refine zd ?_
 clear hT T
 refine zT ?_
 refine zR ?_
 refine zej ?_
 refine zdt ?_
 refine zae ?_
 refine zba ?_
 refine zdt ?_
 refine zu ?_
 refine zdW ?_
 refine zeL ?_
 refine zgp ?_
 refine zj ?_
 refine zj ?_
 refine zc2 ?_
 rw [hle]
 refine KL.v rfl (Val.sliceLH rfl rfl rfl rfl bySli rfl byLt byLt) ?_
 refine zt ?_
 rw [show uE.sz = 1 from rfl, h2v']
 exact zaU
theorem part_sl {w0 : World} {F : Heap} {m : MemM} {t a n : Nat} {x : List Int} (ok : MemOk m) (ht : m.R[t]? = some x) (ha : a + n ≤ x.length) :
  Sli w0 (memH m ++ F) uE (subV (oV m.ow m.R.flatten.length) (baseP m.R t + a) (baseP m.R t + (a + n)) 1) ((x.take (a + n)).drop a) := by
 have hw := ok.w
 obtain ⟨e1, e2⟩ := base_at ht
 have h : Sli w0 (memH m ++ F) uE (oV m.ow m.R.flatten.length) m.R.flatten := by rw [memH_app]; exact Sli.own byTakeL hw rfl
 have h2 := h.sub (l := baseP m.R t + a) (h := baseP m.R t + (a + n)) (by omega) (by omega)
 obtain ⟨A, B, hR, hA⟩ := split_r ht
 have hb : baseP m.R t = A.flatten.length := by rw [hR, ← hA]; exact base_mid.1
 have e : (m.R.flatten.take (baseP m.R t + (a + n))).drop (baseP m.R t + a) = (x.take (a + n)).drop a := by
  rw [hb, hR, List.flatten_append, List.flatten_cons, List.take_append, List.take_of_length_le (by omega), show A.flatten.length + (a + n) - A.flatten.length = a + n by omega, List.take_append_of_le_length ha, List.drop_append, List.drop_of_length_le (by omega), List.nil_append, show A.flatten.length + a - A.flatten.length = a by omega]
 rw [e] at h2
 exact h2
theorem Load_K {w0 : World} {F : Heap} {m : MemM} {t a : Nat} {x : List Int} {w : Int} (ok : MemOk m) (ht : m.R[t]? = some x) (hx : x[a]? = some w) :
  Call Tryz.prog w0 174 [.pointer (some ⟨m.b, 0, none⟩), .int .i64 (t : Nat), .int .i64 (a : Nat)] (memH m ++ F) (fun r H' => r = .tuple [.int .u64 w, .int .i64 0].toArray ∧ H' = memH m ++ F) := by
 have hal := lt_of_get hx
 have hg : ((x.take (a + 1)).drop a)[0]? = some w := by rw [List.getElem?_drop, List.getElem?_take_of_lt (by omega)]; simpa using hx
 refine Call.enter3 (n := 12) (by kernel_rfl) Tryz.func174 rfl rfl rfl ?_
 refine zb3 ?_; intro b3 b4
 refine zeW ?_; intro b5
 refine zaI ?_; intro b6
 refine zr ?_
 refine zby fun T hT => ?_
 refine (CallV.fn (on_K (R := fun H' => H' = (b6, cells [.int .u64 w] 64) :: (memH m ++ F)) fun b => CallV.clo (cap := [.pointer (some ⟨b3, 0, none⟩), .pointer (some ⟨b4, 0, none⟩), .pointer (some ⟨b5, 0, none⟩), .pointer (some ⟨b6, 0, none⟩)]) ?_)).mono ?_
 ·refine Call.enter4 (n := 10) (by kernel_rfl) Tryz.func248 rfl rfl rfl ?_
  refine K.region ?_
  refine zk ?_
  refine zk ?_
  refine zbL fun T hT => ?_
  refine (CallV.part (CallV.fn (part_K (a := a) (n := 1) ok ht (by omega) (by omega))) byPart).mono ?_
  refine zS ?_
  have hs := part_sl (w0 := w0) (F := F) (a := a) (n := 1) ok ht (by omega)
  have hsl : (0 : Int).toNat < ((x.take (a + 1)).drop a).length := by rw [List.length_drop, List.length_take]; omega
  have hg' : ((x.take (a + 1)).drop a)[(0 : Int).toNat]? = some w := hg
  refine zd ?_
  clear hT T
  refine zbK ?_
  refine zN ?_
  refine zap ?_
  exact KE.finN (H' := (b, cells [.int .i64 0] 56) :: (b6, cells [.int .u64 w] 64) :: (memH m ++ F)) byMarks rfl byRes byPart ⟨_, rfl, Part.all⟩
 ·refine ze ?_
  clear hT T
  refine zr ?_
  refine zbo ?_
  refine zN ?_
  exact zw
def setM (m : MemM) (t a : Nat) (w : Int) : MemM := ⟨m.b, m.R.set t (((m.R[t]?).getD []).set a w), m.ow, m.ob⟩
theorem setM_R {m : MemM} {t a : Nat} {w : Int} {x : List Int} (ht : m.R[t]? = some x) : (setM m t a w).R = m.R.set t (x.set a w) := by unfold setM; rw [ht]; rfl
theorem ok_of {m : MemM} {R' : List (List Int)} (ok : MemOk m) (hf : R'.flatten.length = m.R.flatten.length) (hb : basesP R' = basesP m.R) (hl : R'.length = m.R.length) : MemOk ⟨m.b, R', m.ow, m.ob⟩ := by
 refine ⟨?_, by show oOk iE (basesP R') m.ob; rw [hb]; exact ok.b, by show R'.flatten.length ≤ _; rw [hf]; exact ok.n, by show 1 ≤ R'.length ∧ R'.length ≤ 1000; rw [hl]; exact ok.t⟩
 have h := ok.w
 show oOk uE R'.flatten m.ow
 cases ho : m.ow with
 | none => rw [ho] at h; simp only [oOk] at h ⊢; rw [h] at hf; exact List.length_eq_zero_iff.1 hf
 | some ob => rw [ho] at h; simp only [oOk] at h ⊢; rw [hf]; exact h
theorem Store_K {w0 : World} {F : Heap} {m : MemM} {t a : Nat} {x : List Int} {w : Int} (ok : MemOk m) (ht : m.R[t]? = some x) (ha : a < x.length) :
  Call Tryz.prog w0 156 [.pointer (some ⟨m.b, 0, none⟩), .int .i64 (t : Nat), .int .i64 (a : Nat), .int .u64 w] (memH m ++ F) (fun r H' => r = .int .i64 0 ∧ H' = memH (setM m t a w) ++ F) := by
 have hw := ok.w
 obtain ⟨e1, e2⟩ := base_at ht
 have hcap := own_cap hw
 obtain ⟨v0, hv0⟩ := get_of_lt ha
 have hfa := flat_at_r ht hv0
 have had : adr (subV (oV m.ow m.R.flatten.length) (baseP m.R t + a) (baseP m.R t + (a + 1)) 1) (0 * uE.sz) = adr (oV m.ow m.R.flatten.length) ((baseP m.R t + a) * uE.sz) := adr_sub (a := baseP m.R t + a) (b := baseP m.R t + (a + 1)) hcap.1 hcap.2 (by omega) (by omega)
 have hsw := set_word (w := w) ht ha
 have hbs := (set_r ht (x' := x.set a w) (by simp)).2
 have hlen : (m.R.flatten.set (baseP m.R t + a) w).length = m.R.flatten.length := List.length_set
 refine Call.enter4 (n := 11) (by kernel_rfl) Tryz.func156 rfl rfl rfl ?_
 refine zb3 ?_; intro b4 b5
 refine zeW ?_; intro b6
 refine zeW ?_; intro b7
 refine zr ?_
 refine zby fun T hT => ?_
 refine (CallV.fn (on_K (R := fun H' => H' = memH (setM m t a w) ++ F) fun b => ?_)).mono ?_
 ·refine CallV.clo (cap := [.pointer (some ⟨b7, 0, none⟩), .pointer (some ⟨b4, 0, none⟩), .pointer (some ⟨b5, 0, none⟩), .pointer (some ⟨b6, 0, none⟩)]) ?_
  refine Call.enter4 (n := 10) (by kernel_rfl) Tryz.func233 rfl rfl rfl ?_
  refine zak ?_
  (first | refine K.seq (K.drawn _ [(0, 0), (1, 0), (2, 0), (4, 1), (3, 2), (5, 0), (6, 4)] (by kernel_rfl) (by kernel_rfl) (by kernel_rfl) (by kernel_rfl) (by kernel_rfl) (by kernel_rfl) Part.all ?_) | refine K.seq (K.seq (K.drawn _ [(0, 0), (1, 0), (2, 0), (4, 1), (3, 2), (5, 0), (6, 4)] (by kernel_rfl) (by kernel_rfl) (by kernel_rfl) (by kernel_rfl) (by kernel_rfl) (by kernel_rfl) Part.all ?_)) | refine K.drawn _ [(0, 0), (1, 0), (2, 0), (4, 1), (3, 2), (5, 0), (6, 4)] (by kernel_rfl) (by kernel_rfl) (by kernel_rfl) (by kernel_rfl) (by kernel_rfl) (by kernel_rfl) Part.all ?_)
  refine zax ?_
  refine zax ?_
  refine zax ?_
  refine zaO ?_
  refine zl fun T hT => ?_
  refine (CallV.part (CallV.fn (part_K (a := a) (n := 1) ok ht (by omega) (by omega))) byPart).mono ?_
  refine zS ?_
  have hs := part_sl (w0 := w0) (F := F) (a := a) (n := 1) ok ht (by omega)
  have hsl : (0 : Int).toNat < ((x.take (a + 1)).drop a).length := by rw [List.length_drop, List.length_take]; omega
  refine zi ?_
  clear hT T
  refine zhh ?_
  -- STOP before op 6
  rw [had]
  simp only [rowH_app, memH_app]
  (first | (refine KD.eNX rfl (Eff.stSl (x1 := w) rfl rfl byOne rfl byTakeL (by assumption) (by assumption) rfl rfl) ?_; rintro _ _ rfl) | (refine KD.eNX rfl (Eff.stSl0 (x1 := w) rfl rfl byOne rfl byTakeL (by assumption) (by assumption) rfl rfl) ?_; rintro _ _ rfl))
  refine zV ?_
  skip
  rw [← hsw, ← hlen, ← hsw, ← hbs]
  exact KE.finN (H' := (b, cells [.int .i64 0] 56) :: (memH (setM m t a w) ++ F)) byMarks rfl byRes (by rw [memH_app, setM_R ht]; exact byPart) ⟨_, rfl, by rw [memH_app]; exact Part.all⟩
 ·refine ze ?_
  clear hT T
  exact zw
def zeroM (m : MemM) (t a n : Nat) : MemM := ⟨m.b, m.R.set t (cleared ((m.R[t]?).getD []) a (a + n) 0), m.ow, m.ob⟩
theorem zeroM_R {m : MemM} {t a n : Nat} {x : List Int} (ht : m.R[t]? = some x) : (zeroM m t a n).R = m.R.set t (cleared x a (a + n) 0) := by unfold zeroM; rw [ht]; rfl
theorem Zero_K {w0 : World} {F : Heap} {m : MemM} {t a n : Nat} {x : List Int} (ok : MemOk m) (ht : m.R[t]? = some x) (hn : 1 ≤ n) (ha : a + n ≤ x.length) :
  Call Tryz.prog w0 155 [.pointer (some ⟨m.b, 0, none⟩), .int .i64 (t : Nat), .int .i64 (a : Nat), .int .i64 (n : Nat)] (memH m ++ F) (fun r H' => r = .int .i64 0 ∧ H' = memH (zeroM m t a n) ++ F) := by
 have hw := ok.w
 obtain ⟨e1, e2⟩ := base_at ht
 have hl := cleared_len (xs := x) (i := a) (h := a + n) (x0 := (0 : Int)) (by omega) ha
 have hsw := set_clear ht (i := a) (h' := a + n) (by omega) ha
 have hbs := (set_r ht (x' := cleared x a (a + n) 0) hl).2
 have hlen : (cleared m.R.flatten (baseP m.R t + a) (baseP m.R t + (a + n)) 0).length = m.R.flatten.length := cleared_len (by omega) (by omega)
 refine Call.enter4 (n := 11) (by kernel_rfl) Tryz.func155 rfl rfl rfl ?_
 refine zb3 ?_; intro b4 b5
 refine zeW ?_; intro b6
 refine zeW ?_; intro b7
 refine zr ?_
 refine zby fun T hT => ?_
 refine (CallV.fn (on_K (R := fun H' => H' = memH (zeroM m t a n) ++ F) fun b => ?_)).mono ?_
 ·refine CallV.clo (cap := [.pointer (some ⟨b4, 0, none⟩), .pointer (some ⟨b5, 0, none⟩), .pointer (some ⟨b6, 0, none⟩), .pointer (some ⟨b7, 0, none⟩)]) ?_
  refine Call.enter4 (n := 9) (by kernel_rfl) Tryz.func231 rfl rfl rfl ?_
  refine K.region ?_
  refine zk ?_
  refine zk ?_
  refine zk ?_
  refine zbL fun T hT => ?_
  refine (CallV.part (CallV.fn (part_K (a := a) (n := n) ok ht hn ha)) byPart).mono ?_
  refine ze ?_
  clear hT T
  simp only [rowH_app, memH_app]
  refine KL.eN (Eff.clearS (x0 := (0 : Int)) (i := baseP m.R t + a) (h := baseP m.R t + (a + n)) rfl rfl rfl rfl (by omega) (by omega) byTakeL hw) ?_; rintro _ _ ⟨rfl, okc, rfl⟩
  refine zap ?_
  skip
  rw [← hsw, ← hlen, ← hsw, ← hbs]
  exact KE.finN (H' := (b, cells [.int .i64 0] 56) :: (memH (zeroM m t a n) ++ F)) byMarks rfl byRes (by rw [memH_app, zeroM_R ht]; exact byPart) ⟨_, rfl, by rw [memH_app]; exact Part.all⟩
 ·refine ze ?_
  clear hT T
  exact zw
theorem Words_K {w0 : World} {F : Heap} {m : MemM} {t : Nat} {x : List Int} (ok : MemOk m) (ht : m.R[t]? = some x) :
  Call Tryz.prog w0 146 [.pointer (some ⟨m.b, 0, none⟩), .int .i64 (t : Nat)] (memH m ++ F) (fun r H' => ∃ o, oOk uE x o ∧ r = .tuple [oV o x.length, .int .i64 0].toArray ∧ H' = oH uE 64 x o ++ (memH m ++ F)) := by
 have hn := ok.n
 obtain ⟨e1, e2⟩ := base_at ht
 refine Call.enter2 (n := 10) (by kernel_rfl) Tryz.func146 rfl rfl rfl ?_
 refine ziI ?_; intro b2 b3 b4
 refine zby fun T hT => ?_
 refine (CallV.fn (on_K (R := fun H' => ∃ o, oOk uE x o ∧ H' = (b4, cells [oV o x.length] 54) :: (oH uE 64 x o ++ (memH m ++ F))) fun b => ?_)).mono ?_
 ·refine CallV.clo (cap := [.pointer (some ⟨b2, 0, none⟩), .pointer (some ⟨b3, 0, none⟩), .pointer (some ⟨b4, 0, none⟩)]) ?_
  refine Call.enter3 (n := 7) (by kernel_rfl) Tryz.func220 rfl rfl rfl ?_
  refine K.region ?_
  refine zk ?_
  refine zbL fun T hT => ?_
  refine (CallV.part (CallV.fn (region_K ok ht)) byPart).mono ?_
  refine zS ?_
  have hs : Sli w0 (memH m ++ F) uE (subV (oV m.ow m.R.flatten.length) (baseP m.R t) (baseP m.R t + x.length) 1) x := by
   have h := part_sl (w0 := w0) (F := F) (a := 0) (n := x.length) ok ht (by omega)
   rw [Nat.zero_add, Nat.add_zero, List.take_length, List.drop_zero] at h
   exact h
  refine zd ?_
  clear hT T
  refine zg fun T hT => ?_
  refine (CallV.pure fun w hw' => CallV.fn (CloneU_K (hs w (hw'.part byPart)) (by omega))).mono ?_
  rintro _ _ ⟨_, ⟨o1, ko1, rfl, rfl⟩, rfl⟩
  refine zd ?_
  clear hT T
  refine zN ?_
  refine zap ?_
  exact KE.finN (H' := (b, cells [.int .i64 0] 56) :: (b4, cells [oV o1 x.length] 54) :: (oH uE 64 x o1 ++ (memH m ++ F))) byMarks rfl byRes byPart ⟨_, ⟨o1, ko1, rfl⟩, Part.all⟩
 ·rintro _ _ ⟨rfl, o1, ko1, rfl⟩
  refine zd ?_
  clear hT T
  refine zr ?_
  refine zbo ?_
  refine zN ?_
  refine zt ?_
  exact KE.fin byMarks rfl byRes byPart ⟨o1, ko1, rfl, rfl⟩
open Go.RowKit
set_option maxRecDepth 10000
theorem fmask {n : Nat} (h1 : 1 ≤ n) (h : n ≤ 64) : 18446744073709551615 / 2 ^ (64 - n) = 2 ^ n - 1 := by
 have e : (18446744073709551616 : Nat) = 2 ^ n * 2 ^ (64 - n) := by rw [← Nat.pow_add, show n + (64 - n) = 64 by omega]
 have hp : 0 < 2 ^ (64 - n) := Nat.two_pow_pos _
 have hq : 0 < 2 ^ n := Nat.two_pow_pos _
 rw [show (18446744073709551615 : Nat) = 2 ^ n * 2 ^ (64 - n) - 1 by omega]
 rw [Nat.div_eq_iff hp]
 obtain ⟨m, hm⟩ : ∃ m, 2 ^ n = m + 1 := ⟨2 ^ n - 1, by omega⟩
 rw [hm, Nat.succ_mul, show m + 1 - 1 = m by omega]
 omega
theorem bitLen_le {x n : Nat} (hx : x < 18446744073709551616) (h : x < 2 ^ n) : Lib.bitLen x ≤ n := by
 rcases Nat.lt_or_ge 63 n with h64 | h64
 ·have : ∀ f y, Lib.bitLenAux f y ≤ f := fun f => by
   induction f with
   | zero => intro y; simp [Lib.bitLenAux]
   | succ f ih => intro y; unfold Lib.bitLenAux; split; omega; have := ih (y / 2); omega
  have := this 64 x
  unfold Lib.bitLen; omega
 ·have : ∀ n f y, y < 2 ^ n → Lib.bitLenAux f y ≤ n := fun n => by
   induction n with
   | zero =>
    intro f y hy
    have : y = 0 := by simpa using hy
    subst this
    cases f <;> simp [Lib.bitLenAux]
   | succ n ih =>
    intro f y hy
    cases f with
    | zero => simp [Lib.bitLenAux]
    | succ f =>
     unfold Lib.bitLenAux
     split
     ·omega
     ·have := ih f (y / 2) (by rw [Nat.pow_succ] at hy; omega); omega
  exact this n 64 x h
theorem less_high {w a n : Nat} (hw : w < 2 ^ a) (h : n + a ≤ 64) (hn : (2 ^ n - 1) * 2 ^ a < 18446744073709551616) : lessN w ((2 ^ n - 1) * 2 ^ a) = w := by
 apply Nat.eq_of_testBit_eq
 intro t
 rw [lessN_bit hn, Nat.testBit_mul_two_pow]
 by_cases ht : t < a
 ·simp [show ¬ a ≤ t by omega, show t < 64 by omega]
 ·rw [Nat.testBit_lt_two_pow (Nat.lt_of_lt_of_le hw (Nat.pow_le_pow_right (by omega) (by omega)))]; simp
theorem or_high {w a v : Nat} (hw : w < 2 ^ a) : w ||| v * 2 ^ a = w + v * 2 ^ a := by
 rw [Nat.mul_comm, Nat.or_comm, ← Nat.two_pow_add_eq_or_of_lt hw, Nat.add_comm]
theorem mask_lt {a n : Nat} (h : n + a ≤ 64) : (2 ^ n - 1) * 2 ^ a < 18446744073709551616 := by
 have e : 2 ^ n * 2 ^ a ≤ 2 ^ 64 := by rw [← Nat.pow_add]; exact Nat.pow_le_pow_right (by omega) h
 have hq : 0 < 2 ^ n := Nat.two_pow_pos _
 have hp : 0 < 2 ^ a := Nat.two_pow_pos _
 have : (2 ^ n - 1) * 2 ^ a + 2 ^ a = 2 ^ n * 2 ^ a := by
  obtain ⟨m, hm⟩ : ∃ m, 2 ^ n = m + 1 := ⟨2 ^ n - 1, by omega⟩
  rw [hm, show m + 1 - 1 = m by omega, Nat.succ_mul]
 omega
theorem val_lt {a n v : Nat} (h : n + a ≤ 64) (hv : v < 2 ^ n) : v * 2 ^ a < 18446744073709551616 := by
 have h1 : v * 2 ^ a ≤ (2 ^ n - 1) * 2 ^ a := Nat.mul_le_mul_right _ (by omega)
 have := mask_lt h
 omega
theorem shl_any {b j : Nat} (hj : j < 64) (h : b * 2 ^ j < 18446744073709551616) : IntKind.u64.wrap ((b : Int) * 2 ^ (min (Int.toNat (j : Int)) IntKind.u64.bits)) = ((b * 2 ^ j : Nat) : Int) := by
 have e : min (Int.toNat (j : Int)) IntKind.u64.bits = j := by
  rw [Int.toNat_natCast]
  exact Nat.min_eq_left (by show j ≤ 64; omega)
 rw [e, show (b : Int) * 2 ^ j = ((b * 2 ^ j : Nat) : Int) by simp]
 exact wrap_nat h
set_option maxRecDepth 10000
theorem Val.sliceA {P : Program} {w0 : World} {H : Heap} {m : Slots} {ty t e : TypeId} {x : Operand} {b o len z : Nat} (hx : evO m x = some (.pointer (some ⟨b, o, none⟩))) (ht : arrElem P t = some (len, e)) (hz : szOf P e = some z) :
  Val P w0 H m ty (.slice t x none none none) (.slice (some ⟨b, o, none⟩) len len) :=
 ⟨by simp [covOp, covOpt, cov, hx], fun w d pos af g _ => by
  have hu : P.underlying t = some (.array len e) := by unfold arrElem at ht; split at ht <;> simp_all
  simp [execOp, evS, hx, Instr.sliceAt, Instr.sliceBounds, Instr.sureAddr, run_und w hu, run_szOf w hz, Addr.add]⟩
theorem fmay_K {w0 : World} {H : Heap} {f n : Nat} (h1 : 1 ≤ n) (h : n + f ≤ 64) : Call Tryz.prog w0 296 [.int .i64 (f : Nat), .int .i64 (n : Nat)] H (fun r H' => r = .bool true ∧ H' = H) := by
 have g1 : (f : Int) ≤ 64 - (n : Int) := by omega
 refine Call.enter2 (n := 21) (by kernel_rfl) Tryz.func296 rfl rfl rfl ?_
 refine zcM ?_
 refine zes ?_
 refine z8 ?_
 refine zdi ?_
 refine zah ?_
 refine zdi ?_
 refine zu ?_
 refine zdW ?_
 refine zah ?_
 exact zb6
theorem mask_K {w0 : World} {H : Heap} {n : Nat} (h1 : 1 ≤ n) (h : n ≤ 64) : Call Tryz.prog w0 297 [.int .i64 (n : Nat)] H (fun r H' => r = .int .u64 ((2 ^ n - 1 : Nat) : Int) ∧ H' = H) := by
 have e : (64 : Int) - (n : Int) = ((64 - n : Nat) : Int) := by omega
 have e2 := shr_nat (a := 18446744073709551615) (j := 64 - n) (by omega)
 rw [fmask h1 h] at e2
 refine Call.enter1 (n := 6) (by kernel_rfl) Tryz.func297 rfl rfl rfl ?_
 refine zq ?_
 refine zfi ?_
 refine zf ?_
 refine zhQ ?_
 rw [e]
 refine zcZ ?_
 rw [show (18446744073709551615 : Int) = ((18446744073709551615 : Nat) : Int) from rfl, e2]
 exact zw
theorem fGet_K {w0 : World} {H : Heap} {w f n : Nat} (hw : w < 18446744073709551616) (h1 : 1 ≤ n) (h : n + f ≤ 64) :
  Call Tryz.prog w0 282 [.int .u64 (w : Nat), .int .i64 (f : Nat), .int .i64 (n : Nat)] H (fun r H' => r = .tuple [.int .u64 ((w / 2 ^ f % 2 ^ n : Nat) : Int), .int .i64 0].toArray ∧ H' = H) := by
 have hwf : w / 2 ^ f < 18446744073709551616 := Nat.lt_of_le_of_lt (Nat.div_le_self _ _) hw
 have hml := mask_lt (a := 0) (n := n) (by omega)
 rw [Nat.pow_zero, Nat.mul_one] at hml
 have ea := and_nat hwf hml
 rw [Nat.and_two_pow_sub_one_eq_mod] at ea
 have es := shr_nat (a := w) (j := f) (by omega)
 refine Call.enter3 (n := 18) (by kernel_rfl) Tryz.func282 rfl rfl rfl ?_
 refine zdA ?_
 refine zh fun T hT => ?_
 refine (CallV.fn (fmay_K h1 h)).mono ?_
 rintro _ _ ⟨rfl, rfl⟩
 refine zd ?_
 clear hT T
 refine zF ?_
 refine zdF ?_
 refine K.drawn _ [(0, 1), (1, 1), (2, 1), (3, 0), (4, 2), (5, 0), (6, 0), (7, 0)] (by kernel_rfl) (by kernel_rfl) (by kernel_rfl) (by kernel_rfl) (by kernel_rfl) (by kernel_rfl) Part.all ?_
 refine zO ?_
 refine zO ?_
 refine KD.v1 rfl rfl (Val.shr rfl rfl (by omega)) ?_
 refine zo ?_
 refine zl fun T hT => ?_
 refine (CallV.fn (mask_K h1 (by omega))).mono ?_
 rintro _ _ ⟨rfl, rfl⟩
 refine zi ?_
 clear hT T
 refine KD.v0 rfl rfl (Val.and rfl rfl) ?_
 refine zaw ?_
 refine za2 ?_
 rw [es, ea]
 exact zaU
theorem len64_K {w0 : World} {H : Heap} {x : Nat} (hx : x < 18446744073709551616) : Call Tryz.prog w0 279 [.int .u64 (x : Nat)] H (fun r H' => r = .int .i64 (Lib.bitLen x : Nat) ∧ H' = H) := by
 refine ⟨by kernel_rfl, fun w hw => ?_⟩
 refine (Tryz.bits_Len64 (x : Int) w (by omega) (by omega)).mono ?_
 rintro e w' ⟨rfl, rfl⟩
 exact ⟨_, _, rfl, hw, rfl, rfl⟩
theorem fSet_K {w0 : World} {H : Heap} {w f n v : Nat} (hw : w < 2 ^ f) (h1 : 1 ≤ n) (h : n + f ≤ 64) (hv : v < 2 ^ n) :
  Call Tryz.prog w0 294 [.int .u64 (w : Nat), .int .i64 (f : Nat), .int .i64 (n : Nat), .int .u64 (v : Nat)] H (fun r H' => r = .tuple [.int .u64 ((w + v * 2 ^ f : Nat) : Int), .int .i64 0].toArray ∧ H' = H) := by
 have hf64 : 2 ^ f ≤ 2 ^ 64 := Nat.pow_le_pow_right (by omega) (by omega)
 have hn64 : 2 ^ n ≤ 2 ^ 64 := Nat.pow_le_pow_right (by omega) (by omega)
 have hw64 : w < 18446744073709551616 := by omega
 have hv64 : v < 18446744073709551616 := by omega
 have hbl := bitLen_le hv64 hv
 have hng : ¬ ((Lib.bitLen v : Nat) : Int) > (n : Int) := by omega
 have hml := mask_lt (a := f) (n := n) h
 have hvl := val_lt (a := f) h hv
 have s1 := shl_any (b := 2 ^ n - 1) (j := f) (by omega) hml
 have s2 := shl_any (b := v) (j := f) (by omega) hvl
 have l1 := less_nat hw64 hml
 rw [less_high hw h hml] at l1
 have o1 := or_nat hw64 hvl
 rw [or_high hw] at o1
 refine Call.enter4 (n := 30) (by kernel_rfl) Tryz.func294 rfl rfl rfl ?_
 refine zaj ?_
 refine zhH ?_
 refine zbb fun T hT => ?_
 refine (CallV.fn (fmay_K h1 h)).mono ?_
 rintro _ _ ⟨rfl, rfl⟩
 refine zd ?_
 clear hT T
 refine zF ?_
 refine zdg ?_
 refine zh fun T hT => ?_
 refine (CallV.fn (len64_K hv64)).mono ?_
 rintro _ _ ⟨rfl, rfl⟩
 refine zd ?_
 clear hT T
 refine zf ?_
 refine zae ?_
 refine zA ?_
 refine za7 ?_
 refine zbY ?_
 refine zbC ?_
 refine K.drawn _ [(0, 1), (1, 0), (3, 1), (6, 1), (7, 1), (8, 1), (2, 2), (4, 0), (5, 0), (9, 0), (10, 0), (11, 0)] (by kernel_rfl) (by kernel_rfl) (by kernel_rfl) (by kernel_rfl) (by kernel_rfl) (by kernel_rfl) Part.all ?_
 refine zO ?_
 refine zo ?_
 refine zO ?_
 refine zO ?_
 refine zO ?_
 refine KD.v1 rfl rfl (Val.shl rfl rfl (by omega)) ?_
 refine zl fun T hT => ?_
 refine (CallV.fn (mask_K h1 (by omega))).mono ?_
 rintro _ _ ⟨rfl, rfl⟩
 refine zi ?_
 clear hT T
 refine KD.v0 rfl rfl (Val.shl rfl rfl (by omega)) ?_
 refine KD.v0 rfl rfl (Val.andNot rfl rfl) ?_
 refine KD.v0 rfl rfl (Val.or rfl rfl) ?_
 refine zaw ?_
 refine za2 ?_
 rw [s1, s2, l1, o1]
 exact zaU
def natL (ws : List Nat) : List Int := ws.map fun (n : Nat) => ((n : Nat) : Int)
structure WsOk (ws : List Nat) : Prop where
 one : ∀ n ∈ ws, 1 ≤ n
 sum : ws.sum ≤ 64
 len : 1 ≤ ws.length ∧ ws.length ≤ 64
theorem ws_at {ws : List Nat} (h : WsOk ws) {i n : Nat} (hi : ws[i]? = some n) : 1 ≤ n ∧ n + (ws.take i).sum ≤ 64 ∧ (ws.take (i + 1)).sum = (ws.take i).sum + n := by
 have e : (ws.take (i + 1)).sum = (ws.take i).sum + n := by rw [take_snoc hi, List.sum_append]; simp
 have hle : ∀ k, (ws.take k).sum ≤ ws.sum := fun k => by
  have : ws.sum = (ws.take k).sum + (ws.drop k).sum := by rw [← List.sum_append, List.take_append_drop]
  omega
 have := hle (i + 1)
 have := h.sum
 exact ⟨h.one n (List.mem_of_getElem? hi), by omega, e⟩
structure EaS where
 k : Nat
 A : Heap
theorem each_K {w0 : World} {H0 : Heap} {v fv : Value} {ws : List Nat} (I : Nat → Heap → Prop) (ok : WsOk ws) (hS : ∀ i H, I i H → Sli w0 H iE v (natL ws))
  (hd : ∀ i n H, ws[i]? = some n → I i H → CallV Tryz.prog w0 fv [.int .i64 (i : Nat), .int .i64 ((ws.take i).sum : Nat), .int .i64 (n : Nat)] H (fun r H' => r = .int .i64 0 ∧ I (i + 1) H')) (h0 : I 0 H0) :
  Call Tryz.prog w0 280 [v, fv] H0 (fun r H' => r = .tuple [.int .i64 (ws.sum : Nat), .int .i64 0].toArray ∧ I ws.length H') := by
 have hs0 := hS 0 H0 h0
 have hlen := ok.len
 have hnl : (natL ws).length = ws.length := by simp [natL]
 refine Call.enter2 (n := 30) (by kernel_rfl) Tryz.func280 rfl rfl rfl ?_
 refine zhL ?_
 refine zT ?_
 refine zP ?_
 refine zeM ?_
 rw [hnl]
 refine K.loopT (σ := EaS) [(1, _), (10, _), (11, _)] (fun s kp_ => (12, .int .i64 (s.k : Nat)) :: (6, .int .i64 ((ws.take s.k).sum : Nat)) :: kp_) (fun s => s.A) (fun s => s.k ≤ ws.length ∧ I s.k s.A) (fun s => ws.length - s.k) (⟨0, H0⟩) bySub byPart (⟨by simp, h0⟩) ?_
 rintro ⟨k, A⟩ ⟨hk, hI⟩
 dsimp only at hk hI ⊢
 by_cases hlt : k < ws.length
 ·obtain ⟨n, hn⟩ := get_of_lt hlt
  obtain ⟨h1, h2, h3⟩ := ws_at ok hn
  have hs := hS k A hI
  have hx : (natL ws)[k]? = some (n : Int) := by unfold natL; rw [List.getElem?_map, hn]; rfl
  have hll : k < (natL ws).length := by rw [hnl]; exact hlt
  refine zd1 ?_
  refine zf ?_
  refine zbK ?_
  refine ziy ?_
  refine zj ?_
  refine zbb fun T hT => ?_
  refine (hd k n A hn hI).mono ?_
  rintro _ A' ⟨rfl, hI'⟩
  refine zd ?_
  clear hT T
  refine zav ?_
  refine zD ?_
  refine KL.nil (KE.next (K.condF rfl (K.skip (KE.next (K.region ?_)))))
  refine zj ?_
  refine zcK ?_
  refine zeB ?_
  exact KE.again ⟨k + 1, A'⟩ bySub byPart ⟨by show k + 1 ≤ _; omega, hI'⟩ (by show ws.length - (k + 1) < ws.length - k; omega)
 ·have hke : k = ws.length := by omega
  subst hke
  rw [List.take_length]
  refine zq ?_
  refine zeD ?_
  refine zd0 ?_
  refine zL ?_
  exact KE.fin byMarks rfl byRes byPart ⟨rfl, hI⟩
theorem all_K {w0 : World} {H : Heap} {v : Value} {ws : List Nat} (ok : WsOk ws) (hS : Sli w0 H iE v (natL ws)) :
  Call Tryz.prog w0 278 [v] H (fun r H' => r = .tuple [.int .i64 (ws.sum : Nat), .int .i64 0].toArray ∧ H' = H) := by
 have hnl : (natL ws).length = ws.length := by simp [natL]
 have hne : ¬ (((natL ws).length : Nat) : Int) = 0 := by have := ok.len; omega
 refine Call.enter1 (n := 11) (by kernel_rfl) Tryz.func278 rfl rfl rfl ?_
 refine zdA ?_
 refine zP ?_
 refine zH ?_
 refine zM ?_
 refine zh fun T hT => ?_
 refine (CallV.fn (each_K (ws := ws) (fun _ A => A = H) ok (fun i A hA => by rw [hA]; exact hS) ?_ rfl)).mono ?_
 ·rintro i n A hi rfl
  obtain ⟨h1, h2, h3⟩ := ws_at ok hi
  refine CallV.fn ?_
  refine Call.enter3 (n := 11) (by kernel_rfl) Tryz.func295 rfl rfl rfl ?_
  refine zbu ?_
  refine zh fun T hT => ?_
  refine (CallV.fn (fmay_K h1 h2)).mono ?_
  rintro _ _ ⟨rfl, rfl⟩
  refine zd ?_
  clear hT T
  refine zaG ?_
  exact zw
 ·rintro _ _ ⟨rfl, rfl⟩; refine hT _ _ ?_
  clear hT T
  refine zfd ?_
  exact za4
open Go.RowKit
set_option maxRecDepth 10000
def packK (ws vs : List Nat) (k : Nat) : Nat := ((List.range k).map fun i => (vs[i]?).getD 0 * 2 ^ (ws.take i).sum).sum
theorem packK_succ {ws vs : List Nat} {k v : Nat} (h : vs[k]? = some v) : packK ws vs (k + 1) = packK ws vs k + v * 2 ^ (ws.take k).sum := by
 unfold packK
 rw [List.range_succ, List.map_append, List.sum_append]
 simp [h]
theorem packK_lt {ws vs : List Nat} (hl : vs.length = ws.length) (hf : ∀ (i n v : Nat), ws[i]? = some n → vs[i]? = some v → v < 2 ^ n) : ∀ k, k ≤ ws.length → packK ws vs k < 2 ^ (ws.take k).sum
 | 0, _ => by simp [packK]
 | k + 1, h => by
  have ih := packK_lt hl hf k (by omega)
  obtain ⟨n, hn⟩ := get_of_lt (l := ws) (k := k) (by omega)
  obtain ⟨v, hv⟩ := get_of_lt (l := vs) (k := k) (by omega)
  have hvn := hf k n v hn hv
  rw [packK_succ hv, take_snoc hn, List.sum_append, List.sum_cons, List.sum_nil, Nat.add_zero, Nat.pow_add]
  have : v * 2 ^ (ws.take k).sum + 2 ^ (ws.take k).sum ≤ 2 ^ (ws.take k).sum * 2 ^ n := by
   rw [← Nat.succ_mul, Nat.mul_comm]
   exact Nat.mul_le_mul_left _ hvn
  omega
theorem natL_at {ws : List Nat} {i n : Nat} (h : ws[i]? = some n) : (natL ws)[i]? = some (n : Int) := by unfold natL; rw [List.getElem?_map, h]; rfl
theorem natL_len (ws : List Nat) : (natL ws).length = ws.length := by simp [natL]
theorem Pack_K {w0 : World} {H : Heap} {v vv : Value} {ws vs : List Nat} (ok : WsOk ws) (hl : vs.length = ws.length) (hf : ∀ (i n v : Nat), ws[i]? = some n → vs[i]? = some v → v < 2 ^ n) (hS : Sli w0 H iE v (natL ws)) (hV : Sli w0 H uE vv (natL vs)) (hc : vv.cells = [vv].toArray) :
  Call Tryz.prog w0 273 [v, vv] H (fun r H' => r = .tuple [.int .u64 (packK ws vs ws.length : Nat), .int .i64 0].toArray ∧ H' = H) := by
 have h1 := natL_len ws
 have h2 := natL_len vs
 have hlen := ok.len
 have heq : ¬ (((natL vs).length : Nat) : Int) ≠ ((natL ws).length : Nat) := by omega
 refine Call.enter2 (n := 33) (by kernel_rfl) Tryz.func273 rfl rfl rfl ?_
 refine zq ?_
 refine KL.e rfl (Eff.box rfl (by assumption)) ?_; rintro _ _ ⟨b3, rfl, rfl⟩
 refine zA ?_
 refine zdP fun T hT => ?_
 refine (CallV.fn (all_K ok (hS.part byPart))).mono ?_
 rintro _ _ ⟨rfl, rfl⟩
 refine zd ?_
 clear hT T
 refine zbv ?_
 refine zD ?_
 refine zu ?_
 refine ziv ?_
 refine zaS ?_
 refine zdt ?_
 refine zD ?_
 refine zan ?_
 refine zaI ?_; intro b8
 refine zaA ?_
 refine zf ?_
 refine zby fun T hT => ?_
 refine (CallV.fn (each_K (ws := ws) (fun k A => A = (b8, cells [.int .u64 (packK ws vs k : Nat)] 64) :: (b3, cells [vv] 54) :: H) ok (fun i A hA => by rw [hA]; exact hS.part (Part.drop (Part.drop Part.all))) ?_ rfl)).mono ?_
 ·rintro i n A hi rfl
  obtain ⟨g1, g2, g3⟩ := ws_at ok hi
  obtain ⟨v, hv⟩ := get_of_lt (l := vs) (k := i) (by rw [hl]; exact lt_of_get hi)
  have hx := natL_at hv
  have hxl := lt_of_get hx
  have hpl := packK_lt hl hf i (by have := lt_of_get hi; omega)
  have hps := packK_succ (ws := ws) hv
  have hvn := hf i n v hi hv
  refine CallV.clo (cap := [.pointer (some ⟨b8, 0, none⟩), .pointer (some ⟨b3, 0, none⟩)]) ?_
  refine Call.enter5 (n := 21) (by kernel_rfl) Tryz.func293 rfl rfl rfl ?_
  refine zq ?_
  refine za0 ?_
  refine zak ?_
  (first | refine K.seq (K.drawn ((b3, cells [vv] 54) :: H) [(0, 0), (1, 0), (2, 0), (3, 0), (4, 0), (5, 0), (6, 0), (7, 2), (8, 0), (9, 0), (10, 1), (11, 2), (12, 0)] (by kernel_rfl) (by kernel_rfl) (by kernel_rfl) (by kernel_rfl) (by kernel_rfl) (by kernel_rfl) byPart ?_) | refine K.seq (K.seq (K.drawn ((b3, cells [vv] 54) :: H) [(0, 0), (1, 0), (2, 0), (3, 0), (4, 0), (5, 0), (6, 0), (7, 2), (8, 0), (9, 0), (10, 1), (11, 2), (12, 0)] (by kernel_rfl) (by kernel_rfl) (by kernel_rfl) (by kernel_rfl) (by kernel_rfl) (by kernel_rfl) byPart ?_)) | refine K.drawn ((b3, cells [vv] 54) :: H) [(0, 0), (1, 0), (2, 0), (3, 0), (4, 0), (5, 0), (6, 0), (7, 2), (8, 0), (9, 0), (10, 1), (11, 2), (12, 0)] (by kernel_rfl) (by kernel_rfl) (by kernel_rfl) (by kernel_rfl) (by kernel_rfl) (by kernel_rfl) byPart ?_)
  refine zax ?_
  refine zcd ?_
  refine zax ?_
  refine zo ?_
  refine zhh ?_
  refine zax ?_
  refine zl fun T hT => ?_
  refine (CallV.fn (fSet_K hpl g1 g2 hvn)).mono ?_
  rintro _ _ ⟨rfl, rfl⟩
  refine zi ?_
  clear hT T
  refine zb7 ?_
  refine zhU ?_
  refine zcD ?_
  refine zbm ?_
  refine zaN ?_
  refine zbV ?_
  exact KE.fin byMarks rfl byRes byPart ⟨rfl, by rw [hps]⟩
 ·refine ze ?_
  clear hT T
  refine zbw ?_
  refine zbo ?_
  exact za4
def digK (ws : List Nat) (w k : Nat) : List Nat := (List.range k).map fun i => w / 2 ^ (ws.take i).sum % 2 ^ ((ws[i]?).getD 0)
theorem digK_succ {ws : List Nat} {w k n : Nat} (h : ws[k]? = some n) : digK ws w (k + 1) = digK ws w k ++ [w / 2 ^ (ws.take k).sum % 2 ^ n] := by
 unfold digK
 rw [List.range_succ, List.map_append]; simp [h]
theorem digK_len (ws : List Nat) (w k : Nat) : (digK ws w k).length = k := by simp [digK]
theorem Unpack_K {w0 : World} {H : Heap} {v : Value} {ws : List Nat} {w : Nat} (ok : WsOk ws) (hs64 : ws.sum = 64) (hw : w < 18446744073709551616) (hS : Sli w0 H iE v (natL ws)) :
  Call Tryz.prog w0 249 [v, .int .u64 (w : Nat)] H (fun r H' => ∃ o, oOk uE (natL (digK ws w ws.length)) o ∧ r = .tuple [oV o (natL (digK ws w ws.length)).length, .int .i64 0].toArray ∧ H' = oH uE 64 (natL (digK ws w ws.length)) o ++ H) := by
 have h1 := natL_len ws
 have hlen := ok.len
 have hbl := bitLen_le (n := 64) hw (by omega)
 have hng : ¬ ((Lib.bitLen w : Nat) : Int) > ((64 : Nat) : Int) := by omega
 refine Call.enter2 (n := 31) (by kernel_rfl) Tryz.func249 rfl rfl rfl ?_
 refine zco ?_; intro b3
 refine zh fun T hT => ?_
 refine (CallV.fn (all_K ok (hS.part byPart))).mono ?_
 rintro _ _ ⟨rfl, rfl⟩
 rw [hs64]
 refine zd ?_
 clear hT T
 refine zag ?_
 refine zgq ?_
 refine zD ?_
 refine zdg ?_
 refine zbL fun T hT => ?_
 refine (CallV.fn (len64_K hw)).mono ?_
 rintro _ _ ⟨rfl, rfl⟩
 refine zd ?_
 clear hT T
 refine zf ?_
 refine zae ?_
 refine zdu ?_
 refine zaI ?_; intro b8
 refine zy ?_
 refine zf ?_
 refine zby fun T hT => ?_
 refine (CallV.fn (each_K (ws := ws) (fun k A => ∃ o, oOk uE (natL (digK ws w k)) o ∧ A = oH uE 64 (natL (digK ws w k)) o ++ ((b8, cells [oV o (natL (digK ws w k)).length] 54) :: (b3, cells [.int .u64 (w : Nat)] 64) :: H)) ok (fun i A hA => by obtain ⟨o, _, rfl⟩ := hA; exact hS.part byPart) ?_ ⟨none, rfl, rfl⟩)).mono ?_
 ·rintro i n A hi ⟨o, ko, rfl⟩
  obtain ⟨g1, g2, g3⟩ := ws_at ok hi
  have hds := digK_succ (w := w) hi
  have hnx : natL (digK ws w (i + 1)) = natL (digK ws w i) ++ [((w / 2 ^ (ws.take i).sum % 2 ^ n : Nat) : Int)] := by rw [hds]; simp [natL]
  have hil := lt_of_get hi
  have hbd : (natL (digK ws w i) ++ [((w / 2 ^ (ws.take i).sum % 2 ^ n : Nat) : Int)]).length ≤ 4294967296 := by rw [List.length_append, natL_len, digK_len]; simp; omega
  refine CallV.clo (cap := [.pointer (some ⟨b3, 0, none⟩), .pointer (some ⟨b8, 0, none⟩)]) ?_
  refine Call.enter5 (n := 23) (by kernel_rfl) Tryz.func281 rfl rfl rfl ?_
  refine zbH ?_
  refine zbo ?_
  refine zh fun T hT => ?_
  refine (CallV.fn (fGet_K hw g1 g2)).mono ?_
  rintro _ _ ⟨rfl, rfl⟩
  refine zd ?_
  clear hT T
  refine zbw ?_
  refine zbo ?_
  refine zad ?_; intro b20
  refine KL.e rfl (Eff.appZ (ys := [_]) rfl rfl rfl rfl rfl rfl byTakeL (by assumption) (by first | exact Sli.blk byTake rfl (by first | decide | simp) (by first | decide | (unfold maxLen; omega)) rfl | exact Sli.old (by assumption) | exact Sli.own byTakeL (by assumption) byLen | assumption | exact Sli.part (by assumption) byPart) rfl (by first | assumption | omega | (simp <;> fail) | (simp; omega)) rfl) ?_; rintro _ _ ⟨o21, ok21, rfl, rfl⟩
  refine zaA ?_
  refine zbV ?_
  rw [← hnx] at ok21 ⊢
  exact KE.fin byMarks rfl byRes byPart ⟨rfl, o21, ok21, rfl⟩
 ·rintro _ _ ⟨rfl, o, ko, rfl⟩
  refine zd ?_
  clear hT T
  refine zai ?_
  refine zr ?_
  refine zbo ?_
  refine zL ?_
  exact KE.fin byMarks rfl byRes byPart ⟨o, ko, rfl, rfl⟩
end Go.Proofs.YtalholahapcpkaaGreatDoor.Sw
