/- The walker and the contracts that the law needs, part 20. -/
import Derived.Lib.TrailingZeros
import Derived.Lib.BitFns
import Derived.Test.YtalholahapcpkaaGreatDoorJ19
namespace Go.Proofs.YtalholahapcpkaaGreatDoor.Sw
open Go.Proofs.YtalholahapcpkaaGreatDoor renaming lo → qL, hi → qH
open Go.RowKit
set_option linter.unusedVariables false
set_option linter.unusedSimpArgs false
theorem wrap_nat {n : Nat} (h : n < 18446744073709551616) : IntKind.u64.wrap (n : Int) = (n : Int) := by
 rw [IntKind.wrap_u64]; omega
theorem bv_nat {n : Nat} (h : n < 18446744073709551616) : (BitVec.ofInt 64 (n : Int)).toNat = n := by
 rw [BitVec.ofInt_natCast, BitVec.toNat_ofNat]; exact Nat.mod_eq_of_lt (by omega)
theorem and_nat {a b : Nat} (ha : a < 18446744073709551616) (hb : b < 18446744073709551616) : bitsOf .and .u64 (a : Int) (b : Int) = ((a &&& b : Nat) : Int) := by
 show IntKind.u64.wrap ((BitVec.ofInt 64 (a : Int) &&& BitVec.ofInt 64 (b : Int)).toNat : Int) = _
 rw [BitVec.toNat_and, bv_nat ha, bv_nat hb]
 exact wrap_nat (Nat.and_lt_two_pow _ (n := 64) (by omega))
theorem and_one {a : Nat} (ha : a < 18446744073709551616) : bitsOf .and .u64 (a : Int) 1 = ((a &&& 1 : Nat) : Int) := and_nat (b := 1) ha (by omega)
theorem or_nat {a b : Nat} (ha : a < 18446744073709551616) (hb : b < 18446744073709551616) : bitsOf .or .u64 (a : Int) (b : Int) = ((a ||| b : Nat) : Int) := by
 show IntKind.u64.wrap ((BitVec.ofInt 64 (a : Int) ||| BitVec.ofInt 64 (b : Int)).toNat : Int) = _
 rw [BitVec.toNat_or, bv_nat ha, bv_nat hb]
 exact wrap_nat (Nat.or_lt_two_pow (n := 64) (by omega) (by omega))
theorem xor_nat {a b : Nat} (ha : a < 18446744073709551616) (hb : b < 18446744073709551616) : bitsOf .xor .u64 (a : Int) (b : Int) = ((a ^^^ b : Nat) : Int) := by
 show IntKind.u64.wrap ((BitVec.ofInt 64 (a : Int) ^^^ BitVec.ofInt 64 (b : Int)).toNat : Int) = _
 rw [BitVec.toNat_xor, bv_nat ha, bv_nat hb]
 exact wrap_nat (Nat.xor_lt_two_pow (n := 64) (by omega) (by omega))
def lessN (a b : Nat) : Nat := a &&& (18446744073709551616 - (b + 1))
theorem lessN_lt {a b : Nat} (ha : a < 18446744073709551616) : lessN a b < 18446744073709551616 := by
 unfold lessN; exact Nat.lt_of_le_of_lt Nat.and_le_left ha
theorem less_nat {a b : Nat} (ha : a < 18446744073709551616) (hb : b < 18446744073709551616) : bitsOf .andNot .u64 (a : Int) (b : Int) = ((lessN a b : Nat) : Int) := by
 show IntKind.u64.wrap ((BitVec.ofInt 64 (a : Int) &&& ~~~(BitVec.ofInt 64 (b : Int))).toNat : Int) = _
 rw [BitVec.toNat_and, BitVec.toNat_not, bv_nat ha, bv_nat hb]
 rw [show 2 ^ 64 - 1 - b = 18446744073709551616 - (b + 1) by omega]
 exact wrap_nat (lessN_lt ha)
theorem lessN_bit {a b : Nat} (hb : b < 18446744073709551616) (t : Nat) : (lessN a b).testBit t = (a.testBit t && (decide (t < 64) && !b.testBit t)) := by
 unfold lessN
 rw [Nat.testBit_and, show (18446744073709551616 : Nat) = 2 ^ 64 by decide, Nat.testBit_two_pow_sub_succ (by omega)]
theorem shr_nat {a j : Nat} (hj : j < 64) : ((a : Int)).fdiv (2 ^ (min (Int.toNat (j : Int)) IntKind.u64.bits)) = ((a / 2 ^ j : Nat) : Int) := by
 have e : min (Int.toNat (j : Int)) IntKind.u64.bits = j := by
  rw [Int.toNat_natCast]; exact Nat.min_eq_left (by show j ≤ 64; omega)
 rw [e, show (2 : Int) ^ j = ((2 ^ j : Nat) : Int) by simp, Int.fdiv_eq_ediv_of_nonneg _ (Int.natCast_nonneg _)]
 exact (Int.natCast_ediv a (2 ^ j)).symm
theorem shl_nat {j : Nat} (hj : j < 64) : IntKind.u64.wrap (1 * 2 ^ (min (Int.toNat (j : Int)) IntKind.u64.bits)) = ((2 ^ j : Nat) : Int) := by
 have e : min (Int.toNat (j : Int)) IntKind.u64.bits = j := by
  rw [Int.toNat_natCast]; exact Nat.min_eq_left (by show j ≤ 64; omega)
 rw [e, show (1 : Int) * 2 ^ j = ((2 ^ j : Nat) : Int) by simp]
 exact wrap_nat (by have : 2 ^ j < 2 ^ 64 := Nat.pow_lt_pow_right (by omega) hj; omega)
def bitsN : List Bool → Nat
 | [] => 0
 | b :: l => (if b then 1 else 0) + 2 * bitsN l
theorem bitsN_bit : ∀ (l : List Bool) (t : Nat), (bitsN l).testBit t = (l[t]?).getD false
 | [], t => by simp [bitsN]
 | b :: l, 0 => by
  rw [Nat.testBit_zero]
  cases b <;> simp [bitsN]
 | b :: l, t + 1 => by
  rw [show t + 1 = t.succ from rfl, Nat.testBit_succ]
  have : bitsN (b :: l) / 2 = bitsN l := by
   show ((if b then 1 else 0) + 2 * bitsN l) / 2 = _
   split <;> omega
  rw [this, bitsN_bit l t]; simp
theorem bitsN_lt : ∀ l : List Bool, bitsN l < 2 ^ l.length
 | [] => by simp [bitsN]
 | b :: l => by
  have := bitsN_lt l
  rw [List.length_cons, Nat.pow_succ]
  show (if b then 1 else 0) + 2 * bitsN l < _
  split <;> omega
def wordN (bs : List Bool) (k : Nat) : Nat := bitsN ((bs.drop (64 * k)).take 64)
theorem wordN_lt (bs : List Bool) (k : Nat) : wordN bs k < 18446744073709551616 := by
 have h := bitsN_lt ((bs.drop (64 * k)).take 64)
 have h2 : 2 ^ ((bs.drop (64 * k)).take 64).length ≤ 2 ^ 64 := Nat.pow_le_pow_right (by omega) (by rw [List.length_take]; omega)
 unfold wordN; omega
theorem wordN_bit (bs : List Bool) (k t : Nat) : (wordN bs k).testBit t = (decide (t < 64) && (bs[64 * k + t]?).getD false) := by
 unfold wordN
 rw [bitsN_bit, List.getElem?_take]
 by_cases h : t < 64
 ·rw [if_pos h, List.getElem?_drop]; simp [h]
 ·rw [if_neg h]; simp [h]
def wordsOf (bs : List Bool) : List Int := (List.range ((bs.length + 63) / 64)).map fun k => ((wordN bs k : Nat) : Int)
theorem words_len (bs : List Bool) : (wordsOf bs).length = (bs.length + 63) / 64 := by simp [wordsOf]
theorem words_get {bs : List Bool} {k : Nat} (h : k < (bs.length + 63) / 64) : (wordsOf bs)[k]? = some ((wordN bs k : Nat) : Int) := by
 unfold wordsOf
 rw [List.getElem?_map, List.getElem?_range h]; rfl
theorem words_at {bs : List Bool} {i : Nat} (h : i < bs.length) : (wordsOf bs)[i / 64]? = some ((wordN bs (i / 64) : Nat) : Int) := words_get (by omega)
theorem getD_set {bs : List Bool} {i j : Nat} {v : Bool} (hi : i < bs.length) : ((bs.set i v)[j]?).getD false = if i = j then v else (bs[j]?).getD false := by
 rw [List.getElem?_set]
 by_cases h : i = j
 ·subst h; simp [hi]
 ·simp [h]
theorem words_set {bs : List Bool} {i : Nat} {v : Bool} (hi : i < bs.length) :
  wordsOf (bs.set i v) = (wordsOf bs).set (i / 64) (((if v then wordN bs (i / 64) ||| 2 ^ (i % 64) else lessN (wordN bs (i / 64)) (2 ^ (i % 64))) : Nat) : Int) := by
 have hp : 2 ^ (i % 64) < 18446744073709551616 := by
  have : 2 ^ (i % 64) < 2 ^ 64 := Nat.pow_lt_pow_right (by omega) (by omega)
  omega
 have key : wordN (bs.set i v) (i / 64) = if v then wordN bs (i / 64) ||| 2 ^ (i % 64) else lessN (wordN bs (i / 64)) (2 ^ (i % 64)) := by
  apply Nat.eq_of_testBit_eq
  intro t
  rw [wordN_bit, getD_set hi]
  cases v
  ·simp only [Bool.false_eq_true, if_false]
   rw [lessN_bit hp, wordN_bit, Nat.testBit_two_pow]
   by_cases ht : t < 64
   ·by_cases e : i = 64 * (i / 64) + t
    ·have : i % 64 = t := by omega
     simp [← e, this]
    ·have : ¬ i % 64 = t := by omega
     simp [e, this, ht]
   ·simp [ht]
  ·simp only [if_true]
   rw [Nat.testBit_or, wordN_bit, Nat.testBit_two_pow]
   by_cases ht : t < 64
   ·by_cases e : i = 64 * (i / 64) + t
    ·have : i % 64 = t := by omega
     simp [← e, this, ht]
    ·have : ¬ i % 64 = t := by omega
     simp [e, this, ht]
   ·have : ¬ i % 64 = t := by omega
    simp [ht, this]
 apply List.ext_getElem?
 intro k
 by_cases hk : k < (bs.length + 63) / 64
 ·rw [words_get (by rw [List.length_set]; exact hk)]
  by_cases e : i / 64 = k
  ·subst e
   rw [List.getElem?_set_self (by rw [words_len]; exact hk), key]
  ·rw [List.getElem?_set_ne e, words_get hk]
   congr 2
   apply Nat.eq_of_testBit_eq
   intro t
   rw [wordN_bit, wordN_bit, getD_set hi]
   by_cases ht : t < 64
   ·rw [if_neg (by omega)]
   ·simp [ht]
 ·rw [List.getElem?_eq_none (by rw [words_len, List.length_set]; omega), List.getElem?_eq_none (by rw [List.length_set, words_len]; omega)]
theorem words_rep (n : Nat) : wordsOf (List.replicate n false) = List.replicate ((n + 63) / 64) 0 := by
 apply List.ext_getElem?
 intro k
 by_cases hk : k < (n + 63) / 64
 ·rw [words_get (by rw [List.length_replicate]; exact hk), List.getElem?_replicate, if_pos hk]
  have : wordN (List.replicate n false) k = 0 := by
   apply Nat.eq_of_testBit_eq
   intro t
   rw [wordN_bit, List.getElem?_replicate]
   split <;> simp
  rw [this]; rfl
 ·rw [List.getElem?_eq_none (by rw [words_len, List.length_replicate]; omega), List.getElem?_eq_none (by rw [List.length_replicate]; omega)]
theorem get_bit {bs : List Bool} {i : Nat} (hi : i < bs.length) : (decide (((wordN bs (i / 64) / 2 ^ (i % 64) &&& 1 : Nat) : Int) = 1)) = (bs[i]?).getD false := by
 have h := wordN_bit bs (i / 64) (i % 64)
 rw [show 64 * (i / 64) + i % 64 = i by omega, decide_eq_true (by omega : i % 64 < 64), Bool.true_and] at h
 rw [← h, Nat.testBit_eq_decide_div_mod_eq, Nat.and_one_is_mod]
 congr 1
 apply propext
 omega
theorem ctz_bit {x : Nat} (h0 : x ≠ 0) (h : x < 18446744073709551616) : Lib.ctz 64 x < 64 ∧ x.testBit (Lib.ctz 64 x) = true ∧ ∀ t, t < Lib.ctz 64 x → x.testBit t = false := by
 obtain ⟨m, hm, hk⟩ := Lib.ctzFrom_spec 64 x (by omega) (by omega)
 have e : Lib.ctz 64 x = Lib.ctzFrom 64 x := by simp [Lib.ctz, h0]
 rw [e]
 generalize Lib.ctzFrom 64 x = k at *
 have hb : ∀ t, x.testBit t = (decide (k ≤ t) && (2 * m + 1).testBit (t - k)) := fun t => by
  rw [hm, Nat.mul_comm, Nat.testBit_mul_two_pow]
 refine ⟨hk, ?_, fun t ht => ?_⟩
 ·rw [hb]; simp
 ·rw [hb]; simp; omega
open Go.RowKit
set_option maxRecDepth 10000
structure RowM where
 b : Nat
 bs : List Bool
 o : Own
def rowH (r : RowM) : Heap := (r.b, cells [oV r.o (wordsOf r.bs).length, .int .i64 (r.bs.length : Nat), .bool true] 259) :: oH uE 64 (wordsOf r.bs) r.o
theorem rowH_app {r : RowM} {F : Heap} : rowH r ++ F = (r.b, cells [oV r.o (wordsOf r.bs).length, .int .i64 (r.bs.length : Nat), .bool true] 259) :: (oH uE 64 (wordsOf r.bs) r.o ++ F) := rfl
structure RowOk (r : RowM) : Prop where
 o : oOk uE (wordsOf r.bs) r.o
 n : r.bs.length ≤ 65536
def getB (bs : List Bool) (i : Int) : Bool := decide (0 ≤ i) && (bs[i.toNat]?).getD false
theorem rnone_K {w0 : World} {H : Heap} {b : Nat} (hS : Sees w0 H ⟨b, 2, none⟩ (.bool true)) :
  Call Tryz.prog w0 165 [.pointer (some ⟨b, 0, none⟩)] H (fun r H' => r = .bool false ∧ H' = H) := by
 refine Call.enter1 (n := 12) (by kernel_rfl) Tryz.func165 rfl rfl rfl ?_
 refine K.seq (K.region ?_)
 refine KL.v rfl (Val.assign rfl) ?_
 refine KL.nil (KE.next (K.seq (K.region ?_)))
 refine KL.v rfl (Val.move rfl) ?_
 refine KL.v rfl (Val.eqlPN rfl rfl rfl) ?_
 refine KL.v rfl (Val.move rfl) ?_
 refine KL.yes rfl rfl ?_; refine KL.v rfl (Val.move rfl) ?_
 refine KL.yes rfl rfl ?_; refine KL.v rfl (Val.nilCheck rfl) ?_
 refine KL.yes rfl rfl ?_; refine KL.v rfl (Val.fieldAddr0 (k := 2) rfl rfl) ?_
 refine KL.yes rfl rfl ?_; refine KL.v rfl (Val.loadP rfl rfl bySee) ?_
 refine KL.yes rfl rfl ?_; refine KL.v rfl (Val.notT rfl) ?_
 refine KL.v rfl (Val.pickF rfl rfl rfl) ?_
 refine KL.v rfl (Val.assign rfl) ?_
 refine KL.nil (KE.next ?_)
 refine K.ret ?_
 exact KE.fin byMarks rfl byRes byPart ⟨rfl, rfl⟩
theorem rLen_K {w0 : World} {F : Heap} {r : RowM} :
  Call Tryz.prog w0 97 [.pointer (some ⟨r.b, 0, none⟩)] (rowH r ++ F) (fun v H' => v = .int .i64 (r.bs.length : Nat) ∧ H' = rowH r ++ F) := by
 refine Call.enter1 (n := 9) (by kernel_rfl) Tryz.func97 rfl rfl rfl ?_
 simp only [rowH_app]
 refine K.seq (K.region ?_)
 refine KL.v rfl (Val.assign rfl) ?_
 refine KL.nil (KE.next (K.seq (K.seq (K.region ?_))))
 refine KL.v rfl (Val.move rfl) ?_
 refine KL.callc rfl rfl byEvL fun T hT => ?_
 refine (CallV.fn (rnone_K (Sees.cell byTake rfl))).mono ?_
 rintro _ _ ⟨rfl, rfl⟩
 refine hT _ _ ?_; clear hT T
 refine KL.nil (KE.next (K.condF rfl (K.skip (KE.next (K.seq (K.region ?_))))))
 refine KL.v rfl (Val.move rfl) ?_
 refine KL.v rfl (Val.nilCheck rfl) ?_
 refine KL.v rfl (Val.fieldAddr0 (k := 1) rfl rfl) ?_
 refine KL.v rfl (Val.loadP rfl rfl (Sees.cell byTake rfl)) ?_
 refine KL.v rfl (Val.assign rfl) ?_
 refine KL.nil (KE.next ?_)
 refine K.ret ?_
 exact KE.fin byMarks rfl byRes (by first | exact byPart | (simp only [rowH_app]; exact byPart)) ⟨rfl, rfl⟩
theorem has_K {w0 : World} {F : Heap} {r : RowM} {i : Int} :
  Call Tryz.prog w0 166 [.pointer (some ⟨r.b, 0, none⟩), .int .i64 i] (rowH r ++ F) (fun v H' => v = .bool (decide (0 ≤ i ∧ i < (r.bs.length : Nat))) ∧ H' = rowH r ++ F) := by
 refine Call.enter2 (n := 13) (by kernel_rfl) Tryz.func166 rfl rfl rfl ?_
 by_cases h : i ≥ 0
 ·refine K.seq ?_
  refine K.region ?_
  refine KL.v rfl (Val.assign rfl) ?_
  refine KL.nil (KE.next (K.seq (K.region ?_)))
  refine KL.v rfl (Val.move rfl) ?_
  refine KL.v rfl (Val.isT (Val.geq rfl rfl) byLt) ?_
  refine KL.v rfl (Val.move rfl) ?_
  refine KL.yes rfl rfl ?_; refine KL.v rfl (Val.move rfl) ?_
  refine KL.yes rfl rfl ?_; refine KL.v rfl (Val.move rfl) ?_
  refine KL.yes rfl rfl ?_; refine KL.callc rfl rfl byEvL fun T hT => ?_
  refine (CallV.fn (rLen_K (r := r))).mono ?_
  rintro _ _ ⟨rfl, rfl⟩
  refine hT _ _ ?_; clear hT T
  by_cases h2 : i < (r.bs.length : Nat)
  ·have e : decide (0 ≤ i ∧ i < (r.bs.length : Nat)) = true := decide_eq_true ⟨h, h2⟩
   refine KL.yes rfl rfl ?_; refine KL.v rfl (Val.isT (Val.lss rfl rfl) byLt) ?_
   refine KL.v rfl (Val.pickT rfl rfl rfl) ?_
   refine KL.v rfl (Val.assign rfl) ?_
   refine KL.nil (KE.next ?_)
   refine K.ret ?_
   exact KE.fin byMarks rfl byRes byPart ⟨by rw [e]; rfl, rfl⟩
  ·have e : decide (0 ≤ i ∧ i < (r.bs.length : Nat)) = false := decide_eq_false (by omega)
   refine KL.yes rfl rfl ?_; refine KL.v rfl (Val.isF (Val.lss rfl rfl) byLt) ?_
   refine KL.v rfl (Val.pickT rfl rfl rfl) ?_
   refine KL.v rfl (Val.assign rfl) ?_
   refine KL.nil (KE.next ?_)
   refine K.ret ?_
   exact KE.fin byMarks rfl byRes byPart ⟨by rw [e]; rfl, rfl⟩
 ·have e : decide (0 ≤ i ∧ i < (r.bs.length : Nat)) = false := decide_eq_false (by omega)
  refine K.seq (K.region ?_)
  refine KL.v rfl (Val.assign rfl) ?_
  refine KL.nil (KE.next (K.seq (K.region ?_)))
  refine KL.v rfl (Val.move rfl) ?_
  refine KL.v rfl (Val.isF (Val.geq rfl rfl) byLt) ?_
  refine KL.v rfl (Val.move rfl) ?_
  refine KL.skipG rfl rfl rfl ?_
  refine KL.skipG rfl rfl rfl ?_
  refine KL.skipG rfl rfl rfl ?_
  refine KL.skipG rfl rfl rfl ?_
  refine KL.v rfl (Val.pickF rfl rfl rfl) ?_
  refine KL.v rfl (Val.assign rfl) ?_
  refine KL.nil (KE.next ?_)
  refine K.ret ?_
  exact KE.fin byMarks rfl byRes byPart ⟨by rw [e]; rfl, rfl⟩
theorem getB_in {bs : List Bool} {i : Nat} : getB bs (i : Int) = (bs[i]?).getD false := by simp [getB]
theorem getB_out {bs : List Bool} {i : Int} (h : ¬ (0 ≤ i ∧ i < (bs.length : Nat))) : getB bs i = false := by
 unfold getB
 by_cases h0 : 0 ≤ i
 ·rw [List.getElem?_eq_none (by omega)]; simp
 ·simp [h0]
theorem Get_K {w0 : World} {F : Heap} {r : RowM} {i : Int} (ok : RowOk r) :
  Call Tryz.prog w0 87 [.pointer (some ⟨r.b, 0, none⟩), .int .i64 i] (rowH r ++ F) (fun v H' => v = .bool (getB r.bs i) ∧ H' = rowH r ++ F) := by
 have ok1 := ok.o
 have hn := ok.n
 refine Call.enter2 (n := 23) (by kernel_rfl) Tryz.func87 rfl rfl rfl ?_
 refine K.seq (K.region ?_)
 refine KL.v rfl (Val.assign rfl) ?_
 refine KL.nil (KE.next (K.seq (K.region ?_)))
 refine KL.v rfl (Val.move rfl) ?_
 refine KL.v rfl (Val.move rfl) ?_
 refine KL.callc rfl rfl byEvL fun T hT => ?_
 refine (CallV.fn (has_K (r := r) (i := i))).mono ?_
 rintro _ _ ⟨rfl, rfl⟩
 by_cases h : 0 ≤ i ∧ i < (r.bs.length : Nat)
 ·obtain ⟨k, rfl⟩ : ∃ k : Nat, i = k := ⟨i.toNat, by omega⟩
  have hk : k < r.bs.length := by omega
  have hx : (wordsOf r.bs)[((k : Int) / 64).toNat]? = some ((wordN r.bs (k / 64) : Nat) : Int) := by
   rw [show ((k : Int) / 64).toNat = k / 64 by omega]; exact words_at hk
  have hlt : ((k : Int) / 64).toNat < (wordsOf r.bs).length := lt_of_get hx
  have hm : (k : Int) % 64 = ((k % 64 : Nat) : Int) := by omega
  have hlw := wordN_lt r.bs (k / 64)
  have hdl : wordN r.bs (k / 64) / 2 ^ (k % 64) < 18446744073709551616 := Nat.lt_of_le_of_lt (Nat.div_le_self _ _) hlw
  rw [decide_eq_true h]
  refine hT _ _ ?_; clear hT T
  simp only [rowH_app]
  refine KL.v rfl (Val.move rfl) ?_
  (first | refine KL.skipG rfl rfl rfl ?_ | refine KL.skipU rfl rfl rfl ?_ | (refine KL.yes rfl rfl ?_; refine KL.v rfl (Val.move rfl) ?_))
  (first | refine KL.skipG rfl rfl rfl ?_ | refine KL.skipU rfl rfl rfl ?_ | (refine KL.yes rfl rfl ?_; refine KL.v rfl (Val.nilCheck rfl) ?_) | (refine KL.yes rfl rfl ?_; refine KL.v rfl (Val.nilCheckF rfl) ?_) | (refine KL.yes rfl rfl ?_; refine KL.v rfl (Val.nilCheckY rfl) ?_))
  (first | refine KL.skipG rfl rfl rfl ?_ | refine KL.skipU rfl rfl rfl ?_ | (refine KL.yes rfl rfl ?_; refine KL.v rfl (Val.fieldSl (k := 0) rfl rfl) ?_) | (refine KL.yes rfl rfl ?_; refine KL.v rfl (Val.fieldAddr0 (k := 0) rfl rfl) ?_) | (refine KL.yes rfl rfl ?_; refine KL.v rfl (Val.fieldAddrZ rfl rfl) ?_) | (refine KL.yes rfl rfl ?_; refine KL.v rfl (Val.fieldAddr (k := 0) rfl rfl) ?_))
  (first | refine KL.skipG rfl rfl rfl ?_ | refine KL.skipU rfl rfl rfl ?_ | (refine KL.yes rfl rfl ?_; refine KL.v rfl (Val.loadP rfl rfl bySee) ?_) | (refine KL.yes rfl rfl ?_; refine KL.v rfl (Val.loadP rfl rfl (Sees.more (by assumption) byPart)) ?_))
  (first | refine KL.skipG rfl rfl rfl ?_ | refine KL.skipU rfl rfl rfl ?_ | (refine KL.yes rfl rfl ?_; refine KL.v rfl (Val.move rfl) ?_))
  (first | refine KL.skipG rfl rfl rfl ?_ | refine KL.skipU rfl rfl rfl ?_ | (refine KL.yes rfl rfl ?_; refine KL.v rfl (Val.quoN rfl rfl (by simp only [qL, qH]; omega)) ?_) | (refine KL.yes rfl rfl ?_; refine KL.v rfl (Val.quo rfl rfl (by omega)) ?_))
  (first | refine KL.skipG rfl rfl rfl ?_ | refine KL.skipU rfl rfl rfl ?_ | (refine KL.yes rfl rfl ?_; refine KL.v rfl (Val.idxSl rfl rfl rfl bySli rfl byLt) ?_) | (refine KL.yes rfl rfl ?_; refine KL.v rfl (Val.idxSlZ rfl rfl rfl bySli rfl (by omega)) ?_) | (refine KL.yes rfl rfl ?_; refine KL.v rfl (Val.indexS1 rfl rfl rfl rfl (by omega)) ?_) | (refine KL.yes rfl rfl ?_; refine KL.v rfl (Val.indexS rfl rfl rfl rfl (by omega)) ?_) | (refine KL.yes rfl rfl ?_; refine KL.v rfl (Val.indexSO rfl rfl rfl rfl (by omega)) ?_) | (refine KL.yes rfl rfl ?_; refine KL.v rfl (Val.indexSG rfl rfl rfl rfl (by omega)) ?_))
  (first | refine KL.skipG rfl rfl rfl ?_ | refine KL.skipU rfl rfl rfl ?_ | (refine KL.yes rfl rfl ?_; refine KL.v rfl (Val.loadP rfl rfl bySee) ?_) | (refine KL.yes rfl rfl ?_; refine KL.v rfl (Val.loadP rfl rfl (Sees.more (by assumption) byPart)) ?_))
  (first | refine KL.skipG rfl rfl rfl ?_ | refine KL.skipU rfl rfl rfl ?_ | (refine KL.yes rfl rfl ?_; refine KL.v rfl (Val.move rfl) ?_))
  (first | refine KL.skipG rfl rfl rfl ?_ | refine KL.skipU rfl rfl rfl ?_ | (refine KL.yes rfl rfl ?_; refine KL.v rfl (Val.remN rfl rfl (by omega)) ?_) | (refine KL.yes rfl rfl ?_; refine KL.v rfl (Val.rem rfl rfl (by omega)) ?_))
  rw [hm]
  (first | refine KL.skipG rfl rfl rfl ?_ | refine KL.skipU rfl rfl rfl ?_ | (refine KL.yes rfl rfl ?_; refine KL.v rfl (Val.shr rfl rfl (by omega)) ?_))
  rw [shr_nat (j := k % 64) (by omega)]
  (first | refine KL.skipG rfl rfl rfl ?_ | refine KL.skipU rfl rfl rfl ?_ | (refine KL.yes rfl rfl ?_; refine KL.v rfl (Val.and rfl rfl) ?_))
  rw [and_one hdl]
  have hg := get_bit (bs := r.bs) (i := k) hk
  (first | refine KL.skipG rfl rfl rfl ?_ | refine KL.skipU rfl rfl rfl ?_ | (refine KL.yes rfl rfl ?_; refine KL.v rfl (Val.isT (Val.eql rfl rfl) byLt) ?_) | (refine KL.yes rfl rfl ?_; refine KL.v rfl (Val.isF (Val.eql rfl rfl) byLt) ?_) | (refine KL.yes rfl rfl ?_; refine KL.v rfl (Val.eql rfl rfl) ?_))
  (first | (refine KL.v rfl (Val.pickT rfl rfl rfl) ?_) | (refine KL.v rfl (Val.pickF rfl rfl rfl) ?_) | (refine KL.v rfl (Val.pickB rfl rfl rfl) ?_))
  refine KL.v rfl (Val.assign rfl) ?_
  refine KL.nil (KE.next ?_)
  refine K.ret ?_
  exact KE.fin byMarks rfl byRes (by first | exact byPart | (simp only [rowH_app]; exact byPart)) ⟨by rw [getB_in, ← hg]; rfl, rfl⟩
 ·rw [decide_eq_false h]
  have hg := getB_out (bs := r.bs) h
  refine hT _ _ ?_; clear hT T
  rw [hg]
  refine KL.v rfl (Val.move rfl) ?_
  refine KL.skipG rfl rfl rfl ?_
  refine KL.skipG rfl rfl rfl ?_
  refine KL.skipG rfl rfl rfl ?_
  refine KL.skipG rfl rfl rfl ?_
  refine KL.skipG rfl rfl rfl ?_
  refine KL.skipG rfl rfl rfl ?_
  refine KL.skipG rfl rfl rfl ?_
  refine KL.skipG rfl rfl rfl ?_
  refine KL.skipG rfl rfl rfl ?_
  refine KL.skipG rfl rfl rfl ?_
  refine KL.skipG rfl rfl rfl ?_
  refine KL.skipG rfl rfl rfl ?_
  refine KL.skipG rfl rfl rfl ?_
  refine KL.v rfl (Val.pickF rfl rfl rfl) ?_
  refine KL.v rfl (Val.assign rfl) ?_
  refine KL.nil (KE.next ?_)
  refine K.ret ?_
  exact KE.fin byMarks rfl byRes byPart ⟨rfl, rfl⟩
def setR (r : RowM) (k : Nat) (v : Bool) : RowM := ⟨r.b, r.bs.set k v, r.o⟩
theorem setR_ok {r : RowM} (ok : RowOk r) (k : Nat) (v : Bool) : RowOk (setR r k v) := by
 refine ⟨?_, by simpa [setR] using ok.n⟩
 have h := ok.o
 have hl : (wordsOf (r.bs.set k v)).length = (wordsOf r.bs).length := by rw [words_len, words_len, List.length_set]
 unfold setR
 dsimp only
 cases ho : r.o with
 | none =>
  rw [ho] at h
  simp only [oOk] at h ⊢
  rw [h] at hl
  exact List.length_eq_zero_iff.1 hl
 | some ob =>
  rw [ho] at h
  simp only [oOk] at h ⊢
  rw [hl]; exact h
theorem pow_lt {j : Nat} (h : j < 64) : 2 ^ j < 18446744073709551616 := by
 have : 2 ^ j < 2 ^ 64 := Nat.pow_lt_pow_right (by omega) h
 omega
theorem Set_K {w0 : World} {F : Heap} {r : RowM} {k : Nat} {v : Bool} (ok : RowOk r) (hk : k < r.bs.length) :
  Call Tryz.prog w0 83 [.pointer (some ⟨r.b, 0, none⟩), .int .i64 (k : Nat), .bool v] (rowH r ++ F) (fun u H' => u = .int .i64 0 ∧ H' = rowH (setR r k v) ++ F) := by
 have ok1 := ok.o
 have hn := ok.n
 have hx : (wordsOf r.bs)[((k : Int) / 64).toNat]? = some ((wordN r.bs (k / 64) : Nat) : Int) := by
  rw [show ((k : Int) / 64).toNat = k / 64 by omega]; exact words_at hk
 have hlt : ((k : Int) / 64).toNat < (wordsOf r.bs).length := lt_of_get hx
 have hm : (k : Int) % 64 = ((k % 64 : Nat) : Int) := by omega
 have hlw := wordN_lt r.bs (k / 64)
 have hpl := pow_lt (j := k % 64) (by omega)
 have hk64 : ((k : Int) / 64).toNat = k / 64 := by omega
 have hws := words_set (v := v) hk
 have hle : (wordsOf (r.bs.set k v)).length = (wordsOf r.bs).length := by rw [words_len, words_len, List.length_set]
 refine Call.enter3 (n := 43) (by kernel_rfl) Tryz.func83 rfl rfl rfl ?_
 refine K.seq (K.region ?_)
 refine KL.v rfl (Val.assign rfl) ?_
 refine KL.nil (KE.next (K.seq (K.block (K.seq (K.region ?_)))))
 refine KL.v rfl (Val.move rfl) ?_
 refine KL.callc rfl rfl byEvL fun T hT => ?_
 simp only [rowH_app]
 refine (CallV.fn (rnone_K (Sees.cell byTake rfl))).mono ?_
 rintro _ _ ⟨rfl, rfl⟩
 refine hT _ _ ?_; clear hT T
 refine KL.v rfl (Val.assign rfl) ?_
 refine KL.nil (KE.next (K.condF rfl (K.seq (K.region ?_))))
 refine KL.v rfl (Val.move rfl) ?_
 refine KL.v rfl (Val.move rfl) ?_
 refine KL.callc rfl rfl byEvL fun T hT => ?_
 refine (CallV.part (CallV.fn (has_K (r := r) (i := (k : Nat)))) (by first | exact byPart | (simp only [rowH_app]; exact byPart))).mono ?_
 rintro _ _ ⟨rfl, rfl⟩
 rw [decide_eq_true (show 0 ≤ ((k : Nat) : Int) ∧ ((k : Nat) : Int) < (r.bs.length : Nat) by omega)]
 refine hT _ _ ?_; clear hT T
 simp only [rowH_app]
 cases v with
 | true =>
  simp only [if_true] at hws
  refine KL.v rfl (Val.notT rfl) ?_
  refine KL.v rfl (Val.assign rfl) ?_
  refine KL.nil (KE.next (K.condF rfl (K.seq (K.region ?_))))
  refine KL.v rfl (Val.move rfl) ?_
  refine KL.v rfl (Val.assign rfl) ?_
  refine KL.nil (KE.next (K.condT rfl ?_))
  refine K.drawn [] [(0, 0), (1, 0), (2, 0), (3, 0), (4, 0), (5, 0), (6, 0), (7, 0), (8, 0), (9, 0), (10, 0), (11, 0), (12, 0), (13, 2)] (by kernel_rfl) (by kernel_rfl) (by kernel_rfl) (by kernel_rfl) (by kernel_rfl) (by kernel_rfl) Part.nil ?_
  refine KD.v0 rfl rfl (Val.move rfl) ?_
  refine KD.v0 rfl rfl (Val.nilCheck rfl) ?_
  refine KD.v0 rfl rfl (Val.fieldAddr0 (k := 0) rfl rfl) ?_
  refine KD.v0 rfl rfl (Val.loadP rfl rfl (Sees.cell byTake rfl)) ?_
  refine KD.v0 rfl rfl (Val.move rfl) ?_
  refine KD.v0 rfl rfl (Val.quoN rfl rfl (by simp only [qL, qH]; omega)) ?_
  refine KD.v0 rfl rfl (Val.idxSl rfl rfl rfl (Sli.own byTakeL (by assumption) byLen) rfl byLt) ?_
  refine KD.v0 rfl rfl (Val.loadP rfl rfl (Sees.sl0 (Sli.own byTakeL (by assumption) byLen) (by assumption) rfl)) ?_
  refine KD.v0 rfl rfl (Val.move rfl) ?_
  refine KD.v0 rfl rfl (Val.remN rfl rfl (by omega)) ?_
  refine KD.v0 rfl rfl (Val.shl rfl rfl (by omega)) ?_
  refine KD.v0 rfl rfl (Val.or rfl rfl) ?_
  refine KD.v0 rfl rfl (Val.idxSl rfl rfl rfl (Sli.own byTakeL (by assumption) byLen) rfl byLt) ?_
  refine KD.eN rfl (Eff.stSl0 rfl rfl rfl rfl byTakeL (by assumption) (by assumption) rfl rfl) ?_; rintro _ _ rfl; refine ⟨byPart, ?_⟩
  refine KD.nil ?_
  refine KE.blkN ?_
  refine KE.next (K.seq (K.region ?_))
  refine KL.v rfl (Val.assign rfl) ?_
  refine KL.nil (KE.next ?_)
  refine K.ret ?_
  rw [hm, shl_nat (j := k % 64) (by omega), or_nat hlw hpl, ← hws]
  simp only [setR, List.length_set, hle]
  exact KE.fin byMarks rfl byRes (by first | exact byPart | (simp only [rowH_app]; exact byPart)) ⟨rfl, rfl⟩
 | false =>
  simp only [Bool.false_eq_true, if_false] at hws
  refine KL.v rfl (Val.notT rfl) ?_
  refine KL.v rfl (Val.assign rfl) ?_
  refine KL.nil (KE.next (K.condF rfl (K.seq (K.region ?_))))
  refine KL.v rfl (Val.move rfl) ?_
  refine KL.v rfl (Val.assign rfl) ?_
  refine KL.nil (KE.next (K.condF rfl ?_))
  refine K.drawn [] [(0, 0), (1, 0), (2, 0), (3, 0), (4, 0), (5, 0), (6, 0), (7, 0), (8, 0), (9, 0), (10, 0), (11, 0), (12, 0), (13, 2)] (by kernel_rfl) (by kernel_rfl) (by kernel_rfl) (by kernel_rfl) (by kernel_rfl) (by kernel_rfl) Part.nil ?_
  refine KD.v0 rfl rfl (Val.move rfl) ?_
  refine KD.v0 rfl rfl (Val.nilCheck rfl) ?_
  refine KD.v0 rfl rfl (Val.fieldAddr0 (k := 0) rfl rfl) ?_
  refine KD.v0 rfl rfl (Val.loadP rfl rfl (Sees.cell byTake rfl)) ?_
  refine KD.v0 rfl rfl (Val.move rfl) ?_
  refine KD.v0 rfl rfl (Val.quoN rfl rfl (by simp only [qL, qH]; omega)) ?_
  refine KD.v0 rfl rfl (Val.idxSl rfl rfl rfl (Sli.own byTakeL (by assumption) byLen) rfl byLt) ?_
  refine KD.v0 rfl rfl (Val.loadP rfl rfl (Sees.sl0 (Sli.own byTakeL (by assumption) byLen) (by assumption) rfl)) ?_
  refine KD.v0 rfl rfl (Val.move rfl) ?_
  refine KD.v0 rfl rfl (Val.remN rfl rfl (by omega)) ?_
  refine KD.v0 rfl rfl (Val.shl rfl rfl (by omega)) ?_
  refine KD.v0 rfl rfl (Val.andNot rfl rfl) ?_
  refine KD.v0 rfl rfl (Val.idxSl rfl rfl rfl (Sli.own byTakeL (by assumption) byLen) rfl byLt) ?_
  refine KD.eN rfl (Eff.stSl0 rfl rfl rfl rfl byTakeL (by assumption) (by assumption) rfl rfl) ?_; rintro _ _ rfl; refine ⟨byPart, ?_⟩
  refine KD.nil ?_
  refine KE.blkN ?_
  refine KE.next (K.seq (K.region ?_))
  refine KL.v rfl (Val.assign rfl) ?_
  refine KL.nil (KE.next ?_)
  refine K.ret ?_
  rw [hm, shl_nat (j := k % 64) (by omega), less_nat hlw hpl, ← hws]
  simp only [setR, List.length_set, hle]
  exact KE.fin byMarks rfl byRes (by first | exact byPart | (simp only [rowH_app]; exact byPart)) ⟨rfl, rfl⟩
theorem repF_len (n : Nat) : (List.replicate n false).length = n := List.length_replicate
theorem rNew_K {w0 : World} {H : Heap} {n : Nat} (hn : n ≤ 65536) :
  Call Tryz.prog w0 96 [.int .i64 (n : Nat)] H (fun v H' => ∃ r, RowOk r ∧ r.bs = List.replicate n false ∧ v = .tuple [.pointer (some ⟨r.b, 0, none⟩), .int .i64 0].toArray ∧ H' = rowH r ++ H) := by
 have h1 : ((n : Int) + 64 - 1) / 64 = (((n + 63) / 64 : Nat) : Int) := by omega
 refine Call.enter1 (n := 18) (by kernel_rfl) Tryz.func96 rfl rfl rfl ?_
 refine K.seq (K.region ?_)
 refine KL.v rfl (Val.assign rfl) ?_
 refine KL.v rfl (Val.assign rfl) ?_
 refine KL.nil (KE.next (K.seq (K.seq (K.region ?_))))
 refine KL.v rfl (Val.move rfl) ?_
 refine KL.v rfl (Val.isF (Val.lss rfl rfl) byLt) ?_
 refine KL.v rfl (Val.move rfl) ?_
 refine KL.yes rfl rfl ?_; refine KL.v rfl (Val.move rfl) ?_
 refine KL.yes rfl rfl ?_; refine KL.v rfl (Val.isF (Val.gtr rfl rfl) byLt) ?_
 refine KL.v rfl (Val.pickF rfl rfl rfl) ?_
 refine KL.nil (KE.next (K.condF rfl (K.skip (KE.next ?_))))
 refine byCode ?_
 refine KL.v rfl (Val.move rfl) ?_
 (first | (refine KL.v rfl (Val.add rfl rfl (by simp only [qL, qH]; omega)) ?_) | (refine KL.v rfl (Val.addW rfl rfl) ?_))
 (first | (refine KL.v rfl (Val.sub rfl rfl (by simp only [qL, qH]; omega)) ?_) | (refine KL.v rfl (Val.subW rfl rfl) ?_))
 (first | (refine KL.v rfl (Val.quoN rfl rfl (by simp only [qL, qH]; omega)) ?_) | (refine KL.v rfl (Val.quo rfl rfl (by omega)) ?_))
 rw [h1]
 refine KL.e rfl (Eff.makeR (E := uE) (x0 := 0) rfl rfl rfl rfl rfl rfl (by first | assumption | omega | (simp <;> fail) | (simp; omega))) ?_; rintro _ _ ⟨o14, ok14, rfl, rfl⟩
 refine KL.v rfl (Val.move rfl) ?_
 refine KL.v rfl (Val.build byParts rfl rfl byFill) ?_
 refine KL.e rfl (Eff.box rfl rfl) ?_; rintro _ _ ⟨b17, rfl, rfl⟩
 refine KL.v rfl (Val.assign rfl) ?_
 refine KL.v rfl (Val.assign rfl) ?_
 refine KL.nil (KE.next ?_)
 refine K.ret ?_
 have hw := words_rep n
 rw [← hw] at ok14 ⊢
 exact KE.fin (H' := rowH ⟨b17, List.replicate n false, o14⟩ ++ H) byMarks rfl byRes (by rw [rowH_app, repF_len]; exact byPart) ⟨⟨b17, List.replicate n false, o14⟩, ⟨ok14, by rw [repF_len]; exact hn⟩, rfl, rfl, rfl⟩
theorem Clear_K {w0 : World} {F : Heap} {r : RowM} (ok : RowOk r) :
  Call Tryz.prog w0 90 [.pointer (some ⟨r.b, 0, none⟩)] (rowH r ++ F) (fun u H' => u = .tuple #[] ∧ ∃ r', RowOk r' ∧ r'.b = r.b ∧ r'.bs = List.replicate r.bs.length false ∧ H' = rowH r' ++ F) := by
 have ok1 := ok.o
 refine Call.enter1 (n := 9) (by kernel_rfl) Tryz.func90 rfl rfl rfl ?_
 refine K.seq (K.region ?_)
 refine KL.v rfl (Val.move rfl) ?_
 refine KL.callc rfl rfl byEvL fun T hT => ?_
 simp only [rowH_app]
 refine (CallV.fn (rnone_K (Sees.cell byTake rfl))).mono ?_
 rintro _ _ ⟨rfl, rfl⟩
 refine hT _ _ ?_; clear hT T
 refine KL.v rfl (Val.notF rfl) ?_
 refine KL.nil (KE.next (K.condT rfl (K.region ?_)))
 refine KL.v rfl (Val.move rfl) ?_
 refine KL.v rfl (Val.nilCheck rfl) ?_
 refine KL.v rfl (Val.fieldAddr0 (k := 0) rfl rfl) ?_
 refine KL.v rfl (Val.loadP rfl rfl (Sees.cell byTake rfl)) ?_
 refine KL.eN (Eff.clearS (x0 := (0 : Int)) (i := 0) rfl (clr_all (by assumption)) rfl rfl (Nat.zero_le _) (Nat.le_refl _) byTakeL (by assumption)) ?_; rintro _ _ ⟨rfl, okc, rfl⟩
 refine KL.nil ?_
 skip
 have hw : cleared (wordsOf r.bs) 0 (wordsOf r.bs).length 0 = wordsOf (List.replicate r.bs.length false) := by rw [cleared_all, words_rep, words_len]
 rw [hw] at okc ⊢
 have hl : (wordsOf (List.replicate r.bs.length false)).length = (wordsOf r.bs).length := by rw [words_len, words_len, repF_len]
 exact KE.finN (H' := rowH ⟨r.b, List.replicate r.bs.length false, r.o⟩ ++ F) byMarks rfl byRes (by simp only [rowH_app, repF_len, hl]; exact byPart) ⟨rfl, ⟨r.b, List.replicate r.bs.length false, r.o⟩, ⟨okc, by rw [repF_len]; exact ok.n⟩, rfl, rfl, rfl⟩
end Go.Proofs.YtalholahapcpkaaGreatDoor.Sw
