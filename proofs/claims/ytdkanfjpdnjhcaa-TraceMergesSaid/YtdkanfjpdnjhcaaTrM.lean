/- What is seen, its bytes, and back: plain. -/
import Derived.Test.YtdkanfjpdnjhcaaKA
namespace Go.Proofs.Ytdkanfjpdnjhcaa
open Go.RowKit
set_option linter.unusedVariables false

structure Seen where
  e : Int
  h : Int
  w : Int
  addr : Int
  used : Int
  since : Int
  cycles : Int
  active : Bool
  deriving DecidableEq
def scell (x : Seen) : List Value := [.int .i64 x.e, .int .u64 x.h, .int .u64 x.w, .int .i64 x.addr, .int .i64 x.used, .int .i64 x.since, .int .i64 x.cycles, .bool x.active]
def sE : Enc Seen := ⟨scell, 8, fun _ => rfl, by intro x v hv; simp [scell] at hv; rcases hv with rfl | rfl | rfl | rfl | rfl | rfl | rfl | rfl <;> rfl⟩
def seqB (x y : Seen) : Bool := decide (x.e = y.e) && (decide (x.h = y.h) && (decide (x.w = y.w) && (decide (x.addr = y.addr) && (decide (x.used = y.used) && (decide (x.since = y.since) && (decide (x.cycles = y.cycles) && ((x.active == y.active) && true)))))))
theorem seqB_iff (x y : Seen) : seqB x y = true ↔ x = y := by
  obtain ⟨a, b, c, d, e, f, g, h⟩ := x
  obtain ⟨a', b', c', d', e', f', g', h'⟩ := y
  simp [seqB]
theorem seqB_ne {x y : Seen} (h : x ≠ y) : seqB x y = false := by
  cases hb : seqB x y with
  | false => rfl
  | true => exact absurd ((seqB_iff x y).1 hb) h
def i64ok (z : Int) : Prop := -9223372036854775808 ≤ z ∧ z ≤ 9223372036854775807
def u64ok (z : Int) : Prop := 0 ≤ z ∧ z ≤ 18446744073709551615
def Seen.ok (x : Seen) : Prop := i64ok x.e ∧ u64ok x.h ∧ u64ok x.w ∧ i64ok x.addr ∧ i64ok x.used ∧ i64ok x.since ∧ i64ok x.cycles

/-! ## eight bytes -/
def be (n : Nat) : List UInt8 := [UInt8.ofNat (n / 72057594037927936), UInt8.ofNat (n / 281474976710656), UInt8.ofNat (n / 1099511627776), UInt8.ofNat (n / 4294967296), UInt8.ofNat (n / 16777216), UInt8.ofNat (n / 65536), UInt8.ofNat (n / 256), UInt8.ofNat n]
def nb (l : List UInt8) : Nat := l.foldl (fun a c => a * 256 + c.toNat) 0
theorem u8_ofNat (n : Nat) : (UInt8.ofNat n).toNat = n % 256 := by simp
theorem nb_be {n : Nat} (h : n < 18446744073709551616) : nb (be n) = n := by
  simp only [nb, be, List.foldl_cons, List.foldl_nil, u8_ofNat]
  omega
theorem be_nb {l : List UInt8} (h : l.length = 8) : be (nb l) = l ∧ nb l < 18446744073709551616 := by
  match l, h with
  | [a, b, c, d, e, f, g, k], _ =>
    have h1 := a.toNat_lt; have h2 := b.toNat_lt; have h3 := c.toNat_lt; have h4 := d.toNat_lt
    have h5 := e.toNat_lt; have h6 := f.toNat_lt; have h7 := g.toNat_lt; have h8 := k.toNat_lt
    simp only [nb, List.foldl_cons, List.foldl_nil]
    refine ⟨?_, by omega⟩
    simp only [be, List.cons.injEq, and_true]
    refine ⟨?_, ?_, ?_, ?_, ?_, ?_, ?_, ?_⟩ <;> (apply UInt8.toNat.inj; rw [u8_ofNat]; omega)
theorem be_len (n : Nat) : (be n).length = 8 := rfl
theorem nb_snoc (l : List UInt8) (c : UInt8) : nb (l ++ [c]) = nb l * 256 + c.toNat := by simp [nb]
theorem nb_lt' (l : List UInt8) : ∀ a : Nat, l.foldl (fun a c => a * 256 + c.toNat) a < (a + 1) * 256 ^ l.length := by
  induction l with
  | nil => intro a; simp
  | cons c l ih =>
    intro a
    have h1 := ih (a * 256 + c.toNat)
    have h2 := c.toNat_lt
    simp only [List.foldl_cons, List.length_cons, Nat.pow_succ]
    refine Nat.lt_of_lt_of_le h1 ?_
    rw [Nat.mul_comm (256 ^ l.length) 256, ← Nat.mul_assoc]
    exact Nat.mul_le_mul_right _ (by omega)
theorem nb_lt (l : List UInt8) : nb l < 256 ^ l.length := by have := nb_lt' l 0; simpa [nb] using this

/-! ## a number as 64 bits, and back -/
def u64 (z : Int) : Nat := (IntKind.u64.wrap z).toNat
theorem wrap_u64 (z : Int) : IntKind.u64.wrap z = z % 18446744073709551616 := by
  simp [IntKind.wrap, IntKind.bits, IntKind.signed]
theorem u64_lt (z : Int) : u64 z < 18446744073709551616 := by unfold u64; rw [wrap_u64]; omega
theorem u64_cast (z : Int) : ((u64 z : Nat) : Int) = IntKind.u64.wrap z := by unfold u64; rw [wrap_u64]; omega
theorem u64_nat {z : Int} (h : u64ok z) : ((u64 z : Nat) : Int) = z := by rw [u64_cast, wrap_u64]; obtain ⟨h1, h2⟩ := h; omega
theorem wrap_i64 (z : Int) : IntKind.i64.wrap z = (z + 9223372036854775808) % 18446744073709551616 - 9223372036854775808 := by
  simp [IntKind.wrap, IntKind.bits, IntKind.signed]
  omega
theorem i64_back {z : Int} (h : i64ok z) : IntKind.i64.wrap ((u64 z : Nat) : Int) = z := by
  rw [u64_cast, wrap_u64, wrap_i64]; obtain ⟨h1, h2⟩ := h; omega
theorem u64_back {n : Nat} (h : n < 18446744073709551616) : u64 (IntKind.i64.wrap (n : Int)) = n := by
  unfold u64; rw [wrap_u64, wrap_i64]; omega
theorem u64_id {n : Nat} (h : n < 18446744073709551616) : u64 (n : Int) = n := by unfold u64; rw [wrap_u64]; omega
theorem i64_ok (z : Int) : i64ok (IntKind.i64.wrap z) := by rw [wrap_i64]; unfold i64ok; omega

/-! ## the bytes of what is seen -/
def oneB26 (s : Seen) : List UInt8 := be (u64 s.e) ++ be (u64 s.h) ++ be (u64 s.w) ++ be (u64 s.addr) ++ be (u64 s.used) ++ be (u64 s.since) ++ be (u64 s.cycles) ++ [if s.active then 1 else 0]
def putB (l : List Seen) : List UInt8 := l.flatMap oneB26
theorem oneB26_len (s : Seen) : (oneB26 s).length = 57 := by simp [oneB26, be_len]
theorem putB_len (l : List Seen) : (putB l).length = l.length * 57 := by
  induction l with
  | nil => rfl
  | cons x l ih => simp only [putB, List.flatMap_cons, List.length_append, oneB26_len, List.length_cons] at ih ⊢; rw [ih]; omega
def fld (c : List UInt8) (i : Nat) : Nat := nb ((c.drop (8 * i)).take 8)
def oneS (c : List UInt8) : Seen := ⟨IntKind.i64.wrap (fld c 0 : Nat), (fld c 1 : Nat), (fld c 2 : Nat), IntKind.i64.wrap (fld c 3 : Nat), IntKind.i64.wrap (fld c 4 : Nat), IntKind.i64.wrap (fld c 5 : Nat), IntKind.i64.wrap (fld c 6 : Nat), c[56]? == some 1⟩
theorem fld_lt {c : List UInt8} (i : Nat) : fld c i < 18446744073709551616 := by
  have := nb_lt ((c.drop (8 * i)).take 8)
  have h2 : ((c.drop (8 * i)).take 8).length ≤ 8 := List.length_take_le _ _
  have h3 : 256 ^ ((c.drop (8 * i)).take 8).length ≤ 256 ^ 8 := Nat.pow_le_pow_right (by omega) h2
  unfold fld
  omega
theorem oneS_ok (c : List UInt8) : (oneS c).ok := by
  refine ⟨i64_ok _, ?_, ?_, i64_ok _, i64_ok _, i64_ok _, i64_ok _⟩
  · have := fld_lt (c := c) 1; constructor <;> simp only [oneS] <;> omega
  · have := fld_lt (c := c) 2; constructor <;> simp only [oneS] <;> omega

theorem oneS_one {s : Seen} (h : s.ok) : oneS (oneB26 s) = s := by
  obtain ⟨h1, h2, h3, h4, h5, h6, h7⟩ := h
  have f0 : fld (oneB26 s) 0 = u64 s.e := nb_be (u64_lt _)
  have f1 : fld (oneB26 s) 1 = u64 s.h := nb_be (u64_lt _)
  have f2 : fld (oneB26 s) 2 = u64 s.w := nb_be (u64_lt _)
  have f3 : fld (oneB26 s) 3 = u64 s.addr := nb_be (u64_lt _)
  have f4 : fld (oneB26 s) 4 = u64 s.used := nb_be (u64_lt _)
  have f5 : fld (oneB26 s) 5 = u64 s.since := nb_be (u64_lt _)
  have f6 : fld (oneB26 s) 6 = u64 s.cycles := nb_be (u64_lt _)
  have fa : (oneB26 s)[56]? = some (if s.active then 1 else 0) := rfl
  unfold oneS
  rw [f0, f1, f2, f3, f4, f5, f6, fa, i64_back h1, u64_nat h2, u64_nat h3, i64_back h4, i64_back h5, i64_back h6, i64_back h7]
  obtain ⟨a, b, c, d, e, f, g, k⟩ := s
  cases k <;> rfl
theorem drop_cut {c : List UInt8} (i n : Nat) (h : i + n ≤ c.length) : c.drop i = (c.drop i).take n ++ c.drop (i + n) := by
  rw [← List.drop_drop, List.take_append_drop]
theorem one_oneS {c : List UInt8} (hl : c.length = 57) (h : c[56]? = some 0 ∨ c[56]? = some 1) : oneB26 (oneS c) = c := by
  have key : ∀ i, 8 * i + 8 ≤ 57 → be (fld c i) = (c.drop (8 * i)).take 8 := fun i hi => (be_nb (by simp; omega)).1
  have e1 : ∀ i, u64 (IntKind.i64.wrap (fld c i : Nat)) = fld c i := fun i => u64_back (fld_lt i)
  have e2 : ∀ i, u64 ((fld c i : Nat) : Int) = fld c i := fun i => u64_id (fld_lt i)
  unfold oneB26 oneS
  simp only [e1, e2]
  rw [key 0 (by omega), key 1 (by omega), key 2 (by omega), key 3 (by omega), key 4 (by omega), key 5 (by omega), key 6 (by omega)]
  have last : (if (c[56]? == some 1) = true then (1 : UInt8) else 0) :: [] = c.drop 56 := by
    have hd : c.drop 56 = [c[56]'(by omega)] := by
      rw [List.drop_eq_getElem_cons (by omega), List.drop_of_length_le (by omega)]
    rw [hd]
    rw [List.getElem?_eq_getElem (by omega)] at h ⊢
    rcases h with h | h <;> (simp only [Option.some.injEq] at h; simp [h])
  rw [last]
  conv => rhs; rw [show c = c.drop 0 from rfl, drop_cut 0 8 (by omega), drop_cut (0 + 8) 8 (by omega), drop_cut (0 + 8 + 8) 8 (by omega), drop_cut (0 + 8 + 8 + 8) 8 (by omega), drop_cut (0 + 8 + 8 + 8 + 8) 8 (by omega), drop_cut (0 + 8 + 8 + 8 + 8 + 8) 8 (by omega), drop_cut (0 + 8 + 8 + 8 + 8 + 8 + 8) 8 (by omega)]
  simp only [List.append_assoc]

/-- what is read: none, if the bytes are nobody's -/
def getB : (fuel : Nat) → List UInt8 → Option (List Seen)
  | 0, b => if b = [] then some [] else none
  | n + 1, b => if b = [] then some [] else if b.length < 57 ∨ ¬ (b[56]? = some 0 ∨ b[56]? = some 1) then none else (getB n (b.drop 57)).map (oneS (b.take 57) :: ·)
theorem getB_put {l : List Seen} (h : ∀ x ∈ l, x.ok) : ∀ n, l.length ≤ n → getB n (putB l) = some l := by
  induction l with
  | nil => intro n _; cases n <;> rfl
  | cons x l ih =>
    intro n hn
    cases n with
    | zero => simp at hn
    | succ n =>
      have hx := oneB26_len x
      have e1 : putB (x :: l) = oneB26 x ++ putB l := rfl
      have hne : putB (x :: l) ≠ [] := by intro h; have := congrArg List.length h; rw [putB_len] at this; simp at this
      have h56 : (putB (x :: l))[56]? = some (if x.active then 1 else 0) := by rw [e1, List.getElem?_append_left (by omega)]; rfl
      unfold getB
      rw [if_neg hne, if_neg]
      · rw [e1, List.drop_append_of_le_length (by omega), List.drop_of_length_le (by omega), List.nil_append, List.take_append_of_le_length (by omega), List.take_of_length_le (by omega), ih (fun y hy => h y (.tail _ hy)) n (by simpa using hn), oneS_one (h x (.head _))]
        rfl
      · rw [h56, putB_len]
        simp only [List.length_cons]
        cases x.active <;> simp <;> omega
theorem put_getB : ∀ (n : Nat) {b : List UInt8} {l : List Seen}, getB n b = some l → putB l = b ∧ (∀ x ∈ l, x.ok) ∧ l.length * 57 = b.length := by
  intro n
  induction n with
  | zero =>
    intro b l h
    unfold getB at h
    split at h
    · rename_i hb; cases h; subst hb; exact ⟨rfl, by simp, rfl⟩
    · cases h
  | succ n ih =>
    intro b l h
    unfold getB at h
    split at h
    · rename_i hb; cases h; subst hb; exact ⟨rfl, by simp, rfl⟩
    · split at h
      · cases h
      · rename_i hb hc
        have hc1 : 57 ≤ b.length := by omega
        have hc2 : b[56]? = some 0 ∨ b[56]? = some 1 := by
          rcases Classical.em (b[56]? = some 0 ∨ b[56]? = some 1) with h | h
          · exact h
          · exact absurd (.inr h) hc
        obtain ⟨l', h', rfl⟩ := Option.map_eq_some_iff.1 h
        obtain ⟨i1, i2, i3⟩ := ih h'
        have h56 : (b.take 57)[56]? = b[56]? := by rw [List.getElem?_take]; simp
        have e1 := one_oneS (c := b.take 57) (by simp; omega) (by rw [h56]; exact hc2)
        refine ⟨?_, ?_, ?_⟩
        · show oneB26 (oneS (b.take 57)) ++ putB l' = b
          rw [e1, i1, List.take_append_drop]
        · intro x hx
          rcases List.mem_cons.1 hx with rfl | hx
          · exact oneS_ok _
          · exact i2 x hx
        · simp only [List.length_cons, List.length_drop] at i3 ⊢
          omega
end Go.Proofs.Ytdkanfjpdnjhcaa
