/- The walker: strings, bytes, bits, structs that are compared, min. The walker's searches by short names: each is a theorem whose premise is found by its default proof. -/
import Derived.Laws.IdiomStrings
import Derived.Laws.StructEq
import Derived.Test.YthamkgghnjenhaaGreatJ11
namespace Go.Proofs.YthamkgghnjenhaaGreat
open Go.RowKit
set_option linter.unusedVariables false
set_option linter.unusedSimpArgs false

/-- a string of bytes -/
def strB (l : List UInt8) : ByteArray := ⟨l.toArray⟩
theorem strB_size (l : List UInt8) : (strB l).size = l.length := by simp [strB, ByteArray.size]
theorem strB_inj {a b : List UInt8} : strB a = strB b ↔ a = b := by
  constructor
  · intro h
    have := congrArg (fun s => s.data.toList) h
    simpa [strB] using this
  · rintro rfl; rfl
theorem strB_get (l : List UInt8) (i : Nat) : (strB l)[i]? = l[i]? := by
  rw [show (strB l)[i]? = (strB l).data[i]? from ?_]
  · simp [strB]
  · simp only [getElem?_def]
    rfl
theorem strB_app (a b : List UInt8) : strB a ++ strB b = strB (a ++ b) := by
  apply ByteArray.ext
  simp [strB]
theorem strB_ext (l : List UInt8) (a b : Nat) : (strB l).extract a b = strB ((l.take b).drop a) := by
  apply ByteArray.ext
  rw [ByteArray.data_extract]
  simp [strB, List.extract_eq_take_drop, List.drop_take]
theorem strB_of (s : ByteArray) : s = strB s.data.toList := by apply ByteArray.ext; simp [strB]

/-- a slice of bytes -/
def bE : Enc Int := ⟨fun z => [.int .u8 z], 1, fun _ => rfl, by intro x v hv; simp at hv; subst hv; rfl⟩
def toB (l : List Int) : List UInt8 := l.map fun n => UInt8.ofNat n.toNat
def ofB (l : List UInt8) : List Int := l.map fun c => (c.toNat : Int)
theorem toB_ofB (l : List UInt8) : toB (ofB l) = l := by
  unfold toB ofB
  rw [List.map_map]
  conv => rhs; rw [← List.map_id l]
  apply List.map_congr_left
  intro c _
  simp

section
variable {P : Program} {w0 : World} {m : Slots} {H F : Heap} {ty : TypeId} {v : Value}

def strTy (P : Program) (t : TypeId) : Bool := match P.underlying t with
  | some .string => true
  | _ => false
theorem strTy_spec {t : TypeId} (h : strTy P t = true) : P.underlying t = some .string := by
  unfold strTy at h; split at h <;> simp_all

theorem Val.lenB {x : Operand} {t : TypeId} {l : List UInt8} (hx : evO m x = some (.string (strB l))) (ht : strTy P t = true) : Val P w0 H m ty (.call { callee := .builtin .len, args := #[x], argTypes := #[t] }) (.int .i64 (l.length : Nat)) :=
  ⟨by simp [covOp, covCall, cov, hx], fun w d pos af g _ => by
    simp [execOp, resolve, invoke, builtin, evS, hx, Builtin.len_, run_und w (strTy_spec ht), goInt, strB_size]⟩
theorem Val.idxB {x y : Operand} {t : TypeId} {l : List UInt8} {i : Nat} {c : UInt8} {k : IntKind} (hx : evO m x = some (.string (strB l))) (hy : evO m y = some (.int k (i : Nat))) (ht : strTy P t = true) (hc : l[i]? = some c) :
    Val P w0 H m ty (.index t x y) (.int .u8 (c.toNat : Nat)) :=
  ⟨by simp [covOp, cov, hx, hy], fun w d pos af g _ => by
    have e : (strB l)[i]? = some c := by rw [strB_get]; exact hc
    simp [execOp, evS, hx, hy, Instr.index, asIntOf, run_und w (strTy_spec ht), e]⟩
theorem Val.idxBZ {x y : Operand} {t : TypeId} {l : List UInt8} {z : Int} {c : UInt8} {k : IntKind} (hx : evO m x = some (.string (strB l))) (hy : evO m y = some (.int k z)) (ht : strTy P t = true) (h0 : 0 ≤ z) (hc : l[z.toNat]? = some c) :
    Val P w0 H m ty (.index t x y) (.int .u8 (c.toNat : Nat)) := by
  obtain ⟨n, rfl⟩ := Int.eq_ofNat_of_zero_le h0
  exact Val.idxB hx hy ht hc
theorem Val.subB {x y z : Operand} {t : TypeId} {l : List UInt8} {a b : Nat} (hx : evO m x = some (.string (strB l))) (hy : evO m y = some (.int .i64 (a : Nat))) (hz : evO m z = some (.int .i64 (b : Nat))) (ht : strTy P t = true) (hab : a ≤ b) (hb : b ≤ l.length) :
    Val P w0 H m ty (.slice t x (some y) (some z) none) (.string (strB ((l.take b).drop a))) :=
  ⟨by simp [covOp, covOpt, cov, hx, hy, hz], fun w d pos af g _ => by
    have e1 := run_bound (P := P) (w := w) (i := b) (y := l.length) (c := .sliceAlen) hb
    have e2 := run_bound (P := P) (w := w) (i := a) (y := b) (c := .sliceB) hab
    simp [execOp, evS, hx, hy, hz, Instr.sliceAt, Instr.slice, Instr.sliceBounds, run_und w (strTy_spec ht), e1, e2, strB_size, strB_ext]⟩
theorem Val.subBZ {x y z : Operand} {t : TypeId} {l : List UInt8} {a b : Int} (hx : evO m x = some (.string (strB l))) (hy : evO m y = some (.int .i64 a)) (hz : evO m z = some (.int .i64 b)) (ht : strTy P t = true) (hab : 0 ≤ a ∧ a ≤ b ∧ b ≤ l.length) :
    Val P w0 H m ty (.slice t x (some y) (some z) none) (.string (strB ((l.take b.toNat).drop a.toNat))) := by
  obtain ⟨h1, h2, h3⟩ := hab
  obtain ⟨a', rfl⟩ := Int.eq_ofNat_of_zero_le h1
  obtain ⟨b', rfl⟩ := Int.eq_ofNat_of_zero_le (show 0 ≤ b by omega)
  exact Val.subB hx hy hz ht (by omega) (by omega)
theorem Val.subBLZ {x y : Operand} {t : TypeId} {l : List UInt8} {a : Int} (hx : evO m x = some (.string (strB l))) (hy : evO m y = some (.int .i64 a)) (ht : strTy P t = true) (ha : 0 ≤ a ∧ a ≤ l.length) :
    Val P w0 H m ty (.slice t x (some y) none none) (.string (strB (l.drop a.toNat))) := by
  obtain ⟨a', rfl⟩ := Int.eq_ofNat_of_zero_le ha.1
  exact ⟨by simp [covOp, covOpt, cov, hx, hy], fun w d pos af g _ => by
    have e2 := run_bound (P := P) (w := w) (i := a') (y := l.length) (c := .sliceB) (by omega)
    simp [execOp, evS, hx, hy, Instr.sliceAt, Instr.slice, Instr.sliceBounds, run_und w (strTy_spec ht), e2, strB_size, strB_ext]⟩
theorem Val.subBL {x y : Operand} {t : TypeId} {l : List UInt8} {a : Nat} (hx : evO m x = some (.string (strB l))) (hy : evO m y = some (.int .i64 (a : Nat))) (ht : strTy P t = true) (ha : a ≤ l.length) :
    Val P w0 H m ty (.slice t x (some y) none none) (.string (strB (l.drop a))) :=
  ⟨by simp [covOp, covOpt, cov, hx, hy], fun w d pos af g _ => by
    have e2 := run_bound (P := P) (w := w) (i := a) (y := l.length) (c := .sliceB) ha
    simp [execOp, evS, hx, hy, Instr.sliceAt, Instr.slice, Instr.sliceBounds, run_und w (strTy_spec ht), e2, strB_size, strB_ext]⟩
theorem Val.subBH {x z : Operand} {t : TypeId} {l : List UInt8} {b : Nat} (hx : evO m x = some (.string (strB l))) (hz : evO m z = some (.int .i64 (b : Nat))) (ht : strTy P t = true) (hb : b ≤ l.length) :
    Val P w0 H m ty (.slice t x none (some z) none) (.string (strB (l.take b))) :=
  ⟨by simp [covOp, covOpt, cov, hx, hz], fun w d pos af g _ => by
    have e1 := run_bound (P := P) (w := w) (i := b) (y := l.length) (c := .sliceAlen) hb
    simp [execOp, evS, hx, hz, Instr.sliceAt, Instr.slice, Instr.sliceBounds, run_und w (strTy_spec ht), e1, strB_size, strB_ext]⟩
theorem Val.subBHZ {x z : Operand} {t : TypeId} {l : List UInt8} {b : Int} (hx : evO m x = some (.string (strB l))) (hz : evO m z = some (.int .i64 b)) (ht : strTy P t = true) (hb : 0 ≤ b ∧ b ≤ l.length) :
    Val P w0 H m ty (.slice t x none (some z) none) (.string (strB (l.take b.toNat))) := by
  obtain ⟨b', rfl⟩ := Int.eq_ofNat_of_zero_le hb.1
  exact Val.subBH hx hz ht (by omega)
theorem Val.addB {x y : Operand} {t u : TypeId} {a b : List UInt8} (hx : evO m x = some (.string (strB a))) (hy : evO m y = some (.string (strB b))) (hl : a.length + b.length ≤ 9223372036854775807) : Val P w0 H m ty (.binOp .add t x y u) (.string (strB (a ++ b))) :=
  Val.binV hx hy (by simp) (by simp) (fun w => by
    have : ¬ (((strB a).size + (strB b).size : Nat) : Int) > IntKind.i64.max := by rw [strB_size, strB_size]; simp [IntKind.max, IntKind.signed, IntKind.bits]; omega
    simp only [binOp, Op.stringOp]
    rw [if_neg this, strB_app]
    rfl)
theorem Val.eqlBs {x y : Operand} {t u : TypeId} {a b : List UInt8} (hx : evO m x = some (.string (strB a))) (hy : evO m y = some (.string (strB b))) : Val P w0 H m ty (.binOp .eql t x y u) (.bool (decide (a = b))) := by
  have := Val.eqlS (P := P) (w0 := w0) (H := H) (ty := ty) (t := t) (u := u) hx hy
  simpa [strB_inj] using this
theorem Val.neqBs {x y : Operand} {t u : TypeId} {a b : List UInt8} (hx : evO m x = some (.string (strB a))) (hy : evO m y = some (.string (strB b))) : Val P w0 H m ty (.binOp .neq t x y u) (.bool (decide (a ≠ b))) := by
  have := Val.neqS (P := P) (w0 := w0) (H := H) (ty := ty) (t := t) (u := u) hx hy
  simpa [strB_inj] using this

def byteTy (P : Program) (t : TypeId) : Bool := match sliceElem P t with
  | some e => match P.underlying e with
    | some (.int .u8) => true
    | _ => false
  | none => false
theorem byteTy_spec {t : TypeId} (h : byteTy P t = true) : ∃ e, P.underlying t = some (.slice e) ∧ P.underlying e = some (.int .u8) ∧ sliceElem P t = some e := by
  unfold byteTy at h
  split at h
  · rename_i e he
    have : P.underlying t = some (.slice e) := by unfold sliceElem at he; split at he <;> simp_all
    split at h
    · rename_i h8; exact ⟨e, this, h8, he⟩
    · cases h
  · cases h
theorem foldl_toB : ∀ (l : List Int) (r : ByteArray), l.foldl (fun r n => r.push (UInt8.ofNat n.toNat)) r = ⟨r.data ++ (toB l).toArray⟩
  | [], r => by simp [toB]
  | b :: l, r => by
    simp only [List.foldl_cons]
    rw [foldl_toB l]
    simp [ByteArray.push, toB]
theorem flat_bE (l : List Int) : flat bE l = l.map (Value.int .u8) := by
  induction l with
  | nil => rfl
  | cons z l ih => rw [flat_cons, ih]; rfl
/-- string(b) -/
theorem Val.convBS {s t : TypeId} {x : Operand} {l : List Int} (hx : evO m x = some v) (hs : byteTy P s = true) (ht : strTy P t = true) (h : Sli w0 H bE v l) : Val P w0 H m ty (.convert s t x) (.string (strB (toB l))) :=
  ⟨by simp [covOp, cov, hx], fun w d pos af g hw => by
    obtain ⟨e, h1, h2, _⟩ := byteTy_spec hs
    have hS := h w hw
    obtain ⟨a, c, hv, _, _, hne⟩ := hS.shape
    subst hv
    have e0 : ByteArray.empty.data = #[] := rfl
    have key : (convert s t (.slice a l.length c)).run P w = .ok (.string (strB (toB l))) w := by
      rw [run_convert_bytes_string w s t e a l.length c h1 h2 (strTy_spec ht)]
      cases a with
      | none =>
        have : l = [] := by
          rcases l with _ | ⟨z, l⟩
          · rfl
          · obtain ⟨b, o, h⟩ := hne (by simp); cases h
        subst this
        rfl
      | some ad =>
        rcases Nat.eq_zero_or_pos l.length with h0 | h0
        · have : l = [] := List.eq_nil_of_length_eq_zero h0
          subst this
          have hl := run_loadCells_list (P := P) w ad [] (fun j u hj => by simp at hj)
          have := run_bytesToString w ad 0 c [] hl
          exact this
        · obtain ⟨b, o, hb⟩ := hne (by intro e; subst e; simp at h0)
          cases hb
          have hl := run_loadCells_list (P := P) w ⟨b, o, none⟩ (l.map (Value.int .u8)) (fun j u hj => by
            have hf : (flat bE l)[j]? = some u := by
              rw [flat_bE]; exact hj
            have := hS.row hf
            rw [add_mk]; exact this)
          simp only [List.length_map] at hl
          rw [run_bytesToString w ⟨b, o, none⟩ l.length c _ hl, foldl_toB, e0]
          simp [strB]
    simp [execOp, evS, hx, key]⟩
/-- []byte(s) -/
def BytesAt (P : Program) (w0 : World) (H : Heap) (t : TypeId) (l : List UInt8) (v : Value) (H' : Heap) : Prop := ∃ b arr e fr, H' = (b, .cells arr e fr) :: H ∧ Sli w0 H' bE v (ofB l)
theorem Eff.convSB {s t : TypeId} {x : Operand} {l : List UInt8} (hx : evO m x = some (.string (strB l))) (hs : strTy P s = true) (ht : byteTy P t = true) (hl : l.length ≤ maxLen) : Eff P w0 H m ty (.convert s t x) (BytesAt P w0 H t l) := by
  refine ⟨by simp [covOp, cov, hx], fun w d pos af g hw => ?_⟩
  obtain ⟨e, h1, h2, _⟩ := byteTy_spec ht
  have key := run_bytes_of_string (P := P) w s t e (strB l) (strTy_spec hs) h1 h2
  have e1 : (execOp (evS m) ⟨d, .convert s t x, ty, pos, af, g⟩).run P w = .ok (.value (.slice (some ⟨w.heap.size, 0, none⟩) (strB l).size (grownCap w (strB l).size 0 e)))
      (w.drew.alloc (.cells (bytesRow (strB l) (grownCap w (strB l).size 0 e)) e ((bytesRow (strB l) (grownCap w (strB l).size 0 e)).size, (bytesRow (strB l) (grownCap w (strB l).size 0 e)).size + 1))) := by
    simp [execOp, evS, hx, key]
  rw [e1]
  have hcap : grownCap w (strB l).size 0 e ≤ maxLen := grownCap_le_maxLen w _ _ e (by rw [strB_size]; exact hl)
  have hge : (strB l).size ≤ grownCap w (strB l).size 0 e := by unfold grownCap Question.cut; simp only; omega
  refine ⟨_, hw.drew.alloc _, w.drew.heap.size, _, e, _, rfl, fun w' hw' => ?_⟩
  have hb := hw'.get _ (.head _)
  refine ⟨⟨_, _, by rw [show (ofB l).length = (strB l).size by rw [strB_size]; simp [ofB]], by rw [show (ofB l).length = (strB l).size by rw [strB_size]; simp [ofB]]; exact hge, hcap, fun _ => ⟨_, _, rfl⟩⟩, ?_⟩
  intro i z hz j u hu
  have hj : j = 0 := by have := (List.getElem?_eq_some_iff.1 hu).1; simpa [bE] using this
  subst hj
  have hu' : u = .int .u8 z := by simpa [bE] using hu.symm
  subst hu'
  have hb' : w'.heap[w.heap.size]? = some (.cells (bytesRow (strB l) (grownCap w (strB l).size 0 e)) e ((bytesRow (strB l) (grownCap w (strB l).size 0 e)).size, (bytesRow (strB l) (grownCap w (strB l).size 0 e)).size + 1)) := hb
  simp only [adr, World.cell?, hb']
  obtain ⟨c, hc, rfl⟩ : ∃ c, l[i]? = some c ∧ z = (c.toNat : Int) := by
    unfold ofB at hz
    rw [List.getElem?_map] at hz
    obtain ⟨c, hc, e⟩ := Option.map_eq_some_iff.1 hz
    exact ⟨c, hc, e.symm⟩
  have hi := (List.getElem?_eq_some_iff.1 hc).1
  simp only [bytesRow, Option.isSome_none, Bool.false_eq_true, if_false]
  rw [Array.getElem?_append_left (by simp [strB, bE]; exact hi)]
  simp [strB, bE, hc]

theorem Val.sliceLZ {α : Type} {E : Enc α} {xs : List α} {t e : TypeId} {x y : Operand} {z : Int} (hx : evO m x = some v) (hy : evO m y = some (.int .i64 z)) (ht : sliceElem P t = some e) (hs : Sli w0 H E v xs) (hz : szOf P e = some E.sz) (hl : 0 ≤ z ∧ z ≤ xs.length) :
    Val P w0 H m ty (.slice t x (some y) none none) (subV v z.toNat xs.length E.sz) := by
  obtain ⟨l, rfl⟩ := Int.eq_ofNat_of_zero_le hl.1
  exact Val.sliceL hx hy ht hs hz (by omega)

/-! bits -/
theorem Val.shr {x y : Operand} {t u : TypeId} {k k' : IntKind} {a b : Int} (hx : evO m x = some (.int k a)) (hy : evO m y = some (.int k' b)) (hb : 0 ≤ b) : Val P w0 H m ty (.binOp .shr t x y u) (.int k (a.fdiv (2 ^ (min b.toNat k.bits)))) :=
  Val.bin hx hy (by simp [binOp, Op.shift, show ¬ b < 0 by omega])
theorem Val.shl {x y : Operand} {t u : TypeId} {k k' : IntKind} {a b : Int} (hx : evO m x = some (.int k a)) (hy : evO m y = some (.int k' b)) (hb : 0 ≤ b) : Val P w0 H m ty (.binOp .shl t x y u) (.int k (k.wrap (a * 2 ^ (min b.toNat k.bits)))) :=
  Val.bin hx hy (by simp [binOp, Op.shift, show ¬ b < 0 by omega])
def bitsOf (o : BinOp) (k : IntKind) (a b : Int) : Int := match o with
  | .and => k.wrap (BitVec.ofInt k.bits a &&& BitVec.ofInt k.bits b).toNat
  | .or => k.wrap (BitVec.ofInt k.bits a ||| BitVec.ofInt k.bits b).toNat
  | .xor => k.wrap (BitVec.ofInt k.bits a ^^^ BitVec.ofInt k.bits b).toNat
  | _ => k.wrap (BitVec.ofInt k.bits a &&& ~~~(BitVec.ofInt k.bits b)).toNat
theorem Val.or {x y : Operand} {t u : TypeId} {k : IntKind} {a b : Int} (hx : evO m x = some (.int k a)) (hy : evO m y = some (.int k b)) : Val P w0 H m ty (.binOp .or t x y u) (.int k (bitsOf .or k a b)) :=
  Val.bin hx hy (by simp [binOp, Op.intBits, bitsOf])
theorem Val.and {x y : Operand} {t u : TypeId} {k : IntKind} {a b : Int} (hx : evO m x = some (.int k a)) (hy : evO m y = some (.int k b)) : Val P w0 H m ty (.binOp .and t x y u) (.int k (bitsOf .and k a b)) :=
  Val.bin hx hy (by simp [binOp, Op.intBits, bitsOf])
theorem Val.xor {x y : Operand} {t u : TypeId} {k : IntKind} {a b : Int} (hx : evO m x = some (.int k a)) (hy : evO m y = some (.int k b)) : Val P w0 H m ty (.binOp .xor t x y u) (.int k (bitsOf .xor k a b)) :=
  Val.bin hx hy (by simp [binOp, Op.intBits, bitsOf])
theorem Val.andNot {x y : Operand} {t u : TypeId} {k : IntKind} {a b : Int} (hx : evO m x = some (.int k a)) (hy : evO m y = some (.int k b)) : Val P w0 H m ty (.binOp .andNot t x y u) (.int k (bitsOf .andNot k a b)) :=
  Val.bin hx hy (by simp [binOp, Op.intBits, bitsOf])

/-! min -/
theorem Val.min {x y : Operand} {ts : Array TypeId} {k k' : IntKind} {a b : Int} (hx : evO m x = some (.int k a)) (hy : evO m y = some (.int k' b)) : Val P w0 H m ty (.call { callee := .builtin .min, args := #[x, y], argTypes := ts }) (.int k (if b < a then b else a)) :=
  ⟨by simp [covOp, covCall, cov, hx, hy], fun w d pos af g _ => by
    simp [execOp, resolve, invoke, builtin, evS, hx, hy, Builtin.min_, Builtin.min2]⟩
theorem Val.max {x y : Operand} {ts : Array TypeId} {k k' : IntKind} {a b : Int} (hx : evO m x = some (.int k a)) (hy : evO m y = some (.int k' b)) : Val P w0 H m ty (.call { callee := .builtin .max, args := #[x, y], argTypes := ts }) (.int k (if a < b then b else a)) :=
  ⟨by simp [covOp, covCall, cov, hx, hy], fun w d pos af g _ => by
    simp [execOp, resolve, invoke, builtin, evS, hx, hy, Builtin.max_, Builtin.max2]⟩

/-! structs that are compared -/
def intTy (P : Program) (t : TypeId) : Bool := match P.underlying t with
  | some (.int _) => true
  | _ => false
mutual
inductive EqV (P : Program) : Nat → TypeId → Value → Value → Bool → Prop
  | int {d : Nat} {t : TypeId} {k : IntKind} {a b : Int} : intTy P t = true → EqV P (d + 1) t (.int k a) (.int k b) (decide (a = b))
  | bool {d : Nat} {t : TypeId} {a b : Bool} : boolB P t = true → EqV P (d + 1) t (.bool a) (.bool b) (a == b)
  | agg {d : Nat} {t : TypeId} {xs ys : List Value} {fs : List Field} {r : Bool} : P.underlying t = some (.struct (P.fieldsOf t)) → P.stoodInHeld t = false → (P.fieldsOf t).toList = fs → EqF P d xs ys fs r → EqV P (d + 1) t (.agg xs.toArray) (.agg ys.toArray) r
inductive EqF (P : Program) : Nat → List Value → List Value → List Field → Bool → Prop
  | nil {d : Nat} {xs ys : List Value} : EqF P d xs ys [] true
  | one {d : Nat} {xs ys : List Value} {f : Field} {fs : List Field} {a b : Value} {r s : Bool} : decide (f.name ≠ "_") = true → oneB P f.type = true → xs[f.offset]? = some a → ys[f.offset]? = some b → EqV P d f.type a b r → EqF P d xs ys fs s → EqF P d xs ys (f :: fs) (r && s)
  | sub {d z : Nat} {xs ys as bs : List Value} {f : Field} {fs : List Field} {r s : Bool} : decide (f.name ≠ "_") = true → aggB P f.type = true → szOf P f.type = some z → Seg xs f.offset z as → Seg ys f.offset z bs → EqV P d f.type (.agg as.toArray) (.agg bs.toArray) r → EqF P d xs ys fs s → EqF P d xs ys (f :: fs) (r && s)
end

theorem eqF_run {d : Nat} (ih : ∀ {t : TypeId} {a b : Value} {r : Bool}, EqV P d t a b r → ∀ w, (Op.equalIn d t a b).run P w = .ok r w) {xs ys : List Value} : ∀ {fs : List Field} {r : Bool}, EqF P d xs ys fs r → ∀ w, (Op.eqFields d xs.toArray ys.toArray fs).run P w = .ok r w := by
  intro fs
  induction fs with
  | nil => intro r h w; cases h; simp [Op.eqFields]
  | cons f fs ihf =>
    intro r h w
    cases h with
    | @one _ _ _ _ _ a b r s hn h1 ha hb hv hr =>
      have hn' : f.name ≠ "_" := by simpa using hn
      have p1 := run_part1 (P := P) w (cs := xs.toArray) (off := f.offset) h1 (by simpa using ha)
      have p2 := run_part1 (P := P) w (cs := ys.toArray) (off := f.offset) h1 (by simpa using hb)
      have p3 := ih hv w
      have p4 := ihf hr w
      simp only [Op.eqFields, hn', ne_eq, not_false_eq_true, if_true, Sem.run_bind, p1, p2, p3, Result.andThen]
      cases r <;> simp [p4]
    | @sub _ z _ _ as bs _ _ r s hn h1 hz hs1 hs2 hv hr =>
      have hn' : f.name ≠ "_" := by simpa using hn
      have e1 : xs.toArray.extract f.offset (f.offset + z) = as.toArray := by
        have := hs1.eq.1
        simp [List.extract_eq_take_drop, ← this]
      have e2 : ys.toArray.extract f.offset (f.offset + z) = bs.toArray := by
        have := hs2.eq.1
        simp [List.extract_eq_take_drop, ← this]
      have p1 := run_partN (P := P) w (cs := xs.toArray) (off := f.offset) h1 hz
      have p2 := run_partN (P := P) w (cs := ys.toArray) (off := f.offset) h1 hz
      rw [e1] at p1
      rw [e2] at p2
      have p3 := ih hv w
      have p4 := ihf hr w
      simp only [Op.eqFields, hn', ne_eq, not_false_eq_true, if_true, Sem.run_bind, p1, p2, p3, Result.andThen]
      cases r <;> simp [p4]
theorem eqV_run : ∀ (d : Nat) {t : TypeId} {a b : Value} {r : Bool}, EqV P d t a b r → ∀ w, (Op.equalIn d t a b).run P w = .ok r w := by
  intro d
  induction d with
  | zero => intro t a b r h; cases h
  | succ d ih =>
    intro t a b r h w
    cases h with
    | int ht =>
      unfold intTy at ht
      split at ht
      · rename_i k' hu
        rw [Op.equalIn.eq_2, Sem.run_bind, run_und w hu]
        simp [Result.andThen, beq_dec]
      · cases ht
    | bool ht =>
      unfold boolB at ht
      split at ht
      · rename_i hu
        rw [Op.equalIn.eq_2, Sem.run_bind, run_und w hu]; rfl
      · cases ht
    | agg hu hs hf hr =>
      rw [run_equalIn_struct w d t _ _ hu hs, hf]
      exact eqF_run ih hr w
theorem Val.neqA {t u : TypeId} {x y : Operand} {xs ys : List Value} {r : Bool} (hx : evO m x = some (.agg xs.toArray)) (hy : evO m y = some (.agg ys.toArray)) (hg : P.eqGuardType P.depth t = false) (h : EqV P (9999 + 1) t (.agg xs.toArray) (.agg ys.toArray) r) : Val P w0 H m ty (.binOp .neq t x y u) (.bool (!r)) :=
  ⟨by simp [covOp, cov, hx, hy], fun w d pos af g _ => by
    have e1 := run_eqGuard_agg (P := P) w .neq t x y xs.toArray ys.toArray hg
    have e2 := eqV_run _ h w
    simp [execOp, evS, hx, hy, e1, binOp, equal_unf, e2]⟩
theorem Val.eqlA {t u : TypeId} {x y : Operand} {xs ys : List Value} {r : Bool} (hx : evO m x = some (.agg xs.toArray)) (hy : evO m y = some (.agg ys.toArray)) (hg : P.eqGuardType P.depth t = false) (h : EqV P (9999 + 1) t (.agg xs.toArray) (.agg ys.toArray) r) : Val P w0 H m ty (.binOp .eql t x y u) (.bool r) :=
  ⟨by simp [covOp, cov, hx, hy], fun w d pos af g _ => by
    have e1 := run_eqGuard_agg (P := P) w .eql t x y xs.toArray ys.toArray hg
    have e2 := eqV_run _ h w
    simp [execOp, evS, hx, hy, e1, binOp, equal_unf, e2]⟩
theorem Val.isB {op : Op} {r b : Bool} (h : Val P w0 H m ty op (.bool r)) (hr : r = b) : Val P w0 H m ty op (.bool b) := by rw [hr] at h; exact h
theorem Val.neqAE {t u : TypeId} {x y : Operand} {xs ys : List Value} {r : Bool} (hx : evO m x = some (.agg xs.toArray)) (hy : evO m y = some (.agg ys.toArray)) (hg : P.eqGuardType P.depth t = false) (h : EqV P (9999 + 1) t (.agg xs.toArray) (.agg ys.toArray) r) (hr : r = true) : Val P w0 H m ty (.binOp .neq t x y u) (.bool false) :=
  Val.isB (Val.neqA hx hy hg h) (by rw [hr]; rfl)
theorem Val.neqAN {t u : TypeId} {x y : Operand} {xs ys : List Value} {r : Bool} (hx : evO m x = some (.agg xs.toArray)) (hy : evO m y = some (.agg ys.toArray)) (hg : P.eqGuardType P.depth t = false) (h : EqV P (9999 + 1) t (.agg xs.toArray) (.agg ys.toArray) r) (hr : r = false) : Val P w0 H m ty (.binOp .neq t x y u) (.bool true) :=
  Val.isB (Val.neqA hx hy hg h) (by rw [hr]; rfl)
theorem Val.eqlAE {t u : TypeId} {x y : Operand} {xs ys : List Value} {r : Bool} (hx : evO m x = some (.agg xs.toArray)) (hy : evO m y = some (.agg ys.toArray)) (hg : P.eqGuardType P.depth t = false) (h : EqV P (9999 + 1) t (.agg xs.toArray) (.agg ys.toArray) r) (hr : r = true) : Val P w0 H m ty (.binOp .eql t x y u) (.bool true) :=
  Val.isB (Val.eqlA hx hy hg h) hr
theorem Val.eqlAN {t u : TypeId} {x y : Operand} {xs ys : List Value} {r : Bool} (hx : evO m x = some (.agg xs.toArray)) (hy : evO m y = some (.agg ys.toArray)) (hg : P.eqGuardType P.depth t = false) (h : EqV P (9999 + 1) t (.agg xs.toArray) (.agg ys.toArray) r) (hr : r = false) : Val P w0 H m ty (.binOp .eql t x y u) (.bool false) :=
  Val.isB (Val.eqlA hx hy hg h) hr
end
end Go.Proofs.YthamkgghnjenhaaGreat
namespace Go.Proofs.YthamkgghnjenhaaGreat
open Go.RowKit Go.ChangeShapes Go.WideShapes
set_option linter.unusedVariables false
set_option autoImplicit false
theorem byTake {G : Prop} (h : G := by first | ((repeat (first | exact Take.head | with_reducible apply Take.tail | apply Take.app)) <;> fail) | fail) : G := h
theorem byTakeL {G : Prop} (h : G := by first | ((repeat (first | exact TakeL.head | exact TakeL.whole | with_reducible apply TakeL.tail | apply TakeL.app)) <;> fail) | fail) : G := h
theorem byEvL {G : Prop} (h : G := by first | ((repeat (first | exact EvL.nil | (apply EvL.cons; (· exact rfl)))) <;> fail) | fail) : G := h
theorem bySeg {G : Prop} (h : G := by first | ((repeat (first | exact Seg.nil | apply Seg.cons | apply Seg.next)) <;> fail) | fail) : G := h
theorem byParts {G : Prop} (h : G := by first | ((repeat (first | exact Parts.nil | (apply Parts.cons; (· exact rfl)))) <;> fail) | fail) : G := h
theorem bySetAt {G : Prop} (h : G := by first | ((repeat (first | exact SetAt.here | apply SetAt.next)) <;> fail) | fail) : G := h
theorem byLay {G : Prop} (h : G := by first | ((repeat (first | exact Lay.nil | apply Lay.cons | apply Lay.next)) <;> fail) | fail) : G := h
theorem byOnes {G : Prop} (h : G := by first | rfl | (simp only [List.all_cons, List.all_nil, Bool.and_true, Bool.and_eq_true]; (repeat' apply And.intro) <;> first | rfl | exact oV_one _ _ | exact SlW.one (by assumption) | assumption)) : G := h
theorem byOne {G : Prop} (h : G := by first | rfl | exact oV_one _ _ | exact SlW.one (by assumption) | assumption) : G := h
theorem byFill {G : Prop} (h : G := by first | ((repeat (first | exact Fill.nil | (apply Fill.one; (· exact rfl); (· exact byOne); (· exact bySetAt)) | (apply Fill.agg; (· exact rfl); (· exact rfl); (· exact byLay)))) <;> fail) | fail) : G := h
theorem byLen {G : Prop} (h : G := by first | rfl | assumption | (simp <;> fail) | (simp; omega) | omega) : G := h
theorem byLt {G : Prop} (h : G := by first | assumption | omega) : G := h
theorem bySub {G : Prop} (h : G := by first | ((repeat (first | exact trivial | refine And.intro ⟨_, rfl, (by first | rfl | (dsimp only; first | rfl | (congr 1; omega) | (simp <;> fail) | (congr 1; simp <;> fail) | (congr 1; simp; omega) | (congr 2; simp; omega)) | (congr 1; omega) | (simp <;> fail) | (congr 1; simp <;> fail) | (congr 1; simp; omega) | (congr 2; simp; omega))⟩ ?_)) <;> fail) | fail) : G := h
theorem byPart {G : Prop} (h : G := by first | ((repeat (first | exact Part.all | (apply Part.takeA; (· exact byTakeL)) | apply Part.assoc | (apply Part.take; (· exact byTake)) | exact Part.lastA byTakeL | apply Part.drop | apply Part.dropA | exact Part.nil)) <;> fail) | fail) : G := h
theorem bySli {G : Prop} (h : G := by first | exact Sli.old (by assumption) | exact Sli.own byTakeL (by assumption) byLen | assumption | exact Sli.part (by assumption) byPart) : G := h
theorem bySee {G : Prop} (h : G := by first | exact Sees.cell byTake rfl | exact Sees.sl bySli (by assumption) rfl | exact Sees.sl0 bySli (by assumption) rfl | exact Sees.old (by assumption) | assumption) : G := h
theorem bySeeN {G : Prop} (h : G := by first | exact SeesN.own byTake bySeg | assumption) : G := h
theorem bySeeA {G : Prop} (h : G := by first | exact SeesA.sl bySli (by assumption) | assumption) : G := h
theorem byMarks {G : Prop} (h : G := by first | ((repeat (first | exact Marks.nil | (apply Marks.cons; (· exact byTake)))) <;> fail) | fail) : G := h
theorem byRes {G : Prop} (h : G := by first | ((repeat (first | exact ResV.nil | (apply ResV.tmp; (· exact rfl)) | (apply ResV.cell; (· exact rfl); (· exact rfl); (· exact bySee)) | (apply ResV.cellN; (· exact rfl); (· exact rfl); (· exact rfl); (· exact bySeeN)))) <;> fail) | fail) : G := h
theorem byEqv {G : Prop} (h : G := by first | ((repeat (first | exact EqF.nil | exact EqV.int rfl | exact EqV.bool rfl | (apply EqV.agg; (· kernel_rfl); (· kernel_rfl); (· exact rfl)) | (apply EqF.one; (· exact rfl); (· exact rfl); (· exact rfl); (· exact rfl)) | (apply EqF.sub; (· exact rfl); (· exact rfl); (· exact rfl); (· exact bySeg); (· exact bySeg)))) <;> fail) | fail) : G := h
theorem byCode {G G' : Prop} (k : G') (h : G' → G := by intro k; (repeat (first | refine KE.next ?_ | refine KE.passX ?_ | refine KE.passR ?_ | refine KE.blkN ?_ | refine KE.blkR ?_ | refine KE.blkX ?_ | refine KE.blkO rfl ?_ | refine K.skip ?_ | refine K.exit ?_ | refine K.ret ?_ | refine K.seq (K.region ?_) | refine K.region ?_ | refine K.seq (K.seq (K.region ?_)) | refine K.condT rfl ?_ | refine K.condF rfl ?_ | refine K.seq (K.condT rfl ?_) | refine K.seq (K.condF rfl ?_))); exact k) : G := h k
theorem byCodeD {G G' : Prop} (k : G') (h : G' → G := by intro k; (repeat (first | refine KE.next ?_ | refine KE.passX ?_ | refine KE.passR ?_ | refine KE.blkN ?_ | refine KE.blkR ?_ | refine KE.blkX ?_ | refine KE.blkO rfl ?_ | refine K.skip ?_ | refine K.exit ?_ | refine K.ret ?_ | refine K.condT rfl ?_ | refine K.condF rfl ?_ | refine K.seq (K.condT rfl ?_) | refine K.seq (K.condF rfl ?_))); exact k) : G := h k
theorem byBlk {G G' : Prop} (k : G') (h : G' → G := by intro k; ((repeat (refine KE.next ?_)); (first | refine K.block ?_ | refine K.seq (K.block ?_))); exact k) : G := h k
end Go.Proofs.YthamkgghnjenhaaGreat
