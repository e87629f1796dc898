/- The walker and the contracts that the law needs, part 12. -/
import Derived.Laws.IdiomStrings
import Derived.Laws.StructEq
import Derived.Test.YtalholahapcpkaaGreatDoorJ11
namespace Go.Proofs.YtalholahapcpkaaGreatDoor
open Go.RowKit
set_option linter.unusedVariables false
set_option linter.unusedSimpArgs false
def strB (l : List UInt8) : ByteArray := ⟨l.toArray⟩
theorem strB_inj {a b : List UInt8} : strB a = strB b ↔ a = b := by
 constructor
 ·intro h
  have := congrArg (fun s => s.data.toList) h
  simpa [strB] using this
 ·rintro rfl; rfl
def bE : Enc Int := ⟨fun z => [.int .u8 z], 1, fun _ => rfl, by intro x v hv; simp at hv; subst hv; rfl⟩
section
variable {P : Program} {w0 : World} {m : Slots} {H F : Heap} {ty : TypeId} {v : Value}
theorem Val.eqlBs {x y : Operand} {t u : TypeId} {a b : List UInt8} (hx : evO m x = some (.string (strB a))) (hy : evO m y = some (.string (strB b))) : Val P w0 H m ty (.binOp .eql t x y u) (.bool (decide (a = b))) := by
 have := Val.eqlS (P := P) (w0 := w0) (H := H) (ty := ty) (t := t) (u := u) hx hy
 simpa [strB_inj] using this
theorem Val.neqBs {x y : Operand} {t u : TypeId} {a b : List UInt8} (hx : evO m x = some (.string (strB a))) (hy : evO m y = some (.string (strB b))) : Val P w0 H m ty (.binOp .neq t x y u) (.bool (decide (a ≠ b))) := by
 have := Val.neqS (P := P) (w0 := w0) (H := H) (ty := ty) (t := t) (u := u) hx hy
 simpa [strB_inj] using this
theorem Val.sliceLZ {α : Type} {E : Enc α} {xs : List α} {t e : TypeId} {x y : Operand} {z : Int} (hx : evO m x = some v) (hy : evO m y = some (.int .i64 z)) (ht : sliceElem P t = some e) (hs : Sli w0 H E v xs) (hz : szOf P e = some E.sz) (hl : 0 ≤ z ∧ z ≤ xs.length) :
  Val P w0 H m ty (.slice t x (some y) none none) (subV v z.toNat xs.length E.sz) := by
 obtain ⟨l, rfl⟩ := Int.eq_ofNat_of_zero_le hl.1
 exact Val.sliceL hx hy ht hs hz (by omega)
theorem Val.shr {x y : Operand} {t u : TypeId} {k k' : IntKind} {a b : Int} (hx : evO m x = some (.int k a)) (hy : evO m y = some (.int k' b)) (hb : 0 ≤ b) : Val P w0 H m ty (.binOp .shr t x y u) (.int k (a.fdiv (2 ^ (min b.toNat k.bits)))) :=
 Val.bin hx hy (by simp [binOp, Op.shift, show ¬ b < 0 by omega])
theorem Val.shl {x y : Operand} {t u : TypeId} {k k' : IntKind} {a b : Int} (hx : evO m x = some (.int k a)) (hy : evO m y = some (.int k' b)) (hb : 0 ≤ b) : Val P w0 H m ty (.binOp .shl t x y u) (.int k (k.wrap (a * 2 ^ (min b.toNat k.bits)))) :=
 Val.bin hx hy (by simp [binOp, Op.shift, show ¬ b < 0 by omega])
def bitsOf (o : BinOp) (k : IntKind) (a b : Int) : Int := match o with
 | .and => k.wrap (BitVec.ofInt k.bits a &&& BitVec.ofInt k.bits b).toNat
 | .or => k.wrap (BitVec.ofInt k.bits a ||| BitVec.ofInt k.bits b).toNat
 | .xor => k.wrap (BitVec.ofInt k.bits a ^^^ BitVec.ofInt k.bits b).toNat
 | _ => k.wrap (BitVec.ofInt k.bits a &&& ~~~(BitVec.ofInt k.bits b)).toNat
theorem Val.or {x y : Operand} {t u : TypeId} {k : IntKind} {a b : Int} (hx : evO m x = some (.int k a)) (hy : evO m y = some (.int k b)) : Val P w0 H m ty (.binOp .or t x y u) (.int k (bitsOf .or k a b)) :=
 Val.bin hx hy (by simp [binOp, Op.intBits, bitsOf])
theorem Val.and {x y : Operand} {t u : TypeId} {k : IntKind} {a b : Int} (hx : evO m x = some (.int k a)) (hy : evO m y = some (.int k b)) : Val P w0 H m ty (.binOp .and t x y u) (.int k (bitsOf .and k a b)) :=
 Val.bin hx hy (by simp [binOp, Op.intBits, bitsOf])
theorem Val.xor {x y : Operand} {t u : TypeId} {k : IntKind} {a b : Int} (hx : evO m x = some (.int k a)) (hy : evO m y = some (.int k b)) : Val P w0 H m ty (.binOp .xor t x y u) (.int k (bitsOf .xor k a b)) :=
 Val.bin hx hy (by simp [binOp, Op.intBits, bitsOf])
theorem Val.andNot {x y : Operand} {t u : TypeId} {k : IntKind} {a b : Int} (hx : evO m x = some (.int k a)) (hy : evO m y = some (.int k b)) : Val P w0 H m ty (.binOp .andNot t x y u) (.int k (bitsOf .andNot k a b)) :=
 Val.bin hx hy (by simp [binOp, Op.intBits, bitsOf])
theorem Val.min {x y : Operand} {ts : Array TypeId} {k k' : IntKind} {a b : Int} (hx : evO m x = some (.int k a)) (hy : evO m y = some (.int k' b)) : Val P w0 H m ty (.call { callee := .builtin .min, args := #[x, y], argTypes := ts }) (.int k (if b < a then b else a)) :=
 ⟨by simp [covOp, covCall, cov, hx, hy], fun w d pos af g _ => by
  simp [execOp, resolve, invoke, builtin, evS, hx, hy, Builtin.min_, Builtin.min2]⟩
theorem Val.max {x y : Operand} {ts : Array TypeId} {k k' : IntKind} {a b : Int} (hx : evO m x = some (.int k a)) (hy : evO m y = some (.int k' b)) : Val P w0 H m ty (.call { callee := .builtin .max, args := #[x, y], argTypes := ts }) (.int k (if a < b then b else a)) :=
 ⟨by simp [covOp, covCall, cov, hx, hy], fun w d pos af g _ => by
  simp [execOp, resolve, invoke, builtin, evS, hx, hy, Builtin.max_, Builtin.max2]⟩
def intTy (P : Program) (t : TypeId) : Bool := match P.underlying t with
 | some (.int _) => true
 | _ => false
mutual
inductive EqV (P : Program) : Nat → TypeId → Value → Value → Bool → Prop
 | int {d : Nat} {t : TypeId} {k : IntKind} {a b : Int} : intTy P t = true → EqV P (d + 1) t (.int k a) (.int k b) (decide (a = b))
 | bool {d : Nat} {t : TypeId} {a b : Bool} : boolB P t = true → EqV P (d + 1) t (.bool a) (.bool b) (a == b)
 | agg {d : Nat} {t : TypeId} {xs ys : List Value} {fs : List Field} {r : Bool} : P.underlying t = some (.struct (P.fieldsOf t)) → P.stoodInHeld t = false → (P.fieldsOf t).toList = fs → EqF P d xs ys fs r → EqV P (d + 1) t (.agg xs.toArray) (.agg ys.toArray) r
inductive EqF (P : Program) : Nat → List Value → List Value → List Field → Bool → Prop
 | nil {d : Nat} {xs ys : List Value} : EqF P d xs ys [] true
 | one {d : Nat} {xs ys : List Value} {f : Field} {fs : List Field} {a b : Value} {r s : Bool} : decide (f.name ≠ "_") = true → oneB P f.type = true → xs[f.offset]? = some a → ys[f.offset]? = some b → EqV P d f.type a b r → EqF P d xs ys fs s → EqF P d xs ys (f :: fs) (r && s)
 | sub {d z : Nat} {xs ys as bs : List Value} {f : Field} {fs : List Field} {r s : Bool} : decide (f.name ≠ "_") = true → aggB P f.type = true → szOf P f.type = some z → Seg xs f.offset z as → Seg ys f.offset z bs → EqV P d f.type (.agg as.toArray) (.agg bs.toArray) r → EqF P d xs ys fs s → EqF P d xs ys (f :: fs) (r && s)
end
end
open Go.RowKit Go.ChangeShapes Go.WideShapes
set_option autoImplicit false
theorem byTake {G : Prop} (h : G := by first | ((repeat (first | exact Take.head | with_reducible apply Take.tail | apply Take.app)) <;> fail) | fail) : G := h
theorem byTakeL {G : Prop} (h : G := by first | ((repeat (first | exact TakeL.head | exact TakeL.whole | with_reducible apply TakeL.tail | apply TakeL.app)) <;> fail) | fail) : G := h
theorem byEvL {G : Prop} (h : G := by first | ((repeat (first | exact EvL.nil | (apply EvL.cons; (· exact rfl)))) <;> fail) | fail) : G := h
theorem bySeg {G : Prop} (h : G := by first | ((repeat (first | exact Seg.nil | apply Seg.cons | apply Seg.next)) <;> fail) | fail) : G := h
theorem byParts {G : Prop} (h : G := by first | ((repeat (first | exact Parts.nil | (apply Parts.cons; (· exact rfl)))) <;> fail) | fail) : G := h
theorem bySetAt {G : Prop} (h : G := by first | ((repeat (first | exact SetAt.here | apply SetAt.next)) <;> fail) | fail) : G := h
theorem byLay {G : Prop} (h : G := by first | ((repeat (first | exact Lay.nil | apply Lay.cons | apply Lay.next)) <;> fail) | fail) : G := h
theorem byOnes {G : Prop} (h : G := by first | rfl | (simp only [List.all_cons, List.all_nil, Bool.and_true, Bool.and_eq_true]; (repeat' apply And.intro) <;> first | rfl | exact oV_one _ _ | exact SlW.one (by assumption) | assumption)) : G := h
theorem byOne {G : Prop} (h : G := by first | rfl | exact oV_one _ _ | exact SlW.one (by assumption) | assumption) : G := h
theorem byFill {G : Prop} (h : G := by first | ((repeat (first | exact Fill.nil | (apply Fill.one; (· exact rfl); (· exact byOne); (· exact bySetAt)) | (apply Fill.agg; (· exact rfl); (· exact rfl); (· exact byLay)))) <;> fail) | fail) : G := h
theorem byLen {G : Prop} (h : G := by first | rfl | assumption | (simp <;> fail) | (simp; omega) | omega) : G := h
theorem byLt {G : Prop} (h : G := by first | assumption | omega) : G := h
theorem bySub {G : Prop} (h : G := by first | ((repeat (first | exact trivial | refine And.intro ⟨_, rfl, (by first | rfl | (dsimp only; first | rfl | (congr 1; omega) | (simp <;> fail) | (congr 1; simp <;> fail) | (congr 1; simp; omega) | (congr 2; simp; omega)) | (congr 1; omega) | (simp <;> fail) | (congr 1; simp <;> fail) | (congr 1; simp; omega) | (congr 2; simp; omega))⟩ ?_)) <;> fail) | fail) : G := h
theorem byPart {G : Prop} (h : G := by first | ((repeat (first | exact Part.all | (apply Part.takeA; (· exact byTakeL)) | apply Part.assoc | (apply Part.take; (· exact byTake)) | exact Part.lastA byTakeL | apply Part.drop | apply Part.dropA | exact Part.nil)) <;> fail) | fail) : G := h
theorem bySli {G : Prop} (h : G := by first | exact Sli.old (by assumption) | exact Sli.own byTakeL (by assumption) byLen | assumption | exact Sli.part (by assumption) byPart) : G := h
theorem bySee {G : Prop} (h : G := by first | exact Sees.cell byTake rfl | exact Sees.sl bySli (by assumption) rfl | exact Sees.sl0 bySli (by assumption) rfl | exact Sees.old (by assumption) | assumption) : G := h
theorem bySeeN {G : Prop} (h : G := by first | exact SeesN.own byTake bySeg | assumption) : G := h
theorem bySeeA {G : Prop} (h : G := by first | exact SeesA.sl bySli (by assumption) | assumption) : G := h
theorem byMarks {G : Prop} (h : G := by first | ((repeat (first | exact Marks.nil | (apply Marks.cons; (· exact byTake)))) <;> fail) | fail) : G := h
theorem byRes {G : Prop} (h : G := by first | ((repeat (first | exact ResV.nil | (apply ResV.tmp; (· exact rfl)) | (apply ResV.cell; (· exact rfl); (· exact rfl); (· exact bySee)) | (apply ResV.cellN; (· exact rfl); (· exact rfl); (· exact rfl); (· exact bySeeN)))) <;> fail) | fail) : G := h
theorem byCode {G G' : Prop} (k : G') (h : G' → G := by intro k; (repeat (first | refine KE.next ?_ | refine KE.passX ?_ | refine KE.passR ?_ | refine KE.blkN ?_ | refine KE.blkR ?_ | refine KE.blkX ?_ | refine KE.blkO rfl ?_ | refine K.skip ?_ | refine K.exit ?_ | refine K.ret ?_ | refine K.seq (K.region ?_) | refine K.region ?_ | refine K.seq (K.seq (K.region ?_)) | refine K.condT rfl ?_ | refine K.condF rfl ?_ | refine K.seq (K.condT rfl ?_) | refine K.seq (K.condF rfl ?_))); exact k) : G := h k
theorem byCodeD {G G' : Prop} (k : G') (h : G' → G := by intro k; (repeat (first | refine KE.next ?_ | refine KE.passX ?_ | refine KE.passR ?_ | refine KE.blkN ?_ | refine KE.blkR ?_ | refine KE.blkX ?_ | refine KE.blkO rfl ?_ | refine K.skip ?_ | refine K.exit ?_ | refine K.ret ?_ | refine K.condT rfl ?_ | refine K.condF rfl ?_ | refine K.seq (K.condT rfl ?_) | refine K.seq (K.condF rfl ?_))); exact k) : G := h k
end Go.Proofs.YtalholahapcpkaaGreatDoor
