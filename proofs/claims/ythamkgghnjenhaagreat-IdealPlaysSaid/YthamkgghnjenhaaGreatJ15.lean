/- The K walker: floats: sums up to which NaN, comparison with itself. The K walker: functions as values, interfaces that hold maps, copies of maps. -/
import Derived.Laws.FloatArith
import Derived.Laws.NewFold
import Derived.Test.YthamkgghnjenhaaGreatJ14
namespace Go.Proofs.YthamkgghnjenhaaGreat
open Go.RowKit
set_option linter.unusedVariables false
set_option linter.unusedSimpArgs false

/-- a float of 64 bits, all NaNs alike -/
def fl (b : Nat) : Option Nat := if (Ieee.double.read b).isNaN then none else some b
def addF : Option Nat → Option Nat → Option Nat
  | some x, some y => (Ieee.double.add x y).bind fl
  | _, _ => none
theorem fl_some {b c : Nat} (h : fl b = some c) : c = b := by
  unfold fl at h; split at h
  · cases h
  · cases h; rfl
theorem add_nan {x y : Nat} (h : fl x = none ∨ fl y = none) : Ieee.double.add x y = none := by
  unfold fl at h
  unfold Ieee.Format.add
  rcases h with h | h
  · split at h
    · rename_i hn
      cases hx : Ieee.double.read x <;> rw [hx] at hn <;> simp [Ieee.Datum.isNaN] at hn
      simp [Ieee.Datum.sum]
    · cases h
  · split at h
    · rename_i hn
      cases hx : Ieee.double.read y <;> rw [hx] at hn <;> simp [Ieee.Datum.isNaN] at hn
      cases Ieee.double.read x <;> simp [Ieee.Datum.sum]
    · cases h
theorem addF_eq (x y : Nat) : addF (fl x) (fl y) = (Ieee.double.add x y).bind fl := by
  cases hx : fl x with
  | none => rw [add_nan (.inl hx)]; rfl
  | some a =>
    cases hy : fl y with
    | none => rw [add_nan (.inr hy)]; rfl
    | some b => rw [fl_some hx, fl_some hy]; rfl
theorem read_nan (b : Nat) : (Ieee.double.read b).isNaN = decide (9218868437227405312 < b % 9223372036854775808) := by
  have h1 : Ieee.double.signWeight = 9223372036854775808 := by decide
  have h2 : Ieee.double.infRung = 9218868437227405312 := by decide
  have h3 : Ieee.double.binade = 4503599627370496 := by decide
  unfold Ieee.Format.read
  rw [h1, h2, h3]
  dsimp only
  split
  · rename_i h; simp [Ieee.Datum.isNaN]; omega
  · split
    · rename_i h; simp [Ieee.Datum.isNaN]; omega
    · split
      · rename_i h; simp [Ieee.Datum.isNaN]; omega
      · simp [Ieee.Datum.isNaN]; omega
theorem fl_none {b : Nat} : fl b = none ↔ 9218868437227405312 < b % 9223372036854775808 := by
  unfold fl; rw [read_nan]; simp
theorem order_self (b : Nat) : (Ieee.double.order b b == some .eq) = (fl b).isSome := by
  unfold Ieee.Format.order fl
  cases h : Ieee.double.read b with
  | number s m p => simp [Ieee.Datum.order, Ieee.Datum.isNaN]
  | infinity s => simp [Ieee.Datum.order, Ieee.Datum.isNaN]
  | nan s f => simp [Ieee.Datum.order, Ieee.Datum.isNaN]
section
variable {P : Program} {w0 : World} {H F : Heap} {m : Slots} {ty : TypeId}
theorem Eff.fadd {t u : TypeId} {x y : Operand} {a b : Nat} (hx : evO m x = some (.float .f64 a)) (hy : evO m y = some (.float .f64 b)) :
    Eff P w0 H m ty (.binOp .add t x y u) (fun v H' => ∃ r, r < 18446744073709551616 ∧ fl r = addF (fl a) (fl b) ∧ v = .float .f64 r ∧ H' = H) :=
  ⟨by simp [covOp, cov, hx, hy], fun w d pos af g hw => by
    have hg : eqGuard .add t x y (.float .f64 a) (.float .f64 b) = pure () := eqGuard_pure (by simp) (by simp)
    rw [addF_eq]
    cases ha : Ieee.double.add a b with
    | some r =>
      have e : (execOp (evS m) ⟨d, .binOp .add t x y u, ty, pos, af, g⟩).run P w = .ok (.value (.float .f64 r)) w := by
        have h2 : FloatKind.f64.format.add a b = some r := ha
        simp [execOp, evS, hx, hy, hg, binOp, Op.floatArith, h2]
      rw [e]
      exact ⟨H, hw, r, Ieee.double.add_lt ha, rfl, rfl, rfl⟩
    | none =>
      obtain ⟨t', ht'⟩ : ∃ t', t' = w.tape w.drawn (.nanBits .f64 a b) := ⟨_, rfl⟩
      have e : (execOp (evS m) ⟨d, .binOp .add t x y u, ty, pos, af, g⟩).run P w = .ok (.value (.float .f64 ((Question.nanBits .f64 a b).cut t'))) w.drew := by
        have h2 : FloatKind.f64.format.add a b = none := ha
        simp [execOp, evS, hx, hy, hg, binOp, Op.floatArith, h2, run_choose_drew, Question.forced, ht']
      rw [e]
      refine ⟨H, hw.drew, _, ?_, ?_, rfl, rfl⟩
      · simp only [Question.cut]; omega
      · simp only [Option.bind_none, fl_none, Question.cut]
        have h1 : t' % 2 < 2 := Nat.mod_lt _ (by omega)
        have h2 : t' / 2 % (2 ^ 52 - 1) < 2 ^ 52 - 1 := Nat.mod_lt _ (by omega)
        generalize t' / 2 % (2 ^ 52 - 1) = q at h2
        rcases (by omega : t' % 2 = 0 ∨ t' % 2 = 1) with h | h <;> rw [h] <;> omega⟩
theorem Val.neqFS {t u : TypeId} {x y : Operand} {a : Nat} (hx : evO m x = some (.float .f64 a)) (hy : evO m y = some (.float .f64 a)) : Val P w0 H m ty (.binOp .neq t x y u) (.bool (fl a).isNone) :=
  Val.binV hx hy (by simp) (by simp) (fun w => by
    have := order_self a
    have h2 : (FloatKind.f64.format.order a a != some .eq) = (fl a).isNone := by
      show (Ieee.double.order a a != some .eq) = _
      rw [bne, this]; cases fl a <;> rfl
    simp [binOp, Op.floatCmp, h2])
end
/-- a word without the kinds of NaN -/
def canonN : Option Nat → Int
  | none => 9221120237041090560
  | some b => b
def sumP : List Int → Int
  | [] => 0
  | x :: l => canonN (l.foldl (fun a w => addF a (fl w.toNat)) (fl x.toNat))
end Go.Proofs.YthamkgghnjenhaaGreat
namespace Go.Proofs.YthamkgghnjenhaaGreat
open Go.RowKit
set_option linter.unusedVariables false
set_option linter.unusedSimpArgs false
section
variable {P : Program} {w0 : World} {H F : Heap} {m : Slots} {ty : TypeId}
def funcTy (P : Program) (t : TypeId) : Bool := match P.underlying t with
  | some (.func _ _ _) => true
  | _ => false
theorem eq_func {t : TypeId} {v : Value} {b : Bool} (w : World) (ht : funcTy P t = true) (hv : (v = .nilFunc ∧ b = true) ∨ (∃ f a c, v = .func f a c ∧ b = false)) : (Op.equal t v .nilFunc).run P w = .ok b w := by
  unfold funcTy at ht
  split at ht
  · rename_i q q' q'' hu
    rcases hv with ⟨rfl, rfl⟩ | ⟨f, a, c, rfl, rfl⟩ <;> (rw [equal_unf, Op.equalIn.eq_2, Sem.run_bind, run_und w hu]; rfl)
  · cases ht
theorem Val.eqlFN {t u : TypeId} {x y : Operand} (hx : evO m x = some .nilFunc) (hy : evO m y = some .nilFunc) (ht : funcTy P t = true) : Val P w0 H m ty (.binOp .eql t x y u) (.bool true) :=
  Val.binV hx hy (by simp) (by simp) fun w => by
    have := eq_func (v := .nilFunc) (b := true) w ht (.inl ⟨rfl, rfl⟩)
    simp [binOp, this]
theorem Val.eqlFF {t u : TypeId} {x y : Operand} {f : Fn} {a c : Array Value} (hx : evO m x = some (.func f a c)) (hy : evO m y = some .nilFunc) (ht : funcTy P t = true) : Val P w0 H m ty (.binOp .eql t x y u) (.bool false) :=
  Val.binV hx hy (by simp) (by simp) fun w => by
    have := eq_func (v := .func f a c) (b := false) w ht (.inr ⟨_, _, _, rfl, rfl⟩)
    simp [binOp, this]
def concTy (P : Program) (t : TypeId) : Bool := match P.underlying t with
  | some (.interface _) => false
  | some _ => true
  | none => false
theorem Val.mkIface {t : TypeId} {x : Operand} {v : Value} (hx : evO m x = some v) (ht : concTy P t = true) : Val P w0 H m ty (.makeInterface t x) (.iface t v) :=
  ⟨by simp [covOp, cov, hx], fun w d pos af g hw => by
    unfold concTy at ht
    split at ht
    · cases ht
    · rename_i d' hne hu
      have : (Instr.makeInterface t v).run P w = .ok (Value.iface t v) w := by
        simp only [Instr.makeInterface, Sem.run_bind, run_und w hu, Result.andThen]
        cases d' <;> first | rfl | exact absurd hu (hne _)
      simp [execOp, evS, hx, this]
    · cases ht⟩
theorem Val.assertM {t xT : TypeId} {x : Operand} {v : Value} (hx : evO m x = some (.iface t v)) (ht : mapTy P t = true) : Val P w0 H m ty (.typeAssert x xT t false) v :=
  ⟨by simp [covOp, cov, hx], fun w d pos af g hw => by
    unfold mapTy at ht
    split at ht
    · rename_i q q' hu
      simp [execOp, evS, hx, Instr.typeAssert, run_und w hu]
    · cases ht⟩
/-- maps.clone: a new block with the same entries -/
theorem CallV.cloneM {f : FuncId} {fn : Func} {t : TypeId} {ms : List ME} {c b : Nat} (hf : P.funcs[f]? = some fn) (hn : (fn.name == "runtime.NumGoroutine") = false) (hb : fn.body.isNone = true) (h0 : (Extern.findNext fn).isNone = true) (he : Extern.find fn = some Extern.MapsClone.clone)
    (hT : Take (b, mobj ms c) H F) : CallV P w0 (.func (.func f) #[] #[]) [Value.iface t (.map (some b))] H (fun (r : Value) (H' : Heap) => ∃ b', r = Value.iface t (.map (some b')) ∧ H' = (b', mobj ms c) :: H) := by
  intro w hw
  have hbk := run_getMap (P := P) ((hw.take hT).get _ (.head _))
  have e1 : ((do let d ← Deferred.ofValue (.func (.func f) #[] #[]) [Value.iface t (.map (some b))].toArray; invoke d.target d.args : Sem Next).run P w) = .ok (.value (Value.iface t (.map (some w.heap.size)))) (w.alloc (mobj ms c)) := by
    have h0' : Extern.findNext fn = none := by simpa using h0
    have hc := run_callFunc_extern (P := P) hf hn hb h0' he [Value.iface t (.map (some b))].toArray w
    have hr : (Extern.MapsClone.clone #[Value.iface t (.map (some b))]).run P w = .ok (Value.iface t (.map (some w.heap.size))) (w.alloc (mobj ms c)) := by
      have e : Extern.MapsClone.clone #[Value.iface t (.map (some b))] = (getObj b >>= fun o => match o with
          | .map entries clock => (newObj (.map entries clock) >>= fun n => Pure.pure (Value.iface t (.map (some n))))
          | _ => stuck "maps.clone: a map expected") := rfl
      rw [e, Sem.run_bind, hbk]
      rfl
    rw [hr] at hc
    simp only [Deferred.ofValue, invoke, Bind.bind, Sem.bind, Pure.pure]
    rw [show (#[] ++ [Value.iface t (.map (some b))].toArray ++ #[] : Array Value) = [Value.iface t (.map (some b))].toArray by simp]
    exact hc
  rw [e1]
  exact ⟨_, hw.alloc _, _, rfl, rfl⟩
end
section
variable {P : Program} {w0 : World} {ro : Option Nat} {n : Nat} {Q : Exit → Act → World → Prop} {ds : List Deferred} {m : Slots} {H R : Heap} {ops : Array Oper} {op : Op} {ty : TypeId} {pos : String} {af : Array Edge} {ord : Ord}
/-- a store where several may act -/
theorem ActK.eN {T : Post} (he : Eff P w0 H m ty op T) (h : ∀ v H', T v H' → Part H' R ∧ KD P w0 ro n ops R ord Q ds m H') : ActK P w0 ro n ops R ord Q ds m H ⟨none, op, ty, pos, af, none⟩ :=
  fun a w ha hw => ⟨by simp [Region.wanted], by
    rw [ha.exec (o := ⟨none, op, ty, pos, af, none⟩) he.cv]
    exact (he.run w _ _ _ _ hw).mono fun v w' ⟨H', hh, hT⟩ => ⟨_, H', ha, hh, (h v H' hT).1, (h v H' hT).2⟩⟩
end
end Go.Proofs.YthamkgghnjenhaaGreat
