/- The walker and the contracts that the law needs, part 19. -/
import Derived.Test.YtalholahapcpkaaGreatDoorJ17
import Derived.Test.YtalholahapcpkaaGreatDoorJ18
namespace Go.Proofs.YtalholahapcpkaaGreatDoor.Sw
open Go.Proofs.YtalholahapcpkaaGreatDoor renaming lo → qL, hi → qH
open Go.RowKit
set_option linter.unusedVariables false
set_option linter.unusedSimpArgs false
set_option maxRecDepth 10000
def uE : Enc Int := ⟨fun z => [.int .u64 z], 1, fun _ => rfl, by intro x v hv; simp at hv; subst hv; rfl⟩
def boE : Enc Bool := ⟨fun z => [.bool z], 1, fun _ => rfl, by intro x v hv; simp at hv; subst hv; rfl⟩
theorem lt_of_get {α : Type} {l : List α} {k : Nat} {x : α} (h : l[k]? = some x) : k < l.length := (List.getElem?_eq_some_iff.1 h).1
theorem get_of_lt {α : Type} {l : List α} {k : Nat} (h : k < l.length) : ∃ x, l[k]? = some x := ⟨l[k], List.getElem?_eq_getElem h⟩
theorem take_snoc {α : Type} {l : List α} {k : Nat} {x : α} (h : l[k]? = some x) : l.take (k + 1) = l.take k ++ [x] := by rw [List.take_add_one, h]; rfl
theorem on1_D {w0 w : World} {H : Heap} {b : Nat} (hw : HF w0 H w) : CallsDIn (fen none) 0 Tryz.prog 270 #[.pointer (some ⟨b, 0, none⟩)] .returning w (fun e u' w' => (∃ v, e = .returned v) ∧ u' = .returning ∧ HF w0 H w') := by
 refine callsDIn_of_wpSIn Tryz.func270 rfl trivial fun c₀ cs hu => ?_
 refine wpSIn_seq ?_
 refine wpSIn_region ?_
 have hrec : recoverD (c₀ :: cs) = none := by simp [recoverD, hu]
 have e1 : ∀ ρ : Operand → Value, (execOp ρ ⟨some 4, .call { callee := .builtin .recover, args := #[], argTypes := #[] }, 20, "mem.go:58", #[], none⟩).run Tryz.prog w = .ok .recover w := by
  intro ρ
  simp [execOp, resolve, invoke, builtin]
 have hr : List.range 1 = [0] := rfl
 simp only [List.size_toArray, List.length_cons, List.length_nil, Nat.zero_add, hr, wpOpsSIn, List.getElem?_toArray, List.getElem?_cons_zero, Region.wanted, if_true, e1, hrec, Exit.thenS]
 refine ⟨fun _ _ => trivial, ?_⟩
 refine wpSIn_of_wpIn rfl ?_
 refine K.out (P := Tryz.prog) (w0 := w0) (n := 11) (m := [(4, Value.nilIface)]) (H := H) (ds := []) ?_ _ _ (FitK.put (m := []) (ds := []) (n := 11) ⟨rfl, rfl, fun t v ht => by simp [look] at ht⟩ rfl _) hw
 ·refine K.block ?_
  refine K.seq (K.region ?_)
  have e : ∀ w, (Op.equal 20 .nilIface .nilIface).run Tryz.prog w = .ok true w := fun w => by
   rw [equal_unf, Op.equalIn.eq_2, Sem.run_bind, run_und w Tryz.underlying20]; rfl
  refine KL.v (v := .bool true) rfl ⟨rfl, fun w d pos af g _ => ?_⟩ ?_
  ·have e2 : (execOp (evS [(4, Value.nilIface)]) ⟨d, .binOp .eql 20 (.tmp 4) (.const .nilIface) 20, 4, pos, af, g⟩).run Tryz.prog w = .ok (.value (.bool true)) w := by
    simp [execOp, evS, evO, look, eqGuard, binOp, e]
   exact e2
  refine KL.nil (KE.next (K.condT rfl (K.region ?_)))
  refine KL.v rfl (Val.assign rfl) ?_
  refine KL.nil ?_
  refine KE.blkN ?_
  refine .mk fun a w' ha hw' => ?_
  exact ⟨ha.1, .returning, by rw [← hu], .tuple #[], by simp [results, Tryz.f270], ⟨_, rfl⟩, rfl, hw'⟩
theorem on_K {w0 : World} {H : Heap} {fv : Value} {R : Heap → Prop} (h : ∀ b, CallV Tryz.prog w0 fv [] ((b, cells [.int .i64 0] 56) :: H) (fun r H' => ∃ H1, R H1 ∧ Part H' ((b, cells [.int .i64 0] 56) :: H1))) :
  Call Tryz.prog w0 219 [fv] H (fun r H' => r = .int .i64 0 ∧ R H') := by
 refine Call.enter1 (n := 6) (by kernel_rfl) Tryz.func219 rfl rfl rfl ?_
 refine byCode ?_
 refine KL.e rfl (Eff.alloc rfl) ?_; rintro _ _ ⟨b2, rfl, rfl⟩
 refine KL.nil (KE.next (K.seq (K.region ?_)))
 refine byCode ?_
 refine KL.v rfl (Val.makeFunc byEvL byEvL) ?_
 refine KL.deferC rfl ?_
 refine KL.nil (KE.next (K.seq (K.region ?_)))
 refine byCode ?_
 refine KL.v rfl (Val.move rfl) ?_
 refine KL.callc rfl rfl byEvL fun T hT => ?_
 refine (h b2).mono ?_
 rintro _ _ ⟨H1, hR, hp⟩
 refine hT _ _ ?_; clear hT T
 refine KL.nil (KE.next ?_)
 refine K.part _ hp ?_
 refine K.seq (K.region ?_)
 refine byCode ?_
 (first | (refine KL.eN (Eff.storeL rfl rfl byOne rfl byTake bySetAt) ?_; rintro _ _ rfl) | (refine KL.eN (Eff.stSl rfl rfl rfl rfl byTakeL (by assumption) (by assumption) rfl rfl) ?_; rintro _ _ rfl) | (refine KL.eN (Eff.stSl0 rfl rfl rfl rfl byTakeL (by assumption) (by assumption) rfl rfl) ?_; rintro _ _ rfl))
 refine KL.nil (KE.next ?_)
 refine K.ret ?_
 exact KE.finD (fun w hw => on1_D hw) (by kernel_rfl) rfl byRes (Part.drop Part.all) ⟨rfl, hR⟩
end Go.Proofs.YtalholahapcpkaaGreatDoor.Sw
