/- Graph: AppendSeq, Collect, Sorted over the keys of a map; here. -/
import Derived.Test.YtfgmofaadcbokaaGrW1
namespace Go.Proofs.Ytfgmofaadcbokaa
open Go.RowKit
set_option linter.unusedVariables false
set_option linter.unusedSimpArgs false

def KeysOf (ms : List ME) (ks : List Int) : Prop := (∀ x, x ∈ ks ↔ x ∈ ms.map (·.k)) ∧ ks.Nodup ∧ ks.length ≤ ms.length
def AsJ (l D : Nat) (r : Rec) (b2 : Nat) (ks : List Int) (A : Heap) : Prop := ∃ o, oOk iE ks o ∧ A = (l, .loop (r .ready none)) :: (D, .deferred (some [])) :: (oH iE 3 ks o ++ [(b2, cells [oV o ks.length] 23)])
def AsD (ms : List ME) (c bm b2 : Nat) (F : Heap) (D : Nat) (F' : Heap) : Prop := ∃ ks o, KeysOf ms ks ∧ oOk iE ks o ∧ F' = (D, .deferred (some [])) :: (oH iE 3 ks o ++ ((b2, cells [oV o ks.length] 23) :: (bm, mobj ms c) :: F))

set_option maxRecDepth 10000 in
set_option maxHeartbeats 1000000 in
theorem AppendSeq_K {w0 : World} {F : Heap} {b bm c : Nat} {ms : List ME} (ok : MOk ms c) (hl : ms.length ≤ 1000000) :
    Call Try.prog w0 46 [.slice none 0 0, .func (.func 45) #[] #[.pointer (some ⟨b, 0, none⟩)]] ((b, cells [.map (some bm)] 47) :: (bm, mobj ms c) :: F)
      (fun r H' => ∃ ks o, KeysOf ms ks ∧ oOk iE ks o ∧ r = oV o ks.length ∧ H' = oH iE 3 ks o ++ ((bm, mobj ms c) :: F)) := by
  refine Call.enter (n := 13) [(0, .slice none 0 0), (1, .func (.func 45) #[] #[.pointer (some ⟨b, 0, none⟩)])] (by kernel_rfl) Try.func46 rfl rfl rfl ⟨rfl, rfl, trivial⟩ ?_
  refine byCode ?_
  (refine KL.e rfl (Eff.box rfl rfl) ?_; rintro _ _ ⟨b2, rfl, rfl⟩)
  (refine KL.v rfl (Val.assign rfl) ?_)
  refine KL.nil ?_
  refine byCode ?_
  (refine KL.v rfl (Val.move rfl) ?_)
  refine KL.nil ?_
  refine byBlk ?_
  refine K.rangeFunc (lb := [.pointer (some ⟨b, 0, none⟩)]) rfl (AsD ms c bm b2 F) (fun _ _ _ => False) ?_ ?_ ?_
  · intro l D r hyl
    refine (Call.part (keys1_K (F := F) (b := b) (bm := bm) ok (AsJ l D r b2) rfl ?_ (A0 := (l, .loop (r .ready none)) :: (D, .deferred (some [])) :: (oH iE 3 [] none ++ [(b2, cells [oV none 0] 23)])) ⟨none, rfl, rfl⟩) byPart).mono ?_
    · rintro ks A F s ⟨o, ok, rfl⟩ hxl
      have hz : (ks ++ [s]).length ≤ 4294967296 := by simp; omega
      simp only [List.cons_append, List.append_assoc, List.nil_append]
      refine hyl _ _ _ _ _ (ParS.cons rfl ParS.nil) byTake ?_
      refine byCode ?_
      (refine KL.v rfl (Val.assign rfl) ?_)
      refine KL.nil ?_
      refine KE.begin byTake ?_
      refine K.block ?_
      refine byCode ?_
      (refine KL.v rfl (Val.loadP rfl rfl bySee) ?_)
      (refine KL.v rfl (Val.move rfl) ?_)
      (refine KL.e rfl (Eff.buildS byParts rfl rfl rfl rfl rfl byFill) ?_; rintro _ _ ⟨b10, rfl, rfl⟩)
      -- STOP at region 3 op 3: {"h": "Op.call", "a": [{"callee": {"h": "Callee.builtin", "a": ["Builtin.append"]}, "args": [{"h": "Operand.tmp", "a": [8]}, {"h": "Operand.tmp", "a": [10]}], "argTypes": [23, 23]}]}
      (refine KL.e rfl (Eff.appZ (E := iE) (xs := ks) (o := o) (ys := [s]) (zs := ks ++ [s]) rfl rfl rfl rfl rfl rfl byTakeL (by assumption) (by first | exact Sli.blk byTake rfl (by first | decide | simp) (by first | decide | (unfold maxLen; omega)) rfl | exact Sli.old (by assumption) | exact Sli.own byTakeL (by assumption) byLen | assumption | exact Sli.part (by assumption) byPart) (rfl) (by first | assumption | omega | (simp <;> fail) | (simp; omega)) rfl) ?_; rintro _ _ ⟨o', ok', rfl, rfl⟩)
      (first | (refine KL.eN (Eff.storeL rfl rfl byOne rfl byTake bySetAt) ?_; rintro _ _ rfl) | (refine KL.eN (Eff.stSl rfl rfl rfl rfl byTakeL (by assumption) (by assumption) rfl rfl) ?_; rintro _ _ rfl) | (refine KL.eN (Eff.stSl0 rfl rfl rfl rfl byTakeL (by assumption) (by assumption) rfl rfl) ?_; rintro _ _ rfl))
      refine KL.nil ?_
      refine byCode ?_
      refine KE.part ((l, .loop (r .busy none)) :: (D, .deferred (some [])) :: (oH iE 3 (ks ++ [s]) o' ++ ((b2, cells [oV o' (ks ++ [s]).length] 23) :: F))) byPart ?_
      exact KE.roundN Take.head ⟨rfl, _, ⟨o', ok', rfl⟩, by simp⟩
    · rintro v H' ⟨A', ks, rfl, ⟨o, ok, rfl⟩, hk⟩
      refine .inl ⟨_, ?_, ks, o, hk, ok, rfl⟩
      simp only [List.cons_append, List.append_assoc, List.nil_append]
      exact byPart
  · rintro D F' ⟨ks, o, hk, ok, rfl⟩
    refine byCode ?_
    (refine KL.v rfl (Val.loadP rfl rfl bySee) ?_)
    (refine KL.v rfl (Val.assign rfl) ?_)
    refine KL.nil ?_
    refine byCode ?_
    exact KE.fin byMarks rfl byRes byPart ⟨ks, o, hk, ok, rfl, rfl⟩
  · rintro D cd F' h
    exact h.elim

set_option maxRecDepth 10000 in
theorem Collect_K {w0 : World} {F : Heap} {b bm c : Nat} {ms : List ME} (ok : MOk ms c) (hl : ms.length ≤ 1000000) :
    Call Try.prog w0 43 [.func (.func 45) #[] #[.pointer (some ⟨b, 0, none⟩)]] ((b, cells [.map (some bm)] 47) :: (bm, mobj ms c) :: F)
      (fun r H' => ∃ ks o, KeysOf ms ks ∧ oOk iE ks o ∧ r = oV o ks.length ∧ H' = oH iE 3 ks o ++ ((bm, mobj ms c) :: F)) := by
  refine Call.enter (n := 5) [(0, .func (.func 45) #[] #[.pointer (some ⟨b, 0, none⟩)])] (by kernel_rfl) Try.func43 rfl rfl rfl ⟨rfl, trivial⟩ ?_
  refine byCode ?_
  (refine KL.v rfl (Val.assign rfl) ?_)
  refine KL.nil ?_
  refine byCode ?_
  (refine KL.v rfl (Val.move rfl) ?_)
  (refine KL.callc rfl rfl byEvL fun T hT => ?_)
  refine (CallV.fn (AppendSeq_K ok hl)).mono ?_
  rintro _ _ ⟨ks, o, hk, ok', rfl, rfl⟩
  refine hT _ _ ?_; clear hT; clear T
  (refine KL.v rfl (Val.assign rfl) ?_)
  refine KL.nil ?_
  refine byCode ?_
  exact KE.fin byMarks rfl byRes byPart ⟨ks, o, hk, ok', rfl, rfl⟩

theorem KeysOf.sort {ms : List ME} {ks : List Int} (h : KeysOf ms ks) : KeysOf ms (sortP ks) := ⟨fun x => sortP_mem.trans (h.1 x), (List.mergeSort_perm ks _).symm.nodup_iff.1 h.2.1, by rw [sortP_len]; exact h.2.2⟩

theorem sort_strict {ks : List Int} (h : ks.Nodup) : (sortP ks).Pairwise (· < ·) := by
  have h1 := sortP_sorted ks
  have h2 : (sortP ks).Pairwise (· ≠ ·) := (List.mergeSort_perm ks _).symm.nodup_iff.1 h
  exact (List.pairwise_and_iff.2 ⟨h1, h2⟩).imp fun {a b} h => by have := h.1; have := h.2; omega

set_option maxRecDepth 10000 in
theorem Sorted_K {w0 : World} {F : Heap} {b bm c : Nat} {ms : List ME} (ok : MOk ms c) (hl : ms.length ≤ 1000000) :
    Call Try.prog w0 39 [.func (.func 45) #[] #[.pointer (some ⟨b, 0, none⟩)]] ((b, cells [.map (some bm)] 47) :: (bm, mobj ms c) :: F)
      (fun r H' => ∃ ks o, KeysOf ms ks ∧ ks.Pairwise (· < ·) ∧ oOk iE ks o ∧ r = oV o ks.length ∧ H' = oH iE 3 ks o ++ ((bm, mobj ms c) :: F)) := by
  refine Call.enter (n := 9) [(0, .func (.func 45) #[] #[.pointer (some ⟨b, 0, none⟩)])] (by kernel_rfl) Try.func39 rfl rfl rfl ⟨rfl, trivial⟩ ?_
  refine byCode ?_
  (refine KL.v rfl (Val.assign rfl) ?_)
  refine KL.nil ?_
  refine byCode ?_
  (refine KL.v rfl (Val.move rfl) ?_)
  (refine KL.callc rfl rfl byEvL fun T hT => ?_)
  refine (CallV.fn (Collect_K ok hl)).mono ?_
  rintro _ _ ⟨ks, o, hk, ok', rfl, rfl⟩
  refine hT _ _ ?_; clear hT; clear T
  (refine KL.v rfl (Val.assign rfl) ?_)
  refine KL.nil ?_
  refine byCode ?_
  (refine KL.v rfl (Val.move rfl) ?_)
  (refine KL.callc rfl rfl byEvL fun T hT => ?_)
  refine (CallV.part (CallV.fn (Sort_K (F := (bm, mobj ms c) :: F) ok' (Nat.le_trans hk.2.2 hl))) byPart).mono ?_
  rintro _ _ ⟨rfl, ok2, rfl⟩
  refine hT _ _ ?_; clear hT; clear T
  refine KL.nil ?_
  have hsl := sortP_len ks
  refine byCode ?_
  (refine KL.v rfl (Val.move rfl) ?_)
  (refine KL.v rfl (Val.assign rfl) ?_)
  refine KL.nil ?_
  refine byCode ?_
  exact KE.fin byMarks rfl byRes byPart ⟨sortP ks, o, hk.sort, sort_strict hk.2.1, ok2, by rw [hsl]; rfl, rfl⟩
end Go.Proofs.Ytfgmofaadcbokaa
