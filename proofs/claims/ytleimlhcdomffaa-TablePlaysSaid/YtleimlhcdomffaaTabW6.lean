/- Mint where it makes no handle; Recycle. -/
import Derived.Test.YtleimlhcdomffaaTabW5
namespace Go.Proofs.Ytleimlhcdomffaa
open Go.RowKit Go.Shelf
set_option linter.unusedVariables false
attribute [local go_sem] Oper.semAt_some

theorem Mint_neg {w : World} {b e c : Nat} {es : List Ent} {gens : Int} (hT : Tab w b e c es gens) (hok : EntsOk es) (slot : Int) (hs0 : slot < 0) :
    Calls Try.prog 9 #[.pointer (some ⟨b, 0, none⟩), .int .i64 slot] w fun r w' =>
      r = .returned (.tuple #[.int .i64 0, .int .u32 0, .int .i64 2]) ∧ Only [] w w' := by
  have HT := Lib.hid hT
  have HOK := Lib.hid hok
  clear hT hok
  go_enter Try.func9, Try.ntmps9
  go_wp2_with (go_at_call 24; refine (none_tab (HT.out.only (S := []) (by repeat (first | exact Only.refl _ _ | apply Only.alloc)) (by simp) (by simp)) HOK.out).mono ?_; rintro e w' ⟨rfl, rfl⟩)
  refine bodyPost_ret (v := .tuple #[.int .i64 0, .int .u32 0, .int .i64 2]) (by simp [results, Try.results9, go_sem]) rfl ⟨rfl, ?_⟩
  repeat (first | exact Only.refl _ _ | apply Only.alloc | (refine Only.setCell ?_ (by simp <;> omega) _))

theorem Mint_no {w : World} {v : Value} (hv : ∃ p, v = .pointer p) (h : NoTab w v) (slot : Int) :
    Calls Try.prog 9 #[v, .int .i64 slot] w fun r w' =>
      r = .returned (.tuple #[.int .i64 0, .int .u32 0, .int .i64 1]) ∧ Only [] w w' := by
  obtain ⟨p, rfl⟩ := hv
  have hn : ∀ w', Only [] w w' → Calls Try.prog 24 #[.pointer p] w' fun e w'' => e = .returned (.bool true) ∧ w' = w'' := by
    intro w' ho
    refine none_no ?_
    rcases h with h | ⟨b, h, hc⟩
    · exact .inl h
    · refine .inr ⟨b, h, ?_⟩
      rw [← hc]
      refine World.cell?_of_block (w := w) (ho.block b ?_ (by simp))
      unfold World.cell? at hc
      rcases Nat.lt_or_ge b w.heap.size with hl | hl
      · exact hl
      · simp [Array.getElem?_eq_none hl] at hc
  have Hn := Lib.hid hn
  clear hn h
  go_enter Try.func9, Try.ntmps9
  go_wp2_with (go_at_call 24; refine (Hn.out _ (by repeat (first | exact Only.refl _ _ | apply Only.alloc))).mono ?_; rintro e w' ⟨rfl, rfl⟩)
  refine bodyPost_ret (v := .tuple #[.int .i64 0, .int .u32 0, .int .i64 1]) (by simp [results, Try.results9, go_sem]) rfl ⟨rfl, ?_⟩
  repeat (first | exact Only.refl _ _ | apply Only.alloc | (refine Only.setCell ?_ (by simp <;> omega) _))

theorem Recycle_no {w : World} {v : Value} (hv : ∃ p, v = .pointer p) (h : NoTab w v) :
    Calls Try.prog 11 #[v] w fun r w' => r = .returned (.int .i64 0) ∧ Only [] w w' := by
  obtain ⟨p, rfl⟩ := hv
  have hn : ∀ w', Only [] w w' → Calls Try.prog 24 #[.pointer p] w' fun e w'' => e = .returned (.bool true) ∧ w' = w'' := by
    intro w' ho
    refine none_no ?_
    rcases h with h | ⟨b, h, hc⟩
    · exact .inl h
    · refine .inr ⟨b, h, ?_⟩
      rw [← hc]
      refine World.cell?_of_block (w := w) (ho.block b ?_ (by simp))
      unfold World.cell? at hc
      rcases Nat.lt_or_ge b w.heap.size with hl | hl
      · exact hl
      · simp [Array.getElem?_eq_none hl] at hc
  have Hn := Lib.hid hn
  clear hn h
  go_enter Try.func11, Try.ntmps11
  go_wp2_with (go_at_call 24; refine (Hn.out _ (by repeat (first | exact Only.refl _ _ | apply Only.alloc))).mono ?_; rintro e w' ⟨rfl, rfl⟩)
  go_ret
  exact ⟨rfl, by repeat (first | exact Only.refl _ _ | apply Only.alloc)⟩

theorem Copy_no {w : World} {v : Value} (h : NoTab w v) :
    Calls Try.prog 19 #[v] w fun r w' => r = .returned (.pointer none) ∧ w = w' := by
  have Hn := Lib.hid (none_no h)
  clear h
  go_enter Try.func19, Try.ntmps19
  go_wp2_with (go_at_call 24; refine (Hn.out).mono ?_; rintro e w' ⟨rfl, rfl⟩)
  go_ret
  exact ⟨rfl, rfl⟩

end Go.Proofs.Ytleimlhcdomffaa
