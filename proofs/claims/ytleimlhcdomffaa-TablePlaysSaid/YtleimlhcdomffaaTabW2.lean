/- What Look, Drop, Slot and the counts of package table do. -/
import Derived.Test.YtleimlhcdomffaaTabW1
namespace Go.Proofs.Ytleimlhcdomffaa
open Go.RowKit
set_option linter.unusedVariables false

/-- no table: nil, or one that no call made -/
def NoTab (w : World) (v : Value) : Prop := v = .pointer none ∨ ∃ b, v = .pointer (some ⟨b, 0, none⟩) ∧ w.cell? ⟨b, 0, none⟩ = some (.slice none 0 0)

theorem none_no {w : World} {v : Value} (h : NoTab w v) : Calls Try.prog 24 #[v] w fun e w' => e = .returned (.bool true) ∧ w = w' := by
  rcases h with rfl | ⟨b, rfl, hc⟩
  · exact none_nil w
  · exact none_zero b w hc

theorem count_no {w : World} {v : Value} (h : NoTab w v) (s : Int) : Calls Try.prog 28 #[v, .int .i64 s] w fun e w' => e = .returned (.int .i64 0) ∧ w = w' := by
  have Hn := Lib.hid (none_no h)
  clear h
  go_enter Try.func28, Try.ntmps28
  go_wp2_with (go_at_call 24; refine (Hn.out).mono ?_; rintro e w' ⟨rfl, rfl⟩)
  go_ret
  exact ⟨rfl, rfl⟩

theorem Free_tab {w : World} {b e c : Nat} {es : List Ent} {gens : Int} (hT : Tab w b e c es gens) (hok : EntsOk es) :
    Calls Try.prog 13 #[.pointer (some ⟨b, 0, none⟩)] w fun e w' => e = .returned (.int .i64 (cnt 0 es : Nat)) ∧ w = w' := by
  have Hn := Lib.hid (count_tab hT hok 0 (by omega) (by omega))
  clear hT hok
  go_enter Try.func13, Try.ntmps13
  go_wp2_with (go_at_call 28; refine (Hn.out).mono ?_; rintro e w' ⟨rfl, rfl⟩)
  go_ret
  exact ⟨rfl, rfl⟩

theorem Free_no {w : World} {v : Value} (h : NoTab w v) :
    Calls Try.prog 13 #[v] w fun e w' => e = .returned (.int .i64 0) ∧ w = w' := by
  have Hn := Lib.hid (count_no h 0)
  clear h
  go_enter Try.func13, Try.ntmps13
  go_wp2_with (go_at_call 28; refine (Hn.out).mono ?_; rintro e w' ⟨rfl, rfl⟩)
  go_ret
  exact ⟨rfl, rfl⟩

theorem Live_tab {w : World} {b e c : Nat} {es : List Ent} {gens : Int} (hT : Tab w b e c es gens) (hok : EntsOk es) :
    Calls Try.prog 15 #[.pointer (some ⟨b, 0, none⟩)] w fun e w' => e = .returned (.int .i64 (cnt 1 es : Nat)) ∧ w = w' := by
  have Hn := Lib.hid (count_tab hT hok 1 (by omega) (by omega))
  clear hT hok
  go_enter Try.func15, Try.ntmps15
  go_wp2_with (go_at_call 28; refine (Hn.out).mono ?_; rintro e w' ⟨rfl, rfl⟩)
  go_ret
  exact ⟨rfl, rfl⟩

theorem Live_no {w : World} {v : Value} (h : NoTab w v) :
    Calls Try.prog 15 #[v] w fun e w' => e = .returned (.int .i64 0) ∧ w = w' := by
  have Hn := Lib.hid (count_no h 1)
  clear h
  go_enter Try.func15, Try.ntmps15
  go_wp2_with (go_at_call 28; refine (Hn.out).mono ?_; rintro e w' ⟨rfl, rfl⟩)
  go_ret
  exact ⟨rfl, rfl⟩

theorem Dropped_tab {w : World} {b e c : Nat} {es : List Ent} {gens : Int} (hT : Tab w b e c es gens) (hok : EntsOk es) :
    Calls Try.prog 16 #[.pointer (some ⟨b, 0, none⟩)] w fun e w' => e = .returned (.int .i64 (cnt 2 es : Nat)) ∧ w = w' := by
  have Hn := Lib.hid (count_tab hT hok 2 (by omega) (by omega))
  clear hT hok
  go_enter Try.func16, Try.ntmps16
  go_wp2_with (go_at_call 28; refine (Hn.out).mono ?_; rintro e w' ⟨rfl, rfl⟩)
  go_ret
  exact ⟨rfl, rfl⟩

theorem Dropped_no {w : World} {v : Value} (h : NoTab w v) :
    Calls Try.prog 16 #[v] w fun e w' => e = .returned (.int .i64 0) ∧ w = w' := by
  have Hn := Lib.hid (count_no h 2)
  clear h
  go_enter Try.func16, Try.ntmps16
  go_wp2_with (go_at_call 28; refine (Hn.out).mono ?_; rintro e w' ⟨rfl, rfl⟩)
  go_ret
  exact ⟨rfl, rfl⟩

theorem Retired_tab {w : World} {b e c : Nat} {es : List Ent} {gens : Int} (hT : Tab w b e c es gens) (hok : EntsOk es) :
    Calls Try.prog 12 #[.pointer (some ⟨b, 0, none⟩)] w fun e w' => e = .returned (.int .i64 (cnt 3 es : Nat)) ∧ w = w' := by
  have Hn := Lib.hid (count_tab hT hok 3 (by omega) (by omega))
  clear hT hok
  go_enter Try.func12, Try.ntmps12
  go_wp2_with (go_at_call 28; refine (Hn.out).mono ?_; rintro e w' ⟨rfl, rfl⟩)
  go_ret
  exact ⟨rfl, rfl⟩

theorem Retired_no {w : World} {v : Value} (h : NoTab w v) :
    Calls Try.prog 12 #[v] w fun e w' => e = .returned (.int .i64 0) ∧ w = w' := by
  have Hn := Lib.hid (count_no h 3)
  clear h
  go_enter Try.func12, Try.ntmps12
  go_wp2_with (go_at_call 28; refine (Hn.out).mono ?_; rintro e w' ⟨rfl, rfl⟩)
  go_ret
  exact ⟨rfl, rfl⟩

theorem Len_tab {w : World} {b e c : Nat} {es : List Ent} {gens : Int} (hT : Tab w b e c es gens) (hok : EntsOk es) :
    Calls Try.prog 17 #[.pointer (some ⟨b, 0, none⟩)] w fun e w' => e = .returned (.int .i64 es.length) ∧ w = w' := by
  have Hn := Lib.hid (none_tab hT hok)
  obtain ⟨hd, arr, h1, h2, hne, hsz, hlc, hc, hd0, hd1, hds, hes⟩ := hT
  have c0 := h1.cell hd0
  clear hd0 hd1 hds hes hok hsz hne h1 h2
  go_enter Try.func17, Try.ntmps17
  go_wp2_with (go_at_call 24; refine (Hn.out).mono ?_; rintro e w' ⟨rfl, rfl⟩)
  go_ret
  exact ⟨rfl, rfl⟩

theorem Len_no {w : World} {v : Value} (h : NoTab w v) :
    Calls Try.prog 17 #[v] w fun e w' => e = .returned (.int .i64 0) ∧ w = w' := by
  have Hn := Lib.hid (none_no h)
  clear h
  go_enter Try.func17, Try.ntmps17
  go_wp2_with (go_at_call 24; refine (Hn.out).mono ?_; rintro e w' ⟨rfl, rfl⟩)
  go_ret
  exact ⟨rfl, rfl⟩

/-- the entry that a handle names -/
def namedAt (es : List Ent) (index gen : Int) : Option Nat :=
  if 0 ≤ index ∧ index < es.length then
    match es[index.toNat]? with
    | some x => if x.st = 1 ∧ (x.gen : Int) = gen then some index.toNat else none
    | none => none
  else none

theorem named_tab {w : World} {b e c : Nat} {es : List Ent} {gens : Int} (hT : Tab w b e c es gens) (hok : EntsOk es) (index gen : Int) :
    Calls Try.prog 27 #[.pointer (some ⟨b, 0, none⟩), .int .i64 index, .int .u32 gen] w fun r w' =>
      r = .returned (.pointer ((namedAt es index gen).map fun i => ⟨e, i * 3, none⟩)) ∧ w = w' := by
  obtain ⟨hd, arr, h1, h2, hne, hsz, hlc, hc, hd0, hd1, hds, hes⟩ := hT
  have c0 := h1.cell hd0
  have hl1 := hok.1
  have hl2 := hok.2.1
  by_cases hi0 : index < 0
  · have HN : Hid (namedAt es index gen = none) := by unfold namedAt; rw [if_neg (by omega)]; rfl
    clear hd0 hd1 hds hes hok hsz hne h1 h2
    go_enter Try.func27, Try.ntmps27
    go_wp2
    go_ret
    exact ⟨by rw [HN.out]; rfl, rfl⟩
  · obtain ⟨k, rfl⟩ := Int.eq_ofNat_of_zero_le (show 0 ≤ index by omega)
    by_cases hlt : k < es.length
    · obtain ⟨x, hx⟩ : ∃ x, es[k]? = some x := ⟨es[k], List.getElem?_eq_getElem hlt⟩
      obtain ⟨a0, a1, a2⟩ := hes k x hx
      have e0 := h2.cell a0
      have e2 := h2.cell a2
      by_cases hs : x.st = 1
      · have hs' : ((x.st : Int) != 1) = false := by simp [hs]
        by_cases hg : (x.gen : Int) = gen
        · have hg' : ((x.gen : Int) != gen) = false := by simp [hg]
          have HN : Hid (namedAt es k gen = some k) := by unfold namedAt; rw [if_pos (by omega), Int.toNat_natCast, hx]; exact if_pos ⟨hs, hg⟩
          clear hd0 hd1 hds hes hok hsz hne h1 h2 hx hs hg
          go_enter Try.func27, Try.ntmps27
          go_wp2
          go_ret
          exact ⟨by rw [HN.out]; rfl, rfl⟩
        · have hg' : ((x.gen : Int) != gen) = true := by simp [hg]
          have HN : Hid (namedAt es k gen = none) := by unfold namedAt; rw [if_pos (by omega), Int.toNat_natCast, hx]; exact if_neg (fun h => hg h.2)
          clear hd0 hd1 hds hes hok hsz hne h1 h2 hx hs hg
          go_enter Try.func27, Try.ntmps27
          go_wp2
          go_ret
          exact ⟨by rw [HN.out]; rfl, rfl⟩
      · have hs' : ((x.st : Int) != 1) = true := by simp; omega
        have HN : Hid (namedAt es k gen = none) := by unfold namedAt; rw [if_pos (by omega), Int.toNat_natCast, hx]; exact if_neg (fun h => hs h.1)
        clear hd0 hd1 hds hes hok hsz hne h1 h2 hx hs
        go_enter Try.func27, Try.ntmps27
        go_wp2
        go_ret
        exact ⟨by rw [HN.out]; rfl, rfl⟩
    · have HN : Hid (namedAt es k gen = none) := by unfold namedAt; rw [if_neg (by omega)]; rfl
      clear hd0 hd1 hds hes hok hsz hne h1 h2
      go_enter Try.func27, Try.ntmps27
      go_wp2
      go_ret
      exact ⟨by rw [HN.out]; rfl, rfl⟩

end Go.Proofs.Ytleimlhcdomffaa
