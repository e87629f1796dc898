/- What Look, Drop and Slot of package table do. -/
import Derived.Test.YtleimlhcdomffaaTabW2
namespace Go.Proofs.Ytleimlhcdomffaa
open Go.RowKit
set_option linter.unusedVariables false

theorem namedAt_some {es : List Ent} {index gen : Int} {i : Nat} (h : namedAt es index gen = some i) : ∃ x, es[i]? = some x ∧ x.st = 1 ∧ (x.gen : Int) = gen ∧ index = i := by
  unfold namedAt at h
  split at h
  · rename_i hb
    split at h
    · rename_i x hx
      split at h
      · rename_i hc
        cases h
        exact ⟨x, hx, hc.1, hc.2, by omega⟩
      · cases h
    · cases h
  · cases h

def slotAt (es : List Ent) (i : Nat) : Int := (es[i]?.map (·.slot)).getD 0
def stAt (es : List Ent) (i : Nat) : Nat := (es[i]?.map (·.st)).getD 0

/-- what Look answers: the slot, the error -/
def lookP (es : List Ent) (index gen : Int) : Int × Int := match namedAt es index gen with | some i => (slotAt es i, 0) | none => (0, 130)

theorem Look_tab {w : World} {b e c : Nat} {es : List Ent} {gens : Int} (hT : Tab w b e c es gens) (hok : EntsOk es) (index gen : Int) :
    Calls Try.prog 14 #[.pointer (some ⟨b, 0, none⟩), .int .i64 index, .int .u32 gen] w fun r w' =>
      r = .returned (.tuple #[.int .i64 (lookP es index gen).1, .int .i64 (lookP es index gen).2]) ∧ w = w' := by
  have Hn := Lib.hid (none_tab hT hok)
  have hm := named_tab hT hok index gen
  obtain ⟨hd, arr, h1, h2, hne, hsz, hlc, hc, hd0, hd1, hds, hes⟩ := hT
  cases hN : namedAt es index gen with
  | none =>
    rw [hN] at hm
    have HL : Hid (lookP es index gen = (0, 130)) := Lib.hid (by unfold lookP; rw [hN])
    have Hm := Lib.hid hm
    clear hN hm hd0 hd1 hds hes hok hsz hne h1 h2
    go_enter Try.func14, Try.ntmps14
    go_wp2_with (first | (go_at_call 24; refine (Hn.out).mono ?_; rintro e w' ⟨rfl, rfl⟩) | (go_at_call 27; refine (Hm.out).mono ?_; rintro e w' ⟨rfl, rfl⟩))
    go_ret2
    exact ⟨by rw [HL.out]; rfl, rfl⟩
  | some i =>
    rw [hN] at hm
    obtain ⟨x, hx, hs, hg, hi⟩ := namedAt_some hN
    have HL : Hid (lookP es index gen = (x.slot, 0)) := Lib.hid (by unfold lookP slotAt; rw [hN]; simp [hx])
    have e1 := h2.cell (hes i x hx).2.1
    have Hm := Lib.hid hm
    clear hN hm hd0 hd1 hds hes hok hsz hne h1 h2 hs hg hi hx
    go_enter Try.func14, Try.ntmps14
    go_wp2_with (first | (go_at_call 24; refine (Hn.out).mono ?_; rintro e w' ⟨rfl, rfl⟩) | (go_at_call 27; refine (Hm.out).mono ?_; rintro e w' ⟨rfl, rfl⟩))
    go_ret2
    exact ⟨by rw [HL.out]; rfl, rfl⟩

theorem Look_no {w : World} {v : Value} (h : NoTab w v) (index gen : Int) :
    Calls Try.prog 14 #[v, .int .i64 index, .int .u32 gen] w fun r w' =>
      r = .returned (.tuple #[.int .i64 0, .int .i64 1]) ∧ w = w' := by
  have Hn := Lib.hid (none_no h)
  clear h
  go_enter Try.func14, Try.ntmps14
  go_wp2_with (go_at_call 24; refine (Hn.out).mono ?_; rintro e w' ⟨rfl, rfl⟩)
  go_ret2
  exact ⟨rfl, rfl⟩

/-- the entries after Drop -/
def dropP (es : List Ent) (index gen : Int) : List Ent := match namedAt es index gen with | some i => es.modify i (fun x => { x with st := 2 }) | none => es

theorem modify_eq_set {es : List Ent} {i : Nat} {x : Ent} (hx : es[i]? = some x) (f : Ent → Ent) : es.modify i f = es.set i (f x) := by
  apply List.ext_getElem?
  intro j
  rw [List.getElem?_modify, List.getElem?_set]
  by_cases h : i = j
  · subst h; obtain ⟨hl, he⟩ := List.getElem?_eq_some_iff.1 hx; simp [hl, he]
  · simp [h]

theorem Drop_tab {w : World} {b e c : Nat} {es : List Ent} {gens : Int} (hT : Tab w b e c es gens) (hok : EntsOk es) (index gen : Int) :
    Calls Try.prog 10 #[.pointer (some ⟨b, 0, none⟩), .int .i64 index, .int .u32 gen] w fun r w' =>
      r = .returned (.tuple #[.int .i64 (lookP es index gen).1, .int .i64 (lookP es index gen).2]) ∧ Tab w' b e c (dropP es index gen) gens ∧ Only [b, e] w w' := by
  have hm := named_tab hT hok index gen
  have hlk := Look_tab hT hok index gen
  cases hN : namedAt es index gen with
  | none =>
    have hL : lookP es index gen = (0, 130) := by unfold lookP; rw [hN]
    have HD : Hid (dropP es index gen = es) := Lib.hid (by unfold dropP; rw [hN])
    rw [hL] at hlk
    have HL := Lib.hid hL
    have Hk := Lib.hid hlk
    have HT := Lib.hid hT
    clear hN hm hok hL hlk hT
    go_enter Try.func10, Try.ntmps10
    go_wp2_with (go_at_call 14; refine (Hk.out).mono ?_; rintro e w' ⟨rfl, rfl⟩)
    go_ret2
    exact ⟨by rw [HL.out]; rfl, by rw [HD.out]; exact HT.out, Only.refl _ _⟩
  | some i =>
    rw [hN] at hm
    obtain ⟨x, hx, hs, hg, hi⟩ := namedAt_some hN
    have hL : lookP es index gen = (x.slot, 0) := by unfold lookP slotAt; rw [hN]; simp [hx]
    have HD : Hid (dropP es index gen = es.set i { x with st := (2 : Int).toNat }) := Lib.hid (by unfold dropP; rw [hN]; exact modify_eq_set hx _)
    rw [hL] at hlk
    have HL := Lib.hid hL
    have Hk := Lib.hid hlk
    have Hm := Lib.hid hm
    have Ht := Lib.hid (turn_tab hT hok hx 2 (by omega) (by omega))
    clear hN hm hok hs hg hi hx hL hlk hT
    go_enter Try.func10, Try.ntmps10
    go_wp2_with (first | (go_at_call 14; refine (Hk.out).mono ?_; rintro e w' ⟨rfl, rfl⟩) | (go_at_call 27; refine (Hm.out).mono ?_; rintro e w' ⟨rfl, rfl⟩) | (go_at_call 26; refine (Ht.out).mono ?_; rintro e w' ⟨rfl, hT', ho⟩; have HT' := Lib.hid hT'; have HO := Lib.hid ho; clear hT' ho))
    go_ret2
    exact ⟨by rw [HL.out]; rfl, by rw [HD.out]; exact HT'.out, HO.out⟩

theorem Drop_no {w : World} {v : Value} (h : NoTab w v) (index gen : Int) :
    Calls Try.prog 10 #[v, .int .i64 index, .int .u32 gen] w fun r w' =>
      r = .returned (.tuple #[.int .i64 0, .int .i64 1]) ∧ w = w' := by
  have Hn := Lib.hid (Look_no h index gen)
  clear h
  go_enter Try.func10, Try.ntmps10
  go_wp2_with (go_at_call 14; refine (Hn.out).mono ?_; rintro e w' ⟨rfl, rfl⟩)
  go_ret2
  exact ⟨rfl, rfl⟩

/-- what Slot answers -/
def slotP (es : List Ent) (index : Int) : Int × Bool := if 0 ≤ index ∧ index < es.length ∧ stAt es index.toNat = 1 then (slotAt es index.toNat, true) else (0, false)

theorem Slot_tab {w : World} {b e c : Nat} {es : List Ent} {gens : Int} (hT : Tab w b e c es gens) (hok : EntsOk es) (index : Int) :
    Calls Try.prog 22 #[.pointer (some ⟨b, 0, none⟩), .int .i64 index] w fun r w' =>
      r = .returned (.tuple #[.int .i64 (slotP es index).1, .bool (slotP es index).2]) ∧ w = w' := by
  have Hn := Lib.hid (none_tab hT hok)
  obtain ⟨hd, arr, h1, h2, hne, hsz, hlc, hc, hd0, hd1, hds, hes⟩ := hT
  have c0 := h1.cell hd0
  have hl2 := hok.2.1
  by_cases hi0 : index < 0
  · have HL : Hid (slotP es index = (0, false)) := Lib.hid (by unfold slotP; rw [if_neg (by omega)])
    clear hd0 hd1 hds hes hok hsz hne h1 h2
    go_enter Try.func22, Try.ntmps22
    go_wp2_with (go_at_call 24; refine (Hn.out).mono ?_; rintro e w' ⟨rfl, rfl⟩)
    go_ret2
    exact ⟨by rw [HL.out]; rfl, rfl⟩
  · obtain ⟨k, rfl⟩ := Int.eq_ofNat_of_zero_le (show 0 ≤ index by omega)
    by_cases hlt : k < es.length
    · obtain ⟨x, hx⟩ : ∃ x, es[k]? = some x := ⟨es[k], List.getElem?_eq_getElem hlt⟩
      obtain ⟨a0, a1, a2⟩ := hes k x hx
      have e0 := h2.cell a0
      have e1 := h2.cell a1
      by_cases hs : x.st = 1
      · have hs' : ((x.st : Int) != 1) = false := by simp [hs]
        have HL : Hid (slotP es k = (x.slot, true)) := Lib.hid (by unfold slotP stAt slotAt; rw [if_pos ⟨by omega, by omega, by simp only [Int.toNat_natCast, hx]; exact hs⟩]; simp only [Int.toNat_natCast, hx]; rfl)
        clear hd0 hd1 hds hes hok hsz hne h1 h2 hx hs a0 a1 a2
        go_enter Try.func22, Try.ntmps22
        go_wp2_with (go_at_call 24; refine (Hn.out).mono ?_; rintro e w' ⟨rfl, rfl⟩)
        go_ret2
        exact ⟨by rw [HL.out]; rfl, rfl⟩
      · have hs' : ((x.st : Int) != 1) = true := by simp; omega
        have HL : Hid (slotP es k = (0, false)) := Lib.hid (by unfold slotP stAt slotAt; rw [if_neg (by simp [hx, hs])])
        clear hd0 hd1 hds hes hok hsz hne h1 h2 hx hs a0 a1 a2
        go_enter Try.func22, Try.ntmps22
        go_wp2_with (go_at_call 24; refine (Hn.out).mono ?_; rintro e w' ⟨rfl, rfl⟩)
        go_ret2
        exact ⟨by rw [HL.out]; rfl, rfl⟩
    · have HL : Hid (slotP es k = (0, false)) := Lib.hid (by unfold slotP; rw [if_neg (by omega)])
      clear hd0 hd1 hds hes hok hsz hne h1 h2
      go_enter Try.func22, Try.ntmps22
      go_wp2_with (go_at_call 24; refine (Hn.out).mono ?_; rintro e w' ⟨rfl, rfl⟩)
      go_ret2
      exact ⟨by rw [HL.out]; rfl, rfl⟩

theorem Slot_no {w : World} {v : Value} (h : NoTab w v) (index : Int) :
    Calls Try.prog 22 #[v, .int .i64 index] w fun r w' =>
      r = .returned (.tuple #[.int .i64 0, .bool false]) ∧ w = w' := by
  have Hn := Lib.hid (none_no h)
  clear h
  go_enter Try.func22, Try.ntmps22
  go_wp2_with (go_at_call 24; refine (Hn.out).mono ?_; rintro e w' ⟨rfl, rfl⟩)
  go_ret2
  exact ⟨rfl, rfl⟩

end Go.Proofs.Ytleimlhcdomffaa
