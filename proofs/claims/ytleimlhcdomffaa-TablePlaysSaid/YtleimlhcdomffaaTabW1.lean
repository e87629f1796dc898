/- What the small functions of package table do. -/
import Derived.Test.YtleimlhcdomffaaProg
import Derived.Test.YtleimlhcdomffaaTabM
import Derived.Outline
import Derived.RegionTactic
import Derived.ChangeAlike
import Derived.BigQuiet
import Derived.Deep.QuietTactic
import Derived.WalkLawsBesides
import Derived.WalkSpells
namespace Go.Proofs.Ytleimlhcdomffaa
open Go.RowKit
set_option linter.unusedVariables false

theorem none_nil (w : World) : Calls Try.prog 24 #[.pointer none] w fun e w' => e = .returned (.bool true) ∧ w = w' := by
  go_enter Try.func24, Try.ntmps24
  go_wp2
  go_ret
  exact ⟨rfl, rfl⟩

/-- a table that no call made -/
theorem none_zero (b : Nat) (w : World) (h : w.cell? ⟨b, 0, none⟩ = some (.slice none 0 0)) :
    Calls Try.prog 24 #[.pointer (some ⟨b, 0, none⟩)] w fun e w' => e = .returned (.bool true) ∧ w = w' := by
  go_enter Try.func24, Try.ntmps24
  go_wp2
  go_ret
  exact ⟨rfl, rfl⟩

theorem none_tab {w : World} {b e c : Nat} {es : List Ent} {gens : Int} (hT : Tab w b e c es gens) (hok : EntsOk es) :
    Calls Try.prog 24 #[.pointer (some ⟨b, 0, none⟩)] w fun e w' => e = .returned (.bool false) ∧ w = w' := by
  obtain ⟨hd, arr, h1, h2, hne, hsz, hlc, hc, hd0, hd1, hds, hes⟩ := hT
  have hl := hok.1
  have hl2 := hok.2.1
  have c0 := h1.cell hd0
  have hz : ((es.length : Int) == 0) = false := by simp; intro h; simp [h] at hl
  clear hd0 hd1 hds hes hok hsz hne h1 h2
  go_enter Try.func24, Try.ntmps24
  go_wp2
  go_ret
  exact ⟨rfl, rfl⟩

theorem count_tab {w : World} {b e c : Nat} {es : List Ent} {gens : Int} (hT : Tab w b e c es gens) (hok : EntsOk es) (s : Int) (h0 : 0 ≤ s) (h4 : s < 4) :
    Calls Try.prog 28 #[.pointer (some ⟨b, 0, none⟩), .int .i64 s] w fun e w' => e = .returned (.int .i64 (cnt s.toNat es : Nat)) ∧ w = w' := by
  have hn := none_tab hT hok
  obtain ⟨hd, arr, h1, h2, hne, hsz, hlc, hc, hd0, hd1, hds, hes⟩ := hT
  have hl := hok.1
  obtain ⟨k, rfl⟩ := Int.eq_ofNat_of_zero_le h0
  have hk : k < 4 := by omega
  have c0 := h1.cell (hds k hk)
  clear hd0 hd1 hds hes hok hsz hne h1 h2
  have Hn := Lib.hid hn
  clear hn
  go_enter Try.func28, Try.ntmps28
  go_wp2_with (go_at_call 24; refine (Hn.out).mono ?_; rintro e w' ⟨rfl, rfl⟩)
  go_ret
  exact ⟨rfl, rfl⟩

theorem turn_tab {w : World} {b e c : Nat} {es : List Ent} {gens : Int} (hT : Tab w b e c es gens) (hok : EntsOk es) {i : Nat} {x : Ent} (hx : es[i]? = some x)
    (s : Int) (h0 : 0 ≤ s) (h4 : s < 4) :
    Calls Try.prog 26 #[.pointer (some ⟨b, 0, none⟩), .pointer (some ⟨e, i * 3, none⟩), .int .i64 s] w fun r w' => r = .returned (.tuple #[]) ∧
      Tab w' b e c (es.set i { x with st := s.toNat }) gens ∧ Only [b, e] w w' := by
  have hxm := hok.2.2 x (List.mem_of_getElem? hx)
  have hpos := cnt_pos hx
  have hle := cnt_le x.st es
  have hl2 := hok.2.1
  have hset := cnt_set hx { x with st := s.toNat }
  obtain ⟨hd, arr, h1, h2, hne, hsz, hlc, hc, hd0, hd1, hds, hes⟩ := hT
  obtain ⟨k, rfl⟩ := Int.eq_ofNat_of_zero_le h0
  have hk : k < 4 := by omega
  obtain ⟨xst, xslot, xgen⟩ := x
  have hx4 : xst < 4 := hxm.1
  have hlek := cnt_le k es
  obtain ⟨m0, hm0⟩ : ∃ m, cnt xst es = m := ⟨_, rfl⟩
  obtain ⟨mk, hmk⟩ : ∃ m : Nat, (if xst = k then cnt xst es - 1 else cnt k es) = m := ⟨_, rfl⟩
  have b0 : m0 ≤ 1024 := by rw [← hm0]; exact Nat.le_trans hle hl2
  have b00 : 1 ≤ m0 := by rw [← hm0]; exact hpos
  have bk : mk ≤ 1024 := by rw [← hmk]; split <;> omega
  have e0 : w.cell? ⟨e, i * 3, none⟩ = some (.int .i64 (xst : Nat)) := h2.cell (hes i _ hx).1
  have f0 := h2.frozen (i * 3)
  have c1 : w.cell? ⟨b, 2 + xst, none⟩ = some (.int .i64 (m0 : Nat)) := by rw [← hm0]; exact h1.cell (hds _ hx4)
  have f1 := h1.frozen (2 + xst)
  have g1 := h1.set (2 + xst) (.int .i64 ((m0 : Nat) - 1 : Int))
  have c2 : (w.setCell ⟨b, 2 + xst, none⟩ (.int .i64 ((m0 : Nat) - 1 : Int))).cell? ⟨b, 2 + k, none⟩ = some (.int .i64 (mk : Nat)) := by
    refine g1.cell ?_
    rw [Array.getElem?_setIfInBounds]
    by_cases hkk : xst = k
    · subst hkk; rw [if_pos rfl] at hmk ⊢; rw [hm0] at hmk; rw [if_pos (by omega)]; congr 2; omega
    · rw [if_neg hkk] at hmk; rw [if_neg (by omega), ← hmk]; exact hds k hk
  have f2 := h1.frozen (2 + k)
  have G1 := Lib.hid g1
  have G2 := Lib.hid h2
  have H1 := Lib.hid (And.intro hd0 (And.intro hd1 (And.intro hds (And.intro hes (And.intro hset (And.intro hm0 hmk))))))
  have HX := Lib.hid hx
  clear hd0 hd1 hds hes hset hok hm0 hmk g1 hx hxm hpos hle hlek h1 h2
  go_enter Try.func26, Try.ntmps26
  go_wp2
  go_region
  go_wp2
  go_region
  go_wp2
  go_end0
  refine ⟨rfl, ?_, ?_⟩
  · obtain ⟨hd0, hd1, hds, hes, hset, hm0, hmk⟩ := H1.out
    have g2 := (G1.out.set (2 + k) (.int .i64 ((mk : Nat) + 1 : Int))).set_other (p := ⟨e, i * 3, none⟩) hne (.int .i64 (k : Nat))
    have g3 := ((G2.out.set_other (p := ⟨b, 2 + xst, none⟩) (Ne.symm hne) (.int .i64 ((m0 : Nat) - 1 : Int))).set_other (p := ⟨b, 2 + k, none⟩) (Ne.symm hne) (.int .i64 ((mk : Nat) + 1 : Int))).set (i * 3) (.int .i64 (k : Nat))
    refine ⟨_, _, g2, g3, hne, by simp [hsz], by simpa using hlc, hc, ?_, ?_, ?_, ?_⟩
    · rw [Array.getElem?_setIfInBounds_ne (by omega), Array.getElem?_setIfInBounds_ne (by omega), List.length_set]; exact hd0
    · rw [Array.getElem?_setIfInBounds_ne (by omega), Array.getElem?_setIfInBounds_ne (by omega)]; exact hd1
    · intro s hs
      have hss := hset s
      have hds' := hds s hs
      simp only [Array.getElem?_setIfInBounds, Array.size_setIfInBounds]
      simp only [Int.toNat_natCast] at hss ⊢
      by_cases h1 : k = s
      · subst h1
        rw [if_pos rfl, if_pos (by omega)]
        congr 2
        by_cases h2 : xst = k
        · subst h2; simp at hss hmk; omega
        · rw [if_neg h2] at hss hmk; simp at hss; omega
      · rw [if_neg (by omega)]
        rw [if_neg h1] at hss
        by_cases h2 : xst = s
        · subst h2; rw [if_pos rfl, if_pos (by omega)]; congr 2; simp at hss; omega
        · rw [if_neg (by omega), hds']; congr 3; rw [if_neg h2] at hss; omega
    · exact hes.set (j := 0) HX.out _ (by omega) _ (by simp) (by simp) (by simp) (by simp) (by simp) (by simp)
  · exact ((((Only.refl _ w).setCell (p := ⟨b, _, none⟩) (by simp) _).setCell (p := ⟨b, _, none⟩) (by simp) _).setCell (p := ⟨e, _, none⟩) (by simp) _).drew.drew

end Go.Proofs.Ytleimlhcdomffaa
