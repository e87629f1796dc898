/- TableLong returns true, whatever it is given. -/
import Derived.Test.YtleimlhcdomffaaTabAwake
namespace Go.Proofs.Ytleimlhcdomffaa
open Go.RowKit Go.Shelf Go.ChangeShapes Go.WideShapes Go.ChangeAt
set_option linter.unusedVariables false

/-- the one entry, before the i-th round -/
def longEnt (n i : Nat) : Ent := if i ≤ n then ⟨0, 0, i⟩ else ⟨3, 0, n⟩

theorem mint_one (i : Nat) (slot : Int) (h : 0 ≤ slot) : mintP [⟨0, 0, i⟩] slot = (0, (i : Int), 0) ∧ mintEs [⟨0, 0, i⟩] slot = [⟨1, slot, i⟩] := by
  have hf : firstFree [⟨0, 0, i⟩] = some 0 := by simp [firstFree]
  refine ⟨?_, ?_⟩
  · unfold mintP genAt; rw [if_neg (by omega), hf]; simp
  · unfold mintEs; rw [if_neg (by omega), hf]; simp
theorem named_one (i : Nat) (slot : Int) : namedAt [⟨1, slot, i⟩] 0 i = some 0 := by simp [namedAt]
theorem look_one (i : Nat) (slot : Int) : lookP [⟨1, slot, i⟩] 0 i = (slot, 0) ∧ dropP [⟨1, slot, i⟩] 0 i = [⟨2, slot, i⟩] := by
  refine ⟨?_, ?_⟩
  · unfold lookP; rw [named_one]; simp [slotAt]
  · unfold dropP; rw [named_one]; simp
theorem rec_one (n i : Nat) (slot : Int) (h : i ≤ n) : List.map (recEnt n) [⟨2, slot, i⟩] = [longEnt n (i + 1)] ∧ List.countP (recFrees n) [⟨2, slot, i⟩] = if i < n then 1 else 0 := by
  refine ⟨?_, ?_⟩
  · simp only [List.map_cons, List.map_nil, recEnt, longEnt, if_true]
    by_cases h1 : n ≤ i
    · rw [if_pos (by omega), if_neg (by omega)]; congr 2; omega
    · rw [if_neg (by omega), if_pos (by omega)]
  · simp only [List.countP_singleton, recFrees]
    by_cases h1 : i < n
    · simp [h1]
    · simp [h1]

theorem ok_one' (x : Ent) (h : x.st < 4 ∧ x.gen ≤ 2147483648 ∧ 0 ≤ x.slot ∧ x.slot ≤ 9223372036854775807) : EntsOk [x] := ⟨by simp, by simp, by simpa using h⟩

set_option maxRecDepth 100000 in
set_option maxHeartbeats 4000000 in
theorem tableLong_pos (g : Int) (slot : Int) (w : World) (hg0 : 0 ≤ g) (hg : g ≤ 255) (hs : 0 ≤ slot) (hs2 : slot ≤ 9223372036854775807) :
    Calls Try.prog 3 #[.int .u8 g, .int .i64 slot] w (AwakeEnd w) := by
  obtain ⟨n, hn⟩ : ∃ n : Nat, 1 + g % 200 = (n : Int) := ⟨(1 + g % 200).toNat, by omega⟩
  have hn1 : 1 ≤ n := by omega
  have hn2 : n ≤ 200 := by omega
  have HN := Lib.hid hn
  have hslt : decide (slot < 0) = false := by simpa using hs
  have knew := New_int 1 (1 + g % 200) w (by omega) (by omega) (by omega) (by omega)
  have Knew := Lib.hid knew
  clear knew hn
  go_enter Try.func3, Try.ntmps3
  go_wp2_with fail
  refine Knew.out.mono ?_
  rintro r w1 ⟨b, e, rfl, hb, he, hT1, hO1⟩
  rw [HN.out] at hT1 ⊢
  change Tab w1 b e 1 [ent0] n at hT1
  have HK := Lib.hid (And.intro hT1 hO1)
  clear hT1 hO1 Knew
  go_wp2_with fail
  go_loopw [8, 9, 10, 11, 12, 13] (fun iv _ _ _ _ _ wr => ∃ i : Nat, iv = .int .i64 i ∧ 1 ≤ i ∧ i ≤ n + 1 ∧ Hid (Tab wr b e 1 [longEnt n i] n ∧ Only [b, e] w wr)) (fun iv _ _ _ _ _ _ => n + 1 - (intOf iv).toNat)
  case atStart =>
    obtain ⟨hT1, hO1⟩ := HK.out
    refine ⟨1, rfl, by omega, by omega, ?_, hO1.to⟩
    rw [longEnt, if_pos hn1]; exact hT1
  case round =>
    obtain ⟨i, rfl, hi1, hi2, HH⟩ := hrel
    by_cases hle : i ≤ n
    · obtain ⟨hT, hO⟩ := HH.out
      rw [longEnt, if_pos hle] at hT
      have k1 := Mint_tab hT (ok_one' _ (by simp; omega)) slot hs
      rw [(mint_one i slot hs).1, (mint_one i slot hs).2] at k1
      have K1 := Lib.hid k1
      have HO := Lib.hid hO
      clear k1 hT hO HH HK
      go_wp2_with fail
      refine K1.out.mono ?_
      rintro r w2 ⟨rfl, hT2, hO2⟩
      have k2 := Drop_tab hT2 (ok_one' _ (by simp; omega)) 0 i
      rw [(look_one i slot).1, (look_one i slot).2] at k2
      have K2 := Lib.hid k2
      have HO2 := Lib.hid hO2
      clear k2 hT2 hO2 K1
      go_wp2_with fail
      refine K2.out.mono ?_
      rintro r w3 ⟨rfl, hT3, hO3⟩
      have k3 := Recycle_tab hT3 (ok_one' _ (by simp; omega)) (by omega) (by omega)
      rw [(rec_one n i slot hle).1, (rec_one n i slot hle).2] at k3
      have K3 := Lib.hid k3
      have HO3 := Lib.hid hO3
      clear k3 hT3 hO3 K2
      by_cases hlt : i < n
      · go_wp2_with fail
        rw [if_pos hlt] at K3
        refine K3.out.mono ?_
        rintro r w4 ⟨rfl, hT4, hO4⟩
        have HF := Lib.hid (And.intro hT4 hO4)
        clear hT4 hO4 K3
        go_wp2
        go_roundw
        case rel => exact ⟨i + 1, by go_num, by omega, by omega, HF.out.1, ((HO.out.trans HO2.out).trans HO3.out).trans HF.out.2⟩
        case measure => simp [intOf]; omega
      · go_wp2_with fail
        rw [if_neg hlt] at K3
        refine K3.out.mono ?_
        rintro r w4 ⟨rfl, hT4, hO4⟩
        have HF := Lib.hid (And.intro hT4 hO4)
        clear hT4 hO4 K3
        go_wp2
        go_roundw
        case rel => exact ⟨i + 1, by go_num, by omega, by omega, HF.out.1, ((HO.out.trans HO2.out).trans HO3.out).trans HF.out.2⟩
        case measure => simp [intOf]; omega
    · obtain ⟨hT, hO⟩ := HH.out
      rw [longEnt, if_neg hle] at hT
      have k1 := Mint_tab hT (ok_one' _ (by simp; omega)) slot hs
      rw [show mintP [⟨3, 0, n⟩] slot = (0, 0, 131) by unfold mintP; rw [if_neg (by omega)]; rfl, show mintEs [⟨3, 0, n⟩] slot = [⟨3, 0, n⟩] by unfold mintEs; rw [if_neg (by omega)]; rfl] at k1
      have K1 := Lib.hid k1
      have HO := Lib.hid hO
      clear k1 hT hO HH HK
      go_wp2_with fail
      refine K1.out.mono ?_
      rintro r w2 ⟨rfl, hT2, hO2⟩
      have k2 := Retired_tab hT2 (ok_one' _ (by simp; omega))
      rw [show cnt 3 [⟨3, 0, n⟩] = 1 by rfl] at k2
      have K2 := Lib.hid k2
      have HO2 := Lib.hid hO2
      clear k2 hT2 hO2 K1
      go_wp2_with (first | (go_at_call 12; refine K2.out.mono ?_; rintro r w' ⟨rfl, rfl⟩) | (go_at_call 8; refine (awake_any _).mono ?_; rintro r w' ⟨rfl, ho⟩; have HA := Lib.hid ho; clear ho))
      go_ret
      refine ⟨rfl, ?_⟩
      exact (((HO.out).trans HO2.out).trans HA.out.to).strip (by simp; omega)

set_option maxRecDepth 100000 in
set_option maxHeartbeats 1000000 in
theorem tableLong_neg (g : Int) (slot : Int) (w : World) (hg0 : 0 ≤ g) (hg : g ≤ 255) (hs : slot < 0) :
    Calls Try.prog 3 #[.int .u8 g, .int .i64 slot] w (AwakeEnd w) := by
  have knew := New_int 1 (1 + g % 200) w (by omega) (by omega) (by omega) (by omega)
  have Knew := Lib.hid knew
  clear knew
  go_enter Try.func3, Try.ntmps3
  go_wp2_with fail
  refine Knew.out.mono ?_
  rintro r w1 ⟨b, e, rfl, hb, he, hT1, hO1⟩
  have HK := Lib.hid hO1
  clear hT1 hO1 Knew
  go_wp2_with (go_at_call 8; refine (awake_any _).mono ?_; rintro r w' ⟨rfl, ho⟩; have HA := Lib.hid ho; clear ho)
  go_ret
  exact ⟨rfl, HK.out.trans HA.out⟩

theorem tableLong_call {H : Type} {enc : TypeId × Value → H} (W : World) (base : Nat) (v0 v1 : Value) {d0 d1 : DataW H} {p0 p1 : List MemPlace}
    (o0 : Value.okWide Try.prog W .any base 5 v0) (h0 : DataW.Trod enc Try.prog W 0 (fun _ => true) true 5 v0 d0 p0)
    (o1 : Value.okWide Try.prog W .any base 3 v1) (h1 : DataW.Trod enc Try.prog W 0 (fun _ => true) true 3 v1 d1 p1) :
    Calls Try.prog 3 #[v0, v1] W (AwakeEnd W) := by
  obtain ⟨a0, rfl, rfl, rfl, w0⟩ := open_int Try.underlying5 o0 h0
  obtain ⟨a1, rfl, rfl, rfl, w1⟩ := open_int Try.underlying3 o1 h1
  have b0 : 0 ≤ a0 ∧ a0 ≤ 255 := by simpa [Lit.wf, IntKind.min, IntKind.max, IntKind.signed, IntKind.bits] using w0
  have b1 : -9223372036854775808 ≤ a1 ∧ a1 ≤ 9223372036854775807 := by simpa [Lit.wf, IntKind.min, IntKind.max, IntKind.signed, IntKind.bits] using w1
  by_cases hs : a1 < 0
  · exact tableLong_neg a0 a1 W b0.1 b0.2 hs
  · exact tableLong_pos a0 a1 W b0.1 b0.2 (by omega) b1.2

end Go.Proofs.Ytleimlhcdomffaa
