/- The known answers of layer 13. -/
import Derived.Test.YtleimlhcdomffaaTabW7
import Derived.Test.YtleimlhcdomffaaTabW8
namespace Go.Proofs.Ytleimlhcdomffaa
open Go.RowKit Go.Shelf
set_option linter.unusedVariables false

theorem New_int (many gens : Int) (w : World) (h1 : 1 ≤ many) (h2 : many ≤ 1024) (h3 : 1 ≤ gens) (h4 : gens ≤ 2147483648) :
    Calls Try.prog 7 #[.int .i64 many, .int .i64 gens] w fun r w' => ∃ b e, r = .returned (.tuple #[.pointer (some ⟨b, 0, none⟩), .int .i64 0]) ∧
      w.heap.size ≤ b ∧ w.heap.size ≤ e ∧ Tab w' b e many.toNat (List.replicate many.toNat ent0) gens ∧ Only [] w w' := by
  obtain ⟨n, rfl⟩ := Int.eq_ofNat_of_zero_le (show 0 ≤ many by omega)
  exact New_tab n gens w (by omega) (by omega) h3 h4

def AwakeEnd (w : World) (e : Ending) (w' : World) : Prop := e = .returned (.bool true) ∧ Only [] w w'

set_option maxRecDepth 100000 in
set_option maxHeartbeats 2000000 in
theorem awake_any (w : World) : Calls Try.prog 8 #[] w (AwakeEnd w) := by
  go_enter Try.func8, Try.ntmps8
  go_wp2_with fail
  refine (New_int 2 2 w (by omega) (by omega) (by omega) (by omega)).mono ?_
  rintro r w1 ⟨b, e, rfl, hb, he, hT1, hO1⟩
  have o1 : EntsOk [ent0, ent0] := by decide
  change Tab w1 b e 2 [ent0, ent0] 2 at hT1
  have k1 := Mint_tab hT1 o1 7 (by omega)
  rw [show mintP [ent0, ent0] 7 = (0, 1, 0) by decide, show mintEs [ent0, ent0] 7 = [⟨1, 7, 1⟩, ent0] by decide] at k1
  have K1 := Lib.hid k1
  have HO1 := Lib.hid hO1
  clear k1 hT1 o1 hO1
  go_wp2_with fail
  refine K1.out.mono ?_
  rintro r w2 ⟨rfl, hT2, hO2⟩
  have k2 := Mint_tab hT2 (by decide) 8 (by omega)
  rw [show mintP [⟨1, 7, 1⟩, ent0] 8 = (1, 1, 0) by decide, show mintEs [⟨1, 7, 1⟩, ent0] 8 = [⟨1, 7, 1⟩, ⟨1, 8, 1⟩] by decide] at k2
  have K2 := Lib.hid k2
  have HO2 := Lib.hid hO2
  clear k2 hT2 hO2
  go_wp2_with fail
  refine K2.out.mono ?_
  rintro r w3 ⟨rfl, hT3, hO3⟩
  have k3 := Mint_tab hT3 (by decide) 9 (by omega)
  rw [show mintP [⟨1, 7, 1⟩, ⟨1, 8, 1⟩] 9 = (0, 0, 131) by decide, show mintEs [⟨1, 7, 1⟩, ⟨1, 8, 1⟩] 9 = [⟨1, 7, 1⟩, ⟨1, 8, 1⟩] by decide] at k3
  have K3 := Lib.hid k3
  have HO3 := Lib.hid hO3
  clear k3 hT3 hO3
  go_wp2_with fail
  refine K3.out.mono ?_
  rintro r w4 ⟨rfl, hT4, hO4⟩
  have k4 := Drop_tab hT4 (by decide) 0 1
  rw [show lookP [⟨1, 7, 1⟩, ⟨1, 8, 1⟩] 0 1 = (7, 0) by decide, show dropP [⟨1, 7, 1⟩, ⟨1, 8, 1⟩] 0 1 = [⟨2, 7, 1⟩, ⟨1, 8, 1⟩] by decide] at k4
  have K4 := Lib.hid k4
  have HO4 := Lib.hid hO4
  clear k4 hT4 hO4
  go_wp2_with fail
  refine K4.out.mono ?_
  rintro r w5 ⟨rfl, hT5, hO5⟩
  have k5 := Look_tab hT5 (by decide) 0 1
  rw [show lookP [⟨2, 7, 1⟩, ⟨1, 8, 1⟩] 0 1 = (0, 130) by decide] at k5
  have K5 := Lib.hid k5
  have k5a := Dropped_tab hT5 (by decide)
  rw [show cnt 2 [⟨2, 7, 1⟩, ⟨1, 8, 1⟩] = 1 by decide] at k5a
  have K5a := Lib.hid k5a
  clear k5a
  have k5b := Recycle_tab hT5 (by decide) (by omega) (by omega)
  rw [show List.map (recEnt 2) [⟨2, 7, 1⟩, ⟨1, 8, 1⟩] = [⟨0, 0, 2⟩, ⟨1, 8, 1⟩] by decide, show List.countP (recFrees 2) [⟨2, 7, 1⟩, ⟨1, 8, 1⟩] = 1 by decide] at k5b
  have K5b := Lib.hid k5b
  have HO5 := Lib.hid hO5
  clear k5 hT5 hO5 k5b
  go_wp2_with (first | (go_at_call 14; refine K5.out.mono ?_; rintro r w' ⟨rfl, rfl⟩) | (go_at_call 16; refine K5a.out.mono ?_; rintro r w' ⟨rfl, rfl⟩))
  refine K5b.out.mono ?_
  rintro r w6 ⟨rfl, hT6, hO6⟩
  have k6 := Mint_tab hT6 (by decide) 9 (by omega)
  rw [show mintP [⟨0, 0, 2⟩, ⟨1, 8, 1⟩] 9 = (0, 2, 0) by decide, show mintEs [⟨0, 0, 2⟩, ⟨1, 8, 1⟩] 9 = [⟨1, 9, 2⟩, ⟨1, 8, 1⟩] by decide] at k6
  have K6 := Lib.hid k6
  have HO6 := Lib.hid hO6
  clear k6 hT6 hO6
  go_wp2_with fail
  refine K6.out.mono ?_
  rintro r w7 ⟨rfl, hT7, hO7⟩
  have k7 := Drop_tab hT7 (by decide) 0 2
  rw [show lookP [⟨1, 9, 2⟩, ⟨1, 8, 1⟩] 0 2 = (9, 0) by decide, show dropP [⟨1, 9, 2⟩, ⟨1, 8, 1⟩] 0 2 = [⟨2, 9, 2⟩, ⟨1, 8, 1⟩] by decide] at k7
  have K7 := Lib.hid k7
  have HO7 := Lib.hid hO7
  clear k7 hT7 hO7
  go_wp2_with fail
  refine K7.out.mono ?_
  rintro r w8 ⟨rfl, hT8, hO8⟩
  have k8 := Recycle_tab hT8 (by decide) (by omega) (by omega)
  rw [show List.map (recEnt 2) [⟨2, 9, 2⟩, ⟨1, 8, 1⟩] = [⟨3, 0, 2⟩, ⟨1, 8, 1⟩] by decide, show List.countP (recFrees 2) [⟨2, 9, 2⟩, ⟨1, 8, 1⟩] = 0 by decide] at k8
  have K8 := Lib.hid k8
  have HO8 := Lib.hid hO8
  clear k8 hT8 hO8
  go_wp2_with fail
  refine K8.out.mono ?_
  rintro r w9 ⟨rfl, hT9, hO9⟩
  have k9 := Slot_tab hT9 (by decide) 1
  rw [show slotP [⟨3, 0, 2⟩, ⟨1, 8, 1⟩] 1 = (8, true) by decide] at k9
  have K9 := Lib.hid k9
  have k10 := Retired_tab hT9 (by decide)
  rw [show cnt 3 [⟨3, 0, 2⟩, ⟨1, 8, 1⟩] = 1 by decide] at k10
  have K10 := Lib.hid k10
  have k11 := Free_tab hT9 (by decide)
  rw [show cnt 0 [⟨3, 0, 2⟩, ⟨1, 8, 1⟩] = 0 by decide] at k11
  have K11 := Lib.hid k11
  have HO9 := Lib.hid hO9
  clear k9 hT9 hO9 k10 k11
  go_wp2_with (first | (go_at_call 22; refine K9.out.mono ?_; rintro r w' ⟨rfl, rfl⟩) | (go_at_call 12; refine K10.out.mono ?_; rintro r w' ⟨rfl, rfl⟩) | (go_at_call 13; refine K11.out.mono ?_; rintro r w' ⟨rfl, rfl⟩))
  go_ret
  refine ⟨rfl, ?_⟩
  have hs := HO1.out.size
  exact ((((((((HO1.out.transL HO2.out).transL HO3.out).transL HO4.out).transL HO5.out).transL HO6.out).transL HO7.out).transL HO8.out).transL HO9.out).strip (by simp <;> omega)

end Go.Proofs.Ytleimlhcdomffaa
