/- The iterator over a table's entries. -/
import Derived.Test.YtleimlhcdomffaaTabW3
import Derived.Test.YtleimlhcdomffaaRange
import Derived.Shelf.Abstract
import Derived.Shelf.RegionOpen
import Derived.OwnWalkIn
import Derived.TacticsInMore
import Derived.LoopNIn
import Derived.LoopIn
import Derived.Sort.BigQuietIn
namespace Go.Proofs.Ytleimlhcdomffaa
open Go.RowKit Go.Shelf
set_option linter.unusedVariables false
attribute [local go_sem] Oper.semAt_some

theorem in_tab (w : World) (v : Option Addr) (s : Int) (n : Nat) :
    CallsIn Fence.wide n Try.prog 25 #[.pointer v, .int .i64 s] w fun r w' =>
      r = .returned (.func (.func 37) #[] #[.pointer (some ⟨w.heap.size, 0, none⟩), .pointer (some ⟨w.heap.size + 1, 0, none⟩)]) ∧
      w' = (w.alloc (.cells #[.pointer v] 22)).alloc (.cells #[.int .i64 s] 3) := by
  refine callsIn_wide.2 ?_
  go_enter Try.func25, Try.ntmps25
  go_wp2
  go_ret
  exact ⟨rfl, rfl⟩

/-- what a round has said -/
def Said (J : World → Prop) (Jx : World → Prop) (t : Bool) (W : World) : Prop := if t then J W else Jx W

theorem in1_tab (m l : Nat) (st : Int) (bt bs b e c n : Nat) (J : Nat → World → Prop) (Jx : World → Prop) (hn : n ≤ 1000000)
    (hread : ∀ i W, J i W → Blk W bt #[.pointer (some ⟨b, 0, none⟩)] 22 ∧ Blk W bs #[.int .i64 st] 3 ∧
      W.cell? ⟨b, 0, none⟩ = some (.slice (some ⟨e, 0, none⟩) n c) ∧ (i < n → ∃ s, W.cell? ⟨e, i * 3, none⟩ = some (.int .i64 s)))
    (hskip : ∀ i W s, J i W → i < n → W.cell? ⟨e, i * 3, none⟩ = some (.int .i64 s) → s ≠ st → J (i + 1) W)
    (hdrew : ∀ i W, J i W → J i W.drew)
    (hyield : ∀ i W, J i W → i < n → W.cell? ⟨e, i * 3, none⟩ = some (.int .i64 st) →
      YieldAt Fence.wide (m - 1) Try.prog l #[.int .i64 i, .pointer (some ⟨e, i * 3, none⟩)] W fun r W' =>
        ∃ t, r = .returned (.bool t) ∧ Said (J (i + 1)) Jx t W')
    (W : World) (h0 : J 0 W) :
    CallsIn Fence.wide m Try.prog 37 (#[.func (.yield l) #[] #[]] ++ #[.pointer (some ⟨bt, 0, none⟩), .pointer (some ⟨bs, 0, none⟩)]) W fun r W' =>
      (∃ v, r = .returned v) ∧ (J n W' ∨ Jx W') := by
  refine callsIn_of_wp Try.func37 rfl trivial ?_ rfl
  simp only [Try.ntmps37, List.size_toArray, List.length_cons, List.length_nil, Nat.reduceAdd, Nat.reduceSub, Array.replicate_succ, Array.replicate_zero, List.push_toArray, List.append_toArray, List.nil_append, List.cons_append]
  obtain ⟨r1, r2, r3, r4⟩ := hread 0 W h0
  have c1 := r1.cell (o := 0) rfl
  have c2 := r2.cell (o := 0) rfl
  have HR := Lib.hid (And.intro hread (And.intro hskip (And.intro hdrew hyield)))
  clear hread hskip hdrew hyield r1 r2 r4
  gi_wp2
  gi_loopw [4, 5, 11] (fun _ _ i wr => ∃ k : Nat, k ≤ n ∧ i = .int .i64 k ∧ J k wr) (fun _ _ i wr => n - (intOf i).toNat)
  case atStart => exact ⟨0, by omega, rfl, h0⟩
  case round =>
    obtain ⟨k, hk, rfl, hJ⟩ := hrel
    clear c1 c2 r3 h0
    obtain ⟨hread, hskip, hdrew, hyield⟩ := HR.out
    obtain ⟨r1, r2, r3, r4⟩ := hread k wr hJ
    have c1 := r1.cell (o := 0) rfl
    have c2 := r2.cell (o := 0) rfl
    by_cases hlt : k < n
    · obtain ⟨s, hs⟩ := r4 hlt
      by_cases hss : s = st
      · subst hss
        obtain ⟨fn, tmps, assign, body, hy, hR⟩ := hyield k wr.drew (hdrew _ _ hJ) hlt hs
        have HRR := Lib.hid hR
        clear hread hskip hdrew hyield r1 r2 r4 hR
        have hb : (s == s) = true := by simp
        gi_wp2
        gi_region_with (refine ⟨fun h => (by simp [Fence.wide] at h), (HRR.out).mono ?_⟩; rintro e W3 ⟨t, rfl, hz⟩)
        all_goals (cases t)
        all_goals gi_wp2
        all_goals first
          | (refine bodyPost_ret (results_none rfl _ _ _) rfl ?_; exact ⟨⟨_, rfl⟩, .inr hz⟩)
          | exact ⟨⟨k + 1, by omega, by go_num, hz⟩, by simp [intOf]; omega⟩
      · have hb : (s == st) = false := by simp [hss]
        have hJ' := fun nq => hskip k (wr.drewN nq) s (by induction nq with | zero => exact hJ | succ nq ih => exact hdrew _ _ ih) hlt (by simpa using hs) hss
        clear hread hskip hdrew hyield r1 r2 r4
        gi_wp2
        refine wpIn_region_quiet_lit rfl (by kernel_rfl) (by kernel_rfl) ?_
        repeat (gi_big_quiet_step (fail))
        refine BigFrame.wpQuietIn_skip (fun _ _ _ _ => trivial) rfl ?_
        simp only [Act.put, List.setIfInBounds_toArray, List.set_cons_succ, List.set_cons_zero]
        repeat (gi_big_quiet_step (fail))
        refine wpQuietIn_nil ?_
        rintro _ ⟨nq, rfl⟩
        gi_wp2
        go_roundw
        case rel => exact ⟨k + 1, by omega, by go_num, hJ' nq⟩
        case measure => simp [intOf]; omega
    · clear hread hskip hdrew hyield r1 r2 r4
      gi_wp2
      go_end0
      obtain rfl : k = n := by omega
      exact ⟨⟨_, rfl⟩, .inl hJ⟩

end Go.Proofs.Ytleimlhcdomffaa
