/- TableNone returns true, whatever it is given. -/
import Derived.Test.YtleimlhcdomffaaTabAwake
import Derived.Lib.SmallJoins
namespace Go.Proofs.Ytleimlhcdomffaa
open Go.RowKit Go.Shelf Go.ChangeShapes Go.WideShapes Go.ChangeAt Go.Joins
set_option linter.unusedVariables false

def NoneInv (w : World) (bl bz ba : Nat) (what slot index off : Int) (W : World) : Prop :=
  Blk W bl #[.pointer none, .pointer (some ⟨bz, 0, none⟩)] 22 ∧ Blk W bz #[.slice none 0 0, .int .i64 0, .int .i64 0, .int .i64 0, .int .i64 0, .int .i64 0] 55 ∧
  Blk W ba #[.int .u8 what, .int .i64 slot, .int .i64 index, .int .i8 off] 40 ∧ Only [] w W

theorem NoneInv.only {w : World} {bl bz ba : Nat} {what slot index off : Int} {W W' : World} (h : NoneInv w bl bz ba what slot index off W) (ho : Only [] W W') : NoneInv w bl bz ba what slot index off W' :=
  ⟨h.1.only ho (by simp), h.2.1.only ho (by simp), h.2.2.1.only ho (by simp), h.2.2.2.trans ho⟩

theorem NoneInv.no {w : World} {bl bz ba : Nat} {what slot index off : Int} {W : World} (h : NoneInv w bl bz ba what slot index off W) {v : Value} (hv : v = .pointer none ∨ v = .pointer (some ⟨bz, 0, none⟩)) : NoTab W v := by
  rcases hv with rfl | rfl
  · exact .inl rfl
  · exact .inr ⟨bz, rfl, h.2.1.cell rfl⟩

set_option maxRecDepth 100000 in
set_option maxHeartbeats 4000000 in
theorem tableNone_any (what slot index off : Int) (w : World) :
    Calls Try.prog 6 #[.agg #[.int .u8 what, .int .i64 slot, .int .i64 index, .int .i8 off]] w (AwakeEnd w) := by
  go_enter Try.func6, Try.ntmps6
  go_wp2_with fail
  have hinv : NoneInv w (w.heap.size + 1 + 1) (w.heap.size + 1) w.heap.size what slot index off (allocs w [(#[.int .u8 what, .int .i64 slot, .int .i64 index, .int .i8 off], 40), (#[.slice none 0 0, .int .i64 0, .int .i64 0, .int .i64 0, .int .i64 0, .int .i64 0], 55), (#[.pointer none, .pointer (some ⟨w.heap.size + 1, 0, none⟩)], 22)]) :=
    ⟨allocs_blk w _ 2 rfl, allocs_blk w _ 1 rfl, allocs_blk w _ 0 rfl, allocs_only _ _⟩
  have HI := Lib.hid hinv
  clear hinv
  go_loopw [5, 6, 7, 8, 9, 10, 11, 12, 13, 14, 15] (fun iv _ _ _ _ _ _ _ _ _ _ wr => ∃ i : Nat, iv = .int .i64 i ∧ i ≤ 2 ∧ Hid (NoneInv w (w.heap.size + 1 + 1) (w.heap.size + 1) w.heap.size what slot index off wr)) (fun iv _ _ _ _ _ _ _ _ _ _ _ => 2 - (intOf iv).toNat)
  case atStart => exact ⟨0, rfl, by omega, HI.out⟩
  case round =>
    obtain ⟨i, rfl, hi, HH⟩ := hrel
    clear HI
    by_cases hlt : i < 2
    · obtain ⟨v, hv, hcell⟩ : ∃ v, (v = .pointer none ∨ v = .pointer (some ⟨w.heap.size + 1, 0, none⟩)) ∧ wr.cell? ⟨w.heap.size + 1 + 1, i, none⟩ = some v := by
        rcases (show i = 0 ∨ i = 1 by omega) with rfl | rfl
        · exact ⟨_, .inl rfl, HH.out.1.cell rfl⟩
        · exact ⟨_, .inr rfl, HH.out.1.cell rfl⟩
      have hpv : ∃ p, v = .pointer p := by rcases hv with rfl | rfl <;> exact ⟨_, rfl⟩
      have HV := Lib.hid hv
      have a1 := HH.out.2.2.1.cell (o := 1) rfl
      obtain ⟨p, rfl⟩ := hpv
      clear hv
      go_wp2_with fail
      refine (Mint_no ⟨p, rfl⟩ (HH.out.no HV.out) _).mono ?_
      rintro r w2 ⟨rfl, ho2⟩
      have H2 := Lib.hid (HH.out.only ho2)
      have a2 := H2.out.2.2.1.cell (o := 2) rfl
      clear ho2 hcell a1 HH
      go_wp2_with (first | (go_at_call 14; refine (Look_no (H2.out.no HV.out) _ _).mono ?_; rintro r w' ⟨rfl, rfl⟩) | (go_at_call 10; refine (Drop_no (H2.out.no HV.out) _ _).mono ?_; rintro r w' ⟨rfl, rfl⟩) | (go_at_call 22; refine (Slot_no (H2.out.no HV.out) _).mono ?_; rintro r w' ⟨rfl, rfl⟩))
      refine (Recycle_no ⟨p, rfl⟩ (H2.out.no HV.out)).mono ?_
      rintro r w3 ⟨rfl, ho3⟩
      have H3 := Lib.hid (H2.out.only ho3)
      clear ho3 a2 H2
      go_wp2_with (first | (go_at_call 13; refine (Free_no (H3.out.no HV.out)).mono ?_; rintro r w' ⟨rfl, rfl⟩) | (go_at_call 15; refine (Live_no (H3.out.no HV.out)).mono ?_; rintro r w' ⟨rfl, rfl⟩) | (go_at_call 16; refine (Dropped_no (H3.out.no HV.out)).mono ?_; rintro r w' ⟨rfl, rfl⟩) | (go_at_call 12; refine (Retired_no (H3.out.no HV.out)).mono ?_; rintro r w' ⟨rfl, rfl⟩) | (go_at_call 17; refine (Len_no (H3.out.no HV.out)).mono ?_; rintro r w' ⟨rfl, rfl⟩) | (go_at_call 19; refine (Copy_no (H3.out.no HV.out)).mono ?_; rintro r w' ⟨rfl, rfl⟩))
      go_roundw
      case rel => exact ⟨i + 1, by go_num, by omega, H3.out⟩
      case measure => simp [intOf]; omega
    · go_wp2_with (go_at_call 8; refine (awake_any _).mono ?_; rintro r w' ⟨rfl, ho⟩; have HA := Lib.hid ho; clear ho)
      go_ret
      exact ⟨rfl, HH.out.2.2.2.trans HA.out⟩

theorem tableNone_call {H : Type} {enc : TypeId × Value → H} (W : World) (base : Nat) (v0 : Value) {d0 : DataW H} {p0 : List MemPlace}
    (o0 : Value.okWide Try.prog W .any base 40 v0) (h0 : DataW.Trod enc Try.prog W 0 (fun _ => true) true 40 v0 d0 p0) :
    Calls Try.prog 6 #[v0] W (AwakeEnd W) := by
  obtain ⟨c0, c1, c2, c3, y0, y1, y2, y3, m, rfl, rfl, rfl, hy0, hy1, hy2, hy3⟩ := open_agg4 Try.underlying40 (by kernel_rfl) (by kernel_rfl) o0 h0
  obtain ⟨a0, e0, -, wa0⟩ := DataW.trod_int Try.underlying5 hy0
  obtain ⟨a1, e1, -, wa1⟩ := DataW.trod_int Try.underlying3 hy1
  obtain ⟨a2, e2, -, wa2⟩ := DataW.trod_int Try.underlying3 hy2
  obtain ⟨a3, e3, -, wa3⟩ := DataW.trod_int Try.underlying38 hy3
  simp at e0 e1 e2 e3
  subst e0 e1 e2 e3
  exact tableNone_any a0 a1 a2 a3 W

end Go.Proofs.Ytleimlhcdomffaa
