/- New, and what it calls. -/
import Derived.Test.YtleimlhcdomffaaTabW6
import Derived.Test.YtleimlhcdomffaaMem
import Derived.Test.YtleimlhcdomffaaShelf
namespace Go.Proofs.Ytleimlhcdomffaa
open Go.RowKit Go.Shelf
set_option linter.unusedVariables false

theorem infoEnt : (Try.prog.info? 62).map (fun i => (i.zero, i.size, i.bytes)) = some (some (.agg #[.int .i64 0, .int .i64 0, .int .u32 0]), 3, 24) := by kernel_rfl
theorem sizeEnt : (Try.prog.info? 62).map (·.size) = some 3 := by kernel_rfl

def ent0 : Ent := ⟨0, 0, 1⟩

theorem madeEnt_size (n : Nat) : (madeCells #[.int .i64 0, .int .i64 0, .int .u32 0] (n * 3)).size = n * 3 := size_madeCells _ _

/-- the first n entries of cells are new ones -/
def NewEnts (arr : Array Value) (n : Nat) : Prop := ∀ i, i < n → arr[i * 3]? = some (.int .i64 0) ∧ arr[i * 3 + 1]? = some (.int .i64 0) ∧ arr[i * 3 + 2]? = some (.int .u32 1)

theorem NewEnts.rows {arr : Array Value} {n : Nat} (h : NewEnts arr n) : EntRows arr (List.replicate n ent0) := by
  intro i x hx
  rw [List.getElem?_replicate] at hx
  split at hx
  · rename_i hi; cases hx; exact h i hi
  · cases hx

theorem copy_new {arr : Array Value} {n m k : Nat} (h : NewEnts arr n) (hk : k = min n (m - n)) (hn : n ≤ m) (hs : arr.size = m * 3) :
    NewEnts (over arr (n * 3) ((arr.toList.take (k * 3)))) (n + k) ∧ (over arr (n * 3) (arr.toList.take (k * 3))).size = m * 3 := by
  have hl : (arr.toList.take (k * 3)).length = k * 3 := by simp; omega
  have hfit : n * 3 + (arr.toList.take (k * 3)).length ≤ arr.size := by rw [hl]; omega
  refine ⟨?_, by rw [over_size _ _ _ hfit]; exact hs⟩
  intro i hi
  have get : ∀ j, j < 3 → (over arr (n * 3) (arr.toList.take (k * 3)))[i * 3 + j]? = if i < n then arr[i * 3 + j]? else arr[(i - n) * 3 + j]? := by
    intro j hj
    rw [over_get _ _ _ hfit, hl]
    by_cases h1 : i < n
    · rw [if_pos (by omega), if_pos h1]
    · rw [if_neg (by omega), if_pos (by omega), if_neg h1, List.getElem?_take, if_pos (by omega)]
      rw [show i * 3 + j - n * 3 = (i - n) * 3 + j by omega]; simp
  have g0 := get 0 (by omega)
  have g1 := get 1 (by omega)
  have g2 := get 2 (by omega)
  simp only [Nat.add_zero] at g0
  rw [g0, g1, g2]
  by_cases h1 : i < n
  · simp only [if_pos h1]; exact h i h1
  · simp only [if_neg h1]; exact h (i - n) (by omega)

theorem Repeat_ent {w : World} {bx : Nat} (hx : Blk w bx #[.int .i64 0, .int .i64 0, .int .u32 1] 62) (many : Nat) (h1 : 1 ≤ many) (h2 : many ≤ 1024) :
    Calls Try.prog 23 #[.slice (some ⟨bx, 0, none⟩) 1 1, .int .i64 many] w fun r w' =>
      ∃ arr, r = .returned (.slice (some ⟨w.heap.size, 0, none⟩) many many) ∧ Blk w' w.heap.size arr 62 ∧ arr.size = many * 3 ∧ NewEnts arr many ∧ Only [] w w' := by
  have hmul := Try.bits_Mul 1 many (by omega) (by omega)
  have e1 : ((1 * many / 18446744073709551616 : Nat) : Int) = 0 := by rw [Nat.div_eq_of_lt (by omega)]; rfl
  have e2 : ((1 * many % 18446744073709551616 : Nat) : Int) = (many : Int) := by rw [Nat.mod_eq_of_lt (by omega)]; omega
  simp only [e1, e2, show ((1 : Nat) : Int) = 1 from rfl] at hmul
  have Hm := Lib.hid hmul
  have hmk := run_make_cells (P := Try.prog) 52 62 _ 3 24 Try.underlying52 infoEnt .i64 .i64 many (by omega) (by omega) w
  have hb := hx.lt
  have hz := madeEnt_size many
  obtain ⟨cur, hcur⟩ : ∃ cur, madeCells #[.int .i64 0, .int .i64 0, .int .u32 0] (many * 3) = cur := ⟨_, rfl⟩
  rw [show (Value.agg #[.int .i64 0, .int .i64 0, .int .u32 0]).cells = #[.int .i64 0, .int .i64 0, .int .u32 0] from rfl, hcur] at hmk
  rw [hcur] at hz
  clear hcur
  have hbn := Blk.new w cur 62
  have hfit : 0 + [Value.int .i64 0, .int .i64 0, .int .u32 1].length ≤ cur.size := by rw [hz]; simp; omega
  have hcp := run_copy_cells_n (P := Try.prog) (w.alloc (.cells cur 62)) 52 52 3 62 w.heap.size 0 many many ⟨bx, 0, none⟩ 1 1 3 cur 62 [.int .i64 0, .int .i64 0, .int .u32 1] Try.underlying52 sizeEnt hbn (by simp [Nat.min_eq_left h1])
    (by
      intro j v hj
      have hj3 : j < 3 := by have := lt_of_get hj; simpa using this
      rw [show (⟨bx, 0, none⟩ : Addr).add j = ⟨bx, j, none⟩ by unfold Addr.add; split <;> simp_all]
      exact (hx.alloc _).cell (by simpa using hj)) hfit (by simp [Value.oneCell'])
  rw [show Nat.min 1 many = 1 by exact Nat.min_eq_left h1] at hcp
  have hov := over_get cur 0 _ hfit
  have hb1 := hbn.setRow (over cur 0 [.int .i64 0, .int .i64 0, .int .u32 1])
  have ho1 : Only [] w ((w.alloc (.cells cur 62)).setRow w.heap.size (over cur 0 [.int .i64 0, .int .i64 0, .int .u32 1])) := ((Only.refl _ w).alloc _).setRow (by simp) _
  have hn1 : NewEnts (over cur 0 [.int .i64 0, .int .i64 0, .int .u32 1]) 1 := by
    intro i hi
    obtain rfl : i = 0 := by omega
    refine ⟨?_, ?_, ?_⟩ <;> rw [hov] <;> simp
  have hs1 := over_size cur 0 _ hfit
  rw [hz] at hs1
  obtain ⟨W1, hW1⟩ : ∃ W1, (w.alloc (.cells cur 62)).setRow w.heap.size (over cur 0 [.int .i64 0, .int .i64 0, .int .u32 1]) = W1 := ⟨_, rfl⟩
  rw [hW1] at hcp hb1 ho1
  have hstart : ∃ arr, Blk W1 w.heap.size arr 62 ∧ arr.size = many * 3 ∧ NewEnts arr 1 ∧ Only [] w W1 := ⟨_, hb1, hs1, hn1, ho1⟩
  have HS := Lib.hid hstart
  clear hstart hb1 ho1 hn1 hs1 hov hbn hfit hz hmul e1 e2 hW1 hx
  have hg1 : goInt ((1 : Nat) : Int) = .int .i64 1 := rfl
  rw [hg1] at hcp
  clear hg1
  go_enter Try.func23, Try.ntmps23
  go_wp2_with (go_at_call 36; refine (Hm.out _).mono ?_; rintro e w' ⟨rfl, hw⟩; obtain rfl := hw.symm)
  clear hcp hmk
  go_loopw [8] (fun nv wr => ∃ (n : Nat) (arr : Array Value), nv = .int .i64 n ∧ 1 ≤ n ∧ n ≤ many ∧ Hid (Blk wr w.heap.size arr 62 ∧ arr.size = many * 3 ∧ NewEnts arr n ∧ Only [] w wr)) (fun nv wr => many - (intOf nv).toNat)
  case atStart =>
    obtain ⟨arr, hs⟩ := HS.out
    exact ⟨1, arr, rfl, by omega, by omega, hs⟩
  case round =>
    obtain ⟨n, arr, rfl, hn1, hn2, HH⟩ := hrel
    by_cases hlt : n < many
    · obtain ⟨hB, hsz, hN, hO⟩ := HH.out
      obtain ⟨k, hk⟩ : ∃ k, k = min n (many - n) := ⟨_, rfl⟩
      have hk1 : 1 ≤ k := by omega
      have hkn : k ≤ many - n := by omega
      obtain ⟨hN2, hsz2⟩ := copy_new hN hk hn2 hsz
      have hl : (arr.toList.take (k * 3)).length = k * 3 := by simp; omega
      have hcp := run_copy_cells_n (P := Try.prog) wr.drew 52 52 3 62 w.heap.size (n * 3) (many - n) (many - n) ⟨w.heap.size, 0, none⟩ n many 3 arr 62 (arr.toList.take (k * 3)) Try.underlying52 sizeEnt hB
        (by rw [hl, hk])
        (by
          intro j v hj
          rw [List.getElem?_take] at hj
          split at hj
          · rw [show (⟨w.heap.size, 0, none⟩ : Addr).add j = ⟨w.heap.size, j, none⟩ by unfold Addr.add; split <;> simp_all]
            exact hB.cell (by simpa using hj)
          · cases hj) (by rw [hl, hsz]; omega)
        (by
          intro v hv
          obtain ⟨j, hj⟩ := List.getElem?_of_mem hv
          rw [List.getElem?_take] at hj
          split at hj
          · rename_i hjk
            have hj' : arr[j]? = some v := by simpa using hj
            obtain ⟨a0, a1, a2⟩ := hN (j / 3) (by omega)
            rcases (show j = j / 3 * 3 ∨ j = j / 3 * 3 + 1 ∨ j = j / 3 * 3 + 2 by omega) with e | e | e
            · rw [e, a0] at hj'; cases hj'; rfl
            · rw [e, a1] at hj'; cases hj'; rfl
            · rw [e, a2] at hj'; cases hj'; rfl
          · cases hj)
      rw [show goInt (Nat.min n (many - n) : Nat) = .int .i64 (k : Nat) by rw [hk]; rfl] at hcp
      have HK := Lib.hid (And.intro hB (And.intro hN2 (And.intro hsz2 hO)))
      have c1 : decide (n < many) = true := by simpa using hlt
      clear hB hsz hN hO HH hN2 hsz2 hl hk
      go_wp2
      go_region
      go_wp2
      obtain ⟨hB, hN2, hsz2, hO⟩ := HK.out
      exact ⟨⟨n + k, _, by go_num, by omega, by omega, hB.drew.setRow _, hsz2, hN2, (Only.drew hO).setRow (by simp) _⟩, by simp [intOf]; omega⟩
    · have c1 : decide (n < many) = false := by simpa using hlt
      obtain rfl : n = many := by omega
      go_wp2
      go_ret
      obtain ⟨hB, hsz, hN, hO⟩ := HH.out
      exact ⟨arr, rfl, hB, hsz, hN, hO⟩

theorem New_bad {many gens : Int} (h : many < 1 ∨ 1024 < many ∨ gens < 1 ∨ 2147483648 < gens) (w : World) :
    Calls Try.prog 7 #[.int .i64 many, .int .i64 gens] w fun r w' => r = .returned (.tuple #[.pointer none, .int .i64 2]) ∧ w = w' := by
  by_cases h1 : many < 1
  · clear h
    go_enter Try.func7, Try.ntmps7
    go_wp2
    go_ret2
    exact ⟨rfl, rfl⟩
  · by_cases h2 : 1024 < many
    · clear h
      go_enter Try.func7, Try.ntmps7
      go_wp2
      go_ret2
      exact ⟨rfl, rfl⟩
    · by_cases h3 : gens < 1
      · clear h
        go_enter Try.func7, Try.ntmps7
        go_wp2
        go_ret2
        exact ⟨rfl, rfl⟩
      · have h4 : 2147483648 < gens := by omega
        clear h
        go_enter Try.func7, Try.ntmps7
        go_wp2
        go_ret2
        exact ⟨rfl, rfl⟩

theorem cnt_new (s n : Nat) : cnt s (List.replicate n ent0) = if s = 0 then n else 0 := by
  unfold cnt ent0
  rw [List.countP_replicate]
  by_cases h : s = 0
  · subst h; simp
  · rw [if_neg h, if_neg]; simpa using fun e => h e.symm

theorem New_tab (many : Nat) (gens : Int) (w : World) (h1 : 1 ≤ many) (h2 : many ≤ 1024) (h3 : 1 ≤ gens) (h4 : gens ≤ 2147483648) :
    Calls Try.prog 7 #[.int .i64 many, .int .i64 gens] w fun r w' => ∃ b e, r = .returned (.tuple #[.pointer (some ⟨b, 0, none⟩), .int .i64 0]) ∧
      w.heap.size ≤ b ∧ w.heap.size ≤ e ∧ Tab w' b e many (List.replicate many ent0) gens ∧ Only [] w w' := by
  go_enter Try.func7, Try.ntmps7
  go_wp2_with fail
  refine (Repeat_ent (Blk.new w _ _) many h1 h2).mono ?_
  rintro r w1 ⟨arr, rfl, hB, hsz, hN, hO⟩
  have HK := Lib.hid (And.intro hB (And.intro hsz (And.intro hN hO)))
  clear hB hsz hN hO
  go_wp2
  go_ret2
  obtain ⟨hB, hsz, hN, hO⟩ := HK.out
  rw [World.size_alloc] at hB
  have hlt := hB.lt
  have hO' : Only [] w w1 := ((Only.refl [] w).alloc _).trans hO
  refine ⟨w1.heap.size, w.heap.size + 1, rfl, by omega, by omega, ?_, hO'.alloc _⟩
  refine ⟨_, arr, Blk.new _ _ _, hB.alloc _, by omega, rfl, by simp, by unfold maxLen; omega, by simp, rfl, ?_, hN.rows⟩
  intro s hs
  rw [cnt_new]
  rcases (show s = 0 ∨ s = 1 ∨ s = 2 ∨ s = 3 by omega) with rfl | rfl | rfl | rfl <;> rfl

end Go.Proofs.Ytleimlhcdomffaa
