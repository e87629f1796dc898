/- Recycle. -/
import Derived.Test.YtleimlhcdomffaaTabW6
namespace Go.Proofs.Ytleimlhcdomffaa
open Go.RowKit Go.Shelf
set_option linter.unusedVariables false
attribute [local go_sem] Oper.semAt_some

/-- an entry after Recycle -/
def recEnt (gens : Int) (x : Ent) : Ent := if x.st = 2 then (if gens ≤ (x.gen : Int) then ⟨3, 0, x.gen⟩ else ⟨0, 0, x.gen + 1⟩) else x
/-- becomes it free? -/
def recFrees (gens : Int) (x : Ent) : Bool := x.st == 2 && decide ((x.gen : Int) < gens)

def recUpTo (gens : Int) (es : List Ent) (i : Nat) : List Ent := (es.take i).map (recEnt gens) ++ es.drop i

theorem recUpTo_get (gens : Int) (es : List Ent) (i j : Nat) : (recUpTo gens es i)[j]? = if j < i then es[j]?.map (recEnt gens) else es[j]? := by
  unfold recUpTo
  rw [List.getElem?_append]
  simp only [List.length_map, List.length_take, List.getElem?_map, List.getElem?_take, List.getElem?_drop]
  by_cases h : j < i
  · by_cases h2 : j < es.length
    · rw [if_pos (by omega), if_pos h, if_pos h]
    · rw [if_neg (by omega), if_pos h]
      have e1 : es[j]? = none := List.getElem?_eq_none (by omega)
      have e2 : es[i + (j - min i es.length)]? = none := List.getElem?_eq_none (by omega)
      simp [e1, e2]
  · rw [if_neg (by omega), if_neg h]
    by_cases h2 : i ≤ es.length
    · rw [show i + (j - min i es.length) = j by omega]
    · have e1 : es[j]? = none := List.getElem?_eq_none (by omega)
      have e2 : es[i + (j - min i es.length)]? = none := List.getElem?_eq_none (by omega)
      rw [e1, e2]

theorem recUpTo_zero (gens : Int) (es : List Ent) : recUpTo gens es 0 = es := by simp [recUpTo]
theorem recUpTo_all (gens : Int) (es : List Ent) : recUpTo gens es es.length = es.map (recEnt gens) := by simp [recUpTo]
theorem recUpTo_length (gens : Int) (es : List Ent) (i : Nat) : (recUpTo gens es i).length = es.length := by simp [recUpTo]; omega
theorem recUpTo_succ {gens : Int} {es : List Ent} {i : Nat} {x : Ent} (hx : es[i]? = some x) : recUpTo gens es (i + 1) = (recUpTo gens es i).set i (recEnt gens x) := by
  apply List.ext_getElem?
  intro j
  rw [List.getElem?_set, recUpTo_get, recUpTo_get, recUpTo_length]
  by_cases h : i = j
  · subst h; simp [lt_of_get hx]
    obtain ⟨hl, he⟩ := List.getElem?_eq_some_iff.1 hx
    rw [he]
  · rw [if_neg h]
    by_cases h2 : j < i
    · rw [if_pos h2, if_pos (by omega)]
    · rw [if_neg h2, if_neg (by omega)]
theorem recUpTo_skip {gens : Int} {es : List Ent} {i : Nat} {x : Ent} (hx : es[i]? = some x) (h2 : x.st ≠ 2) : recUpTo gens es (i + 1) = recUpTo gens es i := by
  rw [recUpTo_succ hx]
  have : recEnt gens x = x := by unfold recEnt; rw [if_neg h2]
  rw [this]
  apply List.ext_getElem?
  intro j
  rw [List.getElem?_set]
  by_cases h : i = j
  · subst h; rw [if_pos rfl, if_pos (by rw [recUpTo_length]; exact lt_of_get hx), recUpTo_get, if_neg (by omega), hx]
  · rw [if_neg h]

theorem recUpTo_ok {gens : Int} {es : List Ent} (h : EntsOk es) (i : Nat) (hg : gens ≤ 2147483648) : EntsOk (recUpTo gens es i) := by
  refine ⟨by rw [recUpTo_length]; exact h.1, by rw [recUpTo_length]; exact h.2.1, ?_⟩
  intro x hx
  obtain ⟨j, hj⟩ := List.getElem?_of_mem hx
  rw [recUpTo_get] at hj
  split at hj
  · obtain ⟨y, hy, rfl⟩ := Option.map_eq_some_iff.1 hj
    have := h.2.2 y (List.mem_of_getElem? hy)
    unfold recEnt
    split
    · split
      · exact ⟨by simp, this.2.1, by simp, by simp⟩
      · exact ⟨by simp, by simp; omega, by simp, by simp⟩
    · exact this
  · exact h.2.2 x (List.mem_of_getElem? hj)

theorem take_count {gens : Int} {es : List Ent} {i : Nat} {x : Ent} (hx : es[i]? = some x) : (es.take (i + 1)).countP (recFrees gens) = (es.take i).countP (recFrees gens) + if recFrees gens x then 1 else 0 := by
  obtain ⟨hl, he⟩ := List.getElem?_eq_some_iff.1 hx
  rw [List.take_succ_eq_append_getElem hl, List.countP_append, List.countP_singleton, he]

/-- between two rounds of Recycle's loop -/
def RecInv (w : World) (D b e c : Nat) (es : List Ent) (gens : Int) (i : Nat) (W : World) : Prop :=
  Tab W b e c (recUpTo gens es i) gens ∧ Blk W w.heap.size #[.pointer (some ⟨b, 0, none⟩)] 22 ∧ Blk W (w.heap.size + 1) #[.int .i64 ((es.take i).countP (recFrees gens) : Nat)] 3 ∧
  Blk W (w.heap.size + 1 + 1) #[.pointer (some ⟨b, 0, none⟩)] 22 ∧ Blk W (w.heap.size + 1 + 1 + 1) #[.int .i64 2] 3 ∧ W.heap[D]? = some (.deferred (some [])) ∧ Only [b, e] w W

theorem RecInv.step {w : World} {D b e c : Nat} {es : List Ent} {gens : Int} {i : Nat} {W W' : World} {l : Nat} (h : RecInv w D b e c es gens i W) (ho : Only [l] W W') (hb : b < w.heap.size) (he : e < w.heap.size) (hl : w.heap.size + 4 ≤ l) (hD : D ≠ l) :
    RecInv w D b e c es gens i W' := by
  obtain ⟨h1, h2, h3, h4, h5, h6, h7⟩ := h
  exact ⟨h1.only ho (by simp <;> omega) (by simp <;> omega), h2.only ho (by simp <;> omega), h3.only ho (by simp <;> omega), h4.only ho (by simp <;> omega), h5.only ho (by simp <;> omega),
    (ho.block D (Array.getElem?_eq_some_iff.1 h6).1 (by simp <;> omega)).trans h6, (h7.transL ho).strip (by simp <;> omega)⟩

set_option maxHeartbeats 1000000 in
theorem Recycle_tab {w : World} {b e c : Nat} {es : List Ent} {gens : Int} (hT : Tab w b e c es gens) (hok : EntsOk es) (hg1 : 1 ≤ gens) (hg2 : gens ≤ 2147483648) :
    Calls Try.prog 11 #[.pointer (some ⟨b, 0, none⟩)] w fun r w' =>
      r = .returned (.int .i64 (es.countP (recFrees gens) : Nat)) ∧ Tab w' b e c (es.map (recEnt gens)) gens ∧ Only [b, e] w w' := by
  refine (callsIn_wide (n := 9)).1 ?_
  refine callsIn_of_wp_marks Try.func11 rfl trivial ?_
  simp only [Try.ntmps11, List.size_toArray, List.length_cons, List.length_nil, Nat.reduceAdd, Nat.reduceSub, Array.replicate_succ, Array.replicate_zero, List.push_toArray, List.append_toArray, List.nil_append, List.cons_append]
  have HT := Lib.hid hT
  have HOK := Lib.hid hok
  clear hT hok
  gi_wp2_with (first
    | (refine ⟨trivial, ?_⟩; gi_at_call 24; refine (callsIn_wide.2 (none_tab (HT.out.only (S := []) (by repeat (first | exact Only.refl _ _ | apply Only.alloc)) (by simp) (by simp)) HOK.out)).mono ?_; rintro e w' ⟨rfl, rfl⟩)
    | (refine ⟨trivial, ?_⟩; gi_at_call 25; refine (in_tab _ _ _ _).mono ?_; rintro e w' ⟨rfl, rfl⟩))
  change Code.wpIn _ _ _ _ _ _ (allocs w [(#[.pointer (some ⟨b, 0, none⟩)], 22), (#[.int .i64 0], 3), (#[.pointer (some ⟨b, 0, none⟩)], 22), (#[.int .i64 2], 3)])
  obtain ⟨W0, hW0⟩ : ∃ W0, allocs w [(#[.pointer (some ⟨b, 0, none⟩)], 22), (#[.int .i64 0], 3), (#[.pointer (some ⟨b, 0, none⟩)], 22), (#[.int .i64 2], 3)] = W0 := ⟨_, rfl⟩
  have hO : Only [] w W0 := by rw [← hW0]; exact allocs_only _ _
  have hz : w.heap.size + 4 ≤ W0.heap.size := by rw [← hW0]; rw [allocs_size]; exact Nat.le_refl _
  have B0 : Blk W0 w.heap.size #[.pointer (some ⟨b, 0, none⟩)] 22 := by rw [← hW0]; exact allocs_blk w _ 0 rfl
  have B1 : Blk W0 (w.heap.size + 1) #[.int .i64 0] 3 := by rw [← hW0]; exact allocs_blk w _ 1 rfl
  have B2 : Blk W0 (w.heap.size + 1 + 1) #[.pointer (some ⟨b, 0, none⟩)] 22 := by rw [← hW0]; exact allocs_blk w _ 2 rfl
  have B3 : Blk W0 (w.heap.size + 1 + 1 + 1) #[.int .i64 2] 3 := by rw [← hW0]; exact allocs_blk w _ 3 rfl
  rw [hW0]
  clear hW0
  have hT := HT.out
  have hok := HOK.out
  obtain ⟨-, -, hb, he, hne⟩ := hT.head
  have hl2 := hok.2.1
  have hT0 : Tab W0 b e c es gens := hT.only hO (by simp) (by simp)
  refine range_outer rfl (by simp [Fence.wide]) (gf := 37) (lb := #[.pointer (some ⟨w.heap.size + 1 + 1, 0, none⟩), .pointer (some ⟨w.heap.size + 1 + 1 + 1, 0, none⟩)]) rfl trivial
    (enters_of Try.func37 (by kernel_rfl) rfl)
    (fun W => RecInv w W0.heap.size b e c es gens es.length W) (fun _ _ => False) ?hit ?hdone ?hstop
  case hit =>
    intro fn W1 r hr hfn hO1 hz1 hD1 hL1
    refine (in1_tab 8 (W0.heap.size + 1) 2 (w.heap.size + 1 + 1) (w.heap.size + 1 + 1 + 1) b e c es.length
      (fun i W => RecInv w W0.heap.size b e c es gens i W ∧ LoopOn W (W0.heap.size + 1) r .ready none) (fun W => False)
      (by omega) ?read ?skip ?drew ?yield W1 ⟨⟨by rw [recUpTo_zero]; exact hT0.only hO1 (by simp) (by simp), B0.only hO1 (by simp), by simpa using B1.only hO1 (by simp), B2.only hO1 (by simp), B3.only hO1 (by simp), hD1, (hO.trans hO1).to⟩, hL1⟩).mono ?fin
    case read =>
      rintro i W ⟨⟨h1, h2, h3, h4, h5, h6, h7⟩, h8⟩
      have hh := h1.head.1
      rw [recUpTo_length] at hh
      refine ⟨h4, h5, hh, fun hi => ?_⟩
      exact ⟨_, (h1.cells (i := i) (x := es[i]) (by rw [recUpTo_get, if_neg (Nat.lt_irrefl _)]; exact List.getElem?_eq_getElem hi)).1⟩
    case skip =>
      rintro i W s ⟨⟨h1, h2, h3, h4, h5, h6, h7⟩, h8⟩ hi hs hne0
      have hx : es[i]? = some es[i] := List.getElem?_eq_getElem hi
      have hU : (recUpTo gens es i)[i]? = some es[i] := by rw [recUpTo_get, if_neg (Nat.lt_irrefl _)]; exact hx
      have hc := (h1.cells hU).1
      rw [hs] at hc
      have hst : es[i].st ≠ 2 := by
        intro h; rw [h] at hc; simp at hc; exact hne0 hc
      refine ⟨⟨by rw [recUpTo_skip hx hst]; exact h1, h2, ?_, h4, h5, h6, h7⟩, h8⟩
      rw [take_count hx, if_neg (by simp [recFrees, hst])]; exact h3
    case drew =>
      rintro i W ⟨⟨h1, h2, h3, h4, h5, h6, h7⟩, h8⟩
      exact ⟨⟨h1.only ((Only.refl [] W).drew) (by simp) (by simp), h2, h3, h4, h5, h6, h7.drew⟩, h8⟩
    case yield =>
      rintro i W ⟨hInv, h8⟩ hi hs
      apply yield_plain hr hfn h8 rfl
      · gi_wp2
        exact ⟨rfl, rfl, rfl⟩
      · intro W2 hO2 hL2
        obtain ⟨h1, h2, h3, h4, h5, h6, h7⟩ := hInv
        have hx : es[i]? = some es[i] := List.getElem?_eq_getElem hi
        have hU : (recUpTo gens es i)[i]? = some es[i] := by rw [recUpTo_get, if_neg (Nat.lt_irrefl _)]; exact hx
        have hst : es[i].st = 2 := by
          have hc := (h1.cells hU).1
          rw [hs] at hc
          simp at hc
          omega
        have hxok := hok.2.2 es[i] (List.mem_of_getElem? hx)
        generalize es[i] = x at *
        have t1 := (h1.only hO2 (by simp <;> omega) (by simp <;> omega))
        have t2 := t1.set_slot hU 0
        have hU2 : ((recUpTo gens es i).set i { x with slot := 0 })[i]? = some { x with slot := 0 } := List.getElem?_set_self (by rw [recUpTo_length]; exact hi)
        have a0 := (h2.only hO2 (by simp <;> omega)).cell (o := 0) rfl
        have n0 := h3.only hO2 (by simp <;> omega)
        obtain ⟨-, q1, -, -, f1, -⟩ := t1.cells hU
        obtain ⟨-, -, q2, -, -, f2⟩ := t2.cells hU2
        obtain ⟨-, q3, -, -, -⟩ := t2.head
        have a1 : (W2.setCell ⟨e, i * 3 + 1, none⟩ (.int .i64 0)).cell? ⟨w.heap.size, 0, none⟩ = some (.pointer (some ⟨b, 0, none⟩)) := ((h2.only hO2 (by simp <;> omega)).set_other (p := ⟨e, i * 3 + 1, none⟩) (by simp <;> omega) (.int .i64 0)).cell (o := 0) rfl
        have hmix := mixed
        have KK := Lib.hid (And.intro t2 (And.intro hU2 (And.intro hO2 (And.intro hL2 (And.intro h2 (And.intro h3 (And.intro h4 (And.intro h5 (And.intro h6 (And.intro h7 (And.intro hx (And.intro hst hxok))))))))))))
        clear t1 t2 hU2 hO2 hL2 h1 h2 h3 h4 h5 h6 h7 hx hU hst h8 hs hr hT0 hT hO B0 B1 B2 B3 hO1 hL1 hD1 hz1 n0
        gi_wp2
        refine quiet_round rfl (by kernel_rfl) (by kernel_rfl) (by kernel_rfl) ?_
        repeat (gi_big_quiet_step (fail))
        refine wpQuietIn_nil ?_
        rintro _ ⟨nq, rfl⟩
        obtain ⟨t2, hU2, hO2, hL2, h2, h3, h4, h5, h6, h7, hx, hst, hxok⟩ := KK.out
        obtain ⟨W3, hW3⟩ : ∃ W3, (W2.setCell ⟨e, i * 3 + 1, none⟩ (.int .i64 0)).drewN nq = W3 := ⟨_, rfl⟩
        have hO3 : Only [e] W2 W3 := by rw [← hW3]; exact ((Only.refl _ _).setCell (by simp) _).drewN nq
        have t3 : Tab W3 b e c ((recUpTo gens es i).set i { x with slot := 0 }) gens := by rw [← hW3]; exact t2.only ((Only.refl [] _).drewN nq) (by simp) (by simp)
        rw [hW3]
        have hok2 : EntsOk ((recUpTo gens es i).set i { x with slot := 0 }) := by
          have hu := recUpTo_ok hok i hg2
          refine ⟨by simpa using hu.1, by simpa using hu.2.1, ?_⟩
          intro y hy
          rcases List.mem_or_eq_of_mem_set hy with h | rfl
          · exact hu.2.2 y h
          · exact ⟨hxok.1, hxok.2.1, by simp, by simp⟩
        have c0 := ((h2.only hO2 (by simp <;> omega)).only hO3 (by simp <;> omega)).cell (o := 0) rfl
        have hOO : Only ([b, e] ++ [W0.heap.size + 1] ++ [e]) w W3 := (h7.transL hO2).transL hO3
        have n3 := (h3.only hO2 (by simp <;> omega)).only hO3 (by simp <;> omega)
        have p3 := (h2.only hO2 (by simp <;> omega)).only hO3 (by simp <;> omega)
        have p4 := (h4.only hO2 (by simp <;> omega)).only hO3 (by simp <;> omega)
        have p5 := (h5.only hO2 (by simp <;> omega)).only hO3 (by simp <;> omega)
        have hD3 := (hO3.block W0.heap.size (by have := hO2.size; have := (Array.getElem?_eq_some_iff.1 h6).1; omega) (by simp <;> omega)).trans ((hO2.block W0.heap.size (Array.getElem?_eq_some_iff.1 h6).1 (by simp)).trans h6)
        have hL3 := hL2.only hO3 (by simp <;> omega)
        have hsucc := recUpTo_succ (gens := gens) hx
        have htc := take_count (gens := gens) hx
        clear a0 q1 f1 q2 f2 q3 a1 t2 hO2 hL2 h2 h3 h4 h5 h6 h7 hO3 hW3 hx KK
        by_cases hge : gens ≤ (x.gen : Int)
        · have Ht := Lib.hid (turn_tab t3 hok2 hU2 3 (by omega) (by omega))
          have hre : recEnt gens x = ⟨3, 0, x.gen⟩ := by unfold recEnt; rw [if_pos hst, if_pos hge]
          have hfr : recFrees gens x = false := by unfold recFrees; simp; omega
          rw [hre, ← List.set_set (a := { x with slot := 0 })] at hsucc
          rw [hfr] at htc
          have KK := Lib.hid (And.intro hOO (And.intro n3 (And.intro p3 (And.intro p4 (And.intro p5 (And.intro hD3 (And.intro hL3 (And.intro hsucc htc))))))))
          clear hOO n3 p3 p4 p5 hD3 hL3 hsucc htc hre hfr hst hU2 t3 hok2
          gi_wp2_with fail
          refine ⟨trivial, ?_⟩
          refine (CallsIn.inRound _ (callsIn_wide.2 (Ht.out))).mono ?_
          rintro r1 W4 ⟨rfl, hT4, hO4⟩
          obtain ⟨hOO, n3, p3, p4, p5, hD3, hL3, hsucc, htc⟩ := KK.out
          have fin : RecInv w W0.heap.size b e c es gens (i + 1) W4 := by
            refine ⟨by rw [hsucc]; exact hT4, p3.only hO4 (by simp <;> omega), ?_, p4.only hO4 (by simp <;> omega), p5.only hO4 (by simp <;> omega), (hO4.block W0.heap.size (Array.getElem?_eq_some_iff.1 hD3).1 (by simp <;> omega)).trans hD3, (hOO.transL hO4).strip (by simp <;> omega)⟩
            rw [htc]; exact n3.only hO4 (by simp <;> omega)
          have hL4 := hL3.only hO4 (by simp <;> omega)
          have FF := Lib.hid (And.intro fin hL4)
          clear fin hL4 hOO n3 p3 p4 p5 hD3 hL3 hsucc htc hT4 hO4 KK c0 hmix Ht
          gi_wp2
          obtain ⟨fin, hL4⟩ := FF.out
          exact ⟨hL4, fun W5 h5 hl5 => ⟨true, rfl, fin.step h5 hb he (by omega) (by omega), hl5⟩⟩
        · have hlt : (x.gen : Int) < gens := by omega
          have hre : recEnt gens x = ⟨0, 0, x.gen + 1⟩ := by unfold recEnt; rw [if_pos hst, if_neg hge]
          have hfr : recFrees gens x = true := by unfold recFrees; simp; omega
          have hlen : ((recUpTo gens es i).set i { x with slot := 0 }).length = es.length := by rw [List.length_set, recUpTo_length]
          have t4 := t3.set_gen hU2 (x.gen + 1)
          have hU4 : (((recUpTo gens es i).set i { x with slot := 0 }).set i { x with slot := 0, gen := x.gen + 1 })[i]? = some { x with slot := 0, gen := x.gen + 1 } := List.getElem?_set_self (by omega)
          have hok4 : EntsOk (((recUpTo gens es i).set i { x with slot := 0 }).set i { x with slot := 0, gen := x.gen + 1 }) := by
            refine ⟨by simpa using hok2.1, by simpa using hok2.2.1, ?_⟩
            intro y hy
            rcases List.mem_or_eq_of_mem_set hy with h | rfl
            · exact hok2.2.2 y h
            · exact ⟨hxok.1, by simp; omega, by simp, by simp⟩
          have hO4 : Only [e] W3 (W3.setCell ⟨e, i * 3 + 2, none⟩ (.int .u32 ((x.gen + 1 : Nat) : Int))) := (Only.refl _ _).setCell (by simp) _
          have c4 := (p3.only hO4 (by simp <;> omega)).cell (o := 0) rfl
          have Ht := Lib.hid (turn_tab t4 hok4 hU4 0 (by omega) (by omega))
          obtain ⟨-, -, q2, -, -, f2⟩ := t3.cells hU2
          rw [hre] at hsucc
          rw [hfr] at htc
          have hx31 := hxok.2.1
          have ec : ((x.gen + 1 : Nat) : Int) = (x.gen : Int) + 1 := by omega
          rw [ec] at Ht c4 hO4
          have KK := Lib.hid (And.intro hOO (And.intro n3 (And.intro p3 (And.intro p4 (And.intro p5 (And.intro hD3 (And.intro hL3 (And.intro hsucc (And.intro htc hO4)))))))))
          clear hOO n3 p3 p4 p5 hD3 hL3 hsucc htc hre hfr hst hU2 t3 hok2 t4 hU4 hok4 hO4 ec hlen
          gi_wp2_with fail
          refine ⟨trivial, ?_⟩
          refine (CallsIn.inRound _ (callsIn_wide.2 (Ht.out))).mono ?_
          rintro r1 W4 ⟨rfl, hT4, hO5⟩
          obtain ⟨hOO, n3, p3, p4, p5, hD3, hL3, hsucc, htc, hO4⟩ := KK.out
          have n4 := (n3.only hO4 (by simp <;> omega)).only hO5 (by simp <;> omega)
          have cn := n4.cell (o := 0) rfl
          have fn4 := n4.frozen 0
          have hcle : (es.take i).countP (recFrees gens) ≤ 1024 := Nat.le_trans List.countP_le_length (by simp; omega)
          generalize hcn : (es.take i).countP (recFrees gens) = kn at *
          have hO6 : Only [w.heap.size + 1] W4 (W4.setCell ⟨w.heap.size + 1, 0, none⟩ (.int .i64 ((kn : Int) + 1))) := (Only.refl _ _).setCell (by simp) _
          have fin : RecInv w W0.heap.size b e c es gens (i + 1) (W4.setCell ⟨w.heap.size + 1, 0, none⟩ (.int .i64 ((kn : Int) + 1))) := by
            refine ⟨?_, ((p3.only hO4 (by simp <;> omega)).only hO5 (by simp <;> omega)).only hO6 (by simp <;> omega), ?_, ((p4.only hO4 (by simp <;> omega)).only hO5 (by simp <;> omega)).only hO6 (by simp <;> omega), ((p5.only hO4 (by simp <;> omega)).only hO5 (by simp <;> omega)).only hO6 (by simp <;> omega),
              ?_, (((hOO.transL hO4).transL hO5).transL hO6).strip (by simp <;> omega)⟩
            · rw [hsucc]
              have := hT4.only hO6 (by simp <;> omega) (by simp <;> omega)
              simpa [List.set_set] using this
            · rw [htc]; exact n4.set 0 _
            · have z0 := (Array.getElem?_eq_some_iff.1 hD3).1
              have z1 := hO4.size
              have z2 := hO5.size
              exact (hO6.block _ (by omega) (by simp <;> omega)).trans ((hO5.block _ (by omega) (by simp <;> omega)).trans ((hO4.block _ z0 (by simp <;> omega)).trans hD3))
          have hL4 := ((hL3.only hO4 (by simp <;> omega)).only hO5 (by simp <;> omega)).only hO6 (by simp <;> omega)
          have FF := Lib.hid (And.intro fin hL4)
          clear fin hL4 hOO n3 p3 p4 p5 hD3 hL3 hsucc htc hT4 hO4 hO5 hO6 KK c0 hmix Ht n4 hcn q2 f2 c4
          gi_wp2
          obtain ⟨fin, hL4⟩ := FF.out
          exact ⟨hL4, fun W5 h5 hl5 => ⟨true, rfl, fin.step h5 hb he (by omega) (by omega), hl5⟩⟩
    case fin =>
      rintro r W' ⟨hv, h | h⟩
      · exact ⟨hv, .inl h⟩
      · exact h.elim
  case hdone =>
    rintro W W' ⟨h1, h2, h3, h4, h5, h6, h7⟩ ho
    have q1 := h3.only ho (by simp <;> omega)
    have c1 := q1.cell (o := 0) rfl
    have hk := (ho.block W0.heap.size (Array.getElem?_eq_some_iff.1 h6).1 (by simp)).trans h6
    have KK := Lib.hid (And.intro h1 (And.intro h7 (And.intro ho hk)))
    clear h1 h2 h3 h4 h5 h6 h7 ho q1 hk hT0 hT hO B0 B1 B2 B3 hok
    gi_wp2
    obtain ⟨h1, h7, ho, hk⟩ := KK.out
    refine leaveM hk (fun W4 h4 => ⟨_, results_tmp rfl _ _ _, ?_, ?_, ?_⟩)
    · rfl
    · rw [recUpTo_all] at h1
      exact (h1.only ho (by simp <;> omega) (by simp <;> omega)).only h4 (by simp <;> omega) (by simp <;> omega)
    · exact ((h7.transL ho).transL h4).strip (by simp <;> omega)
  case hstop =>
    rintro c' W W' h
    exact h.elim

end Go.Proofs.Ytleimlhcdomffaa
