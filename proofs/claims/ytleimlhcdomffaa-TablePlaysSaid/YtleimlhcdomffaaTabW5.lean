/- Mint. -/
import Derived.Test.YtleimlhcdomffaaTabW4
namespace Go.Proofs.Ytleimlhcdomffaa
open Go.RowKit Go.Shelf
set_option linter.unusedVariables false
attribute [local go_sem] Oper.semAt_some

/-- the first free entry -/
def firstFree (es : List Ent) : Option Nat := es.findIdx? (fun x => x.st == 0)

theorem firstFree_some {es : List Ent} {i : Nat} (h : firstFree es = some i) : ∃ x, es[i]? = some x ∧ x.st = 0 := by
  unfold firstFree at h
  rw [List.findIdx?_eq_some_iff_getElem] at h
  obtain ⟨hi, hx, _⟩ := h
  exact ⟨es[i], List.getElem?_eq_getElem hi, by simpa using hx⟩

theorem firstFree_none {es : List Ent} (h : ∀ (j : Nat) (x : Ent), es[j]? = some x → x.st ≠ 0) : firstFree es = none := by
  unfold firstFree
  rw [List.findIdx?_eq_none_iff]
  intro x hx
  obtain ⟨j, hj⟩ := List.getElem?_of_mem hx
  simpa using h j x hj

theorem firstFree_eq {es : List Ent} {i : Nat} {x : Ent} (hx : es[i]? = some x) (h0 : x.st = 0) (h : ∀ (j : Nat) (y : Ent), j < i → es[j]? = some y → y.st ≠ 0) : firstFree es = some i := by
  unfold firstFree
  rw [List.findIdx?_eq_some_iff_getElem]
  obtain ⟨hi, he⟩ := List.getElem?_eq_some_iff.1 hx
  refine ⟨hi, by simp [he, h0], fun j hj => ?_⟩
  simpa using h j es[j] hj (List.getElem?_eq_getElem _)

def genAt (es : List Ent) (i : Nat) : Nat := (es[i]?.map (·.gen)).getD 0

/-- what Mint answers -/
def mintP (es : List Ent) (slot : Int) : Int × Int × Int := if slot < 0 then (0, 0, 2) else match firstFree es with | some i => (i, genAt es i, 0) | none => (0, 0, 131)
/-- the entries after it -/
def mintEs (es : List Ent) (slot : Int) : List Ent := if slot < 0 then es else match firstFree es with | some i => es.modify i (fun x => { x with st := 1, slot := slot }) | none => es

/-- the loop was left by a handle -/
def MintStop (w : World) (D b e c : Nat) (es : List Ent) (gens slot : Int) (c' : Code) (W : World) : Prop :=
  c' = .ret ∧ W.heap[D]? = some (.deferred (some [])) ∧ ∃ (i : Nat) (x : Ent), firstFree es = some i ∧ es[i]? = some x ∧ Tab W b e c (es.set i { x with st := 1, slot := slot }) gens ∧
      Blk W (w.heap.size + 1 + 1) #[.int .i64 (i : Nat)] 3 ∧ Blk W (w.heap.size + 1 + 1 + 1) #[.int .u32 (x.gen : Nat)] 27 ∧ Blk W (w.heap.size + 1 + 1 + 1 + 1) #[.int .i64 0] 23 ∧ Only [b, e] w W

theorem mixed : Try.prog.follows .mixedOrders = true := by kernel_rfl

set_option maxHeartbeats 4000000 in
theorem Mint_tab {w : World} {b e c : Nat} {es : List Ent} {gens : Int} (hT : Tab w b e c es gens) (hok : EntsOk es) (slot : Int) (hs0 : 0 ≤ slot) :
    Calls Try.prog 9 #[.pointer (some ⟨b, 0, none⟩), .int .i64 slot] w fun r w' =>
      r = .returned (.tuple #[.int .i64 (mintP es slot).1, .int .u32 (mintP es slot).2.1, .int .i64 (mintP es slot).2.2]) ∧ Tab w' b e c (mintEs es slot) gens ∧ Only [b, e] w w' := by
  refine (callsIn_wide (n := 9)).1 ?_
  refine callsIn_of_wp_marks Try.func9 rfl trivial ?_
  simp only [Try.ntmps9, List.size_toArray, List.length_cons, List.length_nil, Nat.reduceAdd, Nat.reduceSub, Array.replicate_succ, Array.replicate_zero, List.push_toArray, List.append_toArray, List.nil_append, List.cons_append]
  have HT := Lib.hid hT
  have HOK := Lib.hid hok
  have hnn : ¬ slot < 0 := by omega
  clear hT hok
  gi_wp2_with (first
    | (refine ⟨trivial, ?_⟩; gi_at_call 24; refine (callsIn_wide.2 (none_tab (HT.out.only (S := []) (by repeat (first | exact Only.refl _ _ | apply Only.alloc)) (by simp) (by simp)) HOK.out)).mono ?_; rintro e w' ⟨rfl, rfl⟩)
    | (refine ⟨trivial, ?_⟩; gi_at_call 25; refine (in_tab _ _ _ _).mono ?_; rintro e w' ⟨rfl, rfl⟩))
  change Code.wpIn _ _ _ _ _ _ (allocs w [(#[.pointer (some ⟨b, 0, none⟩)], 22), (#[.int .i64 slot], 3), (#[.int .i64 0], 3), (#[.int .u32 0], 27), (#[.int .i64 0], 23), (#[.pointer (some ⟨b, 0, none⟩)], 22), (#[.int .i64 0], 3)])
  obtain ⟨W0, hW0⟩ : ∃ W0, allocs w [(#[.pointer (some ⟨b, 0, none⟩)], 22), (#[.int .i64 slot], 3), (#[.int .i64 0], 3), (#[.int .u32 0], 27), (#[.int .i64 0], 23), (#[.pointer (some ⟨b, 0, none⟩)], 22), (#[.int .i64 0], 3)] = W0 := ⟨_, rfl⟩
  have hO : Only [] w W0 := by rw [← hW0]; exact allocs_only _ _
  have hz : w.heap.size + 7 ≤ W0.heap.size := by rw [← hW0]; rw [allocs_size]; exact Nat.le_refl _
  have B0 : Blk W0 w.heap.size #[.pointer (some ⟨b, 0, none⟩)] 22 := by rw [← hW0]; exact allocs_blk w _ 0 rfl
  have B1 : Blk W0 (w.heap.size + 1) #[.int .i64 slot] 3 := by rw [← hW0]; exact allocs_blk w _ 1 rfl
  have B2 : Blk W0 (w.heap.size + 1 + 1) #[.int .i64 0] 3 := by rw [← hW0]; exact allocs_blk w _ 2 rfl
  have B3 : Blk W0 (w.heap.size + 1 + 1 + 1) #[.int .u32 0] 27 := by rw [← hW0]; exact allocs_blk w _ 3 rfl
  have B4 : Blk W0 (w.heap.size + 1 + 1 + 1 + 1) #[.int .i64 0] 23 := by rw [← hW0]; exact allocs_blk w _ 4 rfl
  have B5 : Blk W0 (w.heap.size + 1 + 1 + 1 + 1 + 1) #[.pointer (some ⟨b, 0, none⟩)] 22 := by rw [← hW0]; exact allocs_blk w _ 5 rfl
  have B6 : Blk W0 (w.heap.size + 1 + 1 + 1 + 1 + 1 + 1) #[.int .i64 0] 3 := by rw [← hW0]; exact allocs_blk w _ 6 rfl
  rw [hW0]
  clear hW0
  have hT := HT.out
  have hok := HOK.out
  have hb : b < w.heap.size := by obtain ⟨hd, arr, h1, _⟩ := hT; exact h1.lt
  have he : e < w.heap.size := by obtain ⟨hd, arr, h1, h2, _⟩ := hT; exact h2.lt
  have hl2 := hok.2.1
  have hT0 : Tab W0 b e c es gens := hT.only hO (by simp) (by simp)
  have HO0 := Lib.hid hO
  refine range_outer rfl (by simp [Fence.wide]) (gf := 37) (lb := #[.pointer (some ⟨w.heap.size + 1 + 1 + 1 + 1 + 1, 0, none⟩), .pointer (some ⟨w.heap.size + 1 + 1 + 1 + 1 + 1 + 1, 0, none⟩)]) rfl trivial
    (enters_of Try.func37 (by kernel_rfl) rfl)
    (fun W => Only [] W0 W ∧ W.heap[W0.heap.size]? = some (.deferred (some [])) ∧ ∀ (j : Nat) (y : Ent), es[j]? = some y → y.st ≠ 0)
    (MintStop w W0.heap.size b e c es gens slot)
    ?hit ?hdone ?hstop
  case hit =>
    intro fn W1 r hr hfn hO1 hz1 hD1 hL1
    refine (in1_tab 8 (W0.heap.size + 1) 0 (w.heap.size + 1 + 1 + 1 + 1 + 1) (w.heap.size + 1 + 1 + 1 + 1 + 1 + 1) b e c es.length
      (fun i W => Only [] W0 W ∧ W.heap[W0.heap.size]? = some (.deferred (some [])) ∧ LoopOn W (W0.heap.size + 1) r .ready none ∧ ∀ (j : Nat) (y : Ent), j < i → es[j]? = some y → y.st ≠ 0)
      (fun W => ∃ c', MintStop w W0.heap.size b e c es gens slot c' W ∧ LoopOn W (W0.heap.size + 1) r .done (some c'))
      (by omega) ?read ?skip ?drew ?yield W1 ⟨hO1, hD1, hL1, fun j y hj => by omega⟩).mono ?fin
    case read =>
      rintro i W ⟨h1, h2, h3, h4⟩
      obtain ⟨hd, arr, t1, t2, hne, hsz, hlc, hc, hd0, hd1, hds, hes⟩ := hT0.only h1 (by simp) (by simp)
      refine ⟨B5.only h1 (by simp), B6.only h1 (by simp), t1.cell hd0, fun hi => ?_⟩
      exact ⟨_, t2.cell (hes i _ (List.getElem?_eq_getElem hi)).1⟩
    case skip =>
      rintro i W s ⟨h1, h2, h3, h4⟩ hi hs hne0
      refine ⟨h1, h2, h3, fun j y hj hy => ?_⟩
      by_cases hji : j < i
      · exact h4 j y hji hy
      · obtain rfl : j = i := by omega
        obtain ⟨hd, arr, t1, t2, hne, hsz, hlc, hc, hd0, hd1, hds, hes⟩ := hT0.only h1 (by simp) (by simp)
        have := t2.cell (hes j _ hy).1
        rw [hs] at this
        intro h0
        rw [h0] at this
        simp at this
        exact hne0 this
    case drew =>
      rintro i W ⟨h1, h2, h3, h4⟩
      exact ⟨h1.drew, h2, h3, h4⟩
    case yield =>
      rintro i W ⟨h1, h2, h3, h4⟩ hi hs
      obtain ⟨x, hx⟩ : ∃ x, es[i]? = some x := ⟨es[i], List.getElem?_eq_getElem hi⟩
      have hTW := hT0.only h1 (by simp) (by simp)
      have hx0 : x.st = 0 := by
        obtain ⟨hd, arr, t1, t2, hne, hsz, hlc, hc, hd0, hd1, hds, hes⟩ := hTW
        have := t2.cell (hes i _ hx).1
        rw [hs] at this
        simp at this
        omega
      have hff := firstFree_eq hx hx0 h4
      refine yield_at hr (fun a1 W1 => a1 = { tmps := #[.pointer (some ⟨b, 0, none⟩), .int .i64 slot, .pointer (some ⟨w.heap.size, 0, none⟩), .pointer (some ⟨w.heap.size + 1, 0, none⟩), .pointer (some ⟨w.heap.size + 1 + 1, 0, none⟩), .pointer (some ⟨w.heap.size + 1 + 1 + 1, 0, none⟩), .pointer (some ⟨w.heap.size + 1 + 1 + 1 + 1, 0, none⟩), .int .i64 i, .pointer (some ⟨e, i * 3, none⟩), .bool false, .pointer (some ⟨b, 0, none⟩), .bool false, .bool (decide (slot < 0)), .int .i64 slot, .bool (decide (slot < 0)), .pointer (some ⟨b, 0, none⟩), .func (.func 37) #[] #[.pointer (some ⟨w.heap.size + 1 + 1 + 1 + 1 + 1, 0, none⟩), .pointer (some ⟨w.heap.size + 1 + 1 + 1 + 1 + 1 + 1, 0, none⟩)], .int .i64 i, .pointer (some ⟨e, i * 3, none⟩), undef, undef, undef, undef, undef, undef, undef, undef, undef, undef, undef, undef], defers := [] } ∧ W1 = W) hfn h3 rfl ?assign ?body
      case assign =>
        intro K hK
        gi_wp2
        exact hK _ _ (Only.refl _ _) ⟨rfl, rfl⟩
      case body =>
        rintro a1 W1 W2 _ ⟨rfl, rfl⟩ hO2 hL2
        have hTW2 := hTW.only hO2 (by simp <;> omega) (by simp <;> omega)
        have hB0 := (B0.only h1 (by simp)).only hO2 (by simp <;> omega)
        have hB1 := (B1.only h1 (by simp)).only hO2 (by simp <;> omega)
        have hB2 := (B2.only h1 (by simp)).only hO2 (by simp <;> omega)
        have hB3 := (B3.only h1 (by simp)).only hO2 (by simp <;> omega)
        have hB4 := (B4.only h1 (by simp)).only hO2 (by simp <;> omega)
        have c0 := hB0.cell (o := 0) rfl
        have Ht := Lib.hid (turn_tab hTW2 hok hx 1 (by omega) (by omega))
        have hD2 := (hO2.block W0.heap.size (Array.getElem?_eq_some_iff.1 h2).1 (by simp)).trans h2
        have KK := Lib.hid (And.intro hTW2 (And.intro hB0 (And.intro hB1 (And.intro hB2 (And.intro hB3 (And.intro hB4 (And.intro hL2 (And.intro hD2 (And.intro hO2 (And.intro h1 (And.intro hx (And.intro hff hx0))))))))))))
        clear hTW2 hB0 hB1 hB2 hB3 hB4 hL2 hD2 hO2 h1 hx hff hx0 h2 h3 h4 hs hTW B0 B1 B2 B3 B4 B5 B6 hT0 hT hO hO1 hL1 hD1 hr hok hz1
        gi_wp2_with fail
        refine ⟨trivial, ?_⟩
        refine (CallsIn.inRound _ (callsIn_wide.2 (Ht.out))).mono ?_
        rintro r1 W3 ⟨rfl, hT3, hO3⟩
        obtain ⟨hTW2, hB0, hB1, hB2, hB3, hB4, hL2, hD2, hO2, h1, hx, hff, hx0⟩ := KK.out
        have q1 := (hB1.only hO3 (by simp <;> omega)).cell (o := 0) rfl
        have g2 := hB2.only hO3 (by simp <;> omega)
        have g3 := hB3.only hO3 (by simp <;> omega)
        have g4 := hB4.only hO3 (by simp <;> omega)
        have q2 := g2.cell (o := 0) rfl
        have q3 := g3.cell (o := 0) rfl
        have q4 := g4.cell (o := 0) rfl
        have f2 := g2.frozen 0
        have f3 := g3.frozen 0
        have f4 := g4.frozen 0
        obtain ⟨hd, arr, t1, t2, hne, hsz, hlc, hc, hd0, hd1, hds, hes⟩ := hT3
        have hxs : (es.set i { x with st := (1 : Int).toNat })[i]? = some { x with st := (1 : Int).toNat } := List.getElem?_set_self hi
        have qe1 := t2.cell (hes i _ hxs).2.1
        have qe2 := t2.cell (hes i _ hxs).2.2
        have fe1 := t2.frozen (i * 3 + 1)
        have K2 := Lib.hid (And.intro hO3 (And.intro g2 (And.intro g3 (And.intro g4 (And.intro t1 (And.intro t2 (And.intro hne (And.intro hsz (And.intro hlc (And.intro hc (And.intro hd0 (And.intro hd1 (And.intro hds (And.intro hes hxs))))))))))))))
        clear hO3 g2 g3 g4 t1 t2 hsz hlc hc hd0 hd1 hds hes hxs hTW2 hB0 hB1 hB2 hB3 hB4 hL2 hD2 hO2 h1 hx hff hx0 c0
        gi_wp2
        have hmix := mixed
        apply piece_to
        · gi_region
          all_goals exact ⟨rfl, rfl, rfl⟩
        rename_i hKK
        refine hKK _ _ (wpIn_ret ?_)
        obtain ⟨hO3, g2, g3, g4, t1, t2, _, hsz, hlc, hc, hd0, hd1, hds, hes, hxs⟩ := K2.out
        obtain ⟨hTW2, hB0, hB1, hB2, hB3, hB4, hL2, hD2, hO2, h1, hx, hff, hx0⟩ := KK.out
        have hOf := ((((Only.refl [e, w.heap.size + 1 + 1, w.heap.size + 1 + 1 + 1, w.heap.size + 1 + 1 + 1 + 1] W3).setCell (p := ⟨e, i * 3 + 1, none⟩) (by simp) (.int .i64 slot)).setCell (p := ⟨w.heap.size + 1 + 1, 0, none⟩) (by simp) (.int .i64 (i : Nat))).setCell (p := ⟨w.heap.size + 1 + 1 + 1, 0, none⟩) (by simp) (.int .u32 (x.gen : Nat))).setCell (p := ⟨w.heap.size + 1 + 1 + 1 + 1, 0, none⟩) (by simp) (.int .i64 0)
        have z2 := (((g2.set_other (p := ⟨e, i * 3 + 1, none⟩) (by simp <;> omega) (.int .i64 slot)).set 0 (.int .i64 (i : Nat))).set_other (p := ⟨w.heap.size + 1 + 1 + 1, 0, none⟩) (by simp) (.int .u32 (x.gen : Nat))).set_other (p := ⟨w.heap.size + 1 + 1 + 1 + 1, 0, none⟩) (by simp <;> omega) (.int .i64 0)
        have z3 := (((g3.set_other (p := ⟨e, i * 3 + 1, none⟩) (by simp <;> omega) (.int .i64 slot)).set_other (p := ⟨w.heap.size + 1 + 1, 0, none⟩) (by simp) (.int .i64 (i : Nat))).set 0 (.int .u32 (x.gen : Nat))).set_other (p := ⟨w.heap.size + 1 + 1 + 1 + 1, 0, none⟩) (by simp) (.int .i64 0)
        have z4 := (((g4.set_other (p := ⟨e, i * 3 + 1, none⟩) (by simp <;> omega) (.int .i64 slot)).set_other (p := ⟨w.heap.size + 1 + 1, 0, none⟩) (by simp <;> omega) (.int .i64 (i : Nat))).set_other (p := ⟨w.heap.size + 1 + 1 + 1, 0, none⟩) (by simp) (.int .u32 (x.gen : Nat))).set 0 (.int .i64 0)
        have zb := (((t1.set_other (p := ⟨e, i * 3 + 1, none⟩) hne (.int .i64 slot)).set_other (p := ⟨w.heap.size + 1 + 1, 0, none⟩) (by simp <;> omega) (.int .i64 (i : Nat))).set_other (p := ⟨w.heap.size + 1 + 1 + 1, 0, none⟩) (by simp <;> omega) (.int .u32 (x.gen : Nat))).set_other (p := ⟨w.heap.size + 1 + 1 + 1 + 1, 0, none⟩) (by simp <;> omega) (.int .i64 0)
        have ze := (((t2.set (i * 3 + 1) (.int .i64 slot)).set_other (p := ⟨w.heap.size + 1 + 1, 0, none⟩) (by simp <;> omega) (.int .i64 (i : Nat))).set_other (p := ⟨w.heap.size + 1 + 1 + 1, 0, none⟩) (by simp <;> omega) (.int .u32 (x.gen : Nat))).set_other (p := ⟨w.heap.size + 1 + 1 + 1 + 1, 0, none⟩) (by simp <;> omega) (.int .i64 0)
        have hW0lt : W0.heap.size < W2.heap.size := (Array.getElem?_eq_some_iff.1 hD2).1
        generalize (((W3.setCell ⟨e, i * 3 + 1, none⟩ (.int .i64 slot)).setCell ⟨w.heap.size + 1 + 1, 0, none⟩ (.int .i64 (i : Nat))).setCell ⟨w.heap.size + 1 + 1 + 1, 0, none⟩ (.int .u32 (x.gen : Nat))).setCell ⟨w.heap.size + 1 + 1 + 1 + 1, 0, none⟩ (.int .i64 0) = W5 at *
        have hlen : (es.set i { x with st := 1, slot := slot }).length = (es.set i { x with st := (1 : Int).toNat }).length := by simp
        have hset : (es.set i { x with st := (1 : Int).toNat }).set i { x with st := 1, slot := slot } = es.set i { x with st := 1, slot := slot } := List.set_set ..
        have hcnt : ∀ s, cnt s (es.set i { x with st := 1, slot := slot }) = cnt s (es.set i { x with st := (1 : Int).toNat }) := by
          intro s
          have := cnt_set hxs { x with st := 1, slot := slot } s
          rw [hset] at this
          simp at this
          exact this
        have hTab : Tab W5 b e c (es.set i { x with st := 1, slot := slot }) gens := by
          refine ⟨hd, _, zb, ze, hne, hsz, by rw [hlen]; exact hlc, hc, by rw [hlen]; exact hd0, hd1, fun s hs => by rw [hcnt]; exact hds s hs, ?_⟩
          have := hes.set (j := 1) hxs { x with st := 1, slot := slot } (by omega) (.int .i64 slot) (by simp) (by simp) (by simp) (by simp) (by simp) (by simp)
          rw [hset] at this
          exact this
        have hL5 := ((hL2.only hO3 (by simp <;> omega)).only hOf (by simp <;> omega))
        have hD5 := (hOf.block W0.heap.size (by have := hO3.size; omega) (by simp <;> omega)).trans ((hO3.block W0.heap.size hW0lt (by simp <;> omega)).trans hD2)
        refine ⟨hL5, ?_⟩
        intro W4 h4d hl4
        have h4 : Only [W0.heap.size + 1] W5 W4 := (Only.refl _ W5).drew.trans h4d
        have hs5 := hO3.size
        have hs6 := hOf.size
        have hO0 := HO0.out
        refine ⟨false, rfl, .ret, ⟨rfl, (h4.block W0.heap.size (by omega) (by simp)).trans hD5, i, x, hff, hx, hTab.only h4 (by simp <;> omega) (by simp <;> omega), z2.only h4 (by simp <;> omega), z3.only h4 (by simp <;> omega), z4.only h4 (by simp <;> omega), ?_⟩, hl4⟩
        exact ((((((hO0.transL h1).transL hO2).transL hO3).transL hOf).transL h4)).strip (by simp <;> omega)
    case fin =>
      rintro r W' ⟨hv, h | ⟨c', hst, hl⟩⟩
      · exact ⟨hv, .inl ⟨⟨h.1, h.2.1, fun j y hy => h.2.2.2 j y (lt_of_get hy) hy⟩, h.2.2.1⟩⟩
      · exact ⟨hv, .inr ⟨c', hst, hl⟩⟩
  case hdone =>
    rintro W W' ⟨h1, h2, h3⟩ ho
    have b2 := ((B2.only h1 (by simp)).only ho (by simp <;> omega))
    have b3 := ((B3.only h1 (by simp)).only ho (by simp <;> omega))
    have b4 := ((B4.only h1 (by simp)).only ho (by simp <;> omega))
    have c2 := b2.cell (o := 0) rfl
    have c3 := b3.cell (o := 0) rfl
    have c4 := b4.cell (o := 0) rfl
    have f2 := b2.frozen 0
    have f3 := b3.frozen 0
    have f4 := b4.frozen 0
    have hk := (ho.block W0.heap.size (Array.getElem?_eq_some_iff.1 h2).1 (by simp)).trans h2
    have KK := Lib.hid (And.intro h1 (And.intro ho (And.intro hk (And.intro b2 (And.intro b3 (And.intro b4 (And.intro hT0 (And.intro h3 hO))))))))
    clear h1 ho hk b2 b3 b4 hT0 h2 h3 hT hO B0 B1 B2 B3 B4 B5 B6 hok
    gi_wp2
    obtain ⟨h1, ho, hk, b2, b3, b4, hT0, h3, hO⟩ := KK.out
    have hff : firstFree es = none := firstFree_none h3
    have hP : mintP es slot = (0, 0, 131) := by unfold mintP; rw [if_neg (by omega), hff]
    have hE : mintEs es slot = es := by unfold mintEs; rw [if_neg (by omega), hff]
    refine leaveM ?_ (fun W4 h4 => ?_)
    · rw [Below.heap_setCell _ _ _ _ (by simp <;> omega), Below.heap_setCell _ _ _ _ (by simp <;> omega), Below.heap_setCell _ _ _ _ (by simp <;> omega)]; exact hk
    · have q2 := (((b2.set 0 (.int .i64 0)).set_other (p := ⟨w.heap.size + 1 + 1 + 1, 0, none⟩) (by simp) (.int .u32 0)).set_other (p := ⟨w.heap.size + 1 + 1 + 1 + 1, 0, none⟩) (by simp <;> omega) (.int .i64 131)).only h4 (by simp <;> omega)
      have q3 := (((b3.set_other (p := ⟨w.heap.size + 1 + 1, 0, none⟩) (by simp) (.int .i64 0)).set 0 (.int .u32 0)).set_other (p := ⟨w.heap.size + 1 + 1 + 1 + 1, 0, none⟩) (by simp) (.int .i64 131)).only h4 (by simp <;> omega)
      have q4 := (((b4.set_other (p := ⟨w.heap.size + 1 + 1, 0, none⟩) (by simp <;> omega) (.int .i64 0)).set_other (p := ⟨w.heap.size + 1 + 1 + 1, 0, none⟩) (by simp) (.int .u32 0)).set 0 (.int .i64 131)).only h4 (by simp <;> omega)
      have r2 := q2.cell (o := 0) rfl
      have r3 := q3.cell (o := 0) rfl
      have r4 := q4.cell (o := 0) rfl
      refine ⟨.tuple #[.int .i64 0, .int .u32 0, .int .i64 131], by simp [results, Try.results9, go_sem, r2, r3, r4], by rw [hP], ?_, ?_⟩
      · rw [hE]
        have hOf : Only [w.heap.size + 1 + 1, w.heap.size + 1 + 1 + 1, w.heap.size + 1 + 1 + 1 + 1] W' (((W'.setCell ⟨w.heap.size + 1 + 1, 0, none⟩ (.int .i64 0)).setCell ⟨w.heap.size + 1 + 1 + 1, 0, none⟩ (.int .u32 0)).setCell ⟨w.heap.size + 1 + 1 + 1 + 1, 0, none⟩ (.int .i64 131)) :=
          ((((Only.refl _ _).setCell (by simp) _).setCell (by simp) _).setCell (by simp) _)
        exact (((hT0.only h1 (by simp) (by simp)).only ho (by simp <;> omega) (by simp <;> omega)).only hOf (by simp <;> omega) (by simp <;> omega)).only h4 (by simp <;> omega) (by simp <;> omega)
      · have h5 := (((hO.transL h1).transL ho).transL (((((Only.refl [w.heap.size + 1 + 1, w.heap.size + 1 + 1 + 1, w.heap.size + 1 + 1 + 1 + 1] W').setCell (p := ⟨w.heap.size + 1 + 1, 0, none⟩) (by simp) (.int .i64 0)).setCell (p := ⟨w.heap.size + 1 + 1 + 1, 0, none⟩) (by simp) (.int .u32 0)).setCell (p := ⟨w.heap.size + 1 + 1 + 1 + 1, 0, none⟩) (by simp) (.int .i64 131)))).transL h4
        exact h5.strip (by simp <;> omega)
  case hstop =>
    rintro c' W W' ⟨rfl, h2, i, x, hff, hx, hT', b2, b3, b4, hOO⟩ ho
    have hP : mintP es slot = ((i : Int), (x.gen : Int), 0) := by unfold mintP genAt; rw [if_neg (by omega), hff]; simp [hx]
    have hE : mintEs es slot = es.set i { x with st := 1, slot := slot } := by unfold mintEs; rw [if_neg (by omega), hff]; exact modify_eq_set hx _
    have hk := (ho.block W0.heap.size (Array.getElem?_eq_some_iff.1 h2).1 (by simp)).trans h2
    have KK := Lib.hid (And.intro ho (And.intro hk (And.intro b2 (And.intro b3 (And.intro b4 (And.intro hT' (And.intro hOO (And.intro hP hE))))))))
    clear ho hk b2 b3 b4 hT' hOO hP hE hff hx h2 hT0 hT hO B0 B1 B2 B3 B4 B5 B6 hok
    gi_wp2
    obtain ⟨ho, hk, b2, b3, b4, hT', hOO, hP, hE⟩ := KK.out
    refine leaveM hk (fun W4 h4 => ?_)
    have r2 := ((b2.only ho (by simp <;> omega)).only h4 (by simp <;> omega)).cell (o := 0) rfl
    have r3 := ((b3.only ho (by simp <;> omega)).only h4 (by simp <;> omega)).cell (o := 0) rfl
    have r4 := ((b4.only ho (by simp <;> omega)).only h4 (by simp <;> omega)).cell (o := 0) rfl
    refine ⟨.tuple #[.int .i64 (i : Nat), .int .u32 (x.gen : Nat), .int .i64 0], by simp [results, Try.results9, go_sem, r2, r3, r4], by rw [hP], ?_, ?_⟩
    · rw [hE]; exact (hT'.only ho (by simp <;> omega) (by simp <;> omega)).only h4 (by simp <;> omega) (by simp <;> omega)
    · exact ((hOO.transL ho).transL h4).strip (by simp <;> omega)

end Go.Proofs.Ytleimlhcdomffaa
