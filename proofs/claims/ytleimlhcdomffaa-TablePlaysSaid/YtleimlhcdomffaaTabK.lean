/- The real table in the walker's words; the plain law between it and the document's. -/
import Derived.Test.YtleimlhcdomffaaRefK3
namespace Go.Proofs.Ytleimlhcdomffaa
open Go.RowKit
set_option linter.unusedVariables false
set_option linter.unusedSimpArgs false

def tcell (x : Ent) : List Value := [.int .i64 (x.st : Nat), .int .i64 x.slot, .int .u32 (x.gen : Nat)]
def tE : Enc Ent := ⟨tcell, 3, fun _ => rfl, by intro x v hv; simp [tcell] at hv; rcases hv with rfl | rfl | rfl <;> rfl⟩

def headOf (e c : Nat) (es : List Ent) (gens : Int) : List Value := [.slice (some ⟨e, 0, none⟩) es.length c, .int .i64 gens, .int .i64 (cnt 0 es : Nat), .int .i64 (cnt 1 es : Nat), .int .i64 (cnt 2 es : Nat), .int .i64 (cnt 3 es : Nat)]
def TabH (b e c : Nat) (es : List Ent) (gens : Int) (tl : List Value) : Heap := [(b, cells (headOf e c es gens) 55), (e, cells (flat tE es ++ tl) 62)]
def TabC (c : Nat) (es : List Ent) : Prop := es.length ≤ c ∧ c ≤ maxLen

theorem tab_of {w0 w : World} {b e c : Nat} {es : List Ent} {gens : Int} {tl : List Value} {F : Heap} (hw : HF w0 (TabH b e c es gens tl ++ F) w) (hc : TabC c es) : Tab w b e c es gens := by
  have hn := hw.nd
  simp only [TabH, List.cons_append, List.nil_append, List.map_cons, List.nodup_cons] at hn
  have h1 : w.heap[b]? = some (cells (headOf e c es gens) 55) := hw.get (b, cells (headOf e c es gens) 55) (by simp [TabH])
  have h2 : w.heap[e]? = some (cells (flat tE es ++ tl) 62) := hw.get (e, cells (flat tE es ++ tl) 62) (by simp [TabH])
  refine ⟨(headOf e c es gens).toArray, (flat tE es ++ tl).toArray, h1, h2, ?_, rfl, hc.1, hc.2, rfl, rfl, ?_, ?_⟩
  · intro hbe; subst hbe; simp at hn
  · intro s hs
    rcases (show s = 0 ∨ s = 1 ∨ s = 2 ∨ s = 3 by omega) with rfl | rfl | rfl | rfl <;> rfl
  · intro i x hx
    have key : ∀ j u, (tE.enc x)[j]? = some u → (flat tE es ++ tl).toArray[i * 3 + j]? = some u := by
      intro j u hu
      have hg := flat_get hx hu
      have hlt := (List.getElem?_eq_some_iff.1 hg).1
      rw [List.getElem?_toArray]
      exact (List.getElem?_append_left hlt).trans hg
    exact ⟨key 0 _ rfl, key 1 _ rfl, key 2 _ rfl⟩

theorem tab_to {w : World} {b e c : Nat} {es : List Ent} {gens : Int} (h : Tab w b e c es gens) : ∃ tl, w.heap[b]? = some (cells (headOf e c es gens) 55) ∧ w.heap[e]? = some (cells (flat tE es ++ tl) 62) ∧ b ≠ e ∧ TabC c es := by
  obtain ⟨hd, arr, h1, h2, hne, hsz, hlc, hc, hd0, hd1, hds, hes⟩ := h
  have e1 : hd = (headOf e c es gens).toArray := by
    apply Array.ext_getElem?
    intro i
    rcases (show i = 0 ∨ i = 1 ∨ i = 2 ∨ i = 3 ∨ i = 4 ∨ i = 5 ∨ 6 ≤ i by omega) with rfl | rfl | rfl | rfl | rfl | rfl | h6
    · rw [hd0]; rfl
    · rw [hd1]; rfl
    · exact (hds 0 (by omega)).trans rfl
    · exact (hds 1 (by omega)).trans rfl
    · exact (hds 2 (by omega)).trans rfl
    · exact (hds 3 (by omega)).trans rfl
    · rw [Array.getElem?_eq_none (by omega), Array.getElem?_eq_none (by simp [headOf]; omega)]
  have e2 : (arr.toList).take (flat tE es).length = flat tE es := by
    apply List.ext_getElem?
    intro q
    rw [List.getElem?_take]
    split
    · rename_i hq
      have hq2 : (flat tE es)[q]? = some (flat tE es)[q] := List.getElem?_eq_getElem hq
      obtain ⟨x, hx, hu⟩ := flat_at hq2
      rw [hq2]
      obtain ⟨a0, a1, a2⟩ := hes _ x hx
      have hs3 : tE.sz = 3 := rfl
      rw [hs3] at hx hu a0 a1 a2
      have hm : q % 3 < 3 := Nat.mod_lt _ (by omega)
      have hdm : q = q / 3 * 3 + q % 3 := by omega
      rw [← hu, Array.getElem?_toList]
      rcases (show q % 3 = 0 ∨ q % 3 = 1 ∨ q % 3 = 2 by omega) with h | h | h
      · rw [h] at hdm ⊢; rw [hdm]; exact a0
      · rw [h] at hdm ⊢; rw [hdm]; exact a1
      · rw [h] at hdm ⊢; rw [hdm]; exact a2
    · rename_i hq
      rw [List.getElem?_eq_none (by omega)]
  refine ⟨arr.toList.drop (flat tE es).length, ?_, ?_, hne, hlc, hc⟩
  · subst e1; exact h1
  · have := h2
    unfold Blk at this
    rw [this]
    conv => lhs; rw [← Array.toArray_toList (xs := arr), ← List.take_append_drop (flat tE es).length arr.toList, e2]

theorem Call.quiet {w0 : World} {P : Program} {f : FuncId} {args : List Value} {H : Heap} {r : Value} (he : enters P f = true) (h : ∀ w, HF w0 H w → Calls P f args.toArray w (fun x w' => x = .returned r ∧ w = w')) :
    Call P w0 f args H (fun v H' => v = r ∧ H' = H) :=
  ⟨he, fun w hw => (h w hw).mono fun x w' ⟨h1, h2⟩ => ⟨r, H, h1, h2 ▸ hw, rfl, rfl⟩⟩
theorem Call.calm {w0 : World} {P : Program} {f : FuncId} {args : List Value} {H : Heap} {r : Value} (he : enters P f = true) (h : ∀ w, HF w0 H w → Calls P f args.toArray w (fun x w' => x = .returned r ∧ Only [] w w')) :
    Call P w0 f args H (fun v H' => v = r ∧ H' = H) :=
  ⟨he, fun w hw => (h w hw).mono fun x w' ⟨h1, h2⟩ => ⟨r, H, h1, by
    have := hw.rebase (N := []) ⟨h2, (fun p hp => absurd hp (by simp)), (fun p hp => absurd hp (by simp)), by simp⟩
    simpa using this, rfl, rfl⟩⟩
theorem Call.tab {w0 : World} {P : Program} {f : FuncId} {args : List Value} {F : Heap} {r : Value} {b e c : Nat} {es es' : List Ent} {gens : Int} {tl : List Value} (he : enters P f = true) (hc : TabC c es)
    (h : ∀ w, Tab w b e c es gens → Calls P f args.toArray w (fun x w' => x = .returned r ∧ Tab w' b e c es' gens ∧ Only [b, e] w w')) :
    Call P w0 f args (TabH b e c es gens tl ++ F) (fun v H' => v = r ∧ TabC c es' ∧ ∃ tl', H' = TabH b e c es' gens tl' ++ F) :=
  ⟨he, fun w hw => (h w (tab_of hw hc)).mono fun x w' ⟨h1, h2, h3⟩ => by
    obtain ⟨tl', g1, g2, g3, g4⟩ := tab_to h2
    refine ⟨r, _, h1, ?_, rfl, g4, tl', rfl⟩
    refine hw.only h3 ?_ ?_ ?_ ?_
    · intro k hk; simpa [TabH] using hk
    · intro p hp
      simp only [TabH, List.mem_cons, List.not_mem_nil, or_false] at hp
      rcases hp with rfl | rfl
      · exact g1
      · exact g2
    · simp [TabH, g3]
    · intro p hp
      simp only [TabH, List.mem_cons, List.not_mem_nil, or_false] at hp
      rcases hp with rfl | rfl <;> simp [TabH]⟩

section
variable {w0 : World} {F : Heap} {b e c : Nat} {es : List Ent} {gens : Int} {tl : List Value}


theorem Free_K (hc : TabC c es) (hok : EntsOk es) : Call Try.prog w0 13 [.pointer (some ⟨b, 0, none⟩)] (TabH b e c es gens tl ++ F) (fun v H' => v = .int .i64 (cnt 0 es : Nat) ∧ H' = TabH b e c es gens tl ++ F) :=
  Call.quiet (by kernel_rfl) fun w hw => Free_tab (tab_of hw hc) hok
theorem Live_K (hc : TabC c es) (hok : EntsOk es) : Call Try.prog w0 15 [.pointer (some ⟨b, 0, none⟩)] (TabH b e c es gens tl ++ F) (fun v H' => v = .int .i64 (cnt 1 es : Nat) ∧ H' = TabH b e c es gens tl ++ F) :=
  Call.quiet (by kernel_rfl) fun w hw => Live_tab (tab_of hw hc) hok
theorem Dropped_K (hc : TabC c es) (hok : EntsOk es) : Call Try.prog w0 16 [.pointer (some ⟨b, 0, none⟩)] (TabH b e c es gens tl ++ F) (fun v H' => v = .int .i64 (cnt 2 es : Nat) ∧ H' = TabH b e c es gens tl ++ F) :=
  Call.quiet (by kernel_rfl) fun w hw => Dropped_tab (tab_of hw hc) hok
theorem Retired_K (hc : TabC c es) (hok : EntsOk es) : Call Try.prog w0 12 [.pointer (some ⟨b, 0, none⟩)] (TabH b e c es gens tl ++ F) (fun v H' => v = .int .i64 (cnt 3 es : Nat) ∧ H' = TabH b e c es gens tl ++ F) :=
  Call.quiet (by kernel_rfl) fun w hw => Retired_tab (tab_of hw hc) hok
theorem Len_K (hc : TabC c es) (hok : EntsOk es) : Call Try.prog w0 17 [.pointer (some ⟨b, 0, none⟩)] (TabH b e c es gens tl ++ F) (fun v H' => v = .int .i64 (es.length : Nat) ∧ H' = TabH b e c es gens tl ++ F) :=
  Call.quiet (by kernel_rfl) fun w hw => Len_tab (tab_of hw hc) hok
theorem none_K (hc : TabC c es) (hok : EntsOk es) : Call Try.prog w0 24 [.pointer (some ⟨b, 0, none⟩)] (TabH b e c es gens tl ++ F) (fun v H' => v = .bool false ∧ H' = TabH b e c es gens tl ++ F) :=
  Call.quiet (by kernel_rfl) fun w hw => none_tab (tab_of hw hc) hok
theorem Slot_K (hc : TabC c es) (hok : EntsOk es) (index : Int) : Call Try.prog w0 22 [.pointer (some ⟨b, 0, none⟩), .int .i64 index] (TabH b e c es gens tl ++ F) (fun v H' => v = .tuple #[.int .i64 (slotP es index).1, .bool (slotP es index).2] ∧ H' = TabH b e c es gens tl ++ F) :=
  Call.quiet (by kernel_rfl) fun w hw => Slot_tab (tab_of hw hc) hok index
theorem Look_K (hc : TabC c es) (hok : EntsOk es) (index gen : Int) : Call Try.prog w0 14 [.pointer (some ⟨b, 0, none⟩), .int .i64 index, .int .u32 gen] (TabH b e c es gens tl ++ F) (fun v H' => v = .tuple #[.int .i64 (lookP es index gen).1, .int .i64 (lookP es index gen).2] ∧ H' = TabH b e c es gens tl ++ F) :=
  Call.quiet (by kernel_rfl) fun w hw => Look_tab (tab_of hw hc) hok index gen
theorem Drop_K (hc : TabC c es) (hok : EntsOk es) (index gen : Int) : Call Try.prog w0 10 [.pointer (some ⟨b, 0, none⟩), .int .i64 index, .int .u32 gen] (TabH b e c es gens tl ++ F)
    (fun v H' => v = .tuple #[.int .i64 (lookP es index gen).1, .int .i64 (lookP es index gen).2] ∧ TabC c (dropP es index gen) ∧ ∃ tl', H' = TabH b e c (dropP es index gen) gens tl' ++ F) :=
  Call.tab (by kernel_rfl) hc fun w hT => Drop_tab hT hok index gen
theorem Recycle_K (hc : TabC c es) (hok : EntsOk es) (hg1 : 1 ≤ gens) (hg2 : gens ≤ 2147483648) : Call Try.prog w0 11 [.pointer (some ⟨b, 0, none⟩)] (TabH b e c es gens tl ++ F)
    (fun v H' => v = .int .i64 (es.countP (recFrees gens) : Nat) ∧ TabC c (es.map (recEnt gens)) ∧ ∃ tl', H' = TabH b e c (es.map (recEnt gens)) gens tl' ++ F) :=
  Call.tab (by kernel_rfl) hc fun w hT => Recycle_tab hT hok hg1 hg2
theorem Mint_K (hc : TabC c es) (hok : EntsOk es) (slot : Int) : Call Try.prog w0 9 [.pointer (some ⟨b, 0, none⟩), .int .i64 slot] (TabH b e c es gens tl ++ F)
    (fun v H' => v = .tuple #[.int .i64 (mintP es slot).1, .int .u32 (mintP es slot).2.1, .int .i64 (mintP es slot).2.2] ∧ TabC c (mintEs es slot) ∧ ∃ tl', H' = TabH b e c (mintEs es slot) gens tl' ++ F) :=
  Call.tab (by kernel_rfl) hc fun w hT => by
    by_cases hs : slot < 0
    · refine (Mint_neg hT hok slot hs).mono ?_
      rintro x w' ⟨rfl, ho⟩
      have h1 : mintP es slot = (0, 0, 2) := by unfold mintP; rw [if_pos hs]
      have h2 : mintEs es slot = es := by unfold mintEs; rw [if_pos hs]
      rw [h1, h2]
      exact ⟨rfl, hT.only ho (by simp) (by simp), ho.to⟩
    · exact Mint_tab hT hok slot (by omega)
end

theorem awake_K {w0 : World} {H : Heap} : Call Try.prog w0 8 [] H (fun v H' => v = .bool true ∧ H' = H) := Call.calm (by kernel_rfl) fun w _ => awake_any w
theorem NewBad_K {w0 : World} {H : Heap} {many gens : Int} (h : many < 1 ∨ 1024 < many ∨ gens < 1 ∨ 2147483648 < gens) : Call Try.prog w0 7 [.int .i64 many, .int .i64 gens] H (fun v H' => v = .tuple #[.pointer none, .int .i64 2] ∧ H' = H) :=
  Call.quiet (by kernel_rfl) fun w _ => New_bad h w
theorem New_K {w0 : World} {F : Heap} (many : Nat) (gens : Int) (h1 : 1 ≤ many) (h2 : many ≤ 1024) (h3 : 1 ≤ gens) (h4 : gens ≤ 2147483648) : Call Try.prog w0 7 [.int .i64 (many : Nat), .int .i64 gens] F
    (fun v H' => ∃ b e tl, v = .tuple #[.pointer (some ⟨b, 0, none⟩), .int .i64 0] ∧ TabC many (List.replicate many ent0) ∧ H' = TabH b e many (List.replicate many ent0) gens tl ++ F) :=
  ⟨by kernel_rfl, fun w hw => (New_tab many gens w h1 h2 h3 h4).mono fun x w' ⟨b, e, h1, hb, he, hT, ho⟩ => by
    obtain ⟨tl', g1, g2, g3, g4⟩ := tab_to hT
    refine ⟨_, _, h1, ?_, b, e, tl', rfl, g4, rfl⟩
    refine hw.rebase ⟨ho, ?_, ?_, ?_⟩
    · intro p hp
      simp only [TabH, List.mem_cons, List.not_mem_nil, or_false] at hp
      rcases hp with rfl | rfl
      · exact g1
      · exact g2
    · intro p hp
      simp only [TabH, List.mem_cons, List.not_mem_nil, or_false] at hp
      rcases hp with rfl | rfl
      · exact hb
      · exact he
    · simp [TabH, g3]⟩

/-! ## the plain law -/
/-- the document's entry of an entry -/
def rl (x : Ent) : Ent := if x.st = 2 then { x with slot := 0 } else x
theorem rl_st (x : Ent) : (rl x).st = x.st := by unfold rl; split <;> rfl
theorem rl_gen (x : Ent) : (rl x).gen = x.gen := by unfold rl; split <;> rfl
theorem rl_live {x : Ent} (h : x.st ≠ 2) : rl x = x := by unfold rl; rw [if_neg h]
theorem rl_cnt (s : Nat) (es : List Ent) : cnt s (es.map rl) = cnt s es := by
  unfold cnt; rw [List.countP_map]; congr 1; funext x; simp [rl_st]
theorem rl_named (es : List Ent) (i g : Int) : namedAt (es.map rl) i g = namedAt es i g := by
  unfold namedAt
  rw [List.length_map, List.getElem?_map]
  cases es[i.toNat]? <;> simp [rl_st, rl_gen]
theorem rl_look (es : List Ent) (i g : Int) : lookP (es.map rl) i g = lookP es i g := by
  unfold lookP
  rw [rl_named]
  cases h : namedAt es i g with
  | none => rfl
  | some j =>
    obtain ⟨x, hx, h1, _⟩ := namedAt_some h
    simp only [slotAt, List.getElem?_map, hx, Option.map_some, Option.getD_some]
    rw [rl_live (by omega)]
theorem rl_first (es : List Ent) : firstFree (es.map rl) = firstFree es := by
  unfold firstFree
  rw [List.findIdx?_map]
  congr 1; funext x; simp [rl_st]
theorem rl_mintP (es : List Ent) (s : Int) : mintP (es.map rl) s = mintP es s := by
  unfold mintP genAt
  rw [rl_first]
  split
  · rfl
  · cases firstFree es with
    | none => rfl
    | some i => simp only [List.getElem?_map]; cases es[i]? <;> simp [rl_gen]
theorem rl_mintEs (es : List Ent) (s : Int) : mintEs (es.map rl) s = (mintEs es s).map rl := by
  unfold mintEs
  rw [rl_first]
  split
  · rfl
  · cases h : firstFree es with
    | none => rfl
    | some i =>
      obtain ⟨x, hx, h0⟩ := firstFree_some h
      simp only
      rw [modify_eq_set hx, modify_eq_set (x := rl x) (by rw [List.getElem?_map, hx]; rfl), List.map_set, rl_live (x := x) (by omega)]
      rw [rl_live (by simp)]
theorem rl_drop (es : List Ent) (i g : Int) : dropR (es.map rl) i g = (dropP es i g).map rl := by
  unfold dropR dropP
  rw [rl_named]
  cases h : namedAt es i g with
  | none => rfl
  | some j =>
    obtain ⟨x, hx, h1, _⟩ := namedAt_some h
    simp only
    rw [modify_eq_set hx, modify_eq_set (x := rl x) (by rw [List.getElem?_map, hx]; rfl), List.map_set, rl_live (x := x) (by omega)]
    rfl
theorem rl_rec (gens : Int) (es : List Ent) : (es.map rl).map (recEnt gens) = (es.map (recEnt gens)).map rl := by
  rw [List.map_map, List.map_map]
  congr 1; funext x
  simp only [Function.comp, recEnt, rl_st, rl_gen]
  by_cases h : x.st = 2
  · rw [if_pos h, if_pos h]
    split <;> rfl
  · rw [if_neg h, if_neg h]
theorem rl_frees (gens : Int) (es : List Ent) : (es.map rl).countP (recFrees gens) = es.countP (recFrees gens) := by
  rw [List.countP_map]; congr 1; funext x; simp [recFrees, rl_st, rl_gen]
theorem rl_ok {es : List Ent} (h : EntsOk es) : EntsOk (es.map rl) := by
  refine ⟨by simpa using h.1, by simpa using h.2.1, ?_⟩
  intro x hx
  obtain ⟨y, hy, rfl⟩ := List.mem_map.1 hx
  obtain ⟨h1, h2, h3, h4⟩ := h.2.2 y hy
  unfold rl; split
  · exact ⟨h1, h2, by simp, by simp⟩
  · exact ⟨h1, h2, h3, h4⟩
theorem ok_set {es : List Ent} (h : EntsOk es) {i : Nat} {x : Ent} (hx : x.st < 4 ∧ x.gen ≤ 2147483648 ∧ 0 ≤ x.slot ∧ x.slot ≤ 9223372036854775807) : EntsOk (es.set i x) := by
  refine ⟨by simpa using h.1, by simpa using h.2.1, ?_⟩
  intro y hy
  rcases List.mem_or_eq_of_mem_set hy with hy | rfl
  · exact h.2.2 y hy
  · exact hx
theorem ok_mint {es : List Ent} (h : EntsOk es) {s : Int} (hs : s ≤ 9223372036854775807) : EntsOk (mintEs es s) := by
  unfold mintEs
  split
  · exact h
  · cases hf : firstFree es with
    | none => exact h
    | some i =>
      obtain ⟨x, hx, h0⟩ := firstFree_some hf
      have := h.2.2 x (List.mem_of_getElem? hx)
      simp only
      rw [modify_eq_set hx]
      exact ok_set h ⟨by simp, this.2.1, by simp; omega, hs⟩
theorem ok_drop {es : List Ent} (h : EntsOk es) (i g : Int) : EntsOk (dropP es i g) := by
  unfold dropP
  cases hn : namedAt es i g with
  | none => exact h
  | some j =>
    obtain ⟨x, hx, _⟩ := namedAt_some hn
    have := h.2.2 x (List.mem_of_getElem? hx)
    simp only
    rw [modify_eq_set hx]
    exact ok_set h ⟨by simp, this.2.1, this.2.2.1, this.2.2.2⟩
theorem ok_rec {gens : Int} {es : List Ent} (h : EntsOk es) (hg : gens ≤ 2147483648) : EntsOk (es.map (recEnt gens)) := by
  have := recUpTo_ok h es.length hg
  rwa [recUpTo_all] at this
theorem ok_new {n : Nat} (h1 : 1 ≤ n) (h2 : n ≤ 1024) : EntsOk (List.replicate n ent0) := by
  refine ⟨by simpa using h1, by simpa using h2, ?_⟩
  intro x hx
  rw [List.eq_of_mem_replicate hx]
  simp [ent0]
theorem rl_new (n : Nat) : (List.replicate n ent0).map rl = List.replicate n ent0 := by rw [List.map_replicate]; rfl
theorem EntsOk.st {es : List Ent} (h : EntsOk es) : StOk es := fun x hx => (h.2.2 x hx).1
theorem len_drop (es : List Ent) (i g : Int) : (dropP es i g).length = es.length := by unfold dropP; split <;> simp
theorem len_mint (es : List Ent) (s : Int) : (mintEs es s).length = es.length := by
  unfold mintEs
  split
  · rfl
  · split <;> simp
end Go.Proofs.Ytleimlhcdomffaa
