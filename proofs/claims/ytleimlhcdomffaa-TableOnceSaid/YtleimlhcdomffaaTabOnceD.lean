/- TableOnce: what the walk keeps between its parts. -/
import Derived.Test.YtleimlhcdomffaaTabOnce
import Derived.Test.YtleimlhcdomffaaHeld
namespace Go.Proofs.Ytleimlhcdomffaa
open Go.RowKit Go.Shelf
set_option linter.unusedVariables false

structure OSt where
  i : Nat
  n : Nat
  a9 : Option Addr
  a10 : Option Addr
  a11 : Option Addr
  a12 : Option Addr
  c9 : Nat
  c10 : Nat
  c11 : Nat
  c12 : Nat
  es : List Ent
  hs : List Hnd

def OGood (w : World) (b e c : Nat) (gens : Int) (s : OSt) (k : Nat) (W : World) : Prop :=
  Hid (OnceMem w b e c gens s.es s.hs (.slice s.a9 s.n s.c9) (.slice s.a10 s.n s.c10) (.slice s.a11 s.n s.c11) (.slice s.a12 s.n s.c12) W ∧ OnceInv s.es s.hs ∧ s.hs.length = s.n ∧ s.n ≤ k)

theorem EntsOk.set {es : List Ent} (h : EntsOk es) (i : Nat) (x : Ent) (hx : x.st < 4 ∧ x.gen ≤ 2147483648 ∧ 0 ≤ x.slot ∧ x.slot ≤ 9223372036854775807) : EntsOk (es.set i x) := by
  refine ⟨by simpa using h.1, by simpa using h.2.1, fun y hy => ?_⟩
  rcases List.mem_or_eq_of_mem_set hy with hy | rfl
  · exact h.2.2 y hy
  · exact hx

theorem EntsOk.rec {es : List Ent} (h : EntsOk es) {gens : Int} (hg : gens ≤ 2147483648) : EntsOk (es.map (recEnt gens)) := by
  refine ⟨by simpa using h.1, by simpa using h.2.1, fun y hy => ?_⟩
  obtain ⟨x, hx, rfl⟩ := List.mem_map.1 hy
  have := h.2.2 x hx
  unfold recEnt
  split
  · split
    · simp; omega
    · simp; omega
  · exact this


theorem map_set_same {α β : Type} {f : α → β} {l : List α} {k : Nat} {x y : α} (hk : l[k]? = some x) (hf : f y = f x) : (l.set k y).map f = l.map f := by
  apply List.ext_getElem?
  intro j
  rw [List.getElem?_map, List.getElem?_map, List.getElem?_set]
  split
  · rename_i hj
    subst hj
    rw [if_pos (List.getElem?_eq_some_iff.1 hk).1, hk]
    simp [hf]
  · rfl

/-- a handle is marked as gone -/
theorem OnceMem.mark {w : World} {b e c n : Nat} {gens : Int} {es : List Ent} {hs : List Hnd} {v9 v10 v11 : Value} {g12 c12 : Nat} {W : World} (h : OnceMem w b e c gens es hs v9 v10 v11 (.slice (some ⟨g12, 0, none⟩) n c12) W) (hn : hs.length = n)
    {k : Nat} {x : Hnd} (hk : hs[k]? = some x) : OnceMem w b e c gens es (hs.set k { x with gone := true }) v9 v10 v11 (.slice (some ⟨g12, 0, none⟩) n c12) (W.setCell ⟨g12, k, none⟩ (.bool true)) := by
  obtain ⟨τ, t9, t10, t11, t12, tb, te⟩ := h.col
  have e12 := t12 g12 (by simp [blk_some])
  have ho : Only [g12] W (W.setCell ⟨g12, k, none⟩ (.bool true)) := (Only.refl [g12] W).setCell (p := ⟨g12, k, none⟩) (by simp) _
  have sep : ∀ {v : Value} {cc : Nat}, Col τ v cc → cc ≠ 4 → ∀ g, g ∈ blk v → g ∉ [g12] := by
    intro v cc hv hne g hg hm
    simp at hm
    subst hm
    exact hne ((hv _ hg).symm.trans e12)
  refine ⟨h.tab.only ho (by simp; intro e1; subst e1; omega) (by simp; intro e1; subst e1; omega), h.ok, ?_, ?_, ?_, ?_, ⟨τ, t9, t10, t11, t12, tb, te⟩, h.new, ?_⟩
  · have := h.s9.only ho (sep t9 (by omega))
    rw [List.length_set, map_set_same (f := fun h : Hnd => Value.int .i64 (h.idx : Nat)) (y := { x with gone := true }) hk rfl]; exact this
  · have := h.s10.only ho (sep t10 (by omega))
    rw [List.length_set, map_set_same (f := fun h : Hnd => Value.int .i64 h.slot) (y := { x with gone := true }) hk rfl]; exact this
  · have := h.s11.only ho (sep t11 (by omega))
    rw [List.length_set, map_set_same (f := fun h : Hnd => Value.int .u32 (h.gen : Nat)) (y := { x with gone := true }) hk rfl]; exact this
  · have t := h.s12
    rw [hn] at t
    have := t.set k (.bool true)
    rw [List.length_set, hn, List.map_set]; exact this
  · exact (h.only.transL ho).strip (by
      intro j hj; simp at hj; subst hj; exact .inr (h.new _ (by simp [blk_some])))

theorem set_self {α : Type} {l : List α} {k : Nat} {x : α} (hk : l[k]? = some x) : l.set k x = l := by
  apply List.ext_getElem?
  intro j
  rw [List.getElem?_set]
  split
  · rename_i hj
    subst hj
    rw [if_pos (List.getElem?_eq_some_iff.1 hk).1, hk]
  · rfl

noncomputable def onceCode : Code := (Try.f4.body).getD .skip
noncomputable def onceX : Code := cAt onceCode [1, 1, 1, 1, 1, 1, 0, 1, 0, 0, 1, 0, 0]
noncomputable def onceMint : Code := cAt onceX [1, 1, 1, 0, 1, 0, 1, 1]
noncomputable def onceElse : Code := cAt onceX [1, 1, 1, 0, 1, 0, 1, 2]
noncomputable def onceEnd : Code := cAt onceX [1, 1, 1, 1]

/-- the slots that live through a round -/
def oM (i b : Nat) (lv : Value) (s : OSt) : Slots := [(13, .int .i64 i), (9, .slice s.a9 s.n s.c9), (10, .slice s.a10 s.n s.c10), (11, .slice s.a11 s.n s.c11), (12, .slice s.a12 s.n s.c12), (7, .pointer (some ⟨b, 0, none⟩)), (2, lv)]

end Go.Proofs.Ytleimlhcdomffaa
