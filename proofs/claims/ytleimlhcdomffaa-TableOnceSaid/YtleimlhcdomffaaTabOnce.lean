/- TableOnce returns true, whatever it is given: the walk. -/
import Derived.Test.YtleimlhcdomffaaTabOnceM
import Derived.Test.YtleimlhcdomffaaTabAwake
import Derived.Deep.DeepCutAuto
import Derived.Deep.CutBlock
import Derived.StillTailTactics
import Derived.Deep.LoopGhost
import Derived.Deep.QuietTactic
import Derived.BigQuiet
namespace Go.Proofs.Ytleimlhcdomffaa
open Go.RowKit Go.Shelf
set_option linter.unusedVariables false

structure Actv where
  what : Int
  slot : Int
  index : Int
  off : Int

def Actv.ok (x : Actv) : Prop := 0 ≤ x.what ∧ x.what ≤ 255 ∧ -9223372036854775808 ≤ x.slot ∧ x.slot ≤ 9223372036854775807 ∧ -9223372036854775808 ≤ x.index ∧ x.index ≤ 9223372036854775807 ∧ -128 ≤ x.off ∧ x.off ≤ 127

/-- a slice of acts that came in -/
def ActsIn (W : World) (a : Option Addr) (l : List Actv) : Prop :=
  l ≠ [] → ∃ b off, a = some ⟨b, off, none⟩ ∧ b < W.heap.size ∧ ∀ i x, l[i]? = some x → x.ok ∧ W.cell? ⟨b, off + i * 4, none⟩ = some (.int .u8 x.what) ∧ W.cell? ⟨b, off + i * 4 + 1, none⟩ = some (.int .i64 x.slot) ∧
    W.cell? ⟨b, off + i * 4 + 2, none⟩ = some (.int .i64 x.index) ∧ W.cell? ⟨b, off + i * 4 + 3, none⟩ = some (.int .i8 x.off)

def Col (τ : Nat → Nat) (v : Value) (c : Nat) : Prop := ∀ g, g ∈ blk v → τ g = c

theorem col_step {τ : Nat → Nat} {v : Value} {c n g : Nat} (hg : g ∈ blk v ∨ n ≤ g) (hc : Col τ v c) : ∃ τ' : Nat → Nat, τ' g = c ∧ ∀ k, k < n → τ' k = τ k := by
  rcases hg with hg | hg
  · exact ⟨τ, hc g hg, fun _ _ => rfl⟩
  · exact ⟨fun k => if k = g then c else τ k, by simp, fun k hk => by simp; omega⟩

/-- what lies in memory between two acts -/
structure OnceMem (w : World) (b e c : Nat) (gens : Int) (es : List Ent) (hs : List Hnd) (v9 v10 v11 v12 : Value) (W : World) : Prop where
  tab : Tab W b e c es gens
  ok : EntsOk es
  s9 : Sl W v9 3 1 hs.length (hs.map fun h => .int .i64 (h.idx : Nat))
  s10 : Sl W v10 3 1 hs.length (hs.map fun h => .int .i64 h.slot)
  s11 : Sl W v11 27 1 hs.length (hs.map fun h => .int .u32 (h.gen : Nat))
  s12 : Sl W v12 4 1 hs.length (hs.map fun h => .bool h.gone)
  col : ∃ τ : Nat → Nat, Col τ v9 1 ∧ Col τ v10 2 ∧ Col τ v11 3 ∧ Col τ v12 4 ∧ τ b = 5 ∧ τ e = 6
  new : ∀ g, g ∈ blk v9 ∨ g ∈ blk v10 ∨ g ∈ blk v11 ∨ g ∈ blk v12 ∨ g = b ∨ g = e → w.heap.size ≤ g
  only : Only [] w W

theorem OnceMem.lts {w : World} {b e c : Nat} {gens : Int} {es : List Ent} {hs : List Hnd} {v9 v10 v11 v12 : Value} {W : World} (h : OnceMem w b e c gens es hs v9 v10 v11 v12 W) :
    b < W.heap.size ∧ e < W.heap.size := ⟨h.tab.head.2.2.1, h.tab.head.2.2.2.1⟩

/-- a step that turns the table alone -/
theorem OnceMem.table {w : World} {b e c : Nat} {gens : Int} {es es' : List Ent} {hs : List Hnd} {v9 v10 v11 v12 : Value} {W W' : World} (h : OnceMem w b e c gens es hs v9 v10 v11 v12 W)
    (hT : Tab W' b e c es' gens) (hok : EntsOk es') (ho : Only [b, e] W W') : OnceMem w b e c gens es' hs v9 v10 v11 v12 W' := by
  obtain ⟨τ, t9, t10, t11, t12, tb, te⟩ := h.col
  refine ⟨hT, hok, h.s9.only ho ?_, h.s10.only ho ?_, h.s11.only ho ?_, h.s12.only ho ?_, ⟨τ, t9, t10, t11, t12, tb, te⟩, h.new, ?_⟩
  · intro g hg hm; have := t9 g hg; simp at hm; rcases hm with rfl | rfl <;> omega
  · intro g hg hm; have := t10 g hg; simp at hm; rcases hm with rfl | rfl <;> omega
  · intro g hg hm; have := t11 g hg; simp at hm; rcases hm with rfl | rfl <;> omega
  · intro g hg hm; have := t12 g hg; simp at hm; rcases hm with rfl | rfl <;> omega
  · exact (h.only.transL ho).strip (by
      intro k hk; simp at hk; exact .inr (h.new k (by rcases hk with rfl | rfl <;> simp)))

/-- a step that only makes memory -/
theorem OnceMem.grow {w : World} {b e c : Nat} {gens : Int} {es : List Ent} {hs : List Hnd} {v9 v10 v11 v12 : Value} {W W' : World} (h : OnceMem w b e c gens es hs v9 v10 v11 v12 W) (ho : Only [] W W') :
    OnceMem w b e c gens es hs v9 v10 v11 v12 W' :=
  h.table (h.tab.only ho (by simp) (by simp)) h.ok ho.to

theorem infoInt : (Try.prog.info? 3).map (fun i => (i.zero, i.size, i.bytes)) = some (some (.int .i64 0), 1, 8) := by kernel_rfl
theorem infoU32 : (Try.prog.info? 27).map (fun i => (i.zero, i.size, i.bytes)) = some (some (.int .u32 0), 1, 4) := by kernel_rfl
theorem infoBool : (Try.prog.info? 4).map (fun i => (i.zero, i.size, i.bytes)) = some (some (.bool false), 1, 1) := by kernel_rfl

/-- the frame's slice, in constructor form -/
theorem Sl.form {w : World} {v : Value} {e : TypeId} {k n : Nat} {xs : List Value} (h : Sl w v e k n xs) : ∃ a c, v = .slice a n c := by
  rcases h.shape with ⟨rfl, rfl, _⟩ | ⟨g, cap, cur, rfl, _⟩
  · exact ⟨_, _, rfl⟩
  · exact ⟨_, _, rfl⟩
theorem Sl.formPos {w : World} {a : Option Addr} {c : Nat} {e : TypeId} {k n : Nat} {xs : List Value} (h : Sl w (.slice a n c) e k n xs) (hn : 0 < n) : ∃ g, a = some ⟨g, 0, none⟩ := by
  rcases h.shape with ⟨_, h0, _⟩ | ⟨g, cap, cur, h1, _⟩
  · omega
  · cases h1; exact ⟨g, rfl⟩

theorem quiet_same {P : Program} {f : FuncId} {args : Array Value} {w : World} {n : Nat} {v : Value}
    (h : Calls P f args (w.drewN n) fun e w' => e = .returned v ∧ w.drewN n = w') : Calls P f args (w.drewN n) fun e w'' => e = .returned v ∧ ∃ m, w'' = w.drewN m :=
  h.mono fun _ _ ⟨he, hm⟩ => ⟨he, n, hm.symm⟩

/-- is an act a mint? -/
def mintB (x : Int) : Bool := decide (x % 5 = 0 ∨ x % 5 = 1)

/-- one handle more: the four appends -/
theorem OnceMem.more {w : World} {b e c : Nat} {gens : Int} {es : List Ent} {hs : List Hnd} {v9 v10 v11 v12 : Value} {W : World} (h : OnceMem w b e c gens es hs v9 v10 v11 v12 W) (hlen : hs.length ≤ 150) (a : Hnd) :
    ∃ g9 k9 W1 g11 k11 W2 g10 k10 W3 g12 k12 W4,
      (Builtin.append_ #[35, 35] 35 #[v9, .slice (some ⟨W.heap.size, 0, none⟩) 1 1]).run Try.prog (W.alloc (.cells #[.int .i64 (a.idx : Nat)] 3)) = .ok (.slice (some ⟨g9, 0, none⟩) (hs.length + 1) k9) W1 ∧
      (Builtin.append_ #[36, 36] 36 #[v11, .slice (some ⟨W1.heap.size, 0, none⟩) 1 1]).run Try.prog (W1.alloc (.cells #[.int .u32 (a.gen : Nat)] 27)) = .ok (.slice (some ⟨g11, 0, none⟩) (hs.length + 1) k11) W2 ∧
      (Builtin.append_ #[35, 35] 35 #[v10, .slice (some ⟨W2.heap.size, 0, none⟩) 1 1]).run Try.prog (W2.alloc (.cells #[.int .i64 a.slot] 3)) = .ok (.slice (some ⟨g10, 0, none⟩) (hs.length + 1) k10) W3 ∧
      (Builtin.append_ #[37, 37] 37 #[v12, .slice (some ⟨W3.heap.size, 0, none⟩) 1 1]).run Try.prog (W3.alloc (.cells #[.bool a.gone] 4)) = .ok (.slice (some ⟨g12, 0, none⟩) (hs.length + 1) k12) W4 ∧
      OnceMem w b e c gens es (hs ++ [a]) (.slice (some ⟨g9, 0, none⟩) (hs.length + 1) k9) (.slice (some ⟨g10, 0, none⟩) (hs.length + 1) k10) (.slice (some ⟨g11, 0, none⟩) (hs.length + 1) k11) (.slice (some ⟨g12, 0, none⟩) (hs.length + 1) k12) W4 ∧
      Only (blk v9 ++ blk v11) W W2 := by
  obtain ⟨τ, t9, t10, t11, t12, tb, te⟩ := h.col
  have hmax : hs.length < maxLen := by unfold maxLen; omega
  obtain ⟨hbl, hel⟩ := h.lts
  -- indexes
  obtain ⟨g9, k9, W1, r1, s1, o1, d1⟩ := run_append_one (P := Try.prog) 35 35 3 (.int .i64 0) 8 Try.underlying35 infoInt rfl h.s9 (.int .i64 (a.idx : Nat)) rfl hmax (by omega)
  have sep : ∀ {v u : Value} {c1 c2 : Nat}, Col τ v c1 → Col τ u c2 → c1 ≠ c2 → ∀ g, g ∈ blk u → g ∉ blk v := by
    intro v u c1 c2 h1 h2 hne g hg hg2; exact hne ((h1 g hg2).symm.trans (h2 g hg))
  have s10a := h.s10.only o1 (sep t9 t10 (by omega))
  have s11a := h.s11.only o1 (sep t9 t11 (by omega))
  have s12a := h.s12.only o1 (sep t9 t12 (by omega))
  have tba := h.tab.only o1 (fun hm => by have := t9 b hm; omega) (fun hm => by have := t9 e hm; omega)
  -- gen
  obtain ⟨g11, k11, W2, r2, s2, o2, d2⟩ := run_append_one (P := Try.prog) 36 36 27 (.int .u32 0) 4 Try.underlying36 infoU32 rfl s11a (.int .u32 (a.gen : Nat)) rfl hmax (by omega)
  have n9 : ∀ k, k ∈ blk v11 → k ≠ g9 := by
    intro k hk; rcases d1 with hd | hd
    · intro e; subst e; exact sep t9 t11 (by omega) k hk hd
    · have := h.s11.lt k hk; omega
  have s9b := s1.only o2 (by intro g hg; simp [blk_some] at hg; subst hg; intro hm; exact n9 _ hm rfl)
  have s10b := s10a.only o2 (sep t11 t10 (by omega))
  have s12b := s12a.only o2 (sep t11 t12 (by omega))
  have tbb := tba.only o2 (fun hm => by have := t11 b hm; omega) (fun hm => by have := t11 e hm; omega)
  -- slots
  obtain ⟨g10, k10, W3, r3, s3, o3, d3⟩ := run_append_one (P := Try.prog) 35 35 3 (.int .i64 0) 8 Try.underlying35 infoInt rfl s10b (.int .i64 a.slot) rfl hmax (by omega)
  have z1 := o1.size
  have z2 := o2.size
  have n9' : ∀ k, k ∈ blk v10 → k ≠ g9 := by
    intro k hk; rcases d1 with hd | hd
    · intro e; subst e; exact sep t9 t10 (by omega) k hk hd
    · have := h.s10.lt k hk; omega
  have n11' : ∀ k, k ∈ blk v10 → k ≠ g11 := by
    intro k hk; rcases d2 with hd | hd
    · intro e; subst e; exact sep t11 t10 (by omega) k hk hd
    · have := h.s10.lt k hk; omega
  have s9c := s9b.only o3 (by intro g hg; simp [blk_some] at hg; subst hg; intro hm; exact n9' _ hm rfl)
  have s11c := s2.only o3 (by intro g hg; simp [blk_some] at hg; subst hg; intro hm; exact n11' _ hm rfl)
  have s12c := s12b.only o3 (sep t10 t12 (by omega))
  have tbc := tbb.only o3 (fun hm => by have := t10 b hm; omega) (fun hm => by have := t10 e hm; omega)
  -- gone
  obtain ⟨g12, k12, W4, r4, s4, o4, d4⟩ := run_append_one (P := Try.prog) 37 37 4 (.bool false) 1 Try.underlying37 infoBool rfl s12c (.bool a.gone) rfl hmax (by omega)
  have z3 := o3.size
  have n9'' : ∀ k, k ∈ blk v12 → k ≠ g9 := by
    intro k hk; rcases d1 with hd | hd
    · intro e; subst e; exact sep t9 t12 (by omega) k hk hd
    · have := h.s12.lt k hk; omega
  have n11'' : ∀ k, k ∈ blk v12 → k ≠ g11 := by
    intro k hk; rcases d2 with hd | hd
    · intro e; subst e; exact sep t11 t12 (by omega) k hk hd
    · have := h.s12.lt k hk; omega
  have n10'' : ∀ k, k ∈ blk v12 → k ≠ g10 := by
    intro k hk; rcases d3 with hd | hd
    · intro e; subst e; exact sep t10 t12 (by omega) k hk hd
    · have := h.s12.lt k hk; omega
  have s9d := s9c.only o4 (by intro g hg; simp [blk_some] at hg; subst hg; intro hm; exact n9'' _ hm rfl)
  have s11d := s11c.only o4 (by intro g hg; simp [blk_some] at hg; subst hg; intro hm; exact n11'' _ hm rfl)
  have s10d := s3.only o4 (by intro g hg; simp [blk_some] at hg; subst hg; intro hm; exact n10'' _ hm rfl)
  have tbd := tbc.only o4 (fun hm => by have := t12 b hm; omega) (fun hm => by have := t12 e hm; omega)
  have hOall : Only [] w W4 := ((((h.only.transL o1).transL o2).transL o3).transL o4).strip (by
    intro k hk
    simp only [List.mem_append, List.not_mem_nil, false_or] at hk
    exact .inr (h.new k (by rcases hk with ((hk | hk) | hk) | hk <;> simp [hk])))
  have hw := h.only.size
  have new9 : w.heap.size ≤ g9 := by rcases d1 with hd | hd; exact h.new _ (.inl hd); omega
  have new11 : w.heap.size ≤ g11 := by rcases d2 with hd | hd; exact h.new _ (.inr (.inr (.inl hd))); omega
  have new10 : w.heap.size ≤ g10 := by rcases d3 with hd | hd; exact h.new _ (.inr (.inl hd)); omega
  have new12 : w.heap.size ≤ g12 := by rcases d4 with hd | hd; exact h.new _ (.inr (.inr (.inr (.inl hd)))); omega
  refine ⟨g9, k9, W1, g11, k11, W2, g10, k10, W3, g12, k12, W4, r1, r2, r3, r4, ⟨tbd, h.ok, ?_, ?_, ?_, ?_, ?_, ?_, hOall⟩, o1.transL o2⟩
  · simpa using s9d
  · simpa using s10d
  · simpa using s11d
  · simpa using s4
  · -- the colours
    have q9 : g9 ≠ b ∧ g9 ≠ e := by rcases d1 with hd | hd; exact ⟨fun e1 => by subst e1; have := t9 _ hd; omega, fun e1 => by subst e1; have := t9 _ hd; omega⟩; exact ⟨by omega, by omega⟩
    have q11 : g11 ≠ b ∧ g11 ≠ e := by rcases d2 with hd | hd; exact ⟨fun e1 => by subst e1; have := t11 _ hd; omega, fun e1 => by subst e1; have := t11 _ hd; omega⟩; exact ⟨by omega, by omega⟩
    have q10 : g10 ≠ b ∧ g10 ≠ e := by rcases d3 with hd | hd; exact ⟨fun e1 => by subst e1; have := t10 _ hd; omega, fun e1 => by subst e1; have := t10 _ hd; omega⟩; exact ⟨by omega, by omega⟩
    have q12 : g12 ≠ b ∧ g12 ≠ e := by rcases d4 with hd | hd; exact ⟨fun e1 => by subst e1; have := t12 _ hd; omega, fun e1 => by subst e1; have := t12 _ hd; omega⟩; exact ⟨by omega, by omega⟩
    have hbe := h.tab.head.2.2.2.2
    have p1 : g9 ≠ g11 := by
      rcases d2 with hd | hd
      · exact fun e1 => n9 _ hd e1.symm
      · have := s1.lt g9 (by simp [blk_some]); omega
    have p2 : g9 ≠ g10 := by
      rcases d3 with hd | hd
      · exact fun e1 => n9' _ hd e1.symm
      · have := s9b.lt g9 (by simp [blk_some]); omega
    have p3 : g11 ≠ g10 := by
      rcases d3 with hd | hd
      · exact fun e1 => n11' _ hd e1.symm
      · have := s2.lt g11 (by simp [blk_some]); omega
    have p4 : g9 ≠ g12 := by
      rcases d4 with hd | hd
      · exact fun e1 => n9'' _ hd e1.symm
      · have := s9c.lt g9 (by simp [blk_some]); omega
    have p5 : g11 ≠ g12 := by
      rcases d4 with hd | hd
      · exact fun e1 => n11'' _ hd e1.symm
      · have := s11c.lt g11 (by simp [blk_some]); omega
    have p6 : g10 ≠ g12 := by
      rcases d4 with hd | hd
      · exact fun e1 => n10'' _ hd e1.symm
      · have := s3.lt g10 (by simp [blk_some]); omega
    refine ⟨fun k => if k = g9 then 1 else if k = g10 then 2 else if k = g11 then 3 else if k = g12 then 4 else if k = b then 5 else 6, ?_, ?_, ?_, ?_, ?_, ?_⟩
    · intro g hg; simp [blk_some] at hg; subst hg; simp
    · intro g hg; simp [blk_some] at hg; subst hg; simp [Ne.symm p2]
    · intro g hg; simp [blk_some] at hg; subst hg; simp [Ne.symm p1, p3]
    · intro g hg; simp [blk_some] at hg; subst hg; simp [Ne.symm p4, Ne.symm p5, Ne.symm p6]
    · simp [Ne.symm q9.1, Ne.symm q10.1, Ne.symm q11.1, Ne.symm q12.1]
    · simp [Ne.symm q9.2, Ne.symm q10.2, Ne.symm q11.2, Ne.symm q12.2, Ne.symm hbe]
  · intro g hg
    simp only [blk_some, List.mem_singleton] at hg
    rcases hg with rfl | rfl | rfl | rfl | rfl | rfl
    · exact new9
    · exact new10
    · exact new11
    · exact new12
    · exact h.new _ (by simp)
    · exact h.new _ (by simp)

end Go.Proofs.Ytleimlhcdomffaa
