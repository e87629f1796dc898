/- Graph: what the levels are, in plain words: walks and depths. -/
import Derived.Test.YtfgmofaadcbokaaGrW9
namespace Go.Proofs.Ytfgmofaadcbokaa
set_option linter.unusedVariables false
set_option linter.unusedSimpArgs false

def rowP (rows : List (List Int)) (y : Int) : List Int := (rows[y.toNat]?).getD []
def Nd (rows : List (List Int)) (x : Int) : Prop := 0 ≤ x ∧ x < (rows.length : Nat)
def Edge (rows : List (List Int)) (y x : Int) : Prop := Nd rows y ∧ Nd rows x ∧ x ∈ rowP rows y
def Wk (rows : List (List Int)) : Nat → Int → Int → Prop
  | 0, a, x => Nd rows a ∧ a = x
  | k + 1, a, x => ∃ y, Wk rows k a y ∧ Edge rows y x
theorem Wk.nd {rows : List (List Int)} : ∀ {k : Nat} {a x : Int}, Wk rows k a x → Nd rows a ∧ Nd rows x
  | 0, _, _, ⟨h, e⟩ => ⟨h, e ▸ h⟩
  | k + 1, _, _, ⟨y, h, e⟩ => ⟨(Wk.nd h).1, e.2.1⟩
theorem Wk.cons {rows : List (List Int)} : ∀ {k : Nat} {a b x : Int}, Edge rows a b → Wk rows k b x → Wk rows (k + 1) a x
  | 0, a, b, x, e, ⟨_, h⟩ => ⟨a, ⟨e.1, rfl⟩, h ▸ e⟩
  | k + 1, a, b, x, e, ⟨y, h, e2⟩ => ⟨y, Wk.cons e h, e2⟩
theorem Wk.uncons {rows : List (List Int)} : ∀ {k : Nat} {a x : Int}, Wk rows (k + 1) a x → ∃ b, Edge rows a b ∧ Wk rows k b x
  | 0, a, x, ⟨y, ⟨_, h⟩, e⟩ => ⟨x, h ▸ e, e.2.1, rfl⟩
  | k + 1, a, x, ⟨y, h, e⟩ => by
    obtain ⟨b, e1, h1⟩ := Wk.uncons h
    exact ⟨b, e1, y, h1, e⟩
theorem Wk.trans {rows : List (List Int)} {a b : Int} : ∀ {k j : Nat} {x : Int}, Wk rows k a b → Wk rows j b x → Wk rows (k + j) a x
  | k, 0, x, h, ⟨_, e⟩ => e ▸ h
  | k, j + 1, x, h, ⟨y, h2, e⟩ => ⟨y, Wk.trans h h2, e⟩

/-- x is got to by k edges from one of some -/
def Pth (rows : List (List Int)) (frm : List Int) (k : Nat) (x : Int) : Prop := ∃ a ∈ frm, Wk rows k a x
theorem Pth.nd {rows : List (List Int)} {frm : List Int} {k : Nat} {x : Int} (h : Pth rows frm k x) : Nd rows x := by obtain ⟨a, _, h⟩ := h; exact h.nd.2
theorem Pth.succ {rows : List (List Int)} {frm : List Int} {k : Nat} {x : Int} : Pth rows frm (k + 1) x ↔ ∃ y, Pth rows frm k y ∧ Edge rows y x := by
  constructor
  · rintro ⟨a, ha, y, h, e⟩; exact ⟨y, ⟨a, ha, h⟩, e⟩
  · rintro ⟨y, ⟨a, ha, h⟩, e⟩; exact ⟨a, ha, y, h, e⟩
theorem Pth.zero {rows : List (List Int)} {frm : List Int} {x : Int} : Pth rows frm 0 x ↔ x ∈ frm ∧ Nd rows x := by
  constructor
  · rintro ⟨a, ha, h, rfl⟩; exact ⟨ha, h⟩
  · rintro ⟨h, h2⟩; exact ⟨x, h, h2, rfl⟩

/-! ## the levels -/
def stP (rows : List (List Int)) (frm : List Int) : Nat → List Int × List Int
  | 0 => (hereP rows.length frm, hereP rows.length frm)
  | k + 1 => ((stP rows frm k).1 ++ hereP rows.length (belowP rows (stP rows frm k).2), freshP rows.length (stP rows frm k).1 (belowP rows (stP rows frm k).2))
def lvl (rows : List (List Int)) (frm : List Int) (k : Nat) : List Int := (stP rows frm k).2

theorem mem_below {rows : List (List Int)} {lv : List Int} {x : Int} : x ∈ belowP rows lv ↔ ∃ y ∈ lv, x ∈ rowP rows y := by simp [belowP, rowP, List.mem_flatMap]

theorem st_mem (rows : List (List Int)) (frm : List Int) : ∀ k, (∀ x, x ∈ (stP rows frm k).1 ↔ ∃ j, j ≤ k ∧ Pth rows frm j x) ∧ (∀ x, x ∈ lvl rows frm k ↔ Pth rows frm k x ∧ ∀ j, j < k → ¬ Pth rows frm j x)
  | 0 => by
    constructor
    · intro x
      simp only [stP, hereP_mem]
      constructor
      · rintro ⟨h1, h2⟩; exact ⟨0, Nat.le_refl _, Pth.zero.2 ⟨h1, h2⟩⟩
      · rintro ⟨j, hj, h⟩
        have : j = 0 := by omega
        subst this
        exact Pth.zero.1 h
    · intro x
      simp only [lvl, stP, hereP_mem]
      constructor
      · rintro ⟨h1, h2⟩; exact ⟨Pth.zero.2 ⟨h1, h2⟩, fun j hj => by omega⟩
      · rintro ⟨h, _⟩; exact Pth.zero.1 h
  | k + 1 => by
    obtain ⟨iA, iB⟩ := st_mem rows frm k
    have key : ∀ x, Pth rows frm (k + 1) x → (∀ j, j ≤ k → ¬ Pth rows frm j x) → ∃ y ∈ lvl rows frm k, x ∈ rowP rows y := by
      intro x h hn
      obtain ⟨y, hy, e⟩ := Pth.succ.1 h
      refine ⟨y, (iB y).2 ⟨hy, fun j hj hp => ?_⟩, e.2.2⟩
      exact hn (j + 1) (by omega) (Pth.succ.2 ⟨y, hp, e⟩)
    have back : ∀ x, Nd rows x → (∃ y ∈ lvl rows frm k, x ∈ rowP rows y) → Pth rows frm (k + 1) x := by
      rintro x hx ⟨y, hy, hr⟩
      have := ((iB y).1 hy).1
      exact Pth.succ.2 ⟨y, this, this.nd, hx, hr⟩
    constructor
    · intro x
      simp only [stP, List.mem_append, hereP_mem, mem_below]
      constructor
      · rintro (h | ⟨h, hx⟩)
        · obtain ⟨j, hj, hp⟩ := (iA x).1 h; exact ⟨j, by omega, hp⟩
        · exact ⟨k + 1, Nat.le_refl _, back x hx h⟩
      · rintro ⟨j, hj, hp⟩
        by_cases h : x ∈ (stP rows frm k).1
        · exact .inl h
        · have hn : ∀ j, j ≤ k → ¬ Pth rows frm j x := fun i hi hp => h ((iA x).2 ⟨i, hi, hp⟩)
          have : j = k + 1 := by
            rcases Nat.lt_or_ge k j with hk | hk
            · omega
            · exact absurd hp (hn j hk)
          subst this
          exact .inr ⟨key x hp hn, hp.nd⟩
    · intro x
      show x ∈ freshP rows.length (stP rows frm k).1 (belowP rows (stP rows frm k).2) ↔ _
      rw [fresh_mem, mem_below]
      constructor
      · rintro ⟨h, hx, hS⟩
        exact ⟨back x hx h, fun j hj hp => hS ((iA x).2 ⟨j, by omega, hp⟩)⟩
      · rintro ⟨hp, hn⟩
        exact ⟨key x hp (fun j hj => hn j (by omega)), hp.nd, fun hS => by
          obtain ⟨j, hj, hq⟩ := (iA x).1 hS
          exact hn j (by omega) hq⟩

theorem lvl_nil {rows : List (List Int)} {frm : List Int} {k : Nat} (h : lvl rows frm k = []) : ∀ j, lvl rows frm (k + j) = []
  | 0 => h
  | j + 1 => by
    have ih := lvl_nil h j
    show freshP rows.length (stP rows frm (k + j)).1 (belowP rows (stP rows frm (k + j)).2) = []
    have : (stP rows frm (k + j)).2 = [] := ih
    rw [this]
    have e : belowP rows [] = [] := rfl
    rw [e]
    apply List.eq_nil_iff_forall_not_mem.2
    intro x hx
    have := (fresh_mem.1 hx).1
    simp at this
theorem lvl_lt {rows : List (List Int)} {frm : List Int} : ∀ k, lvl rows frm k ≠ [] → levM rows.length (stP rows frm k).1 (lvl rows frm k) + k ≤ rows.length + 1
  | 0, _ => by
    have := cnt_all rows.length (stP rows frm 0).1
    unfold levM; split <;> omega
  | k + 1, h => by
    have hk : lvl rows frm k ≠ [] := fun e => h (lvl_nil e 1)
    have ih := lvl_lt k hk
    have := levM_next (n := rows.length) (stP rows frm k).1 (lvl rows frm k) (belowP rows (stP rows frm k).2) hk
    show levM rows.length ((stP rows frm k).1 ++ hereP rows.length (belowP rows (stP rows frm k).2)) (freshP rows.length (stP rows frm k).1 (belowP rows (stP rows frm k).2)) + (k + 1) ≤ _
    omega
theorem lvl_le {rows : List (List Int)} {frm : List Int} {k : Nat} (h : lvl rows frm k ≠ []) : k ≤ rows.length := by
  have := lvl_lt k h
  unfold levM at this
  rw [if_neg h] at this
  omega
theorem levP_get (rows : List (List Int)) (frm : List Int) : ∀ (f k j : Nat), (levP rows.length rows f (stP rows frm k).1 (stP rows frm k).2)[j]? = if j < f ∧ lvl rows frm (k + j) ≠ [] then some (lvl rows frm (k + j)) else none
  | 0, k, j => by simp [levP]
  | f + 1, k, j => by
    simp only [levP]
    by_cases h : (stP rows frm k).2 = []
    · rw [if_pos h]
      have : lvl rows frm (k + j) = [] := lvl_nil h j
      simp [this]
    · rw [if_neg h]
      cases j with
      | zero => simp [lvl, h]
      | succ j =>
        have := levP_get rows frm f (k + 1) j
        rw [List.getElem?_cons_succ]
        refine Eq.trans this ?_
        rw [show k + 1 + j = k + (j + 1) by omega]
        simp
theorem levels_get (rows : List (List Int)) (frm : List Int) (k : Nat) : (levelsP rows frm)[k]? = if lvl rows frm k ≠ [] then some (lvl rows frm k) else none := by
  have := levP_get rows frm (rows.length + 1) 0 k
  rw [Nat.zero_add] at this
  refine Eq.trans this ?_
  by_cases h : lvl rows frm k = []
  · simp [h]
  · have := lvl_le h
    rw [if_pos ⟨by omega, h⟩, if_pos h]

/-! ## depths -/
def IsD (rows : List (List Int)) (frm : List Int) (x d : Int) : Prop := (∃ j : Nat, d = j ∧ Pth rows frm j x ∧ ∀ i, i < j → ¬ Pth rows frm i x) ∨ (d = -1 ∧ ∀ j, ¬ Pth rows frm j x)
theorem IsD.uniq {rows : List (List Int)} {frm : List Int} {x d d' : Int} (h : IsD rows frm x d) (h' : IsD rows frm x d') : d = d' := by
  rcases h with ⟨j, rfl, h1, h2⟩ | ⟨rfl, h1⟩ <;> rcases h' with ⟨j', rfl, h1', h2'⟩ | ⟨rfl, h1'⟩
  · have : j = j' := by
      rcases Nat.lt_trichotomy j j' with h | h | h
      · exact absurd h1 (h2' j h)
      · exact h
      · exact absurd h1' (h2 j' h)
    rw [this]
  · exact absurd h1 (h1' j)
  · exact absurd h1' (h1 j')
  · rfl
theorem Pth.least {rows : List (List Int)} {frm : List Int} {x : Int} : ∀ {k : Nat}, Pth rows frm k x → ∃ j, j ≤ k ∧ Pth rows frm j x ∧ ∀ i, i < j → ¬ Pth rows frm i x := by
  intro k
  induction k using Nat.strongRecOn with
  | _ k ih =>
    intro h
    by_cases hn : ∃ i, i < k ∧ Pth rows frm i x
    · obtain ⟨i, hi, hp⟩ := hn
      obtain ⟨j, h1, h2⟩ := ih i hi hp
      exact ⟨j, by omega, h2⟩
    · exact ⟨k, Nat.le_refl _, h, fun i hi hp => hn ⟨i, hi, hp⟩⟩
theorem IsD.ex (rows : List (List Int)) (frm : List Int) (x : Int) : ∃ d, IsD rows frm x d := by
  by_cases h : ∃ k, Pth rows frm k x
  · obtain ⟨k, hk⟩ := h
    obtain ⟨j, _, h1, h2⟩ := hk.least
    exact ⟨j, .inl ⟨j, rfl, h1, h2⟩⟩
  · exact ⟨-1, .inr ⟨rfl, fun j hj => h ⟨j, hj⟩⟩⟩
theorem IsD.ofLvl {rows : List (List Int)} {frm : List Int} {x : Int} {j : Nat} (h : x ∈ lvl rows frm j) : IsD rows frm x j := by
  obtain ⟨h1, h2⟩ := ((st_mem rows frm j).2 x).1 h
  exact .inl ⟨j, rfl, h1, h2⟩
theorem IsD.none {rows : List (List Int)} {frm : List Int} {x : Int} (h : ∀ j, x ∉ lvl rows frm j) : IsD rows frm x (-1) := by
  refine .inr ⟨rfl, fun k hk => ?_⟩
  obtain ⟨j, _, h1, h2⟩ := hk.least
  exact h j (((st_mem rows frm j).2 x).2 ⟨h1, h2⟩)
theorem IsD.in_lvl {rows : List (List Int)} {frm : List Int} {x : Int} {j : Nat} (h : IsD rows frm x j) : x ∈ lvl rows frm j := by
  rcases h with ⟨i, hi, h1, h2⟩ | ⟨h, _⟩
  · have : i = j := by omega
    subst this
    exact ((st_mem rows frm i).2 x).2 ⟨h1, h2⟩
  · omega
theorem IsD.le {rows : List (List Int)} {frm : List Int} {x : Int} {j : Nat} (h : IsD rows frm x j) : j ≤ rows.length := lvl_le (List.ne_nil_of_mem h.in_lvl)

theorem setAll_get {α : Type} (d : α) : ∀ (lv : List Int) (out : List α) (x : Nat), (∀ y ∈ lv, 0 ≤ y) → x < out.length → (setAll out d lv)[x]? = if (x : Int) ∈ lv then some d else out[x]?
  | [], out, x, _, _ => by simp [setAll]
  | y :: lv, out, x, h0, hx => by
    have ih := setAll_get d lv (out.set y.toNat d) x (fun z hz => h0 z (.tail _ hz)) (by simpa using hx)
    have e : setAll out d (y :: lv) = setAll (out.set y.toNat d) d lv := rfl
    rw [e, ih]
    have hy := h0 y (.head _)
    by_cases h : (x : Int) ∈ lv
    · simp [h]
    · by_cases hxy : (x : Int) = y
      · have : y.toNat = x := by omega
        rw [this]
        simp [h, hxy, hx]
      · have : y.toNat ≠ x := by omega
        rw [if_neg h, List.getElem?_set_ne this, if_neg (by simp [h, hxy])]

theorem told_get {rows : List (List Int)} {frm : List Int} {x : Nat} (hx : x < rows.length) : ∀ k, (∃ j, j < k ∧ (x : Int) ∈ lvl rows frm j ∧ (toldD rows.length (levelsP rows frm) k)[x]? = some (j : Int) ∧ (toldR rows.length (levelsP rows frm) k)[x]? = some true)
    ∨ ((∀ j, j < k → (x : Int) ∉ lvl rows frm j) ∧ (toldD rows.length (levelsP rows frm) k)[x]? = some (-1) ∧ (toldR rows.length (levelsP rows frm) k)[x]? = some false)
  | 0 => .inr ⟨fun j hj => by omega, by simp [toldD, hx], by simp [toldR, hx]⟩
  | k + 1 => by
    have hlv : ((levelsP rows frm)[k]?).getD [] = lvl rows frm k := by
      rw [levels_get]
      by_cases h : lvl rows frm k = [] <;> simp [h]
    have hnd : ∀ y ∈ lvl rows frm k, 0 ≤ y := fun y hy => ((st_mem rows frm k).2 y |>.1 hy).1.nd.1
    have e1 : (toldD rows.length (levelsP rows frm) (k + 1))[x]? = if (x : Int) ∈ lvl rows frm k then some (k : Int) else (toldD rows.length (levelsP rows frm) k)[x]? := by
      simp only [toldD]; rw [hlv, setAll_get _ _ _ _ hnd (by rw [toldD_len]; exact hx)]
    have e2 : (toldR rows.length (levelsP rows frm) (k + 1))[x]? = if (x : Int) ∈ lvl rows frm k then some true else (toldR rows.length (levelsP rows frm) k)[x]? := by
      simp only [toldR]; rw [hlv, setAll_get _ _ _ _ hnd (by rw [toldR_len]; exact hx)]
    by_cases h : (x : Int) ∈ lvl rows frm k
    · exact .inl ⟨k, by omega, h, by rw [e1, if_pos h], by rw [e2, if_pos h]⟩
    · rw [e1, e2, if_neg h, if_neg h]
      rcases told_get (frm := frm) hx k with ⟨j, hj, h1, h2⟩ | ⟨h1, h2⟩
      · exact .inl ⟨j, by omega, h1, h2⟩
      · refine .inr ⟨fun j hj => ?_, h2⟩
        rcases Nat.lt_or_ge j k with hk | hk
        · exact h1 j hk
        · have : j = k := by omega
          subst this; exact h

theorem depths_len (rows : List (List Int)) (frm : List Int) : (depthsP rows frm).length = rows.length := toldD_len _ _ _
theorem reach_len (rows : List (List Int)) (frm : List Int) : (reachP rows frm).length = rows.length := toldR_len _ _ _
theorem depths_get {rows : List (List Int)} {frm : List Int} {x : Nat} (hx : x < rows.length) : ∃ d, (depthsP rows frm)[x]? = some d ∧ IsD rows frm x d ∧ (reachP rows frm)[x]? = some (decide (0 ≤ d)) := by
  rcases told_get (frm := frm) hx (levelsP rows frm).length with ⟨j, hj, h1, h2, h3⟩ | ⟨h1, h2, h3⟩
  · exact ⟨j, h2, IsD.ofLvl h1, by rw [show reachP rows frm = toldR rows.length (levelsP rows frm) (levelsP rows frm).length from rfl, h3]; simp⟩
  · refine ⟨-1, h2, IsD.none fun j hj => ?_, h3⟩
    have hne := List.ne_nil_of_mem hj
    have : (levelsP rows frm)[j]? = some (lvl rows frm j) := by rw [levels_get, if_pos hne]
    exact h1 j (lt_of_get this) hj
theorem depths_at {rows : List (List Int)} {frm : List Int} {x : Nat} {d : Int} (h : (depthsP rows frm)[x]? = some d) : IsD rows frm x d := by
  obtain ⟨d', h1, h2, _⟩ := depths_get (frm := frm) (show x < rows.length by have := lt_of_get h; rwa [depths_len] at this)
  rw [h] at h1; cases h1; exact h2
theorem depths_is {rows : List (List Int)} {frm : List Int} {x : Nat} {d : Int} (hx : x < rows.length) (h : IsD rows frm x d) : (depthsP rows frm)[x]? = some d := by
  obtain ⟨d', h1, h2, _⟩ := depths_get (frm := frm) hx
  rw [h1, h2.uniq h]
theorem reach_get {rows : List (List Int)} {frm : List Int} {x : Nat} (hx : x < rows.length) : ∃ b, (reachP rows frm)[x]? = some b ∧ (b = true ↔ ∃ k, Pth rows frm k x) := by
  obtain ⟨d, _, h2, h3⟩ := depths_get (frm := frm) hx
  refine ⟨_, h3, ?_⟩
  rcases h2 with ⟨j, rfl, h1, _⟩ | ⟨rfl, h1⟩
  · simp; exact ⟨j, h1⟩
  · simp; exact fun j => h1 j

/-! ## turned graphs -/
theorem turn_len (rows : List (List Int)) : (turnP rows).length = rows.length := by simp [turnP]
theorem mem_src {rows : List (List Int)} {x y : Int} {i : Nat} : y ∈ srcP rows x i ↔ ∃ m : Nat, m < i ∧ y = m ∧ x ∈ (rows[m]?).getD [] := by
  simp only [srcP, List.mem_flatMap, List.mem_range, List.mem_replicate]
  constructor
  · rintro ⟨m, hm, hc, rfl⟩; exact ⟨m, hm, rfl, List.count_pos_iff.1 (by omega)⟩
  · rintro ⟨m, hm, rfl, hx⟩; exact ⟨m, hm, by have := List.count_pos_iff.2 hx; omega, rfl⟩
theorem turn_row {rows : List (List Int)} {x : Int} (hx : Nd rows x) : rowP (turnP rows) x = srcP rows x rows.length := by
  have h1 : x.toNat < rows.length := by have := hx.1; have := hx.2; omega
  have h2 : ((x.toNat : Nat) : Int) = x := by have := hx.1; omega
  simp [rowP, turnP, h1, h2]
theorem nd_turn {rows : List (List Int)} {x : Int} : Nd (turnP rows) x ↔ Nd rows x := by unfold Nd; rw [turn_len]
theorem edge_turn {rows : List (List Int)} {x y : Int} : Edge (turnP rows) x y ↔ Edge rows y x := by
  unfold Edge
  rw [nd_turn, nd_turn]
  constructor
  · rintro ⟨h1, h2, h3⟩
    rw [turn_row h1, mem_src] at h3
    obtain ⟨m, hm, rfl, h⟩ := h3
    exact ⟨h2, h1, by simpa [rowP] using h⟩
  · rintro ⟨h1, h2, h3⟩
    refine ⟨h2, h1, ?_⟩
    rw [turn_row h2, mem_src]
    exact ⟨y.toNat, by have := h1.1; have := h1.2; omega, by have := h1.1; omega, h3⟩
theorem wk_turn {rows : List (List Int)} : ∀ {k : Nat} {a x : Int}, Wk (turnP rows) k a x → Wk rows k x a
  | 0, a, x, ⟨h, e⟩ => ⟨e ▸ nd_turn.1 h, e.symm⟩
  | k + 1, a, x, ⟨y, h, e⟩ => Wk.cons (edge_turn.1 e) (wk_turn h)
theorem wk_turn' {rows : List (List Int)} : ∀ {k : Nat} {a x : Int}, Wk rows k a x → Wk (turnP rows) k x a
  | 0, a, x, ⟨h, e⟩ => ⟨e ▸ nd_turn.2 h, e.symm⟩
  | k + 1, a, x, ⟨y, h, e⟩ => Wk.cons (edge_turn.2 e) (wk_turn' h)
theorem pth_one {rows : List (List Int)} {a x : Int} {k : Nat} : Pth rows [a] k x ↔ Wk rows k a x := by simp [Pth]
theorem isD_turn {rows : List (List Int)} {a x d : Int} : IsD (turnP rows) [a] x d ↔ IsD rows [x] a d := by
  have e : ∀ k, Pth (turnP rows) [a] k x ↔ Pth rows [x] k a := fun k => by rw [pth_one, pth_one]; exact ⟨wk_turn, wk_turn'⟩
  simp only [IsD, e]
end Go.Proofs.Ytfgmofaadcbokaa
