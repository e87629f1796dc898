/- TableOnce: the plain law. Handles that were minted, against the entries. -/
import Derived.Test.YtleimlhcdomffaaTabW8
import Derived.Test.YtleimlhcdomffaaSlice
namespace Go.Proofs.Ytleimlhcdomffaa

structure Hnd where
  idx : Nat
  gen : Nat
  slot : Int
  gone : Bool

def HndOk (es : List Ent) (h : Hnd) : Prop :=
  ∃ x, es[h.idx]? = some x ∧ (h.gone = true → h.gen < x.gen ∨ (h.gen = x.gen ∧ (x.st = 2 ∨ x.st = 3))) ∧ (h.gone = false → x = ⟨1, h.slot, h.gen⟩)

def liveNo (hs : List Hnd) : Nat := hs.countP (fun h => !h.gone)

structure OnceInv (es : List Ent) (hs : List Hnd) : Prop where
  each : ∀ (j : Nat) (h : Hnd), hs[j]? = some h → HndOk es h
  apart : ∀ (i j : Nat) (a b : Hnd), hs[i]? = some a → hs[j]? = some b → a.gone = false → b.gone = false → a.idx = b.idx → i = j
  count : cnt 1 es = liveNo hs

theorem OnceInv.nil (n : Nat) (x : Ent) (h : x.st ≠ 1) : OnceInv (List.replicate n x) [] := by
  refine ⟨by simp, by simp, ?_⟩
  unfold cnt liveNo
  rw [List.countP_replicate]
  simp [h]

theorem look_named {es : List Ent} {h : Hnd} (hk : HndOk es h) : namedAt es h.idx h.gen = if h.gone then none else some h.idx := by
  obtain ⟨x, hx, hg, hn⟩ := hk
  have hl := lt_of_get hx
  unfold namedAt
  rw [if_pos (by omega), Int.toNat_natCast, hx]
  cases hgo : h.gone with
  | true =>
    simp only [if_true]
    rw [if_neg]
    rintro ⟨h1, h2⟩
    rcases hg hgo with h3 | ⟨h3, h4 | h4⟩ <;> omega
  | false =>
    have := hn hgo
    subst this
    simp

theorem OnceInv.mint {es : List Ent} {hs : List Hnd} (hI : OnceInv es hs) {i : Nat} {x : Ent} (hf : firstFree es = some i) (hx : es[i]? = some x) (slot : Int) :
    OnceInv (es.set i { x with st := 1, slot := slot }) (hs ++ [⟨i, x.gen, slot, false⟩]) ∧ ∀ (j : Nat) (h : Hnd), hs[j]? = some h → ¬ (h.idx = i ∧ h.gen = x.gen) := by
  obtain ⟨x', hx', h0⟩ := firstFree_some hf
  rw [hx] at hx'; cases hx'
  have notlive : ∀ (j : Nat) (h : Hnd), hs[j]? = some h → h.idx = i → h.gone = true ∧ h.gen < x.gen := by
    intro j h hj hidx
    obtain ⟨y, hy, hg, hn⟩ := hI.each j h hj
    rw [hidx, hx] at hy; cases hy
    cases hgo : h.gone with
    | true => rcases hg hgo with h3 | ⟨h3, h4 | h4⟩; exact ⟨rfl, h3⟩; omega; omega
    | false => have := hn hgo; rw [this] at h0; simp at h0
  refine ⟨⟨?_, ?_, ?_⟩, ?_⟩
  · intro j h hj
    rw [List.getElem?_append] at hj
    split at hj
    · obtain ⟨y, hy, hg, hn⟩ := hI.each j h hj
      by_cases hidx : h.idx = i
      · obtain ⟨h1, h2⟩ := notlive j h hj hidx
        refine ⟨{ x with st := 1, slot := slot }, by rw [hidx, List.getElem?_set_self (lt_of_get hx)], fun _ => .inl h2, fun hc => by rw [h1] at hc; cases hc⟩
      · exact ⟨y, by rw [List.getElem?_set_ne (Ne.symm hidx)]; exact hy, hg, hn⟩
    · have : j - hs.length = 0 := by have := (List.getElem?_eq_some_iff.1 hj).1; simpa using this
      rw [this] at hj; simp at hj; subst hj
      exact ⟨_, List.getElem?_set_self (lt_of_get hx), by simp, by simp⟩
  · intro a b ha hb h1 h2 g1 g2 hab
    rw [List.getElem?_append] at h1 h2
    split at h1
    · split at h2
      · exact hI.apart a b ha hb h1 h2 g1 g2 hab
      · have e : b - hs.length = 0 := by have := (List.getElem?_eq_some_iff.1 h2).1; simpa using this
        rw [e] at h2; simp at h2; subst h2
        have := (notlive a ha h1 hab).1
        rw [g1] at this; cases this
    · have e : a - hs.length = 0 := by have := (List.getElem?_eq_some_iff.1 h1).1; simpa using this
      rw [e] at h1; simp at h1; subst h1
      split at h2
      · have := (notlive b hb h2 hab.symm).1
        rw [g2] at this; cases this
      · have e2 : b - hs.length = 0 := by have := (List.getElem?_eq_some_iff.1 h2).1; simpa using this
        omega
  · have := cnt_set hx { x with st := 1, slot := slot } 1
    simp only [h0] at this
    unfold liveNo
    rw [List.countP_append]
    have hc := hI.count
    unfold liveNo at hc
    simp at this ⊢
    omega
  · rintro j h hj ⟨h1, h2⟩
    have := (notlive j h hj h1).2
    omega

theorem OnceInv.drop {es : List Ent} {hs : List Hnd} (hI : OnceInv es hs) {k : Nat} {h : Hnd} (hk : hs[k]? = some h) (hg : h.gone = false) {x : Ent} (hx : es[h.idx]? = some x) :
    OnceInv (es.set h.idx { x with st := 2 }) (hs.set k { h with gone := true }) := by
  obtain ⟨y, hy, _, hn⟩ := hI.each k h hk
  rw [hx] at hy; cases hy
  have hxe := hn hg
  refine ⟨?_, ?_, ?_⟩
  · intro j a hj
    rw [List.getElem?_set] at hj
    split at hj
    · split at hj
      · cases hj
        refine ⟨_, List.getElem?_set_self (lt_of_get hx), fun _ => .inr ⟨by rw [hxe], .inl rfl⟩, by simp⟩
      · cases hj
    · rename_i hjk
      obtain ⟨y, hy, hg', hn'⟩ := hI.each j a hj
      by_cases hidx : a.idx = h.idx
      · rw [hidx, hx] at hy; cases hy
        refine ⟨{ x with st := 2 }, by rw [hidx, List.getElem?_set_self (lt_of_get hx)], fun hc => ?_, fun hc => ?_⟩
        · rcases hg' hc with h1 | ⟨h1, h2⟩
          · exact .inl h1
          · exact .inr ⟨h1, .inl rfl⟩
        · exact absurd (hI.apart j k a h hj hk hc hg hidx) (fun e => hjk e.symm)
      · exact ⟨y, by rw [List.getElem?_set_ne (Ne.symm hidx)]; exact hy, hg', hn'⟩
  · intro i j a b h1 h2 g1 g2 hab
    rw [List.getElem?_set] at h1 h2
    split at h1
    · split at h1
      · cases h1; simp at g1
      · cases h1
    · split at h2
      · split at h2
        · cases h2; simp at g2
        · cases h2
      · exact hI.apart i j a b h1 h2 g1 g2 hab
  · have hc := hI.count
    subst hxe
    have h2 : cnt 1 (es.set h.idx ⟨2, h.slot, h.gen⟩) + 1 = cnt 1 es := by
      have h2 := cnt_set hx ⟨2, h.slot, h.gen⟩ 1
      simpa using h2
    have h3 : liveNo (hs.set k { h with gone := true }) + 1 = liveNo hs := by
      clear hc h2 hI hn hx
      unfold liveNo
      induction hs generalizing k with
      | nil => simp at hk
      | cons a l ih =>
        cases k with
        | zero => simp at hk; subst hk; simp [hg]
        | succ k => simp at hk; simp only [List.set_cons_succ, List.countP_cons]; have := ih hk; omega
    show cnt 1 (es.set h.idx ⟨2, h.slot, h.gen⟩) = _
    omega

theorem OnceInv.recycle {es : List Ent} {hs : List Hnd} (hI : OnceInv es hs) (gens : Int) : OnceInv (es.map (recEnt gens)) hs := by
  refine ⟨?_, hI.apart, ?_⟩
  · intro j h hj
    obtain ⟨y, hy, hg, hn⟩ := hI.each j h hj
    refine ⟨recEnt gens y, by rw [List.getElem?_map, hy]; rfl, fun hc => ?_, fun hc => ?_⟩
    · unfold recEnt
      split
      · split
        · rcases hg hc with h1 | ⟨h1, _⟩
          · exact .inl h1
          · exact .inr ⟨h1, .inr rfl⟩
        · refine .inl ?_
          rcases hg hc with h1 | ⟨h1, _⟩ <;> simp <;> omega
      · exact hg hc
    · have := hn hc; subst this; rfl
  · rw [← hI.count]
    unfold cnt
    rw [List.countP_map]
    apply List.countP_congr
    intro x _
    simp only [Function.comp, recEnt, beq_iff_eq]
    split
    · split <;> simp <;> omega
    · rfl

theorem cnt_sum {es : List Ent} (h : EntsOk es) : cnt 0 es + cnt 1 es + cnt 2 es + cnt 3 es = es.length := by
  have hall := h.2.2
  clear h
  induction es with
  | nil => rfl
  | cons x l ih =>
    have hx := (hall x (by simp)).1
    have := ih (fun y hy => hall y (List.mem_cons_of_mem _ hy))
    simp only [cnt, List.countP_cons, beq_iff_eq, List.length_cons] at this ⊢
    rcases (show x.st = 0 ∨ x.st = 1 ∨ x.st = 2 ∨ x.st = 3 by omega) with e | e | e | e <;> simp [e] <;> omega

theorem cnt0_none {es : List Ent} : cnt 0 es = 0 ↔ firstFree es = none := by
  unfold cnt firstFree
  rw [List.findIdx?_eq_none_iff]
  rw [List.countP_eq_zero]
  simp

end Go.Proofs.Ytleimlhcdomffaa
