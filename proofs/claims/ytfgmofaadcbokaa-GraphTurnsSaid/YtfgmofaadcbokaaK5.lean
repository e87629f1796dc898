/- The walker: lists in memory: reading, own slices that grow, literals, slicing; calls that only read. -/
import Derived.Test.YtfgmofaadcbokaaK4
namespace Go.Proofs.Ytfgmofaadcbokaa
open Go.RowKit
set_option linter.unusedVariables false
set_option linter.unusedSimpArgs false

/-- how values of a kind lie in cells -/
structure Enc (α : Type) where
  enc : α → List Value
  sz : Nat
  len : ∀ x, (enc x).length = sz
  one : ∀ x v, v ∈ enc x → v.oneCell' = true

section
variable {α : Type} {E : Enc α}
def flat (E : Enc α) (xs : List α) : List Value := xs.flatMap E.enc

theorem flat_nil : flat E [] = [] := rfl
theorem flat_cons (x : α) (xs : List α) : flat E (x :: xs) = E.enc x ++ flat E xs := rfl
theorem flat_append (xs ys : List α) : flat E (xs ++ ys) = flat E xs ++ flat E ys := by simp [flat]
theorem flat_len (xs : List α) : (flat E xs).length = xs.length * E.sz := by
  induction xs with
  | nil => simp [flat]
  | cons x xs ih => rw [flat_cons, List.length_append, ih, E.len, List.length_cons, Nat.succ_mul, Nat.add_comm]
theorem flat_one (xs : List α) : ∀ v ∈ flat E xs, v.oneCell' = true := by
  intro v hv
  obtain ⟨x, _, hx⟩ := List.mem_flatMap.1 hv
  exact E.one x v hx
theorem flat_get {xs : List α} {i : Nat} {x : α} (h : xs[i]? = some x) {j : Nat} {u : Value} (hj : (E.enc x)[j]? = some u) : (flat E xs)[i * E.sz + j]? = some u := by
  have hjl : j < E.sz := by have := (List.getElem?_eq_some_iff.1 hj).1; rwa [E.len] at this
  induction xs generalizing i with
  | nil => simp at h
  | cons y l ih =>
    rw [flat_cons]
    cases i with
    | zero =>
      simp at h; subst h
      rw [Nat.zero_mul, Nat.zero_add, List.getElem?_append_left (by rw [E.len]; exact hjl)]
      exact hj
    | succ i =>
      simp at h
      rw [List.getElem?_append_right (by rw [E.len, Nat.succ_mul]; omega), E.len]
      rw [show (i + 1) * E.sz + j - E.sz = i * E.sz + j by rw [Nat.succ_mul]; omega]
      exact ih h
theorem flat_at {xs : List α} {q : Nat} {u : Value} (h : (flat E xs)[q]? = some u) : ∃ x, xs[q / E.sz]? = some x ∧ (E.enc x)[q % E.sz]? = some u := by
  have hq : q < xs.length * E.sz := by have := (List.getElem?_eq_some_iff.1 h).1; rwa [flat_len] at this
  have h0 : 0 < E.sz := by
    rcases Nat.eq_zero_or_pos E.sz with h | h
    · rw [h] at hq; omega
    · exact h
  have hi : q / E.sz < xs.length := by rwa [Nat.div_lt_iff_lt_mul h0]
  have hx : xs[q / E.sz]? = some xs[q / E.sz] := List.getElem?_eq_getElem hi
  have hm : q % E.sz < E.sz := Nat.mod_lt _ h0
  have hj : (E.enc xs[q / E.sz])[q % E.sz]? = some ((E.enc xs[q / E.sz])[q % E.sz]'(by rw [E.len]; exact hm)) := List.getElem?_eq_getElem _
  have := flat_get hx hj
  rw [show q / E.sz * E.sz + q % E.sz = q by rw [Nat.mul_comm]; exact Nat.div_add_mod q E.sz] at this
  rw [h] at this
  exact ⟨_, hx, by rw [hj]; exact this.symm⟩
theorem flat_inj_set {xs : List α} {i : Nat} {x x' : α} (h : xs[i]? = some x) {j : Nat} {u : Value} (hj : j < E.sz) (hu : (E.enc x).set j u = E.enc x') (tl : List Value) :
    (flat E xs ++ tl).set (i * E.sz + j) u = flat E (xs.set i x') ++ tl := by
  induction xs generalizing i with
  | nil => simp at h
  | cons y l ih =>
    cases i with
    | zero =>
      simp at h; subst h
      rw [List.set_cons_zero, flat_cons, flat_cons, Nat.zero_mul, Nat.zero_add, List.append_assoc, List.set_append_left _ _ (by rw [E.len]; exact hj), hu, List.append_assoc]
    | succ i =>
      simp at h
      rw [List.set_cons_succ, flat_cons, flat_cons, List.append_assoc, List.set_append_right _ _ (by rw [E.len, Nat.succ_mul]; omega), E.len, show (i + 1) * E.sz + j - E.sz = i * E.sz + j by rw [Nat.succ_mul]; omega, ih h, List.append_assoc]
theorem flat_laid {xs : List α} {i : Nat} {x x' : α} (h : xs[i]? = some x) (tl : List Value) :
    laid (flat E xs ++ tl) (i * E.sz) (E.enc x') = flat E (xs.set i x') ++ tl := by
  have hi := (List.getElem?_eq_some_iff.1 h).1
  unfold laid
  rw [E.len]
  have e1 : flat E xs = flat E (xs.take i) ++ (E.enc x ++ flat E (xs.drop (i + 1))) := by
    rw [← flat_cons, ← flat_append]
    congr 1
    have hx : xs[i] = x := by have := (List.getElem?_eq_some_iff.1 h).2; exact this
    rw [← hx, ← List.drop_eq_getElem_cons hi, List.take_append_drop]
  have e2 : xs.set i x' = xs.take i ++ x' :: xs.drop (i + 1) := by rw [List.set_eq_take_append_cons_drop, if_pos hi]
  rw [e2, flat_append, flat_cons]
  have l1 : (flat E (xs.take i)).length = i * E.sz := by rw [flat_len, List.length_take, Nat.min_eq_left (by omega)]
  conv => lhs; rw [e1]
  simp only [List.append_assoc]
  rw [List.take_append_of_le_length (by rw [l1]; exact Nat.le_refl _), List.take_of_length_le (by rw [l1]; exact Nat.le_refl _)]
  congr 1
  rw [List.drop_append, List.drop_of_length_le (by rw [l1]; omega), l1]
  rw [show i * E.sz + E.sz - i * E.sz = E.sz by omega]
  simp only [List.nil_append]
  rw [List.drop_append, E.len, List.drop_of_length_le (by rw [E.len]; exact Nat.le_refl _), Nat.sub_self, List.drop_zero, List.nil_append]
end

/-! ## slices that are read -/
/-- the k-th cell of a slice -/
def adr : Value → Nat → Addr
  | .slice (some a) _ _, k => ⟨a.block, a.off + k, none⟩
  | _, k => ⟨0, k, none⟩
theorem adr_add (v : Value) (q j : Nat) : (adr v q).add j = adr v (q + j) := by
  unfold Addr.add
  by_cases h : j = 0
  · subst h; simp
  · rw [if_neg h]
    unfold adr
    split <;> simp [Nat.add_assoc]

/-- v is a slice whose elements read xs in w -/
structure SlW {α : Type} (w : World) (E : Enc α) (v : Value) (xs : List α) : Prop where
  shape : ∃ a c, v = .slice a xs.length c ∧ xs.length ≤ c ∧ c ≤ maxLen ∧ (xs ≠ [] → ∃ b o, a = some ⟨b, o, none⟩)
  at_ : ∀ i x, xs[i]? = some x → ∀ j u, (E.enc x)[j]? = some u → w.cell? (adr v (i * E.sz + j)) = some u

def Sli {α : Type} (w0 : World) (H : Heap) (E : Enc α) (v : Value) (xs : List α) : Prop := ∀ w, HF w0 H w → SlW w E v xs

section
variable {α : Type} {E : Enc α} {w0 w : World} {H F : Heap} {v : Value} {xs : List α}

theorem cell_only {w w' : World} (h : Only [] w w') {p : Addr} {u : Value} (h0 : w.cell? p = some u) : w'.cell? p = some u := by
  have hlt : p.block < w.heap.size := by
    rcases Nat.lt_or_ge p.block w.heap.size with hl | hl
    · exact hl
    · unfold World.cell? at h0; rw [Array.getElem?_eq_none hl] at h0; cases h0
  have hb := h.block p.block hlt (by simp)
  unfold World.cell? at h0 ⊢
  rw [hb]; exact h0

theorem SlW.only {w' : World} (h : SlW w E v xs) (ho : Only [] w w') : SlW w' E v xs := ⟨h.shape, fun i x hx j u hu => cell_only ho (h.at_ i x hx j u hu)⟩
theorem Sli.old (h : SlW w0 E v xs) : Sli w0 H E v xs := fun w hw => h.only hw.old
theorem SlW.row (h : SlW w E v xs) {q : Nat} {u : Value} (hq : (flat E xs)[q]? = some u) : w.cell? (adr v q) = some u := by
  obtain ⟨x, hx, hu⟩ := flat_at hq
  have := h.at_ _ x hx _ u hu
  rwa [show q / E.sz * E.sz + q % E.sz = q by rw [Nat.mul_comm]; exact Nat.div_add_mod q E.sz] at this
theorem Sli.part {H' : Heap} (h : Sli w0 H' E v xs) (hp : Part H H') : Sli w0 H E v xs := fun w hw => h w (hw.part hp)
theorem SlW.nil (w : World) (E : Enc α) : SlW w E (.slice none 0 0) [] := ⟨⟨none, 0, rfl, Nat.le_refl _, Nat.zero_le _, fun h => absurd rfl h⟩, fun i x hx => by simp at hx⟩
theorem SlW.le (h : SlW w E v xs) : xs.length ≤ maxLen := by obtain ⟨a, c, _, h1, h2, _⟩ := h.shape; omega

theorem Sees.sl (h : Sli w0 H E v xs) {i j : Nat} {x : α} {u : Value} (hx : xs[i]? = some x) (hu : (E.enc x)[j]? = some u) : Sees w0 H (adr v (i * E.sz + j)) u := fun w hw => (h w hw).at_ i x hx j u hu
theorem Sees.sl0 (h : Sli w0 H E v xs) {i : Nat} {x : α} {u : Value} (hx : xs[i]? = some x) (hu : (E.enc x)[0]? = some u) : Sees w0 H (adr v (i * E.sz)) u := fun w hw => (h w hw).at_ i x hx 0 u hu

def SeesA (w0 : World) (H : Heap) (p : Addr) (k : Nat) (cs : List Value) : Prop := cs.length = k ∧ ∀ j v, cs[j]? = some v → Sees w0 H (p.add j) v
theorem SeesA.sl (h : Sli w0 H E v xs) {i : Nat} {x : α} (hx : xs[i]? = some x) : SeesA w0 H (adr v (i * E.sz)) E.sz (E.enc x) :=
  ⟨E.len x, fun j u hu => by rw [adr_add]; exact Sees.sl h hx hu⟩
end

/-! ## own slices -/
structure Ob where
  b : Nat
  c : Nat
  tl : List Value
abbrev Own := Option Ob
def oV (o : Own) (n : Nat) : Value := match o with
  | none => .slice none 0 0
  | some o => .slice (some ⟨o.b, 0, none⟩) n o.c
section
variable {α : Type}
def oH (E : Enc α) (e : TypeId) (xs : List α) (o : Own) : Heap := match o with
  | none => []
  | some o => [(o.b, cells (flat E xs ++ o.tl) e)]
def oOk (E : Enc α) (xs : List α) (o : Own) : Prop := match o with
  | none => xs = []
  | some o => xs.length ≤ o.c ∧ o.c ≤ maxLen ∧ xs.length * E.sz + o.tl.length = o.c * E.sz
variable {E : Enc α} {e : TypeId} {w0 w : World} {H F : Heap} {v : Value} {xs : List α} {o : Own} {n : Nat}

theorem oOk.nil : oOk E [] none := rfl
theorem oOk.set (h : oOk E xs o) (i : Nat) (x : α) : oOk E (xs.set i x) o := by
  cases o with
  | none => simp only [oOk] at h ⊢; subst h; rfl
  | some o => simpa [oOk] using h
theorem oOk.lit {b : Nat} (hl : xs.length ≤ maxLen) : oOk E xs (some ⟨b, xs.length, []⟩) := ⟨Nat.le_refl _, hl, by simp⟩
theorem oH_lit (b c : Nat) : oH E e xs (some ⟨b, c, []⟩) = [(b, cells (flat E xs) e)] := by simp [oH]

theorem HF.own (hw : HF w0 (oH E e xs o ++ F) w) (ok : oOk E xs o) (hn : n = xs.length) : SlW w E (oV o n) xs := by
  subst hn
  cases o with
  | none => simp only [oOk] at ok; subst ok; exact SlW.nil _ _
  | some o =>
    obtain ⟨h1, h2, h3⟩ := ok
    refine ⟨⟨_, _, rfl, h1, h2, fun _ => ⟨_, _, rfl⟩⟩, ?_⟩
    intro i x hx j u hu
    have hb : w.heap[o.b]? = some (cells (flat E xs ++ o.tl) e) := hw.get (o.b, cells (flat E xs ++ o.tl) e) (by simp [oH])
    have hg := flat_get hx hu
    have hlt := (List.getElem?_eq_some_iff.1 hg).1
    simp only [adr, oV, World.cell?, hb, Nat.zero_add]
    simp [List.getElem?_append_left hlt, hg]
theorem Sli.own (ht : TakeL (oH E e xs o) H F) (ok : oOk E xs o) (hn : n = xs.length) : Sli w0 H E (oV o n) xs := fun w hw => (hw.takeL ht).own ok hn
/-- a block that is a list's -/
theorem Sli.blk {b c : Nat} {l : List Value} (ht : Take (b, cells l e) H F) (hl : l = flat E xs) (hc : xs.length ≤ c) (hm : c ≤ maxLen) (hn : n = xs.length) : Sli w0 H E (.slice (some ⟨b, 0, none⟩) n c) xs := by
  intro w hw
  subst hn hl
  refine ⟨⟨_, _, rfl, hc, hm, fun _ => ⟨_, _, rfl⟩⟩, ?_⟩
  intro i x hx j u hu
  have hb := (hw.take ht).get _ (.head _)
  have hg := flat_get hx hu
  simp only [adr, World.cell?, hb, Nat.zero_add]
  simpa using hg
end

section
variable {P : Program} {w0 : World} {m : Slots} {H F : Heap} {ty : TypeId} {α : Type} {E : Enc α} {v : Value} {xs ys : List α}

theorem Val.loadP {t : TypeId} {x : Operand} {p : Addr} {u : Value} (hx : evO m x = some (.pointer (some p))) (ht : oneB P t = true) (hs : Sees w0 H p u) : Val P w0 H m ty (.load t x) u :=
  ⟨by simp [covOp, cov, hx], fun w d pos af g hw => by
    have := run_loadVar1 (P := P) ht (hs w hw)
    simp [execOp, evS, hx, Instr.loadAt, Instr.sureAddr, this]⟩
theorem Val.loadAP {t : TypeId} {x : Operand} {p : Addr} {k : Nat} {cs : List Value} (hx : evO m x = some (.pointer (some p))) (ht : aggB P t = true) (hk : szOf P t = some k) (hs : SeesA w0 H p k cs) : Val P w0 H m ty (.load t x) (.agg cs.toArray) :=
  ⟨by simp [covOp, cov, hx], fun w d pos af g hw => by
    have := run_loadVarN (P := P) (p := p) ht (by rw [hs.1]; exact hk) (fun j u hj => hs.2 j u hj w hw)
    simp [execOp, evS, hx, Instr.loadAt, Instr.sureAddr, this]⟩

theorem Val.lenSl {x : Operand} {t e : TypeId} (hx : evO m x = some v) (ht : sliceElem P t = some e) (h : Sli w0 H E v xs) : Val P w0 H m ty (.call { callee := .builtin .len, args := #[x], argTypes := #[t] }) (.int .i64 (xs.length : Nat)) :=
  ⟨by simp [covOp, covCall, cov, hx], fun w d pos af g hw => by
    obtain ⟨a, c, rfl, _⟩ := (h w hw).shape
    exact (Val.lenS (P := P) (w0 := w0) (H := H) (ty := ty) hx ht).run w d pos af g hw⟩

theorem Val.idxSl {t e : TypeId} {x y : Operand} {i : Nat} {k : IntKind} (hx : evO m x = some v) (hy : evO m y = some (.int k (i : Nat))) (ht : sliceElem P t = some e) (h : Sli w0 H E v xs) (hz : szOf P e = some E.sz) (hi : i < xs.length) :
    Val P w0 H m ty (.indexAddr t x y) (.pointer (some (adr v (i * E.sz)))) :=
  ⟨by simp [covOp, cov, hx, hy], fun w d pos af g hw => by
    obtain ⟨a, c, hv, _, _, hne⟩ := (h w hw).shape
    obtain ⟨b, o, rfl⟩ := hne (by intro e; subst e; simp at hi)
    subst hv
    exact (Val.indexSO (P := P) (w0 := w0) (H := H) (ty := ty) hx hy ht hz hi).run w d pos af g hw⟩
theorem Val.idxSlZ {t e : TypeId} {x y : Operand} {i : Int} {k : IntKind} (hx : evO m x = some v) (hy : evO m y = some (.int k i)) (ht : sliceElem P t = some e) (h : Sli w0 H E v xs) (hz : szOf P e = some E.sz) (hi : 0 ≤ i ∧ i < xs.length) :
    Val P w0 H m ty (.indexAddr t x y) (.pointer (some (adr v (i.toNat * E.sz)))) :=
  Val.idxSl hx (show evO m y = some (.int k (i.toNat : Nat)) by rw [hy, Int.toNat_of_nonneg hi.1]) ht h hz (by omega)
theorem Val.fieldSl {s : TypeId} {x : Operand} {f k q : Nat} (hx : evO m x = some (.pointer (some (adr v q)))) (hs : fieldOff P s f = some k) : Val P w0 H m ty (.fieldAddr s x f) (.pointer (some (adr v (q + k)))) :=
  ⟨by simp [covOp, cov, hx], fun w d pos af g _ => by
    have := run_field (P := P) w (a := adr v q) hs
    rw [adr_add] at this
    simp [execOp, evS, hx, this]⟩

/-! ## slicing -/
def subV (v : Value) (l h z : Nat) : Value := match v with
  | .slice a _ c => .slice (if c = l then a else a.map (·.add (l * z))) (h - l) (c - l)
  | v => v
theorem SlW.sub {w : World} (hs : SlW w E v xs) {l h : Nat} (hl : l ≤ h) (hh : h ≤ xs.length) : SlW w E (subV v l h E.sz) ((xs.take h).drop l) := by
  obtain ⟨a, c, rfl, h1, h2, h3⟩ := hs.shape
  have hlen : ((xs.take h).drop l).length = h - l := by simp; omega
  refine ⟨⟨if c = l then a else a.map (·.add (l * E.sz)), c - l, by simp only [subV, hlen], by omega, by omega, ?_⟩, ?_⟩
  · intro hne
    have hp : 0 < ((xs.take h).drop l).length := List.length_pos_iff.2 hne
    obtain ⟨b, o, rfl⟩ := h3 (by intro e; subst e; simp at hp)
    rw [if_neg (by omega)]
    exact ⟨b, o + l * E.sz, by simp [add_mk]⟩
  · intro i x hx j u hu
    rw [List.getElem?_drop, List.getElem?_take] at hx
    split at hx
    · rename_i hlt
      have hxs : xs ≠ [] := by intro e; subst e; simp at hx
      obtain ⟨b, o, rfl⟩ := h3 hxs
      have := hs.at_ _ x hx j u hu
      simp only [subV]
      rw [if_neg (by omega)]
      simp only [adr, Option.map_some, add_mk] at this ⊢
      rw [show o + l * E.sz + (i * E.sz + j) = o + ((l + i) * E.sz + j) by rw [Nat.add_mul]; omega]
      exact this
    · cases hx
theorem Sli.sub (hs : Sli w0 H E v xs) {l h : Nat} (hl : l ≤ h) (hh : h ≤ xs.length) : Sli w0 H E (subV v l h E.sz) ((xs.take h).drop l) := fun w hw => (hs w hw).sub hl hh

def optB (len : Nat) (o : Option Value) (d : Nat) (r : Nat) : Prop := match o with
  | none => r = d
  | some v => v = .int .i64 (r : Nat) ∧ r ≤ len

inductive EvOpt (m : Slots) : Option Operand → Option Value → Prop
  | none : EvOpt m none none
  | some {x : Operand} {v : Value} : evO m x = some v → EvOpt m (some x) (some v)

theorem run_bound {w : World} {i y : Nat} {c : BoundsCode} (h : i ≤ y) : (Instr.sliceBound (.int .i64 (i : Nat)) y c).run P w = .ok i w := by
  simp [Instr.sliceBound, asIntOf, h]

theorem Val.sliceLH {t e : TypeId} {x y z : Operand} {l h : Nat} (hx : evO m x = some v) (hy : evO m y = some (.int .i64 (l : Nat))) (hz' : evO m z = some (.int .i64 (h : Nat))) (ht : sliceElem P t = some e) (hs : Sli w0 H E v xs) (hz : szOf P e = some E.sz) (hl : l ≤ h) (hh : h ≤ xs.length) :
    Val P w0 H m ty (.slice t x (some y) (some z) none) (subV v l h E.sz) :=
  ⟨by simp [covOp, covOpt, cov, hx, hy, hz'], fun w d pos af g hw => by
    obtain ⟨a, c, rfl, h1, h2, h3⟩ := (hs w hw).shape
    have hu : P.underlying t = some (.slice e) := by unfold sliceElem at ht; split at ht <;> simp_all
    have e1 := run_bound (P := P) (w := w) (i := h) (y := c) (c := .sliceAcap) (by omega)
    have e2 := run_bound (P := P) (w := w) (i := l) (y := h) (c := .sliceB) hl
    simp [execOp, evS, hx, hy, hz', Instr.sliceAt, Instr.slice, Instr.sliceBounds, run_und w hu, run_szOf w hz, e1, e2, subV]⟩
theorem Val.sliceL {t e : TypeId} {x y : Operand} {l : Nat} (hx : evO m x = some v) (hy : evO m y = some (.int .i64 (l : Nat))) (ht : sliceElem P t = some e) (hs : Sli w0 H E v xs) (hz : szOf P e = some E.sz) (hl : l ≤ xs.length) :
    Val P w0 H m ty (.slice t x (some y) none none) (subV v l xs.length E.sz) :=
  ⟨by simp [covOp, covOpt, cov, hx, hy], fun w d pos af g hw => by
    obtain ⟨a, c, rfl, h1, h2, h3⟩ := (hs w hw).shape
    have hu : P.underlying t = some (.slice e) := by unfold sliceElem at ht; split at ht <;> simp_all
    have e2 := run_bound (P := P) (w := w) (i := l) (y := xs.length) (c := .sliceB) hl
    simp [execOp, evS, hx, hy, Instr.sliceAt, Instr.slice, Instr.sliceBounds, run_und w hu, run_szOf w hz, e2, subV]⟩
theorem Val.sliceH {t e : TypeId} {x z : Operand} {h : Nat} (hx : evO m x = some v) (hz' : evO m z = some (.int .i64 (h : Nat))) (ht : sliceElem P t = some e) (hs : Sli w0 H E v xs) (hz : szOf P e = some E.sz) (hh : h ≤ xs.length) :
    Val P w0 H m ty (.slice t x none (some z) none) (subV v 0 h E.sz) :=
  ⟨by simp [covOp, covOpt, cov, hx, hz'], fun w d pos af g hw => by
    obtain ⟨a, c, rfl, h1, h2, h3⟩ := (hs w hw).shape
    have hu : P.underlying t = some (.slice e) := by unfold sliceElem at ht; split at ht <;> simp_all
    have e1 := run_bound (P := P) (w := w) (i := h) (y := c) (c := .sliceAcap) (by omega)
    simp [execOp, evS, hx, hz', Instr.sliceAt, Instr.slice, Instr.sliceBounds, run_und w hu, run_szOf w hz, e1, subV]⟩
end

/-! ## calls that only read what is there -/
theorem HF.rebase {w0 w w' : World} {H N : Heap} (h : HF w0 H w) (h' : HF w N w') : HF w0 (N ++ H) w' := by
  refine ⟨?_, ?_, ?_, ?_⟩
  · exact h.old.trans h'.old
  · intro p hm
    rcases List.mem_append.1 hm with hm | hm
    · exact h'.get p hm
    · exact (h'.old.block p.1 (h.lt hm) (by simp)).trans (h.get p hm)
  · intro p hm
    rcases List.mem_append.1 hm with hm | hm
    · exact Nat.le_trans h.old.size (h'.new p hm)
    · exact h.new p hm
  · rw [List.map_append, List.nodup_append]
    refine ⟨h'.nd, h.nd, ?_⟩
    intro a ha b hb e
    subst e
    obtain ⟨p, hp, rfl⟩ := List.mem_map.1 ha
    obtain ⟨q, hq, he⟩ := List.mem_map.1 hb
    have h1 := h'.new p hp
    have h2 := h.lt hq
    omega
theorem HF.self (w : World) : HF w [] w := ⟨Only.refl _ _, (fun p hp => absurd hp (by simp)), (fun p hp => absurd hp (by simp)), by simp⟩

section
variable {P : Program} {w0 : World} {H : Heap}
theorem CallV.pure {fv : Value} {vs : List Value} {R : Post} (h : ∀ w, HF w0 H w → CallV P w fv vs [] R) : CallV P w0 fv vs H (fun v H' => ∃ N, R v N ∧ H' = N ++ H) := by
  intro w hw
  refine ((h w hw) w (HF.self w)).mono ?_
  rintro v w' ⟨N, hN, hR⟩
  exact ⟨_, hw.rebase hN, N, hR, rfl⟩
theorem Call.pure {f : FuncId} {vs : List Value} {R : Post} (he : enters P f = true) (h : ∀ w, HF w0 H w → Call P w f vs [] R) : Call P w0 f vs H (fun v H' => ∃ N, R v N ∧ H' = N ++ H) :=
  ⟨he, fun w hw => ((h w hw).out w (HF.self w)).mono fun e w' ⟨v, N, h1, hN, hR⟩ => ⟨v, N ++ H, h1, hw.rebase hN, N, hR, rfl⟩⟩
end
end Go.Proofs.Ytfgmofaadcbokaa
