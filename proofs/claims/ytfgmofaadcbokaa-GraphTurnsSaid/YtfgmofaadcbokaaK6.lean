/- The walker: append, stores into own slices, literals of slices, make; comparisons with nil; bits; what acts in a drawn region. -/
import Derived.Test.YtfgmofaadcbokaaK5
namespace Go.Proofs.Ytfgmofaadcbokaa
open Go.RowKit
set_option linter.unusedVariables false
set_option linter.unusedSimpArgs false

section
variable {P : Program} {w0 : World} {m : Slots} {H F : Heap} {ty : TypeId} {α : Type} {E : Enc α} {v : Value} {xs ys : List α} {o : Own} {e : TypeId}

theorem TakeL.nil {H : Heap} : TakeL [] H H := by simpa using (TakeL.head (A := ([] : Heap)) (F := H))

theorem TakeL.whole {A : Heap} : TakeL A A [] := by simpa using TakeL.head (A := A) (F := [])
theorem Part.lastA {A H F : Heap} (h : TakeL A H F) : Part H A := by simpa using Part.takeA h (Part.nil : Part F [])

theorem Part.assoc {H A B C : Heap} (h : Part H (A ++ (B ++ C))) : Part H ((A ++ B) ++ C) := by rw [List.append_assoc]; exact h
/-- a block whose first cells are a list's -/
theorem Sli.blkT {b c n : Nat} {l tl : List Value} (ht : Take (b, cells l e) H F) (hl : l = flat E xs ++ tl) (hc : xs.length ≤ c) (hm : c ≤ maxLen) (hn : n = xs.length) : Sli w0 H E (.slice (some ⟨b, 0, none⟩) n c) xs := by
  intro w hw
  subst hn hl
  refine ⟨⟨_, _, rfl, hc, hm, fun _ => ⟨_, _, rfl⟩⟩, ?_⟩
  intro i x hx j u hu
  have hb := (hw.take ht).get _ (.head _)
  have hg := flat_get hx hu
  have hlt := (List.getElem?_eq_some_iff.1 hg).1
  simp only [adr, World.cell?, hb, Nat.zero_add]
  simp [List.getElem?_append_left hlt, hg]
theorem HF.ownSl {w : World} (hw : HF w0 (oH E e xs o ++ F) w) (ok : oOk E xs o) : Sl w (oV o xs.length) e E.sz xs.length (flat E xs) := by
  cases o with
  | none => simp only [oOk] at ok; subst ok; exact Sl.nil w e E.sz
  | some o =>
    obtain ⟨h1, h2, h3⟩ := ok
    have hb : w.heap[o.b]? = some (cells (flat E xs ++ o.tl) e) := hw.get (o.b, cells (flat E xs ++ o.tl) e) (by simp [oH])
    refine ⟨flat_len xs, .inr ⟨o.b, o.c, (flat E xs ++ o.tl).toArray, rfl, Nat.zero_le _, hb, h1, h2, ?_, ?_⟩⟩
    · simp [flat_len]; omega
    · rw [List.toList_toArray, ← flat_len (E := E), List.take_left']; rfl

/-- what one may append to an own slice, element by element -/
theorem Eff.appO {x y : Operand} {t : TypeId} {z v2 : Value} {bytes : Nat} (hx : evO m x = some (oV o xs.length)) (hy : evO m y = some v2) (ht : sliceElem P t = some e)
    (hinfo : (P.info? e).map (fun i => (i.zero, i.size, i.bytes)) = some (some z, E.sz, bytes)) (hzs : z.cells.size = E.sz) (h0 : Nat.blt 0 E.sz = true) (hT : TakeL (oH E e xs o) H F) (ok : oOk E xs o) (hs : Sli w0 H E v2 ys)
    (hm' : xs.length + ys.length ≤ 4294967296) (hb' : Nat.ble bytes 32768 = true) :
    Eff P w0 H m ty (.call { callee := .builtin .append, args := #[x, y], argTypes := #[t, t] }) (fun v H' => ∃ o', oOk E (xs ++ ys) o' ∧ v = oV o' (xs.length + ys.length) ∧ H' = oH E e (xs ++ ys) o' ++ F) := by
  have hm : xs.length + ys.length ≤ maxLen := by unfold maxLen; omega
  have hb : (xs.length + ys.length) * bytes ≤ 140737488355328 := Nat.le_trans (Nat.mul_le_mul hm' (Nat.le_of_ble_eq_true hb')) (by decide)
  refine ⟨by simp [covOp, covCall, cov, hx, hy], fun w d pos af g hw0 => ?_⟩
  have hw := hw0.takeL hT
  have h0' : 0 < E.sz := Nat.le_of_ble_eq_true h0
  have hsl := hw.ownSl ok
  have hS := hs w hw0
  have hu : P.underlying t = some (.slice e) := by unfold sliceElem at ht; split at ht <;> simp_all
  obtain ⟨a2, c2, rfl, hc1, hc2, hne⟩ := hS.shape
  by_cases hys : ys = []
  · subst hys
    simp only [List.append_nil, List.length_nil, Nat.add_zero] at hm hb ⊢
    have e1 : (Builtin.append_ #[t, t] ty #[oV o xs.length, .slice a2 0 c2]).run P w = .ok (oV o xs.length) w := by
      obtain ⟨i, hi, _⟩ := Option.map_eq_some_iff.1 hinfo
      have hsz : (sizeOf e).run P w = .ok i.size w := run_szOf w (by simp [szOf, hi])
      have fc : (Builtin.firstCells i.size 0 (.slice a2 0 c2)).run P w = .ok #[] w := by
        cases a2 with
        | none => rfl
        | some a => simp [Builtin.firstCells, loadCells, loadCellsFrom]
      cases o with
      | none => simp only [oOk] at ok; subst ok; simp [Builtin.append_, oV, run_und w hu, hsz, Builtin.lenOf, fc]
      | some o => simp [Builtin.append_, oV, run_und w hu, hsz, Builtin.lenOf, fc, ok.1, storeCells]
    have e2 : (execOp (evS m) ⟨d, .call { callee := .builtin .append, args := #[x, y], argTypes := #[t, t] }, ty, pos, af, g⟩).run P w = .ok (.value (oV o xs.length)) w := by
      simp [execOp, resolve, invoke, builtin, evS, hx, hy, e1]
    rw [e2]
    exact ⟨_, hw, o, ok, rfl, rfl⟩
  · obtain ⟨b2, o2, rfl⟩ := hne hys
    have hpos : 0 < ys.length := List.length_pos_iff.2 hys
    obtain ⟨g', cap', w', hr, h2, h3, h4⟩ := run_append_sl (P := P) t ty e z E.sz bytes hu hinfo hzs h0' hsl ⟨b2, o2, none⟩ ys.length c2 (flat E ys) (flat_len ys)
      (fun j u hj => by rw [add_mk]; exact hS.row hj) (flat_one ys) hpos hm hb
    have e2 : (execOp (evS m) ⟨d, .call { callee := .builtin .append, args := #[x, y], argTypes := #[t, t] }, ty, pos, af, g⟩).run P w = .ok (.value (.slice (some ⟨g', 0, none⟩) (xs.length + ys.length) cap')) w' := by
      simp [execOp, resolve, invoke, builtin, evS, hx, hy, hr]
    rw [e2]
    rcases h2.shape with ⟨h5, _⟩ | ⟨g2, cap, cur, h5, hB, hn, hcm, hcs, htk⟩
    · cases h5
    · cases h5
      have hcur : cur = ((flat E (xs ++ ys)) ++ cur.toList.drop ((xs.length + ys.length) * E.sz)).toArray := by
        rw [flat_append, ← htk, List.take_append_drop]
      have hblk : ∀ k, k ∈ blk (oV o xs.length) → k ∈ (oH E e xs o).map Prod.fst := by
        intro k hk
        cases o with
        | none => simp [oV, blk_nil] at hk
        | some o => simpa [oV, blk_some, oH] using hk
      refine ⟨oH E e (xs ++ ys) (some ⟨g', cap', cur.toList.drop ((xs.length + ys.length) * E.sz)⟩) ++ F, ?_, some ⟨g', cap', cur.toList.drop ((xs.length + ys.length) * E.sz)⟩, ?_, rfl, rfl⟩
      · refine hw.only h3 hblk ?_ ?_ ?_
        · intro p hp
          simp only [oH, List.mem_singleton] at hp
          subst hp
          have := hB
          unfold Blk at this
          simp only [cells]
          rw [← hcur]
          exact this
        · simp [oH]
        · intro p hp
          simp only [oH, List.mem_singleton] at hp
          subst hp
          rcases h4 with h4 | h4
          · exact .inl (hblk _ h4)
          · exact .inr h4
      · refine ⟨by simpa using hn, hcm, ?_⟩
        simp only [List.length_append, List.length_drop, Array.length_toList, hcs]
        have := Nat.mul_le_mul_right E.sz hn
        omega

theorem Eff.appZ {x y : Operand} {t : TypeId} {z v2 : Value} {bytes : Nat} {zs : List α} (hx : evO m x = some (oV o xs.length)) (hy : evO m y = some v2) (ht : sliceElem P t = some e)
    (hinfo : (P.info? e).map (fun i => (i.zero, i.size, i.bytes)) = some (some z, E.sz, bytes)) (hzs : z.cells.size = E.sz) (h0 : Nat.blt 0 E.sz = true) (hT : TakeL (oH E e xs o) H F) (ok : oOk E xs o) (hs : Sli w0 H E v2 ys)
    (hz : xs ++ ys = zs) (hm' : zs.length ≤ 4294967296) (hb' : Nat.ble bytes 32768 = true) :
    Eff P w0 H m ty (.call { callee := .builtin .append, args := #[x, y], argTypes := #[t, t] }) (fun v H' => ∃ o', oOk E zs o' ∧ v = oV o' zs.length ∧ H' = oH E e zs o' ++ F) := by
  subst hz
  rw [List.length_append] at hm' ⊢
  exact Eff.appO hx hy ht hinfo hzs h0 hT ok hs hm' hb'
theorem oV_one (o : Own) (n : Nat) : (oV o n).oneCell' = true := by cases o <;> rfl
theorem SlW.one {w : World} (h : SlW w E v xs) : v.oneCell' = true := by obtain ⟨a, c, rfl, _⟩ := h.shape; rfl
theorem Eff.appLit {x y : Operand} {t : TypeId} {z v2 : Value} {bytes b c : Nat} (hx : evO m x = some (.slice (some ⟨b, 0, none⟩) 0 c)) (hy : evO m y = some v2) (ht : sliceElem P t = some e)
    (hinfo : (P.info? e).map (fun i => (i.zero, i.size, i.bytes)) = some (some z, E.sz, bytes)) (hzs : z.cells.size = E.sz) (h0 : Nat.blt 0 E.sz = true) (hc : Nat.beq c 0 = true) (hT : Take (b, cells [] e) H F) (hs : Sli w0 H E v2 ys)
    (hm : ys.length ≤ 4294967296) (hb : Nat.ble bytes 32768 = true) :
    Eff P w0 H m ty (.call { callee := .builtin .append, args := #[x, y], argTypes := #[t, t] }) (fun v H' => ∃ o', oOk E ys o' ∧ v = oV o' ys.length ∧ H' = oH E e ys o' ++ F) := by
  have hc' : c = 0 := Nat.eq_of_beq_eq_true hc
  subst hc'
  have hT' : TakeL (oH E e [] (some ⟨b, 0, []⟩)) ((b, cells [] e) :: F) F := TakeL.head (A := oH E e [] (some ⟨b, 0, []⟩))
  have hs' : Sli w0 ((b, cells [] e) :: F) E v2 ys := fun w hw => hs w (hw.perm hT.perm.symm)
  have := Eff.appO (P := P) (w0 := w0) (m := m) (ty := ty) (E := E) (xs := []) (o := some ⟨b, 0, []⟩) (x := x) (y := y) hx hy ht hinfo hzs h0 hT' ⟨Nat.le_refl _, Nat.zero_le _, by simp⟩ hs' (by simpa using hm) hb
  refine ⟨this.cv, fun w d pos af g hw => ?_⟩
  have h2 := this.run w d pos af g (hw.take hT)
  simp only [List.nil_append, List.length_nil, Nat.zero_add] at h2
  exact h2
theorem Eff.appNil {x y : Operand} {t : TypeId} {z v2 : Value} {bytes : Nat} (hx : evO m x = some (.slice none 0 0)) (hy : evO m y = some v2) (ht : sliceElem P t = some e)
    (hinfo : (P.info? e).map (fun i => (i.zero, i.size, i.bytes)) = some (some z, E.sz, bytes)) (hzs : z.cells.size = E.sz) (h0 : Nat.blt 0 E.sz = true) (hs : Sli w0 H E v2 ys)
    (hm : ys.length ≤ 4294967296) (hb : Nat.ble bytes 32768 = true) :
    Eff P w0 H m ty (.call { callee := .builtin .append, args := #[x, y], argTypes := #[t, t] }) (fun v H' => ∃ o', oOk E ys o' ∧ v = oV o' ys.length ∧ H' = oH E e ys o' ++ H) := by
  have := Eff.appO (P := P) (w0 := w0) (H := H) (F := H) (m := m) (ty := ty) (E := E) (xs := []) (o := none) (x := x) (y := y) hx hy ht hinfo hzs h0 (TakeL.head (A := [])) rfl hs (by simpa using hm) hb
  refine ⟨this.cv, fun w d pos af g hw => ?_⟩
  have h2 := this.run w d pos af g hw
  simp only [List.nil_append, List.length_nil, Nat.zero_add] at h2
  exact h2

/-! stores -/
theorem Eff.stSl {t : TypeId} {x y : Operand} {i j n : Nat} {u : Value} {x0 x1 : α} (hx : evO m x = some (.pointer (some (adr (oV o n) (i * E.sz + j))))) (hy : evO m y = some u) (h1 : u.oneCell' = true) (ht : szOf P t = some 1)
    (hT : TakeL (oH E e xs o) H F) (ok : oOk E xs o) (hi : xs[i]? = some x0) (hj : Nat.blt j E.sz = true) (hl : (E.enc x0).set j u = E.enc x1) : Eff P w0 H m ty (.store t x y) (fun _ H' => H' = oH E e (xs.set i x1) o ++ F) := by
  refine ⟨by simp [covOp, cov, hx, hy], fun w d pos af g hw0 => ?_⟩
  have hj' : j < E.sz := Nat.le_of_ble_eq_true hj
  have hit := (List.getElem?_eq_some_iff.1 hi).1
  cases o with
  | none => simp only [oOk] at ok; subst ok; simp at hi
  | some o =>
    have hw : HF w0 ((o.b, cells (flat E xs ++ o.tl) e) :: F) w := hw0.takeL hT
    have hlt : i * E.sz + j < (flat E xs ++ o.tl).length := by
      rw [List.length_append, flat_len]
      have : (i + 1) * E.sz ≤ xs.length * E.sz := Nat.mul_le_mul_right _ hit
      rw [Nat.succ_mul] at this
      omega
    have he := Eff.store (P := P) (w0 := w0) (m := m) (ty := ty) (t := t) (x := x) (y := y) (b := o.b) (o := i * E.sz + j) (v := u) (F := F) (e := e) (by rw [hx]; simp [adr, oV]) hy h1 ht (Take.head) hlt rfl
    refine (he.run w d pos af g hw).mono ?_
    rintro v' w' ⟨H', hh, rfl⟩
    refine ⟨_, hh, ?_⟩
    rw [flat_inj_set hi hj' hl]
    rfl
theorem Eff.stSl0 {t : TypeId} {x y : Operand} {i n : Nat} {u : Value} {x0 x1 : α} (hx : evO m x = some (.pointer (some (adr (oV o n) (i * E.sz))))) (hy : evO m y = some u) (h1 : u.oneCell' = true) (ht : szOf P t = some 1)
    (hT : TakeL (oH E e xs o) H F) (ok : oOk E xs o) (hi : xs[i]? = some x0) (hj : Nat.blt 0 E.sz = true) (hl : (E.enc x0).set 0 u = E.enc x1) : Eff P w0 H m ty (.store t x y) (fun _ H' => H' = oH E e (xs.set i x1) o ++ F) :=
  Eff.stSl (j := 0) hx hy h1 ht hT ok hi hj hl
theorem Eff.stSlA {t : TypeId} {x y : Operand} {i n : Nat} {cs : List Value} {x0 x1 : α} (hx : evO m x = some (.pointer (some (adr (oV o n) (i * E.sz))))) (hy : evO m y = some (.agg cs.toArray)) (hcs : cs = E.enc x1) (ht : szOf P t = some E.sz)
    (hT : TakeL (oH E e xs o) H F) (ok : oOk E xs o) (hi : xs[i]? = some x0) : Eff P w0 H m ty (.store t x y) (fun _ H' => H' = oH E e (xs.set i x1) o ++ F) := by
  refine ⟨by simp [covOp, cov, hx, hy], fun w d pos af g hw0 => ?_⟩
  have hit := (List.getElem?_eq_some_iff.1 hi).1
  subst hcs
  cases o with
  | none => simp only [oOk] at ok; subst ok; simp at hi
  | some o =>
    have hw : HF w0 ((o.b, cells (flat E xs ++ o.tl) e) :: F) w := hw0.takeL hT
    have he := Eff.storeA (P := P) (w0 := w0) (m := m) (ty := ty) (t := t) (x := x) (y := y) (b := o.b) (o := i * E.sz) (cs := E.enc x1) (l := flat E xs ++ o.tl) (F := F) (e := e) (by rw [hx]; simp [adr, oV]) hy (by rw [E.len]; exact ht) (Take.head)
      (by rw [List.length_append, flat_len (E := E) xs, E.len]
          have : (i + 1) * E.sz ≤ xs.length * E.sz := Nat.mul_le_mul_right _ hit
          rw [Nat.succ_mul] at this
          omega) (E.one x1) rfl
    refine (he.run w d pos af g hw).mono ?_
    rintro v' w' ⟨H', hh, rfl⟩
    refine ⟨_, hh, ?_⟩
    rw [flat_laid hi]
    rfl

/-! literals of slices -/
def repL (zl : List Value) : Nat → List Value
  | 0 => []
  | n + 1 => zl ++ repL zl n
theorem repL_len (zl : List Value) (n : Nat) : (repL zl n).length = n * zl.length := by
  induction n with
  | zero => simp [repL]
  | succ n ih => simp only [repL, List.length_append, ih, Nat.succ_mul]; omega
theorem repL_get (zl : List Value) : ∀ (n i : Nat), i < n * zl.length → (repL zl n)[i]? = zl[i % zl.length]? := by
  intro n
  induction n with
  | zero => intro i h; omega
  | succ n ih =>
    intro i h
    simp only [repL]
    by_cases hi : i < zl.length
    · rw [List.getElem?_append_left hi, Nat.mod_eq_of_lt hi]
    · rw [List.getElem?_append_right (by omega), ih _ (by rw [Nat.succ_mul] at h; omega), ← Nat.mod_eq_sub_mod (by omega)]
theorem repL_made (zl : List Value) (n : Nat) : (Array.range (n * zl.length)).map (fun i => zl.toArray[i % zl.toArray.size]!) = (repL zl n).toArray := by
  apply Array.ext_getElem?
  intro i
  simp only [List.getElem?_toArray, Array.getElem?_map]
  by_cases h : i < n * zl.length
  · rw [repL_get zl n i h]
    have h0 : 0 < zl.length := by
      rcases Nat.eq_zero_or_pos zl.length with h' | h'
      · rw [h'] at h; omega
      · exact h'
    have hm : i % zl.length < zl.length := Nat.mod_lt _ h0
    have e1 : (Array.range (n * zl.length))[i]? = some i := by simp [h]
    rw [e1, List.getElem?_eq_getElem hm]
    simp [hm]
  · rw [List.getElem?_eq_none (by rw [repL_len]; omega)]
    simp
    omega
theorem repL_flat {x : α} (n : Nat) : repL (E.enc x) n = flat E (List.replicate n x) := by
  induction n with
  | zero => rfl
  | succ n ih => rw [List.replicate_succ, flat_cons, ← ih]; rfl

theorem Eff.buildS {t : TypeId} {len z : Nat} {ps : List (Nat × Operand)} {vs : List (Nat × Value)} {zl l : List Value} (hp : Parts m ps vs) (ht : sliceElem P t = some e) (hz : szOf P e = some z) (hlim : Nat.ble (len * z) 16777216 = true)
    (hz0 : zeroOf P e = some zl) (hzl : zl.length = z) (hf : Fill (fun i => some (i * z, z)) (repL zl len) vs l) :
    Eff P w0 H m ty (.buildSlice t len ps.toArray) (fun v H' => ∃ b, v = .slice (some ⟨b, 0, none⟩) len len ∧ H' = (b, cells l e) :: H) := by
  refine ⟨by simp only [covOp, List.toList_toArray]; exact hp.cov, fun w d pos af g hw => ?_⟩
  obtain ⟨zv, hz1, hz2⟩ := run_zero w hz0
  have hu : P.underlying t = some (.slice e) := by unfold sliceElem at ht; split at ht <;> simp_all
  have hlim' : ¬ (len * z > 2 ^ 24) := by have := Nat.le_of_ble_eq_true hlim; omega
  have hfl := fill_run hf
  have e2 : (ps.toArray.map fun (p : Nat × Operand) => (p.1, evS m p.2)) = vs.toArray := by simp [hp.map]
  have e3 : (execOp (evS m) ⟨d, .buildSlice t len ps.toArray, ty, pos, af, g⟩) = (do pure (.value (← Instr.buildSlice t len vs.toArray)) : Sem Next) := by
    simp only [execOp]
    rw [show (ps.toArray.map fun x => match x with | (i, x) => (i, evS m x)) = vs.toArray from e2]
  have e4 : (Instr.buildSlice t len vs.toArray).run P w = .ok (.slice (some ⟨w.heap.size, 0, none⟩) len len) (w.alloc (cells l e)) := by
    by_cases h0 : len * z = 0
    · have hr : repL zl len = [] := List.eq_nil_of_length_eq_zero (by rw [repL_len, hzl]; exact h0)
      rw [hr] at hfl
      have hfl' : Instr.fill (fun i => some (i * z, z)) #[] vs = some l.toArray := hfl
      simp only [Instr.buildSlice, Sem.run_bind, run_und w hu, Result.andThen, run_szOf w hz, h0, show ¬ ((0 : Nat) > 2 ^ 24) from by decide, if_false, if_true, Sem.run_pure]
      rw [show (Array.map (fun x => (#[] : Array Value)[x % (#[] : Array Value).size]!) (Array.range 0)) = #[] from by simp, hfl']
      simp [newRow, newObj, Sem.run, Bind.bind, Sem.bind, Pure.pure, cells]
    · subst hzl
      have hm := repL_made zl len
      have hne : ¬ (2 ^ 24 < len * zl.length) := hlim'
      simp only [Instr.buildSlice, Sem.run_bind, run_und w hu, Result.andThen, run_szOf w hz, hlim', if_false, h0, Sem.run_pure, hz1, hz2, hm, List.toList_toArray, hfl]
      simp [newRow, newObj, Sem.run, Bind.bind, Sem.bind, Pure.pure, cells]
  rw [e3]
  simp only [Sem.run_bind, e4, Result.andThen, Sem.run_pure]
  exact ⟨_, hw.alloc _, _, rfl, rfl⟩

/-! make -/
theorem Eff.makeS {t : TypeId} {x y : Operand} {z : Value} {n bytes : Nat} {x0 : α} (hx : evO m x = some (.int .i64 (n : Nat))) (hy : evO m y = some (.int .i64 (n : Nat))) (ht : sliceElem P t = some e)
    (hinfo : (P.info? e).map (fun i => (i.zero, i.size, i.bytes)) = some (some z, E.sz, bytes)) (hz : z.cells = (E.enc x0).toArray) (hb' : Nat.ble bytes 65536 = true) (hn' : n ≤ 4294967296) :
    Eff P w0 H m ty (.makeSlice t x y) (fun v H' => ∃ b, v = oV (some ⟨b, n, []⟩) n ∧ H' = oH E e (List.replicate n x0) (some ⟨b, n, []⟩) ++ H) := by
  refine ⟨by simp [covOp, cov, hx, hy], fun w d pos af g hw => ?_⟩
  have hu : P.underlying t = some (.slice e) := by unfold sliceElem at ht; split at ht <;> simp_all
  have hb : bytes * n ≤ 281474976710656 := Nat.le_trans (Nat.mul_le_mul (Nat.le_of_ble_eq_true hb') hn') (by decide)
  have hn : n ≤ 9223372036854775807 := by omega
  have hr := run_make_cells (P := P) t e z E.sz bytes hu hinfo .i64 .i64 n hb hn w
  have hmade : madeCells z.cells (n * E.sz) = (flat E (List.replicate n x0)).toArray := by
    rw [← repL_flat, hz, ← repL_made, E.len]
    rfl
  rw [hmade] at hr
  have e1 : (execOp (evS m) ⟨d, .makeSlice t x y, ty, pos, af, g⟩).run P w = .ok (.value (.slice (some ⟨w.heap.size, 0, none⟩) n n)) (w.alloc (cells (flat E (List.replicate n x0)) e)) := by
    simp [execOp, evS, hx, hy, hr]
  rw [e1]
  refine ⟨_, hw.alloc _, w.heap.size, rfl, ?_⟩
  simp [oH]

/-! comparisons with nil -/
theorem equal_unf (t : TypeId) (x y : Value) : Op.equal t x y = Op.equalIn (9999 + 1) t x y := rfl
def ptrB (P : Program) (t : TypeId) : Bool := match P.underlying t with
  | some (.pointer _) => true
  | _ => false
theorem eq_ptr {t : TypeId} {a b : Value} {r : Bool} (w : World) (ht : ptrB P t = true) (h : (∃ p, a = .pointer none ∧ b = .pointer p ∧ r = p.isNone) ∨ (∃ p, a = .pointer p ∧ b = .pointer none ∧ r = p.isNone)) : (Op.equal t a b).run P w = .ok r w := by
  unfold ptrB at ht
  split at ht
  · rename_i q hu
    rcases h with ⟨p, rfl, rfl, rfl⟩ | ⟨p, rfl, rfl, rfl⟩
    · rw [equal_unf, Op.equalIn.eq_2, Sem.run_bind, run_und w hu]; rfl
    · cases p <;> (rw [equal_unf, Op.equalIn.eq_2, Sem.run_bind, run_und w hu]; rfl)
  · cases ht
theorem Val.eqlPN {t u : TypeId} {x y : Operand} {p : Option Addr} (hx : evO m x = some (.pointer p)) (hy : evO m y = some (.pointer none)) (ht : ptrB P t = true) : Val P w0 H m ty (.binOp .eql t x y u) (.bool p.isNone) :=
  Val.binV hx hy (by simp) (by simp) (fun w => by simp [binOp, eq_ptr w ht (.inr ⟨p, rfl, rfl, rfl⟩)])
theorem Val.neqPN {t u : TypeId} {x y : Operand} {p : Option Addr} (hx : evO m x = some (.pointer p)) (hy : evO m y = some (.pointer none)) (ht : ptrB P t = true) : Val P w0 H m ty (.binOp .neq t x y u) (.bool (!p.isNone)) :=
  Val.binV hx hy (by simp) (by simp) (fun w => by simp [binOp, eq_ptr w ht (.inr ⟨p, rfl, rfl, rfl⟩)])
theorem eq_sl {t e : TypeId} {a : Option Addr} {l c l' c' : Nat} (w : World) (ht : sliceElem P t = some e) : (Op.equal t (.slice a l c) (.slice none l' c')).run P w = .ok a.isNone w := by
  have hu : P.underlying t = some (.slice e) := by unfold sliceElem at ht; split at ht <;> simp_all
  cases a <;> (rw [equal_unf, Op.equalIn.eq_2, Sem.run_bind, run_und w hu]; rfl)
theorem Val.eqlSN {t u e : TypeId} {x y : Operand} {a : Option Addr} {l c l' c' : Nat} (hx : evO m x = some (.slice a l c)) (hy : evO m y = some (.slice none l' c')) (ht : sliceElem P t = some e) : Val P w0 H m ty (.binOp .eql t x y u) (.bool a.isNone) :=
  Val.binV hx hy (by simp) (by simp) (fun w => by simp [binOp, eq_sl w ht])
theorem Val.neqSN {t u e : TypeId} {x y : Operand} {a : Option Addr} {l c l' c' : Nat} (hx : evO m x = some (.slice a l c)) (hy : evO m y = some (.slice none l' c')) (ht : sliceElem P t = some e) : Val P w0 H m ty (.binOp .neq t x y u) (.bool (!a.isNone)) :=
  Val.binV hx hy (by simp) (by simp) (fun w => by simp [binOp, eq_sl w ht])

/-! booleans -/
theorem Val.isT {op : Op} {p : Prop} [Decidable p] (h : Val P w0 H m ty op (.bool (decide p))) (hp : p) : Val P w0 H m ty op (.bool true) := by rw [decide_eq_true hp] at h; exact h
theorem Val.isF {op : Op} {p : Prop} [Decidable p] (h : Val P w0 H m ty op (.bool (decide p))) (hp : ¬ p) : Val P w0 H m ty op (.bool false) := by rw [decide_eq_false hp] at h; exact h
def boolB (P : Program) (t : TypeId) : Bool := match P.underlying t with
  | some .bool => true
  | _ => false
theorem eq_bool {t : TypeId} {a b : Bool} (w : World) (ht : boolB P t = true) : (Op.equal t (.bool a) (.bool b)).run P w = .ok (a == b) w := by
  unfold boolB at ht
  split at ht
  · rename_i hu
    rw [equal_unf, Op.equalIn.eq_2, Sem.run_bind, run_und w hu]; rfl
  · cases ht
theorem Val.eqlB {t u : TypeId} {x y : Operand} {a b : Bool} (hx : evO m x = some (.bool a)) (hy : evO m y = some (.bool b)) (ht : boolB P t = true) : Val P w0 H m ty (.binOp .eql t x y u) (.bool (a == b)) :=
  Val.binV hx hy (by simp) (by simp) (fun w => by simp [binOp, eq_bool w ht])
theorem Val.neqB {t u : TypeId} {x y : Operand} {a b : Bool} (hx : evO m x = some (.bool a)) (hy : evO m y = some (.bool b)) (ht : boolB P t = true) : Val P w0 H m ty (.binOp .neq t x y u) (.bool (a != b)) :=
  Val.binV hx hy (by simp) (by simp) (fun w => by simp [binOp, eq_bool w ht, bne])
theorem Val.notB {t : TypeId} {x : Operand} {a : Bool} (hx : evO m x = some (.bool a)) : Val P w0 H m ty (.unOp .not t x) (.bool (!a)) := by
  cases a with
  | true => exact Val.notT hx
  | false => exact Val.notF hx
theorem Val.pickB {c x y : Operand} {a b d : Bool} (hc : evO m c = some (.bool d)) (hx : evO m x = some (.bool a)) (hy : evO m y = some (.bool b)) : Val P w0 H m ty (.pick c x y) (.bool (if d then a else b)) := by
  cases d with
  | true => exact Val.pickT hc hx (by simp [cov, hy])
  | false => exact Val.pickF hc (by simp [cov, hx]) hy
end

/-! ## what acts in a drawn region -/
section
variable {P : Program} {w0 : World} {ro : Option Nat} {n : Nat} {Q : Exit → Act → World → Prop} {ds : List Deferred} {m : Slots} {H R : Heap} {ops : Array Oper} {ord : Ord}
variable {op : Op} {ty : TypeId} {pos : String} {af : Array Edge}
theorem KD.eM {i d : Nat} {T : Post} (hi : ops[i]? = some ⟨some d, op, ty, pos, af, none⟩) (hd : Nat.blt d n = true) (he : Eff P w0 H m ty op T) (h : ∀ v H', T v H' → Part H' H ∧ KD P w0 ro n ops R ord Q ds ((d, v) :: m) H') : KD P w0 ro n ops R ((i, 5) :: ord) Q ds m H :=
  KD.makes hi fun a w ha hw => ⟨by simp [Region.wanted], by
    rw [ha.exec (o := ⟨some d, op, ty, pos, af, none⟩) he.cv]
    exact (he.run w _ _ _ _ hw).mono fun v w' ⟨H', hh, hT⟩ => ⟨_, H', ha.put hd v, hh, (h v H' hT).1, (h v H' hT).2⟩⟩
theorem KD.eX {i d : Nat} {T : Post} (hi : ops[i]? = some ⟨some d, op, ty, pos, af, none⟩) (hd : Nat.blt d n = true) (he : Eff P w0 H m ty op T) (h : ∀ v H', T v H' → KD P w0 ro n ops R ord Q ds ((d, v) :: m) H') : KD P w0 ro n ops R ((i, 4) :: ord) Q ds m H :=
  KD.actsX hi fun a w ha hw => ⟨by simp [Region.wanted], by
    rw [ha.exec (o := ⟨some d, op, ty, pos, af, none⟩) he.cv]
    exact (he.run w _ _ _ _ hw).mono fun v w' ⟨H', hh, hT⟩ => ⟨_, H', ha.put hd v, hh, h v H' hT⟩⟩
theorem KD.eNX {i : Nat} {T : Post} (hi : ops[i]? = some ⟨none, op, ty, pos, af, none⟩) (he : Eff P w0 H m ty op T) (h : ∀ v H', T v H' → KD P w0 ro n ops R ord Q ds m H') : KD P w0 ro n ops R ((i, 4) :: ord) Q ds m H :=
  KD.actsX hi fun a w ha hw => ⟨by simp [Region.wanted], by
    rw [ha.exec (o := ⟨none, op, ty, pos, af, none⟩) he.cv]
    exact (he.run w _ _ _ _ hw).mono fun v w' ⟨H', hh, hT⟩ => ⟨_, H', ha, hh, h v H' hT⟩⟩
theorem ActK.e {d : Nat} {T : Post} (hd : Nat.blt d n = true) (he : Eff P w0 H m ty op T) (h : ∀ v H', T v H' → Part H' R ∧ KD P w0 ro n ops R ord Q ds ((d, v) :: m) H') : ActK P w0 ro n ops R ord Q ds m H ⟨some d, op, ty, pos, af, none⟩ :=
  fun a w ha hw => ⟨by simp [Region.wanted], by
    rw [ha.exec (o := ⟨some d, op, ty, pos, af, none⟩) he.cv]
    exact (he.run w _ _ _ _ hw).mono fun v w' ⟨H', hh, hT⟩ => ⟨_, H', ha.put hd v, hh, (h v H' hT).1, (h v H' hT).2⟩⟩
theorem ActK.callc {d : Nat} {f : Operand} {as : List Operand} {ts : Array TypeId} {fv : Value} {vs : List Value} (hd : Nat.blt d n = true) (hf : evO m f = some fv) (ha : EvL m as vs)
    (h : ∀ T : Post, (∀ v H', Part H' R → KD P w0 ro n ops R ord Q ds ((d, v) :: m) H' → T v H') → CallV P w0 fv vs H T) : ActK P w0 ro n ops R ord Q ds m H ⟨some d, .call { callee := .value f, args := as.toArray, argTypes := ts }, ty, pos, af, none⟩ :=
  ActK.e hd (Eff.call hf ha (h (fun v H' => Part H' R ∧ KD P w0 ro n ops R ord Q ds ((d, v) :: m) H') fun _ _ p k => ⟨p, k⟩)) fun _ _ k => k
theorem ActK.eY {d g e : Nat} {b : Bool} {T : Post} (hge : (ops[g]?).bind (·.dst) = some e) (hg : look m e = some (.bool b)) (hd : Nat.blt d n = true) (he : Eff P w0 H m ty op T) (h : ∀ v H', T v H' → Part H' R ∧ KD P w0 ro n ops R ord Q ds ((d, v) :: m) H') : ActK P w0 ro n ops R ord Q ds m H ⟨some d, op, ty, pos, af, some (g, b)⟩ :=
  fun a w ha hw => ⟨by simp only [Region.wanted]; rw [ha.yielded hge hg]; simp, by
    rw [ha.exec (o := ⟨some d, op, ty, pos, af, some (g, b)⟩) he.cv]
    exact (he.run w _ _ _ _ hw).mono fun v w' ⟨H', hh, hT⟩ => ⟨_, H', ha.put hd v, hh, (h v H' hT).1, (h v H' hT).2⟩⟩
theorem ActK.callcY {d g e : Nat} {b : Bool} {f : Operand} {as : List Operand} {ts : Array TypeId} {fv : Value} {vs : List Value} (hge : (ops[g]?).bind (·.dst) = some e) (hg : look m e = some (.bool b)) (hd : Nat.blt d n = true) (hf : evO m f = some fv) (ha : EvL m as vs)
    (h : ∀ T : Post, (∀ v H', Part H' R → KD P w0 ro n ops R ord Q ds ((d, v) :: m) H' → T v H') → CallV P w0 fv vs H T) : ActK P w0 ro n ops R ord Q ds m H ⟨some d, .call { callee := .value f, args := as.toArray, argTypes := ts }, ty, pos, af, some (g, b)⟩ :=
  ActK.eY hge hg hd (Eff.call hf ha (h (fun v H' => Part H' R ∧ KD P w0 ro n ops R ord Q ds ((d, v) :: m) H') fun _ _ p k => ⟨p, k⟩)) fun _ _ k => k
end
end Go.Proofs.Ytfgmofaadcbokaa
