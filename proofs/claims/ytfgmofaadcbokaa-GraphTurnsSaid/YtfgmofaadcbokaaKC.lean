/- The walker: copy into an own slice. -/
import Derived.Test.YtfgmofaadcbokaaKT
namespace Go.Proofs.Ytfgmofaadcbokaa
open Go.RowKit
set_option linter.unusedVariables false
set_option linter.unusedSimpArgs false
section
variable {P : Program} {w0 : World} {H F : Heap} {m : Slots} {ty : TypeId} {α : Type} {E : Enc α}
theorem flat_take_mul (xs : List α) (i : Nat) (hi : i ≤ xs.length) (tl : List Value) : (flat E xs ++ tl).take (i * E.sz) = flat E (xs.take i) := by
  have e : flat E xs = flat E (xs.take i) ++ flat E (xs.drop i) := by rw [← flat_append, List.take_append_drop]
  have hl : (flat E (xs.take i)).length = i * E.sz := by rw [flat_len, List.length_take, Nat.min_eq_left hi]
  rw [e, List.append_assoc, ← hl, List.take_left']
  rfl
theorem flat_drop_mul (xs : List α) (i : Nat) (hi : i ≤ xs.length) (tl : List Value) : (flat E xs ++ tl).drop (i * E.sz) = flat E (xs.drop i) ++ tl := by
  have e : flat E xs = flat E (xs.take i) ++ flat E (xs.drop i) := by rw [← flat_append, List.take_append_drop]
  have hl : (flat E (xs.take i)).length = i * E.sz := by rw [flat_len, List.length_take, Nat.min_eq_left hi]
  rw [e, List.append_assoc, ← hl, List.drop_left']
  rfl
theorem sub_all (o : Own) (n z : Nat) (h : o = none → n = 0) : subV (oV o n) 0 n z = oV o n := by
  cases o with
  | none => simp only [oV, subV, h rfl]; simp
  | some ob =>
    simp only [oV, subV]
    by_cases hc : ob.c = 0
    · simp [hc]
    · simp [hc, Addr.add]
/-- a literal's block as an own slice -/
theorem Part.lit {b c : Nat} {e : TypeId} {l : List Value} {xs : List α} {F' H' : Heap} (hl : l = flat E xs) (h : Part F' H') : Part ((b, cells l e) :: F') (oH E e xs (some ⟨b, c, []⟩) ++ H') := by
  subst hl
  rw [oH_lit]
  exact Part.take Take.head h
def copied (xs ys : List α) (i : Nat) : List α := xs.take i ++ ys.take (min ys.length (xs.length - i)) ++ xs.drop (i + min ys.length (xs.length - i))
theorem Eff.copyS {x y : Operand} {t t2 e : TypeId} {xs ys : List α} {o : Own} {i : Nat} {vd v2 : Value} (hx : evO m x = some vd) (hvd : vd = subV (oV o xs.length) i xs.length E.sz) (hy : evO m y = some v2) (ht : sliceElem P t = some e) (hz : szOf P e = some E.sz)
    (hi : i ≤ xs.length) (hT : TakeL (oH E e xs o) H F) (ok : oOk E xs o) (hs : Sli w0 H E v2 ys) :
    Eff P w0 H m ty (.call { callee := .builtin .copy, args := #[x, y], argTypes := #[t, t2] }) (fun v H' => v = .int .i64 ((min ys.length (xs.length - i) : Nat) : Int) ∧ oOk E (copied xs ys i) o ∧ H' = oH E e (copied xs ys i) o ++ F) := by
  refine ⟨by simp [covOp, covCall, cov, hx, hy], fun w d pos af g hw0 => ?_⟩
  have hw := hw0.takeL hT
  have hsw := hs w hw0
  have hu : P.underlying t = some (.slice e) := by unfold sliceElem at ht; split at ht <;> simp_all
  obtain ⟨a, c, rfl, h1, h2, h3⟩ := hsw.shape
  have hq : ∃ inf, P.info? e = some inf ∧ inf.size = E.sz := by
    unfold szOf at hz; exact Option.map_eq_some_iff.1 hz
  obtain ⟨inf, hq1, hq2⟩ := hq
  by_cases hn : min ys.length (xs.length - i) = 0
  · have e1 : copied xs ys i = xs := by simp [copied, hn]
    rw [e1, hn]
    have e2 : ∃ a' c', vd = .slice a' (xs.length - i) c' ∧ (Nat.min ys.length (xs.length - i) = 0) := by
      subst hvd
      cases o with
      | none => simp only [oOk] at ok; subst ok; exact ⟨none, 0 - i, by cases i <;> simp [oV, subV], hn⟩
      | some ob => exact ⟨_, _, rfl, hn⟩
    obtain ⟨a', c', e2, e2'⟩ := e2
    rw [e2] at hx
    have e3 : (Builtin.copy_ #[t, t2] ty #[.slice a' (xs.length - i) c', .slice a ys.length c]).run P w = .ok (goInt 0) w := by
      cases a <;> cases a' <;> simp [Builtin.copy_, run_und w hu, Builtin.lenOf, Builtin.firstCells, sizeOf, typeInfo, hq1, e2', loadCells, loadCellsFrom, storeCells]
    have e4 : (execOp (evS m) ⟨d, .call { callee := .builtin .copy, args := #[x, y], argTypes := #[t, t2] }, ty, pos, af, g⟩).run P w = .ok (.value (goInt 0)) w := by
      simp [execOp, resolve, invoke, builtin, evS, hx, hy, e3]
    rw [e4]
    exact ⟨_, hw, rfl, ok, rfl⟩
  · cases o with
    | none => simp only [oOk] at ok; subst ok; simp at hn
    | some ob =>
      have hys : ys ≠ [] := by intro h; subst h; simp at hn
      obtain ⟨b', o', rfl⟩ := h3 hys
      obtain ⟨g1, g2, g3⟩ := ok
      have hil : i < xs.length := by omega
      obtain ⟨n, hnn⟩ : ∃ n, n = min ys.length (xs.length - i) := ⟨_, rfl⟩
      have hny : n ≤ ys.length := by omega
      have hnx : i + n ≤ xs.length := by omega
      have hcl : (flat E (ys.take n)).length = n * E.sz := by rw [flat_len, List.length_take, Nat.min_eq_left hny]
      have e2 : vd = .slice (some ⟨ob.b, i * E.sz, none⟩) (xs.length - i) (ob.c - i) := by
        subst hvd
        simp only [oV, subV]
        rw [if_neg (by omega)]
        simp [Addr.add]
        try omega
      rw [e2] at hx
      have hfit : i * E.sz + n * E.sz ≤ xs.length * E.sz := by rw [← Nat.add_mul]; exact Nat.mul_le_mul_right _ hnx
      have hcp := run_copy_cells_n (P := P) w t t2 ty e ob.b (i * E.sz) (xs.length - i) (ob.c - i) ⟨b', o', none⟩ ys.length c E.sz (flat E xs ++ ob.tl).toArray e (flat E (ys.take n)) hu hz (hw.get _ (.head _))
        (by rw [hcl, hnn])
        (fun j v hj => by
          have hj' : (flat E ys)[j]? = some v := by
            have e : flat E ys = flat E (ys.take n) ++ flat E (ys.drop n) := by rw [← flat_append, List.take_append_drop]
            rw [e, List.getElem?_append_left (List.getElem?_eq_some_iff.1 hj).1]; exact hj
          have := hsw.row hj'
          rw [add_mk]
          simpa [adr] using this)
        (by rw [hcl]; simp only [List.size_toArray, List.length_append, flat_len]; omega) (flat_one _)
      have e4 : (execOp (evS m) ⟨d, .call { callee := .builtin .copy, args := #[x, y], argTypes := #[t, t2] }, ty, pos, af, g⟩).run P w = .ok (.value (goInt (Nat.min ys.length (xs.length - i)))) (w.setRow ob.b (over (flat E xs ++ ob.tl).toArray (i * E.sz) (flat E (ys.take n)))) := by
        simp [execOp, resolve, invoke, builtin, evS, hx, hy, hcp]
      rw [e4]
      refine ⟨_, hw.setRow, rfl, ?_, ?_⟩
      · have hlen : (copied xs ys i).length = xs.length := by
          simp only [copied, List.length_append, List.length_take, List.length_drop]; omega
        simp only [oOk, hlen]
        exact ⟨g1, g2, g3⟩
      · simp only [oH, List.cons_append, List.nil_append, cells]
        congr 3
        unfold over copied
        congr 1
        rw [← hnn]
        simp only [hcl]
        rw [← Nat.add_mul, flat_take_mul xs i hi, flat_drop_mul xs (i + n) hnx, flat_append, flat_append]
        simp
theorem Eff.copyS0 {x y : Operand} {t t2 e : TypeId} {xs ys : List α} {o : Own} {v2 : Value} (hx : evO m x = some (oV o xs.length)) (hy : evO m y = some v2) (ht : sliceElem P t = some e) (hz : szOf P e = some E.sz)
    (hT : TakeL (oH E e xs o) H F) (ok : oOk E xs o) (hs : Sli w0 H E v2 ys) :
    Eff P w0 H m ty (.call { callee := .builtin .copy, args := #[x, y], argTypes := #[t, t2] }) (fun v H' => v = .int .i64 ((min ys.length (xs.length - 0) : Nat) : Int) ∧ oOk E (copied xs ys 0) o ∧ H' = oH E e (copied xs ys 0) o ++ F) :=
  Eff.copyS hx (sub_all o xs.length E.sz (fun h => by subst h; simp only [oOk] at ok; subst ok; rfl)).symm hy ht hz (Nat.zero_le _) hT ok hs
theorem Eff.makeR {t e : TypeId} {x y : Operand} {z : Value} {n bytes : Nat} {x0 : α} (hx : evO m x = some (.int .i64 (n : Nat))) (hy : evO m y = some (.int .i64 (n : Nat))) (ht : sliceElem P t = some e)
    (hinfo : (P.info? e).map (fun i => (i.zero, i.size, i.bytes)) = some (some z, E.sz, bytes)) (hz : z.cells = (E.enc x0).toArray) (hb' : Nat.ble bytes 65536 = true) (hn' : n ≤ 4294967296) :
    Eff P w0 H m ty (.makeSlice t x y) (fun v H' => ∃ o, oOk E (List.replicate n x0) o ∧ v = oV o (List.replicate n x0).length ∧ H' = oH E e (List.replicate n x0) o ++ H) := by
  have h := Eff.makeS (P := P) (w0 := w0) (H := H) (m := m) (ty := ty) (E := E) (x0 := x0) hx hy ht hinfo hz hb' hn'
  refine ⟨h.cv, fun w d pos af g hw => (h.run w d pos af g hw).mono ?_⟩
  rintro v w' ⟨H', hh, b, rfl, rfl⟩
  exact ⟨_, hh, some ⟨b, n, []⟩, ⟨by simp, by show n ≤ maxLen; unfold maxLen; omega, by simp⟩, by simp, rfl⟩
end
end Go.Proofs.Ytfgmofaadcbokaa
