/- Graph: clear, DeleteFunc. -/
import Derived.Test.YtfgmofaadcbokaaGrW4
namespace Go.Proofs.Ytfgmofaadcbokaa
open Go.RowKit
set_option linter.unusedVariables false
set_option linter.unusedSimpArgs false

section
variable {P : Program} {w0 : World} {H F : Heap} {m : Slots} {ty : TypeId}
theorem zeroCells1 (z : Value) (n : Nat) : (Builtin.zeroCells #[z] n).toList = List.replicate n z := by
  apply List.ext_getElem?
  intro i
  simp only [Builtin.zeroCells]
  rw [List.getElem?_replicate]
  by_cases h : i < n
  · simp [h, Nat.mod_one]
  · simp [h]
/-- clear(s[i:]) of an own slice of ints -/
theorem Eff.clearI {x : Operand} {t e : TypeId} {zs : List Int} {o : Own} {i : Nat} (hx : evO m x = some (subV (oV o zs.length) i zs.length 1)) (ht : sliceElem P t = some e) (hz : (P.info? e).map (·.zero) = some (some (.int .i64 0))) (hi : i ≤ zs.length)
    (hT : TakeL (oH iE e zs o) H F) (ok : oOk iE zs o) :
    Eff P w0 H m ty (.call { callee := .builtin .clear, args := #[x], argTypes := #[t] }) (fun v H' => H' = oH iE e (zs.take i ++ List.replicate (zs.length - i) 0) o ++ F) := by
  refine ⟨by simp [covOp, covCall, cov, hx], fun w d pos af g hw0 => ?_⟩
  have hw := hw0.takeL hT
  have hu : P.underlying t = some (.slice e) := by unfold sliceElem at ht; split at ht <;> simp_all
  obtain ⟨inf, hi1, hi2⟩ := Option.map_eq_some_iff.1 hz
  have hzv : (zeroValue e).run P w = .ok (.int .i64 0) w := by simp [zeroValue, typeInfo, program, hi1, hi2, Sem.run, Bind.bind, Sem.bind, Pure.pure]
  by_cases hin : i = zs.length
  · have e1 : zs.take i ++ List.replicate (zs.length - i) 0 = zs := by rw [hin, List.take_length]; simp
    rw [e1]
    have e2 : ∃ a c, subV (oV o zs.length) i zs.length 1 = .slice a 0 c := by
      cases o with
      | none => exact ⟨_, _, by simp only [oV, subV, hin, Nat.sub_self]; rfl⟩
      | some ob => exact ⟨_, _, by simp only [oV, subV, hin, Nat.sub_self]; rfl⟩
    obtain ⟨a, c, e2⟩ := e2
    rw [e2] at hx
    have e3 : (Builtin.clear_ #[t] ty #[.slice a 0 c]).run P w = .ok (.tuple #[]) w := by
      cases a <;> simp [Builtin.clear_, run_und w hu]
    have e4 : (execOp (evS m) ⟨d, .call { callee := .builtin .clear, args := #[x], argTypes := #[t] }, ty, pos, af, g⟩).run P w = .ok (.value (.tuple #[])) w := by
      simp [execOp, resolve, invoke, builtin, evS, hx, e3]
    rw [e4]
    exact ⟨_, hw, rfl⟩
  · cases o with
    | none => simp only [oOk] at ok; subst ok; simp at hin hi; omega
    | some ob =>
      obtain ⟨h1, h2, h3⟩ := ok
      have hsz : iE.sz = 1 := rfl
      rw [hsz] at h3
      have e2 : subV (oV (some ob) zs.length) i zs.length 1 = .slice (some ⟨ob.b, i, none⟩) (zs.length - i) (ob.c - i) := by
        simp only [oV, subV]
        rw [if_neg (by omega)]
        simp [Addr.add]
        try omega
      rw [e2] at hx
      have hfl := flat_iE zs
      have hst := run_storeCells_at P ob.b i e (List.replicate (zs.length - i) (Value.int .i64 0)) 0 (flat iE zs ++ ob.tl).toArray w (hw.get _ (.head _)) (by simp [hfl]; omega) (by intro v hv; rw [(List.mem_replicate.1 hv).2]; rfl)
      simp only [Nat.add_zero] at hst
      have hcl : (Value.int .i64 0).cells = #[.int .i64 0] := rfl
      obtain ⟨n, hn⟩ : ∃ n, zs.length - i = n + 1 := ⟨zs.length - i - 1, by omega⟩
      have e3 : (Builtin.clear_ #[t] ty #[.slice (some ⟨ob.b, i, none⟩) (zs.length - i) (ob.c - i)]).run P w = .ok (.tuple #[]) (w.setRow ob.b (laid (flat iE zs ++ ob.tl) i (List.replicate (zs.length - i) (Value.int .i64 0))).toArray) := by
        rw [hn] at hst ⊢
        simp [Builtin.clear_, run_und w hu, hzv, hcl, zeroCells1, hst, laid]
      have e4 : (execOp (evS m) ⟨d, .call { callee := .builtin .clear, args := #[x], argTypes := #[t] }, ty, pos, af, g⟩).run P w = .ok (.value (.tuple #[])) (w.setRow ob.b (laid (flat iE zs ++ ob.tl) i (List.replicate (zs.length - i) (Value.int .i64 0))).toArray) := by
        simp [execOp, resolve, invoke, builtin, evS, hx, e3]
      rw [e4]
      refine ⟨_, hw.setRow, ?_⟩
      simp only [oH, List.cons_append, List.nil_append, cells]
      congr 3
      rw [flat_append, flat_iE, flat_iE, flat_iE]
      unfold laid
      simp only [List.length_replicate, List.map_replicate, List.map_take]
      rw [List.take_append_of_le_length (by simp; omega), List.drop_append_of_le_length (by simp; omega), List.drop_of_length_le (by simp; omega)]
      simp
end

structure DS where
  i : Nat
  j : Nat
  zs : List Int
  A : Heap
def DelAt (p : Int → Bool) (l : List Int) (i j : Nat) (zs : List Int) : Prop := zs.length = l.length ∧ zs.take i = (l.take j).filter (fun x => !p x) ∧ zs.drop j = l.drop j ∧ i < j ∧ j ≤ l.length
theorem DelAt.no {p : Int → Bool} {l zs : List Int} {i j : Nat} {x : Int} (h : DelAt p l i j zs) (hx : l[j]? = some x) (hp : p x = true) : DelAt p l i (j + 1) zs := by
  obtain ⟨h1, h2, h3, h4, h5⟩ := h
  have := lt_of_get hx
  refine ⟨h1, by rw [take_snoc hx, List.filter_append, h2]; simp [hp], ?_, by omega, by omega⟩
  have := congrArg (List.drop 1) h3
  simpa [List.drop_drop] using this
theorem DelAt.yes {p : Int → Bool} {l zs : List Int} {i j : Nat} {x : Int} (h : DelAt p l i j zs) (hx : l[j]? = some x) (hp : p x = false) : DelAt p l (i + 1) (j + 1) (zs.set i x) := by
  obtain ⟨h1, h2, h3, h4, h5⟩ := h
  have hj := lt_of_get hx
  refine ⟨by simpa using h1, ?_, ?_, by omega, by omega⟩
  · have e1 : (zs.set i x)[i]? = some x := List.getElem?_set_self (by omega)
    rw [take_snoc hx, take_snoc e1, List.filter_append, ← h2, List.take_set_of_le (Nat.le_refl _)]; simp [hp]
  · rw [List.drop_set_of_lt (by omega)]
    have := congrArg (List.drop 1) h3
    simpa [List.drop_drop] using this
theorem DelAt.at_ {p : Int → Bool} {l zs : List Int} {i j : Nat} {x : Int} (h : DelAt p l i j zs) (hx : l[j]? = some x) : zs[j]? = some x := by
  obtain ⟨h1, h2, h3, h4, h5⟩ := h
  have e1 : (zs.drop j)[0]? = (l.drop j)[0]? := by rw [h3]
  simpa [List.getElem?_drop, hx] using e1
theorem own_cut {zs : List Int} {o : Own} {e : TypeId} {i : Nat} (ok : oOk iE zs o) (hi : i ≤ zs.length) : ∃ o', oOk iE (zs.take i) o' ∧ subV (oV o zs.length) 0 i 1 = oV o' (zs.take i).length ∧ oH iE e zs o = oH iE e (zs.take i) o' := by
  have hl : (zs.take i).length = i := by rw [List.length_take]; omega
  rw [hl]
  cases o with
  | none =>
    simp only [oOk] at ok
    subst ok
    simp at hi
    subst hi
    exact ⟨none, rfl, rfl, rfl⟩
  | some ob =>
    obtain ⟨h1, h2, h3⟩ := ok
    have hsz : iE.sz = 1 := rfl
    refine ⟨some ⟨ob.b, ob.c, flat iE (zs.drop i) ++ ob.tl⟩, ⟨by rw [hl]; show i ≤ ob.c; omega, h2, ?_⟩, ?_, ?_⟩
    · have h3' : zs.length * 1 + ob.tl.length = ob.c * 1 := h3
      show (zs.take i).length * 1 + (flat iE (zs.drop i) ++ ob.tl).length = ob.c * 1
      rw [hl]
      simp only [List.length_append, flat_iE, List.length_map, List.length_drop]
      omega
    · simp only [oV, subV]
      by_cases hc : ob.c = 0
      · rw [if_pos hc]; simp
      · rw [if_neg hc]; simp [Addr.add]
    · simp only [oH]
      rw [← List.append_assoc, ← flat_append, List.take_append_drop]

set_option maxRecDepth 10000 in
set_option maxHeartbeats 1000000 in
theorem DeleteFunc_K {w0 : World} {F A0 : Heap} {fv : Value} {l : List Int} {o : Own} (p : Int → Bool) (J : List Int → Heap → Prop) (ok : oOk iE l o) (hl : l.length ≤ 100000)
    (hy : ∀ k x A R, l[k]? = some x → J (l.take k) A → CallV Try.prog w0 fv [.int .i64 x] (A ++ R) (fun r H' => r = .bool (p x) ∧ ∃ A', J (l.take (k + 1)) A' ∧ H' = A' ++ R)) (h0 : J [] A0) :
    Call Try.prog w0 26 [oV o l.length, fv] (oH iE 3 l o ++ (A0 ++ F))
      (fun r H' => ∃ A' o', oOk iE (l.filter fun x => !p x) o' ∧ J l A' ∧ r = oV o' (l.filter fun x => !p x).length ∧ H' = oH iE 3 (l.filter fun x => !p x) o' ++ (A' ++ F)) := by
  refine Call.enter (n := 42) [(0, oV o l.length), (1, fv)] (by kernel_rfl) Try.func26 rfl rfl rfl ⟨rfl, rfl, trivial⟩ ?_
  refine byCode ?_
  (refine KL.v rfl (Val.assign rfl) ?_)
  refine KL.nil ?_
  refine byCode ?_
  (refine KL.v rfl (Val.move rfl) ?_)
  (refine KL.v rfl (Val.move rfl) ?_)
  (refine KL.callc rfl rfl byEvL fun T hT => ?_)
  refine (CallV.part (CallV.fn (IndexFunc_K (R := oH iE 3 l o ++ F) (A0 := A0) (l := l) p J (fun A => Sli.own byTakeL ok rfl) hl (fun k x A hx hJ => hy k x A _ hx hJ) h0)) byPart).mono ?_
  rintro _ _ ⟨A1, rfl, (⟨k0, x0, hx0, hp0, hn0, hJ0, rfl⟩ | ⟨hall, hJ, rfl⟩)⟩
  · refine hT _ _ ?_; clear hT; clear T
    (refine KL.v rfl (Val.assign rfl) ?_)
    refine KL.nil ?_
    have hk0 := lt_of_get hx0
    refine byCode ?_
    (refine KL.v rfl (Val.move rfl) ?_)
    (first | (refine KL.v rfl (Val.isT (Val.eql rfl rfl) byLt) ?_) | (refine KL.v rfl (Val.isF (Val.eql rfl rfl) byLt) ?_) | (refine KL.v rfl (Val.eql rfl rfl) ?_))
    refine KL.nil ?_
    refine byCode ?_
    (refine KL.v rfl (Val.move rfl) ?_)
    (first | (refine KL.v rfl (Val.add rfl rfl (by simp only [Go.Proofs.Ytfgmofaadcbokaa.lo, Go.Proofs.Ytfgmofaadcbokaa.hi]; omega)) ?_) | (refine KL.v rfl (Val.addW rfl rfl) ?_))
    (refine KL.v rfl (Val.assign rfl) ?_)
    refine KL.nil ?_
    refine byBlk ?_
    refine K.loop (σ := DS) (fun s => [(5, .int .i64 (s.i : Nat)), (6, .int .i64 (s.j : Nat)), (0, oV o s.zs.length), (1, fv)]) (fun s => oH iE 3 s.zs o ++ (s.A ++ F))
      (fun s => DelAt p l s.i s.j s.zs ∧ J (l.take s.j) s.A ∧ oOk iE s.zs o) (fun s => l.length - s.j) ⟨k0, k0 + 1, l, A1⟩ bySub byPart ⟨⟨rfl, by
        rw [take_snoc hx0, List.filter_append]
        have : (l.take k0).filter (fun x => !p x) = l.take k0 := List.filter_eq_self.2 fun y hy' => by simp [hn0 y hy']
        rw [this]; simp [hp0], rfl, by show k0 < k0 + 1; omega, by show k0 + 1 ≤ _; omega⟩, hJ0, ok⟩ ?_
    rintro ⟨i, j, zs, A⟩ ⟨hD, hJ, okz⟩
    dsimp only at hD hJ okz ⊢
    have hzl := hD.1
    have hij := hD.2.2.2.1
    have hjl := hD.2.2.2.2
    by_cases hlt : j < l.length
    · obtain ⟨x, hx⟩ := get_of_lt hlt
      have hxz := hD.at_ hx
      refine byCode ?_
      (refine KL.v rfl (Val.move rfl) ?_)
      (refine KL.v rfl (Val.move rfl) ?_)
      (first | (refine KL.v rfl (Val.lenSl rfl rfl bySli) ?_) | (refine KL.v rfl (Val.lenS rfl rfl) ?_))
      (first | (refine KL.v rfl (Val.isT (Val.lss rfl rfl) byLt) ?_) | (refine KL.v rfl (Val.isF (Val.lss rfl rfl) byLt) ?_) | (refine KL.v rfl (Val.lss rfl rfl) ?_))
      refine KL.nil ?_
      refine byCode ?_
      refine K.seq (K.block ?_)
      refine byCode ?_
      (refine KL.v rfl (Val.move rfl) ?_)
      (refine KL.v rfl (Val.move rfl) ?_)
      (first | (refine KL.v rfl (Val.idxSl rfl rfl rfl bySli rfl byLt) ?_) | (refine KL.v rfl (Val.idxSlZ rfl rfl rfl bySli rfl (by omega)) ?_) | (refine KL.v rfl (Val.indexS1 rfl rfl rfl rfl (by omega)) ?_) | (refine KL.v rfl (Val.indexS rfl rfl rfl rfl (by omega)) ?_) | (refine KL.v rfl (Val.indexSO rfl rfl rfl rfl (by omega)) ?_) | (refine KL.v rfl (Val.indexSG rfl rfl rfl rfl (by omega)) ?_))
      (refine KL.v rfl (Val.loadP rfl rfl bySee) ?_)
      (refine KL.v rfl (Val.assign rfl) ?_)
      refine KL.nil ?_
      refine byCode ?_
      (refine KL.v rfl (Val.move rfl) ?_)
      (refine KL.v rfl (Val.move rfl) ?_)
      (refine KL.callc rfl rfl byEvL fun T hT => ?_)
      refine (CallV.part (hy j x A (oH iE 3 zs o ++ F) hx hJ) byPart).mono ?_
      rintro _ _ ⟨rfl, A', hJ', rfl⟩
      cases hp : p x with
      | true =>
        refine hT _ _ ?_; clear hT; clear T
        (first | (refine KL.v rfl (Val.notT rfl) ?_) | (refine KL.v rfl (Val.notF rfl) ?_) | (refine KL.v rfl (Val.not rfl) ?_) | (refine KL.v rfl (Val.notB rfl) ?_))
        refine KL.nil ?_
        refine byCode ?_
        (refine KL.v rfl (Val.move rfl) ?_)
        (first | (refine KL.v rfl (Val.add rfl rfl (by simp only [Go.Proofs.Ytfgmofaadcbokaa.lo, Go.Proofs.Ytfgmofaadcbokaa.hi]; omega)) ?_) | (refine KL.v rfl (Val.addW rfl rfl) ?_))
        (refine KL.v rfl (Val.assign rfl) ?_)
        refine KL.nil ?_
        exact KE.again ⟨i, j + 1, zs, A'⟩ bySub byPart ⟨hD.no hx hp, hJ', okz⟩ (by show l.length - (j + 1) < l.length - j; omega)
      | false =>
        obtain ⟨y, hyi⟩ := get_of_lt (l := zs) (k := i) (by omega)
        refine hT _ _ ?_; clear hT; clear T
        (first | (refine KL.v rfl (Val.notT rfl) ?_) | (refine KL.v rfl (Val.notF rfl) ?_) | (refine KL.v rfl (Val.not rfl) ?_) | (refine KL.v rfl (Val.notB rfl) ?_))
        refine KL.nil ?_
        refine byCode ?_
        (refine KL.v rfl (Val.move rfl) ?_)
        (refine KL.v rfl (Val.move rfl) ?_)
        (refine KL.v rfl (Val.move rfl) ?_)
        (first | (refine KL.v rfl (Val.idxSl rfl rfl rfl bySli rfl byLt) ?_) | (refine KL.v rfl (Val.idxSlZ rfl rfl rfl bySli rfl (by omega)) ?_) | (refine KL.v rfl (Val.indexS1 rfl rfl rfl rfl (by omega)) ?_) | (refine KL.v rfl (Val.indexS rfl rfl rfl rfl (by omega)) ?_) | (refine KL.v rfl (Val.indexSO rfl rfl rfl rfl (by omega)) ?_) | (refine KL.v rfl (Val.indexSG rfl rfl rfl rfl (by omega)) ?_))
        (first | (refine KL.eN (Eff.stSl (x1 := x) rfl rfl rfl rfl byTakeL (by assumption) (by assumption) rfl rfl) ?_; rintro _ _ rfl) | (refine KL.eN (Eff.stSl0 (x1 := x) rfl rfl rfl rfl byTakeL (by assumption) (by assumption) rfl rfl) ?_; rintro _ _ rfl))
        refine KL.nil ?_
        refine byCode ?_
        (refine KL.v rfl (Val.move rfl) ?_)
        (first | (refine KL.v rfl (Val.add rfl rfl (by simp only [Go.Proofs.Ytfgmofaadcbokaa.lo, Go.Proofs.Ytfgmofaadcbokaa.hi]; omega)) ?_) | (refine KL.v rfl (Val.addW rfl rfl) ?_))
        (refine KL.v rfl (Val.assign rfl) ?_)
        refine KL.nil ?_
        refine byCode ?_
        (refine KL.v rfl (Val.move rfl) ?_)
        (first | (refine KL.v rfl (Val.add rfl rfl (by simp only [Go.Proofs.Ytfgmofaadcbokaa.lo, Go.Proofs.Ytfgmofaadcbokaa.hi]; omega)) ?_) | (refine KL.v rfl (Val.addW rfl rfl) ?_))
        (refine KL.v rfl (Val.assign rfl) ?_)
        refine KL.nil ?_
        exact KE.again ⟨i + 1, j + 1, zs.set i x, A'⟩ bySub byPart ⟨hD.yes hx hp, hJ', by simpa [oOk] using okz⟩ (by show l.length - (j + 1) < l.length - j; omega)
    · have hje : l.take j = l := List.take_of_length_le (by omega)
      obtain ⟨_, h2, _, _, _⟩ := hD
      rw [hje] at h2 hJ
      have hiz : i ≤ zs.length := by omega
      refine byCode ?_
      (refine KL.v rfl (Val.move rfl) ?_)
      (refine KL.v rfl (Val.move rfl) ?_)
      (first | (refine KL.v rfl (Val.lenSl rfl rfl bySli) ?_) | (refine KL.v rfl (Val.lenS rfl rfl) ?_))
      (first | (refine KL.v rfl (Val.isT (Val.lss rfl rfl) byLt) ?_) | (refine KL.v rfl (Val.isF (Val.lss rfl rfl) byLt) ?_) | (refine KL.v rfl (Val.lss rfl rfl) ?_))
      refine KL.nil ?_
      refine byCode ?_
      (refine KL.v rfl (Val.move rfl) ?_)
      (refine KL.v rfl (Val.move rfl) ?_)
      (first | (refine KL.v rfl (Val.sliceL rfl rfl rfl bySli rfl byLt) ?_) | (refine KL.v rfl (Val.sliceLZ rfl rfl rfl bySli rfl (by omega)) ?_))
      (refine KL.eN (Eff.clearI (zs := zs) (o := o) (i := i) rfl rfl rfl hiz byTakeL okz) ?_; rintro _ _ rfl)
      refine KL.nil ?_
      have hzs : (zs.take i ++ List.replicate (zs.length - i) 0).length = zs.length := by simp; omega
      have okc : oOk iE (zs.take i ++ List.replicate (zs.length - i) 0) o := by
        cases o with
        | none => simp only [oOk] at okz ⊢; subst okz; simp
        | some ob => simpa only [oOk, hzs] using okz
      obtain ⟨o', ok', hv, hH⟩ := own_cut (e := 3) okc (i := i) (by rw [hzs]; exact hiz)
      have htk : (zs.take i ++ List.replicate (zs.length - i) 0).take i = l.filter fun x => !p x := by
        rw [List.take_append_of_le_length (by simp; omega), List.take_take, Nat.min_self, h2]
      rw [htk] at ok' hv hH
      rw [hzs] at hv
      have hsl : Sli w0 (oH iE 3 (zs.take i ++ List.replicate (zs.length - i) 0) o ++ (A ++ F)) iE (oV o zs.length) (zs.take i ++ List.replicate (zs.length - i) 0) := Sli.own TakeL.head okc hzs.symm
      refine byCode ?_
      (refine KL.v rfl (Val.move rfl) ?_)
      (refine KL.v rfl (Val.move rfl) ?_)
      (refine KL.v rfl (Val.sliceH rfl rfl rfl bySli rfl byLt) ?_)
      (refine KL.v rfl (Val.assign rfl) ?_)
      refine KL.nil ?_
      refine byCode ?_
      rw [hH]
      exact KE.fin byMarks rfl byRes byPart ⟨A, o', ok', hJ, by exact hv, rfl⟩
  · refine hT _ _ ?_; clear hT; clear T
    (refine KL.v rfl (Val.assign rfl) ?_)
    refine KL.nil ?_
    refine byCode ?_
    (refine KL.v rfl (Val.move rfl) ?_)
    (first | (refine KL.v rfl (Val.isT (Val.eql rfl rfl) byLt) ?_) | (refine KL.v rfl (Val.isF (Val.eql rfl rfl) byLt) ?_) | (refine KL.v rfl (Val.eql rfl rfl) ?_))
    refine KL.nil ?_
    refine byCode ?_
    (refine KL.v rfl (Val.move rfl) ?_)
    (refine KL.v rfl (Val.assign rfl) ?_)
    refine KL.nil ?_
    refine byCode ?_
    have hf : l.filter (fun x => !p x) = l := List.filter_eq_self.2 fun y hy' => by simp [hall y hy']
    rw [hf]
    exact KE.fin byMarks rfl byRes byPart ⟨A1, o, ok, hJ, rfl, rfl⟩
end Go.Proofs.Ytfgmofaadcbokaa
