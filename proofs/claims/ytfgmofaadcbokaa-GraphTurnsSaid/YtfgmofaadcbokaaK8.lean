/- The K walker: maps whose keys are ints. -/
import Derived.Test.YtfgmofaadcbokaaKA
import Derived.Maps.RangeRun
namespace Go.Proofs.Ytfgmofaadcbokaa
open Go.RowKit
set_option linter.unusedVariables false
set_option linter.unusedSimpArgs false

/-- an entry: key, value, stamp -/
structure ME where
  k : Int
  v : Value
  n : Nat
def ment (e : ME) : MapEntry := ⟨.int .i64 e.k, e.v, e.n⟩
def mobj (ms : List ME) (c : Nat) : Obj := .map (ms.map ment).toArray c
def mfind (k : Int) : List ME → Nat → Option (Nat × Value)
  | [], _ => none
  | e :: r, i => if k == e.k then some (i, e.v) else mfind k r (i + 1)
def mget (ms : List ME) (k : Int) : Option Value := (mfind k ms 0).map (·.2)
/-- stamps below the clock, each once; keys each once -/
structure MOk (ms : List ME) (c : Nat) : Prop where
  lt : ∀ e ∈ ms, e.n < c
  nd : (ms.map (·.n)).Nodup
  kd : (ms.map (·.k)).Nodup
def mput (ms : List ME) (c : Nat) (k : Int) (v : Value) : List ME := match mfind k ms 0 with
  | some (i, _) => ms.modify i fun e => { e with v := v }
  | none => ms ++ [⟨k, v, c⟩]
def mclk (ms : List ME) (c : Nat) (k : Int) : Nat := match mfind k ms 0 with
  | some _ => c
  | none => c + 1

theorem findNow_int (k : Int) : ∀ (ms : List ME) (i : Nat), Instr.findNow (.int .i64) (.int .i64 k) (ms.map ment) i = some (mfind k ms i)
  | [], i => rfl
  | e :: r, i => by
    simp only [List.map_cons, Instr.findNow, mfind, ment, Instr.sameNow, if_true]
    cases h : (k == e.k)
    · simpa [h] using findNow_int k r (i + 1)
    · simp [h]
theorem mfind_shift (k : Int) : ∀ (ms : List ME) (i : Nat), mfind k ms i = (mfind k ms 0).map fun p => (p.1 + i, p.2)
  | [], i => rfl
  | e :: r, i => by
    simp only [mfind]
    cases h : (k == e.k)
    · simp only [Bool.false_eq_true, if_false]
      rw [mfind_shift k r (i + 1), mfind_shift k r (0 + 1)]
      cases mfind k r 0 <;> simp <;> omega
    · simp
theorem mfind_some {k : Int} : ∀ {ms : List ME} {i : Nat} {v : Value}, mfind k ms 0 = some (i, v) → ∃ e, ms[i]? = some e ∧ e.k = k ∧ e.v = v
  | [], i, v, h => by simp [mfind] at h
  | e :: r, i, v, h => by
    simp only [mfind] at h
    cases hk : (k == e.k)
    · rw [hk, mfind_shift] at h
      simp only [Bool.false_eq_true, if_false, Option.map_eq_some_iff] at h
      obtain ⟨⟨j, u⟩, hj, he⟩ := h
      simp at he
      obtain ⟨rfl, rfl⟩ := he
      obtain ⟨e', h1, h2, h3⟩ := mfind_some hj
      exact ⟨e', by simpa using h1, h2, h3⟩
    · rw [hk] at h
      simp at h
      obtain ⟨rfl, rfl⟩ := h
      exact ⟨e, rfl, (by simpa using hk : k = e.k).symm, rfl⟩
theorem mfind_none {k : Int} : ∀ {ms : List ME}, mfind k ms 0 = none → ∀ e ∈ ms, e.k ≠ k
  | [], _, e, he => by cases he
  | x :: r, h, e, he => by
    simp only [mfind] at h
    cases hk : (k == x.k)
    · rw [hk, mfind_shift] at h
      simp only [Bool.false_eq_true, if_false, Option.map_eq_none_iff] at h
      rcases List.mem_cons.1 he with rfl | he
      · intro e'; simp [e'] at hk
      · exact mfind_none h e he
    · rw [hk] at h; simp at h
theorem mget_iff {ms : List ME} {c : Nat} (h : MOk ms c) {k : Int} {v : Value} : mget ms k = some v ↔ ∃ e ∈ ms, e.k = k ∧ e.v = v := by
  unfold mget
  constructor
  · intro hm
    obtain ⟨⟨i, u⟩, hi, rfl⟩ := Option.map_eq_some_iff.1 hm
    obtain ⟨e, h1, h2, h3⟩ := mfind_some hi
    exact ⟨e, List.mem_of_getElem? h1, h2, h3⟩
  · rintro ⟨e, he, rfl, rfl⟩
    cases hf : mfind e.k ms 0 with
    | none => exact absurd rfl (mfind_none hf e he)
    | some p =>
      obtain ⟨i, u⟩ := p
      obtain ⟨e', h1, h2, h3⟩ := mfind_some hf
      have : e' = e := by
        obtain ⟨j, hj⟩ := List.getElem?_of_mem he
        have hi1 : (ms.map (·.k))[i]? = some e.k := by rw [List.getElem?_map, h1]; simp [h2]
        have hj1 : (ms.map (·.k))[j]? = some e.k := by rw [List.getElem?_map, hj]; rfl
        have hij : i = j := (List.getElem?_inj (List.getElem?_eq_some_iff.1 hi1).1 h.kd).1 (hi1.trans hj1.symm)
        subst hij
        rw [h1] at hj; exact Option.some.inj hj
      subst this
      simp [h3]
theorem mget_none {ms : List ME} {k : Int} : mget ms k = none ↔ ∀ e ∈ ms, e.k ≠ k := by
  unfold mget
  constructor
  · intro h; exact mfind_none (Option.map_eq_none_iff.1 h)
  · intro h
    cases hf : mfind k ms 0 with
    | none => rfl
    | some p =>
      obtain ⟨e, h1, h2, _⟩ := mfind_some (i := p.1) (v := p.2) hf
      exact absurd h2 (h e (List.mem_of_getElem? h1))
theorem MOk.nil : MOk [] 0 := ⟨by simp, by simp, by simp⟩
theorem modify_map {α β : Type} (f : α → β) (g : α → α) (h : ∀ x, f (g x) = f x) : ∀ (l : List α) (i : Nat), (l.modify i g).map f = l.map f
  | [], i => by simp
  | x :: l, 0 => by simp [h]
  | x :: l, i + 1 => by simpa using modify_map f g h l i
theorem MOk.put {ms : List ME} {c : Nat} (h : MOk ms c) (k : Int) (v : Value) : MOk (mput ms c k v) (mclk ms c k) := by
  unfold mput mclk
  cases hf : mfind k ms 0 with
  | some p =>
    obtain ⟨i, u⟩ := p
    simp only
    have e1 : (ms.modify i fun e => { e with v := v }).map (·.n) = ms.map (·.n) := modify_map (fun e : ME => e.n) (fun e => { e with v := v }) (fun _ => rfl) ms i
    have e2 : (ms.modify i fun e => { e with v := v }).map (·.k) = ms.map (·.k) := modify_map (fun e : ME => e.k) (fun e => { e with v := v }) (fun _ => rfl) ms i
    refine ⟨fun e he => ?_, by rw [e1]; exact h.nd, by rw [e2]; exact h.kd⟩
    have : e.n ∈ (ms.modify i fun e => { e with v := v }).map (·.n) := List.mem_map_of_mem he
    rw [e1] at this
    obtain ⟨e', he', hn⟩ := List.mem_map.1 this
    rw [← hn]; exact h.lt e' he'
  | none =>
    simp only
    refine ⟨fun e he => ?_, ?_, ?_⟩
    · rcases List.mem_append.1 he with he | he
      · exact Nat.lt_succ_of_lt (h.lt e he)
      · rw [List.mem_singleton.1 he]; exact Nat.lt_succ_self _
    · rw [List.map_append, List.nodup_append]
      refine ⟨h.nd, by simp, fun a ha b hb e => ?_⟩
      obtain ⟨e', he', rfl⟩ := List.mem_map.1 ha
      simp at hb
      have := h.lt e' he'
      omega
    · rw [List.map_append, List.nodup_append]
      refine ⟨h.kd, by simp, fun a ha b hb e => ?_⟩
      obtain ⟨e', he', rfl⟩ := List.mem_map.1 ha
      simp at hb
      exact mfind_none hf e' he' (e.trans hb)
theorem mget_put {ms : List ME} {c : Nat} (h : MOk ms c) (k : Int) (v : Value) (j : Int) : mget (mput ms c k v) j = if j = k then some v else mget ms j := by
  have hp := h.put k v
  have key : ∀ (j : Int) (u : Value), (∃ e ∈ mput ms c k v, e.k = j ∧ e.v = u) ↔ (if j = k then u = v else ∃ e ∈ ms, e.k = j ∧ e.v = u) := by
    intro j u
    unfold mput
    cases hf : mfind k ms 0 with
    | none =>
      simp only [List.mem_append, List.mem_singleton]
      by_cases hj : j = k
      · rw [if_pos hj]
        constructor
        · rintro ⟨e, he | he, h1, h2⟩
          · exact absurd (h1.trans hj) (mfind_none hf e he)
          · subst he; exact h2.symm
        · intro hu; exact ⟨⟨k, v, c⟩, .inr rfl, hj.symm, hu.symm⟩
      · rw [if_neg hj]
        constructor
        · rintro ⟨e, he | he, h1, h2⟩
          · exact ⟨e, he, h1, h2⟩
          · subst he; exact absurd h1.symm hj
        · rintro ⟨e, he, h1, h2⟩; exact ⟨e, .inl he, h1, h2⟩
    | some p =>
      obtain ⟨i, w⟩ := p
      obtain ⟨e0, h1, h2, h3⟩ := mfind_some hf
      simp only
      have at_ : ∀ q : Nat, (ms.modify i fun e => { e with v := v })[q]? = if i = q then (ms[q]?).map (fun e => { e with v := v }) else ms[q]? := fun q => by
        rw [List.getElem?_modify]; by_cases hq : i = q <;> simp [hq]
      have uniq : ∀ (q : Nat) (e : ME), ms[q]? = some e → e.k = k → q = i := fun q e hq he => by
        have hi1 : (ms.map (·.k))[i]? = some k := by rw [List.getElem?_map, h1]; simp [h2]
        have hj1 : (ms.map (·.k))[q]? = some k := by rw [List.getElem?_map, hq]; simp [he]
        exact (List.getElem?_inj (List.getElem?_eq_some_iff.1 hj1).1 h.kd).1 (hj1.trans hi1.symm)
      by_cases hj : j = k
      · rw [if_pos hj]
        constructor
        · rintro ⟨e, he, g1, g2⟩
          obtain ⟨q, hq⟩ := List.getElem?_of_mem he
          rw [at_] at hq
          by_cases hiq : i = q
          · rw [if_pos hiq] at hq
            obtain ⟨e', _, rfl⟩ := Option.map_eq_some_iff.1 hq
            exact g2.symm
          · rw [if_neg hiq] at hq
            exact absurd (uniq q e hq (g1.trans hj)).symm hiq
        · intro hu
          refine ⟨{ e0 with v := v }, List.mem_of_getElem? (i := i) (by rw [at_, if_pos rfl, h1]; rfl), h2.trans hj.symm, hu.symm⟩
      · rw [if_neg hj]
        constructor
        · rintro ⟨e, he, g1, g2⟩
          obtain ⟨q, hq⟩ := List.getElem?_of_mem he
          rw [at_] at hq
          by_cases hiq : i = q
          · rw [if_pos hiq, ← hiq, h1] at hq
            simp at hq
            subst hq
            exact absurd (g1.symm.trans h2) hj
          · rw [if_neg hiq] at hq
            exact ⟨e, List.mem_of_getElem? hq, g1, g2⟩
        · rintro ⟨e, he, g1, g2⟩
          obtain ⟨q, hq⟩ := List.getElem?_of_mem he
          have hiq : i ≠ q := fun e' => by subst e'; rw [h1] at hq; cases hq; exact hj (g1.symm.trans h2)
          exact ⟨e, List.mem_of_getElem? (i := q) (by rw [at_, if_neg hiq]; exact hq), g1, g2⟩
  apply Option.ext
  intro u
  by_cases hj : j = k
  · have := (mget_iff hp (k := j) (v := u)).trans (key j u)
    rw [if_pos hj] at this
    rw [if_pos hj, this]
    exact ⟨fun h => by rw [h], fun h => (Option.some.inj h).symm⟩
  · have := (mget_iff hp (k := j) (v := u)).trans (key j u)
    rw [if_neg hj] at this
    rw [if_neg hj, this]
    exact (mget_iff h).symm

section
variable {P : Program} {w0 : World} {H F : Heap} {m : Slots} {ty : TypeId} {ms : List ME} {c b : Nat} {k : Int}
/-- a map's key is an int; its value's type -/
def mapEl (P : Program) (t : TypeId) : Option TypeId := match P.underlying t with
  | some (.map kt et) => match P.underlying kt with
    | some (.int .i64) => some et
    | _ => none
  | _ => none
theorem mapEl_spec {t et : TypeId} (h : mapEl P t = some et) : ∃ kt, P.underlying t = some (.map kt et) ∧ P.underlying kt = some (.int .i64) := by
  unfold mapEl at h
  split at h
  · rename_i kt et' h1
    split at h
    · rename_i h2; cases h; exact ⟨kt, h1, h2⟩
    · cases h
  · cases h
theorem run_checkKeyN {w : World} {e : Bool} {kt : TypeId} (hk : P.underlying kt = some (.int .i64)) (n : Nat) : (Instr.checkKey e (n + 1) kt (.int .i64 k)).run P w = .ok () w := by
  simp [Instr.checkKey, run_und w hk]
theorem run_checkKey {w : World} {e : Bool} {kt : TypeId} (hk : P.underlying kt = some (.int .i64)) : (Instr.checkKey e 10000 kt (.int .i64 k)).run P w = .ok () w := run_checkKeyN hk 9999
theorem sameBits_int (n : Nat) : Instr.sameBits n (.int .i64 k) (.int .i64 k) = true := by cases n <;> simp [Instr.sameBits]
theorem run_findKey {w : World} {kt : TypeId} (hk : P.underlying kt = some (.int .i64)) : (Instr.findKey kt (.int .i64 k) (ms.map ment)).run P w = .ok (mfind k ms 0) w := by
  simp [Instr.findKey, run_und w hk, findNow_int]
theorem run_getMap {w : World} (h : w.heap[b]? = some (mobj ms c)) : (getObj b).run P w = .ok (mobj ms c) w := by simp only [getObj, Sem.run, h]; rfl
theorem Eff.makeMap {t : TypeId} : Eff P w0 H m ty (.makeMap t none) (fun v H' => ∃ b, v = .map (some b) ∧ H' = (b, mobj [] 0) :: H) :=
  ⟨rfl, fun w d pos af g hw => by
    have e : (execOp (evS m) ⟨d, .makeMap t none, ty, pos, af, g⟩).run P w = .ok (.value (.map (some w.heap.size))) (w.alloc (mobj [] 0)) := by
      simp [execOp, Instr.makeMap, newObj, Sem.run, Bind.bind, Sem.bind, Pure.pure, mobj]
    rw [e]
    exact ⟨_, hw.alloc _, _, rfl, rfl⟩⟩
theorem Val.lookS {t et : TypeId} {x y : Operand} {v : Value} (hx : evO m x = some (.map (some b))) (hy : evO m y = some (.int .i64 k)) (ht : mapEl P t = some et) (hT : Take (b, mobj ms c) H F) (hg : mget ms k = some v) :
    Val P w0 H m ty (.lookup t x y false) v :=
  ⟨by simp [covOp, cov, hx, hy], fun w d pos af g hw => by
    obtain ⟨kt, h1, h2⟩ := mapEl_spec ht
    have hb := run_getMap (P := P) ((hw.take hT).get _ (.head _))
    obtain ⟨⟨i, u⟩, hi, hu⟩ := Option.map_eq_some_iff.1 hg
    simp at hu
    subst hu
    have hf := run_findKey (P := P) (w := w) (ms := ms) (k := k) h2
    rw [hi] at hf
    simp [execOp, evS, hx, hy, Instr.lookup, run_und w h1, hb, mobj, run_checkKey h2, hf]⟩
theorem Val.look0 {t et : TypeId} {x y : Operand} {z : Value} (hx : evO m x = some (.map (some b))) (hy : evO m y = some (.int .i64 k)) (ht : mapEl P t = some et) (hz : (P.info? et).map (·.zero) = some (some z)) (hT : Take (b, mobj ms c) H F) (hg : mget ms k = none) :
    Val P w0 H m ty (.lookup t x y false) z :=
  ⟨by simp [covOp, cov, hx, hy], fun w d pos af g hw => by
    obtain ⟨kt, h1, h2⟩ := mapEl_spec ht
    have hb := run_getMap (P := P) ((hw.take hT).get _ (.head _))
    have hi := Option.map_eq_none_iff.1 hg
    have hf := run_findKey (P := P) (w := w) (ms := ms) (k := k) h2
    rw [hi] at hf
    obtain ⟨i, hi1, hi2⟩ := Option.map_eq_some_iff.1 hz
    have hzv : (zeroValue et).run P w = .ok z w := by simp [zeroValue, typeInfo, program, hi1, hi2, Sem.run, Bind.bind, Sem.bind, Pure.pure]
    simp [execOp, evS, hx, hy, Instr.lookup, run_und w h1, hb, mobj, run_checkKey h2, hf, hzv]⟩
theorem ment_modify {i : Nat} (v : Value) (hv : ∀ e, ms[i]? = some e → e.k = k) : ((ms.map ment).modify i fun e => { e with key := .int .i64 k, val := v }) = (ms.modify i fun e => { e with v := v }).map ment := by
  apply List.ext_getElem?
  intro q
  rw [List.getElem?_modify, List.getElem?_map, List.getElem?_map, List.getElem?_modify]
  by_cases hq : i = q
  · subst hq
    cases hm : ms[i]? with
    | none => simp
    | some e => simp [ment, (hv e hm).symm]
  · simp [hq]
theorem Eff.mapUp {t et : TypeId} {x y z : Operand} {v : Value} (hx : evO m x = some (.map (some b))) (hy : evO m y = some (.int .i64 k)) (hz : evO m z = some v) (ht : mapEl P t = some et) (hT : Take (b, mobj ms c) H F) :
    Eff P w0 H m ty (.mapUpdate t x y z) (fun _ H' => H' = (b, mobj (mput ms c k v) (mclk ms c k)) :: F) :=
  ⟨by simp [covOp, cov, hx, hy, hz], fun w d pos af g hw => by
    obtain ⟨kt, h1, h2⟩ := mapEl_spec ht
    have hw' := hw.take hT
    have hb0 := hw'.get _ (.head _)
    have hb := run_getMap (P := P) hb0
    have hf := run_findKey (P := P) (w := w) (ms := ms) (k := k) h2
    have hset : ∀ o, (setObj b o).run P w = .ok () (w.putObj b o) := fun o => by simp only [setObj, Sem.run, World.putObj, hb0]; rfl
    have e : (execOp (evS m) ⟨d, .mapUpdate t x y z, ty, pos, af, g⟩).run P w = .ok .skip (w.putObj b (mobj (mput ms c k v) (mclk ms c k))) := by
      cases hm : mfind k ms 0 with
      | none =>
        rw [hm] at hf
        simp [execOp, evS, hx, hy, hz, Instr.mapUpdate, run_und w h1, hb, mobj, run_checkKey h2, hf, hset, mput, mclk, hm, ment]
      | some p =>
        obtain ⟨i, u⟩ := p
        rw [hm] at hf
        obtain ⟨e0, g1, g2, g3⟩ := mfind_some hm
        have hmod := ment_modify (ms := ms) (i := i) (k := k) v (fun e he => by rw [g1] at he; cases he; exact g2)
        simp [execOp, evS, hx, hy, hz, Instr.mapUpdate, run_und w h1, hb, mobj, run_checkKey h2, hf, hset, mput, mclk, hm, Instr.keyThatStays, g1, ment, g2, sameBits_int, hmod]
    rw [e]
    exact ⟨_, hw'.putObj _, rfl⟩⟩

/-! ## a range over a map -/
/-- the iterator: these entries have come -/
def itO (b c : Nat) (pk : List ME) : Obj := .mapIter (some b) c (pk.map (·.n)).toArray c
theorem Eff.rangeM {t et : TypeId} {x : Operand} (hx : evO m x = some (.map (some b))) (ht : mapEl P t = some et) (hT : Take (b, mobj ms c) H F) :
    Eff P w0 H m ty (.range t x) (fun v H' => ∃ r, v = .pointer (some ⟨r, 0, none⟩) ∧ H' = (r, itO b c []) :: H) :=
  ⟨by simp [covOp, cov, hx], fun w d pos af g hw => by
    obtain ⟨kt, h1, h2⟩ := mapEl_spec ht
    have hb := run_getMap (P := P) ((hw.take hT).get _ (.head _))
    have e : (execOp (evS m) ⟨d, .range t x, ty, pos, af, g⟩).run P w = .ok (.value (.pointer (some ⟨w.heap.size, 0, none⟩))) (w.alloc (itO b c [])) := by
      simp [execOp, evS, hx, Instr.range, run_und w h1, hb, mobj, itO]
    rw [e]
    exact ⟨_, hw.alloc _, _, rfl, rfl⟩⟩
theorem Eff.nextM {x : Operand} {r : Nat} {pk : List ME} {F' : Heap} (hx : evO m x = some (.pointer (some ⟨r, 0, none⟩))) (hR : Take (r, itO b c pk) H F) (hT : Take (b, mobj ms c) F F') (ok : MOk ms c) :
    Eff P w0 H m ty (.next x false) (fun v H' => (v = .tuple #[.bool false] ∧ (∀ e ∈ ms, e.n ∈ pk.map (·.n)) ∧ H' = (r, itO b c pk) :: F) ∨
      ∃ e ∈ ms, e.n ∉ pk.map (·.n) ∧ v = .tuple #[.bool true, .int .i64 e.k, e.v] ∧ H' = (r, itO b c (pk ++ [e])) :: F) :=
  ⟨by simp [covOp, cov, hx], fun w d pos af g hw => by
    have hw' := hw.take hR
    have hr := hw'.get _ (.head _)
    have hb := (hw'.tl.take hT).get _ (.head _)
    rcases run_next_at (P := P) w ty r b c c (pk.map (fun e : ME => e.n)).toArray (ms.map ment).toArray c hr hb (fun y hy => by
      simp at hy
      obtain ⟨e, he, rfl⟩ := hy
      exact ok.lt e he) (Nat.le_refl _) with ⟨h0, hrun⟩ | ⟨y, hy, w1, hal, hrun⟩
    · have e : (execOp (evS m) ⟨d, .next x false, ty, pos, af, g⟩).run P w = .ok (.value (.tuple #[.bool false])) w := by simp [execOp, evS, hx, hrun]
      rw [e]
      refine ⟨_, hw', .inl ⟨rfl, fun e he => ?_, rfl⟩⟩
      have h0' : leftOf (ms.map ment).toArray (pk.map (·.n)).toArray = #[] := Array.eq_empty_of_size_eq_zero h0
      unfold leftOf at h0'
      rw [Array.filter_eq_empty_iff] at h0'
      have := h0' (ment e) (by simp; exact ⟨e, he, rfl⟩)
      simpa [ment] using this
    · have e : (execOp (evS m) ⟨d, .next x false, ty, pos, af, g⟩).run P w = .ok (.value (.tuple #[.bool true, y.key, y.val])) (ChangeMaps.setBlock w1 r (.mapIter (some b) c ((pk.map (·.n)).toArray.push y.born) c)) := by simp [execOp, evS, hx, hrun]
      rw [e]
      unfold leftOf at hy
      simp at hy
      obtain ⟨⟨e0, he0, rfl⟩, hn⟩ := hy
      refine ⟨_, ?_, .inr ⟨e0, he0, by simpa [ment] using hn, rfl, rfl⟩⟩
      have hw1 : HF w0 ((r, itO b c pk) :: F) w1 := by
        rcases hal with rfl | rfl
        · exact hw'
        · exact hw'.drew
      have := hw1.putObj (.mapIter (some b) c ((pk.map (·.n)).toArray.push e0.n) c)
      have e2 : itO b c (pk ++ [e0]) = .mapIter (some b) c ((pk.map (·.n)).toArray.push e0.n) c := by simp [itO]
      rw [e2]
      exact this⟩
theorem Val.entryM {x : Operand} {r : Nat} {pk : List ME} {F' : Heap} {e : ME} (hx : evO m x = some (.pointer (some ⟨r, 0, none⟩))) (hR : Take (r, itO b c (pk ++ [e])) H F) (hT : Take (b, mobj ms c) F F') (ok : MOk ms c) (he : e ∈ ms) :
    Val P w0 H m ty (.entry x) (.tuple #[.int .i64 e.k, e.v]) :=
  ⟨by simp [covOp, cov, hx], fun w d pos af g hw => by
    have hw' := hw.take hR
    have hr := hw'.get _ (.head _)
    have hb := (hw'.tl.take hT).get _ (.head _)
    have e2 : itO b c (pk ++ [e]) = .mapIter (some b) c ((pk.map (·.n)).toArray.push (ment e).born) c := by simp [itO, ment]
    rw [e2] at hr
    have := run_entry_at (P := P) w r b c (pk.map (fun e : ME => e.n)).toArray (ms.map ment).toArray c (ment e) hr hb (by simp; exact ⟨e, he, rfl⟩) (by simpa [ment, Function.comp_def] using ok.nd)
    simp [execOp, evS, hx, this, ment]⟩
end
end Go.Proofs.Ytfgmofaadcbokaa
