/- The walker and the contracts that the law needs, part 13. -/
import Derived.Maps.RangeRun
import Derived.Test.YtalholahapcpkaaGreatDoorJ12
namespace Go.Proofs.YtalholahapcpkaaGreatDoor
open Go.RowKit
set_option linter.unusedVariables false
set_option linter.unusedSimpArgs false
structure ME where
 k : Int
 v : Value
 n : Nat
def ment (e : ME) : MapEntry := ⟨.int .i64 e.k, e.v, e.n⟩
def mobj (ms : List ME) (c : Nat) : Obj := .map (ms.map ment).toArray c
def mfind (k : Int) : List ME → Nat → Option (Nat × Value)
 | [], _ => none
 | e :: r, i => if k == e.k then some (i, e.v) else mfind k r (i + 1)
structure MOk (ms : List ME) (c : Nat) : Prop where
 lt : ∀ e ∈ ms, e.n < c
 nd : (ms.map (·.n)).Nodup
 kd : (ms.map (·.k)).Nodup
def mput (ms : List ME) (c : Nat) (k : Int) (v : Value) : List ME := match mfind k ms 0 with
 | some (i, _) => ms.modify i fun e => { e with v := v }
 | none => ms ++ [⟨k, v, c⟩]
def mclk (ms : List ME) (c : Nat) (k : Int) : Nat := match mfind k ms 0 with
 | some _ => c
 | none => c + 1
theorem mfind_shift (k : Int) : ∀ (ms : List ME) (i : Nat), mfind k ms i = (mfind k ms 0).map fun p => (p.1 + i, p.2)
 | [], i => rfl
 | e :: r, i => by
  simp only [mfind]
  cases h : (k == e.k)
  ·simp only [Bool.false_eq_true, if_false]
   rw [mfind_shift k r (i + 1), mfind_shift k r (0 + 1)]
   cases mfind k r 0 <;> simp <;> omega
  ·simp
theorem mfind_none {k : Int} : ∀ {ms : List ME}, mfind k ms 0 = none → ∀ e ∈ ms, e.k ≠ k
 | [], _, e, he => by cases he
 | x :: r, h, e, he => by
  simp only [mfind] at h
  cases hk : (k == x.k)
  ·rw [hk, mfind_shift] at h
   simp only [Bool.false_eq_true, if_false, Option.map_eq_none_iff] at h
   rcases List.mem_cons.1 he with rfl | he
   ·intro e'; simp [e'] at hk
   ·exact mfind_none h e he
  ·rw [hk] at h; simp at h
theorem MOk.nil : MOk [] 0 := ⟨by simp, by simp, by simp⟩
theorem modify_map {α β : Type} (f : α → β) (g : α → α) (h : ∀ x, f (g x) = f x) : ∀ (l : List α) (i : Nat), (l.modify i g).map f = l.map f
 | [], i => by simp
 | x :: l, 0 => by simp [h]
 | x :: l, i + 1 => by simpa using modify_map f g h l i
theorem MOk.put {ms : List ME} {c : Nat} (h : MOk ms c) (k : Int) (v : Value) : MOk (mput ms c k v) (mclk ms c k) := by
 unfold mput mclk
 cases hf : mfind k ms 0 with
 | some p =>
  obtain ⟨i, u⟩ := p
  simp only
  have e1 : (ms.modify i fun e => { e with v := v }).map (·.n) = ms.map (·.n) := modify_map (fun e : ME => e.n) (fun e => { e with v := v }) (fun _ => rfl) ms i
  have e2 : (ms.modify i fun e => { e with v := v }).map (·.k) = ms.map (·.k) := modify_map (fun e : ME => e.k) (fun e => { e with v := v }) (fun _ => rfl) ms i
  refine ⟨fun e he => ?_, by rw [e1]; exact h.nd, by rw [e2]; exact h.kd⟩
  have : e.n ∈ (ms.modify i fun e => { e with v := v }).map (·.n) := List.mem_map_of_mem he
  rw [e1] at this
  obtain ⟨e', he', hn⟩ := List.mem_map.1 this
  rw [← hn]; exact h.lt e' he'
 | none =>
  simp only
  refine ⟨fun e he => ?_, ?_, ?_⟩
  ·rcases List.mem_append.1 he with he | he
   ·exact Nat.lt_succ_of_lt (h.lt e he)
   ·rw [List.mem_singleton.1 he]; exact Nat.lt_succ_self _
  ·rw [List.map_append, List.nodup_append]
   refine ⟨h.nd, by simp, fun a ha b hb e => ?_⟩
   obtain ⟨e', he', rfl⟩ := List.mem_map.1 ha
   simp at hb
   have := h.lt e' he'
   omega
  ·rw [List.map_append, List.nodup_append]
   refine ⟨h.kd, by simp, fun a ha b hb e => ?_⟩
   obtain ⟨e', he', rfl⟩ := List.mem_map.1 ha
   simp at hb
   exact mfind_none hf e' he' (e.trans hb)
section
variable {P : Program} {w0 : World} {H F : Heap} {m : Slots} {ty : TypeId} {ms : List ME} {c b : Nat} {k : Int}
theorem Eff.makeMap {t : TypeId} : Eff P w0 H m ty (.makeMap t none) (fun v H' => ∃ b, v = .map (some b) ∧ H' = (b, mobj [] 0) :: H) :=
 ⟨rfl, fun w d pos af g hw => by
  have e : (execOp (evS m) ⟨d, .makeMap t none, ty, pos, af, g⟩).run P w = .ok (.value (.map (some w.heap.size))) (w.alloc (mobj [] 0)) := by
   simp [execOp, Instr.makeMap, newObj, Sem.run, Bind.bind, Sem.bind, Pure.pure, mobj]
  rw [e]
  exact ⟨_, hw.alloc _, _, rfl, rfl⟩⟩
end
open Go.RowKit
section
variable {P : Program} {w0 : World} {ro : Option Nat} {n : Nat} {Q : Exit → Act → World → Prop} {ds : List Deferred} {m : Slots} {H : Heap}
theorem K.loopT {σ : Type} {c : Code} (keep : Slots) (M : σ → Slots → Slots) (Hs : σ → Heap) (I : σ → Prop) (μ : σ → Nat) (s0 : σ) (hs : subsE m (M s0 keep)) (hp : Part H (Hs s0)) (hi : I s0)
  (round : ∀ s, I s → K P w0 ro n c (Exit.then (RoundK w0 n ds (fun s => M s keep) Hs I μ (μ s)) Q) ds (M s keep) (Hs s)) : K P w0 ro n (.loop c) Q ds m H :=
 K.loop (fun s => M s keep) Hs I μ s0 hs hp hi round
theorem K.cutT {σ : Type} {x y : Code} (keep : Slots) (hk : subsE m keep) (M : σ → Slots → Slots) (Hs : σ → Heap) (I : σ → Prop) (h1 : K P w0 ro n x (Exit.then (MeetsK w0 n ds (fun s => M s keep) Hs I) Q) ds m H) (h2 : ∀ s, I s → K P w0 ro n y Q ds (M s keep) (Hs s)) : K P w0 ro n (.seq x y) Q ds m H :=
 K.cut (fun s => M s keep) Hs I h1 h2
theorem KD.fork3 {ops : Array Oper} {R : Heap} {ord : Ord} {i x y z : Nat} {ox oy oz : Oper} {o1 o2 o3 : Ord} (hr : Region.ready .any ops (lst ops.size (nums ((i, 3) :: ord))) = [x, y, z]) (hx : ops[x]? = some ox) (hy : ops[y]? = some oy) (hz : ops[z]? = some oz)
  (f1 : forkB ops ((i, 3) :: ord) x o1 = true) (f2 : forkB ops ((i, 3) :: ord) y o2 = true) (f3 : forkB ops ((i, 3) :: ord) z o3 = true) (h1 : ActK P w0 ro n ops R o1 Q ds m H ox) (h2 : ActK P w0 ro n ops R o2 Q ds m H oy) (h3 : ActK P w0 ro n ops R o3 Q ds m H oz) : KD P w0 ro n ops R ((i, 3) :: ord) Q ds m H :=
 KD.forks [x, y, z] hr (by simp) fun q hq => by
  simp only [List.mem_cons, List.not_mem_nil, or_false] at hq
  rcases hq with rfl | rfl | rfl
  ·exact ⟨ox, o1, hx, f1, h1⟩
  ·exact ⟨oy, o2, hy, f2, h2⟩
  ·exact ⟨oz, o3, hz, f3, h3⟩
theorem Call.enter0 {f : FuncId} {c : Code} {fn : Func} {R : Post} (hent : enters P f = true) (hf : P.funcs[f]? = some fn) (hb : fn.body = some c) (hn : fn.ntmps = n) (hsz : Nat.ble 0 n = true)
  (h : K P w0 none n c (bodyPostM (fen none) 0 P fn (Ends w0 R)) [] [] H) : Call P w0 f [] H R := Call.enter [] hent hf hb hn hsz trivial h
theorem Call.enter1 {f : FuncId} {c : Code} {fn : Func} {R : Post} {a0 : Value} (hent : enters P f = true) (hf : P.funcs[f]? = some fn) (hb : fn.body = some c) (hn : fn.ntmps = n) (hsz : Nat.ble 1 n = true)
  (h : K P w0 none n c (bodyPostM (fen none) 0 P fn (Ends w0 R)) [] [(0, a0)] H) : Call P w0 f [a0] H R := Call.enter [(0, a0)] hent hf hb hn hsz ⟨rfl, trivial⟩ h
theorem Call.enter2 {f : FuncId} {c : Code} {fn : Func} {R : Post} {a0 a1 : Value} (hent : enters P f = true) (hf : P.funcs[f]? = some fn) (hb : fn.body = some c) (hn : fn.ntmps = n) (hsz : Nat.ble 2 n = true)
  (h : K P w0 none n c (bodyPostM (fen none) 0 P fn (Ends w0 R)) [] [(0, a0), (1, a1)] H) : Call P w0 f [a0, a1] H R := Call.enter [(0, a0), (1, a1)] hent hf hb hn hsz ⟨rfl, rfl, trivial⟩ h
theorem Call.enter3 {f : FuncId} {c : Code} {fn : Func} {R : Post} {a0 a1 a2 : Value} (hent : enters P f = true) (hf : P.funcs[f]? = some fn) (hb : fn.body = some c) (hn : fn.ntmps = n) (hsz : Nat.ble 3 n = true)
  (h : K P w0 none n c (bodyPostM (fen none) 0 P fn (Ends w0 R)) [] [(0, a0), (1, a1), (2, a2)] H) : Call P w0 f [a0, a1, a2] H R := Call.enter [(0, a0), (1, a1), (2, a2)] hent hf hb hn hsz ⟨rfl, rfl, rfl, trivial⟩ h
theorem Call.enter4 {f : FuncId} {c : Code} {fn : Func} {R : Post} {a0 a1 a2 a3 : Value} (hent : enters P f = true) (hf : P.funcs[f]? = some fn) (hb : fn.body = some c) (hn : fn.ntmps = n) (hsz : Nat.ble 4 n = true)
  (h : K P w0 none n c (bodyPostM (fen none) 0 P fn (Ends w0 R)) [] [(0, a0), (1, a1), (2, a2), (3, a3)] H) : Call P w0 f [a0, a1, a2, a3] H R := Call.enter [(0, a0), (1, a1), (2, a2), (3, a3)] hent hf hb hn hsz ⟨rfl, rfl, rfl, rfl, trivial⟩ h
theorem Call.enter5 {f : FuncId} {c : Code} {fn : Func} {R : Post} {a0 a1 a2 a3 a4 : Value} (hent : enters P f = true) (hf : P.funcs[f]? = some fn) (hb : fn.body = some c) (hn : fn.ntmps = n) (hsz : Nat.ble 5 n = true)
  (h : K P w0 none n c (bodyPostM (fen none) 0 P fn (Ends w0 R)) [] [(0, a0), (1, a1), (2, a2), (3, a3), (4, a4)] H) : Call P w0 f [a0, a1, a2, a3, a4] H R := Call.enter [(0, a0), (1, a1), (2, a2), (3, a3), (4, a4)] hent hf hb hn hsz ⟨rfl, rfl, rfl, rfl, rfl, trivial⟩ h
theorem Call.enter6 {f : FuncId} {c : Code} {fn : Func} {R : Post} {a0 a1 a2 a3 a4 a5 : Value} (hent : enters P f = true) (hf : P.funcs[f]? = some fn) (hb : fn.body = some c) (hn : fn.ntmps = n) (hsz : Nat.ble 6 n = true)
  (h : K P w0 none n c (bodyPostM (fen none) 0 P fn (Ends w0 R)) [] [(0, a0), (1, a1), (2, a2), (3, a3), (4, a4), (5, a5)] H) : Call P w0 f [a0, a1, a2, a3, a4, a5] H R := Call.enter [(0, a0), (1, a1), (2, a2), (3, a3), (4, a4), (5, a5)] hent hf hb hn hsz ⟨rfl, rfl, rfl, rfl, rfl, rfl, trivial⟩ h
end
open Go.RowKit
section
variable {P : Program} {w0 : World} {H F : Heap} {m : Slots} {ty : TypeId} {α : Type} {E : Enc α}
theorem flat_take_mul (xs : List α) (i : Nat) (hi : i ≤ xs.length) (tl : List Value) : (flat E xs ++ tl).take (i * E.sz) = flat E (xs.take i) := by
 have e : flat E xs = flat E (xs.take i) ++ flat E (xs.drop i) := by rw [← flat_append, List.take_append_drop]
 have hl : (flat E (xs.take i)).length = i * E.sz := by rw [flat_len, List.length_take, Nat.min_eq_left hi]
 rw [e, List.append_assoc, ← hl, List.take_left']
 rfl
theorem flat_drop_mul (xs : List α) (i : Nat) (hi : i ≤ xs.length) (tl : List Value) : (flat E xs ++ tl).drop (i * E.sz) = flat E (xs.drop i) ++ tl := by
 have e : flat E xs = flat E (xs.take i) ++ flat E (xs.drop i) := by rw [← flat_append, List.take_append_drop]
 have hl : (flat E (xs.take i)).length = i * E.sz := by rw [flat_len, List.length_take, Nat.min_eq_left hi]
 rw [e, List.append_assoc, ← hl, List.drop_left']
 rfl
theorem sub_all (o : Own) (n z : Nat) (h : o = none → n = 0) : subV (oV o n) 0 n z = oV o n := by
 cases o with
 | none => simp only [oV, subV, h rfl]; simp
 | some ob =>
  simp only [oV, subV]
  by_cases hc : ob.c = 0
  ·simp [hc]
  ·simp [hc, Addr.add]
theorem Part.lit {b c : Nat} {e : TypeId} {l : List Value} {xs : List α} {F' H' : Heap} (hl : l = flat E xs) (h : Part F' H') : Part ((b, cells l e) :: F') (oH E e xs (some ⟨b, c, []⟩) ++ H') := by
 subst hl
 rw [oH_lit]
 exact Part.take Take.head h
def copied (xs ys : List α) (i : Nat) : List α := xs.take i ++ ys.take (min ys.length (xs.length - i)) ++ xs.drop (i + min ys.length (xs.length - i))
theorem Eff.copyS {x y : Operand} {t t2 e : TypeId} {xs ys : List α} {o : Own} {i : Nat} {vd v2 : Value} (hx : evO m x = some vd) (hvd : vd = subV (oV o xs.length) i xs.length E.sz) (hy : evO m y = some v2) (ht : sliceElem P t = some e) (hz : szOf P e = some E.sz)
  (hi : i ≤ xs.length) (hT : TakeL (oH E e xs o) H F) (ok : oOk E xs o) (hs : Sli w0 H E v2 ys) :
  Eff P w0 H m ty (.call { callee := .builtin .copy, args := #[x, y], argTypes := #[t, t2] }) (fun v H' => v = .int .i64 ((min ys.length (xs.length - i) : Nat) : Int) ∧ oOk E (copied xs ys i) o ∧ H' = oH E e (copied xs ys i) o ++ F) := by
 refine ⟨by simp [covOp, covCall, cov, hx, hy], fun w d pos af g hw0 => ?_⟩
 have hw := hw0.takeL hT
 have hsw := hs w hw0
 have hu : P.underlying t = some (.slice e) := by unfold sliceElem at ht; split at ht <;> simp_all
 obtain ⟨a, c, rfl, h1, h2, h3⟩ := hsw.shape
 have hq : ∃ inf, P.info? e = some inf ∧ inf.size = E.sz := by
  unfold szOf at hz; exact Option.map_eq_some_iff.1 hz
 obtain ⟨inf, hq1, hq2⟩ := hq
 by_cases hn : min ys.length (xs.length - i) = 0
 ·have e1 : copied xs ys i = xs := by simp [copied, hn]
  rw [e1, hn]
  have e2 : ∃ a' c', vd = .slice a' (xs.length - i) c' ∧ (Nat.min ys.length (xs.length - i) = 0) := by
   subst hvd
   cases o with
   | none => simp only [oOk] at ok; subst ok; exact ⟨none, 0 - i, by cases i <;> simp [oV, subV], hn⟩
   | some ob => exact ⟨_, _, rfl, hn⟩
  obtain ⟨a', c', e2, e2'⟩ := e2
  rw [e2] at hx
  have e3 : (Builtin.copy_ #[t, t2] ty #[.slice a' (xs.length - i) c', .slice a ys.length c]).run P w = .ok (goInt 0) w := by
   cases a <;> cases a' <;> simp [Builtin.copy_, run_und w hu, Builtin.lenOf, Builtin.firstCells, sizeOf, typeInfo, hq1, e2', loadCells, loadCellsFrom, storeCells]
  have e4 : (execOp (evS m) ⟨d, .call { callee := .builtin .copy, args := #[x, y], argTypes := #[t, t2] }, ty, pos, af, g⟩).run P w = .ok (.value (goInt 0)) w := by
   simp [execOp, resolve, invoke, builtin, evS, hx, hy, e3]
  rw [e4]
  exact ⟨_, hw, rfl, ok, rfl⟩
 ·cases o with
  | none => simp only [oOk] at ok; subst ok; simp at hn
  | some ob =>
   have hys : ys ≠ [] := by intro h; subst h; simp at hn
   obtain ⟨b', o', rfl⟩ := h3 hys
   obtain ⟨g1, g2, g3⟩ := ok
   have hil : i < xs.length := by omega
   obtain ⟨n, hnn⟩ : ∃ n, n = min ys.length (xs.length - i) := ⟨_, rfl⟩
   have hny : n ≤ ys.length := by omega
   have hnx : i + n ≤ xs.length := by omega
   have hcl : (flat E (ys.take n)).length = n * E.sz := by rw [flat_len, List.length_take, Nat.min_eq_left hny]
   have e2 : vd = .slice (some ⟨ob.b, i * E.sz, none⟩) (xs.length - i) (ob.c - i) := by
    subst hvd
    simp only [oV, subV]
    rw [if_neg (by omega)]
    simp [Addr.add]
    try omega
   rw [e2] at hx
   have hfit : i * E.sz + n * E.sz ≤ xs.length * E.sz := by rw [← Nat.add_mul]; exact Nat.mul_le_mul_right _ hnx
   have hcp := run_copy_cells_n (P := P) w t t2 ty e ob.b (i * E.sz) (xs.length - i) (ob.c - i) ⟨b', o', none⟩ ys.length c E.sz (flat E xs ++ ob.tl).toArray e (flat E (ys.take n)) hu hz (hw.get _ (.head _))
    (by rw [hcl, hnn])
    (fun j v hj => by
     have hj' : (flat E ys)[j]? = some v := by
      have e : flat E ys = flat E (ys.take n) ++ flat E (ys.drop n) := by rw [← flat_append, List.take_append_drop]
      rw [e, List.getElem?_append_left (List.getElem?_eq_some_iff.1 hj).1]; exact hj
     have := hsw.row hj'
     rw [add_mk]
     simpa [adr] using this)
    (by rw [hcl]; simp only [List.size_toArray, List.length_append, flat_len]; omega) (flat_one _)
   have e4 : (execOp (evS m) ⟨d, .call { callee := .builtin .copy, args := #[x, y], argTypes := #[t, t2] }, ty, pos, af, g⟩).run P w = .ok (.value (goInt (Nat.min ys.length (xs.length - i)))) (w.setRow ob.b (over (flat E xs ++ ob.tl).toArray (i * E.sz) (flat E (ys.take n)))) := by
    simp [execOp, resolve, invoke, builtin, evS, hx, hy, hcp]
   rw [e4]
   refine ⟨_, hw.setRow, rfl, ?_, ?_⟩
   ·have hlen : (copied xs ys i).length = xs.length := by
     simp only [copied, List.length_append, List.length_take, List.length_drop]; omega
    simp only [oOk, hlen]
    exact ⟨g1, g2, g3⟩
   ·simp only [oH, List.cons_append, List.nil_append, cells]
    congr 3
    unfold over copied
    congr 1
    rw [← hnn]
    simp only [hcl]
    rw [← Nat.add_mul, flat_take_mul xs i hi, flat_drop_mul xs (i + n) hnx, flat_append, flat_append]
    simp
theorem Eff.copyS0 {x y : Operand} {t t2 e : TypeId} {xs ys : List α} {o : Own} {v2 : Value} (hx : evO m x = some (oV o xs.length)) (hy : evO m y = some v2) (ht : sliceElem P t = some e) (hz : szOf P e = some E.sz)
  (hT : TakeL (oH E e xs o) H F) (ok : oOk E xs o) (hs : Sli w0 H E v2 ys) :
  Eff P w0 H m ty (.call { callee := .builtin .copy, args := #[x, y], argTypes := #[t, t2] }) (fun v H' => v = .int .i64 ((min ys.length (xs.length - 0) : Nat) : Int) ∧ oOk E (copied xs ys 0) o ∧ H' = oH E e (copied xs ys 0) o ++ F) :=
 Eff.copyS hx (sub_all o xs.length E.sz (fun h => by subst h; simp only [oOk] at ok; subst ok; rfl)).symm hy ht hz (Nat.zero_le _) hT ok hs
theorem Eff.makeR {t e : TypeId} {x y : Operand} {z : Value} {n bytes : Nat} {x0 : α} (hx : evO m x = some (.int .i64 (n : Nat))) (hy : evO m y = some (.int .i64 (n : Nat))) (ht : sliceElem P t = some e)
  (hinfo : (P.info? e).map (fun i => (i.zero, i.size, i.bytes)) = some (some z, E.sz, bytes)) (hz : z.cells = (E.enc x0).toArray) (hb' : Nat.ble bytes 65536 = true) (hn' : n ≤ 4294967296) :
  Eff P w0 H m ty (.makeSlice t x y) (fun v H' => ∃ o, oOk E (List.replicate n x0) o ∧ v = oV o (List.replicate n x0).length ∧ H' = oH E e (List.replicate n x0) o ++ H) := by
 have h := Eff.makeS (P := P) (w0 := w0) (H := H) (m := m) (ty := ty) (E := E) (x0 := x0) hx hy ht hinfo hz hb' hn'
 refine ⟨h.cv, fun w d pos af g hw => (h.run w d pos af g hw).mono ?_⟩
 rintro v w' ⟨H', hh, b, rfl, rfl⟩
 exact ⟨_, hh, some ⟨b, n, []⟩, ⟨by simp, by show n ≤ maxLen; unfold maxLen; omega, by simp⟩, by simp, rfl⟩
end
section
variable {P : Program} {w0 : World} {ro : Option Nat} {n : Nat} {Q : Exit → Act → World → Prop} {ds : List Deferred} {m : Slots} {H : Heap}
theorem K.cutE {σ : Type} {x y : Code} (keep : Slots) (hk : subsE m keep) (M : σ → Slots → Slots) (Hs : σ → Heap) (I : σ → Prop) (h1 : K P w0 ro n x (Exit.then (MeetsK w0 n ds (fun s => M s keep) Hs I) Q) ds m H) (h2 : ∀ s, I s → K P w0 ro n y Q ds (M s keep) (Hs s)) : K P w0 ro n x (Exit.then (Code.wpIn (fen ro) 0 P y Q) Q) ds m H :=
 .mk fun a w ha hw => wpIn_mono (h1.out a w ha hw) fun e a w q => by
  cases e with
  | normal => obtain ⟨s, hf, hh, hi⟩ := q; exact (h2 s hi).out a w hf hh
  | _ => exact q
end
end Go.Proofs.YtalholahapcpkaaGreatDoor
