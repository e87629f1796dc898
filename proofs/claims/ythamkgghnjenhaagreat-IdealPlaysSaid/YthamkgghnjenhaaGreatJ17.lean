/- Graph: the sorted keys of a map. Graph: AppendSeq, Collect, Sorted over the keys of a map; here. Graph: here. Graph: IndexFunc, ContainsFunc. Graph: clear, DeleteFunc. Graph: what is new among some nodes (levels$1$1). Graph: the levels of a graph (levels). Graph: the document's small functions. Graph: Repeat, Min, Mul; Depths and Reach. Graph: Turned. Graph: what the levels are, in plain words: walks and depths. Graph: Way. Graph: Way, the walk. Graph: Closed. Graph: the document's Depths and Reach. Graph: the document's Reach, Turned, next, Way, Closed. -/
import Derived.KernelRfl
import Derived.Test.YthamkgghnjenhaaGreatJ13
import Derived.Test.YthamkgghnjenhaaGreatJ16
namespace Go.Proofs.YthamkgghnjenhaaGreat
open Go.RowKit
set_option linter.unusedVariables false
set_option linter.unusedSimpArgs false

theorem take_snoc {α : Type} {l : List α} {k : Nat} {x : α} (h : l[k]? = some x) : l.take (k + 1) = l.take k ++ [x] := by rw [List.take_add_one, h]; rfl
theorem get_of_lt {α : Type} {l : List α} {k : Nat} (h : k < l.length) : ∃ x, l[k]? = some x := ⟨l[k], List.getElem?_eq_getElem h⟩
theorem lt_of_get {α : Type} {l : List α} {i : Nat} {x : α} (h : l[i]? = some x) : i < l.length := (List.getElem?_eq_some_iff.1 h).1

/-- the entries that have not come yet -/
def mleft (ms pk : List ME) : List ME := ms.filter fun e => !(pk.map (·.n)).contains e.n
theorem filter_lt {α : Type} {p q : α → Bool} (h : ∀ x, q x = true → p x = true) : ∀ {l : List α} {e : α}, e ∈ l → p e = true → q e = false → (l.filter q).length < (l.filter p).length
  | x :: l, e, he, hp, hq => by
    have hle : (l.filter q).length ≤ (l.filter p).length := by
      clear he
      induction l with
      | nil => simp
      | cons y l ih =>
        simp only [List.filter_cons]
        cases hy : q y
        · cases hpy : p y <;> simp <;> omega
        · rw [h y hy]; simp; omega
    rcases List.mem_cons.1 he with rfl | he
    · simp only [List.filter_cons, hp, hq]; simp; omega
    · have := filter_lt h he hp hq
      simp only [List.filter_cons]
      cases hy : q x
      · cases hpy : p x <;> simp <;> omega
      · rw [h x hy]; simp; omega
theorem mleft_lt {ms pk : List ME} {e : ME} (he : e ∈ ms) (hn : e.n ∉ pk.map (·.n)) : (mleft ms (pk ++ [e])).length < (mleft ms pk).length := by
  unfold mleft
  refine filter_lt (e := e) (fun x hx => ?_) he ?_ ?_
  · simp at hx ⊢
    exact fun y hy => (hx.1 y hy)
  · simp at hn ⊢; exact hn
  · simp

structure KS where
  pk : List ME
  A : Heap

set_option maxRecDepth 10000 in
set_option maxHeartbeats 1000000 in
theorem keys1_K {w0 : World} {F A0 : Heap} {fv : Value} {b bm c : Nat} {ms : List ME} (ok : MOk ms c) (J : List Int → Heap → Prop) (hf : fv.oneCell' = true)
    (hy : ∀ ks A F x, J ks A → ks.length ≤ ms.length → CallV Tryz.prog w0 fv [.int .i64 x] (A ++ F) (fun v H' => v = .bool true ∧ ∃ A', J (ks ++ [x]) A' ∧ H' = A' ++ F))
    (h0 : J [] A0) :
    Call Tryz.prog w0 68 [fv, .pointer (some ⟨b, 0, none⟩)] (A0 ++ ((b, cells [.map (some bm)] 55) :: (bm, mobj ms c) :: F))
      (fun _ H' => ∃ A' ks, H' = A' ++ ((b, cells [.map (some bm)] 55) :: (bm, mobj ms c) :: F) ∧ J ks A' ∧ (∀ x, x ∈ ks ↔ x ∈ ms.map (·.k)) ∧ ks.Nodup ∧ ks.length ≤ ms.length) := by
  refine Call.enter (n := 14) [(0, fv), (1, .pointer (some ⟨b, 0, none⟩))] (by kernel_rfl) Tryz.func68 rfl rfl rfl ⟨rfl, rfl, trivial⟩ ?_
  refine byCode ?_
  (refine KL.v rfl (Val.loadP rfl rfl bySee) ?_)
  (refine KL.e rfl (Eff.rangeM rfl rfl byTake) ?_; rintro _ _ ⟨b5, rfl, rfl⟩)
  refine KL.nil ?_
  refine byBlk ?_
  refine K.loop (σ := KS) (fun s => [(5, .pointer (some ⟨b5, 0, none⟩)), (0, fv), (1, .pointer (some ⟨b, 0, none⟩))]) (fun s => (b5, itO bm c s.pk) :: (s.A ++ ((b, cells [.map (some bm)] 55) :: (bm, mobj ms c) :: F)))
    (fun s => J (s.pk.map (·.k)) s.A ∧ (∀ e ∈ s.pk, e ∈ ms) ∧ (s.pk.map (·.k)).Nodup ∧ s.pk.length + (mleft ms s.pk).length ≤ ms.length) (fun s => (mleft ms s.pk).length) ⟨[], A0⟩ bySub byPart ⟨h0, by simp, by simp, by simpa [mleft] using List.length_filter_le _ ms⟩ ?_
  rintro ⟨pk, A⟩ ⟨hJ, hm, hnd, hl⟩
  dsimp only at hJ hm hnd hl ⊢
  refine byCode ?_
  refine KL.e rfl (Eff.nextM rfl byTake byTake ok) ?_
  rintro _ _ (⟨rfl, hall, rfl⟩ | ⟨e, he, hn, rfl, rfl⟩)
  · (refine KL.v rfl (Val.extract rfl rfl) ?_)
    refine KL.nil ?_
    refine byCode ?_
    exact KE.finN byMarks rfl byRes byPart ⟨A, pk.map (·.k), rfl, hJ, fun x => ⟨fun hx => by
      obtain ⟨e, he, rfl⟩ := List.mem_map.1 hx
      exact List.mem_map_of_mem (hm e he), fun hx => by
      obtain ⟨e, he, rfl⟩ := List.mem_map.1 hx
      obtain ⟨e', he', hn⟩ := List.mem_map.1 (hall e he)
      have : e' = e := by
        obtain ⟨i, hi⟩ := List.getElem?_of_mem (hm e' he')
        obtain ⟨j, hj⟩ := List.getElem?_of_mem he
        have hi1 : (ms.map (·.n))[i]? = some e.n := by rw [List.getElem?_map, hi]; simp [hn]
        have hj1 : (ms.map (·.n))[j]? = some e.n := by rw [List.getElem?_map, hj]; rfl
        have hij := (List.getElem?_inj (List.getElem?_eq_some_iff.1 hi1).1 ok.nd).1 (hi1.trans hj1.symm)
        subst hij
        rw [hi] at hj; exact Option.some.inj hj
      subst this
      exact List.mem_map_of_mem he'⟩, hnd, by rw [List.length_map]; omega⟩
  · have hlt := mleft_lt he hn
    (refine KL.v rfl (Val.extract rfl rfl) ?_)
    refine KL.nil ?_
    refine byCode ?_
    refine K.block ?_
    refine byCode ?_
    (refine KL.v rfl (Val.entryM rfl byTake byTake (by assumption) (by assumption)) ?_)
    (refine KL.v rfl (Val.extract rfl rfl) ?_)
    (refine KL.v rfl (Val.assign rfl) ?_)
    refine KL.nil ?_
    refine byCode ?_
    (refine KL.v rfl (Val.move rfl) ?_)
    (refine KL.v rfl (Val.move rfl) ?_)
    (refine KL.callc rfl rfl byEvL fun T hT => ?_)
    refine (CallV.part (hy (pk.map (·.k)) A ((b5, itO bm c (pk ++ [e])) :: (b, cells [.map (some bm)] 55) :: (bm, mobj ms c) :: F) e.k hJ (by rw [List.length_map]; omega)) byPart).mono ?_
    rintro _ _ ⟨rfl, A', hJ', rfl⟩
    refine hT _ _ ?_; clear hT; clear T
    (first | (refine KL.v rfl (Val.notT rfl) ?_) | (refine KL.v rfl (Val.notF rfl) ?_) | (refine KL.v rfl (Val.not rfl) ?_) | (refine KL.v rfl (Val.notB rfl) ?_))
    refine KL.nil ?_
    refine byCode ?_
    exact KE.again ⟨pk ++ [e], A'⟩ bySub byPart ⟨by show J ((pk ++ [e]).map (·.k)) A'; rw [List.map_append]; exact hJ', fun x hx => by
      rcases List.mem_append.1 hx with h | h
      · exact hm x h
      · rw [List.mem_singleton.1 h]; exact he, by
      show ((pk ++ [e]).map (·.k)).Nodup
      rw [List.map_append, List.nodup_append]
      refine ⟨hnd, by simp, fun a ha b' hb' heq => ?_⟩
      simp at hb'
      obtain ⟨e', he', rfl⟩ := List.mem_map.1 ha
      have : e' = e := by
        obtain ⟨i, hi⟩ := List.getElem?_of_mem (hm e' he')
        obtain ⟨j, hj⟩ := List.getElem?_of_mem he
        have hi1 : (ms.map (·.k))[i]? = some e.k := by rw [List.getElem?_map, hi]; simp [heq, hb']
        have hj1 : (ms.map (·.k))[j]? = some e.k := by rw [List.getElem?_map, hj]; rfl
        have hij := (List.getElem?_inj (List.getElem?_eq_some_iff.1 hi1).1 ok.kd).1 (hi1.trans hj1.symm)
        subst hij
        rw [hi] at hj; exact Option.some.inj hj
      subst this
      exact hn (List.mem_map_of_mem he'), by show (pk ++ [e]).length + _ ≤ _; rw [List.length_append, List.length_singleton]; dsimp only; omega⟩ hlt

set_option maxRecDepth 10000 in
theorem Keys_K {w0 : World} {H : Heap} {v : Value} (hv : v.cells = [v].toArray) :
    Call Tryz.prog w0 55 [v] H (fun r H' => ∃ b, r = .func (.func 68) #[] #[.pointer (some ⟨b, 0, none⟩)] ∧ H' = (b, cells [v] 55) :: H) := by
  refine Call.enter (n := 4) [(0, v)] (by kernel_rfl) Tryz.func55 rfl rfl rfl ⟨rfl, trivial⟩ ?_
  refine byCode ?_
  (refine KL.e rfl (Eff.box rfl hv) ?_; rintro _ _ ⟨b1, rfl, rfl⟩)
  (refine KL.v rfl (Val.assign rfl) ?_)
  refine KL.nil ?_
  refine byCode ?_
  (refine KL.v rfl (Val.makeFunc byEvL byEvL) ?_)
  (refine KL.v rfl (Val.assign rfl) ?_)
  refine KL.nil ?_
  refine byCode ?_
  exact KE.fin byMarks rfl byRes byPart ⟨b1, rfl, rfl⟩
end Go.Proofs.YthamkgghnjenhaaGreat
namespace Go.Proofs.YthamkgghnjenhaaGreat
open Go.RowKit
set_option linter.unusedVariables false
set_option linter.unusedSimpArgs false

def KeysOf (ms : List ME) (ks : List Int) : Prop := (∀ x, x ∈ ks ↔ x ∈ ms.map (·.k)) ∧ ks.Nodup ∧ ks.length ≤ ms.length
def AsJ (l D : Nat) (r : Rec) (b2 : Nat) (ks : List Int) (A : Heap) : Prop := ∃ o, oOk iE ks o ∧ A = (l, .loop (r .ready none)) :: (D, .deferred (some [])) :: (oH iE 3 ks o ++ [(b2, cells [oV o ks.length] 22)])
def AsD (ms : List ME) (c bm b2 : Nat) (F : Heap) (D : Nat) (F' : Heap) : Prop := ∃ ks o, KeysOf ms ks ∧ oOk iE ks o ∧ F' = (D, .deferred (some [])) :: (oH iE 3 ks o ++ ((b2, cells [oV o ks.length] 22) :: (bm, mobj ms c) :: F))

set_option maxRecDepth 10000 in
set_option maxHeartbeats 1000000 in
theorem AppendSeq_K {w0 : World} {F : Heap} {b bm c : Nat} {ms : List ME} (ok : MOk ms c) (hl : ms.length ≤ 1000000) :
    Call Tryz.prog w0 69 [.slice none 0 0, .func (.func 68) #[] #[.pointer (some ⟨b, 0, none⟩)]] ((b, cells [.map (some bm)] 55) :: (bm, mobj ms c) :: F)
      (fun r H' => ∃ ks o, KeysOf ms ks ∧ oOk iE ks o ∧ r = oV o ks.length ∧ H' = oH iE 3 ks o ++ ((bm, mobj ms c) :: F)) := by
  refine Call.enter (n := 13) [(0, .slice none 0 0), (1, .func (.func 68) #[] #[.pointer (some ⟨b, 0, none⟩)])] (by kernel_rfl) Tryz.func69 rfl rfl rfl ⟨rfl, rfl, trivial⟩ ?_
  refine byCode ?_
  (refine KL.e rfl (Eff.box rfl rfl) ?_; rintro _ _ ⟨b2, rfl, rfl⟩)
  (refine KL.v rfl (Val.assign rfl) ?_)
  refine KL.nil ?_
  refine byCode ?_
  (refine KL.v rfl (Val.move rfl) ?_)
  refine KL.nil ?_
  refine byBlk ?_
  refine K.rangeFunc (lb := [.pointer (some ⟨b, 0, none⟩)]) rfl (AsD ms c bm b2 F) (fun _ _ _ => False) ?_ ?_ ?_
  · intro l D r hyl
    refine (Call.part (keys1_K (F := F) (b := b) (bm := bm) ok (AsJ l D r b2) rfl ?_ (A0 := (l, .loop (r .ready none)) :: (D, .deferred (some [])) :: (oH iE 3 [] none ++ [(b2, cells [oV none 0] 22)])) ⟨none, rfl, rfl⟩) byPart).mono ?_
    · rintro ks A F s ⟨o, ok, rfl⟩ hxl
      have hz : (ks ++ [s]).length ≤ 4294967296 := by simp; omega
      simp only [List.cons_append, List.append_assoc, List.nil_append]
      refine hyl _ _ _ _ _ (ParS.cons rfl ParS.nil) byTake ?_
      refine byCode ?_
      (refine KL.v rfl (Val.assign rfl) ?_)
      refine KL.nil ?_
      refine KE.begin byTake ?_
      refine K.block ?_
      refine byCode ?_
      (refine KL.v rfl (Val.loadP rfl rfl bySee) ?_)
      (refine KL.v rfl (Val.move rfl) ?_)
      (refine KL.e rfl (Eff.buildS byParts rfl rfl rfl rfl rfl byFill) ?_; rintro _ _ ⟨b10, rfl, rfl⟩)
      -- STOP at region 3 op 3: {"h": "Op.call", "a": [{"callee": {"h": "Callee.builtin", "a": ["Builtin.append"]}, "args": [{"h": "Operand.tmp", "a": [8]}, {"h": "Operand.tmp", "a": [10]}], "argTypes": [22, 22]}]}
      (refine KL.e rfl (Eff.appZ (E := iE) (xs := ks) (o := o) (ys := [s]) (zs := ks ++ [s]) rfl rfl rfl rfl rfl rfl byTakeL (by assumption) (by first | exact Sli.blk byTake rfl (by first | decide | simp) (by first | decide | (unfold maxLen; omega)) rfl | exact Sli.old (by assumption) | exact Sli.own byTakeL (by assumption) byLen | assumption | exact Sli.part (by assumption) byPart) (rfl) (by first | assumption | omega | (simp <;> fail) | (simp; omega)) rfl) ?_; rintro _ _ ⟨o', ok', rfl, rfl⟩)
      (first | (refine KL.eN (Eff.storeL rfl rfl byOne rfl byTake bySetAt) ?_; rintro _ _ rfl) | (refine KL.eN (Eff.stSl rfl rfl rfl rfl byTakeL (by assumption) (by assumption) rfl rfl) ?_; rintro _ _ rfl) | (refine KL.eN (Eff.stSl0 rfl rfl rfl rfl byTakeL (by assumption) (by assumption) rfl rfl) ?_; rintro _ _ rfl))
      refine KL.nil ?_
      refine byCode ?_
      refine KE.part ((l, .loop (r .busy none)) :: (D, .deferred (some [])) :: (oH iE 3 (ks ++ [s]) o' ++ ((b2, cells [oV o' (ks ++ [s]).length] 22) :: F))) byPart ?_
      exact KE.roundN Take.head ⟨rfl, _, ⟨o', ok', rfl⟩, by simp⟩
    · rintro v H' ⟨A', ks, rfl, ⟨o, ok, rfl⟩, hk⟩
      refine .inl ⟨_, ?_, ks, o, hk, ok, rfl⟩
      simp only [List.cons_append, List.append_assoc, List.nil_append]
      exact byPart
  · rintro D F' ⟨ks, o, hk, ok, rfl⟩
    refine byCode ?_
    (refine KL.v rfl (Val.loadP rfl rfl bySee) ?_)
    (refine KL.v rfl (Val.assign rfl) ?_)
    refine KL.nil ?_
    refine byCode ?_
    exact KE.fin byMarks rfl byRes byPart ⟨ks, o, hk, ok, rfl, rfl⟩
  · rintro D cd F' h
    exact h.elim

set_option maxRecDepth 10000 in
theorem Collect_K {w0 : World} {F : Heap} {b bm c : Nat} {ms : List ME} (ok : MOk ms c) (hl : ms.length ≤ 1000000) :
    Call Tryz.prog w0 56 [.func (.func 68) #[] #[.pointer (some ⟨b, 0, none⟩)]] ((b, cells [.map (some bm)] 55) :: (bm, mobj ms c) :: F)
      (fun r H' => ∃ ks o, KeysOf ms ks ∧ oOk iE ks o ∧ r = oV o ks.length ∧ H' = oH iE 3 ks o ++ ((bm, mobj ms c) :: F)) := by
  refine Call.enter (n := 5) [(0, .func (.func 68) #[] #[.pointer (some ⟨b, 0, none⟩)])] (by kernel_rfl) Tryz.func56 rfl rfl rfl ⟨rfl, trivial⟩ ?_
  refine byCode ?_
  (refine KL.v rfl (Val.assign rfl) ?_)
  refine KL.nil ?_
  refine byCode ?_
  (refine KL.v rfl (Val.move rfl) ?_)
  (refine KL.callc rfl rfl byEvL fun T hT => ?_)
  refine (CallV.fn (AppendSeq_K ok hl)).mono ?_
  rintro _ _ ⟨ks, o, hk, ok', rfl, rfl⟩
  refine hT _ _ ?_; clear hT; clear T
  (refine KL.v rfl (Val.assign rfl) ?_)
  refine KL.nil ?_
  refine byCode ?_
  exact KE.fin byMarks rfl byRes byPart ⟨ks, o, hk, ok', rfl, rfl⟩

theorem KeysOf.sort {ms : List ME} {ks : List Int} (h : KeysOf ms ks) : KeysOf ms (sortP ks) := ⟨fun x => sortP_mem.trans (h.1 x), (List.mergeSort_perm ks _).symm.nodup_iff.1 h.2.1, by rw [sortP_len]; exact h.2.2⟩

theorem sort_strict {ks : List Int} (h : ks.Nodup) : (sortP ks).Pairwise (· < ·) := by
  have h1 := sortP_sorted ks
  have h2 : (sortP ks).Pairwise (· ≠ ·) := (List.mergeSort_perm ks _).symm.nodup_iff.1 h
  exact (List.pairwise_and_iff.2 ⟨h1, h2⟩).imp fun {a b} h => by have := h.1; have := h.2; omega

set_option maxRecDepth 10000 in
theorem Sorted_K {w0 : World} {F : Heap} {b bm c : Nat} {ms : List ME} (ok : MOk ms c) (hl : ms.length ≤ 1000000) :
    Call Tryz.prog w0 38 [.func (.func 68) #[] #[.pointer (some ⟨b, 0, none⟩)]] ((b, cells [.map (some bm)] 55) :: (bm, mobj ms c) :: F)
      (fun r H' => ∃ ks o, KeysOf ms ks ∧ ks.Pairwise (· < ·) ∧ oOk iE ks o ∧ r = oV o ks.length ∧ H' = oH iE 3 ks o ++ ((bm, mobj ms c) :: F)) := by
  refine Call.enter (n := 9) [(0, .func (.func 68) #[] #[.pointer (some ⟨b, 0, none⟩)])] (by kernel_rfl) Tryz.func38 rfl rfl rfl ⟨rfl, trivial⟩ ?_
  refine byCode ?_
  (refine KL.v rfl (Val.assign rfl) ?_)
  refine KL.nil ?_
  refine byCode ?_
  (refine KL.v rfl (Val.move rfl) ?_)
  (refine KL.callc rfl rfl byEvL fun T hT => ?_)
  refine (CallV.fn (Collect_K ok hl)).mono ?_
  rintro _ _ ⟨ks, o, hk, ok', rfl, rfl⟩
  refine hT _ _ ?_; clear hT; clear T
  (refine KL.v rfl (Val.assign rfl) ?_)
  refine KL.nil ?_
  refine byCode ?_
  (refine KL.v rfl (Val.move rfl) ?_)
  (refine KL.callc rfl rfl byEvL fun T hT => ?_)
  refine (CallV.part (CallV.fn (Sort_K (F := (bm, mobj ms c) :: F) ok' (Nat.le_trans hk.2.2 hl))) byPart).mono ?_
  rintro _ _ ⟨rfl, ok2, rfl⟩
  refine hT _ _ ?_; clear hT; clear T
  refine KL.nil ?_
  have hsl := sortP_len ks
  refine byCode ?_
  (refine KL.v rfl (Val.move rfl) ?_)
  (refine KL.v rfl (Val.assign rfl) ?_)
  refine KL.nil ?_
  refine byCode ?_
  exact KE.fin byMarks rfl byRes byPart ⟨sortP ks, o, hk.sort, sort_strict hk.2.1, ok2, by rw [hsl]; rfl, rfl⟩
end Go.Proofs.YthamkgghnjenhaaGreat
namespace Go.Proofs.YthamkgghnjenhaaGreat
open Go.RowKit
set_option linter.unusedVariables false
set_option linter.unusedSimpArgs false

/-- a slice as an element -/
structure SV where
  a : Option Addr
  n : Nat
  c : Nat
def svE : Enc SV := ⟨fun x => [.slice x.a x.n x.c], 1, fun _ => rfl, by intro x v hv; simp at hv; subst hv; rfl⟩
structure RowsI (w0 : World) (ls : List SV) (rows : List (List Int)) : Prop where
  len : ls.length = rows.length
  row : ∀ (i : Nat) (p : SV) (r : List Int), ls[i]? = some p → rows[i]? = some r → SlW w0 iE (.slice p.a p.n p.c) r

/-- the nodes among some numbers, rising, each once -/
def hereP (n : Nat) (l : List Int) : List Int := ((List.range n).map fun (i : Nat) => (i : Int)).filter fun x => decide (x ∈ l)
theorem hereP_mem {n : Nat} {l : List Int} {x : Int} : x ∈ hereP n l ↔ x ∈ l ∧ 0 ≤ x ∧ x < n := by
  simp only [hereP, List.mem_filter, List.mem_map, List.mem_range, decide_eq_true_eq]
  constructor
  · rintro ⟨⟨i, hi, rfl⟩, h⟩; exact ⟨h, by omega, by omega⟩
  · rintro ⟨h, h0, h1⟩; exact ⟨⟨x.toNat, by omega, by omega⟩, h⟩
theorem hereP_sorted (n : Nat) (l : List Int) : (hereP n l).Pairwise (· < ·) := by
  unfold hereP
  refine List.Pairwise.filter _ ?_
  rw [List.pairwise_map]
  exact List.pairwise_lt_range.imp fun h => by omega

theorem mem_keys {ms : List ME} {x : Int} : x ∈ ms.map (·.k) ↔ mget ms x ≠ none := by
  constructor
  · intro h e
    obtain ⟨e', he, rfl⟩ := List.mem_map.1 h
    exact mget_none.1 e e' he rfl
  · intro h
    apply Classical.byContradiction
    intro h'
    exact h (mget_none.2 fun e he e2 => h' (by rw [← e2]; exact List.mem_map_of_mem he))
theorem mput_len (ms : List ME) (c : Nat) (k : Int) (v : Value) : (mput ms c k v).length ≤ ms.length + 1 := by
  unfold mput
  cases mfind k ms 0 with
  | none => simp
  | some p => simp

structure HS where
  k : Nat
  ms : List ME
  c : Nat
def HereAt (n : Nat) (l : List Int) (k : Nat) (ms : List ME) : Prop := ∀ x, (mget ms x = none ∧ ¬ (x ∈ l.take k ∧ 0 ≤ x ∧ x < n)) ∨ (∃ z : Nat, z ≤ k ∧ mget ms x = some (.int .i64 z) ∧ x ∈ l.take k ∧ 0 ≤ x ∧ x < n)
theorem HereAt.put {n : Nat} {l : List Int} {k z : Nat} {ms : List ME} {c : Nat} {x : Int} (h : HereAt n l k ms) (ok : MOk ms c) (hx : l[k]? = some x) (h0 : 0 ≤ x) (h1 : x < n) (hz : z ≤ k + 1) : HereAt n l (k + 1) (mput ms c x (.int .i64 z)) := by
  intro y
  rw [mget_put ok, take_snoc hx]
  by_cases hy : y = x
  · subst hy
    rw [if_pos rfl]
    exact .inr ⟨z, hz, rfl, by simp, h0, h1⟩
  · rw [if_neg hy]
    rcases h y with ⟨g1, g2⟩ | ⟨z', g1, g2, g3, g4⟩
    · exact .inl ⟨g1, fun g => g2 ⟨by simpa [hy] using g.1, g.2⟩⟩
    · exact .inr ⟨z', by omega, g2, by simp [g3], g4⟩
theorem HereAt.skip {n : Nat} {l : List Int} {k : Nat} {ms : List ME} {x : Int} (h : HereAt n l k ms) (hx : l[k]? = some x) (hn : ¬ (0 ≤ x ∧ x < n)) : HereAt n l (k + 1) ms := by
  intro y
  rw [take_snoc hx]
  rcases h y with ⟨g1, g2⟩ | ⟨z', g1, g2, g3, g4⟩
  · refine .inl ⟨g1, fun g => ?_⟩
    rcases List.mem_append.1 g.1 with g' | g'
    · exact g2 ⟨g', g.2⟩
    · rw [List.mem_singleton.1 g'] at g; exact hn g.2
  · exact .inr ⟨z', by omega, g2, by simp [g3], g4⟩

set_option maxRecDepth 10000 in
set_option maxHeartbeats 1000000 in
theorem here_K {w0 : World} {vg vl : Value} {gs : List SV} {l : List Int} (hG : SlW w0 svE vg gs) (hL : SlW w0 iE vl l) (hl : l.length ≤ 100000) :
    Call Tryz.prog w0 103 [vg, vl] [] (fun r H' => ∃ o, oOk iE (hereP gs.length l) o ∧ r = oV o (hereP gs.length l).length ∧ H' = oH iE 3 (hereP gs.length l) o) := by
  refine Call.enter (n := 31) [(0, vg), (1, vl)] (by kernel_rfl) Tryz.func103 rfl rfl rfl ⟨rfl, rfl, trivial⟩ ?_
  refine byCode ?_
  (refine KL.v rfl (Val.assign rfl) ?_)
  refine KL.nil ?_
  refine byCode ?_
  (refine KL.e rfl (Eff.makeMap) ?_; rintro _ _ ⟨b8, rfl, rfl⟩)
  (refine KL.v rfl (Val.assign rfl) ?_)
  refine KL.nil ?_
  refine byCode ?_
  (refine KL.v rfl (Val.move rfl) ?_)
  (first | (refine KL.v rfl (Val.lenSl rfl rfl bySli) ?_) | (refine KL.v rfl (Val.lenS rfl rfl) ?_))
  (refine KL.v rfl (Val.move rfl) ?_)
  refine KL.nil ?_
  refine byBlk ?_
  refine K.loop (σ := HS) (fun s => [(11, .int .i64 (s.k : Nat)), (10, .int .i64 (l.length : Nat)), (9, vl), (5, .map (some b8)), (0, vg), (1, vl)]) (fun s => (b8, mobj s.ms s.c) :: [])
    (fun s => s.k ≤ l.length ∧ MOk s.ms s.c ∧ HereAt gs.length l s.k s.ms ∧ s.ms.length ≤ s.k) (fun s => l.length - s.k) ⟨0, [], 0⟩ bySub byPart ⟨by simp, MOk.nil, fun x => .inl ⟨rfl, by simp⟩, by simp⟩ ?_
  rintro ⟨k, ms, c⟩ ⟨hk, ok, hat, hml⟩
  dsimp only at hk ok hat hml ⊢
  by_cases hlt : k < l.length
  · obtain ⟨x, hx⟩ := get_of_lt hlt
    refine byCode ?_
    (first | (refine KL.v rfl (Val.isT (Val.lss rfl rfl) byLt) ?_) | (refine KL.v rfl (Val.isF (Val.lss rfl rfl) byLt) ?_) | (refine KL.v rfl (Val.lss rfl rfl) ?_))
    refine KL.nil ?_
    refine byCode ?_
    refine K.seq (K.block ?_)
    by_cases h0 : 0 ≤ x
    · by_cases h1 : x < (gs.length : Nat)
      · rcases hat x with ⟨g1, _⟩ | ⟨z, hz, g1, _⟩
        · have hp := hat.put ok hx h0 h1 (z := 1) (by omega)
          have ok' := ok.put x (.int .i64 1)
          have hpl := mput_len ms c x (.int .i64 1)
          refine byCode ?_
          (first | (refine KL.v rfl (Val.idxSl rfl rfl rfl bySli rfl byLt) ?_) | (refine KL.v rfl (Val.idxSlZ rfl rfl rfl bySli rfl (by omega)) ?_) | (refine KL.v rfl (Val.indexS1 rfl rfl rfl rfl (by omega)) ?_) | (refine KL.v rfl (Val.indexS rfl rfl rfl rfl (by omega)) ?_) | (refine KL.v rfl (Val.indexSO rfl rfl rfl rfl (by omega)) ?_) | (refine KL.v rfl (Val.indexSG rfl rfl rfl rfl (by omega)) ?_))
          (refine KL.v rfl (Val.loadP rfl rfl bySee) ?_)
          (refine KL.v rfl (Val.assign rfl) ?_)
          refine KL.nil ?_
          refine byCode ?_
          (refine KL.v rfl (Val.move rfl) ?_)
          (first | (refine KL.v rfl (Val.isT (Val.geq rfl rfl) byLt) ?_) | (refine KL.v rfl (Val.isF (Val.geq rfl rfl) byLt) ?_) | (refine KL.v rfl (Val.geq rfl rfl) ?_))
          (refine KL.v rfl (Val.move rfl) ?_)
          (first | refine KL.skipG rfl rfl rfl ?_ | refine KL.skipU rfl rfl rfl ?_ | (refine KL.yes rfl rfl ?_; refine KL.v rfl (Val.move rfl) ?_))
          (first | refine KL.skipG rfl rfl rfl ?_ | refine KL.skipU rfl rfl rfl ?_ | (refine KL.yes rfl rfl ?_; refine KL.v rfl (Val.move rfl) ?_))
          (first | refine KL.skipG rfl rfl rfl ?_ | refine KL.skipU rfl rfl rfl ?_ | (refine KL.yes rfl rfl ?_; refine KL.v rfl (Val.lenSl rfl rfl bySli) ?_) | (refine KL.yes rfl rfl ?_; refine KL.v rfl (Val.lenS rfl rfl) ?_))
          (first | refine KL.skipG rfl rfl rfl ?_ | refine KL.skipU rfl rfl rfl ?_ | (refine KL.yes rfl rfl ?_; refine KL.v rfl (Val.isT (Val.lss rfl rfl) byLt) ?_) | (refine KL.yes rfl rfl ?_; refine KL.v rfl (Val.isF (Val.lss rfl rfl) byLt) ?_) | (refine KL.yes rfl rfl ?_; refine KL.v rfl (Val.lss rfl rfl) ?_))
          (first | (refine KL.v rfl (Val.pickT rfl rfl rfl) ?_) | (refine KL.v rfl (Val.pickF rfl rfl rfl) ?_) | (refine KL.v rfl (Val.pickB rfl rfl rfl) ?_))
          refine KL.nil ?_
          refine byCode ?_
          (refine KL.v rfl (Val.move rfl) ?_)
          (refine KL.v rfl (Val.move rfl) ?_)
          (first | (refine KL.v rfl (Val.lookS rfl rfl rfl byTake (by assumption)) ?_) | (refine KL.v rfl (Val.look0 rfl rfl rfl rfl byTake (by assumption)) ?_))
          (first | (refine KL.v rfl (Val.add rfl rfl (by simp only [Go.Proofs.YthamkgghnjenhaaGreat.lo, Go.Proofs.YthamkgghnjenhaaGreat.hi]; omega)) ?_) | (refine KL.v rfl (Val.addW rfl rfl) ?_))
          (refine KL.eN (Eff.mapUp rfl rfl rfl rfl byTake) ?_; rintro _ _ rfl)
          refine KL.nil ?_
          refine byCode ?_
          (first | (refine KL.v rfl (Val.add rfl rfl (by simp only [Go.Proofs.YthamkgghnjenhaaGreat.lo, Go.Proofs.YthamkgghnjenhaaGreat.hi]; omega)) ?_) | (refine KL.v rfl (Val.addW rfl rfl) ?_))
          (refine KL.v rfl (Val.move rfl) ?_)
          refine KL.nil ?_
          exact KE.again ⟨k + 1, mput ms c x (.int .i64 1), mclk ms c x⟩ bySub byPart ⟨by show k + 1 ≤ _; omega, ok', hp, by show _ ≤ k + 1; dsimp only; omega⟩ (by show l.length - (k + 1) < l.length - k; omega)
        · have hp := hat.put ok hx h0 h1 (z := z + 1) (by omega)
          have ok' := ok.put x (.int .i64 ((z + 1 : Nat) : Int))
          have hpl := mput_len ms c x (.int .i64 ((z + 1 : Nat) : Int))
          refine byCode ?_
          (first | (refine KL.v rfl (Val.idxSl rfl rfl rfl bySli rfl byLt) ?_) | (refine KL.v rfl (Val.idxSlZ rfl rfl rfl bySli rfl (by omega)) ?_) | (refine KL.v rfl (Val.indexS1 rfl rfl rfl rfl (by omega)) ?_) | (refine KL.v rfl (Val.indexS rfl rfl rfl rfl (by omega)) ?_) | (refine KL.v rfl (Val.indexSO rfl rfl rfl rfl (by omega)) ?_) | (refine KL.v rfl (Val.indexSG rfl rfl rfl rfl (by omega)) ?_))
          (refine KL.v rfl (Val.loadP rfl rfl bySee) ?_)
          (refine KL.v rfl (Val.assign rfl) ?_)
          refine KL.nil ?_
          refine byCode ?_
          (refine KL.v rfl (Val.move rfl) ?_)
          (first | (refine KL.v rfl (Val.isT (Val.geq rfl rfl) byLt) ?_) | (refine KL.v rfl (Val.isF (Val.geq rfl rfl) byLt) ?_) | (refine KL.v rfl (Val.geq rfl rfl) ?_))
          (refine KL.v rfl (Val.move rfl) ?_)
          (first | refine KL.skipG rfl rfl rfl ?_ | refine KL.skipU rfl rfl rfl ?_ | (refine KL.yes rfl rfl ?_; refine KL.v rfl (Val.move rfl) ?_))
          (first | refine KL.skipG rfl rfl rfl ?_ | refine KL.skipU rfl rfl rfl ?_ | (refine KL.yes rfl rfl ?_; refine KL.v rfl (Val.move rfl) ?_))
          (first | refine KL.skipG rfl rfl rfl ?_ | refine KL.skipU rfl rfl rfl ?_ | (refine KL.yes rfl rfl ?_; refine KL.v rfl (Val.lenSl rfl rfl bySli) ?_) | (refine KL.yes rfl rfl ?_; refine KL.v rfl (Val.lenS rfl rfl) ?_))
          (first | refine KL.skipG rfl rfl rfl ?_ | refine KL.skipU rfl rfl rfl ?_ | (refine KL.yes rfl rfl ?_; refine KL.v rfl (Val.isT (Val.lss rfl rfl) byLt) ?_) | (refine KL.yes rfl rfl ?_; refine KL.v rfl (Val.isF (Val.lss rfl rfl) byLt) ?_) | (refine KL.yes rfl rfl ?_; refine KL.v rfl (Val.lss rfl rfl) ?_))
          (first | (refine KL.v rfl (Val.pickT rfl rfl rfl) ?_) | (refine KL.v rfl (Val.pickF rfl rfl rfl) ?_) | (refine KL.v rfl (Val.pickB rfl rfl rfl) ?_))
          refine KL.nil ?_
          refine byCode ?_
          (refine KL.v rfl (Val.move rfl) ?_)
          (refine KL.v rfl (Val.move rfl) ?_)
          (first | (refine KL.v rfl (Val.lookS rfl rfl rfl byTake (by assumption)) ?_) | (refine KL.v rfl (Val.look0 rfl rfl rfl rfl byTake (by assumption)) ?_))
          (first | (refine KL.v rfl (Val.add rfl rfl (by simp only [Go.Proofs.YthamkgghnjenhaaGreat.lo, Go.Proofs.YthamkgghnjenhaaGreat.hi]; omega)) ?_) | (refine KL.v rfl (Val.addW rfl rfl) ?_))
          (refine KL.eN (Eff.mapUp rfl rfl rfl rfl byTake) ?_; rintro _ _ rfl)
          refine KL.nil ?_
          refine byCode ?_
          (first | (refine KL.v rfl (Val.add rfl rfl (by simp only [Go.Proofs.YthamkgghnjenhaaGreat.lo, Go.Proofs.YthamkgghnjenhaaGreat.hi]; omega)) ?_) | (refine KL.v rfl (Val.addW rfl rfl) ?_))
          (refine KL.v rfl (Val.move rfl) ?_)
          refine KL.nil ?_
          exact KE.again ⟨k + 1, mput ms c x (.int .i64 ((z + 1 : Nat) : Int)), mclk ms c x⟩ bySub byPart ⟨by show k + 1 ≤ _; omega, ok', hp, by show _ ≤ k + 1; dsimp only; omega⟩ (by show l.length - (k + 1) < l.length - k; omega)
      · have hp := hat.skip hx (fun g => h1 g.2)
        refine byCode ?_
        (first | (refine KL.v rfl (Val.idxSl rfl rfl rfl bySli rfl byLt) ?_) | (refine KL.v rfl (Val.idxSlZ rfl rfl rfl bySli rfl (by omega)) ?_) | (refine KL.v rfl (Val.indexS1 rfl rfl rfl rfl (by omega)) ?_) | (refine KL.v rfl (Val.indexS rfl rfl rfl rfl (by omega)) ?_) | (refine KL.v rfl (Val.indexSO rfl rfl rfl rfl (by omega)) ?_) | (refine KL.v rfl (Val.indexSG rfl rfl rfl rfl (by omega)) ?_))
        (refine KL.v rfl (Val.loadP rfl rfl bySee) ?_)
        (refine KL.v rfl (Val.assign rfl) ?_)
        refine KL.nil ?_
        refine byCode ?_
        (refine KL.v rfl (Val.move rfl) ?_)
        (first | (refine KL.v rfl (Val.isT (Val.geq rfl rfl) byLt) ?_) | (refine KL.v rfl (Val.isF (Val.geq rfl rfl) byLt) ?_) | (refine KL.v rfl (Val.geq rfl rfl) ?_))
        (refine KL.v rfl (Val.move rfl) ?_)
        (first | refine KL.skipG rfl rfl rfl ?_ | refine KL.skipU rfl rfl rfl ?_ | (refine KL.yes rfl rfl ?_; refine KL.v rfl (Val.move rfl) ?_))
        (first | refine KL.skipG rfl rfl rfl ?_ | refine KL.skipU rfl rfl rfl ?_ | (refine KL.yes rfl rfl ?_; refine KL.v rfl (Val.move rfl) ?_))
        (first | refine KL.skipG rfl rfl rfl ?_ | refine KL.skipU rfl rfl rfl ?_ | (refine KL.yes rfl rfl ?_; refine KL.v rfl (Val.lenSl rfl rfl bySli) ?_) | (refine KL.yes rfl rfl ?_; refine KL.v rfl (Val.lenS rfl rfl) ?_))
        (first | refine KL.skipG rfl rfl rfl ?_ | refine KL.skipU rfl rfl rfl ?_ | (refine KL.yes rfl rfl ?_; refine KL.v rfl (Val.isT (Val.lss rfl rfl) byLt) ?_) | (refine KL.yes rfl rfl ?_; refine KL.v rfl (Val.isF (Val.lss rfl rfl) byLt) ?_) | (refine KL.yes rfl rfl ?_; refine KL.v rfl (Val.lss rfl rfl) ?_))
        (first | (refine KL.v rfl (Val.pickT rfl rfl rfl) ?_) | (refine KL.v rfl (Val.pickF rfl rfl rfl) ?_) | (refine KL.v rfl (Val.pickB rfl rfl rfl) ?_))
        refine KL.nil ?_
        refine byCode ?_
        (first | (refine KL.v rfl (Val.add rfl rfl (by simp only [Go.Proofs.YthamkgghnjenhaaGreat.lo, Go.Proofs.YthamkgghnjenhaaGreat.hi]; omega)) ?_) | (refine KL.v rfl (Val.addW rfl rfl) ?_))
        (refine KL.v rfl (Val.move rfl) ?_)
        refine KL.nil ?_
        exact KE.again ⟨k + 1, ms, c⟩ bySub byPart ⟨by show k + 1 ≤ _; omega, ok, hp, by show ms.length ≤ k + 1; omega⟩ (by show l.length - (k + 1) < l.length - k; omega)
    · have hp := hat.skip hx (fun g => h0 g.1)
      refine byCode ?_
      (first | (refine KL.v rfl (Val.idxSl rfl rfl rfl bySli rfl byLt) ?_) | (refine KL.v rfl (Val.idxSlZ rfl rfl rfl bySli rfl (by omega)) ?_) | (refine KL.v rfl (Val.indexS1 rfl rfl rfl rfl (by omega)) ?_) | (refine KL.v rfl (Val.indexS rfl rfl rfl rfl (by omega)) ?_) | (refine KL.v rfl (Val.indexSO rfl rfl rfl rfl (by omega)) ?_) | (refine KL.v rfl (Val.indexSG rfl rfl rfl rfl (by omega)) ?_))
      (refine KL.v rfl (Val.loadP rfl rfl bySee) ?_)
      (refine KL.v rfl (Val.assign rfl) ?_)
      refine KL.nil ?_
      refine byCode ?_
      (refine KL.v rfl (Val.move rfl) ?_)
      (first | (refine KL.v rfl (Val.isT (Val.geq rfl rfl) byLt) ?_) | (refine KL.v rfl (Val.isF (Val.geq rfl rfl) byLt) ?_) | (refine KL.v rfl (Val.geq rfl rfl) ?_))
      (refine KL.v rfl (Val.move rfl) ?_)
      (first | refine KL.skipG rfl rfl rfl ?_ | refine KL.skipU rfl rfl rfl ?_ | (refine KL.yes rfl rfl ?_; refine KL.v rfl (Val.move rfl) ?_))
      (first | refine KL.skipG rfl rfl rfl ?_ | refine KL.skipU rfl rfl rfl ?_ | (refine KL.yes rfl rfl ?_; refine KL.v rfl (Val.move rfl) ?_))
      (first | refine KL.skipG rfl rfl rfl ?_ | refine KL.skipU rfl rfl rfl ?_ | (refine KL.yes rfl rfl ?_; refine KL.v rfl (Val.lenSl rfl rfl bySli) ?_) | (refine KL.yes rfl rfl ?_; refine KL.v rfl (Val.lenS rfl rfl) ?_))
      (first | refine KL.skipG rfl rfl rfl ?_ | refine KL.skipU rfl rfl rfl ?_ | (refine KL.yes rfl rfl ?_; refine KL.v rfl (Val.isT (Val.lss rfl rfl) byLt) ?_) | (refine KL.yes rfl rfl ?_; refine KL.v rfl (Val.isF (Val.lss rfl rfl) byLt) ?_) | (refine KL.yes rfl rfl ?_; refine KL.v rfl (Val.lss rfl rfl) ?_))
      (first | (refine KL.v rfl (Val.pickT rfl rfl rfl) ?_) | (refine KL.v rfl (Val.pickF rfl rfl rfl) ?_) | (refine KL.v rfl (Val.pickB rfl rfl rfl) ?_))
      refine KL.nil ?_
      refine byCode ?_
      (first | (refine KL.v rfl (Val.add rfl rfl (by simp only [Go.Proofs.YthamkgghnjenhaaGreat.lo, Go.Proofs.YthamkgghnjenhaaGreat.hi]; omega)) ?_) | (refine KL.v rfl (Val.addW rfl rfl) ?_))
      (refine KL.v rfl (Val.move rfl) ?_)
      refine KL.nil ?_
      exact KE.again ⟨k + 1, ms, c⟩ bySub byPart ⟨by show k + 1 ≤ _; omega, ok, hp, by show ms.length ≤ k + 1; omega⟩ (by show l.length - (k + 1) < l.length - k; omega)
  · have hke : l.take k = l := List.take_of_length_le (by omega)
    refine byCode ?_
    (first | (refine KL.v rfl (Val.isT (Val.lss rfl rfl) byLt) ?_) | (refine KL.v rfl (Val.isF (Val.lss rfl rfl) byLt) ?_) | (refine KL.v rfl (Val.lss rfl rfl) ?_))
    refine KL.nil ?_
    refine byCode ?_
    (refine KL.v rfl (Val.move rfl) ?_)
    (refine KL.callc rfl rfl byEvL fun T hT => ?_)
    refine (CallV.fn (Keys_K rfl)).mono ?_
    rintro _ _ ⟨b1, rfl, rfl⟩
    refine hT _ _ ?_; clear hT; clear T
    (refine KL.callc rfl rfl byEvL fun T hT => ?_)
    refine (CallV.fn (Sorted_K ok (by omega))).mono ?_
    rintro _ _ ⟨ks, o, hks, hs, oks, rfl, rfl⟩
    refine hT _ _ ?_; clear hT; clear T
    have hkk : ks = hereP gs.length l := sorted_ext hs (hereP_sorted _ _) fun x => by
      rw [hks.1 x, mem_keys, hereP_mem]
      rcases hat x with ⟨g1, g2⟩ | ⟨z', g1, g2, g3⟩
      · rw [hke] at g2
        exact ⟨fun h => absurd g1 h, fun h => absurd h g2⟩
      · rw [hke] at g3
        exact ⟨fun _ => g3, fun _ => by rw [g2]; simp⟩
    subst hkk
    (refine KL.v rfl (Val.assign rfl) ?_)
    refine KL.nil ?_
    refine byCode ?_
    exact KE.fin byMarks rfl byRes byPart ⟨o, oks, rfl, rfl⟩
end Go.Proofs.YthamkgghnjenhaaGreat
namespace Go.Proofs.YthamkgghnjenhaaGreat
open Go.RowKit
set_option linter.unusedVariables false
set_option linter.unusedSimpArgs false

structure XS where
  k : Nat
  A : Heap

set_option maxRecDepth 10000 in
set_option maxHeartbeats 1000000 in
/-- the function f is called on each element, in order, until it says yes; J: what it keeps, by what it has been called on -/
theorem IndexFunc_K {w0 : World} {R A0 : Heap} {v fv : Value} {l : List Int} (p : Int → Bool) (J : List Int → Heap → Prop) (hS : ∀ A, Sli w0 (A ++ R) iE v l) (hl : l.length ≤ 100000)
    (hy : ∀ k x A, l[k]? = some x → J (l.take k) A → CallV Tryz.prog w0 fv [.int .i64 x] (A ++ R) (fun r H' => r = .bool (p x) ∧ ∃ A', J (l.take (k + 1)) A' ∧ H' = A' ++ R)) (h0 : J [] A0) :
    Call Tryz.prog w0 106 [v, fv] (A0 ++ R)
      (fun r H' => ∃ A', H' = A' ++ R ∧ ((∃ (k : Nat) (x : Int), l[k]? = some x ∧ p x = true ∧ (∀ y ∈ l.take k, p y = false) ∧ J (l.take (k + 1)) A' ∧ r = .int .i64 (k : Nat)) ∨ ((∀ y ∈ l, p y = false) ∧ J l A' ∧ r = .int .i64 (-1)))) := by
  refine Call.enter (n := 19) [(0, v), (1, fv)] (by kernel_rfl) Tryz.func106 rfl rfl rfl ⟨rfl, rfl, trivial⟩ ?_
  have hs0 := hS A0
  refine byCode ?_
  (refine KL.v rfl (Val.assign rfl) ?_)
  refine KL.nil ?_
  refine byCode ?_
  (refine KL.v rfl (Val.move rfl) ?_)
  (first | (refine KL.v rfl (Val.lenSl rfl rfl bySli) ?_) | (refine KL.v rfl (Val.lenS rfl rfl) ?_))
  (refine KL.v rfl (Val.move rfl) ?_)
  refine KL.nil ?_
  clear hs0
  refine byBlk ?_
  refine K.loop (σ := XS) (fun s => [(8, .int .i64 (s.k : Nat)), (7, .int .i64 (l.length : Nat)), (0, v), (1, fv)]) (fun s => s.A ++ R)
    (fun s => s.k ≤ l.length ∧ J (l.take s.k) s.A ∧ ∀ y ∈ l.take s.k, p y = false) (fun s => l.length - s.k) ⟨0, A0⟩ bySub byPart ⟨by simp, by simpa using h0, by simp⟩ ?_
  rintro ⟨k, A⟩ ⟨hk, hJ, hn⟩
  dsimp only at hk hJ hn ⊢
  have hs := hS A
  by_cases hlt : k < l.length
  · obtain ⟨x, hx⟩ := get_of_lt hlt
    refine byCode ?_
    (first | (refine KL.v rfl (Val.isT (Val.lss rfl rfl) byLt) ?_) | (refine KL.v rfl (Val.isF (Val.lss rfl rfl) byLt) ?_) | (refine KL.v rfl (Val.lss rfl rfl) ?_))
    refine KL.nil ?_
    refine byCode ?_
    refine K.seq (K.block ?_)
    refine byCode ?_
    (refine KL.v rfl (Val.move rfl) ?_)
    (refine KL.v rfl (Val.assign rfl) ?_)
    refine KL.nil ?_
    refine byCode ?_
    (refine KL.v rfl (Val.move rfl) ?_)
    (refine KL.v rfl (Val.move rfl) ?_)
    (refine KL.v rfl (Val.move rfl) ?_)
    (first | (refine KL.v rfl (Val.idxSl rfl rfl rfl bySli rfl byLt) ?_) | (refine KL.v rfl (Val.idxSlZ rfl rfl rfl bySli rfl (by omega)) ?_) | (refine KL.v rfl (Val.indexS1 rfl rfl rfl rfl (by omega)) ?_) | (refine KL.v rfl (Val.indexS rfl rfl rfl rfl (by omega)) ?_) | (refine KL.v rfl (Val.indexSO rfl rfl rfl rfl (by omega)) ?_) | (refine KL.v rfl (Val.indexSG rfl rfl rfl rfl (by omega)) ?_))
    (refine KL.v rfl (Val.loadP rfl rfl bySee) ?_)
    (refine KL.callc rfl rfl byEvL fun T hT => ?_)
    refine (hy k x A hx hJ).mono ?_
    rintro _ _ ⟨rfl, A', hJ', rfl⟩
    clear hs
    cases hp : p x with
    | true =>
      refine hT _ _ ?_; clear hT; clear T
      refine KL.nil ?_
      refine byCode ?_
      (refine KL.v rfl (Val.move rfl) ?_)
      (refine KL.v rfl (Val.assign rfl) ?_)
      refine KL.nil ?_
      refine byCode ?_
      exact KE.fin byMarks rfl byRes byPart ⟨A', rfl, .inl ⟨k, x, hx, hp, hn, hJ', rfl⟩⟩
    | false =>
      refine hT _ _ ?_; clear hT; clear T
      refine KL.nil ?_
      refine byCode ?_
      (first | (refine KL.v rfl (Val.add rfl rfl (by simp only [Go.Proofs.YthamkgghnjenhaaGreat.lo, Go.Proofs.YthamkgghnjenhaaGreat.hi]; omega)) ?_) | (refine KL.v rfl (Val.addW rfl rfl) ?_))
      (refine KL.v rfl (Val.move rfl) ?_)
      refine KL.nil ?_
      exact KE.again ⟨k + 1, A'⟩ bySub byPart ⟨by show k + 1 ≤ _; omega, hJ', fun y hy' => by
        rw [take_snoc hx] at hy'
        rcases List.mem_append.1 hy' with h | h
        · exact hn y h
        · rw [List.mem_singleton.1 h]; exact hp⟩ (by show l.length - (k + 1) < l.length - k; omega)
  · have hke : l.take k = l := List.take_of_length_le (by omega)
    rw [hke] at hJ hn
    refine byCode ?_
    (first | (refine KL.v rfl (Val.isT (Val.lss rfl rfl) byLt) ?_) | (refine KL.v rfl (Val.isF (Val.lss rfl rfl) byLt) ?_) | (refine KL.v rfl (Val.lss rfl rfl) ?_))
    refine KL.nil ?_
    refine byCode ?_
    (refine KL.v rfl (Val.assign rfl) ?_)
    refine KL.nil ?_
    refine byCode ?_
    exact KE.fin byMarks rfl byRes byPart ⟨A, rfl, .inr ⟨hn, hJ, rfl⟩⟩
end Go.Proofs.YthamkgghnjenhaaGreat
namespace Go.Proofs.YthamkgghnjenhaaGreat
open Go.RowKit
set_option linter.unusedVariables false
set_option linter.unusedSimpArgs false

section
variable {P : Program} {w0 : World} {H F : Heap} {m : Slots} {ty : TypeId}
theorem zeroCells1 (z : Value) (n : Nat) : (Builtin.zeroCells #[z] n).toList = List.replicate n z := by
  apply List.ext_getElem?
  intro i
  simp only [Builtin.zeroCells]
  rw [List.getElem?_replicate]
  by_cases h : i < n
  · simp [h, Nat.mod_one]
  · simp [h]
/-- clear(s[i:]) of an own slice of ints -/
theorem Eff.clearI {x : Operand} {t e : TypeId} {zs : List Int} {o : Own} {i : Nat} (hx : evO m x = some (subV (oV o zs.length) i zs.length 1)) (ht : sliceElem P t = some e) (hz : (P.info? e).map (·.zero) = some (some (.int .i64 0))) (hi : i ≤ zs.length)
    (hT : TakeL (oH iE e zs o) H F) (ok : oOk iE zs o) :
    Eff P w0 H m ty (.call { callee := .builtin .clear, args := #[x], argTypes := #[t] }) (fun v H' => H' = oH iE e (zs.take i ++ List.replicate (zs.length - i) 0) o ++ F) := by
  refine ⟨by simp [covOp, covCall, cov, hx], fun w d pos af g hw0 => ?_⟩
  have hw := hw0.takeL hT
  have hu : P.underlying t = some (.slice e) := by unfold sliceElem at ht; split at ht <;> simp_all
  obtain ⟨inf, hi1, hi2⟩ := Option.map_eq_some_iff.1 hz
  have hzv : (zeroValue e).run P w = .ok (.int .i64 0) w := by simp [zeroValue, typeInfo, program, hi1, hi2, Sem.run, Bind.bind, Sem.bind, Pure.pure]
  by_cases hin : i = zs.length
  · have e1 : zs.take i ++ List.replicate (zs.length - i) 0 = zs := by rw [hin, List.take_length]; simp
    rw [e1]
    have e2 : ∃ a c, subV (oV o zs.length) i zs.length 1 = .slice a 0 c := by
      cases o with
      | none => exact ⟨_, _, by simp only [oV, subV, hin, Nat.sub_self]; rfl⟩
      | some ob => exact ⟨_, _, by simp only [oV, subV, hin, Nat.sub_self]; rfl⟩
    obtain ⟨a, c, e2⟩ := e2
    rw [e2] at hx
    have e3 : (Builtin.clear_ #[t] ty #[.slice a 0 c]).run P w = .ok (.tuple #[]) w := by
      cases a <;> simp [Builtin.clear_, run_und w hu]
    have e4 : (execOp (evS m) ⟨d, .call { callee := .builtin .clear, args := #[x], argTypes := #[t] }, ty, pos, af, g⟩).run P w = .ok (.value (.tuple #[])) w := by
      simp [execOp, resolve, invoke, builtin, evS, hx, e3]
    rw [e4]
    exact ⟨_, hw, rfl⟩
  · cases o with
    | none => simp only [oOk] at ok; subst ok; simp at hin hi; omega
    | some ob =>
      obtain ⟨h1, h2, h3⟩ := ok
      have hsz : iE.sz = 1 := rfl
      rw [hsz] at h3
      have e2 : subV (oV (some ob) zs.length) i zs.length 1 = .slice (some ⟨ob.b, i, none⟩) (zs.length - i) (ob.c - i) := by
        simp only [oV, subV]
        rw [if_neg (by omega)]
        simp [Addr.add]
        try omega
      rw [e2] at hx
      have hfl := flat_iE zs
      have hst := run_storeCells_at P ob.b i e (List.replicate (zs.length - i) (Value.int .i64 0)) 0 (flat iE zs ++ ob.tl).toArray w (hw.get _ (.head _)) (by simp [hfl]; omega) (by intro v hv; rw [(List.mem_replicate.1 hv).2]; rfl)
      simp only [Nat.add_zero] at hst
      have hcl : (Value.int .i64 0).cells = #[.int .i64 0] := rfl
      obtain ⟨n, hn⟩ : ∃ n, zs.length - i = n + 1 := ⟨zs.length - i - 1, by omega⟩
      have e3 : (Builtin.clear_ #[t] ty #[.slice (some ⟨ob.b, i, none⟩) (zs.length - i) (ob.c - i)]).run P w = .ok (.tuple #[]) (w.setRow ob.b (laid (flat iE zs ++ ob.tl) i (List.replicate (zs.length - i) (Value.int .i64 0))).toArray) := by
        rw [hn] at hst ⊢
        simp [Builtin.clear_, run_und w hu, hzv, hcl, zeroCells1, hst, laid]
      have e4 : (execOp (evS m) ⟨d, .call { callee := .builtin .clear, args := #[x], argTypes := #[t] }, ty, pos, af, g⟩).run P w = .ok (.value (.tuple #[])) (w.setRow ob.b (laid (flat iE zs ++ ob.tl) i (List.replicate (zs.length - i) (Value.int .i64 0))).toArray) := by
        simp [execOp, resolve, invoke, builtin, evS, hx, e3]
      rw [e4]
      refine ⟨_, hw.setRow, ?_⟩
      simp only [oH, List.cons_append, List.nil_append, cells]
      congr 3
      rw [flat_append, flat_iE, flat_iE, flat_iE]
      unfold laid
      simp only [List.length_replicate, List.map_replicate, List.map_take]
      rw [List.take_append_of_le_length (by simp; omega), List.drop_append_of_le_length (by simp; omega), List.drop_of_length_le (by simp; omega)]
      simp
end

structure DS where
  i : Nat
  j : Nat
  zs : List Int
  A : Heap
def DelAt (p : Int → Bool) (l : List Int) (i j : Nat) (zs : List Int) : Prop := zs.length = l.length ∧ zs.take i = (l.take j).filter (fun x => !p x) ∧ zs.drop j = l.drop j ∧ i < j ∧ j ≤ l.length
theorem DelAt.no {p : Int → Bool} {l zs : List Int} {i j : Nat} {x : Int} (h : DelAt p l i j zs) (hx : l[j]? = some x) (hp : p x = true) : DelAt p l i (j + 1) zs := by
  obtain ⟨h1, h2, h3, h4, h5⟩ := h
  have := lt_of_get hx
  refine ⟨h1, by rw [take_snoc hx, List.filter_append, h2]; simp [hp], ?_, by omega, by omega⟩
  have := congrArg (List.drop 1) h3
  simpa [List.drop_drop] using this
theorem DelAt.yes {p : Int → Bool} {l zs : List Int} {i j : Nat} {x : Int} (h : DelAt p l i j zs) (hx : l[j]? = some x) (hp : p x = false) : DelAt p l (i + 1) (j + 1) (zs.set i x) := by
  obtain ⟨h1, h2, h3, h4, h5⟩ := h
  have hj := lt_of_get hx
  refine ⟨by simpa using h1, ?_, ?_, by omega, by omega⟩
  · have e1 : (zs.set i x)[i]? = some x := List.getElem?_set_self (by omega)
    rw [take_snoc hx, take_snoc e1, List.filter_append, ← h2, List.take_set_of_le (Nat.le_refl _)]; simp [hp]
  · rw [List.drop_set_of_lt (by omega)]
    have := congrArg (List.drop 1) h3
    simpa [List.drop_drop] using this
theorem DelAt.at_ {p : Int → Bool} {l zs : List Int} {i j : Nat} {x : Int} (h : DelAt p l i j zs) (hx : l[j]? = some x) : zs[j]? = some x := by
  obtain ⟨h1, h2, h3, h4, h5⟩ := h
  have e1 : (zs.drop j)[0]? = (l.drop j)[0]? := by rw [h3]
  simpa [List.getElem?_drop, hx] using e1
theorem own_cut {zs : List Int} {o : Own} {e : TypeId} {i : Nat} (ok : oOk iE zs o) (hi : i ≤ zs.length) : ∃ o', oOk iE (zs.take i) o' ∧ subV (oV o zs.length) 0 i 1 = oV o' (zs.take i).length ∧ oH iE e zs o = oH iE e (zs.take i) o' := by
  have hl : (zs.take i).length = i := by rw [List.length_take]; omega
  rw [hl]
  cases o with
  | none =>
    simp only [oOk] at ok
    subst ok
    simp at hi
    subst hi
    exact ⟨none, rfl, rfl, rfl⟩
  | some ob =>
    obtain ⟨h1, h2, h3⟩ := ok
    have hsz : iE.sz = 1 := rfl
    refine ⟨some ⟨ob.b, ob.c, flat iE (zs.drop i) ++ ob.tl⟩, ⟨by rw [hl]; show i ≤ ob.c; omega, h2, ?_⟩, ?_, ?_⟩
    · have h3' : zs.length * 1 + ob.tl.length = ob.c * 1 := h3
      show (zs.take i).length * 1 + (flat iE (zs.drop i) ++ ob.tl).length = ob.c * 1
      rw [hl]
      simp only [List.length_append, flat_iE, List.length_map, List.length_drop]
      omega
    · simp only [oV, subV]
      by_cases hc : ob.c = 0
      · rw [if_pos hc]; simp
      · rw [if_neg hc]; simp [Addr.add]
    · simp only [oH]
      rw [← List.append_assoc, ← flat_append, List.take_append_drop]

set_option maxRecDepth 10000 in
set_option maxHeartbeats 1000000 in
theorem DeleteFunc_K {w0 : World} {F A0 : Heap} {fv : Value} {l : List Int} {o : Own} (p : Int → Bool) (J : List Int → Heap → Prop) (ok : oOk iE l o) (hl : l.length ≤ 100000)
    (hy : ∀ k x A R, l[k]? = some x → J (l.take k) A → CallV Tryz.prog w0 fv [.int .i64 x] (A ++ R) (fun r H' => r = .bool (p x) ∧ ∃ A', J (l.take (k + 1)) A' ∧ H' = A' ++ R)) (h0 : J [] A0) :
    Call Tryz.prog w0 102 [oV o l.length, fv] (oH iE 3 l o ++ (A0 ++ F))
      (fun r H' => ∃ A' o', oOk iE (l.filter fun x => !p x) o' ∧ J l A' ∧ r = oV o' (l.filter fun x => !p x).length ∧ H' = oH iE 3 (l.filter fun x => !p x) o' ++ (A' ++ F)) := by
  refine Call.enter (n := 42) [(0, oV o l.length), (1, fv)] (by kernel_rfl) Tryz.func102 rfl rfl rfl ⟨rfl, rfl, trivial⟩ ?_
  refine byCode ?_
  (refine KL.v rfl (Val.assign rfl) ?_)
  refine KL.nil ?_
  refine byCode ?_
  (refine KL.v rfl (Val.move rfl) ?_)
  (refine KL.v rfl (Val.move rfl) ?_)
  (refine KL.callc rfl rfl byEvL fun T hT => ?_)
  refine (CallV.part (CallV.fn (IndexFunc_K (R := oH iE 3 l o ++ F) (A0 := A0) (l := l) p J (fun A => Sli.own byTakeL ok rfl) hl (fun k x A hx hJ => hy k x A _ hx hJ) h0)) byPart).mono ?_
  rintro _ _ ⟨A1, rfl, (⟨k0, x0, hx0, hp0, hn0, hJ0, rfl⟩ | ⟨hall, hJ, rfl⟩)⟩
  · refine hT _ _ ?_; clear hT; clear T
    (refine KL.v rfl (Val.assign rfl) ?_)
    refine KL.nil ?_
    have hk0 := lt_of_get hx0
    refine byCode ?_
    (refine KL.v rfl (Val.move rfl) ?_)
    (first | (refine KL.v rfl (Val.isT (Val.eql rfl rfl) byLt) ?_) | (refine KL.v rfl (Val.isF (Val.eql rfl rfl) byLt) ?_) | (refine KL.v rfl (Val.eql rfl rfl) ?_))
    refine KL.nil ?_
    refine byCode ?_
    (refine KL.v rfl (Val.move rfl) ?_)
    (first | (refine KL.v rfl (Val.add rfl rfl (by simp only [Go.Proofs.YthamkgghnjenhaaGreat.lo, Go.Proofs.YthamkgghnjenhaaGreat.hi]; omega)) ?_) | (refine KL.v rfl (Val.addW rfl rfl) ?_))
    (refine KL.v rfl (Val.assign rfl) ?_)
    refine KL.nil ?_
    refine byBlk ?_
    refine K.loop (σ := DS) (fun s => [(5, .int .i64 (s.i : Nat)), (6, .int .i64 (s.j : Nat)), (0, oV o s.zs.length), (1, fv)]) (fun s => oH iE 3 s.zs o ++ (s.A ++ F))
      (fun s => DelAt p l s.i s.j s.zs ∧ J (l.take s.j) s.A ∧ oOk iE s.zs o) (fun s => l.length - s.j) ⟨k0, k0 + 1, l, A1⟩ bySub byPart ⟨⟨rfl, by
        rw [take_snoc hx0, List.filter_append]
        have : (l.take k0).filter (fun x => !p x) = l.take k0 := List.filter_eq_self.2 fun y hy' => by simp [hn0 y hy']
        rw [this]; simp [hp0], rfl, by show k0 < k0 + 1; omega, by show k0 + 1 ≤ _; omega⟩, hJ0, ok⟩ ?_
    rintro ⟨i, j, zs, A⟩ ⟨hD, hJ, okz⟩
    dsimp only at hD hJ okz ⊢
    have hzl := hD.1
    have hij := hD.2.2.2.1
    have hjl := hD.2.2.2.2
    by_cases hlt : j < l.length
    · obtain ⟨x, hx⟩ := get_of_lt hlt
      have hxz := hD.at_ hx
      refine byCode ?_
      (refine KL.v rfl (Val.move rfl) ?_)
      (refine KL.v rfl (Val.move rfl) ?_)
      (first | (refine KL.v rfl (Val.lenSl rfl rfl bySli) ?_) | (refine KL.v rfl (Val.lenS rfl rfl) ?_))
      (first | (refine KL.v rfl (Val.isT (Val.lss rfl rfl) byLt) ?_) | (refine KL.v rfl (Val.isF (Val.lss rfl rfl) byLt) ?_) | (refine KL.v rfl (Val.lss rfl rfl) ?_))
      refine KL.nil ?_
      refine byCode ?_
      refine K.seq (K.block ?_)
      refine byCode ?_
      (refine KL.v rfl (Val.move rfl) ?_)
      (refine KL.v rfl (Val.move rfl) ?_)
      (first | (refine KL.v rfl (Val.idxSl rfl rfl rfl bySli rfl byLt) ?_) | (refine KL.v rfl (Val.idxSlZ rfl rfl rfl bySli rfl (by omega)) ?_) | (refine KL.v rfl (Val.indexS1 rfl rfl rfl rfl (by omega)) ?_) | (refine KL.v rfl (Val.indexS rfl rfl rfl rfl (by omega)) ?_) | (refine KL.v rfl (Val.indexSO rfl rfl rfl rfl (by omega)) ?_) | (refine KL.v rfl (Val.indexSG rfl rfl rfl rfl (by omega)) ?_))
      (refine KL.v rfl (Val.loadP rfl rfl bySee) ?_)
      (refine KL.v rfl (Val.assign rfl) ?_)
      refine KL.nil ?_
      refine byCode ?_
      (refine KL.v rfl (Val.move rfl) ?_)
      (refine KL.v rfl (Val.move rfl) ?_)
      (refine KL.callc rfl rfl byEvL fun T hT => ?_)
      refine (CallV.part (hy j x A (oH iE 3 zs o ++ F) hx hJ) byPart).mono ?_
      rintro _ _ ⟨rfl, A', hJ', rfl⟩
      cases hp : p x with
      | true =>
        refine hT _ _ ?_; clear hT; clear T
        (first | (refine KL.v rfl (Val.notT rfl) ?_) | (refine KL.v rfl (Val.notF rfl) ?_) | (refine KL.v rfl (Val.not rfl) ?_) | (refine KL.v rfl (Val.notB rfl) ?_))
        refine KL.nil ?_
        refine byCode ?_
        (refine KL.v rfl (Val.move rfl) ?_)
        (first | (refine KL.v rfl (Val.add rfl rfl (by simp only [Go.Proofs.YthamkgghnjenhaaGreat.lo, Go.Proofs.YthamkgghnjenhaaGreat.hi]; omega)) ?_) | (refine KL.v rfl (Val.addW rfl rfl) ?_))
        (refine KL.v rfl (Val.assign rfl) ?_)
        refine KL.nil ?_
        exact KE.again ⟨i, j + 1, zs, A'⟩ bySub byPart ⟨hD.no hx hp, hJ', okz⟩ (by show l.length - (j + 1) < l.length - j; omega)
      | false =>
        obtain ⟨y, hyi⟩ := get_of_lt (l := zs) (k := i) (by omega)
        refine hT _ _ ?_; clear hT; clear T
        (first | (refine KL.v rfl (Val.notT rfl) ?_) | (refine KL.v rfl (Val.notF rfl) ?_) | (refine KL.v rfl (Val.not rfl) ?_) | (refine KL.v rfl (Val.notB rfl) ?_))
        refine KL.nil ?_
        refine byCode ?_
        (refine KL.v rfl (Val.move rfl) ?_)
        (refine KL.v rfl (Val.move rfl) ?_)
        (refine KL.v rfl (Val.move rfl) ?_)
        (first | (refine KL.v rfl (Val.idxSl rfl rfl rfl bySli rfl byLt) ?_) | (refine KL.v rfl (Val.idxSlZ rfl rfl rfl bySli rfl (by omega)) ?_) | (refine KL.v rfl (Val.indexS1 rfl rfl rfl rfl (by omega)) ?_) | (refine KL.v rfl (Val.indexS rfl rfl rfl rfl (by omega)) ?_) | (refine KL.v rfl (Val.indexSO rfl rfl rfl rfl (by omega)) ?_) | (refine KL.v rfl (Val.indexSG rfl rfl rfl rfl (by omega)) ?_))
        (first | (refine KL.eN (Eff.stSl (x1 := x) rfl rfl rfl rfl byTakeL (by assumption) (by assumption) rfl rfl) ?_; rintro _ _ rfl) | (refine KL.eN (Eff.stSl0 (x1 := x) rfl rfl rfl rfl byTakeL (by assumption) (by assumption) rfl rfl) ?_; rintro _ _ rfl))
        refine KL.nil ?_
        refine byCode ?_
        (refine KL.v rfl (Val.move rfl) ?_)
        (first | (refine KL.v rfl (Val.add rfl rfl (by simp only [Go.Proofs.YthamkgghnjenhaaGreat.lo, Go.Proofs.YthamkgghnjenhaaGreat.hi]; omega)) ?_) | (refine KL.v rfl (Val.addW rfl rfl) ?_))
        (refine KL.v rfl (Val.assign rfl) ?_)
        refine KL.nil ?_
        refine byCode ?_
        (refine KL.v rfl (Val.move rfl) ?_)
        (first | (refine KL.v rfl (Val.add rfl rfl (by simp only [Go.Proofs.YthamkgghnjenhaaGreat.lo, Go.Proofs.YthamkgghnjenhaaGreat.hi]; omega)) ?_) | (refine KL.v rfl (Val.addW rfl rfl) ?_))
        (refine KL.v rfl (Val.assign rfl) ?_)
        refine KL.nil ?_
        exact KE.again ⟨i + 1, j + 1, zs.set i x, A'⟩ bySub byPart ⟨hD.yes hx hp, hJ', by simpa [oOk] using okz⟩ (by show l.length - (j + 1) < l.length - j; omega)
    · have hje : l.take j = l := List.take_of_length_le (by omega)
      obtain ⟨_, h2, _, _, _⟩ := hD
      rw [hje] at h2 hJ
      have hiz : i ≤ zs.length := by omega
      refine byCode ?_
      (refine KL.v rfl (Val.move rfl) ?_)
      (refine KL.v rfl (Val.move rfl) ?_)
      (first | (refine KL.v rfl (Val.lenSl rfl rfl bySli) ?_) | (refine KL.v rfl (Val.lenS rfl rfl) ?_))
      (first | (refine KL.v rfl (Val.isT (Val.lss rfl rfl) byLt) ?_) | (refine KL.v rfl (Val.isF (Val.lss rfl rfl) byLt) ?_) | (refine KL.v rfl (Val.lss rfl rfl) ?_))
      refine KL.nil ?_
      refine byCode ?_
      (refine KL.v rfl (Val.move rfl) ?_)
      (refine KL.v rfl (Val.move rfl) ?_)
      (first | (refine KL.v rfl (Val.sliceL rfl rfl rfl bySli rfl byLt) ?_) | (refine KL.v rfl (Val.sliceLZ rfl rfl rfl bySli rfl (by omega)) ?_))
      (refine KL.eN (Eff.clearI (zs := zs) (o := o) (i := i) rfl rfl rfl hiz byTakeL okz) ?_; rintro _ _ rfl)
      refine KL.nil ?_
      have hzs : (zs.take i ++ List.replicate (zs.length - i) 0).length = zs.length := by simp; omega
      have okc : oOk iE (zs.take i ++ List.replicate (zs.length - i) 0) o := by
        cases o with
        | none => simp only [oOk] at okz ⊢; subst okz; simp
        | some ob => simpa only [oOk, hzs] using okz
      obtain ⟨o', ok', hv, hH⟩ := own_cut (e := 3) okc (i := i) (by rw [hzs]; exact hiz)
      have htk : (zs.take i ++ List.replicate (zs.length - i) 0).take i = l.filter fun x => !p x := by
        rw [List.take_append_of_le_length (by simp; omega), List.take_take, Nat.min_self, h2]
      rw [htk] at ok' hv hH
      rw [hzs] at hv
      have hsl : Sli w0 (oH iE 3 (zs.take i ++ List.replicate (zs.length - i) 0) o ++ (A ++ F)) iE (oV o zs.length) (zs.take i ++ List.replicate (zs.length - i) 0) := Sli.own TakeL.head okc hzs.symm
      refine byCode ?_
      (refine KL.v rfl (Val.move rfl) ?_)
      (refine KL.v rfl (Val.move rfl) ?_)
      (refine KL.v rfl (Val.sliceH rfl rfl rfl bySli rfl byLt) ?_)
      (refine KL.v rfl (Val.assign rfl) ?_)
      refine KL.nil ?_
      refine byCode ?_
      rw [hH]
      exact KE.fin byMarks rfl byRes byPart ⟨A, o', ok', hJ, by exact hv, rfl⟩
  · refine hT _ _ ?_; clear hT; clear T
    (refine KL.v rfl (Val.assign rfl) ?_)
    refine KL.nil ?_
    refine byCode ?_
    (refine KL.v rfl (Val.move rfl) ?_)
    (first | (refine KL.v rfl (Val.isT (Val.eql rfl rfl) byLt) ?_) | (refine KL.v rfl (Val.isF (Val.eql rfl rfl) byLt) ?_) | (refine KL.v rfl (Val.eql rfl rfl) ?_))
    refine KL.nil ?_
    refine byCode ?_
    (refine KL.v rfl (Val.move rfl) ?_)
    (refine KL.v rfl (Val.assign rfl) ?_)
    refine KL.nil ?_
    refine byCode ?_
    have hf : l.filter (fun x => !p x) = l := List.filter_eq_self.2 fun y hy' => by simp [hall y hy']
    rw [hf]
    exact KE.fin byMarks rfl byRes byPart ⟨A1, o, ok, hJ, rfl, rfl⟩
end Go.Proofs.YthamkgghnjenhaaGreat
namespace Go.Proofs.YthamkgghnjenhaaGreat
open Go.RowKit
set_option linter.unusedVariables false
set_option linter.unusedSimpArgs false

/-- the map counts the members of S, each at most q times -/
def SeenAt (S : List Int) (q : Nat) (ms : List ME) : Prop := ∀ y, (mget ms y = none ∧ y ∉ S) ∨ ∃ z : Nat, 1 ≤ z ∧ z ≤ q ∧ mget ms y = some (.int .i64 z) ∧ y ∈ S
theorem SeenAt.nil : SeenAt [] 0 [] := fun y => .inl ⟨rfl, by simp⟩
theorem SeenAt.put {S : List Int} {q c z : Nat} {ms : List ME} (h : SeenAt S q ms) (ok : MOk ms c) (x : Int) (h1 : 1 ≤ z) (h2 : z ≤ q + 1) : SeenAt (S ++ [x]) (q + 1) (mput ms c x (.int .i64 z)) := by
  intro y
  rw [mget_put ok]
  by_cases hy : y = x
  · subst hy
    rw [if_pos rfl]
    exact .inr ⟨z, h1, h2, rfl, by simp⟩
  · rw [if_neg hy]
    rcases h y with ⟨g1, g2⟩ | ⟨z', g1, g2, g3, g4⟩
    · exact .inl ⟨g1, by simp [hy, g2]⟩
    · exact .inr ⟨z', g1, by omega, g3, by simp [g4]⟩

set_option maxRecDepth 10000 in
theorem seen1_K {w0 : World} {F : Heap} {b bm c q : Nat} {ms : List ME} {S : List Int} {x : Int} (ok : MOk ms c) (hs : SeenAt S q ms) (hq : q ≤ 1000000) :
    Call Tryz.prog w0 104 [.int .i64 x, .pointer (some ⟨b, 0, none⟩)] ((b, cells [.map (some bm)] 55) :: (bm, mobj ms c) :: F)
      (fun r H' => r = .bool (decide (x ∈ S)) ∧ ∃ ms' c', MOk ms' c' ∧ SeenAt (S ++ [x]) (q + 1) ms' ∧ H' = (b, cells [.map (some bm)] 55) :: (bm, mobj ms' c') :: F) := by
  refine Call.enter (n := 12) [(0, .int .i64 x), (1, .pointer (some ⟨b, 0, none⟩))] (by kernel_rfl) Tryz.func104 rfl rfl rfl ⟨rfl, rfl, trivial⟩ ?_
  rcases hs x with ⟨g1, g2⟩ | ⟨z, h1, h2, g1, g2⟩
  · have hg : mget (mput ms c x (.int .i64 1)) x = some (.int .i64 1) := by rw [mget_put ok, if_pos rfl]
    refine byCode ?_
    (refine KL.v rfl (Val.assign rfl) ?_)
    refine KL.nil ?_
    refine byCode ?_
    (refine KL.v rfl (Val.loadP rfl rfl bySee) ?_)
    (refine KL.v rfl (Val.move rfl) ?_)
    (first | (refine KL.v rfl (Val.lookS rfl rfl rfl byTake (by assumption)) ?_) | (refine KL.v rfl (Val.look0 rfl rfl rfl rfl byTake (by assumption)) ?_))
    (first | (refine KL.v rfl (Val.add rfl rfl (by simp only [Go.Proofs.YthamkgghnjenhaaGreat.lo, Go.Proofs.YthamkgghnjenhaaGreat.hi]; omega)) ?_) | (refine KL.v rfl (Val.addW rfl rfl) ?_))
    (refine KL.eN (Eff.mapUp rfl rfl rfl rfl byTake) ?_; rintro _ _ rfl)
    refine KL.nil ?_
    clear g1
    refine byCode ?_
    (refine KL.v rfl (Val.loadP rfl rfl bySee) ?_)
    (refine KL.v rfl (Val.move rfl) ?_)
    (first | (refine KL.v rfl (Val.lookS rfl rfl rfl byTake (by assumption)) ?_) | (refine KL.v rfl (Val.look0 rfl rfl rfl rfl byTake (by assumption)) ?_))
    (first | (refine KL.v rfl (Val.isT (Val.gtr rfl rfl) byLt) ?_) | (refine KL.v rfl (Val.isF (Val.gtr rfl rfl) byLt) ?_) | (refine KL.v rfl (Val.gtr rfl rfl) ?_))
    (refine KL.v rfl (Val.assign rfl) ?_)
    refine KL.nil ?_
    refine byCode ?_
    exact KE.fin byMarks rfl byRes byPart ⟨by rw [decide_eq_false g2]; rfl, _, _, ok.put x (.int .i64 1), hs.put ok x (z := 1) (by omega) (by omega), rfl⟩
  · have hg : mget (mput ms c x (.int .i64 ((z : Int) + 1))) x = some (.int .i64 ((z : Int) + 1)) := by rw [mget_put ok, if_pos rfl]
    refine byCode ?_
    (refine KL.v rfl (Val.assign rfl) ?_)
    refine KL.nil ?_
    refine byCode ?_
    (refine KL.v rfl (Val.loadP rfl rfl bySee) ?_)
    (refine KL.v rfl (Val.move rfl) ?_)
    (first | (refine KL.v rfl (Val.lookS rfl rfl rfl byTake (by assumption)) ?_) | (refine KL.v rfl (Val.look0 rfl rfl rfl rfl byTake (by assumption)) ?_))
    (first | (refine KL.v rfl (Val.add rfl rfl (by simp only [Go.Proofs.YthamkgghnjenhaaGreat.lo, Go.Proofs.YthamkgghnjenhaaGreat.hi]; omega)) ?_) | (refine KL.v rfl (Val.addW rfl rfl) ?_))
    (refine KL.eN (Eff.mapUp rfl rfl rfl rfl byTake) ?_; rintro _ _ rfl)
    refine KL.nil ?_
    clear g1
    refine byCode ?_
    (refine KL.v rfl (Val.loadP rfl rfl bySee) ?_)
    (refine KL.v rfl (Val.move rfl) ?_)
    (first | (refine KL.v rfl (Val.lookS rfl rfl rfl byTake (by assumption)) ?_) | (refine KL.v rfl (Val.look0 rfl rfl rfl rfl byTake (by assumption)) ?_))
    (first | (refine KL.v rfl (Val.isT (Val.gtr rfl rfl) byLt) ?_) | (refine KL.v rfl (Val.isF (Val.gtr rfl rfl) byLt) ?_) | (refine KL.v rfl (Val.gtr rfl rfl) ?_))
    (refine KL.v rfl (Val.assign rfl) ?_)
    refine KL.nil ?_
    refine byCode ?_
    exact KE.fin byMarks rfl byRes byPart ⟨by rw [decide_eq_true g2]; rfl, _, _, ok.put x (.int .i64 ((z : Int) + 1)), hs.put ok x (z := z + 1) (by omega) (by omega), rfl⟩

def FreJ (b bm : Nat) (S : List Int) (q : Nat) (pre : List Int) (A : Heap) : Prop := ∃ ms c, MOk ms c ∧ SeenAt (S ++ pre) (q + pre.length) ms ∧ A = (b, cells [.map (some bm)] 55) :: (bm, mobj ms c) :: []
/-- what is new -/
def freshP (n : Nat) (S l : List Int) : List Int := (hereP n l).filter fun x => !decide (x ∈ S)

set_option maxRecDepth 10000 in
set_option maxHeartbeats 1000000 in
theorem fresh_K {w0 : World} {F : Heap} {b1 b bm c q : Nat} {ms : List ME} {S l : List Int} {vg vl : Value} {gs : List SV} (hG : SlW w0 svE vg gs) (hL : Sli w0 ((b1, cells [vg] 109) :: (b, cells [.map (some bm)] 55) :: (bm, mobj ms c) :: F) iE vl l) (hl : l.length ≤ 100000) (hn : gs.length ≤ 1000)
    (ok : MOk ms c) (hs : SeenAt S q ms) (hq : q ≤ 100000) :
    Call Tryz.prog w0 101 [vl, .pointer (some ⟨b1, 0, none⟩), .pointer (some ⟨b, 0, none⟩)] ((b1, cells [vg] 109) :: (b, cells [.map (some bm)] 55) :: (bm, mobj ms c) :: F)
      (fun r H' => ∃ o ms' c', oOk iE (freshP gs.length S l) o ∧ r = oV o (freshP gs.length S l).length ∧ MOk ms' c' ∧ SeenAt (S ++ hereP gs.length l) (q + (hereP gs.length l).length) ms' ∧
        H' = oH iE 3 (freshP gs.length S l) o ++ ((b1, cells [vg] 109) :: (b, cells [.map (some bm)] 55) :: (bm, mobj ms' c') :: F)) := by
  refine Call.enter (n := 10) [(0, vl), (1, .pointer (some ⟨b1, 0, none⟩)), (2, .pointer (some ⟨b, 0, none⟩))] (by kernel_rfl) Tryz.func101 rfl rfl rfl ⟨rfl, rfl, rfl, trivial⟩ ?_
  have hhl : (hereP gs.length l).length ≤ 1000 := by
    unfold hereP
    exact Nat.le_trans (List.length_filter_le _ _) (by simpa using hn)
  refine byCode ?_
  (refine KL.v rfl (Val.assign rfl) ?_)
  refine KL.nil ?_
  refine byCode ?_
  (refine KL.v rfl (Val.loadP rfl rfl bySee) ?_)
  (refine KL.v rfl (Val.move rfl) ?_)
  (refine KL.callc rfl rfl byEvL fun T hT => ?_)
  refine (CallV.pure fun w hw => CallV.fn (here_K (hG.only hw.old) (hL w hw) hl)).mono ?_
  rintro _ _ ⟨_, ⟨o, oko, rfl, rfl⟩, rfl⟩
  refine hT _ _ ?_; clear hT; clear T
  (refine KL.v rfl (Val.makeFunc byEvL byEvL) ?_)
  (refine KL.callc rfl rfl byEvL fun T hT => ?_)
  refine (CallV.part (CallV.fn (DeleteFunc_K (F := (b1, cells [vg] 109) :: F) (A0 := (b, cells [.map (some bm)] 55) :: (bm, mobj ms c) :: []) (fun x => decide (x ∈ S)) (FreJ b bm S q) oko (by omega) ?_ ⟨ms, c, ok, by simpa using hs, rfl⟩)) byPart).mono ?_
  · rintro k x A R hx ⟨ms1, c1, ok1, hs1, rfl⟩
    have hlen : ((hereP gs.length l).take k).length = k := by rw [List.length_take]; have := lt_of_get hx; omega
    refine (CallV.fn (seen1_K (F := R) ok1 hs1 (by have := lt_of_get hx; omega))).mono ?_
    rintro _ _ ⟨rfl, ms', c', ok', hs', rfl⟩
    refine ⟨?_, _, ⟨ms', c', ok', ?_, rfl⟩, rfl⟩
    · congr 1
      have hnot : x ∉ (hereP gs.length l).take k := fun hm => by
        have hp := hereP_sorted gs.length l
        rw [← List.take_append_drop k (hereP gs.length l), List.pairwise_append] at hp
        have hd : x ∈ (hereP gs.length l).drop k := List.mem_of_getElem? (i := 0) (by rw [List.getElem?_drop]; simpa using hx)
        have := hp.2.2 x hm x hd
        omega
      simp [hnot]
    · rw [take_snoc hx, List.length_append, ← List.append_assoc]
      exact hs'
  · rintro _ _ ⟨A', o', ok', ⟨ms', c', okm, hs', rfl⟩, rfl, rfl⟩
    refine hT _ _ ?_; clear hT; clear T
    (refine KL.v rfl (Val.assign rfl) ?_)
    refine KL.nil ?_
    refine byCode ?_
    exact KE.fin byMarks rfl byRes byPart ⟨o', ms', c', ok', rfl, okm, hs', rfl⟩
end Go.Proofs.YthamkgghnjenhaaGreat
namespace Go.Proofs.YthamkgghnjenhaaGreat
open Go.RowKit
set_option linter.unusedVariables false
set_option linter.unusedSimpArgs false

def belowP (rows : List (List Int)) (lv : List Int) : List Int := lv.flatMap fun x => (rows[x.toNat]?).getD []
/-- how many nodes are not in S -/
def cntP (n : Nat) (S : List Int) : Nat := ((List.range n).filter fun (i : Nat) => !decide ((i : Int) ∈ S)).length
def levM (n : Nat) (S lv : List Int) : Nat := cntP n S + (if lv = [] then 0 else 1)
def levP (n : Nat) (rows : List (List Int)) : Nat → List Int → List Int → List (List Int)
  | 0, _, _ => []
  | f + 1, S, lv => if lv = [] then [] else lv :: levP n rows f (S ++ hereP n (belowP rows lv)) (freshP n S (belowP rows lv))
/-- the levels -/
def levelsP (rows : List (List Int)) (frm : List Int) : List (List Int) := levP rows.length rows (rows.length + 1) (hereP rows.length frm) (hereP rows.length frm)

theorem filter_le {α : Type} {p q : α → Bool} (h : ∀ x, q x = true → p x = true) (l : List α) : (l.filter q).length ≤ (l.filter p).length := by
  induction l with
  | nil => simp
  | cons y l ih =>
    simp only [List.filter_cons]
    cases hy : q y
    · cases hpy : p y <;> simp <;> omega
    · rw [h y hy]; simp; omega
theorem cnt_le (n : Nat) {S S' : List Int} (h : ∀ x, x ∈ S → x ∈ S') : cntP n S' ≤ cntP n S := filter_le (fun x hx => by simp at hx ⊢; exact fun hm => hx (h _ hm)) _
theorem cnt_lt {n : Nat} {S S' : List Int} (h : ∀ x, x ∈ S → x ∈ S') {x : Int} (h0 : 0 ≤ x) (h1 : x < n) (hx : x ∉ S) (hx' : x ∈ S') : cntP n S' < cntP n S := by
  refine filter_lt (e := x.toNat) (fun y hy => by simp at hy ⊢; exact fun hm => hy (h _ hm)) (by simp; omega) ?_ ?_
  · have : ((x.toNat : Nat) : Int) = x := by omega
    simp [this, hx]
  · have : ((x.toNat : Nat) : Int) = x := by omega
    simp [this, hx']
theorem cnt_all (n : Nat) (S : List Int) : cntP n S ≤ n := by
  have := List.length_filter_le (fun (i : Nat) => !decide ((i : Int) ∈ S)) (List.range n)
  simpa [cntP] using this
theorem fresh_mem {n : Nat} {S l : List Int} {x : Int} : x ∈ freshP n S l ↔ x ∈ l ∧ (0 ≤ x ∧ x < n) ∧ x ∉ S := by
  simp only [freshP, List.mem_filter, hereP_mem]; simp [and_assoc]
theorem levM_next {n : Nat} (S lv l : List Int) (h : lv ≠ []) : levM n (S ++ hereP n l) (freshP n S l) < levM n S lv := by
  unfold levM
  rw [if_neg h]
  by_cases hf : freshP n S l = []
  · rw [if_pos hf]
    have := cnt_le n (S := S) (S' := S ++ hereP n l) (fun x hx => List.mem_append_left _ hx)
    omega
  · rw [if_neg hf]
    obtain ⟨x, hx⟩ := List.exists_mem_of_ne_nil _ hf
    obtain ⟨h1, h2, h3⟩ := fresh_mem.1 hx
    have := cnt_lt (n := n) (S := S) (S' := S ++ hereP n l) (fun x hx => List.mem_append_left _ hx) h2.1 h2.2 h3 (List.mem_append_right _ (hereP_mem.2 ⟨h1, h2⟩))
    omega
theorem levP_len (n : Nat) (rows : List (List Int)) : ∀ (f : Nat) (S lv : List Int), (levP n rows f S lv).length ≤ f
  | 0, _, _ => by simp [levP]
  | f + 1, S, lv => by
    simp only [levP]
    split
    · simp
    · have := levP_len n rows f (S ++ hereP n (belowP rows lv)) (freshP n S (belowP rows lv)); simp; omega
theorem below_len {rows : List (List Int)} {B : Nat} (hb : ∀ r ∈ rows, r.length ≤ B) : ∀ lv : List Int, (belowP rows lv).length ≤ lv.length * B
  | [] => by simp [belowP]
  | x :: lv => by
    have ih := below_len hb lv
    have e : belowP rows (x :: lv) = (rows[x.toNat]?).getD [] ++ belowP rows lv := by simp [belowP]
    have hr : ((rows[x.toNat]?).getD []).length ≤ B := by
      cases h : rows[x.toNat]? with
      | none => simp
      | some r => exact hb r (List.mem_of_getElem? h)
    rw [e, List.length_append, List.length_cons, Nat.succ_mul]; omega
theorem below_snoc (rows : List (List Int)) (lv : List Int) (x : Int) : belowP rows (lv ++ [x]) = belowP rows lv ++ (rows[x.toNat]?).getD [] := by simp [belowP]
theorem hereP_len (n : Nat) (l : List Int) : (hereP n l).length ≤ n := by
  unfold hereP
  exact Nat.le_trans (List.length_filter_le _ _) (by simp)
theorem freshP_len (n : Nat) (S l : List Int) : (freshP n S l).length ≤ n := Nat.le_trans (List.length_filter_le _ _) (hereP_len n l)
theorem fresh0 (n : Nat) (l : List Int) : freshP n [] l = hereP n l := by unfold freshP; exact List.filter_eq_self.2 fun x _ => by simp

structure LS where
  d : Nat
  f : Nat
  S : List Int
  lv : List Int
  o : Own
  ms : List ME
  c : Nat
  q : Nat
  A : Heap
structure BS where
  k : Nat
  o : Own

set_option maxRecDepth 10000 in
set_option maxHeartbeats 2000000 in
theorem levels1_K {w0 : World} {F A0 : Heap} {fv vg vl : Value} {b1 b2 : Nat} {gs : List SV} {rows : List (List Int)} {l : List Int} (J : Nat → Heap → Prop) (hf : fv.oneCell' = true)
    (hG : SlW w0 svE vg gs) (hR : RowsI w0 gs rows) (hL : SlW w0 iE vl l) (hl : l.length ≤ 100000) (hn : gs.length ≤ 100) (hb : ∀ r ∈ rows, r.length ≤ 1000)
    (hy : ∀ k lv o A R, (levelsP rows l)[k]? = some lv → J k A → oOk iE lv o → CallV Tryz.prog w0 fv [.int .i64 (k : Nat), oV o lv.length] (A ++ (oH iE 3 lv o ++ R)) (fun r H' => r = .bool true ∧ ∃ A', J (k + 1) A' ∧ H' = A' ++ (oH iE 3 lv o ++ R)))
    (h0 : J 0 A0) :
    Call Tryz.prog w0 100 [fv, .pointer (some ⟨b1, 0, none⟩), .pointer (some ⟨b2, 0, none⟩)] (A0 ++ ((b1, cells [vg] 109) :: (b2, cells [vl] 22) :: F))
      (fun _ H' => ∃ A', J (levelsP rows l).length A' ∧ H' = A' ++ ((b1, cells [vg] 109) :: (b2, cells [vl] 22) :: F)) := by
  refine Call.enter3 (n := 43) (by kernel_rfl) Tryz.func100 rfl rfl rfl ?_
  have hgl := hR.len
  refine K.seq ?_
  refine K.region ?_
  (refine KL.e rfl (Eff.makeMap) ?_; rintro _ _ ⟨b11, rfl, rfl⟩)
  (refine KL.e rfl (Eff.alloc rfl) ?_; rintro _ _ ⟨b4, rfl, rfl⟩)
  (refine KL.eN (Eff.storeL rfl rfl byOne rfl byTake bySetAt) ?_; rintro _ _ rfl)
  refine KL.nil ?_
  refine KE.next ?_
  refine K.seq ?_
  refine K.region ?_
  (refine KL.v rfl (Val.makeFunc byEvL byEvL) ?_)
  (refine KL.v rfl (Val.assign rfl) ?_)
  refine KL.nil ?_
  refine KE.next ?_
  refine K.seq ?_
  refine K.region ?_
  (refine KL.v rfl (Val.move rfl) ?_)
  (refine KL.v rfl (Val.loadP rfl rfl bySee) ?_)
  (refine KL.callc rfl rfl byEvL fun T hT => ?_)
  refine (CallV.part (CallV.fn (fresh_K (F := A0 ++ ((b2, cells [vl] 22) :: F)) (S := []) (q := 0) hG (Sli.old hL) hl (by omega) MOk.nil SeenAt.nil (by omega))) byPart).mono ?_
  rintro _ _ ⟨o, ms, c, ok, rfl, okm, hs, rfl⟩
  refine hT _ _ ?_; clear hT; clear T
  rw [fresh0, hgl] at ok
  rw [hgl] at hs
  rw [fresh0, hgl]
  have hHl := hereP_len rows.length l
  (refine KL.v rfl (Val.assign rfl) ?_)
  (refine KL.v rfl (Val.assign rfl) ?_)
  refine KL.nil ?_
  refine KE.next ?_
  refine K.block ?_
  refine K.loopT (σ := LS) [(0, _), (1, _), (5, _)] (fun s kp_ => (6, .int .i64 (s.d : Nat)) :: (7, oV s.o s.lv.length) :: kp_) (fun s => oH iE 3 s.lv s.o ++ ((b4, cells [.map (some b11)] 55) :: (b11, mobj s.ms s.c) :: (s.A ++ ((b1, cells [vg] 109) :: (b2, cells [vl] 22) :: F)))) (fun s => oOk iE s.lv s.o ∧ MOk s.ms s.c ∧ SeenAt s.S s.q s.ms ∧ s.q ≤ (s.d + 1) * 100 ∧ s.d + s.f = rows.length + 1 ∧ s.lv.length ≤ rows.length ∧ (∀ x ∈ s.lv, 0 ≤ x ∧ x < (rows.length : Nat)) ∧ (levelsP rows l).drop s.d = levP rows.length rows s.f s.S s.lv ∧ levM rows.length s.S s.lv ≤ s.f ∧ J s.d s.A ∧ s.d ≤ (levelsP rows l).length) (fun s => levM rows.length s.S s.lv) (⟨0, rows.length + 1, hereP rows.length l, hereP rows.length l, o, ms, c, (hereP rows.length l).length, A0⟩) bySub byPart (⟨ok, okm, by simpa using hs, by dsimp only; omega, by simp, hHl, fun x hx => (hereP_mem.1 hx).2, rfl, by have := cnt_all rows.length (hereP rows.length l); simp only [levM]; split <;> omega, h0, by simp⟩) ?_
  rintro ⟨d, f, S, lv, o, ms, c, q, A⟩ ⟨ok, okm, hs, hq, hdf, hlv, hlvn, hdr, hmu, hJ, hdl⟩
  dsimp only at ok okm hs hq hdf hlv hlvn hdr hmu hJ hdl ⊢
  by_cases hlv0 : lv = []
  · subst hlv0
    have hle : d = (levelsP rows l).length := by
      have h2 : levP rows.length rows f S [] = [] := by cases f <;> simp [levP]
      rw [h2, List.drop_eq_nil_iff] at hdr
      omega
    refine K.seq ?_
    refine K.seq ?_
    refine K.region ?_
    (refine KL.v rfl (Val.move rfl) ?_)
    (refine KL.v rfl (Val.lenSl rfl rfl bySli) ?_)
    (refine KL.v rfl (Val.gtr rfl rfl) ?_)
    (refine KL.v rfl (Val.move rfl) ?_)
    refine KL.skipG rfl rfl rfl ?_
    refine KL.skipG rfl rfl rfl ?_
    refine KL.skipG rfl rfl rfl ?_
    refine KL.skipG rfl rfl rfl ?_
    (refine KL.v rfl (Val.pickF rfl rfl rfl) ?_)
    refine KL.nil ?_
    refine KE.next ?_
    refine K.condF rfl ?_
    refine K.exit ?_
    refine KE.passX ?_
    refine KE.passX ?_
    refine KE.blkX ?_
    exact KE.finN byMarks rfl byRes byPart ⟨A, hle ▸ hJ, rfl⟩
  · have hpos : 0 < lv.length := List.length_pos_iff.2 hlv0
    obtain ⟨f, rfl⟩ : ∃ f', f = f' + 1 := ⟨f - 1, by unfold levM at hmu; rw [if_neg hlv0] at hmu; omega⟩
    have hun : levP rows.length rows (f + 1) S lv = lv :: levP rows.length rows f (S ++ hereP rows.length (belowP rows lv)) (freshP rows.length S (belowP rows lv)) := by simp [levP, hlv0]
    rw [hun] at hdr
    have hgd : (levelsP rows l)[d]? = some lv := by have := congrArg (fun z => z[0]?) hdr; simpa using this
    have hdr' : (levelsP rows l).drop (d + 1) = levP rows.length rows f (S ++ hereP rows.length (belowP rows lv)) (freshP rows.length S (belowP rows lv)) := by
      have := congrArg (List.drop 1) hdr; simpa [List.drop_drop] using this
    refine K.seq ?_
    refine K.seq ?_
    refine K.region ?_
    (refine KL.v rfl (Val.move rfl) ?_)
    (refine KL.v rfl (Val.lenSl rfl rfl bySli) ?_)
    (refine KL.v rfl (Val.isT (Val.gtr rfl rfl) byLt) ?_)
    (refine KL.v rfl (Val.move rfl) ?_)
    (refine KL.yes rfl rfl ?_; refine KL.v rfl (Val.move rfl) ?_)
    (refine KL.yes rfl rfl ?_; refine KL.v rfl (Val.move rfl) ?_)
    (refine KL.yes rfl rfl ?_; refine KL.v rfl (Val.move rfl) ?_)
    (refine KL.yes rfl rfl ?_; refine KL.callc rfl rfl byEvL fun T hT => ?_)
    refine (CallV.part (hy d lv o A ((b4, cells [.map (some b11)] 55) :: (b11, mobj ms c) :: (b1, cells [vg] 109) :: (b2, cells [vl] 22) :: F) hgd hJ ok) byPart).mono ?_
    rintro _ _ ⟨rfl, A', hJ', rfl⟩
    refine hT _ _ ?_; clear hT; clear T
    (refine KL.v rfl (Val.pickT rfl rfl rfl) ?_)
    refine KL.nil ?_
    refine KE.next ?_
    refine K.condT rfl ?_
    refine K.skip ?_
    refine KE.next ?_
    refine K.seq ?_
    refine K.block ?_
    refine K.seq ?_
    refine K.region ?_
    (refine KL.v rfl (Val.assign rfl) ?_)
    refine KL.nil ?_
    refine KE.next ?_
    refine K.seq ?_
    refine K.seq ?_
    refine K.region ?_
    (refine KL.v rfl (Val.move rfl) ?_)
    (refine KL.v rfl (Val.lenSl rfl rfl bySli) ?_)
    (refine KL.v rfl (Val.move rfl) ?_)
    refine KL.nil ?_
    refine KE.next ?_
    refine K.block ?_
    refine K.loopT (σ := BS) [(0, _), (1, _), (5, _), (6, _), (27, _), (28, _)] (fun s kp_ => (29, .int .i64 (s.k : Nat)) :: (8, oV s.o (belowP rows (lv.take s.k)).length) :: kp_) (fun s => oH iE 3 (belowP rows (lv.take s.k)) s.o ++ (A' ++ (oH iE 3 lv o ++ ((b4, cells [.map (some b11)] 55) :: (b11, mobj ms c) :: (b1, cells [vg] 109) :: (b2, cells [vl] 22) :: F)))) (fun s => s.k ≤ lv.length ∧ oOk iE (belowP rows (lv.take s.k)) s.o) (fun s => lv.length - s.k) (⟨0, none⟩) bySub byPart (⟨by simp, rfl⟩) ?_
    rintro ⟨k, o2⟩ ⟨hk, ok2⟩
    dsimp only at hk ok2 ⊢
    by_cases hkl : k < lv.length
    · obtain ⟨x, hx⟩ := get_of_lt hkl
      obtain ⟨hx0, hx1⟩ := hlvn x (List.mem_of_getElem? hx)
      obtain ⟨j, rfl⟩ : ∃ j : Nat, x = (j : Int) := ⟨x.toNat, by omega⟩
      have hj : j < rows.length := by omega
      obtain ⟨r, hr⟩ := get_of_lt hj
      obtain ⟨p, hp⟩ := get_of_lt (l := gs) (k := j) (by omega)
      have hrow := hR.row j p r hp hr
      have hrl := hb r (List.mem_of_getElem? hr)
      have hbl := below_len hb (lv.take k)
      have htl : (lv.take k).length = k := by rw [List.length_take]; omega
      have hsn : belowP rows (lv.take (k + 1)) = belowP rows (lv.take k) ++ r := by rw [take_snoc hx, below_snoc]; simp [hr]
      have hbd : (belowP rows (lv.take k) ++ r).length ≤ 4294967296 := by rw [List.length_append]; rw [htl] at hbl; have : k * 1000 ≤ 100 * 1000 := Nat.mul_le_mul_right _ (by omega); omega
      refine K.seq ?_
      refine K.region ?_
      (refine KL.v rfl (Val.isT (Val.lss rfl rfl) byLt) ?_)
      refine KL.nil ?_
      refine KE.next ?_
      refine K.seq ?_
      refine K.condT rfl ?_
      refine K.skip ?_
      refine KE.next ?_
      refine K.seq ?_
      refine K.block ?_
      refine K.seq ?_
      refine K.region ?_
      (refine KL.v rfl (Val.idxSl rfl rfl rfl bySli rfl byLt) ?_)
      (refine KL.v rfl (Val.loadP rfl rfl bySee) ?_)
      (refine KL.v rfl (Val.assign rfl) ?_)
      refine KL.nil ?_
      refine KE.next ?_
      refine K.region ?_
      (refine KL.v rfl (Val.move rfl) ?_)
      (refine KL.v rfl (Val.loadP rfl rfl bySee) ?_)
      (refine KL.v rfl (Val.move rfl) ?_)
      (refine KL.v rfl (Val.idxSl rfl rfl rfl bySli rfl byLt) ?_)
      (refine KL.v rfl (Val.loadP rfl rfl bySee) ?_)
      (refine KL.e rfl (Eff.appZ rfl rfl rfl rfl rfl rfl byTakeL (by assumption) (by first | exact Sli.blk byTake rfl (by first | decide | simp) (by first | decide | (unfold maxLen; omega)) rfl | exact Sli.old (by assumption) | exact Sli.own byTakeL (by assumption) byLen | assumption | exact Sli.part (by assumption) byPart) rfl (by first | assumption | omega | (simp <;> fail) | (simp; omega)) rfl) ?_; rintro _ _ ⟨o38, ok38, rfl, rfl⟩)
      (refine KL.v rfl (Val.assign rfl) ?_)
      refine KL.nil ?_
      refine KE.blkN ?_
      refine KE.next ?_
      refine K.region ?_
      (refine KL.v rfl (Val.add rfl rfl (by simp only [Go.Proofs.YthamkgghnjenhaaGreat.lo, Go.Proofs.YthamkgghnjenhaaGreat.hi]; omega)) ?_)
      (refine KL.v rfl (Val.move rfl) ?_)
      refine KL.nil ?_
      rw [← hsn] at ok38 ⊢
      exact KE.again ⟨k + 1, o38⟩ bySub byPart ⟨by show k + 1 ≤ _; omega, ok38⟩ (by show lv.length - (k + 1) < lv.length - k; omega)
    · have hkt : lv.take k = lv := List.take_of_length_le (by omega)
      rw [hkt] at ok2 ⊢
      have hbl := below_len hb lv
      have hbd : (belowP rows lv).length ≤ 100000 := by have : lv.length * 1000 ≤ 100 * 1000 := Nat.mul_le_mul_right _ (by omega); omega
      refine K.seq ?_
      refine K.region ?_
      (refine KL.v rfl (Val.isF (Val.lss rfl rfl) byLt) ?_)
      refine KL.nil ?_
      refine KE.next ?_
      refine K.seq ?_
      refine K.condF rfl ?_
      refine K.exit ?_
      refine KE.passX ?_
      refine KE.passX ?_
      refine KE.blkX ?_
      refine KE.next ?_
      refine K.region ?_
      (refine KL.v rfl (Val.move rfl) ?_)
      (refine KL.v rfl (Val.move rfl) ?_)
      (refine KL.callc rfl rfl byEvL fun T hT => ?_)
      refine (CallV.part (CallV.fn (fresh_K (F := A' ++ (oH iE 3 (belowP rows lv) o2 ++ (oH iE 3 lv o ++ ((b2, cells [vl] 22) :: F)))) (S := S) (q := q) hG (Sli.own (xs := belowP rows lv) (o := o2) byTakeL ok2 rfl) hbd (by omega) okm hs (by omega))) byPart).mono ?_
      rintro _ _ ⟨o', ms', c', ok', rfl, okm', hs', rfl⟩
      refine hT _ _ ?_; clear hT; clear T
      rw [hgl] at ok' hs' ⊢
      have hfl := freshP_len rows.length S (belowP rows lv)
      have hhl := hereP_len rows.length (belowP rows lv)
      have hlt := levM_next S lv (belowP rows lv) hlv0 (n := rows.length)
      (refine KL.v rfl (Val.assign rfl) ?_)
      refine KL.nil ?_
      refine KE.blkN ?_
      refine KE.next ?_
      refine K.region ?_
      (refine KL.v rfl (Val.move rfl) ?_)
      (refine KL.v rfl (Val.add rfl rfl (by simp only [Go.Proofs.YthamkgghnjenhaaGreat.lo, Go.Proofs.YthamkgghnjenhaaGreat.hi]; omega)) ?_)
      (refine KL.v rfl (Val.assign rfl) ?_)
      refine KL.nil ?_
      exact KE.again ⟨d + 1, f, S ++ hereP rows.length (belowP rows lv), freshP rows.length S (belowP rows lv), o', ms', c', q + (hereP rows.length (belowP rows lv)).length, A'⟩ bySub byPart ⟨ok', okm', hs', by dsimp only; omega, by dsimp only; omega, hfl, fun x hx => (fresh_mem.1 hx).2.1, hdr', by dsimp only; omega, hJ', by have := lt_of_get hgd; dsimp only; omega⟩ hlt

set_option maxRecDepth 10000 in
theorem levels_K {w0 : World} {H : Heap} {vg vl : Value} (h1 : vg.cells = [vg].toArray) (h2 : vl.cells = [vl].toArray) :
    Call Tryz.prog w0 92 [vg, vl] H (fun r H' => ∃ b1 b2, r = .func (.func 100) #[] #[.pointer (some ⟨b1, 0, none⟩), .pointer (some ⟨b2, 0, none⟩)] ∧ H' = (b2, cells [vl] 22) :: (b1, cells [vg] 109) :: H) := by
  refine Call.enter2 (n := 6) (by kernel_rfl) Tryz.func92 rfl rfl rfl ?_
  refine K.seq ?_
  refine K.region ?_
  (refine KL.e rfl (Eff.box rfl (by assumption)) ?_; rintro _ _ ⟨b2, rfl, rfl⟩)
  (refine KL.e rfl (Eff.box rfl (by assumption)) ?_; rintro _ _ ⟨b3, rfl, rfl⟩)
  (refine KL.v rfl (Val.assign rfl) ?_)
  refine KL.nil ?_
  refine KE.next ?_
  refine K.seq ?_
  refine K.region ?_
  (refine KL.v rfl (Val.makeFunc byEvL byEvL) ?_)
  (refine KL.v rfl (Val.assign rfl) ?_)
  refine KL.nil ?_
  refine KE.next ?_
  refine K.ret ?_
  exact KE.fin byMarks rfl byRes byPart ⟨b2, b3, rfl, rfl⟩
end Go.Proofs.YthamkgghnjenhaaGreat
namespace Go.Proofs.YthamkgghnjenhaaGreat
open Go.RowKit
set_option linter.unusedVariables false
set_option linter.unusedSimpArgs false

theorem eq_of_prefix {α : Type} {a b : List α} (hl : a.length = b.length) (h : ∀ j, j < a.length → a[j]? = b[j]?) : a = b := by
  apply List.ext_getElem?
  intro j
  rcases Nat.lt_or_ge j a.length with hj | hj
  · exact h j hj
  · rw [List.getElem?_eq_none hj, List.getElem?_eq_none (by omega)]

set_option maxRecDepth 10000 in
theorem Same_K {w0 : World} {H : Heap} {va vb : Value} {a b : List Int} (hA : SlW w0 iE va a) (hB : SlW w0 iE vb b) :
    Call Tryz.prog w0 14 [va, vb] H (fun r H' => r = .bool (decide (a = b)) ∧ H' = H) := by
  refine Call.enter (n := 26) [(0, va), (1, vb)] (by kernel_rfl) Tryz.func14 rfl rfl rfl ⟨rfl, rfl, trivial⟩ ?_
  have la := hA.le
  have lb := hB.le
  unfold maxLen at la lb
  by_cases hab : a.length = b.length
  · refine byCode ?_
    (refine KL.v rfl (Val.assign rfl) ?_)
    refine KL.nil ?_
    refine byCode ?_
    (refine KL.v rfl (Val.move rfl) ?_)
    (first | (refine KL.v rfl (Val.lenSl rfl rfl bySli) ?_) | (refine KL.v rfl (Val.lenS rfl rfl) ?_))
    (refine KL.v rfl (Val.move rfl) ?_)
    (first | (refine KL.v rfl (Val.lenSl rfl rfl bySli) ?_) | (refine KL.v rfl (Val.lenS rfl rfl) ?_))
    (first | (refine KL.v rfl (Val.isT (Val.neq rfl rfl) byLt) ?_) | (refine KL.v rfl (Val.isF (Val.neq rfl rfl) byLt) ?_) | (refine KL.v rfl (Val.neq rfl rfl) ?_))
    refine KL.nil ?_
    refine byCode ?_
    (refine KL.v rfl (Val.assign rfl) ?_)
    refine KL.nil ?_
    refine byBlk ?_
    refine K.loop (σ := Nat) (fun k => [(5, .int .i64 (k : Nat)), (0, va), (1, vb)]) (fun _ => H) (fun k => k ≤ a.length ∧ ∀ j, j < k → a[j]? = b[j]?) (fun k => a.length - k) 0 bySub byPart ⟨by omega, fun j hj => by omega⟩ ?_
    rintro k ⟨hk, hs⟩
    by_cases hlt : k < a.length
    · obtain ⟨x, hx⟩ := get_of_lt hlt
      have hlb : k < b.length := by omega
      obtain ⟨y, hy⟩ := get_of_lt hlb
      refine byCode ?_
      (refine KL.v rfl (Val.move rfl) ?_)
      (refine KL.v rfl (Val.move rfl) ?_)
      (first | (refine KL.v rfl (Val.lenSl rfl rfl bySli) ?_) | (refine KL.v rfl (Val.lenS rfl rfl) ?_))
      (first | (refine KL.v rfl (Val.isT (Val.lss rfl rfl) byLt) ?_) | (refine KL.v rfl (Val.isF (Val.lss rfl rfl) byLt) ?_) | (refine KL.v rfl (Val.lss rfl rfl) ?_))
      refine KL.nil ?_
      refine byCode ?_
      refine K.seq (K.block ?_)
      by_cases hxy : x = y
      · have hxy' : ¬ (x ≠ y) := fun h => h hxy
        refine byCodeD ?_
        (first | refine K.seq (K.drawn _ [(0, 0), (1, 0), (2, 0), (3, 0), (4, 0), (5, 0), (6, 0), (7, 0), (8, 0)] (by kernel_rfl) (by kernel_rfl) (by kernel_rfl) (by kernel_rfl) (by kernel_rfl) (by kernel_rfl) Part.all ?_) | refine K.seq (K.seq (K.drawn _ [(0, 0), (1, 0), (2, 0), (3, 0), (4, 0), (5, 0), (6, 0), (7, 0), (8, 0)] (by kernel_rfl) (by kernel_rfl) (by kernel_rfl) (by kernel_rfl) (by kernel_rfl) (by kernel_rfl) Part.all ?_)) | refine K.drawn _ [(0, 0), (1, 0), (2, 0), (3, 0), (4, 0), (5, 0), (6, 0), (7, 0), (8, 0)] (by kernel_rfl) (by kernel_rfl) (by kernel_rfl) (by kernel_rfl) (by kernel_rfl) (by kernel_rfl) Part.all ?_)
        refine KD.v0 rfl rfl (Val.move rfl) ?_
        refine KD.v0 rfl rfl (Val.move rfl) ?_
        (first | refine KD.v0 rfl rfl (Val.idxSl rfl rfl rfl bySli rfl byLt) ?_ | refine KD.v0 rfl rfl (Val.idxSlZ rfl rfl rfl bySli rfl (by omega)) ?_ | refine KD.v0 rfl rfl (Val.indexS1 rfl rfl rfl rfl (by omega)) ?_ | refine KD.v0 rfl rfl (Val.indexS rfl rfl rfl rfl (by omega)) ?_ | refine KD.v0 rfl rfl (Val.indexSO rfl rfl rfl rfl (by omega)) ?_ | refine KD.v0 rfl rfl (Val.indexSG rfl rfl rfl rfl (by omega)) ?_)
        refine KD.v0 rfl rfl (Val.loadP rfl rfl bySee) ?_
        refine KD.v0 rfl rfl (Val.move rfl) ?_
        refine KD.v0 rfl rfl (Val.move rfl) ?_
        (first | refine KD.v0 rfl rfl (Val.idxSl rfl rfl rfl bySli rfl byLt) ?_ | refine KD.v0 rfl rfl (Val.idxSlZ rfl rfl rfl bySli rfl (by omega)) ?_ | refine KD.v0 rfl rfl (Val.indexS1 rfl rfl rfl rfl (by omega)) ?_ | refine KD.v0 rfl rfl (Val.indexS rfl rfl rfl rfl (by omega)) ?_ | refine KD.v0 rfl rfl (Val.indexSO rfl rfl rfl rfl (by omega)) ?_ | refine KD.v0 rfl rfl (Val.indexSG rfl rfl rfl rfl (by omega)) ?_)
        refine KD.v0 rfl rfl (Val.loadP rfl rfl bySee) ?_
        (first | refine KD.v0 rfl rfl (Val.isT (Val.neq rfl rfl) byLt) ?_ | refine KD.v0 rfl rfl (Val.isF (Val.neq rfl rfl) byLt) ?_ | refine KD.v0 rfl rfl (Val.neq rfl rfl) ?_)
        refine KD.nil ?_
        refine byCode ?_
        (refine KL.v rfl (Val.move rfl) ?_)
        (first | (refine KL.v rfl (Val.add rfl rfl (by simp only [Go.Proofs.YthamkgghnjenhaaGreat.lo, Go.Proofs.YthamkgghnjenhaaGreat.hi]; omega)) ?_) | (refine KL.v rfl (Val.addW rfl rfl) ?_))
        (refine KL.v rfl (Val.assign rfl) ?_)
        refine KL.nil ?_
        exact KE.again (k + 1) bySub byPart ⟨by omega, fun j hj => by
          rcases Nat.lt_or_ge j k with h | h
          · exact hs j h
          · have : j = k := by omega
            subst this
            rw [hx, hy, hxy]⟩ (by omega)
      · have hne : a ≠ b := by intro h; subst h; rw [hx] at hy; cases hy; exact hxy rfl
        have hxy' : x ≠ y := hxy
        refine byCodeD ?_
        (first | refine K.seq (K.drawn _ [(0, 0), (1, 0), (2, 0), (3, 0), (4, 0), (5, 0), (6, 0), (7, 0), (8, 0)] (by kernel_rfl) (by kernel_rfl) (by kernel_rfl) (by kernel_rfl) (by kernel_rfl) (by kernel_rfl) Part.all ?_) | refine K.seq (K.seq (K.drawn _ [(0, 0), (1, 0), (2, 0), (3, 0), (4, 0), (5, 0), (6, 0), (7, 0), (8, 0)] (by kernel_rfl) (by kernel_rfl) (by kernel_rfl) (by kernel_rfl) (by kernel_rfl) (by kernel_rfl) Part.all ?_)) | refine K.drawn _ [(0, 0), (1, 0), (2, 0), (3, 0), (4, 0), (5, 0), (6, 0), (7, 0), (8, 0)] (by kernel_rfl) (by kernel_rfl) (by kernel_rfl) (by kernel_rfl) (by kernel_rfl) (by kernel_rfl) Part.all ?_)
        refine KD.v0 rfl rfl (Val.move rfl) ?_
        refine KD.v0 rfl rfl (Val.move rfl) ?_
        (first | refine KD.v0 rfl rfl (Val.idxSl rfl rfl rfl bySli rfl byLt) ?_ | refine KD.v0 rfl rfl (Val.idxSlZ rfl rfl rfl bySli rfl (by omega)) ?_ | refine KD.v0 rfl rfl (Val.indexS1 rfl rfl rfl rfl (by omega)) ?_ | refine KD.v0 rfl rfl (Val.indexS rfl rfl rfl rfl (by omega)) ?_ | refine KD.v0 rfl rfl (Val.indexSO rfl rfl rfl rfl (by omega)) ?_ | refine KD.v0 rfl rfl (Val.indexSG rfl rfl rfl rfl (by omega)) ?_)
        refine KD.v0 rfl rfl (Val.loadP rfl rfl bySee) ?_
        refine KD.v0 rfl rfl (Val.move rfl) ?_
        refine KD.v0 rfl rfl (Val.move rfl) ?_
        (first | refine KD.v0 rfl rfl (Val.idxSl rfl rfl rfl bySli rfl byLt) ?_ | refine KD.v0 rfl rfl (Val.idxSlZ rfl rfl rfl bySli rfl (by omega)) ?_ | refine KD.v0 rfl rfl (Val.indexS1 rfl rfl rfl rfl (by omega)) ?_ | refine KD.v0 rfl rfl (Val.indexS rfl rfl rfl rfl (by omega)) ?_ | refine KD.v0 rfl rfl (Val.indexSO rfl rfl rfl rfl (by omega)) ?_ | refine KD.v0 rfl rfl (Val.indexSG rfl rfl rfl rfl (by omega)) ?_)
        refine KD.v0 rfl rfl (Val.loadP rfl rfl bySee) ?_
        (first | refine KD.v0 rfl rfl (Val.isT (Val.neq rfl rfl) byLt) ?_ | refine KD.v0 rfl rfl (Val.isF (Val.neq rfl rfl) byLt) ?_ | refine KD.v0 rfl rfl (Val.neq rfl rfl) ?_)
        refine KD.nil ?_
        refine byCode ?_
        (refine KL.v rfl (Val.assign rfl) ?_)
        refine KL.nil ?_
        refine byCode ?_
        exact KE.fin byMarks rfl byRes byPart ⟨by rw [decide_eq_false hne]; rfl, rfl⟩
    · have he : a = b := eq_of_prefix hab (fun j hj => hs j (by omega))
      refine byCode ?_
      (refine KL.v rfl (Val.move rfl) ?_)
      (refine KL.v rfl (Val.move rfl) ?_)
      (first | (refine KL.v rfl (Val.lenSl rfl rfl bySli) ?_) | (refine KL.v rfl (Val.lenS rfl rfl) ?_))
      (first | (refine KL.v rfl (Val.isT (Val.lss rfl rfl) byLt) ?_) | (refine KL.v rfl (Val.isF (Val.lss rfl rfl) byLt) ?_) | (refine KL.v rfl (Val.lss rfl rfl) ?_))
      refine KL.nil ?_
      refine byCode ?_
      (refine KL.v rfl (Val.assign rfl) ?_)
      refine KL.nil ?_
      refine byCode ?_
      exact KE.fin byMarks rfl byRes byPart ⟨by rw [decide_eq_true he]; rfl, rfl⟩
  · have hne : a ≠ b := by intro h; subst h; exact hab rfl
    refine byCode ?_
    (refine KL.v rfl (Val.assign rfl) ?_)
    refine KL.nil ?_
    refine byCode ?_
    (refine KL.v rfl (Val.move rfl) ?_)
    (first | (refine KL.v rfl (Val.lenSl rfl rfl bySli) ?_) | (refine KL.v rfl (Val.lenS rfl rfl) ?_))
    (refine KL.v rfl (Val.move rfl) ?_)
    (first | (refine KL.v rfl (Val.lenSl rfl rfl bySli) ?_) | (refine KL.v rfl (Val.lenS rfl rfl) ?_))
    (first | (refine KL.v rfl (Val.isT (Val.neq rfl rfl) byLt) ?_) | (refine KL.v rfl (Val.isF (Val.neq rfl rfl) byLt) ?_) | (refine KL.v rfl (Val.neq rfl rfl) ?_))
    refine KL.nil ?_
    refine byCode ?_
    (refine KL.v rfl (Val.assign rfl) ?_)
    refine KL.nil ?_
    refine byCode ?_
    exact KE.fin byMarks rfl byRes byPart ⟨by rw [decide_eq_false hne]; rfl, rfl⟩


set_option maxRecDepth 10000 in
theorem Has_K {w0 : World} {H : Heap} {v : Value} {l : List Int} {x : Int} (hS : Sli w0 H iE v l) (hl : l.length ≤ 100000) :
    Call Tryz.prog w0 93 [v, .int .i64 x] H (fun r H' => r = .bool (decide (x ∈ l)) ∧ H' = H) := by
  refine Call.enter (n := 18) [(0, v), (1, .int .i64 x)] (by kernel_rfl) Tryz.func93 rfl rfl rfl ⟨rfl, rfl, trivial⟩ ?_
  refine byCode ?_
  (refine KL.v rfl (Val.assign rfl) ?_)
  refine KL.nil ?_
  refine byCode ?_
  (refine KL.v rfl (Val.assign rfl) ?_)
  refine KL.nil ?_
  refine byBlk ?_
  refine K.loop (σ := Nat) (fun k => [(5, .int .i64 (k : Nat)), (0, v), (1, .int .i64 x)]) (fun _ => H) (fun k => k ≤ l.length ∧ x ∉ l.take k) (fun k => l.length - k) 0 bySub byPart ⟨by omega, by simp⟩ ?_
  rintro k ⟨hk, hn⟩
  by_cases hlt : k < l.length
  · obtain ⟨y, hy⟩ := get_of_lt hlt
    refine byCode ?_
    (refine KL.v rfl (Val.move rfl) ?_)
    (refine KL.v rfl (Val.move rfl) ?_)
    (first | (refine KL.v rfl (Val.lenSl rfl rfl bySli) ?_) | (refine KL.v rfl (Val.lenS rfl rfl) ?_))
    (first | (refine KL.v rfl (Val.isT (Val.lss rfl rfl) byLt) ?_) | (refine KL.v rfl (Val.isF (Val.lss rfl rfl) byLt) ?_) | (refine KL.v rfl (Val.lss rfl rfl) ?_))
    refine KL.nil ?_
    refine byCode ?_
    refine K.seq (K.block ?_)
    by_cases hxy : y = x
    · have hm : x ∈ l := by rw [← hxy]; exact List.mem_of_getElem? hy
      refine byCode ?_
      (refine KL.v rfl (Val.move rfl) ?_)
      (refine KL.v rfl (Val.move rfl) ?_)
      (first | (refine KL.v rfl (Val.idxSl rfl rfl rfl bySli rfl byLt) ?_) | (refine KL.v rfl (Val.idxSlZ rfl rfl rfl bySli rfl (by omega)) ?_) | (refine KL.v rfl (Val.indexS1 rfl rfl rfl rfl (by omega)) ?_) | (refine KL.v rfl (Val.indexS rfl rfl rfl rfl (by omega)) ?_) | (refine KL.v rfl (Val.indexSO rfl rfl rfl rfl (by omega)) ?_) | (refine KL.v rfl (Val.indexSG rfl rfl rfl rfl (by omega)) ?_))
      (refine KL.v rfl (Val.loadP rfl rfl bySee) ?_)
      (refine KL.v rfl (Val.move rfl) ?_)
      (first | (refine KL.v rfl (Val.isT (Val.eql rfl rfl) byLt) ?_) | (refine KL.v rfl (Val.isF (Val.eql rfl rfl) byLt) ?_) | (refine KL.v rfl (Val.eql rfl rfl) ?_))
      refine KL.nil ?_
      refine byCode ?_
      (refine KL.v rfl (Val.assign rfl) ?_)
      refine KL.nil ?_
      refine byCode ?_
      exact KE.fin byMarks rfl byRes byPart ⟨by rw [decide_eq_true hm]; rfl, rfl⟩
    · refine byCode ?_
      (refine KL.v rfl (Val.move rfl) ?_)
      (refine KL.v rfl (Val.move rfl) ?_)
      (first | (refine KL.v rfl (Val.idxSl rfl rfl rfl bySli rfl byLt) ?_) | (refine KL.v rfl (Val.idxSlZ rfl rfl rfl bySli rfl (by omega)) ?_) | (refine KL.v rfl (Val.indexS1 rfl rfl rfl rfl (by omega)) ?_) | (refine KL.v rfl (Val.indexS rfl rfl rfl rfl (by omega)) ?_) | (refine KL.v rfl (Val.indexSO rfl rfl rfl rfl (by omega)) ?_) | (refine KL.v rfl (Val.indexSG rfl rfl rfl rfl (by omega)) ?_))
      (refine KL.v rfl (Val.loadP rfl rfl bySee) ?_)
      (refine KL.v rfl (Val.move rfl) ?_)
      (first | (refine KL.v rfl (Val.isT (Val.eql rfl rfl) byLt) ?_) | (refine KL.v rfl (Val.isF (Val.eql rfl rfl) byLt) ?_) | (refine KL.v rfl (Val.eql rfl rfl) ?_))
      refine KL.nil ?_
      refine byCode ?_
      (refine KL.v rfl (Val.move rfl) ?_)
      (first | (refine KL.v rfl (Val.add rfl rfl (by simp only [Go.Proofs.YthamkgghnjenhaaGreat.lo, Go.Proofs.YthamkgghnjenhaaGreat.hi]; omega)) ?_) | (refine KL.v rfl (Val.addW rfl rfl) ?_))
      (refine KL.v rfl (Val.assign rfl) ?_)
      refine KL.nil ?_
      exact KE.again (k + 1) bySub byPart ⟨by omega, by rw [take_snoc hy]; simp only [List.mem_append, List.mem_singleton, not_or]; exact ⟨hn, fun e => hxy e.symm⟩⟩ (by omega)
  · have hm : x ∉ l := by rwa [List.take_of_length_le (by omega)] at hn
    refine byCode ?_
    (refine KL.v rfl (Val.move rfl) ?_)
    (refine KL.v rfl (Val.move rfl) ?_)
    (first | (refine KL.v rfl (Val.lenSl rfl rfl bySli) ?_) | (refine KL.v rfl (Val.lenS rfl rfl) ?_))
    (first | (refine KL.v rfl (Val.isT (Val.lss rfl rfl) byLt) ?_) | (refine KL.v rfl (Val.isF (Val.lss rfl rfl) byLt) ?_) | (refine KL.v rfl (Val.lss rfl rfl) ?_))
    refine KL.nil ?_
    refine byCode ?_
    (refine KL.v rfl (Val.assign rfl) ?_)
    refine KL.nil ?_
    refine byCode ?_
    exact KE.fin byMarks rfl byRes byPart ⟨by rw [decide_eq_false hm]; rfl, rfl⟩

def boE : Enc Bool := ⟨fun z => [.bool z], 1, fun _ => rfl, by intro x v hv; simp at hv; subst hv; rfl⟩
end Go.Proofs.YthamkgghnjenhaaGreat
namespace Go.Proofs.YthamkgghnjenhaaGreat
open Go.RowKit
set_option linter.unusedVariables false
set_option linter.unusedSimpArgs false


/-! ## Depths -/
def setAll {α : Type} (out : List α) (d : α) (lv : List Int) : List α := lv.foldl (fun o x => o.set x.toNat d) out
theorem setAll_len {α : Type} (d : α) : ∀ (lv : List Int) (out : List α), (setAll out d lv).length = out.length
  | [], _ => rfl
  | x :: lv, out => by simp only [setAll, List.foldl_cons]; exact (setAll_len d lv _).trans (by simp)
theorem setAll_snoc {α : Type} (out : List α) (d : α) (lv : List Int) (x : Int) : setAll out d (lv ++ [x]) = (setAll out d lv).set x.toNat d := by simp [setAll]
def toldD (n : Nat) : List (List Int) → Nat → List Int
  | _, 0 => List.replicate n (-1)
  | ls, k + 1 => setAll (toldD n ls k) (k : Int) ((ls[k]?).getD [])
theorem toldD_len (n : Nat) (ls : List (List Int)) : ∀ k, (toldD n ls k).length = n
  | 0 => by simp [toldD]
  | k + 1 => by simp only [toldD]; rw [setAll_len]; exact toldD_len n ls k
theorem levels_in {rows : List (List Int)} {frm : List Int} {k : Nat} {lv : List Int} (h : (levelsP rows frm)[k]? = some lv) : ∀ x ∈ lv, 0 ≤ x ∧ x < (rows.length : Nat) := by
  have key : ∀ (f : Nat) (S lv0 : List Int), (∀ x ∈ lv0, 0 ≤ x ∧ x < (rows.length : Nat)) → ∀ l ∈ levP rows.length rows f S lv0, ∀ x ∈ l, 0 ≤ x ∧ x < (rows.length : Nat) := by
    intro f
    induction f with
    | zero => intro S lv0 _ l hl; simp [levP] at hl
    | succ f ih =>
      intro S lv0 h0 l hl
      simp only [levP] at hl
      split at hl
      · simp at hl
      · rcases List.mem_cons.1 hl with rfl | hl
        · exact h0
        · exact ih _ _ (fun x hx => (fresh_mem.1 hx).2.1) l hl
  exact key _ _ _ (fun x hx => (hereP_mem.1 hx).2) lv (List.mem_of_getElem? h)

theorem oOk.len {α : Type} {E : Enc α} {xs : List α} {o : Own} (h : oOk E xs o) : xs.length ≤ maxLen := by
  cases o with
  | none => simp only [oOk] at h; subst h; simp
  | some ob => exact Nat.le_trans h.1 h.2.1
def DepJ (l D : Nat) (r : Rec) (b5 : Nat) (o : Own) (n : Nat) (ls : List (List Int)) (k : Nat) (A : Heap) : Prop := oOk iE (toldD n ls k) o ∧ A = (l, .loop (r .ready none)) :: (D, .deferred (some [])) :: (oH iE 3 (toldD n ls k) o ++ [(b5, cells [oV o n] 22)])
def DepD (b5 : Nat) (o : Own) (n : Nat) (ls : List (List Int)) (F : Heap) (D : Nat) (F' : Heap) : Prop := oOk iE (toldD n ls ls.length) o ∧ F' = (D, .deferred (some [])) :: (oH iE 3 (toldD n ls ls.length) o ++ ((b5, cells [oV o n] 22) :: F))
def depthsP (rows : List (List Int)) (frm : List Int) : List Int := toldD rows.length (levelsP rows frm) (levelsP rows frm).length


/-! ## Reach -/
def toldR (n : Nat) : List (List Int) → Nat → List Bool
  | _, 0 => List.replicate n false
  | ls, k + 1 => setAll (toldR n ls k) true ((ls[k]?).getD [])
theorem toldR_len (n : Nat) (ls : List (List Int)) : ∀ k, (toldR n ls k).length = n
  | 0 => by simp [toldR]
  | k + 1 => by simp only [toldR]; rw [setAll_len]; exact toldR_len n ls k
def ReaJ (l D : Nat) (r : Rec) (b5 : Nat) (o : Own) (n : Nat) (ls : List (List Int)) (k : Nat) (A : Heap) : Prop := oOk boE (toldR n ls k) o ∧ A = (l, .loop (r .ready none)) :: (D, .deferred (some [])) :: (oH boE 4 (toldR n ls k) o ++ [(b5, cells [oV o n] 95)])
def ReaD (b5 : Nat) (o : Own) (n : Nat) (ls : List (List Int)) (F : Heap) (D : Nat) (F' : Heap) : Prop := oOk boE (toldR n ls ls.length) o ∧ F' = (D, .deferred (some [])) :: (oH boE 4 (toldR n ls ls.length) o ++ ((b5, cells [oV o n] 95) :: F))
def reachP (rows : List (List Int)) (frm : List Int) : List Bool := toldR rows.length (levelsP rows frm) (levelsP rows frm).length

set_option maxRecDepth 10000 in
set_option maxHeartbeats 2000000 in
theorem Reach_K {w0 : World} {vg vl : Value} {gs : List SV} {rows : List (List Int)} {l : List Int} (hG : SlW w0 svE vg gs) (hR : RowsI w0 gs rows) (hL : SlW w0 iE vl l) (hl : l.length ≤ 100000) (hn : gs.length ≤ 100) (hb : ∀ r ∈ rows, r.length ≤ 1000) :
    Call Tryz.prog w0 75 [vg, vl] [] (fun r H' => ∃ o, oOk boE (reachP rows l) o ∧ r = oV o (reachP rows l).length ∧ H' = oH boE 4 (reachP rows l) o) := by
  refine Call.enter2 (n := 29) (by kernel_rfl) Tryz.func75 rfl rfl rfl ?_
  have hgl := hR.len
  have hvg : vg.cells = [vg].toArray := by obtain ⟨a, c, rfl, _⟩ := hG.shape; rfl
  have hvl : vl.cells = [vl].toArray := by obtain ⟨a, c, rfl, _⟩ := hL.shape; rfl
  refine K.seq ?_
  refine K.region ?_
  (refine KL.v rfl (Val.assign rfl) ?_)
  refine KL.nil ?_
  refine KE.next ?_
  refine K.seq ?_
  refine K.region ?_
  (refine KL.v rfl (Val.move rfl) ?_)
  (refine KL.v rfl (Val.lenSl rfl rfl bySli) ?_)
  (refine KL.e rfl (Eff.makeR (E := boE) (x0 := false) rfl rfl rfl rfl rfl rfl (by first | assumption | omega | (simp <;> fail) | (simp; omega))) ?_; rintro _ _ ⟨o12, ok12, rfl, rfl⟩)
  (refine KL.e rfl (Eff.alloc rfl) ?_; rintro _ _ ⟨b5, rfl, rfl⟩)
  (refine KL.eN (Eff.storeL rfl rfl byOne rfl byTake bySetAt) ?_; rintro _ _ rfl)
  refine KL.nil ?_
  refine KE.next ?_
  refine K.seq ?_
  refine K.seq ?_
  refine K.region ?_
  (refine KL.v rfl (Val.move rfl) ?_)
  (refine KL.v rfl (Val.move rfl) ?_)
  (refine KL.callc rfl rfl byEvL fun T hT => ?_)
  rw [List.length_replicate]
  generalize o12 = o at *
  have ok := ok12
  refine (CallV.fn (levels_K hvg hvl)).mono ?_
  rintro _ _ ⟨b1, b2, rfl, rfl⟩
  refine hT _ _ ?_; clear hT; clear T
  refine KL.nil ?_
  refine KE.next ?_
  refine K.block ?_
  refine K.rangeFunc (lb := [.pointer (some ⟨b1, 0, none⟩), .pointer (some ⟨b2, 0, none⟩)]) rfl (ReaD b5 o gs.length (levelsP rows l) []) (fun _ _ _ => False) ?_ ?_ ?_
  · intro ll D r hyl
    refine (Call.part (levels1_K (F := []) (b1 := b1) (b2 := b2) (rows := rows) (l := l) (ReaJ ll D r b5 o gs.length (levelsP rows l)) rfl hG hR hL hl hn hb ?_ (A0 := (ll, .loop (r .ready none)) :: (D, .deferred (some [])) :: (oH boE 4 (List.replicate gs.length false) o ++ [(b5, cells [oV o gs.length] 95)])) ⟨ok, rfl⟩) byPart).mono ?_
    · rintro k lv o2 A R hlv ⟨okk, rfl⟩ ok2
      have hlen := toldR_len gs.length (levelsP rows l) k
      have hin := levels_in hlv
      have hlvl := ok2.len
      simp only [List.cons_append, List.append_assoc, List.nil_append]
      refine hyl _ _ _ _ _ (ParS.cons rfl (ParS.cons rfl ParS.nil)) byTake ?_
      refine K.region ?_
      (refine KL.v rfl (Val.assign rfl) ?_)
      refine KL.nil ?_
      refine KE.begin byTake ?_
      refine K.block ?_
      refine K.seq ?_
      refine K.region ?_
      (refine KL.v rfl (Val.move rfl) ?_)
      (refine KL.v rfl (Val.lenSl rfl rfl bySli) ?_)
      (refine KL.v rfl (Val.move rfl) ?_)
      refine KL.nil ?_
      refine KE.next ?_
      refine K.block ?_
      have hlvm : lv.length ≤ 9223372036854775807 := by unfold maxLen at hlvl; omega
      refine K.loopT (σ := Nat) [(5, _), (18, _), (19, _)] (fun s kp_ => (20, .int .i64 (s : Nat)) :: kp_) (fun s => (ll, .loop (r .busy none)) :: (D, .deferred (some [])) :: (oH boE 4 (setAll (toldR gs.length (levelsP rows l) k) true (lv.take s)) o ++ ((b5, cells [oV o gs.length] 95) :: (oH iE 3 lv o2 ++ R)))) (fun s => s ≤ lv.length ∧ oOk boE (setAll (toldR gs.length (levelsP rows l) k) true (lv.take s)) o) (fun s => lv.length - s) (0) bySub byPart (⟨by omega, by simpa [setAll] using okk⟩) ?_
      rintro j ⟨hj, okj⟩
      have hln : gs.length = (setAll (toldR gs.length (levelsP rows l) k) true (lv.take j)).length := by rw [setAll_len, hlen]
      by_cases hjl : j < lv.length
      · obtain ⟨x, hx⟩ := get_of_lt hjl
        obtain ⟨hx0, hx1⟩ := hin x (List.mem_of_getElem? hx)
        obtain ⟨q, rfl⟩ : ∃ q : Nat, x = (q : Int) := ⟨x.toNat, by omega⟩
        obtain ⟨y, hy⟩ := get_of_lt (l := setAll (toldR gs.length (levelsP rows l) k) true (lv.take j)) (k := q) (by omega)
        have hq : q < gs.length := by omega
        refine K.seq ?_
        refine K.region ?_
        (refine KL.v rfl (Val.isT (Val.lss rfl rfl) byLt) ?_)
        refine KL.nil ?_
        refine KE.next ?_
        refine K.seq ?_
        refine K.condT rfl ?_
        refine K.skip ?_
        refine KE.next ?_
        refine K.seq ?_
        refine K.block ?_
        refine K.seq ?_
        refine K.region ?_
        (refine KL.v rfl (Val.idxSl rfl rfl rfl bySli rfl byLt) ?_)
        (refine KL.v rfl (Val.loadP rfl rfl bySee) ?_)
        (refine KL.v rfl (Val.assign rfl) ?_)
        refine KL.nil ?_
        refine KE.next ?_
        refine K.region ?_
        (refine KL.v rfl (Val.loadP rfl rfl bySee) ?_)
        (refine KL.v rfl (Val.move rfl) ?_)
        (refine KL.v rfl (Val.idxSl rfl rfl rfl bySli rfl byLt) ?_)
        (refine KL.eN (Eff.stSl0 rfl rfl rfl rfl byTakeL (by assumption) (by assumption) rfl rfl) ?_; rintro _ _ rfl)
        refine KL.nil ?_
        refine KE.blkN ?_
        refine KE.next ?_
        refine K.region ?_
        (refine KL.v rfl (Val.add rfl rfl (by simp only [Go.Proofs.YthamkgghnjenhaaGreat.lo, Go.Proofs.YthamkgghnjenhaaGreat.hi]; omega)) ?_)
        (refine KL.v rfl (Val.move rfl) ?_)
        refine KL.nil ?_
        exact KE.again (j + 1) bySub (by rw [take_snoc hx, setAll_snoc]; exact byPart) ⟨by omega, by rw [take_snoc hx, setAll_snoc]; exact okj.set _ _⟩ (by omega)
      · have hjt : lv.take j = lv := List.take_of_length_le (by omega)
        rw [hjt] at okj ⊢
        have hnx : toldR gs.length (levelsP rows l) (k + 1) = setAll (toldR gs.length (levelsP rows l) k) true lv := by simp [toldR, hlv]
        rw [← hnx] at okj ⊢
        refine K.seq ?_
        refine K.region ?_
        (refine KL.v rfl (Val.isF (Val.lss rfl rfl) byLt) ?_)
        refine KL.nil ?_
        refine KE.next ?_
        refine K.seq ?_
        refine K.condF rfl ?_
        refine K.exit ?_
        refine KE.passX ?_
        refine KE.passX ?_
        refine KE.blkX ?_
        refine KE.blkN ?_
        refine KE.part ((ll, .loop (r .busy none)) :: (D, .deferred (some [])) :: (oH boE 4 (toldR gs.length (levelsP rows l) (k + 1)) o ++ ((b5, cells [oV o gs.length] 95) :: (oH iE 3 lv o2 ++ R)))) byPart ?_
        exact KE.roundN Take.head ⟨rfl, _, ⟨okj, rfl⟩, by simp⟩
    · rintro v H' ⟨A', ⟨okk, rfl⟩, rfl⟩
      refine .inl ⟨_, ?_, okk, rfl⟩
      simp only [List.cons_append, List.append_assoc, List.nil_append]
      exact byPart
  · rintro D F' ⟨okk, rfl⟩
    rw [hgl] at okk ⊢
    have hlen := toldR_len rows.length (levelsP rows l) (levelsP rows l).length
    refine KE.blkN ?_
    refine KE.next ?_
    refine K.seq ?_
    refine K.region ?_
    (refine KL.v rfl (Val.loadP rfl rfl bySee) ?_)
    (refine KL.v rfl (Val.assign rfl) ?_)
    refine KL.nil ?_
    refine KE.next ?_
    refine K.ret ?_
    exact KE.fin byMarks rfl byRes byPart ⟨o, okk, by show oV o rows.length = oV o (reachP rows l).length; unfold reachP; rw [hlen], rfl⟩
  · rintro D cd F' h
    exact h.elim
end Go.Proofs.YthamkgghnjenhaaGreat
namespace Go.Proofs.YthamkgghnjenhaaGreat
open Go.RowKit
set_option linter.unusedVariables false
set_option linter.unusedSimpArgs false

abbrev WR := Own × List Int
def wE : Enc WR := ⟨fun p => [oV p.1 p.2.length], 1, fun _ => rfl, by intro x v hv; simp at hv; subst hv; exact oV_one _ _⟩
def wsH (ws : List WR) : Heap := ws.flatMap fun p => oH iE 3 p.2 p.1
theorem wsH_app (a b : List WR) : wsH (a ++ b) = wsH a ++ wsH b := by simp [wsH]
theorem wsH_split {ws : List WR} {k : Nat} {p : WR} (h : ws[k]? = some p) : wsH ws = wsH (ws.take k) ++ (oH iE 3 p.2 p.1 ++ wsH (ws.drop (k + 1))) := by
  have e : ws = ws.take k ++ (p :: ws.drop (k + 1)) := by
    obtain ⟨hl, he⟩ := List.getElem?_eq_some_iff.1 h
    rw [← he, ← List.drop_eq_getElem_cons hl, List.take_append_drop]
  conv => lhs; rw [e, wsH_app]
  simp [wsH]
theorem wsH_set {ws : List WR} {k : Nat} (hk : k < ws.length) (q : WR) : wsH (ws.set k q) = wsH (ws.take k) ++ (oH iE 3 q.2 q.1 ++ wsH (ws.drop (k + 1))) := by
  have := wsH_split (ws := ws.set k q) (k := k) (p := q) (by simp [hk])
  rw [this, List.take_set_of_le (Nat.le_refl _), List.drop_set_of_lt (by omega)]
theorem wsH_rep (n : Nat) : wsH (List.replicate n (none, [])) = [] := by
  induction n with
  | zero => rfl
  | succ n ih => rw [List.replicate_succ]; show oH iE 3 [] none ++ wsH (List.replicate n (none, [])) = []; rw [ih]; rfl

/-- the sources of edges to x, of the first i rows -/
def srcP (rows : List (List Int)) (x : Int) (i : Nat) : List Int := (List.range i).flatMap fun (m : Nat) => List.replicate (((rows[m]?).getD []).count x) (m : Int)
def turnP (rows : List (List Int)) : List (List Int) := (List.range rows.length).map fun (x : Nat) => srcP rows (x : Int) rows.length
theorem srcP_succ (rows : List (List Int)) (x : Int) (i : Nat) : srcP rows x (i + 1) = srcP rows x i ++ List.replicate (((rows[i]?).getD []).count x) (i : Int) := by simp [srcP, List.range_succ]
theorem srcP_len {rows : List (List Int)} {B : Nat} (hb : ∀ r ∈ rows, r.length ≤ B) (x : Int) : ∀ i, (srcP rows x i).length ≤ i * B
  | 0 => by simp [srcP]
  | i + 1 => by
    have ih := srcP_len hb x i
    have hr : ((rows[i]?).getD []).count x ≤ B := by
      cases h : rows[i]? with
      | none => simp
      | some r => exact Nat.le_trans List.count_le_length (hb r (List.mem_of_getElem? h))
    rw [srcP_succ, List.length_append, List.length_replicate, Nat.succ_mul]; omega

structure TS where
  i : Nat
  ws : List WR
def TurnAt (rows : List (List Int)) (i : Nat) (r : List Int) (ws : List WR) : Prop := ws.length = rows.length ∧ ∀ (x : Nat) (p : WR), ws[x]? = some p → p.2 = srcP rows (x : Int) i ++ List.replicate (r.count (x : Int)) (i : Int) ∧ oOk iE p.2 p.1
theorem TurnAt.next {rows : List (List Int)} {i : Nat} {r : List Int} {ws : List WR} (h : TurnAt rows i r ws) (hr : rows[i]? = some r) : TurnAt rows (i + 1) [] ws := by
  refine ⟨h.1, fun x p hp => ⟨?_, (h.2 x p hp).2⟩⟩
  rw [(h.2 x p hp).1, srcP_succ, hr]; simp
theorem TurnAt.skip {rows : List (List Int)} {i : Nat} {r : List Int} {ws : List WR} {t : Int} (h : TurnAt rows i r ws) (ht : ¬ (0 ≤ t ∧ t < (rows.length : Nat))) : TurnAt rows i (r ++ [t]) ws := by
  refine ⟨h.1, fun x p hp => ⟨?_, (h.2 x p hp).2⟩⟩
  have hx := lt_of_get hp
  rw [h.1] at hx
  have hne : (t == (x : Int)) = false := by simp; intro e; omega
  rw [(h.2 x p hp).1, List.count_append, List.count_singleton, hne]; simp
theorem TurnAt.put {rows : List (List Int)} {i : Nat} {r : List Int} {ws : List WR} {t : Nat} {p : WR} {o' : Own} (h : TurnAt rows i r ws) (hp : ws[t]? = some p) (ok : oOk iE (p.2 ++ [(i : Int)]) o') : TurnAt rows i (r ++ [(t : Int)]) (ws.set t (o', p.2 ++ [(i : Int)])) := by
  refine ⟨by simpa using h.1, fun x q hq => ?_⟩
  by_cases hx : t = x
  · subst hx
    rw [List.getElem?_set_self (lt_of_get hp)] at hq
    cases hq
    refine ⟨?_, ok⟩
    rw [(h.2 t p hp).1, List.count_append]
    simp [List.append_assoc, List.replicate_succ']
  · rw [List.getElem?_set_ne hx] at hq
    refine ⟨?_, (h.2 x q hq).2⟩
    have hne : ((t : Int) == (x : Int)) = false := by simp; omega
    rw [(h.2 x q hq).1, List.count_append, List.count_singleton, hne]; simp

end Go.Proofs.YthamkgghnjenhaaGreat
namespace Go.Proofs.YthamkgghnjenhaaGreat
set_option linter.unusedVariables false
set_option linter.unusedSimpArgs false

def rowP (rows : List (List Int)) (y : Int) : List Int := (rows[y.toNat]?).getD []
def Nd (rows : List (List Int)) (x : Int) : Prop := 0 ≤ x ∧ x < (rows.length : Nat)
def Edge (rows : List (List Int)) (y x : Int) : Prop := Nd rows y ∧ Nd rows x ∧ x ∈ rowP rows y
def Wk (rows : List (List Int)) : Nat → Int → Int → Prop
  | 0, a, x => Nd rows a ∧ a = x
  | k + 1, a, x => ∃ y, Wk rows k a y ∧ Edge rows y x
theorem Wk.nd {rows : List (List Int)} : ∀ {k : Nat} {a x : Int}, Wk rows k a x → Nd rows a ∧ Nd rows x
  | 0, _, _, ⟨h, e⟩ => ⟨h, e ▸ h⟩
  | k + 1, _, _, ⟨y, h, e⟩ => ⟨(Wk.nd h).1, e.2.1⟩
theorem Wk.cons {rows : List (List Int)} : ∀ {k : Nat} {a b x : Int}, Edge rows a b → Wk rows k b x → Wk rows (k + 1) a x
  | 0, a, b, x, e, ⟨_, h⟩ => ⟨a, ⟨e.1, rfl⟩, h ▸ e⟩
  | k + 1, a, b, x, e, ⟨y, h, e2⟩ => ⟨y, Wk.cons e h, e2⟩
theorem Wk.uncons {rows : List (List Int)} : ∀ {k : Nat} {a x : Int}, Wk rows (k + 1) a x → ∃ b, Edge rows a b ∧ Wk rows k b x
  | 0, a, x, ⟨y, ⟨_, h⟩, e⟩ => ⟨x, h ▸ e, e.2.1, rfl⟩
  | k + 1, a, x, ⟨y, h, e⟩ => by
    obtain ⟨b, e1, h1⟩ := Wk.uncons h
    exact ⟨b, e1, y, h1, e⟩
theorem Wk.trans {rows : List (List Int)} {a b : Int} : ∀ {k j : Nat} {x : Int}, Wk rows k a b → Wk rows j b x → Wk rows (k + j) a x
  | k, 0, x, h, ⟨_, e⟩ => e ▸ h
  | k, j + 1, x, h, ⟨y, h2, e⟩ => ⟨y, Wk.trans h h2, e⟩

/-- x is got to by k edges from one of some -/
def Pth (rows : List (List Int)) (frm : List Int) (k : Nat) (x : Int) : Prop := ∃ a ∈ frm, Wk rows k a x
theorem Pth.nd {rows : List (List Int)} {frm : List Int} {k : Nat} {x : Int} (h : Pth rows frm k x) : Nd rows x := by obtain ⟨a, _, h⟩ := h; exact h.nd.2
theorem Pth.succ {rows : List (List Int)} {frm : List Int} {k : Nat} {x : Int} : Pth rows frm (k + 1) x ↔ ∃ y, Pth rows frm k y ∧ Edge rows y x := by
  constructor
  · rintro ⟨a, ha, y, h, e⟩; exact ⟨y, ⟨a, ha, h⟩, e⟩
  · rintro ⟨y, ⟨a, ha, h⟩, e⟩; exact ⟨a, ha, y, h, e⟩
theorem Pth.zero {rows : List (List Int)} {frm : List Int} {x : Int} : Pth rows frm 0 x ↔ x ∈ frm ∧ Nd rows x := by
  constructor
  · rintro ⟨a, ha, h, rfl⟩; exact ⟨ha, h⟩
  · rintro ⟨h, h2⟩; exact ⟨x, h, h2, rfl⟩

/-! ## the levels -/
def stP (rows : List (List Int)) (frm : List Int) : Nat → List Int × List Int
  | 0 => (hereP rows.length frm, hereP rows.length frm)
  | k + 1 => ((stP rows frm k).1 ++ hereP rows.length (belowP rows (stP rows frm k).2), freshP rows.length (stP rows frm k).1 (belowP rows (stP rows frm k).2))
def lvl (rows : List (List Int)) (frm : List Int) (k : Nat) : List Int := (stP rows frm k).2

theorem mem_below {rows : List (List Int)} {lv : List Int} {x : Int} : x ∈ belowP rows lv ↔ ∃ y ∈ lv, x ∈ rowP rows y := by simp [belowP, rowP, List.mem_flatMap]

theorem st_mem (rows : List (List Int)) (frm : List Int) : ∀ k, (∀ x, x ∈ (stP rows frm k).1 ↔ ∃ j, j ≤ k ∧ Pth rows frm j x) ∧ (∀ x, x ∈ lvl rows frm k ↔ Pth rows frm k x ∧ ∀ j, j < k → ¬ Pth rows frm j x)
  | 0 => by
    constructor
    · intro x
      simp only [stP, hereP_mem]
      constructor
      · rintro ⟨h1, h2⟩; exact ⟨0, Nat.le_refl _, Pth.zero.2 ⟨h1, h2⟩⟩
      · rintro ⟨j, hj, h⟩
        have : j = 0 := by omega
        subst this
        exact Pth.zero.1 h
    · intro x
      simp only [lvl, stP, hereP_mem]
      constructor
      · rintro ⟨h1, h2⟩; exact ⟨Pth.zero.2 ⟨h1, h2⟩, fun j hj => by omega⟩
      · rintro ⟨h, _⟩; exact Pth.zero.1 h
  | k + 1 => by
    obtain ⟨iA, iB⟩ := st_mem rows frm k
    have key : ∀ x, Pth rows frm (k + 1) x → (∀ j, j ≤ k → ¬ Pth rows frm j x) → ∃ y ∈ lvl rows frm k, x ∈ rowP rows y := by
      intro x h hn
      obtain ⟨y, hy, e⟩ := Pth.succ.1 h
      refine ⟨y, (iB y).2 ⟨hy, fun j hj hp => ?_⟩, e.2.2⟩
      exact hn (j + 1) (by omega) (Pth.succ.2 ⟨y, hp, e⟩)
    have back : ∀ x, Nd rows x → (∃ y ∈ lvl rows frm k, x ∈ rowP rows y) → Pth rows frm (k + 1) x := by
      rintro x hx ⟨y, hy, hr⟩
      have := ((iB y).1 hy).1
      exact Pth.succ.2 ⟨y, this, this.nd, hx, hr⟩
    constructor
    · intro x
      simp only [stP, List.mem_append, hereP_mem, mem_below]
      constructor
      · rintro (h | ⟨h, hx⟩)
        · obtain ⟨j, hj, hp⟩ := (iA x).1 h; exact ⟨j, by omega, hp⟩
        · exact ⟨k + 1, Nat.le_refl _, back x hx h⟩
      · rintro ⟨j, hj, hp⟩
        by_cases h : x ∈ (stP rows frm k).1
        · exact .inl h
        · have hn : ∀ j, j ≤ k → ¬ Pth rows frm j x := fun i hi hp => h ((iA x).2 ⟨i, hi, hp⟩)
          have : j = k + 1 := by
            rcases Nat.lt_or_ge k j with hk | hk
            · omega
            · exact absurd hp (hn j hk)
          subst this
          exact .inr ⟨key x hp hn, hp.nd⟩
    · intro x
      show x ∈ freshP rows.length (stP rows frm k).1 (belowP rows (stP rows frm k).2) ↔ _
      rw [fresh_mem, mem_below]
      constructor
      · rintro ⟨h, hx, hS⟩
        exact ⟨back x hx h, fun j hj hp => hS ((iA x).2 ⟨j, by omega, hp⟩)⟩
      · rintro ⟨hp, hn⟩
        exact ⟨key x hp (fun j hj => hn j (by omega)), hp.nd, fun hS => by
          obtain ⟨j, hj, hq⟩ := (iA x).1 hS
          exact hn j (by omega) hq⟩

theorem lvl_nil {rows : List (List Int)} {frm : List Int} {k : Nat} (h : lvl rows frm k = []) : ∀ j, lvl rows frm (k + j) = []
  | 0 => h
  | j + 1 => by
    have ih := lvl_nil h j
    show freshP rows.length (stP rows frm (k + j)).1 (belowP rows (stP rows frm (k + j)).2) = []
    have : (stP rows frm (k + j)).2 = [] := ih
    rw [this]
    have e : belowP rows [] = [] := rfl
    rw [e]
    apply List.eq_nil_iff_forall_not_mem.2
    intro x hx
    have := (fresh_mem.1 hx).1
    simp at this
theorem lvl_lt {rows : List (List Int)} {frm : List Int} : ∀ k, lvl rows frm k ≠ [] → levM rows.length (stP rows frm k).1 (lvl rows frm k) + k ≤ rows.length + 1
  | 0, _ => by
    have := cnt_all rows.length (stP rows frm 0).1
    unfold levM; split <;> omega
  | k + 1, h => by
    have hk : lvl rows frm k ≠ [] := fun e => h (lvl_nil e 1)
    have ih := lvl_lt k hk
    have := levM_next (n := rows.length) (stP rows frm k).1 (lvl rows frm k) (belowP rows (stP rows frm k).2) hk
    show levM rows.length ((stP rows frm k).1 ++ hereP rows.length (belowP rows (stP rows frm k).2)) (freshP rows.length (stP rows frm k).1 (belowP rows (stP rows frm k).2)) + (k + 1) ≤ _
    omega
theorem lvl_le {rows : List (List Int)} {frm : List Int} {k : Nat} (h : lvl rows frm k ≠ []) : k ≤ rows.length := by
  have := lvl_lt k h
  unfold levM at this
  rw [if_neg h] at this
  omega
theorem levP_get (rows : List (List Int)) (frm : List Int) : ∀ (f k j : Nat), (levP rows.length rows f (stP rows frm k).1 (stP rows frm k).2)[j]? = if j < f ∧ lvl rows frm (k + j) ≠ [] then some (lvl rows frm (k + j)) else none
  | 0, k, j => by simp [levP]
  | f + 1, k, j => by
    simp only [levP]
    by_cases h : (stP rows frm k).2 = []
    · rw [if_pos h]
      have : lvl rows frm (k + j) = [] := lvl_nil h j
      simp [this]
    · rw [if_neg h]
      cases j with
      | zero => simp [lvl, h]
      | succ j =>
        have := levP_get rows frm f (k + 1) j
        rw [List.getElem?_cons_succ]
        refine Eq.trans this ?_
        rw [show k + 1 + j = k + (j + 1) by omega]
        simp
theorem levels_get (rows : List (List Int)) (frm : List Int) (k : Nat) : (levelsP rows frm)[k]? = if lvl rows frm k ≠ [] then some (lvl rows frm k) else none := by
  have := levP_get rows frm (rows.length + 1) 0 k
  rw [Nat.zero_add] at this
  refine Eq.trans this ?_
  by_cases h : lvl rows frm k = []
  · simp [h]
  · have := lvl_le h
    rw [if_pos ⟨by omega, h⟩, if_pos h]

/-! ## depths -/
def IsD (rows : List (List Int)) (frm : List Int) (x d : Int) : Prop := (∃ j : Nat, d = j ∧ Pth rows frm j x ∧ ∀ i, i < j → ¬ Pth rows frm i x) ∨ (d = -1 ∧ ∀ j, ¬ Pth rows frm j x)
theorem IsD.uniq {rows : List (List Int)} {frm : List Int} {x d d' : Int} (h : IsD rows frm x d) (h' : IsD rows frm x d') : d = d' := by
  rcases h with ⟨j, rfl, h1, h2⟩ | ⟨rfl, h1⟩ <;> rcases h' with ⟨j', rfl, h1', h2'⟩ | ⟨rfl, h1'⟩
  · have : j = j' := by
      rcases Nat.lt_trichotomy j j' with h | h | h
      · exact absurd h1 (h2' j h)
      · exact h
      · exact absurd h1' (h2 j' h)
    rw [this]
  · exact absurd h1 (h1' j)
  · exact absurd h1' (h1 j')
  · rfl
theorem Pth.least {rows : List (List Int)} {frm : List Int} {x : Int} : ∀ {k : Nat}, Pth rows frm k x → ∃ j, j ≤ k ∧ Pth rows frm j x ∧ ∀ i, i < j → ¬ Pth rows frm i x := by
  intro k
  induction k using Nat.strongRecOn with
  | _ k ih =>
    intro h
    by_cases hn : ∃ i, i < k ∧ Pth rows frm i x
    · obtain ⟨i, hi, hp⟩ := hn
      obtain ⟨j, h1, h2⟩ := ih i hi hp
      exact ⟨j, by omega, h2⟩
    · exact ⟨k, Nat.le_refl _, h, fun i hi hp => hn ⟨i, hi, hp⟩⟩
theorem IsD.ex (rows : List (List Int)) (frm : List Int) (x : Int) : ∃ d, IsD rows frm x d := by
  by_cases h : ∃ k, Pth rows frm k x
  · obtain ⟨k, hk⟩ := h
    obtain ⟨j, _, h1, h2⟩ := hk.least
    exact ⟨j, .inl ⟨j, rfl, h1, h2⟩⟩
  · exact ⟨-1, .inr ⟨rfl, fun j hj => h ⟨j, hj⟩⟩⟩
theorem IsD.ofLvl {rows : List (List Int)} {frm : List Int} {x : Int} {j : Nat} (h : x ∈ lvl rows frm j) : IsD rows frm x j := by
  obtain ⟨h1, h2⟩ := ((st_mem rows frm j).2 x).1 h
  exact .inl ⟨j, rfl, h1, h2⟩
theorem IsD.none {rows : List (List Int)} {frm : List Int} {x : Int} (h : ∀ j, x ∉ lvl rows frm j) : IsD rows frm x (-1) := by
  refine .inr ⟨rfl, fun k hk => ?_⟩
  obtain ⟨j, _, h1, h2⟩ := hk.least
  exact h j (((st_mem rows frm j).2 x).2 ⟨h1, h2⟩)
theorem IsD.in_lvl {rows : List (List Int)} {frm : List Int} {x : Int} {j : Nat} (h : IsD rows frm x j) : x ∈ lvl rows frm j := by
  rcases h with ⟨i, hi, h1, h2⟩ | ⟨h, _⟩
  · have : i = j := by omega
    subst this
    exact ((st_mem rows frm i).2 x).2 ⟨h1, h2⟩
  · omega
theorem IsD.le {rows : List (List Int)} {frm : List Int} {x : Int} {j : Nat} (h : IsD rows frm x j) : j ≤ rows.length := lvl_le (List.ne_nil_of_mem h.in_lvl)

theorem setAll_get {α : Type} (d : α) : ∀ (lv : List Int) (out : List α) (x : Nat), (∀ y ∈ lv, 0 ≤ y) → x < out.length → (setAll out d lv)[x]? = if (x : Int) ∈ lv then some d else out[x]?
  | [], out, x, _, _ => by simp [setAll]
  | y :: lv, out, x, h0, hx => by
    have ih := setAll_get d lv (out.set y.toNat d) x (fun z hz => h0 z (.tail _ hz)) (by simpa using hx)
    have e : setAll out d (y :: lv) = setAll (out.set y.toNat d) d lv := rfl
    rw [e, ih]
    have hy := h0 y (.head _)
    by_cases h : (x : Int) ∈ lv
    · simp [h]
    · by_cases hxy : (x : Int) = y
      · have : y.toNat = x := by omega
        rw [this]
        simp [h, hxy, hx]
      · have : y.toNat ≠ x := by omega
        rw [if_neg h, List.getElem?_set_ne this, if_neg (by simp [h, hxy])]

theorem told_get {rows : List (List Int)} {frm : List Int} {x : Nat} (hx : x < rows.length) : ∀ k, (∃ j, j < k ∧ (x : Int) ∈ lvl rows frm j ∧ (toldD rows.length (levelsP rows frm) k)[x]? = some (j : Int) ∧ (toldR rows.length (levelsP rows frm) k)[x]? = some true)
    ∨ ((∀ j, j < k → (x : Int) ∉ lvl rows frm j) ∧ (toldD rows.length (levelsP rows frm) k)[x]? = some (-1) ∧ (toldR rows.length (levelsP rows frm) k)[x]? = some false)
  | 0 => .inr ⟨fun j hj => by omega, by simp [toldD, hx], by simp [toldR, hx]⟩
  | k + 1 => by
    have hlv : ((levelsP rows frm)[k]?).getD [] = lvl rows frm k := by
      rw [levels_get]
      by_cases h : lvl rows frm k = [] <;> simp [h]
    have hnd : ∀ y ∈ lvl rows frm k, 0 ≤ y := fun y hy => ((st_mem rows frm k).2 y |>.1 hy).1.nd.1
    have e1 : (toldD rows.length (levelsP rows frm) (k + 1))[x]? = if (x : Int) ∈ lvl rows frm k then some (k : Int) else (toldD rows.length (levelsP rows frm) k)[x]? := by
      simp only [toldD]; rw [hlv, setAll_get _ _ _ _ hnd (by rw [toldD_len]; exact hx)]
    have e2 : (toldR rows.length (levelsP rows frm) (k + 1))[x]? = if (x : Int) ∈ lvl rows frm k then some true else (toldR rows.length (levelsP rows frm) k)[x]? := by
      simp only [toldR]; rw [hlv, setAll_get _ _ _ _ hnd (by rw [toldR_len]; exact hx)]
    by_cases h : (x : Int) ∈ lvl rows frm k
    · exact .inl ⟨k, by omega, h, by rw [e1, if_pos h], by rw [e2, if_pos h]⟩
    · rw [e1, e2, if_neg h, if_neg h]
      rcases told_get (frm := frm) hx k with ⟨j, hj, h1, h2⟩ | ⟨h1, h2⟩
      · exact .inl ⟨j, by omega, h1, h2⟩
      · refine .inr ⟨fun j hj => ?_, h2⟩
        rcases Nat.lt_or_ge j k with hk | hk
        · exact h1 j hk
        · have : j = k := by omega
          subst this; exact h

theorem depths_len (rows : List (List Int)) (frm : List Int) : (depthsP rows frm).length = rows.length := toldD_len _ _ _
theorem reach_len (rows : List (List Int)) (frm : List Int) : (reachP rows frm).length = rows.length := toldR_len _ _ _
theorem depths_get {rows : List (List Int)} {frm : List Int} {x : Nat} (hx : x < rows.length) : ∃ d, (depthsP rows frm)[x]? = some d ∧ IsD rows frm x d ∧ (reachP rows frm)[x]? = some (decide (0 ≤ d)) := by
  rcases told_get (frm := frm) hx (levelsP rows frm).length with ⟨j, hj, h1, h2, h3⟩ | ⟨h1, h2, h3⟩
  · exact ⟨j, h2, IsD.ofLvl h1, by rw [show reachP rows frm = toldR rows.length (levelsP rows frm) (levelsP rows frm).length from rfl, h3]; simp⟩
  · refine ⟨-1, h2, IsD.none fun j hj => ?_, h3⟩
    have hne := List.ne_nil_of_mem hj
    have : (levelsP rows frm)[j]? = some (lvl rows frm j) := by rw [levels_get, if_pos hne]
    exact h1 j (lt_of_get this) hj
theorem depths_at {rows : List (List Int)} {frm : List Int} {x : Nat} {d : Int} (h : (depthsP rows frm)[x]? = some d) : IsD rows frm x d := by
  obtain ⟨d', h1, h2, _⟩ := depths_get (frm := frm) (show x < rows.length by have := lt_of_get h; rwa [depths_len] at this)
  rw [h] at h1; cases h1; exact h2
theorem depths_is {rows : List (List Int)} {frm : List Int} {x : Nat} {d : Int} (hx : x < rows.length) (h : IsD rows frm x d) : (depthsP rows frm)[x]? = some d := by
  obtain ⟨d', h1, h2, _⟩ := depths_get (frm := frm) hx
  rw [h1, h2.uniq h]
theorem reach_get {rows : List (List Int)} {frm : List Int} {x : Nat} (hx : x < rows.length) : ∃ b, (reachP rows frm)[x]? = some b ∧ (b = true ↔ ∃ k, Pth rows frm k x) := by
  obtain ⟨d, _, h2, h3⟩ := depths_get (frm := frm) hx
  refine ⟨_, h3, ?_⟩
  rcases h2 with ⟨j, rfl, h1, _⟩ | ⟨rfl, h1⟩
  · simp; exact ⟨j, h1⟩
  · simp; exact fun j => h1 j

/-! ## turned graphs -/
theorem turn_len (rows : List (List Int)) : (turnP rows).length = rows.length := by simp [turnP]
theorem mem_src {rows : List (List Int)} {x y : Int} {i : Nat} : y ∈ srcP rows x i ↔ ∃ m : Nat, m < i ∧ y = m ∧ x ∈ (rows[m]?).getD [] := by
  simp only [srcP, List.mem_flatMap, List.mem_range, List.mem_replicate]
  constructor
  · rintro ⟨m, hm, hc, rfl⟩; exact ⟨m, hm, rfl, List.count_pos_iff.1 (by omega)⟩
  · rintro ⟨m, hm, rfl, hx⟩; exact ⟨m, hm, by have := List.count_pos_iff.2 hx; omega, rfl⟩
theorem turn_row {rows : List (List Int)} {x : Int} (hx : Nd rows x) : rowP (turnP rows) x = srcP rows x rows.length := by
  have h1 : x.toNat < rows.length := by have := hx.1; have := hx.2; omega
  have h2 : ((x.toNat : Nat) : Int) = x := by have := hx.1; omega
  simp [rowP, turnP, h1, h2]
theorem nd_turn {rows : List (List Int)} {x : Int} : Nd (turnP rows) x ↔ Nd rows x := by unfold Nd; rw [turn_len]
theorem edge_turn {rows : List (List Int)} {x y : Int} : Edge (turnP rows) x y ↔ Edge rows y x := by
  unfold Edge
  rw [nd_turn, nd_turn]
  constructor
  · rintro ⟨h1, h2, h3⟩
    rw [turn_row h1, mem_src] at h3
    obtain ⟨m, hm, rfl, h⟩ := h3
    exact ⟨h2, h1, by simpa [rowP] using h⟩
  · rintro ⟨h1, h2, h3⟩
    refine ⟨h2, h1, ?_⟩
    rw [turn_row h2, mem_src]
    exact ⟨y.toNat, by have := h1.1; have := h1.2; omega, by have := h1.1; omega, h3⟩
theorem wk_turn {rows : List (List Int)} : ∀ {k : Nat} {a x : Int}, Wk (turnP rows) k a x → Wk rows k x a
  | 0, a, x, ⟨h, e⟩ => ⟨e ▸ nd_turn.1 h, e.symm⟩
  | k + 1, a, x, ⟨y, h, e⟩ => Wk.cons (edge_turn.1 e) (wk_turn h)
theorem wk_turn' {rows : List (List Int)} : ∀ {k : Nat} {a x : Int}, Wk rows k a x → Wk (turnP rows) k x a
  | 0, a, x, ⟨h, e⟩ => ⟨e ▸ nd_turn.2 h, e.symm⟩
  | k + 1, a, x, ⟨y, h, e⟩ => Wk.cons (edge_turn.2 e) (wk_turn' h)
theorem pth_one {rows : List (List Int)} {a x : Int} {k : Nat} : Pth rows [a] k x ↔ Wk rows k a x := by simp [Pth]
theorem isD_turn {rows : List (List Int)} {a x d : Int} : IsD (turnP rows) [a] x d ↔ IsD rows [x] a d := by
  have e : ∀ k, Pth (turnP rows) [a] k x ↔ Pth rows [x] k a := fun k => by rw [pth_one, pth_one]; exact ⟨wk_turn, wk_turn'⟩
  simp only [IsD, e]
end Go.Proofs.YthamkgghnjenhaaGreat
namespace Go.Proofs.YthamkgghnjenhaaGreat
open Go.RowKit
set_option linter.unusedVariables false
set_option linter.unusedSimpArgs false

/-! ## the way, in plain words -/
def dTo (rows : List (List Int)) (to x : Int) : Int := ((depthsP (turnP rows) [to])[x.toNat]?).getD (-1)
def candP (rows : List (List Int)) (to : Int) (k : Nat) (sm : List Int) : List Int := (hereP rows.length sm).filter fun x => decide (dTo rows to x = k)
def pickP (rows : List (List Int)) (to : Int) (k : Nat) (sm : List Int) : Int := (candP rows to k sm).headD (-1)
def wayGo (rows : List (List Int)) (to : Int) : Nat → List Int → List Int
  | 0, _ => []
  | k + 1, sm => pickP rows to k sm :: wayGo rows to k (rowP rows (pickP rows to k sm))
def dAt (rows : List (List Int)) (frm : List Int) (x : Int) : Int := ((depthsP rows frm)[x.toNat]?).getD (-1)
def wayP (rows : List (List Int)) (frm : List Int) (to : Int) : List Int := if 0 ≤ to ∧ to < (rows.length : Nat) then wayGo rows to (dAt rows frm to + 1).toNat frm else []

theorem Nd.nat {rows : List (List Int)} {x : Int} (h : Nd rows x) : ∃ q : Nat, x = (q : Int) ∧ q < rows.length := ⟨x.toNat, by have := h.1; omega, by have := h.1; have := h.2; omega⟩
theorem dAt_is {rows : List (List Int)} {frm : List Int} {x : Int} (hx : Nd rows x) : IsD rows frm x (dAt rows frm x) := by
  obtain ⟨q, rfl, hq⟩ := hx.nat
  obtain ⟨d, h1, h2, _⟩ := depths_get (frm := frm) hq
  simp only [dAt, Int.toNat_natCast, h1]
  exact h2
theorem dTo_is {rows : List (List Int)} {to x : Int} (hx : Nd rows x) : IsD rows [x] to (dTo rows to x) := isD_turn.1 (dAt_is (rows := turnP rows) (frm := [to]) (nd_turn.2 hx))
theorem mem_cand {rows : List (List Int)} {to : Int} {k : Nat} {sm : List Int} {x : Int} : x ∈ candP rows to k sm ↔ x ∈ sm ∧ Nd rows x ∧ dTo rows to x = k := by
  simp only [candP, List.mem_filter, hereP_mem, decide_eq_true_eq, Nd, and_assoc]
theorem pick_mem {rows : List (List Int)} {to : Int} {k : Nat} {sm : List Int} (h : candP rows to k sm ≠ []) : pickP rows to k sm ∈ candP rows to k sm := by
  unfold pickP
  cases hc : candP rows to k sm with
  | nil => exact absurd hc h
  | cons x l => simp
theorem IsD.pth {rows : List (List Int)} {frm : List Int} {x : Int} {k : Nat} (h : IsD rows frm x k) : Pth rows frm k x ∧ ∀ i, i < k → ¬ Pth rows frm i x := by
  rcases h with ⟨j, hj, h1, h2⟩ | ⟨h, _⟩
  · have : j = k := by omega
    subst this; exact ⟨h1, h2⟩
  · omega
theorem IsD.mk {rows : List (List Int)} {frm : List Int} {x : Int} {k : Nat} (h1 : Pth rows frm k x) (h2 : ∀ i, i < k → ¬ Pth rows frm i x) : IsD rows frm x k := .inl ⟨k, rfl, h1, h2⟩
theorem cand_from {rows : List (List Int)} {frm : List Int} {to : Int} {k : Nat} (h : IsD rows frm to k) : candP rows to k frm ≠ [] := by
  obtain ⟨⟨a, ha, hw⟩, hn⟩ := h.pth
  have hd : IsD rows [a] to k := IsD.mk (pth_one.2 hw) fun i hi hp => hn i hi ⟨a, ha, pth_one.1 hp⟩
  exact List.ne_nil_of_mem (mem_cand.2 ⟨ha, hw.nd.1, (dTo_is hw.nd.1).uniq hd⟩)
theorem cand_next {rows : List (List Int)} {to x : Int} {k : Nat} (hx : Nd rows x) (h : dTo rows to x = ((k + 1 : Nat) : Int)) : candP rows to k (rowP rows x) ≠ [] := by
  have hd : IsD rows [x] to ((k + 1 : Nat) : Int) := h ▸ dTo_is hx
  obtain ⟨hp, hn⟩ := hd.pth
  obtain ⟨b, e, hw⟩ := (pth_one.1 hp).uncons
  have hb : IsD rows [b] to k := IsD.mk (pth_one.2 hw) fun i hi hp => hn (i + 1) (by omega) (pth_one.2 (Wk.cons e (pth_one.1 hp)))
  exact List.ne_nil_of_mem (mem_cand.2 ⟨e.2.2, e.2.1, (dTo_is e.2.1).uniq hb⟩)
theorem dTo_zero {rows : List (List Int)} {to x : Int} (hx : Nd rows x) : dTo rows to x = 0 ↔ x = to := by
  have h := dTo_is (to := to) hx
  constructor
  · intro e
    rw [e] at h
    have := (h.pth (k := 0)).1
    exact (pth_one.1 this).2
  · rintro rfl
    exact h.uniq (IsD.mk (k := 0) (pth_one.2 ⟨hx, rfl⟩) fun i hi => by omega)

/-! ## Min -/
theorem foldl_min_le : ∀ (l : List Int) (a : Int), (∀ x ∈ l, a ≤ x) → l.foldl min a = a
  | [], a, _ => rfl
  | x :: l, a, h => by
    have := h x (.head _)
    simp only [List.foldl_cons]
    rw [Int.min_eq_left this]
    exact foldl_min_le l a fun y hy => h y (.tail _ hy)
theorem minOf_sorted {zs : List Int} (h : zs.Pairwise (· < ·)) : Lib.minOf zs = zs.headD 0 := by
  unfold Lib.minOf
  cases zs with
  | nil => rfl
  | cons x l =>
    refine foldl_min_le _ _ fun y hy => ?_
    rcases List.mem_cons.1 hy with rfl | hy
    · exact Int.le_refl _
    · have := (List.pairwise_cons.1 h).1 y hy
      simp only [List.headD_cons]; omega

/-! ## the two functions that are handed to DeleteFunc -/
end Go.Proofs.YthamkgghnjenhaaGreat
namespace Go.Proofs.YthamkgghnjenhaaGreat
open Go.RowKit
set_option linter.unusedVariables false
set_option linter.unusedSimpArgs false

theorem RowsI.only {w w' : World} {gs : List SV} {rows : List (List Int)} (h : RowsI w gs rows) (ho : Only [] w w') : RowsI w' gs rows := ⟨h.len, fun i p r h1 h2 => (h.row i p r h1 h2).only ho⟩
theorem SlW.conv {α β : Type} {E : Enc α} {E' : Enc β} {w : World} {v : Value} {xs : List α} (f : α → β) (hz : E.sz = E'.sz) (he : ∀ x, E.enc x = E'.enc (f x)) (h : SlW w E v xs) : SlW w E' v (xs.map f) := by
  obtain ⟨a, c, h1, h2, h3, h4⟩ := h.shape
  refine ⟨⟨a, c, by rw [List.length_map]; exact h1, by rw [List.length_map]; exact h2, h3, fun hn => h4 (by intro e; subst e; exact hn rfl)⟩, ?_⟩
  intro i y hy j u hu
  rw [List.getElem?_map] at hy
  obtain ⟨x, hx, rfl⟩ := Option.map_eq_some_iff.1 hy
  rw [← hz]
  exact h.at_ i x hx j u (by rw [he]; exact hu)
def toSV (p : WR) : SV := match p.1 with
  | none => ⟨none, 0, 0⟩
  | some ob => ⟨some ⟨ob.b, 0, none⟩, p.2.length, ob.c⟩
theorem toSV_v (p : WR) : Value.slice (toSV p).a (toSV p).n (toSV p).c = oV p.1 p.2.length := by
  obtain ⟨o, l⟩ := p
  cases o <;> rfl
theorem HF.turned {w0 w : World} {F : Heap} {ws : List WR} {ow : Own} (hw : HF w0 (oH wE 22 ws ow ++ (wsH ws ++ F)) w) (okw : oOk wE ws ow) (oks : ∀ p ∈ ws, oOk iE p.2 p.1) :
    SlW w svE (oV ow ws.length) (ws.map toSV) ∧ RowsI w (ws.map toSV) (ws.map (·.2)) := by
  refine ⟨(hw.own okw rfl).conv toSV rfl (fun p => by show [oV p.1 p.2.length] = _; rw [← toSV_v]; rfl), ⟨by simp, ?_⟩⟩
  intro i p r h1 h2
  rw [List.getElem?_map] at h1 h2
  obtain ⟨q, hq, rfl⟩ := Option.map_eq_some_iff.1 h1
  rw [hq] at h2
  simp at h2
  subst h2
  rw [toSV_v]
  have := hw.tlA
  rw [wsH_split hq] at this
  simp only [List.append_assoc] at this
  exact this.tlA.own (oks q (List.mem_of_getElem? hq)) rfl
def totP (rows : List (List Int)) : Nat := (rows.map List.length).sum
theorem tot_row {rows : List (List Int)} {r : List Int} (h : r ∈ rows) : r.length ≤ totP rows := by
  unfold totP
  induction rows with
  | nil => cases h
  | cons a l ih =>
    simp only [List.map_cons, List.sum_cons]
    rcases List.mem_cons.1 h with rfl | h
    · omega
    · have := ih h; omega
theorem src_tot (rows : List (List Int)) (x : Int) : (srcP rows x rows.length).length ≤ totP rows := by
  have key : ∀ i, i ≤ rows.length → (srcP rows x i).length ≤ totP (rows.take i) := by
    intro i
    induction i with
    | zero => intro _; simp [srcP]
    | succ i ih =>
      intro hi
      obtain ⟨r, hr⟩ := get_of_lt (l := rows) (k := i) (by omega)
      have := ih (by omega)
      rw [srcP_succ, take_snoc hr, hr]
      simp only [List.length_append, List.length_replicate, totP, List.map_append, List.sum_append, List.map_cons, List.map_nil, List.sum_cons, List.sum_nil, Option.getD_some]
      have h2 : r.count x ≤ r.length := List.count_le_length
      unfold totP at this
      omega
  have := key rows.length (Nat.le_refl _)
  rwa [List.take_length] at this
theorem turn_rows {rows : List (List Int)} {B : Nat} (h : totP rows ≤ B) : ∀ r ∈ turnP rows, r.length ≤ B := by
  intro r hr
  obtain ⟨x, _, rfl⟩ := List.mem_map.1 hr
  exact Nat.le_trans (src_tot rows _) h

theorem turned_at {w0 : World} {H : Heap} {ws : List WR} {ow : Own} {rows : List (List Int)} (okw : oOk wE ws ow) (oks : ∀ p ∈ ws, oOk iE p.2 p.1) (hmp : ws.map (·.2) = turnP rows) (hp : Part H (oH wE 22 ws ow ++ wsH ws)) {w : World} (hw : HF w0 H w) :
    SlW w svE (oV ow ws.length) (ws.map toSV) ∧ RowsI w (ws.map toSV) (turnP rows) := by
  have := HF.turned (F := []) (by rw [List.append_nil]; exact hw.part hp) okw oks
  rwa [hmp] at this
structure WyS where
  b8 : Nat
  oL : Own
structure WyL where
  k : Nat
  at_ : Nat
  out : List Int
  o : Own
def WyH (b5 b7 b8 to : Nat) (rows : List (List Int)) (l : List Int) (oD oL : Own) : Heap :=
  (b8, cells [oV oL rows.length] 22) :: (b7, cells [oV oD rows.length] 22) :: (b5, cells [.int .i64 (to : Nat)] 3) :: (oH iE 3 (depthsP (turnP rows) [(to : Int)]) oL ++ oH iE 3 (depthsP rows l) oD)

end Go.Proofs.YthamkgghnjenhaaGreat
namespace Go.Proofs.YthamkgghnjenhaaGreat
open Go.RowKit
set_option linter.unusedVariables false
set_option linter.unusedSimpArgs false

def inB (st : List Bool) (x : Nat) : Bool := (st[x]?).getD false
def closedP (rows : List (List Int)) (st : List Bool) : Bool := (List.range rows.length).all fun (y : Nat) => !inB st y || (hereP rows.length (rowP rows (y : Int))).all fun x => inB st x.toNat

end Go.Proofs.YthamkgghnjenhaaGreat
namespace Go.Proofs.YthamkgghnjenhaaGreat
open Go.RowKit
set_option linter.unusedVariables false
set_option linter.unusedSimpArgs false

theorem in_S {rows : List (List Int)} {frm : List Int} {d : Nat} {x : Int} : x ∈ (stP rows frm d).1 ↔ ∃ j, j ≤ d ∧ x ∈ lvl rows frm j := by
  rw [(st_mem rows frm d).1 x]
  constructor
  · rintro ⟨j, hj, hp⟩
    obtain ⟨i, hi, h1, h2⟩ := hp.least
    exact ⟨i, by omega, ((st_mem rows frm i).2 x).2 ⟨h1, h2⟩⟩
  · rintro ⟨j, hj, hx⟩
    exact ⟨j, hj, (((st_mem rows frm j).2 x).1 hx).1⟩
theorem lvl_uniq {rows : List (List Int)} {frm : List Int} {i j : Nat} {x : Int} (hi : x ∈ lvl rows frm i) (hj : x ∈ lvl rows frm j) : i = j := by
  have := (IsD.ofLvl hi).uniq (IsD.ofLvl hj)
  omega

/-- the list of depths in round d, where the targets B have come -/
def RD (rows : List (List Int)) (frm : List Int) (d : Nat) (B : Int → Prop) (out : List Int) : Prop := out.length = rows.length ∧ ∀ (x : Nat) (v : Int), out[x]? = some v →
  (∃ j : Nat, j ≤ d ∧ v = j ∧ (x : Int) ∈ lvl rows frm j) ∨ ((∀ j, j ≤ d → (x : Int) ∉ lvl rows frm j) ∧ ((B x ∧ v = (d : Int) + 1) ∨ (¬ B x ∧ v = -1)))
def RB (rows : List (List Int)) (frm : List Int) (d m i : Nat) (x : Int) : Prop := (∃ y : Nat, y < m ∧ (y : Int) ∈ lvl rows frm d ∧ x ∈ rowP rows (y : Int)) ∨ ((m : Int) ∈ lvl rows frm d ∧ x ∈ (rowP rows (m : Int)).take i)
theorem RD.congr {rows : List (List Int)} {frm : List Int} {d : Nat} {B B' : Int → Prop} {out : List Int} (h : RD rows frm d B out) (hb : ∀ x : Nat, x < rows.length → (B x ↔ B' x)) : RD rows frm d B' out := by
  refine ⟨h.1, fun x v hx => ?_⟩
  have hx' := lt_of_get hx
  rw [h.1] at hx'
  have := h.2 x v hx
  rw [hb x hx'] at this
  exact this
theorem RD.at_d {rows : List (List Int)} {frm : List Int} {d : Nat} {B : Int → Prop} {out : List Int} (h : RD rows frm d B out) {x : Nat} {v : Int} (hx : out[x]? = some v) : v = d ↔ (x : Int) ∈ lvl rows frm d := by
  rcases h.2 x v hx with ⟨j, hj, rfl, hl⟩ | ⟨hn, (⟨_, rfl⟩ | ⟨_, rfl⟩)⟩
  · constructor
    · intro e; have : j = d := by omega
      subst this; exact hl
    · intro hl'; rw [lvl_uniq hl hl']
  · exact ⟨fun e => by omega, fun hl => absurd hl (hn d (Nat.le_refl _))⟩
  · exact ⟨fun e => by omega, fun hl => absurd hl (hn d (Nat.le_refl _))⟩
/-- an edge to t -/
theorem RD.put {rows : List (List Int)} {frm : List Int} {d : Nat} {B : Int → Prop} {out : List Int} (h : RD rows frm d B out) {t : Nat} {v : Int} (ht : out[t]? = some v) (hv : v < 0) : RD rows frm d (fun x => B x ∨ x = t) (out.set t ((d : Int) + 1)) := by
  refine ⟨by simpa using h.1, fun x u hx => ?_⟩
  by_cases e : t = x
  · subst e
    rw [List.getElem?_set_self (lt_of_get ht)] at hx
    cases hx
    rcases h.2 t v ht with ⟨j, hj, rfl, hl⟩ | ⟨hn, _⟩
    · omega
    · exact .inr ⟨hn, .inl ⟨.inr rfl, rfl⟩⟩
  · rw [List.getElem?_set_ne e] at hx
    rcases h.2 x u hx with h1 | ⟨hn, (⟨h1, h2⟩ | ⟨h1, h2⟩)⟩
    · exact .inl h1
    · exact .inr ⟨hn, .inl ⟨.inl h1, h2⟩⟩
    · exact .inr ⟨hn, .inr ⟨fun hh => by rcases hh with hh | hh; exact h1 hh; omega, h2⟩⟩
theorem RD.skip {rows : List (List Int)} {frm : List Int} {d : Nat} {B : Int → Prop} {out : List Int} (h : RD rows frm d B out) {t v : Int} (ht : ∀ x : Nat, x < rows.length → (x : Int) = t → out[x]? = some v) (hv : ¬ v < 0) : RD rows frm d (fun x => B x ∨ x = t) out := by
  refine ⟨h.1, fun x u hx => ?_⟩
  have hxl := lt_of_get hx
  rw [h.1] at hxl
  rcases h.2 x u hx with h1 | ⟨hn, (⟨h1, h2⟩ | ⟨h1, h2⟩)⟩
  · exact .inl h1
  · exact .inr ⟨hn, .inl ⟨.inl h1, h2⟩⟩
  · refine .inr ⟨hn, .inr ⟨fun hh => ?_, h2⟩⟩
    rcases hh with hh | hh
    · exact h1 hh
    · have := ht x hxl hh
      rw [hx] at this
      cases this
      omega
theorem RD.next {rows : List (List Int)} {frm : List Int} {d : Nat} {out : List Int} (h : RD rows frm d (RB rows frm d rows.length 0) out) : RD rows frm (d + 1) (RB rows frm (d + 1) 0 0) out := by
  have hB : ∀ x : Nat, x < rows.length → (RB rows frm d rows.length 0 x ↔ ∃ y ∈ lvl rows frm d, (x : Int) ∈ rowP rows y) := by
    intro x hx
    unfold RB
    simp only [List.take_zero, List.not_mem_nil, and_false, or_false]
    constructor
    · rintro ⟨y, _, h1, h2⟩; exact ⟨y, h1, h2⟩
    · rintro ⟨y, h1, h2⟩
      obtain ⟨y, rfl, hy⟩ := (((st_mem rows frm d).2 y).1 h1).1.nd.nat
      exact ⟨y, hy, h1, h2⟩
  have hL : ∀ x : Nat, x < rows.length → ((x : Int) ∈ lvl rows frm (d + 1) ↔ (∃ y ∈ lvl rows frm d, (x : Int) ∈ rowP rows y) ∧ ∀ j, j ≤ d → (x : Int) ∉ lvl rows frm j) := by
    intro x hx
    show (x : Int) ∈ freshP rows.length (stP rows frm d).1 (belowP rows (stP rows frm d).2) ↔ _
    rw [fresh_mem, mem_below, in_S]
    constructor
    · rintro ⟨h1, _, h2⟩; exact ⟨h1, fun j hj hx => h2 ⟨j, hj, hx⟩⟩
    · rintro ⟨h1, h2⟩; exact ⟨h1, ⟨by omega, by omega⟩, fun ⟨j, hj, hx⟩ => h2 j hj hx⟩
  refine ⟨h.1, fun x v hx => ?_⟩
  have hxl := lt_of_get hx
  rw [h.1] at hxl
  have hnb : ¬ RB rows frm (d + 1) 0 0 x := by unfold RB; simp
  rcases h.2 x v hx with ⟨j, hj, rfl, hl⟩ | ⟨hn, (⟨h1, h2⟩ | ⟨h1, h2⟩)⟩
  · exact .inl ⟨j, by omega, rfl, hl⟩
  · exact .inl ⟨d + 1, Nat.le_refl _, by rw [h2]; simp, (hL x hxl).2 ⟨(hB x hxl).1 h1, hn⟩⟩
  · refine .inr ⟨fun j hj hl => ?_, .inr ⟨hnb, h2⟩⟩
    rcases Nat.lt_or_ge d j with hd | hd
    · have : j = d + 1 := by omega
      subst this
      exact h1 ((hB x hxl).2 ((hL x hxl).1 hl).1)
    · exact hn j hd hl
theorem RD.fin {rows : List (List Int)} {frm : List Int} {out : List Int} (h : RD rows frm rows.length (RB rows frm rows.length 0 0) out) : out = depthsP rows frm := by
  apply List.ext_getElem?
  intro x
  rcases Nat.lt_or_ge x rows.length with hx | hx
  · obtain ⟨v, hv⟩ := get_of_lt (l := out) (k := x) (by rw [h.1]; exact hx)
    rw [hv]
    refine (depths_is hx ?_).symm
    have hnb : ¬ RB rows frm rows.length 0 0 x := by unfold RB; simp
    rcases h.2 x v hv with ⟨j, hj, rfl, hl⟩ | ⟨hn, (⟨h1, h2⟩ | ⟨h1, h2⟩)⟩
    · exact IsD.ofLvl hl
    · exact absurd h1 hnb
    · rw [h2]
      refine IsD.none fun j hj => ?_
      exact hn j (lvl_le (List.ne_nil_of_mem hj)) hj
  · rw [List.getElem?_eq_none (by rw [h.1]; exact hx), List.getElem?_eq_none (by rw [depths_len]; exact hx)]

structure RS where
  k : Nat
  out : List Int
  o : Own
structure RS2 where
  k : Nat
  out : List Int

def initP (frm : List Int) (k : Nat) : List Int := (List.range k).map fun (x : Nat) => if (x : Int) ∈ frm then 0 else -1
theorem initP_succ (frm : List Int) (k : Nat) : initP frm (k + 1) = initP frm k ++ [if (k : Int) ∈ frm then 0 else -1] := by simp [initP, List.range_succ]
theorem initP_len (frm : List Int) (k : Nat) : (initP frm k).length = k := by simp [initP]
theorem RD.init (rows : List (List Int)) (frm : List Int) : RD rows frm 0 (RB rows frm 0 0 0) (initP frm rows.length) := by
  refine ⟨initP_len _ _, fun x v hx => ?_⟩
  have hxl := lt_of_get hx
  rw [initP_len] at hxl
  simp only [initP, List.getElem?_map, List.getElem?_range hxl, Option.map_some, Option.some.injEq] at hx
  have hl : (x : Int) ∈ lvl rows frm 0 ↔ (x : Int) ∈ frm := by
    show (x : Int) ∈ hereP rows.length frm ↔ _
    rw [hereP_mem]
    exact ⟨fun h => h.1, fun h => ⟨h, by omega, by omega⟩⟩
  by_cases h : (x : Int) ∈ frm
  · rw [if_pos h] at hx
    exact .inl ⟨0, Nat.le_refl _, hx.symm, hl.2 h⟩
  · rw [if_neg h] at hx
    refine .inr ⟨fun j hj hh => ?_, .inr ⟨by unfold RB; simp, hx.symm⟩⟩
    have : j = 0 := by omega
    subst this
    exact h (hl.1 hh)

set_option maxRecDepth 10000 in
set_option maxHeartbeats 4000000 in
theorem RDepths_K {w0 : World} {vg vl : Value} {gs : List SV} {rows : List (List Int)} {l : List Int} (hG : SlW w0 svE vg gs) (hR : RowsI w0 gs rows) (hL : SlW w0 iE vl l) (hl : l.length ≤ 100000) (hn : gs.length ≤ 100) (hb : ∀ r ∈ rows, r.length ≤ 1000) :
    Call Tryz.prog w0 78 [vg, vl] [] (fun r H' => ∃ o, oOk iE (depthsP rows l) o ∧ r = oV o (depthsP rows l).length ∧ H' = oH iE 3 (depthsP rows l) o) := by
  refine Call.enter2 (n := 83) (by kernel_rfl) Tryz.func78 rfl rfl rfl ?_
  have hgl := hR.len
  refine K.seq ?_
  refine K.region ?_
  (refine KL.v rfl (Val.assign rfl) ?_)
  refine KL.nil ?_
  refine KE.next ?_
  refine K.seq ?_
  refine K.region ?_
  (refine KL.v rfl (Val.assign rfl) ?_)
  refine KL.nil ?_
  refine KE.next ?_
  refine K.seq ?_
  refine K.seq ?_
  refine K.region ?_
  (refine KL.v rfl (Val.assign rfl) ?_)
  refine KL.nil ?_
  refine KE.next ?_
  refine K.block ?_
  refine K.loopT (σ := RS) [(0, _), (1, _)] (fun s kp_ => (6, .int .i64 (s.k : Nat)) :: (5, oV s.o s.out.length) :: kp_) (fun s => oH iE 3 s.out s.o ++ []) (fun s => s.k ≤ rows.length ∧ s.out = initP l s.k ∧ oOk iE s.out s.o) (fun s => rows.length - s.k) (⟨0, [], none⟩) bySub byPart (⟨by simp, rfl, rfl⟩) ?_
  rintro ⟨k, out, o⟩ ⟨hk, he, oko⟩
  dsimp only at hk he oko ⊢
  subst he
  have hil := initP_len l k
  by_cases hlt : k < rows.length
  · have hbd : ∀ z : Int, (initP l k ++ [z]).length ≤ 4294967296 := fun z => by simp [hil]; omega
    have hb0 := hbd 0
    have hb1 := hbd (-1)
    have hsn := initP_succ l k
    by_cases hm : (k : Int) ∈ l
    · rw [if_pos hm] at hsn
      refine K.seq ?_
      refine K.seq ?_
      refine K.region ?_
      (refine KL.v rfl (Val.move rfl) ?_)
      (refine KL.v rfl (Val.move rfl) ?_)
      (refine KL.v rfl (Val.lenSl rfl rfl bySli) ?_)
      (refine KL.v rfl (Val.isT (Val.lss rfl rfl) byLt) ?_)
      refine KL.nil ?_
      refine KE.next ?_
      refine K.condT rfl ?_
      refine K.skip ?_
      refine KE.next ?_
      refine K.seq ?_
      refine K.block ?_
      refine K.seq ?_
      refine K.region ?_
      (refine KL.v rfl (Val.move rfl) ?_)
      (refine KL.v rfl (Val.move rfl) ?_)
      (refine KL.callc rfl rfl byEvL fun T hT => ?_)
      refine (CallV.fn (Has_K (Sli.old hL) hl)).mono ?_
      rintro _ _ ⟨rfl, rfl⟩
      rw [decide_eq_true hm]
      refine hT _ _ ?_; clear hT; clear T
      refine KL.nil ?_
      refine KE.next ?_
      refine K.condT rfl ?_
      refine K.region ?_
      (refine KL.v rfl (Val.move rfl) ?_)
      (refine KL.e rfl (Eff.buildS byParts rfl rfl rfl rfl rfl byFill) ?_; rintro _ _ ⟨b21, rfl, rfl⟩)
      (refine KL.e rfl (Eff.appZ (ys := [_]) rfl rfl rfl rfl rfl rfl byTakeL (by assumption) (by first | exact Sli.blk byTake rfl (by first | decide | simp) (by first | decide | (unfold maxLen; omega)) rfl | exact Sli.old (by assumption) | exact Sli.own byTakeL (by assumption) byLen | assumption | exact Sli.part (by assumption) byPart) rfl (by first | assumption | omega | (simp <;> fail) | (simp; omega)) rfl) ?_; rintro _ _ ⟨o22, ok22, rfl, rfl⟩)
      (refine KL.v rfl (Val.assign rfl) ?_)
      refine KL.nil ?_
      refine KE.blkN ?_
      refine KE.next ?_
      refine K.region ?_
      (refine KL.v rfl (Val.move rfl) ?_)
      (refine KL.v rfl (Val.add rfl rfl (by simp only [Go.Proofs.YthamkgghnjenhaaGreat.lo, Go.Proofs.YthamkgghnjenhaaGreat.hi]; omega)) ?_)
      (refine KL.v rfl (Val.assign rfl) ?_)
      refine KL.nil ?_
      exact KE.again ⟨k + 1, initP l k ++ [0], o22⟩ bySub byPart ⟨by show k + 1 ≤ _; omega, hsn.symm, ok22⟩ (by show rows.length - (k + 1) < rows.length - k; omega)
    · rw [if_neg hm] at hsn
      refine K.seq ?_
      refine K.seq ?_
      refine K.region ?_
      (refine KL.v rfl (Val.move rfl) ?_)
      (refine KL.v rfl (Val.move rfl) ?_)
      (refine KL.v rfl (Val.lenSl rfl rfl bySli) ?_)
      (refine KL.v rfl (Val.isT (Val.lss rfl rfl) byLt) ?_)
      refine KL.nil ?_
      refine KE.next ?_
      refine K.condT rfl ?_
      refine K.skip ?_
      refine KE.next ?_
      refine K.seq ?_
      refine K.block ?_
      refine K.seq ?_
      refine K.region ?_
      (refine KL.v rfl (Val.move rfl) ?_)
      (refine KL.v rfl (Val.move rfl) ?_)
      (refine KL.callc rfl rfl byEvL fun T hT => ?_)
      refine (CallV.fn (Has_K (Sli.old hL) hl)).mono ?_
      rintro _ _ ⟨rfl, rfl⟩
      rw [decide_eq_false hm]
      refine hT _ _ ?_; clear hT; clear T
      refine KL.nil ?_
      refine KE.next ?_
      refine K.condF rfl ?_
      refine K.region ?_
      (refine KL.v rfl (Val.move rfl) ?_)
      (refine KL.e rfl (Eff.buildS byParts rfl rfl rfl rfl rfl byFill) ?_; rintro _ _ ⟨b24, rfl, rfl⟩)
      (refine KL.e rfl (Eff.appZ (ys := [_]) rfl rfl rfl rfl rfl rfl byTakeL (by assumption) (by first | exact Sli.blk byTake rfl (by first | decide | simp) (by first | decide | (unfold maxLen; omega)) rfl | exact Sli.old (by assumption) | exact Sli.own byTakeL (by assumption) byLen | assumption | exact Sli.part (by assumption) byPart) rfl (by first | assumption | omega | (simp <;> fail) | (simp; omega)) rfl) ?_; rintro _ _ ⟨o25, ok25, rfl, rfl⟩)
      (refine KL.v rfl (Val.assign rfl) ?_)
      refine KL.nil ?_
      refine KE.blkN ?_
      refine KE.next ?_
      refine K.region ?_
      (refine KL.v rfl (Val.move rfl) ?_)
      (refine KL.v rfl (Val.add rfl rfl (by simp only [Go.Proofs.YthamkgghnjenhaaGreat.lo, Go.Proofs.YthamkgghnjenhaaGreat.hi]; omega)) ?_)
      (refine KL.v rfl (Val.assign rfl) ?_)
      refine KL.nil ?_
      exact KE.again ⟨k + 1, initP l k ++ [-1], o25⟩ bySub byPart ⟨by show k + 1 ≤ _; omega, hsn.symm, ok25⟩ (by show rows.length - (k + 1) < rows.length - k; omega)
  · have hke : k = rows.length := by omega
    subst hke
    refine K.seq ?_
    refine K.seq ?_
    refine K.region ?_
    (refine KL.v rfl (Val.move rfl) ?_)
    (refine KL.v rfl (Val.move rfl) ?_)
    (refine KL.v rfl (Val.lenSl rfl rfl bySli) ?_)
    (refine KL.v rfl (Val.isF (Val.lss rfl rfl) byLt) ?_)
    refine KL.nil ?_
    refine KE.next ?_
    refine K.condF rfl ?_
    refine K.exit ?_
    refine KE.passX ?_
    refine KE.passX ?_
    refine KE.blkX ?_
    refine KE.next ?_
    refine K.seq ?_
    refine K.seq ?_
    refine K.region ?_
    (refine KL.v rfl (Val.assign rfl) ?_)
    refine KL.nil ?_
    refine KE.next ?_
    refine K.block ?_
    refine K.loopT (σ := RS2) [(0, _)] (fun s kp_ => (7, .int .i64 (s.k : Nat)) :: (5, oV o s.out.length) :: kp_) (fun s => oH iE 3 s.out o ++ []) (fun s => s.k ≤ rows.length ∧ RD rows l s.k (RB rows l s.k 0 0) s.out ∧ oOk iE s.out o) (fun s => rows.length - s.k) (⟨0, initP l rows.length⟩) bySub byPart (⟨by simp, RD.init rows l, oko⟩) ?_
    rintro ⟨d, out⟩ ⟨hd, hD, okd⟩
    dsimp only at hd hD okd ⊢
    by_cases hdl : d < rows.length
    · skip
      refine K.seq ?_
      refine K.seq ?_
      refine K.region ?_
      (refine KL.v rfl (Val.move rfl) ?_)
      (refine KL.v rfl (Val.move rfl) ?_)
      (refine KL.v rfl (Val.lenSl rfl rfl bySli) ?_)
      (refine KL.v rfl (Val.isT (Val.lss rfl rfl) byLt) ?_)
      refine KL.nil ?_
      refine KE.next ?_
      refine K.condT rfl ?_
      refine K.skip ?_
      refine KE.next ?_
      refine K.seq ?_
      refine K.block ?_
      refine K.seq ?_
      refine K.region ?_
      (refine KL.v rfl (Val.assign rfl) ?_)
      refine KL.nil ?_
      refine KE.next ?_
      refine K.block ?_
      refine K.loopT (σ := RS2) [(0, _), (7, _)] (fun s kp_ => (8, .int .i64 (s.k : Nat)) :: (5, oV o s.out.length) :: kp_) (fun s => oH iE 3 s.out o ++ []) (fun s => s.k ≤ rows.length ∧ RD rows l d (RB rows l d s.k 0) s.out ∧ oOk iE s.out o) (fun s => rows.length - s.k) (⟨0, out⟩) bySub byPart (⟨by simp, hD, okd⟩) ?_
      rintro ⟨m, out⟩ ⟨hm, hD, okd⟩
      dsimp only at hm hD okd ⊢
      by_cases hml : m < rows.length
      · obtain ⟨r, hr⟩ := get_of_lt hml
        obtain ⟨p, hp⟩ := get_of_lt (l := gs) (k := m) (by omega)
        have hrow := hR.row m p r hp hr
        have hrl := hb r (List.mem_of_getElem? hr)
        have hrp : rowP rows (m : Int) = r := by simp [rowP, hr]
        have hmg : m < gs.length := by omega
        refine K.seq ?_
        refine K.seq ?_
        refine K.region ?_
        (refine KL.v rfl (Val.move rfl) ?_)
        (refine KL.v rfl (Val.move rfl) ?_)
        (refine KL.v rfl (Val.lenSl rfl rfl bySli) ?_)
        (refine KL.v rfl (Val.isT (Val.lss rfl rfl) byLt) ?_)
        refine KL.nil ?_
        refine KE.next ?_
        refine K.condT rfl ?_
        refine K.skip ?_
        refine KE.next ?_
        refine K.seq ?_
        refine K.block ?_
        refine K.seq ?_
        refine K.region ?_
        (refine KL.v rfl (Val.assign rfl) ?_)
        refine KL.nil ?_
        refine KE.next ?_
        refine K.block ?_
        refine K.loopT (σ := RS2) [(0, _), (7, _), (8, _)] (fun s kp_ => (9, .int .i64 (s.k : Nat)) :: (5, oV o s.out.length) :: kp_) (fun s => oH iE 3 s.out o ++ []) (fun s => s.k ≤ r.length ∧ (s.k = 0 ∨ (m : Int) ∈ lvl rows l d) ∧ RD rows l d (RB rows l d m s.k) s.out ∧ oOk iE s.out o) (fun s => r.length - s.k) (⟨0, out⟩) bySub byPart (⟨by simp, .inl rfl, hD, okd⟩) ?_
        rintro ⟨i, out⟩ ⟨hi, hmi, hD, okd⟩
        dsimp only at hi hmi hD okd ⊢
        have hol := hD.1
        obtain ⟨v, hv⟩ := get_of_lt (l := out) (k := m) (by omega)
        have hmo : m < out.length := by omega
        by_cases hmd : (m : Int) ∈ lvl rows l d
        · have hvd := (hD.at_d hv).2 hmd
          subst hvd
          by_cases hil2 : i < r.length
          · obtain ⟨t, ht⟩ := get_of_lt hil2
            have hRB : ∀ x : Nat, x < rows.length → ((RB rows l d m i x ∨ (x : Int) = t) ↔ RB rows l d m (i + 1) x) := by
              intro x hx
              unfold RB
              rw [hrp, take_snoc ht]
              simp only [List.mem_append, List.mem_singleton, hmd, true_and]
              rw [or_assoc]
            by_cases h0 : 0 ≤ t
            · by_cases h1 : t < (gs.length : Nat)
              · obtain ⟨q, rfl⟩ : ∃ q : Nat, t = (q : Int) := ⟨t.toNat, by omega⟩
                have hqo : q < out.length := by omega
                obtain ⟨u, hu⟩ := get_of_lt hqo
                by_cases hu0 : u < 0
                · have hD' := (hD.put hu hu0).congr hRB
                  refine K.seq ?_
                  refine K.seq ?_
                  refine K.region ?_
                  (refine KL.v rfl (Val.move rfl) ?_)
                  (refine KL.v rfl (Val.move rfl) ?_)
                  (refine KL.v rfl (Val.move rfl) ?_)
                  (refine KL.v rfl (Val.idxSl rfl rfl rfl bySli rfl byLt) ?_)
                  (refine KL.v rfl (Val.loadP rfl rfl bySee) ?_)
                  (refine KL.v rfl (Val.lenSl rfl rfl bySli) ?_)
                  (refine KL.v rfl (Val.isT (Val.lss rfl rfl) byLt) ?_)
                  (refine KL.v rfl (Val.move rfl) ?_)
                  (refine KL.yes rfl rfl ?_; refine KL.v rfl (Val.move rfl) ?_)
                  (refine KL.yes rfl rfl ?_; refine KL.v rfl (Val.move rfl) ?_)
                  (refine KL.yes rfl rfl ?_; refine KL.v rfl (Val.idxSl rfl rfl rfl bySli rfl byLt) ?_)
                  (refine KL.yes rfl rfl ?_; refine KL.v rfl (Val.loadP rfl rfl bySee) ?_)
                  (refine KL.yes rfl rfl ?_; refine KL.v rfl (Val.move rfl) ?_)
                  (refine KL.yes rfl rfl ?_; refine KL.v rfl (Val.isT (Val.eql rfl rfl) byLt) ?_)
                  (refine KL.v rfl (Val.pickT rfl rfl rfl) ?_)
                  refine KL.nil ?_
                  refine KE.next ?_
                  refine K.condT rfl ?_
                  refine K.skip ?_
                  refine KE.next ?_
                  refine K.seq ?_
                  refine K.block ?_
                  refine K.seq ?_
                  refine K.region ?_
                  (refine KL.v rfl (Val.move rfl) ?_)
                  (refine KL.v rfl (Val.move rfl) ?_)
                  (refine KL.v rfl (Val.idxSl rfl rfl rfl bySli rfl byLt) ?_)
                  (refine KL.v rfl (Val.loadP rfl rfl bySee) ?_)
                  (refine KL.v rfl (Val.move rfl) ?_)
                  (refine KL.v rfl (Val.idxSl rfl rfl rfl bySli rfl byLt) ?_)
                  (refine KL.v rfl (Val.loadP rfl rfl bySee) ?_)
                  (refine KL.v rfl (Val.assign rfl) ?_)
                  refine KL.nil ?_
                  refine KE.next ?_
                  refine K.seq ?_
                  refine K.region ?_
                  (refine KL.v rfl (Val.move rfl) ?_)
                  (refine KL.v rfl (Val.isT (Val.geq rfl rfl) byLt) ?_)
                  (refine KL.v rfl (Val.move rfl) ?_)
                  (refine KL.yes rfl rfl ?_; refine KL.v rfl (Val.move rfl) ?_)
                  (refine KL.yes rfl rfl ?_; refine KL.v rfl (Val.move rfl) ?_)
                  (refine KL.yes rfl rfl ?_; refine KL.v rfl (Val.lenSl rfl rfl bySli) ?_)
                  (refine KL.yes rfl rfl ?_; refine KL.v rfl (Val.isT (Val.lss rfl rfl) byLt) ?_)
                  (refine KL.v rfl (Val.pickT rfl rfl rfl) ?_)
                  (refine KL.v rfl (Val.move rfl) ?_)
                  (refine KL.yes rfl rfl ?_; refine KL.v rfl (Val.move rfl) ?_)
                  (refine KL.yes rfl rfl ?_; refine KL.v rfl (Val.move rfl) ?_)
                  (refine KL.yes rfl rfl ?_; refine KL.v rfl (Val.idxSl rfl rfl rfl bySli rfl byLt) ?_)
                  (refine KL.yes rfl rfl ?_; refine KL.v rfl (Val.loadP rfl rfl bySee) ?_)
                  (refine KL.yes rfl rfl ?_; refine KL.v rfl (Val.isT (Val.lss rfl rfl) byLt) ?_)
                  (refine KL.v rfl (Val.pickT rfl rfl rfl) ?_)
                  refine KL.nil ?_
                  refine KE.next ?_
                  refine K.condT rfl ?_
                  refine K.region ?_
                  (refine KL.v rfl (Val.move rfl) ?_)
                  (refine KL.v rfl (Val.move rfl) ?_)
                  (refine KL.v rfl (Val.move rfl) ?_)
                  (refine KL.v rfl (Val.add rfl rfl (by simp only [Go.Proofs.YthamkgghnjenhaaGreat.lo, Go.Proofs.YthamkgghnjenhaaGreat.hi]; omega)) ?_)
                  (refine KL.v rfl (Val.idxSl rfl rfl rfl bySli rfl byLt) ?_)
                  (refine KL.eN (Eff.stSl0 rfl rfl rfl rfl byTakeL (by assumption) (by assumption) rfl rfl) ?_; rintro _ _ rfl)
                  refine KL.nil ?_
                  refine KE.blkN ?_
                  refine KE.next ?_
                  refine K.region ?_
                  (refine KL.v rfl (Val.move rfl) ?_)
                  (refine KL.v rfl (Val.add rfl rfl (by simp only [Go.Proofs.YthamkgghnjenhaaGreat.lo, Go.Proofs.YthamkgghnjenhaaGreat.hi]; omega)) ?_)
                  (refine KL.v rfl (Val.assign rfl) ?_)
                  refine KL.nil ?_
                  exact KE.again ⟨i + 1, out.set q ((d : Int) + 1)⟩ bySub byPart ⟨by show i + 1 ≤ _; omega, .inr hmd, hD', okd.set _ _⟩ (by show r.length - (i + 1) < r.length - i; omega)
                · have hD' := (hD.skip (t := (q : Int)) (v := u) (fun x hx e => by have : x = q := by omega
                                                                                   subst this; exact hu) hu0).congr hRB
                  refine K.seq ?_
                  refine K.seq ?_
                  refine K.region ?_
                  (refine KL.v rfl (Val.move rfl) ?_)
                  (refine KL.v rfl (Val.move rfl) ?_)
                  (refine KL.v rfl (Val.move rfl) ?_)
                  (refine KL.v rfl (Val.idxSl rfl rfl rfl bySli rfl byLt) ?_)
                  (refine KL.v rfl (Val.loadP rfl rfl bySee) ?_)
                  (refine KL.v rfl (Val.lenSl rfl rfl bySli) ?_)
                  (refine KL.v rfl (Val.isT (Val.lss rfl rfl) byLt) ?_)
                  (refine KL.v rfl (Val.move rfl) ?_)
                  (refine KL.yes rfl rfl ?_; refine KL.v rfl (Val.move rfl) ?_)
                  (refine KL.yes rfl rfl ?_; refine KL.v rfl (Val.move rfl) ?_)
                  (refine KL.yes rfl rfl ?_; refine KL.v rfl (Val.idxSl rfl rfl rfl bySli rfl byLt) ?_)
                  (refine KL.yes rfl rfl ?_; refine KL.v rfl (Val.loadP rfl rfl bySee) ?_)
                  (refine KL.yes rfl rfl ?_; refine KL.v rfl (Val.move rfl) ?_)
                  (refine KL.yes rfl rfl ?_; refine KL.v rfl (Val.isT (Val.eql rfl rfl) byLt) ?_)
                  (refine KL.v rfl (Val.pickT rfl rfl rfl) ?_)
                  refine KL.nil ?_
                  refine KE.next ?_
                  refine K.condT rfl ?_
                  refine K.skip ?_
                  refine KE.next ?_
                  refine K.seq ?_
                  refine K.block ?_
                  refine K.seq ?_
                  refine K.region ?_
                  (refine KL.v rfl (Val.move rfl) ?_)
                  (refine KL.v rfl (Val.move rfl) ?_)
                  (refine KL.v rfl (Val.idxSl rfl rfl rfl bySli rfl byLt) ?_)
                  (refine KL.v rfl (Val.loadP rfl rfl bySee) ?_)
                  (refine KL.v rfl (Val.move rfl) ?_)
                  (refine KL.v rfl (Val.idxSl rfl rfl rfl bySli rfl byLt) ?_)
                  (refine KL.v rfl (Val.loadP rfl rfl bySee) ?_)
                  (refine KL.v rfl (Val.assign rfl) ?_)
                  refine KL.nil ?_
                  refine KE.next ?_
                  refine K.seq ?_
                  refine K.region ?_
                  (refine KL.v rfl (Val.move rfl) ?_)
                  (refine KL.v rfl (Val.isT (Val.geq rfl rfl) byLt) ?_)
                  (refine KL.v rfl (Val.move rfl) ?_)
                  (refine KL.yes rfl rfl ?_; refine KL.v rfl (Val.move rfl) ?_)
                  (refine KL.yes rfl rfl ?_; refine KL.v rfl (Val.move rfl) ?_)
                  (refine KL.yes rfl rfl ?_; refine KL.v rfl (Val.lenSl rfl rfl bySli) ?_)
                  (refine KL.yes rfl rfl ?_; refine KL.v rfl (Val.isT (Val.lss rfl rfl) byLt) ?_)
                  (refine KL.v rfl (Val.pickT rfl rfl rfl) ?_)
                  (refine KL.v rfl (Val.move rfl) ?_)
                  (refine KL.yes rfl rfl ?_; refine KL.v rfl (Val.move rfl) ?_)
                  (refine KL.yes rfl rfl ?_; refine KL.v rfl (Val.move rfl) ?_)
                  (refine KL.yes rfl rfl ?_; refine KL.v rfl (Val.idxSl rfl rfl rfl bySli rfl byLt) ?_)
                  (refine KL.yes rfl rfl ?_; refine KL.v rfl (Val.loadP rfl rfl bySee) ?_)
                  (refine KL.yes rfl rfl ?_; refine KL.v rfl (Val.isF (Val.lss rfl rfl) byLt) ?_)
                  (refine KL.v rfl (Val.pickT rfl rfl rfl) ?_)
                  refine KL.nil ?_
                  refine KE.next ?_
                  refine K.condF rfl ?_
                  refine K.skip ?_
                  refine KE.blkN ?_
                  refine KE.next ?_
                  refine K.region ?_
                  (refine KL.v rfl (Val.move rfl) ?_)
                  (refine KL.v rfl (Val.add rfl rfl (by simp only [Go.Proofs.YthamkgghnjenhaaGreat.lo, Go.Proofs.YthamkgghnjenhaaGreat.hi]; omega)) ?_)
                  (refine KL.v rfl (Val.assign rfl) ?_)
                  refine KL.nil ?_
                  exact KE.again ⟨i + 1, out⟩ bySub byPart ⟨by show i + 1 ≤ _; omega, .inr hmd, hD', okd⟩ (by show r.length - (i + 1) < r.length - i; omega)
              · have hD' := (hD.skip (t := t) (v := 0) (fun x hx e => by omega) (by omega)).congr hRB
                refine K.seq ?_
                refine K.seq ?_
                refine K.region ?_
                (refine KL.v rfl (Val.move rfl) ?_)
                (refine KL.v rfl (Val.move rfl) ?_)
                (refine KL.v rfl (Val.move rfl) ?_)
                (refine KL.v rfl (Val.idxSl rfl rfl rfl bySli rfl byLt) ?_)
                (refine KL.v rfl (Val.loadP rfl rfl bySee) ?_)
                (refine KL.v rfl (Val.lenSl rfl rfl bySli) ?_)
                (refine KL.v rfl (Val.isT (Val.lss rfl rfl) byLt) ?_)
                (refine KL.v rfl (Val.move rfl) ?_)
                (refine KL.yes rfl rfl ?_; refine KL.v rfl (Val.move rfl) ?_)
                (refine KL.yes rfl rfl ?_; refine KL.v rfl (Val.move rfl) ?_)
                (refine KL.yes rfl rfl ?_; refine KL.v rfl (Val.idxSl rfl rfl rfl bySli rfl byLt) ?_)
                (refine KL.yes rfl rfl ?_; refine KL.v rfl (Val.loadP rfl rfl bySee) ?_)
                (refine KL.yes rfl rfl ?_; refine KL.v rfl (Val.move rfl) ?_)
                (refine KL.yes rfl rfl ?_; refine KL.v rfl (Val.isT (Val.eql rfl rfl) byLt) ?_)
                (refine KL.v rfl (Val.pickT rfl rfl rfl) ?_)
                refine KL.nil ?_
                refine KE.next ?_
                refine K.condT rfl ?_
                refine K.skip ?_
                refine KE.next ?_
                refine K.seq ?_
                refine K.block ?_
                refine K.seq ?_
                refine K.region ?_
                (refine KL.v rfl (Val.move rfl) ?_)
                (refine KL.v rfl (Val.move rfl) ?_)
                (refine KL.v rfl (Val.idxSl rfl rfl rfl bySli rfl byLt) ?_)
                (refine KL.v rfl (Val.loadP rfl rfl bySee) ?_)
                (refine KL.v rfl (Val.move rfl) ?_)
                (refine KL.v rfl (Val.idxSl rfl rfl rfl bySli rfl byLt) ?_)
                (refine KL.v rfl (Val.loadP rfl rfl bySee) ?_)
                (refine KL.v rfl (Val.assign rfl) ?_)
                refine KL.nil ?_
                refine KE.next ?_
                refine K.seq ?_
                refine K.region ?_
                (refine KL.v rfl (Val.move rfl) ?_)
                (refine KL.v rfl (Val.isT (Val.geq rfl rfl) byLt) ?_)
                (refine KL.v rfl (Val.move rfl) ?_)
                (refine KL.yes rfl rfl ?_; refine KL.v rfl (Val.move rfl) ?_)
                (refine KL.yes rfl rfl ?_; refine KL.v rfl (Val.move rfl) ?_)
                (refine KL.yes rfl rfl ?_; refine KL.v rfl (Val.lenSl rfl rfl bySli) ?_)
                (refine KL.yes rfl rfl ?_; refine KL.v rfl (Val.isF (Val.lss rfl rfl) byLt) ?_)
                (refine KL.v rfl (Val.pickT rfl rfl rfl) ?_)
                (refine KL.v rfl (Val.move rfl) ?_)
                refine KL.skipG rfl rfl rfl ?_
                refine KL.skipG rfl rfl rfl ?_
                refine KL.skipG rfl rfl rfl ?_
                refine KL.skipG rfl rfl rfl ?_
                refine KL.skipG rfl rfl rfl ?_
                (refine KL.v rfl (Val.pickF rfl rfl rfl) ?_)
                refine KL.nil ?_
                refine KE.next ?_
                refine K.condF rfl ?_
                refine K.skip ?_
                refine KE.blkN ?_
                refine KE.next ?_
                refine K.region ?_
                (refine KL.v rfl (Val.move rfl) ?_)
                (refine KL.v rfl (Val.add rfl rfl (by simp only [Go.Proofs.YthamkgghnjenhaaGreat.lo, Go.Proofs.YthamkgghnjenhaaGreat.hi]; omega)) ?_)
                (refine KL.v rfl (Val.assign rfl) ?_)
                refine KL.nil ?_
                exact KE.again ⟨i + 1, out⟩ bySub byPart ⟨by show i + 1 ≤ _; omega, .inr hmd, hD', okd⟩ (by show r.length - (i + 1) < r.length - i; omega)
            · have hD' := (hD.skip (t := t) (v := 0) (fun x hx e => by omega) (by omega)).congr hRB
              refine K.seq ?_
              refine K.seq ?_
              refine K.region ?_
              (refine KL.v rfl (Val.move rfl) ?_)
              (refine KL.v rfl (Val.move rfl) ?_)
              (refine KL.v rfl (Val.move rfl) ?_)
              (refine KL.v rfl (Val.idxSl rfl rfl rfl bySli rfl byLt) ?_)
              (refine KL.v rfl (Val.loadP rfl rfl bySee) ?_)
              (refine KL.v rfl (Val.lenSl rfl rfl bySli) ?_)
              (refine KL.v rfl (Val.isT (Val.lss rfl rfl) byLt) ?_)
              (refine KL.v rfl (Val.move rfl) ?_)
              (refine KL.yes rfl rfl ?_; refine KL.v rfl (Val.move rfl) ?_)
              (refine KL.yes rfl rfl ?_; refine KL.v rfl (Val.move rfl) ?_)
              (refine KL.yes rfl rfl ?_; refine KL.v rfl (Val.idxSl rfl rfl rfl bySli rfl byLt) ?_)
              (refine KL.yes rfl rfl ?_; refine KL.v rfl (Val.loadP rfl rfl bySee) ?_)
              (refine KL.yes rfl rfl ?_; refine KL.v rfl (Val.move rfl) ?_)
              (refine KL.yes rfl rfl ?_; refine KL.v rfl (Val.isT (Val.eql rfl rfl) byLt) ?_)
              (refine KL.v rfl (Val.pickT rfl rfl rfl) ?_)
              refine KL.nil ?_
              refine KE.next ?_
              refine K.condT rfl ?_
              refine K.skip ?_
              refine KE.next ?_
              refine K.seq ?_
              refine K.block ?_
              refine K.seq ?_
              refine K.region ?_
              (refine KL.v rfl (Val.move rfl) ?_)
              (refine KL.v rfl (Val.move rfl) ?_)
              (refine KL.v rfl (Val.idxSl rfl rfl rfl bySli rfl byLt) ?_)
              (refine KL.v rfl (Val.loadP rfl rfl bySee) ?_)
              (refine KL.v rfl (Val.move rfl) ?_)
              (refine KL.v rfl (Val.idxSl rfl rfl rfl bySli rfl byLt) ?_)
              (refine KL.v rfl (Val.loadP rfl rfl bySee) ?_)
              (refine KL.v rfl (Val.assign rfl) ?_)
              refine KL.nil ?_
              refine KE.next ?_
              refine K.seq ?_
              refine K.region ?_
              (refine KL.v rfl (Val.move rfl) ?_)
              (refine KL.v rfl (Val.isF (Val.geq rfl rfl) byLt) ?_)
              (refine KL.v rfl (Val.move rfl) ?_)
              refine KL.skipG rfl rfl rfl ?_
              refine KL.skipG rfl rfl rfl ?_
              refine KL.skipG rfl rfl rfl ?_
              refine KL.skipG rfl rfl rfl ?_
              (refine KL.v rfl (Val.pickF rfl rfl rfl) ?_)
              (refine KL.v rfl (Val.move rfl) ?_)
              refine KL.skipG rfl rfl rfl ?_
              refine KL.skipG rfl rfl rfl ?_
              refine KL.skipG rfl rfl rfl ?_
              refine KL.skipG rfl rfl rfl ?_
              refine KL.skipG rfl rfl rfl ?_
              (refine KL.v rfl (Val.pickF rfl rfl rfl) ?_)
              refine KL.nil ?_
              refine KE.next ?_
              refine K.condF rfl ?_
              refine K.skip ?_
              refine KE.blkN ?_
              refine KE.next ?_
              refine K.region ?_
              (refine KL.v rfl (Val.move rfl) ?_)
              (refine KL.v rfl (Val.add rfl rfl (by simp only [Go.Proofs.YthamkgghnjenhaaGreat.lo, Go.Proofs.YthamkgghnjenhaaGreat.hi]; omega)) ?_)
              (refine KL.v rfl (Val.assign rfl) ?_)
              refine KL.nil ?_
              exact KE.again ⟨i + 1, out⟩ bySub byPart ⟨by show i + 1 ≤ _; omega, .inr hmd, hD', okd⟩ (by show r.length - (i + 1) < r.length - i; omega)
          · have hD' : RD rows l d (RB rows l d (m + 1) 0) out := hD.congr fun x hx => by
              unfold RB
              rw [hrp, List.take_of_length_le (by omega)]
              simp only [List.take_zero, List.not_mem_nil, and_false, or_false]
              constructor
              · rintro (⟨y, hy, h⟩ | ⟨_, h⟩)
                · exact ⟨y, by omega, h⟩
                · exact ⟨m, by omega, hmd, by rw [hrp]; exact h⟩
              · rintro ⟨y, hy, h1, h2⟩
                rcases Nat.lt_or_ge y m with hym | hym
                · exact .inl ⟨y, hym, h1, h2⟩
                · have : y = m := by omega
                  subst this
                  rw [hrp] at h2
                  exact .inr ⟨h1, h2⟩
            refine K.seq ?_
            refine K.seq ?_
            refine K.region ?_
            (refine KL.v rfl (Val.move rfl) ?_)
            (refine KL.v rfl (Val.move rfl) ?_)
            (refine KL.v rfl (Val.move rfl) ?_)
            (refine KL.v rfl (Val.idxSl rfl rfl rfl bySli rfl byLt) ?_)
            (refine KL.v rfl (Val.loadP rfl rfl bySee) ?_)
            (refine KL.v rfl (Val.lenSl rfl rfl bySli) ?_)
            (refine KL.v rfl (Val.isF (Val.lss rfl rfl) byLt) ?_)
            (refine KL.v rfl (Val.move rfl) ?_)
            refine KL.skipG rfl rfl rfl ?_
            refine KL.skipG rfl rfl rfl ?_
            refine KL.skipG rfl rfl rfl ?_
            refine KL.skipG rfl rfl rfl ?_
            refine KL.skipG rfl rfl rfl ?_
            refine KL.skipG rfl rfl rfl ?_
            (refine KL.v rfl (Val.pickF rfl rfl rfl) ?_)
            refine KL.nil ?_
            refine KE.next ?_
            refine K.condF rfl ?_
            refine K.exit ?_
            refine KE.passX ?_
            refine KE.passX ?_
            refine KE.blkX ?_
            refine KE.blkN ?_
            refine KE.next ?_
            refine K.region ?_
            (refine KL.v rfl (Val.move rfl) ?_)
            (refine KL.v rfl (Val.add rfl rfl (by simp only [Go.Proofs.YthamkgghnjenhaaGreat.lo, Go.Proofs.YthamkgghnjenhaaGreat.hi]; omega)) ?_)
            (refine KL.v rfl (Val.assign rfl) ?_)
            refine KL.nil ?_
            exact KE.again ⟨m + 1, out⟩ bySub byPart ⟨by show m + 1 ≤ _; omega, hD', okd⟩ (by show rows.length - (m + 1) < rows.length - m; omega)
        · have hvd : ¬ v = (d : Int) := fun e => hmd ((hD.at_d hv).1 e)
          have hi0 : i = 0 := by
            rcases hmi with h | h
            · exact h
            · exact absurd h hmd
          subst hi0
          have hD' : RD rows l d (RB rows l d (m + 1) 0) out := hD.congr fun x hx => by
            unfold RB
            simp only [List.take_zero, List.not_mem_nil, and_false, or_false]
            constructor
            · rintro ⟨y, hy, h⟩; exact ⟨y, by omega, h⟩
            · rintro ⟨y, hy, h1, h2⟩
              refine ⟨y, ?_, h1, h2⟩
              rcases Nat.lt_or_ge y m with hym | hym
              · exact hym
              · have : y = m := by omega
                subst this; exact absurd h1 hmd
          by_cases hil2 : 0 < r.length
          · skip
            refine K.seq ?_
            refine K.seq ?_
            refine K.region ?_
            (refine KL.v rfl (Val.move rfl) ?_)
            (refine KL.v rfl (Val.move rfl) ?_)
            (refine KL.v rfl (Val.move rfl) ?_)
            (refine KL.v rfl (Val.idxSl rfl rfl rfl bySli rfl byLt) ?_)
            (refine KL.v rfl (Val.loadP rfl rfl bySee) ?_)
            (refine KL.v rfl (Val.lenSl rfl rfl bySli) ?_)
            (refine KL.v rfl (Val.isT (Val.lss rfl rfl) byLt) ?_)
            (refine KL.v rfl (Val.move rfl) ?_)
            (refine KL.yes rfl rfl ?_; refine KL.v rfl (Val.move rfl) ?_)
            (refine KL.yes rfl rfl ?_; refine KL.v rfl (Val.move rfl) ?_)
            (refine KL.yes rfl rfl ?_; refine KL.v rfl (Val.idxSl rfl rfl rfl bySli rfl byLt) ?_)
            (refine KL.yes rfl rfl ?_; refine KL.v rfl (Val.loadP rfl rfl bySee) ?_)
            (refine KL.yes rfl rfl ?_; refine KL.v rfl (Val.move rfl) ?_)
            (refine KL.yes rfl rfl ?_; refine KL.v rfl (Val.isF (Val.eql rfl rfl) byLt) ?_)
            (refine KL.v rfl (Val.pickT rfl rfl rfl) ?_)
            refine KL.nil ?_
            refine KE.next ?_
            refine K.condF rfl ?_
            refine K.exit ?_
            refine KE.passX ?_
            refine KE.passX ?_
            refine KE.blkX ?_
            refine KE.blkN ?_
            refine KE.next ?_
            refine K.region ?_
            (refine KL.v rfl (Val.move rfl) ?_)
            (refine KL.v rfl (Val.add rfl rfl (by simp only [Go.Proofs.YthamkgghnjenhaaGreat.lo, Go.Proofs.YthamkgghnjenhaaGreat.hi]; omega)) ?_)
            (refine KL.v rfl (Val.assign rfl) ?_)
            refine KL.nil ?_
            exact KE.again ⟨m + 1, out⟩ bySub byPart ⟨by show m + 1 ≤ _; omega, hD', okd⟩ (by show rows.length - (m + 1) < rows.length - m; omega)
          · skip
            refine K.seq ?_
            refine K.seq ?_
            refine K.region ?_
            (refine KL.v rfl (Val.move rfl) ?_)
            (refine KL.v rfl (Val.move rfl) ?_)
            (refine KL.v rfl (Val.move rfl) ?_)
            (refine KL.v rfl (Val.idxSl rfl rfl rfl bySli rfl byLt) ?_)
            (refine KL.v rfl (Val.loadP rfl rfl bySee) ?_)
            (refine KL.v rfl (Val.lenSl rfl rfl bySli) ?_)
            (refine KL.v rfl (Val.isF (Val.lss rfl rfl) byLt) ?_)
            (refine KL.v rfl (Val.move rfl) ?_)
            refine KL.skipG rfl rfl rfl ?_
            refine KL.skipG rfl rfl rfl ?_
            refine KL.skipG rfl rfl rfl ?_
            refine KL.skipG rfl rfl rfl ?_
            refine KL.skipG rfl rfl rfl ?_
            refine KL.skipG rfl rfl rfl ?_
            (refine KL.v rfl (Val.pickF rfl rfl rfl) ?_)
            refine KL.nil ?_
            refine KE.next ?_
            refine K.condF rfl ?_
            refine K.exit ?_
            refine KE.passX ?_
            refine KE.passX ?_
            refine KE.blkX ?_
            refine KE.blkN ?_
            refine KE.next ?_
            refine K.region ?_
            (refine KL.v rfl (Val.move rfl) ?_)
            (refine KL.v rfl (Val.add rfl rfl (by simp only [Go.Proofs.YthamkgghnjenhaaGreat.lo, Go.Proofs.YthamkgghnjenhaaGreat.hi]; omega)) ?_)
            (refine KL.v rfl (Val.assign rfl) ?_)
            refine KL.nil ?_
            exact KE.again ⟨m + 1, out⟩ bySub byPart ⟨by show m + 1 ≤ _; omega, hD', okd⟩ (by show rows.length - (m + 1) < rows.length - m; omega)
      · have hme : m = rows.length := by omega
        subst hme
        refine K.seq ?_
        refine K.seq ?_
        refine K.region ?_
        (refine KL.v rfl (Val.move rfl) ?_)
        (refine KL.v rfl (Val.move rfl) ?_)
        (refine KL.v rfl (Val.lenSl rfl rfl bySli) ?_)
        (refine KL.v rfl (Val.isF (Val.lss rfl rfl) byLt) ?_)
        refine KL.nil ?_
        refine KE.next ?_
        refine K.condF rfl ?_
        refine K.exit ?_
        refine KE.passX ?_
        refine KE.passX ?_
        refine KE.blkX ?_
        refine KE.blkN ?_
        refine KE.next ?_
        refine K.region ?_
        (refine KL.v rfl (Val.move rfl) ?_)
        (refine KL.v rfl (Val.add rfl rfl (by simp only [Go.Proofs.YthamkgghnjenhaaGreat.lo, Go.Proofs.YthamkgghnjenhaaGreat.hi]; omega)) ?_)
        (refine KL.v rfl (Val.assign rfl) ?_)
        refine KL.nil ?_
        exact KE.again ⟨d + 1, out⟩ bySub byPart ⟨by show d + 1 ≤ _; omega, hD.next, okd⟩ (by show rows.length - (d + 1) < rows.length - d; omega)
    · have hde : d = rows.length := by omega
      subst hde
      have hfin := hD.fin
      subst hfin
      refine K.seq ?_
      refine K.seq ?_
      refine K.region ?_
      (refine KL.v rfl (Val.move rfl) ?_)
      (refine KL.v rfl (Val.move rfl) ?_)
      (refine KL.v rfl (Val.lenSl rfl rfl bySli) ?_)
      (refine KL.v rfl (Val.isF (Val.lss rfl rfl) byLt) ?_)
      refine KL.nil ?_
      refine KE.next ?_
      refine K.condF rfl ?_
      refine K.exit ?_
      refine KE.passX ?_
      refine KE.passX ?_
      refine KE.blkX ?_
      refine KE.next ?_
      refine K.seq ?_
      refine K.region ?_
      (refine KL.v rfl (Val.move rfl) ?_)
      (refine KL.v rfl (Val.assign rfl) ?_)
      refine KL.nil ?_
      refine KE.next ?_
      refine K.ret ?_
      exact KE.fin byMarks rfl byRes byPart ⟨o, okd, rfl, by simp⟩
end Go.Proofs.YthamkgghnjenhaaGreat
namespace Go.Proofs.YthamkgghnjenhaaGreat
open Go.RowKit
set_option linter.unusedVariables false
set_option linter.unusedSimpArgs false

structure RcS where
  k : Nat
  o : Own
set_option maxRecDepth 10000 in
set_option maxHeartbeats 1000000 in
theorem RReach_K {w0 : World} {vg vl : Value} {gs : List SV} {rows : List (List Int)} {l : List Int} (hG : SlW w0 svE vg gs) (hR : RowsI w0 gs rows) (hL : SlW w0 iE vl l) (hl : l.length ≤ 100000) (hn : gs.length ≤ 100) (hb : ∀ r ∈ rows, r.length ≤ 1000) :
    Call Tryz.prog w0 67 [vg, vl] [] (fun r H' => ∃ o, oOk boE (reachP rows l) o ∧ r = oV o (reachP rows l).length ∧ H' = oH boE 4 (reachP rows l) o) := by
  refine Call.enter2 (n := 26) (by kernel_rfl) Tryz.func67 rfl rfl rfl ?_
  have hgl := hR.len
  refine K.seq ?_
  refine K.region ?_
  (refine KL.v rfl (Val.assign rfl) ?_)
  refine KL.nil ?_
  refine KE.next ?_
  refine K.seq ?_
  refine K.region ?_
  (refine KL.v rfl (Val.move rfl) ?_)
  (refine KL.v rfl (Val.move rfl) ?_)
  (refine KL.callc rfl rfl byEvL fun T hT => ?_)
  refine (CallV.fn (RDepths_K hG hR hL hl hn hb)).mono ?_
  rintro _ _ ⟨oD, okD, rfl, rfl⟩
  have hDl := depths_len rows l
  have hRl := reach_len rows l
  refine hT _ _ ?_; clear hT; clear T
  (refine KL.v rfl (Val.assign rfl) ?_)
  refine KL.nil ?_
  refine KE.next ?_
  refine K.seq ?_
  refine K.region ?_
  (refine KL.v rfl (Val.assign rfl) ?_)
  refine KL.nil ?_
  refine KE.next ?_
  refine K.seq ?_
  refine K.seq ?_
  refine K.region ?_
  (refine KL.v rfl (Val.assign rfl) ?_)
  refine KL.nil ?_
  refine KE.next ?_
  refine K.block ?_
  refine K.loopT (σ := RcS) [(0, _), (5, _)] (fun s kp_ => (7, .int .i64 (s.k : Nat)) :: (6, oV s.o ((reachP rows l).take s.k).length) :: kp_) (fun s => oH boE 4 ((reachP rows l).take s.k) s.o ++ oH iE 3 (depthsP rows l) oD) (fun s => s.k ≤ rows.length ∧ oOk boE ((reachP rows l).take s.k) s.o) (fun s => rows.length - s.k) (⟨0, none⟩) bySub byPart (⟨by simp, rfl⟩) ?_
  rintro ⟨k, o⟩ ⟨hk, oko⟩
  dsimp only at hk oko ⊢
  by_cases hlt : k < rows.length
  · obtain ⟨d, hd, _, hrd⟩ := depths_get (frm := l) hlt
    have hkd : k < (depthsP rows l).length := by omega
    have hsn := take_snoc hrd
    have hbd : ((reachP rows l).take k ++ [decide (0 ≤ d)]).length ≤ 4294967296 := by simp; omega
    by_cases hd0 : 0 ≤ d
    · rw [decide_eq_true hd0] at hsn hbd
      have hd0' : d ≥ 0 := hd0
      refine K.seq ?_
      refine K.seq ?_
      refine K.region ?_
      (refine KL.v rfl (Val.move rfl) ?_)
      (refine KL.v rfl (Val.move rfl) ?_)
      (refine KL.v rfl (Val.lenSl rfl rfl bySli) ?_)
      (refine KL.v rfl (Val.isT (Val.lss rfl rfl) byLt) ?_)
      refine KL.nil ?_
      refine KE.next ?_
      refine K.condT rfl ?_
      refine K.skip ?_
      refine KE.next ?_
      refine K.seq ?_
      refine K.block ?_
      refine K.region ?_
      (refine KL.v rfl (Val.move rfl) ?_)
      (refine KL.v rfl (Val.move rfl) ?_)
      (refine KL.v rfl (Val.move rfl) ?_)
      (refine KL.v rfl (Val.idxSl rfl rfl rfl bySli rfl byLt) ?_)
      (refine KL.v rfl (Val.loadP rfl rfl bySee) ?_)
      (refine KL.v rfl (Val.isT (Val.geq rfl rfl) byLt) ?_)
      (refine KL.e rfl (Eff.buildS byParts rfl rfl rfl rfl rfl byFill) ?_; rintro _ _ ⟨b23, rfl, rfl⟩)
      (refine KL.e rfl (Eff.appZ (ys := [_]) rfl rfl rfl rfl rfl rfl byTakeL (by assumption) (by first | exact Sli.blk byTake rfl (by first | decide | simp) (by first | decide | (unfold maxLen; omega)) rfl | exact Sli.old (by assumption) | exact Sli.own byTakeL (by assumption) byLen | assumption | exact Sli.part (by assumption) byPart) rfl (by first | assumption | omega | (simp <;> fail) | (simp; omega)) rfl) ?_; rintro _ _ ⟨o24, ok24, rfl, rfl⟩)
      (refine KL.v rfl (Val.assign rfl) ?_)
      refine KL.nil ?_
      refine KE.blkN ?_
      refine KE.next ?_
      refine K.region ?_
      (refine KL.v rfl (Val.move rfl) ?_)
      (refine KL.v rfl (Val.add rfl rfl (by simp only [Go.Proofs.YthamkgghnjenhaaGreat.lo, Go.Proofs.YthamkgghnjenhaaGreat.hi]; omega)) ?_)
      (refine KL.v rfl (Val.assign rfl) ?_)
      refine KL.nil ?_
      rw [← hsn] at ok24 ⊢
      exact KE.again ⟨k + 1, o24⟩ bySub byPart ⟨by show k + 1 ≤ _; omega, ok24⟩ (by show rows.length - (k + 1) < rows.length - k; omega)
    · rw [decide_eq_false hd0] at hsn hbd
      refine K.seq ?_
      refine K.seq ?_
      refine K.region ?_
      (refine KL.v rfl (Val.move rfl) ?_)
      (refine KL.v rfl (Val.move rfl) ?_)
      (refine KL.v rfl (Val.lenSl rfl rfl bySli) ?_)
      (refine KL.v rfl (Val.isT (Val.lss rfl rfl) byLt) ?_)
      refine KL.nil ?_
      refine KE.next ?_
      refine K.condT rfl ?_
      refine K.skip ?_
      refine KE.next ?_
      refine K.seq ?_
      refine K.block ?_
      refine K.region ?_
      (refine KL.v rfl (Val.move rfl) ?_)
      (refine KL.v rfl (Val.move rfl) ?_)
      (refine KL.v rfl (Val.move rfl) ?_)
      (refine KL.v rfl (Val.idxSl rfl rfl rfl bySli rfl byLt) ?_)
      (refine KL.v rfl (Val.loadP rfl rfl bySee) ?_)
      (refine KL.v rfl (Val.isF (Val.geq rfl rfl) byLt) ?_)
      (refine KL.e rfl (Eff.buildS byParts rfl rfl rfl rfl rfl byFill) ?_; rintro _ _ ⟨b23, rfl, rfl⟩)
      (refine KL.e rfl (Eff.appZ (ys := [_]) rfl rfl rfl rfl rfl rfl byTakeL (by assumption) (by first | exact Sli.blk byTake rfl (by first | decide | simp) (by first | decide | (unfold maxLen; omega)) rfl | exact Sli.old (by assumption) | exact Sli.own byTakeL (by assumption) byLen | assumption | exact Sli.part (by assumption) byPart) rfl (by first | assumption | omega | (simp <;> fail) | (simp; omega)) rfl) ?_; rintro _ _ ⟨o24, ok24, rfl, rfl⟩)
      (refine KL.v rfl (Val.assign rfl) ?_)
      refine KL.nil ?_
      refine KE.blkN ?_
      refine KE.next ?_
      refine K.region ?_
      (refine KL.v rfl (Val.move rfl) ?_)
      (refine KL.v rfl (Val.add rfl rfl (by simp only [Go.Proofs.YthamkgghnjenhaaGreat.lo, Go.Proofs.YthamkgghnjenhaaGreat.hi]; omega)) ?_)
      (refine KL.v rfl (Val.assign rfl) ?_)
      refine KL.nil ?_
      rw [← hsn] at ok24 ⊢
      exact KE.again ⟨k + 1, o24⟩ bySub byPart ⟨by show k + 1 ≤ _; omega, ok24⟩ (by show rows.length - (k + 1) < rows.length - k; omega)
  · have hke : (reachP rows l).take k = reachP rows l := List.take_of_length_le (by omega)
    rw [hke] at oko ⊢
    refine K.seq ?_
    refine K.seq ?_
    refine K.region ?_
    (refine KL.v rfl (Val.move rfl) ?_)
    (refine KL.v rfl (Val.move rfl) ?_)
    (refine KL.v rfl (Val.lenSl rfl rfl bySli) ?_)
    (refine KL.v rfl (Val.isF (Val.lss rfl rfl) byLt) ?_)
    refine KL.nil ?_
    refine KE.next ?_
    refine K.condF rfl ?_
    refine K.exit ?_
    refine KE.passX ?_
    refine KE.passX ?_
    refine KE.blkX ?_
    refine KE.next ?_
    refine K.seq ?_
    refine K.region ?_
    (refine KL.v rfl (Val.move rfl) ?_)
    (refine KL.v rfl (Val.assign rfl) ?_)
    refine KL.nil ?_
    refine KE.next ?_
    refine K.ret ?_
    exact KE.fin byMarks rfl byRes byPart ⟨o, oko, rfl, rfl⟩

end Go.Proofs.YthamkgghnjenhaaGreat
