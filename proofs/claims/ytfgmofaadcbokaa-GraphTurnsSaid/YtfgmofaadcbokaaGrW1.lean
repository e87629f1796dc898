/- Graph: the sorted keys of a map. -/
import Derived.Test.YtfgmofaadcbokaaK8
import Derived.Test.YtfgmofaadcbokaaKLib
import Derived.KernelRfl
namespace Go.Proofs.Ytfgmofaadcbokaa
open Go.RowKit
set_option linter.unusedVariables false
set_option linter.unusedSimpArgs false

theorem take_snoc {α : Type} {l : List α} {k : Nat} {x : α} (h : l[k]? = some x) : l.take (k + 1) = l.take k ++ [x] := by rw [List.take_add_one, h]; rfl
theorem get_of_lt {α : Type} {l : List α} {k : Nat} (h : k < l.length) : ∃ x, l[k]? = some x := ⟨l[k], List.getElem?_eq_getElem h⟩
theorem lt_of_get {α : Type} {l : List α} {i : Nat} {x : α} (h : l[i]? = some x) : i < l.length := (List.getElem?_eq_some_iff.1 h).1

/-- the entries that have not come yet -/
def mleft (ms pk : List ME) : List ME := ms.filter fun e => !(pk.map (·.n)).contains e.n
theorem filter_lt {α : Type} {p q : α → Bool} (h : ∀ x, q x = true → p x = true) : ∀ {l : List α} {e : α}, e ∈ l → p e = true → q e = false → (l.filter q).length < (l.filter p).length
  | x :: l, e, he, hp, hq => by
    have hle : (l.filter q).length ≤ (l.filter p).length := by
      clear he
      induction l with
      | nil => simp
      | cons y l ih =>
        simp only [List.filter_cons]
        cases hy : q y
        · cases hpy : p y <;> simp <;> omega
        · rw [h y hy]; simp; omega
    rcases List.mem_cons.1 he with rfl | he
    · simp only [List.filter_cons, hp, hq]; simp; omega
    · have := filter_lt h he hp hq
      simp only [List.filter_cons]
      cases hy : q x
      · cases hpy : p x <;> simp <;> omega
      · rw [h x hy]; simp; omega
theorem mleft_lt {ms pk : List ME} {e : ME} (he : e ∈ ms) (hn : e.n ∉ pk.map (·.n)) : (mleft ms (pk ++ [e])).length < (mleft ms pk).length := by
  unfold mleft
  refine filter_lt (e := e) (fun x hx => ?_) he ?_ ?_
  · simp at hx ⊢
    exact fun y hy => (hx.1 y hy)
  · simp at hn ⊢; exact hn
  · simp

structure KS where
  pk : List ME
  A : Heap

set_option maxRecDepth 10000 in
set_option maxHeartbeats 1000000 in
theorem keys1_K {w0 : World} {F A0 : Heap} {fv : Value} {b bm c : Nat} {ms : List ME} (ok : MOk ms c) (J : List Int → Heap → Prop) (hf : fv.oneCell' = true)
    (hy : ∀ ks A F x, J ks A → ks.length ≤ ms.length → CallV Try.prog w0 fv [.int .i64 x] (A ++ F) (fun v H' => v = .bool true ∧ ∃ A', J (ks ++ [x]) A' ∧ H' = A' ++ F))
    (h0 : J [] A0) :
    Call Try.prog w0 45 [fv, .pointer (some ⟨b, 0, none⟩)] (A0 ++ ((b, cells [.map (some bm)] 47) :: (bm, mobj ms c) :: F))
      (fun _ H' => ∃ A' ks, H' = A' ++ ((b, cells [.map (some bm)] 47) :: (bm, mobj ms c) :: F) ∧ J ks A' ∧ (∀ x, x ∈ ks ↔ x ∈ ms.map (·.k)) ∧ ks.Nodup ∧ ks.length ≤ ms.length) := by
  refine Call.enter (n := 14) [(0, fv), (1, .pointer (some ⟨b, 0, none⟩))] (by kernel_rfl) Try.func45 rfl rfl rfl ⟨rfl, rfl, trivial⟩ ?_
  refine byCode ?_
  (refine KL.v rfl (Val.loadP rfl rfl bySee) ?_)
  (refine KL.e rfl (Eff.rangeM rfl rfl byTake) ?_; rintro _ _ ⟨b5, rfl, rfl⟩)
  refine KL.nil ?_
  refine byBlk ?_
  refine K.loop (σ := KS) (fun s => [(5, .pointer (some ⟨b5, 0, none⟩)), (0, fv), (1, .pointer (some ⟨b, 0, none⟩))]) (fun s => (b5, itO bm c s.pk) :: (s.A ++ ((b, cells [.map (some bm)] 47) :: (bm, mobj ms c) :: F)))
    (fun s => J (s.pk.map (·.k)) s.A ∧ (∀ e ∈ s.pk, e ∈ ms) ∧ (s.pk.map (·.k)).Nodup ∧ s.pk.length + (mleft ms s.pk).length ≤ ms.length) (fun s => (mleft ms s.pk).length) ⟨[], A0⟩ bySub byPart ⟨h0, by simp, by simp, by simpa [mleft] using List.length_filter_le _ ms⟩ ?_
  rintro ⟨pk, A⟩ ⟨hJ, hm, hnd, hl⟩
  dsimp only at hJ hm hnd hl ⊢
  refine byCode ?_
  refine KL.e rfl (Eff.nextM rfl byTake byTake ok) ?_
  rintro _ _ (⟨rfl, hall, rfl⟩ | ⟨e, he, hn, rfl, rfl⟩)
  · (refine KL.v rfl (Val.extract rfl rfl) ?_)
    refine KL.nil ?_
    refine byCode ?_
    exact KE.finN byMarks rfl byRes byPart ⟨A, pk.map (·.k), rfl, hJ, fun x => ⟨fun hx => by
      obtain ⟨e, he, rfl⟩ := List.mem_map.1 hx
      exact List.mem_map_of_mem (hm e he), fun hx => by
      obtain ⟨e, he, rfl⟩ := List.mem_map.1 hx
      obtain ⟨e', he', hn⟩ := List.mem_map.1 (hall e he)
      have : e' = e := by
        obtain ⟨i, hi⟩ := List.getElem?_of_mem (hm e' he')
        obtain ⟨j, hj⟩ := List.getElem?_of_mem he
        have hi1 : (ms.map (·.n))[i]? = some e.n := by rw [List.getElem?_map, hi]; simp [hn]
        have hj1 : (ms.map (·.n))[j]? = some e.n := by rw [List.getElem?_map, hj]; rfl
        have hij := (List.getElem?_inj (List.getElem?_eq_some_iff.1 hi1).1 ok.nd).1 (hi1.trans hj1.symm)
        subst hij
        rw [hi] at hj; exact Option.some.inj hj
      subst this
      exact List.mem_map_of_mem he'⟩, hnd, by rw [List.length_map]; omega⟩
  · have hlt := mleft_lt he hn
    (refine KL.v rfl (Val.extract rfl rfl) ?_)
    refine KL.nil ?_
    refine byCode ?_
    refine K.block ?_
    refine byCode ?_
    (refine KL.v rfl (Val.entryM rfl byTake byTake (by assumption) (by assumption)) ?_)
    (refine KL.v rfl (Val.extract rfl rfl) ?_)
    (refine KL.v rfl (Val.assign rfl) ?_)
    refine KL.nil ?_
    refine byCode ?_
    (refine KL.v rfl (Val.move rfl) ?_)
    (refine KL.v rfl (Val.move rfl) ?_)
    (refine KL.callc rfl rfl byEvL fun T hT => ?_)
    refine (CallV.part (hy (pk.map (·.k)) A ((b5, itO bm c (pk ++ [e])) :: (b, cells [.map (some bm)] 47) :: (bm, mobj ms c) :: F) e.k hJ (by rw [List.length_map]; omega)) byPart).mono ?_
    rintro _ _ ⟨rfl, A', hJ', rfl⟩
    refine hT _ _ ?_; clear hT; clear T
    (first | (refine KL.v rfl (Val.notT rfl) ?_) | (refine KL.v rfl (Val.notF rfl) ?_) | (refine KL.v rfl (Val.not rfl) ?_) | (refine KL.v rfl (Val.notB rfl) ?_))
    refine KL.nil ?_
    refine byCode ?_
    exact KE.again ⟨pk ++ [e], A'⟩ bySub byPart ⟨by show J ((pk ++ [e]).map (·.k)) A'; rw [List.map_append]; exact hJ', fun x hx => by
      rcases List.mem_append.1 hx with h | h
      · exact hm x h
      · rw [List.mem_singleton.1 h]; exact he, by
      show ((pk ++ [e]).map (·.k)).Nodup
      rw [List.map_append, List.nodup_append]
      refine ⟨hnd, by simp, fun a ha b' hb' heq => ?_⟩
      simp at hb'
      obtain ⟨e', he', rfl⟩ := List.mem_map.1 ha
      have : e' = e := by
        obtain ⟨i, hi⟩ := List.getElem?_of_mem (hm e' he')
        obtain ⟨j, hj⟩ := List.getElem?_of_mem he
        have hi1 : (ms.map (·.k))[i]? = some e.k := by rw [List.getElem?_map, hi]; simp [heq, hb']
        have hj1 : (ms.map (·.k))[j]? = some e.k := by rw [List.getElem?_map, hj]; rfl
        have hij := (List.getElem?_inj (List.getElem?_eq_some_iff.1 hi1).1 ok.kd).1 (hi1.trans hj1.symm)
        subst hij
        rw [hi] at hj; exact Option.some.inj hj
      subst this
      exact hn (List.mem_map_of_mem he'), by show (pk ++ [e]).length + _ ≤ _; rw [List.length_append, List.length_singleton]; dsimp only; omega⟩ hlt

set_option maxRecDepth 10000 in
theorem Keys_K {w0 : World} {H : Heap} {v : Value} (hv : v.cells = [v].toArray) :
    Call Try.prog w0 40 [v] H (fun r H' => ∃ b, r = .func (.func 45) #[] #[.pointer (some ⟨b, 0, none⟩)] ∧ H' = (b, cells [v] 47) :: H) := by
  refine Call.enter (n := 4) [(0, v)] (by kernel_rfl) Try.func40 rfl rfl rfl ⟨rfl, trivial⟩ ?_
  refine byCode ?_
  (refine KL.e rfl (Eff.box rfl hv) ?_; rintro _ _ ⟨b1, rfl, rfl⟩)
  (refine KL.v rfl (Val.assign rfl) ?_)
  refine KL.nil ?_
  refine byCode ?_
  (refine KL.v rfl (Val.makeFunc byEvL byEvL) ?_)
  (refine KL.v rfl (Val.assign rfl) ?_)
  refine KL.nil ?_
  refine byCode ?_
  exact KE.fin byMarks rfl byRes byPart ⟨b1, rfl, rfl⟩
end Go.Proofs.Ytfgmofaadcbokaa
