/- Ideal: floats as words. Ideal: the keys of a map of things. Ideal: the store in memory, and as finite maps. Ideal: what a store tells. Ideal: a store that is turned, in memory and as finite maps; the operations as plain functions. Ideal: the operations that do not sweep. Ideal: a sweep in plain words: the objects, numbered by their places, as a graph. Ideal: sweep. Ideal: the operations that sweep; a new object. -/
import Derived.Test.YthamkgghnjenhaaGreatJ15
import Derived.Test.YthamkgghnjenhaaGreatJ17
import Derived.Test.YthamkgghnjenhaaGreatJ18
namespace Go.Proofs.YthamkgghnjenhaaGreat
open Go.RowKit
set_option linter.unusedVariables false
set_option linter.unusedSimpArgs false
set_option maxRecDepth 100000
theorem frombits_V {w0 : World} {H : Heap} (n : Int) : CallV Tryz.prog w0 (.func (.func 44) #[] #[]) [.int .u64 n] H (fun r H' => r = .float .f64 n.toNat ∧ H' = H) :=
  CallV.extern (e := Extern.MathFloatBits.float64frombits) Tryz.func44 (by kernel_rfl) (by kernel_rfl) (by kernel_rfl) (by kernel_rfl) (fun w => rfl)
theorem bits_V {w0 : World} {H : Heap} (b : Nat) : CallV Tryz.prog w0 (.func (.func 46) #[] #[]) [.float .f64 b] H (fun r H' => r = .int .u64 b ∧ H' = H) :=
  CallV.extern (e := Extern.MathFloatBits.float64bits) Tryz.func46 (by kernel_rfl) (by kernel_rfl) (by kernel_rfl) (by kernel_rfl) (fun w => rfl)
set_option maxRecDepth 10000 in
theorem realOf_K {w0 : World} {H : Heap} (n : Int) : Call Tryz.prog w0 76 [.int .u64 n] H (fun r H' => r = .float .f64 n.toNat ∧ H' = H) := by
  refine Call.enter1 (n := 5) (by kernel_rfl) Tryz.func76 rfl rfl rfl ?_
  refine K.seq ?_
  refine K.region ?_
  (refine KL.v rfl (Val.assign rfl) ?_)
  refine KL.nil ?_
  refine KE.next ?_
  refine K.seq ?_
  refine K.region ?_
  (refine KL.v rfl (Val.move rfl) ?_)
  (refine KL.callc rfl rfl byEvL fun T hT => ?_)
  refine (frombits_V n).mono ?_
  rintro _ _ ⟨rfl, rfl⟩
  refine hT _ _ ?_; clear hT; clear T
  (refine KL.v rfl (Val.assign rfl) ?_)
  refine KL.nil ?_
  refine KE.next ?_
  refine K.ret ?_
  exact KE.fin byMarks rfl byRes byPart ⟨rfl, rfl⟩
set_option maxRecDepth 10000 in
theorem Canon_K {w0 : World} {H : Heap} (n : Nat) : Call Tryz.prog w0 77 [.int .u64 n] H (fun r H' => r = .int .u64 (canonN (fl n)) ∧ H' = H) := by
  refine Call.enter1 (n := 10) (by kernel_rfl) Tryz.func77 rfl rfl rfl ?_
  refine K.seq ?_
  refine K.region ?_
  (refine KL.v rfl (Val.assign rfl) ?_)
  refine KL.nil ?_
  refine KE.next ?_
  refine K.seq ?_
  refine K.seq ?_
  refine K.region ?_
  (refine KL.v rfl (Val.move rfl) ?_)
  (refine KL.callc rfl rfl byEvL fun T hT => ?_)
  refine (CallV.fn (realOf_K n)).mono ?_
  rintro _ _ ⟨rfl, rfl⟩
  rw [show ((n : Int)).toNat = n by omega]
  cases hf : fl n with
  | none =>
    have hi : (fl n).isNone = true := by rw [hf]; rfl
    refine hT _ _ ?_; clear hT; clear T
    (refine KL.v rfl (Val.assign rfl) ?_)
    refine KL.nil ?_
    refine KE.next ?_
    refine byCode ?_
    (refine KL.v rfl (Val.move rfl) ?_)
    (refine KL.v rfl (Val.move rfl) ?_)
    (refine KL.v rfl (Val.neqFS rfl rfl) ?_)
    refine KL.nil ?_
    rw [hi]
    refine KE.next ?_
    refine K.condT rfl ?_
    refine K.seq ?_
    refine K.region ?_
    (refine KL.v rfl (Val.assign rfl) ?_)
    refine KL.nil ?_
    refine KE.next ?_
    refine K.ret ?_
    refine KE.passR ?_
    exact KE.fin byMarks rfl byRes byPart ⟨by rw [hf]; rfl, rfl⟩
  | some c =>
    have hi : (fl n).isNone = false := by rw [hf]; rfl
    have hc := fl_some hf
    subst hc
    refine hT _ _ ?_; clear hT; clear T
    (refine KL.v rfl (Val.assign rfl) ?_)
    refine KL.nil ?_
    refine KE.next ?_
    refine byCode ?_
    (refine KL.v rfl (Val.move rfl) ?_)
    (refine KL.v rfl (Val.move rfl) ?_)
    (refine KL.v rfl (Val.neqFS rfl rfl) ?_)
    refine KL.nil ?_
    rw [hi]
    refine KE.next ?_
    refine K.condF rfl ?_
    refine K.skip ?_
    refine KE.next ?_
    refine K.seq ?_
    refine K.region ?_
    (refine KL.v rfl (Val.move rfl) ?_)
    (refine KL.v rfl (Val.assign rfl) ?_)
    refine KL.nil ?_
    refine KE.next ?_
    refine K.ret ?_
    exact KE.fin byMarks rfl byRes byPart ⟨by rw [hf]; rfl, rfl⟩
structure SuS where
  k : Nat
  r : Nat
set_option maxRecDepth 10000 in
theorem Sum_K {w0 : World} {H : Heap} {v : Value} {l : List Int} (hS : Sli w0 H uE v l) (hl : l.length ≤ 1000000) :
    Call Tryz.prog w0 66 [v] H (fun r H' => r = .int .u64 (sumP l) ∧ H' = H) := by
  refine Call.enter1 (n := 28) (by kernel_rfl) Tryz.func66 rfl rfl rfl ?_
  cases l with
  | nil =>
    have h0 : ((List.length ([] : List Int) : Nat) : Int) = 0 := rfl
    refine K.seq ?_
    refine K.region ?_
    (refine KL.v rfl (Val.assign rfl) ?_)
    refine KL.nil ?_
    refine KE.next ?_
    refine K.seq ?_
    refine K.seq ?_
    refine K.region ?_
    (refine KL.v rfl (Val.move rfl) ?_)
    (refine KL.v rfl (Val.lenSl rfl rfl bySli) ?_)
    (refine KL.v rfl (Val.isT (Val.eql rfl rfl) byLt) ?_)
    refine KL.nil ?_
    refine KE.next ?_
    refine K.condT rfl ?_
    refine K.seq ?_
    refine K.region ?_
    (refine KL.v rfl (Val.assign rfl) ?_)
    refine KL.nil ?_
    refine KE.next ?_
    refine K.ret ?_
    refine KE.passR ?_
    exact KE.fin byMarks rfl byRes byPart ⟨rfl, rfl⟩
  | cons x l =>
    have hx : (x :: l)[0]? = some x := rfl
    have hx0 : (x :: l)[Int.toNat 0]? = some x := rfl
    have hne : ¬ (((x :: l).length : Nat) : Int) = 0 := by simp only [List.length_cons]; omega
    have hS1 : Sli w0 H uE (subV v (Int.toNat 1) (x :: l).length uE.sz) l := by
      have := hS.sub (l := 1) (h := (x :: l).length) (by simp) (Nat.le_refl _)
      simpa using this
    have hl' : l.length ≤ 1000000 := by simp only [List.length_cons] at hl; omega
    refine K.seq ?_
    refine K.region ?_
    (refine KL.v rfl (Val.assign rfl) ?_)
    refine KL.nil ?_
    refine KE.next ?_
    refine K.seq ?_
    refine K.seq ?_
    refine K.region ?_
    (refine KL.v rfl (Val.move rfl) ?_)
    (refine KL.v rfl (Val.lenSl rfl rfl bySli) ?_)
    (refine KL.v rfl (Val.isF (Val.eql rfl rfl) byLt) ?_)
    refine KL.nil ?_
    refine KE.next ?_
    refine K.condF rfl ?_
    refine K.skip ?_
    refine KE.next ?_
    refine K.seq ?_
    refine K.region ?_
    (refine KL.v rfl (Val.move rfl) ?_)
    (refine KL.v rfl (Val.idxSlZ rfl rfl rfl bySli rfl (by omega)) ?_)
    (refine KL.v rfl (Val.loadP rfl rfl bySee) ?_)
    (refine KL.callc rfl rfl byEvL fun T hT => ?_)
    refine (CallV.fn (realOf_K x)).mono ?_
    rintro _ H ⟨rfl, rfl⟩
    refine hT _ _ ?_; clear hT; clear T
    (refine KL.v rfl (Val.assign rfl) ?_)
    refine KL.nil ?_
    refine KE.next ?_
    refine K.seq ?_
    refine K.seq ?_
    refine K.region ?_
    (refine KL.v rfl (Val.move rfl) ?_)
    (refine KL.v rfl (Val.sliceLZ rfl rfl rfl bySli rfl (by omega)) ?_)
    (refine KL.v rfl (Val.lenSl rfl rfl bySli) ?_)
    (refine KL.v rfl (Val.move rfl) ?_)
    refine KL.nil ?_
    refine KE.next ?_
    refine K.block ?_
    refine K.loopT (σ := SuS) [(14, _), (15, _)] (fun s kp_ => (16, .int .i64 (s.k : Nat)) :: (3, .float .f64 s.r) :: kp_) (fun s => H) (fun s => s.k ≤ l.length ∧ fl s.r = (l.take s.k).foldl (fun a w => addF a (fl w.toNat)) (fl x.toNat)) (fun s => l.length - s.k) (⟨0, x.toNat⟩) bySub byPart (⟨by simp, by simp⟩) ?_
    rintro ⟨k, r⟩ ⟨hk, hr⟩
    dsimp only at hk hr ⊢
    by_cases hlt : k < l.length
    · obtain ⟨y, hy⟩ := get_of_lt hlt
      refine K.seq ?_
      refine K.region ?_
      (refine KL.v rfl (Val.isT (Val.lss rfl rfl) byLt) ?_)
      refine KL.nil ?_
      refine KE.next ?_
      refine K.seq ?_
      refine K.condT rfl ?_
      refine K.skip ?_
      refine KE.next ?_
      refine K.seq ?_
      refine K.block ?_
      refine K.seq ?_
      refine K.region ?_
      (refine KL.v rfl (Val.idxSl rfl rfl rfl bySli rfl byLt) ?_)
      (refine KL.v rfl (Val.loadP rfl rfl bySee) ?_)
      (refine KL.v rfl (Val.assign rfl) ?_)
      refine KL.nil ?_
      refine KE.next ?_
      refine K.region ?_
      (refine KL.v rfl (Val.move rfl) ?_)
      (refine KL.v rfl (Val.move rfl) ?_)
      (refine KL.callc rfl rfl byEvL fun T hT => ?_)
      refine (CallV.fn (realOf_K y)).mono ?_
      rintro _ H ⟨rfl, rfl⟩
      refine hT _ _ ?_; clear hT; clear T
      (refine KL.e rfl (Eff.fadd rfl rfl) ?_; rintro _ _ ⟨f23, fb23, fe23, rfl, rfl⟩)
      (refine KL.v rfl (Val.assign rfl) ?_)
      refine KL.nil ?_
      refine KE.blkN ?_
      refine KE.next ?_
      refine K.region ?_
      (refine KL.v rfl (Val.add rfl rfl (by simp only [Go.Proofs.YthamkgghnjenhaaGreat.lo, Go.Proofs.YthamkgghnjenhaaGreat.hi]; omega)) ?_)
      (refine KL.v rfl (Val.move rfl) ?_)
      refine KL.nil ?_
      exact KE.again ⟨k + 1, f23⟩ bySub byPart ⟨by show k + 1 ≤ _; omega, by show fl f23 = _; rw [fe23, hr, take_snoc hy, List.foldl_append]; rfl⟩ (by show l.length - (k + 1) < l.length - k; omega)
    · have hkl : l.take k = l := List.take_of_length_le (by omega)
      rw [hkl] at hr
      refine K.seq ?_
      refine K.region ?_
      (refine KL.v rfl (Val.isF (Val.lss rfl rfl) byLt) ?_)
      refine KL.nil ?_
      refine KE.next ?_
      refine K.seq ?_
      refine K.condF rfl ?_
      refine K.exit ?_
      refine KE.passX ?_
      refine KE.passX ?_
      refine KE.blkX ?_
      refine KE.next ?_
      refine K.seq ?_
      refine K.region ?_
      (refine KL.v rfl (Val.move rfl) ?_)
      (refine KL.callc rfl rfl byEvL fun T hT => ?_)
      refine (bits_V r).mono ?_
      rintro _ H ⟨rfl, rfl⟩
      refine hT _ _ ?_; clear hT; clear T
      (refine KL.callc rfl rfl byEvL fun T hT => ?_)
      refine (CallV.fn (Canon_K r)).mono ?_
      rintro _ H ⟨rfl, rfl⟩
      refine hT _ _ ?_; clear hT; clear T
      (refine KL.v rfl (Val.assign rfl) ?_)
      refine KL.nil ?_
      refine KE.next ?_
      refine K.ret ?_
      exact KE.fin byMarks rfl byRes byPart ⟨by rw [hr]; rfl, rfl⟩
end Go.Proofs.YthamkgghnjenhaaGreat
namespace Go.Proofs.YthamkgghnjenhaaGreat
open Go.RowKit
set_option linter.unusedVariables false
set_option linter.unusedSimpArgs false

set_option maxRecDepth 10000 in
set_option maxHeartbeats 1000000 in
theorem keys1T_K {w0 : World} {F A0 : Heap} {fv : Value} {b bm c : Nat} {ms : List ME} (ok : MOk ms c) (J : List Int → Heap → Prop) (hf : fv.oneCell' = true)
    (hy : ∀ ks A F x, J ks A → ks.length ≤ ms.length → CallV Tryz.prog w0 fv [.int .i64 x] (A ++ F) (fun v H' => v = .bool true ∧ ∃ A', J (ks ++ [x]) A' ∧ H' = A' ++ F))
    (h0 : J [] A0) :
    Call Tryz.prog w0 58 [fv, .pointer (some ⟨b, 0, none⟩)] (A0 ++ ((b, cells [.map (some bm)] 54) :: (bm, mobj ms c) :: F))
      (fun _ H' => ∃ A' ks, H' = A' ++ ((b, cells [.map (some bm)] 54) :: (bm, mobj ms c) :: F) ∧ J ks A' ∧ (∀ x, x ∈ ks ↔ x ∈ ms.map (·.k)) ∧ ks.Nodup ∧ ks.length ≤ ms.length) := by
  refine Call.enter (n := 14) [(0, fv), (1, .pointer (some ⟨b, 0, none⟩))] (by kernel_rfl) Tryz.func58 rfl rfl rfl ⟨rfl, rfl, trivial⟩ ?_
  refine byCode ?_
  (refine KL.v rfl (Val.loadP rfl rfl bySee) ?_)
  (refine KL.e rfl (Eff.rangeM rfl rfl byTake) ?_; rintro _ _ ⟨b5, rfl, rfl⟩)
  refine KL.nil ?_
  refine byBlk ?_
  refine K.loop (σ := KS) (fun s => [(5, .pointer (some ⟨b5, 0, none⟩)), (0, fv), (1, .pointer (some ⟨b, 0, none⟩))]) (fun s => (b5, itO bm c s.pk) :: (s.A ++ ((b, cells [.map (some bm)] 54) :: (bm, mobj ms c) :: F)))
    (fun s => J (s.pk.map (·.k)) s.A ∧ (∀ e ∈ s.pk, e ∈ ms) ∧ (s.pk.map (·.k)).Nodup ∧ s.pk.length + (mleft ms s.pk).length ≤ ms.length) (fun s => (mleft ms s.pk).length) ⟨[], A0⟩ bySub byPart ⟨h0, by simp, by simp, by simpa [mleft] using List.length_filter_le _ ms⟩ ?_
  rintro ⟨pk, A⟩ ⟨hJ, hm, hnd, hl⟩
  dsimp only at hJ hm hnd hl ⊢
  refine byCode ?_
  refine KL.e rfl (Eff.nextM rfl byTake byTake ok) ?_
  rintro _ _ (⟨rfl, hall, rfl⟩ | ⟨e, he, hn, rfl, rfl⟩)
  · (refine KL.v rfl (Val.extract rfl rfl) ?_)
    refine KL.nil ?_
    refine byCode ?_
    exact KE.finN byMarks rfl byRes byPart ⟨A, pk.map (·.k), rfl, hJ, fun x => ⟨fun hx => by
      obtain ⟨e, he, rfl⟩ := List.mem_map.1 hx
      exact List.mem_map_of_mem (hm e he), fun hx => by
      obtain ⟨e, he, rfl⟩ := List.mem_map.1 hx
      obtain ⟨e', he', hn⟩ := List.mem_map.1 (hall e he)
      have : e' = e := by
        obtain ⟨i, hi⟩ := List.getElem?_of_mem (hm e' he')
        obtain ⟨j, hj⟩ := List.getElem?_of_mem he
        have hi1 : (ms.map (·.n))[i]? = some e.n := by rw [List.getElem?_map, hi]; simp [hn]
        have hj1 : (ms.map (·.n))[j]? = some e.n := by rw [List.getElem?_map, hj]; rfl
        have hij := (List.getElem?_inj (List.getElem?_eq_some_iff.1 hi1).1 ok.nd).1 (hi1.trans hj1.symm)
        subst hij
        rw [hi] at hj; exact Option.some.inj hj
      subst this
      exact List.mem_map_of_mem he'⟩, hnd, by rw [List.length_map]; omega⟩
  · have hlt := mleft_lt he hn
    (refine KL.v rfl (Val.extract rfl rfl) ?_)
    refine KL.nil ?_
    refine byCode ?_
    refine K.block ?_
    refine byCode ?_
    (refine KL.v rfl (Val.entryM rfl byTake byTake (by assumption) (by assumption)) ?_)
    (refine KL.v rfl (Val.extract rfl rfl) ?_)
    (refine KL.v rfl (Val.assign rfl) ?_)
    refine KL.nil ?_
    refine byCode ?_
    (refine KL.v rfl (Val.move rfl) ?_)
    (refine KL.v rfl (Val.move rfl) ?_)
    (refine KL.callc rfl rfl byEvL fun T hT => ?_)
    refine (CallV.part (hy (pk.map (·.k)) A ((b5, itO bm c (pk ++ [e])) :: (b, cells [.map (some bm)] 54) :: (bm, mobj ms c) :: F) e.k hJ (by rw [List.length_map]; omega)) byPart).mono ?_
    rintro _ _ ⟨rfl, A', hJ', rfl⟩
    refine hT _ _ ?_; clear hT; clear T
    (first | (refine KL.v rfl (Val.notT rfl) ?_) | (refine KL.v rfl (Val.notF rfl) ?_) | (refine KL.v rfl (Val.not rfl) ?_) | (refine KL.v rfl (Val.notB rfl) ?_))
    refine KL.nil ?_
    refine byCode ?_
    exact KE.again ⟨pk ++ [e], A'⟩ bySub byPart ⟨by show J ((pk ++ [e]).map (·.k)) A'; rw [List.map_append]; exact hJ', fun x hx => by
      rcases List.mem_append.1 hx with h | h
      · exact hm x h
      · rw [List.mem_singleton.1 h]; exact he, by
      show ((pk ++ [e]).map (·.k)).Nodup
      rw [List.map_append, List.nodup_append]
      refine ⟨hnd, by simp, fun a ha b' hb' heq => ?_⟩
      simp at hb'
      obtain ⟨e', he', rfl⟩ := List.mem_map.1 ha
      have : e' = e := by
        obtain ⟨i, hi⟩ := List.getElem?_of_mem (hm e' he')
        obtain ⟨j, hj⟩ := List.getElem?_of_mem he
        have hi1 : (ms.map (·.k))[i]? = some e.k := by rw [List.getElem?_map, hi]; simp [heq, hb']
        have hj1 : (ms.map (·.k))[j]? = some e.k := by rw [List.getElem?_map, hj]; rfl
        have hij := (List.getElem?_inj (List.getElem?_eq_some_iff.1 hi1).1 ok.kd).1 (hi1.trans hj1.symm)
        subst hij
        rw [hi] at hj; exact Option.some.inj hj
      subst this
      exact hn (List.mem_map_of_mem he'), by show (pk ++ [e]).length + _ ≤ _; rw [List.length_append, List.length_singleton]; dsimp only; omega⟩ hlt

set_option maxRecDepth 10000 in
theorem KeysT_K {w0 : World} {H : Heap} {v : Value} (hv : v.cells = [v].toArray) :
    Call Tryz.prog w0 39 [v] H (fun r H' => ∃ b, r = .func (.func 58) #[] #[.pointer (some ⟨b, 0, none⟩)] ∧ H' = (b, cells [v] 54) :: H) := by
  refine Call.enter (n := 4) [(0, v)] (by kernel_rfl) Tryz.func39 rfl rfl rfl ⟨rfl, trivial⟩ ?_
  refine byCode ?_
  (refine KL.e rfl (Eff.box rfl hv) ?_; rintro _ _ ⟨b1, rfl, rfl⟩)
  (refine KL.v rfl (Val.assign rfl) ?_)
  refine KL.nil ?_
  refine byCode ?_
  (refine KL.v rfl (Val.makeFunc byEvL byEvL) ?_)
  (refine KL.v rfl (Val.assign rfl) ?_)
  refine KL.nil ?_
  refine byCode ?_
  exact KE.fin byMarks rfl byRes byPart ⟨b1, rfl, rfl⟩

def AsJT (l D : Nat) (r : Rec) (b2 : Nat) (ks : List Int) (A : Heap) : Prop := ∃ o, oOk iE ks o ∧ A = (l, .loop (r .ready none)) :: (D, .deferred (some [])) :: (oH iE 3 ks o ++ [(b2, cells [oV o ks.length] 22)])
def AsDT (ms : List ME) (c bm b2 : Nat) (F : Heap) (D : Nat) (F' : Heap) : Prop := ∃ ks o, KeysOf ms ks ∧ oOk iE ks o ∧ F' = (D, .deferred (some [])) :: (oH iE 3 ks o ++ ((b2, cells [oV o ks.length] 22) :: (bm, mobj ms c) :: F))

set_option maxRecDepth 10000 in
set_option maxHeartbeats 1000000 in
theorem AppendSeqT_K {w0 : World} {F : Heap} {b bm c : Nat} {ms : List ME} (ok : MOk ms c) (hl : ms.length ≤ 1000000) :
    Call Tryz.prog w0 69 [.slice none 0 0, .func (.func 58) #[] #[.pointer (some ⟨b, 0, none⟩)]] ((b, cells [.map (some bm)] 54) :: (bm, mobj ms c) :: F)
      (fun r H' => ∃ ks o, KeysOf ms ks ∧ oOk iE ks o ∧ r = oV o ks.length ∧ H' = oH iE 3 ks o ++ ((bm, mobj ms c) :: F)) := by
  refine Call.enter (n := 13) [(0, .slice none 0 0), (1, .func (.func 58) #[] #[.pointer (some ⟨b, 0, none⟩)])] (by kernel_rfl) Tryz.func69 rfl rfl rfl ⟨rfl, rfl, trivial⟩ ?_
  refine byCode ?_
  (refine KL.e rfl (Eff.box rfl rfl) ?_; rintro _ _ ⟨b2, rfl, rfl⟩)
  (refine KL.v rfl (Val.assign rfl) ?_)
  refine KL.nil ?_
  refine byCode ?_
  (refine KL.v rfl (Val.move rfl) ?_)
  refine KL.nil ?_
  refine byBlk ?_
  refine K.rangeFunc (lb := [.pointer (some ⟨b, 0, none⟩)]) rfl (AsDT ms c bm b2 F) (fun _ _ _ => False) ?_ ?_ ?_
  · intro l D r hyl
    refine (Call.part (keys1T_K (F := F) (b := b) (bm := bm) ok (AsJT l D r b2) rfl ?_ (A0 := (l, .loop (r .ready none)) :: (D, .deferred (some [])) :: (oH iE 3 [] none ++ [(b2, cells [oV none 0] 22)])) ⟨none, rfl, rfl⟩) byPart).mono ?_
    · rintro ks A F s ⟨o, ok, rfl⟩ hxl
      have hz : (ks ++ [s]).length ≤ 4294967296 := by simp; omega
      simp only [List.cons_append, List.append_assoc, List.nil_append]
      refine hyl _ _ _ _ _ (ParS.cons rfl ParS.nil) byTake ?_
      refine byCode ?_
      (refine KL.v rfl (Val.assign rfl) ?_)
      refine KL.nil ?_
      refine KE.begin byTake ?_
      refine K.block ?_
      refine byCode ?_
      (refine KL.v rfl (Val.loadP rfl rfl bySee) ?_)
      (refine KL.v rfl (Val.move rfl) ?_)
      (refine KL.e rfl (Eff.buildS byParts rfl rfl rfl rfl rfl byFill) ?_; rintro _ _ ⟨b10, rfl, rfl⟩)
      -- STOP at region 3 op 3: {"h": "Op.call", "a": [{"callee": {"h": "Callee.builtin", "a": ["Builtin.append"]}, "args": [{"h": "Operand.tmp", "a": [8]}, {"h": "Operand.tmp", "a": [10]}], "argTypes": [22, 22]}]}
      (refine KL.e rfl (Eff.appZ (E := iE) (xs := ks) (o := o) (ys := [s]) (zs := ks ++ [s]) rfl rfl rfl rfl rfl rfl byTakeL (by assumption) (by first | exact Sli.blk byTake rfl (by first | decide | simp) (by first | decide | (unfold maxLen; omega)) rfl | exact Sli.old (by assumption) | exact Sli.own byTakeL (by assumption) byLen | assumption | exact Sli.part (by assumption) byPart) (rfl) (by first | assumption | omega | (simp <;> fail) | (simp; omega)) rfl) ?_; rintro _ _ ⟨o', ok', rfl, rfl⟩)
      (first | (refine KL.eN (Eff.storeL rfl rfl byOne rfl byTake bySetAt) ?_; rintro _ _ rfl) | (refine KL.eN (Eff.stSl rfl rfl rfl rfl byTakeL (by assumption) (by assumption) rfl rfl) ?_; rintro _ _ rfl) | (refine KL.eN (Eff.stSl0 rfl rfl rfl rfl byTakeL (by assumption) (by assumption) rfl rfl) ?_; rintro _ _ rfl))
      refine KL.nil ?_
      refine byCode ?_
      refine KE.part ((l, .loop (r .busy none)) :: (D, .deferred (some [])) :: (oH iE 3 (ks ++ [s]) o' ++ ((b2, cells [oV o' (ks ++ [s]).length] 22) :: F))) byPart ?_
      exact KE.roundN Take.head ⟨rfl, _, ⟨o', ok', rfl⟩, by simp⟩
    · rintro v H' ⟨A', ks, rfl, ⟨o, ok, rfl⟩, hk⟩
      refine .inl ⟨_, ?_, ks, o, hk, ok, rfl⟩
      simp only [List.cons_append, List.append_assoc, List.nil_append]
      exact byPart
  · rintro D F' ⟨ks, o, hk, ok, rfl⟩
    refine byCode ?_
    (refine KL.v rfl (Val.loadP rfl rfl bySee) ?_)
    (refine KL.v rfl (Val.assign rfl) ?_)
    refine KL.nil ?_
    refine byCode ?_
    exact KE.fin byMarks rfl byRes byPart ⟨ks, o, hk, ok, rfl, rfl⟩
  · rintro D cd F' h
    exact h.elim

set_option maxRecDepth 10000 in
theorem CollectT_K {w0 : World} {F : Heap} {b bm c : Nat} {ms : List ME} (ok : MOk ms c) (hl : ms.length ≤ 1000000) :
    Call Tryz.prog w0 56 [.func (.func 58) #[] #[.pointer (some ⟨b, 0, none⟩)]] ((b, cells [.map (some bm)] 54) :: (bm, mobj ms c) :: F)
      (fun r H' => ∃ ks o, KeysOf ms ks ∧ oOk iE ks o ∧ r = oV o ks.length ∧ H' = oH iE 3 ks o ++ ((bm, mobj ms c) :: F)) := by
  refine Call.enter (n := 5) [(0, .func (.func 58) #[] #[.pointer (some ⟨b, 0, none⟩)])] (by kernel_rfl) Tryz.func56 rfl rfl rfl ⟨rfl, trivial⟩ ?_
  refine byCode ?_
  (refine KL.v rfl (Val.assign rfl) ?_)
  refine KL.nil ?_
  refine byCode ?_
  (refine KL.v rfl (Val.move rfl) ?_)
  (refine KL.callc rfl rfl byEvL fun T hT => ?_)
  refine (CallV.fn (AppendSeqT_K ok hl)).mono ?_
  rintro _ _ ⟨ks, o, hk, ok', rfl, rfl⟩
  refine hT _ _ ?_; clear hT; clear T
  (refine KL.v rfl (Val.assign rfl) ?_)
  refine KL.nil ?_
  refine byCode ?_
  exact KE.fin byMarks rfl byRes byPart ⟨ks, o, hk, ok', rfl, rfl⟩

set_option maxRecDepth 10000 in
theorem SortedT_K {w0 : World} {F : Heap} {b bm c : Nat} {ms : List ME} (ok : MOk ms c) (hl : ms.length ≤ 1000000) :
    Call Tryz.prog w0 38 [.func (.func 58) #[] #[.pointer (some ⟨b, 0, none⟩)]] ((b, cells [.map (some bm)] 54) :: (bm, mobj ms c) :: F)
      (fun r H' => ∃ ks o, KeysOf ms ks ∧ ks.Pairwise (· < ·) ∧ oOk iE ks o ∧ r = oV o ks.length ∧ H' = oH iE 3 ks o ++ ((bm, mobj ms c) :: F)) := by
  refine Call.enter (n := 9) [(0, .func (.func 58) #[] #[.pointer (some ⟨b, 0, none⟩)])] (by kernel_rfl) Tryz.func38 rfl rfl rfl ⟨rfl, trivial⟩ ?_
  refine byCode ?_
  (refine KL.v rfl (Val.assign rfl) ?_)
  refine KL.nil ?_
  refine byCode ?_
  (refine KL.v rfl (Val.move rfl) ?_)
  (refine KL.callc rfl rfl byEvL fun T hT => ?_)
  refine (CallV.fn (CollectT_K ok hl)).mono ?_
  rintro _ _ ⟨ks, o, hk, ok', rfl, rfl⟩
  refine hT _ _ ?_; clear hT; clear T
  (refine KL.v rfl (Val.assign rfl) ?_)
  refine KL.nil ?_
  refine byCode ?_
  (refine KL.v rfl (Val.move rfl) ?_)
  (refine KL.callc rfl rfl byEvL fun T hT => ?_)
  refine (CallV.part (CallV.fn (Sort_K (F := (bm, mobj ms c) :: F) ok' (Nat.le_trans hk.2.2 hl))) byPart).mono ?_
  rintro _ _ ⟨rfl, ok2, rfl⟩
  refine hT _ _ ?_; clear hT; clear T
  refine KL.nil ?_
  have hsl := sortP_len ks
  refine byCode ?_
  (refine KL.v rfl (Val.move rfl) ?_)
  (refine KL.v rfl (Val.assign rfl) ?_)
  refine KL.nil ?_
  refine byCode ?_
  exact KE.fin byMarks rfl byRes byPart ⟨sortP ks, o, hk.sort, sort_strict hk.2.1, ok2, by rw [hsl]; rfl, rfl⟩


end Go.Proofs.YthamkgghnjenhaaGreat
namespace Go.Proofs.YthamkgghnjenhaaGreat
open Go.RowKit
set_option linter.unusedVariables false
set_option linter.unusedSimpArgs false

/-! ## more on maps -/
theorem mfind_mid {k : Int} {v : Value} {n : Nat} : ∀ {A B : List ME}, (∀ e ∈ A, e.k ≠ k) → mfind k (A ++ ⟨k, v, n⟩ :: B) 0 = some (A.length, v)
  | [], B, _ => by simp [mfind]
  | a :: A, B, h => by
    have h1 : (k == a.k) = false := by have := h a (.head _); simpa using fun e => this e.symm
    have ih := mfind_mid (k := k) (v := v) (n := n) (A := A) (B := B) fun e he => h e (.tail _ he)
    rw [List.cons_append]
    simp only [mfind, h1, Bool.false_eq_true, if_false]
    rw [mfind_shift, ih]; simp
theorem modify_mid {α : Type} (f : α → α) (e : α) (B : List α) : ∀ A : List α, (A ++ e :: B).modify A.length f = A ++ f e :: B
  | [] => by simp
  | a :: A => by have := modify_mid f e B A; simpa using this
theorem mput_mid {k : Int} {v v' : Value} {n c : Nat} {A B : List ME} (h : ∀ e ∈ A, e.k ≠ k) : mput (A ++ ⟨k, v, n⟩ :: B) c k v' = A ++ ⟨k, v', n⟩ :: B ∧ mclk (A ++ ⟨k, v, n⟩ :: B) c k = c := by
  have hf := mfind_mid (v := v) (n := n) (B := B) h
  unfold mput mclk
  rw [hf]
  refine ⟨?_, rfl⟩
  simp only
  rw [modify_mid]
theorem mfind_new {k : Int} {ms : List ME} (h : ∀ e ∈ ms, e.k ≠ k) : mfind k ms 0 = none := by
  cases hf : mfind k ms 0 with
  | none => rfl
  | some p =>
    obtain ⟨e, h1, h2, _⟩ := mfind_some (i := p.1) (v := p.2) hf
    exact absurd h2 (h e (List.mem_of_getElem? h1))
theorem mput_new {k : Int} {v : Value} {c : Nat} {ms : List ME} (h : ∀ e ∈ ms, e.k ≠ k) : mput ms c k v = ms ++ [⟨k, v, c⟩] ∧ mclk ms c k = c + 1 := by
  unfold mput mclk
  rw [mfind_new h]
  exact ⟨rfl, rfl⟩

/-! ## an object, a handle, a store in memory -/
structure Th where
  refs : List Int
  words : List Int
  size : Int
  pins : Int
structure ThS where
  k : Int
  x : Th
  o1 : Own
  o2 : Own
  n : Nat
def tV (x : Th) (o1 o2 : Own) : Value := .agg [oV o1 x.refs.length, oV o2 x.words.length, .int .i64 x.size, .int .i64 x.pins].toArray
def tE (t : ThS) : ME := ⟨t.k, tV t.x t.o1 t.o2, t.n⟩
def tH (t : ThS) : Heap := oH iE 3 t.x.refs t.o1 ++ oH uE 40 t.x.words t.o2
def tsH : List ThS → Heap
  | [] => []
  | t :: l => tH t ++ tsH l
def tOk (t : ThS) : Prop := oOk iE t.x.refs t.o1 ∧ oOk uE t.x.words t.o2
structure HdS where
  k : Int
  v : Int
  n : Nat
def hE (h : HdS) : ME := ⟨h.k, .int .i64 h.v, h.n⟩
structure SM where
  b : Nat
  bt : Nat
  bh : Nat
  cl : List Int
  oc : Own
  quota : Int
  caps : Int
  ts : List ThS
  ct : Nat
  hs : List HdS
  ch : Nat
  made : Nat
  minted : Nat
def smH (s : SM) : Heap := (s.b, stO (oV s.oc s.cl.length) s.quota s.caps (some s.bt) (some s.bh) s.made s.minted) :: (s.bt, mobj (s.ts.map tE) s.ct) :: (s.bh, mobj (s.hs.map hE) s.ch) :: (oH iE 3 s.cl s.oc ++ tsH s.ts)
structure SOk (s : SM) : Prop where
  mt : MOk (s.ts.map tE) s.ct
  mh : MOk (s.hs.map hE) s.ch
  oc : oOk iE s.cl s.oc
  ts : ∀ t ∈ s.ts, tOk t

/-! ## as finite maps -/
def tf (ts : List ThS) (i : Int) : Option Th := (ts.find? fun t => i == t.k).map (·.x)
def hf (hs : List HdS) (h : Int) : Option Int := (hs.find? fun e => h == e.k).map (·.v)
structure St where
  cl : List Int
  quota : Int
  caps : Int
  T : Int → Option Th
  Hd : Int → Option Int
  made : Nat
  minted : Nat
def SM.st (s : SM) : St := ⟨s.cl, s.quota, s.caps, tf s.ts, hf s.hs, s.made, s.minted⟩

theorem mget_tE (ts : List ThS) (i : Int) : mget (ts.map tE) i = (ts.find? fun t => i == t.k).map fun t => tV t.x t.o1 t.o2 := by
  unfold mget
  induction ts with
  | nil => rfl
  | cons t l ih =>
    simp only [List.map_cons, mfind, List.find?_cons]
    rw [show (tE t).k = t.k from rfl]
    cases h : i == t.k
    · simp only [Bool.false_eq_true, if_false]
      rw [mfind_shift, Option.map_map]
      exact ih
    · rfl
theorem mget_hE (hs : List HdS) (h : Int) : mget (hs.map hE) h = (hf hs h).map (.int .i64) := by
  unfold mget hf
  induction hs with
  | nil => rfl
  | cons t l ih =>
    simp only [List.map_cons, mfind, List.find?_cons]
    rw [show (hE t).k = t.k from rfl]
    cases e : h == t.k
    · simp only [Bool.false_eq_true, if_false]
      rw [mfind_shift, Option.map_map]
      exact ih
    · rfl
theorem tf_none {ts : List ThS} {i : Int} : tf ts i = none ↔ ∀ t ∈ ts, t.k ≠ i := by
  unfold tf
  simp only [Option.map_eq_none_iff, List.find?_eq_none, beq_iff_eq]
  exact ⟨fun h t ht e => h t ht e.symm, fun h t ht e => h t ht e.symm⟩
theorem hf_none {hs : List HdS} {i : Int} : hf hs i = none ↔ ∀ t ∈ hs, t.k ≠ i := by
  unfold hf
  simp only [Option.map_eq_none_iff, List.find?_eq_none, beq_iff_eq]
  exact ⟨fun h t ht e => h t ht e.symm, fun h t ht e => h t ht e.symm⟩
theorem keys_nd {s : SM} (ok : SOk s) : (s.ts.map (·.k)).Nodup := by
  have := ok.mt.kd
  rw [List.map_map] at this
  exact this
theorem hkeys_nd {s : SM} (ok : SOk s) : (s.hs.map (·.k)).Nodup := by
  have := ok.mh.kd
  rw [List.map_map] at this
  exact this
/-- what is in a map once stands at one place -/
theorem tf_split {ts : List ThS} {i : Int} {x : Th} (h : tf ts i = some x) : ∃ A t B, ts = A ++ t :: B ∧ t.k = i ∧ t.x = x ∧ (∀ e ∈ A, e.k ≠ i) ∧ mget (ts.map tE) i = some (tV x t.o1 t.o2) := by
  unfold tf at h
  obtain ⟨t, ht, rfl⟩ := Option.map_eq_some_iff.1 h
  obtain ⟨h1, A, B, h2, h3⟩ := List.find?_eq_some_iff_append.1 ht
  refine ⟨A, t, B, h2, by simpa using (by simpa using h1 : i = t.k).symm, rfl, fun e he => ?_, by rw [mget_tE, ht]; rfl⟩
  have := h3 e he
  simp at this
  exact fun e' => this e'.symm
theorem hf_split {hs : List HdS} {i v : Int} (h : hf hs i = some v) : ∃ A t B, hs = A ++ t :: B ∧ t.k = i ∧ t.v = v ∧ (∀ e ∈ A, e.k ≠ i) := by
  unfold hf at h
  obtain ⟨t, ht, rfl⟩ := Option.map_eq_some_iff.1 h
  obtain ⟨h1, A, B, h2, h3⟩ := List.find?_eq_some_iff_append.1 ht
  refine ⟨A, t, B, h2, by simpa using (by simpa using h1 : i = t.k).symm, rfl, fun e he => ?_⟩
  have := h3 e he
  simp at this
  exact fun e' => this e'.symm
theorem tsH_app (A B : List ThS) : tsH (A ++ B) = tsH A ++ tsH B := by
  induction A with
  | nil => rfl
  | cons t l ih => simp only [List.cons_append, tsH, ih, List.append_assoc]
/-- objects that are dropped -/
theorem part_tsH (p : ThS → Bool) (F : Heap) : ∀ ts : List ThS, Part (tsH ts ++ F) (tsH (ts.filter p) ++ F)
  | [] => .all
  | t :: l => by
    rw [List.filter_cons]
    cases h : p t
    · simp only [Bool.false_eq_true, if_false, tsH, List.append_assoc]
      exact .dropA (part_tsH p F l)
    · simp only [if_true, tsH, List.append_assoc]
      exact .takeA .head (part_tsH p F l)

/-! ## what is reached; what is there; how much -/
inductive Rch (S : St) : Int → Prop
  | hand {h i : Int} : S.Hd h = some i → Rch S i
  | pin {i : Int} {x : Th} : S.T i = some x → 0 < x.pins → Rch S i
  | ref {i r : Int} {x : Th} : Rch S i → S.T i = some x → r ∈ x.refs → r ≠ 0 → Rch S r
def upTo (n : Nat) : List Int := (List.range n).map fun (i : Nat) => (i : Int) + 1
theorem upTo_mem {n : Nat} {i : Int} : i ∈ upTo n ↔ 1 ≤ i ∧ i ≤ n := by
  unfold upTo
  simp only [List.mem_map, List.mem_range]
  constructor
  · rintro ⟨a, h, rfl⟩; omega
  · rintro ⟨h1, h2⟩; exact ⟨(i - 1).toNat, by omega, by omega⟩
theorem upTo_sorted (n : Nat) : (upTo n).Pairwise (· < ·) := by
  unfold upTo
  rw [List.pairwise_map]
  exact List.pairwise_lt_range.imp fun h => by omega
theorem upTo_succ (n : Nat) : upTo (n + 1) = upTo n ++ [(n : Int) + 1] := by simp [upTo, List.range_succ]
theorem upTo_len (n : Nat) : (upTo n).length = n := by simp [upTo]
def objsP (S : St) : List Int := (upTo S.made).filter fun i => (S.T i).isSome
def handsP (S : St) : List Int := (upTo S.minted).filter fun h => (S.Hd h).isSome
def szP (S : St) (i : Int) : Int := ((S.T i).map (·.size)).getD 0
def usedP (S : St) : Int := ((objsP S).map (szP S)).sum
/-- numbers of objects and handles -/
structure Nums (S : St) : Prop where
  t : ∀ i x, S.T i = some x → 1 ≤ i ∧ i ≤ S.made
  h : ∀ h i, S.Hd h = some i → 1 ≤ h ∧ h ≤ S.minted
theorem objs_mem {S : St} (h : Nums S) {i : Int} : i ∈ objsP S ↔ (S.T i).isSome := by
  unfold objsP
  rw [List.mem_filter, upTo_mem]
  exact ⟨fun h => h.2, fun hi => ⟨by obtain ⟨x, hx⟩ := Option.isSome_iff_exists.1 hi; exact h.t i x hx, hi⟩⟩
theorem hands_mem {S : St} (h : Nums S) {i : Int} : i ∈ handsP S ↔ (S.Hd i).isSome := by
  unfold handsP
  rw [List.mem_filter, upTo_mem]
  exact ⟨fun h => h.2, fun hi => ⟨by obtain ⟨x, hx⟩ := Option.isSome_iff_exists.1 hi; exact h.h i x hx, hi⟩⟩
theorem objs_sorted (S : St) : (objsP S).Pairwise (· < ·) := (upTo_sorted _).filter _
theorem hands_sorted (S : St) : (handsP S).Pairwise (· < ·) := (upTo_sorted _).filter _
theorem objs_len (S : St) : (objsP S).length ≤ S.made := Nat.le_trans (List.length_filter_le _ _) (by rw [upTo_len]; exact Nat.le_refl _)
theorem hands_len (S : St) : (handsP S).length ≤ S.minted := Nat.le_trans (List.length_filter_le _ _) (by rw [upTo_len]; exact Nat.le_refl _)
theorem tf_some {ts : List ThS} {i : Int} : (tf ts i).isSome ↔ ∃ t ∈ ts, t.k = i := by
  cases h : tf ts i with
  | none =>
    have := tf_none.1 h
    simp
    exact this
  | some x =>
    obtain ⟨A, t, B, rfl, rfl, _, _, _⟩ := tf_split h
    exact ⟨fun _ => ⟨t, by simp, rfl⟩, fun _ => rfl⟩
theorem hf_some {hs : List HdS} {i : Int} : (hf hs i).isSome ↔ ∃ t ∈ hs, t.k = i := by
  cases h : hf hs i with
  | none =>
    have := hf_none.1 h
    simp
    exact this
  | some x =>
    obtain ⟨A, t, B, rfl, rfl, _, _⟩ := hf_split h
    exact ⟨fun _ => ⟨t, by simp, rfl⟩, fun _ => rfl⟩
theorem keys_objs {s : SM} (hn : Nums s.st) {ks : List Int} (hk : KeysOf (s.ts.map tE) ks) (hs : ks.Pairwise (· < ·)) : ks = objsP s.st :=
  sorted_ext hs (objs_sorted _) fun x => by
    rw [objs_mem hn, hk.1, show s.st.T = tf s.ts from rfl, tf_some]
    simp [tE]
theorem keys_hands {s : SM} (hn : Nums s.st) {ks : List Int} (hk : KeysOf (s.hs.map hE) ks) (hs : ks.Pairwise (· < ·)) : ks = handsP s.st :=
  sorted_ext hs (hands_sorted _) fun x => by
    rw [hands_mem hn, hk.1, show s.st.Hd = hf s.hs from rfl, hf_some]
    simp [hE]
theorem nodup_len {a b : List Int} (ha : a.Nodup) (hb : b.Nodup) (h : ∀ x, x ∈ a ↔ x ∈ b) : a.length = b.length :=
  ((List.perm_ext_iff_of_nodup ha hb).2 h).length_eq
theorem sorted_nd {l : List Int} (h : l.Pairwise (· < ·)) : l.Nodup := h.imp fun {a b} h e => by omega
theorem ts_len {s : SM} (ok : SOk s) (hn : Nums s.st) : s.ts.length = (objsP s.st).length := by
  rw [← List.length_map (f := fun t : ThS => t.k)]
  refine nodup_len (keys_nd ok) (sorted_nd (objs_sorted _)) fun x => ?_
  rw [objs_mem hn, show s.st.T = tf s.ts from rfl, tf_some]
  simp
theorem hs_len {s : SM} (ok : SOk s) (hn : Nums s.st) : s.hs.length = (handsP s.st).length := by
  rw [← List.length_map (f := fun t : HdS => t.k)]
  refine nodup_len (hkeys_nd ok) (sorted_nd (hands_sorted _)) fun x => ?_
  rw [hands_mem hn, show s.st.Hd = hf s.hs from rfl, hf_some]
  simp
end Go.Proofs.YthamkgghnjenhaaGreat
namespace Go.Proofs.YthamkgghnjenhaaGreat
open Go.RowKit
set_option linter.unusedVariables false
set_option linter.unusedSimpArgs false
set_option maxRecDepth 10000

theorem noneR_K {w0 : World} {H : Heap} {b : Nat} {bt : Option Nat} (hS : Sees w0 H ⟨b, 3, none⟩ (.map bt)) :
    Call Tryz.prog w0 19 [.pointer (some ⟨b, 0, none⟩)] H (fun r H' => r = .bool bt.isNone ∧ H' = H) := by
  refine Call.enter1 (n := 12) (by kernel_rfl) Tryz.func19 rfl rfl rfl ?_
  refine K.seq ?_
  refine K.region ?_
  (refine KL.v rfl (Val.assign rfl) ?_)
  refine KL.nil ?_
  refine KE.next ?_
  refine K.seq ?_
  refine K.region ?_
  (refine KL.v rfl (Val.move rfl) ?_)
  (refine KL.v rfl (Val.eqlPN rfl rfl rfl) ?_)
  (refine KL.v rfl (Val.move rfl) ?_)
  (refine KL.yes rfl rfl ?_; refine KL.v rfl (Val.move rfl) ?_)
  (refine KL.yes rfl rfl ?_; refine KL.v rfl (Val.nilCheck rfl) ?_)
  (refine KL.yes rfl rfl ?_; refine KL.v rfl (Val.fieldAddr0 (k := 3) rfl rfl) ?_)
  (refine KL.yes rfl rfl ?_; refine KL.v rfl (Val.loadP rfl rfl bySee) ?_)
  (refine KL.yes rfl rfl ?_; refine KL.v rfl (Val.eqlMN rfl rfl rfl) ?_)
  (refine KL.v rfl (Val.pickF rfl rfl rfl) ?_)
  (refine KL.v rfl (Val.assign rfl) ?_)
  refine KL.nil ?_
  refine KE.next ?_
  refine K.ret ?_
  exact KE.fin byMarks rfl byRes byPart ⟨rfl, rfl⟩
theorem smH_app {sm : SM} {F : Heap} : smH sm ++ F = (sm.b, cells [oV sm.oc sm.cl.length, .int .i64 sm.quota, .int .i64 sm.caps, .map (some sm.bt), .map (some sm.bh), .int .i64 sm.made, .int .i64 sm.minted] 57) :: (sm.bt, mobj (sm.ts.map tE) sm.ct) :: (sm.bh, mobj (sm.hs.map hE) sm.ch) :: (oH iE 3 sm.cl sm.oc ++ (tsH sm.ts ++ F)) := by
  simp only [smH, stO, List.cons_append, List.append_assoc]
theorem smH_mapp {sm : SM} {A B : List ThS} {t : ThS} (h : sm.ts = A ++ t :: B) {F : Heap} : smH sm ++ F = (sm.b, cells [oV sm.oc sm.cl.length, .int .i64 sm.quota, .int .i64 sm.caps, .map (some sm.bt), .map (some sm.bh), .int .i64 sm.made, .int .i64 sm.minted] 57) :: (sm.bt, mobj ((A ++ t :: B).map tE) sm.ct) :: (sm.bh, mobj (sm.hs.map hE) sm.ch) :: (oH iE 3 sm.cl sm.oc ++ (tsH A ++ (oH iE 3 t.x.refs t.o1 ++ (oH uE 40 t.x.words t.o2 ++ (tsH B ++ F))))) := by
  rw [smH_app, h, tsH_app]
  simp only [tsH, tH, List.append_assoc]
theorem Objects_K {w0 : World} {F : Heap} {sm : SM} (ok : SOk sm) (hn : Nums sm.st) (hm : sm.made ≤ 1000) :
    Call Tryz.prog w0 15 [.pointer (some ⟨sm.b, 0, none⟩)] (smH sm ++ F)
      (fun r H' => ∃ o, oOk iE (objsP sm.st) o ∧ r = oV o (objsP sm.st).length ∧ H' = oH iE 3 (objsP sm.st) o ++ (smH sm ++ F)) := by
  have hl : sm.ts.length ≤ 1000 := by rw [ts_len ok hn]; exact Nat.le_trans (objs_len _) hm
  refine Call.enter1 (n := 11) (by kernel_rfl) Tryz.func15 rfl rfl rfl ?_
  (rw [smH_app (sm := sm)])
  refine K.seq ?_
  refine K.region ?_
  (refine KL.v rfl (Val.assign rfl) ?_)
  refine KL.nil ?_
  refine KE.next ?_
  refine K.seq ?_
  refine K.seq ?_
  refine K.region ?_
  (refine KL.v rfl (Val.move rfl) ?_)
  (refine KL.callc rfl rfl byEvL fun T hT => ?_)
  (refine (CallV.fn (noneR_K (bt := some _) (Sees.cell byTake rfl))).mono ?_; rintro _ _ ⟨rfl, rfl⟩)
  (refine hT _ _ ?_; clear hT; clear T)
  refine KL.nil ?_
  refine KE.next ?_
  refine K.condF rfl ?_
  refine K.skip ?_
  refine KE.next ?_
  refine K.seq ?_
  refine K.region ?_
  (refine KL.v rfl (Val.move rfl) ?_)
  (refine KL.v rfl (Val.nilCheck rfl) ?_)
  (refine KL.v rfl (Val.fieldAddr0 (k := 3) rfl rfl) ?_)
  (refine KL.v rfl (Val.loadP rfl rfl (Sees.cell byTake rfl)) ?_)
  (refine KL.callc rfl rfl byEvL fun T hT => ?_)
  refine (CallV.fn (KeysT_K rfl)).mono ?_
  rintro _ _ ⟨b, rfl, rfl⟩
  refine hT _ _ ?_; clear hT; clear T
  (refine KL.callc rfl rfl byEvL fun T hT => ?_)
  refine (CallV.part (CallV.fn (SortedT_K ok.mt (by rw [List.length_map]; omega))) byPart).mono ?_
  rintro _ _ ⟨ks, o, hk, hs, oko, rfl, rfl⟩
  have := keys_objs hn hk hs
  subst this
  refine hT _ _ ?_; clear hT; clear T
  (refine KL.v rfl (Val.assign rfl) ?_)
  refine KL.nil ?_
  refine KE.next ?_
  refine K.ret ?_
  exact KE.fin byMarks rfl byRes byPart ⟨o, oko, rfl, rfl⟩


theorem Handles_K {w0 : World} {F : Heap} {sm : SM} (ok : SOk sm) (hn : Nums sm.st) (hm : sm.minted ≤ 1000) :
    Call Tryz.prog w0 35 [.pointer (some ⟨sm.b, 0, none⟩)] (smH sm ++ F)
      (fun r H' => ∃ o, oOk iE (handsP sm.st) o ∧ r = oV o (handsP sm.st).length ∧ H' = oH iE 3 (handsP sm.st) o ++ (smH sm ++ F)) := by
  have hl : sm.hs.length ≤ 1000 := by rw [hs_len ok hn]; exact Nat.le_trans (hands_len _) hm
  refine Call.enter1 (n := 11) (by kernel_rfl) Tryz.func35 rfl rfl rfl ?_
  (rw [smH_app (sm := sm)])
  refine K.seq ?_
  refine K.region ?_
  (refine KL.v rfl (Val.assign rfl) ?_)
  refine KL.nil ?_
  refine KE.next ?_
  refine K.seq ?_
  refine K.seq ?_
  refine K.region ?_
  (refine KL.v rfl (Val.move rfl) ?_)
  (refine KL.callc rfl rfl byEvL fun T hT => ?_)
  (refine (CallV.fn (noneR_K (bt := some _) (Sees.cell byTake rfl))).mono ?_; rintro _ _ ⟨rfl, rfl⟩)
  (refine hT _ _ ?_; clear hT; clear T)
  refine KL.nil ?_
  refine KE.next ?_
  refine K.condF rfl ?_
  refine K.skip ?_
  refine KE.next ?_
  refine K.seq ?_
  refine K.region ?_
  (refine KL.v rfl (Val.move rfl) ?_)
  (refine KL.v rfl (Val.nilCheck rfl) ?_)
  (refine KL.v rfl (Val.fieldAddr0 (k := 4) rfl rfl) ?_)
  (refine KL.v rfl (Val.loadP rfl rfl (Sees.cell byTake rfl)) ?_)
  (refine KL.callc rfl rfl byEvL fun T hT => ?_)
  refine (CallV.fn (Keys_K rfl)).mono ?_
  rintro _ _ ⟨b, rfl, rfl⟩
  refine hT _ _ ?_; clear hT; clear T
  (refine KL.callc rfl rfl byEvL fun T hT => ?_)
  refine (CallV.part (CallV.fn (Sorted_K ok.mh (by rw [List.length_map]; omega))) byPart).mono ?_
  rintro _ _ ⟨ks, o, hk, hs, oko, rfl, rfl⟩
  have := keys_hands hn hk hs
  subst this
  refine hT _ _ ?_; clear hT; clear T
  (refine KL.v rfl (Val.assign rfl) ?_)
  refine KL.nil ?_
  refine KE.next ?_
  refine K.ret ?_
  exact KE.fin byMarks rfl byRes byPart ⟨o, oko, rfl, rfl⟩
theorem Live_K {w0 : World} {F : Heap} {sm : SM} (ok : SOk sm) (hn : Nums sm.st) (hm : sm.minted ≤ 1000) :
    Call Tryz.prog w0 33 [.pointer (some ⟨sm.b, 0, none⟩)] (smH sm ++ F)
      (fun r H' => r = .int .i64 ((handsP sm.st).length : Nat) ∧ H' = smH sm ++ F) := by
  refine Call.enter1 (n := 6) (by kernel_rfl) Tryz.func33 rfl rfl rfl ?_
  refine K.seq ?_
  refine K.region ?_
  (refine KL.v rfl (Val.assign rfl) ?_)
  refine KL.nil ?_
  refine KE.next ?_
  refine K.seq ?_
  refine K.region ?_
  (refine KL.v rfl (Val.move rfl) ?_)
  (refine KL.callc rfl rfl byEvL fun T hT => ?_)
  refine (CallV.fn (Handles_K ok hn hm)).mono ?_
  rintro _ _ ⟨o, oko, rfl, rfl⟩
  refine hT _ _ ?_; clear hT; clear T
  (refine KL.v rfl (Val.lenSl rfl rfl (Sli.own byTakeL (by assumption) byLen)) ?_)
  (refine KL.v rfl (Val.assign rfl) ?_)
  refine KL.nil ?_
  refine KE.next ?_
  refine K.ret ?_
  exact KE.fin byMarks rfl byRes byPart ⟨rfl, rfl⟩
theorem Minted_K {w0 : World} {F : Heap} {sm : SM} :
    Call Tryz.prog w0 34 [.pointer (some ⟨sm.b, 0, none⟩)] (smH sm ++ F)
      (fun r H' => r = .int .i64 (sm.minted : Nat) ∧ H' = smH sm ++ F) := by
  refine Call.enter1 (n := 9) (by kernel_rfl) Tryz.func34 rfl rfl rfl ?_
  (rw [smH_app (sm := sm)])
  refine K.seq ?_
  refine K.region ?_
  (refine KL.v rfl (Val.assign rfl) ?_)
  refine KL.nil ?_
  refine KE.next ?_
  refine K.seq ?_
  refine K.seq ?_
  refine K.region ?_
  (refine KL.v rfl (Val.move rfl) ?_)
  (refine KL.callc rfl rfl byEvL fun T hT => ?_)
  (refine (CallV.fn (noneR_K (bt := some _) (Sees.cell byTake rfl))).mono ?_; rintro _ _ ⟨rfl, rfl⟩)
  (refine hT _ _ ?_; clear hT; clear T)
  refine KL.nil ?_
  refine KE.next ?_
  refine K.condF rfl ?_
  refine K.skip ?_
  refine KE.next ?_
  refine K.seq ?_
  refine K.region ?_
  (refine KL.v rfl (Val.move rfl) ?_)
  (refine KL.v rfl (Val.nilCheck rfl) ?_)
  (refine KL.v rfl (Val.fieldAddr0 (k := 6) rfl rfl) ?_)
  (refine KL.v rfl (Val.loadP rfl rfl (Sees.cell byTake rfl)) ?_)
  (refine KL.v rfl (Val.assign rfl) ?_)
  refine KL.nil ?_
  refine KE.next ?_
  refine K.ret ?_
  exact KE.fin byMarks rfl byRes byPart ⟨rfl, rfl⟩
/-- the object that a handle names, an error -/
def namesP (S : St) (h : Int) : Int × Int := match S.Hd h with
  | some i => (i, 0)
  | none => (0, 130)
theorem NamesS_K {w0 : World} {F : Heap} {sm : SM} {h : Int} :
    Call Tryz.prog w0 29 [.pointer (some ⟨sm.b, 0, none⟩), .int .i64 h] (smH sm ++ F)
      (fun r H' => r = .tuple [.int .i64 (namesP sm.st h).1, .int .i64 (namesP sm.st h).2].toArray ∧ H' = smH sm ++ F) := by
  refine Call.enter2 (n := 22) (by kernel_rfl) Tryz.func29 rfl rfl rfl ?_
  (rw [smH_app (sm := sm)])
  cases hg : hf sm.hs h with
  | some v =>
    have hm : mget (sm.hs.map hE) h = some (.int .i64 v) := by rw [mget_hE, hg]; rfl
    have hp : namesP sm.st h = (v, 0) := by simp only [namesP, SM.st, hg]
    refine K.seq ?_
    refine K.region ?_
    (refine KL.v rfl (Val.assign rfl) ?_)
    (refine KL.v rfl (Val.assign rfl) ?_)
    refine KL.nil ?_
    refine KE.next ?_
    refine K.seq ?_
    refine K.seq ?_
    refine K.region ?_
    (refine KL.v rfl (Val.move rfl) ?_)
    (refine KL.callc rfl rfl byEvL fun T hT => ?_)
    (refine (CallV.fn (noneR_K (bt := some _) (Sees.cell byTake rfl))).mono ?_; rintro _ _ ⟨rfl, rfl⟩)
    (refine hT _ _ ?_; clear hT; clear T)
    refine KL.nil ?_
    refine KE.next ?_
    refine K.condF rfl ?_
    refine K.skip ?_
    refine KE.next ?_
    refine K.seq ?_
    refine K.region ?_
    (refine KL.v rfl (Val.move rfl) ?_)
    (refine KL.v rfl (Val.nilCheck rfl) ?_)
    (refine KL.v rfl (Val.fieldAddr0 (k := 4) rfl rfl) ?_)
    (refine KL.v rfl (Val.loadP rfl rfl (Sees.cell byTake rfl)) ?_)
    (refine KL.v rfl (Val.move rfl) ?_)
    (refine KL.v rfl (Val.lookOS rfl rfl rfl byTake (by assumption)) ?_)
    (refine KL.v rfl (Val.move rfl) ?_)
    (refine KL.v rfl (Val.extract rfl rfl) ?_)
    (refine KL.v rfl (Val.extract rfl rfl) ?_)
    (refine KL.v rfl (Val.assign rfl) ?_)
    (refine KL.v rfl (Val.assign rfl) ?_)
    refine KL.nil ?_
    refine KE.next ?_
    refine K.seq ?_
    refine K.seq ?_
    refine K.region ?_
    (refine KL.v rfl (Val.move rfl) ?_)
    (refine KL.v rfl (Val.notT rfl) ?_)
    refine KL.nil ?_
    refine KE.next ?_
    refine K.condF rfl ?_
    refine K.skip ?_
    refine KE.next ?_
    refine K.seq ?_
    refine K.region ?_
    (refine KL.v rfl (Val.move rfl) ?_)
    (refine KL.v rfl (Val.assign rfl) ?_)
    (refine KL.v rfl (Val.assign rfl) ?_)
    refine KL.nil ?_
    refine KE.next ?_
    refine K.ret ?_
    exact KE.fin byMarks rfl byRes byPart ⟨by rw [hp]; rfl, rfl⟩
  | none =>
    have hm : mget (sm.hs.map hE) h = none := by rw [mget_hE, hg]; rfl
    have hp : namesP sm.st h = (0, 130) := by simp only [namesP, SM.st, hg]
    refine K.seq ?_
    refine K.region ?_
    (refine KL.v rfl (Val.assign rfl) ?_)
    (refine KL.v rfl (Val.assign rfl) ?_)
    refine KL.nil ?_
    refine KE.next ?_
    refine K.seq ?_
    refine K.seq ?_
    refine K.region ?_
    (refine KL.v rfl (Val.move rfl) ?_)
    (refine KL.callc rfl rfl byEvL fun T hT => ?_)
    (refine (CallV.fn (noneR_K (bt := some _) (Sees.cell byTake rfl))).mono ?_; rintro _ _ ⟨rfl, rfl⟩)
    (refine hT _ _ ?_; clear hT; clear T)
    refine KL.nil ?_
    refine KE.next ?_
    refine K.condF rfl ?_
    refine K.skip ?_
    refine KE.next ?_
    refine K.seq ?_
    refine K.region ?_
    (refine KL.v rfl (Val.move rfl) ?_)
    (refine KL.v rfl (Val.nilCheck rfl) ?_)
    (refine KL.v rfl (Val.fieldAddr0 (k := 4) rfl rfl) ?_)
    (refine KL.v rfl (Val.loadP rfl rfl (Sees.cell byTake rfl)) ?_)
    (refine KL.v rfl (Val.move rfl) ?_)
    (refine KL.v rfl (Val.lookO0 rfl rfl rfl rfl byTake (by assumption)) ?_)
    (refine KL.v rfl (Val.move rfl) ?_)
    (refine KL.v rfl (Val.extract rfl rfl) ?_)
    (refine KL.v rfl (Val.extract rfl rfl) ?_)
    (refine KL.v rfl (Val.assign rfl) ?_)
    (refine KL.v rfl (Val.assign rfl) ?_)
    refine KL.nil ?_
    refine KE.next ?_
    refine K.seq ?_
    refine K.seq ?_
    refine K.region ?_
    (refine KL.v rfl (Val.move rfl) ?_)
    (refine KL.v rfl (Val.notF rfl) ?_)
    refine KL.nil ?_
    refine KE.next ?_
    refine K.condT rfl ?_
    refine K.seq ?_
    refine K.region ?_
    (refine KL.v rfl (Val.assign rfl) ?_)
    (refine KL.v rfl (Val.assign rfl) ?_)
    refine KL.nil ?_
    refine KE.next ?_
    refine K.ret ?_
    refine KE.passR ?_
    exact KE.fin byMarks rfl byRes byPart ⟨by rw [hp]; rfl, rfl⟩
theorem SetCaps_K {w0 : World} {F : Heap} {sm : SM} {n : Int} :
    Call Tryz.prog w0 8 [.pointer (some ⟨sm.b, 0, none⟩), .int .i64 n] (smH sm ++ F)
      (fun r H' => ((0 ≤ n ∧ n ≤ 1024) ∧ r = .int .i64 0 ∧ H' = smH { sm with caps := n } ++ F) ∨ (¬ (0 ≤ n ∧ n ≤ 1024) ∧ r = .int .i64 2 ∧ H' = smH sm ++ F)) := by
  refine Call.enter2 (n := 19) (by kernel_rfl) Tryz.func8 rfl rfl rfl ?_
  (rw [smH_app (sm := sm)])
  by_cases h1 : n < 0
  · refine K.seq ?_
    refine K.region ?_
    (refine KL.v rfl (Val.assign rfl) ?_)
    refine KL.nil ?_
    refine KE.next ?_
    refine K.seq ?_
    refine K.block ?_
    refine K.seq ?_
    refine K.region ?_
    (refine KL.v rfl (Val.move rfl) ?_)
    (refine KL.callc rfl rfl byEvL fun T hT => ?_)
    (refine (CallV.fn (noneR_K (bt := some _) (Sees.cell byTake rfl))).mono ?_; rintro _ _ ⟨rfl, rfl⟩)
    (refine hT _ _ ?_; clear hT; clear T)
    (refine KL.v rfl (Val.assign rfl) ?_)
    refine KL.nil ?_
    refine KE.next ?_
    refine K.condF rfl ?_
    refine K.seq ?_
    refine K.region ?_
    (refine KL.v rfl (Val.move rfl) ?_)
    (refine KL.v rfl (Val.isT (Val.lss rfl rfl) byLt) ?_)
    (refine KL.v rfl (Val.move rfl) ?_)
    refine KL.skipG rfl rfl rfl ?_
    refine KL.skipG rfl rfl rfl ?_
    (refine KL.v rfl (Val.pickT rfl rfl rfl) ?_)
    (refine KL.v rfl (Val.assign rfl) ?_)
    refine KL.nil ?_
    refine KE.next ?_
    refine K.condT rfl ?_
    refine K.seq ?_
    refine K.region ?_
    (refine KL.v rfl (Val.assign rfl) ?_)
    refine KL.nil ?_
    refine KE.next ?_
    refine K.ret ?_
    refine KE.blkR ?_
    refine KE.passR ?_
    exact KE.fin byMarks rfl byRes (by first | exact byPart | (rw [smH_app]; exact byPart)) (.inr ⟨by omega, rfl, rfl⟩)
  by_cases h2 : n > 1024
  · refine K.seq ?_
    refine K.region ?_
    (refine KL.v rfl (Val.assign rfl) ?_)
    refine KL.nil ?_
    refine KE.next ?_
    refine K.seq ?_
    refine K.block ?_
    refine K.seq ?_
    refine K.region ?_
    (refine KL.v rfl (Val.move rfl) ?_)
    (refine KL.callc rfl rfl byEvL fun T hT => ?_)
    (refine (CallV.fn (noneR_K (bt := some _) (Sees.cell byTake rfl))).mono ?_; rintro _ _ ⟨rfl, rfl⟩)
    (refine hT _ _ ?_; clear hT; clear T)
    (refine KL.v rfl (Val.assign rfl) ?_)
    refine KL.nil ?_
    refine KE.next ?_
    refine K.condF rfl ?_
    refine K.seq ?_
    refine K.region ?_
    (refine KL.v rfl (Val.move rfl) ?_)
    (refine KL.v rfl (Val.isF (Val.lss rfl rfl) byLt) ?_)
    (refine KL.v rfl (Val.move rfl) ?_)
    (refine KL.yes rfl rfl ?_; refine KL.v rfl (Val.move rfl) ?_)
    (refine KL.yes rfl rfl ?_; refine KL.v rfl (Val.isT (Val.gtr rfl rfl) byLt) ?_)
    (refine KL.v rfl (Val.pickF rfl rfl rfl) ?_)
    (refine KL.v rfl (Val.assign rfl) ?_)
    refine KL.nil ?_
    refine KE.next ?_
    refine K.condT rfl ?_
    refine K.seq ?_
    refine K.region ?_
    (refine KL.v rfl (Val.assign rfl) ?_)
    refine KL.nil ?_
    refine KE.next ?_
    refine K.ret ?_
    refine KE.blkR ?_
    refine KE.passR ?_
    exact KE.fin byMarks rfl byRes (by first | exact byPart | (rw [smH_app]; exact byPart)) (.inr ⟨by omega, rfl, rfl⟩)
  · refine K.seq ?_
    refine K.region ?_
    (refine KL.v rfl (Val.assign rfl) ?_)
    refine KL.nil ?_
    refine KE.next ?_
    refine K.seq ?_
    refine K.block ?_
    refine K.seq ?_
    refine K.region ?_
    (refine KL.v rfl (Val.move rfl) ?_)
    (refine KL.callc rfl rfl byEvL fun T hT => ?_)
    (refine (CallV.fn (noneR_K (bt := some _) (Sees.cell byTake rfl))).mono ?_; rintro _ _ ⟨rfl, rfl⟩)
    (refine hT _ _ ?_; clear hT; clear T)
    (refine KL.v rfl (Val.assign rfl) ?_)
    refine KL.nil ?_
    refine KE.next ?_
    refine K.condF rfl ?_
    refine K.seq ?_
    refine K.region ?_
    (refine KL.v rfl (Val.move rfl) ?_)
    (refine KL.v rfl (Val.isF (Val.lss rfl rfl) byLt) ?_)
    (refine KL.v rfl (Val.move rfl) ?_)
    (refine KL.yes rfl rfl ?_; refine KL.v rfl (Val.move rfl) ?_)
    (refine KL.yes rfl rfl ?_; refine KL.v rfl (Val.isF (Val.gtr rfl rfl) byLt) ?_)
    (refine KL.v rfl (Val.pickF rfl rfl rfl) ?_)
    (refine KL.v rfl (Val.assign rfl) ?_)
    refine KL.nil ?_
    refine KE.next ?_
    refine K.condF rfl ?_
    refine K.skip ?_
    refine KE.blkN ?_
    refine KE.next ?_
    refine K.seq ?_
    refine K.region ?_
    (refine KL.v rfl (Val.move rfl) ?_)
    (refine KL.v rfl (Val.move rfl) ?_)
    (refine KL.v rfl (Val.nilCheck rfl) ?_)
    (refine KL.v rfl (Val.fieldAddr0 (k := 2) rfl rfl) ?_)
    (refine KL.eN (Eff.storeL rfl rfl byOne rfl byTake bySetAt) ?_; rintro _ _ rfl)
    refine KL.nil ?_
    refine KE.next ?_
    refine K.seq ?_
    refine K.region ?_
    (refine KL.v rfl (Val.assign rfl) ?_)
    refine KL.nil ?_
    refine KE.next ?_
    refine K.ret ?_
    exact KE.fin byMarks rfl byRes (by first | exact byPart | (rw [smH_app]; exact byPart)) (.inl ⟨by omega, rfl, rfl⟩)
theorem Used_K {w0 : World} {F : Heap} {sm : SM} (ok : SOk sm) (hn : Nums sm.st) (hm : sm.made ≤ 1000) (hz : ∀ i x, tf sm.ts i = some x → 0 ≤ x.size ∧ x.size ≤ 100000) :
    Call Tryz.prog w0 13 [.pointer (some ⟨sm.b, 0, none⟩)] (smH sm ++ F)
      (fun r H' => r = .int .i64 (usedP sm.st) ∧ H' = smH sm ++ F) := by
  have hlen : (objsP sm.st).length ≤ 1000 := Nat.le_trans (objs_len _) hm
  have hsum : ∀ k, 0 ≤ (((objsP sm.st).take k).map (szP sm.st)).sum ∧ (((objsP sm.st).take k).map (szP sm.st)).sum ≤ k * 100000 := by
    intro k
    induction k with
    | zero => simp
    | succ k ih =>
      rw [List.take_add_one]
      cases hx : (objsP sm.st)[k]? with
      | none => simp only [Option.toList_none, List.append_nil]; omega
      | some i =>
        have hs : 0 ≤ szP sm.st i ∧ szP sm.st i ≤ 100000 := by
          have := (objs_mem hn).1 (List.mem_of_getElem? hx)
          obtain ⟨x, hx⟩ := Option.isSome_iff_exists.1 this
          have := hz i x hx
          simp only [szP, hx, Option.map_some, Option.getD_some]; exact this
        simp only [Option.toList_some, List.map_append, List.sum_append, List.map_cons, List.map_nil, List.sum_cons, List.sum_nil]; omega
  refine Call.enter1 (n := 24) (by kernel_rfl) Tryz.func13 rfl rfl rfl ?_
  refine K.seq ?_
  refine K.region ?_
  (refine KL.v rfl (Val.assign rfl) ?_)
  refine KL.nil ?_
  refine KE.next ?_
  refine K.seq ?_
  refine K.region ?_
  (refine KL.v rfl (Val.assign rfl) ?_)
  refine KL.nil ?_
  refine KE.next ?_
  refine K.seq ?_
  refine K.seq ?_
  refine K.region ?_
  (refine KL.v rfl (Val.move rfl) ?_)
  (refine KL.callc rfl rfl byEvL fun T hT => ?_)
  refine (CallV.fn (Objects_K ok hn hm)).mono ?_
  rintro _ _ ⟨o, oko, rfl, rfl⟩
  refine hT _ _ ?_; clear hT; clear T
  (refine KL.v rfl (Val.lenSl rfl rfl (Sli.own byTakeL (by assumption) byLen)) ?_)
  (refine KL.v rfl (Val.move rfl) ?_)
  refine KL.nil ?_
  refine KE.next ?_
  refine K.block ?_
  refine K.loopT (σ := Nat) [(0, _), (7, _), (8, _)] (fun s kp_ => (9, .int .i64 (s : Nat)) :: (3, .int .i64 (((objsP sm.st).take s).map (szP sm.st)).sum) :: kp_) (fun s => oH iE 3 (objsP sm.st) o ++ (smH sm ++ F)) (fun s => s ≤ (objsP sm.st).length) (fun s => (objsP sm.st).length - s) (0) bySub byPart (by simp) ?_
  rintro k hk
  have hk1 := hsum k
  by_cases hlt : k < (objsP sm.st).length
  · obtain ⟨i, hi⟩ := get_of_lt hlt
    have hT := (objs_mem hn).1 (List.mem_of_getElem? hi)
    obtain ⟨x, hx⟩ := Option.isSome_iff_exists.1 hT
    obtain ⟨A, t, B, hts, htk, htx, hA, hg⟩ := tf_split hx
    unfold tV at hg
    have hs : szP sm.st i = x.size := by simp only [szP, hx, Option.map_some, Option.getD_some]
    have hzx := hz i x hx
    have hnx : (((objsP sm.st).take (k + 1)).map (szP sm.st)).sum = (((objsP sm.st).take k).map (szP sm.st)).sum + x.size := by
      rw [take_snoc hi, List.map_append, List.sum_append, ← hs]; simp
    refine K.seq ?_
    refine K.region ?_
    (refine KL.v rfl (Val.isT (Val.lss rfl rfl) byLt) ?_)
    refine KL.nil ?_
    refine KE.next ?_
    refine K.seq ?_
    refine K.condT rfl ?_
    refine K.skip ?_
    refine KE.next ?_
    refine K.seq ?_
    refine K.block ?_
    refine K.seq ?_
    refine K.region ?_
    (refine KL.v rfl (Val.idxSl rfl rfl rfl (Sli.own byTakeL (by assumption) byLen) rfl byLt) ?_)
    (refine KL.v rfl (Val.loadP rfl rfl (Sees.sl0 (Sli.own byTakeL (by assumption) byLen) (by assumption) rfl)) ?_)
    (refine KL.v rfl (Val.assign rfl) ?_)
    refine KL.nil ?_
    refine KE.next ?_
    (rw [smH_app (sm := sm)])
    refine K.region ?_
    (refine KL.v rfl (Val.move rfl) ?_)
    (refine KL.v rfl (Val.move rfl) ?_)
    (refine KL.v rfl (Val.nilCheck rfl) ?_)
    (refine KL.v rfl (Val.fieldAddr0 (k := 3) rfl rfl) ?_)
    (refine KL.v rfl (Val.loadP rfl rfl (Sees.cell byTake rfl)) ?_)
    (refine KL.v rfl (Val.move rfl) ?_)
    (refine KL.v rfl (Val.lookS rfl rfl rfl byTake (by assumption)) ?_)
    (refine KL.v rfl (Val.field (k := 2) rfl rfl rfl rfl rfl) ?_)
    (refine KL.v rfl (Val.add rfl rfl (by simp only [Go.Proofs.YthamkgghnjenhaaGreat.lo, Go.Proofs.YthamkgghnjenhaaGreat.hi]; omega)) ?_)
    (refine KL.v rfl (Val.assign rfl) ?_)
    refine KL.nil ?_
    refine KE.blkN ?_
    refine KE.next ?_
    refine K.region ?_
    (refine KL.v rfl (Val.add rfl rfl (by simp only [Go.Proofs.YthamkgghnjenhaaGreat.lo, Go.Proofs.YthamkgghnjenhaaGreat.hi]; omega)) ?_)
    (refine KL.v rfl (Val.move rfl) ?_)
    refine KL.nil ?_
    exact KE.again (k + 1) (by rw [hnx]; exact bySub) byPart (by omega) (by omega)
  · have hkl : (objsP sm.st).take k = objsP sm.st := List.take_of_length_le (by omega)
    rw [hkl]
    refine K.seq ?_
    refine K.region ?_
    (refine KL.v rfl (Val.isF (Val.lss rfl rfl) byLt) ?_)
    refine KL.nil ?_
    refine KE.next ?_
    refine K.seq ?_
    refine K.condF rfl ?_
    refine K.exit ?_
    refine KE.passX ?_
    refine KE.passX ?_
    refine KE.blkX ?_
    refine KE.next ?_
    refine K.seq ?_
    refine K.region ?_
    (refine KL.v rfl (Val.move rfl) ?_)
    (refine KL.v rfl (Val.assign rfl) ?_)
    refine KL.nil ?_
    refine KE.next ?_
    refine K.ret ?_
    exact KE.fin byMarks rfl byRes byPart ⟨rfl, rfl⟩

/-- an object that was told, in memory of its own -/
theorem ObjectY_K {w0 : World} {F : Heap} {sm : SM} (ok : SOk sm) {n : Int} {x : Th} (hx : tf sm.ts n = some x) (hr : x.refs.length ≤ 1000 ∧ x.words.length ≤ 1000) :
    Call Tryz.prog w0 36 [.pointer (some ⟨sm.b, 0, none⟩), .int .i64 n] (smH sm ++ F)
      (fun r H' => ∃ o1 o2, oOk iE x.refs o1 ∧ oOk uE x.words o2 ∧ r = .tuple [tV x o1 o2, .int .i64 0].toArray ∧ H' = oH iE 3 x.refs o1 ++ (oH uE 40 x.words o2 ++ (smH sm ++ F))) := by
  obtain ⟨A, t, B, hts, htk, rfl, hA, hg⟩ := tf_split hx
  have hto : tOk t := ok.ts t (by rw [hts]; simp)
  obtain ⟨ht1, ht2⟩ := hto
  refine Call.enter2 (n := 25) (by kernel_rfl) Tryz.func36 rfl rfl rfl ?_
  rw [hts] at hg
  unfold tV at hg
  (rw [smH_mapp hts])
  refine K.seq ?_
  refine K.region ?_
  (refine KL.e rfl (Eff.alloc rfl) ?_; rintro _ _ ⟨b4, rfl, rfl⟩)
  (refine KL.v rfl (Val.assign rfl) ?_)
  refine KL.nil ?_
  refine KE.next ?_
  refine K.seq ?_
  refine K.seq ?_
  refine K.region ?_
  (refine KL.v rfl (Val.move rfl) ?_)
  (refine KL.callc rfl rfl byEvL fun T hT => ?_)
  (refine (CallV.fn (noneR_K (bt := some _) (Sees.cell byTake rfl))).mono ?_; rintro _ _ ⟨rfl, rfl⟩)
  (refine hT _ _ ?_; clear hT; clear T)
  refine KL.nil ?_
  refine KE.next ?_
  refine K.condF rfl ?_
  refine K.skip ?_
  refine KE.next ?_
  refine K.seq ?_
  refine K.region ?_
  (refine KL.v rfl (Val.move rfl) ?_)
  (refine KL.v rfl (Val.nilCheck rfl) ?_)
  (refine KL.v rfl (Val.fieldAddr0 (k := 3) rfl rfl) ?_)
  (refine KL.v rfl (Val.loadP rfl rfl (Sees.cell byTake rfl)) ?_)
  (refine KL.v rfl (Val.move rfl) ?_)
  (refine KL.v rfl (Val.lookOS rfl rfl rfl byTake (by assumption)) ?_)
  (refine KL.v rfl (Val.move rfl) ?_)
  (refine KL.v rfl (Val.extract rfl rfl) ?_)
  (refine KL.v rfl (Val.extract rfl rfl) ?_)
  (refine KL.e rfl (Eff.alloc rfl) ?_; rintro _ _ ⟨b6, rfl, rfl⟩)
  (refine KL.eN (Eff.storeAL rfl rfl rfl byTake byLay byOnes) ?_; rintro _ _ rfl)
  (refine KL.v rfl (Val.assign rfl) ?_)
  refine KL.nil ?_
  refine KE.next ?_
  refine K.seq ?_
  refine K.seq ?_
  refine K.region ?_
  (refine KL.v rfl (Val.move rfl) ?_)
  (refine KL.v rfl (Val.notT rfl) ?_)
  refine KL.nil ?_
  refine KE.next ?_
  refine K.condF rfl ?_
  refine K.skip ?_
  refine KE.next ?_
  refine K.seq ?_
  refine K.region ?_
  (refine KL.v rfl (Val.loadA rfl rfl rfl bySeeN) ?_)
  (refine KL.callc rfl rfl byEvL fun T hT => ?_)
  refine (CallV.pure fun w hw => CallV.fn (own_K ((Sli.own byTakeL ht1 rfl) w hw) ((Sli.own byTakeL ht2 rfl) w hw) (by omega) (by omega))).mono ?_
  rintro _ _ ⟨_, ⟨o1, o2, k1, k2, rfl, rfl⟩, rfl⟩
  refine hT _ _ ?_; clear hT; clear T
  simp only [List.append_assoc]
  (refine KL.eN (Eff.storeAL rfl rfl rfl byTake byLay byOnes) ?_; rintro _ _ rfl)
  (refine KL.v rfl (Val.assign rfl) ?_)
  refine KL.nil ?_
  refine KE.next ?_
  refine K.ret ?_
  exact KE.fin byMarks rfl byRes (by first | exact byPart | (rw [smH_mapp hts]; exact byPart)) ⟨o1, o2, k1, k2, rfl, rfl⟩
theorem ObjectN_K {w0 : World} {F : Heap} {sm : SM} {n : Int} (hx : tf sm.ts n = none) :
    Call Tryz.prog w0 36 [.pointer (some ⟨sm.b, 0, none⟩), .int .i64 n] (smH sm ++ F)
      (fun r H' => r = .tuple [.agg [.slice none 0 0, .slice none 0 0, .int .i64 0, .int .i64 0].toArray, .int .i64 7].toArray ∧ H' = smH sm ++ F) := by
  have hg : mget (sm.ts.map tE) n = none := by
    rw [mget_tE]
    unfold tf at hx
    rw [Option.map_eq_none_iff] at hx
    rw [hx]; rfl
  refine Call.enter2 (n := 25) (by kernel_rfl) Tryz.func36 rfl rfl rfl ?_
  (rw [smH_app (sm := sm)])
  refine K.seq ?_
  refine K.region ?_
  (refine KL.e rfl (Eff.alloc rfl) ?_; rintro _ _ ⟨b4, rfl, rfl⟩)
  (refine KL.v rfl (Val.assign rfl) ?_)
  refine KL.nil ?_
  refine KE.next ?_
  refine K.seq ?_
  refine K.seq ?_
  refine K.region ?_
  (refine KL.v rfl (Val.move rfl) ?_)
  (refine KL.callc rfl rfl byEvL fun T hT => ?_)
  (refine (CallV.fn (noneR_K (bt := some _) (Sees.cell byTake rfl))).mono ?_; rintro _ _ ⟨rfl, rfl⟩)
  (refine hT _ _ ?_; clear hT; clear T)
  refine KL.nil ?_
  refine KE.next ?_
  refine K.condF rfl ?_
  refine K.skip ?_
  refine KE.next ?_
  refine K.seq ?_
  refine K.region ?_
  (refine KL.v rfl (Val.move rfl) ?_)
  (refine KL.v rfl (Val.nilCheck rfl) ?_)
  (refine KL.v rfl (Val.fieldAddr0 (k := 3) rfl rfl) ?_)
  (refine KL.v rfl (Val.loadP rfl rfl (Sees.cell byTake rfl)) ?_)
  (refine KL.v rfl (Val.move rfl) ?_)
  (refine KL.v rfl (Val.lookO0 rfl rfl rfl rfl byTake (by assumption)) ?_)
  (refine KL.v rfl (Val.move rfl) ?_)
  (refine KL.v rfl (Val.extract rfl rfl) ?_)
  (refine KL.v rfl (Val.extract rfl rfl) ?_)
  (refine KL.e rfl (Eff.alloc rfl) ?_; rintro _ _ ⟨b6, rfl, rfl⟩)
  (refine KL.eN (Eff.storeAL rfl rfl rfl byTake byLay byOnes) ?_; rintro _ _ rfl)
  (refine KL.v rfl (Val.assign rfl) ?_)
  refine KL.nil ?_
  refine KE.next ?_
  refine K.seq ?_
  refine K.seq ?_
  refine K.region ?_
  (refine KL.v rfl (Val.move rfl) ?_)
  (refine KL.v rfl (Val.notF rfl) ?_)
  refine KL.nil ?_
  refine KE.next ?_
  refine K.condT rfl ?_
  refine K.seq ?_
  refine K.region ?_
  (refine KL.v rfl (Val.build byParts rfl rfl byFill) ?_)
  (refine KL.eN (Eff.storeAL rfl rfl rfl byTake byLay byOnes) ?_; rintro _ _ rfl)
  (refine KL.v rfl (Val.assign rfl) ?_)
  refine KL.nil ?_
  refine KE.next ?_
  refine K.ret ?_
  refine KE.passR ?_
  exact KE.fin byMarks rfl byRes byPart ⟨rfl, rfl⟩
end Go.Proofs.YthamkgghnjenhaaGreat
namespace Go.Proofs.YthamkgghnjenhaaGreat
open Go.RowKit
set_option linter.unusedVariables false
set_option linter.unusedSimpArgs false

theorem hf_snoc {hs : List HdS} {k v : Int} {n : Nat} (h : ∀ e ∈ hs, e.k ≠ k) : hf (hs ++ [⟨k, v, n⟩]) = fun j => if j = k then some v else hf hs j := by
  funext j
  unfold hf
  rw [List.find?_append]
  by_cases hj : j = k
  · subst hj
    have : hs.find? (fun e => j == e.k) = none := by
      rw [List.find?_eq_none]
      intro e he; simp; exact fun e' => h e he e'.symm
    rw [this]; simp
  · rw [if_neg hj]
    have : ([⟨k, v, n⟩] : List HdS).find? (fun e => j == e.k) = none := by simp [hj]
    rw [this]; cases hs.find? (fun e => j == e.k) <;> rfl
theorem tf_snoc {ts : List ThS} {t : ThS} (h : ∀ e ∈ ts, e.k ≠ t.k) : tf (ts ++ [t]) = fun j => if j = t.k then some t.x else tf ts j := by
  funext j
  unfold tf
  rw [List.find?_append]
  by_cases hj : j = t.k
  · subst hj
    have : ts.find? (fun e => t.k == e.k) = none := by
      rw [List.find?_eq_none]
      intro e he; simp; exact fun e' => h e he e'.symm
    rw [this]; simp
  · rw [if_neg hj]
    have : ([t] : List ThS).find? (fun e => j == e.k) = none := by simp [hj]
    rw [this]; cases ts.find? (fun e => j == e.k) <;> rfl
theorem tf_mid {A B : List ThS} {t t' : ThS} (hk : t'.k = t.k) (h : ∀ e ∈ A, e.k ≠ t.k) : tf (A ++ t' :: B) = fun j => if j = t.k then some t'.x else tf (A ++ t :: B) j := by
  funext j
  unfold tf
  rw [List.find?_append, List.find?_append]
  by_cases hj : j = t.k
  · subst hj
    have : A.find? (fun e => t.k == e.k) = none := by
      rw [List.find?_eq_none]
      intro e he; simp; exact fun e' => h e he e'.symm
    rw [this]; simp [List.find?_cons, hk]
  · rw [if_neg hj]
    have h1 : (j == t.k) = false := by simp [hj]
    have h2 : (j == t'.k) = false := by rw [hk]; exact h1
    rw [List.find?_cons, List.find?_cons, h1, h2]
theorem hf_filter (hs : List HdS) (k : Int) : hf (hs.filter fun e => !(k == e.k)) = fun j => if j = k then none else hf hs j := by
  funext j
  by_cases hj : j = k
  · rw [if_pos hj, hf_none]
    intro t ht
    have := (List.mem_filter.1 ht).2
    simp at this
    rw [hj]; exact fun e => this e.symm
  · rw [if_neg hj]
    unfold hf
    induction hs with
    | nil => rfl
    | cons e l ih =>
      rw [List.filter_cons]
      by_cases he : k = e.k
      · have h1 : (!(k == e.k)) = false := by simp [he]
        have h2 : (j == e.k) = false := by simp; omega
        rw [h1, List.find?_cons, h2]; exact ih
      · have h1 : (!(k == e.k)) = true := by simp [he]
        rw [h1, if_pos rfl, List.find?_cons, List.find?_cons]
        cases j == e.k
        · exact ih
        · rfl
theorem tf_filter {ts : List ThS} (hn : (ts.map (·.k)).Nodup) (p : Int → Bool) : tf (ts.filter fun t => p t.k) = fun j => if p j then tf ts j else none := by
  funext j
  by_cases hj : p j = true
  · rw [if_pos hj]
    clear hn
    unfold tf
    induction ts with
    | nil => rfl
    | cons t l ih =>
      rw [List.filter_cons]
      by_cases hp : p t.k = true
      · rw [if_pos hp, List.find?_cons, List.find?_cons]
        cases j == t.k
        · exact ih
        · rfl
      · have h2 : (j == t.k) = false := by simp; intro e; subst e; exact hp hj
        rw [if_neg hp, List.find?_cons, h2]; exact ih
  · rw [if_neg hj, tf_none]
    intro t ht e
    have := (List.mem_filter.1 ht).2
    rw [e] at this
    exact hj this
theorem mdel_hE (hs : List HdS) (k : Int) : mdel (hs.map hE) k = (hs.filter fun e => !(k == e.k)).map hE := by
  unfold mdel
  rw [List.filter_map]; rfl
theorem mdel_tE (ts : List ThS) (k : Int) : mdel (ts.map tE) k = (ts.filter fun e => !(k == e.k)).map tE := by
  unfold mdel
  rw [List.filter_map]; rfl

/-! ## a new handle -/
def addH (sm : SM) (k v : Int) : SM := { sm with hs := sm.hs ++ [⟨k, v, sm.ch⟩], ch := sm.ch + 1 }
theorem addH_ok {sm : SM} (ok : SOk sm) {k v : Int} (h : hf sm.hs k = none) : SOk (addH sm k v) := by
  have hk : ∀ e ∈ sm.hs.map hE, e.k ≠ k := fun e he => by
    obtain ⟨q, hq, rfl⟩ := List.mem_map.1 he
    exact hf_none.1 h q hq
  have := ok.mh.put k (.int .i64 v)
  have hp := mput_new (v := .int .i64 v) (c := sm.ch) hk
  rw [hp.1, hp.2] at this
  exact ⟨ok.mt, by show MOk ((sm.hs ++ [(⟨k, v, sm.ch⟩ : HdS)]).map hE) (sm.ch + 1); rw [List.map_append]; exact this, ok.oc, ok.ts⟩
theorem addH_put {sm : SM} {k v : Int} (h : hf sm.hs k = none) : mput (sm.hs.map hE) sm.ch k (.int .i64 v) = (sm.hs ++ [(⟨k, v, sm.ch⟩ : HdS)]).map hE ∧ mclk (sm.hs.map hE) sm.ch k = sm.ch + 1 := by
  have hk : ∀ e ∈ sm.hs.map hE, e.k ≠ k := fun e he => by
    obtain ⟨q, hq, rfl⟩ := List.mem_map.1 he
    exact hf_none.1 h q hq
  rw [List.map_append]
  exact mput_new hk
/-! ## a new object -/
def addT (sm : SM) (k : Int) (x : Th) (o1 o2 : Own) : SM := { sm with ts := sm.ts ++ [⟨k, x, o1, o2, sm.ct⟩], ct := sm.ct + 1 }
theorem addT_ok {sm : SM} (ok : SOk sm) {k : Int} {x : Th} {o1 o2 : Own} (h : tf sm.ts k = none) (h1 : oOk iE x.refs o1) (h2 : oOk uE x.words o2) : SOk (addT sm k x o1 o2) := by
  have hk : ∀ e ∈ sm.ts.map tE, e.k ≠ k := fun e he => by
    obtain ⟨q, hq, rfl⟩ := List.mem_map.1 he
    exact tf_none.1 h q hq
  have := ok.mt.put k (tV x o1 o2)
  have hp := mput_new (v := tV x o1 o2) (c := sm.ct) hk
  rw [hp.1, hp.2] at this
  refine ⟨by show MOk ((sm.ts ++ [(⟨k, x, o1, o2, sm.ct⟩ : ThS)]).map tE) (sm.ct + 1); rw [List.map_append]; exact this, ok.mh, ok.oc, fun t ht => ?_⟩
  rcases List.mem_append.1 (show t ∈ sm.ts ++ [⟨k, x, o1, o2, sm.ct⟩] from ht) with ht | ht
  · exact ok.ts t ht
  · rw [List.mem_singleton.1 ht]; exact ⟨h1, h2⟩
theorem addT_put {sm : SM} {k : Int} {x : Th} {o1 o2 : Own} (h : tf sm.ts k = none) : mput (sm.ts.map tE) sm.ct k (tV x o1 o2) = (sm.ts ++ [(⟨k, x, o1, o2, sm.ct⟩ : ThS)]).map tE ∧ mclk (sm.ts.map tE) sm.ct k = sm.ct + 1 := by
  have hk : ∀ e ∈ sm.ts.map tE, e.k ≠ k := fun e he => by
    obtain ⟨q, hq, rfl⟩ := List.mem_map.1 he
    exact tf_none.1 h q hq
  rw [List.map_append]
  exact mput_new hk
/-! ## an object that is turned -/
def setT (sm : SM) (A : List ThS) (t : ThS) (B : List ThS) : SM := { sm with ts := A ++ t :: B }
theorem setT_ok {sm : SM} (ok : SOk sm) {A B : List ThS} {t t' : ThS} (h : sm.ts = A ++ t :: B) (hk : t'.k = t.k) (hn : t'.n = t.n) (ht : tOk t') : SOk (setT sm A t' B) := by
  have h1 : (A ++ t' :: B).map (fun t => (tE t).k) = (A ++ t :: B).map (fun t => (tE t).k) := by simp [tE, hk]
  have h2 : (A ++ t' :: B).map (fun t => (tE t).n) = (A ++ t :: B).map (fun t => (tE t).n) := by simp [tE, hn]
  obtain ⟨m1, m2, m3⟩ := ok.mt
  rw [h, List.map_map] at m2 m3
  refine ⟨⟨?_, ?_, ?_⟩, ok.mh, ok.oc, fun q hq => ?_⟩
  · intro e he
    show e.n < sm.ct
    have hmem : e.n ∈ (A ++ t' :: B).map (fun t => (tE t).n) := by
      obtain ⟨q, hq, rfl⟩ := List.mem_map.1 (show e ∈ (A ++ t' :: B).map tE from he)
      exact List.mem_map.2 ⟨q, hq, rfl⟩
    rw [h2] at hmem
    obtain ⟨q, hq, e1⟩ := List.mem_map.1 hmem
    rw [← e1]
    exact m1 _ (List.mem_map.2 ⟨q, by rw [h]; exact hq, rfl⟩)
  · show (((A ++ t' :: B).map tE).map (·.n)).Nodup
    rw [List.map_map]; exact (show (A ++ t' :: B).map ((fun e : ME => e.n) ∘ tE) = _ from h2) ▸ m2
  · show (((A ++ t' :: B).map tE).map (·.k)).Nodup
    rw [List.map_map]; exact (show (A ++ t' :: B).map ((fun e : ME => e.k) ∘ tE) = _ from h1) ▸ m3
  · rcases List.mem_append.1 (show q ∈ A ++ t' :: B from hq) with hq | hq
    · exact ok.ts q (by rw [h]; exact List.mem_append_left _ hq)
    · rcases List.mem_cons.1 hq with rfl | hq
      · exact ht
      · exact ok.ts q (by rw [h]; exact List.mem_append_right _ (.tail _ hq))
theorem setT_put {sm : SM} {A B : List ThS} {t t' : ThS} {v : Value} (hA : ∀ e ∈ A, e.k ≠ t.k) (hk : t'.k = t.k) (hn : t'.n = t.n) (hv : v = tV t'.x t'.o1 t'.o2) : mput ((A ++ t :: B).map tE) sm.ct t.k v = (A ++ t' :: B).map tE ∧ mclk ((A ++ t :: B).map tE) sm.ct t.k = sm.ct := by
  have e : tE t' = ⟨t.k, v, t.n⟩ := by rw [hv, ← hk, ← hn]; rfl
  rw [List.map_append, List.map_cons, List.map_append, List.map_cons, e]
  exact mput_mid (A := A.map tE) (B := B.map tE) (k := t.k) (v := tV t.x t.o1 t.o2) (n := t.n) fun e he => by
    obtain ⟨q, hq, rfl⟩ := List.mem_map.1 he
    exact hA q hq
theorem setT_st {sm : SM} {A B : List ThS} {t t' : ThS} (h : sm.ts = A ++ t :: B) (hA : ∀ e ∈ A, e.k ≠ t.k) (hk : t'.k = t.k) : (setT sm A t' B).st.T = fun j => if j = t.k then some t'.x else sm.st.T j := by
  show tf (A ++ t' :: B) = _
  rw [tf_mid hk hA]
  show _ = fun j => if j = t.k then some t'.x else tf sm.ts j
  rw [h]

/-! ## the operations -/
structure Sd where
  e : Int
  h : Int
  w : Int
def sdV (r : Sd) : Value := .agg [.int .i64 r.e, .int .i64 r.h, .int .u64 r.w].toArray
structure OpP where
  code : Int
  h : Int
  a : Int
  b : Int
  v : Int
  to : Int
def opV (op : OpP) : Value := .agg [.int .u8 op.code, .int .i64 op.h, .int .i64 op.a, .int .i64 op.b, .int .u64 op.v, .int .i64 op.to].toArray
def mintP (S : St) (id : Int) : St × Sd :=
  if S.caps ≤ ((handsP S).length : Nat) then (S, ⟨131, 0, 0⟩)
  else ({ S with minted := S.minted + 1, Hd := fun h => if h = (S.minted : Int) + 1 then some id else S.Hd h }, ⟨0, (S.minted : Int) + 1, 0⟩)
def setTP (S : St) (i : Int) (x : Th) : St := { S with T := fun j => if j = i then some x else S.T j }
def newTh (a b size : Int) : Th := ⟨List.replicate a.toNat 0, List.replicate b.toNat 0, size, 0⟩
def allocP (S : St) (op : OpP) : St × Sd :=
  if mayP 0 op.a op.b = true ∧ (roundP S.cl (op.a + op.b + 1)).2 = 0 then
    if usedP S + (roundP S.cl (op.a + op.b + 1)).1 > S.quota then (S, ⟨100, 0, 0⟩)
    else if (mintP S ((S.made : Int) + 1)).2.e = 0 then
      ({ (mintP S ((S.made : Int) + 1)).1 with made := S.made + 1, T := fun j => if j = (S.made : Int) + 1 then some (newTh op.a op.b (roundP S.cl (op.a + op.b + 1)).1) else S.T j }, (mintP S ((S.made : Int) + 1)).2)
    else (S, (mintP S ((S.made : Int) + 1)).2)
  else (S, ⟨50, 0, 0⟩)
/-- may a field be? -/
def fieldP (x : Th) (a : Int) : Bool := decide (0 ≤ a ∧ a < (x.refs.length + x.words.length : Nat))
def readP (S : St) (x : Th) (op : OpP) : St × Sd :=
  if fieldP x op.a then
    if op.a < (x.refs.length : Nat) then
      if (x.refs[op.a.toNat]?).getD 0 = 0 then (S, ⟨0, 0, 0⟩) else mintP S ((x.refs[op.a.toNat]?).getD 0)
    else (S, ⟨0, 0, (x.words[op.a.toNat - x.refs.length]?).getD 0⟩)
  else (S, ⟨110, 0, 0⟩)
/-- the store ahead of a sweep, what is said; is there a sweep? -/
def writeP (S : St) (id : Int) (x : Th) (op : OpP) : St × Sd × Bool :=
  if fieldP x op.a then
    if op.a < (x.refs.length : Nat) then
      if op.to = 0 then (setTP S id { x with refs := x.refs.set op.a.toNat 0 }, ⟨0, 0, 0⟩, true)
      else match S.Hd op.to with
        | some i => (setTP S id { x with refs := x.refs.set op.a.toNat i }, ⟨0, 0, 0⟩, true)
        | none => (S, ⟨130, 0, 0⟩, false)
    else (setTP S id { x with words := x.words.set (op.a.toNat - x.refs.length) op.v }, ⟨0, 0, 0⟩, false)
  else (S, ⟨110, 0, 0⟩, false)
def pinP (S : St) (id : Int) (x : Th) (more : Int) : St × Sd :=
  if 0 ≤ x.pins + more ∧ x.pins + more ≤ 255 then (setTP S id { x with pins := x.pins + more }, ⟨0, 0, 0⟩) else (S, ⟨140, 0, 0⟩)
def dropP (S : St) (h : Int) : St := { S with Hd := fun j => if j = h then none else S.Hd j }
def stay (p : St × Sd) : St × Sd × Bool := (p.1, p.2, false)
def stepP (S : St) (op : OpP) : St × Sd × Bool :=
  if op.code < 1 ∨ op.code > 7 then (S, ⟨250, 0, 0⟩, false)
  else if op.code = 1 then stay (allocP S op)
  else match S.Hd op.h with
    | none => (S, ⟨130, 0, 0⟩, false)
    | some id => match S.T id with
      | none => (S, ⟨0, 0, 0⟩, false)
      | some x =>
        if op.code = 2 then stay (readP S x op)
        else if op.code = 3 then writeP S id x op
        else if op.code = 4 then stay (pinP S id x 1)
        else if op.code = 5 then stay (pinP S id x (-1))
        else if op.code = 6 then (dropP S op.h, ⟨0, 0, 0⟩, true)
        else (S, ⟨0, 0, sumP x.words⟩, false)
/-- what is not reached is gone -/
structure Swept (S S' : St) : Prop where
  cl : S'.cl = S.cl
  quota : S'.quota = S.quota
  caps : S'.caps = S.caps
  made : S'.made = S.made
  minted : S'.minted = S.minted
  Hd : S'.Hd = S.Hd
  T : ∀ i x, S'.T i = some x ↔ S.T i = some x ∧ Rch S i
/-- an operation: the store ahead, behind; what is said -/
def DoR (S : St) (op : OpP) (S' : St) (r : Sd) : Prop := (stepP S op).2.1 = r ∧ if (stepP S op).2.2 then Swept (stepP S op).1 S' else S' = (stepP S op).1
end Go.Proofs.YthamkgghnjenhaaGreat
namespace Go.Proofs.YthamkgghnjenhaaGreat
open Go.RowKit
set_option linter.unusedVariables false
set_option linter.unusedSimpArgs false
set_option maxRecDepth 10000

def mintM (sm : SM) (id : Int) : SM := ⟨sm.b, sm.bt, sm.bh, sm.cl, sm.oc, sm.quota, sm.caps, sm.ts, sm.ct, sm.hs ++ [⟨(sm.minted : Int) + 1, id, sm.ch⟩], sm.ch + 1, sm.made, sm.minted + 1⟩
theorem mint_K {w0 : World} {F : Heap} {sm : SM} {id : Int} (ok : SOk sm) (hn : Nums sm.st) (hm : sm.minted ≤ 1000) :
    Call Tryz.prog w0 62 [.pointer (some ⟨sm.b, 0, none⟩), .int .i64 id] (smH sm ++ F)
      (fun r H' => ∃ sm', SOk sm' ∧ sm'.b = sm.b ∧ sm'.st = (mintP sm.st id).1 ∧ r = sdV (mintP sm.st id).2 ∧ H' = smH sm' ++ F) := by
  have hl := hs_len ok hn
  have hll : ((sm.hs.map hE).length : Int) = ((handsP sm.st).length : Nat) := by rw [List.length_map, hl]
  have hnew : hf sm.hs ((sm.minted : Int) + 1) = none := by
    cases h : hf sm.hs ((sm.minted : Int) + 1) with
    | none => rfl
    | some i => have := hn.h _ _ h; have : sm.st.minted = sm.minted := rfl; omega
  refine Call.enter2 (n := 37) (by kernel_rfl) Tryz.func62 rfl rfl rfl ?_
  (rw [smH_app (sm := sm)])
  refine K.seq ?_
  refine K.region ?_
  (refine KL.e rfl (Eff.alloc rfl) ?_; rintro _ _ ⟨b4, rfl, rfl⟩)
  refine KL.nil ?_
  refine KE.next ?_
  refine K.seq ?_
  refine K.seq ?_
  refine K.drawn [] [(0, 0), (1, 0), (2, 0), (3, 0), (4, 0), (5, 0), (6, 0), (7, 0), (8, 0), (9, 0)] (by kernel_rfl) (by kernel_rfl) (by kernel_rfl) (by kernel_rfl) (by kernel_rfl) (by kernel_rfl) Part.nil ?_
  refine KD.v0 rfl rfl (Val.move rfl) ?_
  refine KD.v0 rfl rfl (Val.nilCheck rfl) ?_
  refine KD.v0 rfl rfl (Val.fieldAddr0 (k := 4) rfl rfl) ?_
  refine KD.v0 rfl rfl (Val.loadP rfl rfl (Sees.cell byTake rfl)) ?_
  refine KD.v0 rfl rfl (Val.lenMp rfl rfl byTake) ?_
  refine KD.v0 rfl rfl (Val.move rfl) ?_
  refine KD.v0 rfl rfl (Val.nilCheck rfl) ?_
  refine KD.v0 rfl rfl (Val.fieldAddr0 (k := 2) rfl rfl) ?_
  refine KD.v0 rfl rfl (Val.loadP rfl rfl (Sees.cell byTake rfl)) ?_
  refine KD.v0 rfl rfl (Val.geq rfl rfl) ?_
  refine KD.nil ?_
  refine KE.next ?_
  by_cases hc : sm.caps ≤ ((sm.hs.map hE).length : Int)
  · have hp : mintP sm.st id = (sm.st, ⟨131, 0, 0⟩) := by unfold mintP; rw [if_pos (by rw [← hll]; exact hc)]
    refine K.condP rfl byLt ?_
    refine K.seq ?_
    refine K.region ?_
    (refine KL.v rfl (Val.build byParts rfl rfl byFill) ?_)
    (refine KL.eN (Eff.storeAL rfl rfl rfl byTake byLay byOnes) ?_; rintro _ _ rfl)
    refine KL.nil ?_
    refine KE.next ?_
    refine K.ret ?_
    refine KE.passR ?_
    exact KE.fin byMarks rfl byRes byPart ⟨sm, ok, rfl, by rw [hp], by rw [hp]; rfl, rfl⟩
  · have hp : mintP sm.st id = ((mintM sm id).st, ⟨0, (sm.minted : Int) + 1, 0⟩) := by
      unfold mintP
      rw [if_neg (by rw [← hll]; exact hc)]
      have e := hf_snoc (v := id) (n := sm.ch) (hf_none.1 hnew)
      simp only [SM.st, mintM, e]; rfl
    have hok := addH_ok ok (v := id) hnew
    refine K.condN rfl byLt ?_
    refine K.skip ?_
    refine KE.next ?_
    refine K.seq ?_
    refine K.region ?_
    (refine KL.v rfl (Val.move rfl) ?_)
    (refine KL.v rfl (Val.nilCheck rfl) ?_)
    (refine KL.v rfl (Val.fieldAddr0 (k := 6) rfl rfl) ?_)
    (refine KL.v rfl (Val.loadP rfl rfl (Sees.cell byTake rfl)) ?_)
    (refine KL.v rfl (Val.add rfl rfl (by simp only [Go.Proofs.YthamkgghnjenhaaGreat.lo, Go.Proofs.YthamkgghnjenhaaGreat.hi]; omega)) ?_)
    (refine KL.v rfl (Val.nilCheck rfl) ?_)
    (refine KL.v rfl (Val.fieldAddr0 (k := 6) rfl rfl) ?_)
    (refine KL.eN (Eff.storeL rfl rfl byOne rfl byTake bySetAt) ?_; rintro _ _ rfl)
    refine KL.nil ?_
    refine KE.next ?_
    refine K.seq ?_
    refine K.drawn [] [(0, 0), (1, 0), (2, 0), (3, 0), (4, 0), (5, 0), (6, 0), (7, 0), (8, 0), (9, 2)] (by kernel_rfl) (by kernel_rfl) (by kernel_rfl) (by kernel_rfl) (by kernel_rfl) (by kernel_rfl) Part.nil ?_
    refine KD.v0 rfl rfl (Val.move rfl) ?_
    refine KD.v0 rfl rfl (Val.nilCheck rfl) ?_
    refine KD.v0 rfl rfl (Val.fieldAddr0 (k := 4) rfl rfl) ?_
    refine KD.v0 rfl rfl (Val.loadP rfl rfl (Sees.cell byTake rfl)) ?_
    refine KD.v0 rfl rfl (Val.move rfl) ?_
    refine KD.v0 rfl rfl (Val.nilCheck rfl) ?_
    refine KD.v0 rfl rfl (Val.fieldAddr0 (k := 6) rfl rfl) ?_
    refine KD.v0 rfl rfl (Val.loadP rfl rfl (Sees.cell byTake rfl)) ?_
    refine KD.v0 rfl rfl (Val.move rfl) ?_
    (refine KD.eN rfl (Eff.mapUp rfl rfl rfl rfl byTake) ?_; rintro _ _ rfl; refine ⟨byPart, ?_⟩)
    refine KD.nil ?_
    refine KE.next ?_
    rw [(addH_put (v := id) hnew).1, (addH_put (v := id) hnew).2]
    refine K.seq ?_
    refine K.region ?_
    (refine KL.v rfl (Val.move rfl) ?_)
    (refine KL.v rfl (Val.nilCheck rfl) ?_)
    (refine KL.v rfl (Val.fieldAddr0 (k := 6) rfl rfl) ?_)
    (refine KL.v rfl (Val.loadP rfl rfl (Sees.cell byTake rfl)) ?_)
    (refine KL.v rfl (Val.build byParts rfl rfl byFill) ?_)
    (refine KL.eN (Eff.storeAL rfl rfl rfl byTake byLay byOnes) ?_; rintro _ _ rfl)
    refine KL.nil ?_
    refine KE.next ?_
    refine K.ret ?_
    exact KE.fin byMarks rfl byRes byPart ⟨mintM sm id, ⟨hok.mt, hok.mh, hok.oc, hok.ts⟩, rfl, by rw [hp], by rw [hp]; rfl, rfl⟩

/-- where an object stands in the map -/
structure AtS (sm : SM) (id : Int) (A : List ThS) (t : ThS) (B : List ThS) : Prop where
  eq : sm.ts = A ++ t :: B
  k : t.k = id
  na : ∀ e ∈ A, e.k ≠ t.k
  g : mget ((A ++ t :: B).map tE) id = some (.agg [oV t.o1 t.x.refs.length, oV t.o2 t.x.words.length, .int .i64 t.x.size, .int .i64 t.x.pins].toArray)
theorem at_of {sm : SM} {id : Int} {x : Th} (h : tf sm.ts id = some x) : ∃ A t B, AtS sm id A t B ∧ t.x = x := by
  obtain ⟨A, t, B, hts, htk, htx, hA, hg⟩ := tf_split h
  refine ⟨A, t, B, ⟨hts, htk, by rw [htk]; exact hA, ?_⟩, htx⟩
  rw [← hts, hg, ← htx]; rfl
theorem AtS.ok {sm : SM} {id : Int} {A B : List ThS} {t : ThS} (h : AtS sm id A t B) (ok : SOk sm) : oOk iE t.x.refs t.o1 ∧ oOk uE t.x.words t.o2 := ok.ts t (by rw [h.eq]; simp)
theorem AtS.get {sm : SM} {id : Int} {A B : List ThS} {t : ThS} (h : AtS sm id A t B) : tf sm.ts id = some t.x := by
  rw [h.eq, ← h.k, tf_mid (t := t) rfl h.na]; simp
theorem field_K {w0 : World} {F : Heap} {sm : SM} {op : OpP} {id : Int} {A B : List ThS} {t : ThS} (ok : SOk sm) (hh : hf sm.hs op.h = some id) (hA : AtS sm id A t B) (hr : t.x.refs.length ≤ 1000 ∧ t.x.words.length ≤ 1000) :
    Call Tryz.prog w0 63 [.pointer (some ⟨sm.b, 0, none⟩), opV op] (smH sm ++ F)
      (fun r H' => r = .tuple [.agg [oV t.o1 t.x.refs.length, oV t.o2 t.x.words.length, .int .i64 t.x.size, .int .i64 t.x.pins].toArray, .bool (fieldP t.x op.a && decide (op.a < (t.x.refs.length : Nat))), .int .i64 (errB (fieldP t.x op.a) 110)].toArray ∧ H' = smH sm ++ F) := by
  obtain ⟨k1, k2⟩ := hA.ok ok
  have hmh : mget (sm.hs.map hE) op.h = some (.int .i64 id) := by rw [mget_hE, hh]; rfl
  have hg := hA.g
  unfold opV
  refine Call.enter2 (n := 42) (by kernel_rfl) Tryz.func63 rfl rfl rfl ?_
  (rw [smH_mapp hA.eq])
  refine K.seq ?_
  refine K.region ?_
  (refine KL.e rfl (Eff.box rfl rfl) ?_; rintro _ _ ⟨b3, rfl, rfl⟩)
  (refine KL.e rfl (Eff.alloc rfl) ?_; rintro _ _ ⟨b4, rfl, rfl⟩)
  (refine KL.v rfl (Val.assign rfl) ?_)
  (refine KL.v rfl (Val.assign rfl) ?_)
  refine KL.nil ?_
  refine KE.next ?_
  refine K.seq ?_
  refine K.drawn [] [(0, 0), (1, 0), (2, 0), (3, 0), (4, 0), (5, 0), (6, 0), (7, 0), (8, 0), (9, 0), (10, 0), (11, 0), (12, 2)] (by kernel_rfl) (by kernel_rfl) (by kernel_rfl) (by kernel_rfl) (by kernel_rfl) (by kernel_rfl) Part.nil ?_
  refine KD.v0 rfl rfl (Val.move rfl) ?_
  refine KD.v0 rfl rfl (Val.nilCheck rfl) ?_
  refine KD.v0 rfl rfl (Val.fieldAddr0 (k := 3) rfl rfl) ?_
  refine KD.v0 rfl rfl (Val.loadP rfl rfl (Sees.cell byTake rfl)) ?_
  refine KD.v0 rfl rfl (Val.move rfl) ?_
  refine KD.v0 rfl rfl (Val.nilCheck rfl) ?_
  refine KD.v0 rfl rfl (Val.fieldAddr0 (k := 4) rfl rfl) ?_
  refine KD.v0 rfl rfl (Val.loadP rfl rfl (Sees.cell byTake rfl)) ?_
  refine KD.v0 rfl rfl (Val.fieldAddr0 (k := 1) rfl rfl) ?_
  refine KD.v0 rfl rfl (Val.loadP rfl rfl (Sees.cell byTake rfl)) ?_
  refine KD.v0 rfl rfl (Val.lookS rfl rfl rfl byTake (by assumption)) ?_
  refine KD.v0 rfl rfl (Val.lookS rfl rfl rfl byTake (by assumption)) ?_
  (refine KD.eN rfl (Eff.storeAL rfl rfl rfl byTake byLay byOnes) ?_; rintro _ _ rfl; refine ⟨byPart, ?_⟩)
  refine KD.nil ?_
  refine KE.next ?_
  by_cases h1 : op.a < 0
  · have hf : fieldP t.x op.a = false := by simp [fieldP]; omega
    refine K.seq ?_
    refine K.seq ?_
    refine K.region ?_
    (refine KL.v rfl (Val.fieldAddr0 (k := 2) rfl rfl) ?_)
    (refine KL.v rfl (Val.loadP rfl rfl (Sees.cell byTake rfl)) ?_)
    (refine KL.v rfl (Val.isT (Val.lss rfl rfl) byLt) ?_)
    (refine KL.v rfl (Val.move rfl) ?_)
    refine KL.skipG rfl rfl rfl ?_
    refine KL.skipG rfl rfl rfl ?_
    refine KL.skipG rfl rfl rfl ?_
    refine KL.skipG rfl rfl rfl ?_
    refine KL.skipG rfl rfl rfl ?_
    refine KL.skipG rfl rfl rfl ?_
    refine KL.skipG rfl rfl rfl ?_
    refine KL.skipG rfl rfl rfl ?_
    refine KL.skipG rfl rfl rfl ?_
    refine KL.skipG rfl rfl rfl ?_
    (refine KL.v rfl (Val.pickT rfl rfl rfl) ?_)
    refine KL.nil ?_
    refine KE.next ?_
    refine K.condT rfl ?_
    refine K.seq ?_
    refine K.region ?_
    (refine KL.v rfl (Val.loadA rfl rfl rfl bySeeN) ?_)
    (refine KL.eN (Eff.storeAL rfl rfl rfl byTake byLay byOnes) ?_; rintro _ _ rfl)
    (refine KL.v rfl (Val.assign rfl) ?_)
    (refine KL.v rfl (Val.assign rfl) ?_)
    refine KL.nil ?_
    refine KE.next ?_
    refine K.ret ?_
    refine KE.passR ?_
    exact KE.fin byMarks rfl byRes (by first | exact byPart | (rw [smH_mapp hA.eq]; exact byPart)) ⟨by rw [hf]; rfl, rfl⟩
  by_cases h2 : op.a ≥ (t.x.refs.length : Nat) + (t.x.words.length : Nat)
  · have hf : fieldP t.x op.a = false := by simp [fieldP]; omega
    refine K.seq ?_
    refine K.seq ?_
    refine K.region ?_
    (refine KL.v rfl (Val.fieldAddr0 (k := 2) rfl rfl) ?_)
    (refine KL.v rfl (Val.loadP rfl rfl (Sees.cell byTake rfl)) ?_)
    (refine KL.v rfl (Val.isF (Val.lss rfl rfl) byLt) ?_)
    (refine KL.v rfl (Val.move rfl) ?_)
    (refine KL.yes rfl rfl ?_; refine KL.v rfl (Val.fieldAddr0 (k := 2) rfl rfl) ?_)
    (refine KL.yes rfl rfl ?_; refine KL.v rfl (Val.loadP rfl rfl (Sees.cell byTake rfl)) ?_)
    (refine KL.yes rfl rfl ?_; refine KL.v rfl (Val.fieldAddr0 (k := 0) rfl rfl) ?_)
    (refine KL.yes rfl rfl ?_; refine KL.v rfl (Val.loadP rfl rfl (Sees.cell byTake rfl)) ?_)
    (refine KL.yes rfl rfl ?_; refine KL.v rfl (Val.lenSl rfl rfl (Sli.own byTakeL (by assumption) byLen)) ?_)
    (refine KL.yes rfl rfl ?_; refine KL.v rfl (Val.fieldAddr0 (k := 1) rfl rfl) ?_)
    (refine KL.yes rfl rfl ?_; refine KL.v rfl (Val.loadP rfl rfl (Sees.cell byTake rfl)) ?_)
    (refine KL.yes rfl rfl ?_; refine KL.v rfl (Val.lenSl rfl rfl (Sli.own byTakeL (by assumption) byLen)) ?_)
    (refine KL.yes rfl rfl ?_; refine KL.v rfl (Val.add rfl rfl (by simp only [Go.Proofs.YthamkgghnjenhaaGreat.lo, Go.Proofs.YthamkgghnjenhaaGreat.hi]; omega)) ?_)
    (refine KL.yes rfl rfl ?_; refine KL.v rfl (Val.isT (Val.geq rfl rfl) byLt) ?_)
    (refine KL.v rfl (Val.pickF rfl rfl rfl) ?_)
    refine KL.nil ?_
    refine KE.next ?_
    refine K.condT rfl ?_
    refine K.seq ?_
    refine K.region ?_
    (refine KL.v rfl (Val.loadA rfl rfl rfl bySeeN) ?_)
    (refine KL.eN (Eff.storeAL rfl rfl rfl byTake byLay byOnes) ?_; rintro _ _ rfl)
    (refine KL.v rfl (Val.assign rfl) ?_)
    (refine KL.v rfl (Val.assign rfl) ?_)
    refine KL.nil ?_
    refine KE.next ?_
    refine K.ret ?_
    refine KE.passR ?_
    exact KE.fin byMarks rfl byRes (by first | exact byPart | (rw [smH_mapp hA.eq]; exact byPart)) ⟨by rw [hf]; rfl, rfl⟩
  · have hf : fieldP t.x op.a = true := by simp [fieldP]; omega
    refine K.seq ?_
    refine K.seq ?_
    refine K.region ?_
    (refine KL.v rfl (Val.fieldAddr0 (k := 2) rfl rfl) ?_)
    (refine KL.v rfl (Val.loadP rfl rfl (Sees.cell byTake rfl)) ?_)
    (refine KL.v rfl (Val.isF (Val.lss rfl rfl) byLt) ?_)
    (refine KL.v rfl (Val.move rfl) ?_)
    (refine KL.yes rfl rfl ?_; refine KL.v rfl (Val.fieldAddr0 (k := 2) rfl rfl) ?_)
    (refine KL.yes rfl rfl ?_; refine KL.v rfl (Val.loadP rfl rfl (Sees.cell byTake rfl)) ?_)
    (refine KL.yes rfl rfl ?_; refine KL.v rfl (Val.fieldAddr0 (k := 0) rfl rfl) ?_)
    (refine KL.yes rfl rfl ?_; refine KL.v rfl (Val.loadP rfl rfl (Sees.cell byTake rfl)) ?_)
    (refine KL.yes rfl rfl ?_; refine KL.v rfl (Val.lenSl rfl rfl (Sli.own byTakeL (by assumption) byLen)) ?_)
    (refine KL.yes rfl rfl ?_; refine KL.v rfl (Val.fieldAddr0 (k := 1) rfl rfl) ?_)
    (refine KL.yes rfl rfl ?_; refine KL.v rfl (Val.loadP rfl rfl (Sees.cell byTake rfl)) ?_)
    (refine KL.yes rfl rfl ?_; refine KL.v rfl (Val.lenSl rfl rfl (Sli.own byTakeL (by assumption) byLen)) ?_)
    (refine KL.yes rfl rfl ?_; refine KL.v rfl (Val.add rfl rfl (by simp only [Go.Proofs.YthamkgghnjenhaaGreat.lo, Go.Proofs.YthamkgghnjenhaaGreat.hi]; omega)) ?_)
    (refine KL.yes rfl rfl ?_; refine KL.v rfl (Val.isF (Val.geq rfl rfl) byLt) ?_)
    (refine KL.v rfl (Val.pickF rfl rfl rfl) ?_)
    refine KL.nil ?_
    refine KE.next ?_
    refine K.condF rfl ?_
    refine K.skip ?_
    refine KE.next ?_
    refine K.seq ?_
    refine K.drawn _ [(0, 0), (1, 1), (2, 1), (3, 0), (4, 0), (5, 1), (6, 1), (7, 2), (8, 0), (9, 0)] (by kernel_rfl) (by kernel_rfl) (by kernel_rfl) (by kernel_rfl) (by kernel_rfl) (by kernel_rfl) Part.all ?_
    refine KD.v0 rfl rfl (Val.loadA rfl rfl rfl bySeeN) ?_
    refine KD.v1 rfl rfl (Val.fieldAddr0 (k := 2) rfl rfl) ?_
    refine KD.v1 rfl rfl (Val.loadP rfl rfl (Sees.cell byTake rfl)) ?_
    refine KD.v0 rfl rfl (Val.fieldAddr0 (k := 0) rfl rfl) ?_
    refine KD.v0 rfl rfl (Val.loadP rfl rfl (Sees.cell byTake rfl)) ?_
    refine KD.v1 rfl rfl (Val.lenSl rfl rfl (Sli.own byTakeL (by assumption) byLen)) ?_
    refine KD.v1 rfl rfl (Val.lss rfl rfl) ?_
    (refine KD.eN rfl (Eff.storeAL rfl rfl rfl byTake byLay byOnes) ?_; rintro _ _ rfl; refine ⟨byPart, ?_⟩)
    refine KD.v0 rfl rfl (Val.assign rfl) ?_
    refine KD.v0 rfl rfl (Val.assign rfl) ?_
    refine KD.nil ?_
    refine KE.next ?_
    refine K.ret ?_
    exact KE.fin byMarks rfl byRes (by first | exact byPart | (rw [smH_mapp hA.eq]; exact byPart)) ⟨by rw [hf]; rfl, rfl⟩

theorem read_K {w0 : World} {F : Heap} {sm : SM} {op : OpP} {id : Int} {x : Th} (ok : SOk sm) (hn : Nums sm.st) (hm : sm.minted ≤ 1000) (hh : hf sm.hs op.h = some id) (hx : tf sm.ts id = some x) (hr : x.refs.length ≤ 1000 ∧ x.words.length ≤ 1000) :
    Call Tryz.prog w0 48 [.pointer (some ⟨sm.b, 0, none⟩), opV op] (smH sm ++ F)
      (fun r H' => ∃ sm', SOk sm' ∧ sm'.b = sm.b ∧ sm'.st = (readP sm.st x op).1 ∧ r = sdV (readP sm.st x op).2 ∧ H' = smH sm' ++ F) := by
  obtain ⟨A, t, B, hA, rfl⟩ := at_of hx
  obtain ⟨k1, k2⟩ := hA.ok ok
  have hopv : opV op = .agg [.int .u8 op.code, .int .i64 op.h, .int .i64 op.a, .int .i64 op.b, .int .u64 op.v, .int .i64 op.to].toArray := rfl
  rw [hopv]
  refine Call.enter2 (n := 51) (by kernel_rfl) Tryz.func48 rfl rfl rfl ?_
  refine K.seq ?_
  refine K.region ?_
  (refine KL.e rfl (Eff.box rfl rfl) ?_; rintro _ _ ⟨b3, rfl, rfl⟩)
  (refine KL.e rfl (Eff.alloc rfl) ?_; rintro _ _ ⟨b4, rfl, rfl⟩)
  refine KL.nil ?_
  refine KE.next ?_
  refine K.seq ?_
  refine K.region ?_
  (refine KL.v rfl (Val.move rfl) ?_)
  (refine KL.v rfl (Val.loadA rfl rfl rfl bySeeN) ?_)
  (refine KL.callc rfl rfl byEvL fun T hT => ?_)
  refine (CallV.part (CallV.fn (field_K (op := op) ok hh hA hr)) byPart).mono ?_
  rintro _ _ ⟨rfl, rfl⟩
  cases hf : fieldP t.x op.a with
  | false =>
    have hp : readP sm.st t.x op = (sm.st, ⟨110, 0, 0⟩) := by unfold readP; rw [hf]; rfl
    simp only [hf, Bool.false_and, errB, Bool.false_eq_true, if_false] at hT ⊢
    refine hT _ _ ?_; clear hT; clear T
    (refine KL.v rfl (Val.move rfl) ?_)
    (refine KL.v rfl (Val.extract rfl rfl) ?_)
    (refine KL.v rfl (Val.extract rfl rfl) ?_)
    (refine KL.v rfl (Val.extract rfl rfl) ?_)
    (refine KL.e rfl (Eff.alloc rfl) ?_; rintro _ _ ⟨b5, rfl, rfl⟩)
    (refine KL.eN (Eff.storeAL rfl rfl rfl byTake byLay byOnes) ?_; rintro _ _ rfl)
    (refine KL.v rfl (Val.assign rfl) ?_)
    (refine KL.v rfl (Val.assign rfl) ?_)
    refine KL.nil ?_
    refine KE.next ?_
    refine K.seq ?_
    refine K.block ?_
    refine K.seq ?_
    refine K.region ?_
    (refine KL.v rfl (Val.move rfl) ?_)
    (refine KL.v rfl (Val.isT (Val.neq rfl rfl) byLt) ?_)
    (refine KL.v rfl (Val.assign rfl) ?_)
    refine KL.nil ?_
    refine KE.next ?_
    refine K.condT rfl ?_
    refine K.seq ?_
    refine K.region ?_
    (refine KL.v rfl (Val.move rfl) ?_)
    (refine KL.v rfl (Val.build byParts rfl rfl byFill) ?_)
    (refine KL.eN (Eff.storeAL rfl rfl rfl byTake byLay byOnes) ?_; rintro _ _ rfl)
    refine KL.nil ?_
    refine KE.next ?_
    refine K.ret ?_
    refine KE.blkR ?_
    refine KE.passR ?_
    exact KE.fin byMarks rfl byRes (by first | exact byPart | (rw [smH_mapp hA.eq]; exact byPart)) ⟨sm, ok, rfl, by rw [hp], by rw [hp]; rfl, rfl⟩
  | true =>
    have hf' : 0 ≤ op.a ∧ op.a < (t.x.refs.length + t.x.words.length : Nat) := by simpa [fieldP] using hf
    by_cases h1 : op.a < (t.x.refs.length : Nat)
    · simp only [hf, Bool.true_and, errB, if_true, decide_eq_true h1] at hT ⊢
      obtain ⟨y, hy⟩ := get_of_lt (l := t.x.refs) (k := op.a.toNat) (by omega)
      by_cases h0 : y = 0
      · have hp : readP sm.st t.x op = (sm.st, ⟨0, 0, 0⟩) := by unfold readP; rw [hf, if_pos rfl, if_pos h1, hy, if_pos (by simpa using h0)]
        refine hT _ _ ?_; clear hT; clear T
        (rw [smH_mapp hA.eq])
        (refine KL.v rfl (Val.move rfl) ?_)
        (refine KL.v rfl (Val.extract rfl rfl) ?_)
        (refine KL.v rfl (Val.extract rfl rfl) ?_)
        (refine KL.v rfl (Val.extract rfl rfl) ?_)
        (refine KL.e rfl (Eff.alloc rfl) ?_; rintro _ _ ⟨b5, rfl, rfl⟩)
        (refine KL.eN (Eff.storeAL rfl rfl rfl byTake byLay byOnes) ?_; rintro _ _ rfl)
        (refine KL.v rfl (Val.assign rfl) ?_)
        (refine KL.v rfl (Val.assign rfl) ?_)
        refine KL.nil ?_
        refine KE.next ?_
        refine K.seq ?_
        refine K.block ?_
        refine K.seq ?_
        refine K.region ?_
        (refine KL.v rfl (Val.move rfl) ?_)
        (refine KL.v rfl (Val.isF (Val.neq rfl rfl) byLt) ?_)
        (refine KL.v rfl (Val.assign rfl) ?_)
        refine KL.nil ?_
        refine KE.next ?_
        refine K.condF rfl ?_
        refine K.seq ?_
        refine K.region ?_
        (refine KL.v rfl (Val.move rfl) ?_)
        (refine KL.v rfl (Val.notT rfl) ?_)
        (refine KL.v rfl (Val.assign rfl) ?_)
        refine KL.nil ?_
        refine KE.next ?_
        refine K.condF rfl ?_
        refine K.seq ?_
        refine K.region ?_
        (refine KL.v rfl (Val.fieldAddr0 (k := 0) rfl rfl) ?_)
        (refine KL.v rfl (Val.loadP rfl rfl (Sees.cell byTake rfl)) ?_)
        (refine KL.v rfl (Val.fieldAddr0 (k := 2) rfl rfl) ?_)
        (refine KL.v rfl (Val.loadP rfl rfl (Sees.cell byTake rfl)) ?_)
        (refine KL.v rfl (Val.idxSlZ rfl rfl rfl (Sli.own byTakeL (by assumption) byLen) rfl (by omega)) ?_)
        (refine KL.v rfl (Val.loadP rfl rfl (Sees.sl0 (Sli.own byTakeL (by assumption) byLen) (by assumption) rfl)) ?_)
        (refine KL.v rfl (Val.isT (Val.eql rfl rfl) byLt) ?_)
        (refine KL.v rfl (Val.assign rfl) ?_)
        refine KL.nil ?_
        refine KE.next ?_
        refine K.condT rfl ?_
        refine K.seq ?_
        refine K.region ?_
        (refine KL.v rfl (Val.build byParts rfl rfl byFill) ?_)
        (refine KL.eN (Eff.storeAL rfl rfl rfl byTake byLay byOnes) ?_; rintro _ _ rfl)
        refine KL.nil ?_
        refine KE.next ?_
        refine K.ret ?_
        refine KE.blkR ?_
        refine KE.passR ?_
        exact KE.fin byMarks rfl byRes (by first | exact byPart | (rw [smH_mapp hA.eq]; exact byPart)) ⟨sm, ok, rfl, by rw [hp], by rw [hp]; rfl, rfl⟩
      · have hp : readP sm.st t.x op = mintP sm.st y := by unfold readP; rw [hf, if_pos rfl, if_pos h1, hy, if_neg (by simpa using h0)]; rfl
        refine hT _ _ ?_; clear hT; clear T
        (rw [smH_mapp hA.eq])
        (refine KL.v rfl (Val.move rfl) ?_)
        (refine KL.v rfl (Val.extract rfl rfl) ?_)
        (refine KL.v rfl (Val.extract rfl rfl) ?_)
        (refine KL.v rfl (Val.extract rfl rfl) ?_)
        (refine KL.e rfl (Eff.alloc rfl) ?_; rintro _ _ ⟨b5, rfl, rfl⟩)
        (refine KL.eN (Eff.storeAL rfl rfl rfl byTake byLay byOnes) ?_; rintro _ _ rfl)
        (refine KL.v rfl (Val.assign rfl) ?_)
        (refine KL.v rfl (Val.assign rfl) ?_)
        refine KL.nil ?_
        refine KE.next ?_
        refine K.seq ?_
        refine K.block ?_
        refine K.seq ?_
        refine K.region ?_
        (refine KL.v rfl (Val.move rfl) ?_)
        (refine KL.v rfl (Val.isF (Val.neq rfl rfl) byLt) ?_)
        (refine KL.v rfl (Val.assign rfl) ?_)
        refine KL.nil ?_
        refine KE.next ?_
        refine K.condF rfl ?_
        refine K.seq ?_
        refine K.region ?_
        (refine KL.v rfl (Val.move rfl) ?_)
        (refine KL.v rfl (Val.notT rfl) ?_)
        (refine KL.v rfl (Val.assign rfl) ?_)
        refine KL.nil ?_
        refine KE.next ?_
        refine K.condF rfl ?_
        refine K.seq ?_
        refine K.region ?_
        (refine KL.v rfl (Val.fieldAddr0 (k := 0) rfl rfl) ?_)
        (refine KL.v rfl (Val.loadP rfl rfl (Sees.cell byTake rfl)) ?_)
        (refine KL.v rfl (Val.fieldAddr0 (k := 2) rfl rfl) ?_)
        (refine KL.v rfl (Val.loadP rfl rfl (Sees.cell byTake rfl)) ?_)
        (refine KL.v rfl (Val.idxSlZ rfl rfl rfl (Sli.own byTakeL (by assumption) byLen) rfl (by omega)) ?_)
        (refine KL.v rfl (Val.loadP rfl rfl (Sees.sl0 (Sli.own byTakeL (by assumption) byLen) (by assumption) rfl)) ?_)
        (refine KL.v rfl (Val.isF (Val.eql rfl rfl) byLt) ?_)
        (refine KL.v rfl (Val.assign rfl) ?_)
        refine KL.nil ?_
        refine KE.next ?_
        refine K.condF rfl ?_
        refine K.skip ?_
        refine KE.blkN ?_
        refine KE.next ?_
        refine K.seq ?_
        refine K.region ?_
        (refine KL.v rfl (Val.move rfl) ?_)
        (refine KL.v rfl (Val.fieldAddr0 (k := 0) rfl rfl) ?_)
        (refine KL.v rfl (Val.loadP rfl rfl (Sees.cell byTake rfl)) ?_)
        (refine KL.v rfl (Val.fieldAddr0 (k := 2) rfl rfl) ?_)
        (refine KL.v rfl (Val.loadP rfl rfl (Sees.cell byTake rfl)) ?_)
        (refine KL.v rfl (Val.idxSlZ rfl rfl rfl (Sli.own byTakeL (by assumption) byLen) rfl (by omega)) ?_)
        (refine KL.v rfl (Val.loadP rfl rfl (Sees.sl0 (Sli.own byTakeL (by assumption) byLen) (by assumption) rfl)) ?_)
        (refine KL.callc rfl rfl byEvL fun T hT => ?_)
        refine (CallV.part (CallV.fn (mint_K (id := y) ok hn hm)) (by first | exact byPart | (rw [smH_mapp hA.eq]; exact byPart))).mono ?_
        rintro _ _ ⟨sm', ok', hb', hst', rfl, rfl⟩
        unfold sdV at hT ⊢
        refine hT _ _ ?_; clear hT; clear T
        (refine KL.eN (Eff.storeAL rfl rfl rfl byTake byLay byOnes) ?_; rintro _ _ rfl)
        refine KL.nil ?_
        refine KE.next ?_
        refine K.ret ?_
        exact KE.fin byMarks rfl byRes (by first | exact byPart | (rw [smH_mapp hA.eq]; exact byPart)) ⟨sm', ok', hb', by rw [hst', hp], by rw [hp]; rfl, rfl⟩
    · simp only [hf, Bool.true_and, errB, if_true, decide_eq_false h1] at hT ⊢
      obtain ⟨y, hy⟩ := get_of_lt (l := t.x.words) (k := (op.a - (t.x.refs.length : Nat)).toNat) (by omega)
      have hp : readP sm.st t.x op = (sm.st, ⟨0, 0, y⟩) := by
        unfold readP; rw [hf, if_pos rfl, if_neg h1]
        rw [show op.a.toNat - t.x.refs.length = (op.a - (t.x.refs.length : Nat)).toNat by omega, hy]; rfl
      refine hT _ _ ?_; clear hT; clear T
      (rw [smH_mapp hA.eq])
      (refine KL.v rfl (Val.move rfl) ?_)
      (refine KL.v rfl (Val.extract rfl rfl) ?_)
      (refine KL.v rfl (Val.extract rfl rfl) ?_)
      (refine KL.v rfl (Val.extract rfl rfl) ?_)
      (refine KL.e rfl (Eff.alloc rfl) ?_; rintro _ _ ⟨b5, rfl, rfl⟩)
      (refine KL.eN (Eff.storeAL rfl rfl rfl byTake byLay byOnes) ?_; rintro _ _ rfl)
      (refine KL.v rfl (Val.assign rfl) ?_)
      (refine KL.v rfl (Val.assign rfl) ?_)
      refine KL.nil ?_
      refine KE.next ?_
      refine K.seq ?_
      refine K.block ?_
      refine K.seq ?_
      refine K.region ?_
      (refine KL.v rfl (Val.move rfl) ?_)
      (refine KL.v rfl (Val.isF (Val.neq rfl rfl) byLt) ?_)
      (refine KL.v rfl (Val.assign rfl) ?_)
      refine KL.nil ?_
      refine KE.next ?_
      refine K.condF rfl ?_
      refine K.seq ?_
      refine K.region ?_
      (refine KL.v rfl (Val.move rfl) ?_)
      (refine KL.v rfl (Val.notF rfl) ?_)
      (refine KL.v rfl (Val.assign rfl) ?_)
      refine KL.nil ?_
      refine KE.next ?_
      refine K.condT rfl ?_
      refine K.seq ?_
      refine K.region ?_
      (refine KL.v rfl (Val.fieldAddr0 (k := 1) rfl rfl) ?_)
      (refine KL.v rfl (Val.loadP rfl rfl (Sees.cell byTake rfl)) ?_)
      (refine KL.v rfl (Val.fieldAddr0 (k := 2) rfl rfl) ?_)
      (refine KL.v rfl (Val.loadP rfl rfl (Sees.cell byTake rfl)) ?_)
      (refine KL.v rfl (Val.fieldAddr0 (k := 0) rfl rfl) ?_)
      (refine KL.v rfl (Val.loadP rfl rfl (Sees.cell byTake rfl)) ?_)
      (refine KL.v rfl (Val.lenSl rfl rfl (Sli.own byTakeL (by assumption) byLen)) ?_)
      (refine KL.v rfl (Val.sub rfl rfl (by simp only [Go.Proofs.YthamkgghnjenhaaGreat.lo, Go.Proofs.YthamkgghnjenhaaGreat.hi]; omega)) ?_)
      (refine KL.v rfl (Val.idxSlZ rfl rfl rfl (Sli.own byTakeL (by assumption) byLen) rfl (by omega)) ?_)
      (refine KL.v rfl (Val.loadP rfl rfl (Sees.sl0 (Sli.own byTakeL (by assumption) byLen) (by assumption) rfl)) ?_)
      (refine KL.v rfl (Val.build byParts rfl rfl byFill) ?_)
      (refine KL.eN (Eff.storeAL rfl rfl rfl byTake byLay byOnes) ?_; rintro _ _ rfl)
      refine KL.nil ?_
      refine KE.next ?_
      refine K.ret ?_
      refine KE.blkR ?_
      refine KE.passR ?_
      exact KE.fin byMarks rfl byRes (by first | exact byPart | (rw [smH_mapp hA.eq]; exact byPart)) ⟨sm, ok, rfl, by rw [hp], by rw [hp]; rfl, rfl⟩

theorem pin_K {w0 : World} {F : Heap} {sm : SM} {op : OpP} {id more : Int} {x : Th} (ok : SOk sm) (hh : hf sm.hs op.h = some id) (hx : tf sm.ts id = some x) (hp0 : 0 ≤ x.pins ∧ x.pins ≤ 255) (hmo : -1 ≤ more ∧ more ≤ 1) :
    Call Tryz.prog w0 65 [.pointer (some ⟨sm.b, 0, none⟩), opV op, .int .i64 more] (smH sm ++ F)
      (fun r H' => ∃ sm', SOk sm' ∧ sm'.b = sm.b ∧ sm'.st = (pinP sm.st id x more).1 ∧ r = sdV (pinP sm.st id x more).2 ∧ H' = smH sm' ++ F) := by
  obtain ⟨A, t, B, hA, rfl⟩ := at_of hx
  obtain ⟨k1, k2⟩ := hA.ok ok
  obtain ⟨heq, hk, hna, hg⟩ := hA
  subst hk
  have hmh : mget (sm.hs.map hE) op.h = some (.int .i64 t.k) := by rw [mget_hE, hh]; rfl
  have hopv : opV op = .agg [.int .u8 op.code, .int .i64 op.h, .int .i64 op.a, .int .i64 op.b, .int .u64 op.v, .int .i64 op.to].toArray := rfl
  rw [hopv]
  refine Call.enter3 (n := 43) (by kernel_rfl) Tryz.func65 rfl rfl rfl ?_
  (rw [smH_mapp heq])
  refine K.seq ?_
  refine K.region ?_
  (refine KL.e rfl (Eff.box rfl rfl) ?_; rintro _ _ ⟨b4, rfl, rfl⟩)
  (refine KL.e rfl (Eff.alloc rfl) ?_; rintro _ _ ⟨b6, rfl, rfl⟩)
  refine KL.nil ?_
  refine KE.next ?_
  refine K.seq ?_
  refine K.drawn [] [(0, 0), (1, 0), (2, 0), (3, 0), (4, 0), (5, 0), (6, 0), (7, 0)] (by kernel_rfl) (by kernel_rfl) (by kernel_rfl) (by kernel_rfl) (by kernel_rfl) (by kernel_rfl) Part.nil ?_
  refine KD.v0 rfl rfl (Val.move rfl) ?_
  refine KD.v0 rfl rfl (Val.nilCheck rfl) ?_
  refine KD.v0 rfl rfl (Val.fieldAddr0 (k := 4) rfl rfl) ?_
  refine KD.v0 rfl rfl (Val.loadP rfl rfl (Sees.cell byTake rfl)) ?_
  refine KD.v0 rfl rfl (Val.fieldAddr0 (k := 1) rfl rfl) ?_
  refine KD.v0 rfl rfl (Val.loadP rfl rfl (Sees.cell byTake rfl)) ?_
  refine KD.v0 rfl rfl (Val.lookS rfl rfl rfl byTake (by assumption)) ?_
  refine KD.v0 rfl rfl (Val.assign rfl) ?_
  refine KD.nil ?_
  refine KE.next ?_
  refine K.seq ?_
  refine K.region ?_
  (refine KL.v rfl (Val.move rfl) ?_)
  (refine KL.v rfl (Val.nilCheck rfl) ?_)
  (refine KL.v rfl (Val.fieldAddr0 (k := 3) rfl rfl) ?_)
  (refine KL.v rfl (Val.loadP rfl rfl (Sees.cell byTake rfl)) ?_)
  (refine KL.v rfl (Val.move rfl) ?_)
  (refine KL.v rfl (Val.lookS rfl rfl rfl byTake (by assumption)) ?_)
  (refine KL.e rfl (Eff.alloc rfl) ?_; rintro _ _ ⟨b8, rfl, rfl⟩)
  (refine KL.eN (Eff.storeAL rfl rfl rfl byTake byLay byOnes) ?_; rintro _ _ rfl)
  refine KL.nil ?_
  refine KE.next ?_
  refine K.seq ?_
  refine K.region ?_
  (refine KL.v rfl (Val.fieldAddr0 (k := 3) rfl rfl) ?_)
  (refine KL.v rfl (Val.loadP rfl rfl (Sees.cell byTake rfl)) ?_)
  (refine KL.v rfl (Val.move rfl) ?_)
  (refine KL.v rfl (Val.add rfl rfl (by simp only [Go.Proofs.YthamkgghnjenhaaGreat.lo, Go.Proofs.YthamkgghnjenhaaGreat.hi]; omega)) ?_)
  (refine KL.v rfl (Val.fieldAddr0 (k := 3) rfl rfl) ?_)
  (refine KL.eN (Eff.storeL rfl rfl byOne rfl byTake bySetAt) ?_; rintro _ _ rfl)
  refine KL.nil ?_
  refine KE.next ?_
  by_cases h1 : t.x.pins + more < 0
  · have hp : pinP sm.st t.k t.x more = (sm.st, ⟨140, 0, 0⟩) := by unfold pinP; rw [if_neg (by omega)]
    refine K.seq ?_
    refine K.seq ?_
    refine K.region ?_
    (refine KL.v rfl (Val.fieldAddr0 (k := 3) rfl rfl) ?_)
    (refine KL.v rfl (Val.loadP rfl rfl (Sees.cell byTake rfl)) ?_)
    (refine KL.v rfl (Val.isT (Val.lss rfl rfl) byLt) ?_)
    (refine KL.v rfl (Val.move rfl) ?_)
    refine KL.skipG rfl rfl rfl ?_
    refine KL.skipG rfl rfl rfl ?_
    refine KL.skipG rfl rfl rfl ?_
    (refine KL.v rfl (Val.pickT rfl rfl rfl) ?_)
    refine KL.nil ?_
    refine KE.next ?_
    refine K.condT rfl ?_
    refine K.seq ?_
    refine K.region ?_
    (refine KL.v rfl (Val.build byParts rfl rfl byFill) ?_)
    (refine KL.eN (Eff.storeAL rfl rfl rfl byTake byLay byOnes) ?_; rintro _ _ rfl)
    refine KL.nil ?_
    refine KE.next ?_
    refine K.ret ?_
    refine KE.passR ?_
    exact KE.fin byMarks rfl byRes (by first | exact byPart | (rw [smH_mapp heq]; exact byPart)) ⟨sm, ok, rfl, by rw [hp], by rw [hp]; rfl, rfl⟩
  by_cases h2 : t.x.pins + more > 255
  · have hp : pinP sm.st t.k t.x more = (sm.st, ⟨140, 0, 0⟩) := by unfold pinP; rw [if_neg (by omega)]
    refine K.seq ?_
    refine K.seq ?_
    refine K.region ?_
    (refine KL.v rfl (Val.fieldAddr0 (k := 3) rfl rfl) ?_)
    (refine KL.v rfl (Val.loadP rfl rfl (Sees.cell byTake rfl)) ?_)
    (refine KL.v rfl (Val.isF (Val.lss rfl rfl) byLt) ?_)
    (refine KL.v rfl (Val.move rfl) ?_)
    (refine KL.yes rfl rfl ?_; refine KL.v rfl (Val.fieldAddr0 (k := 3) rfl rfl) ?_)
    (refine KL.yes rfl rfl ?_; refine KL.v rfl (Val.loadP rfl rfl (Sees.cell byTake rfl)) ?_)
    (refine KL.yes rfl rfl ?_; refine KL.v rfl (Val.isT (Val.gtr rfl rfl) byLt) ?_)
    (refine KL.v rfl (Val.pickF rfl rfl rfl) ?_)
    refine KL.nil ?_
    refine KE.next ?_
    refine K.condT rfl ?_
    refine K.seq ?_
    refine K.region ?_
    (refine KL.v rfl (Val.build byParts rfl rfl byFill) ?_)
    (refine KL.eN (Eff.storeAL rfl rfl rfl byTake byLay byOnes) ?_; rintro _ _ rfl)
    refine KL.nil ?_
    refine KE.next ?_
    refine K.ret ?_
    refine KE.passR ?_
    exact KE.fin byMarks rfl byRes (by first | exact byPart | (rw [smH_mapp heq]; exact byPart)) ⟨sm, ok, rfl, by rw [hp], by rw [hp]; rfl, rfl⟩
  · obtain ⟨t', ht'⟩ : ∃ t' : ThS, t' = ⟨t.k, ⟨t.x.refs, t.x.words, t.x.size, t.x.pins + more⟩, t.o1, t.o2, t.n⟩ := ⟨_, rfl⟩
    have hok : SOk (setT sm A t' B) := setT_ok ok heq (by rw [ht']) (by rw [ht']) (by rw [ht']; exact ⟨k1, k2⟩)
    have hp : pinP sm.st t.k t.x more = ((setT sm A t' B).st, ⟨0, 0, 0⟩) := by
      have := setT_st (t' := t') heq hna (by rw [ht'])
      unfold pinP
      rw [if_pos (by omega), ht'] at *
      show ((⟨sm.cl, sm.quota, sm.caps, _, _, _, _⟩ : St), _) = ((⟨sm.cl, sm.quota, sm.caps, _, _, _, _⟩ : St), _)
      rw [show tf (setT sm A ⟨t.k, ⟨t.x.refs, t.x.words, t.x.size, t.x.pins + more⟩, t.o1, t.o2, t.n⟩ B).ts = _ from this]; rfl
    refine K.seq ?_
    refine K.seq ?_
    refine K.region ?_
    (refine KL.v rfl (Val.fieldAddr0 (k := 3) rfl rfl) ?_)
    (refine KL.v rfl (Val.loadP rfl rfl (Sees.cell byTake rfl)) ?_)
    (refine KL.v rfl (Val.isF (Val.lss rfl rfl) byLt) ?_)
    (refine KL.v rfl (Val.move rfl) ?_)
    (refine KL.yes rfl rfl ?_; refine KL.v rfl (Val.fieldAddr0 (k := 3) rfl rfl) ?_)
    (refine KL.yes rfl rfl ?_; refine KL.v rfl (Val.loadP rfl rfl (Sees.cell byTake rfl)) ?_)
    (refine KL.yes rfl rfl ?_; refine KL.v rfl (Val.isF (Val.gtr rfl rfl) byLt) ?_)
    (refine KL.v rfl (Val.pickF rfl rfl rfl) ?_)
    refine KL.nil ?_
    refine KE.next ?_
    refine K.condF rfl ?_
    refine K.skip ?_
    refine KE.next ?_
    refine K.seq ?_
    refine K.drawn [] [(0, 0), (1, 0), (2, 0), (3, 0), (4, 0), (5, 0), (6, 2)] (by kernel_rfl) (by kernel_rfl) (by kernel_rfl) (by kernel_rfl) (by kernel_rfl) (by kernel_rfl) Part.nil ?_
    refine KD.v0 rfl rfl (Val.move rfl) ?_
    refine KD.v0 rfl rfl (Val.nilCheck rfl) ?_
    refine KD.v0 rfl rfl (Val.fieldAddr0 (k := 3) rfl rfl) ?_
    refine KD.v0 rfl rfl (Val.loadP rfl rfl (Sees.cell byTake rfl)) ?_
    refine KD.v0 rfl rfl (Val.move rfl) ?_
    refine KD.v0 rfl rfl (Val.loadA rfl rfl rfl bySeeN) ?_
    (refine KD.eN rfl (Eff.mapUp rfl rfl rfl rfl byTake) ?_; rintro _ _ rfl; refine ⟨byPart, ?_⟩)
    refine KD.nil ?_
    refine KE.next ?_
    have hput := setT_put (sm := sm) (B := B) (t' := t') (v := .agg [oV t.o1 t.x.refs.length, oV t.o2 t.x.words.length, .int .i64 t.x.size, .int .i64 (t.x.pins + more)].toArray) hna (by rw [ht']) (by rw [ht']) (by rw [ht']; rfl)
    rw [hput.1, hput.2]
    refine K.seq ?_
    refine K.region ?_
    (refine KL.v rfl (Val.build byParts rfl rfl byFill) ?_)
    (refine KL.eN (Eff.storeAL rfl rfl rfl byTake byLay byOnes) ?_; rintro _ _ rfl)
    refine KL.nil ?_
    refine KE.next ?_
    refine K.ret ?_
    subst ht'
    exact KE.fin byMarks rfl byRes (by rw [smH_mapp (sm := setT sm A _ B) rfl]; exact byPart) ⟨setT sm A _ B, hok, rfl, by rw [hp], by rw [hp]; rfl, rfl⟩

theorem root_K {w0 : World} {F : Heap} {sm : SM} {op : OpP} {id : Int} {x : Th} (ok : SOk sm) (hh : hf sm.hs op.h = some id) (hx : tf sm.ts id = some x) (hp0 : 0 ≤ x.pins ∧ x.pins ≤ 255) :
    Call Tryz.prog w0 50 [.pointer (some ⟨sm.b, 0, none⟩), opV op] (smH sm ++ F)
      (fun r H' => ∃ sm', SOk sm' ∧ sm'.b = sm.b ∧ sm'.st = (pinP sm.st id x (1)).1 ∧ r = sdV (pinP sm.st id x (1)).2 ∧ H' = smH sm' ++ F) := by
  have hopv : opV op = .agg [.int .u8 op.code, .int .i64 op.h, .int .i64 op.a, .int .i64 op.b, .int .u64 op.v, .int .i64 op.to].toArray := rfl
  rw [hopv]
  refine Call.enter2 (n := 8) (by kernel_rfl) Tryz.func50 rfl rfl rfl ?_
  refine K.seq ?_
  refine K.region ?_
  (refine KL.e rfl (Eff.box rfl rfl) ?_; rintro _ _ ⟨b3, rfl, rfl⟩)
  (refine KL.e rfl (Eff.alloc rfl) ?_; rintro _ _ ⟨b4, rfl, rfl⟩)
  refine KL.nil ?_
  refine KE.next ?_
  refine K.seq ?_
  refine K.region ?_
  (refine KL.v rfl (Val.move rfl) ?_)
  (refine KL.v rfl (Val.loadA rfl rfl rfl bySeeN) ?_)
  (refine KL.callc rfl rfl byEvL fun T hT => ?_)
  refine (CallV.part (CallV.fn (pin_K (op := op) (more := 1) ok hh hx hp0 (by omega))) byPart).mono ?_
  rintro _ _ ⟨sm', ok', hb', hst', rfl, rfl⟩
  unfold sdV at hT ⊢
  refine hT _ _ ?_; clear hT; clear T
  (refine KL.eN (Eff.storeAL rfl rfl rfl byTake byLay byOnes) ?_; rintro _ _ rfl)
  refine KL.nil ?_
  refine KE.next ?_
  refine K.ret ?_
  exact KE.fin byMarks rfl byRes byPart ⟨sm', ok', hb', hst', rfl, rfl⟩
theorem unroot_K {w0 : World} {F : Heap} {sm : SM} {op : OpP} {id : Int} {x : Th} (ok : SOk sm) (hh : hf sm.hs op.h = some id) (hx : tf sm.ts id = some x) (hp0 : 0 ≤ x.pins ∧ x.pins ≤ 255) :
    Call Tryz.prog w0 51 [.pointer (some ⟨sm.b, 0, none⟩), opV op] (smH sm ++ F)
      (fun r H' => ∃ sm', SOk sm' ∧ sm'.b = sm.b ∧ sm'.st = (pinP sm.st id x (-1)).1 ∧ r = sdV (pinP sm.st id x (-1)).2 ∧ H' = smH sm' ++ F) := by
  have hopv : opV op = .agg [.int .u8 op.code, .int .i64 op.h, .int .i64 op.a, .int .i64 op.b, .int .u64 op.v, .int .i64 op.to].toArray := rfl
  rw [hopv]
  refine Call.enter2 (n := 8) (by kernel_rfl) Tryz.func51 rfl rfl rfl ?_
  refine K.seq ?_
  refine K.region ?_
  (refine KL.e rfl (Eff.box rfl rfl) ?_; rintro _ _ ⟨b3, rfl, rfl⟩)
  (refine KL.e rfl (Eff.alloc rfl) ?_; rintro _ _ ⟨b4, rfl, rfl⟩)
  refine KL.nil ?_
  refine KE.next ?_
  refine K.seq ?_
  refine K.region ?_
  (refine KL.v rfl (Val.move rfl) ?_)
  (refine KL.v rfl (Val.loadA rfl rfl rfl bySeeN) ?_)
  (refine KL.callc rfl rfl byEvL fun T hT => ?_)
  refine (CallV.part (CallV.fn (pin_K (op := op) (more := -1) ok hh hx hp0 (by omega))) byPart).mono ?_
  rintro _ _ ⟨sm', ok', hb', hst', rfl, rfl⟩
  unfold sdV at hT ⊢
  refine hT _ _ ?_; clear hT; clear T
  (refine KL.eN (Eff.storeAL rfl rfl rfl byTake byLay byOnes) ?_; rintro _ _ rfl)
  refine KL.nil ?_
  refine KE.next ?_
  refine K.ret ?_
  exact KE.fin byMarks rfl byRes byPart ⟨sm', ok', hb', hst', rfl, rfl⟩
theorem fold_K {w0 : World} {F : Heap} {sm : SM} {op : OpP} {id : Int} {x : Th} (ok : SOk sm) (hh : hf sm.hs op.h = some id) (hx : tf sm.ts id = some x) (hr : x.refs.length ≤ 1000 ∧ x.words.length ≤ 1000) :
    Call Tryz.prog w0 53 [.pointer (some ⟨sm.b, 0, none⟩), opV op] (smH sm ++ F)
      (fun r H' => r = sdV ⟨0, 0, sumP x.words⟩ ∧ H' = smH sm ++ F) := by
  obtain ⟨A, t, B, hA, rfl⟩ := at_of hx
  obtain ⟨k1, k2⟩ := hA.ok ok
  have hg := hA.g
  have hmh : mget (sm.hs.map hE) op.h = some (.int .i64 id) := by rw [mget_hE, hh]; rfl
  have hopv : opV op = .agg [.int .u8 op.code, .int .i64 op.h, .int .i64 op.a, .int .i64 op.b, .int .u64 op.v, .int .i64 op.to].toArray := rfl
  rw [hopv]
  refine Call.enter2 (n := 20) (by kernel_rfl) Tryz.func53 rfl rfl rfl ?_
  (rw [smH_mapp hA.eq])
  refine K.seq ?_
  refine K.region ?_
  (refine KL.e rfl (Eff.box rfl rfl) ?_; rintro _ _ ⟨b3, rfl, rfl⟩)
  (refine KL.e rfl (Eff.alloc rfl) ?_; rintro _ _ ⟨b4, rfl, rfl⟩)
  refine KL.nil ?_
  refine KE.next ?_
  refine K.seq ?_
  refine K.drawn [] [(0, 0), (1, 0), (2, 0), (3, 0), (4, 0), (5, 0), (6, 0), (7, 0), (8, 0), (9, 0), (10, 0), (11, 0), (12, 0), (13, 2), (14, 0), (15, 2)] (by kernel_rfl) (by kernel_rfl) (by kernel_rfl) (by kernel_rfl) (by kernel_rfl) (by kernel_rfl) Part.nil ?_
  refine KD.v0 rfl rfl (Val.move rfl) ?_
  refine KD.v0 rfl rfl (Val.nilCheck rfl) ?_
  refine KD.v0 rfl rfl (Val.fieldAddr0 (k := 3) rfl rfl) ?_
  refine KD.v0 rfl rfl (Val.loadP rfl rfl (Sees.cell byTake rfl)) ?_
  refine KD.v0 rfl rfl (Val.move rfl) ?_
  refine KD.v0 rfl rfl (Val.nilCheck rfl) ?_
  refine KD.v0 rfl rfl (Val.fieldAddr0 (k := 4) rfl rfl) ?_
  refine KD.v0 rfl rfl (Val.loadP rfl rfl (Sees.cell byTake rfl)) ?_
  refine KD.v0 rfl rfl (Val.fieldAddr0 (k := 1) rfl rfl) ?_
  refine KD.v0 rfl rfl (Val.loadP rfl rfl (Sees.cell byTake rfl)) ?_
  refine KD.v0 rfl rfl (Val.lookS rfl rfl rfl byTake (by assumption)) ?_
  refine KD.v0 rfl rfl (Val.lookS rfl rfl rfl byTake (by assumption)) ?_
  refine KD.v0 rfl rfl (Val.field (k := 1) rfl rfl rfl rfl rfl) ?_
  refine KD.callc rfl rfl rfl byEvL fun T hT => ?_
  refine (CallV.fn (Sum_K (l := t.x.words) bySli (by omega))).mono ?_
  rintro _ _ ⟨rfl, rfl⟩
  refine hT _ _ byPart ?_; clear hT; clear T
  refine KD.v0 rfl rfl (Val.build byParts rfl rfl byFill) ?_
  (refine KD.eN rfl (Eff.storeAL rfl rfl rfl byTake byLay byOnes) ?_; rintro _ _ rfl; refine ⟨byPart, ?_⟩)
  refine KD.nil ?_
  refine KE.next ?_
  refine K.ret ?_
  exact KE.fin byMarks rfl byRes (by first | exact byPart | (rw [smH_mapp hA.eq]; exact byPart)) ⟨rfl, rfl⟩
end Go.Proofs.YthamkgghnjenhaaGreat
namespace Go.Proofs.YthamkgghnjenhaaGreat
open Go.RowKit
set_option linter.unusedVariables false
set_option linter.unusedSimpArgs false

/-- the place of a number -/
def ixP : List Int → Int → Nat
  | [], _ => 0
  | x :: l, i => if i = x then 0 else ixP l i + 1
theorem ix_get : ∀ {l : List Int} {i : Int}, i ∈ l → l[ixP l i]? = some i
  | [], i, h => by cases h
  | x :: l, i, h => by
    unfold ixP
    by_cases e : i = x
    · rw [if_pos e, e]; rfl
    · rw [if_neg e]
      rcases List.mem_cons.1 h with h | h
      · exact absurd h e
      · simpa using ix_get h
theorem ix_of : ∀ {l : List Int} {q : Nat} {i : Int}, l.Nodup → l[q]? = some i → ixP l i = q
  | [], q, i, _, h => by simp at h
  | x :: l, q, i, hn, h => by
    rw [List.nodup_cons] at hn
    unfold ixP
    cases q with
    | zero => simp at h; rw [if_pos h.symm]
    | succ q =>
      simp at h
      have hm := List.mem_of_getElem? h
      rw [if_neg (by intro e; subst e; exact hn.1 hm), ix_of hn.2 h]
/-- references and handles name what is there -/
structure Closed (S : St) : Prop where
  nums : Nums S
  rf : ∀ i x r, S.T i = some x → r ∈ x.refs → r ≠ 0 → (S.T r).isSome
  hr : ∀ h i, S.Hd h = some i → (S.T i).isSome
def rowI (S : St) (i : Int) : List Int := match S.T i with
  | some x => (x.refs.filter fun r => decide (0 < r)).map fun r => ((ixP (objsP S) r : Nat) : Int)
  | none => []
def rowsI (S : St) : List (List Int) := (objsP S).map (rowI S)
def pinB (S : St) (i : Int) : Bool := match S.T i with
  | some x => decide (0 < x.pins)
  | none => false
def fromA (S : St) (k : Nat) : List Int := ((List.range k).filter fun q => pinB S (((objsP S)[q]?).getD 0)).map fun (q : Nat) => (q : Int)
theorem fromA_succ (S : St) {k : Nat} {i : Int} (h : (objsP S)[k]? = some i) : fromA S (k + 1) = fromA S k ++ (if pinB S i then [(k : Int)] else []) := by
  unfold fromA
  rw [List.range_succ, List.filter_append, List.map_append]
  congr 1
  rw [List.filter_cons, h]
  cases hp : pinB S i <;> simp [hp]
theorem fromA_mem {S : St} {z : Int} : z ∈ fromA S (objsP S).length ↔ ∃ (q : Nat) (i : Int), (objsP S)[q]? = some i ∧ z = q ∧ pinB S i = true := by
  unfold fromA
  simp only [List.mem_map, List.mem_filter, List.mem_range]
  constructor
  · rintro ⟨q, ⟨h1, h2⟩, rfl⟩
    obtain ⟨i, hi⟩ := get_of_lt h1
    rw [hi] at h2
    exact ⟨q, i, hi, rfl, h2⟩
  · rintro ⟨q, i, hi, rfl, hp⟩
    exact ⟨q, ⟨lt_of_get hi, by rw [hi]; exact hp⟩, rfl⟩
/-- roots, as places -/
def Roots (S : St) (frm : List Int) : Prop := ∀ z, z ∈ frm ↔ (∃ (q : Nat) (i : Int), (objsP S)[q]? = some i ∧ z = q ∧ pinB S i = true) ∨ (∃ h i, S.Hd h = some i ∧ z = (ixP (objsP S) i : Nat))
theorem rowsI_len (S : St) : (rowsI S).length = (objsP S).length := by simp [rowsI]
theorem rowsI_row {S : St} {q : Nat} {i : Int} {x : Th} (hq : (objsP S)[q]? = some i) (hx : S.T i = some x) : rowP (rowsI S) (q : Int) = (x.refs.filter fun r => decide (0 < r)).map fun r => ((ixP (objsP S) r : Nat) : Int) := by
  unfold rowP rowsI
  rw [Int.toNat_natCast, List.getElem?_map, hq]
  simp [rowI, hx]
theorem nd_of {S : St} {q : Nat} {i : Int} (hq : (objsP S)[q]? = some i) : Nd (rowsI S) (q : Int) := ⟨by omega, by rw [rowsI_len]; have := lt_of_get hq; omega⟩
theorem reach_iff {S : St} (hC : Closed S) {frm : List Int} (hf : Roots S frm) {q : Nat} {i : Int} (hq : (objsP S)[q]? = some i) : (∃ k, Pth (rowsI S) frm k (q : Int)) ↔ Rch S i := by
  have hnd : (objsP S).Nodup := sorted_nd (objs_sorted S)
  constructor
  · rintro ⟨k, hk⟩
    induction k generalizing q i with
    | zero =>
      obtain ⟨hm, _⟩ := Pth.zero.1 hk
      rcases (hf _).1 hm with ⟨q', i', h1, h2, h3⟩ | ⟨h, i', h1, h2⟩
      · have : q' = q := by omega
        subst this
        rw [hq] at h1; cases h1
        unfold pinB at h3
        split at h3
        · rename_i x hx; exact .pin hx (by simpa using h3)
        · cases h3
      · have hm' := (objs_mem hC.nums).2 (hC.hr h i' h1)
        have := ix_get hm'
        have e : ixP (objsP S) i' = q := by omega
        rw [e, hq] at this
        cases this
        exact .hand h1
    | succ k ih =>
      obtain ⟨y, hy, hn, _, hxy⟩ := Pth.succ.1 hk
      obtain ⟨y', rfl⟩ : ∃ y' : Nat, y = y' := ⟨y.toNat, by have := hn.1; omega⟩
      obtain ⟨j, hj⟩ := get_of_lt (l := objsP S) (k := y') (by have := hn.2; rw [rowsI_len] at this; omega)
      have hT := (objs_mem hC.nums).1 (List.mem_of_getElem? hj)
      obtain ⟨x, hx⟩ := Option.isSome_iff_exists.1 hT
      rw [rowsI_row hj hx] at hxy
      obtain ⟨r, hr, hrq⟩ := List.mem_map.1 hxy
      obtain ⟨hr1, hr2⟩ := List.mem_filter.1 hr
      have hr0 : r ≠ 0 := by intro e; subst e; simp at hr2
      have := ix_get ((objs_mem hC.nums).2 (hC.rf j x r hx hr1 hr0))
      have e : ixP (objsP S) r = q := by omega
      rw [e, hq] at this
      cases this
      exact .ref (ih hj hy) hx hr1 hr0
  · intro hr
    induction hr generalizing q with
    | @hand h i h1 => exact ⟨0, Pth.zero.2 ⟨(hf _).2 (.inr ⟨h, i, h1, by rw [ix_of hnd hq]⟩), nd_of hq⟩⟩
    | @pin i x h1 h2 => exact ⟨0, Pth.zero.2 ⟨(hf _).2 (.inl ⟨q, i, hq, rfl, by unfold pinB; rw [h1]; simpa using h2⟩), nd_of hq⟩⟩
    | @ref i r x h1 h2 h3 h4 ih =>
      have hi := (objs_mem hC.nums).2 (show (S.T i).isSome by rw [h2]; rfl)
      obtain ⟨k, hk⟩ := ih (ix_get hi)
      refine ⟨k + 1, Pth.succ.2 ⟨_, hk, nd_of (ix_get hi), nd_of hq, ?_⟩⟩
      rw [rowsI_row (ix_get hi) h2]
      refine List.mem_map.2 ⟨r, List.mem_filter.2 ⟨h3, ?_⟩, by rw [ix_of hnd hq]⟩
      obtain ⟨y, hy⟩ := Option.isSome_iff_exists.1 (hC.rf i x r h2 h3 h4)
      have := hC.nums.t r y hy
      simp; omega
/-- what stays -/
def keepB (S : St) (frm : List Int) (i : Int) : Bool := ((reachP (rowsI S) frm)[ixP (objsP S) i]?).getD false
theorem keep_iff {S : St} (hC : Closed S) {frm : List Int} (hf : Roots S frm) {i : Int} (hi : (S.T i).isSome) : keepB S frm i = true ↔ Rch S i := by
  have hm := (objs_mem hC.nums).2 hi
  have hq := ix_get hm
  obtain ⟨b, h1, h2⟩ := reach_get (rows := rowsI S) (frm := frm) (x := ixP (objsP S) i) (by rw [rowsI_len]; exact lt_of_get hq)
  rw [← reach_iff hC hf hq, ← h2]
  unfold keepB
  rw [h1]; rfl
end Go.Proofs.YthamkgghnjenhaaGreat
namespace Go.Proofs.YthamkgghnjenhaaGreat
open Go.RowKit
set_option linter.unusedVariables false
set_option linter.unusedSimpArgs false
set_option maxRecDepth 10000

theorem rowsT_at {w0 : World} {H : Heap} {ws : List WR} {ow : Own} (okw : oOk wE ws ow) (oks : ∀ p ∈ ws, oOk iE p.2 p.1) (hp : Part H (oH wE 22 ws ow ++ wsH ws)) {w : World} (hw : HF w0 H w) :
    SlW w svE (oV ow ws.length) (ws.map toSV) ∧ RowsI w (ws.map toSV) (ws.map (·.2)) := HF.turned (F := []) (by rw [List.append_nil]; exact hw.part hp) okw oks
theorem ReachO_K {w0 : World} {H : Heap} {ws : List WR} {ow : Own} {rows : List (List Int)} {l : List Int} {v : Value} (okw : oOk wE ws ow) (oks : ∀ p ∈ ws, oOk iE p.2 p.1) (hmp : ws.map (·.2) = rows) (hp : Part H (oH wE 22 ws ow ++ wsH ws))
    (hS : Sli w0 H iE v l) (hl : l.length ≤ 100000) (hn : rows.length ≤ 100) (hs : ∀ r ∈ rows, r.length ≤ 1000) :
    CallV Tryz.prog w0 (.func (.func 75) #[] #[]) [oV ow ws.length, v] H (fun r H' => ∃ o, oOk boE (reachP rows l) o ∧ r = oV o (reachP rows l).length ∧ H' = oH boE 4 (reachP rows l) o ++ H) := by
  subst hmp
  have hl2 : (ws.map toSV).length ≤ 100 := by simpa using hn
  refine (CallV.pure fun w hw => CallV.fn (Reach_K (rowsT_at okw oks hp hw).1 (rowsT_at okw oks hp hw).2 (hS w hw) hl hl2 hs)).mono ?_
  rintro _ _ ⟨_, ⟨o, ok, rfl, rfl⟩, rfl⟩
  exact ⟨o, ok, rfl, rfl⟩

structure SwA where
  k : Nat
  ms : List ME
  c : Nat
structure SwB where
  k : Nat
  ws : List WR
  ow : Own
  fo : Own
structure SwC where
  j : Nat
  o : Own
structure SwD where
  pk : List HdS
  o : Own
/-- the places of a row's objects -/
def plP (ids l : List Int) : List Int := (l.filter fun r => decide (0 < r)).map fun r => ((ixP ids r : Nat) : Int)
/-- the objects that stay when k were looked at -/
def leftP (ts : List ThS) (ids : List Int) (is : List Bool) (k : Nat) : List ThS := ts.filter fun t => !((List.range k).any fun q => ids[q]? == some t.k && is[q]? == some false)

theorem MOk.sub {ms ms' : List ME} {c : Nat} (h : MOk ms c) (hs : ms'.Sublist ms) : MOk ms' c := ⟨fun e he => h.lt e (hs.subset he), h.nd.sublist (hs.map _), h.kd.sublist (hs.map _)⟩
theorem mleft_nil (ms : List ME) : mleft ms [] = ms := List.filter_eq_self.2 fun _ _ => rfl
theorem left_zero (ts : List ThS) (ids : List Int) (is : List Bool) : leftP ts ids is 0 = ts := by simp [leftP]
theorem left_stay {ts : List ThS} {ids : List Int} {is : List Bool} {k : Nat} (h : is[k]? = some true) : leftP ts ids is (k + 1) = leftP ts ids is k := by
  unfold leftP
  refine List.filter_congr fun t _ => ?_
  rw [List.range_succ, List.any_append]
  simp [h]
theorem left_go {ts : List ThS} {ids : List Int} {is : List Bool} {k : Nat} {i : Int} (h : is[k]? = some false) (hi : ids[k]? = some i) : leftP ts ids is (k + 1) = (leftP ts ids is k).filter fun t => !(i == t.k) := by
  unfold leftP
  rw [List.filter_filter]
  refine List.filter_congr fun t _ => ?_
  rw [List.range_succ, List.any_append]
  simp [h, hi, Bool.and_comm]
def leftM (sm : SM) (X : List ThS) : SM := ⟨sm.b, sm.bt, sm.bh, sm.cl, sm.oc, sm.quota, sm.caps, X, sm.ct, sm.hs, sm.ch, sm.made, sm.minted⟩
def frmP (S : St) (pk : List HdS) : List Int := fromA S (objsP S).length ++ pk.map fun h => ((ixP (objsP S) h.v : Nat) : Int)
theorem left_swept {sm : SM} (ok : SOk sm) (hC : Closed sm.st) {frm : List Int} (hf : Roots sm.st frm) :
    SOk (leftM sm (leftP sm.ts (objsP sm.st) (reachP (rowsI sm.st) frm) (objsP sm.st).length)) ∧ Swept sm.st (leftM sm (leftP sm.ts (objsP sm.st) (reachP (rowsI sm.st) frm) (objsP sm.st).length)).st := by
  have hsub : (leftP sm.ts (objsP sm.st) (reachP (rowsI sm.st) frm) (objsP sm.st).length).Sublist sm.ts := List.filter_sublist
  refine ⟨⟨ok.mt.sub (hsub.map _), ok.mh, ok.oc, fun t ht => ok.ts t (hsub.subset ht)⟩, ⟨rfl, rfl, rfl, rfl, rfl, rfl, fun i x => ?_⟩⟩
  have hnd : (objsP sm.st).Nodup := sorted_nd (objs_sorted _)
  obtain ⟨p, hp⟩ : ∃ p : Int → Bool, p = fun i => !((List.range (objsP sm.st).length).any fun q => (objsP sm.st)[q]? == some i && (reachP (rowsI sm.st) frm)[q]? == some false) := ⟨_, rfl⟩
  have h1 : (leftM sm (leftP sm.ts (objsP sm.st) (reachP (rowsI sm.st) frm) (objsP sm.st).length)).st.T = fun j => if p j then tf sm.ts j else none := by
    have := tf_filter (keys_nd ok) p
    rw [← this, hp]; rfl
  rw [h1]
  show (if p i = true then tf sm.ts i else none) = some x ↔ tf sm.ts i = some x ∧ Rch sm.st i
  by_cases hi : (sm.st.T i).isSome
  · have hm := (objs_mem hC.nums).2 hi
    have hq := ix_get hm
    have hk := keep_iff hC hf hi
    obtain ⟨b, hb, _⟩ := reach_get (rows := rowsI sm.st) (frm := frm) (x := ixP (objsP sm.st) i) (by rw [rowsI_len]; exact lt_of_get hq)
    have hpk : p i = keepB sm.st frm i := by
      rw [hp]
      unfold keepB
      rw [hb]
      cases b with
      | true =>
        simp only [Option.getD_some, Bool.not_eq_true', List.any_eq_false, List.mem_range, Bool.and_eq_true, beq_iff_eq, not_and]
        intro q hql hqi hqf
        have := ix_of hnd hqi
        rw [this] at hb
        rw [hb] at hqf; cases hqf
      | false =>
        simp only [Option.getD_some, Bool.not_eq_false', List.any_eq_true, List.mem_range, Bool.and_eq_true, beq_iff_eq]
        exact ⟨_, lt_of_get hq, hq, hb⟩
    rw [hpk, ← hk]
    by_cases hkb : keepB sm.st frm i = true <;> simp [hkb]
  · have : tf sm.ts i = none := by
      cases h : tf sm.ts i with
      | none => rfl
      | some y => exact absurd (show (tf sm.ts i).isSome by rw [h]; rfl) hi
    rw [this]; simp
theorem frm_roots {sm : SM} (ok : SOk sm) {pk : List HdS} (h1 : ∀ e ∈ pk, e ∈ sm.hs) (h2 : ∀ e ∈ sm.hs.map hE, e.n ∈ (pk.map hE).map (·.n)) : Roots sm.st (frmP sm.st pk) := by
  intro z
  unfold frmP
  rw [List.mem_append, fromA_mem]
  refine or_congr Iff.rfl ?_
  simp only [List.mem_map]
  constructor
  · rintro ⟨e, he, rfl⟩
    have he' := h1 e he
    refine ⟨e.k, e.v, ?_, rfl⟩
    show hf sm.hs e.k = some e.v
    have hg : mget (sm.hs.map hE) e.k = some (.int .i64 e.v) := (mget_iff ok.mh).2 ⟨hE e, List.mem_map_of_mem he', rfl, rfl⟩
    rw [mget_hE] at hg
    obtain ⟨v, hv, hv2⟩ := Option.map_eq_some_iff.1 hg
    rw [hv]; cases hv2; rfl
  · rintro ⟨h, i, hi, rfl⟩
    obtain ⟨A, t, B, hts, rfl, rfl, _⟩ := hf_split (show hf sm.hs h = some i from hi)
    have ht : t ∈ sm.hs := by rw [hts]; simp
    have := h2 (hE t) (List.mem_map_of_mem ht)
    obtain ⟨e', he', hn'⟩ := List.mem_map.1 this
    obtain ⟨e, he, rfl⟩ := List.mem_map.1 he'
    have e1 : hE e = hE t := by
      obtain ⟨i, hi⟩ := List.getElem?_of_mem (List.mem_map_of_mem (f := hE) (h1 e he))
      obtain ⟨j, hj⟩ := List.getElem?_of_mem (List.mem_map_of_mem (f := hE) ht)
      have hi1 : ((sm.hs.map hE).map (·.n))[i]? = some (hE t).n := by rw [List.getElem?_map, hi]; simp [hn']
      have hj1 : ((sm.hs.map hE).map (·.n))[j]? = some (hE t).n := by rw [List.getElem?_map, hj]; rfl
      have hij := (List.getElem?_inj (List.getElem?_eq_some_iff.1 hi1).1 ok.mh.nd).1 (hi1.trans hj1.symm)
      subst hij
      rw [hi] at hj; exact Option.some.inj hj
    refine ⟨e, he, ?_⟩
    have : Value.int .i64 e.v = Value.int .i64 t.v := congrArg ME.v e1
    injection this with _ this
    rw [this]
set_option maxHeartbeats 2000000 in
theorem sweep_K {w0 : World} {F : Heap} {sm : SM} (ok : SOk sm) (hC : Closed sm.st) (hm : sm.made ≤ 100) (hmi : sm.minted ≤ 1000) (hr : ∀ i x, tf sm.ts i = some x → x.refs.length ≤ 1000) :
    Call Tryz.prog w0 64 [.pointer (some ⟨sm.b, 0, none⟩)] (smH sm ++ F)
      (fun r H' => ∃ sm', SOk sm' ∧ sm'.b = sm.b ∧ Swept sm.st sm'.st ∧ H' = smH sm' ++ F) := by
  have hn := hC.nums
  have hidl : (objsP sm.st).length ≤ 100 := Nat.le_trans (objs_len _) hm
  have hnd : (objsP sm.st).Nodup := sorted_nd (objs_sorted _)
  refine Call.enter1 (n := 111) (by kernel_rfl) Tryz.func64 rfl rfl rfl ?_
  refine K.seq ?_
  refine K.region ?_
  (refine KL.v rfl (Val.move rfl) ?_)
  (refine KL.callc rfl rfl byEvL fun T hT => ?_)
  refine (CallV.fn (Objects_K ok hn (by omega))).mono ?_
  rintro _ _ ⟨o, oko, rfl, rfl⟩
  obtain ⟨ids, hids⟩ : ∃ ids, ids = objsP sm.st := ⟨_, rfl⟩
  refine hT _ _ ?_; clear hT; clear T
  rw [← hids] at oko hidl hnd ⊢
  (refine KL.v rfl (Val.assign rfl) ?_)
  refine KL.nil ?_
  refine KE.next ?_
  refine K.seq ?_
  refine K.region ?_
  (refine KL.e rfl (Eff.makeMap) ?_; rintro _ _ ⟨b19, rfl, rfl⟩)
  (refine KL.v rfl (Val.assign rfl) ?_)
  refine KL.nil ?_
  refine KE.next ?_
  refine K.seq ?_
  refine K.seq ?_
  refine K.region ?_
  (refine KL.v rfl (Val.move rfl) ?_)
  (refine KL.v rfl (Val.lenSl rfl rfl (Sli.own byTakeL (by assumption) byLen)) ?_)
  (refine KL.v rfl (Val.move rfl) ?_)
  refine KL.nil ?_
  refine KE.next ?_
  refine K.block ?_
  refine K.loopT (σ := SwA) [(0, _), (2, _), (3, _), (20, _), (21, _)] (fun s kp_ => (22, .int .i64 (s.k : Nat)) :: kp_) (fun s => (b19, mobj s.ms s.c) :: (oH iE 3 ids o ++ (smH sm ++ F))) (fun s => s.k ≤ ids.length ∧ MOk s.ms s.c ∧ ∀ j, mget s.ms j = if j ∈ ids.take s.k then some (.int .i64 ((ixP ids j : Nat) : Int)) else none) (fun s => ids.length - s.k) (⟨0, [], 0⟩) bySub byPart (⟨by simp, MOk.nil, fun j => by simp [mget, mfind]⟩) ?_
  rintro ⟨k, ms, c⟩ ⟨hk, hms, hmg⟩
  dsimp only at hk hms hmg ⊢
  by_cases hlt : k < ids.length
  · obtain ⟨i, hi⟩ := get_of_lt hlt
    refine K.seq ?_
    refine K.region ?_
    (refine KL.v rfl (Val.isT (Val.lss rfl rfl) byLt) ?_)
    refine KL.nil ?_
    refine KE.next ?_
    refine K.seq ?_
    refine K.condT rfl ?_
    refine K.skip ?_
    refine KE.next ?_
    refine K.seq ?_
    refine K.block ?_
    refine K.seq ?_
    refine K.region ?_
    (refine KL.v rfl (Val.move rfl) ?_)
    (refine KL.v rfl (Val.idxSl rfl rfl rfl (Sli.own byTakeL (by assumption) byLen) rfl byLt) ?_)
    (refine KL.v rfl (Val.loadP rfl rfl (Sees.sl0 (Sli.own byTakeL (by assumption) byLen) (by assumption) rfl)) ?_)
    (refine KL.v rfl (Val.assign rfl) ?_)
    (refine KL.v rfl (Val.assign rfl) ?_)
    refine KL.nil ?_
    refine KE.next ?_
    refine K.region ?_
    (refine KL.v rfl (Val.move rfl) ?_)
    (refine KL.v rfl (Val.move rfl) ?_)
    (refine KL.v rfl (Val.move rfl) ?_)
    (refine KL.eN (Eff.mapUp rfl rfl rfl rfl byTake) ?_; rintro _ _ rfl)
    refine KL.nil ?_
    refine KE.blkN ?_
    refine KE.next ?_
    refine K.region ?_
    (refine KL.v rfl (Val.add rfl rfl (by simp only [Go.Proofs.YthamkgghnjenhaaGreat.lo, Go.Proofs.YthamkgghnjenhaaGreat.hi]; omega)) ?_)
    (refine KL.v rfl (Val.move rfl) ?_)
    refine KL.nil ?_
    refine KE.again ⟨k + 1, mput ms c i (.int .i64 (k : Nat)), mclk ms c i⟩ bySub byPart ⟨by show k + 1 ≤ _; omega, hms.put _ _, fun j => ?_⟩ (by show ids.length - (k + 1) < ids.length - k; omega)
    dsimp only
    rw [mget_put hms, hmg, take_snoc hi]
    by_cases hj : j = i
    · subst hj
      rw [if_pos rfl, if_pos (by simp), ix_of hnd hi]
    · rw [if_neg hj]
      simp only [List.mem_append, List.mem_singleton, hj, or_false]
  have hke : k = ids.length := by omega
  subst hke
  rw [List.take_length] at hmg
  have hAt : ∀ r, (sm.st.T r).isSome → mget ms r = some (.int .i64 ((ixP ids r : Nat) : Int)) := fun r hr' => by
    rw [hmg, if_pos (by rw [hids]; exact (objs_mem hn).2 hr')]
  refine K.seq ?_
  refine K.region ?_
  (refine KL.v rfl (Val.isF (Val.lss rfl rfl) byLt) ?_)
  refine KL.nil ?_
  refine KE.next ?_
  refine K.seq ?_
  refine K.condF rfl ?_
  refine K.exit ?_
  refine KE.passX ?_
  refine KE.passX ?_
  refine KE.blkX ?_
  refine KE.next ?_
  refine K.seq ?_
  refine K.region ?_
  (refine KL.v rfl (Val.assign rfl) ?_)
  refine KL.nil ?_
  refine KE.next ?_
  refine K.seq ?_
  refine K.region ?_
  (refine KL.v rfl (Val.assign rfl) ?_)
  refine KL.nil ?_
  refine KE.next ?_
  refine K.seq ?_
  refine K.seq ?_
  refine K.region ?_
  (refine KL.v rfl (Val.move rfl) ?_)
  (refine KL.v rfl (Val.lenSl rfl rfl (Sli.own byTakeL (by assumption) byLen)) ?_)
  (refine KL.v rfl (Val.move rfl) ?_)
  refine KL.nil ?_
  refine KE.next ?_
  refine K.block ?_
  refine K.loopT (σ := SwB) [(0, _), (2, _), (3, _), (31, _), (32, _)] (fun s kp_ => (33, .int .i64 (s.k : Nat)) :: (6, oV s.ow s.ws.length) :: (7, oV s.fo (fromA sm.st s.k).length) :: kp_) (fun s => (b19, mobj ms c) :: (oH iE 3 ids o ++ (smH sm ++ (oH wE 22 s.ws s.ow ++ (wsH s.ws ++ (oH iE 3 (fromA sm.st s.k) s.fo ++ F)))))) (fun s => s.k ≤ ids.length ∧ oOk wE s.ws s.ow ∧ s.ws.map (·.2) = (rowsI sm.st).take s.k ∧ (∀ p ∈ s.ws, oOk iE p.2 p.1) ∧ oOk iE (fromA sm.st s.k) s.fo) (fun s => ids.length - s.k) (⟨0, [], none, none⟩) bySub byPart (⟨by simp, rfl, by simp, by simp, rfl⟩) ?_
  rintro ⟨k, ws, ow, fo⟩ ⟨hk, okw, hmp, oks, okf⟩
  dsimp only at hk okw hmp oks okf ⊢
  by_cases hlt : k < ids.length
  · obtain ⟨i, hi⟩ := get_of_lt hlt
    have hTi := (objs_mem hn).1 (hids ▸ List.mem_of_getElem? hi)
    obtain ⟨x, hx⟩ := Option.isSome_iff_exists.1 hTi
    obtain ⟨A, t, B, hA, rfl⟩ := at_of hx
    obtain ⟨k1, k2⟩ := hA.ok ok
    have hg := hA.g
    have hrl := hr i t.x hx
    (rw [smH_mapp hA.eq])
    refine K.seq ?_
    refine K.region ?_
    (refine KL.v rfl (Val.isT (Val.lss rfl rfl) byLt) ?_)
    refine KL.nil ?_
    refine KE.next ?_
    refine K.seq ?_
    refine K.condT rfl ?_
    refine K.skip ?_
    refine KE.next ?_
    refine K.seq ?_
    refine K.block ?_
    refine K.seq ?_
    refine K.region ?_
    (refine KL.v rfl (Val.move rfl) ?_)
    (refine KL.v rfl (Val.idxSl rfl rfl rfl (Sli.own byTakeL (by assumption) byLen) rfl byLt) ?_)
    (refine KL.v rfl (Val.loadP rfl rfl (Sees.sl0 (Sli.own byTakeL (by assumption) byLen) (by assumption) rfl)) ?_)
    (refine KL.v rfl (Val.assign rfl) ?_)
    (refine KL.v rfl (Val.assign rfl) ?_)
    refine KL.nil ?_
    refine KE.next ?_
    refine K.seq ?_
    refine K.region ?_
    (refine KL.v rfl (Val.assign rfl) ?_)
    refine KL.nil ?_
    refine KE.next ?_
    refine K.seq ?_
    refine K.seq ?_
    refine K.region ?_
    (refine KL.v rfl (Val.move rfl) ?_)
    (refine KL.v rfl (Val.nilCheck rfl) ?_)
    (refine KL.v rfl (Val.fieldAddr0 (k := 3) rfl rfl) ?_)
    (refine KL.v rfl (Val.loadP rfl rfl (Sees.cell byTake rfl)) ?_)
    (refine KL.v rfl (Val.move rfl) ?_)
    (refine KL.v rfl (Val.lookS rfl rfl rfl byTake (by assumption)) ?_)
    (refine KL.v rfl (Val.field (k := 0) rfl rfl rfl rfl rfl) ?_)
    (refine KL.v rfl (Val.lenSl rfl rfl (Sli.own byTakeL (by assumption) byLen)) ?_)
    (refine KL.v rfl (Val.move rfl) ?_)
    refine KL.nil ?_
    refine KE.next ?_
    refine K.block ?_
    refine K.loopT (σ := SwC) [(0, _), (2, _), (3, _), (6, _), (7, _), (8, _), (9, _), (31, _), (32, _), (33, _), (44, _), (45, _)] (fun s kp_ => (46, .int .i64 (s.j : Nat)) :: (10, oV s.o (plP ids (t.x.refs.take s.j)).length) :: kp_) (fun s => oH iE 3 (plP ids (t.x.refs.take s.j)) s.o ++ ((b19, mobj ms c) :: (oH iE 3 ids o ++ (smH sm ++ (oH wE 22 ws ow ++ (wsH ws ++ (oH iE 3 (fromA sm.st k) fo ++ F))))))) (fun s => s.j ≤ t.x.refs.length ∧ oOk iE (plP ids (t.x.refs.take s.j)) s.o) (fun s => t.x.refs.length - s.j) (⟨0, none⟩) bySub (by first | exact byPart | (rw [smH_mapp hA.eq]; exact byPart)) (⟨by simp, rfl⟩) ?_
    rintro ⟨j, oj⟩ ⟨hj, okj⟩
    dsimp only at hj okj ⊢
    by_cases hjl : j < t.x.refs.length
    · obtain ⟨r, hr'⟩ := get_of_lt hjl
      have hple : (plP ids (t.x.refs.take j)).length ≤ 1000 := Nat.le_trans (by rw [plP, List.length_map]; exact List.length_filter_le _ _) (by rw [List.length_take]; omega)
      by_cases hr0 : r > 0
      · have hAr := hAt r (hC.rf i t.x r hx (List.mem_of_getElem? hr') (by omega))
        have hpl : plP ids (t.x.refs.take (j + 1)) = plP ids (t.x.refs.take j) ++ [((ixP ids r : Nat) : Int)] := by
          unfold plP; rw [take_snoc hr', List.filter_append, List.map_append]; simp [hr0]
        have hbd : (plP ids (t.x.refs.take j) ++ [((ixP ids r : Nat) : Int)]).length ≤ 4294967296 := by simp only [List.length_append, List.length_singleton]; omega
        (rw [smH_mapp hA.eq])
        refine K.seq ?_
        refine K.region ?_
        (refine KL.v rfl (Val.isT (Val.lss rfl rfl) byLt) ?_)
        refine KL.nil ?_
        refine KE.next ?_
        refine K.seq ?_
        refine K.condT rfl ?_
        refine K.skip ?_
        refine KE.next ?_
        refine K.seq ?_
        refine K.block ?_
        refine K.seq ?_
        refine K.region ?_
        (refine KL.v rfl (Val.idxSl rfl rfl rfl (Sli.own byTakeL (by assumption) byLen) rfl byLt) ?_)
        (refine KL.v rfl (Val.loadP rfl rfl (Sees.sl0 (Sli.own byTakeL (by assumption) byLen) (by assumption) rfl)) ?_)
        (refine KL.v rfl (Val.assign rfl) ?_)
        refine KL.nil ?_
        refine KE.next ?_
        refine K.seq ?_
        refine K.region ?_
        (refine KL.v rfl (Val.move rfl) ?_)
        (refine KL.v rfl (Val.isT (Val.gtr rfl rfl) byLt) ?_)
        refine KL.nil ?_
        refine KE.next ?_
        refine K.condT rfl ?_
        refine K.region ?_
        (refine KL.v rfl (Val.move rfl) ?_)
        (refine KL.v rfl (Val.move rfl) ?_)
        (refine KL.v rfl (Val.move rfl) ?_)
        (refine KL.v rfl (Val.lookS rfl rfl rfl byTake (by assumption)) ?_)
        (refine KL.e rfl (Eff.buildS byParts rfl rfl rfl rfl rfl byFill) ?_; rintro _ _ ⟨b56, rfl, rfl⟩)
        (refine KL.e rfl (Eff.appZ (ys := [_]) rfl rfl rfl rfl rfl rfl byTakeL (by assumption) (by first | exact Sli.blk byTake rfl (by first | decide | simp) (by first | decide | (unfold maxLen; omega)) rfl | exact Sli.old (by assumption) | exact Sli.own byTakeL (by assumption) byLen | assumption | exact Sli.part (by assumption) byPart) rfl (by first | assumption | omega | (simp <;> fail) | (simp; omega)) rfl) ?_; rintro _ _ ⟨o57, ok57, rfl, rfl⟩)
        (refine KL.v rfl (Val.assign rfl) ?_)
        refine KL.nil ?_
        refine KE.blkN ?_
        refine KE.next ?_
        refine K.region ?_
        (refine KL.v rfl (Val.add rfl rfl (by simp only [Go.Proofs.YthamkgghnjenhaaGreat.lo, Go.Proofs.YthamkgghnjenhaaGreat.hi]; omega)) ?_)
        (refine KL.v rfl (Val.move rfl) ?_)
        refine KL.nil ?_
        rw [← hpl] at ok57 ⊢
        exact KE.again ⟨j + 1, o57⟩ bySub (by first | exact byPart | (rw [smH_mapp hA.eq]; exact byPart)) ⟨by show j + 1 ≤ _; omega, ok57⟩ (by show t.x.refs.length - (j + 1) < t.x.refs.length - j; omega)
      · have hpl : plP ids (t.x.refs.take (j + 1)) = plP ids (t.x.refs.take j) := by
          unfold plP; rw [take_snoc hr', List.filter_append, List.map_append]; simp [hr0]
        (rw [smH_mapp hA.eq])
        refine K.seq ?_
        refine K.region ?_
        (refine KL.v rfl (Val.isT (Val.lss rfl rfl) byLt) ?_)
        refine KL.nil ?_
        refine KE.next ?_
        refine K.seq ?_
        refine K.condT rfl ?_
        refine K.skip ?_
        refine KE.next ?_
        refine K.seq ?_
        refine K.block ?_
        refine K.seq ?_
        refine K.region ?_
        (refine KL.v rfl (Val.idxSl rfl rfl rfl (Sli.own byTakeL (by assumption) byLen) rfl byLt) ?_)
        (refine KL.v rfl (Val.loadP rfl rfl (Sees.sl0 (Sli.own byTakeL (by assumption) byLen) (by assumption) rfl)) ?_)
        (refine KL.v rfl (Val.assign rfl) ?_)
        refine KL.nil ?_
        refine KE.next ?_
        refine K.seq ?_
        refine K.region ?_
        (refine KL.v rfl (Val.move rfl) ?_)
        (refine KL.v rfl (Val.isF (Val.gtr rfl rfl) byLt) ?_)
        refine KL.nil ?_
        refine KE.next ?_
        refine K.condF rfl ?_
        refine K.skip ?_
        refine KE.blkN ?_
        refine KE.next ?_
        refine K.region ?_
        (refine KL.v rfl (Val.add rfl rfl (by simp only [Go.Proofs.YthamkgghnjenhaaGreat.lo, Go.Proofs.YthamkgghnjenhaaGreat.hi]; omega)) ?_)
        (refine KL.v rfl (Val.move rfl) ?_)
        refine KL.nil ?_
        rw [← hpl] at okj ⊢
        exact KE.again ⟨j + 1, oj⟩ bySub (by first | exact byPart | (rw [smH_mapp hA.eq]; exact byPart)) ⟨by show j + 1 ≤ _; omega, okj⟩ (by show t.x.refs.length - (j + 1) < t.x.refs.length - j; omega)
    · have hje : j = t.x.refs.length := by omega
      subst hje
      rw [List.take_length] at okj ⊢
      have hwl : ws.length = k := by have := congrArg List.length hmp; simp [rowsI_len, ← hids] at this; omega
      have hrow : plP ids t.x.refs = rowI sm.st i := by unfold rowI plP; rw [hx, hids]
      have hsn : (ws ++ [(oj, plP ids t.x.refs)]).map (·.2) = (rowsI sm.st).take (k + 1) := by
        have : (rowsI sm.st)[k]? = some (plP ids t.x.refs) := by rw [rowsI, List.getElem?_map, ← hids, hi, hrow]; rfl
        rw [take_snoc this, List.map_append, hmp]; rfl
      have hbd : (ws ++ [(oj, plP ids t.x.refs)]).length ≤ 4294967296 := by simp only [List.length_append, List.length_singleton]; omega
      have hfl : (fromA sm.st k).length ≤ 100 := Nat.le_trans (by rw [fromA, List.length_map]; exact Nat.le_trans (List.length_filter_le _ _) (by rw [List.length_range]; exact Nat.le_refl _)) (by omega)
      have hfs := fromA_succ sm.st (k := k) (i := i) (by rw [← hids]; exact hi)
      refine K.seq ?_
      refine K.region ?_
      (refine KL.v rfl (Val.isF (Val.lss rfl rfl) byLt) ?_)
      refine KL.nil ?_
      refine KE.next ?_
      refine K.seq ?_
      refine K.condF rfl ?_
      refine K.exit ?_
      refine KE.passX ?_
      refine KE.passX ?_
      refine KE.blkX ?_
      refine KE.next ?_
      refine byCode ?_
      (refine KL.v rfl (Val.move rfl) ?_)
      (refine KL.v rfl (Val.move rfl) ?_)
      (refine KL.e rfl (Eff.buildS byParts rfl rfl rfl rfl rfl byFill) ?_; rintro _ _ ⟨b61, rfl, rfl⟩)
      (refine KL.e rfl (Eff.appZ (E := wE) (xs := ws) (o := ow) (ys := [(oj, plP ids t.x.refs)]) (zs := ws ++ [(oj, plP ids t.x.refs)]) rfl rfl rfl rfl rfl rfl byTakeL (by assumption) (by first | exact Sli.blk byTake rfl (by first | decide | simp) (by first | decide | (unfold maxLen; omega)) rfl | exact Sli.old (by assumption) | exact Sli.own byTakeL (by assumption) byLen | assumption | exact Sli.part (by assumption) byPart) (rfl) (by first | assumption | omega | (simp <;> fail) | (simp; omega)) rfl) ?_; rintro _ _ ⟨o', ok', rfl, rfl⟩)
      (refine KL.v rfl (Val.assign rfl) ?_)
      refine KL.nil ?_
      refine KE.next ?_
      have hws : wsH (ws ++ [(oj, plP ids t.x.refs)]) = wsH ws ++ oH iE 3 (plP ids t.x.refs) oj := by rw [wsH_app]; simp [wsH]
      have oks' : ∀ p ∈ ws ++ [(oj, plP ids t.x.refs)], oOk iE p.2 p.1 := fun p hp => by
        rcases List.mem_append.1 hp with h | h
        · exact oks p h
        · rw [List.mem_singleton.1 h]; exact okj
      (rw [smH_mapp hA.eq])
      by_cases hp0 : t.x.pins > 0
      · have hpb : pinB sm.st i = true := by unfold pinB; rw [hx]; simpa using hp0
        rw [hpb, if_pos rfl] at hfs
        have hbf : (fromA sm.st k ++ [(k : Int)]).length ≤ 4294967296 := by simp only [List.length_append, List.length_singleton]; omega
        refine K.seq ?_
        refine K.region ?_
        (refine KL.v rfl (Val.move rfl) ?_)
        (refine KL.v rfl (Val.nilCheck rfl) ?_)
        (refine KL.v rfl (Val.fieldAddr0 (k := 3) rfl rfl) ?_)
        (refine KL.v rfl (Val.loadP rfl rfl (Sees.cell byTake rfl)) ?_)
        (refine KL.v rfl (Val.move rfl) ?_)
        (refine KL.v rfl (Val.lookS rfl rfl rfl byTake (by assumption)) ?_)
        (refine KL.v rfl (Val.field (k := 3) rfl rfl rfl rfl rfl) ?_)
        (refine KL.v rfl (Val.isT (Val.gtr rfl rfl) byLt) ?_)
        refine KL.nil ?_
        refine KE.next ?_
        refine K.condT rfl ?_
        refine K.region ?_
        (refine KL.v rfl (Val.move rfl) ?_)
        (refine KL.v rfl (Val.move rfl) ?_)
        (refine KL.e rfl (Eff.buildS byParts rfl rfl rfl rfl rfl byFill) ?_; rintro _ _ ⟨b73, rfl, rfl⟩)
        (refine KL.e rfl (Eff.appZ (ys := [_]) rfl rfl rfl rfl rfl rfl byTakeL (by assumption) (by first | exact Sli.blk byTake rfl (by first | decide | simp) (by first | decide | (unfold maxLen; omega)) rfl | exact Sli.old (by assumption) | exact Sli.own byTakeL (by assumption) byLen | assumption | exact Sli.part (by assumption) byPart) rfl (by first | assumption | omega | (simp <;> fail) | (simp; omega)) rfl) ?_; rintro _ _ ⟨o74, ok74, rfl, rfl⟩)
        (refine KL.v rfl (Val.assign rfl) ?_)
        refine KL.nil ?_
        refine KE.blkN ?_
        refine KE.next ?_
        refine K.region ?_
        (refine KL.v rfl (Val.add rfl rfl (by simp only [Go.Proofs.YthamkgghnjenhaaGreat.lo, Go.Proofs.YthamkgghnjenhaaGreat.hi]; omega)) ?_)
        (refine KL.v rfl (Val.move rfl) ?_)
        refine KL.nil ?_
        rw [← hfs] at ok74 ⊢
        exact KE.again ⟨k + 1, ws ++ [(oj, plP ids t.x.refs)], o', o74⟩ bySub (by dsimp only; rw [hws]; simp only [List.append_assoc]; exact (by first | exact byPart | (rw [smH_mapp hA.eq]; exact byPart))) ⟨by show k + 1 ≤ _; omega, ok', hsn, oks', ok74⟩ (by show ids.length - (k + 1) < ids.length - k; omega)
      · have hpb : pinB sm.st i = false := by unfold pinB; rw [hx]; simpa using hp0
        rw [hpb] at hfs
        simp only [Bool.false_eq_true, if_false, List.append_nil] at hfs
        refine K.seq ?_
        refine K.region ?_
        (refine KL.v rfl (Val.move rfl) ?_)
        (refine KL.v rfl (Val.nilCheck rfl) ?_)
        (refine KL.v rfl (Val.fieldAddr0 (k := 3) rfl rfl) ?_)
        (refine KL.v rfl (Val.loadP rfl rfl (Sees.cell byTake rfl)) ?_)
        (refine KL.v rfl (Val.move rfl) ?_)
        (refine KL.v rfl (Val.lookS rfl rfl rfl byTake (by assumption)) ?_)
        (refine KL.v rfl (Val.field (k := 3) rfl rfl rfl rfl rfl) ?_)
        (refine KL.v rfl (Val.isF (Val.gtr rfl rfl) byLt) ?_)
        refine KL.nil ?_
        refine KE.next ?_
        refine K.condF rfl ?_
        refine K.skip ?_
        refine KE.blkN ?_
        refine KE.next ?_
        refine K.region ?_
        (refine KL.v rfl (Val.add rfl rfl (by simp only [Go.Proofs.YthamkgghnjenhaaGreat.lo, Go.Proofs.YthamkgghnjenhaaGreat.hi]; omega)) ?_)
        (refine KL.v rfl (Val.move rfl) ?_)
        refine KL.nil ?_
        rw [← hfs] at okf ⊢
        exact KE.again ⟨k + 1, ws ++ [(oj, plP ids t.x.refs)], o', fo⟩ bySub (by dsimp only; rw [hws]; simp only [List.append_assoc]; exact (by first | exact byPart | (rw [smH_mapp hA.eq]; exact byPart))) ⟨by show k + 1 ≤ _; omega, ok', hsn, oks', okf⟩ (by show ids.length - (k + 1) < ids.length - k; omega)
  have hke : k = ids.length := by omega
  subst hke
  have hfr0 : fromA sm.st ids.length = frmP sm.st [] := by unfold frmP; rw [hids]; simp
  rw [hfr0] at okf ⊢
  rw [List.take_of_length_le (by rw [rowsI_len, hids]; exact Nat.le_refl _)] at hmp
  have hhl : sm.hs.length ≤ 1000 := by rw [hs_len ok hn]; exact Nat.le_trans (hands_len _) hmi
  have hmh := ok.mh
  (rw [smH_app (sm := sm)])
  refine K.seq ?_
  refine K.region ?_
  (refine KL.v rfl (Val.isF (Val.lss rfl rfl) byLt) ?_)
  refine KL.nil ?_
  refine KE.next ?_
  refine K.seq ?_
  refine K.condF rfl ?_
  refine K.exit ?_
  refine KE.passX ?_
  refine KE.passX ?_
  refine KE.blkX ?_
  refine KE.next ?_
  refine K.seq ?_
  refine K.seq ?_
  refine K.region ?_
  (refine KL.v rfl (Val.move rfl) ?_)
  (refine KL.v rfl (Val.nilCheck rfl) ?_)
  (refine KL.v rfl (Val.fieldAddr0 (k := 4) rfl rfl) ?_)
  (refine KL.v rfl (Val.loadP rfl rfl (Sees.cell byTake rfl)) ?_)
  (refine KL.e rfl (Eff.rangeM rfl rfl byTake) ?_; rintro _ _ ⟨b80, rfl, rfl⟩)
  refine KL.nil ?_
  refine KE.next ?_
  refine K.block ?_
  refine K.loopT (σ := SwD) [(0, _), (2, _), (3, _), (6, _), (80, _)] (fun s kp_ => (7, oV s.o (frmP sm.st s.pk).length) :: kp_) (fun s => (b80, itO sm.bh sm.ch (s.pk.map hE)) :: (b19, mobj ms c) :: (oH iE 3 ids o ++ (smH sm ++ (oH wE 22 ws ow ++ (wsH ws ++ (oH iE 3 (frmP sm.st s.pk) s.o ++ F)))))) (fun s => (∀ e ∈ s.pk, e ∈ sm.hs) ∧ oOk iE (frmP sm.st s.pk) s.o ∧ s.pk.length + (mleft (sm.hs.map hE) (s.pk.map hE)).length ≤ sm.hs.length) (fun s => (mleft (sm.hs.map hE) (s.pk.map hE)).length) (⟨[], fo⟩) bySub (by rw [smH_app (sm := sm)]; exact byPart) (⟨by simp, okf, by show _ + _ ≤ _; rw [List.map_nil, mleft_nil, List.length_map]; simp⟩) ?_
  rintro ⟨pk, op⟩ ⟨hpk, okp, hpl⟩
  dsimp only at hpk okp hpl ⊢
  (rw [smH_app (sm := sm)])
  refine byCode ?_
  refine KL.e rfl (Eff.nextM rfl byTake byTake hmh) ?_
  rintro _ _ (⟨rfl, hall, rfl⟩ | ⟨e, he, hn', rfl, rfl⟩)
  · have hroots := frm_roots ok hpk hall
    obtain ⟨frm, hfrm⟩ : ∃ frm, frm = frmP sm.st pk := ⟨_, rfl⟩
    rw [← hfrm] at hroots okp ⊢
    have hfl : frm.length ≤ 2000 := by
      rw [hfrm]; unfold frmP
      have : (fromA sm.st (objsP sm.st).length).length ≤ 100 := Nat.le_trans (by rw [fromA, List.length_map]; exact Nat.le_trans (List.length_filter_le _ _) (by rw [List.length_range]; exact Nat.le_refl _)) (by rw [← hids]; omega)
      rw [List.length_append, List.length_map]; omega
    have hrows : ∀ r ∈ rowsI sm.st, r.length ≤ 1000 := by
      intro r hr'
      obtain ⟨i, hi, rfl⟩ := List.mem_map.1 hr'
      have hTi := (objs_mem hn).1 hi
      obtain ⟨x, hx⟩ := Option.isSome_iff_exists.1 hTi
      unfold rowI
      rw [hx]
      simp only [List.length_map]
      exact Nat.le_trans (List.length_filter_le _ _) (hr i x hx)
    obtain ⟨hokL, hswL⟩ := left_swept ok hC hroots
    obtain ⟨is, his⟩ : ∃ is, is = reachP (rowsI sm.st) frm := ⟨_, rfl⟩
    have hisl : is.length = ids.length := by rw [his, reach_len, rowsI_len, hids]
    (refine KL.v rfl (Val.extract rfl rfl) ?_)
    refine KL.nil ?_
    refine KE.next ?_
    refine K.seq ?_
    refine K.condF rfl ?_
    refine K.exit ?_
    refine KE.passX ?_
    refine KE.passX ?_
    refine KE.blkX ?_
    refine KE.next ?_
    refine K.seq ?_
    refine K.region ?_
    (refine KL.v rfl (Val.move rfl) ?_)
    (refine KL.v rfl (Val.move rfl) ?_)
    (refine KL.callc rfl rfl byEvL fun T hT => ?_)
    refine (ReachO_K (rows := rowsI sm.st) (l := frm) okw oks hmp byPart bySli (by omega) (by rw [rowsI_len, ← hids]; omega) hrows).mono ?_
    rintro _ _ ⟨ob, okb, rfl, rfl⟩
    refine hT _ _ ?_; clear hT; clear T
    rw [← his] at okb hokL hswL ⊢
    rw [← hids] at hokL hswL
    (refine KL.v rfl (Val.lenSl rfl rfl (Sli.own byTakeL (by assumption) byLen)) ?_)
    (refine KL.v rfl (Val.move rfl) ?_)
    refine KL.nil ?_
    refine KE.next ?_
    refine K.block ?_
    refine K.loopT (σ := Nat) [(0, _), (2, _), (93, _), (94, _)] (fun s kp_ => (95, .int .i64 (s : Nat)) :: kp_) (fun s => (sm.b, cells [oV sm.oc sm.cl.length, .int .i64 sm.quota, .int .i64 sm.caps, .map (some sm.bt), .map (some sm.bh), .int .i64 sm.made, .int .i64 sm.minted] 57) :: (sm.bt, mobj ((leftP sm.ts ids is s).map tE) sm.ct) :: (sm.bh, mobj (sm.hs.map hE) sm.ch) :: (oH iE 3 sm.cl sm.oc ++ (tsH sm.ts ++ (oH boE 4 is ob ++ (oH iE 3 ids o ++ F))))) (fun s => s ≤ ids.length) (fun s => ids.length - s) (0) bySub (by rw [left_zero]; exact byPart) (by simp) ?_
    rintro k hk
    by_cases hlt : k < ids.length
    · obtain ⟨i, hi⟩ := get_of_lt hlt
      obtain ⟨b, hb⟩ := get_of_lt (l := is) (k := k) (by omega)
      have hmt : MOk ((leftP sm.ts ids is k).map tE) sm.ct := ok.mt.sub (List.filter_sublist.map _)
      have hki : k < is.length := by omega
      cases b with
      | true =>
        have hs := left_stay (ts := sm.ts) (ids := ids) hb
        rw [← hs]
        refine K.seq ?_
        refine K.region ?_
        (refine KL.v rfl (Val.isT (Val.lss rfl rfl) byLt) ?_)
        refine KL.nil ?_
        refine KE.next ?_
        refine K.seq ?_
        refine K.condT rfl ?_
        refine K.skip ?_
        refine KE.next ?_
        refine K.seq ?_
        refine K.block ?_
        refine K.seq ?_
        refine K.region ?_
        (refine KL.v rfl (Val.move rfl) ?_)
        (refine KL.v rfl (Val.idxSl rfl rfl rfl (Sli.own byTakeL (by assumption) byLen) rfl byLt) ?_)
        (refine KL.v rfl (Val.loadP rfl rfl (Sees.sl0 (Sli.own byTakeL (by assumption) byLen) (by assumption) rfl)) ?_)
        (refine KL.v rfl (Val.assign rfl) ?_)
        (refine KL.v rfl (Val.assign rfl) ?_)
        refine KL.nil ?_
        refine KE.next ?_
        refine K.seq ?_
        refine K.region ?_
        (refine KL.v rfl (Val.move rfl) ?_)
        (refine KL.v rfl (Val.notT rfl) ?_)
        refine KL.nil ?_
        refine KE.next ?_
        refine K.condF rfl ?_
        refine K.skip ?_
        refine KE.blkN ?_
        refine KE.next ?_
        refine K.region ?_
        (refine KL.v rfl (Val.add rfl rfl (by simp only [Go.Proofs.YthamkgghnjenhaaGreat.lo, Go.Proofs.YthamkgghnjenhaaGreat.hi]; omega)) ?_)
        (refine KL.v rfl (Val.move rfl) ?_)
        refine KL.nil ?_
        exact KE.again (k + 1) bySub byPart (by omega) (by omega)
      | false =>
        have hs := left_go (ts := sm.ts) hb hi
        refine K.seq ?_
        refine K.region ?_
        (refine KL.v rfl (Val.isT (Val.lss rfl rfl) byLt) ?_)
        refine KL.nil ?_
        refine KE.next ?_
        refine K.seq ?_
        refine K.condT rfl ?_
        refine K.skip ?_
        refine KE.next ?_
        refine K.seq ?_
        refine K.block ?_
        refine K.seq ?_
        refine K.region ?_
        (refine KL.v rfl (Val.move rfl) ?_)
        (refine KL.v rfl (Val.idxSl rfl rfl rfl (Sli.own byTakeL (by assumption) byLen) rfl byLt) ?_)
        (refine KL.v rfl (Val.loadP rfl rfl (Sees.sl0 (Sli.own byTakeL (by assumption) byLen) (by assumption) rfl)) ?_)
        (refine KL.v rfl (Val.assign rfl) ?_)
        (refine KL.v rfl (Val.assign rfl) ?_)
        refine KL.nil ?_
        refine KE.next ?_
        refine K.seq ?_
        refine K.region ?_
        (refine KL.v rfl (Val.move rfl) ?_)
        (refine KL.v rfl (Val.notF rfl) ?_)
        refine KL.nil ?_
        refine KE.next ?_
        refine K.condT rfl ?_
        refine K.drawn [] [(0, 0), (1, 0), (2, 0), (3, 0), (4, 0), (5, 0), (6, 0), (7, 0), (8, 2)] (by kernel_rfl) (by kernel_rfl) (by kernel_rfl) (by kernel_rfl) (by kernel_rfl) (by kernel_rfl) Part.nil ?_
        refine KD.v0 rfl rfl (Val.move rfl) ?_
        refine KD.v0 rfl rfl (Val.nilCheck rfl) ?_
        refine KD.v0 rfl rfl (Val.fieldAddr0 (k := 3) rfl rfl) ?_
        refine KD.v0 rfl rfl (Val.loadP rfl rfl (Sees.cell byTake rfl)) ?_
        refine KD.v0 rfl rfl (Val.move rfl) ?_
        refine KD.v0 rfl rfl (Val.move rfl) ?_
        refine KD.v0 rfl rfl (Val.idxSl rfl rfl rfl (Sli.own byTakeL (by assumption) byLen) rfl byLt) ?_
        refine KD.v0 rfl rfl (Val.loadP rfl rfl (Sees.sl0 (Sli.own byTakeL (by assumption) byLen) (by assumption) rfl)) ?_
        (refine KD.eN rfl (Eff.mapDel rfl rfl rfl byTake (by assumption)) ?_; rintro _ _ rfl; refine ⟨byPart, ?_⟩)
        refine KD.nil ?_
        refine KE.blkN ?_
        refine KE.next ?_
        rw [mdel_tE, ← hs]
        refine K.region ?_
        (refine KL.v rfl (Val.add rfl rfl (by simp only [Go.Proofs.YthamkgghnjenhaaGreat.lo, Go.Proofs.YthamkgghnjenhaaGreat.hi]; omega)) ?_)
        (refine KL.v rfl (Val.move rfl) ?_)
        refine KL.nil ?_
        exact KE.again (k + 1) bySub byPart (by omega) (by omega)
    · have hke : k = ids.length := by omega
      subst hke
      refine K.seq ?_
      refine K.region ?_
      (refine KL.v rfl (Val.isF (Val.lss rfl rfl) byLt) ?_)
      refine KL.nil ?_
      refine KE.next ?_
      refine K.seq ?_
      refine K.condF rfl ?_
      refine K.exit ?_
      refine KE.passX ?_
      refine KE.passX ?_
      refine KE.blkX ?_
      refine KE.part (tsH sm.ts ++ ((sm.b, cells [oV sm.oc sm.cl.length, .int .i64 sm.quota, .int .i64 sm.caps, .map (some sm.bt), .map (some sm.bh), .int .i64 sm.made, .int .i64 sm.minted] 57) :: (sm.bt, mobj ((leftP sm.ts ids is ids.length).map tE) sm.ct) :: (sm.bh, mobj (sm.hs.map hE) sm.ch) :: (oH iE 3 sm.cl sm.oc ++ F))) byPart ?_
      refine KE.part (tsH (leftP sm.ts ids is ids.length) ++ _) (part_tsH _ _ _) ?_
      exact KE.finN byMarks rfl byRes (by rw [smH_app (sm := leftM sm (leftP sm.ts ids is ids.length))]; exact byPart) ⟨leftM sm (leftP sm.ts ids is ids.length), hokL, rfl, hswL, rfl⟩
  · obtain ⟨h, hh, rfl⟩ := List.mem_map.1 he
    have hlt := mleft_lt he hn'
    obtain ⟨i, hi⟩ : ∃ i, sm.st.Hd h.k = some i ∧ i = h.v := by
      have hg : mget (sm.hs.map hE) h.k = some (.int .i64 h.v) := (mget_iff ok.mh).2 ⟨hE h, he, rfl, rfl⟩
      rw [mget_hE] at hg
      obtain ⟨v, hv, hv2⟩ := Option.map_eq_some_iff.1 hg
      injection hv2 with _ hv2
      exact ⟨v, hv, hv2⟩
    obtain ⟨hi, rfl⟩ := hi
    have hAv := hAt h.v (hC.hr h.k h.v hi)
    have hfs : frmP sm.st (pk ++ [h]) = frmP sm.st pk ++ [((ixP ids h.v : Nat) : Int)] := by unfold frmP; rw [List.map_append, ← List.append_assoc, hids]; rfl
    have hfl : (frmP sm.st pk).length ≤ 2000 := by
      unfold frmP
      have : (fromA sm.st (objsP sm.st).length).length ≤ 100 := Nat.le_trans (by rw [fromA, List.length_map]; exact Nat.le_trans (List.length_filter_le _ _) (by rw [List.length_range]; exact Nat.le_refl _)) (by rw [← hids]; omega)
      rw [List.length_append, List.length_map]; omega
    have hbd : (frmP sm.st pk ++ [((ixP ids h.v : Nat) : Int)]).length ≤ 4294967296 := by simp only [List.length_append, List.length_singleton]; omega
    have hv : (hE h).v = .int .i64 h.v := rfl
    have hk : (hE h).k = h.k := rfl
    (refine KL.v rfl (Val.extract rfl rfl) ?_)
    refine KL.nil ?_
    refine KE.next ?_
    refine K.seq ?_
    refine K.condT rfl ?_
    refine K.skip ?_
    refine KE.next ?_
    refine K.block ?_
    refine K.seq ?_
    refine K.region ?_
    (refine KL.v rfl (Val.entryM rfl byTake byTake (by assumption) (by assumption)) ?_)
    (refine KL.v rfl (Val.extract rfl rfl) ?_)
    (refine KL.v rfl (Val.assign rfl) ?_)
    refine KL.nil ?_
    refine KE.next ?_
    refine K.region ?_
    (refine KL.v rfl (Val.move rfl) ?_)
    (refine KL.v rfl (Val.move rfl) ?_)
    (refine KL.v rfl (Val.move rfl) ?_)
    (refine KL.v rfl (Val.lookS rfl rfl rfl byTake (by assumption)) ?_)
    (refine KL.e rfl (Eff.buildS byParts rfl rfl rfl rfl rfl byFill) ?_; rintro _ _ ⟨b89, rfl, rfl⟩)
    (refine KL.e rfl (Eff.appZ (ys := [_]) rfl rfl rfl rfl rfl rfl byTakeL (by assumption) (by first | exact Sli.blk byTake rfl (by first | decide | simp) (by first | decide | (unfold maxLen; omega)) rfl | exact Sli.old (by assumption) | exact Sli.own byTakeL (by assumption) byLen | assumption | exact Sli.part (by assumption) byPart) rfl (by first | assumption | omega | (simp <;> fail) | (simp; omega)) rfl) ?_; rintro _ _ ⟨o90, ok90, rfl, rfl⟩)
    (refine KL.v rfl (Val.assign rfl) ?_)
    refine KL.nil ?_
    refine KE.blkN ?_
    rw [← hfs] at ok90 ⊢
    exact KE.again ⟨pk ++ [h], o90⟩ bySub (by dsimp only; rw [List.map_append]; (first | exact byPart | (rw [smH_app (sm := sm)]; exact byPart))) ⟨fun e he' => by
      rcases List.mem_append.1 he' with h' | h'
      · exact hpk e h'
      · rw [List.mem_singleton.1 h']; exact hh, ok90, by
      dsimp only
      rw [List.map_append, List.length_append]
      have : (mleft (sm.hs.map hE) (pk.map hE ++ [hE h])).length < (mleft (sm.hs.map hE) (pk.map hE)).length := hlt
      show pk.length + 1 + (mleft (sm.hs.map hE) (pk.map hE ++ [hE h])).length ≤ _
      omega⟩ (by show (mleft (sm.hs.map hE) ((pk ++ [h]).map hE)).length < _; rw [List.map_append]; exact hlt)
end Go.Proofs.YthamkgghnjenhaaGreat
namespace Go.Proofs.YthamkgghnjenhaaGreat
open Go.RowKit
set_option linter.unusedVariables false
set_option linter.unusedSimpArgs false
set_option maxRecDepth 10000

theorem setT_eq {sm : SM} {A B : List ThS} {t t' : ThS} (h : sm.ts = A ++ t :: B) (hA : ∀ e ∈ A, e.k ≠ t.k) (hk : t'.k = t.k) : (setT sm A t' B).st = setTP sm.st t.k t'.x := by
  have := setT_st (t' := t') h hA hk
  show ((⟨sm.cl, sm.quota, sm.caps, _, _, _, _⟩ : St)) = ((⟨sm.cl, sm.quota, sm.caps, _, _, _, _⟩ : St))
  rw [show tf (setT sm A t' B).ts = _ from this]; rfl
theorem closed_set {S : St} (hC : Closed S) {i : Int} {x x' : Th} (hx : S.T i = some x) (hr : ∀ r ∈ x'.refs, r ≠ 0 → (S.T r).isSome) : Closed (setTP S i x') := by
  have hs : ∀ j, (S.T j).isSome → ((setTP S i x').T j).isSome := fun j hj => by
    show (if j = i then some x' else S.T j).isSome = true
    split
    · rfl
    · exact hj
  refine ⟨⟨fun j y hy => ?_, hC.nums.h⟩, fun j y r hy hm h0 => ?_, fun h j hj => hs j (hC.hr h j hj)⟩
  · have hy' : (if j = i then some x' else S.T j) = some y := hy
    split at hy'
    · rename_i e; subst e; exact hC.nums.t j x hx
    · exact hC.nums.t j y hy'
  · have hy' : (if j = i then some x' else S.T j) = some y := hy
    split at hy'
    · cases hy'; exact hs r (hr r hm h0)
    · exact hs r (hC.rf j y r hy' hm h0)
theorem write_K {w0 : World} {F : Heap} {sm : SM} {op : OpP} {id : Int} {x : Th} (ok : SOk sm) (hC : Closed sm.st) (hm : sm.made ≤ 100) (hmi : sm.minted ≤ 1000) (hh : hf sm.hs op.h = some id) (hx : tf sm.ts id = some x)
    (hr : ∀ i x, tf sm.ts i = some x → x.refs.length ≤ 1000 ∧ x.words.length ≤ 1000) :
    Call Tryz.prog w0 49 [.pointer (some ⟨sm.b, 0, none⟩), opV op] (smH sm ++ F)
      (fun r H' => ∃ sm', SOk sm' ∧ sm'.b = sm.b ∧ (if (writeP sm.st id x op).2.2 then Swept (writeP sm.st id x op).1 sm'.st else sm'.st = (writeP sm.st id x op).1) ∧ r = sdV (writeP sm.st id x op).2.1 ∧ H' = smH sm' ++ F) := by
  obtain ⟨A, t, B, hA, rfl⟩ := at_of hx
  obtain ⟨k1, k2⟩ := hA.ok ok
  have hrt := hr id t.x hx
  have hopv : opV op = .agg [.int .u8 op.code, .int .i64 op.h, .int .i64 op.a, .int .i64 op.b, .int .u64 op.v, .int .i64 op.to].toArray := rfl
  rw [hopv]
  refine Call.enter2 (n := 59) (by kernel_rfl) Tryz.func49 rfl rfl rfl ?_
  refine K.seq ?_
  refine K.region ?_
  (refine KL.e rfl (Eff.box rfl rfl) ?_; rintro _ _ ⟨b3, rfl, rfl⟩)
  (refine KL.e rfl (Eff.alloc rfl) ?_; rintro _ _ ⟨b4, rfl, rfl⟩)
  refine KL.nil ?_
  refine KE.next ?_
  refine K.seq ?_
  refine K.region ?_
  (refine KL.v rfl (Val.move rfl) ?_)
  (refine KL.v rfl (Val.loadA rfl rfl rfl bySeeN) ?_)
  (refine KL.callc rfl rfl byEvL fun T hT => ?_)
  refine (CallV.part (CallV.fn (field_K (op := op) ok hh hA hrt)) byPart).mono ?_
  rintro _ _ ⟨rfl, rfl⟩
  cases hf : fieldP t.x op.a with
  | false =>
    have hp : writeP sm.st id t.x op = (sm.st, ⟨110, 0, 0⟩, false) := by unfold writeP; rw [hf]; rfl
    simp only [hf, Bool.false_and, errB, Bool.false_eq_true, if_false] at hT ⊢
    refine hT _ _ ?_; clear hT; clear T
    (refine KL.v rfl (Val.move rfl) ?_)
    (refine KL.v rfl (Val.extract rfl rfl) ?_)
    (refine KL.v rfl (Val.extract rfl rfl) ?_)
    (refine KL.v rfl (Val.extract rfl rfl) ?_)
    (refine KL.e rfl (Eff.alloc rfl) ?_; rintro _ _ ⟨b5, rfl, rfl⟩)
    (refine KL.eN (Eff.storeAL rfl rfl rfl byTake byLay byOnes) ?_; rintro _ _ rfl)
    (refine KL.v rfl (Val.assign rfl) ?_)
    (refine KL.v rfl (Val.assign rfl) ?_)
    refine KL.nil ?_
    refine KE.next ?_
    refine K.seq ?_
    refine K.block ?_
    refine K.seq ?_
    refine K.region ?_
    (refine KL.v rfl (Val.move rfl) ?_)
    (refine KL.v rfl (Val.isT (Val.neq rfl rfl) byLt) ?_)
    (refine KL.v rfl (Val.assign rfl) ?_)
    refine KL.nil ?_
    refine KE.next ?_
    refine K.condT rfl ?_
    refine K.seq ?_
    refine K.region ?_
    (refine KL.v rfl (Val.move rfl) ?_)
    (refine KL.v rfl (Val.build byParts rfl rfl byFill) ?_)
    (refine KL.eN (Eff.storeAL rfl rfl rfl byTake byLay byOnes) ?_; rintro _ _ rfl)
    refine KL.nil ?_
    refine KE.next ?_
    refine K.ret ?_
    refine KE.blkR ?_
    refine KE.passR ?_
    exact KE.fin byMarks rfl byRes byPart ⟨sm, ok, rfl, by rw [hp]; rfl, by rw [hp]; rfl, rfl⟩
  | true =>
    have hf' : 0 ≤ op.a ∧ op.a < (t.x.refs.length + t.x.words.length : Nat) := by simpa [fieldP] using hf
    by_cases h1 : op.a < (t.x.refs.length : Nat)
    · simp only [hf, Bool.true_and, errB, if_true, decide_eq_true h1] at hT ⊢
      obtain ⟨y, hy⟩ := get_of_lt (l := t.x.refs) (k := op.a.toNat) (by omega)
      refine hT _ _ ?_; clear hT; clear T
      by_cases h0 : op.to = 0
      · have h0' : ¬ op.to ≠ 0 := by omega
        obtain ⟨t', ht'⟩ : ∃ t' : ThS, t' = ⟨t.k, ⟨t.x.refs.set op.a.toNat 0, t.x.words, t.x.size, t.x.pins⟩, t.o1, t.o2, t.n⟩ := ⟨_, rfl⟩
        have hok : SOk (setT sm A t' B) := setT_ok ok hA.eq (by rw [ht']) (by rw [ht']) (by rw [ht']; exact ⟨k1.set _ _, k2⟩)
        have hst : (setT sm A t' B).st = setTP sm.st id t'.x := by rw [setT_eq hA.eq hA.na (by rw [ht']), hA.k]
        have hp : writeP sm.st id t.x op = ((setT sm A t' B).st, ⟨0, 0, 0⟩, true) := by
          unfold writeP; rw [hf, if_pos rfl, if_pos h1, if_pos h0, hst, ht']
        have hCl : Closed (setT sm A t' B).st := by
          rw [hst]
          refine closed_set hC hx fun r hm0 h00 => ?_
          rw [ht'] at hm0
          rcases List.mem_or_eq_of_mem_set hm0 with h | h
          · exact hC.rf id t.x r hx h h00
          · exact absurd h h00
        have hE : (A ++ t' :: B).map tE = (A ++ t :: B).map tE := by
          rw [List.map_append, List.map_append, List.map_cons, List.map_cons, show tE t' = tE t by rw [ht']; simp [tE, tV, List.length_set]]
        have hrl : ∀ i y, tf (setT sm A t' B).ts i = some y → y.refs.length ≤ 1000 := by
          intro i y hy
          have hy' : (setT sm A t' B).st.T i = some y := hy
          rw [hst] at hy'
          have hy2 : (if i = id then some t'.x else sm.st.T i) = some y := hy'
          split at hy2
          · cases hy2; rw [ht']; simp only [List.length_set]; exact hrt.1
          · exact (hr i y hy2).1
        (rw [smH_mapp hA.eq])
        (refine KL.v rfl (Val.move rfl) ?_)
        (refine KL.v rfl (Val.extract rfl rfl) ?_)
        (refine KL.v rfl (Val.extract rfl rfl) ?_)
        (refine KL.v rfl (Val.extract rfl rfl) ?_)
        (refine KL.e rfl (Eff.alloc rfl) ?_; rintro _ _ ⟨b5, rfl, rfl⟩)
        (refine KL.eN (Eff.storeAL rfl rfl rfl byTake byLay byOnes) ?_; rintro _ _ rfl)
        (refine KL.v rfl (Val.assign rfl) ?_)
        (refine KL.v rfl (Val.assign rfl) ?_)
        refine KL.nil ?_
        refine KE.next ?_
        refine K.seq ?_
        refine K.block ?_
        refine K.seq ?_
        refine K.region ?_
        (refine KL.v rfl (Val.move rfl) ?_)
        (refine KL.v rfl (Val.isF (Val.neq rfl rfl) byLt) ?_)
        (refine KL.v rfl (Val.assign rfl) ?_)
        refine KL.nil ?_
        refine KE.next ?_
        refine K.condF rfl ?_
        refine K.seq ?_
        refine K.region ?_
        (refine KL.v rfl (Val.move rfl) ?_)
        (refine KL.v rfl (Val.notT rfl) ?_)
        (refine KL.v rfl (Val.assign rfl) ?_)
        refine KL.nil ?_
        refine KE.next ?_
        refine K.condF rfl ?_
        refine K.skip ?_
        refine KE.blkN ?_
        refine KE.next ?_
        refine K.seq ?_
        refine K.region ?_
        (refine KL.v rfl (Val.assign rfl) ?_)
        refine KL.nil ?_
        refine KE.next ?_
        refine K.seq ?_
        refine K.seq ?_
        refine K.region ?_
        (refine KL.v rfl (Val.fieldAddr0 (k := 5) rfl rfl) ?_)
        (refine KL.v rfl (Val.loadP rfl rfl (Sees.cell byTake rfl)) ?_)
        (refine KL.v rfl (Val.isF (Val.neq rfl rfl) byLt) ?_)
        refine KL.nil ?_
        refine KE.next ?_
        refine K.condF rfl ?_
        refine K.skip ?_
        refine KE.next ?_
        refine K.seq ?_
        refine K.region ?_
        (refine KL.v rfl (Val.fieldAddr0 (k := 0) rfl rfl) ?_)
        (refine KL.v rfl (Val.loadP rfl rfl (Sees.cell byTake rfl)) ?_)
        (refine KL.v rfl (Val.fieldAddr0 (k := 2) rfl rfl) ?_)
        (refine KL.v rfl (Val.loadP rfl rfl (Sees.cell byTake rfl)) ?_)
        (refine KL.v rfl (Val.move rfl) ?_)
        (refine KL.v rfl (Val.idxSlZ rfl rfl rfl (Sli.own byTakeL (by assumption) byLen) rfl (by omega)) ?_)
        (refine KL.eN (Eff.stSl0 rfl rfl rfl rfl byTakeL (by assumption) (by assumption) rfl rfl) ?_; rintro _ _ rfl)
        refine KL.nil ?_
        refine KE.next ?_
        rw [← hE]
        subst ht'
        refine K.part (smH (setT sm A _ B) ++ _) (by rw [smH_mapp (sm := setT sm A _ B) rfl]; exact byPart) ?_
        refine K.seq ?_
        refine K.region ?_
        (refine KL.v rfl (Val.move rfl) ?_)
        (refine KL.callc rfl rfl byEvL fun T hT => ?_)
        refine (CallV.part (CallV.fn (sweep_K hok hCl hm hmi hrl)) byPart).mono ?_
        rintro _ _ ⟨sm', ok', hb', hsw, rfl⟩
        refine hT _ _ ?_; clear hT; clear T
        refine KL.nil ?_
        refine KE.next ?_
        refine K.seq ?_
        refine K.region ?_
        (refine KL.v rfl (Val.build byParts rfl rfl byFill) ?_)
        (refine KL.eN (Eff.storeAL rfl rfl rfl byTake byLay byOnes) ?_; rintro _ _ rfl)
        refine KL.nil ?_
        refine KE.next ?_
        refine K.ret ?_
        exact KE.fin byMarks rfl byRes byPart ⟨sm', ok', hb', by rw [hp]; exact hsw, by rw [hp]; rfl, rfl⟩
      · cases hn : sm.st.Hd op.to with
        | none =>
          have hp : writeP sm.st id t.x op = (sm.st, ⟨130, 0, 0⟩, false) := by unfold writeP; rw [hf, if_pos rfl, if_pos h1, if_neg h0, hn]
          have hnm : namesP sm.st op.to = (0, 130) := by unfold namesP; rw [hn]
          (refine KL.v rfl (Val.move rfl) ?_)
          (refine KL.v rfl (Val.extract rfl rfl) ?_)
          (refine KL.v rfl (Val.extract rfl rfl) ?_)
          (refine KL.v rfl (Val.extract rfl rfl) ?_)
          (refine KL.e rfl (Eff.alloc rfl) ?_; rintro _ _ ⟨b5, rfl, rfl⟩)
          (refine KL.eN (Eff.storeAL rfl rfl rfl byTake byLay byOnes) ?_; rintro _ _ rfl)
          (refine KL.v rfl (Val.assign rfl) ?_)
          (refine KL.v rfl (Val.assign rfl) ?_)
          refine KL.nil ?_
          refine KE.next ?_
          refine K.seq ?_
          refine K.block ?_
          refine K.seq ?_
          refine K.region ?_
          (refine KL.v rfl (Val.move rfl) ?_)
          (refine KL.v rfl (Val.isF (Val.neq rfl rfl) byLt) ?_)
          (refine KL.v rfl (Val.assign rfl) ?_)
          refine KL.nil ?_
          refine KE.next ?_
          refine K.condF rfl ?_
          refine K.seq ?_
          refine K.region ?_
          (refine KL.v rfl (Val.move rfl) ?_)
          (refine KL.v rfl (Val.notT rfl) ?_)
          (refine KL.v rfl (Val.assign rfl) ?_)
          refine KL.nil ?_
          refine KE.next ?_
          refine K.condF rfl ?_
          refine K.skip ?_
          refine KE.blkN ?_
          refine KE.next ?_
          refine K.seq ?_
          refine K.region ?_
          (refine KL.v rfl (Val.assign rfl) ?_)
          refine KL.nil ?_
          refine KE.next ?_
          refine K.seq ?_
          refine K.seq ?_
          refine K.region ?_
          (refine KL.v rfl (Val.fieldAddr0 (k := 5) rfl rfl) ?_)
          (refine KL.v rfl (Val.loadP rfl rfl (Sees.cell byTake rfl)) ?_)
          (refine KL.v rfl (Val.isT (Val.neq rfl rfl) byLt) ?_)
          refine KL.nil ?_
          refine KE.next ?_
          refine K.condT rfl ?_
          refine K.seq ?_
          refine K.region ?_
          (refine KL.v rfl (Val.move rfl) ?_)
          (refine KL.v rfl (Val.fieldAddr0 (k := 5) rfl rfl) ?_)
          (refine KL.v rfl (Val.loadP rfl rfl (Sees.cell byTake rfl)) ?_)
          (refine KL.callc rfl rfl byEvL fun T hT => ?_)
          refine (CallV.part (CallV.fn (NamesS_K (h := op.to))) byPart).mono ?_
          rintro _ _ ⟨rfl, rfl⟩
          refine hT _ _ ?_; clear hT; clear T
          rw [hnm]
          (refine KL.v rfl (Val.move rfl) ?_)
          (refine KL.v rfl (Val.extract rfl rfl) ?_)
          (refine KL.v rfl (Val.extract rfl rfl) ?_)
          (refine KL.v rfl (Val.assign rfl) ?_)
          (refine KL.v rfl (Val.assign rfl) ?_)
          refine KL.nil ?_
          refine KE.next ?_
          refine K.seq ?_
          refine K.region ?_
          (refine KL.v rfl (Val.move rfl) ?_)
          (refine KL.v rfl (Val.isT (Val.neq rfl rfl) byLt) ?_)
          refine KL.nil ?_
          refine KE.next ?_
          refine K.condT rfl ?_
          refine K.seq ?_
          refine K.region ?_
          (refine KL.v rfl (Val.move rfl) ?_)
          (refine KL.v rfl (Val.build byParts rfl rfl byFill) ?_)
          (refine KL.eN (Eff.storeAL rfl rfl rfl byTake byLay byOnes) ?_; rintro _ _ rfl)
          refine KL.nil ?_
          refine KE.next ?_
          refine K.ret ?_
          refine KE.passR ?_
          exact KE.fin byMarks rfl byRes byPart ⟨sm, ok, rfl, by rw [hp]; rfl, by rw [hp]; rfl, rfl⟩
        | some z =>
          have hnm : namesP sm.st op.to = (z, 0) := by unfold namesP; rw [hn]
          obtain ⟨t', ht'⟩ : ∃ t' : ThS, t' = ⟨t.k, ⟨t.x.refs.set op.a.toNat z, t.x.words, t.x.size, t.x.pins⟩, t.o1, t.o2, t.n⟩ := ⟨_, rfl⟩
          have hok : SOk (setT sm A t' B) := setT_ok ok hA.eq (by rw [ht']) (by rw [ht']) (by rw [ht']; exact ⟨k1.set _ _, k2⟩)
          have hst : (setT sm A t' B).st = setTP sm.st id t'.x := by rw [setT_eq hA.eq hA.na (by rw [ht']), hA.k]
          have hp : writeP sm.st id t.x op = ((setT sm A t' B).st, ⟨0, 0, 0⟩, true) := by
            unfold writeP; rw [hf, if_pos rfl, if_pos h1, if_neg h0, hn, hst, ht']
          have hCl : Closed (setT sm A t' B).st := by
            rw [hst]
            refine closed_set hC hx fun r hm0 h00 => ?_
            rw [ht'] at hm0
            rcases List.mem_or_eq_of_mem_set hm0 with h | h
            · exact hC.rf id t.x r hx h h00
            · rw [h]; exact hC.hr _ _ hn
          have hE : (A ++ t' :: B).map tE = (A ++ t :: B).map tE := by
            rw [List.map_append, List.map_append, List.map_cons, List.map_cons, show tE t' = tE t by rw [ht']; simp [tE, tV, List.length_set]]
          have hrl : ∀ i y, tf (setT sm A t' B).ts i = some y → y.refs.length ≤ 1000 := by
            intro i y hy
            have hy' : (setT sm A t' B).st.T i = some y := hy
            rw [hst] at hy'
            have hy2 : (if i = id then some t'.x else sm.st.T i) = some y := hy'
            split at hy2
            · cases hy2; rw [ht']; simp only [List.length_set]; exact hrt.1
            · exact (hr i y hy2).1
          (refine KL.v rfl (Val.move rfl) ?_)
          (refine KL.v rfl (Val.extract rfl rfl) ?_)
          (refine KL.v rfl (Val.extract rfl rfl) ?_)
          (refine KL.v rfl (Val.extract rfl rfl) ?_)
          (refine KL.e rfl (Eff.alloc rfl) ?_; rintro _ _ ⟨b5, rfl, rfl⟩)
          (refine KL.eN (Eff.storeAL rfl rfl rfl byTake byLay byOnes) ?_; rintro _ _ rfl)
          (refine KL.v rfl (Val.assign rfl) ?_)
          (refine KL.v rfl (Val.assign rfl) ?_)
          refine KL.nil ?_
          refine KE.next ?_
          refine K.seq ?_
          refine K.block ?_
          refine K.seq ?_
          refine K.region ?_
          (refine KL.v rfl (Val.move rfl) ?_)
          (refine KL.v rfl (Val.isF (Val.neq rfl rfl) byLt) ?_)
          (refine KL.v rfl (Val.assign rfl) ?_)
          refine KL.nil ?_
          refine KE.next ?_
          refine K.condF rfl ?_
          refine K.seq ?_
          refine K.region ?_
          (refine KL.v rfl (Val.move rfl) ?_)
          (refine KL.v rfl (Val.notT rfl) ?_)
          (refine KL.v rfl (Val.assign rfl) ?_)
          refine KL.nil ?_
          refine KE.next ?_
          refine K.condF rfl ?_
          refine K.skip ?_
          refine KE.blkN ?_
          refine KE.next ?_
          refine K.seq ?_
          refine K.region ?_
          (refine KL.v rfl (Val.assign rfl) ?_)
          refine KL.nil ?_
          refine KE.next ?_
          refine K.seq ?_
          refine K.seq ?_
          refine K.region ?_
          (refine KL.v rfl (Val.fieldAddr0 (k := 5) rfl rfl) ?_)
          (refine KL.v rfl (Val.loadP rfl rfl (Sees.cell byTake rfl)) ?_)
          (refine KL.v rfl (Val.isT (Val.neq rfl rfl) byLt) ?_)
          refine KL.nil ?_
          refine KE.next ?_
          refine K.condT rfl ?_
          refine K.seq ?_
          refine K.region ?_
          (refine KL.v rfl (Val.move rfl) ?_)
          (refine KL.v rfl (Val.fieldAddr0 (k := 5) rfl rfl) ?_)
          (refine KL.v rfl (Val.loadP rfl rfl (Sees.cell byTake rfl)) ?_)
          (refine KL.callc rfl rfl byEvL fun T hT => ?_)
          refine (CallV.part (CallV.fn (NamesS_K (h := op.to))) byPart).mono ?_
          rintro _ _ ⟨rfl, rfl⟩
          refine hT _ _ ?_; clear hT; clear T
          rw [hnm]
          (rw [smH_mapp hA.eq])
          (refine KL.v rfl (Val.move rfl) ?_)
          (refine KL.v rfl (Val.extract rfl rfl) ?_)
          (refine KL.v rfl (Val.extract rfl rfl) ?_)
          (refine KL.v rfl (Val.assign rfl) ?_)
          (refine KL.v rfl (Val.assign rfl) ?_)
          refine KL.nil ?_
          refine KE.next ?_
          refine K.seq ?_
          refine K.region ?_
          (refine KL.v rfl (Val.move rfl) ?_)
          (refine KL.v rfl (Val.isF (Val.neq rfl rfl) byLt) ?_)
          refine KL.nil ?_
          refine KE.next ?_
          refine K.condF rfl ?_
          refine K.skip ?_
          refine KE.next ?_
          refine K.seq ?_
          refine K.region ?_
          (refine KL.v rfl (Val.fieldAddr0 (k := 0) rfl rfl) ?_)
          (refine KL.v rfl (Val.loadP rfl rfl (Sees.cell byTake rfl)) ?_)
          (refine KL.v rfl (Val.fieldAddr0 (k := 2) rfl rfl) ?_)
          (refine KL.v rfl (Val.loadP rfl rfl (Sees.cell byTake rfl)) ?_)
          (refine KL.v rfl (Val.move rfl) ?_)
          (refine KL.v rfl (Val.idxSlZ rfl rfl rfl (Sli.own byTakeL (by assumption) byLen) rfl (by omega)) ?_)
          (refine KL.eN (Eff.stSl0 rfl rfl rfl rfl byTakeL (by assumption) (by assumption) rfl rfl) ?_; rintro _ _ rfl)
          refine KL.nil ?_
          refine KE.next ?_
          rw [← hE]
          subst ht'
          refine K.part (smH (setT sm A _ B) ++ _) (by rw [smH_mapp (sm := setT sm A _ B) rfl]; exact byPart) ?_
          refine K.seq ?_
          refine K.region ?_
          (refine KL.v rfl (Val.move rfl) ?_)
          (refine KL.callc rfl rfl byEvL fun T hT => ?_)
          refine (CallV.part (CallV.fn (sweep_K hok hCl hm hmi hrl)) byPart).mono ?_
          rintro _ _ ⟨sm', ok', hb', hsw, rfl⟩
          refine hT _ _ ?_; clear hT; clear T
          refine KL.nil ?_
          refine KE.next ?_
          refine K.seq ?_
          refine K.region ?_
          (refine KL.v rfl (Val.build byParts rfl rfl byFill) ?_)
          (refine KL.eN (Eff.storeAL rfl rfl rfl byTake byLay byOnes) ?_; rintro _ _ rfl)
          refine KL.nil ?_
          refine KE.next ?_
          refine K.ret ?_
          exact KE.fin byMarks rfl byRes byPart ⟨sm', ok', hb', by rw [hp]; exact hsw, by rw [hp]; rfl, rfl⟩
    · simp only [hf, Bool.true_and, errB, if_true, decide_eq_false h1] at hT ⊢
      obtain ⟨y, hy⟩ := get_of_lt (l := t.x.words) (k := (op.a - (t.x.refs.length : Nat)).toNat) (by omega)
      obtain ⟨t', ht'⟩ : ∃ t' : ThS, t' = ⟨t.k, ⟨t.x.refs, t.x.words.set (op.a - (t.x.refs.length : Nat)).toNat op.v, t.x.size, t.x.pins⟩, t.o1, t.o2, t.n⟩ := ⟨_, rfl⟩
      have hok : SOk (setT sm A t' B) := setT_ok ok hA.eq (by rw [ht']) (by rw [ht']) (by rw [ht']; exact ⟨k1, k2.set _ _⟩)
      have hp : writeP sm.st id t.x op = ((setT sm A t' B).st, ⟨0, 0, 0⟩, false) := by
        unfold writeP; rw [hf, if_pos rfl, if_neg h1, setT_eq hA.eq hA.na (by rw [ht']), hA.k, ht']
        rw [show op.a.toNat - t.x.refs.length = (op.a - (t.x.refs.length : Nat)).toNat by omega]
      have hE : (A ++ t' :: B).map tE = (A ++ t :: B).map tE := by
        rw [List.map_append, List.map_append, List.map_cons, List.map_cons, show tE t' = tE t by rw [ht']; simp [tE, tV, List.length_set]]
      refine hT _ _ ?_; clear hT; clear T
      (rw [smH_mapp hA.eq])
      (refine KL.v rfl (Val.move rfl) ?_)
      (refine KL.v rfl (Val.extract rfl rfl) ?_)
      (refine KL.v rfl (Val.extract rfl rfl) ?_)
      (refine KL.v rfl (Val.extract rfl rfl) ?_)
      (refine KL.e rfl (Eff.alloc rfl) ?_; rintro _ _ ⟨b5, rfl, rfl⟩)
      (refine KL.eN (Eff.storeAL rfl rfl rfl byTake byLay byOnes) ?_; rintro _ _ rfl)
      (refine KL.v rfl (Val.assign rfl) ?_)
      (refine KL.v rfl (Val.assign rfl) ?_)
      refine KL.nil ?_
      refine KE.next ?_
      refine K.seq ?_
      refine K.block ?_
      refine K.seq ?_
      refine K.region ?_
      (refine KL.v rfl (Val.move rfl) ?_)
      (refine KL.v rfl (Val.isF (Val.neq rfl rfl) byLt) ?_)
      (refine KL.v rfl (Val.assign rfl) ?_)
      refine KL.nil ?_
      refine KE.next ?_
      refine K.condF rfl ?_
      refine K.seq ?_
      refine K.region ?_
      (refine KL.v rfl (Val.move rfl) ?_)
      (refine KL.v rfl (Val.notF rfl) ?_)
      (refine KL.v rfl (Val.assign rfl) ?_)
      refine KL.nil ?_
      refine KE.next ?_
      refine K.condT rfl ?_
      refine K.seq ?_
      refine K.region ?_
      (refine KL.v rfl (Val.fieldAddr0 (k := 1) rfl rfl) ?_)
      (refine KL.v rfl (Val.loadP rfl rfl (Sees.cell byTake rfl)) ?_)
      (refine KL.v rfl (Val.fieldAddr0 (k := 2) rfl rfl) ?_)
      (refine KL.v rfl (Val.loadP rfl rfl (Sees.cell byTake rfl)) ?_)
      (refine KL.v rfl (Val.fieldAddr0 (k := 0) rfl rfl) ?_)
      (refine KL.v rfl (Val.loadP rfl rfl (Sees.cell byTake rfl)) ?_)
      (refine KL.v rfl (Val.lenSl rfl rfl (Sli.own byTakeL (by assumption) byLen)) ?_)
      (refine KL.v rfl (Val.sub rfl rfl (by simp only [Go.Proofs.YthamkgghnjenhaaGreat.lo, Go.Proofs.YthamkgghnjenhaaGreat.hi]; omega)) ?_)
      (refine KL.v rfl (Val.fieldAddr0 (k := 4) rfl rfl) ?_)
      (refine KL.v rfl (Val.loadP rfl rfl (Sees.cell byTake rfl)) ?_)
      (refine KL.v rfl (Val.idxSlZ rfl rfl rfl (Sli.own byTakeL (by assumption) byLen) rfl (by omega)) ?_)
      (refine KL.eN (Eff.stSl0 rfl rfl rfl rfl byTakeL (by assumption) (by assumption) rfl rfl) ?_; rintro _ _ rfl)
      refine KL.nil ?_
      refine KE.next ?_
      refine K.seq ?_
      refine K.region ?_
      (refine KL.v rfl (Val.build byParts rfl rfl byFill) ?_)
      (refine KL.eN (Eff.storeAL rfl rfl rfl byTake byLay byOnes) ?_; rintro _ _ rfl)
      refine KL.nil ?_
      refine KE.next ?_
      refine K.ret ?_
      refine KE.blkR ?_
      refine KE.passR ?_
      rw [← hE]
      subst ht'
      exact KE.fin byMarks rfl byRes (by rw [smH_mapp (sm := setT sm A _ B) rfl]; exact byPart) ⟨setT sm A _ B, hok, rfl, by rw [hp]; rfl, by rw [hp]; rfl, rfl⟩


def dropM (sm : SM) (h : Int) : SM := ⟨sm.b, sm.bt, sm.bh, sm.cl, sm.oc, sm.quota, sm.caps, sm.ts, sm.ct, sm.hs.filter fun e => !(h == e.k), sm.ch, sm.made, sm.minted⟩
theorem dropM_ok {sm : SM} (ok : SOk sm) (h : Int) : SOk (dropM sm h) := ⟨ok.mt, ok.mh.sub (List.filter_sublist.map _), ok.oc, ok.ts⟩
theorem dropM_st (sm : SM) (h : Int) : (dropM sm h).st = dropP sm.st h := by
  have := hf_filter sm.hs h
  simp only [dropM, SM.st, dropP, this]
theorem closed_drop {S : St} (hC : Closed S) (h : Int) : Closed (dropP S h) := by
  refine ⟨⟨hC.nums.t, fun j i hj => ?_⟩, hC.rf, fun j i hj => ?_⟩
  · have hj' : (if j = h then none else S.Hd j) = some i := hj
    split at hj'
    · cases hj'
    · exact hC.nums.h j i hj'
  · have hj' : (if j = h then none else S.Hd j) = some i := hj
    split at hj'
    · cases hj'
    · exact hC.hr j i hj'
theorem drop_K {w0 : World} {F : Heap} {sm : SM} {op : OpP} (ok : SOk sm) (hC : Closed sm.st) (hm : sm.made ≤ 100) (hmi : sm.minted ≤ 1000)
    (hr : ∀ i x, tf sm.ts i = some x → x.refs.length ≤ 1000 ∧ x.words.length ≤ 1000) :
    Call Tryz.prog w0 52 [.pointer (some ⟨sm.b, 0, none⟩), opV op] (smH sm ++ F)
      (fun r H' => ∃ sm', SOk sm' ∧ sm'.b = sm.b ∧ Swept (dropP sm.st op.h) sm'.st ∧ r = sdV ⟨0, 0, 0⟩ ∧ H' = smH sm' ++ F) := by
  have hopv : opV op = .agg [.int .u8 op.code, .int .i64 op.h, .int .i64 op.a, .int .i64 op.b, .int .u64 op.v, .int .i64 op.to].toArray := rfl
  rw [hopv]
  have hmh := ok.mh
  have hok := dropM_ok ok op.h
  have hCl : Closed (dropM sm op.h).st := by rw [dropM_st]; exact closed_drop hC op.h
  refine Call.enter2 (n := 14) (by kernel_rfl) Tryz.func52 rfl rfl rfl ?_
  (rw [smH_app (sm := sm)])
  refine K.seq ?_
  refine K.region ?_
  (refine KL.e rfl (Eff.box rfl rfl) ?_; rintro _ _ ⟨b3, rfl, rfl⟩)
  (refine KL.e rfl (Eff.alloc rfl) ?_; rintro _ _ ⟨b4, rfl, rfl⟩)
  refine KL.nil ?_
  refine KE.next ?_
  refine K.seq ?_
  refine K.drawn [] [(0, 0), (1, 0), (2, 0), (3, 0), (4, 0), (5, 0), (6, 2)] (by kernel_rfl) (by kernel_rfl) (by kernel_rfl) (by kernel_rfl) (by kernel_rfl) (by kernel_rfl) Part.nil ?_
  refine KD.v0 rfl rfl (Val.move rfl) ?_
  refine KD.v0 rfl rfl (Val.nilCheck rfl) ?_
  refine KD.v0 rfl rfl (Val.fieldAddr0 (k := 4) rfl rfl) ?_
  refine KD.v0 rfl rfl (Val.loadP rfl rfl (Sees.cell byTake rfl)) ?_
  refine KD.v0 rfl rfl (Val.fieldAddr0 (k := 1) rfl rfl) ?_
  refine KD.v0 rfl rfl (Val.loadP rfl rfl (Sees.cell byTake rfl)) ?_
  (refine KD.eN rfl (Eff.mapDel rfl rfl rfl byTake (by assumption)) ?_; rintro _ _ rfl; refine ⟨byPart, ?_⟩)
  refine KD.nil ?_
  refine KE.next ?_
  rw [mdel_hE]
  refine K.part (smH (dropM sm op.h) ++ _) (by rw [smH_app (sm := dropM sm op.h)]; exact byPart) ?_
  refine K.seq ?_
  refine K.region ?_
  (refine KL.v rfl (Val.move rfl) ?_)
  (refine KL.callc rfl rfl byEvL fun T hT => ?_)
  refine (CallV.part (CallV.fn (sweep_K hok hCl hm hmi (fun i x hx => (hr i x hx).1))) byPart).mono ?_
  rintro _ _ ⟨sm', ok', hb', hsw, rfl⟩
  refine hT _ _ ?_; clear hT; clear T
  refine KL.nil ?_
  refine KE.next ?_
  refine K.seq ?_
  refine K.region ?_
  (refine KL.v rfl (Val.build byParts rfl rfl byFill) ?_)
  (refine KL.eN (Eff.storeAL rfl rfl rfl byTake byLay byOnes) ?_; rintro _ _ rfl)
  refine KL.nil ?_
  refine KE.next ?_
  refine K.ret ?_
  exact KE.fin byMarks rfl byRes byPart ⟨sm', ok', hb', by rw [dropM_st] at hsw; exact hsw, rfl, rfl⟩

/-! ## a new object -/
theorem used_bnd {S : St} (hn : Nums S) (hz : ∀ i x, S.T i = some x → 0 ≤ x.size ∧ x.size ≤ 100000) : 0 ≤ usedP S ∧ usedP S ≤ (S.made : Int) * 100000 := by
  have key : ∀ l : List Int, (∀ i ∈ l, (S.T i).isSome) → 0 ≤ (l.map (szP S)).sum ∧ (l.map (szP S)).sum ≤ (l.length : Int) * 100000 := by
    intro l
    induction l with
    | nil => intro _; simp
    | cons i l ih =>
      intro h
      have h1 := ih fun j hj => h j (.tail _ hj)
      obtain ⟨x, hx⟩ := Option.isSome_iff_exists.1 (h i (.head _))
      have h2 := hz i x hx
      have h3 : szP S i = x.size := by simp only [szP, hx, Option.map_some, Option.getD_some]
      simp only [List.map_cons, List.sum_cons, List.length_cons, h3]
      omega
  have h := key (objsP S) fun i hi => (objs_mem hn).1 hi
  have hl := objs_len S
  unfold usedP
  omega
theorem round_bnd {l : List Int} {n : Int} (hc : classP l = true) (h : (roundP l n).2 = 0) : (roundP l n).1 ∈ l ∧ n ≤ (roundP l n).1 ∧ 2 ≤ (roundP l n).1 ∧ (roundP l n).1 ≤ 64 := by
  have hle := first_le n l
  unfold roundP at h ⊢
  split at h
  · rename_i ho
    rw [if_pos ho]
    have hlt : firstP n l < l.length := by
      unfold ofP at ho
      rw [if_pos hc] at ho
      split at ho
      · simp at ho
      · rename_i h2; omega
    obtain ⟨y, hy⟩ := get_of_lt hlt
    rw [hy]
    simp only [Option.getD_some]
    have hm := List.mem_of_getElem? hy
    have hcc := hc
    simp only [classP, Bool.and_eq_true, decide_eq_true_eq] at hcc
    have hp := rise_pair hcc.2
    refine ⟨hm, ?_, by have := hp.1 y hm; omega, ?_⟩
    · clear h hc hcc hp hm ho hle
      induction l with
      | nil => simp at hy
      | cons x l ih =>
        unfold firstP at hy hlt
        split at hy
        · simp at hy; omega
        · rename_i hx
          rw [if_neg hx] at hlt
          exact ih (by simpa using hlt) (by simpa using hy)
    · cases hgl : l.getLast? with
      | none => rw [List.getLast?_eq_none_iff] at hgl; subst hgl; simp at hm
      | some z =>
        have hz : z ≤ 64 := by have := hcc.1.2; rw [hgl] at this; simpa using this
        rw [List.getLast?_eq_getElem?] at hgl
        have := class_mono hc (show firstP n l ≤ l.length - 1 by omega) hy hgl
        omega
  · rename_i ho; exact absurd h ho
theorem replicate_zero (n : Int) (h : 0 ≤ n ∧ n ≤ 63) : (List.replicate n.toNat (0 : Int)).length ≤ 63 := by rw [List.length_replicate]; omega
def allocM (sm : SM) (x : Th) (o1 o2 : Own) : SM := ⟨sm.b, sm.bt, sm.bh, sm.cl, sm.oc, sm.quota, sm.caps, sm.ts ++ [⟨(sm.made : Int) + 1, x, o1, o2, sm.ct⟩], sm.ct + 1, sm.hs, sm.ch, sm.made + 1, sm.minted⟩
theorem allocM_ok {sm : SM} (ok : SOk sm) {x : Th} {o1 o2 : Own} (h : tf sm.ts ((sm.made : Int) + 1) = none) (h1 : oOk iE x.refs o1) (h2 : oOk uE x.words o2) : SOk (allocM sm x o1 o2) := by
  have := addT_ok ok h h1 h2
  exact ⟨this.mt, this.mh, this.oc, this.ts⟩
theorem allocM_app {sm : SM} {x : Th} {o1 o2 : Own} {F : Heap} : smH (allocM sm x o1 o2) ++ F = (sm.b, cells [oV sm.oc sm.cl.length, .int .i64 sm.quota, .int .i64 sm.caps, .map (some sm.bt), .map (some sm.bh), .int .i64 ((sm.made : Int) + 1), .int .i64 sm.minted] 57) :: (sm.bt, mobj ((sm.ts ++ [(⟨(sm.made : Int) + 1, x, o1, o2, sm.ct⟩ : ThS)]).map tE) (sm.ct + 1)) :: (sm.bh, mobj (sm.hs.map hE) sm.ch) :: (oH iE 3 sm.cl sm.oc ++ (tsH sm.ts ++ (oH iE 3 x.refs o1 ++ (oH uE 40 x.words o2 ++ F)))) := by
  rw [smH_app]
  show _ :: _ :: _ :: (_ ++ (tsH (sm.ts ++ [(⟨(sm.made : Int) + 1, x, o1, o2, sm.ct⟩ : ThS)]) ++ F)) = _
  rw [tsH_app]
  simp only [tsH, tH, List.append_assoc, List.nil_append, allocM]
  rfl
theorem alloc_K {w0 : World} {F : Heap} {sm : SM} {op : OpP} (ok : SOk sm) (hC : Closed sm.st) (hm : sm.made ≤ 100) (hmi : sm.minted ≤ 1000) (hcl : classP sm.cl = true) (hz : ∀ i x, tf sm.ts i = some x → 0 ≤ x.size ∧ x.size ≤ 100000) (hq : sm.quota ≤ 4096) :
    Call Tryz.prog w0 47 [.pointer (some ⟨sm.b, 0, none⟩), opV op] (smH sm ++ F)
      (fun r H' => ∃ sm', SOk sm' ∧ sm'.b = sm.b ∧ sm'.st = (allocP sm.st op).1 ∧ r = sdV (allocP sm.st op).2 ∧ H' = smH sm' ++ F) := by
  have hn := hC.nums
  have hopv : opV op = .agg [.int .u8 op.code, .int .i64 op.h, .int .i64 op.a, .int .i64 op.b, .int .u64 op.v, .int .i64 op.to].toArray := rfl
  rw [hopv]
  have hcl8 : sm.cl.length ≤ 8 := by simp [classP] at hcl; omega
  refine Call.enter2 (n := 81) (by kernel_rfl) Tryz.func47 rfl rfl rfl ?_
  refine K.seq ?_
  refine K.region ?_
  (refine KL.e rfl (Eff.box rfl rfl) ?_; rintro _ _ ⟨b3, rfl, rfl⟩)
  (refine KL.e rfl (Eff.alloc rfl) ?_; rintro _ _ ⟨b4, rfl, rfl⟩)
  refine KL.nil ?_
  refine KE.next ?_
  refine K.seq ?_
  refine K.region ?_
  (refine KL.v rfl (Val.fieldAddr0 (k := 2) rfl rfl) ?_)
  (refine KL.v rfl (Val.loadP rfl rfl (Sees.cell byTake rfl)) ?_)
  (refine KL.v rfl (Val.fieldAddr0 (k := 3) rfl rfl) ?_)
  (refine KL.v rfl (Val.loadP rfl rfl (Sees.cell byTake rfl)) ?_)
  (refine KL.v rfl (Val.build byParts rfl rfl byFill) ?_)
  (refine KL.callc rfl rfl byEvL fun T hT => ?_)
  refine (CallV.fn Need_K).mono ?_
  rintro _ _ ⟨rfl, rfl⟩
  cases hmy : mayP 0 op.a op.b with
  | false =>
    have hp : allocP sm.st op = (sm.st, ⟨50, 0, 0⟩) := by unfold allocP; rw [if_neg (by simp [hmy])]
    simp only [errB, Bool.false_eq_true, if_false]
    refine hT _ _ ?_; clear hT; clear T
    (rw [smH_app (sm := sm)])
    (refine KL.v rfl (Val.move rfl) ?_)
    (refine KL.v rfl (Val.extract rfl rfl) ?_)
    (refine KL.v rfl (Val.extract rfl rfl) ?_)
    (refine KL.v rfl (Val.assign rfl) ?_)
    (refine KL.v rfl (Val.assign rfl) ?_)
    refine KL.nil ?_
    refine KE.next ?_
    refine K.seq ?_
    refine K.region ?_
    (refine KL.v rfl (Val.move rfl) ?_)
    (refine KL.v rfl (Val.nilCheck rfl) ?_)
    (refine KL.v rfl (Val.fieldAddr0 (k := 0) rfl rfl) ?_)
    (refine KL.v rfl (Val.loadP rfl rfl (Sees.cell byTake rfl)) ?_)
    (refine KL.v rfl (Val.move rfl) ?_)
    (refine KL.callc rfl rfl byEvL fun T hT => ?_)
    refine (CallV.pure fun w hw => CallV.fn (Round_K (l := sm.cl) (Sli.own byTakeL ok.oc rfl w hw) (by omega))).mono ?_
    rintro _ _ ⟨_, ⟨rfl, rfl⟩, rfl⟩
    rw [List.nil_append]
    refine hT _ _ ?_; clear hT; clear T
    (refine KL.v rfl (Val.move rfl) ?_)
    (refine KL.v rfl (Val.extract rfl rfl) ?_)
    (refine KL.v rfl (Val.extract rfl rfl) ?_)
    (refine KL.v rfl (Val.assign rfl) ?_)
    (refine KL.v rfl (Val.assign rfl) ?_)
    refine KL.nil ?_
    refine KE.next ?_
    refine K.seq ?_
    refine K.block ?_
    refine K.seq ?_
    refine K.region ?_
    (refine KL.v rfl (Val.move rfl) ?_)
    (refine KL.v rfl (Val.isT (Val.neq rfl rfl) byLt) ?_)
    (refine KL.v rfl (Val.move rfl) ?_)
    refine KL.skipG rfl rfl rfl ?_
    refine KL.skipG rfl rfl rfl ?_
    (refine KL.v rfl (Val.pickT rfl rfl rfl) ?_)
    (refine KL.v rfl (Val.assign rfl) ?_)
    refine KL.nil ?_
    refine KE.next ?_
    refine K.condT rfl ?_
    refine K.seq ?_
    refine K.region ?_
    (refine KL.v rfl (Val.build byParts rfl rfl byFill) ?_)
    (refine KL.eN (Eff.storeAL rfl rfl rfl byTake byLay byOnes) ?_; rintro _ _ rfl)
    refine KL.nil ?_
    refine KE.next ?_
    refine K.ret ?_
    refine KE.blkR ?_
    refine KE.passR ?_
    exact KE.fin byMarks rfl byRes (by first | exact byPart | (rw [smH_app]; exact byPart)) ⟨sm, ok, rfl, by rw [hp], by rw [hp]; rfl, rfl⟩
  | true =>
    simp only [errB, if_true]
    refine hT _ _ ?_; clear hT; clear T
    (rw [smH_app (sm := sm)])
    (refine KL.v rfl (Val.move rfl) ?_)
    (refine KL.v rfl (Val.extract rfl rfl) ?_)
    (refine KL.v rfl (Val.extract rfl rfl) ?_)
    (refine KL.v rfl (Val.assign rfl) ?_)
    (refine KL.v rfl (Val.assign rfl) ?_)
    refine KL.nil ?_
    refine KE.next ?_
    refine K.seq ?_
    refine K.region ?_
    (refine KL.v rfl (Val.move rfl) ?_)
    (refine KL.v rfl (Val.nilCheck rfl) ?_)
    (refine KL.v rfl (Val.fieldAddr0 (k := 0) rfl rfl) ?_)
    (refine KL.v rfl (Val.loadP rfl rfl (Sees.cell byTake rfl)) ?_)
    (refine KL.v rfl (Val.move rfl) ?_)
    (refine KL.callc rfl rfl byEvL fun T hT => ?_)
    refine (CallV.pure fun w hw => CallV.fn (Round_K (l := sm.cl) (Sli.own byTakeL ok.oc rfl w hw) (by omega))).mono ?_
    rintro _ _ ⟨_, ⟨rfl, rfl⟩, rfl⟩
    rw [List.nil_append]
    obtain ⟨f, hfe⟩ : ∃ f, (roundP sm.cl (op.a + op.b + 1)).2 = f := ⟨_, rfl⟩
    by_cases hf0 : f = 0
    · obtain ⟨sz, hsz⟩ : ∃ sz, (roundP sm.cl (op.a + op.b + 1)).1 = sz := ⟨_, rfl⟩
      have hrb := round_bnd (n := op.a + op.b + 1) hcl (by rw [hfe]; exact hf0)
      rw [hsz] at hrb
      have hub := used_bnd hn hz
      have hmade : sm.st.made = sm.made := rfl
      rw [hmade] at hub
      rw [hfe, hsz]
      have hf0' : ¬ f ≠ 0 := by omega
      obtain ⟨u, hu⟩ : ∃ u, usedP sm.st = u := ⟨_, rfl⟩
      refine hT _ _ ?_; clear hT; clear T
      (refine KL.v rfl (Val.move rfl) ?_)
      (refine KL.v rfl (Val.extract rfl rfl) ?_)
      (refine KL.v rfl (Val.extract rfl rfl) ?_)
      (refine KL.v rfl (Val.assign rfl) ?_)
      (refine KL.v rfl (Val.assign rfl) ?_)
      refine KL.nil ?_
      refine KE.next ?_
      refine K.seq ?_
      refine K.block ?_
      refine K.seq ?_
      refine K.region ?_
      (refine KL.v rfl (Val.move rfl) ?_)
      (refine KL.v rfl (Val.isF (Val.neq rfl rfl) byLt) ?_)
      (refine KL.v rfl (Val.move rfl) ?_)
      (refine KL.yes rfl rfl ?_; refine KL.v rfl (Val.move rfl) ?_)
      (refine KL.yes rfl rfl ?_; refine KL.v rfl (Val.isF (Val.neq rfl rfl) byLt) ?_)
      (refine KL.v rfl (Val.pickF rfl rfl rfl) ?_)
      (refine KL.v rfl (Val.assign rfl) ?_)
      refine KL.nil ?_
      refine KE.next ?_
      refine K.condF rfl ?_
      refine K.seq ?_
      refine K.drawn _ [(0, 0), (2, 1), (4, 1), (5, 1), (6, 1), (7, 1), (1, 2), (3, 0), (8, 0), (9, 0)] (by kernel_rfl) (by kernel_rfl) (by kernel_rfl) (by kernel_rfl) (by kernel_rfl) (by kernel_rfl) Part.all ?_
      refine KD.v0 rfl rfl (Val.move rfl) ?_
      refine KD.v1 rfl rfl (Val.move rfl) ?_
      refine KD.v1 rfl rfl (Val.move rfl) ?_
      refine KD.v1 rfl rfl (Val.nilCheck rfl) ?_
      refine KD.v1 rfl rfl (Val.fieldAddr0 (k := 1) rfl rfl) ?_
      refine KD.v1 rfl rfl (Val.loadP rfl rfl (Sees.cell byTake rfl)) ?_
      refine KD.callc rfl rfl rfl byEvL fun T hT => ?_
      refine (CallV.part (CallV.fn (Used_K ok hn (by omega) hz)) (by rw [smH_app (sm := sm)]; exact byPart)).mono ?_
      rintro _ _ ⟨rfl, rfl⟩
      rw [hu] at hub ⊢
      (refine hT _ _ (by rw [smH_app (sm := sm)]; exact byPart) ?_; clear hT; clear T)
      (rw [smH_app (sm := sm)])
      by_cases hqq : u + sz > sm.quota
      · have hp : allocP sm.st op = (sm.st, ⟨100, 0, 0⟩) := by
          unfold allocP
          rw [if_pos ⟨hmy, by show (roundP sm.cl _).2 = 0; rw [hfe]; exact hf0⟩, if_pos (by show usedP sm.st + (roundP sm.cl _).1 > sm.quota; rw [hsz, hu]; exact hqq)]
        refine KD.v0 rfl rfl (Val.add rfl rfl (by simp only [Go.Proofs.YthamkgghnjenhaaGreat.lo, Go.Proofs.YthamkgghnjenhaaGreat.hi]; omega)) ?_
        refine KD.v0 rfl rfl (Val.isT (Val.gtr rfl rfl) byLt) ?_
        refine KD.v0 rfl rfl (Val.assign rfl) ?_
        refine KD.nil ?_
        refine KE.next ?_
        refine K.condT rfl ?_
        refine K.seq ?_
        refine K.region ?_
        (refine KL.v rfl (Val.build byParts rfl rfl byFill) ?_)
        (refine KL.eN (Eff.storeAL rfl rfl rfl byTake byLay byOnes) ?_; rintro _ _ rfl)
        refine KL.nil ?_
        refine KE.next ?_
        refine K.ret ?_
        refine KE.blkR ?_
        refine KE.passR ?_
        exact KE.fin byMarks rfl byRes (by first | exact byPart | (rw [smH_app]; exact byPart)) ⟨sm, ok, rfl, by rw [hp], by rw [hp]; rfl, rfl⟩
      · have hmy' : 0 ≤ op.a ∧ 0 ≤ op.b ∧ op.a ≤ 63 ∧ op.b ≤ 63 := by simp [mayP] at hmy; omega
        have hal : allocP sm.st op = if (mintP sm.st ((sm.made : Int) + 1)).2.e = 0 then
            ({ (mintP sm.st ((sm.made : Int) + 1)).1 with made := sm.made + 1, T := fun j => if j = (sm.made : Int) + 1 then some (newTh op.a op.b sz) else sm.st.T j }, (mintP sm.st ((sm.made : Int) + 1)).2) else (sm.st, (mintP sm.st ((sm.made : Int) + 1)).2) := by
          unfold allocP
          rw [if_pos ⟨hmy, by show (roundP sm.cl _).2 = 0; rw [hfe]; exact hf0⟩, if_neg (by show ¬ (usedP sm.st + (roundP sm.cl _).1 > sm.quota); rw [hsz, hu]; exact hqq)]
          show _ = _
          rw [← hsz]
          rfl
        obtain ⟨mp, hmp⟩ : ∃ mp, mp = mintP sm.st ((sm.made : Int) + 1) := ⟨_, rfl⟩
        have hmst : mp.1.made = sm.made ∧ mp.1.T = sm.st.T ∧ mp.1.cl = sm.cl ∧ mp.1.quota = sm.quota ∧ mp.1.caps = sm.caps ∧ (mp.2.e ≠ 0 → mp.1 = sm.st) := by
          rw [hmp]; unfold mintP; split
          · exact ⟨rfl, rfl, rfl, rfl, rfl, fun _ => rfl⟩
          · exact ⟨rfl, rfl, rfl, rfl, rfl, fun h => absurd rfl h⟩
        rw [← hmp] at hal
        refine KD.v0 rfl rfl (Val.add rfl rfl (by simp only [Go.Proofs.YthamkgghnjenhaaGreat.lo, Go.Proofs.YthamkgghnjenhaaGreat.hi]; omega)) ?_
        refine KD.v0 rfl rfl (Val.isF (Val.gtr rfl rfl) byLt) ?_
        refine KD.v0 rfl rfl (Val.assign rfl) ?_
        refine KD.nil ?_
        refine KE.next ?_
        refine K.condF rfl ?_
        refine K.skip ?_
        refine KE.blkN ?_
        refine KE.next ?_
        refine K.seq ?_
        refine K.region ?_
        (refine KL.v rfl (Val.move rfl) ?_)
        (refine KL.v rfl (Val.move rfl) ?_)
        (refine KL.v rfl (Val.nilCheck rfl) ?_)
        (refine KL.v rfl (Val.fieldAddr0 (k := 5) rfl rfl) ?_)
        (refine KL.v rfl (Val.loadP rfl rfl (Sees.cell byTake rfl)) ?_)
        (refine KL.v rfl (Val.add rfl rfl (by simp only [Go.Proofs.YthamkgghnjenhaaGreat.lo, Go.Proofs.YthamkgghnjenhaaGreat.hi]; omega)) ?_)
        (refine KL.callc rfl rfl byEvL fun T hT => ?_)
        refine (CallV.part (CallV.fn (mint_K (id := (sm.made : Int) + 1) ok hn hmi)) (by rw [smH_app (sm := sm)]; exact byPart)).mono ?_
        rintro _ _ ⟨sm1, ok1, hb1, hst1, rfl, rfl⟩
        rw [← hmp] at hst1 ⊢
        unfold sdV
        have hmd1 : sm1.made = sm.made := (congrArg St.made hst1).trans hmst.1
        refine hT _ _ ?_; clear hT; clear T
        rw [← hb1]
        (refine KL.e rfl (Eff.alloc rfl) ?_; rintro _ _ ⟨b9, rfl, rfl⟩)
        (refine KL.eN (Eff.storeAL rfl rfl rfl byTake byLay byOnes) ?_; rintro _ _ rfl)
        refine KL.nil ?_
        refine KE.next ?_
        refine K.cutT (σ := SM) [(9, _)] bySub (fun s kp_ => (4, .pointer (some ⟨b4, 0, none⟩)) :: kp_) (fun s => (b9, cells [.int .i64 mp.2.e, .int .i64 mp.2.h, .int .u64 mp.2.w] 42) :: (b4, cells [.int .i64 0, .int .i64 0, .int .u64 0] 42) :: (smH s ++ F)) (fun s => SOk s ∧ s.b = sm1.b ∧ s.st = (allocP sm.st op).1) ?_ ?_
        · by_cases he : mp.2.e = 0
          · rw [if_pos he] at hal
            obtain ⟨code, hh, a, b, v, to⟩ := op
            dsimp only at hmy' hal ⊢
            obtain ⟨na, rfl⟩ : ∃ na : Nat, a = na := ⟨a.toNat, by omega⟩
            obtain ⟨nb, rfl⟩ : ∃ nb : Nat, b = nb := ⟨b.toNat, by omega⟩
            (rw [smH_app (sm := sm1)])
            refine K.seq ?_
            refine K.region ?_
            (refine KL.v rfl (Val.fieldAddr0 (k := 0) rfl rfl) ?_)
            (refine KL.v rfl (Val.loadP rfl rfl (Sees.cell byTake rfl)) ?_)
            (refine KL.v rfl (Val.isT (Val.eql rfl rfl) byLt) ?_)
            refine KL.nil ?_
            refine KE.next ?_
            refine K.condT rfl ?_
            refine K.seq ?_
            refine K.region ?_
            (refine KL.v rfl (Val.move rfl) ?_)
            (refine KL.v rfl (Val.nilCheck rfl) ?_)
            (refine KL.v rfl (Val.fieldAddr0 (k := 5) rfl rfl) ?_)
            (refine KL.v rfl (Val.loadP rfl rfl (Sees.cell byTake rfl)) ?_)
            (refine KL.v rfl (Val.add rfl rfl (by simp only [Go.Proofs.YthamkgghnjenhaaGreat.lo, Go.Proofs.YthamkgghnjenhaaGreat.hi]; omega)) ?_)
            (refine KL.v rfl (Val.nilCheck rfl) ?_)
            (refine KL.v rfl (Val.fieldAddr0 (k := 5) rfl rfl) ?_)
            (refine KL.eN (Eff.storeL rfl rfl byOne rfl byTake bySetAt) ?_; rintro _ _ rfl)
            refine KL.nil ?_
            refine KE.next ?_
            have hT1 : tf sm1.ts ((sm1.made : Int) + 1) = none := by
              have h1 : sm1.st.T = sm.st.T := (congrArg St.T hst1).trans hmst.2.1
              show sm1.st.T _ = none
              rw [h1]
              cases h : sm.st.T ((sm1.made : Int) + 1) with
              | none => rfl
              | some y => have := hn.t _ _ h; rw [hmade] at this; omega
            have hst2 : ∀ o1 o2, (allocM sm1 ⟨List.replicate na 0, List.replicate nb 0, sz, 0⟩ o1 o2).st = ({ mp.1 with made := sm.made + 1, T := fun j => if j = (sm.made : Int) + 1 then some (newTh na nb sz) else sm.st.T j } : St) := by
              intro o1 o2
              have e := tf_snoc (t := ⟨(sm1.made : Int) + 1, ⟨List.replicate na 0, List.replicate nb 0, sz, 0⟩, o1, o2, sm1.ct⟩) (tf_none.1 hT1)
              have h1 : sm1.st.T = sm.st.T := (congrArg St.T hst1).trans hmst.2.1
              have h2 : newTh na nb sz = ⟨List.replicate na 0, List.replicate nb 0, sz, 0⟩ := by simp [newTh]
              rw [h2, ← hmd1, ← h1, ← hst1]
              show (⟨sm1.cl, sm1.quota, sm1.caps, tf (sm1.ts ++ [_]), hf sm1.hs, sm1.made + 1, sm1.minted⟩ : St) = _
              rw [e]; rfl
            have hput := fun o74 o77 => addT_put (sm := sm1) (o1 := o74) (o2 := o77) (x := ⟨List.replicate na 0, List.replicate nb 0, sz, 0⟩) hT1
            unfold tV at hput
            refine byCodeD ?_
            refine K.drawn ((sm1.b, cells [oV sm1.oc sm1.cl.length, .int .i64 sm1.quota, .int .i64 sm1.caps, .map (some sm1.bt), .map (some sm1.bh), .int .i64 ((sm1.made : Int) + 1), .int .i64 sm1.minted] 57) :: (b3, cells [.int .u8 code, .int .i64 hh, .int .i64 (na : Nat), .int .i64 (nb : Nat), .int .u64 v, .int .i64 to] 46) :: []) [(0, 1), (1, 1), (2, 1), (3, 1), (4, 1), (5, 1), (6, 1), (7, 1), (8, 1), (9, 1), (11, 1), (12, 1), (14, 1), (10, 3), (13, 2), (15, 0), (16, 2)] (by kernel_rfl) (by kernel_rfl) (by kernel_rfl) (by kernel_rfl) (by kernel_rfl) (by kernel_rfl) byPart ?_
            refine KD.v1 rfl rfl (Val.move rfl) ?_
            (first | refine KD.v1 rfl rfl (Val.nilCheck rfl) ?_ | refine KD.v1 rfl rfl (Val.nilCheckF rfl) ?_ | refine KD.v1 rfl rfl (Val.nilCheckY rfl) ?_)
            (first | refine KD.v1 rfl rfl (Val.fieldSl (k := 3) rfl rfl) ?_ | refine KD.v1 rfl rfl (Val.fieldAddr0 (k := 3) rfl rfl) ?_ | refine KD.v1 rfl rfl (Val.fieldAddrZ rfl rfl) ?_ | refine KD.v1 rfl rfl (Val.fieldAddr (k := 3) rfl rfl) ?_)
            refine KD.v1 rfl rfl (Val.loadP rfl rfl bySee) ?_
            refine KD.v1 rfl rfl (Val.move rfl) ?_
            (first | refine KD.v1 rfl rfl (Val.nilCheck rfl) ?_ | refine KD.v1 rfl rfl (Val.nilCheckF rfl) ?_ | refine KD.v1 rfl rfl (Val.nilCheckY rfl) ?_)
            (first | refine KD.v1 rfl rfl (Val.fieldSl (k := 5) rfl rfl) ?_ | refine KD.v1 rfl rfl (Val.fieldAddr0 (k := 5) rfl rfl) ?_ | refine KD.v1 rfl rfl (Val.fieldAddrZ rfl rfl) ?_ | refine KD.v1 rfl rfl (Val.fieldAddr (k := 5) rfl rfl) ?_)
            refine KD.v1 rfl rfl (Val.loadP rfl rfl bySee) ?_
            (first | refine KD.v1 rfl rfl (Val.fieldSl (k := 2) rfl rfl) ?_ | refine KD.v1 rfl rfl (Val.fieldAddr0 (k := 2) rfl rfl) ?_ | refine KD.v1 rfl rfl (Val.fieldAddrZ rfl rfl) ?_ | refine KD.v1 rfl rfl (Val.fieldAddr (k := 2) rfl rfl) ?_)
            refine KD.v1 rfl rfl (Val.loadP rfl rfl bySee) ?_
            (first | refine KD.v1 rfl rfl (Val.fieldSl (k := 3) rfl rfl) ?_ | refine KD.v1 rfl rfl (Val.fieldAddr0 (k := 3) rfl rfl) ?_ | refine KD.v1 rfl rfl (Val.fieldAddrZ rfl rfl) ?_ | refine KD.v1 rfl rfl (Val.fieldAddr (k := 3) rfl rfl) ?_)
            refine KD.v1 rfl rfl (Val.loadP rfl rfl bySee) ?_
            refine KD.v1 rfl rfl (Val.move rfl) ?_
            refine KD.fork2 (x := 10) (y := 13) (o1 := [(13, 2), (15, 0), (16, 2)]) (o2 := [(10, 2), (15, 0), (16, 2)]) (by kernel_rfl) rfl rfl (by kernel_rfl) (by kernel_rfl) ?_ ?_
            · (refine ActK.e rfl (Eff.makeR (E := iE) (x0 := 0) rfl rfl rfl rfl rfl rfl (by first | assumption | omega | (simp <;> fail) | (simp; omega))) ?_; rintro _ _ ⟨o74, ok74, rfl, rfl⟩; refine ⟨byPart, ?_⟩)
              (refine KD.e rfl rfl (Eff.makeR (E := uE) (x0 := 0) rfl rfl rfl rfl rfl rfl (by first | assumption | omega | (simp <;> fail) | (simp; omega))) ?_; rintro _ _ ⟨o77, ok77, rfl, rfl⟩; refine ⟨byPart, ?_⟩)
              refine KD.v0 rfl rfl (Val.build byParts rfl rfl byFill) ?_
              (refine KD.eN rfl (Eff.mapUp rfl rfl rfl rfl byTake) ?_; rintro _ _ rfl; refine ⟨byPart, ?_⟩)
              refine KD.nil ?_
              rw [(hput o74 o77).1, (hput o74 o77).2]
              exact KE.meet (allocM sm1 ⟨List.replicate na 0, List.replicate nb 0, sz, 0⟩ o74 o77) bySub (by rw [allocM_app]; exact byPart) ⟨allocM_ok ok1 hT1 ok74 ok77, rfl, by rw [hal]; exact hst2 o74 o77⟩
            · (refine ActK.e rfl (Eff.makeR (E := uE) (x0 := 0) rfl rfl rfl rfl rfl rfl (by first | assumption | omega | (simp <;> fail) | (simp; omega))) ?_; rintro _ _ ⟨o77, ok77, rfl, rfl⟩; refine ⟨byPart, ?_⟩)
              (refine KD.e rfl rfl (Eff.makeR (E := iE) (x0 := 0) rfl rfl rfl rfl rfl rfl (by first | assumption | omega | (simp <;> fail) | (simp; omega))) ?_; rintro _ _ ⟨o74, ok74, rfl, rfl⟩; refine ⟨byPart, ?_⟩)
              refine KD.v0 rfl rfl (Val.build byParts rfl rfl byFill) ?_
              (refine KD.eN rfl (Eff.mapUp rfl rfl rfl rfl byTake) ?_; rintro _ _ rfl; refine ⟨byPart, ?_⟩)
              refine KD.nil ?_
              rw [(hput o74 o77).1, (hput o74 o77).2]
              exact KE.meet (allocM sm1 ⟨List.replicate na 0, List.replicate nb 0, sz, 0⟩ o74 o77) bySub (by rw [allocM_app]; exact byPart) ⟨allocM_ok ok1 hT1 ok74 ok77, rfl, by rw [hal]; exact hst2 o74 o77⟩
          · rw [if_neg he] at hal
            refine K.seq ?_
            refine K.region ?_
            (refine KL.v rfl (Val.fieldAddr0 (k := 0) rfl rfl) ?_)
            (refine KL.v rfl (Val.loadP rfl rfl (Sees.cell byTake rfl)) ?_)
            (refine KL.v rfl (Val.isF (Val.eql rfl rfl) byLt) ?_)
            refine KL.nil ?_
            refine KE.next ?_
            refine K.condF rfl ?_
            refine K.skip ?_
            exact KE.meet sm1 bySub byPart ⟨ok1, rfl, by rw [hal, hst1]; exact hmst.2.2.2.2.2 he⟩
        · rintro sm2 ⟨ok2, hb2, hst2⟩
          have hs2 : (allocP sm.st op).2 = mp.2 := by rw [hal]; split <;> rfl
          refine K.seq ?_
          refine K.region ?_
          (refine KL.v rfl (Val.loadA rfl rfl rfl bySeeN) ?_)
          (refine KL.eN (Eff.storeAL rfl rfl rfl byTake byLay byOnes) ?_; rintro _ _ rfl)
          refine KL.nil ?_
          refine KE.next ?_
          refine K.ret ?_
          exact KE.fin byMarks rfl byRes byPart ⟨sm2, ok2, hb2, hst2, by rw [hs2]; rfl, rfl⟩
    · have hp : allocP sm.st op = (sm.st, ⟨50, 0, 0⟩) := by unfold allocP; rw [if_neg (by rintro ⟨_, h2⟩; exact hf0 (hfe ▸ h2))]
      rw [hfe]
      refine hT _ _ ?_; clear hT; clear T
      (refine KL.v rfl (Val.move rfl) ?_)
      (refine KL.v rfl (Val.extract rfl rfl) ?_)
      (refine KL.v rfl (Val.extract rfl rfl) ?_)
      (refine KL.v rfl (Val.assign rfl) ?_)
      (refine KL.v rfl (Val.assign rfl) ?_)
      refine KL.nil ?_
      refine KE.next ?_
      refine K.seq ?_
      refine K.block ?_
      refine K.seq ?_
      refine K.region ?_
      (refine KL.v rfl (Val.move rfl) ?_)
      (refine KL.v rfl (Val.isF (Val.neq rfl rfl) byLt) ?_)
      (refine KL.v rfl (Val.move rfl) ?_)
      (refine KL.yes rfl rfl ?_; refine KL.v rfl (Val.move rfl) ?_)
      (refine KL.yes rfl rfl ?_; refine KL.v rfl (Val.isT (Val.neq rfl rfl) byLt) ?_)
      (refine KL.v rfl (Val.pickF rfl rfl rfl) ?_)
      (refine KL.v rfl (Val.assign rfl) ?_)
      refine KL.nil ?_
      refine KE.next ?_
      refine K.condT rfl ?_
      refine K.seq ?_
      refine K.region ?_
      (refine KL.v rfl (Val.build byParts rfl rfl byFill) ?_)
      (refine KL.eN (Eff.storeAL rfl rfl rfl byTake byLay byOnes) ?_; rintro _ _ rfl)
      refine KL.nil ?_
      refine KE.next ?_
      refine K.ret ?_
      refine KE.blkR ?_
      refine KE.passR ?_
      exact KE.fin byMarks rfl byRes (by first | exact byPart | (rw [smH_app]; exact byPart)) ⟨sm, ok, rfl, by rw [hp], by rw [hp]; rfl, rfl⟩
end Go.Proofs.YthamkgghnjenhaaGreat
