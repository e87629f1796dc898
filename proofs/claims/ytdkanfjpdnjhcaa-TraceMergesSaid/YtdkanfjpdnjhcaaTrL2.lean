/- TraceParts: the plain law, the walk, and out of what came in. -/
import Derived.Test.YtdkanfjpdnjhcaaTrL1
namespace Go.Proofs.Ytdkanfjpdnjhcaa
open Go.RowKit Go.ChangeShapes Go.WideShapes Go.ChangeAt Go.Joins
set_option linter.unusedVariables false
set_option linter.unusedSimpArgs false

def psum (l : List Wat) (ts : List Int) : Nat := (ts.map fun t => (ofP l t).length).sum
theorem ofP_cons (x : Wat) (l : List Wat) (t : Int) : (ofP (x :: l) t).length = (if x.t = t then 1 else 0) + (ofP l t).length := by
  unfold ofP
  by_cases h : x.t = t
  · simp [h, List.filter_cons]; omega
  · simp [h, List.filter_cons]
theorem sum_none : ∀ {ts : List Int} {x : Int}, x ∉ ts → (ts.map fun t => if x = t then 1 else 0).sum = 0
  | [], _, _ => rfl
  | a :: r, x, h => by
    have h1 : x ≠ a := fun e => h (by simp [e])
    have h2 : x ∉ r := fun e => h (List.mem_cons_of_mem _ e)
    simp [h1, sum_none h2]
theorem sum_one : ∀ {ts : List Int} {x : Int}, ts.Pairwise (· < ·) → x ∈ ts → (ts.map fun t => if x = t then 1 else 0).sum = 1
  | a :: r, x, hs, hx => by
    obtain ⟨ha, hr⟩ := List.pairwise_cons.1 hs
    by_cases e : x = a
    · subst e
      have : x ∉ r := fun h => by have := ha x h; omega
      simp [sum_none this]
    · have hxr : x ∈ r := by simpa [e] using hx
      simp [e, sum_one hr hxr]
theorem sum_add (ts : List Int) (f g : Int → Nat) : (ts.map fun t => f t + g t).sum = (ts.map f).sum + (ts.map g).sum := by
  induction ts with
  | nil => rfl
  | cons a r ih => simp [ih]; omega
theorem psum_all {ts : List Int} (hs : ts.Pairwise (· < ·)) : ∀ {l : List Wat}, (∀ x ∈ l, x.t ∈ ts) → psum l ts = l.length
  | [], _ => by
    unfold psum
    have : (ts.map fun t => (ofP [] t).length) = ts.map fun _ => 0 := List.map_congr_left fun t _ => rfl
    rw [this]
    clear this hs
    induction ts with
    | nil => rfl
    | cons a r ih => simpa using ih
  | x :: l, h => by
    have h1 := psum_all hs (l := l) fun y hy => h y (List.mem_cons_of_mem _ hy)
    unfold psum at h1 ⊢
    rw [List.map_congr_left (g := fun t => (if x.t = t then 1 else 0) + (ofP l t).length) fun t _ => ofP_cons x l t, sum_add, sum_one hs (h x (List.mem_cons_self ..)), h1]
    simp; omega
theorem psum_snoc (l : List Wat) {ts : List Int} {k : Nat} {t : Int} (h : ts[k]? = some t) : psum l (ts.take (k + 1)) = psum l (ts.take k) + (ofP l t).length := by
  unfold psum; rw [take_snoc h]; simp
theorem psum_take (l : List Wat) (ts : List Int) (k : Nat) : psum l (ts.take k) ≤ psum l ts := by
  have : psum l ts = psum l (ts.take k) + psum l (ts.drop k) := by unfold psum; rw [← List.sum_append_nat, ← List.map_append, List.take_append_drop]
  omega
theorem tenP_sorted (l : List Wat) : (tenP l).Pairwise (· < ·) := compact_sorted (sortP_sorted _)
theorem tenP_mem {l : List Wat} {t : Int} : t ∈ tenP l ↔ t ∈ l.map (·.t) := by unfold tenP; rw [compact_mem, sortP_mem]
theorem ofP_ne {l : List Wat} {t : Int} (h : t ∈ tenP l) : (ofP l t).length ≠ 0 := by
  obtain ⟨x, hx, e⟩ := List.mem_map.1 (tenP_mem.1 h)
  intro h0
  have := List.length_eq_zero_iff.1 h0
  unfold ofP at this
  have := List.map_eq_nil_iff.1 this
  have hm : x ∈ l.filter fun x => decide (x.t = t) := List.mem_filter.2 ⟨hx, by simpa using e⟩
  rw [this] at hm
  cases hm

set_option maxRecDepth 10000 in
set_option maxHeartbeats 1000000 in
theorem traceParts_K {w0 : World} {v : Value} {l : List Wat} {tn : Int} (hS : SlW w0 wE v l) :
    Call Try.prog w0 4 [v, .int .i64 tn] [] (fun r H' => r = .bool true ∧ H' = []) := by
  refine Call.enter (n := 56) [(0, v), (1, .int .i64 tn)] (by kernel_rfl) Try.func4 rfl rfl rfl ⟨rfl, rfl, trivial⟩ ?_
  by_cases h1 : (200 : Int) < (l.length : Nat)
  · refine byCode ?_
    (refine KL.v rfl (Val.assign rfl) ?_)
    refine KL.nil ?_
    refine byCode ?_
    (refine KL.v rfl (Val.move rfl) ?_)
    (first | (refine KL.v rfl (Val.lenSl rfl rfl bySli) ?_) | (refine KL.v rfl (Val.lenS rfl rfl) ?_))
    (first | (refine KL.v rfl (Val.isT (Val.gtr rfl rfl) byLt) ?_) | (refine KL.v rfl (Val.isF (Val.gtr rfl rfl) byLt) ?_) | (refine KL.v rfl (Val.gtr rfl rfl) ?_))
    refine KL.nil ?_
    refine byCode ?_
    (refine KL.callc rfl rfl byEvL fun T hT => ?_)
    refine (CallV.fn awake_K).mono ?_
    rintro _ _ ⟨rfl, rfl⟩
    refine hT _ _ ?_; clear hT; clear T
    (refine KL.v rfl (Val.assign rfl) ?_)
    refine KL.nil ?_
    refine byCode ?_
    exact KE.fin byMarks rfl byRes byPart ⟨rfl, rfl⟩
  have hall : psum l (tenP l) = l.length := psum_all (tenP_sorted l) fun x hx => tenP_mem.2 (List.mem_map_of_mem hx)
  have hten : (tenP l).length ≤ l.length := by
    have := compact_le (sortP (l.map (·.t)))
    rw [sortP_len, List.length_map] at this
    exact this
  refine byCode ?_
  (refine KL.v rfl (Val.assign rfl) ?_)
  refine KL.nil ?_
  refine byCode ?_
  (refine KL.v rfl (Val.move rfl) ?_)
  (first | (refine KL.v rfl (Val.lenSl rfl rfl bySli) ?_) | (refine KL.v rfl (Val.lenS rfl rfl) ?_))
  (first | (refine KL.v rfl (Val.isT (Val.gtr rfl rfl) byLt) ?_) | (refine KL.v rfl (Val.isF (Val.gtr rfl rfl) byLt) ?_) | (refine KL.v rfl (Val.gtr rfl rfl) ?_))
  refine KL.nil ?_
  refine byCode ?_
  (refine KL.v rfl (Val.move rfl) ?_)
  (refine KL.callc rfl rfl byEvL fun T hT => ?_)
  refine (CallV.fn (Tenants_K hS (by omega))).mono ?_
  rintro _ _ ⟨o, ok, rfl, rfl⟩
  refine hT _ _ ?_; clear hT; clear T
  (refine KL.v rfl (Val.assign rfl) ?_)
  refine KL.nil ?_
  refine byCode ?_
  (refine KL.v rfl (Val.assign rfl) ?_)
  refine KL.nil ?_
  refine byCode ?_
  (refine KL.v rfl (Val.assign rfl) ?_)
  refine KL.nil ?_
  refine byBlk ?_
  refine K.loop (σ := Nat) (fun k => [(7, .int .i64 (k : Nat)), (6, .int .i64 (psum l ((tenP l).take k) : Nat)), (5, oV o (tenP l).length), (0, v), (1, .int .i64 tn)])
    (fun _ => oH iE 3 (tenP l) o ++ []) (fun k => k ≤ (tenP l).length) (fun k => (tenP l).length - k) 0 bySub byPart (by omega) ?_
  rintro k hk
  have hle := psum_take l (tenP l) k
  by_cases hlt : k < (tenP l).length
  · obtain ⟨t, ht⟩ := get_of_lt hlt
    have hsn := psum_snoc l ht
    have hle' := psum_take l (tenP l) (k + 1)
    have hne := ofP_ne (List.mem_of_getElem? ht)
    refine byCode ?_
    (refine KL.v rfl (Val.move rfl) ?_)
    (refine KL.v rfl (Val.move rfl) ?_)
    (first | (refine KL.v rfl (Val.lenSl rfl rfl bySli) ?_) | (refine KL.v rfl (Val.lenS rfl rfl) ?_))
    (first | (refine KL.v rfl (Val.isT (Val.lss rfl rfl) byLt) ?_) | (refine KL.v rfl (Val.isF (Val.lss rfl rfl) byLt) ?_) | (refine KL.v rfl (Val.lss rfl rfl) ?_))
    refine KL.nil ?_
    refine byCode ?_
    refine K.seq (K.block ?_)
    refine byCode ?_
    (refine KL.v rfl (Val.move rfl) ?_)
    (refine KL.v rfl (Val.move rfl) ?_)
    (refine KL.v rfl (Val.move rfl) ?_)
    (first | (refine KL.v rfl (Val.idxSl rfl rfl rfl bySli rfl byLt) ?_) | (refine KL.v rfl (Val.idxSlZ rfl rfl rfl bySli rfl (by omega)) ?_) | (refine KL.v rfl (Val.indexS1 rfl rfl rfl rfl (by omega)) ?_) | (refine KL.v rfl (Val.indexS rfl rfl rfl rfl (by omega)) ?_) | (refine KL.v rfl (Val.indexSO rfl rfl rfl rfl (by omega)) ?_) | (refine KL.v rfl (Val.indexSG rfl rfl rfl rfl (by omega)) ?_))
    (refine KL.v rfl (Val.loadP rfl rfl bySee) ?_)
    (refine KL.callc rfl rfl byEvL fun T hT => ?_)
    refine (CallV.pure fun w hw => CallV.fn (Of_K (hS.only hw.old) (by omega) t)).mono ?_
    rintro _ _ ⟨_, ⟨o1, ok1, rfl, rfl⟩, rfl⟩
    refine hT _ _ ?_; clear hT; clear T
    (refine KL.v rfl (Val.assign rfl) ?_)
    refine KL.nil ?_
    refine byCode ?_
    (refine KL.v rfl (Val.move rfl) ?_)
    (first | (refine KL.v rfl (Val.lenSl rfl rfl bySli) ?_) | (refine KL.v rfl (Val.lenS rfl rfl) ?_))
    (first | (refine KL.v rfl (Val.isT (Val.eql rfl rfl) byLt) ?_) | (refine KL.v rfl (Val.isF (Val.eql rfl rfl) byLt) ?_) | (refine KL.v rfl (Val.eql rfl rfl) ?_))
    refine KL.nil ?_
    refine byCode ?_
    (refine KL.v rfl (Val.move rfl) ?_)
    (refine KL.v rfl (Val.move rfl) ?_)
    (first | (refine KL.v rfl (Val.lenSl rfl rfl bySli) ?_) | (refine KL.v rfl (Val.lenS rfl rfl) ?_))
    (first | (refine KL.v rfl (Val.add rfl rfl (by simp only [Go.Proofs.Ytdkanfjpdnjhcaa.lo, Go.Proofs.Ytdkanfjpdnjhcaa.hi]; omega)) ?_) | (refine KL.v rfl (Val.addW rfl rfl) ?_))
    (refine KL.v rfl (Val.assign rfl) ?_)
    refine KL.nil ?_
    refine byCode ?_
    (refine KL.v rfl (Val.move rfl) ?_)
    (first | (refine KL.v rfl (Val.add rfl rfl (by simp only [Go.Proofs.Ytdkanfjpdnjhcaa.lo, Go.Proofs.Ytdkanfjpdnjhcaa.hi]; omega)) ?_) | (refine KL.v rfl (Val.addW rfl rfl) ?_))
    (refine KL.v rfl (Val.assign rfl) ?_)
    refine KL.nil ?_
    exact KE.again (k + 1) bySub byPart (by omega) (by omega)
  · have hke : k = (tenP l).length := by omega
    have hsum : psum l ((tenP l).take k) = l.length := by rw [hke, List.take_length]; exact hall
    refine byCode ?_
    (refine KL.v rfl (Val.move rfl) ?_)
    (refine KL.v rfl (Val.move rfl) ?_)
    (first | (refine KL.v rfl (Val.lenSl rfl rfl bySli) ?_) | (refine KL.v rfl (Val.lenS rfl rfl) ?_))
    (first | (refine KL.v rfl (Val.isT (Val.lss rfl rfl) byLt) ?_) | (refine KL.v rfl (Val.isF (Val.lss rfl rfl) byLt) ?_) | (refine KL.v rfl (Val.lss rfl rfl) ?_))
    refine KL.nil ?_
    refine byCode ?_
    (refine KL.v rfl (Val.move rfl) ?_)
    (refine KL.v rfl (Val.move rfl) ?_)
    (first | (refine KL.v rfl (Val.lenSl rfl rfl bySli) ?_) | (refine KL.v rfl (Val.lenS rfl rfl) ?_))
    (first | (refine KL.v rfl (Val.isT (Val.eql rfl rfl) byLt) ?_) | (refine KL.v rfl (Val.isF (Val.eql rfl rfl) byLt) ?_) | (refine KL.v rfl (Val.eql rfl rfl) ?_))
    (refine KL.v rfl (Val.move rfl) ?_)
    (first | refine KL.skipG rfl rfl rfl ?_ | refine KL.skipU rfl rfl rfl ?_ | (refine KL.yes rfl rfl ?_; refine KL.v rfl (Val.move rfl) ?_))
    (first | refine KL.skipG rfl rfl rfl ?_ | refine KL.skipU rfl rfl rfl ?_ | (refine KL.yes rfl rfl ?_; refine KL.v rfl (Val.move rfl) ?_))
    (refine KL.yes rfl rfl ?_; refine KL.callc rfl rfl byEvL fun T hT => ?_)
    refine (CallV.pure fun w hw => CallV.fn (rTenants_K (hS.only hw.old) (by omega))).mono ?_
    rintro _ _ ⟨_, ⟨o2, ok2, rfl, rfl⟩, rfl⟩
    refine hT _ _ ?_; clear hT; clear T
    (refine KL.yes rfl rfl ?_; refine KL.callc rfl rfl byEvL fun T hT => ?_)
    refine (CallV.pure fun w hw => CallV.fn (SameInts_K (Sli.own byTakeL ok rfl w hw) (Sli.own byTakeL ok2 rfl w hw))).mono ?_
    rintro _ _ ⟨_, ⟨rfl, rfl⟩, rfl⟩
    refine hT _ _ ?_; clear hT; clear T
    rw [decide_eq_true (rfl : tenP l = tenP l)]
    (first | (refine KL.v rfl (Val.pickT rfl rfl rfl) ?_) | (refine KL.v rfl (Val.pickF rfl rfl rfl) ?_) | (refine KL.v rfl (Val.pickB rfl rfl rfl) ?_))
    (refine KL.v rfl (Val.move rfl) ?_)
    (first | refine KL.skipG rfl rfl rfl ?_ | refine KL.skipU rfl rfl rfl ?_ | (refine KL.yes rfl rfl ?_; refine KL.v rfl (Val.move rfl) ?_))
    (first | refine KL.skipG rfl rfl rfl ?_ | refine KL.skipU rfl rfl rfl ?_ | (refine KL.yes rfl rfl ?_; refine KL.v rfl (Val.move rfl) ?_))
    (refine KL.yes rfl rfl ?_; refine KL.callc rfl rfl byEvL fun T hT => ?_)
    refine (CallV.pure fun w hw => CallV.fn (Of_K (hS.only hw.old) (by omega) tn)).mono ?_
    rintro _ _ ⟨_, ⟨o3, ok3, rfl, rfl⟩, rfl⟩
    refine hT _ _ ?_; clear hT; clear T
    (first | refine KL.skipG rfl rfl rfl ?_ | refine KL.skipU rfl rfl rfl ?_ | (refine KL.yes rfl rfl ?_; refine KL.v rfl (Val.move rfl) ?_))
    (first | refine KL.skipG rfl rfl rfl ?_ | refine KL.skipU rfl rfl rfl ?_ | (refine KL.yes rfl rfl ?_; refine KL.v rfl (Val.move rfl) ?_))
    (refine KL.yes rfl rfl ?_; refine KL.callc rfl rfl byEvL fun T hT => ?_)
    refine (CallV.pure fun w hw => CallV.fn (rOf_K (hS.only hw.old) (by omega) tn)).mono ?_
    rintro _ _ ⟨_, ⟨o4, ok4, rfl, rfl⟩, rfl⟩
    refine hT _ _ ?_; clear hT; clear T
    (refine KL.yes rfl rfl ?_; refine KL.callc rfl rfl byEvL fun T hT => ?_)
    refine (CallV.pure fun w hw => CallV.fn (Same_K (Sli.own byTakeL ok3 rfl w hw) (Sli.own byTakeL ok4 rfl w hw))).mono ?_
    rintro _ _ ⟨_, ⟨rfl, rfl⟩, rfl⟩
    refine hT _ _ ?_; clear hT; clear T
    rw [decide_eq_true (rfl : ofP l tn = ofP l tn)]
    (first | (refine KL.v rfl (Val.pickT rfl rfl rfl) ?_) | (refine KL.v rfl (Val.pickF rfl rfl rfl) ?_) | (refine KL.v rfl (Val.pickB rfl rfl rfl) ?_))
    (refine KL.v rfl (Val.move rfl) ?_)
    (refine KL.yes rfl rfl ?_; refine KL.callc rfl rfl byEvL fun T hT => ?_)
    refine (CallV.fn awake_K).mono ?_
    rintro _ _ ⟨rfl, rfl⟩
    refine hT _ _ ?_; clear hT; clear T
    (first | (refine KL.v rfl (Val.pickT rfl rfl rfl) ?_) | (refine KL.v rfl (Val.pickF rfl rfl rfl) ?_) | (refine KL.v rfl (Val.pickB rfl rfl rfl) ?_))
    (refine KL.v rfl (Val.assign rfl) ?_)
    refine KL.nil ?_
    refine byCode ?_
    exact KE.fin byMarks rfl byRes byPart ⟨rfl, rfl⟩

theorem traceParts_call {H : Type} {enc : TypeId × Value → H} (W : World) (base : Nat) (v0 v1 : Value) {d0 d1 : DataW H} {p0 p1 : List MemPlace}
    (o0 : Value.okWide Try.prog W .any base 32 v0) (h0 : DataW.Trod enc Try.prog W 0 (fun _ => true) true 32 v0 d0 p0)
    (o1 : Value.okWide Try.prog W .any base 3 v1) (h1 : DataW.Trod enc Try.prog W 0 (fun _ => true) true 3 v1 d1 p1) :
    Calls Try.prog 4 #[v0, v1] W (AwakeEnd W) := by
  obtain ⟨l, hS, -⟩ := wats_sl o0 h0
  obtain ⟨z, rfl⟩ := okWide_int Try.underlying3 o1
  exact (traceParts_K hS).calls
end Go.Proofs.Ytdkanfjpdnjhcaa
