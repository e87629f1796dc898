/- A range over a function: one law for the statement, one for a round, with invariants on worlds of the user's own choice. -/
import Derived.Sort.BigQuietIn
import Derived.Test.YthamkgghnjenhaaGreatJ1
namespace Go.Proofs.YthamkgghnjenhaaGreat
open Go.RowKit
variable {F : Fence} {n m : Nat} {P : Program}

theorem Only.drewN {S : List Nat} {a w : World} (h : Only S a w) (n : Nat) : Only S a (w.drewN n) := ⟨h.os, h.tape, h.output, h.size, h.block⟩
theorem Only.putObj {S : List Nat} {a w : World} (h : Only S a w) {l : Nat} (hl : l ∈ S ∨ a.heap.size ≤ l) (o : Obj) : Only S a (w.putObj l o) :=
  ⟨h.os, h.tape, h.output, by simpa using h.size, fun k hk hS => by
    refine (World.putObj_heap_other ?_).trans (h.block k hk hS)
    intro e; subst e; rcases hl with hl | hl
    · exact hS hl
    · omega⟩

/-- the loop's record -/
def loopRec (fn : Nat) (a : Act) (ps : Array Tmp) (assign body : Code) (D : Nat) (st : LoopState) (pe : Option Code) : Loop :=
  { state := st, pending := pe, fn := fn, tmps := a.tmps, params := ps, assign := assign, body := body, defers := D }

/-- the loop's record lies in block l -/
def LoopOn (W : World) (l : Nat) (r : LoopState → Option Code → Loop) (st : LoopState) (pe : Option Code) : Prop := W.heap[l]? = some (.loop (r st pe))

theorem LoopOn.lt {W : World} {l : Nat} {r : LoopState → Option Code → Loop} {st : LoopState} {pe : Option Code} (h : LoopOn W l r st pe) : l < W.heap.size := (Array.getElem?_eq_some_iff.1 h).1
theorem LoopOn.only {W W' : World} {l : Nat} {r : LoopState → Option Code → Loop} {st : LoopState} {pe : Option Code} {S : List Nat} (h : LoopOn W l r st pe) (ho : Only S W W') (hl : l ∉ S) : LoopOn W' l r st pe :=
  (ho.block l h.lt hl).trans h

/-- a piece of code ends normally, with these slots and this world -/
def Lands (A : Act) (W : World) (e : Exit) (a' : Act) (w' : World) : Prop := e = .normal ∧ a' = A ∧ w' = W

/-- how a round's body may be left -/
def roundOut (l : Nat) (r : LoopState → Option Code → Loop) (R : Ending → World → Prop) : Exit → Act → World → Prop
  | .normal, _, W3 => LoopOn W3 l r .busy none ∧ ∀ W4, Only [l] W3 W4 → LoopOn W4 l r .ready none → R (.returned (.bool true)) W4
  | .ret, _, W3 => LoopOn W3 l r .busy none ∧ ∀ W4, Only [l] W3 W4 → LoopOn W4 l r .done (some .ret) → R (.returned (.bool false)) W4
  | .exit id, _, W3 => LoopOn W3 l r .busy none ∧ ∀ W4, Only [l] W3 W4 → LoopOn W4 l r .done (some (.exit id)) → R (.returned (.bool false)) W4
  | .goto t, _, W3 => LoopOn W3 l r .busy none ∧ ∀ W4, Only [l] W3 W4 → LoopOn W4 l r .done (some (.goto t)) → R (.returned (.bool false)) W4
  | .panic _, _, _ => False
  | .outgrown, _, _ => False

/-- a call of yield: one round -/
theorem yield_at {l D fn : Nat} {a : Act} {ps : Array Tmp} {assign body : Code} {args : Array Value} {W : World} {R : Ending → World → Prop} {r : LoopState → Option Code → Loop} (hr : r = loopRec fn a ps assign body D) (Ax : Act → World → Prop)
    (hF : F.fn fn) (hL : LoopOn W l r .ready none) (hps : args.size = ps.size)
    (hassign : ∀ K : Act → World → Prop, (∀ a1 W1, Only [] W W1 → Ax a1 W1 → K a1 W1) →
      assign.wpIn (F.inRound l) m P (Exit.then K (fun _ _ _ => False)) { tmps := (ps.zip args).foldl (fun t (p, v) => t.setIfInBounds p v) a.tmps, defers := [] } W)
    (hbody : ∀ a1 W1 W2, Only [] W W1 → Ax a1 W1 → Only [l] W1 W2 → LoopOn W2 l r .busy none →
      body.wpIn (F.inRound l) m P (roundOut l r R) a1 W2) :
    YieldAt F m P l args W R := by
  subst hr
  refine ⟨fn, _, assign, body, run_yield (r := loopRec fn a ps assign body D .ready none) hL hps, roundIn_of_wpIn hF ?_⟩
  refine hassign _ (fun a1 W1 ho hx => ?_)
  have hL1 : LoopOn W1 l (loopRec fn a ps assign body D) .ready none := hL.only ho (by simp)
  refine ⟨_, run_beginRound (r := loopRec fn a ps assign body D .ready none) hL1 rfl, ?_⟩
  refine wpIn_mono (hbody a1 W1 _ ho hx ((Only.refl _ _).putObj (by simp) _) (World.putObj_heap_same hL1.lt)) ?_
  intro e a3 W3 hp
  have fin : ∀ jump : Option Code, LoopOn W3 l (loopRec fn a ps assign body D) .busy none →
      (Instr.endRound l jump).run P W3 = .ok (.bool jump.isNone) (W3.putObj l (.loop (loopRec fn a ps assign body D (if jump.isNone then .ready else .done) jump))) ∧
      LoopOn (W3.putObj l (.loop (loopRec fn a ps assign body D (if jump.isNone then .ready else .done) jump))) l (loopRec fn a ps assign body D) (if jump.isNone then .ready else .done) jump :=
    fun jump h3 => ⟨run_endRound (r := loopRec fn a ps assign body D .busy none) jump h3, World.putObj_heap_same h3.lt⟩
  cases e with
  | normal =>
    obtain ⟨h3, hR⟩ := hp
    obtain ⟨h4, h5⟩ := fin none h3
    exact ⟨_, _, h4, hR _ ((Only.refl _ _).putObj (by simp) _) h5⟩
  | ret =>
    obtain ⟨h3, hR⟩ := hp
    obtain ⟨h4, h5⟩ := fin (some .ret) h3
    exact ⟨_, _, h4, hR _ ((Only.refl _ _).putObj (by simp) _) h5⟩
  | exit id =>
    obtain ⟨h3, hR⟩ := hp
    obtain ⟨h4, h5⟩ := fin (some (.exit id)) h3
    exact ⟨_, _, h4, hR _ ((Only.refl _ _).putObj (by simp) _) h5⟩
  | goto t =>
    obtain ⟨h3, hR⟩ := hp
    obtain ⟨h4, h5⟩ := fin (some (.goto t)) h3
    exact ⟨_, _, h4, hR _ ((Only.refl _ _).putObj (by simp) _) h5⟩
  | panic ch => exact hp.elim
  | outgrown => exact hp.elim

/-- the same, where the assignment to the loop's variables turns no memory; 'apply' it: where the assignment comes to is found there -/
theorem yield_plain {l D fn : Nat} {a A1 : Act} {ps : Array Tmp} {assign body : Code} {args : Array Value} {W : World} {R : Ending → World → Prop} {r : LoopState → Option Code → Loop} (hr : r = loopRec fn a ps assign body D)
    (hF : F.fn fn) (hL : LoopOn W l r .ready none) (hps : args.size = ps.size)
    (hassign : assign.wpIn (F.inRound l) m P (Lands A1 W) { tmps := (ps.zip args).foldl (fun t (p, v) => t.setIfInBounds p v) a.tmps, defers := [] } W)
    (hbody : ∀ W2, Only [l] W W2 → LoopOn W2 l r .busy none → body.wpIn (F.inRound l) m P (roundOut l r R) A1 W2) :
    YieldAt F m P l args W R := by
  refine yield_at hr (fun a1 W1 => a1 = A1 ∧ W1 = W) hF hL hps (fun K hK => wpIn_mono hassign ?_) ?_
  · rintro e a' w' ⟨rfl, rfl, rfl⟩; exact hK _ _ (Only.refl _ _) ⟨rfl, rfl⟩
  · rintro a1 W1 W2 _ ⟨rfl, rfl⟩ hO2 hL2; exact hbody W2 hO2 hL2

/-- the statement, at a loop that stands in no other -/
theorem range_outer {g : Operand} {ps : Array Tmp} {assign body : Code} {Q : Exit → Act → World → Prop} {a : Act} {w : World}
    (hro : F.round = none) (hn : F.depth.isSome = true → 1 ≤ n) {gf : Nat} {lb : Array Value} (hg : a.eval g = .func (.func gf) #[] lb) (hFg : F.fn gf)
    (eg : ∀ args w, (callFunc gf args).run P w = .ok (.enter gf args) w)
    (Done : World → Prop) (Stop : Code → World → Prop)
    (hit : ∀ fn W1 r, r = loopRec fn a ps assign body w.heap.size → F.fn fn → Only [] w W1 → W1.heap.size = w.heap.size + 2 → W1.heap[w.heap.size]? = some (.deferred (some [])) → LoopOn W1 (w.heap.size + 1) r .ready none →
      CallsIn F (n - 1) P gf (#[.func (.yield (w.heap.size + 1)) #[] #[]] ++ lb) W1 fun e W' => (∃ v, e = .returned v) ∧
        ((Done W' ∧ LoopOn W' (w.heap.size + 1) r .ready none) ∨ (∃ c, Stop c W' ∧ LoopOn W' (w.heap.size + 1) r .done (some c))))
    (hdone : ∀ W W', Done W → Only [w.heap.size + 1] W W' → Q .normal { a with defers := { target := .collected w.heap.size, args := #[] } :: a.defers } W')
    (hstop : ∀ c W W', Stop c W → Only [w.heap.size + 1] W W' → c.wpIn F n P Q { a with defers := { target := .collected w.heap.size, args := #[] } :: a.defers } W') :
    (Code.rangeFunc g ps assign body).wpIn F n P Q a w := by
  refine wpIn_rangeFunc ?_
  intro fn hfn
  rw [hro]
  obtain ⟨rc, hrc⟩ : ∃ rc, rc = loopRec fn a ps assign body w.heap.size := ⟨_, rfl⟩
  obtain ⟨W1, hW1⟩ : ∃ W1, (w.alloc (.deferred (some []))).alloc (.loop (rc .ready none)) = W1 := ⟨_, rfl⟩
  have hL1 : W1.heap[w.heap.size + 1]? = some (.loop (rc .ready none)) := by
    rw [← hW1]; have := World.alloc_heap_new (w.alloc (.deferred (some []))) (.loop (rc .ready none)); rwa [World.size_alloc] at this
  have hK1 : W1.heap[w.heap.size]? = some (.deferred (some [])) := by
    rw [← hW1]; exact (Below.heap_alloc _ _ _ (by simp)).trans (World.alloc_heap_new w _)
  have ho1 : Only [] w W1 := by rw [← hW1]; exact ((Only.refl _ w).alloc _).alloc _
  have hs1 : W1.heap.size = w.heap.size + 2 := by rw [← hW1]; simp
  have hc := hit fn W1 rc hrc hfn ho1 hs1 hK1 hL1
  refine ⟨w.heap.size + 1, [{ target := .collected w.heap.size, args := #[] }], W1, { target := .fn (.func gf) lb, args := #[.func (.yield (w.heap.size + 1)) #[] #[]] }, W1, gf,
    #[.func (.yield (w.heap.size + 1)) #[] #[]] ++ lb, W1, ?_, ?_, ?_, ?_, hn, ?_⟩
  · rw [← hW1, hrc]; exact run_enterLoop_outer _ _ _ _ _
  · simp only [resolve, hg]
    simp [go_sem]
  · intro f' hf'; simp [Target.leads] at hf'; subst hf'; exact hFg
  · simp [invoke, go_sem, eg]
  · refine hc.mono ?_
    rintro e W2 ⟨⟨v, rfl⟩, (⟨hD, hl⟩ | ⟨c, hS, hl⟩)⟩
    · exact ⟨none, _, by have := run_endLoop (P := P) (r := rc .ready none) hl (by rw [hrc]; simp [loopRec]); rw [hrc] at this; exact this, hdone _ _ hD ((Only.refl _ _).putObj (by simp) _)⟩
    · exact ⟨some c, _, by have := run_endLoop (P := P) (r := rc .done (some c)) hl (by rw [hrc]; simp [loopRec]); rw [hrc] at this; exact this, hstop c _ _ hS ((Only.refl _ _).putObj (by simp) _)⟩

/-- the statement, at a loop within a round of another -/
theorem range_inner {g : Operand} {ps : Array Tmp} {assign body : Code} {Q : Exit → Act → World → Prop} {a : Act} {w : World} {l₀ : Nat} {r₀ : Loop}
    (hro : F.round = some l₀) (hr₀ : w.heap[l₀]? = some (.loop r₀)) (hn : F.depth.isSome = true → 1 ≤ n) {gf : Nat} {lb : Array Value} (hg : a.eval g = .func (.func gf) #[] lb) (hFg : F.fn gf)
    (eg : ∀ args w, (callFunc gf args).run P w = .ok (.enter gf args) w)
    (Done : World → Prop) (Stop : Code → World → Prop)
    (hit : ∀ fn W1 r, r = loopRec fn a ps assign body r₀.defers → F.fn fn → Only [] w W1 → W1.heap.size = w.heap.size + 1 → LoopOn W1 w.heap.size r .ready none →
      CallsIn F (n - 1) P gf (#[.func (.yield w.heap.size) #[] #[]] ++ lb) W1 fun e W' => (∃ v, e = .returned v) ∧
        ((Done W' ∧ LoopOn W' w.heap.size r .ready none) ∨ (∃ c, Stop c W' ∧ LoopOn W' w.heap.size r .done (some c))))
    (hdone : ∀ W W', Done W → Only [w.heap.size] W W' → Q .normal a W')
    (hstop : ∀ c W W', Stop c W → Only [w.heap.size] W W' → c.wpIn F n P Q a W') :
    (Code.rangeFunc g ps assign body).wpIn F n P Q a w := by
  refine wpIn_rangeFunc ?_
  intro fn hfn
  rw [hro]
  obtain ⟨rc, hrc⟩ : ∃ rc, rc = loopRec fn a ps assign body r₀.defers := ⟨_, rfl⟩
  obtain ⟨W1, hW1⟩ : ∃ W1, w.alloc (.loop (rc .ready none)) = W1 := ⟨_, rfl⟩
  have hL1 : W1.heap[w.heap.size]? = some (.loop (rc .ready none)) := by
    rw [← hW1]; exact World.alloc_heap_new w (.loop (rc .ready none))
  have ho1 : Only [] w W1 := by rw [← hW1]; exact (Only.refl _ w).alloc _
  have hs1 : W1.heap.size = w.heap.size + 1 := by rw [← hW1]; simp
  have hc := hit fn W1 rc hrc hfn ho1 hs1 hL1
  refine ⟨w.heap.size, [], W1, { target := .fn (.func gf) lb, args := #[.func (.yield w.heap.size) #[] #[]] }, W1, gf,
    #[.func (.yield w.heap.size) #[] #[]] ++ lb, W1, ?_, ?_, ?_, ?_, hn, ?_⟩
  · rw [← hW1, hrc]; exact run_enterLoop_inner hr₀ _ _ _ _ _
  · simp only [resolve, hg]
    simp [go_sem]
  · intro f' hf'; simp [Target.leads] at hf'; subst hf'; exact hFg
  · simp [invoke, go_sem, eg]
  · refine hc.mono ?_
    rintro e W2 ⟨⟨v, rfl⟩, (⟨hD, hl⟩ | ⟨c, hS, hl⟩)⟩
    · exact ⟨none, _, by have := run_endLoop (P := P) (r := rc .ready none) hl (by rw [hrc]; simp [loopRec]); rw [hrc] at this; exact this, hdone _ _ hD ((Only.refl _ _).putObj (by simp) _)⟩
    · exact ⟨some c, _, by have := run_endLoop (P := P) (r := rc .done (some c)) hl (by rw [hrc]; simp [loopRec]); rw [hrc] at this; exact this, hstop c _ _ hS ((Only.refl _ _).putObj (by simp) _)⟩

/-- no operation of a region is a defer statement -/
def noDefer (ops : Array Oper) : Bool := ops.all fun o => match o.op with | .defer _ => false | _ => true

theorem noDefer_spec {ops : Array Oper} (h : noDefer ops = true) {i : Nat} {o : Oper} (ho : ops[i]? = some o) : ∀ c, o.op ≠ .defer c := by
  intro c hc
  obtain ⟨hi, he⟩ := Array.getElem?_eq_some_iff.1 ho
  unfold noDefer at h
  have := (Array.all_eq_true.1 h) i hi
  rw [he, hc] at this
  cases this

theorem uponIn_round {o : Oper} {a : Act} {K K' : Act → World → Prop} {Q : Exit → Act → World → Prop} (l : Nat) (hK : ∀ a w, K a w → K' a w) (r : Result Next) (h : o.uponIn F n P a K Q r) : o.uponIn (F.inRound l) n P a K' Q r := by
  cases r with
  | ok x w' =>
    cases x <;> simp only [Oper.uponIn] at h ⊢ <;>
      first
        | exact hK _ _ h
        | exact ⟨h.1, (CallsIn.inRound l h.2).mono (fun e w'' he => by cases e <;> first | exact hK _ _ he | exact he)⟩
        | exact ⟨h.1, RowsIn.mono (F := F) h.2 (fun _ _ he => hK _ _ he)⟩
        | exact ⟨h.1, RoundIn.mono (F := F) h.2 (fun e w'' he => by cases e <;> first | exact hK _ _ he | exact he)⟩
  | halt x w' => cases x <;> simp only [Oper.uponIn] at h ⊢ <;> exact h

theorem wpOpIn_round {ops : Array Oper} {Q : Exit → Act → World → Prop} (l : Nat) (hro : F.round = none) (hnd : noDefer ops = true) {i : Nat} {K K' : Act → World → Prop} {a : Act} {w : World} (hK : ∀ a w, K a w → K' a w)
    (h : wpOpIn F n P ops Q i K a w) : wpOpIn (F.inRound l) n P ops Q i K' a w := by
  unfold wpOpIn at *
  cases ho : ops[i]? with
  | none => simp only [ho] at h ⊢; exact hK _ _ h
  | some o =>
    simp only [ho] at h ⊢
    split
    · rename_i hw
      rw [if_pos hw] at h
      unfold Oper.wpIn at *
      refine ⟨h.1, ?_⟩
      have h2 := h.2
      rw [hro, Oper.semAt_none] at h2
      rw [Oper.semAt_eq _ _ _ (noDefer_spec hnd ho)]
      exact uponIn_round l hK _ h2
    · rename_i hw
      rw [if_neg hw] at h
      exact ⟨h.1, hK _ _ h.2⟩

theorem wpAnyIn_round {ops : Array Oper} {Q : Exit → Act → World → Prop} {md : Region.Mode} (l : Nat) (hro : F.round = none) (hnd : noDefer ops = true) :
    ∀ (fuel : Nat) (listed : Array Bool) (a : Act) (w : World), wpAnyIn F n P md ops Q fuel listed a w → wpAnyIn (F.inRound l) n P md ops Q fuel listed a w
  | 0, _, _, _, h => h
  | fuel + 1, _, _, _, h => ⟨h.1, fun i hi => wpOpIn_round l hro hnd (fun a' w' => wpAnyIn_round l hro hnd fuel _ a' w') (h.2 i hi)⟩

/-- in a round: a region that draws its order and only reads -/
theorem quiet_round {id : Nat} {Q : Exit → Act → World → Prop} {a : Act} {w : World} {l : List Oper} {l₀ : Nat} (hro : F.round = none) (hm : P.follows .mixedOrders = true) (hB : Region.lexB .any l.toArray = true) (hnd : noDefer l.toArray = true)
    (h : wpQuietIn F n P l.toArray (fun w' => ∃ n, w' = w.drewN n) (fun a' => ∀ w', (∃ n, w' = w.drewN n) → Q .normal a' w') l a) : (Code.region id l.toArray true).wpIn (F.inRound l₀) n P Q a w := by
  simp only [Region.lexB, Bool.and_eq_true] at hB
  refine wpIn_region_any hm (wpAnyIn_round l₀ hro hnd _ _ _ _ ?_)
  refine wpAnyIn_of_quiet (C := fun w' => ∃ n, w' = w.drewN n) (Q := fun a' => ∀ w', (∃ n, w' = w.drewN n) → Q .normal a' w') hro (fun _ w' hw' h => h w' hw') _ _ _ _ ⟨1, rfl⟩ ?_
  have := wpAnyQIn_lex (F := F) (n := n) (C := fun w' => ∃ n, w' = w.drewN n) (md := .any) hB.1 l 0 (Array.replicate l.toArray.size false) a (by simp) (by simpa using hB.2) h
  simpa using this

/-- a piece of code that comes to one activation and one world: first where it comes to, then what follows -/
theorem piece_to {c : Code} {Q : Exit → Act → World → Prop} {a A : Act} {w W : World} (h : c.wpIn F n P (Lands A W) a w) (hq : Q .normal A W) : c.wpIn F n P Q a w :=
  wpIn_mono h (by rintro e a' w' ⟨rfl, rfl, rfl⟩; exact hq)

/-- a function that holds such a loop returns -/
theorem leaveM {fn : Func} {R : Ending → World → Prop} {tmps : Array Value} {D : Nat} {W : World} (hK : W.heap[D]? = some (.deferred (some [])))
    (h : ∀ W', Only [D] W W' → ∃ v, (results fn tmps).run P W' = .ok v W' ∧ R (.returned v) W') :
    bodyPostM F n P fn R .ret { tmps := tmps, defers := [{ target := .collected D, args := #[] }] } W :=
  ⟨by simp, .inl ⟨_, _, rfl, run_takeDeferred hK, h _ ((Only.refl _ _).putObj (by simp) _)⟩⟩
theorem leaveM_end {fn : Func} {R : Ending → World → Prop} {tmps : Array Value} {D : Nat} {W : World} (hK : W.heap[D]? = some (.deferred (some [])))
    (h : ∀ W', Only [D] W W' → ∃ v, (results fn tmps).run P W' = .ok v W' ∧ R (.returned v) W') :
    bodyPostM F n P fn R .normal { tmps := tmps, defers := [{ target := .collected D, args := #[] }] } W :=
  ⟨by simp, .inl ⟨_, _, rfl, run_takeDeferred hK, h _ ((Only.refl _ _).putObj (by simp) _)⟩⟩

end Go.Proofs.YthamkgghnjenhaaGreat
