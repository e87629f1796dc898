/- The walker: calls step by step; literals; append; slices; comparisons with nil. -/
import Derived.Test.YtfgmofaadcbokaaK3
import Derived.Test.YtfgmofaadcbokaaSlice
namespace Go.Proofs.Ytfgmofaadcbokaa
open Go.RowKit
set_option linter.unusedVariables false
set_option linter.unusedSimpArgs false

section
variable {P : Program} {w0 : World} {ro : Option Nat} {n : Nat} {Q : Exit → Act → World → Prop} {ds : List Deferred} {m : Slots} {H R F : Heap}
variable {ops : Array Oper} {rest : List Oper} {op : Op} {ty : TypeId} {pos : String} {af : Array Edge} {ord : Ord}

/-! ## calls: first what is called with what, then its contract -/
theorem KL.callc {d : Nat} {f : Operand} {as : List Operand} {ts : Array TypeId} {fv : Value} {vs : List Value} (hd : Nat.blt d n = true) (hf : evO m f = some fv) (ha : EvL m as vs)
    (h : ∀ T : Post, (∀ v H', KL P w0 ro n ops rest Q ds ((d, v) :: m) H' → T v H') → CallV P w0 fv vs H T) :
    KL P w0 ro n ops (⟨some d, .call { callee := .value f, args := as.toArray, argTypes := ts }, ty, pos, af, none⟩ :: rest) Q ds m H :=
  KL.e hd (Eff.call hf ha (h _ fun _ _ k => k)) fun _ _ k => k
theorem KL.callcN {f : Operand} {as : List Operand} {ts : Array TypeId} {fv : Value} {vs : List Value} (hf : evO m f = some fv) (ha : EvL m as vs)
    (h : ∀ T : Post, (∀ v H', KL P w0 ro n ops rest Q ds m H' → T v H') → CallV P w0 fv vs H T) :
    KL P w0 ro n ops (⟨none, .call { callee := .value f, args := as.toArray, argTypes := ts }, ty, pos, af, none⟩ :: rest) Q ds m H :=
  KL.eN (Eff.call hf ha (h _ fun _ _ k => k)) fun _ _ k => k
theorem KD.callc {i d : Nat} {f : Operand} {as : List Operand} {ts : Array TypeId} {fv : Value} {vs : List Value} (hi : ops[i]? = some ⟨some d, .call { callee := .value f, args := as.toArray, argTypes := ts }, ty, pos, af, none⟩) (hd : Nat.blt d n = true) (hf : evO m f = some fv) (ha : EvL m as vs)
    (h : ∀ T : Post, (∀ v H', Part H' R → KD P w0 ro n ops R ord Q ds ((d, v) :: m) H' → T v H') → CallV P w0 fv vs H T) : KD P w0 ro n ops R ((i, 2) :: ord) Q ds m H :=
  KD.e hi hd (Eff.call hf ha (h (fun v H' => Part H' R ∧ KD P w0 ro n ops R ord Q ds ((d, v) :: m) H') fun _ _ p k => ⟨p, k⟩)) fun _ _ k => k
theorem KD.callcY {i d g e : Nat} {b : Bool} {f : Operand} {as : List Operand} {ts : Array TypeId} {fv : Value} {vs : List Value} (hi : ops[i]? = some ⟨some d, .call { callee := .value f, args := as.toArray, argTypes := ts }, ty, pos, af, some (g, b)⟩) (hge : (ops[g]?).bind (·.dst) = some e) (hg : look m e = some (.bool b)) (hd : Nat.blt d n = true) (hf : evO m f = some fv) (ha : EvL m as vs)
    (h : ∀ T : Post, (∀ v H', Part H' R → KD P w0 ro n ops R ord Q ds ((d, v) :: m) H' → T v H') → CallV P w0 fv vs H T) : KD P w0 ro n ops R ((i, 2) :: ord) Q ds m H :=
  KD.eY hi hge hg hd (Eff.call hf ha (h (fun v H' => Part H' R ∧ KD P w0 ro n ops R ord Q ds ((d, v) :: m) H') fun _ _ p k => ⟨p, k⟩)) fun _ _ k => k

/-! ## literals of structs, arrays and slices -/
inductive SetAt : List Value → Nat → Value → List Value → Prop
  | here {x v : Value} {l : List Value} : SetAt (x :: l) 0 v (v :: l)
  | next {x v : Value} {l l' : List Value} {o : Nat} : SetAt l o v l' → SetAt (x :: l) (o + 1) v (x :: l')
theorem SetAt.eq {l l' : List Value} {o : Nat} {v : Value} (h : SetAt l o v l') : l.set o v = l' ∧ o < l.length := by
  induction h with
  | here => simp
  | next _ ih => exact ⟨by rw [List.set_cons_succ, ih.1], by rw [List.length_cons]; omega⟩
inductive Lay : List Value → Nat → List Value → List Value → Prop
  | nil {l : List Value} : Lay l 0 [] l
  | cons {x c : Value} {l cs l' : List Value} : Lay l 0 cs l' → Lay (x :: l) 0 (c :: cs) (c :: l')
  | next {x : Value} {l cs l' : List Value} {o : Nat} : Lay l o cs l' → Lay (x :: l) (o + 1) cs (x :: l')
theorem Lay.eq {l cs l' : List Value} {o : Nat} (h : Lay l o cs l') : laid l o cs = l' ∧ o + cs.length ≤ l.length := by
  induction h with
  | nil => simp [laid]
  | cons _ ih => simp only [laid, List.take_zero, List.nil_append, Nat.zero_add, List.length_cons, List.drop_succ_cons, List.cons_append] at ih ⊢; exact ⟨by rw [ih.1], by omega⟩
  | next _ ih => simp only [laid, List.take_succ_cons, List.cons_append, List.length_cons] at ih ⊢; exact ⟨by rw [show ∀ a b : Nat, a + 1 + b = (a + b) + 1 from fun a b => by omega, List.drop_succ_cons, ih.1], by omega⟩

theorem Eff.storeL {t : TypeId} {x y : Operand} {b o : Nat} {v : Value} {l l' : List Value} {e : TypeId} (hx : evO m x = some (.pointer (some ⟨b, o, none⟩))) (hy : evO m y = some v) (h1 : v.oneCell' = true) (ht : szOf P t = some 1)
    (hT : Take (b, cells l e) H F) (hl : SetAt l o v l') : Eff P w0 H m ty (.store t x y) (fun _ H' => H' = (b, cells l' e) :: F) := Eff.store hx hy h1 ht hT hl.eq.2 hl.eq.1
theorem Eff.storeAL {t : TypeId} {x y : Operand} {b o : Nat} {cs l l' : List Value} {e : TypeId} (hx : evO m x = some (.pointer (some ⟨b, o, none⟩))) (hy : evO m y = some (.agg cs.toArray)) (ht : szOf P t = some cs.length)
    (hT : Take (b, cells l e) H F) (hl : Lay l o cs l') (h1 : cs.all (·.oneCell') = true) : Eff P w0 H m ty (.store t x y) (fun _ H' => H' = (b, cells l' e) :: F) :=
  Eff.storeA hx hy ht hT hl.eq.2 (by simpa using h1) hl.eq.1

inductive Parts (m : Slots) : List (Nat × Operand) → List (Nat × Value) → Prop
  | nil : Parts m [] []
  | cons {i : Nat} {x : Operand} {v : Value} {ps : List (Nat × Operand)} {vs : List (Nat × Value)} : evO m x = some v → Parts m ps vs → Parts m ((i, x) :: ps) ((i, v) :: vs)
theorem Parts.map {ps : List (Nat × Operand)} {vs : List (Nat × Value)} (h : Parts m ps vs) : ps.map (fun (p : Nat × Operand) => (p.1, evS m p.2)) = vs := by
  induction h with
  | nil => rfl
  | cons hx _ ih => simp [evS, hx] at ih ⊢; exact ih
theorem Parts.cov {ps : List (Nat × Operand)} {vs : List (Nat × Value)} (h : Parts m ps vs) : ps.all (fun p => Proofs.Ytfgmofaadcbokaa.cov m p.2) = true := by
  induction h with
  | nil => rfl
  | cons hx _ ih => simp only [List.all_cons, ih, Bool.and_true]; simp [Proofs.Ytfgmofaadcbokaa.cov, hx]

/-- cells filled in, part by part -/
inductive Fill (pl : Nat → Option (Nat × Nat)) : List Value → List (Nat × Value) → List Value → Prop
  | nil {l : List Value} : Fill pl l [] l
  | one {l l' l'' : List Value} {i off : Nat} {v : Value} {ps : List (Nat × Value)} : pl i = some (off, 1) → v.oneCell' = true → SetAt l off v l' → Fill pl l' ps l'' → Fill pl l ((i, v) :: ps) l''
  | agg {l l' l'' : List Value} {i off sz : Nat} {cs : List Value} {ps : List (Nat × Value)} : pl i = some (off, sz) → cs.length = sz → Lay l off cs l' → Fill pl l' ps l'' → Fill pl l ((i, .agg cs.toArray) :: ps) l''

theorem foldl_lay (cs : List Value) : ∀ (l : List Value) (off k : Nat), off + k + cs.length ≤ l.length →
    (cs.zipIdx k).foldl (fun (acc : List Value) (p : Value × Nat) => acc.set (off + p.2) p.1) l = laid l (off + k) cs := by
  induction cs with
  | nil => intro l off k _; simp [laid]
  | cons c cs ih =>
    intro l off k h
    simp only [List.length_cons] at h
    simp only [List.zipIdx_cons, List.foldl_cons]
    rw [ih _ _ _ (by simp; omega)]
    unfold laid
    apply List.ext_getElem?
    intro j
    simp only [List.getElem?_append, List.getElem?_take, List.getElem?_drop, List.getElem?_set, List.length_append, List.length_take, List.length_set, List.length_cons, List.getElem?_cons]
    repeat' split
    all_goals first
      | rfl
      | omega
      | (congr 1; omega)
      | skip
    all_goals (simp_all <;> omega)

theorem fill_run {pl : Nat → Option (Nat × Nat)} {l l' : List Value} {ps : List (Nat × Value)} (h : Fill pl l ps l') : Instr.fill pl l.toArray ps = some l'.toArray := by
  induction h with
  | nil => rfl
  | @one l l1 l2 i off v ps hp h1 hs _ ih =>
    have hc : v.cells = #[v] := by cases v <;> simp [Value.oneCell'] at h1 <;> rfl
    have := hs.eq
    simp only [Instr.fill, hp, hc]
    simp [this.1, ih]
    omega
  | @agg l l1 l2 i off sz cs ps hp h1 hs _ ih =>
    have := hs.eq
    have e := foldl_lay cs l off 0 (by omega)
    have hcl : (Value.agg cs.toArray).cells = cs.toArray := rfl
    unfold Instr.fill
    rw [hp]
    dsimp only
    rw [hcl, if_neg (by simp; omega)]
    rw [show (cs.toArray.zipIdx.foldl (fun cs (c, j) => cs.setIfInBounds (off + j) c) l.toArray) = l1.toArray from ?_]
    · exact ih
    · rw [← Array.foldl_toList]
      have key : ∀ (zs : List (Value × Nat)) (acc : List Value), zs.foldl (fun cs (x : Value × Nat) => cs.setIfInBounds (off + x.2) x.1) acc.toArray = (zs.foldl (fun (acc : List Value) (p : Value × Nat) => acc.set (off + p.2) p.1) acc).toArray := by
        intro zs
        induction zs with
        | nil => intro acc; rfl
        | cons z zs ih => intro acc; simp only [List.foldl_cons, List.setIfInBounds_toArray]; exact ih _
      have e2 : (cs.toArray.zipIdx).toList = cs.zipIdx 0 := by simp
      rw [e2]
      rw [key, e, Nat.add_zero, this.1]

def structPl (P : Program) (t : TypeId) (i : Nat) : Option (Nat × Nat) :=
  match P.underlying t with
  | some (.struct fs) => match fs[i]? with
    | some fd => match P.info? fd.type with
      | some j => some (fd.offset, j.size)
      | none => none
    | none => none
  | some (.array _ e) => match P.info? e with
    | some j => some (i * j.size, j.size)
    | none => none
  | _ => none
def zeroOf (P : Program) (t : TypeId) : Option (List Value) := match P.info? t with
  | some i => i.zero.map fun z => z.cells.toList
  | none => none

theorem run_zero {t : TypeId} {l : List Value} (w : World) (h : zeroOf P t = some l) : ∃ z, (zeroValue t).run P w = .ok z w ∧ z.cells = l.toArray := by
  unfold zeroOf at h
  cases hi : P.info? t with
  | none => rw [hi] at h; cases h
  | some i =>
    rw [hi] at h
    obtain ⟨z, hz, rfl⟩ := Option.map_eq_some_iff.1 h
    exact ⟨z, by simp [zeroValue, typeInfo, program, Sem.run, Bind.bind, Sem.bind, hi, hz, Pure.pure], by simp⟩

theorem fill_congr {pl pl' : Nat → Option (Nat × Nat)} {l l' : List Value} {ps : List (Nat × Value)} (h : Fill pl l ps l') (hp : ∀ i r, pl i = some r → pl' i = some r) : Fill pl' l ps l' := by
  induction h with
  | nil => exact .nil
  | one h0 h1 h2 _ ih => exact .one (hp _ _ h0) h1 h2 ih
  | agg h0 h1 h2 _ ih => exact .agg (hp _ _ h0) h1 h2 ih

def sized (P : Program) (fs : Array Field) : Bool := fs.toList.all fun f => (P.info? f.type).isSome
def structOk (P : Program) (t : TypeId) : Bool := match P.underlying t with
  | some (.struct fs) => sized P fs
  | some (.array _ e) => (P.info? e).isSome
  | _ => false

theorem mapM_sizes (w : World) : ∀ (fs : List Field), (∀ f ∈ fs, (P.info? f.type).isSome = true) →
    (fs.mapM (fun (f : Field) => (do pure (f.offset, ← sizeOf f.type) : Sem (Nat × Nat)))).run P w = .ok (fs.map fun f => (f.offset, ((P.info? f.type).map (·.size)).getD 0)) w := by
  intro fs
  induction fs with
  | nil => intro _; simp [List.mapM_nil]
  | cons f fs ih =>
    intro h
    obtain ⟨i, hi⟩ := Option.isSome_iff_exists.1 (h f (.head _))
    have e1 := run_szOf (P := P) w (t := f.type) (k := i.size) (by simp [szOf, hi])
    have e2 := ih (fun g hg => h g (.tail _ hg))
    simp only [List.mapM_cons, Sem.run_bind, e1, Result.andThen, Sem.run_pure, e2, List.map_cons, hi, Option.map_some, Option.getD_some]

theorem Val.build {t : TypeId} {ps : List (Nat × Operand)} {vs : List (Nat × Value)} {z l : List Value} (hp : Parts m ps vs) (hz : zeroOf P t = some z) (hok : structOk P t = true) (hf : Fill (structPl P t) z vs l) : Val P w0 H m ty (.build t ps.toArray) (.agg l.toArray) :=
  ⟨by simp only [covOp, List.toList_toArray]; exact hp.cov, fun w d pos af g _ => by
    obtain ⟨zv, hz1, hz2⟩ := run_zero w hz
    have hm := hp.map
    unfold structOk at hok
    cases hu : P.underlying t with
    | none => rw [hu] at hok; cases hok
    | some td =>
      rw [hu] at hok
      cases td <;> simp only [Bool.false_eq_true] at hok
      case struct fs =>
        have hs := mapM_sizes (P := P) w fs.toList (by
          intro f hf'
          unfold sized at hok
          exact List.all_eq_true.1 hok f hf')
        have hfl := fill_run (fill_congr hf (pl' := fun i => ((fs.toList.map fun f => (f.offset, ((P.info? f.type).map (·.size)).getD 0)).toArray)[i]?) (by
          intro i r hr
          unfold structPl at hr
          rw [hu] at hr
          simp only at hr
          split at hr
          · rename_i fd hfd
            split at hr
            · rename_i j hj
              cases hr
              simp [hfd, hj]
            · cases hr
          · cases hr))
        have fm : ∀ (s : Sem (List (Nat × Nat))), (List.toArray <$> s : Sem (Array (Nat × Nat))) = (s >>= fun l => pure l.toArray) := fun _ => rfl
        have e1 : (fs.mapM fun (f : Field) => (do pure (f.offset, ← sizeOf f.type) : Sem (Nat × Nat))).run P w = .ok (fs.toList.map fun f => (f.offset, ((P.info? f.type).map (·.size)).getD 0)).toArray w := by
          rw [← Array.toArray_toList (xs := fs), List.mapM_toArray, fm]
          simp only [Sem.run_bind, hs, Result.andThen, Sem.run_pure]
        have e2 : (ps.toArray.map fun (p : Nat × Operand) => (p.1, evS m p.2)) = vs.toArray := by simp [hm]
        have e3 : (execOp (evS m) ⟨d, .build t ps.toArray, ty, pos, af, g⟩) = (do pure (.value (← Instr.build t vs.toArray)) : Sem Next) := by
          simp only [execOp]
          rw [show (ps.toArray.map fun x => match x with | (i, x) => (i, evS m x)) = vs.toArray from e2]
        rw [e3]
        simp only [Instr.build, Sem.run_bind, hz1, Result.andThen, run_und w hu, e1, hz2, List.toList_toArray, hfl, Sem.run_pure]
      case array k e =>
        obtain ⟨i, hi⟩ := Option.isSome_iff_exists.1 hok
        have hsz := run_szOf (P := P) w (t := e) (k := i.size) (by simp [szOf, hi])
        have hfl := fill_run (fill_congr hf (pl' := fun j => some (j * i.size, i.size)) (by
          intro j r hr
          unfold structPl at hr
          rw [hu] at hr
          simp only [hi] at hr
          exact hr))
        have e2 : (ps.toArray.map fun (p : Nat × Operand) => (p.1, evS m p.2)) = vs.toArray := by simp [hm]
        have e3 : (execOp (evS m) ⟨d, .build t ps.toArray, ty, pos, af, g⟩) = (do pure (.value (← Instr.build t vs.toArray)) : Sem Next) := by
          simp only [execOp]
          rw [show (ps.toArray.map fun x => match x with | (i, x) => (i, evS m x)) = vs.toArray from e2]
        rw [e3]
        simp only [Instr.build, Sem.run_bind, hz1, Result.andThen, run_und w hu, hsz, hz2, List.toList_toArray, hfl, Sem.run_pure]⟩
end
end Go.Proofs.Ytfgmofaadcbokaa
