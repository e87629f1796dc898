/- Ideal: the law IdealStays. -/
import Derived.Test.YthamkgghnjenhaaVIdL2
namespace Go.Proofs.Ythamkgghnjenhaa
open Go.RowKit Go.ChangeShapes Go.WideShapes Go.ChangeAt Go.Deep Go.Joins
set_option linter.unusedVariables false
set_option linter.unusedSimpArgs false
set_option maxRecDepth 10000

/-! ## the plain law -/
theorem live_mint {S S' : St} {id : Int} (hn : Nums S) (hm : S'.minted = S.minted + 1) (h1 : S'.Hd ((S.minted : Int) + 1) = some id) (h2 : ∀ j, j ≠ (S.minted : Int) + 1 → S'.Hd j = S.Hd j) : liveN S' = liveN S + 1 := by
  unfold liveN handsP
  rw [hm, upTo_succ, List.filter_append, List.length_append]
  have e1 : (upTo S.minted).filter (fun h => (S'.Hd h).isSome) = (upTo S.minted).filter (fun h => (S.Hd h).isSome) := List.filter_congr fun j hj => by
    have := upTo_mem.1 hj
    rw [h2 j (by omega)]
  rw [e1, List.filter_cons, h1]
  rfl
inductive Cas (S : St) (op : OpP) (S' : St) (r : Sd) : Prop
  | a {e : Int} : e ≠ 0 → r = ⟨e, 0, 0⟩ → S' = S → (e = 131 → S.caps ≤ (liveN S : Nat)) → (e = 100 → op.code = 1 ∧ mayP 0 op.a op.b = true ∧ (roundP S.cl (op.a + op.b + 1)).2 = 0 ∧ usedP S + (roundP S.cl (op.a + op.b + 1)).1 > S.quota) → Cas S op S' r
  | b {w : Int} : r = ⟨0, 0, w⟩ → op.code ≠ 1 → S'.minted = S.minted → S'.made = S.made → Cas S op S' r
  | c : r = ⟨0, (S.minted : Int) + 1, 0⟩ → op.code ≠ 1 → (liveN S : Int) < S.caps → S'.minted = S.minted + 1 → liveN S' = liveN S + 1 → S'.made = S.made → Cas S op S' r
  | d {x : Th} : r = ⟨0, (S.minted : Int) + 1, 0⟩ → op.code = 1 → (liveN S : Int) < S.caps → S'.minted = S.minted + 1 → liveN S' = liveN S + 1 → S'.made = S.made + 1 → S'.Hd ((S.minted : Int) + 1) = some ((S.made : Int) + 1) → S'.T ((S.made : Int) + 1) = some x → usedP S' = usedP S + x.size → Cas S op S' r
theorem cas_of {S S' : St} {op : OpP} {r : Sd} (hI : Inv S) (h : Out S op S' r) : Cas S op S' r := by
  have hn := hI.st.closed.nums
  cases h with
  | err h1 h2 h3 => exact .a h1 rfl rfl h2 h3
  | val h1 => exact .b rfl h1 rfl rfl
  | @mint id h1 h2 h3 =>
    have hm : (mintP S id).1 = { S with minted := S.minted + 1, Hd := fun h => if h = (S.minted : Int) + 1 then some id else S.Hd h } := by
      unfold mintP; unfold liveN at h3; rw [if_neg (by omega)]
    refine .c rfl h1 h3 (by rw [hm]) (live_mint (id := id) hn (by rw [hm]) (by rw [hm]; show (if _ then _ else _) = _; rw [if_pos rfl]) (fun j hj => by rw [hm]; show (if _ then _ else _) = _; rw [if_neg hj])) (by rw [hm])
  | @alloc sz h1 h2 h3 h4 h5 h6 =>
    have hm : (mintP S ((S.made : Int) + 1)).1 = { S with minted := S.minted + 1, Hd := fun h => if h = (S.minted : Int) + 1 then some ((S.made : Int) + 1) else S.Hd h } := by
      unfold mintP; unfold liveN at h2; rw [if_neg (by omega)]
    obtain ⟨M, hM⟩ : ∃ M, M = (mintP S ((S.made : Int) + 1)).1 := ⟨_, rfl⟩
    rw [← hM] at hm ⊢
    have hMH1 : M.Hd ((S.minted : Int) + 1) = some ((S.made : Int) + 1) := by rw [hm]; show (if _ then _ else _) = _; rw [if_pos rfl]
    have hMH2 : ∀ j, j ≠ (S.minted : Int) + 1 → M.Hd j = S.Hd j := fun j hj => by rw [hm]; show (if _ then _ else _) = _; rw [if_neg hj]
    have hMm : M.minted = S.minted + 1 := by rw [hm]
    obtain ⟨S', hS'⟩ : ∃ S' : St, S' = { M with made := S.made + 1, T := fun j => if j = (S.made : Int) + 1 then some (newTh op.a op.b sz) else S.T j } := ⟨_, rfl⟩
    rw [← hS']
    have hT1 : S'.T ((S.made : Int) + 1) = some (newTh op.a op.b sz) := by rw [hS']; show (if _ then _ else _) = _; rw [if_pos rfl]
    have hT2 : ∀ j, j ≠ (S.made : Int) + 1 → S'.T j = S.T j := fun j hj => by rw [hS']; show (if _ then _ else _) = _; rw [if_neg hj]
    have hH : S'.Hd = M.Hd := by rw [hS']
    have hmt : S'.minted = S.minted + 1 := by rw [hS']; exact hMm
    have hmd : S'.made = S.made + 1 := by rw [hS']
    refine .d (x := newTh op.a op.b sz) rfl h1 h2 hmt (live_mint (id := (S.made : Int) + 1) hn hmt (by rw [hH]; exact hMH1) (fun j hj => by rw [hH]; exact hMH2 j hj)) hmd (by rw [hH]; exact hMH1) hT1 ?_
    rw [used_all, used_all, hmd, upTo_succ, List.map_append, List.sum_append]
    have e1 : ([(S.made : Int) + 1].map (szP S')).sum = sz := by simp [sz_some hT1, newTh]
    have e2 : (upTo S.made).map (szP S') = (upTo S.made).map (szP S) := List.map_congr_left fun j hj => by
      have := upTo_mem.1 hj
      unfold szP; rw [hT2 j (by omega)]
    rw [e1, e2]; rfl
  | set h1 _ _ _ _ _ => exact .b rfl h1 rfl rfl
  | write h1 _ _ _ _ h6 => exact .b rfl h1 h6.minted h6.made
  | drop h1 h6 => exact .b rfl h1 h6.minted h6.made

/-! ## Same, alike, least, size -/
theorem SameT_K {w0 : World} {H : Heap} {x : Th} {o1 o2 o3 o4 : Own} (h1 : Sli w0 H iE (oV o1 x.refs.length) x.refs) (h2 : Sli w0 H uE (oV o2 x.words.length) x.words) (h3 : Sli w0 H iE (oV o3 x.refs.length) x.refs) (h4 : Sli w0 H uE (oV o4 x.words.length) x.words) (hl : x.words.length ≤ 1000) :
    Call Try.prog w0 36 [tV x o1 o2, tV x o3 o4] H (fun r H' => r = .bool true ∧ H' = H) := by
  have a1 := oV_one o1 x.refs.length
  have a2 := oV_one o2 x.words.length
  have a3 := oV_one o3 x.refs.length
  have a4 := oV_one o4 x.words.length
  unfold tV
  refine Call.enter2 (n := 53) (by kernel_rfl) Try.func36 rfl rfl rfl ?_
  refine K.seq ?_
  refine K.region ?_
  (refine KL.e rfl (Eff.box rfl rfl) ?_; rintro _ _ ⟨b2, rfl, rfl⟩)
  (refine KL.e rfl (Eff.box rfl rfl) ?_; rintro _ _ ⟨b3, rfl, rfl⟩)
  (refine KL.v rfl (Val.assign rfl) ?_)
  refine KL.nil ?_
  refine KE.next ?_
  refine K.seq ?_
  refine K.seq ?_
  refine K.region ?_
  (refine KL.v rfl (Val.fieldAddr0 (k := 2) rfl rfl) ?_)
  (refine KL.v rfl (Val.loadP rfl rfl (Sees.cell byTake rfl)) ?_)
  (refine KL.v rfl (Val.fieldAddr0 (k := 2) rfl rfl) ?_)
  (refine KL.v rfl (Val.loadP rfl rfl (Sees.cell byTake rfl)) ?_)
  (refine KL.v rfl (Val.isF (Val.neq rfl rfl) byLt) ?_)
  (refine KL.v rfl (Val.move rfl) ?_)
  (refine KL.yes rfl rfl ?_; refine KL.v rfl (Val.fieldAddr0 (k := 3) rfl rfl) ?_)
  (refine KL.yes rfl rfl ?_; refine KL.v rfl (Val.loadP rfl rfl (Sees.cell byTake rfl)) ?_)
  (refine KL.yes rfl rfl ?_; refine KL.v rfl (Val.fieldAddr0 (k := 3) rfl rfl) ?_)
  (refine KL.yes rfl rfl ?_; refine KL.v rfl (Val.loadP rfl rfl (Sees.cell byTake rfl)) ?_)
  (refine KL.yes rfl rfl ?_; refine KL.v rfl (Val.isF (Val.neq rfl rfl) byLt) ?_)
  (refine KL.v rfl (Val.pickF rfl rfl rfl) ?_)
  (refine KL.v rfl (Val.move rfl) ?_)
  (refine KL.yes rfl rfl ?_; refine KL.v rfl (Val.fieldAddr0 (k := 0) rfl rfl) ?_)
  (refine KL.yes rfl rfl ?_; refine KL.v rfl (Val.loadP rfl rfl (Sees.cell byTake rfl)) ?_)
  (refine KL.yes rfl rfl ?_; refine KL.v rfl (Val.fieldAddr0 (k := 0) rfl rfl) ?_)
  (refine KL.yes rfl rfl ?_; refine KL.v rfl (Val.loadP rfl rfl (Sees.cell byTake rfl)) ?_)
  (refine KL.yes rfl rfl ?_; refine KL.callc rfl rfl byEvL fun T hT => ?_)
  refine (CallV.pure fun w hw => CallV.fn (Same_K (a := x.refs) (b := x.refs) (h1 w (hw.part byPart)) (h3 w (hw.part byPart)))).mono ?_
  rintro _ _ ⟨_, ⟨rfl, rfl⟩, rfl⟩
  rw [decide_eq_true rfl]
  refine hT _ _ ?_; clear hT; clear T
  (refine KL.yes rfl rfl ?_; refine KL.v rfl (Val.notT rfl) ?_)
  (refine KL.v rfl (Val.pickF rfl rfl rfl) ?_)
  (refine KL.v rfl (Val.move rfl) ?_)
  (refine KL.yes rfl rfl ?_; refine KL.v rfl (Val.fieldAddr0 (k := 1) rfl rfl) ?_)
  (refine KL.yes rfl rfl ?_; refine KL.v rfl (Val.loadP rfl rfl (Sees.cell byTake rfl)) ?_)
  (refine KL.yes rfl rfl ?_; refine KL.v rfl (Val.lenSl rfl rfl bySli) ?_)
  (refine KL.yes rfl rfl ?_; refine KL.v rfl (Val.fieldAddr0 (k := 1) rfl rfl) ?_)
  (refine KL.yes rfl rfl ?_; refine KL.v rfl (Val.loadP rfl rfl (Sees.cell byTake rfl)) ?_)
  (refine KL.yes rfl rfl ?_; refine KL.v rfl (Val.lenSl rfl rfl bySli) ?_)
  (refine KL.yes rfl rfl ?_; refine KL.v rfl (Val.isF (Val.neq rfl rfl) byLt) ?_)
  (refine KL.v rfl (Val.pickF rfl rfl rfl) ?_)
  refine KL.nil ?_
  refine KE.next ?_
  refine K.condF rfl ?_
  refine K.skip ?_
  refine KE.next ?_
  refine K.seq ?_
  refine K.seq ?_
  refine K.region ?_
  (refine KL.v rfl (Val.assign rfl) ?_)
  refine KL.nil ?_
  refine KE.next ?_
  refine K.block ?_
  refine K.loopT (σ := Nat) [(2, _), (3, _)] (fun s kp_ => (5, .int .i64 (s : Nat)) :: kp_) (fun s => (b3, cells [oV o3 x.refs.length, oV o4 x.words.length, .int .i64 x.size, .int .i64 x.pins] 34) :: (b2, cells [oV o1 x.refs.length, oV o2 x.words.length, .int .i64 x.size, .int .i64 x.pins] 34) :: H) (fun s => s ≤ x.words.length) (fun s => x.words.length - s) (0) bySub byPart (by simp) ?_
  rintro k hk
  by_cases hlt : k < x.words.length
  · obtain ⟨y, hy⟩ := get_of_lt hlt
    refine K.seq ?_
    refine K.seq ?_
    refine K.region ?_
    (refine KL.v rfl (Val.move rfl) ?_)
    (refine KL.v rfl (Val.fieldAddr0 (k := 1) rfl rfl) ?_)
    (refine KL.v rfl (Val.loadP rfl rfl (Sees.cell byTake rfl)) ?_)
    (refine KL.v rfl (Val.lenSl rfl rfl bySli) ?_)
    (refine KL.v rfl (Val.isT (Val.lss rfl rfl) byLt) ?_)
    refine KL.nil ?_
    refine KE.next ?_
    refine K.condT rfl ?_
    refine K.skip ?_
    refine KE.next ?_
    refine K.seq ?_
    refine K.block ?_
    refine K.seq ?_
    refine K.drawn [] [(0, 0), (1, 0), (2, 0), (3, 0), (4, 0), (5, 0), (6, 0), (7, 0), (8, 0), (9, 0), (10, 0)] (by kernel_rfl) (by kernel_rfl) (by kernel_rfl) (by kernel_rfl) (by kernel_rfl) (by kernel_rfl) Part.nil ?_
    refine KD.v0 rfl rfl (Val.fieldAddr0 (k := 1) rfl rfl) ?_
    refine KD.v0 rfl rfl (Val.loadP rfl rfl (Sees.cell byTake rfl)) ?_
    refine KD.v0 rfl rfl (Val.move rfl) ?_
    refine KD.v0 rfl rfl (Val.idxSl rfl rfl rfl bySli rfl byLt) ?_
    refine KD.v0 rfl rfl (Val.loadP rfl rfl bySee) ?_
    refine KD.v0 rfl rfl (Val.fieldAddr0 (k := 1) rfl rfl) ?_
    refine KD.v0 rfl rfl (Val.loadP rfl rfl (Sees.cell byTake rfl)) ?_
    refine KD.v0 rfl rfl (Val.move rfl) ?_
    refine KD.v0 rfl rfl (Val.idxSl rfl rfl rfl bySli rfl byLt) ?_
    refine KD.v0 rfl rfl (Val.loadP rfl rfl bySee) ?_
    refine KD.v0 rfl rfl (Val.isF (Val.neq rfl rfl) byLt) ?_
    refine KD.nil ?_
    refine KE.next ?_
    refine K.condF rfl ?_
    refine K.skip ?_
    refine KE.blkN ?_
    refine KE.next ?_
    refine K.region ?_
    (refine KL.v rfl (Val.move rfl) ?_)
    (refine KL.v rfl (Val.add rfl rfl (by simp only [Go.Proofs.Ythamkgghnjenhaa.lo, Go.Proofs.Ythamkgghnjenhaa.hi]; omega)) ?_)
    (refine KL.v rfl (Val.assign rfl) ?_)
    refine KL.nil ?_
    exact KE.again (k + 1) bySub byPart (by omega) (by omega)
  · refine K.seq ?_
    refine K.seq ?_
    refine K.region ?_
    (refine KL.v rfl (Val.move rfl) ?_)
    (refine KL.v rfl (Val.fieldAddr0 (k := 1) rfl rfl) ?_)
    (refine KL.v rfl (Val.loadP rfl rfl (Sees.cell byTake rfl)) ?_)
    (refine KL.v rfl (Val.lenSl rfl rfl bySli) ?_)
    (refine KL.v rfl (Val.isF (Val.lss rfl rfl) byLt) ?_)
    refine KL.nil ?_
    refine KE.next ?_
    refine K.condF rfl ?_
    refine K.exit ?_
    refine KE.passX ?_
    refine KE.passX ?_
    refine KE.blkX ?_
    refine KE.next ?_
    refine K.seq ?_
    refine K.region ?_
    (refine KL.v rfl (Val.assign rfl) ?_)
    refine KL.nil ?_
    refine KE.next ?_
    refine K.ret ?_
    exact KE.fin byMarks rfl byRes byPart ⟨rfl, rfl⟩
theorem alike_K {w0 : World} {F : Heap} {a b : SM} (oka : SOk a) (okb : SOk b) (hst : b.st = a.st) (hS : StOk a.st) (hm : a.made ≤ 1000) (hmi : a.minted ≤ 1000) :
    Call Try.prog w0 21 [.pointer (some ⟨a.b, 0, none⟩), .pointer (some ⟨b.b, 0, none⟩)] (smH a ++ (smH b ++ F)) (fun r H' => r = .bool true ∧ H' = smH a ++ (smH b ++ F)) := by
  have hn := hS.closed.nums
  have hnb : Nums b.st := by rw [hst]; exact hn
  have hmb : b.made ≤ 1000 := by rw [show b.made = a.made from congrArg St.made hst]; exact hm
  have hmib : b.minted ≤ 1000 := by rw [show b.minted = a.minted from congrArg St.minted hst]; exact hmi
  have hidl : (objsP a.st).length ≤ 1000 := Nat.le_trans (objs_len _) hm
  refine Call.enter2 (n := 54) (by kernel_rfl) Try.func21 rfl rfl rfl ?_
  refine K.seq ?_
  refine K.region ?_
  (refine KL.v rfl (Val.assign rfl) ?_)
  refine KL.nil ?_
  refine KE.next ?_
  refine K.seq ?_
  refine K.region ?_
  (refine KL.v rfl (Val.move rfl) ?_)
  (refine KL.callc rfl rfl byEvL fun T hT => ?_)
  refine (CallV.part (CallV.fn (Objects_K oka hn hm)) byPart).mono ?_
  rintro _ _ ⟨o, oko, rfl, rfl⟩
  refine hT _ _ ?_; clear hT; clear T
  (refine KL.v rfl (Val.assign rfl) ?_)
  refine KL.nil ?_
  refine KE.next ?_
  refine K.seq ?_
  refine K.seq ?_
  refine K.region ?_
  (refine KL.v rfl (Val.move rfl) ?_)
  (refine KL.v rfl (Val.move rfl) ?_)
  (refine KL.callc rfl rfl byEvL fun T hT => ?_)
  refine (CallV.part (CallV.fn (Objects_K okb hnb hmb)) byPart).mono ?_
  rintro _ _ ⟨o2, oko2, rfl, rfl⟩
  rw [hst] at oko2 ⊢
  refine hT _ _ ?_; clear hT; clear T
  (refine KL.callc rfl rfl byEvL fun T hT => ?_)
  refine (CallV.pure fun w hw => CallV.fn (Same_K (a := objsP a.st) (b := objsP a.st) (Sli.own byTakeL oko rfl w hw) (Sli.own byTakeL oko2 rfl w hw))).mono ?_
  rintro _ _ ⟨_, ⟨rfl, rfl⟩, rfl⟩
  rw [decide_eq_true rfl]
  refine hT _ _ ?_; clear hT; clear T
  (refine KL.v rfl (Val.notT rfl) ?_)
  (refine KL.v rfl (Val.move rfl) ?_)
  (refine KL.yes rfl rfl ?_; refine KL.v rfl (Val.move rfl) ?_)
  (refine KL.yes rfl rfl ?_; refine KL.callc rfl rfl byEvL fun T hT => ?_)
  refine (CallV.part (CallV.fn (Handles_K oka hn hmi)) byPart).mono ?_
  rintro _ _ ⟨o3, oko3, rfl, rfl⟩
  refine hT _ _ ?_; clear hT; clear T
  (refine KL.yes rfl rfl ?_; refine KL.v rfl (Val.move rfl) ?_)
  (refine KL.yes rfl rfl ?_; refine KL.callc rfl rfl byEvL fun T hT => ?_)
  refine (CallV.part (CallV.fn (Handles_K okb hnb hmib)) byPart).mono ?_
  rintro _ _ ⟨o4, oko4, rfl, rfl⟩
  rw [hst] at oko4 ⊢
  refine hT _ _ ?_; clear hT; clear T
  (refine KL.yes rfl rfl ?_; refine KL.callc rfl rfl byEvL fun T hT => ?_)
  refine (CallV.pure fun w hw => CallV.fn (Same_K (a := handsP a.st) (b := handsP a.st) (Sli.own byTakeL oko3 rfl w hw) (Sli.own byTakeL oko4 rfl w hw))).mono ?_
  rintro _ _ ⟨_, ⟨rfl, rfl⟩, rfl⟩
  rw [decide_eq_true rfl]
  refine hT _ _ ?_; clear hT; clear T
  (refine KL.yes rfl rfl ?_; refine KL.v rfl (Val.notT rfl) ?_)
  (refine KL.v rfl (Val.pickF rfl rfl rfl) ?_)
  refine KL.nil ?_
  refine KE.next ?_
  refine K.condF rfl ?_
  refine K.skip ?_
  refine KE.next ?_
  refine K.seq ?_
  refine K.seq ?_
  refine K.region ?_
  (refine KL.v rfl (Val.assign rfl) ?_)
  refine KL.nil ?_
  refine KE.next ?_
  refine K.block ?_
  refine K.loopT (σ := Nat) [(0, _), (1, _), (5, _)] (fun s kp_ => (6, .int .i64 (s : Nat)) :: kp_) (fun s => oH iE 3 (objsP a.st) o ++ (smH a ++ (smH b ++ F))) (fun s => s ≤ (objsP a.st).length) (fun s => (objsP a.st).length - s) (0) bySub byPart (by simp) ?_
  rintro k hk
  by_cases hlt : k < (objsP a.st).length
  · obtain ⟨i, hi⟩ := get_of_lt hlt
    obtain ⟨x, hx⟩ := Option.isSome_iff_exists.1 ((objs_mem hn).1 (List.mem_of_getElem? hi))
    have hsz := (hS.tx i x hx).sz
    have hxb : tf b.ts i = some x := by have := congrArg St.T hst; exact (congrFun this i).trans hx
    refine K.seq ?_
    refine K.seq ?_
    refine K.region ?_
    (refine KL.v rfl (Val.move rfl) ?_)
    (refine KL.v rfl (Val.move rfl) ?_)
    (refine KL.v rfl (Val.lenSl rfl rfl (Sli.own byTakeL (by assumption) byLen)) ?_)
    (refine KL.v rfl (Val.isT (Val.lss rfl rfl) byLt) ?_)
    refine KL.nil ?_
    refine KE.next ?_
    refine K.condT rfl ?_
    refine K.skip ?_
    refine KE.next ?_
    refine K.seq ?_
    refine K.block ?_
    refine K.seq ?_
    refine K.region ?_
    (refine KL.v rfl (Val.move rfl) ?_)
    (refine KL.v rfl (Val.move rfl) ?_)
    (refine KL.v rfl (Val.move rfl) ?_)
    (refine KL.v rfl (Val.idxSl rfl rfl rfl (Sli.own byTakeL (by assumption) byLen) rfl byLt) ?_)
    (refine KL.v rfl (Val.loadP rfl rfl (Sees.sl0 (Sli.own byTakeL (by assumption) byLen) (by assumption) rfl)) ?_)
    (refine KL.callc rfl rfl byEvL fun T hT => ?_)
    refine (CallV.part (CallV.fn (ObjectY_K oka (n := i) hx (by omega))) byPart).mono ?_
    rintro _ _ ⟨p1, p2, q1, q2, rfl, rfl⟩
    unfold tV
    refine hT _ _ ?_; clear hT; clear T
    (refine KL.v rfl (Val.move rfl) ?_)
    (refine KL.v rfl (Val.extract rfl rfl) ?_)
    (refine KL.v rfl (Val.extract rfl rfl) ?_)
    (refine KL.e rfl (Eff.alloc rfl) ?_; rintro _ _ ⟨b7, rfl, rfl⟩)
    (refine KL.eN (Eff.storeAL rfl rfl rfl byTake byLay byOnes) ?_; rintro _ _ rfl)
    (refine KL.v rfl (Val.assign rfl) ?_)
    refine KL.nil ?_
    refine KE.next ?_
    refine K.seq ?_
    refine K.region ?_
    (refine KL.v rfl (Val.move rfl) ?_)
    (refine KL.v rfl (Val.move rfl) ?_)
    (refine KL.v rfl (Val.move rfl) ?_)
    (refine KL.v rfl (Val.idxSl rfl rfl rfl (Sli.own byTakeL (by assumption) byLen) rfl byLt) ?_)
    (refine KL.v rfl (Val.loadP rfl rfl (Sees.sl0 (Sli.own byTakeL (by assumption) byLen) (by assumption) rfl)) ?_)
    (refine KL.callc rfl rfl byEvL fun T hT => ?_)
    refine (CallV.part (CallV.fn (ObjectY_K okb (n := i) hxb (by omega))) byPart).mono ?_
    rintro _ _ ⟨p3, p4, q3, q4, rfl, rfl⟩
    unfold tV
    refine hT _ _ ?_; clear hT; clear T
    (refine KL.v rfl (Val.move rfl) ?_)
    (refine KL.v rfl (Val.extract rfl rfl) ?_)
    (refine KL.v rfl (Val.extract rfl rfl) ?_)
    (refine KL.e rfl (Eff.alloc rfl) ?_; rintro _ _ ⟨b9, rfl, rfl⟩)
    (refine KL.eN (Eff.storeAL rfl rfl rfl byTake byLay byOnes) ?_; rintro _ _ rfl)
    (refine KL.v rfl (Val.assign rfl) ?_)
    refine KL.nil ?_
    refine KE.next ?_
    refine K.seq ?_
    refine K.region ?_
    (refine KL.v rfl (Val.loadA rfl rfl rfl bySeeN) ?_)
    (refine KL.v rfl (Val.loadA rfl rfl rfl bySeeN) ?_)
    (refine KL.callc rfl rfl byEvL fun T hT => ?_)
    refine (CallV.fn (SameT_K (x := x) (o1 := p1) (o2 := p2) (o3 := p3) (o4 := p4) (Sli.own byTakeL q1 rfl) (Sli.own byTakeL q2 rfl) (Sli.own byTakeL q3 rfl) (Sli.own byTakeL q4 rfl) (by omega))).mono ?_
    rintro _ _ ⟨rfl, rfl⟩
    refine hT _ _ ?_; clear hT; clear T
    (refine KL.v rfl (Val.notT rfl) ?_)
    refine KL.nil ?_
    refine KE.next ?_
    refine K.condF rfl ?_
    refine K.skip ?_
    refine KE.blkN ?_
    refine KE.next ?_
    refine K.region ?_
    (refine KL.v rfl (Val.move rfl) ?_)
    (refine KL.v rfl (Val.add rfl rfl (by simp only [Go.Proofs.Ythamkgghnjenhaa.lo, Go.Proofs.Ythamkgghnjenhaa.hi]; omega)) ?_)
    (refine KL.v rfl (Val.assign rfl) ?_)
    refine KL.nil ?_
    exact KE.again (k + 1) bySub byPart (by omega) (by omega)
  · refine K.seq ?_
    refine K.seq ?_
    refine K.region ?_
    (refine KL.v rfl (Val.move rfl) ?_)
    (refine KL.v rfl (Val.move rfl) ?_)
    (refine KL.v rfl (Val.lenSl rfl rfl (Sli.own byTakeL (by assumption) byLen)) ?_)
    (refine KL.v rfl (Val.isF (Val.lss rfl rfl) byLt) ?_)
    refine KL.nil ?_
    refine KE.next ?_
    refine K.condF rfl ?_
    refine K.exit ?_
    refine KE.passX ?_
    refine KE.passX ?_
    refine KE.blkX ?_
    refine KE.next ?_
    refine K.seq ?_
    refine K.region ?_
    (refine KL.v rfl (Val.assign rfl) ?_)
    refine KL.nil ?_
    refine KE.next ?_
    refine K.ret ?_
    exact KE.fin byMarks rfl byRes byPart ⟨rfl, rfl⟩
theorem size_K {w0 : World} {F : Heap} {sm : SM} {n : Int} {x : Th} (ok : SOk sm) (hx : tf sm.ts n = some x) (hr : x.refs.length ≤ 1000 ∧ x.words.length ≤ 1000) :
    Call Try.prog w0 23 [.pointer (some ⟨sm.b, 0, none⟩), .int .i64 n] (smH sm ++ F) (fun r H' => r = .int .i64 x.size ∧ H' = smH sm ++ F) := by
  refine Call.enter2 (n := 15) (by kernel_rfl) Try.func23 rfl rfl rfl ?_
  refine K.seq ?_
  refine K.region ?_
  (refine KL.v rfl (Val.assign rfl) ?_)
  refine KL.nil ?_
  refine KE.next ?_
  refine K.seq ?_
  refine K.region ?_
  (refine KL.v rfl (Val.move rfl) ?_)
  (refine KL.v rfl (Val.move rfl) ?_)
  (refine KL.callc rfl rfl byEvL fun T hT => ?_)
  refine (CallV.fn (ObjectY_K ok hx hr)).mono ?_
  rintro _ _ ⟨o1, o2, k1, k2, rfl, rfl⟩
  unfold tV
  refine hT _ _ ?_; clear hT; clear T
  (refine KL.v rfl (Val.move rfl) ?_)
  (refine KL.v rfl (Val.extract rfl rfl) ?_)
  (refine KL.v rfl (Val.extract rfl rfl) ?_)
  (refine KL.e rfl (Eff.alloc rfl) ?_; rintro _ _ ⟨b5, rfl, rfl⟩)
  (refine KL.eN (Eff.storeAL rfl rfl rfl byTake byLay byOnes) ?_; rintro _ _ rfl)
  (refine KL.v rfl (Val.assign rfl) ?_)
  refine KL.nil ?_
  refine KE.next ?_
  refine K.seq ?_
  refine K.region ?_
  (refine KL.v rfl (Val.fieldAddr0 (k := 2) rfl rfl) ?_)
  (refine KL.v rfl (Val.loadP rfl rfl (Sees.cell byTake rfl)) ?_)
  (refine KL.v rfl (Val.assign rfl) ?_)
  refine KL.nil ?_
  refine KE.next ?_
  refine K.ret ?_
  exact KE.fin byMarks rfl byRes byPart ⟨rfl, rfl⟩
theorem first_spec {n : Int} : ∀ {l : List Int} {k : Nat} {x : Int}, l[k]? = some x → (k < firstP n l → x < n) ∧ (k = firstP n l → n ≤ x)
  | [], k, x, h => by simp at h
  | y :: l, 0, x, h => by
    simp at h; subst h
    unfold firstP
    by_cases e : n ≤ y
    · rw [if_pos e]; exact ⟨fun h => by omega, fun _ => e⟩
    · rw [if_neg e]; exact ⟨fun _ => by omega, fun h => by omega⟩
  | y :: l, k + 1, x, h => by
    unfold firstP
    by_cases e : n ≤ y
    · rw [if_pos e]; exact ⟨fun h => by omega, fun h => by omega⟩
    · rw [if_neg e]
      have := first_spec (n := n) (l := l) (k := k) (x := x) (by simpa using h)
      exact ⟨fun h => this.1 (by omega), fun h => this.2 (by omega)⟩
theorem round_first {l : List Int} {n : Int} (hc : classP l = true) (h : (roundP l n).2 = 0) : l[firstP n l]? = some (roundP l n).1 := by
  have hle := first_le n l
  unfold roundP at h ⊢
  split at h
  · rename_i ho
    rw [if_pos ho]
    have hlt : firstP n l < l.length := by
      unfold ofP at ho
      rw [if_pos hc] at ho
      split at ho
      · simp at ho
      · rename_i h2; omega
    obtain ⟨y, hy⟩ := get_of_lt hlt
    rw [hy]; rfl
  · rename_i ho; exact absurd h ho
theorem least_K {w0 : World} {H : Heap} {vc : Value} {cl : List Int} {q c : Int} {op : OpP} (hK : SlW w0 iE vc cl) (hcl : classP cl = true) (hm : mayP 0 op.a op.b = true) (hr : (roundP cl (op.a + op.b + 1)).2 = 0) :
    Call Try.prog w0 22 [kindV vc q c, opV op] H (fun r H' => r = .int .i64 (roundP cl (op.a + op.b + 1)).1 ∧ H' = H) := by
  have hK1 := hK.one
  have hab : 0 ≤ op.a ∧ 0 ≤ op.b ∧ op.a ≤ 63 ∧ op.b ≤ 63 := by simp [mayP] at hm; omega
  have hf := round_first hcl hr
  have hflt := lt_of_get hf
  have hcl8 : cl.length ≤ 8 := by simp [classP] at hcl; omega
  have hopv : opV op = .agg [.int .u8 op.code, .int .i64 op.h, .int .i64 op.a, .int .i64 op.b, .int .u64 op.v, .int .i64 op.to].toArray := rfl
  have hkv : kindV vc q c = .agg [vc, .int .i64 q, .int .i64 c].toArray := rfl
  rw [hopv, hkv]
  refine Call.enter2 (n := 29) (by kernel_rfl) Try.func22 rfl rfl rfl ?_
  refine K.seq ?_
  refine K.region ?_
  (refine KL.e rfl (Eff.box rfl rfl) ?_; rintro _ _ ⟨b2, rfl, rfl⟩)
  (refine KL.e rfl (Eff.box rfl rfl) ?_; rintro _ _ ⟨b3, rfl, rfl⟩)
  (refine KL.v rfl (Val.assign rfl) ?_)
  refine KL.nil ?_
  refine KE.next ?_
  refine K.seq ?_
  refine K.seq ?_
  refine K.region ?_
  (refine KL.v rfl (Val.assign rfl) ?_)
  refine KL.nil ?_
  refine KE.next ?_
  refine K.block ?_
  refine K.loopT (σ := Nat) [(2, _), (3, _)] (fun s kp_ => (5, .int .i64 (s : Nat)) :: kp_) (fun s => (b3, cells [.int .u8 op.code, .int .i64 op.h, .int .i64 op.a, .int .i64 op.b, .int .u64 op.v, .int .i64 op.to] 51) :: (b2, cells [vc, .int .i64 q, .int .i64 c] 24) :: H) (fun s => s ≤ firstP (op.a + op.b + 1) cl) (fun s => cl.length - s) (0) bySub byPart (by omega) ?_
  rintro k hk
  have hkl : k < cl.length := by omega
  obtain ⟨x, hx⟩ := get_of_lt hkl
  have hsp := first_spec (n := op.a + op.b + 1) hx
  by_cases hkf : k = firstP (op.a + op.b + 1) cl
  · have hge : x > op.a + op.b := by have := hsp.2 hkf; omega
    have hxe : (roundP cl (op.a + op.b + 1)).1 = x := by rw [← hkf, hx] at hf; exact (Option.some.inj hf).symm
    refine K.seq ?_
    refine K.seq ?_
    refine K.region ?_
    (refine KL.v rfl (Val.move rfl) ?_)
    (refine KL.v rfl (Val.fieldAddr0 (k := 0) rfl rfl) ?_)
    (refine KL.v rfl (Val.loadP rfl rfl (Sees.cell byTake rfl)) ?_)
    (refine KL.v rfl (Val.lenSl rfl rfl (Sli.old (by assumption))) ?_)
    (refine KL.v rfl (Val.isT (Val.lss rfl rfl) byLt) ?_)
    refine KL.nil ?_
    refine KE.next ?_
    refine K.condT rfl ?_
    refine K.skip ?_
    refine KE.next ?_
    refine K.seq ?_
    refine K.block ?_
    refine K.seq ?_
    refine K.drawn [] [(0, 0), (1, 0), (2, 0), (3, 0), (4, 0), (5, 0), (6, 0), (7, 0), (8, 0), (9, 0), (10, 0)] (by kernel_rfl) (by kernel_rfl) (by kernel_rfl) (by kernel_rfl) (by kernel_rfl) (by kernel_rfl) Part.nil ?_
    refine KD.v0 rfl rfl (Val.fieldAddr0 (k := 0) rfl rfl) ?_
    refine KD.v0 rfl rfl (Val.loadP rfl rfl (Sees.cell byTake rfl)) ?_
    refine KD.v0 rfl rfl (Val.move rfl) ?_
    refine KD.v0 rfl rfl (Val.idxSl rfl rfl rfl (Sli.old (by assumption)) rfl byLt) ?_
    refine KD.v0 rfl rfl (Val.loadP rfl rfl (Sees.sl0 (Sli.old (by assumption)) (by assumption) rfl)) ?_
    refine KD.v0 rfl rfl (Val.fieldAddr0 (k := 2) rfl rfl) ?_
    refine KD.v0 rfl rfl (Val.loadP rfl rfl (Sees.cell byTake rfl)) ?_
    refine KD.v0 rfl rfl (Val.fieldAddr0 (k := 3) rfl rfl) ?_
    refine KD.v0 rfl rfl (Val.loadP rfl rfl (Sees.cell byTake rfl)) ?_
    refine KD.v0 rfl rfl (Val.add rfl rfl (by simp only [Go.Proofs.Ythamkgghnjenhaa.lo, Go.Proofs.Ythamkgghnjenhaa.hi]; omega)) ?_
    refine KD.v0 rfl rfl (Val.isT (Val.gtr rfl rfl) byLt) ?_
    refine KD.nil ?_
    refine KE.next ?_
    refine K.condT rfl ?_
    refine K.seq ?_
    refine K.region ?_
    (refine KL.v rfl (Val.fieldAddr0 (k := 0) rfl rfl) ?_)
    (refine KL.v rfl (Val.loadP rfl rfl (Sees.cell byTake rfl)) ?_)
    (refine KL.v rfl (Val.move rfl) ?_)
    (refine KL.v rfl (Val.idxSl rfl rfl rfl (Sli.old (by assumption)) rfl byLt) ?_)
    (refine KL.v rfl (Val.loadP rfl rfl (Sees.sl0 (Sli.old (by assumption)) (by assumption) rfl)) ?_)
    (refine KL.v rfl (Val.assign rfl) ?_)
    refine KL.nil ?_
    refine KE.next ?_
    refine K.ret ?_
    refine KE.blkR ?_
    refine KE.passR ?_
    refine KE.passR ?_
    refine KE.blkR ?_
    refine KE.passR ?_
    exact KE.fin byMarks rfl byRes byPart ⟨by rw [hxe]; rfl, rfl⟩
  · have hge : ¬ x > op.a + op.b := by have := hsp.1 (by omega); omega
    refine K.seq ?_
    refine K.seq ?_
    refine K.region ?_
    (refine KL.v rfl (Val.move rfl) ?_)
    (refine KL.v rfl (Val.fieldAddr0 (k := 0) rfl rfl) ?_)
    (refine KL.v rfl (Val.loadP rfl rfl (Sees.cell byTake rfl)) ?_)
    (refine KL.v rfl (Val.lenSl rfl rfl (Sli.old (by assumption))) ?_)
    (refine KL.v rfl (Val.isT (Val.lss rfl rfl) byLt) ?_)
    refine KL.nil ?_
    refine KE.next ?_
    refine K.condT rfl ?_
    refine K.skip ?_
    refine KE.next ?_
    refine K.seq ?_
    refine K.block ?_
    refine K.seq ?_
    refine K.drawn [] [(0, 0), (1, 0), (2, 0), (3, 0), (4, 0), (5, 0), (6, 0), (7, 0), (8, 0), (9, 0), (10, 0)] (by kernel_rfl) (by kernel_rfl) (by kernel_rfl) (by kernel_rfl) (by kernel_rfl) (by kernel_rfl) Part.nil ?_
    refine KD.v0 rfl rfl (Val.fieldAddr0 (k := 0) rfl rfl) ?_
    refine KD.v0 rfl rfl (Val.loadP rfl rfl (Sees.cell byTake rfl)) ?_
    refine KD.v0 rfl rfl (Val.move rfl) ?_
    refine KD.v0 rfl rfl (Val.idxSl rfl rfl rfl (Sli.old (by assumption)) rfl byLt) ?_
    refine KD.v0 rfl rfl (Val.loadP rfl rfl (Sees.sl0 (Sli.old (by assumption)) (by assumption) rfl)) ?_
    refine KD.v0 rfl rfl (Val.fieldAddr0 (k := 2) rfl rfl) ?_
    refine KD.v0 rfl rfl (Val.loadP rfl rfl (Sees.cell byTake rfl)) ?_
    refine KD.v0 rfl rfl (Val.fieldAddr0 (k := 3) rfl rfl) ?_
    refine KD.v0 rfl rfl (Val.loadP rfl rfl (Sees.cell byTake rfl)) ?_
    refine KD.v0 rfl rfl (Val.add rfl rfl (by simp only [Go.Proofs.Ythamkgghnjenhaa.lo, Go.Proofs.Ythamkgghnjenhaa.hi]; omega)) ?_
    refine KD.v0 rfl rfl (Val.isF (Val.gtr rfl rfl) byLt) ?_
    refine KD.nil ?_
    refine KE.next ?_
    refine K.condF rfl ?_
    refine K.skip ?_
    refine KE.blkN ?_
    refine KE.next ?_
    refine K.region ?_
    (refine KL.v rfl (Val.move rfl) ?_)
    (refine KL.v rfl (Val.add rfl rfl (by simp only [Go.Proofs.Ythamkgghnjenhaa.lo, Go.Proofs.Ythamkgghnjenhaa.hi]; omega)) ?_)
    (refine KL.v rfl (Val.assign rfl) ?_)
    refine KL.nil ?_
    exact KE.again (k + 1) bySub byPart (by omega) (by omega)
end Go.Proofs.Ythamkgghnjenhaa
