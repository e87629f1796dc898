/- Ideal: the law IdealRoots. -/
import Derived.Test.YthamkgghnjenhaaVIdL2
namespace Go.Proofs.Ythamkgghnjenhaa
open Go.RowKit Go.ChangeShapes Go.WideShapes Go.ChangeAt Go.Deep Go.Joins
set_option linter.unusedVariables false
set_option linter.unusedSimpArgs false
set_option maxRecDepth 10000

/-! ## the plain law -/
def rowB (S : St) (i : Int) : List Int := match S.T i with
  | some x => x.refs.map (placeP (objsP S))
  | none => []
def rowsB (S : St) : List (List Int) := (objsP S).map (rowB S)
theorem rowsB_len (S : St) : (rowsB S).length = (objsP S).length := by simp [rowsB]
theorem rowsB_row {S : St} {q : Nat} {i : Int} {x : Th} (hq : (objsP S)[q]? = some i) (hx : S.T i = some x) : rowP (rowsB S) (q : Int) = x.refs.map (placeP (objsP S)) := by
  unfold rowP rowsB
  rw [Int.toNat_natCast, List.getElem?_map, hq]
  simp [rowB, hx]
theorem rch_path {S : St} (hC : Closed S) {q : Nat} {i : Int} (hq : (objsP S)[q]? = some i) (h : Rch S i) : ∃ k, Pth (rowsB S) (frmA S) k (q : Int) := by
  have hnd : (objsP S).Nodup := sorted_nd (objs_sorted S)
  have ndB : ∀ {q : Nat} {i : Int}, (objsP S)[q]? = some i → Nd (rowsB S) (q : Int) := fun h => ⟨by omega, by rw [rowsB_len]; have := lt_of_get h; omega⟩
  have hf := frmA_roots hC.nums
  induction h generalizing q with
  | @hand h i h1 => exact ⟨0, Pth.zero.2 ⟨(hf _).2 (.inr ⟨h, i, h1, by rw [ix_of hnd hq]⟩), ndB hq⟩⟩
  | @pin i x h1 h2 => exact ⟨0, Pth.zero.2 ⟨(hf _).2 (.inl ⟨q, i, hq, rfl, by unfold pinB; rw [h1]; simpa using h2⟩), ndB hq⟩⟩
  | @ref i r x h1 h2 h3 h4 ih =>
    have hi := (objs_mem hC.nums).2 (show (S.T i).isSome by rw [h2]; rfl)
    obtain ⟨k, hk⟩ := ih (ix_get hi)
    refine ⟨k + 1, Pth.succ.2 ⟨_, hk, ndB (ix_get hi), ndB hq, ?_⟩⟩
    rw [rowsB_row (ix_get hi) h2]
    refine List.mem_map.2 ⟨r, h3, ?_⟩
    unfold placeP
    rw [if_pos (List.mem_of_getElem? hq), ix_of hnd hq]
theorem all_true {S : St} (hI : Inv S) : reachP (rowsB S) (frmA S) = List.replicate (objsP S).length true := by
  apply List.ext_getElem?
  intro q
  by_cases hq : q < (objsP S).length
  · obtain ⟨i, hi⟩ := get_of_lt hq
    obtain ⟨b, h1, h2⟩ := reach_get (rows := rowsB S) (frm := frmA S) (x := q) (by rw [rowsB_len]; exact hq)
    have := h2.2 (rch_path hI.st.closed hi (hI.gc i ((objs_mem hI.st.closed.nums).1 (List.mem_of_getElem? hi))))
    rw [h1, this]; simp [hq]
  · rw [List.getElem?_eq_none (by rw [reach_len, rowsB_len]; omega), List.getElem?_eq_none (by rw [List.length_replicate]; omega)]
def maskP (refs : List Int) (j : Nat) : List Int := List.replicate j (-1) ++ refs.drop j
theorem mask_len {refs : List Int} {j : Nat} (h : j ≤ refs.length) : refs.length = (maskP refs j).length := by simp [maskP]; omega
theorem mask_get {refs : List Int} {j : Nat} {r : Int} (h : refs[j]? = some r) : (maskP refs j)[j]? = some r := by
  unfold maskP
  rw [List.getElem?_append_right (by simp)]
  simp [h]
theorem mask_set {refs : List Int} {j : Nat} {r : Int} (h : refs[j]? = some r) : (maskP refs j).set j (-1) = maskP refs (j + 1) := by
  obtain ⟨hl, e⟩ := List.getElem?_eq_some_iff.1 h
  unfold maskP
  rw [List.set_append_right _ _ (by simp)]
  simp only [List.length_replicate, Nat.sub_self]
  rw [List.drop_eq_getElem_cons hl, List.set_cons_zero, List.replicate_succ', List.append_assoc]
  rfl
theorem refs_pos {S : St} (hC : Closed S) {i r : Int} {x : Th} (hx : S.T i = some x) (hr : r ∈ x.refs) : 0 ≤ r ∧ (r ≠ 0 → r ∈ objsP S) := by
  by_cases h0 : r = 0
  · exact ⟨by omega, fun h => absurd h0 h⟩
  · have h1 := hC.rf i x r hx hr h0
    obtain ⟨y, hy⟩ := Option.isSome_iff_exists.1 h1
    have := hC.nums.t r y hy
    exact ⟨by omega, fun _ => (objs_mem hC.nums).2 h1⟩
theorem ReachD_K {w0 : World} {H : Heap} {ws : List WR} {ow : Own} {rows : List (List Int)} {l : List Int} {v : Value} (okw : oOk wE ws ow) (oks : ∀ p ∈ ws, oOk iE p.2 p.1) (hmp : ws.map (·.2) = rows) (hp : Part H (oH wE 22 ws ow ++ wsH ws))
    (hS : Sli w0 H iE v l) (hl : l.length ≤ 100000) (hn : rows.length ≤ 100) (hs : ∀ r ∈ rows, r.length ≤ 1000) :
    CallV Try.prog w0 (.func (.func 15) #[] #[]) [oV ow ws.length, v] H (fun r H' => ∃ o, oOk boE (reachP rows l) o ∧ r = oV o (reachP rows l).length ∧ H' = oH boE 4 (reachP rows l) o ++ H) := by
  subst hmp
  have hl2 : (ws.map toSV).length ≤ 100 := by simpa using hn
  refine (CallV.pure fun w hw => CallV.fn (RReach_K (rowsT_at okw oks hp hw).1 (rowsT_at okw oks hp hw).2 (hS w hw) hl hl2 hs)).mono ?_
  rintro _ _ ⟨_, ⟨o, ok, rfl, rfl⟩, rfl⟩
  exact ⟨o, ok, rfl, rfl⟩
structure RoA where
  k : Nat
  ws : List WR
  ow : Own
  fo : Own
structure RoB where
  k : Nat
  fo : Own
def frmK (S : St) (k : Nat) : List Int := fromA S (objsP S).length ++ ((handsP S).take k).map fun h => ((ixP (objsP S) ((S.Hd h).getD 0) : Nat) : Int)
set_option maxHeartbeats 8000000 in
theorem idealRoots_K {w0 : World} {vc vl : Value} {cl : List Int} {l : List OpP} {q c : Int} (hK : SlW w0 iE vc cl) (hL : SlW w0 opE vl l) (hok : ∀ op ∈ l, op.ok) :
    Call Try.prog w0 3 [kindV vc q c, vl] [] (fun r H' => r = .bool true ∧ H' = []) := by
  have hK1 := hK.one
  have hkv : kindV vc q c = .agg [vc, .int .i64 q, .int .i64 c].toArray := rfl
  rw [hkv]
  refine Call.enter2 (n := 224) (by kernel_rfl) Try.func3 rfl rfl rfl ?_
  refine K.seq ?_
  refine K.region ?_
  (refine KL.e rfl (Eff.box rfl rfl) ?_; rintro _ _ ⟨b2, rfl, rfl⟩)
  (refine KL.v rfl (Val.assign rfl) ?_)
  refine KL.nil ?_
  refine KE.next ?_
  refine K.seq ?_
  refine K.seq ?_
  refine K.region ?_
  (refine KL.v rfl (Val.loadA rfl rfl rfl bySeeN) ?_)
  (refine KL.v rfl (Val.move rfl) ?_)
  (refine KL.callc rfl rfl byEvL fun T hT => ?_)
  refine (CallV.fn (great_K (q := q) (c := c) hK hL)).mono ?_
  rintro _ _ ⟨rfl, rfl⟩
  by_cases hg : 20 < cl.length ∨ 60 < l.length
  · rw [decide_eq_true hg]
    refine hT _ _ ?_; clear hT; clear T
    refine KL.nil ?_
    refine KE.next ?_
    refine K.condT rfl ?_
    refine K.seq ?_
    refine K.region ?_
    (refine KL.callc rfl rfl byEvL fun T hT => ?_)
    refine (CallV.fn awake_K).mono ?_
    rintro _ _ ⟨rfl, rfl⟩
    refine hT _ _ ?_; clear hT; clear T
    (refine KL.v rfl (Val.assign rfl) ?_)
    refine KL.nil ?_
    refine KE.next ?_
    refine K.ret ?_
    refine KE.passR ?_
    exact KE.fin byMarks rfl byRes byPart ⟨rfl, rfl⟩
  rw [decide_eq_false hg]
  refine hT _ _ ?_; clear hT; clear T
  refine KL.nil ?_
  refine KE.next ?_
  refine K.condF rfl ?_
  refine K.skip ?_
  refine KE.next ?_
  refine K.seq ?_
  refine K.region ?_
  (refine KL.v rfl (Val.loadA rfl rfl rfl bySeeN) ?_)
  (refine KL.v rfl (Val.move rfl) ?_)
  (refine KL.callc rfl rfl byEvL fun T hT => ?_)
  refine (CallV.pure fun w hw => CallV.fn (made_K (q := q) (c := c) (hK.only hw.old) (hL.only hw.old) hok (by omega) (by omega))).mono ?_
  rintro _ _ ⟨_, (⟨hnew, sm, ok, hI, hq, hc, hcl, hmd, hmt, h0, rfl, rfl⟩ | ⟨hno, rfl, rfl⟩), rfl⟩
  · have hC := hI.st.closed
    have hn := hC.nums
    refine hT _ _ ?_; clear hT; clear T
    (refine KL.v rfl (Val.assign rfl) ?_)
    refine KL.nil ?_
    refine KE.next ?_
    refine K.seq ?_
    refine K.seq ?_
    refine K.region ?_
    (refine KL.v rfl (Val.move rfl) ?_)
    (refine KL.v rfl (Val.eqlPN rfl rfl rfl) ?_)
    refine KL.nil ?_
    refine KE.next ?_
    refine K.condF rfl ?_
    refine K.skip ?_
    refine KE.next ?_
    refine K.seq ?_
    refine K.region ?_
    (refine KL.v rfl (Val.move rfl) ?_)
    (refine KL.callc rfl rfl byEvL fun T hT => ?_)
    refine (CallV.part (CallV.fn (Objects_K ok hn (by omega))) byPart).mono ?_
    rintro _ _ ⟨o, oko, rfl, rfl⟩
    obtain ⟨ids, hids⟩ : ∃ ids, ids = objsP sm.st := ⟨_, rfl⟩
    have hidl : (objsP sm.st).length ≤ 60 := Nat.le_trans (objs_len _) hmd
    have hnd : (objsP sm.st).Nodup := sorted_nd (objs_sorted _)
    refine hT _ _ ?_; clear hT; clear T
    rw [← hids] at oko hidl hnd ⊢
    (refine KL.v rfl (Val.assign rfl) ?_)
    refine KL.nil ?_
    refine KE.next ?_
    refine K.seq ?_
    refine K.region ?_
    (refine KL.v rfl (Val.assign rfl) ?_)
    refine KL.nil ?_
    refine KE.next ?_
    refine K.seq ?_
    refine K.region ?_
    (refine KL.v rfl (Val.assign rfl) ?_)
    refine KL.nil ?_
    refine KE.next ?_
    refine K.seq ?_
    refine K.region ?_
    (refine KL.v rfl (Val.assign rfl) ?_)
    refine KL.nil ?_
    refine KE.next ?_
    refine K.seq ?_
    refine K.seq ?_
    refine K.region ?_
    (refine KL.v rfl (Val.assign rfl) ?_)
    refine KL.nil ?_
    refine KE.next ?_
    refine K.block ?_
    refine K.loopT (σ := RoA) [(2, _), (5, _), (6, _)] (fun s kp_ => (10, .int .i64 (s.k : Nat)) :: (7, oV s.ow s.ws.length) :: (8, oV s.fo (fromA sm.st s.k).length) :: (9, .int .i64 ((ids.take s.k).map (szP sm.st)).sum) :: kp_) (fun s => oH iE 3 ids o ++ (smH sm ++ ((b2, cells [vc, .int .i64 q, .int .i64 c] 24) :: (oH wE 22 s.ws s.ow ++ (wsH s.ws ++ (oH iE 3 (fromA sm.st s.k) s.fo ++ [])))))) (fun s => s.k ≤ ids.length ∧ oOk wE s.ws s.ow ∧ s.ws.map (·.2) = (rowsB sm.st).take s.k ∧ (∀ p ∈ s.ws, oOk iE p.2 p.1) ∧ oOk iE (fromA sm.st s.k) s.fo ∧ (0 ≤ ((ids.take s.k).map (szP sm.st)).sum ∧ ((ids.take s.k).map (szP sm.st)).sum ≤ s.k * 64)) (fun s => ids.length - s.k) (⟨0, [], none, none⟩) bySub byPart (⟨by simp, rfl, by simp, by simp, rfl, by simp⟩) ?_
    rintro ⟨k, ws, ow, fo⟩ ⟨hk, okw, hmp, oks, okf, hsum⟩
    dsimp only at hk okw hmp oks okf hsum ⊢
    by_cases hlt : k < ids.length
    · obtain ⟨i, hi⟩ := get_of_lt hlt
      have hTi := (objs_mem hn).1 (hids ▸ List.mem_of_getElem? hi)
      obtain ⟨x, hx⟩ := Option.isSome_iff_exists.1 hTi
      have hxo := hI.st.tx i x hx
      obtain ⟨hsz, hpn, hws⟩ := hxo
      refine K.seq ?_
      refine K.seq ?_
      refine K.region ?_
      (refine KL.v rfl (Val.move rfl) ?_)
      (refine KL.v rfl (Val.move rfl) ?_)
      (refine KL.v rfl (Val.lenSl rfl rfl (Sli.own byTakeL (by assumption) byLen)) ?_)
      (refine KL.v rfl (Val.isT (Val.lss rfl rfl) byLt) ?_)
      refine KL.nil ?_
      refine KE.next ?_
      refine K.condT rfl ?_
      refine K.skip ?_
      refine KE.next ?_
      refine K.seq ?_
      refine K.block ?_
      refine K.seq ?_
      refine K.region ?_
      (refine KL.v rfl (Val.move rfl) ?_)
      (refine KL.v rfl (Val.move rfl) ?_)
      (refine KL.v rfl (Val.move rfl) ?_)
      (refine KL.v rfl (Val.idxSl rfl rfl rfl (Sli.own byTakeL (by assumption) byLen) rfl byLt) ?_)
      (refine KL.v rfl (Val.loadP rfl rfl (Sees.sl0 (Sli.own byTakeL (by assumption) byLen) (by assumption) rfl)) ?_)
      (refine KL.callc rfl rfl byEvL fun T hT => ?_)
      refine (CallV.part (CallV.fn (ObjectY_K ok (n := i) hx (by omega))) byPart).mono ?_
      rintro _ _ ⟨o1, o2, k1, k2, rfl, rfl⟩
      unfold tV
      refine hT _ _ ?_; clear hT; clear T
      have hszs : szP sm.st i = x.size := by simp only [szP, hx, Option.map_some, Option.getD_some]
      have hsn : ((ids.take (k + 1)).map (szP sm.st)).sum = ((ids.take k).map (szP sm.st)).sum + x.size := by
        rw [take_snoc hi, List.map_append, List.sum_append, ← hszs]; simp
      have hl1 : x.refs.length = (maskP x.refs 0).length := mask_len (by omega)
      have hm0 : maskP x.refs 0 = x.refs := by simp [maskP]
      have hsl1 : (x.refs.length : Int) + (x.words.length : Int) + 1 ≤ x.size := hsz.1
      have hcm1 : ¬ (x.refs.length : Int) + (x.words.length : Int) + 1 > x.size := by omega
      (refine KL.v rfl (Val.move rfl) ?_)
      (refine KL.v rfl (Val.extract rfl rfl) ?_)
      (refine KL.v rfl (Val.extract rfl rfl) ?_)
      (refine KL.e rfl (Eff.alloc rfl) ?_; rintro _ _ ⟨b11, rfl, rfl⟩)
      (refine KL.eN (Eff.storeAL rfl rfl rfl byTake byLay byOnes) ?_; rintro _ _ rfl)
      (refine KL.v rfl (Val.assign rfl) ?_)
      refine KL.nil ?_
      refine KE.next ?_
      refine K.seq ?_
      refine K.seq ?_
      refine K.region ?_
      (refine KL.v rfl (Val.move rfl) ?_)
      (refine KL.v rfl (Val.isF (Val.neq rfl rfl) byLt) ?_)
      (refine KL.v rfl (Val.move rfl) ?_)
      (refine KL.yes rfl rfl ?_; refine KL.v rfl (Val.fieldAddr0 (k := 0) rfl rfl) ?_)
      (refine KL.yes rfl rfl ?_; refine KL.v rfl (Val.loadP rfl rfl (Sees.cell byTake rfl)) ?_)
      (refine KL.yes rfl rfl ?_; refine KL.v rfl (Val.lenSl rfl rfl (Sli.own byTakeL (by assumption) byLen)) ?_)
      (refine KL.yes rfl rfl ?_; refine KL.v rfl (Val.fieldAddr0 (k := 1) rfl rfl) ?_)
      (refine KL.yes rfl rfl ?_; refine KL.v rfl (Val.loadP rfl rfl (Sees.cell byTake rfl)) ?_)
      (refine KL.yes rfl rfl ?_; refine KL.v rfl (Val.lenSl rfl rfl (Sli.own byTakeL (by assumption) byLen)) ?_)
      (refine KL.yes rfl rfl ?_; refine KL.v rfl (Val.add rfl rfl (by simp only [Go.Proofs.Ythamkgghnjenhaa.lo, Go.Proofs.Ythamkgghnjenhaa.hi]; omega)) ?_)
      (refine KL.yes rfl rfl ?_; refine KL.v rfl (Val.add rfl rfl (by simp only [Go.Proofs.Ythamkgghnjenhaa.lo, Go.Proofs.Ythamkgghnjenhaa.hi]; omega)) ?_)
      (refine KL.yes rfl rfl ?_; refine KL.v rfl (Val.fieldAddr0 (k := 2) rfl rfl) ?_)
      (refine KL.yes rfl rfl ?_; refine KL.v rfl (Val.loadP rfl rfl (Sees.cell byTake rfl)) ?_)
      (refine KL.yes rfl rfl ?_; refine KL.v rfl (Val.isF (Val.gtr rfl rfl) byLt) ?_)
      (refine KL.v rfl (Val.pickF rfl rfl rfl) ?_)
      (refine KL.v rfl (Val.move rfl) ?_)
      (refine KL.yes rfl rfl ?_; refine KL.v rfl (Val.fieldAddr0 (k := 3) rfl rfl) ?_)
      (refine KL.yes rfl rfl ?_; refine KL.v rfl (Val.loadP rfl rfl (Sees.cell byTake rfl)) ?_)
      (refine KL.yes rfl rfl ?_; refine KL.v rfl (Val.isF (Val.lss rfl rfl) byLt) ?_)
      (refine KL.v rfl (Val.pickF rfl rfl rfl) ?_)
      (refine KL.v rfl (Val.move rfl) ?_)
      (refine KL.yes rfl rfl ?_; refine KL.v rfl (Val.fieldAddr0 (k := 3) rfl rfl) ?_)
      (refine KL.yes rfl rfl ?_; refine KL.v rfl (Val.loadP rfl rfl (Sees.cell byTake rfl)) ?_)
      (refine KL.yes rfl rfl ?_; refine KL.v rfl (Val.isF (Val.gtr rfl rfl) byLt) ?_)
      (refine KL.v rfl (Val.pickF rfl rfl rfl) ?_)
      refine KL.nil ?_
      refine KE.next ?_
      refine K.condF rfl ?_
      refine K.skip ?_
      refine KE.next ?_
      refine K.seq ?_
      refine K.region ?_
      (refine KL.v rfl (Val.move rfl) ?_)
      (refine KL.v rfl (Val.fieldAddr0 (k := 2) rfl rfl) ?_)
      (refine KL.v rfl (Val.loadP rfl rfl (Sees.cell byTake rfl)) ?_)
      (refine KL.v rfl (Val.add rfl rfl (by simp only [Go.Proofs.Ythamkgghnjenhaa.lo, Go.Proofs.Ythamkgghnjenhaa.hi]; omega)) ?_)
      (refine KL.v rfl (Val.assign rfl) ?_)
      refine KL.nil ?_
      refine KE.next ?_
      refine K.seq ?_
      refine K.region ?_
      (refine KL.v rfl (Val.assign rfl) ?_)
      refine KL.nil ?_
      refine KE.next ?_
      refine K.seq ?_
      refine K.seq ?_
      refine K.region ?_
      (refine KL.v rfl (Val.assign rfl) ?_)
      refine KL.nil ?_
      refine KE.next ?_
      refine K.block ?_
      refine K.loopT (σ := SwC) [(2, _), (5, _), (6, _), (7, _), (8, _), (9, _), (10, _), (11, _)] (fun s kp_ => (14, .int .i64 (s.j : Nat)) :: (13, oV s.o ((x.refs.take s.j).map (placeP ids)).length) :: kp_) (fun s => oH iE 3 (maskP x.refs s.j) o1 ++ (oH iE 3 ((x.refs.take s.j).map (placeP ids)) s.o ++ (oH uE 46 x.words o2 ++ ((b11, cells [oV o1 x.refs.length, oV o2 x.words.length, .int .i64 x.size, .int .i64 x.pins] 34) :: (oH iE 3 ids o ++ (smH sm ++ ((b2, cells [vc, .int .i64 q, .int .i64 c] 24) :: (oH wE 22 ws ow ++ (wsH ws ++ (oH iE 3 (fromA sm.st k) fo ++ [])))))))))) (fun s => s.j ≤ x.refs.length ∧ oOk iE (maskP x.refs s.j) o1 ∧ oOk iE ((x.refs.take s.j).map (placeP ids)) s.o) (fun s => x.refs.length - s.j) (⟨0, none⟩) bySub (by rw [hm0]; exact byPart) (⟨by simp, by rw [hm0]; exact k1, rfl⟩) ?_
      rintro ⟨j, oj⟩ ⟨hj, okm, okj⟩
      dsimp only at hj okm okj ⊢
      have hml := mask_len hj
      by_cases hjl : j < x.refs.length
      · obtain ⟨r, hr⟩ := get_of_lt hjl
        have hmr := mask_get hr
        obtain ⟨hr0, hrm⟩ := refs_pos hC hx (List.mem_of_getElem? hr)
        have hset := mask_set hr
        have hjm : j < (maskP x.refs j).length := by omega
        have htn : (x.refs.take (j + 1)).map (placeP ids) = (x.refs.take j).map (placeP ids) ++ [placeP ids r] := by rw [take_snoc hr, List.map_append]; rfl
        have htl : ((x.refs.take j).map (placeP ids)).length ≤ 64 := by rw [List.length_map, List.length_take]; omega
        have hbd : ((x.refs.take j).map (placeP ids) ++ [placeP ids r]).length ≤ 4294967296 := by simp only [List.length_append, List.length_singleton]; omega
        by_cases hrz : r = 0
        · refine K.seq ?_
          refine K.seq ?_
          refine K.region ?_
          (refine KL.v rfl (Val.move rfl) ?_)
          (refine KL.v rfl (Val.fieldAddr0 (k := 0) rfl rfl) ?_)
          (refine KL.v rfl (Val.loadP rfl rfl (Sees.cell byTake rfl)) ?_)
          (refine KL.v rfl (Val.lenSl rfl rfl (Sli.own byTakeL (by assumption) byLen)) ?_)
          (refine KL.v rfl (Val.isT (Val.lss rfl rfl) byLt) ?_)
          refine KL.nil ?_
          refine KE.next ?_
          refine K.condT rfl ?_
          refine K.skip ?_
          refine KE.next ?_
          refine K.seq ?_
          refine K.block ?_
          refine K.seq ?_
          refine K.seq ?_
          refine K.region ?_
          (refine KL.v rfl (Val.fieldAddr0 (k := 0) rfl rfl) ?_)
          (refine KL.v rfl (Val.loadP rfl rfl (Sees.cell byTake rfl)) ?_)
          (refine KL.v rfl (Val.move rfl) ?_)
          (refine KL.v rfl (Val.idxSl rfl rfl rfl (Sli.own byTakeL (by assumption) byLen) rfl byLt) ?_)
          (refine KL.v rfl (Val.loadP rfl rfl (Sees.sl0 (Sli.own byTakeL (by assumption) byLen) (by assumption) rfl)) ?_)
          (refine KL.v rfl (Val.isF (Val.neq rfl rfl) byLt) ?_)
          (refine KL.v rfl (Val.move rfl) ?_)
          refine KL.skipG rfl rfl rfl ?_
          refine KL.skipG rfl rfl rfl ?_
          refine KL.skipG rfl rfl rfl ?_
          refine KL.skipG rfl rfl rfl ?_
          refine KL.skipG rfl rfl rfl ?_
          refine KL.skipG rfl rfl rfl ?_
          refine KL.skipG rfl rfl rfl ?_
          refine KL.skipG rfl rfl rfl ?_
          (refine KL.v rfl (Val.pickF rfl rfl rfl) ?_)
          refine KL.nil ?_
          refine KE.next ?_
          refine K.condF rfl ?_
          refine K.skip ?_
          refine KE.next ?_
          refine K.seq ?_
          refine K.region ?_
          (refine KL.v rfl (Val.move rfl) ?_)
          (refine KL.v rfl (Val.move rfl) ?_)
          (refine KL.v rfl (Val.fieldAddr0 (k := 0) rfl rfl) ?_)
          (refine KL.v rfl (Val.loadP rfl rfl (Sees.cell byTake rfl)) ?_)
          (refine KL.v rfl (Val.move rfl) ?_)
          (refine KL.v rfl (Val.idxSl rfl rfl rfl (Sli.own byTakeL (by assumption) byLen) rfl byLt) ?_)
          (refine KL.v rfl (Val.loadP rfl rfl (Sees.sl0 (Sli.own byTakeL (by assumption) byLen) (by assumption) rfl)) ?_)
          (refine KL.callc rfl rfl byEvL fun T hT => ?_)
          refine (CallV.fn (place_K (l := ids) (n := r) bySli (by omega))).mono ?_
          rintro _ _ ⟨rfl, rfl⟩
          refine hT _ _ ?_; clear hT; clear T
          (refine KL.e rfl (Eff.buildS byParts rfl rfl rfl rfl rfl byFill) ?_; rintro _ _ ⟨b112, rfl, rfl⟩)
          (refine KL.e rfl (Eff.appZ (ys := [_]) rfl rfl rfl rfl rfl rfl byTakeL (by assumption) (by first | exact Sli.blk byTake rfl (by first | decide | simp) (by first | decide | (unfold maxLen; omega)) rfl | exact Sli.old (by assumption) | exact Sli.own byTakeL (by assumption) byLen | assumption | exact Sli.part (by assumption) byPart) rfl (by first | assumption | omega | (simp <;> fail) | (simp; omega)) rfl) ?_; rintro _ _ ⟨o113, ok113, rfl, rfl⟩)
          (refine KL.v rfl (Val.assign rfl) ?_)
          refine KL.nil ?_
          refine KE.next ?_
          refine K.region ?_
          (refine KL.v rfl (Val.fieldAddr0 (k := 0) rfl rfl) ?_)
          (refine KL.v rfl (Val.loadP rfl rfl (Sees.cell byTake rfl)) ?_)
          (refine KL.v rfl (Val.move rfl) ?_)
          (refine KL.v rfl (Val.idxSl rfl rfl rfl (Sli.own byTakeL (by assumption) byLen) rfl byLt) ?_)
          (refine KL.eN (Eff.stSl0 rfl rfl rfl rfl byTakeL (by assumption) (by assumption) rfl rfl) ?_; rintro _ _ rfl)
          refine KL.nil ?_
          refine KE.blkN ?_
          refine KE.next ?_
          refine K.region ?_
          (refine KL.v rfl (Val.move rfl) ?_)
          (refine KL.v rfl (Val.add rfl rfl (by simp only [Go.Proofs.Ythamkgghnjenhaa.lo, Go.Proofs.Ythamkgghnjenhaa.hi]; omega)) ?_)
          (refine KL.v rfl (Val.assign rfl) ?_)
          refine KL.nil ?_
          rw [← htn] at ok113 ⊢
          rw [hset]
          exact KE.again ⟨j + 1, o113⟩ bySub byPart ⟨by show j + 1 ≤ _; omega, by show oOk iE (maskP x.refs (j + 1)) o1; rw [← hset]; exact okm.set _ _, ok113⟩ (by show x.refs.length - (j + 1) < x.refs.length - j; omega)
        · have hrm' : decide (r ∈ ids) = true := by rw [hids]; exact decide_eq_true (hrm hrz)
          refine K.seq ?_
          refine K.seq ?_
          refine K.region ?_
          (refine KL.v rfl (Val.move rfl) ?_)
          (refine KL.v rfl (Val.fieldAddr0 (k := 0) rfl rfl) ?_)
          (refine KL.v rfl (Val.loadP rfl rfl (Sees.cell byTake rfl)) ?_)
          (refine KL.v rfl (Val.lenSl rfl rfl (Sli.own byTakeL (by assumption) byLen)) ?_)
          (refine KL.v rfl (Val.isT (Val.lss rfl rfl) byLt) ?_)
          refine KL.nil ?_
          refine KE.next ?_
          refine K.condT rfl ?_
          refine K.skip ?_
          refine KE.next ?_
          refine K.seq ?_
          refine K.block ?_
          refine K.seq ?_
          refine K.seq ?_
          refine K.region ?_
          (refine KL.v rfl (Val.fieldAddr0 (k := 0) rfl rfl) ?_)
          (refine KL.v rfl (Val.loadP rfl rfl (Sees.cell byTake rfl)) ?_)
          (refine KL.v rfl (Val.move rfl) ?_)
          (refine KL.v rfl (Val.idxSl rfl rfl rfl (Sli.own byTakeL (by assumption) byLen) rfl byLt) ?_)
          (refine KL.v rfl (Val.loadP rfl rfl (Sees.sl0 (Sli.own byTakeL (by assumption) byLen) (by assumption) rfl)) ?_)
          (refine KL.v rfl (Val.isT (Val.neq rfl rfl) byLt) ?_)
          (refine KL.v rfl (Val.move rfl) ?_)
          (refine KL.yes rfl rfl ?_; refine KL.v rfl (Val.move rfl) ?_)
          (refine KL.yes rfl rfl ?_; refine KL.v rfl (Val.fieldAddr0 (k := 0) rfl rfl) ?_)
          (refine KL.yes rfl rfl ?_; refine KL.v rfl (Val.loadP rfl rfl (Sees.cell byTake rfl)) ?_)
          (refine KL.yes rfl rfl ?_; refine KL.v rfl (Val.move rfl) ?_)
          (refine KL.yes rfl rfl ?_; refine KL.v rfl (Val.idxSl rfl rfl rfl (Sli.own byTakeL (by assumption) byLen) rfl byLt) ?_)
          (refine KL.yes rfl rfl ?_; refine KL.v rfl (Val.loadP rfl rfl (Sees.sl0 (Sli.own byTakeL (by assumption) byLen) (by assumption) rfl)) ?_)
          (refine KL.yes rfl rfl ?_; refine KL.callc rfl rfl byEvL fun T hT => ?_)
          refine (CallV.fn (Has_K (l := ids) (x := r) bySli (by omega))).mono ?_
          rintro _ _ ⟨rfl, rfl⟩
          rw [hrm']
          refine hT _ _ ?_; clear hT; clear T
          (refine KL.yes rfl rfl ?_; refine KL.v rfl (Val.notT rfl) ?_)
          (refine KL.v rfl (Val.pickT rfl rfl rfl) ?_)
          refine KL.nil ?_
          refine KE.next ?_
          refine K.condF rfl ?_
          refine K.skip ?_
          refine KE.next ?_
          refine K.seq ?_
          refine K.region ?_
          (refine KL.v rfl (Val.move rfl) ?_)
          (refine KL.v rfl (Val.move rfl) ?_)
          (refine KL.v rfl (Val.fieldAddr0 (k := 0) rfl rfl) ?_)
          (refine KL.v rfl (Val.loadP rfl rfl (Sees.cell byTake rfl)) ?_)
          (refine KL.v rfl (Val.move rfl) ?_)
          (refine KL.v rfl (Val.idxSl rfl rfl rfl (Sli.own byTakeL (by assumption) byLen) rfl byLt) ?_)
          (refine KL.v rfl (Val.loadP rfl rfl (Sees.sl0 (Sli.own byTakeL (by assumption) byLen) (by assumption) rfl)) ?_)
          (refine KL.callc rfl rfl byEvL fun T hT => ?_)
          refine (CallV.fn (place_K (l := ids) (n := r) bySli (by omega))).mono ?_
          rintro _ _ ⟨rfl, rfl⟩
          refine hT _ _ ?_; clear hT; clear T
          (refine KL.e rfl (Eff.buildS byParts rfl rfl rfl rfl rfl byFill) ?_; rintro _ _ ⟨b112, rfl, rfl⟩)
          (refine KL.e rfl (Eff.appZ (ys := [_]) rfl rfl rfl rfl rfl rfl byTakeL (by assumption) (by first | exact Sli.blk byTake rfl (by first | decide | simp) (by first | decide | (unfold maxLen; omega)) rfl | exact Sli.old (by assumption) | exact Sli.own byTakeL (by assumption) byLen | assumption | exact Sli.part (by assumption) byPart) rfl (by first | assumption | omega | (simp <;> fail) | (simp; omega)) rfl) ?_; rintro _ _ ⟨o113, ok113, rfl, rfl⟩)
          (refine KL.v rfl (Val.assign rfl) ?_)
          refine KL.nil ?_
          refine KE.next ?_
          refine K.region ?_
          (refine KL.v rfl (Val.fieldAddr0 (k := 0) rfl rfl) ?_)
          (refine KL.v rfl (Val.loadP rfl rfl (Sees.cell byTake rfl)) ?_)
          (refine KL.v rfl (Val.move rfl) ?_)
          (refine KL.v rfl (Val.idxSl rfl rfl rfl (Sli.own byTakeL (by assumption) byLen) rfl byLt) ?_)
          (refine KL.eN (Eff.stSl0 rfl rfl rfl rfl byTakeL (by assumption) (by assumption) rfl rfl) ?_; rintro _ _ rfl)
          refine KL.nil ?_
          refine KE.blkN ?_
          refine KE.next ?_
          refine K.region ?_
          (refine KL.v rfl (Val.move rfl) ?_)
          (refine KL.v rfl (Val.add rfl rfl (by simp only [Go.Proofs.Ythamkgghnjenhaa.lo, Go.Proofs.Ythamkgghnjenhaa.hi]; omega)) ?_)
          (refine KL.v rfl (Val.assign rfl) ?_)
          refine KL.nil ?_
          rw [← htn] at ok113 ⊢
          rw [hset]
          exact KE.again ⟨j + 1, o113⟩ bySub byPart ⟨by show j + 1 ≤ _; omega, by show oOk iE (maskP x.refs (j + 1)) o1; rw [← hset]; exact okm.set _ _, ok113⟩ (by show x.refs.length - (j + 1) < x.refs.length - j; omega)
      · have hje : j = x.refs.length := by omega
        subst hje
        rw [List.take_length] at okj ⊢
        have hwl : ws.length = k := by have := congrArg List.length hmp; simp [rowsB_len, ← hids] at this; omega
        have hrow : x.refs.map (placeP ids) = rowB sm.st i := by unfold rowB; rw [hx, hids]
        have hsnw : (ws ++ [(oj, x.refs.map (placeP ids))]).map (·.2) = (rowsB sm.st).take (k + 1) := by
          have : (rowsB sm.st)[k]? = some (x.refs.map (placeP ids)) := by rw [rowsB, List.getElem?_map, ← hids, hi, hrow]; rfl
          rw [take_snoc this, List.map_append, hmp]; rfl
        have hbd : (ws ++ [(oj, x.refs.map (placeP ids))]).length ≤ 4294967296 := by simp only [List.length_append, List.length_singleton]; omega
        have hfl : (fromA sm.st k).length ≤ 100 := Nat.le_trans (by rw [fromA, List.length_map]; exact Nat.le_trans (List.length_filter_le _ _) (by rw [List.length_range]; exact Nat.le_refl _)) (by omega)
        have hfs := fromA_succ sm.st (k := k) (i := i) (by rw [← hids]; exact hi)
        have hws : wsH (ws ++ [(oj, x.refs.map (placeP ids))]) = wsH ws ++ oH iE 3 (x.refs.map (placeP ids)) oj := by rw [wsH_app]; simp [wsH]
        have oks' : ∀ p ∈ ws ++ [(oj, x.refs.map (placeP ids))], oOk iE p.2 p.1 := fun p hp => by
          rcases List.mem_append.1 hp with h | h
          · exact oks p h
          · rw [List.mem_singleton.1 h]; exact okj
        have hno : decide ((-1 : Int) ∈ x.refs) = false := decide_eq_false fun hm => by have := (refs_pos hC hx hm).1; omega
        refine K.seq ?_
        refine K.seq ?_
        refine K.region ?_
        (refine KL.v rfl (Val.move rfl) ?_)
        (refine KL.v rfl (Val.fieldAddr0 (k := 0) rfl rfl) ?_)
        (refine KL.v rfl (Val.loadP rfl rfl (Sees.cell byTake rfl)) ?_)
        (refine KL.v rfl (Val.lenSl rfl rfl (Sli.own byTakeL (by assumption) byLen)) ?_)
        (refine KL.v rfl (Val.isF (Val.lss rfl rfl) byLt) ?_)
        refine KL.nil ?_
        refine KE.next ?_
        refine K.condF rfl ?_
        refine K.exit ?_
        refine KE.passX ?_
        refine KE.passX ?_
        refine KE.blkX ?_
        refine KE.next ?_
        refine byCode ?_
        (refine KL.v rfl (Val.move rfl) ?_)
        (refine KL.v rfl (Val.move rfl) ?_)
        (refine KL.e rfl (Eff.buildS byParts rfl rfl rfl rfl rfl byFill) ?_; rintro _ _ ⟨b120, rfl, rfl⟩)
        (refine KL.e rfl (Eff.appZ (E := wE) (xs := ws) (o := ow) (ys := [(oj, x.refs.map (placeP ids))]) (zs := ws ++ [(oj, x.refs.map (placeP ids))]) rfl rfl rfl rfl rfl rfl byTakeL (by assumption) (by first | exact Sli.blk byTake rfl (by first | decide | simp) (by first | decide | (unfold maxLen; omega)) rfl | exact Sli.old (by assumption) | exact Sli.own byTakeL (by assumption) byLen | assumption | exact Sli.part (by assumption) byPart) (rfl) (by first | assumption | omega | (simp <;> fail) | (simp; omega)) rfl) ?_; rintro _ _ ⟨o', ok', rfl, rfl⟩)
        (refine KL.v rfl (Val.assign rfl) ?_)
        refine KL.nil ?_
        refine KE.next ?_
        by_cases hp0 : x.pins > 0
        · have hpb : pinB sm.st i = true := by unfold pinB; rw [hx]; simpa using hp0
          rw [hpb, if_pos rfl] at hfs
          have hbf : (fromA sm.st k ++ [(k : Int)]).length ≤ 4294967296 := by simp only [List.length_append, List.length_singleton]; omega
          refine K.seq ?_
          refine K.seq ?_
          refine K.region ?_
          (refine KL.v rfl (Val.fieldAddr0 (k := 3) rfl rfl) ?_)
          (refine KL.v rfl (Val.loadP rfl rfl (Sees.cell byTake rfl)) ?_)
          (refine KL.v rfl (Val.isT (Val.gtr rfl rfl) byLt) ?_)
          refine KL.nil ?_
          refine KE.next ?_
          refine K.condT rfl ?_
          refine K.region ?_
          (refine KL.v rfl (Val.move rfl) ?_)
          (refine KL.v rfl (Val.move rfl) ?_)
          (refine KL.e rfl (Eff.buildS byParts rfl rfl rfl rfl rfl byFill) ?_; rintro _ _ ⟨b127, rfl, rfl⟩)
          (refine KL.e rfl (Eff.appZ (ys := [_]) rfl rfl rfl rfl rfl rfl byTakeL (by assumption) (by first | exact Sli.blk byTake rfl (by first | decide | simp) (by first | decide | (unfold maxLen; omega)) rfl | exact Sli.old (by assumption) | exact Sli.own byTakeL (by assumption) byLen | assumption | exact Sli.part (by assumption) byPart) rfl (by first | assumption | omega | (simp <;> fail) | (simp; omega)) rfl) ?_; rintro _ _ ⟨o128, ok128, rfl, rfl⟩)
          (refine KL.v rfl (Val.assign rfl) ?_)
          refine KL.nil ?_
          refine KE.next ?_
          refine K.seq ?_
          refine K.region ?_
          (refine KL.v rfl (Val.move rfl) ?_)
          (refine KL.v rfl (Val.move rfl) ?_)
          (refine KL.v rfl (Val.move rfl) ?_)
          (refine KL.v rfl (Val.idxSl rfl rfl rfl (Sli.own byTakeL (by assumption) byLen) rfl byLt) ?_)
          (refine KL.v rfl (Val.loadP rfl rfl (Sees.sl0 (Sli.own byTakeL (by assumption) byLen) (by assumption) rfl)) ?_)
          (refine KL.callc rfl rfl byEvL fun T hT => ?_)
          refine (CallV.part (CallV.fn (ObjectY_K ok (n := i) hx (by omega))) byPart).mono ?_
          rintro _ _ ⟨o3, o4, k3, k4, rfl, rfl⟩
          unfold tV
          refine hT _ _ ?_; clear hT; clear T
          (refine KL.v rfl (Val.move rfl) ?_)
          (refine KL.v rfl (Val.extract rfl rfl) ?_)
          (refine KL.v rfl (Val.extract rfl rfl) ?_)
          (refine KL.e rfl (Eff.alloc rfl) ?_; rintro _ _ ⟨b15, rfl, rfl⟩)
          (refine KL.eN (Eff.storeAL rfl rfl rfl byTake byLay byOnes) ?_; rintro _ _ rfl)
          (refine KL.v rfl (Val.assign rfl) ?_)
          refine KL.nil ?_
          refine KE.next ?_
          refine K.seq ?_
          refine K.region ?_
          (refine KL.v rfl (Val.fieldAddr0 (k := 0) rfl rfl) ?_)
          (refine KL.v rfl (Val.loadP rfl rfl (Sees.cell byTake rfl)) ?_)
          (refine KL.callc rfl rfl byEvL fun T hT => ?_)
          refine (CallV.fn (Has_K (l := x.refs) (x := -1) bySli (by omega))).mono ?_
          rintro _ _ ⟨rfl, rfl⟩
          rw [hno]
          refine hT _ _ ?_; clear hT; clear T
          refine KL.nil ?_
          refine KE.next ?_
          refine K.condF rfl ?_
          refine K.skip ?_
          refine KE.blkN ?_
          refine KE.next ?_
          refine K.region ?_
          (refine KL.v rfl (Val.move rfl) ?_)
          (refine KL.v rfl (Val.add rfl rfl (by simp only [Go.Proofs.Ythamkgghnjenhaa.lo, Go.Proofs.Ythamkgghnjenhaa.hi]; omega)) ?_)
          (refine KL.v rfl (Val.assign rfl) ?_)
          refine KL.nil ?_
          rw [← hfs] at ok128 ⊢
          exact KE.again ⟨k + 1, ws ++ [(oj, x.refs.map (placeP ids))], o', o128⟩ (by dsimp only; rw [hsn]; exact bySub) (by dsimp only; rw [hws]; simp only [List.append_assoc]; exact byPart) ⟨by show k + 1 ≤ _; omega, ok', hsnw, oks', ok128, by dsimp only; rw [hsn]; omega⟩ (by show ids.length - (k + 1) < ids.length - k; omega)
        · have hpb : pinB sm.st i = false := by unfold pinB; rw [hx]; simpa using hp0
          rw [hpb] at hfs
          simp only [Bool.false_eq_true, if_false, List.append_nil] at hfs
          refine K.seq ?_
          refine K.seq ?_
          refine K.region ?_
          (refine KL.v rfl (Val.fieldAddr0 (k := 3) rfl rfl) ?_)
          (refine KL.v rfl (Val.loadP rfl rfl (Sees.cell byTake rfl)) ?_)
          (refine KL.v rfl (Val.isF (Val.gtr rfl rfl) byLt) ?_)
          refine KL.nil ?_
          refine KE.next ?_
          refine K.condF rfl ?_
          refine K.skip ?_
          refine KE.next ?_
          refine K.seq ?_
          refine K.region ?_
          (refine KL.v rfl (Val.move rfl) ?_)
          (refine KL.v rfl (Val.move rfl) ?_)
          (refine KL.v rfl (Val.move rfl) ?_)
          (refine KL.v rfl (Val.idxSl rfl rfl rfl (Sli.own byTakeL (by assumption) byLen) rfl byLt) ?_)
          (refine KL.v rfl (Val.loadP rfl rfl (Sees.sl0 (Sli.own byTakeL (by assumption) byLen) (by assumption) rfl)) ?_)
          (refine KL.callc rfl rfl byEvL fun T hT => ?_)
          refine (CallV.part (CallV.fn (ObjectY_K ok (n := i) hx (by omega))) byPart).mono ?_
          rintro _ _ ⟨o3, o4, k3, k4, rfl, rfl⟩
          unfold tV
          refine hT _ _ ?_; clear hT; clear T
          (refine KL.v rfl (Val.move rfl) ?_)
          (refine KL.v rfl (Val.extract rfl rfl) ?_)
          (refine KL.v rfl (Val.extract rfl rfl) ?_)
          (refine KL.e rfl (Eff.alloc rfl) ?_; rintro _ _ ⟨b15, rfl, rfl⟩)
          (refine KL.eN (Eff.storeAL rfl rfl rfl byTake byLay byOnes) ?_; rintro _ _ rfl)
          (refine KL.v rfl (Val.assign rfl) ?_)
          refine KL.nil ?_
          refine KE.next ?_
          refine K.seq ?_
          refine K.region ?_
          (refine KL.v rfl (Val.fieldAddr0 (k := 0) rfl rfl) ?_)
          (refine KL.v rfl (Val.loadP rfl rfl (Sees.cell byTake rfl)) ?_)
          (refine KL.callc rfl rfl byEvL fun T hT => ?_)
          refine (CallV.fn (Has_K (l := x.refs) (x := -1) bySli (by omega))).mono ?_
          rintro _ _ ⟨rfl, rfl⟩
          rw [hno]
          refine hT _ _ ?_; clear hT; clear T
          refine KL.nil ?_
          refine KE.next ?_
          refine K.condF rfl ?_
          refine K.skip ?_
          refine KE.blkN ?_
          refine KE.next ?_
          refine K.region ?_
          (refine KL.v rfl (Val.move rfl) ?_)
          (refine KL.v rfl (Val.add rfl rfl (by simp only [Go.Proofs.Ythamkgghnjenhaa.lo, Go.Proofs.Ythamkgghnjenhaa.hi]; omega)) ?_)
          (refine KL.v rfl (Val.assign rfl) ?_)
          refine KL.nil ?_
          rw [← hfs] at okf ⊢
          exact KE.again ⟨k + 1, ws ++ [(oj, x.refs.map (placeP ids))], o', fo⟩ (by dsimp only; rw [hsn]; exact bySub) (by dsimp only; rw [hws]; simp only [List.append_assoc]; exact byPart) ⟨by show k + 1 ≤ _; omega, ok', hsnw, oks', okf, by dsimp only; rw [hsn]; omega⟩ (by show ids.length - (k + 1) < ids.length - k; omega)
    have hke : k = ids.length := by omega
    subst hke
    rw [List.take_length] at hsum ⊢
    have hmp' : ws.map (·.2) = rowsB sm.st := by rw [hmp]; exact List.take_of_length_le (by rw [rowsB_len, hids]; exact Nat.le_refl _)
    have hfr0 : fromA sm.st ids.length = frmK sm.st 0 := by unfold frmK; rw [hids]; simp
    rw [hfr0] at okf ⊢
    refine K.seq ?_
    refine K.seq ?_
    refine K.region ?_
    (refine KL.v rfl (Val.move rfl) ?_)
    (refine KL.v rfl (Val.move rfl) ?_)
    (refine KL.v rfl (Val.lenSl rfl rfl (Sli.own byTakeL (by assumption) byLen)) ?_)
    (refine KL.v rfl (Val.isF (Val.lss rfl rfl) byLt) ?_)
    refine KL.nil ?_
    refine KE.next ?_
    refine K.condF rfl ?_
    refine K.exit ?_
    refine KE.passX ?_
    refine KE.passX ?_
    refine KE.blkX ?_
    refine KE.next ?_
    refine K.seq ?_
    refine K.region ?_
    (refine KL.v rfl (Val.move rfl) ?_)
    (refine KL.callc rfl rfl byEvL fun T hT => ?_)
    refine (CallV.part (CallV.fn (Handles_K ok hn (by omega))) byPart).mono ?_
    rintro _ _ ⟨oh, okh, rfl, rfl⟩
    have hhl : (handsP sm.st).length ≤ 60 := Nat.le_trans (hands_len _) hmt
    have hso := hands_sorted sm.st
    refine hT _ _ ?_; clear hT; clear T
    (refine KL.v rfl (Val.assign rfl) ?_)
    refine KL.nil ?_
    refine KE.next ?_
    refine K.seq ?_
    refine K.seq ?_
    refine K.region ?_
    (refine KL.v rfl (Val.assign rfl) ?_)
    refine KL.nil ?_
    refine KE.next ?_
    refine K.block ?_
    refine K.loopT (σ := RoB) [(2, _), (5, _), (6, _), (7, _), (9, _), (17, _)] (fun s kp_ => (18, .int .i64 (s.k : Nat)) :: (8, oV s.fo (frmK sm.st s.k).length) :: kp_) (fun s => oH iE 3 (handsP sm.st) oh ++ (oH iE 3 ids o ++ (smH sm ++ ((b2, cells [vc, .int .i64 q, .int .i64 c] 24) :: (oH wE 22 ws ow ++ (wsH ws ++ (oH iE 3 (frmK sm.st s.k) s.fo ++ []))))))) (fun s => s.k ≤ (handsP sm.st).length ∧ oOk iE (frmK sm.st s.k) s.fo) (fun s => (handsP sm.st).length - s.k) (⟨0, fo⟩) bySub byPart (⟨by simp, okf⟩) ?_
    rintro ⟨k, fk⟩ ⟨hk, okk⟩
    dsimp only at hk okk ⊢
    by_cases hlt : k < (handsP sm.st).length
    · obtain ⟨h, hh⟩ := get_of_lt hlt
      obtain ⟨n, hnm⟩ := Option.isSome_iff_exists.1 ((hands_mem hn).1 (List.mem_of_getElem? hh))
      have hnp : namesP sm.st h = (n, 0) := by unfold namesP; rw [hnm]
      have hnin : decide (n ∈ ids) = true := by rw [hids]; exact decide_eq_true ((objs_mem hn).2 (hC.hr h n hnm))
      have hpl : placeP ids n = ((ixP ids n : Nat) : Int) := by unfold placeP; rw [if_pos (of_decide_eq_true hnin)]
      have hfs : frmK sm.st (k + 1) = frmK sm.st k ++ [((ixP ids n : Nat) : Int)] := by
        unfold frmK; rw [take_snoc hh, List.map_append, ← List.append_assoc, hids]; simp [hnm]
      have hfl : (frmK sm.st k).length ≤ 200 := by
        unfold frmK
        have : (fromA sm.st (objsP sm.st).length).length ≤ 60 := Nat.le_trans (by rw [fromA, List.length_map]; exact Nat.le_trans (List.length_filter_le _ _) (by rw [List.length_range]; exact Nat.le_refl _)) (by rw [← hids]; omega)
        rw [List.length_append, List.length_map, List.length_take]; omega
      have hbd : (frmK sm.st k ++ [((ixP ids n : Nat) : Int)]).length ≤ 4294967296 := by simp only [List.length_append, List.length_singleton]; omega
      refine K.seq ?_
      refine K.seq ?_
      refine K.region ?_
      (refine KL.v rfl (Val.move rfl) ?_)
      (refine KL.v rfl (Val.move rfl) ?_)
      (refine KL.v rfl (Val.lenSl rfl rfl (Sli.own byTakeL (by assumption) byLen)) ?_)
      (refine KL.v rfl (Val.isT (Val.lss rfl rfl) byLt) ?_)
      refine KL.nil ?_
      refine KE.next ?_
      refine K.condT rfl ?_
      refine K.skip ?_
      refine KE.next ?_
      refine K.seq ?_
      refine K.block ?_
      refine K.seq ?_
      refine K.region ?_
      (refine KL.v rfl (Val.move rfl) ?_)
      (refine KL.v rfl (Val.move rfl) ?_)
      (refine KL.v rfl (Val.move rfl) ?_)
      (refine KL.v rfl (Val.idxSl rfl rfl rfl (Sli.own byTakeL (by assumption) byLen) rfl byLt) ?_)
      (refine KL.v rfl (Val.loadP rfl rfl (Sees.sl0 (Sli.own byTakeL (by assumption) byLen) (by assumption) rfl)) ?_)
      (refine KL.callc rfl rfl byEvL fun T hT => ?_)
      refine (CallV.part (CallV.fn (NamesS_K (sm := sm) (h := h))) byPart).mono ?_
      rintro _ _ ⟨rfl, rfl⟩
      refine hT _ _ ?_; clear hT; clear T
      rw [hnp]
      by_cases hk0 : k = 0
      · have hk0' : ¬ (k : Int) > 0 := by omega
        (refine KL.v rfl (Val.move rfl) ?_)
        (refine KL.v rfl (Val.extract rfl rfl) ?_)
        (refine KL.v rfl (Val.extract rfl rfl) ?_)
        (refine KL.v rfl (Val.assign rfl) ?_)
        (refine KL.v rfl (Val.assign rfl) ?_)
        refine KL.nil ?_
        refine KE.next ?_
        refine K.seq ?_
        refine K.seq ?_
        refine K.drawn [] [(0, 0), (1, 0), (2, 0), (3, 0), (4, 0), (5, 2), (6, 0), (7, 0), (8, 0), (9, 0), (10, 0), (11, 0), (12, 0), (13, 0), (14, 0), (15, 0), (16, 0), (17, 0), (18, 0), (19, 0), (20, 0), (21, 0), (22, 0), (23, 0)] (by kernel_rfl) (by kernel_rfl) (by kernel_rfl) (by kernel_rfl) (by kernel_rfl) (by kernel_rfl) Part.nil ?_
        refine KD.v0 rfl rfl (Val.move rfl) ?_
        refine KD.v0 rfl rfl (Val.isF (Val.neq rfl rfl) byLt) ?_
        refine KD.v0 rfl rfl (Val.move rfl) ?_
        refine KD.y0 rfl rfl rfl rfl (Val.move rfl) ?_
        refine KD.y0 rfl rfl rfl rfl (Val.move rfl) ?_
        refine KD.callcY rfl rfl rfl rfl rfl byEvL fun T hT => ?_
        refine (CallV.fn (Has_K (l := ids) (x := n) bySli (by omega))).mono ?_
        rintro _ _ ⟨rfl, rfl⟩
        rw [hnin]
        refine hT _ _ byPart ?_; clear hT; clear T
        refine KD.y0 rfl rfl rfl rfl (Val.notT rfl) ?_
        refine KD.v0 rfl rfl (Val.pickF rfl rfl rfl) ?_
        refine KD.v0 rfl rfl (Val.move rfl) ?_
        refine KD.y0 rfl rfl rfl rfl (Val.move rfl) ?_
        refine KD.y0 rfl rfl rfl rfl (Val.isF (Val.gtr rfl rfl) byLt) ?_
        refine KD.y0 rfl rfl rfl rfl (Val.move rfl) ?_
        refine KD.no rfl rfl rfl rfl rfl ?_
        refine KD.no rfl rfl rfl rfl rfl ?_
        refine KD.no rfl rfl rfl rfl rfl ?_
        refine KD.no rfl rfl rfl rfl rfl ?_
        refine KD.no rfl rfl rfl rfl rfl ?_
        refine KD.no rfl rfl rfl rfl rfl ?_
        refine KD.no rfl rfl rfl rfl rfl ?_
        refine KD.no rfl rfl rfl rfl rfl ?_
        refine KD.no rfl rfl rfl rfl rfl ?_
        refine KD.no rfl rfl rfl rfl rfl ?_
        refine KD.y0 rfl rfl rfl rfl (Val.pickF rfl rfl rfl) ?_
        refine KD.v0 rfl rfl (Val.pickF rfl rfl rfl) ?_
        refine KD.nil ?_
        refine KE.next ?_
        refine K.condF rfl ?_
        refine K.skip ?_
        refine KE.next ?_
        refine K.region ?_
        (refine KL.v rfl (Val.move rfl) ?_)
        (refine KL.v rfl (Val.move rfl) ?_)
        (refine KL.v rfl (Val.move rfl) ?_)
        (refine KL.callc rfl rfl byEvL fun T hT => ?_)
        refine (CallV.fn (place_K (l := ids) (n := n) bySli (by omega))).mono ?_
        rintro _ _ ⟨rfl, rfl⟩
        rw [hpl]
        refine hT _ _ ?_; clear hT; clear T
        (refine KL.e rfl (Eff.buildS byParts rfl rfl rfl rfl rfl byFill) ?_; rintro _ _ ⟨b186, rfl, rfl⟩)
        (refine KL.e rfl (Eff.appZ (ys := [_]) rfl rfl rfl rfl rfl rfl byTakeL (by assumption) (by first | exact Sli.blk byTake rfl (by first | decide | simp) (by first | decide | (unfold maxLen; omega)) rfl | exact Sli.old (by assumption) | exact Sli.own byTakeL (by assumption) byLen | assumption | exact Sli.part (by assumption) byPart) rfl (by first | assumption | omega | (simp <;> fail) | (simp; omega)) rfl) ?_; rintro _ _ ⟨o187, ok187, rfl, rfl⟩)
        (refine KL.v rfl (Val.assign rfl) ?_)
        refine KL.nil ?_
        refine KE.blkN ?_
        refine KE.next ?_
        refine K.region ?_
        (refine KL.v rfl (Val.move rfl) ?_)
        (refine KL.v rfl (Val.add rfl rfl (by simp only [Go.Proofs.Ythamkgghnjenhaa.lo, Go.Proofs.Ythamkgghnjenhaa.hi]; omega)) ?_)
        (refine KL.v rfl (Val.assign rfl) ?_)
        refine KL.nil ?_
        rw [← hfs] at ok187 ⊢
        exact KE.again ⟨k + 1, o187⟩ bySub byPart ⟨by show k + 1 ≤ _; omega, ok187⟩ (by show (handsP sm.st).length - (k + 1) < (handsP sm.st).length - k; omega)
      · obtain ⟨h', hh'⟩ := get_of_lt (l := handsP sm.st) (k := k - 1) (by omega)
        have hlt' : h' < h := by
          obtain ⟨g1, e1⟩ := List.getElem?_eq_some_iff.1 hh'
          obtain ⟨g2, e2⟩ := List.getElem?_eq_some_iff.1 hh
          have := List.pairwise_iff_getElem.1 hso (k - 1) k g1 g2 (by omega)
          rw [e1, e2] at this; exact this
        have hk1 : (handsP sm.st)[((k : Int) - 1).toNat]? = some h' := by rw [show ((k : Int) - 1).toNat = k - 1 by omega]; exact hh'
        (refine KL.v rfl (Val.move rfl) ?_)
        (refine KL.v rfl (Val.extract rfl rfl) ?_)
        (refine KL.v rfl (Val.extract rfl rfl) ?_)
        (refine KL.v rfl (Val.assign rfl) ?_)
        (refine KL.v rfl (Val.assign rfl) ?_)
        refine KL.nil ?_
        refine KE.next ?_
        refine K.seq ?_
        refine K.seq ?_
        refine K.drawn [] [(0, 0), (1, 0), (2, 0), (3, 0), (4, 0), (5, 2), (6, 0), (7, 0), (8, 0), (9, 0), (10, 0), (11, 0), (12, 0), (13, 0), (14, 0), (15, 0), (16, 0), (17, 0), (18, 0), (19, 0), (20, 0), (21, 0), (22, 0), (23, 0)] (by kernel_rfl) (by kernel_rfl) (by kernel_rfl) (by kernel_rfl) (by kernel_rfl) (by kernel_rfl) Part.nil ?_
        refine KD.v0 rfl rfl (Val.move rfl) ?_
        refine KD.v0 rfl rfl (Val.isF (Val.neq rfl rfl) byLt) ?_
        refine KD.v0 rfl rfl (Val.move rfl) ?_
        refine KD.y0 rfl rfl rfl rfl (Val.move rfl) ?_
        refine KD.y0 rfl rfl rfl rfl (Val.move rfl) ?_
        refine KD.callcY rfl rfl rfl rfl rfl byEvL fun T hT => ?_
        refine (CallV.fn (Has_K (l := ids) (x := n) bySli (by omega))).mono ?_
        rintro _ _ ⟨rfl, rfl⟩
        rw [hnin]
        refine hT _ _ byPart ?_; clear hT; clear T
        refine KD.y0 rfl rfl rfl rfl (Val.notT rfl) ?_
        refine KD.v0 rfl rfl (Val.pickF rfl rfl rfl) ?_
        refine KD.v0 rfl rfl (Val.move rfl) ?_
        refine KD.y0 rfl rfl rfl rfl (Val.move rfl) ?_
        refine KD.y0 rfl rfl rfl rfl (Val.isT (Val.gtr rfl rfl) byLt) ?_
        refine KD.y0 rfl rfl rfl rfl (Val.move rfl) ?_
        refine KD.y0 rfl rfl rfl rfl (Val.move rfl) ?_
        refine KD.y0 rfl rfl rfl rfl (Val.move rfl) ?_
        refine KD.y0 rfl rfl rfl rfl (Val.sub rfl rfl (by simp only [Go.Proofs.Ythamkgghnjenhaa.lo, Go.Proofs.Ythamkgghnjenhaa.hi]; omega)) ?_
        refine KD.y0 rfl rfl rfl rfl (Val.idxSlZ rfl rfl rfl (Sli.own byTakeL (by assumption) byLen) rfl (by omega)) ?_
        refine KD.y0 rfl rfl rfl rfl (Val.loadP rfl rfl (Sees.sl0 (Sli.own byTakeL (by assumption) byLen) (by assumption) rfl)) ?_
        refine KD.y0 rfl rfl rfl rfl (Val.move rfl) ?_
        refine KD.y0 rfl rfl rfl rfl (Val.move rfl) ?_
        refine KD.y0 rfl rfl rfl rfl (Val.idxSl rfl rfl rfl (Sli.own byTakeL (by assumption) byLen) rfl byLt) ?_
        refine KD.y0 rfl rfl rfl rfl (Val.loadP rfl rfl (Sees.sl0 (Sli.own byTakeL (by assumption) byLen) (by assumption) rfl)) ?_
        refine KD.y0 rfl rfl rfl rfl (Val.isF (Val.geq rfl rfl) byLt) ?_
        refine KD.y0 rfl rfl rfl rfl (Val.pickT rfl rfl rfl) ?_
        refine KD.v0 rfl rfl (Val.pickF rfl rfl rfl) ?_
        refine KD.nil ?_
        refine KE.next ?_
        refine K.condF rfl ?_
        refine K.skip ?_
        refine KE.next ?_
        refine K.region ?_
        (refine KL.v rfl (Val.move rfl) ?_)
        (refine KL.v rfl (Val.move rfl) ?_)
        (refine KL.v rfl (Val.move rfl) ?_)
        (refine KL.callc rfl rfl byEvL fun T hT => ?_)
        refine (CallV.fn (place_K (l := ids) (n := n) bySli (by omega))).mono ?_
        rintro _ _ ⟨rfl, rfl⟩
        rw [hpl]
        refine hT _ _ ?_; clear hT; clear T
        (refine KL.e rfl (Eff.buildS byParts rfl rfl rfl rfl rfl byFill) ?_; rintro _ _ ⟨b186, rfl, rfl⟩)
        (refine KL.e rfl (Eff.appZ (ys := [_]) rfl rfl rfl rfl rfl rfl byTakeL (by assumption) (by first | exact Sli.blk byTake rfl (by first | decide | simp) (by first | decide | (unfold maxLen; omega)) rfl | exact Sli.old (by assumption) | exact Sli.own byTakeL (by assumption) byLen | assumption | exact Sli.part (by assumption) byPart) rfl (by first | assumption | omega | (simp <;> fail) | (simp; omega)) rfl) ?_; rintro _ _ ⟨o187, ok187, rfl, rfl⟩)
        (refine KL.v rfl (Val.assign rfl) ?_)
        refine KL.nil ?_
        refine KE.blkN ?_
        refine KE.next ?_
        refine K.region ?_
        (refine KL.v rfl (Val.move rfl) ?_)
        (refine KL.v rfl (Val.add rfl rfl (by simp only [Go.Proofs.Ythamkgghnjenhaa.lo, Go.Proofs.Ythamkgghnjenhaa.hi]; omega)) ?_)
        (refine KL.v rfl (Val.assign rfl) ?_)
        refine KL.nil ?_
        rw [← hfs] at ok187 ⊢
        exact KE.again ⟨k + 1, o187⟩ bySub byPart ⟨by show k + 1 ≤ _; omega, ok187⟩ (by show (handsP sm.st).length - (k + 1) < (handsP sm.st).length - k; omega)
    have hke : k = (handsP sm.st).length := by omega
    subst hke
    have hfrm : frmK sm.st (handsP sm.st).length = frmA sm.st := by unfold frmK frmA; rw [List.take_length]
    rw [hfrm] at okk ⊢
    have hall := all_true hI
    have hfl : (frmA sm.st).length ≤ 200 := by
      unfold frmA
      have : (fromA sm.st (objsP sm.st).length).length ≤ 60 := Nat.le_trans (by rw [fromA, List.length_map]; exact Nat.le_trans (List.length_filter_le _ _) (by rw [List.length_range]; exact Nat.le_refl _)) (by rw [← hids]; omega)
      rw [List.length_append, List.length_map]; omega
    have hrows : ∀ r ∈ rowsB sm.st, r.length ≤ 1000 := by
      intro r hr'
      obtain ⟨i, hi, rfl⟩ := List.mem_map.1 hr'
      obtain ⟨x, hx⟩ := Option.isSome_iff_exists.1 ((objs_mem hn).1 hi)
      unfold rowB
      rw [hx]
      simp only [List.length_map]
      have := (hI.st.tx i x hx).sz
      omega
    refine K.seq ?_
    refine K.seq ?_
    refine K.region ?_
    (refine KL.v rfl (Val.move rfl) ?_)
    (refine KL.v rfl (Val.move rfl) ?_)
    (refine KL.v rfl (Val.lenSl rfl rfl (Sli.own byTakeL (by assumption) byLen)) ?_)
    (refine KL.v rfl (Val.isF (Val.lss rfl rfl) byLt) ?_)
    refine KL.nil ?_
    refine KE.next ?_
    refine K.condF rfl ?_
    refine K.exit ?_
    refine KE.passX ?_
    refine KE.passX ?_
    refine KE.blkX ?_
    refine KE.next ?_
    refine K.seq ?_
    refine K.region ?_
    (refine KL.v rfl (Val.move rfl) ?_)
    (refine KL.v rfl (Val.move rfl) ?_)
    (refine KL.callc rfl rfl byEvL fun T hT => ?_)
    refine (ReachD_K (rows := rowsB sm.st) (l := frmA sm.st) okw oks hmp' byPart bySli (by omega) (by rw [rowsB_len, ← hids]; omega) hrows).mono ?_
    rintro _ _ ⟨ob, okb, rfl, rfl⟩
    rw [hall] at okb ⊢
    have hrep : ∀ j : Nat, j < (List.replicate (objsP sm.st).length true).length → (List.replicate (objsP sm.st).length true)[j]? = some true := fun j hj => by rw [List.length_replicate] at hj; simp [hj]
    obtain ⟨is, his⟩ : ∃ is, is = List.replicate (objsP sm.st).length true := ⟨_, rfl⟩
    have hisl : is.length ≤ 60 := by rw [his, List.length_replicate, ← hids]; omega
    rw [← his] at okb hrep ⊢
    refine hT _ _ ?_; clear hT; clear T
    (refine KL.v rfl (Val.assign rfl) ?_)
    refine KL.nil ?_
    refine KE.next ?_
    refine K.seq ?_
    refine K.seq ?_
    refine K.region ?_
    (refine KL.v rfl (Val.assign rfl) ?_)
    refine KL.nil ?_
    refine KE.next ?_
    refine K.block ?_
    refine K.loopT (σ := Nat) [(2, _), (5, _), (9, _), (21, _)] (fun s kp_ => (22, .int .i64 (s : Nat)) :: kp_) (fun s => oH boE 4 is ob ++ (smH sm ++ ((b2, cells [vc, .int .i64 q, .int .i64 c] 24) :: []))) (fun s => s ≤ is.length) (fun s => is.length - s) (0) bySub byPart (by simp) ?_
    rintro k hk
    by_cases hlt : k < is.length
    · have hx := hrep k hlt
      refine K.seq ?_
      refine K.seq ?_
      refine K.region ?_
      (refine KL.v rfl (Val.move rfl) ?_)
      (refine KL.v rfl (Val.move rfl) ?_)
      (refine KL.v rfl (Val.lenSl rfl rfl (Sli.own byTakeL (by assumption) byLen)) ?_)
      (refine KL.v rfl (Val.isT (Val.lss rfl rfl) byLt) ?_)
      refine KL.nil ?_
      refine KE.next ?_
      refine K.condT rfl ?_
      refine K.skip ?_
      refine KE.next ?_
      refine K.seq ?_
      refine K.block ?_
      refine K.seq ?_
      refine K.region ?_
      (refine KL.v rfl (Val.move rfl) ?_)
      (refine KL.v rfl (Val.move rfl) ?_)
      (refine KL.v rfl (Val.idxSl rfl rfl rfl (Sli.own byTakeL (by assumption) byLen) rfl byLt) ?_)
      (refine KL.v rfl (Val.loadP rfl rfl (Sees.sl0 (Sli.own byTakeL (by assumption) byLen) (by assumption) rfl)) ?_)
      (refine KL.v rfl (Val.notT rfl) ?_)
      refine KL.nil ?_
      refine KE.next ?_
      refine K.condF rfl ?_
      refine K.skip ?_
      refine KE.blkN ?_
      refine KE.next ?_
      refine K.region ?_
      (refine KL.v rfl (Val.move rfl) ?_)
      (refine KL.v rfl (Val.add rfl rfl (by simp only [Go.Proofs.Ythamkgghnjenhaa.lo, Go.Proofs.Ythamkgghnjenhaa.hi]; omega)) ?_)
      (refine KL.v rfl (Val.assign rfl) ?_)
      refine KL.nil ?_
      exact KE.again (k + 1) bySub byPart (by omega) (by omega)
    · have hT0 : tf sm.ts 0 = none := by
        cases h : tf sm.ts 0 with
        | none => rfl
        | some y => have := hn.t 0 y h; omega
      have hus : ((ids).map (szP sm.st)).sum = usedP sm.st := by unfold usedP; rw [hids]
      have huq : usedP sm.st ≤ q := by rw [← hq]; exact hI.us
      rw [hus]
      refine K.seq ?_
      refine K.seq ?_
      refine K.region ?_
      (refine KL.v rfl (Val.move rfl) ?_)
      (refine KL.v rfl (Val.move rfl) ?_)
      (refine KL.v rfl (Val.lenSl rfl rfl (Sli.own byTakeL (by assumption) byLen)) ?_)
      (refine KL.v rfl (Val.isF (Val.lss rfl rfl) byLt) ?_)
      refine KL.nil ?_
      refine KE.next ?_
      refine K.condF rfl ?_
      refine K.exit ?_
      refine KE.passX ?_
      refine KE.passX ?_
      refine KE.blkX ?_
      refine KE.next ?_
      refine K.seq ?_
      refine K.region ?_
      (refine KL.v rfl (Val.move rfl) ?_)
      (refine KL.callc rfl rfl byEvL fun T hT => ?_)
      refine (CallV.part (CallV.fn (ObjectN_K (sm := sm) (n := 0) hT0)) byPart).mono ?_
      rintro _ _ ⟨rfl, rfl⟩
      refine hT _ _ ?_; clear hT; clear T
      (refine KL.v rfl (Val.move rfl) ?_)
      (refine KL.v rfl (Val.extract rfl rfl) ?_)
      (refine KL.v rfl (Val.extract rfl rfl) ?_)
      (refine KL.e rfl (Eff.alloc rfl) ?_; rintro _ _ ⟨b23, rfl, rfl⟩)
      (refine KL.eN (Eff.storeAL rfl rfl rfl byTake byLay byOnes) ?_; rintro _ _ rfl)
      (refine KL.v rfl (Val.assign rfl) ?_)
      refine KL.nil ?_
      refine KE.next ?_
      refine K.seq ?_
      refine K.region ?_
      (refine KL.v rfl (Val.move rfl) ?_)
      (refine KL.v rfl (Val.move rfl) ?_)
      (refine KL.callc rfl rfl byEvL fun T hT => ?_)
      refine (CallV.part (CallV.fn (Used_K ok hn (by omega) (fun i x hx => by have := (hI.st.tx i x hx).sz; omega))) byPart).mono ?_
      rintro _ _ ⟨rfl, rfl⟩
      refine hT _ _ ?_; clear hT; clear T
      (refine KL.v rfl (Val.isT (Val.eql rfl rfl) byLt) ?_)
      (refine KL.v rfl (Val.move rfl) ?_)
      (refine KL.yes rfl rfl ?_; refine KL.v rfl (Val.move rfl) ?_)
      (refine KL.yes rfl rfl ?_; refine KL.v rfl (Val.fieldAddr0 (k := 1) rfl rfl) ?_)
      (refine KL.yes rfl rfl ?_; refine KL.v rfl (Val.loadP rfl rfl (Sees.cell byTake rfl)) ?_)
      (refine KL.yes rfl rfl ?_; refine KL.v rfl (Val.isT (Val.leq rfl rfl) byLt) ?_)
      (refine KL.v rfl (Val.pickT rfl rfl rfl) ?_)
      (refine KL.v rfl (Val.move rfl) ?_)
      (refine KL.yes rfl rfl ?_; refine KL.v rfl (Val.move rfl) ?_)
      (refine KL.yes rfl rfl ?_; refine KL.v rfl (Val.isT (Val.eql rfl rfl) byLt) ?_)
      (refine KL.v rfl (Val.pickT rfl rfl rfl) ?_)
      (refine KL.v rfl (Val.move rfl) ?_)
      (refine KL.yes rfl rfl ?_; refine KL.callc rfl rfl byEvL fun T hT => ?_)
      refine (CallV.fn awake_K).mono ?_
      rintro _ _ ⟨rfl, rfl⟩
      refine hT _ _ ?_; clear hT; clear T
      (refine KL.v rfl (Val.pickT rfl rfl rfl) ?_)
      (refine KL.v rfl (Val.assign rfl) ?_)
      refine KL.nil ?_
      refine KE.next ?_
      refine K.ret ?_
      exact KE.fin byMarks rfl byRes byPart ⟨rfl, rfl⟩
  · refine hT _ _ ?_; clear hT; clear T
    (refine KL.v rfl (Val.assign rfl) ?_)
    refine KL.nil ?_
    refine KE.next ?_
    refine K.seq ?_
    refine K.seq ?_
    refine K.region ?_
    (refine KL.v rfl (Val.move rfl) ?_)
    (refine KL.v rfl (Val.eqlPN rfl rfl rfl) ?_)
    refine KL.nil ?_
    refine KE.next ?_
    refine K.condT rfl ?_
    refine K.seq ?_
    refine K.region ?_
    (refine KL.callc rfl rfl byEvL fun T hT => ?_)
    refine (CallV.fn awake_K).mono ?_
    rintro _ _ ⟨rfl, rfl⟩
    refine hT _ _ ?_; clear hT; clear T
    (refine KL.v rfl (Val.assign rfl) ?_)
    refine KL.nil ?_
    refine KE.next ?_
    refine K.ret ?_
    refine KE.passR ?_
    exact KE.fin byMarks rfl byRes byPart ⟨rfl, rfl⟩

theorem idealRoots_call {H : Type} {enc : TypeId × Value → H} (W : World) (base : Nat) (v0 v1 : Value) {d0 d1 : DataW H} {p0 p1 : List MemPlace}
    (o0 : Value.okWide Try.prog W .any base 24 v0) (h0 : DataW.Trod enc Try.prog W 0 (fun _ => true) true 24 v0 d0 p0)
    (o1 : Value.okWide Try.prog W .any base 25 v1) (h1 : DataW.Trod enc Try.prog W 0 (fun _ => true) true 25 v1 d1 p1) :
    Calls Try.prog 3 #[v0, v1] W (AwakeEnd W) := by
  obtain ⟨vc, cl, q, c, rfl, hK, _, _⟩ := kind_v o0 h0
  obtain ⟨l, hL, hok⟩ := plains_sl o1 h1
  exact (idealRoots_K hK hL hok).calls
end Go.Proofs.Ythamkgghnjenhaa
