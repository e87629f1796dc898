/- Trace: Get, the program's and the document's. -/
import Derived.Test.YtdkanfjpdnjhcaaTrW5
namespace Go.Proofs.Ytdkanfjpdnjhcaa
open Go.RowKit
set_option linter.unusedVariables false
set_option linter.unusedSimpArgs false

def getP (c : List UInt8) : List Seen × Int := match get c with
  | some xs => (xs, 0)
  | none => ([], 5)

set_option maxRecDepth 10000 in
theorem each_K {w0 : World} {H : Heap} {s : ByteArray} :
    Call Try.prog w0 24 [.string s] H (fun r H' => ∃ b, r = .func (.func 35) #[] #[.pointer (some ⟨b, 0, none⟩)] ∧ H' = (b, cells [.string s] 9) :: H) := by
  refine Call.enter (n := 4) [(0, .string s)] (by kernel_rfl) Try.func24 rfl rfl rfl ⟨rfl, trivial⟩ ?_
  refine byCode ?_
  (refine KL.e rfl (Eff.box rfl rfl) ?_; rintro _ _ ⟨b1, rfl, rfl⟩)
  (refine KL.v rfl (Val.assign rfl) ?_)
  refine KL.nil ?_
  refine byCode ?_
  (refine KL.v rfl (Val.makeFunc byEvL byEvL) ?_)
  (refine KL.v rfl (Val.assign rfl) ?_)
  refine KL.nil ?_
  refine byCode ?_
  exact KE.fin byMarks rfl byRes byPart ⟨b1, rfl, rfl⟩

/-- what Get's loop keeps -/
def GetJ (l D : Nat) (r : Rec) (b2 b3 b4 : Nat) (xs : List Seen) (A : Heap) : Prop := ∃ o, oOk sE xs o ∧ A = (l, .loop (r .ready none)) :: (D, .deferred (some [])) :: (oH sE 46 xs o ++ [(b4, cells [oV o xs.length] 22), (b3, cells [.int .i64 0] 25), (b2, cells [.slice none 0 0] 22)])
def GetD (c : List UInt8) (b2 b3 b4 D : Nat) (F : Heap) : Prop := ∃ xs o, get c = some xs ∧ oOk sE xs o ∧ F = (D, .deferred (some [])) :: (oH sE 46 xs o ++ [(b4, cells [oV o xs.length] 22), (b3, cells [.int .i64 0] 25), (b2, cells [.slice none 0 0] 22)])
def GetS (c : List UInt8) (b2 b3 D : Nat) (cd : Code) (F : Heap) : Prop := cd = .ret ∧ get c = none ∧ F = (D, .deferred (some [])) :: [(b3, cells [.int .i64 5] 25), (b2, cells [.slice none 0 0] 22)]

theorem get_len {c : List UInt8} {xs : List Seen} (h : get c = some xs) : xs.length * 57 = c.length := (put_getB _ h).2.2

set_option maxRecDepth 10000 in
set_option maxHeartbeats 1000000 in
theorem Get_K {w0 : World} {c : List UInt8} (hl : c.length ≤ 1000000) :
    Call Try.prog w0 9 [.string (strB c)] [] (fun r H' => ∃ o, oOk sE (getP c).1 o ∧ r = .tuple #[oV o (getP c).1.length, .int .i64 (getP c).2] ∧ H' = oH sE 46 (getP c).1 o) := by
  refine Call.enter (n := 18) [(0, .string (strB c))] (by kernel_rfl) Try.func9 rfl rfl rfl ⟨rfl, trivial⟩ ?_
  refine byCode ?_
  (refine KL.e rfl (Eff.alloc rfl) ?_; rintro _ _ ⟨b2, rfl, rfl⟩)
  (refine KL.e rfl (Eff.alloc rfl) ?_; rintro _ _ ⟨b3, rfl, rfl⟩)
  refine KL.nil ?_
  refine byCode ?_
  (refine KL.e rfl (Eff.alloc rfl) ?_; rintro _ _ ⟨b4, rfl, rfl⟩)
  refine KL.nil ?_
  refine byCode ?_
  (refine KL.v rfl (Val.move rfl) ?_)
  (refine KL.callc rfl rfl byEvL fun T hT => ?_)
  refine (CallV.fn each_K).mono ?_
  rintro _ _ ⟨b1, rfl, rfl⟩
  refine hT _ _ ?_; clear hT; clear T
  refine KL.nil ?_
  refine byBlk ?_
  refine K.rangeFunc (lb := [.pointer (some ⟨b1, 0, none⟩)]) rfl (GetD c b2 b3 b4) (GetS c b2 b3) ?_ ?_ ?_
  · intro l D r hyl
    refine (Call.part (each1_K (F := []) (GetJ l D r b2 b3 b4) (fun A => A = (l, .loop (r .done (some .ret))) :: (D, .deferred (some [])) :: [(b3, cells [.int .i64 5] 25), (b2, cells [.slice none 0 0] 22)]) rfl ?_ ?_ (A0 := (l, .loop (r .ready none)) :: (D, .deferred (some [])) :: (oH sE 46 [] none ++ [(b4, cells [oV none 0] 22), (b3, cells [.int .i64 0] 25), (b2, cells [.slice none 0 0] 22)])) (c0 := c) ⟨none, rfl, rfl⟩ hl) byPart).mono ?_
    · rintro xs A F s ⟨o, ok, rfl⟩ hxl
      have hz : (xs ++ [s]).length ≤ 4294967296 := by simp; omega
      simp only [List.cons_append, List.append_assoc, List.nil_append]
      refine hyl _ _ _ _ _ (ParS.cons rfl (ParS.cons rfl ParS.nil)) byTake ?_
      refine byCode ?_
      (refine KL.e rfl (Eff.alloc rfl) ?_; rintro _ _ ⟨b5, rfl, rfl⟩)
      (first | (refine KL.eN (Eff.storeAL rfl rfl rfl byTake byLay byOnes) ?_; rintro _ _ rfl) | (refine KL.eN (Eff.stSlA rfl rfl rfl rfl byTakeL (by assumption) (by assumption)) ?_; rintro _ _ rfl))
      refine KL.nil ?_
      refine byCode ?_
      (refine KL.v rfl (Val.assign rfl) ?_)
      refine KL.nil ?_
      refine KE.begin byTake ?_
      refine K.block ?_
      refine byCode ?_
      (refine KL.v rfl (Val.move rfl) ?_)
      (first | (refine KL.v rfl (Val.notT rfl) ?_) | (refine KL.v rfl (Val.notF rfl) ?_) | (refine KL.v rfl (Val.not rfl) ?_) | (refine KL.v rfl (Val.notB rfl) ?_))
      refine KL.nil ?_
      refine byCode ?_
      (refine KL.v rfl (Val.loadP rfl rfl bySee) ?_)
      (first | (refine KL.v rfl (Val.loadAP rfl rfl rfl bySeeA) ?_) | (refine KL.v rfl (Val.loadA rfl rfl rfl bySeeN) ?_))
      (refine KL.e rfl (Eff.buildS byParts rfl rfl rfl rfl rfl byFill) ?_; rintro _ _ ⟨b15, rfl, rfl⟩)
      -- STOP at region 7 op 3: {"h": "Op.call", "a": [{"callee": {"h": "Callee.builtin", "a": ["Builtin.append"]}, "args": [{"h": "Operand.tmp", "a": [13]}, {"h": "Operand.tmp", "a": [15]}], "argTypes": [22, 22]}]}
      (refine KL.e rfl (Eff.appZ (E := sE) (xs := xs) (o := o) (ys := [s]) (zs := xs ++ [s]) rfl rfl rfl rfl rfl rfl byTakeL (by assumption) (by first | exact Sli.blk byTake rfl (by first | decide | simp) (by first | decide | (unfold maxLen; omega)) rfl | exact Sli.old (by assumption) | exact Sli.own byTakeL (by assumption) byLen | assumption | exact Sli.part (by assumption) byPart) (rfl) (by first | assumption | omega | (simp <;> fail) | (simp; omega)) rfl) ?_; rintro _ _ ⟨o', ok', rfl, rfl⟩)
      (first | (refine KL.eN (Eff.storeL rfl rfl byOne rfl byTake bySetAt) ?_; rintro _ _ rfl) | (refine KL.eN (Eff.stSl rfl rfl rfl rfl byTakeL (by assumption) (by assumption) rfl rfl) ?_; rintro _ _ rfl) | (refine KL.eN (Eff.stSl0 rfl rfl rfl rfl byTakeL (by assumption) (by assumption) rfl rfl) ?_; rintro _ _ rfl))
      refine KL.nil ?_
      refine byCode ?_
      refine KE.part ((l, .loop (r .busy none)) :: (D, .deferred (some [])) :: (oH sE 46 (xs ++ [s]) o' ++ ((b4, cells [oV o' (xs ++ [s]).length] 22) :: (b3, cells [.int .i64 0] 25) :: (b2, cells [.slice none 0 0] 22) :: F))) byPart ?_
      exact KE.roundN Take.head ⟨rfl, _, ⟨o', ok', rfl⟩, by simp⟩
    · rintro xs A F ⟨o, ok, rfl⟩
      simp only [List.cons_append, List.append_assoc, List.nil_append]
      refine hyl _ _ _ _ _ (ParS.cons rfl (ParS.cons rfl ParS.nil)) byTake ?_
      refine byCode ?_
      (refine KL.e rfl (Eff.alloc rfl) ?_; rintro _ _ ⟨b5, rfl, rfl⟩)
      (first | (refine KL.eN (Eff.storeAL rfl rfl rfl byTake byLay byOnes) ?_; rintro _ _ rfl) | (refine KL.eN (Eff.stSlA rfl rfl rfl rfl byTakeL (by assumption) (by assumption)) ?_; rintro _ _ rfl))
      refine KL.nil ?_
      refine byCode ?_
      (refine KL.v rfl (Val.assign rfl) ?_)
      refine KL.nil ?_
      refine KE.begin byTake ?_
      refine K.block ?_
      refine byCode ?_
      (refine KL.v rfl (Val.move rfl) ?_)
      (first | (refine KL.v rfl (Val.notT rfl) ?_) | (refine KL.v rfl (Val.notF rfl) ?_) | (refine KL.v rfl (Val.not rfl) ?_) | (refine KL.v rfl (Val.notB rfl) ?_))
      refine KL.nil ?_
      refine byCode ?_
      (first | (refine KL.eN (Eff.storeL rfl rfl byOne rfl byTake bySetAt) ?_; rintro _ _ rfl) | (refine KL.eN (Eff.stSl rfl rfl rfl rfl byTakeL (by assumption) (by assumption) rfl rfl) ?_; rintro _ _ rfl) | (refine KL.eN (Eff.stSl0 rfl rfl rfl rfl byTakeL (by assumption) (by assumption) rfl rfl) ?_; rintro _ _ rfl))
      (first | (refine KL.eN (Eff.storeL rfl rfl byOne rfl byTake bySetAt) ?_; rintro _ _ rfl) | (refine KL.eN (Eff.stSl rfl rfl rfl rfl byTakeL (by assumption) (by assumption) rfl rfl) ?_; rintro _ _ rfl) | (refine KL.eN (Eff.stSl0 rfl rfl rfl rfl byTakeL (by assumption) (by assumption) rfl rfl) ?_; rintro _ _ rfl))
      refine KL.nil ?_
      refine byCode ?_
      refine KE.part ((l, .loop (r .busy none)) :: (D, .deferred (some [])) :: (b3, cells [.int .i64 5] 25) :: (b2, cells [.slice none 0 0] 22) :: F) byPart ?_
      exact KE.roundR Take.head ⟨_, rfl, by simp⟩
    · rintro v H' ⟨A', c', rfl, (⟨xs, hg, o, ok, rfl⟩ | ⟨hg, rfl⟩)⟩
      · refine .inl ⟨_, ?_, xs, o, hg, ok, rfl⟩
        simp only [List.cons_append, List.append_assoc, List.nil_append]
        exact byPart
      · refine .inr ⟨.ret, _, ?_, rfl, hg, rfl⟩
        simp only [List.cons_append, List.append_assoc, List.nil_append]
        exact byPart
  · rintro D F ⟨xs, o, hg, ok, rfl⟩
    have hP : getP c = (xs, 0) := by unfold getP; rw [hg]
    rw [hP]
    refine byCode ?_
    (refine KL.v rfl (Val.loadP rfl rfl bySee) ?_)
    (first | (refine KL.eN (Eff.storeL rfl rfl byOne rfl byTake bySetAt) ?_; rintro _ _ rfl) | (refine KL.eN (Eff.stSl rfl rfl rfl rfl byTakeL (by assumption) (by assumption) rfl rfl) ?_; rintro _ _ rfl) | (refine KL.eN (Eff.stSl0 rfl rfl rfl rfl byTakeL (by assumption) (by assumption) rfl rfl) ?_; rintro _ _ rfl))
    (first | (refine KL.eN (Eff.storeL rfl rfl byOne rfl byTake bySetAt) ?_; rintro _ _ rfl) | (refine KL.eN (Eff.stSl rfl rfl rfl rfl byTakeL (by assumption) (by assumption) rfl rfl) ?_; rintro _ _ rfl) | (refine KL.eN (Eff.stSl0 rfl rfl rfl rfl byTakeL (by assumption) (by assumption) rfl rfl) ?_; rintro _ _ rfl))
    refine KL.nil ?_
    refine byCode ?_
    exact KE.fin byMarks rfl byRes byPart ⟨o, ok, rfl, rfl⟩
  · rintro D cd F ⟨rfl, hg, rfl⟩
    have hP : getP c = ([], 5) := by unfold getP; rw [hg]
    rw [hP]
    refine byCode ?_
    exact KE.fin byMarks rfl byRes byPart ⟨none, rfl, rfl, rfl⟩

structure GS where
  k : Nat
  xs : List Seen
  o : Own

theorem one_ne {c : List UInt8} {x : UInt8} (hx : c[56]? = some x) (h : 1 < x.toNat) (s : Seen) : oneB26 s ≠ c := by
  intro e
  rw [← e] at hx
  have : (oneB26 s)[56]? = some (if s.active then 1 else 0) := rfl
  rw [this] at hx
  cases hx
  by_cases ha : s.active = true <;> simp [ha] at h

set_option maxRecDepth 10000 in
set_option maxHeartbeats 4000000 in
theorem rGet_K {w0 : World} {c : List UInt8} (hl : c.length ≤ 1000000) :
    Call Try.prog w0 10 [.string (strB c)] [] (fun r H' => ∃ o, oOk sE (getP c).1 o ∧ r = .tuple #[oV o (getP c).1.length, .int .i64 (getP c).2] ∧ H' = oH sE 46 (getP c).1 o) := by
  refine Call.enter (n := 55) [(0, .string (strB c))] (by kernel_rfl) Try.func10 rfl rfl rfl ⟨rfl, trivial⟩ ?_
  by_cases hm : (c.length : Int) % 57 ≠ 0
  · have hg : get c = none := by
      cases h : get c with
      | none => rfl
      | some xs => have := get_len h; omega
    have hP : getP c = ([], 5) := by unfold getP; rw [hg]
    rw [hP]
    refine byCode ?_
    (refine KL.v rfl (Val.assign rfl) ?_)
    (refine KL.v rfl (Val.assign rfl) ?_)
    refine KL.nil ?_
    refine byCode ?_
    (refine KL.v rfl (Val.move rfl) ?_)
    (refine KL.v rfl (Val.lenB rfl rfl) ?_)
    (first | (refine KL.v rfl (Val.remN rfl rfl (by omega)) ?_) | (refine KL.v rfl (Val.rem rfl rfl (by omega)) ?_))
    (first | (refine KL.v rfl (Val.isT (Val.neq rfl rfl) byLt) ?_) | (refine KL.v rfl (Val.isF (Val.neq rfl rfl) byLt) ?_) | (refine KL.v rfl (Val.neq rfl rfl) ?_))
    refine KL.nil ?_
    refine byCode ?_
    (refine KL.v rfl (Val.assign rfl) ?_)
    (refine KL.v rfl (Val.assign rfl) ?_)
    refine KL.nil ?_
    refine byCode ?_
    exact KE.fin byMarks rfl byRes byPart ⟨none, rfl, rfl, rfl⟩
  refine byCode ?_
  (refine KL.v rfl (Val.assign rfl) ?_)
  (refine KL.v rfl (Val.assign rfl) ?_)
  refine KL.nil ?_
  refine byCode ?_
  (refine KL.v rfl (Val.move rfl) ?_)
  (refine KL.v rfl (Val.lenB rfl rfl) ?_)
  (first | (refine KL.v rfl (Val.remN rfl rfl (by omega)) ?_) | (refine KL.v rfl (Val.rem rfl rfl (by omega)) ?_))
  (first | (refine KL.v rfl (Val.isT (Val.neq rfl rfl) byLt) ?_) | (refine KL.v rfl (Val.isF (Val.neq rfl rfl) byLt) ?_) | (refine KL.v rfl (Val.neq rfl rfl) ?_))
  refine KL.nil ?_
  refine byCode ?_
  (refine KL.v rfl (Val.assign rfl) ?_)
  refine KL.nil ?_
  refine byCode ?_
  (refine KL.v rfl (Val.assign rfl) ?_)
  refine KL.nil ?_
  refine byBlk ?_
  refine K.loop (σ := GS) (fun s => [(5, .int .i64 ((57 * s.k : Nat) : Int)), (0, .string (strB c)), (4, oV s.o s.xs.length)]) (fun s => oH sE 46 s.xs s.o ++ [])
    (fun s => 57 * s.k ≤ c.length ∧ s.xs.length = s.k ∧ oOk sE s.xs s.o ∧ get c = (get (c.drop (57 * s.k))).map (s.xs ++ ·)) (fun s => c.length - 57 * s.k) ⟨0, [], none⟩ bySub byPart ⟨by simp, rfl, rfl, by simp⟩ ?_
  rintro ⟨k, xs, o⟩ ⟨hk, hxl, ok, hg⟩
  dsimp only at hk hxl ok hg ⊢
  by_cases hlt : 57 * k < c.length
  · have hcl : 57 * k + 57 ≤ c.length := by omega
    obtain ⟨ch, hch⟩ : ∃ ch, ch = (c.take (((57 * k : Nat) : Int) + 57).toNat).drop ((57 * k : Nat) : Int).toNat := ⟨_, rfl⟩
    have hch2 : ch = (c.drop (57 * k)).take 57 := by
      rw [hch, show (((57 * k : Nat) : Int) + 57).toNat = 57 * k + 57 by omega, Int.toNat_natCast, List.drop_take]
      congr 1; omega
    have hchl : ch.length = 57 := by rw [hch2]; simp; omega
    obtain ⟨x, hx⟩ := get_of_lt (l := ch) (k := 56) (by omega)
    have hx' : ch[(56 : Int).toNat]? = some x := hx
    have hdx : (c.drop (57 * k))[56]? = some x := by rw [hch2, List.getElem?_take] at hx; simpa using hx
    have hone : oneS (c.drop (57 * k)) = oneS ch := by rw [hch2]; exact (oneS_take (by simp; omega)).symm
    have hact : decide (((x.toNat : Nat) : Int) = 1) = (ch[56]? == some 1) := by
      rw [hx]
      by_cases h : x = 1
      · subst h; rfl
      · have : ¬ (((x.toNat : Nat) : Int) = 1) := by
          intro h'
          apply h
          apply UInt8.toNat.inj
          have h1 : x.toNat = 1 := by omega
          rw [h1]; rfl
        rw [decide_eq_false this]
        simp [h]
    refine byCode ?_
    (refine KL.v rfl (Val.move rfl) ?_)
    (refine KL.v rfl (Val.move rfl) ?_)
    (refine KL.v rfl (Val.lenB rfl rfl) ?_)
    (first | (refine KL.v rfl (Val.isT (Val.lss rfl rfl) byLt) ?_) | (refine KL.v rfl (Val.isF (Val.lss rfl rfl) byLt) ?_) | (refine KL.v rfl (Val.lss rfl rfl) ?_))
    refine KL.nil ?_
    refine byCode ?_
    refine K.seq (K.block ?_)
    refine byCode ?_
    (refine KL.v rfl (Val.move rfl) ?_)
    (refine KL.v rfl (Val.move rfl) ?_)
    (refine KL.v rfl (Val.move rfl) ?_)
    (first | (refine KL.v rfl (Val.add rfl rfl (by simp only [Go.Proofs.Ytdkanfjpdnjhcaa.lo, Go.Proofs.Ytdkanfjpdnjhcaa.hi]; omega)) ?_) | (refine KL.v rfl (Val.addW rfl rfl) ?_))
    refine KL.v rfl (Val.subBZ rfl rfl rfl rfl (by omega)) ?_
    rw [← hch]
    clear hch
    (refine KL.v rfl (Val.assign rfl) ?_)
    refine KL.nil ?_
    refine KE.next ?_
    refine K.cut (σ := Nat) (fun b7 => [(7, .pointer (some ⟨b7, 0, none⟩)), (6, .string (strB ch)), (5, .int .i64 ((57 * k : Nat) : Int)), (0, .string (strB c)), (4, oV o xs.length)]) (fun b7 => (b7, cells (scell (oneS ch)) 46) :: (oH sE 46 xs o ++ [])) (fun _ => True) ?_ ?_
    · refine byCodeD ?_
      (first | refine K.seq (K.drawn _ [(0, 1), (3, 1), (5, 1), (7, 1), (10, 1), (13, 1), (16, 1), (19, 1), (20, 1), (21, 1), (1, 3), (2, 1), (4, 3), (6, 3), (8, 3), (9, 1), (11, 3), (12, 1), (14, 3), (15, 1), (17, 3), (18, 1), (22, 1), (23, 2), (24, 2)] (by kernel_rfl) (by kernel_rfl) (by kernel_rfl) (by kernel_rfl) (by kernel_rfl) (by kernel_rfl) Part.all ?_) | refine K.seq (K.seq (K.drawn _ [(0, 1), (3, 1), (5, 1), (7, 1), (10, 1), (13, 1), (16, 1), (19, 1), (20, 1), (21, 1), (1, 3), (2, 1), (4, 3), (6, 3), (8, 3), (9, 1), (11, 3), (12, 1), (14, 3), (15, 1), (17, 3), (18, 1), (22, 1), (23, 2), (24, 2)] (by kernel_rfl) (by kernel_rfl) (by kernel_rfl) (by kernel_rfl) (by kernel_rfl) (by kernel_rfl) Part.all ?_)) | refine K.drawn _ [(0, 1), (3, 1), (5, 1), (7, 1), (10, 1), (13, 1), (16, 1), (19, 1), (20, 1), (21, 1), (1, 3), (2, 1), (4, 3), (6, 3), (8, 3), (9, 1), (11, 3), (12, 1), (14, 3), (15, 1), (17, 3), (18, 1), (22, 1), (23, 2), (24, 2)] (by kernel_rfl) (by kernel_rfl) (by kernel_rfl) (by kernel_rfl) (by kernel_rfl) (by kernel_rfl) Part.all ?_)
      refine KD.v1 rfl rfl (Val.move rfl) ?_
      refine KD.v1 rfl rfl (Val.move rfl) ?_
      refine KD.v1 rfl rfl (Val.move rfl) ?_
      refine KD.v1 rfl rfl (Val.move rfl) ?_
      refine KD.v1 rfl rfl (Val.move rfl) ?_
      refine KD.v1 rfl rfl (Val.move rfl) ?_
      refine KD.v1 rfl rfl (Val.move rfl) ?_
      refine KD.v1 rfl rfl (Val.move rfl) ?_
      (first | refine KD.v1 rfl rfl (Val.idxB rfl rfl rfl (by assumption)) ?_ | refine KD.v1 rfl rfl (Val.idxBZ rfl rfl rfl (by omega) (by assumption)) ?_)
      (first | refine KD.v1 rfl rfl (Val.isT (Val.eql rfl rfl) byLt) ?_ | refine KD.v1 rfl rfl (Val.isF (Val.eql rfl rfl) byLt) ?_ | refine KD.v1 rfl rfl (Val.eql rfl rfl) ?_)
      -- FORK at region 8: [(1, 3), (2, 1), (4, 3), (6, 3), (8, 3), (9, 1), (11, 3), (12, 1), (14, 3), (15, 1), (17, 3), (18, 1), (22, 1), (23, 2), (24, 2)]
      refine KD.fork2 (x := 1) (y := 23) (o1 := [(2, 1), (4, 3), (6, 3), (8, 3), (9, 1), (11, 3), (12, 1), (14, 3), (15, 1), (17, 3), (18, 1), (22, 1), (23, 2), (24, 2)]) (o2 := [(1, 2), (2, 1), (4, 2), (6, 2), (8, 2), (9, 1), (11, 2), (12, 1), (14, 2), (15, 1), (17, 2), (18, 0), (22, 0), (24, 2)]) (by kernel_rfl) rfl rfl (by kernel_rfl) (by kernel_rfl) ?_ ?_
      · refine ActK.callc rfl rfl byEvL fun T hT => ?_
        refine (CallV.fn (number_K (c := ch) (i := 0) rfl (by omega) (by omega))).mono ?_
        rintro _ _ ⟨rfl, rfl⟩
        refine hT _ _ byPart ?_; clear hT; clear T
        (first | refine KD.v1 rfl rfl (Val.conv rfl rfl rfl (by simp only [Go.Proofs.Ytdkanfjpdnjhcaa.lo, Go.Proofs.Ytdkanfjpdnjhcaa.hi]; omega)) ?_ | refine KD.v1 rfl rfl (Val.convW rfl rfl rfl) ?_)
        -- FORK at region 8: [(4, 3), (6, 3), (8, 3), (9, 1), (11, 3), (12, 1), (14, 3), (15, 1), (17, 3), (18, 1), (22, 1), (23, 2), (24, 2)]
        refine KD.fork2 (x := 4) (y := 23) (o1 := [(6, 3), (8, 3), (9, 1), (11, 3), (12, 1), (14, 3), (15, 1), (17, 3), (18, 1), (22, 1), (23, 2), (24, 2)]) (o2 := [(4, 2), (6, 2), (8, 2), (9, 1), (11, 2), (12, 1), (14, 2), (15, 1), (17, 2), (18, 0), (22, 0), (24, 2)]) (by kernel_rfl) rfl rfl (by kernel_rfl) (by kernel_rfl) ?_ ?_
        · refine ActK.callc rfl rfl byEvL fun T hT => ?_
          refine (CallV.fn (number_K (c := ch) (i := 1) rfl (by omega) (by omega))).mono ?_
          rintro _ _ ⟨rfl, rfl⟩
          refine hT _ _ byPart ?_; clear hT; clear T
          -- FORK at region 8: [(6, 3), (8, 3), (9, 1), (11, 3), (12, 1), (14, 3), (15, 1), (17, 3), (18, 1), (22, 1), (23, 2), (24, 2)]
          refine KD.fork2 (x := 6) (y := 23) (o1 := [(8, 3), (9, 1), (11, 3), (12, 1), (14, 3), (15, 1), (17, 3), (18, 1), (22, 1), (23, 2), (24, 2)]) (o2 := [(6, 2), (8, 2), (9, 1), (11, 2), (12, 1), (14, 2), (15, 1), (17, 2), (18, 0), (22, 0), (24, 2)]) (by kernel_rfl) rfl rfl (by kernel_rfl) (by kernel_rfl) ?_ ?_
          · refine ActK.callc rfl rfl byEvL fun T hT => ?_
            refine (CallV.fn (number_K (c := ch) (i := 2) rfl (by omega) (by omega))).mono ?_
            rintro _ _ ⟨rfl, rfl⟩
            refine hT _ _ byPart ?_; clear hT; clear T
            -- FORK at region 8: [(8, 3), (9, 1), (11, 3), (12, 1), (14, 3), (15, 1), (17, 3), (18, 1), (22, 1), (23, 2), (24, 2)]
            refine KD.fork2 (x := 8) (y := 23) (o1 := [(9, 1), (11, 3), (12, 1), (14, 3), (15, 1), (17, 3), (18, 1), (22, 1), (23, 2), (24, 2)]) (o2 := [(8, 2), (9, 1), (11, 2), (12, 1), (14, 2), (15, 1), (17, 2), (18, 0), (22, 0), (24, 2)]) (by kernel_rfl) rfl rfl (by kernel_rfl) (by kernel_rfl) ?_ ?_
            · refine ActK.callc rfl rfl byEvL fun T hT => ?_
              refine (CallV.fn (number_K (c := ch) (i := 3) rfl (by omega) (by omega))).mono ?_
              rintro _ _ ⟨rfl, rfl⟩
              refine hT _ _ byPart ?_; clear hT; clear T
              (first | refine KD.v1 rfl rfl (Val.conv rfl rfl rfl (by simp only [Go.Proofs.Ytdkanfjpdnjhcaa.lo, Go.Proofs.Ytdkanfjpdnjhcaa.hi]; omega)) ?_ | refine KD.v1 rfl rfl (Val.convW rfl rfl rfl) ?_)
              -- FORK at region 8: [(11, 3), (12, 1), (14, 3), (15, 1), (17, 3), (18, 1), (22, 1), (23, 2), (24, 2)]
              refine KD.fork2 (x := 11) (y := 23) (o1 := [(12, 1), (14, 3), (15, 1), (17, 3), (18, 1), (22, 1), (23, 2), (24, 2)]) (o2 := [(11, 2), (12, 1), (14, 2), (15, 1), (17, 2), (18, 0), (22, 0), (24, 2)]) (by kernel_rfl) rfl rfl (by kernel_rfl) (by kernel_rfl) ?_ ?_
              · refine ActK.callc rfl rfl byEvL fun T hT => ?_
                refine (CallV.fn (number_K (c := ch) (i := 4) rfl (by omega) (by omega))).mono ?_
                rintro _ _ ⟨rfl, rfl⟩
                refine hT _ _ byPart ?_; clear hT; clear T
                (first | refine KD.v1 rfl rfl (Val.conv rfl rfl rfl (by simp only [Go.Proofs.Ytdkanfjpdnjhcaa.lo, Go.Proofs.Ytdkanfjpdnjhcaa.hi]; omega)) ?_ | refine KD.v1 rfl rfl (Val.convW rfl rfl rfl) ?_)
                -- FORK at region 8: [(14, 3), (15, 1), (17, 3), (18, 1), (22, 1), (23, 2), (24, 2)]
                refine KD.fork2 (x := 14) (y := 23) (o1 := [(15, 1), (17, 3), (18, 1), (22, 1), (23, 2), (24, 2)]) (o2 := [(14, 2), (15, 1), (17, 2), (18, 0), (22, 0), (24, 2)]) (by kernel_rfl) rfl rfl (by kernel_rfl) (by kernel_rfl) ?_ ?_
                · refine ActK.callc rfl rfl byEvL fun T hT => ?_
                  refine (CallV.fn (number_K (c := ch) (i := 5) rfl (by omega) (by omega))).mono ?_
                  rintro _ _ ⟨rfl, rfl⟩
                  refine hT _ _ byPart ?_; clear hT; clear T
                  (first | refine KD.v1 rfl rfl (Val.conv rfl rfl rfl (by simp only [Go.Proofs.Ytdkanfjpdnjhcaa.lo, Go.Proofs.Ytdkanfjpdnjhcaa.hi]; omega)) ?_ | refine KD.v1 rfl rfl (Val.convW rfl rfl rfl) ?_)
                  -- FORK at region 8: [(17, 3), (18, 1), (22, 1), (23, 2), (24, 2)]
                  refine KD.fork2 (x := 17) (y := 23) (o1 := [(18, 1), (22, 1), (23, 2), (24, 2)]) (o2 := [(17, 2), (18, 0), (22, 0), (24, 2)]) (by kernel_rfl) rfl rfl (by kernel_rfl) (by kernel_rfl) ?_ ?_
                  · refine ActK.callc rfl rfl byEvL fun T hT => ?_
                    refine (CallV.fn (number_K (c := ch) (i := 6) rfl (by omega) (by omega))).mono ?_
                    rintro _ _ ⟨rfl, rfl⟩
                    refine hT _ _ byPart ?_; clear hT; clear T
                    (first | refine KD.v1 rfl rfl (Val.conv rfl rfl rfl (by simp only [Go.Proofs.Ytdkanfjpdnjhcaa.lo, Go.Proofs.Ytdkanfjpdnjhcaa.hi]; omega)) ?_ | refine KD.v1 rfl rfl (Val.convW rfl rfl rfl) ?_)
                    refine KD.v1 rfl rfl (Val.build byParts rfl rfl byFill) ?_
                    (refine KD.e rfl rfl (Eff.alloc rfl) ?_; rintro _ _ ⟨b7, rfl, rfl⟩; refine ⟨byPart, ?_⟩)
                    (first | (refine KD.eN rfl (Eff.storeAL rfl rfl rfl byTake byLay byOnes) ?_; rintro _ _ rfl; refine ⟨byPart, ?_⟩) | (refine KD.eN rfl (Eff.stSlA rfl rfl rfl rfl byTakeL (by assumption) (by assumption)) ?_; rintro _ _ rfl; refine ⟨byPart, ?_⟩))
                    refine KD.nil ?_
                    rw [hact]
                    refine byCode ?_
                    exact KE.meet b7 bySub byPart trivial
                  · (refine ActK.e rfl (Eff.alloc rfl) ?_; rintro _ _ ⟨b7, rfl, rfl⟩; refine ⟨byPart, ?_⟩)
                    refine KD.callc rfl rfl rfl byEvL fun T hT => ?_
                    refine (CallV.fn (number_K (c := ch) (i := 6) rfl (by omega) (by omega))).mono ?_
                    rintro _ _ ⟨rfl, rfl⟩
                    refine hT _ _ byPart ?_; clear hT; clear T
                    (first | refine KD.v0 rfl rfl (Val.conv rfl rfl rfl (by simp only [Go.Proofs.Ytdkanfjpdnjhcaa.lo, Go.Proofs.Ytdkanfjpdnjhcaa.hi]; omega)) ?_ | refine KD.v0 rfl rfl (Val.convW rfl rfl rfl) ?_)
                    refine KD.v0 rfl rfl (Val.build byParts rfl rfl byFill) ?_
                    (first | (refine KD.eN rfl (Eff.storeAL rfl rfl rfl byTake byLay byOnes) ?_; rintro _ _ rfl; refine ⟨byPart, ?_⟩) | (refine KD.eN rfl (Eff.stSlA rfl rfl rfl rfl byTakeL (by assumption) (by assumption)) ?_; rintro _ _ rfl; refine ⟨byPart, ?_⟩))
                    refine KD.nil ?_
                    rw [hact]
                    refine byCode ?_
                    exact KE.meet b7 bySub byPart trivial
                · (refine ActK.e rfl (Eff.alloc rfl) ?_; rintro _ _ ⟨b7, rfl, rfl⟩; refine ⟨byPart, ?_⟩)
                  refine KD.callc rfl rfl rfl byEvL fun T hT => ?_
                  refine (CallV.fn (number_K (c := ch) (i := 5) rfl (by omega) (by omega))).mono ?_
                  rintro _ _ ⟨rfl, rfl⟩
                  refine hT _ _ byPart ?_; clear hT; clear T
                  (first | refine KD.v1 rfl rfl (Val.conv rfl rfl rfl (by simp only [Go.Proofs.Ytdkanfjpdnjhcaa.lo, Go.Proofs.Ytdkanfjpdnjhcaa.hi]; omega)) ?_ | refine KD.v1 rfl rfl (Val.convW rfl rfl rfl) ?_)
                  refine KD.callc rfl rfl rfl byEvL fun T hT => ?_
                  refine (CallV.fn (number_K (c := ch) (i := 6) rfl (by omega) (by omega))).mono ?_
                  rintro _ _ ⟨rfl, rfl⟩
                  refine hT _ _ byPart ?_; clear hT; clear T
                  (first | refine KD.v0 rfl rfl (Val.conv rfl rfl rfl (by simp only [Go.Proofs.Ytdkanfjpdnjhcaa.lo, Go.Proofs.Ytdkanfjpdnjhcaa.hi]; omega)) ?_ | refine KD.v0 rfl rfl (Val.convW rfl rfl rfl) ?_)
                  refine KD.v0 rfl rfl (Val.build byParts rfl rfl byFill) ?_
                  (first | (refine KD.eN rfl (Eff.storeAL rfl rfl rfl byTake byLay byOnes) ?_; rintro _ _ rfl; refine ⟨byPart, ?_⟩) | (refine KD.eN rfl (Eff.stSlA rfl rfl rfl rfl byTakeL (by assumption) (by assumption)) ?_; rintro _ _ rfl; refine ⟨byPart, ?_⟩))
                  refine KD.nil ?_
                  rw [hact]
                  refine byCode ?_
                  exact KE.meet b7 bySub byPart trivial
              · (refine ActK.e rfl (Eff.alloc rfl) ?_; rintro _ _ ⟨b7, rfl, rfl⟩; refine ⟨byPart, ?_⟩)
                refine KD.callc rfl rfl rfl byEvL fun T hT => ?_
                refine (CallV.fn (number_K (c := ch) (i := 4) rfl (by omega) (by omega))).mono ?_
                rintro _ _ ⟨rfl, rfl⟩
                refine hT _ _ byPart ?_; clear hT; clear T
                (first | refine KD.v1 rfl rfl (Val.conv rfl rfl rfl (by simp only [Go.Proofs.Ytdkanfjpdnjhcaa.lo, Go.Proofs.Ytdkanfjpdnjhcaa.hi]; omega)) ?_ | refine KD.v1 rfl rfl (Val.convW rfl rfl rfl) ?_)
                refine KD.callc rfl rfl rfl byEvL fun T hT => ?_
                refine (CallV.fn (number_K (c := ch) (i := 5) rfl (by omega) (by omega))).mono ?_
                rintro _ _ ⟨rfl, rfl⟩
                refine hT _ _ byPart ?_; clear hT; clear T
                (first | refine KD.v1 rfl rfl (Val.conv rfl rfl rfl (by simp only [Go.Proofs.Ytdkanfjpdnjhcaa.lo, Go.Proofs.Ytdkanfjpdnjhcaa.hi]; omega)) ?_ | refine KD.v1 rfl rfl (Val.convW rfl rfl rfl) ?_)
                refine KD.callc rfl rfl rfl byEvL fun T hT => ?_
                refine (CallV.fn (number_K (c := ch) (i := 6) rfl (by omega) (by omega))).mono ?_
                rintro _ _ ⟨rfl, rfl⟩
                refine hT _ _ byPart ?_; clear hT; clear T
                (first | refine KD.v0 rfl rfl (Val.conv rfl rfl rfl (by simp only [Go.Proofs.Ytdkanfjpdnjhcaa.lo, Go.Proofs.Ytdkanfjpdnjhcaa.hi]; omega)) ?_ | refine KD.v0 rfl rfl (Val.convW rfl rfl rfl) ?_)
                refine KD.v0 rfl rfl (Val.build byParts rfl rfl byFill) ?_
                (first | (refine KD.eN rfl (Eff.storeAL rfl rfl rfl byTake byLay byOnes) ?_; rintro _ _ rfl; refine ⟨byPart, ?_⟩) | (refine KD.eN rfl (Eff.stSlA rfl rfl rfl rfl byTakeL (by assumption) (by assumption)) ?_; rintro _ _ rfl; refine ⟨byPart, ?_⟩))
                refine KD.nil ?_
                rw [hact]
                refine byCode ?_
                exact KE.meet b7 bySub byPart trivial
            · (refine ActK.e rfl (Eff.alloc rfl) ?_; rintro _ _ ⟨b7, rfl, rfl⟩; refine ⟨byPart, ?_⟩)
              refine KD.callc rfl rfl rfl byEvL fun T hT => ?_
              refine (CallV.fn (number_K (c := ch) (i := 3) rfl (by omega) (by omega))).mono ?_
              rintro _ _ ⟨rfl, rfl⟩
              refine hT _ _ byPart ?_; clear hT; clear T
              (first | refine KD.v1 rfl rfl (Val.conv rfl rfl rfl (by simp only [Go.Proofs.Ytdkanfjpdnjhcaa.lo, Go.Proofs.Ytdkanfjpdnjhcaa.hi]; omega)) ?_ | refine KD.v1 rfl rfl (Val.convW rfl rfl rfl) ?_)
              refine KD.callc rfl rfl rfl byEvL fun T hT => ?_
              refine (CallV.fn (number_K (c := ch) (i := 4) rfl (by omega) (by omega))).mono ?_
              rintro _ _ ⟨rfl, rfl⟩
              refine hT _ _ byPart ?_; clear hT; clear T
              (first | refine KD.v1 rfl rfl (Val.conv rfl rfl rfl (by simp only [Go.Proofs.Ytdkanfjpdnjhcaa.lo, Go.Proofs.Ytdkanfjpdnjhcaa.hi]; omega)) ?_ | refine KD.v1 rfl rfl (Val.convW rfl rfl rfl) ?_)
              refine KD.callc rfl rfl rfl byEvL fun T hT => ?_
              refine (CallV.fn (number_K (c := ch) (i := 5) rfl (by omega) (by omega))).mono ?_
              rintro _ _ ⟨rfl, rfl⟩
              refine hT _ _ byPart ?_; clear hT; clear T
              (first | refine KD.v1 rfl rfl (Val.conv rfl rfl rfl (by simp only [Go.Proofs.Ytdkanfjpdnjhcaa.lo, Go.Proofs.Ytdkanfjpdnjhcaa.hi]; omega)) ?_ | refine KD.v1 rfl rfl (Val.convW rfl rfl rfl) ?_)
              refine KD.callc rfl rfl rfl byEvL fun T hT => ?_
              refine (CallV.fn (number_K (c := ch) (i := 6) rfl (by omega) (by omega))).mono ?_
              rintro _ _ ⟨rfl, rfl⟩
              refine hT _ _ byPart ?_; clear hT; clear T
              (first | refine KD.v0 rfl rfl (Val.conv rfl rfl rfl (by simp only [Go.Proofs.Ytdkanfjpdnjhcaa.lo, Go.Proofs.Ytdkanfjpdnjhcaa.hi]; omega)) ?_ | refine KD.v0 rfl rfl (Val.convW rfl rfl rfl) ?_)
              refine KD.v0 rfl rfl (Val.build byParts rfl rfl byFill) ?_
              (first | (refine KD.eN rfl (Eff.storeAL rfl rfl rfl byTake byLay byOnes) ?_; rintro _ _ rfl; refine ⟨byPart, ?_⟩) | (refine KD.eN rfl (Eff.stSlA rfl rfl rfl rfl byTakeL (by assumption) (by assumption)) ?_; rintro _ _ rfl; refine ⟨byPart, ?_⟩))
              refine KD.nil ?_
              rw [hact]
              refine byCode ?_
              exact KE.meet b7 bySub byPart trivial
          · (refine ActK.e rfl (Eff.alloc rfl) ?_; rintro _ _ ⟨b7, rfl, rfl⟩; refine ⟨byPart, ?_⟩)
            refine KD.callc rfl rfl rfl byEvL fun T hT => ?_
            refine (CallV.fn (number_K (c := ch) (i := 2) rfl (by omega) (by omega))).mono ?_
            rintro _ _ ⟨rfl, rfl⟩
            refine hT _ _ byPart ?_; clear hT; clear T
            refine KD.callc rfl rfl rfl byEvL fun T hT => ?_
            refine (CallV.fn (number_K (c := ch) (i := 3) rfl (by omega) (by omega))).mono ?_
            rintro _ _ ⟨rfl, rfl⟩
            refine hT _ _ byPart ?_; clear hT; clear T
            (first | refine KD.v1 rfl rfl (Val.conv rfl rfl rfl (by simp only [Go.Proofs.Ytdkanfjpdnjhcaa.lo, Go.Proofs.Ytdkanfjpdnjhcaa.hi]; omega)) ?_ | refine KD.v1 rfl rfl (Val.convW rfl rfl rfl) ?_)
            refine KD.callc rfl rfl rfl byEvL fun T hT => ?_
            refine (CallV.fn (number_K (c := ch) (i := 4) rfl (by omega) (by omega))).mono ?_
            rintro _ _ ⟨rfl, rfl⟩
            refine hT _ _ byPart ?_; clear hT; clear T
            (first | refine KD.v1 rfl rfl (Val.conv rfl rfl rfl (by simp only [Go.Proofs.Ytdkanfjpdnjhcaa.lo, Go.Proofs.Ytdkanfjpdnjhcaa.hi]; omega)) ?_ | refine KD.v1 rfl rfl (Val.convW rfl rfl rfl) ?_)
            refine KD.callc rfl rfl rfl byEvL fun T hT => ?_
            refine (CallV.fn (number_K (c := ch) (i := 5) rfl (by omega) (by omega))).mono ?_
            rintro _ _ ⟨rfl, rfl⟩
            refine hT _ _ byPart ?_; clear hT; clear T
            (first | refine KD.v1 rfl rfl (Val.conv rfl rfl rfl (by simp only [Go.Proofs.Ytdkanfjpdnjhcaa.lo, Go.Proofs.Ytdkanfjpdnjhcaa.hi]; omega)) ?_ | refine KD.v1 rfl rfl (Val.convW rfl rfl rfl) ?_)
            refine KD.callc rfl rfl rfl byEvL fun T hT => ?_
            refine (CallV.fn (number_K (c := ch) (i := 6) rfl (by omega) (by omega))).mono ?_
            rintro _ _ ⟨rfl, rfl⟩
            refine hT _ _ byPart ?_; clear hT; clear T
            (first | refine KD.v0 rfl rfl (Val.conv rfl rfl rfl (by simp only [Go.Proofs.Ytdkanfjpdnjhcaa.lo, Go.Proofs.Ytdkanfjpdnjhcaa.hi]; omega)) ?_ | refine KD.v0 rfl rfl (Val.convW rfl rfl rfl) ?_)
            refine KD.v0 rfl rfl (Val.build byParts rfl rfl byFill) ?_
            (first | (refine KD.eN rfl (Eff.storeAL rfl rfl rfl byTake byLay byOnes) ?_; rintro _ _ rfl; refine ⟨byPart, ?_⟩) | (refine KD.eN rfl (Eff.stSlA rfl rfl rfl rfl byTakeL (by assumption) (by assumption)) ?_; rintro _ _ rfl; refine ⟨byPart, ?_⟩))
            refine KD.nil ?_
            rw [hact]
            refine byCode ?_
            exact KE.meet b7 bySub byPart trivial
        · (refine ActK.e rfl (Eff.alloc rfl) ?_; rintro _ _ ⟨b7, rfl, rfl⟩; refine ⟨byPart, ?_⟩)
          refine KD.callc rfl rfl rfl byEvL fun T hT => ?_
          refine (CallV.fn (number_K (c := ch) (i := 1) rfl (by omega) (by omega))).mono ?_
          rintro _ _ ⟨rfl, rfl⟩
          refine hT _ _ byPart ?_; clear hT; clear T
          refine KD.callc rfl rfl rfl byEvL fun T hT => ?_
          refine (CallV.fn (number_K (c := ch) (i := 2) rfl (by omega) (by omega))).mono ?_
          rintro _ _ ⟨rfl, rfl⟩
          refine hT _ _ byPart ?_; clear hT; clear T
          refine KD.callc rfl rfl rfl byEvL fun T hT => ?_
          refine (CallV.fn (number_K (c := ch) (i := 3) rfl (by omega) (by omega))).mono ?_
          rintro _ _ ⟨rfl, rfl⟩
          refine hT _ _ byPart ?_; clear hT; clear T
          (first | refine KD.v1 rfl rfl (Val.conv rfl rfl rfl (by simp only [Go.Proofs.Ytdkanfjpdnjhcaa.lo, Go.Proofs.Ytdkanfjpdnjhcaa.hi]; omega)) ?_ | refine KD.v1 rfl rfl (Val.convW rfl rfl rfl) ?_)
          refine KD.callc rfl rfl rfl byEvL fun T hT => ?_
          refine (CallV.fn (number_K (c := ch) (i := 4) rfl (by omega) (by omega))).mono ?_
          rintro _ _ ⟨rfl, rfl⟩
          refine hT _ _ byPart ?_; clear hT; clear T
          (first | refine KD.v1 rfl rfl (Val.conv rfl rfl rfl (by simp only [Go.Proofs.Ytdkanfjpdnjhcaa.lo, Go.Proofs.Ytdkanfjpdnjhcaa.hi]; omega)) ?_ | refine KD.v1 rfl rfl (Val.convW rfl rfl rfl) ?_)
          refine KD.callc rfl rfl rfl byEvL fun T hT => ?_
          refine (CallV.fn (number_K (c := ch) (i := 5) rfl (by omega) (by omega))).mono ?_
          rintro _ _ ⟨rfl, rfl⟩
          refine hT _ _ byPart ?_; clear hT; clear T
          (first | refine KD.v1 rfl rfl (Val.conv rfl rfl rfl (by simp only [Go.Proofs.Ytdkanfjpdnjhcaa.lo, Go.Proofs.Ytdkanfjpdnjhcaa.hi]; omega)) ?_ | refine KD.v1 rfl rfl (Val.convW rfl rfl rfl) ?_)
          refine KD.callc rfl rfl rfl byEvL fun T hT => ?_
          refine (CallV.fn (number_K (c := ch) (i := 6) rfl (by omega) (by omega))).mono ?_
          rintro _ _ ⟨rfl, rfl⟩
          refine hT _ _ byPart ?_; clear hT; clear T
          (first | refine KD.v0 rfl rfl (Val.conv rfl rfl rfl (by simp only [Go.Proofs.Ytdkanfjpdnjhcaa.lo, Go.Proofs.Ytdkanfjpdnjhcaa.hi]; omega)) ?_ | refine KD.v0 rfl rfl (Val.convW rfl rfl rfl) ?_)
          refine KD.v0 rfl rfl (Val.build byParts rfl rfl byFill) ?_
          (first | (refine KD.eN rfl (Eff.storeAL rfl rfl rfl byTake byLay byOnes) ?_; rintro _ _ rfl; refine ⟨byPart, ?_⟩) | (refine KD.eN rfl (Eff.stSlA rfl rfl rfl rfl byTakeL (by assumption) (by assumption)) ?_; rintro _ _ rfl; refine ⟨byPart, ?_⟩))
          refine KD.nil ?_
          rw [hact]
          refine byCode ?_
          exact KE.meet b7 bySub byPart trivial
      · (refine ActK.e rfl (Eff.alloc rfl) ?_; rintro _ _ ⟨b7, rfl, rfl⟩; refine ⟨byPart, ?_⟩)
        refine KD.callc rfl rfl rfl byEvL fun T hT => ?_
        refine (CallV.fn (number_K (c := ch) (i := 0) rfl (by omega) (by omega))).mono ?_
        rintro _ _ ⟨rfl, rfl⟩
        refine hT _ _ byPart ?_; clear hT; clear T
        (first | refine KD.v1 rfl rfl (Val.conv rfl rfl rfl (by simp only [Go.Proofs.Ytdkanfjpdnjhcaa.lo, Go.Proofs.Ytdkanfjpdnjhcaa.hi]; omega)) ?_ | refine KD.v1 rfl rfl (Val.convW rfl rfl rfl) ?_)
        refine KD.callc rfl rfl rfl byEvL fun T hT => ?_
        refine (CallV.fn (number_K (c := ch) (i := 1) rfl (by omega) (by omega))).mono ?_
        rintro _ _ ⟨rfl, rfl⟩
        refine hT _ _ byPart ?_; clear hT; clear T
        refine KD.callc rfl rfl rfl byEvL fun T hT => ?_
        refine (CallV.fn (number_K (c := ch) (i := 2) rfl (by omega) (by omega))).mono ?_
        rintro _ _ ⟨rfl, rfl⟩
        refine hT _ _ byPart ?_; clear hT; clear T
        refine KD.callc rfl rfl rfl byEvL fun T hT => ?_
        refine (CallV.fn (number_K (c := ch) (i := 3) rfl (by omega) (by omega))).mono ?_
        rintro _ _ ⟨rfl, rfl⟩
        refine hT _ _ byPart ?_; clear hT; clear T
        (first | refine KD.v1 rfl rfl (Val.conv rfl rfl rfl (by simp only [Go.Proofs.Ytdkanfjpdnjhcaa.lo, Go.Proofs.Ytdkanfjpdnjhcaa.hi]; omega)) ?_ | refine KD.v1 rfl rfl (Val.convW rfl rfl rfl) ?_)
        refine KD.callc rfl rfl rfl byEvL fun T hT => ?_
        refine (CallV.fn (number_K (c := ch) (i := 4) rfl (by omega) (by omega))).mono ?_
        rintro _ _ ⟨rfl, rfl⟩
        refine hT _ _ byPart ?_; clear hT; clear T
        (first | refine KD.v1 rfl rfl (Val.conv rfl rfl rfl (by simp only [Go.Proofs.Ytdkanfjpdnjhcaa.lo, Go.Proofs.Ytdkanfjpdnjhcaa.hi]; omega)) ?_ | refine KD.v1 rfl rfl (Val.convW rfl rfl rfl) ?_)
        refine KD.callc rfl rfl rfl byEvL fun T hT => ?_
        refine (CallV.fn (number_K (c := ch) (i := 5) rfl (by omega) (by omega))).mono ?_
        rintro _ _ ⟨rfl, rfl⟩
        refine hT _ _ byPart ?_; clear hT; clear T
        (first | refine KD.v1 rfl rfl (Val.conv rfl rfl rfl (by simp only [Go.Proofs.Ytdkanfjpdnjhcaa.lo, Go.Proofs.Ytdkanfjpdnjhcaa.hi]; omega)) ?_ | refine KD.v1 rfl rfl (Val.convW rfl rfl rfl) ?_)
        refine KD.callc rfl rfl rfl byEvL fun T hT => ?_
        refine (CallV.fn (number_K (c := ch) (i := 6) rfl (by omega) (by omega))).mono ?_
        rintro _ _ ⟨rfl, rfl⟩
        refine hT _ _ byPart ?_; clear hT; clear T
        (first | refine KD.v0 rfl rfl (Val.conv rfl rfl rfl (by simp only [Go.Proofs.Ytdkanfjpdnjhcaa.lo, Go.Proofs.Ytdkanfjpdnjhcaa.hi]; omega)) ?_ | refine KD.v0 rfl rfl (Val.convW rfl rfl rfl) ?_)
        refine KD.v0 rfl rfl (Val.build byParts rfl rfl byFill) ?_
        (first | (refine KD.eN rfl (Eff.storeAL rfl rfl rfl byTake byLay byOnes) ?_; rintro _ _ rfl; refine ⟨byPart, ?_⟩) | (refine KD.eN rfl (Eff.stSlA rfl rfl rfl rfl byTakeL (by assumption) (by assumption)) ?_; rintro _ _ rfl; refine ⟨byPart, ?_⟩))
        refine KD.nil ?_
        rw [hact]
        refine byCode ?_
        exact KE.meet b7 bySub byPart trivial
    · intro b7 _
      by_cases hx1 : x.toNat ≤ 1
      · have hst := get_step (c := c.drop (57 * k)) (by simp; omega) hdx hx1
        have heq : oneB26 (oneS ch) = ch := one_oneS hchl (by
          rw [hx]
          rcases (show x.toNat = 0 ∨ x.toNat = 1 by omega) with h | h
          · left; congr 1; apply UInt8.toNat.inj; exact h
          · right; congr 1; apply UInt8.toNat.inj; exact h)
        have hneq : ¬ oneB26 (oneS ch) ≠ ch := fun h => h heq
        have hz : (xs ++ [oneS ch]).length ≤ 4294967296 := by simp; omega
        refine byCode ?_
        (first | (refine KL.v rfl (Val.loadAP rfl rfl rfl bySeeA) ?_) | (refine KL.v rfl (Val.loadA rfl rfl rfl bySeeN) ?_))
        (refine KL.callc rfl rfl byEvL fun T hT => ?_)
        refine (CallV.fn (One_K (oneS_ok ch))).mono ?_
        rintro _ _ ⟨rfl, rfl⟩
        refine hT _ _ ?_; clear hT; clear T
        (refine KL.v rfl (Val.move rfl) ?_)
        (first | (refine KL.v rfl (Val.isT (Val.neqBs rfl rfl) byLt) ?_) | (refine KL.v rfl (Val.isF (Val.neqBs rfl rfl) byLt) ?_) | (refine KL.v rfl (Val.neqBs rfl rfl) ?_) | (refine KL.v rfl (Val.isT (Val.neqS rfl rfl) byLt) ?_) | (refine KL.v rfl (Val.isF (Val.neqS rfl rfl) byLt) ?_) | (refine KL.v rfl (Val.neqS rfl rfl) ?_))
        refine KL.nil ?_
        refine byCode ?_
        (refine KL.v rfl (Val.move rfl) ?_)
        (first | (refine KL.v rfl (Val.loadAP rfl rfl rfl bySeeA) ?_) | (refine KL.v rfl (Val.loadA rfl rfl rfl bySeeN) ?_))
        (refine KL.e rfl (Eff.buildS byParts rfl rfl rfl rfl rfl byFill) ?_; rintro _ _ ⟨b52, rfl, rfl⟩)
        -- STOP at region 11 op 3: {"h": "Op.call", "a": [{"callee": {"h": "Callee.builtin", "a": ["Builtin.append"]}, "args": [{"h": "Operand.tmp", "a": [50]}, {"h": "Operand.tmp", "a": [52]}], "argTypes": [22, 22]}]}
        (refine KL.e rfl (Eff.appZ (E := sE) (xs := xs) (o := o) (ys := [oneS ch]) (zs := xs ++ [oneS ch]) rfl rfl rfl rfl rfl rfl byTakeL (by assumption) (by first | exact Sli.blk byTake rfl (by first | decide | simp) (by first | decide | (unfold maxLen; omega)) rfl | exact Sli.old (by assumption) | exact Sli.own byTakeL (by assumption) byLen | assumption | exact Sli.part (by assumption) byPart) (rfl) (by first | assumption | omega | (simp <;> fail) | (simp; omega)) rfl) ?_; rintro _ _ ⟨o', ok', rfl, rfl⟩)
        (refine KL.v rfl (Val.assign rfl) ?_)
        refine KL.nil ?_
        refine byCode ?_
        (refine KL.v rfl (Val.move rfl) ?_)
        (first | (refine KL.v rfl (Val.add rfl rfl (by simp only [Go.Proofs.Ytdkanfjpdnjhcaa.lo, Go.Proofs.Ytdkanfjpdnjhcaa.hi]; omega)) ?_) | (refine KL.v rfl (Val.addW rfl rfl) ?_))
        (refine KL.v rfl (Val.assign rfl) ?_)
        refine KL.nil ?_
        exact KE.again ⟨k + 1, xs ++ [oneS ch], o'⟩ bySub byPart ⟨by show 57 * (k + 1) ≤ _; omega, by show (xs ++ [oneS ch]).length = k + 1; simp; omega, ok', by
          show get c = (get (c.drop (57 * (k + 1)))).map ((xs ++ [oneS ch]) ++ ·)
          rw [hg, hst, hone, List.drop_drop, show 57 * k + 57 = 57 * (k + 1) by omega]
          cases get (c.drop (57 * (k + 1))) <;> simp⟩ (by show c.length - 57 * (k + 1) < c.length - 57 * k; omega)
      · have hb := get_bad (c := c.drop (57 * k)) (by intro h; have := congrArg List.length h; simp at this; omega) (.inr ⟨x, hdx, by omega⟩)
        have hneq : oneB26 (oneS ch) ≠ ch := one_ne hx (by omega) _
        have hP : getP c = ([], 5) := by unfold getP; rw [hg, hb]; rfl
        rw [hP]
        refine byCode ?_
        (first | (refine KL.v rfl (Val.loadAP rfl rfl rfl bySeeA) ?_) | (refine KL.v rfl (Val.loadA rfl rfl rfl bySeeN) ?_))
        (refine KL.callc rfl rfl byEvL fun T hT => ?_)
        refine (CallV.fn (One_K (oneS_ok ch))).mono ?_
        rintro _ _ ⟨rfl, rfl⟩
        refine hT _ _ ?_; clear hT; clear T
        (refine KL.v rfl (Val.move rfl) ?_)
        (first | (refine KL.v rfl (Val.isT (Val.neqBs rfl rfl) byLt) ?_) | (refine KL.v rfl (Val.isF (Val.neqBs rfl rfl) byLt) ?_) | (refine KL.v rfl (Val.neqBs rfl rfl) ?_) | (refine KL.v rfl (Val.isT (Val.neqS rfl rfl) byLt) ?_) | (refine KL.v rfl (Val.isF (Val.neqS rfl rfl) byLt) ?_) | (refine KL.v rfl (Val.neqS rfl rfl) ?_))
        refine KL.nil ?_
        refine byCode ?_
        (refine KL.v rfl (Val.assign rfl) ?_)
        (refine KL.v rfl (Val.assign rfl) ?_)
        refine KL.nil ?_
        refine byCode ?_
        exact KE.fin byMarks rfl byRes byPart ⟨none, rfl, rfl, rfl⟩
  · have hd : c.drop (57 * k) = [] := List.drop_of_length_le (by omega)
    rw [hd, get_nil] at hg
    have hP : getP c = (xs, 0) := by unfold getP; rw [hg]; simp
    rw [hP]
    refine byCode ?_
    (refine KL.v rfl (Val.move rfl) ?_)
    (refine KL.v rfl (Val.move rfl) ?_)
    (refine KL.v rfl (Val.lenB rfl rfl) ?_)
    (first | (refine KL.v rfl (Val.isT (Val.lss rfl rfl) byLt) ?_) | (refine KL.v rfl (Val.isF (Val.lss rfl rfl) byLt) ?_) | (refine KL.v rfl (Val.lss rfl rfl) ?_))
    refine KL.nil ?_
    refine byCode ?_
    (refine KL.v rfl (Val.move rfl) ?_)
    (refine KL.v rfl (Val.assign rfl) ?_)
    (refine KL.v rfl (Val.assign rfl) ?_)
    refine KL.nil ?_
    refine byCode ?_
    exact KE.fin byMarks rfl byRes byPart ⟨o, ok, rfl, rfl⟩
end Go.Proofs.Ytdkanfjpdnjhcaa
