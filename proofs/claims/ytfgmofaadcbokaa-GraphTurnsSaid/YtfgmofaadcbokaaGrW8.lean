/- Graph: Repeat, Min, Mul; Depths and Reach. -/
import Derived.Test.YtfgmofaadcbokaaGrW7
import Derived.Test.YtfgmofaadcbokaaKC
import Derived.Test.YtfgmofaadcbokaaGrR1
namespace Go.Proofs.Ytfgmofaadcbokaa
open Go.RowKit
set_option linter.unusedVariables false
set_option linter.unusedSimpArgs false

theorem Mul_K {w0 : World} {H : Heap} (x y : Nat) (hx : x < 18446744073709551616) (hy : y < 18446744073709551616) :
    Call Try.prog w0 37 [.int .u64 x, .int .u64 y] H (fun r H' => r = .tuple #[.int .u64 ((x * y / 18446744073709551616 : Nat) : Int), .int .u64 ((x * y % 18446744073709551616 : Nat) : Int)] ∧ H' = H) := by
  refine ⟨by kernel_rfl, fun w hw => ?_⟩
  refine (Try.bits_Mul x y hx hy w).mono ?_
  rintro e w' ⟨he, rfl⟩
  exact ⟨_, _, he, hw, rfl, rfl⟩

structure RpS where
  k : Nat
  zs : List Int

theorem copied_rep {n k j : Nat} {z : Int} {zs : List Int} (h : zs.length = n) (hk : k ≤ n) (ht : zs.take k = List.replicate k z) {ys : List Int} (hy : ys = List.replicate j z) :
    (copied zs ys k).length = n ∧ (copied zs ys k).take (k + min j (n - k)) = List.replicate (k + min j (n - k)) z := by
  subst hy
  unfold copied
  have e0 : min (min j (n - k)) j = min j (n - k) := by omega
  simp only [List.length_replicate, h, List.take_replicate, ht, e0]
  constructor
  · simp; omega
  · rw [List.take_append_of_le_length (by simp), List.take_of_length_le (by simp), List.replicate_append_replicate]

set_option maxRecDepth 10000 in
set_option maxHeartbeats 1000000 in
theorem Repeat_K {w0 : World} {H : Heap} {v : Value} {z : Int} {n : Nat} (hS : Sli w0 H iE v [z]) (hn : n ≤ 100000) :
    Call Try.prog w0 24 [v, .int .i64 (n : Nat)] H (fun r H' => ∃ o, oOk iE (List.replicate n z) o ∧ r = oV o (List.replicate n z).length ∧ H' = oH iE 3 (List.replicate n z) o ++ H) := by
  refine Call.enter2 (n := 48) (by kernel_rfl) Try.func24 rfl rfl rfl ?_
  refine K.seq ?_
  refine K.region ?_
  (refine KL.v rfl (Val.assign rfl) ?_)
  refine KL.nil ?_
  refine KE.next ?_
  refine K.seq ?_
  refine K.seq ?_
  refine K.region ?_
  (refine KL.v rfl (Val.move rfl) ?_)
  (refine KL.v rfl (Val.isF (Val.lss rfl rfl) byLt) ?_)
  refine KL.nil ?_
  refine KE.next ?_
  refine K.condF rfl ?_
  refine K.skip ?_
  refine KE.next ?_
  refine K.seq ?_
  refine K.region ?_
  (refine KL.v rfl (Val.move rfl) ?_)
  (refine KL.v rfl (Val.lenSl rfl rfl bySli) ?_)
  (refine KL.v rfl (Val.convW rfl rfl rfl) ?_)
  (refine KL.v rfl (Val.move rfl) ?_)
  (refine KL.v rfl (Val.conv rfl rfl rfl (by simp only [Go.Proofs.Ytfgmofaadcbokaa.lo, Go.Proofs.Ytfgmofaadcbokaa.hi]; omega)) ?_)
  (refine KL.callc rfl rfl byEvL fun T hT => ?_)
  refine (CallV.fn (Mul_K 1 n (by omega) (by omega))).mono ?_
  rintro _ H ⟨rfl, rfl⟩
  have e1 : 1 * n / 18446744073709551616 = 0 := by omega
  have e2 : 1 * n % 18446744073709551616 = n := by omega
  rw [e1, e2]
  refine hT _ _ ?_; clear hT; clear T
  (refine KL.v rfl (Val.move rfl) ?_)
  (refine KL.v rfl (Val.extract rfl rfl) ?_)
  (refine KL.v rfl (Val.extract rfl rfl) ?_)
  (refine KL.v rfl (Val.assign rfl) ?_)
  (refine KL.v rfl (Val.assign rfl) ?_)
  refine KL.nil ?_
  refine KE.next ?_
  refine K.seq ?_
  refine K.seq ?_
  refine K.region ?_
  (refine KL.v rfl (Val.move rfl) ?_)
  (refine KL.v rfl (Val.isF (Val.gtr rfl rfl) byLt) ?_)
  (refine KL.v rfl (Val.move rfl) ?_)
  (refine KL.yes rfl rfl ?_; refine KL.v rfl (Val.move rfl) ?_)
  (refine KL.yes rfl rfl ?_; refine KL.v rfl (Val.isF (Val.gtr rfl rfl) byLt) ?_)
  (refine KL.v rfl (Val.pickF rfl rfl rfl) ?_)
  refine KL.nil ?_
  refine KE.next ?_
  refine K.condF rfl ?_
  refine K.skip ?_
  refine KE.next ?_
  refine K.seq ?_
  refine K.region ?_
  (refine KL.v rfl (Val.move rfl) ?_)
  (refine KL.v rfl (Val.conv rfl rfl rfl (by simp only [Go.Proofs.Ytfgmofaadcbokaa.lo, Go.Proofs.Ytfgmofaadcbokaa.hi]; omega)) ?_)
  (refine KL.e rfl (Eff.makeR (E := iE) (x0 := 0) rfl rfl rfl rfl rfl rfl (by first | assumption | omega | (simp <;> fail) | (simp; omega))) ?_; rintro _ _ ⟨o30, ok30, rfl, rfl⟩)
  (refine KL.v rfl (Val.assign rfl) ?_)
  refine KL.nil ?_
  refine KE.next ?_
  refine K.seq ?_
  refine K.region ?_
  (refine KL.v rfl (Val.move rfl) ?_)
  (refine KL.v rfl (Val.move rfl) ?_)
  (refine KL.e rfl (Eff.copyS0 rfl rfl rfl rfl byTakeL (by assumption) (by first | exact Sli.blk byTake rfl (by first | decide | simp) (by first | decide | (unfold maxLen; omega)) rfl | exact Sli.old (by assumption) | exact Sli.own byTakeL (by assumption) byLen | assumption | exact Sli.part (by assumption) byPart)) ?_; rintro _ _ ⟨rfl, ok33, rfl⟩)
  (refine KL.v rfl (Val.assign rfl) ?_)
  refine KL.nil ?_
  refine KE.next ?_
  refine K.seq ?_
  refine K.block ?_
  have hc0 := copied_rep (k := 0) (j := 1) (z := z) (zs := List.replicate n 0) (n := n) (by simp) (by omega) (by simp) (ys := [z]) rfl
  refine K.loopT (σ := RpS) [] (fun s r => (8, .int .i64 (s.k : Nat)) :: (7, oV o30 s.zs.length) :: r) (fun s => oH iE 3 s.zs o30 ++ H) (fun s => s.zs.length = n ∧ s.k ≤ n ∧ s.zs.take s.k = List.replicate s.k z ∧ oOk iE s.zs o30 ∧ (s.k = 0 → n = 0)) (fun s => n - s.k) (⟨min 1 n, copied (List.replicate n 0) [z] 0⟩) bySub byPart (⟨hc0.1, by dsimp only; omega, by have := hc0.2; simpa using this, ok33, by dsimp only; omega⟩) ?_
  rintro ⟨k, zs⟩ ⟨hl, hk, ht, ok, h0⟩
  dsimp only at hl hk ht ok h0 ⊢
  by_cases hlt : k < n
  · have hkl : k ≤ zs.length := by omega
    have hkl' : k < zs.length := by omega
    have hsli : Sli w0 (oH iE 3 zs o30 ++ H) iE (oV o30 zs.length) zs := Sli.own TakeL.head ok rfl
    refine K.seq ?_
    refine K.seq ?_
    refine K.region ?_
    (refine KL.v rfl (Val.move rfl) ?_)
    (refine KL.v rfl (Val.move rfl) ?_)
    (refine KL.v rfl (Val.lenSl rfl rfl bySli) ?_)
    (refine KL.v rfl (Val.isT (Val.lss rfl rfl) byLt) ?_)
    refine KL.nil ?_
    refine KE.next ?_
    refine K.condT rfl ?_
    refine K.skip ?_
    refine KE.next ?_
    refine K.block ?_
    refine byCodeD ?_
    (first | refine K.seq (K.drawn (H) [(0, 1), (1, 0), (2, 0), (3, 0), (4, 0), (5, 0), (6, 0), (7, 2), (8, 0), (9, 0)] (by kernel_rfl) (by kernel_rfl) (by kernel_rfl) (by kernel_rfl) (by kernel_rfl) (by kernel_rfl) byPart ?_) | refine K.seq (K.seq (K.drawn (H) [(0, 1), (1, 0), (2, 0), (3, 0), (4, 0), (5, 0), (6, 0), (7, 2), (8, 0), (9, 0)] (by kernel_rfl) (by kernel_rfl) (by kernel_rfl) (by kernel_rfl) (by kernel_rfl) (by kernel_rfl) byPart ?_)) | refine K.drawn (H) [(0, 1), (1, 0), (2, 0), (3, 0), (4, 0), (5, 0), (6, 0), (7, 2), (8, 0), (9, 0)] (by kernel_rfl) (by kernel_rfl) (by kernel_rfl) (by kernel_rfl) (by kernel_rfl) (by kernel_rfl) byPart ?_)
    refine KD.v1 rfl rfl (Val.move rfl) ?_
    refine KD.v0 rfl rfl (Val.move rfl) ?_
    refine KD.v0 rfl rfl (Val.move rfl) ?_
    (first | refine KD.v0 rfl rfl (Val.sliceL rfl rfl rfl bySli rfl byLt) ?_ | refine KD.v0 rfl rfl (Val.sliceLZ rfl rfl rfl bySli rfl (by omega)) ?_)
    refine KD.v0 rfl rfl (Val.move rfl) ?_
    refine KD.v0 rfl rfl (Val.move rfl) ?_
    refine KD.v0 rfl rfl (Val.sliceH rfl rfl rfl bySli rfl byLt) ?_
    -- STOP before op 7
    (refine KD.e rfl rfl (Eff.copyS (E := iE) (xs := zs) (ys := (zs.take k).drop 0) (o := o30) (i := k) rfl rfl rfl rfl rfl hkl TakeL.head ok (hsli.sub (Nat.zero_le _) hkl)) ?_; rintro _ _ ⟨rfl, ok', rfl⟩; refine ⟨byPart, ?_⟩)
    have hys : (zs.take k).drop 0 = List.replicate k z := by simpa using ht
    have hc := copied_rep (j := k) hl hk ht hys
    rw [hys] at ok' hc ⊢
    simp only [List.length_replicate]
    have hmin : min k (zs.length - k) + k ≤ n := by omega
    refine KD.v0 rfl rfl (Val.add rfl rfl (by simp only [Go.Proofs.Ytfgmofaadcbokaa.lo, Go.Proofs.Ytfgmofaadcbokaa.hi]; omega)) ?_
    refine KD.v0 rfl rfl (Val.assign rfl) ?_
    refine KD.nil ?_
    refine KE.blkN ?_
    exact KE.again ⟨k + min k (zs.length - k), copied zs (List.replicate k z) k⟩ bySub byPart ⟨hc.1, by dsimp only; omega, by have := hc.2; rw [hl]; exact this, ok', by dsimp only; omega⟩ (by dsimp only; omega)
  · have hkn : k = n := by omega
    subst hkn
    have hzs : zs = List.replicate k z := by rw [← ht, List.take_of_length_le (by omega)]
    subst hzs
    refine K.seq ?_
    refine K.seq ?_
    refine K.region ?_
    (refine KL.v rfl (Val.move rfl) ?_)
    (refine KL.v rfl (Val.move rfl) ?_)
    (refine KL.v rfl (Val.lenSl rfl rfl bySli) ?_)
    (refine KL.v rfl (Val.isF (Val.lss rfl rfl) byLt) ?_)
    refine KL.nil ?_
    refine KE.next ?_
    refine K.condF rfl ?_
    refine K.exit ?_
    refine KE.passX ?_
    refine KE.passX ?_
    refine KE.blkX ?_
    refine KE.next ?_
    refine K.seq ?_
    refine K.region ?_
    (refine KL.v rfl (Val.move rfl) ?_)
    (refine KL.v rfl (Val.assign rfl) ?_)
    refine KL.nil ?_
    refine KE.next ?_
    refine K.ret ?_
    exact KE.fin byMarks rfl byRes byPart ⟨o30, ok, rfl, rfl⟩

/-! ## Depths -/
def setAll {α : Type} (out : List α) (d : α) (lv : List Int) : List α := lv.foldl (fun o x => o.set x.toNat d) out
theorem setAll_len {α : Type} (d : α) : ∀ (lv : List Int) (out : List α), (setAll out d lv).length = out.length
  | [], _ => rfl
  | x :: lv, out => by simp only [setAll, List.foldl_cons]; exact (setAll_len d lv _).trans (by simp)
theorem setAll_snoc {α : Type} (out : List α) (d : α) (lv : List Int) (x : Int) : setAll out d (lv ++ [x]) = (setAll out d lv).set x.toNat d := by simp [setAll]
def toldD (n : Nat) : List (List Int) → Nat → List Int
  | _, 0 => List.replicate n (-1)
  | ls, k + 1 => setAll (toldD n ls k) (k : Int) ((ls[k]?).getD [])
theorem toldD_len (n : Nat) (ls : List (List Int)) : ∀ k, (toldD n ls k).length = n
  | 0 => by simp [toldD]
  | k + 1 => by simp only [toldD]; rw [setAll_len]; exact toldD_len n ls k
theorem levels_in {rows : List (List Int)} {frm : List Int} {k : Nat} {lv : List Int} (h : (levelsP rows frm)[k]? = some lv) : ∀ x ∈ lv, 0 ≤ x ∧ x < (rows.length : Nat) := by
  have key : ∀ (f : Nat) (S lv0 : List Int), (∀ x ∈ lv0, 0 ≤ x ∧ x < (rows.length : Nat)) → ∀ l ∈ levP rows.length rows f S lv0, ∀ x ∈ l, 0 ≤ x ∧ x < (rows.length : Nat) := by
    intro f
    induction f with
    | zero => intro S lv0 _ l hl; simp [levP] at hl
    | succ f ih =>
      intro S lv0 h0 l hl
      simp only [levP] at hl
      split at hl
      · simp at hl
      · rcases List.mem_cons.1 hl with rfl | hl
        · exact h0
        · exact ih _ _ (fun x hx => (fresh_mem.1 hx).2.1) l hl
  exact key _ _ _ (fun x hx => (hereP_mem.1 hx).2) lv (List.mem_of_getElem? h)

theorem oOk.len {α : Type} {E : Enc α} {xs : List α} {o : Own} (h : oOk E xs o) : xs.length ≤ maxLen := by
  cases o with
  | none => simp only [oOk] at h; subst h; simp
  | some ob => exact Nat.le_trans h.1 h.2.1
def DepJ (l D : Nat) (r : Rec) (b5 : Nat) (o : Own) (n : Nat) (ls : List (List Int)) (k : Nat) (A : Heap) : Prop := oOk iE (toldD n ls k) o ∧ A = (l, .loop (r .ready none)) :: (D, .deferred (some [])) :: (oH iE 3 (toldD n ls k) o ++ [(b5, cells [oV o n] 23)])
def DepD (b5 : Nat) (o : Own) (n : Nat) (ls : List (List Int)) (F : Heap) (D : Nat) (F' : Heap) : Prop := oOk iE (toldD n ls ls.length) o ∧ F' = (D, .deferred (some [])) :: (oH iE 3 (toldD n ls ls.length) o ++ ((b5, cells [oV o n] 23) :: F))
def depthsP (rows : List (List Int)) (frm : List Int) : List Int := toldD rows.length (levelsP rows frm) (levelsP rows frm).length

set_option maxRecDepth 10000 in
set_option maxHeartbeats 2000000 in
theorem Depths_K {w0 : World} {vg vl : Value} {gs : List SV} {rows : List (List Int)} {l : List Int} (hG : SlW w0 svE vg gs) (hR : RowsI w0 gs rows) (hL : SlW w0 iE vl l) (hl : l.length ≤ 100000) (hn : gs.length ≤ 100) (hb : ∀ r ∈ rows, r.length ≤ 1000) :
    Call Try.prog w0 16 [vg, vl] [] (fun r H' => ∃ o, oOk iE (depthsP rows l) o ∧ r = oV o (depthsP rows l).length ∧ H' = oH iE 3 (depthsP rows l) o) := by
  refine Call.enter2 (n := 31) (by kernel_rfl) Try.func16 rfl rfl rfl ?_
  have hgl := hR.len
  have hvg : vg.cells = [vg].toArray := by obtain ⟨a, c, rfl, _⟩ := hG.shape; rfl
  have hvl : vl.cells = [vl].toArray := by obtain ⟨a, c, rfl, _⟩ := hL.shape; rfl
  refine K.seq ?_
  refine K.region ?_
  (refine KL.v rfl (Val.assign rfl) ?_)
  refine KL.nil ?_
  refine KE.next ?_
  refine K.seq ?_
  refine K.region ?_
  (refine KL.e rfl (Eff.buildS byParts rfl rfl rfl rfl rfl byFill) ?_; rintro _ _ ⟨b10, rfl, rfl⟩)
  (refine KL.v rfl (Val.move rfl) ?_)
  (refine KL.v rfl (Val.lenSl rfl rfl bySli) ?_)
  (refine KL.callc rfl rfl byEvL fun T hT => ?_)
  refine (CallV.fn (Repeat_K (z := -1) (n := gs.length) (Sli.blk byTake rfl (by simp) (by simp [maxLen]) rfl) (by omega))).mono ?_
  rintro _ _ ⟨o, ok, rfl, rfl⟩
  rw [List.length_replicate]
  refine hT _ _ ?_; clear hT; clear T
  (refine KL.e rfl (Eff.alloc rfl) ?_; rintro _ _ ⟨b5, rfl, rfl⟩)
  (refine KL.eN (Eff.storeL rfl rfl byOne rfl byTake bySetAt) ?_; rintro _ _ rfl)
  refine KL.nil ?_
  refine KE.next ?_
  refine K.seq ?_
  refine K.seq ?_
  refine K.region ?_
  (refine KL.v rfl (Val.move rfl) ?_)
  (refine KL.v rfl (Val.move rfl) ?_)
  (refine KL.callc rfl rfl byEvL fun T hT => ?_)
  refine (CallV.fn (levels_K hvg hvl)).mono ?_
  rintro _ _ ⟨b1, b2, rfl, rfl⟩
  refine hT _ _ ?_; clear hT; clear T
  refine KL.nil ?_
  refine KE.next ?_
  refine K.block ?_
  refine K.rangeFunc (lb := [.pointer (some ⟨b1, 0, none⟩), .pointer (some ⟨b2, 0, none⟩)]) rfl (DepD b5 o gs.length (levelsP rows l) []) (fun _ _ _ => False) ?_ ?_ ?_
  · intro ll D r hyl
    refine (Call.part (levels1_K (F := []) (b1 := b1) (b2 := b2) (rows := rows) (l := l) (DepJ ll D r b5 o gs.length (levelsP rows l)) rfl hG hR hL hl hn hb ?_ (A0 := (ll, .loop (r .ready none)) :: (D, .deferred (some [])) :: (oH iE 3 (List.replicate gs.length (-1)) o ++ [(b5, cells [oV o gs.length] 23)])) ⟨ok, rfl⟩) byPart).mono ?_
    · rintro k lv o2 A R hlv ⟨okk, rfl⟩ ok2
      have hlen := toldD_len gs.length (levelsP rows l) k
      have hin := levels_in hlv
      have hlvl := ok2.len
      simp only [List.cons_append, List.append_assoc, List.nil_append]
      refine hyl _ _ _ _ _ (ParS.cons rfl (ParS.cons rfl ParS.nil)) byTake ?_
      refine K.seq ?_
      refine K.region ?_
      (refine KL.v rfl (Val.assign rfl) ?_)
      refine KL.nil ?_
      refine KE.next ?_
      refine K.region ?_
      (refine KL.v rfl (Val.assign rfl) ?_)
      refine KL.nil ?_
      refine KE.begin byTake ?_
      refine K.block ?_
      refine K.seq ?_
      refine K.region ?_
      (refine KL.v rfl (Val.move rfl) ?_)
      (refine KL.v rfl (Val.lenSl rfl rfl bySli) ?_)
      (refine KL.v rfl (Val.move rfl) ?_)
      refine KL.nil ?_
      refine KE.next ?_
      refine K.block ?_
      have hlvm : lv.length ≤ 9223372036854775807 := by unfold maxLen at hlvl; omega
      refine K.loopT (σ := Nat) [(5, _), (6, _), (19, _), (20, _)] (fun s r => (21, .int .i64 (s : Nat)) :: r) (fun s => (ll, .loop (r .busy none)) :: (D, .deferred (some [])) :: (oH iE 3 (setAll (toldD gs.length (levelsP rows l) k) (k : Int) (lv.take s)) o ++ ((b5, cells [oV o gs.length] 23) :: (oH iE 3 lv o2 ++ R)))) (fun s => s ≤ lv.length ∧ oOk iE (setAll (toldD gs.length (levelsP rows l) k) (k : Int) (lv.take s)) o) (fun s => lv.length - s) (0) bySub byPart (⟨by omega, by simpa [setAll] using okk⟩) ?_
      rintro j ⟨hj, okj⟩
      have hln : gs.length = (setAll (toldD gs.length (levelsP rows l) k) (k : Int) (lv.take j)).length := by rw [setAll_len, hlen]
      by_cases hjl : j < lv.length
      · obtain ⟨x, hx⟩ := get_of_lt hjl
        obtain ⟨hx0, hx1⟩ := hin x (List.mem_of_getElem? hx)
        obtain ⟨q, rfl⟩ : ∃ q : Nat, x = (q : Int) := ⟨x.toNat, by omega⟩
        obtain ⟨y, hy⟩ := get_of_lt (l := setAll (toldD gs.length (levelsP rows l) k) (k : Int) (lv.take j)) (k := q) (by omega)
        have hq : q < gs.length := by omega
        refine K.seq ?_
        refine K.region ?_
        (refine KL.v rfl (Val.isT (Val.lss rfl rfl) byLt) ?_)
        refine KL.nil ?_
        refine KE.next ?_
        refine K.seq ?_
        refine K.condT rfl ?_
        refine K.skip ?_
        refine KE.next ?_
        refine K.seq ?_
        refine K.block ?_
        refine K.seq ?_
        refine K.region ?_
        (refine KL.v rfl (Val.idxSl rfl rfl rfl bySli rfl byLt) ?_)
        (refine KL.v rfl (Val.loadP rfl rfl bySee) ?_)
        (refine KL.v rfl (Val.assign rfl) ?_)
        refine KL.nil ?_
        refine KE.next ?_
        refine K.region ?_
        (refine KL.v rfl (Val.loadP rfl rfl bySee) ?_)
        (refine KL.v rfl (Val.move rfl) ?_)
        (refine KL.v rfl (Val.move rfl) ?_)
        (refine KL.v rfl (Val.idxSl rfl rfl rfl bySli rfl byLt) ?_)
        (refine KL.eN (Eff.stSl0 rfl rfl rfl rfl byTakeL (by assumption) (by assumption) rfl rfl) ?_; rintro _ _ rfl)
        refine KL.nil ?_
        refine KE.blkN ?_
        refine KE.next ?_
        refine K.region ?_
        (refine KL.v rfl (Val.add rfl rfl (by simp only [Go.Proofs.Ytfgmofaadcbokaa.lo, Go.Proofs.Ytfgmofaadcbokaa.hi]; omega)) ?_)
        (refine KL.v rfl (Val.move rfl) ?_)
        refine KL.nil ?_
        exact KE.again (j + 1) bySub (by rw [take_snoc hx, setAll_snoc]; exact byPart) ⟨by omega, by rw [take_snoc hx, setAll_snoc]; exact okj.set _ _⟩ (by omega)
      · have hjt : lv.take j = lv := List.take_of_length_le (by omega)
        rw [hjt] at okj ⊢
        have hnx : toldD gs.length (levelsP rows l) (k + 1) = setAll (toldD gs.length (levelsP rows l) k) (k : Int) lv := by simp [toldD, hlv]
        rw [← hnx] at okj ⊢
        refine K.seq ?_
        refine K.region ?_
        (refine KL.v rfl (Val.isF (Val.lss rfl rfl) byLt) ?_)
        refine KL.nil ?_
        refine KE.next ?_
        refine K.seq ?_
        refine K.condF rfl ?_
        refine K.exit ?_
        refine KE.passX ?_
        refine KE.passX ?_
        refine KE.blkX ?_
        refine KE.blkN ?_
        refine KE.part ((ll, .loop (r .busy none)) :: (D, .deferred (some [])) :: (oH iE 3 (toldD gs.length (levelsP rows l) (k + 1)) o ++ ((b5, cells [oV o gs.length] 23) :: (oH iE 3 lv o2 ++ R)))) byPart ?_
        exact KE.roundN Take.head ⟨rfl, _, ⟨okj, rfl⟩, by simp⟩
    · rintro v H' ⟨A', ⟨okk, rfl⟩, rfl⟩
      refine .inl ⟨_, ?_, okk, rfl⟩
      simp only [List.cons_append, List.append_assoc, List.nil_append]
      exact byPart
  · rintro D F' ⟨okk, rfl⟩
    rw [hgl] at okk ⊢
    have hlen := toldD_len rows.length (levelsP rows l) (levelsP rows l).length
    refine KE.blkN ?_
    refine KE.next ?_
    refine K.seq ?_
    refine K.region ?_
    (refine KL.v rfl (Val.loadP rfl rfl bySee) ?_)
    (refine KL.v rfl (Val.assign rfl) ?_)
    refine KL.nil ?_
    refine KE.next ?_
    refine K.ret ?_
    exact KE.fin byMarks rfl byRes byPart ⟨o, okk, by show oV o rows.length = oV o (depthsP rows l).length; unfold depthsP; rw [hlen], rfl⟩
  · rintro D cd F' h
    exact h.elim

/-! ## Reach -/
def toldR (n : Nat) : List (List Int) → Nat → List Bool
  | _, 0 => List.replicate n false
  | ls, k + 1 => setAll (toldR n ls k) true ((ls[k]?).getD [])
theorem toldR_len (n : Nat) (ls : List (List Int)) : ∀ k, (toldR n ls k).length = n
  | 0 => by simp [toldR]
  | k + 1 => by simp only [toldR]; rw [setAll_len]; exact toldR_len n ls k
def ReaJ (l D : Nat) (r : Rec) (b5 : Nat) (o : Own) (n : Nat) (ls : List (List Int)) (k : Nat) (A : Heap) : Prop := oOk boE (toldR n ls k) o ∧ A = (l, .loop (r .ready none)) :: (D, .deferred (some [])) :: (oH boE 4 (toldR n ls k) o ++ [(b5, cells [oV o n] 29)])
def ReaD (b5 : Nat) (o : Own) (n : Nat) (ls : List (List Int)) (F : Heap) (D : Nat) (F' : Heap) : Prop := oOk boE (toldR n ls ls.length) o ∧ F' = (D, .deferred (some [])) :: (oH boE 4 (toldR n ls ls.length) o ++ ((b5, cells [oV o n] 29) :: F))
def reachP (rows : List (List Int)) (frm : List Int) : List Bool := toldR rows.length (levelsP rows frm) (levelsP rows frm).length

set_option maxRecDepth 10000 in
set_option maxHeartbeats 2000000 in
theorem Reach_K {w0 : World} {vg vl : Value} {gs : List SV} {rows : List (List Int)} {l : List Int} (hG : SlW w0 svE vg gs) (hR : RowsI w0 gs rows) (hL : SlW w0 iE vl l) (hl : l.length ≤ 100000) (hn : gs.length ≤ 100) (hb : ∀ r ∈ rows, r.length ≤ 1000) :
    Call Try.prog w0 14 [vg, vl] [] (fun r H' => ∃ o, oOk boE (reachP rows l) o ∧ r = oV o (reachP rows l).length ∧ H' = oH boE 4 (reachP rows l) o) := by
  refine Call.enter2 (n := 29) (by kernel_rfl) Try.func14 rfl rfl rfl ?_
  have hgl := hR.len
  have hvg : vg.cells = [vg].toArray := by obtain ⟨a, c, rfl, _⟩ := hG.shape; rfl
  have hvl : vl.cells = [vl].toArray := by obtain ⟨a, c, rfl, _⟩ := hL.shape; rfl
  refine K.seq ?_
  refine K.region ?_
  (refine KL.v rfl (Val.assign rfl) ?_)
  refine KL.nil ?_
  refine KE.next ?_
  refine K.seq ?_
  refine K.region ?_
  (refine KL.v rfl (Val.move rfl) ?_)
  (refine KL.v rfl (Val.lenSl rfl rfl bySli) ?_)
  (refine KL.e rfl (Eff.makeR (E := boE) (x0 := false) rfl rfl rfl rfl rfl rfl (by first | assumption | omega | (simp <;> fail) | (simp; omega))) ?_; rintro _ _ ⟨o12, ok12, rfl, rfl⟩)
  (refine KL.e rfl (Eff.alloc rfl) ?_; rintro _ _ ⟨b5, rfl, rfl⟩)
  (refine KL.eN (Eff.storeL rfl rfl byOne rfl byTake bySetAt) ?_; rintro _ _ rfl)
  refine KL.nil ?_
  refine KE.next ?_
  refine K.seq ?_
  refine K.seq ?_
  refine K.region ?_
  (refine KL.v rfl (Val.move rfl) ?_)
  (refine KL.v rfl (Val.move rfl) ?_)
  (refine KL.callc rfl rfl byEvL fun T hT => ?_)
  rw [List.length_replicate]
  generalize o12 = o at *
  have ok := ok12
  refine (CallV.fn (levels_K hvg hvl)).mono ?_
  rintro _ _ ⟨b1, b2, rfl, rfl⟩
  refine hT _ _ ?_; clear hT; clear T
  refine KL.nil ?_
  refine KE.next ?_
  refine K.block ?_
  refine K.rangeFunc (lb := [.pointer (some ⟨b1, 0, none⟩), .pointer (some ⟨b2, 0, none⟩)]) rfl (ReaD b5 o gs.length (levelsP rows l) []) (fun _ _ _ => False) ?_ ?_ ?_
  · intro ll D r hyl
    refine (Call.part (levels1_K (F := []) (b1 := b1) (b2 := b2) (rows := rows) (l := l) (ReaJ ll D r b5 o gs.length (levelsP rows l)) rfl hG hR hL hl hn hb ?_ (A0 := (ll, .loop (r .ready none)) :: (D, .deferred (some [])) :: (oH boE 4 (List.replicate gs.length false) o ++ [(b5, cells [oV o gs.length] 29)])) ⟨ok, rfl⟩) byPart).mono ?_
    · rintro k lv o2 A R hlv ⟨okk, rfl⟩ ok2
      have hlen := toldR_len gs.length (levelsP rows l) k
      have hin := levels_in hlv
      have hlvl := ok2.len
      simp only [List.cons_append, List.append_assoc, List.nil_append]
      refine hyl _ _ _ _ _ (ParS.cons rfl (ParS.cons rfl ParS.nil)) byTake ?_
      refine K.region ?_
      (refine KL.v rfl (Val.assign rfl) ?_)
      refine KL.nil ?_
      refine KE.begin byTake ?_
      refine K.block ?_
      refine K.seq ?_
      refine K.region ?_
      (refine KL.v rfl (Val.move rfl) ?_)
      (refine KL.v rfl (Val.lenSl rfl rfl bySli) ?_)
      (refine KL.v rfl (Val.move rfl) ?_)
      refine KL.nil ?_
      refine KE.next ?_
      refine K.block ?_
      have hlvm : lv.length ≤ 9223372036854775807 := by unfold maxLen at hlvl; omega
      refine K.loopT (σ := Nat) [(5, _), (18, _), (19, _)] (fun s r => (20, .int .i64 (s : Nat)) :: r) (fun s => (ll, .loop (r .busy none)) :: (D, .deferred (some [])) :: (oH boE 4 (setAll (toldR gs.length (levelsP rows l) k) true (lv.take s)) o ++ ((b5, cells [oV o gs.length] 29) :: (oH iE 3 lv o2 ++ R)))) (fun s => s ≤ lv.length ∧ oOk boE (setAll (toldR gs.length (levelsP rows l) k) true (lv.take s)) o) (fun s => lv.length - s) (0) bySub byPart (⟨by omega, by simpa [setAll] using okk⟩) ?_
      rintro j ⟨hj, okj⟩
      have hln : gs.length = (setAll (toldR gs.length (levelsP rows l) k) true (lv.take j)).length := by rw [setAll_len, hlen]
      by_cases hjl : j < lv.length
      · obtain ⟨x, hx⟩ := get_of_lt hjl
        obtain ⟨hx0, hx1⟩ := hin x (List.mem_of_getElem? hx)
        obtain ⟨q, rfl⟩ : ∃ q : Nat, x = (q : Int) := ⟨x.toNat, by omega⟩
        obtain ⟨y, hy⟩ := get_of_lt (l := setAll (toldR gs.length (levelsP rows l) k) true (lv.take j)) (k := q) (by omega)
        have hq : q < gs.length := by omega
        refine K.seq ?_
        refine K.region ?_
        (refine KL.v rfl (Val.isT (Val.lss rfl rfl) byLt) ?_)
        refine KL.nil ?_
        refine KE.next ?_
        refine K.seq ?_
        refine K.condT rfl ?_
        refine K.skip ?_
        refine KE.next ?_
        refine K.seq ?_
        refine K.block ?_
        refine K.seq ?_
        refine K.region ?_
        (refine KL.v rfl (Val.idxSl rfl rfl rfl bySli rfl byLt) ?_)
        (refine KL.v rfl (Val.loadP rfl rfl bySee) ?_)
        (refine KL.v rfl (Val.assign rfl) ?_)
        refine KL.nil ?_
        refine KE.next ?_
        refine K.region ?_
        (refine KL.v rfl (Val.loadP rfl rfl bySee) ?_)
        (refine KL.v rfl (Val.move rfl) ?_)
        (refine KL.v rfl (Val.idxSl rfl rfl rfl bySli rfl byLt) ?_)
        (refine KL.eN (Eff.stSl0 rfl rfl rfl rfl byTakeL (by assumption) (by assumption) rfl rfl) ?_; rintro _ _ rfl)
        refine KL.nil ?_
        refine KE.blkN ?_
        refine KE.next ?_
        refine K.region ?_
        (refine KL.v rfl (Val.add rfl rfl (by simp only [Go.Proofs.Ytfgmofaadcbokaa.lo, Go.Proofs.Ytfgmofaadcbokaa.hi]; omega)) ?_)
        (refine KL.v rfl (Val.move rfl) ?_)
        refine KL.nil ?_
        exact KE.again (j + 1) bySub (by rw [take_snoc hx, setAll_snoc]; exact byPart) ⟨by omega, by rw [take_snoc hx, setAll_snoc]; exact okj.set _ _⟩ (by omega)
      · have hjt : lv.take j = lv := List.take_of_length_le (by omega)
        rw [hjt] at okj ⊢
        have hnx : toldR gs.length (levelsP rows l) (k + 1) = setAll (toldR gs.length (levelsP rows l) k) true lv := by simp [toldR, hlv]
        rw [← hnx] at okj ⊢
        refine K.seq ?_
        refine K.region ?_
        (refine KL.v rfl (Val.isF (Val.lss rfl rfl) byLt) ?_)
        refine KL.nil ?_
        refine KE.next ?_
        refine K.seq ?_
        refine K.condF rfl ?_
        refine K.exit ?_
        refine KE.passX ?_
        refine KE.passX ?_
        refine KE.blkX ?_
        refine KE.blkN ?_
        refine KE.part ((ll, .loop (r .busy none)) :: (D, .deferred (some [])) :: (oH boE 4 (toldR gs.length (levelsP rows l) (k + 1)) o ++ ((b5, cells [oV o gs.length] 29) :: (oH iE 3 lv o2 ++ R)))) byPart ?_
        exact KE.roundN Take.head ⟨rfl, _, ⟨okj, rfl⟩, by simp⟩
    · rintro v H' ⟨A', ⟨okk, rfl⟩, rfl⟩
      refine .inl ⟨_, ?_, okk, rfl⟩
      simp only [List.cons_append, List.append_assoc, List.nil_append]
      exact byPart
  · rintro D F' ⟨okk, rfl⟩
    rw [hgl] at okk ⊢
    have hlen := toldR_len rows.length (levelsP rows l) (levelsP rows l).length
    refine KE.blkN ?_
    refine KE.next ?_
    refine K.seq ?_
    refine K.region ?_
    (refine KL.v rfl (Val.loadP rfl rfl bySee) ?_)
    (refine KL.v rfl (Val.assign rfl) ?_)
    refine KL.nil ?_
    refine KE.next ?_
    refine K.ret ?_
    exact KE.fin byMarks rfl byRes byPart ⟨o, okk, by show oV o rows.length = oV o (reachP rows l).length; unfold reachP; rw [hlen], rfl⟩
  · rintro D cd F' h
    exact h.elim
end Go.Proofs.Ytfgmofaadcbokaa
