/- Graph: the levels of a graph (levels). -/
import Derived.Test.YtfgmofaadcbokaaGrW6
import Derived.Test.YtfgmofaadcbokaaKT
namespace Go.Proofs.Ytfgmofaadcbokaa
open Go.RowKit
set_option linter.unusedVariables false
set_option linter.unusedSimpArgs false

def belowP (rows : List (List Int)) (lv : List Int) : List Int := lv.flatMap fun x => (rows[x.toNat]?).getD []
/-- how many nodes are not in S -/
def cntP (n : Nat) (S : List Int) : Nat := ((List.range n).filter fun (i : Nat) => !decide ((i : Int) ∈ S)).length
def levM (n : Nat) (S lv : List Int) : Nat := cntP n S + (if lv = [] then 0 else 1)
def levP (n : Nat) (rows : List (List Int)) : Nat → List Int → List Int → List (List Int)
  | 0, _, _ => []
  | f + 1, S, lv => if lv = [] then [] else lv :: levP n rows f (S ++ hereP n (belowP rows lv)) (freshP n S (belowP rows lv))
/-- the levels -/
def levelsP (rows : List (List Int)) (frm : List Int) : List (List Int) := levP rows.length rows (rows.length + 1) (hereP rows.length frm) (hereP rows.length frm)

theorem filter_le {α : Type} {p q : α → Bool} (h : ∀ x, q x = true → p x = true) (l : List α) : (l.filter q).length ≤ (l.filter p).length := by
  induction l with
  | nil => simp
  | cons y l ih =>
    simp only [List.filter_cons]
    cases hy : q y
    · cases hpy : p y <;> simp <;> omega
    · rw [h y hy]; simp; omega
theorem cnt_le (n : Nat) {S S' : List Int} (h : ∀ x, x ∈ S → x ∈ S') : cntP n S' ≤ cntP n S := filter_le (fun x hx => by simp at hx ⊢; exact fun hm => hx (h _ hm)) _
theorem cnt_lt {n : Nat} {S S' : List Int} (h : ∀ x, x ∈ S → x ∈ S') {x : Int} (h0 : 0 ≤ x) (h1 : x < n) (hx : x ∉ S) (hx' : x ∈ S') : cntP n S' < cntP n S := by
  refine filter_lt (e := x.toNat) (fun y hy => by simp at hy ⊢; exact fun hm => hy (h _ hm)) (by simp; omega) ?_ ?_
  · have : ((x.toNat : Nat) : Int) = x := by omega
    simp [this, hx]
  · have : ((x.toNat : Nat) : Int) = x := by omega
    simp [this, hx']
theorem cnt_all (n : Nat) (S : List Int) : cntP n S ≤ n := by
  have := List.length_filter_le (fun (i : Nat) => !decide ((i : Int) ∈ S)) (List.range n)
  simpa [cntP] using this
theorem fresh_mem {n : Nat} {S l : List Int} {x : Int} : x ∈ freshP n S l ↔ x ∈ l ∧ (0 ≤ x ∧ x < n) ∧ x ∉ S := by
  simp only [freshP, List.mem_filter, hereP_mem]; simp [and_assoc]
theorem levM_next {n : Nat} (S lv l : List Int) (h : lv ≠ []) : levM n (S ++ hereP n l) (freshP n S l) < levM n S lv := by
  unfold levM
  rw [if_neg h]
  by_cases hf : freshP n S l = []
  · rw [if_pos hf]
    have := cnt_le n (S := S) (S' := S ++ hereP n l) (fun x hx => List.mem_append_left _ hx)
    omega
  · rw [if_neg hf]
    obtain ⟨x, hx⟩ := List.exists_mem_of_ne_nil _ hf
    obtain ⟨h1, h2, h3⟩ := fresh_mem.1 hx
    have := cnt_lt (n := n) (S := S) (S' := S ++ hereP n l) (fun x hx => List.mem_append_left _ hx) h2.1 h2.2 h3 (List.mem_append_right _ (hereP_mem.2 ⟨h1, h2⟩))
    omega
theorem levP_len (n : Nat) (rows : List (List Int)) : ∀ (f : Nat) (S lv : List Int), (levP n rows f S lv).length ≤ f
  | 0, _, _ => by simp [levP]
  | f + 1, S, lv => by
    simp only [levP]
    split
    · simp
    · have := levP_len n rows f (S ++ hereP n (belowP rows lv)) (freshP n S (belowP rows lv)); simp; omega
theorem below_len {rows : List (List Int)} {B : Nat} (hb : ∀ r ∈ rows, r.length ≤ B) : ∀ lv : List Int, (belowP rows lv).length ≤ lv.length * B
  | [] => by simp [belowP]
  | x :: lv => by
    have ih := below_len hb lv
    have e : belowP rows (x :: lv) = (rows[x.toNat]?).getD [] ++ belowP rows lv := by simp [belowP]
    have hr : ((rows[x.toNat]?).getD []).length ≤ B := by
      cases h : rows[x.toNat]? with
      | none => simp
      | some r => exact hb r (List.mem_of_getElem? h)
    rw [e, List.length_append, List.length_cons, Nat.succ_mul]; omega
theorem below_snoc (rows : List (List Int)) (lv : List Int) (x : Int) : belowP rows (lv ++ [x]) = belowP rows lv ++ (rows[x.toNat]?).getD [] := by simp [belowP]
theorem hereP_len (n : Nat) (l : List Int) : (hereP n l).length ≤ n := by
  unfold hereP
  exact Nat.le_trans (List.length_filter_le _ _) (by simp)
theorem freshP_len (n : Nat) (S l : List Int) : (freshP n S l).length ≤ n := Nat.le_trans (List.length_filter_le _ _) (hereP_len n l)
theorem fresh0 (n : Nat) (l : List Int) : freshP n [] l = hereP n l := by unfold freshP; exact List.filter_eq_self.2 fun x _ => by simp

structure LS where
  d : Nat
  f : Nat
  S : List Int
  lv : List Int
  o : Own
  ms : List ME
  c : Nat
  q : Nat
  A : Heap
structure BS where
  k : Nat
  o : Own

set_option maxRecDepth 10000 in
set_option maxHeartbeats 2000000 in
theorem levels1_K {w0 : World} {F A0 : Heap} {fv vg vl : Value} {b1 b2 : Nat} {gs : List SV} {rows : List (List Int)} {l : List Int} (J : Nat → Heap → Prop) (hf : fv.oneCell' = true)
    (hG : SlW w0 svE vg gs) (hR : RowsI w0 gs rows) (hL : SlW w0 iE vl l) (hl : l.length ≤ 100000) (hn : gs.length ≤ 100) (hb : ∀ r ∈ rows, r.length ≤ 1000)
    (hy : ∀ k lv o A R, (levelsP rows l)[k]? = some lv → J k A → oOk iE lv o → CallV Try.prog w0 fv [.int .i64 (k : Nat), oV o lv.length] (A ++ (oH iE 3 lv o ++ R)) (fun r H' => r = .bool true ∧ ∃ A', J (k + 1) A' ∧ H' = A' ++ (oH iE 3 lv o ++ R)))
    (h0 : J 0 A0) :
    Call Try.prog w0 34 [fv, .pointer (some ⟨b1, 0, none⟩), .pointer (some ⟨b2, 0, none⟩)] (A0 ++ ((b1, cells [vg] 22) :: (b2, cells [vl] 23) :: F))
      (fun _ H' => ∃ A', J (levelsP rows l).length A' ∧ H' = A' ++ ((b1, cells [vg] 22) :: (b2, cells [vl] 23) :: F)) := by
  refine Call.enter3 (n := 43) (by kernel_rfl) Try.func34 rfl rfl rfl ?_
  have hgl := hR.len
  refine K.seq ?_
  refine K.region ?_
  (refine KL.e rfl (Eff.makeMap) ?_; rintro _ _ ⟨b11, rfl, rfl⟩)
  (refine KL.e rfl (Eff.alloc rfl) ?_; rintro _ _ ⟨b4, rfl, rfl⟩)
  (refine KL.eN (Eff.storeL rfl rfl byOne rfl byTake bySetAt) ?_; rintro _ _ rfl)
  refine KL.nil ?_
  refine KE.next ?_
  refine K.seq ?_
  refine K.region ?_
  (refine KL.v rfl (Val.makeFunc byEvL byEvL) ?_)
  (refine KL.v rfl (Val.assign rfl) ?_)
  refine KL.nil ?_
  refine KE.next ?_
  refine K.seq ?_
  refine K.region ?_
  (refine KL.v rfl (Val.move rfl) ?_)
  (refine KL.v rfl (Val.loadP rfl rfl bySee) ?_)
  (refine KL.callc rfl rfl byEvL fun T hT => ?_)
  refine (CallV.part (CallV.fn (fresh_K (F := A0 ++ ((b2, cells [vl] 23) :: F)) (S := []) (q := 0) hG (Sli.old hL) hl (by omega) MOk.nil SeenAt.nil (by omega))) byPart).mono ?_
  rintro _ _ ⟨o, ms, c, ok, rfl, okm, hs, rfl⟩
  refine hT _ _ ?_; clear hT; clear T
  rw [fresh0, hgl] at ok
  rw [hgl] at hs
  rw [fresh0, hgl]
  have hHl := hereP_len rows.length l
  (refine KL.v rfl (Val.assign rfl) ?_)
  (refine KL.v rfl (Val.assign rfl) ?_)
  refine KL.nil ?_
  refine KE.next ?_
  refine K.block ?_
  refine K.loopT (σ := LS) [(0, _), (1, _), (5, _)] (fun s r => (6, .int .i64 (s.d : Nat)) :: (7, oV s.o s.lv.length) :: r) (fun s => oH iE 3 s.lv s.o ++ ((b4, cells [.map (some b11)] 47) :: (b11, mobj s.ms s.c) :: (s.A ++ ((b1, cells [vg] 22) :: (b2, cells [vl] 23) :: F)))) (fun s => oOk iE s.lv s.o ∧ MOk s.ms s.c ∧ SeenAt s.S s.q s.ms ∧ s.q ≤ (s.d + 1) * 100 ∧ s.d + s.f = rows.length + 1 ∧ s.lv.length ≤ rows.length ∧ (∀ x ∈ s.lv, 0 ≤ x ∧ x < (rows.length : Nat)) ∧ (levelsP rows l).drop s.d = levP rows.length rows s.f s.S s.lv ∧ levM rows.length s.S s.lv ≤ s.f ∧ J s.d s.A ∧ s.d ≤ (levelsP rows l).length) (fun s => levM rows.length s.S s.lv) (⟨0, rows.length + 1, hereP rows.length l, hereP rows.length l, o, ms, c, (hereP rows.length l).length, A0⟩) bySub byPart (⟨ok, okm, by simpa using hs, by dsimp only; omega, by simp, hHl, fun x hx => (hereP_mem.1 hx).2, rfl, by have := cnt_all rows.length (hereP rows.length l); simp only [levM]; split <;> omega, h0, by simp⟩) ?_
  rintro ⟨d, f, S, lv, o, ms, c, q, A⟩ ⟨ok, okm, hs, hq, hdf, hlv, hlvn, hdr, hmu, hJ, hdl⟩
  dsimp only at ok okm hs hq hdf hlv hlvn hdr hmu hJ hdl ⊢
  by_cases hlv0 : lv = []
  · subst hlv0
    have hle : d = (levelsP rows l).length := by
      have h2 : levP rows.length rows f S [] = [] := by cases f <;> simp [levP]
      rw [h2, List.drop_eq_nil_iff] at hdr
      omega
    refine K.seq ?_
    refine K.seq ?_
    refine K.region ?_
    (refine KL.v rfl (Val.move rfl) ?_)
    (refine KL.v rfl (Val.lenSl rfl rfl bySli) ?_)
    (refine KL.v rfl (Val.gtr rfl rfl) ?_)
    (refine KL.v rfl (Val.move rfl) ?_)
    refine KL.skipG rfl rfl rfl ?_
    refine KL.skipG rfl rfl rfl ?_
    refine KL.skipG rfl rfl rfl ?_
    refine KL.skipG rfl rfl rfl ?_
    (refine KL.v rfl (Val.pickF rfl rfl rfl) ?_)
    refine KL.nil ?_
    refine KE.next ?_
    refine K.condF rfl ?_
    refine K.exit ?_
    refine KE.passX ?_
    refine KE.passX ?_
    refine KE.blkX ?_
    exact KE.finN byMarks rfl byRes byPart ⟨A, hle ▸ hJ, rfl⟩
  · have hpos : 0 < lv.length := List.length_pos_iff.2 hlv0
    obtain ⟨f, rfl⟩ : ∃ f', f = f' + 1 := ⟨f - 1, by unfold levM at hmu; rw [if_neg hlv0] at hmu; omega⟩
    have hun : levP rows.length rows (f + 1) S lv = lv :: levP rows.length rows f (S ++ hereP rows.length (belowP rows lv)) (freshP rows.length S (belowP rows lv)) := by simp [levP, hlv0]
    rw [hun] at hdr
    have hgd : (levelsP rows l)[d]? = some lv := by have := congrArg (fun z => z[0]?) hdr; simpa using this
    have hdr' : (levelsP rows l).drop (d + 1) = levP rows.length rows f (S ++ hereP rows.length (belowP rows lv)) (freshP rows.length S (belowP rows lv)) := by
      have := congrArg (List.drop 1) hdr; simpa [List.drop_drop] using this
    refine K.seq ?_
    refine K.seq ?_
    refine K.region ?_
    (refine KL.v rfl (Val.move rfl) ?_)
    (refine KL.v rfl (Val.lenSl rfl rfl bySli) ?_)
    (refine KL.v rfl (Val.isT (Val.gtr rfl rfl) byLt) ?_)
    (refine KL.v rfl (Val.move rfl) ?_)
    (refine KL.yes rfl rfl ?_; refine KL.v rfl (Val.move rfl) ?_)
    (refine KL.yes rfl rfl ?_; refine KL.v rfl (Val.move rfl) ?_)
    (refine KL.yes rfl rfl ?_; refine KL.v rfl (Val.move rfl) ?_)
    (refine KL.yes rfl rfl ?_; refine KL.callc rfl rfl byEvL fun T hT => ?_)
    refine (CallV.part (hy d lv o A ((b4, cells [.map (some b11)] 47) :: (b11, mobj ms c) :: (b1, cells [vg] 22) :: (b2, cells [vl] 23) :: F) hgd hJ ok) byPart).mono ?_
    rintro _ _ ⟨rfl, A', hJ', rfl⟩
    refine hT _ _ ?_; clear hT; clear T
    (refine KL.v rfl (Val.pickT rfl rfl rfl) ?_)
    refine KL.nil ?_
    refine KE.next ?_
    refine K.condT rfl ?_
    refine K.skip ?_
    refine KE.next ?_
    refine K.seq ?_
    refine K.block ?_
    refine K.seq ?_
    refine K.region ?_
    (refine KL.v rfl (Val.assign rfl) ?_)
    refine KL.nil ?_
    refine KE.next ?_
    refine K.seq ?_
    refine K.seq ?_
    refine K.region ?_
    (refine KL.v rfl (Val.move rfl) ?_)
    (refine KL.v rfl (Val.lenSl rfl rfl bySli) ?_)
    (refine KL.v rfl (Val.move rfl) ?_)
    refine KL.nil ?_
    refine KE.next ?_
    refine K.block ?_
    refine K.loopT (σ := BS) [(0, _), (1, _), (5, _), (6, _), (27, _), (28, _)] (fun s r => (29, .int .i64 (s.k : Nat)) :: (8, oV s.o (belowP rows (lv.take s.k)).length) :: r) (fun s => oH iE 3 (belowP rows (lv.take s.k)) s.o ++ (A' ++ (oH iE 3 lv o ++ ((b4, cells [.map (some b11)] 47) :: (b11, mobj ms c) :: (b1, cells [vg] 22) :: (b2, cells [vl] 23) :: F)))) (fun s => s.k ≤ lv.length ∧ oOk iE (belowP rows (lv.take s.k)) s.o) (fun s => lv.length - s.k) (⟨0, none⟩) bySub byPart (⟨by simp, rfl⟩) ?_
    rintro ⟨k, o2⟩ ⟨hk, ok2⟩
    dsimp only at hk ok2 ⊢
    by_cases hkl : k < lv.length
    · obtain ⟨x, hx⟩ := get_of_lt hkl
      obtain ⟨hx0, hx1⟩ := hlvn x (List.mem_of_getElem? hx)
      obtain ⟨j, rfl⟩ : ∃ j : Nat, x = (j : Int) := ⟨x.toNat, by omega⟩
      have hj : j < rows.length := by omega
      obtain ⟨r, hr⟩ := get_of_lt hj
      obtain ⟨p, hp⟩ := get_of_lt (l := gs) (k := j) (by omega)
      have hrow := hR.row j p r hp hr
      have hrl := hb r (List.mem_of_getElem? hr)
      have hbl := below_len hb (lv.take k)
      have htl : (lv.take k).length = k := by rw [List.length_take]; omega
      have hsn : belowP rows (lv.take (k + 1)) = belowP rows (lv.take k) ++ r := by rw [take_snoc hx, below_snoc]; simp [hr]
      have hbd : (belowP rows (lv.take k) ++ r).length ≤ 4294967296 := by rw [List.length_append]; rw [htl] at hbl; have : k * 1000 ≤ 100 * 1000 := Nat.mul_le_mul_right _ (by omega); omega
      refine K.seq ?_
      refine K.region ?_
      (refine KL.v rfl (Val.isT (Val.lss rfl rfl) byLt) ?_)
      refine KL.nil ?_
      refine KE.next ?_
      refine K.seq ?_
      refine K.condT rfl ?_
      refine K.skip ?_
      refine KE.next ?_
      refine K.seq ?_
      refine K.block ?_
      refine K.seq ?_
      refine K.region ?_
      (refine KL.v rfl (Val.idxSl rfl rfl rfl bySli rfl byLt) ?_)
      (refine KL.v rfl (Val.loadP rfl rfl bySee) ?_)
      (refine KL.v rfl (Val.assign rfl) ?_)
      refine KL.nil ?_
      refine KE.next ?_
      refine K.region ?_
      (refine KL.v rfl (Val.move rfl) ?_)
      (refine KL.v rfl (Val.loadP rfl rfl bySee) ?_)
      (refine KL.v rfl (Val.move rfl) ?_)
      (refine KL.v rfl (Val.idxSl rfl rfl rfl bySli rfl byLt) ?_)
      (refine KL.v rfl (Val.loadP rfl rfl bySee) ?_)
      (refine KL.e rfl (Eff.appZ rfl rfl rfl rfl rfl rfl byTakeL (by assumption) (by first | exact Sli.blk byTake rfl (by first | decide | simp) (by first | decide | (unfold maxLen; omega)) rfl | exact Sli.old (by assumption) | exact Sli.own byTakeL (by assumption) byLen | assumption | exact Sli.part (by assumption) byPart) rfl (by first | assumption | omega | (simp <;> fail) | (simp; omega)) rfl) ?_; rintro _ _ ⟨o38, ok38, rfl, rfl⟩)
      (refine KL.v rfl (Val.assign rfl) ?_)
      refine KL.nil ?_
      refine KE.blkN ?_
      refine KE.next ?_
      refine K.region ?_
      (refine KL.v rfl (Val.add rfl rfl (by simp only [Go.Proofs.Ytfgmofaadcbokaa.lo, Go.Proofs.Ytfgmofaadcbokaa.hi]; omega)) ?_)
      (refine KL.v rfl (Val.move rfl) ?_)
      refine KL.nil ?_
      rw [← hsn] at ok38 ⊢
      exact KE.again ⟨k + 1, o38⟩ bySub byPart ⟨by show k + 1 ≤ _; omega, ok38⟩ (by show lv.length - (k + 1) < lv.length - k; omega)
    · have hkt : lv.take k = lv := List.take_of_length_le (by omega)
      rw [hkt] at ok2 ⊢
      have hbl := below_len hb lv
      have hbd : (belowP rows lv).length ≤ 100000 := by have : lv.length * 1000 ≤ 100 * 1000 := Nat.mul_le_mul_right _ (by omega); omega
      refine K.seq ?_
      refine K.region ?_
      (refine KL.v rfl (Val.isF (Val.lss rfl rfl) byLt) ?_)
      refine KL.nil ?_
      refine KE.next ?_
      refine K.seq ?_
      refine K.condF rfl ?_
      refine K.exit ?_
      refine KE.passX ?_
      refine KE.passX ?_
      refine KE.blkX ?_
      refine KE.next ?_
      refine K.region ?_
      (refine KL.v rfl (Val.move rfl) ?_)
      (refine KL.v rfl (Val.move rfl) ?_)
      (refine KL.callc rfl rfl byEvL fun T hT => ?_)
      refine (CallV.part (CallV.fn (fresh_K (F := A' ++ (oH iE 3 (belowP rows lv) o2 ++ (oH iE 3 lv o ++ ((b2, cells [vl] 23) :: F)))) (S := S) (q := q) hG (Sli.own (xs := belowP rows lv) (o := o2) byTakeL ok2 rfl) hbd (by omega) okm hs (by omega))) byPart).mono ?_
      rintro _ _ ⟨o', ms', c', ok', rfl, okm', hs', rfl⟩
      refine hT _ _ ?_; clear hT; clear T
      rw [hgl] at ok' hs' ⊢
      have hfl := freshP_len rows.length S (belowP rows lv)
      have hhl := hereP_len rows.length (belowP rows lv)
      have hlt := levM_next S lv (belowP rows lv) hlv0 (n := rows.length)
      (refine KL.v rfl (Val.assign rfl) ?_)
      refine KL.nil ?_
      refine KE.blkN ?_
      refine KE.next ?_
      refine K.region ?_
      (refine KL.v rfl (Val.move rfl) ?_)
      (refine KL.v rfl (Val.add rfl rfl (by simp only [Go.Proofs.Ytfgmofaadcbokaa.lo, Go.Proofs.Ytfgmofaadcbokaa.hi]; omega)) ?_)
      (refine KL.v rfl (Val.assign rfl) ?_)
      refine KL.nil ?_
      exact KE.again ⟨d + 1, f, S ++ hereP rows.length (belowP rows lv), freshP rows.length S (belowP rows lv), o', ms', c', q + (hereP rows.length (belowP rows lv)).length, A'⟩ bySub byPart ⟨ok', okm', hs', by dsimp only; omega, by dsimp only; omega, hfl, fun x hx => (fresh_mem.1 hx).2.1, hdr', by dsimp only; omega, hJ', by have := lt_of_get hgd; dsimp only; omega⟩ hlt

set_option maxRecDepth 10000 in
theorem levels_K {w0 : World} {H : Heap} {vg vl : Value} (h1 : vg.cells = [vg].toArray) (h2 : vl.cells = [vl].toArray) :
    Call Try.prog w0 23 [vg, vl] H (fun r H' => ∃ b1 b2, r = .func (.func 34) #[] #[.pointer (some ⟨b1, 0, none⟩), .pointer (some ⟨b2, 0, none⟩)] ∧ H' = (b2, cells [vl] 23) :: (b1, cells [vg] 22) :: H) := by
  refine Call.enter2 (n := 6) (by kernel_rfl) Try.func23 rfl rfl rfl ?_
  refine K.seq ?_
  refine K.region ?_
  (refine KL.e rfl (Eff.box rfl (by assumption)) ?_; rintro _ _ ⟨b2, rfl, rfl⟩)
  (refine KL.e rfl (Eff.box rfl (by assumption)) ?_; rintro _ _ ⟨b3, rfl, rfl⟩)
  (refine KL.v rfl (Val.assign rfl) ?_)
  refine KL.nil ?_
  refine KE.next ?_
  refine K.seq ?_
  refine K.region ?_
  (refine KL.v rfl (Val.makeFunc byEvL byEvL) ?_)
  (refine KL.v rfl (Val.assign rfl) ?_)
  refine KL.nil ?_
  refine KE.next ?_
  refine K.ret ?_
  exact KE.fin byMarks rfl byRes byPart ⟨b2, b3, rfl, rfl⟩
end Go.Proofs.Ytfgmofaadcbokaa
