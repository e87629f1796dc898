/- Graph: great, awake; what came in. -/
import Derived.Test.YtfgmofaadcbokaaGrR4
import Derived.Test.YtfgmofaadcbokaaKIn
import Derived.SizedLaws
import Derived.Lib.SmallJoins
import Derived.ChangeMaps5
namespace Go.Proofs.Ytfgmofaadcbokaa
open Go.RowKit Go.ChangeShapes Go.WideShapes Go.ChangeAt Go.Deep Go.Joins
set_option linter.unusedVariables false
set_option linter.unusedSimpArgs false

def AwakeEnd (w : World) (e : Ending) (w' : World) : Prop := e = .returned (.bool true) ∧ Only [] w w'

theorem row_own {w0 : World} {H : Heap} {ws : List WR} {k : Nat} {p : WR} (hq : ws[k]? = some p) (ok : oOk iE p.2 p.1) (hp : Part H (wsH ws)) : Sli w0 H iE (oV p.1 p.2.length) p.2 := by
  intro w hw
  have := hw.part hp
  rw [wsH_split hq] at this
  exact this.tlA.own ok rfl

/-! ## great -/
def greatP (rows : List (List Int)) (k : Nat) : Bool := decide (40 < rows.length ∨ 200 < totP rows ∨ 50 < k)
structure GtS where
  k : Nat
  n : Int
theorem tot_snoc {rows : List (List Int)} {k : Nat} {r : List Int} (h : rows[k]? = some r) : totP (rows.take (k + 1)) = totP (rows.take k) + r.length := by simp [totP, take_snoc h]
theorem tot_le {rows : List (List Int)} {B : Nat} (hb : ∀ r ∈ rows, r.length ≤ B) : ∀ k, totP (rows.take k) ≤ k * B
  | 0 => by simp [totP]
  | k + 1 => by
    have ih := tot_le hb k
    cases h : rows[k]? with
    | none =>
      have hl : rows.length ≤ k := by simpa using h
      rw [List.take_of_length_le (by omega)]
      rw [List.take_of_length_le hl] at ih
      rw [Nat.succ_mul]; omega
    | some r =>
      have := hb r (List.mem_of_getElem? h)
      rw [tot_snoc h, Nat.succ_mul]; omega

set_option maxRecDepth 10000 in
theorem great_K {w0 : World} {H : Heap} {vg vl : Value} {gs : List SV} {rows : List (List Int)} {l : List Int} (hG : SlW w0 svE vg gs) (hR : RowsI w0 gs rows) (hL : SlW w0 iE vl l) (hb : ∀ r ∈ rows, r.length ≤ 140737488355328) :
    Call Try.prog w0 8 [vg, vl] H (fun r H' => r = .bool (greatP rows l.length) ∧ H' = H) := by
  refine Call.enter2 (n := 32) (by kernel_rfl) Try.func8 rfl rfl rfl ?_
  have hgl := hR.len
  have hgm := hG.le
  have hlm := hL.le
  unfold maxLen at hgm hlm
  refine K.seq ?_
  refine K.region ?_
  (refine KL.v rfl (Val.assign rfl) ?_)
  refine KL.nil ?_
  refine KE.next ?_
  refine K.seq ?_
  refine K.region ?_
  (refine KL.v rfl (Val.assign rfl) ?_)
  refine KL.nil ?_
  refine KE.next ?_
  refine K.seq ?_
  refine K.seq ?_
  refine K.region ?_
  (refine KL.v rfl (Val.assign rfl) ?_)
  refine KL.nil ?_
  refine KE.next ?_
  refine K.block ?_
  refine K.loopT (σ := GtS) [(0, _), (1, _)] (fun s kp_ => (6, .int .i64 (s.k : Nat)) :: (5, .int .i64 s.n) :: kp_) (fun s => H) (fun s => s.k ≤ rows.length ∧ (rows.length ≤ 40 → s.n = (totP (rows.take s.k) : Nat))) (fun s => rows.length - s.k) (⟨0, 0⟩) bySub byPart (⟨by simp, fun _ => by simp [totP]⟩) ?_
  rintro ⟨k, n⟩ ⟨hk, hn⟩
  dsimp only at hk hn ⊢
  by_cases hlt : k < rows.length
  · obtain ⟨r, hr⟩ := get_of_lt hlt
    obtain ⟨p, hp⟩ := get_of_lt (l := gs) (k := k) (by omega)
    have hrow := hR.row k p r hp hr
    have hrl := hb r (List.mem_of_getElem? hr)
    have hkg : k < gs.length := by omega
    by_cases h40 : rows.length ≤ 40
    · have hn' := hn h40
      have htl := tot_le hb k
      have hts := tot_snoc hr
      have hkm : k * 140737488355328 ≤ 40 * 140737488355328 := Nat.mul_le_mul_right _ (by omega)
      refine K.seq ?_
      refine K.seq ?_
      refine K.region ?_
      (refine KL.v rfl (Val.move rfl) ?_)
      (refine KL.v rfl (Val.move rfl) ?_)
      (refine KL.v rfl (Val.lenSl rfl rfl bySli) ?_)
      (refine KL.v rfl (Val.isT (Val.lss rfl rfl) byLt) ?_)
      refine KL.nil ?_
      refine KE.next ?_
      refine K.condT rfl ?_
      refine K.skip ?_
      refine KE.next ?_
      refine K.seq ?_
      refine K.block ?_
      refine K.region ?_
      (refine KL.v rfl (Val.move rfl) ?_)
      (refine KL.v rfl (Val.move rfl) ?_)
      (refine KL.v rfl (Val.move rfl) ?_)
      (refine KL.v rfl (Val.idxSl rfl rfl rfl bySli rfl byLt) ?_)
      (refine KL.v rfl (Val.loadP rfl rfl bySee) ?_)
      (refine KL.v rfl (Val.lenSl rfl rfl bySli) ?_)
      (refine KL.v rfl (Val.add rfl rfl (by simp only [Go.Proofs.Ytfgmofaadcbokaa.lo, Go.Proofs.Ytfgmofaadcbokaa.hi]; omega)) ?_)
      (refine KL.v rfl (Val.assign rfl) ?_)
      refine KL.nil ?_
      refine KE.blkN ?_
      refine KE.next ?_
      refine K.region ?_
      (refine KL.v rfl (Val.move rfl) ?_)
      (refine KL.v rfl (Val.add rfl rfl (by simp only [Go.Proofs.Ytfgmofaadcbokaa.lo, Go.Proofs.Ytfgmofaadcbokaa.hi]; omega)) ?_)
      (refine KL.v rfl (Val.assign rfl) ?_)
      refine KL.nil ?_
      exact KE.again ⟨k + 1, n + (r.length : Nat)⟩ bySub byPart ⟨by show k + 1 ≤ _; omega, fun _ => by show n + (r.length : Nat) = _; rw [hts]; omega⟩ (by show rows.length - (k + 1) < rows.length - k; omega)
    · skip
      refine K.seq ?_
      refine K.seq ?_
      refine K.region ?_
      (refine KL.v rfl (Val.move rfl) ?_)
      (refine KL.v rfl (Val.move rfl) ?_)
      (refine KL.v rfl (Val.lenSl rfl rfl bySli) ?_)
      (refine KL.v rfl (Val.isT (Val.lss rfl rfl) byLt) ?_)
      refine KL.nil ?_
      refine KE.next ?_
      refine K.condT rfl ?_
      refine K.skip ?_
      refine KE.next ?_
      refine K.seq ?_
      refine K.block ?_
      refine K.region ?_
      (refine KL.v rfl (Val.move rfl) ?_)
      (refine KL.v rfl (Val.move rfl) ?_)
      (refine KL.v rfl (Val.move rfl) ?_)
      (refine KL.v rfl (Val.idxSl rfl rfl rfl bySli rfl byLt) ?_)
      (refine KL.v rfl (Val.loadP rfl rfl bySee) ?_)
      (refine KL.v rfl (Val.lenSl rfl rfl bySli) ?_)
      (refine KL.v rfl (Val.addW rfl rfl) ?_)
      (refine KL.v rfl (Val.assign rfl) ?_)
      refine KL.nil ?_
      refine KE.blkN ?_
      refine KE.next ?_
      refine K.region ?_
      (refine KL.v rfl (Val.move rfl) ?_)
      (refine KL.v rfl (Val.add rfl rfl (by simp only [Go.Proofs.Ytfgmofaadcbokaa.lo, Go.Proofs.Ytfgmofaadcbokaa.hi]; omega)) ?_)
      (refine KL.v rfl (Val.assign rfl) ?_)
      refine KL.nil ?_
      exact KE.again ⟨k + 1, _⟩ bySub byPart ⟨by show k + 1 ≤ _; omega, fun h => absurd h h40⟩ (by show rows.length - (k + 1) < rows.length - k; omega)
  · by_cases h40 : rows.length ≤ 40
    · have hn' := hn h40
      rw [List.take_of_length_le (by omega)] at hn'
      by_cases h200 : 200 < totP rows
      · have hg : greatP rows l.length = true := by simp [greatP, h200]
        refine K.seq ?_
        refine K.seq ?_
        refine K.region ?_
        (refine KL.v rfl (Val.move rfl) ?_)
        (refine KL.v rfl (Val.move rfl) ?_)
        (refine KL.v rfl (Val.lenSl rfl rfl bySli) ?_)
        (refine KL.v rfl (Val.isF (Val.lss rfl rfl) byLt) ?_)
        refine KL.nil ?_
        refine KE.next ?_
        refine K.condF rfl ?_
        refine K.exit ?_
        refine KE.passX ?_
        refine KE.passX ?_
        refine KE.blkX ?_
        refine KE.next ?_
        refine K.seq ?_
        refine K.region ?_
        (refine KL.v rfl (Val.move rfl) ?_)
        (refine KL.v rfl (Val.lenSl rfl rfl bySli) ?_)
        (refine KL.v rfl (Val.isF (Val.gtr rfl rfl) byLt) ?_)
        (refine KL.v rfl (Val.move rfl) ?_)
        (refine KL.yes rfl rfl ?_; refine KL.v rfl (Val.move rfl) ?_)
        (refine KL.yes rfl rfl ?_; refine KL.v rfl (Val.isT (Val.gtr rfl rfl) byLt) ?_)
        (refine KL.v rfl (Val.pickF rfl rfl rfl) ?_)
        (refine KL.v rfl (Val.move rfl) ?_)
        refine KL.skipG rfl rfl rfl ?_
        refine KL.skipG rfl rfl rfl ?_
        refine KL.skipG rfl rfl rfl ?_
        (refine KL.v rfl (Val.pickT rfl rfl rfl) ?_)
        (refine KL.v rfl (Val.assign rfl) ?_)
        refine KL.nil ?_
        refine KE.next ?_
        refine K.ret ?_
        exact KE.fin byMarks rfl byRes byPart ⟨by rw [hg]; rfl, rfl⟩
      · by_cases h50 : 50 < l.length
        · have hg : greatP rows l.length = true := by simp [greatP, h50]
          refine K.seq ?_
          refine K.seq ?_
          refine K.region ?_
          (refine KL.v rfl (Val.move rfl) ?_)
          (refine KL.v rfl (Val.move rfl) ?_)
          (refine KL.v rfl (Val.lenSl rfl rfl bySli) ?_)
          (refine KL.v rfl (Val.isF (Val.lss rfl rfl) byLt) ?_)
          refine KL.nil ?_
          refine KE.next ?_
          refine K.condF rfl ?_
          refine K.exit ?_
          refine KE.passX ?_
          refine KE.passX ?_
          refine KE.blkX ?_
          refine KE.next ?_
          refine K.seq ?_
          refine K.region ?_
          (refine KL.v rfl (Val.move rfl) ?_)
          (refine KL.v rfl (Val.lenSl rfl rfl bySli) ?_)
          (refine KL.v rfl (Val.isF (Val.gtr rfl rfl) byLt) ?_)
          (refine KL.v rfl (Val.move rfl) ?_)
          (refine KL.yes rfl rfl ?_; refine KL.v rfl (Val.move rfl) ?_)
          (refine KL.yes rfl rfl ?_; refine KL.v rfl (Val.isF (Val.gtr rfl rfl) byLt) ?_)
          (refine KL.v rfl (Val.pickF rfl rfl rfl) ?_)
          (refine KL.v rfl (Val.move rfl) ?_)
          (refine KL.yes rfl rfl ?_; refine KL.v rfl (Val.move rfl) ?_)
          (refine KL.yes rfl rfl ?_; refine KL.v rfl (Val.lenSl rfl rfl bySli) ?_)
          (refine KL.yes rfl rfl ?_; refine KL.v rfl (Val.isT (Val.gtr rfl rfl) byLt) ?_)
          (refine KL.v rfl (Val.pickF rfl rfl rfl) ?_)
          (refine KL.v rfl (Val.assign rfl) ?_)
          refine KL.nil ?_
          refine KE.next ?_
          refine K.ret ?_
          exact KE.fin byMarks rfl byRes byPart ⟨by rw [hg]; rfl, rfl⟩
        · have hg : greatP rows l.length = false := by simp [greatP]; omega
          refine K.seq ?_
          refine K.seq ?_
          refine K.region ?_
          (refine KL.v rfl (Val.move rfl) ?_)
          (refine KL.v rfl (Val.move rfl) ?_)
          (refine KL.v rfl (Val.lenSl rfl rfl bySli) ?_)
          (refine KL.v rfl (Val.isF (Val.lss rfl rfl) byLt) ?_)
          refine KL.nil ?_
          refine KE.next ?_
          refine K.condF rfl ?_
          refine K.exit ?_
          refine KE.passX ?_
          refine KE.passX ?_
          refine KE.blkX ?_
          refine KE.next ?_
          refine K.seq ?_
          refine K.region ?_
          (refine KL.v rfl (Val.move rfl) ?_)
          (refine KL.v rfl (Val.lenSl rfl rfl bySli) ?_)
          (refine KL.v rfl (Val.isF (Val.gtr rfl rfl) byLt) ?_)
          (refine KL.v rfl (Val.move rfl) ?_)
          (refine KL.yes rfl rfl ?_; refine KL.v rfl (Val.move rfl) ?_)
          (refine KL.yes rfl rfl ?_; refine KL.v rfl (Val.isF (Val.gtr rfl rfl) byLt) ?_)
          (refine KL.v rfl (Val.pickF rfl rfl rfl) ?_)
          (refine KL.v rfl (Val.move rfl) ?_)
          (refine KL.yes rfl rfl ?_; refine KL.v rfl (Val.move rfl) ?_)
          (refine KL.yes rfl rfl ?_; refine KL.v rfl (Val.lenSl rfl rfl bySli) ?_)
          (refine KL.yes rfl rfl ?_; refine KL.v rfl (Val.isF (Val.gtr rfl rfl) byLt) ?_)
          (refine KL.v rfl (Val.pickF rfl rfl rfl) ?_)
          (refine KL.v rfl (Val.assign rfl) ?_)
          refine KL.nil ?_
          refine KE.next ?_
          refine K.ret ?_
          exact KE.fin byMarks rfl byRes byPart ⟨by rw [hg]; rfl, rfl⟩
    · have hg : greatP rows l.length = true := by simp [greatP]; omega
      refine K.seq ?_
      refine K.seq ?_
      refine K.region ?_
      (refine KL.v rfl (Val.move rfl) ?_)
      (refine KL.v rfl (Val.move rfl) ?_)
      (refine KL.v rfl (Val.lenSl rfl rfl bySli) ?_)
      (refine KL.v rfl (Val.isF (Val.lss rfl rfl) byLt) ?_)
      refine KL.nil ?_
      refine KE.next ?_
      refine K.condF rfl ?_
      refine K.exit ?_
      refine KE.passX ?_
      refine KE.passX ?_
      refine KE.blkX ?_
      refine KE.next ?_
      refine K.seq ?_
      refine K.region ?_
      (refine KL.v rfl (Val.move rfl) ?_)
      (refine KL.v rfl (Val.lenSl rfl rfl bySli) ?_)
      (refine KL.v rfl (Val.isT (Val.gtr rfl rfl) byLt) ?_)
      (refine KL.v rfl (Val.move rfl) ?_)
      refine KL.skipG rfl rfl rfl ?_
      refine KL.skipG rfl rfl rfl ?_
      (refine KL.v rfl (Val.pickT rfl rfl rfl) ?_)
      (refine KL.v rfl (Val.move rfl) ?_)
      refine KL.skipG rfl rfl rfl ?_
      refine KL.skipG rfl rfl rfl ?_
      refine KL.skipG rfl rfl rfl ?_
      (refine KL.v rfl (Val.pickT rfl rfl rfl) ?_)
      (refine KL.v rfl (Val.assign rfl) ?_)
      refine KL.nil ?_
      refine KE.next ?_
      refine K.ret ?_
      exact KE.fin byMarks rfl byRes byPart ⟨by rw [hg]; rfl, rfl⟩
theorem great_false {rows : List (List Int)} {k : Nat} (h : greatP rows k = false) : rows.length ≤ 40 ∧ totP rows ≤ 200 ∧ k ≤ 50 := by
  simp only [greatP, decide_eq_false_iff_not] at h
  omega

/-! ## awake -/
def rowsA : List (List Int) := [[1, 2], [3], [3, 9], [0], [4]]
def svA (b3 b4 b5 b6 b7 : Nat) : List SV := [⟨some ⟨b3, 0, none⟩, 2, 2⟩, ⟨some ⟨b4, 0, none⟩, 1, 1⟩, ⟨some ⟨b5, 0, none⟩, 2, 2⟩, ⟨some ⟨b6, 0, none⟩, 1, 1⟩, ⟨some ⟨b7, 0, none⟩, 1, 1⟩]
def HA (b3 b4 b5 b6 b7 b8 : Nat) : Heap := (b8, cells (flat svE (svA b3 b4 b5 b6 b7)) 23) :: (b7, cells (flat iE [4]) 3) :: (b6, cells (flat iE [0]) 3) :: (b5, cells (flat iE [3, 9]) 3) :: (b4, cells (flat iE [3]) 3) :: (b3, cells (flat iE [1, 2]) 3) :: []
theorem HA.rows {w0 w : World} {b3 b4 b5 b6 b7 b8 : Nat} (hw : HF w0 (HA b3 b4 b5 b6 b7 b8) w) : SlW w svE (.slice (some ⟨b8, 0, none⟩) 5 5) (svA b3 b4 b5 b6 b7) ∧ RowsI w (svA b3 b4 b5 b6 b7) rowsA := by
  refine ⟨(Sli.blk Take.head rfl (by simp [svA]) (by decide) rfl : Sli w0 (HA b3 b4 b5 b6 b7 b8) svE _ (svA b3 b4 b5 b6 b7)) w hw, rfl, ?_⟩
  have k3 : SlW w iE (.slice (some ⟨b3, 0, none⟩) 2 2) [1, 2] := (Sli.blk byTake rfl (by decide) (by decide) rfl : Sli w0 (HA b3 b4 b5 b6 b7 b8) iE _ [1, 2]) w hw
  have k4 : SlW w iE (.slice (some ⟨b4, 0, none⟩) 1 1) [3] := (Sli.blk byTake rfl (by decide) (by decide) rfl : Sli w0 (HA b3 b4 b5 b6 b7 b8) iE _ [3]) w hw
  have k5 : SlW w iE (.slice (some ⟨b5, 0, none⟩) 2 2) [3, 9] := (Sli.blk byTake rfl (by decide) (by decide) rfl : Sli w0 (HA b3 b4 b5 b6 b7 b8) iE _ [3, 9]) w hw
  have k6 : SlW w iE (.slice (some ⟨b6, 0, none⟩) 1 1) [0] := (Sli.blk byTake rfl (by decide) (by decide) rfl : Sli w0 (HA b3 b4 b5 b6 b7 b8) iE _ [0]) w hw
  have k7 : SlW w iE (.slice (some ⟨b7, 0, none⟩) 1 1) [4] := (Sli.blk byTake rfl (by decide) (by decide) rfl : Sli w0 (HA b3 b4 b5 b6 b7 b8) iE _ [4]) w hw
  intro i p r hp hr
  match i with
  | 0 => cases hp; cases hr; exact k3
  | 1 => cases hp; cases hr; exact k4
  | 2 => cases hp; cases hr; exact k5
  | 3 => cases hp; cases hr; exact k6
  | 4 => cases hp; cases hr; exact k7
  | n + 5 => simp [svA] at hp

set_option maxRecDepth 10000 in
set_option maxHeartbeats 4000000 in
theorem awake_K {w0 : World} {H : Heap} : Call Try.prog w0 9 [] H (fun r H' => r = .bool true ∧ H' = H) := by
  refine Call.enter0 (n := 60) (by kernel_rfl) Try.func9 rfl rfl rfl ?_
  have hbb : ∀ r ∈ rowsA, r.length ≤ 1000 := by decide
  have htt : totP rowsA ≤ 1000 := by decide
  have hsl : ∀ a b c d e, (svA a b c d e).length ≤ 100 := fun a b c d e => by simp [svA]
  have e1 : reachP rowsA [1] = [true, true, true, true, false] := by decide +kernel
  have e2 : depthsP rowsA [2, 9] = [2, 3, 0, 1, -1] := by decide +kernel
  have e3 : wayP rowsA [0] 3 = [0, 1, 3] := by decide +kernel
  have e4 : wayP rowsA [4] 0 = [] := by decide +kernel
  have e5 : closedP rowsA [true, true, true, true] = true := by decide +kernel
  have e6 : closedP rowsA [true, true] = false := by decide +kernel
  have e7 : (turnP rowsA)[3]? = some [1, 2] := by decide +kernel
  refine K.seq ?_
  refine K.region ?_
  (refine KL.v rfl (Val.assign rfl) ?_)
  refine KL.nil ?_
  refine KE.next ?_
  refine K.seq ?_
  refine K.region ?_
  (refine KL.e rfl (Eff.buildS byParts rfl rfl rfl rfl rfl byFill) ?_; rintro _ _ ⟨b3, rfl, rfl⟩)
  (refine KL.e rfl (Eff.buildS byParts rfl rfl rfl rfl rfl byFill) ?_; rintro _ _ ⟨b4, rfl, rfl⟩)
  (refine KL.e rfl (Eff.buildS byParts rfl rfl rfl rfl rfl byFill) ?_; rintro _ _ ⟨b5, rfl, rfl⟩)
  (refine KL.e rfl (Eff.buildS byParts rfl rfl rfl rfl rfl byFill) ?_; rintro _ _ ⟨b6, rfl, rfl⟩)
  (refine KL.e rfl (Eff.buildS byParts rfl rfl rfl rfl rfl byFill) ?_; rintro _ _ ⟨b7, rfl, rfl⟩)
  (refine KL.e rfl (Eff.buildS byParts rfl rfl rfl rfl rfl byFill) ?_; rintro _ _ ⟨b8, rfl, rfl⟩)
  (refine KL.v rfl (Val.assign rfl) ?_)
  refine KL.nil ?_
  refine KE.next ?_
  refine K.part (HA b3 b4 b5 b6 b7 b8 ++ H) (by exact Part.all) ?_
  refine K.seq ?_
  refine K.region ?_
  (refine KL.v rfl (Val.move rfl) ?_)
  (refine KL.callc rfl rfl byEvL fun T hT => ?_)
  refine (CallV.pure fun w hw => CallV.fn (Turned_K (HA.rows (hw.part byPart)).1 (HA.rows (hw.part byPart)).2 (hsl _ _ _ _ _) hbb)).mono ?_
  rintro _ _ ⟨_, ⟨ws, ow, okw, hmp, oks, rfl, rfl⟩, rfl⟩
  simp only [List.append_assoc]
  have hwl : ws.length = 5 := by rw [← List.length_map (f := (·.2)), hmp]; rfl
  obtain ⟨p3, hp3⟩ := get_of_lt (l := ws) (k := 3) (by omega)
  have hp32 : p3.2 = [1, 2] := by
    have h1 : (ws.map (·.2))[3]? = some p3.2 := by rw [List.getElem?_map, hp3]; rfl
    rw [hmp, e7] at h1
    exact (Option.some.inj h1).symm
  have ok3 := oks p3 (List.mem_of_getElem? hp3)
  refine hT _ _ ?_; clear hT; clear T
  (refine KL.v rfl (Val.assign rfl) ?_)
  refine KL.nil ?_
  refine KE.next ?_
  refine K.seq ?_
  refine K.region ?_
  (refine KL.v rfl (Val.move rfl) ?_)
  (refine KL.e rfl (Eff.buildS byParts rfl rfl rfl rfl rfl byFill) ?_; rintro _ _ ⟨b12, rfl, rfl⟩)
  (refine KL.callc rfl rfl byEvL fun T hT => ?_)
  refine (CallV.pure fun w hw => CallV.fn (Reach_K (l := [1]) (HA.rows (hw.part byPart)).1 (HA.rows (hw.part byPart)).2 ((Sli.blk byTake rfl (by simp) (by simp [maxLen]) rfl : Sli w0 _ iE _ [1]) w hw) (by simp) (hsl _ _ _ _ _) hbb)).mono ?_
  rintro _ _ ⟨_, ⟨o1, ok1, rfl, rfl⟩, rfl⟩
  rw [e1] at ok1 ⊢
  refine hT _ _ ?_; clear hT; clear T
  (refine KL.e rfl (Eff.buildS byParts rfl rfl rfl rfl rfl byFill) ?_; rintro _ _ ⟨b14, rfl, rfl⟩)
  (refine KL.callc rfl rfl byEvL fun T hT => ?_)
  refine (CallV.pure fun w hw => CallV.fn (SameBools_K ((Sli.own byTakeL ok1 rfl : Sli w0 _ boE _ _) w hw) ((Sli.blk byTake rfl (by simp) (by simp [maxLen]) rfl : Sli w0 _ boE _ [true, true, true, true, false]) w hw))).mono ?_
  rintro _ _ ⟨_, ⟨rfl, rfl⟩, rfl⟩
  rw [decide_eq_true rfl]
  refine hT _ _ ?_; clear hT; clear T
  (refine KL.v rfl (Val.move rfl) ?_)
  (refine KL.yes rfl rfl ?_; refine KL.v rfl (Val.move rfl) ?_)
  (refine KL.yes rfl rfl ?_; refine KL.e rfl (Eff.buildS byParts rfl rfl rfl rfl rfl byFill) ?_; rintro _ _ ⟨b18, rfl, rfl⟩)
  (refine KL.yes rfl rfl ?_; refine KL.callc rfl rfl byEvL fun T hT => ?_)
  refine (CallV.pure fun w hw => CallV.fn (Depths_K (l := [2, 9]) (HA.rows (hw.part byPart)).1 (HA.rows (hw.part byPart)).2 ((Sli.blk byTake rfl (by simp) (by simp [maxLen]) rfl : Sli w0 _ iE _ [2, 9]) w hw) (by simp) (hsl _ _ _ _ _) hbb)).mono ?_
  rintro _ _ ⟨_, ⟨o2, ok2, rfl, rfl⟩, rfl⟩
  rw [e2] at ok2 ⊢
  refine hT _ _ ?_; clear hT; clear T
  (refine KL.yes rfl rfl ?_; refine KL.e rfl (Eff.buildS byParts rfl rfl rfl rfl rfl byFill) ?_; rintro _ _ ⟨b20, rfl, rfl⟩)
  (refine KL.yes rfl rfl ?_; refine KL.callc rfl rfl byEvL fun T hT => ?_)
  refine (CallV.pure fun w hw => CallV.fn (Same_K ((Sli.own byTakeL ok2 rfl : Sli w0 _ iE _ _) w hw) ((Sli.blk byTake rfl (by simp) (by simp [maxLen]) rfl : Sli w0 _ iE _ [2, 3, 0, 1, -1]) w hw))).mono ?_
  rintro _ _ ⟨_, ⟨rfl, rfl⟩, rfl⟩
  rw [decide_eq_true rfl]
  refine hT _ _ ?_; clear hT; clear T
  (refine KL.v rfl (Val.pickT rfl rfl rfl) ?_)
  (refine KL.v rfl (Val.move rfl) ?_)
  (refine KL.yes rfl rfl ?_; refine KL.v rfl (Val.move rfl) ?_)
  (refine KL.yes rfl rfl ?_; refine KL.e rfl (Eff.buildS byParts rfl rfl rfl rfl rfl byFill) ?_; rintro _ _ ⟨b25, rfl, rfl⟩)
  (refine KL.yes rfl rfl ?_; refine KL.callc rfl rfl byEvL fun T hT => ?_)
  refine (CallV.pure fun w hw => CallV.fn (Way_K (l := [0]) (to := 3) (HA.rows (hw.part byPart)).1 (HA.rows (hw.part byPart)).2 ((Sli.blk byTake rfl (by simp) (by simp [maxLen]) rfl : Sli w0 _ iE _ [0]) w hw) (by simp) (hsl _ _ _ _ _) htt)).mono ?_
  rintro _ _ ⟨_, ⟨o4, ok4, rfl, rfl⟩, rfl⟩
  rw [e3] at ok4 ⊢
  refine hT _ _ ?_; clear hT; clear T
  (refine KL.yes rfl rfl ?_; refine KL.e rfl (Eff.buildS byParts rfl rfl rfl rfl rfl byFill) ?_; rintro _ _ ⟨b27, rfl, rfl⟩)
  (refine KL.yes rfl rfl ?_; refine KL.callc rfl rfl byEvL fun T hT => ?_)
  refine (CallV.pure fun w hw => CallV.fn (Same_K ((Sli.own byTakeL ok4 rfl : Sli w0 _ iE _ _) w hw) ((Sli.blk byTake rfl (by simp) (by simp [maxLen]) rfl : Sli w0 _ iE _ [0, 1, 3]) w hw))).mono ?_
  rintro _ _ ⟨_, ⟨rfl, rfl⟩, rfl⟩
  rw [decide_eq_true rfl]
  refine hT _ _ ?_; clear hT; clear T
  (refine KL.v rfl (Val.pickT rfl rfl rfl) ?_)
  (refine KL.v rfl (Val.move rfl) ?_)
  (refine KL.yes rfl rfl ?_; refine KL.v rfl (Val.move rfl) ?_)
  (refine KL.yes rfl rfl ?_; refine KL.e rfl (Eff.buildS byParts rfl rfl rfl rfl rfl byFill) ?_; rintro _ _ ⟨b32, rfl, rfl⟩)
  (refine KL.yes rfl rfl ?_; refine KL.callc rfl rfl byEvL fun T hT => ?_)
  refine (CallV.pure fun w hw => CallV.fn (Way_K (l := [4]) (to := 0) (HA.rows (hw.part byPart)).1 (HA.rows (hw.part byPart)).2 ((Sli.blk byTake rfl (by simp) (by simp [maxLen]) rfl : Sli w0 _ iE _ [4]) w hw) (by simp) (hsl _ _ _ _ _) htt)).mono ?_
  rintro _ _ ⟨_, ⟨o6, ok6, rfl, rfl⟩, rfl⟩
  rw [e4] at ok6 ⊢
  refine hT _ _ ?_; clear hT; clear T
  (refine KL.yes rfl rfl ?_; refine KL.v rfl (Val.lenSl rfl rfl bySli) ?_)
  (refine KL.yes rfl rfl ?_; refine KL.v rfl (Val.eql rfl rfl) ?_)
  (refine KL.v rfl (Val.pickT rfl rfl rfl) ?_)
  (refine KL.v rfl (Val.move rfl) ?_)
  (refine KL.yes rfl rfl ?_; refine KL.v rfl (Val.move rfl) ?_)
  (refine KL.yes rfl rfl ?_; refine KL.v rfl (Val.lenSl rfl rfl bySli) ?_)
  (refine KL.yes rfl rfl ?_; refine KL.v rfl (Val.isT (Val.eql rfl rfl) byLt) ?_)
  (refine KL.v rfl (Val.pickT rfl rfl rfl) ?_)
  (refine KL.v rfl (Val.move rfl) ?_)
  (refine KL.yes rfl rfl ?_; refine KL.v rfl (Val.move rfl) ?_)
  (refine KL.yes rfl rfl ?_; refine KL.v rfl (Val.idxSlZ rfl rfl rfl bySli rfl (by omega)) ?_)
  (refine KL.yes rfl rfl ?_; refine KL.v rfl (Val.loadP rfl rfl bySee) ?_)
  (refine KL.yes rfl rfl ?_; refine KL.e rfl (Eff.buildS byParts rfl rfl rfl rfl rfl byFill) ?_; rintro _ _ ⟨b46, rfl, rfl⟩)
  (refine KL.yes rfl rfl ?_; refine KL.callc rfl rfl byEvL fun T hT => ?_)
  refine (CallV.pure fun w hw => CallV.fn (Same_K ((row_own hp3 ok3 byPart : Sli w0 _ iE _ _) w hw) ((Sli.blk byTake rfl (by simp) (by simp [maxLen]) rfl : Sli w0 _ iE _ [1, 2]) w hw))).mono ?_
  rintro _ _ ⟨_, ⟨rfl, rfl⟩, rfl⟩
  rw [decide_eq_true hp32]
  refine hT _ _ ?_; clear hT; clear T
  (refine KL.v rfl (Val.pickT rfl rfl rfl) ?_)
  (refine KL.v rfl (Val.move rfl) ?_)
  (refine KL.yes rfl rfl ?_; refine KL.v rfl (Val.move rfl) ?_)
  (refine KL.yes rfl rfl ?_; refine KL.e rfl (Eff.buildS byParts rfl rfl rfl rfl rfl byFill) ?_; rintro _ _ ⟨b51, rfl, rfl⟩)
  (refine KL.yes rfl rfl ?_; refine KL.callc rfl rfl byEvL fun T hT => ?_)
  refine (CallV.pure fun w hw => CallV.fn (Closed_K (HA.rows (hw.part byPart)).1 (HA.rows (hw.part byPart)).2 ((Sli.blk byTake rfl (by simp) (by simp [maxLen]) rfl : Sli w0 _ boE _ [true, true, true, true]) w hw) (hsl _ _ _ _ _) hbb)).mono ?_
  rintro _ _ ⟨_, ⟨rfl, rfl⟩, rfl⟩
  rw [e5]
  refine hT _ _ ?_; clear hT; clear T
  (refine KL.v rfl (Val.pickT rfl rfl rfl) ?_)
  (refine KL.v rfl (Val.move rfl) ?_)
  (refine KL.yes rfl rfl ?_; refine KL.v rfl (Val.move rfl) ?_)
  (refine KL.yes rfl rfl ?_; refine KL.e rfl (Eff.buildS byParts rfl rfl rfl rfl rfl byFill) ?_; rintro _ _ ⟨b56, rfl, rfl⟩)
  (refine KL.yes rfl rfl ?_; refine KL.callc rfl rfl byEvL fun T hT => ?_)
  refine (CallV.pure fun w hw => CallV.fn (Closed_K (HA.rows (hw.part byPart)).1 (HA.rows (hw.part byPart)).2 ((Sli.blk byTake rfl (by simp) (by simp [maxLen]) rfl : Sli w0 _ boE _ [true, true]) w hw) (hsl _ _ _ _ _) hbb)).mono ?_
  rintro _ _ ⟨_, ⟨rfl, rfl⟩, rfl⟩
  rw [e6]
  refine hT _ _ ?_; clear hT; clear T
  (refine KL.yes rfl rfl ?_; refine KL.v rfl (Val.notF rfl) ?_)
  (refine KL.v rfl (Val.pickT rfl rfl rfl) ?_)
  (refine KL.v rfl (Val.assign rfl) ?_)
  refine KL.nil ?_
  refine KE.next ?_
  refine K.ret ?_
  exact KE.fin byMarks rfl byRes byPart ⟨rfl, rfl⟩

/-! ## what came in -/
theorem weightsAll_mem {H : Type} {P : Program} {e : TypeId} {n : Nat} {d : DataW H} : ∀ {l : List (DataW H)}, d ∈ l → n ∈ d.weights P e → n ∈ DataW.weightsAll P e l
  | a :: l, h, hn => by
    simp only [DataW.weightsAll, List.mem_append]
    rcases List.mem_cons.1 h with rfl | h
    · exact .inl hn
    · exact .inr (weightsAll_mem h hn)
theorem slice_trZ {P : Program} {α : Type} {E : Enc α} {H : Type} {enc : TypeId × Value → H} {W : World} {t e : TypeId} (ht : P.underlying t = some (.slice e)) (hk : P.cellsOf e = E.sz) (hk0 : 0 < E.sz) {fuel : Nat} {cs : List Value} {x : DataW H × List MemPlace}
    (hf : DataW.trod enc P W 0 (fun _ => true) true fuel t cs = some x) (hz : ∀ n ∈ x.1.weights P t, n ≤ reachBytes) (Ok : α → Prop)
    (hR : ∀ fuel cs x, DataW.trod enc P W 0 (fun _ => true) true fuel e cs = some x → (∀ n ∈ x.1.weights P e, n ≤ reachBytes) → cs.length = E.sz → ∃ y, cs = E.enc y ∧ Ok y) :
    ∃ a n c ys, cs = [.slice a n c] ∧ SlW W E (.slice a n c) ys ∧ (∀ y ∈ ys, Ok y) ∧ ys.length * P.bytesOf e ≤ reachBytes := by
  rcases open_slice ht hf with ⟨hcs, _⟩ | ⟨a', len', cap', m, n, D, Pl, hcs, _, hl, hm, hmm, hxd, hx⟩
  · exact ⟨none, 0, 0, [], hcs, SlW.nil W E, (fun y hy => by cases hy), by simp⟩
  · simp only [if_true] at hmm
    subst hmm
    subst hxd
    simp only [DataW.weights, ht] at hz
    have key : ∀ i, i < len' → ∃ y, Ok y ∧ ∀ j, j < E.sz → W.cell? (a'.add (i * E.sz + j)) = (E.enc y)[j]? := by
      intro i hi
      obtain ⟨cs', h1, h2⟩ := hx i (by omega)
      rw [hk] at h1
      obtain ⟨_, hlen, hat⟩ := World.cells?_some h1
      obtain ⟨y, rfl, hy⟩ := hR _ _ _ h2 (fun n hn => hz n (by
        refine List.mem_cons_of_mem _ (List.mem_append_left _ (weightsAll_mem (d := D i) ?_ hn))
        exact List.mem_map_of_mem (List.mem_range.2 hi))) hlen
      exact ⟨y, hy, fun j hj => by rw [← add_add]; exact hat j hj⟩
    obtain ⟨ys, hys, hall⟩ := exists_list len' (fun i y => Ok y ∧ ∀ j, j < E.sz → W.cell? (a'.add (i * E.sz + j)) = (E.enc y)[j]?) key
    subst hys
    have hspot : 0 < ys.length → ∃ b off, a' = ⟨b, off, none⟩ := by
      intro hpos
      obtain ⟨b, off, spot⟩ := a'
      obtain ⟨y0, _, hc0⟩ := key 0 hpos
      have h1 := hc0 0 hk0
      rw [List.getElem?_eq_getElem (by rw [E.len]; exact hk0)] at h1
      have hsp : spot = none := by simpa [Addr.add] using World.cell?_spot h1
      subst hsp
      exact ⟨b, off, rfl⟩
    refine ⟨some a', ys.length, _, ys, hcs, ⟨⟨some a', _, rfl, hl, hm, fun hne => ?_⟩, ?_⟩, ?_, ?_⟩
    · obtain ⟨b, off, rfl⟩ := hspot (List.length_pos_iff.2 hne)
      exact ⟨b, off, rfl⟩
    · intro i y hy j u hu
      have hi := (List.getElem?_eq_some_iff.1 hy).1
      obtain ⟨b, off, rfl⟩ := hspot (by omega)
      have hj : j < E.sz := by have := (List.getElem?_eq_some_iff.1 hu).1; rwa [E.len] at this
      have := (hall i y hy).2 j hj
      rw [add_mk, hu] at this
      simpa [adr] using this
    · intro y hy
      obtain ⟨i, hi⟩ := List.getElem?_of_mem hy
      exact (hall i y hi).1
    · have := hz _ (List.mem_cons_self ..)
      simp only [List.length_map, List.length_range] at this
      refine Nat.le_trans (Nat.mul_le_mul_right _ ?_) this
      omega
def i64ok (z : Int) : Prop := -9223372036854775808 ≤ z ∧ z ≤ 9223372036854775807
section
variable {H : Type} {enc : TypeId × Value → H} {W : World}
theorem int_in {fuel : Nat} {cs : List Value} {x : DataW H × List MemPlace} (hx : DataW.trod enc Try.prog W 0 (fun _ => true) true fuel 3 cs = some x) : ∃ y : Int, cs = iE.enc y ∧ i64ok y := by
  obtain ⟨a0, e0, -, w0⟩ := DataW.trod_int Try.underlying3 hx
  exact ⟨a0, e0, by simpa [Lit.wf, IntKind.min, IntKind.max, IntKind.signed, IntKind.bits, i64ok] using w0⟩
theorem ints_sl {base : Nat} {v : Value} {d : DataW H} {p : List MemPlace} (ho : Value.okWide Try.prog W .any base 23 v) (h : DataW.Trod enc Try.prog W 0 (fun _ => true) true 23 v d p) :
    ∃ l : List Int, SlW W iE v l ∧ ∀ x ∈ l, i64ok x := slice_sl (P := Try.prog) (E := iE) Try.underlying23 (by kernel_rfl) (by decide) ho h i64ok (fun fuel cs x hx hl => int_in hx)
theorem bools_sl {base : Nat} {v : Value} {d : DataW H} {p : List MemPlace} (ho : Value.okWide Try.prog W .any base 29 v) (h : DataW.Trod enc Try.prog W 0 (fun _ => true) true 29 v d p) :
    ∃ l : List Bool, SlW W boE v l := by
  obtain ⟨l, hl, _⟩ := slice_sl (P := Try.prog) (E := boE) Try.underlying29 (by kernel_rfl) (by decide) ho h (fun _ => True) (fun fuel cs x hx hl => by
    obtain ⟨a0, e0, -⟩ := DataW.trod_bool Try.underlying4 hx
    exact ⟨a0, e0, trivial⟩)
  exact ⟨l, hl⟩
theorem graph_sl {base : Nat} {v : Value} {d : DataW H} {p : List MemPlace} (ho : Value.okWide Try.prog W .any base 22 v) (h : DataW.Trod enc Try.prog W 0 (fun _ => true) true 22 v d p) (hz : ∀ n ∈ d.weights Try.prog 22, n ≤ reachBytes) :
    ∃ (gs : List SV) (rows : List (List Int)), SlW W svE v gs ∧ RowsI W gs rows ∧ (∀ r ∈ rows, r.length ≤ 140737488355328) := by
  obtain ⟨a, len, cap, rfl⟩ := okWide_slice Try.underlying22 ho
  obtain ⟨fuel, hf⟩ := h
  have hb8 : (Try.prog).bytesOf 3 = 8 := by kernel_rfl
  obtain ⟨a', n', c', ps, hcs, hS, hok, _⟩ := slice_trZ (P := Try.prog) (E := svE) Try.underlying22 (by kernel_rfl) (by decide) hf hz (fun q => ∃ r : List Int, SlW W iE (.slice q.a q.n q.c) r ∧ r.length * 8 ≤ reachBytes) (fun fuel cs x hx hzz hl => by
    obtain ⟨a, n, c, ys, rfl, hs, hy, hbz⟩ := slice_trZ (P := Try.prog) (E := iE) Try.underlying23 (by kernel_rfl) (by decide) hx hzz i64ok (fun fuel cs x hx _ hl => int_in hx)
    rw [hb8] at hbz
    exact ⟨⟨a, n, c⟩, rfl, ys, hs, hbz⟩)
  simp [Value.cells] at hcs
  obtain ⟨rfl, rfl, rfl⟩ := hcs
  obtain ⟨rows, hrl, hrows⟩ := exists_list ps.length (fun i (r : List Int) => ∀ q, ps[i]? = some q → SlW W iE (.slice q.a q.n q.c) r ∧ r.length * 8 ≤ reachBytes) (fun i hi => by
    obtain ⟨q, hq⟩ := get_of_lt hi
    obtain ⟨r, hr⟩ := hok q (List.mem_of_getElem? hq)
    exact ⟨r, fun q' hq' => by rw [hq] at hq'; cases hq'; exact hr⟩)
  refine ⟨ps, rows, hS, ⟨hrl.symm, fun i q r hq hr => (hrows i r hr q hq).1⟩, fun r hr => ?_⟩
  obtain ⟨i, hi⟩ := List.getElem?_of_mem hr
  obtain ⟨q, hq⟩ := get_of_lt (l := ps) (k := i) (by have := lt_of_get hi; omega)
  have := (hrows i r hi q hq).2
  have := reachBytes_lt
  omega
end
end Go.Proofs.Ytfgmofaadcbokaa
