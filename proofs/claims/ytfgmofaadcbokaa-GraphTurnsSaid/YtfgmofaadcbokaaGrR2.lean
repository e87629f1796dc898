/- Graph: the document's Depths and Reach. -/
import Derived.Test.YtfgmofaadcbokaaGrWC
namespace Go.Proofs.Ytfgmofaadcbokaa
open Go.RowKit
set_option linter.unusedVariables false
set_option linter.unusedSimpArgs false

theorem in_S {rows : List (List Int)} {frm : List Int} {d : Nat} {x : Int} : x ∈ (stP rows frm d).1 ↔ ∃ j, j ≤ d ∧ x ∈ lvl rows frm j := by
  rw [(st_mem rows frm d).1 x]
  constructor
  · rintro ⟨j, hj, hp⟩
    obtain ⟨i, hi, h1, h2⟩ := hp.least
    exact ⟨i, by omega, ((st_mem rows frm i).2 x).2 ⟨h1, h2⟩⟩
  · rintro ⟨j, hj, hx⟩
    exact ⟨j, hj, (((st_mem rows frm j).2 x).1 hx).1⟩
theorem lvl_uniq {rows : List (List Int)} {frm : List Int} {i j : Nat} {x : Int} (hi : x ∈ lvl rows frm i) (hj : x ∈ lvl rows frm j) : i = j := by
  have := (IsD.ofLvl hi).uniq (IsD.ofLvl hj)
  omega

/-- the list of depths in round d, where the targets B have come -/
def RD (rows : List (List Int)) (frm : List Int) (d : Nat) (B : Int → Prop) (out : List Int) : Prop := out.length = rows.length ∧ ∀ (x : Nat) (v : Int), out[x]? = some v →
  (∃ j : Nat, j ≤ d ∧ v = j ∧ (x : Int) ∈ lvl rows frm j) ∨ ((∀ j, j ≤ d → (x : Int) ∉ lvl rows frm j) ∧ ((B x ∧ v = (d : Int) + 1) ∨ (¬ B x ∧ v = -1)))
def RB (rows : List (List Int)) (frm : List Int) (d m i : Nat) (x : Int) : Prop := (∃ y : Nat, y < m ∧ (y : Int) ∈ lvl rows frm d ∧ x ∈ rowP rows (y : Int)) ∨ ((m : Int) ∈ lvl rows frm d ∧ x ∈ (rowP rows (m : Int)).take i)
theorem RD.congr {rows : List (List Int)} {frm : List Int} {d : Nat} {B B' : Int → Prop} {out : List Int} (h : RD rows frm d B out) (hb : ∀ x : Nat, x < rows.length → (B x ↔ B' x)) : RD rows frm d B' out := by
  refine ⟨h.1, fun x v hx => ?_⟩
  have hx' := lt_of_get hx
  rw [h.1] at hx'
  have := h.2 x v hx
  rw [hb x hx'] at this
  exact this
theorem RD.at_d {rows : List (List Int)} {frm : List Int} {d : Nat} {B : Int → Prop} {out : List Int} (h : RD rows frm d B out) {x : Nat} {v : Int} (hx : out[x]? = some v) : v = d ↔ (x : Int) ∈ lvl rows frm d := by
  rcases h.2 x v hx with ⟨j, hj, rfl, hl⟩ | ⟨hn, (⟨_, rfl⟩ | ⟨_, rfl⟩)⟩
  · constructor
    · intro e; have : j = d := by omega
      subst this; exact hl
    · intro hl'; rw [lvl_uniq hl hl']
  · exact ⟨fun e => by omega, fun hl => absurd hl (hn d (Nat.le_refl _))⟩
  · exact ⟨fun e => by omega, fun hl => absurd hl (hn d (Nat.le_refl _))⟩
/-- an edge to t -/
theorem RD.put {rows : List (List Int)} {frm : List Int} {d : Nat} {B : Int → Prop} {out : List Int} (h : RD rows frm d B out) {t : Nat} {v : Int} (ht : out[t]? = some v) (hv : v < 0) : RD rows frm d (fun x => B x ∨ x = t) (out.set t ((d : Int) + 1)) := by
  refine ⟨by simpa using h.1, fun x u hx => ?_⟩
  by_cases e : t = x
  · subst e
    rw [List.getElem?_set_self (lt_of_get ht)] at hx
    cases hx
    rcases h.2 t v ht with ⟨j, hj, rfl, hl⟩ | ⟨hn, _⟩
    · omega
    · exact .inr ⟨hn, .inl ⟨.inr rfl, rfl⟩⟩
  · rw [List.getElem?_set_ne e] at hx
    rcases h.2 x u hx with h1 | ⟨hn, (⟨h1, h2⟩ | ⟨h1, h2⟩)⟩
    · exact .inl h1
    · exact .inr ⟨hn, .inl ⟨.inl h1, h2⟩⟩
    · exact .inr ⟨hn, .inr ⟨fun hh => by rcases hh with hh | hh; exact h1 hh; omega, h2⟩⟩
theorem RD.skip {rows : List (List Int)} {frm : List Int} {d : Nat} {B : Int → Prop} {out : List Int} (h : RD rows frm d B out) {t v : Int} (ht : ∀ x : Nat, x < rows.length → (x : Int) = t → out[x]? = some v) (hv : ¬ v < 0) : RD rows frm d (fun x => B x ∨ x = t) out := by
  refine ⟨h.1, fun x u hx => ?_⟩
  have hxl := lt_of_get hx
  rw [h.1] at hxl
  rcases h.2 x u hx with h1 | ⟨hn, (⟨h1, h2⟩ | ⟨h1, h2⟩)⟩
  · exact .inl h1
  · exact .inr ⟨hn, .inl ⟨.inl h1, h2⟩⟩
  · refine .inr ⟨hn, .inr ⟨fun hh => ?_, h2⟩⟩
    rcases hh with hh | hh
    · exact h1 hh
    · have := ht x hxl hh
      rw [hx] at this
      cases this
      omega
theorem RD.next {rows : List (List Int)} {frm : List Int} {d : Nat} {out : List Int} (h : RD rows frm d (RB rows frm d rows.length 0) out) : RD rows frm (d + 1) (RB rows frm (d + 1) 0 0) out := by
  have hB : ∀ x : Nat, x < rows.length → (RB rows frm d rows.length 0 x ↔ ∃ y ∈ lvl rows frm d, (x : Int) ∈ rowP rows y) := by
    intro x hx
    unfold RB
    simp only [List.take_zero, List.not_mem_nil, and_false, or_false]
    constructor
    · rintro ⟨y, _, h1, h2⟩; exact ⟨y, h1, h2⟩
    · rintro ⟨y, h1, h2⟩
      obtain ⟨y, rfl, hy⟩ := (((st_mem rows frm d).2 y).1 h1).1.nd.nat
      exact ⟨y, hy, h1, h2⟩
  have hL : ∀ x : Nat, x < rows.length → ((x : Int) ∈ lvl rows frm (d + 1) ↔ (∃ y ∈ lvl rows frm d, (x : Int) ∈ rowP rows y) ∧ ∀ j, j ≤ d → (x : Int) ∉ lvl rows frm j) := by
    intro x hx
    show (x : Int) ∈ freshP rows.length (stP rows frm d).1 (belowP rows (stP rows frm d).2) ↔ _
    rw [fresh_mem, mem_below, in_S]
    constructor
    · rintro ⟨h1, _, h2⟩; exact ⟨h1, fun j hj hx => h2 ⟨j, hj, hx⟩⟩
    · rintro ⟨h1, h2⟩; exact ⟨h1, ⟨by omega, by omega⟩, fun ⟨j, hj, hx⟩ => h2 j hj hx⟩
  refine ⟨h.1, fun x v hx => ?_⟩
  have hxl := lt_of_get hx
  rw [h.1] at hxl
  have hnb : ¬ RB rows frm (d + 1) 0 0 x := by unfold RB; simp
  rcases h.2 x v hx with ⟨j, hj, rfl, hl⟩ | ⟨hn, (⟨h1, h2⟩ | ⟨h1, h2⟩)⟩
  · exact .inl ⟨j, by omega, rfl, hl⟩
  · exact .inl ⟨d + 1, Nat.le_refl _, by rw [h2]; simp, (hL x hxl).2 ⟨(hB x hxl).1 h1, hn⟩⟩
  · refine .inr ⟨fun j hj hl => ?_, .inr ⟨hnb, h2⟩⟩
    rcases Nat.lt_or_ge d j with hd | hd
    · have : j = d + 1 := by omega
      subst this
      exact h1 ((hB x hxl).2 ((hL x hxl).1 hl).1)
    · exact hn j hd hl
theorem RD.fin {rows : List (List Int)} {frm : List Int} {out : List Int} (h : RD rows frm rows.length (RB rows frm rows.length 0 0) out) : out = depthsP rows frm := by
  apply List.ext_getElem?
  intro x
  rcases Nat.lt_or_ge x rows.length with hx | hx
  · obtain ⟨v, hv⟩ := get_of_lt (l := out) (k := x) (by rw [h.1]; exact hx)
    rw [hv]
    refine (depths_is hx ?_).symm
    have hnb : ¬ RB rows frm rows.length 0 0 x := by unfold RB; simp
    rcases h.2 x v hv with ⟨j, hj, rfl, hl⟩ | ⟨hn, (⟨h1, h2⟩ | ⟨h1, h2⟩)⟩
    · exact IsD.ofLvl hl
    · exact absurd h1 hnb
    · rw [h2]
      refine IsD.none fun j hj => ?_
      exact hn j (lvl_le (List.ne_nil_of_mem hj)) hj
  · rw [List.getElem?_eq_none (by rw [h.1]; exact hx), List.getElem?_eq_none (by rw [depths_len]; exact hx)]

structure RS where
  k : Nat
  out : List Int
  o : Own
structure RS2 where
  k : Nat
  out : List Int

def initP (frm : List Int) (k : Nat) : List Int := (List.range k).map fun (x : Nat) => if (x : Int) ∈ frm then 0 else -1
theorem initP_succ (frm : List Int) (k : Nat) : initP frm (k + 1) = initP frm k ++ [if (k : Int) ∈ frm then 0 else -1] := by simp [initP, List.range_succ]
theorem initP_len (frm : List Int) (k : Nat) : (initP frm k).length = k := by simp [initP]
theorem RD.init (rows : List (List Int)) (frm : List Int) : RD rows frm 0 (RB rows frm 0 0 0) (initP frm rows.length) := by
  refine ⟨initP_len _ _, fun x v hx => ?_⟩
  have hxl := lt_of_get hx
  rw [initP_len] at hxl
  simp only [initP, List.getElem?_map, List.getElem?_range hxl, Option.map_some, Option.some.injEq] at hx
  have hl : (x : Int) ∈ lvl rows frm 0 ↔ (x : Int) ∈ frm := by
    show (x : Int) ∈ hereP rows.length frm ↔ _
    rw [hereP_mem]
    exact ⟨fun h => h.1, fun h => ⟨h, by omega, by omega⟩⟩
  by_cases h : (x : Int) ∈ frm
  · rw [if_pos h] at hx
    exact .inl ⟨0, Nat.le_refl _, hx.symm, hl.2 h⟩
  · rw [if_neg h] at hx
    refine .inr ⟨fun j hj hh => ?_, .inr ⟨by unfold RB; simp, hx.symm⟩⟩
    have : j = 0 := by omega
    subst this
    exact h (hl.1 hh)

set_option maxRecDepth 10000 in
set_option maxHeartbeats 4000000 in
theorem RDepths_K {w0 : World} {vg vl : Value} {gs : List SV} {rows : List (List Int)} {l : List Int} (hG : SlW w0 svE vg gs) (hR : RowsI w0 gs rows) (hL : SlW w0 iE vl l) (hl : l.length ≤ 100000) (hn : gs.length ≤ 100) (hb : ∀ r ∈ rows, r.length ≤ 1000) :
    Call Try.prog w0 17 [vg, vl] [] (fun r H' => ∃ o, oOk iE (depthsP rows l) o ∧ r = oV o (depthsP rows l).length ∧ H' = oH iE 3 (depthsP rows l) o) := by
  refine Call.enter2 (n := 83) (by kernel_rfl) Try.func17 rfl rfl rfl ?_
  have hgl := hR.len
  refine K.seq ?_
  refine K.region ?_
  (refine KL.v rfl (Val.assign rfl) ?_)
  refine KL.nil ?_
  refine KE.next ?_
  refine K.seq ?_
  refine K.region ?_
  (refine KL.v rfl (Val.assign rfl) ?_)
  refine KL.nil ?_
  refine KE.next ?_
  refine K.seq ?_
  refine K.seq ?_
  refine K.region ?_
  (refine KL.v rfl (Val.assign rfl) ?_)
  refine KL.nil ?_
  refine KE.next ?_
  refine K.block ?_
  refine K.loopT (σ := RS) [(0, _), (1, _)] (fun s r => (6, .int .i64 (s.k : Nat)) :: (5, oV s.o s.out.length) :: r) (fun s => oH iE 3 s.out s.o ++ []) (fun s => s.k ≤ rows.length ∧ s.out = initP l s.k ∧ oOk iE s.out s.o) (fun s => rows.length - s.k) (⟨0, [], none⟩) bySub byPart (⟨by simp, rfl, rfl⟩) ?_
  rintro ⟨k, out, o⟩ ⟨hk, he, oko⟩
  dsimp only at hk he oko ⊢
  subst he
  have hil := initP_len l k
  by_cases hlt : k < rows.length
  · have hbd : ∀ z : Int, (initP l k ++ [z]).length ≤ 4294967296 := fun z => by simp [hil]; omega
    have hb0 := hbd 0
    have hb1 := hbd (-1)
    have hsn := initP_succ l k
    by_cases hm : (k : Int) ∈ l
    · rw [if_pos hm] at hsn
      refine K.seq ?_
      refine K.seq ?_
      refine K.region ?_
      (refine KL.v rfl (Val.move rfl) ?_)
      (refine KL.v rfl (Val.move rfl) ?_)
      (refine KL.v rfl (Val.lenSl rfl rfl bySli) ?_)
      (refine KL.v rfl (Val.isT (Val.lss rfl rfl) byLt) ?_)
      refine KL.nil ?_
      refine KE.next ?_
      refine K.condT rfl ?_
      refine K.skip ?_
      refine KE.next ?_
      refine K.seq ?_
      refine K.block ?_
      refine K.seq ?_
      refine K.region ?_
      (refine KL.v rfl (Val.move rfl) ?_)
      (refine KL.v rfl (Val.move rfl) ?_)
      (refine KL.callc rfl rfl byEvL fun T hT => ?_)
      refine (CallV.fn (Has_K (Sli.old hL) hl)).mono ?_
      rintro _ _ ⟨rfl, rfl⟩
      rw [decide_eq_true hm]
      refine hT _ _ ?_; clear hT; clear T
      refine KL.nil ?_
      refine KE.next ?_
      refine K.condT rfl ?_
      refine K.region ?_
      (refine KL.v rfl (Val.move rfl) ?_)
      (refine KL.e rfl (Eff.buildS byParts rfl rfl rfl rfl rfl byFill) ?_; rintro _ _ ⟨b21, rfl, rfl⟩)
      (refine KL.e rfl (Eff.appZ (ys := [_]) rfl rfl rfl rfl rfl rfl byTakeL (by assumption) (by first | exact Sli.blk byTake rfl (by first | decide | simp) (by first | decide | (unfold maxLen; omega)) rfl | exact Sli.old (by assumption) | exact Sli.own byTakeL (by assumption) byLen | assumption | exact Sli.part (by assumption) byPart) rfl (by first | assumption | omega | (simp <;> fail) | (simp; omega)) rfl) ?_; rintro _ _ ⟨o22, ok22, rfl, rfl⟩)
      (refine KL.v rfl (Val.assign rfl) ?_)
      refine KL.nil ?_
      refine KE.blkN ?_
      refine KE.next ?_
      refine K.region ?_
      (refine KL.v rfl (Val.move rfl) ?_)
      (refine KL.v rfl (Val.add rfl rfl (by simp only [Go.Proofs.Ytfgmofaadcbokaa.lo, Go.Proofs.Ytfgmofaadcbokaa.hi]; omega)) ?_)
      (refine KL.v rfl (Val.assign rfl) ?_)
      refine KL.nil ?_
      exact KE.again ⟨k + 1, initP l k ++ [0], o22⟩ bySub byPart ⟨by show k + 1 ≤ _; omega, hsn.symm, ok22⟩ (by show rows.length - (k + 1) < rows.length - k; omega)
    · rw [if_neg hm] at hsn
      refine K.seq ?_
      refine K.seq ?_
      refine K.region ?_
      (refine KL.v rfl (Val.move rfl) ?_)
      (refine KL.v rfl (Val.move rfl) ?_)
      (refine KL.v rfl (Val.lenSl rfl rfl bySli) ?_)
      (refine KL.v rfl (Val.isT (Val.lss rfl rfl) byLt) ?_)
      refine KL.nil ?_
      refine KE.next ?_
      refine K.condT rfl ?_
      refine K.skip ?_
      refine KE.next ?_
      refine K.seq ?_
      refine K.block ?_
      refine K.seq ?_
      refine K.region ?_
      (refine KL.v rfl (Val.move rfl) ?_)
      (refine KL.v rfl (Val.move rfl) ?_)
      (refine KL.callc rfl rfl byEvL fun T hT => ?_)
      refine (CallV.fn (Has_K (Sli.old hL) hl)).mono ?_
      rintro _ _ ⟨rfl, rfl⟩
      rw [decide_eq_false hm]
      refine hT _ _ ?_; clear hT; clear T
      refine KL.nil ?_
      refine KE.next ?_
      refine K.condF rfl ?_
      refine K.region ?_
      (refine KL.v rfl (Val.move rfl) ?_)
      (refine KL.e rfl (Eff.buildS byParts rfl rfl rfl rfl rfl byFill) ?_; rintro _ _ ⟨b24, rfl, rfl⟩)
      (refine KL.e rfl (Eff.appZ (ys := [_]) rfl rfl rfl rfl rfl rfl byTakeL (by assumption) (by first | exact Sli.blk byTake rfl (by first | decide | simp) (by first | decide | (unfold maxLen; omega)) rfl | exact Sli.old (by assumption) | exact Sli.own byTakeL (by assumption) byLen | assumption | exact Sli.part (by assumption) byPart) rfl (by first | assumption | omega | (simp <;> fail) | (simp; omega)) rfl) ?_; rintro _ _ ⟨o25, ok25, rfl, rfl⟩)
      (refine KL.v rfl (Val.assign rfl) ?_)
      refine KL.nil ?_
      refine KE.blkN ?_
      refine KE.next ?_
      refine K.region ?_
      (refine KL.v rfl (Val.move rfl) ?_)
      (refine KL.v rfl (Val.add rfl rfl (by simp only [Go.Proofs.Ytfgmofaadcbokaa.lo, Go.Proofs.Ytfgmofaadcbokaa.hi]; omega)) ?_)
      (refine KL.v rfl (Val.assign rfl) ?_)
      refine KL.nil ?_
      exact KE.again ⟨k + 1, initP l k ++ [-1], o25⟩ bySub byPart ⟨by show k + 1 ≤ _; omega, hsn.symm, ok25⟩ (by show rows.length - (k + 1) < rows.length - k; omega)
  · have hke : k = rows.length := by omega
    subst hke
    refine K.seq ?_
    refine K.seq ?_
    refine K.region ?_
    (refine KL.v rfl (Val.move rfl) ?_)
    (refine KL.v rfl (Val.move rfl) ?_)
    (refine KL.v rfl (Val.lenSl rfl rfl bySli) ?_)
    (refine KL.v rfl (Val.isF (Val.lss rfl rfl) byLt) ?_)
    refine KL.nil ?_
    refine KE.next ?_
    refine K.condF rfl ?_
    refine K.exit ?_
    refine KE.passX ?_
    refine KE.passX ?_
    refine KE.blkX ?_
    refine KE.next ?_
    refine K.seq ?_
    refine K.seq ?_
    refine K.region ?_
    (refine KL.v rfl (Val.assign rfl) ?_)
    refine KL.nil ?_
    refine KE.next ?_
    refine K.block ?_
    refine K.loopT (σ := RS2) [(0, _)] (fun s r => (7, .int .i64 (s.k : Nat)) :: (5, oV o s.out.length) :: r) (fun s => oH iE 3 s.out o ++ []) (fun s => s.k ≤ rows.length ∧ RD rows l s.k (RB rows l s.k 0 0) s.out ∧ oOk iE s.out o) (fun s => rows.length - s.k) (⟨0, initP l rows.length⟩) bySub byPart (⟨by simp, RD.init rows l, oko⟩) ?_
    rintro ⟨d, out⟩ ⟨hd, hD, okd⟩
    dsimp only at hd hD okd ⊢
    by_cases hdl : d < rows.length
    · skip
      refine K.seq ?_
      refine K.seq ?_
      refine K.region ?_
      (refine KL.v rfl (Val.move rfl) ?_)
      (refine KL.v rfl (Val.move rfl) ?_)
      (refine KL.v rfl (Val.lenSl rfl rfl bySli) ?_)
      (refine KL.v rfl (Val.isT (Val.lss rfl rfl) byLt) ?_)
      refine KL.nil ?_
      refine KE.next ?_
      refine K.condT rfl ?_
      refine K.skip ?_
      refine KE.next ?_
      refine K.seq ?_
      refine K.block ?_
      refine K.seq ?_
      refine K.region ?_
      (refine KL.v rfl (Val.assign rfl) ?_)
      refine KL.nil ?_
      refine KE.next ?_
      refine K.block ?_
      refine K.loopT (σ := RS2) [(0, _), (7, _)] (fun s r => (8, .int .i64 (s.k : Nat)) :: (5, oV o s.out.length) :: r) (fun s => oH iE 3 s.out o ++ []) (fun s => s.k ≤ rows.length ∧ RD rows l d (RB rows l d s.k 0) s.out ∧ oOk iE s.out o) (fun s => rows.length - s.k) (⟨0, out⟩) bySub byPart (⟨by simp, hD, okd⟩) ?_
      rintro ⟨m, out⟩ ⟨hm, hD, okd⟩
      dsimp only at hm hD okd ⊢
      by_cases hml : m < rows.length
      · obtain ⟨r, hr⟩ := get_of_lt hml
        obtain ⟨p, hp⟩ := get_of_lt (l := gs) (k := m) (by omega)
        have hrow := hR.row m p r hp hr
        have hrl := hb r (List.mem_of_getElem? hr)
        have hrp : rowP rows (m : Int) = r := by simp [rowP, hr]
        have hmg : m < gs.length := by omega
        refine K.seq ?_
        refine K.seq ?_
        refine K.region ?_
        (refine KL.v rfl (Val.move rfl) ?_)
        (refine KL.v rfl (Val.move rfl) ?_)
        (refine KL.v rfl (Val.lenSl rfl rfl bySli) ?_)
        (refine KL.v rfl (Val.isT (Val.lss rfl rfl) byLt) ?_)
        refine KL.nil ?_
        refine KE.next ?_
        refine K.condT rfl ?_
        refine K.skip ?_
        refine KE.next ?_
        refine K.seq ?_
        refine K.block ?_
        refine K.seq ?_
        refine K.region ?_
        (refine KL.v rfl (Val.assign rfl) ?_)
        refine KL.nil ?_
        refine KE.next ?_
        refine K.block ?_
        refine K.loopT (σ := RS2) [(0, _), (7, _), (8, _)] (fun s r => (9, .int .i64 (s.k : Nat)) :: (5, oV o s.out.length) :: r) (fun s => oH iE 3 s.out o ++ []) (fun s => s.k ≤ r.length ∧ (s.k = 0 ∨ (m : Int) ∈ lvl rows l d) ∧ RD rows l d (RB rows l d m s.k) s.out ∧ oOk iE s.out o) (fun s => r.length - s.k) (⟨0, out⟩) bySub byPart (⟨by simp, .inl rfl, hD, okd⟩) ?_
        rintro ⟨i, out⟩ ⟨hi, hmi, hD, okd⟩
        dsimp only at hi hmi hD okd ⊢
        have hol := hD.1
        obtain ⟨v, hv⟩ := get_of_lt (l := out) (k := m) (by omega)
        have hmo : m < out.length := by omega
        by_cases hmd : (m : Int) ∈ lvl rows l d
        · have hvd := (hD.at_d hv).2 hmd
          subst hvd
          by_cases hil2 : i < r.length
          · obtain ⟨t, ht⟩ := get_of_lt hil2
            have hRB : ∀ x : Nat, x < rows.length → ((RB rows l d m i x ∨ (x : Int) = t) ↔ RB rows l d m (i + 1) x) := by
              intro x hx
              unfold RB
              rw [hrp, take_snoc ht]
              simp only [List.mem_append, List.mem_singleton, hmd, true_and]
              rw [or_assoc]
            by_cases h0 : 0 ≤ t
            · by_cases h1 : t < (gs.length : Nat)
              · obtain ⟨q, rfl⟩ : ∃ q : Nat, t = (q : Int) := ⟨t.toNat, by omega⟩
                have hqo : q < out.length := by omega
                obtain ⟨u, hu⟩ := get_of_lt hqo
                by_cases hu0 : u < 0
                · have hD' := (hD.put hu hu0).congr hRB
                  refine K.seq ?_
                  refine K.seq ?_
                  refine K.region ?_
                  (refine KL.v rfl (Val.move rfl) ?_)
                  (refine KL.v rfl (Val.move rfl) ?_)
                  (refine KL.v rfl (Val.move rfl) ?_)
                  (refine KL.v rfl (Val.idxSl rfl rfl rfl bySli rfl byLt) ?_)
                  (refine KL.v rfl (Val.loadP rfl rfl bySee) ?_)
                  (refine KL.v rfl (Val.lenSl rfl rfl bySli) ?_)
                  (refine KL.v rfl (Val.isT (Val.lss rfl rfl) byLt) ?_)
                  (refine KL.v rfl (Val.move rfl) ?_)
                  (refine KL.yes rfl rfl ?_; refine KL.v rfl (Val.move rfl) ?_)
                  (refine KL.yes rfl rfl ?_; refine KL.v rfl (Val.move rfl) ?_)
                  (refine KL.yes rfl rfl ?_; refine KL.v rfl (Val.idxSl rfl rfl rfl bySli rfl byLt) ?_)
                  (refine KL.yes rfl rfl ?_; refine KL.v rfl (Val.loadP rfl rfl bySee) ?_)
                  (refine KL.yes rfl rfl ?_; refine KL.v rfl (Val.move rfl) ?_)
                  (refine KL.yes rfl rfl ?_; refine KL.v rfl (Val.isT (Val.eql rfl rfl) byLt) ?_)
                  (refine KL.v rfl (Val.pickT rfl rfl rfl) ?_)
                  refine KL.nil ?_
                  refine KE.next ?_
                  refine K.condT rfl ?_
                  refine K.skip ?_
                  refine KE.next ?_
                  refine K.seq ?_
                  refine K.block ?_
                  refine K.seq ?_
                  refine K.region ?_
                  (refine KL.v rfl (Val.move rfl) ?_)
                  (refine KL.v rfl (Val.move rfl) ?_)
                  (refine KL.v rfl (Val.idxSl rfl rfl rfl bySli rfl byLt) ?_)
                  (refine KL.v rfl (Val.loadP rfl rfl bySee) ?_)
                  (refine KL.v rfl (Val.move rfl) ?_)
                  (refine KL.v rfl (Val.idxSl rfl rfl rfl bySli rfl byLt) ?_)
                  (refine KL.v rfl (Val.loadP rfl rfl bySee) ?_)
                  (refine KL.v rfl (Val.assign rfl) ?_)
                  refine KL.nil ?_
                  refine KE.next ?_
                  refine K.seq ?_
                  refine K.region ?_
                  (refine KL.v rfl (Val.move rfl) ?_)
                  (refine KL.v rfl (Val.isT (Val.geq rfl rfl) byLt) ?_)
                  (refine KL.v rfl (Val.move rfl) ?_)
                  (refine KL.yes rfl rfl ?_; refine KL.v rfl (Val.move rfl) ?_)
                  (refine KL.yes rfl rfl ?_; refine KL.v rfl (Val.move rfl) ?_)
                  (refine KL.yes rfl rfl ?_; refine KL.v rfl (Val.lenSl rfl rfl bySli) ?_)
                  (refine KL.yes rfl rfl ?_; refine KL.v rfl (Val.isT (Val.lss rfl rfl) byLt) ?_)
                  (refine KL.v rfl (Val.pickT rfl rfl rfl) ?_)
                  (refine KL.v rfl (Val.move rfl) ?_)
                  (refine KL.yes rfl rfl ?_; refine KL.v rfl (Val.move rfl) ?_)
                  (refine KL.yes rfl rfl ?_; refine KL.v rfl (Val.move rfl) ?_)
                  (refine KL.yes rfl rfl ?_; refine KL.v rfl (Val.idxSl rfl rfl rfl bySli rfl byLt) ?_)
                  (refine KL.yes rfl rfl ?_; refine KL.v rfl (Val.loadP rfl rfl bySee) ?_)
                  (refine KL.yes rfl rfl ?_; refine KL.v rfl (Val.isT (Val.lss rfl rfl) byLt) ?_)
                  (refine KL.v rfl (Val.pickT rfl rfl rfl) ?_)
                  refine KL.nil ?_
                  refine KE.next ?_
                  refine K.condT rfl ?_
                  refine K.region ?_
                  (refine KL.v rfl (Val.move rfl) ?_)
                  (refine KL.v rfl (Val.move rfl) ?_)
                  (refine KL.v rfl (Val.move rfl) ?_)
                  (refine KL.v rfl (Val.add rfl rfl (by simp only [Go.Proofs.Ytfgmofaadcbokaa.lo, Go.Proofs.Ytfgmofaadcbokaa.hi]; omega)) ?_)
                  (refine KL.v rfl (Val.idxSl rfl rfl rfl bySli rfl byLt) ?_)
                  (refine KL.eN (Eff.stSl0 rfl rfl rfl rfl byTakeL (by assumption) (by assumption) rfl rfl) ?_; rintro _ _ rfl)
                  refine KL.nil ?_
                  refine KE.blkN ?_
                  refine KE.next ?_
                  refine K.region ?_
                  (refine KL.v rfl (Val.move rfl) ?_)
                  (refine KL.v rfl (Val.add rfl rfl (by simp only [Go.Proofs.Ytfgmofaadcbokaa.lo, Go.Proofs.Ytfgmofaadcbokaa.hi]; omega)) ?_)
                  (refine KL.v rfl (Val.assign rfl) ?_)
                  refine KL.nil ?_
                  exact KE.again ⟨i + 1, out.set q ((d : Int) + 1)⟩ bySub byPart ⟨by show i + 1 ≤ _; omega, .inr hmd, hD', okd.set _ _⟩ (by show r.length - (i + 1) < r.length - i; omega)
                · have hD' := (hD.skip (t := (q : Int)) (v := u) (fun x hx e => by have : x = q := by omega
                                                                                   subst this; exact hu) hu0).congr hRB
                  refine K.seq ?_
                  refine K.seq ?_
                  refine K.region ?_
                  (refine KL.v rfl (Val.move rfl) ?_)
                  (refine KL.v rfl (Val.move rfl) ?_)
                  (refine KL.v rfl (Val.move rfl) ?_)
                  (refine KL.v rfl (Val.idxSl rfl rfl rfl bySli rfl byLt) ?_)
                  (refine KL.v rfl (Val.loadP rfl rfl bySee) ?_)
                  (refine KL.v rfl (Val.lenSl rfl rfl bySli) ?_)
                  (refine KL.v rfl (Val.isT (Val.lss rfl rfl) byLt) ?_)
                  (refine KL.v rfl (Val.move rfl) ?_)
                  (refine KL.yes rfl rfl ?_; refine KL.v rfl (Val.move rfl) ?_)
                  (refine KL.yes rfl rfl ?_; refine KL.v rfl (Val.move rfl) ?_)
                  (refine KL.yes rfl rfl ?_; refine KL.v rfl (Val.idxSl rfl rfl rfl bySli rfl byLt) ?_)
                  (refine KL.yes rfl rfl ?_; refine KL.v rfl (Val.loadP rfl rfl bySee) ?_)
                  (refine KL.yes rfl rfl ?_; refine KL.v rfl (Val.move rfl) ?_)
                  (refine KL.yes rfl rfl ?_; refine KL.v rfl (Val.isT (Val.eql rfl rfl) byLt) ?_)
                  (refine KL.v rfl (Val.pickT rfl rfl rfl) ?_)
                  refine KL.nil ?_
                  refine KE.next ?_
                  refine K.condT rfl ?_
                  refine K.skip ?_
                  refine KE.next ?_
                  refine K.seq ?_
                  refine K.block ?_
                  refine K.seq ?_
                  refine K.region ?_
                  (refine KL.v rfl (Val.move rfl) ?_)
                  (refine KL.v rfl (Val.move rfl) ?_)
                  (refine KL.v rfl (Val.idxSl rfl rfl rfl bySli rfl byLt) ?_)
                  (refine KL.v rfl (Val.loadP rfl rfl bySee) ?_)
                  (refine KL.v rfl (Val.move rfl) ?_)
                  (refine KL.v rfl (Val.idxSl rfl rfl rfl bySli rfl byLt) ?_)
                  (refine KL.v rfl (Val.loadP rfl rfl bySee) ?_)
                  (refine KL.v rfl (Val.assign rfl) ?_)
                  refine KL.nil ?_
                  refine KE.next ?_
                  refine K.seq ?_
                  refine K.region ?_
                  (refine KL.v rfl (Val.move rfl) ?_)
                  (refine KL.v rfl (Val.isT (Val.geq rfl rfl) byLt) ?_)
                  (refine KL.v rfl (Val.move rfl) ?_)
                  (refine KL.yes rfl rfl ?_; refine KL.v rfl (Val.move rfl) ?_)
                  (refine KL.yes rfl rfl ?_; refine KL.v rfl (Val.move rfl) ?_)
                  (refine KL.yes rfl rfl ?_; refine KL.v rfl (Val.lenSl rfl rfl bySli) ?_)
                  (refine KL.yes rfl rfl ?_; refine KL.v rfl (Val.isT (Val.lss rfl rfl) byLt) ?_)
                  (refine KL.v rfl (Val.pickT rfl rfl rfl) ?_)
                  (refine KL.v rfl (Val.move rfl) ?_)
                  (refine KL.yes rfl rfl ?_; refine KL.v rfl (Val.move rfl) ?_)
                  (refine KL.yes rfl rfl ?_; refine KL.v rfl (Val.move rfl) ?_)
                  (refine KL.yes rfl rfl ?_; refine KL.v rfl (Val.idxSl rfl rfl rfl bySli rfl byLt) ?_)
                  (refine KL.yes rfl rfl ?_; refine KL.v rfl (Val.loadP rfl rfl bySee) ?_)
                  (refine KL.yes rfl rfl ?_; refine KL.v rfl (Val.isF (Val.lss rfl rfl) byLt) ?_)
                  (refine KL.v rfl (Val.pickT rfl rfl rfl) ?_)
                  refine KL.nil ?_
                  refine KE.next ?_
                  refine K.condF rfl ?_
                  refine K.skip ?_
                  refine KE.blkN ?_
                  refine KE.next ?_
                  refine K.region ?_
                  (refine KL.v rfl (Val.move rfl) ?_)
                  (refine KL.v rfl (Val.add rfl rfl (by simp only [Go.Proofs.Ytfgmofaadcbokaa.lo, Go.Proofs.Ytfgmofaadcbokaa.hi]; omega)) ?_)
                  (refine KL.v rfl (Val.assign rfl) ?_)
                  refine KL.nil ?_
                  exact KE.again ⟨i + 1, out⟩ bySub byPart ⟨by show i + 1 ≤ _; omega, .inr hmd, hD', okd⟩ (by show r.length - (i + 1) < r.length - i; omega)
              · have hD' := (hD.skip (t := t) (v := 0) (fun x hx e => by omega) (by omega)).congr hRB
                refine K.seq ?_
                refine K.seq ?_
                refine K.region ?_
                (refine KL.v rfl (Val.move rfl) ?_)
                (refine KL.v rfl (Val.move rfl) ?_)
                (refine KL.v rfl (Val.move rfl) ?_)
                (refine KL.v rfl (Val.idxSl rfl rfl rfl bySli rfl byLt) ?_)
                (refine KL.v rfl (Val.loadP rfl rfl bySee) ?_)
                (refine KL.v rfl (Val.lenSl rfl rfl bySli) ?_)
                (refine KL.v rfl (Val.isT (Val.lss rfl rfl) byLt) ?_)
                (refine KL.v rfl (Val.move rfl) ?_)
                (refine KL.yes rfl rfl ?_; refine KL.v rfl (Val.move rfl) ?_)
                (refine KL.yes rfl rfl ?_; refine KL.v rfl (Val.move rfl) ?_)
                (refine KL.yes rfl rfl ?_; refine KL.v rfl (Val.idxSl rfl rfl rfl bySli rfl byLt) ?_)
                (refine KL.yes rfl rfl ?_; refine KL.v rfl (Val.loadP rfl rfl bySee) ?_)
                (refine KL.yes rfl rfl ?_; refine KL.v rfl (Val.move rfl) ?_)
                (refine KL.yes rfl rfl ?_; refine KL.v rfl (Val.isT (Val.eql rfl rfl) byLt) ?_)
                (refine KL.v rfl (Val.pickT rfl rfl rfl) ?_)
                refine KL.nil ?_
                refine KE.next ?_
                refine K.condT rfl ?_
                refine K.skip ?_
                refine KE.next ?_
                refine K.seq ?_
                refine K.block ?_
                refine K.seq ?_
                refine K.region ?_
                (refine KL.v rfl (Val.move rfl) ?_)
                (refine KL.v rfl (Val.move rfl) ?_)
                (refine KL.v rfl (Val.idxSl rfl rfl rfl bySli rfl byLt) ?_)
                (refine KL.v rfl (Val.loadP rfl rfl bySee) ?_)
                (refine KL.v rfl (Val.move rfl) ?_)
                (refine KL.v rfl (Val.idxSl rfl rfl rfl bySli rfl byLt) ?_)
                (refine KL.v rfl (Val.loadP rfl rfl bySee) ?_)
                (refine KL.v rfl (Val.assign rfl) ?_)
                refine KL.nil ?_
                refine KE.next ?_
                refine K.seq ?_
                refine K.region ?_
                (refine KL.v rfl (Val.move rfl) ?_)
                (refine KL.v rfl (Val.isT (Val.geq rfl rfl) byLt) ?_)
                (refine KL.v rfl (Val.move rfl) ?_)
                (refine KL.yes rfl rfl ?_; refine KL.v rfl (Val.move rfl) ?_)
                (refine KL.yes rfl rfl ?_; refine KL.v rfl (Val.move rfl) ?_)
                (refine KL.yes rfl rfl ?_; refine KL.v rfl (Val.lenSl rfl rfl bySli) ?_)
                (refine KL.yes rfl rfl ?_; refine KL.v rfl (Val.isF (Val.lss rfl rfl) byLt) ?_)
                (refine KL.v rfl (Val.pickT rfl rfl rfl) ?_)
                (refine KL.v rfl (Val.move rfl) ?_)
                refine KL.skipG rfl rfl rfl ?_
                refine KL.skipG rfl rfl rfl ?_
                refine KL.skipG rfl rfl rfl ?_
                refine KL.skipG rfl rfl rfl ?_
                refine KL.skipG rfl rfl rfl ?_
                (refine KL.v rfl (Val.pickF rfl rfl rfl) ?_)
                refine KL.nil ?_
                refine KE.next ?_
                refine K.condF rfl ?_
                refine K.skip ?_
                refine KE.blkN ?_
                refine KE.next ?_
                refine K.region ?_
                (refine KL.v rfl (Val.move rfl) ?_)
                (refine KL.v rfl (Val.add rfl rfl (by simp only [Go.Proofs.Ytfgmofaadcbokaa.lo, Go.Proofs.Ytfgmofaadcbokaa.hi]; omega)) ?_)
                (refine KL.v rfl (Val.assign rfl) ?_)
                refine KL.nil ?_
                exact KE.again ⟨i + 1, out⟩ bySub byPart ⟨by show i + 1 ≤ _; omega, .inr hmd, hD', okd⟩ (by show r.length - (i + 1) < r.length - i; omega)
            · have hD' := (hD.skip (t := t) (v := 0) (fun x hx e => by omega) (by omega)).congr hRB
              refine K.seq ?_
              refine K.seq ?_
              refine K.region ?_
              (refine KL.v rfl (Val.move rfl) ?_)
              (refine KL.v rfl (Val.move rfl) ?_)
              (refine KL.v rfl (Val.move rfl) ?_)
              (refine KL.v rfl (Val.idxSl rfl rfl rfl bySli rfl byLt) ?_)
              (refine KL.v rfl (Val.loadP rfl rfl bySee) ?_)
              (refine KL.v rfl (Val.lenSl rfl rfl bySli) ?_)
              (refine KL.v rfl (Val.isT (Val.lss rfl rfl) byLt) ?_)
              (refine KL.v rfl (Val.move rfl) ?_)
              (refine KL.yes rfl rfl ?_; refine KL.v rfl (Val.move rfl) ?_)
              (refine KL.yes rfl rfl ?_; refine KL.v rfl (Val.move rfl) ?_)
              (refine KL.yes rfl rfl ?_; refine KL.v rfl (Val.idxSl rfl rfl rfl bySli rfl byLt) ?_)
              (refine KL.yes rfl rfl ?_; refine KL.v rfl (Val.loadP rfl rfl bySee) ?_)
              (refine KL.yes rfl rfl ?_; refine KL.v rfl (Val.move rfl) ?_)
              (refine KL.yes rfl rfl ?_; refine KL.v rfl (Val.isT (Val.eql rfl rfl) byLt) ?_)
              (refine KL.v rfl (Val.pickT rfl rfl rfl) ?_)
              refine KL.nil ?_
              refine KE.next ?_
              refine K.condT rfl ?_
              refine K.skip ?_
              refine KE.next ?_
              refine K.seq ?_
              refine K.block ?_
              refine K.seq ?_
              refine K.region ?_
              (refine KL.v rfl (Val.move rfl) ?_)
              (refine KL.v rfl (Val.move rfl) ?_)
              (refine KL.v rfl (Val.idxSl rfl rfl rfl bySli rfl byLt) ?_)
              (refine KL.v rfl (Val.loadP rfl rfl bySee) ?_)
              (refine KL.v rfl (Val.move rfl) ?_)
              (refine KL.v rfl (Val.idxSl rfl rfl rfl bySli rfl byLt) ?_)
              (refine KL.v rfl (Val.loadP rfl rfl bySee) ?_)
              (refine KL.v rfl (Val.assign rfl) ?_)
              refine KL.nil ?_
              refine KE.next ?_
              refine K.seq ?_
              refine K.region ?_
              (refine KL.v rfl (Val.move rfl) ?_)
              (refine KL.v rfl (Val.isF (Val.geq rfl rfl) byLt) ?_)
              (refine KL.v rfl (Val.move rfl) ?_)
              refine KL.skipG rfl rfl rfl ?_
              refine KL.skipG rfl rfl rfl ?_
              refine KL.skipG rfl rfl rfl ?_
              refine KL.skipG rfl rfl rfl ?_
              (refine KL.v rfl (Val.pickF rfl rfl rfl) ?_)
              (refine KL.v rfl (Val.move rfl) ?_)
              refine KL.skipG rfl rfl rfl ?_
              refine KL.skipG rfl rfl rfl ?_
              refine KL.skipG rfl rfl rfl ?_
              refine KL.skipG rfl rfl rfl ?_
              refine KL.skipG rfl rfl rfl ?_
              (refine KL.v rfl (Val.pickF rfl rfl rfl) ?_)
              refine KL.nil ?_
              refine KE.next ?_
              refine K.condF rfl ?_
              refine K.skip ?_
              refine KE.blkN ?_
              refine KE.next ?_
              refine K.region ?_
              (refine KL.v rfl (Val.move rfl) ?_)
              (refine KL.v rfl (Val.add rfl rfl (by simp only [Go.Proofs.Ytfgmofaadcbokaa.lo, Go.Proofs.Ytfgmofaadcbokaa.hi]; omega)) ?_)
              (refine KL.v rfl (Val.assign rfl) ?_)
              refine KL.nil ?_
              exact KE.again ⟨i + 1, out⟩ bySub byPart ⟨by show i + 1 ≤ _; omega, .inr hmd, hD', okd⟩ (by show r.length - (i + 1) < r.length - i; omega)
          · have hD' : RD rows l d (RB rows l d (m + 1) 0) out := hD.congr fun x hx => by
              unfold RB
              rw [hrp, List.take_of_length_le (by omega)]
              simp only [List.take_zero, List.not_mem_nil, and_false, or_false]
              constructor
              · rintro (⟨y, hy, h⟩ | ⟨_, h⟩)
                · exact ⟨y, by omega, h⟩
                · exact ⟨m, by omega, hmd, by rw [hrp]; exact h⟩
              · rintro ⟨y, hy, h1, h2⟩
                rcases Nat.lt_or_ge y m with hym | hym
                · exact .inl ⟨y, hym, h1, h2⟩
                · have : y = m := by omega
                  subst this
                  rw [hrp] at h2
                  exact .inr ⟨h1, h2⟩
            refine K.seq ?_
            refine K.seq ?_
            refine K.region ?_
            (refine KL.v rfl (Val.move rfl) ?_)
            (refine KL.v rfl (Val.move rfl) ?_)
            (refine KL.v rfl (Val.move rfl) ?_)
            (refine KL.v rfl (Val.idxSl rfl rfl rfl bySli rfl byLt) ?_)
            (refine KL.v rfl (Val.loadP rfl rfl bySee) ?_)
            (refine KL.v rfl (Val.lenSl rfl rfl bySli) ?_)
            (refine KL.v rfl (Val.isF (Val.lss rfl rfl) byLt) ?_)
            (refine KL.v rfl (Val.move rfl) ?_)
            refine KL.skipG rfl rfl rfl ?_
            refine KL.skipG rfl rfl rfl ?_
            refine KL.skipG rfl rfl rfl ?_
            refine KL.skipG rfl rfl rfl ?_
            refine KL.skipG rfl rfl rfl ?_
            refine KL.skipG rfl rfl rfl ?_
            (refine KL.v rfl (Val.pickF rfl rfl rfl) ?_)
            refine KL.nil ?_
            refine KE.next ?_
            refine K.condF rfl ?_
            refine K.exit ?_
            refine KE.passX ?_
            refine KE.passX ?_
            refine KE.blkX ?_
            refine KE.blkN ?_
            refine KE.next ?_
            refine K.region ?_
            (refine KL.v rfl (Val.move rfl) ?_)
            (refine KL.v rfl (Val.add rfl rfl (by simp only [Go.Proofs.Ytfgmofaadcbokaa.lo, Go.Proofs.Ytfgmofaadcbokaa.hi]; omega)) ?_)
            (refine KL.v rfl (Val.assign rfl) ?_)
            refine KL.nil ?_
            exact KE.again ⟨m + 1, out⟩ bySub byPart ⟨by show m + 1 ≤ _; omega, hD', okd⟩ (by show rows.length - (m + 1) < rows.length - m; omega)
        · have hvd : ¬ v = (d : Int) := fun e => hmd ((hD.at_d hv).1 e)
          have hi0 : i = 0 := by
            rcases hmi with h | h
            · exact h
            · exact absurd h hmd
          subst hi0
          have hD' : RD rows l d (RB rows l d (m + 1) 0) out := hD.congr fun x hx => by
            unfold RB
            simp only [List.take_zero, List.not_mem_nil, and_false, or_false]
            constructor
            · rintro ⟨y, hy, h⟩; exact ⟨y, by omega, h⟩
            · rintro ⟨y, hy, h1, h2⟩
              refine ⟨y, ?_, h1, h2⟩
              rcases Nat.lt_or_ge y m with hym | hym
              · exact hym
              · have : y = m := by omega
                subst this; exact absurd h1 hmd
          by_cases hil2 : 0 < r.length
          · skip
            refine K.seq ?_
            refine K.seq ?_
            refine K.region ?_
            (refine KL.v rfl (Val.move rfl) ?_)
            (refine KL.v rfl (Val.move rfl) ?_)
            (refine KL.v rfl (Val.move rfl) ?_)
            (refine KL.v rfl (Val.idxSl rfl rfl rfl bySli rfl byLt) ?_)
            (refine KL.v rfl (Val.loadP rfl rfl bySee) ?_)
            (refine KL.v rfl (Val.lenSl rfl rfl bySli) ?_)
            (refine KL.v rfl (Val.isT (Val.lss rfl rfl) byLt) ?_)
            (refine KL.v rfl (Val.move rfl) ?_)
            (refine KL.yes rfl rfl ?_; refine KL.v rfl (Val.move rfl) ?_)
            (refine KL.yes rfl rfl ?_; refine KL.v rfl (Val.move rfl) ?_)
            (refine KL.yes rfl rfl ?_; refine KL.v rfl (Val.idxSl rfl rfl rfl bySli rfl byLt) ?_)
            (refine KL.yes rfl rfl ?_; refine KL.v rfl (Val.loadP rfl rfl bySee) ?_)
            (refine KL.yes rfl rfl ?_; refine KL.v rfl (Val.move rfl) ?_)
            (refine KL.yes rfl rfl ?_; refine KL.v rfl (Val.isF (Val.eql rfl rfl) byLt) ?_)
            (refine KL.v rfl (Val.pickT rfl rfl rfl) ?_)
            refine KL.nil ?_
            refine KE.next ?_
            refine K.condF rfl ?_
            refine K.exit ?_
            refine KE.passX ?_
            refine KE.passX ?_
            refine KE.blkX ?_
            refine KE.blkN ?_
            refine KE.next ?_
            refine K.region ?_
            (refine KL.v rfl (Val.move rfl) ?_)
            (refine KL.v rfl (Val.add rfl rfl (by simp only [Go.Proofs.Ytfgmofaadcbokaa.lo, Go.Proofs.Ytfgmofaadcbokaa.hi]; omega)) ?_)
            (refine KL.v rfl (Val.assign rfl) ?_)
            refine KL.nil ?_
            exact KE.again ⟨m + 1, out⟩ bySub byPart ⟨by show m + 1 ≤ _; omega, hD', okd⟩ (by show rows.length - (m + 1) < rows.length - m; omega)
          · skip
            refine K.seq ?_
            refine K.seq ?_
            refine K.region ?_
            (refine KL.v rfl (Val.move rfl) ?_)
            (refine KL.v rfl (Val.move rfl) ?_)
            (refine KL.v rfl (Val.move rfl) ?_)
            (refine KL.v rfl (Val.idxSl rfl rfl rfl bySli rfl byLt) ?_)
            (refine KL.v rfl (Val.loadP rfl rfl bySee) ?_)
            (refine KL.v rfl (Val.lenSl rfl rfl bySli) ?_)
            (refine KL.v rfl (Val.isF (Val.lss rfl rfl) byLt) ?_)
            (refine KL.v rfl (Val.move rfl) ?_)
            refine KL.skipG rfl rfl rfl ?_
            refine KL.skipG rfl rfl rfl ?_
            refine KL.skipG rfl rfl rfl ?_
            refine KL.skipG rfl rfl rfl ?_
            refine KL.skipG rfl rfl rfl ?_
            refine KL.skipG rfl rfl rfl ?_
            (refine KL.v rfl (Val.pickF rfl rfl rfl) ?_)
            refine KL.nil ?_
            refine KE.next ?_
            refine K.condF rfl ?_
            refine K.exit ?_
            refine KE.passX ?_
            refine KE.passX ?_
            refine KE.blkX ?_
            refine KE.blkN ?_
            refine KE.next ?_
            refine K.region ?_
            (refine KL.v rfl (Val.move rfl) ?_)
            (refine KL.v rfl (Val.add rfl rfl (by simp only [Go.Proofs.Ytfgmofaadcbokaa.lo, Go.Proofs.Ytfgmofaadcbokaa.hi]; omega)) ?_)
            (refine KL.v rfl (Val.assign rfl) ?_)
            refine KL.nil ?_
            exact KE.again ⟨m + 1, out⟩ bySub byPart ⟨by show m + 1 ≤ _; omega, hD', okd⟩ (by show rows.length - (m + 1) < rows.length - m; omega)
      · have hme : m = rows.length := by omega
        subst hme
        refine K.seq ?_
        refine K.seq ?_
        refine K.region ?_
        (refine KL.v rfl (Val.move rfl) ?_)
        (refine KL.v rfl (Val.move rfl) ?_)
        (refine KL.v rfl (Val.lenSl rfl rfl bySli) ?_)
        (refine KL.v rfl (Val.isF (Val.lss rfl rfl) byLt) ?_)
        refine KL.nil ?_
        refine KE.next ?_
        refine K.condF rfl ?_
        refine K.exit ?_
        refine KE.passX ?_
        refine KE.passX ?_
        refine KE.blkX ?_
        refine KE.blkN ?_
        refine KE.next ?_
        refine K.region ?_
        (refine KL.v rfl (Val.move rfl) ?_)
        (refine KL.v rfl (Val.add rfl rfl (by simp only [Go.Proofs.Ytfgmofaadcbokaa.lo, Go.Proofs.Ytfgmofaadcbokaa.hi]; omega)) ?_)
        (refine KL.v rfl (Val.assign rfl) ?_)
        refine KL.nil ?_
        exact KE.again ⟨d + 1, out⟩ bySub byPart ⟨by show d + 1 ≤ _; omega, hD.next, okd⟩ (by show rows.length - (d + 1) < rows.length - d; omega)
    · have hde : d = rows.length := by omega
      subst hde
      have hfin := hD.fin
      subst hfin
      refine K.seq ?_
      refine K.seq ?_
      refine K.region ?_
      (refine KL.v rfl (Val.move rfl) ?_)
      (refine KL.v rfl (Val.move rfl) ?_)
      (refine KL.v rfl (Val.lenSl rfl rfl bySli) ?_)
      (refine KL.v rfl (Val.isF (Val.lss rfl rfl) byLt) ?_)
      refine KL.nil ?_
      refine KE.next ?_
      refine K.condF rfl ?_
      refine K.exit ?_
      refine KE.passX ?_
      refine KE.passX ?_
      refine KE.blkX ?_
      refine KE.next ?_
      refine K.seq ?_
      refine K.region ?_
      (refine KL.v rfl (Val.move rfl) ?_)
      (refine KL.v rfl (Val.assign rfl) ?_)
      refine KL.nil ?_
      refine KE.next ?_
      refine K.ret ?_
      exact KE.fin byMarks rfl byRes byPart ⟨o, okd, rfl, by simp⟩
end Go.Proofs.Ytfgmofaadcbokaa
