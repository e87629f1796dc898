/- Graph: Closed. -/
import Derived.Test.YtfgmofaadcbokaaGrWB
namespace Go.Proofs.Ytfgmofaadcbokaa
open Go.RowKit
set_option linter.unusedVariables false
set_option linter.unusedSimpArgs false

def inB (st : List Bool) (x : Nat) : Bool := (st[x]?).getD false
def closedP (rows : List (List Int)) (st : List Bool) : Bool := (List.range rows.length).all fun (y : Nat) => !inB st y || (hereP rows.length (rowP rows (y : Int))).all fun x => inB st x.toNat

set_option maxRecDepth 10000 in
theorem closed1_K {w0 : World} {F : Heap} {v : Value} {st : List Bool} {x b : Nat} (hS : SlW w0 boE v st) :
    Call Try.prog w0 31 [.int .i64 (x : Nat), .pointer (some ⟨b, 0, none⟩)] ((b, cells [v] 29) :: F) (fun r H' => r = .bool (inB st x) ∧ H' = (b, cells [v] 29) :: F) := by
  refine Call.enter2 (n := 14) (by kernel_rfl) Try.func31 rfl rfl rfl ?_
  by_cases hx : x < st.length
  · obtain ⟨y, hy⟩ := get_of_lt hx
    refine K.seq ?_
    refine K.region ?_
    (refine KL.v rfl (Val.assign rfl) ?_)
    refine KL.nil ?_
    refine KE.next ?_
    refine K.seq ?_
    refine K.region ?_
    (refine KL.v rfl (Val.move rfl) ?_)
    (refine KL.v rfl (Val.loadP rfl rfl bySee) ?_)
    (refine KL.v rfl (Val.lenSl rfl rfl bySli) ?_)
    (refine KL.v rfl (Val.isT (Val.lss rfl rfl) byLt) ?_)
    (refine KL.v rfl (Val.move rfl) ?_)
    (refine KL.yes rfl rfl ?_; refine KL.v rfl (Val.loadP rfl rfl bySee) ?_)
    (refine KL.yes rfl rfl ?_; refine KL.v rfl (Val.move rfl) ?_)
    (refine KL.yes rfl rfl ?_; refine KL.v rfl (Val.idxSl rfl rfl rfl bySli rfl byLt) ?_)
    (refine KL.yes rfl rfl ?_; refine KL.v rfl (Val.loadP rfl rfl bySee) ?_)
    (refine KL.v rfl (Val.pickT rfl rfl rfl) ?_)
    (refine KL.v rfl (Val.assign rfl) ?_)
    refine KL.nil ?_
    refine KE.next ?_
    refine K.ret ?_
    exact KE.fin byMarks rfl byRes byPart ⟨by simp [inB, hy, resVal], rfl⟩
  · have hi : inB st x = false := by simp [inB, List.getElem?_eq_none (Nat.le_of_not_lt hx)]
    refine K.seq ?_
    refine K.region ?_
    (refine KL.v rfl (Val.assign rfl) ?_)
    refine KL.nil ?_
    refine KE.next ?_
    refine K.seq ?_
    refine K.region ?_
    (refine KL.v rfl (Val.move rfl) ?_)
    (refine KL.v rfl (Val.loadP rfl rfl bySee) ?_)
    (refine KL.v rfl (Val.lenSl rfl rfl bySli) ?_)
    (refine KL.v rfl (Val.isF (Val.lss rfl rfl) byLt) ?_)
    (refine KL.v rfl (Val.move rfl) ?_)
    refine KL.skipG rfl rfl rfl ?_
    refine KL.skipG rfl rfl rfl ?_
    refine KL.skipG rfl rfl rfl ?_
    refine KL.skipG rfl rfl rfl ?_
    (refine KL.v rfl (Val.pickF rfl rfl rfl) ?_)
    (refine KL.v rfl (Val.assign rfl) ?_)
    refine KL.nil ?_
    refine KE.next ?_
    refine K.ret ?_
    exact KE.fin byMarks rfl byRes byPart ⟨by rw [hi]; rfl, rfl⟩

set_option maxRecDepth 10000 in
theorem closed2_K {w0 : World} {F : Heap} {v : Value} {st : List Bool} {x b b5 : Nat} (hS : SlW w0 boE v st) :
    Call Try.prog w0 33 [.int .i64 (x : Nat), .pointer (some ⟨b5, 0, none⟩)] ((b5, cells [.func (.func 31) #[] #[.pointer (some ⟨b, 0, none⟩)]] 43) :: (b, cells [v] 29) :: F)
      (fun r H' => r = .bool (!inB st x) ∧ H' = (b5, cells [.func (.func 31) #[] #[.pointer (some ⟨b, 0, none⟩)]] 43) :: (b, cells [v] 29) :: F) := by
  refine Call.enter2 (n := 8) (by kernel_rfl) Try.func33 rfl rfl rfl ?_
  refine K.seq ?_
  refine K.region ?_
  (refine KL.v rfl (Val.assign rfl) ?_)
  refine KL.nil ?_
  refine KE.next ?_
  refine K.seq ?_
  refine K.region ?_
  (refine KL.v rfl (Val.loadP rfl rfl bySee) ?_)
  (refine KL.v rfl (Val.move rfl) ?_)
  (refine KL.callc rfl rfl byEvL fun T hT => ?_)
  refine (CallV.part (CallV.clo (cap := [_]) (closed1_K (F := (b5, cells [.func (.func 31) #[] #[.pointer (some ⟨b, 0, none⟩)]] 43) :: F) (x := x) hS)) byPart).mono ?_
  rintro _ _ ⟨rfl, rfl⟩
  refine hT _ _ ?_; clear hT; clear T
  (refine KL.v rfl (Val.notB rfl) ?_)
  (refine KL.v rfl (Val.assign rfl) ?_)
  refine KL.nil ?_
  refine KE.next ?_
  refine K.ret ?_
  exact KE.fin byMarks rfl byRes byPart ⟨rfl, rfl⟩

set_option maxRecDepth 10000 in
theorem ContainsFunc_K {w0 : World} {R A0 : Heap} {v fv : Value} {l : List Int} (p : Int → Bool) (hS : Sli w0 (A0 ++ R) iE v l) (hl : l.length ≤ 100000)
    (hy : ∀ x, x ∈ l → CallV Try.prog w0 fv [.int .i64 x] (A0 ++ R) (fun r H' => r = .bool (p x) ∧ H' = A0 ++ R)) :
    Call Try.prog w0 32 [v, fv] (A0 ++ R) (fun r H' => r = .bool (l.any p) ∧ H' = A0 ++ R) := by
  refine Call.enter2 (n := 9) (by kernel_rfl) Try.func32 rfl rfl rfl ?_
  refine K.seq ?_
  refine K.region ?_
  (refine KL.v rfl (Val.assign rfl) ?_)
  refine KL.nil ?_
  refine KE.next ?_
  refine K.seq ?_
  refine K.region ?_
  (refine KL.v rfl (Val.move rfl) ?_)
  (refine KL.v rfl (Val.move rfl) ?_)
  (refine KL.callc rfl rfl byEvL fun T hT => ?_)
  refine (CallV.fn (Call.part (IndexFunc_K (A0 := []) (R := A0 ++ R) (l := l) p (fun _ A => A = []) (fun A => hS.part (Part.dropA Part.all)) hl (fun k x A hx hJ => ?_) rfl) byPart)).mono ?_
  · subst hJ
    refine (hy x (List.mem_of_getElem? hx)).mono ?_
    rintro _ _ ⟨rfl, rfl⟩
    exact ⟨rfl, [], rfl, rfl⟩
  · rintro _ _ ⟨A', rfl, (⟨k, x, hx, hp, _, rfl, rfl⟩ | ⟨hn, rfl, rfl⟩)⟩
    · have ha : l.any p = true := List.any_eq_true.2 ⟨x, List.mem_of_getElem? hx, hp⟩
      refine hT _ _ ?_; clear hT; clear T
      (refine KL.v rfl (Val.isT (Val.geq rfl rfl) byLt) ?_)
      (refine KL.v rfl (Val.assign rfl) ?_)
      refine KL.nil ?_
      refine KE.next ?_
      refine K.ret ?_
      exact KE.fin byMarks rfl byRes byPart ⟨by rw [ha]; rfl, rfl⟩
    · have ha : l.any p = false := List.any_eq_false.2 fun x hx => by rw [hn x hx]; simp
      refine hT _ _ ?_; clear hT; clear T
      (refine KL.v rfl (Val.isF (Val.geq rfl rfl) byLt) ?_)
      (refine KL.v rfl (Val.assign rfl) ?_)
      refine KL.nil ?_
      refine KE.next ?_
      refine K.ret ?_
      exact KE.fin byMarks rfl byRes byPart ⟨by rw [ha]; rfl, rfl⟩

set_option maxRecDepth 10000 in
set_option maxHeartbeats 1000000 in
theorem Closed_K {w0 : World} {vg vs : Value} {gs : List SV} {rows : List (List Int)} {st : List Bool} (hG : SlW w0 svE vg gs) (hR : RowsI w0 gs rows) (hS : SlW w0 boE vs st) (hn : gs.length ≤ 100) (hb : ∀ r ∈ rows, r.length ≤ 1000) :
    Call Try.prog w0 20 [vg, vs] [] (fun r H' => r = .bool (closedP rows st) ∧ H' = []) := by
  refine Call.enter2 (n := 27) (by kernel_rfl) Try.func20 rfl rfl rfl ?_
  have hgl := hR.len
  have hvs : vs.cells = [vs].toArray := by obtain ⟨a, c, rfl, _⟩ := hS.shape; rfl
  refine K.seq ?_
  refine K.region ?_
  (refine KL.e rfl (Eff.box rfl (by assumption)) ?_; rintro _ _ ⟨b3, rfl, rfl⟩)
  (refine KL.v rfl (Val.assign rfl) ?_)
  refine KL.nil ?_
  refine KE.next ?_
  refine K.seq ?_
  refine K.region ?_
  (refine KL.v rfl (Val.makeFunc byEvL byEvL) ?_)
  (refine KL.e rfl (Eff.alloc rfl) ?_; rintro _ _ ⟨b5, rfl, rfl⟩)
  (refine KL.eN (Eff.storeL rfl rfl byOne rfl byTake bySetAt) ?_; rintro _ _ rfl)
  refine KL.nil ?_
  refine KE.next ?_
  refine K.seq ?_
  refine K.seq ?_
  refine K.region ?_
  (refine KL.v rfl (Val.move rfl) ?_)
  (refine KL.v rfl (Val.lenSl rfl rfl bySli) ?_)
  (refine KL.v rfl (Val.move rfl) ?_)
  refine KL.nil ?_
  refine KE.next ?_
  refine K.block ?_
  refine K.loopT (σ := Nat) [(0, _), (5, _), (9, _)] (fun s r => (10, .int .i64 (s : Nat)) :: r) (fun s => (b5, cells [.func (.func 31) #[] #[.pointer (some ⟨b3, 0, none⟩)]] 43) :: (b3, cells [vs] 29) :: []) (fun s => s ≤ rows.length ∧ ∀ y, y < s → (!inB st y || (hereP rows.length (rowP rows (y : Int))).all fun x => inB st x.toNat) = true) (fun s => rows.length - s) (0) bySub byPart (⟨by omega, fun y hy => by omega⟩) ?_
  rintro k ⟨hk, hall⟩
  by_cases hlt : k < rows.length
  · obtain ⟨r, hr⟩ := get_of_lt hlt
    obtain ⟨p, hp⟩ := get_of_lt (l := gs) (k := k) (by omega)
    have hrow := hR.row k p r hp hr
    have hrl := hb r (List.mem_of_getElem? hr)
    have hrp : rowP rows (k : Int) = r := by simp [rowP, hr]
    have hkg : k < gs.length := by omega
    refine K.seq ?_
    refine K.region ?_
    (refine KL.v rfl (Val.isT (Val.lss rfl rfl) byLt) ?_)
    refine KL.nil ?_
    refine KE.next ?_
    refine K.seq ?_
    refine K.condT rfl ?_
    refine K.skip ?_
    refine KE.next ?_
    refine K.seq ?_
    refine K.block ?_
    refine K.seq ?_
    refine K.region ?_
    (refine KL.v rfl (Val.move rfl) ?_)
    (refine KL.v rfl (Val.assign rfl) ?_)
    refine KL.nil ?_
    refine KE.next ?_
    refine K.seq ?_
    refine K.region ?_
    (refine KL.v rfl (Val.loadP rfl rfl bySee) ?_)
    (refine KL.v rfl (Val.move rfl) ?_)
    (refine KL.callc rfl rfl byEvL fun T hT => ?_)
    refine (CallV.part (CallV.clo (cap := [_]) (closed1_K (F := (b5, cells [.func (.func 31) #[] #[.pointer (some ⟨b3, 0, none⟩)]] 43) :: []) (x := k) hS)) byPart).mono ?_
    rintro _ _ ⟨rfl, rfl⟩
    cases hin : inB st k with
    | false =>
      refine hT _ _ ?_; clear hT; clear T
      (refine KL.v rfl (Val.move rfl) ?_)
      refine KL.skipG rfl rfl rfl ?_
      refine KL.skipG rfl rfl rfl ?_
      refine KL.skipG rfl rfl rfl ?_
      refine KL.skipG rfl rfl rfl ?_
      refine KL.skipG rfl rfl rfl ?_
      refine KL.skipG rfl rfl rfl ?_
      refine KL.skipG rfl rfl rfl ?_
      refine KL.skipG rfl rfl rfl ?_
      (refine KL.v rfl (Val.pickF rfl rfl rfl) ?_)
      refine KL.nil ?_
      refine KE.next ?_
      refine K.condF rfl ?_
      refine K.skip ?_
      refine KE.blkN ?_
      refine KE.next ?_
      refine K.region ?_
      (refine KL.v rfl (Val.add rfl rfl (by simp only [Go.Proofs.Ytfgmofaadcbokaa.lo, Go.Proofs.Ytfgmofaadcbokaa.hi]; omega)) ?_)
      (refine KL.v rfl (Val.move rfl) ?_)
      refine KL.nil ?_
      exact KE.again (k + 1) bySub byPart ⟨by omega, fun y hy => by
        rcases Nat.lt_or_ge y k with h | h
        · exact hall y h
        · have : y = k := by omega
          subst this; simp [hin]⟩ (by omega)
    | true =>
      refine hT _ _ ?_; clear hT; clear T
      (refine KL.v rfl (Val.move rfl) ?_)
      (refine KL.yes rfl rfl ?_; refine KL.v rfl (Val.move rfl) ?_)
      (refine KL.yes rfl rfl ?_; refine KL.v rfl (Val.move rfl) ?_)
      (refine KL.yes rfl rfl ?_; refine KL.v rfl (Val.move rfl) ?_)
      (refine KL.yes rfl rfl ?_; refine KL.v rfl (Val.idxSl rfl rfl rfl bySli rfl byLt) ?_)
      (refine KL.yes rfl rfl ?_; refine KL.v rfl (Val.loadP rfl rfl bySee) ?_)
      (refine KL.yes rfl rfl ?_; refine KL.callc rfl rfl byEvL fun T hT => ?_)
      refine (CallV.pure fun w hw => CallV.fn (here_K (hG.only hw.old) (hrow.only hw.old) (by omega))).mono ?_
      rintro _ _ ⟨_, ⟨o3, ok3, rfl, rfl⟩, rfl⟩
      rw [hgl] at ok3 ⊢
      refine hT _ _ ?_; clear hT; clear T
      (refine KL.yes rfl rfl ?_; refine KL.v rfl (Val.makeFunc byEvL byEvL) ?_)
      (refine KL.yes rfl rfl ?_; refine KL.callc rfl rfl byEvL fun T hT => ?_)
      have hHl := hereP_len rows.length r
      refine (CallV.part (CallV.fn (ContainsFunc_K (A0 := (b5, cells [.func (.func 31) #[] #[.pointer (some ⟨b3, 0, none⟩)]] 43) :: (b3, cells [vs] 29) :: []) (R := oH iE 3 (hereP rows.length r) o3 ++ []) (l := hereP rows.length r) (fun x => !inB st x.toNat) (Sli.own byTakeL ok3 rfl) (by omega) ?_)) byPart).mono ?_
      · intro x hx
        obtain ⟨x, rfl, hxl⟩ := Nd.nat (rows := rows) (hereP_mem.1 hx).2
        refine (CallV.clo (cap := [_]) (closed2_K (F := oH iE 3 (hereP rows.length r) o3 ++ []) (x := x) hS)).mono ?_
        rintro _ _ ⟨rfl, rfl⟩
        exact ⟨rfl, rfl⟩
      · rintro _ _ ⟨rfl, rfl⟩
        cases hany : (hereP rows.length r).any (fun x => !inB st x.toNat) with
        | true =>
          have hc : closedP rows st = false := by
            unfold closedP
            rw [List.all_eq_false]
            refine ⟨k, by simpa using hlt, ?_⟩
            obtain ⟨x, hx, hx2⟩ := List.any_eq_true.1 hany
            simp only [hin, hrp, Bool.not_true, Bool.false_or, List.all_eq_true, Bool.not_eq_true]
            intro h
            have := h x hx
            simp [this] at hx2
          refine hT _ _ ?_; clear hT; clear T
          (refine KL.v rfl (Val.pickT rfl rfl rfl) ?_)
          refine KL.nil ?_
          refine KE.next ?_
          refine K.condT rfl ?_
          refine K.seq ?_
          refine K.region ?_
          (refine KL.v rfl (Val.assign rfl) ?_)
          refine KL.nil ?_
          refine KE.next ?_
          refine K.ret ?_
          refine KE.blkR ?_
          refine KE.passR ?_
          refine KE.passR ?_
          refine KE.blkR ?_
          refine KE.passR ?_
          exact KE.fin byMarks rfl byRes byPart ⟨by rw [hc]; rfl, rfl⟩
        | false =>
          refine hT _ _ ?_; clear hT; clear T
          (refine KL.v rfl (Val.pickT rfl rfl rfl) ?_)
          refine KL.nil ?_
          refine KE.next ?_
          refine K.condF rfl ?_
          refine K.skip ?_
          refine KE.blkN ?_
          refine KE.next ?_
          refine K.region ?_
          (refine KL.v rfl (Val.add rfl rfl (by simp only [Go.Proofs.Ytfgmofaadcbokaa.lo, Go.Proofs.Ytfgmofaadcbokaa.hi]; omega)) ?_)
          (refine KL.v rfl (Val.move rfl) ?_)
          refine KL.nil ?_
          exact KE.again (k + 1) bySub byPart ⟨by omega, fun y hy => by
            rcases Nat.lt_or_ge y k with h | h
            · exact hall y h
            · have : y = k := by omega
              subst this
              rw [hrp]
              simp only [hin, Bool.not_true, Bool.false_or, List.all_eq_true]
              intro x hx
              have := List.any_eq_false.1 hany x hx
              simpa using this⟩ (by omega)
  · have hc : closedP rows st = true := by
      unfold closedP
      rw [List.all_eq_true]
      intro y hy
      exact hall y (by have := List.mem_range.1 hy; omega)
    refine K.seq ?_
    refine K.region ?_
    (refine KL.v rfl (Val.isF (Val.lss rfl rfl) byLt) ?_)
    refine KL.nil ?_
    refine KE.next ?_
    refine K.seq ?_
    refine K.condF rfl ?_
    refine K.exit ?_
    refine KE.passX ?_
    refine KE.passX ?_
    refine KE.blkX ?_
    refine KE.next ?_
    refine K.seq ?_
    refine K.region ?_
    (refine KL.v rfl (Val.assign rfl) ?_)
    refine KL.nil ?_
    refine KE.next ?_
    refine K.ret ?_
    exact KE.fin byMarks rfl byRes byPart ⟨by rw [hc]; rfl, rfl⟩
end Go.Proofs.Ytfgmofaadcbokaa
