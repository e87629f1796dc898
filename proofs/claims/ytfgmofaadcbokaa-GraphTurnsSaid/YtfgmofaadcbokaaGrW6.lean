/- Graph: what is new among some nodes (levels$1$1). -/
import Derived.Test.YtfgmofaadcbokaaGrW5
namespace Go.Proofs.Ytfgmofaadcbokaa
open Go.RowKit
set_option linter.unusedVariables false
set_option linter.unusedSimpArgs false

/-- the map counts the members of S, each at most q times -/
def SeenAt (S : List Int) (q : Nat) (ms : List ME) : Prop := ∀ y, (mget ms y = none ∧ y ∉ S) ∨ ∃ z : Nat, 1 ≤ z ∧ z ≤ q ∧ mget ms y = some (.int .i64 z) ∧ y ∈ S
theorem SeenAt.nil : SeenAt [] 0 [] := fun y => .inl ⟨rfl, by simp⟩
theorem SeenAt.put {S : List Int} {q c z : Nat} {ms : List ME} (h : SeenAt S q ms) (ok : MOk ms c) (x : Int) (h1 : 1 ≤ z) (h2 : z ≤ q + 1) : SeenAt (S ++ [x]) (q + 1) (mput ms c x (.int .i64 z)) := by
  intro y
  rw [mget_put ok]
  by_cases hy : y = x
  · subst hy
    rw [if_pos rfl]
    exact .inr ⟨z, h1, h2, rfl, by simp⟩
  · rw [if_neg hy]
    rcases h y with ⟨g1, g2⟩ | ⟨z', g1, g2, g3, g4⟩
    · exact .inl ⟨g1, by simp [hy, g2]⟩
    · exact .inr ⟨z', g1, by omega, g3, by simp [g4]⟩

set_option maxRecDepth 10000 in
theorem seen1_K {w0 : World} {F : Heap} {b bm c q : Nat} {ms : List ME} {S : List Int} {x : Int} (ok : MOk ms c) (hs : SeenAt S q ms) (hq : q ≤ 1000000) :
    Call Try.prog w0 36 [.int .i64 x, .pointer (some ⟨b, 0, none⟩)] ((b, cells [.map (some bm)] 47) :: (bm, mobj ms c) :: F)
      (fun r H' => r = .bool (decide (x ∈ S)) ∧ ∃ ms' c', MOk ms' c' ∧ SeenAt (S ++ [x]) (q + 1) ms' ∧ H' = (b, cells [.map (some bm)] 47) :: (bm, mobj ms' c') :: F) := by
  refine Call.enter (n := 12) [(0, .int .i64 x), (1, .pointer (some ⟨b, 0, none⟩))] (by kernel_rfl) Try.func36 rfl rfl rfl ⟨rfl, rfl, trivial⟩ ?_
  rcases hs x with ⟨g1, g2⟩ | ⟨z, h1, h2, g1, g2⟩
  · have hg : mget (mput ms c x (.int .i64 1)) x = some (.int .i64 1) := by rw [mget_put ok, if_pos rfl]
    refine byCode ?_
    (refine KL.v rfl (Val.assign rfl) ?_)
    refine KL.nil ?_
    refine byCode ?_
    (refine KL.v rfl (Val.loadP rfl rfl bySee) ?_)
    (refine KL.v rfl (Val.move rfl) ?_)
    (first | (refine KL.v rfl (Val.lookS rfl rfl rfl byTake (by assumption)) ?_) | (refine KL.v rfl (Val.look0 rfl rfl rfl rfl byTake (by assumption)) ?_))
    (first | (refine KL.v rfl (Val.add rfl rfl (by simp only [Go.Proofs.Ytfgmofaadcbokaa.lo, Go.Proofs.Ytfgmofaadcbokaa.hi]; omega)) ?_) | (refine KL.v rfl (Val.addW rfl rfl) ?_))
    (refine KL.eN (Eff.mapUp rfl rfl rfl rfl byTake) ?_; rintro _ _ rfl)
    refine KL.nil ?_
    clear g1
    refine byCode ?_
    (refine KL.v rfl (Val.loadP rfl rfl bySee) ?_)
    (refine KL.v rfl (Val.move rfl) ?_)
    (first | (refine KL.v rfl (Val.lookS rfl rfl rfl byTake (by assumption)) ?_) | (refine KL.v rfl (Val.look0 rfl rfl rfl rfl byTake (by assumption)) ?_))
    (first | (refine KL.v rfl (Val.isT (Val.gtr rfl rfl) byLt) ?_) | (refine KL.v rfl (Val.isF (Val.gtr rfl rfl) byLt) ?_) | (refine KL.v rfl (Val.gtr rfl rfl) ?_))
    (refine KL.v rfl (Val.assign rfl) ?_)
    refine KL.nil ?_
    refine byCode ?_
    exact KE.fin byMarks rfl byRes byPart ⟨by rw [decide_eq_false g2]; rfl, _, _, ok.put x (.int .i64 1), hs.put ok x (z := 1) (by omega) (by omega), rfl⟩
  · have hg : mget (mput ms c x (.int .i64 ((z : Int) + 1))) x = some (.int .i64 ((z : Int) + 1)) := by rw [mget_put ok, if_pos rfl]
    refine byCode ?_
    (refine KL.v rfl (Val.assign rfl) ?_)
    refine KL.nil ?_
    refine byCode ?_
    (refine KL.v rfl (Val.loadP rfl rfl bySee) ?_)
    (refine KL.v rfl (Val.move rfl) ?_)
    (first | (refine KL.v rfl (Val.lookS rfl rfl rfl byTake (by assumption)) ?_) | (refine KL.v rfl (Val.look0 rfl rfl rfl rfl byTake (by assumption)) ?_))
    (first | (refine KL.v rfl (Val.add rfl rfl (by simp only [Go.Proofs.Ytfgmofaadcbokaa.lo, Go.Proofs.Ytfgmofaadcbokaa.hi]; omega)) ?_) | (refine KL.v rfl (Val.addW rfl rfl) ?_))
    (refine KL.eN (Eff.mapUp rfl rfl rfl rfl byTake) ?_; rintro _ _ rfl)
    refine KL.nil ?_
    clear g1
    refine byCode ?_
    (refine KL.v rfl (Val.loadP rfl rfl bySee) ?_)
    (refine KL.v rfl (Val.move rfl) ?_)
    (first | (refine KL.v rfl (Val.lookS rfl rfl rfl byTake (by assumption)) ?_) | (refine KL.v rfl (Val.look0 rfl rfl rfl rfl byTake (by assumption)) ?_))
    (first | (refine KL.v rfl (Val.isT (Val.gtr rfl rfl) byLt) ?_) | (refine KL.v rfl (Val.isF (Val.gtr rfl rfl) byLt) ?_) | (refine KL.v rfl (Val.gtr rfl rfl) ?_))
    (refine KL.v rfl (Val.assign rfl) ?_)
    refine KL.nil ?_
    refine byCode ?_
    exact KE.fin byMarks rfl byRes byPart ⟨by rw [decide_eq_true g2]; rfl, _, _, ok.put x (.int .i64 ((z : Int) + 1)), hs.put ok x (z := z + 1) (by omega) (by omega), rfl⟩

def FreJ (b bm : Nat) (S : List Int) (q : Nat) (pre : List Int) (A : Heap) : Prop := ∃ ms c, MOk ms c ∧ SeenAt (S ++ pre) (q + pre.length) ms ∧ A = (b, cells [.map (some bm)] 47) :: (bm, mobj ms c) :: []
/-- what is new -/
def freshP (n : Nat) (S l : List Int) : List Int := (hereP n l).filter fun x => !decide (x ∈ S)

set_option maxRecDepth 10000 in
set_option maxHeartbeats 1000000 in
theorem fresh_K {w0 : World} {F : Heap} {b1 b bm c q : Nat} {ms : List ME} {S l : List Int} {vg vl : Value} {gs : List SV} (hG : SlW w0 svE vg gs) (hL : Sli w0 ((b1, cells [vg] 22) :: (b, cells [.map (some bm)] 47) :: (bm, mobj ms c) :: F) iE vl l) (hl : l.length ≤ 100000) (hn : gs.length ≤ 1000)
    (ok : MOk ms c) (hs : SeenAt S q ms) (hq : q ≤ 100000) :
    Call Try.prog w0 35 [vl, .pointer (some ⟨b1, 0, none⟩), .pointer (some ⟨b, 0, none⟩)] ((b1, cells [vg] 22) :: (b, cells [.map (some bm)] 47) :: (bm, mobj ms c) :: F)
      (fun r H' => ∃ o ms' c', oOk iE (freshP gs.length S l) o ∧ r = oV o (freshP gs.length S l).length ∧ MOk ms' c' ∧ SeenAt (S ++ hereP gs.length l) (q + (hereP gs.length l).length) ms' ∧
        H' = oH iE 3 (freshP gs.length S l) o ++ ((b1, cells [vg] 22) :: (b, cells [.map (some bm)] 47) :: (bm, mobj ms' c') :: F)) := by
  refine Call.enter (n := 10) [(0, vl), (1, .pointer (some ⟨b1, 0, none⟩)), (2, .pointer (some ⟨b, 0, none⟩))] (by kernel_rfl) Try.func35 rfl rfl rfl ⟨rfl, rfl, rfl, trivial⟩ ?_
  have hhl : (hereP gs.length l).length ≤ 1000 := by
    unfold hereP
    exact Nat.le_trans (List.length_filter_le _ _) (by simpa using hn)
  refine byCode ?_
  (refine KL.v rfl (Val.assign rfl) ?_)
  refine KL.nil ?_
  refine byCode ?_
  (refine KL.v rfl (Val.loadP rfl rfl bySee) ?_)
  (refine KL.v rfl (Val.move rfl) ?_)
  (refine KL.callc rfl rfl byEvL fun T hT => ?_)
  refine (CallV.pure fun w hw => CallV.fn (here_K (hG.only hw.old) (hL w hw) hl)).mono ?_
  rintro _ _ ⟨_, ⟨o, oko, rfl, rfl⟩, rfl⟩
  refine hT _ _ ?_; clear hT; clear T
  (refine KL.v rfl (Val.makeFunc byEvL byEvL) ?_)
  (refine KL.callc rfl rfl byEvL fun T hT => ?_)
  refine (CallV.part (CallV.fn (DeleteFunc_K (F := (b1, cells [vg] 22) :: F) (A0 := (b, cells [.map (some bm)] 47) :: (bm, mobj ms c) :: []) (fun x => decide (x ∈ S)) (FreJ b bm S q) oko (by omega) ?_ ⟨ms, c, ok, by simpa using hs, rfl⟩)) byPart).mono ?_
  · rintro k x A R hx ⟨ms1, c1, ok1, hs1, rfl⟩
    have hlen : ((hereP gs.length l).take k).length = k := by rw [List.length_take]; have := lt_of_get hx; omega
    refine (CallV.fn (seen1_K (F := R) ok1 hs1 (by have := lt_of_get hx; omega))).mono ?_
    rintro _ _ ⟨rfl, ms', c', ok', hs', rfl⟩
    refine ⟨?_, _, ⟨ms', c', ok', ?_, rfl⟩, rfl⟩
    · congr 1
      have hnot : x ∉ (hereP gs.length l).take k := fun hm => by
        have hp := hereP_sorted gs.length l
        rw [← List.take_append_drop k (hereP gs.length l), List.pairwise_append] at hp
        have hd : x ∈ (hereP gs.length l).drop k := List.mem_of_getElem? (i := 0) (by rw [List.getElem?_drop]; simpa using hx)
        have := hp.2.2 x hm x hd
        omega
      simp [hnot]
    · rw [take_snoc hx, List.length_append, ← List.append_assoc]
      exact hs'
  · rintro _ _ ⟨A', o', ok', ⟨ms', c', okm, hs', rfl⟩, rfl, rfl⟩
    refine hT _ _ ?_; clear hT; clear T
    (refine KL.v rfl (Val.assign rfl) ?_)
    refine KL.nil ?_
    refine byCode ?_
    exact KE.fin byMarks rfl byRes byPart ⟨o', ms', c', ok', rfl, okm, hs', rfl⟩
end Go.Proofs.Ytfgmofaadcbokaa
