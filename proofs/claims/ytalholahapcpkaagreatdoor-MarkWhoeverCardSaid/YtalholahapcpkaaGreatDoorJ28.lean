/- The walker and the contracts that the law needs, part 28. -/
import Derived.Test.YtalholahapcpkaaGreatDoorD1
import Derived.Test.YtalholahapcpkaaGreatDoorJ26
import Derived.Test.YtalholahapcpkaaGreatDoorJ27
namespace Go.Proofs.YtalholahapcpkaaGreatDoor.Sw
open Go.Proofs.YtalholahapcpkaaGreatDoor renaming lo → qL, hi → qH
open Go.RowKit
set_option linter.unusedVariables false
set_option linter.unusedSimpArgs false
set_option maxRecDepth 10000
section
variable {w0 : World} {D F : Heap} {vc : Value} {C : List Int}
theorem rtOf_K {s : Nat} {c : Int} (hC : Sli w0 D bE vc C) (hc : C[s]? = some c) (hl : C.length ≤ 65536) :
  Call Tryz.prog w0 288 [vc, .int .i64 (s : Nat)] (D ++ F) (fun r H' => r = .tuple [.int .u8 c, .int .i64 0].toArray ∧ H' = D ++ F) := by
 have hs := lt_of_get hc
 have hge : ¬ ((s : Nat) : Int) ≥ (C.length : Nat) := by omega
 refine Call.enter2 (n := 18) (by kernel_rfl) Tryz.func288 rfl rfl rfl ?_
 refine zdA ?_
 refine zbG ?_
 refine zdt ?_
 refine zgk ?_
 refine zj ?_
 refine zbK ?_
 exact za4
theorem rtwith_K {s : Nat} {c : Int} (hC : Sli w0 D bE vc C) (hs : s < C.length) (hl : C.length ≤ 65536) :
  Call Tryz.prog w0 289 [vc, .int .i64 (s : Nat), .int .u8 c] (D ++ F) (fun r H' => ∃ (vc' : Value) (N : Heap), Sli w0 (N ++ D) bE vc' (C.set s c) ∧ vc'.oneCell' = true ∧ r = vc' ∧ H' = N ++ (D ++ F)) := by
 obtain ⟨z, hz⟩ := get_of_lt hs
 refine Call.enter3 (n := 16) (by kernel_rfl) Tryz.func289 rfl rfl rfl ?_
 refine zbH ?_
 refine zad ?_; intro b8
 refine zf ?_
 refine KL.e rfl (Eff.appLit (E := bE) (ys := C) rfl rfl rfl rfl rfl rfl rfl byTake (by first | exact Sli.blk byTake rfl (by first | decide | simp) (by first | decide | (unfold maxLen; omega)) rfl | exact Sli.old (by assumption) | exact Sli.own byTakeL (by assumption) byLen | assumption | exact Sli.part (by assumption) byPart) (by first | assumption | omega | (simp <;> fail) | (simp; omega)) rfl) ?_; rintro _ _ ⟨o', ok', rfl, rfl⟩
 refine zr ?_
 refine zbI ?_
 refine zfu ?_
 refine zbV ?_
 refine KE.fin (H' := oH bE 5 (C.set s c) o' ++ (D ++ F)) byMarks rfl byRes byPart ⟨oV o' C.length, _, Sli.own byTakeL (ok'.set s c) (by simp), oV_one _ _, rfl, rfl⟩
theorem rtShade_K {s : Nat} {c : Int} (hC : Sli w0 D bE vc C) (hv : vc.oneCell' = true) (hc : C[s]? = some c) (hl : C.length ≤ 65536) :
  Call Tryz.prog w0 285 [vc, .int .i64 (s : Nat)] (D ++ F) (fun r H' => ∃ (vc' : Value) (N : Heap), Sli w0 (N ++ D) bE vc' (if c = 0 then C.set s 1 else C) ∧ vc'.oneCell' = true ∧ r = .tuple [vc', .bool (decide (c = 0)), .int .i64 0].toArray ∧ H' = N ++ (D ++ F)) := by
 have hs := lt_of_get hc
 by_cases h0 : c = 0
 ·rw [if_pos h0, decide_eq_true h0]
  refine Call.enter2 (n := 26) (by kernel_rfl) Tryz.func285 rfl rfl rfl ?_
  refine zfN ?_
  refine zcC fun T hT => ?_
  refine zkm ?_
  refine ze ?_
  clear hT T
  refine zG ?_
  refine za1 ?_
  refine zD ?_
  refine zan ?_
  refine zbb fun T hT => ?_
  refine (CallV.part (CallV.fn (rtwith_K hC hs hl)) byPart).mono ?_
  rintro _ _ ⟨vc', N, hC', hv', rfl, rfl⟩
  refine zd ?_
  clear hT T
  refine zA ?_
  refine zL ?_
  exact KE.fin byMarks rfl byRes byPart ⟨_, N, hC', hv', rfl, rfl⟩
 ·rw [if_neg h0, decide_eq_false h0]
  refine Call.enter2 (n := 26) (by kernel_rfl) Tryz.func285 rfl rfl rfl ?_
  refine zfN ?_
  refine zcC fun T hT => ?_
  refine zkm ?_
  refine ze ?_
  clear hT T
  refine zG ?_
  refine za1 ?_
  refine zaP ?_
  refine zaz ?_
  refine zj ?_
  refine zey ?_
  exact KE.fin byMarks rfl byRes byPart ⟨vc, [], hC, hv, rfl, rfl⟩
theorem rtBlack_K {s : Nat} (hC : Sli w0 D bE vc C) (hs : s < C.length) (hl : C.length ≤ 65536) :
  Call Tryz.prog w0 263 [vc, .int .i64 (s : Nat)] (D ++ F) (fun r H' => ∃ (vc' : Value) (N : Heap), Sli w0 (N ++ D) bE vc' (C.set s 2) ∧ vc'.oneCell' = true ∧ r = .tuple [vc', .int .i64 0].toArray ∧ H' = N ++ (D ++ F)) := by
 obtain ⟨c, hc⟩ := get_of_lt hs
 refine Call.enter2 (n := 21) (by kernel_rfl) Tryz.func263 rfl rfl rfl ?_
 refine zaj ?_
 refine zcC fun T hT => ?_
 refine zkm ?_
 refine ze ?_
 clear hT T
 refine zG ?_
 refine zaB ?_
 refine zbb fun T hT => ?_
 refine (CallV.part (CallV.fn (rtwith_K hC hs hl)) byPart).mono ?_
 rintro _ _ ⟨vc', N, hC', hv', rfl, rfl⟩
 refine zd ?_
 clear hT T
 refine zL ?_
 exact KE.fin byMarks rfl byRes byPart ⟨_, N, hC', hv', rfl, rfl⟩
end
section
variable {w0 : World} {D F : Heap} {vn : Value} {l : List Int}
theorem rPin_K {s : Nat} (hN : Sli w0 D iE vn l) (hv : vn.oneCell' = true) (hs : s < l.length) (hl : l.length ≤ 65536) (hb : ∀ v ∈ l, 0 ≤ v ∧ v ≤ 255) :
  Call Tryz.prog w0 128 [vn, .int .i64 (s : Nat)] (D ++ F) (fun r H' => ∃ (vn' : Value) (N : Heap) (e : Int), Sli w0 (N ++ D) iE vn' (pinP l s) ∧ vn'.oneCell' = true ∧ r = .tuple [vn', .int .i64 e].toArray ∧ H' = N ++ (D ++ F)) := by
 obtain ⟨z, hz⟩ := get_of_lt hs
 have hzb := hb z (List.mem_of_getElem? hz)
 have hge : ¬ ((s : Nat) : Int) ≥ (l.length : Nat) := by omega
 have hp : pinP l s = if z < 255 then l.set s (z + 1) else l := by unfold pinP; rw [hz]; rfl
 by_cases h : z < 255
 ·rw [hp, if_pos h]
  have h' : ¬ z ≥ 255 := by omega
  refine Call.enter2 (n := 32) (by kernel_rfl) Tryz.func128 rfl rfl rfl ?_
  refine zdA ?_
  refine zbG ?_
  refine zdt ?_
  refine zdw ?_
  refine zaW ?_
  refine zj ?_
  refine zbK ?_
  refine zaJ ?_
  refine zM ?_
  refine zad ?_; intro b22
  refine zf ?_
  refine KL.e rfl (Eff.appLit (E := iE) (ys := l) rfl rfl rfl rfl rfl rfl rfl byTake (by first | exact Sli.blk byTake rfl (by first | decide | simp) (by first | decide | (unfold maxLen; omega)) rfl | exact Sli.old (by assumption) | exact Sli.own byTakeL (by assumption) byLen | assumption | exact Sli.part (by assumption) byPart) (by first | assumption | omega | (simp <;> fail) | (simp; omega)) rfl) ?_; rintro _ _ ⟨o', ok', rfl, rfl⟩
  refine zr ?_
  refine zep ?_
  refine zQ ?_
  refine zfu ?_
  refine zf ?_
  refine zL ?_
  refine KE.fin (H' := oH iE 3 (l.set s (z + 1)) o' ++ (D ++ F)) byMarks rfl byRes byPart ⟨oV o' l.length, _, 0, Sli.own byTakeL (ok'.set s _) (by simp), oV_one _ _, rfl, rfl⟩
 ·rw [hp, if_neg h]
  have h' : z ≥ 255 := by omega
  refine Call.enter2 (n := 32) (by kernel_rfl) Tryz.func128 rfl rfl rfl ?_
  refine zdA ?_
  refine zbG ?_
  refine zdt ?_
  refine zdw ?_
  refine zaW ?_
  refine zj ?_
  refine zbK ?_
  refine z8 ?_
  refine zI ?_
  refine zf ?_
  refine zeF ?_
  exact KE.fin byMarks rfl byRes byPart ⟨vn, [], 140, hN, hv, rfl, rfl⟩
theorem rUnpin_K {s : Nat} (hN : Sli w0 D iE vn l) (hv : vn.oneCell' = true) (hs : s < l.length) (hl : l.length ≤ 65536) (hb : ∀ v ∈ l, 0 ≤ v ∧ v ≤ 255) :
  Call Tryz.prog w0 130 [vn, .int .i64 (s : Nat)] (D ++ F) (fun r H' => ∃ (vn' : Value) (N : Heap) (e : Int), Sli w0 (N ++ D) iE vn' (unpinP l s) ∧ vn'.oneCell' = true ∧ r = .tuple [vn', .int .i64 e].toArray ∧ H' = N ++ (D ++ F)) := by
 obtain ⟨z, hz⟩ := get_of_lt hs
 have hzb := hb z (List.mem_of_getElem? hz)
 have hge : ¬ ((s : Nat) : Int) ≥ (l.length : Nat) := by omega
 have hp : unpinP l s = if 0 < z then l.set s (z - 1) else l := by unfold unpinP; rw [hz]; rfl
 by_cases h : 0 < z
 ·rw [hp, if_pos h]
  have h' : ¬ z = 0 := by omega
  refine Call.enter2 (n := 32) (by kernel_rfl) Tryz.func130 rfl rfl rfl ?_
  refine zdA ?_
  refine zbG ?_
  refine zdt ?_
  refine zdw ?_
  refine zaW ?_
  refine zj ?_
  refine zbK ?_
  refine zH ?_
  refine zM ?_
  refine zad ?_; intro b22
  refine zf ?_
  refine KL.e rfl (Eff.appLit (E := iE) (ys := l) rfl rfl rfl rfl rfl rfl rfl byTake (by first | exact Sli.blk byTake rfl (by first | decide | simp) (by first | decide | (unfold maxLen; omega)) rfl | exact Sli.old (by assumption) | exact Sli.own byTakeL (by assumption) byLen | assumption | exact Sli.part (by assumption) byPart) (by first | assumption | omega | (simp <;> fail) | (simp; omega)) rfl) ?_; rintro _ _ ⟨o', ok', rfl, rfl⟩
  refine zr ?_
  refine zep ?_
  refine zbi ?_
  refine zfu ?_
  refine zf ?_
  refine zL ?_
  refine KE.fin (H' := oH iE 3 (l.set s (z - 1)) o' ++ (D ++ F)) byMarks rfl byRes byPart ⟨oV o' l.length, _, 0, Sli.own byTakeL (ok'.set s _) (by simp), oV_one _ _, rfl, rfl⟩
 ·rw [hp, if_neg h]
  have h' : z = 0 := by omega
  refine Call.enter2 (n := 32) (by kernel_rfl) Tryz.func130 rfl rfl rfl ?_
  refine zdA ?_
  refine zbG ?_
  refine zdt ?_
  refine zdw ?_
  refine zaW ?_
  refine zj ?_
  refine zbK ?_
  refine zY ?_
  refine zI ?_
  refine zf ?_
  refine zeF ?_
  exact KE.fin byMarks rfl byRes byPart ⟨vn, [], 140, hN, hv, rfl, rfl⟩
end
open Go.RowKit
set_option maxRecDepth 10000
structure GyV where
 Q : Value
 ow : Value
 di : Value
def natI (q : List Nat) : List Int := q.map fun n => ((n : Nat) : Int)
theorem natI_len (q : List Nat) : (natI q).length = q.length := by simp [natI]
def pgI (G : GyP) : Int := match G.pg with
 | some k => ((k : Nat) : Int)
 | none => -1
def gyL (v : PlV) (g : PlG) (long : Nat) (u : GyV) (G : GyP) : List Value := [v.L, v.F, v.M, .int .i64 (g.words : Nat), v.C, .int .i64 (long : Nat), u.Q, u.ow, u.di, .int .i64 (pgI G), .int .i64 (G.at_ : Nat)]
structure GyD (w0 : World) (D : Heap) (u : GyV) (G : GyP) : Prop where
 Q : Sli w0 D iE u.Q (natI G.q)
 ow : Sli w0 D boE u.ow G.ow
 di : Sli w0 D boE u.di G.di
 o1 : u.Q.oneCell' = true
 o2 : u.ow.oneCell' = true
 o3 : u.di.oneCell' = true
theorem GyD.part {w0 : World} {D D' : Heap} {u : GyV} {G : GyP} (h : GyD w0 D u G) (hp : Part D' D) : GyD w0 D' u G := ⟨h.Q.part hp, h.ow.part hp, h.di.part hp, h.o1, h.o2, h.o3⟩
structure DyS where
 k : Nat
theorem next_is {bs : List Bool} {k : Nat} (h : bs[k]? = some true) (hno : ∀ j : Nat, j < k → bs[j]? ≠ some true) : nextB bs 0 true = some k := by
 unfold nextB
 rw [List.find?_range_eq_some]
 refine ⟨by rw [h]; simp, List.mem_range.2 (lt_of_get h), fun j hj => ?_⟩
 have h1 := hno j hj
 cases hb : bs[j]? with
 | none => simp
 | some b => cases b <;> simp_all
theorem next_no {bs : List Bool} (h : ∀ j : Nat, bs[j]? ≠ some true) : nextB bs 0 true = none := by
 unfold nextB
 rw [List.find?_eq_none]
 intro j hj
 have h1 := h j
 cases hb : bs[j]? with
 | none => simp
 | some b => cases b <;> simp_all
section
variable {w0 : World} {D F : Heap} {v : PlV} {g : PlG} {long : Nat} {u : GyV} {G : GyP}
theorem ryNew_K (hP : PlanD w0 D v g) (ok : PlOk g) :
  Call Tryz.prog w0 176 [.agg (plL v g).toArray, .int .i64 (long : Nat)] (D ++ F) (fun r H' => ∃ (u : GyV) (N : Heap), GyD w0 (N ++ D) u (nilG g) ∧ r = .agg (gyL v g long u (nilG g)).toArray ∧ H' = N ++ (D ++ F)) := by
 have hL := hP.L
 have hFi := hP.F
 have q1 := hP.oL
 have q2 := hP.oF
 have q3 := hP.oM
 have q4 := hP.oC
 have hlen := L_len (g := g)
 have hfl := firsts_len (g := g)
 have hbl := g_L_bnd ok
 have hpb := ok.pages
 unfold plL
 refine Call.enter2 (n := 16) (by kernel_rfl) Tryz.func176 rfl rfl rfl ?_
 refine zaq ?_; intro b2 b4
 refine zcF ?_
 refine zak ?_
 refine K.drawn ((b2, cells [v.L, v.F, v.M, .int .i64 (g.words : Nat), v.C] 34) :: D) [(0, 1), (1, 1), (2, 1), (3, 1), (4, 1), (6, 1), (7, 1), (8, 1), (5, 3), (9, 2), (10, 0), (11, 2)] (by kernel_rfl) (by kernel_rfl) (by kernel_rfl) (by kernel_rfl) (by kernel_rfl) (by kernel_rfl) byPart ?_
 refine ze7 ?_
 refine zO ?_
 refine zd4 ?_
 refine zjd ?_
 refine zi4 ?_
 refine zaO ?_
 refine zjd ?_
 refine KD.fork2 (x := 5) (y := 9) (o1 := [(9, 2), (10, 0), (11, 2)]) (o2 := [(5, 2), (10, 0), (11, 2)]) (by kernel_rfl) rfl rfl (by kernel_rfl) (by kernel_rfl) ?_ ?_
 ·(refine ActK.e rfl (Eff.makeR (E := boE) (x0 := false) rfl rfl rfl rfl rfl rfl (by first | assumption | omega | (simp <;> fail) | (simp; omega))) ?_; rintro _ _ ⟨o10, ok10, rfl, rfl⟩; refine ⟨byPart, ?_⟩)
  refine KD.e rfl rfl (Eff.makeR (E := boE) (x0 := false) rfl rfl rfl rfl rfl rfl (by first | assumption | omega | (simp <;> fail) | (simp; omega))) ?_; rintro _ _ ⟨o14, ok14, rfl, rfl⟩; refine ⟨byPart, ?_⟩
  refine zgK ?_
  refine KE.fin (H' := (oH boE 4 (List.replicate g.firsts.length false) o14 ++ oH boE 4 (List.replicate g.L.length false) o10) ++ (D ++ F)) byMarks rfl byRes (by simp only [List.append_assoc]; exact byPart) ⟨⟨.slice none 0 0, oV o10 (List.replicate g.L.length false).length, oV o14 (List.replicate g.firsts.length false).length⟩, oH boE 4 (List.replicate g.firsts.length false) o14 ++ oH boE 4 (List.replicate g.L.length false) o10, ⟨Sli.own (o := none) (e := 3) TakeL.nil rfl rfl, (by show Sli _ _ _ _ (List.replicate g.slots false); rw [← hlen]; exact Sli.own (by first | exact byTakeL | (simp only [List.append_assoc]; exact byTakeL)) ok10 rfl), (by show Sli _ _ _ _ (List.replicate g.pages false); rw [← hfl]; exact Sli.own (by first | exact byTakeL | (simp only [List.append_assoc]; exact byTakeL)) ok14 rfl), rfl, oV_one _ _, oV_one _ _⟩, rfl, rfl⟩
 ·(refine ActK.e rfl (Eff.makeR (E := boE) (x0 := false) rfl rfl rfl rfl rfl rfl (by first | assumption | omega | (simp <;> fail) | (simp; omega))) ?_; rintro _ _ ⟨o14, ok14, rfl, rfl⟩; refine ⟨byPart, ?_⟩)
  refine KD.e rfl rfl (Eff.makeR (E := boE) (x0 := false) rfl rfl rfl rfl rfl rfl (by first | assumption | omega | (simp <;> fail) | (simp; omega))) ?_; rintro _ _ ⟨o10, ok10, rfl, rfl⟩; refine ⟨byPart, ?_⟩
  refine zgK ?_
  refine KE.fin (H' := (oH boE 4 (List.replicate g.firsts.length false) o14 ++ oH boE 4 (List.replicate g.L.length false) o10) ++ (D ++ F)) byMarks rfl byRes (by simp only [List.append_assoc]; exact byPart) ⟨⟨.slice none 0 0, oV o10 (List.replicate g.L.length false).length, oV o14 (List.replicate g.firsts.length false).length⟩, oH boE 4 (List.replicate g.firsts.length false) o14 ++ oH boE 4 (List.replicate g.L.length false) o10, ⟨Sli.own (o := none) (e := 3) TakeL.nil rfl rfl, (by show Sli _ _ _ _ (List.replicate g.slots false); rw [← hlen]; exact Sli.own (by first | exact byTakeL | (simp only [List.append_assoc]; exact byTakeL)) ok10 rfl), (by show Sli _ _ _ _ (List.replicate g.pages false); rw [← hfl]; exact Sli.own (by first | exact byTakeL | (simp only [List.append_assoc]; exact byTakeL)) ok14 rfl), rfl, oV_one _ _, oV_one _ _⟩, rfl, rfl⟩
set_option maxHeartbeats 1000000 in
theorem rycopied_K (hP : PlanD w0 D v g) (hY : GyD w0 D u G) (hok : GyOk g long G) (ok : PlOk g) (hlg : long ≤ 64) :
  Call Tryz.prog w0 287 [.agg (gyL v g long u G).toArray] (D ++ F)
   (fun r H' => ∃ o1 o2 o3, oOk iE (natI G.q) o1 ∧ oOk boE G.ow o2 ∧ oOk boE G.di o3 ∧ r = .agg (gyL v g long ⟨oV o1 (natI G.q).length, oV o2 G.ow.length, oV o3 G.di.length⟩ G).toArray ∧ H' = oH boE 4 G.di o3 ++ (oH boE 4 G.ow o2 ++ (oH iE 3 (natI G.q) o1 ++ (D ++ F)))) := by
 have q1 := hP.oL
 have q2 := hP.oF
 have q3 := hP.oM
 have q4 := hP.oC
 have q5 := hY.o1
 have q6 := hY.o2
 have q7 := hY.o3
 have hQ := hY.Q
 have how := hY.ow
 have hdi := hY.di
 have l1 := hok.ql
 have l2 := hok.ow
 have l3 := hok.di
 have b2 := ok.slots
 have b3 := ok.pages
 have l4 := natI_len G.q
 unfold gyL
 refine Call.enter1 (n := 19) (by kernel_rfl) Tryz.func287 rfl rfl rfl ?_
 refine zaq ?_; intro b1 b2
 refine zy ?_
 refine zad ?_; intro b3
 refine zem ?_
 refine KL.e rfl (Eff.appLit (E := iE) (ys := natI G.q) rfl rfl rfl rfl rfl rfl rfl byTake (by first | exact Sli.blk byTake rfl (by first | decide | simp) (by first | decide | (unfold maxLen; omega)) rfl | exact Sli.old (by assumption) | exact Sli.own byTakeL (by assumption) byLen | assumption | exact Sli.part (by assumption) byPart) (by first | assumption | omega | (simp <;> fail) | (simp; omega)) rfl) ?_; rintro _ _ ⟨o1, ok1, rfl, rfl⟩
 refine ze3 ?_
 refine zaA ?_
 refine zad ?_; intro b8
 refine zaL ?_
 refine zk ?_
 refine KL.e rfl (Eff.appLit (E := boE) (ys := G.ow) rfl rfl rfl rfl rfl rfl rfl byTake (by first | exact Sli.blk byTake rfl (by first | decide | simp) (by first | decide | (unfold maxLen; omega)) rfl | exact Sli.old (by assumption) | exact Sli.own byTakeL (by assumption) byLen | assumption | exact Sli.part (by assumption) byPart) (by first | assumption | omega | (simp <;> fail) | (simp; omega)) rfl) ?_; rintro _ _ ⟨o2, ok2, rfl, rfl⟩
 refine zaL ?_
 refine zaA ?_
 refine zad ?_; intro b13
 refine zcr ?_
 refine zk ?_
 refine KL.e rfl (Eff.appLit (E := boE) (ys := G.di) rfl rfl rfl rfl rfl rfl rfl byTake (by first | exact Sli.blk byTake rfl (by first | decide | simp) (by first | decide | (unfold maxLen; omega)) rfl | exact Sli.old (by assumption) | exact Sli.own byTakeL (by assumption) byLen | assumption | exact Sli.part (by assumption) byPart) (by first | assumption | omega | (simp <;> fail) | (simp; omega)) rfl) ?_; rintro _ _ ⟨o3, ok3, rfl, rfl⟩
 refine zcr ?_
 refine zaA ?_
 refine zbx ?_
 exact KE.fin byMarks rfl byRes byPart ⟨o1, o2, o3, ok1, ok2, ok3, rfl, rfl⟩
theorem natI_snoc (q : List Nat) (s : Nat) : natI q ++ [((s : Nat) : Int)] = natI (q ++ [s]) := by simp [natI]
set_option maxHeartbeats 1000000 in
theorem ryPut_K {s : Nat} (hP : PlanD w0 D v g) (hY : GyD w0 D u G) (hok : GyOk g long G) (ok : PlOk g) (hlg : long ≤ 64) (hs : s < g.slots) :
  Call Tryz.prog w0 286 [.agg (gyL v g long u G).toArray, .int .i64 (s : Nat)] (D ++ F)
   (fun r H' => ∃ (u' : GyV) (N : Heap), GyD w0 (N ++ D) u' (putG g long G s) ∧ r = .tuple [.agg (gyL v g long u' (putG g long G s)).toArray, .int .i64 0].toArray ∧ H' = N ++ (D ++ F)) := by
 obtain ⟨y, hy⟩ := L_ex (g := g) hs
 have hHas := fun A => rHas_K (w0 := w0) (D := D) (F := A) (n := (s : Nat)) hP ok
 simp only [has_slot hy] at hHas
 have hcop := fun A => rycopied_K (F := A) hP hY hok ok hlg
 have q1 := hP.oL
 have q2 := hP.oF
 have q3 := hP.oM
 have q4 := hP.oC
 have q5 := hY.o1
 have q6 := hY.o2
 have q7 := hY.o3
 have hL := hP.L
 have hQ := hY.Q
 have l1 := hok.ql
 have l2 := hok.ow
 have l3 := hok.di
 have l4 := natI_len G.q
 have hpg := pgOf_at hy
 have hpb := (pg_of ok hy).1
 unfold plL at hHas
 unfold gyL at hcop ⊢
 dsimp only at hcop ⊢
 by_cases hl : G.q.length < long
 ·have hput : putG g long G s = { G with q := G.q ++ [s] } := by unfold putG; rw [if_pos hl]
  rw [hput]
  have hl' : ((natI G.q).length : Int) < (long : Nat) := by omega
  have hbd : (natI (G.q ++ [s])).length ≤ 4294967296 := by rw [natI_len, List.length_append, List.length_singleton]; omega
  refine Call.enter2 (n := 42) (by kernel_rfl) Tryz.func286 rfl rfl rfl ?_
  refine zcX ?_; intro b2 b4
  refine zaM ?_
  refine zz fun T hT => ?_
  refine zd3 ?_
  clear hT T
  refine zaG ?_
  refine zp fun T hT => ?_
  refine zje ?_
  rintro _ _ ⟨o1, o2, o3, k1, k2, k3, rfl, rfl⟩
  refine zd ?_
  clear hT T
  refine z9 ?_
  refine zbM ?_
  refine zem ?_
  refine za6 ?_
  refine zaY ?_
  refine zk ?_
  refine zE ?_
  refine zfW ?_
  refine zau ?_
  refine zlt ?_
  refine zfo ?_
  refine zad ?_; intro b23
  refine KL.e rfl (Eff.appZ (E := iE) (xs := natI G.q) (o := o1) (ys := [((s : Nat) : Int)]) (zs := natI (G.q ++ [s])) rfl rfl rfl rfl rfl rfl byTakeL (by assumption) (by first | exact Sli.blk byTake rfl (by first | decide | simp) (by first | decide | (unfold maxLen; omega)) rfl | exact Sli.old (by assumption) | exact Sli.own byTakeL (by assumption) byLen | assumption | exact Sli.part (by assumption) byPart) (natI_snoc G.q s) (by first | assumption | omega | (simp <;> fail) | (simp; omega)) rfl) ?_; rintro _ _ ⟨o', ok', rfl, rfl⟩
  refine zlt ?_
  refine ze5 ?_
  refine zy ?_
  refine zbg ?_
  refine KE.fin (H' := (oH boE 4 G.di o3 ++ (oH boE 4 G.ow o2 ++ oH iE 3 (natI (G.q ++ [s])) o')) ++ (D ++ F)) byMarks rfl byRes (by simp only [List.append_assoc]; exact byPart) ⟨⟨oV o' (natI (G.q ++ [s])).length, oV o2 G.ow.length, oV o3 G.di.length⟩, oH boE 4 G.di o3 ++ (oH boE 4 G.ow o2 ++ oH iE 3 (natI (G.q ++ [s])) o'), ⟨Sli.own (by first | exact byTakeL | (simp only [List.append_assoc]; exact byTakeL)) ok' rfl, Sli.own (by first | exact byTakeL | (simp only [List.append_assoc]; exact byTakeL)) k2 rfl, Sli.own (by first | exact byTakeL | (simp only [List.append_assoc]; exact byTakeL)) k3 rfl, oV_one _ _, oV_one _ _, oV_one _ _⟩, rfl, rfl⟩
 ·have hput : putG g long G s = { G with ow := G.ow.set s true, di := G.di.set y.page true } := by unfold putG; rw [if_neg hl, hpg]
  rw [hput]
  have hl' : ¬ ((natI G.q).length : Int) < (long : Nat) := by omega
  have hso : s < G.ow.length := by omega
  have hsd : y.page < G.di.length := by omega
  have hyl := lt_of_get hy
  obtain ⟨z1, hz1⟩ := get_of_lt hso
  obtain ⟨z2, hz2⟩ := get_of_lt hsd
  refine Call.enter2 (n := 42) (by kernel_rfl) Tryz.func286 rfl rfl rfl ?_
  refine zcX ?_; intro b2 b4
  refine zaM ?_
  refine zz fun T hT => ?_
  refine zd3 ?_
  clear hT T
  refine zaG ?_
  refine zp fun T hT => ?_
  refine zje ?_
  rintro _ _ ⟨o1, o2, o3, k1, k2, k3, rfl, rfl⟩
  refine zd ?_
  clear hT T
  refine z9 ?_
  refine zbM ?_
  refine zem ?_
  refine za6 ?_
  refine zaY ?_
  refine zk ?_
  refine zR ?_
  refine zM ?_
  refine zfn ?_
  refine zgn ?_
  refine zcF ?_
  refine zh5 ?_
  refine KD.v0 rfl rfl (Val.fieldAddr0 (k := 8) rfl rfl) ?_
  refine zx ?_
  refine zaV ?_
  refine zcT ?_
  refine zgP ?_
  refine KD.v0 rfl rfl (Val.fieldSl (k := 3) rfl rfl) ?_
  refine zeb ?_
  refine zdD ?_
  refine zi1 ?_
  refine zgl ?_
  refine zaN ?_
  refine zck ?_
  refine KE.fin (H' := (oH boE 4 (G.di.set y.page true) o3 ++ (oH boE 4 (G.ow.set s true) o2 ++ oH iE 3 (natI G.q) o1)) ++ (D ++ F)) byMarks rfl byRes (by simp only [List.append_assoc]; exact byPart) ⟨⟨oV o1 (natI G.q).length, oV o2 G.ow.length, oV o3 G.di.length⟩, oH boE 4 (G.di.set y.page true) o3 ++ (oH boE 4 (G.ow.set s true) o2 ++ oH iE 3 (natI G.q) o1), ⟨Sli.own (by first | exact byTakeL | (simp only [List.append_assoc]; exact byTakeL)) k1 rfl, Sli.own (by first | exact byTakeL | (simp only [List.append_assoc]; exact byTakeL)) (k2.set _ _) (by simp), Sli.own (by first | exact byTakeL | (simp only [List.append_assoc]; exact byTakeL)) (k3.set _ _) (by simp), oV_one _ _, oV_one _ _, oV_one _ _⟩, rfl, rfl⟩
set_option maxHeartbeats 1000000 in
theorem ryNext_K (hP : PlanD w0 D v g) (hY : GyD w0 D u G) (hok : GyOk g long G) (ok : PlOk g) (hlg : long ≤ 64) :
  Call Tryz.prog w0 261 [.agg (gyL v g long u G).toArray] (D ++ F)
   (fun r H' => (G.q = [] ∧ r = .tuple [.agg (gyL v g long u G).toArray, .int .i64 0, .bool false].toArray ∧ H' = D ++ F) ∨ ∃ (s : Nat) (q : List Nat) (u' : GyV) (N : Heap), G.q = s :: q ∧ GyD w0 (N ++ D) u' { G with q := q } ∧ r = .tuple [.agg (gyL v g long u' { G with q := q }).toArray, .int .i64 (s : Nat), .bool true].toArray ∧ H' = N ++ (D ++ F)) := by
 have hcop := fun A => rycopied_K (F := A) hP hY hok ok hlg
 have q1 := hP.oL
 have q2 := hP.oF
 have q3 := hP.oM
 have q4 := hP.oC
 have q5 := hY.o1
 have q6 := hY.o2
 have q7 := hY.o3
 have hQ := hY.Q
 have l4 := natI_len G.q
 unfold gyL at hcop ⊢
 dsimp only at hcop ⊢
 cases hq : G.q with
 | nil =>
  rw [hq] at hQ l4
  have hl' : ((natI []).length : Int) = 0 := rfl
  refine Call.enter1 (n := 23) (by kernel_rfl) Tryz.func261 rfl rfl rfl ?_
  refine zaq ?_; intro b1 b2
  refine ziy ?_
  refine zfq ?_
  refine zY ?_
  refine zI ?_
  refine zcJ ?_
  refine zeF ?_
  exact KE.fin byMarks rfl byRes byPart (.inl ⟨rfl, rfl, rfl⟩)
 | cons s q =>
  have hQ2 := hQ
  rw [hq] at hQ2 l4
  have hx : (natI (s :: q))[0]? = some ((s : Nat) : Int) := rfl
  have hl' : ¬ ((natI (s :: q)).length : Int) = 0 := by simp at l4; omega
  have hl2 : 1 ≤ (natI (s :: q)).length := by simp at l4; omega
  have hd : natI q = (natI (s :: q)).drop 1 := rfl
  have hdl : ((natI (s :: q)).drop 1).length = (natI (s :: q)).length - 1 := by simp
  refine Call.enter1 (n := 23) (by kernel_rfl) Tryz.func261 rfl rfl rfl ?_
  refine zaq ?_; intro b1 b2
  refine ziy ?_
  refine zfq ?_
  refine zH ?_
  refine zM ?_
  refine zem ?_
  refine zbK ?_
  refine zcB fun T hT => ?_
  refine zje ?_
  rintro _ _ ⟨o1, o2, o3, k1, k2, k3, rfl, rfl⟩
  rw [hq] at k1 ⊢
  have hone : (subV (oV o1 (natI (s :: q)).length) 1 (natI (s :: q)).length iE.sz).oneCell' = true := by cases o1 <;> rfl
  refine zd ?_
  clear hT T
  refine zcj ?_
  refine zem ?_
  refine KL.v rfl (Val.sliceL rfl rfl rfl (Sli.own byTakeL (by assumption) byLen) rfl byLt) ?_
  refine ze3 ?_
  refine zaA ?_
  refine zgw ?_
  refine z9 ?_
  refine zL ?_
  refine KE.fin (H' := (oH boE 4 G.di o3 ++ (oH boE 4 G.ow o2 ++ oH iE 3 (natI (s :: q)) o1)) ++ (D ++ F)) byMarks rfl byRes (by simp only [List.append_assoc]; exact byPart) (.inr ⟨s, q, ⟨subV (oV o1 (natI (s :: q)).length) 1 (natI (s :: q)).length iE.sz, oV o2 G.ow.length, oV o3 G.di.length⟩, oH boE 4 G.di o3 ++ (oH boE 4 G.ow o2 ++ oH iE 3 (natI (s :: q)) o1), rfl, ⟨?_, Sli.own (by first | exact byTakeL | (simp only [List.append_assoc]; exact byTakeL)) k2 rfl, Sli.own (by first | exact byTakeL | (simp only [List.append_assoc]; exact byTakeL)) k3 rfl, hone, oV_one _ _, oV_one _ _⟩, rfl, rfl⟩)
  have := (Sli.own (w0 := w0) (H := (oH boE 4 G.di o3 ++ (oH boE 4 G.ow o2 ++ oH iE 3 (natI (s :: q)) o1)) ++ D) (by first | exact byTakeL | (simp only [List.append_assoc]; exact byTakeL)) k1 rfl).sub hl2 (Nat.le_refl _)
  rw [List.take_length] at this
  exact this
theorem rydirty_K (hP : PlanD w0 D v g) (hY : GyD w0 D u G) (hok : GyOk g long G) (ok : PlOk g) :
  Call Tryz.prog w0 290 [.agg (gyL v g long u G).toArray] (D ++ F) (fun r H' => r = .int .i64 (match nextB G.di 0 true with | some k => ((k : Nat) : Int) | none => -1) ∧ H' = D ++ F) := by
 have q1 := hP.oL
 have q2 := hP.oF
 have q3 := hP.oM
 have q4 := hP.oC
 have q5 := hY.o1
 have q6 := hY.o2
 have q7 := hY.o3
 have hdi := hY.di
 have l3 := hok.di
 have b3 := ok.pages
 unfold gyL
 refine Call.enter1 (n := 17) (by kernel_rfl) Tryz.func290 rfl rfl rfl ?_
 refine zbl ?_; intro b1
 refine zcn ?_
 refine K.loopT (σ := DyS) [(1, _)] (fun s kp_ => (3, .int .i64 (s.k : Nat)) :: kp_) (fun s => (b1, cells [v.L, v.F, v.M, .int .i64 (g.words : Nat), v.C, .int .i64 (long : Nat), u.Q, u.ow, u.di, .int .i64 (pgI G), .int .i64 (G.at_ : Nat)] 94) :: (D ++ F)) (fun s => s.k ≤ G.di.length ∧ ∀ j : Nat, j < s.k → G.di[j]? ≠ some true) (fun s => G.di.length - s.k) (⟨0⟩) bySub byPart (⟨Nat.zero_le _, fun _ h => absurd h (Nat.not_lt_zero _)⟩) ?_
 rintro ⟨k⟩ ⟨hk, hno⟩
 dsimp only at hk hno ⊢
 by_cases hlt : k < G.di.length
 ·obtain ⟨d, hd⟩ := get_of_lt hlt
  cases d with
  | true =>
   have hn : nextB G.di 0 true = some k := next_is hd hno
   rw [hn]
   dsimp only
   refine zv ?_
   refine zcr ?_
   refine zk ?_
   refine za3 ?_
   refine zcr ?_
   refine zcO ?_
   refine zc0 ?_
   refine zI ?_
   refine zf ?_
   refine zgo ?_
   exact zaU
  | false =>
   refine zv ?_
   refine zcr ?_
   refine zk ?_
   refine za3 ?_
   refine zcr ?_
   refine zcO ?_
   refine zc0 ?_
   refine zgy ?_
   exact KE.again ⟨k + 1⟩ bySub byPart ⟨hlt, fun j (hj : j < k + 1) => by
    rcases Nat.lt_or_ge j k with h | h
    ·exact hno j h
    ·have : j = k := by omega
     subst this
     rw [hd]; simp⟩ (by show G.di.length - (k + 1) < G.di.length - k; omega)
 ·have hn : nextB G.di 0 true = none := next_no fun j hj => hno j (by have := lt_of_get hj; omega) hj
  rw [hn]
  dsimp only
  refine zv ?_
  refine zcr ?_
  refine zk ?_
  refine zfx ?_
  exact zw
theorem ryOwed_K (hP : PlanD w0 D v g) (hY : GyD w0 D u G) (hok : GyOk g long G) (ok : PlOk g) :
  Call Tryz.prog w0 265 [.agg (gyL v g long u G).toArray] (D ++ F) (fun r H' => r = .int .i64 (G.ow.count true : Nat) ∧ H' = D ++ F) := by
 have q1 := hP.oL
 have q2 := hP.oF
 have q3 := hP.oM
 have q4 := hP.oC
 have q5 := hY.o1
 have q6 := hY.o2
 have q7 := hY.o3
 have how := hY.ow
 have l3 := hok.ow
 have b3 := ok.slots
 unfold gyL
 refine Call.enter1 (n := 20) (by kernel_rfl) Tryz.func265 rfl rfl rfl ?_
 refine zW ?_; intro b1
 refine zcn ?_
 refine K.loopT (σ := DyS) [(1, _)] (fun s kp_ => (4, .int .i64 (s.k : Nat)) :: (3, .int .i64 ((G.ow.take s.k).count true : Nat)) :: kp_) (fun s => (b1, cells [v.L, v.F, v.M, .int .i64 (g.words : Nat), v.C, .int .i64 (long : Nat), u.Q, u.ow, u.di, .int .i64 (pgI G), .int .i64 (G.at_ : Nat)] 94) :: (D ++ F)) (fun s => s.k ≤ G.ow.length) (fun s => G.ow.length - s.k) (⟨0⟩) bySub byPart (Nat.zero_le _) ?_
 rintro ⟨k⟩ hk
 dsimp only at hk ⊢
 have hcl : (G.ow.take k).count true ≤ k := Nat.le_trans List.count_le_length (by simp; omega)
 by_cases hlt : k < G.ow.length
 ·obtain ⟨d, hd⟩ := get_of_lt hlt
  have hs : G.ow.take (k + 1) = G.ow.take k ++ [d] := take_snoc hd
  cases d with
  | true =>
   have hc : (((G.ow.take k).count true : Nat) : Int) + 1 = (((G.ow.take (k + 1)).count true : Nat) : Int) := by rw [hs]; simp
   refine zv ?_
   refine zaL ?_
   refine zk ?_
   refine za3 ?_
   refine zaL ?_
   refine zcO ?_
   refine zc0 ?_
   refine zbz ?_
   refine zf ?_
   refine zcK ?_
   refine zbq ?_
   rw [hc]
   exact KE.again ⟨k + 1⟩ bySub byPart hlt (by show G.ow.length - (k + 1) < G.ow.length - k; omega)
  | false =>
   have hc : (((G.ow.take k).count true : Nat) : Int) = (((G.ow.take (k + 1)).count true : Nat) : Int) := by rw [hs]; simp
   rw [hc]
   refine zv ?_
   refine zaL ?_
   refine zk ?_
   refine za3 ?_
   refine zaL ?_
   refine zcO ?_
   refine zc0 ?_
   refine zgy ?_
   exact KE.again ⟨k + 1⟩ bySub byPart hlt (by show G.ow.length - (k + 1) < G.ow.length - k; omega)
 ·have hkn : k = G.ow.length := by omega
  subst hkn
  rw [List.take_length] at *
  refine zv ?_
  refine zaL ?_
  refine zk ?_
  refine zfx ?_
  refine zf ?_
  exact zw
theorem ryEmpty_K (hP : PlanD w0 D v g) (hY : GyD w0 D u G) (hok : GyOk g long G) (ok : PlOk g) :
  Call Tryz.prog w0 211 [.agg (gyL v g long u G).toArray] (D ++ F) (fun r H' => r = .bool (emptyG G) ∧ H' = D ++ F) := by
 have how := fun A => ryOwed_K (F := A) hP hY hok ok
 have q1 := hP.oL
 have q2 := hP.oF
 have q3 := hP.oM
 have q4 := hP.oC
 have q5 := hY.o1
 have q6 := hY.o2
 have q7 := hY.o3
 have hQ := hY.Q
 have l4 := natI_len G.q
 unfold gyL at how ⊢
 cases hq : G.q with
 | cons s q =>
  have hem : emptyG G = false := by unfold emptyG; rw [hq]; rfl
  rw [hq] at l4
  have hl' : ¬ ((natI G.q).length : Int) = 0 := by rw [hq]; simp at l4; omega
  rw [hem]
  refine zjf ?_
  refine zW ?_; intro b1
  refine zfq ?_
  refine zH ?_
  refine zfA ?_
  exact zw
 | nil =>
  have hl' : ((natI G.q).length : Int) = 0 := by rw [hq]; rfl
  by_cases hc : G.ow.count true = 0
  ·have hc' : ((G.ow.count true : Nat) : Int) = 0 := by omega
   cases hp : G.pg with
   | none =>
    have hem : emptyG G = true := by unfold emptyG; rw [hq, hp, hc]; rfl
    have hpi : pgI G = -1 := by unfold pgI; rw [hp]
    rw [hem]
    rw [hpi] at how ⊢
    refine zjf ?_
    refine zW ?_; intro b1
    refine zfq ?_
    refine zet ?_
    refine zcm fun T hT => ?_
    refine zk2 ?_
    clear hT T
    refine zdZ ?_
    refine zbn ?_
    refine zaQ ?_
    refine zaR ?_
    refine zgi ?_
    exact zw
   | some k =>
    have hem : emptyG G = false := by unfold emptyG; rw [hp]; simp
    have hpi : pgI G = (k : Nat) := by unfold pgI; rw [hp]
    rw [hem]
    rw [hpi] at how ⊢
    refine zjf ?_
    refine zW ?_; intro b1
    refine zfq ?_
    refine zet ?_
    refine zcm fun T hT => ?_
    refine zk2 ?_
    clear hT T
    refine zdZ ?_
    refine zbn ?_
    refine zaQ ?_
    refine zaR ?_
    refine zR ?_
    exact zb6
  ·have hc' : ¬ ((G.ow.count true : Nat) : Int) = 0 := by omega
   have hem : emptyG G = false := by unfold emptyG; rw [decide_eq_false hc]; simp
   rw [hem]
   refine zjf ?_
   refine zW ?_; intro b1
   refine zfq ?_
   refine zet ?_
   refine zcm fun T hT => ?_
   refine zk2 ?_
   clear hT T
   refine zkL ?_
   refine zC ?_
   refine zek ?_
   exact zw
end
open Go.RowKit
set_option maxRecDepth 10000
def stB : Nat → ByteArray
 | 0 => ⟨#[102, 114, 101, 101]⟩
 | 1 => ⟨#[108, 105, 118, 101]⟩
 | 2 => ⟨#[100, 114, 111, 112, 112, 101, 100]⟩
 | _ => ⟨#[114, 101, 116, 105, 114, 101, 100]⟩
theorem stB_ne0 {a : Int} (h : 0 ≤ a ∧ a < 4) (h0 : ¬ a = 0) : ¬ (stB a.toNat).1.toList = [102, 114, 101, 101] := by
 obtain ⟨n, rfl⟩ : ∃ n : Nat, a = n := ⟨a.toNat, by omega⟩
 rw [Int.toNat_natCast]
 rcases (show n = 1 ∨ n = 2 ∨ n = 3 by omega) with rfl | rfl | rfl <;> simp [stB]
theorem stB_ne1 {a : Int} (h : 0 ≤ a ∧ a < 4) (h0 : ¬ a = 1) : ¬ (stB a.toNat).1.toList = [108, 105, 118, 101] := by
 obtain ⟨n, rfl⟩ : ∃ n : Nat, a = n := ⟨a.toNat, by omega⟩
 rw [Int.toNat_natCast]
 rcases (show n = 0 ∨ n = 2 ∨ n = 3 by omega) with rfl | rfl | rfl <;> simp [stB]
def docE (e : EntP) : EntP := if e.st = 1 then e else ⟨e.st, 0, e.gen⟩
def wE : Enc EntP := ⟨fun e => [.string (stB e.st.toNat), .int .i64 e.slot, .int .u32 e.gen], 3, fun _ => rfl, by intro x v hv; simp at hv; rcases hv with rfl | rfl | rfl <;> rfl⟩
theorem docE_st (e : EntP) : (docE e).st = e.st ∧ (docE e).gen = e.gen := by unfold docE; split <;> exact ⟨rfl, rfl⟩
def StOk (L : List EntP) : Prop := L.length ≤ 1024 ∧ ∀ e ∈ L, 0 ≤ e.st ∧ e.st < 4
section
variable {w0 : World} {D F : Heap} {v : Value} {L : List EntP} {gens : Int}
theorem rwith13_K {i : Nat} {x : EntP} (hS : Sli w0 D wE v L) (hv : v.oneCell' = true) (hl : L.length ≤ 1024) (hi : i < L.length) :
  Call Tryz.prog w0 199 [.agg [v, .int .i64 gens].toArray, .int .i64 (i : Nat), .agg [.string (stB x.st.toNat), .int .i64 x.slot, .int .u32 x.gen].toArray] (D ++ F)
   (fun r H' => ∃ (v' : Value) (N : Heap), Sli w0 (N ++ D) wE v' (L.set i x) ∧ v'.oneCell' = true ∧ r = .agg [v', .int .i64 gens].toArray ∧ H' = N ++ (D ++ F)) := by
 obtain ⟨y, hy⟩ := get_of_lt hi
 refine Call.enter3 (n := 20) (by kernel_rfl) Tryz.func199 rfl rfl rfl ?_
 refine zb4 ?_; intro b3 b5 b6
 refine zy ?_
 refine zad ?_; intro b8
 refine zJ ?_
 refine KL.e rfl (Eff.appLit (E := wE) (ys := L) rfl rfl rfl rfl rfl rfl rfl byTake (by first | exact Sli.blk byTake rfl (by first | decide | simp) (by first | decide | (unfold maxLen; omega)) rfl | exact Sli.old (by assumption) | exact Sli.own byTakeL (by assumption) byLen | assumption | exact Sli.part (by assumption) byPart) (by first | assumption | omega | (simp <;> fail) | (simp; omega)) rfl) ?_; rintro _ _ ⟨o', ok', rfl, rfl⟩
 refine zfO ?_
 refine zkn ?_
 refine zjg ?_
 refine KL.eN (Eff.stSlA (x1 := x) rfl rfl rfl rfl byTakeL (by assumption) (by assumption)) ?_; rintro _ _ rfl
 refine zy ?_
 refine zf ?_
 refine zU ?_
 refine zhK ?_
 refine zhG ?_
 exact KE.fin (H' := oH wE 220 (L.set i x) o' ++ (D ++ F)) byMarks rfl byRes byPart ⟨oV o' L.length, _, Sli.own byTakeL (ok'.set i x) (by simp), oV_one _ _, rfl, rfl⟩
structure MiS where
 k : Nat
theorem rMint_K {s : Nat} (hS : Sli w0 D wE v L) (hv : v.oneCell' = true) (ok : StOk L) :
  Call Tryz.prog w0 124 [.agg [v, .int .i64 gens].toArray, .int .i64 (s : Nat)] (D ++ F)
   (fun r H' => ∃ (v' : Value) (N : Heap), Sli w0 (N ++ D) wE v' (mintT L s) ∧ v'.oneCell' = true ∧ r = .tuple [.agg [v', .int .i64 gens].toArray, .int .i64 (mintV L).1, .int .u32 (mintV L).2.1, .int .i64 (mintV L).2.2].toArray ∧ H' = N ++ (D ++ F)) := by
 have hl := ok.1
 refine Call.enter2 (n := 45) (by kernel_rfl) Tryz.func124 rfl rfl rfl ?_
 refine zaq ?_; intro b2 b4
 refine zcL ?_
 refine zT ?_
 refine zR ?_
 refine zaW ?_
 refine zaE ?_
 refine K.loopT (σ := MiS) [(1, _), (2, _), (4, _)] (fun s kp_ => (8, .int .i64 (s.k : Nat)) :: kp_) (fun s => (b2, cells [v, .int .i64 gens] 90) :: (b4, cells [.slice none 0 0, .int .i64 0] 90) :: (D ++ F)) (fun s => s.k ≤ L.length ∧ ∀ (j : Nat) (y : EntP), j < s.k → L[j]? = some y → y.st ≠ 0) (fun s => L.length - s.k) (⟨0⟩) bySub byPart (⟨Nat.zero_le _, fun _ _ h => absurd h (Nat.not_lt_zero _)⟩) ?_
 rintro ⟨k⟩ ⟨hk, hN⟩
 dsimp only at hk hN ⊢
 by_cases hlt : k < L.length
 ·obtain ⟨x, hx⟩ := get_of_lt hlt
  have hst := ok.2 x (List.mem_of_getElem? hx)
  by_cases h0 : x.st = 0
  ·have h0' : (stB x.st.toNat).1.toList = [102, 114, 101, 101] := by rw [h0]; rfl
   have hF := freeT_is hx h0 hN
   have h1 : mintV L = (((k : Nat) : Int), x.gen, 0) := by unfold mintV; rw [hF]; dsimp only; rw [genA_at hx]
   have h2 : mintT L s = L.set k ⟨1, (s : Nat), x.gen⟩ := by unfold mintT; rw [hF]; dsimp only; rw [genA_at hx]
   rw [h1, h2]
   refine zdr ?_
   refine za3 ?_
   refine zbJ ?_
   refine zc4 ?_
   refine zhO ?_
   refine KL.v rfl (Val.isT (Val.eqlBs rfl rfl) byLt) ?_
   refine zfW ?_
   refine zak ?_
   (first | refine K.seq (K.drawn ((b2, cells [v, .int .i64 gens] 90) :: D) [(0, 0), (1, 0), (2, 0), (3, 0), (4, 0), (5, 0), (6, 0), (7, 0), (8, 0), (9, 0), (11, 1), (12, 1), (13, 1), (14, 1), (15, 1), (16, 1), (17, 1), (10, 2), (18, 2), (19, 0), (20, 0), (21, 0)] (by kernel_rfl) (by kernel_rfl) (by kernel_rfl) (by kernel_rfl) (by kernel_rfl) (by kernel_rfl) byPart ?_) | refine K.seq (K.seq (K.drawn ((b2, cells [v, .int .i64 gens] 90) :: D) [(0, 0), (1, 0), (2, 0), (3, 0), (4, 0), (5, 0), (6, 0), (7, 0), (8, 0), (9, 0), (11, 1), (12, 1), (13, 1), (14, 1), (15, 1), (16, 1), (17, 1), (10, 2), (18, 2), (19, 0), (20, 0), (21, 0)] (by kernel_rfl) (by kernel_rfl) (by kernel_rfl) (by kernel_rfl) (by kernel_rfl) (by kernel_rfl) byPart ?_)) | refine K.drawn ((b2, cells [v, .int .i64 gens] 90) :: D) [(0, 0), (1, 0), (2, 0), (3, 0), (4, 0), (5, 0), (6, 0), (7, 0), (8, 0), (9, 0), (11, 1), (12, 1), (13, 1), (14, 1), (15, 1), (16, 1), (17, 1), (10, 2), (18, 2), (19, 0), (20, 0), (21, 0)] (by kernel_rfl) (by kernel_rfl) (by kernel_rfl) (by kernel_rfl) (by kernel_rfl) (by kernel_rfl) byPart ?_)
   refine zie ?_
   refine zcd ?_
   refine zgW ?_
   refine zax ?_
   refine zo ?_
   refine zhh ?_
   refine zhm ?_
   refine zax ?_
   refine zeY ?_
   refine zO ?_
   refine zd4 ?_
   refine zfE ?_
   refine zef ?_
   refine zaO ?_
   refine zl fun T hT => ?_
   refine (CallV.part (CallV.fn (rwith13_K (x := ⟨1, (s : Nat), x.gen⟩) hS hv hl hlt)) byPart).mono ?_
   rintro _ _ ⟨v', N, hS', hv', rfl, rfl⟩
   refine zi ?_
   clear hT T
   refine zkc ?_
   refine zaw ?_
   refine zaw ?_
   refine za2 ?_
   refine zdO ?_
   refine ziC ?_
   exact KE.fin byMarks rfl byRes byPart ⟨v', N, hS', hv', rfl, rfl⟩
  ·have h0' : ¬ (stB x.st.toNat).1.toList = [102, 114, 101, 101] := stB_ne0 hst h0
   refine zdr ?_
   refine za3 ?_
   refine zbJ ?_
   refine zc4 ?_
   refine zk3 ?_
   refine zgy ?_
   exact KE.again ⟨k + 1⟩ bySub byPart ⟨hlt, fun j y (hj : j < k + 1) hy => by
    rcases Nat.lt_or_ge j k with h | h
    ·exact hN j y h hy
    ·have : j = k := by omega
     subst this
     rw [hx] at hy; cases hy; exact h0⟩ (by show L.length - (k + 1) < L.length - k; omega)
 ·have hF := freeT_no (T := L) (fun j y hy => hN j y (by have := lt_of_get hy; omega) hy)
  have h1 : mintV L = (0, 0, 131) := by unfold mintV; rw [hF]
  have h2 : mintT L s = L := by unfold mintT; rw [hF]
  rw [h1, h2]
  refine zdr ?_
  refine zfx ?_
  refine zcJ ?_
  refine zA ?_
  refine zL ?_
  exact KE.fin byMarks rfl byRes byPart ⟨v, [], hS, hv, rfl, rfl⟩
theorem rLook_K {i : Nat} {e : EntP} (hS : Sli w0 D wE v L) (hv : v.oneCell' = true) (hl : L.length ≤ 1024) (he : L[i]? = some e) (h1 : e.st = 1) :
  Call Tryz.prog w0 260 [.agg [v, .int .i64 gens].toArray, .int .i64 (i : Nat), .int .u32 e.gen] (D ++ F) (fun r H' => r = .tuple [.int .i64 e.slot, .int .i64 0].toArray ∧ H' = D ++ F) := by
 have hil := lt_of_get he
 refine Call.enter3 (n := 44) (by kernel_rfl) Tryz.func260 rfl rfl rfl ?_
 refine za5 ?_; intro b3
 refine zaE ?_
 refine K.loopT (σ := MiS) [(1, _), (2, _), (3, _)] (fun s kp_ => (8, .int .i64 (s.k : Nat)) :: kp_) (fun s => (b3, cells [v, .int .i64 gens] 90) :: (D ++ F)) (fun s => s.k ≤ i) (fun s => i + 1 - s.k) (⟨0⟩) bySub byPart (Nat.zero_le _) ?_
 rintro ⟨k⟩ hk
 dsimp only at hk ⊢
 have hlt : k < L.length := by omega
 by_cases hki : k = i
 ·subst hki
  have h2 : (stB e.st.toNat).1.toList = [108, 105, 118, 101] := by rw [h1]; rfl
  have h3 : ((k : Nat) : Int) = (k : Nat) := rfl
  refine zdr ?_
  refine za3 ?_
  refine zj ?_
  refine zY ?_
  refine ziE ?_
  refine zdq ?_
  refine zm ?_
  refine zf4 ?_
  refine zcy ?_
  refine KL.v rfl (Val.isT (Val.eqlBs rfl rfl) byLt) ?_
  refine zbn ?_
  refine zaD ?_
  refine zdq ?_
  refine zm ?_
  refine zif ?_
  refine zkK ?_
  refine zaF ?_
  refine zY ?_
  refine z7 ?_
  refine zbJ ?_
  refine zc4 ?_
  refine zhu ?_
  refine zc0 ?_
  refine zkQ ?_
  refine ziC ?_
  exact zaU
 ·have h3 : ¬ ((k : Nat) : Int) = (i : Nat) := by omega
  refine zdr ?_
  refine za3 ?_
  refine zj ?_
  refine zH ?_
  refine zcz ?_
  refine zn ?_
  refine zgA ?_
  refine zhe ?_
  exact KE.again ⟨k + 1⟩ bySub byPart (by show k + 1 ≤ i; omega) (by show i + 1 - (k + 1) < i + 1 - k; omega)
theorem rDrop_K {i : Nat} {e : EntP} (hS : Sli w0 D wE v L) (hv : v.oneCell' = true) (hl : L.length ≤ 1024) (he : L[i]? = some e) (h1 : e.st = 1) :
  Call Tryz.prog w0 202 [.agg [v, .int .i64 gens].toArray, .int .i64 (i : Nat), .int .u32 e.gen] (D ++ F)
   (fun r H' => ∃ (v' : Value) (N : Heap), Sli w0 (N ++ D) wE v' (L.set i ⟨2, 0, e.gen⟩) ∧ v'.oneCell' = true ∧ r = .tuple [.agg [v', .int .i64 gens].toArray, .int .i64 e.slot, .int .i64 0].toArray ∧ H' = N ++ (D ++ F)) := by
 have hil := lt_of_get he
 refine Call.enter3 (n := 28) (by kernel_rfl) Tryz.func202 rfl rfl rfl ?_
 refine zaq ?_; intro b3 b6
 refine zkJ ?_
 refine zaC fun T hT => ?_
 refine (CallV.part (CallV.fn (rLook_K hS hv hl he h1)) byPart).mono ?_
 refine ze ?_
 clear hT T
 refine zG ?_
 refine zaB ?_
 refine zfh ?_
 refine zaf ?_
 refine zg fun T hT => ?_
 refine (CallV.part (CallV.fn (rwith13_K (x := ⟨2, 0, e.gen⟩) hS hv hl hil)) byPart).mono ?_
 rintro _ _ ⟨v', N, hS', hv', rfl, rfl⟩
 refine zd ?_
 clear hT T
 refine zf ?_
 refine z9 ?_
 refine zL ?_
 exact KE.fin byMarks rfl byRes byPart ⟨v', N, hS', hv', rfl, rfl⟩
structure NxS where
 k : Nat
 o : Own
def ent0 : EntP := ⟨0, 0, 1⟩
theorem rtNew_K {n : Nat} {H : Heap} (hn : 1 ≤ n ∧ n ≤ 1024) (hg : 1 ≤ gens ∧ gens ≤ 2147483648) :
  Call Tryz.prog w0 100 [.int .i64 (n : Nat), .int .i64 gens] H
   (fun r H' => ∃ o, oOk wE (List.replicate n ent0) o ∧ r = .tuple [.agg [oV o (List.replicate n ent0).length, .int .i64 gens].toArray, .int .i64 0].toArray ∧ H' = oH wE 220 (List.replicate n ent0) o ++ H) := by
 have h1 : ¬ ((n : Nat) : Int) < 1 := by omega
 have h2 : ¬ ((n : Nat) : Int) > 1024 := by omega
 refine Call.enter2 (n := 37) (by kernel_rfl) Tryz.func100 rfl rfl rfl ?_
 refine zq ?_
 refine zaI ?_; intro b4
 refine zT ?_
 refine zbG ?_
 refine zae ?_
 refine zba ?_
 refine zR ?_
 refine zba ?_
 refine zae ?_
 refine zan ?_
 refine zf ?_
 refine zaf ?_
 refine zay ?_; intro b6
 refine zbM ?_
 refine zaE ?_
 refine K.loopT (σ := NxS) [(0, _), (4, _), (6, _)] (fun s kp_ => (7, .int .i64 (s.k : Nat)) :: kp_) (fun s => oH wE 220 (List.replicate s.k ent0) s.o ++ ((b6, cells [oV s.o (List.replicate s.k ent0).length, .int .i64 gens] 90) :: (b4, cells [.slice none 0 0, .int .i64 0] 90) :: H)) (fun s => s.k ≤ n ∧ oOk wE (List.replicate s.k ent0) s.o) (fun s => n - s.k) (⟨0, none⟩) bySub byPart (⟨Nat.zero_le _, rfl⟩) ?_
 rintro ⟨k, o⟩ ⟨hk, ok⟩
 dsimp only at hk ok ⊢
 by_cases hlt : k < n
 ·refine zhP ?_
  refine zj ?_
  refine zE ?_
  refine zko ?_
  refine zau ?_
  refine zc5 ?_
  refine zbN ?_
  refine zaf ?_
  refine zad ?_; intro b33
  refine KL.e rfl (Eff.appZ (E := wE) (xs := List.replicate k ent0) (o := o) (ys := [ent0]) (zs := List.replicate (k + 1) ent0) rfl rfl rfl rfl rfl rfl byTakeL (by assumption) (by first | exact Sli.blk byTake rfl (by first | decide | simp) (by first | decide | (unfold maxLen; omega)) rfl | exact Sli.old (by assumption) | exact Sli.own byTakeL (by assumption) byLen | assumption | exact Sli.part (by assumption) byPart) (List.replicate_succ'.symm) (by first | assumption | omega | (simp <;> fail) | (simp; omega)) rfl) ?_; rintro _ _ ⟨o', ok', rfl, rfl⟩
  refine zc5 ?_
  refine ze5 ?_
  refine zgz ?_
  exact KE.again ⟨k + 1, o'⟩ bySub byPart ⟨hlt, ok'⟩ (by show n - (k + 1) < n - k; omega)
 ·have : k = n := by omega
  subst this
  refine zcI ?_
  refine zfp ?_
  refine zck ?_
  exact KE.fin byMarks rfl byRes byPart ⟨o, ok, rfl, rfl⟩
end
theorem free_doc {T : List EntP} : freeT (T.map docE) = freeT T := by
 unfold freeT
 rw [List.findIdx?_map]
 congr 1
 funext e
 simp only [Function.comp, (docE_st e).1]
theorem gen_doc {T : List EntP} {i : Nat} : genA (T.map docE) i = genA T i := by
 unfold genA
 rw [List.getElem?_map]
 cases T[i]? with
 | none => rfl
 | some e => exact (docE_st e).2
theorem mint_doc {T : List EntP} {s : Int} : mintT (T.map docE) s = (mintT T s).map docE := by
 unfold mintT
 rw [free_doc]
 split
 ·rw [gen_doc, List.map_set]; rfl
 ·rfl
theorem drop_doc {T : List EntP} {i : Nat} {e : EntP} (he : T[i]? = some e) (h1 : e.st = 1) : (T.map docE).set i ⟨2, 0, e.gen⟩ = (dropI T i).map docE := by
 unfold dropI
 rw [if_pos (by omega), Int.toNat_natCast, he]
 dsimp only
 rw [if_pos h1, List.map_set]; rfl
open Go.RowKit
set_option maxRecDepth 10000
section
variable {g : PlG} {long : Nat} {W W' : MwP} {m m' : MaP} {a : MActP} {x x' : List Int}
theorem refO_slot {t : Nat} {i s : Int} (h : refO g x (t : Nat) i = some s) : t < g.slots ∧ fldP x (slotA g (t : Nat)) true i = 0 := by
 unfold refO at h
 split at h
 ·rename_i hc
  have hf : fldP x (slotA g (t : Nat)) true i = 0 := by
   have := hc.1
   unfold refP at this
   split at this
   ·assumption
   ·exact this
  refine ⟨?_, hf⟩
  rcases Nat.lt_or_ge t g.slots with h1 | h1
  ·exact h1
  ·exfalso
   have e : slotA g (t : Nat) = ⟨0, 0, 0, 0⟩ := by
    unfold slotA
    rw [Int.toNat_natCast, List.getElem?_eq_none (by rw [L_len]; omega)]; rfl
   rw [e] at hf
   have := fld_in hf
   dsimp only at this; omega
 ·cases h
theorem refO_congr {t : Nat} {i : Int} (h1 : wAt x' (slotA g (t : Nat)).addr = wAt x (slotA g (t : Nat)).addr) (h2 : wAt x' (fAt (slotA g (t : Nat)) i) = wAt x (fAt (slotA g (t : Nat)) i)) : refO g x' (t : Nat) i = refO g x (t : Nat) i := by
 have : refP x' g.slots (slotA g (t : Nat)) i = refP x g.slots (slotA g (t : Nat)) i := by unfold refP; rw [fld_congr h1, h2]
 unfold refO; rw [this]
theorem set_refO (ok : PlOk g) {s0 : Nat} {y : SlotP} (hy : g.L[s0]? = some y) {i0 v : Int} {t : Nat} {i s : Int} (h : refO g x (t : Nat) i = some s) :
  (t = s0 ∧ i = i0) ∨ refO g (setRefP x g.slots y i0 v).2 (t : Nat) i = some s := by
 obtain ⟨ht, hf⟩ := refO_slot h
 obtain ⟨z, hz⟩ := L_ex ht
 have hin := fld_in hf
 have e := slotA_at hz
 have f1 := ok.fits hy
 have f2 := ok.fits hz
 by_cases hti : t = s0 ∧ i = i0
 ·exact .inl hti
 ·right
  rw [← h]
  unfold setRefP
  split
  ·rfl
  ·split
   ·rename_i hv hf0
    have hin0 := fld_in hf0
    rw [e] at hin
    have ha : fAt y i0 ≠ z.addr ∧ fAt y i0 ≠ fAt z i := by
     by_cases et : s0 = t
     ·subst et
      rw [hy] at hz; cases hz
      have : i ≠ i0 := fun h => hti ⟨rfl, h⟩
      unfold fAt at *
      omega
     ·have := ok.apart hy hz et
      omega
    refine refO_congr ?_ ?_
    ·rw [e]
     exact wAt_set ha.1
    ·rw [e]
     exact wAt_set ha.2
   ·rfl
theorem shdS_keep (ok : PlOk g) (hm : MaOk g long W m) (hi : MaIn m) (ha : m.act = true) (s : Int) :
  MaIn (shdS g long m s) ∧ Keep g W' W' m (shdS g long m s) ∧ (∀ n : Nat, s = n → n < g.slots → NW (shdS g long m s) n) := by
 rw [shdS_act hm ha]
 obtain ⟨h1, h2, h3, _⟩ := shade_keep (W' := W') ok hm hi s
 exact ⟨h1, h2, h3⟩
theorem root_T {W W' : MwP} (hl : W'.T.length = W.T.length) (hN : W'.N = W.N) {r s : Nat} (h : rootSl g W r = some (s : Nat)) (hT : r < W.T.length → W'.T[r]? = W.T[r]?) : rootSl g W' r = some (s : Nat) := by
 unfold rootSl at h ⊢
 rcases Nat.lt_or_ge r W.T.length with h1 | h1
 ·rw [hT h1, hN, hl]
  exact h
 ·rw [List.getElem?_eq_none h1] at h
  rw [List.getElem?_eq_none (by omega), hN, hl]
  exact h
theorem act_keep (ok : PlOk g) (hm : MaOk g long W m) (hW : MwOk g W) (hi : MaIn m) (ha : m.act = true) (h2 : ¬ a.w % 10 < 2) : MaIn (actK g long W m a) ∧ Keep g W (actW g W a) m (actK g long W m a) := by
 have hsame : ∀ {m' : MaP}, Mic g W m m' → MaIn m' ∧ Keep g W W m m' := fun h => ⟨h.i, h.k⟩
 unfold actK actW
 simp only [if_neg h2]
 by_cases h4 : a.w % 10 < 4
 ·simp only [if_pos h4]
  by_cases hc : inS g a.s ∧ (oldS g W a).2 = 0
  ·simp only [if_pos hc]
   obtain ⟨s0, y, hs0, hy, hsl⟩ := slot_ex hc.1
   obtain ⟨i1, k1, n1⟩ := shdS_keep (W' := W) ok hm hi ha (oldS g W a).1
   have hm1 := shdS_ok ok hm (oldS g W a).1
   have ha1 : (shdS g long m (oldS g W a).1).act = true := (shdS_hs _).2.2.1.trans ha
   obtain ⟨i2, k2, n2⟩ := shdS_keep (W' := W) ok hm1 i1 ha1 a.t
   refine ⟨i2, (k1.trans k2).trans (world_keep rfl (fun r s h => .inr h) fun t s i h => ?_)⟩
   dsimp only
   rw [hsl]
   rcases set_refO (i0 := a.i) (v := a.t) ok hy h with ⟨rfl, rfl⟩ | h'
   ·left
    have hin := refO_in h hW.w
    refine k2.nw s (n1 s ?_ (by omega))
    unfold refO at h
    split at h
    ·have h' := Option.some.inj h
     unfold oldS; rw [hs0]; exact h'
    ·cases h
   ·exact .inr h'
  ·simp only [if_neg hc]
   exact ⟨hi, Keep.refl⟩
 ·simp only [if_neg h4]
  by_cases e4 : a.w % 10 = 4
  ·have e5 : ¬ a.w % 10 = 5 := by omega
   have e8 : a.w % 10 < 8 := by omega
   simp only [if_pos e4, if_neg e5, if_pos e8]
   by_cases hc : inS g a.s
   ·simp only [if_pos hc]
    obtain ⟨i1, k1, n1⟩ := shdS_keep (W' := { W with T := mintT W.T a.s }) ok hm hi ha a.s
    refine ⟨i1, (world_keep (W' := { W with T := mintT W.T a.s }) mintT_len (fun r s h => .inr ?_) fun t s i h => .inr h).trans k1⟩
    refine root_T (W := W) (W' := { W with T := mintT W.T a.s }) mintT_len rfl h fun hr => ?_
    dsimp only
    unfold mintT
    split
    ·rename_i j hj
     obtain ⟨⟨e, g1, g2⟩, _⟩ := freeT_some hj
     by_cases hjr : j = r
     ·subst hjr
      exfalso
      unfold rootSl at h
      rw [g1] at h
      dsimp only at h
      rw [if_neg (by omega)] at h; cases h
     ·rw [List.getElem?_set_ne hjr]
    ·rfl
   ·simp only [if_neg hc]
    have : shdS g long m a.s = m := by unfold shdS; rw [if_neg hc]
    rw [this]
    exact ⟨hi, Keep.refl⟩
  ·simp only [if_neg e4]
   by_cases e5 : a.w % 10 = 5
   ·simp only [if_pos e5]
    have hno : slotT W.T a.i = none → dropI W.T a.i = W.T → MaIn (match slotT W.T a.i with | some s => shdS g long m s | none => m) ∧ Keep g W { W with T := dropI W.T a.i } m (match slotT W.T a.i with | some s => shdS g long m s | none => m) := fun h1 h2 => by
     rw [h1, h2]
     exact ⟨hi, Keep.refl⟩
    by_cases h0 : 0 ≤ a.i
    ·cases hT : W.T[a.i.toNat]? with
     | none => exact hno (by unfold slotT; rw [if_pos h0, hT]) (by unfold dropI; rw [if_pos h0, hT])
     | some e =>
      by_cases h1 : e.st = 1
      ·have e1 : slotT W.T a.i = some e.slot := by unfold slotT; rw [if_pos h0, hT]; dsimp only; rw [if_pos h1]
       have e2 : dropI W.T a.i = W.T.set a.i.toNat { e with st := 2 } := by unfold dropI; rw [if_pos h0, hT]; dsimp only; rw [if_pos h1]
       rw [e1, e2]
       dsimp only
       obtain ⟨i1, k1, n1⟩ := shdS_keep (W' := W) ok hm hi ha e.slot
       refine ⟨i1, k1.trans (world_keep (W' := { W with T := W.T.set a.i.toNat { e with st := 2 } }) (by simp) (fun r s h => ?_) fun t s i h => .inr h)⟩
       by_cases hr : r = a.i.toNat
       ·left
        subst hr
        unfold rootSl at h
        rw [hT] at h
        dsimp only at h
        rw [if_pos h1] at h
        have h' := Option.some.inj h
        have hin := hW.t e (List.mem_of_getElem? hT) h1
        exact n1 s h' (by omega)
       ·right
        refine root_T (W := W) (W' := { W with T := W.T.set a.i.toNat { e with st := 2 } }) (by simp) rfl h fun _ => ?_
        dsimp only
        rw [List.getElem?_set_ne (by omega)]
      ·exact hno (by unfold slotT; rw [if_pos h0, hT]; dsimp only; rw [if_neg h1]) (by unfold dropI; rw [if_pos h0, hT]; dsimp only; rw [if_neg h1])
    ·exact hno (by unfold slotT; rw [if_neg h0]) (by unfold dropI; rw [if_neg h0])
   ·simp only [if_neg e5]
    have hpl : ∀ {N' : List Int}, N'.length = W.N.length → (∀ k : Nat, 0 < (W.N[k]?).getD 0 → NW (shdS g long m a.s) k ∨ 0 < (N'[k]?).getD 0) → ∀ r s : Nat, rootSl g W r = some (s : Nat) → NW (shdS g long m a.s) s ∨ rootSl g { W with N := N' } r = some (s : Nat) := fun {N'} hl hk r s h => by
     unfold rootSl at h ⊢
     dsimp only
     cases hT : W.T[r]? with
     | some e => rw [hT] at h; exact .inr h
     | none =>
      rw [hT] at h
      dsimp only at h ⊢
      split at h
      ·rename_i hpos
       cases h
       rcases hk (r - W.T.length) hpos with h1 | h1
       ·exact .inl h1
       ·right; rw [if_pos h1]; rfl
      ·cases h
    by_cases e6 : a.w % 10 = 6
    ·have e8 : a.w % 10 < 8 := by omega
     simp only [if_pos e6, if_pos e8]
     by_cases hc : inS g a.s
     ·simp only [if_pos hc]
      obtain ⟨i1, k1, n1⟩ := shdS_keep (W' := W) ok hm hi ha a.s
      exact ⟨i1, k1.trans (world_keep rfl (hpl pinP_len fun k hk => .inr (pinP_pos hk)) fun t s i h => .inr h)⟩
     ·simp only [if_neg hc]
      have : shdS g long m a.s = m := by unfold shdS; rw [if_neg hc]
      rw [this]
      exact ⟨hi, Keep.refl⟩
    ·simp only [if_neg e6]
     by_cases e7 : a.w % 10 = 7
     ·have e8 : a.w % 10 < 8 := by omega
      simp only [if_pos e7, if_pos e8]
      by_cases hc : inS g a.s
      ·simp only [if_pos hc]
       obtain ⟨i1, k1, n1⟩ := shdS_keep (W' := W) ok hm hi ha a.s
       refine ⟨i1, k1.trans (world_keep rfl (hpl unpinP_len fun k hk => ?_) fun t s i h => .inr h)⟩
       unfold inS at hc
       by_cases e : k = a.s.toNat
       ·left; exact n1 k (by omega) (by omega)
       ·right; rw [unpinP_ne e]; exact hk
      ·simp only [if_neg hc]
       have : shdS g long m a.s = m := by unfold shdS; rw [if_neg hc]
       rw [this]
       exact ⟨hi, Keep.refl⟩
     ·have e8 : ¬ a.w % 10 < 8 := by omega
      simp only [if_neg e7, if_neg e8]
      by_cases e9 : a.w % 10 = 8
      ·simp only [if_pos e9]
       cases h : stepM g long W m a.i (a.u : Nat) with
       | none => exact ⟨hi, Keep.refl⟩
       | some m' => exact hsame (step_mic ok hm hW hi h)
      ·simp only [if_neg e9]
       cases h : helpM g long W m with
       | none => exact ⟨hi, Keep.refl⟩
       | some m' =>
        obtain ⟨k, u, hk⟩ := help_step h
        exact hsame (step_mic ok hm hW hi hk)
end
structure MsP where
 W : MwP
 m : MaP
 k : MaP
def actS2 (g : PlG) (long : Nat) (S : MsP) (a : MActP) : MsP := ⟨actW g S.W a, actK g long S.W S.m a, actK g long S.W S.k a⟩
structure MsOk (g : PlG) (long : Nat) (S : MsP) : Prop where
 W : MwOk g S.W
 rf : RfOk g S.W.x
 m : MaOk g long S.W S.m
 k : MaOk g long S.W S.k
theorem MsOk.act {g : PlG} {long : Nat} {S : MsP} (ok : PlOk g) (h : MsOk g long S) (a : MActP) : MsOk g long (actS2 g long S a) :=
 ⟨actW_ok ok h.W, actW_rf ok h.W h.rf, actK_ok ok h.W h.m, actK_ok ok h.W h.k⟩
open Go.RowKit
set_option maxRecDepth 10000
section
variable {w0 : World} {D F : Heap} {v : PlV} {vr : Value} {g : PlG} {R : List RwD} {t s : Nat} {x : List Int} {y : SlotP}
theorem rbRef_K {i : Int} (hB : BoD w0 D v vr g R) (hf : BoF g R t x) (hy : g.L[s]? = some y) :
  Call Tryz.prog w0 197 [.agg (boL v g vr t).toArray, .int .i64 (s : Nat), .int .i64 i] (D ++ F) (fun r H' => r = .tuple [.int .i64 (refP x g.slots y i).1, .int .i64 (refP x g.slots y i).2].toArray ∧ H' = D ++ F) := by
 have hL := hB.p.L
 have hLl := L_len (g := g)
 have hsl := hf.ok.slots
 have ho := hB.m.o
 have q1 := hB.p.oL
 have q2 := hB.p.oF
 have q3 := hB.p.oM
 have q4 := hB.p.oC
 have hfit := hf.ok.fits hy
 have hlx := hf.l
 have hfld := fun A => rbfield_K (w0 := w0) (D := D) (F := A) (ref := true) (i := i) hB hf hy
 obtain ⟨fe, hfe⟩ : ∃ fe, fe = fldP x y true i := ⟨_, rfl⟩
 unfold refP
 rw [← hfe]
 simp only [← hfe] at hfld
 by_cases e : fe = 0
 ·subst e
  obtain ⟨p1, p2, p3⟩ := fld_in hfe.symm
  have hi1 : (1 : Int) + i = ((1 + i.toNat : Nat) : Int) := by omega
  have hfa : y.addr + (1 + i.toNat) = fAt y i := by unfold fAt; omega
  have hld := fun A => rbload_K (w0 := w0) (D := D) (F := A) (i := 1 + i.toNat) hB hf hy (by omega)
  rw [hfa] at hld
  obtain ⟨w, hw⟩ : ∃ w, wAt x (fAt y i) = w := ⟨_, rfl⟩
  have hwb := hf.w.at_ (fAt y i)
  rw [hw] at hld hwb ⊢
  simp only [if_true]
  by_cases hgt : w > ((g.slots : Nat) : Int)
  ·rw [if_pos hgt]
   have hgt' : w > ((g.L.length : Nat) : Int) := by omega
   unfold boL at *
   refine zjh ?_
   refine zco ?_; intro b3
   refine zaC fun T hT => ?_
   refine zig ?_
   refine ze ?_
   clear hT T
   refine zT ?_
   refine zaB ?_
   refine zfh ?_
   refine zQ ?_
   refine zg fun T hT => ?_
   rw [hi1]
   refine (CallV.part (CallV.fn (hld _)) byPart).mono ?_
   refine ze ?_
   clear hT T
   refine zT ?_
   refine za8 ?_
   refine zcP ?_
   refine zP ?_
   refine zbX ?_
   refine zcb ?_
   refine zI ?_
   exact zdh
  ·rw [if_neg hgt]
   have hgt' : ¬ w > ((g.L.length : Nat) : Int) := by omega
   unfold boL at *
   refine zjh ?_
   refine zco ?_; intro b3
   refine zaC fun T hT => ?_
   refine zig ?_
   refine ze ?_
   clear hT T
   refine zT ?_
   refine zaB ?_
   refine zfh ?_
   refine zQ ?_
   refine zg fun T hT => ?_
   rw [hi1]
   refine (CallV.part (CallV.fn (hld _)) byPart).mono ?_
   refine ze ?_
   clear hT T
   refine zT ?_
   refine za8 ?_
   refine zcP ?_
   refine zP ?_
   refine zbX ?_
   refine zae ?_
   refine zM ?_
   refine zf ?_
   refine zbX ?_
   refine zbi ?_
   exact za4
 ·simp only [if_neg e]
  clear hfe
  unfold boL at *
  refine zjh ?_
  refine zco ?_; intro b3
  refine zaC fun T hT => ?_
  refine zig ?_
  refine ze ?_
  clear hT T
  refine zT ?_
  refine zcU ?_
  exact zdh
theorem rbSetRef_K {i to : Int} (hB : BoD w0 D v vr g R) (hf : BoF g R t x) (hy : g.L[s]? = some y) :
  Call Tryz.prog w0 198 [.agg (boL v g vr t).toArray, .int .i64 (s : Nat), .int .i64 i, .int .i64 to] (D ++ F) (fun r H' => ∃ (vr' : Value) (R' : List RwD) (N : Heap), BoD w0 (N ++ D) v vr' g R' ∧ rwX R' = (rwX R).set t (setRefP x g.slots y i to).2 ∧ r = .tuple [.agg (boL v g vr' t).toArray, .int .i64 (setRefP x g.slots y i to).1].toArray ∧ H' = N ++ (D ++ F)) := by
 have hL := hB.p.L
 have hLl := L_len (g := g)
 have hsl := hf.ok.slots
 have ho := hB.m.o
 have q1 := hB.p.oL
 have q2 := hB.p.oF
 have q3 := hB.p.oM
 have q4 := hB.p.oC
 have hself := hf.self
 have hfit := hf.ok.fits hy
 have hww := hf.ok.words
 have hlx := hf.l
 have hHas := fun A => rHas_K (w0 := w0) (D := D) (F := A) (n := (s : Nat)) hB.p hf.ok
 simp only [has_slot hy] at hHas
 have hfld := fun A => rbfield_K (w0 := w0) (D := D) (F := A) (ref := true) (i := i) hB hf hy
 unfold plL at hHas
 unfold setRefP
 by_cases h1 : to < -1
 ·rw [if_pos (.inl h1)]
  dsimp only
  unfold boL at *
  refine zji ?_
  refine zcX ?_; intro b4 b8
  refine zeO fun T hT => ?_
  refine zd3 ?_
  clear hT T
  refine zF ?_
  refine zaa ?_
  refine zE ?_
  refine zn ?_
  refine zct ?_
  refine z7 ?_
  refine zbg ?_
  exact zid
 ·by_cases h2 : to ≥ ((g.slots : Nat) : Int)
  ·rw [if_pos (.inr h2)]
   dsimp only
   have h2' : to ≥ ((g.L.length : Nat) : Int) := by omega
   unfold boL at *
   refine zji ?_
   refine zcX ?_; intro b4 b8
   refine zeO fun T hT => ?_
   refine zd3 ?_
   clear hT T
   refine ziD ?_
   refine za8 ?_
   refine zdX ?_
   refine zdR ?_
   refine z8 ?_
   refine zaz ?_
   refine zbg ?_
   exact zid
  ·rw [if_neg (by omega)]
   have h2' : ¬ to ≥ ((g.L.length : Nat) : Int) := by omega
   obtain ⟨fe, hfe⟩ : ∃ fe, fe = fldP x y true i := ⟨_, rfl⟩
   rw [← hfe]
   simp only [← hfe] at hfld
   by_cases e : fe = 0
   ·subst e
    obtain ⟨p1, p2, p3⟩ := fld_in hfe.symm
    have hi1 : (1 : Int) + i = ((1 + i.toNat : Nat) : Int) := by omega
    have hfa : y.addr + (1 + i.toNat) = fAt y i := by unfold fAt; omega
    have hst := fun A => rbstore_K (w0 := w0) (D := D) (F := A) (i := 1 + i.toNat) (w := to + 1) hB hf hy (by omega)
    rw [hfa] at hst
    simp only [if_true]
    unfold boL at *
    refine zji ?_
    refine zcX ?_; intro b4 b8
    refine zeO fun T hT => ?_
    refine zd3 ?_
    clear hT T
    refine ziD ?_
    refine za8 ?_
    refine zdX ?_
    refine zkV ?_
    refine zaC fun T hT => ?_
    refine zig ?_
    refine ze ?_
    clear hT T
    refine zT ?_
    refine zaB ?_
    refine zfh ?_
    refine zgm ?_
    refine zQ ?_
    refine zbX ?_
    refine zg fun T hT => ?_
    rw [hi1]
    refine ze8 ?_
    rintro _ _ ⟨vr', R', N, hM', hX, rfl, rfl⟩
    have ho' := hM'.m.o
    refine zd ?_
    clear hT T
    refine zgj ?_
    exact KE.fin byMarks rfl byRes byPart ⟨vr', R', N, hM', hX, rfl, rfl⟩
   ·simp only [if_neg e]
    unfold boL at *
    refine zji ?_
    refine zcX ?_; intro b4 b8
    refine zeO fun T hT => ?_
    refine zd3 ?_
    clear hT T
    refine ziD ?_
    refine za8 ?_
    refine zdX ?_
    refine zkV ?_
    refine zaC fun T hT => ?_
    refine zig ?_
    refine ze ?_
    clear hT T
    refine zT ?_
    refine zhJ ?_
    refine zgw ?_
    refine z9 ?_
    refine zam ?_
    exact zid
def refsL (x : List Int) (n : Nat) (y : SlotP) (k : Nat) : List Int := (List.range k).map fun i => (refP x n y ((i : Nat) : Int)).1
theorem refsL_len {n k : Nat} : (refsL x n y k).length = k := by simp [refsL]
theorem refsL_next {n k : Nat} : refsL x n y k ++ [(refP x n y ((k : Nat) : Int)).1] = refsL x n y (k + 1) := by simp [refsL, List.range_succ]
theorem rf_ok (ok : PlOk g) (hrf : RfOk g x) (hy : g.L[s]? = some y) {i : Int} (h : fldP x y true i = 0) : (refP x g.slots y i).2 = 0 := by
 obtain ⟨p1, p2, p3⟩ := fld_in h
 have := hrf s y hy (1 + i.toNat) (by omega) (by unfold fAt at p2; omega)
 unfold refP
 rw [if_pos h, if_neg]
 unfold fAt
 rw [show y.addr + 1 + i.toNat = y.addr + (1 + i.toNat) by omega]; omega
structure RfS where
 k : Nat
 o : Own
set_option maxHeartbeats 1000000 in
theorem rbRefs_K {q : Nat} (hB : BoD w0 D v vr g R) (hf : BoF g R t x) (hy : g.L[q]? = some y) (hrf : RfOk g x) :
  Call Tryz.prog w0 134 [.agg (boL v g vr t).toArray, .int .i64 (q : Nat)] (D ++ F) (fun r H' => ∃ (o : Own) (e : Int), oOk iE (refsL x g.slots y (refsN x y).toNat) o ∧ r = .tuple [oV o (refsL x g.slots y (refsN x y).toNat).length, .int .i64 e].toArray ∧ H' = oH iE 3 (refsL x g.slots y (refsN x y).toNat) o ++ (D ++ F)) := by
 have ho := hB.m.o
 have q1 := hB.p.oL
 have q2 := hB.p.oF
 have q3 := hB.p.oM
 have q4 := hB.p.oC
 have hfit := hf.ok.fits hy
 have hhead := fun A => rbHead_K (w0 := w0) (D := D) (F := A) hB hf hy
 have href := fun A (i : Nat) => rbRef_K (w0 := w0) (D := D) (F := A) (i := (i : Nat)) hB hf hy
 have hn : refsN x y = match headP x y with | some h => h.r | none => 0 := rfl
 have hfl : ∀ i : Nat, fldP x y true (i : Nat) = match headP x y with | none => 5 | some h => if 0 ≤ ((i : Nat) : Int) ∧ ((i : Nat) : Int) < h.r + h.w ∧ decide (((i : Nat) : Int) < h.r) = true then 0 else 110 := fun _ => rfl
 unfold headV at hhead
 cases hh : headP x y with
 | none =>
  rw [hh] at hn
  simp only [hh] at hhead
  dsimp only at hn
  unfold hdV at hhead
  dsimp only at hhead
  rw [hn]
  unfold boL at *
  refine Call.enter2 (n := 44) (by kernel_rfl) Tryz.func134 rfl rfl rfl ?_
  refine zco ?_; intro b2
  refine zz fun T hT => ?_
  refine zbT ?_
  clear hT T
  refine zbp ?_; intro b6
  refine zr ?_
  refine zcn ?_
  refine K.loopT (σ := Unit) [(1, _), (2, _), (6, _)] (fun s kp_ => (9, .int .i64 0) :: (8, .slice none 0 0) :: (7, .int .i64 5) :: kp_) (fun s => (b6, cells [.int .i64 0, .int .i64 0, .int .i64 0] 148) :: (b2, cells [vr, .int .i64 (t : Nat), v.L, v.F, v.M, .int .i64 (g.words : Nat), v.C] 42) :: (D ++ F)) (fun s => True) (fun s => 0) (()) bySub byPart (trivial) ?_
  rintro ⟨⟩ _
  refine zv ?_
  refine zU ?_
  refine zR ?_
  refine zkN ?_
  refine zkW ?_
  refine zcU ?_
  refine zeF ?_
  exact KE.fin byMarks rfl byRes byPart ⟨none, 5, rfl, rfl, rfl⟩
 | some h =>
  have hm := (lies_of (headP_of hh).2).1
  have hsz := (lies_of (headP_of hh).2).2.2
  rw [hh] at hn
  simp only [hh] at hhead hfl
  dsimp only at hn hfl
  obtain ⟨c, r, w⟩ := h
  dsimp only at hn hfl hsz
  simp only [mayH, decide_eq_true_eq] at hm
  unfold hdV at hhead
  dsimp only at hhead
  obtain ⟨n, hrn⟩ : ∃ n : Nat, r = n := ⟨r.toNat, by omega⟩
  subst hrn
  rw [hn, Int.toNat_natCast]
  have hok : ∀ i : Nat, i < n → (refP x g.slots y (i : Nat)).2 = 0 := fun i hi => rf_ok hf.ok hrf hy (by rw [hfl, if_pos ⟨by omega, by omega, decide_eq_true (by omega)⟩])
  unfold boL at *
  refine Call.enter2 (n := 44) (by kernel_rfl) Tryz.func134 rfl rfl rfl ?_
  refine zco ?_; intro b2
  refine zz fun T hT => ?_
  refine zbT ?_
  clear hT T
  refine zbp ?_; intro b6
  refine zr ?_
  refine zcn ?_
  refine K.loopT (σ := RfS) [(1, _), (2, _), (6, _)] (fun s kp_ => (9, .int .i64 (s.k : Nat)) :: (8, oV s.o (refsL x g.slots y s.k).length) :: (7, .int .i64 0) :: kp_) (fun s => oH iE 3 (refsL x g.slots y s.k) s.o ++ ((b6, cells [.int .i64 c, .int .i64 (n : Nat), .int .i64 w] 148) :: (b2, cells [vr, .int .i64 (t : Nat), v.L, v.F, v.M, .int .i64 (g.words : Nat), v.C] 42) :: (D ++ F))) (fun s => s.k ≤ n ∧ oOk iE (refsL x g.slots y s.k) s.o) (fun s => n - s.k) (⟨0, none⟩) bySub byPart (⟨Nat.zero_le _, rfl⟩) ?_
  rintro ⟨k, o⟩ ⟨hk, ok⟩
  dsimp only at hk ok ⊢
  have hrl := refsL_len (x := x) (n := g.slots) (y := y) (k := k)
  by_cases hlt : k < n
  ·have hlt' : ((k : Nat) : Int) < (n : Nat) := by omega
   have href1 := fun A => href A k
   simp only [hok k hlt] at href1
   obtain ⟨z, hz⟩ : ∃ z, (refP x g.slots y ((k : Nat) : Int)).1 = z := ⟨_, rfl⟩
   have hnx := refsL_next (x := x) (n := g.slots) (y := y) (k := k)
   rw [hz] at hnx
   simp only [hz] at href1
   have hbd : (refsL x g.slots y (k + 1)).length ≤ 4294967296 := by rw [refsL_len]; omega
   refine zv ?_
   refine zU ?_
   refine zE ?_
   refine zaa ?_
   refine zY ?_
   refine zC ?_
   refine zed ?_
   refine zaC fun T hT => ?_
   refine (CallV.part (CallV.fn (href1 _)) byPart).mono ?_
   refine ze ?_
   clear hT T
   refine zag ?_
   refine zfO ?_
   refine zad ?_; intro b37
   refine KL.e rfl (Eff.appZ (E := iE) (xs := refsL x g.slots y k) (o := o) (ys := [z]) (zs := refsL x g.slots y (k + 1)) rfl rfl rfl rfl rfl rfl byTakeL (by assumption) (by first | exact Sli.blk byTake rfl (by first | decide | simp) (by first | decide | (unfold maxLen; omega)) rfl | exact Sli.old (by assumption) | exact Sli.own byTakeL (by assumption) byLen | assumption | exact Sli.part (by assumption) byPart) (hnx) (by first | assumption | omega | (simp <;> fail) | (simp; omega)) rfl) ?_; rintro _ _ ⟨o', ok', rfl, rfl⟩
   refine zdo ?_
   refine zf ?_
   refine zbE ?_
   refine zbq ?_
   exact KE.again ⟨k + 1, o'⟩ bySub byPart ⟨hlt, ok'⟩ (by show n - (k + 1) < n - k; omega)
  ·have hkn : k = n := by omega
   subst hkn
   have hlt' : ¬ ((k : Nat) : Int) < (k : Nat) := by omega
   refine zv ?_
   refine zU ?_
   refine zR ?_
   refine zkN ?_
   refine zkW ?_
   refine zaB ?_
   refine zf ?_
   refine zL ?_
   exact KE.fin byMarks rfl byRes byPart ⟨o, 0, ok, rfl, rfl⟩
end
end Go.Proofs.YtalholahapcpkaaGreatDoor.Sw
