/- The walker and the contracts that the law needs, part 34. -/
import Derived.Test.YtalholahapcpkaaGreatDoorD1
import Derived.Test.YtalholahapcpkaaGreatDoorRows
import Derived.ProofKit
import Derived.OpenShut
import Derived.LaidMore
import Derived.Lay
import Derived.LaidHandle
import Derived.Test.YtalholahapcpkaaGreatDoorJ13
import Derived.Test.YtalholahapcpkaaGreatDoorJ18
import Derived.Test.YtalholahapcpkaaGreatDoorJ21
import Derived.Test.YtalholahapcpkaaGreatDoorJ26
import Derived.Test.YtalholahapcpkaaGreatDoorJ32
namespace Go.Proofs.YtalholahapcpkaaGreatDoor.Sw
open Go.Proofs.YtalholahapcpkaaGreatDoor renaming lo → qL, hi → qH
open Go.ChangeShapes Go.WideShapes Go.ChangeAt Go.RowKit
set_option linter.unusedVariables false
set_option linter.unusedSimpArgs false
set_option maxRecDepth 100000
def laidL : List (String × DataW Unit) := [("math/bits.deBruijn64tab", Rows.laid_math_bits_deBruijn64tab), ("commonage/head.widths", Rows.laid_commonage_head_widths)]
def tabZ : List Int := Lib.deBruijn64tab.map fun n => ((n : Nat) : Int)
def wdZ : List Int := wdL.map fun n => ((n : Nat) : Int)
theorem cells_of {W : World} {n t e f : Nat} {k : IntKind} {zs : List Int} {cs : Array Value} {p : List MemPlace} (ht : Tryz.prog.underlying t = some (.array n e)) (he : Tryz.prog.underlying e = some (.int k)) (hc : Tryz.prog.cellsOf e = 1) (hz : zs.length = n)
  (hd : DataW.trod (fun x : TypeId × Value => ()) Tryz.prog W 0 (fun _ => true) false f t cs.toList = some (.agg (zs.map fun n => .lit (.int k n)), p)) (r : Nat) (hr : r < n) : cs.toList[r]? = some (.int k (zs.getD r 0)) := by
 obtain ⟨xs, m, _, ex, _, hl, hel⟩ := DataW.trod_array ht hd
 have hE := hel r hr
 rw [hc, Nat.mul_one, List.getElem?_eq_getElem (by omega)] at hE
 obtain ⟨z, e1, e2, _⟩ := DataW.trod_int he hE
 have e3 : (xs.map (·.1)) = zs.map fun n => .lit (.int k n) := (DataW.agg.inj (Prod.mk.inj ex).1).symm
 have e4 : (xs.map (·.1))[r]? = (zs.map fun n => (DataW.lit (.int k n) : DataW Unit))[r]? := by rw [e3]
 rw [List.getElem?_map, List.getElem?_map, List.getElem?_eq_getElem (by omega : r < xs.length), List.getElem?_eq_getElem (by omega : r < zs.length), e2] at e4
 have hz : z = zs.getD r 0 := by
  simp only [Option.map_some, Option.some.injEq, DataW.lit.injEq, Lit.int.injEq, true_and] at e4
  rw [e4, List.getD, List.getElem?_eq_getElem (by omega : r < zs.length)]; rfl
 rw [← hz]
 have h0 : ((cs.toList.drop r).take 1)[0]? = some (.int k z) := by rw [e1]; rfl
 simpa using h0
theorem glob_of_laid {W : World} (h : laidMetH Tryz.prog laidL W) : Glob W := by
 rw [MakeChecks.laidMetH_plain _ _ _ (by kernel_rfl)] at h
 obtain ⟨ps, ⟨g0, t0, cs0, f0, p0, q0, hg0, ht0, hv0, hd0, ⟨g1, t1, cs1, f1, p1, q1, hg1, ht1, hv1, hd1, _, _⟩, _⟩, _, _⟩ := h
 obtain rfl := Option.some.inj ((show Tryz.prog.globalNamed "math/bits.deBruijn64tab" = some 1 by kernel_rfl).symm.trans hg0)
 obtain rfl := Option.some.inj ((show Tryz.prog.globalNamed "commonage/head.widths" = some 0 by kernel_rfl).symm.trans hg1)
 obtain rfl := Option.some.inj ((show (Tryz.prog.globals[1]?).map (·.type) = some 348 by kernel_rfl).symm.trans ht0)
 obtain rfl := Option.some.inj ((show (Tryz.prog.globals[0]?).map (·.type) = some 325 by kernel_rfl).symm.trans ht1)
 refine ⟨fun j hj => ?_, fun j n hn => ?_⟩
 ·have hj64 : j < 64 := hj
  have h1 := cells_of (zs := tabZ) Tryz.underlying348 Tryz.underlying5 (by kernel_rfl) (by kernel_rfl) hd0 j hj64
  have h2 := World.var?_cell hg0 hv0 j
  have h3 : tabZ.getD j 0 = ((Lib.deBruijn64tab.getD j 0 : Nat) : Int) := by
   unfold tabZ
   simp only [List.getD_eq_getElem?_getD, List.getElem?_map]
   cases Lib.deBruijn64tab[j]? <;> rfl
  rw [h2, ← h3]
  simpa using h1
 ·have hj5 : j < 5 := (List.getElem?_eq_some_iff.1 hn).1
  have h1 := cells_of (zs := wdZ) Tryz.underlying325 Tryz.underlying3 (by kernel_rfl) (by kernel_rfl) hd1 j hj5
  have h2 := World.var?_cell hg1 hv1 j
  have h3 : wdZ.getD j 0 = ((n : Nat) : Int) := by
   unfold wdZ
   simp only [List.getD_eq_getElem?_getD, List.getElem?_map, hn]; rfl
  rw [h2, ← h3]
  simpa using h1
theorem door_met (os : Os) (args : Array Value) : laidMetH Tryz.prog laidL ((World.doorLaid Tryz.prog 400 os).forCall (fun _ _ => 0) ⟨#[], args, []⟩).memory :=
 laidMetH_of_parts3 (fuel := 8) (laidMet_of_run' 8 (by kernel_rfl) (by kernel_rfl)) (by kernel_rfl) (by kernel_rfl)
open Go.RowKit Go.ChangeShapes Go.WideShapes Go.ChangeAt Go.Deep Go.Joins
set_option maxRecDepth 100000
theorem weightsAll_mem {H : Type} {P : Program} {e : TypeId} {n : Nat} {d : DataW H} : ∀ {l : List (DataW H)}, d ∈ l → n ∈ d.weights P e → n ∈ DataW.weightsAll P e l
 | a :: l, h, hn => by
  simp only [DataW.weightsAll, List.mem_append]
  rcases List.mem_cons.1 h with rfl | h
  ·exact .inl hn
  ·exact .inr (weightsAll_mem h hn)
theorem slice_trZ {P : Program} {α : Type} {E : Enc α} {H : Type} {enc : TypeId × Value → H} {W : World} {t e : TypeId} (ht : P.underlying t = some (.slice e)) (hk : P.cellsOf e = E.sz) (hk0 : 0 < E.sz) {fuel : Nat} {cs : List Value} {x : DataW H × List MemPlace}
  (hf : DataW.trod enc P W 0 (fun _ => true) true fuel t cs = some x) (hz : ∀ n ∈ x.1.weights P t, n ≤ reachBytes) (Ok : α → Prop)
  (hR : ∀ fuel cs x, DataW.trod enc P W 0 (fun _ => true) true fuel e cs = some x → (∀ n ∈ x.1.weights P e, n ≤ reachBytes) → cs.length = E.sz → ∃ y, cs = E.enc y ∧ Ok y) :
  ∃ a n c ys, cs = [.slice a n c] ∧ SlW W E (.slice a n c) ys ∧ (∀ y ∈ ys, Ok y) ∧ ys.length * P.bytesOf e ≤ reachBytes := by
 rcases open_slice ht hf with ⟨hcs, _⟩ | ⟨a', len', cap', m, n, D, Pl, hcs, _, hl, hm, hmm, hxd, hx⟩
 ·exact ⟨none, 0, 0, [], hcs, SlW.nil W E, (fun y hy => by cases hy), by simp⟩
 ·simp only [if_true] at hmm
  subst hmm
  subst hxd
  simp only [DataW.weights, ht] at hz
  have key : ∀ i, i < len' → ∃ y, Ok y ∧ ∀ j, j < E.sz → W.cell? (a'.add (i * E.sz + j)) = (E.enc y)[j]? := by
   intro i hi
   obtain ⟨cs', h1, h2⟩ := hx i (by omega)
   rw [hk] at h1
   obtain ⟨_, hlen, hat⟩ := World.cells?_some h1
   obtain ⟨y, rfl, hy⟩ := hR _ _ _ h2 (fun n hn => hz n (by
    refine List.mem_cons_of_mem _ (List.mem_append_left _ (weightsAll_mem (d := D i) ?_ hn))
    exact List.mem_map_of_mem (List.mem_range.2 hi))) hlen
   exact ⟨y, hy, fun j hj => by rw [← add_add]; exact hat j hj⟩
  obtain ⟨ys, hys, hall⟩ := exists_list len' (fun i y => Ok y ∧ ∀ j, j < E.sz → W.cell? (a'.add (i * E.sz + j)) = (E.enc y)[j]?) key
  subst hys
  have hspot : 0 < ys.length → ∃ b off, a' = ⟨b, off, none⟩ := by
   intro hpos
   obtain ⟨b, off, spot⟩ := a'
   obtain ⟨y0, _, hc0⟩ := key 0 hpos
   have h1 := hc0 0 hk0
   rw [List.getElem?_eq_getElem (by rw [E.len]; exact hk0)] at h1
   have hsp : spot = none := by simpa [Addr.add] using World.cell?_spot h1
   subst hsp
   exact ⟨b, off, rfl⟩
  refine ⟨some a', ys.length, _, ys, hcs, ⟨⟨some a', _, rfl, hl, hm, fun hne => ?_⟩, ?_⟩, ?_, ?_⟩
  ·obtain ⟨b, off, rfl⟩ := hspot (List.length_pos_iff.2 hne)
   exact ⟨b, off, rfl⟩
  ·intro i y hy j u hu
   have hi := (List.getElem?_eq_some_iff.1 hy).1
   obtain ⟨b, off, rfl⟩ := hspot (by omega)
   have hj : j < E.sz := by have := (List.getElem?_eq_some_iff.1 hu).1; rwa [E.len] at this
   have := (hall i y hy).2 j hj
   rw [add_mk, hu] at this
   simpa [adr] using this
  ·intro y hy
   obtain ⟨i, hi⟩ := List.getElem?_of_mem hy
   exact (hall i y hi).1
  ·have := hz _ (List.mem_cons_self ..)
   simp only [List.length_map, List.length_range] at this
   refine Nat.le_trans (Nat.mul_le_mul_right _ ?_) this
   omega
section
variable {H : Type} {enc : TypeId × Value → H} {W : World}
def ActP.ok (x : ActP) : Prop := x.w < 256 ∧ i64ok x.n
theorem tn_in {fuel : Nat} {cs : List Value} {x : DataW H × List MemPlace} (hx : DataW.trod enc Tryz.prog W 0 (fun _ => true) true fuel 141 cs = some x) (hlen : cs.length = 4) : ∃ y : Tn, cs = tnE.enc y ∧ True := by
 obtain ⟨c0, c1, c2, c3, rfl⟩ : ∃ c0 c1 c2 c3, cs = [c0, c1, c2, c3] := by
  match cs, hlen with
  | [c0, c1, c2, c3], _ => exact ⟨c0, c1, c2, c3, rfl⟩
 obtain ⟨xs, n, _, rfl, hl, hxl, hf⟩ := DataW.trod_struct Tryz.underlying141 hx
 have ki : (Tryz.prog).cellsOf 3 = 1 := by kernel_rfl
 match xs, hxl with
 | [y0, y1, y2, y3], _ =>
  have h0 := hf 0 _ rfl
  have h1 := hf 1 _ rfl
  have h2 := hf 2 _ rfl
  have h3 := hf 3 _ rfl
  obtain ⟨a0, e0, -, w0⟩ := DataW.trod_int Tryz.underlying3 (by simpa [ki] using h0)
  obtain ⟨a1, e1, -, w1⟩ := DataW.trod_int Tryz.underlying3 (by simpa [ki] using h1)
  obtain ⟨a2, e2, -, w2⟩ := DataW.trod_int Tryz.underlying3 (by simpa [ki] using h2)
  obtain ⟨a3, e3, -, w3⟩ := DataW.trod_int Tryz.underlying3 (by simpa [ki] using h3)
  simp at e0 e1 e2 e3
  subst e0 e1 e2 e3
  exact ⟨⟨a0, a1, a2, a3⟩, rfl, trivial⟩
theorem cfg_v {base : Nat} {v : Value} {d : DataW H} {p : List MemPlace} (ho : Value.okWide Tryz.prog W .any base 25 v) (h : DataW.Trod enc Tryz.prog W 0 (fun _ => true) true 25 v d p) (hz : ∀ n ∈ d.weights Tryz.prog 25, n ≤ reachBytes) :
  ∃ (c : Cfg) (vc vt : Value), v = cfgV c vc vt ∧ SlW W iE vc c.cl ∧ CfgR W [] c vc vt ∧ vc.oneCell' = true := by
 obtain ⟨cs, rfl, hs⟩ := okWide_struct Tryz.underlying25 ho
 have k6 : (Tryz.prog).cellsOf 25 = 6 := by kernel_rfl
 rw [k6] at hs
 obtain ⟨fuel, hf⟩ := h
 obtain ⟨c0, c1, c2, c3, c4, c5, hcs⟩ : ∃ c0 c1 c2 c3 c4 c5, cs = [c0, c1, c2, c3, c4, c5].toArray := by
  obtain ⟨l⟩ := cs
  match l, hs with
  | [c0, c1, c2, c3, c4, c5], _ => exact ⟨c0, c1, c2, c3, c4, c5, rfl⟩
 subst hcs
 obtain ⟨xs, n, _, hx, hl, hxl, hfl⟩ := DataW.trod_struct Tryz.underlying25 hf
 obtain ⟨rfl, rfl⟩ := Prod.mk.inj hx
 have ks : (Tryz.prog).cellsOf 22 = 1 := by kernel_rfl
 have kt : (Tryz.prog).cellsOf 23 = 1 := by kernel_rfl
 have ki : (Tryz.prog).cellsOf 3 = 1 := by kernel_rfl
 have b1 : (Tryz.prog).bytesOf 3 = 8 := by kernel_rfl
 have b2 : (Tryz.prog).bytesOf 141 = 32 := by kernel_rfl
 match xs, hxl with
 | [y0, y1, y2, y3, y4, y5], _ =>
  have h0 := hfl 0 _ rfl
  have h1 := hfl 1 _ rfl
  have h2 := hfl 2 _ rfl
  have h3 := hfl 3 _ rfl
  have h4 := hfl 4 _ rfl
  have h5 := hfl 5 _ rfl
  simp only [DataW.weights, Tryz.underlying25] at hz
  obtain ⟨a0, n0, m0, ys, e0, hS, _, hb⟩ := slice_trZ (P := Tryz.prog) (E := iE) (x := y0) Tryz.underlying22 (by kernel_rfl) (by decide) (by simpa [ks, Value.cells] using h0) (fun n hn => hz n (DataW.weights_mem_each (j := 0) (t := 22) (d := y0.1) rfl rfl n hn)) i64ok (fun fuel cs x hx _ hl => int_in hx)
  obtain ⟨a1, e1, -, w1⟩ := DataW.trod_int Tryz.underlying3 (by simpa [ki, Value.cells] using h1)
  obtain ⟨a2, n2, m2, ts, e2, hT, _, hb2⟩ := slice_trZ (P := Tryz.prog) (E := tnE) (x := y2) Tryz.underlying23 (by kernel_rfl) (by decide) (by simpa [kt, Value.cells] using h2) (fun n hn => hz n (DataW.weights_mem_each (j := 2) (t := 23) (d := y2.1) rfl rfl n hn)) (fun _ => True) (fun fuel cs x hx _ hl => tn_in hx hl)
  obtain ⟨a3, e3, -, w3⟩ := DataW.trod_int Tryz.underlying3 (by simpa [ki, Value.cells] using h3)
  obtain ⟨a4, e4, -, w4⟩ := DataW.trod_int Tryz.underlying3 (by simpa [ki, Value.cells] using h4)
  obtain ⟨a5, e5, -, w5⟩ := DataW.trod_int Tryz.underlying3 (by simpa [ki, Value.cells] using h5)
  simp [Value.cells, ks, kt, ki] at e0 e1 e2 e3 e4 e5
  subst e0 e1 e2 e3 e4 e5
  rw [b1] at hb
  rw [b2] at hb2
  unfold reachBytes at hb hb2
  exact ⟨⟨ys, a1, ts, a3, a4, a5⟩, _, _, rfl, hS, ⟨Sli.old hS, Sli.old hT, rfl, rfl, by show ys.length ≤ _; omega, by show ts.length ≤ _; omega⟩, rfl⟩
end
open Go.RowKit
set_option maxRecDepth 10000
section
variable {w0 : World} {F : Heap} {zb : Nat}
theorem pnone0_K : Call Tryz.prog w0 145 [.pointer none] F (fun r H' => r = .bool true ∧ H' = F) := by
 refine Call.enter1 (n := 12) (by kernel_rfl) Tryz.func145 rfl rfl rfl ?_
 refine zhN ?_
 refine zcl ?_
 exact zb6
theorem bnone0_K : Call Tryz.prog w0 225 [.pointer none] F (fun r H' => r = .bool true ∧ H' = F) := by
 refine Call.enter1 (n := 12) (by kernel_rfl) Tryz.func225 rfl rfl rfl ?_
 refine zhN ?_
 refine zcl ?_
 exact zb6
theorem knone0_K : Call Tryz.prog w0 111 [.pointer none] F (fun r H' => r = .bool true ∧ H' = F) := by
 refine zj5 ?_
 refine zhN ?_
 refine zcl ?_
 exact zb6
theorem slots0_K : Call Tryz.prog w0 60 [.pointer none] F (fun r H' => r = .int .i64 0 ∧ H' = F) := by
 refine Call.enter1 (n := 9) (by kernel_rfl) Tryz.func60 rfl rfl rfl ?_
 refine zbc fun T hT => ?_
 refine (CallV.fn (pnone0_K)).mono ?_
 rintro _ _ ⟨rfl, rfl⟩
 refine zd ?_
 clear hT T
 refine zI ?_
 exact zar
theorem place0_K {s : Int} : Call Tryz.prog w0 152 [.pointer none, .int .i64 s] F (fun r H' => r = .tuple [.int .i64 0, .int .i64 0, .int .i64 1].toArray ∧ H' = F) := by
 refine Call.enter2 (n := 33) (by kernel_rfl) Tryz.func152 rfl rfl rfl ?_
 refine zfN ?_
 refine zdP fun T hT => ?_
 refine (CallV.fn (bnone0_K)).mono ?_
 rintro _ _ ⟨rfl, rfl⟩
 refine zd ?_
 clear hT T
 refine zI ?_
 refine zcL ?_
 exact zar
theorem head0_K {s : Int} : Call Tryz.prog w0 94 [.pointer none, .int .i64 s] F (fun r H' => r = .tuple [.agg [.int .i64 0, .int .i64 0, .int .i64 0].toArray, .int .i64 1].toArray ∧ H' = F) := by
 refine Call.enter2 (n := 53) (by kernel_rfl) Tryz.func94 rfl rfl rfl ?_
 refine zq ?_
 refine zaI ?_; intro b4
 refine zcC fun T hT => ?_
 refine (CallV.fn (place0_K)).mono ?_
 rintro _ _ ⟨rfl, rfl⟩
 refine zd ?_
 clear hT T
 refine zd8 ?_
 refine zhJ ?_
 refine zaf ?_
 refine zf ?_
 refine z9 ?_
 exact zar
theorem of0_K {s : Int} : Call Tryz.prog w0 36 [.pointer none, .int .i64 s] F (fun r H' => r = .tuple [.int .u8 0, .int .i64 1].toArray ∧ H' = F) := by
 refine zi2 ?_
 refine zeU fun T hT => ?_
 refine (CallV.fn (knone0_K)).mono ?_
 rintro _ _ ⟨rfl, rfl⟩
 refine zd ?_
 clear hT T
 refine zI ?_
 exact zdh
end
set_option maxRecDepth 10000
section
variable {w0 : World} {F : Heap} {zb : Nat}
def zmH (b : Nat) : Heap := [(b, cells [.pointer none, .pointer none, .pointer none, .pointer none, .pointer none, .pointer none, .slice none 0 0, .int .i64 0, .bool false, .int .i64 0] 112)]
theorem zmH_app {b : Nat} : zmH b ++ F = (b, cells [.pointer none, .pointer none, .pointer none, .pointer none, .pointer none, .pointer none, .slice none 0 0, .int .i64 0, .bool false, .int .i64 0] 112) :: F := rfl
theorem tbnone0_K : Call Tryz.prog w0 177 [.pointer none] F (fun r H' => r = .bool true ∧ H' = F) := by
 refine Call.enter1 (n := 13) (by kernel_rfl) Tryz.func177 rfl rfl rfl ?_
 refine zhN ?_
 refine zct ?_
 exact zb6
theorem pinone0_K : Call Tryz.prog w0 135 [.pointer none] F (fun r H' => r = .bool true ∧ H' = F) := by
 refine Call.enter1 (n := 12) (by kernel_rfl) Tryz.func135 rfl rfl rfl ?_
 refine zhN ?_
 refine zcl ?_
 exact zb6
theorem tblen0_K : Call Tryz.prog w0 104 [.pointer none] (F) (fun r H' => r = .int .i64 0 ∧ H' = F) := by
 refine Call.enter1 (n := 10) (by kernel_rfl) Tryz.func104 rfl rfl rfl ?_
 refine zbc fun T hT => ?_
 refine (CallV.fn (tbnone0_K)).mono ?_
 rintro _ _ ⟨rfl, rfl⟩
 refine zd ?_
 clear hT T
 refine zI ?_
 exact zar
theorem picopy0_K : Call Tryz.prog w0 105 [.pointer none] (F) (fun r H' => r = .pointer none ∧ H' = F) := by
 refine Call.enter1 (n := 17) (by kernel_rfl) Tryz.func105 rfl rfl rfl ?_
 refine zbc fun T hT => ?_
 refine (CallV.fn (pinone0_K)).mono ?_
 rintro _ _ ⟨rfl, rfl⟩
 refine zd ?_
 clear hT T
 refine zI ?_
 exact zar
theorem knoneZ_K : Call Tryz.prog w0 111 [.pointer (some ⟨zb, 0, none⟩)] (zmH zb ++ F) (fun r H' => r = .bool true ∧ H' = zmH zb ++ F) := by
 rw [zmH_app]
 refine zj5 ?_
 refine zfU ?_
 refine zaY ?_
 refine zaR ?_
 refine zbB ?_
 exact ziH
theorem kturn0_K {v : Bool} : Call Tryz.prog w0 117 [.pointer none, .bool v] (F) (fun r H' => r = .int .i64 1 ∧ H' = F) := by
 refine zi3 ?_
 refine zfS ?_
 refine zh fun T hT => ?_
 refine (CallV.fn (knone0_K)).mono ?_
 rintro _ _ ⟨rfl, rfl⟩
 refine zd ?_
 clear hT T
 refine zg6 ?_
 refine zgg ?_
 exact zaU
theorem kturnZ_K {v : Bool} : Call Tryz.prog w0 117 [.pointer (some ⟨zb, 0, none⟩), .bool v] (zmH zb ++ F) (fun r H' => r = .int .i64 1 ∧ H' = zmH zb ++ F) := by
 refine zi3 ?_
 refine zfS ?_
 refine zh fun T hT => ?_
 refine zjz ?_
 refine ze ?_
 clear hT T
 refine zg6 ?_
 refine zgg ?_
 exact zaU
theorem kstart0_K : Call Tryz.prog w0 42 [.pointer none] (F) (fun r H' => r = .int .i64 1 ∧ H' = F) := by
 refine zj8 ?_
 refine zeV fun T hT => ?_
 refine (CallV.fn (kturn0_K)).mono ?_
 rintro _ _ ⟨rfl, rfl⟩
 refine zd ?_
 clear hT T
 refine zT ?_
 refine zH ?_
 refine zM ?_
 refine zf ?_
 exact zw
theorem kstopZ_K : Call Tryz.prog w0 43 [.pointer (some ⟨zb, 0, none⟩)] (zmH zb ++ F) (fun r H' => r = .int .i64 1 ∧ H' = zmH zb ++ F) := by
 refine zkw ?_
 refine zeV fun T hT => ?_
 refine (CallV.part (CallV.fn (kturnZ_K)) byPart).mono ?_
 refine ze ?_
 clear hT T
 exact zw
theorem kact0_K : Call Tryz.prog w0 40 [.pointer none] (F) (fun r H' => r = .bool false ∧ H' = F) := by
 refine zj6 ?_
 refine zeV fun T hT => ?_
 refine (CallV.fn (knone0_K)).mono ?_
 rintro _ _ ⟨rfl, rfl⟩
 refine zd ?_
 clear hT T
 refine zF ?_
 refine zbF ?_
 exact ziH
theorem kactZ_K : Call Tryz.prog w0 40 [.pointer (some ⟨zb, 0, none⟩)] (zmH zb ++ F) (fun r H' => r = .bool false ∧ H' = zmH zb ++ F) := by
 refine zj6 ?_
 refine zeV fun T hT => ?_
 refine zjz ?_
 refine ze ?_
 clear hT T
 refine zF ?_
 refine zbF ?_
 exact ziH
theorem kdone0_K : Call Tryz.prog w0 39 [.pointer none] (F) (fun r H' => r = .bool false ∧ H' = F) := by
 refine zks ?_
 refine zq ?_
 refine zaI ?_; intro b2
 refine zbM ?_
 refine zh fun T hT => ?_
 refine (CallV.fn (kact0_K)).mono ?_
 rintro _ _ ⟨rfl, rfl⟩
 refine zd ?_
 clear hT T
 refine zat ?_
 refine zcR ?_
 refine zaH ?_
 exact zaU
theorem kstep0_K {hd v : Int} : Call Tryz.prog w0 37 [.pointer none, .int .i64 hd, .int .u8 v] (F) (fun r H' => r = .bool false ∧ H' = F) := by
 refine zeS fun T hT => ?_
 refine (CallV.fn (kact0_K)).mono ?_
 rintro _ _ ⟨rfl, rfl⟩
 refine zd ?_
 clear hT T
 refine zbA ?_
 refine zd6 ?_
 refine zcz ?_
 refine zC ?_
 refine zd6 ?_
 refine zcs ?_
 refine z7 ?_
 exact zar
theorem khelpZ_K : Call Tryz.prog w0 38 [.pointer (some ⟨zb, 0, none⟩)] (zmH zb ++ F) (fun r H' => r = .bool false ∧ H' = zmH zb ++ F) := by
 refine zku ?_
 refine zeR ?_; intro b1 b2
 refine zbL fun T hT => ?_
 refine (CallV.part (CallV.fn (kactZ_K)) byPart).mono ?_
 refine ze ?_
 clear hT T
 refine zat ?_
 refine zcR ?_
 refine zaH ?_
 exact zaU
theorem ksteps0_K : Call Tryz.prog w0 45 [.pointer none] (F) (fun r H' => r = .int .i64 0 ∧ H' = F) := by
 refine Call.enter1 (n := 9) (by kernel_rfl) Tryz.func45 rfl rfl rfl ?_
 refine zbc fun T hT => ?_
 refine (CallV.fn (knone0_K)).mono ?_
 rintro _ _ ⟨rfl, rfl⟩
 refine zd ?_
 clear hT T
 refine zI ?_
 exact zar
theorem khandZ_K {hd : Int} : Call Tryz.prog w0 41 [.pointer (some ⟨zb, 0, none⟩), .int .i64 hd] (zmH zb ++ F) (fun r H' => r = .tuple [.int .i64 0, .int .i64 0, .bool false].toArray ∧ H' = zmH zb ++ F) := by
 refine zjv ?_
 refine zfN ?_
 refine zdP fun T hT => ?_
 refine zjz ?_
 refine ze ?_
 clear hT T
 refine zd6 ?_
 refine zcz ?_
 refine z7 ?_
 refine zcL ?_
 exact zar
theorem kofZ_K {s : Int} : Call Tryz.prog w0 36 [.pointer (some ⟨zb, 0, none⟩), .int .i64 s] (zmH zb ++ F) (fun r H' => r = .tuple [.int .u8 0, .int .i64 1].toArray ∧ H' = zmH zb ++ F) := by
 refine zi2 ?_
 refine zeU fun T hT => ?_
 refine zjz ?_
 refine ze ?_
 clear hT T
 refine zI ?_
 exact zdh
theorem ktouch0_K {s : Int} {g : FuncId} {fi cap : List Value} : Call Tryz.prog w0 109 [.pointer none, .int .i64 s, .func (.func g) fi.toArray cap.toArray] (F) (fun r H' => r = .int .i64 1 ∧ H' = F) := by
 refine zio ?_
 refine zcM ?_
 refine zh fun T hT => ?_
 refine (CallV.fn (of0_K)).mono ?_
 rintro _ _ ⟨rfl, rfl⟩
 refine zd ?_
 clear hT T
 refine zG ?_
 refine zH ?_
 refine zbF ?_
 refine zan ?_
 refine zf ?_
 exact zw
theorem ktouchZ_K {s : Int} {g : FuncId} {fi cap : List Value} : Call Tryz.prog w0 109 [.pointer (some ⟨zb, 0, none⟩), .int .i64 s, .func (.func g) fi.toArray cap.toArray] (zmH zb ++ F) (fun r H' => r = .int .i64 1 ∧ H' = zmH zb ++ F) := by
 refine zio ?_
 refine zcM ?_
 refine zh fun T hT => ?_
 refine (CallV.part (CallV.fn (kofZ_K)) byPart).mono ?_
 refine ze ?_
 clear hT T
 refine zG ?_
 refine zH ?_
 refine zbF ?_
 refine zan ?_
 refine zf ?_
 exact zw
theorem kshade0_K {s : Int} : Call Tryz.prog w0 35 [.pointer none, .int .i64 s] (F) (fun r H' => r = .int .i64 1 ∧ H' = F) := by
 refine zkv ?_
 refine zbH ?_
 refine zbI ?_
 refine zby fun T hT => ?_
 refine (CallV.fn (ktouch0_K (fi := [.pointer none]) (cap := []))).mono ?_
 rintro _ _ ⟨rfl, rfl⟩
 refine zd ?_
 clear hT T
 exact zw
theorem kblackZ_K {s : Int} : Call Tryz.prog w0 44 [.pointer (some ⟨zb, 0, none⟩), .int .i64 s] (zmH zb ++ F) (fun r H' => r = .int .i64 1 ∧ H' = zmH zb ++ F) := by
 refine Call.enter2 (n := 9) (by kernel_rfl) Tryz.func44 rfl rfl rfl ?_
 refine zW ?_; intro b2
 refine zbo ?_
 refine zby fun T hT => ?_
 refine (CallV.part (CallV.fn (ktouchZ_K (zb := zb) (g := 120) (fi := []) (cap := [.pointer (some ⟨b2, 0, none⟩)]))) byPart).mono ?_
 refine ze ?_
 clear hT T
 exact zw
end
section
variable {w0 : World} {F : Heap} {k : MkM} {p : PlanM}
theorem mktouch_E {s : Int} {g : FuncId} {fi cap : List Value} (ok : MkOk k p) (hs : ¬ (0 ≤ s ∧ s < (p.g.slots : Nat))) :
  Call Tryz.prog w0 109 [.pointer (some ⟨k.b, 0, none⟩), .int .i64 s, .func (.func g) fi.toArray cap.toArray] (markH k p ++ F) (fun r H' => r = .int .i64 2 ∧ H' = markH k p ++ F) := by
 refine zio ?_
 refine zcM ?_
 refine zh fun T hT => ?_
 refine (CallV.fn (mkOf_E ok hs)).mono ?_
 rintro _ _ ⟨rfl, rfl⟩
 refine zd ?_
 clear hT T
 refine zG ?_
 refine zH ?_
 refine zbF ?_
 refine zan ?_
 refine zf ?_
 exact zw
theorem mkShade_E {s : Int} (ok : MkOk k p) (hs : ¬ (0 ≤ s ∧ s < (p.g.slots : Nat))) :
  Call Tryz.prog w0 35 [.pointer (some ⟨k.b, 0, none⟩), .int .i64 s] (markH k p ++ F) (fun r H' => r = .int .i64 2 ∧ H' = markH k p ++ F) := by
 refine zkv ?_
 refine zbH ?_
 refine zbI ?_
 refine zby fun T hT => ?_
 refine (CallV.fn (mktouch_E (fi := [.pointer (some ⟨k.b, 0, none⟩)]) (cap := []) ok hs)).mono ?_
 rintro _ _ ⟨rfl, rfl⟩
 refine zd ?_
 clear hT T
 exact zw
end
section
variable {w0 : World} {g : PlG} {long nf : Nat} {X : WmM} {k : MkM} {W : MwP} {m kk : MaP} {F : Heap} {kb : Nat}
theorem mShade_no {s : Int} (h : WmR w0 g long nf (setk X k) ⟨W, m, kk⟩) (hkb : k.b = kb) (ha : m.act = false) : Call Tryz.prog w0 35 [.pointer (some ⟨kb, 0, none⟩), .int .i64 s] (wmH (setk X k) ++ F)
  (fun r H' => r = .int .i64 (if inS g s then 0 else 2) ∧ WmK w0 g long nf X W m kk kb F H') := by
 subst hkb
 rw [wmH_app]
 by_cases hin : inS g s
 ·rw [if_pos hin]
  obtain ⟨s0, rfl⟩ : ∃ s0 : Nat, s = s0 := ⟨s.toNat, by have := hin.1; omega⟩
  have hs0 : s0 < g.slots := by have := hin.2; omega
  have hsh := mkShade_K (w0 := w0) (F := seenH X.B X.T X.N ++ (X.D ++ F)) (s := s0) h.ok h.R (by rw [h.eg]; exact hs0)
  refine hsh.mono ?_
  rintro _ _ ⟨rfl, k', kok, kto, kR, rfl⟩
  have hm : shdM X.B.p.g k.g.ring.length m (s0 : Nat) = m := by unfold shdM; rw [ha]; rfl
  have kR' : MkR k' X.B.p m := by have := kR; rwa [show shdM (setk X k).B.p.g (setk X k).k.g.ring.length (⟨W, m, kk⟩ : MsP).m (s0 : Nat) = m from hm] at this
  exact ⟨rfl, k', kto.b, ⟨h.eg, kto.f.trans h.fl, kto.l.trans h.el, h.p.to kto, kok, kR', h.m, h.k, h.lg, h.W, h.K, h.t, h.mem, h.lm, h.lk, h.n, h.wd⟩, by rw [wmH_app]; rfl⟩
 ·rw [if_neg hin]
  refine (mkShade_E h.ok (by rw [h.eg]; exact hin)).mono ?_
  refine zS ?_
  exact ⟨rfl, k, rfl, h, by rw [wmH_app]⟩
theorem mOf_no {s : Int} (h : WmR w0 g long nf (setk X k) ⟨W, m, kk⟩) (hkb : k.b = kb) (hC : m.C = List.replicate g.slots 0) : Call Tryz.prog w0 36 [.pointer (some ⟨kb, 0, none⟩), .int .i64 s] (wmH (setk X k) ++ F)
  (fun r H' => r = .tuple [.int .u8 0, .int .i64 (if inS g s then 0 else 2)].toArray ∧ H' = wmH (setk X k) ++ F) := by
 by_cases hin : inS g s
 ·rw [if_pos hin]
  obtain ⟨s0, rfl⟩ : ∃ s0 : Nat, s = s0 := ⟨s.toNat, by have := hin.1; omega⟩
  have hs0 : s0 < g.slots := by have := hin.2; omega
  exact mOf_K h hkb (by rw [hC]; exact List.getElem?_replicate_of_lt hs0)
 ·rw [if_neg hin]
  subst hkb
  rw [wmH_app]
  exact mkOf_E h.ok (by rw [h.eg]; exact hin)
end
open Go.RowKit
set_option maxRecDepth 10000
section
variable {w0 : World} {F : Heap} {p : PlanM}
theorem grNew_E {n : Int} (ok : PlanOk p) (hn : ¬ (1 ≤ n ∧ n ≤ 64)) :
  Call Tryz.prog w0 107 [.pointer (some ⟨p.b, 0, none⟩), .int .i64 n] (planH p ++ F) (fun r H' => r = .tuple [.pointer none, .int .i64 2].toArray ∧ H' = planH p ++ F) := by
 have hs := ok.g.slots
 have hne : ¬ ((p.g.slots : Nat) : Int) = 0 := by omega
 by_cases h1 : n < 1
 ·refine zj4 ?_
  refine zaj ?_
  refine zhH ?_
  refine zh fun T hT => ?_
  refine (CallV.fn (Slots0_K ok)).mono ?_
  rintro _ _ ⟨rfl, rfl⟩
  refine zd ?_
  clear hT T
  refine zbP ?_
  refine zf ?_
  refine zE ?_
  refine zd6 ?_
  exact zeH
 ·have h2 : n > 64 := by omega
  refine zj4 ?_
  refine zaj ?_
  refine zhH ?_
  refine zh fun T hT => ?_
  refine (CallV.fn (Slots0_K ok)).mono ?_
  rintro _ _ ⟨rfl, rfl⟩
  refine zd ?_
  clear hT T
  refine zbP ?_
  refine zdf ?_
  refine zcb ?_
  refine zn ?_
  exact zeH
end
section
variable {w0 : World} {F : Heap} {p : PlanM} {g : PlG} {long nf : Nat} {X : WmM} {W : MwP} {m : MaP} {wk lg : Int}
theorem newm_b : Call Tryz.prog w0 34 [.pointer none, .pointer (some ⟨p.b, 0, none⟩), .pointer (some ⟨X.T.b, 0, none⟩), .pointer (some ⟨X.N.b, 0, none⟩), .int .i64 wk, .int .i64 lg] F (fun r H' => r = .tuple [.pointer none, .int .i64 1].toArray ∧ H' = F) := by
 refine zfL ?_
 refine zh fun T hT => ?_
 refine (CallV.fn (head0_K)).mono ?_
 rintro _ _ ⟨rfl, rfl⟩
 refine zd ?_
 clear hT T
 refine zbp ?_; intro b14
 refine zgq ?_
 refine zY ?_
 refine zdv ?_
 refine zdv ?_
 refine zdv ?_
 exact zeH
theorem newm_p (hG : Glob w0) (hq : WqR g long nf X W m) (okp2 : PlanOk p) : Call Tryz.prog w0 34 [.pointer (some ⟨X.B.b, 0, none⟩), .pointer none, .pointer (some ⟨X.T.b, 0, none⟩), .pointer (some ⟨X.N.b, 0, none⟩), .int .i64 wk, .int .i64 lg] (wmH X ++ (planH p ++ F)) (fun r H' => r = .tuple [.pointer none, .int .i64 1].toArray ∧ H' = wmH X ++ (planH p ++ F)) := by
 have okB := hq.p.bo
 have okp := okB.p
 have okT := hq.p.tb
 have okN := hq.p.pi
 have hs := okp.g.slots
 have hs2 := okp2.g.slots
 have hne : ¬ ((p.g.slots : Nat) : Int) = 0 := by omega
 have hT := okT.n
 have hne2 : ¬ ((X.T.l.length : Nat) : Int) = 0 := by omega
 obtain ⟨y, hy⟩ := L_ex (g := X.B.p.g) (i := 0) (by omega)
 have hhead := fun A => Head_K (w0 := w0) (F := A) (s := 0) hG okB hy
 have hhv : ∃ c r w e, headV (headP W.x y) = .tuple [.agg [.int .i64 c, .int .i64 r, .int .i64 w].toArray, .int .i64 e].toArray ∧ e ≠ 1 := by
  unfold headV
  cases headP W.x y with
  | none => exact ⟨0, 0, 0, 5, rfl, by decide⟩
  | some h => exact ⟨h.c, h.r, h.w, 0, rfl, by decide⟩
 obtain ⟨c, r, w, e, hev, hen⟩ := hhv
 simp only [hev] at hhead
 have hen' : ¬ e = 1 := hen
 rw [wmH_app, seenH_app]
 refine zfL ?_
 refine zh fun T hT => ?_
 refine zbT ?_
 clear hT T
 refine zbp ?_; intro b14
 refine zfK ?_
 refine zg fun T hT => ?_
 refine (CallV.fn (slots0_K)).mono ?_
 rintro _ _ ⟨rfl, rfl⟩
 refine zd ?_
 clear hT T
 refine zdZ ?_
 refine zn ?_
 refine zdv ?_
 refine zdv ?_
 exact zeH
theorem newm_t (hG : Glob w0) (hq : WqR g long nf X W m) (okp2 : PlanOk p) : Call Tryz.prog w0 34 [.pointer (some ⟨X.B.b, 0, none⟩), .pointer (some ⟨p.b, 0, none⟩), .pointer none, .pointer (some ⟨X.N.b, 0, none⟩), .int .i64 wk, .int .i64 lg] (wmH X ++ (planH p ++ F)) (fun r H' => r = .tuple [.pointer none, .int .i64 1].toArray ∧ H' = wmH X ++ (planH p ++ F)) := by
 have okB := hq.p.bo
 have okp := okB.p
 have okT := hq.p.tb
 have okN := hq.p.pi
 have hs := okp.g.slots
 have hs2 := okp2.g.slots
 have hne : ¬ ((p.g.slots : Nat) : Int) = 0 := by omega
 have hT := okT.n
 have hne2 : ¬ ((X.T.l.length : Nat) : Int) = 0 := by omega
 obtain ⟨y, hy⟩ := L_ex (g := X.B.p.g) (i := 0) (by omega)
 have hhead := fun A => Head_K (w0 := w0) (F := A) (s := 0) hG okB hy
 have hhv : ∃ c r w e, headV (headP W.x y) = .tuple [.agg [.int .i64 c, .int .i64 r, .int .i64 w].toArray, .int .i64 e].toArray ∧ e ≠ 1 := by
  unfold headV
  cases headP W.x y with
  | none => exact ⟨0, 0, 0, 5, rfl, by decide⟩
  | some h => exact ⟨h.c, h.r, h.w, 0, rfl, by decide⟩
 obtain ⟨c, r, w, e, hev, hen⟩ := hhv
 simp only [hev] at hhead
 have hen' : ¬ e = 1 := hen
 rw [wmH_app, seenH_app]
 refine zfL ?_
 refine zh fun T hT => ?_
 refine zbT ?_
 clear hT T
 refine zbp ?_; intro b14
 refine zfK ?_
 refine zg fun T hT => ?_
 refine zfw ?_
 clear hT T
 refine zcV fun T hT => ?_
 refine (CallV.fn (tblen0_K)).mono ?_
 rintro _ _ ⟨rfl, rfl⟩
 refine zd ?_
 clear hT T
 refine zdZ ?_
 refine zn ?_
 refine zdv ?_
 exact zeH
theorem newm_n (hG : Glob w0) (hq : WqR g long nf X W m) (okp2 : PlanOk p) : Call Tryz.prog w0 34 [.pointer (some ⟨X.B.b, 0, none⟩), .pointer (some ⟨p.b, 0, none⟩), .pointer (some ⟨X.T.b, 0, none⟩), .pointer none, .int .i64 wk, .int .i64 lg] (wmH X ++ (planH p ++ F)) (fun r H' => r = .tuple [.pointer none, .int .i64 1].toArray ∧ H' = wmH X ++ (planH p ++ F)) := by
 have okB := hq.p.bo
 have okp := okB.p
 have okT := hq.p.tb
 have okN := hq.p.pi
 have hs := okp.g.slots
 have hs2 := okp2.g.slots
 have hne : ¬ ((p.g.slots : Nat) : Int) = 0 := by omega
 have hT := okT.n
 have hne2 : ¬ ((X.T.l.length : Nat) : Int) = 0 := by omega
 obtain ⟨y, hy⟩ := L_ex (g := X.B.p.g) (i := 0) (by omega)
 have hhead := fun A => Head_K (w0 := w0) (F := A) (s := 0) hG okB hy
 have hhv : ∃ c r w e, headV (headP W.x y) = .tuple [.agg [.int .i64 c, .int .i64 r, .int .i64 w].toArray, .int .i64 e].toArray ∧ e ≠ 1 := by
  unfold headV
  cases headP W.x y with
  | none => exact ⟨0, 0, 0, 5, rfl, by decide⟩
  | some h => exact ⟨h.c, h.r, h.w, 0, rfl, by decide⟩
 obtain ⟨c, r, w, e, hev, hen⟩ := hhv
 simp only [hev] at hhead
 have hen' : ¬ e = 1 := hen
 rw [wmH_app, seenH_app]
 refine zfL ?_
 refine zh fun T hT => ?_
 refine zbT ?_
 clear hT T
 refine zbp ?_; intro b14
 refine zfK ?_
 refine zg fun T hT => ?_
 refine zfw ?_
 clear hT T
 refine zcV fun T hT => ?_
 refine zhq ?_
 refine ze ?_
 clear hT T
 refine zcV fun T hT => ?_
 refine (CallV.fn (picopy0_K)).mono ?_
 rintro _ _ ⟨rfl, rfl⟩
 refine zd ?_
 clear hT T
 refine zm ?_
 refine zbB ?_
 refine zn ?_
 exact zeH
def NewA (wk lg : Int) (v : Value) (e : Int) : Prop := ((0 ≤ wk ∧ wk ≤ 8 ∧ 1 ≤ lg ∧ lg ≤ 64) ∧ e = 0 ∧ ∃ b, v = .pointer (some ⟨b, 0, none⟩)) ∨ (¬ (0 ≤ wk ∧ wk ≤ 8 ∧ 1 ≤ lg ∧ lg ≤ 64) ∧ e = 2 ∧ v = .pointer none)
set_option maxHeartbeats 4000000 in
theorem newm_K (hG : Glob w0) (hq : WqR g long nf X W m) (okp2 : PlanOk p) (hpg : p.g = g) : Call Tryz.prog w0 34 [.pointer (some ⟨X.B.b, 0, none⟩), .pointer (some ⟨p.b, 0, none⟩), .pointer (some ⟨X.T.b, 0, none⟩), .pointer (some ⟨X.N.b, 0, none⟩), .int .i64 wk, .int .i64 lg] (wmH X ++ (planH p ++ F)) (fun r H' => ∃ (v : Value) (e : Int) (D : Heap), NewA wk lg v e ∧ r = .tuple [v, .int .i64 e].toArray ∧ H' = D ++ (wmH X ++ (planH p ++ F))) := by
 have okB := hq.p.bo
 have okp := okB.p
 have okT := hq.p.tb
 have okN := hq.p.pi
 have hs := okp.g.slots
 have hs2 := okp2.g.slots
 have hne : ¬ ((p.g.slots : Nat) : Int) = 0 := by omega
 have hT := okT.n
 have hne2 : ¬ ((X.T.l.length : Nat) : Int) = 0 := by omega
 obtain ⟨y, hy⟩ := L_ex (g := X.B.p.g) (i := 0) (by omega)
 have hhead := fun A => Head_K (w0 := w0) (F := A) (s := 0) hG okB hy
 have hhv : ∃ c r w e, headV (headP W.x y) = .tuple [.agg [.int .i64 c, .int .i64 r, .int .i64 w].toArray, .int .i64 e].toArray ∧ e ≠ 1 := by
  unfold headV
  cases headP W.x y with
  | none => exact ⟨0, 0, 0, 5, rfl, by decide⟩
  | some h => exact ⟨h.c, h.r, h.w, 0, rfl, by decide⟩
 obtain ⟨c, r, w, e, hev, hen⟩ := hhv
 simp only [hev] at hhead
 have hen' : ¬ e = 1 := hen
 have hNl : X.N.l.length = p.g.slots := by rw [hq.p.eN, hq.p.w.N, hq.eg, hpg]
 have hne3 : ¬ ((X.N.l.length : Nat) : Int) ≠ (p.g.slots : Nat) := by omega
 rw [wmH_app, seenH_app]
 by_cases h1 : wk < 0
 ·skip
  refine zfL ?_
  refine zh fun T hT => ?_
  refine zbT ?_
  clear hT T
  refine zbp ?_; intro b14
  refine zfK ?_
  refine zg fun T hT => ?_
  refine zfw ?_
  clear hT T
  refine zcV fun T hT => ?_
  refine zhq ?_
  refine ze ?_
  clear hT T
  refine zcV fun T hT => ?_
  refine zh9 ?_
  rintro _ _ ⟨N', _, _, rfl, rfl⟩
  refine zd ?_
  clear hT T
  refine zm ?_
  refine zbB ?_
  refine zn ?_
  refine zdg ?_
  refine zf ?_
  refine zE ?_
  refine zd6 ?_
  refine zcl ?_
  refine zC ?_
  refine zkU ?_
  exact zkB
 ·by_cases h2 : wk > 8
  ·skip
   refine zfL ?_
   refine zh fun T hT => ?_
   refine zbT ?_
   clear hT T
   refine zbp ?_; intro b14
   refine zfK ?_
   refine zg fun T hT => ?_
   refine zfw ?_
   clear hT T
   refine zcV fun T hT => ?_
   refine zhq ?_
   refine ze ?_
   clear hT T
   refine zcV fun T hT => ?_
   refine zh9 ?_
   rintro _ _ ⟨N', _, _, rfl, rfl⟩
   refine zd ?_
   clear hT T
   refine zm ?_
   refine zbB ?_
   refine zn ?_
   refine zds ?_
   refine zcb ?_
   refine zn ?_
   refine zcl ?_
   refine zC ?_
   refine zkU ?_
   exact zkB
  ·obtain ⟨nw, rfl⟩ : ∃ nw : Nat, wk = nw := ⟨wk.toNat, by omega⟩
   have he : ((nw : Nat) : Int) + 1 = ((nw + 1 : Nat) : Int) := by omega
   by_cases h3 : 1 ≤ lg ∧ lg ≤ 64
   ·obtain ⟨ln, rfl⟩ : ∃ ln : Nat, lg = ln := ⟨lg.toNat, by omega⟩
    refine zfL ?_
    refine zh fun T hT => ?_
    refine zbT ?_
    clear hT T
    refine zbp ?_; intro b14
    refine zfK ?_
    refine zg fun T hT => ?_
    refine zfw ?_
    clear hT T
    refine zcV fun T hT => ?_
    refine zhq ?_
    refine ze ?_
    clear hT T
    refine zcV fun T hT => ?_
    refine zh9 ?_
    rintro _ _ ⟨N', _, _, rfl, rfl⟩
    refine zd ?_
    clear hT T
    refine zm ?_
    refine zbB ?_
    refine zn ?_
    refine zds ?_
    refine zae ?_
    refine zjJ fun T hT => ?_
    refine zkY ?_
    clear hT T
    refine zaF ?_
    refine zg fun T hT => ?_
    refine zfw ?_
    clear hT T
    refine zdn ?_
    refine zn ?_
    refine zdu ?_
    refine zbb fun T hT => ?_
    refine (CallV.part (CallV.fn (grNew_K okp2 (n := ln) (by omega))) byPart).mono ?_
    rintro _ _ ⟨gr, kg, gn, gl, rfl, rfl⟩
    refine zd ?_
    clear hT T
    refine zG ?_
    refine zaB ?_
    refine zh fun T hT => ?_
    refine zfw ?_
    clear hT T
    refine zg fun T hT => ?_
    refine (CallV.fn (tiNew_K (n := p.g.slots) (by omega))).mono ?_
    rintro _ _ ⟨t, kt, tf, tc, rfl, rfl⟩
    refine zd ?_
    clear hT T
    refine zag ?_
    refine zfO ?_
    refine zj ?_
    refine zbI ?_
    refine zc2 ?_
    rw [he]
    refine KL.e rfl (Eff.makeR (E := hanE) (x0 := ⟨0, 0, false⟩) rfl rfl rfl rfl rfl rfl (by omega)) ?_; rintro _ _ ⟨o79, ok79, rfl, rfl⟩
    refine zeT ?_; intro b81
    refine zf ?_
    refine zL ?_
    exact KE.fin (H' := markH ⟨b81, t, gr, List.replicate (nw + 1) ⟨0, 0, false⟩, o79, 0, false, 0, X.B.b, X.T.b, X.N.b⟩ p ++ (pinsH N' ++ (wmH X ++ (planH p ++ F)))) byMarks rfl byRes (by simp only [wmH_app, seenH_app, markH_app, List.length_replicate]; exact byPart)
     ⟨.pointer (some ⟨b81, 0, none⟩), 0, markH ⟨b81, t, gr, List.replicate (nw + 1) ⟨0, 0, false⟩, o79, 0, false, 0, X.B.b, X.T.b, X.N.b⟩ p ++ pinsH N', .inl ⟨by omega, rfl, b81, rfl⟩, rfl, by simp only [List.append_assoc, wmH_app, seenH_app]⟩
   ·skip
    refine zfL ?_
    refine zh fun T hT => ?_
    refine zbT ?_
    clear hT T
    refine zbp ?_; intro b14
    refine zfK ?_
    refine zg fun T hT => ?_
    refine zfw ?_
    clear hT T
    refine zcV fun T hT => ?_
    refine zhq ?_
    refine ze ?_
    clear hT T
    refine zcV fun T hT => ?_
    refine zh9 ?_
    rintro _ _ ⟨N', _, _, rfl, rfl⟩
    refine zd ?_
    clear hT T
    refine zm ?_
    refine zbB ?_
    refine zn ?_
    refine zds ?_
    refine zae ?_
    refine zjJ fun T hT => ?_
    refine zkY ?_
    clear hT T
    refine zaF ?_
    refine zg fun T hT => ?_
    refine zfw ?_
    clear hT T
    refine zdn ?_
    refine zn ?_
    refine zdu ?_
    refine zbb fun T hT => ?_
    refine (CallV.part (CallV.fn (grNew_E okp2 h3)) byPart).mono ?_
    refine ze ?_
    clear hT T
    refine zG ?_
    refine zcU ?_
    refine zeF ?_
    exact zkB
end
open Go.RowKit Go.ChangeShapes Go.WideShapes Go.ChangeAt Go.Deep Go.Joins
set_option maxRecDepth 100000
def mactE : Enc MActP := ⟨mactL, 6, fun _ => rfl, by intro x v hv; simp [mactL] at hv; rcases hv with rfl | rfl | rfl | rfl | rfl | rfl <;> rfl⟩
def MActP.ok (x : MActP) : Prop := x.w < 256 ∧ x.u < 256
section
variable {H : Type} {enc : TypeId × Value → H} {W : World}
theorem mact_in {fuel : Nat} {cs : List Value} {x : DataW H × List MemPlace} (hx : DataW.trod enc Tryz.prog W 0 (fun _ => true) true fuel 85 cs = some x) (hlen : cs.length = 6) : ∃ y : MActP, cs = mactE.enc y ∧ y.ok := by
 obtain ⟨c0, c1, c2, c3, c4, c5, rfl⟩ : ∃ c0 c1 c2 c3 c4 c5, cs = [c0, c1, c2, c3, c4, c5] := by
  match cs, hlen with
  | [c0, c1, c2, c3, c4, c5], _ => exact ⟨c0, c1, c2, c3, c4, c5, rfl⟩
 obtain ⟨xs, n, _, rfl, hl, hxl, hf⟩ := DataW.trod_struct Tryz.underlying85 hx
 have k8 : (Tryz.prog).cellsOf 5 = 1 := by kernel_rfl
 have ki : (Tryz.prog).cellsOf 3 = 1 := by kernel_rfl
 match xs, hxl with
 | [y0, y1, y2, y3, y4, y5], _ =>
  have h0 := hf 0 _ rfl
  have h1 := hf 1 _ rfl
  have h2 := hf 2 _ rfl
  have h3 := hf 3 _ rfl
  have h4 := hf 4 _ rfl
  have h5 := hf 5 _ rfl
  obtain ⟨a0, e0, -, w0⟩ := DataW.trod_int Tryz.underlying5 (by simpa [k8] using h0)
  obtain ⟨a1, e1, -, w1⟩ := DataW.trod_int Tryz.underlying3 (by simpa [ki] using h1)
  obtain ⟨a2, e2, -, w2⟩ := DataW.trod_int Tryz.underlying3 (by simpa [ki] using h2)
  obtain ⟨a3, e3, -, w3⟩ := DataW.trod_int Tryz.underlying3 (by simpa [ki] using h3)
  obtain ⟨a4, e4, -, w4⟩ := DataW.trod_int Tryz.underlying3 (by simpa [ki] using h4)
  obtain ⟨a5, e5, -, w5⟩ := DataW.trod_int Tryz.underlying5 (by simpa [k8] using h5)
  simp at e0 e1 e2 e3 e4 e5
  have hu := wf_u8 w0
  have hu5 := wf_u8 w5
  unfold u8ok at hu hu5
  obtain ⟨n0, rfl⟩ : ∃ n0 : Nat, a0 = n0 := ⟨a0.toNat, by omega⟩
  obtain ⟨n5, rfl⟩ : ∃ n5 : Nat, a5 = n5 := ⟨a5.toNat, by omega⟩
  subst e0 e1 e2 e3 e4 e5
  exact ⟨⟨n0, a1, a2, a3, a4, n5⟩, rfl, by show n0 < 256; omega, by show n5 < 256; omega⟩
theorem macts_sl {base : Nat} {v : Value} {d : DataW H} {p : List MemPlace} (ho : Value.okWide Tryz.prog W .any base 116 v) (h : DataW.Trod enc Tryz.prog W 0 (fun _ => true) true 116 v d p) :
  ∃ l : List MActP, SlW W mactE v l ∧ ∀ x ∈ l, x.ok := slice_sl (P := Tryz.prog) (E := mactE) Tryz.underlying116 (by kernel_rfl) (by decide) ho h MActP.ok (fun fuel cs x hx hl => mact_in hx hl)
theorem mact_v {base : Nat} {v : Value} {d : DataW H} {p : List MemPlace} (ho : Value.okWide Tryz.prog W .any base 85 v) (h : DataW.Trod enc Tryz.prog W 0 (fun _ => true) true 85 v d p) :
  ∃ x : MActP, v = .agg (mactL x).toArray ∧ x.ok := by
 obtain ⟨cs, rfl, hs⟩ := okWide_struct Tryz.underlying85 ho
 have k6 : (Tryz.prog).cellsOf 85 = 6 := by kernel_rfl
 rw [k6] at hs
 obtain ⟨fuel, hf⟩ := h
 obtain ⟨l⟩ := cs
 obtain ⟨y, hy, hok⟩ := mact_in (cs := l) (by simpa [Value.cells] using hf) hs
 exact ⟨y, by rw [hy]; rfl, hok⟩
end
end Go.Proofs.YtalholahapcpkaaGreatDoor.Sw
