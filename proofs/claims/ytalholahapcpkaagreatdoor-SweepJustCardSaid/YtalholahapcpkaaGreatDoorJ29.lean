/- The walker and the contracts that the law needs, part 29. -/
import Derived.Test.YtalholahapcpkaaGreatDoorRows
import Derived.ProofKit
import Derived.OpenShut
import Derived.LaidMore
import Derived.Lay
import Derived.LaidHandle
import Derived.Test.YtalholahapcpkaaGreatDoorJ18
import Derived.Test.YtalholahapcpkaaGreatDoorJ21
import Derived.Test.YtalholahapcpkaaGreatDoorJ28
namespace Go.Proofs.YtalholahapcpkaaGreatDoor.Sw
open Go.Proofs.YtalholahapcpkaaGreatDoor renaming lo → qL, hi → qH
open Go.ChangeShapes Go.WideShapes Go.ChangeAt Go.RowKit
set_option linter.unusedVariables false
set_option linter.unusedSimpArgs false
set_option maxRecDepth 100000
def laidL : List (String × DataW Unit) := [("math/bits.deBruijn64tab", Rows.laid_math_bits_deBruijn64tab), ("commonage/head.widths", Rows.laid_commonage_head_widths)]
def tabZ : List Int := Lib.deBruijn64tab.map fun n => ((n : Nat) : Int)
def wdZ : List Int := wdL.map fun n => ((n : Nat) : Int)
theorem cells_of {W : World} {n t e f : Nat} {k : IntKind} {zs : List Int} {cs : Array Value} {p : List MemPlace} (ht : Tryz.prog.underlying t = some (.array n e)) (he : Tryz.prog.underlying e = some (.int k)) (hc : Tryz.prog.cellsOf e = 1) (hz : zs.length = n)
  (hd : DataW.trod (fun x : TypeId × Value => ()) Tryz.prog W 0 (fun _ => true) false f t cs.toList = some (.agg (zs.map fun n => .lit (.int k n)), p)) (r : Nat) (hr : r < n) : cs.toList[r]? = some (.int k (zs.getD r 0)) := by
 obtain ⟨xs, m, _, ex, _, hl, hel⟩ := DataW.trod_array ht hd
 have hE := hel r hr
 rw [hc, Nat.mul_one, List.getElem?_eq_getElem (by omega)] at hE
 obtain ⟨z, e1, e2, _⟩ := DataW.trod_int he hE
 have e3 : (xs.map (·.1)) = zs.map fun n => .lit (.int k n) := (DataW.agg.inj (Prod.mk.inj ex).1).symm
 have e4 : (xs.map (·.1))[r]? = (zs.map fun n => (DataW.lit (.int k n) : DataW Unit))[r]? := by rw [e3]
 rw [List.getElem?_map, List.getElem?_map, List.getElem?_eq_getElem (by omega : r < xs.length), List.getElem?_eq_getElem (by omega : r < zs.length), e2] at e4
 have hz : z = zs.getD r 0 := by
  simp only [Option.map_some, Option.some.injEq, DataW.lit.injEq, Lit.int.injEq, true_and] at e4
  rw [e4, List.getD, List.getElem?_eq_getElem (by omega : r < zs.length)]; rfl
 rw [← hz]
 have h0 : ((cs.toList.drop r).take 1)[0]? = some (.int k z) := by rw [e1]; rfl
 simpa using h0
theorem glob_of_laid {W : World} (h : laidMetH Tryz.prog laidL W) : Glob W := by
 rw [MakeChecks.laidMetH_plain _ _ _ (by kernel_rfl)] at h
 obtain ⟨ps, ⟨g0, t0, cs0, f0, p0, q0, hg0, ht0, hv0, hd0, ⟨g1, t1, cs1, f1, p1, q1, hg1, ht1, hv1, hd1, _, _⟩, _⟩, _, _⟩ := h
 obtain rfl := Option.some.inj ((show Tryz.prog.globalNamed "math/bits.deBruijn64tab" = some 1 by kernel_rfl).symm.trans hg0)
 obtain rfl := Option.some.inj ((show Tryz.prog.globalNamed "commonage/head.widths" = some 0 by kernel_rfl).symm.trans hg1)
 obtain rfl := Option.some.inj ((show (Tryz.prog.globals[1]?).map (·.type) = some 348 by kernel_rfl).symm.trans ht0)
 obtain rfl := Option.some.inj ((show (Tryz.prog.globals[0]?).map (·.type) = some 325 by kernel_rfl).symm.trans ht1)
 refine ⟨fun j hj => ?_, fun j n hn => ?_⟩
 ·have hj64 : j < 64 := hj
  have h1 := cells_of (zs := tabZ) Tryz.underlying348 Tryz.underlying5 (by kernel_rfl) (by kernel_rfl) hd0 j hj64
  have h2 := World.var?_cell hg0 hv0 j
  have h3 : tabZ.getD j 0 = ((Lib.deBruijn64tab.getD j 0 : Nat) : Int) := by
   unfold tabZ
   simp only [List.getD_eq_getElem?_getD, List.getElem?_map]
   cases Lib.deBruijn64tab[j]? <;> rfl
  rw [h2, ← h3]
  simpa using h1
 ·have hj5 : j < 5 := (List.getElem?_eq_some_iff.1 hn).1
  have h1 := cells_of (zs := wdZ) Tryz.underlying325 Tryz.underlying3 (by kernel_rfl) (by kernel_rfl) hd1 j hj5
  have h2 := World.var?_cell hg1 hv1 j
  have h3 : wdZ.getD j 0 = ((n : Nat) : Int) := by
   unfold wdZ
   simp only [List.getD_eq_getElem?_getD, List.getElem?_map, hn]; rfl
  rw [h2, ← h3]
  simpa using h1
theorem door_met (os : Os) (args : Array Value) : laidMetH Tryz.prog laidL ((World.doorLaid Tryz.prog 400 os).forCall (fun _ _ => 0) ⟨#[], args, []⟩).memory :=
 laidMetH_of_parts3 (fuel := 8) (laidMet_of_run' 8 (by kernel_rfl) (by kernel_rfl)) (by kernel_rfl) (by kernel_rfl)
open Go.RowKit Go.ChangeShapes Go.WideShapes Go.ChangeAt Go.Deep Go.Joins
set_option maxRecDepth 100000
theorem weightsAll_mem {H : Type} {P : Program} {e : TypeId} {n : Nat} {d : DataW H} : ∀ {l : List (DataW H)}, d ∈ l → n ∈ d.weights P e → n ∈ DataW.weightsAll P e l
 | a :: l, h, hn => by
  simp only [DataW.weightsAll, List.mem_append]
  rcases List.mem_cons.1 h with rfl | h
  ·exact .inl hn
  ·exact .inr (weightsAll_mem h hn)
theorem slice_trZ {P : Program} {α : Type} {E : Enc α} {H : Type} {enc : TypeId × Value → H} {W : World} {t e : TypeId} (ht : P.underlying t = some (.slice e)) (hk : P.cellsOf e = E.sz) (hk0 : 0 < E.sz) {fuel : Nat} {cs : List Value} {x : DataW H × List MemPlace}
  (hf : DataW.trod enc P W 0 (fun _ => true) true fuel t cs = some x) (hz : ∀ n ∈ x.1.weights P t, n ≤ reachBytes) (Ok : α → Prop)
  (hR : ∀ fuel cs x, DataW.trod enc P W 0 (fun _ => true) true fuel e cs = some x → (∀ n ∈ x.1.weights P e, n ≤ reachBytes) → cs.length = E.sz → ∃ y, cs = E.enc y ∧ Ok y) :
  ∃ a n c ys, cs = [.slice a n c] ∧ SlW W E (.slice a n c) ys ∧ (∀ y ∈ ys, Ok y) ∧ ys.length * P.bytesOf e ≤ reachBytes := by
 rcases open_slice ht hf with ⟨hcs, _⟩ | ⟨a', len', cap', m, n, D, Pl, hcs, _, hl, hm, hmm, hxd, hx⟩
 ·exact ⟨none, 0, 0, [], hcs, SlW.nil W E, (fun y hy => by cases hy), by simp⟩
 ·simp only [if_true] at hmm
  subst hmm
  subst hxd
  simp only [DataW.weights, ht] at hz
  have key : ∀ i, i < len' → ∃ y, Ok y ∧ ∀ j, j < E.sz → W.cell? (a'.add (i * E.sz + j)) = (E.enc y)[j]? := by
   intro i hi
   obtain ⟨cs', h1, h2⟩ := hx i (by omega)
   rw [hk] at h1
   obtain ⟨_, hlen, hat⟩ := World.cells?_some h1
   obtain ⟨y, rfl, hy⟩ := hR _ _ _ h2 (fun n hn => hz n (by
    refine List.mem_cons_of_mem _ (List.mem_append_left _ (weightsAll_mem (d := D i) ?_ hn))
    exact List.mem_map_of_mem (List.mem_range.2 hi))) hlen
   exact ⟨y, hy, fun j hj => by rw [← add_add]; exact hat j hj⟩
  obtain ⟨ys, hys, hall⟩ := exists_list len' (fun i y => Ok y ∧ ∀ j, j < E.sz → W.cell? (a'.add (i * E.sz + j)) = (E.enc y)[j]?) key
  subst hys
  have hspot : 0 < ys.length → ∃ b off, a' = ⟨b, off, none⟩ := by
   intro hpos
   obtain ⟨b, off, spot⟩ := a'
   obtain ⟨y0, _, hc0⟩ := key 0 hpos
   have h1 := hc0 0 hk0
   rw [List.getElem?_eq_getElem (by rw [E.len]; exact hk0)] at h1
   have hsp : spot = none := by simpa [Addr.add] using World.cell?_spot h1
   subst hsp
   exact ⟨b, off, rfl⟩
  refine ⟨some a', ys.length, _, ys, hcs, ⟨⟨some a', _, rfl, hl, hm, fun hne => ?_⟩, ?_⟩, ?_, ?_⟩
  ·obtain ⟨b, off, rfl⟩ := hspot (List.length_pos_iff.2 hne)
   exact ⟨b, off, rfl⟩
  ·intro i y hy j u hu
   have hi := (List.getElem?_eq_some_iff.1 hy).1
   obtain ⟨b, off, rfl⟩ := hspot (by omega)
   have hj : j < E.sz := by have := (List.getElem?_eq_some_iff.1 hu).1; rwa [E.len] at this
   have := (hall i y hy).2 j hj
   rw [add_mk, hu] at this
   simpa [adr] using this
  ·intro y hy
   obtain ⟨i, hi⟩ := List.getElem?_of_mem hy
   exact (hall i y hi).1
  ·have := hz _ (List.mem_cons_self ..)
   simp only [List.length_map, List.length_range] at this
   refine Nat.le_trans (Nat.mul_le_mul_right _ ?_) this
   omega
section
variable {H : Type} {enc : TypeId × Value → H} {W : World}
def ActP.ok (x : ActP) : Prop := x.w < 256 ∧ i64ok x.n
theorem act_in {fuel : Nat} {cs : List Value} {x : DataW H × List MemPlace} (hx : DataW.trod enc Tryz.prog W 0 (fun _ => true) true fuel 52 cs = some x) (hlen : cs.length = 2) : ∃ y : ActP, cs = actE.enc y ∧ y.ok := by
 obtain ⟨c0, c1, rfl⟩ : ∃ c0 c1, cs = [c0, c1] := by
  match cs, hlen with
  | [c0, c1], _ => exact ⟨c0, c1, rfl⟩
 obtain ⟨xs, n, _, rfl, hl, hxl, hf⟩ := DataW.trod_struct Tryz.underlying52 hx
 have k8 : (Tryz.prog).cellsOf 5 = 1 := by kernel_rfl
 have ki : (Tryz.prog).cellsOf 3 = 1 := by kernel_rfl
 match xs, hxl with
 | [y0, y1], _ =>
  have h0 := hf 0 _ rfl
  have h1 := hf 1 _ rfl
  obtain ⟨a0, e0, -, w0⟩ := DataW.trod_int Tryz.underlying5 (by simpa [k8] using h0)
  obtain ⟨a1, e1, -, w1⟩ := DataW.trod_int Tryz.underlying3 (by simpa [ki] using h1)
  simp at e0 e1
  have hu := wf_u8 w0
  unfold u8ok at hu
  obtain ⟨n0, rfl⟩ : ∃ n0 : Nat, a0 = n0 := ⟨a0.toNat, by omega⟩
  subst e0 e1
  exact ⟨⟨n0, a1⟩, rfl, by show n0 < 256; omega, wf_i64 w1⟩
theorem acts_sl {base : Nat} {v : Value} {d : DataW H} {p : List MemPlace} (ho : Value.okWide Tryz.prog W .any base 26 v) (h : DataW.Trod enc Tryz.prog W 0 (fun _ => true) true 26 v d p) :
  ∃ l : List ActP, SlW W actE v l ∧ ∀ x ∈ l, x.ok := slice_sl (P := Tryz.prog) (E := actE) Tryz.underlying26 (by kernel_rfl) (by decide) ho h ActP.ok (fun fuel cs x hx hl => act_in hx hl)
theorem tn_in {fuel : Nat} {cs : List Value} {x : DataW H × List MemPlace} (hx : DataW.trod enc Tryz.prog W 0 (fun _ => true) true fuel 141 cs = some x) (hlen : cs.length = 4) : ∃ y : Tn, cs = tnE.enc y ∧ True := by
 obtain ⟨c0, c1, c2, c3, rfl⟩ : ∃ c0 c1 c2 c3, cs = [c0, c1, c2, c3] := by
  match cs, hlen with
  | [c0, c1, c2, c3], _ => exact ⟨c0, c1, c2, c3, rfl⟩
 obtain ⟨xs, n, _, rfl, hl, hxl, hf⟩ := DataW.trod_struct Tryz.underlying141 hx
 have ki : (Tryz.prog).cellsOf 3 = 1 := by kernel_rfl
 match xs, hxl with
 | [y0, y1, y2, y3], _ =>
  have h0 := hf 0 _ rfl
  have h1 := hf 1 _ rfl
  have h2 := hf 2 _ rfl
  have h3 := hf 3 _ rfl
  obtain ⟨a0, e0, -, w0⟩ := DataW.trod_int Tryz.underlying3 (by simpa [ki] using h0)
  obtain ⟨a1, e1, -, w1⟩ := DataW.trod_int Tryz.underlying3 (by simpa [ki] using h1)
  obtain ⟨a2, e2, -, w2⟩ := DataW.trod_int Tryz.underlying3 (by simpa [ki] using h2)
  obtain ⟨a3, e3, -, w3⟩ := DataW.trod_int Tryz.underlying3 (by simpa [ki] using h3)
  simp at e0 e1 e2 e3
  subst e0 e1 e2 e3
  exact ⟨⟨a0, a1, a2, a3⟩, rfl, trivial⟩
theorem cfg_v {base : Nat} {v : Value} {d : DataW H} {p : List MemPlace} (ho : Value.okWide Tryz.prog W .any base 25 v) (h : DataW.Trod enc Tryz.prog W 0 (fun _ => true) true 25 v d p) (hz : ∀ n ∈ d.weights Tryz.prog 25, n ≤ reachBytes) :
  ∃ (c : Cfg) (vc vt : Value), v = cfgV c vc vt ∧ SlW W iE vc c.cl ∧ CfgR W [] c vc vt ∧ vc.oneCell' = true := by
 obtain ⟨cs, rfl, hs⟩ := okWide_struct Tryz.underlying25 ho
 have k6 : (Tryz.prog).cellsOf 25 = 6 := by kernel_rfl
 rw [k6] at hs
 obtain ⟨fuel, hf⟩ := h
 obtain ⟨c0, c1, c2, c3, c4, c5, hcs⟩ : ∃ c0 c1 c2 c3 c4 c5, cs = [c0, c1, c2, c3, c4, c5].toArray := by
  obtain ⟨l⟩ := cs
  match l, hs with
  | [c0, c1, c2, c3, c4, c5], _ => exact ⟨c0, c1, c2, c3, c4, c5, rfl⟩
 subst hcs
 obtain ⟨xs, n, _, hx, hl, hxl, hfl⟩ := DataW.trod_struct Tryz.underlying25 hf
 obtain ⟨rfl, rfl⟩ := Prod.mk.inj hx
 have ks : (Tryz.prog).cellsOf 22 = 1 := by kernel_rfl
 have kt : (Tryz.prog).cellsOf 23 = 1 := by kernel_rfl
 have ki : (Tryz.prog).cellsOf 3 = 1 := by kernel_rfl
 have b1 : (Tryz.prog).bytesOf 3 = 8 := by kernel_rfl
 have b2 : (Tryz.prog).bytesOf 141 = 32 := by kernel_rfl
 match xs, hxl with
 | [y0, y1, y2, y3, y4, y5], _ =>
  have h0 := hfl 0 _ rfl
  have h1 := hfl 1 _ rfl
  have h2 := hfl 2 _ rfl
  have h3 := hfl 3 _ rfl
  have h4 := hfl 4 _ rfl
  have h5 := hfl 5 _ rfl
  simp only [DataW.weights, Tryz.underlying25] at hz
  obtain ⟨a0, n0, m0, ys, e0, hS, _, hb⟩ := slice_trZ (P := Tryz.prog) (E := iE) (x := y0) Tryz.underlying22 (by kernel_rfl) (by decide) (by simpa [ks, Value.cells] using h0) (fun n hn => hz n (DataW.weights_mem_each (j := 0) (t := 22) (d := y0.1) rfl rfl n hn)) i64ok (fun fuel cs x hx _ hl => int_in hx)
  obtain ⟨a1, e1, -, w1⟩ := DataW.trod_int Tryz.underlying3 (by simpa [ki, Value.cells] using h1)
  obtain ⟨a2, n2, m2, ts, e2, hT, _, hb2⟩ := slice_trZ (P := Tryz.prog) (E := tnE) (x := y2) Tryz.underlying23 (by kernel_rfl) (by decide) (by simpa [kt, Value.cells] using h2) (fun n hn => hz n (DataW.weights_mem_each (j := 2) (t := 23) (d := y2.1) rfl rfl n hn)) (fun _ => True) (fun fuel cs x hx _ hl => tn_in hx hl)
  obtain ⟨a3, e3, -, w3⟩ := DataW.trod_int Tryz.underlying3 (by simpa [ki, Value.cells] using h3)
  obtain ⟨a4, e4, -, w4⟩ := DataW.trod_int Tryz.underlying3 (by simpa [ki, Value.cells] using h4)
  obtain ⟨a5, e5, -, w5⟩ := DataW.trod_int Tryz.underlying3 (by simpa [ki, Value.cells] using h5)
  simp [Value.cells, ks, kt, ki] at e0 e1 e2 e3 e4 e5
  subst e0 e1 e2 e3 e4 e5
  rw [b1] at hb
  rw [b2] at hb2
  unfold reachBytes at hb hb2
  exact ⟨⟨ys, a1, ts, a3, a4, a5⟩, _, _, rfl, hS, ⟨Sli.old hS, Sli.old hT, rfl, rfl, by show ys.length ≤ _; omega, by show ts.length ≤ _; omega⟩, rfl⟩
end
end Go.Proofs.YtalholahapcpkaaGreatDoor.Sw
