/- The walker and the contracts that the law needs, part 33. -/
import Derived.Test.YtalholahapcpkaaGreatDoorD1
import Derived.Test.YtalholahapcpkaaGreatDoorJ30
import Derived.Test.YtalholahapcpkaaGreatDoorJ32
namespace Go.Proofs.YtalholahapcpkaaGreatDoor.Sw
open Go.Proofs.YtalholahapcpkaaGreatDoor renaming lo → qL, hi → qH
open Go.RowKit
set_option linter.unusedVariables false
set_option linter.unusedSimpArgs false
set_option maxRecDepth 10000
structure RcL where
 i : Nat
 out : List Bool
structure RcO where
 out : List Bool
 mr : Bool
structure RcI where
 i : Nat
 out : List Bool
 mr : Bool
theorem refsN_le {x : List Int} {y : SlotP} : refsN x y ≤ 63 := by
 unfold refsN
 cases hh : headP x y with
 | none => exact (by decide : (0 : Int) ≤ 63)
 | some q =>
  have hm := (lies_of (headP_of hh).2).1
  simp only [mayH, decide_eq_true_eq] at hm
  dsimp only
  omega
theorem set_id {l : List Bool} {i : Nat} {b : Bool} (h : l[i]? = some b) : l.set i b = l := by
 apply List.ext_getElem?
 intro j
 by_cases e : i = j
 ·subst e; rw [List.getElem?_set_self (lt_of_get h), h]
 ·rw [List.getElem?_set_ne e]
section
variable {w0 : World} {D F : Heap} {v : PlV} {g : PlG} {W : MwP} {z : KwV}
set_option maxHeartbeats 8000000 in
theorem rkReach_K (hW : KwD w0 D v g z W) :
  Call Tryz.prog w0 49 [.agg (kwL v g z).toArray] (D ++ F) (fun r H' => ∃ (out : List Bool) (o : Own), out.length = g.slots ∧ (∀ s, s < g.slots → (out[s]? = some true ↔ RchM g W s)) ∧ oOk boE out o ∧ r = oV o out.length ∧ H' = oH boE 4 out o ++ (D ++ F)) := by
 have q1 := hW.B.p.oL
 have q2 := hW.B.p.oF
 have q3 := hW.B.p.oM
 have q4 := hW.B.p.oC
 have q5 := hW.B.m.o
 have q6 := hW.oT
 have q7 := hW.oN
 have hT := hW.T
 have hN := hW.N
 have hNl := hW.w.N
 have hL := hW.B.p.L
 have hll := L_len (g := g)
 have ok := hW.f.ok
 have hsl := ok.slots
 have htl : (W.T.map docE).length = W.T.length := List.length_map ..
 have h1024 := hW.st.1
 have hstt := hW.st.2
 have hrefs := fun A (s : Nat) (y : SlotP) (hy : g.L[s]? = some y) => rbRefs_K (w0 := w0) (F := A) hW.B hW.f hy hW.rf
 unfold boL at hrefs
 unfold kwL
 refine Call.enter1 (n := 139) (by kernel_rfl) Tryz.func49 rfl rfl rfl ?_
 refine zW ?_; intro b1
 refine zaM ?_
 refine za8 ?_
 refine zcP ?_
 refine zP ?_
 refine KL.e rfl (Eff.makeR (E := boE) (x0 := false) rfl rfl rfl rfl rfl rfl (by first | assumption | omega | (simp <;> fail) | (simp; omega))) ?_; rintro _ _ ⟨o16, ok16, rfl, rfl⟩
 refine za0 ?_
 rw [List.length_replicate, hll]
 rw [hll] at ok16
 refine zc1 ?_
 refine zaE ?_
 refine K.loopT (σ := RcL) [(1, _), (3, _)] (fun s kp_ => (4, .int .i64 (s.i : Nat)) :: kp_) (fun s => oH boE 4 s.out o16 ++ ((b1, cells [z.vr, .int .i64 ((0 : Nat) : Int), v.L, v.F, v.M, .int .i64 (g.words : Nat), v.C, z.vt, .int .i64 z.gens, z.vn] 92) :: (D ++ F))) (fun s => s.i ≤ W.T.length ∧ RcA g W s.i s.out ∧ oOk boE s.out o16) (fun s => W.T.length - s.i) (⟨0, List.replicate g.slots false⟩) bySub byPart (⟨Nat.zero_le _, RcA.nil, ok16⟩) ?_
 rintro ⟨i, out⟩ ⟨hi, hA, hok⟩
 dsimp only at hi hA hok ⊢
 have hol : g.slots = out.length := hA.len.symm
 by_cases hlt : i < W.T.length
 ·have hlt' : i < (W.T.map docE).length := by omega
  obtain ⟨e, he⟩ := get_of_lt hlt
  have hx : (W.T.map docE)[i]? = some (docE e) := by rw [List.getElem?_map, he]; rfl
  have hest := hstt e (List.mem_of_getElem? he)
  have hsb := hW.w.t e (List.mem_of_getElem? he)
  have hmes : W.T.length - (i + 1) < W.T.length - i := by omega
  by_cases h1 : e.st = 1
  ·have hde : docE e = e := if_pos h1
   rw [hde] at hx
   obtain ⟨b1', b2'⟩ := hsb h1
   have hr : rootSl g W i = some e.slot := by unfold rootSl; rw [he]; dsimp only; rw [if_pos h1]
   obtain ⟨s0, hs0⟩ : ∃ s0 : Nat, e.slot = s0 := ⟨e.slot.toNat, by omega⟩
   rw [hs0] at hr b1' b2'
   have hs0l : s0 < out.length := by omega
   obtain ⟨c0, hc0⟩ := get_of_lt hs0l
   obtain ⟨es, esl, eg⟩ := e
   dsimp only at h1 hs0
   subst h1 hs0
   have hge : ({ st := 1, slot := ((s0 : Nat) : Int), gen := eg } : EntP).slot ≥ 0 := by show ((s0 : Nat) : Int) ≥ 0; omega
   have hle : ({ st := 1, slot := ((s0 : Nat) : Int), gen := eg } : EntP).slot < ((out.length : Nat) : Int) := by show ((s0 : Nat) : Int) < _; omega
   refine zv ?_
   refine zft ?_
   refine za3 ?_
   refine zaL ?_
   refine zfa ?_
   refine zcO ?_
   refine zhO ?_
   refine KL.v rfl (Val.eqlBs rfl rfl) ?_
   refine zu ?_
   refine zaL ?_
   refine zdX ?_
   refine zaR ?_
   refine zdq ?_
   refine zm ?_
   refine zhu ?_
   refine zcy ?_
   refine z8 ?_
   refine zbn ?_
   refine zaL ?_
   refine zdX ?_
   refine zaR ?_
   refine zdq ?_
   refine zm ?_
   refine zhu ?_
   refine zkK ?_
   refine zaF ?_
   refine zcg ?_
   refine zgi ?_
   refine zbz ?_
   refine zf ?_
   refine zaL ?_
   refine zfa ?_
   refine zcO ?_
   refine zhu ?_
   refine zc0 ?_
   refine zgn ?_
   refine zgz ?_
   exact KE.again ⟨i + 1, out.set s0 true⟩ bySub byPart ⟨hlt, hA.put (by omega) hW.w hr, hok.set _ _⟩ hmes
  ·have hne := stB_ne1 hest h1
   rw [← (docE_st e).1] at hne
   have hr : rootSl g W i = none := by unfold rootSl; rw [he]; dsimp only; rw [if_neg h1]
   obtain ⟨de, hde⟩ : ∃ de, docE e = de := ⟨_, rfl⟩
   rw [hde] at hx hne
   refine zv ?_
   refine zft ?_
   refine za3 ?_
   refine zaL ?_
   refine zfa ?_
   refine zcO ?_
   refine zk3 ?_
   refine zgA ?_
   refine zn ?_
   refine zgA ?_
   refine zg5 ?_
   refine zhe ?_
   exact KE.again ⟨i + 1, out⟩ bySub byPart ⟨hlt, hA.skip (fun s h => by rw [hr] at h; cases h), hok⟩ hmes
 ·have hlt' : ¬ i < (W.T.map docE).length := by omega
  have hiT : i = W.T.length := by omega
  rw [hiT] at hA
  clear hi hlt hiT
  refine zv ?_
  refine zft ?_
  refine zdd ?_
  refine zbO ?_
  refine zgY ?_
  refine zaE ?_
  refine K.loopT (σ := RcL) [(1, _), (3, _)] (fun s kp_ => (5, .int .i64 (s.i : Nat)) :: kp_) (fun s => oH boE 4 s.out o16 ++ ((b1, cells [z.vr, .int .i64 ((0 : Nat) : Int), v.L, v.F, v.M, .int .i64 (g.words : Nat), v.C, z.vt, .int .i64 z.gens, z.vn] 92) :: (D ++ F))) (fun s => s.i ≤ g.slots ∧ RcA g W (W.T.length + s.i) s.out ∧ oOk boE s.out o16) (fun s => g.slots - s.i) (⟨0, out⟩) bySub byPart (⟨Nat.zero_le _, hA, hok⟩) ?_
  clear hA hok hol
  rintro ⟨i, out⟩ ⟨hi, hA, hok⟩
  dsimp only at hi hA hok ⊢
  have hol : g.slots = out.length := hA.len.symm
  by_cases hlt : i < g.slots
  ·have h1 : i < out.length := by omega
   have h2 : i < W.N.length := by omega
   obtain ⟨b, hb⟩ := get_of_lt h1
   obtain ⟨c, hc⟩ := get_of_lt h2
   have hmes : g.slots - (i + 1) < g.slots - i := by omega
   have hr : rootSl g W (W.T.length + i) = if c > 0 then some ((i : Nat) : Int) else none := by
    unfold rootSl
    rw [List.getElem?_eq_none (by omega), show W.T.length + i - W.T.length = i by omega, hc]; rfl
   cases b with
   | true =>
    have hsame : out.set i true = out := set_id hb
    refine zcx ?_
    refine zaa ?_
    refine zaQ ?_
    refine zdR ?_
    refine zgi ?_
    refine zhZ ?_
    refine zj ?_
    refine zep ?_
    refine zct ?_
    refine zC ?_
    refine zgn ?_
    refine zgz ?_
    exact KE.again ⟨i + 1, out⟩ bySub (by rw [hsame]; exact byPart) ⟨hlt, hA.skip (fun s h => by
     rw [hr] at h
     split at h
     ·have := Option.some.inj h
      have e : i = s := by omega
      subst e; exact hb
     ·cases h), hok⟩ hmes
   | false =>
    by_cases hpos : c > 0
    ·rw [if_pos hpos] at hr
     have hdc : decide (c > 0) = true := decide_eq_true hpos
     refine zcx ?_
     refine zaa ?_
     refine zaQ ?_
     refine zdR ?_
     refine zgi ?_
     refine zhZ ?_
     refine zj ?_
     refine zep ?_
     refine zu ?_
     refine zaQ ?_
     refine zaR ?_
     refine zdq ?_
     refine zcy ?_
     refine zcb ?_
     refine zn ?_
     refine zgn ?_
     refine zgz ?_
     exact KE.again ⟨i + 1, out.set i true⟩ bySub byPart ⟨hlt, hA.put (by omega) hW.w hr, hok.set _ _⟩ hmes
    ·rw [if_neg hpos] at hr
     have hsame : out.set i false = out := set_id hb
     refine zcx ?_
     refine zaa ?_
     refine zaQ ?_
     refine zdR ?_
     refine zgi ?_
     refine zhZ ?_
     refine zj ?_
     refine zep ?_
     refine zu ?_
     refine zaQ ?_
     refine zaR ?_
     refine zdq ?_
     refine zcy ?_
     refine zeL ?_
     refine zgn ?_
     refine zgz ?_
     exact KE.again ⟨i + 1, out⟩ bySub (by rw [hsame]; exact byPart) ⟨hlt, hA.skip (fun s h => by rw [hr] at h; cases h), hok⟩ hmes
  ·have hlt2 : ¬ i < out.length := by omega
   have hiT : i = g.slots := by omega
   rw [hiT] at hA
   clear hi hlt hiT
   refine ziA ?_
   refine zR ?_
   refine zcl ?_
   refine zn ?_
   refine zfg ?_
   refine zA ?_
   refine KL.nil (KE.next (K.seq (K.block ?_)))
   refine K.loopT (σ := RcO) [(1, _), (3, _)] (fun s kp_ => (6, .bool s.mr) :: kp_) (fun s => oH boE 4 s.out o16 ++ ((b1, cells [z.vr, .int .i64 ((0 : Nat) : Int), v.L, v.F, v.M, .int .i64 (g.words : Nat), v.C, z.vt, .int .i64 z.gens, z.vn] 92) :: (D ++ F))) (fun s => RcA g W (W.T.length + g.slots) s.out ∧ oOk boE s.out o16 ∧ (s.mr = false → ClN g W s.out g.slots)) (fun s => 2 * s.out.count false + (if s.mr then 1 else 0)) (⟨out, true⟩) bySub byPart (⟨hA, hok, fun h => (by cases h)⟩) ?_
   clear hA hok hol hlt2
   rintro ⟨out0, mr⟩ ⟨hA0, hok0, hcl0⟩
   dsimp only at hA0 hok0 hcl0 ⊢
   cases mr with
   | false =>
    refine zv ?_
    refine zfg ?_
    refine zbV ?_
    exact KE.fin (H' := oH boE 4 out0 o16 ++ (D ++ F)) byMarks rfl byRes byPart ⟨out0, o16, hA0.len, fun s hs => hA0.done hW.w (hcl0 rfl) s hs, hok0, by rw [hA0.len]; rfl, rfl⟩
   | true =>
    refine zv ?_
    refine zjV ?_
    refine zr ?_
    refine zaE ?_
    refine K.loopT (σ := RcI) [(1, _), (3, _)] (fun s kp_ => (7, .int .i64 (s.i : Nat)) :: (6, .bool s.mr) :: kp_) (fun s => oH boE 4 s.out o16 ++ ((b1, cells [z.vr, .int .i64 ((0 : Nat) : Int), v.L, v.F, v.M, .int .i64 (g.words : Nat), v.C, z.vt, .int .i64 z.gens, z.vn] 92) :: (D ++ F))) (fun s => s.i ≤ g.slots ∧ RdS g W out0 s.out s.mr ∧ oOk boE s.out o16 ∧ (s.mr = false → ClN g W s.out s.i)) (fun s => g.slots - s.i) (⟨0, out0, false⟩) bySub byPart (⟨Nat.zero_le _, ⟨hA0, fun h => (by cases h), fun _ => rfl⟩, hok0, fun _ s t i h => absurd h (Nat.not_lt_zero _)⟩) ?_
    rintro ⟨i, out, mr⟩ ⟨hi, hA, hok, hcl⟩
    dsimp only at hi hA hok hcl ⊢
    have hol : g.slots = out.length := hA.a.len.symm
    by_cases hlt : i < g.slots
    ·have h1 : i < out.length := by omega
     obtain ⟨b, hb⟩ := get_of_lt h1
     have hmes : g.slots - (i + 1) < g.slots - i := by omega
     cases b with
     | false =>
      refine zcx ?_
      refine zjw ?_
      refine zep ?_
      refine zbA ?_
      refine zfW ?_
      refine zjE ?_
      refine ziL ?_
      refine zhR ?_
      refine zf ?_
      refine zcK ?_
      exact KE.again ⟨i + 1, out, mr⟩ bySub byPart ⟨hlt, hA, hok, fun h s t j hs hst hr => by
       rcases Nat.lt_or_ge s i with hl | hl
       ·exact hcl h s t j hl hst hr
       ·have : s = i := by have : s < i + 1 := hs; omega
        subst this
        rw [hb] at hst; cases hst⟩ hmes
     | true =>
      obtain ⟨y, hy⟩ := L_ex hlt
      have hrl := fun A => hrefs A i y hy
      have hmem := fun (k : Nat) (u : Int) => ref_list (k := k) (v := u) ok hW.w hW.rf hy
      have hin := fun (t : Nat) (j : Int) => ref_in (t := t) (i := j) hW.w hy
      have hri := hA.a.ok i hb
      obtain ⟨l, hl⟩ : ∃ l, refsL W.x g.slots y (refsN W.x y).toNat = l := ⟨_, rfl⟩
      have hlb : l.length ≤ 4294967296 := by
       rw [← hl, refsL_len]
       have h1 := refsN_le (x := W.x) (y := y)
       omega
      simp only [hl] at hrl hmem hin
      refine zcx ?_
      refine zjw ?_
      refine zep ?_
      refine zaG ?_
      refine zaM ?_
      refine zz fun T hT => ?_
      refine (CallV.part (CallV.fn (hrl _)) byPart).mono ?_
      rintro _ _ ⟨o1, e1, ok1, rfl, rfl⟩
      refine zd ?_
      clear hT T
      refine zbw ?_
      refine zaE ?_
      refine K.loopT (σ := RcI) [(1, _), (3, _), (7, _), (8, _)] (fun s kp_ => (10, .int .i64 (s.i : Nat)) :: (6, .bool s.mr) :: kp_) (fun s => oH boE 4 s.out o16 ++ (oH iE 3 l o1 ++ ((b1, cells [z.vr, .int .i64 ((0 : Nat) : Int), v.L, v.F, v.M, .int .i64 (g.words : Nat), v.C, z.vt, .int .i64 z.gens, z.vn] 92) :: (D ++ F)))) (fun s => s.i ≤ l.length ∧ RdS g W out0 s.out s.mr ∧ oOk boE s.out o16 ∧ (s.mr = false → ClN g W s.out i ∧ ∀ (j : Nat) (t : Nat), j < s.i → l[j]? = some ((t : Nat) : Int) → s.out[t]? = some true)) (fun s => l.length - s.i) (⟨0, out, mr⟩) bySub byPart (⟨Nat.zero_le _, hA, hok, fun h => ⟨hcl h, fun j t hj => absurd hj (Nat.not_lt_zero _)⟩⟩) ?_
      clear hA hok hcl hol hb h1
      rintro ⟨k, out, mr⟩ ⟨hk, hA, hok, hcl⟩
      dsimp only at hk hA hok hcl ⊢
      have hol : g.slots = out.length := hA.a.len.symm
      by_cases hkl : k < l.length
      ·obtain ⟨u, hu⟩ := get_of_lt hkl
       have hmes2 : l.length - (k + 1) < l.length - k := by omega
       by_cases hu0 : u ≥ 0
       ·obtain ⟨t, rfl⟩ : ∃ t : Nat, u = t := ⟨u.toNat, by omega⟩
        obtain ⟨hro, htb⟩ := hmem k _ hu hu0
        have ht1 : t < out.length := by omega
        obtain ⟨b, hb⟩ := get_of_lt ht1
        cases b with
        | false =>
         refine zcx ?_
         refine zed ?_
         refine zep ?_
         refine zes ?_
         refine zaa ?_
         refine zen ?_
         refine zm ?_
         refine zen ?_
         refine zbe ?_
         refine z7 ?_
         refine zbI ?_
         refine zdQ ?_
         refine zgn ?_
         refine zc3 ?_
         refine zbE ?_
         refine zbq ?_
         exact KE.again ⟨k + 1, out.set t true, true⟩ bySub byPart ⟨hkl, hA.put (.edge hri hro) hb, hok.set _ _, fun h => (by cases h)⟩ hmes2
        | true =>
         refine zcx ?_
         refine zed ?_
         refine zep ?_
         refine zes ?_
         refine zaa ?_
         refine zen ?_
         refine zm ?_
         refine zen ?_
         refine zbQ ?_
         refine zC ?_
         refine zgy ?_
         exact KE.again ⟨k + 1, out, mr⟩ bySub byPart ⟨hkl, hA, hok, fun h => ⟨(hcl h).1, fun j t' hj ht' => by
          rcases Nat.lt_or_ge j k with hl' | hl'
          ·exact (hcl h).2 j t' hl' ht'
          ·have : j = k := by have : j < k + 1 := hj; omega
           subst this
           rw [hu] at ht'
           have e : t = t' := by have := Option.some.inj ht'; omega
           subst e; exact hb⟩⟩ hmes2
       ·refine zhP ?_
        refine zj ?_
        refine za6 ?_
        refine zE ?_
        refine zed ?_
        refine zep ?_
        refine zaJ ?_
        refine zgA ?_
        refine zhe ?_
        exact KE.again ⟨k + 1, out, mr⟩ bySub byPart ⟨hkl, hA, hok, fun h => ⟨(hcl h).1, fun j t' hj ht' => by
         rcases Nat.lt_or_ge j k with hl' | hl'
         ·exact (hcl h).2 j t' hl' ht'
         ·have : j = k := by have : j < k + 1 := hj; omega
          subst this
          rw [hu] at ht'
          have := Option.some.inj ht'
          omega⟩⟩ hmes2
      ·have hkl' : k = l.length := by omega
       refine ziA ?_
       refine zR ?_
       refine zbO ?_
       refine zbq ?_
       exact KE.again ⟨i + 1, out, mr⟩ bySub byPart ⟨hlt, hA, hok, fun h s t j hs hst hr => by
        rcases Nat.lt_or_ge s i with hl' | hl'
        ·exact (hcl h).1 s t j hl' hst hr
        ·have : s = i := by have : s < i + 1 := hs; omega
         subst this
         obtain ⟨k', hk'⟩ := hin t j hr
         exact (hcl h).2 k' t (by rw [hkl']; exact lt_of_get hk') hk'⟩ hmes
    ·have hlt2 : ¬ i < out.length := by omega
     have hiT : i = g.slots := by omega
     subst hiT
     refine ziA ?_
     refine zR ?_
     refine zbO ?_
     refine zbY ?_
     exact KE.again ⟨out, mr⟩ bySub byPart ⟨hA.a, hok, hcl⟩ (by
      cases mr with
      | true => have := hA.c rfl; show 2 * out.count false + 1 < 2 * out0.count false + 1; omega
      | false => have := hA.e rfl; subst this; show 2 * out.count false + 0 < 2 * out.count false + 1; omega)
end
open Go.RowKit
set_option maxRecDepth 10000
theorem mmade_any {w0 : World} {F : Heap} {c : Cfg} {vc vt : Value} (hG : Glob w0) (hR : CfgR w0 F c vc vt) (hok : okM c = true) (hC : Sli w0 [] iE vc c.cl) (hvc : vc.oneCell' = true) :
  ∃ (g : PlG) (long nw : Nat) (S : MsP), S.m = newM g nw false ∧ S.k = S.m ∧ ((nw : Nat) : Int) = c.workers ∧ nw ≤ 8 ∧ g = gOf c 0 ∧ ∀ A, Part A F → Call Tryz.prog w0 32 [cfgV c vc vt] A
   (fun r H' => ∃ X : WmM, WmR w0 g long 1 X S ∧ r = .tuple [.agg (wmL g long X S.k).toArray, .bool true].toArray ∧ H' = wmH X ++ A) := by
 have hok' := hok
 unfold okM okC at hok'
 simp only [Bool.and_eq_true, decide_eq_true_eq] at hok'
 have hcfg := cfg_ok hok'.1.2.2
 have hwk := hcfg.workers
 refine ⟨gOf c 0, c.grey.toNat, c.workers.toNat, freshM (gOf c 0) (capsP c).toNat c.workers.toNat, rfl, rfl, by omega, by omega, rfl, fun A hp => (mmade_K (Dc := []) (F := A) hG (hR.part hp) hok hC hvc).mono ?_⟩
 rintro _ _ ⟨X, hX, rfl, rfl⟩
 exact ⟨X, hX, rfl, rfl⟩
structure LmA where
 i : Nat
 X : WmM
 S : MsP
structure LmB where
 i : Nat
 k : MkM
 m : MaP
structure LmC where
 i : Nat
structure LmW where
 i : Nat
 o : Own
theorem act_idle {g : PlG} {long : Nat} {S : MsP} {a : MActP} (h : S.m.act = false) : (actS2 g long S a).m = S.m := by unfold actS2; exact actK_idle h
theorem act_same {g : PlG} {long : Nat} {S : MsP} {a : MActP} (h : S.k = S.m) : (actS2 g long S a).k = (actS2 g long S a).m := by unfold actS2; dsimp only; rw [h]
theorem start_new {g : PlG} {nw : Nat} {b : Bool} : startM g (newM g nw b) = newM g nw true := by
 unfold startM
 rw [show (newM g nw b).hs.length - 1 = nw from by simp [newM]]
theorem start_of {g : PlG} {m : MaP} {nw : Nat} (h : m.hs.length = nw + 1) : startM g m = newM g nw true := by
 unfold startM
 rw [show m.hs.length - 1 = nw from by omega]
theorem hand_new {g : PlG} {nw : Nat} {b : Bool} {hd : Int} : handI (newM g nw b) hd = hand0 := by
 unfold handI
 split
 ·show ((List.replicate (nw + 1) hand0)[hd.toNat]?).getD hand0 = hand0
  rw [List.getElem?_replicate]
  split <;> rfl
 ·rfl
theorem C_new {g : PlG} {nw : Nat} {b : Bool} {s : Nat} (hs : s < g.slots) : (newM g nw b).C[s]? = some 0 := by
 show (List.replicate g.slots (0 : Int))[s]? = some 0
 rw [List.getElem?_replicate, if_pos hs]
theorem done_idle {g : PlG} {W : MwP} {m : MaP} (h : m.act = false) : doneM g W m = false := by unfold doneM; rw [h]; rfl
section
variable {w0 : World} {g : PlG} {long nf : Nat} {X : WmM} {S : MsP} {k : MkM} {W : MwP} {m kk : MaP} {F : Heap} {kb : Nat}
theorem mReach_K (h : WmR w0 g long nf X S) : Call Tryz.prog w0 49 [.agg (kwL X.v g X.z).toArray] (wmH X ++ F)
  (fun r H' => ∃ (out : List Bool) (o : Own), out.length = g.slots ∧ (∀ s, s < g.slots → (out[s]? = some true ↔ RchM g S.W s)) ∧ oOk boE out o ∧ r = oV o out.length ∧ H' = oH boE 4 out o ++ (wmH X ++ F)) := by
 refine Call.post (Call.part (rkReach_K (F := markH X.k X.B.p ++ (planH X.B.p ++ (seenH X.B X.T X.N ++ F))) h.W) (by rw [wmH_app]; exact byPart)) ?_
 rintro _ _ ⟨out, o, h1, h2, h3, rfl, rfl⟩
 exact ⟨_, ⟨out, o, h1, h2, h3, rfl, rfl⟩, by rw [wmH_app]; exact byPart⟩
theorem mHelp_no (hG : Glob w0) (h : WmR w0 g long nf (setk X k) ⟨W, m, kk⟩) (hkb : k.b = kb) (ha : m.act = false) : Call Tryz.prog w0 38 [.pointer (some ⟨kb, 0, none⟩)] (wmH (setk X k) ++ F)
  (fun r H' => r = .bool false ∧ WmK w0 g long nf X W m kk kb F H') := by
 have hh := mHelp_K (F := F) hG h hkb
 rw [help_idle ha] at hh
 exact hh
theorem mStep_no {hd v : Int} (hG : Glob w0) (h : WmR w0 g long nf (setk X k) ⟨W, m, kk⟩) (hkb : k.b = kb) (hv : 0 ≤ v ∧ v < 256) (ha : m.act = false) : Call Tryz.prog w0 37 [.pointer (some ⟨kb, 0, none⟩), .int .i64 hd, .int .u8 v] (wmH (setk X k) ++ F)
  (fun r H' => r = .bool false ∧ WmK w0 g long nf X W m kk kb F H') := by
 have hh := mStep_K (F := F) (hd := hd) hG h hkb hv
 rw [step_idle ha] at hh
 exact hh
theorem mDone_no (hG : Glob w0) (h : WmR w0 g long nf (setk X k) ⟨W, m, kk⟩) (hkb : k.b = kb) (ha : m.act = false) : Call Tryz.prog w0 39 [.pointer (some ⟨kb, 0, none⟩)] (wmH (setk X k) ++ F)
  (fun r H' => r = .bool false ∧ H' = wmH (setk X k) ++ F) := by
 have hh := mDone_K (F := F) hG h hkb
 rw [done_idle ha] at hh
 exact hh
theorem msame_E (hG : Glob w0) (h : WmR w0 g long nf X S) (he : S.k = S.m) : Call Tryz.prog w0 48 [.agg (wmL g long X S.k).toArray] (wmH X ++ F) (fun r H' => r = .bool true ∧ H' = wmH X ++ F) := by
 obtain ⟨W, m, kk⟩ := S
 dsimp only at he h ⊢
 subst he
 exact msame_K hG h
theorem mKStart_K (h : WmR w0 g long nf X ⟨W, m, kk⟩) : Call Tryz.prog w0 47 [.agg (kmL X.v g long X.q kk).toArray, .agg (kwL X.v g X.z).toArray] (wmH X ++ F)
  (fun r H' => ∃ (q' : KmV) (N : Heap), WmR w0 g long nf ⟨X.B, X.T, X.N, X.k, X.v, X.z, q', N ++ X.D⟩ ⟨W, m, startM g kk⟩ ∧ r = .agg (kmL X.v g long q' (startM g kk)).toArray ∧ H' = wmH ⟨X.B, X.T, X.N, X.k, X.v, X.z, q', N ++ X.D⟩ ++ F) := by
 refine Call.post (Call.part (rkStart_K (F := markH X.k X.B.p ++ (planH X.B.p ++ (seenH X.B X.T X.N ++ F))) h.okg h.K h.k h.W) (by rw [wmH_app]; exact byPart)) ?_
 rintro _ _ ⟨q', N, hK, rfl, rfl⟩
 have h9 := h.k.hs
 have hn := h.n
 have hwd := h.wd
 have hst := start_left (W := W) h.okg (kk.hs.length - 1)
 dsimp only at h9 hn
 refine ⟨wmH ⟨X.B, X.T, X.N, X.k, X.v, X.z, q', N ++ X.D⟩ ++ F, ⟨q', N, ⟨h.eg, h.fl, h.el, h.p, h.ok, h.R, h.m, new_ok h.lg.1 (by omega), h.lg, h.W.part byPart, hK, h.t, h.mem, h.lm, ?_, h.n, h.wd⟩, rfl, rfl⟩, by simp only [wmH_app, List.append_assoc]; exact byPart⟩
 show 0 + leftM g W (newM g (kk.hs.length - 1) true) ≤ _
 omega
end
open Go.RowKit
set_option maxRecDepth 10000
section
variable {w0 : World} {g : PlG} {v : PlV} {vr : Value} {R : List RwD} {D F : Heap}
theorem rbHead_E {s : Int} (hB : BoD w0 D v vr g R) (ok : PlOk g) (hno : ¬ inS g s) :
  Call Tryz.prog w0 158 [.agg (boL v g vr 0).toArray, .int .i64 s] (D ++ F) (fun r H' => r = .tuple [.agg [.int .i64 0, .int .i64 0, .int .i64 0].toArray, .int .i64 2].toArray ∧ H' = D ++ F) := by
 have hhas := fun A => rHas_K (w0 := w0) (D := D) (F := A) (n := s) hB.p ok
 have hdn : decide (0 ≤ s ∧ s < ((g.slots : Nat) : Int)) = false := decide_eq_false hno
 rw [hdn] at hhas
 have ho := hB.m.o
 have q1 := hB.p.oL
 have q2 := hB.p.oF
 have q3 := hB.p.oM
 have q4 := hB.p.oC
 unfold boL
 unfold plL at hhas
 refine Call.enter2 (n := 32) (by kernel_rfl) Tryz.func158 rfl rfl rfl ?_
 refine zcX ?_; intro b2 b4
 refine zeO fun T hT => ?_
 refine zip ?_
 refine ze ?_
 clear hT T
 refine zat ?_
 exact zdp
theorem rbfield_E {s i : Int} {ref : Bool} (hB : BoD w0 D v vr g R) (ok : PlOk g) (hno : ¬ inS g s) :
  Call Tryz.prog w0 163 [.agg (boL v g vr 0).toArray, .int .i64 s, .int .i64 i, .bool ref] (D ++ F) (fun r H' => r = .int .i64 2 ∧ H' = D ++ F) := by
 have hhd := fun A => rbHead_E (w0 := w0) (D := D) (F := A) hB ok hno
 have ho := hB.m.o
 have q1 := hB.p.oL
 have q2 := hB.p.oF
 have q3 := hB.p.oM
 have q4 := hB.p.oC
 unfold boL at *
 refine zic ?_
 refine zW ?_; intro b4
 refine zz fun T hT => ?_
 refine (CallV.part (CallV.fn (hhd _)) byPart).mono ?_
 refine ze ?_
 clear hT T
 refine zao ?_; intro b9
 refine zcU ?_
 exact zar
theorem rbRef_E {s i : Int} (hB : BoD w0 D v vr g R) (ok : PlOk g) (hno : ¬ inS g s) :
  Call Tryz.prog w0 197 [.agg (boL v g vr 0).toArray, .int .i64 s, .int .i64 i] (D ++ F) (fun r H' => r = .tuple [.int .i64 0, .int .i64 2].toArray ∧ H' = D ++ F) := by
 have hhd := fun A => rbfield_E (w0 := w0) (D := D) (F := A) (i := i) (ref := true) hB ok hno
 have ho := hB.m.o
 have q1 := hB.p.oL
 have q2 := hB.p.oF
 have q3 := hB.p.oM
 have q4 := hB.p.oC
 unfold boL at *
 refine zjh ?_
 refine zco ?_; intro b3
 refine zaC fun T hT => ?_
 refine (CallV.part (CallV.fn (hhd _)) byPart).mono ?_
 refine ze ?_
 clear hT T
 refine zT ?_
 refine zcU ?_
 exact zdh
end
section
variable {w0 : World} {g : PlG} {long nf : Nat} {X : WmM} {S : MsP} {F : Heap} {a : MActP}
theorem sets_is {W : MwP} {m : MaP} (hw : 2 ≤ a.w % 10 ∧ a.w % 10 < 4) : (inS g a.s ∧ (oldS g W a).2 = 0 → actW g W a = { W with x := (setRefP W.x g.slots (slotA g a.s) a.i a.t).2 } ∧ actK g long W m a = shdS g long (shdS g long m (oldS g W a).1) a.t) ∧ (¬ (inS g a.s ∧ (oldS g W a).2 = 0) → actW g W a = W ∧ actK g long W m a = m) := by
 have h2 : ¬ a.w % 10 < 2 := by omega
 unfold actW actK
 simp only [if_neg h2, if_pos hw.2]
 exact ⟨fun h => by simp only [if_pos h]; exact ⟨trivial, trivial⟩, fun h => by simp only [if_neg h]; exact ⟨trivial, trivial⟩⟩
set_option maxHeartbeats 4000000 in
theorem sets_K (hG : Glob w0) (hX : WmR w0 g long nf X S) (hw : 2 ≤ a.w % 10 ∧ a.w % 10 < 4) :
  Call Tryz.prog w0 123 [.agg (wmL g long X S.k).toArray, .agg (mactL a).toArray] (wmH X ++ F) (WmP w0 g long nf (actS2 g long S a) F id) := by
 obtain ⟨q1, q2, q3, q4, q5, q6, q7, q8, q9, r1, r2, r3⟩ := hX.o
 have hact1 := fun m => sets_is (g := g) (long := long) (W := S.W) (m := m) hw
 by_cases hin : inS g a.s
 ·obtain ⟨s0, y, es, hy, hya⟩ := slot_ex hin
  have href := fun A => rbRef_K (w0 := w0) (F := A) (i := a.i) hX.W.B hX.W.f hy
  have hold : oldS g S.W a = refP S.W.x g.slots y a.i := by unfold oldS; rw [hya]
  rw [← hold] at href
  by_cases h0 : (oldS g S.W a).2 = 0
  ·have hc : inS g a.s ∧ (oldS g S.W a).2 = 0 := ⟨hin, h0⟩
   have hA := ((hact1 S.m).1 hc).1
   have hS : actS2 g long S a = ⟨actW g S.W a, shdS g long (shdS g long S.m (oldS g S.W a).1) a.t, shdS g long (shdS g long S.k (oldS g S.W a).1) a.t⟩ := by
    unfold actS2; rw [((hact1 S.m).1 hc).2, ((hact1 S.k).1 hc).2]
   rw [hS]
   rw [hya] at hA
   rw [h0] at href
   obtain ⟨o1, ho1⟩ : ∃ o1, (oldS g S.W a).1 = o1 := ⟨_, rfl⟩
   simp only [ho1] at href ⊢
   have hsh1 := fun A => shades_K (F := A) (s := o1) hX
   have hset := fun (A : Heap) (B : BoM) (hb : BoOk B S.W.x) (eg : B.p.g = g) => bSetRef_K (w0 := w0) (F := A) (s := s0) (y := y) (i := a.i) (to := a.t) hG hb (by rw [eg]; exact hy)
   have hrset := fun (A D : Heap) (vr : Value) (R : List RwD) (v : PlV) (hB : BoD w0 D v vr g R) (hf : BoF g R 0 S.W.x) => rbSetRef_K (w0 := w0) (F := A) (i := a.i) (to := a.t) hB hf hy
   obtain ⟨X1, hX1⟩ : ∃ X1, (setRefP S.W.x g.slots y a.i a.t).2 = X1 := ⟨_, rfl⟩
   rw [hX1] at hA
   obtain ⟨e1, he1⟩ : ∃ e1, (setRefP S.W.x g.slots y a.i a.t).1 = e1 := ⟨_, rfl⟩
   simp only [hX1, he1] at hrset
   have hset' := fun (A : Heap) (B : BoM) (hb : BoOk B S.W.x) (eg : B.p.g = g) => (by have := hset A B hb eg; rw [eg, hX1, he1] at this; exact this : Call Tryz.prog w0 102 [.pointer (some ⟨B.b, 0, none⟩), .int .i64 (s0 : Nat), .int .i64 a.i, .int .i64 a.t] (bodyH B ++ (memH B.m ++ (planH B.p ++ A))) (fun r H' => r = .int .i64 e1 ∧ H' = bodyH B ++ (memH (putM B.m B.t X1) ++ (planH B.p ++ A))))
   unfold WmP id at hsh1 ⊢
   unfold boL at href hrset
   clear hset hX1 he1 hact1 hS hc h0 hold ho1
   obtain ⟨B, T, N, k, v, z, q, D⟩ := X
   obtain ⟨aw, sa, ai, at_, ar, au⟩ := a
   dsimp only at *
   subst es
   unfold wmL mactL at *
   dsimp only at *
   refine zkz ?_
   rw [wmH_app, seenH_app]
   refine zb4 ?_; intro b2 b3 b4
   refine zy ?_
   refine zgh ?_
   refine zB ?_
   refine zd2 ?_
   refine zg fun T hT => ?_
   refine zk4 ?_
   clear hT T
   refine zG ?_
   refine zD ?_
   refine zd9 ?_
   refine zak ?_
   (first | refine K.seq (K.drawn ((b3, cells [.int .u8 (aw : Nat), .int .i64 (s0 : Nat), .int .i64 ai, .int .i64 at_, .int .i64 ar, .int .u8 (au : Nat)] 85) :: []) [(0, 0), (1, 0), (3, 1), (4, 1), (2, 2), (5, 2), (6, 2)] (by kernel_rfl) (by kernel_rfl) (by kernel_rfl) (by kernel_rfl) (by kernel_rfl) (by kernel_rfl) byPart ?_) | refine K.seq (K.seq (K.drawn ((b3, cells [.int .u8 (aw : Nat), .int .i64 (s0 : Nat), .int .i64 ai, .int .i64 at_, .int .i64 ar, .int .u8 (au : Nat)] 85) :: []) [(0, 0), (1, 0), (3, 1), (4, 1), (2, 2), (5, 2), (6, 2)] (by kernel_rfl) (by kernel_rfl) (by kernel_rfl) (by kernel_rfl) (by kernel_rfl) (by kernel_rfl) byPart ?_)) | refine K.drawn ((b3, cells [.int .u8 (aw : Nat), .int .i64 (s0 : Nat), .int .i64 ai, .int .i64 at_, .int .i64 ar, .int .u8 (au : Nat)] 85) :: []) [(0, 0), (1, 0), (3, 1), (4, 1), (2, 2), (5, 2), (6, 2)] (by kernel_rfl) (by kernel_rfl) (by kernel_rfl) (by kernel_rfl) (by kernel_rfl) (by kernel_rfl) byPart ?_)
   refine zie ?_
   refine zo ?_
   refine zis ?_
   refine zaO ?_
   refine zl fun T hT => ?_
   refine (CallV.part (CallV.fn (hsh1 _)) (by simp only [wmH_app, seenH_app]; exact byPart)).mono ?_
   rintro _ _ ⟨X2, hX2, rfl, rfl⟩
   rw [wmH_app, seenH_app]
   obtain ⟨p1, p2, p3, p4, p5, p6, p7, p8, p9, s1, s2, s3⟩ := hX2.o
   have hsh2 := fun A => shades_K (F := A) (s := at_) hX2
   unfold WmP id wmL at hsh2
   dsimp only at hsh2
   refine zi ?_
   clear hT T
   refine zl fun T hT => ?_
   refine (CallV.part (CallV.fn (hsh2 _)) (by simp only [wmH_app, seenH_app]; exact byPart)).mono ?_
   rintro _ _ ⟨X3, hX3, rfl, rfl⟩
   rw [wmH_app, seenH_app]
   obtain ⟨t1, t2, t3, t4, t5, t6, t7, t8, t9, u1, u2, u3⟩ := hX3.o
   have hto := fun vr' R' D' hB hY hp => hX3.putx (vr' := vr') (R' := R') (D' := D') hA hB hY hp
   have hb3 : BoOk X3.B S.W.x := hX3.p.bo
   have hset3 := fun A => hset' A X3.B hb3 hX3.eg
   have hrset3 := fun A => hrset A X3.D X3.z.vr X3.z.R X3.v hX3.W.B hX3.W.f
   clear hset' hrset
   refine zi ?_
   clear hT T
   refine zde ?_
   refine zaN ?_
   refine zJ ?_
   refine zd2 ?_
   refine zbh fun T hT => ?_
   refine (CallV.part (CallV.fn (hset3 _)) byPart).mono ?_
   refine ze ?_
   clear hT T
   refine zy ?_
   refine zgh ?_
   refine zB ?_
   refine zd2 ?_
   refine zbh fun T hT => ?_
   refine (CallV.part (CallV.fn (hrset3 _)) byPart).mono ?_
   rintro _ _ ⟨vr', R', N1, hB', hY', rfl, rfl⟩
   have q5' := hB'.m.o
   have hX4 := hto vr' R' (N1 ++ X3.D) hB' hY' byPart
   refine zd ?_
   clear hT T
   refine zai ?_
   refine zgh ?_
   refine zcj ?_
   refine zbx ?_
   exact KE.fin (H' := wmH ⟨setB X3.B X1, X3.T, X3.N, X3.k, X3.v, ⟨vr', X3.z.vt, X3.z.vn, R', X3.z.gens⟩, X3.q, N1 ++ X3.D⟩ ++ F) byMarks rfl byRes (by simp only [wmH_app, seenH_app, List.append_assoc, show bodyH (setB X3.B X1) = bodyH X3.B from rfl, show (setB X3.B X1).m = putM X3.B.m X3.B.t X1 from rfl, show (setB X3.B X1).p = X3.B.p from rfl]; exact byPart) ⟨_, hX4, rfl, rfl⟩
  ·have hc : ¬ (inS g a.s ∧ (oldS g S.W a).2 = 0) := fun h => h0 h.2
   have hS : actS2 g long S a = S := by unfold actS2; rw [((hact1 S.m).2 hc).2, ((hact1 S.k).2 hc).2, ((hact1 S.k).2 hc).1]
   rw [hS]
   obtain ⟨⟨o1, o2⟩, ho1⟩ : ∃ o1, oldS g S.W a = o1 := ⟨_, rfl⟩
   rw [ho1] at h0
   simp only [ho1] at href
   unfold WmP id
   unfold boL at href
   clear hact1 hS hc hold ho1
   obtain ⟨B, T, N, k, v, z, q, D⟩ := X
   obtain ⟨aw, sa, ai, at_, ar, au⟩ := a
   dsimp only at *
   subst es
   unfold wmL mactL at *
   dsimp only at *
   refine zkz ?_
   rw [wmH_app, seenH_app]
   refine zb4 ?_; intro b2 b3 b4
   refine zy ?_
   refine zgh ?_
   refine zB ?_
   refine zd2 ?_
   refine zg fun T hT => ?_
   refine zk4 ?_
   clear hT T
   refine zG ?_
   refine zhJ ?_
   refine zbx ?_
   refine zaH ?_
   exact zei
 ·have href := fun A => rbRef_E (w0 := w0) (F := A) (i := a.i) hX.W.B hX.okg hin
  have hc : ¬ (inS g a.s ∧ (oldS g S.W a).2 = 0) := fun h => hin h.1
  have hS : actS2 g long S a = S := by unfold actS2; rw [((hact1 S.m).2 hc).2, ((hact1 S.k).2 hc).2, ((hact1 S.k).2 hc).1]
  rw [hS]
  unfold WmP id
  unfold boL at href
  clear hact1 hS hc
  obtain ⟨B, T, N, k, v, z, q, D⟩ := X
  obtain ⟨aw, sa, ai, at_, ar, au⟩ := a
  dsimp only at *
  unfold wmL mactL at *
  dsimp only at *
  refine zkz ?_
  rw [wmH_app, seenH_app]
  refine zb4 ?_; intro b2 b3 b4
  refine zy ?_
  refine zgh ?_
  refine zB ?_
  refine zd2 ?_
  refine zg fun T hT => ?_
  refine zk4 ?_
  clear hT T
  refine zG ?_
  refine zhJ ?_
  refine zbx ?_
  refine zaH ?_
  exact zei
theorem drops_is {W : MwP} {m : MaP} (hw : a.w % 10 = 5) : actW g W a = { W with T := dropI W.T a.i } ∧ actK g long W m a = (match slotT W.T a.i with | some s => shdS g long m s | none => m) := by
 have h2 : ¬ a.w % 10 < 2 := by omega
 have h4 : ¬ a.w % 10 < 4 := by omega
 have h5 : ¬ a.w % 10 = 4 := by omega
 unfold actW actK
 simp only [if_neg h2, if_neg h4, if_neg h5, if_pos hw]
 exact ⟨trivial, rfl⟩
set_option maxHeartbeats 4000000 in
theorem drops_K (hG : Glob w0) (hX : WmR w0 g long nf X S) (hw : a.w % 10 = 5) :
  Call Tryz.prog w0 126 [.agg (wmL g long X S.k).toArray, .int .i64 a.i] (wmH X ++ F) (WmP w0 g long nf (actS2 g long S a) F id) := by
 obtain ⟨q1, q2, q3, q4, q5, q6, q7, q8, q9, r1, r2, r3⟩ := hX.o
 have hact := fun m => drops_is (g := g) (long := long) (W := S.W) (m := m) hw
 have hA := (hact S.m).1
 have hT := hX.W.T
 have htl : (S.W.T.map docE).length = S.W.T.length := List.length_map ..
 have h60 := hX.n
 have hst := hX.W.st.2
 by_cases hin : 0 ≤ a.i ∧ a.i < (S.W.T.length : Nat)
 ·obtain ⟨i0, ei⟩ : ∃ i0 : Nat, a.i = i0 := ⟨a.i.toNat, by omega⟩
  have hil : i0 < S.W.T.length := by omega
  obtain ⟨e, he⟩ := get_of_lt hil
  have hlt : ¬ ((i0 : Nat) : Int) < 0 := by omega
  have hge : ¬ ((i0 : Nat) : Int) ≥ ((S.W.T.map docE).length : Nat) := by omega
  have hi' : i0 < (S.W.T.map docE).length := by omega
  have hx : (S.W.T.map docE)[i0]? = some (docE e) := by rw [List.getElem?_map, he]; rfl
  have hd0 := docE_st e
  have hest := hst e (List.mem_of_getElem? he)
  rw [ei] at hA hact ⊢
  by_cases h1 : e.st = 1
  ·have hde : docE e = e := if_pos h1
   rw [hde] at hx
   have hsl : slotT S.W.T (i0 : Nat) = some e.slot := by unfold slotT; rw [if_pos (by omega), Int.toNat_natCast, he]; dsimp only; rw [if_pos h1]
   have hS : actS2 g long S a = ⟨actW g S.W a, shdS g long S.m e.slot, shdS g long S.k e.slot⟩ := by
    unfold actS2; rw [(hact S.m).2, (hact S.k).2, hsl]
   rw [hS]
   have hdr : dropI S.W.T (i0 : Nat) = S.W.T.set i0 ⟨2, e.slot, e.gen⟩ := by unfold dropI; rw [if_pos (by omega), Int.toNat_natCast, he]; dsimp only; rw [if_pos h1]
   have hdd := drop_doc he h1
   have hsh1 := fun A => shades_K (F := A) (s := e.slot) hX
   have hdrop := fun (A : Heap) (T : TbM) (ok : TbOk T) (eT : T.l = S.W.T) => tbDrop_K (w0 := w0) (F := A) (t := T) (i := i0) (e := e) ok (by rw [eT]; exact he) h1
   have hrdrop := fun (A D : Heap) (v : Value) (gens : Int) (hS : Sli w0 D wE v (S.W.T.map docE)) (hv : v.oneCell' = true) => rDrop_K (F := A) (gens := gens) hS hv (by omega) hx h1
   simp only [hdd] at hrdrop
   have hst1 : ∀ e' ∈ dropI S.W.T (i0 : Nat), 0 ≤ e'.st ∧ e'.st < 4 := fun e' he' => by
    obtain ⟨j, hj⟩ := List.getElem?_of_mem he'
    rcases drop_at hj with h | h
    ·exact hst _ (List.mem_of_getElem? h)
    ·omega
   unfold WmP id at hsh1 ⊢
   clear hact hS
   obtain ⟨es, esl, eg⟩ := e
   dsimp only at h1
   subst h1
   obtain ⟨B, T, N, k, v, z, q, D⟩ := X
   dsimp only at *
   unfold wmL at *
   dsimp only at *
   refine zjx ?_
   rw [wmH_app, seenH_app]
   refine zeR ?_; intro b2 b4
   refine zdf ?_
   refine zZ ?_
   refine zm ?_
   refine zdN ?_
   refine zdX ?_
   refine zdR ?_
   refine zaJ ?_
   refine zbf ?_
   refine zZ ?_
   refine zm ?_
   refine zdN ?_
   refine zdX ?_
   refine zaR ?_
   refine zdq ?_
   refine zm ?_
   refine zf4 ?_
   refine zcy ?_
   refine KL.v rfl (Val.neqBs rfl rfl) ?_
   refine zn ?_
   refine zd9 ?_
   refine zak ?_
   (first | refine K.seq (K.drawn ([]) [(0, 0), (1, 0), (2, 0), (3, 0), (4, 0), (5, 0), (6, 0), (7, 0), (8, 0), (9, 2), (10, 2)] (by kernel_rfl) (by kernel_rfl) (by kernel_rfl) (by kernel_rfl) (by kernel_rfl) (by kernel_rfl) byPart ?_) | refine K.seq (K.seq (K.drawn ([]) [(0, 0), (1, 0), (2, 0), (3, 0), (4, 0), (5, 0), (6, 0), (7, 0), (8, 0), (9, 2), (10, 2)] (by kernel_rfl) (by kernel_rfl) (by kernel_rfl) (by kernel_rfl) (by kernel_rfl) (by kernel_rfl) byPart ?_)) | refine K.drawn ([]) [(0, 0), (1, 0), (2, 0), (3, 0), (4, 0), (5, 0), (6, 0), (7, 0), (8, 0), (9, 2), (10, 2)] (by kernel_rfl) (by kernel_rfl) (by kernel_rfl) (by kernel_rfl) (by kernel_rfl) (by kernel_rfl) byPart ?_)
   refine zie ?_
   refine zkx ?_
   (first | refine KD.v0 rfl rfl (Val.fieldSl (k := 7) rfl rfl) ?_ | refine KD.v0 rfl rfl (Val.fieldAddr0 (k := 7) rfl rfl) ?_ | refine KD.v0 rfl rfl (Val.fieldAddrZ rfl rfl) ?_ | refine KD.v0 rfl rfl (Val.fieldAddr (k := 7) rfl rfl) ?_)
   refine zgW ?_
   refine zax ?_
   refine zo ?_
   refine zhh ?_
   refine ziW ?_
   refine zax ?_
   refine zl fun T hT => ?_
   refine (CallV.part (CallV.fn (hsh1 _)) (by simp only [wmH_app, seenH_app]; exact byPart)).mono ?_
   rintro _ _ ⟨X2, hX2, rfl, rfl⟩
   rw [wmH_app, seenH_app]
   obtain ⟨p1, p2, p3, p4, p5, p6, p7, p8, p9, s1, s2, s3⟩ := hX2.o
   have hT2 : Sli w0 X2.D wE X2.z.vt (S.W.T.map docE) := hX2.W.T
   have hdrop2 := fun A => hdrop A X2.T hX2.p.tb hX2.p.eT
   have hrdrop2 := fun A => hrdrop A X2.D X2.z.vt X2.z.gens hT2 p6
   clear hdrop hrdrop
   refine zi ?_
   clear hT T
   refine zde ?_
   refine zaN ?_
   refine zZ ?_
   refine zdN ?_
   refine zfa ?_
   refine zcO ?_
   refine zfB ?_
   refine zr ?_
   refine zU ?_
   refine zbb fun T hT => ?_
   refine (CallV.part (CallV.fn (hdrop2 _)) byPart).mono ?_
   refine ze ?_
   clear hT T
   refine zy ?_
   refine zZ ?_
   refine zdN ?_
   refine zaC fun T hT => ?_
   refine (CallV.part (CallV.fn (hrdrop2 _)) byPart).mono ?_
   rintro _ _ ⟨vt', N1, hT', ho', rfl, rfl⟩
   have hX3 := hX2.tab (T' := ⟨X2.T.b, X2.T.l.set i0 ⟨2, esl, eg⟩, X2.T.gens, X2.T.o⟩) (D' := N1 ++ X2.D) hA (tb_set hX2.p.tb (by have := hX2.p.tb.e _ (by rw [hX2.p.eT]; exact List.mem_of_getElem? he); dsimp only at this ⊢; omega)) (by show X2.T.l.set _ _ = _; rw [hX2.p.eT]; exact hdr.symm) rfl hT' ho' hst1 byPart
   refine zd ?_
   clear hT T
   refine zjH ?_
   refine zZ ?_
   refine zdN ?_
   refine zcj ?_
   refine zbx ?_
   exact KE.fin (H' := wmH ⟨X2.B, ⟨X2.T.b, X2.T.l.set i0 ⟨2, esl, eg⟩, X2.T.gens, X2.T.o⟩, X2.N, X2.k, X2.v, ⟨X2.z.vr, vt', X2.z.vn, X2.z.R, X2.z.gens⟩, X2.q, N1 ++ X2.D⟩ ++ F) byMarks rfl byRes (by simp only [wmH_app, seenH_app, List.append_assoc]; exact byPart) ⟨_, hX3, rfl, rfl⟩
  ·have hsl : slotT S.W.T (i0 : Nat) = none := by unfold slotT; rw [if_pos (by omega), Int.toNat_natCast, he]; dsimp only; rw [if_neg h1]
   have hdr : dropI S.W.T (i0 : Nat) = S.W.T := by unfold dropI; rw [if_pos (by omega), Int.toNat_natCast, he]; dsimp only; rw [if_neg h1]
   have hS : actS2 g long S a = S := by
    unfold actS2; rw [(hact S.m).2, (hact S.k).2, hsl, hA, hdr]
   rw [hS]
   have hne := stB_ne1 hest h1
   rw [← hd0.1] at hne
   obtain ⟨de, hde⟩ : ∃ de, docE e = de := ⟨_, rfl⟩
   rw [hde] at hx hne
   unfold WmP id
   clear hact hS
   obtain ⟨B, T, N, k, v, z, q, D⟩ := X
   dsimp only at *
   unfold wmL at *
   dsimp only at *
   refine zjx ?_
   rw [wmH_app, seenH_app]
   refine zeR ?_; intro b2 b4
   refine zdf ?_
   refine zZ ?_
   refine zm ?_
   refine zdN ?_
   refine zdX ?_
   refine zdR ?_
   refine zaJ ?_
   refine zbf ?_
   refine zZ ?_
   refine zm ?_
   refine zdN ?_
   refine zdX ?_
   refine zaR ?_
   refine zdq ?_
   refine zm ?_
   refine zf4 ?_
   refine zcy ?_
   refine KL.v rfl (Val.isT (Val.neqBs rfl rfl) byLt) ?_
   refine zaz ?_
   refine zbx ?_
   refine zaH ?_
   exact zei
 ·have hsl : slotT S.W.T a.i = none := by
   unfold slotT
   split
   ·rw [List.getElem?_eq_none (by omega)]
   ·rfl
  have hdr : dropI S.W.T a.i = S.W.T := by
   unfold dropI
   split
   ·rw [List.getElem?_eq_none (by omega)]
   ·rfl
  have hS : actS2 g long S a = S := by
   unfold actS2; rw [(hact S.m).2, (hact S.k).2, hsl, hA, hdr]
  rw [hS]
  unfold WmP id
  clear hact hS hA hsl hdr
  obtain ⟨B, T, N, k, v, z, q, D⟩ := X
  obtain ⟨aw, sa, ai, at_, ar, au⟩ := a
  dsimp only at *
  unfold wmL at *
  dsimp only at *
  by_cases hneg : ai < 0
  ·refine zjx ?_
   rw [wmH_app, seenH_app]
   refine zaq ?_; intro b2 b4
   refine zg9 ?_
   refine zE ?_
   refine zcz ?_
   refine zC ?_
   refine zgA ?_
   refine zfY ?_
   refine z7 ?_
   refine zbx ?_
   refine zaH ?_
   exact zei
  ·have hge : ai ≥ ((S.W.T.map docE).length : Nat) := by omega
   refine zjx ?_
   rw [wmH_app, seenH_app]
   refine zeR ?_; intro b2 b4
   refine zdf ?_
   refine zZ ?_
   refine zm ?_
   refine zdN ?_
   refine zdX ?_
   refine zdR ?_
   refine z8 ?_
   refine zn ?_
   refine zgA ?_
   refine zfY ?_
   refine z7 ?_
   refine zbx ?_
   refine zaH ?_
   exact zei
end
open Go.RowKit
set_option maxRecDepth 10000
section
variable {w0 : World} {g : PlG} {long nf : Nat} {X : WmM} {S : MsP} {F : Heap} {a : MActP}
def WmD (w0 : World) (g : PlG) (long nf : Nat) (S : MsP) (a : MActP) (F : Heap) (r : Value) (H' : Heap) : Prop :=
 ∃ X' : WmM, WmR w0 g long nf X' (actS2 g long S a) ∧ r = .tuple [.agg (wmL g long X' (actS2 g long S a).k).toArray, .bool (actB g long S.W S.m a == actB g long S.W S.k a)].toArray ∧ H' = wmH X' ++ F
theorem actB_no {W : MwP} {m k : MaP} (h : a.w % 10 < 8) : (actB g long W m a == actB g long W k a) = true := by unfold actB; simp only [if_pos h]; rfl
set_option maxHeartbeats 4000000 in
theorem does_0 (hG : Glob w0) (hX : WmR w0 g long nf X S) (ha : a.w < 256) (hw : a.w % 10 = 0) :
  Call Tryz.prog w0 46 [.agg (wmL g long X S.k).toArray, .agg (mactL a).toArray] (wmH X ++ F) (WmD w0 g long nf S a F) := by
 obtain ⟨q1, q2, q3, q4, q5, q6, q7, q8, q9, r1, r2, r3⟩ := hX.o
 unfold WmD
 rw [actB_no (by omega)]
 have hcl := fun A => makes_K (F := A) hG hX (a := a) (by omega)
 unfold WmP id at hcl
 obtain ⟨S', hS'⟩ : ∃ S', actS2 g long S a = S' := ⟨_, rfl⟩
 simp only [hS'] at hcl ⊢
 clear hS'
 have hw' : ((a.w : Nat) : Int) % 10 = 0 := by omega
 obtain ⟨B, T, N, k, v, z, q, D⟩ := X
 obtain ⟨aw, sa, ai, at_, ar, au⟩ := a
 dsimp only at *
 unfold wmL mactL at *
 dsimp only at *
 refine zcY ?_; intro b2 b3 b4
 refine zlY ?_
 refine zkT ?_
 refine KL.nil (KE.next (K.condT rfl (K.skip (KE.next (K.condT rfl (K.region ?_))))))
 refine zB ?_
 refine zp fun T hT => ?_
 refine zcH ?_
 rintro _ _ ⟨X2, hX2, rfl, rfl⟩
 obtain ⟨p1, p2, p3, p4, p5, p6, p7, p8, p9, s1, s2, s3⟩ := hX2.o
 refine zd ?_
 clear hT T
 refine z9 ?_
 refine zeN ?_
 refine zcW ?_
 exact zit
set_option maxHeartbeats 4000000 in
theorem does_1 (hG : Glob w0) (hX : WmR w0 g long nf X S) (ha : a.w < 256) (hw : a.w % 10 = 1) :
  Call Tryz.prog w0 46 [.agg (wmL g long X S.k).toArray, .agg (mactL a).toArray] (wmH X ++ F) (WmD w0 g long nf S a F) := by
 obtain ⟨q1, q2, q3, q4, q5, q6, q7, q8, q9, r1, r2, r3⟩ := hX.o
 unfold WmD
 rw [actB_no (by omega)]
 have hcl := fun A => makes_K (F := A) hG hX (a := a) (by omega)
 unfold WmP id at hcl
 obtain ⟨S', hS'⟩ : ∃ S', actS2 g long S a = S' := ⟨_, rfl⟩
 simp only [hS'] at hcl ⊢
 clear hS'
 have hw' : ((a.w : Nat) : Int) % 10 = 1 := by omega
 obtain ⟨B, T, N, k, v, z, q, D⟩ := X
 obtain ⟨aw, sa, ai, at_, ar, au⟩ := a
 dsimp only at *
 unfold wmL mactL at *
 dsimp only at *
 refine zcY ?_; intro b2 b3 b4
 refine zl0 ?_
 refine zd7 ?_
 refine zB ?_
 refine zp fun T hT => ?_
 refine zcH ?_
 rintro _ _ ⟨X2, hX2, rfl, rfl⟩
 obtain ⟨p1, p2, p3, p4, p5, p6, p7, p8, p9, s1, s2, s3⟩ := hX2.o
 refine zd ?_
 clear hT T
 refine z9 ?_
 refine zeN ?_
 refine zcW ?_
 exact zit
set_option maxHeartbeats 4000000 in
theorem does_2 (hG : Glob w0) (hX : WmR w0 g long nf X S) (ha : a.w < 256) (hw : a.w % 10 = 2) :
  Call Tryz.prog w0 46 [.agg (wmL g long X S.k).toArray, .agg (mactL a).toArray] (wmH X ++ F) (WmD w0 g long nf S a F) := by
 obtain ⟨q1, q2, q3, q4, q5, q6, q7, q8, q9, r1, r2, r3⟩ := hX.o
 unfold WmD
 rw [actB_no (by omega)]
 have hcl := fun A => sets_K (F := A) hG hX (a := a) (by omega)
 unfold WmP id at hcl
 obtain ⟨S', hS'⟩ : ∃ S', actS2 g long S a = S' := ⟨_, rfl⟩
 simp only [hS'] at hcl ⊢
 clear hS'
 have hw' : ((a.w : Nat) : Int) % 10 = 2 := by omega
 obtain ⟨B, T, N, k, v, z, q, D⟩ := X
 obtain ⟨aw, sa, ai, at_, ar, au⟩ := a
 dsimp only at *
 unfold wmL mactL at *
 dsimp only at *
 refine zcY ?_; intro b2 b3 b4
 refine zl1 ?_
 refine zkT ?_
 refine KL.nil (KE.next (K.condT rfl (K.skip (KE.next (K.condT rfl (K.region ?_))))))
 refine zB ?_
 refine zp fun T hT => ?_
 refine zcH ?_
 rintro _ _ ⟨X2, hX2, rfl, rfl⟩
 obtain ⟨p1, p2, p3, p4, p5, p6, p7, p8, p9, s1, s2, s3⟩ := hX2.o
 refine zd ?_
 clear hT T
 refine z9 ?_
 refine zeN ?_
 refine zcW ?_
 exact zit
set_option maxHeartbeats 4000000 in
theorem does_3 (hG : Glob w0) (hX : WmR w0 g long nf X S) (ha : a.w < 256) (hw : a.w % 10 = 3) :
  Call Tryz.prog w0 46 [.agg (wmL g long X S.k).toArray, .agg (mactL a).toArray] (wmH X ++ F) (WmD w0 g long nf S a F) := by
 obtain ⟨q1, q2, q3, q4, q5, q6, q7, q8, q9, r1, r2, r3⟩ := hX.o
 unfold WmD
 rw [actB_no (by omega)]
 have hcl := fun A => sets_K (F := A) hG hX (a := a) (by omega)
 unfold WmP id at hcl
 obtain ⟨S', hS'⟩ : ∃ S', actS2 g long S a = S' := ⟨_, rfl⟩
 simp only [hS'] at hcl ⊢
 clear hS'
 have hw' : ((a.w : Nat) : Int) % 10 = 3 := by omega
 obtain ⟨B, T, N, k, v, z, q, D⟩ := X
 obtain ⟨aw, sa, ai, at_, ar, au⟩ := a
 dsimp only at *
 unfold wmL mactL at *
 dsimp only at *
 refine zcY ?_; intro b2 b3 b4
 refine zeP ?_
 refine zd7 ?_
 refine zB ?_
 refine zp fun T hT => ?_
 refine zcH ?_
 rintro _ _ ⟨X2, hX2, rfl, rfl⟩
 obtain ⟨p1, p2, p3, p4, p5, p6, p7, p8, p9, s1, s2, s3⟩ := hX2.o
 refine zd ?_
 clear hT T
 refine z9 ?_
 refine zeN ?_
 refine zcW ?_
 exact zit
set_option maxHeartbeats 4000000 in
theorem does_5 (hG : Glob w0) (hX : WmR w0 g long nf X S) (ha : a.w < 256) (hw : a.w % 10 = 5) :
  Call Tryz.prog w0 46 [.agg (wmL g long X S.k).toArray, .agg (mactL a).toArray] (wmH X ++ F) (WmD w0 g long nf S a F) := by
 obtain ⟨q1, q2, q3, q4, q5, q6, q7, q8, q9, r1, r2, r3⟩ := hX.o
 unfold WmD
 rw [actB_no (by omega)]
 have hcl := fun A => drops_K (F := A) hG hX (a := a) hw
 unfold WmP id at hcl
 obtain ⟨S', hS'⟩ : ∃ S', actS2 g long S a = S' := ⟨_, rfl⟩
 simp only [hS'] at hcl ⊢
 clear hS'
 have hw' : ((a.w : Nat) : Int) % 10 = 5 := by omega
 obtain ⟨B, T, N, k, v, z, q, D⟩ := X
 obtain ⟨aw, sa, ai, at_, ar, au⟩ := a
 dsimp only at *
 unfold wmL mactL at *
 dsimp only at *
 refine zcY ?_; intro b2 b3 b4
 refine zeP ?_
 refine zbW ?_
 refine zd7 ?_
 refine zB ?_
 refine zas ?_
 refine zg fun T hT => ?_
 refine zcH ?_
 rintro _ _ ⟨X2, hX2, rfl, rfl⟩
 obtain ⟨p1, p2, p3, p4, p5, p6, p7, p8, p9, s1, s2, s3⟩ := hX2.o
 refine zd ?_
 clear hT T
 refine z9 ?_
 refine zeN ?_
 refine zcW ?_
 exact zit
set_option maxHeartbeats 4000000 in
theorem does_4no (hG : Glob w0) (hX : WmR w0 g long nf X S) (ha : a.w < 256) (hw : a.w % 10 = 4) (hin : ¬ inS g a.s) :
  Call Tryz.prog w0 46 [.agg (wmL g long X S.k).toArray, .agg (mactL a).toArray] (wmH X ++ F) (WmD w0 g long nf S a F) := by
 obtain ⟨q1, q2, q3, q4, q5, q6, q7, q8, q9, r1, r2, r3⟩ := hX.o
 unfold WmD
 rw [actB_no (by omega)]
 have hhas := wm_has (s := a.s) hX
 rw [decide_eq_false hin] at hhas
 have hA : actW g S.W a = S.W := by unfold actW; simp only [if_neg (show ¬ a.w % 10 < 2 by omega), if_neg (show ¬ a.w % 10 < 4 by omega), if_pos hw, if_neg hin]
 have hK : ∀ m, actK g long S.W m a = shdS g long m a.s := fun m => by unfold actK; simp only [if_neg (show ¬ a.w % 10 < 2 by omega), if_neg (show ¬ a.w % 10 < 4 by omega), if_neg (show ¬ a.w % 10 = 5 by omega), if_pos (show a.w % 10 < 8 by omega)]
 have hS : actS2 g long S a = S := by
  unfold actS2; rw [hA, hK, hK]; unfold shdS; rw [if_neg hin, if_neg hin]
 rw [hS]
 clear hA hK hS
 unfold plL at hhas
 have hw' : ((a.w : Nat) : Int) % 10 = 4 := by omega
 obtain ⟨B, T, N, k, v, z, q, D⟩ := X
 obtain ⟨aw, sa, ai, at_, ar, au⟩ := a
 dsimp only at *
 unfold wmL mactL at *
 dsimp only at *
 refine zcY ?_; intro b2 b3 b4
 refine zeP ?_
 refine zbP ?_
 refine zfR ?_
 refine zb8 ?_
 refine zdC fun T hT => ?_
 refine zhD ?_
 refine ze ?_
 clear hT T
 refine ziF ?_
 refine zcW ?_
 exact zei
set_option maxHeartbeats 4000000 in
theorem does_6no (hG : Glob w0) (hX : WmR w0 g long nf X S) (ha : a.w < 256) (hw : a.w % 10 = 6) (hin : ¬ inS g a.s) :
  Call Tryz.prog w0 46 [.agg (wmL g long X S.k).toArray, .agg (mactL a).toArray] (wmH X ++ F) (WmD w0 g long nf S a F) := by
 obtain ⟨q1, q2, q3, q4, q5, q6, q7, q8, q9, r1, r2, r3⟩ := hX.o
 unfold WmD
 rw [actB_no (by omega)]
 have hhas := wm_has (s := a.s) hX
 rw [decide_eq_false hin] at hhas
 have hA : actW g S.W a = S.W := by unfold actW; simp only [if_neg (show ¬ a.w % 10 < 2 by omega), if_neg (show ¬ a.w % 10 < 4 by omega), if_neg (show ¬ a.w % 10 = 4 by omega), if_neg (show ¬ a.w % 10 = 5 by omega), if_pos hw, if_neg hin]
 have hK : ∀ m, actK g long S.W m a = shdS g long m a.s := fun m => by unfold actK; simp only [if_neg (show ¬ a.w % 10 < 2 by omega), if_neg (show ¬ a.w % 10 < 4 by omega), if_neg (show ¬ a.w % 10 = 5 by omega), if_pos (show a.w % 10 < 8 by omega)]
 have hS : actS2 g long S a = S := by
  unfold actS2; rw [hA, hK, hK]; unfold shdS; rw [if_neg hin, if_neg hin]
 rw [hS]
 clear hA hK hS
 unfold plL at hhas
 have hw' : ((a.w : Nat) : Int) % 10 = 6 := by omega
 obtain ⟨B, T, N, k, v, z, q, D⟩ := X
 obtain ⟨aw, sa, ai, at_, ar, au⟩ := a
 dsimp only at *
 unfold wmL mactL at *
 dsimp only at *
 refine zcY ?_; intro b2 b3 b4
 refine zeP ?_
 refine zbW ?_
 refine zbP ?_
 refine zfR ?_
 refine zb8 ?_
 refine zdC fun T hT => ?_
 refine zhD ?_
 refine ze ?_
 clear hT T
 refine ziF ?_
 refine zcW ?_
 exact zei
set_option maxHeartbeats 4000000 in
theorem does_7no (hG : Glob w0) (hX : WmR w0 g long nf X S) (ha : a.w < 256) (hw : a.w % 10 = 7) (hin : ¬ inS g a.s) :
  Call Tryz.prog w0 46 [.agg (wmL g long X S.k).toArray, .agg (mactL a).toArray] (wmH X ++ F) (WmD w0 g long nf S a F) := by
 obtain ⟨q1, q2, q3, q4, q5, q6, q7, q8, q9, r1, r2, r3⟩ := hX.o
 unfold WmD
 rw [actB_no (by omega)]
 have hhas := wm_has (s := a.s) hX
 rw [decide_eq_false hin] at hhas
 have hA : actW g S.W a = S.W := by unfold actW; simp only [if_neg (show ¬ a.w % 10 < 2 by omega), if_neg (show ¬ a.w % 10 < 4 by omega), if_neg (show ¬ a.w % 10 = 4 by omega), if_neg (show ¬ a.w % 10 = 5 by omega), if_neg (show ¬ a.w % 10 = 6 by omega), if_pos hw, if_neg hin]
 have hK : ∀ m, actK g long S.W m a = shdS g long m a.s := fun m => by unfold actK; simp only [if_neg (show ¬ a.w % 10 < 2 by omega), if_neg (show ¬ a.w % 10 < 4 by omega), if_neg (show ¬ a.w % 10 = 5 by omega), if_pos (show a.w % 10 < 8 by omega)]
 have hS : actS2 g long S a = S := by
  unfold actS2; rw [hA, hK, hK]; unfold shdS; rw [if_neg hin, if_neg hin]
 rw [hS]
 clear hA hK hS
 unfold plL at hhas
 have hw' : ((a.w : Nat) : Int) % 10 = 7 := by omega
 obtain ⟨B, T, N, k, v, z, q, D⟩ := X
 obtain ⟨aw, sa, ai, at_, ar, au⟩ := a
 dsimp only at *
 unfold wmL mactL at *
 dsimp only at *
 refine zcY ?_; intro b2 b3 b4
 refine zeP ?_
 refine zbW ?_
 refine zbW ?_
 refine zfR ?_
 refine zb8 ?_
 refine zdC fun T hT => ?_
 refine zhD ?_
 refine ze ?_
 clear hT T
 refine ziF ?_
 refine zcW ?_
 exact zei
set_option maxHeartbeats 4000000 in
theorem does_4yes (hG : Glob w0) (hX : WmR w0 g long nf X S) (ha : a.w < 256) (hw : a.w % 10 = 4) (hin : inS g a.s) :
  Call Tryz.prog w0 46 [.agg (wmL g long X S.k).toArray, .agg (mactL a).toArray] (wmH X ++ F) (WmD w0 g long nf S a F) := by
 obtain ⟨q1, q2, q3, q4, q5, q6, q7, q8, q9, r1, r2, r3⟩ := hX.o
 unfold WmD
 rw [actB_no (by omega)]
 have hhas := wm_has (s := a.s) hX
 rw [decide_eq_true hin] at hhas
 have hA : actW g S.W a = { S.W with T := mintT S.W.T a.s } := by unfold actW; simp only [if_neg (show ¬ a.w % 10 < 2 by omega), if_neg (show ¬ a.w % 10 < 4 by omega), if_pos hw, if_pos hin]
 have hK : ∀ m, actK g long S.W m a = shdS g long m a.s := fun m => by unfold actK; simp only [if_neg (show ¬ a.w % 10 < 2 by omega), if_neg (show ¬ a.w % 10 < 4 by omega), if_neg (show ¬ a.w % 10 = 5 by omega), if_pos (show a.w % 10 < 8 by omega)]
 have hS : actS2 g long S a = ⟨actW g S.W a, shdS g long S.m a.s, shdS g long S.k a.s⟩ := by unfold actS2; rw [hK, hK]
 rw [hS]
 obtain ⟨s0, y, es, hy, hya⟩ := slot_ex hin
 have hsl := hX.okg.slots
 have hs0 : s0 < g.slots := by have := lt_of_get hy; rwa [L_len] at this
 have hNl := hX.W.w.N
 have hNb := hX.W.w.n
 have hst := hX.W.st
 have hT := hX.W.T
 have hmint := fun A => tbMint_K (w0 := w0) (F := A) (s := s0) hX.p.tb (by omega)
 have hrmint := fun A => rMint_K (w0 := w0) (F := A) (gens := X.z.gens) (s := s0) hT hX.W.oT ⟨by rw [List.length_map]; exact hst.1, fun e he => by
  obtain ⟨e', h1, rfl⟩ := List.mem_map.1 he
  rw [(docE_st e').1]; exact hst.2 e' h1⟩
 simp only [hX.p.eT] at hmint
 simp only [mint_doc] at hrmint
 have hst1 : ∀ e' ∈ mintT S.W.T a.s, 0 ≤ e'.st ∧ e'.st < 4 := fun e' he' => by
  obtain ⟨j, hj⟩ := List.getElem?_of_mem he'
  rcases mint_at hj with h | h
  ·exact hst.2 _ (List.mem_of_getElem? h)
  ·omega
 rw [es] at hA hst1
 have hto := fun T' vt' D' htb eT tb hT ho hp => hX.tab (T' := T') (vt' := vt') (D' := D') hA htb eT tb hT ho hst1 hp
 obtain ⟨T1, hT1⟩ : ∃ T1, mintT S.W.T (s0 : Nat) = T1 := ⟨_, rfl⟩
 obtain ⟨mv, hmv⟩ : ∃ mv, mintV S.W.T = mv := ⟨_, rfl⟩
 obtain ⟨mw, hmw⟩ : ∃ mw, mintV (S.W.T.map docE) = mw := ⟨_, rfl⟩
 simp only [hT1, hmv, hmw] at hmint hrmint hto
 clear hK hS hya
 unfold plL at hhas
 have ea : a.s = ((s0 : Nat) : Int) := es
 have hw' : ((a.w : Nat) : Int) % 10 = 4 := by omega
 obtain ⟨B, T, N, k, v, z, q, D⟩ := X
 obtain ⟨aw, sa, ai, at_, ar, au⟩ := a
 dsimp only at *
 subst ea
 unfold wmL mactL at *
 dsimp only at *
 refine zcY ?_; intro b2 b3 b4
 refine zeP ?_
 refine zbP ?_
 refine zfR ?_
 refine zb8 ?_
 refine zdC fun T hT => ?_
 refine zhD ?_
 refine ze ?_
 clear hT T
 refine zI ?_
 refine zU ?_
 refine zcf fun T hT => ?_
 refine (CallV.part (CallV.fn (hmint _)) byPart).mono ?_
 rintro _ _ ⟨T', htb, etb, eT, rfl, rfl⟩
 refine zd ?_
 clear hT T
 refine zy ?_
 refine zZ ?_
 refine zdN ?_
 refine zdC fun T hT => ?_
 refine (CallV.part (CallV.fn (hrmint _)) byPart).mono ?_
 rintro _ _ ⟨vt', N1, hT', ho', rfl, rfl⟩
 have hX2 := hto T' vt' (N1 ++ D) htb eT etb hT' ho' byPart
 have hsh := fun A => shades_K (F := A) (s := ((s0 : Nat) : Int)) hX2
 unfold WmP id wmL at hsh
 dsimp only at hsh
 simp only [etb] at hsh
 refine zd ?_
 clear hT T
 refine zai ?_
 refine zfd ?_
 refine zZ ?_
 refine zdN ?_
 refine z9 ?_
 refine zc3 ?_
 refine zdC fun T hT => ?_
 refine zlL ?_
 rintro _ _ ⟨X3, hX3, rfl, rfl⟩
 obtain ⟨p1, p2, p3, p4, p5, p6, p7, p8, p9, s1, s2, s3⟩ := hX3.o
 refine zd ?_
 clear hT T
 refine z9 ?_
 refine zeN ?_
 refine zcW ?_
 exact KE.fin byMarks rfl byRes byPart ⟨X3, hX3, rfl, rfl⟩
set_option maxHeartbeats 4000000 in
theorem does_6yes (hG : Glob w0) (hX : WmR w0 g long nf X S) (ha : a.w < 256) (hw : a.w % 10 = 6) (hin : inS g a.s) :
  Call Tryz.prog w0 46 [.agg (wmL g long X S.k).toArray, .agg (mactL a).toArray] (wmH X ++ F) (WmD w0 g long nf S a F) := by
 obtain ⟨q1, q2, q3, q4, q5, q6, q7, q8, q9, r1, r2, r3⟩ := hX.o
 unfold WmD
 rw [actB_no (by omega)]
 have hhas := wm_has (s := a.s) hX
 rw [decide_eq_true hin] at hhas
 have hA : actW g S.W a = { S.W with N := pinP S.W.N a.s.toNat } := by unfold actW; simp only [if_neg (show ¬ a.w % 10 < 2 by omega), if_neg (show ¬ a.w % 10 < 4 by omega), if_neg (show ¬ a.w % 10 = 4 by omega), if_neg (show ¬ a.w % 10 = 5 by omega), if_pos hw, if_pos hin]
 have hK : ∀ m, actK g long S.W m a = shdS g long m a.s := fun m => by unfold actK; simp only [if_neg (show ¬ a.w % 10 < 2 by omega), if_neg (show ¬ a.w % 10 < 4 by omega), if_neg (show ¬ a.w % 10 = 5 by omega), if_pos (show a.w % 10 < 8 by omega)]
 have hS : actS2 g long S a = ⟨actW g S.W a, shdS g long S.m a.s, shdS g long S.k a.s⟩ := by unfold actS2; rw [hK, hK]
 rw [hS]
 obtain ⟨s0, y, es, hy, hya⟩ := slot_ex hin
 have hsl := hX.okg.slots
 have hs0 : s0 < g.slots := by have := lt_of_get hy; rwa [L_len] at this
 have hNl := hX.W.w.N
 have hNb := hX.W.w.n
 have hpin := fun A => Pin_K (w0 := w0) (F := A) (s := s0) hX.p.pi (by rw [hX.p.eN, hNl]; exact hs0)
 have hrpin := fun A => rPin_K (w0 := w0) (F := A) (s := s0) hX.W.N hX.W.oN (by rw [hNl]; exact hs0) (by omega) hNb
 simp only [hX.p.eN] at hpin
 rw [es, Int.toNat_natCast] at hA
 have hto := fun N' vn' D' hpi eN nb hN ho hp => hX.pin (N' := N') (vn' := vn') (D' := D') hA hpi eN nb hN ho hp
 clear hK hS hya
 unfold plL at hhas
 have ea : a.s = ((s0 : Nat) : Int) := es
 have hw' : ((a.w : Nat) : Int) % 10 = 6 := by omega
 obtain ⟨B, T, N, k, v, z, q, D⟩ := X
 obtain ⟨aw, sa, ai, at_, ar, au⟩ := a
 dsimp only at *
 subst ea
 unfold wmL mactL at *
 dsimp only at *
 refine zcY ?_; intro b2 b3 b4
 refine zeP ?_
 refine zbW ?_
 refine zbP ?_
 refine zfR ?_
 refine zb8 ?_
 refine zdC fun T hT => ?_
 refine zhD ?_
 refine ze ?_
 clear hT T
 refine zI ?_
 refine zas ?_
 refine zcf fun T hT => ?_
 refine (CallV.part (CallV.fn (hpin _)) byPart).mono ?_
 rintro _ _ ⟨⟨e1, rfl⟩, N', hpi, epi, eN, rfl⟩
 refine zd ?_
 clear hT T
 refine zy ?_
 refine zZ ?_
 refine zjy ?_
 refine zk ?_
 refine zcf fun T hT => ?_
 refine (CallV.part (CallV.fn (hrpin _)) byPart).mono ?_
 rintro _ _ ⟨vn', N1, e2, hN', ho', rfl, rfl⟩
 have hX2 := hto N' vn' (N1 ++ D) hpi eN epi hN' ho' byPart
 have hsh := fun A => shades_K (F := A) (s := ((s0 : Nat) : Int)) hX2
 unfold WmP id wmL at hsh
 dsimp only at hsh
 simp only [epi] at hsh
 refine zd ?_
 clear hT T
 refine zai ?_
 refine zZ ?_
 refine zjy ?_
 refine zN ?_
 refine zc3 ?_
 refine zdC fun T hT => ?_
 refine zlL ?_
 rintro _ _ ⟨X3, hX3, rfl, rfl⟩
 obtain ⟨p1, p2, p3, p4, p5, p6, p7, p8, p9, s1, s2, s3⟩ := hX3.o
 refine zd ?_
 clear hT T
 refine z9 ?_
 refine zeN ?_
 refine zcW ?_
 exact KE.fin byMarks rfl byRes byPart ⟨X3, hX3, rfl, rfl⟩
set_option maxHeartbeats 4000000 in
theorem does_7yes (hG : Glob w0) (hX : WmR w0 g long nf X S) (ha : a.w < 256) (hw : a.w % 10 = 7) (hin : inS g a.s) :
  Call Tryz.prog w0 46 [.agg (wmL g long X S.k).toArray, .agg (mactL a).toArray] (wmH X ++ F) (WmD w0 g long nf S a F) := by
 obtain ⟨q1, q2, q3, q4, q5, q6, q7, q8, q9, r1, r2, r3⟩ := hX.o
 unfold WmD
 rw [actB_no (by omega)]
 have hhas := wm_has (s := a.s) hX
 rw [decide_eq_true hin] at hhas
 have hA : actW g S.W a = { S.W with N := unpinP S.W.N a.s.toNat } := by unfold actW; simp only [if_neg (show ¬ a.w % 10 < 2 by omega), if_neg (show ¬ a.w % 10 < 4 by omega), if_neg (show ¬ a.w % 10 = 4 by omega), if_neg (show ¬ a.w % 10 = 5 by omega), if_neg (show ¬ a.w % 10 = 6 by omega), if_pos hw, if_pos hin]
 have hK : ∀ m, actK g long S.W m a = shdS g long m a.s := fun m => by unfold actK; simp only [if_neg (show ¬ a.w % 10 < 2 by omega), if_neg (show ¬ a.w % 10 < 4 by omega), if_neg (show ¬ a.w % 10 = 5 by omega), if_pos (show a.w % 10 < 8 by omega)]
 have hS : actS2 g long S a = ⟨actW g S.W a, shdS g long S.m a.s, shdS g long S.k a.s⟩ := by unfold actS2; rw [hK, hK]
 rw [hS]
 obtain ⟨s0, y, es, hy, hya⟩ := slot_ex hin
 have hsl := hX.okg.slots
 have hs0 : s0 < g.slots := by have := lt_of_get hy; rwa [L_len] at this
 have hNl := hX.W.w.N
 have hNb := hX.W.w.n
 have hsh := fun A => shades_K (F := A) (s := a.s) hX
 unfold WmP id at hsh
 rw [es, Int.toNat_natCast] at hA
 rw [es] at hsh
 have hpin := fun A (N : PiM) (ok : PiOk N) (eN : N.l = S.W.N) => Unpin_K (w0 := w0) (F := A) (q := N) (s := s0) ok (by rw [eN, hNl]; exact hs0)
 have hrpin := fun (A D : Heap) (vn : Value) (hN : Sli w0 D iE vn S.W.N) (hv : vn.oneCell' = true) => rUnpin_K (w0 := w0) (F := A) (s := s0) hN hv (by rw [hNl]; exact hs0) (by omega) hNb
 clear hK hS hya
 unfold plL at hhas
 have ea : a.s = ((s0 : Nat) : Int) := es
 have hw' : ((a.w : Nat) : Int) % 10 = 7 := by omega
 obtain ⟨B, T, N, k, v, z, q, D⟩ := X
 obtain ⟨aw, sa, ai, at_, ar, au⟩ := a
 dsimp only at *
 subst ea
 unfold wmL mactL at *
 dsimp only at *
 refine zcY ?_; intro b2 b3 b4
 refine zeP ?_
 refine zbW ?_
 refine zbW ?_
 refine zfR ?_
 refine zb8 ?_
 refine zdC fun T hT => ?_
 refine zhD ?_
 refine ze ?_
 clear hT T
 refine zI ?_
 refine zdC fun T hT => ?_
 refine (CallV.part (CallV.fn (hsh _)) (by simp only [wmH_app, seenH_app]; exact byPart)).mono ?_
 rintro _ _ ⟨X2, hX2, rfl, rfl⟩
 rw [wmH_app, seenH_app]
 obtain ⟨p1, p2, p3, p4, p5, p6, p7, p8, p9, s1, s2, s3⟩ := hX2.o
 have hpin2 := fun A => hpin A X2.N hX2.p.pi hX2.p.eN
 simp only [hX2.p.eN] at hpin2
 have hrpin2 := fun A => hrpin A X2.D X2.z.vn hX2.W.N hX2.W.oN
 clear hpin hrpin
 refine zd ?_
 clear hT T
 refine zcj ?_
 refine zas ?_
 refine zcf fun T hT => ?_
 refine (CallV.part (CallV.fn (hpin2 _)) byPart).mono ?_
 rintro _ _ ⟨⟨e1, rfl⟩, N', hpi, epi, eN, rfl⟩
 refine zd ?_
 clear hT T
 refine zc3 ?_
 refine zZ ?_
 refine zjy ?_
 refine zk ?_
 refine zcf fun T hT => ?_
 refine (CallV.part (CallV.fn (hrpin2 _)) byPart).mono ?_
 rintro _ _ ⟨vn', N1, e2, hN', ho', rfl, rfl⟩
 have hX3 := hX2.pin (N' := N') (vn' := vn') (D' := N1 ++ X2.D) hA hpi eN epi hN' ho' byPart
 refine zd ?_
 clear hT T
 refine zai ?_
 refine zZ ?_
 refine zjy ?_
 refine zN ?_
 refine zeN ?_
 refine zcW ?_
 exact KE.fin (H' := wmH ⟨X2.B, X2.T, N', X2.k, X2.v, ⟨X2.z.vr, X2.z.vt, vn', X2.z.R, X2.z.gens⟩, X2.q, N1 ++ X2.D⟩ ++ F) byMarks rfl byRes (by simp only [wmH_app, seenH_app, List.append_assoc]; exact byPart) ⟨_, hX3, by dsimp only; rw [epi]; rfl, rfl⟩
set_option maxHeartbeats 4000000 in
theorem does_8 (hG : Glob w0) (hX : WmR w0 g long nf X S) (ha : a.w < 256) (hw : a.w % 10 = 8) (hu : a.u < 256) :
  Call Tryz.prog w0 46 [.agg (wmL g long X S.k).toArray, .agg (mactL a).toArray] (wmH X ++ F) (WmD w0 g long nf S a F) := by
 obtain ⟨q1, q2, q3, q4, q5, q6, q7, q8, q9, r1, r2, r3⟩ := hX.o
 unfold WmD
 have hA : actW g S.W a = S.W := by unfold actW; simp only [if_neg (show ¬ a.w % 10 < 2 by omega), if_neg (show ¬ a.w % 10 < 4 by omega), if_neg (show ¬ a.w % 10 = 4 by omega), if_neg (show ¬ a.w % 10 = 5 by omega), if_neg (show ¬ a.w % 10 = 6 by omega), if_neg (show ¬ a.w % 10 = 7 by omega)]
 have hK : ∀ m, actK g long S.W m a = (stepM g long S.W m a.i (a.u : Nat)).getD m := fun m => by unfold actK; simp only [if_neg (show ¬ a.w % 10 < 2 by omega), if_neg (show ¬ a.w % 10 < 4 by omega), if_neg (show ¬ a.w % 10 = 5 by omega), if_neg (show ¬ a.w % 10 < 8 by omega), if_pos hw]
 have hBk : ∀ m, actB g long S.W m a = (stepM g long S.W m a.i (a.u : Nat)).isSome := fun m => by unfold actB; simp only [if_neg (show ¬ a.w % 10 < 8 by omega), if_pos hw]
 have okm := hX.m
 have okm' := (actK_all (a := a) hX.okg hX.m).1
 have okk' := (actK_all (a := a) hX.okg hX.k).1
 have lm' := actK_sum (a := a) hX.okg hX.m
 have lk' := actK_sum (a := a) hX.okg hX.k
 have lm := hX.lm
 have lk := hX.lk
 have hst := fun A => mkStepI_K (w0 := w0) (F := A) (hd := a.i) (v := (a.u : Nat)) hG hX.p hX.ok hX.R (by rw [hX.eg, hX.el]; exact hX.m) (by omega) (by omega)
 rw [hX.eg, hX.el] at hst
 have hrst := fun A => rkStep_K (w0 := w0) (F := A) (hd := a.i) (v0 := (a.u : Nat)) hX.okg hX.K hX.k hX.lg.2 hX.W (by omega) (by omega)
 have hS : actS2 g long S a = ⟨S.W, actK g long S.W S.m a, actK g long S.W S.k a⟩ := by unfold actS2; rw [hA]
 rw [hS, hBk, hBk]
 unfold StepP at hst
 unfold KmO at hrst
 simp only [hK] at *
 have hto := fun k' q' D' kok kto kR hp hK => hX.to (k' := k') (q' := q') (D' := D') kok kto kR okm' hp hK okk' lm' lk'
 obtain ⟨om, hom⟩ : ∃ om, stepM g long S.W S.m a.i (a.u : Nat) = om := ⟨_, rfl⟩
 obtain ⟨ok, hok⟩ : ∃ ok, stepM g long S.W S.k a.i (a.u : Nat) = ok := ⟨_, rfl⟩
 simp only [hom, hok] at *
 obtain ⟨mm, hmm⟩ : ∃ mm, om.getD S.m = mm := ⟨_, rfl⟩
 obtain ⟨kk, hkk⟩ : ∃ kk, ok.getD S.k = kk := ⟨_, rfl⟩
 obtain ⟨bm, hbm⟩ : ∃ bm, om.isSome = bm := ⟨_, rfl⟩
 obtain ⟨bk, hbk⟩ : ∃ bk, ok.isSome = bk := ⟨_, rfl⟩
 simp only [hmm, hkk, hbm, hbk] at *
 clear hA hK hBk hS okm okm' okk' lm' lk' lm lk hom hok hmm hkk hbm hbk
 unfold kmL kwL at hrst
 have hw' : ((a.w : Nat) : Int) % 10 = 8 := by omega
 obtain ⟨B, T, N, k, v, z, q, D⟩ := X
 obtain ⟨aw, sa, ai, at_, ar, au⟩ := a
 dsimp only at *
 unfold wmL mactL at *
 dsimp only at *
 refine zcY ?_; intro b2 b3 b4
 refine zeP ?_
 refine zbW ?_
 refine zbW ?_
 refine zbP ?_
 refine zfR ?_
 refine zdc ?_
 refine zas ?_
 refine zaY ?_
 refine zbL fun T hT => ?_
 rw [wmH_app, seenH_app]
 refine ze8 ?_
 rintro _ _ ⟨rfl, k', kok, kto, kR, rfl⟩
 refine zd ?_
 clear hT T
 refine zdo ?_
 refine zaZ ?_
 refine zB ?_
 refine zZ ?_
 refine zB ?_
 refine zas ?_
 refine zaY ?_
 refine zbL fun T hT => ?_
 refine (CallV.part (CallV.fn (hrst _)) byPart).mono ?_
 rintro _ _ ⟨q', N1, hK', rfl, rfl⟩
 have p1 := hK'.oc
 have p2 := hK'.G.o1
 have p3 := hK'.G.o2
 have p4 := hK'.G.o3
 have p5 := hK'.oh
 have hX' := hto k' q' (N1 ++ D) kok kto kR byPart hK'
 refine zd ?_
 clear hT T
 refine zai ?_
 refine zaZ ?_
 refine zeJ ?_
 refine zff ?_
 refine zcW ?_
 exact zlM
set_option maxHeartbeats 4000000 in
theorem does_9 (hG : Glob w0) (hX : WmR w0 g long nf X S) (ha : a.w < 256) (hw : a.w % 10 = 9) :
  Call Tryz.prog w0 46 [.agg (wmL g long X S.k).toArray, .agg (mactL a).toArray] (wmH X ++ F) (WmD w0 g long nf S a F) := by
 obtain ⟨q1, q2, q3, q4, q5, q6, q7, q8, q9, r1, r2, r3⟩ := hX.o
 unfold WmD
 have hA : actW g S.W a = S.W := by unfold actW; simp only [if_neg (show ¬ a.w % 10 < 2 by omega), if_neg (show ¬ a.w % 10 < 4 by omega), if_neg (show ¬ a.w % 10 = 4 by omega), if_neg (show ¬ a.w % 10 = 5 by omega), if_neg (show ¬ a.w % 10 = 6 by omega), if_neg (show ¬ a.w % 10 = 7 by omega)]
 have hK : ∀ m, actK g long S.W m a = (helpM g long S.W m).getD m := fun m => by unfold actK; simp only [if_neg (show ¬ a.w % 10 < 2 by omega), if_neg (show ¬ a.w % 10 < 4 by omega), if_neg (show ¬ a.w % 10 = 5 by omega), if_neg (show ¬ a.w % 10 < 8 by omega), if_neg (show ¬ a.w % 10 = 8 by omega)]
 have hBk : ∀ m, actB g long S.W m a = (helpM g long S.W m).isSome := fun m => by unfold actB; simp only [if_neg (show ¬ a.w % 10 < 8 by omega), if_neg (show ¬ a.w % 10 = 8 by omega)]
 have okm := hX.m
 have okm' := (actK_all (a := a) hX.okg hX.m).1
 have okk' := (actK_all (a := a) hX.okg hX.k).1
 have lm' := actK_sum (a := a) hX.okg hX.m
 have lk' := actK_sum (a := a) hX.okg hX.k
 have lm := hX.lm
 have lk := hX.lk
 have hst := fun A => mkHelp_K (w0 := w0) (F := A) hG hX.p hX.ok hX.R (by rw [hX.eg, hX.el]; exact hX.m) (by omega)
 rw [hX.eg, hX.el] at hst
 have hrst := fun A => rkHelp_K (w0 := w0) (F := A) hX.okg hX.K hX.k hX.lg.2 hX.W (by omega)
 have hS : actS2 g long S a = ⟨S.W, actK g long S.W S.m a, actK g long S.W S.k a⟩ := by unfold actS2; rw [hA]
 rw [hS, hBk, hBk]
 unfold StepP at hst
 unfold KmO at hrst
 simp only [hK] at *
 have hto := fun k' q' D' kok kto kR hp hK => hX.to (k' := k') (q' := q') (D' := D') kok kto kR okm' hp hK okk' lm' lk'
 obtain ⟨om, hom⟩ : ∃ om, helpM g long S.W S.m = om := ⟨_, rfl⟩
 obtain ⟨ok, hok⟩ : ∃ ok, helpM g long S.W S.k = ok := ⟨_, rfl⟩
 simp only [hom, hok] at *
 obtain ⟨mm, hmm⟩ : ∃ mm, om.getD S.m = mm := ⟨_, rfl⟩
 obtain ⟨kk, hkk⟩ : ∃ kk, ok.getD S.k = kk := ⟨_, rfl⟩
 obtain ⟨bm, hbm⟩ : ∃ bm, om.isSome = bm := ⟨_, rfl⟩
 obtain ⟨bk, hbk⟩ : ∃ bk, ok.isSome = bk := ⟨_, rfl⟩
 simp only [hmm, hkk, hbm, hbk] at *
 clear hA hK hBk hS okm okm' okk' lm' lk' lm lk hom hok hmm hkk hbm hbk
 unfold kmL kwL at hrst
 have hw' : ((a.w : Nat) : Int) % 10 = 9 := by omega
 obtain ⟨B, T, N, k, v, z, q, D⟩ := X
 obtain ⟨aw, sa, ai, at_, ar, au⟩ := a
 dsimp only at *
 unfold wmL mactL at *
 dsimp only at *
 refine zcY ?_; intro b2 b3 b4
 refine zeP ?_
 refine zbW ?_
 refine zbW ?_
 refine zbW ?_
 refine zbh fun T hT => ?_
 rw [wmH_app, seenH_app]
 refine ze8 ?_
 rintro _ _ ⟨rfl, k', kok, kto, kR, rfl⟩
 refine zd ?_
 clear hT T
 refine zdo ?_
 refine zaZ ?_
 refine zB ?_
 refine zZ ?_
 refine zp fun T hT => ?_
 refine (CallV.part (CallV.fn (hrst _)) byPart).mono ?_
 rintro _ _ ⟨q', N1, hK', rfl, rfl⟩
 have p1 := hK'.oc
 have p2 := hK'.G.o1
 have p3 := hK'.G.o2
 have p4 := hK'.G.o3
 have p5 := hK'.oh
 have hX' := hto k' q' (N1 ++ D) kok kto kR byPart hK'
 refine zd ?_
 clear hT T
 refine zai ?_
 refine zaZ ?_
 refine zeJ ?_
 refine zff ?_
 refine zcW ?_
 exact zlM
theorem mdoes_K (hG : Glob w0) (hX : WmR w0 g long nf X S) (ha : a.w < 256) (hu : a.u < 256) :
  Call Tryz.prog w0 46 [.agg (wmL g long X S.k).toArray, .agg (mactL a).toArray] (wmH X ++ F) (WmD w0 g long nf S a F) := by
 rcases (show a.w % 10 = 0 ∨ a.w % 10 = 1 ∨ a.w % 10 = 2 ∨ a.w % 10 = 3 ∨ a.w % 10 = 4 ∨ a.w % 10 = 5 ∨ a.w % 10 = 6 ∨ a.w % 10 = 7 ∨ a.w % 10 = 8 ∨ a.w % 10 = 9 by omega) with h | h | h | h | h | h | h | h | h | h
 ·exact does_0 hG hX ha h
 ·exact does_1 hG hX ha h
 ·exact does_2 hG hX ha h
 ·exact does_3 hG hX ha h
 ·by_cases hin : inS g a.s
  ·exact does_4yes hG hX ha h hin
  ·exact does_4no hG hX ha h hin
 ·exact does_5 hG hX ha h
 ·by_cases hin : inS g a.s
  ·exact does_6yes hG hX ha h hin
  ·exact does_6no hG hX ha h hin
 ·by_cases hin : inS g a.s
  ·exact does_7yes hG hX ha h hin
  ·exact does_7no hG hX ha h hin
 ·exact does_8 hG hX ha h hu
 ·exact does_9 hG hX ha h
end
end Go.Proofs.YtalholahapcpkaaGreatDoor.Sw
