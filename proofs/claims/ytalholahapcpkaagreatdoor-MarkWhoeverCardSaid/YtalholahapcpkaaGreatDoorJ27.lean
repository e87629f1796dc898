/- The walker and the contracts that the law needs, part 27. -/
import Derived.Test.YtalholahapcpkaaGreatDoorD1
import Derived.Test.YtalholahapcpkaaGreatDoorJ24
import Derived.Test.YtalholahapcpkaaGreatDoorJ25
import Derived.Test.YtalholahapcpkaaGreatDoorJ26
namespace Go.Proofs.YtalholahapcpkaaGreatDoor.Sw
open Go.Proofs.YtalholahapcpkaaGreatDoor renaming lo → qL, hi → qH
open Go.RowKit
set_option linter.unusedVariables false
set_option linter.unusedSimpArgs false
set_option maxRecDepth 10000
structure RingR (ring : List Int) (first many : Nat) (q : List Nat) : Prop where
 n : q.length = many
 le : many ≤ ring.length
 lt : first < ring.length
 at_ : ∀ i : Nat, i < many → ring[(first + i) % ring.length]? = (q[i]?).map fun n => ((n : Nat) : Int)
theorem mod_inj {f l i j : Nat} (hi : i < l) (hj : j < l) (h : (f + i) % l = (f + j) % l) : i = j := by
 have h1 := Nat.div_add_mod (f + i) l
 have h2 := Nat.div_add_mod (f + j) l
 rw [h] at h1
 rcases Nat.lt_trichotomy ((f + i) / l) ((f + j) / l) with hh | hh | hh
 ·have := Nat.mul_le_mul_left l (show (f + i) / l + 1 ≤ (f + j) / l from hh)
  rw [Nat.mul_add] at this; omega
 ·rw [hh] at h1; omega
 ·have := Nat.mul_le_mul_left l (show (f + j) / l + 1 ≤ (f + i) / l from hh)
  rw [Nat.mul_add] at this; omega
theorem RingR.put {ring : List Int} {first many : Nat} {q : List Nat} (h : RingR ring first many q) (hl : many < ring.length) (s : Nat) :
  RingR (ring.set ((first + many) % ring.length) (s : Nat)) first (many + 1) (q ++ [s]) := by
 have hlt := Nat.mod_lt (first + many) (show 0 < ring.length by omega)
 refine ⟨by simp [h.n], by simp; omega, by simpa using h.lt, fun i hi => ?_⟩
 simp only [List.length_set]
 have hqn := h.n
 have hfl := h.lt
 by_cases hm : i = many
 ·subst hm
  rw [List.getElem?_set_self hlt, List.getElem?_append_right (by omega)]
  simp [h.n]
 ·rw [List.getElem?_set_ne, List.getElem?_append_left (by rw [h.n]; omega)]
  ·exact h.at_ i (by omega)
  ·intro e; exact hm (mod_inj (by omega) hl e.symm)
theorem RingR.next {ring : List Int} {first many : Nat} {s : Nat} {q : List Nat} (h : RingR ring first many (s :: q)) :
  ring[first]? = some ((s : Nat) : Int) ∧ RingR ring ((first + 1) % ring.length) (many - 1) q := by
 have hn := h.n
 have hlt := h.lt
 have hle := h.le
 simp at hn
 constructor
 ·have := h.at_ 0 (by omega)
  rw [Nat.add_zero, Nat.mod_eq_of_lt hlt] at this
  simpa using this
 ·refine ⟨by omega, by omega, Nat.mod_lt _ (by omega), fun i hi => ?_⟩
  have := h.at_ (i + 1) (by omega)
  rw [show ((first + 1) % ring.length + i) % ring.length = (first + (i + 1)) % ring.length by rw [Nat.mod_add_mod]; congr 1; omega]
  rw [this]; simp
structure GrR (r : GrM) (g : PlG) (G : GyP) : Prop where
 ow : r.ow.bs = G.ow
 di : r.di.bs = G.di
 q : RingR r.ring r.first r.many G.q
 pg : match G.pg with
  | none => r.at_ = r.end_
  | some k => r.at_ = g.fp k + G.at_ ∧ r.end_ = g.fp k + g.mp k
 lo : r.end_ ≤ g.slots
section
variable {w0 : World} {F : Heap} {p : PlanM} {r : GrM} {G : GyP}
theorem owe_K {s k : Nat} (ok : GrOk r p) (hs : s < p.g.slots) (hk : k < p.g.pages) :
  Call Tryz.prog w0 252 [.agg [.pointer (some ⟨r.ow.b, 0, none⟩), .pointer (some ⟨r.di.b, 0, none⟩)].toArray, .int .i64 (s : Nat), .int .i64 (k : Nat)] (rowH r.ow ++ (rowH r.di ++ F))
   (fun v H' => v = .tuple #[] ∧ H' = rowH (setR r.ow s true) ++ (rowH (setR r.di k true) ++ F)) := by
 have k1 := ok.ow
 have k2 := ok.di
 have h1 : s < r.ow.bs.length := by rw [ok.n1]; exact hs
 have h2 : k < r.di.bs.length := by rw [ok.n2]; exact hk
 refine Call.enter3 (n := 14) (by kernel_rfl) Tryz.func252 rfl rfl rfl ?_
 refine zbl ?_; intro b3
 refine zy ?_
 refine zJ ?_
 refine zh fun T hT => ?_
 refine (CallV.part (CallV.fn (Set_K (v := true) k1 h1)) byPart).mono ?_
 refine ze ?_
 clear hT T
 refine zc3 ?_
 refine zU ?_
 refine zh fun T hT => ?_
 refine (CallV.part (CallV.fn (Set_K (v := true) k2 h2)) byPart).mono ?_
 refine ze ?_
 clear hT T
 refine zap ?_
 exact KE.finN byMarks rfl byRes byPart ⟨rfl, rfl⟩
theorem pay_K {s : Nat} (ok : GrOk r p) (hs : s < p.g.slots) :
  Call Tryz.prog w0 256 [.agg [.pointer (some ⟨r.ow.b, 0, none⟩), .pointer (some ⟨r.di.b, 0, none⟩)].toArray, .int .i64 (s : Nat)] (rowH r.ow ++ (rowH r.di ++ F))
   (fun v H' => v = .bool ((r.ow.bs[s]?).getD false) ∧ H' = rowH (setR r.ow s false) ++ (rowH r.di ++ F)) := by
 have k1 := ok.ow
 have k2 := ok.di
 have h1 : s < r.ow.bs.length := by rw [ok.n1]; exact hs
 have hg : getB r.ow.bs (s : Nat) = (r.ow.bs[s]?).getD false := getB_in
 refine Call.enter2 (n := 15) (by kernel_rfl) Tryz.func256 rfl rfl rfl ?_
 refine zg7 ?_; intro b2
 refine zh fun T hT => ?_
 refine (CallV.part (CallV.fn (Get_K (i := (s : Nat)) k1)) byPart).mono ?_
 refine zS ?_
 rw [hg]
 refine zd ?_
 clear hT T
 refine zr ?_
 refine zJ ?_
 refine zh fun T hT => ?_
 refine (CallV.part (CallV.fn (Set_K (v := false) k1 h1)) byPart).mono ?_
 refine ze ?_
 clear hT T
 refine zy ?_
 refine zf ?_
 exact zw
theorem grPut_K {s : Nat} (ok : GrOk r p) (hR : GrR r p.g G) (hs : s < p.g.slots) :
  Call Tryz.prog w0 183 [.pointer (some ⟨r.b, 0, none⟩), .int .i64 (s : Nat)] (greyH r p ++ (planH p ++ F))
   (fun v H' => v = .int .i64 0 ∧ ∃ r', GrOk r' p ∧ r'.b = r.b ∧ r'.ring.length = r.ring.length ∧ GrR r' p.g (putG p.g r.ring.length G s) ∧ H' = greyH r' p ++ (planH p ++ F)) := by
 obtain ⟨y, hy⟩ := L_ex (g := p.g) hs
 have hpg := pgOf_at hy
 have hpb := (pg_of ok.pl.g hy).1
 have okp := ok.pl
 have ho := ok.o
 have hl := ok.l
 have hq := hR.q.n
 have hle := hR.q.le
 have hlt := hR.q.lt
 by_cases hfull : r.many = r.ring.length
 ·have hput : putG p.g r.ring.length G s = { G with ow := G.ow.set s true, di := G.di.set y.page true } := by
   unfold putG; rw [if_neg (by omega), hpg]
  have hf : ((r.many : Nat) : Int) = (r.ring.length : Nat) := by omega
  refine Call.enter2 (n := 68) (by kernel_rfl) Tryz.func183 rfl rfl rfl ?_
  refine zbc fun T hT => ?_
  refine ze9 ?_
  refine ze ?_
  clear hT T
  simp only [greyH_app]
  refine zdz ?_
  refine zfT fun T hT => ?_
  refine (CallV.part (CallV.fn (Page0_K okp hy)) byPart).mono ?_
  refine ze ?_
  clear hT T
  refine zag ?_
  refine zgq ?_
  refine zD ?_
  refine zA ?_
  refine KL.nil (KE.next (K.condF rfl (K.seq ?_)))
  refine zf3 ?_
  refine zK ?_
  refine zht ?_
  refine zbU ?_
  refine zfF ?_
  refine zi8 ?_
  refine zdK ?_
  refine zbm ?_
  refine KE.next (K.condT rfl (K.region ?_))
  refine zX ?_
  refine zaM ?_
  refine zaC fun T hT => ?_
  refine (CallV.part (CallV.fn (owe_K ok hs hpb)) byPart).mono ?_
  refine ze ?_
  clear hT T
  refine zeN ?_
  refine zt ?_
  have hd : r = ⟨r.b, r.ow, r.di, r.ring, r.o, r.first, r.many, r.at_, r.end_⟩ := rfl
  exact KE.fin (H' := greyH ⟨r.b, setR r.ow s true, setR r.di y.page true, r.ring, r.o, r.first, r.many, r.at_, r.end_⟩ p ++ (planH p ++ F)) byMarks rfl byRes (by simp only [greyH_app]; exact byPart)
   ⟨rfl, ⟨r.b, setR r.ow s true, setR r.di y.page true, r.ring, r.o, r.first, r.many, r.at_, r.end_⟩, ⟨okp, setR_ok ok.ow _ _, setR_ok ok.di _ _, ho, by simpa [setR] using ok.n1, by simpa [setR] using ok.n2, hl⟩, rfl, rfl, by
    rw [hput]; exact ⟨by show (r.ow.bs.set s true) = _; rw [hR.ow], by show (r.di.bs.set y.page true) = _; rw [hR.di], hR.q, hR.pg, hR.lo⟩, by simp only [greyH_app]⟩
 ·have hput : putG p.g r.ring.length G s = { G with q := G.q ++ [s] } := by
   unfold putG; rw [if_pos (by omega)]
  have hf : ¬ ((r.many : Nat) : Int) = (r.ring.length : Nat) := by omega
  have hml := Nat.mod_lt (r.first + r.many) (show 0 < r.ring.length by omega)
  have he : (((r.first : Nat) : Int) + ((r.many : Nat) : Int)) % ((r.ring.length : Nat) : Int) = (((r.first + r.many) % r.ring.length : Nat) : Int) := rfl
  obtain ⟨a, ha⟩ : ∃ a, (r.first + r.many) % r.ring.length = a := ⟨_, rfl⟩
  have hring := hR.q.put (by omega) s
  rw [ha] at hml he hring
  have hn0 : ¬ ((r.ring.length : Nat) : Int) = 0 := by omega
  have hn1 : ¬ ((r.ring.length : Nat) : Int) = -1 := by omega
  obtain ⟨z0, hz0⟩ := get_of_lt hml
  have e1 : ((r.many : Nat) : Int) + 1 = ((r.many + 1 : Nat) : Int) := by omega
  refine Call.enter2 (n := 68) (by kernel_rfl) Tryz.func183 rfl rfl rfl ?_
  refine zbc fun T hT => ?_
  refine ze9 ?_
  refine ze ?_
  clear hT T
  simp only [greyH_app]
  refine zdz ?_
  refine zfT fun T hT => ?_
  refine (CallV.part (CallV.fn (Page0_K okp hy)) byPart).mono ?_
  refine ze ?_
  clear hT T
  refine zag ?_
  refine zgq ?_
  refine zD ?_
  refine zA ?_
  refine KL.nil (KE.next (K.condF rfl (K.seq ?_)))
  refine zf3 ?_
  refine zK ?_
  refine zht ?_
  refine zbU ?_
  refine zfF ?_
  refine zi8 ?_
  refine zf7 ?_
  refine zbm ?_
  refine KE.next (K.condF rfl (K.seq ?_))
  refine K.drawn [] [(0, 0), (1, 0), (2, 0), (3, 0), (4, 0), (5, 0), (6, 0), (7, 0), (8, 0), (9, 0), (10, 0), (11, 0), (12, 0), (13, 0), (14, 0), (15, 0), (16, 0), (17, 0), (18, 0), (19, 0), (20, 0), (21, 2)] (by kernel_rfl) (by kernel_rfl) (by kernel_rfl) (by kernel_rfl) (by kernel_rfl) (by kernel_rfl) Part.nil ?_
  refine zK ?_
  refine ziT ?_
  refine zbU ?_
  refine zdJ ?_
  refine zbU ?_
  refine zht ?_
  refine zx ?_
  refine zb1 ?_
  refine zK ?_
  refine zfF ?_
  refine zi8 ?_
  refine KD.v0 rfl rfl (Val.remN rfl rfl (by omega)) ?_
  refine zo ?_
  refine KD.v0 rfl rfl (Val.idxSlZ rfl rfl rfl (Sli.own byTakeL (by assumption) byLen) rfl (by omega)) ?_
  rw [he]
  refine zi1 ?_
  refine zgl ?_
  refine zhR ?_
  refine zX ?_
  refine zaY ?_
  refine zgB ?_
  refine zaY ?_
  refine zN ?_
  refine zeN ?_
  refine zt ?_
  rw [Int.toNat_natCast]
  skip
  exact KE.fin (H' := greyH ⟨r.b, r.ow, r.di, r.ring.set a (s : Nat), r.o, r.first, r.many + 1, r.at_, r.end_⟩ p ++ (planH p ++ F)) byMarks rfl byRes (by simp only [greyH_app, List.length_set]; exact byPart)
   ⟨rfl, ⟨r.b, r.ow, r.di, r.ring.set a (s : Nat), r.o, r.first, r.many + 1, r.at_, r.end_⟩, ⟨okp, ok.ow, ok.di, ho.set _ _, ok.n1, ok.n2, by simpa using hl⟩, rfl, by simp, by
    rw [hput]; exact ⟨hR.ow, hR.di, hring, hR.pg, hR.lo⟩, by simp only [greyH_app]⟩
theorem grNext_K (ok : GrOk r p) (hR : GrR r p.g G) :
  Call Tryz.prog w0 188 [.pointer (some ⟨r.b, 0, none⟩)] (greyH r p ++ F)
   (fun v H' => (G.q = [] ∧ v = .tuple [.int .i64 0, .bool false].toArray ∧ H' = greyH r p ++ F) ∨ ∃ s q r', G.q = s :: q ∧ v = .tuple [.int .i64 (s : Nat), .bool true].toArray ∧ GrOk r' p ∧ r'.b = r.b ∧ r'.ring.length = r.ring.length ∧ GrR r' p.g { G with q := q } ∧ H' = greyH r' p ++ F) := by
 have ho := ok.o
 have hl := ok.l
 have hn := hR.q.n
 have hlt := hR.q.lt
 have hle := hR.q.le
 cases hq : G.q with
 | nil =>
  rw [hq] at hn
  simp at hn
  have hm0 : ((r.many : Nat) : Int) = 0 := by omega
  refine Call.enter1 (n := 47) (by kernel_rfl) Tryz.func188 rfl rfl rfl ?_
  refine zeU fun T hT => ?_
  refine ze9 ?_
  refine ze ?_
  clear hT T
  simp only [greyH_app]
  refine zhM ?_
  refine zaY ?_
  refine zaR ?_
  refine zY ?_
  refine zaz ?_
  refine zeF ?_
  exact KE.fin byMarks rfl byRes (by first | exact byPart | (simp only [greyH_app]; exact byPart)) (.inl ⟨trivial, rfl, rfl⟩)
 | cons s q =>
  have hRq := hR.q
  rw [hq] at hRq
  obtain ⟨hx, hnx⟩ := hRq.next
  rw [hq] at hn
  simp at hn
  have hm0 : ¬ ((r.many : Nat) : Int) = 0 := by omega
  have hml := Nat.mod_lt (r.first + 1) (show 0 < r.ring.length by omega)
  obtain ⟨a, ha⟩ : ∃ a, (r.first + 1) % r.ring.length = a := ⟨_, rfl⟩
  have he : (((r.first : Nat) : Int) + 1) % ((r.ring.length : Nat) : Int) = ((a : Nat) : Int) := by rw [← ha]; rfl
  have e1 : ((r.many : Nat) : Int) - 1 = ((r.many - 1 : Nat) : Int) := by omega
  rw [ha] at hnx hml
  have hn0 : ¬ ((r.ring.length : Nat) : Int) = 0 := by omega
  refine Call.enter1 (n := 47) (by kernel_rfl) Tryz.func188 rfl rfl rfl ?_
  refine zeU fun T hT => ?_
  refine ze9 ?_
  refine ze ?_
  clear hT T
  simp only [greyH_app]
  refine zhM ?_
  refine zaY ?_
  refine zaR ?_
  refine zH ?_
  refine zn ?_
  refine zdF ?_
  refine zf3 ?_
  refine zK ?_
  refine ziT ?_
  refine zbU ?_
  refine zdJ ?_
  refine zx ?_
  refine zdD ?_
  refine zdE ?_
  refine zbm ?_
  refine zbC ?_
  refine K.drawn _ [(0, 0), (1, 1), (2, 0), (3, 0), (4, 0), (5, 0), (6, 0), (7, 0), (8, 0), (9, 0), (10, 0), (11, 0), (12, 0), (13, 0), (14, 0), (15, 0), (16, 0), (17, 1), (18, 0), (19, 0), (20, 2), (21, 0), (22, 0), (23, 2)] (by kernel_rfl) (by kernel_rfl) (by kernel_rfl) (by kernel_rfl) (by kernel_rfl) (by kernel_rfl) (Part.drop Part.all) ?_
  refine zo ?_
  refine zO ?_
  refine zK ?_
  refine zdJ ?_
  refine zx ?_
  refine zb1 ?_
  refine zK ?_
  refine zfF ?_
  refine zi8 ?_
  refine KD.v0 rfl rfl (Val.remN rfl rfl (by omega)) ?_
  refine zK ?_
  refine zht ?_
  refine zx ?_
  refine KD.v1 rfl rfl (Val.sub rfl rfl (by simp only [qL, qH]; omega)) ?_
  refine zca ?_
  refine zdJ ?_
  refine zhU ?_
  refine zcD ?_
  refine zca ?_
  refine zht ?_
  refine zd5 ?_
  refine zd0 ?_
  refine zL ?_
  rw [he, e1]
  exact KE.fin (H' := greyH ⟨r.b, r.ow, r.di, r.ring, r.o, a, r.many - 1, r.at_, r.end_⟩ p ++ F) byMarks rfl byRes (by simp only [greyH_app]; exact byPart)
   (.inr ⟨s, q, ⟨r.b, r.ow, r.di, r.ring, r.o, a, r.many - 1, r.at_, r.end_⟩, rfl, rfl, ⟨ok.pl, ok.ow, ok.di, ho, ok.n1, ok.n2, hl⟩, rfl, rfl, ⟨hR.ow, hR.di, hnx, hR.pg, hR.lo⟩, by simp only [greyH_app]⟩)
structure GwA where
 r : GrM
 k : Nat
 G : GyP
theorem walk_no {g : PlG} (h1 : G.pg = none) (h2 : G.q ≠ [] ∨ nextB G.di 0 true = none) : walkG g G = none := by
 unfold walkG openG
 rw [h1]
 dsimp only
 cases hq : G.q with
 | cons s q => rfl
 | nil =>
  rcases h2 with h | h
  ·exact absurd hq h
  ·rw [h]; rfl
set_option maxHeartbeats 4000000 in
theorem grWalk_K (hG : Glob w0) (ok : GrOk r p) (hR : GrR r p.g G) (hok : GyOk p.g r.ring.length G) :
  Call Tryz.prog w0 192 [.pointer (some ⟨r.b, 0, none⟩)] (greyH r p ++ (planH p ++ F))
   (fun v H' => (walkG p.g G = none ∧ v = .tuple [.int .i64 0, .bool false, .bool false].toArray ∧ H' = greyH r p ++ (planH p ++ F)) ∨ ∃ o G' r', walkG p.g G = some (o, G') ∧ v = .tuple [.int .i64 (nxI o), .bool o.isSome, .bool true].toArray ∧ GrOk r' p ∧ r'.b = r.b ∧ r'.ring.length = r.ring.length ∧ GrR r' p.g G' ∧ H' = greyH r' p ++ (planH p ++ F)) := by
 have okp := ok.pl
 have ho := ok.o
 have hl := ok.l
 have k1 := ok.ow
 have k2 := ok.di
 have hqn := hR.q.n
 have hsl := okp.g.slots
 refine Call.enter1 (n := 85) (by kernel_rfl) Tryz.func192 rfl rfl rfl ?_
 refine zfN ?_
 refine zdP fun T hT => ?_
 refine ze9 ?_
 refine ze ?_
 clear hT T
 simp only [greyH_app]
 refine zd9 ?_
 refine K.cutT (σ := GwA) [(0, _)] bySub (fun s kp_ => kp_) (fun s => greyH s.r p ++ (planH p ++ F)) (fun s => GrOk s.r p ∧ GrR s.r p.g s.G ∧ GyOk p.g r.ring.length s.G ∧ s.G.pg = some s.k ∧ openG G = some (s.k, s.G) ∧ s.r.b = r.b ∧ s.r.ring.length = r.ring.length) ?_ ?_
 ·cases hp : G.pg with
  | some k =>
   have hpg := hR.pg
   rw [hp] at hpg
   obtain ⟨a1, a2⟩ := hpg
   have hlt := (hok.pg k hp).2
   have hne : ¬ ((r.at_ : Nat) : Int) = (r.end_ : Nat) := by omega
   refine K.seq ?_
   refine ziR ?_
   refine zK ?_
   refine KD.v0 rfl rfl (Val.fieldAddr0 (k := 6) rfl rfl) ?_
   refine zbU ?_
   refine zi9 ?_
   refine zx ?_
   refine zf7 ?_
   refine zV ?_
   refine zgQ ?_
   exact KE.meet ⟨r, k, G⟩ bySub (by first | exact byPart | (simp only [greyH_app]; exact byPart)) ⟨ok, hR, hok, hp, by unfold openG; rw [hp], rfl, rfl⟩
  | none =>
   have hpg := hR.pg
   rw [hp] at hpg
   dsimp only at hpg
   have hne : ((r.at_ : Nat) : Int) = (r.end_ : Nat) := by omega
   refine K.seq ?_
   refine ziR ?_
   refine zK ?_
   refine KD.v0 rfl rfl (Val.fieldAddr0 (k := 6) rfl rfl) ?_
   refine zbU ?_
   refine zi9 ?_
   refine zx ?_
   refine zdK ?_
   refine zdY ?_
   refine zX ?_
   refine zaM ?_
   refine zcf fun T hT => ?_
   refine (CallV.part (CallV.fn (Next_K (k := 0) (v := true) k2 hG (by omega))) byPart).mono ?_
   refine zS ?_
   rw [hR.di]
   refine zd ?_
   clear hT T
   cases hq : G.q with
   | cons s q =>
    rw [hq] at hqn
    simp at hqn
    have hm : ((r.many : Nat) : Int) > 0 := by omega
    refine zG ?_
    refine zac ?_
    refine zaY ?_
    refine zk ?_
    refine zcb ?_
    refine zcs ?_
    refine z7 ?_
    refine zey ?_
    refine zaH ?_
    exact KE.fin byMarks rfl byRes (by first | exact byPart | (simp only [greyH_app]; exact byPart)) (.inl ⟨walk_no hp (.inl (by rw [hq]; simp)), rfl, rfl⟩)
   | nil =>
    rw [hq] at hqn
    simp at hqn
    have hm : ¬ ((r.many : Nat) : Int) > 0 := by omega
    cases hn : nextB G.di 0 true with
    | none =>
     unfold nxI
     dsimp only [Option.isSome, Option.getD]
     refine zG ?_
     refine zac ?_
     refine zaY ?_
     refine zk ?_
     refine zae ?_
     refine zaa ?_
     refine zbA ?_
     refine zaz ?_
     refine zey ?_
     refine zaH ?_
     exact KE.fin byMarks rfl byRes (by first | exact byPart | (simp only [greyH_app]; exact byPart)) (.inl ⟨walk_no hp (.inr hn), rfl, rfl⟩)
    | some j =>
     obtain ⟨n1, n2, n3, n4⟩ := nextB_of hn
     have hj : j < p.g.pages := by rw [← hok.di]; exact n1
     have hj2 : j < r.di.bs.length := by rw [ok.n2]; exact hj
     obtain ⟨b1, b2, b3⟩ := mp_bnd okp.g hj
     have e1 : ((p.g.fp j : Nat) : Int) + ((p.g.mp j : Nat) : Int) = ((p.g.fp j + p.g.mp j : Nat) : Int) := by omega
     have hop : openG G = some (j, { G with di := G.di.set j false, pg := some j, at_ := 0 }) := by unfold openG; rw [hp, hq]; dsimp only; rw [hn]
     have hok1 := (open_left okp.g hok hop).1
     unfold nxI
     dsimp only [Option.isSome, Option.getD]
     refine zG ?_
     refine zac ?_
     refine zaY ?_
     refine zk ?_
     refine zae ?_
     refine zaa ?_
     refine zF ?_
     refine zan ?_
     refine zX ?_
     refine zaM ?_
     refine zU ?_
     refine zh fun T hT => ?_
     refine (CallV.part (CallV.fn (Set_K (v := false) k2 hj2)) byPart).mono ?_
     refine ze ?_
     clear hT T
     refine zy ?_
     refine zX ?_
     refine zfT fun T hT => ?_
     refine (CallV.part (CallV.fn (In_K okp hj)) byPart).mono ?_
     refine ze ?_
     clear hT T
     refine zcN ?_
     refine zdo ?_
     refine zj ?_
     refine zbI ?_
     refine zQ ?_
     refine zac ?_
     refine ze3 ?_
     refine zN ?_
     refine zac ?_
     refine zaL ?_
     refine zN ?_
     refine zap ?_
     rw [e1]
     exact KE.meet ⟨⟨r.b, r.ow, setR r.di j false, r.ring, r.o, r.first, r.many, p.g.fp j, p.g.fp j + p.g.mp j⟩, j, { G with di := G.di.set j false, pg := some j, at_ := 0 }⟩ bySub (by first | exact byPart | (simp only [greyH_app]; exact byPart))
      ⟨⟨okp, k1, setR_ok k2 _ _, ho, ok.n1, by simpa [setR] using ok.n2, hl⟩, ⟨hR.ow, by show r.di.bs.set j false = _; rw [hR.di], by rw [hq]; have := hR.q; rwa [hq] at this, ⟨rfl, rfl⟩, by show p.g.fp j + p.g.mp j ≤ _; omega⟩, hok1, rfl, hop, rfl, rfl⟩
 ·rintro ⟨r1, k, G1⟩ ⟨ok1, hR1, hok1, hk1, hop, hb1, hl1⟩
  dsimp only at ok1 hR1 hok1 hk1 hop hb1 hl1 ⊢
  have hpg := hR1.pg
  rw [hk1] at hpg
  obtain ⟨a1, a2⟩ := hpg
  obtain ⟨c1, c2⟩ := hok1.pg k hk1
  obtain ⟨b1, b2, b3⟩ := mp_bnd okp.g c1
  have ho1 := ok1.o
  have hs : r1.at_ < p.g.slots := by omega
  have e1 : ((r1.at_ : Nat) : Int) + 1 = ((r1.at_ + 1 : Nat) : Int) := by omega
  have hsl1 : r1.at_ < r1.ow.bs.length := by rw [ok1.n1]; exact hs
  obtain ⟨wb, hwb⟩ := get_of_lt hsl1
  have hwG : (G1.ow[p.g.fp k + G1.at_]?).getD false = wb := by rw [← hR1.ow, ← a1, hwb]; rfl
  have hw : walkG p.g G = some (walk1 p.g k G1) := by unfold walkG; rw [hop]; rfl
  have hn1 : GrOk ⟨r1.b, setR r1.ow r1.at_ false, r1.di, r1.ring, r1.o, r1.first, r1.many, r1.at_ + 1, r1.end_⟩ p := ⟨okp, setR_ok ok1.ow _ _, ok1.di, ho1, by simpa [setR] using ok1.n1, ok1.n2, ok1.l⟩
  have hn2 : GrR ⟨r1.b, setR r1.ow r1.at_ false, r1.di, r1.ring, r1.o, r1.first, r1.many, r1.at_ + 1, r1.end_⟩ p.g (walk1 p.g k G1).2 := by
   refine ⟨by show r1.ow.bs.set r1.at_ false = _; rw [hR1.ow, a1]; rfl, hR1.di, hR1.q, ?_, hR1.lo⟩
   unfold walk1
   dsimp only
   by_cases h : G1.at_ + 1 = p.g.mp k
   ·rw [if_pos h]; dsimp only; omega
   ·rw [if_neg h, if_neg h]; dsimp only; omega
  rw [← hb1]
  rw [hw]
  unfold walk1 at hn2 ⊢
  rw [hwG] at hn2 ⊢
  simp only [greyH_app]
  refine zq ?_
  refine zX ?_
  refine zem ?_
  refine zav ?_
  refine zac ?_
  refine ze3 ?_
  refine zgB ?_
  refine ze3 ?_
  refine zN ?_
  refine zbM ?_
  refine zX ?_
  refine zaM ?_
  refine zz fun T hT => ?_
  rw [e1]
  refine (CallV.part (CallV.fn (pay_K ok1 hs)) byPart).mono ?_
  refine zS ?_
  rw [hwb]
  dsimp only [Option.getD]
  refine zd ?_
  clear hT T
  cases wb with
  | true =>
   refine zaG ?_
   refine zf ?_
   refine zA ?_
   refine zL ?_
   exact KE.fin (H' := greyH ⟨r1.b, setR r1.ow r1.at_ false, r1.di, r1.ring, r1.o, r1.first, r1.many, r1.at_ + 1, r1.end_⟩ p ++ (planH p ++ F)) byMarks rfl byRes (by simp only [greyH_app]; exact byPart)
    (.inr ⟨_, _, ⟨r1.b, setR r1.ow r1.at_ false, r1.di, r1.ring, r1.o, r1.first, r1.many, r1.at_ + 1, r1.end_⟩, rfl, by simp only [if_true, nxI, Option.isSome, Option.getD, a1]; rfl, hn1, rfl, hl1, hn2, by simp only [greyH_app]⟩)
  | false =>
   refine zat ?_
   refine zey ?_
   exact KE.fin (H' := greyH ⟨r1.b, setR r1.ow r1.at_ false, r1.di, r1.ring, r1.o, r1.first, r1.many, r1.at_ + 1, r1.end_⟩ p ++ (planH p ++ F)) byMarks rfl byRes (by simp only [greyH_app]; exact byPart)
    (.inr ⟨_, _, ⟨r1.b, setR r1.ow r1.at_ false, r1.di, r1.ring, r1.o, r1.first, r1.many, r1.at_ + 1, r1.end_⟩, rfl, by simp only [nxI, Bool.false_eq_true, if_false, Option.isSome, Option.getD]; rfl, hn1, rfl, hl1, hn2, by simp only [greyH_app]⟩)
theorem grOwed_K (ok : GrOk r p) :
  Call Tryz.prog w0 195 [.pointer (some ⟨r.b, 0, none⟩)] (greyH r p ++ F) (fun v H' => v = .int .i64 (r.ow.bs.count true : Nat) ∧ H' = greyH r p ++ F) := by
 have k1 := ok.ow
 refine Call.enter1 (n := 11) (by kernel_rfl) Tryz.func195 rfl rfl rfl ?_
 refine zbc fun T hT => ?_
 refine ze9 ?_
 refine ze ?_
 clear hT T
 simp only [greyH_app]
 refine zdz ?_
 refine zaM ?_
 refine zeQ fun T hT => ?_
 refine (CallV.part (CallV.fn (Count_K k1)) byPart).mono ?_
 refine ze ?_
 clear hT T
 refine zt ?_
 exact zh6
theorem grEmpty_K (hG : Glob w0) (ok : GrOk r p) (hR : GrR r p.g G) (hok : GyOk p.g r.ring.length G) :
  Call Tryz.prog w0 116 [.pointer (some ⟨r.b, 0, none⟩)] (greyH r p ++ F)
   (fun v H' => v = .bool (emptyG G) ∧ H' = greyH r p ++ F) := by
 have hqn := hR.q.n
 have ho := ok.o
 have hpg := hR.pg
 by_cases hm : r.many = 0
 ·have hq : G.q = [] := by rw [hm] at hqn; exact List.length_eq_zero_iff.1 hqn
  have hm' : ((r.many : Nat) : Int) = 0 := by omega
  by_cases he : r.at_ = r.end_
  ·have he' : ((r.at_ : Nat) : Int) = (r.end_ : Nat) := by omega
   have hpn : G.pg = none := by
    cases hp : G.pg with
    | none => rfl
    | some k =>
     rw [hp] at hpg
     dsimp only at hpg
     have := (hok.pg k hp).2
     omega
   have hem : emptyG G = decide (((r.ow.bs.count true : Nat) : Int) = 0) := by
    unfold emptyG
    rw [hq, hpn, hR.ow]
    simp only [List.isEmpty_nil, Option.isNone_none, Bool.and_true, Bool.true_and]
    exact decide_eq_decide.2 (by omega)
   rw [hem]
   refine zkj ?_
   refine zaj ?_
   refine zcF ?_
   refine zkk ?_
   refine zo ?_
   refine zl fun T hT => ?_
   refine ze9 ?_
   refine zab ?_
   clear hT T
   simp only [greyH_app]
   refine zbd ?_
   refine ze0 ?_
   refine zja ?_
   refine zbk ?_
   refine zhs ?_
   refine zez ?_
   refine ze0 ?_
   refine KD.y0 rfl rfl rfl rfl (Val.fieldAddr0 (k := 6) rfl rfl) ?_
   refine zfy ?_
   refine KD.y0 rfl rfl rfl rfl (Val.fieldAddr0 (k := 7) rfl rfl) ?_
   refine zbk ?_
   refine zhs ?_
   refine zh1 ?_
   refine zez ?_
   refine zb2 fun T hT => ?_
   refine (CallV.part (CallV.fn (grOwed_K ok)) (by first | exact byPart | (simp only [greyH_app]; exact byPart))).mono ?_
   refine zab ?_
   clear hT T
   refine KD.y0 rfl rfl rfl rfl (Val.eql rfl rfl) ?_
   refine zh1 ?_
   refine za9 ?_
   refine za2 ?_
   exact zh6
  ·have he' : ¬ ((r.at_ : Nat) : Int) = (r.end_ : Nat) := by omega
   have hem : emptyG G = false := by
    cases hp : G.pg with
    | none => rw [hp] at hpg; exact absurd hpg he
    | some k => unfold emptyG; rw [hp]; simp
   rw [hem]
   refine zkj ?_
   refine zaj ?_
   refine zcF ?_
   refine zkk ?_
   refine zo ?_
   refine zl fun T hT => ?_
   refine ze9 ?_
   refine zab ?_
   clear hT T
   simp only [greyH_app]
   refine zbd ?_
   refine ze0 ?_
   refine zja ?_
   refine zbk ?_
   refine zhs ?_
   refine zez ?_
   refine ze0 ?_
   refine KD.y0 rfl rfl rfl rfl (Val.fieldAddr0 (k := 6) rfl rfl) ?_
   refine zfy ?_
   refine KD.y0 rfl rfl rfl rfl (Val.fieldAddr0 (k := 7) rfl rfl) ?_
   refine zbk ?_
   refine zke ?_
   refine zh1 ?_
   refine zaX ?_
   refine zbD ?_
   refine zeg ?_
   refine zbD ?_
   refine ziS ?_
   refine za9 ?_
   refine za2 ?_
   exact zh6
 ·have hm' : ¬ ((r.many : Nat) : Int) = 0 := by omega
  have hem : emptyG G = false := by
   cases hq : G.q with
   | nil => rw [hq] at hqn; simp at hqn; omega
   | cons s q => unfold emptyG; rw [hq]; rfl
  rw [hem]
  refine zkj ?_
  refine zaj ?_
  refine zcF ?_
  refine zkk ?_
  refine zo ?_
  refine zl fun T hT => ?_
  refine ze9 ?_
  refine zab ?_
  clear hT T
  simp only [greyH_app]
  refine zbd ?_
  refine ze0 ?_
  refine zja ?_
  refine zbk ?_
  refine zke ?_
  refine zaX ?_
  refine zcv ?_
  refine zcv ?_
  refine zbD ?_
  refine ziS ?_
  refine zaX ?_
  refine zbD ?_
  refine zeg ?_
  refine zbD ?_
  refine ziS ?_
  refine za9 ?_
  refine za2 ?_
  exact zh6
end
open Go.RowKit
set_option maxRecDepth 10000
inductive RchM (g : PlG) (W : MwP) : Nat → Prop
 | root {r s : Nat} : r < W.T.length + g.slots → rootSl g W r = some (s : Nat) → RchM g W s
 | edge {s t : Nat} {i : Int} : RchM g W s → refO g W.x (s : Nat) i = some (t : Nat) → RchM g W t
def NW (m : MaP) (s : Nat) : Prop := ∃ c, m.C[s]? = some c ∧ c ≠ 0
def Lst (m : MaP) (s : Nat) : Prop := s ∈ m.G.q ∨ m.G.ow[s]? = some true ∨ ∃ (k : Nat) (h : HanP), m.hs[k]? = some h ∧ h.is = true ∧ h.slot = (s : Nat)
def Uns (m : MaP) (s : Nat) (i : Int) : Prop := s ∈ m.G.q ∨ m.G.ow[s]? = some true ∨ ∃ (k : Nat) (h : HanP), m.hs[k]? = some h ∧ h.is = true ∧ h.slot = (s : Nat) ∧ h.field ≤ i
structure MaIn (m : MaP) : Prop where
 grey : ∀ s, m.C[s]? = some 1 → Lst m s
 lst : ∀ s, Lst m s → NW m s
inductive Prot (g : PlG) (W : MwP) (m : MaP) : Nat → Prop
 | col {s : Nat} : NW m s → Prot g W m s
 | root {r s : Nat} : m.root ≤ r → r < W.T.length + g.slots → rootSl g W r = some (s : Nat) → Prot g W m s
 | wht {t s : Nat} {i : Int} : Prot g W m t → m.C[t]? = some 0 → refO g W.x (t : Nat) i = some (s : Nat) → Prot g W m s
 | fld {t s : Nat} {i : Int} : Uns m t i → refO g W.x (t : Nat) i = some (s : Nat) → Prot g W m s
structure Keep (g : PlG) (W W' : MwP) (m m' : MaP) : Prop where
 nw : ∀ s, NW m s → NW m' s
 rt : ∀ r s : Nat, m.root ≤ r → r < W.T.length + g.slots → rootSl g W r = some (s : Nat) → NW m' s ∨ (m'.root ≤ r ∧ r < W'.T.length + g.slots ∧ rootSl g W' r = some (s : Nat))
 wt : ∀ (t s : Nat) (i : Int), m.C[t]? = some 0 → refO g W.x (t : Nat) i = some (s : Nat) → NW m' s ∨ ((m'.C[t]? = some 0 ∨ Uns m' t i) ∧ refO g W'.x (t : Nat) i = some (s : Nat))
 fd : ∀ (t s : Nat) (i : Int), Uns m t i → refO g W.x (t : Nat) i = some (s : Nat) → NW m' s ∨ (Uns m' t i ∧ refO g W'.x (t : Nat) i = some (s : Nat))
def OnlyR (g : PlG) (W : MwP) (m : MaP) : Prop := ∀ s, NW m s → RchM g W s
section
variable {g : PlG} {long : Nat} {W W' W'' : MwP} {m m' m'' : MaP}
theorem Keep.refl : Keep g W W m m := ⟨fun _ h => h, fun r s h1 h2 h3 => .inr ⟨h1, h2, h3⟩, fun t s i h1 h2 => .inr ⟨.inl h1, h2⟩, fun t s i h1 h2 => .inr ⟨h1, h2⟩⟩
theorem Keep.trans (h : Keep g W W' m m') (h' : Keep g W' W'' m' m'') : Keep g W W'' m m'' := by
 refine ⟨fun s hs => h'.nw s (h.nw s hs), fun r s h1 h2 h3 => ?_, fun t s i h1 h2 => ?_, fun t s i h1 h2 => ?_⟩
 ·rcases h.rt r s h1 h2 h3 with a | ⟨a, b, c⟩
  ·exact .inl (h'.nw s a)
  ·exact h'.rt r s a b c
 ·rcases h.wt t s i h1 h2 with a | ⟨a | a, b⟩
  ·exact .inl (h'.nw s a)
  ·exact h'.wt t s i a b
  ·rcases h'.fd t s i a b with c | ⟨c, d⟩
   ·exact .inl c
   ·exact .inr ⟨.inr c, d⟩
 ·rcases h.fd t s i h1 h2 with a | ⟨a, b⟩
  ·exact .inl (h'.nw s a)
  ·exact h'.fd t s i a b
theorem Prot.keep (k : Keep g W W' m m') {s : Nat} (h : Prot g W m s) : Prot g W' m' s := by
 induction h with
 | col h => exact .col (k.nw _ h)
 | root h1 h2 h3 =>
  rcases k.rt _ _ h1 h2 h3 with a | ⟨a, b, c⟩
  ·exact .col a
  ·exact .root a b c
 | wht h1 h2 h3 ih =>
  rcases k.wt _ _ _ h2 h3 with a | ⟨a | a, b⟩
  ·exact .col a
  ·exact .wht ih a b
  ·exact .fld a b
 | fld h1 h2 =>
  rcases k.fd _ _ _ h1 h2 with a | ⟨a, b⟩
  ·exact .col a
  ·exact .fld a b
theorem Uns.lst {s : Nat} {i : Int} (h : Uns m s i) : Lst m s := by
 rcases h with h | h | ⟨k, x, h1, h2, h3, h4⟩
 ·exact .inl h
 ·exact .inr (.inl h)
 ·exact .inr (.inr ⟨k, x, h1, h2, h3⟩)
theorem NW.not {s : Nat} (h : NW m s) : m.C[s]? ≠ some 0 := by
 obtain ⟨c, h1, h2⟩ := h
 rw [h1]; intro e; cases e; exact h2 rfl
theorem nw_or (hC : m.C.length = g.slots) {s : Nat} (hs : s < g.slots) : m.C[s]? = some 0 ∨ NW m s := by
 obtain ⟨c, hc⟩ := get_of_lt (l := m.C) (k := s) (by omega)
 by_cases h : c = 0
 ·left; rw [hc, h]
 ·exact .inr ⟨c, hc, h⟩
theorem put_lst {G : GyP} (ok : PlOk g) (hG : GyOk g long G) {n : Nat} (hn : n < g.slots) : (n ∈ (putG g long G n).q ∨ (putG g long G n).ow[n]? = some true) ∧ (∀ s, s ∈ G.q → s ∈ (putG g long G n).q) ∧ (∀ s : Nat, G.ow[s]? = some true → (putG g long G n).ow[s]? = some true) ∧
  (∀ s, s ∈ (putG g long G n).q → s ∈ G.q ∨ s = n) ∧ (∀ s : Nat, (putG g long G n).ow[s]? = some true → G.ow[s]? = some true ∨ s = n) := by
 unfold putG
 split
 ·exact ⟨.inl (List.mem_append_right _ (.head _)), fun s h => List.mem_append_left _ h, fun s h => h, fun s h => by
   rcases List.mem_append.1 h with h | h
   ·exact .inl h
   ·exact .inr (List.mem_singleton.1 h), fun s h => .inl h⟩
 ·have hl : n < G.ow.length := by rw [hG.ow]; exact hn
  refine ⟨.inr (List.getElem?_set_self hl), fun s h => h, fun s h => ?_, fun s h => .inl h, fun s h => ?_⟩
  ·by_cases e : s = n
   ·subst e; exact List.getElem?_set_self hl
   ·show (G.ow.set n true)[s]? = _
    rw [List.getElem?_set_ne (by omega)]
    exact h
  ·by_cases e : s = n
   ·exact .inr e
   ·change (G.ow.set n true)[s]? = _ at h
    rw [List.getElem?_set_ne (by omega)] at h; exact .inl h
theorem shade_keep (ok : PlOk g) (hm : MaOk g long W m) (hi : MaIn m) (s : Int) :
  MaIn (shadeM g long m s) ∧ Keep g W' W' m (shadeM g long m s) ∧ (∀ n : Nat, s = n → n < g.slots → NW (shadeM g long m s) n) ∧ (∀ n : Nat, NW (shadeM g long m s) n → NW m n ∨ s = n) := by
 unfold shadeM
 split
 ·rename_i h
  obtain ⟨n, rfl⟩ : ∃ n : Nat, s = n := ⟨s.toNat, by omega⟩
  simp only [Int.toNat_natCast] at h ⊢
  have hn : n < m.C.length := lt_of_get h.2
  have hns : n < g.slots := by rw [← hm.C]; exact hn
  obtain ⟨p1, p2, p3, p4, p5⟩ := put_lst ok hm.G hns
  obtain ⟨m1, hm1⟩ : ∃ m1, m1 = { m with C := m.C.set n 1, G := putG g long m.G n } := ⟨_, rfl⟩
  have eC : m1.C = m.C.set n 1 := by rw [hm1]
  have eG : m1.G = putG g long m.G n := by rw [hm1]
  have eh : m1.hs = m.hs := by rw [hm1]
  have er : m1.root = m.root := by rw [hm1]
  rw [← hm1]
  have hself : m1.C[n]? = some 1 := by rw [eC]; exact List.getElem?_set_self hn
  have hne : ∀ t, t ≠ n → m1.C[t]? = m.C[t]? := fun t ht => by rw [eC, List.getElem?_set_ne (by omega)]
  have hnw : ∀ t, NW m t → NW m1 t := fun t ⟨c, h1, h2⟩ => by
   by_cases e : t = n
   ·rw [e]
    exact ⟨1, hself, by decide⟩
   ·exact ⟨c, by rw [hne t e]; exact h1, h2⟩
  have hul : ∀ t i, Uns m t i → Uns m1 t i := fun t i hu => by
   rcases hu with h | h | ⟨k, x, h1, h2, h3, h4⟩
   ·exact .inl (by rw [eG]; exact p2 t h)
   ·exact .inr (.inl (by rw [eG]; exact p3 t h))
   ·exact .inr (.inr ⟨k, x, by rw [eh]; exact h1, h2, h3, h4⟩)
  have hun : ∀ i, Uns m1 n i := fun i => by
   rcases p1 with h | h
   ·exact .inl (by rw [eG]; exact h)
   ·exact .inr (.inl (by rw [eG]; exact h))
  have hll : ∀ t, Lst m t → Lst m1 t := fun t hu => by
   rcases hu with h | h | ⟨k, x, h1, h2, h3⟩
   ·exact .inl (by rw [eG]; exact p2 t h)
   ·exact .inr (.inl (by rw [eG]; exact p3 t h))
   ·exact .inr (.inr ⟨k, x, by rw [eh]; exact h1, h2, h3⟩)
  refine ⟨⟨fun t ht => ?_, fun t ht => ?_⟩, ⟨hnw, fun r t h1 h2 h3 => .inr ⟨by rw [er]; exact h1, h2, h3⟩, fun t u i h1 h2 => ?_, fun t u i h1 h2 => .inr ⟨hul t i h1, h2⟩⟩, fun k hk hks => ?_, fun t ht => ?_⟩
  ·by_cases e : t = n
   ·rw [e]
    exact (hun 0).lst
   ·rw [hne t e] at ht; exact hll t (hi.grey t ht)
  ·by_cases e : t = n
   ·rw [e]
    exact ⟨1, hself, by decide⟩
   ·have : Lst m t := by
     rcases ht with h | h | ⟨k, x, h1, h2, h3⟩
     ·rw [eG] at h
      rcases p4 t h with h | h
      ·exact .inl h
      ·exact absurd h e
     ·rw [eG] at h
      rcases p5 t h with h | h
      ·exact .inr (.inl h)
      ·exact absurd h e
     ·exact .inr (.inr ⟨k, x, by rw [← eh]; exact h1, h2, h3⟩)
    exact hnw t (hi.lst t this)
  ·refine .inr ⟨?_, h2⟩
   by_cases e : t = n
   ·rw [e]
    exact .inr (hun i)
   ·left; rw [hne t e]; exact h1
  ·obtain rfl : n = k := by omega
   exact ⟨1, hself, by decide⟩
  ·by_cases e : t = n
   ·right; rw [e]
   ·left
    obtain ⟨c, h1, h2⟩ := ht
    exact ⟨c, by rw [← hne t e]; exact h1, h2⟩
 ·rename_i h
  refine ⟨hi, Keep.refl, fun n hn hs => ?_, fun n hn => .inl hn⟩
  subst hn
  simp only [Int.toNat_natCast] at h
  rcases nw_or hm.C hs with h0 | h0
  ·exact absurd ⟨by omega, h0⟩ h
  ·exact h0
theorem shadeO_keep (ok : PlOk g) (hm : MaOk g long W m) (hi : MaIn m) (o : Option Int) :
  MaIn (shadeO g long m o) ∧ Keep g W' W' m (shadeO g long m o) ∧ (∀ n : Nat, o = some ((n : Nat) : Int) → n < g.slots → NW (shadeO g long m o) n) ∧ (∀ n : Nat, NW (shadeO g long m o) n → NW m n ∨ o = some ((n : Nat) : Int)) := by
 cases o with
 | none => exact ⟨hi, Keep.refl, fun n hn => (by cases hn), fun n hn => .inl hn⟩
 | some s =>
  obtain ⟨h1, h2, h3, h4⟩ := shade_keep (W' := W') ok hm hi s
  exact ⟨h1, h2, fun n hn => h3 n (by simpa using hn), fun n hn => by
   rcases h4 n hn with h | h
   ·exact .inl h
   ·right; rw [h]⟩
theorem refO_in {x : List Int} {s : Nat} {i to : Int} (h : refO g x (s : Nat) i = some to) (hx : WdOk x) : 0 ≤ to ∧ to < (g.slots : Nat) ∧ 0 ≤ i ∧ i < refsN x (slotA g (s : Nat)) := by
 unfold refO at h
 split at h
 ·rename_i hc
  cases h
  unfold refP at hc ⊢
  split at hc
  ·rename_i hf
   rw [if_pos hf]
   obtain ⟨f1, _, _⟩ := fld_in hf
   have hr : i < refsN x (slotA g (s : Nat)) := by
    unfold fldP at hf
    unfold refsN
    cases hh : headP x (slotA g (s : Nat)) with
    | none => rw [hh] at hf; simp at hf
    | some h =>
     rw [hh] at hf
     dsimp only at hf ⊢
     split at hf
     ·rename_i h3; simpa using h3.2.2
     ·simp at hf
   split at hc
   ·simp at hc
   ·rename_i hw
    rw [if_neg hw]
    dsimp only at hc ⊢
    refine ⟨hc.2, ?_, f1, hr⟩
    omega
  ·rename_i hf
   exact absurd hc.1 hf
 ·cases h
theorem rootSl_in (hW : MwOk g W) {r : Nat} {to : Int} (hr : r < W.T.length + g.slots) (h : rootSl g W r = some to) : 0 ≤ to ∧ to < (g.slots : Nat) := by
 unfold rootSl at h
 cases hT : W.T[r]? with
 | some e =>
  rw [hT] at h
  dsimp only at h
  split at h
  ·rename_i he
   cases h
   exact hW.t e (List.mem_of_getElem? hT) he
  ·cases h
 | none =>
  rw [hT] at h
  dsimp only at h
  split at h
  ·cases h
   have := List.getElem?_eq_none_iff.1 hT
   omega
  ·cases h
theorem shadeO_root (o : Option Int) (r : Nat) : shadeO g long { m with root := r } o = { shadeO g long m o with root := r } := by
 cases o with
 | none => rfl
 | some s => show shadeM g long _ s = _; unfold shadeO shadeM; dsimp only; split <;> rfl
structure Mic (g : PlG) (W : MwP) (m m' : MaP) : Prop where
 i : MaIn m'
 k : Keep g W W m m'
 o : OnlyR g W m → OnlyR g W m'
theorem root_mic (ok : PlOk g) (hm : MaOk g long W m) (hW : MwOk g W) (hi : MaIn m) (h : rootM g long W m = some m') : Mic g W m m' := by
 unfold rootM at h
 split at h
 ·rename_i hr
  cases h
  rw [shadeO_root]
  obtain ⟨h1, h2, h3, h4⟩ := shadeO_keep (W' := W) ok hm hi (rootSl g W m.root)
  obtain ⟨q1, q2, q3, q4⟩ := shadeO_hs (g := g) (long := long) (m := m) (rootSl g W m.root)
  obtain ⟨m1, hm1⟩ : ∃ m1, m1 = shadeO g long m (rootSl g W m.root) := ⟨_, rfl⟩
  rw [← hm1] at h1 h2 h3 h4 q2 ⊢
  refine ⟨⟨h1.grey, h1.lst⟩, h2.trans ⟨fun s h => h, fun r s a b c => ?_, fun t s i a b => .inr ⟨.inl a, b⟩, fun t s i a b => .inr ⟨a, b⟩⟩, fun ho s hs => ?_⟩
  ·by_cases e : r = m.root
   ·subst e
    have := rootSl_in hW b c
    exact .inl (h3 s c (by omega))
   ·right
    exact ⟨by show m.root + 1 ≤ r; omega, b, c⟩
  ·rcases h4 s hs with a | a
   ·exact ho s a
   ·exact .root hr a
 ·cases h
theorem take_mic (hm : MaOk g long W m) (hW : MwOk g W) (hi : MaIn m) {k : Nat} (hk : k < m.hs.length) (h : takeM m k = some m') : Mic g W m m' := by
 unfold takeM at h
 split at h
 ·cases h
 ·rename_i hn
  cases hq : m.G.q with
  | nil => rw [hq] at h; cases h
  | cons s q =>
   rw [hq] at h
   cases h
   have hne : ∀ (j : Nat) (x : HanP), m.hs[j]? = some x → x.is = true → (m.hs.set k ⟨(s : Nat), 0, true⟩)[j]? = some x := fun j x h1 h2 => by
    by_cases e : j = k
    ·subst e; rw [handA_at h1] at hn; exact absurd h2 hn
    ·rw [List.getElem?_set_ne (by omega)]
     exact h1
   refine ⟨⟨fun t ht => ?_, fun t ht => ?_⟩, ⟨fun t h => h, fun r t a b c => .inr ⟨a, b, c⟩, fun t u i a b => .inr ⟨.inl a, b⟩, fun t u i a b => .inr ⟨?_, b⟩⟩, fun ho t ht => ho t ht⟩
   ·rcases hi.grey t ht with h | h | ⟨j, x, h1, h2, h3⟩
    ·rw [hq] at h
     rcases List.mem_cons.1 h with h | h
     ·exact .inr (.inr ⟨k, _, List.getElem?_set_self hk, rfl, by rw [h]⟩)
     ·exact .inl h
    ·exact .inr (.inl h)
    ·exact .inr (.inr ⟨j, x, hne j x h1 h2, h2, h3⟩)
   ·have : Lst m t := by
     rcases ht with h | h | ⟨j, x, h1, h2, h3⟩
     ·exact .inl (by rw [hq]; exact .tail _ h)
     ·exact .inr (.inl h)
     ·by_cases e : j = k
      ·subst e
       change (m.hs.set j ⟨(s : Nat), 0, true⟩)[j]? = some x at h1
       rw [List.getElem?_set_self hk] at h1; cases h1
       left; rw [hq]
       have : s = t := by dsimp only at h3; omega
       rw [this]
       exact .head _
      ·change (m.hs.set k ⟨(s : Nat), 0, true⟩)[j]? = some x at h1
       rw [List.getElem?_set_ne (by omega)] at h1
       exact .inr (.inr ⟨j, x, h1, h2, h3⟩)
    exact hi.lst t this
   ·have hi0 := (refO_in b hW.w).2.2.1
    rcases a with h | h | ⟨j, x, h1, h2, h3, h4⟩
    ·rw [hq] at h
     rcases List.mem_cons.1 h with h | h
     ·exact .inr (.inr ⟨k, _, List.getElem?_set_self hk, rfl, by rw [h], hi0⟩)
     ·exact .inl h
    ·exact .inr (.inl h)
    ·exact .inr (.inr ⟨j, x, hne j x h1 h2, h2, h3, h4⟩)
theorem open_same {G G1 : GyP} {j : Nat} (h : openG G = some (j, G1)) : G1.q = G.q ∧ G1.ow = G.ow := by
 unfold openG at h
 cases hp : G.pg with
 | some k' => rw [hp] at h; simp only [Option.some.injEq, Prod.mk.injEq] at h; obtain ⟨_, rfl⟩ := h; exact ⟨rfl, rfl⟩
 | none =>
  rw [hp] at h
  cases hq : G.q with
  | cons a l => rw [hq] at h; cases h
  | nil =>
   rw [hq] at h
   dsimp only at h
   cases hn : nextB G.di 0 true with
   | none => rw [hn] at h; cases h
   | some k' => rw [hn] at h; simp only [Option.some.injEq, Prod.mk.injEq] at h; obtain ⟨_, rfl⟩ := h; exact ⟨hq.symm ▸ rfl, rfl⟩
theorem walk_mic (ok : PlOk g) (hm : MaOk g long W m) (hW : MwOk g W) (hi : MaIn m) {k : Nat} (hk : k < m.hs.length) (h : walkM g m k = some m') : Mic g W m m' := by
 unfold walkM at h
 split at h
 ·cases h
 ·rename_i hn
  unfold walkG at h
  cases hop : openG m.G with
  | none => rw [hop] at h; cases h
  | some x =>
   obtain ⟨j, G1⟩ := x
   rw [hop] at h
   obtain ⟨k1, k2, k3⟩ := open_left ok hm.G hop
   obtain ⟨s1, s2⟩ := open_same hop
   obtain ⟨h1, h2⟩ := k1.pg j k2
   obtain ⟨b1, b2, b3⟩ := mp_bnd ok h1
   simp only [Option.map_some] at h
   have hsl : g.fp j + G1.at_ < g.slots := by omega
   obtain ⟨n, hnn⟩ : ∃ n, n = g.fp j + G1.at_ := ⟨_, rfl⟩
   have hol : n < m.G.ow.length := by rw [hm.G.ow]; omega
   have eq2 : (walk1 g j G1).2.q = m.G.q := by rw [← s1]; rfl
   have eo2 : (walk1 g j G1).2.ow = m.G.ow.set n false := by rw [← s2, hnn]; rfl
   have e1 : (walk1 g j G1).1 = if (m.G.ow[n]?).getD false then some n else none := by rw [← s2, hnn]; rfl
   obtain ⟨r, hr⟩ : ∃ r, r = walk1 g j G1 := ⟨_, rfl⟩
   rw [← hr] at h eq2 eo2 e1
   obtain ⟨o, G2⟩ := r
   dsimp only at eq2 eo2 e1
   have how : ∀ t : Nat, t ≠ n → G2.ow[t]? = m.G.ow[t]? := fun t ht => by rw [eo2, List.getElem?_set_ne (by omega)]
   have hon : G2.ow[n]? = some false := by rw [eo2]; exact List.getElem?_set_self hol
   cases ho : (m.G.ow[n]?).getD false with
   | false =>
    rw [ho] at e1
    simp only [Bool.false_eq_true, if_false] at e1
    subst e1
    cases h
    have hnt : ∀ t : Nat, m.G.ow[t]? = some true → G2.ow[t]? = some true := fun t ht => by
     by_cases e : t = n
     ·subst e; rw [ht] at ho; cases ho
     ·rw [how t e]
      exact ht
    have hnf : ∀ t : Nat, G2.ow[t]? = some true → m.G.ow[t]? = some true := fun t ht => by
     by_cases e : t = n
     ·subst e; rw [hon] at ht; cases ht
     ·rw [← how t e]
      exact ht
    refine ⟨⟨fun t ht => ?_, fun t ht => ?_⟩, ⟨fun t h => h, fun r t a b c => .inr ⟨a, b, c⟩, fun t u i a b => .inr ⟨.inl a, b⟩, fun t u i a b => .inr ⟨?_, b⟩⟩, fun ho t ht => ho t ht⟩
    ·rcases hi.grey t ht with h | h | h
     ·exact zjb
     ·exact .inr (.inl (hnt t h))
     ·exact .inr (.inr h)
    ·refine hi.lst t ?_
     rcases ht with h | h | h
     ·exact .inl (by change t ∈ G2.q at h; rw [eq2] at h; exact h)
     ·exact .inr (.inl (hnf t h))
     ·exact .inr (.inr h)
    ·rcases a with h | h | h
     ·exact zjb
     ·exact .inr (.inl (hnt t h))
     ·exact .inr (.inr h)
   | true =>
    rw [ho] at e1
    simp only [if_true] at e1
    subst e1
    cases h
    have hon2 : m.G.ow[n]? = some true := by rw [List.getElem?_eq_getElem hol] at ho ⊢; simpa using ho
    have hne : ∀ (j : Nat) (x : HanP), m.hs[j]? = some x → x.is = true → (m.hs.set k ⟨(n : Nat), 0, true⟩)[j]? = some x := fun j x h1 h2 => by
     by_cases e : j = k
     ·subst e; rw [handA_at h1] at hn; exact absurd h2 hn
     ·rw [List.getElem?_set_ne (by omega)]
      exact h1
    refine ⟨⟨fun t ht => ?_, fun t ht => ?_⟩, ⟨fun t h => h, fun r t a b c => .inr ⟨a, b, c⟩, fun t u i a b => .inr ⟨.inl a, b⟩, fun t u i a b => .inr ⟨?_, b⟩⟩, fun ho t ht => ho t ht⟩
    ·rcases hi.grey t ht with h | h | ⟨j, x, h1, h2, h3⟩
     ·exact zjb
     ·by_cases e : t = n
      ·exact .inr (.inr ⟨k, _, List.getElem?_set_self hk, rfl, by rw [e]⟩)
      ·exact .inr (.inl (by show G2.ow[t]? = _; rw [how t e]; exact h))
     ·exact .inr (.inr ⟨j, x, hne j x h1 h2, h2, h3⟩)
    ·refine hi.lst t ?_
     rcases ht with h | h | ⟨j, x, h1, h2, h3⟩
     ·exact .inl (by change t ∈ G2.q at h; rw [eq2] at h; exact h)
     ·by_cases e : t = n
      ·change G2.ow[t]? = _ at h
       rw [e, hon] at h; cases h
      ·change G2.ow[t]? = _ at h
       rw [how t e] at h; exact .inr (.inl h)
     ·by_cases e : j = k
      ·subst e
       change (m.hs.set j ⟨(n : Nat), 0, true⟩)[j]? = some x at h1
       rw [List.getElem?_set_self hk] at h1; cases h1
       have : n = t := by dsimp only at h3; omega
       rw [← this]
       exact .inr (.inl hon2)
      ·change (m.hs.set k ⟨(n : Nat), 0, true⟩)[j]? = some x at h1
       rw [List.getElem?_set_ne (by omega)] at h1
       exact .inr (.inr ⟨j, x, h1, h2, h3⟩)
    ·have hi0 := (refO_in b hW.w).2.2.1
     rcases a with h | h | ⟨j, x, h1, h2, h3, h4⟩
     ·exact zjb
     ·by_cases e : t = n
      ·exact .inr (.inr ⟨k, _, List.getElem?_set_self hk, rfl, by rw [e], hi0⟩)
      ·exact .inr (.inl (by show G2.ow[t]? = _; rw [how t e]; exact h))
     ·exact .inr (.inr ⟨j, x, hne j x h1 h2, h2, h3, h4⟩)
theorem scan_mic (ok : PlOk g) (hm : MaOk g long W m) (hW : MwOk g W) (hi : MaIn m) {k : Nat} (hk : k < m.hs.length) (h : scanM g long W m k = some m') : Mic g W m m' := by
 unfold scanM at h
 split at h
 ·rename_i hn
  obtain ⟨hd, hhd⟩ := get_of_lt hk
  rw [handA_at hhd] at h hn
  rcases hm.h k hd hhd with ⟨e1, e2, e3, e4, e5⟩ | e
  ·obtain ⟨s, hs⟩ : ∃ s : Nat, hd.slot = s := ⟨hd.slot.toNat, by omega⟩
   rw [hs] at e3 e5 h
   have hsl : s < g.slots := by omega
   have hls : Lst m s := .inr (.inr ⟨k, hd, hhd, hn, hs⟩)
   obtain ⟨o, ho⟩ : ∃ o, o = refO g W.x (s : Nat) hd.field := ⟨_, rfl⟩
   rw [← ho] at h
   obtain ⟨h1, h2, h3, h4⟩ := shadeO_keep (W' := W) ok hm hi o
   obtain ⟨q1, q2, q3, q4⟩ := shadeO_hs (g := g) (long := long) (m := m) o
   have hlen := (shadeO_ok ok hm o).C
   obtain ⟨m1, hm1⟩ : ∃ m1, m1 = shadeO g long m o := ⟨_, rfl⟩
   rw [← hm1] at h h1 h2 h3 h4 q1 q2 q3 q4 hlen
   have hk1 : k < m1.hs.length := by rw [q1]; exact hk
   have hhd1 : m1.hs[k]? = some hd := by rw [q1]; exact hhd
   have hls1 : Lst m1 s := .inr (.inr ⟨k, hd, hhd1, hn, hs⟩)
   have hnw1 := h1.lst s hls1
   have hon : ∀ n : Nat, NW m1 n → OnlyR g W m → RchM g W n := fun n hnn hr => by
    rcases h4 n hnn with a | a
    ·exact hr n a
    ·rw [ho] at a
     exact .edge (hr s (hi.lst s hls)) a
   have hto : ∀ u : Nat, refO g W.x (s : Nat) hd.field = some (u : Nat) → NW m1 u := fun u hu => by
    have := refO_in hu hW.w
    exact h3 u (ho.trans hu) (by omega)
   have hne : ∀ (x : HanP) (j : Nat) (y : HanP), j ≠ k → m1.hs[j]? = some y → (m1.hs.set k x)[j]? = some y := fun x j y h1 h2 => by
    rw [List.getElem?_set_ne (by omega)]
    exact h2
   split at h
   ·rename_i hlt
    cases h
    rw [← q1] at *
    refine ⟨⟨fun t ht => ?_, fun t ht => ?_⟩, h2.trans ⟨fun t h => h, fun r t a b c => .inr ⟨a, b, c⟩, fun t u i a b => .inr ⟨.inl a, b⟩, fun t u i a b => ?_⟩, fun hr t ht => hon t ht hr⟩
    ·rcases h1.grey t ht with h | h | ⟨j, x, p1, p2, p3⟩
     ·exact .inl h
     ·exact .inr (.inl h)
     ·by_cases e : j = k
      ·subst e
       rw [hhd1] at p1; cases p1
       exact .inr (.inr ⟨j, _, List.getElem?_set_self hk1, rfl, hs.symm.trans p3⟩)
      ·exact .inr (.inr ⟨j, x, hne _ j x e p1, p2, p3⟩)
    ·refine h1.lst t ?_
     rcases ht with h | h | ⟨j, x, p1, p2, p3⟩
     ·exact .inl h
     ·exact .inr (.inl h)
     ·by_cases e : j = k
      ·subst e
       change (m1.hs.set j _)[j]? = some x at p1
       rw [List.getElem?_set_self hk1] at p1; cases p1
       exact .inr (.inr ⟨j, hd, hhd1, hn, hs.trans p3⟩)
      ·change (m1.hs.set k _)[j]? = some x at p1
       rw [List.getElem?_set_ne (by omega)] at p1
       exact .inr (.inr ⟨j, x, p1, p2, p3⟩)
    ·rcases a with h | h | ⟨j, x, p1, p2, p3, p4⟩
     ·exact .inr ⟨.inl h, b⟩
     ·exact .inr ⟨.inr (.inl h), b⟩
     ·by_cases e : j = k
      ·subst e
       rw [hhd1] at p1; cases p1
       have hst : s = t := by omega
       subst hst
       by_cases hf : i = hd.field
       ·left; subst hf; exact hto u b
       ·right
        exact ⟨.inr (.inr ⟨j, _, List.getElem?_set_self hk1, rfl, rfl, by show hd.field + 1 ≤ i; omega⟩), b⟩
      ·exact .inr ⟨.inr (.inr ⟨j, x, hne _ j x e p1, p2, p3, p4⟩), b⟩
   ·rename_i hge
    cases h
    rw [← q1] at *
    simp only [Int.toNat_natCast] at *
    have hcs : s < m1.C.length := by rw [hlen]; exact hsl
    have hset : ∀ t, NW m1 t → NW { m1 with hs := m1.hs.set k hand0, C := m1.C.set s 2 } t := fun t ⟨c, a, b⟩ => by
     by_cases e : t = s
     ·subst e; exact ⟨2, List.getElem?_set_self hcs, by decide⟩
     ·exact ⟨c, by show (m1.C.set s 2)[t]? = _; rw [List.getElem?_set_ne (by omega)]; exact a, b⟩
    have hback : ∀ t, NW { m1 with hs := m1.hs.set k hand0, C := m1.C.set s 2 } t → NW m1 t := fun t ⟨c, a, b⟩ => by
     by_cases e : t = s
     ·subst e; exact hnw1
     ·change (m1.C.set s 2)[t]? = _ at a
      rw [List.getElem?_set_ne (by omega)] at a
      exact ⟨c, a, b⟩
    refine ⟨⟨fun t ht => ?_, fun t ht => ?_⟩, h2.trans ⟨hset, fun r t a b c => .inr ⟨a, b, c⟩, fun t u i a b => ?_, fun t u i a b => ?_⟩, fun hr t ht => hon t (hback t ht) hr⟩
    ·by_cases e : t = s
     ·subst e
      change (m1.C.set t 2)[t]? = _ at ht
      rw [List.getElem?_set_self hcs] at ht; cases ht
     ·change (m1.C.set s 2)[t]? = _ at ht
      rw [List.getElem?_set_ne (by omega)] at ht
      rcases h1.grey t ht with h | h | ⟨j, x, p1, p2, p3⟩
      ·exact .inl h
      ·exact .inr (.inl h)
      ·by_cases e2 : j = k
       ·subst e2
        rw [hhd1] at p1; cases p1
        exfalso; omega
       ·exact .inr (.inr ⟨j, x, hne _ j x e2 p1, p2, p3⟩)
    ·refine hset t (h1.lst t ?_)
     rcases ht with h | h | ⟨j, x, p1, p2, p3⟩
     ·exact .inl h
     ·exact .inr (.inl h)
     ·by_cases e : j = k
      ·subst e
       change (m1.hs.set j _)[j]? = some x at p1
       rw [List.getElem?_set_self hk1] at p1; cases p1
       cases p2
      ·change (m1.hs.set k _)[j]? = some x at p1
       rw [List.getElem?_set_ne (by omega)] at p1
       exact .inr (.inr ⟨j, x, p1, p2, p3⟩)
    ·right
     refine ⟨.inl ?_, b⟩
     have hts : t ≠ s := by rintro rfl; exact hnw1.not a
     show (m1.C.set s 2)[t]? = _
     rw [List.getElem?_set_ne (by omega)]
     exact a
    ·rcases a with h | h | ⟨j, x, p1, p2, p3, p4⟩
     ·exact .inr ⟨.inl h, b⟩
     ·exact .inr ⟨.inr (.inl h), b⟩
     ·by_cases e : j = k
      ·subst e
       rw [hhd1] at p1; cases p1
       have hst : s = t := by omega
       subst hst
       left
       have hrf := refO_in b hW.w
       have hf : i = hd.field := by omega
       subst hf
       exact hset u (hto u b)
      ·exact .inr ⟨.inr (.inr ⟨j, x, hne _ j x e p1, p2, p3, p4⟩), b⟩
  ·rw [e] at hn; cases hn
 ·cases h
theorem up_mic (h : Mic g W m m') : Mic g W m (upM m') := ⟨⟨h.i.grey, h.i.lst⟩, ⟨h.k.nw, h.k.rt, h.k.wt, h.k.fd⟩, h.o⟩
theorem step_mic (ok : PlOk g) (hm : MaOk g long W m) (hW : MwOk g W) (hi : MaIn m) {k u : Int} (h : stepM g long W m k u = some m') : Mic g W m m' := by
 unfold stepM at h
 split at h
 ·rename_i hc
  cases hu : microM g long W m k.toNat u with
  | none => rw [hu] at h; cases h
  | some m1 =>
   rw [hu] at h
   simp only [Option.map_some, Option.some.injEq] at h
   subst h
   refine up_mic ?_
   have hk : k.toNat < m.hs.length := by omega
   unfold microM at hu
   split at hu
   ·exact root_mic ok hm hW hi hu
   ·split at hu
    ·exact take_mic hm hW hi hk hu
    ·split at hu
     ·exact scan_mic ok hm hW hi hk hu
     ·split at hu
      ·exact walk_mic ok hm hW hi hk hu
      ·cases hu
 ·cases h
theorem full_none (h : fullM m = none) {k : Nat} {x : HanP} (hx : m.hs[k]? = some x) : x.is = false := by
 unfold fullM at h
 rw [List.find?_eq_none] at h
 have := h k (List.mem_range.2 (lt_of_get hx))
 rw [handA_at hx] at this
 simpa using this
theorem count_zero {l : List Bool} : l.count true = 0 ↔ ∀ k : Nat, l[k]? ≠ some true := by
 rw [List.count_eq_zero]
 constructor
 ·intro h k hk; exact h (List.mem_of_getElem? hk)
 ·intro h hm
  obtain ⟨k, hk⟩ := List.getElem?_of_mem hm
  exact h k hk
theorem done_lst (h : doneM g W m = true) (s : Nat) : ¬ Lst m s := by
 unfold doneM emptyG at h
 simp only [Bool.and_eq_true, Option.isNone_iff_eq_none, decide_eq_true_eq, List.isEmpty_iff] at h
 obtain ⟨_, h1, h2, h3, h4, h5⟩ := h
 rintro (a | a | ⟨k, x, a, b, c⟩)
 ·rw [h3] at a; cases a
 ·exact count_zero.1 h4 s a
 ·rw [full_none h1 a] at b; cases b
theorem done_black (hm : MaOk g long W m) (hi : MaIn m) (h : doneM g W m = true) {s : Nat} (hn : NW m s) : m.C[s]? = some 2 := by
 obtain ⟨c, h1, h2⟩ := hn
 rcases hm.c c (List.mem_of_getElem? h1) with e | e | e
 ·exact absurd e h2
 ·subst e; exact absurd (hi.grey s h1) (done_lst h s)
 ·rw [h1, e]
theorem done_prot (h : doneM g W m = true) {s : Nat} (hp : Prot g W m s) : NW m s := by
 have hr : W.T.length + g.slots ≤ m.root := by
  unfold doneM at h
  simp only [Bool.and_eq_true, decide_eq_true_eq] at h
  exact h.2.2.1
 induction hp with
 | col h => exact h
 | root a b c => omega
 | wht a b c ih => exact absurd b ih.not
 | fld a b => exact absurd a.lst (done_lst h _)
theorem help_done (ok : PlOk g) (hm : MaOk g long W m) (ha : m.act = true) (h : helpM g long W m = none) : doneM g W m = true := by
 have hlen := hm.hs
 unfold helpM at h
 cases hf : fullM m with
 | some k =>
  rw [hf] at h
  dsimp only at h
  have hk : k < m.hs.length ∧ (handA m k).is = true := by
   unfold fullM at hf
   have h1 := List.mem_of_find?_eq_some hf
   have h2 := List.find?_some hf
   exact ⟨List.mem_range.1 h1, h2⟩
  unfold stepM at h
  rw [if_pos ⟨ha, by omega, by omega⟩] at h
  simp only [Int.toNat_natCast, Option.map_eq_none_iff] at h
  unfold microM at h
  rw [if_neg (by decide), if_neg (by decide), if_pos rfl] at h
  unfold scanM at h
  rw [if_pos hk.2] at h
  split at h <;> cases h
 | none =>
  rw [hf] at h
  dsimp only at h
  have hlast : (handA m (m.hs.length - 1)).is = false := by
   obtain ⟨x, hx⟩ := get_of_lt (l := m.hs) (k := m.hs.length - 1) (by omega)
   rw [handA_at hx]
   exact full_none hf hx
  split at h
  ·cases h
  ·rename_i h2
   split at h
   ·cases h
   ·rename_i h1
    unfold stepM at h h1 h2
    rw [if_pos ⟨ha, by omega, by omega⟩] at h h1 h2
    simp only [Int.toNat_natCast, Option.map_eq_none_iff] at h h1 h2
    unfold microM at h h1 h2
    rw [if_neg (by decide), if_pos rfl] at h2
    rw [if_pos rfl] at h1
    rw [if_neg (by decide), if_neg (by decide), if_neg (by decide), if_pos rfl] at h
    have hq : m.G.q = [] := by
     unfold takeM at h2
     rw [if_neg (by rw [hlast]; decide)] at h2
     cases hq : m.G.q with
     | nil => rfl
     | cons a l => rw [hq] at h2; cases h2
    have hr : W.T.length + g.slots ≤ m.root := by
     unfold rootM at h1
     split at h1
     ·cases h1
     ·omega
    have hw : openG m.G = none := by
     unfold walkM at h
     rw [if_neg (by rw [hlast]; decide)] at h
     unfold walkG at h
     cases ho : openG m.G with
     | none => rfl
     | some x =>
      obtain ⟨j, G1⟩ := x
      rw [ho] at h
      simp only [Option.map_some] at h
      split at h <;> rename_i e <;> cases h <;> cases e
    have hpg : m.G.pg = none := by
     unfold openG at hw
     cases hp : m.G.pg with
     | none => rfl
     | some k => rw [hp] at hw; cases hw
    have hdi : nextB m.G.di 0 true = none := by
     unfold openG at hw
     rw [hpg, hq] at hw
     dsimp only at hw
     cases hn : nextB m.G.di 0 true with
     | none => rfl
     | some k => rw [hn] at hw; cases hw
    have how : m.G.ow.count true = 0 := count_zero.2 fun s hs => by
     rcases hm.G.od s hs with hd | ⟨k, hk, _⟩
     ·unfold nextB at hdi
      rw [List.find?_eq_none] at hdi
      have := hdi (g.pgOf s) (List.mem_range.2 (lt_of_get hd))
      rw [hd] at this
      simp at this
     ·rw [hpg] at hk; cases hk
    unfold doneM emptyG
    rw [ha, hf, hq, how, hpg, decide_eq_true hr]
    rfl
theorem new_in {nw : Nat} {act : Bool} : MaIn (newM g nw act) := by
 refine ⟨fun s hs => ?_, fun s hs => ?_⟩
 ·simp only [newM, List.getElem?_replicate] at hs
  split at hs <;> simp at hs
 ·rcases hs with h | h | ⟨k, x, h1, h2, h3⟩
  ·cases h
  ·simp only [newM, nilG, List.getElem?_replicate] at h
   split at h <;> simp at h
  ·simp only [newM, List.getElem?_replicate] at h1
   split at h1
   ·cases h1; cases h2
   ·cases h1
theorem new_only {nw : Nat} {act : Bool} : OnlyR g W (newM g nw act) := fun s ⟨c, h1, h2⟩ => by
 simp only [newM, List.getElem?_replicate] at h1
 split at h1
 ·simp at h1; exact absurd h1.symm h2
 ·cases h1
theorem rch_in (hW : MwOk g W) {s : Nat} (h : RchM g W s) : s < g.slots := by
 induction h with
 | root h1 h2 => have := rootSl_in hW h1 h2; omega
 | edge h1 h2 ih => have := refO_in h2 hW.w; omega
theorem new_prot {nw : Nat} {act : Bool} (hW : MwOk g W) {s : Nat} (h : RchM g W s) : Prot g W (newM g nw act) s := by
 induction h with
 | root h1 h2 => exact .root (Nat.zero_le _) h1 h2
 | edge h1 h2 ih => exact .wht ih (by simp only [newM, List.getElem?_replicate]; rw [if_pos (rch_in hW h1)]) h2
theorem world_keep (h1 : W'.T.length = W.T.length) (h2 : ∀ r s : Nat, rootSl g W r = some (s : Nat) → NW m s ∨ rootSl g W' r = some (s : Nat)) (h3 : ∀ (t s : Nat) (i : Int), refO g W.x (t : Nat) i = some (s : Nat) → NW m s ∨ refO g W'.x (t : Nat) i = some (s : Nat)) : Keep g W W' m m := by
 refine ⟨fun s h => h, fun r s a b c => ?_, fun t s i a b => ?_, fun t s i a b => ?_⟩
 ·rcases h2 r s c with h | h
  ·exact .inl h
  ·exact .inr ⟨a, by rw [h1]; exact b, h⟩
 ·rcases h3 t s i b with h | h
  ·exact .inl h
  ·exact .inr ⟨.inl a, h⟩
 ·rcases h3 t s i b with h | h
  ·exact .inl h
  ·exact .inr ⟨a, h⟩
end
open Go.RowKit
set_option maxRecDepth 10000
inductive Goes (g : PlG) (long : Nat) (W : MwP) (m : MaP) : MaP → Prop
 | refl : Goes g long W m m
 | step {m1 m2 : MaP} {k u : Int} : Goes g long W m m1 → stepM g long W m1 k u = some m2 → Goes g long W m m2
section
variable {g : PlG} {long : Nat} {W W' : MwP} {m m' m'' : MaP}
theorem Goes.trans (h : Goes g long W m m') (h' : Goes g long W m' m'') : Goes g long W m m'' := by
 induction h' with
 | refl => exact h
 | step _ h2 ih => exact .step ih h2
structure GoesOk (g : PlG) (long : Nat) (W : MwP) (m m' : MaP) : Prop where
 ok : MaOk g long W m'
 mic : Mic g W m m'
 left : m'.steps + leftM g W m' ≤ m.steps + leftM g W m
 act : m'.act = m.act
 hs : m'.hs.length = m.hs.length
theorem goes_ok (ok : PlOk g) (hm : MaOk g long W m) (hW : MwOk g W) (hi : MaIn m) (h : Goes g long W m m') : GoesOk g long W m m' := by
 induction h with
 | refl => exact ⟨hm, ⟨hi, Keep.refl, fun h => h⟩, Nat.le_refl _, rfl, rfl⟩
 | step h1 h2 ih =>
  obtain ⟨a, b, c, d, e⟩ := step_ok ok ih.ok h2
  have f := step_mic ok ih.ok hW ih.mic.i h2
  exact ⟨a, ⟨f.i, ih.mic.k.trans f.k, fun ho => f.o (ih.mic.o ho)⟩, by have := ih.left; omega, d.trans ih.act, e.trans ih.hs⟩
theorem exact_all (ok : PlOk g) (hW : MwOk g W) {nw : Nat} (hl : 1 ≤ long) (hn : nw ≤ 8) (h : Goes g long W (newM g nw true) m) (hd : doneM g W m = true) {s : Nat} (hs : s < g.slots) :
  (RchM g W s → m.C[s]? = some 2) ∧ (¬ RchM g W s → m.C[s]? = some 0) := by
 have h1 := goes_ok ok (new_ok (W := W) hl hn) hW new_in h
 constructor
 ·intro hr
  exact done_black h1.ok h1.mic.i hd (done_prot hd ((new_prot hW hr).keep h1.mic.k))
 ·intro hr
  rcases nw_or h1.ok.C hs with h2 | h2
  ·exact h2
  ·exact absurd (h1.mic.o new_only s h2) hr
theorem left_all (ok : PlOk g) (hW : MwOk g W) {nw : Nat} (hl : 1 ≤ long) (hn : nw ≤ 8) (h : Goes g long W (newM g nw true) m) : m.steps ≤ 20 * (g.words + W.T.length) := by
 have h1 := (goes_ok ok (new_ok (W := W) hl hn) hW new_in h).left
 have h2 := start_left (W := W) ok nw
 have h3 : (newM g nw true).steps = 0 := rfl
 omega
theorem snap_end (hm : MaOk g long W m) (hi : MaIn m) (hd : doneM g W m = true) {s : Nat} (hs : s < g.slots) : (Prot g W m s → m.C[s]? = some 2) ∧ m.C[s]? ≠ some 1 := by
 refine ⟨fun h => done_black hm hi hd (done_prot hd h), fun h => done_lst hd s (hi.grey s h)⟩
end
set_option maxRecDepth 10000
def pinP (l : List Int) (s : Nat) : List Int := if (l[s]?).getD 0 < 255 then l.set s ((l[s]?).getD 0 + 1) else l
def unpinP (l : List Int) (s : Nat) : List Int := if 0 < (l[s]?).getD 0 then l.set s ((l[s]?).getD 0 - 1) else l
theorem pinP_len {l : List Int} {s : Nat} : (pinP l s).length = l.length := by unfold pinP; split <;> simp
theorem unpinP_len {l : List Int} {s : Nat} : (unpinP l s).length = l.length := by unfold unpinP; split <;> simp
theorem pinP_in {l : List Int} {s : Nat} (h : ∀ v ∈ l, 0 ≤ v ∧ v ≤ 255) : ∀ v ∈ pinP l s, 0 ≤ v ∧ v ≤ 255 := by
 unfold pinP
 split
 ·rename_i hc
  intro v hv
  rcases List.mem_or_eq_of_mem_set hv with h1 | rfl
  ·exact h v h1
  ·cases hx : l[s]? with
   | none => simp
   | some w => have := h w (List.mem_of_getElem? hx); rw [hx] at hc; simp at hc ⊢; omega
 ·exact h
theorem unpinP_in {l : List Int} {s : Nat} (h : ∀ v ∈ l, 0 ≤ v ∧ v ≤ 255) : ∀ v ∈ unpinP l s, 0 ≤ v ∧ v ≤ 255 := by
 unfold unpinP
 split
 ·rename_i hc
  intro v hv
  rcases List.mem_or_eq_of_mem_set hv with h1 | rfl
  ·exact h v h1
  ·cases hx : l[s]? with
   | none => rw [hx] at hc; simp at hc
   | some w => have := h w (List.mem_of_getElem? hx); rw [hx] at hc; simp at hc ⊢; omega
 ·exact h
theorem pinP_pos {l : List Int} {s k : Nat} (h : 0 < (l[k]?).getD 0) : 0 < ((pinP l s)[k]?).getD 0 := by
 unfold pinP
 split
 ·by_cases e : k = s
  ·subst e
   have hl : k < l.length := by
    rcases Nat.lt_or_ge k l.length with h1 | h1
    ·exact h1
    ·rw [List.getElem?_eq_none h1] at h; simp at h
   rw [List.getElem?_set_self hl]; simp; omega
  ·rw [List.getElem?_set_ne (by omega)]
   exact h
 ·exact h
theorem unpinP_ne {l : List Int} {s k : Nat} (e : k ≠ s) : (unpinP l s)[k]? = l[k]? := by
 unfold unpinP
 split
 ·rw [List.getElem?_set_ne (by omega)]
 ·rfl
def freeT (T : List EntP) : Option Nat := T.findIdx? fun e => decide (e.st = 0)
def genA (T : List EntP) (i : Nat) : Int := ((T[i]?).map (·.gen)).getD 0
def mintT (T : List EntP) (s : Int) : List EntP := match freeT T with
 | some i => T.set i ⟨1, s, genA T i⟩
 | none => T
def mintV (T : List EntP) : Int × Int × Int := match freeT T with
 | some i => ((i : Nat), genA T i, 0)
 | none => (0, 0, 131)
def slotT (T : List EntP) (i : Int) : Option Int := if 0 ≤ i then (match T[i.toNat]? with
 | some e => if e.st = 1 then some e.slot else none
 | none => none) else none
theorem cnt_set {T : List EntP} {i : Nat} {e : EntP} (h : T[i]? = some e) (e' : EntP) (s : Int) : cntP s (T.set i e') + (if e.st = s then 1 else 0) = cntP s T + (if e'.st = s then 1 else 0) := by
 unfold cntP
 induction T generalizing i with
 | nil => simp at h
 | cons x T ih =>
  cases i with
  | zero => simp at h; subst h; simp [List.countP_cons]; split <;> split <;> omega
  | succ i =>
   simp at h
   have := ih h
   simp only [List.set_cons_succ, List.countP_cons]
   omega
theorem cnt_le (s : Int) (T : List EntP) : cntP s T ≤ T.length := List.countP_le_length
theorem cnt_pos {T : List EntP} {i : Nat} {e : EntP} (h : T[i]? = some e) : 1 ≤ cntP e.st T := by
 unfold cntP
 rw [Nat.one_le_iff_ne_zero, ← Nat.pos_iff_ne_zero, List.countP_pos_iff]
 exact ⟨e, List.mem_of_getElem? h, by simp⟩
theorem freeT_some {T : List EntP} {i : Nat} (h : freeT T = some i) : (∃ e, T[i]? = some e ∧ e.st = 0) ∧ ∀ (j : Nat) (e : EntP), j < i → T[j]? = some e → e.st ≠ 0 := by
 unfold freeT at h
 rw [List.findIdx?_eq_some_iff_getElem] at h
 obtain ⟨hl, h1, h2⟩ := h
 refine ⟨⟨T[i], List.getElem?_eq_getElem hl, by simpa using h1⟩, fun j e hj he => ?_⟩
 have := h2 j hj
 rw [List.getElem?_eq_getElem (by omega)] at he
 cases he
 simpa using this
theorem freeT_none {T : List EntP} (h : freeT T = none) : ∀ (j : Nat) (e : EntP), T[j]? = some e → e.st ≠ 0 := by
 unfold freeT at h
 rw [List.findIdx?_eq_none_iff] at h
 intro j e he
 have := h e (List.mem_of_getElem? he)
 simpa using this
theorem freeT_is {T : List EntP} {i : Nat} {e : EntP} (h1 : T[i]? = some e) (h2 : e.st = 0) (h3 : ∀ (j : Nat) (e : EntP), j < i → T[j]? = some e → e.st ≠ 0) : freeT T = some i := by
 cases hf : freeT T with
 | none => exact absurd h2 (freeT_none hf i e h1)
 | some j =>
  obtain ⟨⟨e', g1, g2⟩, g3⟩ := freeT_some hf
  rcases Nat.lt_trichotomy i j with h | h | h
  ·exact absurd h2 (g3 i e h h1)
  ·rw [h]
  ·exact absurd g2 (h3 j e' h g1)
theorem freeT_no {T : List EntP} (h3 : ∀ (j : Nat) (e : EntP), T[j]? = some e → e.st ≠ 0) : freeT T = none := by
 cases hf : freeT T with
 | none => rfl
 | some j =>
  obtain ⟨⟨e', g1, g2⟩, g3⟩ := freeT_some hf
  exact absurd g2 (h3 j e' g1)
theorem genA_at {T : List EntP} {i : Nat} {e : EntP} (h : T[i]? = some e) : genA T i = e.gen := by unfold genA; rw [h]; rfl
theorem mintT_len {T : List EntP} {s : Int} : (mintT T s).length = T.length := by unfold mintT; split <;> simp
def dropI (T : List EntP) (i : Int) : List EntP := if 0 ≤ i then (match T[i.toNat]? with
 | some e => if e.st = 1 then T.set i.toNat { e with st := 2 } else T
 | none => T) else T
theorem dropI_len {T : List EntP} {i : Int} : (dropI T i).length = T.length := by
 unfold dropI
 split
 ·split
  ·split <;> simp
  ·rfl
 ·rfl
structure MActP where
 w : Nat
 s : Int
 i : Int
 t : Int
 r : Int
 u : Nat
def hdM (y : SlotP) (r : Int) : HdP := ⟨((y.cls : Nat) : Int), min (max r 0) (((y.size : Nat) : Int) - 1), 0⟩
def inS (g : PlG) (s : Int) : Prop := 0 ≤ s ∧ s < ((g.slots : Nat) : Int)
instance {g : PlG} {s : Int} : Decidable (inS g s) := by unfold inS; exact inferInstance
def shdS (g : PlG) (long : Nat) (m : MaP) (s : Int) : MaP := if inS g s then shdM g long m s else m
def oldS (g : PlG) (W : MwP) (a : MActP) : Int × Int := refP W.x g.slots (slotA g a.s) a.i
def actW (g : PlG) (W : MwP) (a : MActP) : MwP :=
 if a.w % 10 < 2 then (if inS g a.s then { W with x := (makeP W.x (slotA g a.s) (hdM (slotA g a.s) a.r)).2 } else W)
 else if a.w % 10 < 4 then (if inS g a.s ∧ (oldS g W a).2 = 0 then { W with x := (setRefP W.x g.slots (slotA g a.s) a.i a.t).2 } else W)
 else if a.w % 10 = 4 then (if inS g a.s then { W with T := mintT W.T a.s } else W)
 else if a.w % 10 = 5 then { W with T := dropI W.T a.i }
 else if a.w % 10 = 6 then (if inS g a.s then { W with N := pinP W.N a.s.toNat } else W)
 else if a.w % 10 = 7 then (if inS g a.s then { W with N := unpinP W.N a.s.toNat } else W)
 else W
def actK (g : PlG) (long : Nat) (W : MwP) (m : MaP) (a : MActP) : MaP :=
 if a.w % 10 < 2 then m
 else if a.w % 10 < 4 then (if inS g a.s ∧ (oldS g W a).2 = 0 then shdS g long (shdS g long m (oldS g W a).1) a.t else m)
 else if a.w % 10 = 5 then (match slotT W.T a.i with
  | some s => shdS g long m s
  | none => m)
 else if a.w % 10 < 8 then shdS g long m a.s
 else if a.w % 10 = 8 then (stepM g long W m a.i (a.u : Nat)).getD m
 else (helpM g long W m).getD m
def actB (g : PlG) (long : Nat) (W : MwP) (m : MaP) (a : MActP) : Bool :=
 if a.w % 10 < 8 then false else if a.w % 10 = 8 then (stepM g long W m a.i (a.u : Nat)).isSome else (helpM g long W m).isSome
def RfOk (g : PlG) (x : List Int) : Prop := ∀ (s : Nat) (y : SlotP), g.L[s]? = some y → ∀ j, 1 ≤ j → j < y.size → wAt x (y.addr + j) ≤ ((g.slots : Nat) : Int)
section
variable {g : PlG} {long : Nat} {W W' : MwP} {m m' : MaP} {a : MActP} {x x' : List Int}
theorem wAt_set {a b : Nat} {v : Int} (h : a ≠ b) : wAt (x.set a v) b = wAt x b := by unfold wAt; rw [List.getElem?_set_ne h]
theorem wAt_self {a : Nat} {v : Int} (h : a < x.length) : wAt (x.set a v) a = v := by unfold wAt; rw [List.getElem?_set_self h]; rfl
theorem wAt_wipe {p : SlotP} {a : Nat} (hl : p.addr + p.size ≤ x.length) : wAt (wipeP x p) a = if p.addr ≤ a ∧ a < p.addr + p.size then 0 else wAt x a := by
 unfold wAt wipeP cleared
 by_cases h1 : a < p.addr
 ·rw [if_neg (by omega), List.append_assoc, List.getElem?_append_left (by simp; omega), List.getElem?_take_of_lt h1]
 ·by_cases h2 : a < p.addr + p.size
  ·rw [if_pos (by omega), List.append_assoc, List.getElem?_append_right (by simp; omega), List.getElem?_append_left (by simp; omega), List.getElem?_replicate]
   split <;> rfl
  ·rw [if_neg (by omega), List.getElem?_append_right (by simp; omega), List.getElem?_drop]
   congr 2
   simp; omega
theorem head_congr {p : SlotP} (h : wAt x' p.addr = wAt x p.addr) : headP x' p = headP x p := by unfold headP; rw [h]
theorem fld_congr {p : SlotP} {ref : Bool} {i : Int} (h : wAt x' p.addr = wAt x p.addr) : fldP x' p ref i = fldP x p ref i := by unfold fldP; rw [head_congr h]
theorem refs_congr {p : SlotP} (h : wAt x' p.addr = wAt x p.addr) : refsN x' p = refsN x p := by unfold refsN; rw [head_congr h]
theorem slot_ex (h : inS g a.s) : ∃ (s : Nat) (y : SlotP), a.s = (s : Nat) ∧ g.L[s]? = some y ∧ slotA g a.s = y := by
 unfold inS at h
 obtain ⟨y, hy⟩ := L_ex (g := g) (i := a.s.toNat) (by omega)
 refine ⟨a.s.toNat, y, by omega, hy, ?_⟩
 have := slotA_at hy
 rwa [show ((a.s.toNat : Nat) : Int) = a.s by omega] at this
theorem make_refs (ok : PlOk g) (hx : x.length = g.words) {s : Nat} {y : SlotP} (hy : g.L[s]? = some y) (h : HdP) {t : Nat} (ht : t < g.slots) (hp : 0 < refsN x (slotA g (t : Nat))) :
  refsN (makeP x y h).2 (slotA g (t : Nat)) = refsN x (slotA g (t : Nat)) := by
 obtain ⟨z, hz⟩ := L_ex ht
 rw [slotA_at hz] at hp ⊢
 have f1 := ok.fits hy
 have f2 := ok.fits hz
 unfold makeP
 split
 ·split
  ·rfl
  ·rename_i hn
   by_cases e : s = t
   ·subst e
    rw [hy] at hz; cases hz
    exfalso
    unfold refsN at hp
    cases hh : headP x y with
    | none => rw [hh] at hp; simp at hp
    | some h => rw [hh] at hn; simp at hn
   ·have := ok.apart hy hz e
    refine refs_congr ?_
    dsimp only
    rw [wAt_set (by omega), wAt_wipe (by omega), if_neg (by omega)]
 ·rfl
theorem set_refs (ok : PlOk g) {s : Nat} {y : SlotP} (hy : g.L[s]? = some y) {i v : Int} {t : Nat} (ht : t < g.slots) : refsN (setRefP x g.slots y i v).2 (slotA g (t : Nat)) = refsN x (slotA g (t : Nat)) := by
 obtain ⟨z, hz⟩ := L_ex ht
 rw [slotA_at hz]
 have f1 := ok.fits hy
 have f2 := ok.fits hz
 unfold setRefP
 split
 ·rfl
 ·split
  ·rename_i e
   have := fld_in e
   refine refs_congr ?_
   by_cases e2 : s = t
   ·subst e2
    rw [hy] at hz; cases hz
    exact wAt_set (by omega)
   ·have := ok.apart hy hz e2
    exact wAt_set (by omega)
  ·rfl
theorem MaOk.world (hm : MaOk g long W m) (hT : W'.T.length = W.T.length) (hr : ∀ t : Nat, t < g.slots → 0 < refsN W.x (slotA g (t : Nat)) → refsN W'.x (slotA g (t : Nat)) = refsN W.x (slotA g (t : Nat))) : MaOk g long W' m := by
 refine ⟨hm.C, hm.c, hm.G, hm.hs, fun k h hk => ?_, by rw [hT]; exact hm.root⟩
 rcases hm.h k h hk with ⟨e1, e2, e3, e4, e5⟩ | e
 ·left
  refine ⟨e1, e2, e3, e4, ?_⟩
  rcases e5 with e5 | e5
  ·exact .inl e5
  ·right
   obtain ⟨n, hn⟩ : ∃ n : Nat, h.slot = n := ⟨h.slot.toNat, by omega⟩
   rw [hn] at e5 e3 ⊢
   rw [hr n (by omega) (by omega)]
   exact e5
 ·exact .inr e
theorem shdS_ok (ok : PlOk g) (hm : MaOk g long W m) (s : Int) : MaOk g long W (shdS g long m s) := by
 unfold shdS shdM
 split
 ·split
  ·exact shade_ok ok hm s
  ·exact hm
 ·exact hm
theorem shdS_left (ok : PlOk g) (hm : MaOk g long W m) (s : Int) : leftM g W (shdS g long m s) ≤ leftM g W m := by
 unfold shdS shdM
 split
 ·split
  ·exact shade_left ok hm s
  ·exact Nat.le_refl _
 ·exact Nat.le_refl _
theorem shdS_hs (s : Int) : (shdS g long m s).hs = m.hs ∧ (shdS g long m s).root = m.root ∧ (shdS g long m s).act = m.act ∧ (shdS g long m s).steps = m.steps := by
 unfold shdS shdM
 split
 ·split
  ·exact shade_hs s
  ·exact ⟨rfl, rfl, rfl, rfl⟩
 ·exact ⟨rfl, rfl, rfl, rfl⟩
theorem shdS_act (hm : MaOk g long W m) (ha : m.act = true) (s : Int) : shdS g long m s = shadeM g long m s := by
 unfold shdS shdM
 simp only [ha, if_true]
 split
 ·rfl
 ·rename_i h
  unfold shadeM
  rw [if_neg]
  rintro ⟨h1, h2⟩
  have := lt_of_get h2
  rw [hm.C] at this
  exact h ⟨h1, by omega⟩
theorem shdS_idle (ha : m.act = false) (s : Int) : shdS g long m s = m := by
 unfold shdS shdM
 rw [ha]; simp
theorem mint_at {T : List EntP} {s : Int} {j : Nat} {e : EntP} (h : (mintT T s)[j]? = some e) : T[j]? = some e ∨ (e.st = 1 ∧ e.slot = s) := by
 unfold mintT at h
 split at h
 ·rename_i i hi
  by_cases e2 : j = i
  ·subst e2
   obtain ⟨⟨e', g1, _⟩, _⟩ := freeT_some hi
   rw [List.getElem?_set_self (lt_of_get g1)] at h
   cases h; exact .inr ⟨rfl, rfl⟩
  ·rw [List.getElem?_set_ne (by omega)] at h; exact .inl h
 ·exact .inl h
theorem drop_at {T : List EntP} {i : Int} {j : Nat} {e : EntP} (h : (dropI T i)[j]? = some e) : T[j]? = some e ∨ e.st = 2 := by
 unfold dropI at h
 split at h
 ·split at h
  ·split at h
   ·rename_i e' he _
    by_cases e2 : j = i.toNat
    ·subst e2
     rw [List.getElem?_set_self (lt_of_get he)] at h
     cases h; exact .inr rfl
    ·rw [List.getElem?_set_ne (by omega)] at h; exact .inl h
   ·exact .inl h
  ·exact .inl h
 ·exact .inl h
theorem actW_len : (actW g W a).T.length = W.T.length := by
 unfold actW
 split
 ·split <;> rfl
 ·split
  ·split <;> rfl
  ·split
   ·split
    ·exact mintT_len
    ·rfl
   ·split
    ·exact dropI_len
    ·split
     ·split <;> rfl
     ·split
      ·split <;> rfl
      ·rfl
theorem actW_ok (ok : PlOk g) (hW : MwOk g W) : MwOk g (actW g W a) := by
 have hsl := ok.slots
 have hww := ok.words
 unfold actW
 split
 ·split
  ·rename_i h
   obtain ⟨s, y, _, hy, e⟩ := slot_ex h
   have := ok.fits hy
   rw [e]
   exact ⟨by show (makeP W.x y _).2.length = _; rw [make_len (by rw [hW.x]; omega)]; exact hW.x, make_ok hW.w, hW.N, hW.n, hW.t⟩
  ·exact hW
 ·split
  ·split
   ·exact ⟨by show (setRefP W.x _ _ _ _).2.length = _; rw [setRef_len]; exact hW.x, setRef_ok hW.w (by omega), hW.N, hW.n, hW.t⟩
   ·exact hW
  ·split
   ·split
    ·rename_i h
     refine ⟨hW.x, hW.w, hW.N, hW.n, fun e he h1 => ?_⟩
     obtain ⟨j, hj⟩ := List.getElem?_of_mem he
     rcases mint_at hj with h2 | ⟨_, h2⟩
     ·exact hW.t e (List.mem_of_getElem? h2) h1
     ·rw [h2]
      exact h
    ·exact hW
   ·split
    ·refine ⟨hW.x, hW.w, hW.N, hW.n, fun e he h1 => ?_⟩
     obtain ⟨j, hj⟩ := List.getElem?_of_mem he
     rcases drop_at hj with h2 | h2
     ·exact hW.t e (List.mem_of_getElem? h2) h1
     ·omega
    ·split
     ·split
      ·exact ⟨hW.x, hW.w, by show (pinP W.N _).length = _; rw [pinP_len]; exact hW.N, pinP_in hW.n, hW.t⟩
      ·exact hW
     ·split
      ·split
       ·exact ⟨hW.x, hW.w, by show (unpinP W.N _).length = _; rw [unpinP_len]; exact hW.N, unpinP_in hW.n, hW.t⟩
       ·exact hW
      ·exact hW
theorem make_rf (ok : PlOk g) (hx : x.length = g.words) (h : RfOk g x) {s : Nat} {y : SlotP} (hy : g.L[s]? = some y) (hd : HdP) : RfOk g (makeP x y hd).2 := by
 have f1 := ok.fits hy
 unfold makeP
 split
 ·split
  ·exact h
  ·intro t z hz j h1 h2
   have f2 := ok.fits hz
   dsimp only
   by_cases e : s = t
   ·subst e
    rw [hy] at hz; cases hz
    rw [wAt_set (by omega), wAt_wipe (by omega), if_pos (by omega)]; omega
   ·have := ok.apart hy hz e
    rw [wAt_set (by omega), wAt_wipe (by omega), if_neg (by omega)]
    exact h t z hz j h1 h2
 ·exact h
theorem set_rf (ok : PlOk g) (hx : x.length = g.words) (h : RfOk g x) {s : Nat} {y : SlotP} (hy : g.L[s]? = some y) {i v : Int} : RfOk g (setRefP x g.slots y i v).2 := by
 have f1 := ok.fits hy
 unfold setRefP
 split
 ·exact h
 ·split
  ·rename_i hv e
   have hin := fld_in e
   intro t z hz j h1 h2
   have f2 := ok.fits hz
   dsimp only
   by_cases e2 : fAt y i = z.addr + j
   ·rw [e2, wAt_self (by omega)]; omega
   ·rw [wAt_set e2]
    exact h t z hz j h1 h2
  ·exact h
theorem actW_rf (ok : PlOk g) (hW : MwOk g W) (hR : RfOk g W.x) : RfOk g (actW g W a).x := by
 unfold actW
 split
 ·split
  ·rename_i h
   obtain ⟨s, y, _, hy, e⟩ := slot_ex h
   rw [e]
   exact make_rf ok hW.x hR hy _
  ·exact hR
 ·split
  ·split
   ·rename_i h
    obtain ⟨s, y, _, hy, e⟩ := slot_ex h.1
    rw [e]
    exact set_rf ok hW.x hR hy
   ·exact hR
  ·split
   ·split <;> exact hR
   ·split
    ·exact hR
    ·split
     ·split <;> exact hR
     ·split
      ·split <;> exact hR
      ·exact hR
theorem actW_refs (ok : PlOk g) (hW : MwOk g W) {t : Nat} (ht : t < g.slots) (hp : 0 < refsN W.x (slotA g (t : Nat))) : refsN (actW g W a).x (slotA g (t : Nat)) = refsN W.x (slotA g (t : Nat)) := by
 unfold actW
 split
 ·split
  ·rename_i h
   obtain ⟨s, y, _, hy, e⟩ := slot_ex h
   rw [e]
   exact make_refs ok hW.x hy _ ht hp
  ·rfl
 ·split
  ·split
   ·rename_i h
    obtain ⟨s, y, _, hy, e⟩ := slot_ex h.1
    rw [e]
    exact set_refs ok hy ht
   ·rfl
  ·split
   ·split <;> rfl
   ·split
    ·rfl
    ·split
     ·split <;> rfl
     ·split
      ·split <;> rfl
      ·rfl
theorem actK_all (ok : PlOk g) (hm : MaOk g long W m) : MaOk g long W (actK g long W m a) ∧ leftM g W (actK g long W m a) ≤ leftM g W m ∧ (actK g long W m a).act = m.act ∧ (actK g long W m a).hs.length = m.hs.length := by
 have hs1 : ∀ (m : MaP) (s : Int), MaOk g long W m → MaOk g long W (shdS g long m s) ∧ leftM g W (shdS g long m s) ≤ leftM g W m ∧ (shdS g long m s).act = m.act ∧ (shdS g long m s).hs.length = m.hs.length := fun m s hm =>
  ⟨shdS_ok ok hm s, shdS_left ok hm s, (shdS_hs s).2.2.1, by rw [(shdS_hs s).1]⟩
 have hid : MaOk g long W m ∧ leftM g W m ≤ leftM g W m ∧ m.act = m.act ∧ m.hs.length = m.hs.length := ⟨hm, Nat.le_refl _, rfl, rfl⟩
 have hst : ∀ {k u : Int}, MaOk g long W ((stepM g long W m k u).getD m) ∧ leftM g W ((stepM g long W m k u).getD m) ≤ leftM g W m ∧ ((stepM g long W m k u).getD m).act = m.act ∧ ((stepM g long W m k u).getD m).hs.length = m.hs.length := fun {k u} => by
  cases h : stepM g long W m k u with
  | none => exact hid
  | some m' =>
   obtain ⟨h1, h2, h3, h4, h5⟩ := step_ok ok hm h
   exact ⟨h1, by show leftM g W m' ≤ _; omega, h4, h5⟩
 unfold actK
 split
 ·exact hid
 ·split
  ·split
   ·obtain ⟨h1, h2, h3, h4⟩ := hs1 m (oldS g W a).1 hm
    obtain ⟨k1, k2, k3, k4⟩ := hs1 _ a.t h1
    exact ⟨k1, Nat.le_trans k2 h2, k3.trans h3, k4.trans h4⟩
   ·exact hid
  ·split
   ·split
    ·exact hs1 _ _ hm
    ·exact hid
   ·split
    ·exact hs1 _ _ hm
    ·split
     ·exact hst
     ·cases h : helpM g long W m with
      | none => exact hid
      | some m' =>
       obtain ⟨k, u, hk⟩ := help_step h
       have := hst (k := k) (u := u)
       rw [hk] at this
       exact this
theorem actK_ok (ok : PlOk g) (hW : MwOk g W) (hm : MaOk g long W m) : MaOk g long (actW g W a) (actK g long W m a) :=
 (actK_all ok hm).1.world actW_len fun t ht hp => actW_refs ok hW ht hp
theorem left_world (h : W'.T.length = W.T.length) : leftM g W' m = leftM g W m := by unfold leftM; rw [h]
theorem actK_left (ok : PlOk g) (hm : MaOk g long W m) : leftM g (actW g W a) (actK g long W m a) ≤ leftM g W m := by
 rw [left_world (W' := actW g W a) (W := W) actW_len]
 exact (actK_all ok hm).2.1
theorem step_idle (ha : m.act = false) {k u : Int} : stepM g long W m k u = none := by
 unfold stepM; rw [if_neg]; rw [ha]; rintro ⟨h, _⟩; cases h
theorem help_idle (ha : m.act = false) : helpM g long W m = none := by
 cases h : helpM g long W m with
 | none => rfl
 | some m' =>
  obtain ⟨k, u, hk⟩ := help_step h
  rw [step_idle ha] at hk; cases hk
theorem actK_idle (ha : m.act = false) : actK g long W m a = m := by
 unfold actK
 rw [step_idle ha, help_idle ha]
 split
 ·rfl
 ·split
  ·split
   ·rw [shdS_idle ha, shdS_idle ha]
   ·rfl
  ·split
   ·split
    ·exact shdS_idle ha _
    ·rfl
   ·split
    ·exact shdS_idle ha _
    ·split <;> rfl
end
open Go.RowKit
set_option maxRecDepth 10000
section
variable {w0 : World} {F : Heap} {q : PiM}
theorem pi_set {s : Nat} {n : Int} (ok : PiOk q) (hs : s < q.l.length) (hn : 0 ≤ n ∧ n ≤ 255) : PiOk ⟨q.b, setR q.r s (decide (0 < n)), q.l.set s n, q.o⟩ := by
 refine ⟨setR_ok ok.r _ _, ok.o.set _ _, ?_, by simpa using ok.m, fun v hv => ?_⟩
 ·show q.r.bs.set s (decide (0 < n)) = _
  rw [ok.n, List.map_set]
 ·rcases List.mem_or_eq_of_mem_set hv with h | rfl
  ·exact ok.v v h
  ·exact hn
theorem piCount_K {s : Int} (ok : PiOk q) :
  Call Tryz.prog w0 51 [.pointer (some ⟨q.b, 0, none⟩), .int .i64 s] (pinsH q ++ F) (fun r H' => r = .int .i64 (if 0 ≤ s then (q.l[s.toNat]?).getD 0 else 0) ∧ H' = pinsH q ++ F) := by
 have ho := ok.o
 have hm := ok.m
 by_cases h0 : s < 0
 ·rw [if_neg (by omega)]
  refine zkl ?_
  refine zbc fun T hT => ?_
  refine zhp ?_
  rintro _ _ ⟨rfl, rfl⟩
  refine zd ?_
  clear hT T
  simp only [pinsH_app]
  refine zaa ?_
  refine zE ?_
  refine zn ?_
  refine zcz ?_
  refine zdm ?_
  exact zh7
 ·rw [if_pos (by omega)]
  by_cases h1 : s < (q.l.length : Nat)
  ·obtain ⟨k, rfl⟩ : ∃ k : Nat, s = (k : Nat) := ⟨s.toNat, by omega⟩
   obtain ⟨v, hv⟩ := get_of_lt (l := q.l) (k := k) (by omega)
   have hvb := ok.v v (List.mem_of_getElem? hv)
   have hk : k < q.l.length := by omega
   have hge : ¬ ((k : Nat) : Int) ≥ (q.l.length : Nat) := by omega
   rw [show ((k : Nat) : Int).toNat = k by omega, hv]
   dsimp only [Option.getD]
   refine zkl ?_
   refine zbc fun T hT => ?_
   refine zhp ?_
   rintro _ _ ⟨rfl, rfl⟩
   refine zd ?_
   clear hT T
   simp only [pinsH_app]
   refine zej ?_
   refine zcw ?_
   refine z6 ?_
   refine zcg ?_
   refine zgk ?_
   refine zfD ?_
   refine zf ?_
   refine zdQ ?_
   refine zbX ?_
   refine zt ?_
   exact zh7
  ·have hge : s ≥ ((q.l.length : Nat) : Int) := by omega
   rw [List.getElem?_eq_none (by omega)]
   dsimp only [Option.getD]
   refine zkl ?_
   refine zbc fun T hT => ?_
   refine zhp ?_
   rintro _ _ ⟨rfl, rfl⟩
   refine zd ?_
   clear hT T
   simp only [pinsH_app]
   refine zej ?_
   refine zcw ?_
   refine z6 ?_
   refine zcg ?_
   refine z8 ?_
   refine zaz ?_
   refine zam ?_
   exact zh7
theorem more_K {b : Value} {n : Int} (hn : 0 ≤ n ∧ n ≤ 255) :
  Call Tryz.prog w0 204 [b, .int .u8 n] F (fun r H' => r = .tuple [.int .u8 ((n + 1) % 256), .bool (decide (n < 255))].toArray ∧ H' = F) := by
 by_cases h : n < 255
 ·rw [decide_eq_true h]
  rw [show (n + 1) % 256 = n + 1 by omega]
  refine Call.enter2 (n := 10) (by kernel_rfl) Tryz.func204 rfl rfl rfl ?_
  refine zaj ?_
  refine zav ?_
  refine zgm ?_
  refine zE ?_
  exact za4
 ·rw [decide_eq_false h]
  refine Call.enter2 (n := 10) (by kernel_rfl) Tryz.func204 rfl rfl rfl ?_
  refine zaj ?_
  refine zav ?_
  refine KL.v rfl (Val.addW rfl rfl) ?_
  refine zf ?_
  refine zR ?_
  exact za4
theorem less_K {b : Value} {n : Int} (hn : 0 ≤ n ∧ n ≤ 255) :
  Call Tryz.prog w0 205 [b, .int .u8 n] F (fun r H' => r = .tuple [.int .u8 ((n - 1) % 256), .bool (decide (0 < n))].toArray ∧ H' = F) := by
 by_cases h : 0 < n
 ·rw [decide_eq_true h, show (n - 1) % 256 = n - 1 by omega]
  refine Call.enter2 (n := 10) (by kernel_rfl) Tryz.func205 rfl rfl rfl ?_
  refine zaj ?_
  refine zav ?_
  refine zbi ?_
  refine zf ?_
  refine zcb ?_
  exact za4
 ·rw [decide_eq_false h]
  refine Call.enter2 (n := 10) (by kernel_rfl) Tryz.func205 rfl rfl rfl ?_
  refine zaj ?_
  refine zav ?_
  refine KL.v rfl (Val.subW rfl rfl) ?_
  refine zf ?_
  refine zae ?_
  exact za4
theorem piturn_K {s : Nat} {v n : Int} {is : Bool} {yv : FuncId} {cap : List Value} (ok : PiOk q) (hv : q.l[s]? = some v) (hn : is = true → 0 ≤ n ∧ n ≤ 255)
  (hby : ∀ A, CallV Tryz.prog w0 (.func (.func yv) cap.toArray #[]) [.int .u8 v] A (fun r H' => r = .tuple [.int .u8 n, .bool is].toArray ∧ H' = A)) :
  Call Tryz.prog w0 203 [.pointer (some ⟨q.b, 0, none⟩), .int .i64 (s : Nat), .func (.func yv) cap.toArray #[]] (pinsH q ++ F) (fun r H' => (∃ e, r = .int .i64 e) ∧ ∃ q', PiOk q' ∧ q'.b = q.b ∧ q'.l = (if is = true then q.l.set s n else q.l) ∧ H' = pinsH q' ++ F) := by
 have ho := ok.o
 have hr := ok.r
 have hm := ok.m
 have hs := lt_of_get hv
 have hvb := ok.v v (List.mem_of_getElem? hv)
 have hge : ¬ ((s : Nat) : Int) ≥ (q.l.length : Nat) := by omega
 have hrs : s < q.r.bs.length := by rw [ok.n, List.length_map]; exact hs
 refine Call.enter3 (n := 53) (by kernel_rfl) Tryz.func203 rfl rfl rfl ?_
 refine zfS ?_
 refine zh fun T hT => ?_
 refine zhp ?_
 rintro _ _ ⟨rfl, rfl⟩
 refine zd ?_
 clear hT T
 simp only [pinsH_app]
 refine zds ?_
 refine zcw ?_
 refine z6 ?_
 refine zcg ?_
 refine zdw ?_
 refine zdu ?_
 refine zeK ?_
 refine zU ?_
 refine zf ?_
 refine zdQ ?_
 refine zg fun T hT => ?_
 refine (hby _).mono ?_
 refine ze ?_
 clear hT T
 cases is with
 | false =>
  simp only [Bool.false_eq_true, if_false]
  refine zG ?_
  refine zat ?_
  refine zam ?_
  exact KE.fin byMarks rfl byRes (by first | exact byPart | (simp only [pinsH_app]; exact byPart)) ⟨⟨_, rfl⟩, q, ok, rfl, rfl, rfl⟩
 | true =>
  have hnb := hn rfl
  simp only [if_true]
  refine zG ?_
  refine zaG ?_
  refine zfD ?_
  refine zj ?_
  refine zfu ?_
  refine zX ?_
  refine zJ ?_
  refine zj ?_
  refine KL.v rfl (Val.gtr rfl rfl) ?_
  refine zg fun T hT => ?_
  refine (CallV.part (CallV.fn (Set_K (v := decide (0 < n)) hr hrs)) byPart).mono ?_
  refine ze ?_
  clear hT T
  refine zt ?_
  exact KE.fin (H' := pinsH ⟨q.b, setR q.r s (decide (0 < n)), q.l.set s n, q.o⟩ ++ F) byMarks rfl byRes (by simp only [pinsH_app, List.length_set]; exact byPart) ⟨⟨_, rfl⟩, ⟨q.b, setR q.r s (decide (0 < n)), q.l.set s n, q.o⟩, pi_set ok hs hnb, rfl, rfl, by simp only [pinsH_app]⟩
theorem Pin_K {s : Nat} (ok : PiOk q) (hs : s < q.l.length) :
  Call Tryz.prog w0 127 [.pointer (some ⟨q.b, 0, none⟩), .int .i64 (s : Nat)] (pinsH q ++ F) (fun r H' => (∃ e, r = .int .i64 e) ∧ ∃ q', PiOk q' ∧ q'.b = q.b ∧ q'.l = pinP q.l s ∧ H' = pinsH q' ++ F) := by
 obtain ⟨v, hv⟩ := get_of_lt hs
 have hvb := ok.v v (List.mem_of_getElem? hv)
 have hp : pinP q.l s = if decide (v < 255) = true then q.l.set s ((v + 1) % 256) else q.l := by
  unfold pinP; rw [hv]; simp only [Option.getD, decide_eq_true_eq]
  by_cases h : v < 255
  ·rw [if_pos h, if_pos h, show (v + 1) % 256 = v + 1 by omega]
  ·rw [if_neg h, if_neg h]
 rw [hp]
 refine Call.enter2 (n := 10) (by kernel_rfl) Tryz.func127 rfl rfl rfl ?_
 refine zbH ?_
 refine zbI ?_
 refine zby fun T hT => ?_
 refine (CallV.part (CallV.fn (piturn_K (cap := [.pointer (some ⟨q.b, 0, none⟩)]) ok hv (fun h => by have := of_decide_eq_true h; omega) fun A => CallV.bound (first := [.pointer (some ⟨q.b, 0, none⟩)]) (more_K hvb))) byPart).mono ?_
 rintro _ _ ⟨⟨e, rfl⟩, q', h1, h2, h3, rfl⟩
 refine zd ?_
 clear hT T
 refine zt ?_
 exact KE.fin byMarks rfl byRes byPart ⟨⟨e, rfl⟩, q', h1, h2, h3, rfl⟩
theorem Unpin_K {s : Nat} (ok : PiOk q) (hs : s < q.l.length) :
  Call Tryz.prog w0 129 [.pointer (some ⟨q.b, 0, none⟩), .int .i64 (s : Nat)] (pinsH q ++ F) (fun r H' => (∃ e, r = .int .i64 e) ∧ ∃ q', PiOk q' ∧ q'.b = q.b ∧ q'.l = unpinP q.l s ∧ H' = pinsH q' ++ F) := by
 obtain ⟨v, hv⟩ := get_of_lt hs
 have hvb := ok.v v (List.mem_of_getElem? hv)
 have hp : unpinP q.l s = if decide (0 < v) = true then q.l.set s ((v - 1) % 256) else q.l := by
  unfold unpinP; rw [hv]; simp only [Option.getD, decide_eq_true_eq]
  by_cases h : 0 < v
  ·rw [if_pos h, if_pos h, show (v - 1) % 256 = v - 1 by omega]
  ·rw [if_neg h, if_neg h]
 rw [hp]
 refine Call.enter2 (n := 10) (by kernel_rfl) Tryz.func129 rfl rfl rfl ?_
 refine zbH ?_
 refine zbI ?_
 refine zby fun T hT => ?_
 refine (CallV.part (CallV.fn (piturn_K (cap := [.pointer (some ⟨q.b, 0, none⟩)]) ok hv (fun h => by have := of_decide_eq_true h; omega) fun A => CallV.bound (first := [.pointer (some ⟨q.b, 0, none⟩)]) (less_K hvb))) byPart).mono ?_
 rintro _ _ ⟨⟨e, rfl⟩, q', h1, h2, h3, rfl⟩
 refine zd ?_
 clear hT T
 refine zt ?_
 exact KE.fin byMarks rfl byRes byPart ⟨⟨e, rfl⟩, q', h1, h2, h3, rfl⟩
end
set_option maxRecDepth 10000
theorem tb_set {t : TbM} {i : Nat} {e : EntP} (ok : TbOk t) (he : 0 ≤ e.st ∧ e.st < 4 ∧ 1 ≤ e.gen ∧ e.gen ≤ 2147483648 ∧ 0 ≤ e.slot ∧ e.slot ≤ 1000000) : TbOk ⟨t.b, t.l.set i e, t.gens, t.o⟩ := by
 refine ⟨ok.o.set _ _, by simpa using ok.n, ok.g, fun x hx => ?_⟩
 rcases List.mem_or_eq_of_mem_set hx with h | rfl
 ·exact ok.e x h
 ·exact he
section
variable {w0 : World} {F : Heap} {t : TbM}
theorem tbturn01_K {i : Nat} {e : EntP} (ok : TbOk t) (he : t.l[i]? = some e) (h0 : e.st = 0) :
  Call Tryz.prog w0 179 [.pointer (some ⟨t.b, 0, none⟩), .pointer (some (adr (oV t.o t.l.length) (i * enE.sz))), .int .i64 1] (tabH t ++ F) (fun r H' => r = .tuple #[] ∧ H' = tabH ⟨t.b, t.l.set i ⟨1, e.slot, e.gen⟩, t.gens, t.o⟩ ++ F) := by
 have ho := ok.o
 have hn := ok.n
 obtain ⟨st, sl, ge⟩ := e
 dsimp only at h0
 subst h0
 have c0 := cnt_set he ⟨1, sl, ge⟩ 0
 have c1 := cnt_set he ⟨1, sl, ge⟩ 1
 have c2 := cnt_set he ⟨1, sl, ge⟩ 2
 have c3 := cnt_set he ⟨1, sl, ge⟩ 3
 have p0 : 1 ≤ cntP 0 t.l := cnt_pos he
 have p1 := cnt_le 1 t.l
 have p2 := cnt_le 0 t.l
 simp at c0 c1 c2 c3
 have e0 : ((cntP 0 t.l : Nat) : Int) - 1 = ((cntP 0 (t.l.set i ⟨1, sl, ge⟩) : Nat) : Int) := by omega
 have e1 : ((cntP 1 t.l : Nat) : Int) + 1 = ((cntP 1 (t.l.set i ⟨1, sl, ge⟩) : Nat) : Int) := by omega
 refine Call.enter3 (n := 33) (by kernel_rfl) Tryz.func179 rfl rfl rfl ?_
 simp only [tabH_app]
 refine K.seq ?_
 refine zlr ?_
 refine zo ?_
 refine zK ?_
 refine zeZ ?_
 refine zdE ?_
 refine zca ?_
 refine zcc ?_
 dsimp only
 refine zf8 ?_
 refine zx ?_
 refine zh3 ?_
 refine zca ?_
 refine zcc ?_
 refine zf8 ?_
 refine zd5 ?_
 refine zbC ?_
 refine zh5 ?_
 refine zo ?_
 refine zK ?_
 refine zcc ?_
 refine zf8 ?_
 refine zx ?_
 refine zb1 ?_
 refine zca ?_
 refine zcc ?_
 refine zf8 ?_
 refine zd5 ?_
 refine zcE ?_
 refine zau ?_
 refine zj ?_
 refine zc8 ?_
 refine zc5 ?_
 refine KL.eN (Eff.stSl0 (x1 := (⟨1, sl, ge⟩ : EntP)) rfl rfl rfl rfl byTakeL ho he rfl rfl) ?_; rintro _ _ rfl
 refine zap ?_
 rw [e0, e1]
 exact KE.finN (H' := tabH ⟨t.b, t.l.set i ⟨1, sl, ge⟩, t.gens, t.o⟩ ++ F) byMarks rfl byRes (by simp only [tabH_app, List.length_set, c2, c3]; exact byPart) ⟨rfl, rfl⟩
theorem tbturn12_K {i : Nat} {e : EntP} (ok : TbOk t) (he : t.l[i]? = some e) (h0 : e.st = 1) :
  Call Tryz.prog w0 179 [.pointer (some ⟨t.b, 0, none⟩), .pointer (some (adr (oV t.o t.l.length) (i * enE.sz))), .int .i64 2] (tabH t ++ F) (fun r H' => r = .tuple #[] ∧ H' = tabH ⟨t.b, t.l.set i ⟨2, e.slot, e.gen⟩, t.gens, t.o⟩ ++ F) := by
 have ho := ok.o
 have hn := ok.n
 obtain ⟨st, sl, ge⟩ := e
 dsimp only at h0
 subst h0
 have c0 := cnt_set he ⟨2, sl, ge⟩ 0
 have c1 := cnt_set he ⟨2, sl, ge⟩ 1
 have c2 := cnt_set he ⟨2, sl, ge⟩ 2
 have c3 := cnt_set he ⟨2, sl, ge⟩ 3
 have p0 : 1 ≤ cntP 1 t.l := cnt_pos he
 have p1 := cnt_le 1 t.l
 have p2 := cnt_le 2 t.l
 simp at c0 c1 c2 c3
 have e0 : ((cntP 1 t.l : Nat) : Int) - 1 = ((cntP 1 (t.l.set i ⟨2, sl, ge⟩) : Nat) : Int) := by omega
 have e1 : ((cntP 2 t.l : Nat) : Int) + 1 = ((cntP 2 (t.l.set i ⟨2, sl, ge⟩) : Nat) : Int) := by omega
 refine Call.enter3 (n := 33) (by kernel_rfl) Tryz.func179 rfl rfl rfl ?_
 simp only [tabH_app]
 refine K.seq ?_
 refine zlr ?_
 refine zo ?_
 refine zK ?_
 refine zeZ ?_
 refine zdE ?_
 refine zca ?_
 refine zcc ?_
 dsimp only
 refine zf8 ?_
 refine zx ?_
 refine zh3 ?_
 refine zca ?_
 refine zcc ?_
 refine zf8 ?_
 refine zd5 ?_
 refine zbC ?_
 refine zh5 ?_
 refine zo ?_
 refine zK ?_
 refine zcc ?_
 refine zf8 ?_
 refine zx ?_
 refine zb1 ?_
 refine zca ?_
 refine zcc ?_
 refine zf8 ?_
 refine zd5 ?_
 refine zcE ?_
 refine zau ?_
 refine zj ?_
 refine zc8 ?_
 refine zc5 ?_
 refine KL.eN (Eff.stSl0 (x1 := (⟨2, sl, ge⟩ : EntP)) rfl rfl rfl rfl byTakeL ho he rfl rfl) ?_; rintro _ _ rfl
 refine zap ?_
 rw [e0, e1]
 exact KE.finN (H' := tabH ⟨t.b, t.l.set i ⟨2, sl, ge⟩, t.gens, t.o⟩ ++ F) byMarks rfl byRes (by simp only [tabH_app, List.length_set, c0, c3]; exact byPart) ⟨rfl, rfl⟩
theorem tbin_K {H : Heap} {b : Nat} {st : Int} :
  Call Tryz.prog w0 178 [.pointer (some ⟨b, 0, none⟩), .int .i64 st] H (fun u H' => ∃ b1 b2, u = .func (.func 250) #[] [.pointer (some ⟨b1, 0, none⟩), .pointer (some ⟨b2, 0, none⟩)].toArray ∧ H' = (b1, cells [.pointer (some ⟨b, 0, none⟩)] 86) :: (b2, cells [.int .i64 st] 3) :: H) := by
 refine Call.enter2 (n := 6) (by kernel_rfl) Tryz.func178 rfl rfl rfl ?_
 refine zb3 ?_; intro b2 b3
 refine zr ?_
 refine ziM ?_
 refine zt ?_
 exact KE.fin (H' := (b2, cells [.pointer (some ⟨b, 0, none⟩)] 86) :: (b3, cells [.int .i64 st] 3) :: H) byMarks rfl byRes byPart ⟨b2, b3, rfl, rfl⟩
structure TbI where
 i : Nat
theorem tbin1_K {A0 : Heap} {st : Int} {q1 q2 : Nat} {yv : Value} (ok : TbOk t) (E : Heap → Prop)
  (hy : ∀ (i : Nat) (e : EntP), t.l[i]? = some e → e.st = st → (∀ (j : Nat) (e : EntP), j < i → t.l[j]? = some e → e.st ≠ st) → CallV Tryz.prog w0 yv [.int .i64 (i : Nat), .pointer (some (adr (oV t.o t.l.length) (i * enE.sz)))] (A0 ++ ((q1, cells [.pointer (some ⟨t.b, 0, none⟩)] 86) :: (q2, cells [.int .i64 st] 3) :: (tabH t ++ F))) (fun u H' => u = .bool false ∧ E H')) :
  Call Tryz.prog w0 250 [yv, .pointer (some ⟨q1, 0, none⟩), .pointer (some ⟨q2, 0, none⟩)] (A0 ++ ((q1, cells [.pointer (some ⟨t.b, 0, none⟩)] 86) :: (q2, cells [.int .i64 st] 3) :: (tabH t ++ F)))
   (fun _ H' => ((∀ (j : Nat) (e : EntP), t.l[j]? = some e → e.st ≠ st) ∧ H' = A0 ++ ((q1, cells [.pointer (some ⟨t.b, 0, none⟩)] 86) :: (q2, cells [.int .i64 st] 3) :: (tabH t ++ F))) ∨ E H') := by
 have ho := ok.o
 have hn := ok.n
 refine Call.enter3 (n := 34) (by kernel_rfl) Tryz.func250 rfl rfl rfl ?_
 simp only [tabH_app]
 refine zq ?_
 refine zk ?_
 refine zac ?_
 refine zJ ?_
 refine za6 ?_
 refine zeM ?_
 refine K.loopT (σ := TbI) [(0, _), (1, _), (2, _), (10, _)] (fun s kp_ => (11, .int .i64 (s.i : Nat)) :: kp_) (fun s => A0 ++ ((q1, cells [.pointer (some ⟨t.b, 0, none⟩)] 86) :: (q2, cells [.int .i64 st] 3) :: (tabH t ++ F))) (fun s => s.i ≤ t.l.length ∧ ∀ (j : Nat) (e : EntP), j < s.i → t.l[j]? = some e → e.st ≠ st) (fun s => t.l.length - s.i) (⟨0⟩) bySub (by first | exact byPart | (simp only [tabH_app]; exact byPart)) (⟨Nat.zero_le _, fun j e h => absurd h (Nat.not_lt_zero _)⟩) ?_
 rintro ⟨i⟩ ⟨hi, hno⟩
 dsimp only at hi hno ⊢
 simp only [tabH_app]
 by_cases hlt : i < t.l.length
 ·obtain ⟨e, he⟩ := get_of_lt hlt
  by_cases hst : e.st = st
  ·refine zgr ?_
   refine zkR ?_
   refine zf ?_
   refine zr ?_
   refine zk ?_
   refine zac ?_
   refine zbJ ?_
   refine zbZ ?_
   refine zhc ?_
   refine zls ?_
   refine zK ?_
   refine zeZ ?_
   refine zdE ?_
   refine zx ?_
   refine zdK ?_
   refine zbd ?_
   refine zez ?_
   refine zb2 fun T hT => ?_
   refine (CallV.part (hy i e he hst hno) (by first | exact byPart | (simp only [tabH_app]; exact byPart))).mono ?_
   rintro _ H' ⟨rfl, hE⟩
   refine zi ?_
   clear hT T
   refine zjc ?_
   refine zbj ?_
   refine zV ?_
   refine KE.next (K.condT rfl ?_)
   refine zea ?_
   refine zdO ?_
   refine zaH ?_
   refine zfV ?_
   exact KE.fin byMarks rfl byRes byPart (.inr hE)
  ·refine zgr ?_
   refine zkR ?_
   refine zf ?_
   refine zr ?_
   refine zk ?_
   refine zac ?_
   refine zbJ ?_
   refine zbZ ?_
   refine zhc ?_
   refine zls ?_
   refine zK ?_
   refine zeZ ?_
   refine zdE ?_
   refine zx ?_
   refine zf7 ?_
   refine zo ?_
   refine zgF ?_
   refine zeg ?_
   refine zbD ?_
   refine zbR ?_
   refine zgQ ?_
   refine zeB ?_
   exact KE.again ⟨i + 1⟩ bySub (by first | exact byPart | (simp only [tabH_app]; exact byPart)) ⟨hlt, fun j e' (hj : j < i + 1) he' => by
    rcases Nat.lt_or_ge j i with h | h
    ·exact hno j e' h he'
    ·have : j = i := by omega
     subst this
     rw [he] at he'; cases he'; exact hst⟩ (by show t.l.length - (i + 1) < t.l.length - i; omega)
 ·refine zgr ?_
  refine zeD ?_
  exact KE.finN byMarks rfl byRes (by first | exact byPart | (simp only [tabH_app]; exact byPart)) (.inl ⟨fun j e he => hno j e (by have := lt_of_get he; omega) he, rfl⟩)
end
open Go.RowKit
set_option maxRecDepth 10000
structure MkR (k : MkM) (p : PlanM) (m : MaP) : Prop where
 C : tiC k.c = m.C
 G : GrR k.g p.g m.G
 hs : k.hs = m.hs
 root : k.root = m.root
 act : k.act = m.act
 steps : k.steps = m.steps
structure MkTo (k k' : MkM) : Prop extends MkAs k k' where
 f : k'.c.f = k.c.f
 cb : k'.c.b = k.c.b
 gb : k'.g.b = k.g.b
 o : k'.o = k.o
theorem MkTo.refl (k : MkM) : MkTo k k := ⟨⟨rfl, rfl, rfl, rfl, rfl, rfl⟩, rfl, rfl, rfl, rfl⟩
theorem MkTo.trans {a b c : MkM} (h : MkTo a b) (h' : MkTo b c) : MkTo a c :=
 ⟨⟨h'.b.trans h.b, h'.bb.trans h.bb, h'.tb.trans h.tb, h'.nb.trans h.nb, h'.n.trans h.n, h'.l.trans h.l⟩, h'.f.trans h.f, h'.cb.trans h.cb, h'.gb.trans h.gb, h'.o.trans h.o⟩
section
variable {w0 : World} {F : Heap} {t : TiM}
theorem tiShade_K {s : Nat} {c : Int} (ok : TiOk t) (hc : (tiC t)[s]? = some c) : Call Tryz.prog w0 182 [.pointer (some ⟨t.b, 0, none⟩), .int .i64 (s : Nat)] (tintH t ++ F)
  (fun r H' => r = .tuple [.bool (decide (c = 0)), .int .i64 0].toArray ∧ ∃ t', TiOk t' ∧ t'.b = t.b ∧ t'.f = t.f ∧ tiC t' = (if c = 0 then (tiC t).set s 1 else tiC t) ∧ H' = tintH t' ++ F) := by
 have ho := ok.o
 have hf := ok.f
 have hs : s < t.l.length := by have := lt_of_get hc; rwa [tiC_len] at this
 obtain ⟨v, hv⟩ := get_of_lt hs
 by_cases h0 : c = 0
 ·rw [decide_eq_true h0, if_pos h0]
  refine Call.enter2 (n := 32) (by kernel_rfl) Tryz.func182 rfl rfl rfl ?_
  refine zaj ?_
  refine zcC fun T hT => ?_
  refine (CallV.fn (tiOf_K ok hc)).mono ?_
  rintro _ _ ⟨rfl, rfl⟩
  refine zd ?_
  clear hT T
  simp only [tintH_app]
  refine zG ?_
  refine za1 ?_
  refine zD ?_
  refine zn ?_
  refine zdF ?_
  refine K.drawn [] [(0, 0), (1, 0), (2, 0), (3, 0), (4, 0), (5, 0), (6, 0), (7, 0), (8, 0), (9, 0), (10, 0), (11, 2)] (by kernel_rfl) (by kernel_rfl) (by kernel_rfl) (by kernel_rfl) (by kernel_rfl) (by kernel_rfl) Part.nil ?_
  refine zK ?_
  refine zcT ?_
  refine zK ?_
  refine zdj ?_
  refine zgT ?_
  refine zdD ?_
  refine zi1 ?_
  refine zgl ?_
  refine zaN ?_
  refine zL ?_
  have hle : (t.l.set s (2 * (t.f : Int))).length = t.l.length := List.length_set
  refine KE.fin (H' := tintH ⟨t.b, t.l.set s (2 * (t.f : Int)), t.f, t.o⟩ ++ F) byMarks rfl byRes (by simp only [tintH_app, hle]; exact byPart) ⟨rfl, ⟨t.b, t.l.set s (2 * (t.f : Int)), t.f, t.o⟩, ⟨ho.set s _, by rw [hle]; exact ok.n, hf, ?_⟩, rfl, rfl, ?_, rfl⟩
  ·intro u hu
   rcases List.mem_or_eq_of_mem_set hu with h | rfl
   ·exact ok.v u h
   ·dsimp only; omega
  ·unfold tiC
   rw [List.map_set]
   congr 1
   unfold colP
   rw [if_pos rfl]
 ·rw [decide_eq_false h0, if_neg h0]
  refine Call.enter2 (n := 32) (by kernel_rfl) Tryz.func182 rfl rfl rfl ?_
  refine zaj ?_
  refine zcC fun T hT => ?_
  refine (CallV.fn (tiOf_K ok hc)).mono ?_
  rintro _ _ ⟨rfl, rfl⟩
  refine zd ?_
  clear hT T
  simp only [tintH_app]
  refine zG ?_
  refine za1 ?_
  refine zaP ?_
  refine zaz ?_
  refine zf ?_
  refine zeF ?_
  exact KE.fin byMarks rfl byRes (by first | exact byPart | (simp only [tintH_app]; exact byPart)) ⟨rfl, t, ok, rfl, rfl, rfl, rfl⟩
end
section
variable {w0 : World} {F : Heap} {k : MkM} {p : PlanM} {m : MaP}
theorem mkshade_K {s : Nat} (ok : MkOk k p) (hR : MkR k p m) (hs : s < p.g.slots) : Call Tryz.prog w0 110 [.pointer (some ⟨k.b, 0, none⟩), .int .i64 (s : Nat)] (markH k p ++ (planH p ++ F))
  (fun r H' => r = .tuple #[] ∧ ∃ k', MkOk k' p ∧ MkTo k k' ∧ MkR k' p (shadeM p.g k.g.ring.length m (s : Nat)) ∧ H' = markH k' p ++ (planH p ++ F)) := by
 obtain ⟨c, hc⟩ := tiC_get ok hs
 have okc := ok.c
 have okg := ok.g
 have hmc : m.C[s]? = some c := by rw [← hR.C]; exact hc
 by_cases h0 : c = 0
 ·have hsm : shadeM p.g k.g.ring.length m (s : Nat) = { m with C := m.C.set s 1, G := putG p.g k.g.ring.length m.G s } := by
   unfold shadeM
   rw [Int.toNat_natCast, hmc, h0, if_pos ⟨by omega, rfl⟩]
  subst h0
  refine Call.enter2 (n := 22) (by kernel_rfl) Tryz.func110 rfl rfl rfl ?_
  simp only [markH_app]
  refine zq ?_
  refine zX ?_
  refine zZ ?_
  refine zdx fun T hT => ?_
  refine (CallV.part (CallV.fn (tiShade_K okc hc)) byPart).mono ?_
  rintro _ _ ⟨rfl, c', kc, cb, cf, cc, rfl⟩
  refine zd ?_
  clear hT T
  refine zbv ?_
  refine zbz ?_
  refine zX ?_
  refine zaY ?_
  refine zdx fun T hT => ?_
  refine (CallV.part (CallV.fn (grPut_K okg hR.G hs)) byPart).mono ?_
  rintro _ _ ⟨rfl, g', kg, gb, gl, gR, rfl⟩
  refine zd ?_
  clear hT T
  refine zap ?_
  rw [← cb, ← gb]
  have hcn : c'.l.length = p.g.slots := by have := congrArg List.length cc; rw [tiC_len, if_pos rfl, List.length_set, tiC_len, ok.n] at this; exact this
  exact KE.finN (H' := markH { k with c := c', g := g' } p ++ (planH p ++ F)) byMarks rfl byRes (by simp only [markH_app]; exact byPart)
   ⟨rfl, { k with c := c', g := g' }, ⟨kc, kg, hcn, ok.o, ok.hs⟩, ⟨⟨rfl, rfl, rfl, rfl, rfl, gl⟩, cf, cb, gb, rfl⟩, by rw [hsm]; exact ⟨by show tiC c' = _; rw [cc, if_pos rfl, hR.C], gR, hR.hs, hR.root, hR.act, hR.steps⟩, by simp only [markH_app]⟩
 ·have hsm : shadeM p.g k.g.ring.length m (s : Nat) = m := by
   unfold shadeM
   rw [Int.toNat_natCast, hmc, if_neg]
   rintro ⟨_, h⟩; cases h; exact h0 rfl
  have hd : decide (c = 0) = false := decide_eq_false h0
  refine Call.enter2 (n := 22) (by kernel_rfl) Tryz.func110 rfl rfl rfl ?_
  simp only [markH_app]
  refine zq ?_
  refine zX ?_
  refine zZ ?_
  refine zdx fun T hT => ?_
  refine (CallV.part (CallV.fn (tiShade_K okc hc)) byPart).mono ?_
  rw [hd]
  rintro _ _ ⟨rfl, c', kc, cb, cf, cc, rfl⟩
  rw [if_neg h0] at cc
  refine zd ?_
  clear hT T
  refine zbv ?_
  refine za7 ?_
  rw [← cb]
  have hcn : c'.l.length = p.g.slots := by have := congrArg List.length cc; rw [tiC_len, tiC_len, ok.n] at this; exact this
  exact KE.finN (H' := markH { k with c := c' } p ++ (planH p ++ F)) byMarks rfl byRes (by simp only [markH_app]; exact byPart)
   ⟨rfl, { k with c := c' }, ⟨kc, ok.g, hcn, ok.o, ok.hs⟩, ⟨⟨rfl, rfl, rfl, rfl, rfl, rfl⟩, cf, cb, rfl, rfl⟩, by rw [hsm]; exact ⟨by show tiC c' = _; rw [cc, hR.C], hR.G, hR.hs, hR.root, hR.act, hR.steps⟩, by simp only [markH_app]⟩
end
end Go.Proofs.YtalholahapcpkaaGreatDoor.Sw
