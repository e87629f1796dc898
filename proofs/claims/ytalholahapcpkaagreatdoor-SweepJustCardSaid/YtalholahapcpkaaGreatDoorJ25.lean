/- The walker and the contracts that the law needs, part 25. -/
import Derived.Test.YtalholahapcpkaaGreatDoorJ13
import Derived.Test.YtalholahapcpkaaGreatDoorJ24
namespace Go.Proofs.YtalholahapcpkaaGreatDoor.Sw
open Go.Proofs.YtalholahapcpkaaGreatDoor renaming lo → qL, hi → qH
open Go.RowKit
set_option linter.unusedVariables false
set_option linter.unusedSimpArgs false
set_option maxRecDepth 10000
def arK (a : ArM) (D : List Bool) (k : Nat) : ArM := ⟨a.b, ⟨a.r.b, lessK a.r.bs D k, a.r.o⟩⟩
theorem arK_zero (a : ArM) (D : List Bool) : arK a D 0 = a := by unfold arK; rw [lessK_zero]
theorem arK_next {a : ArM} {D : List Bool} {k i : Nat} (hl : D.length = a.r.bs.length) (h : nextB D k true = some i) : setA (arK a D k) i false = arK a D (i + 1) := by
 unfold setA arK setR
 dsimp only
 rw [lessK_next hl h]
def GaJ (l D : Nat) (rc : Rec) (b2 b4 : Nat) (a : ArM) (p : PlanM) (bs : List Bool) (k : Nat) (A : Heap) : Prop :=
 A = (l, .loop (rc .ready none)) :: (D, .deferred (some [])) :: (b2, cells [.pointer (some ⟨a.b, 0, none⟩)] 28) :: (b4, cells [.int .i64 0] 56) :: arenaH a p ∧ ∀ j : Nat, j < k → bs[j]? = some true → a.r.bs[j]? = some true
def GaE (l D : Nat) (rc : Rec) (b2 b4 : Nat) (a : ArM) (p : PlanM) (bs : List Bool) (A : Heap) : Prop :=
 A = (l, .loop (rc .done (some .ret))) :: (D, .deferred (some [])) :: (b2, cells [.pointer (some ⟨a.b, 0, none⟩)] 28) :: (b4, cells [.int .i64 9] 56) :: arenaH a p ∧ ∃ i : Nat, a.r.bs[i]? = some false ∧ bs[i]? = some true
def GbJ (l D : Nat) (rc : Rec) (b2 b4 : Nat) (a : ArM) (p : PlanM) (bs : List Bool) (k : Nat) (A : Heap) : Prop :=
 A = (l, .loop (rc .ready none)) :: (D, .deferred (some [])) :: (b2, cells [.pointer (some ⟨a.b, 0, none⟩)] 28) :: (b4, cells [.int .i64 0] 56) :: arenaH (arK a bs k) p ∧ ArOk (arK a bs k) p
theorem bit_of {l : List Bool} {i : Nat} (h : i < l.length) {v : Bool} (e : (l[i]?).getD false = v) : l[i]? = some v := by
 rw [List.getElem?_eq_getElem h] at e ⊢; simp at e; rw [e]
set_option maxHeartbeats 2000000 in
theorem GiveAll_K {w0 : World} {F : Heap} {a : ArM} {p : PlanM} {r : RowM} (hG : Glob w0) (ok : ArOk a p) (okr : RowOk r) (hl : r.bs.length = a.r.bs.length) :
  Call Tryz.prog w0 89 [.pointer (some ⟨a.b, 0, none⟩), .pointer (some ⟨r.b, 0, none⟩)] (rowH r ++ (arenaH a p ++ (planH p ++ F))) (fun v H' => v = .int .i64 (giveAllP a.r.bs r.bs).1 ∧ ∃ a' : ArM, ArOk a' p ∧ a'.b = a.b ∧ a'.r.b = a.r.b ∧ a'.r.bs = (giveAllP a.r.bs r.bs).2 ∧ H' = rowH r ++ (arenaH a' p ++ (planH p ++ F))) := by
 have okar := ok.r
 have hgp : giveAllP a.r.bs r.bs = if okAll a.r.bs r.bs then (0, lessL a.r.bs r.bs) else (9, a.r.bs) := by unfold giveAllP; rw [if_pos hl]
 have hne : ¬ ((r.bs.length : Nat) : Int) ≠ ((a.r.bs.length : Nat) : Int) := by omega
 refine Call.enter2 (n := 40) (by kernel_rfl) Tryz.func89 rfl rfl rfl ?_
 refine K.seq (K.region ?_)
 refine KL.e rfl (Eff.box rfl rfl) ?_; rintro _ _ ⟨b2, rfl, rfl⟩
 refine KL.e rfl (Eff.alloc rfl) ?_; rintro _ _ ⟨b4, rfl, rfl⟩
 refine KL.nil (KE.next (K.seq (K.block (K.seq (K.region ?_)))))
 refine KL.v rfl (Val.loadP rfl rfl (Sees.cell byTake rfl)) ?_
 refine KL.callc rfl rfl byEvL fun T hT => ?_
 refine (CallV.part (CallV.fn (arnone_K (a := a) (p := p))) byPart).mono ?_
 rintro _ _ ⟨rfl, rfl⟩
 refine hT _ _ ?_; clear hT T
 refine KL.v rfl (Val.assign rfl) ?_
 refine KL.nil (KE.next (K.condF rfl (K.seq ?_)))
 refine K.drawn _ [(0, 0), (1, 2), (2, 0), (3, 0), (4, 0), (6, 1), (7, 1), (8, 1), (9, 1), (5, 2), (10, 2), (11, 0), (12, 0), (13, 0)] (by kernel_rfl) (by kernel_rfl) (by kernel_rfl) (by kernel_rfl) (by kernel_rfl) (by kernel_rfl) Part.all ?_
 refine KD.v0 rfl rfl (Val.move rfl) ?_
 refine KD.callc rfl rfl rfl byEvL fun T hT => ?_
 refine (CallV.part (CallV.fn (rCopy_K okr)) byPart).mono ?_
 rintro _ _ ⟨r', kr', hbs, rfl, rfl⟩
 refine hT _ _ byPart ?_; clear hT T
 refine KD.v0 rfl rfl (Val.eqlPN rfl rfl rfl) ?_
 refine KD.v0 rfl rfl (Val.move rfl) ?_
 refine KD.y0 rfl rfl rfl rfl (Val.move rfl) ?_
 refine KD.y1 rfl rfl rfl rfl (Val.loadP rfl rfl (Sees.cell byTake rfl)) ?_
 refine KD.y1 rfl rfl rfl rfl (Val.nilCheck rfl) ?_
 refine KD.y1 rfl rfl rfl rfl (Val.fieldAddr0 (k := 1) rfl rfl) ?_
 refine KD.y1 rfl rfl rfl rfl (Val.loadP rfl rfl (Sees.cell byTake rfl)) ?_
 refine KD.callcY rfl rfl rfl rfl rfl byEvL fun T hT => ?_
 refine (CallV.part (CallV.fn (rLen_K (r := r))) byPart).mono ?_
 rintro _ _ ⟨rfl, rfl⟩
 refine hT _ _ byPart ?_; clear hT T
 simp only [arenaH_app]
 refine KD.callcY rfl rfl rfl rfl rfl byEvL fun T hT => ?_
 refine (CallV.part (CallV.fn (rLen_K (r := a.r))) byPart).mono ?_
 rintro _ _ ⟨rfl, rfl⟩
 refine hT _ _ byPart ?_; clear hT T
 refine KD.y0 rfl rfl rfl rfl (Val.isF (Val.neq rfl rfl) byLt) ?_
 refine KD.v0 rfl rfl (Val.pickF rfl rfl rfl) ?_
 refine KD.v0 rfl rfl (Val.assign rfl) ?_
 refine KD.nil ?_
 refine KE.next (K.condF rfl (K.skip ?_))
 refine KE.blkN ?_
 refine KE.next (K.seq (K.seq (K.region ?_)))
 refine KL.v rfl (Val.move rfl) ?_
 refine KL.callc rfl rfl byEvL fun T hT => ?_
 refine (CallV.part (CallV.fn (aeach_K (b := r.b) (H := (b2, cells [.pointer (some ⟨a.b, 0, none⟩)] 28) :: (b4, cells [.int .i64 0] 56) :: (arenaH a p ++ (rowH r ++ (planH p ++ F)))))) (by simp only [arenaH_app]; exact byPart)).mono ?_
 rintro _ _ ⟨bl, rfl, rfl⟩
 refine hT _ _ ?_; clear hT T
 refine KL.nil (KE.next (K.block ?_))
 refine K.rangeFunc (lb := [.pointer (some ⟨bl, 0, none⟩)]) rfl
  (fun D G => G = (bl, cells [.pointer (some ⟨r.b, 0, none⟩)] 71) :: (D, .deferred (some [])) :: (b2, cells [.pointer (some ⟨a.b, 0, none⟩)] 28) :: (b4, cells [.int .i64 0] 56) :: (arenaH a p ++ (rowH r ++ (planH p ++ F))) ∧ ∀ j : Nat, r.bs[j]? = some true → a.r.bs[j]? = some true)
  (fun D c G => c = .ret ∧ G = (bl, cells [.pointer (some ⟨r.b, 0, none⟩)] 71) :: (D, .deferred (some [])) :: (b2, cells [.pointer (some ⟨a.b, 0, none⟩)] 28) :: (b4, cells [.int .i64 9] 56) :: (arenaH a p ++ (rowH r ++ (planH p ++ F))) ∧ ∃ i : Nat, a.r.bs[i]? = some false ∧ r.bs[i]? = some true) ?_ ?_ ?_
 ·intro l D rc hyl
  refine (Call.part (each1_K (F := planH p ++ F) (r := r) (bl := bl) hG okr (GaJ l D rc b2 b4 a p r.bs) (GaE l D rc b2 b4 a p r.bs)
   (A0 := (l, .loop (rc .ready none)) :: (D, .deferred (some [])) :: (b2, cells [.pointer (some ⟨a.b, 0, none⟩)] 28) :: (b4, cells [.int .i64 0] 56) :: arenaH a p) ?_ ⟨rfl, fun j h => by omega⟩) (by simp only [List.cons_append]; exact byPart)).mono ?_
  ·rintro k i A ⟨rfl, hno⟩ hnx
   obtain ⟨n1, n2, n3, n4⟩ := nextB_of hnx
   have hdi := bit_of n1 n3
   have hno' : ∀ j : Nat, j < i → r.bs[j]? = some true → a.r.bs[j]? = some true := fun j h1 h2 => by
    by_cases hj : j < k
    ·exact hno j hj h2
    ·exact absurd (by rw [h2]; rfl) (n4 j (by omega) h1)
   have hgb : getB a.r.bs (i : Nat) = (a.r.bs[i]?).getD false := getB_in
   obtain ⟨v, hv⟩ := get_of_lt (l := a.r.bs) (k := i) (by omega)
   rw [hv] at hgb
   dsimp only [Option.getD] at hgb
   simp only [List.cons_append]
   refine hyl _ _ _ _ _ (ParS.cons rfl ParS.nil) byTake ?_
   refine byCode ?_
   refine KL.v rfl (Val.assign rfl) ?_
   refine KL.nil ?_
   refine KE.begin byTake ?_
   refine K.block ?_
   simp only [arenaH_app]
   refine K.seq (K.region ?_)
   refine KL.v rfl (Val.loadP rfl rfl (Sees.cell byTake rfl)) ?_
   refine KL.v rfl (Val.nilCheck rfl) ?_
   refine KL.v rfl (Val.fieldAddr0 (k := 1) rfl rfl) ?_
   refine KL.v rfl (Val.loadP rfl rfl (Sees.cell byTake rfl)) ?_
   refine KL.v rfl (Val.move rfl) ?_
   refine KL.callc rfl rfl byEvL fun T hT => ?_
   refine (CallV.part (CallV.fn (Get_K (i := (i : Nat)) okar)) byPart).mono ?_
   rintro _ _ ⟨rfl, rfl⟩
   rw [hgb]
   cases v with
   | true =>
    refine hT _ _ ?_; clear hT T
    refine KL.v rfl (Val.notT rfl) ?_
    refine KL.nil (KE.next (K.condF rfl (K.skip ?_)))
    refine KE.blkN ?_
    refine KE.part ((l, .loop (rc .busy none)) :: ((D, .deferred (some [])) :: (b2, cells [.pointer (some ⟨a.b, 0, none⟩)] 28) :: (b4, cells [.int .i64 0] 56) :: arenaH a p) ++ ((bl, cells [.pointer (some ⟨r.b, 0, none⟩)] 71) :: (rowH r ++ (planH p ++ F)))) (by simp only [List.cons_append, arenaH_app]; exact byPart) ?_
    exact KE.roundN Take.head (.inl ⟨rfl, _, ⟨rfl, fun j h1 h2 => by
     by_cases hji : j = i
     ·rw [hji]; exact hv
     ·exact hno' j (by omega) h2⟩, rfl⟩)
   | false =>
    refine hT _ _ ?_; clear hT T
    refine KL.v rfl (Val.notF rfl) ?_
    refine KL.nil (KE.next (K.condT rfl (K.seq (K.region ?_))))
    refine KL.eN (Eff.storeL rfl rfl byOne rfl byTake bySetAt) ?_; rintro _ _ rfl
    refine KL.nil (KE.next ?_)
    refine K.ret ?_
    refine KE.blkR ?_
    refine KE.part ((l, .loop (rc .busy none)) :: ((D, .deferred (some [])) :: (b2, cells [.pointer (some ⟨a.b, 0, none⟩)] 28) :: (b4, cells [.int .i64 9] 56) :: arenaH a p) ++ ((bl, cells [.pointer (some ⟨r.b, 0, none⟩)] 71) :: (rowH r ++ (planH p ++ F)))) (by simp only [List.cons_append, arenaH_app]; exact byPart) ?_
    exact KE.roundR Take.head (.inr ⟨rfl, _, ⟨rfl, i, hv, hdi⟩, rfl⟩)
  ·rintro u H' ⟨A', rfl, (⟨k, hk, rfl, hno⟩ | ⟨rfl, i, hi1, hi2⟩)⟩
   ·refine .inl ⟨_, ?_, rfl, fun j hj => ?_⟩
    ·simp only [List.cons_append]
     exact byPart
    ·by_cases hjk : j < k
     ·exact hno j hjk hj
     ·unfold nextB at hk
      rw [List.find?_eq_none] at hk
      have := hk j (List.mem_range.2 (lt_of_get hj))
      rw [hj] at this
      simp at this; omega
   ·refine .inr ⟨.ret, _, ?_, rfl, rfl, i, hi1, hi2⟩
    simp only [List.cons_append]
    exact byPart
 ·rintro D G ⟨rfl, hall⟩
  have hoa : okAll a.r.bs r.bs = true := ok_all hall
  rw [hoa] at hgp
  simp only [if_true] at hgp
  rw [hgp]
  refine KE.blkN ?_
  refine KE.next (K.seq (K.seq (K.region ?_)))
  refine KL.v rfl (Val.move rfl) ?_
  refine KL.callc rfl rfl byEvL fun T hT => ?_
  refine (CallV.part (CallV.fn (aeach_K (b := r.b) (H := (D, .deferred (some [])) :: (b2, cells [.pointer (some ⟨a.b, 0, none⟩)] 28) :: (b4, cells [.int .i64 0] 56) :: (arenaH a p ++ (rowH r ++ (planH p ++ F)))))) byPart).mono ?_
  rintro _ _ ⟨bm, rfl, rfl⟩
  refine hT _ _ ?_; clear hT T
  refine KL.nil (KE.next (K.block ?_))
  refine K.rangeFunc (lb := [.pointer (some ⟨bm, 0, none⟩)]) rfl
   (fun D2 G => ∃ k, nextB r.bs k true = none ∧ ArOk (arK a r.bs k) p ∧ G = (bm, cells [.pointer (some ⟨r.b, 0, none⟩)] 71) :: (D2, .deferred (some [])) :: (b2, cells [.pointer (some ⟨a.b, 0, none⟩)] 28) :: (b4, cells [.int .i64 0] 56) :: (arenaH (arK a r.bs k) p ++ (rowH r ++ (planH p ++ ((D, .deferred (some [])) :: F)))))
   (fun D c G => False) ?_ ?_ ?_
  ·intro l D2 rc hyl
   refine (Call.part (each1_K (F := planH p ++ ((D, .deferred (some [])) :: F)) (r := r) (bl := bm) hG okr (GbJ l D2 rc b2 b4 a p r.bs) (fun _ => False)
    (A0 := (l, .loop (rc .ready none)) :: (D2, .deferred (some [])) :: (b2, cells [.pointer (some ⟨a.b, 0, none⟩)] 28) :: (b4, cells [.int .i64 0] 56) :: arenaH (arK a r.bs 0) p) ?_ ⟨rfl, by rw [arK_zero]; exact ok⟩) (by rw [arK_zero]; simp only [List.cons_append]; exact byPart)).mono ?_
   ·rintro k i A ⟨rfl, hok⟩ hnx
    obtain ⟨n1, n2, n3, n4⟩ := nextB_of hnx
    have hdi := bit_of n1 n3
    have hai := hall i hdi
    have hki : (arK a r.bs k).r.bs[i]? = some true := by
     show (lessK a.r.bs r.bs k)[i]? = _
     rw [lessK_get (lt_of_get hai), hai]; simp; omega
    have hnk := arK_next hl hnx
    have hok' := setA_ok hok i false
    rw [hnk] at hok'
    simp only [List.cons_append]
    refine hyl _ _ _ _ _ (ParS.cons rfl ParS.nil) byTake ?_
    refine byCode ?_
    refine KL.v rfl (Val.assign rfl) ?_
    refine KL.nil ?_
    refine KE.begin byTake ?_
    refine K.block (K.region ?_)
    refine KL.v rfl (Val.loadP rfl rfl (Sees.cell byTake rfl)) ?_
    refine KL.v rfl (Val.move rfl) ?_
    refine KL.callc rfl rfl byEvL fun T hT => ?_
    refine (CallV.part (CallV.fn (agive_K hok hki)) byPart).mono ?_
    rintro _ _ ⟨rfl, rfl⟩
    rw [hnk]
    refine hT _ _ ?_; clear hT T
    refine KL.nil ?_
    refine KE.blkN ?_
    refine KE.part ((l, .loop (rc .busy none)) :: ((D2, .deferred (some [])) :: (b2, cells [.pointer (some ⟨a.b, 0, none⟩)] 28) :: (b4, cells [.int .i64 0] 56) :: arenaH (arK a r.bs (i + 1)) p) ++ ((bm, cells [.pointer (some ⟨r.b, 0, none⟩)] 71) :: (rowH r ++ (planH p ++ ((D, .deferred (some [])) :: F))))) (by simp only [List.cons_append]; exact byPart) ?_
    exact KE.roundN Take.head (.inl ⟨rfl, _, ⟨rfl, hok'⟩, rfl⟩)
   ·rintro u H' ⟨A', rfl, (⟨k, hk, rfl, hok⟩ | hf)⟩
    ·refine .inl ⟨_, ?_, k, hk, hok, rfl⟩
     simp only [List.cons_append]
     exact byPart
    ·exact hf.elim
  ·rintro D2 G ⟨k, hk, hok, rfl⟩
   have hlk : (arK a r.bs k).r.bs = lessL a.r.bs r.bs := lessK_done hl hk
   refine KE.blkN ?_
   refine KE.next (K.seq (K.region ?_))
   refine KL.eN (Eff.storeL rfl rfl byOne rfl byTake bySetAt) ?_; rintro _ _ rfl
   refine KL.nil (KE.next ?_)
   refine K.ret ?_
   exact KE.fin byMarks rfl byRes byPart ⟨rfl, arK a r.bs k, hok, rfl, rfl, hlk, rfl⟩
  ·rintro D2 c G hf
   exact hf.elim
 ·rintro D c G ⟨rfl, rfl, i, hi1, hi2⟩
  have hoa : okAll a.r.bs r.bs = false := ok_bad hi1 hi2
  rw [hoa] at hgp
  simp only [Bool.false_eq_true, if_false] at hgp
  rw [hgp]
  refine K.ret ?_
  refine KE.blkR ?_
  refine KE.passR ?_
  exact KE.fin byMarks rfl byRes byPart ⟨rfl, a, ok, rfl, rfl, rfl, rfl⟩
set_option maxRecDepth 10000
structure TiM where
 b : Nat
 l : List Int
 f : Nat
 o : Own
def colP (f : Nat) (v : Int) : Int := if v = 2 * (f : Int) then 1 else if v = 2 * (f : Int) + 1 then 2 else 0
def tiC (t : TiM) : List Int := t.l.map (colP t.f)
def tintH (t : TiM) : Heap := (t.b, cells [oV t.o t.l.length, .int .u64 (t.f : Nat)] 279) :: oH uE 64 t.l t.o
theorem tintH_app {t : TiM} {F : Heap} : tintH t ++ F = (t.b, cells [oV t.o t.l.length, .int .u64 (t.f : Nat)] 279) :: (oH uE 64 t.l t.o ++ F) := rfl
structure TiOk (t : TiM) : Prop where
 o : oOk uE t.l t.o
 n : t.l.length ≤ 65536
 f : 1 ≤ t.f ∧ t.f ≤ 1000000000
 v : ∀ v ∈ t.l, 0 ≤ v ∧ v ≤ 2 * (t.f : Int) + 1
theorem tiC_len (t : TiM) : (tiC t).length = t.l.length := by simp [tiC]
section
variable {w0 : World} {F : Heap} {t : TiM}
theorem tinone_K (ok : TiOk t) : Call Tryz.prog w0 196 [.pointer (some ⟨t.b, 0, none⟩)] (tintH t ++ F) (fun r H' => r = .bool false ∧ H' = tintH t ++ F) := by
 have hf := ok.f
 have hne : ¬ ((t.f : Nat) : Int) = 0 := by omega
 refine Call.enter1 (n := 12) (by kernel_rfl) Tryz.func196 rfl rfl rfl ?_
 simp only [tintH_app]
 refine K.seq (K.region ?_)
 refine KL.v rfl (Val.assign rfl) ?_
 refine KL.nil (KE.next (K.seq (K.region ?_)))
 refine KL.v rfl (Val.move rfl) ?_
 refine KL.v rfl (Val.eqlPN rfl rfl rfl) ?_
 refine KL.v rfl (Val.move rfl) ?_
 refine KL.yes rfl rfl ?_; refine KL.v rfl (Val.move rfl) ?_
 refine KL.yes rfl rfl ?_; refine KL.v rfl (Val.nilCheck rfl) ?_
 refine KL.yes rfl rfl ?_; refine KL.v rfl (Val.fieldAddr0 (k := 1) rfl rfl) ?_
 refine KL.yes rfl rfl ?_; refine KL.v rfl (Val.loadP rfl rfl (Sees.cell byTake rfl)) ?_
 refine KL.yes rfl rfl ?_; refine KL.v rfl (Val.isF (Val.eql rfl rfl) byLt) ?_
 refine KL.v rfl (Val.pickF rfl rfl rfl) ?_
 refine KL.v rfl (Val.assign rfl) ?_
 refine KL.nil (KE.next ?_)
 refine K.ret ?_
 exact KE.fin byMarks rfl byRes (by first | exact byPart | (simp only [tintH_app]; exact byPart)) ⟨rfl, rfl⟩
theorem tihas_K {s : Nat} (ok : TiOk t) (hs : s < t.l.length) : Call Tryz.prog w0 184 [.pointer (some ⟨t.b, 0, none⟩), .int .i64 (s : Nat)] (tintH t ++ F) (fun r H' => r = .int .i64 0 ∧ H' = tintH t ++ F) := by
 have ho := ok.o
 have hge : ¬ ((s : Nat) : Int) ≥ (t.l.length : Nat) := by omega
 refine Call.enter2 (n := 20) (by kernel_rfl) Tryz.func184 rfl rfl rfl ?_
 refine K.seq (K.region ?_)
 refine KL.v rfl (Val.assign rfl) ?_
 refine KL.nil (KE.next (K.seq (K.block (K.seq (K.region ?_)))))
 refine KL.v rfl (Val.move rfl) ?_
 refine KL.callc rfl rfl byEvL fun T hT => ?_
 refine (CallV.fn (tinone_K ok)).mono ?_
 rintro _ _ ⟨rfl, rfl⟩
 refine hT _ _ ?_; clear hT T
 simp only [tintH_app]
 refine KL.v rfl (Val.assign rfl) ?_
 refine KL.nil (KE.next (K.condF rfl (K.seq (K.region ?_))))
 refine KL.v rfl (Val.move rfl) ?_
 refine KL.v rfl (Val.isF (Val.lss rfl rfl) byLt) ?_
 refine KL.v rfl (Val.move rfl) ?_
 refine KL.yes rfl rfl ?_; refine KL.v rfl (Val.move rfl) ?_
 refine KL.yes rfl rfl ?_; refine KL.v rfl (Val.move rfl) ?_
 refine KL.yes rfl rfl ?_; refine KL.v rfl (Val.nilCheck rfl) ?_
 refine KL.yes rfl rfl ?_; refine KL.v rfl (Val.fieldAddr0 (k := 0) rfl rfl) ?_
 refine KL.yes rfl rfl ?_; refine KL.v rfl (Val.loadP rfl rfl (Sees.cell byTake rfl)) ?_
 refine KL.yes rfl rfl ?_; refine KL.v rfl (Val.lenSl rfl rfl (Sli.own byTakeL (by assumption) byLen)) ?_
 refine KL.yes rfl rfl ?_; refine KL.v rfl (Val.isF (Val.geq rfl rfl) byLt) ?_
 refine KL.v rfl (Val.pickF rfl rfl rfl) ?_
 refine KL.v rfl (Val.assign rfl) ?_
 refine KL.nil (KE.next (K.condF rfl (K.skip ?_)))
 refine KE.blkN ?_
 refine KE.next (K.seq (K.region ?_))
 refine KL.v rfl (Val.assign rfl) ?_
 refine KL.nil (KE.next ?_)
 refine K.ret ?_
 exact KE.fin byMarks rfl byRes (by first | exact byPart | (simp only [tintH_app]; exact byPart)) ⟨rfl, rfl⟩
theorem ticol_K {v : Int} (ok : TiOk t) : Call Tryz.prog w0 185 [.pointer (some ⟨t.b, 0, none⟩), .int .u64 v] (tintH t ++ F) (fun r H' => r = .int .u8 (colP t.f v) ∧ H' = tintH t ++ F) := by
 have hf := ok.f
 by_cases h1 : v = 2 * (t.f : Int)
 ·have e : colP t.f v = 1 := by unfold colP; rw [if_pos h1]
  rw [e]
  refine Call.enter2 (n := 21) (by kernel_rfl) Tryz.func185 rfl rfl rfl ?_
  simp only [tintH_app]
  refine K.seq (K.region ?_)
  refine KL.v rfl (Val.assign rfl) ?_
  refine KL.nil (KE.next (K.seq (K.seq (K.region ?_))))
  refine KL.v rfl (Val.move rfl) ?_
  refine KL.nil (KE.next (K.block (K.seq (K.region ?_))))
  refine KL.v rfl (Val.move rfl) ?_
  refine KL.v rfl (Val.nilCheck rfl) ?_
  refine KL.v rfl (Val.fieldAddr0 (k := 1) rfl rfl) ?_
  refine KL.v rfl (Val.loadP rfl rfl (Sees.cell byTake rfl)) ?_
  refine KL.v rfl (Val.mul rfl rfl (by simp only [qL, qH]; omega)) ?_
  refine KL.v rfl (Val.isT (Val.eql rfl rfl) byLt) ?_
  refine KL.v rfl (Val.assign rfl) ?_
  refine KL.nil (KE.next (K.condT rfl (K.seq (K.region ?_))))
  refine KL.v rfl (Val.assign rfl) ?_
  refine KL.nil (KE.next ?_)
  refine K.ret ?_
  refine KE.blkR ?_
  refine KE.passR ?_
  exact KE.fin byMarks rfl byRes (by first | exact byPart | (simp only [tintH_app]; exact byPart)) ⟨rfl, rfl⟩
 ·by_cases h2 : v = 2 * (t.f : Int) + 1
  ·have e : colP t.f v = 2 := by unfold colP; rw [if_neg h1, if_pos h2]
   rw [e]
   refine Call.enter2 (n := 21) (by kernel_rfl) Tryz.func185 rfl rfl rfl ?_
   simp only [tintH_app]
   refine K.seq (K.region ?_)
   refine KL.v rfl (Val.assign rfl) ?_
   refine KL.nil (KE.next (K.seq (K.seq (K.region ?_))))
   refine KL.v rfl (Val.move rfl) ?_
   refine KL.nil (KE.next (K.block (K.seq (K.region ?_))))
   refine KL.v rfl (Val.move rfl) ?_
   refine KL.v rfl (Val.nilCheck rfl) ?_
   refine KL.v rfl (Val.fieldAddr0 (k := 1) rfl rfl) ?_
   refine KL.v rfl (Val.loadP rfl rfl (Sees.cell byTake rfl)) ?_
   refine KL.v rfl (Val.mul rfl rfl (by simp only [qL, qH]; omega)) ?_
   refine KL.v rfl (Val.isF (Val.eql rfl rfl) byLt) ?_
   refine KL.v rfl (Val.assign rfl) ?_
   refine KL.nil (KE.next (K.condF rfl (K.seq (K.region ?_))))
   refine KL.v rfl (Val.move rfl) ?_
   refine KL.v rfl (Val.nilCheck rfl) ?_
   refine KL.v rfl (Val.fieldAddr0 (k := 1) rfl rfl) ?_
   refine KL.v rfl (Val.loadP rfl rfl (Sees.cell byTake rfl)) ?_
   refine KL.v rfl (Val.mul rfl rfl (by simp only [qL, qH]; omega)) ?_
   refine KL.v rfl (Val.add rfl rfl (by simp only [qL, qH]; omega)) ?_
   refine KL.v rfl (Val.isT (Val.eql rfl rfl) byLt) ?_
   refine KL.v rfl (Val.assign rfl) ?_
   refine KL.nil (KE.next (K.condT rfl (K.seq (K.region ?_))))
   refine KL.v rfl (Val.assign rfl) ?_
   refine KL.nil (KE.next ?_)
   refine K.ret ?_
   refine KE.blkR ?_
   refine KE.passR ?_
   exact KE.fin byMarks rfl byRes (by first | exact byPart | (simp only [tintH_app]; exact byPart)) ⟨rfl, rfl⟩
  ·have e : colP t.f v = 0 := by unfold colP; rw [if_neg h1, if_neg h2]
   rw [e]
   refine Call.enter2 (n := 21) (by kernel_rfl) Tryz.func185 rfl rfl rfl ?_
   simp only [tintH_app]
   refine K.seq (K.region ?_)
   refine KL.v rfl (Val.assign rfl) ?_
   refine KL.nil (KE.next (K.seq (K.seq (K.region ?_))))
   refine KL.v rfl (Val.move rfl) ?_
   refine KL.nil (KE.next (K.block (K.seq (K.region ?_))))
   refine KL.v rfl (Val.move rfl) ?_
   refine KL.v rfl (Val.nilCheck rfl) ?_
   refine KL.v rfl (Val.fieldAddr0 (k := 1) rfl rfl) ?_
   refine KL.v rfl (Val.loadP rfl rfl (Sees.cell byTake rfl)) ?_
   refine KL.v rfl (Val.mul rfl rfl (by simp only [qL, qH]; omega)) ?_
   refine KL.v rfl (Val.isF (Val.eql rfl rfl) byLt) ?_
   refine KL.v rfl (Val.assign rfl) ?_
   refine KL.nil (KE.next (K.condF rfl (K.seq (K.region ?_))))
   refine KL.v rfl (Val.move rfl) ?_
   refine KL.v rfl (Val.nilCheck rfl) ?_
   refine KL.v rfl (Val.fieldAddr0 (k := 1) rfl rfl) ?_
   refine KL.v rfl (Val.loadP rfl rfl (Sees.cell byTake rfl)) ?_
   refine KL.v rfl (Val.mul rfl rfl (by simp only [qL, qH]; omega)) ?_
   refine KL.v rfl (Val.add rfl rfl (by simp only [qL, qH]; omega)) ?_
   refine KL.v rfl (Val.isF (Val.eql rfl rfl) byLt) ?_
   refine KL.v rfl (Val.assign rfl) ?_
   refine KL.nil (KE.next (K.condF rfl (K.skip ?_)))
   refine KE.blkN ?_
   refine KE.next (K.seq (K.region ?_))
   refine KL.v rfl (Val.assign rfl) ?_
   refine KL.nil (KE.next ?_)
   refine K.ret ?_
   exact KE.fin byMarks rfl byRes (by first | exact byPart | (simp only [tintH_app]; exact byPart)) ⟨rfl, rfl⟩
theorem tiOf_K {s : Nat} {c : Int} (ok : TiOk t) (hc : (tiC t)[s]? = some c) : Call Tryz.prog w0 112 [.pointer (some ⟨t.b, 0, none⟩), .int .i64 (s : Nat)] (tintH t ++ F) (fun r H' => r = .tuple [.int .u8 c, .int .i64 0].toArray ∧ H' = tintH t ++ F) := by
 have hs : s < t.l.length := by have := lt_of_get hc; rwa [tiC_len] at this
 have ho := ok.o
 obtain ⟨v, hv⟩ := get_of_lt hs
 have hcv : c = colP t.f v := by
  unfold tiC at hc
  rw [List.getElem?_map, hv] at hc
  simpa using hc.symm
 subst hcv
 refine Call.enter2 (n := 22) (by kernel_rfl) Tryz.func112 rfl rfl rfl ?_
 refine K.seq (K.region ?_)
 refine KL.v rfl (Val.assign rfl) ?_
 refine KL.v rfl (Val.assign rfl) ?_
 refine KL.nil (KE.next (K.seq (K.seq (K.region ?_))))
 refine KL.v rfl (Val.move rfl) ?_
 refine KL.v rfl (Val.move rfl) ?_
 refine KL.callc rfl rfl byEvL fun T hT => ?_
 refine (CallV.fn (tihas_K ok hs)).mono ?_
 rintro _ _ ⟨rfl, rfl⟩
 refine hT _ _ ?_; clear hT T
 simp only [tintH_app]
 refine KL.v rfl (Val.assign rfl) ?_
 refine KL.nil (KE.next (K.seq (K.region ?_)))
 refine KL.v rfl (Val.move rfl) ?_
 refine KL.v rfl (Val.isF (Val.neq rfl rfl) byLt) ?_
 refine KL.nil (KE.next (K.condF rfl (K.skip (KE.next (K.seq (K.region ?_))))))
 refine KL.v rfl (Val.move rfl) ?_
 refine KL.v rfl (Val.move rfl) ?_
 refine KL.v rfl (Val.nilCheck rfl) ?_
 refine KL.v rfl (Val.fieldAddr0 (k := 0) rfl rfl) ?_
 refine KL.v rfl (Val.loadP rfl rfl (Sees.cell byTake rfl)) ?_
 refine KL.v rfl (Val.move rfl) ?_
 refine KL.v rfl (Val.idxSl rfl rfl rfl (Sli.own byTakeL (by assumption) byLen) rfl byLt) ?_
 refine KL.v rfl (Val.loadP rfl rfl (Sees.sl0 (Sli.own byTakeL (by assumption) byLen) (by assumption) rfl)) ?_
 refine KL.callc rfl rfl byEvL fun T hT => ?_
 refine (CallV.part (CallV.fn (ticol_K (v := v) ok)) (by first | exact byPart | (simp only [tintH_app]; exact byPart))).mono ?_
 rintro _ _ ⟨rfl, rfl⟩
 refine hT _ _ ?_; clear hT T
 simp only [tintH_app]
 refine KL.v rfl (Val.assign rfl) ?_
 refine KL.v rfl (Val.assign rfl) ?_
 refine KL.nil (KE.next ?_)
 refine K.ret ?_
 exact KE.fin byMarks rfl byRes (by first | exact byPart | (simp only [tintH_app]; exact byPart)) ⟨rfl, rfl⟩
theorem tiBlack_K {s : Nat} (ok : TiOk t) (hs : s < t.l.length) : Call Tryz.prog w0 121 [.pointer (some ⟨t.b, 0, none⟩), .int .i64 (s : Nat)] (tintH t ++ F) (fun r H' => r = .int .i64 0 ∧ ∃ t', TiOk t' ∧ t'.b = t.b ∧ t'.f = t.f ∧ tiC t' = (tiC t).set s 2 ∧ H' = tintH t' ++ F) := by
 have ho := ok.o
 have hf := ok.f
 obtain ⟨v, hv⟩ := get_of_lt hs
 refine Call.enter2 (n := 24) (by kernel_rfl) Tryz.func121 rfl rfl rfl ?_
 refine K.seq (K.region ?_)
 refine KL.v rfl (Val.assign rfl) ?_
 refine KL.nil (KE.next (K.seq (K.region ?_)))
 refine KL.v rfl (Val.move rfl) ?_
 refine KL.v rfl (Val.move rfl) ?_
 refine KL.callc rfl rfl byEvL fun T hT => ?_
 refine (CallV.fn (tihas_K ok hs)).mono ?_
 rintro _ _ ⟨rfl, rfl⟩
 refine hT _ _ ?_; clear hT T
 simp only [tintH_app]
 refine KL.v rfl (Val.assign rfl) ?_
 refine KL.nil (KE.next (K.seq (K.seq (K.region ?_))))
 refine KL.v rfl (Val.move rfl) ?_
 refine KL.v rfl (Val.isT (Val.eql rfl rfl) byLt) ?_
 refine KL.nil (KE.next (K.condT rfl ?_))
 refine K.drawn [] [(0, 0), (1, 0), (2, 0), (3, 0), (4, 0), (5, 0), (6, 0), (7, 0), (8, 0), (9, 0), (10, 0), (11, 0), (12, 2)] (by kernel_rfl) (by kernel_rfl) (by kernel_rfl) (by kernel_rfl) (by kernel_rfl) (by kernel_rfl) Part.nil ?_
 refine KD.v0 rfl rfl (Val.move rfl) ?_
 refine KD.v0 rfl rfl (Val.nilCheck rfl) ?_
 refine KD.v0 rfl rfl (Val.fieldAddr0 (k := 0) rfl rfl) ?_
 refine KD.v0 rfl rfl (Val.loadP rfl rfl (Sees.cell byTake rfl)) ?_
 refine KD.v0 rfl rfl (Val.move rfl) ?_
 refine KD.v0 rfl rfl (Val.move rfl) ?_
 refine KD.v0 rfl rfl (Val.nilCheck rfl) ?_
 refine KD.v0 rfl rfl (Val.fieldAddr0 (k := 1) rfl rfl) ?_
 refine KD.v0 rfl rfl (Val.loadP rfl rfl (Sees.cell byTake rfl)) ?_
 refine KD.v0 rfl rfl (Val.mul rfl rfl (by simp only [qL, qH]; omega)) ?_
 refine KD.v0 rfl rfl (Val.add rfl rfl (by simp only [qL, qH]; omega)) ?_
 refine KD.v0 rfl rfl (Val.idxSl rfl rfl rfl (Sli.own byTakeL (by assumption) byLen) rfl byLt) ?_
 refine KD.eN rfl (Eff.stSl0 rfl rfl rfl rfl byTakeL (by assumption) (by assumption) rfl rfl) ?_; rintro _ _ rfl; refine ⟨byPart, ?_⟩
 refine KD.nil ?_
 refine KE.next (K.seq (K.region ?_))
 refine KL.v rfl (Val.move rfl) ?_
 refine KL.v rfl (Val.assign rfl) ?_
 refine KL.nil (KE.next ?_)
 refine K.ret ?_
 have hle : (t.l.set s (2 * (t.f : Int) + 1)).length = t.l.length := List.length_set
 refine KE.fin (H' := tintH ⟨t.b, t.l.set s (2 * (t.f : Int) + 1), t.f, t.o⟩ ++ F) byMarks rfl byRes (by simp only [tintH_app, hle]; exact byPart) ⟨rfl, ⟨t.b, t.l.set s (2 * (t.f : Int) + 1), t.f, t.o⟩, ⟨ho.set s _, by rw [hle]; exact ok.n, hf, ?_⟩, rfl, rfl, ?_, rfl⟩
 ·intro u hu
  rcases List.mem_or_eq_of_mem_set hu with h | h
  ·exact ok.v u h
  ·rw [h]; show 0 ≤ 2 * ((t.f : Nat) : Int) + 1 ∧ 2 * ((t.f : Nat) : Int) + 1 ≤ 2 * ((t.f : Nat) : Int) + 1; omega
 ·unfold tiC
  rw [List.map_set]
  congr 1
  unfold colP
  rw [if_neg (by omega), if_pos rfl]
theorem tiFlip_K (ok : TiOk t) (hb : t.f ≤ 1000000) : Call Tryz.prog w0 118 [.pointer (some ⟨t.b, 0, none⟩)] (tintH t ++ F) (fun r H' => r = .tuple #[] ∧ ∃ t', TiOk t' ∧ t'.b = t.b ∧ t'.f = t.f + 1 ∧ tiC t' = List.replicate t.l.length 0 ∧ H' = tintH t' ++ F) := by
 have hf := ok.f
 have ho := ok.o
 have he : ((t.f : Nat) : Int) + 1 = ((t.f + 1 : Nat) : Int) := by omega
 refine Call.enter1 (n := 12) (by kernel_rfl) Tryz.func118 rfl rfl rfl ?_
 refine K.seq (K.region ?_)
 refine KL.v rfl (Val.move rfl) ?_
 refine KL.callc rfl rfl byEvL fun T hT => ?_
 refine (CallV.fn (tinone_K ok)).mono ?_
 rintro _ _ ⟨rfl, rfl⟩
 refine hT _ _ ?_; clear hT T
 simp only [tintH_app]
 refine KL.v rfl (Val.notF rfl) ?_
 refine KL.nil (KE.next (K.condT rfl (K.region ?_)))
 refine KL.v rfl (Val.move rfl) ?_
 refine KL.v rfl (Val.nilCheck rfl) ?_
 refine KL.v rfl (Val.fieldAddr0 (k := 1) rfl rfl) ?_
 refine KL.v rfl (Val.loadP rfl rfl (Sees.cell byTake rfl)) ?_
 refine KL.v rfl (Val.add rfl rfl (by simp only [qL, qH]; omega)) ?_
 refine KL.v rfl (Val.nilCheck rfl) ?_
 refine KL.v rfl (Val.fieldAddr0 (k := 1) rfl rfl) ?_
 refine KL.eN (Eff.storeL rfl rfl byOne rfl byTake bySetAt) ?_; rintro _ _ rfl
 refine KL.nil ?_
 rw [he]
 refine KE.finN (H' := tintH ⟨t.b, t.l, t.f + 1, t.o⟩ ++ F) byMarks rfl byRes (by simp only [tintH_app]; exact byPart) ⟨rfl, ⟨t.b, t.l, t.f + 1, t.o⟩, ⟨ho, ok.n, by show 1 ≤ t.f + 1 ∧ t.f + 1 ≤ _; omega, ?_⟩, rfl, rfl, ?_, rfl⟩
 ·intro v hv
  have := ok.v v hv
  show 0 ≤ v ∧ v ≤ 2 * ((t.f + 1 : Nat) : Int) + 1
  omega
 ·refine List.eq_replicate_iff.2 ⟨by simp [tiC], fun c hc => ?_⟩
  obtain ⟨v, hv, rfl⟩ := List.mem_map.1 hc
  have := ok.v v hv
  unfold colP
  rw [if_neg (by show ¬ v = 2 * ((t.f + 1 : Nat) : Int); omega), if_neg (by show ¬ v = 2 * ((t.f + 1 : Nat) : Int) + 1; omega)]
end
theorem tiNew_K {w0 : World} {H : Heap} {n : Nat} (hn : n ≤ 65536) : Call Tryz.prog w0 108 [.int .i64 (n : Nat)] H (fun r H' => ∃ t, TiOk t ∧ t.f = 1 ∧ tiC t = List.replicate n 0 ∧ r = .tuple [.pointer (some ⟨t.b, 0, none⟩), .int .i64 0].toArray ∧ H' = tintH t ++ H) := by
 have hgt : ¬ ((n : Nat) : Int) > 65536 := by omega
 refine Call.enter1 (n := 14) (by kernel_rfl) Tryz.func108 rfl rfl rfl ?_
 refine K.seq (K.region ?_)
 refine KL.v rfl (Val.assign rfl) ?_
 refine KL.v rfl (Val.assign rfl) ?_
 refine KL.nil (KE.next (K.seq (K.seq (K.region ?_))))
 refine KL.v rfl (Val.move rfl) ?_
 refine KL.v rfl (Val.isF (Val.lss rfl rfl) byLt) ?_
 refine KL.v rfl (Val.move rfl) ?_
 refine KL.yes rfl rfl ?_; refine KL.v rfl (Val.move rfl) ?_
 refine KL.yes rfl rfl ?_; refine KL.v rfl (Val.isF (Val.gtr rfl rfl) byLt) ?_
 refine KL.v rfl (Val.pickF rfl rfl rfl) ?_
 refine KL.nil (KE.next (K.condF rfl (K.skip (KE.next (K.seq (K.region ?_))))))
 refine KL.v rfl (Val.move rfl) ?_
 refine KL.e rfl (Eff.makeR (E := uE) (x0 := 0) rfl rfl rfl rfl rfl rfl (by first | assumption | omega | (simp <;> fail) | (simp; omega))) ?_; rintro _ _ ⟨o11, ok11, rfl, rfl⟩
 refine KL.v rfl (Val.build byParts rfl rfl byFill) ?_
 refine KL.e rfl (Eff.box rfl rfl) ?_; rintro _ _ ⟨b13, rfl, rfl⟩
 refine KL.v rfl (Val.assign rfl) ?_
 refine KL.v rfl (Val.assign rfl) ?_
 refine KL.nil (KE.next ?_)
 refine K.ret ?_
 refine KE.fin (H' := tintH ⟨b13, List.replicate n 0, 1, o11⟩ ++ H) byMarks rfl byRes (by rw [tintH_app]; simp only [List.length_replicate]; exact byPart) ⟨⟨b13, List.replicate n 0, 1, o11⟩, ⟨ok11, by simpa using hn, by show 1 ≤ 1 ∧ 1 ≤ 1000000000; omega, fun v hv => ?_⟩, rfl, ?_, rfl, rfl⟩
 ·rw [(List.mem_replicate.1 hv).2]; show (0 : Int) ≤ 0 ∧ (0 : Int) ≤ 2 * ((1 : Nat) : Int) + 1; omega
 ·unfold tiC colP; simp
open Go.RowKit
set_option maxRecDepth 10000
structure GrM where
 b : Nat
 ow : RowM
 di : RowM
 ring : List Int
 o : Own
 first : Nat
 many : Nat
 at_ : Nat
 end_ : Nat
def greyH (g : GrM) (p : PlanM) : Heap := (g.b, cells [.pointer (some ⟨g.ow.b, 0, none⟩), .pointer (some ⟨g.di.b, 0, none⟩), .pointer (some ⟨p.b, 0, none⟩), oV g.o g.ring.length, .int .i64 (g.first : Nat), .int .i64 (g.many : Nat), .int .i64 (g.at_ : Nat), .int .i64 (g.end_ : Nat)] 277) :: (rowH g.ow ++ (rowH g.di ++ oH iE 3 g.ring g.o))
theorem greyH_app {g : GrM} {p : PlanM} {F : Heap} : greyH g p ++ F = (g.b, cells [.pointer (some ⟨g.ow.b, 0, none⟩), .pointer (some ⟨g.di.b, 0, none⟩), .pointer (some ⟨p.b, 0, none⟩), oV g.o g.ring.length, .int .i64 (g.first : Nat), .int .i64 (g.many : Nat), .int .i64 (g.at_ : Nat), .int .i64 (g.end_ : Nat)] 277) :: (rowH g.ow ++ (rowH g.di ++ (oH iE 3 g.ring g.o ++ F))) := by
 unfold greyH; simp only [List.cons_append, List.append_assoc]
structure GrOk (g : GrM) (p : PlanM) : Prop where
 pl : PlanOk p
 ow : RowOk g.ow
 di : RowOk g.di
 o : oOk iE g.ring g.o
 n1 : g.ow.bs.length = p.g.slots
 n2 : g.di.bs.length = p.g.pages
 l : 1 ≤ g.ring.length ∧ g.ring.length ≤ 64
structure GrNil (g : GrM) (p : PlanM) : Prop where
 ow : g.ow.bs = List.replicate p.g.slots false
 di : g.di.bs = List.replicate p.g.pages false
 first : g.first = 0
 many : g.many = 0
 at_ : g.at_ = 0
 end_ : g.end_ = 0
section
variable {w0 : World} {F : Heap} {p : PlanM} {g : GrM}
theorem Pages0_K (ok : PlanOk p) :
  Call Tryz.prog w0 181 [.pointer (some ⟨p.b, 0, none⟩)] (planH p ++ F) (fun r H' => r = .int .i64 (p.g.pages : Nat) ∧ H' = planH p ++ F) := by
 refine Call.enter1 (n := 9) (by kernel_rfl) Tryz.func181 rfl rfl rfl ?_
 refine K.seq (K.region ?_)
 refine KL.v rfl (Val.assign rfl) ?_
 refine KL.nil (KE.next (K.seq (K.seq (K.region ?_))))
 refine KL.v rfl (Val.move rfl) ?_
 refine KL.callc rfl rfl byEvL fun T hT => ?_
 refine (CallV.fn (plnone_K ok)).mono ?_
 rintro _ _ ⟨rfl, rfl⟩
 refine hT _ _ ?_; clear hT T
 rw [planH_app]
 refine KL.nil (KE.next (K.condF rfl (K.skip (KE.next (K.seq (K.region ?_))))))
 refine KL.v rfl (Val.move rfl) ?_
 refine KL.v rfl (Val.nilCheck rfl) ?_
 refine KL.v rfl (Val.fieldAddr0 (k := 2) rfl rfl) ?_
 refine KL.v rfl (Val.loadP rfl rfl (Sees.cell byTake rfl)) ?_
 refine KL.v rfl (Val.assign rfl) ?_
 refine KL.nil (KE.next ?_)
 refine K.ret ?_
 exact KE.fin byMarks rfl byRes byPart ⟨rfl, rfl⟩
theorem grnone_K (ok : GrOk g p) :
  Call Tryz.prog w0 194 [.pointer (some ⟨g.b, 0, none⟩)] (greyH g p ++ F) (fun r H' => r = .bool false ∧ H' = greyH g p ++ F) := by
 have hl := ok.l
 have ho := ok.o
 have hne : ¬ ((g.ring.length : Nat) : Int) = 0 := by omega
 refine Call.enter1 (n := 13) (by kernel_rfl) Tryz.func194 rfl rfl rfl ?_
 simp only [greyH_app]
 refine K.seq (K.region ?_)
 refine KL.v rfl (Val.assign rfl) ?_
 refine KL.nil (KE.next (K.seq (K.region ?_)))
 refine KL.v rfl (Val.move rfl) ?_
 refine KL.v rfl (Val.eqlPN rfl rfl rfl) ?_
 refine KL.v rfl (Val.move rfl) ?_
 refine KL.yes rfl rfl ?_; refine KL.v rfl (Val.move rfl) ?_
 refine KL.yes rfl rfl ?_; refine KL.v rfl (Val.nilCheck rfl) ?_
 refine KL.yes rfl rfl ?_; refine KL.v rfl (Val.fieldAddr0 (k := 3) rfl rfl) ?_
 refine KL.yes rfl rfl ?_; refine KL.v rfl (Val.loadP rfl rfl (Sees.cell byTake rfl)) ?_
 refine KL.yes rfl rfl ?_; refine KL.v rfl (Val.lenSl rfl rfl (Sli.own byTakeL (by assumption) byLen)) ?_
 refine KL.yes rfl rfl ?_; refine KL.v rfl (Val.isF (Val.eql rfl rfl) byLt) ?_
 refine KL.v rfl (Val.pickF rfl rfl rfl) ?_
 refine KL.v rfl (Val.assign rfl) ?_
 refine KL.nil (KE.next ?_)
 refine K.ret ?_
 exact KE.fin byMarks rfl byRes (by first | exact byPart | (simp only [greyH_app]; exact byPart)) ⟨rfl, rfl⟩
theorem grNew_K {n : Nat} (ok : PlanOk p) (hn : 1 ≤ n ∧ n ≤ 64) :
  Call Tryz.prog w0 107 [.pointer (some ⟨p.b, 0, none⟩), .int .i64 (n : Nat)] (planH p ++ F) (fun r H' => ∃ g, GrOk g p ∧ GrNil g p ∧ g.ring.length = n ∧ r = .tuple [.pointer (some ⟨g.b, 0, none⟩), .int .i64 0].toArray ∧ H' = greyH g p ++ (planH p ++ F)) := by
 have hs := ok.g.slots
 have hp := ok.g.pages
 have hne : ¬ ((p.g.slots : Nat) : Int) = 0 := by omega
 have h1 : ¬ ((n : Nat) : Int) < 1 := by omega
 have h2 : ¬ ((n : Nat) : Int) > 64 := by omega
 refine Call.enter2 (n := 41) (by kernel_rfl) Tryz.func107 rfl rfl rfl ?_
 refine K.seq (K.region ?_)
 refine KL.v rfl (Val.assign rfl) ?_
 refine KL.v rfl (Val.assign rfl) ?_
 refine KL.nil (KE.next (K.seq (K.block (K.seq (K.region ?_)))))
 refine KL.v rfl (Val.move rfl) ?_
 refine KL.callc rfl rfl byEvL fun T hT => ?_
 refine (CallV.fn (Slots0_K ok)).mono ?_
 rintro _ _ ⟨rfl, rfl⟩
 refine hT _ _ ?_; clear hT T
 refine KL.v rfl (Val.isF (Val.eql rfl rfl) byLt) ?_
 refine KL.v rfl (Val.assign rfl) ?_
 refine KL.nil (KE.next (K.condF rfl (K.seq (K.region ?_))))
 refine KL.v rfl (Val.move rfl) ?_
 refine KL.v rfl (Val.isF (Val.lss rfl rfl) byLt) ?_
 refine KL.v rfl (Val.move rfl) ?_
 refine KL.yes rfl rfl ?_; refine KL.v rfl (Val.move rfl) ?_
 refine KL.yes rfl rfl ?_; refine KL.v rfl (Val.isF (Val.gtr rfl rfl) byLt) ?_
 refine KL.v rfl (Val.pickF rfl rfl rfl) ?_
 refine KL.v rfl (Val.assign rfl) ?_
 refine KL.nil (KE.next (K.condF rfl (K.skip ?_)))
 refine KE.blkN ?_
 refine KE.next (K.seq (K.region ?_))
 refine KL.v rfl (Val.move rfl) ?_
 refine KL.callc rfl rfl byEvL fun T hT => ?_
 refine (CallV.fn (Slots0_K ok)).mono ?_
 rintro _ _ ⟨rfl, rfl⟩
 refine hT _ _ ?_; clear hT T
 refine KL.callc rfl rfl byEvL fun T hT => ?_
 refine (CallV.fn (rNew_K (n := p.g.slots) (by omega))).mono ?_
 rintro _ _ ⟨r1, kr1, hb1, rfl, rfl⟩
 refine hT _ _ ?_; clear hT T
 refine KL.v rfl (Val.move rfl) ?_
 refine KL.v rfl (Val.extract rfl rfl) ?_
 refine KL.v rfl (Val.extract rfl rfl) ?_
 refine KL.v rfl (Val.assign rfl) ?_
 refine KL.v rfl (Val.assign rfl) ?_
 refine KL.nil (KE.next (K.seq (K.region ?_)))
 refine KL.v rfl (Val.move rfl) ?_
 refine KL.callc rfl rfl byEvL fun T hT => ?_
 refine (CallV.part (CallV.fn (Pages0_K ok)) byPart).mono ?_
 rintro _ _ ⟨rfl, rfl⟩
 refine hT _ _ ?_; clear hT T
 refine KL.callc rfl rfl byEvL fun T hT => ?_
 refine (CallV.fn (rNew_K (n := p.g.pages) (by omega))).mono ?_
 rintro _ _ ⟨r2, kr2, hb2, rfl, rfl⟩
 refine hT _ _ ?_; clear hT T
 refine KL.v rfl (Val.move rfl) ?_
 refine KL.v rfl (Val.extract rfl rfl) ?_
 refine KL.v rfl (Val.extract rfl rfl) ?_
 refine KL.v rfl (Val.assign rfl) ?_
 refine KL.v rfl (Val.assign rfl) ?_
 refine KL.nil (KE.next (K.seq (K.region ?_)))
 refine KL.v rfl (Val.move rfl) ?_
 refine KL.v rfl (Val.move rfl) ?_
 refine KL.v rfl (Val.build byParts rfl rfl byFill) ?_
 refine KL.v rfl (Val.move rfl) ?_
 refine KL.v rfl (Val.move rfl) ?_
 refine KL.e rfl (Eff.makeR (E := iE) (x0 := 0) rfl rfl rfl rfl rfl rfl (by first | assumption | omega | (simp <;> fail) | (simp; omega))) ?_; rintro _ _ ⟨o38, ok38, rfl, rfl⟩
 refine KL.v rfl (Val.build byParts rfl rfl byFill) ?_
 refine KL.e rfl (Eff.box rfl rfl) ?_; rintro _ _ ⟨b40, rfl, rfl⟩
 refine KL.v rfl (Val.assign rfl) ?_
 refine KL.v rfl (Val.assign rfl) ?_
 refine KL.nil (KE.next ?_)
 refine K.ret ?_
 exact KE.fin (H' := greyH ⟨b40, r1, r2, List.replicate n 0, o38, 0, 0, 0, 0⟩ p ++ (planH p ++ F)) byMarks rfl byRes (by simp only [greyH_app, List.length_replicate]; exact byPart) ⟨⟨b40, r1, r2, List.replicate n 0, o38, 0, 0, 0, 0⟩, ⟨ok, kr1, kr2, ok38, by simp [hb1], by simp [hb2], by simpa using hn⟩, ⟨hb1, hb2, rfl, rfl, rfl, rfl⟩, by simp, rfl, rfl⟩
theorem grClear_K (ok : GrOk g p) :
  Call Tryz.prog w0 119 [.pointer (some ⟨g.b, 0, none⟩)] (greyH g p ++ F) (fun r H' => r = .tuple #[] ∧ ∃ g', GrOk g' p ∧ GrNil g' p ∧ g'.b = g.b ∧ g'.ring.length = g.ring.length ∧ H' = greyH g' p ++ F) := by
 have k1 := ok.ow
 have k2 := ok.di
 have ho := ok.o
 refine Call.enter1 (n := 29) (by kernel_rfl) Tryz.func119 rfl rfl rfl ?_
 refine K.seq (K.region ?_)
 refine KL.v rfl (Val.move rfl) ?_
 refine KL.callc rfl rfl byEvL fun T hT => ?_
 refine (CallV.fn (grnone_K ok)).mono ?_
 rintro _ _ ⟨rfl, rfl⟩
 refine hT _ _ ?_; clear hT T
 simp only [greyH_app]
 refine KL.v rfl (Val.notF rfl) ?_
 refine KL.nil (KE.next (K.condT rfl (K.seq (K.region ?_))))
 refine KL.v rfl (Val.move rfl) ?_
 refine KL.v rfl (Val.nilCheck rfl) ?_
 refine KL.v rfl (Val.fieldAddr0 (k := 0) rfl rfl) ?_
 refine KL.v rfl (Val.fieldAddr0 (k := 0) rfl rfl) ?_
 refine KL.v rfl (Val.loadP rfl rfl (Sees.cell byTake rfl)) ?_
 refine KL.callc rfl rfl byEvL fun T hT => ?_
 refine (CallV.part (CallV.fn (Clear_K k1)) byPart).mono ?_
 rintro _ _ ⟨rfl, r1, kr1, hr1, hb1, rfl⟩
 refine hT _ _ ?_; clear hT T
 refine KL.nil (KE.next (K.seq (K.region ?_)))
 refine KL.v rfl (Val.move rfl) ?_
 refine KL.v rfl (Val.nilCheck rfl) ?_
 refine KL.v rfl (Val.fieldAddr0 (k := 0) rfl rfl) ?_
 refine KL.v rfl (Val.fieldAddr0 (k := 1) rfl rfl) ?_
 refine KL.v rfl (Val.loadP rfl rfl (Sees.cell byTake rfl)) ?_
 refine KL.callc rfl rfl byEvL fun T hT => ?_
 refine (CallV.part (CallV.fn (Clear_K k2)) byPart).mono ?_
 rintro _ _ ⟨rfl, r2, kr2, hr2, hb2, rfl⟩
 refine hT _ _ ?_; clear hT T
 refine KL.nil (KE.next (K.region ?_))
 refine KL.v rfl (Val.move rfl) ?_
 refine KL.v rfl (Val.move rfl) ?_
 refine KL.v rfl (Val.move rfl) ?_
 refine KL.v rfl (Val.move rfl) ?_
 refine KL.v rfl (Val.nilCheck rfl) ?_
 refine KL.v rfl (Val.fieldAddr0 (k := 4) rfl rfl) ?_
 refine KL.eN (Eff.storeL rfl rfl byOne rfl byTake bySetAt) ?_; rintro _ _ rfl
 refine KL.v rfl (Val.nilCheck rfl) ?_
 refine KL.v rfl (Val.fieldAddr0 (k := 5) rfl rfl) ?_
 refine KL.eN (Eff.storeL rfl rfl byOne rfl byTake bySetAt) ?_; rintro _ _ rfl
 refine KL.v rfl (Val.nilCheck rfl) ?_
 refine KL.v rfl (Val.fieldAddr0 (k := 6) rfl rfl) ?_
 refine KL.eN (Eff.storeL rfl rfl byOne rfl byTake bySetAt) ?_; rintro _ _ rfl
 refine KL.v rfl (Val.nilCheck rfl) ?_
 refine KL.v rfl (Val.fieldAddr0 (k := 7) rfl rfl) ?_
 refine KL.eN (Eff.storeL rfl rfl byOne rfl byTake bySetAt) ?_; rintro _ _ rfl
 refine KL.nil ?_
 rw [← hr1, ← hr2]
 rw [ok.n1] at hb1
 rw [ok.n2] at hb2
 exact KE.finN (H' := greyH ⟨g.b, r1, r2, g.ring, g.o, 0, 0, 0, 0⟩ p ++ F) byMarks rfl byRes (by simp only [greyH_app]; exact byPart) ⟨rfl, ⟨g.b, r1, r2, g.ring, g.o, 0, 0, 0, 0⟩, ⟨ok.pl, kr1, kr2, ho, by simp [hb1], by simp [hb2], ok.l⟩, ⟨hb1, hb2, rfl, rfl, rfl, rfl⟩, rfl, rfl, by simp only [greyH_app]⟩
end
structure PiM where
 b : Nat
 r : RowM
 l : List Int
 o : Own
def pinsH (q : PiM) : Heap := (q.b, cells [.pointer (some ⟨q.r.b, 0, none⟩), oV q.o q.l.length] 223) :: (rowH q.r ++ oH bE 5 q.l q.o)
theorem pinsH_app {q : PiM} {F : Heap} : pinsH q ++ F = (q.b, cells [.pointer (some ⟨q.r.b, 0, none⟩), oV q.o q.l.length] 223) :: (rowH q.r ++ (oH bE 5 q.l q.o ++ F)) := by
 unfold pinsH; simp only [List.cons_append, List.append_assoc]
structure PiOk (q : PiM) : Prop where
 r : RowOk q.r
 o : oOk bE q.l q.o
 n : q.r.bs = q.l.map fun v => decide (0 < v)
 m : q.l.length ≤ 65536
 v : ∀ v ∈ q.l, 0 ≤ v ∧ v ≤ 255
section
variable {w0 : World} {F : Heap} {q : PiM}
theorem pinone_K : Call Tryz.prog w0 135 [.pointer (some ⟨q.b, 0, none⟩)] (pinsH q ++ F) (fun r H' => r = .bool false ∧ H' = pinsH q ++ F) := by
 refine Call.enter1 (n := 12) (by kernel_rfl) Tryz.func135 rfl rfl rfl ?_
 simp only [pinsH_app]
 refine K.seq (K.region ?_)
 refine KL.v rfl (Val.assign rfl) ?_
 refine KL.nil (KE.next (K.seq (K.region ?_)))
 refine KL.v rfl (Val.move rfl) ?_
 refine KL.v rfl (Val.eqlPN rfl rfl rfl) ?_
 refine KL.v rfl (Val.move rfl) ?_
 refine KL.yes rfl rfl ?_; refine KL.v rfl (Val.move rfl) ?_
 refine KL.yes rfl rfl ?_; refine KL.v rfl (Val.nilCheck rfl) ?_
 refine KL.yes rfl rfl ?_; refine KL.v rfl (Val.fieldAddr0 (k := 0) rfl rfl) ?_
 refine KL.yes rfl rfl ?_; refine KL.v rfl (Val.loadP rfl rfl (Sees.cell byTake rfl)) ?_
 refine KL.yes rfl rfl ?_; refine KL.v rfl (Val.eqlPN rfl rfl rfl) ?_
 refine KL.v rfl (Val.pickF rfl rfl rfl) ?_
 refine KL.v rfl (Val.assign rfl) ?_
 refine KL.nil (KE.next ?_)
 refine K.ret ?_
 exact KE.fin byMarks rfl byRes (by first | exact byPart | (simp only [pinsH_app]; exact byPart)) ⟨rfl, rfl⟩
theorem piLen_K (ok : PiOk q) : Call Tryz.prog w0 106 [.pointer (some ⟨q.b, 0, none⟩)] (pinsH q ++ F) (fun r H' => r = .int .i64 (q.l.length : Nat) ∧ H' = pinsH q ++ F) := by
 have ho := ok.o
 refine Call.enter1 (n := 10) (by kernel_rfl) Tryz.func106 rfl rfl rfl ?_
 refine K.seq (K.region ?_)
 refine KL.v rfl (Val.assign rfl) ?_
 refine KL.nil (KE.next (K.seq (K.seq (K.region ?_))))
 refine KL.v rfl (Val.move rfl) ?_
 refine KL.callc rfl rfl byEvL fun T hT => ?_
 refine (CallV.fn (pinone_K (q := q))).mono ?_
 rintro _ _ ⟨rfl, rfl⟩
 refine hT _ _ ?_; clear hT T
 simp only [pinsH_app]
 refine KL.nil (KE.next (K.condF rfl (K.skip (KE.next (K.seq (K.region ?_))))))
 refine KL.v rfl (Val.move rfl) ?_
 refine KL.v rfl (Val.nilCheck rfl) ?_
 refine KL.v rfl (Val.fieldAddr0 (k := 1) rfl rfl) ?_
 refine KL.v rfl (Val.loadP rfl rfl (Sees.cell byTake rfl)) ?_
 refine KL.v rfl (Val.lenSl rfl rfl (Sli.own byTakeL (by assumption) byLen)) ?_
 refine KL.v rfl (Val.assign rfl) ?_
 refine KL.nil (KE.next ?_)
 refine K.ret ?_
 exact KE.fin byMarks rfl byRes (by first | exact byPart | (simp only [pinsH_app]; exact byPart)) ⟨rfl, rfl⟩
theorem CloneB_K {w0 : World} {v : Value} {l : List Int} (hS : SlW w0 bE v l) (hl : l.length ≤ 4294967296) :
  Call Tryz.prog w0 180 [v] [] (fun r H' => ∃ o, oOk bE l o ∧ r = oV o l.length ∧ H' = oH bE 5 l o) := by
 refine Call.enter1 (n := 8) (by kernel_rfl) Tryz.func180 rfl rfl rfl ?_
 have hS0 := hS
 obtain ⟨a, c, rfl, h1, h2, h3⟩ := hS.shape
 cases a with
 | none =>
  have hn : l = [] := by
   cases l with
   | nil => rfl
   | cons x r => obtain ⟨b, o, h⟩ := h3 (by simp); cases h
  subst hn
  refine K.seq (K.region ?_)
  refine KL.v rfl (Val.assign rfl) ?_
  refine KL.nil (KE.next (K.seq (K.seq (K.region ?_))))
  refine KL.v rfl (Val.move rfl) ?_
  refine KL.v rfl (Val.eqlSN rfl rfl rfl) ?_
  refine KL.nil (KE.next (K.condT rfl (K.seq (K.region ?_))))
  refine KL.v rfl (Val.assign rfl) ?_
  refine KL.nil (KE.next ?_)
  refine K.ret ?_
  refine KE.passR ?_
  exact KE.fin byMarks rfl byRes byPart ⟨none, rfl, rfl, rfl⟩
 | some a =>
  refine K.seq (K.region ?_)
  refine KL.v rfl (Val.assign rfl) ?_
  refine KL.nil (KE.next (K.seq (K.seq (K.region ?_))))
  refine KL.v rfl (Val.move rfl) ?_
  refine KL.v rfl (Val.eqlSN rfl rfl rfl) ?_
  refine KL.nil (KE.next (K.condF rfl (K.skip (KE.next (K.seq (K.region ?_))))))
  refine KL.e rfl (Eff.buildS byParts rfl rfl rfl rfl rfl byFill) ?_; rintro _ _ ⟨b5, rfl, rfl⟩
  refine KL.v rfl (Val.move rfl) ?_
  refine KL.e rfl (Eff.appLit (E := bE) (ys := l) rfl rfl rfl rfl rfl rfl rfl byTake (by first | exact Sli.blk byTake rfl (by first | decide | simp) (by first | decide | (unfold maxLen; omega)) rfl | exact Sli.old (by assumption) | exact Sli.own byTakeL (by assumption) byLen | assumption | exact Sli.part (by assumption) byPart) (by first | assumption | omega | (simp <;> fail) | (simp; omega)) rfl) ?_; rintro _ _ ⟨o', ok', rfl, rfl⟩
  refine KL.v rfl (Val.assign rfl) ?_
  refine KL.nil (KE.next ?_)
  refine K.ret ?_
  exact KE.fin byMarks rfl byRes byPart ⟨o', ok', rfl, rfl⟩
theorem piCopy_K (ok : PiOk q) : Call Tryz.prog w0 105 [.pointer (some ⟨q.b, 0, none⟩)] (pinsH q ++ F) (fun r H' => ∃ q', PiOk q' ∧ q'.l = q.l ∧ r = .pointer (some ⟨q'.b, 0, none⟩) ∧ H' = pinsH q' ++ (pinsH q ++ F)) := by
 have ho := ok.o
 have okr := ok.r
 have hm := ok.m
 refine Call.enter1 (n := 17) (by kernel_rfl) Tryz.func105 rfl rfl rfl ?_
 refine K.seq (K.region ?_)
 refine KL.v rfl (Val.assign rfl) ?_
 refine KL.nil (KE.next (K.seq (K.seq (K.region ?_))))
 refine KL.v rfl (Val.move rfl) ?_
 refine KL.callc rfl rfl byEvL fun T hT => ?_
 refine (CallV.fn (pinone_K (q := q))).mono ?_
 rintro _ _ ⟨rfl, rfl⟩
 refine hT _ _ ?_; clear hT T
 simp only [pinsH_app]
 refine KL.nil (KE.next (K.condF rfl (K.skip (KE.next (K.seq ?_)))))
 refine K.drawn _ [(0, 0), (1, 0), (2, 0), (3, 0), (5, 1), (6, 1), (7, 1), (8, 1), (4, 2), (9, 2), (10, 0), (11, 2), (12, 0)] (by kernel_rfl) (by kernel_rfl) (by kernel_rfl) (by kernel_rfl) (by kernel_rfl) (by kernel_rfl) Part.all ?_
 refine KD.v0 rfl rfl (Val.move rfl) ?_
 refine KD.v0 rfl rfl (Val.nilCheck rfl) ?_
 refine KD.v0 rfl rfl (Val.fieldAddr0 (k := 0) rfl rfl) ?_
 refine KD.v0 rfl rfl (Val.loadP rfl rfl (Sees.cell byTake rfl)) ?_
 refine KD.v1 rfl rfl (Val.move rfl) ?_
 refine KD.v1 rfl rfl (Val.nilCheck rfl) ?_
 refine KD.v1 rfl rfl (Val.fieldAddr0 (k := 1) rfl rfl) ?_
 refine KD.v1 rfl rfl (Val.loadP rfl rfl (Sees.cell byTake rfl)) ?_
 refine KD.callc rfl rfl rfl byEvL fun T hT => ?_
 refine (CallV.part (CallV.fn (rCopy_K okr)) byPart).mono ?_
 rintro _ _ ⟨r', kr', hbs, rfl, rfl⟩
 refine hT _ _ byPart ?_; clear hT T
 refine KD.callc rfl rfl rfl byEvL fun T hT => ?_
 refine (CallV.pure fun w hw => CallV.fn (CloneB_K (Sli.own byTakeL ho rfl w hw) (by omega))).mono ?_
 rintro _ _ ⟨_, ⟨o1, ko1, rfl, rfl⟩, rfl⟩
 refine hT _ _ byPart ?_; clear hT T
 refine KD.v0 rfl rfl (Val.build byParts rfl rfl byFill) ?_
 refine KD.e rfl rfl (Eff.box rfl rfl) ?_; rintro _ _ ⟨b16, rfl, rfl⟩; refine ⟨byPart, ?_⟩
 refine KD.v0 rfl rfl (Val.assign rfl) ?_
 refine KD.nil ?_
 refine KE.next ?_
 refine K.ret ?_
 exact KE.fin (H' := pinsH ⟨b16, r', q.l, o1⟩ ++ (pinsH q ++ F)) byMarks rfl byRes (by simp only [pinsH_app]; exact byPart) ⟨⟨b16, r', q.l, o1⟩, ⟨kr', ko1, by rw [hbs]; exact ok.n, hm, ok.v⟩, rfl, rfl, by simp only [pinsH_app]⟩
end
theorem piNew_K {w0 : World} {H : Heap} {n : Nat} (hn : n ≤ 65536) : Call Tryz.prog w0 59 [.int .i64 (n : Nat)] H (fun r H' => ∃ q, PiOk q ∧ q.l = List.replicate n 0 ∧ r = .tuple [.pointer (some ⟨q.b, 0, none⟩), .int .i64 0].toArray ∧ H' = pinsH q ++ H) := by
 have hgt : ¬ ((n : Nat) : Int) > 65536 := by omega
 refine Call.enter1 (n := 23) (by kernel_rfl) Tryz.func59 rfl rfl rfl ?_
 refine K.seq (K.region ?_)
 refine KL.v rfl (Val.assign rfl) ?_
 refine KL.v rfl (Val.assign rfl) ?_
 refine KL.nil (KE.next (K.seq (K.seq (K.region ?_))))
 refine KL.v rfl (Val.move rfl) ?_
 refine KL.v rfl (Val.isF (Val.lss rfl rfl) byLt) ?_
 refine KL.v rfl (Val.move rfl) ?_
 refine KL.yes rfl rfl ?_; refine KL.v rfl (Val.move rfl) ?_
 refine KL.yes rfl rfl ?_; refine KL.v rfl (Val.isF (Val.gtr rfl rfl) byLt) ?_
 refine KL.v rfl (Val.pickF rfl rfl rfl) ?_
 refine KL.nil (KE.next (K.condF rfl (K.skip (KE.next (K.seq (K.region ?_))))))
 refine KL.v rfl (Val.move rfl) ?_
 refine KL.callc rfl rfl byEvL fun T hT => ?_
 refine (CallV.fn (rNew_K (n := n) (by omega))).mono ?_
 rintro _ _ ⟨r1, kr1, hb1, rfl, rfl⟩
 refine hT _ _ ?_; clear hT T
 refine KL.v rfl (Val.move rfl) ?_
 refine KL.v rfl (Val.extract rfl rfl) ?_
 refine KL.v rfl (Val.extract rfl rfl) ?_
 refine KL.v rfl (Val.assign rfl) ?_
 refine KL.v rfl (Val.assign rfl) ?_
 refine KL.nil (KE.next (K.seq (K.region ?_)))
 refine KL.v rfl (Val.move rfl) ?_
 refine KL.v rfl (Val.move rfl) ?_
 refine KL.e rfl (Eff.makeR (E := bE) (x0 := 0) rfl rfl rfl rfl rfl rfl (by first | assumption | omega | (simp <;> fail) | (simp; omega))) ?_; rintro _ _ ⟨o19, ok19, rfl, rfl⟩
 refine KL.v rfl (Val.build byParts rfl rfl byFill) ?_
 refine KL.e rfl (Eff.box rfl rfl) ?_; rintro _ _ ⟨b21, rfl, rfl⟩
 refine KL.v rfl (Val.move rfl) ?_
 refine KL.v rfl (Val.assign rfl) ?_
 refine KL.v rfl (Val.assign rfl) ?_
 refine KL.nil (KE.next ?_)
 refine K.ret ?_
 refine KE.fin (H' := pinsH ⟨b21, r1, List.replicate n 0, o19⟩ ++ H) byMarks rfl byRes (by simp only [pinsH_app, List.length_replicate]; exact byPart) ⟨⟨b21, r1, List.replicate n 0, o19⟩, ⟨kr1, ok19, by rw [hb1]; simp, by simpa using hn, fun v hv => ?_⟩, rfl, rfl, rfl⟩
 rw [(List.mem_replicate.1 hv).2]; decide
open Go.RowKit
set_option maxRecDepth 10000
structure EntP where
 st : Int
 slot : Int
 gen : Int
def enE : Enc EntP := ⟨fun e => [.int .i64 e.st, .int .i64 e.slot, .int .u32 e.gen], 3, fun _ => rfl, by intro x v hv; simp at hv; rcases hv with rfl | rfl | rfl <;> rfl⟩
def cntP (s : Int) (l : List EntP) : Nat := l.countP fun e => decide (e.st = s)
structure TbM where
 b : Nat
 l : List EntP
 gens : Int
 o : Own
def tabH (t : TbM) : Heap := (t.b, cells [oV t.o t.l.length, .int .i64 t.gens, .int .i64 (cntP 0 t.l : Nat), .int .i64 (cntP 1 t.l : Nat), .int .i64 (cntP 2 t.l : Nat), .int .i64 (cntP 3 t.l : Nat)] 235) :: oH enE 232 t.l t.o
theorem tabH_app {t : TbM} {F : Heap} : tabH t ++ F = (t.b, cells [oV t.o t.l.length, .int .i64 t.gens, .int .i64 (cntP 0 t.l : Nat), .int .i64 (cntP 1 t.l : Nat), .int .i64 (cntP 2 t.l : Nat), .int .i64 (cntP 3 t.l : Nat)] 235) :: (oH enE 232 t.l t.o ++ F) := rfl
structure TbOk (t : TbM) : Prop where
 o : oOk enE t.l t.o
 n : 1 ≤ t.l.length ∧ t.l.length ≤ 1024
 g : 1 ≤ t.gens ∧ t.gens ≤ 2147483648
 e : ∀ e ∈ t.l, 0 ≤ e.st ∧ e.st < 4 ∧ 1 ≤ e.gen ∧ e.gen ≤ 2147483648 ∧ 0 ≤ e.slot ∧ e.slot ≤ 1000000
theorem Mul_K {w0 : World} {H : Heap} (x y : Nat) (hx : x < 18446744073709551616) (hy : y < 18446744073709551616) :
  Call Tryz.prog w0 218 [.int .u64 x, .int .u64 y] H (fun r H' => r = .tuple #[.int .u64 ((x * y / 18446744073709551616 : Nat) : Int), .int .u64 ((x * y % 18446744073709551616 : Nat) : Int)] ∧ H' = H) := by
 refine ⟨by kernel_rfl, fun w hw => ?_⟩
 refine (Tryz.bits_Mul x y hx hy w).mono ?_
 rintro e w' ⟨he, rfl⟩
 exact ⟨_, _, he, hw, rfl, rfl⟩
structure RqS where
 k : Nat
 zs : List EntP
theorem copied_rep {α : Type} {n k j : Nat} {z : α} {zs : List α} (h : zs.length = n) (hk : k ≤ n) (ht : zs.take k = List.replicate k z) {ys : List α} (hy : ys = List.replicate j z) :
  (copied zs ys k).length = n ∧ (copied zs ys k).take (k + min j (n - k)) = List.replicate (k + min j (n - k)) z := by
 subst hy
 unfold copied
 have e0 : min (min j (n - k)) j = min j (n - k) := by omega
 simp only [List.length_replicate, h, List.take_replicate, ht, e0]
 constructor
 ·simp; omega
 ·rw [List.take_append_of_le_length (by simp), List.take_of_length_le (by simp), List.replicate_append_replicate]
set_option maxHeartbeats 1000000 in
theorem Repeat_K {w0 : World} {H : Heap} {v : Value} {z : EntP} {n : Nat} (hS : Sli w0 H enE v [z]) (hn : n ≤ 100000) :
  Call Tryz.prog w0 144 [v, .int .i64 (n : Nat)] H (fun r H' => ∃ o, oOk enE (List.replicate n z) o ∧ r = oV o (List.replicate n z).length ∧ H' = oH enE 232 (List.replicate n z) o ++ H) := by
 refine Call.enter2 (n := 48) (by kernel_rfl) Tryz.func144 rfl rfl rfl ?_
 refine K.seq (K.region ?_)
 refine KL.v rfl (Val.assign rfl) ?_
 refine KL.nil (KE.next (K.seq (K.seq (K.region ?_))))
 refine KL.v rfl (Val.move rfl) ?_
 refine KL.v rfl (Val.isF (Val.lss rfl rfl) byLt) ?_
 refine KL.nil (KE.next (K.condF rfl (K.skip (KE.next (K.seq (K.region ?_))))))
 refine KL.v rfl (Val.move rfl) ?_
 refine KL.v rfl (Val.lenSl rfl rfl bySli) ?_
 refine KL.v rfl (Val.convW rfl rfl rfl) ?_
 refine KL.v rfl (Val.move rfl) ?_
 refine KL.v rfl (Val.conv rfl rfl rfl (by simp only [qL, qH]; omega)) ?_
 refine KL.callc rfl rfl byEvL fun T hT => ?_
 refine (CallV.fn (Mul_K 1 n (by omega) (by omega))).mono ?_
 rintro _ H ⟨rfl, rfl⟩
 have e1 : 1 * n / 18446744073709551616 = 0 := by omega
 have e2 : 1 * n % 18446744073709551616 = n := by omega
 rw [e1, e2]
 refine hT _ _ ?_; clear hT T
 refine KL.v rfl (Val.move rfl) ?_
 refine KL.v rfl (Val.extract rfl rfl) ?_
 refine KL.v rfl (Val.extract rfl rfl) ?_
 refine KL.v rfl (Val.assign rfl) ?_
 refine KL.v rfl (Val.assign rfl) ?_
 refine KL.nil (KE.next (K.seq (K.seq (K.region ?_))))
 refine KL.v rfl (Val.move rfl) ?_
 refine KL.v rfl (Val.isF (Val.gtr rfl rfl) byLt) ?_
 refine KL.v rfl (Val.move rfl) ?_
 refine KL.yes rfl rfl ?_; refine KL.v rfl (Val.move rfl) ?_
 refine KL.yes rfl rfl ?_; refine KL.v rfl (Val.isF (Val.gtr rfl rfl) byLt) ?_
 refine KL.v rfl (Val.pickF rfl rfl rfl) ?_
 refine KL.nil (KE.next (K.condF rfl (K.skip (KE.next ?_))))
 refine byCode ?_
 refine KL.v rfl (Val.move rfl) ?_
 (first | (refine KL.v rfl (Val.conv rfl rfl rfl (by simp only [qL, qH]; omega)) ?_) | (refine KL.v rfl (Val.convW rfl rfl rfl) ?_))
 refine KL.e rfl (Eff.makeR (E := enE) (x0 := ⟨0, 0, 0⟩) rfl rfl rfl rfl rfl rfl (by omega)) ?_; rintro _ _ ⟨o30, ok30, rfl, rfl⟩
 refine KL.v rfl (Val.assign rfl) ?_
 refine KL.nil (KE.next (K.seq (K.region ?_)))
 refine KL.v rfl (Val.move rfl) ?_
 refine KL.v rfl (Val.move rfl) ?_
 refine KL.e rfl (Eff.copyS0 rfl rfl rfl rfl byTakeL (by assumption) (by first | exact Sli.blk byTake rfl (by first | decide | simp) (by first | decide | (unfold maxLen; omega)) rfl | exact Sli.old (by assumption) | exact Sli.own byTakeL (by assumption) byLen | assumption | exact Sli.part (by assumption) byPart)) ?_; rintro _ _ ⟨rfl, ok33, rfl⟩
 refine KL.v rfl (Val.assign rfl) ?_
 refine KL.nil (KE.next (K.seq (K.block ?_)))
 have hc0 := copied_rep (k := 0) (j := 1) (z := z) (zs := List.replicate n (⟨0, 0, 0⟩ : EntP)) (n := n) (by simp) (by omega) (by simp) (ys := [z]) rfl
 refine K.loopT (σ := RqS) [] (fun s kp_ => (8, .int .i64 (s.k : Nat)) :: (7, oV o30 s.zs.length) :: kp_) (fun s => oH enE 232 s.zs o30 ++ H) (fun s => s.zs.length = n ∧ s.k ≤ n ∧ s.zs.take s.k = List.replicate s.k z ∧ oOk enE s.zs o30 ∧ (s.k = 0 → n = 0)) (fun s => n - s.k) (⟨min 1 n, copied (List.replicate n ⟨0, 0, 0⟩) [z] 0⟩) bySub byPart (⟨hc0.1, by dsimp only; omega, by have := hc0.2; simpa using this, ok33, by dsimp only; omega⟩) ?_
 rintro ⟨k, zs⟩ ⟨hl, hk, ht, ok, h0⟩
 dsimp only at hl hk ht ok h0 ⊢
 by_cases hlt : k < n
 ·have hkl : k ≤ zs.length := by omega
  have hkl' : k < zs.length := by omega
  have hsli : Sli w0 (oH enE 232 zs o30 ++ H) enE (oV o30 zs.length) zs := Sli.own TakeL.head ok rfl
  refine K.seq (K.seq (K.region ?_))
  refine KL.v rfl (Val.move rfl) ?_
  refine KL.v rfl (Val.move rfl) ?_
  refine KL.v rfl (Val.lenSl rfl rfl (Sli.own byTakeL (by assumption) byLen)) ?_
  refine KL.v rfl (Val.isT (Val.lss rfl rfl) byLt) ?_
  refine KL.nil (KE.next (K.condT rfl (K.skip (KE.next (K.block ?_)))))
  refine byCodeD ?_
  (first | refine K.seq (K.drawn (H) [(0, 1), (1, 0), (2, 0), (3, 0), (4, 0), (5, 0), (6, 0), (7, 2), (8, 0), (9, 0)] (by kernel_rfl) (by kernel_rfl) (by kernel_rfl) (by kernel_rfl) (by kernel_rfl) (by kernel_rfl) byPart ?_) | refine K.seq (K.seq (K.drawn (H) [(0, 1), (1, 0), (2, 0), (3, 0), (4, 0), (5, 0), (6, 0), (7, 2), (8, 0), (9, 0)] (by kernel_rfl) (by kernel_rfl) (by kernel_rfl) (by kernel_rfl) (by kernel_rfl) (by kernel_rfl) byPart ?_)) | refine K.drawn (H) [(0, 1), (1, 0), (2, 0), (3, 0), (4, 0), (5, 0), (6, 0), (7, 2), (8, 0), (9, 0)] (by kernel_rfl) (by kernel_rfl) (by kernel_rfl) (by kernel_rfl) (by kernel_rfl) (by kernel_rfl) byPart ?_)
  refine KD.v1 rfl rfl (Val.move rfl) ?_
  refine KD.v0 rfl rfl (Val.move rfl) ?_
  refine KD.v0 rfl rfl (Val.move rfl) ?_
  (first | refine KD.v0 rfl rfl (Val.sliceL rfl rfl rfl bySli rfl byLt) ?_ | refine KD.v0 rfl rfl (Val.sliceLZ rfl rfl rfl bySli rfl (by omega)) ?_)
  refine KD.v0 rfl rfl (Val.move rfl) ?_
  refine KD.v0 rfl rfl (Val.move rfl) ?_
  refine KD.v0 rfl rfl (Val.sliceH rfl rfl rfl bySli rfl byLt) ?_
  -- STOP before op 7
  refine KD.e rfl rfl (Eff.copyS (E := enE) (xs := zs) (ys := (zs.take k).drop 0) (o := o30) (i := k) rfl rfl rfl rfl rfl hkl TakeL.head ok (hsli.sub (Nat.zero_le _) hkl)) ?_; rintro _ _ ⟨rfl, ok', rfl⟩; refine ⟨byPart, ?_⟩
  have hys : (zs.take k).drop 0 = List.replicate k z := by simpa using ht
  have hc := copied_rep (j := k) hl hk ht hys
  rw [hys] at ok' hc ⊢
  simp only [List.length_replicate]
  have hmin : min k (zs.length - k) + k ≤ n := by omega
  (first | refine KD.v0 rfl rfl (Val.add rfl rfl (by simp only [qL, qH]; omega)) ?_ | refine KD.v0 rfl rfl (Val.addW rfl rfl) ?_)
  refine KD.v0 rfl rfl (Val.assign rfl) ?_
  refine KD.nil ?_
  refine KE.blkN ?_
  exact KE.again ⟨k + min k (zs.length - k), copied zs (List.replicate k z) k⟩ bySub byPart ⟨hc.1, by dsimp only; omega, by have := hc.2; rw [hl]; exact this, ok', by dsimp only; omega⟩ (by dsimp only; omega)
 ·have hkn : k = n := by omega
  subst hkn
  have hzs : zs = List.replicate k z := by rw [← ht, List.take_of_length_le (by omega)]
  subst hzs
  refine K.seq (K.seq (K.region ?_))
  refine KL.v rfl (Val.move rfl) ?_
  refine KL.v rfl (Val.move rfl) ?_
  refine KL.v rfl (Val.lenSl rfl rfl (Sli.own byTakeL (by assumption) byLen)) ?_
  refine KL.v rfl (Val.isF (Val.lss rfl rfl) byLt) ?_
  refine KL.nil (KE.next (K.condF rfl ?_))
  refine K.exit ?_
  refine KE.passX ?_
  refine KE.passX ?_
  refine KE.blkX ?_
  refine KE.next (K.seq (K.region ?_))
  refine KL.v rfl (Val.move rfl) ?_
  refine KL.v rfl (Val.assign rfl) ?_
  refine KL.nil (KE.next ?_)
  refine K.ret ?_
  exact KE.fin byMarks rfl byRes byPart ⟨o30, ok, rfl, rfl⟩
theorem cnt_rep (s : Int) (z : EntP) (n : Nat) : cntP s (List.replicate n z) = if z.st = s then n else 0 := by
 unfold cntP
 rw [List.countP_replicate]
 simp
theorem tbNew_K {w0 : World} {H : Heap} {n : Nat} {gens : Int} (hn : 1 ≤ n ∧ n ≤ 1024) (hg : 1 ≤ gens ∧ gens ≤ 2147483648) :
  Call Tryz.prog w0 58 [.int .i64 (n : Nat), .int .i64 gens] H (fun r H' => ∃ t, TbOk t ∧ t.l = List.replicate n ⟨0, 0, 1⟩ ∧ t.gens = gens ∧ r = .tuple [.pointer (some ⟨t.b, 0, none⟩), .int .i64 0].toArray ∧ H' = tabH t ++ H) := by
 have h1 : ¬ ((n : Nat) : Int) < 1 := by omega
 have h2 : ¬ ((n : Nat) : Int) > 1024 := by omega
 refine Call.enter2 (n := 34) (by kernel_rfl) Tryz.func58 rfl rfl rfl ?_
 refine K.seq (K.region ?_)
 refine KL.v rfl (Val.assign rfl) ?_
 refine KL.v rfl (Val.assign rfl) ?_
 refine KL.nil (KE.next (K.seq (K.seq (K.region ?_))))
 refine KL.v rfl (Val.move rfl) ?_
 refine KL.v rfl (Val.isF (Val.lss rfl rfl) byLt) ?_
 refine KL.v rfl (Val.move rfl) ?_
 refine KL.yes rfl rfl ?_; refine KL.v rfl (Val.move rfl) ?_
 refine KL.yes rfl rfl ?_; refine KL.v rfl (Val.isF (Val.gtr rfl rfl) byLt) ?_
 refine KL.v rfl (Val.pickF rfl rfl rfl) ?_
 refine KL.v rfl (Val.move rfl) ?_
 refine KL.yes rfl rfl ?_; refine KL.v rfl (Val.move rfl) ?_
 refine KL.yes rfl rfl ?_; refine KL.v rfl (Val.isF (Val.lss rfl rfl) byLt) ?_
 refine KL.v rfl (Val.pickF rfl rfl rfl) ?_
 refine KL.v rfl (Val.move rfl) ?_
 refine KL.yes rfl rfl ?_; refine KL.v rfl (Val.move rfl) ?_
 refine KL.yes rfl rfl ?_; refine KL.v rfl (Val.isF (Val.gtr rfl rfl) byLt) ?_
 refine KL.v rfl (Val.pickF rfl rfl rfl) ?_
 refine KL.nil (KE.next (K.condF rfl (K.skip (KE.next (K.seq (K.region ?_))))))
 refine KL.v rfl (Val.build byParts rfl rfl byFill) ?_
 refine KL.e rfl (Eff.buildS byParts rfl rfl rfl rfl rfl byFill) ?_; rintro _ _ ⟨b22, rfl, rfl⟩
 refine KL.v rfl (Val.move rfl) ?_
 refine KL.callc rfl rfl byEvL fun T hT => ?_
 refine (CallV.fn (Repeat_K (z := ⟨0, 0, 1⟩) (n := n) (Sli.blk byTake rfl (by simp) (by simp [maxLen]) rfl) (by omega))).mono ?_
 rintro _ _ ⟨o, ko, rfl, rfl⟩
 refine hT _ _ ?_; clear hT T
 refine KL.v rfl (Val.move rfl) ?_
 refine KL.v rfl (Val.build byParts rfl rfl byFill) ?_
 refine KL.e rfl (Eff.box rfl rfl) ?_; rintro _ _ ⟨b27, rfl, rfl⟩
 refine KL.v rfl (Val.assign rfl) ?_
 refine KL.nil (KE.next (K.seq (K.region ?_)))
 refine KL.v rfl (Val.move rfl) ?_
 refine KL.v rfl (Val.move rfl) ?_
 refine KL.v rfl (Val.nilCheck rfl) ?_
 refine KL.v rfl (Val.fieldAddr0 (k := 2) rfl rfl) ?_
 refine KL.v rfl (Val.indexA rfl rfl rfl rfl (by omega)) ?_
 refine KL.eN (Eff.storeL rfl rfl byOne rfl byTake bySetAt) ?_; rintro _ _ rfl
 refine KL.nil (KE.next (K.seq (K.region ?_)))
 refine KL.v rfl (Val.move rfl) ?_
 refine KL.v rfl (Val.assign rfl) ?_
 refine KL.v rfl (Val.assign rfl) ?_
 refine KL.nil (KE.next ?_)
 refine K.ret ?_
 refine KE.fin (H' := tabH ⟨b27, List.replicate n ⟨0, 0, 1⟩, gens, o⟩ ++ H) byMarks rfl byRes (by simp only [tabH_app, cnt_rep]; exact byPart) ⟨⟨b27, List.replicate n ⟨0, 0, 1⟩, gens, o⟩, ⟨ko, by simpa using hn, hg, fun e he => ?_⟩, rfl, rfl, rfl, rfl⟩
 rw [(List.mem_replicate.1 he).2]; decide
section
variable {w0 : World} {F : Heap} {t : TbM}
theorem tbnone_K (ok : TbOk t) : Call Tryz.prog w0 177 [.pointer (some ⟨t.b, 0, none⟩)] (tabH t ++ F) (fun r H' => r = .bool false ∧ H' = tabH t ++ F) := by
 have ho := ok.o
 have hn := ok.n
 have hne : ¬ ((t.l.length : Nat) : Int) = 0 := by omega
 refine Call.enter1 (n := 13) (by kernel_rfl) Tryz.func177 rfl rfl rfl ?_
 simp only [tabH_app]
 refine K.seq (K.region ?_)
 refine KL.v rfl (Val.assign rfl) ?_
 refine KL.nil (KE.next (K.seq (K.region ?_)))
 refine KL.v rfl (Val.move rfl) ?_
 refine KL.v rfl (Val.eqlPN rfl rfl rfl) ?_
 refine KL.v rfl (Val.move rfl) ?_
 refine KL.yes rfl rfl ?_; refine KL.v rfl (Val.move rfl) ?_
 refine KL.yes rfl rfl ?_; refine KL.v rfl (Val.nilCheck rfl) ?_
 refine KL.yes rfl rfl ?_; refine KL.v rfl (Val.fieldAddr0 (k := 0) rfl rfl) ?_
 refine KL.yes rfl rfl ?_; refine KL.v rfl (Val.loadP rfl rfl (Sees.cell byTake rfl)) ?_
 refine KL.yes rfl rfl ?_; refine KL.v rfl (Val.lenSl rfl rfl (Sli.own byTakeL (by assumption) byLen)) ?_
 refine KL.yes rfl rfl ?_; refine KL.v rfl (Val.isF (Val.eql rfl rfl) byLt) ?_
 refine KL.v rfl (Val.pickF rfl rfl rfl) ?_
 refine KL.v rfl (Val.assign rfl) ?_
 refine KL.nil (KE.next ?_)
 refine K.ret ?_
 exact KE.fin byMarks rfl byRes (by first | exact byPart | (simp only [tabH_app]; exact byPart)) ⟨rfl, rfl⟩
theorem tbLen_K (ok : TbOk t) : Call Tryz.prog w0 104 [.pointer (some ⟨t.b, 0, none⟩)] (tabH t ++ F) (fun r H' => r = .int .i64 (t.l.length : Nat) ∧ H' = tabH t ++ F) := by
 have ho := ok.o
 refine Call.enter1 (n := 10) (by kernel_rfl) Tryz.func104 rfl rfl rfl ?_
 refine K.seq (K.region ?_)
 refine KL.v rfl (Val.assign rfl) ?_
 refine KL.nil (KE.next (K.seq (K.seq (K.region ?_))))
 refine KL.v rfl (Val.move rfl) ?_
 refine KL.callc rfl rfl byEvL fun T hT => ?_
 refine (CallV.fn (tbnone_K ok)).mono ?_
 rintro _ _ ⟨rfl, rfl⟩
 refine hT _ _ ?_; clear hT T
 simp only [tabH_app]
 refine KL.nil (KE.next (K.condF rfl (K.skip (KE.next (K.seq (K.region ?_))))))
 refine KL.v rfl (Val.move rfl) ?_
 refine KL.v rfl (Val.nilCheck rfl) ?_
 refine KL.v rfl (Val.fieldAddr0 (k := 0) rfl rfl) ?_
 refine KL.v rfl (Val.loadP rfl rfl (Sees.cell byTake rfl)) ?_
 refine KL.v rfl (Val.lenSl rfl rfl (Sli.own byTakeL (by assumption) byLen)) ?_
 refine KL.v rfl (Val.assign rfl) ?_
 refine KL.nil (KE.next ?_)
 refine K.ret ?_
 exact KE.fin byMarks rfl byRes (by first | exact byPart | (simp only [tabH_app]; exact byPart)) ⟨rfl, rfl⟩
end
open Go.RowKit
set_option maxRecDepth 10000
structure HanP where
 slot : Int
 field : Int
 is : Bool
def hanE : Enc HanP := ⟨fun h => [.int .i64 h.slot, .int .i64 h.field, .bool h.is], 3, fun _ => rfl, by intro x v hv; simp at hv; rcases hv with rfl | rfl | rfl <;> rfl⟩
structure MkM where
 b : Nat
 c : TiM
 g : GrM
 hs : List HanP
 o : Own
 root : Nat
 act : Bool
 steps : Nat
 bb : Nat
 tb : Nat
 nb : Nat
def markH (k : MkM) (p : PlanM) : Heap := (k.b, cells [.pointer (some ⟨k.bb, 0, none⟩), .pointer (some ⟨p.b, 0, none⟩), .pointer (some ⟨k.tb, 0, none⟩), .pointer (some ⟨k.nb, 0, none⟩), .pointer (some ⟨k.c.b, 0, none⟩), .pointer (some ⟨k.g.b, 0, none⟩), oV k.o k.hs.length, .int .i64 (k.root : Nat), .bool k.act, .int .i64 (k.steps : Nat)] 112) :: (tintH k.c ++ (greyH k.g p ++ oH hanE 200 k.hs k.o))
theorem markH_app {k : MkM} {p : PlanM} {F : Heap} : markH k p ++ F = (k.b, cells [.pointer (some ⟨k.bb, 0, none⟩), .pointer (some ⟨p.b, 0, none⟩), .pointer (some ⟨k.tb, 0, none⟩), .pointer (some ⟨k.nb, 0, none⟩), .pointer (some ⟨k.c.b, 0, none⟩), .pointer (some ⟨k.g.b, 0, none⟩), oV k.o k.hs.length, .int .i64 (k.root : Nat), .bool k.act, .int .i64 (k.steps : Nat)] 112) :: (tintH k.c ++ (greyH k.g p ++ (oH hanE 200 k.hs k.o ++ F))) := by
 unfold markH; simp only [List.cons_append, List.append_assoc]
structure MkOk (k : MkM) (p : PlanM) : Prop where
 c : TiOk k.c
 g : GrOk k.g p
 n : k.c.l.length = p.g.slots
 o : oOk hanE k.hs k.o
 hs : 1 ≤ k.hs.length ∧ k.hs.length ≤ 9
structure MkNil (k : MkM) (p : PlanM) : Prop where
 c : tiC k.c = List.replicate p.g.slots 0
 g : GrNil k.g p
 hs : k.hs = List.replicate k.hs.length ⟨0, 0, false⟩
 root : k.root = 0
 steps : k.steps = 0
structure MkAs (k k' : MkM) : Prop where
 b : k'.b = k.b
 bb : k'.bb = k.bb
 tb : k'.tb = k.tb
 nb : k'.nb = k.nb
 n : k'.hs.length = k.hs.length
 l : k'.g.ring.length = k.g.ring.length
theorem tiC_get {k : MkM} {p : PlanM} (ok : MkOk k p) {s : Nat} (h : s < p.g.slots) : ∃ c, (tiC k.c)[s]? = some c := get_of_lt (by rw [tiC_len, ok.n]; exact h)
section
variable {w0 : World} {F : Heap} {k : MkM} {p : PlanM}
theorem mknone_K : Call Tryz.prog w0 111 [.pointer (some ⟨k.b, 0, none⟩)] (markH k p ++ F) (fun r H' => r = .bool false ∧ H' = markH k p ++ F) := by
 refine Call.enter1 (n := 12) (by kernel_rfl) Tryz.func111 rfl rfl rfl ?_
 simp only [markH_app]
 refine K.seq (K.region ?_)
 refine KL.v rfl (Val.assign rfl) ?_
 refine KL.nil (KE.next (K.seq (K.region ?_)))
 refine KL.v rfl (Val.move rfl) ?_
 refine KL.v rfl (Val.eqlPN rfl rfl rfl) ?_
 refine KL.v rfl (Val.move rfl) ?_
 refine KL.yes rfl rfl ?_; refine KL.v rfl (Val.move rfl) ?_
 refine KL.yes rfl rfl ?_; refine KL.v rfl (Val.nilCheck rfl) ?_
 refine KL.yes rfl rfl ?_; refine KL.v rfl (Val.fieldAddr0 (k := 5) rfl rfl) ?_
 refine KL.yes rfl rfl ?_; refine KL.v rfl (Val.loadP rfl rfl (Sees.cell byTake rfl)) ?_
 refine KL.yes rfl rfl ?_; refine KL.v rfl (Val.eqlPN rfl rfl rfl) ?_
 refine KL.v rfl (Val.pickF rfl rfl rfl) ?_
 refine KL.v rfl (Val.assign rfl) ?_
 refine KL.nil (KE.next ?_)
 refine K.ret ?_
 exact KE.fin byMarks rfl byRes (by first | exact byPart | (simp only [markH_app]; exact byPart)) ⟨rfl, rfl⟩
theorem mkOf_K {s : Nat} {c : Int} (ok : MkOk k p) (hc : (tiC k.c)[s]? = some c) : Call Tryz.prog w0 36 [.pointer (some ⟨k.b, 0, none⟩), .int .i64 (s : Nat)] (markH k p ++ F) (fun r H' => r = .tuple [.int .u8 c, .int .i64 0].toArray ∧ H' = markH k p ++ F) := by
 have okc := ok.c
 refine Call.enter2 (n := 16) (by kernel_rfl) Tryz.func36 rfl rfl rfl ?_
 refine K.seq (K.region ?_)
 refine KL.v rfl (Val.assign rfl) ?_
 refine KL.v rfl (Val.assign rfl) ?_
 refine KL.nil (KE.next (K.seq (K.seq (K.region ?_))))
 refine KL.v rfl (Val.move rfl) ?_
 refine KL.callc rfl rfl byEvL fun T hT => ?_
 refine (CallV.fn (mknone_K (k := k) (p := p))).mono ?_
 rintro _ _ ⟨rfl, rfl⟩
 refine hT _ _ ?_; clear hT T
 simp only [markH_app]
 refine KL.nil (KE.next (K.condF rfl (K.skip (KE.next (K.seq (K.region ?_))))))
 refine KL.v rfl (Val.move rfl) ?_
 refine KL.v rfl (Val.nilCheck rfl) ?_
 refine KL.v rfl (Val.fieldAddr0 (k := 4) rfl rfl) ?_
 refine KL.v rfl (Val.loadP rfl rfl (Sees.cell byTake rfl)) ?_
 refine KL.v rfl (Val.move rfl) ?_
 refine KL.callc rfl rfl byEvL fun T hT => ?_
 refine (CallV.part (CallV.fn (tiOf_K okc hc)) byPart).mono ?_
 rintro _ _ ⟨rfl, rfl⟩
 refine hT _ _ ?_; clear hT T
 refine KL.v rfl (Val.extract rfl rfl) ?_
 refine KL.v rfl (Val.extract rfl rfl) ?_
 refine KL.v rfl (Val.assign rfl) ?_
 refine KL.v rfl (Val.assign rfl) ?_
 refine KL.nil (KE.next ?_)
 refine K.ret ?_
 exact KE.fin byMarks rfl byRes (by first | exact byPart | (simp only [markH_app]; exact byPart)) ⟨rfl, rfl⟩
theorem mkturn_K {v : Bool} (hv : k.act = !v) : Call Tryz.prog w0 117 [.pointer (some ⟨k.b, 0, none⟩), .bool v] (markH k p ++ F) (fun r H' => r = .int .i64 0 ∧ H' = markH { k with act := v } p ++ F) := by
 have hb : (k.act == v) = false := by rw [hv]; cases v <;> rfl
 refine Call.enter2 (n := 19) (by kernel_rfl) Tryz.func117 rfl rfl rfl ?_
 refine K.seq (K.region ?_)
 refine KL.v rfl (Val.assign rfl) ?_
 refine KL.nil (KE.next (K.seq (K.block (K.seq (K.region ?_)))))
 refine KL.v rfl (Val.move rfl) ?_
 refine KL.callc rfl rfl byEvL fun T hT => ?_
 refine (CallV.fn (mknone_K (k := k) (p := p))).mono ?_
 rintro _ _ ⟨rfl, rfl⟩
 refine hT _ _ ?_; clear hT T
 simp only [markH_app]
 refine KL.v rfl (Val.assign rfl) ?_
 refine KL.nil (KE.next (K.condF rfl (K.seq (K.region ?_))))
 refine KL.v rfl (Val.move rfl) ?_
 refine KL.v rfl (Val.nilCheck rfl) ?_
 refine KL.v rfl (Val.fieldAddr0 (k := 8) rfl rfl) ?_
 refine KL.v rfl (Val.loadP rfl rfl (Sees.cell byTake rfl)) ?_
 refine KL.v rfl (Val.move rfl) ?_
 refine KL.v rfl (Val.eqlB rfl rfl rfl) ?_
 refine KL.v rfl (Val.assign rfl) ?_
 refine KL.nil (KE.next ?_)
 rw [hb]
 refine K.condF rfl (K.skip ?_)
 refine KE.blkN ?_
 refine KE.next (K.seq (K.region ?_))
 refine KL.v rfl (Val.move rfl) ?_
 refine KL.v rfl (Val.move rfl) ?_
 refine KL.v rfl (Val.nilCheck rfl) ?_
 refine KL.v rfl (Val.fieldAddr0 (k := 8) rfl rfl) ?_
 refine KL.eN (Eff.storeL rfl rfl byOne rfl byTake bySetAt) ?_; rintro _ _ rfl
 refine KL.nil (KE.next (K.seq (K.region ?_)))
 refine KL.v rfl (Val.assign rfl) ?_
 refine KL.nil (KE.next ?_)
 refine K.ret ?_
 exact KE.fin byMarks rfl byRes (by first | exact byPart | (simp only [markH_app]; exact byPart)) ⟨rfl, rfl⟩
theorem mkStart_K (ok : MkOk k p) (hv : k.act = false) (hf : k.c.f ≤ 1000000) : Call Tryz.prog w0 42 [.pointer (some ⟨k.b, 0, none⟩)] (markH k p ++ F)
  (fun r H' => r = .int .i64 0 ∧ ∃ k', MkOk k' p ∧ MkNil k' p ∧ MkAs k k' ∧ k'.act = true ∧ k'.c.f = k.c.f + 1 ∧ H' = markH k' p ++ F) := by
 have okc := ok.c
 have okg := ok.g
 have oko := ok.o
 refine Call.enter1 (n := 29) (by kernel_rfl) Tryz.func42 rfl rfl rfl ?_
 refine K.seq (K.region ?_)
 refine KL.v rfl (Val.assign rfl) ?_
 refine KL.nil (KE.next (K.seq (K.region ?_)))
 refine KL.v rfl (Val.move rfl) ?_
 refine KL.callc rfl rfl byEvL fun T hT => ?_
 refine (CallV.fn (mkturn_K (p := p) hv)).mono ?_
 rintro _ _ ⟨rfl, rfl⟩
 refine hT _ _ ?_; clear hT T
 simp only [markH_app]
 refine KL.v rfl (Val.assign rfl) ?_
 refine KL.nil (KE.next (K.seq (K.seq (K.region ?_))))
 refine KL.v rfl (Val.move rfl) ?_
 refine KL.v rfl (Val.isT (Val.eql rfl rfl) byLt) ?_
 refine KL.nil (KE.next (K.condT rfl (K.seq (K.region ?_))))
 refine KL.v rfl (Val.move rfl) ?_
 refine KL.v rfl (Val.nilCheck rfl) ?_
 refine KL.v rfl (Val.fieldAddr0 (k := 4) rfl rfl) ?_
 refine KL.v rfl (Val.loadP rfl rfl (Sees.cell byTake rfl)) ?_
 refine KL.callc rfl rfl byEvL fun T hT => ?_
 refine (CallV.part (CallV.fn (tiFlip_K okc hf)) byPart).mono ?_
 rintro _ _ ⟨rfl, c', kc, cb, cf, cc, rfl⟩
 refine hT _ _ ?_; clear hT T
 refine KL.nil (KE.next (K.seq (K.region ?_)))
 refine KL.v rfl (Val.move rfl) ?_
 refine KL.v rfl (Val.nilCheck rfl) ?_
 refine KL.v rfl (Val.fieldAddr0 (k := 5) rfl rfl) ?_
 refine KL.v rfl (Val.loadP rfl rfl (Sees.cell byTake rfl)) ?_
 refine KL.callc rfl rfl byEvL fun T hT => ?_
 refine (CallV.part (CallV.fn (grClear_K okg)) byPart).mono ?_
 rintro _ _ ⟨rfl, g', kg, gn, gb, gl, rfl⟩
 refine hT _ _ ?_; clear hT T
 refine KL.nil (KE.next (K.seq (K.region ?_)))
 refine KL.v rfl (Val.move rfl) ?_
 refine KL.v rfl (Val.nilCheck rfl) ?_
 refine KL.v rfl (Val.fieldAddr0 (k := 6) rfl rfl) ?_
 refine KL.v rfl (Val.loadP rfl rfl (Sees.cell byTake rfl)) ?_
 refine KL.eN (Eff.clearS (x0 := (⟨0, 0, false⟩ : HanP)) (i := 0) rfl (clr_all (by assumption)) rfl rfl (Nat.zero_le _) (Nat.le_refl _) byTakeL (by assumption)) ?_; rintro _ _ ⟨rfl, okc, rfl⟩
 refine KL.nil ?_
 rw [cleared_all] at okc ⊢
 refine KE.next (K.region ?_)
 refine KL.v rfl (Val.move rfl) ?_
 refine KL.v rfl (Val.move rfl) ?_
 refine KL.v rfl (Val.nilCheck rfl) ?_
 refine KL.v rfl (Val.fieldAddr0 (k := 7) rfl rfl) ?_
 refine KL.eN (Eff.storeL rfl rfl byOne rfl byTake bySetAt) ?_; rintro _ _ rfl
 refine KL.v rfl (Val.nilCheck rfl) ?_
 refine KL.v rfl (Val.fieldAddr0 (k := 9) rfl rfl) ?_
 refine KL.eN (Eff.storeL rfl rfl byOne rfl byTake bySetAt) ?_; rintro _ _ rfl
 refine KL.nil (KE.next (K.seq (K.region ?_)))
 refine KL.v rfl (Val.move rfl) ?_
 refine KL.v rfl (Val.assign rfl) ?_
 refine KL.nil (KE.next ?_)
 refine K.ret ?_
 rw [← cb, ← gb]
 have hcn : c'.l.length = p.g.slots := by have := congrArg List.length cc; rw [tiC_len, List.length_replicate, ok.n] at this; exact this
 have hcc := cc
 rw [ok.n] at hcc
 exact KE.fin (H' := markH ⟨k.b, c', g', List.replicate k.hs.length ⟨0, 0, false⟩, k.o, 0, true, 0, k.bb, k.tb, k.nb⟩ p ++ F) byMarks rfl byRes (by simp only [markH_app, List.length_replicate]; exact byPart) ⟨rfl, ⟨k.b, c', g', List.replicate k.hs.length ⟨0, 0, false⟩, k.o, 0, true, 0, k.bb, k.tb, k.nb⟩, ⟨kc, kg, hcn, okc, by simpa using ok.hs⟩, ⟨hcc, gn, by simp, rfl, rfl⟩, ⟨rfl, rfl, rfl, rfl, by simp, gl⟩, rfl, cf, by simp only [markH_app]⟩
end
open Go.RowKit
set_option maxRecDepth 10000
section
variable {w0 : World} {F : Heap} {k : MkM} {p : PlanM}
theorem mktouch_K {s : Nat} {c : Int} {g : FuncId} {cap : List Value} {R : Heap → Prop} (ok : MkOk k p) (hc : (tiC k.c)[s]? = some c)
  (hdo : k.act = true → CallV Tryz.prog w0 (.func (.func g) #[] cap.toArray) [.int .i64 (s : Nat)] (markH k p ++ F) (fun r H' => r = .tuple #[] ∧ R H')) :
  Call Tryz.prog w0 109 [.pointer (some ⟨k.b, 0, none⟩), .int .i64 (s : Nat), .func (.func g) #[] cap.toArray] (markH k p ++ F) (fun r H' => r = .int .i64 0 ∧ (k.act = true → R H') ∧ (k.act = false → H' = markH k p ++ F)) := by
 cases ha : k.act with
 | true =>
  have h1 := hdo ha
  refine Call.enter3 (n := 27) (by kernel_rfl) Tryz.func109 rfl rfl rfl ?_
  refine K.seq (K.region ?_)
  refine KL.v rfl (Val.assign rfl) ?_
  refine KL.nil (KE.next (K.seq (K.region ?_)))
  refine KL.v rfl (Val.move rfl) ?_
  refine KL.v rfl (Val.move rfl) ?_
  refine KL.callc rfl rfl byEvL fun T hT => ?_
  refine (CallV.fn (mkOf_K ok hc)).mono ?_
  rintro _ _ ⟨rfl, rfl⟩
  refine hT _ _ ?_; clear hT T
  rw [markH_app, ha]
  refine KL.v rfl (Val.move rfl) ?_
  refine KL.v rfl (Val.extract rfl rfl) ?_
  refine KL.v rfl (Val.extract rfl rfl) ?_
  refine KL.v rfl (Val.assign rfl) ?_
  refine KL.v rfl (Val.assign rfl) ?_
  refine KL.nil (KE.next (K.seq (K.seq (K.region ?_))))
  refine KL.v rfl (Val.move rfl) ?_
  refine KL.v rfl (Val.isT (Val.eql rfl rfl) byLt) ?_
  refine KL.v rfl (Val.move rfl) ?_
  refine KL.yes rfl rfl ?_; refine KL.v rfl (Val.move rfl) ?_
  refine KL.yes rfl rfl ?_; refine KL.v rfl (Val.nilCheck rfl) ?_
  refine KL.yes rfl rfl ?_; refine KL.v rfl (Val.fieldAddr0 (k := 8) rfl rfl) ?_
  refine KL.yes rfl rfl ?_; refine KL.v rfl (Val.loadP rfl rfl (Sees.cell byTake rfl)) ?_
  refine KL.v rfl (Val.pickT rfl rfl rfl) ?_
  refine KL.nil (KE.next (K.condT rfl (K.region ?_)))
  refine KL.v rfl (Val.move rfl) ?_
  refine KL.v rfl (Val.move rfl) ?_
  refine KL.callc rfl rfl byEvL fun T hT => ?_
  refine (CallV.part h1 (by rw [markH_app, ha]; exact byPart)).mono ?_
  rintro _ H' ⟨rfl, hR⟩
  refine hT _ _ ?_; clear hT T
  refine KL.nil (KE.next (K.seq (K.region ?_)))
  refine KL.v rfl (Val.move rfl) ?_
  refine KL.v rfl (Val.assign rfl) ?_
  refine KL.nil (KE.next ?_)
  refine K.ret ?_
  exact KE.fin byMarks rfl byRes byPart ⟨rfl, fun _ => hR, fun h => by cases h⟩
 | false =>
  refine Call.enter3 (n := 27) (by kernel_rfl) Tryz.func109 rfl rfl rfl ?_
  refine K.seq (K.region ?_)
  refine KL.v rfl (Val.assign rfl) ?_
  refine KL.nil (KE.next (K.seq (K.region ?_)))
  refine KL.v rfl (Val.move rfl) ?_
  refine KL.v rfl (Val.move rfl) ?_
  refine KL.callc rfl rfl byEvL fun T hT => ?_
  refine (CallV.fn (mkOf_K ok hc)).mono ?_
  rintro _ _ ⟨rfl, rfl⟩
  refine hT _ _ ?_; clear hT T
  rw [markH_app, ha]
  refine KL.v rfl (Val.move rfl) ?_
  refine KL.v rfl (Val.extract rfl rfl) ?_
  refine KL.v rfl (Val.extract rfl rfl) ?_
  refine KL.v rfl (Val.assign rfl) ?_
  refine KL.v rfl (Val.assign rfl) ?_
  refine KL.nil (KE.next (K.seq (K.seq (K.region ?_))))
  refine KL.v rfl (Val.move rfl) ?_
  refine KL.v rfl (Val.isT (Val.eql rfl rfl) byLt) ?_
  refine KL.v rfl (Val.move rfl) ?_
  refine KL.yes rfl rfl ?_; refine KL.v rfl (Val.move rfl) ?_
  refine KL.yes rfl rfl ?_; refine KL.v rfl (Val.nilCheck rfl) ?_
  refine KL.yes rfl rfl ?_; refine KL.v rfl (Val.fieldAddr0 (k := 8) rfl rfl) ?_
  refine KL.yes rfl rfl ?_; refine KL.v rfl (Val.loadP rfl rfl (Sees.cell byTake rfl)) ?_
  refine KL.v rfl (Val.pickT rfl rfl rfl) ?_
  refine KL.nil (KE.next (K.condF rfl (K.skip (KE.next (K.seq (K.region ?_))))))
  refine KL.v rfl (Val.move rfl) ?_
  refine KL.v rfl (Val.assign rfl) ?_
  refine KL.nil (KE.next ?_)
  refine K.ret ?_
  exact KE.fin (H' := markH k p ++ F) byMarks rfl byRes (by rw [markH_app, ha]; exact byPart) ⟨rfl, fun h => (by cases h), fun _ => by rw [markH_app, ha]⟩
theorem mkBlack_K {s : Nat} (ok : MkOk k p) (hs : s < p.g.slots) : Call Tryz.prog w0 44 [.pointer (some ⟨k.b, 0, none⟩), .int .i64 (s : Nat)] (markH k p ++ F)
  (fun r H' => r = .int .i64 0 ∧ ∃ c', MkOk { k with c := c' } p ∧ c'.f = k.c.f ∧ tiC c' = (if k.act = true then (tiC k.c).set s 2 else tiC k.c) ∧ H' = markH { k with c := c' } p ++ F) := by
 have okc := ok.c
 obtain ⟨c, hc⟩ := tiC_get ok hs
 have hsl : s < k.c.l.length := by rw [ok.n]; exact hs
 refine Call.enter2 (n := 9) (by kernel_rfl) Tryz.func44 rfl rfl rfl ?_
 refine K.seq (K.region ?_)
 refine KL.e rfl (Eff.box rfl rfl) ?_; rintro _ _ ⟨b2, rfl, rfl⟩
 refine KL.v rfl (Val.assign rfl) ?_
 refine KL.nil (KE.next (K.seq (K.region ?_)))
 refine KL.v rfl (Val.loadP rfl rfl (Sees.cell byTake rfl)) ?_
 refine KL.v rfl (Val.move rfl) ?_
 refine KL.v rfl (Val.makeFunc byEvL byEvL) ?_
 refine KL.callc rfl rfl byEvL fun T hT => ?_
 refine (CallV.part (CallV.fn (mktouch_K (F := (b2, cells [.pointer (some ⟨k.b, 0, none⟩)] 30) :: F) (g := 120) (cap := [.pointer (some ⟨b2, 0, none⟩)])
  (R := fun H' => ∃ c', MkOk { k with c := c' } p ∧ c'.f = k.c.f ∧ tiC c' = (tiC k.c).set s 2 ∧ H' = markH { k with c := c' } p ++ ((b2, cells [.pointer (some ⟨k.b, 0, none⟩)] 30) :: F)) ok hc ?_)) byPart).mono ?_
 ·intro ha
  refine CallV.clo (cap := [.pointer (some ⟨b2, 0, none⟩)]) ?_
  refine Call.enter2 (n := 9) (by kernel_rfl) Tryz.func120 rfl rfl rfl ?_
  rw [markH_app]
  refine K.region ?_
  refine KL.v rfl (Val.loadP rfl rfl (Sees.cell byTake rfl)) ?_
  refine KL.v rfl (Val.nilCheck rfl) ?_
  refine KL.v rfl (Val.fieldAddr0 (k := 4) rfl rfl) ?_
  refine KL.v rfl (Val.loadP rfl rfl (Sees.cell byTake rfl)) ?_
  refine KL.v rfl (Val.move rfl) ?_
  refine KL.callc rfl rfl byEvL fun T hT => ?_
  refine (CallV.part (CallV.fn (tiBlack_K okc hsl)) byPart).mono ?_
  rintro _ _ ⟨rfl, c', kc, cb, cf, cc, rfl⟩
  refine hT _ _ ?_; clear hT T
  refine KL.nil ?_
  rw [← cb]
  have hcn : c'.l.length = p.g.slots := by have := congrArg List.length cc; rw [tiC_len, List.length_set, tiC_len, ok.n] at this; exact this
  exact KE.finN (H' := markH { k with c := c' } p ++ ((b2, cells [.pointer (some ⟨k.b, 0, none⟩)] 30) :: F)) byMarks rfl byRes (by rw [markH_app]; exact byPart) ⟨rfl, c', ⟨kc, ok.g, hcn, ok.o, ok.hs⟩, cf, cc, rfl⟩
 ·rintro _ H' ⟨rfl, h1, h2⟩
  cases ha : k.act with
  | true =>
   obtain ⟨c', kc, cf, cc, rfl⟩ := h1 ha
   refine hT _ _ ?_; clear hT T
   refine KL.v rfl (Val.assign rfl) ?_
   refine KL.nil (KE.next ?_)
   refine K.ret ?_
   exact KE.fin byMarks rfl byRes byPart ⟨rfl, c', kc, cf, by rw [if_pos ha]; exact cc, rfl⟩
  | false =>
   obtain rfl := h2 ha
   refine hT _ _ ?_; clear hT T
   refine KL.v rfl (Val.assign rfl) ?_
   refine KL.nil (KE.next ?_)
   refine K.ret ?_
   exact KE.fin byMarks rfl byRes byPart ⟨rfl, k.c, ok, rfl, by rw [if_neg (by rw [ha]; decide)], rfl⟩
end
theorem mkNew_K {w0 : World} {F : Heap} {B : BoM} {x : List Int} {T : TbM} {N : PiM} {nw long : Nat} (hG : Glob w0) (ok : BoOk B x) (okT : TbOk T) (okN : PiOk N) (hN : N.l.length = B.p.g.slots) (hw : nw ≤ 8) (hl : 1 ≤ long ∧ long ≤ 64) :
  Call Tryz.prog w0 34 [.pointer (some ⟨B.b, 0, none⟩), .pointer (some ⟨B.p.b, 0, none⟩), .pointer (some ⟨T.b, 0, none⟩), .pointer (some ⟨N.b, 0, none⟩), .int .i64 (nw : Nat), .int .i64 (long : Nat)] (bodyH B ++ (memH B.m ++ (planH B.p ++ (tabH T ++ (pinsH N ++ F)))))
   (fun r H' => ∃ k, MkOk k B.p ∧ MkNil k B.p ∧ k.act = false ∧ k.c.f = 1 ∧ k.bb = B.b ∧ k.tb = T.b ∧ k.nb = N.b ∧ k.hs.length = nw + 1 ∧ k.g.ring.length = long ∧ r = .tuple [.pointer (some ⟨k.b, 0, none⟩), .int .i64 0].toArray ∧ H' = markH k B.p ++ (bodyH B ++ (memH B.m ++ (planH B.p ++ (tabH T ++ (pinsH N ++ F)))))) := by
 have okp := ok.p
 have hs := okp.g.slots
 obtain ⟨y, hy⟩ := L_ex (g := B.p.g) (i := 0) (by omega)
 have hne : ¬ ((B.p.g.slots : Nat) : Int) = 0 := by omega
 have hT := okT.n
 have hne2 : ¬ ((T.l.length : Nat) : Int) = 0 := by omega
 have hne3 : ¬ ((N.l.length : Nat) : Int) ≠ (B.p.g.slots : Nat) := by omega
 have hgt : ¬ ((nw : Nat) : Int) > 8 := by omega
 have he : ((nw : Nat) : Int) + 1 = ((nw + 1 : Nat) : Int) := by omega
 have hhead := fun A => Head_K (w0 := w0) (F := A) (s := 0) hG ok hy
 have hhv : ∃ c r w e, headV (headP x y) = .tuple [.agg [.int .i64 c, .int .i64 r, .int .i64 w].toArray, .int .i64 e].toArray ∧ e ≠ 1 := by
  unfold headV
  cases headP x y with
  | none => exact ⟨0, 0, 0, 5, rfl, by decide⟩
  | some h => exact ⟨h.c, h.r, h.w, 0, rfl, by decide⟩
 obtain ⟨c, r, w, e, hev, hen⟩ := hhv
 simp only [hev] at hhead
 have hen' : ¬ e = 1 := hen
 refine Call.enter6 (n := 83) (by kernel_rfl) Tryz.func34 rfl rfl rfl ?_
 refine K.seq (K.region ?_)
 refine KL.v rfl (Val.assign rfl) ?_
 refine KL.v rfl (Val.assign rfl) ?_
 refine KL.nil (KE.next (K.seq (K.region ?_)))
 refine KL.v rfl (Val.move rfl) ?_
 refine KL.callc rfl rfl byEvL fun T hT => ?_
 refine (CallV.part (CallV.fn (hhead _)) byPart).mono ?_
 rintro _ _ ⟨rfl, rfl⟩
 refine hT _ _ ?_; clear hT T
 refine KL.v rfl (Val.move rfl) ?_
 refine KL.v rfl (Val.extract rfl rfl) ?_
 refine KL.v rfl (Val.extract rfl rfl) ?_
 refine KL.e rfl (Eff.alloc rfl) ?_; rintro _ _ ⟨b14, rfl, rfl⟩
 refine KL.eN (Eff.storeAL rfl rfl rfl byTake byLay byOnes) ?_; rintro _ _ rfl
 refine KL.v rfl (Val.assign rfl) ?_
 refine KL.nil (KE.next (K.seq (K.block (K.seq (K.region ?_)))))
 refine KL.v rfl (Val.move rfl) ?_
 refine KL.v rfl (Val.isF (Val.eql rfl rfl) byLt) ?_
 refine KL.v rfl (Val.move rfl) ?_
 refine KL.yes rfl rfl ?_; refine KL.v rfl (Val.move rfl) ?_
 refine KL.yes rfl rfl ?_; refine KL.callc rfl rfl byEvL fun T hT => ?_
 refine (CallV.part (CallV.fn (Slots0_K okp)) byPart).mono ?_
 rintro _ _ ⟨rfl, rfl⟩
 refine hT _ _ ?_; clear hT T
 refine KL.yes rfl rfl ?_; refine KL.v rfl (Val.isF (Val.eql rfl rfl) byLt) ?_
 refine KL.v rfl (Val.pickF rfl rfl rfl) ?_
 refine KL.v rfl (Val.move rfl) ?_
 refine KL.yes rfl rfl ?_; refine KL.v rfl (Val.move rfl) ?_
 refine KL.yes rfl rfl ?_; refine KL.callc rfl rfl byEvL fun T hT => ?_
 refine (CallV.part (CallV.fn (tbLen_K okT)) byPart).mono ?_
 rintro _ _ ⟨rfl, rfl⟩
 refine hT _ _ ?_; clear hT T
 refine KL.yes rfl rfl ?_; refine KL.v rfl (Val.isF (Val.eql rfl rfl) byLt) ?_
 refine KL.v rfl (Val.pickF rfl rfl rfl) ?_
 refine KL.v rfl (Val.move rfl) ?_
 refine KL.yes rfl rfl ?_; refine KL.v rfl (Val.move rfl) ?_
 refine KL.yes rfl rfl ?_; refine KL.callc rfl rfl byEvL fun T hT => ?_
 refine (CallV.part (CallV.fn (piCopy_K okN)) byPart).mono ?_
 rintro _ _ ⟨N', _, _, rfl, rfl⟩
 refine hT _ _ ?_; clear hT T
 refine KL.yes rfl rfl ?_; refine KL.v rfl (Val.eqlPN rfl rfl rfl) ?_
 refine KL.v rfl (Val.pickF rfl rfl rfl) ?_
 refine KL.v rfl (Val.assign rfl) ?_
 refine KL.nil (KE.next (K.condF rfl (K.seq (K.region ?_))))
 refine KL.v rfl (Val.move rfl) ?_
 refine KL.v rfl (Val.isF (Val.lss rfl rfl) byLt) ?_
 refine KL.v rfl (Val.move rfl) ?_
 refine KL.yes rfl rfl ?_; refine KL.v rfl (Val.move rfl) ?_
 refine KL.yes rfl rfl ?_; refine KL.v rfl (Val.isF (Val.gtr rfl rfl) byLt) ?_
 refine KL.v rfl (Val.pickF rfl rfl rfl) ?_
 refine KL.v rfl (Val.move rfl) ?_
 refine KL.yes rfl rfl ?_; refine KL.v rfl (Val.move rfl) ?_
 refine KL.yes rfl rfl ?_; refine KL.callc rfl rfl byEvL fun T hT => ?_
 refine (CallV.part (CallV.fn (piLen_K okN)) byPart).mono ?_
 rintro _ _ ⟨rfl, rfl⟩
 refine hT _ _ ?_; clear hT T
 refine KL.yes rfl rfl ?_; refine KL.v rfl (Val.move rfl) ?_
 refine KL.yes rfl rfl ?_; refine KL.callc rfl rfl byEvL fun T hT => ?_
 refine (CallV.part (CallV.fn (Slots0_K okp)) byPart).mono ?_
 rintro _ _ ⟨rfl, rfl⟩
 refine hT _ _ ?_; clear hT T
 refine KL.yes rfl rfl ?_; refine KL.v rfl (Val.isF (Val.neq rfl rfl) byLt) ?_
 refine KL.v rfl (Val.pickF rfl rfl rfl) ?_
 refine KL.v rfl (Val.assign rfl) ?_
 refine KL.nil (KE.next (K.condF rfl (K.skip ?_)))
 refine KE.blkN ?_
 refine KE.next (K.seq (K.region ?_))
 refine KL.v rfl (Val.move rfl) ?_
 refine KL.v rfl (Val.move rfl) ?_
 refine KL.callc rfl rfl byEvL fun T hT => ?_
 refine (CallV.part (CallV.fn (grNew_K okp hl)) byPart).mono ?_
 rintro _ _ ⟨g, kg, gn, gl, rfl, rfl⟩
 refine hT _ _ ?_; clear hT T
 refine KL.v rfl (Val.move rfl) ?_
 refine KL.v rfl (Val.extract rfl rfl) ?_
 refine KL.v rfl (Val.extract rfl rfl) ?_
 refine KL.v rfl (Val.assign rfl) ?_
 refine KL.v rfl (Val.assign rfl) ?_
 refine KL.nil (KE.next (K.seq (K.seq (K.region ?_))))
 refine KL.v rfl (Val.move rfl) ?_
 refine KL.v rfl (Val.isF (Val.neq rfl rfl) byLt) ?_
 refine KL.nil (KE.next (K.condF rfl (K.skip (KE.next (K.seq (K.region ?_))))))
 refine KL.v rfl (Val.move rfl) ?_
 refine KL.callc rfl rfl byEvL fun T hT => ?_
 refine (CallV.part (CallV.fn (Slots0_K okp)) byPart).mono ?_
 rintro _ _ ⟨rfl, rfl⟩
 refine hT _ _ ?_; clear hT T
 refine KL.callc rfl rfl byEvL fun T hT => ?_
 refine (CallV.fn (tiNew_K (n := B.p.g.slots) (by omega))).mono ?_
 rintro _ _ ⟨t, kt, tf, tc, rfl, rfl⟩
 refine hT _ _ ?_; clear hT T
 refine KL.v rfl (Val.move rfl) ?_
 refine KL.v rfl (Val.extract rfl rfl) ?_
 refine KL.v rfl (Val.extract rfl rfl) ?_
 refine KL.v rfl (Val.assign rfl) ?_
 refine KL.v rfl (Val.assign rfl) ?_
 refine KL.nil (KE.next ?_)
 refine byCode ?_
 refine KL.v rfl (Val.move rfl) ?_
 refine KL.v rfl (Val.move rfl) ?_
 refine KL.v rfl (Val.move rfl) ?_
 refine KL.v rfl (Val.move rfl) ?_
 refine KL.v rfl (Val.move rfl) ?_
 refine KL.v rfl (Val.move rfl) ?_
 refine KL.v rfl (Val.move rfl) ?_
 (first | (refine KL.v rfl (Val.add rfl rfl (by simp only [qL, qH]; omega)) ?_) | (refine KL.v rfl (Val.addW rfl rfl) ?_))
 rw [he]
 refine KL.e rfl (Eff.makeR (E := hanE) (x0 := ⟨0, 0, false⟩) rfl rfl rfl rfl rfl rfl (by omega)) ?_; rintro _ _ ⟨o79, ok79, rfl, rfl⟩
 refine KL.v rfl (Val.build byParts rfl rfl byFill) ?_
 refine KL.e rfl (Eff.box rfl rfl) ?_; rintro _ _ ⟨b81, rfl, rfl⟩
 refine KL.v rfl (Val.move rfl) ?_
 refine KL.v rfl (Val.assign rfl) ?_
 refine KL.v rfl (Val.assign rfl) ?_
 refine KL.nil (KE.next ?_)
 refine K.ret ?_
 have hcn : t.l.length = B.p.g.slots := by have := congrArg List.length tc; rw [tiC_len, List.length_replicate] at this; exact this
 exact KE.fin (H' := markH ⟨b81, t, g, List.replicate (nw + 1) ⟨0, 0, false⟩, o79, 0, false, 0, B.b, T.b, N.b⟩ B.p ++ (bodyH B ++ (memH B.m ++ (planH B.p ++ (tabH T ++ (pinsH N ++ F)))))) byMarks rfl byRes (by simp only [markH_app, List.length_replicate]; exact byPart)
  ⟨⟨b81, t, g, List.replicate (nw + 1) ⟨0, 0, false⟩, o79, 0, false, 0, B.b, T.b, N.b⟩, ⟨kt, kg, hcn, ok79, by simp; omega⟩, ⟨tc, gn, by simp, rfl, rfl⟩, rfl, tf, rfl, rfl, rfl, by simp, gl, rfl, rfl⟩
set_option maxRecDepth 10000
structure SpM where
 b : Nat
 d : RowM
 at_ : Nat
 act : Bool
 ab : Nat
 bb : Nat
 mb : Nat
def sweepH (s : SpM) : Heap := (s.b, cells [.pointer (some ⟨s.ab, 0, none⟩), .pointer (some ⟨s.bb, 0, none⟩), .pointer (some ⟨s.mb, 0, none⟩), .pointer (some ⟨s.d.b, 0, none⟩), .int .i64 (s.at_ : Nat), .bool s.act] 73) :: rowH s.d
theorem sweepH_app {s : SpM} {F : Heap} : sweepH s ++ F = (s.b, cells [.pointer (some ⟨s.ab, 0, none⟩), .pointer (some ⟨s.bb, 0, none⟩), .pointer (some ⟨s.mb, 0, none⟩), .pointer (some ⟨s.d.b, 0, none⟩), .int .i64 (s.at_ : Nat), .bool s.act] 73) :: (rowH s.d ++ F) := rfl
structure SpOk (s : SpM) (n : Nat) : Prop where
 d : RowOk s.d
 dn : s.d.bs.length = n
 at_ : s.at_ ≤ n
section
variable {w0 : World} {F : Heap} {s : SpM}
theorem spnone_K : Call Tryz.prog w0 79 [.pointer (some ⟨s.b, 0, none⟩)] (sweepH s ++ F) (fun r H' => r = .bool false ∧ H' = sweepH s ++ F) := by
 refine Call.enter1 (n := 12) (by kernel_rfl) Tryz.func79 rfl rfl rfl ?_
 simp only [sweepH_app]
 refine K.seq (K.region ?_)
 refine KL.v rfl (Val.assign rfl) ?_
 refine KL.nil (KE.next (K.seq (K.region ?_)))
 refine KL.v rfl (Val.move rfl) ?_
 refine KL.v rfl (Val.eqlPN rfl rfl rfl) ?_
 refine KL.v rfl (Val.move rfl) ?_
 refine KL.yes rfl rfl ?_; refine KL.v rfl (Val.move rfl) ?_
 refine KL.yes rfl rfl ?_; refine KL.v rfl (Val.nilCheck rfl) ?_
 refine KL.yes rfl rfl ?_; refine KL.v rfl (Val.fieldAddr0 (k := 3) rfl rfl) ?_
 refine KL.yes rfl rfl ?_; refine KL.v rfl (Val.loadP rfl rfl (Sees.cell byTake rfl)) ?_
 refine KL.yes rfl rfl ?_; refine KL.v rfl (Val.eqlPN rfl rfl rfl) ?_
 refine KL.v rfl (Val.pickF rfl rfl rfl) ?_
 refine KL.v rfl (Val.assign rfl) ?_
 refine KL.nil (KE.next ?_)
 refine K.ret ?_
 exact KE.fin byMarks rfl byRes (by first | exact byPart | (simp only [sweepH_app]; exact byPart)) ⟨rfl, rfl⟩
theorem spActive_K : Call Tryz.prog w0 26 [.pointer (some ⟨s.b, 0, none⟩)] (sweepH s ++ F) (fun r H' => r = .bool s.act ∧ H' = sweepH s ++ F) := by
 refine Call.enter1 (n := 12) (by kernel_rfl) Tryz.func26 rfl rfl rfl ?_
 refine K.seq (K.region ?_)
 refine KL.v rfl (Val.assign rfl) ?_
 refine KL.nil (KE.next (K.seq (K.region ?_)))
 refine KL.v rfl (Val.move rfl) ?_
 refine KL.callc rfl rfl byEvL fun T hT => ?_
 refine (CallV.fn (spnone_K (s := s))).mono ?_
 rintro _ _ ⟨rfl, rfl⟩
 refine hT _ _ ?_; clear hT T
 simp only [sweepH_app]
 refine KL.v rfl (Val.notF rfl) ?_
 refine KL.v rfl (Val.move rfl) ?_
 refine KL.yes rfl rfl ?_; refine KL.v rfl (Val.move rfl) ?_
 refine KL.yes rfl rfl ?_; refine KL.v rfl (Val.nilCheck rfl) ?_
 refine KL.yes rfl rfl ?_; refine KL.v rfl (Val.fieldAddr0 (k := 5) rfl rfl) ?_
 refine KL.yes rfl rfl ?_; refine KL.v rfl (Val.loadP rfl rfl (Sees.cell byTake rfl)) ?_
 refine KL.v rfl (Val.pickT rfl rfl rfl) ?_
 refine KL.v rfl (Val.assign rfl) ?_
 refine KL.nil (KE.next ?_)
 refine K.ret ?_
 exact KE.fin byMarks rfl byRes (by first | exact byPart | (simp only [sweepH_app]; exact byPart)) ⟨rfl, rfl⟩
def doneB (s : SpM) : Bool := s.act && decide (s.at_ = s.d.bs.length)
theorem spDone_K : Call Tryz.prog w0 25 [.pointer (some ⟨s.b, 0, none⟩)] (sweepH s ++ F) (fun r H' => r = .bool (doneB s) ∧ H' = sweepH s ++ F) := by
 have hd : doneB s = (s.act && decide (((s.at_ : Nat) : Int) = (s.d.bs.length : Nat))) := by
  unfold doneB; congr 1; exact decide_eq_decide.2 (by omega)
 rw [hd]
 cases ha : s.act with
 | true =>
  refine Call.enter1 (n := 17) (by kernel_rfl) Tryz.func25 rfl rfl rfl ?_
  refine K.seq (K.region ?_)
  refine KL.v rfl (Val.assign rfl) ?_
  refine KL.nil (KE.next (K.seq ?_))
  refine K.drawn _ [(0, 0), (1, 2), (2, 0), (3, 1), (4, 1), (5, 1), (6, 1), (7, 0), (8, 0), (9, 0), (10, 0), (11, 2), (12, 0), (13, 0), (14, 0)] (by kernel_rfl) (by kernel_rfl) (by kernel_rfl) (by kernel_rfl) (by kernel_rfl) (by kernel_rfl) Part.all ?_
  refine KD.v0 rfl rfl (Val.move rfl) ?_
  refine KD.callc rfl rfl rfl byEvL fun T hT => ?_
  refine (CallV.fn (spActive_K (s := s))).mono ?_
  rintro _ _ ⟨rfl, rfl⟩
  rw [ha]
  refine hT _ _ byPart ?_; clear hT T
  simp only [sweepH_app]
  refine KD.v0 rfl rfl (Val.move rfl) ?_
  refine KD.y1 rfl rfl rfl rfl (Val.move rfl) ?_
  refine KD.y1 rfl rfl rfl rfl (Val.nilCheck rfl) ?_
  refine KD.y1 rfl rfl rfl rfl (Val.fieldAddr0 (k := 4) rfl rfl) ?_
  refine KD.y1 rfl rfl rfl rfl (Val.loadP rfl rfl (Sees.cell byTake rfl)) ?_
  refine KD.y0 rfl rfl rfl rfl (Val.move rfl) ?_
  refine KD.y0 rfl rfl rfl rfl (Val.nilCheck rfl) ?_
  refine KD.y0 rfl rfl rfl rfl (Val.fieldAddr0 (k := 3) rfl rfl) ?_
  refine KD.y0 rfl rfl rfl rfl (Val.loadP rfl rfl (Sees.cell byTake rfl)) ?_
  refine KD.callcY rfl rfl rfl rfl rfl byEvL fun T hT => ?_
  refine (CallV.part (CallV.fn (rLen_K (r := s.d))) byPart).mono ?_
  rintro _ _ ⟨rfl, rfl⟩
  refine hT _ _ byPart ?_; clear hT T
  refine KD.y0 rfl rfl rfl rfl (Val.eql rfl rfl) ?_
  refine KD.v0 rfl rfl (Val.pickT rfl rfl rfl) ?_
  refine KD.v0 rfl rfl (Val.assign rfl) ?_
  refine KD.nil ?_
  refine KE.next ?_
  refine K.ret ?_
  exact KE.fin byMarks rfl byRes (by first | exact byPart | (simp only [sweepH_app]; exact byPart)) ⟨rfl, rfl⟩
 | false =>
  refine Call.enter1 (n := 17) (by kernel_rfl) Tryz.func25 rfl rfl rfl ?_
  refine K.seq (K.region ?_)
  refine KL.v rfl (Val.assign rfl) ?_
  refine KL.nil (KE.next (K.seq ?_))
  refine K.drawn _ [(0, 0), (1, 2), (2, 0), (3, 1), (4, 1), (5, 1), (6, 1), (7, 0), (8, 0), (9, 0), (10, 0), (11, 2), (12, 0), (13, 0), (14, 0)] (by kernel_rfl) (by kernel_rfl) (by kernel_rfl) (by kernel_rfl) (by kernel_rfl) (by kernel_rfl) Part.all ?_
  refine KD.v0 rfl rfl (Val.move rfl) ?_
  refine KD.callc rfl rfl rfl byEvL fun T hT => ?_
  refine (CallV.fn (spActive_K (s := s))).mono ?_
  rintro _ _ ⟨rfl, rfl⟩
  rw [ha]
  refine hT _ _ byPart ?_; clear hT T
  refine KD.v0 rfl rfl (Val.move rfl) ?_
  refine KD.no rfl rfl rfl rfl rfl ?_
  refine KD.no rfl rfl rfl rfl rfl ?_
  refine KD.no rfl rfl rfl rfl rfl ?_
  refine KD.no rfl rfl rfl rfl rfl ?_
  refine KD.no rfl rfl rfl rfl rfl ?_
  refine KD.no rfl rfl rfl rfl rfl ?_
  refine KD.no rfl rfl rfl rfl rfl ?_
  refine KD.no rfl rfl rfl rfl rfl ?_
  refine KD.noA rfl rfl rfl rfl ?_
  refine KD.no rfl rfl rfl rfl rfl ?_
  refine KD.v0 rfl rfl (Val.pickF rfl rfl rfl) ?_
  refine KD.v0 rfl rfl (Val.assign rfl) ?_
  refine KD.nil ?_
  refine KE.next ?_
  refine K.ret ?_
  exact KE.fin byMarks rfl byRes (by first | exact byPart | (simp only [sweepH_app]; exact byPart)) ⟨rfl, rfl⟩
theorem spStart_K (ha : s.act = false) : Call Tryz.prog w0 17 [.pointer (some ⟨s.b, 0, none⟩)] (sweepH s ++ F) (fun r H' => r = .int .i64 0 ∧ H' = sweepH { s with act := true } ++ F) := by
 refine Call.enter1 (n := 14) (by kernel_rfl) Tryz.func17 rfl rfl rfl ?_
 refine K.seq (K.region ?_)
 refine KL.v rfl (Val.assign rfl) ?_
 refine KL.nil (KE.next (K.seq (K.block (K.seq (K.region ?_)))))
 refine KL.v rfl (Val.move rfl) ?_
 refine KL.callc rfl rfl byEvL fun T hT => ?_
 refine (CallV.fn (spnone_K (s := s))).mono ?_
 rintro _ _ ⟨rfl, rfl⟩
 refine hT _ _ ?_; clear hT T
 simp only [sweepH_app, ha]
 refine KL.v rfl (Val.assign rfl) ?_
 refine KL.nil (KE.next (K.condF rfl (K.seq (K.region ?_))))
 refine KL.v rfl (Val.move rfl) ?_
 refine KL.v rfl (Val.nilCheck rfl) ?_
 refine KL.v rfl (Val.fieldAddr0 (k := 5) rfl rfl) ?_
 refine KL.v rfl (Val.loadP rfl rfl (Sees.cell byTake rfl)) ?_
 refine KL.v rfl (Val.assign rfl) ?_
 refine KL.nil (KE.next (K.condF rfl (K.skip ?_)))
 refine KE.blkN ?_
 refine KE.next (K.seq (K.region ?_))
 refine KL.v rfl (Val.move rfl) ?_
 refine KL.v rfl (Val.nilCheck rfl) ?_
 refine KL.v rfl (Val.fieldAddr0 (k := 5) rfl rfl) ?_
 refine KL.eN (Eff.storeL rfl rfl byOne rfl byTake bySetAt) ?_; rintro _ _ rfl
 refine KL.nil (KE.next (K.seq (K.region ?_)))
 refine KL.v rfl (Val.assign rfl) ?_
 refine KL.nil (KE.next ?_)
 refine K.ret ?_
 exact KE.fin byMarks rfl byRes (by first | exact byPart | (simp only [sweepH_app]; exact byPart)) ⟨rfl, rfl⟩
def idxP (bs : List Bool) : List Int := ((List.range bs.length).filter fun i => (bs[i]?).getD false).map fun i => ((i : Nat) : Int)
def idxTo (bs : List Bool) (k : Nat) : List Int := ((List.range k).filter fun i => (bs[i]?).getD false).map fun i => ((i : Nat) : Int)
theorem filter_gap {α : Type} {q : Nat → Bool} : ∀ {i k : Nat}, k ≤ i → (∀ j, k ≤ j → j < i → q j = false) → (List.range i).filter q = (List.range k).filter q
  | 0, k, h, _ => by have : k = 0 := by omega
                     subst this; rfl
  | i + 1, k, h, hq => by
    by_cases e : k = i + 1
    · rw [e]
    · rw [List.range_succ, List.filter_append, filter_gap (α := α) (i := i) (by omega) (fun j h1 h2 => hq j h1 (by omega))]
      simp [hq i (by omega) (by omega)]
theorem idxTo_next {bs : List Bool} {k i : Nat} (h : nextB bs k true = some i) : idxTo bs k ++ [((i : Nat) : Int)] = idxTo bs (i + 1) := by
 obtain ⟨n1, n2, n3, n4⟩ := nextB_of h
 unfold idxTo
 rw [List.range_succ, List.filter_append, filter_gap (α := Nat) n2 (fun j h1 h2 => by have := n4 j h1 h2; simpa using this)]
 simp [n3]
theorem idxTo_done {bs : List Bool} {k : Nat} (h : nextB bs k true = none) : idxTo bs k = idxP bs ∨ bs.length ≤ k := by
 by_cases hk : bs.length ≤ k
 ·exact .inr hk
 ·left
  unfold idxTo idxP
  rw [filter_gap (α := Nat) (i := bs.length) (k := k) (by omega)]
  intro j h1 h2
  unfold nextB at h
  rw [List.find?_eq_none] at h
  have := h j (List.mem_range.2 h2)
  simpa [h1] using this
theorem idxTo_over {bs : List Bool} {k : Nat} (hk : bs.length ≤ k) : idxTo bs k = idxP bs := by
 unfold idxTo idxP
 rw [filter_gap (α := Nat) (i := k) (k := bs.length) hk]
 intro j h1 h2
 rw [List.getElem?_eq_none h1]; rfl
theorem idxTo_end {bs : List Bool} {k : Nat} (h : nextB bs k true = none) : idxTo bs k = idxP bs := by
 rcases idxTo_done h with h | h
 ·exact h
 ·exact idxTo_over h
theorem idxTo_len (bs : List Bool) (k : Nat) : (idxTo bs k).length ≤ k := by
 unfold idxTo
 rw [List.length_map]
 exact Nat.le_trans (List.length_filter_le _ _) (by simp)
theorem idxP_len (bs : List Bool) : (idxP bs).length ≤ bs.length := by
 rw [← idxTo_over (Nat.le_refl _)]; exact idxTo_len _ _
end
open Go.RowKit
set_option maxRecDepth 10000
structure SaS where
 k : Nat
 A : Heap
theorem all1_K {w0 : World} {F A0 : Heap} {s_ : SpM} {bl n : Nat} {yv : Value} (hG : Glob w0) (ok : SpOk s_ n) (J : Nat → Heap → Prop)
  (hy : ∀ k i A, J k A → nextB s_.d.bs k true = some i → CallV Tryz.prog w0 yv [.int .i64 (i : Nat)] (A ++ ((bl, cells [.pointer (some ⟨s_.b, 0, none⟩)] 31) :: (sweepH s_ ++ F)))
   (fun u H' => u = .bool true ∧ ∃ A', J (i + 1) A' ∧ H' = A' ++ ((bl, cells [.pointer (some ⟨s_.b, 0, none⟩)] 31) :: (sweepH s_ ++ F))))
  (h0 : J 0 A0) :
  Call Tryz.prog w0 168 [yv, .pointer (some ⟨bl, 0, none⟩)] (A0 ++ ((bl, cells [.pointer (some ⟨s_.b, 0, none⟩)] 31) :: (sweepH s_ ++ F)))
   (fun _ H' => ∃ A', H' = A' ++ ((bl, cells [.pointer (some ⟨s_.b, 0, none⟩)] 31) :: (sweepH s_ ++ F)) ∧ ∃ k, nextB s_.d.bs k true = none ∧ J k A') := by
 have okd := ok.d
 have hn := okd.n
 refine Call.enter2 (n := 31) (by kernel_rfl) Tryz.func168 rfl rfl rfl ?_
 refine K.seq (K.seq (K.region ?_))
 refine KL.v rfl (Val.loadP rfl rfl (Sees.cell byTake rfl)) ?_
 refine KL.callc rfl rfl byEvL fun T hT => ?_
 refine (CallV.part (CallV.fn (spnone_K (s := s_))) byPart).mono ?_
 rintro _ _ ⟨rfl, rfl⟩
 refine hT _ _ ?_; clear hT T
 simp only [sweepH_app]
 refine KL.nil (KE.next (K.condF rfl (K.skip (KE.next (K.seq (K.region ?_))))))
 refine KL.v rfl (Val.loadP rfl rfl (Sees.cell byTake rfl)) ?_
 refine KL.v rfl (Val.nilCheck rfl) ?_
 refine KL.v rfl (Val.fieldAddr0 (k := 3) rfl rfl) ?_
 refine KL.v rfl (Val.loadP rfl rfl (Sees.cell byTake rfl)) ?_
 refine KL.callc rfl rfl byEvL fun T hT => ?_
 refine (CallV.part (CallV.fn (Next_K (k := 0) (v := true) okd hG (by omega))) byPart).mono ?_
 rintro _ _ ⟨rfl, rfl⟩
 refine hT _ _ ?_; clear hT T
 refine KL.v rfl (Val.move rfl) ?_
 refine KL.v rfl (Val.extract rfl rfl) ?_
 refine KL.v rfl (Val.extract rfl rfl) ?_
 refine KL.v rfl (Val.assign rfl) ?_
 refine KL.v rfl (Val.assign rfl) ?_
 refine KL.nil (KE.next (K.block ?_))
 refine K.loopT (σ := SaS) [(0, _), (1, _)] (fun s kp_ => (3, .int .i64 (nxI (nextB s_.d.bs s.k true))) :: (4, .bool (nextB s_.d.bs s.k true).isSome) :: kp_) (fun s => s.A ++ ((bl, cells [.pointer (some ⟨s_.b, 0, none⟩)] 31) :: (sweepH s_ ++ F))) (fun s => J s.k s.A) (fun s => s_.d.bs.length + 1 - s.k) (⟨0, A0⟩) bySub (by simp only [sweepH_app]; exact byPart) (h0) ?_
 rintro ⟨k, A⟩ hJ
 dsimp only at hJ ⊢
 cases hnx : nextB s_.d.bs k true with
 | none =>
  unfold nxI
  dsimp only [Option.isSome, Option.getD]
  refine K.seq (K.seq (K.region ?_))
  refine KL.v rfl (Val.move rfl) ?_
  refine KL.v rfl (Val.move rfl) ?_
  refine KL.skipG rfl rfl rfl ?_
  refine KL.skipG rfl rfl rfl ?_
  refine KL.skipG rfl rfl rfl ?_
  refine KL.v rfl (Val.pickF rfl rfl rfl) ?_
  refine KL.nil (KE.next (K.condF rfl ?_))
  refine K.exit ?_
  refine KE.passX ?_
  refine KE.passX ?_
  refine KE.blkX ?_
  exact KE.finN (H' := A ++ ((bl, cells [.pointer (some ⟨s_.b, 0, none⟩)] 31) :: (sweepH s_ ++ F))) byMarks rfl byRes byPart ⟨A, by simp only [sweepH_app], k, hnx, hJ⟩
 | some i =>
  unfold nxI
  dsimp only [Option.isSome, Option.getD]
  obtain ⟨n1, n2, n3, n4⟩ := nextB_of hnx
  have he : ((i : Nat) : Int) + 1 = ((i + 1 : Nat) : Int) := by omega
  refine K.seq (K.seq (K.region ?_))
  refine KL.v rfl (Val.move rfl) ?_
  refine KL.v rfl (Val.move rfl) ?_
  refine KL.yes rfl rfl ?_; refine KL.v rfl (Val.move rfl) ?_
  refine KL.yes rfl rfl ?_; refine KL.v rfl (Val.move rfl) ?_
  refine KL.yes rfl rfl ?_; refine KL.callc rfl rfl byEvL fun T hT => ?_
  refine (hy k i A hJ hnx).mono ?_
  rintro _ _ ⟨rfl, A', hJ', rfl⟩
  refine hT _ _ ?_; clear hT T
  simp only [sweepH_app]
  refine KL.v rfl (Val.pickT rfl rfl rfl) ?_
  refine KL.nil (KE.next (K.condT rfl (K.skip (KE.next (K.block (K.region ?_))))))
  refine KL.v rfl (Val.loadP rfl rfl (Sees.cell byTake rfl)) ?_
  refine KL.v rfl (Val.nilCheck rfl) ?_
  refine KL.v rfl (Val.fieldAddr0 (k := 3) rfl rfl) ?_
  refine KL.v rfl (Val.loadP rfl rfl (Sees.cell byTake rfl)) ?_
  refine KL.v rfl (Val.move rfl) ?_
  refine KL.v rfl (Val.add rfl rfl (by simp only [qL, qH]; omega)) ?_
  refine KL.callc rfl rfl byEvL fun T hT => ?_
  rw [he]
  refine (CallV.part (CallV.fn (Next_K (k := i + 1) (v := true) okd hG (by omega))) byPart).mono ?_
  rintro _ _ ⟨rfl, rfl⟩
  refine hT _ _ ?_; clear hT T
  refine KL.v rfl (Val.move rfl) ?_
  refine KL.v rfl (Val.extract rfl rfl) ?_
  refine KL.v rfl (Val.extract rfl rfl) ?_
  refine KL.v rfl (Val.assign rfl) ?_
  refine KL.v rfl (Val.assign rfl) ?_
  refine KL.nil ?_
  refine KE.blkN ?_
  exact KE.again ⟨i + 1, A'⟩ bySub (by simp only [sweepH_app]; exact byPart) hJ' (by show s_.d.bs.length + 1 - (i + 1) < s_.d.bs.length + 1 - k; omega)
theorem spall_K {w0 : World} {H : Heap} {b : Nat} :
  Call Tryz.prog w0 85 [.pointer (some ⟨b, 0, none⟩)] H (fun u H' => ∃ bl, u = .func (.func 168) #[] [.pointer (some ⟨bl, 0, none⟩)].toArray ∧ H' = (bl, cells [.pointer (some ⟨b, 0, none⟩)] 31) :: H) := by
 refine Call.enter1 (n := 4) (by kernel_rfl) Tryz.func85 rfl rfl rfl ?_
 refine K.seq (K.region ?_)
 refine KL.e rfl (Eff.box rfl rfl) ?_; rintro _ _ ⟨b1, rfl, rfl⟩
 refine KL.v rfl (Val.assign rfl) ?_
 refine KL.nil (KE.next (K.seq (K.region ?_)))
 refine KL.v rfl (Val.makeFunc byEvL byEvL) ?_
 refine KL.v rfl (Val.assign rfl) ?_
 refine KL.nil (KE.next ?_)
 refine K.ret ?_
 exact KE.fin byMarks rfl byRes byPart ⟨b1, rfl, rfl⟩
set_option maxRecDepth 10000
def DmJ (l D : Nat) (rc : Rec) (b2 : Nat) (bs : List Bool) (k : Nat) (A : Heap) : Prop :=
 ∃ o, oOk iE (idxTo bs k) o ∧ A = (l, .loop (rc .ready none)) :: (D, .deferred (some [])) :: (b2, cells [oV o (idxTo bs k).length] 22) :: oH iE 3 (idxTo bs k) o
theorem AppendSeq_K {w0 : World} {F : Heap} {s : SpM} {bl n : Nat} (hG : Glob w0) (ok : SpOk s n) :
  Call Tryz.prog w0 167 [.slice none 0 0, .func (.func 168) #[] [.pointer (some ⟨bl, 0, none⟩)].toArray] ((bl, cells [.pointer (some ⟨s.b, 0, none⟩)] 31) :: (sweepH s ++ F))
   (fun r H' => ∃ o, oOk iE (idxP s.d.bs) o ∧ r = oV o (idxP s.d.bs).length ∧ H' = oH iE 3 (idxP s.d.bs) o ++ (sweepH s ++ F)) := by
 have hn := ok.d.n
 refine Call.enter2 (n := 13) (by kernel_rfl) Tryz.func167 rfl rfl rfl ?_
 refine K.seq (K.region ?_)
 refine KL.e rfl (Eff.box rfl rfl) ?_; rintro _ _ ⟨b2, rfl, rfl⟩
 refine KL.v rfl (Val.assign rfl) ?_
 refine KL.nil (KE.next (K.seq (K.seq (K.region ?_))))
 refine KL.v rfl (Val.move rfl) ?_
 refine KL.nil (KE.next (K.block ?_))
 refine K.rangeFunc (lb := [.pointer (some ⟨bl, 0, none⟩)]) rfl
  (fun D G => ∃ o, oOk iE (idxP s.d.bs) o ∧ G = (D, .deferred (some [])) :: (b2, cells [oV o (idxP s.d.bs).length] 22) :: (oH iE 3 (idxP s.d.bs) o ++ (sweepH s ++ F)))
  (fun D c G => False) ?_ ?_ ?_
 ·intro l D rc hyl
  refine (Call.part (all1_K (F := F) (s_ := s) (bl := bl) hG ok (DmJ l D rc b2 s.d.bs) (A0 := (l, .loop (rc .ready none)) :: (D, .deferred (some [])) :: (b2, cells [.slice none 0 0] 22) :: []) ?_ ⟨none, rfl, rfl⟩) (by simp only [List.cons_append, List.nil_append]; exact byPart)).mono ?_
  ·rintro k i A ⟨o, ko, rfl⟩ hnx
   obtain ⟨n1, n2, n3, n4⟩ := nextB_of hnx
   have hnext := idxTo_next hnx
   have hlen := idxTo_len s.d.bs k
   have hlen2 := idxTo_len s.d.bs (i + 1)
   have hbd : (idxTo s.d.bs (i + 1)).length ≤ 4294967296 := by omega
   simp only [List.cons_append]
   refine hyl _ _ _ _ _ (ParS.cons rfl ParS.nil) byTake ?_
   refine byCode ?_
   refine KL.v rfl (Val.assign rfl) ?_
   refine KL.nil ?_
   refine KE.begin byTake ?_
   refine K.block ?_
   skip
   refine byCode ?_
   (first | (refine KL.v rfl (Val.loadP rfl rfl bySee) ?_) | (refine KL.v rfl (Val.loadP rfl rfl (Sees.more (by assumption) byPart)) ?_))
   refine KL.v rfl (Val.move rfl) ?_
   refine KL.e rfl (Eff.buildS byParts rfl rfl rfl rfl rfl byFill) ?_; rintro _ _ ⟨b10, rfl, rfl⟩
   refine KL.e rfl (Eff.appZ (E := iE) (xs := idxTo s.d.bs k) (o := o) (ys := [((i : Nat) : Int)]) (zs := idxTo s.d.bs (i + 1)) rfl rfl rfl rfl rfl rfl byTakeL (by assumption) (by first | exact Sli.blk byTake rfl (by first | decide | simp) (by first | decide | (unfold maxLen; omega)) rfl | exact Sli.old (by assumption) | exact Sli.own byTakeL (by assumption) byLen | assumption | exact Sli.part (by assumption) byPart) (hnext) (by first | assumption | omega | (simp <;> fail) | (simp; omega)) rfl) ?_; rintro _ _ ⟨o', ok', rfl, rfl⟩
   (first | (refine KL.eN (Eff.storeL rfl rfl byOne rfl byTake bySetAt) ?_; rintro _ _ rfl) | (refine KL.eN (Eff.stSl rfl rfl rfl rfl byTakeL (by assumption) (by assumption) rfl rfl) ?_; rintro _ _ rfl) | (refine KL.eN (Eff.stSl0 rfl rfl rfl rfl byTakeL (by assumption) (by assumption) rfl rfl) ?_; rintro _ _ rfl))
   refine KL.nil ?_
   refine KE.blkN ?_
   refine KE.part ((l, .loop (rc .busy none)) :: ((D, .deferred (some [])) :: (b2, cells [oV o' (idxTo s.d.bs (i + 1)).length] 22) :: oH iE 3 (idxTo s.d.bs (i + 1)) o') ++ ((bl, cells [.pointer (some ⟨s.b, 0, none⟩)] 31) :: (sweepH s ++ F))) (by simp only [List.cons_append]; exact byPart) ?_
   exact KE.roundN Take.head ⟨rfl, _, ⟨o', ok', rfl⟩, rfl⟩
  ·rintro u H' ⟨A', rfl, k, hk, o, ko, rfl⟩
   have he := idxTo_end hk
   rw [he] at ko ⊢
   refine .inl ⟨_, ?_, o, ko, rfl⟩
   simp only [List.cons_append]
   exact byPart
 ·rintro D G ⟨o, ko, rfl⟩
  refine KE.blkN ?_
  refine KE.next (K.seq (K.region ?_))
  refine KL.v rfl (Val.loadP rfl rfl (Sees.cell byTake rfl)) ?_
  refine KL.v rfl (Val.assign rfl) ?_
  refine KL.nil (KE.next ?_)
  refine K.ret ?_
  exact KE.fin byMarks rfl byRes byPart ⟨o, ko, rfl, rfl⟩
 ·rintro D c G hf
  exact hf.elim
theorem Collect_K {w0 : World} {F : Heap} {s : SpM} {bl n : Nat} (hG : Glob w0) (ok : SpOk s n) :
  Call Tryz.prog w0 84 [.func (.func 168) #[] [.pointer (some ⟨bl, 0, none⟩)].toArray] ((bl, cells [.pointer (some ⟨s.b, 0, none⟩)] 31) :: (sweepH s ++ F))
   (fun r H' => ∃ o, oOk iE (idxP s.d.bs) o ∧ r = oV o (idxP s.d.bs).length ∧ H' = oH iE 3 (idxP s.d.bs) o ++ (sweepH s ++ F)) := by
 refine Call.enter1 (n := 5) (by kernel_rfl) Tryz.func84 rfl rfl rfl ?_
 refine K.seq (K.region ?_)
 refine KL.v rfl (Val.assign rfl) ?_
 refine KL.nil (KE.next (K.seq (K.region ?_)))
 refine KL.v rfl (Val.move rfl) ?_
 refine KL.callc rfl rfl byEvL fun T hT => ?_
 refine (CallV.fn (AppendSeq_K hG ok)).mono ?_
 rintro _ _ ⟨o, ko, rfl, rfl⟩
 refine hT _ _ ?_; clear hT T
 refine KL.v rfl (Val.assign rfl) ?_
 refine KL.nil (KE.next ?_)
 refine K.ret ?_
 exact KE.fin byMarks rfl byRes byPart ⟨o, ko, rfl, rfl⟩
theorem spDoomed_K {w0 : World} {F : Heap} {s : SpM} {n : Nat} (hG : Glob w0) (ok : SpOk s n) :
  Call Tryz.prog w0 19 [.pointer (some ⟨s.b, 0, none⟩)] (sweepH s ++ F)
   (fun r H' => ∃ o, oOk iE (idxP s.d.bs) o ∧ r = oV o (idxP s.d.bs).length ∧ H' = oH iE 3 (idxP s.d.bs) o ++ (sweepH s ++ F)) := by
 refine Call.enter1 (n := 6) (by kernel_rfl) Tryz.func19 rfl rfl rfl ?_
 refine K.seq (K.region ?_)
 refine KL.v rfl (Val.assign rfl) ?_
 refine KL.nil (KE.next (K.seq (K.region ?_)))
 refine KL.v rfl (Val.move rfl) ?_
 refine KL.callc rfl rfl byEvL fun T hT => ?_
 refine (CallV.fn (spall_K (b := s.b))).mono ?_
 rintro _ _ ⟨bl, rfl, rfl⟩
 refine hT _ _ ?_; clear hT T
 refine KL.callc rfl rfl byEvL fun T hT => ?_
 refine (CallV.fn (Collect_K hG ok)).mono ?_
 rintro _ _ ⟨o, ko, rfl, rfl⟩
 refine hT _ _ ?_; clear hT T
 refine KL.v rfl (Val.assign rfl) ?_
 refine KL.nil (KE.next ?_)
 refine K.ret ?_
 exact KE.fin byMarks rfl byRes byPart ⟨o, ko, rfl, rfl⟩
set_option maxRecDepth 10000
structure FnP where
 f : FuncId
 first : List Value
 cap : List Value
def fnE : Enc FnP := ⟨fun x => [.func (.func x.f) x.first.toArray x.cap.toArray], 1, fun _ => rfl, by intro x v hv; simp at hv; subst hv; rfl⟩
theorem all_next (q : Nat → Bool) (k : Nat) : (List.range (k + 1)).all q = ((List.range k).all q && q k) := by simp [List.range_succ, List.all_append]
theorem all_not {q : Nat → Bool} {k n : Nat} (hk : k < n) (h : q k = false) : (List.range n).all q = false := by
 cases hc : (List.range n).all q with
 | false => rfl
 | true => rw [List.all_eq_true] at hc; rw [hc k (List.mem_range.2 hk)] at h; cases h
structure HoS where
 k : Nat
theorem hold_K {w0 : World} {H : Heap} {v : Value} {l : List FnP} {z : Int} (q : Nat → Bool) (hS : Sli w0 H fnE v l) (hl : l.length ≤ 1000)
  (hy : ∀ i x, l[i]? = some x → CallV Tryz.prog w0 (.func (.func x.f) x.first.toArray x.cap.toArray) [.int .i64 z] H (fun r H' => r = .bool (q i) ∧ H' = H)) :
  Call Tryz.prog w0 80 [.int .i64 z, v] H (fun r H' => r = .bool ((List.range l.length).all q) ∧ H' = H) := by
 refine Call.enter2 (n := 18) (by kernel_rfl) Tryz.func80 rfl rfl rfl ?_
 refine K.seq (K.region ?_)
 refine KL.v rfl (Val.assign rfl) ?_
 refine KL.nil (KE.next (K.seq (K.seq (K.region ?_))))
 refine KL.v rfl (Val.move rfl) ?_
 refine KL.v rfl (Val.lenSl rfl rfl bySli) ?_
 refine KL.v rfl (Val.move rfl) ?_
 refine KL.nil (KE.next (K.block ?_))
 refine K.loopT (σ := HoS) [(0, _), (7, _), (8, _)] (fun s kp_ => (9, .int .i64 (s.k : Nat)) :: kp_) (fun s => H) (fun s => s.k ≤ l.length ∧ (List.range s.k).all q = true) (fun s => l.length - s.k) (⟨0⟩) bySub byPart (⟨Nat.zero_le _, rfl⟩) ?_
 rintro ⟨k⟩ ⟨hk, hq⟩
 dsimp only at hk hq ⊢
 by_cases hlt : k < l.length
 ·obtain ⟨x, hx⟩ := get_of_lt hlt
  have hyk := hy k x hx
  refine K.seq (K.region ?_)
  refine KL.v rfl (Val.isT (Val.lss rfl rfl) byLt) ?_
  refine KL.nil (KE.next (K.seq (K.condT rfl (K.skip (KE.next (K.seq (K.block (K.seq (K.region ?_)))))))))
  refine KL.v rfl (Val.idxSl rfl rfl rfl bySli rfl byLt) ?_
  refine KL.v rfl (Val.loadP rfl rfl bySee) ?_
  refine KL.v rfl (Val.assign rfl) ?_
  refine KL.nil (KE.next (K.seq (K.region ?_)))
  refine KL.v rfl (Val.move rfl) ?_
  refine KL.v rfl (Val.move rfl) ?_
  refine KL.callc rfl rfl byEvL fun T hT => ?_
  refine hyk.mono ?_
  rintro _ _ ⟨rfl, rfl⟩
  cases hqk : q k with
  | true =>
   have hq' : (List.range (k + 1)).all q = true := by rw [all_next, hq, hqk]; rfl
   refine hT _ _ ?_; clear hT T
   refine KL.v rfl (Val.notT rfl) ?_
   refine KL.nil (KE.next (K.condF rfl (K.skip ?_)))
   refine KE.blkN ?_
   refine KE.next (K.region ?_)
   refine KL.v rfl (Val.add rfl rfl (by simp only [qL, qH]; omega)) ?_
   refine KL.v rfl (Val.move rfl) ?_
   refine KL.nil ?_
   exact KE.again ⟨k + 1⟩ bySub byPart ⟨hlt, hq'⟩ (by show l.length - (k + 1) < l.length - k; omega)
  | false =>
   have hr := all_not hlt hqk
   refine hT _ _ ?_; clear hT T
   rw [hr]
   refine KL.v rfl (Val.notF rfl) ?_
   refine KL.nil (KE.next (K.condT rfl (K.seq (K.region ?_))))
   refine KL.v rfl (Val.assign rfl) ?_
   refine KL.nil (KE.next ?_)
   refine K.ret ?_
   refine KE.blkR ?_
   refine KE.passR ?_
   refine KE.passR ?_
   refine KE.blkR ?_
   refine KE.passR ?_
   exact KE.fin byMarks rfl byRes byPart ⟨rfl, rfl⟩
 ·have : k = l.length := by omega
  subst this
  rw [hq]
  refine K.seq (K.region ?_)
  refine KL.v rfl (Val.isF (Val.lss rfl rfl) byLt) ?_
  refine KL.nil (KE.next (K.seq (K.condF rfl ?_)))
  refine K.exit ?_
  refine KE.passX ?_
  refine KE.passX ?_
  refine KE.blkX ?_
  refine KE.next (K.seq (K.region ?_))
  refine KL.v rfl (Val.assign rfl) ?_
  refine KL.nil (KE.next ?_)
  refine K.ret ?_
  exact KE.fin byMarks rfl byRes byPart ⟨rfl, rfl⟩
theorem step1_K {w0 : World} {F : Heap} {s : SpM} {k : MkM} {p : PlanM} {b1 i : Nat} {c : Int} (ok : MkOk k p) (hc : (tiC k.c)[i]? = some c) (hm : s.mb = k.b) :
  Call Tryz.prog w0 81 [.int .i64 (i : Nat), .pointer (some ⟨b1, 0, none⟩)] ((b1, cells [.pointer (some ⟨s.b, 0, none⟩)] 31) :: (sweepH s ++ (markH k p ++ F)))
   (fun r H' => r = .bool (decide (c = 0)) ∧ H' = (b1, cells [.pointer (some ⟨s.b, 0, none⟩)] 31) :: (sweepH s ++ (markH k p ++ F))) := by
 refine Call.enter2 (n := 17) (by kernel_rfl) Tryz.func81 rfl rfl rfl ?_
 simp only [sweepH_app, hm]
 refine K.seq (K.region ?_)
 refine KL.v rfl (Val.assign rfl) ?_
 refine KL.nil (KE.next (K.seq (K.region ?_)))
 refine KL.v rfl (Val.loadP rfl rfl (Sees.cell byTake rfl)) ?_
 refine KL.v rfl (Val.nilCheck rfl) ?_
 refine KL.v rfl (Val.fieldAddr0 (k := 2) rfl rfl) ?_
 refine KL.v rfl (Val.loadP rfl rfl (Sees.cell byTake rfl)) ?_
 refine KL.v rfl (Val.move rfl) ?_
 refine KL.callc rfl rfl byEvL fun T hT => ?_
 refine (CallV.part (CallV.fn (mkOf_K ok hc)) byPart).mono ?_
 rintro _ _ ⟨rfl, rfl⟩
 refine hT _ _ ?_; clear hT T
 refine KL.v rfl (Val.move rfl) ?_
 refine KL.v rfl (Val.extract rfl rfl) ?_
 refine KL.v rfl (Val.extract rfl rfl) ?_
 refine KL.v rfl (Val.assign rfl) ?_
 refine KL.v rfl (Val.assign rfl) ?_
 refine KL.nil (KE.next (K.seq (K.region ?_)))
 refine KL.v rfl (Val.move rfl) ?_
 refine KL.v rfl (Val.eql rfl rfl) ?_
 refine KL.v rfl (Val.assign rfl) ?_
 refine KL.nil (KE.next ?_)
 refine K.ret ?_
 exact KE.fin byMarks rfl byRes byPart ⟨rfl, rfl⟩
section
variable {w0 : World} {F : Heap} {s : SpM} {a : ArM} {B : BoM} {k : MkM} {x : List Int} {n : Nat}
theorem spStep_E (h : s.act = false ∨ s.at_ = s.d.bs.length) : Call Tryz.prog w0 18 [.pointer (some ⟨s.b, 0, none⟩)] (sweepH s ++ F) (fun r H' => r = .bool false ∧ H' = sweepH s ++ F) := by
 cases ha : s.act with
 | false =>
  refine Call.enter1 (n := 47) (by kernel_rfl) Tryz.func18 rfl rfl rfl ?_
  refine K.seq (K.region ?_)
  refine KL.e rfl (Eff.box rfl rfl) ?_; rintro _ _ ⟨b1, rfl, rfl⟩
  refine KL.v rfl (Val.assign rfl) ?_
  refine KL.nil (KE.next (K.seq (K.seq (K.region ?_))))
  refine KL.v rfl (Val.loadP rfl rfl (Sees.cell byTake rfl)) ?_
  refine KL.callc rfl rfl byEvL fun T hT => ?_
  refine (CallV.part (CallV.fn (spActive_K (s := s))) byPart).mono ?_
  rintro _ _ ⟨rfl, rfl⟩
  rw [ha]
  refine hT _ _ ?_; clear hT T
  refine KL.v rfl (Val.notF rfl) ?_
  refine KL.v rfl (Val.move rfl) ?_
  refine KL.skipG rfl rfl rfl ?_
  refine KL.skipG rfl rfl rfl ?_
  refine KL.v rfl (Val.pickT rfl rfl rfl) ?_
  refine KL.nil (KE.next (K.condT rfl (K.seq (K.region ?_))))
  refine KL.v rfl (Val.assign rfl) ?_
  refine KL.nil (KE.next ?_)
  refine K.ret ?_
  refine KE.passR ?_
  exact KE.fin byMarks rfl byRes byPart ⟨rfl, rfl⟩
 | true =>
  have hd : doneB s = true := by
   unfold doneB
   rw [ha, decide_eq_true (h.resolve_left (by rw [ha]; decide))]; rfl
  refine Call.enter1 (n := 47) (by kernel_rfl) Tryz.func18 rfl rfl rfl ?_
  refine K.seq (K.region ?_)
  refine KL.e rfl (Eff.box rfl rfl) ?_; rintro _ _ ⟨b1, rfl, rfl⟩
  refine KL.v rfl (Val.assign rfl) ?_
  refine KL.nil (KE.next (K.seq (K.seq (K.region ?_))))
  refine KL.v rfl (Val.loadP rfl rfl (Sees.cell byTake rfl)) ?_
  refine KL.callc rfl rfl byEvL fun T hT => ?_
  refine (CallV.part (CallV.fn (spActive_K (s := s))) byPart).mono ?_
  rintro _ _ ⟨rfl, rfl⟩
  rw [ha]
  refine hT _ _ ?_; clear hT T
  refine KL.v rfl (Val.notT rfl) ?_
  refine KL.v rfl (Val.move rfl) ?_
  refine KL.yes rfl rfl ?_; refine KL.v rfl (Val.loadP rfl rfl (Sees.cell byTake rfl)) ?_
  refine KL.yes rfl rfl ?_; refine KL.callc rfl rfl byEvL fun T hT => ?_
  refine (CallV.part (CallV.fn (spDone_K (s := s))) byPart).mono ?_
  rintro _ _ ⟨rfl, rfl⟩
  rw [hd]
  refine hT _ _ ?_; clear hT T
  refine KL.v rfl (Val.pickF rfl rfl rfl) ?_
  refine KL.nil (KE.next (K.condT rfl (K.seq (K.region ?_))))
  refine KL.v rfl (Val.assign rfl) ?_
  refine KL.nil (KE.next ?_)
  refine K.ret ?_
  refine KE.passR ?_
  exact KE.fin byMarks rfl byRes byPart ⟨rfl, rfl⟩
def goneC (a : ArM) (i : Nat) (c : Int) : Bool := (a.r.bs[i]?).getD false && decide (c = 0)
theorem spStep_K {y : SlotP} {c : Int} (ok : SpOk s B.p.g.slots) (oka : ArOk a B.p) (okB : BoOk B x) (okk : MkOk k B.p) (h1 : s.act = true) (hy : B.p.g.L[s.at_]? = some y) (hc : (tiC k.c)[s.at_]? = some c) (e1 : s.ab = a.b) (e2 : s.bb = B.b) (e3 : s.mb = k.b) :
  Call Tryz.prog w0 18 [.pointer (some ⟨s.b, 0, none⟩)] (sweepH s ++ (arenaH a B.p ++ (bodyH B ++ (memH B.m ++ (planH B.p ++ (markH k B.p ++ F))))))
   (fun r H' => r = .bool true ∧ H' = if goneC a s.at_ c = true then sweepH { s with d := setR s.d s.at_ true, at_ := s.at_ + 1 } ++ (arenaH a B.p ++ (bodyH B ++ (memH (putM B.m B.t (wipeP x y)) ++ (planH B.p ++ (markH k B.p ++ F))))) else sweepH { s with at_ := s.at_ + 1 } ++ (arenaH a B.p ++ (bodyH B ++ (memH B.m ++ (planH B.p ++ (markH k B.p ++ F)))))) := by
 have hil : s.at_ < B.p.g.slots := by rw [← L_len]; exact lt_of_get hy
 have hs16 := okB.p.g.slots.2
 have hdl : s.at_ < s.d.bs.length := by rw [ok.dn]; exact hil
 have hd : doneB s = false := by
  unfold doneB; rw [h1, decide_eq_false (by omega)]; rfl
 have okd := ok.d
 have he : ((s.at_ : Nat) : Int) + 1 = ((s.at_ + 1 : Nat) : Int) := by omega
 have hgb : getB a.r.bs (s.at_ : Nat) = (a.r.bs[s.at_]?).getD false := getB_in
 obtain ⟨v, hv⟩ : ∃ v, v = (a.r.bs[s.at_]?).getD false := ⟨_, rfl⟩
 have hgone : goneC a s.at_ c = (v && decide (c = 0)) := by unfold goneC; rw [hv]
 rw [← hv] at hgb
 obtain ⟨sb, sd, sat, sact, sab, sbb, smb⟩ := s
 dsimp only at e1 e2 e3 h1 hy hc hil hdl hd okd he hgb hv hgone ⊢
 subst e1 e2 e3 h1
 rw [hgone]
 refine Call.enter1 (n := 47) (by kernel_rfl) Tryz.func18 rfl rfl rfl ?_
 refine K.seq (K.region ?_)
 refine KL.e rfl (Eff.box rfl rfl) ?_; rintro _ _ ⟨b1, rfl, rfl⟩
 refine KL.v rfl (Val.assign rfl) ?_
 refine KL.nil (KE.next (K.seq (K.seq (K.region ?_))))
 refine KL.v rfl (Val.loadP rfl rfl (Sees.cell byTake rfl)) ?_
 refine KL.callc rfl rfl byEvL fun T hT => ?_
 refine (CallV.part (CallV.fn (spActive_K (s := ⟨sb, sd, sat, true, a.b, B.b, k.b⟩))) byPart).mono ?_
 rintro _ _ ⟨rfl, rfl⟩
 refine hT _ _ ?_; clear hT T
 refine KL.v rfl (Val.notT rfl) ?_
 refine KL.v rfl (Val.move rfl) ?_
 refine KL.yes rfl rfl ?_; refine KL.v rfl (Val.loadP rfl rfl (Sees.cell byTake rfl)) ?_
 refine KL.yes rfl rfl ?_; refine KL.callc rfl rfl byEvL fun T hT => ?_
 refine (CallV.part (CallV.fn (spDone_K (s := ⟨sb, sd, sat, true, a.b, B.b, k.b⟩))) byPart).mono ?_
 rintro _ _ ⟨rfl, rfl⟩
 rw [hd]
 refine hT _ _ ?_; clear hT T
 simp only [sweepH_app]
 refine KL.v rfl (Val.pickF rfl rfl rfl) ?_
 refine KL.nil (KE.next (K.condF rfl (K.skip (KE.next (K.seq (K.seq ?_))))))
 refine K.drawn _ [(0, 1), (1, 1), (2, 1), (3, 1), (4, 0), (5, 0), (6, 0), (7, 0), (8, 0), (9, 0), (10, 2), (11, 2)] (by kernel_rfl) (by kernel_rfl) (by kernel_rfl) (by kernel_rfl) (by kernel_rfl) (by kernel_rfl) Part.all ?_
 refine KD.v1 rfl rfl (Val.loadP rfl rfl (Sees.cell byTake rfl)) ?_
 refine KD.v1 rfl rfl (Val.nilCheck rfl) ?_
 refine KD.v1 rfl rfl (Val.fieldAddr0 (k := 4) rfl rfl) ?_
 refine KD.v1 rfl rfl (Val.loadP rfl rfl (Sees.cell byTake rfl)) ?_
 refine KD.v0 rfl rfl (Val.loadP rfl rfl (Sees.cell byTake rfl)) ?_
 refine KD.v0 rfl rfl (Val.nilCheck rfl) ?_
 refine KD.v0 rfl rfl (Val.fieldAddr0 (k := 0) rfl rfl) ?_
 refine KD.v0 rfl rfl (Val.loadP rfl rfl (Sees.cell byTake rfl)) ?_
 refine KD.v0 rfl rfl (Val.makeFunc byEvL byEvL) ?_
 refine KD.v0 rfl rfl (Val.makeFunc byEvL byEvL) ?_
 refine KD.e rfl rfl (Eff.buildS byParts rfl rfl rfl rfl rfl byFill) ?_; rintro _ _ ⟨b20, rfl, rfl⟩; refine ⟨byPart, ?_⟩
 refine KD.callc rfl rfl rfl byEvL fun T hT => ?_
 have hall : (List.range 2).all (fun i => if i = 0 then v else decide (c = 0)) = (v && decide (c = 0)) := by
  show (v && (decide (c = 0) && true)) = _
  rw [Bool.and_true]
 refine (CallV.part (CallV.fn (hold_K (H := (b20, cells [.func (.func 20) #[.pointer (some ⟨a.b, 0, none⟩)] #[], .func (.func 81) #[] #[.pointer (some ⟨b1, 0, none⟩)]] 59) :: (b1, cells [.pointer (some ⟨sb, 0, none⟩)] 31) :: (sweepH ⟨sb, sd, sat, true, a.b, B.b, k.b⟩ ++ (arenaH a B.p ++ (bodyH B ++ (memH B.m ++ (planH B.p ++ (markH k B.p ++ F)))))))
  (l := [⟨20, [.pointer (some ⟨a.b, 0, none⟩)], []⟩, ⟨81, [], [.pointer (some ⟨b1, 0, none⟩)]⟩]) (z := (sat : Nat)) (fun i => if i = 0 then v else decide (c = 0)) (Sli.blk byTake rfl (by simp) (by decide) rfl) (by simp) ?_)) (by simp only [sweepH_app]; exact byPart)).mono ?_
 ·intro i f hf
  match i, hf with
  | 0, hf =>
   cases hf
   refine CallV.bound (first := [.pointer (some ⟨a.b, 0, none⟩)]) ?_
   have h := Call.ro (w0 := w0) (A := arenaH a B.p) (H := (b20, cells [.func (.func 20) #[.pointer (some ⟨a.b, 0, none⟩)] #[], .func (.func 81) #[] #[.pointer (some ⟨b1, 0, none⟩)]] 59) :: (b1, cells [.pointer (some ⟨sb, 0, none⟩)] 31) :: (sweepH ⟨sb, sd, sat, true, a.b, B.b, k.b⟩ ++ (arenaH a B.p ++ (bodyH B ++ (memH B.m ++ (planH B.p ++ (markH k B.p ++ F))))))) (fun F => Has_K (F := F) (i := (sat : Nat)) oka) byPart
   rw [hgb] at h
   exact h
  | 1, hf =>
   cases hf
   refine CallV.clo (cap := [.pointer (some ⟨b1, 0, none⟩)]) ?_
   exact Call.ro (w0 := w0) (A := (b1, cells [.pointer (some ⟨sb, 0, none⟩)] 31) :: (sweepH ⟨sb, sd, sat, true, a.b, B.b, k.b⟩ ++ markH k B.p)) (fun F => by
    simp only [List.cons_append, List.append_assoc]
    exact step1_K (s := ⟨sb, sd, sat, true, a.b, B.b, k.b⟩) okk hc rfl) byPart
  | i + 2, hf => simp at hf
 ·rintro _ _ ⟨rfl, rfl⟩
  rw [show ([⟨20, [.pointer (some ⟨a.b, 0, none⟩)], []⟩, ⟨81, [], [.pointer (some ⟨b1, 0, none⟩)]⟩] : List FnP).length = 2 from rfl, hall]
  cases hg : (v && decide (c = 0)) with
  | true =>
   refine hT _ _ byPart ?_; clear hT T
   simp only [sweepH_app]
   refine KD.nil ?_
   refine KE.next (K.condT rfl (K.seq ?_))
   refine K.drawn [] [(0, 0), (1, 0), (2, 0), (3, 0), (4, 0), (5, 0), (6, 0), (7, 0), (8, 2)] (by kernel_rfl) (by kernel_rfl) (by kernel_rfl) (by kernel_rfl) (by kernel_rfl) (by kernel_rfl) Part.nil ?_
   refine KD.v0 rfl rfl (Val.loadP rfl rfl (Sees.cell byTake rfl)) ?_
   refine KD.v0 rfl rfl (Val.nilCheck rfl) ?_
   refine KD.v0 rfl rfl (Val.fieldAddr0 (k := 1) rfl rfl) ?_
   refine KD.v0 rfl rfl (Val.loadP rfl rfl (Sees.cell byTake rfl)) ?_
   refine KD.v0 rfl rfl (Val.loadP rfl rfl (Sees.cell byTake rfl)) ?_
   refine KD.v0 rfl rfl (Val.nilCheck rfl) ?_
   refine KD.v0 rfl rfl (Val.fieldAddr0 (k := 4) rfl rfl) ?_
   refine KD.v0 rfl rfl (Val.loadP rfl rfl (Sees.cell byTake rfl)) ?_
   refine KD.callc rfl rfl rfl byEvL fun T hT => ?_
   refine (CallV.part (CallV.fn (bWipe_K okB hy)) byPart).mono ?_
   rintro _ _ ⟨rfl, rfl⟩
   refine hT _ _ byPart ?_; clear hT T
   refine KD.nil ?_
   refine KE.next ?_
   refine K.drawn [] [(0, 0), (1, 0), (2, 0), (3, 0), (4, 0), (5, 0), (6, 0), (7, 0), (8, 2)] (by kernel_rfl) (by kernel_rfl) (by kernel_rfl) (by kernel_rfl) (by kernel_rfl) (by kernel_rfl) Part.nil ?_
   refine KD.v0 rfl rfl (Val.loadP rfl rfl (Sees.cell byTake rfl)) ?_
   refine KD.v0 rfl rfl (Val.nilCheck rfl) ?_
   refine KD.v0 rfl rfl (Val.fieldAddr0 (k := 3) rfl rfl) ?_
   refine KD.v0 rfl rfl (Val.loadP rfl rfl (Sees.cell byTake rfl)) ?_
   refine KD.v0 rfl rfl (Val.loadP rfl rfl (Sees.cell byTake rfl)) ?_
   refine KD.v0 rfl rfl (Val.nilCheck rfl) ?_
   refine KD.v0 rfl rfl (Val.fieldAddr0 (k := 4) rfl rfl) ?_
   refine KD.v0 rfl rfl (Val.loadP rfl rfl (Sees.cell byTake rfl)) ?_
   refine KD.callc rfl rfl rfl byEvL fun T hT => ?_
   refine (CallV.part (CallV.fn (Set_K (v := true) okd hdl)) byPart).mono ?_
   rintro _ _ ⟨rfl, rfl⟩
   refine hT _ _ byPart ?_; clear hT T
   refine KD.nil ?_
   refine KE.next (K.seq (K.region ?_))
   refine KL.v rfl (Val.loadP rfl rfl (Sees.cell byTake rfl)) ?_
   refine KL.v rfl (Val.nilCheck rfl) ?_
   refine KL.v rfl (Val.fieldAddr0 (k := 4) rfl rfl) ?_
   refine KL.v rfl (Val.loadP rfl rfl (Sees.cell byTake rfl)) ?_
   refine KL.v rfl (Val.add rfl rfl (by simp only [qL, qH]; omega)) ?_
   refine KL.v rfl (Val.nilCheck rfl) ?_
   refine KL.v rfl (Val.fieldAddr0 (k := 4) rfl rfl) ?_
   refine KL.eN (Eff.storeL rfl rfl byOne rfl byTake bySetAt) ?_; rintro _ _ rfl
   refine KL.nil (KE.next (K.seq (K.region ?_)))
   refine KL.v rfl (Val.assign rfl) ?_
   refine KL.nil (KE.next ?_)
   refine K.ret ?_
   rw [he, if_pos hg]
   exact KE.fin byMarks rfl byRes byPart ⟨rfl, rfl⟩
  | false =>
   refine hT _ _ byPart ?_; clear hT T
   simp only [sweepH_app]
   refine KD.nil ?_
   refine KE.next (K.condF rfl (K.skip (KE.next (K.seq (K.region ?_)))))
   refine KL.v rfl (Val.loadP rfl rfl (Sees.cell byTake rfl)) ?_
   refine KL.v rfl (Val.nilCheck rfl) ?_
   refine KL.v rfl (Val.fieldAddr0 (k := 4) rfl rfl) ?_
   refine KL.v rfl (Val.loadP rfl rfl (Sees.cell byTake rfl)) ?_
   refine KL.v rfl (Val.add rfl rfl (by simp only [qL, qH]; omega)) ?_
   refine KL.v rfl (Val.nilCheck rfl) ?_
   refine KL.v rfl (Val.fieldAddr0 (k := 4) rfl rfl) ?_
   refine KL.eN (Eff.storeL rfl rfl byOne rfl byTake bySetAt) ?_; rintro _ _ rfl
   refine KL.nil (KE.next (K.seq (K.region ?_)))
   refine KL.v rfl (Val.assign rfl) ?_
   refine KL.nil (KE.next ?_)
   refine K.ret ?_
   rw [he, if_neg (by rw [hg]; decide)]
   exact KE.fin byMarks rfl byRes byPart ⟨rfl, rfl⟩
end
open Go.RowKit
set_option maxRecDepth 10000
theorem spStop_E {w0 : World} {F : Heap} {s : SpM} (h : doneB s = false) : Call Tryz.prog w0 21 [.pointer (some ⟨s.b, 0, none⟩)] (sweepH s ++ F) (fun r H' => r = .tuple [.int .i64 0, .int .i64 9].toArray ∧ H' = sweepH s ++ F) := by
 refine Call.enter1 (n := 37) (by kernel_rfl) Tryz.func21 rfl rfl rfl ?_
 refine K.seq (K.region ?_)
 refine KL.v rfl (Val.assign rfl) ?_
 refine KL.v rfl (Val.assign rfl) ?_
 refine KL.nil (KE.next (K.seq (K.block (K.seq (K.region ?_)))))
 refine KL.v rfl (Val.move rfl) ?_
 refine KL.callc rfl rfl byEvL fun T hT => ?_
 refine (CallV.fn (spnone_K (s := s))).mono ?_
 rintro _ _ ⟨rfl, rfl⟩
 refine hT _ _ ?_; clear hT T
 refine KL.v rfl (Val.assign rfl) ?_
 refine KL.nil (KE.next (K.condF rfl (K.seq (K.region ?_))))
 refine KL.v rfl (Val.move rfl) ?_
 refine KL.callc rfl rfl byEvL fun T hT => ?_
 refine (CallV.fn (spDone_K (s := s))).mono ?_
 rintro _ _ ⟨rfl, rfl⟩
 rw [h]
 refine hT _ _ ?_; clear hT T
 refine KL.v rfl (Val.notF rfl) ?_
 refine KL.v rfl (Val.assign rfl) ?_
 refine KL.nil (KE.next (K.condT rfl (K.seq (K.region ?_))))
 refine KL.v rfl (Val.assign rfl) ?_
 refine KL.v rfl (Val.assign rfl) ?_
 refine KL.nil (KE.next ?_)
 refine K.ret ?_
 refine KE.blkR ?_
 refine KE.passR ?_
 exact KE.fin byMarks rfl byRes byPart ⟨rfl, rfl⟩
theorem spStop_K {w0 : World} {F : Heap} {s : SpM} {a : ArM} {p : PlanM} (hG : Glob w0) (ok : SpOk s p.g.slots) (oka : ArOk a p) (h : doneB s = true) (e1 : s.ab = a.b) : Call Tryz.prog w0 21 [.pointer (some ⟨s.b, 0, none⟩)] (sweepH s ++ (arenaH a p ++ (planH p ++ F)))
  (fun r H' => r = .tuple [.int .i64 (s.d.bs.count true : Nat), .int .i64 0].toArray ∧ ∃ (a' : ArM) (s' : SpM), ArOk a' p ∧ a'.b = a.b ∧ a'.r.b = a.r.b ∧ a'.r.bs = (giveAllP a.r.bs s.d.bs).2 ∧ SpOk s' p.g.slots ∧ s'.b = s.b ∧ s'.ab = s.ab ∧ s'.bb = s.bb ∧ s'.mb = s.mb ∧ s'.at_ = 0 ∧ s'.act = false ∧ s'.d.bs = List.replicate p.g.slots false ∧ H' = sweepH s' ++ (arenaH a' p ++ (planH p ++ F))) := by
 have okd := ok.d
 have hl : s.d.bs.length = a.r.bs.length := by rw [ok.dn, oka.n]
 have hdn := ok.dn
 obtain ⟨sb, sd, sat, sact, sab, sbb, smb⟩ := s
 dsimp only at e1 okd hl hdn ⊢
 subst e1
 refine Call.enter1 (n := 37) (by kernel_rfl) Tryz.func21 rfl rfl rfl ?_
 refine K.seq (K.region ?_)
 refine KL.v rfl (Val.assign rfl) ?_
 refine KL.v rfl (Val.assign rfl) ?_
 refine KL.nil (KE.next (K.seq (K.block (K.seq (K.region ?_)))))
 refine KL.v rfl (Val.move rfl) ?_
 refine KL.callc rfl rfl byEvL fun T hT => ?_
 refine (CallV.part (CallV.fn (spnone_K (s := ⟨sb, sd, sat, sact, a.b, sbb, smb⟩))) byPart).mono ?_
 rintro _ _ ⟨rfl, rfl⟩
 refine hT _ _ ?_; clear hT T
 refine KL.v rfl (Val.assign rfl) ?_
 refine KL.nil (KE.next (K.condF rfl (K.seq (K.region ?_))))
 refine KL.v rfl (Val.move rfl) ?_
 refine KL.callc rfl rfl byEvL fun T hT => ?_
 refine (CallV.part (CallV.fn (spDone_K (s := ⟨sb, sd, sat, sact, a.b, sbb, smb⟩))) byPart).mono ?_
 rintro _ _ ⟨rfl, rfl⟩
 rw [h]
 refine hT _ _ ?_; clear hT T
 simp only [sweepH_app]
 refine KL.v rfl (Val.notT rfl) ?_
 refine KL.v rfl (Val.assign rfl) ?_
 refine KL.nil (KE.next (K.condF rfl (K.skip ?_)))
 refine KE.blkN ?_
 refine KE.next (K.seq (K.region ?_))
 refine KL.v rfl (Val.move rfl) ?_
 refine KL.v rfl (Val.nilCheck rfl) ?_
 refine KL.v rfl (Val.fieldAddr0 (k := 3) rfl rfl) ?_
 refine KL.v rfl (Val.loadP rfl rfl (Sees.cell byTake rfl)) ?_
 refine KL.callc rfl rfl byEvL fun T hT => ?_
 refine (CallV.part (CallV.fn (Count_K okd)) byPart).mono ?_
 rintro _ _ ⟨rfl, rfl⟩
 refine hT _ _ ?_; clear hT T
 refine KL.v rfl (Val.assign rfl) ?_
 refine KL.nil (KE.next (K.seq ?_))
 refine K.drawn [] [(0, 0), (1, 0), (2, 0), (3, 0), (4, 0), (5, 0), (6, 0), (7, 0), (8, 2)] (by kernel_rfl) (by kernel_rfl) (by kernel_rfl) (by kernel_rfl) (by kernel_rfl) (by kernel_rfl) Part.nil ?_
 refine KD.v0 rfl rfl (Val.move rfl) ?_
 refine KD.v0 rfl rfl (Val.nilCheck rfl) ?_
 refine KD.v0 rfl rfl (Val.fieldAddr0 (k := 0) rfl rfl) ?_
 refine KD.v0 rfl rfl (Val.loadP rfl rfl (Sees.cell byTake rfl)) ?_
 refine KD.v0 rfl rfl (Val.move rfl) ?_
 refine KD.v0 rfl rfl (Val.nilCheck rfl) ?_
 refine KD.v0 rfl rfl (Val.fieldAddr0 (k := 3) rfl rfl) ?_
 refine KD.v0 rfl rfl (Val.loadP rfl rfl (Sees.cell byTake rfl)) ?_
 refine KD.callc rfl rfl rfl byEvL fun T hT => ?_
 refine (CallV.part (CallV.fn (GiveAll_K hG oka okd hl)) byPart).mono ?_
 rintro _ _ ⟨rfl, a', ka, ab, arb, abs, rfl⟩
 refine hT _ _ byPart ?_; clear hT T
 refine KD.nil ?_
 refine KE.next (K.seq (K.region ?_))
 refine KL.v rfl (Val.move rfl) ?_
 refine KL.v rfl (Val.nilCheck rfl) ?_
 refine KL.v rfl (Val.fieldAddr0 (k := 3) rfl rfl) ?_
 refine KL.v rfl (Val.loadP rfl rfl (Sees.cell byTake rfl)) ?_
 refine KL.callc rfl rfl byEvL fun T hT => ?_
 refine (CallV.part (CallV.fn (Clear_K okd)) byPart).mono ?_
 rintro _ _ ⟨rfl, r', kr, rb, rbs, rfl⟩
 refine hT _ _ ?_; clear hT T
 refine KL.nil (KE.next (K.seq (K.region ?_)))
 refine KL.v rfl (Val.move rfl) ?_
 refine KL.v rfl (Val.move rfl) ?_
 refine KL.v rfl (Val.nilCheck rfl) ?_
 refine KL.v rfl (Val.fieldAddr0 (k := 5) rfl rfl) ?_
 refine KL.eN (Eff.storeL rfl rfl byOne rfl byTake bySetAt) ?_; rintro _ _ rfl
 refine KL.v rfl (Val.nilCheck rfl) ?_
 refine KL.v rfl (Val.fieldAddr0 (k := 4) rfl rfl) ?_
 refine KL.eN (Eff.storeL rfl rfl byOne rfl byTake bySetAt) ?_; rintro _ _ rfl
 refine KL.nil (KE.next (K.seq (K.region ?_)))
 refine KL.v rfl (Val.move rfl) ?_
 refine KL.v rfl (Val.assign rfl) ?_
 refine KL.v rfl (Val.assign rfl) ?_
 refine KL.nil (KE.next ?_)
 refine K.ret ?_
 rw [hdn] at rbs
 rw [← rb]
 exact KE.fin (H' := sweepH ⟨sb, r', 0, false, a.b, sbb, smb⟩ ++ (arenaH a' p ++ (planH p ++ F))) byMarks rfl byRes (by simp only [sweepH_app]; exact byPart) ⟨rfl, a', ⟨sb, r', 0, false, a.b, sbb, smb⟩, ka, ab, arb, abs, ⟨kr, by simp [rbs], Nat.zero_le _⟩, rfl, rfl, rfl, rfl, rfl, rfl, rbs, by simp only [sweepH_app]⟩
theorem spNew_K {w0 : World} {F : Heap} {a : ArM} {B : BoM} {k : MkM} {x : List Int} (hG : Glob w0) (oka : ArOk a B.p) (okB : BoOk B x) (okk : MkOk k B.p) :
  Call Tryz.prog w0 23 [.pointer (some ⟨B.p.b, 0, none⟩), .pointer (some ⟨a.b, 0, none⟩), .pointer (some ⟨B.b, 0, none⟩), .pointer (some ⟨k.b, 0, none⟩)] (arenaH a B.p ++ (bodyH B ++ (memH B.m ++ (planH B.p ++ (markH k B.p ++ F)))))
   (fun r H' => ∃ s : SpM, SpOk s B.p.g.slots ∧ s.ab = a.b ∧ s.bb = B.b ∧ s.mb = k.b ∧ s.at_ = 0 ∧ s.act = false ∧ s.d.bs = List.replicate B.p.g.slots false ∧ r = .tuple [.pointer (some ⟨s.b, 0, none⟩), .int .i64 0].toArray ∧ H' = sweepH s ++ (arenaH a B.p ++ (bodyH B ++ (memH B.m ++ (planH B.p ++ (markH k B.p ++ F)))))) := by
 have okp := okB.p
 have hs := okp.g.slots
 obtain ⟨y, hy⟩ := L_ex (g := B.p.g) (i := 0) (by omega)
 have hne : ¬ ((B.p.g.slots : Nat) : Int) = 0 := by omega
 obtain ⟨cc, hcc⟩ := tiC_get okk (s := 0) (by omega)
 have hhead := fun A => Head_K (w0 := w0) (F := A) (s := 0) hG okB hy
 have hhv : ∃ c r w e, headV (headP x y) = .tuple [.agg [.int .i64 c, .int .i64 r, .int .i64 w].toArray, .int .i64 e].toArray ∧ e ≠ 1 := by
  unfold headV
  cases headP x y with
  | none => exact ⟨0, 0, 0, 5, rfl, by decide⟩
  | some h => exact ⟨h.c, h.r, h.w, 0, rfl, by decide⟩
 obtain ⟨c, r, w, e, hev, hen⟩ := hhv
 simp only [hev] at hhead
 have hen' : ¬ e = 1 := hen
 refine Call.enter4 (n := 55) (by kernel_rfl) Tryz.func23 rfl rfl rfl ?_
 refine K.seq (K.region ?_)
 refine KL.v rfl (Val.assign rfl) ?_
 refine KL.v rfl (Val.assign rfl) ?_
 refine KL.nil (KE.next (K.seq (K.region ?_)))
 refine KL.v rfl (Val.move rfl) ?_
 refine KL.callc rfl rfl byEvL fun T hT => ?_
 refine (CallV.part (CallV.fn (hhead _)) byPart).mono ?_
 rintro _ _ ⟨rfl, rfl⟩
 refine hT _ _ ?_; clear hT T
 refine KL.v rfl (Val.move rfl) ?_
 refine KL.v rfl (Val.extract rfl rfl) ?_
 refine KL.v rfl (Val.extract rfl rfl) ?_
 refine KL.e rfl (Eff.alloc rfl) ?_; rintro _ _ ⟨b10, rfl, rfl⟩
 refine KL.eN (Eff.storeAL rfl rfl rfl byTake byLay byOnes) ?_; rintro _ _ rfl
 refine KL.v rfl (Val.assign rfl) ?_
 refine KL.nil (KE.next (K.seq (K.region ?_)))
 refine KL.v rfl (Val.move rfl) ?_
 refine KL.callc rfl rfl byEvL fun T hT => ?_
 refine (CallV.part (CallV.fn (mkOf_K okk hcc)) byPart).mono ?_
 rintro _ _ ⟨rfl, rfl⟩
 refine hT _ _ ?_; clear hT T
 refine KL.v rfl (Val.move rfl) ?_
 refine KL.v rfl (Val.extract rfl rfl) ?_
 refine KL.v rfl (Val.extract rfl rfl) ?_
 refine KL.v rfl (Val.assign rfl) ?_
 refine KL.v rfl (Val.assign rfl) ?_
 refine KL.nil (KE.next (K.seq (K.seq (K.region ?_))))
 refine KL.v rfl (Val.move rfl) ?_
 refine KL.callc rfl rfl byEvL fun T hT => ?_
 refine (CallV.part (CallV.fn (Slots0_K okp)) byPart).mono ?_
 rintro _ _ ⟨rfl, rfl⟩
 refine hT _ _ ?_; clear hT T
 refine KL.v rfl (Val.isF (Val.eql rfl rfl) byLt) ?_
 refine KL.v rfl (Val.move rfl) ?_
 refine KL.yes rfl rfl ?_; refine KL.v rfl (Val.move rfl) ?_
 refine KL.yes rfl rfl ?_; refine KL.callc rfl rfl byEvL fun T hT => ?_
 refine (CallV.part (CallV.fn (aCopy_K oka)) byPart).mono ?_
 rintro _ _ ⟨a', _, _, rfl, rfl⟩
 refine hT _ _ ?_; clear hT T
 refine KL.yes rfl rfl ?_; refine KL.v rfl (Val.eqlPN rfl rfl rfl) ?_
 refine KL.v rfl (Val.pickF rfl rfl rfl) ?_
 refine KL.v rfl (Val.move rfl) ?_
 refine KL.yes rfl rfl ?_; refine KL.v rfl (Val.move rfl) ?_
 refine KL.yes rfl rfl ?_; refine KL.v rfl (Val.isF (Val.eql rfl rfl) byLt) ?_
 refine KL.v rfl (Val.pickF rfl rfl rfl) ?_
 refine KL.v rfl (Val.move rfl) ?_
 refine KL.yes rfl rfl ?_; refine KL.v rfl (Val.move rfl) ?_
 refine KL.yes rfl rfl ?_; refine KL.v rfl (Val.isF (Val.eql rfl rfl) byLt) ?_
 refine KL.v rfl (Val.pickF rfl rfl rfl) ?_
 refine KL.nil (KE.next (K.condF rfl (K.skip (KE.next (K.seq (K.region ?_))))))
 refine KL.v rfl (Val.move rfl) ?_
 refine KL.callc rfl rfl byEvL fun T hT => ?_
 refine (CallV.part (CallV.fn (Slots0_K okp)) byPart).mono ?_
 rintro _ _ ⟨rfl, rfl⟩
 refine hT _ _ ?_; clear hT T
 refine KL.callc rfl rfl byEvL fun T hT => ?_
 refine (CallV.fn (rNew_K (n := B.p.g.slots) (by omega))).mono ?_
 rintro _ _ ⟨rr, kr, hbs, rfl, rfl⟩
 refine hT _ _ ?_; clear hT T
 refine KL.v rfl (Val.move rfl) ?_
 refine KL.v rfl (Val.extract rfl rfl) ?_
 refine KL.v rfl (Val.extract rfl rfl) ?_
 refine KL.v rfl (Val.assign rfl) ?_
 refine KL.v rfl (Val.assign rfl) ?_
 refine KL.nil (KE.next (K.seq (K.region ?_)))
 refine KL.v rfl (Val.move rfl) ?_
 refine KL.v rfl (Val.move rfl) ?_
 refine KL.v rfl (Val.move rfl) ?_
 refine KL.v rfl (Val.move rfl) ?_
 refine KL.v rfl (Val.build byParts rfl rfl byFill) ?_
 refine KL.e rfl (Eff.box rfl rfl) ?_; rintro _ _ ⟨b53, rfl, rfl⟩
 refine KL.v rfl (Val.move rfl) ?_
 refine KL.v rfl (Val.assign rfl) ?_
 refine KL.v rfl (Val.assign rfl) ?_
 refine KL.nil (KE.next ?_)
 refine K.ret ?_
 exact KE.fin (H' := sweepH ⟨b53, rr, 0, false, a.b, B.b, k.b⟩ ++ (arenaH a B.p ++ (bodyH B ++ (memH B.m ++ (planH B.p ++ (markH k B.p ++ F)))))) byMarks rfl byRes (by simp only [sweepH_app]; exact byPart) ⟨⟨b53, rr, 0, false, a.b, B.b, k.b⟩, ⟨kr, by simp [hbs], Nat.zero_le _⟩, rfl, rfl, rfl, rfl, rfl, hbs, rfl, rfl⟩
end Go.Proofs.YtalholahapcpkaaGreatDoor.Sw
