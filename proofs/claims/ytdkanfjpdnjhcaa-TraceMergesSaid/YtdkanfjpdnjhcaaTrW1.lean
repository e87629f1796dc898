/- Trace: the bytes of what is seen: the program's, and the document's. -/
import Derived.Test.YtdkanfjpdnjhcaaTrM
import Derived.Test.YtdkanfjpdnjhcaaProg
import Derived.KernelRfl
namespace Go.Proofs.Ytdkanfjpdnjhcaa
open Go.RowKit
set_option linter.unusedVariables false
set_option linter.unusedSimpArgs false

def uE : Enc Int := ⟨fun z => [.int .u64 z], 1, fun _ => rfl, by intro x v hv; simp at hv; subst hv; rfl⟩
/-- the k-th of eight bytes, the highest first -/
def beAt (z : Int) (k : Nat) : Int := IntKind.u8.wrap (z.fdiv (2 ^ (min (8 * (7 - (k : Int))).toNat IntKind.u64.bits)))
def beI (z : Int) : List Int := (List.range 8).map (beAt z)
theorem wrap_u8 (z : Int) : IntKind.u8.wrap z = z % 256 := by simp [IntKind.wrap, IntKind.bits, IntKind.signed]
theorem toB_beI {z : Int} (h : 0 ≤ z) : toB (beI z) = be z.toNat := by
  obtain ⟨n, rfl⟩ := Int.eq_ofNat_of_zero_le h
  have key : ∀ d : Nat, UInt8.ofNat (IntKind.u8.wrap ((n : Int).fdiv (d : Nat))).toNat = UInt8.ofNat (n / d) := by
    intro d
    rw [wrap_u8, Int.fdiv_eq_ediv_of_nonneg _ (by omega)]
    rw [← Int.natCast_ediv]
    have : ((n / d : Nat) : Int) % 256 = ((n / d % 256 : Nat) : Int) := by omega
    rw [this, Int.toNat_natCast]
    apply UInt8.toNat.inj
    simp
  have k0 := key 72057594037927936; have k1 := key 281474976710656; have k2 := key 1099511627776; have k3 := key 4294967296
  have k4 := key 16777216; have k5 := key 65536; have k6 := key 256; have k7 := key 1
  rw [Nat.div_one] at k7
  simp only [toB, beI, List.map_map, List.range, List.range.loop, List.map_cons, List.map_nil, Function.comp, Int.toNat_natCast, be]
  refine congr (congrArg List.cons k0) (congr (congrArg List.cons k1) (congr (congrArg List.cons k2) (congr (congrArg List.cons k3) (congr (congrArg List.cons k4) (congr (congrArg List.cons k5) (congr (congrArg List.cons k6) (congr (congrArg List.cons k7) rfl)))))))

theorem take_snoc {α : Type} {l : List α} {k : Nat} {x : α} (h : l[k]? = some x) : l.take (k + 1) = l.take k ++ [x] := by rw [List.take_add_one, h]; rfl
theorem get_of_lt {α : Type} {l : List α} {k : Nat} (h : k < l.length) : ∃ x, l[k]? = some x := ⟨l[k], List.getElem?_eq_getElem h⟩
theorem lt_of_get {α : Type} {l : List α} {i : Nat} {x : α} (h : l[i]? = some x) : i < l.length := (List.getElem?_eq_some_iff.1 h).1

set_option maxRecDepth 10000 in
theorem put_K {w0 : World} {F : Heap} {o : Own} {bs : List Int} {g : Nat} {ns : List Int} (ok : oOk bE bs o) (hb : bs.length ≤ 100000) (hn : ns.length ≤ 100) :
    Call Try.prog w0 23 [oV o bs.length, .slice (some ⟨g, 0, none⟩) ns.length ns.length] (oH bE 5 bs o ++ ((g, cells (flat uE ns) 44) :: F))
      (fun r H' => ∃ o', oOk bE (bs ++ ns.flatMap beI) o' ∧ r = oV o' (bs ++ ns.flatMap beI).length ∧ H' = oH bE 5 (bs ++ ns.flatMap beI) o' ++ ((g, cells (flat uE ns) 44) :: F)) := by
  refine Call.enter (n := 29) [(0, oV o bs.length), (1, .slice (some ⟨g, 0, none⟩) ns.length ns.length)] (by kernel_rfl) Try.func23 rfl rfl rfl ⟨rfl, rfl, trivial⟩ ?_
  have hml : ns.length ≤ maxLen := by unfold maxLen; omega
  have hlen : ∀ k, ((ns.take k).flatMap beI).length = (ns.take k).length * 8 := by
    intro k
    induction ns.take k with
    | nil => rfl
    | cons z l ih => simp only [List.flatMap_cons, List.length_append, ih, List.length_cons, beI, List.length_map, List.length_range]; omega
  have hNs : ∀ (bs' : List Int) (o' : Own), Sli w0 (oH bE 5 bs' o' ++ ((g, cells (flat uE ns) 44) :: F)) uE (.slice (some ⟨g, 0, none⟩) ns.length ns.length) ns := fun bs' o' => Sli.blk (Take.app Take.head) rfl (Nat.le_refl _) hml rfl
  have hS0 := hNs bs o
  refine byCode ?_
  (refine KL.v rfl (Val.assign rfl) ?_)
  refine KL.nil ?_
  refine byCode ?_
  (refine KL.v rfl (Val.move rfl) ?_)
  (first | (refine KL.v rfl (Val.lenSl rfl rfl bySli) ?_) | (refine KL.v rfl (Val.lenS rfl rfl) ?_))
  (refine KL.v rfl (Val.move rfl) ?_)
  refine KL.nil ?_
  clear hS0
  refine byBlk ?_
  refine K.loop (σ := Nat × Own) (fun s => [(10, .int .i64 (s.1 : Nat)), (9, .int .i64 (ns.length : Nat)), (8, .slice (some ⟨g, 0, none⟩) ns.length ns.length), (0, oV s.2 (bs ++ (ns.take s.1).flatMap beI).length)])
    (fun s => oH bE 5 (bs ++ (ns.take s.1).flatMap beI) s.2 ++ ((g, cells (flat uE ns) 44) :: F)) (fun s => s.1 ≤ ns.length ∧ oOk bE (bs ++ (ns.take s.1).flatMap beI) s.2) (fun s => ns.length - s.1) (0, o) bySub (by
      have : bs ++ (ns.take 0).flatMap beI = bs := by simp
      dsimp only
      rw [this]
      exact Part.all) ⟨by simp, by simpa using ok⟩ ?_
  rintro ⟨i, o1⟩ ⟨hi, ok1⟩
  dsimp only at hi ok1 ⊢
  by_cases hlt : i < ns.length
  · obtain ⟨z, hz⟩ := get_of_lt hlt
    have hS1 := hNs (bs ++ (ns.take i).flatMap beI) o1
    have hl1 := hlen i
    have hl2 : (ns.take i).length ≤ 100 := by simp; omega
    refine byCode ?_
    (first | (refine KL.v rfl (Val.isT (Val.lss rfl rfl) byLt) ?_) | (refine KL.v rfl (Val.isF (Val.lss rfl rfl) byLt) ?_) | (refine KL.v rfl (Val.lss rfl rfl) ?_))
    refine KL.nil ?_
    refine byCode ?_
    refine K.seq (K.block ?_)
    refine byCode ?_
    (first | (refine KL.v rfl (Val.idxSl rfl rfl rfl bySli rfl byLt) ?_) | (refine KL.v rfl (Val.idxSlZ rfl rfl rfl bySli rfl (by omega)) ?_) | (refine KL.v rfl (Val.indexS1 rfl rfl rfl rfl (by omega)) ?_) | (refine KL.v rfl (Val.indexS rfl rfl rfl rfl (by omega)) ?_) | (refine KL.v rfl (Val.indexSO rfl rfl rfl rfl (by omega)) ?_) | (refine KL.v rfl (Val.indexSG rfl rfl rfl rfl (by omega)) ?_))
    (refine KL.v rfl (Val.loadP rfl rfl bySee) ?_)
    (refine KL.v rfl (Val.assign rfl) ?_)
    refine KL.nil ?_
    refine byCode ?_
    (refine KL.v rfl (Val.move rfl) ?_)
    refine KL.nil ?_
    clear hS1
    refine byBlk ?_
    refine K.loop (σ := Nat × Own) (fun s => [(14, .int .i64 (s.1 : Nat)), (6, .int .u64 z), (10, .int .i64 (i : Nat)), (9, .int .i64 (ns.length : Nat)), (8, .slice (some ⟨g, 0, none⟩) ns.length ns.length), (0, oV s.2 (bs ++ (ns.take i).flatMap beI ++ (List.range s.1).map (beAt z)).length)])
      (fun s => oH bE 5 (bs ++ (ns.take i).flatMap beI ++ (List.range s.1).map (beAt z)) s.2 ++ ((g, cells (flat uE ns) 44) :: F)) (fun s => s.1 ≤ 8 ∧ oOk bE (bs ++ (ns.take i).flatMap beI ++ (List.range s.1).map (beAt z)) s.2) (fun s => 8 - s.1) (0, o1) bySub (by
        dsimp only
        rw [show bs ++ (ns.take i).flatMap beI ++ (List.range 0).map (beAt z) = bs ++ (ns.take i).flatMap beI by simp]
        exact Part.all) ⟨by simp, by simpa using ok1⟩ ?_
    rintro ⟨k, o2⟩ ⟨hk, ok2⟩
    dsimp only at hk ok2 ⊢
    by_cases hk8 : k < 8
    · have hzl : (bs ++ (ns.take i).flatMap beI ++ (List.range (k + 1)).map (beAt z)).length ≤ 4294967296 := by
        rw [List.length_append, List.length_append, hl1]; simp; omega
      refine byCode ?_
      (first | (refine KL.v rfl (Val.isT (Val.lss rfl rfl) byLt) ?_) | (refine KL.v rfl (Val.isF (Val.lss rfl rfl) byLt) ?_) | (refine KL.v rfl (Val.lss rfl rfl) ?_))
      refine KL.nil ?_
      refine byCode ?_
      refine K.seq (K.block ?_)
      refine byCode ?_
      (refine KL.v rfl (Val.move rfl) ?_)
      (refine KL.v rfl (Val.assign rfl) ?_)
      refine KL.nil ?_
      refine byCode ?_
      (refine KL.v rfl (Val.move rfl) ?_)
      (refine KL.v rfl (Val.move rfl) ?_)
      (refine KL.v rfl (Val.move rfl) ?_)
      (first | (refine KL.v rfl (Val.sub rfl rfl (by simp only [Go.Proofs.Ytdkanfjpdnjhcaa.lo, Go.Proofs.Ytdkanfjpdnjhcaa.hi]; omega)) ?_) | (refine KL.v rfl (Val.subW rfl rfl) ?_))
      (first | (refine KL.v rfl (Val.mul rfl rfl (by simp only [Go.Proofs.Ytdkanfjpdnjhcaa.lo, Go.Proofs.Ytdkanfjpdnjhcaa.hi]; omega)) ?_) | (refine KL.v rfl (Val.mulW rfl rfl) ?_))
      (refine KL.v rfl (Val.shr rfl rfl (by omega)) ?_)
      (first | (refine KL.v rfl (Val.conv rfl rfl rfl (by simp only [Go.Proofs.Ytdkanfjpdnjhcaa.lo, Go.Proofs.Ytdkanfjpdnjhcaa.hi]; omega)) ?_) | (refine KL.v rfl (Val.convW rfl rfl rfl) ?_))
      (refine KL.e rfl (Eff.buildS byParts rfl rfl rfl rfl rfl byFill) ?_; rintro _ _ ⟨b24, rfl, rfl⟩)
      -- STOP at region 7 op 8: {"h": "Op.call", "a": [{"callee": {"h": "Callee.builtin", "a": ["Builtin.append"]}, "args": [{"h": "Operand.tmp", "a": [17]}, {"h": "Operand.tmp", "a": [24]}], "argTypes": [49, 49]}]}
      (refine KL.e rfl (Eff.appZ (E := bE) (xs := bs ++ (ns.take i).flatMap beI ++ (List.range k).map (beAt z)) (o := o2) (ys := [beAt z k]) (zs := bs ++ (ns.take i).flatMap beI ++ (List.range (k + 1)).map (beAt z)) rfl rfl rfl rfl rfl rfl byTakeL (by assumption) (by first | exact Sli.blk byTake rfl (by first | decide | simp) (by first | decide | (unfold maxLen; omega)) rfl | exact Sli.old (by assumption) | exact Sli.own byTakeL (by assumption) byLen | assumption | exact Sli.part (by assumption) byPart) (by rw [List.range_succ, List.map_append, List.append_assoc]; rfl) (by first | assumption | omega | (simp <;> fail) | (simp; omega)) rfl) ?_; rintro _ _ ⟨o', ok', rfl, rfl⟩)
      (refine KL.v rfl (Val.assign rfl) ?_)
      refine KL.nil ?_
      refine byCode ?_
      (first | (refine KL.v rfl (Val.add rfl rfl (by simp only [Go.Proofs.Ytdkanfjpdnjhcaa.lo, Go.Proofs.Ytdkanfjpdnjhcaa.hi]; omega)) ?_) | (refine KL.v rfl (Val.addW rfl rfl) ?_))
      (refine KL.v rfl (Val.move rfl) ?_)
      refine KL.nil ?_
      exact KE.again (k + 1, o') bySub byPart ⟨by show k + 1 ≤ 8; omega, ok'⟩ (by show 8 - (k + 1) < 8 - k; omega)
    · have : k = 8 := by omega
      subst this
      have e8 : bs ++ (ns.take i).flatMap beI ++ (List.range 8).map (beAt z) = bs ++ (ns.take (i + 1)).flatMap beI := by rw [take_snoc hz, List.flatMap_append, ← List.append_assoc]; simp [beI]
      rw [e8] at ok2 ⊢
      refine byCode ?_
      (first | (refine KL.v rfl (Val.isT (Val.lss rfl rfl) byLt) ?_) | (refine KL.v rfl (Val.isF (Val.lss rfl rfl) byLt) ?_) | (refine KL.v rfl (Val.lss rfl rfl) ?_))
      refine KL.nil ?_
      refine byCode ?_
      (first | (refine KL.v rfl (Val.add rfl rfl (by simp only [Go.Proofs.Ytdkanfjpdnjhcaa.lo, Go.Proofs.Ytdkanfjpdnjhcaa.hi]; omega)) ?_) | (refine KL.v rfl (Val.addW rfl rfl) ?_))
      (refine KL.v rfl (Val.move rfl) ?_)
      refine KL.nil ?_
      exact KE.again (i + 1, o2) bySub byPart ⟨by show i + 1 ≤ _; omega, ok2⟩ (by show ns.length - (i + 1) < ns.length - i; omega)
  · have : i = ns.length := by omega
    subst this
    rw [List.take_length] at ok1 ⊢
    refine byCode ?_
    (first | (refine KL.v rfl (Val.isT (Val.lss rfl rfl) byLt) ?_) | (refine KL.v rfl (Val.isF (Val.lss rfl rfl) byLt) ?_) | (refine KL.v rfl (Val.lss rfl rfl) ?_))
    refine KL.nil ?_
    refine byCode ?_
    (refine KL.v rfl (Val.move rfl) ?_)
    (refine KL.v rfl (Val.assign rfl) ?_)
    refine KL.nil ?_
    refine byCode ?_
    exact KE.fin byMarks rfl byRes byPart ⟨o1, ok1, rfl, rfl⟩

/-- the bytes of one, as numbers -/
def oneI (s : Seen) : List Int := [IntKind.u64.wrap s.e, s.h, s.w, IntKind.u64.wrap s.addr, IntKind.u64.wrap s.used, IntKind.u64.wrap s.since, IntKind.u64.wrap s.cycles].flatMap beI ++ [if s.active then 1 else 0]
theorem toB_app (a b : List Int) : toB (a ++ b) = toB a ++ toB b := by simp [toB]
theorem toB_oneI {s : Seen} (h : s.ok) : toB (oneI s) = oneB26 s := by
  obtain ⟨h1, h2, h3, h4, h5, h6, h7⟩ := h
  have c : ∀ z, toB (beI (IntKind.u64.wrap z)) = be (u64 z) := fun z => toB_beI (by rw [wrap_u64]; omega)
  have n1 : toB (beI s.h) = be (u64 s.h) := by rw [toB_beI h2.1]; congr 1; have := u64_nat h2; omega
  have n2 : toB (beI s.w) = be (u64 s.w) := by rw [toB_beI h3.1]; congr 1; have := u64_nat h3; omega
  unfold oneI oneB26
  simp only [List.flatMap_cons, List.flatMap_nil, List.append_nil, toB_app, c, n1, n2, List.append_assoc]
  cases s.active <;> rfl
theorem oneI_len (s : Seen) : (oneI s).length = 57 := by simp [oneI, beI]
def putI (l : List Seen) : List Int := l.flatMap oneI
theorem putI_len (l : List Seen) : (putI l).length = l.length * 57 := by
  induction l with
  | nil => rfl
  | cons x l ih => simp only [putI, List.flatMap_cons, List.length_append, oneI_len, List.length_cons] at ih ⊢; rw [ih]; omega
theorem toB_putI {l : List Seen} (h : ∀ x ∈ l, x.ok) : toB (putI l) = putB l := by
  induction l with
  | nil => rfl
  | cons x l ih =>
    show toB (oneI x ++ putI l) = oneB26 x ++ putB l
    rw [toB_app, toB_oneI (h x (.head _)), ih (fun y hy => h y (.tail _ hy))]

set_option maxRecDepth 10000 in
theorem Put_K {w0 : World} {v : Value} {l : List Seen} (hS : SlW w0 sE v l) (hl : l.length ≤ 300) (hok : ∀ x ∈ l, x.ok) :
    Call Try.prog w0 8 [v] [] (fun r H' => r = .string (strB (putB l)) ∧ H' = []) := by
  refine Call.enter (n := 44) [(0, v)] (by kernel_rfl) Try.func8 rfl rfl rfl ⟨rfl, trivial⟩ ?_
  refine byCode ?_
  (refine KL.v rfl (Val.assign rfl) ?_)
  refine KL.nil ?_
  refine byCode ?_
  (refine KL.v rfl (Val.assign rfl) ?_)
  refine KL.nil ?_
  refine byCode ?_
  (refine KL.v rfl (Val.move rfl) ?_)
  (first | (refine KL.v rfl (Val.lenSl rfl rfl bySli) ?_) | (refine KL.v rfl (Val.lenS rfl rfl) ?_))
  (refine KL.v rfl (Val.move rfl) ?_)
  refine KL.nil ?_
  refine byBlk ?_
  refine K.loop (σ := Nat × Own) (fun s => [(9, .int .i64 (s.1 : Nat)), (8, .int .i64 (l.length : Nat)), (7, v), (3, oV s.2 (putI (l.take s.1)).length)]) (fun s => oH bE 5 (putI (l.take s.1)) s.2 ++ [])
    (fun s => s.1 ≤ l.length ∧ oOk bE (putI (l.take s.1)) s.2) (fun s => l.length - s.1) (0, none) bySub byPart ⟨by simp, rfl⟩ ?_
  rintro ⟨k, o⟩ ⟨hk, ok⟩
  dsimp only at hk ok ⊢
  have hpl := putI_len (l.take k)
  have htk : (l.take k).length = k := by simp; omega
  by_cases hlt : k < l.length
  · obtain ⟨x, hx⟩ := get_of_lt hlt
    have hnext : putI (l.take k) ++ [IntKind.u64.wrap x.e, x.h, x.w, IntKind.u64.wrap x.addr, IntKind.u64.wrap x.used, IntKind.u64.wrap x.since, IntKind.u64.wrap x.cycles].flatMap beI ++ [if x.active then 1 else 0] = putI (l.take (k + 1)) := by
      rw [take_snoc hx]
      simp only [putI, List.flatMap_append, List.flatMap_singleton, oneI, List.append_assoc]
    have hnl : (putI (l.take (k + 1))).length = (k + 1) * 57 := by rw [putI_len]; simp; omega
    refine byCode ?_
    (first | (refine KL.v rfl (Val.isT (Val.lss rfl rfl) byLt) ?_) | (refine KL.v rfl (Val.isF (Val.lss rfl rfl) byLt) ?_) | (refine KL.v rfl (Val.lss rfl rfl) ?_))
    refine KL.nil ?_
    refine byCode ?_
    refine K.seq (K.block ?_)
    refine byCode ?_
    (first | (refine KL.v rfl (Val.idxSl rfl rfl rfl bySli rfl byLt) ?_) | (refine KL.v rfl (Val.idxSlZ rfl rfl rfl bySli rfl (by omega)) ?_) | (refine KL.v rfl (Val.indexS1 rfl rfl rfl rfl (by omega)) ?_) | (refine KL.v rfl (Val.indexS rfl rfl rfl rfl (by omega)) ?_) | (refine KL.v rfl (Val.indexSO rfl rfl rfl rfl (by omega)) ?_) | (refine KL.v rfl (Val.indexSG rfl rfl rfl rfl (by omega)) ?_))
    (first | (refine KL.v rfl (Val.loadAP rfl rfl rfl bySeeA) ?_) | (refine KL.v rfl (Val.loadA rfl rfl rfl bySeeN) ?_))
    (refine KL.e rfl (Eff.alloc rfl) ?_; rintro _ _ ⟨b5, rfl, rfl⟩)
    (first | (refine KL.eN (Eff.storeAL rfl rfl rfl byTake byLay byOnes) ?_; rintro _ _ rfl) | (refine KL.eN (Eff.stSlA rfl rfl rfl rfl byTakeL (by assumption) (by assumption)) ?_; rintro _ _ rfl))
    refine KL.nil ?_
    refine byCode ?_
    (refine KL.v rfl (Val.move rfl) ?_)
    (first | (refine KL.v rfl (Val.fieldSl rfl rfl) ?_) | (refine KL.v rfl (Val.fieldAddr0 rfl rfl) ?_) | (refine KL.v rfl (Val.fieldAddrZ rfl rfl) ?_) | (refine KL.v rfl (Val.fieldAddr rfl rfl) ?_))
    (refine KL.v rfl (Val.loadP rfl rfl bySee) ?_)
    refine KL.v rfl (Val.convW rfl rfl rfl) ?_
    (first | (refine KL.v rfl (Val.fieldSl rfl rfl) ?_) | (refine KL.v rfl (Val.fieldAddr0 rfl rfl) ?_) | (refine KL.v rfl (Val.fieldAddrZ rfl rfl) ?_) | (refine KL.v rfl (Val.fieldAddr rfl rfl) ?_))
    (refine KL.v rfl (Val.loadP rfl rfl bySee) ?_)
    (first | (refine KL.v rfl (Val.fieldSl rfl rfl) ?_) | (refine KL.v rfl (Val.fieldAddr0 rfl rfl) ?_) | (refine KL.v rfl (Val.fieldAddrZ rfl rfl) ?_) | (refine KL.v rfl (Val.fieldAddr rfl rfl) ?_))
    (refine KL.v rfl (Val.loadP rfl rfl bySee) ?_)
    (first | (refine KL.v rfl (Val.fieldSl rfl rfl) ?_) | (refine KL.v rfl (Val.fieldAddr0 rfl rfl) ?_) | (refine KL.v rfl (Val.fieldAddrZ rfl rfl) ?_) | (refine KL.v rfl (Val.fieldAddr rfl rfl) ?_))
    (refine KL.v rfl (Val.loadP rfl rfl bySee) ?_)
    refine KL.v rfl (Val.convW rfl rfl rfl) ?_
    (first | (refine KL.v rfl (Val.fieldSl rfl rfl) ?_) | (refine KL.v rfl (Val.fieldAddr0 rfl rfl) ?_) | (refine KL.v rfl (Val.fieldAddrZ rfl rfl) ?_) | (refine KL.v rfl (Val.fieldAddr rfl rfl) ?_))
    (refine KL.v rfl (Val.loadP rfl rfl bySee) ?_)
    refine KL.v rfl (Val.convW rfl rfl rfl) ?_
    (first | (refine KL.v rfl (Val.fieldSl rfl rfl) ?_) | (refine KL.v rfl (Val.fieldAddr0 rfl rfl) ?_) | (refine KL.v rfl (Val.fieldAddrZ rfl rfl) ?_) | (refine KL.v rfl (Val.fieldAddr rfl rfl) ?_))
    (refine KL.v rfl (Val.loadP rfl rfl bySee) ?_)
    refine KL.v rfl (Val.convW rfl rfl rfl) ?_
    (first | (refine KL.v rfl (Val.fieldSl rfl rfl) ?_) | (refine KL.v rfl (Val.fieldAddr0 rfl rfl) ?_) | (refine KL.v rfl (Val.fieldAddrZ rfl rfl) ?_) | (refine KL.v rfl (Val.fieldAddr rfl rfl) ?_))
    (refine KL.v rfl (Val.loadP rfl rfl bySee) ?_)
    refine KL.v rfl (Val.convW rfl rfl rfl) ?_
    (refine KL.e rfl (Eff.buildS byParts rfl rfl rfl rfl rfl byFill) ?_; rintro _ _ ⟨b33, rfl, rfl⟩)
    (refine KL.callc rfl rfl byEvL fun T hT => ?_)
    refine (CallV.part (CallV.fn (put_K (ns := [IntKind.u64.wrap x.e, x.h, x.w, IntKind.u64.wrap x.addr, IntKind.u64.wrap x.used, IntKind.u64.wrap x.since, IntKind.u64.wrap x.cycles]) ok (by omega) (by simp))) byPart).mono ?_
    rintro _ _ ⟨o2, ok2, rfl, rfl⟩
    refine hT _ _ ?_; clear hT; clear T
    (refine KL.v rfl (Val.assign rfl) ?_)
    refine KL.nil ?_
    refine byCode ?_
    (refine KL.v rfl (Val.assign rfl) ?_)
    refine KL.nil ?_
    refine byCode ?_
    (first | (refine KL.v rfl (Val.fieldSl rfl rfl) ?_) | (refine KL.v rfl (Val.fieldAddr0 rfl rfl) ?_) | (refine KL.v rfl (Val.fieldAddrZ rfl rfl) ?_) | (refine KL.v rfl (Val.fieldAddr rfl rfl) ?_))
    (refine KL.v rfl (Val.loadP rfl rfl bySee) ?_)
    refine KL.nil ?_
    ((repeat (refine KE.next ?_)); first | refine K.cond rfl (fun ha => ?_) (fun ha => ?_) | refine K.seq (K.cond rfl (fun ha => ?_) (fun ha => ?_)))
    · rw [ha] at hnext
      refine byCode ?_
      (refine KL.v rfl (Val.assign rfl) ?_)
      refine KL.nil ?_
      refine byCode ?_
      (refine KL.v rfl (Val.move rfl) ?_)
      (refine KL.v rfl (Val.move rfl) ?_)
      (refine KL.e rfl (Eff.buildS byParts rfl rfl rfl rfl rfl byFill) ?_; rintro _ _ ⟨b39, rfl, rfl⟩)
      -- STOP at region 9 op 3: {"h": "Op.call", "a": [{"callee": {"h": "Callee.builtin", "a": ["Builtin.append"]}, "args": [{"h": "Operand.tmp", "a": [37]}, {"h": "Operand.tmp", "a": [39]}], "argTypes": [49, 49]}]}
      (refine KL.e rfl (Eff.appZ (E := bE) (xs := putI (l.take k) ++ [IntKind.u64.wrap x.e, x.h, x.w, IntKind.u64.wrap x.addr, IntKind.u64.wrap x.used, IntKind.u64.wrap x.since, IntKind.u64.wrap x.cycles].flatMap beI) (o := o2) (ys := [1]) (zs := putI (l.take (k + 1))) rfl rfl rfl rfl rfl rfl byTakeL (by assumption) (by first | exact Sli.blk byTake rfl (by first | decide | simp) (by first | decide | (unfold maxLen; omega)) rfl | exact Sli.old (by assumption) | exact Sli.own byTakeL (by assumption) byLen | assumption | exact Sli.part (by assumption) byPart) (hnext) (by first | assumption | omega | (simp <;> fail) | (simp; omega)) rfl) ?_; rintro _ _ ⟨o', ok', rfl, rfl⟩)
      (refine KL.v rfl (Val.assign rfl) ?_)
      refine KL.nil ?_
      refine byCode ?_
      (first | (refine KL.v rfl (Val.add rfl rfl (by simp only [Go.Proofs.Ytdkanfjpdnjhcaa.lo, Go.Proofs.Ytdkanfjpdnjhcaa.hi]; omega)) ?_) | (refine KL.v rfl (Val.addW rfl rfl) ?_))
      (refine KL.v rfl (Val.move rfl) ?_)
      refine KL.nil ?_
      exact KE.again (k + 1, o') bySub byPart ⟨by show k + 1 ≤ _; omega, ok'⟩ (by show l.length - (k + 1) < l.length - k; omega)
    · rw [ha] at hnext
      refine byCode ?_
      (refine KL.v rfl (Val.move rfl) ?_)
      (refine KL.v rfl (Val.move rfl) ?_)
      (refine KL.e rfl (Eff.buildS byParts rfl rfl rfl rfl rfl byFill) ?_; rintro _ _ ⟨b39, rfl, rfl⟩)
      -- STOP at region 9 op 3: {"h": "Op.call", "a": [{"callee": {"h": "Callee.builtin", "a": ["Builtin.append"]}, "args": [{"h": "Operand.tmp", "a": [37]}, {"h": "Operand.tmp", "a": [39]}], "argTypes": [49, 49]}]}
      (refine KL.e rfl (Eff.appZ (E := bE) (xs := putI (l.take k) ++ [IntKind.u64.wrap x.e, x.h, x.w, IntKind.u64.wrap x.addr, IntKind.u64.wrap x.used, IntKind.u64.wrap x.since, IntKind.u64.wrap x.cycles].flatMap beI) (o := o2) (ys := [0]) (zs := putI (l.take (k + 1))) rfl rfl rfl rfl rfl rfl byTakeL (by assumption) (by first | exact Sli.blk byTake rfl (by first | decide | simp) (by first | decide | (unfold maxLen; omega)) rfl | exact Sli.old (by assumption) | exact Sli.own byTakeL (by assumption) byLen | assumption | exact Sli.part (by assumption) byPart) (hnext) (by first | assumption | omega | (simp <;> fail) | (simp; omega)) rfl) ?_; rintro _ _ ⟨o', ok', rfl, rfl⟩)
      (refine KL.v rfl (Val.assign rfl) ?_)
      refine KL.nil ?_
      refine byCode ?_
      (first | (refine KL.v rfl (Val.add rfl rfl (by simp only [Go.Proofs.Ytdkanfjpdnjhcaa.lo, Go.Proofs.Ytdkanfjpdnjhcaa.hi]; omega)) ?_) | (refine KL.v rfl (Val.addW rfl rfl) ?_))
      (refine KL.v rfl (Val.move rfl) ?_)
      refine KL.nil ?_
      exact KE.again (k + 1, o') bySub byPart ⟨by show k + 1 ≤ _; omega, ok'⟩ (by show l.length - (k + 1) < l.length - k; omega)
  · have : k = l.length := by omega
    subst this
    have hb := toB_putI hok
    refine byCode ?_
    (first | (refine KL.v rfl (Val.isT (Val.lss rfl rfl) byLt) ?_) | (refine KL.v rfl (Val.isF (Val.lss rfl rfl) byLt) ?_) | (refine KL.v rfl (Val.lss rfl rfl) ?_))
    refine KL.nil ?_
    refine byCode ?_
    (refine KL.v rfl (Val.move rfl) ?_)
    (refine KL.v rfl (Val.convBS rfl rfl rfl (by first | exact Sli.blk byTake rfl (by first | decide | simp) (by first | decide | (unfold maxLen; omega)) rfl | exact bySli)) ?_)
    (refine KL.v rfl (Val.assign rfl) ?_)
    refine KL.nil ?_
    refine byCode ?_
    exact KE.fin byMarks rfl byRes byPart ⟨by rw [List.take_length, hb]; rfl, rfl⟩
end Go.Proofs.Ytdkanfjpdnjhcaa
