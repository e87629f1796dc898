/- Trace: the document's bytes; where two lists differ. -/
import Derived.Test.YtdkanfjpdnjhcaaTrW1
namespace Go.Proofs.Ytdkanfjpdnjhcaa
open Go.RowKit
set_option linter.unusedVariables false
set_option linter.unusedSimpArgs false

theorem be_step (n i q : Nat) (hq : q = n / 256 ^ i) (hi : i < 8) : toB [((q : Nat) : Int) % 256] ++ (be n).drop (8 - i) = (be n).drop (8 - (i + 1)) := by
  subst hq
  have key : ∀ d : Nat, UInt8.ofNat (((d : Nat) : Int) % 256).toNat = UInt8.ofNat d := by
    intro d
    have : ((d : Nat) : Int) % 256 = ((d % 256 : Nat) : Int) := by omega
    rw [this, Int.toNat_natCast]
    apply UInt8.toNat.inj
    simp
  rcases (show i = 0 ∨ i = 1 ∨ i = 2 ∨ i = 3 ∨ i = 4 ∨ i = 5 ∨ i = 6 ∨ i = 7 by omega) with rfl | rfl | rfl | rfl | rfl | rfl | rfl | rfl <;>
    simp only [toB, be, List.map_cons, List.map_nil, key, Nat.reducePow, Nat.reduceSub, Nat.reduceAdd, List.drop_succ_cons, List.drop_zero, List.cons_append, List.nil_append, List.drop_nil, Nat.div_one]

set_option maxRecDepth 10000 in
theorem eight_K {w0 : World} {H : Heap} {z : Int} {n : Nat} (hz : z = (n : Nat)) (hn : n < 18446744073709551616) :
    Call Try.prog w0 37 [.int .u64 z] H (fun r H' => r = .string (strB (be n)) ∧ H' = H) := by
  subst hz
  refine Call.enter (n := 19) [(0, .int .u64 (n : Nat))] (by kernel_rfl) Try.func37 rfl rfl rfl ⟨rfl, trivial⟩ ?_
  refine byCode ?_
  (refine KL.v rfl (Val.assign rfl) ?_)
  refine KL.nil ?_
  refine byCode ?_
  (refine KL.v rfl (Val.assign rfl) ?_)
  refine KL.nil ?_
  refine byCode ?_
  (refine KL.v rfl (Val.assign rfl) ?_)
  refine KL.nil ?_
  refine byBlk ?_
  refine K.loop (σ := Nat × Nat) (fun s => [(4, .int .i64 (s.1 : Nat)), (0, .int .u64 (s.2 : Nat)), (3, .string (strB ((be n).drop (8 - s.1))))]) (fun _ => H)
    (fun s => s.1 ≤ 8 ∧ s.2 = n / 256 ^ s.1) (fun s => 8 - s.1) (0, n) ⟨⟨_, rfl, rfl⟩, ⟨_, rfl, rfl⟩, ⟨_, rfl, rfl⟩, trivial⟩ byPart ⟨by simp, by simp⟩ ?_
  rintro ⟨i, q⟩ ⟨hi8, hq⟩
  dsimp only at hi8 hq ⊢
  by_cases hlt : i < 8
  · have hst := be_step n i q hq hlt
    have hq' : q / 256 = n / 256 ^ (i + 1) := by rw [hq, Nat.pow_succ, ← Nat.div_div_eq_div_mul]
    have hb : q ≤ n := by rw [hq]; exact Nat.div_le_self _ _
    have hl : ((be n).drop (8 - i)).length ≤ 8 := by rw [List.length_drop]; have := be_len n; omega
    clear hq
    refine byCode ?_
    (refine KL.v rfl (Val.move rfl) ?_)
    (first | (refine KL.v rfl (Val.isT (Val.lss rfl rfl) byLt) ?_) | (refine KL.v rfl (Val.isF (Val.lss rfl rfl) byLt) ?_) | (refine KL.v rfl (Val.lss rfl rfl) ?_))
    refine KL.nil ?_
    refine byCode ?_
    refine K.seq (K.block ?_)
    refine byCode ?_
    (refine KL.v rfl (Val.move rfl) ?_)
    (first | (refine KL.v rfl (Val.remN rfl rfl (by omega)) ?_) | (refine KL.v rfl (Val.rem rfl rfl (by omega)) ?_))
    (first | (refine KL.v rfl (Val.conv rfl rfl rfl (by simp only [Go.Proofs.Ytdkanfjpdnjhcaa.lo, Go.Proofs.Ytdkanfjpdnjhcaa.hi]; omega)) ?_) | (refine KL.v rfl (Val.convW rfl rfl rfl) ?_))
    (refine KL.e rfl (Eff.buildS byParts rfl rfl rfl rfl rfl byFill) ?_; rintro _ _ ⟨b12, rfl, rfl⟩)
    refine KL.v rfl (Val.convBS (l := [((q : Nat) : Int) % 256]) rfl rfl rfl (Sli.blk byTake rfl (by simp) (by decide) rfl)) ?_
    (refine KL.v rfl (Val.move rfl) ?_)
    refine KL.v rfl (Val.addB rfl rfl (by simp only [toB, List.map_cons, List.map_nil, List.length_cons, List.length_nil]; omega)) ?_
    rw [hst]
    (refine KL.v rfl (Val.assign rfl) ?_)
    refine KL.nil ?_
    refine byCode ?_
    (refine KL.v rfl (Val.move rfl) ?_)
    (first | (refine KL.v rfl (Val.quoN rfl rfl (by simp only [Go.Proofs.Ytdkanfjpdnjhcaa.lo, Go.Proofs.Ytdkanfjpdnjhcaa.hi]; omega)) ?_) | (refine KL.v rfl (Val.quo rfl rfl (by omega)) ?_))
    (refine KL.v rfl (Val.assign rfl) ?_)
    refine KL.nil ?_
    refine byCode ?_
    (refine KL.v rfl (Val.move rfl) ?_)
    (first | (refine KL.v rfl (Val.add rfl rfl (by simp only [Go.Proofs.Ytdkanfjpdnjhcaa.lo, Go.Proofs.Ytdkanfjpdnjhcaa.hi]; omega)) ?_) | (refine KL.v rfl (Val.addW rfl rfl) ?_))
    (refine KL.v rfl (Val.assign rfl) ?_)
    refine KL.nil ?_
    exact KE.again (i + 1, q / 256) bySub byPart ⟨by show i + 1 ≤ 8; omega, hq'⟩ (by show 8 - (i + 1) < 8 - i; omega)
  · have : i = 8 := by omega
    subst this
    refine byCode ?_
    (refine KL.v rfl (Val.move rfl) ?_)
    (first | (refine KL.v rfl (Val.isT (Val.lss rfl rfl) byLt) ?_) | (refine KL.v rfl (Val.isF (Val.lss rfl rfl) byLt) ?_) | (refine KL.v rfl (Val.lss rfl rfl) ?_))
    refine KL.nil ?_
    refine byCode ?_
    (refine KL.v rfl (Val.move rfl) ?_)
    (refine KL.v rfl (Val.assign rfl) ?_)
    refine KL.nil ?_
    refine byCode ?_
    exact KE.fin byMarks rfl byRes byPart ⟨rfl, rfl⟩

set_option maxRecDepth 10000 in
theorem One_K {w0 : World} {H : Heap} {s : Seen} (hok : s.ok) :
    Call Try.prog w0 26 [.agg (scell s).toArray] H (fun r H' => r = .string (strB (oneB26 s)) ∧ H' = H) := by
  refine Call.enter (n := 42) [(0, .agg (scell s).toArray)] (by kernel_rfl) Try.func26 rfl rfl rfl ⟨rfl, trivial⟩ ?_
  obtain ⟨h1, h2, h3, h4, h5, h6, h7⟩ := hok
  have c : ∀ z, IntKind.u64.wrap z = ((u64 z : Nat) : Int) := fun z => (u64_cast z).symm
  have l0 := be_len (u64 s.e)
  have l1 := be_len (u64 s.h)
  have l2 := be_len (u64 s.w)
  have l3 := be_len (u64 s.addr)
  have l4 := be_len (u64 s.used)
  have l5 := be_len (u64 s.since)
  have l6 := be_len (u64 s.cycles)
  refine byCode ?_
  (refine KL.e rfl (Eff.box rfl rfl) ?_; rintro _ _ ⟨b1, rfl, rfl⟩)
  (refine KL.v rfl (Val.assign rfl) ?_)
  refine KL.nil ?_
  refine byCodeD ?_
  (first | refine K.seq (K.drawn _ ((0, 0) :: (1, 0) :: (2, 0) :: (4, 1) :: (5, 1) :: (8, 1) :: (9, 1) :: (12, 1) :: (13, 1) :: (14, 1) :: (17, 1) :: (18, 1) :: (19, 1) :: (22, 1) :: (23, 1) :: (24, 1) :: (27, 1) :: (28, 1) :: (29, 1) :: (3, 2) :: (6, 2) :: (7, 1) :: (10, 2) :: (11, 1) :: (15, 2) :: (16, 1) :: (20, 2) :: (21, 1) :: (25, 2) :: (26, 1) :: (30, 2) :: (31, 0) :: (32, 0) :: []) (by kernel_rfl) (by kernel_rfl) (by kernel_rfl) (by kernel_rfl) (by kernel_rfl) (by kernel_rfl) Part.all ?_) | refine K.seq (K.seq (K.drawn _ ((0, 0) :: (1, 0) :: (2, 0) :: (4, 1) :: (5, 1) :: (8, 1) :: (9, 1) :: (12, 1) :: (13, 1) :: (14, 1) :: (17, 1) :: (18, 1) :: (19, 1) :: (22, 1) :: (23, 1) :: (24, 1) :: (27, 1) :: (28, 1) :: (29, 1) :: (3, 2) :: (6, 2) :: (7, 1) :: (10, 2) :: (11, 1) :: (15, 2) :: (16, 1) :: (20, 2) :: (21, 1) :: (25, 2) :: (26, 1) :: (30, 2) :: (31, 0) :: (32, 0) :: []) (by kernel_rfl) (by kernel_rfl) (by kernel_rfl) (by kernel_rfl) (by kernel_rfl) (by kernel_rfl) Part.all ?_)) | refine K.drawn _ ((0, 0) :: (1, 0) :: (2, 0) :: (4, 1) :: (5, 1) :: (8, 1) :: (9, 1) :: (12, 1) :: (13, 1) :: (14, 1) :: (17, 1) :: (18, 1) :: (19, 1) :: (22, 1) :: (23, 1) :: (24, 1) :: (27, 1) :: (28, 1) :: (29, 1) :: (3, 2) :: (6, 2) :: (7, 1) :: (10, 2) :: (11, 1) :: (15, 2) :: (16, 1) :: (20, 2) :: (21, 1) :: (25, 2) :: (26, 1) :: (30, 2) :: (31, 0) :: (32, 0) :: []) (by kernel_rfl) (by kernel_rfl) (by kernel_rfl) (by kernel_rfl) (by kernel_rfl) (by kernel_rfl) Part.all ?_)
  (first | refine KD.v0 rfl rfl (Val.fieldSl rfl rfl) ?_ | refine KD.v0 rfl rfl (Val.fieldAddr0 rfl rfl) ?_ | refine KD.v0 rfl rfl (Val.fieldAddrZ rfl rfl) ?_ | refine KD.v0 rfl rfl (Val.fieldAddr rfl rfl) ?_)
  refine KD.v0 rfl rfl (Val.loadP rfl rfl bySee) ?_
  (first | refine KD.v0 rfl rfl (Val.conv rfl rfl rfl (by simp only [Go.Proofs.Ytdkanfjpdnjhcaa.lo, Go.Proofs.Ytdkanfjpdnjhcaa.hi]; omega)) ?_ | refine KD.v0 rfl rfl (Val.convW rfl rfl rfl) ?_)
  (first | refine KD.v1 rfl rfl (Val.fieldSl rfl rfl) ?_ | refine KD.v1 rfl rfl (Val.fieldAddr0 rfl rfl) ?_ | refine KD.v1 rfl rfl (Val.fieldAddrZ rfl rfl) ?_ | refine KD.v1 rfl rfl (Val.fieldAddr rfl rfl) ?_)
  refine KD.v1 rfl rfl (Val.loadP rfl rfl bySee) ?_
  (first | refine KD.v1 rfl rfl (Val.fieldSl rfl rfl) ?_ | refine KD.v1 rfl rfl (Val.fieldAddr0 rfl rfl) ?_ | refine KD.v1 rfl rfl (Val.fieldAddrZ rfl rfl) ?_ | refine KD.v1 rfl rfl (Val.fieldAddr rfl rfl) ?_)
  refine KD.v1 rfl rfl (Val.loadP rfl rfl bySee) ?_
  (first | refine KD.v1 rfl rfl (Val.fieldSl rfl rfl) ?_ | refine KD.v1 rfl rfl (Val.fieldAddr0 rfl rfl) ?_ | refine KD.v1 rfl rfl (Val.fieldAddrZ rfl rfl) ?_ | refine KD.v1 rfl rfl (Val.fieldAddr rfl rfl) ?_)
  refine KD.v1 rfl rfl (Val.loadP rfl rfl bySee) ?_
  (first | refine KD.v1 rfl rfl (Val.conv rfl rfl rfl (by simp only [Go.Proofs.Ytdkanfjpdnjhcaa.lo, Go.Proofs.Ytdkanfjpdnjhcaa.hi]; omega)) ?_ | refine KD.v1 rfl rfl (Val.convW rfl rfl rfl) ?_)
  (first | refine KD.v1 rfl rfl (Val.fieldSl rfl rfl) ?_ | refine KD.v1 rfl rfl (Val.fieldAddr0 rfl rfl) ?_ | refine KD.v1 rfl rfl (Val.fieldAddrZ rfl rfl) ?_ | refine KD.v1 rfl rfl (Val.fieldAddr rfl rfl) ?_)
  refine KD.v1 rfl rfl (Val.loadP rfl rfl bySee) ?_
  (first | refine KD.v1 rfl rfl (Val.conv rfl rfl rfl (by simp only [Go.Proofs.Ytdkanfjpdnjhcaa.lo, Go.Proofs.Ytdkanfjpdnjhcaa.hi]; omega)) ?_ | refine KD.v1 rfl rfl (Val.convW rfl rfl rfl) ?_)
  (first | refine KD.v1 rfl rfl (Val.fieldSl rfl rfl) ?_ | refine KD.v1 rfl rfl (Val.fieldAddr0 rfl rfl) ?_ | refine KD.v1 rfl rfl (Val.fieldAddrZ rfl rfl) ?_ | refine KD.v1 rfl rfl (Val.fieldAddr rfl rfl) ?_)
  refine KD.v1 rfl rfl (Val.loadP rfl rfl bySee) ?_
  (first | refine KD.v1 rfl rfl (Val.conv rfl rfl rfl (by simp only [Go.Proofs.Ytdkanfjpdnjhcaa.lo, Go.Proofs.Ytdkanfjpdnjhcaa.hi]; omega)) ?_ | refine KD.v1 rfl rfl (Val.convW rfl rfl rfl) ?_)
  (first | refine KD.v1 rfl rfl (Val.fieldSl rfl rfl) ?_ | refine KD.v1 rfl rfl (Val.fieldAddr0 rfl rfl) ?_ | refine KD.v1 rfl rfl (Val.fieldAddrZ rfl rfl) ?_ | refine KD.v1 rfl rfl (Val.fieldAddr rfl rfl) ?_)
  refine KD.v1 rfl rfl (Val.loadP rfl rfl bySee) ?_
  (first | refine KD.v1 rfl rfl (Val.conv rfl rfl rfl (by simp only [Go.Proofs.Ytdkanfjpdnjhcaa.lo, Go.Proofs.Ytdkanfjpdnjhcaa.hi]; omega)) ?_ | refine KD.v1 rfl rfl (Val.convW rfl rfl rfl) ?_)
  refine KD.callc rfl rfl rfl byEvL fun T hT => ?_
  refine (CallV.fn (eight_K (c _) (u64_lt _))).mono ?_
  rintro _ _ ⟨rfl, rfl⟩
  refine hT _ _ byPart ?_; clear hT; clear T
  refine KD.callc rfl rfl rfl byEvL fun T hT => ?_
  refine (CallV.fn (eight_K (u64_nat h2).symm (u64_lt _))).mono ?_
  rintro _ _ ⟨rfl, rfl⟩
  refine hT _ _ byPart ?_; clear hT; clear T
  refine KD.v1 rfl rfl (Val.addB rfl rfl (by first | assumption | omega | (simp only [List.length_append, List.length_cons, List.length_nil]; omega) | (simp; omega))) ?_
  refine KD.callc rfl rfl rfl byEvL fun T hT => ?_
  refine (CallV.fn (eight_K ((u64_nat h3).symm) (u64_lt _))).mono ?_
  rintro _ _ ⟨rfl, rfl⟩
  refine hT _ _ byPart ?_; clear hT; clear T
  refine KD.v1 rfl rfl (Val.addB rfl rfl (by first | assumption | omega | (simp only [List.length_append, List.length_cons, List.length_nil]; omega) | (simp; omega))) ?_
  refine KD.callc rfl rfl rfl byEvL fun T hT => ?_
  refine (CallV.fn (eight_K (c _) (u64_lt _))).mono ?_
  rintro _ _ ⟨rfl, rfl⟩
  refine hT _ _ byPart ?_; clear hT; clear T
  refine KD.v1 rfl rfl (Val.addB rfl rfl (by first | assumption | omega | (simp only [List.length_append, List.length_cons, List.length_nil]; omega) | (simp; omega))) ?_
  refine KD.callc rfl rfl rfl byEvL fun T hT => ?_
  refine (CallV.fn (eight_K (c _) (u64_lt _))).mono ?_
  rintro _ _ ⟨rfl, rfl⟩
  refine hT _ _ byPart ?_; clear hT; clear T
  refine KD.v1 rfl rfl (Val.addB rfl rfl (by first | assumption | omega | (simp only [List.length_append, List.length_cons, List.length_nil]; omega) | (simp; omega))) ?_
  refine KD.callc rfl rfl rfl byEvL fun T hT => ?_
  refine (CallV.fn (eight_K (c _) (u64_lt _))).mono ?_
  rintro _ _ ⟨rfl, rfl⟩
  refine hT _ _ byPart ?_; clear hT; clear T
  refine KD.v1 rfl rfl (Val.addB rfl rfl (by first | assumption | omega | (simp only [List.length_append, List.length_cons, List.length_nil]; omega) | (simp; omega))) ?_
  refine KD.callc rfl rfl rfl byEvL fun T hT => ?_
  refine (CallV.fn (eight_K (c _) (u64_lt _))).mono ?_
  rintro _ _ ⟨rfl, rfl⟩
  refine hT _ _ byPart ?_; clear hT; clear T
  refine KD.v0 rfl rfl (Val.addB rfl rfl (by first | assumption | omega | (simp only [List.length_append, List.length_cons, List.length_nil]; omega) | (simp; omega))) ?_
  refine KD.v0 rfl rfl (Val.assign rfl) ?_
  refine KD.nil ?_
  refine byCode ?_
  (first | (refine KL.v rfl (Val.fieldSl rfl rfl) ?_) | (refine KL.v rfl (Val.fieldAddr0 rfl rfl) ?_) | (refine KL.v rfl (Val.fieldAddrZ rfl rfl) ?_) | (refine KL.v rfl (Val.fieldAddr rfl rfl) ?_))
  (refine KL.v rfl (Val.loadP rfl rfl bySee) ?_)
  refine KL.nil ?_
  have hone : oneB26 s = be (u64 s.e) ++ be (u64 s.h) ++ be (u64 s.w) ++ be (u64 s.addr) ++ be (u64 s.used) ++ be (u64 s.since) ++ be (u64 s.cycles) ++ [if s.active then 1 else 0] := rfl
  rw [hone]
  ((repeat (refine KE.next ?_)); first | refine K.cond rfl (fun ha => ?_) (fun ha => ?_) | refine K.seq (K.cond rfl (fun ha => ?_) (fun ha => ?_)))
  · rw [ha]
    refine byCode ?_
    (refine KL.v rfl (Val.move rfl) ?_)
    (refine KL.v rfl (Val.addB rfl rfl (by first | assumption | omega | (simp only [List.length_append, List.length_cons, List.length_nil]; omega) | (simp; omega))) ?_)
    (refine KL.v rfl (Val.assign rfl) ?_)
    refine KL.nil ?_
    refine byCode ?_
    exact KE.fin byMarks rfl byRes byPart ⟨rfl, rfl⟩
  · rw [ha]
    refine byCode ?_
    (refine KL.v rfl (Val.move rfl) ?_)
    (refine KL.v rfl (Val.addB rfl rfl (by first | assumption | omega | (simp only [List.length_append, List.length_cons, List.length_nil]; omega) | (simp; omega))) ?_)
    (refine KL.v rfl (Val.assign rfl) ?_)
    refine KL.nil ?_
    refine byCode ?_
    exact KE.fin byMarks rfl byRes byPart ⟨rfl, rfl⟩

set_option maxRecDepth 10000 in
theorem rPut_K {w0 : World} {H : Heap} {v : Value} {l : List Seen} (hS : SlW w0 sE v l) (hl : l.length ≤ 300) (hok : ∀ x ∈ l, x.ok) :
    Call Try.prog w0 11 [v] H (fun r H' => r = .string (strB (putB l)) ∧ H' = H) := by
  refine Call.enter (n := 19) [(0, v)] (by kernel_rfl) Try.func11 rfl rfl rfl ⟨rfl, trivial⟩ ?_
  refine byCode ?_
  (refine KL.v rfl (Val.assign rfl) ?_)
  refine KL.nil ?_
  refine byCode ?_
  (refine KL.v rfl (Val.assign rfl) ?_)
  refine KL.nil ?_
  refine byCode ?_
  (refine KL.v rfl (Val.assign rfl) ?_)
  refine KL.nil ?_
  refine byBlk ?_
  refine K.loop (σ := Nat) (fun k => [(4, .int .i64 (k : Nat)), (0, v), (3, .string (strB (putB (l.take k))))]) (fun _ => H) (fun k => k ≤ l.length) (fun k => l.length - k) 0 bySub byPart (by omega) ?_
  intro k hk
  by_cases hlt : k < l.length
  · obtain ⟨x, hx⟩ := get_of_lt hlt
    have hxo := hok x (List.mem_of_getElem? hx)
    have hl1 := putB_len (l.take k)
    have hl2 : (l.take k).length = k := by simp; omega
    have hl3 := oneB26_len x
    have hnx : putB (l.take k) ++ oneB26 x = putB (l.take (k + 1)) := by rw [take_snoc hx]; simp [putB]
    refine byCode ?_
    (refine KL.v rfl (Val.move rfl) ?_)
    (refine KL.v rfl (Val.move rfl) ?_)
    (first | (refine KL.v rfl (Val.lenSl rfl rfl bySli) ?_) | (refine KL.v rfl (Val.lenS rfl rfl) ?_))
    (first | (refine KL.v rfl (Val.isT (Val.lss rfl rfl) byLt) ?_) | (refine KL.v rfl (Val.isF (Val.lss rfl rfl) byLt) ?_) | (refine KL.v rfl (Val.lss rfl rfl) ?_))
    refine KL.nil ?_
    refine byCode ?_
    refine K.seq (K.block ?_)
    refine byCode ?_
    (refine KL.v rfl (Val.move rfl) ?_)
    (refine KL.v rfl (Val.move rfl) ?_)
    (refine KL.v rfl (Val.move rfl) ?_)
    (first | (refine KL.v rfl (Val.idxSl rfl rfl rfl bySli rfl byLt) ?_) | (refine KL.v rfl (Val.idxSlZ rfl rfl rfl bySli rfl (by omega)) ?_) | (refine KL.v rfl (Val.indexS1 rfl rfl rfl rfl (by omega)) ?_) | (refine KL.v rfl (Val.indexS rfl rfl rfl rfl (by omega)) ?_) | (refine KL.v rfl (Val.indexSO rfl rfl rfl rfl (by omega)) ?_) | (refine KL.v rfl (Val.indexSG rfl rfl rfl rfl (by omega)) ?_))
    (first | (refine KL.v rfl (Val.loadAP rfl rfl rfl bySeeA) ?_) | (refine KL.v rfl (Val.loadA rfl rfl rfl bySeeN) ?_))
    (refine KL.callc rfl rfl byEvL fun T hT => ?_)
    refine (CallV.fn (One_K hxo)).mono ?_
    rintro _ _ ⟨rfl, rfl⟩
    refine hT _ _ ?_; clear hT; clear T
    (refine KL.v rfl (Val.addB rfl rfl (by first | assumption | omega | (simp only [List.length_append, List.length_cons, List.length_nil]; omega) | (simp; omega))) ?_)
    rw [hnx]
    (refine KL.v rfl (Val.assign rfl) ?_)
    refine KL.nil ?_
    refine byCode ?_
    (refine KL.v rfl (Val.move rfl) ?_)
    (first | (refine KL.v rfl (Val.add rfl rfl (by simp only [Go.Proofs.Ytdkanfjpdnjhcaa.lo, Go.Proofs.Ytdkanfjpdnjhcaa.hi]; omega)) ?_) | (refine KL.v rfl (Val.addW rfl rfl) ?_))
    (refine KL.v rfl (Val.assign rfl) ?_)
    refine KL.nil ?_
    exact KE.again (k + 1) bySub byPart (by omega) (by omega)
  · have : k = l.length := by omega
    subst this
    refine byCode ?_
    (refine KL.v rfl (Val.move rfl) ?_)
    (refine KL.v rfl (Val.move rfl) ?_)
    (first | (refine KL.v rfl (Val.lenSl rfl rfl bySli) ?_) | (refine KL.v rfl (Val.lenS rfl rfl) ?_))
    (first | (refine KL.v rfl (Val.isT (Val.lss rfl rfl) byLt) ?_) | (refine KL.v rfl (Val.isF (Val.lss rfl rfl) byLt) ?_) | (refine KL.v rfl (Val.lss rfl rfl) ?_))
    refine KL.nil ?_
    refine byCode ?_
    (refine KL.v rfl (Val.move rfl) ?_)
    (refine KL.v rfl (Val.assign rfl) ?_)
    refine KL.nil ?_
    refine byCode ?_
    exact KE.fin byMarks rfl byRes byPart ⟨by rw [List.take_length]; rfl, rfl⟩

set_option maxRecDepth 10000 in
theorem number_K {w0 : World} {H : Heap} {c : List UInt8} {z : Int} {i : Nat} (hz : z = (i : Nat)) (hc : 8 * i + 8 ≤ c.length) (hi : i ≤ 1000) :
    Call Try.prog w0 25 [.string (strB c), .int .i64 z] H (fun r H' => r = .int .u64 (fld c i : Nat) ∧ H' = H) := by
  subst hz
  refine Call.enter (n := 22) [(0, .string (strB c)), (1, .int .i64 (i : Nat))] (by kernel_rfl) Try.func25 rfl rfl rfl ⟨rfl, rfl, trivial⟩ ?_
  refine byCode ?_
  (refine KL.v rfl (Val.assign rfl) ?_)
  refine KL.nil ?_
  refine byCode ?_
  (refine KL.v rfl (Val.assign rfl) ?_)
  refine KL.nil ?_
  refine byCode ?_
  (refine KL.v rfl (Val.assign rfl) ?_)
  refine KL.nil ?_
  refine byBlk ?_
  refine K.loop (σ := Nat) (fun k => [(6, .int .i64 (k : Nat)), (0, .string (strB c)), (1, .int .i64 (i : Nat)), (5, .int .u64 (nb ((c.drop (8 * i)).take k) : Nat))]) (fun _ => H) (fun k => k ≤ 8) (fun k => 8 - k) 0 bySub byPart (by omega) ?_
  intro k hk
  by_cases hlt : k < 8
  · obtain ⟨x, hx⟩ := get_of_lt (l := c) (k := 8 * i + k) (by omega)
    have hx' : c[(8 * (i : Int) + (k : Int)).toNat]? = some x := by rw [show (8 * (i : Int) + (k : Int)).toNat = 8 * i + k by omega]; exact hx
    have hx2 : (c.drop (8 * i))[k]? = some x := by rw [List.getElem?_drop]; exact hx
    have hnx := nb_snoc ((c.drop (8 * i)).take k) x
    rw [← take_snoc hx2] at hnx
    have hb : nb ((c.drop (8 * i)).take k) < 72057594037927936 := by
      have h1 := nb_lt ((c.drop (8 * i)).take k)
      have h2 : ((c.drop (8 * i)).take k).length ≤ 7 := by simp; omega
      have h3 : 256 ^ ((c.drop (8 * i)).take k).length ≤ 256 ^ 7 := Nat.pow_le_pow_right (by omega) h2
      omega
    have hx8 := x.toNat_lt
    refine byCode ?_
    (refine KL.v rfl (Val.move rfl) ?_)
    (first | (refine KL.v rfl (Val.isT (Val.lss rfl rfl) byLt) ?_) | (refine KL.v rfl (Val.isF (Val.lss rfl rfl) byLt) ?_) | (refine KL.v rfl (Val.lss rfl rfl) ?_))
    refine KL.nil ?_
    refine byCode ?_
    refine K.seq (K.block ?_)
    refine byCode ?_
    (refine KL.v rfl (Val.move rfl) ?_)
    (first | (refine KL.v rfl (Val.mul rfl rfl (by simp only [Go.Proofs.Ytdkanfjpdnjhcaa.lo, Go.Proofs.Ytdkanfjpdnjhcaa.hi]; omega)) ?_) | (refine KL.v rfl (Val.mulW rfl rfl) ?_))
    (refine KL.v rfl (Val.move rfl) ?_)
    (refine KL.v rfl (Val.move rfl) ?_)
    (first | (refine KL.v rfl (Val.mul rfl rfl (by simp only [Go.Proofs.Ytdkanfjpdnjhcaa.lo, Go.Proofs.Ytdkanfjpdnjhcaa.hi]; omega)) ?_) | (refine KL.v rfl (Val.mulW rfl rfl) ?_))
    (refine KL.v rfl (Val.move rfl) ?_)
    (first | (refine KL.v rfl (Val.add rfl rfl (by simp only [Go.Proofs.Ytdkanfjpdnjhcaa.lo, Go.Proofs.Ytdkanfjpdnjhcaa.hi]; omega)) ?_) | (refine KL.v rfl (Val.addW rfl rfl) ?_))
    (first | (refine KL.v rfl (Val.idxB rfl rfl rfl (by assumption)) ?_) | (refine KL.v rfl (Val.idxBZ rfl rfl rfl (by omega) (by assumption)) ?_))
    (first | (refine KL.v rfl (Val.conv rfl rfl rfl (by simp only [Go.Proofs.Ytdkanfjpdnjhcaa.lo, Go.Proofs.Ytdkanfjpdnjhcaa.hi]; omega)) ?_) | (refine KL.v rfl (Val.convW rfl rfl rfl) ?_))
    (first | (refine KL.v rfl (Val.add rfl rfl (by simp only [Go.Proofs.Ytdkanfjpdnjhcaa.lo, Go.Proofs.Ytdkanfjpdnjhcaa.hi]; omega)) ?_) | (refine KL.v rfl (Val.addW rfl rfl) ?_))
    (refine KL.v rfl (Val.assign rfl) ?_)
    refine KL.nil ?_
    refine byCode ?_
    (refine KL.v rfl (Val.move rfl) ?_)
    (first | (refine KL.v rfl (Val.add rfl rfl (by simp only [Go.Proofs.Ytdkanfjpdnjhcaa.lo, Go.Proofs.Ytdkanfjpdnjhcaa.hi]; omega)) ?_) | (refine KL.v rfl (Val.addW rfl rfl) ?_))
    (refine KL.v rfl (Val.assign rfl) ?_)
    refine KL.nil ?_
    exact KE.again (k + 1) bySub byPart (by omega) (by omega)
  · have : k = 8 := by omega
    subst this
    refine byCode ?_
    (refine KL.v rfl (Val.move rfl) ?_)
    (first | (refine KL.v rfl (Val.isT (Val.lss rfl rfl) byLt) ?_) | (refine KL.v rfl (Val.isF (Val.lss rfl rfl) byLt) ?_) | (refine KL.v rfl (Val.lss rfl rfl) ?_))
    refine KL.nil ?_
    refine byCode ?_
    (refine KL.v rfl (Val.move rfl) ?_)
    (refine KL.v rfl (Val.assign rfl) ?_)
    refine KL.nil ?_
    refine byCode ?_
    exact KE.fin byMarks rfl byRes byPart ⟨rfl, rfl⟩

/-! ## where two lists are not the same -/
def diffP : List Seen → List Seen → Option Nat
  | [], [] => none
  | x :: a, y :: b => if x = y then (diffP a b).map (· + 1) else some 0
  | _, _ => some 0
theorem diffP_none {a b : List Seen} : diffP a b = none ↔ a = b := by
  induction a generalizing b with
  | nil => cases b <;> simp [diffP]
  | cons x a ih =>
    cases b with
    | nil => simp [diffP]
    | cons y b =>
      simp only [diffP]
      split
      · rename_i h; subst h; simp [ih]
      · rename_i h; simp [h]
theorem diffP_some {a b : List Seen} {i : Nat} (h : ∀ j, j < i → ∃ x, a[j]? = some x ∧ b[j]? = some x) (hd : a[i]? ≠ b[i]?) : diffP a b = some i := by
  induction i generalizing a b with
  | zero =>
    cases a with
    | nil => cases b with
      | nil => exact absurd rfl hd
      | cons y b => rfl
    | cons x a => cases b with
      | nil => rfl
      | cons y b =>
        simp only [diffP]
        rw [if_neg]
        intro e; subst e; exact hd rfl
  | succ i ih =>
    obtain ⟨x, h1, h2⟩ := h 0 (by omega)
    cases a with
    | nil => simp at h1
    | cons x' a => cases b with
      | nil => simp at h2
      | cons y' b =>
        simp at h1 h2
        subst h1 h2
        simp only [diffP, if_true]
        rw [ih (fun j hj => by simpa using h (j + 1) (by omega)) (by simpa using hd)]
        rfl
theorem diffP_same {a b : List Seen} (h : ∀ j, j < a.length → ∃ x, a[j]? = some x ∧ b[j]? = some x) (hl : a.length = b.length) : diffP a b = none := by
  rw [diffP_none]
  apply List.ext_getElem?
  intro j
  rcases Nat.lt_or_ge j a.length with hj | hj
  · obtain ⟨x, h1, h2⟩ := h j hj; rw [h1, h2]
  · rw [List.getElem?_eq_none hj, List.getElem?_eq_none (by omega)]
def diffV (a b : List Seen) : Value := .tuple #[.int .i64 ((diffP a b).getD 0 : Nat), .bool (diffP a b).isSome]

set_option maxRecDepth 10000 in
theorem Diff_K {w0 : World} {H : Heap} {va vb : Value} {a b : List Seen} (hA : SlW w0 sE va a) (hB : SlW w0 sE vb b) :
    Call Try.prog w0 18 [va, vb] H (fun r H' => r = diffV a b ∧ H' = H) := by
  refine Call.enter (n := 36) [(0, va), (1, vb)] (by kernel_rfl) Try.func18 rfl rfl rfl ⟨rfl, rfl, trivial⟩ ?_
  have la := hA.le
  have lb := hB.le
  unfold maxLen at la lb
  obtain ⟨n, hn, hna, hnb, hne⟩ : ∃ n : Nat, (if (b.length : Int) < a.length then (b.length : Int) else a.length) = (n : Nat) ∧ n ≤ a.length ∧ n ≤ b.length ∧ (n = a.length ∨ n = b.length) := by
    split
    · exact ⟨b.length, rfl, by omega, by omega, .inr rfl⟩
    · exact ⟨a.length, rfl, by omega, by omega, .inl rfl⟩
  refine byCode ?_
  (refine KL.v rfl (Val.assign rfl) ?_)
  (refine KL.v rfl (Val.assign rfl) ?_)
  refine KL.nil ?_
  refine byCode ?_
  (refine KL.v rfl (Val.move rfl) ?_)
  (first | (refine KL.v rfl (Val.lenSl rfl rfl bySli) ?_) | (refine KL.v rfl (Val.lenS rfl rfl) ?_))
  (refine KL.v rfl (Val.move rfl) ?_)
  (first | (refine KL.v rfl (Val.lenSl rfl rfl bySli) ?_) | (refine KL.v rfl (Val.lenS rfl rfl) ?_))
  (refine KL.v rfl (Val.min rfl rfl) ?_)
  rw [hn]
  (refine KL.v rfl (Val.move rfl) ?_)
  refine KL.nil ?_
  refine byBlk ?_
  refine K.loop (σ := Nat) (fun k => [(12, .int .i64 (k : Nat)), (11, .int .i64 (n : Nat)), (0, va), (1, vb)]) (fun _ => H) (fun k => k ≤ n ∧ ∀ j, j < k → ∃ x, a[j]? = some x ∧ b[j]? = some x) (fun k => n - k) 0 bySub byPart ⟨by omega, fun j hj => by omega⟩ ?_
  rintro k ⟨hk, hsame⟩
  by_cases hlt : k < n
  · obtain ⟨x, hx⟩ := get_of_lt (l := a) (k := k) (by omega)
    obtain ⟨y, hy⟩ := get_of_lt (l := b) (k := k) (by omega)
    have hka : k < a.length := by omega
    have hkb : k < b.length := by omega
    refine byCode ?_
    (first | (refine KL.v rfl (Val.isT (Val.lss rfl rfl) byLt) ?_) | (refine KL.v rfl (Val.isF (Val.lss rfl rfl) byLt) ?_) | (refine KL.v rfl (Val.lss rfl rfl) ?_))
    refine KL.nil ?_
    refine byCode ?_
    refine K.seq (K.block ?_)
    refine byCode ?_
    (refine KL.v rfl (Val.move rfl) ?_)
    (refine KL.v rfl (Val.assign rfl) ?_)
    refine KL.nil ?_
    by_cases hxy : x = y
    · have hb := (seqB_iff x y).2 hxy
      refine byCodeD ?_
      (first | refine K.seq (K.drawn _ [(0, 0), (1, 0), (2, 0), (3, 0), (4, 0), (5, 0), (6, 0), (7, 0), (8, 0)] (by kernel_rfl) (by kernel_rfl) (by kernel_rfl) (by kernel_rfl) (by kernel_rfl) (by kernel_rfl) Part.all ?_) | refine K.seq (K.seq (K.drawn _ [(0, 0), (1, 0), (2, 0), (3, 0), (4, 0), (5, 0), (6, 0), (7, 0), (8, 0)] (by kernel_rfl) (by kernel_rfl) (by kernel_rfl) (by kernel_rfl) (by kernel_rfl) (by kernel_rfl) Part.all ?_)) | refine K.drawn _ [(0, 0), (1, 0), (2, 0), (3, 0), (4, 0), (5, 0), (6, 0), (7, 0), (8, 0)] (by kernel_rfl) (by kernel_rfl) (by kernel_rfl) (by kernel_rfl) (by kernel_rfl) (by kernel_rfl) Part.all ?_)
      refine KD.v0 rfl rfl (Val.move rfl) ?_
      refine KD.v0 rfl rfl (Val.move rfl) ?_
      (first | refine KD.v0 rfl rfl (Val.idxSl rfl rfl rfl bySli rfl byLt) ?_ | refine KD.v0 rfl rfl (Val.idxSlZ rfl rfl rfl bySli rfl (by omega)) ?_ | refine KD.v0 rfl rfl (Val.indexS1 rfl rfl rfl rfl (by omega)) ?_ | refine KD.v0 rfl rfl (Val.indexS rfl rfl rfl rfl (by omega)) ?_ | refine KD.v0 rfl rfl (Val.indexSO rfl rfl rfl rfl (by omega)) ?_ | refine KD.v0 rfl rfl (Val.indexSG rfl rfl rfl rfl (by omega)) ?_)
      (first | refine KD.v0 rfl rfl (Val.loadAP rfl rfl rfl bySeeA) ?_ | refine KD.v0 rfl rfl (Val.loadA rfl rfl rfl bySeeN) ?_)
      refine KD.v0 rfl rfl (Val.move rfl) ?_
      refine KD.v0 rfl rfl (Val.move rfl) ?_
      (first | refine KD.v0 rfl rfl (Val.idxSl rfl rfl rfl bySli rfl byLt) ?_ | refine KD.v0 rfl rfl (Val.idxSlZ rfl rfl rfl bySli rfl (by omega)) ?_ | refine KD.v0 rfl rfl (Val.indexS1 rfl rfl rfl rfl (by omega)) ?_ | refine KD.v0 rfl rfl (Val.indexS rfl rfl rfl rfl (by omega)) ?_ | refine KD.v0 rfl rfl (Val.indexSO rfl rfl rfl rfl (by omega)) ?_ | refine KD.v0 rfl rfl (Val.indexSG rfl rfl rfl rfl (by omega)) ?_)
      (first | refine KD.v0 rfl rfl (Val.loadAP rfl rfl rfl bySeeA) ?_ | refine KD.v0 rfl rfl (Val.loadA rfl rfl rfl bySeeN) ?_)
      (first | refine KD.v0 rfl rfl (Val.neqAE rfl rfl (by kernel_rfl) byEqv (by first | assumption | rfl)) ?_ | refine KD.v0 rfl rfl (Val.neqAN rfl rfl (by kernel_rfl) byEqv (by first | assumption | rfl)) ?_ | refine KD.v0 rfl rfl (Val.neqA rfl rfl (by kernel_rfl) byEqv) ?_)
      refine KD.nil ?_
      refine byCode ?_
      (first | (refine KL.v rfl (Val.add rfl rfl (by simp only [Go.Proofs.Ytdkanfjpdnjhcaa.lo, Go.Proofs.Ytdkanfjpdnjhcaa.hi]; omega)) ?_) | (refine KL.v rfl (Val.addW rfl rfl) ?_))
      (refine KL.v rfl (Val.move rfl) ?_)
      refine KL.nil ?_
      exact KE.again (k + 1) bySub byPart ⟨by omega, fun j hj => by
        rcases Nat.lt_or_ge j k with h | h
        · exact hsame j h
        · have : j = k := by omega
          subst this
          exact ⟨x, hx, by rw [hy, hxy]⟩⟩ (by omega)
    · have hb := seqB_ne hxy
      have hd := diffP_some hsame (by rw [hx, hy]; intro h; cases h; exact hxy rfl)
      refine byCodeD ?_
      (first | refine K.seq (K.drawn _ [(0, 0), (1, 0), (2, 0), (3, 0), (4, 0), (5, 0), (6, 0), (7, 0), (8, 0)] (by kernel_rfl) (by kernel_rfl) (by kernel_rfl) (by kernel_rfl) (by kernel_rfl) (by kernel_rfl) Part.all ?_) | refine K.seq (K.seq (K.drawn _ [(0, 0), (1, 0), (2, 0), (3, 0), (4, 0), (5, 0), (6, 0), (7, 0), (8, 0)] (by kernel_rfl) (by kernel_rfl) (by kernel_rfl) (by kernel_rfl) (by kernel_rfl) (by kernel_rfl) Part.all ?_)) | refine K.drawn _ [(0, 0), (1, 0), (2, 0), (3, 0), (4, 0), (5, 0), (6, 0), (7, 0), (8, 0)] (by kernel_rfl) (by kernel_rfl) (by kernel_rfl) (by kernel_rfl) (by kernel_rfl) (by kernel_rfl) Part.all ?_)
      refine KD.v0 rfl rfl (Val.move rfl) ?_
      refine KD.v0 rfl rfl (Val.move rfl) ?_
      (first | refine KD.v0 rfl rfl (Val.idxSl rfl rfl rfl bySli rfl byLt) ?_ | refine KD.v0 rfl rfl (Val.idxSlZ rfl rfl rfl bySli rfl (by omega)) ?_ | refine KD.v0 rfl rfl (Val.indexS1 rfl rfl rfl rfl (by omega)) ?_ | refine KD.v0 rfl rfl (Val.indexS rfl rfl rfl rfl (by omega)) ?_ | refine KD.v0 rfl rfl (Val.indexSO rfl rfl rfl rfl (by omega)) ?_ | refine KD.v0 rfl rfl (Val.indexSG rfl rfl rfl rfl (by omega)) ?_)
      (first | refine KD.v0 rfl rfl (Val.loadAP rfl rfl rfl bySeeA) ?_ | refine KD.v0 rfl rfl (Val.loadA rfl rfl rfl bySeeN) ?_)
      refine KD.v0 rfl rfl (Val.move rfl) ?_
      refine KD.v0 rfl rfl (Val.move rfl) ?_
      (first | refine KD.v0 rfl rfl (Val.idxSl rfl rfl rfl bySli rfl byLt) ?_ | refine KD.v0 rfl rfl (Val.idxSlZ rfl rfl rfl bySli rfl (by omega)) ?_ | refine KD.v0 rfl rfl (Val.indexS1 rfl rfl rfl rfl (by omega)) ?_ | refine KD.v0 rfl rfl (Val.indexS rfl rfl rfl rfl (by omega)) ?_ | refine KD.v0 rfl rfl (Val.indexSO rfl rfl rfl rfl (by omega)) ?_ | refine KD.v0 rfl rfl (Val.indexSG rfl rfl rfl rfl (by omega)) ?_)
      (first | refine KD.v0 rfl rfl (Val.loadAP rfl rfl rfl bySeeA) ?_ | refine KD.v0 rfl rfl (Val.loadA rfl rfl rfl bySeeN) ?_)
      (first | refine KD.v0 rfl rfl (Val.neqAE rfl rfl (by kernel_rfl) byEqv (by first | assumption | rfl)) ?_ | refine KD.v0 rfl rfl (Val.neqAN rfl rfl (by kernel_rfl) byEqv (by first | assumption | rfl)) ?_ | refine KD.v0 rfl rfl (Val.neqA rfl rfl (by kernel_rfl) byEqv) ?_)
      refine KD.nil ?_
      refine byCode ?_
      (refine KL.v rfl (Val.move rfl) ?_)
      (refine KL.v rfl (Val.assign rfl) ?_)
      (refine KL.v rfl (Val.assign rfl) ?_)
      refine KL.nil ?_
      refine byCode ?_
      exact KE.fin byMarks rfl byRes byPart ⟨by unfold diffV; rw [hd]; rfl, rfl⟩
  · have : k = n := by omega
    subst this
    by_cases hab : a.length = b.length
    · have hd := diffP_same (fun j hj => hsame j (by omega)) hab
      have hab' : (a.length : Int) = b.length := by omega
      refine byCode ?_
      (first | (refine KL.v rfl (Val.isT (Val.lss rfl rfl) byLt) ?_) | (refine KL.v rfl (Val.isF (Val.lss rfl rfl) byLt) ?_) | (refine KL.v rfl (Val.lss rfl rfl) ?_))
      refine KL.nil ?_
      refine byCode ?_
      (refine KL.v rfl (Val.move rfl) ?_)
      (first | (refine KL.v rfl (Val.lenSl rfl rfl bySli) ?_) | (refine KL.v rfl (Val.lenS rfl rfl) ?_))
      (refine KL.v rfl (Val.move rfl) ?_)
      (first | (refine KL.v rfl (Val.lenSl rfl rfl bySli) ?_) | (refine KL.v rfl (Val.lenS rfl rfl) ?_))
      (first | (refine KL.v rfl (Val.isT (Val.eql rfl rfl) byLt) ?_) | (refine KL.v rfl (Val.isF (Val.eql rfl rfl) byLt) ?_) | (refine KL.v rfl (Val.eql rfl rfl) ?_))
      refine KL.nil ?_
      refine byCode ?_
      (refine KL.v rfl (Val.assign rfl) ?_)
      (refine KL.v rfl (Val.assign rfl) ?_)
      refine KL.nil ?_
      refine byCode ?_
      exact KE.fin byMarks rfl byRes byPart ⟨by unfold diffV; rw [hd]; rfl, rfl⟩
    · have hab' : ¬ (a.length : Int) = b.length := by omega
      have hd := diffP_some hsame (by
        intro h
        rcases hne with e | e
        · rw [List.getElem?_eq_none (by omega), eq_comm, List.getElem?_eq_none_iff] at h; omega
        · rw [List.getElem?_eq_none (l := b) (by omega), List.getElem?_eq_none_iff] at h; omega)
      refine byCode ?_
      (first | (refine KL.v rfl (Val.isT (Val.lss rfl rfl) byLt) ?_) | (refine KL.v rfl (Val.isF (Val.lss rfl rfl) byLt) ?_) | (refine KL.v rfl (Val.lss rfl rfl) ?_))
      refine KL.nil ?_
      refine byCode ?_
      (refine KL.v rfl (Val.move rfl) ?_)
      (first | (refine KL.v rfl (Val.lenSl rfl rfl bySli) ?_) | (refine KL.v rfl (Val.lenS rfl rfl) ?_))
      (refine KL.v rfl (Val.move rfl) ?_)
      (first | (refine KL.v rfl (Val.lenSl rfl rfl bySli) ?_) | (refine KL.v rfl (Val.lenS rfl rfl) ?_))
      (first | (refine KL.v rfl (Val.isT (Val.eql rfl rfl) byLt) ?_) | (refine KL.v rfl (Val.isF (Val.eql rfl rfl) byLt) ?_) | (refine KL.v rfl (Val.eql rfl rfl) ?_))
      refine KL.nil ?_
      refine byCode ?_
      (refine KL.v rfl (Val.move rfl) ?_)
      (first | (refine KL.v rfl (Val.lenSl rfl rfl bySli) ?_) | (refine KL.v rfl (Val.lenS rfl rfl) ?_))
      (refine KL.v rfl (Val.move rfl) ?_)
      (first | (refine KL.v rfl (Val.lenSl rfl rfl bySli) ?_) | (refine KL.v rfl (Val.lenS rfl rfl) ?_))
      (refine KL.v rfl (Val.min rfl rfl) ?_)
      rw [hn]
      (refine KL.v rfl (Val.assign rfl) ?_)
      (refine KL.v rfl (Val.assign rfl) ?_)
      refine KL.nil ?_
      refine byCode ?_
      exact KE.fin byMarks rfl byRes byPart ⟨by unfold diffV; rw [hd]; rfl, rfl⟩

set_option maxRecDepth 10000 in
theorem rDiff_K {w0 : World} {H : Heap} {va vb : Value} {a b : List Seen} (hA : SlW w0 sE va a) (hB : SlW w0 sE vb b) :
    Call Try.prog w0 19 [va, vb] H (fun r H' => r = diffV a b ∧ H' = H) := by
  refine Call.enter (n := 41) [(0, va), (1, vb)] (by kernel_rfl) Try.func19 rfl rfl rfl ⟨rfl, rfl, trivial⟩ ?_
  have la := hA.le
  have lb := hB.le
  unfold maxLen at la lb
  refine byCode ?_
  (refine KL.v rfl (Val.assign rfl) ?_)
  (refine KL.v rfl (Val.assign rfl) ?_)
  refine KL.nil ?_
  refine byCode ?_
  (refine KL.v rfl (Val.assign rfl) ?_)
  refine KL.nil ?_
  refine byBlk ?_
  refine K.loop (σ := Nat) (fun k => [(6, .int .i64 (k : Nat)), (0, va), (1, vb)]) (fun _ => H) (fun k => k ≤ a.length ∧ k ≤ b.length ∧ ∀ j, j < k → ∃ x, a[j]? = some x ∧ b[j]? = some x) (fun k => a.length - k) 0 bySub byPart ⟨by omega, by omega, fun j hj => by omega⟩ ?_
  rintro k ⟨hka, hkb, hsame⟩
  by_cases hlt : k < a.length
  · obtain ⟨x, hx⟩ := get_of_lt hlt
    refine byCode ?_
    (refine KL.v rfl (Val.move rfl) ?_)
    (refine KL.v rfl (Val.move rfl) ?_)
    (first | (refine KL.v rfl (Val.lenSl rfl rfl bySli) ?_) | (refine KL.v rfl (Val.lenS rfl rfl) ?_))
    (first | (refine KL.v rfl (Val.isT (Val.lss rfl rfl) byLt) ?_) | (refine KL.v rfl (Val.isF (Val.lss rfl rfl) byLt) ?_) | (refine KL.v rfl (Val.lss rfl rfl) ?_))
    (refine KL.v rfl (Val.move rfl) ?_)
    (first | refine KL.skipG rfl rfl rfl ?_ | refine KL.skipU rfl rfl rfl ?_ | (refine KL.yes rfl rfl ?_; refine KL.v rfl (Val.move rfl) ?_))
    (first | refine KL.skipG rfl rfl rfl ?_ | refine KL.skipU rfl rfl rfl ?_ | (refine KL.yes rfl rfl ?_; refine KL.v rfl (Val.move rfl) ?_))
    (first | refine KL.skipG rfl rfl rfl ?_ | refine KL.skipU rfl rfl rfl ?_ | (refine KL.yes rfl rfl ?_; refine KL.v rfl (Val.lenSl rfl rfl bySli) ?_) | (refine KL.yes rfl rfl ?_; refine KL.v rfl (Val.lenS rfl rfl) ?_))
    (first | refine KL.skipG rfl rfl rfl ?_ | refine KL.skipU rfl rfl rfl ?_ | (refine KL.yes rfl rfl ?_; refine KL.v rfl (Val.isT (Val.lss rfl rfl) byLt) ?_) | (refine KL.yes rfl rfl ?_; refine KL.v rfl (Val.isF (Val.lss rfl rfl) byLt) ?_) | (refine KL.yes rfl rfl ?_; refine KL.v rfl (Val.lss rfl rfl) ?_))
    (first | (refine KL.v rfl (Val.pickT rfl rfl rfl) ?_) | (refine KL.v rfl (Val.pickF rfl rfl rfl) ?_) | (refine KL.v rfl (Val.pickB rfl rfl rfl) ?_))
    refine KL.nil ?_
    refine byCode ?_
    refine K.seq (K.block ?_)
    by_cases hlb : k < b.length
    · obtain ⟨y, hy⟩ := get_of_lt hlb
      by_cases hxy : x = y
      · have hb := (seqB_iff x y).2 hxy
        refine byCodeD ?_
        (first | refine K.seq (K.drawn _ [(0, 0), (1, 0), (2, 0), (3, 0), (4, 0), (5, 0), (6, 0), (7, 0), (8, 0), (9, 0), (10, 0), (11, 0), (12, 0), (13, 0), (14, 0), (15, 0), (16, 0), (17, 0), (18, 0), (19, 0), (20, 0)] (by kernel_rfl) (by kernel_rfl) (by kernel_rfl) (by kernel_rfl) (by kernel_rfl) (by kernel_rfl) Part.all ?_) | refine K.seq (K.seq (K.drawn _ [(0, 0), (1, 0), (2, 0), (3, 0), (4, 0), (5, 0), (6, 0), (7, 0), (8, 0), (9, 0), (10, 0), (11, 0), (12, 0), (13, 0), (14, 0), (15, 0), (16, 0), (17, 0), (18, 0), (19, 0), (20, 0)] (by kernel_rfl) (by kernel_rfl) (by kernel_rfl) (by kernel_rfl) (by kernel_rfl) (by kernel_rfl) Part.all ?_)) | refine K.drawn _ [(0, 0), (1, 0), (2, 0), (3, 0), (4, 0), (5, 0), (6, 0), (7, 0), (8, 0), (9, 0), (10, 0), (11, 0), (12, 0), (13, 0), (14, 0), (15, 0), (16, 0), (17, 0), (18, 0), (19, 0), (20, 0)] (by kernel_rfl) (by kernel_rfl) (by kernel_rfl) (by kernel_rfl) (by kernel_rfl) (by kernel_rfl) Part.all ?_)
        refine KD.v0 rfl rfl (Val.move rfl) ?_
        refine KD.v0 rfl rfl (Val.move rfl) ?_
        (first | refine KD.v0 rfl rfl (Val.lenSl rfl rfl bySli) ?_ | refine KD.v0 rfl rfl (Val.lenS rfl rfl) ?_)
        (first | refine KD.v0 rfl rfl (Val.isT (Val.geq rfl rfl) byLt) ?_ | refine KD.v0 rfl rfl (Val.isF (Val.geq rfl rfl) byLt) ?_ | refine KD.v0 rfl rfl (Val.geq rfl rfl) ?_)
        refine KD.v0 rfl rfl (Val.move rfl) ?_
        (first | refine KD.no rfl rfl rfl rfl rfl ?_ | refine KD.noU rfl rfl rfl rfl rfl ?_ | refine KD.y0 rfl rfl rfl rfl (Val.move rfl) ?_)
        (first | refine KD.no rfl rfl rfl rfl rfl ?_ | refine KD.noU rfl rfl rfl rfl rfl ?_ | refine KD.y0 rfl rfl rfl rfl (Val.move rfl) ?_)
        (first | refine KD.no rfl rfl rfl rfl rfl ?_ | refine KD.noU rfl rfl rfl rfl rfl ?_ | refine KD.y0 rfl rfl rfl rfl (Val.lenSl rfl rfl bySli) ?_ | refine KD.y0 rfl rfl rfl rfl (Val.lenS rfl rfl) ?_)
        (first | refine KD.no rfl rfl rfl rfl rfl ?_ | refine KD.noU rfl rfl rfl rfl rfl ?_ | refine KD.y0 rfl rfl rfl rfl (Val.isT (Val.geq rfl rfl) byLt) ?_ | refine KD.y0 rfl rfl rfl rfl (Val.isF (Val.geq rfl rfl) byLt) ?_ | refine KD.y0 rfl rfl rfl rfl (Val.geq rfl rfl) ?_)
        (first | refine KD.v0 rfl rfl (Val.pickT rfl rfl rfl) ?_ | refine KD.v0 rfl rfl (Val.pickF rfl rfl rfl) ?_ | refine KD.v0 rfl rfl (Val.pickB rfl rfl rfl) ?_)
        refine KD.v0 rfl rfl (Val.move rfl) ?_
        (first | refine KD.no rfl rfl rfl rfl rfl ?_ | refine KD.noU rfl rfl rfl rfl rfl ?_ | refine KD.y0 rfl rfl rfl rfl (Val.move rfl) ?_)
        (first | refine KD.no rfl rfl rfl rfl rfl ?_ | refine KD.noU rfl rfl rfl rfl rfl ?_ | refine KD.y0 rfl rfl rfl rfl (Val.move rfl) ?_)
        (first | refine KD.no rfl rfl rfl rfl rfl ?_ | refine KD.noU rfl rfl rfl rfl rfl ?_ | refine KD.y0 rfl rfl rfl rfl (Val.idxSl rfl rfl rfl bySli rfl byLt) ?_ | refine KD.y0 rfl rfl rfl rfl (Val.idxSlZ rfl rfl rfl bySli rfl (by omega)) ?_ | refine KD.y0 rfl rfl rfl rfl (Val.indexS1 rfl rfl rfl rfl (by omega)) ?_ | refine KD.y0 rfl rfl rfl rfl (Val.indexS rfl rfl rfl rfl (by omega)) ?_ | refine KD.y0 rfl rfl rfl rfl (Val.indexSO rfl rfl rfl rfl (by omega)) ?_ | refine KD.y0 rfl rfl rfl rfl (Val.indexSG rfl rfl rfl rfl (by omega)) ?_)
        (first | refine KD.no rfl rfl rfl rfl rfl ?_ | refine KD.noU rfl rfl rfl rfl rfl ?_ | refine KD.y0 rfl rfl rfl rfl (Val.loadAP rfl rfl rfl bySeeA) ?_ | refine KD.y0 rfl rfl rfl rfl (Val.loadA rfl rfl rfl bySeeN) ?_)
        (first | refine KD.no rfl rfl rfl rfl rfl ?_ | refine KD.noU rfl rfl rfl rfl rfl ?_ | refine KD.y0 rfl rfl rfl rfl (Val.move rfl) ?_)
        (first | refine KD.no rfl rfl rfl rfl rfl ?_ | refine KD.noU rfl rfl rfl rfl rfl ?_ | refine KD.y0 rfl rfl rfl rfl (Val.move rfl) ?_)
        (first | refine KD.no rfl rfl rfl rfl rfl ?_ | refine KD.noU rfl rfl rfl rfl rfl ?_ | refine KD.y0 rfl rfl rfl rfl (Val.idxSl rfl rfl rfl bySli rfl byLt) ?_ | refine KD.y0 rfl rfl rfl rfl (Val.idxSlZ rfl rfl rfl bySli rfl (by omega)) ?_ | refine KD.y0 rfl rfl rfl rfl (Val.indexS1 rfl rfl rfl rfl (by omega)) ?_ | refine KD.y0 rfl rfl rfl rfl (Val.indexS rfl rfl rfl rfl (by omega)) ?_ | refine KD.y0 rfl rfl rfl rfl (Val.indexSO rfl rfl rfl rfl (by omega)) ?_ | refine KD.y0 rfl rfl rfl rfl (Val.indexSG rfl rfl rfl rfl (by omega)) ?_)
        (first | refine KD.no rfl rfl rfl rfl rfl ?_ | refine KD.noU rfl rfl rfl rfl rfl ?_ | refine KD.y0 rfl rfl rfl rfl (Val.loadAP rfl rfl rfl bySeeA) ?_ | refine KD.y0 rfl rfl rfl rfl (Val.loadA rfl rfl rfl bySeeN) ?_)
        (first | refine KD.no rfl rfl rfl rfl rfl ?_ | refine KD.noU rfl rfl rfl rfl rfl ?_ | refine KD.y0 rfl rfl rfl rfl (Val.neqAE rfl rfl (by kernel_rfl) byEqv (by first | assumption | rfl)) ?_ | refine KD.y0 rfl rfl rfl rfl (Val.neqAN rfl rfl (by kernel_rfl) byEqv (by first | assumption | rfl)) ?_ | refine KD.y0 rfl rfl rfl rfl (Val.neqA rfl rfl (by kernel_rfl) byEqv) ?_)
        (first | refine KD.v0 rfl rfl (Val.pickT rfl rfl rfl) ?_ | refine KD.v0 rfl rfl (Val.pickF rfl rfl rfl) ?_ | refine KD.v0 rfl rfl (Val.pickB rfl rfl rfl) ?_)
        refine KD.nil ?_
        refine byCode ?_
        (refine KL.v rfl (Val.move rfl) ?_)
        (first | (refine KL.v rfl (Val.add rfl rfl (by simp only [Go.Proofs.Ytdkanfjpdnjhcaa.lo, Go.Proofs.Ytdkanfjpdnjhcaa.hi]; omega)) ?_) | (refine KL.v rfl (Val.addW rfl rfl) ?_))
        (refine KL.v rfl (Val.assign rfl) ?_)
        refine KL.nil ?_
        exact KE.again (k + 1) bySub byPart ⟨by omega, by omega, fun j hj => by
          rcases Nat.lt_or_ge j k with h | h
          · exact hsame j h
          · have : j = k := by omega
            subst this
            exact ⟨x, hx, by rw [hy, hxy]⟩⟩ (by omega)
      · have hb := seqB_ne hxy
        have hd := diffP_some hsame (by rw [hx, hy]; intro h; cases h; exact hxy rfl)
        refine byCodeD ?_
        (first | refine K.seq (K.drawn _ [(0, 0), (1, 0), (2, 0), (3, 0), (4, 0), (5, 0), (6, 0), (7, 0), (8, 0), (9, 0), (10, 0), (11, 0), (12, 0), (13, 0), (14, 0), (15, 0), (16, 0), (17, 0), (18, 0), (19, 0), (20, 0)] (by kernel_rfl) (by kernel_rfl) (by kernel_rfl) (by kernel_rfl) (by kernel_rfl) (by kernel_rfl) Part.all ?_) | refine K.seq (K.seq (K.drawn _ [(0, 0), (1, 0), (2, 0), (3, 0), (4, 0), (5, 0), (6, 0), (7, 0), (8, 0), (9, 0), (10, 0), (11, 0), (12, 0), (13, 0), (14, 0), (15, 0), (16, 0), (17, 0), (18, 0), (19, 0), (20, 0)] (by kernel_rfl) (by kernel_rfl) (by kernel_rfl) (by kernel_rfl) (by kernel_rfl) (by kernel_rfl) Part.all ?_)) | refine K.drawn _ [(0, 0), (1, 0), (2, 0), (3, 0), (4, 0), (5, 0), (6, 0), (7, 0), (8, 0), (9, 0), (10, 0), (11, 0), (12, 0), (13, 0), (14, 0), (15, 0), (16, 0), (17, 0), (18, 0), (19, 0), (20, 0)] (by kernel_rfl) (by kernel_rfl) (by kernel_rfl) (by kernel_rfl) (by kernel_rfl) (by kernel_rfl) Part.all ?_)
        refine KD.v0 rfl rfl (Val.move rfl) ?_
        refine KD.v0 rfl rfl (Val.move rfl) ?_
        (first | refine KD.v0 rfl rfl (Val.lenSl rfl rfl bySli) ?_ | refine KD.v0 rfl rfl (Val.lenS rfl rfl) ?_)
        (first | refine KD.v0 rfl rfl (Val.isT (Val.geq rfl rfl) byLt) ?_ | refine KD.v0 rfl rfl (Val.isF (Val.geq rfl rfl) byLt) ?_ | refine KD.v0 rfl rfl (Val.geq rfl rfl) ?_)
        refine KD.v0 rfl rfl (Val.move rfl) ?_
        (first | refine KD.no rfl rfl rfl rfl rfl ?_ | refine KD.noU rfl rfl rfl rfl rfl ?_ | refine KD.y0 rfl rfl rfl rfl (Val.move rfl) ?_)
        (first | refine KD.no rfl rfl rfl rfl rfl ?_ | refine KD.noU rfl rfl rfl rfl rfl ?_ | refine KD.y0 rfl rfl rfl rfl (Val.move rfl) ?_)
        (first | refine KD.no rfl rfl rfl rfl rfl ?_ | refine KD.noU rfl rfl rfl rfl rfl ?_ | refine KD.y0 rfl rfl rfl rfl (Val.lenSl rfl rfl bySli) ?_ | refine KD.y0 rfl rfl rfl rfl (Val.lenS rfl rfl) ?_)
        (first | refine KD.no rfl rfl rfl rfl rfl ?_ | refine KD.noU rfl rfl rfl rfl rfl ?_ | refine KD.y0 rfl rfl rfl rfl (Val.isT (Val.geq rfl rfl) byLt) ?_ | refine KD.y0 rfl rfl rfl rfl (Val.isF (Val.geq rfl rfl) byLt) ?_ | refine KD.y0 rfl rfl rfl rfl (Val.geq rfl rfl) ?_)
        (first | refine KD.v0 rfl rfl (Val.pickT rfl rfl rfl) ?_ | refine KD.v0 rfl rfl (Val.pickF rfl rfl rfl) ?_ | refine KD.v0 rfl rfl (Val.pickB rfl rfl rfl) ?_)
        refine KD.v0 rfl rfl (Val.move rfl) ?_
        (first | refine KD.no rfl rfl rfl rfl rfl ?_ | refine KD.noU rfl rfl rfl rfl rfl ?_ | refine KD.y0 rfl rfl rfl rfl (Val.move rfl) ?_)
        (first | refine KD.no rfl rfl rfl rfl rfl ?_ | refine KD.noU rfl rfl rfl rfl rfl ?_ | refine KD.y0 rfl rfl rfl rfl (Val.move rfl) ?_)
        (first | refine KD.no rfl rfl rfl rfl rfl ?_ | refine KD.noU rfl rfl rfl rfl rfl ?_ | refine KD.y0 rfl rfl rfl rfl (Val.idxSl rfl rfl rfl bySli rfl byLt) ?_ | refine KD.y0 rfl rfl rfl rfl (Val.idxSlZ rfl rfl rfl bySli rfl (by omega)) ?_ | refine KD.y0 rfl rfl rfl rfl (Val.indexS1 rfl rfl rfl rfl (by omega)) ?_ | refine KD.y0 rfl rfl rfl rfl (Val.indexS rfl rfl rfl rfl (by omega)) ?_ | refine KD.y0 rfl rfl rfl rfl (Val.indexSO rfl rfl rfl rfl (by omega)) ?_ | refine KD.y0 rfl rfl rfl rfl (Val.indexSG rfl rfl rfl rfl (by omega)) ?_)
        (first | refine KD.no rfl rfl rfl rfl rfl ?_ | refine KD.noU rfl rfl rfl rfl rfl ?_ | refine KD.y0 rfl rfl rfl rfl (Val.loadAP rfl rfl rfl bySeeA) ?_ | refine KD.y0 rfl rfl rfl rfl (Val.loadA rfl rfl rfl bySeeN) ?_)
        (first | refine KD.no rfl rfl rfl rfl rfl ?_ | refine KD.noU rfl rfl rfl rfl rfl ?_ | refine KD.y0 rfl rfl rfl rfl (Val.move rfl) ?_)
        (first | refine KD.no rfl rfl rfl rfl rfl ?_ | refine KD.noU rfl rfl rfl rfl rfl ?_ | refine KD.y0 rfl rfl rfl rfl (Val.move rfl) ?_)
        (first | refine KD.no rfl rfl rfl rfl rfl ?_ | refine KD.noU rfl rfl rfl rfl rfl ?_ | refine KD.y0 rfl rfl rfl rfl (Val.idxSl rfl rfl rfl bySli rfl byLt) ?_ | refine KD.y0 rfl rfl rfl rfl (Val.idxSlZ rfl rfl rfl bySli rfl (by omega)) ?_ | refine KD.y0 rfl rfl rfl rfl (Val.indexS1 rfl rfl rfl rfl (by omega)) ?_ | refine KD.y0 rfl rfl rfl rfl (Val.indexS rfl rfl rfl rfl (by omega)) ?_ | refine KD.y0 rfl rfl rfl rfl (Val.indexSO rfl rfl rfl rfl (by omega)) ?_ | refine KD.y0 rfl rfl rfl rfl (Val.indexSG rfl rfl rfl rfl (by omega)) ?_)
        (first | refine KD.no rfl rfl rfl rfl rfl ?_ | refine KD.noU rfl rfl rfl rfl rfl ?_ | refine KD.y0 rfl rfl rfl rfl (Val.loadAP rfl rfl rfl bySeeA) ?_ | refine KD.y0 rfl rfl rfl rfl (Val.loadA rfl rfl rfl bySeeN) ?_)
        (first | refine KD.no rfl rfl rfl rfl rfl ?_ | refine KD.noU rfl rfl rfl rfl rfl ?_ | refine KD.y0 rfl rfl rfl rfl (Val.neqAE rfl rfl (by kernel_rfl) byEqv (by first | assumption | rfl)) ?_ | refine KD.y0 rfl rfl rfl rfl (Val.neqAN rfl rfl (by kernel_rfl) byEqv (by first | assumption | rfl)) ?_ | refine KD.y0 rfl rfl rfl rfl (Val.neqA rfl rfl (by kernel_rfl) byEqv) ?_)
        (first | refine KD.v0 rfl rfl (Val.pickT rfl rfl rfl) ?_ | refine KD.v0 rfl rfl (Val.pickF rfl rfl rfl) ?_ | refine KD.v0 rfl rfl (Val.pickB rfl rfl rfl) ?_)
        refine KD.nil ?_
        refine byCode ?_
        (refine KL.v rfl (Val.move rfl) ?_)
        (refine KL.v rfl (Val.assign rfl) ?_)
        (refine KL.v rfl (Val.assign rfl) ?_)
        refine KL.nil ?_
        refine byCode ?_
        exact KE.fin byMarks rfl byRes byPart ⟨by unfold diffV; rw [hd]; rfl, rfl⟩
    · have hd := diffP_some hsame (by rw [hx, List.getElem?_eq_none (l := b) (by omega)]; simp)
      refine byCodeD ?_
      (first | refine K.seq (K.drawn _ [(0, 0), (1, 0), (2, 0), (3, 0), (4, 0), (5, 0), (6, 0), (7, 0), (8, 0), (9, 0), (10, 0), (11, 0), (12, 0), (13, 0), (14, 0), (15, 0), (16, 0), (17, 0), (18, 0), (19, 0), (20, 0)] (by kernel_rfl) (by kernel_rfl) (by kernel_rfl) (by kernel_rfl) (by kernel_rfl) (by kernel_rfl) Part.all ?_) | refine K.seq (K.seq (K.drawn _ [(0, 0), (1, 0), (2, 0), (3, 0), (4, 0), (5, 0), (6, 0), (7, 0), (8, 0), (9, 0), (10, 0), (11, 0), (12, 0), (13, 0), (14, 0), (15, 0), (16, 0), (17, 0), (18, 0), (19, 0), (20, 0)] (by kernel_rfl) (by kernel_rfl) (by kernel_rfl) (by kernel_rfl) (by kernel_rfl) (by kernel_rfl) Part.all ?_)) | refine K.drawn _ [(0, 0), (1, 0), (2, 0), (3, 0), (4, 0), (5, 0), (6, 0), (7, 0), (8, 0), (9, 0), (10, 0), (11, 0), (12, 0), (13, 0), (14, 0), (15, 0), (16, 0), (17, 0), (18, 0), (19, 0), (20, 0)] (by kernel_rfl) (by kernel_rfl) (by kernel_rfl) (by kernel_rfl) (by kernel_rfl) (by kernel_rfl) Part.all ?_)
      refine KD.v0 rfl rfl (Val.move rfl) ?_
      refine KD.v0 rfl rfl (Val.move rfl) ?_
      (first | refine KD.v0 rfl rfl (Val.lenSl rfl rfl bySli) ?_ | refine KD.v0 rfl rfl (Val.lenS rfl rfl) ?_)
      (first | refine KD.v0 rfl rfl (Val.isT (Val.geq rfl rfl) byLt) ?_ | refine KD.v0 rfl rfl (Val.isF (Val.geq rfl rfl) byLt) ?_ | refine KD.v0 rfl rfl (Val.geq rfl rfl) ?_)
      refine KD.v0 rfl rfl (Val.move rfl) ?_
      (first | refine KD.no rfl rfl rfl rfl rfl ?_ | refine KD.noU rfl rfl rfl rfl rfl ?_ | refine KD.y0 rfl rfl rfl rfl (Val.move rfl) ?_)
      (first | refine KD.no rfl rfl rfl rfl rfl ?_ | refine KD.noU rfl rfl rfl rfl rfl ?_ | refine KD.y0 rfl rfl rfl rfl (Val.move rfl) ?_)
      (first | refine KD.no rfl rfl rfl rfl rfl ?_ | refine KD.noU rfl rfl rfl rfl rfl ?_ | refine KD.y0 rfl rfl rfl rfl (Val.lenSl rfl rfl bySli) ?_ | refine KD.y0 rfl rfl rfl rfl (Val.lenS rfl rfl) ?_)
      (first | refine KD.no rfl rfl rfl rfl rfl ?_ | refine KD.noU rfl rfl rfl rfl rfl ?_ | refine KD.y0 rfl rfl rfl rfl (Val.isT (Val.geq rfl rfl) byLt) ?_ | refine KD.y0 rfl rfl rfl rfl (Val.isF (Val.geq rfl rfl) byLt) ?_ | refine KD.y0 rfl rfl rfl rfl (Val.geq rfl rfl) ?_)
      (first | refine KD.v0 rfl rfl (Val.pickT rfl rfl rfl) ?_ | refine KD.v0 rfl rfl (Val.pickF rfl rfl rfl) ?_ | refine KD.v0 rfl rfl (Val.pickB rfl rfl rfl) ?_)
      refine KD.v0 rfl rfl (Val.move rfl) ?_
      (first | refine KD.no rfl rfl rfl rfl rfl ?_ | refine KD.noU rfl rfl rfl rfl rfl ?_ | refine KD.y0 rfl rfl rfl rfl (Val.move rfl) ?_)
      (first | refine KD.no rfl rfl rfl rfl rfl ?_ | refine KD.noU rfl rfl rfl rfl rfl ?_ | refine KD.y0 rfl rfl rfl rfl (Val.move rfl) ?_)
      (first | refine KD.no rfl rfl rfl rfl rfl ?_ | refine KD.noU rfl rfl rfl rfl rfl ?_ | refine KD.y0 rfl rfl rfl rfl (Val.idxSl rfl rfl rfl bySli rfl byLt) ?_ | refine KD.y0 rfl rfl rfl rfl (Val.idxSlZ rfl rfl rfl bySli rfl (by omega)) ?_ | refine KD.y0 rfl rfl rfl rfl (Val.indexS1 rfl rfl rfl rfl (by omega)) ?_ | refine KD.y0 rfl rfl rfl rfl (Val.indexS rfl rfl rfl rfl (by omega)) ?_ | refine KD.y0 rfl rfl rfl rfl (Val.indexSO rfl rfl rfl rfl (by omega)) ?_ | refine KD.y0 rfl rfl rfl rfl (Val.indexSG rfl rfl rfl rfl (by omega)) ?_)
      (first | refine KD.no rfl rfl rfl rfl rfl ?_ | refine KD.noU rfl rfl rfl rfl rfl ?_ | refine KD.y0 rfl rfl rfl rfl (Val.loadAP rfl rfl rfl bySeeA) ?_ | refine KD.y0 rfl rfl rfl rfl (Val.loadA rfl rfl rfl bySeeN) ?_)
      (first | refine KD.no rfl rfl rfl rfl rfl ?_ | refine KD.noU rfl rfl rfl rfl rfl ?_ | refine KD.y0 rfl rfl rfl rfl (Val.move rfl) ?_)
      (first | refine KD.no rfl rfl rfl rfl rfl ?_ | refine KD.noU rfl rfl rfl rfl rfl ?_ | refine KD.y0 rfl rfl rfl rfl (Val.move rfl) ?_)
      (first | refine KD.no rfl rfl rfl rfl rfl ?_ | refine KD.noU rfl rfl rfl rfl rfl ?_ | refine KD.y0 rfl rfl rfl rfl (Val.idxSl rfl rfl rfl bySli rfl byLt) ?_ | refine KD.y0 rfl rfl rfl rfl (Val.idxSlZ rfl rfl rfl bySli rfl (by omega)) ?_ | refine KD.y0 rfl rfl rfl rfl (Val.indexS1 rfl rfl rfl rfl (by omega)) ?_ | refine KD.y0 rfl rfl rfl rfl (Val.indexS rfl rfl rfl rfl (by omega)) ?_ | refine KD.y0 rfl rfl rfl rfl (Val.indexSO rfl rfl rfl rfl (by omega)) ?_ | refine KD.y0 rfl rfl rfl rfl (Val.indexSG rfl rfl rfl rfl (by omega)) ?_)
      (first | refine KD.no rfl rfl rfl rfl rfl ?_ | refine KD.noU rfl rfl rfl rfl rfl ?_ | refine KD.y0 rfl rfl rfl rfl (Val.loadAP rfl rfl rfl bySeeA) ?_ | refine KD.y0 rfl rfl rfl rfl (Val.loadA rfl rfl rfl bySeeN) ?_)
      (first | refine KD.no rfl rfl rfl rfl rfl ?_ | refine KD.noU rfl rfl rfl rfl rfl ?_ | refine KD.y0 rfl rfl rfl rfl (Val.neqAE rfl rfl (by kernel_rfl) byEqv (by first | assumption | rfl)) ?_ | refine KD.y0 rfl rfl rfl rfl (Val.neqAN rfl rfl (by kernel_rfl) byEqv (by first | assumption | rfl)) ?_ | refine KD.y0 rfl rfl rfl rfl (Val.neqA rfl rfl (by kernel_rfl) byEqv) ?_)
      (first | refine KD.v0 rfl rfl (Val.pickT rfl rfl rfl) ?_ | refine KD.v0 rfl rfl (Val.pickF rfl rfl rfl) ?_ | refine KD.v0 rfl rfl (Val.pickB rfl rfl rfl) ?_)
      refine KD.nil ?_
      refine byCode ?_
      (refine KL.v rfl (Val.move rfl) ?_)
      (refine KL.v rfl (Val.assign rfl) ?_)
      (refine KL.v rfl (Val.assign rfl) ?_)
      refine KL.nil ?_
      refine byCode ?_
      exact KE.fin byMarks rfl byRes byPart ⟨by unfold diffV; rw [hd]; rfl, rfl⟩
  · by_cases hlb : k < b.length
    · have hd := diffP_some hsame (by obtain ⟨y, hy⟩ := get_of_lt hlb; rw [hy, List.getElem?_eq_none (l := a) (by omega)]; simp)
      refine byCode ?_
      (refine KL.v rfl (Val.move rfl) ?_)
      (refine KL.v rfl (Val.move rfl) ?_)
      (first | (refine KL.v rfl (Val.lenSl rfl rfl bySli) ?_) | (refine KL.v rfl (Val.lenS rfl rfl) ?_))
      (first | (refine KL.v rfl (Val.isT (Val.lss rfl rfl) byLt) ?_) | (refine KL.v rfl (Val.isF (Val.lss rfl rfl) byLt) ?_) | (refine KL.v rfl (Val.lss rfl rfl) ?_))
      (refine KL.v rfl (Val.move rfl) ?_)
      (first | refine KL.skipG rfl rfl rfl ?_ | refine KL.skipU rfl rfl rfl ?_ | (refine KL.yes rfl rfl ?_; refine KL.v rfl (Val.move rfl) ?_))
      (first | refine KL.skipG rfl rfl rfl ?_ | refine KL.skipU rfl rfl rfl ?_ | (refine KL.yes rfl rfl ?_; refine KL.v rfl (Val.move rfl) ?_))
      (first | refine KL.skipG rfl rfl rfl ?_ | refine KL.skipU rfl rfl rfl ?_ | (refine KL.yes rfl rfl ?_; refine KL.v rfl (Val.lenSl rfl rfl bySli) ?_) | (refine KL.yes rfl rfl ?_; refine KL.v rfl (Val.lenS rfl rfl) ?_))
      (first | refine KL.skipG rfl rfl rfl ?_ | refine KL.skipU rfl rfl rfl ?_ | (refine KL.yes rfl rfl ?_; refine KL.v rfl (Val.isT (Val.lss rfl rfl) byLt) ?_) | (refine KL.yes rfl rfl ?_; refine KL.v rfl (Val.isF (Val.lss rfl rfl) byLt) ?_) | (refine KL.yes rfl rfl ?_; refine KL.v rfl (Val.lss rfl rfl) ?_))
      (first | (refine KL.v rfl (Val.pickT rfl rfl rfl) ?_) | (refine KL.v rfl (Val.pickF rfl rfl rfl) ?_) | (refine KL.v rfl (Val.pickB rfl rfl rfl) ?_))
      refine KL.nil ?_
      refine byCode ?_
      refine K.seq (K.block ?_)
      refine byCodeD ?_
      (first | refine K.seq (K.drawn _ [(0, 0), (1, 0), (2, 0), (3, 0), (4, 0), (5, 0), (6, 0), (7, 0), (8, 0), (9, 0), (10, 0), (11, 0), (12, 0), (13, 0), (14, 0), (15, 0), (16, 0), (17, 0), (18, 0), (19, 0), (20, 0)] (by kernel_rfl) (by kernel_rfl) (by kernel_rfl) (by kernel_rfl) (by kernel_rfl) (by kernel_rfl) Part.all ?_) | refine K.seq (K.seq (K.drawn _ [(0, 0), (1, 0), (2, 0), (3, 0), (4, 0), (5, 0), (6, 0), (7, 0), (8, 0), (9, 0), (10, 0), (11, 0), (12, 0), (13, 0), (14, 0), (15, 0), (16, 0), (17, 0), (18, 0), (19, 0), (20, 0)] (by kernel_rfl) (by kernel_rfl) (by kernel_rfl) (by kernel_rfl) (by kernel_rfl) (by kernel_rfl) Part.all ?_)) | refine K.drawn _ [(0, 0), (1, 0), (2, 0), (3, 0), (4, 0), (5, 0), (6, 0), (7, 0), (8, 0), (9, 0), (10, 0), (11, 0), (12, 0), (13, 0), (14, 0), (15, 0), (16, 0), (17, 0), (18, 0), (19, 0), (20, 0)] (by kernel_rfl) (by kernel_rfl) (by kernel_rfl) (by kernel_rfl) (by kernel_rfl) (by kernel_rfl) Part.all ?_)
      refine KD.v0 rfl rfl (Val.move rfl) ?_
      refine KD.v0 rfl rfl (Val.move rfl) ?_
      (first | refine KD.v0 rfl rfl (Val.lenSl rfl rfl bySli) ?_ | refine KD.v0 rfl rfl (Val.lenS rfl rfl) ?_)
      (first | refine KD.v0 rfl rfl (Val.isT (Val.geq rfl rfl) byLt) ?_ | refine KD.v0 rfl rfl (Val.isF (Val.geq rfl rfl) byLt) ?_ | refine KD.v0 rfl rfl (Val.geq rfl rfl) ?_)
      refine KD.v0 rfl rfl (Val.move rfl) ?_
      (first | refine KD.no rfl rfl rfl rfl rfl ?_ | refine KD.noU rfl rfl rfl rfl rfl ?_ | refine KD.y0 rfl rfl rfl rfl (Val.move rfl) ?_)
      (first | refine KD.no rfl rfl rfl rfl rfl ?_ | refine KD.noU rfl rfl rfl rfl rfl ?_ | refine KD.y0 rfl rfl rfl rfl (Val.move rfl) ?_)
      (first | refine KD.no rfl rfl rfl rfl rfl ?_ | refine KD.noU rfl rfl rfl rfl rfl ?_ | refine KD.y0 rfl rfl rfl rfl (Val.lenSl rfl rfl bySli) ?_ | refine KD.y0 rfl rfl rfl rfl (Val.lenS rfl rfl) ?_)
      (first | refine KD.no rfl rfl rfl rfl rfl ?_ | refine KD.noU rfl rfl rfl rfl rfl ?_ | refine KD.y0 rfl rfl rfl rfl (Val.isT (Val.geq rfl rfl) byLt) ?_ | refine KD.y0 rfl rfl rfl rfl (Val.isF (Val.geq rfl rfl) byLt) ?_ | refine KD.y0 rfl rfl rfl rfl (Val.geq rfl rfl) ?_)
      (first | refine KD.v0 rfl rfl (Val.pickT rfl rfl rfl) ?_ | refine KD.v0 rfl rfl (Val.pickF rfl rfl rfl) ?_ | refine KD.v0 rfl rfl (Val.pickB rfl rfl rfl) ?_)
      refine KD.v0 rfl rfl (Val.move rfl) ?_
      (first | refine KD.no rfl rfl rfl rfl rfl ?_ | refine KD.noU rfl rfl rfl rfl rfl ?_ | refine KD.y0 rfl rfl rfl rfl (Val.move rfl) ?_)
      (first | refine KD.no rfl rfl rfl rfl rfl ?_ | refine KD.noU rfl rfl rfl rfl rfl ?_ | refine KD.y0 rfl rfl rfl rfl (Val.move rfl) ?_)
      (first | refine KD.no rfl rfl rfl rfl rfl ?_ | refine KD.noU rfl rfl rfl rfl rfl ?_ | refine KD.y0 rfl rfl rfl rfl (Val.idxSl rfl rfl rfl bySli rfl byLt) ?_ | refine KD.y0 rfl rfl rfl rfl (Val.idxSlZ rfl rfl rfl bySli rfl (by omega)) ?_ | refine KD.y0 rfl rfl rfl rfl (Val.indexS1 rfl rfl rfl rfl (by omega)) ?_ | refine KD.y0 rfl rfl rfl rfl (Val.indexS rfl rfl rfl rfl (by omega)) ?_ | refine KD.y0 rfl rfl rfl rfl (Val.indexSO rfl rfl rfl rfl (by omega)) ?_ | refine KD.y0 rfl rfl rfl rfl (Val.indexSG rfl rfl rfl rfl (by omega)) ?_)
      (first | refine KD.no rfl rfl rfl rfl rfl ?_ | refine KD.noU rfl rfl rfl rfl rfl ?_ | refine KD.y0 rfl rfl rfl rfl (Val.loadAP rfl rfl rfl bySeeA) ?_ | refine KD.y0 rfl rfl rfl rfl (Val.loadA rfl rfl rfl bySeeN) ?_)
      (first | refine KD.no rfl rfl rfl rfl rfl ?_ | refine KD.noU rfl rfl rfl rfl rfl ?_ | refine KD.y0 rfl rfl rfl rfl (Val.move rfl) ?_)
      (first | refine KD.no rfl rfl rfl rfl rfl ?_ | refine KD.noU rfl rfl rfl rfl rfl ?_ | refine KD.y0 rfl rfl rfl rfl (Val.move rfl) ?_)
      (first | refine KD.no rfl rfl rfl rfl rfl ?_ | refine KD.noU rfl rfl rfl rfl rfl ?_ | refine KD.y0 rfl rfl rfl rfl (Val.idxSl rfl rfl rfl bySli rfl byLt) ?_ | refine KD.y0 rfl rfl rfl rfl (Val.idxSlZ rfl rfl rfl bySli rfl (by omega)) ?_ | refine KD.y0 rfl rfl rfl rfl (Val.indexS1 rfl rfl rfl rfl (by omega)) ?_ | refine KD.y0 rfl rfl rfl rfl (Val.indexS rfl rfl rfl rfl (by omega)) ?_ | refine KD.y0 rfl rfl rfl rfl (Val.indexSO rfl rfl rfl rfl (by omega)) ?_ | refine KD.y0 rfl rfl rfl rfl (Val.indexSG rfl rfl rfl rfl (by omega)) ?_)
      (first | refine KD.no rfl rfl rfl rfl rfl ?_ | refine KD.noU rfl rfl rfl rfl rfl ?_ | refine KD.y0 rfl rfl rfl rfl (Val.loadAP rfl rfl rfl bySeeA) ?_ | refine KD.y0 rfl rfl rfl rfl (Val.loadA rfl rfl rfl bySeeN) ?_)
      (first | refine KD.no rfl rfl rfl rfl rfl ?_ | refine KD.noU rfl rfl rfl rfl rfl ?_ | refine KD.y0 rfl rfl rfl rfl (Val.neqAE rfl rfl (by kernel_rfl) byEqv (by first | assumption | rfl)) ?_ | refine KD.y0 rfl rfl rfl rfl (Val.neqAN rfl rfl (by kernel_rfl) byEqv (by first | assumption | rfl)) ?_ | refine KD.y0 rfl rfl rfl rfl (Val.neqA rfl rfl (by kernel_rfl) byEqv) ?_)
      (first | refine KD.v0 rfl rfl (Val.pickT rfl rfl rfl) ?_ | refine KD.v0 rfl rfl (Val.pickF rfl rfl rfl) ?_ | refine KD.v0 rfl rfl (Val.pickB rfl rfl rfl) ?_)
      refine KD.nil ?_
      refine byCode ?_
      (refine KL.v rfl (Val.move rfl) ?_)
      (refine KL.v rfl (Val.assign rfl) ?_)
      (refine KL.v rfl (Val.assign rfl) ?_)
      refine KL.nil ?_
      refine byCode ?_
      exact KE.fin byMarks rfl byRes byPart ⟨by unfold diffV; rw [hd]; rfl, rfl⟩
    · have hd := diffP_same (fun j hj => hsame j (by omega)) (by omega)
      refine byCode ?_
      (refine KL.v rfl (Val.move rfl) ?_)
      (refine KL.v rfl (Val.move rfl) ?_)
      (first | (refine KL.v rfl (Val.lenSl rfl rfl bySli) ?_) | (refine KL.v rfl (Val.lenS rfl rfl) ?_))
      (first | (refine KL.v rfl (Val.isT (Val.lss rfl rfl) byLt) ?_) | (refine KL.v rfl (Val.isF (Val.lss rfl rfl) byLt) ?_) | (refine KL.v rfl (Val.lss rfl rfl) ?_))
      (refine KL.v rfl (Val.move rfl) ?_)
      (first | refine KL.skipG rfl rfl rfl ?_ | refine KL.skipU rfl rfl rfl ?_ | (refine KL.yes rfl rfl ?_; refine KL.v rfl (Val.move rfl) ?_))
      (first | refine KL.skipG rfl rfl rfl ?_ | refine KL.skipU rfl rfl rfl ?_ | (refine KL.yes rfl rfl ?_; refine KL.v rfl (Val.move rfl) ?_))
      (first | refine KL.skipG rfl rfl rfl ?_ | refine KL.skipU rfl rfl rfl ?_ | (refine KL.yes rfl rfl ?_; refine KL.v rfl (Val.lenSl rfl rfl bySli) ?_) | (refine KL.yes rfl rfl ?_; refine KL.v rfl (Val.lenS rfl rfl) ?_))
      (first | refine KL.skipG rfl rfl rfl ?_ | refine KL.skipU rfl rfl rfl ?_ | (refine KL.yes rfl rfl ?_; refine KL.v rfl (Val.isT (Val.lss rfl rfl) byLt) ?_) | (refine KL.yes rfl rfl ?_; refine KL.v rfl (Val.isF (Val.lss rfl rfl) byLt) ?_) | (refine KL.yes rfl rfl ?_; refine KL.v rfl (Val.lss rfl rfl) ?_))
      (first | (refine KL.v rfl (Val.pickT rfl rfl rfl) ?_) | (refine KL.v rfl (Val.pickF rfl rfl rfl) ?_) | (refine KL.v rfl (Val.pickB rfl rfl rfl) ?_))
      refine KL.nil ?_
      refine byCode ?_
      (refine KL.v rfl (Val.assign rfl) ?_)
      (refine KL.v rfl (Val.assign rfl) ?_)
      refine KL.nil ?_
      refine byCode ?_
      exact KE.fin byMarks rfl byRes byPart ⟨by unfold diffV; rw [hd]; rfl, rfl⟩

set_option maxRecDepth 10000 in
theorem Same_K {w0 : World} {H : Heap} {va vb : Value} {a b : List Seen} (hA : SlW w0 sE va a) (hB : SlW w0 sE vb b) :
    Call Try.prog w0 12 [va, vb] H (fun r H' => r = .bool (decide (a = b)) ∧ H' = H) := by
  refine Call.enter (n := 15) [(0, va), (1, vb)] (by kernel_rfl) Try.func12 rfl rfl rfl ⟨rfl, rfl, trivial⟩ ?_
  refine byCode ?_
  (refine KL.v rfl (Val.assign rfl) ?_)
  refine KL.nil ?_
  refine byCode ?_
  (refine KL.v rfl (Val.move rfl) ?_)
  (refine KL.v rfl (Val.move rfl) ?_)
  (refine KL.callc rfl rfl byEvL fun T hT => ?_)
  refine (CallV.fn (rDiff_K hA hB)).mono ?_
  rintro _ _ ⟨rfl, rfl⟩
  refine hT _ _ ?_; clear hT; clear T
  unfold diffV
  (refine KL.v rfl (Val.move rfl) ?_)
  (refine KL.v rfl (Val.extract rfl rfl) ?_)
  (refine KL.v rfl (Val.extract rfl rfl) ?_)
  (refine KL.v rfl (Val.assign rfl) ?_)
  (refine KL.v rfl (Val.assign rfl) ?_)
  refine KL.nil ?_
  refine byCode ?_
  (refine KL.v rfl (Val.move rfl) ?_)
  (first | (refine KL.v rfl (Val.notT rfl) ?_) | (refine KL.v rfl (Val.notF rfl) ?_) | (refine KL.v rfl (Val.not rfl) ?_) | (refine KL.v rfl (Val.notB rfl) ?_))
  (refine KL.v rfl (Val.assign rfl) ?_)
  refine KL.nil ?_
  refine byCode ?_
  refine KE.fin byMarks rfl byRes byPart ⟨?_, rfl⟩
  show Value.bool (!(diffP a b).isSome) = _
  congr 1
  cases hd : diffP a b with
  | none => simp [diffP_none.1 hd]
  | some i =>
    have : a ≠ b := fun h => by rw [diffP_none.2 h] at hd; cases hd
    simp [this]
end Go.Proofs.Ytdkanfjpdnjhcaa
