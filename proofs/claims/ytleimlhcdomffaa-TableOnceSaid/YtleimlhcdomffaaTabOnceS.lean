/- TableOnce returns true, whatever it is given: the walk, with a sparse frame. -/
import Derived.Test.YtleimlhcdomffaaTabOnceMint
import Derived.Test.YtleimlhcdomffaaTabOnceElse
import Derived.Test.YtleimlhcdomffaaTabOnceEnd
namespace Go.Proofs.Ytleimlhcdomffaa
open Go.RowKit Go.Shelf
set_option linter.unusedVariables false

set_option maxRecDepth 100000 in
set_option maxHeartbeats 4000000 in
theorem tableOnce_any (g0 g1 : Int) (a : Option Addr) (l : List Actv) (cap : Nat) (w : World) (h0 : 0 ≤ g0 ∧ g0 ≤ 255) (h1 : 0 ≤ g1 ∧ g1 ≤ 255) (hl : l.length ≤ maxLen) (hin : ActsIn w a l) :
    Calls Try.prog 4 #[.int .u8 g0, .int .u8 g1, .slice a l.length cap] w (AwakeEnd w) := by
  unfold maxLen at hl
  have HIN := Lib.hid hin
  clear hin
  refine J.enter (n := 264) [(0, .int .u8 g0), (1, .int .u8 g1), (2, .slice a l.length cap)] Try.func4 rfl rfl (by simp) ⟨rfl, rfl, rfl, trivial⟩ ?_
  (repeat (first | refine JL.move rfl rfl ?_ | refine JL.append rfl rfl rfl (by assumption) ?_ | refine JL.assign rfl rfl ?_ | refine JL.guardNo rfl rfl rfl ?_ | refine JL.guardU rfl rfl rfl ?_ | (refine JL.pickT rfl rfl rfl rfl ?_) | (refine JL.pickF rfl rfl rfl rfl ?_) | (refine JL.put rfl rfl fun K hK => ?_; go_simp; (try go_bits); refine hK _ _ ?_; clear hK; clear K) | (refine JL.no rfl fun K hK => ?_; go_simp; (try go_bits); refine hK _ _ ?_; clear hK; clear K) | (refine JL.guardYes rfl rfl rfl rfl fun K hK => ?_; go_simp; (try go_bits); refine hK _ _ ?_; clear hK; clear K) | refine JL.nil ?_ | refine JE.next ?_ | refine JE.passX ?_ | refine JE.passR ?_ | refine JE.blkN ?_ | refine JE.blkR ?_ | refine JE.blkX ?_ | refine JE.blkO rfl ?_ | refine J.seq (J.region ?_) | refine J.region ?_ | refine J.skip ?_ | refine J.exit ?_ | refine J.ret ?_ | refine J.condT rfl ?_ | refine J.condF rfl ?_ | refine J.seq (J.condT rfl ?_) | refine J.seq (J.condF rfl ?_)))
  (first | refine JL.put rfl rfl fun K hK => ?_ | refine JL.guardYes rfl rfl rfl rfl fun K hK => ?_ | refine JL.no rfl fun K hK => ?_); go_simp; (try go_bits)
  refine (New_int _ _ w (by omega) (by omega) (by omega) (by omega)).mono ?_
  rintro r w1 ⟨b, e, rfl, hb, he, hT1, hO1⟩
  refine hK _ _ ?_; clear hK; clear K
  obtain ⟨gens, hgens⟩ : ∃ gens, 1 + g1 % 8 = gens := ⟨_, rfl⟩
  obtain ⟨many, hmany⟩ : ∃ many, 1 + g0 % 16 = many := ⟨_, rfl⟩
  have hg1 : 1 ≤ gens := by omega
  have hg2 : gens ≤ 8 := by omega
  have hm1 : 1 ≤ many := by omega
  have hm2 : many ≤ 16 := by omega
  rw [hgens, hmany] at hT1
  clear hgens hmany
  have hst : OnceMem w b e many.toNat gens (List.replicate many.toNat ent0) [] (.slice none 0 0) (.slice none 0 0) (.slice none 0 0) (.slice none 0 0) w1 := by
    refine ⟨hT1, ⟨by simp; omega, by simp; omega, ?_⟩, Sl.nil _ _ _, Sl.nil _ _ _, Sl.nil _ _ _, Sl.nil _ _ _, ⟨fun k => if k = b then 5 else if k = e then 6 else 0, ?_, ?_, ?_, ?_, ?_, ?_⟩, ?_, hO1⟩
    · intro x hx
      have := List.eq_of_mem_replicate hx
      subst this
      decide
    · intro g hg; simp [blk_nil] at hg
    · intro g hg; simp [blk_nil] at hg
    · intro g hg; simp [blk_nil] at hg
    · intro g hg; simp [blk_nil] at hg
    · simp
    · have := hT1.head.2.2.2.2; simp; intro h; exact absurd h.symm this
    · intro g hg; simp [blk_nil] at hg; rcases hg with rfl | rfl <;> assumption
  have HST := Lib.hid (And.intro hst (OnceInv.nil many.toNat ent0 (by decide)))
  clear hst hT1 hO1
  (repeat (first | refine JL.move rfl rfl ?_ | refine JL.append rfl rfl rfl (by assumption) ?_ | refine JL.assign rfl rfl ?_ | refine JL.guardNo rfl rfl rfl ?_ | refine JL.guardU rfl rfl rfl ?_ | (refine JL.pickT rfl rfl rfl rfl ?_) | (refine JL.pickF rfl rfl rfl rfl ?_) | (refine JL.put rfl rfl fun K hK => ?_; go_simp; (try go_bits); refine hK _ _ ?_; clear hK; clear K) | (refine JL.no rfl fun K hK => ?_; go_simp; (try go_bits); refine hK _ _ ?_; clear hK; clear K) | (refine JL.guardYes rfl rfl rfl rfl fun K hK => ?_; go_simp; (try go_bits); refine hK _ _ ?_; clear hK; clear K) | refine JL.nil ?_ | refine JE.next ?_ | refine JE.passX ?_ | refine JE.passR ?_ | refine JE.blkN ?_ | refine JE.blkR ?_ | refine JE.blkX ?_ | refine JE.blkO rfl ?_ | refine J.seq (J.region ?_) | refine J.region ?_ | refine J.skip ?_ | refine J.exit ?_ | refine J.ret ?_ | refine J.condT rfl ?_ | refine J.condF rfl ?_ | refine J.seq (J.condT rfl ?_) | refine J.seq (J.condF rfl ?_) | refine J.seq (J.seq (J.region ?_))))
  refine J.block ?_
  refine J.loop (σ := OSt) (fun s => [(13, .int .i64 s.i), (9, .slice s.a9 s.n s.c9), (10, .slice s.a10 s.n s.c10), (11, .slice s.a11 s.n s.c11), (12, .slice s.a12 s.n s.c12), (7, .pointer (some ⟨b, 0, none⟩)), (2, .slice a l.length cap)])
    (fun s W => s.i ≤ l.length ∧ s.i ≤ 150 ∧ OGood w b e many.toNat gens s s.i W) (fun s => 150 - s.i) ⟨0, 0, none, none, none, none, 0, 0, 0, 0, _, []⟩ ⟨rfl, rfl, rfl, rfl, rfl, rfl, rfl, trivial⟩ ⟨by simp, by simp, Lib.hid ⟨HST.out.1, HST.out.2, rfl, by simp⟩⟩ ?_
  rintro ⟨i, n, a9, a10, a11, a12, c9, c10, c11, c12, es, hs⟩ wr ⟨hi1, hi2, HM⟩
  simp only at hi1 hi2
  have HM : Hid (OnceMem w b e many.toNat gens es hs (.slice a9 n c9) (.slice a10 n c10) (.slice a11 n c11) (.slice a12 n c12) wr ∧ OnceInv es hs ∧ hs.length = n ∧ n ≤ i) := HM
  clear HST
  refine J.sub [(13, .int .i64 i), (9, .slice a9 n c9), (10, .slice a10 n c10), (11, .slice a11 n c11), (12, .slice a12 n c12), (7, .pointer (some ⟨b, 0, none⟩)), (2, .slice a l.length cap)] ⟨rfl, rfl, rfl, rfl, rfl, rfl, rfl, trivial⟩ ?_
  by_cases hlt : i < l.length ∧ i < 150
  · obtain ⟨hlt1, hlt2⟩ := hlt
    have hlt3 : (i : Int) < 150 := by omega
    obtain ⟨bl, off, rfl, hbl, hcells⟩ := HIN.out (by intro h; rw [h] at hlt1; simp at hlt1)
    obtain ⟨x, hx⟩ : ∃ x, l[i]? = some x := ⟨l[i], List.getElem?_eq_getElem hlt1⟩
    obtain ⟨hxok, x0, x1, x2, x3⟩ := hcells i x hx
    have hO := HM.out.1.only
    have y0 := (World.cell?_of_block (w := w) (hO.block bl hbl (by simp)) (a := ⟨bl, off + i * 4, none⟩)).trans x0
    have y1 := (World.cell?_of_block (w := w) (hO.block bl hbl (by simp)) (a := ⟨bl, off + i * 4 + 1, none⟩)).trans x1
    have y2 := (World.cell?_of_block (w := w) (hO.block bl hbl (by simp)) (a := ⟨bl, off + i * 4 + 2, none⟩)).trans x2
    have y3 := (World.cell?_of_block (w := w) (hO.block bl hbl (by simp)) (a := ⟨bl, off + i * 4 + 3, none⟩)).trans x3
    obtain ⟨xw, xs, xi, xo⟩ := x
    obtain ⟨k1, k2, k3, k4, k5, k6, k7, k8⟩ := hxok
    simp only at y0 y1 y2 y3 k1 k2 k3 k4 k5 k6 k7 k8
    clear hcells hx x0 x1 x2 x3 hO
    have HM1 : Hid ((OnceMem w b e many.toNat gens es hs (.slice a9 n c9) (.slice a10 n c10) (.slice a11 n c11) (.slice a12 n c12) (wr.alloc (.cells #[.int .u8 xw, .int .i64 xs, .int .i64 xi, .int .i8 xo] 40)) ∧ OnceInv es hs ∧ hs.length = n ∧ n ≤ i ∧ Blk (wr.alloc (.cells #[.int .u8 xw, .int .i64 xs, .int .i64 xi, .int .i8 xo] 40)) wr.heap.size #[.int .u8 xw, .int .i64 xs, .int .i64 xi, .int .i8 xo] 40) ∧ w.heap.size ≤ wr.heap.size ∧ (wr.heap.size ≠ b ∧ wr.heap.size ≠ e ∧ wr.heap.size ∉ blk (.slice a9 n c9) ∧ wr.heap.size ∉ blk (.slice a10 n c10) ∧ wr.heap.size ∉ blk (.slice a11 n c11))) :=
      Lib.hid ⟨⟨HM.out.1.grow ((Only.refl _ _).alloc _), HM.out.2.1, HM.out.2.2.1, HM.out.2.2.2, Blk.new _ _ _⟩, HM.out.1.only.size, by have := HM.out.1.lts.1; omega, by have := HM.out.1.lts.2; omega,
        fun hm => by have := HM.out.1.s9.lt _ hm; omega, fun hm => by have := HM.out.1.s10.lt _ hm; omega, fun hm => by have := HM.out.1.s11.lt _ hm; omega⟩
    have hn150 : n ≤ 150 := by have := HM.out.2.2.2; omega
    clear HM
    (repeat (first | refine JL.move rfl rfl ?_ | refine JL.append rfl rfl rfl (by assumption) ?_ | refine JL.assign rfl rfl ?_ | refine JL.guardNo rfl rfl rfl ?_ | refine JL.guardU rfl rfl rfl ?_ | (refine JL.pickT rfl rfl rfl rfl ?_) | (refine JL.pickF rfl rfl rfl rfl ?_) | (refine JL.put rfl rfl fun K hK => ?_; go_simp; (try go_bits); refine hK _ _ ?_; clear hK; clear K) | (refine JL.no rfl fun K hK => ?_; go_simp; (try go_bits); refine hK _ _ ?_; clear hK; clear K) | (refine JL.guardYes rfl rfl rfl rfl fun K hK => ?_; go_simp; (try go_bits); refine hK _ _ ?_; clear hK; clear K) | refine JL.nil ?_ | refine JE.next ?_ | refine JE.passX ?_ | refine JE.passR ?_ | refine JE.blkN ?_ | refine JE.blkR ?_ | refine JE.blkX ?_ | refine JE.blkO rfl ?_ | refine J.seq (J.region ?_) | refine J.region ?_ | refine J.skip ?_ | refine J.exit ?_ | refine J.ret ?_ | refine J.condT rfl ?_ | refine J.condF rfl ?_ | refine J.seq (J.condT rfl ?_) | refine J.seq (J.condF rfl ?_) | refine J.seq (J.seq (J.region ?_))))
    refine J.cut (σ := OSt) (fun s => [(13, .int .i64 i), (9, .slice s.a9 s.n s.c9), (10, .slice s.a10 s.n s.c10), (11, .slice s.a11 s.n s.c11), (12, .slice s.a12 s.n s.c12), (7, .pointer (some ⟨b, 0, none⟩)), (2, .slice (some ⟨bl, off, none⟩) l.length cap)])
      (fun s W => OGood w b e many.toNat gens s (i + 1) W) (J.block ?_) ?_
    · (repeat (first | refine JL.move rfl rfl ?_ | refine JL.append rfl rfl rfl (by assumption) ?_ | refine JL.assign rfl rfl ?_ | refine JL.guardNo rfl rfl rfl ?_ | refine JL.guardU rfl rfl rfl ?_ | (refine JL.pickT rfl rfl rfl rfl ?_) | (refine JL.pickF rfl rfl rfl rfl ?_) | (refine JL.put rfl rfl fun K hK => ?_; go_simp; (try go_bits); refine hK _ _ ?_; clear hK; clear K) | (refine JL.no rfl fun K hK => ?_; go_simp; (try go_bits); refine hK _ _ ?_; clear hK; clear K) | (refine JL.guardYes rfl rfl rfl rfl fun K hK => ?_; go_simp; (try go_bits); refine hK _ _ ?_; clear hK; clear K) | refine JL.nil ?_ | refine JE.next ?_ | refine JE.passX ?_ | refine JE.passR ?_ | refine JE.blkN ?_ | refine JE.blkR ?_ | refine JE.blkX ?_ | refine JE.blkO rfl ?_ | refine J.seq (J.region ?_) | refine J.region ?_ | refine J.skip ?_ | refine J.exit ?_ | refine J.ret ?_ | refine J.condT rfl ?_ | refine J.condF rfl ?_ | refine J.seq (J.condT rfl ?_) | refine J.seq (J.condF rfl ?_)))
      refine J.cut (σ := Nat × Nat) (fun s => [(14, .pointer (some ⟨s.1, 0, none⟩)), (15, .int .i64 (s.2 : Nat)), (13, .int .i64 i), (9, .slice a9 n c9), (10, .slice a10 n c10), (11, .slice a11 n c11), (12, .slice a12 n c12), (7, .pointer (some ⟨b, 0, none⟩)), (2, .slice (some ⟨bl, off, none⟩) l.length cap)])
        (fun s W => (0 < n → s.2 < n) ∧ Hid ((OnceMem w b e many.toNat gens es hs (.slice a9 n c9) (.slice a10 n c10) (.slice a11 n c11) (.slice a12 n c12) W ∧ OnceInv es hs ∧ hs.length = n ∧ n ≤ i ∧ Blk W s.1 #[.int .u8 xw, .int .i64 xs, .int .i64 xi, .int .i8 xo] 40) ∧ w.heap.size ≤ s.1 ∧ (s.1 ≠ b ∧ s.1 ≠ e ∧ s.1 ∉ blk (.slice a9 n c9) ∧ s.1 ∉ blk (.slice a10 n c10) ∧ s.1 ∉ blk (.slice a11 n c11)))) ?_ ?_
      · by_cases hn : 0 < n
        · have hlo := Int.tmod_lt_of_pos xi (show (0 : Int) < n by omega)
          have hhi := Int.lt_tmod_of_pos xi (show (0 : Int) < n by omega)
          have hne : ¬ n = 0 := by omega
          by_cases hk : xi.tmod n < 0
          · obtain ⟨k, hk2⟩ : ∃ k : Nat, xi.tmod n + n = (k : Int) := ⟨(xi.tmod n + n).toNat, by omega⟩
            have HKK := Lib.hid hk2
            clear hk2
            (repeat (first | refine JL.move rfl rfl ?_ | refine JL.append rfl rfl rfl (by assumption) ?_ | refine JL.assign rfl rfl ?_ | refine JL.guardNo rfl rfl rfl ?_ | refine JL.guardU rfl rfl rfl ?_ | (refine JL.pickT rfl rfl rfl rfl ?_) | (refine JL.pickF rfl rfl rfl rfl ?_) | (refine JL.put rfl rfl fun K hK => ?_; go_simp; (try go_bits); refine hK _ _ ?_; clear hK; clear K) | (refine JL.no rfl fun K hK => ?_; go_simp; (try go_bits); refine hK _ _ ?_; clear hK; clear K) | (refine JL.guardYes rfl rfl rfl rfl fun K hK => ?_; go_simp; (try go_bits); refine hK _ _ ?_; clear hK; clear K) | refine JL.nil ?_ | refine JE.next ?_ | refine JE.passX ?_ | refine JE.passR ?_ | refine JE.blkN ?_ | refine JE.blkR ?_ | refine JE.blkX ?_ | refine JE.blkO rfl ?_ | refine J.seq (J.region ?_) | refine J.region ?_ | refine J.skip ?_ | refine J.exit ?_ | refine J.ret ?_ | refine J.condT rfl ?_ | refine J.condF rfl ?_ | refine J.seq (J.condT rfl ?_) | refine J.seq (J.condF rfl ?_) | refine J.seq (J.seq (J.region ?_))))
            exact JE.meet (_, k) ⟨rfl, by rw [← HKK.out]; rfl, rfl, rfl, rfl, rfl, rfl, rfl, rfl, trivial⟩ ⟨fun _ => by have := HKK.out; simp only; omega, HM1.out⟩
          · obtain ⟨k, hk2⟩ : ∃ k : Nat, xi.tmod n = (k : Int) := ⟨(xi.tmod n).toNat, by omega⟩
            have HKK := Lib.hid hk2
            clear hk2
            (repeat (first | refine JL.move rfl rfl ?_ | refine JL.append rfl rfl rfl (by assumption) ?_ | refine JL.assign rfl rfl ?_ | refine JL.guardNo rfl rfl rfl ?_ | refine JL.guardU rfl rfl rfl ?_ | (refine JL.pickT rfl rfl rfl rfl ?_) | (refine JL.pickF rfl rfl rfl rfl ?_) | (refine JL.put rfl rfl fun K hK => ?_; go_simp; (try go_bits); refine hK _ _ ?_; clear hK; clear K) | (refine JL.no rfl fun K hK => ?_; go_simp; (try go_bits); refine hK _ _ ?_; clear hK; clear K) | (refine JL.guardYes rfl rfl rfl rfl fun K hK => ?_; go_simp; (try go_bits); refine hK _ _ ?_; clear hK; clear K) | refine JL.nil ?_ | refine JE.next ?_ | refine JE.passX ?_ | refine JE.passR ?_ | refine JE.blkN ?_ | refine JE.blkR ?_ | refine JE.blkX ?_ | refine JE.blkO rfl ?_ | refine J.seq (J.region ?_) | refine J.region ?_ | refine J.skip ?_ | refine J.exit ?_ | refine J.ret ?_ | refine J.condT rfl ?_ | refine J.condF rfl ?_ | refine J.seq (J.condT rfl ?_) | refine J.seq (J.condF rfl ?_) | refine J.seq (J.seq (J.region ?_))))
            exact JE.meet (_, k) ⟨rfl, by rw [← HKK.out]; rfl, rfl, rfl, rfl, rfl, rfl, rfl, rfl, trivial⟩ ⟨fun _ => by have := HKK.out; simp only; omega, HM1.out⟩
        · (repeat (first | refine JL.move rfl rfl ?_ | refine JL.append rfl rfl rfl (by assumption) ?_ | refine JL.assign rfl rfl ?_ | refine JL.guardNo rfl rfl rfl ?_ | refine JL.guardU rfl rfl rfl ?_ | (refine JL.pickT rfl rfl rfl rfl ?_) | (refine JL.pickF rfl rfl rfl rfl ?_) | (refine JL.put rfl rfl fun K hK => ?_; go_simp; (try go_bits); refine hK _ _ ?_; clear hK; clear K) | (refine JL.no rfl fun K hK => ?_; go_simp; (try go_bits); refine hK _ _ ?_; clear hK; clear K) | (refine JL.guardYes rfl rfl rfl rfl fun K hK => ?_; go_simp; (try go_bits); refine hK _ _ ?_; clear hK; clear K) | refine JL.nil ?_ | refine JE.next ?_ | refine JE.passX ?_ | refine JE.passR ?_ | refine JE.blkN ?_ | refine JE.blkR ?_ | refine JE.blkX ?_ | refine JE.blkO rfl ?_ | refine J.seq (J.region ?_) | refine J.region ?_ | refine J.skip ?_ | refine J.exit ?_ | refine J.ret ?_ | refine J.condT rfl ?_ | refine J.condF rfl ?_ | refine J.seq (J.condT rfl ?_) | refine J.seq (J.condF rfl ?_) | refine J.seq (J.seq (J.region ?_))))
          exact JE.meet (_, 0) ⟨rfl, rfl, rfl, rfl, rfl, rfl, rfl, rfl, rfl, trivial⟩ ⟨fun h => absurd h hn, HM1.out⟩
      · rintro ⟨ba, k⟩ wc ⟨hk, HM⟩
        simp only at hk HM
        clear HM1 y0 y1 y2 y3
        have z0 := HM.out.1.2.2.2.2.cell (o := 0) rfl
        refine J.sub [(14, .pointer (some ⟨ba, 0, none⟩)), (15, .int .i64 (k : Nat)), (13, .int .i64 i), (9, .slice a9 n c9), (10, .slice a10 n c10), (11, .slice a11 n c11), (12, .slice a12 n c12), (7, .pointer (some ⟨b, 0, none⟩)), (2, .slice (some ⟨bl, off, none⟩) l.length cap)] ⟨rfl, rfl, rfl, rfl, rfl, rfl, rfl, rfl, rfl, trivial⟩ ?_
        refine J.cut (σ := OSt) (fun s => [(13, .int .i64 i), (9, .slice s.a9 s.n s.c9), (10, .slice s.a10 s.n s.c10), (11, .slice s.a11 s.n s.c11), (12, .slice s.a12 s.n s.c12), (7, .pointer (some ⟨b, 0, none⟩)), (2, .slice (some ⟨bl, off, none⟩) l.length cap)])
          (fun s W => OGood w b e many.toNat gens s (i + 1) W) ?_ ?_
        · (repeat (first | refine JL.move rfl rfl ?_ | refine JL.append rfl rfl rfl (by assumption) ?_ | refine JL.assign rfl rfl ?_ | refine JL.guardNo rfl rfl rfl ?_ | refine JL.guardU rfl rfl rfl ?_ | (refine JL.pickT rfl rfl rfl rfl ?_) | (refine JL.pickF rfl rfl rfl rfl ?_) | (refine JL.put rfl rfl fun K hK => ?_; go_simp; (try go_bits); refine hK _ _ ?_; clear hK; clear K) | (refine JL.no rfl fun K hK => ?_; go_simp; (try go_bits); refine hK _ _ ?_; clear hK; clear K) | (refine JL.guardYes rfl rfl rfl rfl fun K hK => ?_; go_simp; (try go_bits); refine hK _ _ ?_; clear hK; clear K) | refine JL.nil ?_ | refine JE.next ?_ | refine JE.passX ?_ | refine JE.passR ?_ | refine JE.blkN ?_ | refine JE.blkR ?_ | refine JE.blkX ?_ | refine JE.blkO rfl ?_ | refine J.seq (J.region ?_) | refine J.region ?_ | refine J.skip ?_ | refine J.exit ?_ | refine J.ret ?_ | refine J.condT rfl ?_ | refine J.condF rfl ?_ | refine J.seq (J.condT rfl ?_) | refine J.seq (J.condF rfl ?_)))
          refine J.block ?_
          refine J.cut (σ := Unit) (fun _ => [(76, .bool (mintB xw)), (75, .int .u8 (xw % 5)), (14, .pointer (some ⟨ba, 0, none⟩)), (15, .int .i64 (k : Nat)), (13, .int .i64 i), (9, .slice a9 n c9), (10, .slice a10 n c10), (11, .slice a11 n c11), (12, .slice a12 n c12), (7, .pointer (some ⟨b, 0, none⟩)), (2, .slice (some ⟨bl, off, none⟩) l.length cap)]) (fun _ W => W = wc) ?_ ?_
          · rcases (show xw % 5 = 0 ∨ xw % 5 = 1 ∨ (xw % 5 = 2 ∨ xw % 5 = 3 ∨ xw % 5 = 4) by omega) with e5 | e5 | e5
            · have HB : Hid (mintB xw = true) := Lib.hid (by unfold mintB; simp [e5])
              have hb0 : (xw % 5 == 0) = true := by rw [e5]; rfl
              clear e5
              (repeat (first | refine JL.move rfl rfl ?_ | refine JL.append rfl rfl rfl (by assumption) ?_ | refine JL.assign rfl rfl ?_ | refine JL.guardNo rfl rfl rfl ?_ | refine JL.guardU rfl rfl rfl ?_ | (refine JL.pickT rfl rfl rfl rfl ?_) | (refine JL.pickF rfl rfl rfl rfl ?_) | (refine JL.put rfl rfl fun K hK => ?_; go_simp; (try go_bits); refine hK _ _ ?_; clear hK; clear K) | (refine JL.no rfl fun K hK => ?_; go_simp; (try go_bits); refine hK _ _ ?_; clear hK; clear K) | (refine JL.guardYes rfl rfl rfl rfl fun K hK => ?_; go_simp; (try go_bits); refine hK _ _ ?_; clear hK; clear K) | refine JL.nil ?_ | refine JE.next ?_ | refine JE.passX ?_ | refine JE.passR ?_ | refine JE.blkN ?_ | refine JE.blkR ?_ | refine JE.blkX ?_ | refine JE.blkO rfl ?_ | refine J.seq (J.region ?_) | refine J.region ?_ | refine J.skip ?_ | refine J.exit ?_ | refine J.ret ?_ | refine J.condT rfl ?_ | refine J.condF rfl ?_ | refine J.seq (J.condT rfl ?_) | refine J.seq (J.condF rfl ?_)))
              exact JE.meet () ⟨by rw [HB.out]; rfl, rfl, rfl, rfl, rfl, rfl, rfl, rfl, rfl, rfl, rfl, trivial⟩ rfl
            · have HB : Hid (mintB xw = true) := Lib.hid (by unfold mintB; simp [e5])
              have hb0 : (xw % 5 == 0) = false := by rw [e5]; rfl
              have hb1 : (xw % 5 == 1) = true := by rw [e5]; rfl
              clear e5
              (repeat (first | refine JL.move rfl rfl ?_ | refine JL.append rfl rfl rfl (by assumption) ?_ | refine JL.assign rfl rfl ?_ | refine JL.guardNo rfl rfl rfl ?_ | refine JL.guardU rfl rfl rfl ?_ | (refine JL.pickT rfl rfl rfl rfl ?_) | (refine JL.pickF rfl rfl rfl rfl ?_) | (refine JL.put rfl rfl fun K hK => ?_; go_simp; (try go_bits); refine hK _ _ ?_; clear hK; clear K) | (refine JL.no rfl fun K hK => ?_; go_simp; (try go_bits); refine hK _ _ ?_; clear hK; clear K) | (refine JL.guardYes rfl rfl rfl rfl fun K hK => ?_; go_simp; (try go_bits); refine hK _ _ ?_; clear hK; clear K) | refine JL.nil ?_ | refine JE.next ?_ | refine JE.passX ?_ | refine JE.passR ?_ | refine JE.blkN ?_ | refine JE.blkR ?_ | refine JE.blkX ?_ | refine JE.blkO rfl ?_ | refine J.seq (J.region ?_) | refine J.region ?_ | refine J.skip ?_ | refine J.exit ?_ | refine J.ret ?_ | refine J.condT rfl ?_ | refine J.condF rfl ?_ | refine J.seq (J.condT rfl ?_) | refine J.seq (J.condF rfl ?_)))
              exact JE.meet () ⟨by rw [HB.out]; rfl, rfl, rfl, rfl, rfl, rfl, rfl, rfl, rfl, rfl, rfl, trivial⟩ rfl
            · have HB : Hid (mintB xw = false) := Lib.hid (by unfold mintB; simp; omega)
              have hb0 : (xw % 5 == 0) = false := by simp; omega
              have hb1 : (xw % 5 == 1) = false := by simp; omega
              clear e5
              (repeat (first | refine JL.move rfl rfl ?_ | refine JL.append rfl rfl rfl (by assumption) ?_ | refine JL.assign rfl rfl ?_ | refine JL.guardNo rfl rfl rfl ?_ | refine JL.guardU rfl rfl rfl ?_ | (refine JL.pickT rfl rfl rfl rfl ?_) | (refine JL.pickF rfl rfl rfl rfl ?_) | (refine JL.put rfl rfl fun K hK => ?_; go_simp; (try go_bits); refine hK _ _ ?_; clear hK; clear K) | (refine JL.no rfl fun K hK => ?_; go_simp; (try go_bits); refine hK _ _ ?_; clear hK; clear K) | (refine JL.guardYes rfl rfl rfl rfl fun K hK => ?_; go_simp; (try go_bits); refine hK _ _ ?_; clear hK; clear K) | refine JL.nil ?_ | refine JE.next ?_ | refine JE.passX ?_ | refine JE.passR ?_ | refine JE.blkN ?_ | refine JE.blkR ?_ | refine JE.blkX ?_ | refine JE.blkO rfl ?_ | refine J.seq (J.region ?_) | refine J.region ?_ | refine J.skip ?_ | refine J.exit ?_ | refine J.ret ?_ | refine J.condT rfl ?_ | refine J.condF rfl ?_ | refine J.seq (J.condT rfl ?_) | refine J.seq (J.condF rfl ?_)))
              exact JE.meet () ⟨by rw [HB.out]; rfl, rfl, rfl, rfl, rfl, rfl, rfl, rfl, rfl, rfl, rfl, trivial⟩ rfl
          · rintro _ _ rfl
            clear z0
            cases hmint : mintB xw with
            | true =>
              refine J.condT rfl ?_
              refine J.sub [(14, .pointer (some ⟨ba, 0, none⟩)), (13, .int .i64 i), (9, .slice a9 n c9), (10, .slice a10 n c10), (11, .slice a11 n c11), (12, .slice a12 n c12), (7, .pointer (some ⟨b, 0, none⟩)), (2, .slice (some ⟨bl, off, none⟩) l.length cap)] ⟨rfl, rfl, rfl, rfl, rfl, rfl, rfl, rfl, trivial⟩ ?_
              refine once_mint (Lib.hid HM.out.1) hlt2 k3 k4 HM.out.2.1 HM.out.2.2 ?_ ?_
              · intro s W' hs'
                exact JE.blkN (JE.meet s ⟨rfl, rfl, rfl, rfl, rfl, rfl, rfl, trivial⟩ hs')
              · intro s W' hs'
                exact JE.blkO rfl (JE.passX (JE.blkX (JE.meet s ⟨rfl, rfl, rfl, rfl, rfl, rfl, rfl, trivial⟩ hs')))
            | false =>
              refine J.condF rfl ?_
              refine J.sub [(75, .int .u8 (xw % 5)), (15, .int .i64 k), (13, .int .i64 i), (9, .slice a9 n c9), (10, .slice a10 n c10), (11, .slice a11 n c11), (12, .slice a12 n c12), (7, .pointer (some ⟨b, 0, none⟩)), (2, .slice (some ⟨bl, off, none⟩) l.length cap)] ⟨rfl, rfl, rfl, rfl, rfl, rfl, rfl, rfl, rfl, trivial⟩ ?_
              refine once_else (Lib.hid ⟨HM.out.1.1, HM.out.1.2.1, HM.out.1.2.2.1, HM.out.1.2.2.2.1⟩) hlt2 (by unfold mintB at hmint; simp at hmint; omega) hk hg1 hg2 ?_
              intro s W' hs'
              exact JE.blkN (JE.meet s ⟨rfl, rfl, rfl, rfl, rfl, rfl, rfl, trivial⟩ hs')
        · rintro ⟨i', n', a9', a10', a11', a12', c9', c10', c11', c12', es', hs'⟩ wx HM2
          clear HM hk z0
          refine once_end HM2 hlt2 ?_
          intro s W' hs'
          exact JE.blkN (JE.meet s ⟨rfl, rfl, rfl, rfl, rfl, rfl, rfl, trivial⟩ hs')
    · rintro ⟨i', n', a9', a10', a11', a12', c9', c10', c11', c12', es', hs'⟩ wx HM
      (repeat (first | refine JL.move rfl rfl ?_ | refine JL.append rfl rfl rfl (by assumption) ?_ | refine JL.assign rfl rfl ?_ | refine JL.guardNo rfl rfl rfl ?_ | refine JL.guardU rfl rfl rfl ?_ | (refine JL.pickT rfl rfl rfl rfl ?_) | (refine JL.pickF rfl rfl rfl rfl ?_) | (refine JL.put rfl rfl fun K hK => ?_; go_simp; (try go_bits); refine hK _ _ ?_; clear hK; clear K) | (refine JL.no rfl fun K hK => ?_; go_simp; (try go_bits); refine hK _ _ ?_; clear hK; clear K) | (refine JL.guardYes rfl rfl rfl rfl fun K hK => ?_; go_simp; (try go_bits); refine hK _ _ ?_; clear hK; clear K) | refine JL.nil ?_ | refine JE.next ?_ | refine JE.passX ?_ | refine JE.passR ?_ | refine JE.blkN ?_ | refine JE.blkR ?_ | refine JE.blkX ?_ | refine JE.blkO rfl ?_ | refine J.seq (J.region ?_) | refine J.region ?_ | refine J.skip ?_ | refine J.exit ?_ | refine J.ret ?_ | refine J.condT rfl ?_ | refine J.condF rfl ?_ | refine J.seq (J.condT rfl ?_) | refine J.seq (J.condF rfl ?_)))
      exact JE.again ⟨i + 1, n', a9', a10', a11', a12', c9', c10', c11', c12', es', hs'⟩ ⟨rfl, rfl, rfl, rfl, rfl, rfl, rfl, trivial⟩ ⟨by simp; omega, by simp; omega, HM⟩ (by simp; omega)
  · by_cases hi : i < l.length
    · have hd : ¬ (i : Int) < 150 := by omega
      (repeat (first | refine JL.move rfl rfl ?_ | refine JL.append rfl rfl rfl (by assumption) ?_ | refine JL.assign rfl rfl ?_ | refine JL.guardNo rfl rfl rfl ?_ | refine JL.guardU rfl rfl rfl ?_ | (refine JL.pickT rfl rfl rfl rfl ?_) | (refine JL.pickF rfl rfl rfl rfl ?_) | (refine JL.put rfl rfl fun K hK => ?_; go_simp; (try go_bits); refine hK _ _ ?_; clear hK; clear K) | (refine JL.no rfl fun K hK => ?_; go_simp; (try go_bits); refine hK _ _ ?_; clear hK; clear K) | (refine JL.guardYes rfl rfl rfl rfl fun K hK => ?_; go_simp; (try go_bits); refine hK _ _ ?_; clear hK; clear K) | refine JL.nil ?_ | refine JE.next ?_ | refine JE.passX ?_ | refine JE.passR ?_ | refine JE.blkN ?_ | refine JE.blkR ?_ | refine JE.blkX ?_ | refine JE.blkO rfl ?_ | refine J.seq (J.region ?_) | refine J.region ?_ | refine J.skip ?_ | refine J.exit ?_ | refine J.ret ?_ | refine J.condT rfl ?_ | refine J.condF rfl ?_ | refine J.seq (J.condT rfl ?_) | refine J.seq (J.condF rfl ?_) | refine J.seq (J.seq (J.region ?_))))
      (first | refine JL.put rfl rfl fun K hK => ?_ | refine JL.guardYes rfl rfl rfl rfl fun K hK => ?_ | refine JL.no rfl fun K hK => ?_); go_simp; (try go_bits)
      refine (awake_any _).mono ?_
      rintro r w' ⟨rfl, ho⟩
      refine hK _ _ ?_; clear hK; clear K
      (repeat (first | refine JL.move rfl rfl ?_ | refine JL.append rfl rfl rfl (by assumption) ?_ | refine JL.assign rfl rfl ?_ | refine JL.guardNo rfl rfl rfl ?_ | refine JL.guardU rfl rfl rfl ?_ | (refine JL.pickT rfl rfl rfl rfl ?_) | (refine JL.pickF rfl rfl rfl rfl ?_) | (refine JL.put rfl rfl fun K hK => ?_; go_simp; (try go_bits); refine hK _ _ ?_; clear hK; clear K) | (refine JL.no rfl fun K hK => ?_; go_simp; (try go_bits); refine hK _ _ ?_; clear hK; clear K) | (refine JL.guardYes rfl rfl rfl rfl fun K hK => ?_; go_simp; (try go_bits); refine hK _ _ ?_; clear hK; clear K) | refine JL.nil ?_ | refine JE.next ?_ | refine JE.passX ?_ | refine JE.passR ?_ | refine JE.blkN ?_ | refine JE.blkR ?_ | refine JE.blkX ?_ | refine JE.blkO rfl ?_ | refine J.seq (J.region ?_) | refine J.region ?_ | refine J.skip ?_ | refine J.exit ?_ | refine J.ret ?_ | refine J.condT rfl ?_ | refine J.condF rfl ?_ | refine J.seq (J.condT rfl ?_) | refine J.seq (J.condF rfl ?_) | refine J.seq (J.seq (J.region ?_))))
      exact JE.fin1 rfl rfl ⟨rfl, HM.out.1.only.trans ho⟩
    · (repeat (first | refine JL.move rfl rfl ?_ | refine JL.append rfl rfl rfl (by assumption) ?_ | refine JL.assign rfl rfl ?_ | refine JL.guardNo rfl rfl rfl ?_ | refine JL.guardU rfl rfl rfl ?_ | (refine JL.pickT rfl rfl rfl rfl ?_) | (refine JL.pickF rfl rfl rfl rfl ?_) | (refine JL.put rfl rfl fun K hK => ?_; go_simp; (try go_bits); refine hK _ _ ?_; clear hK; clear K) | (refine JL.no rfl fun K hK => ?_; go_simp; (try go_bits); refine hK _ _ ?_; clear hK; clear K) | (refine JL.guardYes rfl rfl rfl rfl fun K hK => ?_; go_simp; (try go_bits); refine hK _ _ ?_; clear hK; clear K) | refine JL.nil ?_ | refine JE.next ?_ | refine JE.passX ?_ | refine JE.passR ?_ | refine JE.blkN ?_ | refine JE.blkR ?_ | refine JE.blkX ?_ | refine JE.blkO rfl ?_ | refine J.seq (J.region ?_) | refine J.region ?_ | refine J.skip ?_ | refine J.exit ?_ | refine J.ret ?_ | refine J.condT rfl ?_ | refine J.condF rfl ?_ | refine J.seq (J.condT rfl ?_) | refine J.seq (J.condF rfl ?_) | refine J.seq (J.seq (J.region ?_))))
      (first | refine JL.put rfl rfl fun K hK => ?_ | refine JL.guardYes rfl rfl rfl rfl fun K hK => ?_ | refine JL.no rfl fun K hK => ?_); go_simp; (try go_bits)
      refine (awake_any _).mono ?_
      rintro r w' ⟨rfl, ho⟩
      refine hK _ _ ?_; clear hK; clear K
      (repeat (first | refine JL.move rfl rfl ?_ | refine JL.append rfl rfl rfl (by assumption) ?_ | refine JL.assign rfl rfl ?_ | refine JL.guardNo rfl rfl rfl ?_ | refine JL.guardU rfl rfl rfl ?_ | (refine JL.pickT rfl rfl rfl rfl ?_) | (refine JL.pickF rfl rfl rfl rfl ?_) | (refine JL.put rfl rfl fun K hK => ?_; go_simp; (try go_bits); refine hK _ _ ?_; clear hK; clear K) | (refine JL.no rfl fun K hK => ?_; go_simp; (try go_bits); refine hK _ _ ?_; clear hK; clear K) | (refine JL.guardYes rfl rfl rfl rfl fun K hK => ?_; go_simp; (try go_bits); refine hK _ _ ?_; clear hK; clear K) | refine JL.nil ?_ | refine JE.next ?_ | refine JE.passX ?_ | refine JE.passR ?_ | refine JE.blkN ?_ | refine JE.blkR ?_ | refine JE.blkX ?_ | refine JE.blkO rfl ?_ | refine J.seq (J.region ?_) | refine J.region ?_ | refine J.skip ?_ | refine J.exit ?_ | refine J.ret ?_ | refine J.condT rfl ?_ | refine J.condF rfl ?_ | refine J.seq (J.condT rfl ?_) | refine J.seq (J.condF rfl ?_) | refine J.seq (J.seq (J.region ?_))))
      exact JE.fin1 rfl rfl ⟨rfl, HM.out.1.only.trans ho⟩
end Go.Proofs.Ytleimlhcdomffaa
