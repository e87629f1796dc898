/- TableOnce: a handle is minted. -/
import Derived.Test.YtleimlhcdomffaaTabOnceD
namespace Go.Proofs.Ytleimlhcdomffaa
open Go.RowKit Go.Shelf
set_option linter.unusedVariables false

set_option maxRecDepth 100000 in
set_option maxHeartbeats 4000000 in
theorem once_mint {Q : Exit → Act → World → Prop} {w : World} {b e c : Nat} {gens : Int} {es : List Ent} {hs : List Hnd} {a9 a10 a11 a12 : Option Addr} {n c9 c10 c11 c12 i ba : Nat} {lv : Value} {xw xs xi xo : Int} {W : World}
    (HM : Hid (OnceMem w b e c gens es hs (.slice a9 n c9) (.slice a10 n c10) (.slice a11 n c11) (.slice a12 n c12) W ∧ OnceInv es hs ∧ hs.length = n ∧ n ≤ i ∧ Blk W ba #[.int .u8 xw, .int .i64 xs, .int .i64 xi, .int .i8 xo] 40))
    (hi : i < 150) (k3 : -9223372036854775808 ≤ xs) (k4 : xs ≤ 9223372036854775807) (hba : w.heap.size ≤ ba) (hba2 : ba ≠ b ∧ ba ≠ e ∧ ba ∉ blk (.slice a9 n c9) ∧ ba ∉ blk (.slice a10 n c10) ∧ ba ∉ blk (.slice a11 n c11))
    (hN : ∀ s W', OGood w b e c gens s (i + 1) W' → JE 264 .normal Q (oM i b lv s) W')
    (hX : ∀ s W', OGood w b e c gens s (i + 1) W' → JE 264 (.exit 1) Q (oM i b lv s) W') :
    J Try.prog 264 onceMint Q [(14, .pointer (some ⟨ba, 0, none⟩)), (13, .int .i64 i), (9, .slice a9 n c9), (10, .slice a10 n c10), (11, .slice a11 n c11), (12, .slice a12 n c12), (7, .pointer (some ⟨b, 0, none⟩)), (2, lv)] W := by
  have HBA := Lib.hid hba2
  clear hba2
  have hn : n ≤ 150 := by have := HM.out.2.2.2.1; omega
  have z1 := HM.out.2.2.2.2.cell (o := 1) rfl
  have hT := HM.out.1.tab
  have hok := HM.out.1.ok
  have KF := Lib.hid (Free_tab hT hok)
  have meets : ∀ (S : List Nat) (W' : World), Only S W W' → (∀ k, k ∈ S → k = b ∨ k = e) → W'.cell? ⟨ba, 1, none⟩ = some (.int .i64 xs) := by
    intro S W' ho hS
    exact (HM.out.2.2.2.2.only ho (by intro hm; rcases hS _ hm with h | h; exact HBA.out.1 h; exact HBA.out.2.1 h)).cell (o := 1) rfl
  have HME : Hid (∀ (S : List Nat) (W' : World), Only S W W' → (∀ k, k ∈ S → k = b ∨ k = e) → W'.cell? ⟨ba, 1, none⟩ = some (.int .i64 xs)) := Lib.hid meets
  clear meets
  by_cases hs0 : xs < 0
  · have KM := Lib.hid (Mint_neg hT hok xs hs0)
    have hs2 : ¬ 0 ≤ xs := by omega
    clear hT hok
    (repeat (first | refine JL.move rfl rfl ?_ | refine JL.append rfl rfl rfl (by assumption) ?_ | refine JL.assign rfl rfl ?_ | refine JL.guardNo rfl rfl rfl ?_ | refine JL.guardU rfl rfl rfl ?_ | (refine JL.pickT rfl rfl rfl rfl ?_) | (refine JL.pickF rfl rfl rfl rfl ?_) | (refine JL.put rfl rfl fun K hK => ?_; go_simp; (try go_bits); refine hK _ _ ?_; clear hK; clear K) | (refine JL.no rfl fun K hK => ?_; go_simp; (try go_bits); refine hK _ _ ?_; clear hK; clear K) | (refine JL.guardYes rfl rfl rfl rfl fun K hK => ?_; go_simp; (try go_bits); refine hK _ _ ?_; clear hK; clear K) | refine JL.nil ?_ | refine JE.next ?_ | refine JE.passX ?_ | refine JE.passR ?_ | refine JE.blkN ?_ | refine JE.blkR ?_ | refine JE.blkX ?_ | refine JE.blkO rfl ?_ | refine J.seq (J.region ?_) | refine J.region ?_ | refine J.skip ?_ | refine J.exit ?_ | refine J.ret ?_ | refine J.condT rfl ?_ | refine J.condF rfl ?_ | refine J.seq (J.condT rfl ?_) | refine J.seq (J.condF rfl ?_)))
    (first | refine JL.put rfl rfl fun K hK => ?_ | refine JL.guardYes rfl rfl rfl rfl fun K hK => ?_ | refine JL.no rfl fun K hK => ?_); go_simp; (try go_bits)
    refine KF.out.mono ?_
    rintro r w' ⟨rfl, rfl⟩
    refine hK _ _ ?_; clear hK; clear K
    (repeat (first | refine JL.move rfl rfl ?_ | refine JL.append rfl rfl rfl (by assumption) ?_ | refine JL.assign rfl rfl ?_ | refine JL.guardNo rfl rfl rfl ?_ | refine JL.guardU rfl rfl rfl ?_ | (refine JL.pickT rfl rfl rfl rfl ?_) | (refine JL.pickF rfl rfl rfl rfl ?_) | (refine JL.put rfl rfl fun K hK => ?_; go_simp; (try go_bits); refine hK _ _ ?_; clear hK; clear K) | (refine JL.no rfl fun K hK => ?_; go_simp; (try go_bits); refine hK _ _ ?_; clear hK; clear K) | (refine JL.guardYes rfl rfl rfl rfl fun K hK => ?_; go_simp; (try go_bits); refine hK _ _ ?_; clear hK; clear K) | refine JL.nil ?_ | refine JE.next ?_ | refine JE.passX ?_ | refine JE.passR ?_ | refine JE.blkN ?_ | refine JE.blkR ?_ | refine JE.blkX ?_ | refine JE.blkO rfl ?_ | refine J.seq (J.region ?_) | refine J.region ?_ | refine J.skip ?_ | refine J.exit ?_ | refine J.ret ?_ | refine J.condT rfl ?_ | refine J.condF rfl ?_ | refine J.seq (J.condT rfl ?_) | refine J.seq (J.condF rfl ?_)))
    (first | refine JL.put rfl rfl fun K hK => ?_ | refine JL.guardYes rfl rfl rfl rfl fun K hK => ?_ | refine JL.no rfl fun K hK => ?_); go_simp; (try go_bits)
    refine KM.out.mono ?_
    rintro r w2 ⟨rfl, ho⟩
    have z1 := HME.out _ _ ho (by simp)
    have HO := Lib.hid ho
    clear ho
    refine hK _ _ ?_; clear hK; clear K
    (repeat (first | refine JL.move rfl rfl ?_ | refine JL.append rfl rfl rfl (by assumption) ?_ | refine JL.assign rfl rfl ?_ | refine JL.guardNo rfl rfl rfl ?_ | refine JL.guardU rfl rfl rfl ?_ | (refine JL.pickT rfl rfl rfl rfl ?_) | (refine JL.pickF rfl rfl rfl rfl ?_) | (refine JL.put rfl rfl fun K hK => ?_; go_simp; (try go_bits); refine hK _ _ ?_; clear hK; clear K) | (refine JL.no rfl fun K hK => ?_; go_simp; (try go_bits); refine hK _ _ ?_; clear hK; clear K) | (refine JL.guardYes rfl rfl rfl rfl fun K hK => ?_; go_simp; (try go_bits); refine hK _ _ ?_; clear hK; clear K) | refine JL.nil ?_ | refine JE.next ?_ | refine JE.passX ?_ | refine JE.passR ?_ | refine JE.blkN ?_ | refine JE.blkR ?_ | refine JE.blkX ?_ | refine JE.blkO rfl ?_ | refine J.seq (J.region ?_) | refine J.region ?_ | refine J.skip ?_ | refine J.exit ?_ | refine J.ret ?_ | refine J.condT rfl ?_ | refine J.condF rfl ?_ | refine J.seq (J.condT rfl ?_) | refine J.seq (J.condF rfl ?_) | refine J.seq (J.seq (J.region ?_))))
    exact JE.sub (oM i b lv ⟨i, n, a9, a10, a11, a12, c9, c10, c11, c12, es, hs⟩) ⟨rfl, rfl, rfl, rfl, rfl, rfl, rfl, trivial⟩ (hX _ _ (Lib.hid ⟨HM.out.1.grow HO.out, HM.out.2.1, HM.out.2.2.1, by have := HM.out.2.2.2.1; simp only; omega⟩))
  · have hs1 : 0 ≤ xs := by omega
    have kM := Mint_tab hT hok xs hs1
    cases hff : firstFree es with
    | none =>
      have eP : mintP es xs = (0, 0, 131) := by unfold mintP; rw [if_neg hs0, hff]
      have eE : mintEs es xs = es := by unfold mintEs; rw [if_neg hs0, hff]
      have hz : cnt 0 es = 0 := cnt0_none.2 hff
      rw [eP, eE] at kM
      rw [hz] at KF
      have KM := Lib.hid kM
      clear hT hok kM eP eE hff hz
      (repeat (first | refine JL.move rfl rfl ?_ | refine JL.append rfl rfl rfl (by assumption) ?_ | refine JL.assign rfl rfl ?_ | refine JL.guardNo rfl rfl rfl ?_ | refine JL.guardU rfl rfl rfl ?_ | (refine JL.pickT rfl rfl rfl rfl ?_) | (refine JL.pickF rfl rfl rfl rfl ?_) | (refine JL.put rfl rfl fun K hK => ?_; go_simp; (try go_bits); refine hK _ _ ?_; clear hK; clear K) | (refine JL.no rfl fun K hK => ?_; go_simp; (try go_bits); refine hK _ _ ?_; clear hK; clear K) | (refine JL.guardYes rfl rfl rfl rfl fun K hK => ?_; go_simp; (try go_bits); refine hK _ _ ?_; clear hK; clear K) | refine JL.nil ?_ | refine JE.next ?_ | refine JE.passX ?_ | refine JE.passR ?_ | refine JE.blkN ?_ | refine JE.blkR ?_ | refine JE.blkX ?_ | refine JE.blkO rfl ?_ | refine J.seq (J.region ?_) | refine J.region ?_ | refine J.skip ?_ | refine J.exit ?_ | refine J.ret ?_ | refine J.condT rfl ?_ | refine J.condF rfl ?_ | refine J.seq (J.condT rfl ?_) | refine J.seq (J.condF rfl ?_)))
      (first | refine JL.put rfl rfl fun K hK => ?_ | refine JL.guardYes rfl rfl rfl rfl fun K hK => ?_ | refine JL.no rfl fun K hK => ?_); go_simp; (try go_bits)
      refine KF.out.mono ?_
      rintro r w' ⟨rfl, rfl⟩
      refine hK _ _ ?_; clear hK; clear K
      (repeat (first | refine JL.move rfl rfl ?_ | refine JL.append rfl rfl rfl (by assumption) ?_ | refine JL.assign rfl rfl ?_ | refine JL.guardNo rfl rfl rfl ?_ | refine JL.guardU rfl rfl rfl ?_ | (refine JL.pickT rfl rfl rfl rfl ?_) | (refine JL.pickF rfl rfl rfl rfl ?_) | (refine JL.put rfl rfl fun K hK => ?_; go_simp; (try go_bits); refine hK _ _ ?_; clear hK; clear K) | (refine JL.no rfl fun K hK => ?_; go_simp; (try go_bits); refine hK _ _ ?_; clear hK; clear K) | (refine JL.guardYes rfl rfl rfl rfl fun K hK => ?_; go_simp; (try go_bits); refine hK _ _ ?_; clear hK; clear K) | refine JL.nil ?_ | refine JE.next ?_ | refine JE.passX ?_ | refine JE.passR ?_ | refine JE.blkN ?_ | refine JE.blkR ?_ | refine JE.blkX ?_ | refine JE.blkO rfl ?_ | refine J.seq (J.region ?_) | refine J.region ?_ | refine J.skip ?_ | refine J.exit ?_ | refine J.ret ?_ | refine J.condT rfl ?_ | refine J.condF rfl ?_ | refine J.seq (J.condT rfl ?_) | refine J.seq (J.condF rfl ?_)))
      (first | refine JL.put rfl rfl fun K hK => ?_ | refine JL.guardYes rfl rfl rfl rfl fun K hK => ?_ | refine JL.no rfl fun K hK => ?_); go_simp; (try go_bits)
      refine KM.out.mono ?_
      rintro r w2 ⟨rfl, hT2, ho⟩
      have z1 := HME.out _ _ ho (by simp)
      have HO := Lib.hid (And.intro hT2 ho)
      clear ho hT2
      refine hK _ _ ?_; clear hK; clear K
      (repeat (first | refine JL.move rfl rfl ?_ | refine JL.append rfl rfl rfl (by assumption) ?_ | refine JL.assign rfl rfl ?_ | refine JL.guardNo rfl rfl rfl ?_ | refine JL.guardU rfl rfl rfl ?_ | (refine JL.pickT rfl rfl rfl rfl ?_) | (refine JL.pickF rfl rfl rfl rfl ?_) | (refine JL.put rfl rfl fun K hK => ?_; go_simp; (try go_bits); refine hK _ _ ?_; clear hK; clear K) | (refine JL.no rfl fun K hK => ?_; go_simp; (try go_bits); refine hK _ _ ?_; clear hK; clear K) | (refine JL.guardYes rfl rfl rfl rfl fun K hK => ?_; go_simp; (try go_bits); refine hK _ _ ?_; clear hK; clear K) | refine JL.nil ?_ | refine JE.next ?_ | refine JE.passX ?_ | refine JE.passR ?_ | refine JE.blkN ?_ | refine JE.blkR ?_ | refine JE.blkX ?_ | refine JE.blkO rfl ?_ | refine J.seq (J.region ?_) | refine J.region ?_ | refine J.skip ?_ | refine J.exit ?_ | refine J.ret ?_ | refine J.condT rfl ?_ | refine J.condF rfl ?_ | refine J.seq (J.condT rfl ?_) | refine J.seq (J.condF rfl ?_) | refine J.seq (J.seq (J.region ?_))))
      exact JE.sub (oM i b lv ⟨i, n, a9, a10, a11, a12, c9, c10, c11, c12, es, hs⟩) ⟨rfl, rfl, rfl, rfl, rfl, rfl, rfl, trivial⟩ (hX _ _ (Lib.hid ⟨HM.out.1.table HO.out.1 HM.out.1.ok HO.out.2, HM.out.2.1, HM.out.2.2.1, by have := HM.out.2.2.2.1; simp only; omega⟩))
    | some i0 =>
      obtain ⟨x, hx, hx0⟩ := firstFree_some hff
      have eP : mintP es xs = (((i0 : Nat) : Int), ((x.gen : Nat) : Int), 0) := by unfold mintP genAt; rw [if_neg hs0, hff]; simp only [hx]; rfl
      have eE : mintEs es xs = es.set i0 { x with st := 1, slot := xs } := by unfold mintEs; rw [if_neg hs0, hff]; exact modify_eq_set hx _
      have hz : ¬ cnt 0 es = 0 := by intro h; rw [cnt0_none.1 h] at hff; cases hff
      have hz1 : (((cnt 0 es : Nat) : Int) == 0) = false := by simp; exact hz
      have hmx : ∀ (j : Nat) (h : Hnd), hs[j]? = some h → ¬ (h.idx = i0 ∧ h.gen = x.gen) := (HM.out.2.1.mint hff hx xs).2
      have hinv := (HM.out.2.1.mint hff hx xs).1
      have hok2 : EntsOk (es.set i0 { x with st := 1, slot := xs }) := hok.set _ _ (by have := hok.2.2 x (List.mem_of_getElem? hx); simp; omega)
      rw [eP, eE] at kM
      have KM := Lib.hid kM
      obtain ⟨fr, hfr⟩ : ∃ fr, cnt 0 es = fr := ⟨_, rfl⟩
      rw [hfr] at KF hz1
      have HP := Lib.hid (And.intro hmx (And.intro hinv hok2))
      clear hT hok kM eP eE hff hz hmx hinv hok2 hfr hx0
      (repeat (first | refine JL.move rfl rfl ?_ | refine JL.append rfl rfl rfl (by assumption) ?_ | refine JL.assign rfl rfl ?_ | refine JL.guardNo rfl rfl rfl ?_ | refine JL.guardU rfl rfl rfl ?_ | (refine JL.pickT rfl rfl rfl rfl ?_) | (refine JL.pickF rfl rfl rfl rfl ?_) | (refine JL.put rfl rfl fun K hK => ?_; go_simp; (try go_bits); refine hK _ _ ?_; clear hK; clear K) | (refine JL.no rfl fun K hK => ?_; go_simp; (try go_bits); refine hK _ _ ?_; clear hK; clear K) | (refine JL.guardYes rfl rfl rfl rfl fun K hK => ?_; go_simp; (try go_bits); refine hK _ _ ?_; clear hK; clear K) | refine JL.nil ?_ | refine JE.next ?_ | refine JE.passX ?_ | refine JE.passR ?_ | refine JE.blkN ?_ | refine JE.blkR ?_ | refine JE.blkX ?_ | refine JE.blkO rfl ?_ | refine J.seq (J.region ?_) | refine J.region ?_ | refine J.skip ?_ | refine J.exit ?_ | refine J.ret ?_ | refine J.condT rfl ?_ | refine J.condF rfl ?_ | refine J.seq (J.condT rfl ?_) | refine J.seq (J.condF rfl ?_)))
      (first | refine JL.put rfl rfl fun K hK => ?_ | refine JL.guardYes rfl rfl rfl rfl fun K hK => ?_ | refine JL.no rfl fun K hK => ?_); go_simp; (try go_bits)
      refine KF.out.mono ?_
      rintro r w' ⟨rfl, rfl⟩
      refine hK _ _ ?_; clear hK; clear K
      (repeat (first | refine JL.move rfl rfl ?_ | refine JL.append rfl rfl rfl (by assumption) ?_ | refine JL.assign rfl rfl ?_ | refine JL.guardNo rfl rfl rfl ?_ | refine JL.guardU rfl rfl rfl ?_ | (refine JL.pickT rfl rfl rfl rfl ?_) | (refine JL.pickF rfl rfl rfl rfl ?_) | (refine JL.put rfl rfl fun K hK => ?_; go_simp; (try go_bits); refine hK _ _ ?_; clear hK; clear K) | (refine JL.no rfl fun K hK => ?_; go_simp; (try go_bits); refine hK _ _ ?_; clear hK; clear K) | (refine JL.guardYes rfl rfl rfl rfl fun K hK => ?_; go_simp; (try go_bits); refine hK _ _ ?_; clear hK; clear K) | refine JL.nil ?_ | refine JE.next ?_ | refine JE.passX ?_ | refine JE.passR ?_ | refine JE.blkN ?_ | refine JE.blkR ?_ | refine JE.blkX ?_ | refine JE.blkO rfl ?_ | refine J.seq (J.region ?_) | refine J.region ?_ | refine J.skip ?_ | refine J.exit ?_ | refine J.ret ?_ | refine J.condT rfl ?_ | refine J.condF rfl ?_ | refine J.seq (J.condT rfl ?_) | refine J.seq (J.condF rfl ?_)))
      (first | refine JL.put rfl rfl fun K hK => ?_ | refine JL.guardYes rfl rfl rfl rfl fun K hK => ?_ | refine JL.no rfl fun K hK => ?_); go_simp; (try go_bits)
      refine KM.out.mono ?_
      rintro r w2 ⟨rfl, hT2, ho⟩
      have z1 := HME.out _ _ ho (by simp)
      have HSZ : Hid (ba < w2.heap.size) := Lib.hid (Nat.lt_of_lt_of_le HM.out.2.2.2.2.lt ho.size)
      have HM2 := Lib.hid (HM.out.1.table hT2 HP.out.2.2 ho)
      clear ho hT2 HME
      refine hK _ _ ?_; clear hK; clear K
      (repeat (first | refine JL.move rfl rfl ?_ | refine JL.append rfl rfl rfl (by assumption) ?_ | refine JL.assign rfl rfl ?_ | refine JL.guardNo rfl rfl rfl ?_ | refine JL.guardU rfl rfl rfl ?_ | (refine JL.pickT rfl rfl rfl rfl ?_) | (refine JL.pickF rfl rfl rfl rfl ?_) | (refine JL.put rfl rfl fun K hK => ?_; go_simp; (try go_bits); refine hK _ _ ?_; clear hK; clear K) | (refine JL.no rfl fun K hK => ?_; go_simp; (try go_bits); refine hK _ _ ?_; clear hK; clear K) | (refine JL.guardYes rfl rfl rfl rfl fun K hK => ?_; go_simp; (try go_bits); refine hK _ _ ?_; clear hK; clear K) | refine JL.nil ?_ | refine JE.next ?_ | refine JE.passX ?_ | refine JE.passR ?_ | refine JE.blkN ?_ | refine JE.blkR ?_ | refine JE.blkX ?_ | refine JE.blkO rfl ?_ | refine J.seq (J.region ?_) | refine J.region ?_ | refine J.skip ?_ | refine J.exit ?_ | refine J.ret ?_ | refine J.condT rfl ?_ | refine J.condF rfl ?_ | refine J.seq (J.condT rfl ?_) | refine J.seq (J.condF rfl ?_) | refine J.seq (J.seq (J.region ?_))))
      refine J.sub [(20, .int .i64 (0 : Nat)), (18, .int .u32 (x.gen : Nat)), (17, .int .i64 (i0 : Nat)), (14, .pointer (some ⟨ba, 0, none⟩)), (13, .int .i64 i), (9, .slice a9 n c9), (10, .slice a10 n c10), (11, .slice a11 n c11), (12, .slice a12 n c12), (7, .pointer (some ⟨b, 0, none⟩)), (2, lv)] ⟨rfl, rfl, rfl, rfl, rfl, rfl, rfl, rfl, rfl, rfl, rfl, trivial⟩ ?_
      refine J.block ?_
      refine J.loop (σ := Nat) (fun j => [(20, .int .i64 (j : Nat)), (18, .int .u32 (x.gen : Nat)), (17, .int .i64 (i0 : Nat)), (14, .pointer (some ⟨ba, 0, none⟩)), (13, .int .i64 i), (9, .slice a9 n c9), (10, .slice a10 n c10), (11, .slice a11 n c11), (12, .slice a12 n c12), (7, .pointer (some ⟨b, 0, none⟩)), (2, lv)]) (fun j W' => j ≤ n ∧ W' = w2) (fun j => n - j) 0 ⟨rfl, rfl, rfl, rfl, rfl, rfl, rfl, rfl, rfl, rfl, rfl, trivial⟩ ⟨by omega, rfl⟩ ?_
      rintro j _ ⟨hj, rfl⟩
      by_cases hjn : j < n
      · obtain ⟨h, hh⟩ : ∃ h, hs[j]? = some h := ⟨hs[j]'(by rw [HM.out.2.2.1]; exact hjn), List.getElem?_eq_getElem _⟩
        have t9 := HM2.out.s9
        have t11 := HM2.out.s11
        rw [HM.out.2.2.1] at t9 t11
        obtain ⟨g9, rfl⟩ := t9.formPos (by omega)
        obtain ⟨g11, rfl⟩ := t11.formPos (by omega)
        have q9 := (t9.cell (j := j) (u := .int .i64 (h.idx : Nat)) (by simp [hh])).1
        have q11 := (t11.cell (j := j) (u := .int .u32 (h.gen : Nat)) (by simp [hh])).1
        have hne := HP.out.1 j h hh
        clear t9 t11 hh
        by_cases hidx : h.idx = i0
        · have hq : (((h.gen : Nat) : Int) == ((x.gen : Nat) : Int)) = false := by simp; omega
          have hp : (((h.idx : Nat) : Int) == ((i0 : Nat) : Int)) = true := by simp [hidx]
          clear hne hidx
          (repeat (first | refine JL.move rfl rfl ?_ | refine JL.append rfl rfl rfl (by assumption) ?_ | refine JL.assign rfl rfl ?_ | refine JL.guardNo rfl rfl rfl ?_ | refine JL.guardU rfl rfl rfl ?_ | (refine JL.pickT rfl rfl rfl rfl ?_) | (refine JL.pickF rfl rfl rfl rfl ?_) | (refine JL.put rfl rfl fun K hK => ?_; go_simp; (try go_bits); refine hK _ _ ?_; clear hK; clear K) | (refine JL.no rfl fun K hK => ?_; go_simp; (try go_bits); refine hK _ _ ?_; clear hK; clear K) | (refine JL.guardYes rfl rfl rfl rfl fun K hK => ?_; go_simp; (try go_bits); refine hK _ _ ?_; clear hK; clear K) | refine JL.nil ?_ | refine JE.next ?_ | refine JE.passX ?_ | refine JE.passR ?_ | refine JE.blkN ?_ | refine JE.blkR ?_ | refine JE.blkX ?_ | refine JE.blkO rfl ?_ | refine J.seq (J.region ?_) | refine J.region ?_ | refine J.skip ?_ | refine J.exit ?_ | refine J.ret ?_ | refine J.condT rfl ?_ | refine J.condF rfl ?_ | refine J.seq (J.condT rfl ?_) | refine J.seq (J.condF rfl ?_) | refine J.seq (J.seq (J.region ?_))))
          refine J.seq (J.block ?_)
          (repeat (first | refine JL.move rfl rfl ?_ | refine JL.append rfl rfl rfl (by assumption) ?_ | refine JL.assign rfl rfl ?_ | refine JL.guardNo rfl rfl rfl ?_ | refine JL.guardU rfl rfl rfl ?_ | (refine JL.pickT rfl rfl rfl rfl ?_) | (refine JL.pickF rfl rfl rfl rfl ?_) | (refine JL.put rfl rfl fun K hK => ?_; go_simp; (try go_bits); refine hK _ _ ?_; clear hK; clear K) | (refine JL.no rfl fun K hK => ?_; go_simp; (try go_bits); refine hK _ _ ?_; clear hK; clear K) | (refine JL.guardYes rfl rfl rfl rfl fun K hK => ?_; go_simp; (try go_bits); refine hK _ _ ?_; clear hK; clear K) | refine JL.nil ?_ | refine JE.next ?_ | refine JE.passX ?_ | refine JE.passR ?_ | refine JE.blkN ?_ | refine JE.blkR ?_ | refine JE.blkX ?_ | refine JE.blkO rfl ?_ | refine J.seq (J.region ?_) | refine J.region ?_ | refine J.skip ?_ | refine J.exit ?_ | refine J.ret ?_ | refine J.condT rfl ?_ | refine J.condF rfl ?_ | refine J.seq (J.condT rfl ?_) | refine J.seq (J.condF rfl ?_) | refine J.seq (J.seq (J.region ?_))))
          exact JE.again (j + 1) ⟨rfl, rfl, rfl, rfl, rfl, rfl, rfl, rfl, rfl, rfl, rfl, trivial⟩ ⟨by omega, rfl⟩ (show n - (j + 1) < n - j by omega)
        · have hp : (((h.idx : Nat) : Int) == ((i0 : Nat) : Int)) = false := by simp; omega
          clear hne hidx
          (repeat (first | refine JL.move rfl rfl ?_ | refine JL.append rfl rfl rfl (by assumption) ?_ | refine JL.assign rfl rfl ?_ | refine JL.guardNo rfl rfl rfl ?_ | refine JL.guardU rfl rfl rfl ?_ | (refine JL.pickT rfl rfl rfl rfl ?_) | (refine JL.pickF rfl rfl rfl rfl ?_) | (refine JL.put rfl rfl fun K hK => ?_; go_simp; (try go_bits); refine hK _ _ ?_; clear hK; clear K) | (refine JL.no rfl fun K hK => ?_; go_simp; (try go_bits); refine hK _ _ ?_; clear hK; clear K) | (refine JL.guardYes rfl rfl rfl rfl fun K hK => ?_; go_simp; (try go_bits); refine hK _ _ ?_; clear hK; clear K) | refine JL.nil ?_ | refine JE.next ?_ | refine JE.passX ?_ | refine JE.passR ?_ | refine JE.blkN ?_ | refine JE.blkR ?_ | refine JE.blkX ?_ | refine JE.blkO rfl ?_ | refine J.seq (J.region ?_) | refine J.region ?_ | refine J.skip ?_ | refine J.exit ?_ | refine J.ret ?_ | refine J.condT rfl ?_ | refine J.condF rfl ?_ | refine J.seq (J.condT rfl ?_) | refine J.seq (J.condF rfl ?_) | refine J.seq (J.seq (J.region ?_))))
          refine J.seq (J.block ?_)
          (repeat (first | refine JL.move rfl rfl ?_ | refine JL.append rfl rfl rfl (by assumption) ?_ | refine JL.assign rfl rfl ?_ | refine JL.guardNo rfl rfl rfl ?_ | refine JL.guardU rfl rfl rfl ?_ | (refine JL.pickT rfl rfl rfl rfl ?_) | (refine JL.pickF rfl rfl rfl rfl ?_) | (refine JL.put rfl rfl fun K hK => ?_; go_simp; (try go_bits); refine hK _ _ ?_; clear hK; clear K) | (refine JL.no rfl fun K hK => ?_; go_simp; (try go_bits); refine hK _ _ ?_; clear hK; clear K) | (refine JL.guardYes rfl rfl rfl rfl fun K hK => ?_; go_simp; (try go_bits); refine hK _ _ ?_; clear hK; clear K) | refine JL.nil ?_ | refine JE.next ?_ | refine JE.passX ?_ | refine JE.passR ?_ | refine JE.blkN ?_ | refine JE.blkR ?_ | refine JE.blkX ?_ | refine JE.blkO rfl ?_ | refine J.seq (J.region ?_) | refine J.region ?_ | refine J.skip ?_ | refine J.exit ?_ | refine J.ret ?_ | refine J.condT rfl ?_ | refine J.condF rfl ?_ | refine J.seq (J.condT rfl ?_) | refine J.seq (J.condF rfl ?_) | refine J.seq (J.seq (J.region ?_))))
          exact JE.again (j + 1) ⟨rfl, rfl, rfl, rfl, rfl, rfl, rfl, rfl, rfl, rfl, rfl, trivial⟩ ⟨by omega, rfl⟩ (show n - (j + 1) < n - j by omega)
      · obtain ⟨g9', k9', W1, g11', k11', W2, g10', k10', W3, g12', k12', W4, r1, r2, r3, r4, hM3, o2⟩ := HM2.out.more (by have := HM.out.2.2.1; omega) ⟨i0, x.gen, xs, false⟩
        simp only at r1 r2 r3 r4
        have z2 : W2.cell? ⟨ba, 1, none⟩ = some (.int .i64 xs) := (World.cell?_of_block (o2.block ba HSZ.out (by simp; exact ⟨HBA.out.2.2.1, HBA.out.2.2.2.2⟩)) (a := ⟨ba, 1, none⟩)).trans z1
        rw [HM.out.2.2.1] at r1 r2 r3 r4 hM3
        have HM3 := Lib.hid hM3
        clear hM3 o2
        (repeat (first | refine JL.move rfl rfl ?_ | refine JL.append rfl rfl rfl (by assumption) ?_ | refine JL.assign rfl rfl ?_ | refine JL.guardNo rfl rfl rfl ?_ | refine JL.guardU rfl rfl rfl ?_ | (refine JL.pickT rfl rfl rfl rfl ?_) | (refine JL.pickF rfl rfl rfl rfl ?_) | (refine JL.put rfl rfl fun K hK => ?_; go_simp; (try go_bits); refine hK _ _ ?_; clear hK; clear K) | (refine JL.no rfl fun K hK => ?_; go_simp; (try go_bits); refine hK _ _ ?_; clear hK; clear K) | (refine JL.guardYes rfl rfl rfl rfl fun K hK => ?_; go_simp; (try go_bits); refine hK _ _ ?_; clear hK; clear K) | refine JL.nil ?_ | refine JE.next ?_ | refine JE.passX ?_ | refine JE.passR ?_ | refine JE.blkN ?_ | refine JE.blkR ?_ | refine JE.blkX ?_ | refine JE.blkO rfl ?_ | refine J.seq (J.region ?_) | refine J.region ?_ | refine J.skip ?_ | refine J.exit ?_ | refine J.ret ?_ | refine J.condT rfl ?_ | refine J.condF rfl ?_ | refine J.seq (J.condT rfl ?_) | refine J.seq (J.condF rfl ?_) | refine J.seq (J.seq (J.region ?_))))
        exact JE.sub (oM i b lv ⟨i, n + 1, some ⟨g9', 0, none⟩, some ⟨g10', 0, none⟩, some ⟨g11', 0, none⟩, some ⟨g12', 0, none⟩, k9', k10', k11', k12', _, _⟩) ⟨rfl, rfl, rfl, rfl, rfl, rfl, rfl, trivial⟩ (hN _ _ (Lib.hid ⟨HM3.out, HP.out.2.1, by have := HM.out.2.2.1; simp; exact this, by have := HM.out.2.2.2.1; simp only; omega⟩))
end Go.Proofs.Ytleimlhcdomffaa
