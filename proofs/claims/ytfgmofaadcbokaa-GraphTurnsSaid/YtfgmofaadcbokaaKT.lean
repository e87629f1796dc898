/- The walker: loops whose other slots are found by the machine. -/
import Derived.Test.YtfgmofaadcbokaaK8
import Derived.Test.YtfgmofaadcbokaaKA
namespace Go.Proofs.Ytfgmofaadcbokaa
open Go.RowKit
set_option linter.unusedVariables false
section
variable {P : Program} {w0 : World} {ro : Option Nat} {n : Nat} {Q : Exit → Act → World → Prop} {ds : List Deferred} {m : Slots} {H : Heap}
theorem K.loopT {σ : Type} {c : Code} (keep : Slots) (M : σ → Slots → Slots) (Hs : σ → Heap) (I : σ → Prop) (μ : σ → Nat) (s0 : σ) (hs : subsE m (M s0 keep)) (hp : Part H (Hs s0)) (hi : I s0)
    (round : ∀ s, I s → K P w0 ro n c (Exit.then (RoundK w0 n ds (fun s => M s keep) Hs I μ (μ s)) Q) ds (M s keep) (Hs s)) : K P w0 ro n (.loop c) Q ds m H :=
  K.loop (fun s => M s keep) Hs I μ s0 hs hp hi round
theorem K.cutT {σ : Type} {x y : Code} (keep : Slots) (hk : subsE m keep) (M : σ → Slots → Slots) (Hs : σ → Heap) (I : σ → Prop) (h1 : K P w0 ro n x (Exit.then (MeetsK w0 n ds (fun s => M s keep) Hs I) Q) ds m H) (h2 : ∀ s, I s → K P w0 ro n y Q ds (M s keep) (Hs s)) : K P w0 ro n (.seq x y) Q ds m H :=
  K.cut (fun s => M s keep) Hs I h1 h2
theorem KD.fork3 {ops : Array Oper} {R : Heap} {ord : Ord} {i x y z : Nat} {ox oy oz : Oper} {o1 o2 o3 : Ord} (hr : Region.ready .any ops (lst ops.size (nums ((i, 3) :: ord))) = [x, y, z]) (hx : ops[x]? = some ox) (hy : ops[y]? = some oy) (hz : ops[z]? = some oz)
    (f1 : forkB ops ((i, 3) :: ord) x o1 = true) (f2 : forkB ops ((i, 3) :: ord) y o2 = true) (f3 : forkB ops ((i, 3) :: ord) z o3 = true) (h1 : ActK P w0 ro n ops R o1 Q ds m H ox) (h2 : ActK P w0 ro n ops R o2 Q ds m H oy) (h3 : ActK P w0 ro n ops R o3 Q ds m H oz) : KD P w0 ro n ops R ((i, 3) :: ord) Q ds m H :=
  KD.forks [x, y, z] hr (by simp) fun q hq => by
    simp only [List.mem_cons, List.not_mem_nil, or_false] at hq
    rcases hq with rfl | rfl | rfl
    · exact ⟨ox, o1, hx, f1, h1⟩
    · exact ⟨oy, o2, hy, f2, h2⟩
    · exact ⟨oz, o3, hz, f3, h3⟩
theorem KD.fork4 {ops : Array Oper} {R : Heap} {ord : Ord} {i x y z u : Nat} {ox oy oz ou : Oper} {o1 o2 o3 o4 : Ord} (hr : Region.ready .any ops (lst ops.size (nums ((i, 3) :: ord))) = [x, y, z, u]) (hx : ops[x]? = some ox) (hy : ops[y]? = some oy) (hz : ops[z]? = some oz) (hu : ops[u]? = some ou)
    (f1 : forkB ops ((i, 3) :: ord) x o1 = true) (f2 : forkB ops ((i, 3) :: ord) y o2 = true) (f3 : forkB ops ((i, 3) :: ord) z o3 = true) (f4 : forkB ops ((i, 3) :: ord) u o4 = true) (h1 : ActK P w0 ro n ops R o1 Q ds m H ox) (h2 : ActK P w0 ro n ops R o2 Q ds m H oy) (h3 : ActK P w0 ro n ops R o3 Q ds m H oz) (h4 : ActK P w0 ro n ops R o4 Q ds m H ou) : KD P w0 ro n ops R ((i, 3) :: ord) Q ds m H :=
  KD.forks [x, y, z, u] hr (by simp) fun q hq => by
    simp only [List.mem_cons, List.not_mem_nil, or_false] at hq
    rcases hq with rfl | rfl | rfl | rfl
    · exact ⟨ox, o1, hx, f1, h1⟩
    · exact ⟨oy, o2, hy, f2, h2⟩
    · exact ⟨oz, o3, hz, f3, h3⟩
    · exact ⟨ou, o4, hu, f4, h4⟩
theorem Call.enter0 {f : FuncId} {c : Code} {fn : Func} {R : Post} (hent : enters P f = true) (hf : P.funcs[f]? = some fn) (hb : fn.body = some c) (hn : fn.ntmps = n) (hsz : Nat.ble 0 n = true)
    (h : K P w0 none n c (bodyPostM (fen none) 0 P fn (Ends w0 R)) [] [] H) : Call P w0 f [] H R := Call.enter [] hent hf hb hn hsz trivial h
theorem Call.enter1 {f : FuncId} {c : Code} {fn : Func} {R : Post} {a0 : Value} (hent : enters P f = true) (hf : P.funcs[f]? = some fn) (hb : fn.body = some c) (hn : fn.ntmps = n) (hsz : Nat.ble 1 n = true)
    (h : K P w0 none n c (bodyPostM (fen none) 0 P fn (Ends w0 R)) [] [(0, a0)] H) : Call P w0 f [a0] H R := Call.enter [(0, a0)] hent hf hb hn hsz ⟨rfl, trivial⟩ h
theorem Call.enter2 {f : FuncId} {c : Code} {fn : Func} {R : Post} {a0 a1 : Value} (hent : enters P f = true) (hf : P.funcs[f]? = some fn) (hb : fn.body = some c) (hn : fn.ntmps = n) (hsz : Nat.ble 2 n = true)
    (h : K P w0 none n c (bodyPostM (fen none) 0 P fn (Ends w0 R)) [] [(0, a0), (1, a1)] H) : Call P w0 f [a0, a1] H R := Call.enter [(0, a0), (1, a1)] hent hf hb hn hsz ⟨rfl, rfl, trivial⟩ h
theorem Call.enter3 {f : FuncId} {c : Code} {fn : Func} {R : Post} {a0 a1 a2 : Value} (hent : enters P f = true) (hf : P.funcs[f]? = some fn) (hb : fn.body = some c) (hn : fn.ntmps = n) (hsz : Nat.ble 3 n = true)
    (h : K P w0 none n c (bodyPostM (fen none) 0 P fn (Ends w0 R)) [] [(0, a0), (1, a1), (2, a2)] H) : Call P w0 f [a0, a1, a2] H R := Call.enter [(0, a0), (1, a1), (2, a2)] hent hf hb hn hsz ⟨rfl, rfl, rfl, trivial⟩ h
theorem Call.enter4 {f : FuncId} {c : Code} {fn : Func} {R : Post} {a0 a1 a2 a3 : Value} (hent : enters P f = true) (hf : P.funcs[f]? = some fn) (hb : fn.body = some c) (hn : fn.ntmps = n) (hsz : Nat.ble 4 n = true)
    (h : K P w0 none n c (bodyPostM (fen none) 0 P fn (Ends w0 R)) [] [(0, a0), (1, a1), (2, a2), (3, a3)] H) : Call P w0 f [a0, a1, a2, a3] H R := Call.enter [(0, a0), (1, a1), (2, a2), (3, a3)] hent hf hb hn hsz ⟨rfl, rfl, rfl, rfl, trivial⟩ h
theorem Call.enter5 {f : FuncId} {c : Code} {fn : Func} {R : Post} {a0 a1 a2 a3 a4 : Value} (hent : enters P f = true) (hf : P.funcs[f]? = some fn) (hb : fn.body = some c) (hn : fn.ntmps = n) (hsz : Nat.ble 5 n = true)
    (h : K P w0 none n c (bodyPostM (fen none) 0 P fn (Ends w0 R)) [] [(0, a0), (1, a1), (2, a2), (3, a3), (4, a4)] H) : Call P w0 f [a0, a1, a2, a3, a4] H R := Call.enter [(0, a0), (1, a1), (2, a2), (3, a3), (4, a4)] hent hf hb hn hsz ⟨rfl, rfl, rfl, rfl, rfl, trivial⟩ h
theorem Call.enter6 {f : FuncId} {c : Code} {fn : Func} {R : Post} {a0 a1 a2 a3 a4 a5 : Value} (hent : enters P f = true) (hf : P.funcs[f]? = some fn) (hb : fn.body = some c) (hn : fn.ntmps = n) (hsz : Nat.ble 6 n = true)
    (h : K P w0 none n c (bodyPostM (fen none) 0 P fn (Ends w0 R)) [] [(0, a0), (1, a1), (2, a2), (3, a3), (4, a4), (5, a5)] H) : Call P w0 f [a0, a1, a2, a3, a4, a5] H R := Call.enter [(0, a0), (1, a1), (2, a2), (3, a3), (4, a4), (5, a5)] hent hf hb hn hsz ⟨rfl, rfl, rfl, rfl, rfl, rfl, trivial⟩ h
theorem Call.enter7 {f : FuncId} {c : Code} {fn : Func} {R : Post} {a0 a1 a2 a3 a4 a5 a6 : Value} (hent : enters P f = true) (hf : P.funcs[f]? = some fn) (hb : fn.body = some c) (hn : fn.ntmps = n) (hsz : Nat.ble 7 n = true)
    (h : K P w0 none n c (bodyPostM (fen none) 0 P fn (Ends w0 R)) [] [(0, a0), (1, a1), (2, a2), (3, a3), (4, a4), (5, a5), (6, a6)] H) : Call P w0 f [a0, a1, a2, a3, a4, a5, a6] H R := Call.enter [(0, a0), (1, a1), (2, a2), (3, a3), (4, a4), (5, a5), (6, a6)] hent hf hb hn hsz ⟨rfl, rfl, rfl, rfl, rfl, rfl, rfl, trivial⟩ h
theorem Call.enter8 {f : FuncId} {c : Code} {fn : Func} {R : Post} {a0 a1 a2 a3 a4 a5 a6 a7 : Value} (hent : enters P f = true) (hf : P.funcs[f]? = some fn) (hb : fn.body = some c) (hn : fn.ntmps = n) (hsz : Nat.ble 8 n = true)
    (h : K P w0 none n c (bodyPostM (fen none) 0 P fn (Ends w0 R)) [] [(0, a0), (1, a1), (2, a2), (3, a3), (4, a4), (5, a5), (6, a6), (7, a7)] H) : Call P w0 f [a0, a1, a2, a3, a4, a5, a6, a7] H R := Call.enter [(0, a0), (1, a1), (2, a2), (3, a3), (4, a4), (5, a5), (6, a6), (7, a7)] hent hf hb hn hsz ⟨rfl, rfl, rfl, rfl, rfl, rfl, rfl, rfl, trivial⟩ h
theorem Call.enter9 {f : FuncId} {c : Code} {fn : Func} {R : Post} {a0 a1 a2 a3 a4 a5 a6 a7 a8 : Value} (hent : enters P f = true) (hf : P.funcs[f]? = some fn) (hb : fn.body = some c) (hn : fn.ntmps = n) (hsz : Nat.ble 9 n = true)
    (h : K P w0 none n c (bodyPostM (fen none) 0 P fn (Ends w0 R)) [] [(0, a0), (1, a1), (2, a2), (3, a3), (4, a4), (5, a5), (6, a6), (7, a7), (8, a8)] H) : Call P w0 f [a0, a1, a2, a3, a4, a5, a6, a7, a8] H R := Call.enter [(0, a0), (1, a1), (2, a2), (3, a3), (4, a4), (5, a5), (6, a6), (7, a7), (8, a8)] hent hf hb hn hsz ⟨rfl, rfl, rfl, rfl, rfl, rfl, rfl, rfl, rfl, trivial⟩ h
theorem Call.enter10 {f : FuncId} {c : Code} {fn : Func} {R : Post} {a0 a1 a2 a3 a4 a5 a6 a7 a8 a9 : Value} (hent : enters P f = true) (hf : P.funcs[f]? = some fn) (hb : fn.body = some c) (hn : fn.ntmps = n) (hsz : Nat.ble 10 n = true)
    (h : K P w0 none n c (bodyPostM (fen none) 0 P fn (Ends w0 R)) [] [(0, a0), (1, a1), (2, a2), (3, a3), (4, a4), (5, a5), (6, a6), (7, a7), (8, a8), (9, a9)] H) : Call P w0 f [a0, a1, a2, a3, a4, a5, a6, a7, a8, a9] H R := Call.enter [(0, a0), (1, a1), (2, a2), (3, a3), (4, a4), (5, a5), (6, a6), (7, a7), (8, a8), (9, a9)] hent hf hb hn hsz ⟨rfl, rfl, rfl, rfl, rfl, rfl, rfl, rfl, rfl, rfl, trivial⟩ h
theorem Call.enter11 {f : FuncId} {c : Code} {fn : Func} {R : Post} {a0 a1 a2 a3 a4 a5 a6 a7 a8 a9 a10 : Value} (hent : enters P f = true) (hf : P.funcs[f]? = some fn) (hb : fn.body = some c) (hn : fn.ntmps = n) (hsz : Nat.ble 11 n = true)
    (h : K P w0 none n c (bodyPostM (fen none) 0 P fn (Ends w0 R)) [] [(0, a0), (1, a1), (2, a2), (3, a3), (4, a4), (5, a5), (6, a6), (7, a7), (8, a8), (9, a9), (10, a10)] H) : Call P w0 f [a0, a1, a2, a3, a4, a5, a6, a7, a8, a9, a10] H R := Call.enter [(0, a0), (1, a1), (2, a2), (3, a3), (4, a4), (5, a5), (6, a6), (7, a7), (8, a8), (9, a9), (10, a10)] hent hf hb hn hsz ⟨rfl, rfl, rfl, rfl, rfl, rfl, rfl, rfl, rfl, rfl, rfl, trivial⟩ h
theorem Call.enter12 {f : FuncId} {c : Code} {fn : Func} {R : Post} {a0 a1 a2 a3 a4 a5 a6 a7 a8 a9 a10 a11 : Value} (hent : enters P f = true) (hf : P.funcs[f]? = some fn) (hb : fn.body = some c) (hn : fn.ntmps = n) (hsz : Nat.ble 12 n = true)
    (h : K P w0 none n c (bodyPostM (fen none) 0 P fn (Ends w0 R)) [] [(0, a0), (1, a1), (2, a2), (3, a3), (4, a4), (5, a5), (6, a6), (7, a7), (8, a8), (9, a9), (10, a10), (11, a11)] H) : Call P w0 f [a0, a1, a2, a3, a4, a5, a6, a7, a8, a9, a10, a11] H R := Call.enter [(0, a0), (1, a1), (2, a2), (3, a3), (4, a4), (5, a5), (6, a6), (7, a7), (8, a8), (9, a9), (10, a10), (11, a11)] hent hf hb hn hsz ⟨rfl, rfl, rfl, rfl, rfl, rfl, rfl, rfl, rfl, rfl, rfl, rfl, trivial⟩ h
end
end Go.Proofs.Ytfgmofaadcbokaa
