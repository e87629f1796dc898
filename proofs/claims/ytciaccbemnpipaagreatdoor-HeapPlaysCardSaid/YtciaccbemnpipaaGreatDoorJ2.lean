/-The walker and contracts, part 2.-/
import Derived.WalkKit
import Derived.ProofKit
import Derived.RangeFuncNested
import Derived.RangeFuncBound
import Derived.RangeFuncCalls
import Derived.RangeFuncLeaves
import Derived.Lib.Hide
set_option linter.all false
namespace Go.Proofs.YtciaccbemnpipaaGreatDoor
open Go.RowKit
def Blk (w:World) (b:Nat) (arr:Array Value) (t:TypeId):Prop:=w.heap[b]?=some (.cells arr t (0,0))
structure jN (S:List Nat) (w w':World):Prop where
 os:w'.os=w.os
 tape:w'.tape=w.tape
 output:w'.output=w.output
 size:w.heap.size<=w'.heap.size
 block: ∀ k,k<w.heap.size->k∉S->w'.heap[k]?=w.heap[k]?
theorem jN.refl (S:List Nat) (w:World):jN S w w:=⟨rfl,rfl,rfl,Nat.le_refl _,fun _ _ _=>rfl⟩
theorem jN.trans {S:List Nat} {a b c:World} (h:jN S a b) (k:jN S b c):jN S a c:=
  ⟨k.os.trans h.os,k.tape.trans h.tape,k.output.trans h.output,Nat.le_trans h.size k.size,
   fun i hi hS=>(k.block i (Nat.lt_of_lt_of_le hi h.size) hS).trans (h.block i hi hS)⟩
theorem jN.mono {S S':List Nat} {a b:World} (h:jN S a b) (hS: ∀ k,k<a.heap.size->k∈S->k∈S'):jN S' a b:=
 ⟨h.os,h.tape,h.output,h.size,fun k hk hn=>h.block k hk (fun m=>hn (hS k hk m))⟩
theorem jN.to {S:List Nat} {a b:World} (h:jN [] a b):jN S a b:=h.mono (fun _ _ m=>by cases m)
theorem jN.strip {S S':List Nat} {a b:World} (h:jN S a b) (hS: ∀ k,k∈S->k∈S'\/a.heap.size<=k):jN S' a b:=
 h.mono (fun k hk m=>(hS k m).resolve_right (by omega))
theorem jN.drew {S:List Nat} {a w:World} (h:jN S a w):jN S a w.drew:=⟨h.os,h.tape,h.output,h.size,h.block⟩
theorem jN.alloc {S:List Nat} {a w:World} (h:jN S a w) (o:Obj):jN S a (w.alloc o):=
 h.trans ⟨rfl,rfl,rfl,by simp,fun k hk _=>Below.heap_alloc _ _ _ (by omega)⟩
theorem jN.setCell {S:List Nat} {a w:World} (h:jN S a w) {p:Addr} (hp:p.block∈S\/a.heap.size<=p.block) (u:Value):jN S a (w.setCell p u):=
 ⟨h.os,h.tape,h.output,Nat.le_trans h.size (by simp[World.setCell]),fun k hk hS=>by
  refine(Below.heap_setCell _ _ _ _ ?_).trans (h.block k hk hS)
  intro e;subst e;rcases hp with hp|hp
  ·exact hS hp
  ·omega⟩
theorem jN.below {w w':World} (h:jN [] w w'):Below w.heap.size w w':=
 ⟨h.os,h.tape,h.output,h.size,fun k hk=>h.block k hk (by simp)⟩
theorem Blk.lt {w:World} {b:Nat} {arr:Array Value} {t:TypeId} (h:Blk w b arr t):b<w.heap.size:=(Array.getElem?_eq_some_iff.1 h).1
theorem Blk.only {S:List Nat} {w w':World} {b:Nat} {arr:Array Value} {t:TypeId} (h:Blk w b arr t) (ho:jN S w w') (hb:b∉S):Blk w' b arr t:=
 (ho.block b h.lt hb).trans h
theorem Blk.cell {w:World} {b:Nat} {arr:Array Value} {t:TypeId} (h:Blk w b arr t) {o:Nat} {v:Value} (hv:arr[o]?=some v):w.cell? ⟨b,o,none⟩=some v:=by
 unfold Blk at h;simp only[World.cell?,h];simpa using hv
theorem Blk.frozen {w:World} {b:Nat} {arr:Array Value} {t:TypeId} (h:Blk w b arr t) (o:Nat):w.frozen? ⟨b,o,none⟩=false:=by
 unfold Blk at h;simp[World.frozen?,h]
theorem Blk.new (w:World) (arr:Array Value) (t:TypeId):Blk (w.alloc (.cells arr t)) w.heap.size arr t:=World.alloc_heap_new w _
theorem Blk.alloc {w:World} {b:Nat} {arr:Array Value} {t:TypeId} (h:Blk w b arr t) (o:Obj):Blk (w.alloc o) b arr t:=
 (Below.heap_alloc _ _ _ h.lt).trans h
theorem Blk.drew {w:World} {b:Nat} {arr:Array Value} {t:TypeId} (h:Blk w b arr t):Blk w.drew b arr t:=h
theorem Blk.set {w:World} {b:Nat} {arr:Array Value} {t:TypeId} (h:Blk w b arr t) (o:Nat) (v:Value):Blk (w.setCell ⟨b,o,none⟩ v) b (arr.setIfInBounds o v) t:=by
 unfold Blk at h|-
 simp only[World.setCell,Array.getElem?_modify,h]
 simp
