/-The walker and the contracts that the law needs,part 2. -/
import Derived.WalkKit
import Derived.ProofKit
import Derived.RangeFuncNested
import Derived.RangeFuncBound
import Derived.RangeFuncCalls
import Derived.RangeFuncLeaves
import Derived.Lib.Hide
namespace Go.Proofs.YtpcgafhgfjlkmaaGreatDoor
open Go.RowKit
def Blk (w:World) (b:Nat) (arr:Array Value) (t:TypeId):Prop:=w.heap[b]?=some (.cells arr t (0,0))
structure jV (S:List Nat) (w w':World):Prop where
 os:w'.os=w.os
 tape:w'.tape=w.tape
 output:w'.output=w.output
 size:w.heap.size≤w'.heap.size
 block: ∀ k,k<w.heap.size→k∉S→w'.heap[k]?=w.heap[k]?
theorem jV.refl (S:List Nat) (w:World):jV S w w:=⟨rfl,rfl,rfl,Nat.le_refl _,fun _ _ _=>rfl⟩
theorem jV.trans {S:List Nat} {a b c:World} (h:jV S a b) (k:jV S b c):jV S a c:=
  ⟨k.os.trans h.os,k.tape.trans h.tape,k.output.trans h.output,Nat.le_trans h.size k.size,
   fun i hi hS=>(k.block i (Nat.lt_of_lt_of_le hi h.size) hS).trans (h.block i hi hS)⟩
theorem jV.mono {S S':List Nat} {a b:World} (h:jV S a b) (hS: ∀ k,k<a.heap.size→k∈S→k∈S'):jV S' a b:=
 ⟨h.os,h.tape,h.output,h.size,fun k hk hn=>h.block k hk (fun m=>hn (hS k hk m))⟩
theorem jV.to {S:List Nat} {a b:World} (h:jV [] a b):jV S a b:=h.mono (fun _ _ m=>by cases m)
theorem jV.strip {S S':List Nat} {a b:World} (h:jV S a b) (hS: ∀ k,k∈S→k∈S'∨a.heap.size≤k):jV S' a b:=
 h.mono (fun k hk m=>(hS k m).resolve_right (by omega))
theorem jV.drew {S:List Nat} {a w:World} (h:jV S a w):jV S a w.drew:=⟨h.os,h.tape,h.output,h.size,h.block⟩
theorem jV.alloc {S:List Nat} {a w:World} (h:jV S a w) (o:Obj):jV S a (w.alloc o):=
 h.trans ⟨rfl,rfl,rfl,by simp,fun k hk _=>Below.heap_alloc _ _ _ (by omega)⟩
theorem jV.setCell {S:List Nat} {a w:World} (h:jV S a w) {p:Addr} (hp:p.block∈S∨a.heap.size≤p.block) (u:Value):jV S a (w.setCell p u):=
 ⟨h.os,h.tape,h.output,Nat.le_trans h.size (by simp[World.setCell]),fun k hk hS=>by
  refine(Below.heap_setCell _ _ _ _ ?_).trans (h.block k hk hS)
  intro e;subst e;rcases hp with hp|hp
  ·exact hS hp
  ·omega⟩
theorem jV.below {w w':World} (h:jV [] w w'):Below w.heap.size w w':=
 ⟨h.os,h.tape,h.output,h.size,fun k hk=>h.block k hk (by simp)⟩
theorem Blk.lt {w:World} {b:Nat} {arr:Array Value} {t:TypeId} (h:Blk w b arr t):b<w.heap.size:=(Array.getElem?_eq_some_iff.1 h).1
theorem Blk.only {S:List Nat} {w w':World} {b:Nat} {arr:Array Value} {t:TypeId} (h:Blk w b arr t) (ho:jV S w w') (hb:b∉S):Blk w' b arr t:=
 (ho.block b h.lt hb).trans h
theorem Blk.cell {w:World} {b:Nat} {arr:Array Value} {t:TypeId} (h:Blk w b arr t) {o:Nat} {v:Value} (hv:arr[o]?=some v):w.cell? ⟨b,o,none⟩=some v:=by
 unfold Blk at h;simp only[World.cell?,h];simpa using hv
theorem Blk.frozen {w:World} {b:Nat} {arr:Array Value} {t:TypeId} (h:Blk w b arr t) (o:Nat):w.frozen? ⟨b,o,none⟩=false:=by
 unfold Blk at h;simp[World.frozen?,h]
theorem Blk.new (w:World) (arr:Array Value) (t:TypeId):Blk (w.alloc (.cells arr t)) w.heap.size arr t:=World.alloc_heap_new w _
theorem Blk.alloc {w:World} {b:Nat} {arr:Array Value} {t:TypeId} (h:Blk w b arr t) (o:Obj):Blk (w.alloc o) b arr t:=
 (Below.heap_alloc _ _ _ h.lt).trans h
theorem Blk.drew {w:World} {b:Nat} {arr:Array Value} {t:TypeId} (h:Blk w b arr t):Blk w.drew b arr t:=h
theorem Blk.set {w:World} {b:Nat} {arr:Array Value} {t:TypeId} (h:Blk w b arr t) (o:Nat) (v:Value):Blk (w.setCell ⟨b,o,none⟩ v) b (arr.setIfInBounds o v) t:=by
 unfold Blk at h⊢
 simp only[World.setCell,Array.getElem?_modify,h]
 simp
end Go.Proofs.YtpcgafhgfjlkmaaGreatDoor
