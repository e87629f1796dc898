/-The walker and contracts, part 8.-/
import Derived.ArgAppend
import Derived.Deep.Slices
import Derived.Deep.Fields
import Derived.Test.YtciaccbemnpipaaGreatDoorJ4
set_option linter.all false
namespace Go.Proofs.YtciaccbemnpipaaGreatDoor
open Go.RowKit Go.ChangeShapes Go.WideShapes Go.ChangeAt Go.Deep
variable {P : Program}
def Sl (w:World) (v:Value) (e:TypeId) (k n:Nat) (xs:List Value):Prop:=w.ownsRow 0 e k v n xs
def blk (v:Value):List Nat:=v.ownBlock.toList
theorem blk_nil:blk (.slice none 0 0)=[]:=rfl
theorem jd9 (g n c:Nat):blk (.slice (some ⟨g,0,none⟩) n c)=[g]:=rfl
theorem Sl.nil (w:World) (e:TypeId) (k:Nat):Sl w (.slice none 0 0) e k 0 []:=World.ownsRow_nil w 0 e k
theorem Sl.only {w w':World} {v:Value} {e:TypeId} {k n:Nat} {xs:List Value} {S:List Nat} (h:Sl w v e k n xs) (ho:jN S w w') (hb: ∀ g,g∈blk v->g∉S):Sl w' v e k n xs:=by
 obtain⟨h1,h2⟩:=h
 refine⟨h1,?_⟩
 rcases h2 with h2|⟨g,cap,cur,rfl,h3,h4,h5⟩
 ·exact .inl h2
 ·exact .inr ⟨g,cap,cur,rfl,h3,(ho.block g (Array.getElem?_eq_some_iff.1 h4).1 (hb g (by simp[jd9]))).trans h4,h5⟩
theorem Sl.lt {w:World} {v:Value} {e:TypeId} {k n:Nat} {xs:List Value} (h:Sl w v e k n xs): ∀ g,g∈blk v->g<w.heap.size:=by
 obtain⟨h1,h2⟩:=h
 rcases h2 with⟨rfl,_⟩|⟨g,cap,cur,rfl,h3,h4,h5⟩
 ·simp[blk_nil]
 ·intro g' hg';simp[jd9] at hg';subst hg';exact(Array.getElem?_eq_some_iff.1 h4).1
theorem Sl.shape {w:World} {v:Value} {e:TypeId} {k n:Nat} {xs:List Value} (h:Sl w v e k n xs):
  (v= .slice none 0 0/\n=0/\xs=[])\/ ∃ g cap cur,v= .slice (some ⟨g,0,none⟩) n cap/\Blk w g cur e/\n<=cap/\cap<=maxLen/\cur.size=cap*k/\cur.toList.take (n*k)=xs:=by
 obtain⟨h1,h2⟩:=h
 rcases h2 with⟨rfl,rfl⟩|⟨g,cap,cur,rfl,h3,h4,h5⟩
 ·exact .inl ⟨rfl,rfl,List.eq_nil_of_length_eq_zero (by simpa using h1)⟩
 ·exact .inr ⟨g,cap,cur,rfl,h4,h5⟩
theorem Sl.cell {w:World} {g n c:Nat} {e:TypeId} {k:Nat} {xs:List Value} (h:Sl w (.slice (some ⟨g,0,none⟩) n c) e k n xs) {j:Nat} {u:Value} (hj:xs[j]?=some u):
  w.cell? ⟨g,j,none⟩=some u/\w.frozen? ⟨g,j,none⟩=false:=by
 rcases h.shape with⟨h1,_⟩|⟨g',cap,cur,h1,hB,hn,hc,hs,ht⟩
 ·cases h1
 ·cases h1
  refine⟨hB.cell ?_,hB.frozen _⟩
  rw[<-ht,List.getElem?_take] at hj
  split at hj
  ·simpa using hj
  ·cases hj
theorem Sl.set {w:World} {g n c:Nat} {e:TypeId} {k:Nat} {xs:List Value} (h:Sl w (.slice (some ⟨g,0,none⟩) n c) e k n xs) (j:Nat) (u:Value):
  Sl (w.setCell ⟨g,j,none⟩ u) (.slice (some ⟨g,0,none⟩) n c) e k n (xs.set j u):=by
 rcases h.shape with⟨h1,_⟩|⟨g',cap,cur,h1,hB,hn,hc,hs,ht⟩
 ·cases h1
 ·cases h1
  have hlen:=h.1
  refine⟨by simpa using hlen, .inr ⟨g,c,_,rfl,Nat.zero_le _,hB.set j u,hn,hc,by simpa using hs,?_⟩⟩
  rw[<-ht,Array.toList_setIfInBounds,List.take_set]
theorem Sl.len {w:World} {v:Value} {e:TypeId} {k n:Nat} {xs:List Value} (h:Sl w v e k n xs):xs.length=n*k:=h.1
theorem jkR {w:World} (t ty e:TypeId) (z:Value) (size bytes:Nat) (ht:P.underlying t=some (.slice e)) (hinfo:(P.info? e).map (fun i=>(i.zero,i.size,i.bytes))=some (some z,size,bytes))
  (hzs:z.cells.size=size) (hsz:0<size) {v:Value} {n:Nat} {xs:List Value} (hv:Sl w v e size n xs)
  (ad:Addr) (m c:Nat) (news:List Value) (hl:news.length=m*size) (hnews: ∀ j u,news[j]?=some u->w.cell? (ad.add j)=some u) (h1: ∀ u∈news,u.oneCell'=true)
  (hm:0<m) (h63:n+m<=maxLen) (hbytes:(n+m)*bytes<=140737488355328):
  ∃ g' cap' w',(Builtin.append_ #[t,t] ty #[v, .slice (some ad) m c]).run P w= .ok (.slice (some ⟨g',0,none⟩) (n+m) cap') w'/\Sl w' (.slice (some ⟨g',0,none⟩) (n+m) cap') e size (n+m) (xs++news)/\
   jN (blk v) w w'/\(g'∈blk v\/w.heap.size<=g'):=by
 obtain⟨i,hi,hzz⟩:=Option.map_eq_some_iff.1 hinfo
 simp only[Prod.mk.injEq] at hzz
 obtain⟨hz,hs,hb⟩:=hzz
 have fresh: ∀ v' w',w'.ownsRow w.heap.size e size v' (n+m) (xs++news)-> ∃ g' cap',v'= .slice (some ⟨g',0,none⟩) (n+m) cap'/\w.heap.size<=g'/\Sl w' v' e size (n+m) (xs++news):=by
  intro v' w' h
  obtain⟨a1,a2⟩:=h
  rcases a2 with⟨_,h0⟩|⟨g,cap,cur,rfl,h3,h4,h5⟩
  ·omega
  ·exact⟨g,cap,rfl,h3,a1, .inr ⟨g,cap,cur,rfl,Nat.zero_le _,h4,h5⟩⟩
 rcases hv.shape with⟨rfl,rfl,rfl⟩|⟨g,cap,cur,rfl,hB,hn,hc,hcs,htk⟩
 ·obtain⟨v',w',hr,h2,h3,_⟩:=run_append_own (P:=P) w w.heap.size t ty e i z size bytes ht hi hz hs hb hzs hsz (.slice none 0 0) 0 [] (World.ownsRow_nil _ _ _ _) ad m c news hl hnews h1 h63 hbytes (Nat.le_refl _)
  obtain⟨g',cap',rfl,hge,hsl⟩:=fresh v' w' h2
  exact⟨g',cap',w',hr,hsl,jN.of_grown h3 (by simp[Value.ownBlock]), .inr hge⟩
 ·by_cases hroom:n+m<=cap
  ·obtain⟨v',w',hr,h2,h3,_⟩:=run_append_own (P:=P) w 0 t ty e i z size bytes ht hi hz hs hb hzs hsz _ n xs hv ad m c news hl hnews h1 h63 hbytes (Nat.zero_le _)
   subst hs
   have hfit:n*i.size+news.length<=cur.size:=by rw[hl,hcs,<-Nat.add_mul];exact Nat.mul_le_mul_right _ hroom
   have hr2:=run_append_room (P:=P) w t ty e i ht hi g n cap cur hB ad m c news hl hnews h1 hroom hfit
   have e1:=hr.symm.trans hr2
   cases e1
   exact⟨g,cap,_,hr,h2,jN.of_grown h3 (by simp[Value.ownBlock,jd9]), .inl (by simp[jd9])⟩
  ·have holds: ∀ j u,xs[j]?=some u->w.cell? ((⟨g,0,none⟩:Addr).add j)=some u:=by
    intro j u hj
    rw[Addr.add_lit,Nat.zero_add]
    exact(hv.cell hj).1
   obtain⟨v',w',hr,h2,h3⟩:=run_append_arg_grows (P:=P) w t ty e i z size bytes ht hi hz hs hb hzs hsz ⟨g,0,none⟩ n cap xs hv.1 holds ad m c news hl hnews (by omega) h63 hbytes
   obtain⟨g',cap',rfl,hge,hsl⟩:=fresh v' w' h2
   exact⟨g',cap',w',hr,hsl,jN.of_grown h3 (by simp), .inr hge⟩
theorem jhN {α:Type} (n:Nat) (Q:Nat->α->Prop) (h: ∀ i,i<n-> ∃ y,Q i y): ∃ ys:List α,ys.length=n/\ ∀ i y,ys[i]?=some y->Q i y:=by
 refine⟨List.ofFn fun i:Fin n=>Classical.choose (h i.1 i.2),by simp,?_⟩
 intro i y hy
 rw[List.getElem?_ofFn] at hy
 split at hy
 ·rename_i hi;cases hy;exact Classical.choose_spec (h i hi)
 ·cases hy
