/-The walker and contracts, part 23.-/
import Derived.Test.YtciaccbemnpipaaGreatDoorJ20
set_option linter.all false
namespace Go.Proofs.YtciaccbemnpipaaGreatDoor.Sw
set_option maxHeartbeats 8000000
open Go.Proofs.YtciaccbemnpipaaGreatDoor renaming lo -> qL, hi -> qH
open Go.RowKit
set_option maxRecDepth 10000
structure jdn (ring:List Int) (first many:Nat) (q:List Nat):Prop where
 n:q.length=many
 le:many<=ring.length
 lt:first<ring.length
 at_: ∀ i:Nat,i<many->ring[(first+i)%ring.length]?=(q[i]?).map fun n=>((n:Nat):Int)
theorem mod_inj {f l i j:Nat} (hi:i<l) (hj:j<l) (h:(f+i)%l=(f+j)%l):i=j:=by
 have h1:=Nat.div_add_mod (f+i) l
 have h2:=Nat.div_add_mod (f+j) l
 rw[h] at h1
 rcases Nat.lt_trichotomy ((f+i)/l) ((f+j)/l) with hh|hh|hh
 ·have:=Nat.mul_le_mul_left l (show(f+i)/l+1<=(f+j)/l from hh)
  rw[Nat.mul_add] at this;omega
 ·rw[hh] at h1;omega
 ·have:=Nat.mul_le_mul_left l (show(f+j)/l+1<=(f+i)/l from hh)
  rw[Nat.mul_add] at this;omega
theorem jdn.put {ring:List Int} {first many:Nat} {q:List Nat} (h:jdn ring first many q) (hl:many<ring.length) (s:Nat):
  jdn (ring.set ((first+many)%ring.length) (s:Nat)) first (many+1) (q++ [s]):=by
 have hlt:=Nat.mod_lt (first+many) (show 0<ring.length by omega)
 refine⟨by simp[h.n],by simp;omega,by simpa using h.lt,fun i hi=>?_⟩;simp only[List.length_set]
 have hqn:=h.n
 have hfl:=h.lt
 by_cases hm:i=many
 ·subst hm;rw[List.getElem?_set_self hlt,List.getElem?_append_right bc]
  simp[h.n]
 ·rw[List.getElem?_set_ne,List.getElem?_append_left (by rw[h.n];omega)]
  ·exact h.at_ i bc
  ·intro e;exact hm (mod_inj bc hl e.symm)
theorem jdn.next {ring:List Int} {first many:Nat} {s:Nat} {q:List Nat} (h:jdn ring first many (s::q)):
  ring[first]?=some ((s:Nat):Int)/\jdn ring ((first+1)%ring.length) (many-1) q:=by
 have hn:=h.n
 have hlt:=h.lt
 have hle:=h.le
 simp at hn
 constructor
 ·have:=h.at_ 0 bc
  rw[Nat.add_zero,Nat.mod_eq_of_lt hlt] at this
  simpa using this
 ·refine⟨by omega,by omega,Nat.mod_lt _ bc,fun i hi=>?_⟩
  have:=h.at_ (i+1) bc
  rw[show((first+1)%ring.length+i)%ring.length=(first+(i+1))%ring.length by rw[Nat.mod_add_mod];congr 1;omega];rw[this];simp
structure GrR (r:GrM) (g:PlG) (G:GyP):Prop where
 ow:r.ow.bs=G.ow
 di:r.di.bs=G.di
 q:jdn r.ring r.first r.many G.q
 pg:match G.pg with
  |none=>r.at_=r.end_
  |some k=>r.at_=g.fp k+G.at_/\r.end_=g.fp k+g.mp k
 lo:r.end_<=g.slots
section
variable {w0 : World} {F : jb} {p : jQ} {r : GrM} {G : GyP}
theorem owe_K {s k:Nat} (ok:GrOk r p) (hs:s<p.g.slots) (hk:k<p.g.pages):
  Call Tryz.prog w0 395 [.agg [pt r.ow.b,pt r.di.b].toArray, .int .i64 (s:Nat), .int .i64 (k:Nat)] (jD r.ow++(jD r.di++F))
   (fun v H'=>v= .tuple #[]/\H'=jD (JD r.ow s true)++(jD (JD r.di k true)++F)):=by
 have k1:=ok.ow
 have k2:=ok.di
 have h1:s<r.ow.bs.length:=by rw[ok.n1];exact hs
 have h2:k<r.di.bs.length:=by rw[ok.n2];exact hk
 refine en3 14 Tryz.func395 ?_
 (iterate 12 first|refine yS ?_|intro _)
 refine ji (jdm (v:=true) k1 h1) ja ?_;refine yr7 ?_;refine ji (jdm (v:=true) k2 h2) ja ?_;refine yr1 ?_;exact zaX
theorem pay_K {s:Nat} (ok:GrOk r p) (hs:s<p.g.slots):
  Call Tryz.prog w0 345 [.agg [pt r.ow.b,pt r.di.b].toArray, .int .i64 (s:Nat)] (jD r.ow++(jD r.di++F))
   (fun v H'=>v= .bool ((r.ow.bs[s]?).getD false)/\H'=jD (JD r.ow s false)++(jD r.di++F)):=by
 have k1:=ok.ow
 have k2:=ok.di
 have h1:s<r.ow.bs.length:=by rw[ok.n1];exact hs
 have hg:getB r.ow.bs (s:Nat)=(r.ow.bs[s]?).getD false:=jfp
 refine en2 15 Tryz.func345 ?_
 (iterate 4 first|refine yS ?_|intro _);refine yq8 fun T hT=>?_
 refine(CallV.part (CallV.fn (Get_K (i:=(s:Nat)) k1)) ja).mono ?_;rintro _ _ ⟨rfl,rfl⟩;rw[hg];refine ze ?_;clear hT T;refine yr9 ?_;refine ji (jdm (v:=false) k1 h1) ja ?_;refine yr9 ?_;exact zd
theorem grPut_K {s:Nat} (ok:GrOk r p) (hR:GrR r p.g G) (hs:s<p.g.slots):
  Call Tryz.prog w0 377 [pt r.b, .int .i64 (s:Nat)] (JV r p++(planH p++F))
   (fun v H'=>v= .int .i64 0/\ ∃ r',GrOk r' p/\r'.b=r.b/\r'.ring.length=r.ring.length/\GrR r' p.g (JP p.g r.ring.length G s)/\H'=JV r' p++(planH p++F)):=by
 obtain⟨y,hy⟩:=Je (g:=p.g) hs
 have hpg:=jdG hy
 have hpb:=(jdi ok.pl.g hy).1
 have okp:=ok.pl
 have ho:=ok.o
 have hl:=ok.l
 have hq:=hR.q.n
 have hle:=hR.q.le
 have hlt:=hR.q.lt
 by_cases hfull:r.many=r.ring.length
 ·have hput:JP p.g r.ring.length G s={G with ow:=G.ow.set s true,di:=G.di.set y.page true}:=by
   unfold JP;rw [if_neg bc,hpg]
  have hf:((r.many:Nat):Int)=(r.ring.length:Nat):=by omega
  refine en2 68 Tryz.func377 ?_;refine yr10 ?_;refine zan ?_;simp only[jab];refine yr13 ?_;refine ji (Page0_K okp hy) ja ?_;refine yr18 ?_;refine zE ?_;refine yr22 ?_;refine ji (owe_K ok hs hpb) ja ?_;refine yr9 ?_
  have hd:r=⟨r.b,r.ow,r.di,r.ring,r.o,r.first,r.many,r.at_,r.end_⟩:=rfl
  exact KE.fin (H':=JV ⟨r.b,JD r.ow s true,JD r.di y.page true,r.ring,r.o,r.first,r.many,r.at_,r.end_⟩ p++(planH p++F)) jd rfl jc bW
   ⟨rfl,⟨r.b,JD r.ow s true,JD r.di y.page true,r.ring,r.o,r.first,r.many,r.at_,r.end_⟩,⟨okp,jdc ok.ow _ _,jdc ok.di _ _,ho,by simpa [JD] using ok.n1,by simpa [JD] using ok.n2,hl⟩,rfl,rfl,by
    rw[hput];exact⟨by show(r.ow.bs.set s true)=_;rw [hR.ow],by show(r.di.bs.set y.page true)=_;rw [hR.di],hR.q,hR.pg,hR.lo⟩,by simp only[jab]⟩
 ·have hput:JP p.g r.ring.length G s={G with q:=G.q++ [s]}:=by
   unfold JP;rw [if_pos bc]
  have hf: ¬((r.many:Nat):Int)=(r.ring.length:Nat):=by omega
  have hml:=Nat.mod_lt (r.first+r.many) (show 0<r.ring.length by omega)
  have he:(((r.first:Nat):Int)+((r.many:Nat):Int))%((r.ring.length:Nat):Int)=(((r.first+r.many)%r.ring.length:Nat):Int):=rfl
  obtain⟨a,ha⟩: ∃ a,(r.first+r.many)%r.ring.length=a:=⟨_,rfl⟩
  have hring:=hR.q.put bc s
  rw[ha] at hml he hring
  have hn0: ¬((r.ring.length:Nat):Int)=0:=by omega
  have hn1: ¬((r.ring.length:Nat):Int)= -1:=by omega
  obtain⟨z0,hz0⟩:=jq hml
  have e1:((r.many:Nat):Int)+1=((r.many+1:Nat):Int):=by omega
  refine en2 68 Tryz.func377 ?_;refine yr10 ?_;refine zan ?_;simp only[jab];refine yr13 ?_;refine ji (Page0_K okp hy) ja ?_;refine yr18 ?_;refine zE ?_;refine yr15 ?_;refine K.dr [] (od 0 [0,0,0,0,0,0,0,0,0,0,0,0,0,0,0,0,0,0,0,0,0,2]) Part.nil ?_;refine yr21 ?_;rw[he];refine yr22 ?_;rw[Int.toNat_natCast]
  skip
  exact KE.fin (H':=JV ⟨r.b,r.ow,r.di,r.ring.set a (s:Nat),r.o,r.first,r.many+1,r.at_,r.end_⟩ p++(planH p++F)) jd rfl jc (by simp only[jab,List.length_set];exact ja)
   ⟨rfl,⟨r.b,r.ow,r.di,r.ring.set a (s:Nat),r.o,r.first,r.many+1,r.at_,r.end_⟩,⟨okp,ok.ow,ok.di,ho.set _ _,ok.n1,ok.n2,by simpa using hl⟩,rfl,by simp,by
    rw[hput];exact⟨hR.ow,hR.di,hring,hR.pg,hR.lo⟩,by simp only[jab]⟩
theorem grNext_K (ok:GrOk r p) (hR:GrR r p.g G):
  Call Tryz.prog w0 264 [pt r.b] (JV r p++F)
   (fun v H'=>(G.q=[]/\v= .tuple [.int .i64 0, .bool false].toArray/\H'=JV r p++F)\/ ∃ s q r',G.q=s::q/\v= .tuple [.int .i64 (s:Nat), .bool true].toArray/\GrOk r' p/\r'.b=r.b/\r'.ring.length=r.ring.length/\GrR r' p.g {G with q:=q}/\H'=JV r' p++F):=by
 have ho:=ok.o
 have hl:=ok.l
 have hn:=hR.q.n
 have hlt:=hR.q.lt
 have hle:=hR.q.le
 cases hq:G.q with
 |nil=>
  rw[hq] at hn
  simp at hn
  have hm0:((r.many:Nat):Int)=0:=by omega
  refine en1 47 Tryz.func264 ?_;refine yr11 ?_;refine zan ?_;simp only[jab];refine yr18 ?_;exact KE.fin jd rfl jc bG (.inl ⟨trivial,rfl,rfl⟩)
 |cons s q=>
  have hRq:=hR.q
  rw[hq] at hRq
  obtain⟨hx,hnx⟩:=hRq.next
  rw[hq] at hn
  simp at hn
  have hm0: ¬((r.many:Nat):Int)=0:=by omega
  have hml:=Nat.mod_lt (r.first+1) (show 0<r.ring.length by omega)
  obtain⟨a,ha⟩: ∃ a,(r.first+1)%r.ring.length=a:=⟨_,rfl⟩
  have he:(((r.first:Nat):Int)+1)%((r.ring.length:Nat):Int)=((a:Nat):Int):=by rw[<-ha];rfl
  have e1:((r.many:Nat):Int)-1=((r.many-1:Nat):Int):=by omega
  rw[ha] at hnx hml
  have hn0: ¬((r.ring.length:Nat):Int)=0:=by omega
  refine en1 47 Tryz.func264 ?_;refine yr11 ?_;refine zan ?_;simp only[jab];refine yr13 ?_;refine zE ?_;refine yr14 ?_;refine K.dr _ (od 0 [0,1,0,0,0,0,0,0,0,0,0,0,0,0,0,0,0,1,0,0,2,0,0,2]) (Part.drop Part.all) ?_;refine yr36 ?_;rw[he,e1];exact KE.fin (H':=JV ⟨r.b,r.ow,r.di,r.ring,r.o,a,r.many-1,r.at_,r.end_⟩ p++F) jd rfl jc bW
   (.inr ⟨s,q,⟨r.b,r.ow,r.di,r.ring,r.o,a,r.many-1,r.at_,r.end_⟩,rfl,rfl,⟨ok.pl,ok.ow,ok.di,ho,ok.n1,ok.n2,hl⟩,rfl,rfl,⟨hR.ow,hR.di,hnx,hR.pg,hR.lo⟩,by simp only[jab]⟩)
structure GwA where
 r:GrM
 k:Nat
 G:GyP
theorem jkh {g:PlG} (h1:G.pg=none) (h2:G.q≠ []\/nextB G.di 0 true=none):walkG g G=none:=by
 unfold walkG openG;rw[h1];dsimp only
 cases hq:G.q with
 |cons s q=>rfl
 |nil=>
  rcases h2 with h|h
  ·exact absurd hq h
  ·rw[h];rfl
theorem grWalk_K (hG:ju w0) (ok:GrOk r p) (hR:GrR r p.g G) (hok:J4 p.g r.ring.length G):
  Call Tryz.prog w0 268 [pt r.b] (JV r p++(planH p++F))
   (fun v H'=>(walkG p.g G=none/\v= .tuple [.int .i64 0, .bool false, .bool false].toArray/\H'=JV r p++(planH p++F))\/ ∃ o G' r',walkG p.g G=some (o,G')/\v= .tuple [.int .i64 (nxI o), .bool o.isSome, .bool true].toArray/\GrOk r' p/\r'.b=r.b/\r'.ring.length=r.ring.length/\GrR r' p.g G'/\H'=JV r' p++(planH p++F)):=by
 have okp:=ok.pl
 have ho:=ok.o
 have hl:=ok.l
 have k1:=ok.ow
 have k2:=ok.di
 have hqn:=hR.q.n
 have hsl:=okp.g.slots
 refine en1 85 Tryz.func268 ?_;refine yr12 ?_;refine zan ?_;simp only[jab];refine yr5 ?_;refine K.cutT (σ:=GwA) [(0,_)] jg (fun s kp_=>kp_) (fun s=>JV s.r p++(planH p++F)) (fun s=>GrOk s.r p/\GrR s.r p.g s.G/\J4 p.g r.ring.length s.G/\s.G.pg=some s.k/\openG G=some (s.k,s.G)/\s.r.b=r.b/\s.r.ring.length=r.ring.length) ?_ ?_
 ·cases hp:G.pg with
  |some k=>
   have hpg:=hR.pg
   rw[hp] at hpg
   obtain⟨a1,a2⟩:=hpg
   have hlt:=(hok.pg k hp).2
   have hne: ¬((r.at_:Nat):Int)=(r.end_:Nat):=by omega
   refine yr1 ?_;refine zS ?_;refine yr13 ?_;exact KE.meet ⟨r,k,G⟩ jg bG ⟨ok,hR,hok,hp,by unfold openG;rw [hp],rfl,rfl⟩
  |none=>
   have hpg:=hR.pg
   rw[hp] at hpg;dsimp only at hpg
   have hne:((r.at_:Nat):Int)=(r.end_:Nat):=by omega
   refine yr1 ?_;refine zS ?_;refine yq19 fun T hT=>?_;refine(CallV.part (CallV.fn (jfF (k:=0) (v:=true) k2 hG bc)) ja).mono ?_;rintro _ _ ⟨rfl,rfl⟩;rw[hR.di];refine ze ?_;clear hT T
   cases hq:G.q with
   |cons s q=>
    rw[hq] at hqn
    simp at hqn
    have hm:((r.many:Nat):Int)>0:=by omega
    refine yr32 ?_;exact KE.fin jd rfl jc bG (.inl ⟨jkh hp (.inl (by rw[hq];simp)),rfl,rfl⟩)
   |nil=>
    rw[hq] at hqn
    simp at hqn
    have hm: ¬((r.many:Nat):Int)>0:=by omega
    cases hn:nextB G.di 0 true with
    |none=>
     unfold nxI;dsimp only[Option.isSome,Option.getD];refine yr32 ?_;exact KE.fin jd rfl jc bG (.inl ⟨jkh hp (.inr hn),rfl,rfl⟩)
    |some j=>
     obtain⟨n1,n2,n3,n4⟩:=jck hn
     have hj:j<p.g.pages:=by rw[<-hok.di];exact n1
     have hj2:j<r.di.bs.length:=by rw[ok.n2];exact hj
     obtain⟨b1,b2,b3⟩:=jcL okp.g hj
     have e1:((p.g.fp j:Nat):Int)+((p.g.mp j:Nat):Int)=((p.g.fp j+p.g.mp j:Nat):Int):=by omega
     have hop:openG G=some (j,{G with di:=G.di.set j false,pg:=some j,at_:=0}):=by unfold openG;rw [hp,hq];dsimp only;rw [hn]
     have hok1:=(jdU okp.g hok hop).1
     unfold nxI;dsimp only[Option.isSome,Option.getD];refine jbf ?_;refine ji (jdm (v:=false) k2 hj2) ja ?_;refine yr10 ?_;refine ji (In_K okp hj) ja ?_;refine yr23 ?_;rw[e1];exact KE.meet ⟨⟨r.b,r.ow,JD r.di j false,r.ring,r.o,r.first,r.many,p.g.fp j,p.g.fp j+p.g.mp j⟩,j,{G with di:=G.di.set j false,pg:=some j,at_:=0}⟩ jg bG
      ⟨⟨okp,k1,jdc k2 _ _,ho,ok.n1,by simpa [JD] using ok.n2,hl⟩,⟨hR.ow,by show r.di.bs.set j false=_;rw [hR.di],by rw[hq];have:=hR.q;rwa[hq] at this,⟨rfl,rfl⟩,by show p.g.fp j+p.g.mp j<=_;omega⟩,hok1,rfl,hop,rfl,rfl⟩
 ·rintro⟨r1,k,G1⟩ ⟨ok1,hR1,hok1,hk1,hop,hb1,hl1⟩;dsimp only at ok1 hR1 hok1 hk1 hop hb1 hl1|-
  have hpg:=hR1.pg
  rw[hk1] at hpg
  obtain⟨a1,a2⟩:=hpg
  obtain⟨c1,c2⟩:=hok1.pg k hk1
  obtain⟨b1,b2,b3⟩:=jcL okp.g c1
  have ho1:=ok1.o
  have hs:r1.at_<p.g.slots:=by omega
  have e1:((r1.at_:Nat):Int)+1=((r1.at_+1:Nat):Int):=by omega
  have hsl1:r1.at_<r1.ow.bs.length:=by rw[ok1.n1];exact hs
  obtain⟨wb,hwb⟩:=jq hsl1
  have hwG:(G1.ow[p.g.fp k+G1.at_]?).getD false=wb:=by rw[<-hR1.ow,<-a1,hwb];rfl
  have hw:walkG p.g G=some (walk1 p.g k G1):=by unfold walkG;rw [hop];rfl
  have hn1:GrOk ⟨r1.b,JD r1.ow r1.at_ false,r1.di,r1.ring,r1.o,r1.first,r1.many,r1.at_+1,r1.end_⟩ p:=⟨okp,jdc ok1.ow _ _,ok1.di,ho1,by simpa [JD] using ok1.n1,ok1.n2,ok1.l⟩
  have hn2:GrR ⟨r1.b,JD r1.ow r1.at_ false,r1.di,r1.ring,r1.o,r1.first,r1.many,r1.at_+1,r1.end_⟩ p.g (walk1 p.g k G1).2:=by
   refine⟨by show r1.ow.bs.set r1.at_ false=_;rw [hR1.ow,a1];rfl,hR1.di,hR1.q,?_,hR1.lo⟩;unfold walk1;dsimp only
   by_cases h:G1.at_+1=p.g.mp k
   ·rw[if_pos h];dsimp only;omega
   ·rw[if_neg h,if_neg h];dsimp only;omega
  rw[<-hb1];rw[hw];unfold walk1 at hn2|-;rw[hwG] at hn2|-;simp only[jab];refine yq29 fun T hT=>?_;rw[e1];refine(CallV.part (CallV.fn (pay_K ok1 hs)) ja).mono ?_;rintro _ _ ⟨rfl,rfl⟩;rw[hwb];dsimp only[Option.getD];refine ze ?_;clear hT T
  cases wb with
  |true=>
   refine yr15 ?_;exact KE.fin (H':=JV ⟨r1.b,JD r1.ow r1.at_ false,r1.di,r1.ring,r1.o,r1.first,r1.many,r1.at_+1,r1.end_⟩ p++(planH p++F)) jd rfl jc bW
    (.inr ⟨_,_,⟨r1.b,JD r1.ow r1.at_ false,r1.di,r1.ring,r1.o,r1.first,r1.many,r1.at_+1,r1.end_⟩,rfl,by simp only[if_true,nxI,Option.isSome,Option.getD,a1];rfl,hn1,rfl,hl1,hn2,by simp only[jab]⟩)
  |false=>
   refine yr13 ?_;exact KE.fin (H':=JV ⟨r1.b,JD r1.ow r1.at_ false,r1.di,r1.ring,r1.o,r1.first,r1.many,r1.at_+1,r1.end_⟩ p++(planH p++F)) jd rfl jc bW
    (.inr ⟨_,_,⟨r1.b,JD r1.ow r1.at_ false,r1.di,r1.ring,r1.o,r1.first,r1.many,r1.at_+1,r1.end_⟩,rfl,by simp only[nxI,Bool.false_eq_true,if_false,Option.isSome,Option.getD];rfl,hn1,rfl,hl1,hn2,by simp only[jab]⟩)
theorem grOwed_K (ok:GrOk r p):
  Call Tryz.prog w0 340 [pt r.b] (JV r p++F) (fun v H'=>v= .int .i64 (r.ow.bs.count true:Nat)/\H'=JV r p++F):=by
 have k1:=ok.ow
 refine en1 11 Tryz.func340 ?_;refine yr10 ?_;refine zan ?_;simp only[jab];refine yr13 ?_;refine ji (Count_K k1) ja ?_;refine yr4 ?_;exact zaA
theorem grEmpty_K (hG:ju w0) (ok:GrOk r p) (hR:GrR r p.g G) (hok:J4 p.g r.ring.length G):
  Call Tryz.prog w0 259 [pt r.b] (JV r p++F)
   (fun v H'=>v= .bool (J8 G)/\H'=JV r p++F):=by
 have hqn:=hR.q.n
 have ho:=ok.o
 have hpg:=hR.pg
 by_cases hm:r.many=0
 ·have hq:G.q=[]:=by rw[hm] at hqn;exact List.length_eq_zero_iff.1 hqn
  have hm':((r.many:Nat):Int)=0:=by omega
  by_cases he:r.at_=r.end_
  ·have he':((r.at_:Nat):Int)=(r.end_:Nat):=by omega
   have hpn:G.pg=none:=by
    cases hp:G.pg with
    |none=>rfl
    |some k=>
     rw[hp] at hpg;dsimp only at hpg
     have:=(hok.pg k hp).2
     omega
   have hem:J8 G=decide (((r.ow.bs.count true:Nat):Int)=0):=by
    unfold J8;rw[hq,hpn,hR.ow];simp only[List.isEmpty_nil,Option.isNone_none,Bool.and_true,Bool.true_and];exact decide_eq_decide.2 bc
   rw[hem];refine en1 28 Tryz.func259 ?_;refine yr6 ?_;refine zbw ?_;refine yr2 ?_;refine ji (jd6 ok) ja ⟨ja,?_⟩;simp only[jab];refine yr19 ?_;refine zo fun T hT=>?_;refine(CallV.part (CallV.fn (grOwed_K ok)) bG).mono ?_;rintro _ _ ⟨rfl,rfl⟩;refine zf ?_;clear hT T;refine yr7 ?_;exact zaA
  ·have he': ¬((r.at_:Nat):Int)=(r.end_:Nat):=by omega
   have hem:J8 G=false:=by
    cases hp:G.pg with
    |none=>rw [hp] at hpg;exact absurd hpg he
    |some k=>unfold J8;rw [hp];simp
   rw[hem];refine en1 28 Tryz.func259 ?_;refine yr6 ?_;refine zbw ?_;refine yr2 ?_;refine ji (jd6 ok) ja ⟨ja,?_⟩;simp only[jab];refine yr27 ?_;exact zaA
 ·have hm': ¬((r.many:Nat):Int)=0:=by omega
  have hem:J8 G=false:=by
   cases hq:G.q with
   |nil=>rw [hq] at hqn;simp at hqn;omega
   |cons s q=>unfold J8;rw [hq];rfl
  rw[hem];refine en1 28 Tryz.func259 ?_;refine yr6 ?_;refine zbw ?_;refine yr2 ?_;refine ji (jd6 ok) ja ⟨ja,?_⟩;simp only[jab];refine yr27 ?_;exact zaA
end
section
variable {w0 : World} {F : jb} {q : PiM}
theorem pi_set {s:Nat} {n:Int} (ok:PiOk q) (hs:s<q.l.length) (hn:0<=n/\n<=255):PiOk ⟨q.b,JD q.r s (decide (0<n)),q.l.set s n,q.o⟩:=by
 refine⟨jdc ok.r _ _,ok.o.set _ _,?_,by simpa using ok.m,fun v hv=>?_⟩
 ·show q.r.bs.set s (decide (0<n))=_
  rw[ok.n,List.map_set]
 ·rcases List.mem_or_eq_of_mem_set hv with h|rfl
  ·exact ok.v v h
  ·exact hn
theorem jix {s:Int} (ok:PiOk q):
  Cs w0 210 [pt q.b, .int .i64 s] (J0 q++F) (.int .i64 (if 0<=s then(q.l[s.toNat]?).getD 0 else 0)):=by
 have ho:=ok.o
 have hm:=ok.m
 by_cases h0:s<0
 ·rw[if_neg bc];refine en2 28 Tryz.func210 ?_;refine yr10 ?_;refine zam ?_;simp only[ja7];refine yr23 ?_;exact zaB
 ·rw[if_pos bc]
  by_cases h1:s<(q.l.length:Nat)
  ·obtain⟨k,rfl⟩: ∃ k:Nat,s=(k:Nat):=⟨s.toNat,by omega⟩
   obtain⟨v,hv⟩:=jq (l:=q.l) (k:=k) bc
   have hvb:=ok.v v (List.mem_of_getElem? hv)
   have hk:k<q.l.length:=by omega
   have hge: ¬((k:Nat):Int)>=(q.l.length:Nat):=by omega
   rw[show((k:Nat):Int).toNat=k by omega,hv];dsimp only[Option.getD];refine en2 28 Tryz.func210 ?_;refine yr10 ?_;refine zam ?_;simp only[ja7];refine yr32 ?_;exact zaB
  ·have hge:s>=((q.l.length:Nat):Int):=by omega
   rw[List.getElem?_eq_none bc];dsimp only[Option.getD];refine en2 28 Tryz.func210 ?_;refine yr10 ?_;refine zam ?_;simp only[ja7];refine yr23 ?_;exact zaB
theorem more_K {b:Value} {n:Int} (hn:0<=n/\n<=255):
  Cs w0 306 [b, .int .u8 n] F (.tuple [.int .u8 ((n+1)%256), .bool (decide (n<255))].toArray):=by
 by_cases h:n<255
 ·rw[decide_eq_true h];rw[show(n+1)%256=n+1 by omega];refine en2 10 Tryz.func306 ?_;refine yr17 ?_;exact zd
 ·rw[decide_eq_false h];refine en2 10 Tryz.func306 ?_;refine yr17 ?_;exact zd
theorem less_K {b:Value} {n:Int} (hn:0<=n/\n<=255):
  Cs w0 307 [b, .int .u8 n] F (.tuple [.int .u8 ((n-1)%256), .bool (decide (0<n))].toArray):=by
 by_cases h:0<n
 ·rw[decide_eq_true h,show(n-1)%256=n-1 by omega];refine en2 10 Tryz.func307 ?_;refine yr17 ?_;exact zd
 ·rw[decide_eq_false h];refine en2 10 Tryz.func307 ?_;refine yr17 ?_;exact zd
theorem jju {s:Nat} {v n:Int} {is:Bool} {yv:FuncId} {cap:List Value} (ok:PiOk q) (hv:q.l[s]?=some v) (hn:is=true->0<=n/\n<=255)
  (hby: ∀ A,CallV Tryz.prog w0 (.func (.func yv) cap.toArray #[]) [.int .u8 v] A (fun r H'=>r= .tuple [.int .u8 n, .bool is].toArray/\H'=A)):
  Call Tryz.prog w0 305 [pt q.b, .int .i64 (s:Nat), .func (.func yv) cap.toArray #[]] (J0 q++F) (fun r H'=>r= .int .i64 (if is=true then 0 else 140)/\ ∃ q',PiOk q'/\q'.b=q.b/\q'.l=(if is=true then q.l.set s n else q.l)/\H'=J0 q'++F):=by
 have ho:=ok.o
 have hr:=ok.r
 have hm:=ok.m
 have hs:=jl hv
 have hvb:=ok.v v (List.mem_of_getElem? hv)
 have hge: ¬((s:Nat):Int)>=(q.l.length:Nat):=by omega
 have hrs:s<q.r.bs.length:=by rw[ok.n,List.length_map];exact hs
 refine en3 53 Tryz.func305 ?_;refine yr11 ?_;refine zam ?_;simp only[ja7];refine yr35 ?_;refine(hby _).mono ?_;rintro _ _ ⟨rfl,rfl⟩
 cases is with
 |false=>
  simp only[Bool.false_eq_true,if_false];refine yr22 ?_;exact KE.fin jd rfl jc (by first|exact ja|(simp only[ja7];exact ja)) ⟨rfl,q,ok,rfl,rfl,rfl⟩
 |true=>
  have hnb:=hn rfl
  simp only[if_true];refine yr39 ?_;refine ji (jdm (v:=decide (0<n)) hr hrs) ja ?_;refine yr4 ?_;exact KE.fin (H':=J0 ⟨q.b,JD q.r s (decide (0<n)),q.l.set s n,q.o⟩++F) jd rfl jc (by simp only[ja7,List.length_set];exact ja) ⟨rfl,⟨q.b,JD q.r s (decide (0<n)),q.l.set s n,q.o⟩,pi_set ok hs hnb,rfl,rfl,by simp only[ja7]⟩
theorem Pin2_K {s:Nat} (ok:PiOk q) (hs:s<q.l.length):
  Call Tryz.prog w0 209 [pt q.b, .int .i64 (s:Nat)] (J0 q++F) (fun r H'=>r= .int .i64 (if (q.l[s]?).getD 0<255 then 0 else 140)/\ ∃ q',PiOk q'/\q'.b=q.b/\q'.l=JQ q.l s/\H'=J0 q'++F):=by
 obtain⟨v,hv⟩:=jq hs
 have hvb:=ok.v v (List.mem_of_getElem? hv)
 have hp:JQ q.l s=if decide (v<255)=true then q.l.set s ((v+1)%256) else q.l:=by
  unfold JQ;rw [hv];simp only[Option.getD,decide_eq_true_eq]
  by_cases h:v<255
  ·rw[if_pos h,if_pos h,show(v+1)%256=v+1 by omega]
  ·rw[if_neg h,if_neg h]
 have he:(if (q.l[s]?).getD 0<255 then(0:Int) else 140)=if decide (v<255)=true then 0 else 140:=by
  rw[hv];simp only[Option.getD,decide_eq_true_eq]
 rw[hp,he];refine en2 10 Tryz.func209 ?_;refine yr12 ?_;refine je (jju (cap:=[pt q.b]) ok hv (fun h=>by have:=of_decide_eq_true h;omega) fun A=>CallV.bound (first:=[pt q.b]) (more_K hvb)) ja ?_;rintro _ _ ⟨rfl,q',h1,h2,h3,rfl⟩;refine yr4 ?_;exact KE.fin jd rfl jc ja ⟨rfl,q',h1,h2,h3,rfl⟩
theorem Unpin2_K {s:Nat} (ok:PiOk q) (hs:s<q.l.length):
  Call Tryz.prog w0 211 [pt q.b, .int .i64 (s:Nat)] (J0 q++F) (fun r H'=>r= .int .i64 (if 0<(q.l[s]?).getD 0 then 0 else 140)/\ ∃ q',PiOk q'/\q'.b=q.b/\q'.l=JX q.l s/\H'=J0 q'++F):=by
 obtain⟨v,hv⟩:=jq hs
 have hvb:=ok.v v (List.mem_of_getElem? hv)
 have hp:JX q.l s=if decide (0<v)=true then q.l.set s ((v-1)%256) else q.l:=by
  unfold JX;rw [hv];simp only[Option.getD,decide_eq_true_eq]
  by_cases h:0<v
  ·rw[if_pos h,if_pos h,show(v-1)%256=v-1 by omega]
  ·rw[if_neg h,if_neg h]
 have he:(if 0<(q.l[s]?).getD 0 then(0:Int) else 140)=if decide (0<v)=true then 0 else 140:=by
  rw[hv];simp only[Option.getD,decide_eq_true_eq]
 rw[hp,he];refine en2 10 Tryz.func211 ?_;refine yr12 ?_;refine je (jju (cap:=[pt q.b]) ok hv (fun h=>by have:=of_decide_eq_true h;omega) fun A=>CallV.bound (first:=[pt q.b]) (less_K hvb)) ja ?_;rintro _ _ ⟨rfl,q',h1,h2,h3,rfl⟩;refine yr4 ?_;exact KE.fin jd rfl jc ja ⟨rfl,q',h1,h2,h3,rfl⟩
end
theorem jdK {t:TbM} {i:Nat} {e:jk} (ok:TbOk t) (he:0<=e.st/\e.st<4/\1<=e.gen/\e.gen<=2147483648/\0<=e.slot/\e.slot<=1000000):TbOk ⟨t.b,t.l.set i e,t.gens,t.o⟩:=by
 refine⟨ok.o.set _ _,by simpa using ok.n,ok.g,fun x hx=>?_⟩
 rcases List.mem_or_eq_of_mem_set hx with h|rfl
 ·exact ok.e x h
 ·exact he
section
variable {w0 : World} {F : jb} {t : TbM}
theorem jlr {i:Nat} {e:jk} (ok:TbOk t) (he:t.l[i]?=some e) (h0:e.st=0):
  Call Tryz.prog w0 308 [pt t.b, .pointer (some (adr (oV t.o t.l.length) (i*enE.sz))), .int .i64 1] (jF t++F) (fun r H'=>r= .tuple #[]/\H'=jF ⟨t.b,t.l.set i ⟨1,e.slot,e.gen⟩,t.gens,t.o⟩++F):=by
 have ho:=ok.o
 have hn:=ok.n
 obtain⟨st,sl,ge⟩:=e
 dsimp only at h0;subst h0
 have c0:=jaH he ⟨1,sl,ge⟩ 0
 have c1:=jaH he ⟨1,sl,ge⟩ 1
 have c2:=jaH he ⟨1,sl,ge⟩ 2
 have c3:=jaH he ⟨1,sl,ge⟩ 3
 have p0:1<=cntP 0 t.l:=jfs he
 have p1:=jcQ 1 t.l
 have p2:=jcQ 0 t.l
 simp at c0 c1 c2 c3
 have e0:((cntP 0 t.l:Nat):Int)-1=((cntP 0 (t.l.set i ⟨1,sl,ge⟩):Nat):Int):=by omega
 have e1:((cntP 1 t.l:Nat):Int)+1=((cntP 1 (t.l.set i ⟨1,sl,ge⟩):Nat):Int):=by omega
 refine en3 33 Tryz.func308 ?_;simp only[Jm];refine yr1 ?_;refine zaj ?_;refine yr7 ?_;dsimp only;refine yr11 ?_;refine zae ?_;refine yr14 ?_;refine zg ?_;refine yr4 ?_;refine KL.eN (Eff.stSl0 (x1:=(⟨1,sl,ge⟩:jk)) rfl rfl rfl rfl jt ho he rfl rfl) ?_;rintro _ _ rfl;refine yr1 ?_;rw[e0,e1];exact KE.finN (H':=jF ⟨t.b,t.l.set i ⟨1,sl,ge⟩,t.gens,t.o⟩++F) jd rfl jc (by simp only[Jm,List.length_set,c2,c3];exact ja) ⟨rfl,rfl⟩
theorem jlq {i:Nat} {e:jk} (ok:TbOk t) (he:t.l[i]?=some e) (h0:e.st=1):
  Call Tryz.prog w0 308 [pt t.b, .pointer (some (adr (oV t.o t.l.length) (i*enE.sz))), .int .i64 2] (jF t++F) (fun r H'=>r= .tuple #[]/\H'=jF ⟨t.b,t.l.set i ⟨2,e.slot,e.gen⟩,t.gens,t.o⟩++F):=by
 have ho:=ok.o
 have hn:=ok.n
 obtain⟨st,sl,ge⟩:=e
 dsimp only at h0;subst h0
 have c0:=jaH he ⟨2,sl,ge⟩ 0
 have c1:=jaH he ⟨2,sl,ge⟩ 1
 have c2:=jaH he ⟨2,sl,ge⟩ 2
 have c3:=jaH he ⟨2,sl,ge⟩ 3
 have p0:1<=cntP 1 t.l:=jfs he
 have p1:=jcQ 1 t.l
 have p2:=jcQ 2 t.l
 simp at c0 c1 c2 c3
 have e0:((cntP 1 t.l:Nat):Int)-1=((cntP 1 (t.l.set i ⟨2,sl,ge⟩):Nat):Int):=by omega
 have e1:((cntP 2 t.l:Nat):Int)+1=((cntP 2 (t.l.set i ⟨2,sl,ge⟩):Nat):Int):=by omega
 refine en3 33 Tryz.func308 ?_;simp only[Jm];refine yr1 ?_;refine zaj ?_;refine yr7 ?_;dsimp only;refine yr11 ?_;refine zae ?_;refine yr14 ?_;refine zg ?_;refine yr4 ?_;refine KL.eN (Eff.stSl0 (x1:=(⟨2,sl,ge⟩:jk)) rfl rfl rfl rfl jt ho he rfl rfl) ?_;rintro _ _ rfl;refine yr1 ?_;rw[e0,e1];exact KE.finN (H':=jF ⟨t.b,t.l.set i ⟨2,sl,ge⟩,t.gens,t.o⟩++F) jd rfl jc (by simp only[Jm,List.length_set,c0,c3];exact ja) ⟨rfl,rfl⟩
theorem tbin_K {H:jb} {b:Nat} {st:Int}:
  Call Tryz.prog w0 361 [pt b, .int .i64 st] H (fun u H'=> ∃ b1 b2,u= .func (.func 387) #[] [pt b1,pt b2].toArray/\H'=(b1,cells [pt b] 148)::(b2,cells [.int .i64 st] 3)::H):=by
 refine en2 6 Tryz.func361 ?_;refine yr3 ?_;intro b2;refine yr1 ?_;intro b3;refine yr10 ?_;exact KE.fin (H':=(b2,cells [pt b] 148)::(b3,cells [.int .i64 st] 3)::H) jd rfl jc ja ⟨b2,b3,rfl,rfl⟩
structure TbI where
 i:Nat
theorem tbin1_K {A0:jb} {st:Int} {q1 q2:Nat} {yv:Value} (ok:TbOk t) (E:jb->Prop)
  (hy: ∀ (i:Nat) (e:jk),t.l[i]?=some e->e.st=st->(∀ (j:Nat) (e:jk),j<i->t.l[j]?=some e->e.st≠st)->CallV Tryz.prog w0 yv [.int .i64 (i:Nat), .pointer (some (adr (oV t.o t.l.length) (i*enE.sz)))] (A0++((q1,cells [pt t.b] 148)::(q2,cells [.int .i64 st] 3)::(jF t++F))) (fun u H'=>u= .bool false/\E H')):
  Call Tryz.prog w0 387 [yv,pt q1,pt q2] (A0++((q1,cells [pt t.b] 148)::(q2,cells [.int .i64 st] 3)::(jF t++F)))
   (fun _ H'=>((∀ (j:Nat) (e:jk),t.l[j]?=some e->e.st≠st)/\H'=A0++((q1,cells [pt t.b] 148)::(q2,cells [.int .i64 st] 3)::(jF t++F)))\/E H'):=by
 have ho:=ok.o
 have hn:=ok.n
 refine en3 34 Tryz.func387 ?_;simp only[Jm];refine yr11 ?_;refine K.loopT (σ:=TbI) [(0,_),(1,_),(2,_),(10,_)] (fun s kp_=>(11, .int .i64 (s.i:Nat))::kp_) (fun s=>A0++((q1,cells [pt t.b] 148)::(q2,cells [.int .i64 st] 3)::(jF t++F))) (fun s=>s.i<=t.l.length/\ ∀ (j:Nat) (e:jk),j<s.i->t.l[j]?=some e->e.st≠st) (fun s=>t.l.length-s.i) (⟨0⟩) jg bH (⟨Nat.zero_le _,fun j e h=>absurd h (Nat.not_lt_zero _)⟩) ?_;rintro⟨i⟩ ⟨hi,hno⟩;dsimp only at hi hno|-;simp only[Jm]
 by_cases hlt:i<t.l.length
 ·obtain⟨e,he⟩:=jq hlt
  by_cases hst:e.st=st
  ·refine yr29 ?_;refine zaY ?_;refine yr10 ?_;refine zo fun T hT=>?_;refine(CallV.part (hy i e he hst hno) bH).mono ?_;rintro _ H' ⟨rfl,hE⟩;refine zf ?_;clear hT T;refine yr10 ?_;exact KE.fin jd rfl jc ja (.inr hE)
  ·refine yr29 ?_;refine zaY ?_;refine yr23 ?_
   exact KE.again ⟨i+1⟩ jg bH ⟨hlt,fun j e' (hj:j<i+1) he'=>by
    rcases Nat.lt_or_ge j i with h|h
    ·exact hno j e' h he'
    ·have:j=i:=by omega
     subst this
     rw[he] at he';cases he';exact hst⟩ Be
 ·refine yr11 ?_;exact KE.finN jd rfl jc bH (.inl ⟨fun j e he=>hno j e (by have:=jl he;omega) he,rfl⟩)
end
structure MkR (k:MkM) (p:jQ) (m:MaP):Prop where
 C:tiC k.c=m.C
 G:GrR k.g p.g m.G
 hs:k.hs=m.hs
 root:k.root=m.root
 act:k.act=m.act
 steps:k.steps=m.steps
structure MkTo (k k':MkM):Prop extends MkAs k k' where
 f:k'.c.f=k.c.f
 cb:k'.c.b=k.c.b
 gb:k'.g.b=k.g.b
 o:k'.o=k.o
theorem MkTo.refl (k:MkM):MkTo k k:=⟨⟨rfl,rfl,rfl,rfl,rfl,rfl⟩,rfl,rfl,rfl,rfl⟩
theorem MkTo.trans {a b c:MkM} (h:MkTo a b) (h':MkTo b c):MkTo a c:=
 ⟨⟨h'.b.trans h.b,h'.bb.trans h.bb,h'.tb.trans h.tb,h'.nb.trans h.nb,h'.n.trans h.n,h'.l.trans h.l⟩,h'.f.trans h.f,h'.cb.trans h.cb,h'.gb.trans h.gb,h'.o.trans h.o⟩
section
variable {w0 : World} {F : jb} {t : TiM}
theorem jij {s:Nat} {c:Int} (ok:TiOk t) (hc:(tiC t)[s]?=some c):Call Tryz.prog w0 376 [pt t.b, .int .i64 (s:Nat)] (jaL t++F)
  (fun r H'=>r= .tuple [.bool (decide (c=0)), .int .i64 0].toArray/\ ∃ t',TiOk t'/\t'.b=t.b/\t'.f=t.f/\tiC t'=(if c=0 then(tiC t).set s 1 else tiC t)/\H'=jaL t'++F):=by
 have ho:=ok.o
 have hf:=ok.f
 have hs:s<t.l.length:=by have:=jl hc;rwa[jaY] at this
 obtain⟨v,hv⟩:=jq hs
 by_cases h0:c=0
 ·rw[decide_eq_true h0,if_pos h0];refine en2 32 Tryz.func376 ?_;refine yr11 ?_;refine jj (jhs ok hc) ?_;simp only[jaJ];refine yr22 ?_;refine K.dr [] (od 0 [0,0,0,0,0,0,0,0,0,0,0,2]) Part.nil ?_;refine yr22 ?_
  have hle:(t.l.set s (2*(t.f:Int))).length=t.l.length:=List.length_set
  refine KE.fin (H':=jaL ⟨t.b,t.l.set s (2*(t.f:Int)),t.f,t.o⟩++F) jd rfl jc (by simp only[jaJ,hle];exact ja) ⟨rfl,⟨t.b,t.l.set s (2*(t.f:Int)),t.f,t.o⟩,⟨ho.set s _,by rw[hle];exact ok.n,hf,?_⟩,rfl,rfl,?_,rfl⟩
  ·intro u hu
   rcases List.mem_or_eq_of_mem_set hu with h|rfl
   ·exact ok.v u h
   ·dsimp only;omega
  ·unfold tiC;rw[List.map_set]
   congr 1
   unfold jbt;rw[if_pos rfl]
 ·rw[decide_eq_false h0,if_neg h0];refine en2 32 Tryz.func376 ?_;refine yr11 ?_;refine jj (jhs ok hc) ?_;simp only[jaJ];refine yr28 ?_;exact KE.fin jd rfl jc (by first|exact ja|(simp only[jaJ];exact ja)) ⟨rfl,t,ok,rfl,rfl,rfl,rfl⟩
end
section
variable {w0 : World} {F : jb} {k : MkM} {p : jQ} {m : MaP}
theorem jgg {s:Nat} (ok:MkOk k p) (hR:MkR k p m) (hs:s<p.g.slots):Call Tryz.prog w0 342 [pt k.b, .int .i64 (s:Nat)] (jr k p++(planH p++F))
  (fun r H'=>r= .tuple #[]/\ ∃ k',MkOk k' p/\MkTo k k'/\MkR k' p (Jt p.g k.g.ring.length m (s:Nat))/\H'=jr k' p++(planH p++F)):=by
 obtain⟨c,hc⟩:=jdD ok hs
 have okc:=ok.c
 have okg:=ok.g
 have hmc:m.C[s]?=some c:=by rw[<-hR.C];exact hc
 by_cases h0:c=0
 ·have hsm:Jt p.g k.g.ring.length m (s:Nat)={m with C:=m.C.set s 1,G:=JP p.g k.g.ring.length m.G s}:=by
   unfold Jt;rw[Int.toNat_natCast,hmc,h0,if_pos ⟨by omega,rfl⟩]
  subst h0;refine en2 22 Tryz.func342 ?_;simp only[js];refine yr8 ?_;refine je (jij okc hc) ja ?_;rintro _ _ ⟨rfl,c',kc,cb,cf,cc,rfl⟩;refine yr20 ?_;refine je (grPut_K okg hR.G hs) ja ?_;rintro _ _ ⟨rfl,g',kg,gb,gl,gR,rfl⟩;refine yr1 ?_;rw[<-cb,<-gb]
  have hcn:c'.l.length=p.g.slots:=by have:=congrArg List.length cc;rw [jaY,if_pos rfl,List.length_set,jaY,ok.n] at this;exact this
  exact KE.finN (H':=jr {k with c:=c',g:=g'} p++(planH p++F)) jd rfl jc Bu
   ⟨rfl,{k with c:=c',g:=g'},⟨kc,kg,hcn,ok.o,ok.hs⟩,⟨⟨rfl,rfl,rfl,rfl,rfl,gl⟩,cf,cb,gb,rfl⟩,by rw[hsm];exact⟨by show tiC c'=_;rw [cc,if_pos rfl,hR.C],gR,hR.hs,hR.root,hR.act,hR.steps⟩,by simp only[js]⟩
 ·have hsm:Jt p.g k.g.ring.length m (s:Nat)=m:=by
   unfold Jt;rw[Int.toNat_natCast,hmc,if_neg];rintro⟨_,h⟩;cases h;exact h0 rfl
  have hd:decide (c=0)=false:=decide_eq_false h0
  refine en2 22 Tryz.func342 ?_;simp only[js];refine yq7 fun T hT=>?_;refine(CallV.part (CallV.fn (jij okc hc)) ja).mono ?_;rw[hd];rintro _ _ ⟨rfl,c',kc,cb,cf,cc,rfl⟩;rw[if_neg h0] at cc;refine ze ?_;clear hT T;refine yr14 ?_;rw[<-cb]
  have hcn:c'.l.length=p.g.slots:=by have:=congrArg List.length cc;rw [jaY,jaY,ok.n] at this;exact this
  exact KE.finN (H':=jr {k with c:=c'} p++(planH p++F)) jd rfl jc Bu
   ⟨rfl,{k with c:=c'},⟨kc,ok.g,hcn,ok.o,ok.hs⟩,⟨⟨rfl,rfl,rfl,rfl,rfl,rfl⟩,cf,cb,rfl,rfl⟩,by rw[hsm];exact⟨by show tiC c'=_;rw [cc,hR.C],hR.G,hR.hs,hR.root,hR.act,hR.steps⟩,by simp only[js]⟩
end
section
variable {w0 : World} {D F : jb} {vc : Value} {C : List Int}
theorem jhu {s:Nat} {c:Int} (hC:Sli w0 D bE vc C) (hc:C[s]?=some c) (hl:C.length<=65536):
  Cs w0 277 [vc, .int .i64 (s:Nat)] (D++F) (.tuple [.int .u8 c, .int .i64 0].toArray):=by
 have hs:=jl hc
 have hge: ¬((s:Nat):Int)>=(C.length:Nat):=by omega
 refine en2 18 Tryz.func277 ?_;refine jbf ?_;exact zd
theorem jje {s:Nat} {c:Int} (hC:Sli w0 D bE vc C) (hs:s<C.length) (hl:C.length<=65536):
  Call Tryz.prog w0 278 [vc, .int .i64 (s:Nat), .int .u8 c] (D++F) (fun r H'=> ∃ (vc':Value) (N:jb),Sli w0 (N++D) bE vc' (C.set s c)/\vc'.oneCell'=true/\r=vc'/\H'=N++(D++F)):=by
 obtain⟨z,hz⟩:=jq hs
 refine en3 16 Tryz.func278 ?_
 (iterate 10 first|refine yS ?_|intro _)
 refine KL.e rfl (Eff.appLit (E:=bE) (ys:=C) rfl rfl rfl rfl rfl rfl rfl jK ba be rfl) ?_;rintro _ _ ⟨o',ok',rfl,rfl⟩;refine yr19 ?_;refine KE.fin (H':=oH bE 5 (C.set s c) o'++(D++F)) jd rfl jc ja ⟨oV o' C.length,_,Sli.own jt (ok'.set s c) bF,jJ _ _,rfl,rfl⟩
theorem jmo {s:Nat} {c:Int} (hC:Sli w0 D bE vc C) (hv:vc.oneCell'=true) (hc:C[s]?=some c) (hl:C.length<=65536):
  Call Tryz.prog w0 274 [vc, .int .i64 (s:Nat)] (D++F) (fun r H'=> ∃ (vc':Value) (N:jb),Sli w0 (N++D) bE vc' (if c=0 then C.set s 1 else C)/\vc'.oneCell'=true/\r= .tuple [vc', .bool (decide (c=0)), .int .i64 0].toArray/\H'=N++(D++F)):=by
 have hs:=jl hc
 by_cases h0:c=0
 ·rw[if_pos h0,decide_eq_true h0];refine en2 26 Tryz.func274 ?_;refine yr12 ?_;refine ji (jhu hC hc hl) ja ?_;refine yr26 ?_;refine je (jje hC hs hl) ja ?_;rintro _ _ ⟨vc',N,hC',hv',rfl,rfl⟩;refine yr6 ?_;exact KE.fin jd rfl jc ja ⟨_,N,hC',hv',rfl,rfl⟩
 ·rw[if_neg h0,decide_eq_false h0];refine en2 26 Tryz.func274 ?_;refine yr12 ?_;refine ji (jhu hC hc hl) ja ?_;refine yr30 ?_;exact KE.fin jd rfl jc ja ⟨vc,[],hC,hv,rfl,rfl⟩
theorem jiq {s:Nat} (hC:Sli w0 D bE vc C) (hs:s<C.length) (hl:C.length<=65536):
  Call Tryz.prog w0 185 [vc, .int .i64 (s:Nat)] (D++F) (fun r H'=> ∃ (vc':Value) (N:jb),Sli w0 (N++D) bE vc' (C.set s 2)/\vc'.oneCell'=true/\r= .tuple [vc', .int .i64 0].toArray/\H'=N++(D++F)):=by
 obtain⟨c,hc⟩:=jq hs
 refine en2 21 Tryz.func185 ?_;refine yr11 ?_;refine ji (jhu hC hc hl) ja ?_;refine yr22 ?_;refine je (jje hC hs hl) ja ?_;rintro _ _ ⟨vc',N,hC',hv',rfl,rfl⟩;refine yr5 ?_;exact KE.fin jd rfl jc ja ⟨_,N,hC',hv',rfl,rfl⟩
end
section
variable {w0 : World} {D F : jb} {vn : Value} {l : List Int}
theorem rUnpin_K {s:Nat} (hN:Sli w0 D iE vn l) (hv:vn.oneCell'=true) (hs:s<l.length) (hl:l.length<=65536) (hb: ∀ v∈l,0<=v/\v<=255):
  Call Tryz.prog w0 72 [vn, .int .i64 (s:Nat)] (D++F) (fun r H'=> ∃ (vn':Value) (N:jb) (e:Int),Sli w0 (N++D) iE vn' (JX l s)/\vn'.oneCell'=true/\r= .tuple [vn', .int .i64 e].toArray/\H'=N++(D++F)):=by
 obtain⟨z,hz⟩:=jq hs
 have hzb:=hb z (List.mem_of_getElem? hz)
 have hge: ¬((s:Nat):Int)>=(l.length:Nat):=by omega
 have hp:JX l s=if 0<z then l.set s (z-1) else l:=by unfold JX;rw [hz];rfl
 by_cases h:0<z
 ·rw[hp,if_pos h]
  have h': ¬z=0:=by omega
  refine en2 32 Tryz.func72 ?_
  (iterate 40 first|refine yS ?_|intro _)
  refine KL.e rfl (Eff.appLit (E:=iE) (ys:=l) rfl rfl rfl rfl rfl rfl rfl jK ba be rfl) ?_;rintro _ _ ⟨o',ok',rfl,rfl⟩;refine yr22 ?_;refine KE.fin (H':=oH iE 3 (l.set s (z-1)) o'++(D++F)) jd rfl jc ja ⟨oV o' l.length,_,0,Sli.own jt (ok'.set s _) bF,jJ _ _,rfl,rfl⟩
 ·rw[hp,if_neg h]
  have h':z=0:=by omega
  refine en2 32 Tryz.func72 ?_;refine yr42 ?_;exact KE.fin jd rfl jc ja ⟨vn,[],140,hN,hv,rfl,rfl⟩
end
section
variable {w0 : World} {F : jb} {t : TbM}
theorem tbSlot_K {i:Nat} (ok:TbOk t):Call Tryz.prog w0 341 [pt t.b, .int .i64 (i:Nat)] (jF t++F)
  (fun r H'=>r= .tuple [.int .i64 ((Ji t.l (i:Nat)).getD 0), .bool (Ji t.l (i:Nat)).isSome].toArray/\H'=jF t++F):=by
 have ho:=ok.o
 have hn:=ok.n
 unfold Ji;rw[if_pos bc,Int.toNat_natCast]
 by_cases hlt:i<t.l.length
 ·obtain⟨e,he⟩:=jq hlt
  have hge: ¬((i:Nat):Int)>=(t.l.length:Nat):=by omega
  rw[he];dsimp only
  obtain⟨st,sl,ge⟩:=e
  dsimp only
  by_cases h1:st=1
  ·subst h1;simp only[if_true,Option.getD,Option.isSome];refine en2 40 Tryz.func341 ?_;refine yr11 ?_;refine zL ?_;simp only[Jm];refine yr44 ?_;exact zt
  ·simp only[if_neg h1,Option.getD,Option.isSome];refine en2 40 Tryz.func341 ?_;refine yr11 ?_;refine zL ?_;simp only[Jm];refine yr35 ?_;exact zt
 ·have hge:((i:Nat):Int)>=(t.l.length:Nat):=by omega
  rw[List.getElem?_eq_none bc];simp only[Option.getD,Option.isSome];refine en2 40 Tryz.func341 ?_;refine yr11 ?_;refine zL ?_;simp only[Jm];refine yr35 ?_;exact zt
theorem jik {i:Nat} {e:jk} (ok:TbOk t) (he:t.l[i]?=some e) (h1:e.st=1):Call Tryz.prog w0 219 [pt t.b, .int .i64 (i:Nat), .int .u32 e.gen] (jF t++F)
  (fun r H'=>r= .pointer (some (adr (oV t.o t.l.length) (i*enE.sz)))/\H'=jF t++F):=by
 have ho:=ok.o
 have hlt:=jl he
 have hge: ¬((i:Nat):Int)>=(t.l.length:Nat):=by omega
 have hst: ¬e.st≠1:=fun h=>h h1
 have hgn: ¬e.gen≠e.gen:=fun h=>h rfl
 refine en3 47 Tryz.func219 ?_;simp only[Jm];refine yr59 ?_;exact zt
theorem ji4 {i:Nat} {e:jk} (ok:TbOk t) (he:t.l[i]?=some e) (h1:e.st=1):Call Tryz.prog w0 123 [pt t.b, .int .i64 (i:Nat), .int .u32 e.gen] (jF t++F)
  (fun r H'=>r= .tuple [.int .i64 e.slot, .int .i64 0].toArray/\H'=jF t++F):=by
 have ho:=ok.o
 have hlt:=jl he
 refine en3 21 Tryz.func123 ?_;refine yr11 ?_;refine zL ?_;refine yr11 ?_;refine ji (jik ok he h1) ja ?_;simp only[Jm];refine yr24 ?_;exact zt
theorem tbDrop_K {i:Nat} {e:jk} (ok:TbOk t) (he:t.l[i]?=some e) (h1:e.st=1):Call Tryz.prog w0 212 [pt t.b, .int .i64 (i:Nat), .int .u32 e.gen] (jF t++F)
  (fun r H'=>r= .tuple [.int .i64 e.slot, .int .i64 0].toArray/\H'=jF ⟨t.b,t.l.set i ⟨2,e.slot,e.gen⟩,t.gens,t.o⟩++F):=by
 refine en3 27 Tryz.func212 ?_;refine yr12 ?_;refine ji (ji4 ok he h1) ja ?_;refine yr21 ?_;refine ji (jik ok he h1) ja ?_;refine yr1 ?_;refine ji (jlq ok he h1) ja ?_;refine yr11 ?_;exact zt
theorem tbMint_K {s:Nat} (ok:TbOk t) (hs:s<=1000000):Call Tryz.prog w0 295 [pt t.b, .int .i64 (s:Nat)] (jF t++F)
  (fun r H'=> ∃ t':TbM,TbOk t'/\t'.b=t.b/\t'.gens=t.gens/\t'.l=jS t.l (s:Nat)/\r= .tuple [.int .i64 (JT t.l).1, .int .u32 (JT t.l).2.1, .int .i64 (JT t.l).2.2].toArray/\H'=jF t'++F):=by
 have ho:=ok.o
 have hn:=ok.n
 refine en2 31 Tryz.func295 ?_;refine yr3 ?_;intro b2;refine yr1 ?_;intro b3;refine yr1 ?_;intro b4;refine yr1 ?_;intro b5;refine yr1 ?_;intro b6;refine yr8 ?_;refine zL ?_;refine yr20 ?_;refine Jx (tbin_K (b:=t.b) (st:=0)) ?_;rintro _ _ ⟨c1,c2,rfl,rfl⟩;refine yr3 ?_;refine K.rangeFunc (lb:=[pt c1,pt c2]) rfl
  (fun D G=>G=(D, .deferred (some []))::(b6,cells [.int .i64 0] 76)::(b5,cells [.int .u32 0] 166)::(b4,cells [.int .i64 0] 3)::(b3,cells [.int .i64 (s:Nat)] 3)::(b2,cells [pt t.b] 148)::(jF t++F)/\JN t.l=none)
  (fun D c G=>c= .ret/\ ∃ (i:Nat) (e:jk),t.l[i]?=some e/\JN t.l=some i/\G=(D, .deferred (some []))::(b6,cells [.int .i64 0] 76)::(b5,cells [.int .u32 e.gen] 166)::(b4,cells [.int .i64 (i:Nat)] 3)::(b3,cells [.int .i64 (s:Nat)] 3)::(b2,cells [pt t.b] 148)::(jF ⟨t.b,t.l.set i ⟨1,(s:Nat),e.gen⟩,t.gens,t.o⟩++F)) ?_ ?_ ?_
 ·intro l D rc hyl
  refine(Call.part (tbin1_K (F:=F) (st:=0) (q1:=c1) (q2:=c2) ok
   (fun H'=> ∃ (i:Nat) (e:jk),t.l[i]?=some e/\JN t.l=some i/\H'=(l, .loop (rc .done (some .ret)))::((D, .deferred (some []))::(b6,cells [.int .i64 0] 76)::(b5,cells [.int .u32 e.gen] 166)::(b4,cells [.int .i64 (i:Nat)] 3)::(b3,cells [.int .i64 (s:Nat)] 3)::(b2,cells [pt t.b] 148)::(c1,cells [pt t.b] 148)::(c2,cells [.int .i64 0] 3)::(jF ⟨t.b,t.l.set i ⟨1,(s:Nat),e.gen⟩,t.gens,t.o⟩++F)))
   (A0:=(l, .loop (rc .ready none))::(D, .deferred (some []))::(b6,cells [.int .i64 0] 76)::(b5,cells [.int .u32 0] 166)::(b4,cells [.int .i64 0] 3)::(b3,cells [.int .i64 (s:Nat)] 3)::(b2,cells [pt t.b] 148)::[]) ?_) bM).mono ?_
  ·intro i e he h0 hno
   have hF:=jjR he h0 hno
   have hb:=ok.e e (List.mem_of_getElem? he)
   have hlt:=jl he
   have ok1:TbOk ⟨t.b,t.l.set i ⟨1,e.slot,e.gen⟩,t.gens,t.o⟩:=jdK ok Bi
   have ho1:=ok1.o
   dsimp only at ho1
   have he1:(t.l.set i (⟨1,e.slot,e.gen⟩:jk))[i]?=some ⟨1,e.slot,e.gen⟩:=List.getElem?_set_self hlt
   have hll:(t.l.set i (⟨1,e.slot,e.gen⟩:jk)).length=t.l.length:=List.length_set
   have hcs: ∀ q:Int,cntP q (t.l.set i ⟨1,(s:Nat),e.gen⟩)=cntP q (t.l.set i (⟨1,e.slot,e.gen⟩:jk)):=fun q=>by
    have:=jaH he1 ⟨1,(s:Nat),e.gen⟩ q
    rw[List.set_set] at this;dsimp only at this
    omega
   simp only[List.cons_append,List.nil_append];refine zbp ?_;refine zg ?_;refine yr2 ?_;refine zg ?_;refine yr2 ?_;refine KE.begin jK ?_;refine yr6 ?_;refine ji (jlr ok he h0) ja ?_;simp only[Jm];refine yr2 ?_;refine zg ?_;refine yr4 ?_;refine KL.eN (Eff.stSl (j:=1) (x1:=(⟨1,(s:Nat),e.gen⟩:jk)) rfl rfl rfl rfl jt ho1 he1 rfl rfl) ?_;rintro _ _ rfl;refine yr1 ?_
   have he2:(t.l.set i (⟨1,(s:Nat),e.gen⟩:jk))[i]?=some ⟨1,(s:Nat),e.gen⟩:=List.getElem?_set_self hlt
   have ho2:oOk enE (t.l.set i ⟨1,(s:Nat),e.gen⟩) t.o:=ho.set _ _
   rw[List.set_set];refine yr2 ?_;refine K.dr _ (od 0 [0,1,1,1,1,2,2,2]) (Part.takeA jE.head (Part.take jx.head (Part.take jx.head (Part.take jx.head (Part.drop (Part.drop (Part.drop Part.all))))))) ?_;refine yr15 ?_;refine KE.part ((l, .loop (rc .busy none))::((D, .deferred (some []))::(b6,cells [.int .i64 0] 76)::(b5,cells [.int .u32 e.gen] 166)::(b4,cells [.int .i64 (i:Nat)] 3)::(b3,cells [.int .i64 (s:Nat)] 3)::(b2,cells [pt t.b] 148)::(c1,cells [pt t.b] 148)::(c2,cells [.int .i64 0] 3)::(jF ⟨t.b,t.l.set i ⟨1,(s:Nat),e.gen⟩,t.gens,t.o⟩++F))) (by simp only[Jm,hcs,List.length_set];exact ja) ?_;exact KE.roundR jx.head ⟨rfl,i,e,he,hF,rfl⟩
  ·rintro _ _ (⟨hno,rfl⟩|⟨i,e,he,hF,rfl⟩)
   ·refine .inl ⟨_,?_,rfl,jjQ hno⟩;exact zaw
   ·exact .inr ⟨.ret,_,ja,rfl,i,e,he,hF,rfl⟩
 ·rintro D G ⟨rfl,hF⟩
  have h1:JT t.l=(0,0,131):=by unfold JT;rw [hF]
  have h2:jS t.l (s:Nat)=t.l:=by unfold jS;rw [hF]
  refine yr10 ?_;exact KE.fin (H':=jF t++F) jd rfl jc ja ⟨t,ok,rfl,rfl,h2.symm,by rw[h1];rfl,rfl⟩
 ·rintro D c G ⟨rfl,i,e,he,hF,rfl⟩
  have h1:JT t.l=(((i:Nat):Int),e.gen,0):=by unfold JT;rw [hF];dsimp only;rw [jcp he]
  have h2:jS t.l (s:Nat)=t.l.set i ⟨1,(s:Nat),e.gen⟩:=by unfold jS;rw [hF];dsimp only;rw [jcp he]
  have hb:=ok.e e (List.mem_of_getElem? he)
  refine yr3 ?_;exact KE.fin (H':=jF ⟨t.b,t.l.set i ⟨1,(s:Nat),e.gen⟩,t.gens,t.o⟩++F) jd rfl jc ja ⟨⟨t.b,t.l.set i ⟨1,(s:Nat),e.gen⟩,t.gens,t.o⟩,jdK ok Bi,rfl,rfl,h2.symm,by rw[h1];rfl,rfl⟩
