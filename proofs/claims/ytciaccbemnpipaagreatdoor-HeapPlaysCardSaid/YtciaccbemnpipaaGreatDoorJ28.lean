/-The walker and contracts, part 28.-/
import Derived.Test.YtciaccbemnpipaaGreatDoorJ24
import Derived.Test.YtciaccbemnpipaaGreatDoorJ26
import Derived.Test.YtciaccbemnpipaaGreatDoorJ27
set_option linter.all false
namespace Go.Proofs.YtciaccbemnpipaaGreatDoor.Sw
set_option maxHeartbeats 8000000
open Go.Proofs.YtciaccbemnpipaaGreatDoor renaming lo -> qL, hi -> qH
open Go.RowKit
set_option maxRecDepth 10000
theorem jlH {A:List Bool} {f m:Nat}:jaR A f m=match nextB A f false with
  |some i=>if i<f+m then some i else none
  |none=>none:=by
 cases h:nextB A f false with
 |none=>
  refine jhi fun j h1 h2 h3=>?_
  unfold nextB at h;rw[List.find?_eq_none] at h
  have hj:=jl h3
  have:=h j (List.mem_range.2 hj)
  rw[h3] at this
  simp[h1] at this
 |some i=>
  obtain⟨h1,h2,h3,h4⟩:=jck h
  have hi:A[i]?=some false:=by
   rw[List.getElem?_eq_getElem h1] at h3|-
   simp at h3;rw [h3]
  have hno: ∀ j,f<=j->j<i->A[j]?≠some false:=fun j q1 q2 q3=>h4 j q1 q2 (by rw[q3];rfl)
  dsimp only
  split
  ·exact free_is h2 bh hi hno
  ·exact jhi fun j q1 q2=>hno j q1 bc
theorem Take_K {w0:World} {F:jb} {a:ArM} {p:jQ} {k:Int} (hG:ju w0) (ok:jag a p):
  Call Tryz.prog w0 196 [pt a.b, .int .i64 k] (jW a p++(planH p++F)) (fun r H'=>r= .tuple [.int .i64 (jX p.g a.r.bs k).1, .int .i64 (jX p.g a.r.bs k).2.1].toArray/\ ∃ a':ArM,jag a' p/\a'.b=a.b/\a'.r.b=a.r.b/\a'.r.bs=(jX p.g a.r.bs k).2.2/\H'=jW a' p++(planH p++F)):=by
 have okr:=ok.r
 have okp:=ok.pl
 by_cases hk:0<=k/\k<(p.g.m:Nat)
 ·obtain⟨k,rfl⟩: ∃ q:Nat,k=q:=⟨k.toNat,by omega⟩
  have hkm:k<p.g.m:=by omega
  have hfi:=okp.g.first (Nat.le_of_lt hkm)
  have hni:=okp.g.n hkm
  have htk:jX p.g a.r.bs (k:Nat)=match jaR a.r.bs (p.g.first k) (p.g.n k) with|some i=>((i:Nat),0,a.r.bs.set i true)|none=>(0,6,a.r.bs):=by
   unfold jX;rw [if_pos hk];rfl
  have hsum:((p.g.first k:Nat):Int)+((p.g.n k:Nat):Int)=((p.g.first k+p.g.n k:Nat):Int):=by omega
  refine en2 49 Tryz.func196 ?_;refine yr3 ?_;intro b2;refine yr9 ?_;refine ji (jdC (a:=a) (p:=p)) ja ?_;rw[arenaH_app];refine yr13 ?_;refine ji (Of0_K okp hkm) ja ?_;refine yq26 fun T hT=>?_;refine(CallV.part (CallV.fn (jfF (k:=p.g.first k) (v:=false) okr hG bc)) ja).mono ?_;rintro _ _ ⟨rfl,rfl⟩;rw[jlH] at htk
  cases hnx:nextB a.r.bs (p.g.first k) false with
  |none=>
   rw[hnx] at htk;dsimp only at htk;unfold nxI;dsimp only[Option.isSome,Option.getD];refine ze ?_;clear hT T;rw[htk];refine yr30 ?_;exact zbx
  |some i=>
   rw[hnx] at htk;dsimp only at htk;unfold nxI;dsimp only[Option.isSome,Option.getD]
   obtain⟨n1,n2,n3,n4⟩:=jck hnx
   by_cases hin:i<p.g.first k+p.g.n k
   ·rw[if_pos hin] at htk;dsimp only at htk
    have hnge: ¬((i:Nat):Int)>=((p.g.first k:Nat):Int)+((p.g.n k:Nat):Int):=by omega
    obtain⟨x,hx⟩:=Je (g:=p.g) (i:=i) (by rw[<-ok.n];exact n1)
    have hus:=jeS (v:=true) hx n1
    have hi:a.r.bs[i]?=some false:=by
     rw[List.getElem?_eq_getElem n1] at n3|-
     simp at n3;rw [n3]
    rw[hi] at hus;simp only[Option.some.injEq,Bool.false_eq_true,if_false,if_true] at hus
    have hub:=jeT ok (a.r.bs.set i true)
    have hua:=jeT ok a.r.bs
    refine ze ?_;clear hT T;rw[htk];refine yq29 fun T hT=>?_;refine(CallV.part (CallV.fn (turn_K (F:=(b2,cells [pt a.b] 105)::F) (v:=true) (g:=291) (cap:=[pt b2]) ok hx rfl ?_)) bT).mono ?_
    ·intro H' hp;refine CallV.clo (cap:=[pt b2]) ?_
     have s1:j7 w0 H' ⟨b2,0,none⟩ (pt a.b):=(j7.cell (H:=(a.b,cells [pt p.b,pt a.r.b, .int .i64 (usedL p.g.L a.r.bs:Nat)] 156)::(b2,cells [pt a.b] 105)::F) jK rfl).more hp
     have s2:j7 w0 H' ⟨a.b,2,none⟩ (.int .i64 (usedL p.g.L a.r.bs:Nat)):=(j7.cell (H:=(a.b,cells [pt p.b,pt a.r.b, .int .i64 (usedL p.g.L a.r.bs:Nat)] 156)::(b2,cells [pt a.b] 105)::F) jK rfl).more hp
     have hue:((usedL p.g.L (a.r.bs.set i true):Nat):Int)=((usedL p.g.L a.r.bs:Nat):Int)+((x.size:Nat):Int):=by omega
     rw[hue];refine en2 10 Tryz.func291 ?_;refine yr17 ?_;exact zd
    ·rintro _ _ ⟨rfl,rfl⟩;refine ze ?_;clear hT T;refine yr10 ?_;exact KE.fin jd rfl jc ja ⟨rfl,setA a i true,jkw ok i true,rfl,rfl,rfl,rfl⟩
   ·rw[if_neg hin] at htk;dsimp only at htk
    have hge:((i:Nat):Int)>=((p.g.first k:Nat):Int)+((p.g.n k:Nat):Int):=by omega
    refine ze ?_;clear hT T;rw[htk];refine yr30 ?_;exact zbx
 ·have htk:jX p.g a.r.bs k=(0,2,a.r.bs):=by unfold jX;rw [if_neg hk]
  rw[htk];refine en2 49 Tryz.func196 ?_;refine yr3 ?_;intro b2;refine yr9 ?_;refine ji (jdC (a:=a) (p:=p)) ja ?_;rw[arenaH_app];refine yr13 ?_;refine ji (Of0_E okp hk) ja ?_;refine yr26 ?_;exact zbx
theorem agive_K {w0:World} {F:jb} {a:ArM} {p:jQ} {i:Nat} (ok:jag a p) (hi:a.r.bs[i]?=some true):
  Call Tryz.prog w0 404 [pt a.b, .int .i64 (i:Nat)] (jW a p++(planH p++F)) (fun r H'=>r= .tuple #[]/\H'=jW (setA a i false) p++(planH p++F)):=by
 have n1:=jl hi
 obtain⟨x,hx⟩:=Je (g:=p.g) (i:=i) (by rw[<-ok.n];exact n1)
 have hus:=jeS (v:=false) hx n1
 rw[hi] at hus;simp only[Bool.false_eq_true,if_false,if_true] at hus
 have hua:=jeT ok a.r.bs
 refine en2 8 Tryz.func404 ?_;refine yr3 ?_;intro b2;refine yq6 fun T hT=>?_;refine(CallV.part (CallV.fn (turn_K (F:=(b2,cells [pt a.b] 105)::F) (v:=false) (g:=406) (cap:=[pt b2]) ok hx rfl ?_)) ja).mono ?_
 ·intro H' hp;refine CallV.clo (cap:=[pt b2]) ?_
  have s1:j7 w0 H' ⟨b2,0,none⟩ (pt a.b):=(j7.cell (H:=(a.b,cells [pt p.b,pt a.r.b, .int .i64 (usedL p.g.L a.r.bs:Nat)] 156)::(b2,cells [pt a.b] 105)::F) jK rfl).more hp
  have s2:j7 w0 H' ⟨a.b,2,none⟩ (.int .i64 (usedL p.g.L a.r.bs:Nat)):=(j7.cell (H:=(a.b,cells [pt p.b,pt a.r.b, .int .i64 (usedL p.g.L a.r.bs:Nat)] 156)::(b2,cells [pt a.b] 105)::F) jK rfl).more hp
  have hue:((usedL p.g.L (a.r.bs.set i false):Nat):Int)=((usedL p.g.L a.r.bs:Nat):Int)-((x.size:Nat):Int):=by omega
  rw[hue];refine en2 10 Tryz.func406 ?_;refine yr17 ?_;exact zd
 ·rintro _ _ ⟨rfl,rfl⟩;refine ze ?_;clear hT T;refine yr1 ?_;exact zaX
def arK (a:ArM) (D:List Bool) (k:Nat):ArM:=⟨a.b,⟨a.r.b,jbd a.r.bs D k,a.r.o⟩⟩
theorem jj3 (a:ArM) (D:List Bool):arK a D 0=a:=by unfold arK;rw [jh2]
theorem arK_next {a:ArM} {D:List Bool} {k i:Nat} (hl:D.length=a.r.bs.length) (h:nextB D k true=some i):setA (arK a D k) i false=arK a D (i+1):=by
 unfold setA arK JD;dsimp only;rw[jlK hl h]
def GaJ (l D:Nat) (rc:Rec) (b2 b4:Nat) (a:ArM) (p:jQ) (bs:List Bool) (k:Nat) (A:jb):Prop:=
 A=(l, .loop (rc .ready none))::(D, .deferred (some []))::(b2,cells [pt a.b] 105)::(b4,cells [.int .i64 0] 76)::jW a p/\ ∀ j:Nat,j<k->bs[j]?=some true->a.r.bs[j]?=some true
def GaE (l D:Nat) (rc:Rec) (b2 b4:Nat) (a:ArM) (p:jQ) (bs:List Bool) (A:jb):Prop:=
 A=(l, .loop (rc .done (some .ret)))::(D, .deferred (some []))::(b2,cells [pt a.b] 105)::(b4,cells [.int .i64 9] 76)::jW a p/\ ∃ i:Nat,a.r.bs[i]?=some false/\bs[i]?=some true
def GbJ (l D:Nat) (rc:Rec) (b2 b4:Nat) (a:ArM) (p:jQ) (bs:List Bool) (k:Nat) (A:jb):Prop:=
 A=(l, .loop (rc .ready none))::(D, .deferred (some []))::(b2,cells [pt a.b] 105)::(b4,cells [.int .i64 0] 76)::jW (arK a bs k) p/\jag (arK a bs k) p
theorem bit_of {l:List Bool} {i:Nat} (h:i<l.length) {v:Bool} (e:(l[i]?).getD false=v):l[i]?=some v:=by
 rw[List.getElem?_eq_getElem h] at e|-;simp at e;rw [e]
theorem GiveAll_K {w0:World} {F:jb} {a:ArM} {p:jQ} {r:jam} (hG:ju w0) (ok:jag a p) (okr:RowOk r) (hl:r.bs.length=a.r.bs.length):
  Call Tryz.prog w0 397 [pt a.b,pt r.b] (jD r++(jW a p++(planH p++F))) (fun v H'=>v= .int .i64 (jah a.r.bs r.bs).1/\ ∃ a':ArM,jag a' p/\a'.b=a.b/\a'.r.b=a.r.b/\a'.r.bs=(jah a.r.bs r.bs).2/\H'=jD r++(jW a' p++(planH p++F))):=by
 have okar:=ok.r
 have hgp:jah a.r.bs r.bs=if jbC a.r.bs r.bs then(0,ja1 a.r.bs r.bs) else(9,a.r.bs):=by unfold jah;rw [if_pos hl]
 have hne: ¬((r.bs.length:Nat):Int)≠((a.r.bs.length:Nat):Int):=by omega
 refine en2 40 Tryz.func397 ?_;refine yr3 ?_;intro b2;refine yr1 ?_;intro b4;refine yr8 ?_;refine ji (jdC (a:=a) (p:=p)) ja ?_;refine yr5 ?_;refine K.dr _ [(0,0),(1,2),(2,0),(3,0),(4,0),(6,1),(7,1),(8,1),(9,1),(5,2),(10,2),(11,0),(12,0),(13,0)] Part.all ?_;refine yr2 ?_;refine je (jg5 okr) ja ?_;rintro _ _ ⟨r',kr',hbs,rfl,rfl⟩;refine yr8 ?_;refine zo fun T hT=>?_;refine(CallV.part (CallV.fn (jfx (r:=r))) ja).mono ?_;rintro _ _ ⟨rfl,rfl⟩;refine zf ?_;clear hT T;simp only[arenaH_app];refine zo fun T hT=>?_;refine(CallV.part (CallV.fn (jfx (r:=a.r))) ja).mono ?_;rintro _ _ ⟨rfl,rfl⟩;refine zf ?_;clear hT T;refine yr14 ?_;refine je (aeach_K (b:=r.b) (H:=(b2,cells [pt a.b] 105)::(b4,cells [.int .i64 0] 76)::(jW a p++(jD r++(planH p++F))))) (by simp only[arenaH_app];exact ja) ?_;rintro _ _ ⟨bl,rfl,rfl⟩;refine yr3 ?_;refine K.rangeFunc (lb:=[pt bl]) rfl
  (fun D G=>G=(bl,cells [pt r.b] 154)::(D, .deferred (some []))::(b2,cells [pt a.b] 105)::(b4,cells [.int .i64 0] 76)::(jW a p++(jD r++(planH p++F)))/\ ∀ j:Nat,r.bs[j]?=some true->a.r.bs[j]?=some true)
  (fun D c G=>c= .ret/\G=(bl,cells [pt r.b] 154)::(D, .deferred (some []))::(b2,cells [pt a.b] 105)::(b4,cells [.int .i64 9] 76)::(jW a p++(jD r++(planH p++F)))/\ ∃ i:Nat,a.r.bs[i]?=some false/\r.bs[i]?=some true) ?_ ?_ ?_
 ·intro l D rc hyl
  refine(Call.part (each1_K (F:=planH p++F) (r:=r) (bl:=bl) hG okr (GaJ l D rc b2 b4 a p r.bs) (GaE l D rc b2 b4 a p r.bs)
   (A0:=(l, .loop (rc .ready none))::(D, .deferred (some []))::(b2,cells [pt a.b] 105)::(b4,cells [.int .i64 0] 76)::jW a p) ?_ ⟨rfl,fun j h=>by omega⟩) (by simp only[List.cons_append];exact ja)).mono ?_
  ·rintro k i A ⟨rfl,hno⟩ hnx
   obtain⟨n1,n2,n3,n4⟩:=jck hnx
   have hdi:=bit_of n1 n3
   have hno': ∀ j:Nat,j<i->r.bs[j]?=some true->a.r.bs[j]?=some true:=fun j h1 h2=>by
    by_cases hj:j<k
    ·exact hno j hj h2
    ·exact absurd (by rw[h2];rfl) (n4 j bc h1)
   have hgb:getB a.r.bs (i:Nat)=(a.r.bs[i]?).getD false:=jfp
   obtain⟨v,hv⟩:=jq (l:=a.r.bs) (k:=i) bc
   rw[hv] at hgb;dsimp only[Option.getD] at hgb;simp only[List.cons_append];refine za0 ?_;refine zg ?_;refine yr2 ?_;refine KE.begin jK ?_;refine yr1 ?_;simp only[arenaH_app];refine yq7 fun T hT=>?_;refine(CallV.part (CallV.fn (Get_K (i:=(i:Nat)) okar)) ja).mono ?_;rintro _ _ ⟨rfl,rfl⟩;rw[hgb]
   cases v with
   |true=>
    refine ze ?_;clear hT T;refine yr6 ?_;refine KE.part ((l, .loop (rc .busy none))::((D, .deferred (some []))::(b2,cells [pt a.b] 105)::(b4,cells [.int .i64 0] 76)::jW a p)++((bl,cells [pt r.b] 154)::(jD r++(planH p++F)))) (by simp only[List.cons_append,arenaH_app];exact ja) ?_
    exact KE.roundN jx.head (.inl ⟨rfl,_,⟨rfl,fun j h1 h2=>by
     by_cases hji:j=i
     ·rw[hji];exact hv
     ·exact hno' j bc h2⟩,rfl⟩)
   |false=>
    refine ze ?_;clear hT T;refine yr11 ?_;refine KE.part ((l, .loop (rc .busy none))::((D, .deferred (some []))::(b2,cells [pt a.b] 105)::(b4,cells [.int .i64 9] 76)::jW a p)++((bl,cells [pt r.b] 154)::(jD r++(planH p++F)))) (by simp only[List.cons_append,arenaH_app];exact ja) ?_;exact KE.roundR jx.head (.inr ⟨rfl,_,⟨rfl,i,hv,hdi⟩,rfl⟩)
  ·rintro u H' ⟨A',rfl,(⟨k,hk,rfl,hno⟩|⟨rfl,i,hi1,hi2⟩)⟩
   ·refine .inl ⟨_,?_,rfl,fun j hj=>?_⟩
    ·simp only[List.cons_append];exact ja
    ·by_cases hjk:j<k
     ·exact hno j hjk hj
     ·unfold nextB at hk;rw[List.find?_eq_none] at hk
      have:=hk j (List.mem_range.2 (jl hj))
      rw[hj] at this
      simp at this;omega
   ·refine .inr ⟨.ret,_,?_,rfl,rfl,i,hi1,hi2⟩;simp only[List.cons_append];exact ja
 ·rintro D G ⟨rfl,hall⟩
  have hoa:jbC a.r.bs r.bs=true:=jfA hall
  rw[hoa] at hgp;simp only[if_true] at hgp;rw[hgp];refine yr7 ?_;refine je (aeach_K (b:=r.b) (H:=(D, .deferred (some []))::(b2,cells [pt a.b] 105)::(b4,cells [.int .i64 0] 76)::(jW a p++(jD r++(planH p++F))))) ja ?_;rintro _ _ ⟨bm,rfl,rfl⟩;refine yr3 ?_;refine K.rangeFunc (lb:=[pt bm]) rfl
   (fun D2 G=> ∃ k,nextB r.bs k true=none/\jag (arK a r.bs k) p/\G=(bm,cells [pt r.b] 154)::(D2, .deferred (some []))::(b2,cells [pt a.b] 105)::(b4,cells [.int .i64 0] 76)::(jW (arK a r.bs k) p++(jD r++(planH p++((D, .deferred (some []))::F)))))
   (fun D c G=>False) ?_ ?_ ?_
  ·intro l D2 rc hyl
   refine(Call.part (each1_K (F:=planH p++((D, .deferred (some []))::F)) (r:=r) (bl:=bm) hG okr (GbJ l D2 rc b2 b4 a p r.bs) (fun _=>False)
    (A0:=(l, .loop (rc .ready none))::(D2, .deferred (some []))::(b2,cells [pt a.b] 105)::(b4,cells [.int .i64 0] 76)::jW (arK a r.bs 0) p) ?_ ⟨rfl,by rw[jj3];exact ok⟩) (by rw[jj3];simp only[List.cons_append];exact ja)).mono ?_
   ·rintro k i A ⟨rfl,hok⟩ hnx
    obtain⟨n1,n2,n3,n4⟩:=jck hnx
    have hdi:=bit_of n1 n3
    have hai:=hall i hdi
    have hki:(arK a r.bs k).r.bs[i]?=some true:=by
     show(jbd a.r.bs r.bs k)[i]?=_
     rw[jcf (jl hai),hai];simp;omega
    have hnk:=arK_next hl hnx
    have hok':=jkw hok i false
    rw[hnk] at hok';simp only[List.cons_append];refine za0 ?_;refine zg ?_;refine yr2 ?_;refine KE.begin jK ?_;refine yq4 fun T hT=>?_;refine(CallV.part (CallV.fn (agive_K hok hki)) ja).mono ?_;rintro _ _ ⟨rfl,rfl⟩;rw[hnk];refine ze ?_;clear hT T;refine yr2 ?_;refine KE.part ((l, .loop (rc .busy none))::((D2, .deferred (some []))::(b2,cells [pt a.b] 105)::(b4,cells [.int .i64 0] 76)::jW (arK a r.bs (i+1)) p)++((bm,cells [pt r.b] 154)::(jD r++(planH p++((D, .deferred (some []))::F))))) (by simp only[List.cons_append];exact ja) ?_;exact KE.roundN jx.head (.inl ⟨rfl,_,⟨rfl,hok'⟩,rfl⟩)
   ·rintro u H' ⟨A',rfl,(⟨k,hk,rfl,hok⟩|hf)⟩
    ·refine .inl ⟨_,?_,k,hk,hok,rfl⟩;simp only[List.cons_append];exact ja
    ·exact hf.elim
  ·rintro D2 G ⟨k,hk,hok,rfl⟩
   have hlk:(arK a r.bs k).r.bs=ja1 a.r.bs r.bs:=jlM hl hk
   refine yr8 ?_;exact KE.fin jd rfl jc ja ⟨rfl,arK a r.bs k,hok,rfl,rfl,hlk,rfl⟩
  ·rintro D2 c G hf;exact hf.elim
 ·rintro D c G ⟨rfl,rfl,i,hi1,hi2⟩
  have hoa:jbC a.r.bs r.bs=false:=jhz hi1 hi2
  rw[hoa] at hgp;simp only[Bool.false_eq_true,if_false] at hgp;rw[hgp];refine yr3 ?_;exact KE.fin jd rfl jc ja ⟨rfl,a,ok,rfl,rfl,rfl,rfl⟩
structure FnP where
 f:FuncId
 first:List Value
 cap:List Value
def fnE:Enc FnP:=⟨fun x=> [.func (.func x.f) x.first.toArray x.cap.toArray],1,fun _=>rfl,by intro x v hv;simp at hv;subst hv;rfl⟩
theorem all_next (q:Nat->Bool) (k:Nat):(List.range (k+1)).all q=((List.range k).all q&&q k):=by simp[List.range_succ,List.all_append]
theorem all_not {q:Nat->Bool} {k n:Nat} (hk:k<n) (h:q k=false):(List.range n).all q=false:=by
 cases hc:(List.range n).all q with
 |false=>rfl
 |true=>rw [List.all_eq_true] at hc;rw [hc k (List.mem_range.2 hk)] at h;cases h
structure HoS where
 k:Nat
theorem hold_K {w0:World} {H:jb} {v:Value} {l:List FnP} {z:Int} (q:Nat->Bool) (hS:Sli w0 H fnE v l) (hl:l.length<=1000)
  (hy: ∀ i x,l[i]?=some x->CallV Tryz.prog w0 (.func (.func x.f) x.first.toArray x.cap.toArray) [.int .i64 z] H (fun r H'=>r= .bool (q i)/\H'=H)):
  Cs w0 176 [.int .i64 z,v] H (.bool ((List.range l.length).all q)):=by
 refine en2 18 Tryz.func176 ?_;refine yr14 ?_;refine K.loopT (σ:=HoS) [(0,_),(7,_),(8,_)] (fun s kp_=>(9, .int .i64 (s.k:Nat))::kp_) (fun s=>H) (fun s=>s.k<=l.length/\(List.range s.k).all q=true) (fun s=>l.length-s.k) (⟨0⟩) jg ja (⟨Nat.zero_le _,rfl⟩) ?_;rintro⟨k⟩ ⟨hk,hq⟩;dsimp only at hk hq|-
 by_cases hlt:k<l.length
 ·obtain⟨x,hx⟩:=jq hlt
  have hyk:=hy k x hx
  refine yq22 fun T hT=>?_;refine hyk.mono ?_;rintro _ _ ⟨rfl,rfl⟩
  cases hqk:q k with
  |true=>
   have hq':(List.range (k+1)).all q=true:=by rw[all_next,hq,hqk];rfl
   refine ze ?_;clear hT T;refine yr11 ?_;exact KE.again ⟨k+1⟩ jg ja ⟨hlt,hq'⟩ bQ
  |false=>
   have hr:=all_not hlt hqk
   refine ze ?_;clear hT T;rw[hr];refine yr15 ?_;exact zd
 ·have:k=l.length:=by omega
  subst this;rw[hq];refine yr18 ?_;exact zd
theorem step1_K {w0:World} {F:jb} {s:SpM} {k:MkM} {p:jQ} {b1 i:Nat} {c:Int} (ok:MkOk k p) (hc:(tiC k.c)[i]?=some c) (hm:s.mb=k.b):
  Call Tryz.prog w0 178 [.int .i64 (i:Nat),pt b1] ((b1,cells [pt s.b] 151)::(jao s++(jr k p++F)))
   (fun r H'=>r= .bool (decide (c=0))/\H'=(b1,cells [pt s.b] 151)::(jao s++(jr k p++F))):=by
 refine en2 17 Tryz.func178 ?_;simp only[jbv,hm];refine yr13 ?_;refine ji (jcM ok hc) ja ?_;refine yr15 ?_;exact zd
section
variable {w0 : World} {F : jb} {s : SpM} {a : ArM} {B : BoM} {k : MkM} {x : List Int} {n : Nat}
def goneC (a:ArM) (i:Nat) (c:Int):Bool:=(a.r.bs[i]?).getD false&&decide (c=0)
theorem spStep_K {y:jn} {c:Int} (ok:SpOk s B.p.g.slots) (oka:jag a B.p) (okB:jaf B x) (okk:MkOk k B.p) (h1:s.act=true) (hy:B.p.g.L[s.at_]?=some y) (hc:(tiC k.c)[s.at_]?=some c) (e1:s.ab=a.b) (e2:s.bb=B.b) (e3:s.mb=k.b):
  Call Tryz.prog w0 105 [pt s.b] (jao s++(jW a B.p++(jT B++(jy B.m++(planH B.p++(jr k B.p++F))))))
   (fun r H'=>r= .bool true/\H'=if goneC a s.at_ c=true then jao {s with d:=JD s.d s.at_ true,at_:=s.at_+1}++(jW a B.p++(jT B++(jy (jae B.m B.t (JH x y))++(planH B.p++(jr k B.p++F))))) else jao {s with at_:=s.at_+1}++(jW a B.p++(jT B++(jy B.m++(planH B.p++(jr k B.p++F)))))):=by
 have hil:s.at_<B.p.g.slots:=by rw[<-jak];exact jl hy
 have hs16:=okB.p.g.slots.2
 have hdl:s.at_<s.d.bs.length:=by rw[ok.dn];exact hil
 have hd:jbE s=false:=by
  unfold jbE;rw [h1,decide_eq_false bc];rfl
 have okd:=ok.d
 have he:((s.at_:Nat):Int)+1=((s.at_+1:Nat):Int):=by omega
 have hgb:getB a.r.bs (s.at_:Nat)=(a.r.bs[s.at_]?).getD false:=jfp
 obtain⟨v,hv⟩: ∃ v,v=(a.r.bs[s.at_]?).getD false:=⟨_,rfl⟩
 have hgone:goneC a s.at_ c=(v&&decide (c=0)):=by unfold goneC;rw [hv]
 rw[<-hv] at hgb
 obtain⟨sb,sd,sat,sact,sab,sbb,smb⟩:=s
 dsimp only at e1 e2 e3 h1 hy hc hil hdl hd okd he hgb hv hgone|-;subst e1 e2 e3 h1;rw[hgone];refine en1 47 Tryz.func105 ?_;refine yr3 ?_;intro b1;refine yr8 ?_;refine ji (jfO (s:=⟨sb,sd,sat,true,a.b,B.b,k.b⟩)) ja ?_;refine yr3 ?_;refine zC fun T hT=>?_;refine(CallV.part (CallV.fn (jgv (s:=⟨sb,sd,sat,true,a.b,B.b,k.b⟩))) ja).mono ?_;rintro _ _ ⟨rfl,rfl⟩;rw[hd];refine ze ?_;clear hT T;simp only[jbv];refine yr8 ?_;refine K.dr _ (od 0 [1,1,1,1,0,0,0,0,0,0,2,2]) Part.all ?_;refine yr11 ?_;intro b20;refine yr1 ?_;refine zj fun T hT=>?_
 have hall:(List.range 2).all (fun i=>if i=0 then v else decide (c=0))=(v&&decide (c=0)):=by
  show(v&&(decide (c=0)&&true))=_
  rw[Bool.and_true]
 refine(CallV.part (CallV.fn (hold_K (H:=(b20,cells [.func (.func 177) #[pt a.b] #[], .func (.func 178) #[] #[pt b1]] 301)::(b1,cells [pt sb] 151)::(jao ⟨sb,sd,sat,true,a.b,B.b,k.b⟩++(jW a B.p++(jT B++(jy B.m++(planH B.p++(jr k B.p++F)))))))
  (l:=[⟨177,[pt a.b],[]⟩,⟨178,[],[pt b1]⟩]) (z:=(sat:Nat)) (fun i=>if i=0 then v else decide (c=0)) (Sli.blk jK rfl bF bn rfl) bF ?_)) Bs).mono ?_
 ·intro i f hf
  match i,hf with
  |0,hf=>
   cases hf
   refine CallV.bound (first:=[pt a.b]) ?_
   have h:=Call.ro (w0:=w0) (A:=jW a B.p) (H:=(b20,cells [.func (.func 177) #[pt a.b] #[], .func (.func 178) #[] #[pt b1]] 301)::(b1,cells [pt sb] 151)::(jao ⟨sb,sd,sat,true,a.b,B.b,k.b⟩++(jW a B.p++(jT B++(jy B.m++(planH B.p++(jr k B.p++F))))))) (fun F=>Has_K (F:=F) (i:=(sat:Nat)) oka) ja
   rw[hgb] at h;exact h
  |1,hf=>
   cases hf
   refine CallV.clo (cap:=[pt b1]) ?_
   exact Call.ro (w0:=w0) (A:=(b1,cells [pt sb] 151)::(jao ⟨sb,sd,sat,true,a.b,B.b,k.b⟩++jr k B.p)) (fun F=>by
    simp only[List.cons_append,List.append_assoc]
    exact step1_K (s:=⟨sb,sd,sat,true,a.b,B.b,k.b⟩) okk hc rfl) ja
  |i+2,hf=>simp at hf
 ·rintro _ _ ⟨rfl,rfl⟩;rw[show([⟨177,[pt a.b],[]⟩,⟨178,[],[pt b1]⟩]:List FnP).length=2 from rfl,hall]
  cases hg:(v&&decide (c=0)) with
  |true=>
   refine zf ?_;clear hT T;simp only[jbv];refine yr4 ?_;refine zaE ?_;refine yr9 ?_;refine ji (bWipe_K okB hy) ja ⟨ja,?_⟩;refine yr2 ?_;refine zaE ?_;refine yr9 ?_;refine ji (jdm (v:=true) okd hdl) ja ⟨ja,?_⟩;refine yr20 ?_;rw[he,if_pos hg];exact zd
  |false=>
   refine zf ?_;clear hT T;simp only[jbv];refine yr23 ?_;rw[he,if_neg (by rw[hg];decide)];exact zd
end
theorem spStop_K {w0:World} {F:jb} {s:SpM} {a:ArM} {p:jQ} (hG:ju w0) (ok:SpOk s p.g.slots) (oka:jag a p) (h:jbE s=true) (e1:s.ab=a.b):Call Tryz.prog w0 379 [pt s.b] (jao s++(jW a p++(planH p++F)))
  (fun r H'=>r= .tuple [.int .i64 (s.d.bs.count true:Nat), .int .i64 0].toArray/\ ∃ (a':ArM) (s':SpM),jag a' p/\a'.b=a.b/\a'.r.b=a.r.b/\a'.r.bs=(jah a.r.bs s.d.bs).2/\SpOk s' p.g.slots/\s'.b=s.b/\s'.ab=s.ab/\s'.bb=s.bb/\s'.mb=s.mb/\s'.at_=0/\s'.act=false/\s'.d.bs=List.replicate p.g.slots false/\H'=jao s'++(jW a' p++(planH p++F))):=by
 have okd:=ok.d
 have hl:s.d.bs.length=a.r.bs.length:=by rw[ok.dn,oka.n]
 have hdn:=ok.dn
 obtain⟨sb,sd,sat,sact,sab,sbb,smb⟩:=s
 dsimp only at e1 okd hl hdn|-;subst e1;refine en1 37 Tryz.func379 ?_;refine yr12 ?_;refine ji (jgu (s:=⟨sb,sd,sat,sact,a.b,sbb,smb⟩)) ja ?_;refine yq7 fun T hT=>?_;refine(CallV.part (CallV.fn (jgv (s:=⟨sb,sd,sat,sact,a.b,sbb,smb⟩))) ja).mono ?_;rintro _ _ ⟨rfl,rfl⟩;rw[h];refine ze ?_;clear hT T;simp only[jbv];refine yr15 ?_;refine ji (Count_K okd) ja ?_;refine yr4 ?_;refine zaE ?_;refine yr9 ?_;refine je (GiveAll_K hG oka okd hl) ja ?_;rintro _ _ ⟨rfl,a',ka,ab,arb,abs,rfl⟩;refine yr10 ?_;refine je (jhr okd) ja ?_;rintro _ _ ⟨rfl,r',kr,rb,rbs,rfl⟩;refine yr22 ?_;rw[hdn] at rbs;rw[<-rb];exact KE.fin (H':=jao ⟨sb,r',0,false,a.b,sbb,smb⟩++(jW a' p++(planH p++F))) jd rfl jc Bs ⟨rfl,a',⟨sb,r',0,false,a.b,sbb,smb⟩,ka,ab,arb,abs,⟨kr,by simp[rbs],Nat.zero_le _⟩,rfl,rfl,rfl,rfl,rfl,rfl,rbs,by simp only[jbv]⟩
theorem spNew_K {w0:World} {F:jb} {a:ArM} {B:BoM} {k:MkM} {x:List Int} (hG:ju w0) (oka:jag a B.p) (okB:jaf B x) (okk:MkOk k B.p):
  Call Tryz.prog w0 95 [pt B.p.b,pt a.b,pt B.b,pt k.b] (jW a B.p++(jT B++(jy B.m++(planH B.p++(jr k B.p++F)))))
   (fun r H'=> ∃ s:SpM,SpOk s B.p.g.slots/\s.ab=a.b/\s.bb=B.b/\s.mb=k.b/\s.at_=0/\s.act=false/\s.d.bs=List.replicate B.p.g.slots false/\r= .tuple [pt s.b, .int .i64 0].toArray/\H'=jao s++(jW a B.p++(jT B++(jy B.m++(planH B.p++(jr k B.p++F)))))):=by
 have okp:=okB.p
 have hs:=okp.g.slots
 obtain⟨y,hy⟩:=Je (g:=B.p.g) (i:=0) bc
 have hne: ¬((B.p.g.slots:Nat):Int)=0:=by omega
 obtain⟨cc,hcc⟩:=jdD okk (s:=0) bc
 have hhead:=fun A=>jdg (w0:=w0) (F:=A) (s:=0) hG okB hy
 have hhv: ∃ c r w e,headV (headP x y)= .tuple [.agg [.int .i64 c, .int .i64 r, .int .i64 w].toArray, .int .i64 e].toArray/\e≠1:=by
  unfold headV
  cases headP x y with
  |none=>exact⟨0,0,0,5,rfl,by decide⟩
  |some h=>exact⟨h.c,h.r,h.w,0,rfl,by decide⟩
 obtain⟨c,r,w,e,hev,hen⟩:=hhv
 simp only[hev] at hhead
 have hen': ¬e=1:=hen
 refine en4 55 Tryz.func95 ?_;refine yr10 ?_;refine zJ ?_
 (iterate 13 first|refine yS ?_|intro _)
 refine ji (jcM okk hcc) ja ?_;refine yr12 ?_;refine zO ?_;refine yr4 ?_;refine je (aCopy_K oka) ja ?_;rintro _ _ ⟨a',_,_,rfl,rfl⟩;refine yr19 ?_;refine zO ?_;refine yr1 ?_;refine Jx (jej (n:=B.p.g.slots) bc) ?_;rintro _ _ ⟨rr,kr,hbs,rfl,rfl⟩;refine yr15 ?_;intro b53;refine yr6 ?_;exact KE.fin (H':=jao ⟨b53,rr,0,false,a.b,B.b,k.b⟩++(jW a B.p++(jT B++(jy B.m++(planH B.p++(jr k B.p++F)))))) jd rfl jc Bs ⟨⟨b53,rr,0,false,a.b,B.b,k.b⟩,⟨kr,by simp[hbs],Nat.zero_le _⟩,rfl,rfl,rfl,rfl,rfl,hbs,rfl,rfl⟩
theorem rec_doc (gens:Int) (e:jk):JZ gens (j5 e)=j5 (JZ gens e):=by
 unfold JZ j5
 by_cases h1:e.st=1
 ·have h2: ¬e.st=2:=by omega
  simp only[if_pos h1,if_neg h2]
 ·by_cases h2:e.st=2
  ·simp only[if_neg h1,if_pos h2]
   by_cases hg:e.gen>=gens
   ·simp only[if_pos hg];rfl
   ·simp only[if_neg hg];rfl
  ·simp only[if_neg h1,if_neg h2]
theorem recT_doc (gens:Int) (T:List jk):Jq gens (T.map j5)=(Jq gens T).map j5:=by
 unfold Jq;rw [List.map_map,List.map_map];congr 1;funext e;exact rec_doc gens e
theorem recN_doc (gens:Int) (T:List jk):recyN gens (T.map j5)=recyN gens T:=by
 unfold recyN;rw[List.countP_map]
 congr 1
 funext e
 show decide ((j5 e).st=2/\ ¬(j5 e).gen>=gens)=_
 rw[(jbn e).1,(jbn e).2]
theorem stB_ne2 {a:Int} (h:0<=a/\a<4) (h0: ¬a=2): ¬(stB a.toNat).1.toList=[100,114,111,112,112,101,100]:=by
 obtain⟨n,rfl⟩: ∃ n:Nat,a=n:=⟨a.toNat,by omega⟩
 rw[Int.toNat_natCast]
 rcases(show n=0\/n=1\/n=3 by omega) with rfl|rfl|rfl<;>simp[stB]
structure RcyS where
 i:Nat
 v:Value
 N:jb
section
variable {w0 : World} {D F : jb} {v : Value} {L : List jk} {gens : Int}
theorem rec_st (hL: ∀ e∈L,0<=e.st/\e.st<4): ∀ e∈Jq gens L,0<=e.st/\e.st<4:=fun e he=>by
 obtain⟨q,hq,rfl⟩:=List.mem_map.1 he
 have:=hL q hq
 unfold JZ
 split
 ·split
  ·exact⟨show(0:Int)<=3 by decide,show(3:Int)<4 by decide⟩
  ·exact⟨show(0:Int)<=0 by decide,show(0:Int)<4 by decide⟩
 ·exact this
theorem jk7 (hS:Sli w0 D wE v L) (hv:v.oneCell'=true) (hl:L.length<=1024) (hg:1<=gens/\gens<=2147483648) (hL: ∀ e∈L,(0<=e.st/\e.st<4)/\1<=e.gen/\e.gen<=2147483648):
  Call Tryz.prog w0 325 [.agg [v, .int .i64 gens].toArray] (D++F)
   (fun r H'=> ∃ (v':Value) (N:jb),Sli w0 (N++D) wE v' (Jq gens L)/\v'.oneCell'=true/\r= .tuple [.agg [v', .int .i64 gens].toArray, .int .i64 (recyN gens L:Nat)].toArray/\H'=N++(D++F)):=by
 refine en1 47 Tryz.func325 ?_;refine yr3 ?_;intro b1;refine yr1 ?_;intro b2;refine yr15 ?_;refine K.loopT (σ:=RcyS) [(1,_),(2,_)] (fun s kp_=>(5, .int .i64 (s.i:Nat))::(4, .int .i64 (recyN gens (L.take s.i):Nat))::kp_) (fun s=>(b1,cells [s.v, .int .i64 gens] 45)::(b2,cells [.slice none 0 0, .int .i64 0] 45)::(s.N++(D++F))) (fun s=>s.i<=L.length/\Sli w0 (s.N++D) wE s.v (recTo gens L s.i)/\s.v.oneCell'=true) (fun s=>L.length-s.i) (⟨0,v,[]⟩) jg ja (⟨Nat.zero_le _,hS,hv⟩) ?_;rintro⟨i,u,N⟩ ⟨hi,hSi,hu⟩;dsimp only at hi hSi hu|-
 have hlen:=jgb gens L i
 by_cases hlt:i<L.length
 ·obtain⟨e,he⟩:=jq hlt
  have heL:=(jeY gens L i).trans he
  have hb:=hL e (List.mem_of_getElem? he)
  have hnl:=jjj gens (L.take i)
  rw[List.length_take] at hnl
  have hlt':((i:Nat):Int)<((recTo gens L i).length:Nat):=by omega
  by_cases h2:e.st=2
  ·have hnx:=jet (gens:=gens) he
   have hn2:=jgd (gens:=gens) he
   obtain⟨st,sl,ge⟩:=e
   dsimp only at h2 hb;subst h2
   have hwi:=fun A (x:jk)=>jf5 (w0:=w0) (F:=A) (gens:=gens) (x:=x) hSi hu bc (i:=i) bc
   by_cases hge:ge>=gens
   ·have hre:JZ gens ⟨2,sl,ge⟩=⟨3,0,ge⟩:=by unfold JZ;rw [if_pos rfl,if_pos hge]
    rw[hre] at hnx;rw[if_neg (fun h=>h.2 hge)] at hn2
    have hgt:ge+1>gens:=by omega
    have hw3:=fun A=>hwi A ⟨3,0,ge⟩
    rw[<-hnx] at hw3
    (iterate 58 first|refine yS ?_|intro _)
    refine je (hw3 _) bf ?_;rintro _ _ ⟨v',N',hS',hv',rfl,rfl⟩;refine yr9 ?_;exact zb9
   ·have hre:JZ gens ⟨2,sl,ge⟩=⟨0,0,ge+1⟩:=by unfold JZ;rw [if_pos rfl,if_neg hge]
    rw[hre] at hnx;rw[if_pos (show(⟨2,sl,ge⟩:jk).st=2/\ ¬(⟨2,sl,ge⟩:jk).gen>=gens from⟨rfl,hge⟩)] at hn2
    have hgt: ¬ge+1>gens:=by omega
    have hw3:=fun A=>hwi A ⟨0,0,ge+1⟩
    rw[<-hnx] at hw3
    (iterate 60 first|refine yS ?_|intro _)
    refine je (hw3 _) bf ?_;rintro _ _ ⟨v',N',hS',hv',rfl,rfl⟩;refine yr15 ?_;exact zb9
  ·obtain⟨k1,k2⟩:=jhY (gens:=gens) he h2
   have hne:=stB_ne2 hb.1 h2
   (iterate 45 first|refine yS ?_|intro _)
   exact KE.again ⟨i+1,u,N⟩ (by dsimp only;rw [k2];exact jg) ja ⟨hlt,by dsimp only;rw [k1];exact hSi,hu⟩ (by show L.length-(i+1)<L.length-i;omega)
 ·have hie:i=L.length:=by omega
  subst hie;rw[jgc] at hSi
  have hlt': ¬((L.length:Nat):Int)<((recTo gens L L.length).length:Nat):=by omega
  have hlen2:(Jq gens L).length=L.length:=by unfold Jq;rw [List.length_map]
  rw[List.take_length];refine yr25 ?_;exact KE.fin (H':=N++(D++F)) jd rfl jc ja ⟨u,N,hSi,hu,rfl,rfl⟩
end
section
variable {w0 : World} {F : jb} {y : CyM} {s : CyP} {g : PlG} {long : Nat}
def goesY (y:CyM) (ph:Nat) (act:Bool):CyM:={y with s:={y.s with act:=act},ph:=ph}
theorem CpM.goes (h:CpM y s) (ph:Nat) (act:Bool):CpM (goesY y ph act) {s with sa:=act,ph:=ph}:=
 ⟨h.p,h.ok,h.R,h.oka,h.A,⟨h.oks.d,h.oks.dn,h.oks.at_⟩,rfl,h.at_,h.D,h.ab,h.bb,h.mb,rfl,h.st,h.nw⟩
theorem cygoes_K (hG:ju w0) (h:CpM y s) (eg:y.B.p.g=g) (hi:CyPre g y.k.g.ring.length s):
  Call Tryz.prog w0 100 [pt y.b] (cycH y++F)
   (fun r H'=>r= .tuple #[]/\H'=cycH (goesY y (jP g s).ph (jP g s).sa)++F):=by
 subst eg
 have hph:=hi.ph
 have hdone:=fun A=>mkDone_K (w0:=w0) (F:=A) hG h.p h.ok h.R hi.m
 have e1:=h.ph
 have e2:=h.sa
 have e3:=h.at_
 have hdn:=h.oks.dn
 have hsp:=fun A (x:SpM)=>jgv (w0:=w0) (F:=A) (s:=x)
 have hst:=fun A (ha:y.s.act=false)=>jmj (w0:=w0) (F:=A) (s:=y.s) ha
 unfold goesY;simp only[seenH_app] at hdone
 by_cases h1:s.ph=1
 ·obtain⟨p1,p2,p3,p4⟩:=hi.p1 h1
  have hsl:=h.p.bo.p.g.slots
  have hst':=fun A=>hst A (e2.trans p2)
  have e1':y.ph=1:=e1.trans h1
  cases hd:JB y.B.p.g s.W s.m with
  |true=>
   have hg:jP y.B.p.g s={s with sa:=true,ph:=2}:=by
    unfold jP;rw [if_pos ⟨h1,hd⟩,if_neg bc]
   rw[hg];simp only[hd] at hdone
   have hnd:jbE {y.s with act:=true}=false:=by unfold jbE;dsimp only;rw [decide_eq_false bc];rfl
   have hsp':=fun A=>hsp A {y.s with act:=true}
   rw[hnd] at hsp'
   obtain⟨yb,B,a,T,N,k,sp,nw,ph,st⟩:=y
   dsimp only at*;subst e1';refine en1 41 Tryz.func100 ?_;simp only[cycH_app,seenH_app];refine yr20 ?_;refine ji (hdone _) ja ?_;refine yr17 ?_;refine ji (hst' _) ja ?_;refine yr22 ?_;refine ji (hsp' _) ja ?_;refine yr7 ?_;exact zaF
  |false=>
   have hg:jP y.B.p.g s=s:=by
    unfold jP;rw [if_neg (by rw[hd];simp),if_neg bc]
   rw[hg];simp only[hd] at hdone;rw[<-e1,<-e2]
   obtain⟨yb,B,a,T,N,k,sp,nw,ph,st⟩:=y
   dsimp only at*;subst e1';refine en1 41 Tryz.func100 ?_;simp only[cycH_app,seenH_app];refine yr20 ?_;refine ji (hdone _) ja ?_;refine yr26 ?_;exact zaF
 ·by_cases h2:s.ph=2
  ·obtain⟨p1,p2,p3⟩:=hi.p2 h2
   have e1':y.ph=2:=e1.trans h2
   have hnd:jbE y.s=decide (s.at_=y.B.p.g.slots):=by
    unfold jbE;rw [e2,p2,e3,hdn];rfl
   have hsp':=fun A=>hsp A y.s
   rw[hnd] at hsp'
   by_cases ha:s.at_=y.B.p.g.slots
   ·have hg:jP y.B.p.g s={s with ph:=3}:=by
     unfold jP;rw [if_neg bc,if_pos ⟨h2,ha⟩]
    rw[hg];rw[decide_eq_true ha] at hsp';dsimp only;rw[<-e2]
    obtain⟨yb,B,a,T,N,k,sp,nw,ph,st⟩:=y
    dsimp only at*;subst e1';refine en1 41 Tryz.func100 ?_;simp only[cycH_app,seenH_app];refine yr52 ?_;refine ji (hsp' _) ja ?_;refine yr12 ?_;exact zaF
   ·have hg:jP y.B.p.g s=s:=by
     unfold jP;rw [if_neg bc,if_neg bc]
    rw[hg];rw[decide_eq_false ha] at hsp';rw[<-e1,<-e2]
    obtain⟨yb,B,a,T,N,k,sp,nw,ph,st⟩:=y
    dsimp only at*;subst e1';refine en1 41 Tryz.func100 ?_;simp only[cycH_app,seenH_app];refine yr52 ?_;refine ji (hsp' _) ja ?_;refine yr7 ?_;exact zaF
  ·have hg:jP y.B.p.g s=s:=by
    unfold jP;rw [if_neg bc,if_neg bc]
   rw[hg,<-e1,<-e2]
   have h1': ¬((y.ph:Nat):Int)=1:=by omega
   have h2': ¬((y.ph:Nat):Int)=2:=by omega
   refine en1 41 Tryz.func100 ?_;simp only[cycH_app,seenH_app];refine yr46 ?_;exact zaF
def jcr (y:CyM) (ph:Nat) (act:Bool):CyM:={y with s:={y.s with act:=act},ph:=ph,st:=y.st+1}
theorem jfb (hG:ju w0) (h:CpM y s) (eg:y.B.p.g=g) (hi:CyPre g y.k.g.ring.length s) (hst:s.st<=100000000):
  Call Tryz.prog w0 52 [pt y.b, .bool true] (cycH y++F)
   (fun r H'=>r= .bool true/\H'=cycH (jcr y (madeC g s).ph (madeC g s).sa)++F):=by
 have h':CpM {y with st:=y.st+1} {s with st:=s.st+1}:=⟨h.p,h.ok,h.R,h.oka,h.A,h.oks,h.sa,h.at_,h.D,h.ab,h.bb,h.mb,h.ph,by show y.st+1=s.st+1;rw [h.st],h.nw⟩
 have hi':CyPre g y.k.g.ring.length {s with st:=s.st+1}:=⟨hi.w,hi.rf,hi.m,hi.i,hi.A,hi.D,hi.p0,hi.p1,hi.p2,hi.p3,hi.ph,hi.dn⟩
 have hgo:=fun A=>cygoes_K (w0:=w0) (F:=A) hG h' eg hi'
 have e1:=h.st
 have e2:((y.st:Nat):Int)+1=((y.st+1:Nat):Int):=by omega
 obtain⟨q,hq⟩: ∃ q,madeC g s=q:=⟨_,rfl⟩
 have hq':jP g {s with st:=s.st+1}=q:=hq
 rw[hq'] at hgo;rw[hq];unfold goesY at hgo;unfold jcr
 obtain⟨yb,B,a,T,N,k,sp,nw,ph,st⟩:=y
 dsimp only at*;refine en2 16 Tryz.func52 ?_;simp only[cycH_app,seenH_app];refine yq26 fun T hT=>?_;rw[e2];refine(CallV.part (CallV.fn (hgo _)) bL).mono ?_;rintro _ _ ⟨rfl,rfl⟩;refine ze ?_;clear hT T;refine yr9 ?_;exact zy
theorem jd7 {b:Nat} {H:jb}:Cs w0 52 [pt b, .bool false] H (.bool false):=by
 refine en2 16 Tryz.func52 ?_;refine yr21 ?_;exact zd
end
section
variable {g : PlG} {long nw : Nat} {s s' : CyP} {x x' : List Int} {P : Nat -> Prop} {n t : Nat} {y : jn} {i j w : Int}
theorem fAt_inj {i j:Int} (hi:0<=i) (hj:0<=j) (h:fAt y i=fAt y j):i=j:=by unfold fAt at h;omega
theorem jhE (ok:jh g) (hy:g.L[n]?=some y) {z:jn} (hz:g.L[t]?=some z):wAt (J6 x y i w).2 z.addr=wAt x z.addr:=by
 have f1:=ok.fits hy
 have f2:=ok.fits hz
 unfold J6
 split
 ·rename_i hf
  have hin:=J7 hf
  dsimp only;refine jaP ?_
  by_cases e:n=t
  ·subst e;rw [hy] at hz;cases hz;omega
  ·have:=ok.apart hy hz e;omega
 ·rfl
theorem jk5 (ok:jh g) (hy:g.L[n]?=some y) {z:jn} (hz:g.L[t]?=some z) {r:Bool}:fldP (J6 x y i w).2 z r j=fldP x z r j:=jch (jhE ok hy hz)
theorem jlw (ok:jh g) (hy:g.L[n]?=some y) {z:jn} (hz:g.L[t]?=some z) (hj:fldP x z true j=0):wAt (J6 x y i w).2 (fAt z j)=wAt x (fAt z j):=by
 have f1:=ok.fits hy
 have f2:=ok.fits hz
 have hin2:=J7 hj
 unfold J6
 split
 ·rename_i hf
  have hin:=J7 hf
  dsimp only
  refine jaP fun e=>?_
  by_cases e2:n=t
  ·subst e2;rw[hy] at hz;cases hz
   have:=fAt_inj hin.1 hin2.1 e
   subst this;unfold fldP at hf hj
   cases hh:headP x y with
   |none=>rw [hh] at hf;cases hf
   |some q=>
    rw[hh] at hf hj;dsimp only at hf hj
    split at hf
    ·rename_i c1
     split at hj
     ·rename_i c2
      have:=c1.2.2
      rw[c2.2.2] at this;cases this
     ·cases hj
    ·cases hf
  ·have:=ok.apart hy hz e2;omega
 ·rfl
theorem jlu (ok:jh g) (hy:g.L[n]?=some y) (h:jaD g x):jaD g (J6 x y i w).2:=fun t z hz j hf=>by
 rw[jk5 ok hy hz] at hf;rw[jlw ok hy hz hf];exact h t z hz j hf
theorem jkT (ok:jh g) (hy:g.L[n]?=some y) (ht:t<g.slots):refsN (J6 x y i w).2 (jv g (t:Nat))=refsN x (jv g (t:Nat)):=by
 obtain⟨z,hz⟩:=Je ht
 rw[jY hz];exact jfP (jhE ok hy hz)
theorem jp.putx (h:jp g long s) {x':List Int} (hw:Jv g {s.W with x:=x'}) (hr:jaD g x') (hf: ∀ t:Nat,t<g.slots->0<refsN s.W.x (jv g (t:Nat))->refsN x' (jv g (t:Nat))=refsN s.W.x (jv g (t:Nat))):jp g long {s with W:={s.W with x:=x'}}:=
 ⟨⟨hw,hr,h.m.world rfl hf,h.i,h.A,h.D,h.p0,h.p1,h.p2,h.p3,h.ph,h.dn⟩,h.lt,fun e=>(jfY rfl).trans (h.go e)⟩
theorem jkf (ok:jh g) (h:jp g long s) (hn:n<g.slots) (hw:0<=w/\w<18446744073709551616):jp g long (jcR g s (n:Nat) i w):=by
 obtain⟨y,hy⟩:=Je hn
 unfold jcR;rw[jY hy]
 exact h.putx ⟨by show(J6 s.W.x y i w).2.length=_;rw [jk4];exact h.w.x,jlv h.w.w hw,h.w.N,h.w.n,h.w.t⟩ (jlu ok hy h.rf) fun t ht _=>jkT ok hy ht
theorem read_cy (ok:jh g) (h:jp g long s) (hn:n<g.slots):jp g long (readC g long s (n:Nat)):=by
 have hi:inS g (n:Nat):=⟨by omega,by omega⟩
 have h1:=(h.shd ok (n:Nat)).world ok (a:=⟨4,(n:Nat),0,0,0,0⟩)
 rw[jdY hi] at h1;exact h1
theorem mk_cy (ok:jh g) (h:jp g long s) {k:Int} {hd:HdP} (ht:(jX g s.A k).2.1=0):jp g long (mkC g s k hd):=by
 obtain⟨k',j,_,_,hf,e,_⟩:=jdt ht
 obtain⟨_,_,h3,_⟩:=jcA hf
 have hl:=jl h3
 rw[h.A] at hl
 obtain⟨y,hy⟩:=Je hl
 have hfit:=ok.fits hy
 unfold mkC;rw[e];dsimp only;rw[jY hy,Int.toNat_natCast]
 have h1:=(h.black j).take (A':=s.A.set j true) (by rw[List.length_set])
 have h2:=h1.putx (x':=(makeP s.W.x y hd).2) ⟨by show(makeP s.W.x y hd).2.length=_;rw [je6 (by rw[h.w.x];omega)];exact h.w.x,jfk h.w.w,h.w.N,h.w.n,h.w.t⟩ (jfj ok h.w.x h.rf hy hd) fun t ht hp=>jeK ok h.w.x hy hd ht hp
 have h3:=h2.world ok (a:=⟨4,(j:Nat),0,0,0,0⟩)
 rw[jdY ⟨by omega,by omega⟩] at h3;exact h3
theorem does_ph' {a:jaW}:(doesC g long s a).ph=s.ph:=by
 have h1: ∀ (z:CyP) (t:Int),(shdC g long z t).ph=z.ph:=fun z t=>by unfold shdC;split<;>rfl
 have h2: ∀ (z:CyP) (t:Int),(shdO g long z t).ph=z.ph:=fun z t=>by
  unfold shdO;split
  ·exact h1 z t
  ·rfl
 unfold doesC
 split
 ·unfold makesC;split<;>rfl
 ·split
  ·unfold jbR
   split
   ·rfl
   ·split
    ·rfl
    ·split
     ·rfl
     ·show(shdO g long (shdO g long s _) _).ph=_
      rw[h2,h2]
  ·split
   ·rfl
   ·split
    ·exact h1 _ _
    ·split
     ·rfl
     ·exact h1 _ _
theorem jjE:(madeC g s).W=s.W:=(jc2 (g:=g) (s:={s with st:=s.st+1})).1
theorem jkC {t u:Nat} (h:refO g x (t:Nat) i=some (u:Nat)):u<g.slots:=by
 unfold refO at h
 split at h
 ·rename_i hc
  have h':=Option.some.inj h
  obtain⟨_,hf⟩:=jdT (g:=g) (x:=x) (t:=t) (i:=i) (s:=(u:Nat)) (by unfold refO;rw [if_pos hc];exact h)
  have e1:=hc.1
  unfold refP at h' e1;rw[if_pos hf] at h' e1
  split at h'
  ·rename_i c1
   rw[if_pos c1] at e1;cases e1
  ·dsimp only at h';omega
 ·cases h
theorem step_T (ok:jh g) (h:jp g long s) {k u:Int} (h1:stepC g long nw s k u=some s'):s'.W.T=s.W.T:=by
 unfold stepC at h1
 split at h1
 ·cases hm:stepM g long s.W s.m k u with
  |none=>rw [hm] at h1;cases h1
  |some m'=>
   rw[hm] at h1;cases h1;rw[jjE]
 ·split at h1
  ·rename_i h2
   cases hm:sweepC g s with
   |none=>rw [hm] at h1;cases h1
   |some q=>
    rw[hm] at h1;cases h1
    obtain⟨_,_,_,_,_,e2,_⟩:=jbw ok h h2.1 hm
    rw[jjE];exact e2
  ·cases h1
theorem step_A (ok:jh g) (h:jp g long s) {k u:Int} (h1:stepC g long nw s k u=some s'):s'.A=s.A:=by
 have hm: ∀ q:CyP,(madeC g q).A=q.A:=fun q=>(jc2 (g:=g) (s:={q with st:=q.st+1})).2.2.1
 unfold stepC at h1
 split at h1
 ·cases hm':stepM g long s.W s.m k u with
  |none=>rw [hm'] at h1;cases h1
  |some m'=>rw [hm'] at h1;cases h1;exact hm _
 ·split at h1
  ·rename_i h2
   cases hm':sweepC g s with
   |none=>rw [hm'] at h1;cases h1
   |some q=>
    rw[hm'] at h1;cases h1
    obtain⟨_,_,_,_,e1,_⟩:=jbw ok h h2.1 hm'
    exact(hm _).trans e1
  ·cases h1
theorem does_A {a:jaW} (ha:2<=a.w%6):(doesC g long s a).A=s.A:=by
 have h1: ∀ (z:CyP) (t:Int),(shdC g long z t).A=z.A:=fun z t=>by unfold shdC;split<;>rfl
 have h2: ∀ (z:CyP) (t:Int),(shdO g long z t).A=z.A:=fun z t=>by
  unfold shdO;split
  ·exact h1 z t
  ·rfl
 unfold doesC;rw[if_neg bc]
 split
 ·unfold jbR
  split
  ·rfl
  ·split
   ·rfl
   ·split
    ·rfl
    ·show(shdO g long (shdO g long s _) _).A=_
     rw[h2,h2]
 ·split
  ·rfl
  ·split
   ·exact h1 _ _
   ·split
    ·rfl
    ·exact h1 _ _
theorem help_no (h0:s.ph=0):jM g long s=none:=by unfold jM;rw [if_neg bc,if_neg bc]
theorem step_no (h0:s.ph=0) {k u:Int}:stepC g long nw s k u=none:=by unfold stepC;rw [if_neg bc,if_neg bc]
end
inductive HpMv (C:HpC) (wr:Bool):HpP->HpP->Prop
 |free {h:HpP} {p:PaP} {wk:Nat}:p.act=h.p.act->(PaB h.p->PaB p)->HpMv C wr h ⟨h.s,p,wk⟩
 |help {h:HpP} {s':CyP}:jM C.g C.long h.s=some s'->HpMv C wr h {h with s:=s'}
 |step {h:HpP} {s':CyP} {k u:Int}:stepC C.g C.long C.nw h.s k u=some s'->HpMv C wr h {h with s:=s'}
 |begin {h:HpP}:h.s.ph=0->HpMv C wr h (jb4 C h)
 |publish {h:HpP} {wk:Nat}:h.s.ph=3->HpMv C wr h ⟨publishC C.g C.gn h.s,jaw false h.p,wk⟩
 |acts {h:HpP} {a:jaW}:2<=a.w%6->(wr=false->a.w%6=3\/a.w%6=4)->HpMv C wr h {h with s:=doesC C.g C.long h.s a}
 |word {h:HpP} {n:Nat} {k i w:Int}:wr=true->Ji h.s.W.T k=some ((n:Nat):Int)->0<=w/\w<18446744073709551616->HpMv C wr h {h with s:=jcR C.g h.s (n:Nat) i w}
 |read {h:HpP} {n t:Nat} {k i:Int}:True->t<C.g.slots->(JN h.s.W.T).isSome=true->HpMv C wr h {h with s:=readC C.g C.long h.s (t:Nat)}
 |make {h:HpP} {k:Int} {hd:HdP}:(jX C.g h.s.A k).2.1=0->(JN h.s.W.T).isSome=true->usedL C.g.L (jX C.g h.s.A k).2.2<=C.g.q->JA (jv C.g (jX C.g h.s.A k).1) hd=true->HpMv C wr h {h with s:=mkC C.g h.s k hd}
inductive JC (C:HpC) (wr:Bool):HpP->HpP->Prop
 |refl {h:HpP}:JC C wr h h
 |tail {h h1 h2:HpP}:JC C wr h h1->HpMv C wr h1 h2->JC C wr h h2
theorem JC.trans {C:HpC} {wr:Bool} {h h1 h2:HpP} (a:JC C wr h h1) (b:JC C wr h1 h2):JC C wr h h2:=by
 induction b with
 |refl=>exact a
 |tail _ c ih=>exact ih.tail c
theorem HpMv.one {C:HpC} {wr:Bool} {h h1:HpP} (a:HpMv C wr h h1):JC C wr h h1:= .tail .refl a
theorem JC.ind {C:HpC} {wr:Bool} {I:HpP->Prop} (hI: ∀ h h',HpMv C wr h h'->I h->I h') {h h':HpP} (a:JC C wr h h') (h0:I h):I h':=by
 induction a with
 |refl=>exact h0
 |tail _ c ih=>exact hI _ _ c ih
structure HeI (C:HpC) (h:HpP):Prop where
 ok:jp C.g C.long h.s
 pa:h.p.act=decide (h.s.ph≠0)
 pb:PaB h.p
 e: ∀ e∈h.s.W.T,1<=e.gen/\e.gen<=C.gn
 n:h.s.W.T.length=C.caps
section
variable {C : HpC} {wr : Bool} {h h' : HpP} {s s' : CyP}
theorem jjC {T:List jk} {t gn:Int} (h: ∀ e∈T,1<=e.gen/\e.gen<=gn): ∀ e∈jS T t,1<=e.gen/\e.gen<=gn:=fun e he=>by
 unfold jS at he
 cases hf:JN T with
 |none=>rw [hf] at he;exact h e he
 |some i=>
  rw[hf] at he;dsimp only at he
  rcases List.mem_or_eq_of_mem_set he with h1|rfl
  ·exact h e h1
  ·obtain⟨⟨e,g1,_⟩,_⟩:=jbK hf
   show 1<=genA T i/\genA T i<=gn
   unfold genA;rw[g1];exact h e (List.mem_of_getElem? g1)
theorem drop_gen {T:List jk} {i gn:Int} (h: ∀ e∈T,1<=e.gen/\e.gen<=gn): ∀ e∈Jr T i,1<=e.gen/\e.gen<=gn:=fun e he=>by
 unfold Jr at he
 split at he
 ·cases hT:T[i.toNat]? with
  |none=>rw [hT] at he;exact h e he
  |some q=>
   rw[hT] at he;dsimp only at he
   split at he
   ·rcases List.mem_or_eq_of_mem_set he with h1|rfl
    ·exact h e h1
    ·exact h q (List.mem_of_getElem? hT)
   ·exact h e he
 ·exact h e he
theorem recy_gen {T:List jk} {gn:Int} (h: ∀ e∈T,1<=e.gen/\e.gen<=gn): ∀ e∈Jq gn T,1<=e.gen/\e.gen<=gn:=fun e he=>by
 unfold Jq at he
 obtain⟨q,hq,rfl⟩:=List.mem_map.1 he
 have:=h q hq
 unfold JZ
 split
 ·split
  ·exact this
  ·dsimp only;omega
 ·exact this
theorem does_TN {a:jaW} (ha:2<=a.w%6):(doesC C.g C.long s a).W.T=s.W.T\/ ∃ i,(doesC C.g C.long s a).W.T=Jr s.W.T i:=by
 unfold doesC;rw[if_neg bc]
 split
 ·left
  unfold jbR
  split
  ·rfl
  ·split
   ·rfl
   ·split
    ·rfl
    ·show(shdO _ _ (shdO _ _ s _) _).W.T=_
     rw[jdL,jdL]
 ·split
  ·exact .inl rfl
  ·split
   ·right
    exact⟨a.n,by show Jr (shdC _ _ s _).W.T _=_;rw [jbo]⟩
   ·split
    ·exact .inl rfl
    ·left;show(shdC _ _ s _).W.T=_;rw [jbo]
theorem HeI.mv (hC:j6 C) (m:HpMv C wr h h') (hI:HeI C h):HeI C h':=by
 have ok:=hC.g
 cases m with
 |free h1 h2=>exact⟨hI.ok,h1.trans hI.pa,h2 hI.pb,hI.e,hI.n⟩
 | @help s' h1=>
  have hs:=jeO hI.ok ok h1
  have h0:h.s.ph≠0:=fun e=>by rw[help_no e] at h1;cases h1
  have hph:=(jhf h1).2
  refine⟨jhg ok hI.ok h1,?_,hI.pb,by show ∀ e∈s'.W.T,_;rw [hs.2.1];exact hI.e,by show s'.W.T.length=_;rw [hs.2.1];exact hI.n⟩
  show h.p.act=_
  rw[hI.pa,decide_eq_true h0];exact(decide_eq_true (show s'.ph≠0 by omega)).symm
 | @step s' k u h1=>
  have h0:h.s.ph≠0:=fun e=>by rw[step_no e] at h1;cases h1
  have hph:=(jko h1).2
  have hT:s'.W.T=h.s.W.T:=step_T ok hI.ok h1
  refine⟨step_cy ok hI.ok h1,?_,hI.pb,by show ∀ e∈s'.W.T,_;rw [hT];exact hI.e,by show s'.W.T.length=_;rw [hT];exact hI.n⟩
  show h.p.act=_
  rw[hI.pa,decide_eq_true h0];exact(decide_eq_true (by show s'.ph≠0;omega)).symm
 |begin h0=>
  refine⟨jj2 ok hC.long hI.ok h0,?_,hI.pb.turn _,hI.e,hI.n⟩
  show(jaw true h.p).act=true
  unfold jaw
  split
  ·assumption
  ·rfl
 |publish h3=>
  refine⟨jfR hI.ok h3 C.gn,?_,hI.pb.turn _,recy_gen hI.e,?_⟩
  ·show(jaw false h.p).act=false
   unfold jaw
   split
   ·assumption
   ·rfl
  ·show(Jq C.gn h.s.W.T).length=_
   unfold Jq;rw [List.length_map];exact hI.n
 | @acts a h2 _=>
  refine⟨does_cy ok hI.ok,?_,hI.pb,?_,?_⟩
  ·show h.p.act=decide ((doesC C.g C.long h.s a).ph≠0)
   rw[does_ph'];exact hI.pa
  ·rcases does_TN (C:=C) (s:=h.s) h2 with e|⟨i,e⟩
   ·rw[e];exact hI.e
   ·rw[e];exact drop_gen hI.e
  ·rcases does_TN (C:=C) (s:=h.s) h2 with e|⟨i,e⟩
   ·rw[e];exact hI.n
   ·rw[e];exact jc3.trans hI.n
 | @word n k i w _ h1 h2=>
  have hin:=jaT hI.ok.w h1
  exact⟨jkf ok hI.ok (by have:=hin.2;omega) h2,hI.pa,hI.pb,hI.e,hI.n⟩
 | @read n t k i h1 h2 _=>
  have ht:t<C.g.slots:=h2
  refine⟨read_cy ok hI.ok ht,?_,hI.pb,?_,?_⟩
  ·show h.p.act=decide ((shdC C.g C.long h.s (t:Nat)).ph≠0)
   rw[show(shdC C.g C.long h.s (t:Nat)).ph=h.s.ph by unfold shdC;split<;>rfl];exact hI.pa
  ·show ∀ e∈jS (shdC _ _ h.s _).W.T _,_
   rw[jbo];exact jjC hI.e
  ·show(jS (shdC _ _ h.s _).W.T _).length=_
   rw[jbo];exact jbk.trans hI.n
 | @make k hd h1 _ _ _=>
  exact⟨mk_cy ok hI.ok h1,hI.pa,hI.pb,jjC hI.e,jbk.trans hI.n⟩
end
theorem used_nil (l:List jn):usedL l []=0:=by cases l<;>rfl
theorem jig: ∀ (f:Nat) (l:List jn) (A:List Bool),usedL (l.drop f) (A.drop f)<=usedL l A
 |0,l,A=>Nat.le_refl _
 |f+1,[],A=>by simp[usedL]
 |f+1,p::l,[]=>by rw[List.drop_nil,used_nil];exact Nat.zero_le _
 |f+1,p::l,a::A=>by
  have:=jig f l A
  simp only[List.drop_succ_cons,usedL]
  omega
theorem ji1 {z:Nat}: ∀ (n:Nat) (l:List jn) (A:List Bool),(∀ d,d<n->A[d]?=some true/\ ∃ p,l[d]?=some p/\p.size=z)->n*z<=usedL l A
 |0,l,A,_=>by simp
 |n+1,[],A,h=>by obtain⟨_,p,hp,_⟩:=h 0 bc;simp at hp
 |n+1,p::l,[],h=>by obtain⟨h1,_⟩:=h 0 bc;simp at h1
 |n+1,p::l,a::A,h=>by
  obtain⟨h1,q,h2,h3⟩:=h 0 bc
  have ih:=ji1 n l A fun d hd=>by simpa using h (d+1) bc
  simp only[List.getElem?_cons_zero,Option.some.injEq] at h1 h2;subst h1 h2
  show(n+1)*z<=(if true=true then p.size else 0)+usedL l A
  rw[if_pos rfl,h3,Nat.succ_mul]
  omega
theorem jmg {g:PlG} {A:List Bool} (ok:jh g) (hA:A.length=g.slots) {k:Nat} (hk:k<g.m) (hf:usedL g.L A+g.y k<=g.q):(jX g A (k:Nat)).2.1=0:=by
 unfold jX;rw[if_pos ⟨by omega,by omega⟩,Int.toNat_natCast]
 cases hp:jaR A (g.first k) (g.n k) with
 |some i=>rfl
 |none=>
  exfalso
  have hno:=jiJ hp
  have h1:=jig (g.first k) g.L A
  have h2:=ji1 (z:=g.y k) (g.n k) (g.L.drop (g.first k)) (A.drop (g.first k)) fun d hd=>by
   have hL:=L_get hk hd
   have hl:=jl hL
   rw[jak,<-hA] at hl;refine⟨?_,g.sl k d,by rw[List.getElem?_drop];exact hL,rfl⟩;rw[List.getElem?_drop]
   rcases bit_some hl with e|e
   ·exact e
   ·exact absurd e (hno _ bc bc)
  have hy:=(ok.y k hk).1
  have h3:g.n k=g.q/g.y k:=rfl
  have h4:=Nat.div_add_mod g.q (g.y k)
  have h5:=Nat.mod_lt g.q (show 0<g.y k by omega)
  rw[h3,Nat.mul_comm] at h2
  omega
theorem jcw {s:CyP} (h:freeB s=true):(JN s.W.T).isSome=true:=by
 unfold freeB cntP at h
 have h':=of_decide_eq_true h
 obtain⟨e,he,hs⟩:=List.countP_pos_iff.1 h'
 unfold JN;rw[List.findIdx?_isSome];exact List.any_eq_true.2 ⟨e,he,hs⟩
section
variable {C : HpC} {wr : Bool} {h h' : HpP} {s s' : CyP} {n : Nat}
theorem fin_mvs {p:PaP} {wk:Nat} (a:jaC C.g C.long s n s'):JC C wr ⟨s,p,wk⟩ ⟨s',p,wk⟩:=by
 induction a with
 |refl=>exact .refl
 |snoc _ b ih=>exact ih.tail (.help (h:=⟨_,p,wk⟩) b)
theorem jhl (hC:j6 C) (hI:HeI C h) (h0:h.s.ph≠0):JC C wr h (jbr C h):=
 (fin_mvs (p:=h.p) (wk:=h.wk) jc8).tail (.publish (h:=⟨(finC C.g C.long h.s).2,h.p,h.wk⟩) (jhj hC.g hI.ok h0))
theorem HeI.mvs (hC:j6 C) (m:JC C wr h h') (hI:HeI C h):HeI C h':=m.ind (fun _ _ m h=>h.mv hC m) hI
theorem jeE (hC:j6 C) (hI:HeI C h) {is:CyP->Bool}:JC C wr h (hpRoom1 C is h):=by
 unfold hpRoom1
 split
 ·rename_i h1;exact jhl hC hI h1.2
 ·exact .refl
theorem jeX {is:CyP->Bool} (h1: ¬is (hpRoom1 C is h).s=true):(hpRoom1 C is h).s.ph=0:=by
 unfold hpRoom1 at h1|-
 split
 ·rfl
 ·rename_i h2
  rw[if_neg h2] at h1
  exact Classical.byContradiction fun e=>h2 ⟨Bool.eq_false_iff.2 h1,e⟩
theorem jd0 (hC:j6 C) (hI:HeI C h) {is:CyP->Bool}:JC C wr h (hpRoom C is h):=by
 have m1:=jeE (wr:=wr) hC hI (is:=is)
 unfold hpRoom
 split
 ·exact m1
 ·rename_i h1
  have h0:=jeX h1
  have m2:=m1.tail (.begin h0)
  exact m2.trans (jhl hC (hI.mvs hC m2) (show(1:Nat)≠0 by decide))
theorem je3: ∀ (d:Nat) (h:HpP),d<=h.p.debt->JC C wr h (JY C d h)
 |0,h,_=> .refl
 |d+1,h,hd=>by
  unfold JY
  cases hh:jM C.g C.long h.s with
  |none=>exact .refl
  |some s'=>
   have m1:JC C wr h ⟨s',{h.p with debt:=d},h.wk+1⟩:=(HpMv.one (.help hh)).tail (.free (h:={h with s:=s'}) rfl fun hb=>⟨hb.s,hb.t,by have:=hb.d;show d<=M62;dsimp only at this;omega,hb.c⟩)
   exact m1.trans (je3 d _ (Nat.le_refl _))
theorem je4: ∀ (d:Nat) (h:HpP),(JY C d h).p.act=h.p.act
 |0,h=>rfl
 |d+1,h=>by
  unfold JY
  cases hh:jM C.g C.long h.s with
  |none=>rfl
  |some s'=>exact(je4 d _).trans rfl
theorem due_mvs (hC:j6 C) (hI:HeI C h) {due:Nat} (h1:due=1->h.p.act=false) (h2:due=2->h.p.act=true):JC C wr h (jcc C due h):=by
 have hp:=hI.pa
 unfold jcc
 split
 ·rename_i e
  rw[h1 e] at hp;exact HpMv.one (.begin (Classical.byContradiction fun e=>by rw[decide_eq_true e] at hp;cases hp))
 ·split
  ·rename_i e
   rw[h2 e] at hp;exact jhl hC hI (of_decide_eq_true hp.symm)
  ·exact .refl
theorem jft {tr ast n:Nat} {p:PaP}:((Jz tr ast n p).1=1->p.act=false)/\((Jz tr ast n p).1=2->p.act=true):=by
 unfold Jz;dsimp only
 constructor
 ·intro e
  split at e
  ·cases e
  ·split at e
   ·cases e
   ·rename_i h;exact Bool.eq_false_iff.2 h
 ·intro e
  split at e
  ·cases e
  ·split at e
   ·assumption
   ·cases e
theorem jiy (hC:j6 C) (hI:HeI C h):JC C wr h (jdd C n h):=by
 have m1:JC C wr h {h with p:=(Jz C.tr C.ast n h.p).2}:=HpMv.one (.free rfl fun hb=>hb.ask _ _ _)
 have m2:=m1.trans (je3 (Jz C.tr C.ast n h.p).2.debt {h with p:=(Jz C.tr C.ast n h.p).2} (Nat.le_refl _))
 have ha:(JY C (Jz C.tr C.ast n h.p).2.debt {h with p:=(Jz C.tr C.ast n h.p).2}).p.act=h.p.act:=(je4 _ _).trans rfl
 exact m2.trans (due_mvs hC (hI.mvs hC m2) (fun e=>ha.trans (jft.1 e)) fun e=>ha.trans (jft.2 e))
theorem jdw {g:PlG} {need:Int} (h: ¬classI g need=g.cl.length):classI g need<g.m:=by
 have:classI g need<=g.cl.length:=List.findIdx_le_length
 show _<g.cl.length
 omega
theorem jgl (hC:j6 C) (hI:HeI C h) {k:Nat} (hk:k<C.g.m) (hf:fitsB C.g (C.g.y k) h.s=true):(jX C.g h.s.A (k:Nat)).2.1=0:=jmg hC.g hI.ok.A hk (of_decide_eq_true hf)
theorem jbi {b:Bool} (h: ¬b=false):b=true:=by cases b;exact absurd rfl h;rfl
theorem fits_used (hC:j6 C) (hI:HeI C h) {k:Nat} (hk:k<C.g.m) (hf:fitsB C.g (C.g.y k) h.s=true):usedL C.g.L (jX C.g h.s.A (k:Nat)).2.2<=C.g.q:=by
 have hu:usedL C.g.L h.s.A+C.g.y k<=C.g.q:=of_decide_eq_true hf
 obtain⟨k',j,ek,hk',hfr,ht,hjl⟩:=jdt (jgl hC hI hk hf)
 obtain⟨g1,g2,g3,_⟩:=jcA hfr
 have ek':k'=k:=by omega
 subst ek'
 have hL:C.g.L[j]?=some (C.g.sl k' (j-C.g.first k')):=by
  have:=L_get (g:=C.g) (k:=k') (d:=j-C.g.first k') hk bc
  rwa[show C.g.first k'+(j-C.g.first k')=j by omega] at this
 have h1:=jeS (A:=h.s.A) true hL hjl
 rw[if_neg (by rw[g3];decide),if_pos rfl] at h1;rw[ht];dsimp only
 have h2:(C.g.sl k' (j-C.g.first k')).size=C.g.y k':=rfl
 omega
theorem jlZ {g:PlG} {need:Int} (h: ¬classI g need=g.cl.length):need<=(g.y (classI g need):Nat):=by
 have hl:classI g need<g.cl.length:=jdw h
 have:=List.findIdx_getElem (xs:=g.cl) (p:=fun(y:Nat)=>decide (need<=(y:Nat))) (w:=hl)
 have h2:=of_decide_eq_true this
 unfold PlG.y;rw[List.getD_eq_getElem?_getD,List.getElem?_eq_getElem hl];exact h2
theorem jg0 (hC:j6 C) (hI:HeI C h) {a b:Int} (hm:Jb ⟨0,a,b⟩=true) (hk: ¬classI C.g (a+b+1)=C.g.cl.length) (h2:fitsB C.g (C.g.y (classI C.g (a+b+1))) h.s=true):
  ∃ (j:Nat) (y:jn),jX C.g h.s.A (classI C.g (a+b+1):Nat)=(((j:Nat):Int),0,h.s.A.set j true)/\h.s.A[j]?=some false/\C.g.L[j]?=some y/\y.cls=classI C.g (a+b+1)/\y.size=C.g.y (classI C.g (a+b+1))/\Jb ⟨(classI C.g (a+b+1):Nat),a,b⟩=true/\JA y ⟨(classI C.g (a+b+1):Nat),a,b⟩=true:=by
 have ok:=hC.g
 have hkm:=jdw hk
 obtain⟨k',j,ek,hk',hf,ht,_⟩:=jdt (jgl hC hI hkm h2)
 obtain⟨g1,g2,g3,_⟩:=jcA hf
 have ek':k'=classI C.g (a+b+1):=by omega
 subst ek'
 have hy:C.g.L[j]?=some (C.g.sl (classI C.g (a+b+1)) (j-C.g.first (classI C.g (a+b+1)))):=by
  have:=L_get (g:=C.g) (k:=classI C.g (a+b+1)) (d:=j-C.g.first (classI C.g (a+b+1))) hkm bc
  rwa[show C.g.first (classI C.g (a+b+1))+(j-C.g.first (classI C.g (a+b+1)))=j by omega] at this
 have hmay:=jb6 hm
 dsimp only at hmay
 have hmay2:Jb ⟨(classI C.g (a+b+1):Nat),a,b⟩=true:=by
  unfold Jb;refine decide_eq_true ⟨by dsimp only;omega,by have:=ok.m.2;dsimp only;omega,hmay.2.2.1,hmay.2.2.2.1,hmay.2.2.2.2.1,hmay.2.2.2.2.2⟩
 refine⟨j,_,ht,g3,hy,rfl,rfl,hmay2,?_⟩
 have:=jlZ hk
 unfold JA;rw[hmay2];simp only[Bool.true_and,Bool.and_eq_true,decide_eq_true_eq];exact⟨rfl,by show a+b+1<=((C.g.y (classI C.g (a+b+1)):Nat):Int);omega⟩
theorem mk_mv (hC:j6 C) (hI:HeI C h) {a b:Int} (hm:Jb ⟨0,a,b⟩=true) (hk: ¬classI C.g (a+b+1)=C.g.cl.length) (h2:fitsB C.g (C.g.y (classI C.g (a+b+1))) h.s=true) (h3:freeB h.s=true):HpMv C wr h {h with s:=mkC C.g h.s (classI C.g (a+b+1):Nat) ⟨(classI C.g (a+b+1):Nat),a,b⟩}:=by
 obtain⟨j,y,ht,_,hy,_,_,_,hl⟩:=jg0 hC hI hm hk h2
 exact .make (jgl hC hI (jdw hk) h2) (jcw h3) (fits_used hC hI (jdw hk) h2) (by rw[ht];dsimp only;rw [jY hy];exact hl)
theorem jew (hC:j6 C) (hI:HeI C h) {k:Nat}:JC C wr h (allocR C h k):=jd0 hC hI
theorem alloc_mvs (hC:j6 C) (hI:HeI C h) {a b:Int}:JC C wr h (hpAlloc C h a b).2:=by
 unfold hpAlloc
 split
 ·exact .refl
 ·rename_i hm
  split
  ·exact .refl
  ·rename_i hk
   have m1:=jew (wr:=wr) hC hI (k:=classI C.g (a+b+1))
   have hI1:=hI.mvs hC m1
   split
   ·exact m1
   ·split
    ·exact m1
    ·rename_i h1 h2
     have m2:=mk_mv (wr:=wr) hC hI1 (jbi hm) hk (jbi h1) (jbi h2)
     exact(m1.tail m2).trans (jiy hC (hI1.mv hC m2))
theorem jeu {x:List Int} {y:jn} {i:Int} (h:(jax x y i).2=0):fldP x y (jax x y i).1 i=0/\ ∃ q,headP x y=some q:=by
 unfold jax at h|-;unfold fldP
 cases hh:headP x y with
 |none=>
  rw[hh] at h
  exfalso
  unfold JJ at h;rw[if_pos bn] at h;dsimp only[Option.getD_none] at h
  split at h
  ·cases h
  ·omega
 |some q=>
  rw[hh] at h
  have hm:=(jbm (jb1 hh).2).1
  refine⟨?_,q,rfl⟩;dsimp only[Option.getD_some] at h|-
  have e:JJ q i=(decide (i<q.r),0)/\0<=i/\i<q.r+q.w:=by
   unfold JJ at h|-;rw[if_pos hm] at h|-
   split at h
   ·cases h
   ·rename_i hc
    rw[if_neg hc];exact⟨rfl,by omega,by omega⟩
  simp only[e.1,e.2.1,e.2.2,and_self,if_true]
theorem jei {g:PlG} {x:List Int} {y:jn} (hrf:jaD g x) (hy:g.L[n]?=some y) {i:Int} (h:fldP x y true i=0):(refP x g.slots y i).2=0:=by
 have:=hrf n y hy i h
 unfold refP;rw[if_pos h,if_neg bc]
theorem jbh {tn:Nat} {T:List jk} {w:Nat} {sl:Int} (h:hpSlot tn T w=some sl):Ji T (capI w:Nat)=some sl:=by
 unfold hpSlot at h
 split at h
 ·unfold J2 at h;unfold Ji;rw[if_pos bc,Int.toNat_natCast] at h|-
  cases hT:T[capI w]? with
  |none=>rw [hT] at h;cases h
  |some e=>
   rw[hT] at h;dsimp only at h|-
   split at h
   ·rename_i h1;rw [if_pos h1.1];exact h
   ·cases h
 ·cases h
theorem read_mvs (hC:j6 C) (hI:HeI C h) {sl a k:Int} (hs:Ji h.s.W.T k=some sl):JC C wr h (jaK C h sl a).2:=by
 obtain⟨j,rfl,hj⟩:=jbP (jaT hI.ok.w hs)
 obtain⟨y,hy⟩:=Je hj
 unfold jaK;rw[jY hy]
 split
 ·exact .refl
 ·split
  ·exact .refl
  ·split
   ·exact .refl
   ·rename_i h1 h2 h3
    have m1:=jd0 (wr:=wr) hC hI (is:=freeB)
    split
    ·exact m1
    ·rename_i h4
     have hf:=(jeu (x:=h.s.W.x) (y:=y) (i:=a) (Classical.byContradiction h1)).1
     rw[jbi h2] at hf
     obtain⟨t,ht⟩: ∃ t:Nat,(refP h.s.W.x C.g.slots y a).1=(t:Nat):=⟨((refP h.s.W.x C.g.slots y a).1).toNat,by omega⟩
     have hr:refO C.g h.s.W.x ((j:Nat):Int) a=some ((t:Nat):Int):=by
      unfold refO;rw [jY hy,if_pos ⟨jei hI.ok.rf hy hf,by omega⟩,ht]
     rw[ht];exact m1.tail (.read (n:=j) (k:=k) (i:=a) trivial (jkC hr) (jcw (jbi h4)))
theorem jms {g:PlG} {long:Nat} {k sl:Int} (hs:Ji s.W.T k=some sl):doesC g long s ⟨4,k,0,0⟩={s with W:={s.W with N:=JQ s.W.N sl.toNat}}:=by
 show(if 4%6<2 then _ else if 4%6=2 then _ else _)=_
 rw[if_neg bn,if_neg bn];dsimp only;rw[hs];dsimp only;rw[if_neg bn,if_pos bn]
theorem jk1 {g:PlG} {long:Nat} {k sl:Int} (hs:Ji s.W.T k=some sl):doesC g long s ⟨5,k,0,0⟩={shdC g long s sl with W:={(shdC g long s sl).W with N:=JX (shdC g long s sl).W.N sl.toNat}}:=by
 show(if 5%6<2 then _ else if 5%6=2 then _ else _)=_
 rw[if_neg bn,if_neg bn];dsimp only;rw[hs];dsimp only;rw[if_neg bn,if_neg bn]
theorem drop_does {g:PlG} {long:Nat} {k sl:Int} (hs:Ji s.W.T k=some sl):doesC g long s ⟨3,k,0,0⟩={shdC g long s sl with W:={(shdC g long s sl).W with T:=Jr (shdC g long s sl).W.T k}}:=by
 show(if 3%6<2 then _ else if 3%6=2 then _ else _)=_
 rw[if_neg bn,if_neg bn];dsimp only;rw[hs];dsimp only;rw[if_pos bn]
theorem jlm {g:PlG} {long tn:Nat} {k a:Int} {j v:Nat} {y:jn} (hs:Ji s.W.T k=some ((j:Nat):Int)) (hy:g.L[j]?=some y) (hr0:(refP s.W.x g.slots y a).2=0) (h3: ¬(v≠0/\(hpSlot tn s.W.T v).isNone=true)):
  doesC g long s ⟨2,k,a,if v=0 then-1 else(capI v:Nat)⟩=putC g (shdO g long (shdO g long s (refP s.W.x g.slots y a).1) (if v=0 then-1 else(hpSlot tn s.W.T v).getD (-1))) (j:Nat) a (if v=0 then-1 else(hpSlot tn s.W.T v).getD (-1)):=by
 show(if 2%6<2 then _ else if 2%6=2 then jbR _ _ _ _ else _)=_
 rw[if_neg bn,if_pos bn];unfold jbR;rw[hs];dsimp only;rw[jY hy]
 by_cases h0:v=0
 ·rw[if_pos h0,if_pos h0,if_neg (fun q=>by omega),if_neg (fun q=>q hr0)]
  rfl
 ·obtain⟨to,hto⟩: ∃ to,hpSlot tn s.W.T v=some to:=by
   cases hq:hpSlot tn s.W.T v with
   |none=>exact absurd ⟨h0,by rw[hq];rfl⟩ h3
   |some to=>exact⟨to,rfl⟩
  have hst:=jbh hto
  rw[if_neg h0,if_neg h0,if_neg (fun q=>by rw[hst] at q;cases q.2),if_neg (fun q=>q hr0),hto];unfold toC;rw[if_neg bc,hst]
  try rfl
theorem jia (hC:j6 C) (hI:HeI C h) {sl a:Int} {v k:Nat} (hs:Ji h.s.W.T (k:Nat)=some sl) (hv:v<18446744073709551616) (hw:wr=true):JC C wr h (jaZ C h sl a v).2:=by
 obtain⟨j,rfl,hj⟩:=jbP (jaT hI.ok.w hs)
 obtain⟨y,hy⟩:=Je hj
 unfold jaZ
 split
 ·exact .refl
 ·split
  ·exact HpMv.one (.word hw hs ⟨by omega,by omega⟩)
  ·split
   ·exact .refl
   ·rename_i h1 h2 h3
    rw[jY hy] at h1 h2|-
    have hf:=(jeu (x:=h.s.W.x) (y:=y) (i:=a) (Classical.byContradiction h1)).1
    rw[jbi h2] at hf
    have hr0:=jei hI.ok.rf hy hf
    have m:HpMv C wr h {h with s:=doesC C.g C.long h.s ⟨2,(k:Nat),a,if v=0 then-1 else(capI v:Nat)⟩}:= .acts (show 2<=2%6 by decide) fun e=>by rw[hw] at e;cases e
    rw[jlm hs hy hr0 h3] at m;exact HpMv.one m
theorem op_mvs (hC:j6 C) (hI:HeI C h) {op:OpP} {sl:Int} (hs:Ji h.s.W.T (capI op.h:Nat)=some sl) (hv:op.v<18446744073709551616) (hw:op.c=3\/op.c=5->wr=true):JC C wr h (hpOp C h op sl).2:=by
 unfold hpOp
 split
 ·exact read_mvs hC hI hs
 ·split
  ·rename_i e;exact jia hC hI hs hv (hw (.inl e))
  ·split
   ·have m:HpMv C wr h {h with s:=doesC C.g C.long h.s ⟨4,(capI op.h:Nat),0,0⟩}:= .acts (show 2<=4%6 by decide) fun _=> .inr (show 4%6=4 by decide)
    rw[jms hs] at m;exact HpMv.one m
   ·split
    ·rename_i e5
     unfold jb0
     split
     ·exact .refl
     ·have m:HpMv C wr h {h with s:=doesC C.g C.long h.s ⟨5,(capI op.h:Nat),0,0⟩}:= .acts (show 2<=5%6 by decide) fun e=>by rw[hw (.inr e5)] at e;cases e
      rw[jk1 hs] at m;exact HpMv.one m
    ·split
     ·have m:HpMv C wr h {h with s:=doesC C.g C.long h.s ⟨3,(capI op.h:Nat),0,0⟩}:= .acts (show 2<=3%6 by decide) fun _=> .inl (show 3%6=3 by decide)
      rw[drop_does hs] at m;exact HpMv.one m
     ·exact .refl
theorem jgO (hC:j6 C) (hI:HeI C h) {op:OpP} (hv:op.v<18446744073709551616) (hw:op.c=3\/op.c=5->wr=true):JC C wr h (hpDoes C h op).2:=by
 unfold hpDoes
 split
 ·exact .refl
 ·split
  ·exact alloc_mvs hC hI
  ·split
   ·exact .refl
   ·rename_i sl hs;exact op_mvs hC hI (jbh hs) hv hw
theorem do_mvs (hC:j6 C) (hI:HeI C h) {op:OpP} (hv:op.v<18446744073709551616) (hw:op.c=3\/op.c=5->wr=true):JC C wr h (Js C h op).2:=by
 have m:JC C wr h {h with wk:=0}:=HpMv.one (.free rfl fun h=>h)
 exact m.trans (jgO hC (hI.mvs hC m) hv hw)
theorem jkn {k u:Int}:JC C wr h (jaQ C h k u).2:=by
 unfold jaQ
 split
 ·cases hs:stepC C.g C.long C.nw h.s k u with
  |none=>exact .refl
  |some s'=>exact HpMv.one (.step hs)
 ·exact .refl
end
theorem capI_W {t i n:Nat} (hn:n<4294967296) (hi:i<16777216):capI (capW t i n)=i:=by unfold capI capW;omega
theorem capG_W {t i n:Nat} (hn:n<4294967296):capG (capW t i n)=n:=by unfold capG capW;omega
def J9 (T T':List jk):Prop:= ∀ (i:Nat) (e:jk),T[i]?=some e-> ∃ e',T'[i]?=some e'/\(e.gen<e'.gen\/(e'.gen=e.gen/\(e.st≠0->e'.st≠0)/\(2<=e.st->2<=e'.st)))
theorem J9.refl {T:List jk}:J9 T T:=fun i e h=>⟨e,h, .inr ⟨rfl,fun h=>h,fun h=>h⟩⟩
theorem J9.trans {T T' T'':List jk} (a:J9 T T') (b:J9 T' T''):J9 T T'':=fun i e h=>by
 obtain⟨e1,h1,c1⟩:=a i e h
 obtain⟨e2,h2,c2⟩:=b i e1 h1
 refine⟨e2,h2,?_⟩
 rcases c1 with c1|⟨c1,d1,f1⟩
 ·rcases c2 with c2|⟨c2,_⟩
  ·left;omega
  ·left;omega
 ·rcases c2 with c2|⟨c2,d2,f2⟩
  ·left;omega
  ·right;exact⟨by omega,fun q=>d2 (d1 q),fun q=>f2 (f1 q)⟩
def OldH (T:List jk) (w:Nat):Prop:= ∃ e,T[capI w]?=some e/\((capG w:Nat)<e.gen\/(e.gen=(capG w:Nat)/\e.st≠0))
def jdR (T:List jk) (w:Nat):Prop:= ∃ e,T[capI w]?=some e/\((capG w:Nat)<e.gen\/(e.gen=(capG w:Nat)/\2<=e.st))
section
variable {T T' : List jk} {w tn : Nat} {t gn : Int}
theorem OldH.le (h:OldH T w) (hl:J9 T T'):OldH T' w:=by
 obtain⟨e,h1,c⟩:=h
 obtain⟨e',h2,c'⟩:=hl _ _ h1
 refine⟨e',h2,?_⟩
 rcases c with c|⟨c,d⟩
 ·rcases c' with c'|⟨c',_⟩<;>(left;omega)
 ·rcases c' with c'|⟨c',d',_⟩
  ·left;omega
  ·right;exact⟨by omega,d' d⟩
theorem jdR.le (h:jdR T w) (hl:J9 T T'):jdR T' w:=by
 obtain⟨e,h1,c⟩:=h
 obtain⟨e',h2,c'⟩:=hl _ _ h1
 refine⟨e',h2,?_⟩
 rcases c with c|⟨c,d⟩
 ·rcases c' with c'|⟨c',_⟩<;>(left;omega)
 ·rcases c' with c'|⟨c',_,d'⟩
  ·left;omega
  ·right;exact⟨by omega,d' d⟩
theorem jdR.slot (h:jdR T w):hpSlot tn T w=none:=by
 obtain⟨e,h1,c⟩:=h
 unfold hpSlot
 split
 ·unfold J2;rw[if_pos bc,Int.toNat_natCast,h1];dsimp only;rw[if_neg (by rintro⟨a,b⟩;omega)]
  rfl
 ·rfl
theorem mint_le:J9 T (jS T t):=fun i e h=>by
 unfold jS
 cases hf:JN T with
 |none=>exact J9.refl i e h
 |some j=>
  dsimp only
  obtain⟨⟨e0,g1,g2⟩,_⟩:=jbK hf
  by_cases hij:i=j
  ·subst hij;rw[g1] at h;cases h;exact⟨_,List.getElem?_set_self (jl g1), .inr ⟨jcp g1,fun q=>absurd g2 q,fun q=>by omega⟩⟩
  ·rw[List.getElem?_set_ne bc];exact⟨e,h, .inr ⟨rfl,fun h=>h,fun h=>h⟩⟩
theorem drop_le {k:Int}:J9 T (Jr T k):=fun i e h=>by
 unfold Jr
 split
 ·cases hT:T[k.toNat]? with
  |none=>exact J9.refl i e h
  |some q=>
   dsimp only
   split
   ·rename_i h1
    by_cases hij:i=k.toNat
    ·subst hij;rw[hT] at h;cases h;exact⟨_,List.getElem?_set_self (jl hT), .inr ⟨rfl,fun _=>(show(2:Int)≠0 by decide),fun _=>(show(2:Int)<=2 by decide)⟩⟩
    ·rw[List.getElem?_set_ne bc];exact⟨e,h, .inr ⟨rfl,fun h=>h,fun h=>h⟩⟩
   ·exact J9.refl i e h
 ·exact J9.refl i e h
theorem recy_le:J9 T (Jq gn T):=fun i e h=>by
 refine⟨JZ gn e,by unfold Jq;rw [List.getElem?_map,h];rfl,?_⟩;unfold JZ
 split
 ·split
  ·exact .inr ⟨rfl,fun _=>(show(3:Int)≠0 by decide),fun _=>(show(2:Int)<=3 by decide)⟩
  ·left;show e.gen<e.gen+1;omega
 ·exact .inr ⟨rfl,fun h=>h,fun h=>h⟩
theorem mintW_old (hT:T.length<=1024) (he: ∀ e∈T,1<=e.gen/\e.gen<=2147483648) (hf:(JN T).isSome=true):OldH (jS T t) (jaU tn T)/\jaU tn T≠0:=by
 obtain⟨j,hj⟩:=Option.isSome_iff_exists.1 hf
 obtain⟨⟨e0,g1,g2⟩,_⟩:=jbK hj
 have hl:=jl g1
 have hb:=he e0 (List.mem_of_getElem? g1)
 unfold jaU JT jS OldH;rw[hj];dsimp only;rw[jcp g1,Int.toNat_natCast,capI_W bc bc,capG_W bc];refine⟨⟨_,List.getElem?_set_self hl, .inr ⟨by show e0.gen=_;omega,(show(1:Int)≠0 by decide)⟩⟩,?_⟩;unfold capW;omega
end
section
variable {C : HpC} {wr : Bool} {h h' : HpP}
theorem mv_tb (hC:j6 C) (hI:HeI C h) (m:HpMv C wr h h'):J9 h.s.W.T h'.s.W.T:=by
 have ok:=hC.g
 cases m with
 |free h1 h2=>exact .refl
 |help h1=>rw [show _=h.s.W.T from(jeO hI.ok ok h1).2.1];exact .refl
 |step h1=>rw [show _=h.s.W.T from step_T ok hI.ok h1];exact .refl
 |begin h0=>exact .refl
 |publish h3=>exact recy_le
 | @acts a h2 _=>
  rcases does_TN (C:=C) (s:=h.s) h2 with e|⟨i,e⟩
  ·show J9 _ (doesC _ _ h.s a).W.T;rw [e];exact .refl
  ·show J9 _ (doesC _ _ h.s a).W.T;rw [e];exact drop_le
 |word _ _ _=>exact .refl
 |read _ _ _=>show J9 _ (jS (shdC _ _ h.s _).W.T _);rw [jbo];exact mint_le
 |make _ _ _ _=>exact mint_le
theorem jel (hC:j6 C) (hI:HeI C h) (m:JC C wr h h'):J9 h.s.W.T h'.s.W.T:=
 (m.ind (I:=fun q=>HeI C q/\J9 h.s.W.T q.s.W.T) (fun a b m i=>⟨i.1.mv hC m,i.2.trans (mv_tb hC i.1 m)⟩) ⟨hI, .refl⟩).2
theorem HeI.gens (hC:j6 C) (hI:HeI C h): ∀ e∈h.s.W.T,1<=e.gen/\e.gen<=2147483648:=fun e he=>by
 have:=hI.e e he;have:=hC.gn;omega
theorem HeI.T1024 (hC:j6 C) (hI:HeI C h):h.s.W.T.length<=1024:=by rw[hI.n];exact hC.caps.2
def NewW (C:HpC) (h h':HpP) (w:Nat):Prop:= ∃ (T1:List jk) (t:Int),T1.length<=1024/\(∀ e∈T1,1<=e.gen/\e.gen<=2147483648)/\J9 h.s.W.T T1/\(JN T1).isSome=true/\w=jaU C.tn T1/\J9 (jS T1 t) h'.s.W.T
theorem alloc_new (hC:j6 C) (hI:HeI C h) {a b:Int} (h0:(hpAlloc C h a b).1.h≠0):NewW C h (hpAlloc C h a b).2 (hpAlloc C h a b).1.h:=by
 unfold hpAlloc at h0|-
 split at h0
 ·exact absurd rfl h0
 ·rename_i h1
  rw[if_neg h1]
  split at h0
  ·exact absurd rfl h0
  ·rename_i hk
   rw[if_neg hk]
   have m1:=jew (wr:=true) hC hI (k:=classI C.g (a+b+1))
   have hI1:=hI.mvs hC m1
   split at h0
   ·exact absurd rfl h0
   ·rename_i h2
    rw[if_neg h2]
    split at h0
    ·exact absurd rfl h0
    ·rename_i h3
     rw[if_neg h3]
     have m2:HpMv C true _ _:=mk_mv hC hI1 (jbi h1) hk (jbi h2) (jbi h3)
     have hI2:=hI1.mv hC m2
     exact⟨_,_,hI1.T1024 hC,hI1.gens hC,jel hC hI m1,jcw (jbi h3),rfl,jel hC hI2 (jiy (wr:=true) hC hI2)⟩
theorem read_new (hC:j6 C) (hI:HeI C h) {sl a k:Int} (hs:Ji h.s.W.T k=some sl) (h0:(jaK C h sl a).1.h≠0):NewW C h (jaK C h sl a).2 (jaK C h sl a).1.h:=by
 unfold jaK at h0|-
 split at h0
 ·exact absurd rfl h0
 ·rename_i h1
  rw[if_neg h1]
  split at h0
  ·exact absurd rfl h0
  ·rename_i h2
   rw[if_neg h2]
   split at h0
   ·exact absurd rfl h0
   ·rename_i h3
    rw[if_neg h3]
    have m1:=jd0 (wr:=true) hC hI (is:=freeB)
    have hI1:=hI.mvs hC m1
    split at h0
    ·exact absurd rfl h0
    ·rename_i h4
     rw[if_neg h4];refine⟨_,(refP h.s.W.x C.g.slots (jv C.g sl) a).1,hI1.T1024 hC,hI1.gens hC,jel hC hI m1,jcw (jbi h4),rfl,?_⟩
     show J9 _ (jS (shdC _ _ _ _).W.T _)
     rw[jbo];exact .refl
theorem does_new (hC:j6 C) (hI:HeI C h) {op:OpP} (h0:(hpDoes C h op).1.h≠0):NewW C h (hpDoes C h op).2 (hpDoes C h op).1.h:=by
 unfold hpDoes at h0|-
 split at h0
 ·exact absurd rfl h0
 ·rename_i h1
  rw[if_neg h1]
  split at h0
  ·rename_i h2
   rw[if_pos h2];exact alloc_new hC hI h0
  ·rename_i h2
   rw[if_neg h2]
   cases hs:hpSlot C.tn h.s.W.T op.h with
   |none=>rw [hs] at h0;exact absurd rfl h0
   |some sl=>
    rw[hs] at h0;dsimp only at h0|-;unfold hpOp at h0|-
    split at h0
    ·rename_i h3
     rw[if_pos h3];exact read_new hC hI (jbh hs) h0
    ·exfalso
     apply h0
     split
     ·unfold jaZ
      split
      ·rfl
      ·split
       ·rfl
       ·split<;>rfl
     ·split
      ·rfl
      ·split
       ·unfold jb0;split<;>rfl
       ·split<;>rfl
theorem do_h {op:OpP}:(Js C h op).1.h=if (hpDoes C {h with wk:=0} op).1.e=0 then(hpDoes C {h with wk:=0} op).1.h else 0:=by
 unfold Js jen;dsimp only
 split<;>rfl
theorem do_new (hC:j6 C) (hI:HeI C h) {op:OpP} (h0:(Js C h op).1.h≠0):NewW C h (Js C h op).2 (Js C h op).1.h:=by
 rw[do_h] at h0|-
 split at h0
 ·rename_i h1
  rw[if_pos h1]
  have hI0:HeI C {h with wk:=0}:=hI.mv hC (wr:=true) (.free rfl fun h=>h)
  exact does_new (h:={h with wk:=0}) hC hI0 h0
 ·exact absurd rfl h0
