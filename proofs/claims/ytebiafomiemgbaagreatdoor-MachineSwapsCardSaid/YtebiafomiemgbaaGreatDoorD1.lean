/-Sequences of steps of the walker,each a theorem with a default proof. -/
import Derived.Test.YtebiafomiemgbaaGreatDoorJ13
import Derived.Lib.TrailingZeros
import Derived.Lib.BitFns
import Derived.Shelf.Spec.TrailingZeros
import Derived.Scope
import Derived.Test.YtebiafomiemgbaaGreatDoorRows
import Derived.OpenShut
import Derived.LaidMore
import Derived.Lay
import Derived.LaidHandle
import Derived.WalkSmall
set_option linter.unusedVariables false set_option linter.unusedSimpArgs false namespace Go.Proofs.YtebiafomiemgbaaGreatDoor
structure Hid (P:Prop):Prop where
 out:P
set_option linter.unusedVariables false
variable {G G' : Prop}
theorem zrX (h:G:=by exact jbW (m:=72057594037927936) (by omega) (jbW (m:=281474976710656) (by omega) (jbW (m:=1099511627776) (by omega) (jbW (m:=4294967296) (by omega) (jbW (m:=16777216) (by omega) (jbW (m:=65536) (by omega) (jbW (m:=256) (by omega) (by omega)))))))):G:=h
theorem zG (k:G') (h:Hid G'→G:=by intro zk0;refine K.seq (K.region ?_);exact zk0.1):G:=h ⟨k⟩
theorem zt (k:G') (h:Hid G'→G:=by intro zk0;refine KL.v rfl (Val.assign rfl) ?_;exact zk0.1):G:=h ⟨k⟩
theorem zal (k:G') (h:Hid G'→G:=by intro zk0;refine KL.nil (KE.next (K.seq (K.region ?_)));exact zk0.1):G:=h ⟨k⟩
theorem zj (k:G') (h:Hid G'→G:=by intro zk0;refine KL.v rfl (Val.move rfl) ?_;exact zk0.1):G:=h ⟨k⟩
theorem zac (k:G') (h:Hid G'→G:=by intro zk0;refine KL.v rfl (Val.isT (Val.geq rfl rfl) jO) ?_;exact zk0.1):G:=h ⟨k⟩
theorem zl (k:G') (h:Hid G'→G:=by intro zk0;refine KL.yes rfl rfl ?_;exact zk0.1):G:=h ⟨k⟩
theorem zA (k:G') (h:Hid G'→G:=by intro zk0;refine KL.v rfl (Val.pickT rfl rfl rfl) ?_;exact zk0.1):G:=h ⟨k⟩
theorem zec (k:G') (h:Hid G'→G:=by intro zk0;refine KL.v rfl (Val.isT (Val.leq rfl rfl) jO) ?_;exact zk0.1):G:=h ⟨k⟩
theorem zc0 (k:G') (h:Hid G'→G:=by intro zk0;refine KL.v rfl (Val.sub rfl rfl (by grind[qL,qH])) ?_;exact zk0.1):G:=h ⟨k⟩
theorem za3 (k:G') (h:Hid G'→G:=by intro zk0;refine KL.nil (KE.next ?_);exact zk0.1):G:=h ⟨k⟩
theorem zfy (k:G') (h:Hid G'→G:=by intro zk0;refine K.ret ?_;exact zk0.1):G:=h ⟨k⟩
theorem zH (h:G:=by exact KE.fin je rfl jd ja ⟨rfl,rfl⟩):G:=h
theorem za4 (k:G') (h:Hid G'→G:=by intro zk0;refine jgs ?_;exact zk0.1):G:=h ⟨k⟩
theorem zp5 (k:G') (h:Hid G'→G:=by intro zk0;(first|(refine KL.v rfl (Val.sub rfl rfl (by grind[qL,qH])) ?_)|(refine KL.v rfl (Val.subW rfl rfl) ?_));exact zk0.1):G:=h ⟨k⟩
theorem zgL (k:G') (h:Hid G'→G:=by intro zk0;refine KL.v rfl (Val.shr rfl rfl (by omega)) ?_;exact zk0.1):G:=h ⟨k⟩
theorem zbu (k:G') (h:Hid G'→G:=by intro zk0;refine KL.nil (KE.next (K.seq (K.seq (K.region ?_))));exact zk0.1):G:=h ⟨k⟩
theorem zp (k:G') (h:Hid G'→G:=by intro zk0;refine KL.callq rfl rfl jar ?_;exact zk0.1):G:=h ⟨k⟩
theorem zy (k:G') (h:Hid G'→G:=by intro zk0;refine KL.v rfl (Val.notT rfl) ?_;exact zk0.1):G:=h ⟨k⟩
theorem zb8 (k:G') (h:Hid G'→G:=by intro zk0;refine KL.nil (KE.next (K.condF rfl (K.skip (KE.next (K.seq ?_)))));exact zk0.1):G:=h ⟨k⟩
theorem zP (k:G') (h:Hid G'→G:=by intro zk0;refine KD.v1 rfl rfl (Val.move rfl) ?_;exact zk0.1):G:=h ⟨k⟩
theorem zo (k:G') (h:Hid G'→G:=by intro zk0;refine KD.v0 rfl rfl (Val.move rfl) ?_;exact zk0.1):G:=h ⟨k⟩
theorem zk (k:G') (h:Hid G'→G:=by intro zk0;refine KD.callc rfl rfl rfl jar ?_;exact zk0.1):G:=h ⟨k⟩
theorem zi (k:G') (h:Hid G'→G:=by intro zk0;refine hT _ _ ja ?_;exact zk0.1):G:=h ⟨k⟩
theorem ziW (k:G') (h:Hid G'→G:=by intro zk0;refine KD.v0 rfl rfl (Val.assign rfl) ?_;exact zk0.1):G:=h ⟨k⟩
theorem zam (k:G') (h:Hid G'→G:=by intro zk0;refine KD.nil ?_;exact zk0.1):G:=h ⟨k⟩
theorem zb9 (k:G') (h:Hid G'→G:=by intro zk0;refine KE.next ?_;exact zk0.1):G:=h ⟨k⟩
theorem zdl (k:G') (h:Hid G'→G:=by intro zk0;refine KL.nil (KE.next (K.seq (K.block (K.seq (K.region ?_)))));exact zk0.1):G:=h ⟨k⟩
theorem zp6 (k:G') (h:Hid G'→G:=by intro zk0;refine KL.nil (KE.next (K.condF rfl (K.seq (K.region ?_))));exact zk0.1):G:=h ⟨k⟩
theorem zaA (k:G') (h:Hid G'→G:=by intro zk0;refine KL.v rfl (Val.isF (Val.gtr rfl rfl) jO) ?_;exact zk0.1):G:=h ⟨k⟩
theorem zat (k:G') (h:Hid G'→G:=by intro zk0;refine KL.nil (KE.next (K.condF rfl (K.skip ?_)));exact zk0.1):G:=h ⟨k⟩
theorem zaw (k:G') (h:Hid G'→G:=by intro zk0;refine KE.blkN ?_;exact zk0.1):G:=h ⟨k⟩
theorem zbC (k:G') (h:Hid G'→G:=by intro zk0;refine KE.next (K.seq ?_);exact zk0.1):G:=h ⟨k⟩
theorem zco (k:G') (h:Hid G'→G:=by intro zk0;refine KL.v rfl (Val.lenSl rfl rfl jab) ?_;exact zk0.1):G:=h ⟨k⟩
theorem zc1 (k:G') (h:Hid G'→G:=by intro zk0;refine KL.nil (KE.next (K.block ?_));exact zk0.1):G:=h ⟨k⟩
theorem zI (k:G') (h:Hid G'→G:=by intro zk0;refine KL.v rfl (Val.isT (Val.lss rfl rfl) jO) ?_;exact zk0.1):G:=h ⟨k⟩
theorem ztF (k:G') (h:Hid G'→G:=by intro zk0;refine KL.nil (KE.next (K.seq (K.condT rfl (K.skip (KE.next (K.seq (K.block (K.seq (K.region ?_)))))))));exact zk0.1):G:=h ⟨k⟩
theorem zlD (k:G') (h:Hid G'→G:=by intro zk0;refine KL.v rfl (Val.idxSl rfl rfl rfl jab rfl jO) ?_;exact zk0.1):G:=h ⟨k⟩
theorem zdm (k:G') (h:Hid G'→G:=by intro zk0;refine KL.v rfl (Val.loadP rfl rfl jer) ?_;exact zk0.1):G:=h ⟨k⟩
theorem zu (k:G') (h:Hid G'→G:=by intro zk0;refine KL.callc rfl rfl jar ?_;exact zk0.1):G:=h ⟨k⟩
theorem ze (k:G') (h:Hid G'→G:=by intro zk0;refine hT _ _ ?_;exact zk0.1):G:=h ⟨k⟩
theorem zaj (k:G') (h:Hid G'→G:=by intro zk0;refine KL.v rfl (Val.isF (Val.neq rfl rfl) jO) ?_;exact zk0.1):G:=h ⟨k⟩
theorem zdn (k:G') (h:Hid G'→G:=by intro zk0;refine KL.nil (KE.next (K.condF rfl (K.skip (KE.next (K.region ?_)))));exact zk0.1):G:=h ⟨k⟩
theorem zaB (k:G') (h:Hid G'→G:=by intro zk0;refine KL.v rfl (Val.add rfl rfl (by grind[qL,qH])) ?_;exact zk0.1):G:=h ⟨k⟩
theorem zR (k:G') (h:Hid G'→G:=by intro zk0;refine KL.nil ?_;exact zk0.1):G:=h ⟨k⟩
theorem zks (k:G') (h:Hid G'→G:=by intro zk0;refine KE.next (K.region ?_);exact zk0.1):G:=h ⟨k⟩
theorem zW (k:G') (h:Hid G'→G:=by intro zk0;refine KL.v rfl (Val.isF (Val.lss rfl rfl) jO) ?_;exact zk0.1):G:=h ⟨k⟩
theorem ztG (k:G') (h:Hid G'→G:=by intro zk0;refine KL.nil (KE.next (K.seq (K.condF rfl ?_)));exact zk0.1):G:=h ⟨k⟩
theorem zgM (k:G') (h:Hid G'→G:=by intro zk0;refine K.exit ?_;exact zk0.1):G:=h ⟨k⟩
theorem znW (k:G') (h:Hid G'→G:=by intro zk0;refine KE.passX ?_;exact zk0.1):G:=h ⟨k⟩
theorem znX (k:G') (h:Hid G'→G:=by intro zk0;refine KE.blkX ?_;exact zk0.1):G:=h ⟨k⟩
theorem zV (k:G') (h:Hid G'→G:=by intro zk0;refine KE.next (K.seq (K.region ?_));exact zk0.1):G:=h ⟨k⟩
theorem zC (k:G') (h:Hid G'→G:=by intro zk0;refine KL.v rfl (Val.isF (Val.eql rfl rfl) jO) ?_;exact zk0.1):G:=h ⟨k⟩
theorem zK (k:G') (h:Hid G'→G:=by intro zk0;refine KL.nil (KE.next (K.condF rfl (K.skip (KE.next (K.seq (K.region ?_))))));exact zk0.1):G:=h ⟨k⟩
theorem zp7 (k:G') (h:Hid G'→G:=by intro zk0;refine KL.v rfl (Val.extract rfl rfl) ?_;exact zk0.1):G:=h ⟨k⟩
theorem zw (k:G') (h:Hid G'→G:=by intro zk0;refine KL.v rfl (Val.loadP rfl rfl (jJ.cell ju rfl)) ?_;exact zk0.1):G:=h ⟨k⟩
theorem zx (k:G') (h:Hid G'→G:=by intro zk0;refine KL.v rfl (Val.pickF rfl rfl rfl) ?_;exact zk0.1):G:=h ⟨k⟩
theorem zbe (k:G') (h:Hid G'→G:=by intro zk0;refine KL.e rfl (Eff.alloc rfl) ?_;rintro _ _ ⟨v0,rfl,rfl⟩;revert v0;exact zk0.1):G:=h ⟨k⟩
theorem zaq (k:G') (h:Hid G'→G:=by intro zk0;refine KL.eN (Eff.storeL rfl rfl jdR rfl ju jeQ) ?_;rintro _ _ rfl;exact zk0.1):G:=h ⟨k⟩
theorem za5 (k:G') (h:Hid G'→G:=by intro zk0;refine KL.v rfl (Val.makeFunc jar jar) ?_;exact zk0.1):G:=h ⟨k⟩
theorem zJ (k:G') (h:Hid G'→G:=by intro zk0;refine byCodeD ?_;exact zk0.1):G:=h ⟨k⟩
theorem zaC (k:G') (h:Hid G'→G:=by intro zk0;(first|refine KD.v0 rfl rfl (Val.loadP rfl rfl jer) ?_|refine KD.v0 rfl rfl (Val.loadP rfl rfl (jJ.more (by assumption) ja)) ?_);exact zk0.1):G:=h ⟨k⟩
theorem zrY (k:G') (h:Hid G'→G:=by intro zk0;(first|refine KD.v0 rfl rfl (Val.idxSl rfl rfl rfl jab rfl jO) ?_|refine KD.v0 rfl rfl (Val.idxSlZ rfl rfl rfl jab rfl (by omega)) ?_|refine KD.v0 rfl rfl (Val.indexS1 rfl rfl rfl rfl (by omega)) ?_|refine KD.v0 rfl rfl (Val.indexS rfl rfl rfl rfl (by omega)) ?_|refine KD.v0 rfl rfl (Val.indexSO rfl rfl rfl rfl (by omega)) ?_|refine KD.v0 rfl rfl (Val.indexSG rfl rfl rfl rfl (by omega)) ?_);exact zk0.1):G:=h ⟨k⟩
theorem znY (k:G') (h:Hid G'→G:=by intro zk0;refine KD.v0 rfl rfl (Val.extract rfl rfl) ?_;exact zk0.1):G:=h ⟨k⟩
theorem zp8 (k:G') (h:Hid G'→G:=by intro zk0;refine KD.v1 rfl rfl (Val.extract rfl rfl) ?_;exact zk0.1):G:=h ⟨k⟩
theorem zkt (k:G') (h:Hid G'→G:=by intro zk0;refine KD.eN rfl (Eff.storeL rfl rfl jdR rfl ju jeQ) ?_;rintro _ _ rfl;exact zk0.1):G:=h ⟨k⟩
theorem zcp (k:G') (h:Hid G'→G:=by intro zk0;refine⟨ja,?_⟩;exact zk0.1):G:=h ⟨k⟩
theorem zfz (k:G') (h:Hid G'→G:=by intro zk0;refine KL.e rfl (Eff.box rfl rfl) ?_;rintro _ _ ⟨v0,rfl,rfl⟩;revert v0;exact zk0.1):G:=h ⟨k⟩
theorem zar (k:G') (h:Hid G'→G:=by intro zk0;refine KL.e rfl (Eff.buildS jdh rfl rfl rfl rfl rfl jdk) ?_;rintro _ _ ⟨v0,rfl,rfl⟩;revert v0;exact zk0.1):G:=h ⟨k⟩
theorem zcq (k:G') (h:Hid G'→G:=by intro zk0;refine KL.v rfl (Val.eqlPN rfl rfl rfl) ?_;exact zk0.1):G:=h ⟨k⟩
theorem zS (k:G') (h:Hid G'→G:=by intro zk0;refine KL.v rfl (Val.nilCheck rfl) ?_;exact zk0.1):G:=h ⟨k⟩
theorem zaz (k:G') (h:Hid G'→G:=by intro zk0;refine KL.v rfl (Val.fieldAddr0 (k:=2) rfl rfl) ?_;exact zk0.1):G:=h ⟨k⟩
theorem zdQ (k:G') (h:Hid G'→G:=by intro zk0;refine KL.v rfl (Val.fieldAddr0 (k:=1) rfl rfl) ?_;exact zk0.1):G:=h ⟨k⟩
theorem zp9 (h:G:=by exact KE.fin je rfl jd (by first|exact ja|(simp only[Jw];exact ja)) ⟨rfl,rfl⟩):G:=h
theorem zeU (k:G') (h:Hid G'→G:=by intro zk0;refine K.region ?_;exact zk0.1):G:=h ⟨k⟩
theorem zqa (h:G:=by exact KE.fin je rfl jd ja ⟨by rw[e];rfl,rfl⟩):G:=h
theorem zbS (k:G') (h:Hid G'→G:=by intro zk0;refine KL.v rfl (Val.isF (Val.geq rfl rfl) jO) ?_;exact zk0.1):G:=h ⟨k⟩
theorem zgN (k:G') (h:Hid G'→G:=by intro zk0;refine KL.skipG rfl rfl rfl ?_;exact zk0.1):G:=h ⟨k⟩
theorem zku (k:G') (h:Hid G'→G:=by intro zk0;(first|refine KL.skipG rfl rfl rfl ?_|refine KL.skipU rfl rfl rfl ?_|(refine KL.yes rfl rfl ?_;refine KL.v rfl (Val.move rfl) ?_));exact zk0.1):G:=h ⟨k⟩
theorem zrZ (k:G') (h:Hid G'→G:=by intro zk0;(first|refine KL.skipG rfl rfl rfl ?_|refine KL.skipU rfl rfl rfl ?_|(refine KL.yes rfl rfl ?_;refine KL.v rfl (Val.loadP rfl rfl jer) ?_)|(refine KL.yes rfl rfl ?_;refine KL.v rfl (Val.loadP rfl rfl (jJ.more (by assumption) ja)) ?_));exact zk0.1):G:=h ⟨k⟩
theorem zr0 (k:G') (h:Hid G'→G:=by intro zk0;(first|(refine KL.v rfl (Val.pickT rfl rfl rfl) ?_)|(refine KL.v rfl (Val.pickF rfl rfl rfl) ?_)|(refine KL.v rfl (Val.pickB rfl rfl rfl) ?_));exact zk0.1):G:=h ⟨k⟩
theorem znZ (k:G') (h:Hid G'→G:=by intro zk0;refine(CallV.fn (rnone_K (jJ.cell ju rfl))).mono ?_;exact zk0.1):G:=h ⟨k⟩
theorem zaR (k:G') (h:Hid G'→G:=by intro zk0;refine KL.nil (KE.next (K.condT rfl ?_));exact zk0.1):G:=h ⟨k⟩
theorem zkv (k:G') (h:Hid G'→G:=by intro zk0;refine K.drawn [] [(0,0),(1,0),(2,0),(3,0),(4,0),(5,0),(6,0),(7,0),(8,0),(9,0),(10,0),(11,0),(12,0),(13,2)] (by rfl) (by rfl) (by kernel_rfl) (by rfl) (by rfl) (by rfl) Part.nil ?_;exact zk0.1):G:=h ⟨k⟩
theorem zhJ (k:G') (h:Hid G'→G:=by intro zk0;refine KD.v0 rfl rfl (Val.nilCheck rfl) ?_;exact zk0.1):G:=h ⟨k⟩
theorem ztH (k:G') (h:Hid G'→G:=by intro zk0;refine KD.v0 rfl rfl (Val.fieldAddr0 (k:=0) rfl rfl) ?_;exact zk0.1):G:=h ⟨k⟩
theorem zan (k:G') (h:Hid G'→G:=by intro zk0;refine KD.v0 rfl rfl (Val.loadP rfl rfl (jJ.cell ju rfl)) ?_;exact zk0.1):G:=h ⟨k⟩
theorem ziX (k:G') (h:Hid G'→G:=by intro zk0;refine KD.v0 rfl rfl (Val.quoN rfl rfl (by grind[qL,qH])) ?_;exact zk0.1):G:=h ⟨k⟩
theorem zcI (k:G') (h:Hid G'→G:=by intro zk0;refine KD.v0 rfl rfl (Val.idxSl rfl rfl rfl (Sli.own jj (by omega) jF) rfl jO) ?_;exact zk0.1):G:=h ⟨k⟩
theorem zfA (k:G') (h:Hid G'→G:=by intro zk0;refine KD.v0 rfl rfl (Val.loadP rfl rfl (jJ.sl0 (Sli.own jj (by omega) jF) (by assumption) rfl)) ?_;exact zk0.1):G:=h ⟨k⟩
theorem zlE (k:G') (h:Hid G'→G:=by intro zk0;refine KD.v0 rfl rfl (Val.remN rfl rfl (by omega)) ?_;exact zk0.1):G:=h ⟨k⟩
theorem zlF (k:G') (h:Hid G'→G:=by intro zk0;refine KD.eN rfl (Eff.stSl0 rfl rfl rfl rfl jj (by omega) (by assumption) rfl rfl) ?_;rintro _ _ rfl;exact zk0.1):G:=h ⟨k⟩
theorem zlG (k:G') (h:Hid G'→G:=by intro zk0;refine KL.nil (KE.next (K.condF rfl ?_));exact zk0.1):G:=h ⟨k⟩
theorem zax (k:G') (h:Hid G'→G:=by intro zk0;refine KL.nil (KE.next (K.condF rfl (K.skip (KE.next ?_))));exact zk0.1):G:=h ⟨k⟩
theorem zhK (k:G') (h:Hid G'→G:=by intro zk0;(first|(refine KL.v rfl (Val.add rfl rfl (by grind[qL,qH])) ?_)|(refine KL.v rfl (Val.addW rfl rfl) ?_));exact zk0.1):G:=h ⟨k⟩
theorem zr1 (k:G') (h:Hid G'→G:=by intro zk0;(first|(refine KL.v rfl (Val.quoN rfl rfl (by grind[qL,qH])) ?_)|(refine KL.v rfl (Val.quo rfl rfl (by omega)) ?_));exact zk0.1):G:=h ⟨k⟩
theorem zbb (k:G') (h:Hid G'→G:=by intro zk0;refine KL.v rfl (Val.build jdh rfl rfl jdk) ?_;exact zk0.1):G:=h ⟨k⟩
theorem zag (k:G') (h:Hid G'→G:=by intro zk0;refine KL.v rfl (Val.notF rfl) ?_;exact zk0.1):G:=h ⟨k⟩
theorem zak (k:G') (h:Hid G'→G:=by intro zk0;refine KL.nil (KE.next (K.condT rfl (K.region ?_)));exact zk0.1):G:=h ⟨k⟩
theorem zcJ (k:G') (h:Hid G'→G:=by intro zk0;refine KL.v rfl (Val.fieldAddr0 (k:=0) rfl rfl) ?_;exact zk0.1):G:=h ⟨k⟩
theorem ziY (k:G') (h:Hid G'→G:=by intro zk0;refine KL.v rfl (Val.and rfl rfl) ?_;exact zk0.1):G:=h ⟨k⟩
theorem zr2 (k:G') (h:Hid G'→G:=by intro zk0;(first|(refine KL.v rfl (Val.conv rfl rfl rfl (by grind[qL,qH])) ?_)|(refine KL.v rfl (Val.convW rfl rfl rfl) ?_));exact zk0.1):G:=h ⟨k⟩
theorem zao (k:G') (h:Hid G'→G:=by intro zk0;refine KL.nil (KE.next (K.condT rfl (K.seq (K.region ?_))));exact zk0.1):G:=h ⟨k⟩
theorem zhL (k:G') (h:Hid G'→G:=by intro zk0;refine KL.v rfl (Val.lenSl rfl rfl (Sli.own jj (by omega) jF)) ?_;exact zk0.1):G:=h ⟨k⟩
theorem zcK (k:G') (h:Hid G'→G:=by intro zk0;refine KL.v rfl (Val.idxSl rfl rfl rfl (Sli.own jj (by assumption) jF) rfl jO) ?_;exact zk0.1):G:=h ⟨k⟩
theorem zn0 (k:G') (h:Hid G'→G:=by intro zk0;refine KL.v rfl (Val.loadP rfl rfl (jJ.sl0 (Sli.own jj (by assumption) jF) (by assumption) rfl)) ?_;exact zk0.1):G:=h ⟨k⟩
theorem zed (k:G') (h:Hid G'→G:=by intro zk0;refine KL.nil (KE.next (K.region ?_));exact zk0.1):G:=h ⟨k⟩
theorem zbl (k:G') (h:Hid G'→G:=by intro zk0;refine KL.v rfl (Val.add rfl rfl (by simp only[qL,qH];omega)) ?_;exact zk0.1):G:=h ⟨k⟩
theorem zee (h:G:=by exact KE.again (k+1) jc ja (by omega) (by omega)):G:=h
theorem zgO (k:G') (h:Hid G'→G:=by intro zk0;refine KL.v rfl (Val.eqlSN rfl rfl rfl) ?_;exact zk0.1):G:=h ⟨k⟩
theorem zaS (k:G') (h:Hid G'→G:=by intro zk0;refine KE.passR ?_;exact zk0.1):G:=h ⟨k⟩
theorem zn1 (h:G:=by exact KE.fin je rfl jd ja ⟨none,rfl,rfl,rfl⟩):G:=h
theorem zn2 (h:G:=by exact KE.fin je rfl jd ja ⟨o',ok',rfl,rfl⟩):G:=h
theorem zr3 (k:G') (h:Hid G'→G:=by intro zk0;refine KD.v1 rfl rfl (Val.nilCheck rfl) ?_;exact zk0.1):G:=h ⟨k⟩
theorem ziZ (k:G') (h:Hid G'→G:=by intro zk0;refine KD.v1 rfl rfl (Val.fieldAddr0 (k:=1) rfl rfl) ?_;exact zk0.1):G:=h ⟨k⟩
theorem zaJ (k:G') (h:Hid G'→G:=by intro zk0;refine KD.v1 rfl rfl (Val.loadP rfl rfl (jJ.cell ju rfl)) ?_;exact zk0.1):G:=h ⟨k⟩
theorem zbT (k:G') (h:Hid G'→G:=by intro zk0;refine KD.v0 rfl rfl (Val.build jdh rfl rfl jdk) ?_;exact zk0.1):G:=h ⟨k⟩
theorem zqb (k:G') (h:Hid G'→G:=by intro zk0;refine⟨(Nat.le_div_iff_mul_le (by omega)).2 (by omega),?_⟩;exact zk0.1):G:=h ⟨k⟩
theorem zi0 (k:G') (h:Hid G'→G:=by intro zk0;refine KL.v rfl (Val.indexA rfl rfl rfl rfl (by omega)) ?_;exact zk0.1):G:=h ⟨k⟩
theorem zaT (k:G') (h:Hid G'→G:=by intro zk0;refine KL.v rfl (Val.conv rfl rfl rfl (by grind[qL,qH])) ?_;exact zk0.1):G:=h ⟨k⟩
theorem zhM (k:G') (h:Hid G'→G:=by intro zk0;(first|(refine KL.v rfl (Val.loadP rfl rfl jer) ?_)|(refine KL.v rfl (Val.loadP rfl rfl (jJ.more (by assumption) ja)) ?_));exact zk0.1):G:=h ⟨k⟩
theorem zlH (k:G') (h:Hid G'→G:=by intro zk0;(first|(refine KL.v rfl (Val.remN rfl rfl (by omega)) ?_)|(refine KL.v rfl (Val.rem rfl rfl (by omega)) ?_));exact zk0.1):G:=h ⟨k⟩
theorem zkw (k:G') (h:Hid G'→G:=by intro zk0;refine KL.v rfl (Val.shl rfl rfl (by omega)) ?_;exact zk0.1):G:=h ⟨k⟩
theorem zdo (k:G') (h:Hid G'→G:=by intro zk0;refine K.seq (K.seq (K.region ?_));exact zk0.1):G:=h ⟨k⟩
theorem zi1 (k:G') (h:Hid G'→G:=by intro zk0;refine KD.v0 rfl rfl (Val.notF rfl) ?_;exact zk0.1):G:=h ⟨k⟩
theorem zef (k:G') (h:Hid G'→G:=by intro zk0;refine KE.blkR ?_;exact zk0.1):G:=h ⟨k⟩
theorem zkx (h:G:=by exact KE.meet () jc ja trivial):G:=h
theorem za6 (k:G') (h:Hid G'→G:=by intro zk0;refine KL.nil (KE.next (K.condF rfl (K.skip (KE.next (K.seq (K.seq (K.region ?_)))))));exact zk0.1):G:=h ⟨k⟩
theorem zqc (k:G') (h:Hid G'→G:=by intro zk0;refine hyl _ _ _ _ _ (ParS.cons rfl (ParS.cons rfl ParS.nil)) ju ?_;exact zk0.1):G:=h ⟨k⟩
theorem zO (k:G') (h:Hid G'→G:=by intro zk0;refine KL.v rfl (Val.isT (Val.eql rfl rfl) jO) ?_;exact zk0.1):G:=h ⟨k⟩
theorem zr4 (k:G') (h:Hid G'→G:=by intro zk0;refine KE.part ((l, .loop (rc .busy none))::([(D, .deferred (some [])),(b7,cells [.bool false] 4),(b6,cells [.int .i64 0] 3),(b3,cells [.pointer (some ⟨r.b,0,none⟩)] 129)]++(frM bi br bt k v r.b++(jN r++F)))) (by simp only[List.cons_append,List.nil_append];exact ja) ?_;exact zk0.1):G:=h ⟨k⟩
theorem zhN (k:G') (h:Hid G'→G:=by intro zk0;refine KL.v rfl (Val.isF (Val.leq rfl rfl) jO) ?_;exact zk0.1):G:=h ⟨k⟩
theorem zky (k:G') (h:Hid G'→G:=by intro zk0;refine KL.v rfl (Val.loadAP rfl rfl rfl jgr) ?_;exact zk0.1):G:=h ⟨k⟩
theorem zeV (k:G') (h:Hid G'→G:=by intro zk0;refine KL.eN (Eff.storeAL rfl rfl rfl ju byLay jhx) ?_;rintro _ _ rfl;exact zk0.1):G:=h ⟨k⟩
theorem zau (k:G') (h:Hid G'→G:=by intro zk0;refine KL.v rfl (Val.loadA rfl rfl rfl jfD) ?_;exact zk0.1):G:=h ⟨k⟩
theorem zi2 (k:G') (h:Hid G'→G:=by intro zk0;refine KL.nil (KE.next (K.seq ?_));exact zk0.1):G:=h ⟨k⟩
theorem zqd (k:G') (h:Hid G'→G:=by intro zk0;refine KD.v1 rfl rfl (Val.idxSlZ rfl rfl rfl (Sli.own jj (by omega) jF) rfl (by omega)) ?_;exact zk0.1):G:=h ⟨k⟩
theorem zlI (k:G') (h:Hid G'→G:=by intro zk0;refine KD.v1 rfl rfl (Val.loadP rfl rfl (jJ.sl0 (Sli.own jj (by omega) jF) (by assumption) rfl)) ?_;exact zk0.1):G:=h ⟨k⟩
theorem zhO (k:G') (h:Hid G'→G:=by intro zk0;refine KD.v1 rfl rfl (Val.conv rfl rfl rfl (by grind[qL,qH])) ?_;exact zk0.1):G:=h ⟨k⟩
theorem ztI (k:G') (h:Hid G'→G:=by intro zk0;refine KD.e rfl rfl (Eff.alloc rfl) ?_;rintro _ _ ⟨v0,rfl,rfl⟩;revert v0;exact zk0.1):G:=h ⟨k⟩
theorem zlJ (k:G') (h:Hid G'→G:=by intro zk0;refine KD.eN rfl (Eff.storeAL rfl rfl rfl ju byLay jhx) ?_;rintro _ _ rfl;exact zk0.1):G:=h ⟨k⟩
theorem zlK (k:G') (h:Hid G'→G:=by intro zk0;refine KL.v rfl (Val.idxSlZ rfl rfl rfl (Sli.own jj (by omega) jF) rfl (by omega)) ?_;exact zk0.1):G:=h ⟨k⟩
theorem zdp (k:G') (h:Hid G'→G:=by intro zk0;refine KL.v rfl (Val.loadP rfl rfl (jJ.sl0 (Sli.own jj (by omega) jF) (by assumption) rfl)) ?_;exact zk0.1):G:=h ⟨k⟩
theorem zM (k:G') (h:Hid G'→G:=by intro zk0;refine KL.v rfl (Val.isT (Val.neq rfl rfl) jO) ?_;exact zk0.1):G:=h ⟨k⟩
theorem zeW (h:G:=by exact KE.fin je rfl jd ja ⟨by rw[hc];rfl,rfl⟩):G:=h
theorem zaG (k:G') (h:Hid G'→G:=by intro zk0;refine KL.v rfl (Val.isT (Val.gtr rfl rfl) jO) ?_;exact zk0.1):G:=h ⟨k⟩
theorem zn3 (k:G') (h:Hid G'→G:=by intro zk0;refine KL.v rfl (Val.sub rfl rfl (by simp only[qL,qH];omega)) ?_;exact zk0.1):G:=h ⟨k⟩
theorem zn4 (k:G') (h:Hid G'→G:=by intro zk0;refine KL.v rfl (Val.idxSlZ rfl rfl rfl jab rfl (by omega)) ?_;exact zk0.1):G:=h ⟨k⟩
theorem zkz (k:G') (h:Hid G'→G:=by intro zk0;refine KL.nil (KE.next (K.condT rfl (K.skip (KE.next (K.seq (K.block (K.seq ?_)))))));exact zk0.1):G:=h ⟨k⟩
theorem zqe (k:G') (h:Hid G'→G:=by intro zk0;refine K.drawn [] [(0,0),(1,0),(2,0),(3,0),(4,0),(5,0),(6,0),(7,0),(8,0),(9,0),(10,0),(11,0),(12,0),(13,0),(14,0),(15,0),(16,0),(17,0),(18,0),(19,0),(20,0),(21,0),(22,0)] (by kernel_rfl) (by kernel_rfl) (by kernel_rfl) (by kernel_rfl) (by kernel_rfl) (by kernel_rfl) Part.nil ?_;exact zk0.1):G:=h ⟨k⟩
theorem zn5 (k:G') (h:Hid G'→G:=by intro zk0;refine KD.v0 rfl rfl (Val.add rfl rfl (by simp only[qL,qH];omega)) ?_;exact zk0.1):G:=h ⟨k⟩
theorem zqf (k:G') (h:Hid G'→G:=by intro zk0;refine KD.v0 rfl rfl (Val.idxSlZ rfl rfl rfl jab rfl (by omega)) ?_;exact zk0.1):G:=h ⟨k⟩
theorem zi3 (k:G') (h:Hid G'→G:=by intro zk0;refine KD.v0 rfl rfl (Val.loadP rfl rfl jer) ?_;exact zk0.1):G:=h ⟨k⟩
theorem zfB (k:G') (h:Hid G'→G:=by intro zk0;refine KD.v0 rfl rfl (Val.idxSl rfl rfl rfl jab rfl jO) ?_;exact zk0.1):G:=h ⟨k⟩
theorem zlL (k:G') (h:Hid G'→G:=by intro zk0;refine KD.v0 rfl rfl (Val.isT (Val.lss rfl rfl) jO) ?_;exact zk0.1):G:=h ⟨k⟩
theorem zeg (k:G') (h:Hid G'→G:=by intro zk0;refine KD.no rfl rfl rfl rfl rfl ?_;exact zk0.1):G:=h ⟨k⟩
theorem zbD (k:G') (h:Hid G'→G:=by intro zk0;refine KD.v0 rfl rfl (Val.pickT rfl rfl rfl) ?_;exact zk0.1):G:=h ⟨k⟩
theorem zhP (k:G') (h:Hid G'→G:=by intro zk0;refine KE.next (K.condT rfl (K.seq (K.region ?_)));exact zk0.1):G:=h ⟨k⟩
theorem zdq (h:G:=by exact KE.fin je rfl jd ja ⟨by rw[hf];rfl,rfl⟩):G:=h
theorem zn6 (k:G') (h:Hid G'→G:=by intro zk0;refine KD.v0 rfl rfl (Val.isF (Val.lss rfl rfl) jO) ?_;exact zk0.1):G:=h ⟨k⟩
theorem zca (k:G') (h:Hid G'→G:=by intro zk0;refine KD.y0 rfl rfl rfl rfl (Val.move rfl) ?_;exact zk0.1):G:=h ⟨k⟩
theorem zn7 (k:G') (h:Hid G'→G:=by intro zk0;refine KD.y0 rfl rfl rfl rfl (Val.add rfl rfl (by simp only[qL,qH];omega)) ?_;exact zk0.1):G:=h ⟨k⟩
theorem ztJ (k:G') (h:Hid G'→G:=by intro zk0;refine KD.y0 rfl rfl rfl rfl (Val.idxSlZ rfl rfl rfl jab rfl (by omega)) ?_;exact zk0.1):G:=h ⟨k⟩
theorem zr5 (k:G') (h:Hid G'→G:=by intro zk0;refine KD.y0 rfl rfl rfl rfl (Val.loadP rfl rfl jer) ?_;exact zk0.1):G:=h ⟨k⟩
theorem zn8 (k:G') (h:Hid G'→G:=by intro zk0;refine KD.y0 rfl rfl rfl rfl (Val.isT (Val.gtr rfl rfl) jO) ?_;exact zk0.1):G:=h ⟨k⟩
theorem zcr (k:G') (h:Hid G'→G:=by intro zk0;refine KD.v0 rfl rfl (Val.pickF rfl rfl rfl) ?_;exact zk0.1):G:=h ⟨k⟩
theorem zlM (k:G') (h:Hid G'→G:=by intro zk0;refine KD.y0 rfl rfl rfl rfl (Val.isF (Val.gtr rfl rfl) jO) ?_;exact zk0.1):G:=h ⟨k⟩
theorem zfC (k:G') (h:Hid G'→G:=by intro zk0;refine KE.next (K.condF rfl (K.skip ?_));exact zk0.1):G:=h ⟨k⟩
theorem zdr (k:G') (h:Hid G'→G:=by intro zk0;refine KL.v rfl (Val.conv rfl rfl rfl (by simp only[qL,qH];omega)) ?_;exact zk0.1):G:=h ⟨k⟩
theorem zkA (k:G') (h:Hid G'→G:=by intro zk0;refine KL.nil (KE.next (K.condF rfl (K.region ?_)));exact zk0.1):G:=h ⟨k⟩
theorem zkB (k:G') (h:Hid G'→G:=by intro zk0;refine KL.nil (KE.next (K.condT rfl (K.skip (KE.next (K.seq (K.block (K.region ?_)))))));exact zk0.1):G:=h ⟨k⟩
theorem zbU (k:G') (h:Hid G'→G:=by intro zk0;refine KL.v rfl (Val.fieldAddr0 (k:=3) rfl rfl) ?_;exact zk0.1):G:=h ⟨k⟩
theorem zds (k:G') (h:Hid G'→G:=by intro zk0;refine KL.v rfl (Val.fieldAddr0 (k:=4) rfl rfl) ?_;exact zk0.1):G:=h ⟨k⟩
theorem zc2 (k:G') (h:Hid G'→G:=by intro zk0;refine KL.v rfl (Val.fieldAddr0 (k:=5) rfl rfl) ?_;exact zk0.1):G:=h ⟨k⟩
theorem zkC (k:G') (h:Hid G'→G:=by intro zk0;refine(CallV.fn (hc0 _ ja)).mono ?_;exact zk0.1):G:=h ⟨k⟩
theorem zfD (h:G:=by exact KE.fin je rfl jd ja ⟨by rw[he];rfl,rfl⟩):G:=h
theorem zlN (k:G') (h:Hid G'→G:=by intro zk0;refine K.drawn [] [(0,0),(1,0),(2,0),(3,0),(4,0),(5,0),(6,0),(7,0),(8,0),(9,0),(10,0),(11,0),(12,0),(13,0),(14,0),(15,0),(16,0),(17,0),(18,0),(19,0),(20,0),(21,0),(22,0),(23,0),(24,0),(25,0),(26,0),(27,0)] (by kernel_rfl) (by kernel_rfl) (by kernel_rfl) (by kernel_rfl) (by kernel_rfl) (by kernel_rfl) Part.nil ?_;exact zk0.1):G:=h ⟨k⟩
theorem zqg (k:G') (h:Hid G'→G:=by intro zk0;refine KD.noU rfl rfl rfl rfl rfl ?_;exact zk0.1):G:=h ⟨k⟩
theorem ztK (k:G') (h:Hid G'→G:=by intro zk0;refine KD.y0 rfl rfl rfl rfl (Val.idxSl rfl rfl rfl jab rfl jO) ?_;exact zk0.1):G:=h ⟨k⟩
theorem zi4 (k:G') (h:Hid G'→G:=by intro zk0;refine KD.y0 rfl rfl rfl rfl (Val.pickT rfl rfl rfl) ?_;exact zk0.1):G:=h ⟨k⟩
theorem zr6 (h:G:=by exact KE.again ⟨k+1,x⟩ jc ja ⟨by show k+1≤_;omega,hr,fun h=>absurd h (by simp),fun _=>hx,by show x≤64;omega⟩ (by show l.length-(k+1)<l.length-k;omega)):G:=h
theorem zlO (k:G') (h:Hid G'→G:=by intro zk0;refine KD.y0 rfl rfl rfl rfl (Val.pickF rfl rfl rfl) ?_;exact zk0.1):G:=h ⟨k⟩
theorem zfE (k:G') (h:Hid G'→G:=by intro zk0;refine(CallV.fn rfrom_K).mono ?_;exact zk0.1):G:=h ⟨k⟩
theorem zfF (k:G') (h:Hid G'→G:=by intro zk0;refine KL.nil (KE.next (K.condT rfl (K.skip (KE.next (K.seq (K.block (K.seq (K.region ?_))))))));exact zk0.1):G:=h ⟨k⟩
theorem zhQ (k:G') (h:Hid G'→G:=by intro zk0;refine jp (hc0 _ ja) ?_;exact zk0.1):G:=h ⟨k⟩
theorem zn9 (k:G') (h:Hid G'→G:=by intro zk0;refine K.drawn [] [(0,0),(1,0),(2,0),(3,0),(4,0),(5,0),(6,0),(7,0),(8,0),(9,0),(10,0),(11,0),(12,0),(13,0)] (by rfl) (by rfl) (by kernel_rfl) (by rfl) (by rfl) (by rfl) Part.nil ?_;exact zk0.1):G:=h ⟨k⟩
theorem zkD (k:G') (h:Hid G'→G:=by intro zk0;refine KD.v0 rfl rfl (Val.fieldAddr0 (k:=2) rfl rfl) ?_;exact zk0.1):G:=h ⟨k⟩
theorem zqh (k:G') (h:Hid G'→G:=by intro zk0;refine KD.v0 rfl rfl (Val.fieldSl (k:=0) rfl rfl) ?_;exact zk0.1):G:=h ⟨k⟩
theorem zkE (k:G') (h:Hid G'→G:=by intro zk0;refine K.drawn [] [(0,0),(1,0),(2,0),(3,0),(4,0),(5,0),(6,0),(7,0),(8,0)] (by rfl) (by rfl) (by kernel_rfl) (by rfl) (by rfl) (by rfl) Part.nil ?_;exact zk0.1):G:=h ⟨k⟩
theorem zlP (k:G') (h:Hid G'→G:=by intro zk0;refine KD.v0 rfl rfl (Val.fieldAddr0 (k:=1) rfl rfl) ?_;exact zk0.1):G:=h ⟨k⟩
theorem zr7 (k:G') (h:Hid G'→G:=by intro zk0;refine K.loopT (σ:=SmS) [(1,_),(8,_)] (fun s kp_=>(9, .int .i64 (s.k:Nat))::(5, .int .i64 (Jq f s.k))::kp_) (fun s=>H) (fun s=>s.k≤l.length) (fun s=>l.length-s.k) (⟨0⟩) jc ja ((by simp)) ?_;exact zk0.1):G:=h ⟨k⟩
theorem zoa (h:G:=by exact KE.again ⟨k+1⟩ jc ja (by grind) (by grind)):G:=h
theorem zeX (h:G:=by exact KE.fin je rfl jd (by first|exact ja|(simp only[Jw,jaf,Jm];exact ja)) ⟨rfl,rfl⟩):G:=h
theorem zi5 (k:G') (h:Hid G'→G:=by intro zk0;refine jp (jle ok) ?_;exact zk0.1):G:=h ⟨k⟩
theorem zr8 (k:G') (h:Hid G'→G:=by intro zk0;refine KD.v0 rfl rfl (Val.fieldAddr0 (k:=3) rfl rfl) ?_;exact zk0.1):G:=h ⟨k⟩
theorem zlQ (k:G') (h:Hid G'→G:=by intro zk0;refine KD.v0 rfl rfl (Val.mul rfl rfl (by grind[qL,qH])) ?_;exact zk0.1):G:=h ⟨k⟩
theorem zhR (k:G') (h:Hid G'→G:=by intro zk0;refine KD.v0 rfl rfl (Val.loadAP rfl rfl rfl jgr) ?_;exact zk0.1):G:=h ⟨k⟩
theorem zob (k:G') (h:Hid G'→G:=by intro zk0;refine KL.nil (KE.next (K.condF rfl (K.seq ?_)));exact zk0.1):G:=h ⟨k⟩
theorem zhS (k:G') (h:Hid G'→G:=by intro zk0;refine K.drawn [] [(0,0),(1,0),(2,0),(3,0),(4,0),(5,0),(6,0),(7,0),(8,0),(9,0),(10,0)] (by rfl) (by rfl) (by kernel_rfl) (by rfl) (by rfl) (by rfl) Part.nil ?_;exact zk0.1):G:=h ⟨k⟩
theorem zbV (k:G') (h:Hid G'→G:=by intro zk0;refine KD.y0 rfl rfl rfl rfl (Val.loadP rfl rfl (jJ.cell ju rfl)) ?_;exact zk0.1):G:=h ⟨k⟩
theorem zqi (k:G') (h:Hid G'→G:=by intro zk0;refine KD.y0 rfl rfl rfl rfl (Val.nilCheck rfl) ?_;exact zk0.1):G:=h ⟨k⟩
theorem zqj (k:G') (h:Hid G'→G:=by intro zk0;refine KD.y0 rfl rfl rfl rfl (Val.fieldAddr0 (k:=1) rfl rfl) ?_;exact zk0.1):G:=h ⟨k⟩
theorem zlR (k:G') (h:Hid G'→G:=by intro zk0;refine KD.v0 rfl rfl (Val.loadP rfl rfl (jJ.sl (Sli.own jj (by omega) jF) (by assumption) rfl)) ?_;exact zk0.1):G:=h ⟨k⟩
theorem zkF (k:G') (h:Hid G'→G:=by intro zk0;refine KD.v0 rfl rfl (Val.sub rfl rfl (by grind[qL,qH])) ?_;exact zk0.1):G:=h ⟨k⟩
theorem zcs (k:G') (h:Hid G'→G:=by intro zk0;(first|(refine KL.v rfl (Val.conv rfl rfl rfl (by simp only[qL,qH];omega)) ?_)|(refine KL.v rfl (Val.convW rfl rfl rfl) ?_));exact zk0.1):G:=h ⟨k⟩
theorem zct (k:G') (h:Hid G'→G:=by intro zk0;refine KL.v rfl (Val.lenSl rfl rfl (Sli.own jj (by assumption) jF)) ?_;exact zk0.1):G:=h ⟨k⟩
theorem zcu (h:G:=by exact KE.fin je rfl jd (by first|exact ja|(simp only[Jr];exact ja)) ⟨rfl,rfl⟩):G:=h
theorem zgP (k:G') (h:Hid G'→G:=by intro zk0;refine KE.next (K.condF rfl (K.skip (KE.next (K.seq (K.region ?_)))));exact zk0.1):G:=h ⟨k⟩
theorem zr9 (h:G:=by exact KE.fin je rfl jd (by first|exact ja|(simp only[Jw,jaf];exact ja)) ⟨rfl,rfl⟩):G:=h
theorem zsa (k:G') (h:Hid G'→G:=by intro zk0;refine K.drawn [] [(0,0),(1,0),(2,0),(3,0),(4,0),(5,0),(6,0),(7,0),(8,0),(9,0),(10,0),(11,0),(12,0),(13,0),(14,0),(15,0),(16,0),(17,0),(18,0),(19,0),(20,0)] (by rfl) (by rfl) (by kernel_rfl) (by rfl) (by rfl) (by rfl) Part.nil ?_;exact zk0.1):G:=h ⟨k⟩
theorem zdt (k:G') (h:Hid G'→G:=by intro zk0;refine KD.v0 rfl rfl (Val.add rfl rfl (by grind[qL,qH])) ?_;exact zk0.1):G:=h ⟨k⟩
theorem zlS (k:G') (h:Hid G'→G:=by intro zk0;refine KL.v rfl (Val.sliceLH rfl rfl rfl rfl jab rfl jO jO) ?_;exact zk0.1):G:=h ⟨k⟩
theorem zcb (k:G') (h:Hid G'→G:=by intro zk0;(first|refine KD.v1 rfl rfl (Val.loadP rfl rfl jer) ?_|refine KD.v1 rfl rfl (Val.loadP rfl rfl (jJ.more (by assumption) ja)) ?_);exact zk0.1):G:=h ⟨k⟩
theorem zcc (k:G') (h:Hid G'→G:=by intro zk0;refine KL.v rfl (Val.idxSl rfl rfl rfl (Sli.own jj (by omega) jF) rfl jO) ?_;exact zk0.1):G:=h ⟨k⟩
theorem zi6 (k:G') (h:Hid G'→G:=by intro zk0;refine KL.v rfl (Val.fieldSl (k:=0) rfl rfl) ?_;exact zk0.1):G:=h ⟨k⟩
theorem zsb (k:G') (h:Hid G'→G:=by intro zk0;refine KD.v0 rfl rfl (Val.fieldAddr0 (k:=4) rfl rfl) ?_;exact zk0.1):G:=h ⟨k⟩
theorem zgQ (h:G:=by exact KE.fin je rfl jd (by first|exact ja|(simp only[Jw,Jm,jaf,jbn];exact ja)) ⟨rfl,rfl⟩):G:=h
theorem zoc (k:G') (h:Hid G'→G:=by intro zk0;refine Call.enter4 (n:=40) (by rfl) Tryz.func169 rfl rfl rfl ?_;exact zk0.1):G:=h ⟨k⟩
theorem ztL (k:G') (h:Hid G'→G:=by intro zk0;refine jp (hneed _) ?_;exact zk0.1):G:=h ⟨k⟩
theorem zod (k:G') (h:Hid G'→G:=by intro zk0;refine(CallV.part (CallV.fn (Class0_K okp hy)) (by simp only[Jm,jaf];exact ja)).mono ?_;exact zk0.1):G:=h ⟨k⟩
theorem zi7 (k:G') (h:Hid G'→G:=by intro zk0;refine jn (place_K ok hy) ja ?_;exact zk0.1):G:=h ⟨k⟩
theorem zlT (k:G') (h:Hid G'→G:=by intro zk0;refine K.seq (K.seq ?_);exact zk0.1):G:=h ⟨k⟩
theorem zsc (k:G') (h:Hid G'→G:=by intro zk0;refine K.drawn [] [(0,0),(1,0),(2,0),(3,0),(4,0),(5,0),(6,0),(7,0),(8,0),(9,0),(10,0),(11,0)] (by kernel_rfl) (by kernel_rfl) (by kernel_rfl) (by kernel_rfl) (by kernel_rfl) (by kernel_rfl) Part.nil ?_;exact zk0.1):G:=h ⟨k⟩
theorem zgR (k:G') (h:Hid G'→G:=by intro zk0;refine KL.v rfl (Val.mul rfl rfl (by grind[qL,qH])) ?_;exact zk0.1):G:=h ⟨k⟩
theorem zkG (h:G:=by exact KE.fin je rfl jd (by first|exact ja|(simp only[jbc];exact ja)) ⟨rfl,rfl⟩):G:=h
theorem zqk (k:G') (h:Hid G'→G:=by intro zk0;refine Call.enter2 (n:=21) (by rfl) Tryz.func230 rfl rfl rfl ?_;exact zk0.1):G:=h ⟨k⟩
theorem zeh (k:G') (h:Hid G'→G:=by intro zk0;refine KL.nil (KE.next (K.block (K.seq (K.region ?_))));exact zk0.1):G:=h ⟨k⟩
theorem zlU (h:G:=by exact KE.fin je rfl jd (by first|exact ja|(simp only[JQ];exact ja)) ⟨rfl,rfl⟩):G:=h
theorem zhT (k:G') (h:Hid G'→G:=by intro zk0;refine KL.v rfl (Val.fieldAddr0 (k:=6) rfl rfl) ?_;exact zk0.1):G:=h ⟨k⟩
theorem zc3 (k:G') (h:Hid G'→G:=by intro zk0;refine KL.v rfl (Val.fieldAddr0 (k:=7) rfl rfl) ?_;exact zk0.1):G:=h ⟨k⟩
theorem zlV (h:G:=by exact KE.fin je rfl jd (by first|exact ja|(simp only[jbP];exact ja)) ⟨rfl,rfl⟩):G:=h
theorem zkH (k:G') (h:Hid G'→G:=by intro zk0;refine jp (pinone_K (q:=q)) ?_;exact zk0.1):G:=h ⟨k⟩
theorem zoe (h:G:=by exact KE.fin je rfl jd (by first|exact ja|(simp only[js];exact ja)) ⟨rfl,rfl⟩):G:=h
theorem zc4 (k:G') (h:Hid G'→G:=by intro zk0;refine KL.v rfl (Val.fieldAddr0 (k:=8) rfl rfl) ?_;exact zk0.1):G:=h ⟨k⟩
theorem zbE (k:G') (h:Hid G'→G:=by intro zk0;refine KL.v rfl (Val.fieldAddr0 (k:=9) rfl rfl) ?_;exact zk0.1):G:=h ⟨k⟩
theorem zi8 (k:G') (h:Hid G'→G:=by intro zk0;refine KL.v rfl (Val.neqB rfl rfl rfl) ?_;exact zk0.1):G:=h ⟨k⟩
theorem zlW (k:G') (h:Hid G'→G:=by intro zk0;refine K.drawn [] [(0,0),(1,0),(2,0),(3,0),(4,0),(5,0),(6,0),(7,0),(8,0),(9,0),(10,2)] (by rfl) (by rfl) (by kernel_rfl) (by rfl) (by rfl) (by rfl) Part.nil ?_;exact zk0.1):G:=h ⟨k⟩
theorem zof (k:G') (h:Hid G'→G:=by intro zk0;refine Call.enter3 (n:=27) (by rfl) Tryz.func301 rfl rfl rfl ?_;exact zk0.1):G:=h ⟨k⟩
theorem zql (k:G') (h:Hid G'→G:=by intro zk0;refine CallV.clo (cap:=[.pointer (some ⟨b2,0,none⟩)]) ?_;exact zk0.1):G:=h ⟨k⟩
theorem zfG (k:G') (h:Hid G'→G:=by intro zk0;refine jn (jeI okp) ja ?_;exact zk0.1):G:=h ⟨k⟩
theorem zqm (k:G') (h:Hid G'→G:=by intro zk0;(first|(refine KL.v rfl (Val.add rfl rfl (by simp only[qL,qH];omega)) ?_)|(refine KL.v rfl (Val.addW rfl rfl) ?_));exact zk0.1):G:=h ⟨k⟩
theorem zqn (h:G:=by exact KE.fin je rfl jd (by first|exact ja|(simp only[Jm];exact ja)) ⟨rfl,rfl⟩):G:=h
theorem zkI (k:G') (h:Hid G'→G:=by intro zk0;refine KD.v1 rfl rfl (Val.fieldAddr0 (k:=0) rfl rfl) ?_;exact zk0.1):G:=h ⟨k⟩
theorem zlX (k:G') (h:Hid G'→G:=by intro zk0;refine KD.v0 rfl rfl (Val.makeFunc jar jar) ?_;exact zk0.1):G:=h ⟨k⟩
theorem zlY (k:G') (h:Hid G'→G:=by intro zk0;refine KD.v0 rfl rfl (Val.loadA rfl rfl rfl jfD) ?_;exact zk0.1):G:=h ⟨k⟩
theorem zog (h:G:=by exact KE.finN je rfl jd ja ⟨rfl,rfl⟩):G:=h
theorem zkJ (k:G') (h:Hid G'→G:=by intro zk0;refine jn (jf3 ok) ja ?_;exact zk0.1):G:=h ⟨k⟩
theorem zfI (k:G') (h:Hid G'→G:=by intro zk0;refine KD.v0 rfl rfl (Val.fieldAddr0 (k:=5) rfl rfl) ?_;exact zk0.1):G:=h ⟨k⟩
theorem zoh (k:G') (h:Hid G'→G:=by intro zk0;refine KD.v0 rfl rfl (Val.lenSl rfl rfl (Sli.own jj (by omega) jF)) ?_;exact zk0.1):G:=h ⟨k⟩
theorem zkK (k:G') (h:Hid G'→G:=by intro zk0;refine KD.v0 rfl rfl (Val.isT (Val.eql rfl rfl) jO) ?_;exact zk0.1):G:=h ⟨k⟩
theorem zkL (k:G') (h:Hid G'→G:=by intro zk0;refine KD.v0 rfl rfl (Val.isF (Val.eql rfl rfl) jO) ?_;exact zk0.1):G:=h ⟨k⟩
theorem zsd (k:G') (h:Hid G'→G:=by intro zk0;refine K.drawn [] [(0,0),(1,0),(2,0),(3,0),(4,0),(5,0),(6,0),(7,0),(8,0)] (by kernel_rfl) (by kernel_rfl) (by kernel_rfl) (by kernel_rfl) (by kernel_rfl) (by kernel_rfl) Part.nil ?_;exact zk0.1):G:=h ⟨k⟩
theorem ztM (k:G') (h:Hid G'→G:=by intro zk0;refine KD.v0 rfl rfl (Val.fieldAddr0 (k:=7) rfl rfl) ?_;exact zk0.1):G:=h ⟨k⟩
theorem zqo (k:G') (h:Hid G'→G:=by intro zk0;refine Call.enter1 (n:=28) (by rfl) Tryz.func232 rfl rfl rfl ?_;exact zk0.1):G:=h ⟨k⟩
theorem zqp (k:G') (h:Hid G'→G:=by intro zk0;refine K.drawn [] [(0,0),(1,2),(2,0),(3,0),(4,0),(5,0),(6,0),(7,0),(8,0),(9,0),(10,0),(11,0),(12,0),(13,0),(14,0),(15,0),(16,0),(17,0),(18,0),(19,0),(20,0),(21,2),(22,0),(23,0),(24,0),(25,0)] (by rfl) (by rfl) (by kernel_rfl) (by rfl) (by rfl) (by rfl) Part.nil ?_;exact zk0.1):G:=h ⟨k⟩
theorem zoi (k:G') (h:Hid G'→G:=by intro zk0;refine KD.y0 rfl rfl rfl rfl (Val.fieldAddr0 (k:=5) rfl rfl) ?_;exact zk0.1):G:=h ⟨k⟩
theorem zlZ (k:G') (h:Hid G'→G:=by intro zk0;refine KD.y0 rfl rfl rfl rfl (Val.isT (Val.eql rfl rfl) jO) ?_;exact zk0.1):G:=h ⟨k⟩
theorem zl0 (k:G') (h:Hid G'→G:=by intro zk0;refine KD.y0 rfl rfl rfl rfl (Val.fieldAddr0 (k:=6) rfl rfl) ?_;exact zk0.1):G:=h ⟨k⟩
theorem zdR (k:G') (h:Hid G'→G:=by intro zk0;refine KD.callcY rfl rfl rfl rfl rfl jar ?_;exact zk0.1):G:=h ⟨k⟩
theorem zqq (k:G') (h:Hid G'→G:=by intro zk0;refine KD.y0 rfl rfl rfl rfl (Val.isF (Val.eql rfl rfl) jO) ?_;exact zk0.1):G:=h ⟨k⟩
theorem zse (k:G') (h:Hid G'→G:=by intro zk0;refine KD.noA rfl rfl rfl rfl ?_;exact zk0.1):G:=h ⟨k⟩
theorem zfJ (h:G:=by exact .inl (by grind)):G:=h
theorem zoj (k:G') (h:Hid G'→G:=by intro zk0;refine Nat.lt_of_le_of_lt (goes_mes hsl.1) ?_;exact zk0.1):G:=h ⟨k⟩
theorem zqr (k:G') (h:Hid G'→G:=by intro zk0;refine Call.enter3 (n:=33) (by rfl) Tryz.func203 rfl rfl rfl ?_;exact zk0.1):G:=h ⟨k⟩
theorem zqs (k:G') (h:Hid G'→G:=by intro zk0;refine Call.enter4 (n:=40) (by rfl) Tryz.func206 rfl rfl rfl ?_;exact zk0.1):G:=h ⟨k⟩
theorem zqt (k:G') (h:Hid G'→G:=by intro zk0;refine Call.enter2 (n:=28) (by rfl) Tryz.func209 rfl rfl rfl ?_;exact zk0.1):G:=h ⟨k⟩
theorem zsf (k:G') (h:Hid G'→G:=by intro zk0;refine K.drawn [] [(0,0),(1,0),(2,0),(3,0),(4,0),(5,0),(6,0),(7,0),(8,0),(9,0),(10,0),(11,2)] (by rfl) (by rfl) (by kernel_rfl) (by rfl) (by rfl) (by rfl) Part.nil ?_;exact zk0.1):G:=h ⟨k⟩
theorem zkM (k:G') (h:Hid G'→G:=by intro zk0;refine KL.v rfl (Val.sliceH rfl rfl rfl jab rfl jO) ?_;exact zk0.1):G:=h ⟨k⟩
theorem zl1 (h:G:=by exact KE.fin je rfl jd (by first|exact ja|(simp only[sweepH_app];exact ja)) ⟨rfl,rfl⟩):G:=h
theorem zsg (k:G') (h:Hid G'→G:=by intro zk0;refine K.drawn _ [(0,0),(1,2),(2,0),(3,1),(4,1),(5,1),(6,1),(7,0),(8,0),(9,0),(10,0),(11,2),(12,0),(13,0),(14,0)] (by rfl) (by rfl) (by kernel_rfl) (by rfl) (by rfl) (by rfl) Part.all ?_;exact zk0.1):G:=h ⟨k⟩
theorem zok (k:G') (h:Hid G'→G:=by intro zk0;refine KD.y1 rfl rfl rfl rfl (Val.loadP rfl rfl (jJ.cell ju rfl)) ?_;exact zk0.1):G:=h ⟨k⟩
theorem zol (k:G') (h:Hid G'→G:=by intro zk0;refine Call.enter3 (n:=33) (by rfl) Tryz.func271 rfl rfl rfl ?_;exact zk0.1):G:=h ⟨k⟩
theorem zcL (k:G') (h:Hid G'→G:=by intro zk0;refine KD.v0 rfl rfl (Val.indexA rfl rfl rfl rfl (by omega)) ?_;exact zk0.1):G:=h ⟨k⟩
theorem zbW (k:G') (h:Hid G'→G:=by intro zk0;(first|(refine KL.v rfl (Val.nilCheck rfl) ?_)|(refine KL.v rfl (Val.nilCheckF rfl) ?_)|(refine KL.v rfl (Val.nilCheckY rfl) ?_));exact zk0.1):G:=h ⟨k⟩
theorem zom (k:G') (h:Hid G'→G:=by intro zk0;(first|(refine KL.v rfl (Val.fieldSl (k:=0) rfl rfl) ?_)|(refine KL.v rfl (Val.fieldAddr0 (k:=0) rfl rfl) ?_)|(refine KL.v rfl (Val.fieldAddrZ rfl rfl) ?_)|(refine KL.v rfl (Val.fieldAddr (k:=0) rfl rfl) ?_));exact zk0.1):G:=h ⟨k⟩
theorem zi9 (k:G') (h:Hid G'→G:=by intro zk0;refine KD.v0 rfl rfl (Val.loadP rfl rfl (jJ.sl0 (Sli.own jj (by assumption) jF) (by assumption) rfl)) ?_;exact zk0.1):G:=h ⟨k⟩
theorem zon (k:G') (h:Hid G'→G:=by intro zk0;refine KD.y0 rfl rfl rfl rfl (Val.notF rfl) ?_;exact zk0.1):G:=h ⟨k⟩
theorem zqu (k:G') (h:Hid G'→G:=by intro zk0;refine K.drawn [] [(0,0),(1,0),(2,0),(3,0),(4,0),(5,0),(6,0),(7,0),(8,0),(9,0),(10,2),(11,0),(12,0)] (by kernel_rfl) (by kernel_rfl) (by kernel_rfl) (by kernel_rfl) (by kernel_rfl) (by kernel_rfl) Part.nil ?_;exact zk0.1):G:=h ⟨k⟩
theorem zqv (k:G') (h:Hid G'→G:=by intro zk0;refine Call.enter2 (n:=40) (by rfl) Tryz.func285 rfl rfl rfl ?_;exact zk0.1):G:=h ⟨k⟩
theorem zeY (k:G') (h:Hid G'→G:=by intro zk0;refine jn (jkV ok) ja ?_;exact zk0.1):G:=h ⟨k⟩
theorem zoo (k:G') (h:Hid G'→G:=by intro zk0;refine KL.v rfl (Val.loadP rfl rfl (jJ.sl (Sli.own jj (by omega) jF) (by assumption) rfl)) ?_;exact zk0.1):G:=h ⟨k⟩
theorem zop (k:G') (h:Hid G'→G:=by intro zk0;refine Call.enter3 (n:=47) (by rfl) Tryz.func217 rfl rfl rfl ?_;exact zk0.1):G:=h ⟨k⟩
theorem zoq (k:G') (h:Hid G'→G:=by intro zk0;refine KL.v rfl (Val.fieldSl (k:=2) rfl rfl) ?_;exact zk0.1):G:=h ⟨k⟩
theorem zhU (k:G') (h:Hid G'→G:=by intro zk0;refine KE.next (K.seq (K.seq (K.region ?_)));exact zk0.1):G:=h ⟨k⟩
theorem zja (k:G') (h:Hid G'→G:=by intro zk0;(first|(refine KL.v rfl (Val.fieldSl (k:=1) rfl rfl) ?_)|(refine KL.v rfl (Val.fieldAddr0 (k:=1) rfl rfl) ?_)|(refine KL.v rfl (Val.fieldAddrZ rfl rfl) ?_)|(refine KL.v rfl (Val.fieldAddr (k:=1) rfl rfl) ?_));exact zk0.1):G:=h ⟨k⟩
theorem zor (k:G') (h:Hid G'→G:=by intro zk0;refine KD.v0 rfl rfl (Val.fieldSl (k:=2) rfl rfl) ?_;exact zk0.1):G:=h ⟨k⟩
theorem ztN (k:G') (h:Hid G'→G:=by intro zk0;(first|refine KD.v1 rfl rfl (Val.nilCheck rfl) ?_|refine KD.v1 rfl rfl (Val.nilCheckF rfl) ?_|refine KD.v1 rfl rfl (Val.nilCheckY rfl) ?_);exact zk0.1):G:=h ⟨k⟩
theorem ztO (k:G') (h:Hid G'→G:=by intro zk0;(first|refine KD.v1 rfl rfl (Val.fieldSl (k:=0) rfl rfl) ?_|refine KD.v1 rfl rfl (Val.fieldAddr0 (k:=0) rfl rfl) ?_|refine KD.v1 rfl rfl (Val.fieldAddrZ rfl rfl) ?_|refine KD.v1 rfl rfl (Val.fieldAddr (k:=0) rfl rfl) ?_);exact zk0.1):G:=h ⟨k⟩
theorem zbm (k:G') (h:Hid G'→G:=by intro zk0;(first|refine KD.v0 rfl rfl (Val.nilCheck rfl) ?_|refine KD.v0 rfl rfl (Val.nilCheckF rfl) ?_|refine KD.v0 rfl rfl (Val.nilCheckY rfl) ?_);exact zk0.1):G:=h ⟨k⟩
theorem zkN (k:G') (h:Hid G'→G:=by intro zk0;(first|refine KD.v0 rfl rfl (Val.fieldSl (k:=1) rfl rfl) ?_|refine KD.v0 rfl rfl (Val.fieldAddr0 (k:=1) rfl rfl) ?_|refine KD.v0 rfl rfl (Val.fieldAddrZ rfl rfl) ?_|refine KD.v0 rfl rfl (Val.fieldAddr (k:=1) rfl rfl) ?_);exact zk0.1):G:=h ⟨k⟩
theorem zeZ (k:G') (h:Hid G'→G:=by intro zk0;(first|refine KD.v0 rfl rfl (Val.fieldSl (k:=2) rfl rfl) ?_|refine KD.v0 rfl rfl (Val.fieldAddr0 (k:=2) rfl rfl) ?_|refine KD.v0 rfl rfl (Val.fieldAddrZ rfl rfl) ?_|refine KD.v0 rfl rfl (Val.fieldAddr (k:=2) rfl rfl) ?_);exact zk0.1):G:=h ⟨k⟩
theorem zos (k:G') (h:Hid G'→G:=by intro zk0;refine KD.e rfl rfl (Eff.buildS jdh rfl rfl rfl rfl rfl jdk) ?_;rintro _ _ ⟨v0,rfl,rfl⟩;revert v0;exact zk0.1):G:=h ⟨k⟩
theorem zhV (k:G') (h:Hid G'→G:=by intro zk0;(first|refine KD.v0 rfl rfl (Val.fieldSl (k:=0) rfl rfl) ?_|refine KD.v0 rfl rfl (Val.fieldAddr0 (k:=0) rfl rfl) ?_|refine KD.v0 rfl rfl (Val.fieldAddrZ rfl rfl) ?_|refine KD.v0 rfl rfl (Val.fieldAddr (k:=0) rfl rfl) ?_);exact zk0.1):G:=h ⟨k⟩
theorem zsh (k:G') (h:Hid G'→G:=by intro zk0;(first|(refine KD.eNX rfl (Eff.storeL rfl rfl jdR rfl ju jeQ) ?_;rintro _ _ rfl)|(refine KD.eNX rfl (Eff.stSl rfl rfl rfl rfl jj (by assumption) (by assumption) rfl rfl) ?_;rintro _ _ rfl)|(refine KD.eNX rfl (Eff.stSl0 rfl rfl rfl rfl jj (by assumption) (by assumption) rfl rfl) ?_;rintro _ _ rfl));exact zk0.1):G:=h ⟨k⟩
theorem zsi (h:G:=by exact KE.fin je rfl jd (by first|exact ja|(simp only[Jw,Jm,arenaH_app];exact ja)) ⟨rfl,rfl⟩):G:=h
theorem zkO (k:G') (h:Hid G'→G:=by intro zk0;refine KD.v1 rfl rfl (Val.fieldAddr0 (k:=2) rfl rfl) ?_;exact zk0.1):G:=h ⟨k⟩
theorem zqw (h:G:=by exact KE.fin je rfl jd (by first|exact ja|(simp only[Jw,Jm,arenaH_app];exact ja)) ⟨rfl,a,ok,rfl,rfl,rfl,rfl⟩):G:=h
theorem zsj (h:G:=by exact KE.fin je rfl jd (by first|exact ja|(simp only[js,seenH_app];exact ja)) ⟨rfl,rfl⟩):G:=h
theorem zgS (k:G') (h:Hid G'→G:=by intro zk0;refine KL.nil (KE.next (K.seq (K.seq ?_)));exact zk0.1):G:=h ⟨k⟩
theorem zsk (k:G') (h:Hid G'→G:=by intro zk0;refine K.drawn _ [(0,1),(1,1),(2,1),(3,1),(4,0),(5,2),(6,0)] (by kernel_rfl) (by kernel_rfl) (by kernel_rfl) (by kernel_rfl) (by kernel_rfl) (by kernel_rfl) Part.all ?_;exact zk0.1):G:=h ⟨k⟩
theorem zl2 (k:G') (h:Hid G'→G:=by intro zk0;refine KD.v1 rfl rfl (Val.fieldAddr0 (k:=7) rfl rfl) ?_;exact zk0.1):G:=h ⟨k⟩
theorem zot (k:G') (h:Hid G'→G:=by intro zk0;refine(CallV.part (CallV.fn (hroots _)) (by first|exact ja|(simp only[js,seenH_app];exact ja))).mono ?_;exact zk0.1):G:=h ⟨k⟩
theorem zkP (h:G:=by exact KE.fin (H':=jt k B.p++(planH B.p++(seenH B T N++F))) je rfl jd (by first|exact ja|(simp only[js,seenH_app];exact ja)) ⟨rfl,k,ok,MkTo.refl k,hR,by simp only[js,seenH_app]⟩):G:=h
theorem zsl (h:G:=by exact KE.fin je rfl jd (by first|exact ja|(simp only[js,seenH_app];exact ja)) (.inl ⟨hq,rfl,rfl⟩)):G:=h
theorem zl3 (k:G') (h:Hid G'→G:=by intro zk0;refine jn (hac _) ja ?_;exact zk0.1):G:=h ⟨k⟩
theorem zou (k:G') (h:Hid G'→G:=by intro zk0;refine hyl _ _ _ _ _ (ParS.cons rfl ParS.nil) ju ?_;exact zk0.1):G:=h ⟨k⟩
theorem zsm (k:G') (h:Hid G'→G:=by intro zk0;refine K.drawn _ [(0,1),(1,1),(2,1),(3,1),(4,0),(5,2),(6,0),(7,0),(8,0),(9,0),(10,0),(11,0),(12,2),(13,0),(14,2)] (by kernel_rfl) (by kernel_rfl) (by kernel_rfl) (by kernel_rfl) (by kernel_rfl) (by kernel_rfl) (Part.take jI.head (Part.drop Part.all)) ?_;exact zk0.1):G:=h ⟨k⟩
theorem zsn (h:G:=by exact KE.fin (H':=jt k B.p++(planH B.p++(seenH B T N++F))) je rfl jd (by first|exact ja|(simp only[js,seenH_app];exact ja)) ⟨rfl,by simp only[js,seenH_app]⟩):G:=h
theorem zei (h:G:=by exact KE.fin je rfl jd (by first|exact ja|(simp only[cycH_app,seenH_app];exact ja)) ⟨rfl,rfl⟩):G:=h
theorem zov (k:G') (h:Hid G'→G:=by intro zk0;refine Call.enter2 (n:=29) (by rfl) Tryz.func306 rfl rfl rfl ?_;exact zk0.1):G:=h ⟨k⟩
theorem zl4 (k:G') (h:Hid G'→G:=by intro zk0;refine Call.enter1 (n:=41) (by kernel_rfl) Tryz.func145 rfl rfl rfl ?_;exact zk0.1):G:=h ⟨k⟩
theorem zl5 (k:G') (h:Hid G'→G:=by intro zk0;refine K.block (K.seq (K.block (K.seq (K.block (K.seq (K.seq (K.seq (K.region ?_))))))));exact zk0.1):G:=h ⟨k⟩
theorem zl6 (h:G:=by exact KE.finN je rfl jd (by first|exact ja|(simp only[cycH_app,seenH_app];exact ja)) ⟨rfl,rfl⟩):G:=h
theorem zqx (k:G') (h:Hid G'→G:=by intro zk0;refine KE.blkO rfl ?_;exact zk0.1):G:=h ⟨k⟩
theorem zso (h:G:=by exact KE.fin je rfl jd (by first|exact ja|(simp only[cycH_app];exact ja)) ⟨rfl,rfl⟩):G:=h
theorem zsp (h:G:=by exact KE.fin je rfl jd (by first|exact ja|(simp only[jbn];exact ja)) ⟨rfl,rfl⟩):G:=h
theorem zkQ (k:G') (h:Hid G'→G:=by intro zk0;refine KD.y0 rfl rfl rfl rfl (Val.isF (Val.neq rfl rfl) jO) ?_;exact zk0.1):G:=h ⟨k⟩
theorem zgT (k:G') (h:Hid G'→G:=by intro zk0;refine KL.v rfl (Val.eql rfl rfl) ?_;exact zk0.1):G:=h ⟨k⟩
theorem zqy (k:G') (h:Hid G'→G:=by intro zk0;refine KL.nil (KE.next (K.condF rfl (K.skip (KE.next (K.seq (K.seq ?_))))));exact zk0.1):G:=h ⟨k⟩
theorem zow (k:G') (h:Hid G'→G:=by intro zk0;refine K.drawn [] [(0,0),(1,0),(2,0),(3,0),(4,0),(5,0),(6,0),(7,0),(8,2)] (by kernel_rfl) (by kernel_rfl) (by kernel_rfl) (by kernel_rfl) (by kernel_rfl) (by kernel_rfl) Part.nil ?_;exact zk0.1):G:=h ⟨k⟩
theorem zej (h:G:=by exact KE.fin je rfl jd (by first|exact ja|(simp only[paceH_app];exact ja)) ⟨rfl,rfl⟩):G:=h
theorem zkR (k:G') (h:Hid G'→G:=by intro zk0;refine jn (pcnone_K ok) ja ?_;exact zk0.1):G:=h ⟨k⟩
theorem zsq (k:G') (h:Hid G'→G:=by intro zk0;(first|refine KD.v0 rfl rfl (Val.fieldSl (k:=5) rfl rfl) ?_|refine KD.v0 rfl rfl (Val.fieldAddr0 (k:=5) rfl rfl) ?_|refine KD.v0 rfl rfl (Val.fieldAddrZ rfl rfl) ?_|refine KD.v0 rfl rfl (Val.fieldAddr (k:=5) rfl rfl) ?_);exact zk0.1):G:=h ⟨k⟩
theorem zox (k:G') (h:Hid G'→G:=by intro zk0;refine Call.enter2 (n:=63) (by rfl) Tryz.func260 rfl rfl rfl ?_;exact zk0.1):G:=h ⟨k⟩
theorem zhW (k:G') (h:Hid G'→G:=by intro zk0;refine jn (hno _) ja ?_;exact zk0.1):G:=h ⟨k⟩
theorem zoy (k:G') (h:Hid G'→G:=by intro zk0;(first|refine K.seq (K.drawn ([]) [(0,0),(1,1),(2,0),(3,0),(4,0),(5,0),(6,0),(8,0),(9,0),(10,0),(11,0),(12,0),(7,5),(13,5),(14,0),(15,0),(16,2),(17,0),(18,0),(19,2)] (by rfl) (by rfl) (by kernel_rfl) (by rfl) (by rfl) (by rfl) ja ?_)|refine K.seq (K.seq (K.drawn ([]) [(0,0),(1,1),(2,0),(3,0),(4,0),(5,0),(6,0),(8,0),(9,0),(10,0),(11,0),(12,0),(7,5),(13,5),(14,0),(15,0),(16,2),(17,0),(18,0),(19,2)] (by kernel_rfl) (by kernel_rfl) (by kernel_rfl) (by kernel_rfl) (by kernel_rfl) (by kernel_rfl) ja ?_))|refine K.drawn ([]) [(0,0),(1,1),(2,0),(3,0),(4,0),(5,0),(6,0),(8,0),(9,0),(10,0),(11,0),(12,0),(7,5),(13,5),(14,0),(15,0),(16,2),(17,0),(18,0),(19,2)] (by kernel_rfl) (by kernel_rfl) (by kernel_rfl) (by kernel_rfl) (by kernel_rfl) (by kernel_rfl) ja ?_);exact zk0.1):G:=h ⟨k⟩
theorem zhX (k:G') (h:Hid G'→G:=by intro zk0;(first|refine KD.v0 rfl rfl (Val.fieldSl (k:=3) rfl rfl) ?_|refine KD.v0 rfl rfl (Val.fieldAddr0 (k:=3) rfl rfl) ?_|refine KD.v0 rfl rfl (Val.fieldAddrZ rfl rfl) ?_|refine KD.v0 rfl rfl (Val.fieldAddr (k:=3) rfl rfl) ?_);exact zk0.1):G:=h ⟨k⟩
theorem zdu (k:G') (h:Hid G'→G:=by intro zk0;refine KD.callcM rfl rfl rfl jar ?_;exact zk0.1):G:=h ⟨k⟩
theorem zbf (k:G') (h:Hid G'→G:=by intro zk0;(first|(refine KD.eN rfl (Eff.storeL rfl rfl jdR rfl ju jeQ) ?_;rintro _ _ rfl;refine⟨ja,?_⟩)|(refine KD.eN rfl (Eff.stSl rfl rfl rfl rfl jj (by assumption) (by assumption) rfl rfl) ?_;rintro _ _ rfl;refine⟨ja,?_⟩)|(refine KD.eN rfl (Eff.stSl0 rfl rfl rfl rfl jj (by assumption) (by assumption) rfl rfl) ?_;rintro _ _ rfl;refine⟨ja,?_⟩));exact zk0.1):G:=h ⟨k⟩
theorem zsr (k:G') (h:Hid G'→G:=by intro zk0;(first|refine K.seq (K.drawn ([]) [(0,0),(1,0),(2,0),(3,0),(4,0),(5,0),(6,0),(7,0),(8,0),(9,0),(10,5),(11,5),(12,0),(13,0),(14,2)] (by rfl) (by rfl) (by kernel_rfl) (by rfl) (by rfl) (by rfl) ja ?_)|refine K.seq (K.seq (K.drawn ([]) [(0,0),(1,0),(2,0),(3,0),(4,0),(5,0),(6,0),(7,0),(8,0),(9,0),(10,5),(11,5),(12,0),(13,0),(14,2)] (by kernel_rfl) (by kernel_rfl) (by kernel_rfl) (by kernel_rfl) (by kernel_rfl) (by kernel_rfl) ja ?_))|refine K.drawn ([]) [(0,0),(1,0),(2,0),(3,0),(4,0),(5,0),(6,0),(7,0),(8,0),(9,0),(10,5),(11,5),(12,0),(13,0),(14,2)] (by kernel_rfl) (by kernel_rfl) (by kernel_rfl) (by kernel_rfl) (by kernel_rfl) (by kernel_rfl) ja ?_);exact zk0.1):G:=h ⟨k⟩
theorem zoz (k:G') (h:Hid G'→G:=by intro zk0;(first|refine KD.v0 rfl rfl (Val.fieldSl (k:=4) rfl rfl) ?_|refine KD.v0 rfl rfl (Val.fieldAddr0 (k:=4) rfl rfl) ?_|refine KD.v0 rfl rfl (Val.fieldAddrZ rfl rfl) ?_|refine KD.v0 rfl rfl (Val.fieldAddr (k:=4) rfl rfl) ?_);exact zk0.1):G:=h ⟨k⟩
theorem zss (k:G') (h:Hid G'→G:=by intro zk0;refine Call.at_ (hc ((D.b,cells (hpL D h) 120)::(paceH ⟨D.qb,D.C.tr,D.C.ast,h.p⟩++(oH iE 3 D.c.cl D.oc++(oH tnE 55 D.c.tn D.ot++F))))) (by unfold hpH;simp only[List.cons_append,List.append_assoc];exact ja) ?_;exact zk0.1):G:=h ⟨k⟩
theorem zst (k:G') (h:Hid G'→G:=by intro zk0;refine Call.at_ (hc ((D.b,cells (hpL D h) 120)::(oH iE 3 D.c.cl D.oc++(oH tnE 55 D.c.tn D.ot++(cycH y++F))))) (by unfold hpH;simp only[List.cons_append,List.append_assoc];exact ja) ?_;exact zk0.1):G:=h ⟨k⟩
theorem zT (k:G') (h:Hid G'→G:=by intro zk0;refine jP.callc rfl rfl jar ?_;exact zk0.1):G:=h ⟨k⟩
theorem zsu (k:G') (h:Hid G'→G:=by intro zk0;(first|(refine KD.eN rfl (Eff.storeAL rfl rfl rfl ju byLay jhx) ?_;rintro _ _ rfl;refine⟨ja,?_⟩)|(refine KD.eN rfl (Eff.stSlA rfl rfl rfl rfl jj (by assumption) (by assumption)) ?_;rintro _ _ rfl;refine⟨ja,?_⟩));exact zk0.1):G:=h ⟨k⟩
theorem zsv (h:G:=by exact KE.meet ⟨b5⟩ jc (by first|exact ja|(simp only[js,seenH_app];exact ja)) trivial):G:=h
theorem zqz (k:G') (h:Hid G'→G:=by intro zk0;refine KD.v0 rfl rfl (Val.loadP rfl rfl (jJ.sl (Sli.own jj (by assumption) jF) (by assumption) rfl)) ?_;exact zk0.1):G:=h ⟨k⟩
theorem zsw (h:G:=by exact KE.meet ⟨k⟩ jc (by first|exact ja|(simp only[js,seenH_app];exact ja)) ⟨ok,MkTo.refl k,hR⟩):G:=h
theorem zqA (k:G') (h:Hid G'→G:=by intro zk0;refine K.drawn [] [(0,0),(1,0),(2,0),(3,0),(4,0),(5,0),(6,0),(7,0),(8,0),(9,0),(10,0)] (by kernel_rfl) (by kernel_rfl) (by kernel_rfl) (by kernel_rfl) (by kernel_rfl) (by kernel_rfl) Part.nil ?_;exact zk0.1):G:=h ⟨k⟩
theorem zfK (k:G') (h:Hid G'→G:=by intro zk0;refine KD.v0 rfl rfl (Val.isF (Val.neq rfl rfl) jO) ?_;exact zk0.1):G:=h ⟨k⟩
theorem zl7 (k:G') (h:Hid G'→G:=by intro zk0;refine KD.y0 rfl rfl rfl rfl (Val.fieldSl (k:=1) rfl rfl) ?_;exact zk0.1):G:=h ⟨k⟩
theorem ze0 (k:G') (h:Hid G'→G:=by intro zk0;refine KD.y0 rfl rfl rfl rfl (Val.loadP rfl rfl (jJ.sl (Sli.own jj (by assumption) jF) (by assumption) rfl)) ?_;exact zk0.1):G:=h ⟨k⟩
theorem zkS (k:G') (h:Hid G'→G:=by intro zk0;refine KD.v0 rfl rfl (Val.isT (Val.neq rfl rfl) jO) ?_;exact zk0.1):G:=h ⟨k⟩
theorem zoA (k:G') (h:Hid G'→G:=by intro zk0;refine Call.enter3 (n:=69) (by kernel_rfl) Tryz.func147 rfl rfl rfl ?_;exact zk0.1):G:=h ⟨k⟩
theorem zoB (k:G') (h:Hid G'→G:=by intro zk0;refine K.drawn (_) [(0,1),(1,1),(2,1),(3,1),(4,1),(5,1),(7,1),(6,3),(8,1),(9,2),(10,0),(11,2)] (by kernel_rfl) (by kernel_rfl) (by kernel_rfl) (by kernel_rfl) (by kernel_rfl) (by kernel_rfl) ja ?_;exact zk0.1):G:=h ⟨k⟩
theorem zoC (k:G') (h:Hid G'→G:=by intro zk0;(first|refine KD.v1 rfl rfl (Val.fieldSl (k:=6) rfl rfl) ?_|refine KD.v1 rfl rfl (Val.fieldAddr0 (k:=6) rfl rfl) ?_|refine KD.v1 rfl rfl (Val.fieldAddrZ rfl rfl) ?_|refine KD.v1 rfl rfl (Val.fieldAddr (k:=6) rfl rfl) ?_);exact zk0.1):G:=h ⟨k⟩
theorem zoD (k:G') (h:Hid G'→G:=by intro zk0;(first|refine KD.v1 rfl rfl (Val.idxSl rfl rfl rfl jab rfl jO) ?_|refine KD.v1 rfl rfl (Val.idxSlZ rfl rfl rfl jab rfl (by omega)) ?_|refine KD.v1 rfl rfl (Val.indexS1 rfl rfl rfl rfl (by omega)) ?_|refine KD.v1 rfl rfl (Val.indexS rfl rfl rfl rfl (by omega)) ?_|refine KD.v1 rfl rfl (Val.indexSO rfl rfl rfl rfl (by omega)) ?_|refine KD.v1 rfl rfl (Val.indexSG rfl rfl rfl rfl (by omega)) ?_);exact zk0.1):G:=h ⟨k⟩
theorem zhY (k:G') (h:Hid G'→G:=by intro zk0;refine(CallV.fn micros_K).mono ?_;exact zk0.1):G:=h ⟨k⟩
theorem zoE (k:G') (h:Hid G'→G:=by intro zk0;(first|refine KD.v1 rfl rfl (Val.indexV (off:=3) rfl rfl rfl rfl rfl (by omega) rfl jc1) ?_|refine KD.v1 rfl rfl (Val.indexV (off:=6) rfl rfl rfl rfl rfl (by omega) rfl jc1) ?_|refine KD.v1 rfl rfl (Val.indexV (off:=9) rfl rfl rfl rfl rfl (by omega) rfl jc1) ?_|refine KD.v1 rfl rfl (Val.indexV (off:=12) rfl rfl rfl rfl rfl (by omega) rfl jc1) ?_|refine KD.v1 rfl rfl (Val.indexV1 rfl rfl rfl rfl rfl (by omega) rfl) ?_);exact zk0.1):G:=h ⟨k⟩
theorem ztP (h:G:=by exact KE.meet ⟨b8⟩ jc (by first|exact ja|(simp only[js,seenH_app];exact ja)) trivial):G:=h
theorem zoF (k:G') (h:Hid G'→G:=by intro zk0;(first|refine KD.v0 rfl rfl (Val.indexV (off:=3) rfl rfl rfl rfl rfl (by omega) rfl jc1) ?_|refine KD.v0 rfl rfl (Val.indexV (off:=6) rfl rfl rfl rfl rfl (by omega) rfl jc1) ?_|refine KD.v0 rfl rfl (Val.indexV (off:=9) rfl rfl rfl rfl rfl (by omega) rfl jc1) ?_|refine KD.v0 rfl rfl (Val.indexV (off:=12) rfl rfl rfl rfl rfl (by omega) rfl jc1) ?_|refine KD.v0 rfl rfl (Val.indexV1 rfl rfl rfl rfl rfl (by omega) rfl) ?_);exact zk0.1):G:=h ⟨k⟩
theorem ztQ (k:G') (h:Hid G'→G:=by intro zk0;refine K.drawn [] [(0,0),(1,0),(2,0),(3,0),(4,0),(5,0),(6,0),(7,0),(8,0),(9,0),(10,0),(11,0),(12,0),(13,0),(14,0),(15,0),(16,0),(17,2),(18,0),(19,0)] (by kernel_rfl) (by kernel_rfl) (by kernel_rfl) (by kernel_rfl) (by kernel_rfl) (by kernel_rfl) Part.nil ?_;exact zk0.1):G:=h ⟨k⟩
theorem zl8 (k:G') (h:Hid G'→G:=by intro zk0;refine KD.y0 rfl rfl rfl rfl (Val.fieldAddr0 (k:=2) rfl rfl) ?_;exact zk0.1):G:=h ⟨k⟩
theorem zsx (k:G') (h:Hid G'→G:=by intro zk0;refine(CallV.part (CallV.fn (hsk _)) (by first|exact ja|(simp only[js,seenH_app];exact ja))).mono ?_;exact zk0.1):G:=h ⟨k⟩
theorem zl9 (k:G') (h:Hid G'→G:=by intro zk0;refine KD.y0 rfl rfl rfl rfl (Val.notT rfl) ?_;exact zk0.1):G:=h ⟨k⟩
theorem ztR (k:G') (h:Hid G'→G:=by intro zk0;refine KD.y0 rfl rfl rfl rfl (Val.fieldAddr0 (k:=0) rfl rfl) ?_;exact zk0.1):G:=h ⟨k⟩
theorem zkT (k:G') (h:Hid G'→G:=by intro zk0;refine KD.y0 rfl rfl rfl rfl (Val.fieldSl (k:=2) rfl rfl) ?_;exact zk0.1):G:=h ⟨k⟩
theorem zkU (k:G') (h:Hid G'→G:=by intro zk0;refine KD.y0 rfl rfl rfl rfl (Val.neqB rfl rfl rfl) ?_;exact zk0.1):G:=h ⟨k⟩
theorem zma (k:G') (h:Hid G'→G:=by intro zk0;refine Call.enter3 (n:=69) (by rfl) Tryz.func147 rfl rfl rfl ?_;exact zk0.1):G:=h ⟨k⟩
theorem zmb (h:G:=by exact KE.fin (H':=jt k B.p++(planH B.p++(seenH B T N++F))) je rfl jd (by first|exact ja|(simp only[js,seenH_app];exact ja)) ⟨rfl,k,ok,MkTo.refl k,hR,by grind[js,seenH_app]⟩):G:=h
theorem zsy (k:G') (h:Hid G'→G:=by intro zk0;refine K.drawn [] [(0,0),(1,0),(2,0),(3,0),(4,0),(5,0),(6,0),(7,0),(8,0),(9,0)] (by kernel_rfl) (by kernel_rfl) (by kernel_rfl) (by kernel_rfl) (by kernel_rfl) (by kernel_rfl) Part.nil ?_;exact zk0.1):G:=h ⟨k⟩
theorem zqB (k:G') (h:Hid G'→G:=by intro zk0;(first|(refine KL.v rfl (Val.fieldSl (k:=2) rfl rfl) ?_)|(refine KL.v rfl (Val.fieldAddr0 (k:=2) rfl rfl) ?_)|(refine KL.v rfl (Val.fieldAddrZ rfl rfl) ?_)|(refine KL.v rfl (Val.fieldAddr (k:=2) rfl rfl) ?_));exact zk0.1):G:=h ⟨k⟩
theorem zoG (k:G') (h:Hid G'→G:=by intro zk0;refine Call.enter2 (n:=13) (by rfl) Tryz.func296 rfl rfl rfl ?_;exact zk0.1):G:=h ⟨k⟩
theorem zkV (k:G') (h:Hid G'→G:=by intro zk0;refine KL.v rfl (Val.sliceL rfl rfl rfl jab rfl jO) ?_;exact zk0.1):G:=h ⟨k⟩
theorem zmc (k:G') (h:Hid G'→G:=by intro zk0;refine KL.v rfl (Val.add rfl rfl (by simp[qL,qH])) ?_;exact zk0.1):G:=h ⟨k⟩
theorem zsz (k:G') (h:Hid G'→G:=by intro zk0;refine K.drawn [] [(0,0),(1,0),(2,0),(3,0),(4,0),(5,0),(6,0),(7,0),(8,0),(9,0),(10,0),(11,0),(12,0),(13,0),(14,0),(15,0),(16,0),(17,0)] (by rfl) (by rfl) (by kernel_rfl) (by rfl) (by rfl) (by rfl) Part.nil ?_;exact zk0.1):G:=h ⟨k⟩
theorem zmd (k:G') (h:Hid G'→G:=by intro zk0;(first|refine KD.v1 rfl rfl (Val.fieldSl (k:=2) rfl rfl) ?_|refine KD.v1 rfl rfl (Val.fieldAddr0 (k:=2) rfl rfl) ?_|refine KD.v1 rfl rfl (Val.fieldAddrZ rfl rfl) ?_|refine KD.v1 rfl rfl (Val.fieldAddr (k:=2) rfl rfl) ?_);exact zk0.1):G:=h ⟨k⟩
theorem zqC (k:G') (h:Hid G'→G:=by intro zk0;(first|refine KD.v1 rfl rfl (Val.conv rfl rfl rfl (by grind[qL,qH])) ?_|refine KD.v1 rfl rfl (Val.convW rfl rfl rfl) ?_);exact zk0.1):G:=h ⟨k⟩
theorem ztS (k:G') (h:Hid G'→G:=by intro zk0;(first|refine KD.v1 rfl rfl (Val.fieldSl (k:=1) rfl rfl) ?_|refine KD.v1 rfl rfl (Val.fieldAddr0 (k:=1) rfl rfl) ?_|refine KD.v1 rfl rfl (Val.fieldAddrZ rfl rfl) ?_|refine KD.v1 rfl rfl (Val.fieldAddr (k:=1) rfl rfl) ?_);exact zk0.1):G:=h ⟨k⟩
theorem zsA (k:G') (h:Hid G'→G:=by intro zk0;refine(CallV.fn (hpack _ _ _ (Sli.blk ju rfl (Nat.le_refl 3) (by decide) rfl) (Sli.blk ju rfl (Nat.le_refl 3) (by decide) rfl) rfl)).mono ?_;exact zk0.1):G:=h ⟨k⟩
theorem zsB (k:G') (h:Hid G'→G:=by intro zk0;refine(CallV.part (CallV.fn (hs2 _)) (by first|exact ja|(simp only[js,seenH_app];exact ja))).mono ?_;exact zk0.1):G:=h ⟨k⟩
theorem zsC (k:G') (h:Hid G'→G:=by intro zk0;refine(CallV.part (CallV.fn (hs1 _)) (by first|exact ja|(simp only[js,seenH_app];exact ja))).mono ?_;exact zk0.1):G:=h ⟨k⟩
theorem zqD (k:G') (h:Hid G'→G:=by intro zk0;refine Call.enter1 (n:=28) (by rfl) Tryz.func117 rfl rfl rfl ?_;exact zk0.1):G:=h ⟨k⟩
theorem zhZ (k:G') (h:Hid G'→G:=by intro zk0;refine KL.nil (KE.next (K.condT rfl (K.seq ?_)));exact zk0.1):G:=h ⟨k⟩
theorem zoH (k:G') (h:Hid G'→G:=by intro zk0;refine Call.enter3 (n:=27) (by rfl) Tryz.func149 rfl rfl rfl ?_;exact zk0.1):G:=h ⟨k⟩
theorem zme (k:G') (h:Hid G'→G:=by intro zk0;refine Call.enter3 (n:=15) (by kernel_rfl) Tryz.func84 rfl rfl rfl ?_;exact zk0.1):G:=h ⟨k⟩
theorem zoI (k:G') (h:Hid G'→G:=by intro zk0;refine jn (cywork1_K (h.ph.trans h1)) ja ?_;exact zk0.1):G:=h ⟨k⟩
theorem zkW (k:G') (h:Hid G'→G:=by intro zk0;refine KL.v rfl (Val.field (k:=0) rfl rfl rfl rfl rfl) ?_;exact zk0.1):G:=h ⟨k⟩
theorem zoJ (k:G') (h:Hid G'→G:=by intro zk0;refine(CallV.part (CallV.bound (first:=[.pointer (some ⟨y.k.b,0,none⟩)]) (hstep _)) (by simp only[cycH_app];exact ja)).mono ?_;exact zk0.1):G:=h ⟨k⟩
theorem zsD (h:G:=by exact KE.fin (H':=cycH {y with k:=k'}++F) je rfl jd (by simp only[cycH_app,kto.b];exact ja) ⟨rfl,_,hR k' kok kto kR,hT k' kto,rfl⟩):G:=h
theorem zoK (k:G') (h:Hid G'→G:=by intro zk0;refine Call.enter1 (n:=9) (by kernel_rfl) Tryz.func262 rfl rfl rfl ?_;exact zk0.1):G:=h ⟨k⟩
theorem zoL (k:G') (h:Hid G'→G:=by intro zk0;refine KL.v rfl (Val.field (k:=1) rfl rfl rfl rfl rfl) ?_;exact zk0.1):G:=h ⟨k⟩
theorem zqE (k:G') (h:Hid G'→G:=by intro zk0;refine jB (hst _) ja ?_;exact zk0.1):G:=h ⟨k⟩
theorem zh0 (k:G') (h:Hid G'→G:=by intro zk0;refine Call.at_ (hc _) (by simp only[cycH_app];exact ja) ?_;exact zk0.1):G:=h ⟨k⟩
theorem zoM (h:G:=by exact KE.fin je rfl jd ja ⟨by rw[ho];rfl,rfl⟩):G:=h
theorem zfL (h:G:=by exact KE.fin je rfl jd (by first|exact ja|(simp only[hpH_app];exact ja)) ⟨rfl,rfl⟩):G:=h
theorem zoN (k:G') (h:Hid G'→G:=by intro zk0;refine(CallV.part (CallV.fn (hTb _)) (by first|exact ja|(simp only[hpH_app];exact ja))).mono ?_;exact zk0.1):G:=h ⟨k⟩
theorem zgU (k:G') (h:Hid G'→G:=by intro zk0;refine(CallV.part (CallV.fn (hB _)) (by first|exact ja|(simp only[hpH_app];exact ja))).mono ?_;exact zk0.1):G:=h ⟨k⟩
theorem zsE (k:G') (h:Hid G'→G:=by intro zk0;refine(CallV.part (CallV.fn (hP _ y1 h2)) (by first|exact ja|(simp only[hpH_app];exact ja))).mono ?_;exact zk0.1):G:=h ⟨k⟩
theorem zmf (k:G') (h:Hid G'→G:=by intro zk0;refine(CallV.part hi ja).mono ?_;exact zk0.1):G:=h ⟨k⟩
theorem zsF (k:G') (h:Hid G'→G:=by intro zk0;refine(CallV.part (CallV.fn (hph _ nf nk y h h1)) (by first|exact ja|(simp only[hpH_app];exact ja))).mono ?_;exact zk0.1):G:=h ⟨k⟩
theorem zoO (k:G') (h:Hid G'→G:=by intro zk0;refine Call.enter2 (n:=41) (by rfl) Tryz.func119 rfl rfl rfl ?_;exact zk0.1):G:=h ⟨k⟩
theorem zgV (k:G') (h:Hid G'→G:=by intro zk0;refine jn (hget _) ja ?_;exact zk0.1):G:=h ⟨k⟩
theorem zsG (k:G') (h:Hid G'→G:=by intro zk0;refine K.drawn _ [(0,0),(1,0),(2,0),(3,0),(5,1),(6,1),(7,1),(8,1),(4,2),(9,2),(10,0),(11,0),(12,0),(13,0),(14,0)] (by rfl) (by rfl) (by kernel_rfl) (by rfl) (by rfl) (by rfl) Part.all ?_;exact zk0.1):G:=h ⟨k⟩
theorem zkX (h:G:=by exact KE.fin je rfl jd (by first|exact ja|(simp only[hpH_app];exact ja)) ⟨rfl,y1,h2,rfl⟩):G:=h
theorem zsH (h:G:=by exact⟨_,⟨hr,_,h.pin kN eb el hi,⟨rfl,(jcn h.p.bo).symm,rfl,rfl,rfl,eb,⟨rfl,rfl,rfl,rfl,rfl,rfl⟩,rfl,rfl,rfl⟩,rfl⟩,by simp only[cycH_app,eb];exact ja⟩):G:=h
theorem zqF (k:G') (h:Hid G'→G:=by intro zk0;refine(CallV.part (CallV.fn (hPs _)) (by first|exact ja|(simp only[hpH_app];exact ja))).mono ?_;exact zk0.1):G:=h ⟨k⟩
theorem zsI (k:G') (h:Hid G'→G:=by intro zk0;refine jp (htold _ _) ?_;exact zk0.1):G:=h ⟨k⟩
theorem zkY (h:G:=by exact KE.fin je rfl jd (by first|exact ja|(simp only[hpH_app];exact ja)) ⟨rfl,y,h1,rfl⟩):G:=h
theorem zmg (k:G') (h:Hid G'→G:=by intro zk0;refine(CallV.part (CallV.fn (hS _)) (by first|exact ja|(simp only[hpH_app];exact ja))).mono ?_;exact zk0.1):G:=h ⟨k⟩
theorem zqG (h:G:=by exact KE.fin je rfl jd (by first|exact ja|(simp only[hpH_app];exact ja)) ⟨rfl,y2,h3,rfl⟩):G:=h
theorem zqH (k:G') (h:Hid G'→G:=by intro zk0;(first|refine KD.v0 rfl rfl (Val.fieldSl (k:=7) rfl rfl) ?_|refine KD.v0 rfl rfl (Val.fieldAddr0 (k:=7) rfl rfl) ?_|refine KD.v0 rfl rfl (Val.fieldAddrZ rfl rfl) ?_|refine KD.v0 rfl rfl (Val.fieldAddr (k:=7) rfl rfl) ?_);exact zk0.1):G:=h ⟨k⟩
theorem zjb (k:G') (h:Hid G'→G:=by intro zk0;refine KD.callcX rfl rfl rfl jar ?_;exact zk0.1):G:=h ⟨k⟩
theorem zsJ (k:G') (h:Hid G'→G:=by intro zk0;refine K.drawn _ [(0,0),(1,0),(2,0),(3,0),(6,1),(8,1),(9,1),(10,1),(11,1),(12,1),(13,1),(14,1),(15,1),(16,1),(17,1),(18,1),(19,1),(4,2),(5,2),(7,0),(20,0),(21,0)] (by rfl) (by rfl) (by kernel_rfl) (by rfl) (by rfl) (by rfl) Part.all ?_;exact zk0.1):G:=h ⟨k⟩
theorem zsK (k:G') (h:Hid G'→G:=by intro zk0;refine(CallV.part (CallV.clo (args:=[]) (cap:=[.pointer (some ⟨b3,0,none⟩), .pointer (some ⟨b10,0,none⟩)]) (hf _)) ja).mono ?_;exact zk0.1):G:=h ⟨k⟩
theorem zqI (k:G') (h:Hid G'→G:=by intro zk0;refine(CallV.part (CallV.fn (hd0 _)) (by first|exact ja|(simp only[hpH_app];exact ja))).mono ?_;exact zk0.1):G:=h ⟨k⟩
theorem zsL (h:G:=by exact KE.finN je rfl jd (by first|exact ja|(simp only[hpH_app];exact ja)) ⟨rfl,y3,h3.mono (by omega) (by omega),rfl⟩):G:=h
theorem zmh (k:G') (h:Hid G'→G:=by intro zk0;refine Call.enter3 (n:=111) (by kernel_rfl) Tryz.func153 rfl rfl rfl ?_;exact zk0.1):G:=h ⟨k⟩
theorem ztT (h:G:=by exact KE.fin je rfl jd ja ⟨rfl,y,h1.mono (by omega) (by omega),rfl⟩):G:=h
theorem zoP (k:G') (h:Hid G'→G:=by intro zk0;refine jp (hof _ _ (Sli.own jj hoc rfl) (jlj _ _)) ?_;exact zk0.1):G:=h ⟨k⟩
theorem zoQ (h:G:=by exact KE.fin je rfl jd (by first|exact ja|(simp only[hpH_app];exact ja)) ⟨rfl,y,h1.mono (by omega) (by omega),rfl⟩):G:=h
theorem zqJ (k:G') (h:Hid G'→G:=by intro zk0;refine K.drawn _ [(0,1),(1,1),(2,1),(3,1),(4,1),(5,1),(6,1),(7,1),(8,1),(9,2),(10,2)] (by kernel_rfl) (by kernel_rfl) (by kernel_rfl) (by kernel_rfl) (by kernel_rfl) (by kernel_rfl) Part.all ?_;exact zk0.1):G:=h ⟨k⟩
theorem zqK (k:G') (h:Hid G'→G:=by intro zk0;refine KD.v1 rfl rfl (Val.idxSl rfl rfl rfl (Sli.own jj (by assumption) jF) rfl jO) ?_;exact zk0.1):G:=h ⟨k⟩
theorem zqL (k:G') (h:Hid G'→G:=by intro zk0;refine KD.v1 rfl rfl (Val.loadP rfl rfl (jJ.sl0 (Sli.own jj (by assumption) jF) (by assumption) rfl)) ?_;exact zk0.1):G:=h ⟨k⟩
theorem zqM (k:G') (h:Hid G'→G:=by intro zk0;refine(CallV.part (CallV.fn (hrm _ b3 b10 b11)) (by first|exact ja|(simp only[hpH_app];exact ja))).mono ?_;exact zk0.1):G:=h ⟨k⟩
theorem zqN (k:G') (h:Hid G'→G:=by intro zk0;refine(CallV.part (CallV.clo (args:=[]) (cap:=[.pointer (some ⟨b3,0,none⟩), .pointer (some ⟨b10,0,none⟩)]) (hft _ b3 b10 y1 h2)) ja).mono ?_;exact zk0.1):G:=h ⟨k⟩
theorem zsM (h:G:=by exact KE.fin je rfl jd (by first|exact ja|(simp only[hpH_app];exact ja)) ⟨rfl,y1,h2.mono (by omega) (by omega),rfl⟩):G:=h
theorem zqO (k:G') (h:Hid G'→G:=by intro zk0;refine(CallV.part (CallV.fn (hAr _ y1 h2)) (by first|exact ja|(simp only[hpH_app];exact ja))).mono ?_;exact zk0.1):G:=h ⟨k⟩
theorem zqP (k:G') (h:Hid G'→G:=by intro zk0;(first|refine KD.v1 rfl rfl (Val.loadAP rfl rfl rfl jgr) ?_|refine KD.v1 rfl rfl (Val.loadA rfl rfl rfl jfD) ?_);exact zk0.1):G:=h ⟨k⟩
theorem zqQ (k:G') (h:Hid G'→G:=by intro zk0;(first|(refine KL.eN (Eff.storeL rfl rfl jdR rfl ju jeQ) ?_;rintro _ _ rfl)|(refine KL.eN (Eff.stSl rfl rfl rfl rfl jj (by assumption) (by assumption) rfl rfl) ?_;rintro _ _ rfl)|(refine KL.eN (Eff.stSl0 rfl rfl rfl rfl jj (by assumption) (by assumption) rfl rfl) ?_;rintro _ _ rfl));exact zk0.1):G:=h ⟨k⟩
theorem zqR (k:G') (h:Hid G'→G:=by intro zk0;(first|(refine KL.v rfl (Val.fieldSl (k:=7) rfl rfl) ?_)|(refine KL.v rfl (Val.fieldAddr0 (k:=7) rfl rfl) ?_)|(refine KL.v rfl (Val.fieldAddrZ rfl rfl) ?_)|(refine KL.v rfl (Val.fieldAddr (k:=7) rfl rfl) ?_));exact zk0.1):G:=h ⟨k⟩
theorem zoR (k:G') (h:Hid G'→G:=by intro zk0;refine Call.enter1 (n:=37) (by rfl) Tryz.func15 rfl rfl rfl ?_;exact zk0.1):G:=h ⟨k⟩
theorem ztU (k:G') (h:Hid G'→G:=by intro zk0;refine jp (hsm _ ja) ?_;exact zk0.1):G:=h ⟨k⟩
theorem zkZ (h:G:=by exact KE.again (k+1) jc ja ⟨by omega,hc⟩ (by omega)):G:=h
theorem zmi (k:G') (h:Hid G'→G:=by intro zk0;refine Call.enter3 (n:=76) (by rfl) Tryz.func154 rfl rfl rfl ?_;exact zk0.1):G:=h ⟨k⟩
theorem ztV (k:G') (h:Hid G'→G:=by intro zk0;refine jn (hfld _) ja ?_;exact zk0.1):G:=h ⟨k⟩
theorem zoS (k:G') (h:Hid G'→G:=by intro zk0;refine K.drawn _ [(0,0),(1,0),(2,0),(3,0),(5,1),(6,1),(7,1),(4,2),(8,2),(9,0),(10,0),(11,0),(12,0),(13,0)] (by rfl) (by rfl) (by kernel_rfl) (by rfl) (by rfl) (by rfl) Part.all ?_;exact zk0.1):G:=h ⟨k⟩
theorem zoT (k:G') (h:Hid G'→G:=by intro zk0;refine(CallV.part (CallV.fn (hRf _)) (by first|exact ja|(simp only[hpH_app];exact ja))).mono ?_;exact zk0.1):G:=h ⟨k⟩
theorem zoU (k:G') (h:Hid G'→G:=by intro zk0;refine Call.enter3 (n:=96) (by kernel_rfl) Tryz.func155 rfl rfl rfl ?_;exact zk0.1):G:=h ⟨k⟩
theorem zsN (k:G') (h:Hid G'→G:=by intro zk0;(first|refine KD.v1 rfl rfl (Val.fieldSl (k:=4) rfl rfl) ?_|refine KD.v1 rfl rfl (Val.fieldAddr0 (k:=4) rfl rfl) ?_|refine KD.v1 rfl rfl (Val.fieldAddrZ rfl rfl) ?_|refine KD.v1 rfl rfl (Val.fieldAddr (k:=4) rfl rfl) ?_);exact zk0.1):G:=h ⟨k⟩
theorem zsO (k:G') (h:Hid G'→G:=by intro zk0;(first|(refine KD.eNX rfl (Eff.storeAL rfl rfl rfl ju byLay jhx) ?_;rintro _ _ rfl)|(refine KD.eNX rfl (Eff.stSlA rfl rfl rfl rfl jj (by assumption) (by assumption)) ?_;rintro _ _ rfl));exact zk0.1):G:=h ⟨k⟩
theorem zqS (k:G') (h:Hid G'→G:=by intro zk0;refine jn (hsl _) ja ?_;exact zk0.1):G:=h ⟨k⟩
theorem zoV (k:G') (h:Hid G'→G:=by intro zk0;refine KL.v rfl (Val.indexV1 rfl rfl rfl rfl rfl (by omega) rfl) ?_;exact zk0.1):G:=h ⟨k⟩
theorem zsP (k:G') (h:Hid G'→G:=by intro zk0;(first|(refine KL.v rfl (Val.isT (Val.lss rfl rfl) jO) ?_)|(refine KL.v rfl (Val.isF (Val.lss rfl rfl) jO) ?_)|(refine KL.v rfl (Val.lss rfl rfl) ?_));exact zk0.1):G:=h ⟨k⟩
theorem ztW (k:G') (h:Hid G'→G:=by intro zk0;refine Call.enter2 (n:=60) (by rfl) Tryz.func86 rfl rfl rfl ?_;exact zk0.1):G:=h ⟨k⟩
theorem ztX (k:G') (h:Hid G'→G:=by intro zk0;refine jp (hopers _) ?_;exact zk0.1):G:=h ⟨k⟩
theorem ztY (k:G') (h:Hid G'→G:=by intro zk0;refine KL.v rfl (Val.conv rfl rfl rfl (by simp[qL,qH])) ?_;exact zk0.1):G:=h ⟨k⟩
theorem ztZ (k:G') (h:Hid G'→G:=by intro zk0;refine KL.v rfl (Val.eqlFF rfl rfl rfl) ?_;exact zk0.1):G:=h ⟨k⟩
theorem zjc (k:G') (h:Hid G'→G:=by intro zk0;refine KD.v1 rfl rfl (Val.indexA rfl rfl rfl rfl (by omega)) ?_;exact zk0.1):G:=h ⟨k⟩
theorem zek (k:G') (h:Hid G'→G:=by intro zk0;refine(CallV.part (CallV.fn (hO _)) ja).mono ?_;exact zk0.1):G:=h ⟨k⟩
theorem zdv (h:G:=by exact KE.meet ⟨y1,b8⟩ jc ja h2):G:=h
theorem zk0 (k:G') (h:Hid G'→G:=by intro zk0;refine(CallV.part (CallV.fn (hP _ y1 _ h2)) (by first|exact ja|(simp only[hpH_app];exact ja))).mono ?_;exact zk0.1):G:=h ⟨k⟩
theorem zk1 (k:G') (h:Hid G'→G:=by intro zk0;refine(CallV.part (CallV.fn (hA _ y1 _ h2)) (by first|exact ja|(simp only[hpH_app];exact ja))).mono ?_;exact zk0.1):G:=h ⟨k⟩
theorem zk2 (k:G') (h:Hid G'→G:=by intro zk0;refine jn (hnone _) ja ?_;exact zk0.1):G:=h ⟨k⟩
theorem zsQ (k:G') (h:Hid G'→G:=by intro zk0;refine(CallV.part (CallV.fn (hdo _)) (by rw[hw0];simp only[List.cons_append,List.append_assoc];exact ja)).mono ?_;exact zk0.1):G:=h ⟨k⟩
theorem zsR (k:G') (h:Hid G'→G:=by intro zk0;refine(CallV.part (CallV.fn (hUs _ y1 h2)) (by first|exact ja|(simp only[hpH_app];exact ja))).mono ?_;exact zk0.1):G:=h ⟨k⟩
theorem zsS (k:G') (h:Hid G'→G:=by intro zk0;(first|refine K.seq (K.drawn ((D.b,cells [oV D.oc D.c.cl.length, .int .i64 D.c.page,oV D.ot D.c.tn.length, .int .i64 D.c.workers, .int .i64 D.c.grey, .int .i64 D.c.gens, .int .i64 (D.C.tn:Nat), .pointer (some ⟨D.yb,0,none⟩), .pointer (some ⟨D.qb,0,none⟩), .int .i64 (h9.wk:Nat)] 120)::F) [(0,0),(1,0),(2,0),(3,0),(6,1),(7,1),(8,1),(9,1),(12,1),(13,1),(14,1),(15,1),(4,2),(5,1),(17,1),(10,2),(11,1),(16,2),(18,2),(19,0),(20,2),(21,0),(22,2)] (by kernel_rfl) (by kernel_rfl) (by kernel_rfl) (by kernel_rfl) (by kernel_rfl) (by kernel_rfl) ja ?_)|refine K.seq (K.seq (K.drawn ((D.b,cells [oV D.oc D.c.cl.length, .int .i64 D.c.page,oV D.ot D.c.tn.length, .int .i64 D.c.workers, .int .i64 D.c.grey, .int .i64 D.c.gens, .int .i64 (D.C.tn:Nat), .pointer (some ⟨D.yb,0,none⟩), .pointer (some ⟨D.qb,0,none⟩), .int .i64 (h9.wk:Nat)] 120)::F) [(0,0),(1,0),(2,0),(3,0),(6,1),(7,1),(8,1),(9,1),(12,1),(13,1),(14,1),(15,1),(4,2),(5,1),(17,1),(10,2),(11,1),(16,2),(18,2),(19,0),(20,2),(21,0),(22,2)] (by kernel_rfl) (by kernel_rfl) (by kernel_rfl) (by kernel_rfl) (by kernel_rfl) (by kernel_rfl) ja ?_))|refine K.drawn ((D.b,cells [oV D.oc D.c.cl.length, .int .i64 D.c.page,oV D.ot D.c.tn.length, .int .i64 D.c.workers, .int .i64 D.c.grey, .int .i64 D.c.gens, .int .i64 (D.C.tn:Nat), .pointer (some ⟨D.yb,0,none⟩), .pointer (some ⟨D.qb,0,none⟩), .int .i64 (h9.wk:Nat)] 120)::F) [(0,0),(1,0),(2,0),(3,0),(6,1),(7,1),(8,1),(9,1),(12,1),(13,1),(14,1),(15,1),(4,2),(5,1),(17,1),(10,2),(11,1),(16,2),(18,2),(19,0),(20,2),(21,0),(22,2)] (by kernel_rfl) (by kernel_rfl) (by kernel_rfl) (by kernel_rfl) (by kernel_rfl) (by kernel_rfl) ja ?_);exact zk0.1):G:=h ⟨k⟩
theorem zt0 (k:G') (h:Hid G'→G:=by intro zk0;(first|refine KD.v0 rfl rfl (Val.fieldSl (k:=8) rfl rfl) ?_|refine KD.v0 rfl rfl (Val.fieldAddr0 (k:=8) rfl rfl) ?_|refine KD.v0 rfl rfl (Val.fieldAddrZ rfl rfl) ?_|refine KD.v0 rfl rfl (Val.fieldAddr (k:=8) rfl rfl) ?_);exact zk0.1):G:=h ⟨k⟩
theorem zoW (k:G') (h:Hid G'→G:=by intro zk0;(first|refine KD.v1 rfl rfl (Val.fieldSl (k:=8) rfl rfl) ?_|refine KD.v1 rfl rfl (Val.fieldAddr0 (k:=8) rfl rfl) ?_|refine KD.v1 rfl rfl (Val.fieldAddrZ rfl rfl) ?_|refine KD.v1 rfl rfl (Val.fieldAddr (k:=8) rfl rfl) ?_);exact zk0.1):G:=h ⟨k⟩
theorem zsT (k:G') (h:Hid G'→G:=by intro zk0;refine(CallV.part (CallV.fn (hSi _ y1 h2)) (by first|exact ja|(simp only[hpH_app];exact ja))).mono ?_;exact zk0.1):G:=h ⟨k⟩
theorem zqT (k:G') (h:Hid G'→G:=by intro zk0;(first|refine KD.v1 rfl rfl (Val.fieldSl (k:=5) rfl rfl) ?_|refine KD.v1 rfl rfl (Val.fieldAddr0 (k:=5) rfl rfl) ?_|refine KD.v1 rfl rfl (Val.fieldAddrZ rfl rfl) ?_|refine KD.v1 rfl rfl (Val.fieldAddr (k:=5) rfl rfl) ?_);exact zk0.1):G:=h ⟨k⟩
theorem zsU (k:G') (h:Hid G'→G:=by intro zk0;refine(CallV.part (CallV.fn (hCy _ y1 h2)) (by first|exact ja|(simp only[hpH_app];exact ja))).mono ?_;exact zk0.1):G:=h ⟨k⟩
theorem zsV (k:G') (h:Hid G'→G:=by intro zk0;refine(CallV.part (CallV.fn (hAc _ y1 h2)) (by first|exact ja|(simp only[hpH_app];exact ja))).mono ?_;exact zk0.1):G:=h ⟨k⟩
theorem zsW (k:G') (h:Hid G'→G:=by intro zk0;(first|refine KD.v0 rfl rfl (Val.fieldSl (k:=6) rfl rfl) ?_|refine KD.v0 rfl rfl (Val.fieldAddr0 (k:=6) rfl rfl) ?_|refine KD.v0 rfl rfl (Val.fieldAddrZ rfl rfl) ?_|refine KD.v0 rfl rfl (Val.fieldAddr (k:=6) rfl rfl) ?_);exact zk0.1):G:=h ⟨k⟩
theorem zoX (k:G') (h:Hid G'→G:=by intro zk0;refine Call.enter3 (n:=32) (by rfl) Tryz.func52 rfl rfl rfl ?_;exact zk0.1):G:=h ⟨k⟩
theorem zqU (k:G') (h:Hid G'→G:=by intro zk0;refine Call.enter1 (n:=12) (by rfl) Tryz.func53 rfl rfl rfl ?_;exact zk0.1):G:=h ⟨k⟩
theorem zdw (h:G:=by exact KE.fin je rfl jd (by first|exact ja|(simp only[fmH_app];exact ja)) ⟨rfl,rfl⟩):G:=h
theorem zqV (k:G') (h:Hid G'→G:=by intro zk0;refine Call.enter2 (n:=18) (by rfl) Tryz.func59 rfl rfl rfl ?_;exact zk0.1):G:=h ⟨k⟩
theorem zoY (k:G') (h:Hid G'→G:=by intro zk0;refine Call.enter2 (n:=13) (by rfl) Tryz.func27 rfl rfl rfl ?_;exact zk0.1):G:=h ⟨k⟩
theorem zqW (k:G') (h:Hid G'→G:=by intro zk0;refine jn (fmnone_K (f:=f)) ja ?_;exact zk0.1):G:=h ⟨k⟩
theorem zoZ (k:G') (h:Hid G'→G:=by intro zk0;refine Call.enter3 (n:=21) (by rfl) Tryz.func19 rfl rfl rfl ?_;exact zk0.1):G:=h ⟨k⟩
theorem zgW (k:G') (h:Hid G'→G:=by intro zk0;refine jB (hdo _) ja ?_;exact zk0.1):G:=h ⟨k⟩
theorem zo0 (k:G') (h:Hid G'→G:=by intro zk0;refine Call.enter2 (n:=14) (by rfl) Tryz.func18 rfl rfl rfl ?_;exact zk0.1):G:=h ⟨k⟩
theorem zbv (k:G') (h:Hid G'→G:=by intro zk0;refine(CallV.part (CallV.fn (hdo _)) ja).mono ?_;exact zk0.1):G:=h ⟨k⟩
theorem zqX (k:G') (h:Hid G'→G:=by intro zk0;refine K.drawn _ [(0,0),(1,0),(2,0),(4,1),(5,1),(6,1),(7,1),(3,2),(8,2),(9,0)] (by rfl) (by rfl) (by kernel_rfl) (by rfl) (by rfl) (by rfl) Part.all ?_;exact zk0.1):G:=h ⟨k⟩
theorem zgX (h:G:=by exact⟨rfl,f',⟨a.ok,a.to_.b,a.to_.c,a.hs⟩,rfl⟩):G:=h
theorem zQ (k:G') (h:Hid G'→G:=by intro zk0;refine zj ?_;refine zl ?_;exact zk0.1):G:=h ⟨k⟩
theorem zrl (k:G') (h:Hid G'→G:=by intro zk0;refine za3 ?_;refine zfy ?_;exact zk0.1):G:=h ⟨k⟩
theorem zm (k:G') (h:Hid G'→G:=by intro zk0;refine zt ?_;refine zrl ?_;exact zk0.1):G:=h ⟨k⟩
theorem zB (k:G') (h:Hid G'→G:=by intro zk0;refine zj ?_;refine zj ?_;exact zk0.1):G:=h ⟨k⟩
theorem zah (k:G') (h:Hid G'→G:=by intro zk0;refine zt ?_;refine zal ?_;exact zk0.1):G:=h ⟨k⟩
theorem zbX (k:G') (h:Hid G'→G:=by intro zk0;refine zt ?_;refine zbu ?_;exact zk0.1):G:=h ⟨k⟩
theorem zX (k:G') (h:Hid G'→G:=by intro zk0;refine zQ ?_;refine zQ ?_;exact zk0.1):G:=h ⟨k⟩
theorem zcM (k:G') (h:Hid G'→G:=by intro zk0;refine zgN ?_;refine zgN ?_;exact zk0.1):G:=h ⟨k⟩
theorem zn (k:G') (h:Hid G'→G:=by intro zk0;refine zj ?_;refine zp ?_;exact zk0.1):G:=h ⟨k⟩
theorem zh4 (k:G') (h:Hid G'→G:=by intro zk0;refine zp7 ?_;refine zp7 ?_;exact zk0.1):G:=h ⟨k⟩
theorem zbF (k:G') (h:Hid G'→G:=by intro zk0;refine zj ?_;refine zh4 ?_;exact zk0.1):G:=h ⟨k⟩
theorem znl (k:G') (h:Hid G'→G:=by intro zk0;refine zbe ?_;intro v0;refine zeV ?_;revert v0;exact zk0.1):G:=h ⟨k⟩
theorem zcN (k:G') (h:Hid G'→G:=by intro zk0;refine zj ?_;refine zcM ?_;exact zk0.1):G:=h ⟨k⟩
theorem zad (k:G') (h:Hid G'→G:=by intro zk0;refine zbX ?_;refine zj ?_;exact zk0.1):G:=h ⟨k⟩
theorem zbY (k:G') (h:Hid G'→G:=by intro zk0;refine zG ?_;refine zfz ?_;intro v0;revert v0;exact zk0.1):G:=h ⟨k⟩
theorem zN (k:G') (h:Hid G'→G:=by intro zk0;refine zcJ ?_;refine zw ?_;exact zk0.1):G:=h ⟨k⟩
theorem znm (k:G') (h:Hid G'→G:=by intro zk0;refine zw ?_;refine zl ?_;exact zk0.1):G:=h ⟨k⟩
theorem zaD (k:G') (h:Hid G'→G:=by intro zk0;refine zl ?_;refine znm ?_;exact zk0.1):G:=h ⟨k⟩
theorem zF (k:G') (h:Hid G'→G:=by intro zk0;refine zj ?_;refine zS ?_;exact zk0.1):G:=h ⟨k⟩
theorem zbc (k:G') (h:Hid G'→G:=by intro zk0;refine zbY ?_;intro v0;refine zbe ?_;intro v1;revert v0 v1;exact zk0.1):G:=h ⟨k⟩
theorem zap (k:G') (h:Hid G'→G:=by intro zk0;refine zah ?_;refine zj ?_;exact zk0.1):G:=h ⟨k⟩
theorem zaE (k:G') (h:Hid G'→G:=by intro zk0;refine zm ?_;refine zaS ?_;exact zk0.1):G:=h ⟨k⟩
theorem zpu (k:G') (h:Hid G'→G:=by intro zk0;refine znW ?_;refine znX ?_;exact zk0.1):G:=h ⟨k⟩
theorem zY (k:G') (h:Hid G'→G:=by intro zk0;refine zbF ?_;refine zt ?_;exact zk0.1):G:=h ⟨k⟩
theorem zq (h:G:=by refine zm ?_;exact zH):G:=h
theorem zbd (k:G') (h:Hid G'→G:=by intro zk0;refine zbF ?_;refine znl ?_;intro v0;revert v0;exact zk0.1):G:=h ⟨k⟩
theorem zaK (k:G') (h:Hid G'→G:=by intro zk0;refine zt ?_;refine zR ?_;exact zk0.1):G:=h ⟨k⟩
theorem zce (k:G') (h:Hid G'→G:=by intro zk0;refine zdo ?_;refine zB ?_;exact zk0.1):G:=h ⟨k⟩
theorem zjU (k:G') (h:Hid G'→G:=by intro zk0;refine zaw ?_;refine zks ?_;exact zk0.1):G:=h ⟨k⟩
theorem zrm (k:G') (h:Hid G'→G:=by intro zk0;refine zgM ?_;refine znW ?_;exact zk0.1):G:=h ⟨k⟩
theorem zpv (k:G') (h:Hid G'→G:=by intro zk0;refine zrm ?_;refine zpu ?_;exact zk0.1):G:=h ⟨k⟩
theorem zjV (k:G') (h:Hid G'→G:=by intro zk0;refine zco ?_;refine zl ?_;exact zk0.1):G:=h ⟨k⟩
theorem zcf (k:G') (h:Hid G'→G:=by intro zk0;refine zau ?_;refine zp ?_;exact zk0.1):G:=h ⟨k⟩
theorem zem (k:G') (h:Hid G'→G:=by intro zk0;refine zcN ?_;refine zgN ?_;exact zk0.1):G:=h ⟨k⟩
theorem zL (k:G') (h:Hid G'→G:=by intro zk0;refine zG ?_;refine zt ?_;exact zk0.1):G:=h ⟨k⟩
theorem zcv (k:G') (h:Hid G'→G:=by intro zk0;refine ziW ?_;refine zam ?_;exact zk0.1):G:=h ⟨k⟩
theorem zZ (k:G') (h:Hid G'→G:=by intro zk0;refine za4 ?_;refine zj ?_;exact zk0.1):G:=h ⟨k⟩
theorem zay (k:G') (h:Hid G'→G:=by intro zk0;refine zah ?_;refine zB ?_;exact zk0.1):G:=h ⟨k⟩
theorem zh5 (k:G') (h:Hid G'→G:=by intro zk0;refine zeV ?_;refine zrl ?_;exact zk0.1):G:=h ⟨k⟩
theorem zdT (k:G') (h:Hid G'→G:=by intro zk0;refine zcN ?_;refine zcM ?_;exact zk0.1):G:=h ⟨k⟩
theorem zai (k:G') (h:Hid G'→G:=by intro zk0;refine zG ?_;refine zad ?_;exact zk0.1):G:=h ⟨k⟩
theorem zbg (k:G') (h:Hid G'→G:=by intro zk0;refine zem ?_;refine zx ?_;exact zk0.1):G:=h ⟨k⟩
theorem zen (k:G') (h:Hid G'→G:=by intro zk0;refine zco ?_;refine zI ?_;exact zk0.1):G:=h ⟨k⟩
theorem ze1 (k:G') (h:Hid G'→G:=by intro zk0;refine zc3 ?_;refine zw ?_;exact zk0.1):G:=h ⟨k⟩
theorem ze2 (k:G') (h:Hid G'→G:=by intro zk0;refine zbX ?_;refine zn ?_;exact zk0.1):G:=h ⟨k⟩
theorem znn (k:G') (h:Hid G'→G:=by intro zk0;refine znl ?_;intro v0;refine zbu ?_;revert v0;exact zk0.1):G:=h ⟨k⟩
theorem zcw (k:G') (h:Hid G'→G:=by intro zk0;refine zt ?_;refine zp6 ?_;exact zk0.1):G:=h ⟨k⟩
theorem zaa (k:G') (h:Hid G'→G:=by intro zk0;refine zaz ?_;refine zw ?_;exact zk0.1):G:=h ⟨k⟩
theorem zaW (k:G') (h:Hid G'→G:=by intro zk0;refine zo ?_;refine zhJ ?_;exact zk0.1):G:=h ⟨k⟩
theorem zbG (k:G') (h:Hid G'→G:=by intro zk0;refine zef ?_;refine zaS ?_;exact zk0.1):G:=h ⟨k⟩
theorem zlb (k:G') (h:Hid G'→G:=by intro zk0;refine zbc ?_;intro v0 v1;refine zal ?_;revert v0 v1;exact zk0.1):G:=h ⟨k⟩
theorem ze3 (k:G') (h:Hid G'→G:=by intro zk0;refine zX ?_;refine zQ ?_;exact zk0.1):G:=h ⟨k⟩
theorem zfP (k:G') (h:Hid G'→G:=by intro zk0;refine zlD ?_;refine zdm ?_;exact zk0.1):G:=h ⟨k⟩
theorem zdx (k:G') (h:Hid G'→G:=by intro zk0;refine zlG ?_;refine zpv ?_;exact zk0.1):G:=h ⟨k⟩
theorem zbn (k:G') (h:Hid G'→G:=by intro zk0;refine zhT ?_;refine zw ?_;exact zk0.1):G:=h ⟨k⟩
theorem zbH (k:G') (h:Hid G'→G:=by intro zk0;refine zA ?_;refine zQ ?_;exact zk0.1):G:=h ⟨k⟩
theorem zeo (k:G') (h:Hid G'→G:=by intro zk0;refine zj ?_;refine zbl ?_;exact zk0.1):G:=h ⟨k⟩
theorem zbI (k:G') (h:Hid G'→G:=by intro zk0;refine zcJ ?_;refine zaD ?_;exact zk0.1):G:=h ⟨k⟩
theorem zae (k:G') (h:Hid G'→G:=by intro zk0;refine zdQ ?_;refine zw ?_;exact zk0.1):G:=h ⟨k⟩
theorem zU (k:G') (h:Hid G'→G:=by intro zk0;refine zt ?_;refine za3 ?_;exact zk0.1):G:=h ⟨k⟩
theorem zbh (k:G') (h:Hid G'→G:=by intro zk0;refine zA ?_;refine zao ?_;exact zk0.1):G:=h ⟨k⟩
theorem zlc (k:G') (h:Hid G'→G:=by intro zk0;refine zS ?_;refine zl ?_;exact zk0.1):G:=h ⟨k⟩
theorem zbi (k:G') (h:Hid G'→G:=by intro zk0;refine zY ?_;refine zad ?_;exact zk0.1):G:=h ⟨k⟩
theorem zz (k:G') (h:Hid G'→G:=by intro zk0;refine zj ?_;refine zu ?_;exact zk0.1):G:=h ⟨k⟩
theorem zcO (k:G') (h:Hid G'→G:=by intro zk0;refine zaq ?_;refine zal ?_;exact zk0.1):G:=h ⟨k⟩
theorem zav (k:G') (h:Hid G'→G:=by intro zk0;refine zG ?_;refine zah ?_;exact zk0.1):G:=h ⟨k⟩
theorem zaL (h:G:=by refine zaE ?_;exact zH):G:=h
theorem zpw (k:G') (h:Hid G'→G:=by intro zk0;refine zau ?_;refine zh5 ?_;exact zk0.1):G:=h ⟨k⟩
theorem zaf (k:G') (h:Hid G'→G:=by intro zk0;refine zG ?_;refine ze2 ?_;exact zk0.1):G:=h ⟨k⟩
theorem zfQ (k:G') (h:Hid G'→G:=by intro zk0;refine zX ?_;refine zjV ?_;exact zk0.1):G:=h ⟨k⟩
theorem zcx (k:G') (h:Hid G'→G:=by intro zk0;refine zA ?_;refine zX ?_;exact zk0.1):G:=h ⟨k⟩
theorem zrn (k:G') (h:Hid G'→G:=by intro zk0;refine zI ?_;refine ztF ?_;exact zk0.1):G:=h ⟨k⟩
theorem zbw (k:G') (h:Hid G'→G:=by intro zk0;refine zV ?_;refine zj ?_;exact zk0.1):G:=h ⟨k⟩
theorem zg2 (k:G') (h:Hid G'→G:=by intro zk0;refine zG ?_;refine zrn ?_;exact zk0.1):G:=h ⟨k⟩
theorem zas (k:G') (h:Hid G'→G:=by intro zk0;refine zK ?_;refine zF ?_;exact zk0.1):G:=h ⟨k⟩
theorem zpx (k:G') (h:Hid G'→G:=by intro zk0;refine zeo ?_;refine zaK ?_;exact zk0.1):G:=h ⟨k⟩
theorem zdV (k:G') (h:Hid G'→G:=by intro zk0;refine zce ?_;refine zen ?_;exact zk0.1):G:=h ⟨k⟩
theorem zaO (k:G') (h:Hid G'→G:=by intro zk0;refine zbd ?_;intro v0;refine zap ?_;revert v0;exact zk0.1):G:=h ⟨k⟩
theorem zpy (k:G') (h:Hid G'→G:=by intro zk0;refine zbS ?_;refine zbg ?_;exact zk0.1):G:=h ⟨k⟩
theorem zjW (k:G') (h:Hid G'→G:=by intro zk0;refine zau ?_;refine zl ?_;exact zk0.1):G:=h ⟨k⟩
theorem zaF (k:G') (h:Hid G'→G:=by intro zk0;refine zdo ?_;refine zj ?_;exact zk0.1):G:=h ⟨k⟩
theorem zbo (k:G') (h:Hid G'→G:=by intro zk0;refine zo ?_;refine zo ?_;exact zk0.1):G:=h ⟨k⟩
theorem zta (k:G') (h:Hid G'→G:=by intro zk0;refine zj ?_;refine zR ?_;exact zk0.1):G:=h ⟨k⟩
theorem zaX (k:G') (h:Hid G'→G:=by intro zk0;refine zx ?_;refine zK ?_;exact zk0.1):G:=h ⟨k⟩
theorem zbJ (k:G') (h:Hid G'→G:=by intro zk0;refine zsu ?_;refine zam ?_;exact zk0.1):G:=h ⟨k⟩
theorem zcy (k:G') (h:Hid G'→G:=by intro zk0;refine zco ?_;refine zW ?_;exact zk0.1):G:=h ⟨k⟩
theorem zg3 (k:G') (h:Hid G'→G:=by intro zk0;refine zO ?_;refine zt ?_;exact zk0.1):G:=h ⟨k⟩
theorem zpz (k:G') (h:Hid G'→G:=by intro zk0;refine zeg ?_;refine zeg ?_;exact zk0.1):G:=h ⟨k⟩
theorem zep (k:G') (h:Hid G'→G:=by intro zk0;refine zjU ?_;refine zpx ?_;exact zk0.1):G:=h ⟨k⟩
theorem zaV (k:G') (h:Hid G'→G:=by intro zk0;refine zQ ?_;refine zbI ?_;exact zk0.1):G:=h ⟨k⟩
theorem zab (k:G') (h:Hid G'→G:=by intro zk0;refine zt ?_;refine zm ?_;exact zk0.1):G:=h ⟨k⟩
theorem zjX (k:G') (h:Hid G'→G:=by intro zk0;refine zaq ?_;refine za3 ?_;exact zk0.1):G:=h ⟨k⟩
theorem zh6 (k:G') (h:Hid G'→G:=by intro zk0;refine zat ?_;refine zaw ?_;exact zk0.1):G:=h ⟨k⟩
theorem zfS (k:G') (h:Hid G'→G:=by intro zk0;refine zC ?_;refine zcw ?_;exact zk0.1):G:=h ⟨k⟩
theorem zro (k:G') (h:Hid G'→G:=by intro zk0;refine zW ?_;refine ztG ?_;refine zpv ?_;exact zk0.1):G:=h ⟨k⟩
theorem zjY (k:G') (h:Hid G'→G:=by intro zk0;refine zb9 ?_;refine zfy ?_;exact zk0.1):G:=h ⟨k⟩
theorem zld (k:G') (h:Hid G'→G:=by intro zk0;refine zfF ?_;refine zB ?_;exact zk0.1):G:=h ⟨k⟩
theorem zpA (k:G') (h:Hid G'→G:=by intro zk0;refine zg3 ?_;refine zaR ?_;exact zk0.1):G:=h ⟨k⟩
theorem zc5 (k:G') (h:Hid G'→G:=by intro zk0;refine zG ?_;refine zro ?_;exact zk0.1):G:=h ⟨k⟩
theorem zdy (k:G') (h:Hid G'→G:=by intro zk0;refine zc4 ?_;refine zw ?_;exact zk0.1):G:=h ⟨k⟩
theorem ze4 (k:G') (h:Hid G'→G:=by intro zk0;refine ztI ?_;intro v0;refine zcp ?_;revert v0;exact zk0.1):G:=h ⟨k⟩
theorem zbj (k:G') (h:Hid G'→G:=by intro zk0;refine zj ?_;refine zc1 ?_;exact zk0.1):G:=h ⟨k⟩
theorem zte (k:G') (h:Hid G'→G:=by intro zk0;refine zsu ?_;refine zcv ?_;exact zk0.1):G:=h ⟨k⟩
theorem zer (k:G') (h:Hid G'→G:=by intro zk0;refine ze3 ?_;refine zjV ?_;exact zk0.1):G:=h ⟨k⟩
theorem za8 (k:G') (h:Hid G'→G:=by intro zk0;refine zx ?_;refine zao ?_;exact zk0.1):G:=h ⟨k⟩
theorem zaY (k:G') (h:Hid G'→G:=by intro zk0;refine zX ?_;refine zlc ?_;exact zk0.1):G:=h ⟨k⟩
theorem ztf (k:G') (h:Hid G'→G:=by intro zk0;refine zo ?_;refine znY ?_;exact zk0.1):G:=h ⟨k⟩
theorem zbx (k:G') (h:Hid G'→G:=by intro zk0;refine zG ?_;refine zbe ?_;intro v0;revert v0;exact zk0.1):G:=h ⟨k⟩
theorem zaM (k:G') (h:Hid G'→G:=by intro zk0;simp only[hpH_app];refine zi ?_;exact zk0.1):G:=h ⟨k⟩
theorem zcP (k:G') (h:Hid G'→G:=by intro zk0;refine ztO ?_;refine zcb ?_;exact zk0.1):G:=h ⟨k⟩
theorem zbK (k:G') (h:Hid G'→G:=by intro zk0;refine zdQ ?_;refine zaD ?_;exact zk0.1):G:=h ⟨k⟩
theorem zdW (k:G') (h:Hid G'→G:=by intro zk0;refine zaq ?_;refine zR ?_;exact zk0.1):G:=h ⟨k⟩
theorem zaH (k:G') (h:Hid G'→G:=by intro zk0;refine zG ?_;refine zj ?_;exact zk0.1):G:=h ⟨k⟩
theorem zjZ (k:G') (h:Hid G'→G:=by intro zk0;refine zN ?_;refine zco ?_;exact zk0.1):G:=h ⟨k⟩
theorem zbp (k:G') (h:Hid G'→G:=by intro zk0;refine zcv ?_;refine zjY ?_;exact zk0.1):G:=h ⟨k⟩
theorem zh7 (k:G') (h:Hid G'→G:=by intro zk0;refine zX ?_;refine zW ?_;exact zk0.1):G:=h ⟨k⟩
theorem zdX (k:G') (h:Hid G'→G:=by intro zk0;refine zt ?_;refine zh6 ?_;exact zk0.1):G:=h ⟨k⟩
theorem zpB (k:G') (h:Hid G'→G:=by intro zk0;refine zbX ?_;refine zcf ?_;exact zk0.1):G:=h ⟨k⟩
theorem zcg (k:G') (h:Hid G'→G:=by intro zk0;refine zal ?_;refine zj ?_;exact zk0.1):G:=h ⟨k⟩
theorem zdY (k:G') (h:Hid G'→G:=by intro zk0;refine zcJ ?_;refine zcO ?_;exact zk0.1):G:=h ⟨k⟩
theorem zes (k:G') (h:Hid G'→G:=by intro zk0;refine zbY ?_;intro v0;refine zt ?_;revert v0;exact zk0.1):G:=h ⟨k⟩
theorem zaZ (k:G') (h:Hid G'→G:=by intro zk0;refine zca ?_;refine zca ?_;exact zk0.1):G:=h ⟨k⟩
theorem zh8 (k:G') (h:Hid G'→G:=by intro zk0;refine zt ?_;refine zc1 ?_;exact zk0.1):G:=h ⟨k⟩
theorem zno (k:G') (h:Hid G'→G:=by intro zk0;refine zcy ?_;refine zdx ?_;exact zk0.1):G:=h ⟨k⟩
theorem znp (k:G') (h:Hid G'→G:=by intro zk0;refine zjU ?_;refine zaB ?_;refine zta ?_;exact zk0.1):G:=h ⟨k⟩
theorem zch (k:G') (h:Hid G'→G:=by intro zk0;refine zah ?_;refine zn ?_;exact zk0.1):G:=h ⟨k⟩
theorem znq (k:G') (h:Hid G'→G:=by intro zk0;refine zm ?_;refine zbG ?_;exact zk0.1):G:=h ⟨k⟩
theorem zj0 (k:G') (h:Hid G'→G:=by intro zk0;refine zpB ?_;refine ztU ?_;exact zk0.1):G:=h ⟨k⟩
theorem zle (k:G') (h:Hid G'→G:=by intro zk0;refine zj ?_;refine zaB ?_;exact zk0.1):G:=h ⟨k⟩
theorem zdZ (k:G') (h:Hid G'→G:=by intro zk0;refine zdT ?_;refine zcM ?_;exact zk0.1):G:=h ⟨k⟩
theorem zcQ (k:G') (h:Hid G'→G:=by intro zk0;refine zbb ?_;refine zeV ?_;exact zk0.1):G:=h ⟨k⟩
theorem zj1 (k:G') (h:Hid G'→G:=by intro zk0;refine zfB ?_;refine zi3 ?_;exact zk0.1):G:=h ⟨k⟩
theorem zh9 (k:G') (h:Hid G'→G:=by intro zk0;refine zh7 ?_;refine zx ?_;exact zk0.1):G:=h ⟨k⟩
theorem zpC (k:G') (h:Hid G'→G:=by intro zk0;refine zhM ?_;refine zj ?_;exact zk0.1):G:=h ⟨k⟩
theorem zet (k:G') (h:Hid G'→G:=by intro zk0;refine ztH ?_;refine zan ?_;exact zk0.1):G:=h ⟨k⟩
theorem zj2 (k:G') (h:Hid G'→G:=by intro zk0;refine zlD ?_;refine zky ?_;exact zk0.1):G:=h ⟨k⟩
theorem zns (k:G') (h:Hid G'→G:=by intro zk0;refine zt ?_;refine zdl ?_;exact zk0.1):G:=h ⟨k⟩
theorem zti (k:G') (h:Hid G'→G:=by intro zk0;refine zaA ?_;refine zA ?_;exact zk0.1):G:=h ⟨k⟩
theorem zlf (k:G') (h:Hid G'→G:=by intro zk0;refine ztf ?_;refine zp8 ?_;exact zk0.1):G:=h ⟨k⟩
theorem zbL (k:G') (h:Hid G'→G:=by intro zk0;refine zav ?_;refine zn ?_;exact zk0.1):G:=h ⟨k⟩
theorem zfT (k:G') (h:Hid G'→G:=by intro zk0;refine zG ?_;refine zap ?_;exact zk0.1):G:=h ⟨k⟩
theorem zrr (k:G') (h:Hid G'→G:=by intro zk0;refine zhU ?_;refine zF ?_;exact zk0.1):G:=h ⟨k⟩
theorem zrs (k:G') (h:Hid G'→G:=by intro zk0;refine zdW ?_;refine zaw ?_;exact zk0.1):G:=h ⟨k⟩
theorem zd0 (k:G') (h:Hid G'→G:=by intro zk0;refine zcw ?_;refine zj ?_;exact zk0.1):G:=h ⟨k⟩
theorem zc6 (k:G') (h:Hid G'→G:=by intro zk0;refine zG ?_;refine zay ?_;exact zk0.1):G:=h ⟨k⟩
theorem zib (k:G') (h:Hid G'→G:=by intro zk0;refine zbw ?_;refine zm ?_;exact zk0.1):G:=h ⟨k⟩
theorem zbq (k:G') (h:Hid G'→G:=by intro zk0;refine zB ?_;refine zp ?_;exact zk0.1):G:=h ⟨k⟩
theorem zg4 (k:G') (h:Hid G'→G:=by intro zk0;refine zL ?_;refine za3 ?_;exact zk0.1):G:=h ⟨k⟩
theorem zc7 (k:G') (h:Hid G'→G:=by intro zk0;refine zdT ?_;refine zbh ?_;exact zk0.1):G:=h ⟨k⟩
theorem zdA (k:G') (h:Hid G'→G:=by intro zk0;refine zlP ?_;refine zan ?_;exact zk0.1):G:=h ⟨k⟩
theorem zbM (k:G') (h:Hid G'→G:=by intro zk0;refine zbi ?_;refine zaj ?_;exact zk0.1):G:=h ⟨k⟩
theorem ztm (k:G') (h:Hid G'→G:=by intro zk0;refine zrs ?_;refine zrr ?_;exact zk0.1):G:=h ⟨k⟩
theorem zaI (k:G') (h:Hid G'→G:=by intro zk0;refine zw ?_;refine zp ?_;exact zk0.1):G:=h ⟨k⟩
theorem zdB (k:G') (h:Hid G'→G:=by intro zk0;refine zaq ?_;refine zrl ?_;exact zk0.1):G:=h ⟨k⟩
theorem zaQ (k:G') (h:Hid G'→G:=by intro zk0;refine zag ?_;refine zao ?_;exact zk0.1):G:=h ⟨k⟩
theorem znt (k:G') (h:Hid G'→G:=by intro zk0;refine zbo ?_;refine zj1 ?_;exact zk0.1):G:=h ⟨k⟩
theorem zru (k:G') (h:Hid G'→G:=by intro zk0;refine zqx ?_;refine znW ?_;exact zk0.1):G:=h ⟨k⟩
theorem zcz (k:G') (h:Hid G'→G:=by intro zk0;refine zaj ?_;refine zx ?_;exact zk0.1):G:=h ⟨k⟩
theorem zbZ (k:G') (h:Hid G'→G:=by intro zk0;refine zbb ?_;refine zbb ?_;exact zk0.1):G:=h ⟨k⟩
theorem znu (k:G') (h:Hid G'→G:=by intro zk0;refine zaF ?_;refine zaa ?_;exact zk0.1):G:=h ⟨k⟩
theorem zcA (k:G') (h:Hid G'→G:=by intro zk0;refine zx ?_;refine zm ?_;exact zk0.1):G:=h ⟨k⟩
theorem ze7 (k:G') (h:Hid G'→G:=by intro zk0;refine zlf ?_;refine zte ?_;exact zk0.1):G:=h ⟨k⟩
theorem zbN (k:G') (h:Hid G'→G:=by intro zk0;refine zbY ?_;intro v0;refine zah ?_;revert v0;exact zk0.1):G:=h ⟨k⟩
theorem zcR (k:G') (h:Hid G'→G:=by intro zk0;refine zce ?_;refine zno ?_;exact zk0.1):G:=h ⟨k⟩
theorem zbO (h:G:=by refine zA ?_;exact zq):G:=h
theorem zrv (k:G') (h:Hid G'→G:=by intro zk0;refine zaS ?_;refine zbG ?_;exact zk0.1):G:=h ⟨k⟩
theorem za0 (k:G') (h:Hid G'→G:=by intro zk0;refine zw ?_;refine zS ?_;exact zk0.1):G:=h ⟨k⟩
theorem zfU (k:G') (h:Hid G'→G:=by intro zk0;refine zcp ?_;refine zam ?_;exact zk0.1):G:=h ⟨k⟩
theorem zcS (k:G') (h:Hid G'→G:=by intro zk0;refine zbS ?_;refine zx ?_;exact zk0.1):G:=h ⟨k⟩
theorem zev (k:G') (h:Hid G'→G:=by intro zk0;refine zX ?_;refine zp ?_;exact zk0.1):G:=h ⟨k⟩
theorem zid (k:G') (h:Hid G'→G:=by intro zk0;refine zg2 ?_;refine zj ?_;exact zk0.1):G:=h ⟨k⟩
theorem zc8 (k:G') (h:Hid G'→G:=by intro zk0;refine zaz ?_;refine zaD ?_;exact zk0.1):G:=h ⟨k⟩
theorem zc9 (k:G') (h:Hid G'→G:=by intro zk0;refine ze3 ?_;refine zlc ?_;exact zk0.1):G:=h ⟨k⟩
theorem zew (k:G') (h:Hid G'→G:=by intro zk0;refine zbY ?_;intro v0;refine zfz ?_;intro v1;revert v0 v1;exact zk0.1):G:=h ⟨k⟩
theorem za9 (k:G') (h:Hid G'→G:=by intro zk0;refine zB ?_;refine zu ?_;exact zk0.1):G:=h ⟨k⟩
theorem zd1 (k:G') (h:Hid G'→G:=by intro zk0;refine zaX ?_;refine zj ?_;exact zk0.1):G:=h ⟨k⟩
theorem zda (k:G') (h:Hid G'→G:=by intro zk0;refine znq ?_;refine zrv ?_;exact zk0.1):G:=h ⟨k⟩
theorem zci (k:G') (h:Hid G'→G:=by intro zk0;refine zbb ?_;refine zfz ?_;intro v0;revert v0;exact zk0.1):G:=h ⟨k⟩
theorem zba (k:G') (h:Hid G'→G:=by intro zk0;refine zK ?_;refine zj ?_;exact zk0.1):G:=h ⟨k⟩
theorem zcB (k:G') (h:Hid G'→G:=by intro zk0;refine za4 ?_;refine zB ?_;exact zk0.1):G:=h ⟨k⟩
theorem zlh (k:G') (h:Hid G'→G:=by intro zk0;refine zle ?_;refine zaK ?_;exact zk0.1):G:=h ⟨k⟩
theorem zrx (k:G') (h:Hid G'→G:=by intro zk0;refine zj ?_;refine zaE ?_;exact zk0.1):G:=h ⟨k⟩
theorem ztp (k:G') (h:Hid G'→G:=by intro zk0;refine zX ?_;refine zI ?_;exact zk0.1):G:=h ⟨k⟩
theorem zbr (k:G') (h:Hid G'→G:=by intro zk0;refine zcr ?_;refine zam ?_;exact zk0.1):G:=h ⟨k⟩
theorem zpD (k:G') (h:Hid G'→G:=by intro zk0;refine zeV ?_;refine zm ?_;exact zk0.1):G:=h ⟨k⟩
theorem zcT (k:G') (h:Hid G'→G:=by intro zk0;refine zaW ?_;refine zet ?_;exact zk0.1):G:=h ⟨k⟩
theorem zli (k:G') (h:Hid G'→G:=by intro zk0;refine zt ?_;refine zt ?_;exact zk0.1):G:=h ⟨k⟩
theorem zpE (k:G') (h:Hid G'→G:=by intro zk0;refine zfT ?_;refine zcq ?_;exact zk0.1):G:=h ⟨k⟩
theorem zby (k:G') (h:Hid G'→G:=by intro zk0;refine zbU ?_;refine zw ?_;exact zk0.1):G:=h ⟨k⟩
theorem zg6 (k:G') (h:Hid G'→G:=by intro zk0;refine zP ?_;refine ztN ?_;exact zk0.1):G:=h ⟨k⟩
theorem znw (k:G') (h:Hid G'→G:=by intro zk0;refine zF ?_;refine ze1 ?_;exact zk0.1):G:=h ⟨k⟩
theorem zfV (k:G') (h:Hid G'→G:=by intro zk0;refine zpz ?_;refine zpz ?_;exact zk0.1):G:=h ⟨k⟩
theorem zbP (k:G') (h:Hid G'→G:=by intro zk0;refine zao ?_;refine zj ?_;exact zk0.1):G:=h ⟨k⟩
theorem zig (k:G') (h:Hid G'→G:=by intro zk0;refine zK ?_;refine zau ?_;exact zk0.1):G:=h ⟨k⟩
theorem zbk (k:G') (h:Hid G'→G:=by intro zk0;refine za5 ?_;refine zu ?_;exact zk0.1):G:=h ⟨k⟩
theorem zey (k:G') (h:Hid G'→G:=by intro zk0;refine zbd ?_;intro v0;refine zch ?_;revert v0;exact zk0.1):G:=h ⟨k⟩
theorem zbQ (k:G') (h:Hid G'→G:=by intro zk0;refine znl ?_;intro v0;refine zal ?_;revert v0;exact zk0.1):G:=h ⟨k⟩
theorem zg7 (k:G') (h:Hid G'→G:=by intro zk0;refine zO ?_;refine zX ?_;exact zk0.1):G:=h ⟨k⟩
theorem zez (k:G') (h:Hid G'→G:=by intro zk0;refine za6 ?_;refine zj ?_;exact zk0.1):G:=h ⟨k⟩
theorem zb0 (k:G') (h:Hid G'→G:=by intro zk0;refine zjU ?_;refine zbl ?_;refine zta ?_;exact zk0.1):G:=h ⟨k⟩
theorem zbs (k:G') (h:Hid G'→G:=by intro zk0;refine zbX ?_;refine zh8 ?_;exact zk0.1):G:=h ⟨k⟩
theorem zih (k:G') (h:Hid G'→G:=by intro zk0;refine zqP ?_;refine zP ?_;exact zk0.1):G:=h ⟨k⟩
theorem zcC (k:G') (h:Hid G'→G:=by intro zk0;refine zY ?_;refine zah ?_;exact zk0.1):G:=h ⟨k⟩
theorem ze9 (k:G') (h:Hid G'→G:=by intro zk0;refine zhL ?_;refine zl ?_;exact zk0.1):G:=h ⟨k⟩
theorem zbA (k:G') (h:Hid G'→G:=by intro zk0;refine zdX ?_;refine zV ?_;exact zk0.1):G:=h ⟨k⟩
theorem zb1 (k:G') (h:Hid G'→G:=by intro zk0;refine zcN ?_;refine zx ?_;exact zk0.1):G:=h ⟨k⟩
theorem zb4 (k:G') (h:Hid G'→G:=by intro zk0;refine zbd ?_;intro v0;refine zad ?_;revert v0;exact zk0.1):G:=h ⟨k⟩
theorem zpF (k:G') (h:Hid G'→G:=by intro zk0;refine zsI ?_;refine zh5 ?_;exact zk0.1):G:=h ⟨k⟩
theorem zbR (k:G') (h:Hid G'→G:=by intro zk0;refine zap ?_;refine zaj ?_;exact zk0.1):G:=h ⟨k⟩
theorem zeA (k:G') (h:Hid G'→G:=by intro zk0;refine zpE ?_;refine zaY ?_;exact zk0.1):G:=h ⟨k⟩
theorem zii (k:G') (h:Hid G'→G:=by intro zk0;refine zca ?_;refine zqi ?_;exact zk0.1):G:=h ⟨k⟩
theorem zfb (k:G') (h:Hid G'→G:=by intro zk0;refine zo ?_;refine zbm ?_;exact zk0.1):G:=h ⟨k⟩
theorem zrz (k:G') (h:Hid G'→G:=by intro zk0;refine zay ?_;refine zB ?_;exact zk0.1):G:=h ⟨k⟩
theorem zeB (k:G') (h:Hid G'→G:=by intro zk0;refine zid ?_;refine zah ?_;exact zk0.1):G:=h ⟨k⟩
theorem zcj (k:G') (h:Hid G'→G:=by intro zk0;refine zjU ?_;refine zlh ?_;exact zk0.1):G:=h ⟨k⟩
theorem zdD (k:G') (h:Hid G'→G:=by intro zk0;refine zat ?_;refine zep ?_;exact zk0.1):G:=h ⟨k⟩
theorem zb5 (h:G:=by refine zt ?_;exact zq):G:=h
theorem zlk (h:G:=by simp only[List.cons_append,List.nil_append];exact ja):G:=h
theorem zdd (k:G') (h:Hid G'→G:=by intro zk0;refine ze4 ?_;intro v0;refine zbJ ?_;revert v0;exact zk0.1):G:=h ⟨k⟩
theorem zcD (k:G') (h:Hid G'→G:=by intro zk0;refine zdT ?_;refine zgN ?_;exact zk0.1):G:=h ⟨k⟩
theorem zcE (k:G') (h:Hid G'→G:=by intro zk0;refine zac ?_;refine za8 ?_;exact zk0.1):G:=h ⟨k⟩
theorem zck (k:G') (h:Hid G'→G:=by intro zk0;refine zd0 ?_;refine zW ?_;exact zk0.1):G:=h ⟨k⟩
theorem zb6 (k:G') (h:Hid G'→G:=by intro zk0;refine zB ?_;refine zS ?_;exact zk0.1):G:=h ⟨k⟩
theorem zfd (k:G') (h:Hid G'→G:=by intro zk0;refine zL ?_;refine zi2 ?_;exact zk0.1):G:=h ⟨k⟩
theorem zfe (k:G') (h:Hid G'→G:=by intro zk0;refine zN ?_;refine zj ?_;exact zk0.1):G:=h ⟨k⟩
theorem zcl (k:G') (h:Hid G'→G:=by intro zk0;refine zkt ?_;refine zfU ?_;exact zk0.1):G:=h ⟨k⟩
theorem zts (k:G') (h:Hid G'→G:=by intro zk0;refine zY ?_;refine zns ?_;exact zk0.1):G:=h ⟨k⟩
theorem zil (k:G') (h:Hid G'→G:=by intro zk0;refine zbF ?_;refine zp7 ?_;refine zli ?_;exact zk0.1):G:=h ⟨k⟩
theorem zb7 (k:G') (h:Hid G'→G:=by intro zk0;refine zes ?_;intro v0;refine zbX ?_;revert v0;exact zk0.1):G:=h ⟨k⟩
theorem zg8 (k:G') (h:Hid G'→G:=by intro zk0;refine zau ?_;refine zn ?_;exact zk0.1):G:=h ⟨k⟩
theorem znx (k:G') (h:Hid G'→G:=by intro zk0;refine zP ?_;refine zp8 ?_;refine zp8 ?_;refine ze4 ?_;intro v0;refine zte ?_;revert v0;exact zk0.1):G:=h ⟨k⟩
theorem zrA (k:G') (h:Hid G'→G:=by intro zk0;refine zja ?_;refine zqQ ?_;exact zk0.1):G:=h ⟨k⟩
theorem zcU (k:G') (h:Hid G'→G:=by intro zk0;refine zB ?_;refine zfP ?_;exact zk0.1):G:=h ⟨k⟩
theorem zny (k:G') (h:Hid G'→G:=by intro zk0;simp only[fmH_app];refine zas ?_;exact zk0.1):G:=h ⟨k⟩
theorem zlm (k:G') (h:Hid G'→G:=by intro zk0;refine zp ?_;refine zpF ?_;exact zk0.1):G:=h ⟨k⟩
theorem zim (k:G') (h:Hid G'→G:=by intro zk0;refine zaA ?_;refine zx ?_;exact zk0.1):G:=h ⟨k⟩
theorem zin (k:G') (h:Hid G'→G:=by intro zk0;refine zW ?_;refine zdx ?_;exact zk0.1):G:=h ⟨k⟩
theorem zln (k:G') (h:Hid G'→G:=by intro zk0;refine zdV ?_;refine zkz ?_;exact zk0.1):G:=h ⟨k⟩
theorem zcF (k:G') (h:Hid G'→G:=by intro zk0;refine zF ?_;refine zdy ?_;exact zk0.1):G:=h ⟨k⟩
theorem zde (k:G') (h:Hid G'→G:=by intro zk0;refine zc6 ?_;refine zp ?_;exact zk0.1):G:=h ⟨k⟩
theorem zcG (k:G') (h:Hid G'→G:=by intro zk0;refine zan ?_;refine zhJ ?_;exact zk0.1):G:=h ⟨k⟩
theorem zio (k:G') (h:Hid G'→G:=by intro zk0;simp only[js,seenH_app];refine zy ?_;exact zk0.1):G:=h ⟨k⟩
theorem zcH (k:G') (h:Hid G'→G:=by intro zk0;refine zcN ?_;refine zA ?_;exact zk0.1):G:=h ⟨k⟩
theorem zcV (k:G') (h:Hid G'→G:=by intro zk0;refine zam ?_;refine zhP ?_;exact zk0.1):G:=h ⟨k⟩
theorem zcm (k:G') (h:Hid G'→G:=by intro zk0;refine zco ?_;refine zbj ?_;exact zk0.1):G:=h ⟨k⟩
theorem znz (k:G') (h:Hid G'→G:=by intro zk0;refine zts ?_;refine zj ?_;exact zk0.1):G:=h ⟨k⟩
theorem zcn (k:G') (h:Hid G'→G:=by intro zk0;refine znw ?_;refine zu ?_;exact zk0.1):G:=h ⟨k⟩
theorem ztt (k:G') (h:Hid G'→G:=by intro zk0;refine zh9 ?_;refine zer ?_;exact zk0.1):G:=h ⟨k⟩
theorem zcW (k:G') (h:Hid G'→G:=by intro zk0;refine zt ?_;refine zaE ?_;exact zk0.1):G:=h ⟨k⟩
theorem znA (k:G') (h:Hid G'→G:=by intro zk0;refine ztK ?_;refine zr5 ?_;exact zk0.1):G:=h ⟨k⟩
theorem zcX (k:G') (h:Hid G'→G:=by intro zk0;refine zkI ?_;refine zaJ ?_;exact zk0.1):G:=h ⟨k⟩
theorem zip (k:G') (h:Hid G'→G:=by intro zk0;refine zc5 ?_;refine znp ?_;exact zk0.1):G:=h ⟨k⟩
theorem zdf (k:G') (h:Hid G'→G:=by intro zk0;refine zV ?_;refine zm ?_;exact zk0.1):G:=h ⟨k⟩
theorem zrC (k:G') (h:Hid G'→G:=by intro zk0;refine znn ?_;intro v0;refine zN ?_;revert v0;exact zk0.1):G:=h ⟨k⟩
theorem zrD (k:G') (h:Hid G'→G:=by intro zk0;refine zN ?_;refine zae ?_;exact zk0.1):G:=h ⟨k⟩
theorem zrE (k:G') (h:Hid G'→G:=by intro zk0;refine zg4 ?_;refine zZ ?_;exact zk0.1):G:=h ⟨k⟩
theorem zdg (k:G') (h:Hid G'→G:=by intro zk0;refine zds ?_;refine zw ?_;exact zk0.1):G:=h ⟨k⟩
theorem zlp (k:G') (h:Hid G'→G:=by intro zk0;refine zl ?_;refine zQ ?_;exact zk0.1):G:=h ⟨k⟩
theorem zj8 (k:G') (h:Hid G'→G:=by intro zk0;simp only[js,seenH_app];refine zlT ?_;exact zk0.1):G:=h ⟨k⟩
theorem zdh (k:G') (h:Hid G'→G:=by intro zk0;refine zA ?_;refine zm ?_;exact zk0.1):G:=h ⟨k⟩
theorem ztv (k:G') (h:Hid G'→G:=by intro zk0;refine zig ?_;refine zeV ?_;exact zk0.1):G:=h ⟨k⟩
theorem zcY (k:G') (h:Hid G'→G:=by intro zk0;refine zau ?_;refine zu ?_;exact zk0.1):G:=h ⟨k⟩
theorem zdi (k:G') (h:Hid G'→G:=by intro zk0;refine zc2 ?_;refine zw ?_;exact zk0.1):G:=h ⟨k⟩
theorem zff (k:G') (h:Hid G'→G:=by intro zk0;refine znu ?_;refine zen ?_;exact zk0.1):G:=h ⟨k⟩
theorem zdj (k:G') (h:Hid G'→G:=by intro zk0;refine zam ?_;refine zV ?_;exact zk0.1):G:=h ⟨k⟩
theorem zrF (k:G') (h:Hid G'→G:=by intro zk0;refine znY ?_;refine ziW ?_;exact zk0.1):G:=h ⟨k⟩
theorem zpI (k:G') (h:Hid G'→G:=by intro zk0;refine zl ?_;refine zy ?_;exact zk0.1):G:=h ⟨k⟩
theorem zeC (k:G') (h:Hid G'→G:=by intro zk0;refine zl ?_;refine zag ?_;exact zk0.1):G:=h ⟨k⟩
theorem zpJ (k:G') (h:Hid G'→G:=by intro zk0;refine zg6 ?_;refine zcP ?_;exact zk0.1):G:=h ⟨k⟩
theorem zeD (k:G') (h:Hid G'→G:=by intro zk0;refine zbX ?_;refine zB ?_;exact zk0.1):G:=h ⟨k⟩
theorem ztw (k:G') (h:Hid G'→G:=by intro zk0;refine ztS ?_;refine zcb ?_;exact zk0.1):G:=h ⟨k⟩
theorem zrG (k:G') (h:Hid G'→G:=by intro zk0;refine zae ?_;refine zp ?_;exact zk0.1):G:=h ⟨k⟩
theorem zpK (k:G') (h:Hid G'→G:=by intro zk0;refine zkO ?_;refine zaJ ?_;exact zk0.1):G:=h ⟨k⟩
theorem zdJ (k:G') (h:Hid G'→G:=by intro zk0;refine zdZ ?_;refine zgN ?_;exact zk0.1):G:=h ⟨k⟩
theorem ztx (k:G') (h:Hid G'→G:=by intro zk0;refine zc3 ?_;refine zaq ?_;exact zk0.1):G:=h ⟨k⟩
theorem znB (k:G') (h:Hid G'→G:=by intro zk0;simp only[jbL,Bool.false_eq_true,if_false];refine ze ?_;exact zk0.1):G:=h ⟨k⟩
theorem zd4 (k:G') (h:Hid G'→G:=by intro zk0;refine zQ ?_;refine zjW ?_;exact zk0.1):G:=h ⟨k⟩
theorem zrI (k:G') (h:Hid G'→G:=by intro zk0;refine ztw ?_;refine zmd ?_;exact zk0.1):G:=h ⟨k⟩
theorem zty (k:G') (h:Hid G'→G:=by intro zk0;refine ztY ?_;refine zbS ?_;refine zaV ?_;refine zi0 ?_;refine zaD ?_;exact zk0.1):G:=h ⟨k⟩
theorem znC (k:G') (h:Hid G'→G:=by intro zk0;refine zkD ?_;refine zan ?_;exact zk0.1):G:=h ⟨k⟩
theorem zdK (k:G') (h:Hid G'→G:=by intro zk0;refine zt ?_;refine zi2 ?_;exact zk0.1):G:=h ⟨k⟩
theorem zis (k:G') (h:Hid G'→G:=by intro zk0;refine zl ?_;refine zp ?_;exact zk0.1):G:=h ⟨k⟩
theorem zpO (k:G') (h:Hid G'→G:=by intro zk0;refine zcp ?_;refine zbp ?_;exact zk0.1):G:=h ⟨k⟩
theorem znE (k:G') (h:Hid G'→G:=by intro zk0;refine zqx ?_;refine zpu ?_;exact zk0.1):G:=h ⟨k⟩
theorem znF (k:G') (h:Hid G'→G:=by intro zk0;refine zr8 ?_;refine zan ?_;exact zk0.1):G:=h ⟨k⟩
theorem zd5 (k:G') (h:Hid G'→G:=by intro zk0;refine zt ?_;refine zao ?_;exact zk0.1):G:=h ⟨k⟩
theorem zlu (k:G') (h:Hid G'→G:=by intro zk0;refine zL ?_;refine zay ?_;exact zk0.1):G:=h ⟨k⟩
theorem zeE (k:G') (h:Hid G'→G:=by intro zk0;refine zqg ?_;refine zqg ?_;exact zk0.1):G:=h ⟨k⟩
theorem zpP (k:G') (h:Hid G'→G:=by intro zk0;refine ztW ?_;refine zlb ?_;intro v0 v1;refine zp ?_;refine ztX ?_;refine zrC ?_;intro v2;revert v0 v1 v2;exact zk0.1):G:=h ⟨k⟩
theorem znG (k:G') (h:Hid G'→G:=by intro zk0;refine zce ?_;refine zct ?_;exact zk0.1):G:=h ⟨k⟩
theorem zfg (k:G') (h:Hid G'→G:=by intro zk0;refine K.seq ?_;refine zeU ?_;exact zk0.1):G:=h ⟨k⟩
theorem zfh (k:G') (h:Hid G'→G:=by intro zk0;refine zaj ?_;refine zX ?_;exact zk0.1):G:=h ⟨k⟩
theorem zg9 (k:G') (h:Hid G'→G:=by intro zk0;simp only[hpH_app];refine zdo ?_;exact zk0.1):G:=h ⟨k⟩
theorem zpR (k:G') (h:Hid G'→G:=by intro zk0;refine zC ?_;refine zA ?_;exact zk0.1):G:=h ⟨k⟩
theorem zeF (k:G') (h:Hid G'→G:=by intro zk0;refine zO ?_;refine zao ?_;exact zk0.1):G:=h ⟨k⟩
theorem zrK (k:G') (h:Hid G'→G:=by intro zk0;refine ztM ?_;refine zan ?_;exact zk0.1):G:=h ⟨k⟩
theorem zd6 (k:G') (h:Hid G'→G:=by intro zk0;refine zaa ?_;refine zco ?_;exact zk0.1):G:=h ⟨k⟩
theorem zd7 (k:G') (h:Hid G'→G:=by intro zk0;refine zsb ?_;refine zan ?_;exact zk0.1):G:=h ⟨k⟩
theorem zeH (k:G') (h:Hid G'→G:=by intro zk0;refine ztf ?_;refine zrF ?_;refine zcv ?_;exact zk0.1):G:=h ⟨k⟩
theorem zdL (k:G') (h:Hid G'→G:=by intro zk0;refine zhL ?_;refine zm ?_;exact zk0.1):G:=h ⟨k⟩
theorem zeI (k:G') (h:Hid G'→G:=by intro zk0;refine znz ?_;refine zaj ?_;exact zk0.1):G:=h ⟨k⟩
theorem zrL (k:G') (h:Hid G'→G:=by intro zk0;refine zgM ?_;refine zpu ?_;exact zk0.1):G:=h ⟨k⟩
theorem zeJ (k:G') (h:Hid G'→G:=by intro zk0;refine zcg ?_;refine zm ?_;exact zk0.1):G:=h ⟨k⟩
theorem ztz (k:G') (h:Hid G'→G:=by intro zk0;refine zty ?_;refine ztZ ?_;refine zd1 ?_;refine zrG ?_;refine zqS ?_;exact zk0.1):G:=h ⟨k⟩
theorem zfi (k:G') (h:Hid G'→G:=by intro zk0;refine zt ?_;refine zed ?_;exact zk0.1):G:=h ⟨k⟩
theorem zd8 (k:G') (h:Hid G'→G:=by intro zk0;refine zns ?_;refine zn ?_;exact zk0.1):G:=h ⟨k⟩
theorem zpT (k:G') (h:Hid G'→G:=by intro zk0;refine zbV ?_;refine zii ?_;exact zk0.1):G:=h ⟨k⟩
theorem zrN (k:G') (h:Hid G'→G:=by intro zk0;refine zai ?_;refine zco ?_;exact zk0.1):G:=h ⟨k⟩
theorem zeK (k:G') (h:Hid G'→G:=by intro zk0;refine zcb ?_;refine zP ?_;exact zk0.1):G:=h ⟨k⟩
theorem zdN (k:G') (h:Hid G'→G:=by intro zk0;refine zes ?_;intro v0;refine zah ?_;revert v0;exact zk0.1):G:=h ⟨k⟩
theorem zgc (k:G') (h:Hid G'→G:=by intro zk0;refine zbH ?_;refine zbK ?_;exact zk0.1):G:=h ⟨k⟩
theorem zlv (k:G') (h:Hid G'→G:=by intro zk0;simp only[Jm,jaf];refine zY ?_;exact zk0.1):G:=h ⟨k⟩
theorem zgd (k:G') (h:Hid G'→G:=by intro zk0;refine zdT ?_;refine zA ?_;exact zk0.1):G:=h ⟨k⟩
theorem zeM (k:G') (h:Hid G'→G:=by intro zk0;refine zF ?_;refine zcJ ?_;exact zk0.1):G:=h ⟨k⟩
theorem zd9 (k:G') (h:Hid G'→G:=by intro zk0;refine zo ?_;refine zk ?_;exact zk0.1):G:=h ⟨k⟩
theorem zpU (k:G') (h:Hid G'→G:=by intro zk0;refine zlm ?_;refine zaS ?_;exact zk0.1):G:=h ⟨k⟩
theorem zpV (k:G') (h:Hid G'→G:=by intro zk0;refine zat ?_;refine znp ?_;exact zk0.1):G:=h ⟨k⟩
theorem zeN (k:G') (h:Hid G'→G:=by intro zk0;refine zh9 ?_;refine zc9 ?_;exact zk0.1):G:=h ⟨k⟩
theorem zea (k:G') (h:Hid G'→G:=by intro zk0;refine zcq ?_;refine zcA ?_;exact zk0.1):G:=h ⟨k⟩
theorem zeb (k:G') (h:Hid G'→G:=by intro zk0;refine zaf ?_;refine zqW ?_;exact zk0.1):G:=h ⟨k⟩
theorem zrO (k:G') (h:Hid G'→G:=by intro zk0;refine zaa ?_;refine zp ?_;exact zk0.1):G:=h ⟨k⟩
theorem zfk (k:G') (h:Hid G'→G:=by intro zk0;refine zbl ?_;refine zS ?_;exact zk0.1):G:=h ⟨k⟩
theorem zeO (k:G') (h:Hid G'→G:=by intro zk0;refine zt0 ?_;refine zaC ?_;exact zk0.1):G:=h ⟨k⟩
theorem zeP (k:G') (h:Hid G'→G:=by intro zk0;refine zP ?_;refine zr3 ?_;exact zk0.1):G:=h ⟨k⟩
theorem zpY (k:G') (h:Hid G'→G:=by intro zk0;refine zce ?_;refine zI ?_;exact zk0.1):G:=h ⟨k⟩
theorem zlw (k:G') (h:Hid G'→G:=by intro zk0;refine zaf ?_;refine jn cynone_K ja ?_;exact zk0.1):G:=h ⟨k⟩
theorem zrP (k:G') (h:Hid G'→G:=by intro zk0;refine zK ?_;refine zn ?_;exact zk0.1):G:=h ⟨k⟩
theorem zfl (k:G') (h:Hid G'→G:=by intro zk0;refine zo ?_;refine zfV ?_;exact zk0.1):G:=h ⟨k⟩
theorem zha (k:G') (h:Hid G'→G:=by intro zk0;refine zpI ?_;refine zx ?_;exact zk0.1):G:=h ⟨k⟩
theorem zfm (k:G') (h:Hid G'→G:=by intro zk0;refine za6 ?_;refine zh8 ?_;exact zk0.1):G:=h ⟨k⟩
theorem zfn (k:G') (h:Hid G'→G:=by intro zk0;refine zaW ?_;refine zqh ?_;exact zk0.1):G:=h ⟨k⟩
theorem ztB (k:G') (h:Hid G'→G:=by intro zk0;refine zav ?_;refine zar ?_;intro v0;revert v0;exact zk0.1):G:=h ⟨k⟩
theorem zfo (k:G') (h:Hid G'→G:=by intro zk0;refine ze9 ?_;refine zcS ?_;exact zk0.1):G:=h ⟨k⟩
theorem zgj (k:G') (h:Hid G'→G:=by intro zk0;refine zaW ?_;refine zrK ?_;exact zk0.1):G:=h ⟨k⟩
theorem zeQ (k:G') (h:Hid G'→G:=by intro zk0;refine zhJ ?_;refine zkD ?_;exact zk0.1):G:=h ⟨k⟩
theorem zfp (k:G') (h:Hid G'→G:=by intro zk0;refine zar ?_;intro v0;refine zj ?_;revert v0;exact zk0.1):G:=h ⟨k⟩
theorem zhb (k:G') (h:Hid G'→G:=by intro zk0;refine zaZ ?_;refine znA ?_;exact zk0.1):G:=h ⟨k⟩
theorem zfq (h:G:=by refine zt ?_;exact zaL):G:=h
theorem zfr (k:G') (h:Hid G'→G:=by intro zk0;refine zbb ?_;refine zh5 ?_;exact zk0.1):G:=h ⟨k⟩
theorem zgk (k:G') (h:Hid G'→G:=by intro zk0;refine zpz ?_;refine zeg ?_;exact zk0.1):G:=h ⟨k⟩
theorem zlx (k:G') (h:Hid G'→G:=by intro zk0;refine zaK ?_;refine KE.begin ju ?_;exact zk0.1):G:=h ⟨k⟩
theorem ziw (k:G') (h:Hid G'→G:=by intro zk0;refine zQ ?_;refine zbK ?_;exact zk0.1):G:=h ⟨k⟩
theorem zfs (k:G') (h:Hid G'→G:=by intro zk0;refine zlJ ?_;refine zpO ?_;exact zk0.1):G:=h ⟨k⟩
theorem zft (k:G') (h:Hid G'→G:=by intro zk0;refine zpK ?_;refine zk ?_;exact zk0.1):G:=h ⟨k⟩
theorem zhc (k:G') (h:Hid G'→G:=by intro zk0;refine zem ?_;refine zA ?_;exact zk0.1):G:=h ⟨k⟩
theorem zfv (k:G') (h:Hid G'→G:=by intro zk0;refine zil ?_;refine zad ?_;exact zk0.1):G:=h ⟨k⟩
theorem zp0 (k:G') (h:Hid G'→G:=by intro zk0;refine K.seq (K.block (K.seq (K.region ?_)));refine zj ?_;exact zk0.1):G:=h ⟨k⟩
theorem zfw (k:G') (h:Hid G'→G:=by intro zk0;refine zX ?_;refine zim ?_;exact zk0.1):G:=h ⟨k⟩
theorem zgn (k:G') (h:Hid G'→G:=by intro zk0;refine zcO ?_;refine zm ?_;exact zk0.1):G:=h ⟨k⟩
theorem zgo (k:G') (h:Hid G'→G:=by intro zk0;refine zqH ?_;refine zaC ?_;exact zk0.1):G:=h ⟨k⟩
theorem zeS (k:G') (h:Hid G'→G:=by intro zk0;refine zpP ?_;intro v0 v1 v2;refine ztz ?_;refine zbi ?_;revert v0 v1 v2;exact zk0.1):G:=h ⟨k⟩
theorem zgq (k:G') (h:Hid G'→G:=by intro zk0;refine ztp ?_;refine zx ?_;exact zk0.1):G:=h ⟨k⟩
theorem zgr (k:G') (h:Hid G'→G:=by intro zk0;refine zbo ?_;refine zbm ?_;exact zk0.1):G:=h ⟨k⟩
theorem zgs (k:G') (h:Hid G'→G:=by intro zk0;refine zah ?_;refine zw ?_;exact zk0.1):G:=h ⟨k⟩
theorem zgt (k:G') (h:Hid G'→G:=by intro zk0;refine zkN ?_;refine zaC ?_;exact zk0.1):G:=h ⟨k⟩
theorem zp1 (k:G') (h:Hid G'→G:=by intro zk0;simp only[Jm,jaf,jbn];refine zcC ?_;exact zk0.1):G:=h ⟨k⟩
theorem znL (k:G') (h:Hid G'→G:=by intro zk0;refine zcf ?_;refine jp (htot _ ja) ?_;exact zk0.1):G:=h ⟨k⟩
theorem ztC (k:G') (h:Hid G'→G:=by intro zk0;refine zc5 ?_;refine zb9 ?_;exact zk0.1):G:=h ⟨k⟩
theorem zgv (k:G') (h:Hid G'→G:=by intro zk0;refine zbh ?_;refine zaE ?_;exact zk0.1):G:=h ⟨k⟩
theorem zfx (k:G') (h:Hid G'→G:=by intro zk0;refine zeA ?_;refine zbI ?_;exact zk0.1):G:=h ⟨k⟩
theorem zgx (k:G') (h:Hid G'→G:=by intro zk0;refine zao ?_;refine zaE ?_;exact zk0.1):G:=h ⟨k⟩
theorem zgy (k:G') (h:Hid G'→G:=by intro zk0;refine zce ?_;refine zin ?_;exact zk0.1):G:=h ⟨k⟩
theorem zgz (k:G') (h:Hid G'→G:=by intro zk0;refine zau ?_;refine zbq ?_;exact zk0.1):G:=h ⟨k⟩
theorem zgA (k:G') (h:Hid G'→G:=by intro zk0;refine zaW ?_;refine znC ?_;exact zk0.1):G:=h ⟨k⟩
theorem ziA (h:G:=by rw[shdC_W];exact .refl):G:=h
theorem zhf (k:G') (h:Hid G'→G:=by intro zk0;refine zcf ?_;refine ztL ?_;exact zk0.1):G:=h ⟨k⟩
theorem zhh (k:G') (h:Hid G'→G:=by intro zk0;refine zdX ?_;refine zbw ?_;exact zk0.1):G:=h ⟨k⟩
theorem zgB (k:G') (h:Hid G'→G:=by intro zk0;refine zg8 ?_;refine zhQ ?_;exact zk0.1):G:=h ⟨k⟩
theorem zgC (k:G') (h:Hid G'→G:=by intro zk0;refine zcO ?_;refine zj ?_;exact zk0.1):G:=h ⟨k⟩
theorem zhi (k:G') (h:Hid G'→G:=by intro zk0;refine zdZ ?_;refine zx ?_;exact zk0.1):G:=h ⟨k⟩
theorem zkf (h:G:=by refine zda ?_;exact zdq):G:=h
theorem zhj (k:G') (h:Hid G'→G:=by intro zk0;refine zaD ?_;refine zu ?_;exact zk0.1):G:=h ⟨k⟩
theorem zgD (k:G') (h:Hid G'→G:=by intro zk0;refine zaW ?_;refine znF ?_;exact zk0.1):G:=h ⟨k⟩
theorem zkg (k:G') (h:Hid G'→G:=by intro zk0;simp only[cycH_app];refine zas ?_;exact zk0.1):G:=h ⟨k⟩
theorem zhk (k:G') (h:Hid G'→G:=by intro zk0;refine zo ?_;refine ztR ?_;refine zpT ?_;exact zk0.1):G:=h ⟨k⟩
theorem zgE (k:G') (h:Hid G'→G:=by intro zk0;refine zaW ?_;refine zdA ?_;exact zk0.1):G:=h ⟨k⟩
theorem zhl (k:G') (h:Hid G'→G:=by intro zk0;refine zam ?_;refine zfC ?_;exact zk0.1):G:=h ⟨k⟩
theorem zhm (k:G') (h:Hid G'→G:=by intro zk0;refine zbS ?_;refine zaX ?_;exact zk0.1):G:=h ⟨k⟩
theorem zkh (k:G') (h:Hid G'→G:=by intro zk0;refine zX ?_;refine zX ?_;exact zk0.1):G:=h ⟨k⟩
theorem zhn (k:G') (h:Hid G'→G:=by intro zk0;refine zP ?_;refine zfb ?_;exact zk0.1):G:=h ⟨k⟩
theorem zgF (k:G') (h:Hid G'→G:=by intro zk0;refine ziW ?_;refine zbp ?_;exact zk0.1):G:=h ⟨k⟩
theorem ziD (k:G') (h:Hid G'→G:=by intro zk0;refine zc8 ?_;refine zjV ?_;exact zk0.1):G:=h ⟨k⟩
theorem zrS (h:G:=by rw[Int.toNat_natCast];exact Nat.min_eq_left (by show j≤64;omega)):G:=h
theorem ztD (k:G') (h:Hid G'→G:=by intro zk0;refine zn6 ?_;refine zo ?_;exact zk0.1):G:=h ⟨k⟩
theorem ziE (k:G') (h:Hid G'→G:=by intro zk0;refine zbX ?_;refine zN ?_;exact zk0.1):G:=h ⟨k⟩
theorem zki (k:G') (h:Hid G'→G:=by intro zk0;refine zew ?_;intro v0 v1;refine zbe ?_;intro v2;revert v0 v1 v2;exact zk0.1):G:=h ⟨k⟩
theorem zkk (k:G') (h:Hid G'→G:=by intro zk0;refine znu ?_;refine zno ?_;exact zk0.1):G:=h ⟨k⟩
theorem zhq (k:G') (h:Hid G'→G:=by intro zk0;refine zg2 ?_;refine zfP ?_;exact zk0.1):G:=h ⟨k⟩
theorem ziF (k:G') (h:Hid G'→G:=by intro zk0;refine zY ?_;refine zay ?_;exact zk0.1):G:=h ⟨k⟩
theorem zrU (h:G:=by refine zm ?_;exact KE.fin je rfl jd ja ⟨rfl,hQ F⟩):G:=h
theorem zhr (h:G:=by refine zpU ?_;exact ztT):G:=h
theorem ziH (k:G') (h:Hid G'→G:=by intro zk0;refine zbb ?_;refine zbj ?_;exact zk0.1):G:=h ⟨k⟩
theorem zhs (k:G') (h:Hid G'→G:=by intro zk0;refine zaK ?_;refine znp ?_;exact zk0.1):G:=h ⟨k⟩
theorem zht (k:G') (h:Hid G'→G:=by intro zk0;refine zU ?_;refine zcB ?_;exact zk0.1):G:=h ⟨k⟩
theorem zhu (k:G') (h:Hid G'→G:=by intro zk0;refine zaf ?_;refine zl3 ?_;exact zk0.1):G:=h ⟨k⟩
theorem ziJ (k:G') (h:Hid G'→G:=by intro zk0;refine zlp ?_;refine zp ?_;exact zk0.1):G:=h ⟨k⟩
theorem ziK (k:G') (h:Hid G'→G:=by intro zk0;refine zQ ?_;refine znm ?_;exact zk0.1):G:=h ⟨k⟩
theorem zhw (k:G') (h:Hid G'→G:=by intro zk0;refine zg2 ?_;refine zj2 ?_;refine znl ?_;intro v0;refine zcg ?_;revert v0;exact zk0.1):G:=h ⟨k⟩
theorem zhx (k:G') (h:Hid G'→G:=by intro zk0;refine zL ?_;refine ze2 ?_;exact zk0.1):G:=h ⟨k⟩
theorem zhy (k:G') (h:Hid G'→G:=by intro zk0;refine zlb ?_;intro v0 v1;refine zB ?_;refine zrO ?_;refine ztV ?_;revert v0 v1;exact zk0.1):G:=h ⟨k⟩
theorem zhA (k:G') (h:Hid G'→G:=by intro zk0;refine zG ?_;refine zbX ?_;exact zk0.1):G:=h ⟨k⟩
theorem zhB (k:G') (h:Hid G'→G:=by intro zk0;refine zhT ?_;refine zaD ?_;exact zk0.1):G:=h ⟨k⟩
theorem zhC (k:G') (h:Hid G'→G:=by intro zk0;refine zcT ?_;refine zo ?_;exact zk0.1):G:=h ⟨k⟩
theorem zrV (k:G') (h:Hid G'→G:=by intro zk0;refine zbT ?_;refine KD.e rfl rfl (Eff.box rfl rfl) ?_;rintro _ _ ⟨v0,rfl,rfl⟩;revert v0;exact zk0.1):G:=h ⟨k⟩
theorem zlA (k:G') (h:Hid G'→G:=by intro zk0;refine zlu ?_;refine zp ?_;exact zk0.1):G:=h ⟨k⟩
theorem ziL (h:G:=by refine ziW ?_;refine zbJ ?_;exact ztP):G:=h
theorem znQ (k:G') (h:Hid G'→G:=by intro zk0;refine zp ?_;refine jp cymade_E ?_;exact zk0.1):G:=h ⟨k⟩
theorem zgK (k:G') (h:Hid G'→G:=by intro zk0;refine zci ?_;intro v0;refine zab ?_;revert v0;exact zk0.1):G:=h ⟨k⟩
theorem zlC (k:G') (h:Hid G'→G:=by intro zk0;refine znG ?_;refine zI ?_;exact zk0.1):G:=h ⟨k⟩
theorem zp4 (k:G') (h:Hid G'→G:=by intro zk0;refine zlA ?_;refine jp (find_K ok hk hd hs) ?_;exact zk0.1):G:=h ⟨k⟩
theorem zhD (k:G') (h:Hid G'→G:=by intro zk0;refine zas ?_;refine zfe ?_;exact zk0.1):G:=h ⟨k⟩
theorem ziM (k:G') (h:Hid G'→G:=by intro zk0;refine ztQ ?_;refine zdA ?_;exact zk0.1):G:=h ⟨k⟩
theorem zhE (k:G') (h:Hid G'→G:=by intro zk0;refine zbd ?_;intro v0;refine zah ?_;revert v0;exact zk0.1):G:=h ⟨k⟩
theorem ziN (h:G:=by refine zpw ?_;exact zkX):G:=h
theorem ziO (k:G') (h:Hid G'→G:=by intro zk0;refine zc0 ?_;refine zl ?_;exact zk0.1):G:=h ⟨k⟩
theorem ziP (k:G') (h:Hid G'→G:=by intro zk0;refine zfy ?_;refine zbG ?_;exact zk0.1):G:=h ⟨k⟩
theorem ziQ (k:G') (h:Hid G'→G:=by intro zk0;refine zbN ?_;intro v0;refine zN ?_;revert v0;exact zk0.1):G:=h ⟨k⟩
theorem ziR (k:G') (h:Hid G'→G:=by intro zk0;refine znt ?_;refine ztD ?_;exact zk0.1):G:=h ⟨k⟩
theorem ziS (k:G') (h:Hid G'→G:=by intro zk0;refine zN ?_;refine zn ?_;exact zk0.1):G:=h ⟨k⟩
theorem ziT (k:G') (h:Hid G'→G:=by intro zk0;refine zaJ ?_;refine zr3 ?_;exact zk0.1):G:=h ⟨k⟩
theorem ziU (k:G') (h:Hid G'→G:=by intro zk0;refine ztJ ?_;refine zr5 ?_;exact zk0.1):G:=h ⟨k⟩
theorem ziV (k:G') (h:Hid G'→G:=by intro zk0;refine zse ?_;refine zeg ?_;exact zk0.1):G:=h ⟨k⟩
theorem zrW (k:G') (h:Hid G'→G:=by intro zk0;refine zde ?_;refine jB (cywork2_K (h.ph.trans h2)) ja ?_;exact zk0.1):G:=h ⟨k⟩
theorem zhG (k:G') (h:Hid G'→G:=by intro zk0;refine zny ?_;refine ze1 ?_;exact zk0.1):G:=h ⟨k⟩
end Go.Proofs.YtebiafomiemgbaaGreatDoor
