/-Sequences of steps of the walker,each a theorem with a default proof. -/
import Derived.Test.YtpcgafhgfjlkmaaGreatDoorJ13
set_option linter.unusedVariables false set_option linter.unusedSimpArgs false namespace Go.Proofs.YtpcgafhgfjlkmaaGreatDoor
structure Hid (P:Prop):Prop where
 out:P
set_option linter.unusedVariables false
variable {G G' : Prop}
theorem zy (k:G') (h:Hid G'→G:=by intro zk0;refine K.seq (K.region ?_);exact zk0.1):G:=h ⟨k⟩
theorem zk (k:G') (h:Hid G'→G:=by intro zk0;refine KL.v rfl (Val.assign rfl) ?_;exact zk0.1):G:=h ⟨k⟩
theorem zW (k:G') (h:Hid G'→G:=by intro zk0;refine KL.nil (KE.next (K.seq (K.region ?_)));exact zk0.1):G:=h ⟨k⟩
theorem ze (k:G') (h:Hid G'→G:=by intro zk0;refine KL.v rfl (Val.move rfl) ?_;exact zk0.1):G:=h ⟨k⟩
theorem zgq (k:G') (h:Hid G'→G:=by intro zk0;refine KL.v rfl (Val.eqlPN rfl rfl rfl) ?_;exact zk0.1):G:=h ⟨k⟩
theorem zi (k:G') (h:Hid G'→G:=by intro zk0;refine KL.yes rfl rfl ?_;exact zk0.1):G:=h ⟨k⟩
theorem zaQ (k:G') (h:Hid G'→G:=by intro zk0;refine KL.v rfl (Val.nilCheck rfl) ?_;exact zk0.1):G:=h ⟨k⟩
theorem zbn (k:G') (h:Hid G'→G:=by intro zk0;refine KL.v rfl (Val.fieldAddr0 (k:=2) rfl rfl) ?_;exact zk0.1):G:=h ⟨k⟩
theorem z8 (k:G') (h:Hid G'→G:=by intro zk0;refine KL.v rfl (Val.loadP rfl rfl jdb) ?_;exact zk0.1):G:=h ⟨k⟩
theorem zE (k:G') (h:Hid G'→G:=by intro zk0;refine KL.v rfl (Val.notT rfl) ?_;exact zk0.1):G:=h ⟨k⟩
theorem zC (k:G') (h:Hid G'→G:=by intro zk0;refine KL.v rfl (Val.pickF rfl rfl rfl) ?_;exact zk0.1):G:=h ⟨k⟩
theorem zaY (k:G') (h:Hid G'→G:=by intro zk0;refine KL.nil (KE.next ?_);exact zk0.1):G:=h ⟨k⟩
theorem ziG (k:G') (h:Hid G'→G:=by intro zk0;refine K.ret ?_;exact zk0.1):G:=h ⟨k⟩
theorem zZ (h:G:=by exact KE.fin je rfl jd ja ⟨rfl,rfl⟩):G:=h
theorem zdH (k:G') (h:Hid G'→G:=by intro zk0;refine KL.nil (KE.next (K.seq (K.seq (K.region ?_))));exact zk0.1):G:=h ⟨k⟩
theorem zn (k:G') (h:Hid G'→G:=by intro zk0;refine KL.callq rfl rfl jbs ?_;exact zk0.1):G:=h ⟨k⟩
theorem zz (k:G') (h:Hid G'→G:=by intro zk0;refine KL.nil (KE.next (K.condF rfl (K.skip (KE.next (K.seq (K.region ?_))))));exact zk0.1):G:=h ⟨k⟩
theorem zhF (k:G') (h:Hid G'→G:=by intro zk0;refine KL.v rfl (Val.fieldAddr0 (k:=1) rfl rfl) ?_;exact zk0.1):G:=h ⟨k⟩
theorem zp (k:G') (h:Hid G'→G:=by intro zk0;refine KL.v rfl (Val.loadP rfl rfl (jI.cell jF rfl)) ?_;exact zk0.1):G:=h ⟨k⟩
theorem zj4 (h:G:=by exact KE.fin je rfl jd (by first|exact ja|(simp only[Jg];exact ja)) ⟨rfl,rfl⟩):G:=h
theorem zaz (k:G') (h:Hid G'→G:=by intro zk0;refine KL.v rfl (Val.isT (Val.geq rfl rfl) jL) ?_;exact zk0.1):G:=h ⟨k⟩
theorem zab (k:G') (h:Hid G'→G:=by intro zk0;refine KL.v rfl (Val.isT (Val.lss rfl rfl) jL) ?_;exact zk0.1):G:=h ⟨k⟩
theorem zw (k:G') (h:Hid G'→G:=by intro zk0;refine KL.v rfl (Val.pickT rfl rfl rfl) ?_;exact zk0.1):G:=h ⟨k⟩
theorem zj5 (h:G:=by exact KE.fin je rfl jd ja ⟨by rw[e];rfl,rfl⟩):G:=h
theorem zT (k:G') (h:Hid G'→G:=by intro zk0;refine KL.v rfl (Val.isF (Val.lss rfl rfl) jL) ?_;exact zk0.1):G:=h ⟨k⟩
theorem zbO (k:G') (h:Hid G'→G:=by intro zk0;refine KL.v rfl (Val.isF (Val.geq rfl rfl) jL) ?_;exact zk0.1):G:=h ⟨k⟩
theorem ziH (k:G') (h:Hid G'→G:=by intro zk0;refine KL.skipG rfl rfl rfl ?_;exact zk0.1):G:=h ⟨k⟩
theorem zq (k:G') (h:Hid G'→G:=by intro zk0;refine KL.callc rfl rfl jbs ?_;exact zk0.1):G:=h ⟨k⟩
theorem zd (k:G') (h:Hid G'→G:=by intro zk0;refine hT _ _ ?_;exact zk0.1):G:=h ⟨k⟩
theorem ziI (k:G') (h:Hid G'→G:=by intro zk0;(first|refine KL.skipG rfl rfl rfl ?_|refine KL.skipU rfl rfl rfl ?_|(refine KL.yes rfl rfl ?_;refine KL.v rfl (Val.move rfl) ?_));exact zk0.1):G:=h ⟨k⟩
theorem zlm (k:G') (h:Hid G'→G:=by intro zk0;(first|refine KL.skipG rfl rfl rfl ?_|refine KL.skipU rfl rfl rfl ?_|(refine KL.yes rfl rfl ?_;refine KL.v rfl (Val.loadP rfl rfl jdb) ?_)|(refine KL.yes rfl rfl ?_;refine KL.v rfl (Val.loadP rfl rfl (jI.more (by assumption) ja)) ?_));exact zk0.1):G:=h ⟨k⟩
theorem zln (k:G') (h:Hid G'→G:=by intro zk0;(first|(refine KL.v rfl (Val.pickT rfl rfl rfl) ?_)|(refine KL.v rfl (Val.pickF rfl rfl rfl) ?_)|(refine KL.v rfl (Val.pickB rfl rfl rfl) ?_));exact zk0.1):G:=h ⟨k⟩
theorem zdI (k:G') (h:Hid G'→G:=by intro zk0;refine KL.nil (KE.next (K.seq (K.block (K.seq (K.region ?_)))));exact zk0.1):G:=h ⟨k⟩
theorem ziJ (k:G') (h:Hid G'→G:=by intro zk0;refine(CallV.fn (rnone_K (jI.cell jF rfl))).mono ?_;exact zk0.1):G:=h ⟨k⟩
theorem zmO (k:G') (h:Hid G'→G:=by intro zk0;refine KL.nil (KE.next (K.condF rfl (K.seq (K.region ?_))));exact zk0.1):G:=h ⟨k⟩
theorem zcI (k:G') (h:Hid G'→G:=by intro zk0;refine KL.nil (KE.next (K.condT rfl ?_));exact zk0.1):G:=h ⟨k⟩
theorem zgW (k:G') (h:Hid G'→G:=by intro zk0;refine K.drawn [] [(0,0),(1,0),(2,0),(3,0),(4,0),(5,0),(6,0),(7,0),(8,0),(9,0),(10,0),(11,0),(12,0),(13,2)] (by rfl) (by rfl) (by kernel_rfl) (by rfl) (by rfl) (by rfl) Part.nil ?_;exact zk0.1):G:=h ⟨k⟩
theorem zj (k:G') (h:Hid G'→G:=by intro zk0;refine KD.v0 rfl rfl (Val.move rfl) ?_;exact zk0.1):G:=h ⟨k⟩
theorem zfO (k:G') (h:Hid G'→G:=by intro zk0;refine KD.v0 rfl rfl (Val.nilCheck rfl) ?_;exact zk0.1):G:=h ⟨k⟩
theorem zmP (k:G') (h:Hid G'→G:=by intro zk0;refine KD.v0 rfl rfl (Val.fieldAddr0 (k:=0) rfl rfl) ?_;exact zk0.1):G:=h ⟨k⟩
theorem zP (k:G') (h:Hid G'→G:=by intro zk0;refine KD.v0 rfl rfl (Val.loadP rfl rfl (jI.cell jF rfl)) ?_;exact zk0.1):G:=h ⟨k⟩
theorem zgr (k:G') (h:Hid G'→G:=by intro zk0;refine KD.v0 rfl rfl (Val.quoN rfl rfl (by grind[qL,qH])) ?_;exact zk0.1):G:=h ⟨k⟩
theorem zbP (k:G') (h:Hid G'→G:=by intro zk0;refine KD.v0 rfl rfl (Val.idxSl rfl rfl rfl (Sli.own jn (by omega) j6) rfl jL) ?_;exact zk0.1):G:=h ⟨k⟩
theorem zej (k:G') (h:Hid G'→G:=by intro zk0;refine KD.v0 rfl rfl (Val.loadP rfl rfl (jI.sl0 (Sli.own jn (by omega) j6) (by assumption) rfl)) ?_;exact zk0.1):G:=h ⟨k⟩
theorem zhG (k:G') (h:Hid G'→G:=by intro zk0;refine KD.v0 rfl rfl (Val.remN rfl rfl (by omega)) ?_;exact zk0.1):G:=h ⟨k⟩
theorem zhH (k:G') (h:Hid G'→G:=by intro zk0;refine KD.eN rfl (Eff.stSl0 rfl rfl rfl rfl jn (by omega) (by assumption) rfl rfl) ?_;rintro _ _ rfl;exact zk0.1):G:=h ⟨k⟩
theorem zbQ (k:G') (h:Hid G'→G:=by intro zk0;refine⟨ja,?_⟩;exact zk0.1):G:=h ⟨k⟩
theorem zD (k:G') (h:Hid G'→G:=by intro zk0;refine KD.nil ?_;exact zk0.1):G:=h ⟨k⟩
theorem zbD (k:G') (h:Hid G'→G:=by intro zk0;refine KE.blkN ?_;exact zk0.1):G:=h ⟨k⟩
theorem zaf (k:G') (h:Hid G'→G:=by intro zk0;refine KE.next (K.seq (K.region ?_));exact zk0.1):G:=h ⟨k⟩
theorem zj6 (k:G') (h:Hid G'→G:=by intro zk0;refine KL.nil (KE.next (K.condF rfl ?_));exact zk0.1):G:=h ⟨k⟩
theorem zcq (k:G') (h:Hid G'→G:=by intro zk0;refine KL.v rfl (Val.isF (Val.gtr rfl rfl) jL) ?_;exact zk0.1):G:=h ⟨k⟩
theorem zaR (k:G') (h:Hid G'→G:=by intro zk0;refine KL.nil (KE.next (K.condF rfl (K.skip (KE.next ?_))));exact zk0.1):G:=h ⟨k⟩
theorem zdJ (k:G') (h:Hid G'→G:=by intro zk0;refine jfc ?_;exact zk0.1):G:=h ⟨k⟩
theorem zfP (k:G') (h:Hid G'→G:=by intro zk0;(first|(refine KL.v rfl (Val.add rfl rfl (by grind[qL,qH])) ?_)|(refine KL.v rfl (Val.addW rfl rfl) ?_));exact zk0.1):G:=h ⟨k⟩
theorem zj7 (k:G') (h:Hid G'→G:=by intro zk0;(first|(refine KL.v rfl (Val.sub rfl rfl (by grind[qL,qH])) ?_)|(refine KL.v rfl (Val.subW rfl rfl) ?_));exact zk0.1):G:=h ⟨k⟩
theorem zlo (k:G') (h:Hid G'→G:=by intro zk0;(first|(refine KL.v rfl (Val.quoN rfl rfl (by grind[qL,qH])) ?_)|(refine KL.v rfl (Val.quo rfl rfl (by omega)) ?_));exact zk0.1):G:=h ⟨k⟩
theorem zM (k:G') (h:Hid G'→G:=by intro zk0;refine KL.v rfl (Val.build jei rfl rfl jeq) ?_;exact zk0.1):G:=h ⟨k⟩
theorem zbR (k:G') (h:Hid G'→G:=by intro zk0;refine KL.e rfl (Eff.box rfl rfl) ?_;rintro _ _ ⟨v0,rfl,rfl⟩;revert v0;exact zk0.1):G:=h ⟨k⟩
theorem zU (k:G') (h:Hid G'→G:=by intro zk0;refine KL.v rfl (Val.notF rfl) ?_;exact zk0.1):G:=h ⟨k⟩
theorem zaS (k:G') (h:Hid G'→G:=by intro zk0;refine KL.nil (KE.next (K.condT rfl (K.region ?_)));exact zk0.1):G:=h ⟨k⟩
theorem zaZ (k:G') (h:Hid G'→G:=by intro zk0;refine KL.v rfl (Val.fieldAddr0 (k:=0) rfl rfl) ?_;exact zk0.1):G:=h ⟨k⟩
theorem zN (k:G') (h:Hid G'→G:=by intro zk0;refine KL.nil ?_;exact zk0.1):G:=h ⟨k⟩
theorem zlp (h:G:=by exact jbl (m:=72057594037927936) (by omega) (jbl (m:=281474976710656) (by omega) (jbl (m:=1099511627776) (by omega) (jbl (m:=4294967296) (by omega) (jbl (m:=16777216) (by omega) (jbl (m:=65536) (by omega) (jbl (m:=256) (by omega) (by omega)))))))):G:=h
theorem zG (k:G') (h:Hid G'→G:=by intro zk0;refine KL.v rfl (Val.isF (Val.eql rfl rfl) jL) ?_;exact zk0.1):G:=h ⟨k⟩
theorem zgs (k:G') (h:Hid G'→G:=by intro zk0;refine KL.v rfl (Val.and rfl rfl) ?_;exact zk0.1):G:=h ⟨k⟩
theorem zdK (k:G') (h:Hid G'→G:=by intro zk0;refine KL.v rfl (Val.shr rfl rfl (by omega)) ?_;exact zk0.1):G:=h ⟨k⟩
theorem ze1 (k:G') (h:Hid G'→G:=by intro zk0;refine KL.v rfl (Val.indexA rfl rfl rfl rfl (by omega)) ?_;exact zk0.1):G:=h ⟨k⟩
theorem ze2 (k:G') (h:Hid G'→G:=by intro zk0;refine KL.v rfl (Val.conv rfl rfl rfl (by grind[qL,qH])) ?_;exact zk0.1):G:=h ⟨k⟩
theorem zbo (k:G') (h:Hid G'→G:=by intro zk0;(first|(refine KL.v rfl (Val.loadP rfl rfl jdb) ?_)|(refine KL.v rfl (Val.loadP rfl rfl (jI.more (by assumption) ja)) ?_));exact zk0.1):G:=h ⟨k⟩
theorem zb9 (k:G') (h:Hid G'→G:=by intro zk0;refine KL.nil (KE.next (K.block ?_));exact zk0.1):G:=h ⟨k⟩
theorem zc3 (k:G') (h:Hid G'→G:=by intro zk0;refine K.seq (K.seq (K.region ?_));exact zk0.1):G:=h ⟨k⟩
theorem zbp (k:G') (h:Hid G'→G:=by intro zk0;refine KL.v rfl (Val.lenSl rfl rfl (Sli.own jn (by omega) j6)) ?_;exact zk0.1):G:=h ⟨k⟩
theorem zl (k:G') (h:Hid G'→G:=by intro zk0;refine KD.callc rfl rfl rfl jbs ?_;exact zk0.1):G:=h ⟨k⟩
theorem zg (k:G') (h:Hid G'→G:=by intro zk0;refine hT _ _ ja ?_;exact zk0.1):G:=h ⟨k⟩
theorem zek (k:G') (h:Hid G'→G:=by intro zk0;refine KE.next (K.region ?_);exact zk0.1):G:=h ⟨k⟩
theorem zal (k:G') (h:Hid G'→G:=by intro zk0;refine KL.v rfl (Val.add rfl rfl (by grind[qL,qH])) ?_;exact zk0.1):G:=h ⟨k⟩
theorem ze3 (k:G') (h:Hid G'→G:=by intro zk0;refine KD.v0 rfl rfl (Val.notF rfl) ?_;exact zk0.1):G:=h ⟨k⟩
theorem zbE (k:G') (h:Hid G'→G:=by intro zk0;refine KE.passR ?_;exact zk0.1):G:=h ⟨k⟩
theorem zbS (k:G') (h:Hid G'→G:=by intro zk0;refine KE.blkR ?_;exact zk0.1):G:=h ⟨k⟩
theorem zc4 (k:G') (h:Hid G'→G:=by intro zk0;refine K.exit ?_;exact zk0.1):G:=h ⟨k⟩
theorem ziK (k:G') (h:Hid G'→G:=by intro zk0;refine KE.passX ?_;exact zk0.1):G:=h ⟨k⟩
theorem ziL (k:G') (h:Hid G'→G:=by intro zk0;refine KE.blkX ?_;exact zk0.1):G:=h ⟨k⟩
theorem zbF (k:G') (h:Hid G'→G:=by intro zk0;refine KL.v rfl (Val.makeFunc jbs jbs) ?_;exact zk0.1):G:=h ⟨k⟩
theorem zaD (k:G') (h:Hid G'→G:=by intro zk0;refine KL.e rfl (Eff.alloc rfl) ?_;rintro _ _ ⟨v0,rfl,rfl⟩;revert v0;exact zk0.1):G:=h ⟨k⟩
theorem zgX (h:G:=by exact KE.meet () jj ja trivial):G:=h
theorem zbq (k:G') (h:Hid G'→G:=by intro zk0;refine KL.nil (KE.next (K.condF rfl (K.skip ?_)));exact zk0.1):G:=h ⟨k⟩
theorem z9 (k:G') (h:Hid G'→G:=by intro zk0;refine KL.nil (KE.next (K.condF rfl (K.skip (KE.next (K.seq (K.seq (K.region ?_)))))));exact zk0.1):G:=h ⟨k⟩
theorem zmQ (k:G') (h:Hid G'→G:=by intro zk0;refine hyl _ _ _ _ _ (ParS.cons rfl (ParS.cons rfl ParS.nil)) jF ?_;exact zk0.1):G:=h ⟨k⟩
theorem zlq (k:G') (h:Hid G'→G:=by intro zk0;refine KE.begin jF ?_;exact zk0.1):G:=h ⟨k⟩
theorem zJ (k:G') (h:Hid G'→G:=by intro zk0;refine KL.v rfl (Val.isT (Val.eql rfl rfl) jL) ?_;exact zk0.1):G:=h ⟨k⟩
theorem zlr (k:G') (h:Hid G'→G:=by intro zk0;refine KE.part ((l, .loop (rc .busy none))::([(D, .deferred (some [])),(b7,cells [.bool false] 4),(b6,cells [.int .i64 0] 3),(b3,cells [.pointer (some ⟨r.b,0,none⟩)] 113)]++(frM bi br bt k v r.b++(jH r++F)))) (by simp only[List.cons_append,List.nil_append];exact ja) ?_;exact zk0.1):G:=h ⟨k⟩
theorem ziM (k:G') (h:Hid G'→G:=by intro zk0;refine KL.v rfl (Val.mul rfl rfl (by simp only[qL,qH];omega)) ?_;exact zk0.1):G:=h ⟨k⟩
theorem zbT (k:G') (h:Hid G'→G:=by intro zk0;refine KL.v rfl (Val.add rfl rfl (by simp only[qL,qH];omega)) ?_;exact zk0.1):G:=h ⟨k⟩
theorem zac (k:G') (h:Hid G'→G:=by intro zk0;refine KL.nil (KE.next (K.condT rfl (K.seq (K.region ?_))));exact zk0.1):G:=h ⟨k⟩
theorem zO (k:G') (h:Hid G'→G:=by intro zk0;refine KL.eN (Eff.storeL rfl rfl jcG rfl jF jdD) ?_;rintro _ _ rfl;exact zk0.1):G:=h ⟨k⟩
theorem zmR (k:G') (h:Hid G'→G:=by intro zk0;refine KL.nil (KE.next (K.seq (K.condT rfl (K.skip (KE.next (K.seq (K.block (K.seq (K.region ?_)))))))));exact zk0.1):G:=h ⟨k⟩
theorem zgt (k:G') (h:Hid G'→G:=by intro zk0;refine KL.v rfl (Val.idxSl rfl rfl rfl (Sli.own jn (by omega) j6) rfl jL) ?_;exact zk0.1):G:=h ⟨k⟩
theorem zcJ (k:G') (h:Hid G'→G:=by intro zk0;refine KL.v rfl (Val.loadP rfl rfl (jI.sl0 (Sli.own jn (by omega) j6) (by assumption) rfl)) ?_;exact zk0.1):G:=h ⟨k⟩
theorem za0 (k:G') (h:Hid G'→G:=by intro zk0;refine KL.nil (KE.next (K.region ?_));exact zk0.1):G:=h ⟨k⟩
theorem zmS (k:G') (h:Hid G'→G:=by intro zk0;refine KL.nil (KE.next (K.seq (K.condF rfl ?_)));exact zk0.1):G:=h ⟨k⟩
theorem zdL (k:G') (h:Hid G'→G:=by intro zk0;refine KL.v rfl (Val.eqlSN rfl rfl rfl) ?_;exact zk0.1):G:=h ⟨k⟩
theorem ziN (h:G:=by exact KE.fin je rfl jd ja ⟨none,rfl,rfl,rfl⟩):G:=h
theorem zaj (k:G') (h:Hid G'→G:=by intro zk0;refine KL.e rfl (Eff.buildS jei rfl rfl rfl rfl rfl jeq) ?_;rintro _ _ ⟨v0,rfl,rfl⟩;revert v0;exact zk0.1):G:=h ⟨k⟩
theorem ziO (h:G:=by exact KE.fin je rfl jd ja ⟨o',ok',rfl,rfl⟩):G:=h
theorem zbU (k:G') (h:Hid G'→G:=by intro zk0;refine KL.nil (KE.next (K.condF rfl (K.skip (KE.next (K.seq ?_)))));exact zk0.1):G:=h ⟨k⟩
theorem zH (k:G') (h:Hid G'→G:=by intro zk0;refine KD.v1 rfl rfl (Val.move rfl) ?_;exact zk0.1):G:=h ⟨k⟩
theorem zls (k:G') (h:Hid G'→G:=by intro zk0;refine KD.v1 rfl rfl (Val.nilCheck rfl) ?_;exact zk0.1):G:=h ⟨k⟩
theorem zhI (k:G') (h:Hid G'→G:=by intro zk0;refine KD.v1 rfl rfl (Val.fieldAddr0 (k:=1) rfl rfl) ?_;exact zk0.1):G:=h ⟨k⟩
theorem zba (k:G') (h:Hid G'→G:=by intro zk0;refine KD.v1 rfl rfl (Val.loadP rfl rfl (jI.cell jF rfl)) ?_;exact zk0.1):G:=h ⟨k⟩
theorem zhJ (k:G') (h:Hid G'→G:=by intro zk0;refine KD.v0 rfl rfl (Val.build jei rfl rfl jeq) ?_;exact zk0.1):G:=h ⟨k⟩
theorem zgu (k:G') (h:Hid G'→G:=by intro zk0;refine KD.v0 rfl rfl (Val.assign rfl) ?_;exact zk0.1):G:=h ⟨k⟩
theorem zbG (k:G') (h:Hid G'→G:=by intro zk0;refine KE.next ?_;exact zk0.1):G:=h ⟨k⟩
theorem zj8 (k:G') (h:Hid G'→G:=by intro zk0;refine⟨(Nat.le_div_iff_mul_le (by omega)).2 (by omega),?_⟩;exact zk0.1):G:=h ⟨k⟩
theorem zam (k:G') (h:Hid G'→G:=by intro zk0;refine KL.v rfl (Val.isT (Val.leq rfl rfl) jL) ?_;exact zk0.1):G:=h ⟨k⟩
theorem zdM (k:G') (h:Hid G'→G:=by intro zk0;refine KL.v rfl (Val.sub rfl rfl (by grind[qL,qH])) ?_;exact zk0.1):G:=h ⟨k⟩
theorem za1 (k:G') (h:Hid G'→G:=by intro zk0;refine KE.next (K.seq ?_);exact zk0.1):G:=h ⟨k⟩
theorem zad (k:G') (h:Hid G'→G:=by intro zk0;refine KL.v rfl (Val.lenSl rfl rfl J3) ?_;exact zk0.1):G:=h ⟨k⟩
theorem zbr (k:G') (h:Hid G'→G:=by intro zk0;refine KL.v rfl (Val.idxSl rfl rfl rfl J3 rfl jL) ?_;exact zk0.1):G:=h ⟨k⟩
theorem zaE (k:G') (h:Hid G'→G:=by intro zk0;refine KL.v rfl (Val.isF (Val.neq rfl rfl) jL) ?_;exact zk0.1):G:=h ⟨k⟩
theorem zj9 (k:G') (h:Hid G'→G:=by intro zk0;refine KL.nil (KE.next (K.condF rfl (K.skip (KE.next (K.region ?_)))));exact zk0.1):G:=h ⟨k⟩
theorem zka (k:G') (h:Hid G'→G:=by intro zk0;refine KL.v rfl (Val.extract rfl rfl) ?_;exact zk0.1):G:=h ⟨k⟩
theorem zar (k:G') (h:Hid G'→G:=by intro zk0;refine byCodeD ?_;exact zk0.1):G:=h ⟨k⟩
theorem zS (k:G') (h:Hid G'→G:=by intro zk0;(first|refine KD.v0 rfl rfl (Val.loadP rfl rfl jdb) ?_|refine KD.v0 rfl rfl (Val.loadP rfl rfl (jI.more (by assumption) ja)) ?_);exact zk0.1):G:=h ⟨k⟩
theorem ziP (k:G') (h:Hid G'→G:=by intro zk0;(first|refine KD.v0 rfl rfl (Val.idxSl rfl rfl rfl J3 rfl jL) ?_|refine KD.v0 rfl rfl (Val.idxSlZ rfl rfl rfl J3 rfl (by omega)) ?_|refine KD.v0 rfl rfl (Val.indexS1 rfl rfl rfl rfl (by omega)) ?_|refine KD.v0 rfl rfl (Val.indexS rfl rfl rfl rfl (by omega)) ?_|refine KD.v0 rfl rfl (Val.indexSO rfl rfl rfl rfl (by omega)) ?_|refine KD.v0 rfl rfl (Val.indexSG rfl rfl rfl rfl (by omega)) ?_);exact zk0.1):G:=h ⟨k⟩
theorem ziQ (k:G') (h:Hid G'→G:=by intro zk0;refine KD.v0 rfl rfl (Val.extract rfl rfl) ?_;exact zk0.1):G:=h ⟨k⟩
theorem zfQ (k:G') (h:Hid G'→G:=by intro zk0;refine KD.v1 rfl rfl (Val.extract rfl rfl) ?_;exact zk0.1):G:=h ⟨k⟩
theorem zgY (k:G') (h:Hid G'→G:=by intro zk0;refine KD.eN rfl (Eff.storeL rfl rfl jcG rfl jF jdD) ?_;rintro _ _ rfl;exact zk0.1):G:=h ⟨k⟩
theorem zdN (h:G:=by exact KE.fin je rfl jd ja ⟨by rw[hc];rfl,rfl⟩):G:=h
theorem zbs (k:G') (h:Hid G'→G:=by intro zk0;refine KL.v rfl (Val.isT (Val.gtr rfl rfl) jL) ?_;exact zk0.1):G:=h ⟨k⟩
theorem zdO (k:G') (h:Hid G'→G:=by intro zk0;refine KL.v rfl (Val.sub rfl rfl (by simp only[qL,qH];omega)) ?_;exact zk0.1):G:=h ⟨k⟩
theorem zhK (k:G') (h:Hid G'→G:=by intro zk0;refine KL.v rfl (Val.idxSlZ rfl rfl rfl J3 rfl (by omega)) ?_;exact zk0.1):G:=h ⟨k⟩
theorem zcr (k:G') (h:Hid G'→G:=by intro zk0;refine KL.v rfl (Val.isF (Val.leq rfl rfl) jL) ?_;exact zk0.1):G:=h ⟨k⟩
theorem zgZ (k:G') (h:Hid G'→G:=by intro zk0;refine KL.nil (KE.next (K.condT rfl (K.skip (KE.next (K.seq (K.block (K.seq ?_)))))));exact zk0.1):G:=h ⟨k⟩
theorem zkb (k:G') (h:Hid G'→G:=by intro zk0;refine K.drawn [] [(0,0),(1,0),(2,0),(3,0),(4,0),(5,0),(6,0),(7,0),(8,0),(9,0),(10,0),(11,0),(12,0),(13,0),(14,0),(15,0),(16,0),(17,0),(18,0),(19,0),(20,0),(21,0),(22,0)] (by kernel_rfl) (by kernel_rfl) (by kernel_rfl) (by kernel_rfl) (by kernel_rfl) (by kernel_rfl) Part.nil ?_;exact zk0.1):G:=h ⟨k⟩
theorem zg0 (k:G') (h:Hid G'→G:=by intro zk0;refine KD.v0 rfl rfl (Val.add rfl rfl (by simp only[qL,qH];omega)) ?_;exact zk0.1):G:=h ⟨k⟩
theorem zkc (k:G') (h:Hid G'→G:=by intro zk0;refine KD.v0 rfl rfl (Val.idxSlZ rfl rfl rfl J3 rfl (by omega)) ?_;exact zk0.1):G:=h ⟨k⟩
theorem zaF (k:G') (h:Hid G'→G:=by intro zk0;refine KD.v0 rfl rfl (Val.loadP rfl rfl jdb) ?_;exact zk0.1):G:=h ⟨k⟩
theorem zlt (k:G') (h:Hid G'→G:=by intro zk0;refine KD.v0 rfl rfl (Val.idxSl rfl rfl rfl J3 rfl jL) ?_;exact zk0.1):G:=h ⟨k⟩
theorem zhL (k:G') (h:Hid G'→G:=by intro zk0;refine KD.v0 rfl rfl (Val.isT (Val.lss rfl rfl) jL) ?_;exact zk0.1):G:=h ⟨k⟩
theorem zel (k:G') (h:Hid G'→G:=by intro zk0;refine KD.no rfl rfl rfl rfl rfl ?_;exact zk0.1):G:=h ⟨k⟩
theorem zem (k:G') (h:Hid G'→G:=by intro zk0;refine KD.v0 rfl rfl (Val.pickT rfl rfl rfl) ?_;exact zk0.1):G:=h ⟨k⟩
theorem zcs (k:G') (h:Hid G'→G:=by intro zk0;refine KE.next (K.condT rfl (K.seq (K.region ?_)));exact zk0.1):G:=h ⟨k⟩
theorem ze4 (h:G:=by exact KE.fin je rfl jd ja ⟨by rw[hf];rfl,rfl⟩):G:=h
theorem ziR (k:G') (h:Hid G'→G:=by intro zk0;refine KD.v0 rfl rfl (Val.isF (Val.lss rfl rfl) jL) ?_;exact zk0.1):G:=h ⟨k⟩
theorem zbt (k:G') (h:Hid G'→G:=by intro zk0;refine KD.y0 rfl rfl rfl rfl (Val.move rfl) ?_;exact zk0.1):G:=h ⟨k⟩
theorem zen (k:G') (h:Hid G'→G:=by intro zk0;refine KD.y0 rfl rfl rfl rfl (Val.add rfl rfl (by simp only[qL,qH];omega)) ?_;exact zk0.1):G:=h ⟨k⟩
theorem zmT (k:G') (h:Hid G'→G:=by intro zk0;refine KD.y0 rfl rfl rfl rfl (Val.idxSlZ rfl rfl rfl J3 rfl (by omega)) ?_;exact zk0.1):G:=h ⟨k⟩
theorem zlu (k:G') (h:Hid G'→G:=by intro zk0;refine KD.y0 rfl rfl rfl rfl (Val.loadP rfl rfl jdb) ?_;exact zk0.1):G:=h ⟨k⟩
theorem ziS (k:G') (h:Hid G'→G:=by intro zk0;refine KD.y0 rfl rfl rfl rfl (Val.isT (Val.gtr rfl rfl) jL) ?_;exact zk0.1):G:=h ⟨k⟩
theorem zbV (k:G') (h:Hid G'→G:=by intro zk0;refine KD.v0 rfl rfl (Val.pickF rfl rfl rfl) ?_;exact zk0.1):G:=h ⟨k⟩
theorem zhM (k:G') (h:Hid G'→G:=by intro zk0;refine KD.y0 rfl rfl rfl rfl (Val.isF (Val.gtr rfl rfl) jL) ?_;exact zk0.1):G:=h ⟨k⟩
theorem zbH (k:G') (h:Hid G'→G:=by intro zk0;refine KE.next (K.condF rfl (K.skip ?_));exact zk0.1):G:=h ⟨k⟩
theorem ziT (k:G') (h:Hid G'→G:=by intro zk0;refine KL.nil (KE.next (K.condT rfl (K.skip (KE.next (K.block (K.seq (K.region ?_)))))));exact zk0.1):G:=h ⟨k⟩
theorem zeo (k:G') (h:Hid G'→G:=by intro zk0;refine KL.v rfl (Val.conv rfl rfl rfl (by simp only[qL,qH];omega)) ?_;exact zk0.1):G:=h ⟨k⟩
theorem zkd (k:G') (h:Hid G'→G:=by intro zk0;refine KL.nil (KE.next (K.condT rfl (K.skip (KE.next (K.seq (K.block (K.region ?_)))))));exact zk0.1):G:=h ⟨k⟩
theorem zag (k:G') (h:Hid G'→G:=by intro zk0;refine KL.v rfl (Val.isT (Val.neq rfl rfl) jL) ?_;exact zk0.1):G:=h ⟨k⟩
theorem zct (k:G') (h:Hid G'→G:=by intro zk0;refine KL.v rfl (Val.fieldAddr0 (k:=3) rfl rfl) ?_;exact zk0.1):G:=h ⟨k⟩
theorem zah (k:G') (h:Hid G'→G:=by intro zk0;refine KL.v rfl (Val.fieldAddr0 (k:=4) rfl rfl) ?_;exact zk0.1):G:=h ⟨k⟩
theorem zca (k:G') (h:Hid G'→G:=by intro zk0;refine KL.v rfl (Val.fieldAddr0 (k:=5) rfl rfl) ?_;exact zk0.1):G:=h ⟨k⟩
theorem ze5 (k:G') (h:Hid G'→G:=by intro zk0;refine KL.v rfl (Val.loadAP rfl rfl rfl jep) ?_;exact zk0.1):G:=h ⟨k⟩
theorem zbb (k:G') (h:Hid G'→G:=by intro zk0;refine KL.eN (Eff.storeAL rfl rfl rfl jF byLay jgs) ?_;rintro _ _ rfl;exact zk0.1):G:=h ⟨k⟩
theorem z3 (k:G') (h:Hid G'→G:=by intro zk0;refine KL.v rfl (Val.loadA rfl rfl rfl jeo) ?_;exact zk0.1):G:=h ⟨k⟩
theorem zg1 (k:G') (h:Hid G'→G:=by intro zk0;refine(CallV.fn (hc0 _ ja)).mono ?_;exact zk0.1):G:=h ⟨k⟩
theorem zep (h:G:=by exact KE.fin je rfl jd ja ⟨by rw[he];rfl,rfl⟩):G:=h
theorem zhN (k:G') (h:Hid G'→G:=by intro zk0;refine K.drawn [] [(0,0),(1,0),(2,0),(3,0),(4,0),(5,0),(6,0),(7,0),(8,0),(9,0),(10,0),(11,0),(12,0),(13,0),(14,0),(15,0),(16,0),(17,0),(18,0),(19,0),(20,0),(21,0),(22,0),(23,0),(24,0),(25,0),(26,0),(27,0)] (by kernel_rfl) (by kernel_rfl) (by kernel_rfl) (by kernel_rfl) (by kernel_rfl) (by kernel_rfl) Part.nil ?_;exact zk0.1):G:=h ⟨k⟩
theorem zlv (k:G') (h:Hid G'→G:=by intro zk0;refine KD.noU rfl rfl rfl rfl rfl ?_;exact zk0.1):G:=h ⟨k⟩
theorem zmU (k:G') (h:Hid G'→G:=by intro zk0;refine KD.y0 rfl rfl rfl rfl (Val.idxSl rfl rfl rfl J3 rfl jL) ?_;exact zk0.1):G:=h ⟨k⟩
theorem zke (k:G') (h:Hid G'→G:=by intro zk0;refine KD.y0 rfl rfl rfl rfl (Val.isT (Val.leq rfl rfl) jL) ?_;exact zk0.1):G:=h ⟨k⟩
theorem zhO (k:G') (h:Hid G'→G:=by intro zk0;refine KD.y0 rfl rfl rfl rfl (Val.pickT rfl rfl rfl) ?_;exact zk0.1):G:=h ⟨k⟩
theorem zkf (k:G') (h:Hid G'→G:=by intro zk0;refine KD.y0 rfl rfl rfl rfl (Val.isF (Val.leq rfl rfl) jL) ?_;exact zk0.1):G:=h ⟨k⟩
theorem zlw (h:G:=by exact KE.again ⟨k+1,x⟩ jj ja ⟨by show k+1≤_;omega,hr,fun h=>absurd h (by simp),fun _=>hx,by show x≤64;omega⟩ (by show l.length-(k+1)<l.length-k;omega)):G:=h
theorem ziU (k:G') (h:Hid G'→G:=by intro zk0;refine KD.y0 rfl rfl rfl rfl (Val.pickF rfl rfl rfl) ?_;exact zk0.1):G:=h ⟨k⟩
theorem zdP (h:G:=by exact KE.fin je rfl jd (by first|exact ja|(simp only[Jg,Jy,jO];exact ja)) ⟨rfl,rfl⟩):G:=h
theorem zgv (k:G') (h:Hid G'→G:=by intro zk0;refine jq (jfK ok) ?_;exact zk0.1):G:=h ⟨k⟩
theorem zg2 (k:G') (h:Hid G'→G:=by intro zk0;refine KD.v0 rfl rfl (Val.fieldAddr0 (k:=2) rfl rfl) ?_;exact zk0.1):G:=h ⟨k⟩
theorem zlx (k:G') (h:Hid G'→G:=by intro zk0;refine KD.v0 rfl rfl (Val.fieldAddr0 (k:=3) rfl rfl) ?_;exact zk0.1):G:=h ⟨k⟩
theorem zhP (k:G') (h:Hid G'→G:=by intro zk0;refine KD.v0 rfl rfl (Val.mul rfl rfl (by grind[qL,qH])) ?_;exact zk0.1):G:=h ⟨k⟩
theorem zcK (k:G') (h:Hid G'→G:=by intro zk0;refine KL.nil (KE.next (K.seq ?_));exact zk0.1):G:=h ⟨k⟩
theorem zg3 (k:G') (h:Hid G'→G:=by intro zk0;refine KL.nil (KE.next (K.condF rfl (K.seq ?_)));exact zk0.1):G:=h ⟨k⟩
theorem ziV (k:G') (h:Hid G'→G:=by intro zk0;refine K.drawn [] [(0,0),(1,0),(2,0),(3,0),(4,0),(5,0),(6,0),(7,0),(8,0),(9,0),(10,0)] (by rfl) (by rfl) (by kernel_rfl) (by rfl) (by rfl) (by rfl) Part.nil ?_;exact zk0.1):G:=h ⟨k⟩
theorem zao (k:G') (h:Hid G'→G:=by intro zk0;refine KD.y0 rfl rfl rfl rfl (Val.loadP rfl rfl (jI.cell jF rfl)) ?_;exact zk0.1):G:=h ⟨k⟩
theorem zkg (k:G') (h:Hid G'→G:=by intro zk0;refine KD.y0 rfl rfl rfl rfl (Val.nilCheck rfl) ?_;exact zk0.1):G:=h ⟨k⟩
theorem zgw (k:G') (h:Hid G'→G:=by intro zk0;refine KD.y0 rfl rfl rfl rfl (Val.fieldAddr0 (k:=1) rfl rfl) ?_;exact zk0.1):G:=h ⟨k⟩
theorem ziW (k:G') (h:Hid G'→G:=by intro zk0;refine KD.y0 rfl rfl rfl rfl (Val.isF (Val.geq rfl rfl) jL) ?_;exact zk0.1):G:=h ⟨k⟩
theorem ziX (k:G') (h:Hid G'→G:=by intro zk0;refine K.drawn [] [(0,0),(1,0),(2,0),(3,0),(4,0),(5,0),(6,0),(7,0),(8,0),(9,0),(10,0),(11,0),(12,0),(13,0)] (by rfl) (by rfl) (by kernel_rfl) (by rfl) (by rfl) (by rfl) Part.nil ?_;exact zk0.1):G:=h ⟨k⟩
theorem zhQ (k:G') (h:Hid G'→G:=by intro zk0;refine KD.v0 rfl rfl (Val.loadP rfl rfl (jI.sl (Sli.own jn (by omega) j6) (by assumption) rfl)) ?_;exact zk0.1):G:=h ⟨k⟩
theorem zg4 (k:G') (h:Hid G'→G:=by intro zk0;refine KD.v0 rfl rfl (Val.sub rfl rfl (by grind[qL,qH])) ?_;exact zk0.1):G:=h ⟨k⟩
theorem zbW (k:G') (h:Hid G'→G:=by intro zk0;refine KL.v rfl (Val.lenSl rfl rfl (Sli.own jn (by assumption) j6)) ?_;exact zk0.1):G:=h ⟨k⟩
theorem zgx (k:G') (h:Hid G'→G:=by intro zk0;(first|refine KD.v0 rfl rfl (Val.add rfl rfl (by simp only[qL,qH];omega)) ?_|refine KD.v0 rfl rfl (Val.addW rfl rfl) ?_);exact zk0.1):G:=h ⟨k⟩
theorem zaK (h:G:=by exact KE.fin je rfl jd (by first|exact ja|(simp only[Jf];exact ja)) ⟨rfl,rfl⟩):G:=h
theorem zkh (k:G') (h:Hid G'→G:=by intro zk0;refine KD.v1 rfl rfl (Val.idxSlZ rfl rfl rfl (Sli.own jn (by omega) j6) rfl (by omega)) ?_;exact zk0.1):G:=h ⟨k⟩
theorem zki (k:G') (h:Hid G'→G:=by intro zk0;refine KD.v1 rfl rfl (Val.loadP rfl rfl (jI.sl0 (Sli.own jn (by omega) j6) (by assumption) rfl)) ?_;exact zk0.1):G:=h ⟨k⟩
theorem zkj (k:G') (h:Hid G'→G:=by intro zk0;refine KD.v1 rfl rfl (Val.conv rfl rfl rfl (by grind[qL,qH])) ?_;exact zk0.1):G:=h ⟨k⟩
theorem zmV (k:G') (h:Hid G'→G:=by intro zk0;refine KD.e rfl rfl (Eff.alloc rfl) ?_;rintro _ _ ⟨v0,rfl,rfl⟩;revert v0;exact zk0.1):G:=h ⟨k⟩
theorem ziY (k:G') (h:Hid G'→G:=by intro zk0;refine KD.eN rfl (Eff.storeAL rfl rfl rfl jF byLay jgs) ?_;rintro _ _ rfl;exact zk0.1):G:=h ⟨k⟩
theorem zhR (k:G') (h:Hid G'→G:=by intro zk0;refine KL.v rfl (Val.idxSlZ rfl rfl rfl (Sli.own jn (by omega) j6) rfl (by omega)) ?_;exact zk0.1):G:=h ⟨k⟩
theorem zly (h:G:=by exact KE.fin je rfl jd (by first|exact ja|(simp only[Jg,Jy];exact ja)) ⟨rfl,rfl⟩):G:=h
theorem zlz (k:G') (h:Hid G'→G:=by intro zk0;refine K.drawn [] [(0,0),(1,0),(2,0),(3,0),(4,0),(5,0),(6,0),(7,0),(8,0),(9,0),(10,0),(11,0),(12,0),(13,0),(14,0),(15,0),(16,0),(17,0),(18,0),(19,0),(20,0)] (by rfl) (by rfl) (by kernel_rfl) (by rfl) (by rfl) (by rfl) Part.nil ?_;exact zk0.1):G:=h ⟨k⟩
theorem zmW (k:G') (h:Hid G'→G:=by intro zk0;refine KD.v0 rfl rfl (Val.fieldAddr0 (k:=1) rfl rfl) ?_;exact zk0.1):G:=h ⟨k⟩
theorem zc5 (k:G') (h:Hid G'→G:=by intro zk0;refine KD.v0 rfl rfl (Val.add rfl rfl (by grind[qL,qH])) ?_;exact zk0.1):G:=h ⟨k⟩
theorem zc6 (k:G') (h:Hid G'→G:=by intro zk0;(first|refine KD.v1 rfl rfl (Val.loadP rfl rfl jdb) ?_|refine KD.v1 rfl rfl (Val.loadP rfl rfl (jI.more (by assumption) ja)) ?_);exact zk0.1):G:=h ⟨k⟩
theorem ziZ (k:G') (h:Hid G'→G:=by intro zk0;refine KL.v rfl (Val.fieldSl (k:=0) rfl rfl) ?_;exact zk0.1):G:=h ⟨k⟩
theorem zlA (k:G') (h:Hid G'→G:=by intro zk0;refine KD.v0 rfl rfl (Val.fieldAddr0 (k:=4) rfl rfl) ?_;exact zk0.1):G:=h ⟨k⟩
theorem ze6 (h:G:=by exact KE.fin je rfl jd (by first|exact ja|(simp only[Jg,jO,Jy,jaX];exact ja)) ⟨rfl,rfl⟩):G:=h
theorem zi0 (k:G') (h:Hid G'→G:=by intro zk0;refine Call.enter4 (n:=40) (by rfl) Tryz.func73 rfl rfl rfl ?_;exact zk0.1):G:=h ⟨k⟩
theorem ze7 (k:G') (h:Hid G'→G:=by intro zk0;refine jq (hneed _) ?_;exact zk0.1):G:=h ⟨k⟩
theorem zi1 (k:G') (h:Hid G'→G:=by intro zk0;refine(CallV.part (CallV.fn (Class0_K okp hy)) (by simp only[jO,Jy];exact ja)).mono ?_;exact zk0.1):G:=h ⟨k⟩
theorem zgy (k:G') (h:Hid G'→G:=by intro zk0;refine ji (place_K ok hy) ja ?_;exact zk0.1):G:=h ⟨k⟩
theorem zg5 (h:G:=by exact KE.fin je rfl jd (by first|exact ja|(simp only[jaM];exact ja)) ⟨rfl,rfl⟩):G:=h
theorem zkk (k:G') (h:Hid G'→G:=by intro zk0;refine Call.enter2 (n:=21) (by rfl) Tryz.func262 rfl rfl rfl ?_;exact zk0.1):G:=h ⟨k⟩
theorem zdQ (k:G') (h:Hid G'→G:=by intro zk0;refine KL.nil (KE.next (K.block (K.seq (K.region ?_))));exact zk0.1):G:=h ⟨k⟩
theorem zg6 (k:G') (h:Hid G'→G:=by intro zk0;refine KL.v rfl (Val.mul rfl rfl (by grind[qL,qH])) ?_;exact zk0.1):G:=h ⟨k⟩
theorem zhS (h:G:=by exact KE.fin je rfl jd (by first|exact ja|(simp only[Jv];exact ja)) ⟨rfl,rfl⟩):G:=h
theorem zbI (k:G') (h:Hid G'→G:=by intro zk0;refine KL.v rfl (Val.fieldAddr0 (k:=6) rfl rfl) ?_;exact zk0.1):G:=h ⟨k⟩
theorem za2 (k:G') (h:Hid G'→G:=by intro zk0;refine KL.v rfl (Val.fieldAddr0 (k:=7) rfl rfl) ?_;exact zk0.1):G:=h ⟨k⟩
theorem zhT (h:G:=by exact KE.fin je rfl jd (by first|exact ja|(simp only[jbi];exact ja)) ⟨rfl,rfl⟩):G:=h
theorem zg7 (k:G') (h:Hid G'→G:=by intro zk0;refine jq (pinone_K (q:=q)) ?_;exact zk0.1):G:=h ⟨k⟩
theorem zi2 (h:G:=by exact KE.fin je rfl jd (by first|exact ja|(simp only[jo];exact ja)) ⟨rfl,rfl⟩):G:=h
theorem zbu (k:G') (h:Hid G'→G:=by intro zk0;refine KL.v rfl (Val.fieldAddr0 (k:=8) rfl rfl) ?_;exact zk0.1):G:=h ⟨k⟩
theorem zaL (k:G') (h:Hid G'→G:=by intro zk0;refine KL.v rfl (Val.fieldAddr0 (k:=9) rfl rfl) ?_;exact zk0.1):G:=h ⟨k⟩
theorem zeq (k:G') (h:Hid G'→G:=by intro zk0;refine(CallV.fn rfrom_K).mono ?_;exact zk0.1):G:=h ⟨k⟩
theorem zbc (k:G') (h:Hid G'→G:=by intro zk0;refine KL.nil (KE.next (K.condT rfl (K.skip (KE.next (K.seq (K.block (K.seq (K.region ?_))))))));exact zk0.1):G:=h ⟨k⟩
theorem zhU (k:G') (h:Hid G'→G:=by intro zk0;refine KL.v rfl (Val.neqB rfl rfl rfl) ?_;exact zk0.1):G:=h ⟨k⟩
theorem zhW (k:G') (h:Hid G'→G:=by intro zk0;refine K.drawn [] [(0,0),(1,0),(2,0),(3,0),(4,0),(5,0),(6,0),(7,0),(8,0),(9,0),(10,2)] (by rfl) (by rfl) (by kernel_rfl) (by rfl) (by rfl) (by rfl) Part.nil ?_;exact zk0.1):G:=h ⟨k⟩
theorem zi3 (k:G') (h:Hid G'→G:=by intro zk0;refine Call.enter3 (n:=27) (by rfl) Tryz.func278 rfl rfl rfl ?_;exact zk0.1):G:=h ⟨k⟩
theorem zkl (k:G') (h:Hid G'→G:=by intro zk0;refine CallV.clo (cap:=[.pointer (some ⟨b2,0,none⟩)]) ?_;exact zk0.1):G:=h ⟨k⟩
theorem zer (k:G') (h:Hid G'→G:=by intro zk0;refine ji (jdu okp) ja ?_;exact zk0.1):G:=h ⟨k⟩
theorem zkm (k:G') (h:Hid G'→G:=by intro zk0;(first|(refine KL.v rfl (Val.add rfl rfl (by simp only[qL,qH];omega)) ?_)|(refine KL.v rfl (Val.addW rfl rfl) ?_));exact zk0.1):G:=h ⟨k⟩
theorem zes (h:G:=by exact .inl (by grind)):G:=h
theorem zhX (h:G:=by exact KE.fin je rfl jd (by first|exact ja|(simp only[jO];exact ja)) ⟨rfl,rfl⟩):G:=h
theorem zg8 (k:G') (h:Hid G'→G:=by intro zk0;refine KD.v1 rfl rfl (Val.fieldAddr0 (k:=0) rfl rfl) ?_;exact zk0.1):G:=h ⟨k⟩
theorem zhY (k:G') (h:Hid G'→G:=by intro zk0;refine KD.v0 rfl rfl (Val.makeFunc jbs jbs) ?_;exact zk0.1):G:=h ⟨k⟩
theorem zi4 (h:G:=by exact KE.finN je rfl jd ja ⟨rfl,rfl⟩):G:=h
theorem zg9 (k:G') (h:Hid G'→G:=by intro zk0;refine ji (jhK ok) ja ?_;exact zk0.1):G:=h ⟨k⟩
theorem zet (k:G') (h:Hid G'→G:=by intro zk0;refine KD.v0 rfl rfl (Val.fieldAddr0 (k:=5) rfl rfl) ?_;exact zk0.1):G:=h ⟨k⟩
theorem zi5 (k:G') (h:Hid G'→G:=by intro zk0;refine KD.v0 rfl rfl (Val.lenSl rfl rfl (Sli.own jn (by omega) j6)) ?_;exact zk0.1):G:=h ⟨k⟩
theorem zha (k:G') (h:Hid G'→G:=by intro zk0;refine KD.v0 rfl rfl (Val.isT (Val.eql rfl rfl) jL) ?_;exact zk0.1):G:=h ⟨k⟩
theorem zhb (k:G') (h:Hid G'→G:=by intro zk0;refine KD.v0 rfl rfl (Val.isF (Val.eql rfl rfl) jL) ?_;exact zk0.1):G:=h ⟨k⟩
theorem zeu (k:G') (h:Hid G'→G:=by intro zk0;refine K.drawn [] [(0,0),(1,0),(2,0),(3,0),(4,0),(5,0),(6,0),(7,0),(8,0)] (by kernel_rfl) (by kernel_rfl) (by kernel_rfl) (by kernel_rfl) (by kernel_rfl) (by kernel_rfl) Part.nil ?_;exact zk0.1):G:=h ⟨k⟩
theorem zmX (k:G') (h:Hid G'→G:=by intro zk0;refine KD.v0 rfl rfl (Val.fieldAddr0 (k:=7) rfl rfl) ?_;exact zk0.1):G:=h ⟨k⟩
theorem zkn (k:G') (h:Hid G'→G:=by intro zk0;refine Call.enter1 (n:=28) (by rfl) Tryz.func219 rfl rfl rfl ?_;exact zk0.1):G:=h ⟨k⟩
theorem zko (k:G') (h:Hid G'→G:=by intro zk0;refine K.drawn [] [(0,0),(1,2),(2,0),(3,0),(4,0),(5,0),(6,0),(7,0),(8,0),(9,0),(10,0),(11,0),(12,0),(13,0),(14,0),(15,0),(16,0),(17,0),(18,0),(19,0),(20,0),(21,2),(22,0),(23,0),(24,0),(25,0)] (by rfl) (by rfl) (by kernel_rfl) (by rfl) (by rfl) (by rfl) Part.nil ?_;exact zk0.1):G:=h ⟨k⟩
theorem zi6 (k:G') (h:Hid G'→G:=by intro zk0;refine KD.y0 rfl rfl rfl rfl (Val.fieldAddr0 (k:=5) rfl rfl) ?_;exact zk0.1):G:=h ⟨k⟩
theorem zkp (k:G') (h:Hid G'→G:=by intro zk0;refine KD.y0 rfl rfl rfl rfl (Val.isT (Val.eql rfl rfl) jL) ?_;exact zk0.1):G:=h ⟨k⟩
theorem zhZ (k:G') (h:Hid G'→G:=by intro zk0;refine KD.y0 rfl rfl rfl rfl (Val.fieldAddr0 (k:=6) rfl rfl) ?_;exact zk0.1):G:=h ⟨k⟩
theorem zcb (k:G') (h:Hid G'→G:=by intro zk0;refine KD.callcY rfl rfl rfl rfl rfl jbs ?_;exact zk0.1):G:=h ⟨k⟩
theorem zlB (k:G') (h:Hid G'→G:=by intro zk0;refine KD.noA rfl rfl rfl rfl ?_;exact zk0.1):G:=h ⟨k⟩
theorem zbJ (k:G') (h:Hid G'→G:=by intro zk0;refine jq (hc0 _ ja) ?_;exact zk0.1):G:=h ⟨k⟩
theorem zkq (k:G') (h:Hid G'→G:=by intro zk0;refine KD.v0 rfl rfl (Val.fieldSl (k:=0) rfl rfl) ?_;exact zk0.1):G:=h ⟨k⟩
theorem zkr (k:G') (h:Hid G'→G:=by intro zk0;refine Call.enter3 (n:=33) (by rfl) Tryz.func190 rfl rfl rfl ?_;exact zk0.1):G:=h ⟨k⟩
theorem zks (k:G') (h:Hid G'→G:=by intro zk0;refine Call.enter4 (n:=40) (by rfl) Tryz.func193 rfl rfl rfl ?_;exact zk0.1):G:=h ⟨k⟩
theorem zkt (k:G') (h:Hid G'→G:=by intro zk0;refine Call.enter2 (n:=28) (by rfl) Tryz.func196 rfl rfl rfl ?_;exact zk0.1):G:=h ⟨k⟩
theorem zlC (k:G') (h:Hid G'→G:=by intro zk0;refine K.drawn [] [(0,0),(1,0),(2,0),(3,0),(4,0),(5,0),(6,0),(7,0),(8,0),(9,0),(10,0),(11,2)] (by rfl) (by rfl) (by kernel_rfl) (by rfl) (by rfl) (by rfl) Part.nil ?_;exact zk0.1):G:=h ⟨k⟩
theorem zlD (k:G') (h:Hid G'→G:=by intro zk0;refine K.loopT (σ:=SmS) [(1,_),(8,_)] (fun s kp_=>(9, .int .i64 (s.k:Nat))::(5, .int .i64 (sumN f s.k))::kp_) (fun s=>H) (fun s=>s.k≤l.length) (fun s=>l.length-s.k) (⟨0⟩) jj ja ((by simp)) ?_;exact zk0.1):G:=h ⟨k⟩
theorem zi7 (h:G:=by exact KE.again ⟨k+1⟩ jj ja (by grind) (by grind)):G:=h
theorem zh0 (h:G:=by exact KE.fin je rfl jd (by first|exact ja|(simp only[sweepH_app];exact ja)) ⟨rfl,rfl⟩):G:=h
theorem zlE (k:G') (h:Hid G'→G:=by intro zk0;refine K.drawn _ [(0,0),(1,2),(2,0),(3,1),(4,1),(5,1),(6,1),(7,0),(8,0),(9,0),(10,0),(11,2),(12,0),(13,0),(14,0)] (by rfl) (by rfl) (by kernel_rfl) (by rfl) (by rfl) (by rfl) Part.all ?_;exact zk0.1):G:=h ⟨k⟩
theorem zhc (k:G') (h:Hid G'→G:=by intro zk0;refine KD.y1 rfl rfl rfl rfl (Val.loadP rfl rfl (jI.cell jF rfl)) ?_;exact zk0.1):G:=h ⟨k⟩
theorem zi8 (k:G') (h:Hid G'→G:=by intro zk0;refine Nat.lt_of_le_of_lt (goes_mes hsl.1) ?_;exact zk0.1):G:=h ⟨k⟩
theorem zi9 (k:G') (h:Hid G'→G:=by intro zk0;refine Call.enter3 (n:=33) (by rfl) Tryz.func254 rfl rfl rfl ?_;exact zk0.1):G:=h ⟨k⟩
theorem zbX (k:G') (h:Hid G'→G:=by intro zk0;refine KD.v0 rfl rfl (Val.indexA rfl rfl rfl rfl (by omega)) ?_;exact zk0.1):G:=h ⟨k⟩
theorem zbK (k:G') (h:Hid G'→G:=by intro zk0;(first|(refine KL.v rfl (Val.nilCheck rfl) ?_)|(refine KL.v rfl (Val.nilCheckF rfl) ?_)|(refine KL.v rfl (Val.nilCheckY rfl) ?_));exact zk0.1):G:=h ⟨k⟩
theorem zfR (k:G') (h:Hid G'→G:=by intro zk0;(first|(refine KL.v rfl (Val.fieldSl (k:=0) rfl rfl) ?_)|(refine KL.v rfl (Val.fieldAddr0 (k:=0) rfl rfl) ?_)|(refine KL.v rfl (Val.fieldAddrZ rfl rfl) ?_)|(refine KL.v rfl (Val.fieldAddr (k:=0) rfl rfl) ?_));exact zk0.1):G:=h ⟨k⟩
theorem ze8 (k:G') (h:Hid G'→G:=by intro zk0;refine KL.v rfl (Val.idxSl rfl rfl rfl (Sli.own jn (by assumption) j6) rfl jL) ?_;exact zk0.1):G:=h ⟨k⟩
theorem zja (k:G') (h:Hid G'→G:=by intro zk0;refine K.drawn [] [(0,0),(1,0),(2,0),(3,0),(4,0),(5,0),(6,0),(7,0),(8,0),(9,0),(10,2),(11,0),(12,0)] (by kernel_rfl) (by kernel_rfl) (by kernel_rfl) (by kernel_rfl) (by kernel_rfl) (by kernel_rfl) Part.nil ?_;exact zk0.1):G:=h ⟨k⟩
theorem zgz (k:G') (h:Hid G'→G:=by intro zk0;refine KD.v0 rfl rfl (Val.loadP rfl rfl (jI.sl0 (Sli.own jn (by assumption) j6) (by assumption) rfl)) ?_;exact zk0.1):G:=h ⟨k⟩
theorem zjb (k:G') (h:Hid G'→G:=by intro zk0;refine KD.y0 rfl rfl rfl rfl (Val.notF rfl) ?_;exact zk0.1):G:=h ⟨k⟩
theorem zku (k:G') (h:Hid G'→G:=by intro zk0;refine Call.enter2 (n:=40) (by rfl) Tryz.func29 rfl rfl rfl ?_;exact zk0.1):G:=h ⟨k⟩
theorem zcL (k:G') (h:Hid G'→G:=by intro zk0;refine ji (jjZ ok) ja ?_;exact zk0.1):G:=h ⟨k⟩
theorem zh1 (k:G') (h:Hid G'→G:=by intro zk0;refine KL.v rfl (Val.fieldSl (k:=1) rfl rfl) ?_;exact zk0.1):G:=h ⟨k⟩
theorem zkv (k:G') (h:Hid G'→G:=by intro zk0;refine KL.v rfl (Val.loadP rfl rfl (jI.sl (Sli.own jn (by omega) j6) (by assumption) rfl)) ?_;exact zk0.1):G:=h ⟨k⟩
theorem zgA (k:G') (h:Hid G'→G:=by intro zk0;refine KL.v rfl (Val.fieldSl (k:=2) rfl rfl) ?_;exact zk0.1):G:=h ⟨k⟩
theorem zev (k:G') (h:Hid G'→G:=by intro zk0;refine KE.next (K.seq (K.seq (K.region ?_)));exact zk0.1):G:=h ⟨k⟩
theorem zc7 (k:G') (h:Hid G'→G:=by intro zk0;(first|(refine KL.v rfl (Val.fieldSl (k:=1) rfl rfl) ?_)|(refine KL.v rfl (Val.fieldAddr0 (k:=1) rfl rfl) ?_)|(refine KL.v rfl (Val.fieldAddrZ rfl rfl) ?_)|(refine KL.v rfl (Val.fieldAddr (k:=1) rfl rfl) ?_));exact zk0.1):G:=h ⟨k⟩
theorem zlF (h:G:=by exact KE.fin je rfl jd (by first|exact ja|(simp only[jaX];exact ja)) ⟨rfl,rfl⟩):G:=h
theorem zlG (h:G:=by exact KE.fin je rfl jd (by first|exact ja|(simp only[jo,seenH_app];exact ja)) ⟨rfl,rfl⟩):G:=h
theorem ze9 (k:G') (h:Hid G'→G:=by intro zk0;refine KL.nil (KE.next (K.seq (K.seq ?_)));exact zk0.1):G:=h ⟨k⟩
theorem zlH (k:G') (h:Hid G'→G:=by intro zk0;refine K.drawn _ [(0,1),(1,1),(2,1),(3,1),(4,0),(5,2),(6,0)] (by kernel_rfl) (by kernel_rfl) (by kernel_rfl) (by kernel_rfl) (by kernel_rfl) (by kernel_rfl) Part.all ?_;exact zk0.1):G:=h ⟨k⟩
theorem zh2 (k:G') (h:Hid G'→G:=by intro zk0;refine KD.v1 rfl rfl (Val.fieldAddr0 (k:=7) rfl rfl) ?_;exact zk0.1):G:=h ⟨k⟩
theorem zjc (k:G') (h:Hid G'→G:=by intro zk0;refine(CallV.part (CallV.fn (hroots _)) (by first|exact ja|(simp only[jo,seenH_app];exact ja))).mono ?_;exact zk0.1):G:=h ⟨k⟩
theorem zhd (h:G:=by exact KE.fin (H':=jp k B.p++(planH B.p++(seenH B T N++F))) je rfl jd (by first|exact ja|(simp only[jo,seenH_app];exact ja)) ⟨rfl,k,ok,MkTo.refl k,hR,by simp only[jo,seenH_app]⟩):G:=h
theorem zlI (h:G:=by exact KE.fin je rfl jd (by first|exact ja|(simp only[jo,seenH_app];exact ja)) (.inl ⟨hq,rfl,rfl⟩)):G:=h
theorem zdR (k:G') (h:Hid G'→G:=by intro zk0;refine K.seq (K.seq ?_);exact zk0.1):G:=h ⟨k⟩
theorem zlJ (k:G') (h:Hid G'→G:=by intro zk0;refine K.drawn [] [(0,0),(1,0),(2,0),(3,0),(4,0),(5,0),(6,0),(7,0),(8,0),(9,0),(10,0),(11,0)] (by kernel_rfl) (by kernel_rfl) (by kernel_rfl) (by kernel_rfl) (by kernel_rfl) (by kernel_rfl) Part.nil ?_;exact zk0.1):G:=h ⟨k⟩
theorem zlK (h:G:=by exact KE.fin je rfl jd (by first|exact ja|(simp only[Jg,jO,arenaH_app];exact ja)) ⟨rfl,rfl⟩):G:=h
theorem zmY (k:G') (h:Hid G'→G:=by intro zk0;refine KD.v1 rfl rfl (Val.fieldAddr0 (k:=2) rfl rfl) ?_;exact zk0.1):G:=h ⟨k⟩
theorem zkw (k:G') (h:Hid G'→G:=by intro zk0;refine KL.nil (KE.next (K.condF rfl (K.skip (KE.next (K.seq (K.seq ?_))))));exact zk0.1):G:=h ⟨k⟩
theorem zh3 (k:G') (h:Hid G'→G:=by intro zk0;refine KD.e rfl rfl (Eff.buildS jei rfl rfl rfl rfl rfl jeq) ?_;rintro _ _ ⟨v0,rfl,rfl⟩;revert v0;exact zk0.1):G:=h ⟨k⟩
theorem zjd (k:G') (h:Hid G'→G:=by intro zk0;refine K.drawn [] [(0,0),(1,0),(2,0),(3,0),(4,0),(5,0),(6,0),(7,0),(8,2)] (by kernel_rfl) (by kernel_rfl) (by kernel_rfl) (by kernel_rfl) (by kernel_rfl) (by kernel_rfl) Part.nil ?_;exact zk0.1):G:=h ⟨k⟩
theorem zdS (k:G') (h:Hid G'→G:=by intro zk0;refine KE.next (K.condF rfl (K.skip (KE.next (K.seq (K.region ?_)))));exact zk0.1):G:=h ⟨k⟩
theorem zh4 (k:G') (h:Hid G'→G:=by intro zk0;refine ji (hac _) ja ?_;exact zk0.1):G:=h ⟨k⟩
theorem zje (k:G') (h:Hid G'→G:=by intro zk0;refine hyl _ _ _ _ _ (ParS.cons rfl ParS.nil) jF ?_;exact zk0.1):G:=h ⟨k⟩
theorem zlL (k:G') (h:Hid G'→G:=by intro zk0;refine K.drawn _ [(0,1),(1,1),(2,1),(3,1),(4,0),(5,2),(6,0),(7,0),(8,0),(9,0),(10,0),(11,0),(12,2),(13,0),(14,2)] (by kernel_rfl) (by kernel_rfl) (by kernel_rfl) (by kernel_rfl) (by kernel_rfl) (by kernel_rfl) (Part.take j3.head (Part.drop Part.all)) ?_;exact zk0.1):G:=h ⟨k⟩
theorem zlM (h:G:=by exact KE.fin (H':=jp k B.p++(planH B.p++(seenH B T N++F))) je rfl jd (by first|exact ja|(simp only[jo,seenH_app];exact ja)) ⟨rfl,by simp only[jo,seenH_app]⟩):G:=h
theorem zc8 (h:G:=by exact KE.fin je rfl jd (by first|exact ja|(simp only[cycH_app,seenH_app];exact ja)) ⟨rfl,rfl⟩):G:=h
theorem zjf (k:G') (h:Hid G'→G:=by intro zk0;refine KD.v0 rfl rfl (Val.fieldSl (k:=2) rfl rfl) ?_;exact zk0.1):G:=h ⟨k⟩
theorem zdT (k:G') (h:Hid G'→G:=by intro zk0;(first|refine KD.v1 rfl rfl (Val.nilCheck rfl) ?_|refine KD.v1 rfl rfl (Val.nilCheckF rfl) ?_|refine KD.v1 rfl rfl (Val.nilCheckY rfl) ?_);exact zk0.1):G:=h ⟨k⟩
theorem zlN (k:G') (h:Hid G'→G:=by intro zk0;(first|refine KD.v1 rfl rfl (Val.fieldSl (k:=0) rfl rfl) ?_|refine KD.v1 rfl rfl (Val.fieldAddr0 (k:=0) rfl rfl) ?_|refine KD.v1 rfl rfl (Val.fieldAddrZ rfl rfl) ?_|refine KD.v1 rfl rfl (Val.fieldAddr (k:=0) rfl rfl) ?_);exact zk0.1):G:=h ⟨k⟩
theorem zbd (k:G') (h:Hid G'→G:=by intro zk0;(first|refine KD.v0 rfl rfl (Val.nilCheck rfl) ?_|refine KD.v0 rfl rfl (Val.nilCheckF rfl) ?_|refine KD.v0 rfl rfl (Val.nilCheckY rfl) ?_);exact zk0.1):G:=h ⟨k⟩
theorem zhe (k:G') (h:Hid G'→G:=by intro zk0;(first|refine KD.v0 rfl rfl (Val.fieldSl (k:=1) rfl rfl) ?_|refine KD.v0 rfl rfl (Val.fieldAddr0 (k:=1) rfl rfl) ?_|refine KD.v0 rfl rfl (Val.fieldAddrZ rfl rfl) ?_|refine KD.v0 rfl rfl (Val.fieldAddr (k:=1) rfl rfl) ?_);exact zk0.1):G:=h ⟨k⟩
theorem zdU (k:G') (h:Hid G'→G:=by intro zk0;(first|refine KD.v0 rfl rfl (Val.fieldSl (k:=2) rfl rfl) ?_|refine KD.v0 rfl rfl (Val.fieldAddr0 (k:=2) rfl rfl) ?_|refine KD.v0 rfl rfl (Val.fieldAddrZ rfl rfl) ?_|refine KD.v0 rfl rfl (Val.fieldAddr (k:=2) rfl rfl) ?_);exact zk0.1):G:=h ⟨k⟩
theorem zfa (k:G') (h:Hid G'→G:=by intro zk0;(first|refine KD.v0 rfl rfl (Val.fieldSl (k:=0) rfl rfl) ?_|refine KD.v0 rfl rfl (Val.fieldAddr0 (k:=0) rfl rfl) ?_|refine KD.v0 rfl rfl (Val.fieldAddrZ rfl rfl) ?_|refine KD.v0 rfl rfl (Val.fieldAddr (k:=0) rfl rfl) ?_);exact zk0.1):G:=h ⟨k⟩
theorem zjg (k:G') (h:Hid G'→G:=by intro zk0;(first|(refine KD.eNX rfl (Eff.storeL rfl rfl jcG rfl jF jdD) ?_;rintro _ _ rfl)|(refine KD.eNX rfl (Eff.stSl rfl rfl rfl rfl jn (by assumption) (by assumption) rfl rfl) ?_;rintro _ _ rfl)|(refine KD.eNX rfl (Eff.stSl0 rfl rfl rfl rfl jn (by assumption) (by assumption) rfl rfl) ?_;rintro _ _ rfl));exact zk0.1):G:=h ⟨k⟩
theorem zkx (h:G:=by exact KE.fin je rfl jd (by first|exact ja|(simp only[Jg,jO,arenaH_app];exact ja)) ⟨rfl,a,ok,rfl,rfl,rfl,rfl⟩):G:=h
theorem zh5 (k:G') (h:Hid G'→G:=by intro zk0;refine KD.y0 rfl rfl rfl rfl (Val.isF (Val.neq rfl rfl) jL) ?_;exact zk0.1):G:=h ⟨k⟩
theorem zjh (k:G') (h:Hid G'→G:=by intro zk0;refine Call.enter2 (n:=29) (by kernel_rfl) Tryz.func283 rfl rfl rfl ?_;exact zk0.1):G:=h ⟨k⟩
theorem zc9 (h:G:=by exact KE.fin je rfl jd (by first|exact ja|(simp only[paceH_app];exact ja)) ⟨rfl,rfl⟩):G:=h
theorem zhf (k:G') (h:Hid G'→G:=by intro zk0;refine ji (pcnone_K ok) ja ?_;exact zk0.1):G:=h ⟨k⟩
theorem zlO (k:G') (h:Hid G'→G:=by intro zk0;(first|refine KD.v0 rfl rfl (Val.fieldSl (k:=5) rfl rfl) ?_|refine KD.v0 rfl rfl (Val.fieldAddr0 (k:=5) rfl rfl) ?_|refine KD.v0 rfl rfl (Val.fieldAddrZ rfl rfl) ?_|refine KD.v0 rfl rfl (Val.fieldAddr (k:=5) rfl rfl) ?_);exact zk0.1):G:=h ⟨k⟩
theorem zji (k:G') (h:Hid G'→G:=by intro zk0;refine Call.enter2 (n:=63) (by kernel_rfl) Tryz.func243 rfl rfl rfl ?_;exact zk0.1):G:=h ⟨k⟩
theorem zgB (k:G') (h:Hid G'→G:=by intro zk0;refine ji (hno _) ja ?_;exact zk0.1):G:=h ⟨k⟩
theorem zjj (k:G') (h:Hid G'→G:=by intro zk0;(first|refine K.seq (K.drawn ([]) [(0,0),(1,1),(2,0),(3,0),(4,0),(5,0),(6,0),(8,0),(9,0),(10,0),(11,0),(12,0),(7,5),(13,5),(14,0),(15,0),(16,2),(17,0),(18,0),(19,2)] (by kernel_rfl) (by kernel_rfl) (by kernel_rfl) (by kernel_rfl) (by kernel_rfl) (by kernel_rfl) ja ?_)|refine K.seq (K.seq (K.drawn ([]) [(0,0),(1,1),(2,0),(3,0),(4,0),(5,0),(6,0),(8,0),(9,0),(10,0),(11,0),(12,0),(7,5),(13,5),(14,0),(15,0),(16,2),(17,0),(18,0),(19,2)] (by kernel_rfl) (by kernel_rfl) (by kernel_rfl) (by kernel_rfl) (by kernel_rfl) (by kernel_rfl) ja ?_))|refine K.drawn ([]) [(0,0),(1,1),(2,0),(3,0),(4,0),(5,0),(6,0),(8,0),(9,0),(10,0),(11,0),(12,0),(7,5),(13,5),(14,0),(15,0),(16,2),(17,0),(18,0),(19,2)] (by kernel_rfl) (by kernel_rfl) (by kernel_rfl) (by kernel_rfl) (by kernel_rfl) (by kernel_rfl) ja ?_);exact zk0.1):G:=h ⟨k⟩
theorem zew (k:G') (h:Hid G'→G:=by intro zk0;(first|refine KD.v0 rfl rfl (Val.fieldSl (k:=3) rfl rfl) ?_|refine KD.v0 rfl rfl (Val.fieldAddr0 (k:=3) rfl rfl) ?_|refine KD.v0 rfl rfl (Val.fieldAddrZ rfl rfl) ?_|refine KD.v0 rfl rfl (Val.fieldAddr (k:=3) rfl rfl) ?_);exact zk0.1):G:=h ⟨k⟩
theorem zcu (k:G') (h:Hid G'→G:=by intro zk0;refine KD.callcM rfl rfl rfl jbs ?_;exact zk0.1):G:=h ⟨k⟩
theorem zbv (k:G') (h:Hid G'→G:=by intro zk0;(first|(refine KD.eN rfl (Eff.storeL rfl rfl jcG rfl jF jdD) ?_;rintro _ _ rfl;refine⟨ja,?_⟩)|(refine KD.eN rfl (Eff.stSl rfl rfl rfl rfl jn (by assumption) (by assumption) rfl rfl) ?_;rintro _ _ rfl;refine⟨ja,?_⟩)|(refine KD.eN rfl (Eff.stSl0 rfl rfl rfl rfl jn (by assumption) (by assumption) rfl rfl) ?_;rintro _ _ rfl;refine⟨ja,?_⟩));exact zk0.1):G:=h ⟨k⟩
theorem zlP (k:G') (h:Hid G'→G:=by intro zk0;(first|refine K.seq (K.drawn ([]) [(0,0),(1,0),(2,0),(3,0),(4,0),(5,0),(6,0),(7,0),(8,0),(9,0),(10,5),(11,5),(12,0),(13,0),(14,2)] (by kernel_rfl) (by kernel_rfl) (by kernel_rfl) (by kernel_rfl) (by kernel_rfl) (by kernel_rfl) ja ?_)|refine K.seq (K.seq (K.drawn ([]) [(0,0),(1,0),(2,0),(3,0),(4,0),(5,0),(6,0),(7,0),(8,0),(9,0),(10,5),(11,5),(12,0),(13,0),(14,2)] (by kernel_rfl) (by kernel_rfl) (by kernel_rfl) (by kernel_rfl) (by kernel_rfl) (by kernel_rfl) ja ?_))|refine K.drawn ([]) [(0,0),(1,0),(2,0),(3,0),(4,0),(5,0),(6,0),(7,0),(8,0),(9,0),(10,5),(11,5),(12,0),(13,0),(14,2)] (by kernel_rfl) (by kernel_rfl) (by kernel_rfl) (by kernel_rfl) (by kernel_rfl) (by kernel_rfl) ja ?_);exact zk0.1):G:=h ⟨k⟩
theorem zjk (k:G') (h:Hid G'→G:=by intro zk0;(first|refine KD.v0 rfl rfl (Val.fieldSl (k:=4) rfl rfl) ?_|refine KD.v0 rfl rfl (Val.fieldAddr0 (k:=4) rfl rfl) ?_|refine KD.v0 rfl rfl (Val.fieldAddrZ rfl rfl) ?_|refine KD.v0 rfl rfl (Val.fieldAddr (k:=4) rfl rfl) ?_);exact zk0.1):G:=h ⟨k⟩
theorem zcM (k:G') (h:Hid G'→G:=by intro zk0;refine JK.callc rfl rfl jbs ?_;exact zk0.1):G:=h ⟨k⟩
theorem zky (k:G') (h:Hid G'→G:=by intro zk0;(first|(refine KD.eN rfl (Eff.storeAL rfl rfl rfl jF byLay jgs) ?_;rintro _ _ rfl;refine⟨ja,?_⟩)|(refine KD.eN rfl (Eff.stSlA rfl rfl rfl rfl jn (by assumption) (by assumption)) ?_;rintro _ _ rfl;refine⟨ja,?_⟩));exact zk0.1):G:=h ⟨k⟩
theorem zlQ (h:G:=by exact KE.meet ⟨b5⟩ jj (by first|exact ja|(simp only[jo,seenH_app];exact ja)) trivial):G:=h
theorem zkz (k:G') (h:Hid G'→G:=by intro zk0;refine KD.v0 rfl rfl (Val.loadP rfl rfl (jI.sl (Sli.own jn (by assumption) j6) (by assumption) rfl)) ?_;exact zk0.1):G:=h ⟨k⟩
theorem zlR (h:G:=by exact KE.meet ⟨k⟩ jj (by first|exact ja|(simp only[jo,seenH_app];exact ja)) ⟨ok,MkTo.refl k,hR⟩):G:=h
theorem zgC (k:G') (h:Hid G'→G:=by intro zk0;refine K.drawn [] [(0,0),(1,0),(2,0),(3,0),(4,0),(5,0),(6,0),(7,0),(8,0),(9,0),(10,0)] (by kernel_rfl) (by kernel_rfl) (by kernel_rfl) (by kernel_rfl) (by kernel_rfl) (by kernel_rfl) Part.nil ?_;exact zk0.1):G:=h ⟨k⟩
theorem zfS (k:G') (h:Hid G'→G:=by intro zk0;refine KD.v0 rfl rfl (Val.isF (Val.neq rfl rfl) jL) ?_;exact zk0.1):G:=h ⟨k⟩
theorem zfT (k:G') (h:Hid G'→G:=by intro zk0;refine KD.y0 rfl rfl rfl rfl (Val.loadP rfl rfl (jI.sl (Sli.own jn (by assumption) j6) (by assumption) rfl)) ?_;exact zk0.1):G:=h ⟨k⟩
theorem zjl (k:G') (h:Hid G'→G:=by intro zk0;refine KD.v0 rfl rfl (Val.isT (Val.neq rfl rfl) jL) ?_;exact zk0.1):G:=h ⟨k⟩
theorem zjm (k:G') (h:Hid G'→G:=by intro zk0;refine Call.enter3 (n:=69) (by kernel_rfl) Tryz.func126 rfl rfl rfl ?_;exact zk0.1):G:=h ⟨k⟩
theorem zjn (k:G') (h:Hid G'→G:=by intro zk0;refine K.drawn (_) [(0,1),(1,1),(2,1),(3,1),(4,1),(5,1),(7,1),(6,3),(8,1),(9,2),(10,0),(11,2)] (by kernel_rfl) (by kernel_rfl) (by kernel_rfl) (by kernel_rfl) (by kernel_rfl) (by kernel_rfl) ja ?_;exact zk0.1):G:=h ⟨k⟩
theorem zjo (k:G') (h:Hid G'→G:=by intro zk0;(first|refine KD.v1 rfl rfl (Val.fieldSl (k:=6) rfl rfl) ?_|refine KD.v1 rfl rfl (Val.fieldAddr0 (k:=6) rfl rfl) ?_|refine KD.v1 rfl rfl (Val.fieldAddrZ rfl rfl) ?_|refine KD.v1 rfl rfl (Val.fieldAddr (k:=6) rfl rfl) ?_);exact zk0.1):G:=h ⟨k⟩
theorem zjp (k:G') (h:Hid G'→G:=by intro zk0;(first|refine KD.v1 rfl rfl (Val.idxSl rfl rfl rfl J3 rfl jL) ?_|refine KD.v1 rfl rfl (Val.idxSlZ rfl rfl rfl J3 rfl (by omega)) ?_|refine KD.v1 rfl rfl (Val.indexS1 rfl rfl rfl rfl (by omega)) ?_|refine KD.v1 rfl rfl (Val.indexS rfl rfl rfl rfl (by omega)) ?_|refine KD.v1 rfl rfl (Val.indexSO rfl rfl rfl rfl (by omega)) ?_|refine KD.v1 rfl rfl (Val.indexSG rfl rfl rfl rfl (by omega)) ?_);exact zk0.1):G:=h ⟨k⟩
theorem zfU (k:G') (h:Hid G'→G:=by intro zk0;refine(CallV.fn micros_K).mono ?_;exact zk0.1):G:=h ⟨k⟩
theorem zjq (k:G') (h:Hid G'→G:=by intro zk0;(first|refine KD.v1 rfl rfl (Val.indexV (off:=3) rfl rfl rfl rfl rfl (by omega) rfl jb7) ?_|refine KD.v1 rfl rfl (Val.indexV (off:=6) rfl rfl rfl rfl rfl (by omega) rfl jb7) ?_|refine KD.v1 rfl rfl (Val.indexV (off:=9) rfl rfl rfl rfl rfl (by omega) rfl jb7) ?_|refine KD.v1 rfl rfl (Val.indexV (off:=12) rfl rfl rfl rfl rfl (by omega) rfl jb7) ?_|refine KD.v1 rfl rfl (Val.indexV1 rfl rfl rfl rfl rfl (by omega) rfl) ?_);exact zk0.1):G:=h ⟨k⟩
theorem zmZ (h:G:=by exact KE.meet ⟨b8⟩ jj (by first|exact ja|(simp only[jo,seenH_app];exact ja)) trivial):G:=h
theorem zjr (k:G') (h:Hid G'→G:=by intro zk0;(first|refine KD.v0 rfl rfl (Val.indexV (off:=3) rfl rfl rfl rfl rfl (by omega) rfl jb7) ?_|refine KD.v0 rfl rfl (Val.indexV (off:=6) rfl rfl rfl rfl rfl (by omega) rfl jb7) ?_|refine KD.v0 rfl rfl (Val.indexV (off:=9) rfl rfl rfl rfl rfl (by omega) rfl jb7) ?_|refine KD.v0 rfl rfl (Val.indexV (off:=12) rfl rfl rfl rfl rfl (by omega) rfl jb7) ?_|refine KD.v0 rfl rfl (Val.indexV1 rfl rfl rfl rfl rfl (by omega) rfl) ?_);exact zk0.1):G:=h ⟨k⟩
theorem zm0 (k:G') (h:Hid G'→G:=by intro zk0;refine K.drawn [] [(0,0),(1,0),(2,0),(3,0),(4,0),(5,0),(6,0),(7,0),(8,0),(9,0),(10,0),(11,0),(12,0),(13,0),(14,0),(15,0),(16,0),(17,2),(18,0),(19,0)] (by kernel_rfl) (by kernel_rfl) (by kernel_rfl) (by kernel_rfl) (by kernel_rfl) (by kernel_rfl) Part.nil ?_;exact zk0.1):G:=h ⟨k⟩
theorem zh6 (k:G') (h:Hid G'→G:=by intro zk0;refine KD.y0 rfl rfl rfl rfl (Val.fieldAddr0 (k:=2) rfl rfl) ?_;exact zk0.1):G:=h ⟨k⟩
theorem zlS (k:G') (h:Hid G'→G:=by intro zk0;refine(CallV.part (CallV.fn (hsk _)) (by first|exact ja|(simp only[jo,seenH_app];exact ja))).mono ?_;exact zk0.1):G:=h ⟨k⟩
theorem zh7 (k:G') (h:Hid G'→G:=by intro zk0;refine KD.y0 rfl rfl rfl rfl (Val.notT rfl) ?_;exact zk0.1):G:=h ⟨k⟩
theorem zm1 (k:G') (h:Hid G'→G:=by intro zk0;refine KD.y0 rfl rfl rfl rfl (Val.fieldAddr0 (k:=0) rfl rfl) ?_;exact zk0.1):G:=h ⟨k⟩
theorem zhg (k:G') (h:Hid G'→G:=by intro zk0;refine KD.y0 rfl rfl rfl rfl (Val.fieldSl (k:=2) rfl rfl) ?_;exact zk0.1):G:=h ⟨k⟩
theorem zhh (k:G') (h:Hid G'→G:=by intro zk0;refine KD.y0 rfl rfl rfl rfl (Val.neqB rfl rfl rfl) ?_;exact zk0.1):G:=h ⟨k⟩
theorem zh8 (k:G') (h:Hid G'→G:=by intro zk0;refine Call.enter3 (n:=69) (by rfl) Tryz.func126 rfl rfl rfl ?_;exact zk0.1):G:=h ⟨k⟩
theorem zh9 (h:G:=by exact KE.fin (H':=jp k B.p++(planH B.p++(seenH B T N++F))) je rfl jd (by first|exact ja|(simp only[jo,seenH_app];exact ja)) ⟨rfl,k,ok,MkTo.refl k,hR,by grind[jo,seenH_app]⟩):G:=h
theorem zjs (h:G:=by exact KE.fin je rfl jd ja ⟨by rw[ho];rfl,rfl⟩):G:=h
theorem zlT (k:G') (h:Hid G'→G:=by intro zk0;refine(CallV.part (CallV.fn (hs2 _)) (by first|exact ja|(simp only[jo,seenH_app];exact ja))).mono ?_;exact zk0.1):G:=h ⟨k⟩
theorem zlU (k:G') (h:Hid G'→G:=by intro zk0;refine(CallV.part (CallV.fn (hs1 _)) (by first|exact ja|(simp only[jo,seenH_app];exact ja))).mono ?_;exact zk0.1):G:=h ⟨k⟩
theorem zia (k:G') (h:Hid G'→G:=by intro zk0;refine Call.enter1 (n:=41) (by kernel_rfl) Tryz.func125 rfl rfl rfl ?_;exact zk0.1):G:=h ⟨k⟩
theorem zib (k:G') (h:Hid G'→G:=by intro zk0;refine K.block (K.seq (K.block (K.seq (K.block (K.seq (K.seq (K.seq (K.region ?_))))))));exact zk0.1):G:=h ⟨k⟩
theorem zic (h:G:=by exact KE.finN je rfl jd (by first|exact ja|(simp only[cycH_app,seenH_app];exact ja)) ⟨rfl,rfl⟩):G:=h
theorem zlV (h:G:=by exact KE.fin je rfl jd (by first|exact ja|(simp only[cycH_app];exact ja)) ⟨rfl,rfl⟩):G:=h
theorem zkA (k:G') (h:Hid G'→G:=by intro zk0;refine Call.enter1 (n:=28) (by rfl) Tryz.func87 rfl rfl rfl ?_;exact zk0.1):G:=h ⟨k⟩
theorem zhi (k:G') (h:Hid G'→G:=by intro zk0;refine KL.nil (KE.next (K.condT rfl (K.seq ?_)));exact zk0.1):G:=h ⟨k⟩
theorem zjt (k:G') (h:Hid G'→G:=by intro zk0;refine Call.enter3 (n:=27) (by rfl) Tryz.func128 rfl rfl rfl ?_;exact zk0.1):G:=h ⟨k⟩
theorem zid (k:G') (h:Hid G'→G:=by intro zk0;refine Call.enter3 (n:=15) (by kernel_rfl) Tryz.func48 rfl rfl rfl ?_;exact zk0.1):G:=h ⟨k⟩
theorem zju (k:G') (h:Hid G'→G:=by intro zk0;refine ji (cywork1_K (h.ph.trans h1)) ja ?_;exact zk0.1):G:=h ⟨k⟩
theorem zie (k:G') (h:Hid G'→G:=by intro zk0;refine KL.v rfl (Val.field (k:=0) rfl rfl rfl rfl rfl) ?_;exact zk0.1):G:=h ⟨k⟩
theorem zjv (k:G') (h:Hid G'→G:=by intro zk0;refine(CallV.part (CallV.bound (first:=[.pointer (some ⟨y.k.b,0,none⟩)]) (hstep _)) (by simp only[cycH_app];exact ja)).mono ?_;exact zk0.1):G:=h ⟨k⟩
theorem zlW (h:G:=by exact KE.fin (H':=cycH {y with k:=k'}++F) je rfl jd (by simp only[cycH_app,kto.b];exact ja) ⟨rfl,_,hR k' kok kto kR,hT k' kto,rfl⟩):G:=h
theorem zlX (k:G') (h:Hid G'→G:=by intro zk0;refine K.drawn [] [(0,0),(1,0),(2,0),(3,0),(4,0),(5,0),(6,0),(7,0),(8,0),(9,0)] (by kernel_rfl) (by kernel_rfl) (by kernel_rfl) (by kernel_rfl) (by kernel_rfl) (by kernel_rfl) Part.nil ?_;exact zk0.1):G:=h ⟨k⟩
theorem zex (k:G') (h:Hid G'→G:=by intro zk0;(first|(refine KL.v rfl (Val.fieldSl (k:=2) rfl rfl) ?_)|(refine KL.v rfl (Val.fieldAddr0 (k:=2) rfl rfl) ?_)|(refine KL.v rfl (Val.fieldAddrZ rfl rfl) ?_)|(refine KL.v rfl (Val.fieldAddr (k:=2) rfl rfl) ?_));exact zk0.1):G:=h ⟨k⟩
theorem zjw (k:G') (h:Hid G'→G:=by intro zk0;refine Call.enter2 (n:=13) (by kernel_rfl) Tryz.func64 rfl rfl rfl ?_;exact zk0.1):G:=h ⟨k⟩
theorem zkB (k:G') (h:Hid G'→G:=by intro zk0;refine Call.enter3 (n:=47) (by kernel_rfl) Tryz.func203 rfl rfl rfl ?_;exact zk0.1):G:=h ⟨k⟩
theorem zjx (k:G') (h:Hid G'→G:=by intro zk0;refine KL.v rfl (Val.loadP rfl rfl (jI.sl0 (Sli.own jn (by assumption) j6) (by assumption) rfl)) ?_;exact zk0.1):G:=h ⟨k⟩
theorem zlY (k:G') (h:Hid G'→G:=by intro zk0;refine K.drawn [] [(0,0),(1,0),(2,0),(3,0),(4,0),(5,0),(6,0),(7,0),(8,0),(9,0),(10,0),(11,0),(12,0),(13,0),(14,0),(15,0),(16,0),(17,0)] (by kernel_rfl) (by kernel_rfl) (by kernel_rfl) (by kernel_rfl) (by kernel_rfl) (by kernel_rfl) Part.nil ?_;exact zk0.1):G:=h ⟨k⟩
theorem zjy (k:G') (h:Hid G'→G:=by intro zk0;(first|refine KD.v1 rfl rfl (Val.fieldSl (k:=2) rfl rfl) ?_|refine KD.v1 rfl rfl (Val.fieldAddr0 (k:=2) rfl rfl) ?_|refine KD.v1 rfl rfl (Val.fieldAddrZ rfl rfl) ?_|refine KD.v1 rfl rfl (Val.fieldAddr (k:=2) rfl rfl) ?_);exact zk0.1):G:=h ⟨k⟩
theorem zkC (k:G') (h:Hid G'→G:=by intro zk0;(first|refine KD.v1 rfl rfl (Val.conv rfl rfl rfl (by simp only[qL,qH];omega)) ?_|refine KD.v1 rfl rfl (Val.convW rfl rfl rfl) ?_);exact zk0.1):G:=h ⟨k⟩
theorem zlZ (k:G') (h:Hid G'→G:=by intro zk0;(first|refine KD.v1 rfl rfl (Val.fieldSl (k:=1) rfl rfl) ?_|refine KD.v1 rfl rfl (Val.fieldAddr0 (k:=1) rfl rfl) ?_|refine KD.v1 rfl rfl (Val.fieldAddrZ rfl rfl) ?_|refine KD.v1 rfl rfl (Val.fieldAddr (k:=1) rfl rfl) ?_);exact zk0.1):G:=h ⟨k⟩
theorem zl0 (k:G') (h:Hid G'→G:=by intro zk0;refine(CallV.fn (hpack _ _ _ (Sli.blk jF rfl (Nat.le_refl 3) (by decide) rfl) (Sli.blk jF rfl (Nat.le_refl 3) (by decide) rfl) rfl)).mono ?_;exact zk0.1):G:=h ⟨k⟩
theorem zjz (k:G') (h:Hid G'→G:=by intro zk0;refine Call.enter1 (n:=9) (by kernel_rfl) Tryz.func245 rfl rfl rfl ?_;exact zk0.1):G:=h ⟨k⟩
theorem zjA (k:G') (h:Hid G'→G:=by intro zk0;refine KL.v rfl (Val.field (k:=1) rfl rfl rfl rfl rfl) ?_;exact zk0.1):G:=h ⟨k⟩
theorem zfV (k:G') (h:Hid G'→G:=by intro zk0;refine Call.at_ (hc _) (by simp only[cycH_app];exact ja) ?_;exact zk0.1):G:=h ⟨k⟩
theorem zl1 (k:G') (h:Hid G'→G:=by intro zk0;refine Call.at_ (hc ((D.b,cells (hpL D h) 84)::(paceH ⟨D.qb,D.C.tr,D.C.ast,h.p⟩++(oH iE 3 D.c.cl D.oc++(oH tnE 57 D.c.tn D.ot++F))))) (by unfold hpH;simp only[List.cons_append,List.append_assoc];exact ja) ?_;exact zk0.1):G:=h ⟨k⟩
theorem zl2 (k:G') (h:Hid G'→G:=by intro zk0;refine Call.at_ (hc ((D.b,cells (hpL D h) 84)::(oH iE 3 D.c.cl D.oc++(oH tnE 57 D.c.tn D.ot++(cycH y++F))))) (by unfold hpH;simp only[List.cons_append,List.append_assoc];exact ja) ?_;exact zk0.1):G:=h ⟨k⟩
theorem zkD (k:G') (h:Hid G'→G:=by intro zk0;refine Call.enter1 (n:=12) (by kernel_rfl) Tryz.func47 rfl rfl rfl ?_;exact zk0.1):G:=h ⟨k⟩
theorem zey (h:G:=by exact KE.fin je rfl jd (by first|exact ja|(simp only[hpH_app];exact ja)) ⟨rfl,rfl⟩):G:=h
theorem zjB (k:G') (h:Hid G'→G:=by intro zk0;refine(CallV.part (CallV.fn (hTb _)) (by first|exact ja|(simp only[hpH_app];exact ja))).mono ?_;exact zk0.1):G:=h ⟨k⟩
theorem zfb (k:G') (h:Hid G'→G:=by intro zk0;refine(CallV.part (CallV.fn (hB _)) (by first|exact ja|(simp only[hpH_app];exact ja))).mono ?_;exact zk0.1):G:=h ⟨k⟩
theorem zl3 (k:G') (h:Hid G'→G:=by intro zk0;refine(CallV.part (CallV.fn (hP _ y1 h2)) (by first|exact ja|(simp only[hpH_app];exact ja))).mono ?_;exact zk0.1):G:=h ⟨k⟩
theorem zif (k:G') (h:Hid G'→G:=by intro zk0;refine(CallV.part hi ja).mono ?_;exact zk0.1):G:=h ⟨k⟩
theorem zl4 (k:G') (h:Hid G'→G:=by intro zk0;refine(CallV.part (CallV.fn (hph _ nf nk y h h1)) (by first|exact ja|(simp only[hpH_app];exact ja))).mono ?_;exact zk0.1):G:=h ⟨k⟩
theorem zjC (k:G') (h:Hid G'→G:=by intro zk0;refine Call.enter2 (n:=41) (by kernel_rfl) Tryz.func89 rfl rfl rfl ?_;exact zk0.1):G:=h ⟨k⟩
theorem zl5 (k:G') (h:Hid G'→G:=by intro zk0;refine K.drawn _ [(0,0),(1,0),(2,0),(3,0),(5,1),(6,1),(7,1),(8,1),(4,2),(9,2),(10,0),(11,0),(12,0),(13,0),(14,0)] (by kernel_rfl) (by kernel_rfl) (by kernel_rfl) (by kernel_rfl) (by kernel_rfl) (by kernel_rfl) Part.all ?_;exact zk0.1):G:=h ⟨k⟩
theorem zhj (h:G:=by exact KE.fin je rfl jd (by first|exact ja|(simp only[hpH_app];exact ja)) ⟨rfl,y1,h2,rfl⟩):G:=h
theorem zkE (k:G') (h:Hid G'→G:=by intro zk0;refine Call.enter3 (n:=143) (by kernel_rfl) Tryz.func68 rfl rfl rfl ?_;exact zk0.1):G:=h ⟨k⟩
theorem zl6 (h:G:=by exact⟨_,⟨hr,_,h.pin kN eb el hi,⟨rfl,(jbz h.p.bo).symm,rfl,rfl,rfl,eb,⟨rfl,rfl,rfl,rfl,rfl,rfl⟩,rfl,rfl,rfl⟩,rfl⟩,by simp only[cycH_app,eb];exact ja⟩):G:=h
theorem zjD (k:G') (h:Hid G'→G:=by intro zk0;refine Call.at_ (hc _) (by simp only[hpH_app];exact ja) ?_;exact zk0.1):G:=h ⟨k⟩
theorem zkF (k:G') (h:Hid G'→G:=by intro zk0;refine(CallV.part (CallV.fn (hPs _)) (by first|exact ja|(simp only[hpH_app];exact ja))).mono ?_;exact zk0.1):G:=h ⟨k⟩
theorem zl7 (k:G') (h:Hid G'→G:=by intro zk0;refine jq (htold _ _) ?_;exact zk0.1):G:=h ⟨k⟩
theorem zhk (h:G:=by exact KE.fin je rfl jd (by first|exact ja|(simp only[hpH_app];exact ja)) ⟨rfl,y,h1,rfl⟩):G:=h
theorem zig (k:G') (h:Hid G'→G:=by intro zk0;refine(CallV.part (CallV.fn (hS _)) (by first|exact ja|(simp only[hpH_app];exact ja))).mono ?_;exact zk0.1):G:=h ⟨k⟩
theorem zkG (h:G:=by exact KE.fin je rfl jd (by first|exact ja|(simp only[hpH_app];exact ja)) ⟨rfl,y2,h3,rfl⟩):G:=h
theorem zgD (k:G') (h:Hid G'→G:=by intro zk0;(first|refine KD.v0 rfl rfl (Val.fieldSl (k:=7) rfl rfl) ?_|refine KD.v0 rfl rfl (Val.fieldAddr0 (k:=7) rfl rfl) ?_|refine KD.v0 rfl rfl (Val.fieldAddrZ rfl rfl) ?_|refine KD.v0 rfl rfl (Val.fieldAddr (k:=7) rfl rfl) ?_);exact zk0.1):G:=h ⟨k⟩
theorem zgE (k:G') (h:Hid G'→G:=by intro zk0;refine KD.callcX rfl rfl rfl jbs ?_;exact zk0.1):G:=h ⟨k⟩
theorem zgF (k:G') (h:Hid G'→G:=by intro zk0;refine jq (htot _ ja) ?_;exact zk0.1):G:=h ⟨k⟩
theorem zfW (k:G') (h:Hid G'→G:=by intro zk0;(first|(refine KL.eN (Eff.storeL rfl rfl jcG rfl jF jdD) ?_;rintro _ _ rfl)|(refine KL.eN (Eff.stSl rfl rfl rfl rfl jn (by assumption) (by assumption) rfl rfl) ?_;rintro _ _ rfl)|(refine KL.eN (Eff.stSl0 rfl rfl rfl rfl jn (by assumption) (by assumption) rfl rfl) ?_;rintro _ _ rfl));exact zk0.1):G:=h ⟨k⟩
theorem zkH (k:G') (h:Hid G'→G:=by intro zk0;refine(CallV.part (CallV.fn (hd0 _)) (by first|exact ja|(simp only[hpH_app];exact ja))).mono ?_;exact zk0.1):G:=h ⟨k⟩
theorem zl8 (h:G:=by exact KE.finN je rfl jd (by first|exact ja|(simp only[hpH_app];exact ja)) ⟨rfl,y3,h3.mono (by omega) (by omega),rfl⟩):G:=h
theorem zl9 (k:G') (h:Hid G'→G:=by intro zk0;refine K.drawn _ [(0,0),(1,0),(2,0),(3,0),(6,1),(8,1),(9,1),(10,1),(11,1),(12,1),(13,1),(14,1),(15,1),(16,1),(17,1),(18,1),(19,1),(4,2),(5,2),(7,0),(20,0),(21,0)] (by kernel_rfl) (by kernel_rfl) (by kernel_rfl) (by kernel_rfl) (by kernel_rfl) (by kernel_rfl) Part.all ?_;exact zk0.1):G:=h ⟨k⟩
theorem zih (k:G') (h:Hid G'→G:=by intro zk0;refine KD.v1 rfl rfl (Val.idxSl rfl rfl rfl (Sli.own jn (by assumption) j6) rfl jL) ?_;exact zk0.1):G:=h ⟨k⟩
theorem zii (k:G') (h:Hid G'→G:=by intro zk0;refine KD.v1 rfl rfl (Val.loadP rfl rfl (jI.sl0 (Sli.own jn (by assumption) j6) (by assumption) rfl)) ?_;exact zk0.1):G:=h ⟨k⟩
theorem zma (k:G') (h:Hid G'→G:=by intro zk0;refine(CallV.part (CallV.clo (args:=[]) (cap:=[.pointer (some ⟨b3,0,none⟩), .pointer (some ⟨b10,0,none⟩)]) (hf _)) ja).mono ?_;exact zk0.1):G:=h ⟨k⟩
theorem zij (k:G') (h:Hid G'→G:=by intro zk0;refine Call.enter3 (n:=111) (by kernel_rfl) Tryz.func132 rfl rfl rfl ?_;exact zk0.1):G:=h ⟨k⟩
theorem zm2 (h:G:=by exact KE.fin je rfl jd ja ⟨rfl,y,h1.mono (by omega) (by omega),rfl⟩):G:=h
theorem zjE (k:G') (h:Hid G'→G:=by intro zk0;refine jq (hof _ _ (Sli.own jn hoc rfl) (jkj _ _)) ?_;exact zk0.1):G:=h ⟨k⟩
theorem zjF (h:G:=by exact KE.fin je rfl jd (by first|exact ja|(simp only[hpH_app];exact ja)) ⟨rfl,y,h1.mono (by omega) (by omega),rfl⟩):G:=h
theorem zkI (k:G') (h:Hid G'→G:=by intro zk0;refine K.drawn _ [(0,1),(1,1),(2,1),(3,1),(4,1),(5,1),(6,1),(7,1),(8,1),(9,2),(10,2)] (by kernel_rfl) (by kernel_rfl) (by kernel_rfl) (by kernel_rfl) (by kernel_rfl) (by kernel_rfl) Part.all ?_;exact zk0.1):G:=h ⟨k⟩
theorem zkJ (k:G') (h:Hid G'→G:=by intro zk0;refine(CallV.part (CallV.fn (hrm _ b3 b10 b11)) (by first|exact ja|(simp only[hpH_app];exact ja))).mono ?_;exact zk0.1):G:=h ⟨k⟩
theorem zkK (k:G') (h:Hid G'→G:=by intro zk0;refine(CallV.part (CallV.clo (args:=[]) (cap:=[.pointer (some ⟨b3,0,none⟩), .pointer (some ⟨b10,0,none⟩)]) (hft _ b3 b10 y1 h2)) ja).mono ?_;exact zk0.1):G:=h ⟨k⟩
theorem zmb (h:G:=by exact KE.fin je rfl jd (by first|exact ja|(simp only[hpH_app];exact ja)) ⟨rfl,y1,h2.mono (by omega) (by omega),rfl⟩):G:=h
theorem zkL (k:G') (h:Hid G'→G:=by intro zk0;refine(CallV.part (CallV.fn (hAr _ y1 h2)) (by first|exact ja|(simp only[hpH_app];exact ja))).mono ?_;exact zk0.1):G:=h ⟨k⟩
theorem zfc (k:G') (h:Hid G'→G:=by intro zk0;(first|refine KD.v1 rfl rfl (Val.loadAP rfl rfl rfl jep) ?_|refine KD.v1 rfl rfl (Val.loadA rfl rfl rfl jeo) ?_);exact zk0.1):G:=h ⟨k⟩
theorem zkM (k:G') (h:Hid G'→G:=by intro zk0;refine Call.enter3 (n:=38) (by kernel_rfl) Tryz.func37 rfl rfl rfl ?_;exact zk0.1):G:=h ⟨k⟩
theorem zhl (h:G:=by exact⟨same rfl .refl,rfl⟩):G:=h
theorem zik (k:G') (h:Hid G'→G:=by intro zk0;refine Call.enter3 (n:=76) (by kernel_rfl) Tryz.func133 rfl rfl rfl ?_;exact zk0.1):G:=h ⟨k⟩
theorem zm3 (k:G') (h:Hid G'→G:=by intro zk0;refine ji (hfld _) ja ?_;exact zk0.1):G:=h ⟨k⟩
theorem zil (k:G') (h:Hid G'→G:=by intro zk0;refine K.drawn _ [(0,0),(1,0),(2,0),(3,0),(5,1),(6,1),(7,1),(4,2),(8,2),(9,0),(10,0),(11,0),(12,0),(13,0)] (by kernel_rfl) (by kernel_rfl) (by kernel_rfl) (by kernel_rfl) (by kernel_rfl) (by kernel_rfl) Part.all ?_;exact zk0.1):G:=h ⟨k⟩
theorem zjG (k:G') (h:Hid G'→G:=by intro zk0;refine(CallV.part (CallV.fn (hRf _)) (by first|exact ja|(simp only[hpH_app];exact ja))).mono ?_;exact zk0.1):G:=h ⟨k⟩
theorem zjH (k:G') (h:Hid G'→G:=by intro zk0;refine Call.enter3 (n:=96) (by kernel_rfl) Tryz.func134 rfl rfl rfl ?_;exact zk0.1):G:=h ⟨k⟩
theorem zmc (k:G') (h:Hid G'→G:=by intro zk0;(first|(refine KD.eNX rfl (Eff.storeAL rfl rfl rfl jF byLay jgs) ?_;rintro _ _ rfl)|(refine KD.eNX rfl (Eff.stSlA rfl rfl rfl rfl jn (by assumption) (by assumption)) ?_;rintro _ _ rfl));exact zk0.1):G:=h ⟨k⟩
theorem zkN (k:G') (h:Hid G'→G:=by intro zk0;refine ji (hsl _) ja ?_;exact zk0.1):G:=h ⟨k⟩
theorem zjI (k:G') (h:Hid G'→G:=by intro zk0;refine KL.v rfl (Val.indexV1 rfl rfl rfl rfl rfl (by omega) rfl) ?_;exact zk0.1):G:=h ⟨k⟩
theorem zmd (k:G') (h:Hid G'→G:=by intro zk0;(first|(refine KL.v rfl (Val.isT (Val.lss rfl rfl) jL) ?_)|(refine KL.v rfl (Val.isF (Val.lss rfl rfl) jL) ?_)|(refine KL.v rfl (Val.lss rfl rfl) ?_));exact zk0.1):G:=h ⟨k⟩
theorem zm4 (k:G') (h:Hid G'→G:=by intro zk0;refine Call.enter2 (n:=60) (by kernel_rfl) Tryz.func50 rfl rfl rfl ?_;exact zk0.1):G:=h ⟨k⟩
theorem zm5 (k:G') (h:Hid G'→G:=by intro zk0;refine jq (hopers _) ?_;exact zk0.1):G:=h ⟨k⟩
theorem zm6 (k:G') (h:Hid G'→G:=by intro zk0;refine KL.v rfl (Val.eqlFF rfl rfl rfl) ?_;exact zk0.1):G:=h ⟨k⟩
theorem zgG (k:G') (h:Hid G'→G:=by intro zk0;refine KD.v1 rfl rfl (Val.indexA rfl rfl rfl rfl (by omega)) ?_;exact zk0.1):G:=h ⟨k⟩
theorem zda (k:G') (h:Hid G'→G:=by intro zk0;refine(CallV.part (CallV.fn (hO _)) ja).mono ?_;exact zk0.1):G:=h ⟨k⟩
theorem zm7 (h:G:=by exact KE.meet ⟨y1,b8⟩ jj ja h2):G:=h
theorem zhm (k:G') (h:Hid G'→G:=by intro zk0;refine(CallV.part (CallV.fn (hP _ y1 _ h2)) (by first|exact ja|(simp only[hpH_app];exact ja))).mono ?_;exact zk0.1):G:=h ⟨k⟩
theorem zhn (k:G') (h:Hid G'→G:=by intro zk0;refine(CallV.part (CallV.fn (hA _ y1 _ h2)) (by first|exact ja|(simp only[hpH_app];exact ja))).mono ?_;exact zk0.1):G:=h ⟨k⟩
theorem zkO (k:G') (h:Hid G'→G:=by intro zk0;refine Call.enter2 (n:=49) (by kernel_rfl) Tryz.func16 rfl rfl rfl ?_;exact zk0.1):G:=h ⟨k⟩
theorem zjJ (k:G') (h:Hid G'→G:=by intro zk0;refine ji (hnone _) ja ?_;exact zk0.1):G:=h ⟨k⟩
theorem zme (k:G') (h:Hid G'→G:=by intro zk0;refine(CallV.part (CallV.fn (hdo _)) (by rw[hw0];simp only[List.cons_append,List.append_assoc];exact ja)).mono ?_;exact zk0.1):G:=h ⟨k⟩
theorem zmf (k:G') (h:Hid G'→G:=by intro zk0;refine(CallV.part (CallV.fn (hUs _ y1 h2)) (by first|exact ja|(simp only[hpH_app];exact ja))).mono ?_;exact zk0.1):G:=h ⟨k⟩
theorem zmg (k:G') (h:Hid G'→G:=by intro zk0;(first|refine K.seq (K.drawn ((D.b,cells [oV D.oc D.c.cl.length, .int .i64 D.c.page,oV D.ot D.c.tn.length, .int .i64 D.c.workers, .int .i64 D.c.grey, .int .i64 D.c.gens, .int .i64 (D.C.tn:Nat), .pointer (some ⟨D.yb,0,none⟩), .pointer (some ⟨D.qb,0,none⟩), .int .i64 (h9.wk:Nat)] 84)::F) [(0,0),(1,0),(2,0),(3,0),(6,1),(7,1),(8,1),(9,1),(12,1),(13,1),(14,1),(15,1),(4,2),(5,1),(17,1),(10,2),(11,1),(16,2),(18,2),(19,0),(20,2),(21,0),(22,2)] (by kernel_rfl) (by kernel_rfl) (by kernel_rfl) (by kernel_rfl) (by kernel_rfl) (by kernel_rfl) ja ?_)|refine K.seq (K.seq (K.drawn ((D.b,cells [oV D.oc D.c.cl.length, .int .i64 D.c.page,oV D.ot D.c.tn.length, .int .i64 D.c.workers, .int .i64 D.c.grey, .int .i64 D.c.gens, .int .i64 (D.C.tn:Nat), .pointer (some ⟨D.yb,0,none⟩), .pointer (some ⟨D.qb,0,none⟩), .int .i64 (h9.wk:Nat)] 84)::F) [(0,0),(1,0),(2,0),(3,0),(6,1),(7,1),(8,1),(9,1),(12,1),(13,1),(14,1),(15,1),(4,2),(5,1),(17,1),(10,2),(11,1),(16,2),(18,2),(19,0),(20,2),(21,0),(22,2)] (by kernel_rfl) (by kernel_rfl) (by kernel_rfl) (by kernel_rfl) (by kernel_rfl) (by kernel_rfl) ja ?_))|refine K.drawn ((D.b,cells [oV D.oc D.c.cl.length, .int .i64 D.c.page,oV D.ot D.c.tn.length, .int .i64 D.c.workers, .int .i64 D.c.grey, .int .i64 D.c.gens, .int .i64 (D.C.tn:Nat), .pointer (some ⟨D.yb,0,none⟩), .pointer (some ⟨D.qb,0,none⟩), .int .i64 (h9.wk:Nat)] 84)::F) [(0,0),(1,0),(2,0),(3,0),(6,1),(7,1),(8,1),(9,1),(12,1),(13,1),(14,1),(15,1),(4,2),(5,1),(17,1),(10,2),(11,1),(16,2),(18,2),(19,0),(20,2),(21,0),(22,2)] (by kernel_rfl) (by kernel_rfl) (by kernel_rfl) (by kernel_rfl) (by kernel_rfl) (by kernel_rfl) ja ?_);exact zk0.1):G:=h ⟨k⟩
theorem zmh (k:G') (h:Hid G'→G:=by intro zk0;(first|refine KD.v0 rfl rfl (Val.fieldSl (k:=8) rfl rfl) ?_|refine KD.v0 rfl rfl (Val.fieldAddr0 (k:=8) rfl rfl) ?_|refine KD.v0 rfl rfl (Val.fieldAddrZ rfl rfl) ?_|refine KD.v0 rfl rfl (Val.fieldAddr (k:=8) rfl rfl) ?_);exact zk0.1):G:=h ⟨k⟩
theorem zjK (k:G') (h:Hid G'→G:=by intro zk0;(first|refine KD.v1 rfl rfl (Val.fieldSl (k:=8) rfl rfl) ?_|refine KD.v1 rfl rfl (Val.fieldAddr0 (k:=8) rfl rfl) ?_|refine KD.v1 rfl rfl (Val.fieldAddrZ rfl rfl) ?_|refine KD.v1 rfl rfl (Val.fieldAddr (k:=8) rfl rfl) ?_);exact zk0.1):G:=h ⟨k⟩
theorem zmi (k:G') (h:Hid G'→G:=by intro zk0;refine(CallV.part (CallV.fn (hSi _ y1 h2)) (by first|exact ja|(simp only[hpH_app];exact ja))).mono ?_;exact zk0.1):G:=h ⟨k⟩
theorem zmj (k:G') (h:Hid G'→G:=by intro zk0;(first|refine KD.v1 rfl rfl (Val.fieldSl (k:=5) rfl rfl) ?_|refine KD.v1 rfl rfl (Val.fieldAddr0 (k:=5) rfl rfl) ?_|refine KD.v1 rfl rfl (Val.fieldAddrZ rfl rfl) ?_|refine KD.v1 rfl rfl (Val.fieldAddr (k:=5) rfl rfl) ?_);exact zk0.1):G:=h ⟨k⟩
theorem zmk (k:G') (h:Hid G'→G:=by intro zk0;refine(CallV.part (CallV.fn (hCy _ y1 h2)) (by first|exact ja|(simp only[hpH_app];exact ja))).mono ?_;exact zk0.1):G:=h ⟨k⟩
theorem zml (k:G') (h:Hid G'→G:=by intro zk0;refine(CallV.part (CallV.fn (hAc _ y1 h2)) (by first|exact ja|(simp only[hpH_app];exact ja))).mono ?_;exact zk0.1):G:=h ⟨k⟩
theorem zmm (k:G') (h:Hid G'→G:=by intro zk0;(first|refine KD.v0 rfl rfl (Val.fieldSl (k:=6) rfl rfl) ?_|refine KD.v0 rfl rfl (Val.fieldAddr0 (k:=6) rfl rfl) ?_|refine KD.v0 rfl rfl (Val.fieldAddrZ rfl rfl) ?_|refine KD.v0 rfl rfl (Val.fieldAddr (k:=6) rfl rfl) ?_);exact zk0.1):G:=h ⟨k⟩
theorem zjL (k:G') (h:Hid G'→G:=by intro zk0;refine Call.enter3 (n:=32) (by kernel_rfl) Tryz.func14 rfl rfl rfl ?_;exact zk0.1):G:=h ⟨k⟩
theorem zho (k:G') (h:Hid G'→G:=by intro zk0;refine Call.enter2 (n:=43) (by kernel_rfl) Tryz.func44 rfl rfl rfl ?_;exact zk0.1):G:=h ⟨k⟩
theorem zgH (k:G') (h:Hid G'→G:=by intro zk0;refine KL.v rfl (Val.eqlAE rfl rfl (by kernel_rfl) byEqv (by first|assumption|rfl)) ?_;exact zk0.1):G:=h ⟨k⟩
theorem zkP (h:G:=by exact⟨y,hy,fun j hj=>by rw[←add_add];exact hat j hj⟩):G:=h
theorem zjM (h:G:=by exact⟨⟨n0,n1,a2,a3,n4⟩,rfl,(by show n0<256;omega),(by show n1<18446744073709551616;omega),(by show n4<18446744073709551616;omega)⟩):G:=h
theorem zkQ (h:G:=by exact⟨⟨o,a1,a2,a3,a4,n5⟩,rfl,ho,(by show n5<256;omega)⟩):G:=h
theorem zgI (h:G:=by exact .inr (.inr (.inr rfl))):G:=h
theorem zkR (h:G:=by exact⟨_,⟨o,ko,rfl,rfl⟩,by simp only[cycH_app];exact ja⟩):G:=h
theorem zkS (k:G') (h:Hid G'→G:=by intro zk0;refine Call.enter1 (n:=9) (by kernel_rfl) Tryz.func34 rfl rfl rfl ?_;exact zk0.1):G:=h ⟨k⟩
theorem zfX (k:G') (h:Hid G'→G:=by intro zk0;refine Call.enter1 (n:=9) (by kernel_rfl) Tryz.func17 rfl rfl rfl ?_;exact zk0.1):G:=h ⟨k⟩
theorem zkT (k:G') (h:Hid G'→G:=by intro zk0;refine Call.enter2 (n:=52) (by kernel_rfl) Tryz.func31 rfl rfl rfl ?_;exact zk0.1):G:=h ⟨k⟩
theorem zkU (k:G') (h:Hid G'→G:=by intro zk0;refine K.loopT (σ:=RnS) [(0,_),(1,_)] (fun s kp_=>(6, .int .i64 (s.i:Nat))::(5,oV s.oT s.T.length)::kp_) (fun s=>hpH D s.y (s.h)++(oH uE 33 s.T s.oT++(F))) (fun s=>s.i≤l.length∧s.i≤80∧HpR D s.f 400000000 s.y s.h∧s.f≤f0+s.i*2∧I s.h s.T∧s.T.length≤s.i∧oOk uE s.T s.oT) (fun s=>l.length-s.i) (⟨0,f0,y,h,[],none⟩) jj ja (⟨Nat.zero_le _,Nat.zero_le _,hR0,Nat.le_refl _,h0,Nat.le_refl _,rfl⟩) ?_;exact zk0.1):G:=h ⟨k⟩
theorem zm8 (k:G') (h:Hid G'→G:=by intro zk0;refine KL.nil (KE.next (K.condT rfl (K.skip (KE.next (K.seq (K.block (K.seq (K.seq (K.region ?_)))))))));exact zk0.1):G:=h ⟨k⟩
theorem zkV (k:G') (h:Hid G'→G:=by intro zk0;refine KL.v rfl (Val.fieldSl (k:=7) rfl rfl) ?_;exact zk0.1):G:=h ⟨k⟩
theorem zim (k:G') (h:Hid G'→G:=by intro zk0;refine K.drawn [] [(0,0),(1,0),(2,0),(3,0),(4,0),(5,0),(6,0),(7,0),(8,0),(9,0),(10,0),(11,2)] (by kernel_rfl) (by kernel_rfl) (by kernel_rfl) (by kernel_rfl) (by kernel_rfl) (by kernel_rfl) Part.nil ?_;exact zk0.1):G:=h ⟨k⟩
theorem zin (k:G') (h:Hid G'→G:=by intro zk0;refine KD.v0 rfl rfl (Val.fieldSl (k:=8) rfl rfl) ?_;exact zk0.1):G:=h ⟨k⟩
theorem zio (k:G') (h:Hid G'→G:=by intro zk0;refine KD.v0 rfl rfl (Val.fieldSl (k:=9) rfl rfl) ?_;exact zk0.1):G:=h ⟨k⟩
theorem zkW (h:G:=by exact KE.again ⟨i+1,f,y1,_,tl,otl⟩ jj ja ⟨hc1,hc2,h2,(by show f≤f0+(i+1)*2;omega),hst2,(by show tl.length≤i+1;omega),kT⟩ (by show l.length-(i+1)<l.length-i;omega)):G:=h
theorem zmn (k:G') (h:Hid G'→G:=by intro zk0;refine jq (hop _ _ (Sli.own jn kT rfl)) ?_;exact zk0.1):G:=h ⟨k⟩
theorem zm9 (k:G') (h:Hid G'→G:=by intro zk0;refine j4 (hdo _) ja ?_;exact zk0.1):G:=h ⟨k⟩
theorem zkX (h:G:=by exact KE.again ⟨i+1,f+2,y1,h9,tl,otl⟩ jj ja ⟨hc1,hc2,h2,(by show f+2≤f0+(i+1)*2;omega),hid2,(by show tl.length≤i+1;omega),kT⟩ (by show l.length-(i+1)<l.length-i;omega)):G:=h
theorem zkY (h:G:=by exact KE.again ⟨i+1,f+2,y1,h9,tl++ [((hh:Nat):Int)],o50⟩ jj ja ⟨hc1,hc2,h2,(by show f+2≤f0+(i+1)*2;omega),hid2,(by show(tl++ [((hh:Nat):Int)]).length≤i+1;simp;omega),ok50⟩ (by show l.length-(i+1)<l.length-i;omega)):G:=h
theorem zhp (h:G:=by exact KE.fin je rfl jd ja ⟨f,y,h,tl,otl,hR1,(by omega),hIt,kT,(by omega),rfl,rfl⟩):G:=h
theorem zmo (k:G') (h:Hid G'→G:=by intro zk0;refine K.loopT (σ:=HsQ) [(0,_),(1,_)] (fun s kp_=>(5, .int .i64 (s.k:Nat))::kp_) (fun s=>H) (fun s=>s.k≤l.length∧l.take s.k=m.take s.k) (fun s=>l.length-s.k) (⟨0⟩) jj ja (⟨Nat.zero_le _,rfl⟩) ?_;exact zk0.1):G:=h ⟨k⟩
theorem zmp (h:G:=by exact KE.again ⟨k+1⟩ jj ja ⟨hlt,htake_eq he hx hy⟩ (by show l.length-(k+1)<l.length-k;omega)):G:=h
theorem zjN (h:G:=by exact KE.fin je rfl jd ja ⟨by rw[decide_eq_false hne2];rfl,rfl⟩):G:=h
theorem zkZ (h:G:=by exact⟨_,⟨o,ko,rfl,rfl⟩,by simp only[hpH_app];exact ja⟩):G:=h
theorem zdb (k:G') (h:Hid G'→G:=by intro zk0;refine jq (haw _) ?_;exact zk0.1):G:=h ⟨k⟩
theorem zjO (k:G') (h:Hid G'→G:=by intro zk0;(first|(refine KL.v rfl (Val.lenSl rfl rfl J3) ?_)|(refine KL.v rfl (Val.lenS rfl rfl) ?_));exact zk0.1):G:=h ⟨k⟩
theorem zk0 (h:G:=by exact KE.meet ⟨a,y2,h2⟩ jj ja ⟨ha8,hR2,hEq⟩):G:=h
theorem zk1 (k:G') (h:Hid G'→G:=by intro zk0;(first|(refine KL.v rfl (Val.idxSl rfl rfl rfl J3 rfl jL) ?_)|(refine KL.v rfl (Val.idxSlZ rfl rfl rfl J3 rfl (by omega)) ?_)|(refine KL.v rfl (Val.indexS1 rfl rfl rfl rfl (by omega)) ?_)|(refine KL.v rfl (Val.indexS rfl rfl rfl rfl (by omega)) ?_)|(refine KL.v rfl (Val.indexSO rfl rfl rfl rfl (by omega)) ?_)|(refine KL.v rfl (Val.indexSG rfl rfl rfl rfl (by omega)) ?_));exact zk0.1):G:=h ⟨k⟩
theorem zmq (k:G') (h:Hid G'→G:=by intro zk0;(first|(refine KL.v rfl (Val.loadAP rfl rfl rfl jep) ?_)|(refine KL.v rfl (Val.loadA rfl rfl rfl jeo) ?_));exact zk0.1):G:=h ⟨k⟩
theorem zmr (h:G:=by exact KE.again ⟨i+1,_,o'⟩ jj ja ⟨hc1,(by show(S++ [_]).length≤i+1;simp;omega),ok',happ2⟩ (by show l.length-(i+1)<l.length-i;omega)):G:=h
theorem zk2 (h:G:=by exact mint_slot (by have:=hC.tn;omega) (hI1.T1024 hC) (hI1.gens hC) (freeB_some (not_false' h3))):G:=h
theorem zms (k:G') (h:Hid G'→G:=by intro zk0;refine K.loopT (σ:=DnA) [(1,_),(2,_),(4,_),(8,_)] (fun s kp_=>(9, .int .i64 (s.k:Nat))::kp_) (fun s=>plnHp g s.k 0 0 0 b8 vc s.oL s.oF s.oM++((b2,cells [vc, .int .i64 (g.pg:Nat),vt, .int .i64 workers, .int .i64 grey, .int .i64 gens] 25)::(b4,cells [.slice none 0 0, .slice none 0 0, .slice none 0 0, .int .i64 0, .slice none 0 0] 53)::F)) (fun s=>s.k≤g.m∧oOk slE (LKx g s.k 0) s.oL∧oOk iE (FKx g s.k 0) s.oF∧oOk iE (MKx g s.k 0) s.oM) (fun s=>g.m-s.k) (⟨0,none,none,none⟩) jj (by rw[plnHp_app];exact ja) (⟨Nat.zero_le _,rfl,rfl,rfl⟩) ?_;exact zk0.1):G:=h ⟨k⟩
theorem zmt (k:G') (h:Hid G'→G:=by intro zk0;refine K.loopT (σ:=DnA) [(1,_),(2,_),(4,_),(8,_),(9,_)] (fun s kp_=>(10, .int .i64 ((g.n k-min (s.k*g.per k) (g.n k):Nat):Int))::kp_) (fun s=>plnHp g k (min (s.k*g.per k) (g.n k)) s.k s.k b8 vc s.oL s.oF s.oM++((b2,cells [vc, .int .i64 (g.pg:Nat),vt, .int .i64 workers, .int .i64 grey, .int .i64 gens] 25)::(b4,cells [.slice none 0 0, .slice none 0 0, .slice none 0 0, .int .i64 0, .slice none 0 0] 53)::F)) (fun s=>s.k≤g.pgs k∧oOk slE (LKx g k (min (s.k*g.per k) (g.n k))) s.oL∧oOk iE (FKx g k s.k) s.oF∧oOk iE (MKx g k s.k) s.oM) (fun s=>g.pgs k-s.k) (⟨0,oL,oF,oM⟩) jj (by rw[plnHp_app];simp only[Nat.zero_mul,Nat.zero_min];exact ja) ((by simp only[Nat.zero_mul,Nat.zero_min];exact⟨Nat.zero_le _,kL,kF,kM⟩)) ?_;exact zk0.1):G:=h ⟨k⟩
theorem zmu (k:G') (h:Hid G'→G:=by intro zk0;refine K.loopT (σ:=DnC) [(1,_),(2,_),(4,_),(8,_),(9,_),(12,_)] (fun s kp_=>(10, .int .i64 ((g.n k-(D+s.i):Nat):Int))::(13, .int .i64 (s.i:Nat))::(14, .int .i64 ((s.i*g.y k:Nat):Int))::kp_) (fun s=>plnHp g k (D+s.i) (j+1) j b8 vc s.oL o6 oM++((b2,cells [vc, .int .i64 (g.pg:Nat),vt, .int .i64 workers, .int .i64 grey, .int .i64 gens] 25)::(b4,cells [.slice none 0 0, .slice none 0 0, .slice none 0 0, .int .i64 0, .slice none 0 0] 53)::F)) (fun s=>D+s.i≤g.n k∧s.i≤g.per k∧oOk slE (LKx g k (D+s.i)) s.oL) (fun s=>g.n k-(D+s.i)) (⟨0,oL⟩) jj (by rw[plnHp_app];exact ja) (⟨by show D+0≤_;omega,Nat.zero_le _,kL⟩) ?_;exact zk0.1):G:=h ⟨k⟩
theorem zhq (k:G') (h:Hid G'→G:=by intro zk0;refine K.drawn [] [(0,0),(1,0),(2,0),(3,0),(4,0),(5,0),(6,0),(7,0),(8,0),(9,0),(10,0),(11,0),(12,0),(13,0)] (by kernel_rfl) (by kernel_rfl) (by kernel_rfl) (by kernel_rfl) (by kernel_rfl) (by kernel_rfl) Part.nil ?_;exact zk0.1):G:=h ⟨k⟩
theorem zjP (k:G') (h:Hid G'→G:=by intro zk0;refine KD.v0 rfl rfl (Val.isT (Val.gtr rfl rfl) jL) ?_;exact zk0.1):G:=h ⟨k⟩
theorem zmv (k:G') (h:Hid G'→G:=by intro zk0;(first|refine K.seq (K.drawn ((b8,cells [oV oL2 (LKx g k (D+i)).length,oV o6 (FKx g k (j+1)).length,oV oM (MKx g k j).length, .int .i64 (g.words:Nat),vc] 53)::[]) [(0,1),(1,1),(2,0),(3,0),(4,0),(5,0),(6,0),(7,0),(8,0),(9,0),(10,0),(11,0),(12,0),(13,0),(14,0),(15,0),(16,2),(17,2),(18,0),(19,4)] (by kernel_rfl) (by kernel_rfl) (by kernel_rfl) (by kernel_rfl) (by kernel_rfl) (by kernel_rfl) ja ?_)|refine K.seq (K.seq (K.drawn ((b8,cells [oV oL2 (LKx g k (D+i)).length,oV o6 (FKx g k (j+1)).length,oV oM (MKx g k j).length, .int .i64 (g.words:Nat),vc] 53)::[]) [(0,1),(1,1),(2,0),(3,0),(4,0),(5,0),(6,0),(7,0),(8,0),(9,0),(10,0),(11,0),(12,0),(13,0),(14,0),(15,0),(16,2),(17,2),(18,0),(19,4)] (by kernel_rfl) (by kernel_rfl) (by kernel_rfl) (by kernel_rfl) (by kernel_rfl) (by kernel_rfl) ja ?_))|refine K.drawn ((b8,cells [oV oL2 (LKx g k (D+i)).length,oV o6 (FKx g k (j+1)).length,oV oM (MKx g k j).length, .int .i64 (g.words:Nat),vc] 53)::[]) [(0,1),(1,1),(2,0),(3,0),(4,0),(5,0),(6,0),(7,0),(8,0),(9,0),(10,0),(11,0),(12,0),(13,0),(14,0),(15,0),(16,2),(17,2),(18,0),(19,4)] (by kernel_rfl) (by kernel_rfl) (by kernel_rfl) (by kernel_rfl) (by kernel_rfl) (by kernel_rfl) ja ?_);exact zk0.1):G:=h ⟨k⟩
theorem zhr (k:G') (h:Hid G'→G:=by intro zk0;(first|refine KD.v0 rfl rfl (Val.mul rfl rfl (by simp only[qL,qH];omega)) ?_|refine KD.v0 rfl rfl (Val.mulW rfl rfl) ?_);exact zk0.1):G:=h ⟨k⟩
theorem zmw (h:G:=by exact KE.again ⟨i+1,o'⟩ jj (by rw[plnHp_app];exact ja) ⟨by show D+(i+1)≤_;omega,h2,ok'⟩ (by show g.n k-(D+(i+1))<g.n k-(D+i);omega)):G:=h
theorem zjQ (h:G:=by exact KE.again ⟨j+1,oL2,o6,o'⟩ jj (by rw[plnHp_app];simp only[hDn];exact ja) ⟨hj,by simp only[hDn];exact kL2,ok6,ok'⟩ (by show g.pgs k-(j+1)<g.pgs k-j;omega)):G:=h
theorem zmx (h:G:=by exact KE.again ⟨k+1,oL,oF,oM⟩ jj (by rw[plnHp_app];exact ja) ⟨hlt,kL,kF,kM⟩ (by show g.m-(k+1)<g.m-k;omega)):G:=h
theorem zmy (k:G') (h:Hid G'→G:=by intro zk0;refine K.loopT (σ:=AdS) [(0,_),(1,_),(2,_),(4,_),(7,_),(23,_)] (fun s kp_=>(24, .int .i64 (s.i:Nat))::kp_) (fun s=>s.A++((b7,cells [.int .i64 (sz:Nat), .int .i64 (fi:Nat), .int .i64 (ma:Nat), .int .i64 (pa:Nat), .int .i64 (pe:Nat)] 202)::(c1,cells [.pointer (some ⟨p.b,0,none⟩)] 102)::(c2,cells [.int .i64 (k:Nat)] 3)::(planH p++F))) (fun s=>J s.i s.A∧s.i≤m) (fun s=>m-s.i) (⟨0,A0⟩) jj ja (⟨h0,Nat.zero_le _⟩) ?_;exact zk0.1):G:=h ⟨k⟩
theorem zmz (k:G') (h:Hid G'→G:=by intro zk0;(first|refine K.seq (K.drawn ([]) [(0,0),(1,0),(2,0),(3,0),(4,0),(5,0),(6,0),(7,0),(8,0),(9,0),(10,0),(11,0),(12,0),(13,0),(14,0),(15,2),(16,0)] (by kernel_rfl) (by kernel_rfl) (by kernel_rfl) (by kernel_rfl) (by kernel_rfl) (by kernel_rfl) ja ?_)|refine K.seq (K.seq (K.drawn ([]) [(0,0),(1,0),(2,0),(3,0),(4,0),(5,0),(6,0),(7,0),(8,0),(9,0),(10,0),(11,0),(12,0),(13,0),(14,0),(15,2),(16,0)] (by kernel_rfl) (by kernel_rfl) (by kernel_rfl) (by kernel_rfl) (by kernel_rfl) (by kernel_rfl) ja ?_))|refine K.drawn ([]) [(0,0),(1,0),(2,0),(3,0),(4,0),(5,0),(6,0),(7,0),(8,0),(9,0),(10,0),(11,0),(12,0),(13,0),(14,0),(15,2),(16,0)] (by kernel_rfl) (by kernel_rfl) (by kernel_rfl) (by kernel_rfl) (by kernel_rfl) (by kernel_rfl) ja ?_);exact zk0.1):G:=h ⟨k⟩
theorem zmA (k:G') (h:Hid G'→G:=by intro zk0;(first|refine KD.v0 rfl rfl (Val.notT rfl) ?_|refine KD.v0 rfl rfl (Val.notF rfl) ?_|refine KD.v0 rfl rfl (Val.not rfl) ?_|refine KD.v0 rfl rfl (Val.notB rfl) ?_);exact zk0.1):G:=h ⟨k⟩
theorem zmB (h:G:=by exact KE.again ⟨i+1,A'⟩ jj (by first|exact ja|(simp only[jO];exact ja)) ⟨hJ',hlt⟩ (by show m-(i+1)<m-i;omega)):G:=h
theorem zmC (h:G:=by exact KE.fin je rfl jd (by first|exact ja|(simp only[jO];exact ja)) ⟨A',rfl, .inr hE'⟩):G:=h
theorem zmD (k:G') (h:Hid G'→G:=by intro zk0;refine K.drawn _ [(0,0),(1,0),(2,0),(3,1),(4,0),(5,2),(6,0),(7,0),(8,0)] (by kernel_rfl) (by kernel_rfl) (by kernel_rfl) (by kernel_rfl) (by kernel_rfl) (by kernel_rfl) Part.all ?_;exact zk0.1):G:=h ⟨k⟩
theorem zmE (k:G') (h:Hid G'→G:=by intro zk0;refine K.drawn [] [(0,0),(1,0),(2,0),(3,0),(4,0),(5,0),(6,0),(7,2)] (by kernel_rfl) (by kernel_rfl) (by kernel_rfl) (by kernel_rfl) (by kernel_rfl) (by kernel_rfl) Part.nil ?_;exact zk0.1):G:=h ⟨k⟩
theorem zmF (k:G') (h:Hid G'→G:=by intro zk0;refine KE.part ((l, .loop (rc .busy none))::((D, .deferred (some []))::(b5,cells [.int .i64 0] 40)::(b4,cells [.int .i64 (s:Nat)] 3)::(b3,cells [.int .i64 (ad:Nat)] 3)::F)) ja ?_;exact zk0.1):G:=h ⟨k⟩
theorem zmG (k:G') (h:Hid G'→G:=by intro zk0;refine KE.part ((l, .loop (rc .busy none))::((D, .deferred (some []))::(b5,cells [.int .i64 0] 40)::(b4,cells [.int .i64 0] 3)::(b3,cells [.int .i64 (ad:Nat)] 3)::F)) ja ?_;exact zk0.1):G:=h ⟨k⟩
theorem zL (k:G') (h:Hid G'→G:=by intro zk0;refine ze ?_;refine zi ?_;exact zk0.1):G:=h ⟨k⟩
theorem zk3 (k:G') (h:Hid G'→G:=by intro zk0;refine zaY ?_;refine ziG ?_;exact zk0.1):G:=h ⟨k⟩
theorem zf (k:G') (h:Hid G'→G:=by intro zk0;refine zk ?_;refine zk3 ?_;exact zk0.1):G:=h ⟨k⟩
theorem zu (k:G') (h:Hid G'→G:=by intro zk0;refine zk ?_;refine zW ?_;exact zk0.1):G:=h ⟨k⟩
theorem zcc (k:G') (h:Hid G'→G:=by intro zk0;refine ziH ?_;refine ziH ?_;exact zk0.1):G:=h ⟨k⟩
theorem zm (k:G') (h:Hid G'→G:=by intro zk0;refine ze ?_;refine ze ?_;exact zk0.1):G:=h ⟨k⟩
theorem zX (k:G') (h:Hid G'→G:=by intro zk0;refine zk ?_;refine zdH ?_;exact zk0.1):G:=h ⟨k⟩
theorem zA (k:G') (h:Hid G'→G:=by intro zk0;refine zL ?_;refine zL ?_;exact zk0.1):G:=h ⟨k⟩
theorem zo (k:G') (h:Hid G'→G:=by intro zk0;refine ze ?_;refine zn ?_;exact zk0.1):G:=h ⟨k⟩
theorem zip (k:G') (h:Hid G'→G:=by intro zk0;refine zp ?_;refine zi ?_;exact zk0.1):G:=h ⟨k⟩
theorem zfY (k:G') (h:Hid G'→G:=by intro zk0;refine zka ?_;refine zka ?_;exact zk0.1):G:=h ⟨k⟩
theorem za3 (k:G') (h:Hid G'→G:=by intro zk0;refine ze ?_;refine zfY ?_;exact zk0.1):G:=h ⟨k⟩
theorem zai (k:G') (h:Hid G'→G:=by intro zk0;refine zi ?_;refine zip ?_;exact zk0.1):G:=h ⟨k⟩
theorem ziq (k:G') (h:Hid G'→G:=by intro zk0;refine ze ?_;refine zcc ?_;exact zk0.1):G:=h ⟨k⟩
theorem zK (k:G') (h:Hid G'→G:=by intro zk0;refine ze ?_;refine zaQ ?_;exact zk0.1):G:=h ⟨k⟩
theorem zdV (k:G') (h:Hid G'→G:=by intro zk0;refine zy ?_;refine zbR ?_;intro v0;revert v0;exact zk0.1):G:=h ⟨k⟩
theorem zez (k:G') (h:Hid G'→G:=by intro zk0;refine za3 ?_;refine zk ?_;exact zk0.1):G:=h ⟨k⟩
theorem z6 (k:G') (h:Hid G'→G:=by intro zk0;refine zX ?_;refine ze ?_;exact zk0.1):G:=h ⟨k⟩
theorem zB (k:G') (h:Hid G'→G:=by intro zk0;refine zaZ ?_;refine zp ?_;exact zk0.1):G:=h ⟨k⟩
theorem zas (k:G') (h:Hid G'→G:=by intro zk0;refine zf ?_;refine zbE ?_;exact zk0.1):G:=h ⟨k⟩
theorem zt (h:G:=by refine zf ?_;exact zZ):G:=h
theorem z7 (k:G') (h:Hid G'→G:=by intro zk0;refine zy ?_;refine zu ?_;exact zk0.1):G:=h ⟨k⟩
theorem zap (k:G') (h:Hid G'→G:=by intro zk0;refine zj ?_;refine zfO ?_;exact zk0.1):G:=h ⟨k⟩
theorem zbY (k:G') (h:Hid G'→G:=by intro zk0;refine zk ?_;refine zN ?_;exact zk0.1):G:=h ⟨k⟩
theorem zdc (k:G') (h:Hid G'→G:=by intro zk0;refine ziq ?_;refine zcc ?_;exact zk0.1):G:=h ⟨k⟩
theorem zae (k:G') (h:Hid G'→G:=by intro zk0;refine zy ?_;refine zk ?_;exact zk0.1):G:=h ⟨k⟩
theorem zcd (k:G') (h:Hid G'→G:=by intro zk0;refine zbS ?_;refine zbE ?_;exact zk0.1):G:=h ⟨k⟩
theorem zx (k:G') (h:Hid G'→G:=by intro zk0;refine ze ?_;refine zq ?_;exact zk0.1):G:=h ⟨k⟩
theorem zdW (k:G') (h:Hid G'→G:=by intro zk0;refine ziK ?_;refine ziL ?_;exact zk0.1):G:=h ⟨k⟩
theorem zfd (k:G') (h:Hid G'→G:=by intro zk0;refine zaD ?_;intro v0;refine zbb ?_;revert v0;exact zk0.1):G:=h ⟨k⟩
theorem zaq (k:G') (h:Hid G'→G:=by intro zk0;refine zaZ ?_;refine zai ?_;exact zk0.1):G:=h ⟨k⟩
theorem zir (k:G') (h:Hid G'→G:=by intro zk0;refine zaQ ?_;refine zi ?_;exact zk0.1):G:=h ⟨k⟩
theorem zdX (k:G') (h:Hid G'→G:=by intro zk0;refine zdV ?_;intro v0;refine zaD ?_;intro v1;revert v0 v1;exact zk0.1):G:=h ⟨k⟩
theorem zF (k:G') (h:Hid G'→G:=by intro zk0;refine zhF ?_;refine zp ?_;exact zk0.1):G:=h ⟨k⟩
theorem zgJ (k:G') (h:Hid G'→G:=by intro zk0;refine zX ?_;refine zo ?_;exact zk0.1):G:=h ⟨k⟩
theorem zk4 (k:G') (h:Hid G'→G:=by intro zk0;refine zc4 ?_;refine ziK ?_;exact zk0.1):G:=h ⟨k⟩
theorem zbL (k:G') (h:Hid G'→G:=by intro zk0;refine zbD ?_;refine zek ?_;exact zk0.1):G:=h ⟨k⟩
theorem zjR (k:G') (h:Hid G'→G:=by intro zk0;refine zk4 ?_;refine zdW ?_;exact zk0.1):G:=h ⟨k⟩
theorem zbZ (k:G') (h:Hid G'→G:=by intro zk0;refine ze ?_;refine zbT ?_;exact zk0.1):G:=h ⟨k⟩
theorem zat (k:G') (h:Hid G'→G:=by intro zk0;refine zm ?_;refine zn ?_;exact zk0.1):G:=h ⟨k⟩
theorem zI (k:G') (h:Hid G'→G:=by intro zk0;refine zbn ?_;refine zp ?_;exact zk0.1):G:=h ⟨k⟩
theorem zhs (k:G') (h:Hid G'→G:=by intro zk0;refine zel ?_;refine zel ?_;exact zk0.1):G:=h ⟨k⟩
theorem zaM (k:G') (h:Hid G'→G:=by intro zk0;refine zez ?_;refine z6 ?_;exact zk0.1):G:=h ⟨k⟩
theorem zjS (k:G') (h:Hid G'→G:=by intro zk0;refine ziH ?_;refine zC ?_;exact zk0.1):G:=h ⟨k⟩
theorem za4 (k:G') (h:Hid G'→G:=by intro zk0;refine zc3 ?_;refine zm ?_;exact zk0.1):G:=h ⟨k⟩
theorem zbw (k:G') (h:Hid G'→G:=by intro zk0;refine zw ?_;refine zL ?_;exact zk0.1):G:=h ⟨k⟩
theorem zQ (k:G') (h:Hid G'→G:=by intro zk0;refine zez ?_;refine zu ?_;exact zk0.1):G:=h ⟨k⟩
theorem zau (k:G') (h:Hid G'→G:=by intro zk0;refine zk ?_;refine zmO ?_;exact zk0.1):G:=h ⟨k⟩
theorem zb0 (k:G') (h:Hid G'→G:=by intro zk0;refine zgu ?_;refine zD ?_;exact zk0.1):G:=h ⟨k⟩
theorem zbe (k:G') (h:Hid G'→G:=by intro zk0;refine ze ?_;refine zk ?_;exact zk0.1):G:=h ⟨k⟩
theorem zbf (k:G') (h:Hid G'→G:=by intro zk0;refine zj ?_;refine zj ?_;exact zk0.1):G:=h ⟨k⟩
theorem zY (k:G') (h:Hid G'→G:=by intro zk0;refine zy ?_;refine zgJ ?_;exact zk0.1):G:=h ⟨k⟩
theorem zce (k:G') (h:Hid G'→G:=by intro zk0;refine zad ?_;refine zab ?_;exact zk0.1):G:=h ⟨k⟩
theorem zR (k:G') (h:Hid G'→G:=by intro zk0;refine zz ?_;refine zK ?_;exact zk0.1):G:=h ⟨k⟩
theorem zbg (k:G') (h:Hid G'→G:=by intro zk0;refine zL ?_;refine zaq ?_;exact zk0.1):G:=h ⟨k⟩
theorem zdY (k:G') (h:Hid G'→G:=by intro zk0;refine zbZ ?_;refine zbY ?_;exact zk0.1):G:=h ⟨k⟩
theorem zdZ (k:G') (h:Hid G'→G:=by intro zk0;refine zdc ?_;refine zcc ?_;exact zk0.1):G:=h ⟨k⟩
theorem zak (k:G') (h:Hid G'→G:=by intro zk0;simp only[hpH_app];refine zg ?_;exact zk0.1):G:=h ⟨k⟩
theorem zav (k:G') (h:Hid G'→G:=by intro zk0;refine zac ?_;refine zas ?_;exact zk0.1):G:=h ⟨k⟩
theorem zcN (k:G') (h:Hid G'→G:=by intro zk0;refine zdV ?_;intro v0;refine zu ?_;revert v0;exact zk0.1):G:=h ⟨k⟩
theorem zbM (k:G') (h:Hid G'→G:=by intro zk0;refine zA ?_;refine zL ?_;exact zk0.1):G:=h ⟨k⟩
theorem zht (k:G') (h:Hid G'→G:=by intro zk0;refine zbb ?_;refine zk3 ?_;exact zk0.1):G:=h ⟨k⟩
theorem zis (k:G') (h:Hid G'→G:=by intro zk0;refine zbq ?_;refine zbD ?_;exact zk0.1):G:=h ⟨k⟩
theorem zbh (k:G') (h:Hid G'→G:=by intro zk0;refine zhF ?_;refine zai ?_;exact zk0.1):G:=h ⟨k⟩
theorem zcf (k:G') (h:Hid G'→G:=by intro zk0;refine zj6 ?_;refine zjR ?_;exact zk0.1):G:=h ⟨k⟩
theorem zan (k:G') (h:Hid G'→G:=by intro zk0;refine zA ?_;refine zir ?_;exact zk0.1):G:=h ⟨k⟩
theorem zaa (k:G') (h:Hid G'→G:=by intro zk0;refine zy ?_;refine z6 ?_;exact zk0.1):G:=h ⟨k⟩
theorem zaA (k:G') (h:Hid G'→G:=by intro zk0;refine zc3 ?_;refine ze ?_;exact zk0.1):G:=h ⟨k⟩
theorem zgK (k:G') (h:Hid G'→G:=by intro zk0;refine zdV ?_;intro v0;refine zk ?_;revert v0;exact zk0.1):G:=h ⟨k⟩
theorem zbx (k:G') (h:Hid G'→G:=by intro zk0;refine z3 ?_;refine zn ?_;exact zk0.1):G:=h ⟨k⟩
theorem zcv (k:G') (h:Hid G'→G:=by intro zk0;refine ze ?_;refine zaE ?_;exact zk0.1):G:=h ⟨k⟩
theorem zV (k:G') (h:Hid G'→G:=by intro zk0;refine zp ?_;refine zn ?_;exact zk0.1):G:=h ⟨k⟩
theorem zdd (k:G') (h:Hid G'→G:=by intro zk0;refine zk ?_;refine zis ?_;exact zk0.1):G:=h ⟨k⟩
theorem zde (k:G') (h:Hid G'→G:=by intro zk0;refine za4 ?_;refine zce ?_;exact zk0.1):G:=h ⟨k⟩
theorem za5 (k:G') (h:Hid G'→G:=by intro zk0;refine zp ?_;refine zq ?_;exact zk0.1):G:=h ⟨k⟩
theorem zaw (k:G') (h:Hid G'→G:=by intro zk0;refine zO ?_;refine zW ?_;exact zk0.1):G:=h ⟨k⟩
theorem zeA (k:G') (h:Hid G'→G:=by intro zk0;refine zbn ?_;refine zai ?_;exact zk0.1):G:=h ⟨k⟩
theorem zgL (k:G') (h:Hid G'→G:=by intro zk0;refine zbG ?_;refine ziG ?_;exact zk0.1):G:=h ⟨k⟩
theorem zcg (k:G') (h:Hid G'→G:=by intro zk0;refine zbL ?_;refine zdY ?_;exact zk0.1):G:=h ⟨k⟩
theorem zdf (k:G') (h:Hid G'→G:=by intro zk0;refine zmP ?_;refine zP ?_;exact zk0.1):G:=h ⟨k⟩
theorem zaG (k:G') (h:Hid G'→G:=by intro zk0;refine zz ?_;refine ze ?_;exact zk0.1):G:=h ⟨k⟩
theorem zch (k:G') (h:Hid G'→G:=by intro zk0;refine zk ?_;refine zk ?_;exact zk0.1):G:=h ⟨k⟩
theorem zax (k:G') (h:Hid G'→G:=by intro zk0;refine ziq ?_;refine zjS ?_;exact zk0.1):G:=h ⟨k⟩
theorem zdg (k:G') (h:Hid G'→G:=by intro zk0;refine zau ?_;refine ze ?_;exact zk0.1):G:=h ⟨k⟩
theorem zb1 (k:G') (h:Hid G'→G:=by intro zk0;refine zw ?_;refine zA ?_;exact zk0.1):G:=h ⟨k⟩
theorem zcw (k:G') (h:Hid G'→G:=by intro zk0;refine zez ?_;refine zk ?_;exact zk0.1):G:=h ⟨k⟩
theorem zaT (h:G:=by refine zas ?_;exact zZ):G:=h
theorem zaU (k:G') (h:Hid G'→G:=by intro zk0;refine zdV ?_;intro v0;refine zbR ?_;intro v1;revert v0 v1;exact zk0.1):G:=h ⟨k⟩
theorem zd0 (k:G') (h:Hid G'→G:=by intro zk0;refine zf ?_;refine zcd ?_;exact zk0.1):G:=h ⟨k⟩
theorem zaV (k:G') (h:Hid G'→G:=by intro zk0;refine zb0 ?_;refine zgL ?_;exact zk0.1):G:=h ⟨k⟩
theorem zbi (k:G') (h:Hid G'→G:=by intro zk0;refine zbt ?_;refine zbt ?_;exact zk0.1):G:=h ⟨k⟩
theorem za6 (k:G') (h:Hid G'→G:=by intro zk0;refine zae ?_;refine zu ?_;exact zk0.1):G:=h ⟨k⟩
theorem zd1 (k:G') (h:Hid G'→G:=by intro zk0;refine zmW ?_;refine zP ?_;exact zk0.1):G:=h ⟨k⟩
theorem zb2 (k:G') (h:Hid G'→G:=by intro zk0;refine zp ?_;refine zaQ ?_;exact zk0.1):G:=h ⟨k⟩
theorem zfZ (k:G') (h:Hid G'→G:=by intro zk0;refine ziH ?_;refine zw ?_;exact zk0.1):G:=h ⟨k⟩
theorem zcO (k:G') (h:Hid G'→G:=by intro zk0;refine zk ?_;refine zb9 ?_;exact zk0.1):G:=h ⟨k⟩
theorem zit (k:G') (h:Hid G'→G:=by intro zk0;refine zdX ?_;intro v0 v1;refine zW ?_;revert v0 v1;exact zk0.1):G:=h ⟨k⟩
theorem zaB (k:G') (h:Hid G'→G:=by intro zk0;refine zbV ?_;refine zD ?_;exact zk0.1):G:=h ⟨k⟩
theorem zk5 (k:G') (h:Hid G'→G:=by intro zk0;refine zab ?_;refine zmR ?_;exact zk0.1):G:=h ⟨k⟩
theorem zci (k:G') (h:Hid G'→G:=by intro zk0;refine zbM ?_;refine zir ?_;exact zk0.1):G:=h ⟨k⟩
theorem zfe (k:G') (h:Hid G'→G:=by intro zk0;refine zbQ ?_;refine zD ?_;exact zk0.1):G:=h ⟨k⟩
theorem zf0 (h:G:=by simp only[List.cons_append,List.nil_append];exact ja):G:=h
theorem zhu (k:G') (h:Hid G'→G:=by intro zk0;refine zbf ?_;refine zlt ?_;exact zk0.1):G:=h ⟨k⟩
theorem zb3 (k:G') (h:Hid G'→G:=by intro zk0;refine z3 ?_;refine zo ?_;exact zk0.1):G:=h ⟨k⟩
theorem zay (k:G') (h:Hid G'→G:=by intro zk0;refine zdd ?_;refine zaf ?_;exact zk0.1):G:=h ⟨k⟩
theorem zjT (k:G') (h:Hid G'→G:=by intro zk0;refine zdH ?_;refine zB ?_;exact zk0.1):G:=h ⟨k⟩
theorem zdh (k:G') (h:Hid G'→G:=by intro zk0;refine zcf ?_;refine zaf ?_;exact zk0.1):G:=h ⟨k⟩
theorem zdi (k:G') (h:Hid G'→G:=by intro zk0;refine zad ?_;refine zT ?_;exact zk0.1):G:=h ⟨k⟩
theorem zhv (k:G') (h:Hid G'→G:=by intro zk0;refine zA ?_;refine zT ?_;exact zk0.1):G:=h ⟨k⟩
theorem zcP (k:G') (h:Hid G'→G:=by intro zk0;refine ze ?_;refine zbr ?_;exact zk0.1):G:=h ⟨k⟩
theorem zmH (k:G') (h:Hid G'→G:=by intro zk0;refine zky ?_;refine zD ?_;exact zk0.1):G:=h ⟨k⟩
theorem zaH (k:G') (h:Hid G'→G:=by intro zk0;refine zfd ?_;intro v0;refine zW ?_;revert v0;exact zk0.1):G:=h ⟨k⟩
theorem zaN (k:G') (h:Hid G'→G:=by intro zk0;refine zy ?_;refine zk5 ?_;exact zk0.1):G:=h ⟨k⟩
theorem zaO (k:G') (h:Hid G'→G:=by intro zk0;refine ziq ?_;refine zC ?_;exact zk0.1):G:=h ⟨k⟩
theorem zcj (k:G') (h:Hid G'→G:=by intro zk0;refine zgK ?_;intro v0;refine zX ?_;revert v0;exact zk0.1):G:=h ⟨k⟩
theorem zaC (k:G') (h:Hid G'→G:=by intro zk0;refine zm ?_;refine zq ?_;exact zk0.1):G:=h ⟨k⟩
theorem zb4 (k:G') (h:Hid G'→G:=by intro zk0;refine zap ?_;refine zdf ?_;exact zk0.1):G:=h ⟨k⟩
theorem zff (k:G') (h:Hid G'→G:=by intro zk0;refine ze ?_;refine zN ?_;exact zk0.1):G:=h ⟨k⟩
theorem zf1 (k:G') (h:Hid G'→G:=by intro zk0;refine zac ?_;refine zn ?_;exact zk0.1):G:=h ⟨k⟩
theorem zfg (k:G') (h:Hid G'→G:=by intro zk0;refine zhs ?_;refine zhs ?_;exact zk0.1):G:=h ⟨k⟩
theorem zf2 (k:G') (h:Hid G'→G:=by intro zk0;refine z7 ?_;refine ze ?_;exact zk0.1):G:=h ⟨k⟩
theorem ziu (k:G') (h:Hid G'→G:=by intro zk0;refine zbE ?_;refine zcd ?_;exact zk0.1):G:=h ⟨k⟩
theorem ziv (k:G') (h:Hid G'→G:=by intro zk0;refine zK ?_;refine za2 ?_;exact zk0.1):G:=h ⟨k⟩
theorem zaI (k:G') (h:Hid G'→G:=by intro zk0;refine zk ?_;refine zf ?_;exact zk0.1):G:=h ⟨k⟩
theorem zhw (k:G') (h:Hid G'→G:=by intro zk0;refine zac ?_;refine zk ?_;exact zk0.1):G:=h ⟨k⟩
theorem zaJ (k:G') (h:Hid G'→G:=by intro zk0;refine zbF ?_;refine zq ?_;exact zk0.1):G:=h ⟨k⟩
theorem za7 (k:G') (h:Hid G'→G:=by intro zk0;refine zy ?_;refine ze ?_;exact zk0.1):G:=h ⟨k⟩
theorem zeB (k:G') (h:Hid G'→G:=by intro zk0;refine zbw ?_;refine zbh ?_;exact zk0.1):G:=h ⟨k⟩
theorem zcx (k:G') (h:Hid G'→G:=by intro zk0;refine zad ?_;refine zi ?_;exact zk0.1):G:=h ⟨k⟩
theorem zcy (k:G') (h:Hid G'→G:=by intro zk0;refine zm ?_;refine zaQ ?_;exact zk0.1):G:=h ⟨k⟩
theorem zmI (k:G') (h:Hid G'→G:=by intro zk0;refine zbO ?_;refine zC ?_;exact zk0.1):G:=h ⟨k⟩
theorem zaP (k:G') (h:Hid G'→G:=by intro zk0;refine zdI ?_;refine zo ?_;exact zk0.1):G:=h ⟨k⟩
theorem zgM (k:G') (h:Hid G'→G:=by intro zk0;refine zfd ?_;intro v0;refine zjT ?_;revert v0;exact zk0.1):G:=h ⟨k⟩
theorem zaW (k:G') (h:Hid G'→G:=by intro zk0;refine zk ?_;refine zaY ?_;exact zk0.1):G:=h ⟨k⟩
theorem zhx (k:G') (h:Hid G'→G:=by intro zk0;refine zl7 ?_;refine zht ?_;exact zk0.1):G:=h ⟨k⟩
theorem zaX (k:G') (h:Hid G'→G:=by intro zk0;refine za3 ?_;refine zfd ?_;intro v0;revert v0;exact zk0.1):G:=h ⟨k⟩
theorem zd2 (k:G') (h:Hid G'→G:=by intro zk0;refine zbt ?_;refine zkg ?_;exact zk0.1):G:=h ⟨k⟩
theorem zb5 (k:G') (h:Hid G'→G:=by intro zk0;refine zdc ?_;refine zw ?_;exact zk0.1):G:=h ⟨k⟩
theorem zdj (k:G') (h:Hid G'→G:=by intro zk0;refine zi ?_;refine zmI ?_;exact zk0.1):G:=h ⟨k⟩
theorem za8 (k:G') (h:Hid G'→G:=by intro zk0;refine ze ?_;refine zf ?_;exact zk0.1):G:=h ⟨k⟩
theorem zgN (k:G') (h:Hid G'→G:=by intro zk0;refine zcN ?_;intro v0;refine zB ?_;revert v0;exact zk0.1):G:=h ⟨k⟩
theorem za9 (k:G') (h:Hid G'→G:=by intro zk0;refine za3 ?_;refine zka ?_;refine zch ?_;exact zk0.1):G:=h ⟨k⟩
theorem zcQ (k:G') (h:Hid G'→G:=by intro zk0;refine zp ?_;refine zf ?_;exact zk0.1):G:=h ⟨k⟩
theorem zfh (k:G') (h:Hid G'→G:=by intro zk0;refine zdZ ?_;refine zC ?_;exact zk0.1):G:=h ⟨k⟩
theorem zd3 (k:G') (h:Hid G'→G:=by intro zk0;refine zhu ?_;refine zaF ?_;exact zk0.1):G:=h ⟨k⟩
theorem zbj (k:G') (h:Hid G'→G:=by intro zk0;refine zK ?_;refine zbu ?_;exact zk0.1):G:=h ⟨k⟩
theorem zbk (k:G') (h:Hid G'→G:=by intro zk0;refine zdg ?_;refine zT ?_;exact zk0.1):G:=h ⟨k⟩
theorem zbl (k:G') (h:Hid G'→G:=by intro zk0;refine zbe ?_;refine zf ?_;exact zk0.1):G:=h ⟨k⟩
theorem zeC (k:G') (h:Hid G'→G:=by intro zk0;refine zi ?_;refine zL ?_;exact zk0.1):G:=h ⟨k⟩
theorem zgO (k:G') (h:Hid G'→G:=by intro zk0;refine zj ?_;refine ziQ ?_;exact zk0.1):G:=h ⟨k⟩
theorem zf3 (k:G') (h:Hid G'→G:=by intro zk0;refine zhv ?_;refine zC ?_;exact zk0.1):G:=h ⟨k⟩
theorem zbm (k:G') (h:Hid G'→G:=by intro zk0;refine zdJ ?_;refine zm ?_;exact zk0.1):G:=h ⟨k⟩
theorem zfi (k:G') (h:Hid G'→G:=by intro zk0;refine zcq ?_;refine zC ?_;exact zk0.1):G:=h ⟨k⟩
theorem zfj (k:G') (h:Hid G'→G:=by intro zk0;refine zd0 ?_;refine ziu ?_;exact zk0.1):G:=h ⟨k⟩
theorem zby (k:G') (h:Hid G'→G:=by intro zk0;refine zgY ?_;refine zfe ?_;exact zk0.1):G:=h ⟨k⟩
theorem zgP (k:G') (h:Hid G'→G:=by intro zk0;refine zac ?_;refine zbe ?_;exact zk0.1):G:=h ⟨k⟩
theorem zmJ (k:G') (h:Hid G'→G:=by intro zk0;refine zm ?_;refine zbr ?_;exact zk0.1):G:=h ⟨k⟩
theorem zhy (k:G') (h:Hid G'→G:=by intro zk0;refine zcw ?_;refine zdI ?_;exact zk0.1):G:=h ⟨k⟩
theorem zbz (k:G') (h:Hid G'→G:=by intro zk0;refine zG ?_;refine zC ?_;exact zk0.1):G:=h ⟨k⟩
theorem zbA (k:G') (h:Hid G'→G:=by intro zk0;refine zaM ?_;refine zaE ?_;exact zk0.1):G:=h ⟨k⟩
theorem zk6 (k:G') (h:Hid G'→G:=by intro zk0;rw [no (by omega)];refine zgN ?_;intro v0;revert v0;exact zk0.1):G:=h ⟨k⟩
theorem zck (k:G') (h:Hid G'→G:=by intro zk0;refine z7 ?_;refine zat ?_;exact zk0.1):G:=h ⟨k⟩
theorem zbN (k:G') (h:Hid G'→G:=by intro zk0;refine zP ?_;refine zfO ?_;exact zk0.1):G:=h ⟨k⟩
theorem zf4 (k:G') (h:Hid G'→G:=by intro zk0;simp only[jo,seenH_app];refine zE ?_;exact zk0.1):G:=h ⟨k⟩
theorem zb6 (k:G') (h:Hid G'→G:=by intro zk0;refine zp ?_;refine zx ?_;exact zk0.1):G:=h ⟨k⟩
theorem zbB (k:G') (h:Hid G'→G:=by intro zk0;refine z7 ?_;refine zo ?_;exact zk0.1):G:=h ⟨k⟩
theorem zdk (k:G') (h:Hid G'→G:=by intro zk0;refine zi ?_;refine zn ?_;exact zk0.1):G:=h ⟨k⟩
theorem zcR (k:G') (h:Hid G'→G:=by intro zk0;refine zbw ?_;refine zeA ?_;exact zk0.1):G:=h ⟨k⟩
theorem zb7 (k:G') (h:Hid G'→G:=by intro zk0;refine zmV ?_;intro v0;refine zbQ ?_;revert v0;exact zk0.1):G:=h ⟨k⟩
theorem zbC (k:G') (h:Hid G'→G:=by intro zk0;refine ziv ?_;refine za5 ?_;exact zk0.1):G:=h ⟨k⟩
theorem zcl (k:G') (h:Hid G'→G:=by intro zk0;refine zO ?_;refine zk3 ?_;exact zk0.1):G:=h ⟨k⟩
theorem zhz (k:G') (h:Hid G'→G:=by intro zk0;refine zmJ ?_;refine zkV ?_;refine z8 ?_;exact zk0.1):G:=h ⟨k⟩
theorem zjU (k:G') (h:Hid G'→G:=by intro zk0;refine zab ?_;refine zw ?_;exact zk0.1):G:=h ⟨k⟩
theorem zk7 (k:G') (h:Hid G'→G:=by intro zk0;refine zT ?_;refine zmS ?_;refine zjR ?_;exact zk0.1):G:=h ⟨k⟩
theorem zb8 (h:G:=by refine zk ?_;exact zt):G:=h
theorem ziw (k:G') (h:Hid G'→G:=by intro zk0;refine zi ?_;refine zU ?_;exact zk0.1):G:=h ⟨k⟩
theorem zcz (h:G:=by refine zmH ?_;exact zm7):G:=h
theorem zk8 (k:G') (h:Hid G'→G:=by intro zk0;refine zi ?_;refine zE ?_;exact zk0.1):G:=h ⟨k⟩
theorem zk9 (k:G') (h:Hid G'→G:=by intro zk0;refine zf2 ?_;refine zgq ?_;exact zk0.1):G:=h ⟨k⟩
theorem zcm (k:G') (h:Hid G'→G:=by intro zk0;refine zc6 ?_;refine zH ?_;exact zk0.1):G:=h ⟨k⟩
theorem zjV (k:G') (h:Hid G'→G:=by intro zk0;refine zf1 ?_;refine zhx ?_;exact zk0.1):G:=h ⟨k⟩
theorem zcA (k:G') (h:Hid G'→G:=by intro zk0;refine zu ?_;refine ze ?_;exact zk0.1):G:=h ⟨k⟩
theorem zcB (k:G') (h:Hid G'→G:=by intro zk0;refine zem ?_;refine zD ?_;exact zk0.1):G:=h ⟨k⟩
theorem zix (k:G') (h:Hid G'→G:=by intro zk0;refine zlx ?_;refine zP ?_;exact zk0.1):G:=h ⟨k⟩
theorem zla (k:G') (h:Hid G'→G:=by intro zk0;refine zde ?_;refine zA ?_;exact zk0.1):G:=h ⟨k⟩
theorem zgQ (k:G') (h:Hid G'→G:=by intro zk0;simp only[jo,seenH_app];refine zdR ?_;exact zk0.1):G:=h ⟨k⟩
theorem zhA (k:G') (h:Hid G'→G:=by intro zk0;refine zJ ?_;refine zb1 ?_;exact zk0.1):G:=h ⟨k⟩
theorem zcC (k:G') (h:Hid G'→G:=by intro zk0;refine zj ?_;refine zlt ?_;exact zk0.1):G:=h ⟨k⟩
theorem zlb (k:G') (h:Hid G'→G:=by intro zk0;refine ziQ ?_;refine zgu ?_;exact zk0.1):G:=h ⟨k⟩
theorem zcS (k:G') (h:Hid G'→G:=by intro zk0;refine zbL ?_;refine zbT ?_;refine zff ?_;exact zk0.1):G:=h ⟨k⟩
theorem zcn (k:G') (h:Hid G'→G:=by intro zk0;refine zX ?_;refine zcO ?_;exact zk0.1):G:=h ⟨k⟩
theorem zlc (k:G') (h:Hid G'→G:=by intro zk0;refine zF ?_;refine zn ?_;exact zk0.1):G:=h ⟨k⟩
theorem zco (k:G') (h:Hid G'→G:=by intro zk0;refine ze ?_;refine zM ?_;exact zk0.1):G:=h ⟨k⟩
theorem zld (k:G') (h:Hid G'→G:=by intro zk0;refine zaz ?_;refine zbg ?_;exact zk0.1):G:=h ⟨k⟩
theorem ziy (k:G') (h:Hid G'→G:=by intro zk0;refine zm1 ?_;refine zao ?_;exact zk0.1):G:=h ⟨k⟩
theorem zcD (k:G') (h:Hid G'→G:=by intro zk0;refine zK ?_;refine zbI ?_;exact zk0.1):G:=h ⟨k⟩
theorem zcE (k:G') (h:Hid G'→G:=by intro zk0;refine zw ?_;refine zf ?_;exact zk0.1):G:=h ⟨k⟩
theorem ziz (k:G') (h:Hid G'→G:=by intro zk0;simp only[List.cons_append,List.nil_append];refine zmQ ?_;exact zk0.1):G:=h ⟨k⟩
theorem zcT (k:G') (h:Hid G'→G:=by intro zk0;refine zj ?_;refine zfg ?_;exact zk0.1):G:=h ⟨k⟩
theorem ziA (k:G') (h:Hid G'→G:=by intro zk0;refine zy ?_;refine zk7 ?_;exact zk0.1):G:=h ⟨k⟩
theorem zdl (h:G:=by refine zw ?_;exact zt):G:=h
theorem ziB (k:G') (h:Hid G'→G:=by intro zk0;simp only[jbe,Bool.false_eq_true,if_false];refine zd ?_;exact zk0.1):G:=h ⟨k⟩
theorem zcF (k:G') (h:Hid G'→G:=by intro zk0;refine zK ?_;refine zca ?_;exact zk0.1):G:=h ⟨k⟩
theorem zcp (k:G') (h:Hid G'→G:=by intro zk0;refine zk9 ?_;refine zan ?_;exact zk0.1):G:=h ⟨k⟩
theorem zcU (k:G') (h:Hid G'→G:=by intro zk0;refine zlN ?_;refine zc6 ?_;exact zk0.1):G:=h ⟨k⟩
theorem zmK (k:G') (h:Hid G'→G:=by intro zk0;refine zeo ?_;refine zbO ?_;refine zbg ?_;refine ze1 ?_;refine zai ?_;exact zk0.1):G:=h ⟨k⟩
theorem ziC (k:G') (h:Hid G'→G:=by intro zk0;refine zg2 ?_;refine zP ?_;exact zk0.1):G:=h ⟨k⟩
theorem zcG (k:G') (h:Hid G'→G:=by intro zk0;refine z3 ?_;refine zat ?_;exact zk0.1):G:=h ⟨k⟩
theorem zcV (k:G') (h:Hid G'→G:=by intro zk0;refine zdi ?_;refine zdh ?_;exact zk0.1):G:=h ⟨k⟩
theorem zd4 (k:G') (h:Hid G'→G:=by intro zk0;refine zk8 ?_;refine zC ?_;exact zk0.1):G:=h ⟨k⟩
theorem zdm (k:G') (h:Hid G'→G:=by intro zk0;refine zN ?_;refine zbD ?_;exact zk0.1):G:=h ⟨k⟩
theorem zdn (k:G') (h:Hid G'→G:=by intro zk0;refine zmU ?_;refine zlu ?_;exact zk0.1):G:=h ⟨k⟩
theorem zjW (k:G') (h:Hid G'→G:=by intro zk0;refine zm4 ?_;refine zit ?_;intro v0 v1;refine zn ?_;refine zm5 ?_;refine zgM ?_;intro v2;revert v0 v1 v2;exact zk0.1):G:=h ⟨k⟩
theorem zcH (k:G') (h:Hid G'→G:=by intro zk0;refine ze ?_;refine zb9 ?_;exact zk0.1):G:=h ⟨k⟩
theorem zle (k:G') (h:Hid G'→G:=by intro zk0;refine zla ?_;refine zjU ?_;exact zk0.1):G:=h ⟨k⟩
theorem zcW (k:G') (h:Hid G'→G:=by intro zk0;refine zaY ?_;refine zar ?_;exact zk0.1):G:=h ⟨k⟩
theorem zcX (k:G') (h:Hid G'→G:=by intro zk0;refine zcN ?_;intro v0;refine zbx ?_;revert v0;exact zk0.1):G:=h ⟨k⟩
theorem zcY (k:G') (h:Hid G'→G:=by intro zk0;refine zaA ?_;refine zB ?_;exact zk0.1):G:=h ⟨k⟩
theorem zdo (k:G') (h:Hid G'→G:=by intro zk0;refine zdc ?_;refine zjS ?_;exact zk0.1):G:=h ⟨k⟩
theorem zfk (k:G') (h:Hid G'→G:=by intro zk0;simp only[hpH_app];refine zc3 ?_;exact zk0.1):G:=h ⟨k⟩
theorem zcZ (k:G') (h:Hid G'→G:=by intro zk0;refine zQ ?_;refine ze ?_;exact zk0.1):G:=h ⟨k⟩
theorem ziD (k:G') (h:Hid G'→G:=by intro zk0;refine zdJ ?_;refine zbY ?_;exact zk0.1):G:=h ⟨k⟩
theorem zlf (k:G') (h:Hid G'→G:=by intro zk0;refine zmX ?_;refine zP ?_;exact zk0.1):G:=h ⟨k⟩
theorem zc0 (k:G') (h:Hid G'→G:=by intro zk0;refine zlA ?_;refine zP ?_;exact zk0.1):G:=h ⟨k⟩
theorem zdp (k:G') (h:Hid G'→G:=by intro zk0;refine zgO ?_;refine zlb ?_;refine zb0 ?_;exact zk0.1):G:=h ⟨k⟩
theorem zmL (k:G') (h:Hid G'→G:=by intro zk0;refine zp ?_;refine zbT ?_;exact zk0.1):G:=h ⟨k⟩
theorem zdq (k:G') (h:Hid G'→G:=by intro zk0;refine zhy ?_;refine zcv ?_;exact zk0.1):G:=h ⟨k⟩
theorem zmM (k:G') (h:Hid G'→G:=by intro zk0;refine zmK ?_;refine zm6 ?_;refine zC ?_;refine zaG ?_;refine zlc ?_;refine zkN ?_;exact zk0.1):G:=h ⟨k⟩
theorem zhB (k:G') (h:Hid G'→G:=by intro zk0;refine zbx ?_;refine jq (hsm _ ja) ?_;exact zk0.1):G:=h ⟨k⟩
theorem zdr (k:G') (h:Hid G'→G:=by intro zk0;refine ziG ?_;refine zcd ?_;exact zk0.1):G:=h ⟨k⟩
theorem zds (k:G') (h:Hid G'→G:=by intro zk0;refine ziq ?_;refine zw ?_;exact zk0.1):G:=h ⟨k⟩
theorem zdt (k:G') (h:Hid G'→G:=by intro zk0;refine zu ?_;refine zcv ?_;exact zk0.1):G:=h ⟨k⟩
theorem zd5 (k:G') (h:Hid G'→G:=by intro zk0;refine zag ?_;refine zaS ?_;exact zk0.1):G:=h ⟨k⟩
theorem zc1 (k:G') (h:Hid G'→G:=by intro zk0;refine zj ?_;refine zl ?_;exact zk0.1):G:=h ⟨k⟩
theorem zjX (k:G') (h:Hid G'→G:=by intro zk0;refine zjV ?_;refine zbE ?_;exact zk0.1):G:=h ⟨k⟩
theorem zdu (k:G') (h:Hid G'→G:=by intro zk0;refine zp ?_;refine zo ?_;exact zk0.1):G:=h ⟨k⟩
theorem zdv (h:G:=by refine zav ?_;exact zZ):G:=h
theorem zdw (k:G') (h:Hid G'→G:=by intro zk0;refine zf3 ?_;refine zci ?_;exact zk0.1):G:=h ⟨k⟩
theorem zdx (k:G') (h:Hid G'→G:=by intro zk0;refine z7 ?_;refine zm ?_;exact zk0.1):G:=h ⟨k⟩
theorem zeD (k:G') (h:Hid G'→G:=by intro zk0;refine zbq ?_;refine zcg ?_;exact zk0.1):G:=h ⟨k⟩
theorem zdy (k:G') (h:Hid G'→G:=by intro zk0;refine zag ?_;refine zgP ?_;exact zk0.1):G:=h ⟨k⟩
theorem zlg (k:G') (h:Hid G'→G:=by intro zk0;refine zI ?_;refine zn ?_;exact zk0.1):G:=h ⟨k⟩
theorem zdz (k:G') (h:Hid G'→G:=by intro zk0;refine zp ?_;refine ze ?_;exact zk0.1):G:=h ⟨k⟩
theorem zd6 (k:G') (h:Hid G'→G:=by intro zk0;refine zmL ?_;refine zaQ ?_;exact zk0.1):G:=h ⟨k⟩
theorem zdA (k:G') (h:Hid G'→G:=by intro zk0;refine zH ?_;refine zls ?_;exact zk0.1):G:=h ⟨k⟩
theorem zdB (k:G') (h:Hid G'→G:=by intro zk0;refine z6 ?_;refine zaE ?_;exact zk0.1):G:=h ⟨k⟩
theorem zhC (k:G') (h:Hid G'→G:=by intro zk0;refine zY ?_;refine ji cynone_K ja ?_;exact zk0.1):G:=h ⟨k⟩
theorem zdC (k:G') (h:Hid G'→G:=by intro zk0;refine zdJ ?_;refine ze ?_;exact zk0.1):G:=h ⟨k⟩
theorem zd7 (k:G') (h:Hid G'→G:=by intro zk0;refine ziq ?_;refine zfZ ?_;exact zk0.1):G:=h ⟨k⟩
theorem zd8 (k:G') (h:Hid G'→G:=by intro zk0;refine zJ ?_;refine zA ?_;exact zk0.1):G:=h ⟨k⟩
theorem zfl (k:G') (h:Hid G'→G:=by intro zk0;refine ziw ?_;refine zC ?_;exact zk0.1):G:=h ⟨k⟩
theorem zeE (k:G') (h:Hid G'→G:=by intro zk0;refine zn ?_;refine zm9 ?_;exact zk0.1):G:=h ⟨k⟩
theorem zd9 (k:G') (h:Hid G'→G:=by intro zk0;refine zct ?_;refine zai ?_;exact zk0.1):G:=h ⟨k⟩
theorem zc2 (k:G') (h:Hid G'→G:=by intro zk0;refine z3 ?_;refine zq ?_;exact zk0.1):G:=h ⟨k⟩
theorem zdD (k:G') (h:Hid G'→G:=by intro zk0;refine zap ?_;refine zix ?_;exact zk0.1):G:=h ⟨k⟩
theorem zeF (h:G:=by refine zfh ?_;exact zt):G:=h
theorem zea (k:G') (h:Hid G'→G:=by intro zk0;refine zal ?_;refine zbY ?_;exact zk0.1):G:=h ⟨k⟩
theorem zeb (k:G') (h:Hid G'→G:=by intro zk0;refine zap ?_;refine zkq ?_;exact zk0.1):G:=h ⟨k⟩
theorem zjY (k:G') (h:Hid G'→G:=by intro zk0;refine ziR ?_;refine zj ?_;exact zk0.1):G:=h ⟨k⟩
theorem zeG (k:G') (h:Hid G'→G:=by intro zk0;refine zm ?_;refine zcP ?_;exact zk0.1):G:=h ⟨k⟩
theorem zdE (k:G') (h:Hid G'→G:=by intro zk0;refine zA ?_;refine zfi ?_;exact zk0.1):G:=h ⟨k⟩
theorem zeH (k:G') (h:Hid G'→G:=by intro zk0;refine zk6 ?_;intro v0;refine zld ?_;revert v0;exact zk0.1):G:=h ⟨k⟩
theorem zeI (k:G') (h:Hid G'→G:=by intro zk0;refine zap ?_;refine zlf ?_;exact zk0.1):G:=h ⟨k⟩
theorem zdF (k:G') (h:Hid G'→G:=by intro zk0;refine zfO ?_;refine zg2 ?_;exact zk0.1):G:=h ⟨k⟩
theorem ziE (k:G') (h:Hid G'→G:=by intro zk0;refine KE.next (K.condF rfl ?_);refine zjR ?_;exact zk0.1):G:=h ⟨k⟩
theorem zec (k:G') (h:Hid G'→G:=by intro zk0;refine zb2 ?_;refine zB ?_;exact zk0.1):G:=h ⟨k⟩
theorem zeJ (k:G') (h:Hid G'→G:=by intro zk0;refine zS ?_;refine zj ?_;exact zk0.1):G:=h ⟨k⟩
theorem zeK (k:G') (h:Hid G'→G:=by intro zk0;refine zp ?_;refine zG ?_;exact zk0.1):G:=h ⟨k⟩
theorem zeL (k:G') (h:Hid G'→G:=by intro zk0;refine zmY ?_;refine zba ?_;exact zk0.1):G:=h ⟨k⟩
theorem zgR (k:G') (h:Hid G'→G:=by intro zk0;refine K.seq ?_;refine K.region ?_;exact zk0.1):G:=h ⟨k⟩
theorem zed (k:G') (h:Hid G'→G:=by intro zk0;refine zaE ?_;refine zC ?_;exact zk0.1):G:=h ⟨k⟩
theorem zfm (k:G') (h:Hid G'→G:=by intro zk0;refine zi ?_;refine z8 ?_;exact zk0.1):G:=h ⟨k⟩
theorem zjZ (k:G') (h:Hid G'→G:=by intro zk0;refine K.seq (K.block (K.seq (K.region ?_)));refine ze ?_;exact zk0.1):G:=h ⟨k⟩
theorem zeM (k:G') (h:Hid G'→G:=by intro zk0;refine zlv ?_;refine zlv ?_;exact zk0.1):G:=h ⟨k⟩
theorem zeN (k:G') (h:Hid G'→G:=by intro zk0;refine zaw ?_;refine zf ?_;exact zk0.1):G:=h ⟨k⟩
theorem zdG (k:G') (h:Hid G'→G:=by intro zk0;refine zjW ?_;intro v0 v1 v2;refine zmM ?_;refine zaM ?_;revert v0 v1 v2;exact zk0.1):G:=h ⟨k⟩
theorem zeO (k:G') (h:Hid G'→G:=by intro zk0;refine zct ?_;refine zp ?_;exact zk0.1):G:=h ⟨k⟩
theorem zfn (k:G') (h:Hid G'→G:=by intro zk0;refine zle ?_;refine zm8 ?_;refine zhz ?_;exact zk0.1):G:=h ⟨k⟩
theorem zeP (k:G') (h:Hid G'→G:=by intro zk0;refine zbf ?_;refine zbd ?_;exact zk0.1):G:=h ⟨k⟩
theorem zeQ (k:G') (h:Hid G'→G:=by intro zk0;refine zU ?_;refine zac ?_;exact zk0.1):G:=h ⟨k⟩
theorem zee (k:G') (h:Hid G'→G:=by intro zk0;refine zaD ?_;intro v0;refine zW ?_;revert v0;exact zk0.1):G:=h ⟨k⟩
theorem zlh (k:G') (h:Hid G'→G:=by intro zk0;refine z3 ?_;refine zht ?_;exact zk0.1):G:=h ⟨k⟩
theorem zli (k:G') (h:Hid G'→G:=by intro zk0;refine zjJ ?_;simp only[hpH_app];refine zR ?_;exact zk0.1):G:=h ⟨k⟩
theorem zef (k:G') (h:Hid G'→G:=by intro zk0;refine zgq ?_;refine zC ?_;exact zk0.1):G:=h ⟨k⟩
theorem zj0 (k:G') (h:Hid G'→G:=by intro zk0;simp only[jO,Jy,jaX];refine zQ ?_;exact zk0.1):G:=h ⟨k⟩
theorem zf5 (k:G') (h:Hid G'→G:=by intro zk0;refine zeB ?_;refine zaz ?_;exact zk0.1):G:=h ⟨k⟩
theorem zeR (k:G') (h:Hid G'→G:=by intro zk0;refine ziA ?_;refine zaf ?_;exact zk0.1):G:=h ⟨k⟩
theorem zfo (k:G') (h:Hid G'→G:=by intro zk0;refine zdM ?_;refine zi ?_;exact zk0.1):G:=h ⟨k⟩
theorem zeS (k:G') (h:Hid G'→G:=by intro zk0;refine zD ?_;refine zaf ?_;exact zk0.1):G:=h ⟨k⟩
theorem zeT (k:G') (h:Hid G'→G:=by intro zk0;refine zA ?_;refine zn ?_;exact zk0.1):G:=h ⟨k⟩
theorem zeU (k:G') (h:Hid G'→G:=by intro zk0;refine zbD ?_;refine zaf ?_;exact zk0.1):G:=h ⟨k⟩
theorem zmN (h:G:=by refine zhw ?_;exact zaT):G:=h
theorem zfp (k:G') (h:Hid G'→G:=by intro zk0;refine zde ?_;refine zgZ ?_;exact zk0.1):G:=h ⟨k⟩
theorem zeV (k:G') (h:Hid G'→G:=by intro zk0;refine zap ?_;refine ziC ?_;exact zk0.1):G:=h ⟨k⟩
theorem zeW (k:G') (h:Hid G'→G:=by intro zk0;refine zae ?_;refine zcK ?_;exact zk0.1):G:=h ⟨k⟩
theorem zfq (k:G') (h:Hid G'→G:=by intro zk0;refine zi ?_;refine ziZ ?_;exact zk0.1):G:=h ⟨k⟩
theorem zeg (k:G') (h:Hid G'→G:=by intro zk0;refine zcj ?_;intro v0;refine zb3 ?_;revert v0;exact zk0.1):G:=h ⟨k⟩
theorem zeX (k:G') (h:Hid G'→G:=by intro zk0;refine zE ?_;refine zz ?_;exact zk0.1):G:=h ⟨k⟩
theorem zeY (k:G') (h:Hid G'→G:=by intro zk0;refine zae ?_;refine zk ?_;exact zk0.1):G:=h ⟨k⟩
theorem zeh (k:G') (h:Hid G'→G:=by intro zk0;refine zgK ?_;intro v0;refine zu ?_;revert v0;exact zk0.1):G:=h ⟨k⟩
theorem zgS (h:G:=by refine zfj ?_;exact ze4):G:=h
theorem zfr (k:G') (h:Hid G'→G:=by intro zk0;refine z9 ?_;refine ze ?_;exact zk0.1):G:=h ⟨k⟩
theorem zfs (k:G') (h:Hid G'→G:=by intro zk0;refine zj ?_;refine ziy ?_;refine zd2 ?_;exact zk0.1):G:=h ⟨k⟩
theorem zeZ (k:G') (h:Hid G'→G:=by intro zk0;refine zap ?_;refine zd1 ?_;exact zk0.1):G:=h ⟨k⟩
theorem zft (k:G') (h:Hid G'→G:=by intro zk0;refine zhs ?_;refine zel ?_;exact zk0.1):G:=h ⟨k⟩
theorem zfu (k:G') (h:Hid G'→G:=by intro zk0;refine zJ ?_;refine zk ?_;exact zk0.1):G:=h ⟨k⟩
theorem zei (k:G') (h:Hid G'→G:=by intro zk0;refine zM ?_;refine zbR ?_;intro v0;revert v0;exact zk0.1):G:=h ⟨k⟩
theorem zfv (k:G') (h:Hid G'→G:=by intro zk0;refine zj ?_;refine zbd ?_;exact zk0.1):G:=h ⟨k⟩
theorem zfw (k:G') (h:Hid G'→G:=by intro zk0;refine za2 ?_;refine zai ?_;exact zk0.1):G:=h ⟨k⟩
theorem zf6 (k:G') (h:Hid G'→G:=by intro zk0;refine zhA ?_;refine zn ?_;exact zk0.1):G:=h ⟨k⟩
theorem zfx (k:G') (h:Hid G'→G:=by intro zk0;refine zdZ ?_;refine zjS ?_;exact zk0.1):G:=h ⟨k⟩
theorem zfy (k:G') (h:Hid G'→G:=by intro zk0;refine zdZ ?_;refine zfZ ?_;exact zk0.1):G:=h ⟨k⟩
theorem zf7 (h:G:=by refine zav ?_;exact ze4):G:=h
theorem zf8 (k:G') (h:Hid G'→G:=by intro zk0;refine zj ?_;refine zbt ?_;exact zk0.1):G:=h ⟨k⟩
theorem zfz (k:G') (h:Hid G'→G:=by intro zk0;refine zM ?_;refine zht ?_;exact zk0.1):G:=h ⟨k⟩
theorem zlj (h:G:=by refine zf ?_;exact KE.fin je rfl jd ja ⟨rfl,hQ F⟩):G:=h
theorem zfA (h:G:=by refine zjX ?_;exact zm2):G:=h
theorem zfB (h:G:=by refine zU ?_;exact zmN):G:=h
theorem zfC (k:G') (h:Hid G'→G:=by intro zk0;refine zbp ?_;refine zdj ?_;exact zk0.1):G:=h ⟨k⟩
theorem zf9 (k:G') (h:Hid G'→G:=by intro zk0;refine zac ?_;refine ze ?_;exact zk0.1):G:=h ⟨k⟩
theorem zfD (k:G') (h:Hid G'→G:=by intro zk0;refine zY ?_;refine zh4 ?_;exact zk0.1):G:=h ⟨k⟩
theorem zga (k:G') (h:Hid G'→G:=by intro zk0;refine zeA ?_;refine zcx ?_;exact zk0.1):G:=h ⟨k⟩
theorem zgb (k:G') (h:Hid G'→G:=by intro zk0;refine zw ?_;refine zax ?_;exact zk0.1):G:=h ⟨k⟩
theorem zfE (k:G') (h:Hid G'→G:=by intro zk0;refine ze ?_;refine zgt ?_;exact zk0.1):G:=h ⟨k⟩
theorem zgc (k:G') (h:Hid G'→G:=by intro zk0;refine zg8 ?_;refine zba ?_;exact zk0.1):G:=h ⟨k⟩
theorem zfF (k:G') (h:Hid G'→G:=by intro zk0;refine zaa ?_;refine zad ?_;exact zk0.1):G:=h ⟨k⟩
theorem zfG (k:G') (h:Hid G'→G:=by intro zk0;refine zaM ?_;refine zgq ?_;exact zk0.1):G:=h ⟨k⟩
theorem zgd (k:G') (h:Hid G'→G:=by intro zk0;refine zL ?_;refine zip ?_;exact zk0.1):G:=h ⟨k⟩
theorem zfH (k:G') (h:Hid G'→G:=by intro zk0;refine zae ?_;refine zgJ ?_;exact zk0.1):G:=h ⟨k⟩
theorem zfI (k:G') (h:Hid G'→G:=by intro zk0;refine zit ?_;intro v0 v1;refine zm ?_;refine zlg ?_;refine zm3 ?_;revert v0 v1;exact zk0.1):G:=h ⟨k⟩
theorem zge (k:G') (h:Hid G'→G:=by intro zk0;refine ziD ?_;refine zlq ?_;exact zk0.1):G:=h ⟨k⟩
theorem zgf (k:G') (h:Hid G'→G:=by intro zk0;refine zeC ?_;refine zn ?_;exact zk0.1):G:=h ⟨k⟩
theorem zfJ (k:G') (h:Hid G'→G:=by intro zk0;refine zb4 ?_;refine zj ?_;exact zk0.1):G:=h ⟨k⟩
theorem zlk (k:G') (h:Hid G'→G:=by intro zk0;refine zhJ ?_;refine KD.e rfl rfl (Eff.box rfl rfl) ?_;rintro _ _ ⟨v0,rfl,rfl⟩;revert v0;exact zk0.1):G:=h ⟨k⟩
theorem zhD (k:G') (h:Hid G'→G:=by intro zk0;refine za6 ?_;refine zat ?_;exact zk0.1):G:=h ⟨k⟩
theorem zj1 (k:G') (h:Hid G'→G:=by intro zk0;refine zz ?_;refine zcy ?_;exact zk0.1):G:=h ⟨k⟩
theorem zfK (k:G') (h:Hid G'→G:=by intro zk0;refine zO ?_;refine zaQ ?_;exact zk0.1):G:=h ⟨k⟩
theorem zgg (h:G:=by refine zgu ?_;refine zmH ?_;exact zmZ):G:=h
theorem ze0 (k:G') (h:Hid G'→G:=by intro zk0;refine zdX ?_;intro v0 v1;refine zdH ?_;revert v0 v1;exact zk0.1):G:=h ⟨k⟩
theorem zfL (k:G') (h:Hid G'→G:=by intro zk0;refine zgu ?_;refine zaV ?_;exact zk0.1):G:=h ⟨k⟩
theorem ziF (k:G') (h:Hid G'→G:=by intro zk0;refine zn ?_;refine jq cymade_E ?_;exact zk0.1):G:=h ⟨k⟩
theorem zj2 (k:G') (h:Hid G'→G:=by intro zk0;refine zhD ?_;refine jq (find_K ok hk hd hs) ?_;exact zk0.1):G:=h ⟨k⟩
theorem zgh (k:G') (h:Hid G'→G:=by intro zk0;refine zhw ?_;refine zas ?_;exact zk0.1):G:=h ⟨k⟩
theorem zgi (k:G') (h:Hid G'→G:=by intro zk0;refine zcs ?_;refine zas ?_;exact zk0.1):G:=h ⟨k⟩
theorem zgT (k:G') (h:Hid G'→G:=by intro zk0;refine zbG ?_;refine zdJ ?_;exact zk0.1):G:=h ⟨k⟩
theorem zgj (k:G') (h:Hid G'→G:=by intro zk0;refine zm0 ?_;refine zd1 ?_;exact zk0.1):G:=h ⟨k⟩
theorem zhE (k:G') (h:Hid G'→G:=by intro zk0;simp only[Jf];refine zj1 ?_;exact zk0.1):G:=h ⟨k⟩
theorem zgk (h:G:=by refine zlh ?_;exact zhj):G:=h
theorem zfM (h:G:=by refine zcQ ?_;exact zey):G:=h
theorem zgU (k:G') (h:Hid G'→G:=by intro zk0;refine ze5 ?_;refine zo ?_;refine zmn ?_;exact zk0.1):G:=h ⟨k⟩
theorem zgl (k:G') (h:Hid G'→G:=by intro zk0;refine zd3 ?_;refine zjY ?_;refine zbi ?_;exact zk0.1):G:=h ⟨k⟩
theorem zgm (k:G') (h:Hid G'→G:=by intro zk0;refine zba ?_;refine zls ?_;exact zk0.1):G:=h ⟨k⟩
theorem zj3 (k:G') (h:Hid G'→G:=by intro zk0;refine zdk ?_;refine jq (hck _ ja) ?_;exact zk0.1):G:=h ⟨k⟩
theorem zgn (k:G') (h:Hid G'→G:=by intro zk0;refine zmT ?_;refine zlu ?_;exact zk0.1):G:=h ⟨k⟩
theorem zgo (k:G') (h:Hid G'→G:=by intro zk0;refine zi ?_;refine zaz ?_;refine zC ?_;exact zk0.1):G:=h ⟨k⟩
theorem zgp (k:G') (h:Hid G'→G:=by intro zk0;refine zlB ?_;refine zel ?_;exact zk0.1):G:=h ⟨k⟩
theorem zll (k:G') (h:Hid G'→G:=by intro zk0;refine zck ?_;refine j4 (cywork2_K (h.ph.trans h2)) ja ?_;exact zk0.1):G:=h ⟨k⟩
theorem zfN (k:G') (h:Hid G'→G:=by intro zk0;refine zY ?_;refine zli ?_;exact zk0.1):G:=h ⟨k⟩
theorem zgV (k:G') (h:Hid G'→G:=by intro zk0;refine zbY ?_;refine zcg ?_;exact zk0.1):G:=h ⟨k⟩
end Go.Proofs.YtpcgafhgfjlkmaaGreatDoor
