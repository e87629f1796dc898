/-Sequences of steps of the walker,each a theorem with a default proof. -/
import Derived.Test.YtldomapkmopomaaGreatDoorJ12
namespace Go.Proofs.YtldomapkmopomaaGreatDoor
structure Hid (P:Prop):Prop where
 out:P
set_option linter.unusedVariables false
variable {G G' : Prop}
theorem yV (h:G:=by first|exact Val.fieldSl rfl rfl|exact Val.fieldAddr0 rfl rfl|exact Val.fieldAddrZ rfl rfl|exact Val.fieldAddr rfl rfl|exact Val.add rfl rfl (by simp only[qL,qH];omega)|exact Val.quoN rfl rfl (by simp only[qL,qH];omega)|exact Val.nilCheck rfl|exact Val.pickT rfl rfl rfl|exact Val.pickF rfl rfl rfl|exact Val.addW rfl rfl|exact Val.sub rfl rfl (by simp only[qL,qH];omega)|exact Val.subW rfl rfl|exact Val.mul rfl rfl (by simp only[qL,qH];omega)|exact Val.conv rfl rfl rfl (by simp only[qL,qH];omega)|exact Val.remN rfl rfl (by omega)|exact Val.convW rfl rfl rfl|exact Val.lenSl rfl rfl Jm|exact Val.idxSl rfl rfl rfl Jm rfl jr|exact Val.isT (Val.gtr rfl rfl) jr|exact Val.isF (Val.gtr rfl rfl) jr|exact Val.idxSlZ rfl rfl rfl Jm rfl (by omega)|exact Val.loadAP rfl rfl rfl jc4|exact Val.loadA rfl rfl rfl J1|exact Val.gtr rfl rfl|exact Val.lenS rfl rfl|exact Val.field rfl rfl rfl rfl rfl|exact Val.assign rfl|exact Val.move rfl|exact Val.eqlPN rfl rfl rfl|exact Val.notT rfl|exact Val.loadP rfl rfl (jA.cell jq rfl)|exact Val.loadP rfl rfl jaW|exact Val.loadP rfl rfl (jA.more (by assumption) ja)|exact Val.isT (Val.geq rfl rfl) jr|exact Val.isT (Val.lss rfl rfl) jr|exact Val.isF (Val.lss rfl rfl) jr|exact Val.isF (Val.geq rfl rfl) jr|exact Val.pickB rfl rfl rfl|exact Val.quo rfl rfl (by omega)|exact Val.build jbZ rfl rfl jb5|exact Val.notF rfl|exact Val.neg rfl (by simp only[qL,qH];omega)|exact Val.negW rfl|exact Val.and rfl rfl|exact Val.mulW rfl rfl|exact Val.shr rfl rfl (by omega)|exact Val.indexA rfl rfl rfl rfl (by omega)|exact Val.rem rfl rfl (by omega)|exact Val.shl rfl rfl (by omega)|exact Val.lenSl rfl rfl (Sli.own jh (by assumption) jG)|exact Val.makeFunc js js|exact Val.max rfl rfl|exact Val.isT (Val.eql rfl rfl) jr|exact Val.isF (Val.eql rfl rfl) jr|exact Val.idxSl rfl rfl rfl (Sli.own jh (by assumption) jG) rfl jr|exact Val.loadP rfl rfl (jA.sl0 (Sli.own jh (by assumption) jG) (by assumption) rfl)|exact Val.eqlSN rfl rfl rfl|exact Val.isT (Val.leq rfl rfl) jr|exact Val.extract rfl rfl|exact Val.isF (Val.leq rfl rfl) jr|exact Val.isT (Val.neq rfl rfl) jr|exact Val.isF (Val.neq rfl rfl) jr|exact Val.sliceLH rfl rfl rfl rfl Jm rfl jr jr|exact Val.leq rfl rfl|exact Val.sliceA rfl rfl rfl|exact Val.idxSlZ rfl rfl rfl (Sli.own jh (by assumption) jG) rfl (by omega)|exact Val.eqlB rfl rfl rfl|exact Val.neqB rfl rfl rfl|exact Val.indexS1 rfl rfl rfl rfl (by omega)|exact Val.indexS rfl rfl rfl rfl (by omega)|exact Val.indexSO rfl rfl rfl rfl (by omega)|exact Val.indexSG rfl rfl rfl rfl (by omega)|exact Val.nilCheckF rfl|exact Val.nilCheckY rfl|exact Val.neq rfl rfl|exact Val.loadP rfl rfl (jA.sl (Sli.own jh (by assumption) jG) (by assumption) rfl)|exact Val.sliceH rfl rfl rfl Jm rfl jr|exact Val.sliceL rfl rfl rfl (Sli.own jh (by assumption) jG) rfl jr|exact Val.isT (Val.eqlBs rfl rfl) jr|exact Val.isF (Val.eqlBs rfl rfl) jr|exact Val.eql rfl rfl|exact Val.isT (Val.neqBs rfl rfl) jr|exact Val.neqBs rfl rfl|exact Val.eqlBs rfl rfl|fail):G:=h
theorem yV0 (h:G:=by first|exact Val.move rfl|fail):G:=h
theorem yV1 (h:G:=by first|exact Val.assign rfl|fail):G:=h
theorem yV2 (h:G:=by first|exact Val.loadAP rfl rfl rfl jc4|exact Val.loadA rfl rfl rfl J1|exact Val.loadP rfl rfl (jA.cell jq rfl)|exact Val.loadP rfl rfl jaW|exact Val.loadP rfl rfl (jA.more (by assumption) ja)|exact Val.loadP rfl rfl (jA.sl0 (Sli.own jh (by assumption) jG) (by assumption) rfl)|exact Val.loadP rfl rfl (jA.sl (Sli.own jh (by assumption) jG) (by assumption) rfl)|fail):G:=h
theorem yV3 (h:G:=by first|exact Val.fieldSl rfl rfl|exact Val.fieldAddr0 rfl rfl|exact Val.fieldAddrZ rfl rfl|exact Val.fieldAddr rfl rfl|fail):G:=h
theorem yV4 (h:G:=by first|exact Val.add rfl rfl (by simp only[qL,qH];omega)|exact Val.quoN rfl rfl (by simp only[qL,qH];omega)|exact Val.addW rfl rfl|exact Val.sub rfl rfl (by simp only[qL,qH];omega)|exact Val.subW rfl rfl|exact Val.mul rfl rfl (by simp only[qL,qH];omega)|exact Val.remN rfl rfl (by omega)|exact Val.isT (Val.gtr rfl rfl) jr|exact Val.isF (Val.gtr rfl rfl) jr|exact Val.gtr rfl rfl|exact Val.eqlPN rfl rfl rfl|exact Val.isT (Val.geq rfl rfl) jr|exact Val.isT (Val.lss rfl rfl) jr|exact Val.isF (Val.lss rfl rfl) jr|exact Val.isF (Val.geq rfl rfl) jr|exact Val.quo rfl rfl (by omega)|exact Val.and rfl rfl|exact Val.mulW rfl rfl|exact Val.shr rfl rfl (by omega)|exact Val.rem rfl rfl (by omega)|exact Val.shl rfl rfl (by omega)|exact Val.isT (Val.eql rfl rfl) jr|exact Val.isF (Val.eql rfl rfl) jr|exact Val.eqlSN rfl rfl rfl|exact Val.isT (Val.leq rfl rfl) jr|exact Val.isF (Val.leq rfl rfl) jr|exact Val.isT (Val.neq rfl rfl) jr|exact Val.isF (Val.neq rfl rfl) jr|exact Val.leq rfl rfl|exact Val.eqlB rfl rfl rfl|exact Val.neqB rfl rfl rfl|exact Val.neq rfl rfl|exact Val.isT (Val.eqlBs rfl rfl) jr|exact Val.isF (Val.eqlBs rfl rfl) jr|exact Val.eql rfl rfl|exact Val.isT (Val.neqBs rfl rfl) jr|exact Val.neqBs rfl rfl|exact Val.eqlBs rfl rfl|fail):G:=h
theorem yV5 (h:G:=by first|exact Val.extract rfl rfl|fail):G:=h
theorem yV6 (h:G:=by first|exact Val.pickT rfl rfl rfl|exact Val.pickF rfl rfl rfl|exact Val.pickB rfl rfl rfl|fail):G:=h
theorem yV7 (h:G:=by first|exact Val.nilCheck rfl|exact Val.nilCheckF rfl|exact Val.nilCheckY rfl|fail):G:=h
theorem yV8 (h:G:=by first|exact Val.idxSl rfl rfl rfl Jm rfl jr|exact Val.idxSlZ rfl rfl rfl Jm rfl (by omega)|exact Val.indexA rfl rfl rfl rfl (by omega)|exact Val.idxSl rfl rfl rfl (Sli.own jh (by assumption) jG) rfl jr|exact Val.idxSlZ rfl rfl rfl (Sli.own jh (by assumption) jG) rfl (by omega)|exact Val.indexS1 rfl rfl rfl rfl (by omega)|exact Val.indexS rfl rfl rfl rfl (by omega)|exact Val.indexSO rfl rfl rfl rfl (by omega)|exact Val.indexSG rfl rfl rfl rfl (by omega)|fail):G:=h
theorem yV9 (h:G:=by first|exact Val.notT rfl|exact Val.notF rfl|exact Val.neg rfl (by simp only[qL,qH];omega)|exact Val.negW rfl|fail):G:=h
theorem yW (h:G:=by first|exact Val.conv rfl rfl rfl (by simp only[qL,qH];omega)|exact Val.convW rfl rfl rfl|exact Val.lenSl rfl rfl Jm|exact Val.lenS rfl rfl|exact Val.field rfl rfl rfl rfl rfl|exact Val.build jbZ rfl rfl jb5|exact Val.lenSl rfl rfl (Sli.own jh (by assumption) jG)|exact Val.makeFunc js js|exact Val.max rfl rfl|exact Val.sliceLH rfl rfl rfl rfl Jm rfl jr jr|exact Val.sliceA rfl rfl rfl|exact Val.sliceH rfl rfl rfl Jm rfl jr|exact Val.sliceL rfl rfl rfl (Sli.own jh (by assumption) jG) rfl jr|fail):G:=h
theorem yS (k:G') (h:Hid G'→G:=by intro zk0;(first|(refine(?_:KL _ _ _ _ _ _ _ _ _ _);first|refine KL.nil ?_|refine KL.skipG rfl rfl rfl ?_|refine KL.yes rfl rfl ?_|(refine KL.yes rfl rfl ?_;refine KL.v rfl (Val.move rfl) ?_)|(refine KL.yes rfl rfl ?_;refine KL.v rfl (Val.nilCheck rfl) ?_)|(refine KL.yes rfl rfl ?_;refine KL.v rfl (Val.nilCheckF rfl) ?_)|(refine KL.yes rfl rfl ?_;refine KL.v rfl (Val.nilCheckY rfl) ?_)|(refine KL.yes rfl rfl ?_;refine KL.v rfl (Val.fieldSl rfl rfl) ?_)|(refine KL.yes rfl rfl ?_;refine KL.v rfl (Val.fieldAddr0 rfl rfl) ?_)|(refine KL.yes rfl rfl ?_;refine KL.v rfl (Val.fieldAddrZ rfl rfl) ?_)|(refine KL.yes rfl rfl ?_;refine KL.v rfl (Val.fieldAddr rfl rfl) ?_)|(refine KL.yes rfl rfl ?_;refine KL.v rfl (Val.loadP rfl rfl jaW) ?_)|(refine KL.yes rfl rfl ?_;refine KL.v rfl (Val.loadP rfl rfl (jA.more (by assumption) ja)) ?_)|(refine KL.yes rfl rfl ?_;refine KL.v rfl (Val.quoN rfl rfl (by simp only[qL,qH];omega)) ?_)|(refine KL.yes rfl rfl ?_;refine KL.v rfl (Val.quo rfl rfl (by omega)) ?_)|(refine KL.yes rfl rfl ?_;refine KL.v rfl (Val.idxSl rfl rfl rfl Jm rfl jr) ?_)|(refine KL.yes rfl rfl ?_;refine KL.v rfl (Val.idxSlZ rfl rfl rfl Jm rfl (by omega)) ?_)|(refine KL.yes rfl rfl ?_;refine KL.v rfl (Val.indexS1 rfl rfl rfl rfl (by omega)) ?_)|(refine KL.yes rfl rfl ?_;refine KL.v rfl (Val.indexS rfl rfl rfl rfl (by omega)) ?_)|(refine KL.yes rfl rfl ?_;refine KL.v rfl (Val.indexSO rfl rfl rfl rfl (by omega)) ?_)|(refine KL.yes rfl rfl ?_;refine KL.v rfl (Val.indexSG rfl rfl rfl rfl (by omega)) ?_)|(refine KL.yes rfl rfl ?_;refine KL.v rfl (Val.remN rfl rfl (by omega)) ?_)|(refine KL.yes rfl rfl ?_;refine KL.v rfl (Val.rem rfl rfl (by omega)) ?_)|(refine KL.yes rfl rfl ?_;refine KL.v rfl (Val.shr rfl rfl (by omega)) ?_)|(refine KL.yes rfl rfl ?_;refine KL.v rfl (Val.and rfl rfl) ?_)|(refine KL.yes rfl rfl ?_;refine KL.v rfl (Val.isT (Val.eql rfl rfl) jr) ?_)|(refine KL.yes rfl rfl ?_;refine KL.v rfl (Val.isF (Val.eql rfl rfl) jr) ?_)|(refine KL.yes rfl rfl ?_;refine KL.v rfl (Val.eql rfl rfl) ?_)|(refine(?_:KL _ _ _ _ _ (⟨_,Op.move _,_,_,_,_⟩::_) _ _ _ _);refine KL.v rfl yV0 ?_)|(refine(?_:KL _ _ _ _ _ (⟨_,Op.assign _,_,_,_,_⟩::_) _ _ _ _);refine KL.v rfl yV1 ?_)|(refine(?_:KL _ _ _ _ _ (⟨_,Op.load _ _,_,_,_,_⟩::_) _ _ _ _);refine KL.v rfl yV2 ?_)|(refine(?_:KL _ _ _ _ _ (⟨_,Op.fieldAddr _ _ _,_,_,_,_⟩::_) _ _ _ _);refine KL.v rfl yV3 ?_)|(refine(?_:KL _ _ _ _ _ (⟨_,Op.binOp _ _ _ _ _,_,_,_,_⟩::_) _ _ _ _);refine KL.v rfl yV4 ?_)|(refine(?_:KL _ _ _ _ _ (⟨_,Op.extract _ _,_,_,_,_⟩::_) _ _ _ _);refine KL.v rfl yV5 ?_)|(refine(?_:KL _ _ _ _ _ (⟨_,Op.pick _ _ _,_,_,_,_⟩::_) _ _ _ _);refine KL.v rfl yV6 ?_)|(refine(?_:KL _ _ _ _ _ (⟨_,Op.nilCheck _,_,_,_,_⟩::_) _ _ _ _);refine KL.v rfl yV7 ?_)|(refine(?_:KL _ _ _ _ _ (⟨_,Op.indexAddr _ _ _,_,_,_,_⟩::_) _ _ _ _);refine KL.v rfl yV8 ?_)|(refine(?_:KL _ _ _ _ _ (⟨_,Op.unOp _ _ _,_,_,_,_⟩::_) _ _ _ _);refine KL.v rfl yV9 ?_)|refine KL.v rfl yW ?_|refine KL.skipU rfl rfl rfl ?_|(refine KL.eN (Eff.storeL rfl rfl jcb rfl jq jcZ) ?_;rintro _ _ rfl)|(refine KL.eN (Eff.storeAL rfl rfl rfl jq jbf jbp) ?_;rintro _ _ rfl)|(refine KL.eN (Eff.stSl rfl rfl rfl rfl jh (by assumption) (by assumption) rfl rfl) ?_;rintro _ _ rfl)|(refine KL.eN (Eff.stSl0 rfl rfl rfl rfl jh (by assumption) (by assumption) rfl rfl) ?_;rintro _ _ rfl)|fail)|(refine(?_:K _ _ _ _ _ _ _ _ _);first|refine K.seq ?_|refine K.region ?_|refine K.skip ?_|refine K.block ?_|refine K.condF rfl ?_|refine K.condT rfl ?_|refine K.ret ?_|refine K.exit ?_|fail)|(refine(?_:KE _ _ _ _ _ _ _);first|refine KE.next ?_|refine KE.blkN ?_|refine KE.passR ?_|refine KE.blkR ?_|refine KE.passX ?_|refine KE.blkX ?_|refine KE.begin jq ?_|refine KE.blkO rfl ?_|fail)|fail);exact zk0.1):G:=h ⟨k⟩
theorem yr1 (k:G') (h:Hid G'→G:=by intro zk0;(iterate 1 (refine yS ?_));exact zk0.1):G:=h ⟨k⟩
theorem yr2 (k:G') (h:Hid G'→G:=by intro zk0;(iterate 2 (refine yS ?_));exact zk0.1):G:=h ⟨k⟩
theorem yr3 (k:G') (h:Hid G'→G:=by intro zk0;(iterate 3 (refine yS ?_));exact zk0.1):G:=h ⟨k⟩
theorem yr4 (k:G') (h:Hid G'→G:=by intro zk0;(iterate 4 (refine yS ?_));exact zk0.1):G:=h ⟨k⟩
theorem yr5 (k:G') (h:Hid G'→G:=by intro zk0;(iterate 5 (refine yS ?_));exact zk0.1):G:=h ⟨k⟩
theorem yr6 (k:G') (h:Hid G'→G:=by intro zk0;(iterate 6 (refine yS ?_));exact zk0.1):G:=h ⟨k⟩
theorem yr7 (k:G') (h:Hid G'→G:=by intro zk0;(iterate 7 (refine yS ?_));exact zk0.1):G:=h ⟨k⟩
theorem yr8 (k:G') (h:Hid G'→G:=by intro zk0;(iterate 8 (refine yS ?_));exact zk0.1):G:=h ⟨k⟩
theorem yr9 (k:G') (h:Hid G'→G:=by intro zk0;(iterate 9 (refine yS ?_));exact zk0.1):G:=h ⟨k⟩
theorem yr10 (k:G') (h:Hid G'→G:=by intro zk0;(iterate 10 (refine yS ?_));exact zk0.1):G:=h ⟨k⟩
theorem yr11 (k:G') (h:Hid G'→G:=by intro zk0;(iterate 11 (refine yS ?_));exact zk0.1):G:=h ⟨k⟩
theorem yr12 (k:G') (h:Hid G'→G:=by intro zk0;(iterate 12 (refine yS ?_));exact zk0.1):G:=h ⟨k⟩
theorem yr13 (k:G') (h:Hid G'→G:=by intro zk0;(iterate 13 (refine yS ?_));exact zk0.1):G:=h ⟨k⟩
theorem yr14 (k:G') (h:Hid G'→G:=by intro zk0;(iterate 14 (refine yS ?_));exact zk0.1):G:=h ⟨k⟩
theorem yr15 (k:G') (h:Hid G'→G:=by intro zk0;(iterate 15 (refine yS ?_));exact zk0.1):G:=h ⟨k⟩
theorem yr16 (k:G') (h:Hid G'→G:=by intro zk0;(iterate 16 (refine yS ?_));exact zk0.1):G:=h ⟨k⟩
theorem yr17 (k:G') (h:Hid G'→G:=by intro zk0;(iterate 17 (refine yS ?_));exact zk0.1):G:=h ⟨k⟩
theorem yr18 (k:G') (h:Hid G'→G:=by intro zk0;(iterate 18 (refine yS ?_));exact zk0.1):G:=h ⟨k⟩
theorem yr19 (k:G') (h:Hid G'→G:=by intro zk0;(iterate 19 (refine yS ?_));exact zk0.1):G:=h ⟨k⟩
theorem yr20 (k:G') (h:Hid G'→G:=by intro zk0;(iterate 20 (refine yS ?_));exact zk0.1):G:=h ⟨k⟩
theorem yr21 (k:G') (h:Hid G'→G:=by intro zk0;(iterate 21 (refine yS ?_));exact zk0.1):G:=h ⟨k⟩
theorem yr22 (k:G') (h:Hid G'→G:=by intro zk0;(iterate 22 (refine yS ?_));exact zk0.1):G:=h ⟨k⟩
theorem yr23 (k:G') (h:Hid G'→G:=by intro zk0;(iterate 23 (refine yS ?_));exact zk0.1):G:=h ⟨k⟩
theorem yr24 (k:G') (h:Hid G'→G:=by intro zk0;(iterate 24 (refine yS ?_));exact zk0.1):G:=h ⟨k⟩
theorem yr25 (k:G') (h:Hid G'→G:=by intro zk0;(iterate 25 (refine yS ?_));exact zk0.1):G:=h ⟨k⟩
theorem yr26 (k:G') (h:Hid G'→G:=by intro zk0;(iterate 26 (refine yS ?_));exact zk0.1):G:=h ⟨k⟩
theorem yr27 (k:G') (h:Hid G'→G:=by intro zk0;(iterate 27 (refine yS ?_));exact zk0.1):G:=h ⟨k⟩
theorem yr28 (k:G') (h:Hid G'→G:=by intro zk0;(iterate 28 (refine yS ?_));exact zk0.1):G:=h ⟨k⟩
theorem yr29 (k:G') (h:Hid G'→G:=by intro zk0;(iterate 29 (refine yS ?_));exact zk0.1):G:=h ⟨k⟩
theorem yr30 (k:G') (h:Hid G'→G:=by intro zk0;(iterate 30 (refine yS ?_));exact zk0.1):G:=h ⟨k⟩
theorem yr31 (k:G') (h:Hid G'→G:=by intro zk0;(iterate 31 (refine yS ?_));exact zk0.1):G:=h ⟨k⟩
theorem yr32 (k:G') (h:Hid G'→G:=by intro zk0;(iterate 32 (refine yS ?_));exact zk0.1):G:=h ⟨k⟩
theorem yr33 (k:G') (h:Hid G'→G:=by intro zk0;(iterate 33 (refine yS ?_));exact zk0.1):G:=h ⟨k⟩
theorem yr34 (k:G') (h:Hid G'→G:=by intro zk0;(iterate 34 (refine yS ?_));exact zk0.1):G:=h ⟨k⟩
theorem yr35 (k:G') (h:Hid G'→G:=by intro zk0;(iterate 35 (refine yS ?_));exact zk0.1):G:=h ⟨k⟩
theorem yr36 (k:G') (h:Hid G'→G:=by intro zk0;(iterate 36 (refine yS ?_));exact zk0.1):G:=h ⟨k⟩
theorem yr37 (k:G') (h:Hid G'→G:=by intro zk0;(iterate 37 (refine yS ?_));exact zk0.1):G:=h ⟨k⟩
theorem yr38 (k:G') (h:Hid G'→G:=by intro zk0;(iterate 38 (refine yS ?_));exact zk0.1):G:=h ⟨k⟩
theorem yr39 (k:G') (h:Hid G'→G:=by intro zk0;(iterate 39 (refine yS ?_));exact zk0.1):G:=h ⟨k⟩
theorem yr40 (k:G') (h:Hid G'→G:=by intro zk0;(iterate 40 (refine yS ?_));exact zk0.1):G:=h ⟨k⟩
theorem yr41 (k:G') (h:Hid G'→G:=by intro zk0;(iterate 41 (refine yS ?_));exact zk0.1):G:=h ⟨k⟩
theorem yr42 (k:G') (h:Hid G'→G:=by intro zk0;(iterate 42 (refine yS ?_));exact zk0.1):G:=h ⟨k⟩
theorem yr43 (k:G') (h:Hid G'→G:=by intro zk0;(iterate 43 (refine yS ?_));exact zk0.1):G:=h ⟨k⟩
theorem yr44 (k:G') (h:Hid G'→G:=by intro zk0;(iterate 44 (refine yS ?_));exact zk0.1):G:=h ⟨k⟩
theorem yr45 (k:G') (h:Hid G'→G:=by intro zk0;(iterate 45 (refine yS ?_));exact zk0.1):G:=h ⟨k⟩
theorem yr46 (k:G') (h:Hid G'→G:=by intro zk0;(iterate 46 (refine yS ?_));exact zk0.1):G:=h ⟨k⟩
theorem yr47 (k:G') (h:Hid G'→G:=by intro zk0;(iterate 47 (refine yS ?_));exact zk0.1):G:=h ⟨k⟩
theorem yr48 (k:G') (h:Hid G'→G:=by intro zk0;(iterate 48 (refine yS ?_));exact zk0.1):G:=h ⟨k⟩
theorem yr49 (k:G') (h:Hid G'→G:=by intro zk0;(iterate 49 (refine yS ?_));exact zk0.1):G:=h ⟨k⟩
theorem yr50 (k:G') (h:Hid G'→G:=by intro zk0;(iterate 50 (refine yS ?_));exact zk0.1):G:=h ⟨k⟩
theorem yr51 (k:G') (h:Hid G'→G:=by intro zk0;(iterate 51 (refine yS ?_));exact zk0.1):G:=h ⟨k⟩
theorem yr52 (k:G') (h:Hid G'→G:=by intro zk0;(iterate 52 (refine yS ?_));exact zk0.1):G:=h ⟨k⟩
theorem yr53 (k:G') (h:Hid G'→G:=by intro zk0;(iterate 53 (refine yS ?_));exact zk0.1):G:=h ⟨k⟩
theorem yr54 (k:G') (h:Hid G'→G:=by intro zk0;(iterate 54 (refine yS ?_));exact zk0.1):G:=h ⟨k⟩
theorem yr56 (k:G') (h:Hid G'→G:=by intro zk0;(iterate 56 (refine yS ?_));exact zk0.1):G:=h ⟨k⟩
theorem yr57 (k:G') (h:Hid G'→G:=by intro zk0;(iterate 57 (refine yS ?_));exact zk0.1):G:=h ⟨k⟩
theorem yr58 (k:G') (h:Hid G'→G:=by intro zk0;(iterate 58 (refine yS ?_));exact zk0.1):G:=h ⟨k⟩
theorem yr59 (k:G') (h:Hid G'→G:=by intro zk0;(iterate 59 (refine yS ?_));exact zk0.1):G:=h ⟨k⟩
theorem yr60 (k:G') (h:Hid G'→G:=by intro zk0;(iterate 60 (refine yS ?_));exact zk0.1):G:=h ⟨k⟩
theorem yr62 (k:G') (h:Hid G'→G:=by intro zk0;(iterate 62 (refine yS ?_));exact zk0.1):G:=h ⟨k⟩
theorem yr63 (k:G') (h:Hid G'→G:=by intro zk0;(iterate 63 (refine yS ?_));exact zk0.1):G:=h ⟨k⟩
theorem yr67 (k:G') (h:Hid G'→G:=by intro zk0;(iterate 67 (refine yS ?_));exact zk0.1):G:=h ⟨k⟩
theorem yr75 (k:G') (h:Hid G'→G:=by intro zk0;(iterate 75 (refine yS ?_));exact zk0.1):G:=h ⟨k⟩
theorem yr85 (k:G') (h:Hid G'→G:=by intro zk0;(iterate 85 (refine yS ?_));exact zk0.1):G:=h ⟨k⟩
theorem yr88 (k:G') (h:Hid G'→G:=by intro zk0;(iterate 88 (refine yS ?_));exact zk0.1):G:=h ⟨k⟩
theorem yq1 (k:G') (h:Hid G'→G:=by intro zk0;(iterate 1 (refine yS ?_));refine KL.callc rfl rfl js ?_;exact zk0.1):G:=h ⟨k⟩
theorem yq3 (k:G') (h:Hid G'→G:=by intro zk0;(iterate 3 (refine yS ?_));refine KL.callc rfl rfl js ?_;exact zk0.1):G:=h ⟨k⟩
theorem yq4 (k:G') (h:Hid G'→G:=by intro zk0;(iterate 4 (refine yS ?_));refine KL.callc rfl rfl js ?_;exact zk0.1):G:=h ⟨k⟩
theorem yq5 (k:G') (h:Hid G'→G:=by intro zk0;(iterate 5 (refine yS ?_));refine KL.callc rfl rfl js ?_;exact zk0.1):G:=h ⟨k⟩
theorem yq6 (k:G') (h:Hid G'→G:=by intro zk0;(iterate 6 (refine yS ?_));refine KL.callc rfl rfl js ?_;exact zk0.1):G:=h ⟨k⟩
theorem yq7 (k:G') (h:Hid G'→G:=by intro zk0;(iterate 7 (refine yS ?_));refine KL.callc rfl rfl js ?_;exact zk0.1):G:=h ⟨k⟩
theorem yq8 (k:G') (h:Hid G'→G:=by intro zk0;(iterate 8 (refine yS ?_));refine KL.callc rfl rfl js ?_;exact zk0.1):G:=h ⟨k⟩
theorem yq9 (k:G') (h:Hid G'→G:=by intro zk0;(iterate 9 (refine yS ?_));refine KL.callc rfl rfl js ?_;exact zk0.1):G:=h ⟨k⟩
theorem yq10 (k:G') (h:Hid G'→G:=by intro zk0;(iterate 10 (refine yS ?_));refine KL.callc rfl rfl js ?_;exact zk0.1):G:=h ⟨k⟩
theorem yq11 (k:G') (h:Hid G'→G:=by intro zk0;(iterate 11 (refine yS ?_));refine KL.callc rfl rfl js ?_;exact zk0.1):G:=h ⟨k⟩
theorem yq12 (k:G') (h:Hid G'→G:=by intro zk0;(iterate 12 (refine yS ?_));refine KL.callc rfl rfl js ?_;exact zk0.1):G:=h ⟨k⟩
theorem yq13 (k:G') (h:Hid G'→G:=by intro zk0;(iterate 13 (refine yS ?_));refine KL.callc rfl rfl js ?_;exact zk0.1):G:=h ⟨k⟩
theorem yq14 (k:G') (h:Hid G'→G:=by intro zk0;(iterate 14 (refine yS ?_));refine KL.callc rfl rfl js ?_;exact zk0.1):G:=h ⟨k⟩
theorem yq15 (k:G') (h:Hid G'→G:=by intro zk0;(iterate 15 (refine yS ?_));refine KL.callc rfl rfl js ?_;exact zk0.1):G:=h ⟨k⟩
theorem yq16 (k:G') (h:Hid G'→G:=by intro zk0;(iterate 16 (refine yS ?_));refine KL.callc rfl rfl js ?_;exact zk0.1):G:=h ⟨k⟩
theorem yq17 (k:G') (h:Hid G'→G:=by intro zk0;(iterate 17 (refine yS ?_));refine KL.callc rfl rfl js ?_;exact zk0.1):G:=h ⟨k⟩
theorem yq18 (k:G') (h:Hid G'→G:=by intro zk0;(iterate 18 (refine yS ?_));refine KL.callc rfl rfl js ?_;exact zk0.1):G:=h ⟨k⟩
theorem yq19 (k:G') (h:Hid G'→G:=by intro zk0;(iterate 19 (refine yS ?_));refine KL.callc rfl rfl js ?_;exact zk0.1):G:=h ⟨k⟩
theorem yq20 (k:G') (h:Hid G'→G:=by intro zk0;(iterate 20 (refine yS ?_));refine KL.callc rfl rfl js ?_;exact zk0.1):G:=h ⟨k⟩
theorem yq21 (k:G') (h:Hid G'→G:=by intro zk0;(iterate 21 (refine yS ?_));refine KL.callc rfl rfl js ?_;exact zk0.1):G:=h ⟨k⟩
theorem yq22 (k:G') (h:Hid G'→G:=by intro zk0;(iterate 22 (refine yS ?_));refine KL.callc rfl rfl js ?_;exact zk0.1):G:=h ⟨k⟩
theorem yq23 (k:G') (h:Hid G'→G:=by intro zk0;(iterate 23 (refine yS ?_));refine KL.callc rfl rfl js ?_;exact zk0.1):G:=h ⟨k⟩
theorem yq24 (k:G') (h:Hid G'→G:=by intro zk0;(iterate 24 (refine yS ?_));refine KL.callc rfl rfl js ?_;exact zk0.1):G:=h ⟨k⟩
theorem yq25 (k:G') (h:Hid G'→G:=by intro zk0;(iterate 25 (refine yS ?_));refine KL.callc rfl rfl js ?_;exact zk0.1):G:=h ⟨k⟩
theorem yq26 (k:G') (h:Hid G'→G:=by intro zk0;(iterate 26 (refine yS ?_));refine KL.callc rfl rfl js ?_;exact zk0.1):G:=h ⟨k⟩
theorem yq27 (k:G') (h:Hid G'→G:=by intro zk0;(iterate 27 (refine yS ?_));refine KL.callc rfl rfl js ?_;exact zk0.1):G:=h ⟨k⟩
theorem yq28 (k:G') (h:Hid G'→G:=by intro zk0;(iterate 28 (refine yS ?_));refine KL.callc rfl rfl js ?_;exact zk0.1):G:=h ⟨k⟩
theorem yq29 (k:G') (h:Hid G'→G:=by intro zk0;(iterate 29 (refine yS ?_));refine KL.callc rfl rfl js ?_;exact zk0.1):G:=h ⟨k⟩
theorem yq31 (k:G') (h:Hid G'→G:=by intro zk0;(iterate 31 (refine yS ?_));refine KL.callc rfl rfl js ?_;exact zk0.1):G:=h ⟨k⟩
theorem yq32 (k:G') (h:Hid G'→G:=by intro zk0;(iterate 32 (refine yS ?_));refine KL.callc rfl rfl js ?_;exact zk0.1):G:=h ⟨k⟩
theorem yq33 (k:G') (h:Hid G'→G:=by intro zk0;(iterate 33 (refine yS ?_));refine KL.callc rfl rfl js ?_;exact zk0.1):G:=h ⟨k⟩
theorem yq34 (k:G') (h:Hid G'→G:=by intro zk0;(iterate 34 (refine yS ?_));refine KL.callc rfl rfl js ?_;exact zk0.1):G:=h ⟨k⟩
theorem yq35 (k:G') (h:Hid G'→G:=by intro zk0;(iterate 35 (refine yS ?_));refine KL.callc rfl rfl js ?_;exact zk0.1):G:=h ⟨k⟩
theorem yq36 (k:G') (h:Hid G'→G:=by intro zk0;(iterate 36 (refine yS ?_));refine KL.callc rfl rfl js ?_;exact zk0.1):G:=h ⟨k⟩
theorem yq37 (k:G') (h:Hid G'→G:=by intro zk0;(iterate 37 (refine yS ?_));refine KL.callc rfl rfl js ?_;exact zk0.1):G:=h ⟨k⟩
theorem yq38 (k:G') (h:Hid G'→G:=by intro zk0;(iterate 38 (refine yS ?_));refine KL.callc rfl rfl js ?_;exact zk0.1):G:=h ⟨k⟩
theorem yq39 (k:G') (h:Hid G'→G:=by intro zk0;(iterate 39 (refine yS ?_));refine KL.callc rfl rfl js ?_;exact zk0.1):G:=h ⟨k⟩
theorem yq40 (k:G') (h:Hid G'→G:=by intro zk0;(iterate 40 (refine yS ?_));refine KL.callc rfl rfl js ?_;exact zk0.1):G:=h ⟨k⟩
theorem yq41 (k:G') (h:Hid G'→G:=by intro zk0;(iterate 41 (refine yS ?_));refine KL.callc rfl rfl js ?_;exact zk0.1):G:=h ⟨k⟩
theorem yq42 (k:G') (h:Hid G'→G:=by intro zk0;(iterate 42 (refine yS ?_));refine KL.callc rfl rfl js ?_;exact zk0.1):G:=h ⟨k⟩
theorem yq47 (k:G') (h:Hid G'→G:=by intro zk0;(iterate 47 (refine yS ?_));refine KL.callc rfl rfl js ?_;exact zk0.1):G:=h ⟨k⟩
theorem yq48 (k:G') (h:Hid G'→G:=by intro zk0;(iterate 48 (refine yS ?_));refine KL.callc rfl rfl js ?_;exact zk0.1):G:=h ⟨k⟩
theorem yq51 (k:G') (h:Hid G'→G:=by intro zk0;(iterate 51 (refine yS ?_));refine KL.callc rfl rfl js ?_;exact zk0.1):G:=h ⟨k⟩
theorem yq52 (k:G') (h:Hid G'→G:=by intro zk0;(iterate 52 (refine yS ?_));refine KL.callc rfl rfl js ?_;exact zk0.1):G:=h ⟨k⟩
theorem yq53 (k:G') (h:Hid G'→G:=by intro zk0;(iterate 53 (refine yS ?_));refine KL.callc rfl rfl js ?_;exact zk0.1):G:=h ⟨k⟩
theorem yq54 (k:G') (h:Hid G'→G:=by intro zk0;(iterate 54 (refine yS ?_));refine KL.callc rfl rfl js ?_;exact zk0.1):G:=h ⟨k⟩
theorem yq83 (k:G') (h:Hid G'→G:=by intro zk0;(iterate 83 (refine yS ?_));refine KL.callc rfl rfl js ?_;exact zk0.1):G:=h ⟨k⟩
theorem zd (h:G:=by exact KE.fin jd rfl jc ja ⟨rfl,rfl⟩):G:=h
theorem zz (k:G') (h:Hid G'→G:=by intro zk0;refine KL.callc rfl rfl js ?_;exact zk0.1):G:=h ⟨k⟩
theorem zcq (k:G') (h:Hid G'→G:=by intro zk0;refine(CallV.fn (rnone_K (jA.cell jq rfl))).mono ?_;exact zk0.1):G:=h ⟨k⟩
theorem za (k:G') (h:Hid G'→G:=by intro zk0;refine hT _ _ ?_;exact zk0.1):G:=h ⟨k⟩
theorem zd4 (h:G:=by exact KE.fin jd rfl jc (by first|exact ja|(simp only[jB];exact ja)) ⟨rfl,rfl⟩):G:=h
theorem zd5 (h:G:=by exact KE.fin jd rfl jc ja ⟨by rw[e];rfl,rfl⟩):G:=h
theorem zq (k:G') (h:Hid G'→G:=by intro zk0;rintro _ _ ⟨rfl,rfl⟩;exact zk0.1):G:=h ⟨k⟩
theorem zbW (k:G') (h:Hid G'→G:=by intro zk0;refine K.drawn [] [(0,0),(1,0),(2,0),(3,0),(4,0),(5,0),(6,0),(7,0),(8,0),(9,0),(10,0),(11,0),(12,0),(13,2)] (by kernel_rfl) (by kernel_rfl) (by kernel_rfl) (by kernel_rfl) (by kernel_rfl) (by kernel_rfl) Part.nil ?_;exact zk0.1):G:=h ⟨k⟩
theorem zg (k:G') (h:Hid G'→G:=by intro zk0;refine KD.v0 rfl rfl (Val.move rfl) ?_;exact zk0.1):G:=h ⟨k⟩
theorem zbf (k:G') (h:Hid G'→G:=by intro zk0;refine KD.v0 rfl rfl (Val.nilCheck rfl) ?_;exact zk0.1):G:=h ⟨k⟩
theorem zaY (k:G') (h:Hid G'→G:=by intro zk0;refine KD.v0 rfl rfl (Val.fieldAddr0 (k:=0) rfl rfl) ?_;exact zk0.1):G:=h ⟨k⟩
theorem zo (k:G') (h:Hid G'→G:=by intro zk0;refine KD.v0 rfl rfl (Val.loadP rfl rfl (jA.cell jq rfl)) ?_;exact zk0.1):G:=h ⟨k⟩
theorem zaZ (k:G') (h:Hid G'→G:=by intro zk0;refine KD.v0 rfl rfl (Val.quoN rfl rfl (by simp only[qL,qH];omega)) ?_;exact zk0.1):G:=h ⟨k⟩
theorem zN (k:G') (h:Hid G'→G:=by intro zk0;refine KD.v0 rfl rfl (Val.idxSl rfl rfl rfl (Sli.own jh (by assumption) jG) rfl jr) ?_;exact zk0.1):G:=h ⟨k⟩
theorem zbA (k:G') (h:Hid G'→G:=by intro zk0;refine KD.v0 rfl rfl (Val.loadP rfl rfl (jA.sl0 (Sli.own jh (by assumption) jG) (by assumption) rfl)) ?_;exact zk0.1):G:=h ⟨k⟩
theorem zcr (k:G') (h:Hid G'→G:=by intro zk0;refine KD.v0 rfl rfl (Val.remN rfl rfl (by omega)) ?_;exact zk0.1):G:=h ⟨k⟩
theorem zbX (k:G') (h:Hid G'→G:=by intro zk0;refine KD.eN rfl (Eff.stSl0 rfl rfl rfl rfl jh (by assumption) (by assumption) rfl rfl) ?_;rintro _ _ rfl;exact zk0.1):G:=h ⟨k⟩
theorem zW (k:G') (h:Hid G'→G:=by intro zk0;refine⟨ja,?_⟩;exact zk0.1):G:=h ⟨k⟩
theorem zp (k:G') (h:Hid G'→G:=by intro zk0;refine KD.nil ?_;exact zk0.1):G:=h ⟨k⟩
theorem zk (k:G') (h:Hid G'→G:=by intro zk0;refine jdM ?_;exact zk0.1):G:=h ⟨k⟩
theorem ze (k:G') (h:Hid G'→G:=by intro zk0;refine KL.e rfl (Eff.box rfl rfl) ?_;rintro _ _ ⟨v0,rfl,rfl⟩;revert v0;exact zk0.1):G:=h ⟨k⟩
theorem ze4 (h:G:=by exact jaI (m:=72057594037927936) (by omega) (jaI (m:=281474976710656) (by omega) (jaI (m:=1099511627776) (by omega) (jaI (m:=4294967296) (by omega) (jaI (m:=16777216) (by omega) (jaI (m:=65536) (by omega) (jaI (m:=256) (by omega) (by omega)))))))):G:=h
theorem zi (k:G') (h:Hid G'→G:=by intro zk0;refine KD.callc rfl rfl rfl js ?_;exact zk0.1):G:=h ⟨k⟩
theorem zh (k:G') (h:Hid G'→G:=by intro zk0;refine hT _ _ ja ?_;exact zk0.1):G:=h ⟨k⟩
theorem zbB (k:G') (h:Hid G'→G:=by intro zk0;refine KD.v0 rfl rfl (Val.notF rfl) ?_;exact zk0.1):G:=h ⟨k⟩
theorem zf (k:G') (h:Hid G'→G:=by intro zk0;refine KL.e rfl (Eff.alloc rfl) ?_;rintro _ _ ⟨v0,rfl,rfl⟩;revert v0;exact zk0.1):G:=h ⟨k⟩
theorem zbY (h:G:=by exact KE.meet () jg ja trivial):G:=h
theorem zd6 (k:G') (h:Hid G'→G:=by intro zk0;refine hyl _ _ _ _ _ (ParS.cons rfl (ParS.cons rfl ParS.nil)) jq ?_;exact zk0.1):G:=h ⟨k⟩
theorem ze5 (k:G') (h:Hid G'→G:=by intro zk0;refine KE.part ((l, .loop (rc .busy none))::([(D, .deferred (some [])),(b7,cells [.bool false] 4),(b6,cells [.int .i64 0] 3),(b3,cells [.pointer (some ⟨r.b,0,none⟩)] 117)]++(frM bi br bt k v r.b++(jz r++F)))) (by simp only[List.cons_append,List.nil_append];exact ja) ?_;exact zk0.1):G:=h ⟨k⟩
theorem zt (k:G') (h:Hid G'→G:=by intro zk0;refine KL.e rfl (Eff.buildS jbZ rfl rfl rfl rfl rfl jb5) ?_;rintro _ _ ⟨v0,rfl,rfl⟩;revert v0;exact zk0.1):G:=h ⟨k⟩
theorem zm (k:G') (h:Hid G'→G:=by intro zk0;refine KD.v1 rfl rfl (Val.move rfl) ?_;exact zk0.1):G:=h ⟨k⟩
theorem ze6 (k:G') (h:Hid G'→G:=by intro zk0;refine KD.v1 rfl rfl (Val.nilCheck rfl) ?_;exact zk0.1):G:=h ⟨k⟩
theorem zbZ (k:G') (h:Hid G'→G:=by intro zk0;refine KD.v1 rfl rfl (Val.fieldAddr0 (k:=1) rfl rfl) ?_;exact zk0.1):G:=h ⟨k⟩
theorem zx (k:G') (h:Hid G'→G:=by intro zk0;refine KD.v1 rfl rfl (Val.loadP rfl rfl (jA.cell jq rfl)) ?_;exact zk0.1):G:=h ⟨k⟩
theorem zay (k:G') (h:Hid G'→G:=by intro zk0;refine KD.v0 rfl rfl (Val.build jbZ rfl rfl jb5) ?_;exact zk0.1):G:=h ⟨k⟩
theorem zbC (k:G') (h:Hid G'→G:=by intro zk0;refine KD.v0 rfl rfl (Val.assign rfl) ?_;exact zk0.1):G:=h ⟨k⟩
theorem zd7 (k:G') (h:Hid G'→G:=by intro zk0;refine⟨(Nat.le_div_iff_mul_le (by omega)).2 (by omega),?_⟩;exact zk0.1):G:=h ⟨k⟩
theorem zw (k:G') (h:Hid G'→G:=by intro zk0;refine byCodeD ?_;exact zk0.1):G:=h ⟨k⟩
theorem zaL (k:G') (h:Hid G'→G:=by intro zk0;(first|refine KD.v0 rfl rfl (Val.loadP rfl rfl jaW) ?_|refine KD.v0 rfl rfl (Val.loadP rfl rfl (jA.more (by assumption) ja)) ?_);exact zk0.1):G:=h ⟨k⟩
theorem zcs (k:G') (h:Hid G'→G:=by intro zk0;(first|refine KD.v0 rfl rfl (Val.idxSl rfl rfl rfl Jm rfl jr) ?_|refine KD.v0 rfl rfl (Val.idxSlZ rfl rfl rfl Jm rfl (by omega)) ?_|refine KD.v0 rfl rfl (Val.indexS1 rfl rfl rfl rfl (by omega)) ?_|refine KD.v0 rfl rfl (Val.indexS rfl rfl rfl rfl (by omega)) ?_|refine KD.v0 rfl rfl (Val.indexSO rfl rfl rfl rfl (by omega)) ?_|refine KD.v0 rfl rfl (Val.indexSG rfl rfl rfl rfl (by omega)) ?_);exact zk0.1):G:=h ⟨k⟩
theorem zct (k:G') (h:Hid G'→G:=by intro zk0;refine KD.v0 rfl rfl (Val.extract rfl rfl) ?_;exact zk0.1):G:=h ⟨k⟩
theorem zaf (k:G') (h:Hid G'→G:=by intro zk0;refine KD.v1 rfl rfl (Val.extract rfl rfl) ?_;exact zk0.1):G:=h ⟨k⟩
theorem zb0 (k:G') (h:Hid G'→G:=by intro zk0;refine KD.eN rfl (Eff.storeL rfl rfl jcb rfl jq jcZ) ?_;rintro _ _ rfl;exact zk0.1):G:=h ⟨k⟩
theorem zb1 (h:G:=by exact KE.fin jd rfl jc ja ⟨o,ko,rfl,rfl⟩):G:=h
theorem zaz (h:G:=by exact KE.fin jd rfl jc ja ⟨by rw[hc];rfl,rfl⟩):G:=h
theorem zd8 (k:G') (h:Hid G'→G:=by intro zk0;refine K.drawn [] [(0,0),(1,0),(2,0),(3,0),(4,0),(5,0),(6,0),(7,0),(8,0),(9,0),(10,0),(11,0),(12,0),(13,0),(14,0),(15,0),(16,0),(17,0),(18,0),(19,0),(20,0),(21,0),(22,0)] (by kernel_rfl) (by kernel_rfl) (by kernel_rfl) (by kernel_rfl) (by kernel_rfl) (by kernel_rfl) Part.nil ?_;exact zk0.1):G:=h ⟨k⟩
theorem zK (k:G') (h:Hid G'→G:=by intro zk0;refine KD.v0 rfl rfl (Val.add rfl rfl (by simp only[qL,qH];omega)) ?_;exact zk0.1):G:=h ⟨k⟩
theorem zd9 (k:G') (h:Hid G'→G:=by intro zk0;refine KD.v0 rfl rfl (Val.idxSlZ rfl rfl rfl Jm rfl (by omega)) ?_;exact zk0.1):G:=h ⟨k⟩
theorem zJ (k:G') (h:Hid G'→G:=by intro zk0;refine KD.v0 rfl rfl (Val.loadP rfl rfl jaW) ?_;exact zk0.1):G:=h ⟨k⟩
theorem zb2 (k:G') (h:Hid G'→G:=by intro zk0;refine KD.v0 rfl rfl (Val.idxSl rfl rfl rfl Jm rfl jr) ?_;exact zk0.1):G:=h ⟨k⟩
theorem zap (k:G') (h:Hid G'→G:=by intro zk0;refine KD.no rfl rfl rfl rfl rfl ?_;exact zk0.1):G:=h ⟨k⟩
theorem zaA (k:G') (h:Hid G'→G:=by intro zk0;refine KD.v0 rfl rfl (Val.pickT rfl rfl rfl) ?_;exact zk0.1):G:=h ⟨k⟩
theorem zL (h:G:=by exact KE.fin jd rfl jc ja ⟨by rw[hf];rfl,rfl⟩):G:=h
theorem zbg (k:G') (h:Hid G'→G:=by intro zk0;refine KD.v0 rfl rfl (Val.isF (Val.lss rfl rfl) jr) ?_;exact zk0.1):G:=h ⟨k⟩
theorem zC (k:G') (h:Hid G'→G:=by intro zk0;refine KD.y0 rfl rfl rfl rfl (Val.move rfl) ?_;exact zk0.1):G:=h ⟨k⟩
theorem zb3 (k:G') (h:Hid G'→G:=by intro zk0;refine KD.y0 rfl rfl rfl rfl (Val.add rfl rfl (by simp only[qL,qH];omega)) ?_;exact zk0.1):G:=h ⟨k⟩
theorem zb4 (k:G') (h:Hid G'→G:=by intro zk0;refine KD.y0 rfl rfl rfl rfl (Val.idxSlZ rfl rfl rfl Jm rfl (by omega)) ?_;exact zk0.1):G:=h ⟨k⟩
theorem zaq (k:G') (h:Hid G'→G:=by intro zk0;refine KD.y0 rfl rfl rfl rfl (Val.loadP rfl rfl jaW) ?_;exact zk0.1):G:=h ⟨k⟩
theorem zc7 (k:G') (h:Hid G'→G:=by intro zk0;refine KD.y0 rfl rfl rfl rfl (Val.isT (Val.gtr rfl rfl) jr) ?_;exact zk0.1):G:=h ⟨k⟩
theorem zag (k:G') (h:Hid G'→G:=by intro zk0;refine KD.v0 rfl rfl (Val.pickF rfl rfl rfl) ?_;exact zk0.1):G:=h ⟨k⟩
theorem zcu (k:G') (h:Hid G'→G:=by intro zk0;refine KD.y0 rfl rfl rfl rfl (Val.isF (Val.gtr rfl rfl) jr) ?_;exact zk0.1):G:=h ⟨k⟩
theorem ze7 (h:G:=by exact KE.again ⟨k+1⟩ jg ja ⟨by show k+1≤_;omega,hr⟩ (by show tn.length-(k+1)<tn.length-k;omega)):G:=h
theorem ze8 (h:G:=by exact KE.fin jd rfl jc (by first|exact ja|(simp only[jB,jV];exact ja)) ⟨rfl,rfl⟩):G:=h
theorem ze9 (k:G') (h:Hid G'→G:=by intro zk0;refine K.drawn [] [(0,0),(1,0),(2,0),(3,0),(4,0),(5,0),(6,0),(7,0),(8,0),(9,0),(10,0),(11,0),(12,0),(13,0),(14,0),(15,0),(16,0),(17,0),(18,0),(19,0),(20,0)] (by kernel_rfl) (by kernel_rfl) (by kernel_rfl) (by kernel_rfl) (by kernel_rfl) (by kernel_rfl) Part.nil ?_;exact zk0.1):G:=h ⟨k⟩
theorem zf2 (k:G') (h:Hid G'→G:=by intro zk0;refine KD.v0 rfl rfl (Val.fieldAddr0 (k:=1) rfl rfl) ?_;exact zk0.1):G:=h ⟨k⟩
theorem zF (k:G') (h:Hid G'→G:=by intro zk0;(first|refine KD.v1 rfl rfl (Val.loadP rfl rfl jaW) ?_|refine KD.v1 rfl rfl (Val.loadP rfl rfl (jA.more (by assumption) ja)) ?_);exact zk0.1):G:=h ⟨k⟩
theorem zfa (k:G') (h:Hid G'→G:=by intro zk0;refine K.loopT (σ:=SmS) [(1,_),(8,_)] (fun s kp_=>(9, .int .i64 (s.k:Nat))::(5, .int .i64 (sumN f s.k))::kp_) (fun s=>H) (fun s=>s.k≤l.length) (fun s=>l.length-s.k) (⟨0⟩) jg ja ((by simp)) ?_;exact zk0.1):G:=h ⟨k⟩
theorem zfb (h:G:=by exact KE.again ⟨k+1⟩ jg ja (by show k+1≤_;omega) (by show l.length-(k+1)<l.length-k;omega)):G:=h
theorem zaM (h:G:=by exact KE.fin jd rfl jc ja ⟨by rw[he];rfl,rfl⟩):G:=h
theorem zcv (k:G') (h:Hid G'→G:=by intro zk0;refine K.drawn [] [(0,0),(1,0),(2,0),(3,0),(4,0),(5,0),(6,0),(7,0),(8,0),(9,0),(10,0),(11,0),(12,0),(13,0),(14,0),(15,0),(16,0),(17,0),(18,0),(19,0),(20,0),(21,0),(22,0),(23,0),(24,0),(25,0),(26,0),(27,0)] (by kernel_rfl) (by kernel_rfl) (by kernel_rfl) (by kernel_rfl) (by kernel_rfl) (by kernel_rfl) Part.nil ?_;exact zk0.1):G:=h ⟨k⟩
theorem zfc (k:G') (h:Hid G'→G:=by intro zk0;refine KD.noU rfl rfl rfl rfl rfl ?_;exact zk0.1):G:=h ⟨k⟩
theorem zb5 (k:G') (h:Hid G'→G:=by intro zk0;refine KD.y0 rfl rfl rfl rfl (Val.idxSl rfl rfl rfl Jm rfl jr) ?_;exact zk0.1):G:=h ⟨k⟩
theorem zea (k:G') (h:Hid G'→G:=by intro zk0;refine KD.y0 rfl rfl rfl rfl (Val.isT (Val.leq rfl rfl) jr) ?_;exact zk0.1):G:=h ⟨k⟩
theorem zcw (k:G') (h:Hid G'→G:=by intro zk0;refine KD.y0 rfl rfl rfl rfl (Val.pickT rfl rfl rfl) ?_;exact zk0.1):G:=h ⟨k⟩
theorem zeb (k:G') (h:Hid G'→G:=by intro zk0;refine KD.y0 rfl rfl rfl rfl (Val.isF (Val.leq rfl rfl) jr) ?_;exact zk0.1):G:=h ⟨k⟩
theorem zfd (h:G:=by exact KE.again ⟨k+1,x⟩ jg ja ⟨by show k+1≤_;omega,hr,fun h=>absurd h (by simp),fun _=>hx,by show x≤64;omega⟩ (by show l.length-(k+1)<l.length-k;omega)):G:=h
theorem zc8 (k:G') (h:Hid G'→G:=by intro zk0;refine KD.y0 rfl rfl rfl rfl (Val.pickF rfl rfl rfl) ?_;exact zk0.1):G:=h ⟨k⟩
theorem zaB (h:G:=by exact KE.fin jd rfl jc (by first|exact ja|(simp only[jB,jV,jN];exact ja)) ⟨rfl,rfl⟩):G:=h
theorem zbD (k:G') (h:Hid G'→G:=by intro zk0;refine(CallV.fn (plnone_K ok)).mono ?_;exact zk0.1):G:=h ⟨k⟩
theorem zbE (k:G') (h:Hid G'→G:=by intro zk0;refine K.drawn [] [(0,0),(1,0),(2,0),(3,0),(4,0),(5,0),(6,0),(7,0),(8,0),(9,0)] (by kernel_rfl) (by kernel_rfl) (by kernel_rfl) (by kernel_rfl) (by kernel_rfl) (by kernel_rfl) Part.nil ?_;exact zk0.1):G:=h ⟨k⟩
theorem zbh (k:G') (h:Hid G'→G:=by intro zk0;refine KD.v0 rfl rfl (Val.fieldAddr0 (k:=2) rfl rfl) ?_;exact zk0.1):G:=h ⟨k⟩
theorem zfe (k:G') (h:Hid G'→G:=by intro zk0;refine KD.v0 rfl rfl (Val.fieldAddr0 (k:=3) rfl rfl) ?_;exact zk0.1):G:=h ⟨k⟩
theorem zbF (k:G') (h:Hid G'→G:=by intro zk0;refine KD.v0 rfl rfl (Val.mul rfl rfl (by simp only[qL,qH];omega)) ?_;exact zk0.1):G:=h ⟨k⟩
theorem zbi (k:G') (h:Hid G'→G:=by intro zk0;refine K.drawn [] [(0,0),(1,0),(2,0),(3,0),(4,0),(5,0),(6,0),(7,0),(8,0),(9,0),(10,0)] (by kernel_rfl) (by kernel_rfl) (by kernel_rfl) (by kernel_rfl) (by kernel_rfl) (by kernel_rfl) Part.nil ?_;exact zk0.1):G:=h ⟨k⟩
theorem zah (k:G') (h:Hid G'→G:=by intro zk0;refine KD.y0 rfl rfl rfl rfl (Val.loadP rfl rfl (jA.cell jq rfl)) ?_;exact zk0.1):G:=h ⟨k⟩
theorem zaN (k:G') (h:Hid G'→G:=by intro zk0;refine KD.y0 rfl rfl rfl rfl (Val.nilCheck rfl) ?_;exact zk0.1):G:=h ⟨k⟩
theorem zff (k:G') (h:Hid G'→G:=by intro zk0;refine KD.y0 rfl rfl rfl rfl (Val.fieldAddr0 (k:=1) rfl rfl) ?_;exact zk0.1):G:=h ⟨k⟩
theorem zec (k:G') (h:Hid G'→G:=by intro zk0;refine KD.y0 rfl rfl rfl rfl (Val.isF (Val.geq rfl rfl) jr) ?_;exact zk0.1):G:=h ⟨k⟩
theorem zbG (k:G') (h:Hid G'→G:=by intro zk0;refine K.drawn [] [(0,0),(1,0),(2,0),(3,0),(4,0),(5,0),(6,0),(7,0),(8,0),(9,0),(10,0),(11,0),(12,0),(13,0)] (by kernel_rfl) (by kernel_rfl) (by kernel_rfl) (by kernel_rfl) (by kernel_rfl) (by kernel_rfl) Part.nil ?_;exact zk0.1):G:=h ⟨k⟩
theorem zb6 (k:G') (h:Hid G'→G:=by intro zk0;refine KD.v0 rfl rfl (Val.fieldSl (k:=1) rfl rfl) ?_;exact zk0.1):G:=h ⟨k⟩
theorem zbj (k:G') (h:Hid G'→G:=by intro zk0;refine KD.v0 rfl rfl (Val.loadP rfl rfl (jA.sl (Sli.own jh (by assumption) jG) (by assumption) rfl)) ?_;exact zk0.1):G:=h ⟨k⟩
theorem zbH (k:G') (h:Hid G'→G:=by intro zk0;refine KD.v0 rfl rfl (Val.sub rfl rfl (by simp only[qL,qH];omega)) ?_;exact zk0.1):G:=h ⟨k⟩
theorem zed (k:G') (h:Hid G'→G:=by intro zk0;(first|refine KD.v0 rfl rfl (Val.sliceL rfl rfl rfl Jm rfl jr) ?_|refine KD.v0 rfl rfl (Val.sliceLZ rfl rfl rfl Jm rfl (by omega)) ?_);exact zk0.1):G:=h ⟨k⟩
theorem zfg (k:G') (h:Hid G'→G:=by intro zk0;(first|refine KD.v0 rfl rfl (Val.add rfl rfl (by simp only[qL,qH];omega)) ?_|refine KD.v0 rfl rfl (Val.addW rfl rfl) ?_);exact zk0.1):G:=h ⟨k⟩
theorem zbk (h:G:=by exact KE.fin jd rfl jc (by first|exact ja|(simp only[Jf];exact ja)) ⟨rfl,rfl⟩):G:=h
theorem zee (k:G') (h:Hid G'→G:=by intro zk0;refine KD.v1 rfl rfl (Val.idxSlZ rfl rfl rfl (Sli.own jh (by assumption) jG) rfl (by omega)) ?_;exact zk0.1):G:=h ⟨k⟩
theorem zc9 (k:G') (h:Hid G'→G:=by intro zk0;refine KD.v1 rfl rfl (Val.loadP rfl rfl (jA.sl0 (Sli.own jh (by assumption) jG) (by assumption) rfl)) ?_;exact zk0.1):G:=h ⟨k⟩
theorem zef (k:G') (h:Hid G'→G:=by intro zk0;refine KD.v1 rfl rfl (Val.conv rfl rfl rfl (by simp only[qL,qH];omega)) ?_;exact zk0.1):G:=h ⟨k⟩
theorem zcx (k:G') (h:Hid G'→G:=by intro zk0;refine KD.v1 rfl rfl (Val.build jbZ rfl rfl jb5) ?_;exact zk0.1):G:=h ⟨k⟩
theorem zf3 (k:G') (h:Hid G'→G:=by intro zk0;refine KD.e rfl rfl (Eff.alloc rfl) ?_;rintro _ _ ⟨v0,rfl,rfl⟩;revert v0;exact zk0.1):G:=h ⟨k⟩
theorem zM (k:G') (h:Hid G'→G:=by intro zk0;refine KD.eN rfl (Eff.storeAL rfl rfl rfl jq jbf jbp) ?_;rintro _ _ rfl;exact zk0.1):G:=h ⟨k⟩
theorem zD (k:G') (h:Hid G'→G:=by intro zk0;refine(CallV.fn (hc0 _ ja)).mono ?_;exact zk0.1):G:=h ⟨k⟩
theorem za0 (h:G:=by exact KE.fin jd rfl jc (by first|exact ja|(simp only[jad];exact ja)) ⟨rfl,rfl⟩):G:=h
theorem zeg (k:G') (h:Hid G'→G:=by intro zk0;refine Call.enter2 (n:=20) (by kernel_rfl) Tryz.func213 rfl rfl rfl ?_;exact zk0.1):G:=h ⟨k⟩
theorem zeh (k:G') (h:Hid G'→G:=by intro zk0;refine Call.enter2 (n:=21) (by kernel_rfl) Tryz.func214 rfl rfl rfl ?_;exact zk0.1):G:=h ⟨k⟩
theorem zda (h:G:=by exact KE.fin jd rfl jc ja ⟨by rw[hd];rfl,rfl⟩):G:=h
theorem zcy (k:G') (h:Hid G'→G:=by intro zk0;refine KD.v0 rfl rfl (Val.fieldSl (k:=0) rfl rfl) ?_;exact zk0.1):G:=h ⟨k⟩
theorem zbI (k:G') (h:Hid G'→G:=by intro zk0;refine K.drawn [] [(0,0),(1,0),(2,0),(3,0),(4,0),(5,0),(6,0),(7,0),(8,0)] (by kernel_rfl) (by kernel_rfl) (by kernel_rfl) (by kernel_rfl) (by kernel_rfl) (by kernel_rfl) Part.nil ?_;exact zk0.1):G:=h ⟨k⟩
theorem zfh (k:G') (h:Hid G'→G:=by intro zk0;refine(CallV.fn rfrom_K).mono ?_;exact zk0.1):G:=h ⟨k⟩
theorem zdb (k:G') (h:Hid G'→G:=by intro zk0;refine(CallV.fn (find_K ok hk hd hs)).mono ?_;exact zk0.1):G:=h ⟨k⟩
theorem zfi (k:G') (h:Hid G'→G:=by intro zk0;refine KD.v0 rfl rfl (Val.fieldAddr0 (k:=4) rfl rfl) ?_;exact zk0.1):G:=h ⟨k⟩
theorem za1 (h:G:=by exact KE.fin jd rfl jc (by first|exact ja|(simp only[jB,jN,jV,JN];exact ja)) ⟨rfl,rfl⟩):G:=h
theorem zdc (k:G') (h:Hid G'→G:=by intro zk0;refine Call.enter4 (n:=40) (by kernel_rfl) Tryz.func111 rfl rfl rfl ?_;exact zk0.1):G:=h ⟨k⟩
theorem zbl (k:G') (h:Hid G'→G:=by intro zk0;refine(CallV.fn (hneed _)).mono ?_;exact zk0.1):G:=h ⟨k⟩
theorem zdd (k:G') (h:Hid G'→G:=by intro zk0;refine(CallV.part (CallV.fn (Class0_K okp hy)) (by simp only[jB,jN,jV,JN];exact ja)).mono ?_;exact zk0.1):G:=h ⟨k⟩
theorem zbJ (k:G') (h:Hid G'→G:=by intro zk0;refine(CallV.part (CallV.fn (place_K ok hy)) ja).mono ?_;exact zk0.1):G:=h ⟨k⟩
theorem zei (k:G') (h:Hid G'→G:=by intro zk0;refine Call.enter2 (n:=14) (by kernel_rfl) Tryz.func20 rfl rfl rfl ?_;exact zk0.1):G:=h ⟨k⟩
theorem zaO (k:G') (h:Hid G'→G:=by intro zk0;refine KD.v1 rfl rfl (Val.loadA rfl rfl rfl J1) ?_;exact zk0.1):G:=h ⟨k⟩
theorem zej (k:G') (h:Hid G'→G:=by intro zk0;refine Call.enter2 (n:=57) (by kernel_rfl) Tryz.func233 rfl rfl rfl ?_;exact zk0.1):G:=h ⟨k⟩
theorem zek (h:G:=by exact KE.fin jd rfl jc ja ⟨va,[],hA,rfl,rfl⟩):G:=h
theorem zcz (h:G:=by exact KE.fin jd rfl jc (by first|exact ja|(simp only[Jn];exact ja)) ⟨rfl,rfl⟩):G:=h
theorem zcA (h:G:=by exact KE.fin jd rfl jc (by first|exact ja|(simp only[jaG];exact ja)) ⟨rfl,rfl⟩):G:=h
theorem zb7 (k:G') (h:Hid G'→G:=by intro zk0;refine(CallV.fn (pinone_K (q:=q))).mono ?_;exact zk0.1):G:=h ⟨k⟩
theorem zcB (h:G:=by exact KE.fin jd rfl jc (by first|exact ja|(simp only[ji];exact ja)) ⟨rfl,rfl⟩):G:=h
theorem zde (k:G') (h:Hid G'→G:=by intro zk0;refine(CallV.fn (mknone_K (k:=k) (p:=p))).mono ?_;exact zk0.1):G:=h ⟨k⟩
theorem zO (h:G:=by exact Nat.le_refl _):G:=h
theorem zdf (h:G:=by exact .inl (by show t∈G2.q;rw [eq2];exact h)):G:=h
theorem zcC (k:G') (h:Hid G'→G:=by intro zk0;refine KD.v0 rfl rfl (Val.fieldSl (k:=2) rfl rfl) ?_;exact zk0.1):G:=h ⟨k⟩
theorem zbK (k:G') (h:Hid G'→G:=by intro zk0;(first|refine KD.v1 rfl rfl (Val.nilCheck rfl) ?_|refine KD.v1 rfl rfl (Val.nilCheckF rfl) ?_|refine KD.v1 rfl rfl (Val.nilCheckY rfl) ?_);exact zk0.1):G:=h ⟨k⟩
theorem zX (k:G') (h:Hid G'→G:=by intro zk0;(first|refine KD.v1 rfl rfl (Val.fieldSl (k:=0) rfl rfl) ?_|refine KD.v1 rfl rfl (Val.fieldAddr0 (k:=0) rfl rfl) ?_|refine KD.v1 rfl rfl (Val.fieldAddrZ rfl rfl) ?_|refine KD.v1 rfl rfl (Val.fieldAddr (k:=0) rfl rfl) ?_);exact zk0.1):G:=h ⟨k⟩
theorem zel (k:G') (h:Hid G'→G:=by intro zk0;(first|refine KD.v0 rfl rfl (Val.nilCheck rfl) ?_|refine KD.v0 rfl rfl (Val.nilCheckF rfl) ?_|refine KD.v0 rfl rfl (Val.nilCheckY rfl) ?_);exact zk0.1):G:=h ⟨k⟩
theorem zem (k:G') (h:Hid G'→G:=by intro zk0;(first|refine KD.v0 rfl rfl (Val.fieldSl (k:=1) rfl rfl) ?_|refine KD.v0 rfl rfl (Val.fieldAddr0 (k:=1) rfl rfl) ?_|refine KD.v0 rfl rfl (Val.fieldAddrZ rfl rfl) ?_|refine KD.v0 rfl rfl (Val.fieldAddr (k:=1) rfl rfl) ?_);exact zk0.1):G:=h ⟨k⟩
theorem zdg (k:G') (h:Hid G'→G:=by intro zk0;(first|refine KD.v0 rfl rfl (Val.fieldSl (k:=2) rfl rfl) ?_|refine KD.v0 rfl rfl (Val.fieldAddr0 (k:=2) rfl rfl) ?_|refine KD.v0 rfl rfl (Val.fieldAddrZ rfl rfl) ?_|refine KD.v0 rfl rfl (Val.fieldAddr (k:=2) rfl rfl) ?_);exact zk0.1):G:=h ⟨k⟩
theorem zdh (k:G') (h:Hid G'→G:=by intro zk0;refine KD.e rfl rfl (Eff.buildS jbZ rfl rfl rfl rfl rfl jb5) ?_;rintro _ _ ⟨v0,rfl,rfl⟩;revert v0;exact zk0.1):G:=h ⟨k⟩
theorem za2 (k:G') (h:Hid G'→G:=by intro zk0;(first|refine KD.v0 rfl rfl (Val.fieldSl (k:=0) rfl rfl) ?_|refine KD.v0 rfl rfl (Val.fieldAddr0 (k:=0) rfl rfl) ?_|refine KD.v0 rfl rfl (Val.fieldAddrZ rfl rfl) ?_|refine KD.v0 rfl rfl (Val.fieldAddr (k:=0) rfl rfl) ?_);exact zk0.1):G:=h ⟨k⟩
theorem zfj (k:G') (h:Hid G'→G:=by intro zk0;(first|(refine KD.eNX rfl (Eff.storeL rfl rfl jcb rfl jq jcZ) ?_;rintro _ _ rfl)|(refine KD.eNX rfl (Eff.stSl rfl rfl rfl rfl jh (by assumption) (by assumption) rfl rfl) ?_;rintro _ _ rfl)|(refine KD.eNX rfl (Eff.stSl0 rfl rfl rfl rfl jh (by assumption) (by assumption) rfl rfl) ?_;rintro _ _ rfl));exact zk0.1):G:=h ⟨k⟩
theorem zcD (h:G:=by exact KE.fin jd rfl jc (by first|exact ja|(simp only[sweepH_app];exact ja)) ⟨rfl,rfl⟩):G:=h
theorem zfk (k:G') (h:Hid G'→G:=by intro zk0;refine K.drawn _ [(0,0),(1,2),(2,0),(3,1),(4,1),(5,1),(6,1),(7,0),(8,0),(9,0),(10,0),(11,2),(12,0),(13,0),(14,0)] (by kernel_rfl) (by kernel_rfl) (by kernel_rfl) (by kernel_rfl) (by kernel_rfl) (by kernel_rfl) Part.all ?_;exact zk0.1):G:=h ⟨k⟩
theorem zcE (k:G') (h:Hid G'→G:=by intro zk0;refine KD.y1 rfl rfl rfl rfl (Val.move rfl) ?_;exact zk0.1):G:=h ⟨k⟩
theorem za3 (k:G') (h:Hid G'→G:=by intro zk0;refine KD.y1 rfl rfl rfl rfl (Val.loadP rfl rfl (jA.cell jq rfl)) ?_;exact zk0.1):G:=h ⟨k⟩
theorem zv (k:G') (h:Hid G'→G:=by intro zk0;refine KD.callcY rfl rfl rfl rfl rfl js ?_;exact zk0.1):G:=h ⟨k⟩
theorem zdi (k:G') (h:Hid G'→G:=by intro zk0;refine KD.noA rfl rfl rfl rfl ?_;exact zk0.1):G:=h ⟨k⟩
theorem zdj (k:G') (h:Hid G'→G:=by intro zk0;refine Nat.lt_of_le_of_lt (goes_mes hsl.1) ?_;exact zk0.1):G:=h ⟨k⟩
theorem zb8 (k:G') (h:Hid G'→G:=by intro zk0;refine(CallV.fn (hF _)).mono ?_;exact zk0.1):G:=h ⟨k⟩
theorem zbL (k:G') (h:Hid G'→G:=by intro zk0;refine K.drawn [] [(0,0),(1,0),(2,0),(3,0),(4,0),(5,0),(6,0),(7,0),(8,0),(9,0),(10,2)] (by kernel_rfl) (by kernel_rfl) (by kernel_rfl) (by kernel_rfl) (by kernel_rfl) (by kernel_rfl) Part.nil ?_;exact zk0.1):G:=h ⟨k⟩
theorem zcF (k:G') (h:Hid G'→G:=by intro zk0;refine Call.enter3 (n:=27) (by kernel_rfl) Tryz.func141 rfl rfl rfl ?_;exact zk0.1):G:=h ⟨k⟩
theorem zen (k:G') (h:Hid G'→G:=by intro zk0;refine CallV.clo (cap:=[.pointer (some ⟨b2,0,none⟩)]) ?_;exact zk0.1):G:=h ⟨k⟩
theorem zeo (k:G') (h:Hid G'→G:=by intro zk0;refine(CallV.part (CallV.fn (hhead _)) ja).mono ?_;exact zk0.1):G:=h ⟨k⟩
theorem zfl (k:G') (h:Hid G'→G:=by intro zk0;refine(CallV.part (CallV.fn (jco okp)) ja).mono ?_;exact zk0.1):G:=h ⟨k⟩
theorem zai (k:G') (h:Hid G'→G:=by intro zk0;refine KD.v0 rfl rfl (Val.loadA rfl rfl rfl J1) ?_;exact zk0.1):G:=h ⟨k⟩
theorem zar (k:G') (h:Hid G'→G:=by intro zk0;(first|refine KD.v1 rfl rfl (Val.loadAP rfl rfl rfl jc4) ?_|refine KD.v1 rfl rfl (Val.loadA rfl rfl rfl J1) ?_);exact zk0.1):G:=h ⟨k⟩
theorem zbm (k:G') (h:Hid G'→G:=by intro zk0;(first|refine KD.v1 rfl rfl (Val.fieldSl (k:=1) rfl rfl) ?_|refine KD.v1 rfl rfl (Val.fieldAddr0 (k:=1) rfl rfl) ?_|refine KD.v1 rfl rfl (Val.fieldAddrZ rfl rfl) ?_|refine KD.v1 rfl rfl (Val.fieldAddr (k:=1) rfl rfl) ?_);exact zk0.1):G:=h ⟨k⟩
theorem zaj (k:G') (h:Hid G'→G:=by intro zk0;(first|refine KD.v1 rfl rfl (Val.fieldSl (k:=2) rfl rfl) ?_|refine KD.v1 rfl rfl (Val.fieldAddr0 (k:=2) rfl rfl) ?_|refine KD.v1 rfl rfl (Val.fieldAddrZ rfl rfl) ?_|refine KD.v1 rfl rfl (Val.fieldAddr (k:=2) rfl rfl) ?_);exact zk0.1):G:=h ⟨k⟩
theorem zfm (k:G') (h:Hid G'→G:=by intro zk0;(first|refine KD.v1 rfl rfl (Val.idxSl rfl rfl rfl Jm rfl jr) ?_|refine KD.v1 rfl rfl (Val.idxSlZ rfl rfl rfl Jm rfl (by omega)) ?_|refine KD.v1 rfl rfl (Val.indexS1 rfl rfl rfl rfl (by omega)) ?_|refine KD.v1 rfl rfl (Val.indexS rfl rfl rfl rfl (by omega)) ?_|refine KD.v1 rfl rfl (Val.indexSO rfl rfl rfl rfl (by omega)) ?_|refine KD.v1 rfl rfl (Val.indexSG rfl rfl rfl rfl (by omega)) ?_);exact zk0.1):G:=h ⟨k⟩
theorem zep (k:G') (h:Hid G'→G:=by intro zk0;(first|refine KD.v1 rfl rfl (Val.add rfl rfl (by simp only[qL,qH];omega)) ?_|refine KD.v1 rfl rfl (Val.addW rfl rfl) ?_);exact zk0.1):G:=h ⟨k⟩
theorem zak (k:G') (h:Hid G'→G:=by intro zk0;refine j3.callc rfl rfl js ?_;exact zk0.1):G:=h ⟨k⟩
theorem zeq (k:G') (h:Hid G'→G:=by intro zk0;(first|(refine KD.eN rfl (Eff.storeAL rfl rfl rfl jq jbf jbp) ?_;rintro _ _ rfl;refine⟨ja,?_⟩)|(refine KD.eN rfl (Eff.stSlA rfl rfl rfl rfl jh (by assumption) (by assumption)) ?_;rintro _ _ rfl;refine⟨ja,?_⟩));exact zk0.1):G:=h ⟨k⟩
theorem zfn (h:G:=by exact KE.fin (H':=N++(D++F)) jd rfl jc ja ⟨vr',R',N,⟨hB.p.part ja,hM'⟩,hX,rfl,rfl⟩):G:=h
theorem zdk (k:G') (h:Hid G'→G:=by intro zk0;refine Call.enter3 (n:=39) (by kernel_rfl) Tryz.func240 rfl rfl rfl ?_;exact zk0.1):G:=h ⟨k⟩
theorem zdl (k:G') (h:Hid G'→G:=by intro zk0;refine K.drawn [] [(0,0),(1,0),(2,0),(3,0),(4,0),(5,0),(6,0),(7,0),(8,0),(9,0),(10,0),(11,0),(12,0),(13,0),(14,0),(15,0),(16,0),(17,0),(18,0),(19,0),(20,0),(21,0),(22,0),(23,0),(24,0),(25,0)] (by kernel_rfl) (by kernel_rfl) (by kernel_rfl) (by kernel_rfl) (by kernel_rfl) (by kernel_rfl) Part.nil ?_;exact zk0.1):G:=h ⟨k⟩
theorem za4 (k:G') (h:Hid G'→G:=by intro zk0;refine KD.v0 rfl rfl (Val.isF (Val.eql rfl rfl) jr) ?_;exact zk0.1):G:=h ⟨k⟩
theorem zaC (k:G') (h:Hid G'→G:=by intro zk0;refine KD.v0 rfl rfl (Val.isT (Val.eql rfl rfl) jr) ?_;exact zk0.1):G:=h ⟨k⟩
theorem zdm (k:G') (h:Hid G'→G:=by intro zk0;refine KD.y0 rfl rfl rfl rfl (Val.fieldAddr0 (k:=0) rfl rfl) ?_;exact zk0.1):G:=h ⟨k⟩
theorem zal (k:G') (h:Hid G'→G:=by intro zk0;refine KD.y0 rfl rfl rfl rfl (Val.fieldAddr0 (k:=2) rfl rfl) ?_;exact zk0.1):G:=h ⟨k⟩
theorem zb9 (k:G') (h:Hid G'→G:=by intro zk0;refine KD.y0 rfl rfl rfl rfl (Val.fieldAddrZ rfl rfl) ?_;exact zk0.1):G:=h ⟨k⟩
theorem zer (k:G') (h:Hid G'→G:=by intro zk0;refine KD.y0 rfl rfl rfl rfl (Val.fieldSl (k:=0) rfl rfl) ?_;exact zk0.1):G:=h ⟨k⟩
theorem zbM (k:G') (h:Hid G'→G:=by intro zk0;refine KD.y0 rfl rfl rfl rfl (Val.isT (Val.eql rfl rfl) jr) ?_;exact zk0.1):G:=h ⟨k⟩
theorem zdn (k:G') (h:Hid G'→G:=by intro zk0;refine KD.y0 rfl rfl rfl rfl (Val.fieldSl (k:=1) rfl rfl) ?_;exact zk0.1):G:=h ⟨k⟩
theorem zes (k:G') (h:Hid G'→G:=by intro zk0;refine KD.y0 rfl rfl rfl rfl (Val.isF (Val.eql rfl rfl) jr) ?_;exact zk0.1):G:=h ⟨k⟩
theorem zf4 (k:G') (h:Hid G'→G:=by intro zk0;refine(CallV.part (CallV.fn (hHas _)) ja).mono ?_;exact zk0.1):G:=h ⟨k⟩
theorem zfo (k:G') (h:Hid G'→G:=by intro zk0;refine(CallV.part (CallV.fn (rZero_K (a:=y.addr) (n:=y.size) hB.m hf.n hq (by omega) (by omega))) ja).mono ?_;exact zk0.1):G:=h ⟨k⟩
theorem zet (h:G:=by exact KE.fin jd rfl jc (by first|exact ja|(simp only[jN];exact ja)) ⟨rfl,rfl⟩):G:=h
theorem zcG (k:G') (h:Hid G'→G:=by intro zk0;refine KD.v0 rfl rfl (Val.makeFunc js js) ?_;exact zk0.1):G:=h ⟨k⟩
theorem zeu (k:G') (h:Hid G'→G:=by intro zk0;refine KD.v1 rfl rfl (Val.sub rfl rfl (by simp only[qL,qH];omega)) ?_;exact zk0.1):G:=h ⟨k⟩
theorem za5 (k:G') (h:Hid G'→G:=by intro zk0;refine(CallV.part (CallV.fn (grnone_K ok)) ja).mono ?_;exact zk0.1):G:=h ⟨k⟩
theorem zaP (k:G') (h:Hid G'→G:=by intro zk0;refine KD.v0 rfl rfl (Val.fieldAddr0 (k:=5) rfl rfl) ?_;exact zk0.1):G:=h ⟨k⟩
theorem zcI (k:G') (h:Hid G'→G:=by intro zk0;refine KD.v0 rfl rfl (Val.lenSl rfl rfl (Sli.own jh (by assumption) jG)) ?_;exact zk0.1):G:=h ⟨k⟩
theorem zdo (k:G') (h:Hid G'→G:=by intro zk0;refine KD.v0 rfl rfl (Val.fieldAddr0 (k:=7) rfl rfl) ?_;exact zk0.1):G:=h ⟨k⟩
theorem zev (k:G') (h:Hid G'→G:=by intro zk0;refine Call.enter1 (n:=28) (by kernel_rfl) Tryz.func255 rfl rfl rfl ?_;exact zk0.1):G:=h ⟨k⟩
theorem zew (k:G') (h:Hid G'→G:=by intro zk0;refine K.drawn [] [(0,0),(1,2),(2,0),(3,0),(4,0),(5,0),(6,0),(7,0),(8,0),(9,0),(10,0),(11,0),(12,0),(13,0),(14,0),(15,0),(16,0),(17,0),(18,0),(19,0),(20,0),(21,2),(22,0),(23,0),(24,0),(25,0)] (by kernel_rfl) (by kernel_rfl) (by kernel_rfl) (by kernel_rfl) (by kernel_rfl) (by kernel_rfl) Part.nil ?_;exact zk0.1):G:=h ⟨k⟩
theorem zdp (k:G') (h:Hid G'→G:=by intro zk0;refine KD.y0 rfl rfl rfl rfl (Val.fieldAddr0 (k:=5) rfl rfl) ?_;exact zk0.1):G:=h ⟨k⟩
theorem zdq (k:G') (h:Hid G'→G:=by intro zk0;refine Call.enter3 (n:=33) (by kernel_rfl) Tryz.func109 rfl rfl rfl ?_;exact zk0.1):G:=h ⟨k⟩
theorem zP (k:G') (h:Hid G'→G:=by intro zk0;refine KD.v0 rfl rfl (Val.indexA rfl rfl rfl rfl (by omega)) ?_;exact zk0.1):G:=h ⟨k⟩
theorem zdr (k:G') (h:Hid G'→G:=by intro zk0;refine K.drawn [] [(0,0),(1,0),(2,0),(3,0),(4,0),(5,0),(6,0),(7,0),(8,0),(9,0),(10,2),(11,0),(12,0)] (by kernel_rfl) (by kernel_rfl) (by kernel_rfl) (by kernel_rfl) (by kernel_rfl) (by kernel_rfl) Part.nil ?_;exact zk0.1):G:=h ⟨k⟩
theorem zds (k:G') (h:Hid G'→G:=by intro zk0;refine KD.y0 rfl rfl rfl rfl (Val.notF rfl) ?_;exact zk0.1):G:=h ⟨k⟩
theorem zex (k:G') (h:Hid G'→G:=by intro zk0;refine Call.enter2 (n:=40) (by kernel_rfl) Tryz.func37 rfl rfl rfl ?_;exact zk0.1):G:=h ⟨k⟩
theorem zca (k:G') (h:Hid G'→G:=by intro zk0;refine(CallV.part (CallV.fn (tbnone_K ok)) ja).mono ?_;exact zk0.1):G:=h ⟨k⟩
theorem zfp (k:G') (h:Hid G'→G:=by intro zk0;refine K.drawn [] [(0,0),(1,0),(2,0),(3,0),(4,0),(5,0),(6,0),(7,0),(8,0),(9,0),(10,0),(11,0)] (by kernel_rfl) (by kernel_rfl) (by kernel_rfl) (by kernel_rfl) (by kernel_rfl) (by kernel_rfl) Part.nil ?_;exact zk0.1):G:=h ⟨k⟩
theorem zfq (k:G') (h:Hid G'→G:=by intro zk0;refine KD.y0 rfl rfl rfl rfl (Val.notT rfl) ?_;exact zk0.1):G:=h ⟨k⟩
theorem zcb (k:G') (h:Hid G'→G:=by intro zk0;refine KD.v0 rfl rfl (Val.isF (Val.geq rfl rfl) jr) ?_;exact zk0.1):G:=h ⟨k⟩
theorem zfr (h:G:=by exact KE.again ⟨i+1⟩ (by dsimp only;rw [hct];exact jg) ja hlt (by show R.length-(i+1)<R.length-i;omega)):G:=h
theorem zfs (k:G') (h:Hid G'→G:=by intro zk0;refine K.drawn _ [(0,0),(1,1),(2,2),(3,2),(4,0)] (by kernel_rfl) (by kernel_rfl) (by kernel_rfl) (by kernel_rfl) (by kernel_rfl) (by kernel_rfl) (Part.takeA jP.head (Part.take jH.head (Part.take jH.head (Part.take jH.head (Part.take jH.head (Part.drop (Part.drop Part.all))))))) ?_;exact zk0.1):G:=h ⟨k⟩
theorem zft (k:G') (h:Hid G'→G:=by intro zk0;refine K.drawn [] [(0,0),(1,0),(2,0),(3,0),(4,0),(5,0),(6,0),(7,0),(8,0),(9,0),(10,2),(11,0)] (by kernel_rfl) (by kernel_rfl) (by kernel_rfl) (by kernel_rfl) (by kernel_rfl) (by kernel_rfl) Part.nil ?_;exact zk0.1):G:=h ⟨k⟩
theorem zfu (h:G:=by exact KE.fin jd rfl jc (by first|exact ja|(simp only[JN];exact ja)) ⟨rfl,rfl⟩):G:=h
theorem zdt (k:G') (h:Hid G'→G:=by intro zk0;refine(CallV.part (CallV.fn (hlies _)) ja).mono ?_;exact zk0.1):G:=h ⟨k⟩
theorem zey (k:G') (h:Hid G'→G:=by intro zk0;refine Call.enter3 (n:=33) (by kernel_rfl) Tryz.func293 rfl rfl rfl ?_;exact zk0.1):G:=h ⟨k⟩
theorem zez (k:G') (h:Hid G'→G:=by intro zk0;refine Call.enter4 (n:=40) (by kernel_rfl) Tryz.func224 rfl rfl rfl ?_;exact zk0.1):G:=h ⟨k⟩
theorem zdu (k:G') (h:Hid G'→G:=by intro zk0;refine(CallV.part (CallV.fn (hst _)) ja).mono ?_;exact zk0.1):G:=h ⟨k⟩
theorem zeA (k:G') (h:Hid G'→G:=by intro zk0;refine Call.enter2 (n:=28) (by kernel_rfl) Tryz.func36 rfl rfl rfl ?_;exact zk0.1):G:=h ⟨k⟩
theorem zfv (k:G') (h:Hid G'→G:=by intro zk0;refine K.drawn [] [(0,0),(1,0),(2,0),(3,0),(4,0),(5,0),(6,0),(7,0),(8,0),(9,0),(10,0),(11,2)] (by kernel_rfl) (by kernel_rfl) (by kernel_rfl) (by kernel_rfl) (by kernel_rfl) (by kernel_rfl) Part.nil ?_;exact zk0.1):G:=h ⟨k⟩
theorem zfw (h:G:=by exact KE.fin jd rfl jc (by first|exact ja|(simp only[ji,seenH_app];exact ja)) ⟨rfl,rfl⟩):G:=h
theorem zfx (k:G') (h:Hid G'→G:=by intro zk0;refine K.drawn _ [(0,1),(1,1),(2,1),(3,1),(4,0),(5,2),(6,0)] (by kernel_rfl) (by kernel_rfl) (by kernel_rfl) (by kernel_rfl) (by kernel_rfl) (by kernel_rfl) Part.all ?_;exact zk0.1):G:=h ⟨k⟩
theorem zcJ (k:G') (h:Hid G'→G:=by intro zk0;refine KD.v1 rfl rfl (Val.fieldAddr0 (k:=7) rfl rfl) ?_;exact zk0.1):G:=h ⟨k⟩
theorem zdv (k:G') (h:Hid G'→G:=by intro zk0;refine(CallV.part (CallV.fn (hroots _)) (by first|exact ja|(simp only[ji,seenH_app];exact ja))).mono ?_;exact zk0.1):G:=h ⟨k⟩
theorem zbn (k:G') (h:Hid G'→G:=by intro zk0;refine(CallV.part (CallV.fn (hsh _)) ja).mono ?_;exact zk0.1):G:=h ⟨k⟩
theorem zcc (h:G:=by exact KE.fin (H':=jk k B.p++(planH B.p++(seenH B T N++F))) jd rfl jc (by first|exact ja|(simp only[ji,seenH_app];exact ja)) ⟨rfl,k,ok,MkTo.refl k,hR,by simp only[ji,seenH_app]⟩):G:=h
theorem zfy (h:G:=by exact KE.meet ⟨b5⟩ jg (by first|exact ja|(simp only[ji,seenH_app];exact ja)) trivial):G:=h
theorem zfz (h:G:=by exact KE.meet ⟨k⟩ jg (by first|exact ja|(simp only[ji,seenH_app];exact ja)) ⟨ok,MkTo.refl k,hR⟩):G:=h
theorem zdw (k:G') (h:Hid G'→G:=by intro zk0;refine KD.v0 rfl rfl (Val.isF (Val.neq rfl rfl) jr) ?_;exact zk0.1):G:=h ⟨k⟩
theorem zbo (k:G') (h:Hid G'→G:=by intro zk0;refine KD.y0 rfl rfl rfl rfl (Val.loadP rfl rfl (jA.sl (Sli.own jh (by assumption) jG) (by assumption) rfl)) ?_;exact zk0.1):G:=h ⟨k⟩
theorem zcK (k:G') (h:Hid G'→G:=by intro zk0;refine K.drawn [] [(0,0),(1,0),(2,0),(3,0),(4,0),(5,0),(6,0),(7,0),(8,2)] (by kernel_rfl) (by kernel_rfl) (by kernel_rfl) (by kernel_rfl) (by kernel_rfl) (by kernel_rfl) Part.nil ?_;exact zk0.1):G:=h ⟨k⟩
theorem zfA (h:G:=by exact KE.fin jd rfl jc (by first|exact ja|(simp only[ji,seenH_app];exact ja)) (.inl ⟨hq,rfl,rfl⟩)):G:=h
theorem za6 (k:G') (h:Hid G'→G:=by intro zk0;refine Call.enter3 (n:=69) (by kernel_rfl) Tryz.func133 rfl rfl rfl ?_;exact zk0.1):G:=h ⟨k⟩
theorem zf5 (k:G') (h:Hid G'→G:=by intro zk0;refine(CallV.part (CallV.fn (hac _)) ja).mono ?_;exact zk0.1):G:=h ⟨k⟩
theorem zdx (k:G') (h:Hid G'→G:=by intro zk0;refine K.drawn (_) [(0,1),(1,1),(2,1),(3,1),(4,1),(5,1),(7,1),(6,3),(8,1),(9,2),(10,0),(11,2)] (by kernel_rfl) (by kernel_rfl) (by kernel_rfl) (by kernel_rfl) (by kernel_rfl) (by kernel_rfl) ja ?_;exact zk0.1):G:=h ⟨k⟩
theorem zdy (k:G') (h:Hid G'→G:=by intro zk0;(first|refine KD.v1 rfl rfl (Val.fieldSl (k:=6) rfl rfl) ?_|refine KD.v1 rfl rfl (Val.fieldAddr0 (k:=6) rfl rfl) ?_|refine KD.v1 rfl rfl (Val.fieldAddrZ rfl rfl) ?_|refine KD.v1 rfl rfl (Val.fieldAddr (k:=6) rfl rfl) ?_);exact zk0.1):G:=h ⟨k⟩
theorem zf6 (k:G') (h:Hid G'→G:=by intro zk0;refine(CallV.fn micros_K).mono ?_;exact zk0.1):G:=h ⟨k⟩
theorem zdz (k:G') (h:Hid G'→G:=by intro zk0;(first|refine KD.v1 rfl rfl (Val.indexV (off:=3) rfl rfl rfl rfl rfl (by omega) rfl jbJ) ?_|refine KD.v1 rfl rfl (Val.indexV (off:=6) rfl rfl rfl rfl rfl (by omega) rfl jbJ) ?_|refine KD.v1 rfl rfl (Val.indexV (off:=9) rfl rfl rfl rfl rfl (by omega) rfl jbJ) ?_|refine KD.v1 rfl rfl (Val.indexV (off:=12) rfl rfl rfl rfl rfl (by omega) rfl jbJ) ?_);exact zk0.1):G:=h ⟨k⟩
theorem zf7 (h:G:=by exact KE.meet ⟨b8⟩ jg (by first|exact ja|(simp only[ji,seenH_app];exact ja)) trivial):G:=h
theorem zdA (k:G') (h:Hid G'→G:=by intro zk0;(first|refine KD.v0 rfl rfl (Val.indexV (off:=3) rfl rfl rfl rfl rfl (by omega) rfl jbJ) ?_|refine KD.v0 rfl rfl (Val.indexV (off:=6) rfl rfl rfl rfl rfl (by omega) rfl jbJ) ?_|refine KD.v0 rfl rfl (Val.indexV (off:=9) rfl rfl rfl rfl rfl (by omega) rfl jbJ) ?_|refine KD.v0 rfl rfl (Val.indexV (off:=12) rfl rfl rfl rfl rfl (by omega) rfl jbJ) ?_);exact zk0.1):G:=h ⟨k⟩
theorem zf8 (k:G') (h:Hid G'→G:=by intro zk0;refine K.drawn [] [(0,0),(1,0),(2,0),(3,0),(4,0),(5,0),(6,0),(7,0),(8,0),(9,0),(10,0),(11,0),(12,0),(13,0),(14,0),(15,0),(16,0),(17,2),(18,0),(19,0)] (by kernel_rfl) (by kernel_rfl) (by kernel_rfl) (by kernel_rfl) (by kernel_rfl) (by kernel_rfl) Part.nil ?_;exact zk0.1):G:=h ⟨k⟩
theorem zfB (k:G') (h:Hid G'→G:=by intro zk0;refine(CallV.part (CallV.fn (hsk _)) (by first|exact ja|(simp only[ji,seenH_app];exact ja))).mono ?_;exact zk0.1):G:=h ⟨k⟩
theorem zcd (k:G') (h:Hid G'→G:=by intro zk0;refine KD.y0 rfl rfl rfl rfl (Val.fieldSl (k:=2) rfl rfl) ?_;exact zk0.1):G:=h ⟨k⟩
theorem zce (k:G') (h:Hid G'→G:=by intro zk0;refine KD.y0 rfl rfl rfl rfl (Val.neqB rfl rfl rfl) ?_;exact zk0.1):G:=h ⟨k⟩
theorem zcL (h:G:=by exact KE.fin (H':=jk k B.p++(planH B.p++(seenH B T N++F))) jd rfl jc (by first|exact ja|(simp only[ji,seenH_app];exact ja)) ⟨rfl,k,ok,MkTo.refl k,hR,by simp only[ji,seenH_app,ha]⟩):G:=h
theorem zdB (k:G') (h:Hid G'→G:=by intro zk0;refine Call.enter4 (n:=35) (by kernel_rfl) Tryz.func241 rfl rfl rfl ?_;exact zk0.1):G:=h ⟨k⟩
theorem zeB (k:G') (h:Hid G'→G:=by intro zk0;refine Call.enter3 (n:=49) (by kernel_rfl) Tryz.func236 rfl rfl rfl ?_;exact zk0.1):G:=h ⟨k⟩
theorem zcM (h:G:=by exact KE.fin jd rfl jc ja ⟨vr,R,[],hB,hself,rfl,rfl⟩):G:=h
theorem zeC (k:G') (h:Hid G'→G:=by intro zk0;refine(CallV.part (CallV.fn (rtOf_K hC hc hl)) ja).mono ?_;exact zk0.1):G:=h ⟨k⟩
theorem zeD (k:G') (h:Hid G'→G:=by intro zk0;refine Call.enter3 (n:=32) (by kernel_rfl) Tryz.func166 rfl rfl rfl ?_;exact zk0.1):G:=h ⟨k⟩
theorem zcN (k:G') (h:Hid G'→G:=by intro zk0;refine(CallV.part (CallV.fn (hfld _)) ja).mono ?_;exact zk0.1):G:=h ⟨k⟩
theorem zdC (k:G') (h:Hid G'→G:=by intro zk0;refine Call.enter4 (n:=45) (by kernel_rfl) Tryz.func225 rfl rfl rfl ?_;exact zk0.1):G:=h ⟨k⟩
theorem zdD (k:G') (h:Hid G'→G:=by intro zk0;(first|refine KD.v1 rfl rfl (Val.lenSl rfl rfl Jm) ?_|refine KD.v1 rfl rfl (Val.lenS rfl rfl) ?_);exact zk0.1):G:=h ⟨k⟩
theorem zdE (k:G') (h:Hid G'→G:=by intro zk0;refine(CallV.part (CallV.fn (hcop _)) ja).mono ?_;exact zk0.1):G:=h ⟨k⟩
theorem zdF (k:G') (h:Hid G'→G:=by intro zk0;refine Call.enter1 (n:=17) (by kernel_rfl) Tryz.func308 rfl rfl rfl ?_;exact zk0.1):G:=h ⟨k⟩
theorem zcO (k:G') (h:Hid G'→G:=by intro zk0;(first|refine KD.v0 rfl rfl (Val.loadAP rfl rfl rfl jc4) ?_|refine KD.v0 rfl rfl (Val.loadA rfl rfl rfl J1) ?_);exact zk0.1):G:=h ⟨k⟩
theorem zcP (k:G') (h:Hid G'→G:=by intro zk0;refine KD.v0 rfl rfl (Val.fieldAddr0 (k:=9) rfl rfl) ?_;exact zk0.1):G:=h ⟨k⟩
theorem zcQ (k:G') (h:Hid G'→G:=by intro zk0;refine KD.v0 rfl rfl (Val.fieldAddr0 (k:=10) rfl rfl) ?_;exact zk0.1):G:=h ⟨k⟩
theorem zfC (h:G:=by exact KE.fin jd rfl jc (by first|exact ja|(simp only[jB,jN,arenaH_app];exact ja)) ⟨rfl,rfl⟩):G:=h
theorem zcR (k:G') (h:Hid G'→G:=by intro zk0;refine KD.v1 rfl rfl (Val.fieldAddr0 (k:=2) rfl rfl) ?_;exact zk0.1):G:=h ⟨k⟩
theorem zeE (k:G') (h:Hid G'→G:=by intro zk0;refine(CallV.part (CallV.fn (arnone_K (a:=a) (p:=p))) ja).mono ?_;exact zk0.1):G:=h ⟨k⟩
theorem zeF (h:G:=by exact KE.fin jd rfl jc (by first|exact ja|(simp only[jB,jN,arenaH_app];exact ja)) ⟨rfl,a,ok,rfl,rfl,rfl,rfl⟩):G:=h
theorem zcS (k:G') (h:Hid G'→G:=by intro zk0;refine hyl _ _ _ _ _ (ParS.cons rfl ParS.nil) jq ?_;exact zk0.1):G:=h ⟨k⟩
theorem zfD (k:G') (h:Hid G'→G:=by intro zk0;refine K.drawn _ [(0,1),(1,1),(2,1),(3,1),(4,0),(5,2),(6,0),(7,0),(8,0),(9,0),(10,0),(11,0),(12,2),(13,0),(14,2)] (by kernel_rfl) (by kernel_rfl) (by kernel_rfl) (by kernel_rfl) (by kernel_rfl) (by kernel_rfl) (Part.take jH.head (Part.drop Part.all)) ?_;exact zk0.1):G:=h ⟨k⟩
theorem zfE (h:G:=by exact KE.fin (H':=jk k B.p++(planH B.p++(seenH B T N++F))) jd rfl jc (by first|exact ja|(simp only[ji,seenH_app];exact ja)) ⟨rfl,by simp only[ji,seenH_app]⟩):G:=h
theorem za7 (h:G:=by exact KE.fin jd rfl jc ja ⟨q,[],hK,rfl,rfl⟩):G:=h
theorem zdG (h:G:=by exact KE.fin jd rfl jc ja ⟨q',N,hK',rfl,rfl⟩):G:=h
theorem zcf (k:G') (h:Hid G'→G:=by intro zk0;refine KD.y0 rfl rfl rfl rfl (Val.isF (Val.neq rfl rfl) jr) ?_;exact zk0.1):G:=h ⟨k⟩
theorem zeG (k:G') (h:Hid G'→G:=by intro zk0;refine Call.enter1 (n:=12) (by kernel_rfl) Tryz.func66 rfl rfl rfl ?_;exact zk0.1):G:=h ⟨k⟩
theorem zG (h:G:=by exact KE.fin jd rfl jc (by first|exact ja|(simp only[cycH_app,seenH_app];exact ja)) ⟨rfl,rfl⟩):G:=h
theorem zeH (k:G') (h:Hid G'→G:=by intro zk0;refine Call.enter1 (n:=9) (by kernel_rfl) Tryz.func30 rfl rfl rfl ?_;exact zk0.1):G:=h ⟨k⟩
theorem zcg (k:G') (h:Hid G'→G:=by intro zk0;refine(CallV.part (CallV.fn cynone_K) ja).mono ?_;exact zk0.1):G:=h ⟨k⟩
theorem zfF (k:G') (h:Hid G'→G:=by intro zk0;refine(CallV.part (CallV.fn (hs2 _)) (by first|exact ja|(simp only[ji,seenH_app];exact ja))).mono ?_;exact zk0.1):G:=h ⟨k⟩
theorem zfG (k:G') (h:Hid G'→G:=by intro zk0;refine(CallV.part (CallV.fn (hs1 _)) (by first|exact ja|(simp only[ji,seenH_app];exact ja))).mono ?_;exact zk0.1):G:=h ⟨k⟩
theorem zcT (k:G') (h:Hid G'→G:=by intro zk0;refine Call.enter1 (n:=41) (by kernel_rfl) Tryz.func132 rfl rfl rfl ?_;exact zk0.1):G:=h ⟨k⟩
theorem zdH (k:G') (h:Hid G'→G:=by intro zk0;refine(CallV.part (CallV.fn (hdone _)) ja).mono ?_;exact zk0.1):G:=h ⟨k⟩
theorem zcU (h:G:=by exact KE.finN jd rfl jc (by first|exact ja|(simp only[cycH_app,seenH_app];exact ja)) ⟨rfl,rfl⟩):G:=h
theorem zeI (k:G') (h:Hid G'→G:=by intro zk0;refine Call.enter2 (n:=16) (by kernel_rfl) Tryz.func67 rfl rfl rfl ?_;exact zk0.1):G:=h ⟨k⟩
theorem zfH (h:G:=by exact KE.again ⟨j+1,oL2,o6,o'⟩ jg (by rw[plnHp_app];simp only[hDn];exact ja) ⟨hj,by simp only[hDn];exact kL2,ok6,ok'⟩ (by show g.pgs k-(j+1)<g.pgs k-j;omega)):G:=h
theorem zch (k:G') (h:Hid G'→G:=by intro zk0;refine(CallV.fn (htot _ ja)).mono ?_;exact zk0.1):G:=h ⟨k⟩
theorem zcV (k:G') (h:Hid G'→G:=by intro zk0;refine Call.enter1 (n:=28) (by kernel_rfl) Tryz.func68 rfl rfl rfl ?_;exact zk0.1):G:=h ⟨k⟩
theorem zdI (k:G') (h:Hid G'→G:=by intro zk0;refine Call.enter3 (n:=27) (by kernel_rfl) Tryz.func135 rfl rfl rfl ?_;exact zk0.1):G:=h ⟨k⟩
theorem zci (k:G') (h:Hid G'→G:=by intro zk0;refine Call.enter3 (n:=15) (by kernel_rfl) Tryz.func16 rfl rfl rfl ?_;exact zk0.1):G:=h ⟨k⟩
theorem zdJ (k:G') (h:Hid G'→G:=by intro zk0;refine(CallV.part (CallV.fn (cywork1_K (h.ph.trans h1))) ja).mono ?_;exact zk0.1):G:=h ⟨k⟩
theorem zdK (k:G') (h:Hid G'→G:=by intro zk0;refine(CallV.part (CallV.bound (first:=[.pointer (some ⟨y.k.b,0,none⟩)]) (hstep _)) (by simp only[cycH_app];exact ja)).mono ?_;exact zk0.1):G:=h ⟨k⟩
theorem zcj (k:G') (h:Hid G'→G:=by intro zk0;refine(CallV.fn cymade_E).mono ?_;exact zk0.1):G:=h ⟨k⟩
theorem zfI (h:G:=by exact KE.fin (H':=cycH {y with k:=k'}++F) jd rfl jc (by simp only[cycH_app,kto.b];exact ja) ⟨rfl,_,hR k' kok kto kR,hT k' kto,rfl⟩):G:=h
theorem zeJ (k:G') (h:Hid G'→G:=by intro zk0;refine(CallV.part (CallV.fn (cywork2_K (h.ph.trans h2))) ja).mono ?_;exact zk0.1):G:=h ⟨k⟩
theorem zfJ (h:G:=by exact⟨c,by show(goesC g {s with m:=m',st:=s.st+1}).W.T=_;rw [a],by show(goesC g {s with m:=m',st:=s.st+1}).W.N=_;rw [a]⟩):G:=h
theorem zfK (h:G:=by exact⟨c.trans e1,by show(goesC g {q with st:=q.st+1}).W.T=_;rw [a];exact e2,by show(goesC g {q with st:=q.st+1}).W.N=_;rw [a];exact e3⟩):G:=h
theorem zeK (k:G') (h:Hid G'→G:=by intro zk0;refine Call.enter1 (n:=23) (by kernel_rfl) Tryz.func24 rfl rfl rfl ?_;exact zk0.1):G:=h ⟨k⟩
theorem zf9 (k:G') (h:Hid G'→G:=by intro zk0;refine(CallV.part (CallV.fn (cynone_K (y:=y))) ja).mono ?_;exact zk0.1):G:=h ⟨k⟩
theorem zdL (k:G') (h:Hid G'→G:=by intro zk0;refine(CallV.part (CallV.fn (hno _)) ja).mono ?_;exact zk0.1):G:=h ⟨k⟩
theorem zeL (k:G') (h:Hid G'→G:=by intro zk0;refine Call.enter1 (n:=37) (by kernel_rfl) Tryz.func21 rfl rfl rfl ?_;exact zk0.1):G:=h ⟨k⟩
theorem zdM (k:G') (h:Hid G'→G:=by intro zk0;refine Call.enter2 (n:=34) (by kernel_rfl) Tryz.func18 rfl rfl rfl ?_;exact zk0.1):G:=h ⟨k⟩
theorem zeM (k:G') (h:Hid G'→G:=by intro zk0;refine Call.enter2 (n:=13) (by kernel_rfl) Tryz.func19 rfl rfl rfl ?_;exact zk0.1):G:=h ⟨k⟩
theorem zdN (k:G') (h:Hid G'→G:=by intro zk0;refine(CallV.part (CallV.fn (hbl _)) ja).mono ?_;exact zk0.1):G:=h ⟨k⟩
theorem zdO (k:G') (h:Hid G'→G:=by intro zk0;refine Call.enter3 (n:=143) (by kernel_rfl) Tryz.func12 rfl rfl rfl ?_;exact zk0.1):G:=h ⟨k⟩
theorem zbN (k:G') (h:Hid G'→G:=by intro zk0;refine Call.at_ (hc _) (by simp only[cycH_app];exact ja) ?_;exact zk0.1):G:=h ⟨k⟩
theorem zfL (h:G:=by exact⟨_,⟨hr,_,h.pin kN eb el hi,⟨rfl,(jaQ h.p.bo).symm,rfl,rfl,rfl,eb,⟨rfl,rfl,rfl,rfl,rfl,rfl⟩,rfl,rfl,rfl⟩,rfl⟩,by simp only[cycH_app,eb];exact ja⟩):G:=h
theorem zfM (h:G:=by exact KE.fin (H':=(N2++N1)++(D++F)) jd rfl jc (by simp only[List.append_assoc];exact ja) ⟨q',N2++N1,by simp only[List.append_assoc];exact hK2,rfl,by simp only[List.append_assoc]⟩):G:=h
theorem zcW (k:G') (h:Hid G'→G:=by intro zk0;refine Call.enter2 (n:=63) (by kernel_rfl) Tryz.func274 rfl rfl rfl ?_;exact zk0.1):G:=h ⟨k⟩
theorem zcX (k:G') (h:Hid G'→G:=by intro zk0;refine K.drawn _ [(0,1),(1,1),(2,0),(3,2),(4,0)] (by kernel_rfl) (by kernel_rfl) (by kernel_rfl) (by kernel_rfl) (by kernel_rfl) (by kernel_rfl) Part.all ?_;exact zk0.1):G:=h ⟨k⟩
theorem zcY (k:G') (h:Hid G'→G:=by intro zk0;refine KD.v1 rfl rfl (Val.fieldAddr0 (k:=13) rfl rfl) ?_;exact zk0.1):G:=h ⟨k⟩
theorem zbO (k:G') (h:Hid G'→G:=by intro zk0;refine(CallV.part (CallV.fn (hroots _)) ja).mono ?_;exact zk0.1):G:=h ⟨k⟩
theorem zga (k:G') (h:Hid G'→G:=by intro zk0;refine(CallV.part (CallV.fn (hrf _)) ja).mono ?_;exact zk0.1):G:=h ⟨k⟩
theorem zdP (h:G:=by exact KE.meet ⟨q,[]⟩ jg (by rw[hso];unfold kmL;exact ja) (by rw[hso];exact hK)):G:=h
theorem zfN (h:G:=by exact KE.fin (H':=(N3++(N2++N1))++(D++F)) jd rfl jc (by simp only[List.append_assoc];exact ja) ⟨q2,N3++(N2++N1),by simp only[List.append_assoc];exact hK2,rfl,by simp only[List.append_assoc]⟩):G:=h
theorem zas (k:G') (h:Hid G'→G:=by intro zk0;refine Call.enter4 (n:=69) (by kernel_rfl) Tryz.func237 rfl rfl rfl ?_;exact zk0.1):G:=h ⟨k⟩
theorem zbp (k:G') (h:Hid G'→G:=by intro zk0;refine(CallV.part (CallV.fn (hcl _)) ja).mono ?_;exact zk0.1):G:=h ⟨k⟩
theorem zdQ (h:G:=by exact KE.fin jd rfl jc ja ⟨q,[],hK,by first|rfl|(rw [hact];rfl),rfl⟩):G:=h
theorem zdR (h:G:=by exact KE.fin jd rfl jc ja ⟨q',N,hK'.up,rfl,rfl⟩):G:=h
theorem zdS (h:G:=by exact KE.fin jd rfl jc ja ⟨q,[],hK,by first|rfl|(rw [ha];rfl),rfl⟩):G:=h
theorem zgb (k:G') (h:Hid G'→G:=by intro zk0;refine K.drawn _ [(0,0),(1,0),(2,0),(3,1),(4,1),(5,0),(6,2),(7,0),(8,0),(9,0),(10,0),(11,0),(12,2),(13,0),(14,0)] (by kernel_rfl) (by kernel_rfl) (by kernel_rfl) (by kernel_rfl) (by kernel_rfl) (by kernel_rfl) Part.all ?_;exact zk0.1):G:=h ⟨k⟩
theorem zeN (k:G') (h:Hid G'→G:=by intro zk0;refine KD.y0 rfl rfl rfl rfl (Val.loadA rfl rfl rfl J1) ?_;exact zk0.1):G:=h ⟨k⟩
theorem zck (k:G') (h:Hid G'→G:=by intro zk0;refine(CallV.part (CallV.fn (hnew _)) ja).mono ?_;exact zk0.1):G:=h ⟨k⟩
theorem zcZ (k:G') (h:Hid G'→G:=by intro zk0;refine Call.enter1 (n:=35) (by kernel_rfl) Tryz.func242 rfl rfl rfl ?_;exact zk0.1):G:=h ⟨k⟩
theorem zeO (h:G:=by exact KE.fin (H':=D++F) jd rfl jc ja ⟨⟨va,z,q,vd⟩,[],h,rfl,rfl⟩):G:=h
theorem zc0 (k:G') (h:Hid G'→G:=by intro zk0;refine(CallV.part (CallV.fn (hstep _)) ja).mono ?_;exact zk0.1):G:=h ⟨k⟩
theorem zdT (k:G') (h:Hid G'→G:=by intro zk0;refine Call.enter1 (n:=44) (by kernel_rfl) Tryz.func92 rfl rfl rfl ?_;exact zk0.1):G:=h ⟨k⟩
theorem zdU (h:G:=by exact KE.fin (H':=(N'++N)++(D++F)) jd rfl jc (by simp only[List.append_assoc];exact ja) ⟨d',N'++N,by rw[List.append_assoc];exact hd',rfl,rfl⟩):G:=h
theorem zbq (h:G:=by exact KE.fin (H':=D++F) jd rfl jc ja ⟨d,[],h,rfl,rfl⟩):G:=h
theorem zbP (k:G') (h:Hid G'→G:=by intro zk0;refine Call.enter3 (n:=66) (by kernel_rfl) Tryz.func164 rfl rfl rfl ?_;exact zk0.1):G:=h ⟨k⟩
theorem zfO (h:G:=by exact KE.again ⟨i+1,v',N'++N⟩ (by dsimp only;rw [hn2];exact jg) (by simp only[List.append_assoc];exact ja) ⟨hlt,by dsimp only;rw [List.append_assoc];exact hS',hv'⟩ (by show L.length-(i+1)<L.length-i;omega)):G:=h
theorem zeP (h:G:=by exact KE.fin (H':=N++(D++F)) jd rfl jc ja ⟨⟨d.va,d.z,q',d.vd⟩,N,hD q' N hK',rfl,rfl⟩):G:=h
theorem zdV (k:G') (h:Hid G'→G:=by intro zk0;refine Call.enter2 (n:=33) (by kernel_rfl) Tryz.func88 rfl rfl rfl ?_;exact zk0.1):G:=h ⟨k⟩
theorem zeQ (k:G') (h:Hid G'→G:=by intro zk0;refine Call.enter2 (n:=106) (by kernel_rfl) Tryz.func163 rfl rfl rfl ?_;exact zk0.1):G:=h ⟨k⟩
theorem zfP (h:G:=by exact KE.fin (H':=wcH X++F) jd rfl jc (by rw[wcH_app];simp only[List.append_assoc];exact ja) ⟨X,hX,rfl,rfl,rfl,rfl,rfl⟩):G:=h
theorem zc1 (k:G') (h:Hid G'→G:=by intro zk0;refine Call.enter1 (n:=9) (by kernel_rfl) Tryz.func17 rfl rfl rfl ?_;exact zk0.1):G:=h ⟨k⟩
theorem zeR (k:G') (h:Hid G'→G:=by intro zk0;refine Call.enter1 (n:=18) (by kernel_rfl) Tryz.func15 rfl rfl rfl ?_;exact zk0.1):G:=h ⟨k⟩
theorem zfQ (k:G') (h:Hid G'→G:=by intro zk0;refine K.loopT (σ:=SmQ) [(0,_),(1,_)] (fun s kp_=>(5, .int .i64 (s.k:Nat))::kp_) (fun s=>H) (fun s=>s.k≤l.length∧l.take s.k=m.take s.k) (fun s=>l.length-s.k) (⟨0⟩) jg ja (⟨Nat.zero_le _,rfl⟩) ?_;exact zk0.1):G:=h ⟨k⟩
theorem zfR (h:G:=by exact KE.again ⟨k+1⟩ jg ja ⟨hlt,take_eq he hx hy⟩ (by show l.length-(k+1)<l.length-k;omega)):G:=h
theorem zdW (h:G:=by exact KE.fin jd rfl jc ja ⟨by rw[decide_eq_false hne2];rfl,rfl⟩):G:=h
theorem zfS (h:G:=by exact KE.fin (H':=wcH ⟨y',v,d',N++D⟩++F) jd rfl jc (by simp only[wcH_app,List.append_assoc];exact ja) ⟨⟨y',v,d',N++D⟩,hto y' d' N hp' o1 hd',o1.b,o1.mb,o1.nw,by dsimp only;rw [o1.b,o1.mb];rfl,rfl⟩):G:=h
theorem zc2 (k:G') (h:Hid G'→G:=by intro zk0;refine Call.enter1 (n:=85) (by kernel_rfl) Tryz.func10 rfl rfl rfl ?_;exact zk0.1):G:=h ⟨k⟩
theorem zc3 (k:G') (h:Hid G'→G:=by intro zk0;refine(CallV.fn (hsm _ ja)).mono ?_;exact zk0.1):G:=h ⟨k⟩
theorem zdX (k:G') (h:Hid G'→G:=by intro zk0;refine KD.y0 rfl rfl rfl rfl (Val.neqPN rfl rfl rfl) ?_;exact zk0.1):G:=h ⟨k⟩
theorem zbr (h:G:=by exact this.mono fun _ _ hh=>⟨hh.1,h.to hh.2⟩):G:=h
theorem zcl (k:G') (h:Hid G'→G:=by intro zk0;refine Call.enter2 (n:=88) (by kernel_rfl) Tryz.func155 rfl rfl rfl ?_;exact zk0.1):G:=h ⟨k⟩
theorem zgc (k:G') (h:Hid G'→G:=by intro zk0;refine(CallV.part (CallV.fn (hn1 _)) ja).mono ?_;exact zk0.1):G:=h ⟨k⟩
theorem zc4 (h:G:=by exact KE.fin (H':=wcH X++F) jd rfl jc ja ⟨X,hX,rfl,rfl,rfl,rfl,rfl⟩):G:=h
theorem zdY (k:G') (h:Hid G'→G:=by intro zk0;refine(CallV.part (CallV.fn (htv _)) ja).mono ?_;exact zk0.1):G:=h ⟨k⟩
theorem zfT (h:G:=by exact KE.meet ⟨X1,shdC g long z (od:Nat)⟩ jg ja ⟨hX1,by unfold shdO;rw [if_pos hold0],e1,e2,e3⟩):G:=h
theorem zfU (h:G:=by exact KE.meet ⟨X,z⟩ jg (by rw[wcH_app];exact ja) ⟨hX,by unfold shdO;rw [if_neg hold0],rfl,rfl,rfl⟩):G:=h
theorem zfV (k:G') (h:Hid G'→G:=by intro zk0;(first|refine K.seq (K.drawn ((b3,cells [.int .u8 (a.w:Nat), .int .i64 a.n, .int .i64 a.i, .int .i64 a.t] 162)::[]) [(0,0),(1,0),(3,1),(4,1),(5,1),(6,1),(2,2),(7,2)] (by kernel_rfl) (by kernel_rfl) (by kernel_rfl) (by kernel_rfl) (by kernel_rfl) (by kernel_rfl) ja ?_)|refine K.seq (K.seq (K.drawn ((b3,cells [.int .u8 (a.w:Nat), .int .i64 a.n, .int .i64 a.i, .int .i64 a.t] 162)::[]) [(0,0),(1,0),(3,1),(4,1),(5,1),(6,1),(2,2),(7,2)] (by kernel_rfl) (by kernel_rfl) (by kernel_rfl) (by kernel_rfl) (by kernel_rfl) (by kernel_rfl) ja ?_))|refine K.drawn ((b3,cells [.int .u8 (a.w:Nat), .int .i64 a.n, .int .i64 a.i, .int .i64 a.t] 162)::[]) [(0,0),(1,0),(3,1),(4,1),(5,1),(6,1),(2,2),(7,2)] (by kernel_rfl) (by kernel_rfl) (by kernel_rfl) (by kernel_rfl) (by kernel_rfl) (by kernel_rfl) ja ?_);exact zk0.1):G:=h ⟨k⟩
theorem zfW (h:G:=by exact KE.fin (H':=wcH ⟨y',v,_,N++D⟩++F) jd rfl jc (by simp only[wcH_app,List.append_assoc];exact ja) ⟨_,hX',o1.b,o1.mb,o1.nw,by dsimp only;rw [o1.b,o1.mb];rfl,rfl⟩):G:=h
theorem zdZ (k:G') (h:Hid G'→G:=by intro zk0;refine(CallV.part (CallV.fn (hs1 _)) ja).mono ?_;exact zk0.1):G:=h ⟨k⟩
theorem zfX (h:G:=by exact KE.fin (H':=wcH X++F) jd rfl jc (by rw[wcH_app];exact ja) ⟨X,hX,rfl,rfl,rfl,rfl,rfl⟩):G:=h
theorem zbs (k:G') (h:Hid G'→G:=by intro zk0;refine Call.enter2 (n:=108) (by kernel_rfl) Tryz.func77 rfl rfl rfl ?_;exact zk0.1):G:=h ⟨k⟩
theorem zeS (h:G:=by exact KE.fin (H':=wcH ⟨y',X1.v,_,N++X1.D⟩++F) jd rfl jc (by simp only[wcH_app,List.append_assoc];exact ja) ⟨_,hX',o1.b,o1.mb,o1.nw,by dsimp only;rw [o1.b,o1.mb];rfl,rfl⟩):G:=h
theorem zeT (h:G:=by exact KE.fin (H':=wcH X1++F) jd rfl jc ja ⟨X1,hX1,e1,e2,e3,rfl,rfl⟩):G:=h
theorem zfY (h:G:=by exact KE.again ⟨i+1,X3⟩ (by dsimp only;rw [hend];exact jg) (by dsimp only;rw [hend];exact ja) ⟨hlt,by dsimp only;rw [hend];exact hX3,eS3⟩ (by show x.L.length-(i+1)<x.L.length-i;omega)):G:=h
theorem zd0 (k:G') (h:Hid G'→G:=by intro zk0;refine KD.y1 rfl rfl rfl rfl (Val.fieldAddr0 (k:=2) rfl rfl) ?_;exact zk0.1):G:=h ⟨k⟩
theorem zbt (k:G') (h:Hid G'→G:=by intro zk0;refine(CallV.fn (ycnone0_K)).mono ?_;exact zk0.1):G:=h ⟨k⟩
theorem zbQ (k:G') (h:Hid G'→G:=by intro zk0;refine(CallV.part (CallV.fn (ycnoneZ_K)) ja).mono ?_;exact zk0.1):G:=h ⟨k⟩
theorem zbR (k:G') (h:Hid G'→G:=by intro zk0;refine(CallV.fn (hno _ ja)).mono ?_;exact zk0.1):G:=h ⟨k⟩
theorem zE (k:G') (h:Hid G'→G:=by intro zk0;refine(CallV.fn (hawake _)).mono ?_;exact zk0.1):G:=h ⟨k⟩
theorem zbS (k:G') (h:Hid G'→G:=by intro zk0;refine(CallV.fn (hmade _ ja)).mono ?_;exact zk0.1):G:=h ⟨k⟩
theorem zat (k:G') (h:Hid G'→G:=by intro zk0;refine(CallV.fn (hgx _)).mono ?_;exact zk0.1):G:=h ⟨k⟩
theorem zcm (k:G') (h:Hid G'→G:=by intro zk0;refine(CallV.part (CallV.fn (hmx _)) ja).mono ?_;exact zk0.1):G:=h ⟨k⟩
theorem zfZ (k:G') (h:Hid G'→G:=by intro zk0;(first|refine K.seq (K.drawn ([]) [(0,0),(1,0),(2,0),(3,0),(4,0),(5,0),(6,0),(7,0),(8,0),(9,0),(10,2),(11,0),(12,0),(13,1),(14,2)] (by kernel_rfl) (by kernel_rfl) (by kernel_rfl) (by kernel_rfl) (by kernel_rfl) (by kernel_rfl) ja ?_)|refine K.seq (K.seq (K.drawn ([]) [(0,0),(1,0),(2,0),(3,0),(4,0),(5,0),(6,0),(7,0),(8,0),(9,0),(10,2),(11,0),(12,0),(13,1),(14,2)] (by kernel_rfl) (by kernel_rfl) (by kernel_rfl) (by kernel_rfl) (by kernel_rfl) (by kernel_rfl) ja ?_))|refine K.drawn ([]) [(0,0),(1,0),(2,0),(3,0),(4,0),(5,0),(6,0),(7,0),(8,0),(9,0),(10,2),(11,0),(12,0),(13,1),(14,2)] (by kernel_rfl) (by kernel_rfl) (by kernel_rfl) (by kernel_rfl) (by kernel_rfl) (by kernel_rfl) ja ?_);exact zk0.1):G:=h ⟨k⟩
theorem zeU (h:G:=by exact KE.again ⟨j+1⟩ jg ja hj2 (by show out.length-(j+1)<out.length-j;omega)):G:=h
theorem zf0 (k:G') (h:Hid G'→G:=by intro zk0;refine KD.y0 rfl rfl rfl rfl (Val.add rfl rfl (by simp only[Go.Proofs.YtldomapkmopomaaGreatDoor.lo,Go.Proofs.YtldomapkmopomaaGreatDoor.hi];omega)) ?_;exact zk0.1):G:=h ⟨k⟩
theorem zf1 (k:G') (h:Hid G'→G:=by intro zk0;refine KD.y0 rfl rfl rfl rfl (Val.loadP rfl rfl (jA.sl0 (Sli.own jh (by assumption) jG) (by assumption) rfl)) ?_;exact zk0.1):G:=h ⟨k⟩
theorem zc (k:G') (h:Hid G'→G:=by intro zk0;refine zq ?_;refine za ?_;exact zk0.1):G:=h ⟨k⟩
theorem zj (k:G') (h:Hid G'→G:=by intro zk0;refine ze ?_;intro v0;refine zf ?_;intro v1;revert v0 v1;exact zk0.1):G:=h ⟨k⟩
theorem zn (k:G') (h:Hid G'→G:=by intro zk0;refine ze ?_;intro v0;refine zj ?_;intro v1 v2;revert v0 v1 v2;exact zk0.1):G:=h ⟨k⟩
theorem zu (k:G') (h:Hid G'→G:=by intro zk0;refine zg ?_;refine zbf ?_;exact zk0.1):G:=h ⟨k⟩
theorem zy (k:G') (h:Hid G'→G:=by intro zk0;refine zbC ?_;refine zp ?_;exact zk0.1):G:=h ⟨k⟩
theorem zbu (k:G') (h:Hid G'→G:=by intro zk0;refine zap ?_;refine zap ?_;exact zk0.1):G:=h ⟨k⟩
theorem zl (k:G') (h:Hid G'→G:=by intro zk0;refine zq ?_;refine zh ?_;exact zk0.1):G:=h ⟨k⟩
theorem zB (k:G') (h:Hid G'→G:=by intro zk0;refine zf2 ?_;refine zo ?_;exact zk0.1):G:=h ⟨k⟩
theorem zH (k:G') (h:Hid G'→G:=by intro zk0;refine ze ?_;intro v0;refine ze ?_;intro v1;revert v0 v1;exact zk0.1):G:=h ⟨k⟩
theorem zQ (k:G') (h:Hid G'→G:=by intro zk0;refine zaY ?_;refine zo ?_;exact zk0.1):G:=h ⟨k⟩
theorem zaD (k:G') (h:Hid G'→G:=by intro zk0;refine zg ?_;refine zb2 ?_;exact zk0.1):G:=h ⟨k⟩
theorem zY (k:G') (h:Hid G'→G:=by intro zk0;refine zW ?_;refine zp ?_;exact zk0.1):G:=h ⟨k⟩
theorem zA (k:G') (h:Hid G'→G:=by intro zk0;refine zg ?_;refine zC ?_;exact zk0.1):G:=h ⟨k⟩
theorem zR (k:G') (h:Hid G'→G:=by intro zk0;refine zah ?_;refine zC ?_;exact zk0.1):G:=h ⟨k⟩
theorem zbT (k:G') (h:Hid G'→G:=by intro zk0;refine zeq ?_;refine zp ?_;exact zk0.1):G:=h ⟨k⟩
theorem zZ (k:G') (h:Hid G'→G:=by intro zk0;refine zbu ?_;refine zbu ?_;exact zk0.1):G:=h ⟨k⟩
theorem zcn (k:G') (h:Hid G'→G:=by intro zk0;refine zaD ?_;refine zJ ?_;exact zk0.1):G:=h ⟨k⟩
theorem zI (k:G') (h:Hid G'→G:=by intro zk0;refine zag ?_;refine zp ?_;exact zk0.1):G:=h ⟨k⟩
theorem zau (k:G') (h:Hid G'→G:=by intro zk0;refine zu ?_;refine zQ ?_;exact zk0.1):G:=h ⟨k⟩
theorem zco (h:G:=by simp only[List.cons_append,List.nil_append];exact ja):G:=h
theorem zc5 (k:G') (h:Hid G'→G:=by intro zk0;refine zg ?_;refine zct ?_;exact zk0.1):G:=h ⟨k⟩
theorem zS (k:G') (h:Hid G'→G:=by intro zk0;refine zg ?_;refine zcn ?_;exact zk0.1):G:=h ⟨k⟩
theorem zT (k:G') (h:Hid G'→G:=by intro zk0;refine zaA ?_;refine zg ?_;exact zk0.1):G:=h ⟨k⟩
theorem zcp (k:G') (h:Hid G'→G:=by intro zk0;refine zF ?_;refine zm ?_;exact zk0.1):G:=h ⟨k⟩
theorem zU (k:G') (h:Hid G'→G:=by intro zk0;refine zb0 ?_;refine zY ?_;exact zk0.1):G:=h ⟨k⟩
theorem z8 (k:G') (h:Hid G'→G:=by intro zk0;refine zbh ?_;refine zo ?_;exact zk0.1):G:=h ⟨k⟩
theorem zaa (k:G') (h:Hid G'→G:=by intro zk0;refine zo ?_;refine zbf ?_;exact zk0.1):G:=h ⟨k⟩
theorem zV (k:G') (h:Hid G'→G:=by intro zk0;refine zg ?_;refine zi ?_;exact zk0.1):G:=h ⟨k⟩
theorem zac (k:G') (h:Hid G'→G:=by intro zk0;refine zff ?_;refine zah ?_;exact zk0.1):G:=h ⟨k⟩
theorem zad (k:G') (h:Hid G'→G:=by intro zk0;refine zf3 ?_;intro v0;refine zW ?_;revert v0;exact zk0.1):G:=h ⟨k⟩
theorem zae (k:G') (h:Hid G'→G:=by intro zk0;refine zgc ?_;refine zc ?_;exact zk0.1):G:=h ⟨k⟩
theorem zab (k:G') (h:Hid G'→G:=by intro zk0;refine zbC ?_;refine zy ?_;exact zk0.1):G:=h ⟨k⟩
theorem zam (k:G') (h:Hid G'→G:=by intro zk0;refine zc5 ?_;refine zaf ?_;exact zk0.1):G:=h ⟨k⟩
theorem zc6 (k:G') (h:Hid G'→G:=by intro zk0;refine zfe ?_;refine zo ?_;exact zk0.1):G:=h ⟨k⟩
theorem zav (k:G') (h:Hid G'→G:=by intro zk0;refine zeq ?_;refine zy ?_;exact zk0.1):G:=h ⟨k⟩
theorem zan (k:G') (h:Hid G'→G:=by intro zk0;refine zfi ?_;refine zo ?_;exact zk0.1):G:=h ⟨k⟩
theorem zao (k:G') (h:Hid G'→G:=by intro zk0;refine zf5 ?_;refine zc ?_;exact zk0.1):G:=h ⟨k⟩
theorem zaQ (k:G') (h:Hid G'→G:=by intro zk0;refine zfh ?_;refine zq ?_;exact zk0.1):G:=h ⟨k⟩
theorem zaE (k:G') (h:Hid G'→G:=by intro zk0;refine zaA ?_;refine zp ?_;exact zk0.1):G:=h ⟨k⟩
theorem zaw (k:G') (h:Hid G'→G:=by intro zk0;refine zm ?_;refine ze6 ?_;exact zk0.1):G:=h ⟨k⟩
theorem zaF (k:G') (h:Hid G'→G:=by intro zk0;refine zC ?_;refine zC ?_;exact zk0.1):G:=h ⟨k⟩
theorem zaG (k:G') (h:Hid G'→G:=by intro zk0;refine zaL ?_;refine zg ?_;exact zk0.1):G:=h ⟨k⟩
theorem zd1 (k:G') (h:Hid G'→G:=by intro zk0;refine zay ?_;refine zbT ?_;exact zk0.1):G:=h ⟨k⟩
theorem zaH (k:G') (h:Hid G'→G:=by intro zk0;refine zeo ?_;refine zc ?_;exact zk0.1):G:=h ⟨k⟩
theorem zaI (k:G') (h:Hid G'→G:=by intro zk0;refine zf4 ?_;refine zc ?_;exact zk0.1):G:=h ⟨k⟩
theorem zaJ (k:G') (h:Hid G'→G:=by intro zk0;refine zu ?_;refine zcy ?_;refine zbA ?_;exact zk0.1):G:=h ⟨k⟩
theorem zax (k:G') (h:Hid G'→G:=by intro zk0;refine zbf ?_;refine zbh ?_;exact zk0.1):G:=h ⟨k⟩
theorem zaK (k:G') (h:Hid G'→G:=by intro zk0;refine zW ?_;refine zy ?_;exact zk0.1):G:=h ⟨k⟩
theorem zaR (k:G') (h:Hid G'→G:=by intro zk0;refine zg ?_;refine zZ ?_;exact zk0.1):G:=h ⟨k⟩
theorem zd2 (k:G') (h:Hid G'→G:=by intro zk0;simp only[errB,Bool.false_eq_true,if_false];refine za ?_;exact zk0.1):G:=h ⟨k⟩
theorem zaS (k:G') (h:Hid G'→G:=by intro zk0;refine zfc ?_;refine zfc ?_;exact zk0.1):G:=h ⟨k⟩
theorem zaT (k:G') (h:Hid G'→G:=by intro zk0;refine zcp ?_;refine zfm ?_;exact zk0.1):G:=h ⟨k⟩
theorem zaU (k:G') (h:Hid G'→G:=by intro zk0;refine zag ?_;refine zy ?_;exact zk0.1):G:=h ⟨k⟩
theorem zeV (k:G') (h:Hid G'→G:=by intro zk0;refine(CallV.part (CallV.fn (awPhase_K hA4)) ja).mono ?_;refine zc ?_;exact zk0.1):G:=h ⟨k⟩
theorem za8 (k:G') (h:Hid G'→G:=by intro zk0;refine zb5 ?_;refine zaq ?_;exact zk0.1):G:=h ⟨k⟩
theorem zaV (k:G') (h:Hid G'→G:=by intro zk0;refine zfl ?_;refine zc ?_;exact zk0.1):G:=h ⟨k⟩
theorem zaW (k:G') (h:Hid G'→G:=by intro zk0;refine zu ?_;refine zc6 ?_;exact zk0.1):G:=h ⟨k⟩
theorem za9 (k:G') (h:Hid G'→G:=by intro zk0;refine zg ?_;refine zdm ?_;exact zk0.1):G:=h ⟨k⟩
theorem zba (k:G') (h:Hid G'→G:=by intro zk0;refine zbu ?_;refine zap ?_;exact zk0.1):G:=h ⟨k⟩
theorem zaX (k:G') (h:Hid G'→G:=by intro zk0;refine zu ?_;refine zB ?_;exact zk0.1):G:=h ⟨k⟩
theorem zbb (k:G') (h:Hid G'→G:=by intro zk0;refine zR ?_;refine zaN ?_;exact zk0.1):G:=h ⟨k⟩
theorem zbc (k:G') (h:Hid G'→G:=by intro zk0;refine zdi ?_;refine zap ?_;exact zk0.1):G:=h ⟨k⟩
theorem zeW (k:G') (h:Hid G'→G:=by intro zk0;refine zgb ?_;refine KD.v0 rfl rfl (Val.fieldAddr0 (k:=14) rfl rfl) ?_;exact zk0.1):G:=h ⟨k⟩
theorem zeX (h:G:=by rw[Int.toNat_natCast];exact Nat.min_eq_left (by show j≤64;omega)):G:=h
theorem zeY (k:G') (h:Hid G'→G:=by intro zk0;refine KD.v1 rfl rfl (Val.fieldAddr0 (k:=0) rfl rfl) ?_;refine zx ?_;exact zk0.1):G:=h ⟨k⟩
theorem zbv (k:G') (h:Hid G'→G:=by intro zk0;refine zem ?_;refine zaL ?_;exact zk0.1):G:=h ⟨k⟩
theorem zeZ (k:G') (h:Hid G'→G:=by intro zk0;refine(CallV.part (CallV.fn (hsp' _)) ja).mono ?_;refine zc ?_;exact zk0.1):G:=h ⟨k⟩
theorem zbU (k:G') (h:Hid G'→G:=by intro zk0;refine zH ?_;intro v0 v1;refine ze ?_;intro v2;revert v0 v1 v2;exact zk0.1):G:=h ⟨k⟩
theorem ze0 (k:G') (h:Hid G'→G:=by intro zk0;refine(CallV.part (CallV.fn (how _)) ja).mono ?_;refine zc ?_;exact zk0.1):G:=h ⟨k⟩
theorem zbd (k:G') (h:Hid G'→G:=by intro zk0;refine zau ?_;refine zg ?_;exact zk0.1):G:=h ⟨k⟩
theorem ze1 (k:G') (h:Hid G'→G:=by intro zk0;refine zay ?_;refine KD.e rfl rfl (Eff.box rfl rfl) ?_;rintro _ _ ⟨v0,rfl,rfl⟩;revert v0;exact zk0.1):G:=h ⟨k⟩
theorem zbw (h:G:=by refine zbC ?_;refine zbT ?_;exact zf7):G:=h
theorem ze2 (k:G') (h:Hid G'→G:=by intro zk0;refine(CallV.part (CallV.fn (hmk _)) ja).mono ?_;refine zc ?_;exact zk0.1):G:=h ⟨k⟩
theorem zbx (k:G') (h:Hid G'→G:=by intro zk0;refine zf6 ?_;refine zq ?_;exact zk0.1):G:=h ⟨k⟩
theorem zby (k:G') (h:Hid G'→G:=by intro zk0;refine zf8 ?_;refine zB ?_;exact zk0.1):G:=h ⟨k⟩
theorem zbV (k:G') (h:Hid G'→G:=by intro zk0;refine zga ?_;refine zc ?_;exact zk0.1):G:=h ⟨k⟩
theorem ze3 (k:G') (h:Hid G'→G:=by intro zk0;refine(CallV.part (CallV.fn (hl _)) ja).mono ?_;refine zc ?_;exact zk0.1):G:=h ⟨k⟩
theorem zbe (k:G') (h:Hid G'→G:=by intro zk0;refine zf9 ?_;refine zc ?_;exact zk0.1):G:=h ⟨k⟩
theorem zd3 (k:G') (h:Hid G'→G:=by intro zk0;simp only[ji,seenH_app];refine zfq ?_;exact zk0.1):G:=h ⟨k⟩
theorem zbz (k:G') (h:Hid G'→G:=by intro zk0;refine zd1 ?_;refine zk ?_;exact zk0.1):G:=h ⟨k⟩
end Go.Proofs.YtldomapkmopomaaGreatDoor
