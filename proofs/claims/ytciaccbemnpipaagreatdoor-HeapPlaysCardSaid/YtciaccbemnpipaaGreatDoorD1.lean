/-Sequences of steps of the walker,each a theorem with a default proof. -/
import Derived.Test.YtciaccbemnpipaaGreatDoorJ13
import Derived.Lib.BitFns
import Derived.Lib.TrailingZeros
import Derived.Shelf.Spec.TrailingZeros
import Derived.LaidHandle
import Derived.LaidMore
import Derived.Lay
import Derived.OpenShut
import Derived.Test.YtciaccbemnpipaaGreatDoorRows
set_option linter.all false
namespace Go.Proofs.YtciaccbemnpipaaGreatDoor
structure Hid (P:Prop):Prop where
 out:P
variable {G G' : Prop}
theorem yV (h:G:=by first|(refine(?_:Val _ _ _ _ _ (.move _) _);exact Val.move rfl)|(refine(?_:Val _ _ _ _ _ (.assign _) _);exact Val.assign rfl)|(refine(?_:Val _ _ _ _ _ (.load _ _) _);first|exact Val.loadP rfl rfl (j7.cell jK rfl)|exact Val.loadP rfl rfl bySee|exact Val.loadP rfl rfl (j7.more (by assumption) ja)|exact Val.loadAP rfl rfl rfl bySeeA|exact Val.loadA rfl rfl rfl bySeeN|exact Val.loadP rfl rfl (j7.sl (Sli.own jt (by assumption) jcs) (by assumption) rfl)|exact Val.loadP rfl rfl (j7.sl0 (Sli.own jt (by assumption) jcs) (by assumption) rfl))|(refine(?_:Val _ _ _ _ _ (.fieldAddr _ _ _) _);first|exact Val.fieldSl (k:=0) rfl rfl|exact Val.fieldAddr0 (k:=0) rfl rfl|exact Val.fieldSl (k:=2) rfl rfl|exact Val.fieldAddr0 (k:=2) rfl rfl|exact Val.fieldSl (k:=1) rfl rfl|exact Val.fieldAddr0 (k:=1) rfl rfl|exact Val.fieldSl (k:=4) rfl rfl|exact Val.fieldAddr0 (k:=4) rfl rfl|exact Val.fieldSl (k:=7) rfl rfl|exact Val.fieldAddr0 (k:=7) rfl rfl|exact Val.fieldSl (k:=6) rfl rfl|exact Val.fieldAddr0 (k:=6) rfl rfl|exact Val.fieldAddr0 (k:=13) rfl rfl|exact Val.fieldSl (k:=9) rfl rfl|exact Val.fieldAddr0 (k:=9) rfl rfl|exact Val.fieldSl (k:=5) rfl rfl|exact Val.fieldAddr0 (k:=5) rfl rfl|exact Val.fieldSl (k:=8) rfl rfl|exact Val.fieldAddr0 (k:=8) rfl rfl|exact Val.fieldSl (k:=3) rfl rfl|exact Val.fieldAddr0 (k:=3) rfl rfl|exact Val.fieldAddr0 (k:=14) rfl rfl|exact Val.fieldAddr0 (k:=10) rfl rfl|exact Val.fieldAddr0 (k:=15) rfl rfl|exact Val.fieldSl (k:=12) rfl rfl|exact Val.fieldAddr0 (k:=12) rfl rfl|exact Val.fieldAddr0 (k:=35) rfl rfl|exact Val.fieldAddr0 (k:=16) rfl rfl|exact Val.fieldAddr0 (k:=32) rfl rfl|exact Val.fieldAddr0 (k:=36) rfl rfl|exact Val.fieldAddr (k:=14) rfl rfl|exact Val.fieldAddr0 (k:=44) rfl rfl|exact Val.fieldAddr (k:=35) rfl rfl|exact Val.fieldSl (k:=53) rfl rfl|exact Val.fieldAddr0 (k:=53) rfl rfl|exact Val.fieldAddrZ rfl rfl|exact Val.fieldAddr (k:=2) rfl rfl|exact Val.fieldAddr (k:=6) rfl rfl|exact Val.fieldAddr (k:=0) rfl rfl|exact Val.fieldAddr (k:=1) rfl rfl|exact Val.fieldAddr (k:=7) rfl rfl|exact Val.fieldAddr (k:=5) rfl rfl|exact Val.fieldAddr (k:=4) rfl rfl|exact Val.fieldAddr (k:=9) rfl rfl|exact Val.fieldAddr (k:=8) rfl rfl|exact Val.fieldAddr (k:=3) rfl rfl|exact Val.fieldAddr (k:=12) rfl rfl|exact Val.fieldAddr (k:=53) rfl rfl)|(refine(?_:Val _ _ _ _ _ (.binOp _ _ _ _ _) _);first|(refine(?_:Val _ _ _ _ _ (.binOp .add _ _ _ _) _);first|exact Val.add rfl rfl (by simp only[qL,qH];omega)|exact Val.addW rfl rfl)|(refine(?_:Val _ _ _ _ _ (.binOp .lss _ _ _ _) _);first|exact Val.isT (Val.lss rfl rfl) (by assumption)|exact Val.isF (Val.lss rfl rfl) (by assumption)|exact Val.isT (Val.lss rfl rfl) (by omega)|exact Val.isF (Val.lss rfl rfl) (by omega)|exact Val.isT (Val.lss rfl rfl) J1|exact Val.isF (Val.lss rfl rfl) J1|exact Val.lss rfl rfl)|(refine(?_:Val _ _ _ _ _ (.binOp .eql _ _ _ _) _);first|exact Val.isT (Val.eql rfl rfl) (by assumption)|exact Val.isF (Val.eql rfl rfl) (by assumption)|exact Val.isT (Val.eql rfl rfl) (by omega)|exact Val.isF (Val.eql rfl rfl) (by omega)|exact Val.isT (Val.eql rfl rfl) J1|exact Val.isF (Val.eql rfl rfl) J1|exact Val.eql rfl rfl|exact Val.eqlPN rfl rfl rfl|exact Val.eqlSN rfl rfl rfl|exact Val.eqlB rfl rfl rfl|exact Val.isT (Val.eqlBs rfl rfl) (by assumption)|exact Val.isF (Val.eqlBs rfl rfl) (by assumption)|exact Val.isT (Val.eqlBs rfl rfl) (by omega)|exact Val.isF (Val.eqlBs rfl rfl) (by omega)|exact Val.isT (Val.eqlBs rfl rfl) J1|exact Val.isF (Val.eqlBs rfl rfl) J1|exact Val.eqlFF rfl rfl rfl|exact Val.eqlFN rfl rfl rfl)|(refine(?_:Val _ _ _ _ _ (.binOp .sub _ _ _ _) _);first|exact Val.sub rfl rfl (by simp only[qL,qH];omega)|exact Val.subW rfl rfl)|(refine(?_:Val _ _ _ _ _ (.binOp .gtr _ _ _ _) _);first|exact Val.isT (Val.gtr rfl rfl) (by assumption)|exact Val.isF (Val.gtr rfl rfl) (by assumption)|exact Val.isT (Val.gtr rfl rfl) (by omega)|exact Val.isF (Val.gtr rfl rfl) (by omega)|exact Val.isT (Val.gtr rfl rfl) J1|exact Val.isF (Val.gtr rfl rfl) J1|exact Val.gtr rfl rfl)|(refine(?_:Val _ _ _ _ _ (.binOp .geq _ _ _ _) _);first|exact Val.isT (Val.geq rfl rfl) (by assumption)|exact Val.isF (Val.geq rfl rfl) (by assumption)|exact Val.isT (Val.geq rfl rfl) (by omega)|exact Val.isF (Val.geq rfl rfl) (by omega)|exact Val.isT (Val.geq rfl rfl) J1|exact Val.isF (Val.geq rfl rfl) J1|exact Val.geq rfl rfl)|(refine(?_:Val _ _ _ _ _ (.binOp .neq _ _ _ _) _);first|exact Val.isT (Val.neq rfl rfl) (by assumption)|exact Val.isF (Val.neq rfl rfl) (by assumption)|exact Val.isT (Val.neq rfl rfl) (by omega)|exact Val.isF (Val.neq rfl rfl) (by omega)|exact Val.isT (Val.neq rfl rfl) J1|exact Val.isF (Val.neq rfl rfl) J1|exact Val.neq rfl rfl|exact Val.neqB rfl rfl rfl|exact Val.neqFS rfl rfl|exact Val.isT (Val.neqBs rfl rfl) (by assumption)|exact Val.isT (Val.neqBs rfl rfl) (by omega)|exact Val.isT (Val.neqBs rfl rfl) J1|exact Val.neqBs rfl rfl)|(refine(?_:Val _ _ _ _ _ (.binOp .leq _ _ _ _) _);first|exact Val.isT (Val.leq rfl rfl) (by assumption)|exact Val.isF (Val.leq rfl rfl) (by assumption)|exact Val.isT (Val.leq rfl rfl) (by omega)|exact Val.isF (Val.leq rfl rfl) (by omega)|exact Val.isT (Val.leq rfl rfl) J1|exact Val.isF (Val.leq rfl rfl) J1|exact Val.leq rfl rfl)|(refine(?_:Val _ _ _ _ _ (.binOp .quo _ _ _ _) _);first|exact Val.quoN rfl rfl (by simp only[qL,qH];omega)|exact Val.quo rfl rfl (by omega))|(refine(?_:Val _ _ _ _ _ (.binOp .rem _ _ _ _) _);first|exact Val.remN rfl rfl (by omega)|exact Val.rem rfl rfl (by omega))|(refine(?_:Val _ _ _ _ _ (.binOp .mul _ _ _ _) _);first|exact Val.mul rfl rfl (by simp only[qL,qH];omega)|exact Val.mulW rfl rfl)|exact Val.shr rfl rfl (by omega)|exact Val.and rfl rfl|exact Val.shl rfl rfl (by omega)|exact Val.or rfl rfl|exact Val.andNot rfl rfl|exact Val.xor rfl rfl)|(refine(?_:Val _ _ _ _ _ (.extract _ _) _);exact Val.extract rfl rfl)|(refine(?_:Val _ _ _ _ _ (.pick _ _ _) _);first|exact Val.pickT rfl rfl rfl|exact Val.pickF rfl rfl rfl|exact Val.pickB rfl rfl rfl)|(refine(?_:Val _ _ _ _ _ (.nilCheck _) _);first|exact Val.nilCheck rfl|exact Val.nilCheckF rfl|exact Val.nilCheckY rfl)|(refine(?_:Val _ _ _ _ _ (.indexAddr _ _ _) _);first|exact Val.idxSl rfl rfl rfl jce rfl J1|exact Val.idxSlZ rfl rfl rfl jce rfl (by omega)|exact Val.indexS1 rfl rfl rfl rfl (by omega)|exact Val.indexS rfl rfl rfl rfl (by omega)|exact Val.indexSO rfl rfl rfl rfl (by omega)|exact Val.indexSG rfl rfl rfl rfl (by omega)|exact Val.idxSl rfl rfl rfl (Sli.own jt (by assumption) jcs) rfl J1|exact Val.indexA rfl rfl rfl rfl (by omega)|exact Val.idxSlZ rfl rfl rfl (Sli.own jt (by assumption) jcs) rfl (by omega))|(refine(?_:Val _ _ _ _ _ (.unOp _ _ _) _);first|exact Val.notT rfl|exact Val.notF rfl|exact Val.neg rfl (by simp only[qL,qH];omega)|exact Val.negW rfl|exact Val.notB rfl)|exact Val.conv rfl rfl rfl (by simp only[qL,qH];omega)|exact Val.lenSl rfl rfl jce|exact Val.build jdJ rfl rfl jdM|exact Val.lenSl rfl rfl (Sli.own jt (by assumption) jcs)|exact Val.convW rfl rfl rfl|exact Val.min rfl rfl|exact Val.lenS rfl rfl|exact Val.makeFunc Ja Ja|exact Val.sliceL rfl rfl rfl jce rfl J1|exact Val.sliceLZ rfl rfl rfl jce rfl (by omega)|exact Val.sliceH rfl rfl rfl jce rfl J1|exact Val.max rfl rfl|exact Val.sliceA rfl rfl rfl|exact Val.sliceLH rfl rfl rfl rfl (Sli.own jt (by assumption) jcs) rfl J1 J1|exact Val.sliceLH rfl rfl rfl rfl jce rfl J1 J1|exact Val.sliceL rfl rfl rfl (Sli.own jt (by assumption) jcs) rfl J1|exact Val.field (k:=0) rfl rfl rfl rfl rfl|exact Val.field (k:=1) rfl rfl rfl rfl rfl|exact Val.indexV1 rfl rfl rfl rfl rfl (by omega) rfl):G:=h
theorem yO (k:G') (h:Hid G'->G:=by intro zk0;(first|(refine(?_:KL _ _ _ _ _ (⟨none,_,_,_,_,none⟩::_) _ _ _ _);first|(refine KL.eN (Eff.storeL rfl rfl jdl rfl jK jeg) ?_;rintro _ _ rfl)|(refine KL.eN (Eff.storeAL rfl rfl rfl jK byLay byOnes) ?_;rintro _ _ rfl)|(refine KL.eN (Eff.stSl rfl rfl rfl rfl jt (by assumption) (by assumption) rfl rfl) ?_;rintro _ _ rfl)|(refine KL.eN (Eff.stSl0 rfl rfl rfl rfl jt (by assumption) (by assumption) rfl rfl) ?_;rintro _ _ rfl))|(refine(?_:KL _ _ _ _ _ (⟨some _, .call ⟨.value _,_,_⟩,_,_,_,none⟩::_) _ _ _ _);refine KL.callq rfl rfl Ja ?_)|(refine(?_:KL _ _ _ _ _ (⟨some _, .alloc _,_,_,_,none⟩::_) _ _ _ _);(refine KL.e rfl (Eff.alloc rfl) ?_;rintro _ _ ⟨v0,rfl,rfl⟩;revert v0))|(refine(?_:KL _ _ _ _ _ (⟨some _, .box _ _,_,_,_,none⟩::_) _ _ _ _);first|(refine KL.e rfl (Eff.box rfl (by assumption)) ?_;rintro _ _ ⟨v0,rfl,rfl⟩;revert v0)|(refine KL.e rfl (Eff.box rfl rfl) ?_;rintro _ _ ⟨v0,rfl,rfl⟩;revert v0))|(refine(?_:KL _ _ _ _ _ (⟨some _,_,_,_,_,none⟩::_) _ _ _ _);refine KL.v rfl yV ?_)|(refine(?_:KL _ _ _ _ _ (⟨some _,_,_,_,_,none⟩::_) _ _ _ _);(refine KL.e rfl (Eff.buildS jdJ rfl rfl rfl rfl rfl jdM) ?_;rintro _ _ ⟨v0,rfl,rfl⟩;revert v0)));exact zk0.1):G:=h ⟨k⟩
theorem yD (k:G') (h:Hid G'->G:=by intro zk0;(first|(refine(?_:KDo _ _ _ _ _ _ _ 0 (some _) _ _ _ _ none _ _ _ _ _);refine KDo.v0 rfl yV ?_)|(refine(?_:KDo _ _ _ _ _ _ _ 1 (some _) _ _ _ _ none _ _ _ _ _);refine KDo.v1 rfl yV ?_)|refine KDo.no rfl rfl rfl rfl ?_|refine KDo.noU rfl rfl rfl rfl ?_|refine KDo.noA rfl rfl rfl ?_|(refine(?_:KDo _ _ _ _ _ _ _ 0 _ _ _ _ _ (some _) _ _ _ _ _);refine KDo.y0 rfl rfl rfl yV ?_)|(refine(?_:KDo _ _ _ _ _ _ _ 1 _ _ _ _ _ (some _) _ _ _ _ _);refine KDo.y1 rfl rfl rfl yV ?_)|(refine(?_:KDo _ _ _ _ _ _ _ 2 none _ _ _ _ none _ _ _ _ _);first|(refine KDo.efN (Eff.storeL rfl rfl jdl rfl jK jeg) ?_;rintro _ _ rfl)|(refine KDo.efN (Eff.storeAL rfl rfl rfl jK byLay byOnes) ?_;rintro _ _ rfl)|(refine KDo.efN (Eff.stSlA rfl rfl rfl rfl jt (by assumption) (by assumption)) ?_;rintro _ _ rfl)|(refine KDo.efN (Eff.stSl rfl rfl rfl rfl jt (by assumption) (by assumption) rfl rfl) ?_;rintro _ _ rfl)|(refine KDo.efN (Eff.stSl0 rfl rfl rfl rfl jt (by assumption) (by assumption) rfl rfl) ?_;rintro _ _ rfl))|(refine(?_:KDo _ _ _ _ _ _ _ 2 _ (.call ⟨.value _,_,_⟩) _ _ _ none _ _ _ _ _);refine KDo.callq rfl rfl Ja ?_)|(refine(?_:KDo _ _ _ _ _ _ _ 4 _ (.call ⟨.value _,_,_⟩) _ _ _ none _ _ _ _ _);refine KDo.callqX rfl rfl Ja ?_)|(refine(?_:KDo _ _ _ _ _ _ _ 5 _ (.call ⟨.value _,_,_⟩) _ _ _ none _ _ _ _ _);refine KDo.callqM rfl rfl Ja ?_)|(refine(?_:KDo _ _ _ _ _ _ _ 2 _ (.alloc _) _ _ _ none _ _ _ _ _);(refine KDo.ef rfl (Eff.alloc rfl) ?_;rintro _ _ ⟨v0,rfl,rfl⟩;revert v0))|(refine(?_:KDo _ _ _ _ _ _ _ 2 _ (.box _ _) _ _ _ none _ _ _ _ _);(refine KDo.ef rfl (Eff.box rfl rfl) ?_;rintro _ _ ⟨v0,rfl,rfl⟩;revert v0))|(refine(?_:KDo _ _ _ _ _ _ _ 2 _ _ _ _ _ none _ _ _ _ _);(refine KDo.ef rfl (Eff.buildS jdJ rfl rfl rfl rfl rfl jdM) ?_;rintro _ _ ⟨v0,rfl,rfl⟩;revert v0)));exact zk0.1):G:=h ⟨k⟩
theorem yS (k:G') (h:Hid G'->G:=by intro zk0;(first|(refine(?_:KL _ _ _ _ _ _ _ _ _ _);first|refine KL.nil ?_|refine KL.skipG rfl rfl rfl ?_|refine KL.skipU rfl rfl rfl ?_|refine yO ?_|(refine KL.yes rfl rfl ?_;refine yO ?_))|(refine(?_:K _ _ _ _ _ _ _ _ _);first|refine K.seq ?_|refine K.region ?_|refine K.skip ?_|refine K.block ?_|refine K.condF rfl ?_|refine K.condT rfl ?_|refine K.ret ?_|refine K.exit ?_)|(refine(?_:KE _ _ _ _ _ _ _);first|refine KE.next ?_|refine KE.blkN ?_|refine KE.passR ?_|refine KE.blkR ?_|refine KE.passX ?_|refine KE.blkX ?_|refine KE.blkO rfl ?_)|(refine(?_:KD _ _ _ _ _ _ _ _ _ _ _);first|refine KD.nil ?_|(refine KD.at rfl ?_;refine yD ?_))|(refine(?_:_/\KD _ _ _ _ _ _ _ _ _ _ _);refine⟨ja,?_⟩));exact zk0.1):G:=h ⟨k⟩
theorem yr1 (k:G') (h:Hid G'->G:=by intro zk0;(iterate 1 refine yS ?_);exact zk0.1):G:=h ⟨k⟩
theorem yr2 (k:G') (h:Hid G'->G:=by intro zk0;(iterate 2 refine yS ?_);exact zk0.1):G:=h ⟨k⟩
theorem yr3 (k:G') (h:Hid G'->G:=by intro zk0;(iterate 3 refine yS ?_);exact zk0.1):G:=h ⟨k⟩
theorem yr4 (k:G') (h:Hid G'->G:=by intro zk0;(iterate 4 refine yS ?_);exact zk0.1):G:=h ⟨k⟩
theorem yr5 (k:G') (h:Hid G'->G:=by intro zk0;(iterate 5 refine yS ?_);exact zk0.1):G:=h ⟨k⟩
theorem yr6 (k:G') (h:Hid G'->G:=by intro zk0;(iterate 6 refine yS ?_);exact zk0.1):G:=h ⟨k⟩
theorem yr7 (k:G') (h:Hid G'->G:=by intro zk0;(iterate 7 refine yS ?_);exact zk0.1):G:=h ⟨k⟩
theorem yr8 (k:G') (h:Hid G'->G:=by intro zk0;(iterate 8 refine yS ?_);exact zk0.1):G:=h ⟨k⟩
theorem yr9 (k:G') (h:Hid G'->G:=by intro zk0;(iterate 9 refine yS ?_);exact zk0.1):G:=h ⟨k⟩
theorem yr10 (k:G') (h:Hid G'->G:=by intro zk0;(iterate 10 refine yS ?_);exact zk0.1):G:=h ⟨k⟩
theorem yr11 (k:G') (h:Hid G'->G:=by intro zk0;(iterate 11 refine yS ?_);exact zk0.1):G:=h ⟨k⟩
theorem yr12 (k:G') (h:Hid G'->G:=by intro zk0;(iterate 12 refine yS ?_);exact zk0.1):G:=h ⟨k⟩
theorem yr13 (k:G') (h:Hid G'->G:=by intro zk0;(iterate 13 refine yS ?_);exact zk0.1):G:=h ⟨k⟩
theorem yr14 (k:G') (h:Hid G'->G:=by intro zk0;(iterate 14 refine yS ?_);exact zk0.1):G:=h ⟨k⟩
theorem yr15 (k:G') (h:Hid G'->G:=by intro zk0;(iterate 15 refine yS ?_);exact zk0.1):G:=h ⟨k⟩
theorem yr16 (k:G') (h:Hid G'->G:=by intro zk0;(iterate 16 refine yS ?_);exact zk0.1):G:=h ⟨k⟩
theorem yr17 (k:G') (h:Hid G'->G:=by intro zk0;(iterate 17 refine yS ?_);exact zk0.1):G:=h ⟨k⟩
theorem yr18 (k:G') (h:Hid G'->G:=by intro zk0;(iterate 18 refine yS ?_);exact zk0.1):G:=h ⟨k⟩
theorem yr19 (k:G') (h:Hid G'->G:=by intro zk0;(iterate 19 refine yS ?_);exact zk0.1):G:=h ⟨k⟩
theorem yr20 (k:G') (h:Hid G'->G:=by intro zk0;(iterate 20 refine yS ?_);exact zk0.1):G:=h ⟨k⟩
theorem yr21 (k:G') (h:Hid G'->G:=by intro zk0;(iterate 21 refine yS ?_);exact zk0.1):G:=h ⟨k⟩
theorem yr22 (k:G') (h:Hid G'->G:=by intro zk0;(iterate 22 refine yS ?_);exact zk0.1):G:=h ⟨k⟩
theorem yr23 (k:G') (h:Hid G'->G:=by intro zk0;(iterate 23 refine yS ?_);exact zk0.1):G:=h ⟨k⟩
theorem yr24 (k:G') (h:Hid G'->G:=by intro zk0;(iterate 24 refine yS ?_);exact zk0.1):G:=h ⟨k⟩
theorem yr25 (k:G') (h:Hid G'->G:=by intro zk0;(iterate 25 refine yS ?_);exact zk0.1):G:=h ⟨k⟩
theorem yr26 (k:G') (h:Hid G'->G:=by intro zk0;(iterate 26 refine yS ?_);exact zk0.1):G:=h ⟨k⟩
theorem yr27 (k:G') (h:Hid G'->G:=by intro zk0;(iterate 27 refine yS ?_);exact zk0.1):G:=h ⟨k⟩
theorem yr28 (k:G') (h:Hid G'->G:=by intro zk0;(iterate 28 refine yS ?_);exact zk0.1):G:=h ⟨k⟩
theorem yr29 (k:G') (h:Hid G'->G:=by intro zk0;(iterate 29 refine yS ?_);exact zk0.1):G:=h ⟨k⟩
theorem yr30 (k:G') (h:Hid G'->G:=by intro zk0;(iterate 30 refine yS ?_);exact zk0.1):G:=h ⟨k⟩
theorem yr31 (k:G') (h:Hid G'->G:=by intro zk0;(iterate 31 refine yS ?_);exact zk0.1):G:=h ⟨k⟩
theorem yr32 (k:G') (h:Hid G'->G:=by intro zk0;(iterate 32 refine yS ?_);exact zk0.1):G:=h ⟨k⟩
theorem jbf (k:G') (h:Hid G'->G:=by intro zk0;(iterate 33 refine yS ?_);exact zk0.1):G:=h ⟨k⟩
theorem yr34 (k:G') (h:Hid G'->G:=by intro zk0;(iterate 34 refine yS ?_);exact zk0.1):G:=h ⟨k⟩
theorem yr35 (k:G') (h:Hid G'->G:=by intro zk0;(iterate 35 refine yS ?_);exact zk0.1):G:=h ⟨k⟩
theorem yr36 (k:G') (h:Hid G'->G:=by intro zk0;(iterate 36 refine yS ?_);exact zk0.1):G:=h ⟨k⟩
theorem yr37 (k:G') (h:Hid G'->G:=by intro zk0;(iterate 37 refine yS ?_);exact zk0.1):G:=h ⟨k⟩
theorem yr39 (k:G') (h:Hid G'->G:=by intro zk0;(iterate 39 refine yS ?_);exact zk0.1):G:=h ⟨k⟩
theorem yr40 (k:G') (h:Hid G'->G:=by intro zk0;(iterate 40 refine yS ?_);exact zk0.1):G:=h ⟨k⟩
theorem yr41 (k:G') (h:Hid G'->G:=by intro zk0;(iterate 41 refine yS ?_);exact zk0.1):G:=h ⟨k⟩
theorem yr42 (k:G') (h:Hid G'->G:=by intro zk0;(iterate 42 refine yS ?_);exact zk0.1):G:=h ⟨k⟩
theorem yr43 (k:G') (h:Hid G'->G:=by intro zk0;(iterate 43 refine yS ?_);exact zk0.1):G:=h ⟨k⟩
theorem yr44 (k:G') (h:Hid G'->G:=by intro zk0;(iterate 44 refine yS ?_);exact zk0.1):G:=h ⟨k⟩
theorem yr45 (k:G') (h:Hid G'->G:=by intro zk0;(iterate 45 refine yS ?_);exact zk0.1):G:=h ⟨k⟩
theorem yr46 (k:G') (h:Hid G'->G:=by intro zk0;(iterate 46 refine yS ?_);exact zk0.1):G:=h ⟨k⟩
theorem yr48 (k:G') (h:Hid G'->G:=by intro zk0;(iterate 48 refine yS ?_);exact zk0.1):G:=h ⟨k⟩
theorem yr50 (k:G') (h:Hid G'->G:=by intro zk0;(iterate 50 refine yS ?_);exact zk0.1):G:=h ⟨k⟩
theorem yr51 (k:G') (h:Hid G'->G:=by intro zk0;(iterate 51 refine yS ?_);exact zk0.1):G:=h ⟨k⟩
theorem yr52 (k:G') (h:Hid G'->G:=by intro zk0;(iterate 52 refine yS ?_);exact zk0.1):G:=h ⟨k⟩
theorem yr53 (k:G') (h:Hid G'->G:=by intro zk0;(iterate 53 refine yS ?_);exact zk0.1):G:=h ⟨k⟩
theorem yr57 (k:G') (h:Hid G'->G:=by intro zk0;(iterate 57 refine yS ?_);exact zk0.1):G:=h ⟨k⟩
theorem yr59 (k:G') (h:Hid G'->G:=by intro zk0;(iterate 59 refine yS ?_);exact zk0.1):G:=h ⟨k⟩
theorem yr60 (k:G') (h:Hid G'->G:=by intro zk0;(iterate 60 refine yS ?_);exact zk0.1):G:=h ⟨k⟩
theorem yr63 (k:G') (h:Hid G'->G:=by intro zk0;(iterate 63 refine yS ?_);exact zk0.1):G:=h ⟨k⟩
theorem yq2 (k:G') (h:Hid G'->G:=by intro zk0;(iterate 2 refine yS ?_);refine KL.callc rfl rfl Ja ?_;exact zk0.1):G:=h ⟨k⟩
theorem yq3 (k:G') (h:Hid G'->G:=by intro zk0;(iterate 3 refine yS ?_);refine KL.callc rfl rfl Ja ?_;exact zk0.1):G:=h ⟨k⟩
theorem yq4 (k:G') (h:Hid G'->G:=by intro zk0;(iterate 4 refine yS ?_);refine KL.callc rfl rfl Ja ?_;exact zk0.1):G:=h ⟨k⟩
theorem yq6 (k:G') (h:Hid G'->G:=by intro zk0;(iterate 6 refine yS ?_);refine KL.callc rfl rfl Ja ?_;exact zk0.1):G:=h ⟨k⟩
theorem yq7 (k:G') (h:Hid G'->G:=by intro zk0;(iterate 7 refine yS ?_);refine KL.callc rfl rfl Ja ?_;exact zk0.1):G:=h ⟨k⟩
theorem yq8 (k:G') (h:Hid G'->G:=by intro zk0;(iterate 8 refine yS ?_);refine KL.callc rfl rfl Ja ?_;exact zk0.1):G:=h ⟨k⟩
theorem yq9 (k:G') (h:Hid G'->G:=by intro zk0;(iterate 9 refine yS ?_);refine KL.callc rfl rfl Ja ?_;exact zk0.1):G:=h ⟨k⟩
theorem yq10 (k:G') (h:Hid G'->G:=by intro zk0;(iterate 10 refine yS ?_);refine KL.callc rfl rfl Ja ?_;exact zk0.1):G:=h ⟨k⟩
theorem yq11 (k:G') (h:Hid G'->G:=by intro zk0;(iterate 11 refine yS ?_);refine KL.callc rfl rfl Ja ?_;exact zk0.1):G:=h ⟨k⟩
theorem yq12 (k:G') (h:Hid G'->G:=by intro zk0;(iterate 12 refine yS ?_);refine KL.callc rfl rfl Ja ?_;exact zk0.1):G:=h ⟨k⟩
theorem yq13 (k:G') (h:Hid G'->G:=by intro zk0;(iterate 13 refine yS ?_);refine KL.callc rfl rfl Ja ?_;exact zk0.1):G:=h ⟨k⟩
theorem yq14 (k:G') (h:Hid G'->G:=by intro zk0;(iterate 14 refine yS ?_);refine KL.callc rfl rfl Ja ?_;exact zk0.1):G:=h ⟨k⟩
theorem yq15 (k:G') (h:Hid G'->G:=by intro zk0;(iterate 15 refine yS ?_);refine KL.callc rfl rfl Ja ?_;exact zk0.1):G:=h ⟨k⟩
theorem yq16 (k:G') (h:Hid G'->G:=by intro zk0;(iterate 16 refine yS ?_);refine KL.callc rfl rfl Ja ?_;exact zk0.1):G:=h ⟨k⟩
theorem yq17 (k:G') (h:Hid G'->G:=by intro zk0;(iterate 17 refine yS ?_);refine KL.callc rfl rfl Ja ?_;exact zk0.1):G:=h ⟨k⟩
theorem yq18 (k:G') (h:Hid G'->G:=by intro zk0;(iterate 18 refine yS ?_);refine KL.callc rfl rfl Ja ?_;exact zk0.1):G:=h ⟨k⟩
theorem yq19 (k:G') (h:Hid G'->G:=by intro zk0;(iterate 19 refine yS ?_);refine KL.callc rfl rfl Ja ?_;exact zk0.1):G:=h ⟨k⟩
theorem yq20 (k:G') (h:Hid G'->G:=by intro zk0;(iterate 20 refine yS ?_);refine KL.callc rfl rfl Ja ?_;exact zk0.1):G:=h ⟨k⟩
theorem yq21 (k:G') (h:Hid G'->G:=by intro zk0;(iterate 21 refine yS ?_);refine KL.callc rfl rfl Ja ?_;exact zk0.1):G:=h ⟨k⟩
theorem yq22 (k:G') (h:Hid G'->G:=by intro zk0;(iterate 22 refine yS ?_);refine KL.callc rfl rfl Ja ?_;exact zk0.1):G:=h ⟨k⟩
theorem yq23 (k:G') (h:Hid G'->G:=by intro zk0;(iterate 23 refine yS ?_);refine KL.callc rfl rfl Ja ?_;exact zk0.1):G:=h ⟨k⟩
theorem yq25 (k:G') (h:Hid G'->G:=by intro zk0;(iterate 25 refine yS ?_);refine KL.callc rfl rfl Ja ?_;exact zk0.1):G:=h ⟨k⟩
theorem yq26 (k:G') (h:Hid G'->G:=by intro zk0;(iterate 26 refine yS ?_);refine KL.callc rfl rfl Ja ?_;exact zk0.1):G:=h ⟨k⟩
theorem yq27 (k:G') (h:Hid G'->G:=by intro zk0;(iterate 27 refine yS ?_);refine KL.callc rfl rfl Ja ?_;exact zk0.1):G:=h ⟨k⟩
theorem yq28 (k:G') (h:Hid G'->G:=by intro zk0;(iterate 28 refine yS ?_);refine KL.callc rfl rfl Ja ?_;exact zk0.1):G:=h ⟨k⟩
theorem yq29 (k:G') (h:Hid G'->G:=by intro zk0;(iterate 29 refine yS ?_);refine KL.callc rfl rfl Ja ?_;exact zk0.1):G:=h ⟨k⟩
theorem yq32 (k:G') (h:Hid G'->G:=by intro zk0;(iterate 32 refine yS ?_);refine KL.callc rfl rfl Ja ?_;exact zk0.1):G:=h ⟨k⟩
theorem yq35 (k:G') (h:Hid G'->G:=by intro zk0;(iterate 35 refine yS ?_);refine KL.callc rfl rfl Ja ?_;exact zk0.1):G:=h ⟨k⟩
theorem yq40 (k:G') (h:Hid G'->G:=by intro zk0;(iterate 40 refine yS ?_);refine KL.callc rfl rfl Ja ?_;exact zk0.1):G:=h ⟨k⟩
theorem zax (k:G') (h:Hid G'->G:=by intro zk0;refine KL.yes rfl rfl ?_;exact zk0.1):G:=h ⟨k⟩
theorem zd (h:G:=by exact KE.fin jd rfl jc ja ⟨rfl,rfl⟩):G:=h
theorem zay (k:G') (h:Hid G'->G:=by intro zk0;refine jj (rnone_K (j7.cell jK rfl)) ?_;exact zk0.1):G:=h ⟨k⟩
theorem zbm (h:G:=by exact KE.fin jd rfl jc (by first|exact ja|(simp only[jG];exact ja)) ⟨rfl,rfl⟩):G:=h
theorem zbn (h:G:=by exact KE.fin jd rfl jc ja ⟨by rw[e];rfl,rfl⟩):G:=h
theorem zbo (k:G') (h:Hid G'->G:=by intro zk0;refine KL.callc rfl rfl Ja ?_;exact zk0.1):G:=h ⟨k⟩
theorem ze (k:G') (h:Hid G'->G:=by intro zk0;refine hT _ _ ?_;exact zk0.1):G:=h ⟨k⟩
theorem zaj (k:G') (h:Hid G'->G:=by intro zk0;refine K.dr [] (od 0 [0,0,0,0,0,0,0,0,0,0,0,0,0,2]) Part.nil ?_;exact zk0.1):G:=h ⟨k⟩
theorem zg (k:G') (h:Hid G'->G:=by intro zk0;refine jep ?_;exact zk0.1):G:=h ⟨k⟩
theorem zj (k:G') (h:Hid G'->G:=by intro zk0;refine KD.callc rfl rfl rfl Ja ?_;exact zk0.1):G:=h ⟨k⟩
theorem zf (k:G') (h:Hid G'->G:=by intro zk0;refine hT _ _ ja ?_;exact zk0.1):G:=h ⟨k⟩
theorem zak (h:G:=by exact KE.meet () jg ja trivial):G:=h
theorem zbp (k:G') (h:Hid G'->G:=by intro zk0;refine hyl _ _ _ _ _ (ParS.cons rfl (ParS.cons rfl ParS.nil)) jK ?_;exact zk0.1):G:=h ⟨k⟩
theorem zbR (k:G') (h:Hid G'->G:=by intro zk0;refine KE.part ((l, .loop (rc .busy none))::([(D, .deferred (some [])),(b7,cells [.bool false] 4),(b6,cells [.int .i64 0] 3),(b3,cells [pt r.b] 154)]++(frM bi br bt k v r.b++(jD r++F)))) (by simp only[List.cons_append,List.nil_append];exact ja) ?_;exact zk0.1):G:=h ⟨k⟩
theorem zbS (h:G:=by exact ja9 (m:=72057594037927936) (by omega) (ja9 (m:=281474976710656) (by omega) (ja9 (m:=1099511627776) (by omega) (ja9 (m:=4294967296) (by omega) (ja9 (m:=16777216) (by omega) (ja9 (m:=65536) (by omega) (ja9 (m:=256) (by omega) (by omega)))))))):G:=h
theorem zH (h:G:=by exact KE.fin jd rfl jc ja ⟨by rw[hc];rfl,rfl⟩):G:=h
theorem zbq (k:G') (h:Hid G'->G:=by intro zk0;refine K.dr [] (od 0 [0,0,0,0,0,0,0,0,0,0,0,0,0,0,0,0,0,0,0,0,0,0,0]) Part.nil ?_;exact zk0.1):G:=h ⟨k⟩
theorem zn (h:G:=by exact KE.fin jd rfl jc ja ⟨by rw[hf];rfl,rfl⟩):G:=h
theorem zbr (k:G') (h:Hid G'->G:=by intro zk0;refine⟨(Nat.le_div_iff_mul_le (by omega)).2 (by omega),?_⟩;exact zk0.1):G:=h ⟨k⟩
theorem zaP (h:G:=by exact KE.fin jd rfl jc ja ⟨none,rfl,rfl,rfl⟩):G:=h
theorem zaQ (h:G:=by exact KE.fin jd rfl jc ja ⟨o',ok',rfl,rfl⟩):G:=h
theorem zbT (h:G:=by exact KE.again ⟨k+1⟩ jg ja ⟨by show k+1<=_;omega,hr⟩ (by show tn.length-(k+1)<tn.length-k;omega)):G:=h
theorem zI (h:G:=by exact KE.fin jd rfl jc (by first|exact ja|(simp only[jG,j8,jU];exact ja)) ⟨rfl,rfl⟩):G:=h
theorem zaa (k:G') (h:Hid G'->G:=by intro zk0;refine jj (jjt ok) ?_;exact zk0.1):G:=h ⟨k⟩
theorem zab (k:G') (h:Hid G'->G:=by intro zk0;refine K.dr [] (od 0 [0,0,0,0,0,0,0,0,0,0]) Part.nil ?_;exact zk0.1):G:=h ⟨k⟩
theorem zE (k:G') (h:Hid G'->G:=by intro zk0;refine K.dr [] (od 0 [0,0,0,0,0,0,0,0,0,0,0]) Part.nil ?_;exact zk0.1):G:=h ⟨k⟩
theorem zac (k:G') (h:Hid G'->G:=by intro zk0;refine K.dr [] (od 0 [0,0,0,0,0,0,0,0,0,0,0,0,0,0]) Part.nil ?_;exact zk0.1):G:=h ⟨k⟩
theorem zi (k:G') (h:Hid G'->G:=by intro zk0;refine byCodeD ?_;exact zk0.1):G:=h ⟨k⟩
theorem zt (h:G:=by exact KE.fin jd rfl jc (by first|exact ja|(simp only[Jm];exact ja)) ⟨rfl,rfl⟩):G:=h
theorem zbs (h:G:=by exact KE.fin jd rfl jc ja ⟨o,ko,rfl,rfl⟩):G:=h
theorem zbU (h:G:=by exact KE.fin jd rfl jc (by first|exact ja|(simp only[jG,j8];exact ja)) ⟨rfl,rfl⟩):G:=h
theorem zaR (h:G:=by exact KE.fin jd rfl jc ja ⟨by rw[hd];rfl,rfl⟩):G:=h
theorem zN (h:G:=by exact KE.fin jd rfl jc ja ⟨by rw[he];rfl,rfl⟩):G:=h
theorem zu (k:G') (h:Hid G'->G:=by intro zk0;refine jj (hc0 _ ja) ?_;exact zk0.1):G:=h ⟨k⟩
theorem zS (k:G') (h:Hid G'->G:=by intro zk0;refine K.dr [] (od 0 [0,0,0,0,0,0,0,0,0]) Part.nil ?_;exact zk0.1):G:=h ⟨k⟩
theorem zT (h:G:=by exact KE.fin jd rfl jc (by first|exact ja|(simp only[jG,jU,j8,J5];exact ja)) ⟨rfl,rfl⟩):G:=h
theorem zp (k:G') (h:Hid G'->G:=by intro zk0;refine jj (hneed _) ?_;exact zk0.1):G:=h ⟨k⟩
theorem zaS (k:G') (h:Hid G'->G:=by intro zk0;refine ji (Class0_K okp hy) (by simp only[jG,jU,j8,J5];exact ja) ?_;exact zk0.1):G:=h ⟨k⟩
theorem zad (k:G') (h:Hid G'->G:=by intro zk0;refine ji (place_K ok hy) ja ?_;exact zk0.1):G:=h ⟨k⟩
theorem zbt (h:G:=by exact KE.fin jd rfl jc ja ⟨va,[],hA,rfl,rfl⟩):G:=h
theorem zbu (h:G:=by exact KE.fin jd rfl jc ja ⟨vr',R',N,hM',hX,rfl,rfl⟩):G:=h
theorem zk (k:G') (h:Hid G'->G:=by intro zk0;refine jR.callc rfl rfl Ja ?_;exact zk0.1):G:=h ⟨k⟩
theorem zbV (h:G:=by exact KE.fin (H':=N++(D++F)) jd rfl jc ja ⟨vr',R',N,⟨hB.p.part ja,hM'⟩,hX,rfl,rfl⟩):G:=h
theorem zaT (k:G') (h:Hid G'->G:=by intro zk0;refine K.dr [] (od 0 [0,0,0,0,0,0,0,0,0,0,0,0,0,0,0,0,0,0,0,0,0,0,0,0,0,0]) Part.nil ?_;exact zk0.1):G:=h ⟨k⟩
theorem zaz (k:G') (h:Hid G'->G:=by intro zk0;refine K.dr [] (od 0 [0,0,0,0,0,0,0,0,0,0,0,0,0,0,0,0,0,0,0,0,0,0,0,0,0,0,0,0]) Part.nil ?_;exact zk0.1):G:=h ⟨k⟩
theorem zbW (h:G:=by exact KE.again ⟨k+1,x⟩ jg ja ⟨by show k+1<=_;omega,hr,fun h=>absurd h (by simp),fun _=>hx,by show x<=64;omega⟩ (by show l.length-(k+1)<l.length-k;omega)):G:=h
theorem zal (h:G:=by exact KE.fin jd rfl jc (by first|exact ja|(simp only[jaJ];exact ja)) ⟨rfl,rfl⟩):G:=h
theorem zaA (h:G:=by exact KE.fin jd rfl jc (by first|exact ja|(simp only[jab];exact ja)) ⟨rfl,rfl⟩):G:=h
theorem zaB (h:G:=by exact KE.fin jd rfl jc (by first|exact ja|(simp only[ja7];exact ja)) ⟨rfl,rfl⟩):G:=h
theorem zam (k:G') (h:Hid G'->G:=by intro zk0;refine jj (pinone_K (q:=q)) ?_;exact zk0.1):G:=h ⟨k⟩
theorem zaU (h:G:=by exact KE.fin jd rfl jc (by first|exact ja|(simp only[js];exact ja)) ⟨rfl,rfl⟩):G:=h
theorem zbv (h:G:=by exact KE.fin jd rfl jc (by first|exact ja|(simp only[jU];exact ja)) ⟨rfl,rfl⟩):G:=h
theorem zbX (k:G') (h:Hid G'->G:=by intro zk0;refine K.loopT (σ:=SmS) [(1,_),(8,_)] (fun s kp_=>(9, .int .i64 (s.k:Nat))::(5, .int .i64 (Jj f s.k))::kp_) (fun s=>H) (fun s=>s.k<=l.length) (fun s=>l.length-s.k) (⟨0⟩) jg ja ((by simp)) ?_;exact zk0.1):G:=h ⟨k⟩
theorem zbY (h:G:=by exact KE.again ⟨k+1⟩ jg ja (by show k+1<=_;omega) (by show l.length-(k+1)<l.length-k;omega)):G:=h
theorem zJ (k:G') (h:Hid G'->G:=by intro zk0;refine ji (hhead _) ja ?_;exact zk0.1):G:=h ⟨k⟩
theorem zO (k:G') (h:Hid G'->G:=by intro zk0;refine ji (jc9 okp) ja ?_;exact zk0.1):G:=h ⟨k⟩
theorem zaC (h:G:=by exact KE.fin jd rfl jc (by first|exact ja|(simp only[jbv];exact ja)) ⟨rfl,rfl⟩):G:=h
theorem zo (k:G') (h:Hid G'->G:=by intro zk0;refine KD.callcY rfl rfl rfl rfl rfl Ja ?_;exact zk0.1):G:=h ⟨k⟩
theorem zaV (h:G:=by exact .inl (by show t∈G2.q;rw [eq2];exact h)):G:=h
theorem zaW (k:G') (h:Hid G'->G:=by intro zk0;refine Nat.lt_of_le_of_lt (goes_mes hsl.1) ?_;exact zk0.1):G:=h ⟨k⟩
theorem zP (k:G') (h:Hid G'->G:=by intro zk0;refine(CallV.fn jkB).mono ?_;exact zk0.1):G:=h ⟨k⟩
theorem zae (k:G') (h:Hid G'->G:=by intro zk0;refine K.dr [] (od 0 [0,0,0,0,0,0,0,0,0,0,2]) Part.nil ?_;exact zk0.1):G:=h ⟨k⟩
theorem zK (k:G') (h:Hid G'->G:=by intro zk0;refine ji (hHas _) ja ?_;exact zk0.1):G:=h ⟨k⟩
theorem zaX (h:G:=by exact KE.finN jd rfl jc ja ⟨rfl,rfl⟩):G:=h
theorem zan (k:G') (h:Hid G'->G:=by intro zk0;refine ji (jd6 ok) ja ?_;exact zk0.1):G:=h ⟨k⟩
theorem zbw (k:G') (h:Hid G'->G:=by intro zk0;refine K.dr [] (od 0 [0,2,0,0,0,0,0,0,0,0,0,0,0,0,0,0,0,0,0,0,0,2,0,0,0,0]) Part.nil ?_;exact zk0.1):G:=h ⟨k⟩
theorem zaY (k:G') (h:Hid G'->G:=by intro zk0;refine K.dr [] (od 0 [0,0,0,0,0,0,0,0,0,0,2,0,0]) Part.nil ?_;exact zk0.1):G:=h ⟨k⟩
theorem zL (k:G') (h:Hid G'->G:=by intro zk0;refine ji (ji3 ok) ja ?_;exact zk0.1):G:=h ⟨k⟩
theorem zaD (k:G') (h:Hid G'->G:=by intro zk0;(first|(refine KD.eNX rfl (Eff.storeL rfl rfl jdl rfl jK jeg) ?_;rintro _ _ rfl)|(refine KD.eNX rfl (Eff.stSl rfl rfl rfl rfl jt (by assumption) (by assumption) rfl rfl) ?_;rintro _ _ rfl)|(refine KD.eNX rfl (Eff.stSl0 rfl rfl rfl rfl jt (by assumption) (by assumption) rfl rfl) ?_;rintro _ _ rfl));exact zk0.1):G:=h ⟨k⟩
theorem zq (k:G') (h:Hid G'->G:=by intro zk0;refine ji (hfld _) ja ?_;exact zk0.1):G:=h ⟨k⟩
theorem zao (h:G:=by exact KE.fin jd rfl jc ja ⟨vr,R,[],hB,hself,rfl,rfl⟩):G:=h
theorem zbZ (h:G:=by exact KE.fin jd rfl jc (by first|exact ja|(simp only[jG,jU,arenaH_app];exact ja)) ⟨rfl,rfl⟩):G:=h
theorem zb0 (h:G:=by exact KE.fin jd rfl jc (by first|exact ja|(simp only[J5];exact ja)) ⟨rfl,rfl⟩):G:=h
theorem zb1 (h:G:=by exact KE.fin jd rfl jc (by first|exact ja|(simp only[js,seenH_app];exact ja)) ⟨rfl,rfl⟩):G:=h
theorem zaZ (k:G') (h:Hid G'->G:=by intro zk0;refine je (hroots _) (by first|exact ja|(simp only[js,seenH_app];exact ja)) ?_;exact zk0.1):G:=h ⟨k⟩
theorem zap (h:G:=by exact KE.fin (H':=jr k B.p++(planH B.p++(seenH B T N++F))) jd rfl jc (by first|exact ja|(simp only[js,seenH_app];exact ja)) ⟨rfl,k,ok,MkTo.refl k,hR,by simp only[js,seenH_app]⟩):G:=h
theorem zb2 (h:G:=by exact KE.fin jd rfl jc (by first|exact ja|(simp only[js,seenH_app];exact ja)) (.inl ⟨hq,rfl,rfl⟩)):G:=h
theorem zy (h:G:=by exact KE.fin jd rfl jc (by first|exact ja|(simp only[cycH_app,seenH_app];exact ja)) ⟨rfl,rfl⟩):G:=h
theorem zb3 (h:G:=by exact KE.again ⟨i+1⟩ (by dsimp only;rw [hct];exact jg) ja hlt (by show R.length-(i+1)<R.length-i;omega)):G:=h
theorem zb4 (k:G') (h:Hid G'->G:=by intro zk0;refine K.dr _ (od 0 [0,1,2,2,0]) (Part.takeA jE.head (Part.take jx.head (Part.take jx.head (Part.take jx.head (Part.take jx.head (Part.drop (Part.drop Part.all))))))) ?_;exact zk0.1):G:=h ⟨k⟩
theorem zb5 (h:G:=by exact KE.meet ⟨b5⟩ jg (by first|exact ja|(simp only[js,seenH_app];exact ja)) trivial):G:=h
theorem zb6 (h:G:=by exact KE.meet ⟨k⟩ jg (by first|exact ja|(simp only[js,seenH_app];exact ja)) ⟨ok,MkTo.refl k,hR⟩):G:=h
theorem zaE (k:G') (h:Hid G'->G:=by intro zk0;refine K.dr [] (od 0 [0,0,0,0,0,0,0,0,2]) Part.nil ?_;exact zk0.1):G:=h ⟨k⟩
theorem zA (k:G') (h:Hid G'->G:=by intro zk0;refine ji (hac _) ja ?_;exact zk0.1):G:=h ⟨k⟩
theorem za0 (k:G') (h:Hid G'->G:=by intro zk0;refine hyl _ _ _ _ _ (ParS.cons rfl ParS.nil) jK ?_;exact zk0.1):G:=h ⟨k⟩
theorem zb7 (k:G') (h:Hid G'->G:=by intro zk0;refine K.dr _ (od 0 [1,1,1,1,0,2,0,0,0,0,0,0,2,0,2]) (Part.take jx.head (Part.drop Part.all)) ?_;exact zk0.1):G:=h ⟨k⟩
theorem zb8 (h:G:=by exact KE.fin (H':=jr k B.p++(planH B.p++(seenH B T N++F))) jd rfl jc (by first|exact ja|(simp only[js,seenH_app];exact ja)) ⟨rfl,by simp only[js,seenH_app]⟩):G:=h
theorem zU (h:G:=by exact KE.fin jd rfl jc ja ⟨q,[],hK,rfl,rfl⟩):G:=h
theorem za1 (h:G:=by exact KE.fin jd rfl jc ja ⟨q',N,hK',rfl,rfl⟩):G:=h
theorem zbx (h:G:=by exact KE.fin jd rfl jc (by first|exact ja|(simp only[jG,jU,arenaH_app];exact ja)) ⟨rfl,a,ok,rfl,rfl,rfl,rfl⟩):G:=h
theorem zb9 (h:G:=by exact KE.again ⟨i+1,v',N'++N⟩ (by dsimp only;rw [hn2];exact jg) (by simp only[List.append_assoc];exact ja) ⟨hlt,by dsimp only;rw [List.append_assoc];exact hS',hv'⟩ (by show L.length-(i+1)<L.length-i;omega)):G:=h
theorem zaF (h:G:=by exact KE.finN jd rfl jc (by first|exact ja|(simp only[cycH_app,seenH_app];exact ja)) ⟨rfl,rfl⟩):G:=h
theorem zX (h:G:=by exact KE.fin jd rfl jc ja ⟨_,rfl,rfl⟩):G:=h
theorem zca (k:G') (h:Hid G'->G:=by intro zk0;refine jj (hpack _ _ _ (Sli.blk jK rfl (Nat.le_refl 3) (by decide) rfl) (Sli.blk jK rfl (Nat.le_refl 3) (by decide) rfl) rfl) ⟨ja,?_⟩;exact zk0.1):G:=h ⟨k⟩
theorem zcb (h:G:=by exact KE.fin (H':=(N2++N1)++(D++F)) jd rfl jc (by simp only[List.append_assoc];exact ja) ⟨q',N2++N1,by simp only[List.append_assoc];exact hK2,rfl,by simp only[List.append_assoc]⟩):G:=h
theorem zaG (k:G') (h:Hid G'->G:=by intro zk0;refine K.dr _ (od 0 [1,1,0,2,0]) Part.all ?_;exact zk0.1):G:=h ⟨k⟩
theorem zaH (k:G') (h:Hid G'->G:=by intro zk0;refine ji (hroots _) ja ⟨ja,?_⟩;exact zk0.1):G:=h ⟨k⟩
theorem zF (h:G:=by exact KE.fin jd rfl jc (by first|exact ja|(simp only[paceH_app];exact ja)) ⟨rfl,rfl⟩):G:=h
theorem zaq (k:G') (h:Hid G'->G:=by intro zk0;refine ji (pcnone_K ok) ja ?_;exact zk0.1):G:=h ⟨k⟩
theorem zaf (k:G') (h:Hid G'->G:=by intro zk0;refine ji (hno _) ja ?_;exact zk0.1):G:=h ⟨k⟩
theorem za2 (k:G') (h:Hid G'->G:=by intro zk0;refine K.dr [] [(0,0),(1,1),(2,0),(3,0),(4,0),(5,0),(6,0),(8,0),(9,0),(10,0),(11,0),(12,0),(7,5),(13,5),(14,0),(15,0),(16,2),(17,0),(18,0),(19,2)] ja ?_;exact zk0.1):G:=h ⟨k⟩
theorem zcc (h:G:=by exact KE.again ⟨j+1,oL2,o6,o'⟩ jg (by rw[plnHp_app];simp only[hDn];exact ja) ⟨hj,by simp only[hDn];exact kL2,ok6,ok'⟩ (by show g.pgs k-(j+1)<g.pgs k-j;omega)):G:=h
theorem zcd (h:G:=by exact KE.again ⟨k+1⟩ (by dsimp only;rw [hn];exact jg) ja hlt (by show L.length-(k+1)<L.length-k;omega)):G:=h
theorem zby (h:G:=by exact KE.again ⟨k+1⟩ jg ja hlt (by show L.length-(k+1)<L.length-k;omega)):G:=h
theorem za3 (h:G:=by exact KE.meet ⟨q,[]⟩ jg (by rw[hso];unfold kmL;exact ja) (by rw[hso];exact hK)):G:=h
theorem zce (h:G:=by exact KE.fin (H':=(N3++(N2++N1))++(D++F)) jd rfl jc (by simp only[List.append_assoc];exact ja) ⟨q2,N3++(N2++N1),by simp only[List.append_assoc];exact hK2,rfl,by simp only[List.append_assoc]⟩):G:=h
theorem zG (k:G') (h:Hid G'->G:=by intro zk0;refine en4 69 Tryz.func54 ?_;exact zk0.1):G:=h ⟨k⟩
theorem zY (k:G') (h:Hid G'->G:=by intro zk0;refine je (hcl _) ja ?_;exact zk0.1):G:=h ⟨k⟩
theorem za4 (h:G:=by exact KE.fin jd rfl jc ja ⟨q,[],hK,by first|rfl|(rw [hact];rfl),rfl⟩):G:=h
theorem za5 (h:G:=by exact KE.fin jd rfl jc ja ⟨q',N,hK'.up,rfl,rfl⟩):G:=h
theorem za6 (h:G:=by exact KE.fin jd rfl jc ja ⟨q,[],hK,by first|rfl|(rw [ha];rfl),rfl⟩):G:=h
theorem zV (k:G') (h:Hid G'->G:=by intro zk0;refine en3 69 Tryz.func102 ?_;exact zk0.1):G:=h ⟨k⟩
theorem za7 (k:G') (h:Hid G'->G:=by intro zk0;refine K.dr (_) [(0,1),(1,1),(2,1),(3,1),(4,1),(5,1),(7,1),(6,3),(8,1),(9,2),(10,0),(11,2)] ja ?_;exact zk0.1):G:=h ⟨k⟩
theorem zZ (k:G') (h:Hid G'->G:=by intro zk0;refine(CallV.fn micros_K).mono ?_;exact zk0.1):G:=h ⟨k⟩
theorem za8 (k:G') (h:Hid G'->G:=by intro zk0;(first|refine KD.v1 rfl rfl (Val.indexV (off:=3) rfl rfl rfl rfl rfl (by omega) rfl jbS) ?_|refine KD.v1 rfl rfl (Val.indexV (off:=6) rfl rfl rfl rfl rfl (by omega) rfl jbS) ?_|refine KD.v1 rfl rfl (Val.indexV (off:=9) rfl rfl rfl rfl rfl (by omega) rfl jbS) ?_|refine KD.v1 rfl rfl (Val.indexV (off:=12) rfl rfl rfl rfl rfl (by omega) rfl jbS) ?_|refine KD.v1 rfl rfl (Val.indexV1 rfl rfl rfl rfl rfl (by omega) rfl) ?_);exact zk0.1):G:=h ⟨k⟩
theorem z3 (h:G:=by exact KE.meet ⟨b8⟩ jg (by first|exact ja|(simp only[js,seenH_app];exact ja)) trivial):G:=h
theorem za9 (k:G') (h:Hid G'->G:=by intro zk0;(first|refine KD.v0 rfl rfl (Val.indexV (off:=3) rfl rfl rfl rfl rfl (by omega) rfl jbS) ?_|refine KD.v0 rfl rfl (Val.indexV (off:=6) rfl rfl rfl rfl rfl (by omega) rfl jbS) ?_|refine KD.v0 rfl rfl (Val.indexV (off:=9) rfl rfl rfl rfl rfl (by omega) rfl jbS) ?_|refine KD.v0 rfl rfl (Val.indexV (off:=12) rfl rfl rfl rfl rfl (by omega) rfl jbS) ?_|refine KD.v0 rfl rfl (Val.indexV1 rfl rfl rfl rfl rfl (by omega) rfl) ?_);exact zk0.1):G:=h ⟨k⟩
theorem z6 (k:G') (h:Hid G'->G:=by intro zk0;refine K.dr [] (od 0 [0,0,0,0,0,0,0,0,0,0,0,0,0,0,0,0,0,2,0,0]) Part.nil ?_;exact zk0.1):G:=h ⟨k⟩
theorem zcf (k:G') (h:Hid G'->G:=by intro zk0;refine(CallV.part (CallV.fn (hsk _)) (by first|exact ja|(simp only[js,seenH_app];exact ja))).mono ?_;exact zk0.1):G:=h ⟨k⟩
theorem zaI (h:G:=by exact KE.fin (H':=jr k B.p++(planH B.p++(seenH B T N++F))) jd rfl jc (by first|exact ja|(simp only[js,seenH_app];exact ja)) ⟨rfl,k,ok,MkTo.refl k,hR,by simp only[js,seenH_app,ha]⟩):G:=h
theorem zbz (k:G') (h:Hid G'->G:=by intro zk0;refine K.dr _ (od 0 [0,0,0,1,1,0,2,0,0,0,0,0,2,0,0]) Part.all ?_;exact zk0.1):G:=h ⟨k⟩
theorem zbA (h:G:=by exact KE.fin (H':=D++F) jd rfl jc ja ⟨⟨va,z,q,vd⟩,[],h,rfl,rfl⟩):G:=h
theorem zba (h:G:=by exact KE.fin (H':=(N'++N)++(D++F)) jd rfl jc (by simp only[List.append_assoc];exact ja) ⟨d',N'++N,by rw[List.append_assoc];exact hd',rfl,rfl⟩):G:=h
theorem z7 (h:G:=by exact KE.fin (H':=D++F) jd rfl jc ja ⟨d,[],h,rfl,rfl⟩):G:=h
theorem zbB (h:G:=by exact KE.fin (H':=N++(D++F)) jd rfl jc ja ⟨⟨d.va,d.z,q',d.vd⟩,N,hD q' N hK',rfl,rfl⟩):G:=h
theorem zbb (k:G') (h:Hid G'->G:=by intro zk0;refine ji (cywork1_K (h.ph.trans h1)) ja ?_;exact zk0.1):G:=h ⟨k⟩
theorem zbc (k:G') (h:Hid G'->G:=by intro zk0;refine(CallV.part (CallV.bound (first:=[pt y.k.b]) (hstep _)) (by simp only[cycH_app];exact ja)).mono ?_;exact zk0.1):G:=h ⟨k⟩
theorem zcg (h:G:=by exact KE.fin (H':=cycH {y with k:=k'}++F) jd rfl jc (by simp only[cycH_app,kto.b];exact ja) ⟨rfl,_,hR k' kok kto kR,hT k' kto,rfl⟩):G:=h
theorem zbd (h:G:=by exact KE.fin jd rfl jc ja ⟨by rw[ho];rfl,rfl⟩):G:=h
theorem zag (k:G') (h:Hid G'->G:=by intro zk0;refine jj (htot _ ja) ?_;exact zk0.1):G:=h ⟨k⟩
theorem z8 (k:G') (h:Hid G'->G:=by intro zk0;refine Call.at_ (hc _) (by simp only[cycH_app];exact ja) ?_;exact zk0.1):G:=h ⟨k⟩
theorem zch (k:G') (h:Hid G'->G:=by intro zk0;refine Call.at_ (hc ((D.b,cells (hpL D h) 101)::(paceH ⟨D.qb,D.C.tr,D.C.ast,h.p⟩++(oH iE 3 D.c.cl D.oc++(oH tnE 59 D.c.tn D.ot++F))))) (by unfold hpH;simp only[List.cons_append,List.append_assoc];exact ja) ?_;exact zk0.1):G:=h ⟨k⟩
theorem zci (k:G') (h:Hid G'->G:=by intro zk0;refine Call.at_ (hc ((D.b,cells (hpL D h) 101)::(oH iE 3 D.c.cl D.oc++(oH tnE 59 D.c.tn D.ot++(cycH y++F))))) (by unfold hpH;simp only[List.cons_append,List.append_assoc];exact ja) ?_;exact zk0.1):G:=h ⟨k⟩
theorem zQ (h:G:=by exact KE.fin jd rfl jc (by first|exact ja|(simp only[hpH_app];exact ja)) ⟨rfl,rfl⟩):G:=h
theorem zah (k:G') (h:Hid G'->G:=by intro zk0;refine je (hB _) (by first|exact ja|(simp only[hpH_app];exact ja)) ?_;exact zk0.1):G:=h ⟨k⟩
theorem zaJ (k:G') (h:Hid G'->G:=by intro zk0;refine(CallV.part hi ja).mono ?_;exact zk0.1):G:=h ⟨k⟩
theorem zcj (h:G:=by exact⟨_,⟨hr,_,h.pin kN eb el hi,⟨rfl,(jbj h.p.bo).symm,rfl,rfl,rfl,eb,⟨rfl,rfl,rfl,rfl,rfl,rfl⟩,rfl,rfl,rfl⟩,rfl⟩,by simp only[cycH_app,eb];exact ja⟩):G:=h
theorem zbC (k:G') (h:Hid G'->G:=by intro zk0;refine ji (hPs _) (by first|exact ja|(simp only[hpH_app];exact ja)) ?_;exact zk0.1):G:=h ⟨k⟩
theorem zl (k:G') (h:Hid G'->G:=by intro zk0;refine jj (htold _ _) ?_;exact zk0.1):G:=h ⟨k⟩
theorem zB (h:G:=by exact KE.fin jd rfl jc (by first|exact ja|(simp only[hpH_app];exact ja)) ⟨rfl,y1,h2,rfl⟩):G:=h
theorem zar (h:G:=by exact KE.fin jd rfl jc (by first|exact ja|(simp only[hpH_app];exact ja)) ⟨rfl,y,h1,rfl⟩):G:=h
theorem zaK (k:G') (h:Hid G'->G:=by intro zk0;refine je (hS _) (by first|exact ja|(simp only[hpH_app];exact ja)) ?_;exact zk0.1):G:=h ⟨k⟩
theorem zbD (h:G:=by exact KE.fin jd rfl jc (by first|exact ja|(simp only[hpH_app];exact ja)) ⟨rfl,y2,h3,rfl⟩):G:=h
theorem zR (k:G') (h:Hid G'->G:=by intro zk0;refine ji (hget _) ja ?_;exact zk0.1):G:=h ⟨k⟩
theorem zck (k:G') (h:Hid G'->G:=by intro zk0;refine K.dr _ [(0,0),(1,2),(2,0),(3,0),(4,0),(5,0),(6,0),(8,1),(10,1),(11,1),(12,1),(13,1),(14,1),(15,1),(16,1),(17,1),(7,2),(9,0),(18,0),(19,0),(20,0)] Part.all ?_;exact zk0.1):G:=h ⟨k⟩
theorem zcl (k:G') (h:Hid G'->G:=by intro zk0;refine K.dr _ [(0,0),(1,0),(2,0),(3,0),(5,1),(6,1),(7,1),(8,1),(4,2),(9,2),(10,0),(11,0),(12,0),(13,0),(14,0)] Part.all ?_;exact zk0.1):G:=h ⟨k⟩
theorem zbE (k:G') (h:Hid G'->G:=by intro zk0;refine ji (hd0 _) (by first|exact ja|(simp only[hpH_app];exact ja)) ?_;exact zk0.1):G:=h ⟨k⟩
theorem zcm (h:G:=by exact KE.finN jd rfl jc (by first|exact ja|(simp only[hpH_app];exact ja)) ⟨rfl,y3,h3.mono (by omega) (by omega),rfl⟩):G:=h
theorem zaL (k:G') (h:Hid G'->G:=by intro zk0;refine K.dr _ [(0,0),(1,0),(2,0),(3,0),(5,1),(6,1),(7,1),(4,2),(8,2),(9,0),(10,0),(11,0),(12,0),(13,0)] Part.all ?_;exact zk0.1):G:=h ⟨k⟩
theorem zbe (h:G:=by exact KE.fin jd rfl jc (by first|exact ja|(simp only[hpH_app];exact ja)) ⟨rfl,y,h1.mono (by omega) (by omega),rfl⟩):G:=h
theorem zbf (k:G') (h:Hid G'->G:=by intro zk0;refine je (hRf _) (by first|exact ja|(simp only[hpH_app];exact ja)) ?_;exact zk0.1):G:=h ⟨k⟩
theorem zcn (k:G') (h:Hid G'->G:=by intro zk0;refine K.dr _ [(0,0),(1,0),(2,0),(3,0),(6,1),(8,1),(9,1),(10,1),(11,1),(12,1),(13,1),(14,1),(15,1),(16,1),(17,1),(18,1),(19,1),(4,2),(5,2),(7,0),(20,0),(21,0)] Part.all ?_;exact zk0.1):G:=h ⟨k⟩
theorem zW (h:G:=by exact KE.fin jd rfl jc ja ⟨rfl,y,h1.mono (by omega) (by omega),rfl⟩):G:=h
theorem zbg (k:G') (h:Hid G'->G:=by intro zk0;refine jj (hof _ _ (Sli.own jt hoc rfl) (jjz _ _)) ?_;exact zk0.1):G:=h ⟨k⟩
theorem zbF (k:G') (h:Hid G'->G:=by intro zk0;refine K.dr _ (od 0 [1,1,1,1,1,1,1,1,1,2,2]) Part.all ?_;exact zk0.1):G:=h ⟨k⟩
theorem zbG (k:G') (h:Hid G'->G:=by intro zk0;refine je (hrm _ b3 b10 b11) (by first|exact ja|(simp only[hpH_app];exact ja)) ?_;exact zk0.1):G:=h ⟨k⟩
theorem zbH (k:G') (h:Hid G'->G:=by intro zk0;refine(CallV.part (CallV.clo (args:=[]) (cap:=[pt b3,pt b10]) (hft _ b3 b10 y1 h2)) ja).mono ?_;exact zk0.1):G:=h ⟨k⟩
theorem zco (h:G:=by exact KE.fin jd rfl jc (by first|exact ja|(simp only[hpH_app];exact ja)) ⟨rfl,y1,h2.mono (by omega) (by omega),rfl⟩):G:=h
theorem zcp (k:G') (h:Hid G'->G:=by intro zk0;(first|(refine KD.eNX rfl (Eff.storeAL rfl rfl rfl jK byLay byOnes) ?_;rintro _ _ rfl)|(refine KD.eNX rfl (Eff.stSlA rfl rfl rfl rfl jt (by assumption) (by assumption)) ?_;rintro _ _ rfl));exact zk0.1):G:=h ⟨k⟩
theorem zm (k:G') (h:Hid G'->G:=by intro zk0;refine ji (hsl _) ja ?_;exact zk0.1):G:=h ⟨k⟩
theorem zbI (k:G') (h:Hid G'->G:=by intro zk0;refine en2 60 Tryz.func28 ?_;exact zk0.1):G:=h ⟨k⟩
theorem zx (k:G') (h:Hid G'->G:=by intro zk0;refine jj (hopers _) ?_;exact zk0.1):G:=h ⟨k⟩
theorem zas (k:G') (h:Hid G'->G:=by intro zk0;refine(CallV.part (CallV.fn (hO _)) ja).mono ?_;exact zk0.1):G:=h ⟨k⟩
theorem zz (h:G:=by exact KE.meet ⟨y1,b8⟩ jg ja h2):G:=h
theorem zat (k:G') (h:Hid G'->G:=by intro zk0;refine ji (hP _ y1 _ h2) (by first|exact ja|(simp only[hpH_app];exact ja)) ?_;exact zk0.1):G:=h ⟨k⟩
theorem zau (k:G') (h:Hid G'->G:=by intro zk0;refine ji (hA _ y1 _ h2) (by first|exact ja|(simp only[hpH_app];exact ja)) ?_;exact zk0.1):G:=h ⟨k⟩
theorem zav (k:G') (h:Hid G'->G:=by intro zk0;refine ji (hnone _) ja ?_;exact zk0.1):G:=h ⟨k⟩
theorem zcq (k:G') (h:Hid G'->G:=by intro zk0;refine K.dr ((D.b,cells [oV D.oc D.c.cl.length, .int .i64 D.c.page,oV D.ot D.c.tn.length, .int .i64 D.c.workers, .int .i64 D.c.grey, .int .i64 D.c.gens, .int .i64 (D.C.tn:Nat),pt D.yb,pt D.qb, .int .i64 (h9.wk:Nat)] 101)::F) [(0,0),(1,0),(2,0),(3,0),(6,1),(7,1),(8,1),(9,1),(12,1),(13,1),(14,1),(15,1),(4,2),(5,1),(17,1),(10,2),(11,1),(16,2),(18,2),(19,0),(20,2),(21,0),(22,2)] ja ?_;exact zk0.1):G:=h ⟨k⟩
theorem z9 (k:G') (h:Hid G'->G:=by intro zk0;refine en2 43 Tryz.func10 ?_;exact zk0.1):G:=h ⟨k⟩
theorem zaM (k:G') (h:Hid G'->G:=by intro zk0;refine KL.v rfl (Val.eqlAE rfl rfl (by kernel_rfl) byEqv (by first|assumption|rfl)) ?_;exact zk0.1):G:=h ⟨k⟩
theorem zaN (k:G') (h:Hid G'->G:=by intro zk0;refine jj (hof _ (hcC.part ja)) ?_;exact zk0.1):G:=h ⟨k⟩
theorem zai (k:G') (h:Hid G'->G:=by intro zk0;refine ji (ht0 _) ja ?_;exact zk0.1):G:=h ⟨k⟩
theorem zbh (h:G:=by exact KE.fin jd rfl jc ja ⟨d,[],hR,rfl,rfl⟩):G:=h
theorem zbJ (k:G') (h:Hid G'->G:=by intro zk0;refine K.dr _ [(0,0),(1,0),(2,0),(4,1),(6,1),(7,1),(8,1),(9,1),(10,1),(11,1),(12,1),(13,1),(3,2),(5,0),(14,0)] Part.all ?_;exact zk0.1):G:=h ⟨k⟩
theorem zbK (k:G') (h:Hid G'->G:=by intro zk0;refine je (hus _ _ d1 hR1) (by(try simp only[List.append_assoc]);exact ja) ?_;exact zk0.1):G:=h ⟨k⟩
theorem zbL (k:G') (h:Hid G'->G:=by intro zk0;refine ji (ht0 _ _ d1 hR1) (by(try simp only[List.append_assoc]);exact ja) ?_;exact zk0.1):G:=h ⟨k⟩
theorem zbi (h:G:=by exact KE.fin (H':=N1++(D++F)) jd rfl jc (by(try simp only[List.append_assoc]);exact ja) ⟨d1,N1,hR1,rfl,rfl⟩):G:=h
theorem zbj (k:G') (h:Hid G'->G:=by intro zk0;refine ji (hfr _ _ d1 hR1) (by(try simp only[List.append_assoc]);exact ja) ?_;exact zk0.1):G:=h ⟨k⟩
theorem zbM (k:G') (h:Hid G'->G:=by intro zk0;refine K.dr _ (od 0 [1,1,0,0,2,1,2,2]) (Part.take jx.head (Part.takeA jE.head (Part.takeA jE.head (Part.take jx.head (Part.take jx.head (Part.drop (Part.drop Part.all))))))) ?_;exact zk0.1):G:=h ⟨k⟩
theorem zcr (k:G') (h:Hid G'->G:=by intro zk0;refine je (hAd _ (N7++(N6++(N5++(N4++(N3++(N2++(N1++D))))))) d7 hR7) (by(try simp only[List.append_assoc]);exact ja) ?_;exact zk0.1):G:=h ⟨k⟩
theorem zcs (h:G:=by exact KE.fin (H':=(N7++(N6++(N5++(N4++(N3++(N2++N1))))))++(D++F)) jd rfl jc (by(try simp only[List.append_assoc]);exact ja) ⟨d7,(N7++(N6++(N5++(N4++(N3++(N2++N1)))))),(by simp only[List.append_assoc] at hR7|-;exact hR7),rfl,rfl⟩):G:=h
theorem zw (k:G') (h:Hid G'->G:=by intro zk0;refine ji (had _) ja ?_;exact zk0.1):G:=h ⟨k⟩
theorem zct (k:G') (h:Hid G'->G:=by intro zk0;refine K.dr _ (od 0 [0,1,2,2]) (Part.take jx.head (Part.take jx.head (Part.takeA jE.head (Part.takeA jE.head (Part.drop (Part.drop Part.all)))))) ?_;exact zk0.1):G:=h ⟨k⟩
theorem zbN (k:G') (h:Hid G'->G:=by intro zk0;refine ji (hRf _) (by(try simp only[List.append_assoc]);exact ja) ?_;exact zk0.1):G:=h ⟨k⟩
theorem zcu (h:G:=by exact KE.meet ⟨d,N2⟩ jg (by(try unfold hqL);(try simp only[List.append_assoc]);exact ja) trivial):G:=h
theorem zcv (k:G') (h:Hid G'->G:=by intro zk0;refine K.dr _ (od 0 [0,1,2,2]) (Part.take jx.head (Part.takeA jE.head (Part.takeA jE.head (Part.take jx.head (Part.take jx.head (Part.drop (Part.drop Part.all))))))) ?_;exact zk0.1):G:=h ⟨k⟩
theorem zM (k:G') (h:Hid G'->G:=by intro zk0;refine en2 167 Tryz.func34 ?_;exact zk0.1):G:=h ⟨k⟩
theorem zcw (h:G:=by exact KE.fin (H':=N1++(D++F)) jd rfl jc (by(try simp only[List.append_assoc]);exact ja) ⟨q1',k1,k2,d1,N1,hR1,rfl,rfl⟩):G:=h
theorem zcx (h:G:=by exact KE.fin (H':=(N2++N1)++(D++F)) jd rfl jc (by(try simp only[List.append_assoc]);exact ja) ⟨{told 0 with addr:=(z.addr:Nat)},rfl,(fun _=>rfl),_,N2++N1,(by rw[List.append_assoc];exact hR2),rfl,rfl⟩):G:=h
theorem zbO (k:G') (h:Hid G'->G:=by intro zk0;refine(CallV.part (CallV.fn (hqn1 _ Nm vr Rm hMD hw2 (hRl hRX))) ja).mono ?_;exact zk0.1):G:=h ⟨k⟩
theorem zbP (h:G:=by exact KE.meet ⟨b10,v,d0,N0++Nm⟩ jg (by(try unfold hqL);(try simp only[List.append_assoc]);exact ja) ⟨hK,by rw[List.append_assoc];exact hQ⟩):G:=h
theorem zcy (k:G') (h:Hid G'->G:=by intro zk0;refine K.dr ((bq,cells (hqL D.C ⟨cl,page,tns,workers,grey,gens⟩ vc vt v d h) 63)::F) (od 0 [1,1,1,1,1,1,1,1,1,1,1,3,1,1,1,2,2,0]) ja ?_;exact zk0.1):G:=h ⟨k⟩
theorem zbk (k:G') (h:Hid G'->G:=by intro zk0;refine(CallV.part (CallV.fn (hqst _)) (by(try simp only[List.append_assoc]);exact ja)).mono ?_;exact zk0.1):G:=h ⟨k⟩
theorem zbl (h:G:=by exact KE.meet ⟨b14,d1,N1++N⟩ jg (by(try unfold hqL);(try simp only[List.append_assoc]);exact ja) (by rw[List.append_assoc];exact hR1')):G:=h
theorem zcz (h:G:=by exact KE.again ⟨i+1,f,y1,h9,tl,otl,d1,N9⟩ jg (by(try simp only[List.append_assoc]);exact ja) ⟨hc1,hc2,h2,(by show f<=1+(i+1)*2;omega),hI9,hU9,hR1',hu,(by show(tl).length<=i+1;(try simp);omega),kT⟩ (by show l.length-(i+1)<l.length-i;omega)):G:=h
theorem zcA (k:G') (h:Hid G'->G:=by intro zk0;refine K.dr ((b18,cells (hqL D.C ⟨cl,page,tns,workers,grey,gens⟩ vc vt v d1 h9) 63)::[]) [(0,0),(1,0),(2,0),(3,0),(4,0),(6,1),(7,1),(5,2),(8,0),(9,0)] ja ?_;exact zk0.1):G:=h ⟨k⟩
theorem zcB (k:G') (h:Hid G'->G:=by intro zk0;(first|refine KD.v0 rfl rfl (Val.neqAE rfl rfl (by kernel_rfl) byEqv (by first|assumption|rfl)) ?_|refine KD.v0 rfl rfl (Val.neqAN rfl rfl (by kernel_rfl) byEqv (by first|assumption|rfl)) ?_|refine KD.v0 rfl rfl (Val.neqA rfl rfl (by kernel_rfl) byEqv) ?_);exact zk0.1):G:=h ⟨k⟩
theorem zcC (k:G') (h:Hid G'->G:=by intro zk0;refine K.dr _ [(0,0),(2,1),(3,1),(4,1),(5,1),(6,1),(1,2),(7,2),(8,2),(9,0),(10,2),(11,0),(12,0)] Part.all ?_;exact zk0.1):G:=h ⟨k⟩
theorem zcD (k:G') (h:Hid G'->G:=by intro zk0;refine(CallV.fn (Same3_K (l:=allW D h) (m:=allW D h) (Sli.own jt koa rfl) (Sli.own jt kob rfl) (by omega))).mono ?_;exact zk0.1):G:=h ⟨k⟩
theorem zaw (h:G:=by simp only[List.cons_append,List.nil_append];exact ja):G:=h
theorem zC (k:G') (h:Hid G'->G:=by intro zk0;refine zax ?_;refine zbo ?_;exact zk0.1):G:=h ⟨k⟩
theorem zaO (k:G') (h:Hid G'->G:=by intro zk0;simp only[jaX,Bool.false_eq_true,if_false];refine ze ?_;exact zk0.1):G:=h ⟨k⟩
theorem zD (k:G') (h:Hid G'->G:=by intro zk0;rw [hc2];refine zbI ?_;exact zk0.1):G:=h ⟨k⟩
theorem zbQ (h:G:=by rw[Int.toNat_natCast];exact Nat.min_eq_left (by show j<=64;omega)):G:=h
theorem ba (h:G:=by first|exact Sli.blk jK rfl (by first|decide|simp) (by first|decide|(unfold maxLen;omega)) rfl|exact Sli.old (by assumption)|exact Sli.own jt (by assumption) jcs|assumption|exact Sli.part (by assumption) ja):G:=h
theorem bc (h:G:=by omega):G:=h
theorem bd (h:G:=by first|exact ja|(simp only[hpH_app];exact ja)):G:=h
theorem be (h:G:=by first|assumption|omega|(simp<;>fail)|(simp;omega)):G:=h
theorem bf (h:G:=by simp only[List.append_assoc];exact ja):G:=h
theorem bg (h:G:=by(try simp only[List.append_assoc]);exact ja):G:=h
theorem bh (h:G:=by assumption):G:=h
theorem bj (h:G:=by first|exact ja|(simp only[js,seenH_app];exact ja)):G:=h
theorem bk (h:G:=by first|decide|(unfold maxLen;omega)):G:=h
theorem bn (h:G:=by decide):G:=h
theorem bp (h:G:=by simp only[List.append_assoc];exact jt):G:=h
theorem bu (h:G:=by kernel_rfl):G:=h
theorem bv (h:G:=by first|exact jt|(simp only[List.append_assoc];exact jt)):G:=h
theorem bx (h:G:=by first|decide|simp):G:=h
theorem bz (h:G:=by rw[List.append_assoc];exact ja):G:=h
theorem bD (h:G:=by rw[hc];decide):G:=h
theorem bF (h:G:=by simp):G:=h
theorem bG (h:G:=by first|exact ja|(simp only[jab];exact ja)):G:=h
theorem bH (h:G:=by first|exact ja|(simp only[Jm];exact ja)):G:=h
theorem bI (h:G:=by show A.length-(i+1)<A.length-i;omega):G:=h
theorem bJ (h:G:=by first|exact ja|(simp only[jG,jfq];exact ja)):G:=h
theorem bK (h:G:=by rw[List.length_take];omega):G:=h
theorem bL (h:G:=by simp only[cycH_app];exact ja):G:=h
theorem bM (h:G:=by simp only[List.cons_append,List.nil_append];exact ja):G:=h
theorem bN (h:G:=by simp only[js,seenH_app];exact ja):G:=h
theorem bO (h:G:=by cases e):G:=h
theorem bP (h:G:=by rw[cycH_app];exact ja):G:=h
theorem bQ (h:G:=by show l.length-(k+1)<l.length-k;omega):G:=h
theorem bR (h:G:=by first|exact ja|(simp only[jG,jU,j8,J5];exact ja)):G:=h
theorem bS (h:G:=by first|exact ja|(simp only[js];exact ja)):G:=h
theorem bT (h:G:=by first|exact ja|(simp only[jG,jU,arenaH_app];exact ja)):G:=h
theorem bU (h:G:=by show Sli _ _ _ _ (List.replicate g.slots false);rw [<-hlen];exact Sli.own (by first|exact jt|(simp only[List.append_assoc];exact jt)) ok10 rfl):G:=h
theorem bV (h:G:=by show Sli _ _ _ _ (List.replicate g.pages false);rw [<-hfl];exact Sli.own (by first|exact jt|(simp only[List.append_assoc];exact jt)) ok14 rfl):G:=h
theorem bW (h:G:=by simp only[jab];exact ja):G:=h
theorem bX (h:G:=by rw[h.eg];exact hz):G:=h
theorem bY (h:G:=by first|exact ja|(simp only[cycH_app,seenH_app];exact ja)):G:=h
theorem bZ (h:G:=by simp only[js,seenH_app,List.length_set];exact ja):G:=h
theorem Ba (h:G:=by first|exact ja|(simp only[jG];exact ja)):G:=h
theorem Bc (h:G:=by rw[h2] at e;cases e):G:=h
theorem Bd (h:G:=by rw[hcy.2.2.2.2.2.2.2];exact hst):G:=h
theorem Be (h:G:=by show t.l.length-(i+1)<t.l.length-i;omega):G:=h
theorem Bf (h:G:=by rw[js,ha];exact ja):G:=h
theorem Bg (h:G:=by show tn.length-(k+1)<tn.length-k;omega):G:=h
theorem Bh (h:G:=by have:=hcfg.cl;omega):G:=h
theorem Bi (h:G:=by dsimp only;omega):G:=h
theorem Bj (h:G:=by show R.length-(k+1)<R.length-k;omega):G:=h
theorem Bk (h:G:=by rw[jdv];omega):G:=h
theorem Bl (h:G:=by rw[plnHp_app];exact ja):G:=h
theorem Bm (h:G:=by rw[h.at_,h.eg];exact hlt):G:=h
theorem Bn (h:G:=by simp only[cycH_app,kto.b];exact ja):G:=h
theorem Bo (h:G:=by rw[show s.ph=2 from e] at h1;cases h1):G:=h
theorem Bp (h:G:=by rw[ha];decide):G:=h
theorem Bq (h:G:=by have:=ok.m;omega):G:=h
theorem Br (h:G:=by first|exact ja|(simp only[jG,j8,jU];exact ja)):G:=h
theorem Bs (h:G:=by simp only[jbv];exact ja):G:=h
theorem Bt (h:G:=by intro e;simp only[Bool.and_eq_true,decide_eq_true_eq] at e;exact hg e):G:=h
theorem Bu (h:G:=by simp only[js];exact ja):G:=h
theorem Bv (h:G:=by rw[hw0];simp only[List.cons_append,List.append_assoc];exact ja):G:=h
theorem Bw (h:G:=by rw[List.length_append,List.length_take,List.length_replicate];omega):G:=h
