/-The walker and the contracts that the law needs,part 45. -/
import Derived.Test.YtldomapkmopomaaGreatDoorD1
import Derived.ArgAppend
import Derived.ChangeMaps5
import Derived.Deep.Fields
import Derived.Deep.LoopGhost
import Derived.Deep.OwnRows
import Derived.Deep.Quiet
import Derived.Deep.Slices
import Derived.IntWalk
import Derived.Laws.Cells
import Derived.Laws.CopyOwn
import Derived.Laws.Externs
import Derived.Laws.FloatArith
import Derived.Laws.IdiomStrings
import Derived.Laws.NewFold
import Derived.Laws.StructEq
import Derived.Lib.BitFns
import Derived.Lib.Hide
import Derived.Lib.SmallJoins
import Derived.Lib.TrailingZeros
import Derived.Maps.RangeRun
import Derived.OrdersIn
import Derived.ProofKit
import Derived.RangeFuncBound
import Derived.RangeFuncCalls
import Derived.RangeFuncLeaves
import Derived.RangeFuncNested
import Derived.RecoverIn
import Derived.Shelf.Bits.Mul64
import Derived.Shelf.Slices.Turned
import Derived.Shelf.Spec.TrailingZeros
import Derived.Shelf.Strconv.Itoa0
import Derived.SizedLaws
import Derived.Sort.BigQuietIn
import Derived.StillTailTactics
import Derived.Test.YtldomapkmopomaaGreatDoorProg
import Derived.WalkKit
import Derived.Test.YtldomapkmopomaaGreatDoorJ33
set_option linter.unusedVariables false set_option linter.unusedSimpArgs false namespace Go.Proofs.YtldomapkmopomaaGreatDoor.Sw
set_option maxHeartbeats 8000000
open Go.Proofs.YtldomapkmopomaaGreatDoor renaming lo → qL, hi → qH
open Go.RowKit
set_option linter.unusedVariables false
set_option linter.unusedSimpArgs false
set_option maxRecDepth 10000
section
variable {w0 : World} {F : jb} {zb : Nat}
def zcH (b:Nat):jb:=[(b,cells [.pointer none, .pointer none, .pointer none, .pointer none, .pointer none, .pointer none, .pointer none, .int .i64 0, .int .u8 0, .int .i64 0] 80)]
theorem zcH_app {b:Nat}:zcH b++F=(b,cells [.pointer none, .pointer none, .pointer none, .pointer none, .pointer none, .pointer none, .pointer none, .int .i64 0, .int .u8 0, .int .i64 0] 80)::F:=rfl
theorem ycnone0_K:Call Tryz.prog w0 66 [.pointer none] F (fun r H'=>r= .bool true∧H'=F):=by
 refine zeG ?_;refine yr20 ?_;exact zd
theorem ycnoneZ_K:Call Tryz.prog w0 66 [.pointer (some ⟨zb,0,none⟩)] (zcH zb++F) (fun r H'=>r= .bool true∧H'=zcH zb++F):=by
 rw[zcH_app];refine zeG ?_;refine yr25 ?_;exact zd
theorem ycmade0_K:Call Tryz.prog w0 67 [.pointer none, .bool false] F (fun r H'=>r= .bool false∧H'=F):=by
 refine zeI ?_;refine yr21 ?_;exact zd
theorem jgr:Call Tryz.prog w0 30 [.pointer none] (F) (fun r H'=>r= .int .u8 0∧H'=F):=by
 refine zeH ?_;refine yq9 fun T hT=>?_;refine zbt ?_;rintro _ _ ⟨rfl,rfl⟩;refine za ?_;clear hT T;refine yr10 ?_;exact zd
theorem ycphaseZ_K:Call Tryz.prog w0 30 [.pointer (some ⟨zb,0,none⟩)] (zcH zb++F) (fun r H'=>r= .int .u8 0∧H'=zcH zb++F):=by
 refine zeH ?_;refine yq9 fun T hT=>?_;refine zbQ ?_;refine zc ?_;clear hT T;refine yr10 ?_;exact zd
theorem ycplan0_K:Call Tryz.prog w0 25 [.pointer none] (F) (fun r H'=>r= .pointer none∧H'=F):=by
 refine Call.enter1 (n:=9) (by kernel_rfl) Tryz.func25 rfl rfl rfl ?_;refine yq9 fun T hT=>?_;refine zbt ?_;rintro _ _ ⟨rfl,rfl⟩;refine za ?_;clear hT T;refine yr10 ?_;exact zd
theorem ycbody0_K:Call Tryz.prog w0 27 [.pointer none] (F) (fun r H'=>r= .pointer none∧H'=F):=by
 refine Call.enter1 (n:=9) (by kernel_rfl) Tryz.func27 rfl rfl rfl ?_;refine yq9 fun T hT=>?_;refine zbt ?_;rintro _ _ ⟨rfl,rfl⟩;refine za ?_;clear hT T;refine yr10 ?_;exact zd
theorem ycpins0_K:Call Tryz.prog w0 29 [.pointer none] (F) (fun r H'=>r= .pointer none∧H'=F):=by
 refine Call.enter1 (n:=9) (by kernel_rfl) Tryz.func29 rfl rfl rfl ?_;refine yq9 fun T hT=>?_;refine zbt ?_;rintro _ _ ⟨rfl,rfl⟩;refine za ?_;clear hT T;refine yr10 ?_;exact zd
theorem ycarenaZ_K:Call Tryz.prog w0 26 [.pointer (some ⟨zb,0,none⟩)] (zcH zb++F) (fun r H'=>r= .pointer none∧H'=zcH zb++F):=by
 refine Call.enter1 (n:=9) (by kernel_rfl) Tryz.func26 rfl rfl rfl ?_;refine yq9 fun T hT=>?_;refine zbQ ?_;refine zc ?_;clear hT T;refine yr10 ?_;exact zd
theorem yctableZ_K:Call Tryz.prog w0 28 [.pointer (some ⟨zb,0,none⟩)] (zcH zb++F) (fun r H'=>r= .pointer none∧H'=zcH zb++F):=by
 refine Call.enter1 (n:=9) (by kernel_rfl) Tryz.func28 rfl rfl rfl ?_;refine yq9 fun T hT=>?_;refine zbQ ?_;refine zc ?_;clear hT T;refine yr10 ?_;exact zd
theorem ycstepsZ_K:Call Tryz.prog w0 31 [.pointer (some ⟨zb,0,none⟩)] (zcH zb++F) (fun r H'=>r= .int .i64 0∧H'=zcH zb++F):=by
 refine Call.enter1 (n:=9) (by kernel_rfl) Tryz.func31 rfl rfl rfl ?_;refine yq9 fun T hT=>?_;refine zbQ ?_;refine zc ?_;clear hT T;refine yr10 ?_;exact zd
theorem ycbegin0_K:Call Tryz.prog w0 24 [.pointer none] (F) (fun r H'=>r= .int .i64 1∧H'=F):=by
 refine zeK ?_;refine yq10 fun T hT=>?_;refine zbt ?_;rintro _ _ ⟨rfl,rfl⟩;refine za ?_;clear hT T;refine yr12 ?_;exact zd
theorem ycfin0_K:Call Tryz.prog w0 15 [.pointer none] (F) (fun r H'=>r= .tuple [.int .i64 0, .int .i64 1].toArray∧H'=F):=by
 refine zeR ?_;refine yq11 fun T hT=>?_;refine zbt ?_;rintro _ _ ⟨rfl,rfl⟩;refine za ?_;clear hT T;refine yr13 ?_;exact zd
theorem ycpubZ_K:Call Tryz.prog w0 21 [.pointer (some ⟨zb,0,none⟩)] (zcH zb++F) (fun r H'=>r= .tuple [.int .i64 0, .int .i64 0, .int .i64 1].toArray∧H'=zcH zb++F):=by
 refine zeL ?_;refine yq12 fun T hT=>?_;refine zbQ ?_;refine zc ?_;clear hT T;refine yr14 ?_;exact zd
theorem ycof0_K {k:Int}:Call Tryz.prog w0 22 [.pointer none, .int .i64 k] (F) (fun r H'=>r= .tuple [.int .u8 0, .int .i64 1].toArray∧H'=F):=by
 refine Call.enter2 (n:=16) (by kernel_rfl) Tryz.func22 rfl rfl rfl ?_;refine yq10 fun T hT=>?_;refine zbt ?_;rintro _ _ ⟨rfl,rfl⟩;refine za ?_;clear hT T;refine yr11 ?_;exact zd
theorem ycdoomZ_K:Call Tryz.prog w0 23 [.pointer (some ⟨zb,0,none⟩)] (zcH zb++F) (fun r H'=>r= .slice none 0 0∧H'=zcH zb++F):=by
 refine Call.enter1 (n:=10) (by kernel_rfl) Tryz.func23 rfl rfl rfl ?_;refine yq9 fun T hT=>?_;refine zbQ ?_;refine zc ?_;clear hT T;refine yr10 ?_;exact zd
theorem ycshadeZ_K {k:Int}:Call Tryz.prog w0 18 [.pointer (some ⟨zb,0,none⟩), .int .i64 k] (zcH zb++F) (fun r H'=>r= .int .i64 1∧H'=zcH zb++F):=by
 refine zdM ?_;refine yq9 fun T hT=>?_;refine zbQ ?_;refine zc ?_;clear hT T;refine yr10 ?_;exact zd
theorem ycblack0_K {k:Int}:Call Tryz.prog w0 19 [.pointer none, .int .i64 k] (F) (fun r H'=>r= .int .i64 1∧H'=F):=by
 refine zeM ?_;refine yq9 fun T hT=>?_;refine zbt ?_;rintro _ _ ⟨rfl,rfl⟩;refine za ?_;clear hT T;refine yr10 ?_;exact zd
theorem ycwork0_K:Call Tryz.prog w0 68 [.pointer none] (F) (fun r H'=>r= .agg [.func (.func 137) #[] #[], .func (.func 138) #[] #[]].toArray∧H'=F):=by
 refine zcV ?_;refine yr2 ?_;refine zj ?_;intro b1 b2;refine yq6 fun T hT=>?_;refine(CallV.fn (jgr)).mono ?_;rintro _ _ ⟨rfl,rfl⟩;refine za ?_;clear hT T;refine yr27 ?_;exact zd
theorem ycstep0_K {hd v:Int}:Call Tryz.prog w0 16 [.pointer none, .int .i64 hd, .int .u8 v] (F) (fun r H'=>r= .bool false∧H'=F):=by
 refine zci ?_;refine yq9 fun T hT=>?_;refine(CallV.fn (ycwork0_K)).mono ?_;rintro _ _ ⟨rfl,rfl⟩;refine za ?_;clear hT T;refine yq3 fun T hT=>?_;refine(CallV.fn cyw2_K).mono ?_;rintro _ _ ⟨rfl,rfl⟩;refine hT _ _ ?_;clear hT T;refine zz fun T hT=>?_;refine(CallV.fn ycmade0_K).mono ?_;rintro _ _ ⟨rfl,rfl⟩;refine hT _ _ ?_;clear hT T;refine yr4 ?_;exact zd
theorem ycworkZ_K:Call Tryz.prog w0 68 [.pointer (some ⟨zb,0,none⟩)] (zcH zb++F) (fun r H'=>r= .agg [.func (.func 137) #[] #[], .func (.func 138) #[] #[]].toArray∧H'=zcH zb++F):=by
 refine zcV ?_;refine yr2 ?_;refine zj ?_;intro b1 b2;refine yq6 fun T hT=>?_;refine(CallV.part (CallV.fn (ycphaseZ_K)) ja).mono ?_;refine zc ?_;clear hT T;refine yr27 ?_;exact zd
theorem ychelpZ_K:Call Tryz.prog w0 17 [.pointer (some ⟨zb,0,none⟩)] (zcH zb++F) (fun r H'=>r= .bool false∧H'=zcH zb++F):=by
 refine zc1 ?_;refine yq9 fun T hT=>?_;refine(CallV.part (CallV.fn (ycworkZ_K)) ja).mono ?_;refine zc ?_;clear hT T;refine yq1 fun T hT=>?_;refine(CallV.fn cyw3_K).mono ?_;refine zc ?_;clear hT T;refine zz fun T hT=>?_;refine zcj ?_;refine zc ?_;clear hT T;refine yr4 ?_;exact zd
end
end Go.Proofs.YtldomapkmopomaaGreatDoor.Sw
