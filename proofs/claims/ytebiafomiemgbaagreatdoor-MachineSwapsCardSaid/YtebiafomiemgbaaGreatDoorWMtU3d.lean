/-Sequences of steps of the walker,each a theorem with a default proof. -/
import Derived.Test.YtebiafomiemgbaaGreatDoorD1
namespace Go.Proofs.YtebiafomiemgbaaGreatDoor
variable {G G' : Prop}
theorem zqY (k:G') (h:Hid G'→G:=by intro zk0;(first|(refine KL.v rfl (Val.lenSl rfl rfl jab) ?_)|(refine KL.v rfl (Val.lenS rfl rfl) ?_));exact zk0.1):G:=h ⟨k⟩
theorem zuh (k:G') (h:Hid G'→G:=by intro zk0;refine JY (hn _ _ _) ?_;exact zk0.1):G:=h ⟨k⟩
theorem zjN (k:G') (h:Hid G'→G:=by intro zk0;refine KL.v rfl (Val.eqlAE rfl rfl (by kernel_rfl) je4 (by first|assumption|rfl)) ?_;exact zk0.1):G:=h ⟨k⟩
theorem zui (k:G') (h:Hid G'→G:=by intro zk0;refine jp (haw _) ?_;exact zk0.1):G:=h ⟨k⟩
theorem zuj (k:G') (h:Hid G'→G:=by intro zk0;refine JY (hn1 _ ja hc) ?_;exact zk0.1):G:=h ⟨k⟩
theorem zk3 (k:G') (h:Hid G'→G:=by intro zk0;(first|(refine KL.v rfl (Val.loadAP rfl rfl rfl jgr) ?_)|(refine KL.v rfl (Val.loadA rfl rfl rfl jfD) ?_));exact zk0.1):G:=h ⟨k⟩
theorem zmj (k:G') (h:Hid G'→G:=by intro zk0;refine Call.enter1 (n:=9) (by rfl) Tryz.func24 rfl rfl rfl ?_;exact zk0.1):G:=h ⟨k⟩
theorem zo4 (h:G:=by exact⟨_,⟨D,hP,rfl⟩,by rw[fmH_app];exact ja⟩):G:=h
theorem zo5 (k:G') (h:Hid G'→G:=by intro zk0;refine Call.enter2 (n:=26) (by rfl) Tryz.func26 rfl rfl rfl ?_;exact zk0.1):G:=h ⟨k⟩
theorem zo6 (k:G') (h:Hid G'→G:=by intro zk0;refine K.loopT (σ:=FqK) [(0,_),(1,_)] (fun s kp_=>(5, .int .i64 (s.k:Nat))::kp_) (fun s=>H) (fun s=>s.k≤l.length∧l.take s.k=m.take s.k) (fun s=>l.length-s.k) (⟨0⟩) jc ja (⟨Nat.zero_le _,rfl⟩) ?_;exact zk0.1):G:=h ⟨k⟩
theorem zo7 (h:G:=by exact KE.again ⟨k+1⟩ jc ja ⟨hlt,ftake_eq he hx hy⟩ (by grind)):G:=h
theorem zh2 (h:G:=by exact KE.fin je rfl jd ja ⟨by rw[decide_eq_false hne2];rfl,rfl⟩):G:=h
theorem zo8 (h:G:=by exact KE.fin je rfl jd ja ⟨by rw[decide_eq_true heq];rfl,rfl⟩):G:=h
theorem zsY (k:G') (h:Hid G'→G:=by intro zk0;refine KL.v rfl (Val.fieldAddr (k:=1) rfl rfl) ?_;exact zk0.1):G:=h ⟨k⟩
theorem zfN (k:G') (h:Hid G'→G:=by intro zk0;refine⟨fun _ _=>trivial,?_⟩;exact zk0.1):G:=h ⟨k⟩
theorem zun (k:G') (h:Hid G'→G:=by intro zk0;refine⟨fun hh=>by simp[fen,Fence.wide] at hh,jdv.2 ((hc.out w hw).mono ?_)⟩;exact zk0.1):G:=h ⟨k⟩
theorem zmk (k:G') (h:Hid G'→G:=by intro zk0;refine⟨⟨_,_,by rw[show(ofB l).length=(strB l).size by grind[ofB,strB_size]],by grind[ofB,strB,strB_size],hcap,fun _=>⟨_,_,rfl⟩⟩,?_⟩;exact zk0.1):G:=h ⟨k⟩
theorem zml (h:G:=by exact⟨jbF vs,hv.results hr hw' ha.2.2,jbF vs,H',rfl,hw'.part hp,h⟩):G:=h
theorem zmm (k:G') (h:Hid G'→G:=by intro zk0;refine Call.enter2 (n:=31) (by rfl) Tryz.func164 rfl rfl rfl ?_;exact zk0.1):G:=h ⟨k⟩
theorem zmn (k:G') (h:Hid G'→G:=by intro zk0;refine Call.enterP (n:=31) [(0, .pointer (some ⟨r,0,none⟩)),(1, .int .i64 (n:Nat))] (by rfl) Tryz.func164 rfl rfl rfl ⟨rfl,rfl,trivial⟩ ?_;exact zk0.1):G:=h ⟨k⟩
theorem zuo (k:G') (h:Hid G'→G:=by intro zk0;refine KL.v rfl (Val.mkIface rfl rfl) ?_;exact zk0.1):G:=h ⟨k⟩
theorem zup (k:G') (h:Hid G'→G:=by intro zk0;refine KL.panicI rfl ?_;exact zk0.1):G:=h ⟨k⟩
theorem za7 (h:G:=by exact KE.finP ja rfl):G:=h
theorem zmo (k:G') (h:Hid G'→G:=by intro zk0;refine Call.enter2 (n:=22) (by rfl) Tryz.func123 rfl rfl rfl ?_;exact zk0.1):G:=h ⟨k⟩
theorem zmp (k:G') (h:Hid G'→G:=by intro zk0;refine K.loopT (σ:=Nat) [(9,_),(10,_)] (fun s kp_=>(11, .int .i64 (s:Nat))::(4, .int .u64 (nb ((l.take n).take s):Nat))::kp_) (fun s=>(r,cells [v'] 166)::B) (fun s=>s≤n) (fun s=>n-s) (0) jc ja (Nat.zero_le _) ?_;exact zk0.1):G:=h ⟨k⟩
theorem zk5 (h:G:=by exact KE.fin je rfl jd ja ⟨v',hD,rfl,rfl⟩):G:=h
theorem zmq (k:G') (h:Hid G'→G:=by intro zk0;refine Call.enterP (n:=22) [(0, .pointer (some ⟨r,0,none⟩)),(1, .int .i64 (n:Nat))] (by rfl) Tryz.func123 rfl rfl rfl ⟨rfl,rfl,trivial⟩ ?_;exact zk0.1):G:=h ⟨k⟩
theorem zmr (k:G') (h:Hid G'→G:=by intro zk0;refine KL.callP rfl jar (rtake_P hR hn) ?_;exact zk0.1):G:=h ⟨k⟩
theorem zms (h:G:=by exact Nat.lt_of_lt_of_le h1 (Nat.pow_le_pow_right (by omega) h2)):G:=h
theorem zmt (k:G') (h:Hid G'→G:=by intro zk0;refine Call.enter1 (n:=6) (by rfl) Tryz.func92 rfl rfl rfl ?_;exact zk0.1):G:=h ⟨k⟩
theorem zmu (k:G') (h:Hid G'→G:=by intro zk0;refine Call.enter1 (n:=5) (by rfl) Tryz.func93 rfl rfl rfl ?_;exact zk0.1):G:=h ⟨k⟩
theorem zmv (k:G') (h:Hid G'→G:=by intro zk0;refine Call.enter1 (n:=7) (by rfl) Tryz.func94 rfl rfl rfl ?_;exact zk0.1):G:=h ⟨k⟩
theorem zmw (k:G') (h:Hid G'→G:=by intro zk0;refine Call.enterP (n:=6) [(0, .pointer (some ⟨r,0,none⟩))] (by rfl) Tryz.func92 rfl rfl rfl ⟨rfl,trivial⟩ ?_;exact zk0.1):G:=h ⟨k⟩
theorem zuq (k:G') (h:Hid G'→G:=by intro zk0;refine KL.callP rfl jar (rnumber_P hR hn) ?_;exact zk0.1):G:=h ⟨k⟩
theorem zmx (k:G') (h:Hid G'→G:=by intro zk0;refine Call.enterP (n:=5) [(0, .pointer (some ⟨r,0,none⟩))] (by rfl) Tryz.func93 rfl rfl rfl ⟨rfl,trivial⟩ ?_;exact zk0.1):G:=h ⟨k⟩
theorem zmy (k:G') (h:Hid G'→G:=by intro zk0;refine Call.enterP (n:=7) [(0, .pointer (some ⟨r,0,none⟩))] (by rfl) Tryz.func94 rfl rfl rfl ⟨rfl,trivial⟩ ?_;exact zk0.1):G:=h ⟨k⟩
theorem zur (k:G') (h:Hid G'→G:=by intro zk0;refine⟨fun _ _=>trivial,fun _ _=>trivial,?_⟩;exact zk0.1):G:=h ⟨k⟩
theorem zus (k:G') (h:Hid G'→G:=by intro zk0;refine wpSIn_of_wpIn rfl ?_;exact zk0.1):G:=h ⟨k⟩
theorem zmz (k:G') (h:Hid G'→G:=by intro zk0;refine K.out (P:=Tryz.prog) (w0:=w0) (n:=17) (H:=H) (ds:=[]) ?_ _ _ h2 hw;exact zk0.1):G:=h ⟨k⟩
theorem zmA (k:G') (h:Hid G'→G:=by intro zk0;refine KL.v rfl (Val.eqlNN rfl rfl) ?_;exact zk0.1):G:=h ⟨k⟩
theorem zmB (h:G:=by exact⟨ha.1, .returning,by rw[←hu], .tuple #[],by simp[results,Tryz.f91],⟨_,rfl⟩,rfl,hw'⟩):G:=h
theorem zmC (k:G') (h:Hid G'→G:=by intro zk0;refine K.out (P:=Tryz.prog) (w0:=w0) (n:=17) (H:=(b2,cells [.int .u8 a0, .int .i64 a1, .int .u8 a2, .int .u64 a3, .int .i64 a4, .int .i64 a5, .int .u64 a6, .int .i64 a7, .int .u8 a8] 91)::(b3,cells [.int .i64 e0] 30)::H) (ds:=[]) ?_ _ _ h2 hw;exact zk0.1):G:=h ⟨k⟩
theorem zmD (k:G') (h:Hid G'→G:=by intro zk0;refine KL.v rfl (Val.eqlIN rfl rfl rfl) ?_;exact zk0.1):G:=h ⟨k⟩
theorem zmE (k:G') (h:Hid G'→G:=by intro zk0;refine KL.v rfl (Val.assertOk rfl rfl) ?_;exact zk0.1):G:=h ⟨k⟩
theorem zmF (h:G:=by exact⟨ha.1, .panicking [{v:= .iface 161 (.agg [].toArray),recovered:=true}],rfl, .tuple #[],by simp[results,Tryz.f91],⟨_,rfl⟩,rfl,hw'.part (by exact ja)⟩):G:=h
theorem zmG (k:G') (h:Hid G'→G:=by intro zk0;refine Call.enter1 (n:=61) (by kernel_rfl) Tryz.func65 rfl rfl rfl ?_;exact zk0.1):G:=h ⟨k⟩
theorem zmI (k:G') (h:Hid G'→G:=by intro zk0;refine KL.callP rfl jar ((rone_P (A:=((b2,cells [.int .u8 0, .int .i64 0, .int .u8 0, .int .u64 0, .int .i64 0, .int .i64 0, .int .u64 0, .int .i64 0, .int .u8 0] 91)::(b3,cells [.int .i64 0] 30)::(b7, .cells arr7 e7 fr7)::H)) (hR0.part (by exact ja)) (by decide)).part (by exact ja)) ?_;exact zk0.1):G:=h ⟨k⟩
theorem zE (h:G:=by exact KE.finDP (H1:=(b2,cells [.int .u8 0, .int .i64 0, .int .u8 0, .int .u64 0, .int .i64 0, .int .i64 0, .int .u64 0, .int .i64 0, .int .u8 0] 91)::(b3,cells [.int .i64 250] 30)::(b7, .cells arr7 e7 fr7)::H) (fun w hw=>get1_P (H:=(b7, .cells arr7 e7 fr7)::H) (hw.part (by exact ja))) (by kernel_rfl) rfl jd (by exact ja) ⟨by unfold enA;rw [hno];rfl,rfl⟩):G:=h
theorem zmJ (k:G') (h:Hid G'→G:=by intro zk0;refine jB (rone_C (B:=((b2,cells [.int .u8 0, .int .i64 0, .int .u8 0, .int .u64 0, .int .i64 0, .int .i64 0, .int .u64 0, .int .i64 0, .int .u8 0] 91)::(b3,cells [.int .i64 0] 30)::(b7, .cells arr7 e7 fr7)::H)) hR0 (by exact ja)) ja ?_;exact zk0.1):G:=h ⟨k⟩
theorem zmK (k:G') (h:Hid G'→G:=by intro zk0;refine KL.callP rfl jar ((rone_P (A:=((b2,cells [.int .u8 1, .int .i64 0, .int .u8 0, .int .u64 0, .int .i64 0, .int .i64 0, .int .u64 0, .int .i64 0, .int .u8 0] 91)::(b3,cells [.int .i64 0] 30)::(b7, .cells arr7 e7 fr7)::H)) (hR1.part (by exact ja)) (by decide)).part (by exact ja)) ?_;exact zk0.1):G:=h ⟨k⟩
theorem zmL (k:G') (h:Hid G'→G:=by intro zk0;refine jB (rone_C (B:=((b2,cells [.int .u8 1, .int .i64 0, .int .u8 0, .int .u64 0, .int .i64 0, .int .i64 0, .int .u64 0, .int .i64 0, .int .u8 0] 91)::(b3,cells [.int .i64 0] 30)::(b7, .cells arr7 e7 fr7)::H)) hR1 (by exact ja)) ja ?_;exact zk0.1):G:=h ⟨k⟩
theorem zmM (k:G') (h:Hid G'→G:=by intro zk0;refine KL.callP rfl jar ((rone_P (A:=((b2,cells [.int .u8 1, .int .i64 (t.toNat:Nat), .int .u8 0, .int .u64 0, .int .i64 0, .int .i64 0, .int .u64 0, .int .i64 0, .int .u8 0] 91)::(b3,cells [.int .i64 0] 30)::(b7, .cells arr7 e7 fr7)::H)) (hR2.part (by exact ja)) (by decide)).part (by exact ja)) ?_;exact zk0.1):G:=h ⟨k⟩
theorem zut (k:G') (h:Hid G'→G:=by intro zk0;refine jB (rone_C (B:=((b2,cells [.int .u8 1, .int .i64 (t.toNat:Nat), .int .u8 0, .int .u64 0, .int .i64 0, .int .i64 0, .int .u64 0, .int .i64 0, .int .u8 0] 91)::(b3,cells [.int .i64 0] 30)::(b7, .cells arr7 e7 fr7)::H)) hR2 (by exact ja)) ja ?_;exact zk0.1):G:=h ⟨k⟩
theorem zmN (k:G') (h:Hid G'→G:=by intro zk0;refine jB (reight_K (B:=((b2,cells [.int .u8 1, .int .i64 (t.toNat:Nat), .int .u8 0, .int .u64 0, .int .i64 0, .int .i64 0, .int .u64 0, .int .i64 0, .int .u8 0] 91)::(b3,cells [.int .i64 0] 30)::(b7, .cells arr7 e7 fr7)::H)) hR3 h8 (by exact ja)) ja ?_;exact zk0.1):G:=h ⟨k⟩
theorem zs1 (k:G') (h:Hid G'→G:=by intro zk0;refine KL.v rfl (Val.fieldAddrZ rfl rfl) ?_;exact zk0.1):G:=h ⟨k⟩
theorem zmO (k:G') (h:Hid G'→G:=by intro zk0;refine jB (rfour_K (B:=((b2,cells [.int .u8 1, .int .i64 (t.toNat:Nat), .int .u8 (c.toNat:Nat), .int .u64 (nb (l3.take 8):Nat), .int .i64 0, .int .i64 0, .int .u64 0, .int .i64 0, .int .u8 0] 91)::(b3,cells [.int .i64 0] 30)::(b7, .cells arr7 e7 fr7)::H)) hR4 h12 (by exact ja)) ja ?_;exact zk0.1):G:=h ⟨k⟩
theorem zmP (k:G') (h:Hid G'→G:=by intro zk0;refine jB (rfour_K (B:=((b2,cells [.int .u8 1, .int .i64 (t.toNat:Nat), .int .u8 (c.toNat:Nat), .int .u64 (nb (l3.take 8):Nat), .int .i64 0, .int .i64 0, .int .u64 0, .int .i64 0, .int .u8 0] 91)::(b3,cells [.int .i64 0] 30)::(b7, .cells arr7 e7 fr7)::H)) hR5 h16 (by exact ja)) ja ?_;exact zk0.1):G:=h ⟨k⟩
theorem zq1 (k:G') (h:Hid G'→G:=by intro zk0;refine KL.v rfl (Val.fieldAddr (k:=2) rfl rfl) ?_;exact zk0.1):G:=h ⟨k⟩
theorem zq2 (k:G') (h:Hid G'→G:=by intro zk0;refine KL.v rfl (Val.fieldAddr (k:=3) rfl rfl) ?_;exact zk0.1):G:=h ⟨k⟩
theorem zmQ (k:G') (h:Hid G'→G:=by intro zk0;refine jB (reight_K (B:=((b2,cells [.int .u8 1, .int .i64 (t.toNat:Nat), .int .u8 (c.toNat:Nat), .int .u64 (nb (l3.take 8):Nat), .int .i64 (sgnP (nb ((l3.drop 8).take 4))), .int .i64 (sgnP (nb (((l3.drop 8).drop 4).take 4))), .int .u64 0, .int .i64 0, .int .u8 0] 91)::(b3,cells [.int .i64 0] 30)::(b7, .cells arr7 e7 fr7)::H)) hR6 h24 (by exact ja)) ja ?_;exact zk0.1):G:=h ⟨k⟩
theorem zuu (k:G') (h:Hid G'→G:=by intro zk0;refine KL.v rfl (Val.fieldAddr (k:=4) rfl rfl) ?_;exact zk0.1):G:=h ⟨k⟩
theorem zuv (h:G:=by exact KE.finD (fun w hw=>get1_R hw) (by kernel_rfl) rfl jd (by exact ja) ⟨by unfold enA;rw [hyes];rfl,rfl⟩):G:=h
theorem zmR (k:G') (h:Hid G'→G:=by intro zk0;refine KL.callP rfl jar ((reight_P (A:=((b2,cells [.int .u8 1, .int .i64 (t.toNat:Nat), .int .u8 (c.toNat:Nat), .int .u64 (nb (l3.take 8):Nat), .int .i64 (sgnP (nb ((l3.drop 8).take 4))), .int .i64 (sgnP (nb (((l3.drop 8).drop 4).take 4))), .int .u64 0, .int .i64 0, .int .u8 0] 91)::(b3,cells [.int .i64 0] 30)::(b7, .cells arr7 e7 fr7)::H)) (hR6.part (by exact ja)) (by omega)).part (by exact ja)) ?_;exact zk0.1):G:=h ⟨k⟩
theorem zmS (k:G') (h:Hid G'→G:=by intro zk0;refine KL.callP rfl jar ((rfour_P (A:=((b2,cells [.int .u8 1, .int .i64 (t.toNat:Nat), .int .u8 (c.toNat:Nat), .int .u64 (nb (l3.take 8):Nat), .int .i64 0, .int .i64 0, .int .u64 0, .int .i64 0, .int .u8 0] 91)::(b3,cells [.int .i64 0] 30)::(b7, .cells arr7 e7 fr7)::H)) (hR5.part (by exact ja)) (by omega)).part (by exact ja)) ?_;exact zk0.1):G:=h ⟨k⟩
theorem zmT (k:G') (h:Hid G'→G:=by intro zk0;refine KL.callP rfl jar ((rfour_P (A:=((b2,cells [.int .u8 1, .int .i64 (t.toNat:Nat), .int .u8 (c.toNat:Nat), .int .u64 (nb (l3.take 8):Nat), .int .i64 0, .int .i64 0, .int .u64 0, .int .i64 0, .int .u8 0] 91)::(b3,cells [.int .i64 0] 30)::(b7, .cells arr7 e7 fr7)::H)) (hR4.part (by exact ja)) (by omega)).part (by exact ja)) ?_;exact zk0.1):G:=h ⟨k⟩
theorem zmU (k:G') (h:Hid G'→G:=by intro zk0;refine KL.callP rfl jar ((reight_P (A:=((b2,cells [.int .u8 1, .int .i64 (t.toNat:Nat), .int .u8 0, .int .u64 0, .int .i64 0, .int .i64 0, .int .u64 0, .int .i64 0, .int .u8 0] 91)::(b3,cells [.int .i64 0] 30)::(b7, .cells arr7 e7 fr7)::H)) (hR3.part (by exact ja)) (by omega)).part (by exact ja)) ?_;exact zk0.1):G:=h ⟨k⟩
theorem zmV (k:G') (h:Hid G'→G:=by intro zk0;refine KL.callP rfl jar ((rone_P (A:=((b2,cells [.int .u8 2, .int .i64 0, .int .u8 0, .int .u64 0, .int .i64 0, .int .i64 0, .int .u64 0, .int .i64 0, .int .u8 0] 91)::(b3,cells [.int .i64 0] 30)::(b7, .cells arr7 e7 fr7)::H)) (hR1.part (by exact ja)) (by decide)).part (by exact ja)) ?_;exact zk0.1):G:=h ⟨k⟩
theorem zuw (k:G') (h:Hid G'→G:=by intro zk0;refine jB (rone_C (B:=((b2,cells [.int .u8 2, .int .i64 0, .int .u8 0, .int .u64 0, .int .i64 0, .int .i64 0, .int .u64 0, .int .i64 0, .int .u8 0] 91)::(b3,cells [.int .i64 0] 30)::(b7, .cells arr7 e7 fr7)::H)) hR1 (by exact ja)) ja ?_;exact zk0.1):G:=h ⟨k⟩
theorem zmW (k:G') (h:Hid G'→G:=by intro zk0;refine KL.callP rfl jar ((rone_P (A:=((b2,cells [.int .u8 2, .int .i64 0, .int .u8 0, .int .u64 0, .int .i64 0, .int .i64 0, .int .u64 0, .int .i64 0, .int .u8 0] 91)::(b3,cells [.int .i64 0] 30)::(b7, .cells arr7 e7 fr7)::H)) (hR2.part (by exact ja)) (by decide)).part (by exact ja)) ?_;exact zk0.1):G:=h ⟨k⟩
theorem zmX (k:G') (h:Hid G'→G:=by intro zk0;refine jB (rone_C (B:=((b2,cells [.int .u8 2, .int .i64 0, .int .u8 0, .int .u64 0, .int .i64 0, .int .i64 0, .int .u64 0, .int .i64 0, .int .u8 0] 91)::(b3,cells [.int .i64 0] 30)::(b7, .cells arr7 e7 fr7)::H)) hR2 (by exact ja)) ja ?_;exact zk0.1):G:=h ⟨k⟩
theorem zq3 (k:G') (h:Hid G'→G:=by intro zk0;refine Call.enter1 (n:=19) (by rfl) Tryz.func70 rfl rfl rfl ?_;exact zk0.1):G:=h ⟨k⟩
theorem zq4 (k:G') (h:Hid G'→G:=by intro zk0;refine K.loopT (σ:=Nat) [(0,_)] (fun s kp_=>(4, .int .i64 (s:Nat))::(3, .int .u64 (nb (l.take s):Nat))::kp_) (fun s=>H) (fun s=>s≤l.length) (fun s=>l.length-s) (0) jc ja (Nat.zero_le _) ?_;exact zk0.1):G:=h ⟨k⟩
theorem zgZ (k:G') (h:Hid G'→G:=by intro zk0;refine KL.v rfl (Val.lenB rfl rfl) ?_;exact zk0.1):G:=h ⟨k⟩
theorem zpa (k:G') (h:Hid G'→G:=by intro zk0;refine KL.v rfl (Val.idxB rfl rfl rfl (by assumption)) ?_;exact zk0.1):G:=h ⟨k⟩
theorem zk6 (k:G') (h:Hid G'→G:=by intro zk0;refine Call.enter1 (n:=12) (by rfl) Tryz.func71 rfl rfl rfl ?_;exact zk0.1):G:=h ⟨k⟩
theorem zmY (k:G') (h:Hid G'→G:=by intro zk0;refine Call.enter1 (n:=19) (by rfl) Tryz.func33 rfl rfl rfl ?_;exact zk0.1):G:=h ⟨k⟩
theorem zmZ (k:G') (h:Hid G'→G:=by intro zk0;refine K.fact (p:=ls.length≤9223372036854775807) (fun w hw=>(hS w hw).le) ?_;exact zk0.1):G:=h ⟨k⟩
theorem zm0 (k:G') (h:Hid G'→G:=by intro zk0;refine K.loopT (σ:=Nat) [(0,_)] (fun s kp_=>(3, .int .i64 (s:Nat))::kp_) (fun s=>H) (fun s=>s≤ls.length∧ls.any (fun b=>decide (b.length>255))=(ls.drop s).any (fun b=>decide (b.length>255))) (fun s=>ls.length-s) (0) jc ja (⟨Nat.zero_le _,rfl⟩) ?_;exact zk0.1):G:=h ⟨k⟩
theorem zux (k:G') (h:Hid G'→G:=by intro zk0;refine Call.enter1 (n:=46) (by rfl) Tryz.func41 rfl rfl rfl ?_;exact zk0.1):G:=h ⟨k⟩
theorem zq5 (k:G') (h:Hid G'→G:=by intro zk0;refine K.drawn [] [(0,0),(1,0),(2,0),(3,0),(4,0),(5,0),(6,2),(7,0)] (by rfl) (by rfl) (by kernel_rfl) (by rfl) (by rfl) (by rfl) Part.nil ?_;exact zk0.1):G:=h ⟨k⟩
theorem zk7 (k:G') (h:Hid G'→G:=by intro zk0;refine KD.v0 rfl rfl (Val.idxB rfl rfl rfl (by assumption)) ?_;exact zk0.1):G:=h ⟨k⟩
theorem zq6 (k:G') (h:Hid G'→G:=by intro zk0;refine KD.v0 rfl rfl (Val.conv rfl rfl rfl (by grind[qL,qH])) ?_;exact zk0.1):G:=h ⟨k⟩
theorem zq7 (k:G') (h:Hid G'→G:=by intro zk0;refine K.drawn _ [(0,1),(1,1),(2,1),(3,1),(4,1),(5,0),(6,0),(8,1),(9,1),(11,1),(12,1),(14,1),(15,1),(7,2),(10,2),(13,2),(16,2),(17,0),(18,0),(19,2),(20,0)] (by rfl) (by rfl) (by kernel_rfl) (by rfl) (by rfl) (by rfl) (Part.drop Part.all) ?_;exact zk0.1):G:=h ⟨k⟩
theorem zk8 (k:G') (h:Hid G'→G:=by intro zk0;refine KD.v1 rfl rfl (Val.idxB rfl rfl rfl (by assumption)) ?_;exact zk0.1):G:=h ⟨k⟩
theorem zq8 (k:G') (h:Hid G'→G:=by intro zk0;refine KD.v0 rfl rfl (Val.subBZ rfl rfl rfl rfl (by omega)) ?_;exact zk0.1):G:=h ⟨k⟩
theorem zk9 (k:G') (h:Hid G'→G:=by intro zk0;refine KD.v1 rfl rfl (Val.subBZ rfl rfl rfl rfl (by omega)) ?_;exact zk0.1):G:=h ⟨k⟩
theorem zpb (k:G') (h:Hid G'→G:=by intro zk0;refine Call.enter2 (n:=11) (by rfl) Tryz.func96 rfl rfl rfl ?_;exact zk0.1):G:=h ⟨k⟩
theorem zpc (k:G') (h:Hid G'→G:=by intro zk0;refine K.drawn _ [(0,0),(1,0),(2,1),(3,1),(4,1),(5,1),(6,2),(7,0)] (by rfl) (by rfl) (by kernel_rfl) (by rfl) (by rfl) (by rfl) (Part.drop Part.all) ?_;exact zk0.1):G:=h ⟨k⟩
theorem zuy (k:G') (h:Hid G'→G:=by intro zk0;refine KD.v1 rfl rfl (Val.loadP rfl rfl (jJ.more (by assumption) ja)) ?_;exact zk0.1):G:=h ⟨k⟩
theorem zpd (k:G') (h:Hid G'→G:=by intro zk0;refine Call.enter2 (n:=29) (by rfl) Tryz.func95 rfl rfl rfl ?_;exact zk0.1):G:=h ⟨k⟩
theorem zpe (k:G') (h:Hid G'→G:=by intro zk0;refine K.loopT (σ:=MtO) [(1,_),(10,_),(11,_)] (fun s kp_=>(12, .int .i64 (s.k:Nat))::(5,oV s.o (ofW (l.take s.k) t).length)::kp_) (fun s=>oH sqE 43 (ofW (l.take s.k) t) s.o++H) (fun s=>s.k≤l.length∧oOk sqE (ofW (l.take s.k) t) s.o) (fun s=>l.length-s.k) (⟨0,none⟩) jc ja (⟨Nat.zero_le _,rfl⟩) ?_;exact zk0.1):G:=h ⟨k⟩
theorem zh3 (k:G') (h:Hid G'→G:=by intro zk0;refine(hp1 _ (by exact ja)).mono ?_;exact zk0.1):G:=h ⟨k⟩
theorem zpf (h:G:=by exact KE.again ⟨k+1,o'⟩ jc ja ⟨by show k+1≤_;omega,ok'⟩ (by show l.length-(k+1)<l.length-k;omega)):G:=h
theorem zpg (h:G:=by exact KE.again ⟨k+1,o⟩ jc ja ⟨by show k+1≤_;omega,ok⟩ (by show l.length-(k+1)<l.length-k;omega)):G:=h
theorem zg0 (h:G:=by exact KE.fin je rfl jd ja ⟨o,ok,rfl,rfl⟩):G:=h
theorem zph (k:G') (h:Hid G'→G:=by intro zk0;refine Call.enter2 (n:=8) (by rfl) Tryz.func67 rfl rfl rfl ?_;exact zk0.1):G:=h ⟨k⟩
theorem zpi (k:G') (h:Hid G'→G:=by intro zk0;refine JY (wpicked_K (t:=t) (hS.part ja) hl fun A hA x=>CallV.clo (cap:=[.pointer (some ⟨b3,0,none⟩)]) (wOf1_K x ((jJ.cell ju rfl).more hA))) ?_;exact zk0.1):G:=h ⟨k⟩
theorem zq9 (k:G') (h:Hid G'→G:=by intro zk0;refine Call.enter2 (n:=26) (by rfl) Tryz.func38 rfl rfl rfl ?_;exact zk0.1):G:=h ⟨k⟩
theorem zra (k:G') (h:Hid G'→G:=by intro zk0;refine K.loopT (σ:=Nat) [(0,_),(1,_)] (fun s kp_=>(5, .int .i64 (s:Nat))::kp_) (fun s=>H) (fun s=>s≤L.length) (fun s=>L.length-s) (0) jc ja (Nat.zero_le _) ?_;exact zk0.1):G:=h ⟨k⟩
theorem zrb (k:G') (h:Hid G'→G:=by intro zk0;refine KD.v0 rfl rfl (Val.neqAE rfl rfl (by simp_all) je4 (by grind)) ?_;exact zk0.1):G:=h ⟨k⟩
theorem zjR (k:G') (h:Hid G'→G:=by intro zk0;refine Call.enter1 (n:=12) (by rfl) Tryz.func63 rfl rfl rfl ?_;exact zk0.1):G:=h ⟨k⟩
theorem zdS (h:G:=by exact KE.fin je rfl jd (by first|exact ja|(simp only[mcH_app];exact ja)) ⟨rfl,rfl⟩):G:=h
theorem zjS (k:G') (h:Hid G'→G:=by intro zk0;refine Call.enter1 (n:=10) (by rfl) Tryz.func44 rfl rfl rfl ?_;exact zk0.1):G:=h ⟨k⟩
theorem zuz (k:G') (h:Hid G'→G:=by intro zk0;refine jn (mnone0_K (M:=M)) ja ?_;exact zk0.1):G:=h ⟨k⟩
theorem zm1 (k:G') (h:Hid G'→G:=by intro zk0;refine Call.enter2 (n:=13) (by rfl) Tryz.func39 rfl rfl rfl ?_;exact zk0.1):G:=h ⟨k⟩
theorem zpj (k:G') (h:Hid G'→G:=by intro zk0;refine JY (traceOf_K (Sli.own jj ho rfl) hll) ?_;exact zk0.1):G:=h ⟨k⟩
theorem zpk (h:G:=by exact KE.fin je rfl jd (by first|exact ja|(simp only[mcH_app];exact ja)) ⟨o,ok,rfl,rfl⟩):G:=h
theorem zm2 (k:G') (h:Hid G'→G:=by intro zk0;refine Call.enter1 (n:=6) (by rfl) Tryz.func64 rfl rfl rfl ?_;exact zk0.1):G:=h ⟨k⟩
theorem zm3 (k:G') (h:Hid G'→G:=by intro zk0;refine Call.enter1 (n:=17) (by rfl) Tryz.func35 rfl rfl rfl ?_;exact zk0.1):G:=h ⟨k⟩
theorem zm4 (h:G:=by exact KE.fin je rfl jd ja ⟨b16,⟨b16,f,[],none⟩,⟨rfl,z,rfl,rfl⟩,rfl,rfl⟩):G:=h
theorem zla (k:G') (h:Hid G'→G:=by intro zk0;refine Call.enter2 (n:=49) (by rfl) Tryz.func66 rfl rfl rfl ?_;exact zk0.1):G:=h ⟨k⟩
theorem zm5 (k:G') (h:Hid G'→G:=by intro zk0;(first|refine K.seq (K.drawn ([]) [(0,0),(1,0),(2,0),(3,0),(4,0),(5,0),(6,0),(7,0),(8,0),(9,0),(10,0),(11,0),(12,0),(13,0),(14,2)] (by rfl) (by rfl) (by kernel_rfl) (by rfl) (by rfl) (by rfl) ja ?_)|refine K.seq (K.seq (K.drawn ([]) [(0,0),(1,0),(2,0),(3,0),(4,0),(5,0),(6,0),(7,0),(8,0),(9,0),(10,0),(11,0),(12,0),(13,0),(14,2)] (by kernel_rfl) (by kernel_rfl) (by kernel_rfl) (by kernel_rfl) (by kernel_rfl) (by kernel_rfl) ja ?_))|refine K.drawn ([]) [(0,0),(1,0),(2,0),(3,0),(4,0),(5,0),(6,0),(7,0),(8,0),(9,0),(10,0),(11,0),(12,0),(13,0),(14,2)] (by kernel_rfl) (by kernel_rfl) (by kernel_rfl) (by kernel_rfl) (by kernel_rfl) (by kernel_rfl) ja ?_);exact zk0.1):G:=h ⟨k⟩
theorem zm6 (k:G') (h:Hid G'→G:=by intro zk0;(first|refine KD.v0 rfl rfl (Val.conv rfl rfl rfl (by grind[qL,qH])) ?_|refine KD.v0 rfl rfl (Val.convW rfl rfl rfl) ?_);exact zk0.1):G:=h ⟨k⟩
theorem zm7 (k:G') (h:Hid G'→G:=by intro zk0;(first|refine KD.v0 rfl rfl (Val.quoN rfl rfl (by grind[qL,qH])) ?_|refine KD.v0 rfl rfl (Val.quo rfl rfl (by omega)) ?_);exact zk0.1):G:=h ⟨k⟩
theorem zm8 (k:G') (h:Hid G'→G:=by intro zk0;(first|refine KD.v0 rfl rfl (Val.remN rfl rfl (by omega)) ?_|refine KD.v0 rfl rfl (Val.rem rfl rfl (by omega)) ?_);exact zk0.1):G:=h ⟨k⟩
theorem zm9 (k:G') (h:Hid G'→G:=by intro zk0;refine(CallV.part (CallV.fn (hs _)) ja).mono ?_;exact zk0.1):G:=h ⟨k⟩
theorem zna (h:G:=by exact KE.fin (H':=mcH {M with f:=f'}++F) je rfl jd (by rw[mcH_app];dsimp only;rw [zf'.b];exact ja) ⟨rfl,f',zf'.b,by rw[←e1];exact zf'.mono (by omega),mcH_app⟩):G:=h
theorem zuA (k:G') (h:Hid G'→G:=by intro zk0;refine K.drawn ((b4,cells [.int .i64 0, .int .i64 0, .int .u64 0, .int .u64 0, .int .i64 0, .int .i64 0, .int .i64 0, .int .i64 0, .bool false] 80)::((b3,cells [.int .u8 (xk:Nat), .int .i64 xt, .int .u8 (oc:Nat), .int .u64 (oh:Nat), .int .i64 oa, .int .i64 ob, .int .u64 (ov:Nat), .int .i64 xw, .int .u8 (xu:Nat)] 91)::((M.b,cells [.pointer (some ⟨M.f.b,0,none⟩),oV M.o M.l.length] 101)::(oH wtE 80 M.l M.o++ [])))) [(0,1),(1,1),(2,1),(3,1),(4,1),(5,1),(6,1),(7,1),(8,3),(9,1),(10,1),(11,1),(12,2),(13,2),(14,0)] (by rfl) (by rfl) (by kernel_rfl) (by rfl) (by rfl) (by rfl) ja ?_;exact zk0.1):G:=h ⟨k⟩
theorem zs2 (h:G:=by exact KE.meet ⟨b6,f1⟩ jc ja zf1):G:=h
theorem zfO (h:G:=by exact KE.fin (H':=mcH {M with f:=f1}++F) je rfl jd (by rw[mcH_app];dsimp only;rw [zf1.b];exact ja) ⟨rfl,f1,zf1.b,zf1,mcH_app⟩):G:=h
theorem zuB (k:G') (h:Hid G'→G:=by intro zk0;refine jp (hwr _) ?_;exact zk0.1):G:=h ⟨k⟩
theorem znb (k:G') (h:Hid G'→G:=by intro zk0;refine Call.enter2 (n:=49) (by kernel_rfl) Tryz.func66 rfl rfl rfl ?_;exact zk0.1):G:=h ⟨k⟩
theorem znc (h:G:=by exact KE.fin je rfl jd ja ⟨rfl,M.f,rfl,hzf.mono (by omega),rfl⟩):G:=h
theorem zuC (k:G') (h:Hid G'→G:=by intro zk0;refine Call.enter2 (n:=37) (by rfl) Tryz.func36 rfl rfl rfl ?_;exact zk0.1):G:=h ⟨k⟩
theorem zuD (k:G') (h:Hid G'→G:=by intro zk0;refine jp (hg _) ?_;exact zk0.1):G:=h ⟨k⟩
theorem zuE (k:G') (h:Hid G'→G:=by intro zk0;refine jB (hd _) ja ?_;exact zk0.1):G:=h ⟨k⟩
theorem znd (k:G') (h:Hid G'→G:=by intro zk0;refine K.drawn ((b8,cells [.int .i64 wt, .int .i64 e, .int .u64 (hh:Nat), .int .u64 w, .int .i64 addr, .int .i64 us, .int .i64 si, .int .i64 cy, .bool ac] 80)::[]) [(0,1),(1,0),(2,0),(3,0),(4,0),(5,0),(6,5),(7,2),(8,0),(9,0),(10,2)] (by rfl) (by rfl) (by kernel_rfl) (by rfl) (by rfl) (by rfl) ja ?_;exact zk0.1):G:=h ⟨k⟩
theorem zne (k:G') (h:Hid G'→G:=by intro zk0;(first|refine KD.v0 rfl rfl (Val.loadAP rfl rfl rfl jgr) ?_|refine KD.v0 rfl rfl (Val.loadA rfl rfl rfl jfD) ?_);exact zk0.1):G:=h ⟨k⟩
theorem znf (k:G') (h:Hid G'→G:=by intro zk0;refine KD.eM rfl rfl (Eff.buildS jdh rfl rfl rfl rfl rfl jdk) ?_;rintro _ _ ⟨v0,rfl,rfl⟩;revert v0;exact zk0.1):G:=h ⟨k⟩
theorem zng (h:G:=by exact KE.meet oz jc (by rw[mcH_app];exact ja) okz):G:=h
theorem znh (h:G:=by exact KE.fin je rfl jd ja ⟨rfl,⟨M.b,f',_,oz⟩,⟨rfl,by grind,by grind,okz⟩,rfl⟩):G:=h
theorem zni (h:G:=by exact KE.fin je rfl jd ja ⟨rfl,⟨M.b,f',M.l,M.o⟩,⟨rfl,by grind,by grind,ho⟩,rfl⟩):G:=h
theorem znj (h:G:=by exact mcNew_K hG ⟨hC.part ja,hT.part ja,rfl,rfl,by decide,by decide⟩ (okF_cfg fx_ok)):G:=h
theorem znk (k:G') (h:Hid G'→G:=by intro zk0;refine Call.enter0 (n:=107) (by kernel_rfl) Tryz.func34 rfl rfl rfl ?_;exact zk0.1):G:=h ⟨k⟩
theorem zuF (k:G') (h:Hid G'→G:=by intro zk0;refine KL.v rfl (Val.addB rfl rfl (by first|assumption|omega|(simp only[List.length_cons,List.length_nil];omega)|(simp;omega))) ?_;exact zk0.1):G:=h ⟨k⟩
theorem zs3 (k:G') (h:Hid G'→G:=by intro zk0;refine KL.v rfl (Val.addB rfl rfl (by first|assumption|omega|(simp only[List.length_append,List.length_cons,List.length_nil];omega)|(simp;omega))) ?_;exact zk0.1):G:=h ⟨k⟩
theorem zuG (k:G') (h:Hid G'→G:=by intro zk0;refine jp (hlo _ ja) ?_;exact zk0.1):G:=h ⟨k⟩
theorem zpn (k:G') (h:Hid G'→G:=by intro zk0;refine(CallV.part (CallV.fn (hT1 _)) ja).mono ?_;exact zk0.1):G:=h ⟨k⟩
theorem zrc (k:G') (h:Hid G'→G:=by intro zk0;refine jp (sameSeen_K (Sli.own jj koa rfl) (Sli.own jj kob rfl) (by omega)) ?_;exact zk0.1):G:=h ⟨k⟩
theorem zpo (k:G') (h:Hid G'→G:=by intro zk0;refine Call.enter1 (n:=9) (by rfl) Tryz.func42 rfl rfl rfl ?_;exact zk0.1):G:=h ⟨k⟩
theorem zrd (k:G') (h:Hid G'→G:=by intro zk0;refine Call.at_ (zMem (w0:=w0) z.f) (by rw[mcH_app];exact ja) ?_;exact zk0.1):G:=h ⟨k⟩
theorem zre (h:G:=by exact⟨_,⟨rfl,rfl⟩,by rw[mcH_app];exact ja⟩):G:=h
theorem zrf (k:G') (h:Hid G'→G:=by intro zk0;refine Call.at_ (zAll (w0:=w0) z.f) (by rw[mcH_app];exact ja) ?_;exact zk0.1):G:=h ⟨k⟩
theorem zrg (h:G:=by exact⟨_,⟨o,ok,rfl,rfl⟩,by rw[mcH_app];exact ja⟩):G:=h
theorem zri (k:G') (h:Hid G'→G:=by intro zk0;refine(CallV.fn (fSame_K (Sli.own jj koa rfl) (Sli.own jj kod rfl) hxl)).mono ?_;exact zk0.1):G:=h ⟨k⟩
theorem zpp (k:G') (h:Hid G'→G:=by intro zk0;refine Call.enter3 (n:=151) (by kernel_rfl) Tryz.func12 rfl rfl rfl ?_;exact zk0.1):G:=h ⟨k⟩
theorem zdU (k:G') (h:Hid G'→G:=by intro zk0;refine zbb ?_;refine zp ?_;exact zk0.1):G:=h ⟨k⟩
theorem ztb (k:G') (h:Hid G'→G:=by intro zk0;refine zN ?_;refine zeh ?_;exact zk0.1):G:=h ⟨k⟩
theorem zeq (k:G') (h:Hid G'→G:=by intro zk0;refine za4 ?_;refine zn ?_;exact zk0.1):G:=h ⟨k⟩
theorem zrp (k:G') (h:Hid G'→G:=by intro zk0;refine zp ?_;refine zui ?_;exact zk0.1):G:=h ⟨k⟩
theorem ze5 (k:G') (h:Hid G'→G:=by intro zk0;refine zfP ?_;refine zp ?_;exact zk0.1):G:=h ⟨k⟩
theorem ztg (k:G') (h:Hid G'→G:=by intro zk0;refine ztb ?_;refine zfS ?_;exact zk0.1):G:=h ⟨k⟩
theorem znr (k:G') (h:Hid G'→G:=by intro zk0;refine zaR ?_;refine zZ ?_;exact zk0.1):G:=h ⟨k⟩
theorem zeu (k:G') (h:Hid G'→G:=by intro zk0;refine zbY ?_;intro v0;refine zj0 ?_;revert v0;exact zk0.1):G:=h ⟨k⟩
theorem ze6 (k:G') (h:Hid G'→G:=by intro zk0;refine ztg ?_;refine zpA ?_;exact zk0.1):G:=h ⟨k⟩
theorem zrt (k:G') (h:Hid G'→G:=by intro zk0;refine zbH ?_;refine zjW ?_;exact zk0.1):G:=h ⟨k⟩
theorem zj3 (k:G') (h:Hid G'→G:=by intro zk0;refine zj ?_;refine ze5 ?_;exact zk0.1):G:=h ⟨k⟩
theorem zdC (h:G:=by refine zrp ?_;exact zaL):G:=h
theorem ztn (k:G') (h:Hid G'→G:=by intro zk0;refine ztm ?_;refine zjZ ?_;exact zk0.1):G:=h ⟨k⟩
theorem zto (k:G') (h:Hid G'→G:=by intro zk0;refine zaq ?_;refine zaz ?_;exact zk0.1):G:=h ⟨k⟩
theorem ze8 (k:G') (h:Hid G'→G:=by intro zk0;refine zjX ?_;refine zeq ?_;exact zk0.1):G:=h ⟨k⟩
theorem zex (k:G') (h:Hid G'→G:=by intro zk0;refine zdV ?_;refine zld ?_;exact zk0.1):G:=h ⟨k⟩
theorem zlg (k:G') (h:Hid G'→G:=by intro zk0;refine zbb ?_;refine zuo ?_;refine zup ?_;exact zk0.1):G:=h ⟨k⟩
theorem za1 (k:G') (h:Hid G'→G:=by intro zk0;refine zcx ?_;refine zag ?_;exact zk0.1):G:=h ⟨k⟩
theorem zie (k:G') (h:Hid G'→G:=by intro zk0;refine zbH ?_;refine zj ?_;exact zk0.1):G:=h ⟨k⟩
theorem zry (k:G') (h:Hid G'→G:=by intro zk0;refine zX ?_;refine zcq ?_;exact zk0.1):G:=h ⟨k⟩
theorem zb3 (k:G') (h:Hid G'→G:=by intro zk0;refine zcf ?_;refine zuj ?_;exact zk0.1):G:=h ⟨k⟩
theorem zj4 (k:G') (h:Hid G'→G:=by intro zk0;refine zeu ?_;intro v0;refine zy ?_;revert v0;exact zk0.1):G:=h ⟨k⟩
theorem zfa (k:G') (h:Hid G'→G:=by intro zk0;refine zbc ?_;intro v0 v1;refine zbX ?_;revert v0 v1;exact zk0.1):G:=h ⟨k⟩
theorem zdb (k:G') (h:Hid G'→G:=by intro zk0;refine zjX ?_;refine zZ ?_;exact zk0.1):G:=h ⟨k⟩
theorem zfc (k:G') (h:Hid G'→G:=by intro zk0;refine zl ?_;refine zO ?_;exact zk0.1):G:=h ⟨k⟩
theorem zdc (k:G') (h:Hid G'→G:=by intro zk0;refine zbL ?_;refine JY hN ?_;exact zk0.1):G:=h ⟨k⟩
theorem zfW (k:G') (h:Hid G'→G:=by intro zk0;refine wpSIn_seq ?_;refine wpSIn_region ?_;exact zk0.1):G:=h ⟨k⟩
theorem zlj (k:G') (h:Hid G'→G:=by intro zk0;refine zak ?_;refine zlg ?_;exact zk0.1):G:=h ⟨k⟩
theorem zll (k:G') (h:Hid G'→G:=by intro zk0;refine zdY ?_;refine ze6 ?_;exact zk0.1):G:=h ⟨k⟩
theorem zj5 (k:G') (h:Hid G'→G:=by intro zk0;refine zgZ ?_;refine zC ?_;refine zbg ?_;exact zk0.1):G:=h ⟨k⟩
theorem ztu (k:G') (h:Hid G'→G:=by intro zk0;refine zjW ?_;refine zjN ?_;refine zie ?_;exact zk0.1):G:=h ⟨k⟩
theorem zlo (k:G') (h:Hid G'→G:=by intro zk0;refine ztb ?_;refine zpA ?_;exact zk0.1):G:=h ⟨k⟩
theorem zj7 (k:G') (h:Hid G'→G:=by intro zk0;refine zux ?_;refine zbx ?_;intro v0;refine zad ?_;revert v0;exact zk0.1):G:=h ⟨k⟩
theorem zfX (k:G') (h:Hid G'→G:=by intro zk0;refine zaz ?_;refine zuu ?_;refine ztn ?_;exact zk0.1):G:=h ⟨k⟩
theorem zcZ (k:G') (h:Hid G'→G:=by intro zk0;refine zrt ?_;refine ztu ?_;exact zk0.1):G:=h ⟨k⟩
theorem zlq (k:G') (h:Hid G'→G:=by intro zk0;refine zj3 ?_;refine jB (hda _) ja ?_;exact zk0.1):G:=h ⟨k⟩
theorem zlr (k:G') (h:Hid G'→G:=by intro zk0;refine zbd ?_;intro v0;refine zU ?_;revert v0;exact zk0.1):G:=h ⟨k⟩
theorem zfY (k:G') (h:Hid G'→G:=by intro zk0;refine zq1 ?_;refine zto ?_;refine zq2 ?_;exact zk0.1):G:=h ⟨k⟩
theorem zrH (k:G') (h:Hid G'→G:=by intro zk0;refine zj4 ?_;intro v0;refine zev ?_;refine zuG ?_;revert v0;exact zk0.1):G:=h ⟨k⟩
theorem zd3 (h:G:=by refine zbh ?_;exact zdC):G:=h
theorem zfZ (h:G:=by refine zaA ?_;refine ztv ?_;refine zdB ?_;exact zuv):G:=h
theorem zf0 (k:G') (h:Hid G'→G:=by intro zk0;refine zaG ?_;refine zlj ?_;exact zk0.1):G:=h ⟨k⟩
theorem zls (h:G:=by refine zm ?_;exact zk5):G:=h
theorem zdk (k:G') (h:Hid G'→G:=by intro zk0;refine zrE ?_;refine zuq ?_;exact zk0.1):G:=h ⟨k⟩
theorem zf5 (k:G') (h:Hid G'→G:=by intro zk0;simp only[mcH_app];refine zfa ?_;intro v0 v1;revert v0 v1;exact zk0.1):G:=h ⟨k⟩
theorem znD (k:G') (h:Hid G'→G:=by intro zk0;refine zuD ?_;refine zaO ?_;intro v0;revert v0;exact zk0.1):G:=h ⟨k⟩
theorem zlt (k:G') (h:Hid G'→G:=by intro zk0;refine zB ?_;refine zj3 ?_;exact zk0.1):G:=h ⟨k⟩
theorem zf7 (k:G') (h:Hid G'→G:=by intro zk0;refine zs1 ?_;refine zto ?_;refine zsY ?_;exact zk0.1):G:=h ⟨k⟩
theorem zf8 (k:G') (h:Hid G'→G:=by intro zk0;refine ztx ?_;refine zc4 ?_;refine ztn ?_;exact zk0.1):G:=h ⟨k⟩
theorem zeG (k:G') (h:Hid G'→G:=by intro zk0;refine zgZ ?_;refine zg7 ?_;refine zpa ?_;exact zk0.1):G:=h ⟨k⟩
theorem zpS (k:G') (h:Hid G'→G:=by intro zk0;refine zbi ?_;refine zcq ?_;exact zk0.1):G:=h ⟨k⟩
theorem zf9 (h:G:=by refine ze7 ?_;exact zs2):G:=h
theorem zfj (k:G') (h:Hid G'→G:=by intro zk0;refine zax ?_;refine za4 ?_;exact zk0.1):G:=h ⟨k⟩
theorem zga (k:G') (h:Hid G'→G:=by intro zk0;refine zdQ ?_;refine ze8 ?_;refine zut ?_;exact zk0.1):G:=h ⟨k⟩
theorem zgb (k:G') (h:Hid G'→G:=by intro zk0;refine zll ?_;refine zeq ?_;refine zuw ?_;exact zk0.1):G:=h ⟨k⟩
theorem zeL (k:G') (h:Hid G'→G:=by intro zk0;refine zrH ?_;intro v0;refine zx ?_;revert v0;exact zk0.1):G:=h ⟨k⟩
theorem zit (k:G') (h:Hid G'→G:=by intro zk0;refine zcx ?_;refine zp ?_;exact zk0.1):G:=h ⟨k⟩
theorem znH (h:G:=by rw[e,Oper.uponIn_panic];exact hk.out a w' ha hw'):G:=h
theorem zpX (k:G') (h:Hid G'→G:=by intro zk0;refine zln ?_;refine zkE ?_;exact zk0.1):G:=h ⟨k⟩
theorem zge (k:G') (h:Hid G'→G:=by intro zk0;refine zJ ?_;refine zuA ?_;refine zpJ ?_;refine zrI ?_;refine zqP ?_;exact zk0.1):G:=h ⟨k⟩
theorem znI (h:G:=by rw[e,Oper.uponIn_panic];exact hk.out a w ha hw):G:=h
theorem ziv (k:G') (h:Hid G'→G:=by intro zk0;refine zR ?_;refine zep ?_;exact zk0.1):G:=h ⟨k⟩
theorem zgh (k:G') (h:Hid G'→G:=by intro zk0;refine zdY ?_;refine zlo ?_;exact zk0.1):G:=h ⟨k⟩
theorem zgi (k:G') (h:Hid G'→G:=by intro zk0;refine zp ?_;refine zuB ?_;refine zpD ?_;exact zk0.1):G:=h ⟨k⟩
theorem zeR (k:G') (h:Hid G'→G:=by intro zk0;refine zbM ?_;refine zry ?_;exact zk0.1):G:=h ⟨k⟩
theorem zpZ (k:G') (h:Hid G'→G:=by intro zk0;refine zaf ?_;refine zuz ?_;simp only[mcH_app];refine zas ?_;exact zk0.1):G:=h ⟨k⟩
theorem znJ (k:G') (h:Hid G'→G:=by intro zk0;refine zr2 ?_;refine KL.v rfl (Val.or rfl rfl) ?_;exact zk0.1):G:=h ⟨k⟩
theorem zrQ (k:G') (h:Hid G'→G:=by intro zk0;refine zuC ?_;refine zbx ?_;intro v0;refine ze2 ?_;revert v0;exact zk0.1):G:=h ⟨k⟩
theorem zgl (k:G') (h:Hid G'→G:=by intro zk0;refine ztg ?_;refine zC ?_;exact zk0.1):G:=h ⟨k⟩
theorem zgm (k:G') (h:Hid G'→G:=by intro zk0;refine zcQ ?_;refine znq ?_;exact zk0.1):G:=h ⟨k⟩
theorem zfu (k:G') (h:Hid G'→G:=by intro zk0;refine zrN ?_;refine zj ?_;refine zco ?_;exact zk0.1):G:=h ⟨k⟩
theorem znK (h:G:=by rw[ha.1];exact⟨rfl,H',hw.part hp,h⟩):G:=h
theorem zhd (h:G:=by refine zK ?_;refine zcQ ?_;exact zq):G:=h
theorem zgp (k:G') (h:Hid G'→G:=by intro zk0;refine zex ?_;refine zfP ?_;refine zgZ ?_;exact zk0.1):G:=h ⟨k⟩
theorem zly (k:G') (h:Hid G'→G:=by intro zk0;refine zcR ?_;refine zbw ?_;refine zco ?_;exact zk0.1):G:=h ⟨k⟩
theorem zgu (k:G') (h:Hid G'→G:=by intro zk0;refine zj ?_;refine zpD ?_;exact zk0.1):G:=h ⟨k⟩
theorem zeT (k:G') (h:Hid G'→G:=by intro zk0;refine ztB ?_;intro v0;refine zbZ ?_;refine zar ?_;intro v1;refine zdU ?_;refine zuh ?_;revert v0 v1;exact zk0.1):G:=h ⟨k⟩
theorem zgw (k:G') (h:Hid G'→G:=by intro zk0;dsimp only;refine zla ?_;exact zk0.1):G:=h ⟨k⟩
theorem ziB (k:G') (h:Hid G'→G:=by intro zk0;refine zl ?_;refine zpR ?_;exact zk0.1):G:=h ⟨k⟩
theorem zp2 (k:G') (h:Hid G'→G:=by intro zk0;refine zlt ?_;refine jB (hdb _) ja ?_;exact zk0.1):G:=h ⟨k⟩
theorem zke (k:G') (h:Hid G'→G:=by intro zk0;refine zcz ?_;refine zaV ?_;exact zk0.1):G:=h ⟨k⟩
theorem zhg (k:G') (h:Hid G'→G:=by intro zk0;refine zpS ?_;refine zry ?_;exact zk0.1):G:=h ⟨k⟩
theorem zho (k:G') (h:Hid G'→G:=by intro zk0;refine zj7 ?_;intro v0;refine zj5 ?_;refine zez ?_;revert v0;exact zk0.1):G:=h ⟨k⟩
theorem zp3 (k:G') (h:Hid G'→G:=by intro zk0;refine zuy ?_;refine KD.v1 rfl rfl (Val.eql rfl rfl) ?_;exact zk0.1):G:=h ⟨k⟩
theorem zgG (h:G:=by refine zaT ?_;exact zls):G:=h
theorem zrR (k:G') (h:Hid G'→G:=by intro zk0;refine zP ?_;refine KD.v1 rfl rfl (Val.subBLZ rfl rfl rfl (by omega)) ?_;exact zk0.1):G:=h ⟨k⟩
theorem zgH (k:G') (h:Hid G'→G:=by intro zk0;refine zai ?_;refine zS ?_;refine zjZ ?_;refine zj ?_;exact zk0.1):G:=h ⟨k⟩
theorem zgI (k:G') (h:Hid G'→G:=by intro zk0;simp only[List.size_toArray,List.length_cons,List.length_nil,Nat.zero_add,Nat.reduceAdd,hr,wpOpsSIn,List.getElem?_toArray,List.getElem?_cons_zero,List.getElem?_cons_succ,Region.wanted,if_true,e1,hrec,e2,Exit.thenS];refine zur ?_;refine zus ?_;exact zk0.1):G:=h ⟨k⟩
theorem ztE (k:G') (h:Hid G'→G:=by intro zk0;refine zay ?_;refine zuF ?_;refine zs3 ?_;refine zj ?_;refine zs3 ?_;refine zp ?_;exact zk0.1):G:=h ⟨k⟩
theorem ziG (k:G') (h:Hid G'→G:=by intro zk0;refine zfc ?_;refine zA ?_;exact zk0.1):G:=h ⟨k⟩
theorem znM (k:G') (h:Hid G'→G:=by intro zk0;refine zcf ?_;refine JY (hn _ ja) ?_;exact zk0.1):G:=h ⟨k⟩
theorem znN (k:G') (h:Hid G'→G:=by intro zk0;refine ztE ?_;refine jB (d1 _) ja ?_;exact zk0.1):G:=h ⟨k⟩
theorem znO (k:G') (h:Hid G'→G:=by intro zk0;refine ztE ?_;refine jB (d3 _) ja ?_;exact zk0.1):G:=h ⟨k⟩
theorem znP (k:G') (h:Hid G'→G:=by intro zk0;refine zit ?_;refine jn (hL _) ja ?_;exact zk0.1):G:=h ⟨k⟩
theorem ziI (k:G') (h:Hid G'→G:=by intro zk0;refine zpX ?_;refine znt ?_;refine znt ?_;exact zk0.1):G:=h ⟨k⟩
theorem zhv (k:G') (h:Hid G'→G:=by intro zk0;refine zc5 ?_;refine zib ?_;exact zk0.1):G:=h ⟨k⟩
theorem zgJ (k:G') (h:Hid G'→G:=by intro zk0;refine zrQ ?_;intro v0;refine zhW ?_;refine zrP ?_;refine znD ?_;intro v1;refine zcf ?_;refine zuE ?_;revert v0 v1;exact zk0.1):G:=h ⟨k⟩
theorem zkq (h:G:=by refine zrp ?_;exact zbO):G:=h
theorem znR (k:G') (h:Hid G'→G:=by intro zk0;rw [decide_eq_false h80];refine zly ?_;exact zk0.1):G:=h ⟨k⟩
theorem znS (k:G') (h:Hid G'→G:=by intro zk0;rw [e,Oper.uponIn_enter];refine zun ?_;exact zk0.1):G:=h ⟨k⟩
theorem zhI (k:G') (h:Hid G'→G:=by intro zk0;refine zpZ ?_;refine zae ?_;exact zk0.1):G:=h ⟨k⟩
theorem znT (k:G') (h:Hid G'→G:=by intro zk0;refine zey ?_;intro v0;refine jB (d2 _) ja ?_;revert v0;exact zk0.1):G:=h ⟨k⟩
theorem znU (k:G') (h:Hid G'→G:=by intro zk0;refine zey ?_;intro v0;refine jB (d4 _) ja ?_;revert v0;exact zk0.1):G:=h ⟨k⟩
theorem znV (k:G') (h:Hid G'→G:=by intro zk0;refine zey ?_;intro v0;refine jB (d5 _) ja ?_;revert v0;exact zk0.1):G:=h ⟨k⟩
end Go.Proofs.YtebiafomiemgbaaGreatDoor
