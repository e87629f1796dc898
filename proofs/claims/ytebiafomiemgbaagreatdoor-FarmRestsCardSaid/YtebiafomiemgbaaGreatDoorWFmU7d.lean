/-Sequences of steps of the walker,each a theorem with a default proof. -/
import Derived.Test.YtebiafomiemgbaaGreatDoorD1
set_option linter.unusedVariables false set_option linter.unusedSimpArgs false namespace Go.Proofs.YtebiafomiemgbaaGreatDoor
set_option linter.unusedVariables false
variable {G G' : Prop}
theorem zD (h:G:=by exact absurd rfl h0):G:=h
theorem zjd (h:G:=by exact⟨_,_,hI1.T1024 hC,hI1.gens hC,mvs_tb hC hI m1,freeB_some (not_false' h3),rfl,mvs_tb hC hI2 (paced_mvs (wr:=true) hC hI2)⟩):G:=h
theorem zt1 (k:G') (h:Hid G'→G:=by intro zk0;refine⟨_,(refP h.s.W.x C.g.slots (jA C.g sl) a).1,hI1.T1024 hC,hI1.gens hC,mvs_tb hC hI m1,freeB_some (not_false' h4),rfl,?_⟩;exact zk0.1):G:=h ⟨k⟩
theorem zt2 (h:G:=by exact read_new hC hI (slot_named hs) h0):G:=h
theorem zje (h:G:=by exact does_new (h:={h with wk:=0}) hC hI0 h0):G:=h
theorem zgY (k:G') (h:Hid G'→G:=by intro zk0;refine Call.enter1 (n:=10) (by rfl) Tryz.func31 rfl rfl rfl ?_;exact zk0.1):G:=h ⟨k⟩
theorem zt3 (k:G') (h:Hid G'→G:=by intro zk0;refine Call.enter2 (n:=43) (by kernel_rfl) Tryz.func20 rfl rfl rfl ?_;exact zk0.1):G:=h ⟨k⟩
theorem zt4 (k:G') (h:Hid G'→G:=by intro zk0;(first|(refine KL.v rfl (Val.fieldSl (k:=6) rfl rfl) ?_)|(refine KL.v rfl (Val.fieldAddr0 (k:=6) rfl rfl) ?_)|(refine KL.v rfl (Val.fieldAddrZ rfl rfl) ?_)|(refine KL.v rfl (Val.fieldAddr (k:=6) rfl rfl) ?_));exact zk0.1):G:=h ⟨k⟩
theorem zqY (k:G') (h:Hid G'→G:=by intro zk0;(first|(refine KL.v rfl (Val.lenSl rfl rfl jab) ?_)|(refine KL.v rfl (Val.lenS rfl rfl) ?_));exact zk0.1):G:=h ⟨k⟩
theorem zt5 (k:G') (h:Hid G'→G:=by intro zk0;(first|(refine KL.v rfl (Val.idxSl rfl rfl rfl jab rfl jO) ?_)|(refine KL.v rfl (Val.idxSlZ rfl rfl rfl jab rfl (by omega)) ?_)|(refine KL.v rfl (Val.indexS1 rfl rfl rfl rfl (by omega)) ?_)|(refine KL.v rfl (Val.indexS rfl rfl rfl rfl (by omega)) ?_)|(refine KL.v rfl (Val.indexSO rfl rfl rfl rfl (by omega)) ?_)|(refine KL.v rfl (Val.indexSG rfl rfl rfl rfl (by omega)) ?_));exact zk0.1):G:=h ⟨k⟩
theorem zt6 (k:G') (h:Hid G'→G:=by intro zk0;(first|(refine KL.v rfl (Val.fieldSl (k:=4) rfl rfl) ?_)|(refine KL.v rfl (Val.fieldAddr0 (k:=4) rfl rfl) ?_)|(refine KL.v rfl (Val.fieldAddrZ rfl rfl) ?_)|(refine KL.v rfl (Val.fieldAddr (k:=4) rfl rfl) ?_));exact zk0.1):G:=h ⟨k⟩
theorem zt7 (k:G') (h:Hid G'→G:=by intro zk0;refine Call.enter2 (n:=17) (by rfl) Tryz.func21 rfl rfl rfl ?_;exact zk0.1):G:=h ⟨k⟩
theorem zt8 (h:G:=by exact KE.fin je rfl jd ja ⟨_,hN,rfl,rfl⟩):G:=h
theorem zjf (h:G:=by exact KE.fin je rfl jd ja ⟨_,hS,rfl,rfl⟩):G:=h
theorem zt9 (k:G') (h:Hid G'→G:=by intro zk0;refine Call.enter3 (n:=37) (by kernel_rfl) Tryz.func22 rfl rfl rfl ?_;exact zk0.1):G:=h ⟨k⟩
theorem zua (h:G:=by exact KE.fin je rfl jd ja ⟨v,[],hR0,rfl,rfl⟩):G:=h
theorem zjg (k:G') (h:Hid G'→G:=by intro zk0;refine KL.eN (Eff.stSl0 (x1:=x1) rfl rfl (oV_one _ _) rfl jj oka hlk' rfl (congrArg (fun z=> [z]) hx1)) ?_;rintro _ _ rfl;exact zk0.1):G:=h ⟨k⟩
theorem zh1 (h:G:=by exact⟨by rw[List.length_set];exact q1,q2,by rw[List.length_set];exact q3⟩):G:=h
theorem zub (h:G:=by exact Sli.own (by exact jj) ok34 rfl):G:=h
theorem zjh (h:G:=by exact(h3 i l q a b).part (by exact ja)):G:=h
theorem zji (h:G:=by exact KE.fin (H':=(oH uE 34 (r++ [((w:Nat):Int)]) o34++oH toldE 47 (ls.set k x1) oa)++(F++G)) je rfl jd (by rw[List.append_assoc];exact ja) ⟨_,_,by rw[List.append_assoc];exact hD,rfl,rfl⟩):G:=h
theorem zuc (k:G') (h:Hid G'→G:=by intro zk0;refine Call.enter2 (n:=42) (by rfl) Tryz.func23 rfl rfl rfl ?_;exact zk0.1):G:=h ⟨k⟩
theorem zjj (k:G') (h:Hid G'→G:=by intro zk0;refine K.loopT (σ:=FaO) [(0,_),(1,_)] (fun s kp_=>(5, .int .i64 (s.n:Nat))::kp_) (fun s=>fmH s.f++F) (fun s=>FmOk s.f nf∧FmTo f s.f∧s.n≤many.toNat∧faRest f.c many.toNat f.hs=((faRest f.c (many.toNat-s.n) s.f.hs).1+s.n,(faRest f.c (many.toNat-s.n) s.f.hs).2)) (fun s=>many.toNat-s.n) (⟨0,f⟩) jc ja (⟨ok,FmTo.refl,Nat.zero_le _,rfl⟩) ?_;exact zk0.1):G:=h ⟨k⟩
theorem zud (k:G') (h:Hid G'→G:=by intro zk0;refine KL.nil (KE.next (K.condT rfl (K.skip (KE.next (K.block (K.seq (K.seq (K.region ?_))))))));exact zk0.1):G:=h ⟨k⟩
theorem zjk (k:G') (h:Hid G'→G:=by intro zk0;refine jn (hten _) ja ?_;exact zk0.1):G:=h ⟨k⟩
theorem zjl (k:G') (h:Hid G'→G:=by intro zk0;refine K.loopT (σ:=FaO) [(0,_),(1,_),(14,_)] (fun s kp_=>(5, .int .i64 (n:Nat))::(15, .int .i64 (s.n:Nat))::kp_) (fun s=>fmH s.f++F) (fun s=>FmOk s.f nf∧FmTo f s.f∧s.f.hs=f1.hs∧s.n≤f.c.tn.length∧oneT f.c f1.hs 0=oneT f.c (f1.hs.drop s.n) s.n) (fun s=>f.c.tn.length-s.n) (⟨0,f1⟩) jc ja (⟨ok1,to1,rfl,Nat.zero_le _,rfl⟩) ?_;exact zk0.1):G:=h ⟨k⟩
theorem zjm (k:G') (h:Hid G'→G:=by intro zk0;refine K.loopT (σ:=FaO) [(0,_),(1,_),(6,_),(14,_),(15,_),(22,_)] (fun s kp_=>(5, .int .i64 (n:Nat))::(23, .int .i64 (s.n:Nat))::kp_) (fun s=>fmH s.f++F) (fun s=>FmOk s.f nf∧FmTo f s.f∧s.f.hs=f1.hs∧s.n≤f.c.workers.toNat∧oneW (hC1 f.c t) h0 f.c.workers.toNat 0=oneW (hC1 f.c t) h0 (f.c.workers.toNat-s.n) s.n) (fun s=>f.c.workers.toNat-s.n) (⟨0,f2⟩) jc (by simp only[fmH_app,to2.b,to2.c];exact ja) (⟨ok2,to2,hs2,Nat.zero_le _,rfl⟩) ?_;exact zk0.1):G:=h ⟨k⟩
theorem zjn (k:G') (h:Hid G'→G:=by intro zk0;refine K.loopT (σ:=FaO) [(0,_),(1,_),(6,_),(7,_),(14,_),(15,_),(22,_),(23,_),(26,_)] (fun s kp_=>(5, .int .i64 (n:Nat))::(27, .int .i64 (s.n:Nat))::kp_) (fun s=>fmH s.f++F) (fun s=>FmOk s.f nf∧FmTo f s.f∧s.f.hs=f1.hs∧s.n≤5∧oneM (hC1 f.c t) h0 w micL=oneM (hC1 f.c t) h0 w (micL.drop s.n)) (fun s=>5-s.n) (⟨0,f3⟩) jc ja (⟨ok3,to3,hs3,by grind,rfl⟩) ?_;exact zk0.1):G:=h ⟨k⟩
theorem zjo (h:G:=by exact⟨3,rfl,by decide,rfl⟩):G:=h
theorem zjp (h:G:=by exact⟨2,rfl,by decide,rfl⟩):G:=h
theorem zjq (h:G:=by exact⟨1,rfl,by decide,rfl⟩):G:=h
theorem zjr (h:G:=by exact⟨4,rfl,by decide,rfl⟩):G:=h
theorem zjs (h:G:=by exact⟨5,rfl,by decide,rfl⟩):G:=h
theorem zue (k:G') (h:Hid G'→G:=by intro zk0;refine KL.v rfl (Val.indexV1 rfl rfl rfl rfl rfl (by omega) hu) ?_;exact zk0.1):G:=h ⟨k⟩
theorem zjt (h:G:=by exact KE.again ⟨n+1,f5⟩ jc ja ⟨h5.ok,to4.trans h5.to_,by grind,by grind⟩ (by grind)):G:=h
theorem zuf (h:G:=by exact KE.again ⟨j+1,f5⟩ jc ja ⟨h5.ok,to4.trans h5.to_,by rw[h5.hs,setsame (by grind)];omega,by grind,hcons⟩ (by grind)):G:=h
theorem zug (h:G:=by exact KE.again ⟨w+1,f4⟩ jc ja ⟨ok4,to4,hs4,by grind,hW2⟩ (by grind)):G:=h
theorem zju (h:G:=by exact KE.again ⟨t+1,f3⟩ jc ja ⟨ok3,to3,hs3,by grind,hT2⟩ (by grind)):G:=h
theorem zjv (h:G:=by exact KE.fin je rfl jd ja ⟨by simp only[he'];rfl,f2,ok2,to2,by grind,rfl⟩):G:=h
theorem zjw (h:G:=by exact KE.fin je rfl jd ja ⟨by simp only[he'];rfl,f1,ok1,to1,by grind,rfl⟩):G:=h
theorem zjx (k:G') (h:Hid G'→G:=by intro zk0;refine(fmRest_K hG ok hf hm).mono ?_;exact zk0.1):G:=h ⟨k⟩
theorem zjy (h:G:=by exact⟨rfl,f',⟨h1,h2,h3⟩,rfl⟩):G:=h
theorem zjz (k:G') (h:Hid G'→G:=by intro zk0;refine(fmRest_A hG ok hf hm).mono ?_;exact zk0.1):G:=h ⟨k⟩
theorem zjA (h:G:=by exact zNew hG ⟨hC.part ja,hT.part ja,rfl,rfl,by decide,by decide⟩ (okF_cfg fx_ok)):G:=h
theorem zjB (k:G') (h:Hid G'→G:=by intro zk0;refine Call.enter0 (n:=117) (by kernel_rfl) Tryz.func16 rfl rfl rfl ?_;exact zk0.1):G:=h ⟨k⟩
theorem zuh (k:G') (h:Hid G'→G:=by intro zk0;refine JY (hn _ _ _) ?_;exact zk0.1):G:=h ⟨k⟩
theorem zjC (k:G') (h:Hid G'→G:=by intro zk0;refine jB (zDo hG z0 (by decide) (ho 1 0 0 1 0 (by decide) (by decide) (by decide)) fx_a (hs':=fx1) rfl) ja ?_;exact zk0.1):G:=h ⟨k⟩
theorem zjD (k:G') (h:Hid G'→G:=by intro zk0;refine jB (zDo hG z1 (by decide) (ho 1 0 0 1 0 (by decide) (by decide) (by decide)) fx_b (hs':=fx2) rfl) ja ?_;exact zk0.1):G:=h ⟨k⟩
theorem zjE (k:G') (h:Hid G'→G:=by intro zk0;refine jB (zDo hG z2 (by decide) (ho 1 0 0 1 0 (by decide) (by decide) (by decide)) fx_g (hs':=fx3) rfl) ja ?_;exact zk0.1):G:=h ⟨k⟩
theorem zjF (k:G') (h:Hid G'→G:=by intro zk0;refine jB (zStep (p:=⟨0,1,1⟩) hG z3 (by decide) (by decide) fx_h (hs':=fx4) rfl) ja ?_;exact zk0.1):G:=h ⟨k⟩
theorem zjG (k:G') (h:Hid G'→G:=by intro zk0;refine jB (zStep (p:=⟨1,1,1⟩) hG z4 (by decide) (by decide) fx_i (hs':=fx5) rfl) ja ?_;exact zk0.1):G:=h ⟨k⟩
theorem zjH (k:G') (h:Hid G'→G:=by intro zk0;refine jB (zStep (p:=⟨0,0,1⟩) hG z5 (by decide) (by decide) fx_j (hs':=fx6) rfl) ja ?_;exact zk0.1):G:=h ⟨k⟩
theorem zjI (k:G') (h:Hid G'→G:=by intro zk0;refine jB (zStep (p:=⟨0,2,1⟩) hG z6 (by decide) (by decide) fx_k (hs':=fx7) rfl) ja ?_;exact zk0.1):G:=h ⟨k⟩
theorem zjJ (k:G') (h:Hid G'→G:=by intro zk0;refine jB (zRest (many:=1000) hG z7 (by decide) (by decide) fx_n (hs':=fx8) rfl) ja ?_;exact zk0.1):G:=h ⟨k⟩
theorem zjK (k:G') (h:Hid G'→G:=by intro zk0;refine jB (zRest (many:=1000) hG z8 (by decide) (by decide) fx_m (hs':=fx9) rfl) ja ?_;exact zk0.1):G:=h ⟨k⟩
theorem zjL (k:G') (h:Hid G'→G:=by intro zk0;refine jB (zDo hG z9 (by decide) (ho 6 72057594037927937 0 0 0 (by decide) (by decide) (by decide)) fx_l rfl) ja ?_;exact zk0.1):G:=h ⟨k⟩
theorem zjM (k:G') (h:Hid G'→G:=by intro zk0;refine jn (zTenants z10) ja ?_;exact zk0.1):G:=h ⟨k⟩
theorem zjN (k:G') (h:Hid G'→G:=by intro zk0;refine KL.v rfl (Val.eqlAE rfl rfl (by kernel_rfl) je4 (by first|assumption|rfl)) ?_;exact zk0.1):G:=h ⟨k⟩
theorem zjO (h:G:=by exact(do_new hC hI h0).lt hC):G:=h
theorem zjP (h:G:=by exact(h.mono (by omega)).r r hr):G:=h
theorem zjQ (h:G:=by exact fun w hw=>SlW.nil w uE):G:=h
theorem zui (k:G') (h:Hid G'→G:=by intro zk0;refine jp (haw _) ?_;exact zk0.1):G:=h ⟨k⟩
theorem zuj (k:G') (h:Hid G'→G:=by intro zk0;refine JY (hn1 _ ja hc) ?_;exact zk0.1):G:=h ⟨k⟩
theorem zuk (k:G') (h:Hid G'→G:=by intro zk0;refine jB (hs1 _) ja ?_;exact zk0.1):G:=h ⟨k⟩
theorem zcd (k:G') (h:Hid G'→G:=by intro zk0;refine(CallV.fn (of_K hTo ja)).mono ?_;exact zk0.1):G:=h ⟨k⟩
theorem zaU (k:G') (h:Hid G'→G:=by intro zk0;refine(CallV.fn (hop _ _ (htv.part ja))).mono ?_;exact zk0.1):G:=h ⟨k⟩
theorem zul (k:G') (h:Hid G'→G:=by intro zk0;refine jB (hdo1 _) ja ?_;exact zk0.1):G:=h ⟨k⟩
theorem zk3 (k:G') (h:Hid G'→G:=by intro zk0;(first|(refine KL.v rfl (Val.loadAP rfl rfl rfl jgr) ?_)|(refine KL.v rfl (Val.loadA rfl rfl rfl jfD) ?_));exact zk0.1):G:=h ⟨k⟩
theorem zum (k:G') (h:Hid G'→G:=by intro zk0;(first|(refine KL.v rfl (Val.neqAE rfl rfl (by kernel_rfl) je4 (by first|assumption|rfl)) ?_)|(refine KL.v rfl (Val.neqAN rfl rfl (by kernel_rfl) je4 (by first|assumption|rfl)) ?_)|(refine KL.v rfl (Val.neqA rfl rfl (by kernel_rfl) je4) ?_));exact zk0.1):G:=h ⟨k⟩
theorem zfM (k:G') (h:Hid G'→G:=by intro zk0;refine(CallV.part (CallV.fn (hal _)) ja).mono ?_;exact zk0.1):G:=h ⟨k⟩
theorem zmj (k:G') (h:Hid G'→G:=by intro zk0;refine Call.enter1 (n:=9) (by rfl) Tryz.func24 rfl rfl rfl ?_;exact zk0.1):G:=h ⟨k⟩
theorem zs0 (k:G') (h:Hid G'→G:=by intro zk0;(first|(refine KL.v rfl (Val.isT (Val.eql rfl rfl) jO) ?_)|(refine KL.v rfl (Val.isF (Val.eql rfl rfl) jO) ?_)|(refine KL.v rfl (Val.eql rfl rfl) ?_));exact zk0.1):G:=h ⟨k⟩
theorem zdU (k:G') (h:Hid G'→G:=by intro zk0;refine zbb ?_;refine zp ?_;exact zk0.1):G:=h ⟨k⟩
theorem zs8 (h:G:=by refine zpw ?_;exact zH):G:=h
theorem zs9 (k:G') (h:Hid G'→G:=by intro zk0;refine zac ?_;refine zfQ ?_;exact zk0.1):G:=h ⟨k⟩
theorem zfR (k:G') (h:Hid G'→G:=by intro zk0;refine zt3 ?_;refine zlb ?_;intro v0 v1;refine zdQ ?_;refine zau ?_;refine znn ?_;intro v2;refine zbn ?_;revert v0 v1 v2;exact zk0.1):G:=h ⟨k⟩
theorem zrp (k:G') (h:Hid G'→G:=by intro zk0;refine zp ?_;refine zui ?_;exact zk0.1):G:=h ⟨k⟩
theorem ztc (h:G:=by refine zK ?_;exact zs8):G:=h
theorem ztd (k:G') (h:Hid G'→G:=by intro zk0;refine za6 ?_;refine ze1 ?_;exact zk0.1):G:=h ⟨k⟩
theorem zdz (k:G') (h:Hid G'→G:=by intro zk0;rw [pick_no (i:=V) (fun q=>hV q.1)];refine zfR ?_;intro v0 v1 v2;revert v0 v1 v2;exact zk0.1):G:=h ⟨k⟩
theorem znr (k:G') (h:Hid G'→G:=by intro zk0;refine zaR ?_;refine zZ ?_;exact zk0.1):G:=h ⟨k⟩
theorem zth (k:G') (h:Hid G'→G:=by intro zk0;refine zqY ?_;refine zlH ?_;exact zk0.1):G:=h ⟨k⟩
theorem zrq (k:G') (h:Hid G'→G:=by intro zk0;refine zt5 ?_;refine zhM ?_;exact zk0.1):G:=h ⟨k⟩
theorem zaP (h:G:=by refine zpy ?_;exact ztc):G:=h
theorem ztj (k:G') (h:Hid G'→G:=by intro zk0;refine zs9 ?_;refine zaG ?_;refine zA ?_;refine znr ?_;exact zk0.1):G:=h ⟨k⟩
theorem ztk (k:G') (h:Hid G'→G:=by intro zk0;refine zpC ?_;refine zth ?_;exact zk0.1):G:=h ⟨k⟩
theorem zia (k:G') (h:Hid G'→G:=by intro zk0;refine zpy ?_;refine ztd ?_;exact zk0.1):G:=h ⟨k⟩
theorem ztl (k:G') (h:Hid G'→G:=by intro zk0;refine zs9 ?_;refine zti ?_;exact zk0.1):G:=h ⟨k⟩
theorem zic (k:G') (h:Hid G'→G:=by intro zk0;refine zt9 ?_;refine zai ?_;exact zk0.1):G:=h ⟨k⟩
theorem zrt (k:G') (h:Hid G'→G:=by intro zk0;refine zbH ?_;refine zjW ?_;exact zk0.1):G:=h ⟨k⟩
theorem zdC (h:G:=by refine zrp ?_;exact zaL):G:=h
theorem zaN (k:G') (h:Hid G'→G:=by intro zk0;refine zap ?_;refine zdU ?_;exact zk0.1):G:=h ⟨k⟩
theorem zrw (k:G') (h:Hid G'→G:=by intro zk0;refine zru ?_;refine znW ?_;refine zqx ?_;exact zk0.1):G:=h ⟨k⟩
theorem znv (k:G') (h:Hid G'→G:=by intro zk0;refine zbb ?_;refine zl ?_;exact zk0.1):G:=h ⟨k⟩
theorem za1 (k:G') (h:Hid G'→G:=by intro zk0;refine zcx ?_;refine zag ?_;exact zk0.1):G:=h ⟨k⟩
theorem ztq (k:G') (h:Hid G'→G:=by intro zk0;refine zic ?_;refine zC ?_;exact zk0.1):G:=h ⟨k⟩
theorem zie (k:G') (h:Hid G'→G:=by intro zk0;refine zbH ?_;refine zj ?_;exact zk0.1):G:=h ⟨k⟩
theorem zif (h:G:=by refine zrx ?_;exact zua):G:=h
theorem zbz (k:G') (h:Hid G'→G:=by intro zk0;refine zfR ?_;intro v0 v1 v2;refine zia ?_;revert v0 v1 v2;exact zk0.1):G:=h ⟨k⟩
theorem zry (k:G') (h:Hid G'→G:=by intro zk0;refine zX ?_;refine zcq ?_;exact zk0.1):G:=h ⟨k⟩
theorem ztr (k:G') (h:Hid G'→G:=by intro zk0;refine zt7 ?_;refine zai ?_;exact zk0.1):G:=h ⟨k⟩
theorem zb3 (k:G') (h:Hid G'→G:=by intro zk0;refine zcf ?_;refine zuj ?_;exact zk0.1):G:=h ⟨k⟩
theorem zij (k:G') (h:Hid G'→G:=by intro zk0;refine zib ?_;refine KE.scR ?_;exact zk0.1):G:=h ⟨k⟩
theorem zbt (k:G') (h:Hid G'→G:=by intro zk0;refine zaO ?_;intro v0;refine zdU ?_;revert v0;exact zk0.1):G:=h ⟨k⟩
theorem zfc (k:G') (h:Hid G'→G:=by intro zk0;refine zl ?_;refine zO ?_;exact zk0.1):G:=h ⟨k⟩
theorem zik (k:G') (h:Hid G'→G:=by intro zk0;refine znv ?_;refine zjN ?_;exact zk0.1):G:=h ⟨k⟩
theorem zbB (k:G') (h:Hid G'→G:=by intro zk0;refine zcx ?_;refine zO ?_;exact zk0.1):G:=h ⟨k⟩
theorem zpG (k:G') (h:Hid G'→G:=by intro zk0;simp only[eq_self,decide_true,beq_self_eq_true,Bool.and_self,Bool.not_true];refine ze3 ?_;exact zk0.1):G:=h ⟨k⟩
theorem zpH (k:G') (h:Hid G'→G:=by intro zk0;refine zA ?_;refine zld ?_;refine zj2 ?_;exact zk0.1):G:=h ⟨k⟩
theorem zdE (k:G') (h:Hid G'→G:=by intro zk0;refine zg2 ?_;refine zue ?_;refine zrz ?_;refine zdU ?_;refine zqE ?_;exact zk0.1):G:=h ⟨k⟩
theorem zrB (k:G') (h:Hid G'→G:=by intro zk0;refine zW ?_;refine zer ?_;exact zk0.1):G:=h ⟨k⟩
theorem zj6 (k:G') (h:Hid G'→G:=by intro zk0;rw [fmH_app (f:=f2),to2.b,to2.c];refine zeB ?_;exact zk0.1):G:=h ⟨k⟩
theorem zdF (h:G:=by refine ztl ?_;exact ztc):G:=h
theorem ziq (k:G') (h:Hid G'→G:=by intro zk0;refine ztq ?_;refine ztt ?_;exact zk0.1):G:=h ⟨k⟩
theorem zir (k:G') (h:Hid G'→G:=by intro zk0;refine ztr ?_;refine zrB ?_;exact zk0.1):G:=h ⟨k⟩
theorem zlr (k:G') (h:Hid G'→G:=by intro zk0;refine zbd ?_;intro v0;refine zU ?_;revert v0;exact zk0.1):G:=h ⟨k⟩
theorem zdG (h:G:=by refine zaE ?_;exact zt8):G:=h
theorem zdH (h:G:=by refine zc7 ?_;exact zif):G:=h
theorem zdI (k:G') (h:Hid G'→G:=by intro zk0;refine zfR ?_;intro v0 v1 v2;refine ztl ?_;refine ztd ?_;revert v0 v1 v2;exact zk0.1):G:=h ⟨k⟩
theorem zpM (k:G') (h:Hid G'→G:=by intro zk0;refine znn ?_;intro v0;refine zdy ?_;revert v0;exact zk0.1):G:=h ⟨k⟩
theorem zpN (k:G') (h:Hid G'→G:=by intro zk0;refine zbE ?_;refine zcf ?_;exact zk0.1):G:=h ⟨k⟩
theorem zj9 (h:G:=by rw[if_pos h2];exact alloc_new hC hI h0):G:=h
theorem zka (k:G') (h:Hid G'→G:=by intro zk0;rw [if_pos (.inr (.inl ht))];refine ztq ?_;exact zk0.1):G:=h ⟨k⟩
theorem zf4 (k:G') (h:Hid G'→G:=by intro zk0;refine zih ?_;refine zcP ?_;exact zk0.1):G:=h ⟨k⟩
theorem zrJ (k:G') (h:Hid G'→G:=by intro zk0;refine zdV ?_;refine ztp ?_;refine zpH ?_;exact zk0.1):G:=h ⟨k⟩
theorem zpQ (k:G') (h:Hid G'→G:=by intro zk0;refine zN ?_;refine zcf ?_;exact zk0.1):G:=h ⟨k⟩
theorem zf6 (k:G') (h:Hid G'→G:=by intro zk0;refine zaK ?_;refine zep ?_;exact zk0.1):G:=h ⟨k⟩
theorem zkb (k:G') (h:Hid G'→G:=by intro zk0;rw [Int.toNat_natCast,hr];refine ziq ?_;exact zk0.1):G:=h ⟨k⟩
theorem zkc (k:G') (h:Hid G'→G:=by intro zk0;rw [Int.toNat_natCast,hr];refine zir ?_;exact zk0.1):G:=h ⟨k⟩
theorem zdM (k:G') (h:Hid G'→G:=by intro zk0;refine zrt ?_;refine zik ?_;exact zk0.1):G:=h ⟨k⟩
theorem zpS (k:G') (h:Hid G'→G:=by intro zk0;refine zbi ?_;refine zcq ?_;exact zk0.1):G:=h ⟨k⟩
theorem zrM (k:G') (h:Hid G'→G:=by intro zk0;refine zrD ?_;refine zu ?_;exact zk0.1):G:=h ⟨k⟩
theorem zfj (k:G') (h:Hid G'→G:=by intro zk0;refine zax ?_;refine za4 ?_;exact zk0.1):G:=h ⟨k⟩
theorem zit (k:G') (h:Hid G'→G:=by intro zk0;refine zcx ?_;refine zp ?_;exact zk0.1):G:=h ⟨k⟩
theorem zdO (h:G:=by refine ztj ?_;refine zqR ?_;refine ztk ?_;rw [j1];refine zrq ?_;refine zt6 ?_;refine zqQ ?_;refine zal ?_;exact zs8):G:=h
theorem zdP (k:G') (h:Hid G'→G:=by intro zk0;refine ztj ?_;refine zt4 ?_;refine ztk ?_;rw [i1];refine zrq ?_;refine zrA ?_;refine zbu ?_;refine ze1 ?_;exact zk0.1):G:=h ⟨k⟩
theorem zeR (k:G') (h:Hid G'→G:=by intro zk0;refine zbM ?_;refine zry ?_;exact zk0.1):G:=h ⟨k⟩
theorem zkd (k:G') (h:Hid G'→G:=by intro zk0;rw [if_pos (.inl ht)];refine ztr ?_;exact zk0.1):G:=h ⟨k⟩
theorem zhe (k:G') (h:Hid G'→G:=by intro zk0;refine zrJ ?_;refine zpM ?_;intro v0;revert v0;exact zk0.1):G:=h ⟨k⟩
theorem zix (k:G') (h:Hid G'→G:=by intro zk0;refine zrL ?_;refine zks ?_;refine zpx ?_;exact zk0.1):G:=h ⟨k⟩
theorem ziy (k:G') (h:Hid G'→G:=by intro zk0;refine zpN ?_;refine zuk ?_;exact zk0.1):G:=h ⟨k⟩
theorem ziz (k:G') (h:Hid G'→G:=by intro zk0;refine zj ?_;refine zrM ?_;exact zk0.1):G:=h ⟨k⟩
theorem zeT (k:G') (h:Hid G'→G:=by intro zk0;refine ztB ?_;intro v0;refine zbZ ?_;refine zar ?_;intro v1;refine zdU ?_;refine zuh ?_;revert v0 v1;exact zk0.1):G:=h ⟨k⟩
theorem zhg (k:G') (h:Hid G'→G:=by intro zk0;refine zpS ?_;refine zry ?_;exact zk0.1):G:=h ⟨k⟩
theorem ziC (k:G') (h:Hid G'→G:=by intro zk0;refine zlr ?_;intro v0;refine za4 ?_;refine zk3 ?_;refine zk3 ?_;refine zum ?_;revert v0;exact zk0.1):G:=h ⟨k⟩
theorem zkj (h:G:=by rw[if_pos h3];exact zt2):G:=h
theorem zhp (k:G') (h:Hid G'→G:=by intro zk0;refine ztC ?_;refine zgM ?_;refine znE ?_;refine zij ?_;exact zk0.1):G:=h ⟨k⟩
theorem zkl (k:G') (h:Hid G'→G:=by intro zk0;rw [if_neg h4];refine zt1 ?_;exact zk0.1):G:=h ⟨k⟩
theorem zkm (h:G:=by rw[←hx1];exact zub):G:=h
theorem zkn (h:G:=by refine zpV ?_;exact zuf):G:=h
theorem zhz (k:G') (h:Hid G'→G:=by intro zk0;refine zpY ?_;refine zud ?_;exact zk0.1):G:=h ⟨k⟩
theorem zko (k:G') (h:Hid G'→G:=by intro zk0;refine zao ?_;refine zle ?_;refine zU ?_;refine zgM ?_;refine zrw ?_;refine zrw ?_;refine zrw ?_;refine zpu ?_;exact zk0.1):G:=h ⟨k⟩
theorem zkp (k:G') (h:Hid G'→G:=by intro zk0;dsimp only;refine zaH ?_;refine zpQ ?_;refine zul ?_;exact zk0.1):G:=h ⟨k⟩
theorem zkq (h:G:=by refine zrp ?_;exact zbO):G:=h
theorem zkr (h:G:=by refine zip ?_;exact zug):G:=h
theorem zhF (h:G:=by refine zao ?_;exact zaL):G:=h
theorem zhH (k:G') (h:Hid G'→G:=by intro zk0;refine zuc ?_;refine zg4 ?_;refine K.scope ?_;refine zfd ?_;refine K.label ?_;refine byBlk ?_;exact zk0.1):G:=h ⟨k⟩
end Go.Proofs.YtebiafomiemgbaaGreatDoor
