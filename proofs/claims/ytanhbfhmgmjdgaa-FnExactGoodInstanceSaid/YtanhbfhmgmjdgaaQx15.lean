-- Written by a program of this session; it walks the functions that the law reaches.
import Derived.Test.YtanhbfhmgmjdgaaQx0
import Derived.Test.YtanhbfhmgmjdgaaQx14
namespace Go.Proofs.Ytanhbfhmgmjdgaa.Q
open Go.RowKit Go.Proofs.YtanhbfhmgmjdgaaW.PrintWords Go.Proofs.YtanhbfhmgmjdgaaW.PrintLast Go.Proofs.YtanhbfhmgmjdgaaW.PrintMore
attribute [local go_sem] max2_int min2_int max_two min_two max_three min_three max_four min_four   -- for this text's walks alone
set_option linter.unusedVariables false
set_option linter.unusedSimpArgs false
set_option maxRecDepth 100000
set_option maxHeartbeats 8000000

/-! ### laws_toInstance: function 6 -/
def laws_toInstance.f (k:Nat) (l0_0:List (S84)) (l0_1:List (S91)) (a0_2:Bool) (a0_3:Int) (a0_4:Int) (a0_5:Int) (a0_6:Int) (a0_7:ByteArray) (l0_8:List (S93)) (a0_9:Bool) (a0_10:Int):Option ((List (S88)) × (List (S75)) × Bool × Int × Int × Int × Int × ByteArray × (List (S72)) × Bool × Int):=(laws_toModule.f k l0_0 l0_1 a0_2 a0_3 a0_4 a0_5).bind fun bt311=>((laws_toState.f k a0_6 a0_7 l0_8).bind fun bt321=>(some (bt311.1,bt311.2.1,bt311.2.2.1,bt311.2.2.2.1,bt311.2.2.2.2.1,bt311.2.2.2.2.2,bt321.1,bt321.2.1,bt321.2.2,a0_9,a0_10)))
theorem laws_toInstance.calls (k:Nat) (A0_0:Option Addr) (c0_0:Nat) (l0_0:List (S84)) (A0_1:Option Addr) (c0_1:Nat) (l0_1:List (S91)) (a0_2:Bool) (a0_3:Int) (a0_4:Int) (a0_5:Int) (a0_6:Int) (a0_7:ByteArray) (A0_8:Option Addr) (c0_8:Nat) (l0_8:List (S93)) (a0_9:Bool) (a0_10:Int) (r1:List (S88)) (r2:List (S75)) (r3:Bool) (r4:Int) (r5:Int) (r6:Int) (r7:Int) (r8:ByteArray) (r9:List (S72)) (r10:Bool) (r11:Int) (w:World) (hr0_0:Kd.C k84 w A0_0 l0_0.length l0_0) (hc0_0:l0_0.length≤c0_0) (hr0_1:Kd.C k91 w A0_1 l0_1.length l0_1) (hc0_1:l0_1.length≤c0_1) (hr0_8:Kd.C k93 w A0_8 l0_8.length l0_8) (hc0_8:l0_8.length≤c0_8) (h:laws_toInstance.f k l0_0 l0_1 a0_2 a0_3 a0_4 a0_5 a0_6 a0_7 l0_8 a0_9 a0_10=some (r1,r2,r3,r4,r5,r6,r7,r8,r9,r10,r11)):
  Calls Try.prog 6 #[.agg #[.slice A0_0 l0_0.length c0_0,.slice A0_1 l0_1.length c0_1,.bool a0_2,.int .i64 a0_3,.int .i64 a0_4,.int .i64 a0_5,.int .i64 a0_6,.string a0_7,.slice A0_8 l0_8.length c0_8,.bool a0_9,.int .i64 a0_10]] w fun e w'=>∃ v0_ v1_ v8_:Value,e=.returned (.agg #[v0_,v1_,.bool r3,.int .i64 r4,.int .i64 r5,.int .i64 r6,.int .i64 r7,.string r8,v8_,.bool r10,.int .i64 r11])∧Kd.S k88 88 w' w.heap.size (fun _=>True) v0_ r1∧Kd.R k75 75 w' w.heap.size (fun _=>True) v1_ r2∧Kd.R k72 72 w' w.heap.size (fun _=>True) v8_ r9∧Below w.heap.size w w':=by
 have hu32:=Try.underlying32
 have hu44:=Try.underlying44
 have hu25:=Try.underlying25
 have hu38:=Try.underlying38
 have hu30:=Try.underlying30
 have hu42:=Try.underlying42
 have HR0_0:=A_ hr0_0
 have HC0_0:=A_ hc0_0
 clear hr0_0 hc0_0
 have HR0_1:=A_ hr0_1
 have HC0_1:=A_ hc0_1
 clear hr0_1 hc0_1
 have HR0_8:=A_ hr0_8
 have HC0_8:=A_ hc0_8
 clear hr0_8 hc0_8
 have HB:=A_ (Below.refl w.heap.size w)
 have H:((laws_toModule.f k l0_0 l0_1 a0_2 a0_3 a0_4 a0_5).bind fun bt311=>((laws_toState.f k a0_6 a0_7 l0_8).bind fun bt321=>(some (bt311.1,bt311.2.1,bt311.2.2.1,bt311.2.2.2.1,bt311.2.2.2.2.1,bt311.2.2.2.2.2,bt321.1,bt321.2.1,bt321.2.2,a0_9,a0_10))))=some (r1,r2,r3,r4,r5,r6,r7,r8,r9,r10,r11):=h
 clear h
 replace H:=Option.bind_eq_some_iff.mp H
 obtain⟨⟨t311,t314,t317,t318,t319,t320⟩,A20,H⟩:=H
 try dsimp only at H
 have A2:=A_ A20
 clear A20
 replace H:=Option.bind_eq_some_iff.mp H
 obtain⟨⟨t321,t322,t323⟩,A30,H⟩:=H
 try dsimp only at H
 have A3:=A_ A30
 clear A30
 simp only[Option.some.injEq,Prod.mk.injEq] at H
 obtain⟨rfl,rfl,rfl,rfl,rfl,rfl,rfl,rfl,rfl,rfl,rfl⟩:=H
 go_enter Try.func6,Try.ntmps6
 go_wp2_with (first|((with_reducible refine gd_ 1 rfl ?_);refine bx_ #[.slice A0_0 l0_0.length c0_0,.slice A0_1 l0_1.length c0_1,.bool a0_2,.int .i64 a0_3,.int .i64 a0_4,.int .i64 a0_5,.int .i64 a0_6,.string a0_7,.slice A0_8 l0_8.length c0_8,.bool a0_9,.int .i64 a0_10] 32 ?_;intro gb308 hg w4 hbox hb;have BK308:=A_ hbox;have GW308:=gw_ hg HB;have GE308:=GW308;replace HB:=bs_ HB hb;clear hb hbox hg)|((with_reducible refine gd_ 2 rfl ?_);refine bx_ #[.slice none 0 0,.slice none 0 0,.bool false,.int .i64 0,.int .i64 0,.int .i64 0,.int .i64 0,.string (⟨#[]⟩:ByteArray),.slice none 0 0,.bool false,.int .i64 0] 44 ?_;intro gb309 hg w5 hbox hb;have BK309:=A_ hbox;have GW309:=gw_ hg HB;have GE309:=GW309;obtain⟨NB308_309,NB309_308⟩:=nb_ BK308 hg;replace BK308:=kb_ BK308 hb;replace HB:=bs_ HB hb;clear hb hbox hg)|((with_reducible refine gd_ 3 rfl ?_);refine bx_ #[.slice none 0 0,.slice none 0 0,.bool false,.int .i64 0,.int .i64 0,.int .i64 0,.int .i64 0,.string (⟨#[]⟩:ByteArray),.slice none 0 0,.bool false,.int .i64 0] 44 ?_;intro gb310 hg w6 hbox hb;have BK310:=A_ hbox;have GW310:=gw_ hg HB;have GE310:=GW310;obtain⟨NB308_310,NB310_308⟩:=nb_ BK308 hg;obtain⟨NB309_310,NB310_309⟩:=nb_ BK309 hg;replace BK308:=kb_ BK308 hb;replace BK309:=kb_ BK309 hb;replace HB:=bs_ HB hb;clear hb hbox hg;have hnb7:=NB308_309.out;have hnc7:=NB309_308.out;have hnb8:=NB308_310.out;have hnc8:=NB310_308.out;have hcz9_0:w6.cell? ⟨gb308,0,none⟩=some (.slice A0_0 l0_0.length c0_0):=(blk_cell BK308.out 0).trans rfl;have hcz9_1:w6.cell? ⟨gb308,1,none⟩=some (.slice A0_1 l0_1.length c0_1):=(blk_cell BK308.out 1).trans rfl;have hcz9_2:w6.cell? ⟨gb308,2,none⟩=some (.bool a0_2):=(blk_cell BK308.out 2).trans rfl;have hcz9_3:w6.cell? ⟨gb308,3,none⟩=some (.int .i64 a0_3):=(blk_cell BK308.out 3).trans rfl;have hcz9_4:w6.cell? ⟨gb308,4,none⟩=some (.int .i64 a0_4):=(blk_cell BK308.out 4).trans rfl;have hcz9_5:w6.cell? ⟨gb308,5,none⟩=some (.int .i64 a0_5):=(blk_cell BK308.out 5).trans rfl;have hcz9_6:w6.cell? ⟨gb308,6,none⟩=some (.int .i64 a0_6):=(blk_cell BK308.out 6).trans rfl;have hcz9_7:w6.cell? ⟨gb308,7,none⟩=some (.string a0_7):=(blk_cell BK308.out 7).trans rfl;have hcz9_8:w6.cell? ⟨gb308,8,none⟩=some (.slice A0_8 l0_8.length c0_8):=(blk_cell BK308.out 8).trans rfl;have hcz9_9:w6.cell? ⟨gb308,9,none⟩=some (.bool a0_9):=(blk_cell BK308.out 9).trans rfl;have hcz9_10:w6.cell? ⟨gb308,10,none⟩=some (.int .i64 a0_10):=(blk_cell BK308.out 10).trans rfl;have hfz9_0:=blk_frozen BK308.out 0;have hfz9_1:=blk_frozen BK308.out 1;have hfz9_2:=blk_frozen BK308.out 2;have hfz9_3:=blk_frozen BK308.out 3;have hfz9_4:=blk_frozen BK308.out 4;have hfz9_5:=blk_frozen BK308.out 5;have hfz9_6:=blk_frozen BK308.out 6;have hfz9_7:=blk_frozen BK308.out 7;have hfz9_8:=blk_frozen BK308.out 8;have hfz9_9:=blk_frozen BK308.out 9;have hfz9_10:=blk_frozen BK308.out 10)|((with_reducible refine gc_ 12 rfl ?_);refine goesL_ (some 6) rfl rfl Try.func12 (by kernel_rfl) rfl #[.agg #[.slice A0_0 l0_0.length c0_0,.slice A0_1 l0_1.length c0_1,.bool a0_2,.int .i64 a0_3,.int .i64 a0_4,.int .i64 a0_5]] rfl ar ?_;(with_reducible refine(laws_toModule.calls k _ _ l0_0 _ _ l0_1 a0_2 a0_3 a0_4 a0_5 t311 t314 t317 t318 t319 t320 _ ?side1 ?side2 ?side3 ?side4 A2.out).mono ?_);(case side1=>exact cb_ HR0_0 HB);(case side2=>exact HC0_0.out);(case side3=>exact cb_ HR0_1 HB);(case side4=>exact HC0_1.out);rintro e w10 ⟨v312,v315,rfl,ho0,ho1,hb⟩;refine⟨_,rfl,?_⟩;have HO313:=A_ (Kd.S_lower ho0 (below_size (bw HB.out)));have HO316:=A_ (Kd.R_lower ho1 (below_size (bw HB.out)));replace BK308:=kb_ BK308 hb;replace BK309:=kb_ BK309 hb;replace BK310:=kb_ BK310 hb;replace HB:=bs_ HB hb;(try clear hb);(try clear hb2);(try clear hk);(try clear hi);(try clear ho0);(try clear ho1);obtain⟨Ao11,co11,eo11⟩:=Kd.S_slice HO313.out;subst eo11;have hnb12:=NB310_309.out;have hnc12:=NB309_310.out;have hcz13_0:w10.cell? ⟨gb310,0,none⟩=some (.slice none 0 0):=(blk_cell BK310.out 0).trans rfl;have hcz13_1:w10.cell? ⟨gb310,1,none⟩=some (.slice none 0 0):=(blk_cell BK310.out 1).trans rfl;have hcz13_2:w10.cell? ⟨gb310,2,none⟩=some (.bool false):=(blk_cell BK310.out 2).trans rfl;have hcz13_3:w10.cell? ⟨gb310,3,none⟩=some (.int .i64 0):=(blk_cell BK310.out 3).trans rfl;have hcz13_4:w10.cell? ⟨gb310,4,none⟩=some (.int .i64 0):=(blk_cell BK310.out 4).trans rfl;have hcz13_5:w10.cell? ⟨gb310,5,none⟩=some (.int .i64 0):=(blk_cell BK310.out 5).trans rfl;have hcz13_6:w10.cell? ⟨gb310,6,none⟩=some (.int .i64 0):=(blk_cell BK310.out 6).trans rfl;have hcz13_7:w10.cell? ⟨gb310,7,none⟩=some (.string (⟨#[]⟩:ByteArray)):=(blk_cell BK310.out 7).trans rfl;have hcz13_8:w10.cell? ⟨gb310,8,none⟩=some (.slice none 0 0):=(blk_cell BK310.out 8).trans rfl;have hcz13_9:w10.cell? ⟨gb310,9,none⟩=some (.bool false):=(blk_cell BK310.out 9).trans rfl;have hcz13_10:w10.cell? ⟨gb310,10,none⟩=some (.int .i64 0):=(blk_cell BK310.out 10).trans rfl;have hfz13_0:=blk_frozen BK310.out 0;have hfz13_1:=blk_frozen BK310.out 1;have hfz13_2:=blk_frozen BK310.out 2;have hfz13_3:=blk_frozen BK310.out 3;have hfz13_4:=blk_frozen BK310.out 4;have hfz13_5:=blk_frozen BK310.out 5;have hfz13_6:=blk_frozen BK310.out 6;have hfz13_7:=blk_frozen BK310.out 7;have hfz13_8:=blk_frozen BK310.out 8;have hfz13_9:=blk_frozen BK310.out 9;have hfz13_10:=blk_frozen BK310.out 10;obtain⟨Ao14,co14,eo14⟩:=Kd.R_slice HO316.out;subst eo14)|((with_reducible refine gate_store (t:=38) (p:=7) rfl ?_);refine store_event (t:=38) (p:=7) (v:=?vo_w15) (w1:=((((((w10.setCell ⟨gb310,0,none⟩ (.slice Ao11 t311.length co11)).setCell ⟨gb310,1,none⟩ (.slice Ao14 t314.length co14)).setCell ⟨gb310,2,none⟩ (.bool t317)).setCell ⟨gb310,3,none⟩ (.int .i64 t318)).setCell ⟨gb310,4,none⟩ (.int .i64 t319)).setCell ⟨gb310,5,none⟩ (.int .i64 t320))) ?hg ?ho ?hn ?hr ?_;(case ho=>rfl);(case hg=>rfl);(case hn=>rfl);(case hr=>first|(go_simp;done)|(go_simp;rfl));intro w15 hw;replace HO313:Aside0 (Kd.S k88 88 w15 w.heap.size (fun _=>True) (.slice Ao11 t311.length co11) t311):=⟨(by rw[hw];exact(by(with_reducible repeat (first|apply Kd.S_alloc|apply Kd.S_drewN|apply Kd.S_drew));exact Kd.S_mono (Kd.S_far (p:=⟨gb310,5,none⟩) (Kd.S_far (p:=⟨gb310,4,none⟩) (Kd.S_far (p:=⟨gb310,3,none⟩) (Kd.S_far (p:=⟨gb310,2,none⟩) (Kd.S_far (p:=⟨gb310,1,none⟩) (Kd.S_far (p:=⟨gb310,0,none⟩) (Kd.S_types HO313.out BK310.out (by decide)) (fun _ hk=>hk.2) (.slice Ao11 t311.length co11)) (fun _ hk=>hk.2) (.slice Ao14 t314.length co14)) (fun _ hk=>hk.2) (.bool t317)) (fun _ hk=>hk.2) (.int .i64 t318)) (fun _ hk=>hk.2) (.int .i64 t319)) (fun _ hk=>hk.2) (.int .i64 t320)) (fun _ hk=>trivial)))⟩;replace HO316:Aside0 (Kd.R k75 75 w15 w.heap.size (fun _=>True) (.slice Ao14 t314.length co14) t314):=⟨(by rw[hw];exact(by(with_reducible repeat (first|apply Kd.R_alloc|apply Kd.R_drewN|apply Kd.R_drew));exact Kd.R_mono (Kd.R_far (p:=⟨gb310,5,none⟩) (Kd.R_far (p:=⟨gb310,4,none⟩) (Kd.R_far (p:=⟨gb310,3,none⟩) (Kd.R_far (p:=⟨gb310,2,none⟩) (Kd.R_far (p:=⟨gb310,1,none⟩) (Kd.R_far (p:=⟨gb310,0,none⟩) (Kd.R_types HO316.out BK310.out (by decide)) (fun _ hk=>hk.2) (.slice Ao11 t311.length co11)) (fun _ hk=>hk.2) (.slice Ao14 t314.length co14)) (fun _ hk=>hk.2) (.bool t317)) (fun _ hk=>hk.2) (.int .i64 t318)) (fun _ hk=>hk.2) (.int .i64 t319)) (fun _ hk=>hk.2) (.int .i64 t320)) (fun _ hk=>trivial)))⟩;replace BK308:Aside0 (w15.heap[gb308]? =some (.cells #[.slice A0_0 l0_0.length c0_0,.slice A0_1 l0_1.length c0_1,.bool a0_2,.int .i64 a0_3,.int .i64 a0_4,.int .i64 a0_5,.int .i64 a0_6,.string a0_7,.slice A0_8 l0_8.length c0_8,.bool a0_9,.int .i64 a0_10] 32 (0,0))):=⟨(by rw[hw];exact(by refine blk_far ?_ NB308_310.out _;refine blk_far ?_ NB308_310.out _;refine blk_far ?_ NB308_310.out _;refine blk_far ?_ NB308_310.out _;refine blk_far ?_ NB308_310.out _;refine blk_far ?_ NB308_310.out _;(with_reducible repeat (first|refine blk_drewN ?_ _|refine blk_drew ?_|refine blk_alloc ?_ _));exact BK308.out))⟩;replace BK309:Aside0 (w15.heap[gb309]? =some (.cells #[.slice none 0 0,.slice none 0 0,.bool false,.int .i64 0,.int .i64 0,.int .i64 0,.int .i64 0,.string (⟨#[]⟩:ByteArray),.slice none 0 0,.bool false,.int .i64 0] 44 (0,0))):=⟨(by rw[hw];exact(by refine blk_far ?_ NB309_310.out _;refine blk_far ?_ NB309_310.out _;refine blk_far ?_ NB309_310.out _;refine blk_far ?_ NB309_310.out _;refine blk_far ?_ NB309_310.out _;refine blk_far ?_ NB309_310.out _;(with_reducible repeat (first|refine blk_drewN ?_ _|refine blk_drew ?_|refine blk_alloc ?_ _));exact BK309.out))⟩;replace BK310:Aside0 (w15.heap[gb310]? =some (.cells #[.slice Ao11 t311.length co11,.slice Ao14 t314.length co14,.bool t317,.int .i64 t318,.int .i64 t319,.int .i64 t320,.int .i64 0,.string (⟨#[]⟩:ByteArray),.slice none 0 0,.bool false,.int .i64 0] 44 (0,0))):=⟨(by rw[hw];exact(by refine blk_put (cs:=#[.slice Ao11 t311.length co11,.slice Ao14 t314.length co14,.bool t317,.int .i64 t318,.int .i64 t319,.int .i64 0,.int .i64 0,.string (⟨#[]⟩:ByteArray),.slice none 0 0,.bool false,.int .i64 0]) ?_ 5 _ rfl;refine blk_put (cs:=#[.slice Ao11 t311.length co11,.slice Ao14 t314.length co14,.bool t317,.int .i64 t318,.int .i64 0,.int .i64 0,.int .i64 0,.string (⟨#[]⟩:ByteArray),.slice none 0 0,.bool false,.int .i64 0]) ?_ 4 _ rfl;refine blk_put (cs:=#[.slice Ao11 t311.length co11,.slice Ao14 t314.length co14,.bool t317,.int .i64 0,.int .i64 0,.int .i64 0,.int .i64 0,.string (⟨#[]⟩:ByteArray),.slice none 0 0,.bool false,.int .i64 0]) ?_ 3 _ rfl;refine blk_put (cs:=#[.slice Ao11 t311.length co11,.slice Ao14 t314.length co14,.bool false,.int .i64 0,.int .i64 0,.int .i64 0,.int .i64 0,.string (⟨#[]⟩:ByteArray),.slice none 0 0,.bool false,.int .i64 0]) ?_ 2 _ rfl;refine blk_put (cs:=#[.slice Ao11 t311.length co11,.slice none 0 0,.bool false,.int .i64 0,.int .i64 0,.int .i64 0,.int .i64 0,.string (⟨#[]⟩:ByteArray),.slice none 0 0,.bool false,.int .i64 0]) ?_ 1 _ rfl;refine blk_put (cs:=#[.slice none 0 0,.slice none 0 0,.bool false,.int .i64 0,.int .i64 0,.int .i64 0,.int .i64 0,.string (⟨#[]⟩:ByteArray),.slice none 0 0,.bool false,.int .i64 0]) ?_ 0 _ rfl;(with_reducible repeat (first|refine blk_drewN ?_ _|refine blk_drew ?_|refine blk_alloc ?_ _));exact BK310.out))⟩;replace HB:Aside0 (Below w.heap.size w w15):=⟨(by rw[hw];exact(bw HB.out))⟩;clear hw;have hcz16_0:w15.cell? ⟨gb308,0,none⟩=some (.slice A0_0 l0_0.length c0_0):=(blk_cell BK308.out 0).trans rfl;have hcz16_1:w15.cell? ⟨gb308,1,none⟩=some (.slice A0_1 l0_1.length c0_1):=(blk_cell BK308.out 1).trans rfl;have hcz16_2:w15.cell? ⟨gb308,2,none⟩=some (.bool a0_2):=(blk_cell BK308.out 2).trans rfl;have hcz16_3:w15.cell? ⟨gb308,3,none⟩=some (.int .i64 a0_3):=(blk_cell BK308.out 3).trans rfl;have hcz16_4:w15.cell? ⟨gb308,4,none⟩=some (.int .i64 a0_4):=(blk_cell BK308.out 4).trans rfl;have hcz16_5:w15.cell? ⟨gb308,5,none⟩=some (.int .i64 a0_5):=(blk_cell BK308.out 5).trans rfl;have hcz16_6:w15.cell? ⟨gb308,6,none⟩=some (.int .i64 a0_6):=(blk_cell BK308.out 6).trans rfl;have hcz16_7:w15.cell? ⟨gb308,7,none⟩=some (.string a0_7):=(blk_cell BK308.out 7).trans rfl;have hcz16_8:w15.cell? ⟨gb308,8,none⟩=some (.slice A0_8 l0_8.length c0_8):=(blk_cell BK308.out 8).trans rfl;have hcz16_9:w15.cell? ⟨gb308,9,none⟩=some (.bool a0_9):=(blk_cell BK308.out 9).trans rfl;have hcz16_10:w15.cell? ⟨gb308,10,none⟩=some (.int .i64 a0_10):=(blk_cell BK308.out 10).trans rfl;have hfz16_0:=blk_frozen BK308.out 0;have hfz16_1:=blk_frozen BK308.out 1;have hfz16_2:=blk_frozen BK308.out 2;have hfz16_3:=blk_frozen BK308.out 3;have hfz16_4:=blk_frozen BK308.out 4;have hfz16_5:=blk_frozen BK308.out 5;have hfz16_6:=blk_frozen BK308.out 6;have hfz16_7:=blk_frozen BK308.out 7;have hfz16_8:=blk_frozen BK308.out 8;have hfz16_9:=blk_frozen BK308.out 9;have hfz16_10:=blk_frozen BK308.out 10)|((with_reducible refine gc_ 13 rfl ?_);refine goesL_ (some 10) rfl rfl Try.func13 (by kernel_rfl) rfl #[.agg #[.int .i64 a0_6,.string a0_7,.slice A0_8 l0_8.length c0_8]] rfl ar ?_;(with_reducible refine(laws_toState.calls k a0_6 a0_7 _ _ l0_8 t321 t322 t323 _ ?side1 ?side2 A3.out).mono ?_);(case side1=>exact cb_ HR0_8 HB);(case side2=>exact HC0_8.out);rintro e w17 ⟨v324,rfl,ho0,hb⟩;refine⟨_,rfl,?_⟩;have HO325:=A_ (Kd.R_lower ho0 (below_size (bw HB.out)));replace HO313:=A_ (Kd.S_below (ks_ HO313.out) hb);replace HO316:=A_ (Kd.R_below (kr_ HO316.out) hb);replace BK308:=kb_ BK308 hb;replace BK309:=kb_ BK309 hb;replace BK310:=kb_ BK310 hb;replace HB:=bs_ HB hb;(try clear hb);(try clear hb2);(try clear hk);(try clear hi);(try clear ho0);have hcz18_0:w17.cell? ⟨gb310,0,none⟩=some (.slice Ao11 t311.length co11):=(blk_cell BK310.out 0).trans rfl;have hcz18_1:w17.cell? ⟨gb310,1,none⟩=some (.slice Ao14 t314.length co14):=(blk_cell BK310.out 1).trans rfl;have hcz18_2:w17.cell? ⟨gb310,2,none⟩=some (.bool t317):=(blk_cell BK310.out 2).trans rfl;have hcz18_3:w17.cell? ⟨gb310,3,none⟩=some (.int .i64 t318):=(blk_cell BK310.out 3).trans rfl;have hcz18_4:w17.cell? ⟨gb310,4,none⟩=some (.int .i64 t319):=(blk_cell BK310.out 4).trans rfl;have hcz18_5:w17.cell? ⟨gb310,5,none⟩=some (.int .i64 t320):=(blk_cell BK310.out 5).trans rfl;have hcz18_6:w17.cell? ⟨gb310,6,none⟩=some (.int .i64 0):=(blk_cell BK310.out 6).trans rfl;have hcz18_7:w17.cell? ⟨gb310,7,none⟩=some (.string (⟨#[]⟩:ByteArray)):=(blk_cell BK310.out 7).trans rfl;have hcz18_8:w17.cell? ⟨gb310,8,none⟩=some (.slice none 0 0):=(blk_cell BK310.out 8).trans rfl;have hcz18_9:w17.cell? ⟨gb310,9,none⟩=some (.bool false):=(blk_cell BK310.out 9).trans rfl;have hcz18_10:w17.cell? ⟨gb310,10,none⟩=some (.int .i64 0):=(blk_cell BK310.out 10).trans rfl;have hfz18_0:=blk_frozen BK310.out 0;have hfz18_1:=blk_frozen BK310.out 1;have hfz18_2:=blk_frozen BK310.out 2;have hfz18_3:=blk_frozen BK310.out 3;have hfz18_4:=blk_frozen BK310.out 4;have hfz18_5:=blk_frozen BK310.out 5;have hfz18_6:=blk_frozen BK310.out 6;have hfz18_7:=blk_frozen BK310.out 7;have hfz18_8:=blk_frozen BK310.out 8;have hfz18_9:=blk_frozen BK310.out 9;have hfz18_10:=blk_frozen BK310.out 10;obtain⟨Ao19,co19,eo19⟩:=Kd.R_slice HO325.out;subst eo19;have hcz20_0:w17.cell? ⟨gb308,0,none⟩=some (.slice A0_0 l0_0.length c0_0):=(blk_cell BK308.out 0).trans rfl;have hcz20_1:w17.cell? ⟨gb308,1,none⟩=some (.slice A0_1 l0_1.length c0_1):=(blk_cell BK308.out 1).trans rfl;have hcz20_2:w17.cell? ⟨gb308,2,none⟩=some (.bool a0_2):=(blk_cell BK308.out 2).trans rfl;have hcz20_3:w17.cell? ⟨gb308,3,none⟩=some (.int .i64 a0_3):=(blk_cell BK308.out 3).trans rfl;have hcz20_4:w17.cell? ⟨gb308,4,none⟩=some (.int .i64 a0_4):=(blk_cell BK308.out 4).trans rfl;have hcz20_5:w17.cell? ⟨gb308,5,none⟩=some (.int .i64 a0_5):=(blk_cell BK308.out 5).trans rfl;have hcz20_6:w17.cell? ⟨gb308,6,none⟩=some (.int .i64 a0_6):=(blk_cell BK308.out 6).trans rfl;have hcz20_7:w17.cell? ⟨gb308,7,none⟩=some (.string a0_7):=(blk_cell BK308.out 7).trans rfl;have hcz20_8:w17.cell? ⟨gb308,8,none⟩=some (.slice A0_8 l0_8.length c0_8):=(blk_cell BK308.out 8).trans rfl;have hcz20_9:w17.cell? ⟨gb308,9,none⟩=some (.bool a0_9):=(blk_cell BK308.out 9).trans rfl;have hcz20_10:w17.cell? ⟨gb308,10,none⟩=some (.int .i64 a0_10):=(blk_cell BK308.out 10).trans rfl;have hfz20_0:=blk_frozen BK308.out 0;have hfz20_1:=blk_frozen BK308.out 1;have hfz20_2:=blk_frozen BK308.out 2;have hfz20_3:=blk_frozen BK308.out 3;have hfz20_4:=blk_frozen BK308.out 4;have hfz20_5:=blk_frozen BK308.out 5;have hfz20_6:=blk_frozen BK308.out 6;have hfz20_7:=blk_frozen BK308.out 7;have hfz20_8:=blk_frozen BK308.out 8;have hfz20_9:=blk_frozen BK308.out 9;have hfz20_10:=blk_frozen BK308.out 10)|((with_reducible refine gate_store (t:=3) (p:=17) rfl ?_);refine store_event (t:=3) (p:=17) (v:=?vo_w21) (w1:=(((((w17.setCell ⟨gb310,6,none⟩ (.int .i64 t321)).setCell ⟨gb310,7,none⟩ (.string t322)).setCell ⟨gb310,8,none⟩ (.slice Ao19 t323.length co19)).setCell ⟨gb310,9,none⟩ (.bool a0_9)).setCell ⟨gb310,10,none⟩ (.int .i64 a0_10))) ?hg ?ho ?hn ?hr ?_;(case ho=>rfl);(case hg=>rfl);(case hn=>rfl);(case hr=>first|(go_simp;done)|(go_simp;rfl));intro w21 hw;replace HO313:Aside0 (Kd.S k88 88 w21 w.heap.size (fun _=>True) (.slice Ao11 t311.length co11) t311):=⟨(by rw[hw];exact(by(with_reducible repeat (first|apply Kd.S_alloc|apply Kd.S_drewN|apply Kd.S_drew));exact Kd.S_mono (Kd.S_far (p:=⟨gb310,10,none⟩) (Kd.S_far (p:=⟨gb310,9,none⟩) (Kd.S_far (p:=⟨gb310,8,none⟩) (Kd.S_far (p:=⟨gb310,7,none⟩) (Kd.S_far (p:=⟨gb310,6,none⟩) (Kd.S_types HO313.out BK310.out (by decide)) (fun _ hk=>hk.2) (.int .i64 t321)) (fun _ hk=>hk.2) (.string t322)) (fun _ hk=>hk.2) (.slice Ao19 t323.length co19)) (fun _ hk=>hk.2) (.bool a0_9)) (fun _ hk=>hk.2) (.int .i64 a0_10)) (fun _ hk=>trivial)))⟩;replace HO316:Aside0 (Kd.R k75 75 w21 w.heap.size (fun _=>True) (.slice Ao14 t314.length co14) t314):=⟨(by rw[hw];exact(by(with_reducible repeat (first|apply Kd.R_alloc|apply Kd.R_drewN|apply Kd.R_drew));exact Kd.R_mono (Kd.R_far (p:=⟨gb310,10,none⟩) (Kd.R_far (p:=⟨gb310,9,none⟩) (Kd.R_far (p:=⟨gb310,8,none⟩) (Kd.R_far (p:=⟨gb310,7,none⟩) (Kd.R_far (p:=⟨gb310,6,none⟩) (Kd.R_types HO316.out BK310.out (by decide)) (fun _ hk=>hk.2) (.int .i64 t321)) (fun _ hk=>hk.2) (.string t322)) (fun _ hk=>hk.2) (.slice Ao19 t323.length co19)) (fun _ hk=>hk.2) (.bool a0_9)) (fun _ hk=>hk.2) (.int .i64 a0_10)) (fun _ hk=>trivial)))⟩;replace HO325:Aside0 (Kd.R k72 72 w21 w.heap.size (fun _=>True) (.slice Ao19 t323.length co19) t323):=⟨(by rw[hw];exact(by(with_reducible repeat (first|apply Kd.R_alloc|apply Kd.R_drewN|apply Kd.R_drew));exact Kd.R_mono (Kd.R_far (p:=⟨gb310,10,none⟩) (Kd.R_far (p:=⟨gb310,9,none⟩) (Kd.R_far (p:=⟨gb310,8,none⟩) (Kd.R_far (p:=⟨gb310,7,none⟩) (Kd.R_far (p:=⟨gb310,6,none⟩) (Kd.R_types HO325.out BK310.out (by decide)) (fun _ hk=>hk.2) (.int .i64 t321)) (fun _ hk=>hk.2) (.string t322)) (fun _ hk=>hk.2) (.slice Ao19 t323.length co19)) (fun _ hk=>hk.2) (.bool a0_9)) (fun _ hk=>hk.2) (.int .i64 a0_10)) (fun _ hk=>trivial)))⟩;replace BK308:Aside0 (w21.heap[gb308]? =some (.cells #[.slice A0_0 l0_0.length c0_0,.slice A0_1 l0_1.length c0_1,.bool a0_2,.int .i64 a0_3,.int .i64 a0_4,.int .i64 a0_5,.int .i64 a0_6,.string a0_7,.slice A0_8 l0_8.length c0_8,.bool a0_9,.int .i64 a0_10] 32 (0,0))):=⟨(by rw[hw];exact(by refine blk_far ?_ NB308_310.out _;refine blk_far ?_ NB308_310.out _;refine blk_far ?_ NB308_310.out _;refine blk_far ?_ NB308_310.out _;refine blk_far ?_ NB308_310.out _;(with_reducible repeat (first|refine blk_drewN ?_ _|refine blk_drew ?_|refine blk_alloc ?_ _));exact BK308.out))⟩;replace BK309:Aside0 (w21.heap[gb309]? =some (.cells #[.slice none 0 0,.slice none 0 0,.bool false,.int .i64 0,.int .i64 0,.int .i64 0,.int .i64 0,.string (⟨#[]⟩:ByteArray),.slice none 0 0,.bool false,.int .i64 0] 44 (0,0))):=⟨(by rw[hw];exact(by refine blk_far ?_ NB309_310.out _;refine blk_far ?_ NB309_310.out _;refine blk_far ?_ NB309_310.out _;refine blk_far ?_ NB309_310.out _;refine blk_far ?_ NB309_310.out _;(with_reducible repeat (first|refine blk_drewN ?_ _|refine blk_drew ?_|refine blk_alloc ?_ _));exact BK309.out))⟩;replace BK310:Aside0 (w21.heap[gb310]? =some (.cells #[.slice Ao11 t311.length co11,.slice Ao14 t314.length co14,.bool t317,.int .i64 t318,.int .i64 t319,.int .i64 t320,.int .i64 t321,.string t322,.slice Ao19 t323.length co19,.bool a0_9,.int .i64 a0_10] 44 (0,0))):=⟨(by rw[hw];exact(by refine blk_put (cs:=#[.slice Ao11 t311.length co11,.slice Ao14 t314.length co14,.bool t317,.int .i64 t318,.int .i64 t319,.int .i64 t320,.int .i64 t321,.string t322,.slice Ao19 t323.length co19,.bool a0_9,.int .i64 0]) ?_ 10 _ rfl;refine blk_put (cs:=#[.slice Ao11 t311.length co11,.slice Ao14 t314.length co14,.bool t317,.int .i64 t318,.int .i64 t319,.int .i64 t320,.int .i64 t321,.string t322,.slice Ao19 t323.length co19,.bool false,.int .i64 0]) ?_ 9 _ rfl;refine blk_put (cs:=#[.slice Ao11 t311.length co11,.slice Ao14 t314.length co14,.bool t317,.int .i64 t318,.int .i64 t319,.int .i64 t320,.int .i64 t321,.string t322,.slice none 0 0,.bool false,.int .i64 0]) ?_ 8 _ rfl;refine blk_put (cs:=#[.slice Ao11 t311.length co11,.slice Ao14 t314.length co14,.bool t317,.int .i64 t318,.int .i64 t319,.int .i64 t320,.int .i64 t321,.string (⟨#[]⟩:ByteArray),.slice none 0 0,.bool false,.int .i64 0]) ?_ 7 _ rfl;refine blk_put (cs:=#[.slice Ao11 t311.length co11,.slice Ao14 t314.length co14,.bool t317,.int .i64 t318,.int .i64 t319,.int .i64 t320,.int .i64 0,.string (⟨#[]⟩:ByteArray),.slice none 0 0,.bool false,.int .i64 0]) ?_ 6 _ rfl;(with_reducible repeat (first|refine blk_drewN ?_ _|refine blk_drew ?_|refine blk_alloc ?_ _));exact BK310.out))⟩;replace HB:Aside0 (Below w.heap.size w w21):=⟨(by rw[hw];exact(bw HB.out))⟩;clear hw;have hcz22_0:w21.cell? ⟨gb310,0,none⟩=some (.slice Ao11 t311.length co11):=(blk_cell BK310.out 0).trans rfl;have hcz22_1:w21.cell? ⟨gb310,1,none⟩=some (.slice Ao14 t314.length co14):=(blk_cell BK310.out 1).trans rfl;have hcz22_2:w21.cell? ⟨gb310,2,none⟩=some (.bool t317):=(blk_cell BK310.out 2).trans rfl;have hcz22_3:w21.cell? ⟨gb310,3,none⟩=some (.int .i64 t318):=(blk_cell BK310.out 3).trans rfl;have hcz22_4:w21.cell? ⟨gb310,4,none⟩=some (.int .i64 t319):=(blk_cell BK310.out 4).trans rfl;have hcz22_5:w21.cell? ⟨gb310,5,none⟩=some (.int .i64 t320):=(blk_cell BK310.out 5).trans rfl;have hcz22_6:w21.cell? ⟨gb310,6,none⟩=some (.int .i64 t321):=(blk_cell BK310.out 6).trans rfl;have hcz22_7:w21.cell? ⟨gb310,7,none⟩=some (.string t322):=(blk_cell BK310.out 7).trans rfl;have hcz22_8:w21.cell? ⟨gb310,8,none⟩=some (.slice Ao19 t323.length co19):=(blk_cell BK310.out 8).trans rfl;have hcz22_9:w21.cell? ⟨gb310,9,none⟩=some (.bool a0_9):=(blk_cell BK310.out 9).trans rfl;have hcz22_10:w21.cell? ⟨gb310,10,none⟩=some (.int .i64 a0_10):=(blk_cell BK310.out 10).trans rfl;have hfz22_0:=blk_frozen BK310.out 0;have hfz22_1:=blk_frozen BK310.out 1;have hfz22_2:=blk_frozen BK310.out 2;have hfz22_3:=blk_frozen BK310.out 3;have hfz22_4:=blk_frozen BK310.out 4;have hfz22_5:=blk_frozen BK310.out 5;have hfz22_6:=blk_frozen BK310.out 6;have hfz22_7:=blk_frozen BK310.out 7;have hfz22_8:=blk_frozen BK310.out 8;have hfz22_9:=blk_frozen BK310.out 9;have hfz22_10:=blk_frozen BK310.out 10;have hcz23_0:w21.cell? ⟨gb309,0,none⟩=some (.slice none 0 0):=(blk_cell BK309.out 0).trans rfl;have hcz23_1:w21.cell? ⟨gb309,1,none⟩=some (.slice none 0 0):=(blk_cell BK309.out 1).trans rfl;have hcz23_2:w21.cell? ⟨gb309,2,none⟩=some (.bool false):=(blk_cell BK309.out 2).trans rfl;have hcz23_3:w21.cell? ⟨gb309,3,none⟩=some (.int .i64 0):=(blk_cell BK309.out 3).trans rfl;have hcz23_4:w21.cell? ⟨gb309,4,none⟩=some (.int .i64 0):=(blk_cell BK309.out 4).trans rfl;have hcz23_5:w21.cell? ⟨gb309,5,none⟩=some (.int .i64 0):=(blk_cell BK309.out 5).trans rfl;have hcz23_6:w21.cell? ⟨gb309,6,none⟩=some (.int .i64 0):=(blk_cell BK309.out 6).trans rfl;have hcz23_7:w21.cell? ⟨gb309,7,none⟩=some (.string (⟨#[]⟩:ByteArray)):=(blk_cell BK309.out 7).trans rfl;have hcz23_8:w21.cell? ⟨gb309,8,none⟩=some (.slice none 0 0):=(blk_cell BK309.out 8).trans rfl;have hcz23_9:w21.cell? ⟨gb309,9,none⟩=some (.bool false):=(blk_cell BK309.out 9).trans rfl;have hcz23_10:w21.cell? ⟨gb309,10,none⟩=some (.int .i64 0):=(blk_cell BK309.out 10).trans rfl;have hfz23_0:=blk_frozen BK309.out 0;have hfz23_1:=blk_frozen BK309.out 1;have hfz23_2:=blk_frozen BK309.out 2;have hfz23_3:=blk_frozen BK309.out 3;have hfz23_4:=blk_frozen BK309.out 4;have hfz23_5:=blk_frozen BK309.out 5;have hfz23_6:=blk_frozen BK309.out 6;have hfz23_7:=blk_frozen BK309.out 7;have hfz23_8:=blk_frozen BK309.out 8;have hfz23_9:=blk_frozen BK309.out 9;have hfz23_10:=blk_frozen BK309.out 10)|((with_reducible refine gate_store (t:=44) (p:=2) rfl ?_);refine store_event (t:=44) (p:=2) (v:=?vo_w24) (w1:=(((((((((((w21.setCell ⟨gb309,0,none⟩ (.slice Ao11 t311.length co11)).setCell ⟨gb309,1,none⟩ (.slice Ao14 t314.length co14)).setCell ⟨gb309,2,none⟩ (.bool t317)).setCell ⟨gb309,3,none⟩ (.int .i64 t318)).setCell ⟨gb309,4,none⟩ (.int .i64 t319)).setCell ⟨gb309,5,none⟩ (.int .i64 t320)).setCell ⟨gb309,6,none⟩ (.int .i64 t321)).setCell ⟨gb309,7,none⟩ (.string t322)).setCell ⟨gb309,8,none⟩ (.slice Ao19 t323.length co19)).setCell ⟨gb309,9,none⟩ (.bool a0_9)).setCell ⟨gb309,10,none⟩ (.int .i64 a0_10))) ?hg ?ho ?hn ?hr ?_;(case ho=>rfl);(case hg=>rfl);(case hn=>rfl);(case hr=>first|(go_simp;done)|(go_simp;rfl));intro w24 hw;replace HO313:Aside0 (Kd.S k88 88 w24 w.heap.size (fun _=>True) (.slice Ao11 t311.length co11) t311):=⟨(by rw[hw];exact(by(with_reducible repeat (first|apply Kd.S_alloc|apply Kd.S_drewN|apply Kd.S_drew));exact Kd.S_mono (Kd.S_far (p:=⟨gb309,10,none⟩) (Kd.S_far (p:=⟨gb309,9,none⟩) (Kd.S_far (p:=⟨gb309,8,none⟩) (Kd.S_far (p:=⟨gb309,7,none⟩) (Kd.S_far (p:=⟨gb309,6,none⟩) (Kd.S_far (p:=⟨gb309,5,none⟩) (Kd.S_far (p:=⟨gb309,4,none⟩) (Kd.S_far (p:=⟨gb309,3,none⟩) (Kd.S_far (p:=⟨gb309,2,none⟩) (Kd.S_far (p:=⟨gb309,1,none⟩) (Kd.S_far (p:=⟨gb309,0,none⟩) (Kd.S_types HO313.out BK309.out (by decide)) (fun _ hk=>hk.2) (.slice Ao11 t311.length co11)) (fun _ hk=>hk.2) (.slice Ao14 t314.length co14)) (fun _ hk=>hk.2) (.bool t317)) (fun _ hk=>hk.2) (.int .i64 t318)) (fun _ hk=>hk.2) (.int .i64 t319)) (fun _ hk=>hk.2) (.int .i64 t320)) (fun _ hk=>hk.2) (.int .i64 t321)) (fun _ hk=>hk.2) (.string t322)) (fun _ hk=>hk.2) (.slice Ao19 t323.length co19)) (fun _ hk=>hk.2) (.bool a0_9)) (fun _ hk=>hk.2) (.int .i64 a0_10)) (fun _ hk=>trivial)))⟩;replace HO316:Aside0 (Kd.R k75 75 w24 w.heap.size (fun _=>True) (.slice Ao14 t314.length co14) t314):=⟨(by rw[hw];exact(by(with_reducible repeat (first|apply Kd.R_alloc|apply Kd.R_drewN|apply Kd.R_drew));exact Kd.R_mono (Kd.R_far (p:=⟨gb309,10,none⟩) (Kd.R_far (p:=⟨gb309,9,none⟩) (Kd.R_far (p:=⟨gb309,8,none⟩) (Kd.R_far (p:=⟨gb309,7,none⟩) (Kd.R_far (p:=⟨gb309,6,none⟩) (Kd.R_far (p:=⟨gb309,5,none⟩) (Kd.R_far (p:=⟨gb309,4,none⟩) (Kd.R_far (p:=⟨gb309,3,none⟩) (Kd.R_far (p:=⟨gb309,2,none⟩) (Kd.R_far (p:=⟨gb309,1,none⟩) (Kd.R_far (p:=⟨gb309,0,none⟩) (Kd.R_types HO316.out BK309.out (by decide)) (fun _ hk=>hk.2) (.slice Ao11 t311.length co11)) (fun _ hk=>hk.2) (.slice Ao14 t314.length co14)) (fun _ hk=>hk.2) (.bool t317)) (fun _ hk=>hk.2) (.int .i64 t318)) (fun _ hk=>hk.2) (.int .i64 t319)) (fun _ hk=>hk.2) (.int .i64 t320)) (fun _ hk=>hk.2) (.int .i64 t321)) (fun _ hk=>hk.2) (.string t322)) (fun _ hk=>hk.2) (.slice Ao19 t323.length co19)) (fun _ hk=>hk.2) (.bool a0_9)) (fun _ hk=>hk.2) (.int .i64 a0_10)) (fun _ hk=>trivial)))⟩;replace HO325:Aside0 (Kd.R k72 72 w24 w.heap.size (fun _=>True) (.slice Ao19 t323.length co19) t323):=⟨(by rw[hw];exact(by(with_reducible repeat (first|apply Kd.R_alloc|apply Kd.R_drewN|apply Kd.R_drew));exact Kd.R_mono (Kd.R_far (p:=⟨gb309,10,none⟩) (Kd.R_far (p:=⟨gb309,9,none⟩) (Kd.R_far (p:=⟨gb309,8,none⟩) (Kd.R_far (p:=⟨gb309,7,none⟩) (Kd.R_far (p:=⟨gb309,6,none⟩) (Kd.R_far (p:=⟨gb309,5,none⟩) (Kd.R_far (p:=⟨gb309,4,none⟩) (Kd.R_far (p:=⟨gb309,3,none⟩) (Kd.R_far (p:=⟨gb309,2,none⟩) (Kd.R_far (p:=⟨gb309,1,none⟩) (Kd.R_far (p:=⟨gb309,0,none⟩) (Kd.R_types HO325.out BK309.out (by decide)) (fun _ hk=>hk.2) (.slice Ao11 t311.length co11)) (fun _ hk=>hk.2) (.slice Ao14 t314.length co14)) (fun _ hk=>hk.2) (.bool t317)) (fun _ hk=>hk.2) (.int .i64 t318)) (fun _ hk=>hk.2) (.int .i64 t319)) (fun _ hk=>hk.2) (.int .i64 t320)) (fun _ hk=>hk.2) (.int .i64 t321)) (fun _ hk=>hk.2) (.string t322)) (fun _ hk=>hk.2) (.slice Ao19 t323.length co19)) (fun _ hk=>hk.2) (.bool a0_9)) (fun _ hk=>hk.2) (.int .i64 a0_10)) (fun _ hk=>trivial)))⟩;replace BK308:Aside0 (w24.heap[gb308]? =some (.cells #[.slice A0_0 l0_0.length c0_0,.slice A0_1 l0_1.length c0_1,.bool a0_2,.int .i64 a0_3,.int .i64 a0_4,.int .i64 a0_5,.int .i64 a0_6,.string a0_7,.slice A0_8 l0_8.length c0_8,.bool a0_9,.int .i64 a0_10] 32 (0,0))):=⟨(by rw[hw];exact(by refine blk_far ?_ NB308_309.out _;refine blk_far ?_ NB308_309.out _;refine blk_far ?_ NB308_309.out _;refine blk_far ?_ NB308_309.out _;refine blk_far ?_ NB308_309.out _;refine blk_far ?_ NB308_309.out _;refine blk_far ?_ NB308_309.out _;refine blk_far ?_ NB308_309.out _;refine blk_far ?_ NB308_309.out _;refine blk_far ?_ NB308_309.out _;refine blk_far ?_ NB308_309.out _;(with_reducible repeat (first|refine blk_drewN ?_ _|refine blk_drew ?_|refine blk_alloc ?_ _));exact BK308.out))⟩;replace BK309:Aside0 (w24.heap[gb309]? =some (.cells #[.slice Ao11 t311.length co11,.slice Ao14 t314.length co14,.bool t317,.int .i64 t318,.int .i64 t319,.int .i64 t320,.int .i64 t321,.string t322,.slice Ao19 t323.length co19,.bool a0_9,.int .i64 a0_10] 44 (0,0))):=⟨(by rw[hw];exact(by refine blk_put (cs:=#[.slice Ao11 t311.length co11,.slice Ao14 t314.length co14,.bool t317,.int .i64 t318,.int .i64 t319,.int .i64 t320,.int .i64 t321,.string t322,.slice Ao19 t323.length co19,.bool a0_9,.int .i64 0]) ?_ 10 _ rfl;refine blk_put (cs:=#[.slice Ao11 t311.length co11,.slice Ao14 t314.length co14,.bool t317,.int .i64 t318,.int .i64 t319,.int .i64 t320,.int .i64 t321,.string t322,.slice Ao19 t323.length co19,.bool false,.int .i64 0]) ?_ 9 _ rfl;refine blk_put (cs:=#[.slice Ao11 t311.length co11,.slice Ao14 t314.length co14,.bool t317,.int .i64 t318,.int .i64 t319,.int .i64 t320,.int .i64 t321,.string t322,.slice none 0 0,.bool false,.int .i64 0]) ?_ 8 _ rfl;refine blk_put (cs:=#[.slice Ao11 t311.length co11,.slice Ao14 t314.length co14,.bool t317,.int .i64 t318,.int .i64 t319,.int .i64 t320,.int .i64 t321,.string (⟨#[]⟩:ByteArray),.slice none 0 0,.bool false,.int .i64 0]) ?_ 7 _ rfl;refine blk_put (cs:=#[.slice Ao11 t311.length co11,.slice Ao14 t314.length co14,.bool t317,.int .i64 t318,.int .i64 t319,.int .i64 t320,.int .i64 0,.string (⟨#[]⟩:ByteArray),.slice none 0 0,.bool false,.int .i64 0]) ?_ 6 _ rfl;refine blk_put (cs:=#[.slice Ao11 t311.length co11,.slice Ao14 t314.length co14,.bool t317,.int .i64 t318,.int .i64 t319,.int .i64 0,.int .i64 0,.string (⟨#[]⟩:ByteArray),.slice none 0 0,.bool false,.int .i64 0]) ?_ 5 _ rfl;refine blk_put (cs:=#[.slice Ao11 t311.length co11,.slice Ao14 t314.length co14,.bool t317,.int .i64 t318,.int .i64 0,.int .i64 0,.int .i64 0,.string (⟨#[]⟩:ByteArray),.slice none 0 0,.bool false,.int .i64 0]) ?_ 4 _ rfl;refine blk_put (cs:=#[.slice Ao11 t311.length co11,.slice Ao14 t314.length co14,.bool t317,.int .i64 0,.int .i64 0,.int .i64 0,.int .i64 0,.string (⟨#[]⟩:ByteArray),.slice none 0 0,.bool false,.int .i64 0]) ?_ 3 _ rfl;refine blk_put (cs:=#[.slice Ao11 t311.length co11,.slice Ao14 t314.length co14,.bool false,.int .i64 0,.int .i64 0,.int .i64 0,.int .i64 0,.string (⟨#[]⟩:ByteArray),.slice none 0 0,.bool false,.int .i64 0]) ?_ 2 _ rfl;refine blk_put (cs:=#[.slice Ao11 t311.length co11,.slice none 0 0,.bool false,.int .i64 0,.int .i64 0,.int .i64 0,.int .i64 0,.string (⟨#[]⟩:ByteArray),.slice none 0 0,.bool false,.int .i64 0]) ?_ 1 _ rfl;refine blk_put (cs:=#[.slice none 0 0,.slice none 0 0,.bool false,.int .i64 0,.int .i64 0,.int .i64 0,.int .i64 0,.string (⟨#[]⟩:ByteArray),.slice none 0 0,.bool false,.int .i64 0]) ?_ 0 _ rfl;(with_reducible repeat (first|refine blk_drewN ?_ _|refine blk_drew ?_|refine blk_alloc ?_ _));exact BK309.out))⟩;replace BK310:Aside0 (w24.heap[gb310]? =some (.cells #[.slice Ao11 t311.length co11,.slice Ao14 t314.length co14,.bool t317,.int .i64 t318,.int .i64 t319,.int .i64 t320,.int .i64 t321,.string t322,.slice Ao19 t323.length co19,.bool a0_9,.int .i64 a0_10] 44 (0,0))):=⟨(by rw[hw];exact(by refine blk_far ?_ NB310_309.out _;refine blk_far ?_ NB310_309.out _;refine blk_far ?_ NB310_309.out _;refine blk_far ?_ NB310_309.out _;refine blk_far ?_ NB310_309.out _;refine blk_far ?_ NB310_309.out _;refine blk_far ?_ NB310_309.out _;refine blk_far ?_ NB310_309.out _;refine blk_far ?_ NB310_309.out _;refine blk_far ?_ NB310_309.out _;refine blk_far ?_ NB310_309.out _;(with_reducible repeat (first|refine blk_drewN ?_ _|refine blk_drew ?_|refine blk_alloc ?_ _));exact BK310.out))⟩;replace HB:Aside0 (Below w.heap.size w w24):=⟨(by rw[hw];exact(bw HB.out))⟩;clear hw))
 refine bodyPost_ret (results_cell_row rfl _ _ gb309 44 #[.slice Ao11 t311.length co11,.slice Ao14 t314.length co14,.bool t317,.int .i64 t318,.int .i64 t319,.int .i64 t320,.int .i64 t321,.string t322,.slice Ao19 t323.length co19,.bool a0_9,.int .i64 a0_10] (0,0) _ rfl (bk BK309.out) Try.underlying44 rfl (by kernel_rfl)) rfl ?_
 exact⟨_,_,_,rr_,ks_ HO313.out,kr_ HO316.out,kr_ HO325.out,bw HB.out⟩

/-! ### impl_goodType: function 48 -/
def impl_goodType.f (a0:Int):Option (Bool):=if a0=127 then (some true) else (if a0=126 then (some true) else (some (a0==125)))
theorem impl_goodType.calls (a0:Int) (r:Bool) (w:World) (h:impl_goodType.f a0=some r):
  Calls Try.prog 48 #[.int .i64 a0] w fun e w'=>e=.returned (.bool r)∧Drawn0 w w':=by
 have H:(if a0=127 then (some true) else (if a0=126 then (some true) else (some (a0==125))))=some r:=h
 clear h
 revert H
 refine iE_ (fun c2b0 c2b1 H=>?_) (fun c2 c2b0 c2b1 H=>?_)
 ·
  obtain rfl:=Option.some.inj H
  clear H
  go_enter Try.func48,Try.ntmps48
  go_wp2
  go_ret
  exact⟨rs_,dr_⟩
 revert H
 refine iE_ (fun c3b0 c3b1 H=>?_) (fun c3 c3b0 c3b1 H=>?_)
 ·
  obtain rfl:=Option.some.inj H
  clear H
  go_enter Try.func48,Try.ntmps48
  go_wp2
  go_ret
  exact⟨rs_,dr_⟩
 obtain rfl:=Option.some.inj H
 clear H
 go_enter Try.func48,Try.ntmps48
 go_wp2
 go_ret
 exact⟨rs_,dr_⟩

/-! ### impl_goodTypes: function 60 -/
def impl_goodTypes.l0:Nat→List Int→Int→Int→Option (Bool)
 |0,_,_,_=>none
 |k+1,x11,x12,x13=>if x13<x12 then (if 0≤x13 then (if x13<(x11.length:Int) then ((impl_goodType.f (rd x11 x13)).bind fun t327=>(if t327=true then (impl_goodTypes.l0 k x11 x12 (wrap64 (x13+1))) else (some false))) else (none)) else (none)) else (some true)
def impl_goodTypes.f (k:Nat) (l0:List Int) (a1:Int):Option (Bool):=if (l0.length:Int) > a1 then (some false) else (impl_goodTypes.l0 k l0 (l0.length:Int) 0)
theorem impl_goodTypes.calls (k:Nat) (A0:Option Addr) (c0:Nat) (l0:List Int) (a1:Int) (r:Bool) (w:World) (hr0:Kd.C (Kd.int .i64) w A0 l0.length l0) (hc0:l0.length≤c0) (h:impl_goodTypes.f k l0 a1=some r):
  Calls Try.prog 60 #[.slice A0 l0.length c0,.int .i64 a1] w fun e w'=>e=.returned (.bool r)∧Drawn0 w w':=by
 have HR0:=A_ hr0
 have HC0:=A_ hc0
 clear hr0 hc0
 have H:(if (l0.length:Int) > a1 then (some false) else (impl_goodTypes.l0 k l0 (l0.length:Int) 0))=some r:=h
 clear h
 revert H
 refine iL_ (fun c3b0 H=>?_) (fun c3b0 H=>?_)
 ·
  obtain rfl:=Option.some.inj H
  clear H
  go_enter Try.func60,Try.ntmps60
  go_wp2
  go_ret
  exact⟨rs_,dr_⟩
 have H':=A_ H
 clear H
 go_enter Try.func60,Try.ntmps60
 go_wp2
 (try simp only[Act.put,List.setIfInBounds_toArray,List.set_cons_zero,List.set_cons_succ])
 go_loopg [13] k (fun kq v13 w'=>∃ (x13_1:Int),v13=.int .i64 x13_1∧Aside0 (impl_goodTypes.l0 kq l0 (l0.length:Int) x13_1=some r)∧Aside0 (kq≤k)∧Drawn0 w w')
 case atStart=>exact⟨(0),rs_,H',⟨Nat.le_refl _⟩,dr_⟩
 case round=>
  clear H'
  try clear c3 c3b0
  obtain⟨x13_1,rfl,HA,HK1,⟨m1,rfl⟩⟩:=hrel
  cases gk with
  |zero=>exact absurd HA.out (by simp[impl_goodTypes.l0])
  |succ k1=>
   have H:=HA.out
   clear HA
   simp only[impl_goodTypes.l0] at H
   revert H
   refine iL_ (fun c4b0 H=>?_) (fun c4b0 H=>?_)
   ·
    replace H:=id_ H
    obtain⟨c5b0,H⟩:=H
    replace H:=id_ H
    obtain⟨c6b0,H⟩:=H
    replace H:=bA_ H
    obtain⟨t327,A7,H⟩:=H
    revert H
    refine iB_ (fun c8 H=>?_) (fun c8 H=>?_)<;>subst c8
    ·
     have H':=A_ H
     clear H
     have p326:0≤(x13_1:Int):=od_
     have q326:x13_1<(l0.length:Int):=od_
     obtain⟨ad326,e326,hx326_0⟩:=Kd.at_int HR0.out x13_1 p326 q326
     cases e326
     replace p326:=eq_true p326
     replace q326:=eq_true q326
     go_wp2_with (first|((with_reducible refine gc_ 48 rfl ?_);refine gn_ (some 18) Try.func48 (impl_goodType.calls (rd l0 x13_1) true _ A7.out) ?_;intro nd))
     go_roundg k1
     case measure=>have:=HK1.out;omega
     case rel=>exact⟨(wrap64 (x13_1+1)),rs_,H',⟨by have:=HK1.out;omega⟩,dr_⟩
    obtain rfl:=Option.some.inj H
    clear H
    have p326:0≤(x13_1:Int):=od_
    have q326:x13_1<(l0.length:Int):=od_
    obtain⟨ad326,e326,hx326_0⟩:=Kd.at_int HR0.out x13_1 p326 q326
    cases e326
    replace p326:=eq_true p326
    replace q326:=eq_true q326
    go_wp2_with (first|((with_reducible refine gc_ 48 rfl ?_);refine gn_ (some 18) Try.func48 (impl_goodType.calls (rd l0 x13_1) false _ A7.out) ?_;intro nd))
    go_ret
    exact⟨rs_,dr_⟩
   obtain rfl:=Option.some.inj H
   clear H
   go_wp2
   go_ret
   exact⟨rs_,dr_⟩

/-! ### impl_formOf: function 89 -/
mutual
def impl_formOf.j0:Nat→Int→Int→Bool→Option (Int)
 |0,_,_,_=>none
 |k+1,x0,x3,x4=>if x4=true then (some 2) else (if x3=12 then (impl_formOf.j1 k x0 x3 (x3==12)) else (if x3=13 then (impl_formOf.j1 k x0 x3 (x3==13)) else (if x3=16 then (impl_formOf.j1 k x0 x3 (x3==16)) else (if x3=32 then (impl_formOf.j1 k x0 x3 (x3==32)) else (if x3=33 then (impl_formOf.j1 k x0 x3 (x3==33)) else (if x3=34 then (impl_formOf.j1 k x0 x3 (x3==34)) else (if x3=35 then (impl_formOf.j1 k x0 x3 (x3==35)) else (impl_formOf.j1 k x0 x3 (x3==36)))))))))
def impl_formOf.j1:Nat→Int→Int→Bool→Option (Int)
 |0,_,_,_=>none
 |k+1,x0,x3,x8=>if x8=true then (some 3) else (if x3=40 then (impl_formOf.j2 k x0 x3 (x3==40)) else (if x3=41 then (impl_formOf.j2 k x0 x3 (x3==41)) else (if x3=54 then (impl_formOf.j2 k x0 x3 (x3==54)) else (impl_formOf.j2 k x0 x3 (x3==55)))))
def impl_formOf.j2:Nat→Int→Int→Bool→Option (Int)
 |0,_,_,_=>none
 |k+1,x0,x3,x17=>if x17=true then (some 4) else (if x3=65 then (some 5) else (if x3=66 then (some 6) else (if x3=67 then (some 7) else (if x3=0 then (impl_formOf.j3 k x0 (x3==0)) else (if x3=1 then (impl_formOf.j3 k x0 (x3==1)) else (if x3=5 then (impl_formOf.j3 k x0 (x3==5)) else (if x3=11 then (impl_formOf.j3 k x0 (x3==11)) else (if x3=15 then (impl_formOf.j3 k x0 (x3==15)) else (if x3=26 then (impl_formOf.j3 k x0 (x3==26)) else (if x3=27 then (impl_formOf.j3 k x0 (x3==27)) else (if x3=63 then (impl_formOf.j3 k x0 (x3==63)) else (if x3=64 then (impl_formOf.j3 k x0 (x3==64)) else (if x3=176 then (impl_formOf.j3 k x0 (x3==176)) else (if x3=177 then (impl_formOf.j3 k x0 (x3==177)) else (if x3=178 then (impl_formOf.j3 k x0 (x3==178)) else (if x3=179 then (impl_formOf.j3 k x0 (x3==179)) else (impl_formOf.j3 k x0 (x3==180))))))))))))))))))
def impl_formOf.j3:Nat→Int→Bool→Option (Int)
 |0,_,_=>none
 |k+1,x0,x28=>if x28=true then (some 1) else (if x0 > 96 then (if x0≤123 then (some 1) else (if x0 > 128 then (if x0≤155 then (some 1) else (if x0 > 160 then (if x0≤169 then (some 1) else (some 0)) else (some 0))) else (if x0 > 160 then (if x0≤169 then (some 1) else (some 0)) else (some 0)))) else (if x0 > 128 then (if x0≤155 then (some 1) else (if x0 > 160 then (if x0≤169 then (some 1) else (some 0)) else (some 0))) else (if x0 > 160 then (if x0≤169 then (some 1) else (some 0)) else (some 0))))
end
def impl_formOf.f (k:Nat) (a0:Int):Option (Int):=if a0=2 then (impl_formOf.j0 k a0 a0 (a0==2)) else (if a0=3 then (impl_formOf.j0 k a0 a0 (a0==3)) else (impl_formOf.j0 k a0 a0 (a0==4)))
theorem impl_formOf.mono_l:∀ k,(∀ y0 y1 y2,LeO (impl_formOf.j0 k y0 y1 y2) (impl_formOf.j0 (k+1) y0 y1 y2))∧(∀ y0 y1 y2,LeO (impl_formOf.j1 k y0 y1 y2) (impl_formOf.j1 (k+1) y0 y1 y2))∧(∀ y0 y1 y2,LeO (impl_formOf.j2 k y0 y1 y2) (impl_formOf.j2 (k+1) y0 y1 y2))∧(∀ y0 y1,LeO (impl_formOf.j3 k y0 y1) (impl_formOf.j3 (k+1) y0 y1))
 |0=>⟨fun _ _ _ r h=>by simp[impl_formOf.j0] at h,fun _ _ _ r h=>by simp[impl_formOf.j1] at h,fun _ _ _ r h=>by simp[impl_formOf.j2] at h,fun _ _ r h=>by simp[impl_formOf.j3] at h⟩
 |k+1=>by
  obtain⟨ih0,ih1,ih2,ih3⟩:=impl_formOf.mono_l k
  refine⟨?_,?_,?_,?_⟩<;>intros<;>first|unfold impl_formOf.j0|unfold impl_formOf.j1|unfold impl_formOf.j2|unfold impl_formOf.j3
  all_goals repeat' first
  |(with_reducible exact ih0 _ _ _)
  |(with_reducible exact ih1 _ _ _)
  |(with_reducible exact ih2 _ _ _)
  |(with_reducible exact ih3 _ _)
  |(with_reducible exact LeO.refl _)
  |(with_reducible exact LeO.none _)
  |(with_reducible refine LeO.ite ?_ ?_)
  |(with_reducible refine LeO.bind ?_ (fun _=>?_))
  |exact ih0 _ _ _
  |exact ih1 _ _ _
  |exact ih2 _ _ _
  |exact ih3 _ _
  |exact LeO.none _
  |refine LeO.ite ?_ ?_
  |refine LeO.bind ?_ (fun _=>?_)
theorem impl_formOf.mono:∀ a0 k,LeO (impl_formOf.f k a0) (impl_formOf.f (k+1) a0):=by
 intro a0 k
 obtain⟨ih0,ih1,ih2,ih3⟩:=impl_formOf.mono_l k
 unfold impl_formOf.f
 repeat' first
  |(with_reducible exact ih0 _ _ _)
  |(with_reducible exact ih1 _ _ _)
  |(with_reducible exact ih2 _ _ _)
  |(with_reducible exact ih3 _ _)
  |(with_reducible exact LeO.refl _)
  |(with_reducible exact LeO.none _)
  |(with_reducible refine LeO.ite ?_ ?_)
  |(with_reducible refine LeO.bind ?_ (fun _=>?_))
  |exact ih0 _ _ _
  |exact ih1 _ _ _
  |exact ih2 _ _ _
  |exact ih3 _ _
  |exact LeO.none _
  |refine LeO.ite ?_ ?_
  |refine LeO.bind ?_ (fun _=>?_)
theorem impl_formOf.calls (k:Nat) (a0:Int) (r:Int) (w:World) (h:impl_formOf.f k a0=some r):
  Calls Try.prog 89 #[.int .i64 a0] w fun e w'=>e=.returned (.int .i64 r)∧Drawn0 w w':=by
 have H:(if a0=2 then (impl_formOf.j0 k a0 a0 (a0==2)) else (if a0=3 then (impl_formOf.j0 k a0 a0 (a0==3)) else (impl_formOf.j0 k a0 a0 (a0==4))))=some r:=h
 clear h
 have HC2:=A_ H
 clear H
 go_enter Try.func89,Try.ntmps89
 go_upto_if 4 with (fail)
 go_cut [4] (fun v4 wc=>∃ (kq:Nat) (x4_1:Bool),v4=.bool x4_1∧Aside0 (impl_formOf.j0 kq a0 a0 x4_1=some r)∧Aside0 (kq≤k)∧Drawn0 w wc)
 case first=>
  have H:=HC2.out
  clear HC2
  revert H
  refine iE_ (fun c3b0 c3b1 H=>?_) (fun c3 c3b0 c3b1 H=>?_)
  ·
   (first|rw[c3b0]|(simp only[i64_w,i32_w];rw[c3b0])|skip)
   have H':=A_ H
   clear H
   go_wp2
   go_meet
   case rel=>exact⟨_,((a0==2)),rs_,H',⟨by first|omega|exact Nat.le_refl _⟩,dr_⟩
  (first|rw[c3b0]|(simp only[i64_w,i32_w];rw[c3b0])|skip)
  revert H
  refine iE_ (fun c4b0 c4b1 H=>?_) (fun c4 c4b0 c4b1 H=>?_)
  ·
   have H':=A_ H
   clear H
   go_wp2
   go_meet
   case rel=>exact⟨_,((a0==3)),rs_,H',⟨by first|omega|exact Nat.le_refl _⟩,dr_⟩
  have H':=A_ H
  clear H
  go_wp2
  go_meet
  case rel=>exact⟨_,((a0==4)),rs_,H',⟨by first|omega|exact Nat.le_refl _⟩,dr_⟩
 case rest=>
  clear HC2
  obtain⟨kq,x4_1,rfl,HA,HJ1,⟨mc1,rfl⟩⟩:=hcut
  cases kq with
  |zero=>exact absurd HA.out (by simp[impl_formOf.j0])
  |succ kj1=>
   have H:=HA.out
   clear HA
   simp only[impl_formOf.j0] at H
   revert H
   refine iB_ (fun c5 H=>?_) (fun c5 H=>?_)<;>subst c5
   ·
    obtain rfl:=Option.some.inj H
    clear H
    go_wp2
    go_ret
    exact⟨rs_,dr_⟩
   have HC6:=A_ H
   clear H
   go_upto_if 8 with (fail)
   go_cut [8] (fun v8 wc=>∃ (kq:Nat) (x8_5:Bool),v8=.bool x8_5∧Aside0 (impl_formOf.j1 kq a0 a0 x8_5=some r)∧Aside0 (kq≤kj1)∧Drawn0 w wc)
   case first=>
    have H:=HC6.out
    clear HC6
    revert H
    refine iE_ (fun c7b0 c7b1 H=>?pc7) (fun c7 c7b0 c7b1 H=>?nc7)
    case' pc7=>
     (first|rw[c7b0]|(simp only[i64_w,i32_w];rw[c7b0])|skip)
    case' nc7=>
     (first|rw[c7b0]|(simp only[i64_w,i32_w];rw[c7b0])|skip)
     iterate 5 (revert H;refine iE_ (fun _ _ H=>?_) (fun _ _ _ H=>?_);rotate_left)
     revert H
     refine iE_ (fun c13b0 c13b1 H=>?_) (fun c13 c13b0 c13b1 H=>?_)
    all_goals
     have H':=A_ H
     clear H
     go_wp2
     go_meet
     case rel=>exact⟨_,_,rs_,H',⟨by have:=HJ1.out;first|omega|exact Nat.le_refl _⟩,dr_⟩
   case rest=>
    clear HC6
    try clear c5
    obtain⟨kq,x8_5,rfl,HA,HJ5,⟨mc5,rfl⟩⟩:=hcut
    cases kq with
    |zero=>exact absurd HA.out (by simp[impl_formOf.j1])
    |succ kj5=>
     have H:=HA.out
     clear HA
     simp only[impl_formOf.j1] at H
     revert H
     refine iB_ (fun c14 H=>?_) (fun c14 H=>?_)<;>subst c14
     ·
      obtain rfl:=Option.some.inj H
      clear H
      go_wp2
      go_ret
      exact⟨rs_,dr_⟩
     have HC15:=A_ H
     clear H
     go_upto_if 17 with (fail)
     go_cut [17] (fun v17 wc=>∃ (kq:Nat) (x17_14:Bool),v17=.bool x17_14∧Aside0 (impl_formOf.j2 kq a0 a0 x17_14=some r)∧Aside0 (kq≤kj5)∧Drawn0 w wc)
     case first=>
      have H:=HC15.out
      clear HC15
      revert H
      refine iE_ (fun c16b0 c16b1 H=>?pc16) (fun c16 c16b0 c16b1 H=>?nc16)
      case' pc16=>
       (first|rw[c16b0]|(simp only[i64_w,i32_w];rw[c16b0])|skip)
      case' nc16=>
       (first|rw[c16b0]|(simp only[i64_w,i32_w];rw[c16b0])|skip)
       revert H
       refine iE_ (fun c17b0 c17b1 H=>?_) (fun c17 c17b0 c17b1 H=>?_)
       rotate_left
       revert H
       refine iE_ (fun c18b0 c18b1 H=>?_) (fun c18 c18b0 c18b1 H=>?_)
      all_goals
       have H':=A_ H
       clear H
       go_wp2
       go_meet
       case rel=>exact⟨_,_,rs_,H',⟨by have:=HJ1.out;have:=HJ5.out;first|omega|exact Nat.le_refl _⟩,dr_⟩
     case rest=>
      clear HC15
      try clear c5 c14
      obtain⟨kq,x17_14,rfl,HA,HJ14,⟨mc14,rfl⟩⟩:=hcut
      cases kq with
      |zero=>exact absurd HA.out (by simp[impl_formOf.j2])
      |succ kj14=>
       have H:=HA.out
       clear HA
       simp only[impl_formOf.j2] at H
       revert H
       refine iB_ (fun c19 H=>?_) (fun c19 H=>?_)<;>subst c19
       ·
        obtain rfl:=Option.some.inj H
        clear H
        go_wp2
        go_ret
        exact⟨rs_,dr_⟩
       revert H
       refine iE_ (fun c20b0 c20b1 H=>?_) (fun c20 c20b0 c20b1 H=>?_)
       ·
        obtain rfl:=Option.some.inj H
        clear H
        go_wp2
        go_ret
        exact⟨rs_,dr_⟩
       revert H
       refine iE_ (fun c21b0 c21b1 H=>?_) (fun c21 c21b0 c21b1 H=>?_)
       ·
        obtain rfl:=Option.some.inj H
        clear H
        go_wp2
        go_ret
        exact⟨rs_,dr_⟩
       revert H
       refine iE_ (fun c22b0 c22b1 H=>?_) (fun c22 c22b0 c22b1 H=>?_)
       ·
        obtain rfl:=Option.some.inj H
        clear H
        go_wp2
        go_ret
        exact⟨rs_,dr_⟩
       have HC23:=A_ H
       clear H
       go_upto_if 28 with (fail)
       go_cut [28] (fun v28 wc=>∃ (kq:Nat) (x28_22:Bool),v28=.bool x28_22∧Aside0 (impl_formOf.j3 kq a0 x28_22=some r)∧Aside0 (kq≤kj14)∧Drawn0 w wc)
       case first=>
        have H:=HC23.out
        clear HC23
        revert H
        refine iE_ (fun c24b0 c24b1 H=>?pc24) (fun c24 c24b0 c24b1 H=>?nc24)
        case' pc24=>
         (first|rw[c24b0]|(simp only[i64_w,i32_w];rw[c24b0])|skip)
        case' nc24=>
         (first|rw[c24b0]|(simp only[i64_w,i32_w];rw[c24b0])|skip)
         iterate 11 (revert H;refine iE_ (fun _ _ H=>?_) (fun _ _ _ H=>?_);rotate_left)
         revert H
         refine iE_ (fun c36b0 c36b1 H=>?_) (fun c36 c36b0 c36b1 H=>?_)
        all_goals
         have H':=A_ H
         clear H
         go_wp2
         go_meet
         case rel=>exact⟨_,_,rs_,H',⟨by have:=HJ1.out;have:=HJ5.out;have:=HJ14.out;first|omega|exact Nat.le_refl _⟩,dr_⟩
       case rest=>
        clear HC23
        try clear c5 c14 c19 c20 c20b0 c20b1 c21 c21b0 c21b1 c22 c22b0 c22b1
        obtain⟨kq,x28_22,rfl,HA,HJ22,⟨mc22,rfl⟩⟩:=hcut
        cases kq with
        |zero=>exact absurd HA.out (by simp[impl_formOf.j3])
        |succ kj22=>
         have H:=HA.out
         clear HA
         simp only[impl_formOf.j3] at H
         revert H
         refine iB_ (fun c37 H=>?_) (fun c37 H=>?_)<;>subst c37
         ·
          obtain rfl:=Option.some.inj H
          clear H
          go_wp2
          go_ret
          exact⟨rs_,dr_⟩
         revert H
         refine iL_ (fun c38b0 H=>?_) (fun c38b0 H=>?_)
         ·
          revert H
          refine iL_ (fun c39b0 H=>?_) (fun c39b0 H=>?_)
          ·
           obtain rfl:=Option.some.inj H
           clear H
           go_wp2
           go_ret
           exact⟨rs_,dr_⟩
          revert H
          refine iL_ (fun c40b0 H=>?_) (fun c40b0 H=>?_)
          ·
           revert H
           refine iL_ (fun c41b0 H=>?_) (fun c41b0 H=>?_)
           ·
            obtain rfl:=Option.some.inj H
            clear H
            go_wp2
            go_ret
            exact⟨rs_,dr_⟩
           revert H
           refine iL_ (fun c42b0 H=>?_) (fun c42b0 H=>?_)
           ·
            revert H
            refine iL_ (fun c43b0 H=>?_) (fun c43b0 H=>?_)
            ·
             obtain rfl:=Option.some.inj H
             clear H
             go_wp2
             go_ret
             exact⟨rs_,dr_⟩
            obtain rfl:=Option.some.inj H
            clear H
            go_wp2
            go_ret
            exact⟨rs_,dr_⟩
           obtain rfl:=Option.some.inj H
           clear H
           go_wp2
           go_ret
           exact⟨rs_,dr_⟩
          revert H
          refine iL_ (fun c44b0 H=>?_) (fun c44b0 H=>?_)
          ·
           revert H
           refine iL_ (fun c45b0 H=>?_) (fun c45b0 H=>?_)
           ·
            obtain rfl:=Option.some.inj H
            clear H
            go_wp2
            go_ret
            exact⟨rs_,dr_⟩
           obtain rfl:=Option.some.inj H
           clear H
           go_wp2
           go_ret
           exact⟨rs_,dr_⟩
          obtain rfl:=Option.some.inj H
          clear H
          go_wp2
          go_ret
          exact⟨rs_,dr_⟩
         revert H
         refine iL_ (fun c46b0 H=>?_) (fun c46b0 H=>?_)
         ·
          revert H
          refine iL_ (fun c47b0 H=>?_) (fun c47b0 H=>?_)
          ·
           obtain rfl:=Option.some.inj H
           clear H
           go_wp2
           go_ret
           exact⟨rs_,dr_⟩
          revert H
          refine iL_ (fun c48b0 H=>?_) (fun c48b0 H=>?_)
          ·
           revert H
           refine iL_ (fun c49b0 H=>?_) (fun c49b0 H=>?_)
           ·
            obtain rfl:=Option.some.inj H
            clear H
            go_wp2
            go_ret
            exact⟨rs_,dr_⟩
           obtain rfl:=Option.some.inj H
           clear H
           go_wp2
           go_ret
           exact⟨rs_,dr_⟩
          obtain rfl:=Option.some.inj H
          clear H
          go_wp2
          go_ret
          exact⟨rs_,dr_⟩
         revert H
         refine iL_ (fun c50b0 H=>?_) (fun c50b0 H=>?_)
         ·
          revert H
          refine iL_ (fun c51b0 H=>?_) (fun c51b0 H=>?_)
          ·
           obtain rfl:=Option.some.inj H
           clear H
           go_wp2
           go_ret
           exact⟨rs_,dr_⟩
          obtain rfl:=Option.some.inj H
          clear H
          go_wp2
          go_ret
          exact⟨rs_,dr_⟩
         obtain rfl:=Option.some.inj H
         clear H
         go_wp2
         go_ret
         exact⟨rs_,dr_⟩
end Go.Proofs.Ytanhbfhmgmjdgaa.Q

