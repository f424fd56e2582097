-- Written by a program of this session; it walks the functions that the law reaches.
import Derived.Test.YtanhbfhmgmjdgaaQx0
import Derived.Test.YtanhbfhmgmjdgaaQx13
namespace Go.Proofs.Ytanhbfhmgmjdgaa.Q
open Go.RowKit Go.Proofs.YtanhbfhmgmjdgaaW.PrintWords Go.Proofs.YtanhbfhmgmjdgaaW.PrintLast Go.Proofs.YtanhbfhmgmjdgaaW.PrintMore
attribute [local go_sem] max2_int min2_int max_two min_two max_three min_three max_four min_four   -- for this text's walks alone
set_option linter.unusedVariables false
set_option linter.unusedSimpArgs false
set_option maxRecDepth 100000
set_option maxHeartbeats 8000000

/-! ### laws_toModule: function 12 -/
def laws_toModule.f (k:Nat) (l0_0:List (S84)) (l0_1:List (S91)) (a0_2:Bool) (a0_3:Int) (a0_4:Int) (a0_5:Int):Option ((List (S88)) × (List (S75)) × Bool × Int × Int × Int):=(laws_toFuncS.f k l0_0).bind fun t281=>((laws_toGlobalS.f k l0_1).bind fun t284=>(some (t281,t284,a0_2,a0_3,a0_4,a0_5)))
theorem laws_toModule.calls (k:Nat) (A0_0:Option Addr) (c0_0:Nat) (l0_0:List (S84)) (A0_1:Option Addr) (c0_1:Nat) (l0_1:List (S91)) (a0_2:Bool) (a0_3:Int) (a0_4:Int) (a0_5:Int) (r1:List (S88)) (r2:List (S75)) (r3:Bool) (r4:Int) (r5:Int) (r6:Int) (w:World) (hr0_0:Kd.C k84 w A0_0 l0_0.length l0_0) (hc0_0:l0_0.length≤c0_0) (hr0_1:Kd.C k91 w A0_1 l0_1.length l0_1) (hc0_1:l0_1.length≤c0_1) (h:laws_toModule.f k l0_0 l0_1 a0_2 a0_3 a0_4 a0_5=some (r1,r2,r3,r4,r5,r6)):
  Calls Try.prog 12 #[.agg #[.slice A0_0 l0_0.length c0_0,.slice A0_1 l0_1.length c0_1,.bool a0_2,.int .i64 a0_3,.int .i64 a0_4,.int .i64 a0_5]] w fun e w'=>∃ v0_ v1_:Value,e=.returned (.agg #[v0_,v1_,.bool r3,.int .i64 r4,.int .i64 r5,.int .i64 r6])∧Kd.S k88 88 w' w.heap.size (fun _=>True) v0_ r1∧Kd.R k75 75 w' w.heap.size (fun _=>True) v1_ r2∧Below w.heap.size w w':=by
 have hu25:=Try.underlying25
 have hu38:=Try.underlying38
 have HR0_0:=A_ hr0_0
 have HC0_0:=A_ hc0_0
 clear hr0_0 hc0_0
 have HR0_1:=A_ hr0_1
 have HC0_1:=A_ hc0_1
 clear hr0_1 hc0_1
 have HB:=A_ (Below.refl w.heap.size w)
 have H:((laws_toFuncS.f k l0_0).bind fun t281=>((laws_toGlobalS.f k l0_1).bind fun t284=>(some (t281,t284,a0_2,a0_3,a0_4,a0_5))))=some (r1,r2,r3,r4,r5,r6):=h
 clear h
 replace H:=bA_ H
 obtain⟨t281,A2,H⟩:=H
 replace H:=bA_ H
 obtain⟨t284,A3,H⟩:=H
 simp only[Option.some.injEq,Prod.mk.injEq] at H
 obtain⟨rfl,rfl,rfl,rfl,rfl,rfl⟩:=H
 go_enter Try.func12,Try.ntmps12
 go_wp2_with (first|((with_reducible refine gd_ 1 rfl ?_);refine bx_ #[.slice A0_0 l0_0.length c0_0,.slice A0_1 l0_1.length c0_1,.bool a0_2,.int .i64 a0_3,.int .i64 a0_4,.int .i64 a0_5] 25 ?_;intro gb278 hg w4 hbox hb;have BK278:=A_ hbox;have GW278:=gw_ hg HB;have GE278:=GW278;replace HB:=bs_ HB hb;clear hb hbox hg)|((with_reducible refine gd_ 2 rfl ?_);refine bx_ #[.slice none 0 0,.slice none 0 0,.bool false,.int .i64 0,.int .i64 0,.int .i64 0] 38 ?_;intro gb279 hg w5 hbox hb;have BK279:=A_ hbox;have GW279:=gw_ hg HB;have GE279:=GW279;obtain⟨NB278_279,NB279_278⟩:=nb_ BK278 hg;replace BK278:=kb_ BK278 hb;replace HB:=bs_ HB hb;clear hb hbox hg)|((with_reducible refine gd_ 3 rfl ?_);refine bx_ #[.slice none 0 0,.slice none 0 0,.bool false,.int .i64 0,.int .i64 0,.int .i64 0] 38 ?_;intro gb280 hg w6 hbox hb;have BK280:=A_ hbox;have GW280:=gw_ hg HB;have GE280:=GW280;obtain⟨NB278_280,NB280_278⟩:=nb_ BK278 hg;obtain⟨NB279_280,NB280_279⟩:=nb_ BK279 hg;replace BK278:=kb_ BK278 hb;replace BK279:=kb_ BK279 hb;replace HB:=bs_ HB hb;clear hb hbox hg;have hnb7:=NB278_279.out;have hnc7:=NB279_278.out;have hnb8:=NB278_280.out;have hnc8:=NB280_278.out;obtain⟨hcz9_0,hcz9_1,hcz9_2,hcz9_3,hcz9_4,hcz9_5⟩:=cs6_ BK278.out;obtain⟨hfz9_0,hfz9_1,hfz9_2,hfz9_3,hfz9_4,hfz9_5⟩:=fz6_ BK278.out)|((with_reducible refine gc_ 25 rfl ?_);refine goesL_ (some 6) rfl rfl Try.func25 (by kernel_rfl) rfl #[.slice A0_0 l0_0.length c0_0] rfl ar ?_;(with_reducible refine(laws_toFuncS.calls k _ _ l0_0 t281 _ ?side1 ?side2 A2.out).mono ?_);(case side1=>exact cb_ HR0_0 HB);(case side2=>exact HC0_0.out);rintro e w10 ⟨v282,rfl,ho0,hb⟩;refine⟨_,rfl,?_⟩;have HO283:=A_ (Kd.S_lower ho0 (below_size (bw HB.out)));replace BK278:=kb_ BK278 hb;replace BK279:=kb_ BK279 hb;replace BK280:=kb_ BK280 hb;replace HB:=bs_ HB hb;(try clear hb);(try clear hb2);(try clear hk);(try clear hi);(try clear ho0);obtain⟨Ao11,co11,eo11⟩:=Kd.S_slice HO283.out;subst eo11;have hnb12:=NB280_279.out;have hnc12:=NB279_280.out;obtain⟨hcz13_0,hcz13_1,hcz13_2,hcz13_3,hcz13_4,hcz13_5⟩:=cs6_ BK280.out;obtain⟨hfz13_0,hfz13_1,hfz13_2,hfz13_3,hfz13_4,hfz13_5⟩:=fz6_ BK280.out;obtain⟨hcz14_0,hcz14_1,hcz14_2,hcz14_3,hcz14_4,hcz14_5⟩:=cs6_ BK278.out;obtain⟨hfz14_0,hfz14_1,hfz14_2,hfz14_3,hfz14_4,hfz14_5⟩:=fz6_ BK278.out)|((with_reducible refine gc_ 26 rfl ?_);refine goesL_ (some 10) rfl rfl Try.func26 (by kernel_rfl) rfl #[.slice A0_1 l0_1.length c0_1] rfl ar ?_;(with_reducible refine(laws_toGlobalS.calls k _ _ l0_1 t284 _ ?side1 ?side2 A3.out).mono ?_);(case side1=>exact Kd.C_below HR0_1.out (bw HB.out));(case side2=>exact HC0_1.out);rintro e w15 ⟨v285,rfl,ho0,hb⟩;refine⟨_,rfl,?_⟩;have HO286:=A_ (Kd.R_lower ho0 (below_size (bw HB.out)));replace HO283:=A_ (Kd.S_below (by(with_reducible repeat (first|apply Kd.S_alloc|apply Kd.S_drewN|apply Kd.S_drew));exact(Kd.S_mono (Kd.S_far (p:=⟨gb280,0,none⟩) (Kd.S_types HO283.out BK280.out (by decide)) (fun _ hk=>hk.2) (.slice Ao11 t281.length co11)) (fun _ h_=>h_.1))) hb);replace BK278:=A_ (blk_below (g:=gb278) (o:=.cells #[.slice A0_0 l0_0.length c0_0,.slice A0_1 l0_1.length c0_1,.bool a0_2,.int .i64 a0_3,.int .i64 a0_4,.int .i64 a0_5] 25 (0,0)) (by refine blk_far ?_ NB278_280.out _;(with_reducible repeat (first|refine blk_drewN ?_ _|refine blk_drew ?_|refine blk_alloc ?_ _));exact BK278.out) hb);replace BK279:=A_ (blk_below (g:=gb279) (o:=.cells #[.slice none 0 0,.slice none 0 0,.bool false,.int .i64 0,.int .i64 0,.int .i64 0] 38 (0,0)) (by refine blk_far ?_ NB279_280.out _;(with_reducible repeat (first|refine blk_drewN ?_ _|refine blk_drew ?_|refine blk_alloc ?_ _));exact BK279.out) hb);replace BK280:=A_ (blk_below (g:=gb280) (o:=.cells #[.slice Ao11 t281.length co11,.slice none 0 0,.bool false,.int .i64 0,.int .i64 0,.int .i64 0] 38 (0,0)) (by refine blk_put (cs:=#[.slice none 0 0,.slice none 0 0,.bool false,.int .i64 0,.int .i64 0,.int .i64 0]) ?_ 0 _ rfl;(with_reducible repeat (first|refine blk_drewN ?_ _|refine blk_drew ?_|refine blk_alloc ?_ _));exact BK280.out) hb);replace HB:=bs_ HB hb;(try clear hb);(try clear hb2);(try clear hk);(try clear hi);(try clear ho0);obtain⟨Ao16,co16,eo16⟩:=Kd.R_slice HO286.out;subst eo16;obtain⟨hcz17_0,hcz17_1,hcz17_2,hcz17_3,hcz17_4,hcz17_5⟩:=cs6_ BK280.out;obtain⟨hfz17_0,hfz17_1,hfz17_2,hfz17_3,hfz17_4,hfz17_5⟩:=fz6_ BK280.out;obtain⟨hcz18_0,hcz18_1,hcz18_2,hcz18_3,hcz18_4,hcz18_5⟩:=cs6_ BK278.out;obtain⟨hfz18_0,hfz18_1,hfz18_2,hfz18_3,hfz18_4,hfz18_5⟩:=fz6_ BK278.out)|((with_reducible refine gate_store (t:=3) (p:=23) rfl ?_);refine store_event (t:=3) (p:=23) (v:=?vo_w19) (w1:=(((((w15.setCell ⟨gb280,1,none⟩ (.slice Ao16 t284.length co16)).setCell ⟨gb280,2,none⟩ (.bool a0_2)).setCell ⟨gb280,3,none⟩ (.int .i64 a0_3)).setCell ⟨gb280,4,none⟩ (.int .i64 a0_4)).setCell ⟨gb280,5,none⟩ (.int .i64 a0_5))) ?hg ?ho ?hn ?hr ?_;(case ho=>rfl);(case hg=>rfl);(case hn=>rfl);(case hr=>first|(go_simp;done)|(go_simp;rfl));intro w19 hw;replace HO283:Aside0 (Kd.S k88 88 w19 w.heap.size (fun _=>True) (.slice Ao11 t281.length co11) t281):=⟨(by rw[hw];exact(by(with_reducible repeat (first|apply Kd.S_alloc|apply Kd.S_drewN|apply Kd.S_drew));exact Kd.S_mono (Kd.S_far (p:=⟨gb280,5,none⟩) (Kd.S_far (p:=⟨gb280,4,none⟩) (Kd.S_far (p:=⟨gb280,3,none⟩) (Kd.S_far (p:=⟨gb280,2,none⟩) (Kd.S_far (p:=⟨gb280,1,none⟩) (Kd.S_types HO283.out BK280.out (by decide)) (fun _ hk=>hk.2) (.slice Ao16 t284.length co16)) (fun _ hk=>hk.2) (.bool a0_2)) (fun _ hk=>hk.2) (.int .i64 a0_3)) (fun _ hk=>hk.2) (.int .i64 a0_4)) (fun _ hk=>hk.2) (.int .i64 a0_5)) (fun _ hk=>trivial)))⟩;replace HO286:Aside0 (Kd.R k75 75 w19 w.heap.size (fun _=>True) (.slice Ao16 t284.length co16) t284):=⟨(by rw[hw];exact(by(with_reducible repeat (first|apply Kd.R_alloc|apply Kd.R_drewN|apply Kd.R_drew));exact Kd.R_mono (Kd.R_far (p:=⟨gb280,5,none⟩) (Kd.R_far (p:=⟨gb280,4,none⟩) (Kd.R_far (p:=⟨gb280,3,none⟩) (Kd.R_far (p:=⟨gb280,2,none⟩) (Kd.R_far (p:=⟨gb280,1,none⟩) (Kd.R_types HO286.out BK280.out (by decide)) (fun _ hk=>hk.2) (.slice Ao16 t284.length co16)) (fun _ hk=>hk.2) (.bool a0_2)) (fun _ hk=>hk.2) (.int .i64 a0_3)) (fun _ hk=>hk.2) (.int .i64 a0_4)) (fun _ hk=>hk.2) (.int .i64 a0_5)) (fun _ hk=>trivial)))⟩;replace BK278:Aside0 (w19.heap[gb278]? =some (.cells #[.slice A0_0 l0_0.length c0_0,.slice A0_1 l0_1.length c0_1,.bool a0_2,.int .i64 a0_3,.int .i64 a0_4,.int .i64 a0_5] 25 (0,0))):=⟨(by rw[hw];exact(by refine blk_far ?_ NB278_280.out _;refine blk_far ?_ NB278_280.out _;refine blk_far ?_ NB278_280.out _;refine blk_far ?_ NB278_280.out _;refine blk_far ?_ NB278_280.out _;(with_reducible repeat (first|refine blk_drewN ?_ _|refine blk_drew ?_|refine blk_alloc ?_ _));exact BK278.out))⟩;replace BK279:Aside0 (w19.heap[gb279]? =some (.cells #[.slice none 0 0,.slice none 0 0,.bool false,.int .i64 0,.int .i64 0,.int .i64 0] 38 (0,0))):=⟨(by rw[hw];exact(by refine blk_far ?_ NB279_280.out _;refine blk_far ?_ NB279_280.out _;refine blk_far ?_ NB279_280.out _;refine blk_far ?_ NB279_280.out _;refine blk_far ?_ NB279_280.out _;(with_reducible repeat (first|refine blk_drewN ?_ _|refine blk_drew ?_|refine blk_alloc ?_ _));exact BK279.out))⟩;replace BK280:Aside0 (w19.heap[gb280]? =some (.cells #[.slice Ao11 t281.length co11,.slice Ao16 t284.length co16,.bool a0_2,.int .i64 a0_3,.int .i64 a0_4,.int .i64 a0_5] 38 (0,0))):=⟨(by rw[hw];exact(by refine blk_put (cs:=#[.slice Ao11 t281.length co11,.slice Ao16 t284.length co16,.bool a0_2,.int .i64 a0_3,.int .i64 a0_4,.int .i64 0]) ?_ 5 _ rfl;refine blk_put (cs:=#[.slice Ao11 t281.length co11,.slice Ao16 t284.length co16,.bool a0_2,.int .i64 a0_3,.int .i64 0,.int .i64 0]) ?_ 4 _ rfl;refine blk_put (cs:=#[.slice Ao11 t281.length co11,.slice Ao16 t284.length co16,.bool a0_2,.int .i64 0,.int .i64 0,.int .i64 0]) ?_ 3 _ rfl;refine blk_put (cs:=#[.slice Ao11 t281.length co11,.slice Ao16 t284.length co16,.bool false,.int .i64 0,.int .i64 0,.int .i64 0]) ?_ 2 _ rfl;refine blk_put (cs:=#[.slice Ao11 t281.length co11,.slice none 0 0,.bool false,.int .i64 0,.int .i64 0,.int .i64 0]) ?_ 1 _ rfl;(with_reducible repeat (first|refine blk_drewN ?_ _|refine blk_drew ?_|refine blk_alloc ?_ _));exact BK280.out))⟩;replace HB:Aside0 (Below w.heap.size w w19):=⟨(by rw[hw];exact(bw HB.out))⟩;clear hw;obtain⟨hcz20_0,hcz20_1,hcz20_2,hcz20_3,hcz20_4,hcz20_5⟩:=cs6_ BK280.out;obtain⟨hfz20_0,hfz20_1,hfz20_2,hfz20_3,hfz20_4,hfz20_5⟩:=fz6_ BK280.out;obtain⟨hcz21_0,hcz21_1,hcz21_2,hcz21_3,hcz21_4,hcz21_5⟩:=cs6_ BK279.out;obtain⟨hfz21_0,hfz21_1,hfz21_2,hfz21_3,hfz21_4,hfz21_5⟩:=fz6_ BK279.out)|((with_reducible refine gate_store (t:=38) (p:=2) rfl ?_);refine store_event (t:=38) (p:=2) (v:=?vo_w22) (w1:=((((((w19.setCell ⟨gb279,0,none⟩ (.slice Ao11 t281.length co11)).setCell ⟨gb279,1,none⟩ (.slice Ao16 t284.length co16)).setCell ⟨gb279,2,none⟩ (.bool a0_2)).setCell ⟨gb279,3,none⟩ (.int .i64 a0_3)).setCell ⟨gb279,4,none⟩ (.int .i64 a0_4)).setCell ⟨gb279,5,none⟩ (.int .i64 a0_5))) ?hg ?ho ?hn ?hr ?_;(case ho=>rfl);(case hg=>rfl);(case hn=>rfl);(case hr=>first|(go_simp;done)|(go_simp;rfl));intro w22 hw;replace HO283:Aside0 (Kd.S k88 88 w22 w.heap.size (fun _=>True) (.slice Ao11 t281.length co11) t281):=⟨(by rw[hw];exact(by(with_reducible repeat (first|apply Kd.S_alloc|apply Kd.S_drewN|apply Kd.S_drew));exact Kd.S_mono (Kd.S_far (p:=⟨gb279,5,none⟩) (Kd.S_far (p:=⟨gb279,4,none⟩) (Kd.S_far (p:=⟨gb279,3,none⟩) (Kd.S_far (p:=⟨gb279,2,none⟩) (Kd.S_far (p:=⟨gb279,1,none⟩) (Kd.S_far (p:=⟨gb279,0,none⟩) (Kd.S_types HO283.out BK279.out (by decide)) (fun _ hk=>hk.2) (.slice Ao11 t281.length co11)) (fun _ hk=>hk.2) (.slice Ao16 t284.length co16)) (fun _ hk=>hk.2) (.bool a0_2)) (fun _ hk=>hk.2) (.int .i64 a0_3)) (fun _ hk=>hk.2) (.int .i64 a0_4)) (fun _ hk=>hk.2) (.int .i64 a0_5)) (fun _ hk=>trivial)))⟩;replace HO286:Aside0 (Kd.R k75 75 w22 w.heap.size (fun _=>True) (.slice Ao16 t284.length co16) t284):=⟨(by rw[hw];exact(by(with_reducible repeat (first|apply Kd.R_alloc|apply Kd.R_drewN|apply Kd.R_drew));exact Kd.R_mono (Kd.R_far (p:=⟨gb279,5,none⟩) (Kd.R_far (p:=⟨gb279,4,none⟩) (Kd.R_far (p:=⟨gb279,3,none⟩) (Kd.R_far (p:=⟨gb279,2,none⟩) (Kd.R_far (p:=⟨gb279,1,none⟩) (Kd.R_far (p:=⟨gb279,0,none⟩) (Kd.R_types HO286.out BK279.out (by decide)) (fun _ hk=>hk.2) (.slice Ao11 t281.length co11)) (fun _ hk=>hk.2) (.slice Ao16 t284.length co16)) (fun _ hk=>hk.2) (.bool a0_2)) (fun _ hk=>hk.2) (.int .i64 a0_3)) (fun _ hk=>hk.2) (.int .i64 a0_4)) (fun _ hk=>hk.2) (.int .i64 a0_5)) (fun _ hk=>trivial)))⟩;replace BK278:Aside0 (w22.heap[gb278]? =some (.cells #[.slice A0_0 l0_0.length c0_0,.slice A0_1 l0_1.length c0_1,.bool a0_2,.int .i64 a0_3,.int .i64 a0_4,.int .i64 a0_5] 25 (0,0))):=⟨(by rw[hw];exact(by refine blk_far ?_ NB278_279.out _;refine blk_far ?_ NB278_279.out _;refine blk_far ?_ NB278_279.out _;refine blk_far ?_ NB278_279.out _;refine blk_far ?_ NB278_279.out _;refine blk_far ?_ NB278_279.out _;(with_reducible repeat (first|refine blk_drewN ?_ _|refine blk_drew ?_|refine blk_alloc ?_ _));exact BK278.out))⟩;replace BK279:Aside0 (w22.heap[gb279]? =some (.cells #[.slice Ao11 t281.length co11,.slice Ao16 t284.length co16,.bool a0_2,.int .i64 a0_3,.int .i64 a0_4,.int .i64 a0_5] 38 (0,0))):=⟨(by rw[hw];exact(by refine blk_put (cs:=#[.slice Ao11 t281.length co11,.slice Ao16 t284.length co16,.bool a0_2,.int .i64 a0_3,.int .i64 a0_4,.int .i64 0]) ?_ 5 _ rfl;refine blk_put (cs:=#[.slice Ao11 t281.length co11,.slice Ao16 t284.length co16,.bool a0_2,.int .i64 a0_3,.int .i64 0,.int .i64 0]) ?_ 4 _ rfl;refine blk_put (cs:=#[.slice Ao11 t281.length co11,.slice Ao16 t284.length co16,.bool a0_2,.int .i64 0,.int .i64 0,.int .i64 0]) ?_ 3 _ rfl;refine blk_put (cs:=#[.slice Ao11 t281.length co11,.slice Ao16 t284.length co16,.bool false,.int .i64 0,.int .i64 0,.int .i64 0]) ?_ 2 _ rfl;refine blk_put (cs:=#[.slice Ao11 t281.length co11,.slice none 0 0,.bool false,.int .i64 0,.int .i64 0,.int .i64 0]) ?_ 1 _ rfl;refine blk_put (cs:=#[.slice none 0 0,.slice none 0 0,.bool false,.int .i64 0,.int .i64 0,.int .i64 0]) ?_ 0 _ rfl;(with_reducible repeat (first|refine blk_drewN ?_ _|refine blk_drew ?_|refine blk_alloc ?_ _));exact BK279.out))⟩;replace BK280:Aside0 (w22.heap[gb280]? =some (.cells #[.slice Ao11 t281.length co11,.slice Ao16 t284.length co16,.bool a0_2,.int .i64 a0_3,.int .i64 a0_4,.int .i64 a0_5] 38 (0,0))):=⟨(by rw[hw];exact(by refine blk_far ?_ NB280_279.out _;refine blk_far ?_ NB280_279.out _;refine blk_far ?_ NB280_279.out _;refine blk_far ?_ NB280_279.out _;refine blk_far ?_ NB280_279.out _;refine blk_far ?_ NB280_279.out _;(with_reducible repeat (first|refine blk_drewN ?_ _|refine blk_drew ?_|refine blk_alloc ?_ _));exact BK280.out))⟩;replace HB:Aside0 (Below w.heap.size w w22):=⟨(by rw[hw];exact(bw HB.out))⟩;clear hw))
 refine bodyPost_ret (results_cell_row rfl _ _ gb279 38 #[.slice Ao11 t281.length co11,.slice Ao16 t284.length co16,.bool a0_2,.int .i64 a0_3,.int .i64 a0_4,.int .i64 a0_5] (0,0) _ rfl (bk BK279.out) Try.underlying38 rfl (by kernel_rfl)) rfl ?_
 exact⟨_,_,rr_,ks_ HO283.out,kr_ HO286.out,bw HB.out⟩

/-! ### laws_toMemory: function 27 -/
def laws_toMemory.f (a0_0:Int) (a0_1:ByteArray):Option (Int × ByteArray):=some (a0_0,a0_1)
theorem laws_toMemory.calls (a0_0:Int) (a0_1:ByteArray) (r1:Int) (r2:ByteArray) (w:World) (h:laws_toMemory.f a0_0 a0_1=some (r1,r2)):
  Calls Try.prog 27 #[.agg #[.int .i64 a0_0,.string a0_1]] w fun e w'=>e=.returned (.agg #[.int .i64 r1,.string r2])∧Below w.heap.size w w':=by
 have hu27:=Try.underlying27
 have hu39:=Try.underlying39
 have HB:=A_ (Below.refl w.heap.size w)
 have H:(some (a0_0,a0_1))=some (r1,r2):=h
 clear h
 simp only[Option.some.injEq,Prod.mk.injEq] at H
 obtain⟨rfl,rfl⟩:=H
 go_enter Try.func27,Try.ntmps27
 go_wp2_with (first|((with_reducible refine gd_ 1 rfl ?_);refine bx_ #[.int .i64 a0_0,.string a0_1] 27 ?_;intro gb287 hg w2 hbox hb;have BK287:=A_ hbox;have GW287:=gw_ hg HB;have GE287:=GW287;replace HB:=bs_ HB hb;clear hb hbox hg)|((with_reducible refine gd_ 2 rfl ?_);refine bx_ #[.int .i64 0,.string (⟨#[]⟩:ByteArray)] 39 ?_;intro gb288 hg w3 hbox hb;have BK288:=A_ hbox;have GW288:=gw_ hg HB;have GE288:=GW288;obtain⟨NB287_288,NB288_287⟩:=nb_ BK287 hg;replace BK287:=kb_ BK287 hb;replace HB:=bs_ HB hb;clear hb hbox hg)|((with_reducible refine gd_ 3 rfl ?_);refine bx_ #[.int .i64 0,.string (⟨#[]⟩:ByteArray)] 39 ?_;intro gb289 hg w4 hbox hb;have BK289:=A_ hbox;have GW289:=gw_ hg HB;have GE289:=GW289;obtain⟨NB287_289,NB289_287⟩:=nb_ BK287 hg;obtain⟨NB288_289,NB289_288⟩:=nb_ BK288 hg;replace BK287:=kb_ BK287 hb;replace BK288:=kb_ BK288 hb;replace HB:=bs_ HB hb;clear hb hbox hg;have hnb5:=NB287_288.out;have hnc5:=NB288_287.out;have hnb6:=NB287_289.out;have hnc6:=NB289_287.out;obtain⟨hcz7_0,hcz7_1⟩:=cs2_ BK287.out;obtain⟨hfz7_0,hfz7_1⟩:=fz2_ BK287.out;have hnb8:=NB289_288.out;have hnc8:=NB288_289.out;obtain⟨hcz9_0,hcz9_1⟩:=cs2_ BK289.out;obtain⟨hfz9_0,hfz9_1⟩:=fz2_ BK289.out;obtain⟨hcz10_0,hcz10_1⟩:=cs2_ BK288.out;obtain⟨hfz10_0,hfz10_1⟩:=fz2_ BK288.out))
 refine bodyPost_ret (results_cell_row rfl _ _ gb288 39 #[.int .i64 a0_0,.string a0_1] (0,0) _ rfl (by refine blk_put (cs:=#[.int .i64 a0_0,.string (⟨#[]⟩:ByteArray)]) ?_ 1 _ rfl;refine blk_put (cs:=#[.int .i64 0,.string (⟨#[]⟩:ByteArray)]) ?_ 0 _ rfl;refine blk_far ?_ NB288_289.out _;refine blk_far ?_ NB288_289.out _;(with_reducible repeat (first|refine blk_drewN ?_ _|refine blk_drew ?_|refine blk_alloc ?_ _));exact BK288.out) Try.underlying39 rfl (by kernel_rfl)) rfl ?_
 exact⟨rr_,bw HB.out⟩

/-! ### laws_toWord: function 44 -/
def laws_toWord.f (a0_0:Int) (a0_1:Int):Option (Int × Int):=some (a0_0,a0_1)
theorem laws_toWord.calls (a0_0:Int) (a0_1:Int) (r1:Int) (r2:Int) (w:World) (h:laws_toWord.f a0_0 a0_1=some (r1,r2)):
  Calls Try.prog 44 #[.agg #[.int .i64 a0_0,.int .u64 a0_1]] w fun e w'=>e=.returned (.agg #[.int .i64 r1,.int .u64 r2])∧Below w.heap.size w w':=by
 have hu93:=Try.underlying93
 have hu72:=Try.underlying72
 have HB:=A_ (Below.refl w.heap.size w)
 have H:(some (a0_0,a0_1))=some (r1,r2):=h
 clear h
 simp only[Option.some.injEq,Prod.mk.injEq] at H
 obtain⟨rfl,rfl⟩:=H
 go_enter Try.func44,Try.ntmps44
 go_wp2_with (first|((with_reducible refine gd_ 1 rfl ?_);refine bx_ #[.int .i64 a0_0,.int .u64 a0_1] 93 ?_;intro gb290 hg w2 hbox hb;have BK290:=A_ hbox;have GW290:=gw_ hg HB;have GE290:=GW290;replace HB:=bs_ HB hb;clear hb hbox hg)|((with_reducible refine gd_ 2 rfl ?_);refine bx_ #[.int .i64 0,.int .u64 0] 72 ?_;intro gb291 hg w3 hbox hb;have BK291:=A_ hbox;have GW291:=gw_ hg HB;have GE291:=GW291;obtain⟨NB290_291,NB291_290⟩:=nb_ BK290 hg;replace BK290:=kb_ BK290 hb;replace HB:=bs_ HB hb;clear hb hbox hg)|((with_reducible refine gd_ 3 rfl ?_);refine bx_ #[.int .i64 0,.int .u64 0] 72 ?_;intro gb292 hg w4 hbox hb;have BK292:=A_ hbox;have GW292:=gw_ hg HB;have GE292:=GW292;obtain⟨NB290_292,NB292_290⟩:=nb_ BK290 hg;obtain⟨NB291_292,NB292_291⟩:=nb_ BK291 hg;replace BK290:=kb_ BK290 hb;replace BK291:=kb_ BK291 hb;replace HB:=bs_ HB hb;clear hb hbox hg;have hnb5:=NB290_291.out;have hnc5:=NB291_290.out;have hnb6:=NB290_292.out;have hnc6:=NB292_290.out;obtain⟨hcz7_0,hcz7_1⟩:=cs2_ BK290.out;obtain⟨hfz7_0,hfz7_1⟩:=fz2_ BK290.out;have hnb8:=NB292_291.out;have hnc8:=NB291_292.out;obtain⟨hcz9_0,hcz9_1⟩:=cs2_ BK292.out;obtain⟨hfz9_0,hfz9_1⟩:=fz2_ BK292.out;obtain⟨hcz10_0,hcz10_1⟩:=cs2_ BK291.out;obtain⟨hfz10_0,hfz10_1⟩:=fz2_ BK291.out))
 refine bodyPost_ret (results_cell_row rfl _ _ gb291 72 #[.int .i64 a0_0,.int .u64 a0_1] (0,0) _ rfl (by refine blk_put (cs:=#[.int .i64 a0_0,.int .u64 0]) ?_ 1 _ rfl;refine blk_put (cs:=#[.int .i64 0,.int .u64 0]) ?_ 0 _ rfl;refine blk_far ?_ NB291_292.out _;refine blk_far ?_ NB291_292.out _;(with_reducible repeat (first|refine blk_drewN ?_ _|refine blk_drew ?_|refine blk_alloc ?_ _));exact BK291.out) Try.underlying72 rfl (by kernel_rfl)) rfl ?_
 exact⟨rr_,bw HB.out⟩

/-! ### laws_toWordS: function 28 -/
def laws_toWordS.l0:Nat→List (S93)→List (S72)→Int→Option ((List (S72)))
 |0,_,_,_=>none
 |k+1,x0,x3,x4=>if x4<(x0.length:Int) then (if 0≤x4 then ((laws_toWord.f ((rd_T93 x0 x4).f0) ((rd_T93 x0 x4).f1)).bind fun bt297=>(if x4<(x3.length:Int) then (laws_toWordS.l0 k x0 (x3.set (x4:Int).toNat (⟨bt297.1,bt297.2⟩:S72)) (wrap64 (x4+1))) else (none))) else (none)) else (some x3)
def laws_toWordS.f (k:Nat) (l0:List (S93)):Option ((List (S72))):=if 0≤(l0.length:Int) then (if ((l0.length:Int):Int).toNat≤17592186044416 then (laws_toWordS.l0 k l0 (List.replicate ((l0.length:Int):Int).toNat z72) 0) else (none)) else (none)
theorem laws_toWordS.calls (k:Nat) (A0:Option Addr) (c0:Nat) (l0:List (S93)) (r:List (S72)) (w:World) (hr0:Kd.C k93 w A0 l0.length l0) (hc0:l0.length≤c0) (h:laws_toWordS.f k l0=some r):
  Calls Try.prog 28 #[.slice A0 l0.length c0] w fun e w'=>∃ v0_:Value,e=.returned (v0_)∧Kd.R k72 72 w' w.heap.size (fun _=>True) v0_ r∧Below w.heap.size w w':=by
 have hu93:=Try.underlying93
 have hu72:=Try.underlying72
 have HR0:=A_ hr0
 have HC0:=A_ hc0
 clear hr0 hc0
 have HB:=A_ (Below.refl w.heap.size w)
 have H:(if 0≤(l0.length:Int) then (if ((l0.length:Int):Int).toNat≤17592186044416 then (laws_toWordS.l0 k l0 (List.replicate ((l0.length:Int):Int).toNat z72) 0) else (none)) else (none))=some r:=h
 clear h
 replace H:=iq_ H
 obtain⟨c2b0,c2b1,H⟩:=H
 replace H:=iq_ H
 obtain⟨c3b0,c3b1,H⟩:=H
 obtain⟨y293,hy293⟩:∃ y_:List (S72),y_=(List.replicate ((l0.length:Int):Int).toNat z72):=⟨_,rfl⟩
 rw[←hy293] at H
 have Ny293:=A_ hy293
 clear hy293
 have H':=A_ H
 clear H
 go_enter Try.func28,Try.ntmps28
 go_wp2_with (first|((with_reducible refine gd_ 7 rfl ?_);refine Kd.R_make k72 _ 72 rfl (N:=7) rfl 40 _ _ rfl (l0.length:Int) rfl rfl Try.underlying40 (.agg #[(.int .i64 0),(.int .u64 0)]) 16 info72 rfl (by decide) (by omega) z72 (ok:=fun _=>True) (okp:=fun _=>True) (k72_mkM _ _ _ z72) (fun _ hk=>hk) trivial (od_) (Nat.le_trans (Nat.mul_le_mul_right _ (od_:(l0.length:Int).toNat≤17592186044416)) (by omega)) (Below.refl _ _) (Nat.le_refl _) ?_;intro v294 w4 ho5 hb hg_ hnew_;clear hg_ hnew_;(first|rw[←Ny293.out] at ho5|(simp only[Int.reduceToNat] at ho5;rw[←Ny293.out] at ho5));have HO295:=A_ (Kd.R_lower ho5 (below_size (bw HB.out)));replace HB:=bs_ HB hb;clear hb ho5))
 (try simp only[Act.put,List.setIfInBounds_toArray,List.set_cons_zero,List.set_cons_succ])
 go_loopg [4] k (fun kq v4 w'=>∃ (x3_1:List (S72)) (x4_1:Int),v4=.int .i64 x4_1∧Aside0 (laws_toWordS.l0 kq l0 x3_1 x4_1=some r)∧Aside0 (kq≤k)∧Aside0 (Kd.R k72 72 w' w.heap.size (fun _=>True) v294 x3_1)∧Aside0 (Below w.heap.size w w'))
 case atStart=>exact⟨(y293),(0),rs_,H',⟨Nat.le_refl _⟩,⟨kr_ HO295.out⟩,⟨bw HB.out⟩⟩
 case round=>
  clear H'
  try clear c2 c2b0 c2b1 c3 c3b0 c3b1
  obtain⟨x3_1,x4_1,rfl,HA,HK1,HO_3,HB⟩:=hrel
  cases gk with
  |zero=>exact absurd HA.out (by simp[laws_toWordS.l0])
  |succ k1=>
   have H:=HA.out
   clear HA
   simp only[laws_toWordS.l0] at H
   revert H
   refine iL_ (fun c6b0 H=>?_) (fun c6b0 H=>?_)
   ·
    replace H:=id_ H
    obtain⟨c7b0,H⟩:=H
    replace H:=Option.bind_eq_some_iff.mp H
    obtain⟨⟨t297,t298⟩,A80,H⟩:=H
    try dsimp only at H
    have A8:=A_ A80
    clear A80
    replace H:=id_ H
    obtain⟨c9b0,H⟩:=H
    obtain⟨y299,hy299⟩:∃ y_:List (S72),y_=(x3_1.set (x4_1:Int).toNat (⟨t297,t298⟩:S72)):=⟨_,rfl⟩
    rw[←hy299] at H
    have Ny299:=A_ hy299
    clear hy299
    have H':=A_ H
    clear H
    have p296:0≤(x4_1:Int):=od_
    have q296:x4_1<(l0.length:Int):=od_
    obtain⟨ad296,e296,hx296_0,hx296_1⟩:=at_T93 HR0.out x4_1 p296 q296
    cases e296
    replace hx296_0:=cl_ HB.out hx296_0
    replace hx296_1:=cl_ HB.out hx296_1
    replace p296:=eq_true p296
    replace q296:=eq_true q296
    go_wp2_with (first|((with_reducible refine gc_ 44 rfl ?_);refine gm_ (some 20) Try.func44 (laws_toWord.calls ((rd_T93 l0 x4_1).f0) ((rd_T93 l0 x4_1).f1) t297 t298 _ A8.out) ?_;intro w11 hb;replace HO_3:=A_ (Kd.R_below (kr_ HO_3.out) hb);replace HB:=bs_ HB hb;(try clear hb);have p10:0≤(x4_1:Int):=od_;have q10:(x4_1:Int)<((x3_1.length:Int):Int):=od_;obtain⟨go10,co10,eo10,gb10,gl10,cl10,HG10⟩:=Kd.R_form HO_3.out (by omega);(first|cases eo10|(injection eo10 with ea_ en_ ec_;(first|subst ea_|(injection ea_ with ea_;subst ea_));subst ec_;clear en_));have GB10:=A_ gb10;have GG10:=A_ HG10;clear gb10 gl10 HG10;obtain⟨ce10,hcl10,hM10,hcc10,hfr10⟩:=Kd.R_elem HO_3.out z72 (x4_1:Int) p10 q10;obtain rfl:=k72_openM hM10;have hx10_0:w11.cell? ⟨go10,(x4_1:Int).toNat*2,none⟩=some (.int .i64 ((rd_T72 x3_1 x4_1).f0)):=hcc10 0 _ rfl;have hx10_1:w11.cell? ⟨go10,(x4_1:Int).toNat*2+1,none⟩=some (.int .u64 ((rd_T72 x3_1 x4_1).f1)):=hcc10 1 _ rfl;have hf10_0:w11.frozen? ⟨go10,(x4_1:Int).toNat*2,none⟩=false:=hfr10 0;have hf10_1:w11.frozen? ⟨go10,(x4_1:Int).toNat*2+1,none⟩=false:=hfr10 1;clear hcl10 hcc10 hfr10 hM10;replace p10:=eq_true p10;replace q10:=eq_true q10;have HX12:=A_ (show Kd.R k72 72 w11 w.heap.size (fun _=>True) (.slice (some ⟨go10,0,none⟩) x3_1.length co10) x3_1 from(kr_ HO_3.out));obtain⟨ce12,hcl12,hM12,hcc12,hfr12⟩:=Kd.R_elem HX12.out z72 (x4_1:Int) (od_) (by have h_:(x4_1:Int)<((x3_1.length:Int):Int):=od_;first|exact h_|(have e_:=(Kd.R_reads' HO_3.out).1;omega)|simpa using h_);obtain rfl:=k72_openM hM12;have HP12:=Kd.R_seg HX12.out (x4_1:Int) (od_) (by have h_:(x4_1:Int)<((x3_1.length:Int):Int):=od_;first|exact h_|(have e_:=(Kd.R_reads' HO_3.out).1;omega)|simpa using h_) (seg:=[.int .i64 t297,.int .u64 t298]) (j:=0) hcl12 hcc12 (show 2≤2 from by decide) (x':=(⟨t297,t298⟩:S72)) (k72_mkM _ _ _ (⟨t297,t298⟩:S72)) (fun _ hk=>hk);have hx12_0:=hcc12 0 _ rfl;(try simp only[show (k72).sz=2 from rfl,Nat.mul_one,Nat.add_zero] at hx12_0);have hf12_0:=hfr12 0;(try simp only[show (k72).sz=2 from rfl,Nat.mul_one,Nat.add_zero] at hf12_0);have hx12_1:=hcc12 1 _ rfl;(try simp only[show (k72).sz=2 from rfl,Nat.mul_one,Nat.add_zero] at hx12_1);have hf12_1:=hfr12 1;(try simp only[show (k72).sz=2 from rfl,Nat.mul_one,Nat.add_zero] at hf12_1);clear hcl12 hcc12 hfr12 hM12)|((with_reducible refine gate_store (t:=72) (p:=21) rfl ?_);refine store_event (t:=72) (p:=21) (v:=?vo_w13) (w1:=((w11.setCell ⟨go10,(x4_1:Int).toNat*2,none⟩ (.int .i64 t297)).setCell ⟨go10,(x4_1:Int).toNat*2+1,none⟩ (.int .u64 t298))) ?hg ?ho ?hn ?hr ?_;(case ho=>rfl);(case hg=>rfl);(case hn=>rfl);(case hr=>first|(go_simp;done)|(go_simp;rfl));intro w13 hw;have hg:w11.grownBy w13 (some go10):=(by rw[hw];exact HP12.2);have hp_:Kd.R k72 72 w13 w.heap.size (fun _=>True) (.slice (some ⟨go10,0,none⟩) x3_1.length co10) y299:=(by rw[hw,Ny299.out];exact HP12.1);clear HP12;replace HO_3:=A_ (hp_);replace HB:=A_ ((by rw[hw];exact below_set (below_set (HB.out) GB10.out) GB10.out:Below w.heap.size w w13));clear hg hw hp_))
    go_roundg k1
    case measure=>have:=HK1.out;omega
    case rel=>exact⟨(y299),(wrap64 (x4_1+1)),rs_,H',⟨by have:=HK1.out;omega⟩,⟨kr_ HO_3.out⟩,⟨bw HB.out⟩⟩
   obtain rfl:=Option.some.inj H
   clear H
   go_wp2
   go_ret
   exact⟨_,rr_,kr_ HO_3.out,bw HB.out⟩

/-! ### laws_toState: function 13 -/
def laws_toState.f (k:Nat) (a0_0:Int) (a0_1:ByteArray) (l0_2:List (S93)):Option (Int × ByteArray × (List (S72))):=(laws_toMemory.f a0_0 a0_1).bind fun bt303=>((laws_toWordS.f k l0_2).bind fun t305=>(some (bt303.1,bt303.2,t305)))
theorem laws_toState.calls (k:Nat) (a0_0:Int) (a0_1:ByteArray) (A0_2:Option Addr) (c0_2:Nat) (l0_2:List (S93)) (r1:Int) (r2:ByteArray) (r3:List (S72)) (w:World) (hr0_2:Kd.C k93 w A0_2 l0_2.length l0_2) (hc0_2:l0_2.length≤c0_2) (h:laws_toState.f k a0_0 a0_1 l0_2=some (r1,r2,r3)):
  Calls Try.prog 13 #[.agg #[.int .i64 a0_0,.string a0_1,.slice A0_2 l0_2.length c0_2]] w fun e w'=>∃ v2_:Value,e=.returned (.agg #[.int .i64 r1,.string r2,v2_])∧Kd.R k72 72 w' w.heap.size (fun _=>True) v2_ r3∧Below w.heap.size w w':=by
 have hu30:=Try.underlying30
 have hu42:=Try.underlying42
 have hu27:=Try.underlying27
 have hu39:=Try.underlying39
 have HR0_2:=A_ hr0_2
 have HC0_2:=A_ hc0_2
 clear hr0_2 hc0_2
 have HB:=A_ (Below.refl w.heap.size w)
 have H:((laws_toMemory.f a0_0 a0_1).bind fun bt303=>((laws_toWordS.f k l0_2).bind fun t305=>(some (bt303.1,bt303.2,t305))))=some (r1,r2,r3):=h
 clear h
 replace H:=Option.bind_eq_some_iff.mp H
 obtain⟨⟨t303,t304⟩,A20,H⟩:=H
 try dsimp only at H
 have A2:=A_ A20
 clear A20
 replace H:=bA_ H
 obtain⟨t305,A3,H⟩:=H
 simp only[Option.some.injEq,Prod.mk.injEq] at H
 obtain⟨rfl,rfl,rfl⟩:=H
 go_enter Try.func13,Try.ntmps13
 go_wp2_with (first|((with_reducible refine gd_ 1 rfl ?_);refine bx_ #[.int .i64 a0_0,.string a0_1,.slice A0_2 l0_2.length c0_2] 30 ?_;intro gb300 hg w4 hbox hb;have BK300:=A_ hbox;have GW300:=gw_ hg HB;have GE300:=GW300;replace HB:=bs_ HB hb;clear hb hbox hg)|((with_reducible refine gd_ 2 rfl ?_);refine bx_ #[.int .i64 0,.string (⟨#[]⟩:ByteArray),.slice none 0 0] 42 ?_;intro gb301 hg w5 hbox hb;have BK301:=A_ hbox;have GW301:=gw_ hg HB;have GE301:=GW301;obtain⟨NB300_301,NB301_300⟩:=nb_ BK300 hg;replace BK300:=kb_ BK300 hb;replace HB:=bs_ HB hb;clear hb hbox hg)|((with_reducible refine gd_ 3 rfl ?_);refine bx_ #[.int .i64 0,.string (⟨#[]⟩:ByteArray),.slice none 0 0] 42 ?_;intro gb302 hg w6 hbox hb;have BK302:=A_ hbox;have GW302:=gw_ hg HB;have GE302:=GW302;obtain⟨NB300_302,NB302_300⟩:=nb_ BK300 hg;obtain⟨NB301_302,NB302_301⟩:=nb_ BK301 hg;replace BK300:=kb_ BK300 hb;replace BK301:=kb_ BK301 hb;replace HB:=bs_ HB hb;clear hb hbox hg;have hnb7:=NB300_301.out;have hnc7:=NB301_300.out;have hnb8:=NB300_302.out;have hnc8:=NB302_300.out;obtain⟨hcz9_0,hcz9_1,hcz9_2⟩:=cs3_ BK300.out;obtain⟨hfz9_0,hfz9_1,hfz9_2⟩:=fz3_ BK300.out)|((with_reducible refine gc_ 27 rfl ?_);refine gm_ (some 6) Try.func27 (laws_toMemory.calls a0_0 a0_1 t303 t304 _ A2.out) ?_;intro w10 hb;replace BK300:=kb_ BK300 hb;replace BK301:=kb_ BK301 hb;replace BK302:=kb_ BK302 hb;replace HB:=bs_ HB hb;(try clear hb);have hnb11:=NB302_301.out;have hnc11:=NB301_302.out;obtain⟨hcz12_0,hcz12_1,hcz12_2⟩:=cs3_ BK302.out;obtain⟨hfz12_0,hfz12_1,hfz12_2⟩:=fz3_ BK302.out;obtain⟨hcz13_0,hcz13_1,hcz13_2⟩:=cs3_ BK300.out;obtain⟨hfz13_0,hfz13_1,hfz13_2⟩:=fz3_ BK300.out)|((with_reducible refine gc_ 28 rfl ?_);refine goesL_ (some 10) rfl rfl Try.func28 (by kernel_rfl) rfl #[.slice A0_2 l0_2.length c0_2] rfl ar ?_;(with_reducible refine(laws_toWordS.calls k _ _ l0_2 t305 _ ?side1 ?side2 A3.out).mono ?_);(case side1=>exact Kd.C_below HR0_2.out (bw HB.out));(case side2=>exact HC0_2.out);rintro e w14 ⟨v306,rfl,ho0,hb⟩;refine⟨_,rfl,?_⟩;have HO307:=A_ (Kd.R_lower ho0 (below_size (bw HB.out)));replace BK300:=A_ (blk_below (g:=gb300) (o:=.cells #[.int .i64 a0_0,.string a0_1,.slice A0_2 l0_2.length c0_2] 30 (0,0)) (by refine blk_far ?_ NB300_302.out _;refine blk_far ?_ NB300_302.out _;(with_reducible repeat (first|refine blk_drewN ?_ _|refine blk_drew ?_|refine blk_alloc ?_ _));exact BK300.out) hb);replace BK301:=A_ (blk_below (g:=gb301) (o:=.cells #[.int .i64 0,.string (⟨#[]⟩:ByteArray),.slice none 0 0] 42 (0,0)) (by refine blk_far ?_ NB301_302.out _;refine blk_far ?_ NB301_302.out _;(with_reducible repeat (first|refine blk_drewN ?_ _|refine blk_drew ?_|refine blk_alloc ?_ _));exact BK301.out) hb);replace BK302:=A_ (blk_below (g:=gb302) (o:=.cells #[.int .i64 t303,.string t304,.slice none 0 0] 42 (0,0)) (by refine blk_put (cs:=#[.int .i64 t303,.string (⟨#[]⟩:ByteArray),.slice none 0 0]) ?_ 1 _ rfl;refine blk_put (cs:=#[.int .i64 0,.string (⟨#[]⟩:ByteArray),.slice none 0 0]) ?_ 0 _ rfl;(with_reducible repeat (first|refine blk_drewN ?_ _|refine blk_drew ?_|refine blk_alloc ?_ _));exact BK302.out) hb);replace HB:=bs_ HB hb;(try clear hb);(try clear hb2);(try clear hk);(try clear hi);(try clear ho0);obtain⟨Ao15,co15,eo15⟩:=Kd.R_slice HO307.out;subst eo15;obtain⟨hcz16_0,hcz16_1,hcz16_2⟩:=cs3_ BK302.out;obtain⟨hfz16_0,hfz16_1,hfz16_2⟩:=fz3_ BK302.out;obtain⟨hcz17_0,hcz17_1,hcz17_2⟩:=cs3_ BK301.out;obtain⟨hfz17_0,hfz17_1,hfz17_2⟩:=fz3_ BK301.out))
 refine bodyPost_ret (results_cell_row rfl _ _ gb301 42 #[.int .i64 t303,.string t304,.slice Ao15 t305.length co15] (0,0) _ rfl (by refine blk_put (cs:=#[.int .i64 t303,.string t304,.slice none 0 0]) ?_ 2 _ rfl;refine blk_put (cs:=#[.int .i64 t303,.string (⟨#[]⟩:ByteArray),.slice none 0 0]) ?_ 1 _ rfl;refine blk_put (cs:=#[.int .i64 0,.string (⟨#[]⟩:ByteArray),.slice none 0 0]) ?_ 0 _ rfl;refine blk_far ?_ NB301_302.out _;(with_reducible repeat (first|refine blk_drewN ?_ _|refine blk_drew ?_|refine blk_alloc ?_ _));exact BK301.out) Try.underlying42 rfl (by kernel_rfl)) rfl ?_
 exact⟨_,rr_,by (with_reducible repeat (first|apply Kd.R_alloc|apply Kd.R_drewN|apply Kd.R_drew));exact Kd.R_mono (Kd.R_far (p:=⟨gb301,2,none⟩) (Kd.R_far (p:=⟨gb301,1,none⟩) (Kd.R_far (p:=⟨gb301,0,none⟩) (Kd.R_far (p:=⟨gb302,2,none⟩) (Kd.R_types (Kd.R_types HO307.out BK302.out (by decide)) BK301.out (by decide)) (fun _ hk=>hk.1.2) (.slice Ao15 t305.length co15)) (fun _ hk=>hk.2) (.int .i64 t303)) (fun _ hk=>hk.2) (.string t304)) (fun _ hk=>hk.2) (.slice Ao15 t305.length co15)) (fun _ hk=>trivial),bw HB.out⟩
end Go.Proofs.Ytanhbfhmgmjdgaa.Q

