-- Written by a program of this session; it walks the functions that the law reaches.
import Derived.Test.YtghogonibanieaaQx0
import Derived.Test.YtghogonibanieaaQx2
namespace Go.Proofs.Ytghogonibanieaa.Q
open Go.RowKit Go.Proofs.YtghogonibanieaaW.PrintWords Go.Proofs.YtghogonibanieaaW.PrintLast Go.Proofs.YtghogonibanieaaW.PrintMore
attribute [local go_sem] max2_int min2_int max_two min_two max_three min_three max_four min_four   -- for this text's walks alone
set_option linter.unusedVariables false
set_option linter.unusedSimpArgs false
set_option maxRecDepth 100000
set_option maxHeartbeats 8000000

/-! ### laws_toModule: function 8 -/
def laws_toModule.f (k:Nat) (l0_0:List (S56)) (l0_1:List (S75)) (a0_2:Bool) (a0_3:Int) (a0_4:Int) (a0_5:Int):Option ((List (S59)) × (List (S63)) × Bool × Int × Int × Int):=(laws_toFuncS.f k l0_0).bind fun t166=>((laws_toGlobalS.f k l0_1).bind fun t169=>(some (t166,t169,a0_2,a0_3,a0_4,a0_5)))
theorem laws_toModule.calls (k:Nat) (A0_0:Option Addr) (c0_0:Nat) (l0_0:List (S56)) (A0_1:Option Addr) (c0_1:Nat) (l0_1:List (S75)) (a0_2:Bool) (a0_3:Int) (a0_4:Int) (a0_5:Int) (r1:List (S59)) (r2:List (S63)) (r3:Bool) (r4:Int) (r5:Int) (r6:Int) (w:World) (hr0_0:Kd.C k56 w A0_0 l0_0.length l0_0) (hc0_0:l0_0.length≤c0_0) (hr0_1:Kd.C k75 w A0_1 l0_1.length l0_1) (hc0_1:l0_1.length≤c0_1) (h:laws_toModule.f k l0_0 l0_1 a0_2 a0_3 a0_4 a0_5=some (r1,r2,r3,r4,r5,r6)):
  Calls Try.prog 8 #[.agg #[.slice A0_0 l0_0.length c0_0,.slice A0_1 l0_1.length c0_1,.bool a0_2,.int .i64 a0_3,.int .i64 a0_4,.int .i64 a0_5]] w fun e w'=>∃ v0_ v1_:Value,e=.returned (.agg #[v0_,v1_,.bool r3,.int .i64 r4,.int .i64 r5,.int .i64 r6])∧Kd.S k59 59 w' w.heap.size (fun _=>True) v0_ r1∧Kd.R k63 63 w' w.heap.size (fun _=>True) v1_ r2∧Below w.heap.size w w':=by
 have hu25:=Try.underlying25
 have hu32:=Try.underlying32
 have HR0_0:=A_ hr0_0
 have HC0_0:=A_ hc0_0
 clear hr0_0 hc0_0
 have HR0_1:=A_ hr0_1
 have HC0_1:=A_ hc0_1
 clear hr0_1 hc0_1
 have HB:=A_ (Below.refl w.heap.size w)
 have H:((laws_toFuncS.f k l0_0).bind fun t166=>((laws_toGlobalS.f k l0_1).bind fun t169=>(some (t166,t169,a0_2,a0_3,a0_4,a0_5))))=some (r1,r2,r3,r4,r5,r6):=h
 clear h
 replace H:=bi_ H
 obtain⟨t166,A20,H⟩:=H
 have A2:=A_ A20
 clear A20
 replace H:=bi_ H
 obtain⟨t169,A30,H⟩:=H
 have A3:=A_ A30
 clear A30
 simp only[Option.some.injEq,Prod.mk.injEq] at H
 obtain⟨rfl,rfl,rfl,rfl,rfl,rfl⟩:=H
 go_enter Try.func8,Try.ntmps8
 go_wp2_with (first|((with_reducible refine gd_ 1 rfl ?_);refine bx_ #[.slice A0_0 l0_0.length c0_0,.slice A0_1 l0_1.length c0_1,.bool a0_2,.int .i64 a0_3,.int .i64 a0_4,.int .i64 a0_5] 25 ?_;intro gb163 hg w4 hbox hb;have BK163:=A_ hbox;have GW163:=gw_ hg HB;have GE163:=GW163;replace HB:=bs_ HB hb;clear hb hbox hg)|((with_reducible refine gd_ 2 rfl ?_);refine bx_ #[.slice none 0 0,.slice none 0 0,.bool false,.int .i64 0,.int .i64 0,.int .i64 0] 32 ?_;intro gb164 hg w5 hbox hb;have BK164:=A_ hbox;have GW164:=gw_ hg HB;have GE164:=GW164;obtain⟨NB163_164,NB164_163⟩:=nb_ BK163 hg;replace BK163:=kb_ BK163 hb;replace HB:=bs_ HB hb;clear hb hbox hg)|((with_reducible refine gd_ 3 rfl ?_);refine bx_ #[.slice none 0 0,.slice none 0 0,.bool false,.int .i64 0,.int .i64 0,.int .i64 0] 32 ?_;intro gb165 hg w6 hbox hb;have BK165:=A_ hbox;have GW165:=gw_ hg HB;have GE165:=GW165;obtain⟨NB163_165,NB165_163⟩:=nb_ BK163 hg;obtain⟨NB164_165,NB165_164⟩:=nb_ BK164 hg;replace BK163:=kb_ BK163 hb;replace BK164:=kb_ BK164 hb;replace HB:=bs_ HB hb;clear hb hbox hg;have hnb7:=NB163_164.out;have hnc7:=NB164_163.out;have hnb8:=NB163_165.out;have hnc8:=NB165_163.out;obtain⟨hcz9_0,hcz9_1,hcz9_2,hcz9_3,hcz9_4,hcz9_5⟩:=cs6_ BK163.out;obtain⟨hfz9_0,hfz9_1,hfz9_2,hfz9_3,hfz9_4,hfz9_5⟩:=fz6_ BK163.out)|((with_reducible refine gc_ 20 rfl ?_);refine goesL_ (some 6) rfl rfl Try.func20 (by kernel_rfl) rfl #[.slice A0_0 l0_0.length c0_0] rfl ar ?_;(with_reducible refine(laws_toFuncS.calls k _ _ l0_0 t166 _ ?side1 ?side2 A2.out).mono ?_);(case side1=>exact cb_ HR0_0 HB);(case side2=>exact HC0_0.out);rintro e w10 ⟨v167,rfl,ho0,hb⟩;refine⟨_,rfl,?_⟩;have HO168:=A_ (Kd.S_lower ho0 (below_size (bw HB.out)));replace BK163:=kb_ BK163 hb;replace BK164:=kb_ BK164 hb;replace BK165:=kb_ BK165 hb;replace HB:=bs_ HB hb;(try clear hb);(try clear hb2);(try clear hk);(try clear hi);(try clear ho0);obtain⟨Ao11,co11,eo11⟩:=Kd.S_slice HO168.out;subst eo11;have hnb12:=NB165_164.out;have hnc12:=NB164_165.out;obtain⟨hcz13_0,hcz13_1,hcz13_2,hcz13_3,hcz13_4,hcz13_5⟩:=cs6_ BK165.out;obtain⟨hfz13_0,hfz13_1,hfz13_2,hfz13_3,hfz13_4,hfz13_5⟩:=fz6_ BK165.out;obtain⟨hcz14_0,hcz14_1,hcz14_2,hcz14_3,hcz14_4,hcz14_5⟩:=cs6_ BK163.out;obtain⟨hfz14_0,hfz14_1,hfz14_2,hfz14_3,hfz14_4,hfz14_5⟩:=fz6_ BK163.out)|((with_reducible refine gc_ 21 rfl ?_);refine goesL_ (some 10) rfl rfl Try.func21 (by kernel_rfl) rfl #[.slice A0_1 l0_1.length c0_1] rfl ar ?_;(with_reducible refine(laws_toGlobalS.calls k _ _ l0_1 t169 _ ?side1 ?side2 A3.out).mono ?_);(case side1=>exact Kd.C_below HR0_1.out (bw HB.out));(case side2=>exact HC0_1.out);rintro e w15 ⟨v170,rfl,ho0,hb⟩;refine⟨_,rfl,?_⟩;have HO171:=A_ (Kd.R_lower ho0 (below_size (bw HB.out)));replace HO168:=A_ (Kd.S_below (by(with_reducible repeat (first|apply Kd.S_alloc|apply Kd.S_drewN|apply Kd.S_drew));exact(Kd.S_mono (Kd.S_far (p:=⟨gb165,0,none⟩) (Kd.S_types HO168.out BK165.out (by decide)) (fun _ hk=>hk.2) (.slice Ao11 t166.length co11)) (fun _ h_=>h_.1))) hb);replace BK163:=A_ (blk_below (g:=gb163) (o:=.cells #[.slice A0_0 l0_0.length c0_0,.slice A0_1 l0_1.length c0_1,.bool a0_2,.int .i64 a0_3,.int .i64 a0_4,.int .i64 a0_5] 25 (0,0)) (by refine blk_far ?_ NB163_165.out _;(with_reducible repeat (first|refine blk_drewN ?_ _|refine blk_drew ?_|refine blk_alloc ?_ _));exact BK163.out) hb);replace BK164:=A_ (blk_below (g:=gb164) (o:=.cells #[.slice none 0 0,.slice none 0 0,.bool false,.int .i64 0,.int .i64 0,.int .i64 0] 32 (0,0)) (by refine blk_far ?_ NB164_165.out _;(with_reducible repeat (first|refine blk_drewN ?_ _|refine blk_drew ?_|refine blk_alloc ?_ _));exact BK164.out) hb);replace BK165:=A_ (blk_below (g:=gb165) (o:=.cells #[.slice Ao11 t166.length co11,.slice none 0 0,.bool false,.int .i64 0,.int .i64 0,.int .i64 0] 32 (0,0)) (by refine blk_put (cs:=#[.slice none 0 0,.slice none 0 0,.bool false,.int .i64 0,.int .i64 0,.int .i64 0]) ?_ 0 _ rfl;(with_reducible repeat (first|refine blk_drewN ?_ _|refine blk_drew ?_|refine blk_alloc ?_ _));exact BK165.out) hb);replace HB:=bs_ HB hb;(try clear hb);(try clear hb2);(try clear hk);(try clear hi);(try clear ho0);obtain⟨Ao16,co16,eo16⟩:=Kd.R_slice HO171.out;subst eo16;obtain⟨hcz17_0,hcz17_1,hcz17_2,hcz17_3,hcz17_4,hcz17_5⟩:=cs6_ BK165.out;obtain⟨hfz17_0,hfz17_1,hfz17_2,hfz17_3,hfz17_4,hfz17_5⟩:=fz6_ BK165.out;obtain⟨hcz18_0,hcz18_1,hcz18_2,hcz18_3,hcz18_4,hcz18_5⟩:=cs6_ BK163.out;obtain⟨hfz18_0,hfz18_1,hfz18_2,hfz18_3,hfz18_4,hfz18_5⟩:=fz6_ BK163.out)|((with_reducible refine gate_store (t:=3) (p:=23) rfl ?_);refine store_event (t:=3) (p:=23) (v:=?vo_w19) (w1:=(((((w15.setCell ⟨gb165,1,none⟩ (.slice Ao16 t169.length co16)).setCell ⟨gb165,2,none⟩ (.bool a0_2)).setCell ⟨gb165,3,none⟩ (.int .i64 a0_3)).setCell ⟨gb165,4,none⟩ (.int .i64 a0_4)).setCell ⟨gb165,5,none⟩ (.int .i64 a0_5))) ?hg ?ho ?hn ?hr ?_;(case ho=>rfl);(case hg=>rfl);(case hn=>rfl);(case hr=>first|(go_simp;done)|(go_simp;rfl));intro w19 hw;replace HO168:Aside0 (Kd.S k59 59 w19 w.heap.size (fun _=>True) (.slice Ao11 t166.length co11) t166):=⟨(by rw[hw];exact(by(with_reducible repeat (first|apply Kd.S_alloc|apply Kd.S_drewN|apply Kd.S_drew));exact Kd.S_mono (Kd.S_far (p:=⟨gb165,5,none⟩) (Kd.S_far (p:=⟨gb165,4,none⟩) (Kd.S_far (p:=⟨gb165,3,none⟩) (Kd.S_far (p:=⟨gb165,2,none⟩) (Kd.S_far (p:=⟨gb165,1,none⟩) (Kd.S_types HO168.out BK165.out (by decide)) (fun _ hk=>hk.2) (.slice Ao16 t169.length co16)) (fun _ hk=>hk.2) (.bool a0_2)) (fun _ hk=>hk.2) (.int .i64 a0_3)) (fun _ hk=>hk.2) (.int .i64 a0_4)) (fun _ hk=>hk.2) (.int .i64 a0_5)) (fun _ hk=>trivial)))⟩;replace HO171:Aside0 (Kd.R k63 63 w19 w.heap.size (fun _=>True) (.slice Ao16 t169.length co16) t169):=⟨(by rw[hw];exact(by(with_reducible repeat (first|apply Kd.R_alloc|apply Kd.R_drewN|apply Kd.R_drew));exact Kd.R_mono (Kd.R_far (p:=⟨gb165,5,none⟩) (Kd.R_far (p:=⟨gb165,4,none⟩) (Kd.R_far (p:=⟨gb165,3,none⟩) (Kd.R_far (p:=⟨gb165,2,none⟩) (Kd.R_far (p:=⟨gb165,1,none⟩) (Kd.R_types HO171.out BK165.out (by decide)) (fun _ hk=>hk.2) (.slice Ao16 t169.length co16)) (fun _ hk=>hk.2) (.bool a0_2)) (fun _ hk=>hk.2) (.int .i64 a0_3)) (fun _ hk=>hk.2) (.int .i64 a0_4)) (fun _ hk=>hk.2) (.int .i64 a0_5)) (fun _ hk=>trivial)))⟩;replace BK163:Aside0 (w19.heap[gb163]? =some (.cells #[.slice A0_0 l0_0.length c0_0,.slice A0_1 l0_1.length c0_1,.bool a0_2,.int .i64 a0_3,.int .i64 a0_4,.int .i64 a0_5] 25 (0,0))):=⟨(by rw[hw];exact(by refine blk_far ?_ NB163_165.out _;refine blk_far ?_ NB163_165.out _;refine blk_far ?_ NB163_165.out _;refine blk_far ?_ NB163_165.out _;refine blk_far ?_ NB163_165.out _;(with_reducible repeat (first|refine blk_drewN ?_ _|refine blk_drew ?_|refine blk_alloc ?_ _));exact BK163.out))⟩;replace BK164:Aside0 (w19.heap[gb164]? =some (.cells #[.slice none 0 0,.slice none 0 0,.bool false,.int .i64 0,.int .i64 0,.int .i64 0] 32 (0,0))):=⟨(by rw[hw];exact(by refine blk_far ?_ NB164_165.out _;refine blk_far ?_ NB164_165.out _;refine blk_far ?_ NB164_165.out _;refine blk_far ?_ NB164_165.out _;refine blk_far ?_ NB164_165.out _;(with_reducible repeat (first|refine blk_drewN ?_ _|refine blk_drew ?_|refine blk_alloc ?_ _));exact BK164.out))⟩;replace BK165:Aside0 (w19.heap[gb165]? =some (.cells #[.slice Ao11 t166.length co11,.slice Ao16 t169.length co16,.bool a0_2,.int .i64 a0_3,.int .i64 a0_4,.int .i64 a0_5] 32 (0,0))):=⟨(by rw[hw];exact(by refine blk_put (cs:=#[.slice Ao11 t166.length co11,.slice Ao16 t169.length co16,.bool a0_2,.int .i64 a0_3,.int .i64 a0_4,.int .i64 0]) ?_ 5 _ rfl;refine blk_put (cs:=#[.slice Ao11 t166.length co11,.slice Ao16 t169.length co16,.bool a0_2,.int .i64 a0_3,.int .i64 0,.int .i64 0]) ?_ 4 _ rfl;refine blk_put (cs:=#[.slice Ao11 t166.length co11,.slice Ao16 t169.length co16,.bool a0_2,.int .i64 0,.int .i64 0,.int .i64 0]) ?_ 3 _ rfl;refine blk_put (cs:=#[.slice Ao11 t166.length co11,.slice Ao16 t169.length co16,.bool false,.int .i64 0,.int .i64 0,.int .i64 0]) ?_ 2 _ rfl;refine blk_put (cs:=#[.slice Ao11 t166.length co11,.slice none 0 0,.bool false,.int .i64 0,.int .i64 0,.int .i64 0]) ?_ 1 _ rfl;(with_reducible repeat (first|refine blk_drewN ?_ _|refine blk_drew ?_|refine blk_alloc ?_ _));exact BK165.out))⟩;replace HB:Aside0 (Below w.heap.size w w19):=⟨(by rw[hw];exact(bw HB.out))⟩;clear hw;obtain⟨hcz20_0,hcz20_1,hcz20_2,hcz20_3,hcz20_4,hcz20_5⟩:=cs6_ BK165.out;obtain⟨hfz20_0,hfz20_1,hfz20_2,hfz20_3,hfz20_4,hfz20_5⟩:=fz6_ BK165.out;obtain⟨hcz21_0,hcz21_1,hcz21_2,hcz21_3,hcz21_4,hcz21_5⟩:=cs6_ BK164.out;obtain⟨hfz21_0,hfz21_1,hfz21_2,hfz21_3,hfz21_4,hfz21_5⟩:=fz6_ BK164.out)|((with_reducible refine gate_store (t:=32) (p:=2) rfl ?_);refine store_event (t:=32) (p:=2) (v:=?vo_w22) (w1:=((((((w19.setCell ⟨gb164,0,none⟩ (.slice Ao11 t166.length co11)).setCell ⟨gb164,1,none⟩ (.slice Ao16 t169.length co16)).setCell ⟨gb164,2,none⟩ (.bool a0_2)).setCell ⟨gb164,3,none⟩ (.int .i64 a0_3)).setCell ⟨gb164,4,none⟩ (.int .i64 a0_4)).setCell ⟨gb164,5,none⟩ (.int .i64 a0_5))) ?hg ?ho ?hn ?hr ?_;(case ho=>rfl);(case hg=>rfl);(case hn=>rfl);(case hr=>first|(go_simp;done)|(go_simp;rfl));intro w22 hw;replace HO168:Aside0 (Kd.S k59 59 w22 w.heap.size (fun _=>True) (.slice Ao11 t166.length co11) t166):=⟨(by rw[hw];exact(by(with_reducible repeat (first|apply Kd.S_alloc|apply Kd.S_drewN|apply Kd.S_drew));exact Kd.S_mono (Kd.S_far (p:=⟨gb164,5,none⟩) (Kd.S_far (p:=⟨gb164,4,none⟩) (Kd.S_far (p:=⟨gb164,3,none⟩) (Kd.S_far (p:=⟨gb164,2,none⟩) (Kd.S_far (p:=⟨gb164,1,none⟩) (Kd.S_far (p:=⟨gb164,0,none⟩) (Kd.S_types HO168.out BK164.out (by decide)) (fun _ hk=>hk.2) (.slice Ao11 t166.length co11)) (fun _ hk=>hk.2) (.slice Ao16 t169.length co16)) (fun _ hk=>hk.2) (.bool a0_2)) (fun _ hk=>hk.2) (.int .i64 a0_3)) (fun _ hk=>hk.2) (.int .i64 a0_4)) (fun _ hk=>hk.2) (.int .i64 a0_5)) (fun _ hk=>trivial)))⟩;replace HO171:Aside0 (Kd.R k63 63 w22 w.heap.size (fun _=>True) (.slice Ao16 t169.length co16) t169):=⟨(by rw[hw];exact(by(with_reducible repeat (first|apply Kd.R_alloc|apply Kd.R_drewN|apply Kd.R_drew));exact Kd.R_mono (Kd.R_far (p:=⟨gb164,5,none⟩) (Kd.R_far (p:=⟨gb164,4,none⟩) (Kd.R_far (p:=⟨gb164,3,none⟩) (Kd.R_far (p:=⟨gb164,2,none⟩) (Kd.R_far (p:=⟨gb164,1,none⟩) (Kd.R_far (p:=⟨gb164,0,none⟩) (Kd.R_types HO171.out BK164.out (by decide)) (fun _ hk=>hk.2) (.slice Ao11 t166.length co11)) (fun _ hk=>hk.2) (.slice Ao16 t169.length co16)) (fun _ hk=>hk.2) (.bool a0_2)) (fun _ hk=>hk.2) (.int .i64 a0_3)) (fun _ hk=>hk.2) (.int .i64 a0_4)) (fun _ hk=>hk.2) (.int .i64 a0_5)) (fun _ hk=>trivial)))⟩;replace BK163:Aside0 (w22.heap[gb163]? =some (.cells #[.slice A0_0 l0_0.length c0_0,.slice A0_1 l0_1.length c0_1,.bool a0_2,.int .i64 a0_3,.int .i64 a0_4,.int .i64 a0_5] 25 (0,0))):=⟨(by rw[hw];exact(by refine blk_far ?_ NB163_164.out _;refine blk_far ?_ NB163_164.out _;refine blk_far ?_ NB163_164.out _;refine blk_far ?_ NB163_164.out _;refine blk_far ?_ NB163_164.out _;refine blk_far ?_ NB163_164.out _;(with_reducible repeat (first|refine blk_drewN ?_ _|refine blk_drew ?_|refine blk_alloc ?_ _));exact BK163.out))⟩;replace BK164:Aside0 (w22.heap[gb164]? =some (.cells #[.slice Ao11 t166.length co11,.slice Ao16 t169.length co16,.bool a0_2,.int .i64 a0_3,.int .i64 a0_4,.int .i64 a0_5] 32 (0,0))):=⟨(by rw[hw];exact(by refine blk_put (cs:=#[.slice Ao11 t166.length co11,.slice Ao16 t169.length co16,.bool a0_2,.int .i64 a0_3,.int .i64 a0_4,.int .i64 0]) ?_ 5 _ rfl;refine blk_put (cs:=#[.slice Ao11 t166.length co11,.slice Ao16 t169.length co16,.bool a0_2,.int .i64 a0_3,.int .i64 0,.int .i64 0]) ?_ 4 _ rfl;refine blk_put (cs:=#[.slice Ao11 t166.length co11,.slice Ao16 t169.length co16,.bool a0_2,.int .i64 0,.int .i64 0,.int .i64 0]) ?_ 3 _ rfl;refine blk_put (cs:=#[.slice Ao11 t166.length co11,.slice Ao16 t169.length co16,.bool false,.int .i64 0,.int .i64 0,.int .i64 0]) ?_ 2 _ rfl;refine blk_put (cs:=#[.slice Ao11 t166.length co11,.slice none 0 0,.bool false,.int .i64 0,.int .i64 0,.int .i64 0]) ?_ 1 _ rfl;refine blk_put (cs:=#[.slice none 0 0,.slice none 0 0,.bool false,.int .i64 0,.int .i64 0,.int .i64 0]) ?_ 0 _ rfl;(with_reducible repeat (first|refine blk_drewN ?_ _|refine blk_drew ?_|refine blk_alloc ?_ _));exact BK164.out))⟩;replace BK165:Aside0 (w22.heap[gb165]? =some (.cells #[.slice Ao11 t166.length co11,.slice Ao16 t169.length co16,.bool a0_2,.int .i64 a0_3,.int .i64 a0_4,.int .i64 a0_5] 32 (0,0))):=⟨(by rw[hw];exact(by refine blk_far ?_ NB165_164.out _;refine blk_far ?_ NB165_164.out _;refine blk_far ?_ NB165_164.out _;refine blk_far ?_ NB165_164.out _;refine blk_far ?_ NB165_164.out _;refine blk_far ?_ NB165_164.out _;(with_reducible repeat (first|refine blk_drewN ?_ _|refine blk_drew ?_|refine blk_alloc ?_ _));exact BK165.out))⟩;replace HB:Aside0 (Below w.heap.size w w22):=⟨(by rw[hw];exact(bw HB.out))⟩;clear hw))
 refine bodyPost_ret (results_cell_row rfl _ _ gb164 32 #[.slice Ao11 t166.length co11,.slice Ao16 t169.length co16,.bool a0_2,.int .i64 a0_3,.int .i64 a0_4,.int .i64 a0_5] (0,0) _ rfl (bk BK164.out) Try.underlying32 rfl (by kernel_rfl)) rfl ?_
 exact⟨_,_,rr_,ks_ HO168.out,kr_ HO171.out,bw HB.out⟩

/-! ### laws_eqIntS: function 61 -/
def laws_eqIntS.l0:Nat→List Int→List Int→Int→Option (Bool)
 |0,_,_,_=>none
 |k+1,x0,x1,x5=>if x5<(x0.length:Int) then (if 0≤x5 then (if x5<(x1.length:Int) then (if (rd x0 x5)=(rd x1 x5) then (laws_eqIntS.l0 k x0 x1 (wrap64 (x5+1))) else (some false)) else (none)) else (none)) else (some true)
def laws_eqIntS.f (k:Nat) (l0:List Int) (l1:List Int):Option (Bool):=if (l0.length:Int)=(l1.length:Int) then (laws_eqIntS.l0 k l0 l1 0) else (some false)
theorem laws_eqIntS.calls (k:Nat) (A0:Option Addr) (c0:Nat) (l0:List Int) (A1:Option Addr) (c1:Nat) (l1:List Int) (r:Bool) (w:World) (hr0:Kd.C (Kd.int .i64) w A0 l0.length l0) (hc0:l0.length≤c0) (hr1:Kd.C (Kd.int .i64) w A1 l1.length l1) (hc1:l1.length≤c1) (h:laws_eqIntS.f k l0 l1=some r):
  Calls Try.prog 61 #[.slice A0 l0.length c0,.slice A1 l1.length c1] w fun e w'=>e=.returned (.bool r)∧Drawn0 w w':=by
 have HR0:=A_ hr0
 have HC0:=A_ hc0
 clear hr0 hc0
 have HR1:=A_ hr1
 have HC1:=A_ hc1
 clear hr1 hc1
 have H:(if (l0.length:Int)=(l1.length:Int) then (laws_eqIntS.l0 k l0 l1 0) else (some false))=some r:=h
 clear h
 by_cases c3:(l0.length:Int)=(l1.length:Int)
 ·
  rw[if_pos c3] at H
  obtain⟨c3b0,c3b1⟩:=eT_ c3
  have c3b2:(l0.length==l1.length)=true:=by first|simpa using c3|(simp at c3 ⊢;omega)
  clear c3
  have H':=A_ H
  clear H
  go_enter Try.func61,Try.ntmps61
  go_wp2
  repeat (go_quiet (fail);try go_wp2)
  (try simp only[Act.put,List.setIfInBounds_toArray,List.set_cons_zero,List.set_cons_succ])
  go_loopg [5] k (fun kq v5 w'=>∃ (x5_1:Int),v5=.int .i64 x5_1∧Aside0 (laws_eqIntS.l0 kq l0 l1 x5_1=some r)∧Aside0 (kq≤k)∧Drawn0 w w')
  case atStart=>exact⟨(0),rs_,H',⟨Nat.le_refl _⟩,dr_⟩
  case round=>
   clear H'
   try clear c1 c3 c3b0 c3b1 c3b2
   obtain⟨x5_1,rfl,HA,HK1,⟨m1,rfl⟩⟩:=hrel
   cases gk with
   |zero=>exact absurd HA.out (by simp[laws_eqIntS.l0])
   |succ k1=>
    have H:=HA.out
    clear HA
    simp only[laws_eqIntS.l0] at H
    by_cases c4:x5_1<(l0.length:Int)
    ·
     rw[if_pos c4] at H
     have c4b0:=decide_eq_true c4
     clear c4
     by_cases c5:0≤x5_1
     ·
      rw[if_pos c5] at H
      have c5b0:=decide_eq_true c5
      clear c5
      by_cases c6:x5_1<(l1.length:Int)
      ·
       rw[if_pos c6] at H
       have c6b0:=decide_eq_true c6
       clear c6
       by_cases c7:(rd l0 x5_1)=(rd l1 x5_1)
       ·
        rw[if_pos c7] at H
        obtain⟨c7b0,c7b1⟩:=eT_ c7
        clear c7
        have H':=A_ H
        clear H
        have p172:0≤(x5_1:Int):=od_
        have q172:x5_1<(l0.length:Int):=od_
        obtain⟨ad172,e172,hx172_0⟩:=Kd.at_int HR0.out x5_1 p172 q172
        cases e172
        replace p172:=eq_true p172
        replace q172:=eq_true q172
        have p173:0≤(x5_1:Int):=od_
        have q173:x5_1<(l1.length:Int):=od_
        obtain⟨ad173,e173,hx173_0⟩:=Kd.at_int HR1.out x5_1 p173 q173
        cases e173
        replace p173:=eq_true p173
        replace q173:=eq_true q173
        go_wp2
        repeat (go_quiet (fail);try go_wp2)
        go_roundg k1
        case measure=>have:=HK1.out;omega
        case rel=>exact⟨(wrap64 (x5_1+1)),rs_,H',⟨by have:=HK1.out;omega⟩,dr_⟩
       rw[if_neg c7] at H
       obtain⟨c7b0,c7b1⟩:=eF_ c7
       obtain rfl:=Option.some.inj H
       clear H
       have p172:0≤(x5_1:Int):=od_
       have q172:x5_1<(l0.length:Int):=od_
       obtain⟨ad172,e172,hx172_0⟩:=Kd.at_int HR0.out x5_1 p172 q172
       cases e172
       replace p172:=eq_true p172
       replace q172:=eq_true q172
       have p173:0≤(x5_1:Int):=od_
       have q173:x5_1<(l1.length:Int):=od_
       obtain⟨ad173,e173,hx173_0⟩:=Kd.at_int HR1.out x5_1 p173 q173
       cases e173
       replace p173:=eq_true p173
       replace q173:=eq_true q173
       go_wp2
       repeat (go_quiet (fail);try go_wp2)
       go_ret
       exact⟨rs_,dr_⟩
      rw[if_neg c6] at H
      exact absurd H (by simp)
     rw[if_neg c5] at H
     exact absurd H (by simp)
    rw[if_neg c4] at H
    have c4b0:=decide_eq_false c4
    clear c4
    obtain rfl:=Option.some.inj H
    clear H
    go_wp2
    repeat (go_quiet (fail);try go_wp2)
    go_ret
    exact⟨rs_,dr_⟩
 rw[if_neg c3] at H
 obtain⟨c3b0,c3b1⟩:=eF_ c3
 have c3b2:(l0.length==l1.length)=false:=by first|simpa using c3|(simp at c3 ⊢;omega)
 obtain rfl:=Option.some.inj H
 clear H
 go_enter Try.func61,Try.ntmps61
 go_wp2
 repeat (go_quiet (fail);try go_wp2)
 go_ret
 exact⟨rs_,dr_⟩

/-! ### laws_eqIns: function 79 -/
def laws_eqIns.f (a0_0:Int) (a0_1:Int) (a1_0:Int) (a1_1:Int):Option (Bool):=if a0_0=a1_0 then (if a0_1=a1_1 then (some true) else (some false)) else (some false)
theorem laws_eqIns.calls (a0_0:Int) (a0_1:Int) (a1_0:Int) (a1_1:Int) (r:Bool) (w:World) (h:laws_eqIns.f a0_0 a0_1 a1_0 a1_1=some r):
  Calls Try.prog 79 #[.agg #[.int .i64 a0_0,.int .i64 a0_1],.agg #[.int .i64 a1_0,.int .i64 a1_1]] w fun e w'=>e=.returned (.bool r)∧Below w.heap.size w w':=by
 have hu71:=Try.underlying71
 have HB:=A_ (Below.refl w.heap.size w)
 have H:(if a0_0=a1_0 then (if a0_1=a1_1 then (some true) else (some false)) else (some false))=some r:=h
 clear h
 by_cases c3:a0_0=a1_0
 ·
  rw[if_pos c3] at H
  obtain⟨c3b0,c3b1⟩:=eT_ c3
  clear c3
  by_cases c4:a0_1=a1_1
  ·
   rw[if_pos c4] at H
   obtain⟨c4b0,c4b1⟩:=eT_ c4
   clear c4
   obtain rfl:=Option.some.inj H
   clear H
   go_enter Try.func79,Try.ntmps79
   go_wp2_with (first|((with_reducible refine gd_ 2 rfl ?_);refine bx_ #[.int .i64 a0_0,.int .i64 a0_1] 71 ?_;intro gb174 hg w5 hbox hb;have BK174:=A_ hbox;have GW174:=gw_ hg HB;have GE174:=GW174;replace HB:=bs_ HB hb;clear hb hbox hg)|((with_reducible refine gd_ 3 rfl ?_);refine bx_ #[.int .i64 a1_0,.int .i64 a1_1] 71 ?_;intro gb175 hg w6 hbox hb;have BK175:=A_ hbox;have GW175:=gw_ hg HB;have GE175:=GW175;obtain⟨NB174_175,NB175_174⟩:=nb_ BK174 hg;replace BK174:=kb_ BK174 hb;replace HB:=bs_ HB hb;clear hb hbox hg;have hnb7:=NB174_175.out;have hnc7:=NB175_174.out;obtain⟨hcz8_0,hcz8_1⟩:=cs2_ BK174.out;obtain⟨hfz8_0,hfz8_1⟩:=fz2_ BK174.out;obtain⟨hcz9_0,hcz9_1⟩:=cs2_ BK175.out;obtain⟨hfz9_0,hfz9_1⟩:=fz2_ BK175.out))
   go_ret
   exact⟨rr_,bw HB.out⟩
  rw[if_neg c4] at H
  obtain⟨c4b0,c4b1⟩:=eF_ c4
  obtain rfl:=Option.some.inj H
  clear H
  go_enter Try.func79,Try.ntmps79
  go_wp2_with (first|((with_reducible refine gd_ 2 rfl ?_);refine bx_ #[.int .i64 a0_0,.int .i64 a0_1] 71 ?_;intro gb174 hg w10 hbox hb;have BK174:=A_ hbox;have GW174:=gw_ hg HB;have GE174:=GW174;replace HB:=bs_ HB hb;clear hb hbox hg)|((with_reducible refine gd_ 3 rfl ?_);refine bx_ #[.int .i64 a1_0,.int .i64 a1_1] 71 ?_;intro gb175 hg w11 hbox hb;have BK175:=A_ hbox;have GW175:=gw_ hg HB;have GE175:=GW175;obtain⟨NB174_175,NB175_174⟩:=nb_ BK174 hg;replace BK174:=kb_ BK174 hb;replace HB:=bs_ HB hb;clear hb hbox hg;have hnb12:=NB174_175.out;have hnc12:=NB175_174.out;obtain⟨hcz13_0,hcz13_1⟩:=cs2_ BK174.out;obtain⟨hfz13_0,hfz13_1⟩:=fz2_ BK174.out;obtain⟨hcz14_0,hcz14_1⟩:=cs2_ BK175.out;obtain⟨hfz14_0,hfz14_1⟩:=fz2_ BK175.out))
  go_ret
  exact⟨rr_,bw HB.out⟩
 rw[if_neg c3] at H
 obtain⟨c3b0,c3b1⟩:=eF_ c3
 obtain rfl:=Option.some.inj H
 clear H
 go_enter Try.func79,Try.ntmps79
 go_wp2_with (first|((with_reducible refine gd_ 2 rfl ?_);refine bx_ #[.int .i64 a0_0,.int .i64 a0_1] 71 ?_;intro gb174 hg w15 hbox hb;have BK174:=A_ hbox;have GW174:=gw_ hg HB;have GE174:=GW174;replace HB:=bs_ HB hb;clear hb hbox hg)|((with_reducible refine gd_ 3 rfl ?_);refine bx_ #[.int .i64 a1_0,.int .i64 a1_1] 71 ?_;intro gb175 hg w16 hbox hb;have BK175:=A_ hbox;have GW175:=gw_ hg HB;have GE175:=GW175;obtain⟨NB174_175,NB175_174⟩:=nb_ BK174 hg;replace BK174:=kb_ BK174 hb;replace HB:=bs_ HB hb;clear hb hbox hg;have hnb17:=NB174_175.out;have hnc17:=NB175_174.out;obtain⟨hcz18_0,hcz18_1⟩:=cs2_ BK174.out;obtain⟨hfz18_0,hfz18_1⟩:=fz2_ BK174.out;obtain⟨hcz19_0,hcz19_1⟩:=cs2_ BK175.out;obtain⟨hfz19_0,hfz19_1⟩:=fz2_ BK175.out))
 go_ret
 exact⟨rr_,bw HB.out⟩

/-! ### laws_eqInsS: function 62 -/
def laws_eqInsS.l0:Nat→List (S71)→List (S71)→Int→Option (Bool)
 |0,_,_,_=>none
 |k+1,x0,x1,x5=>if x5<(x0.length:Int) then (if 0≤x5 then (if x5<(x1.length:Int) then ((laws_eqIns.f ((rd_T71 x0 x5).f0) ((rd_T71 x0 x5).f1) ((rd_T71 x1 x5).f0) ((rd_T71 x1 x5).f1)).bind fun t178=>(if t178=true then (laws_eqInsS.l0 k x0 x1 (wrap64 (x5+1))) else (some false))) else (none)) else (none)) else (some true)
def laws_eqInsS.f (k:Nat) (l0:List (S71)) (l1:List (S71)):Option (Bool):=if (l0.length:Int)=(l1.length:Int) then (laws_eqInsS.l0 k l0 l1 0) else (some false)
def laws_eqInsS.T6:Bool × List (List Nat × List Nat):=(true,[([],[]),([],[]),([0,1],[0,1]),([2],[2]),([],[]),([],[]),([4,5],[4,5]),([6],[6]),([3,7],[3,7]),([8],[8])])
def laws_eqInsS.B6:List Nat:=[0,0,3,7,0,0,48,112,255,511]
theorem laws_eqInsS.tab6:rtab .any (opsOf Try.f62 6)=laws_eqInsS.T6:=by kernel_rfl
theorem laws_eqInsS.bits6:waitsOk laws_eqInsS.T6.2 laws_eqInsS.B6=true:=by kernel_rfl
theorem laws_eqInsS.calls (k:Nat) (A0:Option Addr) (c0:Nat) (l0:List (S71)) (A1:Option Addr) (c1:Nat) (l1:List (S71)) (r:Bool) (w:World) (hr0:Kd.C k71 w A0 l0.length l0) (hc0:l0.length≤c0) (hr1:Kd.C k71 w A1 l1.length l1) (hc1:l1.length≤c1) (h:laws_eqInsS.f k l0 l1=some r):
  Calls Try.prog 62 #[.slice A0 l0.length c0,.slice A1 l1.length c1] w fun e w'=>e=.returned (.bool r)∧Below w.heap.size w w':=by
 have hu71:=Try.underlying71
 have HR0:=A_ hr0
 have HC0:=A_ hc0
 clear hr0 hc0
 have HR1:=A_ hr1
 have HC1:=A_ hc1
 clear hr1 hc1
 have HB:=A_ (Below.refl w.heap.size w)
 have H:(if (l0.length:Int)=(l1.length:Int) then (laws_eqInsS.l0 k l0 l1 0) else (some false))=some r:=h
 clear h
 by_cases c3:(l0.length:Int)=(l1.length:Int)
 ·
  rw[if_pos c3] at H
  obtain⟨c3b0,c3b1⟩:=eT_ c3
  have c3b2:(l0.length==l1.length)=true:=by first|simpa using c3|(simp at c3 ⊢;omega)
  clear c3
  have H':=A_ H
  clear H
  go_enter Try.func62,Try.ntmps62
  go_wp2
  (try simp only[Act.put,List.setIfInBounds_toArray,List.set_cons_zero,List.set_cons_succ])
  go_loopg [5] k (fun kq v5 w'=>∃ (x5_1:Int),v5=.int .i64 x5_1∧Aside0 (laws_eqInsS.l0 kq l0 l1 x5_1=some r)∧Aside0 (kq≤k)∧Aside0 (Below w.heap.size w w'))
  case atStart=>exact⟨(0),rs_,H',⟨Nat.le_refl _⟩,⟨bw HB.out⟩⟩
  case round=>
   clear H'
   try clear c1 c3 c3b0 c3b1 c3b2
   obtain⟨x5_1,rfl,HA,HK1,HB⟩:=hrel
   cases gk with
   |zero=>exact absurd HA.out (by simp[laws_eqInsS.l0])
   |succ k1=>
    have H:=HA.out
    clear HA
    simp only[laws_eqInsS.l0] at H
    by_cases c4:x5_1<(l0.length:Int)
    ·
     rw[if_pos c4] at H
     have c4b0:=decide_eq_true c4
     clear c4
     by_cases c5:0≤x5_1
     ·
      rw[if_pos c5] at H
      have c5b0:=decide_eq_true c5
      clear c5
      by_cases c6:x5_1<(l1.length:Int)
      ·
       rw[if_pos c6] at H
       have c6b0:=decide_eq_true c6
       clear c6
       replace H:=bi_ H
       obtain⟨t178,A70,H⟩:=H
       have A7:=A_ A70
       clear A70
       by_cases c8:t178=true
       ·
        subst c8
        replace H:=iT_ H
        have H':=A_ H
        clear H
        try go_wp2
        have n0_:=A_ (below_drew1 HB.out)
        clear HB
        have HB:=n0_
        clear n0_
        have p176:0≤(x5_1:Int):=od_
        have q176:x5_1<(l0.length:Int):=od_
        obtain⟨ad176,e176,hx176_0,hx176_1⟩:=at_T71 HR0.out x5_1 p176 q176
        have hw176_1:=hx176_1
        have hw176_0:=hx176_0
        cases e176
        replace hx176_0:=cl_ HB.out hx176_0
        replace hx176_1:=cl_ HB.out hx176_1
        replace p176:=eq_true p176
        replace q176:=eq_true q176
        have p177:0≤(x5_1:Int):=od_
        have q177:x5_1<(l1.length:Int):=od_
        obtain⟨ad177,e177,hx177_0,hx177_1⟩:=at_T71 HR1.out x5_1 p177 q177
        have hw177_1:=hx177_1
        have hw177_0:=hx177_0
        cases e177
        replace hx177_0:=cl_ HB.out hx177_0
        replace hx177_1:=cl_ HB.out hx177_1
        replace p177:=eq_true p177
        replace q177:=eq_true q177
        refine start_ (n:=10) (S:=fun w'=>w'.cell? (ad176.add ((x5_1).toNat*2))=some (.int .i64 ((rd_T71 l0 x5_1).f0))∧w'.cell? ⟨(ad176.add ((x5_1).toNat*2)).block,(ad176.add ((x5_1).toNat*2)).off+1,none⟩=some (.int .i64 ((rd_T71 l0 x5_1).f1))∧w'.cell? (ad177.add ((x5_1).toNat*2))=some (.int .i64 ((rd_T71 l1 x5_1).f0))∧w'.cell? ⟨(ad177.add ((x5_1).toNat*2)).block,(ad177.add ((x5_1).toNat*2)).off+1,none⟩=some (.int .i64 ((rd_T71 l1 x5_1).f1))) (ds:=[]) #[false,false,false,false,false,false,false,false,false,false] (by kernel_rfl) rfl rfl ⟨(ce_ HB hw176_0),(ce_ HB hw176_1),(ce_ HB hw177_0),(ce_ HB hw177_1)⟩ (fun hHeld=>?_);refine with_tabW laws_eqInsS.tab6 laws_eqInsS.bits6 (fun HT_ HW_=>?_)
        generalize wr.drew=w9 at HB hx176_0 hx176_1 hx177_0 hx177_1 hHeld ⊢
        refine pure_ (i:=0) (N:=some 17) (v:=?_) (a':=?_) #[true,false,false,false,false,false,false,false,false,false] rfl rfl (any_of HT_.out (by kernel_rfl)) (fun _ _ _ h=>h) (Or.inl ⟨by rfl,?_⟩) ?_ ?_
        rotate_left
        ·
         intro w'
         go_simp
         with_reducible rfl
        rotate_left
        ·
         simp only[Act.put,List.setIfInBounds_toArray,List.set_cons_zero,List.set_cons_succ,i64_w,i32_w]
         rfl
        refine pure_ (i:=1) (N:=some 18) (v:=?_) (a':=?_) #[true,true,false,false,false,false,false,false,false,false] rfl rfl (any_of HT_.out (by kernel_rfl)) (fun _ _ _ h=>h) (Or.inl ⟨by rfl,?_⟩) ?_ ?_
        rotate_left
        ·
         intro w'
         go_simp
         with_reducible rfl
        rotate_left
        ·
         simp only[Act.put,List.setIfInBounds_toArray,List.set_cons_zero,List.set_cons_succ,i64_w,i32_w]
         rfl
        refine pure_ (i:=2) (N:=some 19) (v:=?_) (a':=?_) #[true,true,true,false,false,false,false,false,false,false] rfl rfl (any_of HT_.out (by kernel_rfl)) (fun _ _ _ h=>h) (Or.inl ⟨by rfl,?_⟩) ?_ ?_
        rotate_left
        ·
         intro w'
         go_simp
         with_reducible rfl
        rotate_left
        ·
         simp only[Act.put,List.setIfInBounds_toArray,List.set_cons_zero,List.set_cons_succ,i64_w,i32_w]
         rfl
        refine pure_ (i:=4) (N:=some 21) (v:=?_) (a':=?_) #[true,true,true,false,true,false,false,false,false,false] rfl rfl (any_of HT_.out (by kernel_rfl)) (fun _ _ _ h=>h) (Or.inl ⟨by rfl,?_⟩) ?_ ?_
        rotate_left
        ·
         intro w'
         go_simp
         with_reducible rfl
        rotate_left
        ·
         simp only[Act.put,List.setIfInBounds_toArray,List.set_cons_zero,List.set_cons_succ,i64_w,i32_w]
         rfl
        refine pure_ (i:=5) (N:=some 22) (v:=?_) (a':=?_) #[true,true,true,false,true,true,false,false,false,false] rfl rfl (any_of HT_.out (by kernel_rfl)) (fun _ _ _ h=>h) (Or.inl ⟨by rfl,?_⟩) ?_ ?_
        rotate_left
        ·
         intro w'
         go_simp
         with_reducible rfl
        rotate_left
        ·
         simp only[Act.put,List.setIfInBounds_toArray,List.set_cons_zero,List.set_cons_succ,i64_w,i32_w]
         rfl
        refine pure_ (i:=6) (N:=some 23) (v:=?_) (a':=?_) #[true,true,true,false,true,true,true,false,false,false] rfl rfl (any_of HT_.out (by kernel_rfl)) (fun _ _ _ h=>h) (Or.inl ⟨by rfl,?_⟩) ?_ ?_
        rotate_left
        ·
         intro w'
         go_simp
         with_reducible rfl
        rotate_left
        ·
         simp only[Act.put,List.setIfInBounds_toArray,List.set_cons_zero,List.set_cons_succ,i64_w,i32_w]
         rfl
        refine take_ (i:=3) (N:=some 20) (v:=?_) (a':=?_) #[true,true,true,true,true,true,true,false,false,false] rfl rfl (take_ofW HT_.out HW_.out (by kernel_rfl)) (fun _ _ _ h=>h) (Or.inl ⟨by rfl,?_⟩) hHeld ?_ ?_
        rotate_left
        ·
         rintro w' ⟨s0,s1,s2,s3⟩
         go_simp
         with_reducible rfl
        rotate_left
        ·
         simp only[Act.put,List.setIfInBounds_toArray,List.set_cons_zero,List.set_cons_succ,i64_w,i32_w]
         rfl
        refine take_ (i:=7) (N:=some 24) (v:=?_) (a':=?_) #[true,true,true,true,true,true,true,true,false,false] rfl rfl (take_ofW HT_.out HW_.out (by kernel_rfl)) (fun _ _ _ h=>h) (Or.inl ⟨by rfl,?_⟩) hHeld ?_ ?_
        rotate_left
        ·
         rintro w' ⟨s0,s1,s2,s3⟩
         go_simp
         with_reducible rfl
        rotate_left
        ·
         simp only[Act.put,List.setIfInBounds_toArray,List.set_cons_zero,List.set_cons_succ,i64_w,i32_w]
         rfl
        refine one_ (i:=8) (N:=some 25) #[true,true,true,true,true,true,true,true,true,false] rfl rfl (one_of HT_.out (by kernel_rfl)) (by decide) (fun K hK=>?_)
        refine goes_ Try.func79 (by kernel_rfl) rfl #[.agg #[.int .i64 ((rd_T71 l0 x5_1).f0),.int .i64 ((rd_T71 l0 x5_1).f1)],.agg #[.int .i64 ((rd_T71 l1 x5_1).f0),.int .i64 ((rd_T71 l1 x5_1).f1)]] (by rfl) rfl rfl ar ?_
        with_reducible refine(laws_eqIns.calls ((rd_T71 l0 x5_1).f0) ((rd_T71 l0 x5_1).f1) ((rd_T71 l1 x5_1).f0) ((rd_T71 l1 x5_1).f1) true _ A7.out).mono ?_
        rintro e w10 ⟨rfl,hb⟩
        refine⟨_,rfl,?_⟩
        have n0_:=A_ (below_step (bw HB.out) hb)
        clear HB
        have HB:=n0_
        clear n0_
        (try clear hb)
        (try clear hb2)
        (try clear hk)
        (try clear hi)
        refine hK.out _ _ ⟨(ce_ HB hw176_0),(ce_ HB hw176_1),(ce_ HB hw177_0),(ce_ HB hw177_1)⟩ (fun hHeld=>?_)
        clear hK K
        refine norm_ (a':=?_) ?_ ?_
        rotate_left
        ·
         show Act.put _ (some 25) _=_
         simp only[Act.put,List.setIfInBounds_toArray,List.set_cons_zero,List.set_cons_succ,i64_w,i32_w]
         rfl
        refine pure_ (i:=9) (N:=some 26) (v:=?_) (a':=?_) #[true,true,true,true,true,true,true,true,true,true] rfl rfl (any_of HT_.out (by kernel_rfl)) (fun _ _ _ h=>h) (Or.inl ⟨by rfl,?_⟩) ?_ ?_
        rotate_left
        ·
         intro w'
         go_simp
         with_reducible rfl
        rotate_left
        ·
         simp only[Act.put,List.setIfInBounds_toArray,List.set_cons_zero,List.set_cons_succ,i64_w,i32_w]
         rfl
        refine done_ (done_of HT_.out (by kernel_rfl)) ?_
        try go_wp2
        go_roundg k1
        case measure=>have:=HK1.out;omega
        case rel=>exact⟨(wrap64 (x5_1+1)),rs_,H',⟨by have:=HK1.out;omega⟩,⟨bw HB.out⟩⟩
       replace c8:=Bool.eq_false_iff.mpr c8
       subst c8
       replace H:=iF_ H
       obtain rfl:=Option.some.inj H
       clear H
       try go_wp2
       have n0_:=A_ (below_drew1 HB.out)
       clear HB
       have HB:=n0_
       clear n0_
       have p176:0≤(x5_1:Int):=od_
       have q176:x5_1<(l0.length:Int):=od_
       obtain⟨ad176,e176,hx176_0,hx176_1⟩:=at_T71 HR0.out x5_1 p176 q176
       have hw176_1:=hx176_1
       have hw176_0:=hx176_0
       cases e176
       replace hx176_0:=cl_ HB.out hx176_0
       replace hx176_1:=cl_ HB.out hx176_1
       replace p176:=eq_true p176
       replace q176:=eq_true q176
       have p177:0≤(x5_1:Int):=od_
       have q177:x5_1<(l1.length:Int):=od_
       obtain⟨ad177,e177,hx177_0,hx177_1⟩:=at_T71 HR1.out x5_1 p177 q177
       have hw177_1:=hx177_1
       have hw177_0:=hx177_0
       cases e177
       replace hx177_0:=cl_ HB.out hx177_0
       replace hx177_1:=cl_ HB.out hx177_1
       replace p177:=eq_true p177
       replace q177:=eq_true q177
       refine start_ (n:=10) (S:=fun w'=>w'.cell? (ad176.add ((x5_1).toNat*2))=some (.int .i64 ((rd_T71 l0 x5_1).f0))∧w'.cell? ⟨(ad176.add ((x5_1).toNat*2)).block,(ad176.add ((x5_1).toNat*2)).off+1,none⟩=some (.int .i64 ((rd_T71 l0 x5_1).f1))∧w'.cell? (ad177.add ((x5_1).toNat*2))=some (.int .i64 ((rd_T71 l1 x5_1).f0))∧w'.cell? ⟨(ad177.add ((x5_1).toNat*2)).block,(ad177.add ((x5_1).toNat*2)).off+1,none⟩=some (.int .i64 ((rd_T71 l1 x5_1).f1))) (ds:=[]) #[false,false,false,false,false,false,false,false,false,false] (by kernel_rfl) rfl rfl ⟨(ce_ HB hw176_0),(ce_ HB hw176_1),(ce_ HB hw177_0),(ce_ HB hw177_1)⟩ (fun hHeld=>?_);refine with_tabW laws_eqInsS.tab6 laws_eqInsS.bits6 (fun HT_ HW_=>?_)
       generalize wr.drew=w11 at HB hx176_0 hx176_1 hx177_0 hx177_1 hHeld ⊢
       refine pure_ (i:=0) (N:=some 17) (v:=?_) (a':=?_) #[true,false,false,false,false,false,false,false,false,false] rfl rfl (any_of HT_.out (by kernel_rfl)) (fun _ _ _ h=>h) (Or.inl ⟨by rfl,?_⟩) ?_ ?_
       rotate_left
       ·
        intro w'
        go_simp
        with_reducible rfl
       rotate_left
       ·
        simp only[Act.put,List.setIfInBounds_toArray,List.set_cons_zero,List.set_cons_succ,i64_w,i32_w]
        rfl
       refine pure_ (i:=1) (N:=some 18) (v:=?_) (a':=?_) #[true,true,false,false,false,false,false,false,false,false] rfl rfl (any_of HT_.out (by kernel_rfl)) (fun _ _ _ h=>h) (Or.inl ⟨by rfl,?_⟩) ?_ ?_
       rotate_left
       ·
        intro w'
        go_simp
        with_reducible rfl
       rotate_left
       ·
        simp only[Act.put,List.setIfInBounds_toArray,List.set_cons_zero,List.set_cons_succ,i64_w,i32_w]
        rfl
       refine pure_ (i:=2) (N:=some 19) (v:=?_) (a':=?_) #[true,true,true,false,false,false,false,false,false,false] rfl rfl (any_of HT_.out (by kernel_rfl)) (fun _ _ _ h=>h) (Or.inl ⟨by rfl,?_⟩) ?_ ?_
       rotate_left
       ·
        intro w'
        go_simp
        with_reducible rfl
       rotate_left
       ·
        simp only[Act.put,List.setIfInBounds_toArray,List.set_cons_zero,List.set_cons_succ,i64_w,i32_w]
        rfl
       refine pure_ (i:=4) (N:=some 21) (v:=?_) (a':=?_) #[true,true,true,false,true,false,false,false,false,false] rfl rfl (any_of HT_.out (by kernel_rfl)) (fun _ _ _ h=>h) (Or.inl ⟨by rfl,?_⟩) ?_ ?_
       rotate_left
       ·
        intro w'
        go_simp
        with_reducible rfl
       rotate_left
       ·
        simp only[Act.put,List.setIfInBounds_toArray,List.set_cons_zero,List.set_cons_succ,i64_w,i32_w]
        rfl
       refine pure_ (i:=5) (N:=some 22) (v:=?_) (a':=?_) #[true,true,true,false,true,true,false,false,false,false] rfl rfl (any_of HT_.out (by kernel_rfl)) (fun _ _ _ h=>h) (Or.inl ⟨by rfl,?_⟩) ?_ ?_
       rotate_left
       ·
        intro w'
        go_simp
        with_reducible rfl
       rotate_left
       ·
        simp only[Act.put,List.setIfInBounds_toArray,List.set_cons_zero,List.set_cons_succ,i64_w,i32_w]
        rfl
       refine pure_ (i:=6) (N:=some 23) (v:=?_) (a':=?_) #[true,true,true,false,true,true,true,false,false,false] rfl rfl (any_of HT_.out (by kernel_rfl)) (fun _ _ _ h=>h) (Or.inl ⟨by rfl,?_⟩) ?_ ?_
       rotate_left
       ·
        intro w'
        go_simp
        with_reducible rfl
       rotate_left
       ·
        simp only[Act.put,List.setIfInBounds_toArray,List.set_cons_zero,List.set_cons_succ,i64_w,i32_w]
        rfl
       refine take_ (i:=3) (N:=some 20) (v:=?_) (a':=?_) #[true,true,true,true,true,true,true,false,false,false] rfl rfl (take_ofW HT_.out HW_.out (by kernel_rfl)) (fun _ _ _ h=>h) (Or.inl ⟨by rfl,?_⟩) hHeld ?_ ?_
       rotate_left
       ·
        rintro w' ⟨s0,s1,s2,s3⟩
        go_simp
        with_reducible rfl
       rotate_left
       ·
        simp only[Act.put,List.setIfInBounds_toArray,List.set_cons_zero,List.set_cons_succ,i64_w,i32_w]
        rfl
       refine take_ (i:=7) (N:=some 24) (v:=?_) (a':=?_) #[true,true,true,true,true,true,true,true,false,false] rfl rfl (take_ofW HT_.out HW_.out (by kernel_rfl)) (fun _ _ _ h=>h) (Or.inl ⟨by rfl,?_⟩) hHeld ?_ ?_
       rotate_left
       ·
        rintro w' ⟨s0,s1,s2,s3⟩
        go_simp
        with_reducible rfl
       rotate_left
       ·
        simp only[Act.put,List.setIfInBounds_toArray,List.set_cons_zero,List.set_cons_succ,i64_w,i32_w]
        rfl
       refine one_ (i:=8) (N:=some 25) #[true,true,true,true,true,true,true,true,true,false] rfl rfl (one_of HT_.out (by kernel_rfl)) (by decide) (fun K hK=>?_)
       refine goes_ Try.func79 (by kernel_rfl) rfl #[.agg #[.int .i64 ((rd_T71 l0 x5_1).f0),.int .i64 ((rd_T71 l0 x5_1).f1)],.agg #[.int .i64 ((rd_T71 l1 x5_1).f0),.int .i64 ((rd_T71 l1 x5_1).f1)]] (by rfl) rfl rfl ar ?_
       with_reducible refine(laws_eqIns.calls ((rd_T71 l0 x5_1).f0) ((rd_T71 l0 x5_1).f1) ((rd_T71 l1 x5_1).f0) ((rd_T71 l1 x5_1).f1) false _ A7.out).mono ?_
       rintro e w12 ⟨rfl,hb⟩
       refine⟨_,rfl,?_⟩
       have n0_:=A_ (below_step (bw HB.out) hb)
       clear HB
       have HB:=n0_
       clear n0_
       (try clear hb)
       (try clear hb2)
       (try clear hk)
       (try clear hi)
       refine hK.out _ _ ⟨(ce_ HB hw176_0),(ce_ HB hw176_1),(ce_ HB hw177_0),(ce_ HB hw177_1)⟩ (fun hHeld=>?_)
       clear hK K
       refine norm_ (a':=?_) ?_ ?_
       rotate_left
       ·
        show Act.put _ (some 25) _=_
        simp only[Act.put,List.setIfInBounds_toArray,List.set_cons_zero,List.set_cons_succ,i64_w,i32_w]
        rfl
       refine pure_ (i:=9) (N:=some 26) (v:=?_) (a':=?_) #[true,true,true,true,true,true,true,true,true,true] rfl rfl (any_of HT_.out (by kernel_rfl)) (fun _ _ _ h=>h) (Or.inl ⟨by rfl,?_⟩) ?_ ?_
       rotate_left
       ·
        intro w'
        go_simp
        with_reducible rfl
       rotate_left
       ·
        simp only[Act.put,List.setIfInBounds_toArray,List.set_cons_zero,List.set_cons_succ,i64_w,i32_w]
        rfl
       refine done_ (done_of HT_.out (by kernel_rfl)) ?_
       try go_wp2
       go_ret
       exact⟨rr_,bw HB.out⟩
      rw[if_neg c6] at H
      exact absurd H (by simp)
     rw[if_neg c5] at H
     exact absurd H (by simp)
    rw[if_neg c4] at H
    have c4b0:=decide_eq_false c4
    clear c4
    obtain rfl:=Option.some.inj H
    clear H
    go_wp2
    go_ret
    exact⟨rr_,bw HB.out⟩
 rw[if_neg c3] at H
 obtain⟨c3b0,c3b1⟩:=eF_ c3
 have c3b2:(l0.length==l1.length)=false:=by first|simpa using c3|(simp at c3 ⊢;omega)
 obtain rfl:=Option.some.inj H
 clear H
 go_enter Try.func62,Try.ntmps62
 go_wp2
 go_ret
 exact⟨rr_,bw HB.out⟩

/-! ### laws_eqFunc: function 36 -/
def laws_eqFunc.f (k:Nat) (l0_0:List Int) (a0_1:Int) (l0_2:List Int) (l0_3:List (S71)) (l1_0:List Int) (a1_1:Int) (l1_2:List Int) (l1_3:List (S71)):Option (Bool):=(laws_eqIntS.f k l0_0 l1_0).bind fun t181=>(if t181=true then (if a0_1=a1_1 then ((laws_eqIntS.f k l0_2 l1_2).bind fun t182=>(if t182=true then ((laws_eqInsS.f k l0_3 l1_3).bind fun t183=>(if t183=true then (some true) else (some false))) else (some false))) else (some false)) else (some false))
theorem laws_eqFunc.calls (k:Nat) (A0_0:Option Addr) (c0_0:Nat) (l0_0:List Int) (a0_1:Int) (A0_2:Option Addr) (c0_2:Nat) (l0_2:List Int) (A0_3:Option Addr) (c0_3:Nat) (l0_3:List (S71)) (A1_0:Option Addr) (c1_0:Nat) (l1_0:List Int) (a1_1:Int) (A1_2:Option Addr) (c1_2:Nat) (l1_2:List Int) (A1_3:Option Addr) (c1_3:Nat) (l1_3:List (S71)) (r:Bool) (w:World) (hr0_0:Kd.C (Kd.int .i64) w A0_0 l0_0.length l0_0) (hc0_0:l0_0.length≤c0_0) (hr0_2:Kd.C (Kd.int .i64) w A0_2 l0_2.length l0_2) (hc0_2:l0_2.length≤c0_2) (hr0_3:Kd.C k71 w A0_3 l0_3.length l0_3) (hc0_3:l0_3.length≤c0_3) (hr1_0:Kd.C (Kd.int .i64) w A1_0 l1_0.length l1_0) (hc1_0:l1_0.length≤c1_0) (hr1_2:Kd.C (Kd.int .i64) w A1_2 l1_2.length l1_2) (hc1_2:l1_2.length≤c1_2) (hr1_3:Kd.C k71 w A1_3 l1_3.length l1_3) (hc1_3:l1_3.length≤c1_3) (h:laws_eqFunc.f k l0_0 a0_1 l0_2 l0_3 l1_0 a1_1 l1_2 l1_3=some r):
  Calls Try.prog 36 #[.agg #[.slice A0_0 l0_0.length c0_0,.int .i64 a0_1,.slice A0_2 l0_2.length c0_2,.slice A0_3 l0_3.length c0_3],.agg #[.slice A1_0 l1_0.length c1_0,.int .i64 a1_1,.slice A1_2 l1_2.length c1_2,.slice A1_3 l1_3.length c1_3]] w fun e w'=>e=.returned (.bool r)∧Below w.heap.size w w':=by
 have hu59:=Try.underlying59
 have HR0_0:=A_ hr0_0
 have HC0_0:=A_ hc0_0
 clear hr0_0 hc0_0
 have HR0_2:=A_ hr0_2
 have HC0_2:=A_ hc0_2
 clear hr0_2 hc0_2
 have HR0_3:=A_ hr0_3
 have HC0_3:=A_ hc0_3
 clear hr0_3 hc0_3
 have HR1_0:=A_ hr1_0
 have HC1_0:=A_ hc1_0
 clear hr1_0 hc1_0
 have HR1_2:=A_ hr1_2
 have HC1_2:=A_ hc1_2
 clear hr1_2 hc1_2
 have HR1_3:=A_ hr1_3
 have HC1_3:=A_ hc1_3
 clear hr1_3 hc1_3
 have HB:=A_ (Below.refl w.heap.size w)
 have H:((laws_eqIntS.f k l0_0 l1_0).bind fun t181=>(if t181=true then (if a0_1=a1_1 then ((laws_eqIntS.f k l0_2 l1_2).bind fun t182=>(if t182=true then ((laws_eqInsS.f k l0_3 l1_3).bind fun t183=>(if t183=true then (some true) else (some false))) else (some false))) else (some false)) else (some false)))=some r:=h
 clear h
 replace H:=bi_ H
 obtain⟨t181,A30,H⟩:=H
 have A3:=A_ A30
 clear A30
 by_cases c4:t181=true
 ·
  subst c4
  replace H:=iT_ H
  by_cases c5:a0_1=a1_1
  ·
   rw[if_pos c5] at H
   obtain⟨c5b0,c5b1⟩:=eT_ c5
   clear c5
   replace H:=bi_ H
   obtain⟨t182,A60,H⟩:=H
   have A6:=A_ A60
   clear A60
   by_cases c7:t182=true
   ·
    subst c7
    replace H:=iT_ H
    replace H:=bi_ H
    obtain⟨t183,A80,H⟩:=H
    have A8:=A_ A80
    clear A80
    by_cases c9:t183=true
    ·
     subst c9
     replace H:=iT_ H
     obtain rfl:=Option.some.inj H
     clear H
     go_enter Try.func36,Try.ntmps36
     go_wp2_with (first|((with_reducible refine gd_ 2 rfl ?_);refine bx_ #[.slice A0_0 l0_0.length c0_0,.int .i64 a0_1,.slice A0_2 l0_2.length c0_2,.slice A0_3 l0_3.length c0_3] 59 ?_;intro gb179 hg w10 hbox hb;have BK179:=A_ hbox;have GW179:=gw_ hg HB;have GE179:=GW179;replace HB:=bs_ HB hb;clear hb hbox hg)|((with_reducible refine gd_ 3 rfl ?_);refine bx_ #[.slice A1_0 l1_0.length c1_0,.int .i64 a1_1,.slice A1_2 l1_2.length c1_2,.slice A1_3 l1_3.length c1_3] 59 ?_;intro gb180 hg w11 hbox hb;have BK180:=A_ hbox;have GW180:=gw_ hg HB;have GE180:=GW180;obtain⟨NB179_180,NB180_179⟩:=nb_ BK179 hg;replace BK179:=kb_ BK179 hb;replace HB:=bs_ HB hb;clear hb hbox hg;have hnb12:=NB179_180.out;have hnc12:=NB180_179.out;obtain⟨hcz13_0,hcz13_1,hcz13_2,hcz13_3⟩:=cs4_ BK179.out;obtain⟨hfz13_0,hfz13_1,hfz13_2,hfz13_3⟩:=fz4_ BK179.out;obtain⟨hcz14_0,hcz14_1,hcz14_2,hcz14_3⟩:=cs4_ BK180.out;obtain⟨hfz14_0,hfz14_1,hfz14_2,hfz14_3⟩:=fz4_ BK180.out)|((with_reducible refine gc_ 61 rfl ?_);refine gn_ (some 9) Try.func61 (laws_eqIntS.calls k _ _ l0_0 _ _ l1_0 true _ (cb_ HR0_0 HB) HC0_0.out (cb_ HR1_0 HB) HC1_0.out A3.out) ?_;intro nd)|((with_reducible refine gc_ 61 rfl ?_);refine gn_ (some 20) Try.func61 (laws_eqIntS.calls k _ _ l0_2 _ _ l1_2 true _ (cb_ HR0_2 HB) HC0_2.out (cb_ HR1_2 HB) HC1_2.out A6.out) ?_;intro nd)|((with_reducible refine gc_ 62 rfl ?_);refine gm_ (some 26) Try.func62 (laws_eqInsS.calls k _ _ l0_3 _ _ l1_3 true _ (cb_ HR0_3 HB) HC0_3.out (cb_ HR1_3 HB) HC1_3.out A8.out) ?_;intro w15 hb;replace BK179:=kb_ BK179 hb;replace BK180:=kb_ BK180 hb;replace HB:=bs_ HB hb;(try clear hb)))
     go_ret
     exact⟨rr_,bw HB.out⟩
    replace c9:=Bool.eq_false_iff.mpr c9
    subst c9
    replace H:=iF_ H
    obtain rfl:=Option.some.inj H
    clear H
    go_enter Try.func36,Try.ntmps36
    go_wp2_with (first|((with_reducible refine gd_ 2 rfl ?_);refine bx_ #[.slice A0_0 l0_0.length c0_0,.int .i64 a0_1,.slice A0_2 l0_2.length c0_2,.slice A0_3 l0_3.length c0_3] 59 ?_;intro gb179 hg w16 hbox hb;have BK179:=A_ hbox;have GW179:=gw_ hg HB;have GE179:=GW179;replace HB:=bs_ HB hb;clear hb hbox hg)|((with_reducible refine gd_ 3 rfl ?_);refine bx_ #[.slice A1_0 l1_0.length c1_0,.int .i64 a1_1,.slice A1_2 l1_2.length c1_2,.slice A1_3 l1_3.length c1_3] 59 ?_;intro gb180 hg w17 hbox hb;have BK180:=A_ hbox;have GW180:=gw_ hg HB;have GE180:=GW180;obtain⟨NB179_180,NB180_179⟩:=nb_ BK179 hg;replace BK179:=kb_ BK179 hb;replace HB:=bs_ HB hb;clear hb hbox hg;have hnb18:=NB179_180.out;have hnc18:=NB180_179.out;obtain⟨hcz19_0,hcz19_1,hcz19_2,hcz19_3⟩:=cs4_ BK179.out;obtain⟨hfz19_0,hfz19_1,hfz19_2,hfz19_3⟩:=fz4_ BK179.out;obtain⟨hcz20_0,hcz20_1,hcz20_2,hcz20_3⟩:=cs4_ BK180.out;obtain⟨hfz20_0,hfz20_1,hfz20_2,hfz20_3⟩:=fz4_ BK180.out)|((with_reducible refine gc_ 61 rfl ?_);refine gn_ (some 9) Try.func61 (laws_eqIntS.calls k _ _ l0_0 _ _ l1_0 true _ (cb_ HR0_0 HB) HC0_0.out (cb_ HR1_0 HB) HC1_0.out A3.out) ?_;intro nd)|((with_reducible refine gc_ 61 rfl ?_);refine gn_ (some 20) Try.func61 (laws_eqIntS.calls k _ _ l0_2 _ _ l1_2 true _ (cb_ HR0_2 HB) HC0_2.out (cb_ HR1_2 HB) HC1_2.out A6.out) ?_;intro nd)|((with_reducible refine gc_ 62 rfl ?_);refine gm_ (some 26) Try.func62 (laws_eqInsS.calls k _ _ l0_3 _ _ l1_3 false _ (cb_ HR0_3 HB) HC0_3.out (cb_ HR1_3 HB) HC1_3.out A8.out) ?_;intro w21 hb;replace BK179:=kb_ BK179 hb;replace BK180:=kb_ BK180 hb;replace HB:=bs_ HB hb;(try clear hb)))
    go_ret
    exact⟨rr_,bw HB.out⟩
   replace c7:=Bool.eq_false_iff.mpr c7
   subst c7
   replace H:=iF_ H
   obtain rfl:=Option.some.inj H
   clear H
   go_enter Try.func36,Try.ntmps36
   go_wp2_with (first|((with_reducible refine gd_ 2 rfl ?_);refine bx_ #[.slice A0_0 l0_0.length c0_0,.int .i64 a0_1,.slice A0_2 l0_2.length c0_2,.slice A0_3 l0_3.length c0_3] 59 ?_;intro gb179 hg w22 hbox hb;have BK179:=A_ hbox;have GW179:=gw_ hg HB;have GE179:=GW179;replace HB:=bs_ HB hb;clear hb hbox hg)|((with_reducible refine gd_ 3 rfl ?_);refine bx_ #[.slice A1_0 l1_0.length c1_0,.int .i64 a1_1,.slice A1_2 l1_2.length c1_2,.slice A1_3 l1_3.length c1_3] 59 ?_;intro gb180 hg w23 hbox hb;have BK180:=A_ hbox;have GW180:=gw_ hg HB;have GE180:=GW180;obtain⟨NB179_180,NB180_179⟩:=nb_ BK179 hg;replace BK179:=kb_ BK179 hb;replace HB:=bs_ HB hb;clear hb hbox hg;have hnb24:=NB179_180.out;have hnc24:=NB180_179.out;obtain⟨hcz25_0,hcz25_1,hcz25_2,hcz25_3⟩:=cs4_ BK179.out;obtain⟨hfz25_0,hfz25_1,hfz25_2,hfz25_3⟩:=fz4_ BK179.out;obtain⟨hcz26_0,hcz26_1,hcz26_2,hcz26_3⟩:=cs4_ BK180.out;obtain⟨hfz26_0,hfz26_1,hfz26_2,hfz26_3⟩:=fz4_ BK180.out)|((with_reducible refine gc_ 61 rfl ?_);refine gn_ (some 9) Try.func61 (laws_eqIntS.calls k _ _ l0_0 _ _ l1_0 true _ (cb_ HR0_0 HB) HC0_0.out (cb_ HR1_0 HB) HC1_0.out A3.out) ?_;intro nd)|((with_reducible refine gc_ 61 rfl ?_);refine gn_ (some 20) Try.func61 (laws_eqIntS.calls k _ _ l0_2 _ _ l1_2 false _ (cb_ HR0_2 HB) HC0_2.out (cb_ HR1_2 HB) HC1_2.out A6.out) ?_;intro nd))
   go_ret
   exact⟨rr_,bw HB.out⟩
  rw[if_neg c5] at H
  obtain⟨c5b0,c5b1⟩:=eF_ c5
  obtain rfl:=Option.some.inj H
  clear H
  go_enter Try.func36,Try.ntmps36
  go_wp2_with (first|((with_reducible refine gd_ 2 rfl ?_);refine bx_ #[.slice A0_0 l0_0.length c0_0,.int .i64 a0_1,.slice A0_2 l0_2.length c0_2,.slice A0_3 l0_3.length c0_3] 59 ?_;intro gb179 hg w27 hbox hb;have BK179:=A_ hbox;have GW179:=gw_ hg HB;have GE179:=GW179;replace HB:=bs_ HB hb;clear hb hbox hg)|((with_reducible refine gd_ 3 rfl ?_);refine bx_ #[.slice A1_0 l1_0.length c1_0,.int .i64 a1_1,.slice A1_2 l1_2.length c1_2,.slice A1_3 l1_3.length c1_3] 59 ?_;intro gb180 hg w28 hbox hb;have BK180:=A_ hbox;have GW180:=gw_ hg HB;have GE180:=GW180;obtain⟨NB179_180,NB180_179⟩:=nb_ BK179 hg;replace BK179:=kb_ BK179 hb;replace HB:=bs_ HB hb;clear hb hbox hg;have hnb29:=NB179_180.out;have hnc29:=NB180_179.out;obtain⟨hcz30_0,hcz30_1,hcz30_2,hcz30_3⟩:=cs4_ BK179.out;obtain⟨hfz30_0,hfz30_1,hfz30_2,hfz30_3⟩:=fz4_ BK179.out;obtain⟨hcz31_0,hcz31_1,hcz31_2,hcz31_3⟩:=cs4_ BK180.out;obtain⟨hfz31_0,hfz31_1,hfz31_2,hfz31_3⟩:=fz4_ BK180.out)|((with_reducible refine gc_ 61 rfl ?_);refine gn_ (some 9) Try.func61 (laws_eqIntS.calls k _ _ l0_0 _ _ l1_0 true _ (cb_ HR0_0 HB) HC0_0.out (cb_ HR1_0 HB) HC1_0.out A3.out) ?_;intro nd))
  go_ret
  exact⟨rr_,bw HB.out⟩
 replace c4:=Bool.eq_false_iff.mpr c4
 subst c4
 replace H:=iF_ H
 obtain rfl:=Option.some.inj H
 clear H
 go_enter Try.func36,Try.ntmps36
 go_wp2_with (first|((with_reducible refine gd_ 2 rfl ?_);refine bx_ #[.slice A0_0 l0_0.length c0_0,.int .i64 a0_1,.slice A0_2 l0_2.length c0_2,.slice A0_3 l0_3.length c0_3] 59 ?_;intro gb179 hg w32 hbox hb;have BK179:=A_ hbox;have GW179:=gw_ hg HB;have GE179:=GW179;replace HB:=bs_ HB hb;clear hb hbox hg)|((with_reducible refine gd_ 3 rfl ?_);refine bx_ #[.slice A1_0 l1_0.length c1_0,.int .i64 a1_1,.slice A1_2 l1_2.length c1_2,.slice A1_3 l1_3.length c1_3] 59 ?_;intro gb180 hg w33 hbox hb;have BK180:=A_ hbox;have GW180:=gw_ hg HB;have GE180:=GW180;obtain⟨NB179_180,NB180_179⟩:=nb_ BK179 hg;replace BK179:=kb_ BK179 hb;replace HB:=bs_ HB hb;clear hb hbox hg;have hnb34:=NB179_180.out;have hnc34:=NB180_179.out;obtain⟨hcz35_0,hcz35_1,hcz35_2,hcz35_3⟩:=cs4_ BK179.out;obtain⟨hfz35_0,hfz35_1,hfz35_2,hfz35_3⟩:=fz4_ BK179.out;obtain⟨hcz36_0,hcz36_1,hcz36_2,hcz36_3⟩:=cs4_ BK180.out;obtain⟨hfz36_0,hfz36_1,hfz36_2,hfz36_3⟩:=fz4_ BK180.out)|((with_reducible refine gc_ 61 rfl ?_);refine gn_ (some 9) Try.func61 (laws_eqIntS.calls k _ _ l0_0 _ _ l1_0 false _ (cb_ HR0_0 HB) HC0_0.out (cb_ HR1_0 HB) HC1_0.out A3.out) ?_;intro nd))
 go_ret
 exact⟨rr_,bw HB.out⟩

end Go.Proofs.Ytghogonibanieaa.Q

