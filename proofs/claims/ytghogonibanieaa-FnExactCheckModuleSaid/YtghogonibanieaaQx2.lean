-- Written by a program of this session; it walks the functions that the law reaches.
import Derived.Test.YtghogonibanieaaQx0
import Derived.Test.YtghogonibanieaaQx1
namespace Go.Proofs.Ytghogonibanieaa.Q
open Go.RowKit Go.Proofs.YtghogonibanieaaW.PrintWords Go.Proofs.YtghogonibanieaaW.PrintLast Go.Proofs.YtghogonibanieaaW.PrintMore
attribute [local go_sem] max2_int min2_int max_two min_two max_three min_three max_four min_four   -- for this text's walks alone
set_option linter.unusedVariables false
set_option linter.unusedSimpArgs false
set_option maxRecDepth 100000
set_option maxHeartbeats 8000000

/-! ### laws_toFunc: function 31 -/
def laws_toFunc.f (k:Nat) (l0_0:List Int) (a0_1:Int) (l0_2:List Int) (l0_3:List (S107)):Option (List Int × Int × List Int × (List (S71))):=(laws_toIntS.f k l0_0).bind fun t128=>((laws_toIntS.f k l0_2).bind fun t131=>((laws_toInsS.f k l0_3).bind fun t134=>(some (t128,a0_1,t131,t134))))
theorem laws_toFunc.calls (k:Nat) (A0_0:Option Addr) (c0_0:Nat) (l0_0:List Int) (a0_1:Int) (A0_2:Option Addr) (c0_2:Nat) (l0_2:List Int) (A0_3:Option Addr) (c0_3:Nat) (l0_3:List (S107)) (r1:List Int) (r2:Int) (r3:List Int) (r4:List (S71)) (w:World) (hr0_0:Kd.C (Kd.int .i64) w A0_0 l0_0.length l0_0) (hc0_0:l0_0.length≤c0_0) (hr0_2:Kd.C (Kd.int .i64) w A0_2 l0_2.length l0_2) (hc0_2:l0_2.length≤c0_2) (hr0_3:Kd.C k107 w A0_3 l0_3.length l0_3) (hc0_3:l0_3.length≤c0_3) (h:laws_toFunc.f k l0_0 a0_1 l0_2 l0_3=some (r1,r2,r3,r4)):
  Calls Try.prog 31 #[.agg #[.slice A0_0 l0_0.length c0_0,.int .i64 a0_1,.slice A0_2 l0_2.length c0_2,.slice A0_3 l0_3.length c0_3]] w fun e w'=>∃ v0_ v2_ v3_:Value,e=.returned (.agg #[v0_,.int .i64 r2,v2_,v3_])∧Kd.R (Kd.int .i64) 3 w' w.heap.size (fun k_=>some k_≠(v2_:Value).ownBlock) v0_ r1∧Kd.R (Kd.int .i64) 3 w' w.heap.size (fun k_=>some k_≠(v0_:Value).ownBlock) v2_ r3∧Kd.R k71 71 w' w.heap.size (fun _=>True) v3_ r4∧Below w.heap.size w w':=by
 have hu56:=Try.underlying56
 have hu59:=Try.underlying59
 have HR0_0:=A_ hr0_0
 have HC0_0:=A_ hc0_0
 clear hr0_0 hc0_0
 have HR0_2:=A_ hr0_2
 have HC0_2:=A_ hc0_2
 clear hr0_2 hc0_2
 have HR0_3:=A_ hr0_3
 have HC0_3:=A_ hc0_3
 clear hr0_3 hc0_3
 have HB:=A_ (Below.refl w.heap.size w)
 have H:((laws_toIntS.f k l0_0).bind fun t128=>((laws_toIntS.f k l0_2).bind fun t131=>((laws_toInsS.f k l0_3).bind fun t134=>(some (t128,a0_1,t131,t134)))))=some (r1,r2,r3,r4):=h
 clear h
 replace H:=bi_ H
 obtain⟨t128,A20,H⟩:=H
 have A2:=A_ A20
 clear A20
 replace H:=bi_ H
 obtain⟨t131,A30,H⟩:=H
 have A3:=A_ A30
 clear A30
 replace H:=bi_ H
 obtain⟨t134,A40,H⟩:=H
 have A4:=A_ A40
 clear A40
 simp only[Option.some.injEq,Prod.mk.injEq] at H
 obtain⟨rfl,rfl,rfl,rfl⟩:=H
 go_enter Try.func31,Try.ntmps31
 go_wp2_with (first|((with_reducible refine gd_ 1 rfl ?_);refine bx_ #[.slice A0_0 l0_0.length c0_0,.int .i64 a0_1,.slice A0_2 l0_2.length c0_2,.slice A0_3 l0_3.length c0_3] 56 ?_;intro gb125 hg w5 hbox hb;have BK125:=A_ hbox;have GW125:=gw_ hg HB;have GE125:=GW125;replace HB:=bs_ HB hb;clear hb hbox hg)|((with_reducible refine gd_ 2 rfl ?_);refine bx_ #[.slice none 0 0,.int .i64 0,.slice none 0 0,.slice none 0 0] 59 ?_;intro gb126 hg w6 hbox hb;have BK126:=A_ hbox;have GW126:=gw_ hg HB;have GE126:=GW126;obtain⟨NB125_126,NB126_125⟩:=nb_ BK125 hg;replace BK125:=kb_ BK125 hb;replace HB:=bs_ HB hb;clear hb hbox hg)|((with_reducible refine gd_ 3 rfl ?_);refine bx_ #[.slice none 0 0,.int .i64 0,.slice none 0 0,.slice none 0 0] 59 ?_;intro gb127 hg w7 hbox hb;have BK127:=A_ hbox;have GW127:=gw_ hg HB;have GE127:=GW127;obtain⟨NB125_127,NB127_125⟩:=nb_ BK125 hg;obtain⟨NB126_127,NB127_126⟩:=nb_ BK126 hg;replace BK125:=kb_ BK125 hb;replace BK126:=kb_ BK126 hb;replace HB:=bs_ HB hb;clear hb hbox hg;have hnb8:=NB125_126.out;have hnc8:=NB126_125.out;have hnb9:=NB125_127.out;have hnc9:=NB127_125.out;obtain⟨hcz10_0,hcz10_1,hcz10_2,hcz10_3⟩:=cs4_ BK125.out;obtain⟨hfz10_0,hfz10_1,hfz10_2,hfz10_3⟩:=fz4_ BK125.out)|((with_reducible refine gc_ 49 rfl ?_);refine goesL_ (some 6) rfl rfl Try.func49 (by kernel_rfl) rfl #[.slice A0_0 l0_0.length c0_0] rfl ar ?_;(with_reducible refine(laws_toIntS.calls k _ _ l0_0 t128 _ ?side1 ?side2 A2.out).mono ?_);(case side1=>exact cb_ HR0_0 HB);(case side2=>exact HC0_0.out);rintro e w11 ⟨v129,rfl,ho0,hb⟩;refine⟨_,rfl,?_⟩;have HO130:=A_ (Kd.R_lower ho0 (below_size (bw HB.out)));replace BK125:=kb_ BK125 hb;replace BK126:=kb_ BK126 hb;replace BK127:=kb_ BK127 hb;replace HB:=bs_ HB hb;(try clear hb);(try clear hb2);(try clear hk);(try clear hi);(try clear ho0);obtain⟨Ao12,co12,eo12⟩:=Kd.R_slice HO130.out;subst eo12;have hnb13:=NB127_126.out;have hnc13:=NB126_127.out;obtain⟨hcz14_0,hcz14_1,hcz14_2,hcz14_3⟩:=cs4_ BK127.out;obtain⟨hfz14_0,hfz14_1,hfz14_2,hfz14_3⟩:=fz4_ BK127.out;obtain⟨hcz15_0,hcz15_1,hcz15_2,hcz15_3⟩:=cs4_ BK125.out;obtain⟨hfz15_0,hfz15_1,hfz15_2,hfz15_3⟩:=fz4_ BK125.out)|((with_reducible refine gc_ 49 rfl ?_);refine goesL_ (some 13) rfl rfl Try.func49 (by kernel_rfl) rfl #[.slice A0_2 l0_2.length c0_2] rfl ar ?_;(with_reducible refine(laws_toIntS.calls k _ _ l0_2 t131 _ ?side1 ?side2 A3.out).mono ?_);(case side1=>exact Kd.C_below HR0_2.out (bw HB.out));(case side2=>exact HC0_2.out);rintro e w16 ⟨v132,rfl,ho0,hb⟩;refine⟨_,rfl,?_⟩;have HO133:=A_ (Kd.R_lower (Kd.R_new' ho0 (Kd.R_lt (by(with_reducible repeat (first|apply Kd.R_alloc|apply Kd.R_drewN|apply Kd.R_drew));exact(Kd.R_mono (Kd.R_far (p:=⟨gb127,1,none⟩) (Kd.R_far (p:=⟨gb127,0,none⟩) (Kd.R_types HO130.out BK127.out (by decide)) (fun _ hk=>hk.2) (.slice Ao12 t128.length co12)) (fun _ hk=>hk.2) (.int .i64 a0_1)) (fun _ h_=>h_.1))))) (below_size (bw HB.out)));replace HO130:=A_ (Kd.R_elder' (by(with_reducible repeat (first|apply Kd.R_alloc|apply Kd.R_drewN|apply Kd.R_drew));exact(Kd.R_mono (Kd.R_far (p:=⟨gb127,1,none⟩) (Kd.R_far (p:=⟨gb127,0,none⟩) (Kd.R_types HO130.out BK127.out (by decide)) (fun _ hk=>hk.2) (.slice Ao12 t128.length co12)) (fun _ hk=>hk.2) (.int .i64 a0_1)) (fun _ h_=>h_.1))) (Kd.R_base ho0) hb);replace BK125:=A_ (blk_below (g:=gb125) (o:=.cells #[.slice A0_0 l0_0.length c0_0,.int .i64 a0_1,.slice A0_2 l0_2.length c0_2,.slice A0_3 l0_3.length c0_3] 56 (0,0)) (by refine blk_far ?_ NB125_127.out _;refine blk_far ?_ NB125_127.out _;(with_reducible repeat (first|refine blk_drewN ?_ _|refine blk_drew ?_|refine blk_alloc ?_ _));exact BK125.out) hb);replace BK126:=A_ (blk_below (g:=gb126) (o:=.cells #[.slice none 0 0,.int .i64 0,.slice none 0 0,.slice none 0 0] 59 (0,0)) (by refine blk_far ?_ NB126_127.out _;refine blk_far ?_ NB126_127.out _;(with_reducible repeat (first|refine blk_drewN ?_ _|refine blk_drew ?_|refine blk_alloc ?_ _));exact BK126.out) hb);replace BK127:=A_ (blk_below (g:=gb127) (o:=.cells #[.slice Ao12 t128.length co12,.int .i64 a0_1,.slice none 0 0,.slice none 0 0] 59 (0,0)) (by refine blk_put (cs:=#[.slice Ao12 t128.length co12,.int .i64 0,.slice none 0 0,.slice none 0 0]) ?_ 1 _ rfl;refine blk_put (cs:=#[.slice none 0 0,.int .i64 0,.slice none 0 0,.slice none 0 0]) ?_ 0 _ rfl;(with_reducible repeat (first|refine blk_drewN ?_ _|refine blk_drew ?_|refine blk_alloc ?_ _));exact BK127.out) hb);replace HB:=bs_ HB hb;(try clear hb);(try clear hb2);(try clear hk);(try clear hi);(try clear ho0);obtain⟨Ao17,co17,eo17⟩:=Kd.R_slice HO133.out;subst eo17;obtain⟨hcz18_0,hcz18_1,hcz18_2,hcz18_3⟩:=cs4_ BK127.out;obtain⟨hfz18_0,hfz18_1,hfz18_2,hfz18_3⟩:=fz4_ BK127.out;obtain⟨hcz19_0,hcz19_1,hcz19_2,hcz19_3⟩:=cs4_ BK125.out;obtain⟨hfz19_0,hfz19_1,hfz19_2,hfz19_3⟩:=fz4_ BK125.out)|((with_reducible refine gc_ 50 rfl ?_);refine goesL_ (some 17) rfl rfl Try.func50 (by kernel_rfl) rfl #[.slice A0_3 l0_3.length c0_3] rfl ar ?_;(with_reducible refine(laws_toInsS.calls k _ _ l0_3 t134 _ ?side1 ?side2 A4.out).mono ?_);(case side1=>exact Kd.C_below HR0_3.out (bw HB.out));(case side2=>exact HC0_3.out);rintro e w20 ⟨v135,rfl,ho0,hb⟩;refine⟨_,rfl,?_⟩;have HO136:=A_ (Kd.R_lower ho0 (below_size (bw HB.out)));replace HO130:=A_ (Kd.R_below (by(with_reducible repeat (first|apply Kd.R_alloc|apply Kd.R_drewN|apply Kd.R_drew));exact(Kd.R_mono (Kd.R_far (p:=⟨gb127,2,none⟩) (Kd.R_types HO130.out BK127.out (by decide)) (fun _ hk=>hk.2) (.slice Ao17 t131.length co17)) (fun _ h_=>h_.1))) hb);replace HO133:=A_ (Kd.R_below (by(with_reducible repeat (first|apply Kd.R_alloc|apply Kd.R_drewN|apply Kd.R_drew));exact(Kd.R_mono (Kd.R_far (p:=⟨gb127,2,none⟩) (Kd.R_types HO133.out BK127.out (by decide)) (fun _ hk=>hk.2) (.slice Ao17 t131.length co17)) (fun _ h_=>h_.1))) hb);replace BK125:=A_ (blk_below (g:=gb125) (o:=.cells #[.slice A0_0 l0_0.length c0_0,.int .i64 a0_1,.slice A0_2 l0_2.length c0_2,.slice A0_3 l0_3.length c0_3] 56 (0,0)) (by refine blk_far ?_ NB125_127.out _;(with_reducible repeat (first|refine blk_drewN ?_ _|refine blk_drew ?_|refine blk_alloc ?_ _));exact BK125.out) hb);replace BK126:=A_ (blk_below (g:=gb126) (o:=.cells #[.slice none 0 0,.int .i64 0,.slice none 0 0,.slice none 0 0] 59 (0,0)) (by refine blk_far ?_ NB126_127.out _;(with_reducible repeat (first|refine blk_drewN ?_ _|refine blk_drew ?_|refine blk_alloc ?_ _));exact BK126.out) hb);replace BK127:=A_ (blk_below (g:=gb127) (o:=.cells #[.slice Ao12 t128.length co12,.int .i64 a0_1,.slice Ao17 t131.length co17,.slice none 0 0] 59 (0,0)) (by refine blk_put (cs:=#[.slice Ao12 t128.length co12,.int .i64 a0_1,.slice none 0 0,.slice none 0 0]) ?_ 2 _ rfl;(with_reducible repeat (first|refine blk_drewN ?_ _|refine blk_drew ?_|refine blk_alloc ?_ _));exact BK127.out) hb);replace HB:=bs_ HB hb;(try clear hb);(try clear hb2);(try clear hk);(try clear hi);(try clear ho0);obtain⟨Ao21,co21,eo21⟩:=Kd.R_slice HO136.out;subst eo21;obtain⟨hcz22_0,hcz22_1,hcz22_2,hcz22_3⟩:=cs4_ BK127.out;obtain⟨hfz22_0,hfz22_1,hfz22_2,hfz22_3⟩:=fz4_ BK127.out;obtain⟨hcz23_0,hcz23_1,hcz23_2,hcz23_3⟩:=cs4_ BK126.out;obtain⟨hfz23_0,hfz23_1,hfz23_2,hfz23_3⟩:=fz4_ BK126.out)|((with_reducible refine gate_store (t:=59) (p:=2) rfl ?_);refine store_event (t:=59) (p:=2) (v:=?vo_w24) (w1:=(((((w20.setCell ⟨gb127,3,none⟩ (.slice Ao21 t134.length co21)).setCell ⟨gb126,0,none⟩ (.slice Ao12 t128.length co12)).setCell ⟨gb126,1,none⟩ (.int .i64 a0_1)).setCell ⟨gb126,2,none⟩ (.slice Ao17 t131.length co17)).setCell ⟨gb126,3,none⟩ (.slice Ao21 t134.length co21))) ?hg ?ho ?hn ?hr ?_;(case ho=>rfl);(case hg=>rfl);(case hn=>rfl);(case hr=>first|(go_simp;done)|(go_simp;rfl));intro w24 hw;replace HO130:Aside0 (Kd.R (Kd.int .i64) 3 w24 w.heap.size (fun k_=>some k_≠(.slice Ao17 t131.length co17:Value).ownBlock) (.slice Ao12 t128.length co12) t128):=⟨(by rw[hw];exact(by(with_reducible repeat (first|apply Kd.R_alloc|apply Kd.R_drewN|apply Kd.R_drew));exact Kd.R_mono (Kd.R_far (p:=⟨gb126,3,none⟩) (Kd.R_far (p:=⟨gb126,2,none⟩) (Kd.R_far (p:=⟨gb126,1,none⟩) (Kd.R_far (p:=⟨gb126,0,none⟩) (Kd.R_far (p:=⟨gb127,3,none⟩) (Kd.R_types (Kd.R_types HO130.out BK127.out (by decide)) BK126.out (by decide)) (fun _ hk=>hk.1.2) (.slice Ao21 t134.length co21)) (fun _ hk=>hk.2) (.slice Ao12 t128.length co12)) (fun _ hk=>hk.2) (.int .i64 a0_1)) (fun _ hk=>hk.2) (.slice Ao17 t131.length co17)) (fun _ hk=>hk.2) (.slice Ao21 t134.length co21)) (fun _ hk=>hk.1.1.2)))⟩;replace HO133:Aside0 (Kd.R (Kd.int .i64) 3 w24 w.heap.size (fun k_=>some k_≠(.slice Ao12 t128.length co12:Value).ownBlock) (.slice Ao17 t131.length co17) t131):=⟨(by rw[hw];exact(by(with_reducible repeat (first|apply Kd.R_alloc|apply Kd.R_drewN|apply Kd.R_drew));exact Kd.R_mono (Kd.R_far (p:=⟨gb126,3,none⟩) (Kd.R_far (p:=⟨gb126,2,none⟩) (Kd.R_far (p:=⟨gb126,1,none⟩) (Kd.R_far (p:=⟨gb126,0,none⟩) (Kd.R_far (p:=⟨gb127,3,none⟩) (Kd.R_types (Kd.R_types HO133.out BK127.out (by decide)) BK126.out (by decide)) (fun _ hk=>hk.1.2) (.slice Ao21 t134.length co21)) (fun _ hk=>hk.2) (.slice Ao12 t128.length co12)) (fun _ hk=>hk.2) (.int .i64 a0_1)) (fun _ hk=>hk.2) (.slice Ao17 t131.length co17)) (fun _ hk=>hk.2) (.slice Ao21 t134.length co21)) (fun _ hk=>hk.1.1.2)))⟩;replace HO136:Aside0 (Kd.R k71 71 w24 w.heap.size (fun _=>True) (.slice Ao21 t134.length co21) t134):=⟨(by rw[hw];exact(by(with_reducible repeat (first|apply Kd.R_alloc|apply Kd.R_drewN|apply Kd.R_drew));exact Kd.R_mono (Kd.R_far (p:=⟨gb126,3,none⟩) (Kd.R_far (p:=⟨gb126,2,none⟩) (Kd.R_far (p:=⟨gb126,1,none⟩) (Kd.R_far (p:=⟨gb126,0,none⟩) (Kd.R_far (p:=⟨gb127,3,none⟩) (Kd.R_types (Kd.R_types HO136.out BK127.out (by decide)) BK126.out (by decide)) (fun _ hk=>hk.1.2) (.slice Ao21 t134.length co21)) (fun _ hk=>hk.2) (.slice Ao12 t128.length co12)) (fun _ hk=>hk.2) (.int .i64 a0_1)) (fun _ hk=>hk.2) (.slice Ao17 t131.length co17)) (fun _ hk=>hk.2) (.slice Ao21 t134.length co21)) (fun _ hk=>trivial)))⟩;replace BK125:Aside0 (w24.heap[gb125]? =some (.cells #[.slice A0_0 l0_0.length c0_0,.int .i64 a0_1,.slice A0_2 l0_2.length c0_2,.slice A0_3 l0_3.length c0_3] 56 (0,0))):=⟨(by rw[hw];exact(by refine blk_far ?_ NB125_126.out _;refine blk_far ?_ NB125_126.out _;refine blk_far ?_ NB125_126.out _;refine blk_far ?_ NB125_126.out _;refine blk_far ?_ NB125_127.out _;(with_reducible repeat (first|refine blk_drewN ?_ _|refine blk_drew ?_|refine blk_alloc ?_ _));exact BK125.out))⟩;replace BK126:Aside0 (w24.heap[gb126]? =some (.cells #[.slice Ao12 t128.length co12,.int .i64 a0_1,.slice Ao17 t131.length co17,.slice Ao21 t134.length co21] 59 (0,0))):=⟨(by rw[hw];exact(by refine blk_put (cs:=#[.slice Ao12 t128.length co12,.int .i64 a0_1,.slice Ao17 t131.length co17,.slice none 0 0]) ?_ 3 _ rfl;refine blk_put (cs:=#[.slice Ao12 t128.length co12,.int .i64 a0_1,.slice none 0 0,.slice none 0 0]) ?_ 2 _ rfl;refine blk_put (cs:=#[.slice Ao12 t128.length co12,.int .i64 0,.slice none 0 0,.slice none 0 0]) ?_ 1 _ rfl;refine blk_put (cs:=#[.slice none 0 0,.int .i64 0,.slice none 0 0,.slice none 0 0]) ?_ 0 _ rfl;refine blk_far ?_ NB126_127.out _;(with_reducible repeat (first|refine blk_drewN ?_ _|refine blk_drew ?_|refine blk_alloc ?_ _));exact BK126.out))⟩;replace BK127:Aside0 (w24.heap[gb127]? =some (.cells #[.slice Ao12 t128.length co12,.int .i64 a0_1,.slice Ao17 t131.length co17,.slice Ao21 t134.length co21] 59 (0,0))):=⟨(by rw[hw];exact(by refine blk_far ?_ NB127_126.out _;refine blk_far ?_ NB127_126.out _;refine blk_far ?_ NB127_126.out _;refine blk_far ?_ NB127_126.out _;refine blk_put (cs:=#[.slice Ao12 t128.length co12,.int .i64 a0_1,.slice Ao17 t131.length co17,.slice none 0 0]) ?_ 3 _ rfl;(with_reducible repeat (first|refine blk_drewN ?_ _|refine blk_drew ?_|refine blk_alloc ?_ _));exact BK127.out))⟩;replace HB:Aside0 (Below w.heap.size w w24):=⟨(by rw[hw];exact(bw HB.out))⟩;clear hw))
 refine bodyPost_ret (results_cell_row rfl _ _ gb126 59 #[.slice Ao12 t128.length co12,.int .i64 a0_1,.slice Ao17 t131.length co17,.slice Ao21 t134.length co21] (0,0) _ rfl (bk BK126.out) Try.underlying59 rfl (by kernel_rfl)) rfl ?_
 exact⟨_,_,_,rr_,kr_ HO130.out,kr_ HO133.out,kr_ HO136.out,bw HB.out⟩

/-! ### laws_toFuncS: function 20 -/
def laws_toFuncS.l0:Nat→List (S56)→List (S59)→Int→Option ((List (S59)))
 |0,_,_,_=>none
 |k+1,x0,x3,x4=>if x4<(x0.length:Int) then (if 0≤x4 then ((laws_toFunc.f k ((rd_T56 x0 x4).f0) ((rd_T56 x0 x4).f1) ((rd_T56 x0 x4).f2) ((rd_T56 x0 x4).f3)).bind fun bt141=>(if x4<(x3.length:Int) then (laws_toFuncS.l0 k x0 (x3.set (x4:Int).toNat (⟨bt141.1,bt141.2.1,bt141.2.2.1,bt141.2.2.2⟩:S59)) (wrap64 (x4+1))) else (none))) else (none)) else (some x3)
def laws_toFuncS.f (k:Nat) (l0:List (S56)):Option ((List (S59))):=if 0≤(l0.length:Int) then (if ((l0.length:Int):Int).toNat≤3518437208883 then (laws_toFuncS.l0 k l0 (List.replicate ((l0.length:Int):Int).toNat z59) 0) else (none)) else (none)
theorem laws_toFuncS.calls (k:Nat) (A0:Option Addr) (c0:Nat) (l0:List (S56)) (r:List (S59)) (w:World) (hr0:Kd.C k56 w A0 l0.length l0) (hc0:l0.length≤c0) (h:laws_toFuncS.f k l0=some r):
  Calls Try.prog 20 #[.slice A0 l0.length c0] w fun e w'=>∃ v0_:Value,e=.returned (v0_)∧Kd.S k59 59 w' w.heap.size (fun _=>True) v0_ r∧Below w.heap.size w w':=by
 have hu56:=Try.underlying56
 have hu59:=Try.underlying59
 have HR0:=A_ hr0
 have HC0:=A_ hc0
 clear hr0 hc0
 have HB:=A_ (Below.refl w.heap.size w)
 have H:(if 0≤(l0.length:Int) then (if ((l0.length:Int):Int).toNat≤3518437208883 then (laws_toFuncS.l0 k l0 (List.replicate ((l0.length:Int):Int).toNat z59) 0) else (none)) else (none))=some r:=h
 clear h
 by_cases c2:0≤(l0.length:Int)
 ·
  rw[if_pos c2] at H
  have c2b0:=eq_true c2
  have c2b1:=decide_eq_true c2
  clear c2
  by_cases c3:((l0.length:Int):Int).toNat≤3518437208883
  ·
   rw[if_pos c3] at H
   have c3b0:=eq_true c3
   have c3b1:=decide_eq_true c3
   clear c3
   obtain⟨y137,hy137⟩:∃ y_:List (S59),y_=(List.replicate ((l0.length:Int):Int).toNat z59):=⟨_,rfl⟩
   replace H:(laws_toFuncS.l0 k l0 y137 0)=some r:=by first|(rw[hy137];with_reducible exact H)|(have H2_:=(Option.bind_some _ _).symm.trans H;rw[hy137];with_reducible exact H2_)|(have H2_:=(Option.bind_some _ _).symm.trans H;with_reducible exact H2_)|with_reducible exact H|(rw[hy137];exact H)|exact H
   have Ny137:=A_ hy137
   clear hy137
   have H':=A_ H
   clear H
   go_enter Try.func20,Try.ntmps20
   go_wp2_with (first|((with_reducible refine gd_ 7 rfl ?_);refine Kd.S_make k59 _ 59 rfl (N:=7) rfl 29 _ _ rfl (l0.length:Int) rfl rfl Try.underlying29 (.agg #[(.slice none 0 0),(.int .i64 0),(.slice none 0 0),(.slice none 0 0)]) 80 info59 rfl (by decide) (by omega) z59 (ok:=fun _=>True) (okp:=fun _=>True) (k59_mkM _ _ _ z59 (Kd.R_nil _ _ _ _ _) (Kd.R_nil _ _ _ _ _) (Kd.R_nil _ _ _ _ _)) (fun _ hk=>hk) trivial (od_) (Nat.le_trans (Nat.mul_le_mul_right _ (od_:(l0.length:Int).toNat≤3518437208883)) (by omega)) (Below.refl _ _) (Nat.le_refl _) ?_;intro v138 w4 ho5 hb hg_ hnew_;clear hg_ hnew_;(first|rw[←Ny137.out] at ho5|(simp only[Int.reduceToNat] at ho5;rw[←Ny137.out] at ho5));have HO139:=A_ (Kd.S_lower ho5 (below_size (bw HB.out)));replace HB:=bs_ HB hb;clear hb ho5))
   (try simp only[Act.put,List.setIfInBounds_toArray,List.set_cons_zero,List.set_cons_succ])
   go_loopg [4] k (fun kq v4 w'=>∃ (x3_1:List (S59)) (x4_1:Int),v4=.int .i64 x4_1∧Aside0 (laws_toFuncS.l0 kq l0 x3_1 x4_1=some r)∧Aside0 (kq≤k)∧Aside0 (Kd.S k59 59 w' w.heap.size (fun _=>True) v138 x3_1)∧Aside0 (Below w.heap.size w w'))
   case atStart=>exact⟨(y137),(0),rs_,H',⟨Nat.le_refl _⟩,⟨ks_ HO139.out⟩,⟨bw HB.out⟩⟩
   case round=>
    clear H'
    try clear c2 c2b0 c2b1 c3 c3b0 c3b1
    obtain⟨x3_1,x4_1,rfl,HA,HK1,HO_3,HB⟩:=hrel
    cases gk with
    |zero=>exact absurd HA.out (by simp[laws_toFuncS.l0])
    |succ k1=>
     have H:=HA.out
     clear HA
     simp only[laws_toFuncS.l0] at H
     by_cases c6:x4_1<(l0.length:Int)
     ·
      rw[if_pos c6] at H
      have c6b0:=decide_eq_true c6
      clear c6
      by_cases c7:0≤x4_1
      ·
       rw[if_pos c7] at H
       have c7b0:=decide_eq_true c7
       clear c7
       replace H:=Option.bind_eq_some_iff.mp H
       obtain⟨⟨t141,t144,t145,t148⟩,A80,H⟩:=H
       replace H:(if x4_1<(x3_1.length:Int) then (laws_toFuncS.l0 k1 l0 (x3_1.set (x4_1:Int).toNat (⟨t141,t144,t145,t148⟩:S59)) (wrap64 (x4_1+1))) else (none))=some r:=H
       have A8:=A_ A80
       clear A80
       by_cases c9:x4_1<(x3_1.length:Int)
       ·
        rw[if_pos c9] at H
        have c9b0:=decide_eq_true c9
        clear c9
        obtain⟨y151,hy151⟩:∃ y_:List (S59),y_=(x3_1.set (x4_1:Int).toNat (⟨t141,t144,t145,t148⟩:S59)):=⟨_,rfl⟩
        replace H:(laws_toFuncS.l0 k1 l0 y151 (wrap64 (x4_1+1)))=some r:=by first|(rw[hy151];with_reducible exact H)|(have H2_:=(Option.bind_some _ _).symm.trans H;rw[hy151];with_reducible exact H2_)|(have H2_:=(Option.bind_some _ _).symm.trans H;with_reducible exact H2_)|with_reducible exact H|(rw[hy151];exact H)|exact H
        have Ny151:=A_ hy151
        clear hy151
        have H':=A_ H
        clear H
        have p140:0≤(x4_1:Int):=od_
        have q140:x4_1<(l0.length:Int):=od_
        obtain⟨ad140,A140_0,c140_0,A140_2,c140_2,A140_3,c140_3,e140,hx140_0,hx140_1,hx140_2,hx140_3,hl140_0,hi140_0,hl140_2,hi140_2,hl140_3,hi140_3⟩:=at_T56 HR0.out x4_1 p140 q140
        cases e140
        replace hx140_0:=cl_ HB.out hx140_0
        replace hx140_1:=cl_ HB.out hx140_1
        replace hx140_2:=cl_ HB.out hx140_2
        replace hx140_3:=cl_ HB.out hx140_3
        have HR140_0:=A_ hi140_0
        have HC140_0:=A_ hl140_0
        clear hi140_0 hl140_0
        have HR140_2:=A_ hi140_2
        have HC140_2:=A_ hl140_2
        clear hi140_2 hl140_2
        have HR140_3:=A_ hi140_3
        have HC140_3:=A_ hl140_3
        clear hi140_3 hl140_3
        replace p140:=eq_true p140
        replace q140:=eq_true q140
        go_wp2_with (first|((with_reducible refine gc_ 31 rfl ?_);refine goesL_ (some 20) rfl rfl Try.func31 (by kernel_rfl) rfl #[.agg #[.slice A140_0 ((rd_T56 l0 x4_1).f0).length c140_0,.int .i64 ((rd_T56 l0 x4_1).f1),.slice A140_2 ((rd_T56 l0 x4_1).f2).length c140_2,.slice A140_3 ((rd_T56 l0 x4_1).f3).length c140_3]] rfl ar ?_;(with_reducible refine(laws_toFunc.calls k1 _ _ ((rd_T56 l0 x4_1).f0) ((rd_T56 l0 x4_1).f1) _ _ ((rd_T56 l0 x4_1).f2) _ _ ((rd_T56 l0 x4_1).f3) t141 t144 t145 t148 _ ?side1 ?side2 ?side3 ?side4 ?side5 ?side6 A8.out).mono ?_);(case side1=>exact cb_ HR140_0 HB);(case side2=>exact HC140_0.out);(case side3=>exact cb_ HR140_2 HB);(case side4=>exact HC140_2.out);(case side5=>exact cb_ HR140_3 HB);(case side6=>exact HC140_3.out);rintro e w11 ⟨v142,v146,v149,rfl,ho0,ho1,ho2,hb⟩;refine⟨_,rfl,?_⟩;have HO143:=A_ (Kd.R_lower ho0 (below_size (bw HB.out)));have HO147:=A_ (Kd.R_lower ho1 (below_size (bw HB.out)));have HO150:=A_ (Kd.R_lower ho2 (below_size (bw HB.out)));replace HO_3:=A_ (Kd.S_mono (Kd.S_told (Kd.S_told (Kd.S_told (Kd.S_old (ks_ HO_3.out) hb) (Kd.R_base ho0)) (Kd.R_base ho1)) (Kd.R_base ho2)) (fun _ h_=>h_.1));replace HB:=bs_ HB hb;(try clear hb);(try clear hb2);(try clear hk);(try clear hi);(try clear ho0);(try clear ho1);(try clear ho2);have p10:0≤(x4_1:Int):=od_;have q10:(x4_1:Int)<((x3_1.length:Int):Int):=od_;obtain⟨go10,co10,eo10,gb10,gl10,cl10,HG10⟩:=Kd.S_form HO_3.out (by omega);(first|cases eo10|(injection eo10 with ea_ en_ ec_;(first|subst ea_|(injection ea_ with ea_;subst ea_));subst ec_;clear en_));have GB10:=A_ gb10;have GG10:=A_ HG10;clear gb10 gl10 HG10;obtain⟨_,ce10,hcl10,hM10,hcc10,hfr10,_,_⟩:=Kd.S_elem HO_3.out z59 (x4_1:Int) p10 q10;obtain⟨ve10_0,ve10_2,ve10_3,rfl,ge10_0,ge10_2,ge10_3⟩:=k59_openM hM10;have hx10_0:w11.cell? ⟨go10,(x4_1:Int).toNat*4,none⟩=some (ve10_0):=hcc10 0 _ rfl;have hx10_1:w11.cell? ⟨go10,(x4_1:Int).toNat*4+1,none⟩=some (.int .i64 ((rd_T59 x3_1 x4_1).f1)):=hcc10 1 _ rfl;have hx10_2:w11.cell? ⟨go10,(x4_1:Int).toNat*4+2,none⟩=some (ve10_2):=hcc10 2 _ rfl;have hx10_3:w11.cell? ⟨go10,(x4_1:Int).toNat*4+3,none⟩=some (ve10_3):=hcc10 3 _ rfl;have hf10_0:w11.frozen? ⟨go10,(x4_1:Int).toNat*4,none⟩=false:=hfr10 0;have hf10_1:w11.frozen? ⟨go10,(x4_1:Int).toNat*4+1,none⟩=false:=hfr10 1;have hf10_2:w11.frozen? ⟨go10,(x4_1:Int).toNat*4+2,none⟩=false:=hfr10 2;have hf10_3:w11.frozen? ⟨go10,(x4_1:Int).toNat*4+3,none⟩=false:=hfr10 3;clear hcl10 hcc10 hfr10 hM10;replace p10:=eq_true p10;replace q10:=eq_true q10;have n_:=A_ (Kd.S_mono (ok':=(fun k_=>some k_≠(v142:Value).ownBlock∧some k_≠(v146:Value).ownBlock∧some k_≠(v149:Value).ownBlock)) HO_3.out (fun k_ hk=>⟨hk.1.1.2,⟨hk.1.2,hk.2⟩⟩));clear HO_3;have HO_3:=n_;clear n_;have HX12:=A_ (show Kd.S k59 59 w11 w.heap.size (fun k_=>((fun _=>True)) k_∧¬((fun k_=>some k_=(v142:Value).ownBlock∨some k_=(v146:Value).ownBlock∨some k_=(v149:Value).ownBlock)) k_) (.slice (some ⟨go10,0,none⟩) x3_1.length co10) x3_1 from(by(with_reducible repeat (first|apply Kd.S_alloc|apply Kd.S_drewN|apply Kd.S_drew));exact Kd.S_mono HO_3.out (fun k_ hk=>⟨trivial,fun e_=>e_.elim (fun h_=>hk.1 h_) (fun h_=>h_.elim (fun h_=>hk.2.1 h_) (fun h_=>hk.2.2 h_))⟩)));obtain⟨oki12,ce12,hcl12,hM12,hcc12,hfr12,hoki12,hH12⟩:=Kd.S_elem HX12.out z59 (x4_1:Int) (od_) (by have h_:(x4_1:Int)<((x3_1.length:Int):Int):=od_;first|exact h_|(have e_:=(Kd.S_reads' HO_3.out).1;omega)|simpa using h_);obtain⟨ve12_0,ve12_2,ve12_3,rfl,ge12_0,ge12_2,ge12_3⟩:=k59_openM hM12;have HP12:=Kd.S_seg hH12 (od_) (by have h_:(x4_1:Int)<((x3_1.length:Int):Int):=od_;first|exact h_|(have e_:=(Kd.S_reads' HO_3.out).1;omega)|simpa using h_) (seg:=[v142,.int .i64 t144,v146,v149]) (j:=0) (show 4≤4 from by decide) (x':=(⟨t141,t144,t145,t148⟩:S59)) (k59_mkM _ _ _ (⟨t141,t144,t145,t148⟩:S59) (Kd.R_mono (Kd.R_tight rfl (Kd.R_mono (ok':=fun k_=>((fun _=>True)) k_∧k_≠go10) (Kd.R_apart' (HO143.out) (Kd.S_typed HO_3.out) (by decide)) (fun k_ hk=>⟨trivial,fun e_=>(hk.2) (by rw[e_];rfl)⟩))) (fun _ h_=>Or.inr (Or.inl h_))) (Kd.R_mono (Kd.R_tight rfl (Kd.R_mono (ok':=fun k_=>((fun _=>True)) k_∧k_≠go10) (Kd.R_apart' (HO147.out) (Kd.S_typed HO_3.out) (by decide)) (fun k_ hk=>⟨trivial,fun e_=>(hk.2) (by rw[e_];rfl)⟩))) (fun _ h_=>Or.inr (Or.inr (Or.inl h_)))) (Kd.R_mono (Kd.R_tight rfl (Kd.R_mono (ok':=fun k_=>((fun _=>True)) k_∧k_≠go10) (Kd.R_apart' (HO150.out) (Kd.S_typed HO_3.out) (by decide)) (fun k_ hk=>⟨trivial,fun e_=>(hk.2) (by rw[e_];rfl)⟩))) (fun _ h_=>Or.inr (Or.inr (Or.inr (h_)))))) (fun _ hk=>hk) (fun k_ hk_=>hk_.elim (fun h_=>((Kd.R_mono (ok':=fun k_=>((fun _=>True)) k_∧k_≠go10) (Kd.R_apart' (HO143.out) (Kd.S_typed HO_3.out) (by decide)) (fun k_ hk=>⟨trivial,fun e_=>(hk.2) (by rw[e_];rfl)⟩))).1 k_ h_.symm) (fun h_=>h_.elim (fun h_=>((Kd.R_mono (ok':=fun k_=>((fun _=>True)) k_∧k_≠go10) (Kd.R_apart' (HO147.out) (Kd.S_typed HO_3.out) (by decide)) (fun k_ hk=>⟨trivial,fun e_=>(hk.2) (by rw[e_];rfl)⟩))).1 k_ h_.symm) (fun h_=>((Kd.R_mono (ok':=fun k_=>((fun _=>True)) k_∧k_≠go10) (Kd.R_apart' (HO150.out) (Kd.S_typed HO_3.out) (by decide)) (fun k_ hk=>⟨trivial,fun e_=>(hk.2) (by rw[e_];rfl)⟩))).1 k_ h_.symm)));have hx12_0:=hcc12 0 _ rfl;(try simp only[show (k59).sz=4 from rfl,Nat.mul_one,Nat.add_zero] at hx12_0);have hf12_0:=hfr12 0;(try simp only[show (k59).sz=4 from rfl,Nat.mul_one,Nat.add_zero] at hf12_0);have hx12_1:=hcc12 1 _ rfl;(try simp only[show (k59).sz=4 from rfl,Nat.mul_one,Nat.add_zero] at hx12_1);have hf12_1:=hfr12 1;(try simp only[show (k59).sz=4 from rfl,Nat.mul_one,Nat.add_zero] at hf12_1);have hx12_2:=hcc12 2 _ rfl;(try simp only[show (k59).sz=4 from rfl,Nat.mul_one,Nat.add_zero] at hx12_2);have hf12_2:=hfr12 2;(try simp only[show (k59).sz=4 from rfl,Nat.mul_one,Nat.add_zero] at hf12_2);have hx12_3:=hcc12 3 _ rfl;(try simp only[show (k59).sz=4 from rfl,Nat.mul_one,Nat.add_zero] at hx12_3);have hf12_3:=hfr12 3;(try simp only[show (k59).sz=4 from rfl,Nat.mul_one,Nat.add_zero] at hf12_3);clear hcl12 hcc12 hfr12 hM12 hoki12 hH12)|((with_reducible refine gate_store (t:=59) (p:=21) rfl ?_);refine store_event (t:=59) (p:=21) (v:=?vo_w13) (w1:=((((w11.setCell ⟨go10,(x4_1:Int).toNat*4,none⟩ (v142)).setCell ⟨go10,(x4_1:Int).toNat*4+1,none⟩ (.int .i64 t144)).setCell ⟨go10,(x4_1:Int).toNat*4+2,none⟩ (v146)).setCell ⟨go10,(x4_1:Int).toNat*4+3,none⟩ (v149))) ?hg ?ho ?hn ?hr ?_;(case ho=>rfl);(case hg=>rfl);(case hn=>rfl);(case hr=>(obtain⟨_,_,e0_⟩:=Kd.R_slice HO143.out;obtain⟨_,_,e1_⟩:=Kd.R_slice HO147.out;obtain⟨_,_,e2_⟩:=Kd.R_slice HO150.out;subst e0_ e1_ e2_;first|(go_simp;done)|(go_simp;rfl)));intro w13 hw;have hg:w11.grownBy w13 (some go10):=(by rw[hw];exact HP12.2);have hp_:Kd.S k59 59 w13 w.heap.size (fun _=>True) (.slice (some ⟨go10,0,none⟩) x3_1.length co10) y151:=(by rw[hw,Ny151.out];exact HP12.1);clear HP12;replace HO_3:=A_ (hp_);replace HB:=A_ ((by rw[hw];exact below_set (below_set (below_set (below_set (HB.out) GB10.out) GB10.out) GB10.out) GB10.out:Below w.heap.size w w13));clear HO143 HO147 HO150;clear hg hw hp_))
        go_roundg k1
        case measure=>have:=HK1.out;omega
        case rel=>exact⟨(y151),(wrap64 (x4_1+1)),rs_,H',⟨by have:=HK1.out;omega⟩,⟨ks_ HO_3.out⟩,⟨bw HB.out⟩⟩
       rw[if_neg c9] at H
       exact absurd H (by simp)
      rw[if_neg c7] at H
      exact absurd H (by simp)
     rw[if_neg c6] at H
     have c6b0:=decide_eq_false c6
     clear c6
     obtain rfl:=Option.some.inj H
     clear H
     go_wp2
     go_ret
     exact⟨_,rr_,ks_ HO_3.out,bw HB.out⟩
  rw[if_neg c3] at H
  exact absurd H (by simp)
 rw[if_neg c2] at H
 exact absurd H (by simp)

/-! ### laws_toGlobal: function 32 -/
def laws_toGlobal.f (a0_0:Int) (a0_1:Bool) (a0_2:Int):Option (Int × Bool × Int):=some (a0_0,a0_1,a0_2)
theorem laws_toGlobal.calls (a0_0:Int) (a0_1:Bool) (a0_2:Int) (r1:Int) (r2:Bool) (r3:Int) (w:World) (h:laws_toGlobal.f a0_0 a0_1 a0_2=some (r1,r2,r3)):
  Calls Try.prog 32 #[.agg #[.int .i64 a0_0,.bool a0_1,.int .u64 a0_2]] w fun e w'=>e=.returned (.agg #[.int .i64 r1,.bool r2,.int .u64 r3])∧Below w.heap.size w w':=by
 have hu75:=Try.underlying75
 have hu63:=Try.underlying63
 have HB:=A_ (Below.refl w.heap.size w)
 have H:(some (a0_0,a0_1,a0_2))=some (r1,r2,r3):=h
 clear h
 simp only[Option.some.injEq,Prod.mk.injEq] at H
 obtain⟨rfl,rfl,rfl⟩:=H
 go_enter Try.func32,Try.ntmps32
 go_wp2_with (first|((with_reducible refine gd_ 1 rfl ?_);refine bx_ #[.int .i64 a0_0,.bool a0_1,.int .u64 a0_2] 75 ?_;intro gb152 hg w2 hbox hb;have BK152:=A_ hbox;have GW152:=gw_ hg HB;have GE152:=GW152;replace HB:=bs_ HB hb;clear hb hbox hg)|((with_reducible refine gd_ 2 rfl ?_);refine bx_ #[.int .i64 0,.bool false,.int .u64 0] 63 ?_;intro gb153 hg w3 hbox hb;have BK153:=A_ hbox;have GW153:=gw_ hg HB;have GE153:=GW153;obtain⟨NB152_153,NB153_152⟩:=nb_ BK152 hg;replace BK152:=kb_ BK152 hb;replace HB:=bs_ HB hb;clear hb hbox hg)|((with_reducible refine gd_ 3 rfl ?_);refine bx_ #[.int .i64 0,.bool false,.int .u64 0] 63 ?_;intro gb154 hg w4 hbox hb;have BK154:=A_ hbox;have GW154:=gw_ hg HB;have GE154:=GW154;obtain⟨NB152_154,NB154_152⟩:=nb_ BK152 hg;obtain⟨NB153_154,NB154_153⟩:=nb_ BK153 hg;replace BK152:=kb_ BK152 hb;replace BK153:=kb_ BK153 hb;replace HB:=bs_ HB hb;clear hb hbox hg;have hnb5:=NB152_153.out;have hnc5:=NB153_152.out;have hnb6:=NB152_154.out;have hnc6:=NB154_152.out;obtain⟨hcz7_0,hcz7_1,hcz7_2⟩:=cs3_ BK152.out;obtain⟨hfz7_0,hfz7_1,hfz7_2⟩:=fz3_ BK152.out;have hnb8:=NB154_153.out;have hnc8:=NB153_154.out;obtain⟨hcz9_0,hcz9_1,hcz9_2⟩:=cs3_ BK154.out;obtain⟨hfz9_0,hfz9_1,hfz9_2⟩:=fz3_ BK154.out;obtain⟨hcz10_0,hcz10_1,hcz10_2⟩:=cs3_ BK153.out;obtain⟨hfz10_0,hfz10_1,hfz10_2⟩:=fz3_ BK153.out)|((with_reducible refine gate_store (t:=63) (p:=2) rfl ?_);refine store_event (t:=63) (p:=2) (v:=?vo_w11) (w1:=((((((w4.setCell ⟨gb154,0,none⟩ (.int .i64 a0_0)).setCell ⟨gb154,1,none⟩ (.bool a0_1)).setCell ⟨gb154,2,none⟩ (.int .u64 a0_2)).setCell ⟨gb153,0,none⟩ (.int .i64 a0_0)).setCell ⟨gb153,1,none⟩ (.bool a0_1)).setCell ⟨gb153,2,none⟩ (.int .u64 a0_2))) ?hg ?ho ?hn ?hr ?_;(case ho=>rfl);(case hg=>rfl);(case hn=>rfl);(case hr=>first|(go_simp;done)|(go_simp;rfl));intro w11 hw;replace BK152:Aside0 (w11.heap[gb152]? =some (.cells #[.int .i64 a0_0,.bool a0_1,.int .u64 a0_2] 75 (0,0))):=⟨(by rw[hw];exact(by refine blk_far ?_ NB152_153.out _;refine blk_far ?_ NB152_153.out _;refine blk_far ?_ NB152_153.out _;refine blk_far ?_ NB152_154.out _;refine blk_far ?_ NB152_154.out _;refine blk_far ?_ NB152_154.out _;(with_reducible repeat (first|refine blk_drewN ?_ _|refine blk_drew ?_|refine blk_alloc ?_ _));exact BK152.out))⟩;replace BK153:Aside0 (w11.heap[gb153]? =some (.cells #[.int .i64 a0_0,.bool a0_1,.int .u64 a0_2] 63 (0,0))):=⟨(by rw[hw];exact(by refine blk_put (cs:=#[.int .i64 a0_0,.bool a0_1,.int .u64 0]) ?_ 2 _ rfl;refine blk_put (cs:=#[.int .i64 a0_0,.bool false,.int .u64 0]) ?_ 1 _ rfl;refine blk_put (cs:=#[.int .i64 0,.bool false,.int .u64 0]) ?_ 0 _ rfl;refine blk_far ?_ NB153_154.out _;refine blk_far ?_ NB153_154.out _;refine blk_far ?_ NB153_154.out _;(with_reducible repeat (first|refine blk_drewN ?_ _|refine blk_drew ?_|refine blk_alloc ?_ _));exact BK153.out))⟩;replace BK154:Aside0 (w11.heap[gb154]? =some (.cells #[.int .i64 a0_0,.bool a0_1,.int .u64 a0_2] 63 (0,0))):=⟨(by rw[hw];exact(by refine blk_far ?_ NB154_153.out _;refine blk_far ?_ NB154_153.out _;refine blk_far ?_ NB154_153.out _;refine blk_put (cs:=#[.int .i64 a0_0,.bool a0_1,.int .u64 0]) ?_ 2 _ rfl;refine blk_put (cs:=#[.int .i64 a0_0,.bool false,.int .u64 0]) ?_ 1 _ rfl;refine blk_put (cs:=#[.int .i64 0,.bool false,.int .u64 0]) ?_ 0 _ rfl;(with_reducible repeat (first|refine blk_drewN ?_ _|refine blk_drew ?_|refine blk_alloc ?_ _));exact BK154.out))⟩;replace HB:Aside0 (Below w.heap.size w w11):=⟨(by rw[hw];exact(bw HB.out))⟩;clear hw))
 refine bodyPost_ret (results_cell_row rfl _ _ gb153 63 #[.int .i64 a0_0,.bool a0_1,.int .u64 a0_2] (0,0) _ rfl (bk BK153.out) Try.underlying63 rfl (by kernel_rfl)) rfl ?_
 exact⟨rr_,bw HB.out⟩

/-! ### laws_toGlobalS: function 21 -/
def laws_toGlobalS.l0:Nat→List (S75)→List (S63)→Int→Option ((List (S63)))
 |0,_,_,_=>none
 |k+1,x0,x3,x4=>if x4<(x0.length:Int) then (if 0≤x4 then ((laws_toGlobal.f ((rd_T75 x0 x4).f0) ((rd_T75 x0 x4).f1) ((rd_T75 x0 x4).f2)).bind fun bt159=>(if x4<(x3.length:Int) then (laws_toGlobalS.l0 k x0 (x3.set (x4:Int).toNat (⟨bt159.1,bt159.2.1,bt159.2.2⟩:S63)) (wrap64 (x4+1))) else (none))) else (none)) else (some x3)
def laws_toGlobalS.f (k:Nat) (l0:List (S75)):Option ((List (S63))):=if 0≤(l0.length:Int) then (if ((l0.length:Int):Int).toNat≤11728124029610 then (laws_toGlobalS.l0 k l0 (List.replicate ((l0.length:Int):Int).toNat z63) 0) else (none)) else (none)
theorem laws_toGlobalS.calls (k:Nat) (A0:Option Addr) (c0:Nat) (l0:List (S75)) (r:List (S63)) (w:World) (hr0:Kd.C k75 w A0 l0.length l0) (hc0:l0.length≤c0) (h:laws_toGlobalS.f k l0=some r):
  Calls Try.prog 21 #[.slice A0 l0.length c0] w fun e w'=>∃ v0_:Value,e=.returned (v0_)∧Kd.R k63 63 w' w.heap.size (fun _=>True) v0_ r∧Below w.heap.size w w':=by
 have hu75:=Try.underlying75
 have hu63:=Try.underlying63
 have HR0:=A_ hr0
 have HC0:=A_ hc0
 clear hr0 hc0
 have HB:=A_ (Below.refl w.heap.size w)
 have H:(if 0≤(l0.length:Int) then (if ((l0.length:Int):Int).toNat≤11728124029610 then (laws_toGlobalS.l0 k l0 (List.replicate ((l0.length:Int):Int).toNat z63) 0) else (none)) else (none))=some r:=h
 clear h
 by_cases c2:0≤(l0.length:Int)
 ·
  rw[if_pos c2] at H
  have c2b0:=eq_true c2
  have c2b1:=decide_eq_true c2
  clear c2
  by_cases c3:((l0.length:Int):Int).toNat≤11728124029610
  ·
   rw[if_pos c3] at H
   have c3b0:=eq_true c3
   have c3b1:=decide_eq_true c3
   clear c3
   obtain⟨y155,hy155⟩:∃ y_:List (S63),y_=(List.replicate ((l0.length:Int):Int).toNat z63):=⟨_,rfl⟩
   replace H:(laws_toGlobalS.l0 k l0 y155 0)=some r:=by first|(rw[hy155];with_reducible exact H)|(have H2_:=(Option.bind_some _ _).symm.trans H;rw[hy155];with_reducible exact H2_)|(have H2_:=(Option.bind_some _ _).symm.trans H;with_reducible exact H2_)|with_reducible exact H|(rw[hy155];exact H)|exact H
   have Ny155:=A_ hy155
   clear hy155
   have H':=A_ H
   clear H
   go_enter Try.func21,Try.ntmps21
   go_wp2_with (first|((with_reducible refine gd_ 7 rfl ?_);refine Kd.R_make k63 _ 63 rfl (N:=7) rfl 30 _ _ rfl (l0.length:Int) rfl rfl Try.underlying30 (.agg #[(.int .i64 0),(.bool false),(.int .u64 0)]) 24 info63 rfl (by decide) (by omega) z63 (ok:=fun _=>True) (okp:=fun _=>True) (k63_mkM _ _ _ z63) (fun _ hk=>hk) trivial (od_) (Nat.le_trans (Nat.mul_le_mul_right _ (od_:(l0.length:Int).toNat≤11728124029610)) (by omega)) (Below.refl _ _) (Nat.le_refl _) ?_;intro v156 w4 ho5 hb hg_ hnew_;clear hg_ hnew_;(first|rw[←Ny155.out] at ho5|(simp only[Int.reduceToNat] at ho5;rw[←Ny155.out] at ho5));have HO157:=A_ (Kd.R_lower ho5 (below_size (bw HB.out)));replace HB:=bs_ HB hb;clear hb ho5))
   (try simp only[Act.put,List.setIfInBounds_toArray,List.set_cons_zero,List.set_cons_succ])
   go_loopg [4] k (fun kq v4 w'=>∃ (x3_1:List (S63)) (x4_1:Int),v4=.int .i64 x4_1∧Aside0 (laws_toGlobalS.l0 kq l0 x3_1 x4_1=some r)∧Aside0 (kq≤k)∧Aside0 (Kd.R k63 63 w' w.heap.size (fun _=>True) v156 x3_1)∧Aside0 (Below w.heap.size w w'))
   case atStart=>exact⟨(y155),(0),rs_,H',⟨Nat.le_refl _⟩,⟨kr_ HO157.out⟩,⟨bw HB.out⟩⟩
   case round=>
    clear H'
    try clear c2 c2b0 c2b1 c3 c3b0 c3b1
    obtain⟨x3_1,x4_1,rfl,HA,HK1,HO_3,HB⟩:=hrel
    cases gk with
    |zero=>exact absurd HA.out (by simp[laws_toGlobalS.l0])
    |succ k1=>
     have H:=HA.out
     clear HA
     simp only[laws_toGlobalS.l0] at H
     by_cases c6:x4_1<(l0.length:Int)
     ·
      rw[if_pos c6] at H
      have c6b0:=decide_eq_true c6
      clear c6
      by_cases c7:0≤x4_1
      ·
       rw[if_pos c7] at H
       have c7b0:=decide_eq_true c7
       clear c7
       replace H:=Option.bind_eq_some_iff.mp H
       obtain⟨⟨t159,t160,t161⟩,A80,H⟩:=H
       replace H:(if x4_1<(x3_1.length:Int) then (laws_toGlobalS.l0 k1 l0 (x3_1.set (x4_1:Int).toNat (⟨t159,t160,t161⟩:S63)) (wrap64 (x4_1+1))) else (none))=some r:=H
       have A8:=A_ A80
       clear A80
       by_cases c9:x4_1<(x3_1.length:Int)
       ·
        rw[if_pos c9] at H
        have c9b0:=decide_eq_true c9
        clear c9
        obtain⟨y162,hy162⟩:∃ y_:List (S63),y_=(x3_1.set (x4_1:Int).toNat (⟨t159,t160,t161⟩:S63)):=⟨_,rfl⟩
        replace H:(laws_toGlobalS.l0 k1 l0 y162 (wrap64 (x4_1+1)))=some r:=by first|(rw[hy162];with_reducible exact H)|(have H2_:=(Option.bind_some _ _).symm.trans H;rw[hy162];with_reducible exact H2_)|(have H2_:=(Option.bind_some _ _).symm.trans H;with_reducible exact H2_)|with_reducible exact H|(rw[hy162];exact H)|exact H
        have Ny162:=A_ hy162
        clear hy162
        have H':=A_ H
        clear H
        have p158:0≤(x4_1:Int):=od_
        have q158:x4_1<(l0.length:Int):=od_
        obtain⟨ad158,e158,hx158_0,hx158_1,hx158_2⟩:=at_T75 HR0.out x4_1 p158 q158
        cases e158
        replace hx158_0:=cl_ HB.out hx158_0
        replace hx158_1:=cl_ HB.out hx158_1
        replace hx158_2:=cl_ HB.out hx158_2
        replace p158:=eq_true p158
        replace q158:=eq_true q158
        go_wp2_with (first|((with_reducible refine gc_ 32 rfl ?_);refine gm_ (some 20) Try.func32 (laws_toGlobal.calls ((rd_T75 l0 x4_1).f0) ((rd_T75 l0 x4_1).f1) ((rd_T75 l0 x4_1).f2) t159 t160 t161 _ A8.out) ?_;intro w11 hb;replace HO_3:=A_ (Kd.R_below (kr_ HO_3.out) hb);replace HB:=bs_ HB hb;(try clear hb);have p10:0≤(x4_1:Int):=od_;have q10:(x4_1:Int)<((x3_1.length:Int):Int):=od_;obtain⟨go10,co10,eo10,gb10,gl10,cl10,HG10⟩:=Kd.R_form HO_3.out (by omega);(first|cases eo10|(injection eo10 with ea_ en_ ec_;(first|subst ea_|(injection ea_ with ea_;subst ea_));subst ec_;clear en_));have GB10:=A_ gb10;have GG10:=A_ HG10;clear gb10 gl10 HG10;obtain⟨ce10,hcl10,hM10,hcc10,hfr10⟩:=Kd.R_elem HO_3.out z63 (x4_1:Int) p10 q10;obtain rfl:=k63_openM hM10;have hx10_0:w11.cell? ⟨go10,(x4_1:Int).toNat*3,none⟩=some (.int .i64 ((rd_T63 x3_1 x4_1).f0)):=hcc10 0 _ rfl;have hx10_1:w11.cell? ⟨go10,(x4_1:Int).toNat*3+1,none⟩=some (.bool ((rd_T63 x3_1 x4_1).f1)):=hcc10 1 _ rfl;have hx10_2:w11.cell? ⟨go10,(x4_1:Int).toNat*3+2,none⟩=some (.int .u64 ((rd_T63 x3_1 x4_1).f2)):=hcc10 2 _ rfl;have hf10_0:w11.frozen? ⟨go10,(x4_1:Int).toNat*3,none⟩=false:=hfr10 0;have hf10_1:w11.frozen? ⟨go10,(x4_1:Int).toNat*3+1,none⟩=false:=hfr10 1;have hf10_2:w11.frozen? ⟨go10,(x4_1:Int).toNat*3+2,none⟩=false:=hfr10 2;clear hcl10 hcc10 hfr10 hM10;replace p10:=eq_true p10;replace q10:=eq_true q10;have HX12:=A_ (show Kd.R k63 63 w11 w.heap.size (fun _=>True) (.slice (some ⟨go10,0,none⟩) x3_1.length co10) x3_1 from(kr_ HO_3.out));obtain⟨ce12,hcl12,hM12,hcc12,hfr12⟩:=Kd.R_elem HX12.out z63 (x4_1:Int) (od_) (by have h_:(x4_1:Int)<((x3_1.length:Int):Int):=od_;first|exact h_|(have e_:=(Kd.R_reads' HO_3.out).1;omega)|simpa using h_);obtain rfl:=k63_openM hM12;have HP12:=Kd.R_seg HX12.out (x4_1:Int) (od_) (by have h_:(x4_1:Int)<((x3_1.length:Int):Int):=od_;first|exact h_|(have e_:=(Kd.R_reads' HO_3.out).1;omega)|simpa using h_) (seg:=[.int .i64 t159,.bool t160,.int .u64 t161]) (j:=0) hcl12 hcc12 (show 3≤3 from by decide) (x':=(⟨t159,t160,t161⟩:S63)) (k63_mkM _ _ _ (⟨t159,t160,t161⟩:S63)) (fun _ hk=>hk);have hx12_0:=hcc12 0 _ rfl;(try simp only[show (k63).sz=3 from rfl,Nat.mul_one,Nat.add_zero] at hx12_0);have hf12_0:=hfr12 0;(try simp only[show (k63).sz=3 from rfl,Nat.mul_one,Nat.add_zero] at hf12_0);have hx12_1:=hcc12 1 _ rfl;(try simp only[show (k63).sz=3 from rfl,Nat.mul_one,Nat.add_zero] at hx12_1);have hf12_1:=hfr12 1;(try simp only[show (k63).sz=3 from rfl,Nat.mul_one,Nat.add_zero] at hf12_1);have hx12_2:=hcc12 2 _ rfl;(try simp only[show (k63).sz=3 from rfl,Nat.mul_one,Nat.add_zero] at hx12_2);have hf12_2:=hfr12 2;(try simp only[show (k63).sz=3 from rfl,Nat.mul_one,Nat.add_zero] at hf12_2);clear hcl12 hcc12 hfr12 hM12)|((with_reducible refine gate_store (t:=63) (p:=21) rfl ?_);refine store_event (t:=63) (p:=21) (v:=?vo_w13) (w1:=(((w11.setCell ⟨go10,(x4_1:Int).toNat*3,none⟩ (.int .i64 t159)).setCell ⟨go10,(x4_1:Int).toNat*3+1,none⟩ (.bool t160)).setCell ⟨go10,(x4_1:Int).toNat*3+2,none⟩ (.int .u64 t161))) ?hg ?ho ?hn ?hr ?_;(case ho=>rfl);(case hg=>rfl);(case hn=>rfl);(case hr=>first|(go_simp;done)|(go_simp;rfl));intro w13 hw;have hg:w11.grownBy w13 (some go10):=(by rw[hw];exact HP12.2);have hp_:Kd.R k63 63 w13 w.heap.size (fun _=>True) (.slice (some ⟨go10,0,none⟩) x3_1.length co10) y162:=(by rw[hw,Ny162.out];exact HP12.1);clear HP12;replace HO_3:=A_ (hp_);replace HB:=A_ ((by rw[hw];exact below_set (below_set (below_set (HB.out) GB10.out) GB10.out) GB10.out:Below w.heap.size w w13));clear hg hw hp_))
        go_roundg k1
        case measure=>have:=HK1.out;omega
        case rel=>exact⟨(y162),(wrap64 (x4_1+1)),rs_,H',⟨by have:=HK1.out;omega⟩,⟨kr_ HO_3.out⟩,⟨bw HB.out⟩⟩
       rw[if_neg c9] at H
       exact absurd H (by simp)
      rw[if_neg c7] at H
      exact absurd H (by simp)
     rw[if_neg c6] at H
     have c6b0:=decide_eq_false c6
     clear c6
     obtain rfl:=Option.some.inj H
     clear H
     go_wp2
     go_ret
     exact⟨_,rr_,kr_ HO_3.out,bw HB.out⟩
  rw[if_neg c3] at H
  exact absurd H (by simp)
 rw[if_neg c2] at H
 exact absurd H (by simp)

end Go.Proofs.Ytghogonibanieaa.Q

