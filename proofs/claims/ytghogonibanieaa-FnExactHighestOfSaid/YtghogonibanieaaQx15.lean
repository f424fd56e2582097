-- Written by a program of this session; it walks the functions that the law reaches.
import Derived.Test.YtghogonibanieaaQx0
import Derived.Test.YtghogonibanieaaQx1
import Derived.Test.YtghogonibanieaaQx2
import Derived.Test.YtghogonibanieaaQx3
import Derived.Test.YtghogonibanieaaQx9
import Derived.Test.YtghogonibanieaaQx14
namespace Go.Proofs.Ytghogonibanieaa.Q
open Go.RowKit Go.Proofs.YtghogonibanieaaW.PrintWords Go.Proofs.YtghogonibanieaaW.PrintLast Go.Proofs.YtghogonibanieaaW.PrintMore
attribute [local go_sem] max2_int min2_int max_two min_two max_three min_three max_four min_four   -- for this text's walks alone
set_option linter.unusedVariables false
set_option linter.unusedSimpArgs false

/-! ### laws_FnExactHighestOf: function 4 -/
def laws_FnExactHighestOf.j0:Nat→Bool→List (S56)→List (S75)→Bool→Int→Int→Int→List (S59)→List (S63)→Bool→Int→Int→Int→Option (Bool)
 |0,_,_,_,_,_,_,_,_,_,_,_,_,_=>none
 |k+1,x38,x383000,x383001,x383002,x383003,x383004,x383005,x407000,x407001,x407002,x407003,x407004,x407005=>if x38=true then (some false) else ((laws_toModule.f k x383000 x383001 x383002 x383003 x383004 x383005).bind fun bt409=>((laws_eqModule.f k x407000 x407001 x407002 x407003 x407004 x407005 bt409.1 bt409.2.1 bt409.2.2.1 bt409.2.2.2.1 bt409.2.2.2.2.1 bt409.2.2.2.2.2).bind fun t419=>(if t419=true then (some true) else (some false))))
def laws_FnExactHighestOf.f (k:Nat) (l0_0:List (S56)) (l0_1:List (S75)) (a0_2:Bool) (a0_3:Int) (a0_4:Int) (a0_5:Int) (a1:Int):Option (Bool):=(laws_szModule.f k l0_0 l0_1 a0_2 a0_3 a0_4 a0_5 1048576).bind fun t383=>(if t383<0 then (some true) else ((laws_toModule.f k l0_0 l0_1 a0_2 a0_3 a0_4 a0_5).bind fun bt384=>((spec_HighestOf.f k bt384.1 bt384.2.1 bt384.2.2.1 bt384.2.2.2.1 bt384.2.2.2.2.1 bt384.2.2.2.2.2 a1).bind fun bt394=>((laws_toModule.f k l0_0 l0_1 a0_2 a0_3 a0_4 a0_5).bind fun bt396=>((impl_HighestOf.f k bt396.1 bt396.2.1 bt396.2.2.1 bt396.2.2.2.1 bt396.2.2.2.2.1 bt396.2.2.2.2.2 a1).bind fun bt407=>(if bt407.1=bt394.1 then (laws_FnExactHighestOf.j0 k (bt407.2 !=bt394.2) l0_0 l0_1 a0_2 a0_3 a0_4 a0_5 bt396.1 bt396.2.1 bt396.2.2.1 bt396.2.2.2.1 bt396.2.2.2.2.1 bt396.2.2.2.2.2) else (laws_FnExactHighestOf.j0 k true l0_0 l0_1 a0_2 a0_3 a0_4 a0_5 bt396.1 bt396.2.1 bt396.2.2.1 bt396.2.2.2.1 bt396.2.2.2.2.1 bt396.2.2.2.2.2)))))))
set_option maxHeartbeats 8000000 in
set_option maxRecDepth 100000 in
theorem laws_FnExactHighestOf.calls (k:Nat) (A0_0:Option Addr) (c0_0:Nat) (l0_0:List (S56)) (A0_1:Option Addr) (c0_1:Nat) (l0_1:List (S75)) (a0_2:Bool) (a0_3:Int) (a0_4:Int) (a0_5:Int) (a1:Int) (r:Bool) (w:World) (hr0_0:Kd.C k56 w A0_0 l0_0.length l0_0) (hc0_0:l0_0.length≤c0_0) (hr0_1:Kd.C k75 w A0_1 l0_1.length l0_1) (hc0_1:l0_1.length≤c0_1) (hTrue:r=true) (h:laws_FnExactHighestOf.f k l0_0 l0_1 a0_2 a0_3 a0_4 a0_5 a1=some r):
  Calls Try.prog 4 #[.agg #[.slice A0_0 l0_0.length c0_0,.slice A0_1 l0_1.length c0_1,.bool a0_2,.int .i64 a0_3,.int .i64 a0_4,.int .i64 a0_5],.int .i64 a1] w fun e w'=>e=.returned (.bool r)∧Below w.heap.size w w':=by
 have hu25:=Try.underlying25
 have hu32:=Try.underlying32
 have HR0_0:=A_ hr0_0
 have HC0_0:=A_ hc0_0
 clear hr0_0 hc0_0
 have HR0_1:=A_ hr0_1
 have HC0_1:=A_ hc0_1
 clear hr0_1 hc0_1
 have HB:=A_ (Below.refl w.heap.size w)
 have H:((laws_szModule.f k l0_0 l0_1 a0_2 a0_3 a0_4 a0_5 1048576).bind fun t383=>(if t383<0 then (some true) else ((laws_toModule.f k l0_0 l0_1 a0_2 a0_3 a0_4 a0_5).bind fun bt384=>((spec_HighestOf.f k bt384.1 bt384.2.1 bt384.2.2.1 bt384.2.2.2.1 bt384.2.2.2.2.1 bt384.2.2.2.2.2 a1).bind fun bt394=>((laws_toModule.f k l0_0 l0_1 a0_2 a0_3 a0_4 a0_5).bind fun bt396=>((impl_HighestOf.f k bt396.1 bt396.2.1 bt396.2.2.1 bt396.2.2.2.1 bt396.2.2.2.2.1 bt396.2.2.2.2.2 a1).bind fun bt407=>(if bt407.1=bt394.1 then (laws_FnExactHighestOf.j0 k (bt407.2 !=bt394.2) l0_0 l0_1 a0_2 a0_3 a0_4 a0_5 bt396.1 bt396.2.1 bt396.2.2.1 bt396.2.2.2.1 bt396.2.2.2.2.1 bt396.2.2.2.2.2) else (laws_FnExactHighestOf.j0 k true l0_0 l0_1 a0_2 a0_3 a0_4 a0_5 bt396.1 bt396.2.1 bt396.2.2.1 bt396.2.2.2.1 bt396.2.2.2.2.1 bt396.2.2.2.2.2))))))))=some r:=h
 clear h
 have HT:=A_ hTrue
 clear hTrue
 replace H:=bi_ H
 obtain⟨t383,A30,H⟩:=H
 have A3:=A_ A30
 clear A30
 by_cases c4:t383<0
 ·
  rw[if_pos c4] at H
  have c4b0:=decide_eq_true c4
  clear c4
  obtain rfl:=Option.some.inj H
  clear H
  go_enter Try.func4,Try.ntmps4
  go_wp2_with (first|((with_reducible refine gd_ 2 rfl ?_);refine bx_ #[.slice A0_0 l0_0.length c0_0,.slice A0_1 l0_1.length c0_1,.bool a0_2,.int .i64 a0_3,.int .i64 a0_4,.int .i64 a0_5] 25 ?_;intro gb382 hg w5 hbox hb;have BK382:=A_ hbox;have GW382:=gw_ hg HB;have GE382:=GW382;replace HB:=bs_ HB hb;clear hb hbox hg;obtain⟨hcz6_0,hcz6_1,hcz6_2,hcz6_3,hcz6_4,hcz6_5⟩:=cs6_ BK382.out;obtain⟨hfz6_0,hfz6_1,hfz6_2,hfz6_3,hfz6_4,hfz6_5⟩:=fz6_ BK382.out)|((with_reducible refine gc_ 6 rfl ?_);refine gm_ (some 13) Try.func6 (laws_szModule.calls k _ _ l0_0 _ _ l0_1 a0_2 a0_3 a0_4 a0_5 1048576 t383 _ (cb_ HR0_0 HB) HC0_0.out (cb_ HR0_1 HB) HC0_1.out A3.out) ?_;intro w7 hb;replace BK382:=kb_ BK382 hb;replace HB:=bs_ HB hb;(try clear hb)))
  go_ret
  exact⟨rr_,bw HB.out⟩
 rw[if_neg c4] at H
 have c4b0:=decide_eq_false c4
 clear c4
 replace H:=Option.bind_eq_some_iff.mp H
 obtain⟨⟨t384,t387,t390,t391,t392,t393⟩,A80,H⟩:=H
 replace H:((spec_HighestOf.f k t384 t387 t390 t391 t392 t393 a1).bind fun bt394=>((laws_toModule.f k l0_0 l0_1 a0_2 a0_3 a0_4 a0_5).bind fun bt396=>((impl_HighestOf.f k bt396.1 bt396.2.1 bt396.2.2.1 bt396.2.2.2.1 bt396.2.2.2.2.1 bt396.2.2.2.2.2 a1).bind fun bt407=>(if bt407.1=bt394.1 then (laws_FnExactHighestOf.j0 k (bt407.2 !=bt394.2) l0_0 l0_1 a0_2 a0_3 a0_4 a0_5 bt396.1 bt396.2.1 bt396.2.2.1 bt396.2.2.2.1 bt396.2.2.2.2.1 bt396.2.2.2.2.2) else (laws_FnExactHighestOf.j0 k true l0_0 l0_1 a0_2 a0_3 a0_4 a0_5 bt396.1 bt396.2.1 bt396.2.2.1 bt396.2.2.2.1 bt396.2.2.2.2.1 bt396.2.2.2.2.2)))))=some r:=H
 have A8:=A_ A80
 clear A80
 replace H:=Option.bind_eq_some_iff.mp H
 obtain⟨⟨t394,t395⟩,A90,H⟩:=H
 replace H:((laws_toModule.f k l0_0 l0_1 a0_2 a0_3 a0_4 a0_5).bind fun bt396=>((impl_HighestOf.f k bt396.1 bt396.2.1 bt396.2.2.1 bt396.2.2.2.1 bt396.2.2.2.2.1 bt396.2.2.2.2.2 a1).bind fun bt407=>(if bt407.1=t394 then (laws_FnExactHighestOf.j0 k (bt407.2 !=t395) l0_0 l0_1 a0_2 a0_3 a0_4 a0_5 bt396.1 bt396.2.1 bt396.2.2.1 bt396.2.2.2.1 bt396.2.2.2.2.1 bt396.2.2.2.2.2) else (laws_FnExactHighestOf.j0 k true l0_0 l0_1 a0_2 a0_3 a0_4 a0_5 bt396.1 bt396.2.1 bt396.2.2.1 bt396.2.2.2.1 bt396.2.2.2.2.1 bt396.2.2.2.2.2))))=some r:=H
 have A9:=A_ A90
 clear A90
 replace H:=Option.bind_eq_some_iff.mp H
 obtain⟨⟨t396,t399,t402,t403,t404,t405⟩,A100,H⟩:=H
 replace H:((impl_HighestOf.f k t396 t399 t402 t403 t404 t405 a1).bind fun bt407=>(if bt407.1=t394 then (laws_FnExactHighestOf.j0 k (bt407.2 !=t395) l0_0 l0_1 a0_2 a0_3 a0_4 a0_5 t396 t399 t402 t403 t404 t405) else (laws_FnExactHighestOf.j0 k true l0_0 l0_1 a0_2 a0_3 a0_4 a0_5 t396 t399 t402 t403 t404 t405)))=some r:=H
 have A10:=A_ A100
 clear A100
 replace H:=Option.bind_eq_some_iff.mp H
 obtain⟨⟨t407,t408⟩,A110,H⟩:=H
 replace H:(if t407=t394 then (laws_FnExactHighestOf.j0 k (t408 !=t395) l0_0 l0_1 a0_2 a0_3 a0_4 a0_5 t396 t399 t402 t403 t404 t405) else (laws_FnExactHighestOf.j0 k true l0_0 l0_1 a0_2 a0_3 a0_4 a0_5 t396 t399 t402 t403 t404 t405))=some r:=H
 have A11:=A_ A110
 clear A110
 have HC12:=A_ H
 clear H
 go_enter Try.func4,Try.ntmps4
 go_upto_region 8 with (first|((with_reducible refine gd_ 2 rfl ?_);refine bx_ #[.slice A0_0 l0_0.length c0_0,.slice A0_1 l0_1.length c0_1,.bool a0_2,.int .i64 a0_3,.int .i64 a0_4,.int .i64 a0_5] 25 ?_;intro gb382 hg w13 hbox hb;have BK382:=A_ hbox;have GW382:=gw_ hg HB;have GE382:=GW382;replace HB:=bs_ HB hb;clear hb hbox hg;obtain⟨hcz14_0,hcz14_1,hcz14_2,hcz14_3,hcz14_4,hcz14_5⟩:=cs6_ BK382.out;obtain⟨hfz14_0,hfz14_1,hfz14_2,hfz14_3,hfz14_4,hfz14_5⟩:=fz6_ BK382.out)|((with_reducible refine gc_ 6 rfl ?_);refine gm_ (some 13) Try.func6 (laws_szModule.calls k _ _ l0_0 _ _ l0_1 a0_2 a0_3 a0_4 a0_5 1048576 t383 _ (cb_ HR0_0 HB) HC0_0.out (cb_ HR0_1 HB) HC0_1.out A3.out) ?_;intro w15 hb;replace BK382:=kb_ BK382 hb;replace HB:=bs_ HB hb;(try clear hb);obtain⟨hcz16_0,hcz16_1,hcz16_2,hcz16_3,hcz16_4,hcz16_5⟩:=cs6_ BK382.out;obtain⟨hfz16_0,hfz16_1,hfz16_2,hfz16_3,hfz16_4,hfz16_5⟩:=fz6_ BK382.out)|((with_reducible refine gc_ 8 rfl ?_);refine goesL_ (some 18) rfl rfl Try.func8 (by kernel_rfl) rfl #[.agg #[.slice A0_0 l0_0.length c0_0,.slice A0_1 l0_1.length c0_1,.bool a0_2,.int .i64 a0_3,.int .i64 a0_4,.int .i64 a0_5]] rfl ar ?_;(with_reducible refine(laws_toModule.calls k _ _ l0_0 _ _ l0_1 a0_2 a0_3 a0_4 a0_5 t384 t387 t390 t391 t392 t393 _ ?side1 ?side2 ?side3 ?side4 A8.out).mono ?_);(case side1=>exact cb_ HR0_0 HB);(case side2=>exact HC0_0.out);(case side3=>exact cb_ HR0_1 HB);(case side4=>exact HC0_1.out);rintro e w17 ⟨v385,v388,rfl,ho0,ho1,hb⟩;refine⟨_,rfl,?_⟩;have HO386:=A_ (Kd.S_lower ho0 (below_size (bw HB.out)));have HO389:=A_ (Kd.R_lower ho1 (below_size (bw HB.out)));replace BK382:=kb_ BK382 hb;replace HB:=bs_ HB hb;(try clear hb);(try clear hb2);(try clear hk);(try clear hi);(try clear ho0);(try clear ho1);obtain⟨Ao18,co18,eo18⟩:=Kd.S_slice HO386.out;subst eo18;obtain⟨Ao19,co19,eo19⟩:=Kd.R_slice HO389.out;subst eo19)|((with_reducible refine gc_ 11 rfl ?_);refine goesL_ (some 20) rfl rfl Try.func11 (by kernel_rfl) rfl #[.agg #[.slice Ao18 t384.length co18,.slice Ao19 t387.length co19,.bool t390,.int .i64 t391,.int .i64 t392,.int .i64 t393],.int .i64 a1] rfl ar ?_;(with_reducible refine(spec_HighestOf.calls k _ _ t384 _ _ t387 t390 t391 t392 t393 a1 t394 t395 _ ?side1 ?side2 ?side3 ?side4 A9.out).mono ?_);(case side1=>repeat (first|exact(Kd.S_reads' HO386.out).2.2|(with_reducible refine Kd.C_alloc ?_ _)|(with_reducible refine Kd.C_drewN ?_ _)|(with_reducible refine Kd.C_drew ?_)));(case side2=>exact(Kd.S_reads' HO386.out).2.1);(case side3=>repeat (first|exact(Kd.R_reads' HO389.out).2.2|(with_reducible refine Kd.C_alloc ?_ _)|(with_reducible refine Kd.C_drewN ?_ _)|(with_reducible refine Kd.C_drew ?_)));(case side4=>exact(Kd.R_reads' HO389.out).2.1);rintro e w20 ⟨rfl,hb⟩;refine⟨_,rfl,?_⟩;replace HO386:=A_ (Kd.S_below (ks_ HO386.out) hb);replace HO389:=A_ (Kd.R_below (kr_ HO389.out) hb);replace BK382:=kb_ BK382 hb;replace HB:=bs_ HB hb;(try clear hb);obtain⟨hcz21_0,hcz21_1,hcz21_2,hcz21_3,hcz21_4,hcz21_5⟩:=cs6_ BK382.out;obtain⟨hfz21_0,hfz21_1,hfz21_2,hfz21_3,hfz21_4,hfz21_5⟩:=fz6_ BK382.out)|((with_reducible refine gc_ 8 rfl ?_);refine goesL_ (some 24) rfl rfl Try.func8 (by kernel_rfl) rfl #[.agg #[.slice A0_0 l0_0.length c0_0,.slice A0_1 l0_1.length c0_1,.bool a0_2,.int .i64 a0_3,.int .i64 a0_4,.int .i64 a0_5]] rfl ar ?_;(with_reducible refine(laws_toModule.calls k _ _ l0_0 _ _ l0_1 a0_2 a0_3 a0_4 a0_5 t396 t399 t402 t403 t404 t405 _ ?side1 ?side2 ?side3 ?side4 A10.out).mono ?_);(case side1=>exact cb_ HR0_0 HB);(case side2=>exact HC0_0.out);(case side3=>exact cb_ HR0_1 HB);(case side4=>exact HC0_1.out);rintro e w22 ⟨v397,v400,rfl,ho0,ho1,hb⟩;refine⟨_,rfl,?_⟩;have HO398:=A_ (Kd.S_lower (Kd.S_new' ho0 (Kd.S_lt (ks_ HO386.out))) (below_size (bw HB.out)));have HO401:=A_ (Kd.R_lower (Kd.R_new' ho1 (Kd.R_lt (kr_ HO389.out))) (below_size (bw HB.out)));replace HO386:=A_ (Kd.S_elder' (ks_ HO386.out) (Kd.S_base ho0) hb);replace HO389:=A_ (Kd.R_elder' (kr_ HO389.out) (Kd.R_base ho1) hb);replace BK382:=kb_ BK382 hb;replace HB:=bs_ HB hb;(try clear hb);(try clear hb2);(try clear hk);(try clear hi);(try clear ho0);(try clear ho1))|((with_reducible refine gd_ 8 rfl ?_);refine bx_ #[.slice none 0 0,.slice none 0 0,.bool false,.int .i64 0,.int .i64 0,.int .i64 0] 32 ?_;intro gb406 hg w23 hbox hb;have BK406:=A_ hbox;have GW406:=gw_ hg HB;have GE406:=GW406;obtain⟨NB382_406,NB406_382⟩:=nb_ BK382 hg;replace HO386:=A_ (Kd.S_below (ks_ HO386.out) hb);replace HO389:=A_ (Kd.R_below (kr_ HO389.out) hb);replace HO398:=A_ (Kd.S_below (ks_ HO398.out) hb);replace HO401:=A_ (Kd.R_below (kr_ HO401.out) hb);replace BK382:=kb_ BK382 hb;replace HB:=bs_ HB hb;clear hb hbox hg;obtain⟨Ao24,co24,eo24⟩:=Kd.S_slice HO398.out;subst eo24;have hnb25:=NB406_382.out;have hnc25:=NB382_406.out;obtain⟨hcz26_0,hcz26_1,hcz26_2,hcz26_3,hcz26_4,hcz26_5⟩:=cs6_ BK406.out;obtain⟨hfz26_0,hfz26_1,hfz26_2,hfz26_3,hfz26_4,hfz26_5⟩:=fz6_ BK406.out;obtain⟨Ao27,co27,eo27⟩:=Kd.R_slice HO401.out;subst eo27)|((with_reducible refine gate_store (t:=32) (p:=8) rfl ?_);refine store_event (t:=32) (p:=8) (v:=?vo_w28) (w1:=((((((w23.setCell ⟨gb406,0,none⟩ (.slice Ao24 t396.length co24)).setCell ⟨gb406,1,none⟩ (.slice Ao27 t399.length co27)).setCell ⟨gb406,2,none⟩ (.bool t402)).setCell ⟨gb406,3,none⟩ (.int .i64 t403)).setCell ⟨gb406,4,none⟩ (.int .i64 t404)).setCell ⟨gb406,5,none⟩ (.int .i64 t405))) ?hg ?ho ?hn ?hr ?_;(case ho=>rfl);(case hg=>rfl);(case hn=>rfl);(case hr=>first|(go_simp;done)|(go_simp;rfl));intro w28 hw;replace HO386:Aside0 (Kd.S k59 59 w28 w.heap.size (fun k_=>some k_≠(.slice Ao24 t396.length co24:Value).ownBlock) (.slice Ao18 t384.length co18) t384):=⟨(by rw[hw];exact(by(with_reducible repeat (first|apply Kd.S_alloc|apply Kd.S_drewN|apply Kd.S_drew));exact Kd.S_mono (Kd.S_far (p:=⟨gb406,5,none⟩) (Kd.S_far (p:=⟨gb406,4,none⟩) (Kd.S_far (p:=⟨gb406,3,none⟩) (Kd.S_far (p:=⟨gb406,2,none⟩) (Kd.S_far (p:=⟨gb406,1,none⟩) (Kd.S_far (p:=⟨gb406,0,none⟩) (Kd.S_types HO386.out BK406.out (by decide)) (fun _ hk=>hk.2) (.slice Ao24 t396.length co24)) (fun _ hk=>hk.2) (.slice Ao27 t399.length co27)) (fun _ hk=>hk.2) (.bool t402)) (fun _ hk=>hk.2) (.int .i64 t403)) (fun _ hk=>hk.2) (.int .i64 t404)) (fun _ hk=>hk.2) (.int .i64 t405)) (fun _ hk=>hk.1.2)))⟩;replace HO389:Aside0 (Kd.R k63 63 w28 w.heap.size (fun k_=>some k_≠(.slice Ao27 t399.length co27:Value).ownBlock) (.slice Ao19 t387.length co19) t387):=⟨(by rw[hw];exact(by(with_reducible repeat (first|apply Kd.R_alloc|apply Kd.R_drewN|apply Kd.R_drew));exact Kd.R_mono (Kd.R_far (p:=⟨gb406,5,none⟩) (Kd.R_far (p:=⟨gb406,4,none⟩) (Kd.R_far (p:=⟨gb406,3,none⟩) (Kd.R_far (p:=⟨gb406,2,none⟩) (Kd.R_far (p:=⟨gb406,1,none⟩) (Kd.R_far (p:=⟨gb406,0,none⟩) (Kd.R_types HO389.out BK406.out (by decide)) (fun _ hk=>hk.2) (.slice Ao24 t396.length co24)) (fun _ hk=>hk.2) (.slice Ao27 t399.length co27)) (fun _ hk=>hk.2) (.bool t402)) (fun _ hk=>hk.2) (.int .i64 t403)) (fun _ hk=>hk.2) (.int .i64 t404)) (fun _ hk=>hk.2) (.int .i64 t405)) (fun _ hk=>hk.1.2)))⟩;replace HO398:Aside0 (Kd.S k59 59 w28 w.heap.size (fun k_=>some k_≠(.slice Ao18 t384.length co18:Value).ownBlock) (.slice Ao24 t396.length co24) t396):=⟨(by rw[hw];exact(by(with_reducible repeat (first|apply Kd.S_alloc|apply Kd.S_drewN|apply Kd.S_drew));exact Kd.S_mono (Kd.S_far (p:=⟨gb406,5,none⟩) (Kd.S_far (p:=⟨gb406,4,none⟩) (Kd.S_far (p:=⟨gb406,3,none⟩) (Kd.S_far (p:=⟨gb406,2,none⟩) (Kd.S_far (p:=⟨gb406,1,none⟩) (Kd.S_far (p:=⟨gb406,0,none⟩) (Kd.S_types HO398.out BK406.out (by decide)) (fun _ hk=>hk.2) (.slice Ao24 t396.length co24)) (fun _ hk=>hk.2) (.slice Ao27 t399.length co27)) (fun _ hk=>hk.2) (.bool t402)) (fun _ hk=>hk.2) (.int .i64 t403)) (fun _ hk=>hk.2) (.int .i64 t404)) (fun _ hk=>hk.2) (.int .i64 t405)) (fun _ hk=>hk.1.2)))⟩;replace HO401:Aside0 (Kd.R k63 63 w28 w.heap.size (fun k_=>some k_≠(.slice Ao19 t387.length co19:Value).ownBlock) (.slice Ao27 t399.length co27) t399):=⟨(by rw[hw];exact(by(with_reducible repeat (first|apply Kd.R_alloc|apply Kd.R_drewN|apply Kd.R_drew));exact Kd.R_mono (Kd.R_far (p:=⟨gb406,5,none⟩) (Kd.R_far (p:=⟨gb406,4,none⟩) (Kd.R_far (p:=⟨gb406,3,none⟩) (Kd.R_far (p:=⟨gb406,2,none⟩) (Kd.R_far (p:=⟨gb406,1,none⟩) (Kd.R_far (p:=⟨gb406,0,none⟩) (Kd.R_types HO401.out BK406.out (by decide)) (fun _ hk=>hk.2) (.slice Ao24 t396.length co24)) (fun _ hk=>hk.2) (.slice Ao27 t399.length co27)) (fun _ hk=>hk.2) (.bool t402)) (fun _ hk=>hk.2) (.int .i64 t403)) (fun _ hk=>hk.2) (.int .i64 t404)) (fun _ hk=>hk.2) (.int .i64 t405)) (fun _ hk=>hk.1.2)))⟩;replace BK382:Aside0 (w28.heap[gb382]? =some (.cells #[.slice A0_0 l0_0.length c0_0,.slice A0_1 l0_1.length c0_1,.bool a0_2,.int .i64 a0_3,.int .i64 a0_4,.int .i64 a0_5] 25 (0,0))):=⟨(by rw[hw];exact(by refine blk_far ?_ NB382_406.out _;refine blk_far ?_ NB382_406.out _;refine blk_far ?_ NB382_406.out _;refine blk_far ?_ NB382_406.out _;refine blk_far ?_ NB382_406.out _;refine blk_far ?_ NB382_406.out _;(with_reducible repeat (first|refine blk_drewN ?_ _|refine blk_drew ?_|refine blk_alloc ?_ _));exact BK382.out))⟩;replace BK406:Aside0 (w28.heap[gb406]? =some (.cells #[.slice Ao24 t396.length co24,.slice Ao27 t399.length co27,.bool t402,.int .i64 t403,.int .i64 t404,.int .i64 t405] 32 (0,0))):=⟨(by rw[hw];exact(by refine blk_put (cs:=#[.slice Ao24 t396.length co24,.slice Ao27 t399.length co27,.bool t402,.int .i64 t403,.int .i64 t404,.int .i64 0]) ?_ 5 _ rfl;refine blk_put (cs:=#[.slice Ao24 t396.length co24,.slice Ao27 t399.length co27,.bool t402,.int .i64 t403,.int .i64 0,.int .i64 0]) ?_ 4 _ rfl;refine blk_put (cs:=#[.slice Ao24 t396.length co24,.slice Ao27 t399.length co27,.bool t402,.int .i64 0,.int .i64 0,.int .i64 0]) ?_ 3 _ rfl;refine blk_put (cs:=#[.slice Ao24 t396.length co24,.slice Ao27 t399.length co27,.bool false,.int .i64 0,.int .i64 0,.int .i64 0]) ?_ 2 _ rfl;refine blk_put (cs:=#[.slice Ao24 t396.length co24,.slice none 0 0,.bool false,.int .i64 0,.int .i64 0,.int .i64 0]) ?_ 1 _ rfl;refine blk_put (cs:=#[.slice none 0 0,.slice none 0 0,.bool false,.int .i64 0,.int .i64 0,.int .i64 0]) ?_ 0 _ rfl;(with_reducible repeat (first|refine blk_drewN ?_ _|refine blk_drew ?_|refine blk_alloc ?_ _));exact BK406.out))⟩;replace HB:Aside0 (Below w.heap.size w w28):=⟨(by rw[hw];exact(bw HB.out))⟩;clear hw;obtain⟨hcz29_0,hcz29_1,hcz29_2,hcz29_3,hcz29_4,hcz29_5⟩:=cs6_ BK406.out;obtain⟨hfz29_0,hfz29_1,hfz29_2,hfz29_3,hfz29_4,hfz29_5⟩:=fz6_ BK406.out)|((with_reducible refine gc_ 12 rfl ?_);refine goesL_ (some 28) rfl rfl Try.func12 (by kernel_rfl) rfl #[.agg #[.slice Ao24 t396.length co24,.slice Ao27 t399.length co27,.bool t402,.int .i64 t403,.int .i64 t404,.int .i64 t405],.int .i64 a1] rfl ar ?_;(with_reducible refine(impl_HighestOf.calls k _ _ t396 _ _ t399 t402 t403 t404 t405 a1 t407 t408 _ ?side1 ?side2 ?side3 ?side4 A11.out).mono ?_);(case side1=>repeat (first|exact(Kd.S_reads' HO398.out).2.2|(with_reducible refine Kd.C_alloc ?_ _)|(with_reducible refine Kd.C_drewN ?_ _)|(with_reducible refine Kd.C_drew ?_)));(case side2=>exact(Kd.S_reads' HO398.out).2.1);(case side3=>repeat (first|exact(Kd.R_reads' HO401.out).2.2|(with_reducible refine Kd.C_alloc ?_ _)|(with_reducible refine Kd.C_drewN ?_ _)|(with_reducible refine Kd.C_drew ?_)));(case side4=>exact(Kd.R_reads' HO401.out).2.1);rintro e w30 ⟨rfl,hb⟩;refine⟨_,rfl,?_⟩;replace HO386:=A_ (Kd.S_below (ks_ HO386.out) hb);replace HO389:=A_ (Kd.R_below (kr_ HO389.out) hb);replace HO398:=A_ (Kd.S_below (ks_ HO398.out) hb);replace HO401:=A_ (Kd.R_below (kr_ HO401.out) hb);replace BK382:=kb_ BK382 hb;replace BK406:=kb_ BK406 hb;replace HB:=bs_ HB hb;(try clear hb)))
 (try simp only[Act.put,List.setIfInBounds_toArray,List.set_cons_zero,List.set_cons_succ])
 go_cut [38] (fun v38 wc=>∃ (kq:Nat) (x38_11:Bool),v38=.bool x38_11∧Aside0 (laws_FnExactHighestOf.j0 kq x38_11 l0_0 l0_1 a0_2 a0_3 a0_4 a0_5 t396 t399 t402 t403 t404 t405=some r)∧Aside0 (kq≤k)∧Aside0 (Kd.S k59 59 wc w.heap.size (fun _=>True) (.slice Ao24 t396.length co24) t396)∧Aside0 (Kd.R k63 63 wc w.heap.size (fun _=>True) (.slice Ao27 t399.length co27) t399)∧Aside0 (wc.heap[gb382]? =some (.cells #[(.slice A0_0 l0_0.length c0_0),(.slice A0_1 l0_1.length c0_1),.bool a0_2,.int .i64 a0_3,.int .i64 a0_4,.int .i64 a0_5] 25 (0,0)))∧Aside0 (wc.heap[gb406]? =some (.cells #[(.slice Ao24 t396.length co24),(.slice Ao27 t399.length co27),.bool t402,.int .i64 t403,.int .i64 t404,.int .i64 t405] 32 (0,0)))∧Aside0 (Below w.heap.size w wc))
 case first=>
  have H:=HC12.out
  clear HC12
  by_cases c31:t407=t394
  ·
   rw[if_pos c31] at H
   obtain⟨c31b0,c31b1⟩:=eT_ c31
   clear c31
   (first|rw[c31b0]|(simp only[i64_w,i32_w];rw[c31b0])|skip)
   have H':=A_ H
   clear H
   go_wp2
   go_meet
   case rel=>exact⟨_,((t408 !=t395)),rs_,H',⟨by first|omega|exact Nat.le_refl _⟩,⟨by (with_reducible repeat (first|apply Kd.S_alloc|apply Kd.S_drewN|apply Kd.S_drew));exact Kd.S_mono HO398.out (fun _ hk=>trivial)⟩,⟨by (with_reducible repeat (first|apply Kd.R_alloc|apply Kd.R_drewN|apply Kd.R_drew));exact Kd.R_mono HO401.out (fun _ hk=>trivial)⟩,⟨bk BK382.out⟩,⟨bk BK406.out⟩,⟨bw HB.out⟩⟩
  rw[if_neg c31] at H
  obtain⟨c31b0,c31b1⟩:=eF_ c31
  (first|rw[c31b0]|(simp only[i64_w,i32_w];rw[c31b0])|skip)
  have H':=A_ H
  clear H
  go_wp2
  go_meet
  case rel=>exact⟨_,(true),rs_,H',⟨by first|omega|exact Nat.le_refl _⟩,⟨by (with_reducible repeat (first|apply Kd.S_alloc|apply Kd.S_drewN|apply Kd.S_drew));exact Kd.S_mono HO398.out (fun _ hk=>trivial)⟩,⟨by (with_reducible repeat (first|apply Kd.R_alloc|apply Kd.R_drewN|apply Kd.R_drew));exact Kd.R_mono HO401.out (fun _ hk=>trivial)⟩,⟨bk BK382.out⟩,⟨bk BK406.out⟩,⟨bw HB.out⟩⟩
 case rest=>
  clear HC12
  try clear c4 c4b0 hcz14_0 hcz14_1 hcz14_2 hcz14_3 hcz14_4 hcz14_5 hcz16_0 hcz16_1 hcz16_2 hcz16_3 hcz16_4 hcz16_5 hcz21_0 hcz21_1 hcz21_2 hcz21_3 hcz21_4 hcz21_5 hcz26_0 hcz26_1 hcz26_2 hcz26_3 hcz26_4 hcz26_5 hcz29_0 hcz29_1 hcz29_2 hcz29_3 hcz29_4 hcz29_5 hfz14_0 hfz14_1 hfz14_2 hfz14_3 hfz14_4 hfz14_5 hfz16_0 hfz16_1 hfz16_2 hfz16_3 hfz16_4 hfz16_5 hfz21_0 hfz21_1 hfz21_2 hfz21_3 hfz21_4 hfz21_5 hfz26_0 hfz26_1 hfz26_2 hfz26_3 hfz26_4 hfz26_5 hfz29_0 hfz29_1 hfz29_2 hfz29_3 hfz29_4 hfz29_5
  obtain⟨kq,x38_11,rfl,HA,HJ11,HO_407000,HO_407001,BK382,BK406,HB⟩:=hcut
  cases kq with
  |zero=>exact absurd HA.out (by simp[laws_FnExactHighestOf.j0])
  |succ kj11=>
   have H:=HA.out
   clear HA
   simp only[laws_FnExactHighestOf.j0] at H
   by_cases c32:x38_11=true
   ·
    subst c32
    replace H:=iT_ H
    obtain rfl:=Option.some.inj H
    exact absurd HT.out (by decide)
   replace c32:=Bool.eq_false_iff.mpr c32
   subst c32
   replace H:=iF_ H
   replace H:=Option.bind_eq_some_iff.mp H
   obtain⟨⟨t409,t412,t415,t416,t417,t418⟩,A330,H⟩:=H
   replace H:((laws_eqModule.f kj11 t396 t399 t402 t403 t404 t405 t409 t412 t415 t416 t417 t418).bind fun t419=>(if t419=true then (some true) else (some false)))=some r:=H
   have A33:=A_ A330
   clear A330
   replace H:=bi_ H
   obtain⟨t419,A340,H⟩:=H
   have A34:=A_ A340
   clear A340
   by_cases c35:t419=true
   ·
    subst c35
    replace H:=iT_ H
    obtain rfl:=Option.some.inj H
    clear H
    try go_wp2
    have n0_:=A_ (Kd.S_drew HO_407000.out)
    have n1_:=A_ (Kd.R_drew HO_407001.out)
    have n2_:=A_ (blk_drew BK382.out)
    have n3_:=A_ (blk_drew BK406.out)
    have n4_:=A_ (below_drew1 HB.out)
    clear HO_407000 HO_407001 BK382 BK406 HB
    have HO_407000:=n0_
    have HO_407001:=n1_
    have BK382:=n2_
    have BK406:=n3_
    have HB:=n4_
    clear n0_ n1_ n2_ n3_ n4_
    refine start_ (n:=5) (S:=fun w'=>w'.cell? ⟨gb406,0,none⟩=some (.slice Ao24 t396.length co24)∧w'.cell? ⟨gb406,1,none⟩=some (.slice Ao27 t399.length co27)∧w'.cell? ⟨gb406,2,none⟩=some (.bool t402)∧w'.cell? ⟨gb406,3,none⟩=some (.int .i64 t403)∧w'.cell? ⟨gb406,4,none⟩=some (.int .i64 t404)∧w'.cell? ⟨gb406,5,none⟩=some (.int .i64 t405)∧w'.cell? ⟨gb382,0,none⟩=some (.slice A0_0 l0_0.length c0_0)∧w'.cell? ⟨gb382,1,none⟩=some (.slice A0_1 l0_1.length c0_1)∧w'.cell? ⟨gb382,2,none⟩=some (.bool a0_2)∧w'.cell? ⟨gb382,3,none⟩=some (.int .i64 a0_3)∧w'.cell? ⟨gb382,4,none⟩=some (.int .i64 a0_4)∧w'.cell? ⟨gb382,5,none⟩=some (.int .i64 a0_5)) (ds:=[]) #[false,false,false,false,false] (by kernel_rfl) rfl rfl ⟨(blk_cell BK406.out 0).trans rfl,(blk_cell BK406.out 1).trans rfl,(blk_cell BK406.out 2).trans rfl,(blk_cell BK406.out 3).trans rfl,(blk_cell BK406.out 4).trans rfl,(blk_cell BK406.out 5).trans rfl,(blk_cell BK382.out 0).trans rfl,(blk_cell BK382.out 1).trans rfl,(blk_cell BK382.out 2).trans rfl,(blk_cell BK382.out 3).trans rfl,(blk_cell BK382.out 4).trans rfl,(blk_cell BK382.out 5).trans rfl⟩ (fun hHeld=>?_)
    generalize wc.drew=w36 at HO_407000 HO_407001 BK382 BK406 HB hHeld ⊢
    refine take_ (i:=0) (N:=some 39) (v:=?_) (a':=?_) #[true,false,false,false,false] rfl rfl (by kernel_rfl) (fun _ _ _ h=>h) (Or.inl ⟨by rfl,?_⟩) hHeld ?_ ?_
    rotate_left
    ·
     rintro w' ⟨s0,s1,s2,s3,s4,s5,s6,s7,s8,s9,s10,s11⟩
     go_simp
     with_reducible rfl
    rotate_left
    ·
     simp only[Act.put,List.setIfInBounds_toArray,List.set_cons_zero,List.set_cons_succ,i64_w,i32_w]
     rfl
    refine take_ (i:=1) (N:=some 40) (v:=?_) (a':=?_) #[true,true,false,false,false] rfl rfl (by kernel_rfl) (fun _ _ _ h=>h) (Or.inl ⟨by rfl,?_⟩) hHeld ?_ ?_
    rotate_left
    ·
     rintro w' ⟨s0,s1,s2,s3,s4,s5,s6,s7,s8,s9,s10,s11⟩
     go_simp
     with_reducible rfl
    rotate_left
    ·
     simp only[Act.put,List.setIfInBounds_toArray,List.set_cons_zero,List.set_cons_succ,i64_w,i32_w]
     rfl
    refine one_ (i:=2) (N:=some 41) #[true,true,true,false,false] rfl rfl (by kernel_rfl) (by decide) (fun K hK=>?_)
    refine goes_ Try.func8 (by kernel_rfl) rfl #[.agg #[.slice A0_0 l0_0.length c0_0,.slice A0_1 l0_1.length c0_1,.bool a0_2,.int .i64 a0_3,.int .i64 a0_4,.int .i64 a0_5]] (by rfl) rfl rfl ar ?_
    with_reducible refine(laws_toModule.calls kj11 _ _ l0_0 _ _ l0_1 a0_2 a0_3 a0_4 a0_5 t409 t412 t415 t416 t417 t418 _ ?side1 ?side2 ?side3 ?side4 A33.out).mono ?_
    (case side1=>repeat (first|exact(Kd.C_below HR0_0.out HB.out)|(with_reducible refine Kd.C_alloc ?_ _)|(with_reducible refine Kd.C_drewN ?_ _)|(with_reducible refine Kd.C_drew ?_)))
    (case side2=>exact HC0_0.out)
    (case side3=>repeat (first|exact(Kd.C_below HR0_1.out HB.out)|(with_reducible refine Kd.C_alloc ?_ _)|(with_reducible refine Kd.C_drewN ?_ _)|(with_reducible refine Kd.C_drew ?_)))
    (case side4=>exact HC0_1.out)
    rintro e w37 ⟨v410,v413,rfl,ho0,ho1,hb⟩
    refine⟨_,rfl,?_⟩
    have n0_:=A_ (Kd.S_elder' (ks_ HO_407000.out) (Kd.S_base ho0) hb)
    have n1_:=A_ (Kd.R_elder' (kr_ HO_407001.out) (Kd.R_base ho1) hb)
    have n2_:=A_ (Kd.S_lower (Kd.S_new' ho0 (Kd.S_lt (ks_ HO_407000.out))) (below_size (bw HB.out)))
    have n3_:=A_ (Kd.R_lower (Kd.R_new' ho1 (Kd.R_lt (kr_ HO_407001.out))) (below_size (bw HB.out)))
    have n4_:=A_ (blk_below (g:=gb382) (o:=.cells #[.slice A0_0 l0_0.length c0_0,.slice A0_1 l0_1.length c0_1,.bool a0_2,.int .i64 a0_3,.int .i64 a0_4,.int .i64 a0_5] 25 (0,0)) (bk BK382.out) hb)
    have n5_:=A_ (blk_below (g:=gb406) (o:=.cells #[.slice Ao24 t396.length co24,.slice Ao27 t399.length co27,.bool t402,.int .i64 t403,.int .i64 t404,.int .i64 t405] 32 (0,0)) (bk BK406.out) hb)
    have n6_:=A_ (below_step (bw HB.out) hb)
    clear HO_407000 HO_407001 BK382 BK406 HB
    have HO_407000:=n0_
    have HO_407001:=n1_
    have HO411:=n2_
    have HO414:=n3_
    have BK382:=n4_
    have BK406:=n5_
    have HB:=n6_
    clear n0_ n1_ n2_ n3_ n4_ n5_ n6_
    (try clear hb)
    (try clear hb2)
    (try clear hk)
    (try clear hi)
    (try clear ho0)
    (try clear ho1)
    obtain⟨Ao38,co38,eo38⟩:=Kd.S_slice HO411.out
    (first|subst eo38|(injection eo38 with f1_ f2_ f3_;have f4_:=f1_.symm;have f5_:=f3_.symm;clear f1_ f2_ f3_;subst f4_;subst f5_))
    obtain⟨Ao39,co39,eo39⟩:=Kd.R_slice HO414.out
    (first|subst eo39|(injection eo39 with f1_ f2_ f3_;have f4_:=f1_.symm;have f5_:=f3_.symm;clear f1_ f2_ f3_;subst f4_;subst f5_))
    refine hK.out _ _ ⟨(blk_cell BK406.out 0).trans rfl,(blk_cell BK406.out 1).trans rfl,(blk_cell BK406.out 2).trans rfl,(blk_cell BK406.out 3).trans rfl,(blk_cell BK406.out 4).trans rfl,(blk_cell BK406.out 5).trans rfl,(blk_cell BK382.out 0).trans rfl,(blk_cell BK382.out 1).trans rfl,(blk_cell BK382.out 2).trans rfl,(blk_cell BK382.out 3).trans rfl,(blk_cell BK382.out 4).trans rfl,(blk_cell BK382.out 5).trans rfl⟩ (fun hHeld=>?_)
    clear hK K
    refine norm_ (a':=?_) ?_ ?_
    rotate_left
    ·
     show Act.put _ (some 41) _=_
     simp only[Act.put,List.setIfInBounds_toArray,List.set_cons_zero,List.set_cons_succ,i64_w,i32_w]
     rfl
    refine one_ (i:=3) (N:=some 42) #[true,true,true,true,false] rfl rfl (by kernel_rfl) (by decide) (fun K hK=>?_)
    refine goes_ Try.func10 (by kernel_rfl) rfl #[.agg #[.slice Ao24 t396.length co24,.slice Ao27 t399.length co27,.bool t402,.int .i64 t403,.int .i64 t404,.int .i64 t405],.agg #[.slice Ao38 t409.length co38,.slice Ao39 t412.length co39,.bool t415,.int .i64 t416,.int .i64 t417,.int .i64 t418]] (by rfl) rfl rfl ar ?_
    with_reducible refine(laws_eqModule.calls kj11 _ _ t396 _ _ t399 t402 t403 t404 t405 _ _ t409 _ _ t412 t415 t416 t417 t418 true _ ?side1 ?side2 ?side3 ?side4 ?side5 ?side6 ?side7 ?side8 A34.out).mono ?_
    (case side1=>repeat (first|exact(Kd.S_reads' HO_407000.out).2.2|(with_reducible refine Kd.C_alloc ?_ _)|(with_reducible refine Kd.C_drewN ?_ _)|(with_reducible refine Kd.C_drew ?_)))
    (case side2=>exact(Kd.S_reads' HO_407000.out).2.1)
    (case side3=>repeat (first|exact(Kd.R_reads' HO_407001.out).2.2|(with_reducible refine Kd.C_alloc ?_ _)|(with_reducible refine Kd.C_drewN ?_ _)|(with_reducible refine Kd.C_drew ?_)))
    (case side4=>exact(Kd.R_reads' HO_407001.out).2.1)
    (case side5=>repeat (first|exact(Kd.S_reads' HO411.out).2.2|(with_reducible refine Kd.C_alloc ?_ _)|(with_reducible refine Kd.C_drewN ?_ _)|(with_reducible refine Kd.C_drew ?_)))
    (case side6=>exact(Kd.S_reads' HO411.out).2.1)
    (case side7=>repeat (first|exact(Kd.R_reads' HO414.out).2.2|(with_reducible refine Kd.C_alloc ?_ _)|(with_reducible refine Kd.C_drewN ?_ _)|(with_reducible refine Kd.C_drew ?_)))
    (case side8=>exact(Kd.R_reads' HO414.out).2.1)
    rintro e w40 ⟨rfl,hb⟩
    refine⟨_,rfl,?_⟩
    have n0_:=A_ (Kd.S_below (ks_ HO_407000.out) hb)
    have n1_:=A_ (Kd.R_below (kr_ HO_407001.out) hb)
    have n2_:=A_ (Kd.S_below (ks_ HO411.out) hb)
    have n3_:=A_ (Kd.R_below (kr_ HO414.out) hb)
    have n4_:=A_ (blk_below (g:=gb382) (o:=.cells #[.slice A0_0 l0_0.length c0_0,.slice A0_1 l0_1.length c0_1,.bool a0_2,.int .i64 a0_3,.int .i64 a0_4,.int .i64 a0_5] 25 (0,0)) (bk BK382.out) hb)
    have n5_:=A_ (blk_below (g:=gb406) (o:=.cells #[.slice Ao24 t396.length co24,.slice Ao27 t399.length co27,.bool t402,.int .i64 t403,.int .i64 t404,.int .i64 t405] 32 (0,0)) (bk BK406.out) hb)
    have n6_:=A_ (below_step (bw HB.out) hb)
    clear HO_407000 HO_407001 HO411 HO414 BK382 BK406 HB
    have HO_407000:=n0_
    have HO_407001:=n1_
    have HO411:=n2_
    have HO414:=n3_
    have BK382:=n4_
    have BK406:=n5_
    have HB:=n6_
    clear n0_ n1_ n2_ n3_ n4_ n5_ n6_
    (try clear hb)
    (try clear hb2)
    (try clear hk)
    (try clear hi)
    refine hK.out _ _ ⟨(blk_cell BK406.out 0).trans rfl,(blk_cell BK406.out 1).trans rfl,(blk_cell BK406.out 2).trans rfl,(blk_cell BK406.out 3).trans rfl,(blk_cell BK406.out 4).trans rfl,(blk_cell BK406.out 5).trans rfl,(blk_cell BK382.out 0).trans rfl,(blk_cell BK382.out 1).trans rfl,(blk_cell BK382.out 2).trans rfl,(blk_cell BK382.out 3).trans rfl,(blk_cell BK382.out 4).trans rfl,(blk_cell BK382.out 5).trans rfl⟩ (fun hHeld=>?_)
    clear hK K
    refine norm_ (a':=?_) ?_ ?_
    rotate_left
    ·
     show Act.put _ (some 42) _=_
     simp only[Act.put,List.setIfInBounds_toArray,List.set_cons_zero,List.set_cons_succ,i64_w,i32_w]
     rfl
    refine pure_ (i:=4) (N:=some 43) (v:=?_) (a':=?_) #[true,true,true,true,true] rfl rfl (by kernel_rfl) (fun _ _ _ h=>h) (Or.inl ⟨by rfl,?_⟩) ?_ ?_
    rotate_left
    ·
     intro w'
     go_simp
     with_reducible rfl
    rotate_left
    ·
     simp only[Act.put,List.setIfInBounds_toArray,List.set_cons_zero,List.set_cons_succ,i64_w,i32_w]
     rfl
    refine done_ (by kernel_rfl) ?_
    try go_wp2
    go_ret
    exact⟨rr_,bw HB.out⟩
   replace c35:=Bool.eq_false_iff.mpr c35
   subst c35
   replace H:=iF_ H
   obtain rfl:=Option.some.inj H
   exact absurd HT.out (by decide)

/-- THE ONE PURE STATEMENT of laws_FnExactHighestOf. -/
def laws_FnExactHighestOf.Pure:Prop:=∀ (l0_0:List (S56)) (l0_1:List (S75)) (a0_2:Bool) (a0_3:Int) (a0_4:Int) (a0_5:Int) (a1:Int),(l0_0.length≤maxLen∧∀ y1∈l0_0,((y1.f0.length≤maxLen∧∀ y2∈y1.f0,(Lit.int .i64 y2).wf=true)∧(Lit.int .i64 y1.f1).wf=true∧(y1.f2.length≤maxLen∧∀ y2∈y1.f2,(Lit.int .i64 y2).wf=true)∧(y1.f3.length≤maxLen∧∀ y2∈y1.f3,((Lit.int .i64 y2.f0).wf=true∧(Lit.int .i64 y2.f1).wf=true))))→(l0_1.length≤maxLen∧∀ y1∈l0_1,((Lit.int .i64 y1.f0).wf=true∧True∧(Lit.int .u64 y1.f2).wf=true))→(Lit.int .i64 a0_3).wf=true→(Lit.int .i64 a0_4).wf=true→(Lit.int .i64 a0_5).wf=true→(Lit.int .i64 a1).wf=true→∃ k,laws_FnExactHighestOf.f k l0_0 l0_1 a0_2 a0_3 a0_4 a0_5 a1=some true

end Go.Proofs.Ytghogonibanieaa.Q

