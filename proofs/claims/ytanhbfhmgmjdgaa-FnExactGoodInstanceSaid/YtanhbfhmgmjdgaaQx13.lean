-- Written by a program of this session; it walks the functions that the law reaches.
import Derived.Test.YtanhbfhmgmjdgaaQx0
import Derived.Test.YtanhbfhmgmjdgaaQx12
namespace Go.Proofs.Ytanhbfhmgmjdgaa.Q
open Go.RowKit Go.Proofs.YtanhbfhmgmjdgaaW.PrintWords Go.Proofs.YtanhbfhmgmjdgaaW.PrintLast Go.Proofs.YtanhbfhmgmjdgaaW.PrintMore
attribute [local go_sem] max2_int min2_int max_two min_two max_three min_three max_four min_four   -- for this text's walks alone
set_option linter.unusedVariables false
set_option linter.unusedSimpArgs false
set_option maxRecDepth 100000
set_option maxHeartbeats 8000000

/-! ### laws_toInsS: function 59 -/
def laws_toInsS.l0:Nat→List (S133)→List (S103)→Int→Option ((List (S103)))
 |0,_,_,_=>none
 |k+1,x0,x3,x4=>if x4<(x0.length:Int) then (if 0≤x4 then ((laws_toIns.f ((rd_T133 x0 x4).f0) ((rd_T133 x0 x4).f1)).bind fun bt237=>(if x4<(x3.length:Int) then (laws_toInsS.l0 k x0 (x3.set (x4:Int).toNat (⟨bt237.1,bt237.2⟩:S103)) (wrap64 (x4+1))) else (none))) else (none)) else (some x3)
def laws_toInsS.f (k:Nat) (l0:List (S133)):Option ((List (S103))):=if 0≤(l0.length:Int) then (if ((l0.length:Int):Int).toNat≤17592186044416 then (laws_toInsS.l0 k l0 (List.replicate ((l0.length:Int):Int).toNat z103) 0) else (none)) else (none)
theorem laws_toInsS.calls (k:Nat) (A0:Option Addr) (c0:Nat) (l0:List (S133)) (r:List (S103)) (w:World) (hr0:Kd.C k133 w A0 l0.length l0) (hc0:l0.length≤c0) (h:laws_toInsS.f k l0=some r):
  Calls Try.prog 59 #[.slice A0 l0.length c0] w fun e w'=>∃ v0_:Value,e=.returned (v0_)∧Kd.R k103 103 w' w.heap.size (fun _=>True) v0_ r∧Below w.heap.size w w':=by
 have hu133:=Try.underlying133
 have hu103:=Try.underlying103
 have HR0:=A_ hr0
 have HC0:=A_ hc0
 clear hr0 hc0
 have HB:=A_ (Below.refl w.heap.size w)
 have H:(if 0≤(l0.length:Int) then (if ((l0.length:Int):Int).toNat≤17592186044416 then (laws_toInsS.l0 k l0 (List.replicate ((l0.length:Int):Int).toNat z103) 0) else (none)) else (none))=some r:=h
 clear h
 replace H:=iq_ H
 obtain⟨c2b0,c2b1,H⟩:=H
 replace H:=iq_ H
 obtain⟨c3b0,c3b1,H⟩:=H
 obtain⟨y233,hy233⟩:∃ y_:List (S103),y_=(List.replicate ((l0.length:Int):Int).toNat z103):=⟨_,rfl⟩
 rw[←hy233] at H
 have Ny233:=A_ hy233
 clear hy233
 have H':=A_ H
 clear H
 go_enter Try.func59,Try.ntmps59
 go_wp2_with (first|((with_reducible refine gd_ 7 rfl ?_);refine Kd.R_make k103 _ 103 rfl (N:=7) rfl 86 _ _ rfl (l0.length:Int) rfl rfl Try.underlying86 (.agg #[(.int .i64 0),(.int .i64 0)]) 16 info103 rfl (by decide) (by omega) z103 (ok:=fun _=>True) (okp:=fun _=>True) (k103_mkM _ _ _ z103) (fun _ hk=>hk) trivial (od_) (Nat.le_trans (Nat.mul_le_mul_right _ (od_:(l0.length:Int).toNat≤17592186044416)) (by omega)) (Below.refl _ _) (Nat.le_refl _) ?_;intro v234 w4 ho5 hb hg_ hnew_;clear hg_ hnew_;(first|rw[←Ny233.out] at ho5|(simp only[Int.reduceToNat] at ho5;rw[←Ny233.out] at ho5));have HO235:=A_ (Kd.R_lower ho5 (below_size (bw HB.out)));replace HB:=bs_ HB hb;clear hb ho5))
 (try simp only[Act.put,List.setIfInBounds_toArray,List.set_cons_zero,List.set_cons_succ])
 go_loopg [4] k (fun kq v4 w'=>∃ (x3_1:List (S103)) (x4_1:Int),v4=.int .i64 x4_1∧Aside0 (laws_toInsS.l0 kq l0 x3_1 x4_1=some r)∧Aside0 (kq≤k)∧Aside0 (Kd.R k103 103 w' w.heap.size (fun _=>True) v234 x3_1)∧Aside0 (Below w.heap.size w w'))
 case atStart=>exact⟨(y233),(0),rs_,H',⟨Nat.le_refl _⟩,⟨kr_ HO235.out⟩,⟨bw HB.out⟩⟩
 case round=>
  clear H'
  try clear c2 c2b0 c2b1 c3 c3b0 c3b1
  obtain⟨x3_1,x4_1,rfl,HA,HK1,HO_3,HB⟩:=hrel
  cases gk with
  |zero=>exact absurd HA.out (by simp[laws_toInsS.l0])
  |succ k1=>
   have H:=HA.out
   clear HA
   simp only[laws_toInsS.l0] at H
   revert H
   refine iL_ (fun c6b0 H=>?_) (fun c6b0 H=>?_)
   ·
    replace H:=id_ H
    obtain⟨c7b0,H⟩:=H
    replace H:=Option.bind_eq_some_iff.mp H
    obtain⟨⟨t237,t238⟩,A80,H⟩:=H
    try dsimp only at H
    have A8:=A_ A80
    clear A80
    replace H:=id_ H
    obtain⟨c9b0,H⟩:=H
    obtain⟨y239,hy239⟩:∃ y_:List (S103),y_=(x3_1.set (x4_1:Int).toNat (⟨t237,t238⟩:S103)):=⟨_,rfl⟩
    rw[←hy239] at H
    have Ny239:=A_ hy239
    clear hy239
    have H':=A_ H
    clear H
    have p236:0≤(x4_1:Int):=od_
    have q236:x4_1<(l0.length:Int):=od_
    obtain⟨ad236,e236,hx236_0,hx236_1⟩:=at_T133 HR0.out x4_1 p236 q236
    cases e236
    replace hx236_0:=cl_ HB.out hx236_0
    replace hx236_1:=cl_ HB.out hx236_1
    replace p236:=eq_true p236
    replace q236:=eq_true q236
    go_wp2_with (first|((with_reducible refine gc_ 80 rfl ?_);refine gm_ (some 20) Try.func80 (laws_toIns.calls ((rd_T133 l0 x4_1).f0) ((rd_T133 l0 x4_1).f1) t237 t238 _ A8.out) ?_;intro w11 hb;replace HO_3:=A_ (Kd.R_below (kr_ HO_3.out) hb);replace HB:=bs_ HB hb;(try clear hb);have p10:0≤(x4_1:Int):=od_;have q10:(x4_1:Int)<((x3_1.length:Int):Int):=od_;obtain⟨go10,co10,eo10,gb10,gl10,cl10,HG10⟩:=Kd.R_form HO_3.out (by omega);(first|cases eo10|(injection eo10 with ea_ en_ ec_;(first|subst ea_|(injection ea_ with ea_;subst ea_));subst ec_;clear en_));have GB10:=A_ gb10;have GG10:=A_ HG10;clear gb10 gl10 HG10;obtain⟨ce10,hcl10,hM10,hcc10,hfr10⟩:=Kd.R_elem HO_3.out z103 (x4_1:Int) p10 q10;obtain rfl:=k103_openM hM10;have hx10_0:w11.cell? ⟨go10,(x4_1:Int).toNat*2,none⟩=some (.int .i64 ((rd_T103 x3_1 x4_1).f0)):=hcc10 0 _ rfl;have hx10_1:w11.cell? ⟨go10,(x4_1:Int).toNat*2+1,none⟩=some (.int .i64 ((rd_T103 x3_1 x4_1).f1)):=hcc10 1 _ rfl;have hf10_0:w11.frozen? ⟨go10,(x4_1:Int).toNat*2,none⟩=false:=hfr10 0;have hf10_1:w11.frozen? ⟨go10,(x4_1:Int).toNat*2+1,none⟩=false:=hfr10 1;clear hcl10 hcc10 hfr10 hM10;replace p10:=eq_true p10;replace q10:=eq_true q10;have HX12:=A_ (show Kd.R k103 103 w11 w.heap.size (fun _=>True) (.slice (some ⟨go10,0,none⟩) x3_1.length co10) x3_1 from(kr_ HO_3.out));obtain⟨ce12,hcl12,hM12,hcc12,hfr12⟩:=Kd.R_elem HX12.out z103 (x4_1:Int) (od_) (by have h_:(x4_1:Int)<((x3_1.length:Int):Int):=od_;first|exact h_|(have e_:=(Kd.R_reads' HO_3.out).1;omega)|simpa using h_);obtain rfl:=k103_openM hM12;have HP12:=Kd.R_seg HX12.out (x4_1:Int) (od_) (by have h_:(x4_1:Int)<((x3_1.length:Int):Int):=od_;first|exact h_|(have e_:=(Kd.R_reads' HO_3.out).1;omega)|simpa using h_) (seg:=[.int .i64 t237,.int .i64 t238]) (j:=0) hcl12 hcc12 (show 2≤2 from by decide) (x':=(⟨t237,t238⟩:S103)) (k103_mkM _ _ _ (⟨t237,t238⟩:S103)) (fun _ hk=>hk);have hx12_0:=hcc12 0 _ rfl;(try simp only[show (k103).sz=2 from rfl,Nat.mul_one,Nat.add_zero] at hx12_0);have hf12_0:=hfr12 0;(try simp only[show (k103).sz=2 from rfl,Nat.mul_one,Nat.add_zero] at hf12_0);have hx12_1:=hcc12 1 _ rfl;(try simp only[show (k103).sz=2 from rfl,Nat.mul_one,Nat.add_zero] at hx12_1);have hf12_1:=hfr12 1;(try simp only[show (k103).sz=2 from rfl,Nat.mul_one,Nat.add_zero] at hf12_1);clear hcl12 hcc12 hfr12 hM12)|((with_reducible refine gate_store (t:=103) (p:=21) rfl ?_);refine store_event (t:=103) (p:=21) (v:=?vo_w13) (w1:=((w11.setCell ⟨go10,(x4_1:Int).toNat*2,none⟩ (.int .i64 t237)).setCell ⟨go10,(x4_1:Int).toNat*2+1,none⟩ (.int .i64 t238))) ?hg ?ho ?hn ?hr ?_;(case ho=>rfl);(case hg=>rfl);(case hn=>rfl);(case hr=>first|(go_simp;done)|(go_simp;rfl));intro w13 hw;have hg:w11.grownBy w13 (some go10):=(by rw[hw];exact HP12.2);have hp_:Kd.R k103 103 w13 w.heap.size (fun _=>True) (.slice (some ⟨go10,0,none⟩) x3_1.length co10) y239:=(by rw[hw,Ny239.out];exact HP12.1);clear HP12;replace HO_3:=A_ (hp_);replace HB:=A_ ((by rw[hw];exact below_set (below_set (HB.out) GB10.out) GB10.out:Below w.heap.size w w13));clear hg hw hp_))
    go_roundg k1
    case measure=>have:=HK1.out;omega
    case rel=>exact⟨(y239),(wrap64 (x4_1+1)),rs_,H',⟨by have:=HK1.out;omega⟩,⟨kr_ HO_3.out⟩,⟨bw HB.out⟩⟩
   obtain rfl:=Option.some.inj H
   clear H
   go_wp2
   go_ret
   exact⟨_,rr_,kr_ HO_3.out,bw HB.out⟩

/-! ### laws_toFunc: function 42 -/
def laws_toFunc.f (k:Nat) (l0_0:List Int) (a0_1:Int) (l0_2:List Int) (l0_3:List (S133)):Option (List Int × Int × List Int × (List (S103))):=(laws_toIntS.f k l0_0).bind fun t243=>((laws_toIntS.f k l0_2).bind fun t246=>((laws_toInsS.f k l0_3).bind fun t249=>(some (t243,a0_1,t246,t249))))
theorem laws_toFunc.calls (k:Nat) (A0_0:Option Addr) (c0_0:Nat) (l0_0:List Int) (a0_1:Int) (A0_2:Option Addr) (c0_2:Nat) (l0_2:List Int) (A0_3:Option Addr) (c0_3:Nat) (l0_3:List (S133)) (r1:List Int) (r2:Int) (r3:List Int) (r4:List (S103)) (w:World) (hr0_0:Kd.C (Kd.int .i64) w A0_0 l0_0.length l0_0) (hc0_0:l0_0.length≤c0_0) (hr0_2:Kd.C (Kd.int .i64) w A0_2 l0_2.length l0_2) (hc0_2:l0_2.length≤c0_2) (hr0_3:Kd.C k133 w A0_3 l0_3.length l0_3) (hc0_3:l0_3.length≤c0_3) (h:laws_toFunc.f k l0_0 a0_1 l0_2 l0_3=some (r1,r2,r3,r4)):
  Calls Try.prog 42 #[.agg #[.slice A0_0 l0_0.length c0_0,.int .i64 a0_1,.slice A0_2 l0_2.length c0_2,.slice A0_3 l0_3.length c0_3]] w fun e w'=>∃ v0_ v2_ v3_:Value,e=.returned (.agg #[v0_,.int .i64 r2,v2_,v3_])∧Kd.R (Kd.int .i64) 3 w' w.heap.size (fun k_=>some k_≠(v2_:Value).ownBlock) v0_ r1∧Kd.R (Kd.int .i64) 3 w' w.heap.size (fun k_=>some k_≠(v0_:Value).ownBlock) v2_ r3∧Kd.R k103 103 w' w.heap.size (fun _=>True) v3_ r4∧Below w.heap.size w w':=by
 have hu84:=Try.underlying84
 have hu88:=Try.underlying88
 have HR0_0:=A_ hr0_0
 have HC0_0:=A_ hc0_0
 clear hr0_0 hc0_0
 have HR0_2:=A_ hr0_2
 have HC0_2:=A_ hc0_2
 clear hr0_2 hc0_2
 have HR0_3:=A_ hr0_3
 have HC0_3:=A_ hc0_3
 clear hr0_3 hc0_3
 have HB:=A_ (Below.refl w.heap.size w)
 have H:((laws_toIntS.f k l0_0).bind fun t243=>((laws_toIntS.f k l0_2).bind fun t246=>((laws_toInsS.f k l0_3).bind fun t249=>(some (t243,a0_1,t246,t249)))))=some (r1,r2,r3,r4):=h
 clear h
 replace H:=bA_ H
 obtain⟨t243,A2,H⟩:=H
 replace H:=bA_ H
 obtain⟨t246,A3,H⟩:=H
 replace H:=bA_ H
 obtain⟨t249,A4,H⟩:=H
 simp only[Option.some.injEq,Prod.mk.injEq] at H
 obtain⟨rfl,rfl,rfl,rfl⟩:=H
 go_enter Try.func42,Try.ntmps42
 go_wp2_with (first|((with_reducible refine gd_ 1 rfl ?_);refine bx_ #[.slice A0_0 l0_0.length c0_0,.int .i64 a0_1,.slice A0_2 l0_2.length c0_2,.slice A0_3 l0_3.length c0_3] 84 ?_;intro gb240 hg w5 hbox hb;have BK240:=A_ hbox;have GW240:=gw_ hg HB;have GE240:=GW240;replace HB:=bs_ HB hb;clear hb hbox hg)|((with_reducible refine gd_ 2 rfl ?_);refine bx_ #[.slice none 0 0,.int .i64 0,.slice none 0 0,.slice none 0 0] 88 ?_;intro gb241 hg w6 hbox hb;have BK241:=A_ hbox;have GW241:=gw_ hg HB;have GE241:=GW241;obtain⟨NB240_241,NB241_240⟩:=nb_ BK240 hg;replace BK240:=kb_ BK240 hb;replace HB:=bs_ HB hb;clear hb hbox hg)|((with_reducible refine gd_ 3 rfl ?_);refine bx_ #[.slice none 0 0,.int .i64 0,.slice none 0 0,.slice none 0 0] 88 ?_;intro gb242 hg w7 hbox hb;have BK242:=A_ hbox;have GW242:=gw_ hg HB;have GE242:=GW242;obtain⟨NB240_242,NB242_240⟩:=nb_ BK240 hg;obtain⟨NB241_242,NB242_241⟩:=nb_ BK241 hg;replace BK240:=kb_ BK240 hb;replace BK241:=kb_ BK241 hb;replace HB:=bs_ HB hb;clear hb hbox hg;have hnb8:=NB240_241.out;have hnc8:=NB241_240.out;have hnb9:=NB240_242.out;have hnc9:=NB242_240.out;obtain⟨hcz10_0,hcz10_1,hcz10_2,hcz10_3⟩:=cs4_ BK240.out;obtain⟨hfz10_0,hfz10_1,hfz10_2,hfz10_3⟩:=fz4_ BK240.out)|((with_reducible refine gc_ 58 rfl ?_);refine goesL_ (some 6) rfl rfl Try.func58 (by kernel_rfl) rfl #[.slice A0_0 l0_0.length c0_0] rfl ar ?_;(with_reducible refine(laws_toIntS.calls k _ _ l0_0 t243 _ ?side1 ?side2 A2.out).mono ?_);(case side1=>exact cb_ HR0_0 HB);(case side2=>exact HC0_0.out);rintro e w11 ⟨v244,rfl,ho0,hb⟩;refine⟨_,rfl,?_⟩;have HO245:=A_ (Kd.R_lower ho0 (below_size (bw HB.out)));replace BK240:=kb_ BK240 hb;replace BK241:=kb_ BK241 hb;replace BK242:=kb_ BK242 hb;replace HB:=bs_ HB hb;(try clear hb);(try clear hb2);(try clear hk);(try clear hi);(try clear ho0);obtain⟨Ao12,co12,eo12⟩:=Kd.R_slice HO245.out;subst eo12;have hnb13:=NB242_241.out;have hnc13:=NB241_242.out;obtain⟨hcz14_0,hcz14_1,hcz14_2,hcz14_3⟩:=cs4_ BK242.out;obtain⟨hfz14_0,hfz14_1,hfz14_2,hfz14_3⟩:=fz4_ BK242.out;obtain⟨hcz15_0,hcz15_1,hcz15_2,hcz15_3⟩:=cs4_ BK240.out;obtain⟨hfz15_0,hfz15_1,hfz15_2,hfz15_3⟩:=fz4_ BK240.out)|((with_reducible refine gc_ 58 rfl ?_);refine goesL_ (some 13) rfl rfl Try.func58 (by kernel_rfl) rfl #[.slice A0_2 l0_2.length c0_2] rfl ar ?_;(with_reducible refine(laws_toIntS.calls k _ _ l0_2 t246 _ ?side1 ?side2 A3.out).mono ?_);(case side1=>exact Kd.C_below HR0_2.out (bw HB.out));(case side2=>exact HC0_2.out);rintro e w16 ⟨v247,rfl,ho0,hb⟩;refine⟨_,rfl,?_⟩;have HO248:=A_ (Kd.R_lower (Kd.R_new' ho0 (Kd.R_lt (by(with_reducible repeat (first|apply Kd.R_alloc|apply Kd.R_drewN|apply Kd.R_drew));exact(Kd.R_mono (Kd.R_far (p:=⟨gb242,1,none⟩) (Kd.R_far (p:=⟨gb242,0,none⟩) (Kd.R_types HO245.out BK242.out (by decide)) (fun _ hk=>hk.2) (.slice Ao12 t243.length co12)) (fun _ hk=>hk.2) (.int .i64 a0_1)) (fun _ h_=>h_.1))))) (below_size (bw HB.out)));replace HO245:=A_ (Kd.R_elder' (by(with_reducible repeat (first|apply Kd.R_alloc|apply Kd.R_drewN|apply Kd.R_drew));exact(Kd.R_mono (Kd.R_far (p:=⟨gb242,1,none⟩) (Kd.R_far (p:=⟨gb242,0,none⟩) (Kd.R_types HO245.out BK242.out (by decide)) (fun _ hk=>hk.2) (.slice Ao12 t243.length co12)) (fun _ hk=>hk.2) (.int .i64 a0_1)) (fun _ h_=>h_.1))) (Kd.R_base ho0) hb);replace BK240:=A_ (blk_below (g:=gb240) (o:=.cells #[.slice A0_0 l0_0.length c0_0,.int .i64 a0_1,.slice A0_2 l0_2.length c0_2,.slice A0_3 l0_3.length c0_3] 84 (0,0)) (by refine blk_far ?_ NB240_242.out _;refine blk_far ?_ NB240_242.out _;(with_reducible repeat (first|refine blk_drewN ?_ _|refine blk_drew ?_|refine blk_alloc ?_ _));exact BK240.out) hb);replace BK241:=A_ (blk_below (g:=gb241) (o:=.cells #[.slice none 0 0,.int .i64 0,.slice none 0 0,.slice none 0 0] 88 (0,0)) (by refine blk_far ?_ NB241_242.out _;refine blk_far ?_ NB241_242.out _;(with_reducible repeat (first|refine blk_drewN ?_ _|refine blk_drew ?_|refine blk_alloc ?_ _));exact BK241.out) hb);replace BK242:=A_ (blk_below (g:=gb242) (o:=.cells #[.slice Ao12 t243.length co12,.int .i64 a0_1,.slice none 0 0,.slice none 0 0] 88 (0,0)) (by refine blk_put (cs:=#[.slice Ao12 t243.length co12,.int .i64 0,.slice none 0 0,.slice none 0 0]) ?_ 1 _ rfl;refine blk_put (cs:=#[.slice none 0 0,.int .i64 0,.slice none 0 0,.slice none 0 0]) ?_ 0 _ rfl;(with_reducible repeat (first|refine blk_drewN ?_ _|refine blk_drew ?_|refine blk_alloc ?_ _));exact BK242.out) hb);replace HB:=bs_ HB hb;(try clear hb);(try clear hb2);(try clear hk);(try clear hi);(try clear ho0);obtain⟨Ao17,co17,eo17⟩:=Kd.R_slice HO248.out;subst eo17;obtain⟨hcz18_0,hcz18_1,hcz18_2,hcz18_3⟩:=cs4_ BK242.out;obtain⟨hfz18_0,hfz18_1,hfz18_2,hfz18_3⟩:=fz4_ BK242.out;obtain⟨hcz19_0,hcz19_1,hcz19_2,hcz19_3⟩:=cs4_ BK240.out;obtain⟨hfz19_0,hfz19_1,hfz19_2,hfz19_3⟩:=fz4_ BK240.out)|((with_reducible refine gc_ 59 rfl ?_);refine goesL_ (some 17) rfl rfl Try.func59 (by kernel_rfl) rfl #[.slice A0_3 l0_3.length c0_3] rfl ar ?_;(with_reducible refine(laws_toInsS.calls k _ _ l0_3 t249 _ ?side1 ?side2 A4.out).mono ?_);(case side1=>exact Kd.C_below HR0_3.out (bw HB.out));(case side2=>exact HC0_3.out);rintro e w20 ⟨v250,rfl,ho0,hb⟩;refine⟨_,rfl,?_⟩;have HO251:=A_ (Kd.R_lower ho0 (below_size (bw HB.out)));replace HO245:=A_ (Kd.R_below (by(with_reducible repeat (first|apply Kd.R_alloc|apply Kd.R_drewN|apply Kd.R_drew));exact(Kd.R_mono (Kd.R_far (p:=⟨gb242,2,none⟩) (Kd.R_types HO245.out BK242.out (by decide)) (fun _ hk=>hk.2) (.slice Ao17 t246.length co17)) (fun _ h_=>h_.1))) hb);replace HO248:=A_ (Kd.R_below (by(with_reducible repeat (first|apply Kd.R_alloc|apply Kd.R_drewN|apply Kd.R_drew));exact(Kd.R_mono (Kd.R_far (p:=⟨gb242,2,none⟩) (Kd.R_types HO248.out BK242.out (by decide)) (fun _ hk=>hk.2) (.slice Ao17 t246.length co17)) (fun _ h_=>h_.1))) hb);replace BK240:=A_ (blk_below (g:=gb240) (o:=.cells #[.slice A0_0 l0_0.length c0_0,.int .i64 a0_1,.slice A0_2 l0_2.length c0_2,.slice A0_3 l0_3.length c0_3] 84 (0,0)) (by refine blk_far ?_ NB240_242.out _;(with_reducible repeat (first|refine blk_drewN ?_ _|refine blk_drew ?_|refine blk_alloc ?_ _));exact BK240.out) hb);replace BK241:=A_ (blk_below (g:=gb241) (o:=.cells #[.slice none 0 0,.int .i64 0,.slice none 0 0,.slice none 0 0] 88 (0,0)) (by refine blk_far ?_ NB241_242.out _;(with_reducible repeat (first|refine blk_drewN ?_ _|refine blk_drew ?_|refine blk_alloc ?_ _));exact BK241.out) hb);replace BK242:=A_ (blk_below (g:=gb242) (o:=.cells #[.slice Ao12 t243.length co12,.int .i64 a0_1,.slice Ao17 t246.length co17,.slice none 0 0] 88 (0,0)) (by refine blk_put (cs:=#[.slice Ao12 t243.length co12,.int .i64 a0_1,.slice none 0 0,.slice none 0 0]) ?_ 2 _ rfl;(with_reducible repeat (first|refine blk_drewN ?_ _|refine blk_drew ?_|refine blk_alloc ?_ _));exact BK242.out) hb);replace HB:=bs_ HB hb;(try clear hb);(try clear hb2);(try clear hk);(try clear hi);(try clear ho0);obtain⟨Ao21,co21,eo21⟩:=Kd.R_slice HO251.out;subst eo21;obtain⟨hcz22_0,hcz22_1,hcz22_2,hcz22_3⟩:=cs4_ BK242.out;obtain⟨hfz22_0,hfz22_1,hfz22_2,hfz22_3⟩:=fz4_ BK242.out;obtain⟨hcz23_0,hcz23_1,hcz23_2,hcz23_3⟩:=cs4_ BK241.out;obtain⟨hfz23_0,hfz23_1,hfz23_2,hfz23_3⟩:=fz4_ BK241.out)|((with_reducible refine gate_store (t:=88) (p:=2) rfl ?_);refine store_event (t:=88) (p:=2) (v:=?vo_w24) (w1:=(((((w20.setCell ⟨gb242,3,none⟩ (.slice Ao21 t249.length co21)).setCell ⟨gb241,0,none⟩ (.slice Ao12 t243.length co12)).setCell ⟨gb241,1,none⟩ (.int .i64 a0_1)).setCell ⟨gb241,2,none⟩ (.slice Ao17 t246.length co17)).setCell ⟨gb241,3,none⟩ (.slice Ao21 t249.length co21))) ?hg ?ho ?hn ?hr ?_;(case ho=>rfl);(case hg=>rfl);(case hn=>rfl);(case hr=>first|(go_simp;done)|(go_simp;rfl));intro w24 hw;replace HO245:Aside0 (Kd.R (Kd.int .i64) 3 w24 w.heap.size (fun k_=>some k_≠(.slice Ao17 t246.length co17:Value).ownBlock) (.slice Ao12 t243.length co12) t243):=⟨(by rw[hw];exact(by(with_reducible repeat (first|apply Kd.R_alloc|apply Kd.R_drewN|apply Kd.R_drew));exact Kd.R_mono (Kd.R_far (p:=⟨gb241,3,none⟩) (Kd.R_far (p:=⟨gb241,2,none⟩) (Kd.R_far (p:=⟨gb241,1,none⟩) (Kd.R_far (p:=⟨gb241,0,none⟩) (Kd.R_far (p:=⟨gb242,3,none⟩) (Kd.R_types (Kd.R_types HO245.out BK242.out (by decide)) BK241.out (by decide)) (fun _ hk=>hk.1.2) (.slice Ao21 t249.length co21)) (fun _ hk=>hk.2) (.slice Ao12 t243.length co12)) (fun _ hk=>hk.2) (.int .i64 a0_1)) (fun _ hk=>hk.2) (.slice Ao17 t246.length co17)) (fun _ hk=>hk.2) (.slice Ao21 t249.length co21)) (fun _ hk=>hk.1.1.2)))⟩;replace HO248:Aside0 (Kd.R (Kd.int .i64) 3 w24 w.heap.size (fun k_=>some k_≠(.slice Ao12 t243.length co12:Value).ownBlock) (.slice Ao17 t246.length co17) t246):=⟨(by rw[hw];exact(by(with_reducible repeat (first|apply Kd.R_alloc|apply Kd.R_drewN|apply Kd.R_drew));exact Kd.R_mono (Kd.R_far (p:=⟨gb241,3,none⟩) (Kd.R_far (p:=⟨gb241,2,none⟩) (Kd.R_far (p:=⟨gb241,1,none⟩) (Kd.R_far (p:=⟨gb241,0,none⟩) (Kd.R_far (p:=⟨gb242,3,none⟩) (Kd.R_types (Kd.R_types HO248.out BK242.out (by decide)) BK241.out (by decide)) (fun _ hk=>hk.1.2) (.slice Ao21 t249.length co21)) (fun _ hk=>hk.2) (.slice Ao12 t243.length co12)) (fun _ hk=>hk.2) (.int .i64 a0_1)) (fun _ hk=>hk.2) (.slice Ao17 t246.length co17)) (fun _ hk=>hk.2) (.slice Ao21 t249.length co21)) (fun _ hk=>hk.1.1.2)))⟩;replace HO251:Aside0 (Kd.R k103 103 w24 w.heap.size (fun _=>True) (.slice Ao21 t249.length co21) t249):=⟨(by rw[hw];exact(by(with_reducible repeat (first|apply Kd.R_alloc|apply Kd.R_drewN|apply Kd.R_drew));exact Kd.R_mono (Kd.R_far (p:=⟨gb241,3,none⟩) (Kd.R_far (p:=⟨gb241,2,none⟩) (Kd.R_far (p:=⟨gb241,1,none⟩) (Kd.R_far (p:=⟨gb241,0,none⟩) (Kd.R_far (p:=⟨gb242,3,none⟩) (Kd.R_types (Kd.R_types HO251.out BK242.out (by decide)) BK241.out (by decide)) (fun _ hk=>hk.1.2) (.slice Ao21 t249.length co21)) (fun _ hk=>hk.2) (.slice Ao12 t243.length co12)) (fun _ hk=>hk.2) (.int .i64 a0_1)) (fun _ hk=>hk.2) (.slice Ao17 t246.length co17)) (fun _ hk=>hk.2) (.slice Ao21 t249.length co21)) (fun _ hk=>trivial)))⟩;replace BK240:Aside0 (w24.heap[gb240]? =some (.cells #[.slice A0_0 l0_0.length c0_0,.int .i64 a0_1,.slice A0_2 l0_2.length c0_2,.slice A0_3 l0_3.length c0_3] 84 (0,0))):=⟨(by rw[hw];exact(by refine blk_far ?_ NB240_241.out _;refine blk_far ?_ NB240_241.out _;refine blk_far ?_ NB240_241.out _;refine blk_far ?_ NB240_241.out _;refine blk_far ?_ NB240_242.out _;(with_reducible repeat (first|refine blk_drewN ?_ _|refine blk_drew ?_|refine blk_alloc ?_ _));exact BK240.out))⟩;replace BK241:Aside0 (w24.heap[gb241]? =some (.cells #[.slice Ao12 t243.length co12,.int .i64 a0_1,.slice Ao17 t246.length co17,.slice Ao21 t249.length co21] 88 (0,0))):=⟨(by rw[hw];exact(by refine blk_put (cs:=#[.slice Ao12 t243.length co12,.int .i64 a0_1,.slice Ao17 t246.length co17,.slice none 0 0]) ?_ 3 _ rfl;refine blk_put (cs:=#[.slice Ao12 t243.length co12,.int .i64 a0_1,.slice none 0 0,.slice none 0 0]) ?_ 2 _ rfl;refine blk_put (cs:=#[.slice Ao12 t243.length co12,.int .i64 0,.slice none 0 0,.slice none 0 0]) ?_ 1 _ rfl;refine blk_put (cs:=#[.slice none 0 0,.int .i64 0,.slice none 0 0,.slice none 0 0]) ?_ 0 _ rfl;refine blk_far ?_ NB241_242.out _;(with_reducible repeat (first|refine blk_drewN ?_ _|refine blk_drew ?_|refine blk_alloc ?_ _));exact BK241.out))⟩;replace BK242:Aside0 (w24.heap[gb242]? =some (.cells #[.slice Ao12 t243.length co12,.int .i64 a0_1,.slice Ao17 t246.length co17,.slice Ao21 t249.length co21] 88 (0,0))):=⟨(by rw[hw];exact(by refine blk_far ?_ NB242_241.out _;refine blk_far ?_ NB242_241.out _;refine blk_far ?_ NB242_241.out _;refine blk_far ?_ NB242_241.out _;refine blk_put (cs:=#[.slice Ao12 t243.length co12,.int .i64 a0_1,.slice Ao17 t246.length co17,.slice none 0 0]) ?_ 3 _ rfl;(with_reducible repeat (first|refine blk_drewN ?_ _|refine blk_drew ?_|refine blk_alloc ?_ _));exact BK242.out))⟩;replace HB:Aside0 (Below w.heap.size w w24):=⟨(by rw[hw];exact(bw HB.out))⟩;clear hw))
 refine bodyPost_ret (results_cell_row rfl _ _ gb241 88 #[.slice Ao12 t243.length co12,.int .i64 a0_1,.slice Ao17 t246.length co17,.slice Ao21 t249.length co21] (0,0) _ rfl (bk BK241.out) Try.underlying88 rfl (by kernel_rfl)) rfl ?_
 exact⟨_,_,_,rr_,kr_ HO245.out,kr_ HO248.out,kr_ HO251.out,bw HB.out⟩

/-! ### laws_toFuncS: function 25 -/
def laws_toFuncS.l0:Nat→List (S84)→List (S88)→Int→Option ((List (S88)))
 |0,_,_,_=>none
 |k+1,x0,x3,x4=>if x4<(x0.length:Int) then (if 0≤x4 then ((laws_toFunc.f k ((rd_T84 x0 x4).f0) ((rd_T84 x0 x4).f1) ((rd_T84 x0 x4).f2) ((rd_T84 x0 x4).f3)).bind fun bt256=>(if x4<(x3.length:Int) then (laws_toFuncS.l0 k x0 (x3.set (x4:Int).toNat (⟨bt256.1,bt256.2.1,bt256.2.2.1,bt256.2.2.2⟩:S88)) (wrap64 (x4+1))) else (none))) else (none)) else (some x3)
def laws_toFuncS.f (k:Nat) (l0:List (S84)):Option ((List (S88))):=if 0≤(l0.length:Int) then (if ((l0.length:Int):Int).toNat≤3518437208883 then (laws_toFuncS.l0 k l0 (List.replicate ((l0.length:Int):Int).toNat z88) 0) else (none)) else (none)
theorem laws_toFuncS.calls (k:Nat) (A0:Option Addr) (c0:Nat) (l0:List (S84)) (r:List (S88)) (w:World) (hr0:Kd.C k84 w A0 l0.length l0) (hc0:l0.length≤c0) (h:laws_toFuncS.f k l0=some r):
  Calls Try.prog 25 #[.slice A0 l0.length c0] w fun e w'=>∃ v0_:Value,e=.returned (v0_)∧Kd.S k88 88 w' w.heap.size (fun _=>True) v0_ r∧Below w.heap.size w w':=by
 have hu84:=Try.underlying84
 have hu88:=Try.underlying88
 have HR0:=A_ hr0
 have HC0:=A_ hc0
 clear hr0 hc0
 have HB:=A_ (Below.refl w.heap.size w)
 have H:(if 0≤(l0.length:Int) then (if ((l0.length:Int):Int).toNat≤3518437208883 then (laws_toFuncS.l0 k l0 (List.replicate ((l0.length:Int):Int).toNat z88) 0) else (none)) else (none))=some r:=h
 clear h
 replace H:=iq_ H
 obtain⟨c2b0,c2b1,H⟩:=H
 replace H:=iq_ H
 obtain⟨c3b0,c3b1,H⟩:=H
 obtain⟨y252,hy252⟩:∃ y_:List (S88),y_=(List.replicate ((l0.length:Int):Int).toNat z88):=⟨_,rfl⟩
 rw[←hy252] at H
 have Ny252:=A_ hy252
 clear hy252
 have H':=A_ H
 clear H
 go_enter Try.func25,Try.ntmps25
 go_wp2_with (first|((with_reducible refine gd_ 7 rfl ?_);refine Kd.S_make k88 _ 88 rfl (N:=7) rfl 35 _ _ rfl (l0.length:Int) rfl rfl Try.underlying35 (.agg #[(.slice none 0 0),(.int .i64 0),(.slice none 0 0),(.slice none 0 0)]) 80 info88 rfl (by decide) (by omega) z88 (ok:=fun _=>True) (okp:=fun _=>True) (k88_mkM _ _ _ z88 (Kd.R_nil _ _ _ _ _) (Kd.R_nil _ _ _ _ _) (Kd.R_nil _ _ _ _ _)) (fun _ hk=>hk) trivial (od_) (Nat.le_trans (Nat.mul_le_mul_right _ (od_:(l0.length:Int).toNat≤3518437208883)) (by omega)) (Below.refl _ _) (Nat.le_refl _) ?_;intro v253 w4 ho5 hb hg_ hnew_;clear hg_ hnew_;(first|rw[←Ny252.out] at ho5|(simp only[Int.reduceToNat] at ho5;rw[←Ny252.out] at ho5));have HO254:=A_ (Kd.S_lower ho5 (below_size (bw HB.out)));replace HB:=bs_ HB hb;clear hb ho5))
 (try simp only[Act.put,List.setIfInBounds_toArray,List.set_cons_zero,List.set_cons_succ])
 go_loopg [4] k (fun kq v4 w'=>∃ (x3_1:List (S88)) (x4_1:Int),v4=.int .i64 x4_1∧Aside0 (laws_toFuncS.l0 kq l0 x3_1 x4_1=some r)∧Aside0 (kq≤k)∧Aside0 (Kd.S k88 88 w' w.heap.size (fun _=>True) v253 x3_1)∧Aside0 (Below w.heap.size w w'))
 case atStart=>exact⟨(y252),(0),rs_,H',⟨Nat.le_refl _⟩,⟨ks_ HO254.out⟩,⟨bw HB.out⟩⟩
 case round=>
  clear H'
  try clear c2 c2b0 c2b1 c3 c3b0 c3b1
  obtain⟨x3_1,x4_1,rfl,HA,HK1,HO_3,HB⟩:=hrel
  cases gk with
  |zero=>exact absurd HA.out (by simp[laws_toFuncS.l0])
  |succ k1=>
   have H:=HA.out
   clear HA
   simp only[laws_toFuncS.l0] at H
   revert H
   refine iL_ (fun c6b0 H=>?_) (fun c6b0 H=>?_)
   ·
    replace H:=id_ H
    obtain⟨c7b0,H⟩:=H
    replace H:=Option.bind_eq_some_iff.mp H
    obtain⟨⟨t256,t259,t260,t263⟩,A80,H⟩:=H
    try dsimp only at H
    have A8:=A_ A80
    clear A80
    replace H:=id_ H
    obtain⟨c9b0,H⟩:=H
    obtain⟨y266,hy266⟩:∃ y_:List (S88),y_=(x3_1.set (x4_1:Int).toNat (⟨t256,t259,t260,t263⟩:S88)):=⟨_,rfl⟩
    rw[←hy266] at H
    have Ny266:=A_ hy266
    clear hy266
    have H':=A_ H
    clear H
    have p255:0≤(x4_1:Int):=od_
    have q255:x4_1<(l0.length:Int):=od_
    obtain⟨ad255,A255_0,c255_0,A255_2,c255_2,A255_3,c255_3,e255,hx255_0,hx255_1,hx255_2,hx255_3,hl255_0,hi255_0,hl255_2,hi255_2,hl255_3,hi255_3⟩:=at_T84 HR0.out x4_1 p255 q255
    cases e255
    replace hx255_0:=cl_ HB.out hx255_0
    replace hx255_1:=cl_ HB.out hx255_1
    replace hx255_2:=cl_ HB.out hx255_2
    replace hx255_3:=cl_ HB.out hx255_3
    have HR255_0:=A_ hi255_0
    have HC255_0:=A_ hl255_0
    clear hi255_0 hl255_0
    have HR255_2:=A_ hi255_2
    have HC255_2:=A_ hl255_2
    clear hi255_2 hl255_2
    have HR255_3:=A_ hi255_3
    have HC255_3:=A_ hl255_3
    clear hi255_3 hl255_3
    replace p255:=eq_true p255
    replace q255:=eq_true q255
    go_wp2_with (first|((with_reducible refine gc_ 42 rfl ?_);refine goesL_ (some 20) rfl rfl Try.func42 (by kernel_rfl) rfl #[.agg #[.slice A255_0 ((rd_T84 l0 x4_1).f0).length c255_0,.int .i64 ((rd_T84 l0 x4_1).f1),.slice A255_2 ((rd_T84 l0 x4_1).f2).length c255_2,.slice A255_3 ((rd_T84 l0 x4_1).f3).length c255_3]] rfl ar ?_;(with_reducible refine(laws_toFunc.calls k1 _ _ ((rd_T84 l0 x4_1).f0) ((rd_T84 l0 x4_1).f1) _ _ ((rd_T84 l0 x4_1).f2) _ _ ((rd_T84 l0 x4_1).f3) t256 t259 t260 t263 _ ?side1 ?side2 ?side3 ?side4 ?side5 ?side6 A8.out).mono ?_);(case side1=>exact cb_ HR255_0 HB);(case side2=>exact HC255_0.out);(case side3=>exact cb_ HR255_2 HB);(case side4=>exact HC255_2.out);(case side5=>exact cb_ HR255_3 HB);(case side6=>exact HC255_3.out);rintro e w11 ⟨v257,v261,v264,rfl,ho0,ho1,ho2,hb⟩;refine⟨_,rfl,?_⟩;have HO258:=A_ (Kd.R_lower ho0 (below_size (bw HB.out)));have HO262:=A_ (Kd.R_lower ho1 (below_size (bw HB.out)));have HO265:=A_ (Kd.R_lower ho2 (below_size (bw HB.out)));replace HO_3:=A_ (Kd.S_mono (Kd.S_told (Kd.S_told (Kd.S_told (Kd.S_old (ks_ HO_3.out) hb) (Kd.R_base ho0)) (Kd.R_base ho1)) (Kd.R_base ho2)) (fun _ h_=>h_.1));replace HB:=bs_ HB hb;(try clear hb);(try clear hb2);(try clear hk);(try clear hi);(try clear ho0);(try clear ho1);(try clear ho2);have p10:0≤(x4_1:Int):=od_;have q10:(x4_1:Int)<((x3_1.length:Int):Int):=od_;obtain⟨go10,co10,eo10,gb10,gl10,cl10,HG10⟩:=Kd.S_form HO_3.out (by omega);(first|cases eo10|(injection eo10 with ea_ en_ ec_;(first|subst ea_|(injection ea_ with ea_;subst ea_));subst ec_;clear en_));have GB10:=A_ gb10;have GG10:=A_ HG10;clear gb10 gl10 HG10;obtain⟨_,ce10,hcl10,hM10,hcc10,hfr10,_,_⟩:=Kd.S_elem HO_3.out z88 (x4_1:Int) p10 q10;obtain⟨ve10_0,ve10_2,ve10_3,rfl,ge10_0,ge10_2,ge10_3⟩:=k88_openM hM10;have hx10_0:w11.cell? ⟨go10,(x4_1:Int).toNat*4,none⟩=some (ve10_0):=hcc10 0 _ rfl;have hx10_1:w11.cell? ⟨go10,(x4_1:Int).toNat*4+1,none⟩=some (.int .i64 ((rd_T88 x3_1 x4_1).f1)):=hcc10 1 _ rfl;have hx10_2:w11.cell? ⟨go10,(x4_1:Int).toNat*4+2,none⟩=some (ve10_2):=hcc10 2 _ rfl;have hx10_3:w11.cell? ⟨go10,(x4_1:Int).toNat*4+3,none⟩=some (ve10_3):=hcc10 3 _ rfl;have hf10_0:w11.frozen? ⟨go10,(x4_1:Int).toNat*4,none⟩=false:=hfr10 0;have hf10_1:w11.frozen? ⟨go10,(x4_1:Int).toNat*4+1,none⟩=false:=hfr10 1;have hf10_2:w11.frozen? ⟨go10,(x4_1:Int).toNat*4+2,none⟩=false:=hfr10 2;have hf10_3:w11.frozen? ⟨go10,(x4_1:Int).toNat*4+3,none⟩=false:=hfr10 3;clear hcl10 hcc10 hfr10 hM10;replace p10:=eq_true p10;replace q10:=eq_true q10;have n_:=A_ (Kd.S_mono (ok':=(fun k_=>some k_≠(v257:Value).ownBlock∧some k_≠(v261:Value).ownBlock∧some k_≠(v264:Value).ownBlock)) HO_3.out (fun k_ hk=>⟨hk.1.1.2,⟨hk.1.2,hk.2⟩⟩));clear HO_3;have HO_3:=n_;clear n_;have HX12:=A_ (show Kd.S k88 88 w11 w.heap.size (fun k_=>((fun _=>True)) k_∧¬((fun k_=>some k_=(v257:Value).ownBlock∨some k_=(v261:Value).ownBlock∨some k_=(v264:Value).ownBlock)) k_) (.slice (some ⟨go10,0,none⟩) x3_1.length co10) x3_1 from(by(with_reducible repeat (first|apply Kd.S_alloc|apply Kd.S_drewN|apply Kd.S_drew));exact Kd.S_mono HO_3.out (fun k_ hk=>⟨trivial,fun e_=>e_.elim (fun h_=>hk.1 h_) (fun h_=>h_.elim (fun h_=>hk.2.1 h_) (fun h_=>hk.2.2 h_))⟩)));obtain⟨oki12,ce12,hcl12,hM12,hcc12,hfr12,hoki12,hH12⟩:=Kd.S_elem HX12.out z88 (x4_1:Int) (od_) (by have h_:(x4_1:Int)<((x3_1.length:Int):Int):=od_;first|exact h_|(have e_:=(Kd.S_reads' HO_3.out).1;omega)|simpa using h_);obtain⟨ve12_0,ve12_2,ve12_3,rfl,ge12_0,ge12_2,ge12_3⟩:=k88_openM hM12;have HP12:=Kd.S_seg hH12 (od_) (by have h_:(x4_1:Int)<((x3_1.length:Int):Int):=od_;first|exact h_|(have e_:=(Kd.S_reads' HO_3.out).1;omega)|simpa using h_) (seg:=[v257,.int .i64 t259,v261,v264]) (j:=0) (show 4≤4 from by decide) (x':=(⟨t256,t259,t260,t263⟩:S88)) (k88_mkM _ _ _ (⟨t256,t259,t260,t263⟩:S88) (Kd.R_mono (Kd.R_tight rfl (Kd.R_mono (ok':=fun k_=>((fun _=>True)) k_∧k_≠go10) (Kd.R_apart' (HO258.out) (Kd.S_typed HO_3.out) (by decide)) (fun k_ hk=>⟨trivial,fun e_=>(hk.2) (by rw[e_];rfl)⟩))) (fun _ h_=>Or.inr (Or.inl h_))) (Kd.R_mono (Kd.R_tight rfl (Kd.R_mono (ok':=fun k_=>((fun _=>True)) k_∧k_≠go10) (Kd.R_apart' (HO262.out) (Kd.S_typed HO_3.out) (by decide)) (fun k_ hk=>⟨trivial,fun e_=>(hk.2) (by rw[e_];rfl)⟩))) (fun _ h_=>Or.inr (Or.inr (Or.inl h_)))) (Kd.R_mono (Kd.R_tight rfl (Kd.R_mono (ok':=fun k_=>((fun _=>True)) k_∧k_≠go10) (Kd.R_apart' (HO265.out) (Kd.S_typed HO_3.out) (by decide)) (fun k_ hk=>⟨trivial,fun e_=>(hk.2) (by rw[e_];rfl)⟩))) (fun _ h_=>Or.inr (Or.inr (Or.inr (h_)))))) (fun _ hk=>hk) (fun k_ hk_=>hk_.elim (fun h_=>((Kd.R_mono (ok':=fun k_=>((fun _=>True)) k_∧k_≠go10) (Kd.R_apart' (HO258.out) (Kd.S_typed HO_3.out) (by decide)) (fun k_ hk=>⟨trivial,fun e_=>(hk.2) (by rw[e_];rfl)⟩))).1 k_ h_.symm) (fun h_=>h_.elim (fun h_=>((Kd.R_mono (ok':=fun k_=>((fun _=>True)) k_∧k_≠go10) (Kd.R_apart' (HO262.out) (Kd.S_typed HO_3.out) (by decide)) (fun k_ hk=>⟨trivial,fun e_=>(hk.2) (by rw[e_];rfl)⟩))).1 k_ h_.symm) (fun h_=>((Kd.R_mono (ok':=fun k_=>((fun _=>True)) k_∧k_≠go10) (Kd.R_apart' (HO265.out) (Kd.S_typed HO_3.out) (by decide)) (fun k_ hk=>⟨trivial,fun e_=>(hk.2) (by rw[e_];rfl)⟩))).1 k_ h_.symm)));have hx12_0:=hcc12 0 _ rfl;(try simp only[show (k88).sz=4 from rfl,Nat.mul_one,Nat.add_zero] at hx12_0);have hf12_0:=hfr12 0;(try simp only[show (k88).sz=4 from rfl,Nat.mul_one,Nat.add_zero] at hf12_0);have hx12_1:=hcc12 1 _ rfl;(try simp only[show (k88).sz=4 from rfl,Nat.mul_one,Nat.add_zero] at hx12_1);have hf12_1:=hfr12 1;(try simp only[show (k88).sz=4 from rfl,Nat.mul_one,Nat.add_zero] at hf12_1);have hx12_2:=hcc12 2 _ rfl;(try simp only[show (k88).sz=4 from rfl,Nat.mul_one,Nat.add_zero] at hx12_2);have hf12_2:=hfr12 2;(try simp only[show (k88).sz=4 from rfl,Nat.mul_one,Nat.add_zero] at hf12_2);have hx12_3:=hcc12 3 _ rfl;(try simp only[show (k88).sz=4 from rfl,Nat.mul_one,Nat.add_zero] at hx12_3);have hf12_3:=hfr12 3;(try simp only[show (k88).sz=4 from rfl,Nat.mul_one,Nat.add_zero] at hf12_3);clear hcl12 hcc12 hfr12 hM12 hoki12 hH12)|((with_reducible refine gate_store (t:=88) (p:=21) rfl ?_);refine store_event (t:=88) (p:=21) (v:=?vo_w13) (w1:=((((w11.setCell ⟨go10,(x4_1:Int).toNat*4,none⟩ (v257)).setCell ⟨go10,(x4_1:Int).toNat*4+1,none⟩ (.int .i64 t259)).setCell ⟨go10,(x4_1:Int).toNat*4+2,none⟩ (v261)).setCell ⟨go10,(x4_1:Int).toNat*4+3,none⟩ (v264))) ?hg ?ho ?hn ?hr ?_;(case ho=>rfl);(case hg=>rfl);(case hn=>rfl);(case hr=>(obtain⟨_,_,e0_⟩:=Kd.R_slice HO258.out;obtain⟨_,_,e1_⟩:=Kd.R_slice HO262.out;obtain⟨_,_,e2_⟩:=Kd.R_slice HO265.out;subst e0_ e1_ e2_;first|(go_simp;done)|(go_simp;rfl)));intro w13 hw;have hg:w11.grownBy w13 (some go10):=(by rw[hw];exact HP12.2);have hp_:Kd.S k88 88 w13 w.heap.size (fun _=>True) (.slice (some ⟨go10,0,none⟩) x3_1.length co10) y266:=(by rw[hw,Ny266.out];exact HP12.1);clear HP12;replace HO_3:=A_ (hp_);replace HB:=A_ ((by rw[hw];exact below_set (below_set (below_set (below_set (HB.out) GB10.out) GB10.out) GB10.out) GB10.out:Below w.heap.size w w13));clear HO258 HO262 HO265;clear hg hw hp_))
    go_roundg k1
    case measure=>have:=HK1.out;omega
    case rel=>exact⟨(y266),(wrap64 (x4_1+1)),rs_,H',⟨by have:=HK1.out;omega⟩,⟨ks_ HO_3.out⟩,⟨bw HB.out⟩⟩
   obtain rfl:=Option.some.inj H
   clear H
   go_wp2
   go_ret
   exact⟨_,rr_,ks_ HO_3.out,bw HB.out⟩

/-! ### laws_toGlobal: function 43 -/
def laws_toGlobal.f (a0_0:Int) (a0_1:Bool) (a0_2:Int):Option (Int × Bool × Int):=some (a0_0,a0_1,a0_2)
theorem laws_toGlobal.calls (a0_0:Int) (a0_1:Bool) (a0_2:Int) (r1:Int) (r2:Bool) (r3:Int) (w:World) (h:laws_toGlobal.f a0_0 a0_1 a0_2=some (r1,r2,r3)):
  Calls Try.prog 43 #[.agg #[.int .i64 a0_0,.bool a0_1,.int .u64 a0_2]] w fun e w'=>e=.returned (.agg #[.int .i64 r1,.bool r2,.int .u64 r3])∧Below w.heap.size w w':=by
 have hu91:=Try.underlying91
 have hu75:=Try.underlying75
 have HB:=A_ (Below.refl w.heap.size w)
 have H:(some (a0_0,a0_1,a0_2))=some (r1,r2,r3):=h
 clear h
 simp only[Option.some.injEq,Prod.mk.injEq] at H
 obtain⟨rfl,rfl,rfl⟩:=H
 go_enter Try.func43,Try.ntmps43
 go_wp2_with (first|((with_reducible refine gd_ 1 rfl ?_);refine bx_ #[.int .i64 a0_0,.bool a0_1,.int .u64 a0_2] 91 ?_;intro gb267 hg w2 hbox hb;have BK267:=A_ hbox;have GW267:=gw_ hg HB;have GE267:=GW267;replace HB:=bs_ HB hb;clear hb hbox hg)|((with_reducible refine gd_ 2 rfl ?_);refine bx_ #[.int .i64 0,.bool false,.int .u64 0] 75 ?_;intro gb268 hg w3 hbox hb;have BK268:=A_ hbox;have GW268:=gw_ hg HB;have GE268:=GW268;obtain⟨NB267_268,NB268_267⟩:=nb_ BK267 hg;replace BK267:=kb_ BK267 hb;replace HB:=bs_ HB hb;clear hb hbox hg)|((with_reducible refine gd_ 3 rfl ?_);refine bx_ #[.int .i64 0,.bool false,.int .u64 0] 75 ?_;intro gb269 hg w4 hbox hb;have BK269:=A_ hbox;have GW269:=gw_ hg HB;have GE269:=GW269;obtain⟨NB267_269,NB269_267⟩:=nb_ BK267 hg;obtain⟨NB268_269,NB269_268⟩:=nb_ BK268 hg;replace BK267:=kb_ BK267 hb;replace BK268:=kb_ BK268 hb;replace HB:=bs_ HB hb;clear hb hbox hg;have hnb5:=NB267_268.out;have hnc5:=NB268_267.out;have hnb6:=NB267_269.out;have hnc6:=NB269_267.out;obtain⟨hcz7_0,hcz7_1,hcz7_2⟩:=cs3_ BK267.out;obtain⟨hfz7_0,hfz7_1,hfz7_2⟩:=fz3_ BK267.out;have hnb8:=NB269_268.out;have hnc8:=NB268_269.out;obtain⟨hcz9_0,hcz9_1,hcz9_2⟩:=cs3_ BK269.out;obtain⟨hfz9_0,hfz9_1,hfz9_2⟩:=fz3_ BK269.out;obtain⟨hcz10_0,hcz10_1,hcz10_2⟩:=cs3_ BK268.out;obtain⟨hfz10_0,hfz10_1,hfz10_2⟩:=fz3_ BK268.out)|((with_reducible refine gate_store (t:=75) (p:=2) rfl ?_);refine store_event (t:=75) (p:=2) (v:=?vo_w11) (w1:=((((((w4.setCell ⟨gb269,0,none⟩ (.int .i64 a0_0)).setCell ⟨gb269,1,none⟩ (.bool a0_1)).setCell ⟨gb269,2,none⟩ (.int .u64 a0_2)).setCell ⟨gb268,0,none⟩ (.int .i64 a0_0)).setCell ⟨gb268,1,none⟩ (.bool a0_1)).setCell ⟨gb268,2,none⟩ (.int .u64 a0_2))) ?hg ?ho ?hn ?hr ?_;(case ho=>rfl);(case hg=>rfl);(case hn=>rfl);(case hr=>first|(go_simp;done)|(go_simp;rfl));intro w11 hw;replace BK267:Aside0 (w11.heap[gb267]? =some (.cells #[.int .i64 a0_0,.bool a0_1,.int .u64 a0_2] 91 (0,0))):=⟨(by rw[hw];exact(by refine blk_far ?_ NB267_268.out _;refine blk_far ?_ NB267_268.out _;refine blk_far ?_ NB267_268.out _;refine blk_far ?_ NB267_269.out _;refine blk_far ?_ NB267_269.out _;refine blk_far ?_ NB267_269.out _;(with_reducible repeat (first|refine blk_drewN ?_ _|refine blk_drew ?_|refine blk_alloc ?_ _));exact BK267.out))⟩;replace BK268:Aside0 (w11.heap[gb268]? =some (.cells #[.int .i64 a0_0,.bool a0_1,.int .u64 a0_2] 75 (0,0))):=⟨(by rw[hw];exact(by refine blk_put (cs:=#[.int .i64 a0_0,.bool a0_1,.int .u64 0]) ?_ 2 _ rfl;refine blk_put (cs:=#[.int .i64 a0_0,.bool false,.int .u64 0]) ?_ 1 _ rfl;refine blk_put (cs:=#[.int .i64 0,.bool false,.int .u64 0]) ?_ 0 _ rfl;refine blk_far ?_ NB268_269.out _;refine blk_far ?_ NB268_269.out _;refine blk_far ?_ NB268_269.out _;(with_reducible repeat (first|refine blk_drewN ?_ _|refine blk_drew ?_|refine blk_alloc ?_ _));exact BK268.out))⟩;replace BK269:Aside0 (w11.heap[gb269]? =some (.cells #[.int .i64 a0_0,.bool a0_1,.int .u64 a0_2] 75 (0,0))):=⟨(by rw[hw];exact(by refine blk_far ?_ NB269_268.out _;refine blk_far ?_ NB269_268.out _;refine blk_far ?_ NB269_268.out _;refine blk_put (cs:=#[.int .i64 a0_0,.bool a0_1,.int .u64 0]) ?_ 2 _ rfl;refine blk_put (cs:=#[.int .i64 a0_0,.bool false,.int .u64 0]) ?_ 1 _ rfl;refine blk_put (cs:=#[.int .i64 0,.bool false,.int .u64 0]) ?_ 0 _ rfl;(with_reducible repeat (first|refine blk_drewN ?_ _|refine blk_drew ?_|refine blk_alloc ?_ _));exact BK269.out))⟩;replace HB:Aside0 (Below w.heap.size w w11):=⟨(by rw[hw];exact(bw HB.out))⟩;clear hw))
 refine bodyPost_ret (results_cell_row rfl _ _ gb268 75 #[.int .i64 a0_0,.bool a0_1,.int .u64 a0_2] (0,0) _ rfl (bk BK268.out) Try.underlying75 rfl (by kernel_rfl)) rfl ?_
 exact⟨rr_,bw HB.out⟩

/-! ### laws_toGlobalS: function 26 -/
def laws_toGlobalS.l0:Nat→List (S91)→List (S75)→Int→Option ((List (S75)))
 |0,_,_,_=>none
 |k+1,x0,x3,x4=>if x4<(x0.length:Int) then (if 0≤x4 then ((laws_toGlobal.f ((rd_T91 x0 x4).f0) ((rd_T91 x0 x4).f1) ((rd_T91 x0 x4).f2)).bind fun bt274=>(if x4<(x3.length:Int) then (laws_toGlobalS.l0 k x0 (x3.set (x4:Int).toNat (⟨bt274.1,bt274.2.1,bt274.2.2⟩:S75)) (wrap64 (x4+1))) else (none))) else (none)) else (some x3)
def laws_toGlobalS.f (k:Nat) (l0:List (S91)):Option ((List (S75))):=if 0≤(l0.length:Int) then (if ((l0.length:Int):Int).toNat≤11728124029610 then (laws_toGlobalS.l0 k l0 (List.replicate ((l0.length:Int):Int).toNat z75) 0) else (none)) else (none)
theorem laws_toGlobalS.calls (k:Nat) (A0:Option Addr) (c0:Nat) (l0:List (S91)) (r:List (S75)) (w:World) (hr0:Kd.C k91 w A0 l0.length l0) (hc0:l0.length≤c0) (h:laws_toGlobalS.f k l0=some r):
  Calls Try.prog 26 #[.slice A0 l0.length c0] w fun e w'=>∃ v0_:Value,e=.returned (v0_)∧Kd.R k75 75 w' w.heap.size (fun _=>True) v0_ r∧Below w.heap.size w w':=by
 have hu91:=Try.underlying91
 have hu75:=Try.underlying75
 have HR0:=A_ hr0
 have HC0:=A_ hc0
 clear hr0 hc0
 have HB:=A_ (Below.refl w.heap.size w)
 have H:(if 0≤(l0.length:Int) then (if ((l0.length:Int):Int).toNat≤11728124029610 then (laws_toGlobalS.l0 k l0 (List.replicate ((l0.length:Int):Int).toNat z75) 0) else (none)) else (none))=some r:=h
 clear h
 replace H:=iq_ H
 obtain⟨c2b0,c2b1,H⟩:=H
 replace H:=iq_ H
 obtain⟨c3b0,c3b1,H⟩:=H
 obtain⟨y270,hy270⟩:∃ y_:List (S75),y_=(List.replicate ((l0.length:Int):Int).toNat z75):=⟨_,rfl⟩
 rw[←hy270] at H
 have Ny270:=A_ hy270
 clear hy270
 have H':=A_ H
 clear H
 go_enter Try.func26,Try.ntmps26
 go_wp2_with (first|((with_reducible refine gd_ 7 rfl ?_);refine Kd.R_make k75 _ 75 rfl (N:=7) rfl 36 _ _ rfl (l0.length:Int) rfl rfl Try.underlying36 (.agg #[(.int .i64 0),(.bool false),(.int .u64 0)]) 24 info75 rfl (by decide) (by omega) z75 (ok:=fun _=>True) (okp:=fun _=>True) (k75_mkM _ _ _ z75) (fun _ hk=>hk) trivial (od_) (Nat.le_trans (Nat.mul_le_mul_right _ (od_:(l0.length:Int).toNat≤11728124029610)) (by omega)) (Below.refl _ _) (Nat.le_refl _) ?_;intro v271 w4 ho5 hb hg_ hnew_;clear hg_ hnew_;(first|rw[←Ny270.out] at ho5|(simp only[Int.reduceToNat] at ho5;rw[←Ny270.out] at ho5));have HO272:=A_ (Kd.R_lower ho5 (below_size (bw HB.out)));replace HB:=bs_ HB hb;clear hb ho5))
 (try simp only[Act.put,List.setIfInBounds_toArray,List.set_cons_zero,List.set_cons_succ])
 go_loopg [4] k (fun kq v4 w'=>∃ (x3_1:List (S75)) (x4_1:Int),v4=.int .i64 x4_1∧Aside0 (laws_toGlobalS.l0 kq l0 x3_1 x4_1=some r)∧Aside0 (kq≤k)∧Aside0 (Kd.R k75 75 w' w.heap.size (fun _=>True) v271 x3_1)∧Aside0 (Below w.heap.size w w'))
 case atStart=>exact⟨(y270),(0),rs_,H',⟨Nat.le_refl _⟩,⟨kr_ HO272.out⟩,⟨bw HB.out⟩⟩
 case round=>
  clear H'
  try clear c2 c2b0 c2b1 c3 c3b0 c3b1
  obtain⟨x3_1,x4_1,rfl,HA,HK1,HO_3,HB⟩:=hrel
  cases gk with
  |zero=>exact absurd HA.out (by simp[laws_toGlobalS.l0])
  |succ k1=>
   have H:=HA.out
   clear HA
   simp only[laws_toGlobalS.l0] at H
   revert H
   refine iL_ (fun c6b0 H=>?_) (fun c6b0 H=>?_)
   ·
    replace H:=id_ H
    obtain⟨c7b0,H⟩:=H
    replace H:=Option.bind_eq_some_iff.mp H
    obtain⟨⟨t274,t275,t276⟩,A80,H⟩:=H
    try dsimp only at H
    have A8:=A_ A80
    clear A80
    replace H:=id_ H
    obtain⟨c9b0,H⟩:=H
    obtain⟨y277,hy277⟩:∃ y_:List (S75),y_=(x3_1.set (x4_1:Int).toNat (⟨t274,t275,t276⟩:S75)):=⟨_,rfl⟩
    rw[←hy277] at H
    have Ny277:=A_ hy277
    clear hy277
    have H':=A_ H
    clear H
    have p273:0≤(x4_1:Int):=od_
    have q273:x4_1<(l0.length:Int):=od_
    obtain⟨ad273,e273,hx273_0,hx273_1,hx273_2⟩:=at_T91 HR0.out x4_1 p273 q273
    cases e273
    replace hx273_0:=cl_ HB.out hx273_0
    replace hx273_1:=cl_ HB.out hx273_1
    replace hx273_2:=cl_ HB.out hx273_2
    replace p273:=eq_true p273
    replace q273:=eq_true q273
    go_wp2_with (first|((with_reducible refine gc_ 43 rfl ?_);refine gm_ (some 20) Try.func43 (laws_toGlobal.calls ((rd_T91 l0 x4_1).f0) ((rd_T91 l0 x4_1).f1) ((rd_T91 l0 x4_1).f2) t274 t275 t276 _ A8.out) ?_;intro w11 hb;replace HO_3:=A_ (Kd.R_below (kr_ HO_3.out) hb);replace HB:=bs_ HB hb;(try clear hb);have p10:0≤(x4_1:Int):=od_;have q10:(x4_1:Int)<((x3_1.length:Int):Int):=od_;obtain⟨go10,co10,eo10,gb10,gl10,cl10,HG10⟩:=Kd.R_form HO_3.out (by omega);(first|cases eo10|(injection eo10 with ea_ en_ ec_;(first|subst ea_|(injection ea_ with ea_;subst ea_));subst ec_;clear en_));have GB10:=A_ gb10;have GG10:=A_ HG10;clear gb10 gl10 HG10;obtain⟨ce10,hcl10,hM10,hcc10,hfr10⟩:=Kd.R_elem HO_3.out z75 (x4_1:Int) p10 q10;obtain rfl:=k75_openM hM10;have hx10_0:w11.cell? ⟨go10,(x4_1:Int).toNat*3,none⟩=some (.int .i64 ((rd_T75 x3_1 x4_1).f0)):=hcc10 0 _ rfl;have hx10_1:w11.cell? ⟨go10,(x4_1:Int).toNat*3+1,none⟩=some (.bool ((rd_T75 x3_1 x4_1).f1)):=hcc10 1 _ rfl;have hx10_2:w11.cell? ⟨go10,(x4_1:Int).toNat*3+2,none⟩=some (.int .u64 ((rd_T75 x3_1 x4_1).f2)):=hcc10 2 _ rfl;have hf10_0:w11.frozen? ⟨go10,(x4_1:Int).toNat*3,none⟩=false:=hfr10 0;have hf10_1:w11.frozen? ⟨go10,(x4_1:Int).toNat*3+1,none⟩=false:=hfr10 1;have hf10_2:w11.frozen? ⟨go10,(x4_1:Int).toNat*3+2,none⟩=false:=hfr10 2;clear hcl10 hcc10 hfr10 hM10;replace p10:=eq_true p10;replace q10:=eq_true q10;have HX12:=A_ (show Kd.R k75 75 w11 w.heap.size (fun _=>True) (.slice (some ⟨go10,0,none⟩) x3_1.length co10) x3_1 from(kr_ HO_3.out));obtain⟨ce12,hcl12,hM12,hcc12,hfr12⟩:=Kd.R_elem HX12.out z75 (x4_1:Int) (od_) (by have h_:(x4_1:Int)<((x3_1.length:Int):Int):=od_;first|exact h_|(have e_:=(Kd.R_reads' HO_3.out).1;omega)|simpa using h_);obtain rfl:=k75_openM hM12;have HP12:=Kd.R_seg HX12.out (x4_1:Int) (od_) (by have h_:(x4_1:Int)<((x3_1.length:Int):Int):=od_;first|exact h_|(have e_:=(Kd.R_reads' HO_3.out).1;omega)|simpa using h_) (seg:=[.int .i64 t274,.bool t275,.int .u64 t276]) (j:=0) hcl12 hcc12 (show 3≤3 from by decide) (x':=(⟨t274,t275,t276⟩:S75)) (k75_mkM _ _ _ (⟨t274,t275,t276⟩:S75)) (fun _ hk=>hk);have hx12_0:=hcc12 0 _ rfl;(try simp only[show (k75).sz=3 from rfl,Nat.mul_one,Nat.add_zero] at hx12_0);have hf12_0:=hfr12 0;(try simp only[show (k75).sz=3 from rfl,Nat.mul_one,Nat.add_zero] at hf12_0);have hx12_1:=hcc12 1 _ rfl;(try simp only[show (k75).sz=3 from rfl,Nat.mul_one,Nat.add_zero] at hx12_1);have hf12_1:=hfr12 1;(try simp only[show (k75).sz=3 from rfl,Nat.mul_one,Nat.add_zero] at hf12_1);have hx12_2:=hcc12 2 _ rfl;(try simp only[show (k75).sz=3 from rfl,Nat.mul_one,Nat.add_zero] at hx12_2);have hf12_2:=hfr12 2;(try simp only[show (k75).sz=3 from rfl,Nat.mul_one,Nat.add_zero] at hf12_2);clear hcl12 hcc12 hfr12 hM12)|((with_reducible refine gate_store (t:=75) (p:=21) rfl ?_);refine store_event (t:=75) (p:=21) (v:=?vo_w13) (w1:=(((w11.setCell ⟨go10,(x4_1:Int).toNat*3,none⟩ (.int .i64 t274)).setCell ⟨go10,(x4_1:Int).toNat*3+1,none⟩ (.bool t275)).setCell ⟨go10,(x4_1:Int).toNat*3+2,none⟩ (.int .u64 t276))) ?hg ?ho ?hn ?hr ?_;(case ho=>rfl);(case hg=>rfl);(case hn=>rfl);(case hr=>first|(go_simp;done)|(go_simp;rfl));intro w13 hw;have hg:w11.grownBy w13 (some go10):=(by rw[hw];exact HP12.2);have hp_:Kd.R k75 75 w13 w.heap.size (fun _=>True) (.slice (some ⟨go10,0,none⟩) x3_1.length co10) y277:=(by rw[hw,Ny277.out];exact HP12.1);clear HP12;replace HO_3:=A_ (hp_);replace HB:=A_ ((by rw[hw];exact below_set (below_set (below_set (HB.out) GB10.out) GB10.out) GB10.out:Below w.heap.size w w13));clear hg hw hp_))
    go_roundg k1
    case measure=>have:=HK1.out;omega
    case rel=>exact⟨(y277),(wrap64 (x4_1+1)),rs_,H',⟨by have:=HK1.out;omega⟩,⟨kr_ HO_3.out⟩,⟨bw HB.out⟩⟩
   obtain rfl:=Option.some.inj H
   clear H
   go_wp2
   go_ret
   exact⟨_,rr_,kr_ HO_3.out,bw HB.out⟩
end Go.Proofs.Ytanhbfhmgmjdgaa.Q

