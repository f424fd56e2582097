-- Written by a program of this session; it walks the functions that the law reaches.
import Derived.Test.YtghogonibanieaaQx0
import Derived.Test.YtghogonibanieaaQx2
import Derived.Test.YtghogonibanieaaQx1
namespace Go.Proofs.Ytghogonibanieaa.Q
open Go.RowKit Go.Proofs.YtghogonibanieaaW.PrintWords Go.Proofs.YtghogonibanieaaW.PrintLast Go.Proofs.YtghogonibanieaaW.PrintMore
attribute [local go_sem] max2_int min2_int max_two min_two max_three min_three max_four min_four   -- for this text's walks alone
set_option linter.unusedVariables false
set_option linter.unusedSimpArgs false
set_option maxRecDepth 100000
set_option maxHeartbeats 8000000

/-! ### laws_toInsS: function 50 -/
def laws_toInsS.l0:Nat→List (S107)→List (S71)→Int→Option ((List (S71)))
 |0,_,_,_=>none
 |k+1,x0,x3,x4=>if x4<(x0.length:Int) then (if 0≤x4 then ((laws_toIns.f ((rd_T107 x0 x4).f0) ((rd_T107 x0 x4).f1)).bind fun bt211=>(if x4<(x3.length:Int) then (laws_toInsS.l0 k x0 (x3.set (x4:Int).toNat (⟨bt211.1,bt211.2⟩:S71)) (wrap64 (x4+1))) else (none))) else (none)) else (some x3)
def laws_toInsS.f (k:Nat) (l0:List (S107)):Option ((List (S71))):=if 0≤(l0.length:Int) then (if ((l0.length:Int):Int).toNat≤17592186044416 then (laws_toInsS.l0 k l0 (List.replicate ((l0.length:Int):Int).toNat z71) 0) else (none)) else (none)
theorem laws_toInsS.calls (k:Nat) (A0:Option Addr) (c0:Nat) (l0:List (S107)) (r:List (S71)) (w:World) (hr0:Kd.C k107 w A0 l0.length l0) (hc0:l0.length≤c0) (h:laws_toInsS.f k l0=some r):
  Calls Try.prog 50 #[.slice A0 l0.length c0] w fun e w'=>∃ v0_:Value,e=.returned (v0_)∧Kd.R k71 71 w' w.heap.size (fun _=>True) v0_ r∧Below w.heap.size w w':=by
 have hu107:=Try.underlying107
 have hu71:=Try.underlying71
 have HR0:=A_ hr0
 have HC0:=A_ hc0
 clear hr0 hc0
 have HB:=A_ (Below.refl w.heap.size w)
 have H:(if 0≤(l0.length:Int) then (if ((l0.length:Int):Int).toNat≤17592186044416 then (laws_toInsS.l0 k l0 (List.replicate ((l0.length:Int):Int).toNat z71) 0) else (none)) else (none))=some r:=h
 clear h
 by_cases c2:0≤(l0.length:Int)
 ·
  rw[if_pos c2] at H
  have c2b0:=eq_true c2
  have c2b1:=decide_eq_true c2
  clear c2
  by_cases c3:((l0.length:Int):Int).toNat≤17592186044416
  ·
   rw[if_pos c3] at H
   have c3b0:=eq_true c3
   have c3b1:=decide_eq_true c3
   clear c3
   obtain⟨y207,hy207⟩:∃ y_:List (S71),y_=(List.replicate ((l0.length:Int):Int).toNat z71):=⟨_,rfl⟩
   replace H:(laws_toInsS.l0 k l0 y207 0)=some r:=by first|(rw[hy207];with_reducible exact H)|(have H2_:=(Option.bind_some _ _).symm.trans H;rw[hy207];with_reducible exact H2_)|(have H2_:=(Option.bind_some _ _).symm.trans H;with_reducible exact H2_)|with_reducible exact H|(rw[hy207];exact H)|exact H
   have Ny207:=A_ hy207
   clear hy207
   have H':=A_ H
   clear H
   go_enter Try.func50,Try.ntmps50
   go_wp2_with (first|((with_reducible refine gd_ 7 rfl ?_);refine Kd.R_make k71 _ 71 rfl (N:=7) rfl 57 _ _ rfl (l0.length:Int) rfl rfl Try.underlying57 (.agg #[(.int .i64 0),(.int .i64 0)]) 16 info71 rfl (by decide) (by omega) z71 (ok:=fun _=>True) (okp:=fun _=>True) (k71_mkM _ _ _ z71) (fun _ hk=>hk) trivial (od_) (Nat.le_trans (Nat.mul_le_mul_right _ (od_:(l0.length:Int).toNat≤17592186044416)) (by omega)) (Below.refl _ _) (Nat.le_refl _) ?_;intro v208 w4 ho5 hb hg_ hnew_;clear hg_ hnew_;(first|rw[←Ny207.out] at ho5|(simp only[Int.reduceToNat] at ho5;rw[←Ny207.out] at ho5));have HO209:=A_ (Kd.R_lower ho5 (below_size (bw HB.out)));replace HB:=bs_ HB hb;clear hb ho5))
   (try simp only[Act.put,List.setIfInBounds_toArray,List.set_cons_zero,List.set_cons_succ])
   go_loopg [4] k (fun kq v4 w'=>∃ (x3_1:List (S71)) (x4_1:Int),v4=.int .i64 x4_1∧Aside0 (laws_toInsS.l0 kq l0 x3_1 x4_1=some r)∧Aside0 (kq≤k)∧Aside0 (Kd.R k71 71 w' w.heap.size (fun _=>True) v208 x3_1)∧Aside0 (Below w.heap.size w w'))
   case atStart=>exact⟨(y207),(0),rs_,H',⟨Nat.le_refl _⟩,⟨kr_ HO209.out⟩,⟨bw HB.out⟩⟩
   case round=>
    clear H'
    try clear c2 c2b0 c2b1 c3 c3b0 c3b1
    obtain⟨x3_1,x4_1,rfl,HA,HK1,HO_3,HB⟩:=hrel
    cases gk with
    |zero=>exact absurd HA.out (by simp[laws_toInsS.l0])
    |succ k1=>
     have H:=HA.out
     clear HA
     simp only[laws_toInsS.l0] at H
     by_cases c6:x4_1<(l0.length:Int)
     ·
      rw[if_pos c6] at H
      have c6b0:=decide_eq_true c6
      clear c6
      by_cases c7:0≤x4_1
      ·
       rw[if_pos c7] at H
       have c7b0:=decide_eq_true c7
       clear c7
       replace H:=Option.bind_eq_some_iff.mp H
       obtain⟨⟨t211,t212⟩,A80,H⟩:=H
       replace H:(if x4_1<(x3_1.length:Int) then (laws_toInsS.l0 k1 l0 (x3_1.set (x4_1:Int).toNat (⟨t211,t212⟩:S71)) (wrap64 (x4_1+1))) else (none))=some r:=H
       have A8:=A_ A80
       clear A80
       by_cases c9:x4_1<(x3_1.length:Int)
       ·
        rw[if_pos c9] at H
        have c9b0:=decide_eq_true c9
        clear c9
        obtain⟨y213,hy213⟩:∃ y_:List (S71),y_=(x3_1.set (x4_1:Int).toNat (⟨t211,t212⟩:S71)):=⟨_,rfl⟩
        replace H:(laws_toInsS.l0 k1 l0 y213 (wrap64 (x4_1+1)))=some r:=by first|(rw[hy213];with_reducible exact H)|(have H2_:=(Option.bind_some _ _).symm.trans H;rw[hy213];with_reducible exact H2_)|(have H2_:=(Option.bind_some _ _).symm.trans H;with_reducible exact H2_)|with_reducible exact H|(rw[hy213];exact H)|exact H
        have Ny213:=A_ hy213
        clear hy213
        have H':=A_ H
        clear H
        have p210:0≤(x4_1:Int):=od_
        have q210:x4_1<(l0.length:Int):=od_
        obtain⟨ad210,e210,hx210_0,hx210_1⟩:=at_T107 HR0.out x4_1 p210 q210
        cases e210
        replace hx210_0:=cl_ HB.out hx210_0
        replace hx210_1:=cl_ HB.out hx210_1
        replace p210:=eq_true p210
        replace q210:=eq_true q210
        go_wp2_with (first|((with_reducible refine gc_ 67 rfl ?_);refine gm_ (some 20) Try.func67 (laws_toIns.calls ((rd_T107 l0 x4_1).f0) ((rd_T107 l0 x4_1).f1) t211 t212 _ A8.out) ?_;intro w11 hb;replace HO_3:=A_ (Kd.R_below (kr_ HO_3.out) hb);replace HB:=bs_ HB hb;(try clear hb);have p10:0≤(x4_1:Int):=od_;have q10:(x4_1:Int)<((x3_1.length:Int):Int):=od_;obtain⟨go10,co10,eo10,gb10,gl10,cl10,HG10⟩:=Kd.R_form HO_3.out (by omega);(first|cases eo10|(injection eo10 with ea_ en_ ec_;(first|subst ea_|(injection ea_ with ea_;subst ea_));subst ec_;clear en_));have GB10:=A_ gb10;have GG10:=A_ HG10;clear gb10 gl10 HG10;obtain⟨ce10,hcl10,hM10,hcc10,hfr10⟩:=Kd.R_elem HO_3.out z71 (x4_1:Int) p10 q10;obtain rfl:=k71_openM hM10;have hx10_0:w11.cell? ⟨go10,(x4_1:Int).toNat*2,none⟩=some (.int .i64 ((rd_T71 x3_1 x4_1).f0)):=hcc10 0 _ rfl;have hx10_1:w11.cell? ⟨go10,(x4_1:Int).toNat*2+1,none⟩=some (.int .i64 ((rd_T71 x3_1 x4_1).f1)):=hcc10 1 _ rfl;have hf10_0:w11.frozen? ⟨go10,(x4_1:Int).toNat*2,none⟩=false:=hfr10 0;have hf10_1:w11.frozen? ⟨go10,(x4_1:Int).toNat*2+1,none⟩=false:=hfr10 1;clear hcl10 hcc10 hfr10 hM10;replace p10:=eq_true p10;replace q10:=eq_true q10;have HX12:=A_ (show Kd.R k71 71 w11 w.heap.size (fun _=>True) (.slice (some ⟨go10,0,none⟩) x3_1.length co10) x3_1 from(kr_ HO_3.out));obtain⟨ce12,hcl12,hM12,hcc12,hfr12⟩:=Kd.R_elem HX12.out z71 (x4_1:Int) (od_) (by have h_:(x4_1:Int)<((x3_1.length:Int):Int):=od_;first|exact h_|(have e_:=(Kd.R_reads' HO_3.out).1;omega)|simpa using h_);obtain rfl:=k71_openM hM12;have HP12:=Kd.R_seg HX12.out (x4_1:Int) (od_) (by have h_:(x4_1:Int)<((x3_1.length:Int):Int):=od_;first|exact h_|(have e_:=(Kd.R_reads' HO_3.out).1;omega)|simpa using h_) (seg:=[.int .i64 t211,.int .i64 t212]) (j:=0) hcl12 hcc12 (show 2≤2 from by decide) (x':=(⟨t211,t212⟩:S71)) (k71_mkM _ _ _ (⟨t211,t212⟩:S71)) (fun _ hk=>hk);have hx12_0:=hcc12 0 _ rfl;(try simp only[show (k71).sz=2 from rfl,Nat.mul_one,Nat.add_zero] at hx12_0);have hf12_0:=hfr12 0;(try simp only[show (k71).sz=2 from rfl,Nat.mul_one,Nat.add_zero] at hf12_0);have hx12_1:=hcc12 1 _ rfl;(try simp only[show (k71).sz=2 from rfl,Nat.mul_one,Nat.add_zero] at hx12_1);have hf12_1:=hfr12 1;(try simp only[show (k71).sz=2 from rfl,Nat.mul_one,Nat.add_zero] at hf12_1);clear hcl12 hcc12 hfr12 hM12)|((with_reducible refine gate_store (t:=71) (p:=21) rfl ?_);refine store_event (t:=71) (p:=21) (v:=?vo_w13) (w1:=((w11.setCell ⟨go10,(x4_1:Int).toNat*2,none⟩ (.int .i64 t211)).setCell ⟨go10,(x4_1:Int).toNat*2+1,none⟩ (.int .i64 t212))) ?hg ?ho ?hn ?hr ?_;(case ho=>rfl);(case hg=>rfl);(case hn=>rfl);(case hr=>first|(go_simp;done)|(go_simp;rfl));intro w13 hw;have hg:w11.grownBy w13 (some go10):=(by rw[hw];exact HP12.2);have hp_:Kd.R k71 71 w13 w.heap.size (fun _=>True) (.slice (some ⟨go10,0,none⟩) x3_1.length co10) y213:=(by rw[hw,Ny213.out];exact HP12.1);clear HP12;replace HO_3:=A_ (hp_);replace HB:=A_ ((by rw[hw];exact below_set (below_set (HB.out) GB10.out) GB10.out:Below w.heap.size w w13));clear hg hw hp_))
        go_roundg k1
        case measure=>have:=HK1.out;omega
        case rel=>exact⟨(y213),(wrap64 (x4_1+1)),rs_,H',⟨by have:=HK1.out;omega⟩,⟨kr_ HO_3.out⟩,⟨bw HB.out⟩⟩
       rw[if_neg c9] at H
       exact absurd H (by simp)
      rw[if_neg c7] at H
      exact absurd H (by simp)
     rw[if_neg c6] at H
     have c6b0:=decide_eq_false c6
     clear c6
     obtain rfl:=Option.some.inj H
     clear H
     go_wp2
     go_ret
     exact⟨_,rr_,kr_ HO_3.out,bw HB.out⟩
  rw[if_neg c3] at H
  exact absurd H (by simp)
 rw[if_neg c2] at H
 exact absurd H (by simp)

/-! ### laws_toFunc: function 31 -/
def laws_toFunc.f (k:Nat) (l0_0:List Int) (a0_1:Int) (l0_2:List Int) (l0_3:List (S107)):Option (List Int × Int × List Int × (List (S71))):=(laws_toIntS.f k l0_0).bind fun t217=>((laws_toIntS.f k l0_2).bind fun t220=>((laws_toInsS.f k l0_3).bind fun t223=>(some (t217,a0_1,t220,t223))))
theorem laws_toFunc.calls (k:Nat) (A0_0:Option Addr) (c0_0:Nat) (l0_0:List Int) (a0_1:Int) (A0_2:Option Addr) (c0_2:Nat) (l0_2:List Int) (A0_3:Option Addr) (c0_3:Nat) (l0_3:List (S107)) (r1:List Int) (r2:Int) (r3:List Int) (r4:List (S71)) (w:World) (hr0_0:Kd.C (Kd.int .i64) w A0_0 l0_0.length l0_0) (hc0_0:l0_0.length≤c0_0) (hr0_2:Kd.C (Kd.int .i64) w A0_2 l0_2.length l0_2) (hc0_2:l0_2.length≤c0_2) (hr0_3:Kd.C k107 w A0_3 l0_3.length l0_3) (hc0_3:l0_3.length≤c0_3) (h:laws_toFunc.f k l0_0 a0_1 l0_2 l0_3=some (r1,r2,r3,r4)):
  Calls Try.prog 31 #[.agg #[.slice A0_0 l0_0.length c0_0,.int .i64 a0_1,.slice A0_2 l0_2.length c0_2,.slice A0_3 l0_3.length c0_3]] w fun e w'=>∃ v0_ v2_ v3_:Value,e=.returned (.agg #[v0_,.int .i64 r2,v2_,v3_])∧Kd.R (Kd.int .i64) 3 w' w.heap.size (fun k_=>some k_≠(v2_:Value).ownBlock) v0_ r1∧Kd.R (Kd.int .i64) 3 w' w.heap.size (fun k_=>some k_≠(v0_:Value).ownBlock) v2_ r3∧Kd.R k71 71 w' w.heap.size (fun _=>True) v3_ r4∧Below w.heap.size w w':=by
 have hu56:=Try.underlying56
 have hu59:=Try.underlying59
 have HR0_0:=A_ hr0_0
 have HC0_0:=A_ hc0_0
 clear hr0_0 hc0_0
 have HR0_2:=A_ hr0_2
 have HC0_2:=A_ hc0_2
 clear hr0_2 hc0_2
 have HR0_3:=A_ hr0_3
 have HC0_3:=A_ hc0_3
 clear hr0_3 hc0_3
 have HB:=A_ (Below.refl w.heap.size w)
 have H:((laws_toIntS.f k l0_0).bind fun t217=>((laws_toIntS.f k l0_2).bind fun t220=>((laws_toInsS.f k l0_3).bind fun t223=>(some (t217,a0_1,t220,t223)))))=some (r1,r2,r3,r4):=h
 clear h
 replace H:=bi_ H
 obtain⟨t217,A20,H⟩:=H
 have A2:=A_ A20
 clear A20
 replace H:=bi_ H
 obtain⟨t220,A30,H⟩:=H
 have A3:=A_ A30
 clear A30
 replace H:=bi_ H
 obtain⟨t223,A40,H⟩:=H
 have A4:=A_ A40
 clear A40
 simp only[Option.some.injEq,Prod.mk.injEq] at H
 obtain⟨rfl,rfl,rfl,rfl⟩:=H
 go_enter Try.func31,Try.ntmps31
 go_wp2_with (first|((with_reducible refine gd_ 1 rfl ?_);refine bx_ #[.slice A0_0 l0_0.length c0_0,.int .i64 a0_1,.slice A0_2 l0_2.length c0_2,.slice A0_3 l0_3.length c0_3] 56 ?_;intro gb214 hg w5 hbox hb;have BK214:=A_ hbox;have GW214:=gw_ hg HB;have GE214:=GW214;replace HB:=bs_ HB hb;clear hb hbox hg)|((with_reducible refine gd_ 2 rfl ?_);refine bx_ #[.slice none 0 0,.int .i64 0,.slice none 0 0,.slice none 0 0] 59 ?_;intro gb215 hg w6 hbox hb;have BK215:=A_ hbox;have GW215:=gw_ hg HB;have GE215:=GW215;obtain⟨NB214_215,NB215_214⟩:=nb_ BK214 hg;replace BK214:=kb_ BK214 hb;replace HB:=bs_ HB hb;clear hb hbox hg)|((with_reducible refine gd_ 3 rfl ?_);refine bx_ #[.slice none 0 0,.int .i64 0,.slice none 0 0,.slice none 0 0] 59 ?_;intro gb216 hg w7 hbox hb;have BK216:=A_ hbox;have GW216:=gw_ hg HB;have GE216:=GW216;obtain⟨NB214_216,NB216_214⟩:=nb_ BK214 hg;obtain⟨NB215_216,NB216_215⟩:=nb_ BK215 hg;replace BK214:=kb_ BK214 hb;replace BK215:=kb_ BK215 hb;replace HB:=bs_ HB hb;clear hb hbox hg;have hnb8:=NB214_215.out;have hnc8:=NB215_214.out;have hnb9:=NB214_216.out;have hnc9:=NB216_214.out;obtain⟨hcz10_0,hcz10_1,hcz10_2,hcz10_3⟩:=cs4_ BK214.out;obtain⟨hfz10_0,hfz10_1,hfz10_2,hfz10_3⟩:=fz4_ BK214.out)|((with_reducible refine gc_ 49 rfl ?_);refine goesL_ (some 6) rfl rfl Try.func49 (by kernel_rfl) rfl #[.slice A0_0 l0_0.length c0_0] rfl ar ?_;(with_reducible refine(laws_toIntS.calls k _ _ l0_0 t217 _ ?side1 ?side2 A2.out).mono ?_);(case side1=>exact cb_ HR0_0 HB);(case side2=>exact HC0_0.out);rintro e w11 ⟨v218,rfl,ho0,hb⟩;refine⟨_,rfl,?_⟩;have HO219:=A_ (Kd.R_lower ho0 (below_size (bw HB.out)));replace BK214:=kb_ BK214 hb;replace BK215:=kb_ BK215 hb;replace BK216:=kb_ BK216 hb;replace HB:=bs_ HB hb;(try clear hb);(try clear hb2);(try clear hk);(try clear hi);(try clear ho0);obtain⟨Ao12,co12,eo12⟩:=Kd.R_slice HO219.out;subst eo12;have hnb13:=NB216_215.out;have hnc13:=NB215_216.out;obtain⟨hcz14_0,hcz14_1,hcz14_2,hcz14_3⟩:=cs4_ BK216.out;obtain⟨hfz14_0,hfz14_1,hfz14_2,hfz14_3⟩:=fz4_ BK216.out;obtain⟨hcz15_0,hcz15_1,hcz15_2,hcz15_3⟩:=cs4_ BK214.out;obtain⟨hfz15_0,hfz15_1,hfz15_2,hfz15_3⟩:=fz4_ BK214.out)|((with_reducible refine gc_ 49 rfl ?_);refine goesL_ (some 13) rfl rfl Try.func49 (by kernel_rfl) rfl #[.slice A0_2 l0_2.length c0_2] rfl ar ?_;(with_reducible refine(laws_toIntS.calls k _ _ l0_2 t220 _ ?side1 ?side2 A3.out).mono ?_);(case side1=>exact Kd.C_below HR0_2.out (bw HB.out));(case side2=>exact HC0_2.out);rintro e w16 ⟨v221,rfl,ho0,hb⟩;refine⟨_,rfl,?_⟩;have HO222:=A_ (Kd.R_lower (Kd.R_new' ho0 (Kd.R_lt (by(with_reducible repeat (first|apply Kd.R_alloc|apply Kd.R_drewN|apply Kd.R_drew));exact(Kd.R_mono (Kd.R_far (p:=⟨gb216,1,none⟩) (Kd.R_far (p:=⟨gb216,0,none⟩) (Kd.R_types HO219.out BK216.out (by decide)) (fun _ hk=>hk.2) (.slice Ao12 t217.length co12)) (fun _ hk=>hk.2) (.int .i64 a0_1)) (fun _ h_=>h_.1))))) (below_size (bw HB.out)));replace HO219:=A_ (Kd.R_elder' (by(with_reducible repeat (first|apply Kd.R_alloc|apply Kd.R_drewN|apply Kd.R_drew));exact(Kd.R_mono (Kd.R_far (p:=⟨gb216,1,none⟩) (Kd.R_far (p:=⟨gb216,0,none⟩) (Kd.R_types HO219.out BK216.out (by decide)) (fun _ hk=>hk.2) (.slice Ao12 t217.length co12)) (fun _ hk=>hk.2) (.int .i64 a0_1)) (fun _ h_=>h_.1))) (Kd.R_base ho0) hb);replace BK214:=A_ (blk_below (g:=gb214) (o:=.cells #[.slice A0_0 l0_0.length c0_0,.int .i64 a0_1,.slice A0_2 l0_2.length c0_2,.slice A0_3 l0_3.length c0_3] 56 (0,0)) (by refine blk_far ?_ NB214_216.out _;refine blk_far ?_ NB214_216.out _;(with_reducible repeat (first|refine blk_drewN ?_ _|refine blk_drew ?_|refine blk_alloc ?_ _));exact BK214.out) hb);replace BK215:=A_ (blk_below (g:=gb215) (o:=.cells #[.slice none 0 0,.int .i64 0,.slice none 0 0,.slice none 0 0] 59 (0,0)) (by refine blk_far ?_ NB215_216.out _;refine blk_far ?_ NB215_216.out _;(with_reducible repeat (first|refine blk_drewN ?_ _|refine blk_drew ?_|refine blk_alloc ?_ _));exact BK215.out) hb);replace BK216:=A_ (blk_below (g:=gb216) (o:=.cells #[.slice Ao12 t217.length co12,.int .i64 a0_1,.slice none 0 0,.slice none 0 0] 59 (0,0)) (by refine blk_put (cs:=#[.slice Ao12 t217.length co12,.int .i64 0,.slice none 0 0,.slice none 0 0]) ?_ 1 _ rfl;refine blk_put (cs:=#[.slice none 0 0,.int .i64 0,.slice none 0 0,.slice none 0 0]) ?_ 0 _ rfl;(with_reducible repeat (first|refine blk_drewN ?_ _|refine blk_drew ?_|refine blk_alloc ?_ _));exact BK216.out) hb);replace HB:=bs_ HB hb;(try clear hb);(try clear hb2);(try clear hk);(try clear hi);(try clear ho0);obtain⟨Ao17,co17,eo17⟩:=Kd.R_slice HO222.out;subst eo17;obtain⟨hcz18_0,hcz18_1,hcz18_2,hcz18_3⟩:=cs4_ BK216.out;obtain⟨hfz18_0,hfz18_1,hfz18_2,hfz18_3⟩:=fz4_ BK216.out;obtain⟨hcz19_0,hcz19_1,hcz19_2,hcz19_3⟩:=cs4_ BK214.out;obtain⟨hfz19_0,hfz19_1,hfz19_2,hfz19_3⟩:=fz4_ BK214.out)|((with_reducible refine gc_ 50 rfl ?_);refine goesL_ (some 17) rfl rfl Try.func50 (by kernel_rfl) rfl #[.slice A0_3 l0_3.length c0_3] rfl ar ?_;(with_reducible refine(laws_toInsS.calls k _ _ l0_3 t223 _ ?side1 ?side2 A4.out).mono ?_);(case side1=>exact Kd.C_below HR0_3.out (bw HB.out));(case side2=>exact HC0_3.out);rintro e w20 ⟨v224,rfl,ho0,hb⟩;refine⟨_,rfl,?_⟩;have HO225:=A_ (Kd.R_lower ho0 (below_size (bw HB.out)));replace HO219:=A_ (Kd.R_below (by(with_reducible repeat (first|apply Kd.R_alloc|apply Kd.R_drewN|apply Kd.R_drew));exact(Kd.R_mono (Kd.R_far (p:=⟨gb216,2,none⟩) (Kd.R_types HO219.out BK216.out (by decide)) (fun _ hk=>hk.2) (.slice Ao17 t220.length co17)) (fun _ h_=>h_.1))) hb);replace HO222:=A_ (Kd.R_below (by(with_reducible repeat (first|apply Kd.R_alloc|apply Kd.R_drewN|apply Kd.R_drew));exact(Kd.R_mono (Kd.R_far (p:=⟨gb216,2,none⟩) (Kd.R_types HO222.out BK216.out (by decide)) (fun _ hk=>hk.2) (.slice Ao17 t220.length co17)) (fun _ h_=>h_.1))) hb);replace BK214:=A_ (blk_below (g:=gb214) (o:=.cells #[.slice A0_0 l0_0.length c0_0,.int .i64 a0_1,.slice A0_2 l0_2.length c0_2,.slice A0_3 l0_3.length c0_3] 56 (0,0)) (by refine blk_far ?_ NB214_216.out _;(with_reducible repeat (first|refine blk_drewN ?_ _|refine blk_drew ?_|refine blk_alloc ?_ _));exact BK214.out) hb);replace BK215:=A_ (blk_below (g:=gb215) (o:=.cells #[.slice none 0 0,.int .i64 0,.slice none 0 0,.slice none 0 0] 59 (0,0)) (by refine blk_far ?_ NB215_216.out _;(with_reducible repeat (first|refine blk_drewN ?_ _|refine blk_drew ?_|refine blk_alloc ?_ _));exact BK215.out) hb);replace BK216:=A_ (blk_below (g:=gb216) (o:=.cells #[.slice Ao12 t217.length co12,.int .i64 a0_1,.slice Ao17 t220.length co17,.slice none 0 0] 59 (0,0)) (by refine blk_put (cs:=#[.slice Ao12 t217.length co12,.int .i64 a0_1,.slice none 0 0,.slice none 0 0]) ?_ 2 _ rfl;(with_reducible repeat (first|refine blk_drewN ?_ _|refine blk_drew ?_|refine blk_alloc ?_ _));exact BK216.out) hb);replace HB:=bs_ HB hb;(try clear hb);(try clear hb2);(try clear hk);(try clear hi);(try clear ho0);obtain⟨Ao21,co21,eo21⟩:=Kd.R_slice HO225.out;subst eo21;obtain⟨hcz22_0,hcz22_1,hcz22_2,hcz22_3⟩:=cs4_ BK216.out;obtain⟨hfz22_0,hfz22_1,hfz22_2,hfz22_3⟩:=fz4_ BK216.out;obtain⟨hcz23_0,hcz23_1,hcz23_2,hcz23_3⟩:=cs4_ BK215.out;obtain⟨hfz23_0,hfz23_1,hfz23_2,hfz23_3⟩:=fz4_ BK215.out)|((with_reducible refine gate_store (t:=59) (p:=2) rfl ?_);refine store_event (t:=59) (p:=2) (v:=?vo_w24) (w1:=(((((w20.setCell ⟨gb216,3,none⟩ (.slice Ao21 t223.length co21)).setCell ⟨gb215,0,none⟩ (.slice Ao12 t217.length co12)).setCell ⟨gb215,1,none⟩ (.int .i64 a0_1)).setCell ⟨gb215,2,none⟩ (.slice Ao17 t220.length co17)).setCell ⟨gb215,3,none⟩ (.slice Ao21 t223.length co21))) ?hg ?ho ?hn ?hr ?_;(case ho=>rfl);(case hg=>rfl);(case hn=>rfl);(case hr=>first|(go_simp;done)|(go_simp;rfl));intro w24 hw;replace HO219:Aside0 (Kd.R (Kd.int .i64) 3 w24 w.heap.size (fun k_=>some k_≠(.slice Ao17 t220.length co17:Value).ownBlock) (.slice Ao12 t217.length co12) t217):=⟨(by rw[hw];exact(by(with_reducible repeat (first|apply Kd.R_alloc|apply Kd.R_drewN|apply Kd.R_drew));exact Kd.R_mono (Kd.R_far (p:=⟨gb215,3,none⟩) (Kd.R_far (p:=⟨gb215,2,none⟩) (Kd.R_far (p:=⟨gb215,1,none⟩) (Kd.R_far (p:=⟨gb215,0,none⟩) (Kd.R_far (p:=⟨gb216,3,none⟩) (Kd.R_types (Kd.R_types HO219.out BK216.out (by decide)) BK215.out (by decide)) (fun _ hk=>hk.1.2) (.slice Ao21 t223.length co21)) (fun _ hk=>hk.2) (.slice Ao12 t217.length co12)) (fun _ hk=>hk.2) (.int .i64 a0_1)) (fun _ hk=>hk.2) (.slice Ao17 t220.length co17)) (fun _ hk=>hk.2) (.slice Ao21 t223.length co21)) (fun _ hk=>hk.1.1.2)))⟩;replace HO222:Aside0 (Kd.R (Kd.int .i64) 3 w24 w.heap.size (fun k_=>some k_≠(.slice Ao12 t217.length co12:Value).ownBlock) (.slice Ao17 t220.length co17) t220):=⟨(by rw[hw];exact(by(with_reducible repeat (first|apply Kd.R_alloc|apply Kd.R_drewN|apply Kd.R_drew));exact Kd.R_mono (Kd.R_far (p:=⟨gb215,3,none⟩) (Kd.R_far (p:=⟨gb215,2,none⟩) (Kd.R_far (p:=⟨gb215,1,none⟩) (Kd.R_far (p:=⟨gb215,0,none⟩) (Kd.R_far (p:=⟨gb216,3,none⟩) (Kd.R_types (Kd.R_types HO222.out BK216.out (by decide)) BK215.out (by decide)) (fun _ hk=>hk.1.2) (.slice Ao21 t223.length co21)) (fun _ hk=>hk.2) (.slice Ao12 t217.length co12)) (fun _ hk=>hk.2) (.int .i64 a0_1)) (fun _ hk=>hk.2) (.slice Ao17 t220.length co17)) (fun _ hk=>hk.2) (.slice Ao21 t223.length co21)) (fun _ hk=>hk.1.1.2)))⟩;replace HO225:Aside0 (Kd.R k71 71 w24 w.heap.size (fun _=>True) (.slice Ao21 t223.length co21) t223):=⟨(by rw[hw];exact(by(with_reducible repeat (first|apply Kd.R_alloc|apply Kd.R_drewN|apply Kd.R_drew));exact Kd.R_mono (Kd.R_far (p:=⟨gb215,3,none⟩) (Kd.R_far (p:=⟨gb215,2,none⟩) (Kd.R_far (p:=⟨gb215,1,none⟩) (Kd.R_far (p:=⟨gb215,0,none⟩) (Kd.R_far (p:=⟨gb216,3,none⟩) (Kd.R_types (Kd.R_types HO225.out BK216.out (by decide)) BK215.out (by decide)) (fun _ hk=>hk.1.2) (.slice Ao21 t223.length co21)) (fun _ hk=>hk.2) (.slice Ao12 t217.length co12)) (fun _ hk=>hk.2) (.int .i64 a0_1)) (fun _ hk=>hk.2) (.slice Ao17 t220.length co17)) (fun _ hk=>hk.2) (.slice Ao21 t223.length co21)) (fun _ hk=>trivial)))⟩;replace BK214:Aside0 (w24.heap[gb214]? =some (.cells #[.slice A0_0 l0_0.length c0_0,.int .i64 a0_1,.slice A0_2 l0_2.length c0_2,.slice A0_3 l0_3.length c0_3] 56 (0,0))):=⟨(by rw[hw];exact(by refine blk_far ?_ NB214_215.out _;refine blk_far ?_ NB214_215.out _;refine blk_far ?_ NB214_215.out _;refine blk_far ?_ NB214_215.out _;refine blk_far ?_ NB214_216.out _;(with_reducible repeat (first|refine blk_drewN ?_ _|refine blk_drew ?_|refine blk_alloc ?_ _));exact BK214.out))⟩;replace BK215:Aside0 (w24.heap[gb215]? =some (.cells #[.slice Ao12 t217.length co12,.int .i64 a0_1,.slice Ao17 t220.length co17,.slice Ao21 t223.length co21] 59 (0,0))):=⟨(by rw[hw];exact(by refine blk_put (cs:=#[.slice Ao12 t217.length co12,.int .i64 a0_1,.slice Ao17 t220.length co17,.slice none 0 0]) ?_ 3 _ rfl;refine blk_put (cs:=#[.slice Ao12 t217.length co12,.int .i64 a0_1,.slice none 0 0,.slice none 0 0]) ?_ 2 _ rfl;refine blk_put (cs:=#[.slice Ao12 t217.length co12,.int .i64 0,.slice none 0 0,.slice none 0 0]) ?_ 1 _ rfl;refine blk_put (cs:=#[.slice none 0 0,.int .i64 0,.slice none 0 0,.slice none 0 0]) ?_ 0 _ rfl;refine blk_far ?_ NB215_216.out _;(with_reducible repeat (first|refine blk_drewN ?_ _|refine blk_drew ?_|refine blk_alloc ?_ _));exact BK215.out))⟩;replace BK216:Aside0 (w24.heap[gb216]? =some (.cells #[.slice Ao12 t217.length co12,.int .i64 a0_1,.slice Ao17 t220.length co17,.slice Ao21 t223.length co21] 59 (0,0))):=⟨(by rw[hw];exact(by refine blk_far ?_ NB216_215.out _;refine blk_far ?_ NB216_215.out _;refine blk_far ?_ NB216_215.out _;refine blk_far ?_ NB216_215.out _;refine blk_put (cs:=#[.slice Ao12 t217.length co12,.int .i64 a0_1,.slice Ao17 t220.length co17,.slice none 0 0]) ?_ 3 _ rfl;(with_reducible repeat (first|refine blk_drewN ?_ _|refine blk_drew ?_|refine blk_alloc ?_ _));exact BK216.out))⟩;replace HB:Aside0 (Below w.heap.size w w24):=⟨(by rw[hw];exact(bw HB.out))⟩;clear hw))
 refine bodyPost_ret (results_cell_row rfl _ _ gb215 59 #[.slice Ao12 t217.length co12,.int .i64 a0_1,.slice Ao17 t220.length co17,.slice Ao21 t223.length co21] (0,0) _ rfl (bk BK215.out) Try.underlying59 rfl (by kernel_rfl)) rfl ?_
 exact⟨_,_,_,rr_,kr_ HO219.out,kr_ HO222.out,kr_ HO225.out,bw HB.out⟩

/-! ### laws_toFuncS: function 20 -/
def laws_toFuncS.l0:Nat→List (S56)→List (S59)→Int→Option ((List (S59)))
 |0,_,_,_=>none
 |k+1,x0,x3,x4=>if x4<(x0.length:Int) then (if 0≤x4 then ((laws_toFunc.f k ((rd_T56 x0 x4).f0) ((rd_T56 x0 x4).f1) ((rd_T56 x0 x4).f2) ((rd_T56 x0 x4).f3)).bind fun bt230=>(if x4<(x3.length:Int) then (laws_toFuncS.l0 k x0 (x3.set (x4:Int).toNat (⟨bt230.1,bt230.2.1,bt230.2.2.1,bt230.2.2.2⟩:S59)) (wrap64 (x4+1))) else (none))) else (none)) else (some x3)
def laws_toFuncS.f (k:Nat) (l0:List (S56)):Option ((List (S59))):=if 0≤(l0.length:Int) then (if ((l0.length:Int):Int).toNat≤3518437208883 then (laws_toFuncS.l0 k l0 (List.replicate ((l0.length:Int):Int).toNat z59) 0) else (none)) else (none)
theorem laws_toFuncS.calls (k:Nat) (A0:Option Addr) (c0:Nat) (l0:List (S56)) (r:List (S59)) (w:World) (hr0:Kd.C k56 w A0 l0.length l0) (hc0:l0.length≤c0) (h:laws_toFuncS.f k l0=some r):
  Calls Try.prog 20 #[.slice A0 l0.length c0] w fun e w'=>∃ v0_:Value,e=.returned (v0_)∧Kd.S k59 59 w' w.heap.size (fun _=>True) v0_ r∧Below w.heap.size w w':=by
 have hu56:=Try.underlying56
 have hu59:=Try.underlying59
 have HR0:=A_ hr0
 have HC0:=A_ hc0
 clear hr0 hc0
 have HB:=A_ (Below.refl w.heap.size w)
 have H:(if 0≤(l0.length:Int) then (if ((l0.length:Int):Int).toNat≤3518437208883 then (laws_toFuncS.l0 k l0 (List.replicate ((l0.length:Int):Int).toNat z59) 0) else (none)) else (none))=some r:=h
 clear h
 by_cases c2:0≤(l0.length:Int)
 ·
  rw[if_pos c2] at H
  have c2b0:=eq_true c2
  have c2b1:=decide_eq_true c2
  clear c2
  by_cases c3:((l0.length:Int):Int).toNat≤3518437208883
  ·
   rw[if_pos c3] at H
   have c3b0:=eq_true c3
   have c3b1:=decide_eq_true c3
   clear c3
   obtain⟨y226,hy226⟩:∃ y_:List (S59),y_=(List.replicate ((l0.length:Int):Int).toNat z59):=⟨_,rfl⟩
   replace H:(laws_toFuncS.l0 k l0 y226 0)=some r:=by first|(rw[hy226];with_reducible exact H)|(have H2_:=(Option.bind_some _ _).symm.trans H;rw[hy226];with_reducible exact H2_)|(have H2_:=(Option.bind_some _ _).symm.trans H;with_reducible exact H2_)|with_reducible exact H|(rw[hy226];exact H)|exact H
   have Ny226:=A_ hy226
   clear hy226
   have H':=A_ H
   clear H
   go_enter Try.func20,Try.ntmps20
   go_wp2_with (first|((with_reducible refine gd_ 7 rfl ?_);refine Kd.S_make k59 _ 59 rfl (N:=7) rfl 29 _ _ rfl (l0.length:Int) rfl rfl Try.underlying29 (.agg #[(.slice none 0 0),(.int .i64 0),(.slice none 0 0),(.slice none 0 0)]) 80 info59 rfl (by decide) (by omega) z59 (ok:=fun _=>True) (okp:=fun _=>True) (k59_mkM _ _ _ z59 (Kd.R_nil _ _ _ _ _) (Kd.R_nil _ _ _ _ _) (Kd.R_nil _ _ _ _ _)) (fun _ hk=>hk) trivial (od_) (Nat.le_trans (Nat.mul_le_mul_right _ (od_:(l0.length:Int).toNat≤3518437208883)) (by omega)) (Below.refl _ _) (Nat.le_refl _) ?_;intro v227 w4 ho5 hb hg_ hnew_;clear hg_ hnew_;(first|rw[←Ny226.out] at ho5|(simp only[Int.reduceToNat] at ho5;rw[←Ny226.out] at ho5));have HO228:=A_ (Kd.S_lower ho5 (below_size (bw HB.out)));replace HB:=bs_ HB hb;clear hb ho5))
   (try simp only[Act.put,List.setIfInBounds_toArray,List.set_cons_zero,List.set_cons_succ])
   go_loopg [4] k (fun kq v4 w'=>∃ (x3_1:List (S59)) (x4_1:Int),v4=.int .i64 x4_1∧Aside0 (laws_toFuncS.l0 kq l0 x3_1 x4_1=some r)∧Aside0 (kq≤k)∧Aside0 (Kd.S k59 59 w' w.heap.size (fun _=>True) v227 x3_1)∧Aside0 (Below w.heap.size w w'))
   case atStart=>exact⟨(y226),(0),rs_,H',⟨Nat.le_refl _⟩,⟨ks_ HO228.out⟩,⟨bw HB.out⟩⟩
   case round=>
    clear H'
    try clear c2 c2b0 c2b1 c3 c3b0 c3b1
    obtain⟨x3_1,x4_1,rfl,HA,HK1,HO_3,HB⟩:=hrel
    cases gk with
    |zero=>exact absurd HA.out (by simp[laws_toFuncS.l0])
    |succ k1=>
     have H:=HA.out
     clear HA
     simp only[laws_toFuncS.l0] at H
     by_cases c6:x4_1<(l0.length:Int)
     ·
      rw[if_pos c6] at H
      have c6b0:=decide_eq_true c6
      clear c6
      by_cases c7:0≤x4_1
      ·
       rw[if_pos c7] at H
       have c7b0:=decide_eq_true c7
       clear c7
       replace H:=Option.bind_eq_some_iff.mp H
       obtain⟨⟨t230,t233,t234,t237⟩,A80,H⟩:=H
       replace H:(if x4_1<(x3_1.length:Int) then (laws_toFuncS.l0 k1 l0 (x3_1.set (x4_1:Int).toNat (⟨t230,t233,t234,t237⟩:S59)) (wrap64 (x4_1+1))) else (none))=some r:=H
       have A8:=A_ A80
       clear A80
       by_cases c9:x4_1<(x3_1.length:Int)
       ·
        rw[if_pos c9] at H
        have c9b0:=decide_eq_true c9
        clear c9
        obtain⟨y240,hy240⟩:∃ y_:List (S59),y_=(x3_1.set (x4_1:Int).toNat (⟨t230,t233,t234,t237⟩:S59)):=⟨_,rfl⟩
        replace H:(laws_toFuncS.l0 k1 l0 y240 (wrap64 (x4_1+1)))=some r:=by first|(rw[hy240];with_reducible exact H)|(have H2_:=(Option.bind_some _ _).symm.trans H;rw[hy240];with_reducible exact H2_)|(have H2_:=(Option.bind_some _ _).symm.trans H;with_reducible exact H2_)|with_reducible exact H|(rw[hy240];exact H)|exact H
        have Ny240:=A_ hy240
        clear hy240
        have H':=A_ H
        clear H
        have p229:0≤(x4_1:Int):=od_
        have q229:x4_1<(l0.length:Int):=od_
        obtain⟨ad229,A229_0,c229_0,A229_2,c229_2,A229_3,c229_3,e229,hx229_0,hx229_1,hx229_2,hx229_3,hl229_0,hi229_0,hl229_2,hi229_2,hl229_3,hi229_3⟩:=at_T56 HR0.out x4_1 p229 q229
        cases e229
        replace hx229_0:=cl_ HB.out hx229_0
        replace hx229_1:=cl_ HB.out hx229_1
        replace hx229_2:=cl_ HB.out hx229_2
        replace hx229_3:=cl_ HB.out hx229_3
        have HR229_0:=A_ hi229_0
        have HC229_0:=A_ hl229_0
        clear hi229_0 hl229_0
        have HR229_2:=A_ hi229_2
        have HC229_2:=A_ hl229_2
        clear hi229_2 hl229_2
        have HR229_3:=A_ hi229_3
        have HC229_3:=A_ hl229_3
        clear hi229_3 hl229_3
        replace p229:=eq_true p229
        replace q229:=eq_true q229
        go_wp2_with (first|((with_reducible refine gc_ 31 rfl ?_);refine goesL_ (some 20) rfl rfl Try.func31 (by kernel_rfl) rfl #[.agg #[.slice A229_0 ((rd_T56 l0 x4_1).f0).length c229_0,.int .i64 ((rd_T56 l0 x4_1).f1),.slice A229_2 ((rd_T56 l0 x4_1).f2).length c229_2,.slice A229_3 ((rd_T56 l0 x4_1).f3).length c229_3]] rfl ar ?_;(with_reducible refine(laws_toFunc.calls k1 _ _ ((rd_T56 l0 x4_1).f0) ((rd_T56 l0 x4_1).f1) _ _ ((rd_T56 l0 x4_1).f2) _ _ ((rd_T56 l0 x4_1).f3) t230 t233 t234 t237 _ ?side1 ?side2 ?side3 ?side4 ?side5 ?side6 A8.out).mono ?_);(case side1=>exact cb_ HR229_0 HB);(case side2=>exact HC229_0.out);(case side3=>exact cb_ HR229_2 HB);(case side4=>exact HC229_2.out);(case side5=>exact cb_ HR229_3 HB);(case side6=>exact HC229_3.out);rintro e w11 ⟨v231,v235,v238,rfl,ho0,ho1,ho2,hb⟩;refine⟨_,rfl,?_⟩;have HO232:=A_ (Kd.R_lower ho0 (below_size (bw HB.out)));have HO236:=A_ (Kd.R_lower ho1 (below_size (bw HB.out)));have HO239:=A_ (Kd.R_lower ho2 (below_size (bw HB.out)));replace HO_3:=A_ (Kd.S_mono (Kd.S_told (Kd.S_told (Kd.S_told (Kd.S_old (ks_ HO_3.out) hb) (Kd.R_base ho0)) (Kd.R_base ho1)) (Kd.R_base ho2)) (fun _ h_=>h_.1));replace HB:=bs_ HB hb;(try clear hb);(try clear hb2);(try clear hk);(try clear hi);(try clear ho0);(try clear ho1);(try clear ho2);have p10:0≤(x4_1:Int):=od_;have q10:(x4_1:Int)<((x3_1.length:Int):Int):=od_;obtain⟨go10,co10,eo10,gb10,gl10,cl10,HG10⟩:=Kd.S_form HO_3.out (by omega);(first|cases eo10|(injection eo10 with ea_ en_ ec_;(first|subst ea_|(injection ea_ with ea_;subst ea_));subst ec_;clear en_));have GB10:=A_ gb10;have GG10:=A_ HG10;clear gb10 gl10 HG10;obtain⟨_,ce10,hcl10,hM10,hcc10,hfr10,_,_⟩:=Kd.S_elem HO_3.out z59 (x4_1:Int) p10 q10;obtain⟨ve10_0,ve10_2,ve10_3,rfl,ge10_0,ge10_2,ge10_3⟩:=k59_openM hM10;have hx10_0:w11.cell? ⟨go10,(x4_1:Int).toNat*4,none⟩=some (ve10_0):=hcc10 0 _ rfl;have hx10_1:w11.cell? ⟨go10,(x4_1:Int).toNat*4+1,none⟩=some (.int .i64 ((rd_T59 x3_1 x4_1).f1)):=hcc10 1 _ rfl;have hx10_2:w11.cell? ⟨go10,(x4_1:Int).toNat*4+2,none⟩=some (ve10_2):=hcc10 2 _ rfl;have hx10_3:w11.cell? ⟨go10,(x4_1:Int).toNat*4+3,none⟩=some (ve10_3):=hcc10 3 _ rfl;have hf10_0:w11.frozen? ⟨go10,(x4_1:Int).toNat*4,none⟩=false:=hfr10 0;have hf10_1:w11.frozen? ⟨go10,(x4_1:Int).toNat*4+1,none⟩=false:=hfr10 1;have hf10_2:w11.frozen? ⟨go10,(x4_1:Int).toNat*4+2,none⟩=false:=hfr10 2;have hf10_3:w11.frozen? ⟨go10,(x4_1:Int).toNat*4+3,none⟩=false:=hfr10 3;clear hcl10 hcc10 hfr10 hM10;replace p10:=eq_true p10;replace q10:=eq_true q10;have n_:=A_ (Kd.S_mono (ok':=(fun k_=>some k_≠(v231:Value).ownBlock∧some k_≠(v235:Value).ownBlock∧some k_≠(v238:Value).ownBlock)) HO_3.out (fun k_ hk=>⟨hk.1.1.2,⟨hk.1.2,hk.2⟩⟩));clear HO_3;have HO_3:=n_;clear n_;have HX12:=A_ (show Kd.S k59 59 w11 w.heap.size (fun k_=>((fun _=>True)) k_∧¬((fun k_=>some k_=(v231:Value).ownBlock∨some k_=(v235:Value).ownBlock∨some k_=(v238:Value).ownBlock)) k_) (.slice (some ⟨go10,0,none⟩) x3_1.length co10) x3_1 from(by(with_reducible repeat (first|apply Kd.S_alloc|apply Kd.S_drewN|apply Kd.S_drew));exact Kd.S_mono HO_3.out (fun k_ hk=>⟨trivial,fun e_=>e_.elim (fun h_=>hk.1 h_) (fun h_=>h_.elim (fun h_=>hk.2.1 h_) (fun h_=>hk.2.2 h_))⟩)));obtain⟨oki12,ce12,hcl12,hM12,hcc12,hfr12,hoki12,hH12⟩:=Kd.S_elem HX12.out z59 (x4_1:Int) (od_) (by have h_:(x4_1:Int)<((x3_1.length:Int):Int):=od_;first|exact h_|(have e_:=(Kd.S_reads' HO_3.out).1;omega)|simpa using h_);obtain⟨ve12_0,ve12_2,ve12_3,rfl,ge12_0,ge12_2,ge12_3⟩:=k59_openM hM12;have HP12:=Kd.S_seg hH12 (od_) (by have h_:(x4_1:Int)<((x3_1.length:Int):Int):=od_;first|exact h_|(have e_:=(Kd.S_reads' HO_3.out).1;omega)|simpa using h_) (seg:=[v231,.int .i64 t233,v235,v238]) (j:=0) (show 4≤4 from by decide) (x':=(⟨t230,t233,t234,t237⟩:S59)) (k59_mkM _ _ _ (⟨t230,t233,t234,t237⟩:S59) (Kd.R_mono (Kd.R_tight rfl (Kd.R_mono (ok':=fun k_=>((fun _=>True)) k_∧k_≠go10) (Kd.R_apart' (HO232.out) (Kd.S_typed HO_3.out) (by decide)) (fun k_ hk=>⟨trivial,fun e_=>(hk.2) (by rw[e_];rfl)⟩))) (fun _ h_=>Or.inr (Or.inl h_))) (Kd.R_mono (Kd.R_tight rfl (Kd.R_mono (ok':=fun k_=>((fun _=>True)) k_∧k_≠go10) (Kd.R_apart' (HO236.out) (Kd.S_typed HO_3.out) (by decide)) (fun k_ hk=>⟨trivial,fun e_=>(hk.2) (by rw[e_];rfl)⟩))) (fun _ h_=>Or.inr (Or.inr (Or.inl h_)))) (Kd.R_mono (Kd.R_tight rfl (Kd.R_mono (ok':=fun k_=>((fun _=>True)) k_∧k_≠go10) (Kd.R_apart' (HO239.out) (Kd.S_typed HO_3.out) (by decide)) (fun k_ hk=>⟨trivial,fun e_=>(hk.2) (by rw[e_];rfl)⟩))) (fun _ h_=>Or.inr (Or.inr (Or.inr (h_)))))) (fun _ hk=>hk) (fun k_ hk_=>hk_.elim (fun h_=>((Kd.R_mono (ok':=fun k_=>((fun _=>True)) k_∧k_≠go10) (Kd.R_apart' (HO232.out) (Kd.S_typed HO_3.out) (by decide)) (fun k_ hk=>⟨trivial,fun e_=>(hk.2) (by rw[e_];rfl)⟩))).1 k_ h_.symm) (fun h_=>h_.elim (fun h_=>((Kd.R_mono (ok':=fun k_=>((fun _=>True)) k_∧k_≠go10) (Kd.R_apart' (HO236.out) (Kd.S_typed HO_3.out) (by decide)) (fun k_ hk=>⟨trivial,fun e_=>(hk.2) (by rw[e_];rfl)⟩))).1 k_ h_.symm) (fun h_=>((Kd.R_mono (ok':=fun k_=>((fun _=>True)) k_∧k_≠go10) (Kd.R_apart' (HO239.out) (Kd.S_typed HO_3.out) (by decide)) (fun k_ hk=>⟨trivial,fun e_=>(hk.2) (by rw[e_];rfl)⟩))).1 k_ h_.symm)));have hx12_0:=hcc12 0 _ rfl;(try simp only[show (k59).sz=4 from rfl,Nat.mul_one,Nat.add_zero] at hx12_0);have hf12_0:=hfr12 0;(try simp only[show (k59).sz=4 from rfl,Nat.mul_one,Nat.add_zero] at hf12_0);have hx12_1:=hcc12 1 _ rfl;(try simp only[show (k59).sz=4 from rfl,Nat.mul_one,Nat.add_zero] at hx12_1);have hf12_1:=hfr12 1;(try simp only[show (k59).sz=4 from rfl,Nat.mul_one,Nat.add_zero] at hf12_1);have hx12_2:=hcc12 2 _ rfl;(try simp only[show (k59).sz=4 from rfl,Nat.mul_one,Nat.add_zero] at hx12_2);have hf12_2:=hfr12 2;(try simp only[show (k59).sz=4 from rfl,Nat.mul_one,Nat.add_zero] at hf12_2);have hx12_3:=hcc12 3 _ rfl;(try simp only[show (k59).sz=4 from rfl,Nat.mul_one,Nat.add_zero] at hx12_3);have hf12_3:=hfr12 3;(try simp only[show (k59).sz=4 from rfl,Nat.mul_one,Nat.add_zero] at hf12_3);clear hcl12 hcc12 hfr12 hM12 hoki12 hH12)|((with_reducible refine gate_store (t:=59) (p:=21) rfl ?_);refine store_event (t:=59) (p:=21) (v:=?vo_w13) (w1:=((((w11.setCell ⟨go10,(x4_1:Int).toNat*4,none⟩ (v231)).setCell ⟨go10,(x4_1:Int).toNat*4+1,none⟩ (.int .i64 t233)).setCell ⟨go10,(x4_1:Int).toNat*4+2,none⟩ (v235)).setCell ⟨go10,(x4_1:Int).toNat*4+3,none⟩ (v238))) ?hg ?ho ?hn ?hr ?_;(case ho=>rfl);(case hg=>rfl);(case hn=>rfl);(case hr=>(obtain⟨_,_,e0_⟩:=Kd.R_slice HO232.out;obtain⟨_,_,e1_⟩:=Kd.R_slice HO236.out;obtain⟨_,_,e2_⟩:=Kd.R_slice HO239.out;subst e0_ e1_ e2_;first|(go_simp;done)|(go_simp;rfl)));intro w13 hw;have hg:w11.grownBy w13 (some go10):=(by rw[hw];exact HP12.2);have hp_:Kd.S k59 59 w13 w.heap.size (fun _=>True) (.slice (some ⟨go10,0,none⟩) x3_1.length co10) y240:=(by rw[hw,Ny240.out];exact HP12.1);clear HP12;replace HO_3:=A_ (hp_);replace HB:=A_ ((by rw[hw];exact below_set (below_set (below_set (below_set (HB.out) GB10.out) GB10.out) GB10.out) GB10.out:Below w.heap.size w w13));clear HO232 HO236 HO239;clear hg hw hp_))
        go_roundg k1
        case measure=>have:=HK1.out;omega
        case rel=>exact⟨(y240),(wrap64 (x4_1+1)),rs_,H',⟨by have:=HK1.out;omega⟩,⟨ks_ HO_3.out⟩,⟨bw HB.out⟩⟩
       rw[if_neg c9] at H
       exact absurd H (by simp)
      rw[if_neg c7] at H
      exact absurd H (by simp)
     rw[if_neg c6] at H
     have c6b0:=decide_eq_false c6
     clear c6
     obtain rfl:=Option.some.inj H
     clear H
     go_wp2
     go_ret
     exact⟨_,rr_,ks_ HO_3.out,bw HB.out⟩
  rw[if_neg c3] at H
  exact absurd H (by simp)
 rw[if_neg c2] at H
 exact absurd H (by simp)

/-! ### laws_toGlobal: function 32 -/
def laws_toGlobal.f (a0_0:Int) (a0_1:Bool) (a0_2:Int):Option (Int × Bool × Int):=some (a0_0,a0_1,a0_2)
theorem laws_toGlobal.calls (a0_0:Int) (a0_1:Bool) (a0_2:Int) (r1:Int) (r2:Bool) (r3:Int) (w:World) (h:laws_toGlobal.f a0_0 a0_1 a0_2=some (r1,r2,r3)):
  Calls Try.prog 32 #[.agg #[.int .i64 a0_0,.bool a0_1,.int .u64 a0_2]] w fun e w'=>e=.returned (.agg #[.int .i64 r1,.bool r2,.int .u64 r3])∧Below w.heap.size w w':=by
 have hu75:=Try.underlying75
 have hu63:=Try.underlying63
 have HB:=A_ (Below.refl w.heap.size w)
 have H:(some (a0_0,a0_1,a0_2))=some (r1,r2,r3):=h
 clear h
 simp only[Option.some.injEq,Prod.mk.injEq] at H
 obtain⟨rfl,rfl,rfl⟩:=H
 go_enter Try.func32,Try.ntmps32
 go_wp2_with (first|((with_reducible refine gd_ 1 rfl ?_);refine bx_ #[.int .i64 a0_0,.bool a0_1,.int .u64 a0_2] 75 ?_;intro gb241 hg w2 hbox hb;have BK241:=A_ hbox;have GW241:=gw_ hg HB;have GE241:=GW241;replace HB:=bs_ HB hb;clear hb hbox hg)|((with_reducible refine gd_ 2 rfl ?_);refine bx_ #[.int .i64 0,.bool false,.int .u64 0] 63 ?_;intro gb242 hg w3 hbox hb;have BK242:=A_ hbox;have GW242:=gw_ hg HB;have GE242:=GW242;obtain⟨NB241_242,NB242_241⟩:=nb_ BK241 hg;replace BK241:=kb_ BK241 hb;replace HB:=bs_ HB hb;clear hb hbox hg)|((with_reducible refine gd_ 3 rfl ?_);refine bx_ #[.int .i64 0,.bool false,.int .u64 0] 63 ?_;intro gb243 hg w4 hbox hb;have BK243:=A_ hbox;have GW243:=gw_ hg HB;have GE243:=GW243;obtain⟨NB241_243,NB243_241⟩:=nb_ BK241 hg;obtain⟨NB242_243,NB243_242⟩:=nb_ BK242 hg;replace BK241:=kb_ BK241 hb;replace BK242:=kb_ BK242 hb;replace HB:=bs_ HB hb;clear hb hbox hg;have hnb5:=NB241_242.out;have hnc5:=NB242_241.out;have hnb6:=NB241_243.out;have hnc6:=NB243_241.out;obtain⟨hcz7_0,hcz7_1,hcz7_2⟩:=cs3_ BK241.out;obtain⟨hfz7_0,hfz7_1,hfz7_2⟩:=fz3_ BK241.out;have hnb8:=NB243_242.out;have hnc8:=NB242_243.out;obtain⟨hcz9_0,hcz9_1,hcz9_2⟩:=cs3_ BK243.out;obtain⟨hfz9_0,hfz9_1,hfz9_2⟩:=fz3_ BK243.out;obtain⟨hcz10_0,hcz10_1,hcz10_2⟩:=cs3_ BK242.out;obtain⟨hfz10_0,hfz10_1,hfz10_2⟩:=fz3_ BK242.out)|((with_reducible refine gate_store (t:=63) (p:=2) rfl ?_);refine store_event (t:=63) (p:=2) (v:=?vo_w11) (w1:=((((((w4.setCell ⟨gb243,0,none⟩ (.int .i64 a0_0)).setCell ⟨gb243,1,none⟩ (.bool a0_1)).setCell ⟨gb243,2,none⟩ (.int .u64 a0_2)).setCell ⟨gb242,0,none⟩ (.int .i64 a0_0)).setCell ⟨gb242,1,none⟩ (.bool a0_1)).setCell ⟨gb242,2,none⟩ (.int .u64 a0_2))) ?hg ?ho ?hn ?hr ?_;(case ho=>rfl);(case hg=>rfl);(case hn=>rfl);(case hr=>first|(go_simp;done)|(go_simp;rfl));intro w11 hw;replace BK241:Aside0 (w11.heap[gb241]? =some (.cells #[.int .i64 a0_0,.bool a0_1,.int .u64 a0_2] 75 (0,0))):=⟨(by rw[hw];exact(by refine blk_far ?_ NB241_242.out _;refine blk_far ?_ NB241_242.out _;refine blk_far ?_ NB241_242.out _;refine blk_far ?_ NB241_243.out _;refine blk_far ?_ NB241_243.out _;refine blk_far ?_ NB241_243.out _;(with_reducible repeat (first|refine blk_drewN ?_ _|refine blk_drew ?_|refine blk_alloc ?_ _));exact BK241.out))⟩;replace BK242:Aside0 (w11.heap[gb242]? =some (.cells #[.int .i64 a0_0,.bool a0_1,.int .u64 a0_2] 63 (0,0))):=⟨(by rw[hw];exact(by refine blk_put (cs:=#[.int .i64 a0_0,.bool a0_1,.int .u64 0]) ?_ 2 _ rfl;refine blk_put (cs:=#[.int .i64 a0_0,.bool false,.int .u64 0]) ?_ 1 _ rfl;refine blk_put (cs:=#[.int .i64 0,.bool false,.int .u64 0]) ?_ 0 _ rfl;refine blk_far ?_ NB242_243.out _;refine blk_far ?_ NB242_243.out _;refine blk_far ?_ NB242_243.out _;(with_reducible repeat (first|refine blk_drewN ?_ _|refine blk_drew ?_|refine blk_alloc ?_ _));exact BK242.out))⟩;replace BK243:Aside0 (w11.heap[gb243]? =some (.cells #[.int .i64 a0_0,.bool a0_1,.int .u64 a0_2] 63 (0,0))):=⟨(by rw[hw];exact(by refine blk_far ?_ NB243_242.out _;refine blk_far ?_ NB243_242.out _;refine blk_far ?_ NB243_242.out _;refine blk_put (cs:=#[.int .i64 a0_0,.bool a0_1,.int .u64 0]) ?_ 2 _ rfl;refine blk_put (cs:=#[.int .i64 a0_0,.bool false,.int .u64 0]) ?_ 1 _ rfl;refine blk_put (cs:=#[.int .i64 0,.bool false,.int .u64 0]) ?_ 0 _ rfl;(with_reducible repeat (first|refine blk_drewN ?_ _|refine blk_drew ?_|refine blk_alloc ?_ _));exact BK243.out))⟩;replace HB:Aside0 (Below w.heap.size w w11):=⟨(by rw[hw];exact(bw HB.out))⟩;clear hw))
 refine bodyPost_ret (results_cell_row rfl _ _ gb242 63 #[.int .i64 a0_0,.bool a0_1,.int .u64 a0_2] (0,0) _ rfl (bk BK242.out) Try.underlying63 rfl (by kernel_rfl)) rfl ?_
 exact⟨rr_,bw HB.out⟩

/-! ### laws_toGlobalS: function 21 -/
def laws_toGlobalS.l0:Nat→List (S75)→List (S63)→Int→Option ((List (S63)))
 |0,_,_,_=>none
 |k+1,x0,x3,x4=>if x4<(x0.length:Int) then (if 0≤x4 then ((laws_toGlobal.f ((rd_T75 x0 x4).f0) ((rd_T75 x0 x4).f1) ((rd_T75 x0 x4).f2)).bind fun bt248=>(if x4<(x3.length:Int) then (laws_toGlobalS.l0 k x0 (x3.set (x4:Int).toNat (⟨bt248.1,bt248.2.1,bt248.2.2⟩:S63)) (wrap64 (x4+1))) else (none))) else (none)) else (some x3)
def laws_toGlobalS.f (k:Nat) (l0:List (S75)):Option ((List (S63))):=if 0≤(l0.length:Int) then (if ((l0.length:Int):Int).toNat≤11728124029610 then (laws_toGlobalS.l0 k l0 (List.replicate ((l0.length:Int):Int).toNat z63) 0) else (none)) else (none)
theorem laws_toGlobalS.calls (k:Nat) (A0:Option Addr) (c0:Nat) (l0:List (S75)) (r:List (S63)) (w:World) (hr0:Kd.C k75 w A0 l0.length l0) (hc0:l0.length≤c0) (h:laws_toGlobalS.f k l0=some r):
  Calls Try.prog 21 #[.slice A0 l0.length c0] w fun e w'=>∃ v0_:Value,e=.returned (v0_)∧Kd.R k63 63 w' w.heap.size (fun _=>True) v0_ r∧Below w.heap.size w w':=by
 have hu75:=Try.underlying75
 have hu63:=Try.underlying63
 have HR0:=A_ hr0
 have HC0:=A_ hc0
 clear hr0 hc0
 have HB:=A_ (Below.refl w.heap.size w)
 have H:(if 0≤(l0.length:Int) then (if ((l0.length:Int):Int).toNat≤11728124029610 then (laws_toGlobalS.l0 k l0 (List.replicate ((l0.length:Int):Int).toNat z63) 0) else (none)) else (none))=some r:=h
 clear h
 by_cases c2:0≤(l0.length:Int)
 ·
  rw[if_pos c2] at H
  have c2b0:=eq_true c2
  have c2b1:=decide_eq_true c2
  clear c2
  by_cases c3:((l0.length:Int):Int).toNat≤11728124029610
  ·
   rw[if_pos c3] at H
   have c3b0:=eq_true c3
   have c3b1:=decide_eq_true c3
   clear c3
   obtain⟨y244,hy244⟩:∃ y_:List (S63),y_=(List.replicate ((l0.length:Int):Int).toNat z63):=⟨_,rfl⟩
   replace H:(laws_toGlobalS.l0 k l0 y244 0)=some r:=by first|(rw[hy244];with_reducible exact H)|(have H2_:=(Option.bind_some _ _).symm.trans H;rw[hy244];with_reducible exact H2_)|(have H2_:=(Option.bind_some _ _).symm.trans H;with_reducible exact H2_)|with_reducible exact H|(rw[hy244];exact H)|exact H
   have Ny244:=A_ hy244
   clear hy244
   have H':=A_ H
   clear H
   go_enter Try.func21,Try.ntmps21
   go_wp2_with (first|((with_reducible refine gd_ 7 rfl ?_);refine Kd.R_make k63 _ 63 rfl (N:=7) rfl 30 _ _ rfl (l0.length:Int) rfl rfl Try.underlying30 (.agg #[(.int .i64 0),(.bool false),(.int .u64 0)]) 24 info63 rfl (by decide) (by omega) z63 (ok:=fun _=>True) (okp:=fun _=>True) (k63_mkM _ _ _ z63) (fun _ hk=>hk) trivial (od_) (Nat.le_trans (Nat.mul_le_mul_right _ (od_:(l0.length:Int).toNat≤11728124029610)) (by omega)) (Below.refl _ _) (Nat.le_refl _) ?_;intro v245 w4 ho5 hb hg_ hnew_;clear hg_ hnew_;(first|rw[←Ny244.out] at ho5|(simp only[Int.reduceToNat] at ho5;rw[←Ny244.out] at ho5));have HO246:=A_ (Kd.R_lower ho5 (below_size (bw HB.out)));replace HB:=bs_ HB hb;clear hb ho5))
   (try simp only[Act.put,List.setIfInBounds_toArray,List.set_cons_zero,List.set_cons_succ])
   go_loopg [4] k (fun kq v4 w'=>∃ (x3_1:List (S63)) (x4_1:Int),v4=.int .i64 x4_1∧Aside0 (laws_toGlobalS.l0 kq l0 x3_1 x4_1=some r)∧Aside0 (kq≤k)∧Aside0 (Kd.R k63 63 w' w.heap.size (fun _=>True) v245 x3_1)∧Aside0 (Below w.heap.size w w'))
   case atStart=>exact⟨(y244),(0),rs_,H',⟨Nat.le_refl _⟩,⟨kr_ HO246.out⟩,⟨bw HB.out⟩⟩
   case round=>
    clear H'
    try clear c2 c2b0 c2b1 c3 c3b0 c3b1
    obtain⟨x3_1,x4_1,rfl,HA,HK1,HO_3,HB⟩:=hrel
    cases gk with
    |zero=>exact absurd HA.out (by simp[laws_toGlobalS.l0])
    |succ k1=>
     have H:=HA.out
     clear HA
     simp only[laws_toGlobalS.l0] at H
     by_cases c6:x4_1<(l0.length:Int)
     ·
      rw[if_pos c6] at H
      have c6b0:=decide_eq_true c6
      clear c6
      by_cases c7:0≤x4_1
      ·
       rw[if_pos c7] at H
       have c7b0:=decide_eq_true c7
       clear c7
       replace H:=Option.bind_eq_some_iff.mp H
       obtain⟨⟨t248,t249,t250⟩,A80,H⟩:=H
       replace H:(if x4_1<(x3_1.length:Int) then (laws_toGlobalS.l0 k1 l0 (x3_1.set (x4_1:Int).toNat (⟨t248,t249,t250⟩:S63)) (wrap64 (x4_1+1))) else (none))=some r:=H
       have A8:=A_ A80
       clear A80
       by_cases c9:x4_1<(x3_1.length:Int)
       ·
        rw[if_pos c9] at H
        have c9b0:=decide_eq_true c9
        clear c9
        obtain⟨y251,hy251⟩:∃ y_:List (S63),y_=(x3_1.set (x4_1:Int).toNat (⟨t248,t249,t250⟩:S63)):=⟨_,rfl⟩
        replace H:(laws_toGlobalS.l0 k1 l0 y251 (wrap64 (x4_1+1)))=some r:=by first|(rw[hy251];with_reducible exact H)|(have H2_:=(Option.bind_some _ _).symm.trans H;rw[hy251];with_reducible exact H2_)|(have H2_:=(Option.bind_some _ _).symm.trans H;with_reducible exact H2_)|with_reducible exact H|(rw[hy251];exact H)|exact H
        have Ny251:=A_ hy251
        clear hy251
        have H':=A_ H
        clear H
        have p247:0≤(x4_1:Int):=od_
        have q247:x4_1<(l0.length:Int):=od_
        obtain⟨ad247,e247,hx247_0,hx247_1,hx247_2⟩:=at_T75 HR0.out x4_1 p247 q247
        cases e247
        replace hx247_0:=cl_ HB.out hx247_0
        replace hx247_1:=cl_ HB.out hx247_1
        replace hx247_2:=cl_ HB.out hx247_2
        replace p247:=eq_true p247
        replace q247:=eq_true q247
        go_wp2_with (first|((with_reducible refine gc_ 32 rfl ?_);refine gm_ (some 20) Try.func32 (laws_toGlobal.calls ((rd_T75 l0 x4_1).f0) ((rd_T75 l0 x4_1).f1) ((rd_T75 l0 x4_1).f2) t248 t249 t250 _ A8.out) ?_;intro w11 hb;replace HO_3:=A_ (Kd.R_below (kr_ HO_3.out) hb);replace HB:=bs_ HB hb;(try clear hb);have p10:0≤(x4_1:Int):=od_;have q10:(x4_1:Int)<((x3_1.length:Int):Int):=od_;obtain⟨go10,co10,eo10,gb10,gl10,cl10,HG10⟩:=Kd.R_form HO_3.out (by omega);(first|cases eo10|(injection eo10 with ea_ en_ ec_;(first|subst ea_|(injection ea_ with ea_;subst ea_));subst ec_;clear en_));have GB10:=A_ gb10;have GG10:=A_ HG10;clear gb10 gl10 HG10;obtain⟨ce10,hcl10,hM10,hcc10,hfr10⟩:=Kd.R_elem HO_3.out z63 (x4_1:Int) p10 q10;obtain rfl:=k63_openM hM10;have hx10_0:w11.cell? ⟨go10,(x4_1:Int).toNat*3,none⟩=some (.int .i64 ((rd_T63 x3_1 x4_1).f0)):=hcc10 0 _ rfl;have hx10_1:w11.cell? ⟨go10,(x4_1:Int).toNat*3+1,none⟩=some (.bool ((rd_T63 x3_1 x4_1).f1)):=hcc10 1 _ rfl;have hx10_2:w11.cell? ⟨go10,(x4_1:Int).toNat*3+2,none⟩=some (.int .u64 ((rd_T63 x3_1 x4_1).f2)):=hcc10 2 _ rfl;have hf10_0:w11.frozen? ⟨go10,(x4_1:Int).toNat*3,none⟩=false:=hfr10 0;have hf10_1:w11.frozen? ⟨go10,(x4_1:Int).toNat*3+1,none⟩=false:=hfr10 1;have hf10_2:w11.frozen? ⟨go10,(x4_1:Int).toNat*3+2,none⟩=false:=hfr10 2;clear hcl10 hcc10 hfr10 hM10;replace p10:=eq_true p10;replace q10:=eq_true q10;have HX12:=A_ (show Kd.R k63 63 w11 w.heap.size (fun _=>True) (.slice (some ⟨go10,0,none⟩) x3_1.length co10) x3_1 from(kr_ HO_3.out));obtain⟨ce12,hcl12,hM12,hcc12,hfr12⟩:=Kd.R_elem HX12.out z63 (x4_1:Int) (od_) (by have h_:(x4_1:Int)<((x3_1.length:Int):Int):=od_;first|exact h_|(have e_:=(Kd.R_reads' HO_3.out).1;omega)|simpa using h_);obtain rfl:=k63_openM hM12;have HP12:=Kd.R_seg HX12.out (x4_1:Int) (od_) (by have h_:(x4_1:Int)<((x3_1.length:Int):Int):=od_;first|exact h_|(have e_:=(Kd.R_reads' HO_3.out).1;omega)|simpa using h_) (seg:=[.int .i64 t248,.bool t249,.int .u64 t250]) (j:=0) hcl12 hcc12 (show 3≤3 from by decide) (x':=(⟨t248,t249,t250⟩:S63)) (k63_mkM _ _ _ (⟨t248,t249,t250⟩:S63)) (fun _ hk=>hk);have hx12_0:=hcc12 0 _ rfl;(try simp only[show (k63).sz=3 from rfl,Nat.mul_one,Nat.add_zero] at hx12_0);have hf12_0:=hfr12 0;(try simp only[show (k63).sz=3 from rfl,Nat.mul_one,Nat.add_zero] at hf12_0);have hx12_1:=hcc12 1 _ rfl;(try simp only[show (k63).sz=3 from rfl,Nat.mul_one,Nat.add_zero] at hx12_1);have hf12_1:=hfr12 1;(try simp only[show (k63).sz=3 from rfl,Nat.mul_one,Nat.add_zero] at hf12_1);have hx12_2:=hcc12 2 _ rfl;(try simp only[show (k63).sz=3 from rfl,Nat.mul_one,Nat.add_zero] at hx12_2);have hf12_2:=hfr12 2;(try simp only[show (k63).sz=3 from rfl,Nat.mul_one,Nat.add_zero] at hf12_2);clear hcl12 hcc12 hfr12 hM12)|((with_reducible refine gate_store (t:=63) (p:=21) rfl ?_);refine store_event (t:=63) (p:=21) (v:=?vo_w13) (w1:=(((w11.setCell ⟨go10,(x4_1:Int).toNat*3,none⟩ (.int .i64 t248)).setCell ⟨go10,(x4_1:Int).toNat*3+1,none⟩ (.bool t249)).setCell ⟨go10,(x4_1:Int).toNat*3+2,none⟩ (.int .u64 t250))) ?hg ?ho ?hn ?hr ?_;(case ho=>rfl);(case hg=>rfl);(case hn=>rfl);(case hr=>first|(go_simp;done)|(go_simp;rfl));intro w13 hw;have hg:w11.grownBy w13 (some go10):=(by rw[hw];exact HP12.2);have hp_:Kd.R k63 63 w13 w.heap.size (fun _=>True) (.slice (some ⟨go10,0,none⟩) x3_1.length co10) y251:=(by rw[hw,Ny251.out];exact HP12.1);clear HP12;replace HO_3:=A_ (hp_);replace HB:=A_ ((by rw[hw];exact below_set (below_set (below_set (HB.out) GB10.out) GB10.out) GB10.out:Below w.heap.size w w13));clear hg hw hp_))
        go_roundg k1
        case measure=>have:=HK1.out;omega
        case rel=>exact⟨(y251),(wrap64 (x4_1+1)),rs_,H',⟨by have:=HK1.out;omega⟩,⟨kr_ HO_3.out⟩,⟨bw HB.out⟩⟩
       rw[if_neg c9] at H
       exact absurd H (by simp)
      rw[if_neg c7] at H
      exact absurd H (by simp)
     rw[if_neg c6] at H
     have c6b0:=decide_eq_false c6
     clear c6
     obtain rfl:=Option.some.inj H
     clear H
     go_wp2
     go_ret
     exact⟨_,rr_,kr_ HO_3.out,bw HB.out⟩
  rw[if_neg c3] at H
  exact absurd H (by simp)
 rw[if_neg c2] at H
 exact absurd H (by simp)

/-! ### laws_toModule: function 8 -/
def laws_toModule.f (k:Nat) (l0_0:List (S56)) (l0_1:List (S75)) (a0_2:Bool) (a0_3:Int) (a0_4:Int) (a0_5:Int):Option ((List (S59)) × (List (S63)) × Bool × Int × Int × Int):=(laws_toFuncS.f k l0_0).bind fun t255=>((laws_toGlobalS.f k l0_1).bind fun t258=>(some (t255,t258,a0_2,a0_3,a0_4,a0_5)))
theorem laws_toModule.calls (k:Nat) (A0_0:Option Addr) (c0_0:Nat) (l0_0:List (S56)) (A0_1:Option Addr) (c0_1:Nat) (l0_1:List (S75)) (a0_2:Bool) (a0_3:Int) (a0_4:Int) (a0_5:Int) (r1:List (S59)) (r2:List (S63)) (r3:Bool) (r4:Int) (r5:Int) (r6:Int) (w:World) (hr0_0:Kd.C k56 w A0_0 l0_0.length l0_0) (hc0_0:l0_0.length≤c0_0) (hr0_1:Kd.C k75 w A0_1 l0_1.length l0_1) (hc0_1:l0_1.length≤c0_1) (h:laws_toModule.f k l0_0 l0_1 a0_2 a0_3 a0_4 a0_5=some (r1,r2,r3,r4,r5,r6)):
  Calls Try.prog 8 #[.agg #[.slice A0_0 l0_0.length c0_0,.slice A0_1 l0_1.length c0_1,.bool a0_2,.int .i64 a0_3,.int .i64 a0_4,.int .i64 a0_5]] w fun e w'=>∃ v0_ v1_:Value,e=.returned (.agg #[v0_,v1_,.bool r3,.int .i64 r4,.int .i64 r5,.int .i64 r6])∧Kd.S k59 59 w' w.heap.size (fun _=>True) v0_ r1∧Kd.R k63 63 w' w.heap.size (fun _=>True) v1_ r2∧Below w.heap.size w w':=by
 have hu25:=Try.underlying25
 have hu32:=Try.underlying32
 have HR0_0:=A_ hr0_0
 have HC0_0:=A_ hc0_0
 clear hr0_0 hc0_0
 have HR0_1:=A_ hr0_1
 have HC0_1:=A_ hc0_1
 clear hr0_1 hc0_1
 have HB:=A_ (Below.refl w.heap.size w)
 have H:((laws_toFuncS.f k l0_0).bind fun t255=>((laws_toGlobalS.f k l0_1).bind fun t258=>(some (t255,t258,a0_2,a0_3,a0_4,a0_5))))=some (r1,r2,r3,r4,r5,r6):=h
 clear h
 replace H:=bi_ H
 obtain⟨t255,A20,H⟩:=H
 have A2:=A_ A20
 clear A20
 replace H:=bi_ H
 obtain⟨t258,A30,H⟩:=H
 have A3:=A_ A30
 clear A30
 simp only[Option.some.injEq,Prod.mk.injEq] at H
 obtain⟨rfl,rfl,rfl,rfl,rfl,rfl⟩:=H
 go_enter Try.func8,Try.ntmps8
 go_wp2_with (first|((with_reducible refine gd_ 1 rfl ?_);refine bx_ #[.slice A0_0 l0_0.length c0_0,.slice A0_1 l0_1.length c0_1,.bool a0_2,.int .i64 a0_3,.int .i64 a0_4,.int .i64 a0_5] 25 ?_;intro gb252 hg w4 hbox hb;have BK252:=A_ hbox;have GW252:=gw_ hg HB;have GE252:=GW252;replace HB:=bs_ HB hb;clear hb hbox hg)|((with_reducible refine gd_ 2 rfl ?_);refine bx_ #[.slice none 0 0,.slice none 0 0,.bool false,.int .i64 0,.int .i64 0,.int .i64 0] 32 ?_;intro gb253 hg w5 hbox hb;have BK253:=A_ hbox;have GW253:=gw_ hg HB;have GE253:=GW253;obtain⟨NB252_253,NB253_252⟩:=nb_ BK252 hg;replace BK252:=kb_ BK252 hb;replace HB:=bs_ HB hb;clear hb hbox hg)|((with_reducible refine gd_ 3 rfl ?_);refine bx_ #[.slice none 0 0,.slice none 0 0,.bool false,.int .i64 0,.int .i64 0,.int .i64 0] 32 ?_;intro gb254 hg w6 hbox hb;have BK254:=A_ hbox;have GW254:=gw_ hg HB;have GE254:=GW254;obtain⟨NB252_254,NB254_252⟩:=nb_ BK252 hg;obtain⟨NB253_254,NB254_253⟩:=nb_ BK253 hg;replace BK252:=kb_ BK252 hb;replace BK253:=kb_ BK253 hb;replace HB:=bs_ HB hb;clear hb hbox hg;have hnb7:=NB252_253.out;have hnc7:=NB253_252.out;have hnb8:=NB252_254.out;have hnc8:=NB254_252.out;obtain⟨hcz9_0,hcz9_1,hcz9_2,hcz9_3,hcz9_4,hcz9_5⟩:=cs6_ BK252.out;obtain⟨hfz9_0,hfz9_1,hfz9_2,hfz9_3,hfz9_4,hfz9_5⟩:=fz6_ BK252.out)|((with_reducible refine gc_ 20 rfl ?_);refine goesL_ (some 6) rfl rfl Try.func20 (by kernel_rfl) rfl #[.slice A0_0 l0_0.length c0_0] rfl ar ?_;(with_reducible refine(laws_toFuncS.calls k _ _ l0_0 t255 _ ?side1 ?side2 A2.out).mono ?_);(case side1=>exact cb_ HR0_0 HB);(case side2=>exact HC0_0.out);rintro e w10 ⟨v256,rfl,ho0,hb⟩;refine⟨_,rfl,?_⟩;have HO257:=A_ (Kd.S_lower ho0 (below_size (bw HB.out)));replace BK252:=kb_ BK252 hb;replace BK253:=kb_ BK253 hb;replace BK254:=kb_ BK254 hb;replace HB:=bs_ HB hb;(try clear hb);(try clear hb2);(try clear hk);(try clear hi);(try clear ho0);obtain⟨Ao11,co11,eo11⟩:=Kd.S_slice HO257.out;subst eo11;have hnb12:=NB254_253.out;have hnc12:=NB253_254.out;obtain⟨hcz13_0,hcz13_1,hcz13_2,hcz13_3,hcz13_4,hcz13_5⟩:=cs6_ BK254.out;obtain⟨hfz13_0,hfz13_1,hfz13_2,hfz13_3,hfz13_4,hfz13_5⟩:=fz6_ BK254.out;obtain⟨hcz14_0,hcz14_1,hcz14_2,hcz14_3,hcz14_4,hcz14_5⟩:=cs6_ BK252.out;obtain⟨hfz14_0,hfz14_1,hfz14_2,hfz14_3,hfz14_4,hfz14_5⟩:=fz6_ BK252.out)|((with_reducible refine gc_ 21 rfl ?_);refine goesL_ (some 10) rfl rfl Try.func21 (by kernel_rfl) rfl #[.slice A0_1 l0_1.length c0_1] rfl ar ?_;(with_reducible refine(laws_toGlobalS.calls k _ _ l0_1 t258 _ ?side1 ?side2 A3.out).mono ?_);(case side1=>exact Kd.C_below HR0_1.out (bw HB.out));(case side2=>exact HC0_1.out);rintro e w15 ⟨v259,rfl,ho0,hb⟩;refine⟨_,rfl,?_⟩;have HO260:=A_ (Kd.R_lower ho0 (below_size (bw HB.out)));replace HO257:=A_ (Kd.S_below (by(with_reducible repeat (first|apply Kd.S_alloc|apply Kd.S_drewN|apply Kd.S_drew));exact(Kd.S_mono (Kd.S_far (p:=⟨gb254,0,none⟩) (Kd.S_types HO257.out BK254.out (by decide)) (fun _ hk=>hk.2) (.slice Ao11 t255.length co11)) (fun _ h_=>h_.1))) hb);replace BK252:=A_ (blk_below (g:=gb252) (o:=.cells #[.slice A0_0 l0_0.length c0_0,.slice A0_1 l0_1.length c0_1,.bool a0_2,.int .i64 a0_3,.int .i64 a0_4,.int .i64 a0_5] 25 (0,0)) (by refine blk_far ?_ NB252_254.out _;(with_reducible repeat (first|refine blk_drewN ?_ _|refine blk_drew ?_|refine blk_alloc ?_ _));exact BK252.out) hb);replace BK253:=A_ (blk_below (g:=gb253) (o:=.cells #[.slice none 0 0,.slice none 0 0,.bool false,.int .i64 0,.int .i64 0,.int .i64 0] 32 (0,0)) (by refine blk_far ?_ NB253_254.out _;(with_reducible repeat (first|refine blk_drewN ?_ _|refine blk_drew ?_|refine blk_alloc ?_ _));exact BK253.out) hb);replace BK254:=A_ (blk_below (g:=gb254) (o:=.cells #[.slice Ao11 t255.length co11,.slice none 0 0,.bool false,.int .i64 0,.int .i64 0,.int .i64 0] 32 (0,0)) (by refine blk_put (cs:=#[.slice none 0 0,.slice none 0 0,.bool false,.int .i64 0,.int .i64 0,.int .i64 0]) ?_ 0 _ rfl;(with_reducible repeat (first|refine blk_drewN ?_ _|refine blk_drew ?_|refine blk_alloc ?_ _));exact BK254.out) hb);replace HB:=bs_ HB hb;(try clear hb);(try clear hb2);(try clear hk);(try clear hi);(try clear ho0);obtain⟨Ao16,co16,eo16⟩:=Kd.R_slice HO260.out;subst eo16;obtain⟨hcz17_0,hcz17_1,hcz17_2,hcz17_3,hcz17_4,hcz17_5⟩:=cs6_ BK254.out;obtain⟨hfz17_0,hfz17_1,hfz17_2,hfz17_3,hfz17_4,hfz17_5⟩:=fz6_ BK254.out;obtain⟨hcz18_0,hcz18_1,hcz18_2,hcz18_3,hcz18_4,hcz18_5⟩:=cs6_ BK252.out;obtain⟨hfz18_0,hfz18_1,hfz18_2,hfz18_3,hfz18_4,hfz18_5⟩:=fz6_ BK252.out)|((with_reducible refine gate_store (t:=3) (p:=23) rfl ?_);refine store_event (t:=3) (p:=23) (v:=?vo_w19) (w1:=(((((w15.setCell ⟨gb254,1,none⟩ (.slice Ao16 t258.length co16)).setCell ⟨gb254,2,none⟩ (.bool a0_2)).setCell ⟨gb254,3,none⟩ (.int .i64 a0_3)).setCell ⟨gb254,4,none⟩ (.int .i64 a0_4)).setCell ⟨gb254,5,none⟩ (.int .i64 a0_5))) ?hg ?ho ?hn ?hr ?_;(case ho=>rfl);(case hg=>rfl);(case hn=>rfl);(case hr=>first|(go_simp;done)|(go_simp;rfl));intro w19 hw;replace HO257:Aside0 (Kd.S k59 59 w19 w.heap.size (fun _=>True) (.slice Ao11 t255.length co11) t255):=⟨(by rw[hw];exact(by(with_reducible repeat (first|apply Kd.S_alloc|apply Kd.S_drewN|apply Kd.S_drew));exact Kd.S_mono (Kd.S_far (p:=⟨gb254,5,none⟩) (Kd.S_far (p:=⟨gb254,4,none⟩) (Kd.S_far (p:=⟨gb254,3,none⟩) (Kd.S_far (p:=⟨gb254,2,none⟩) (Kd.S_far (p:=⟨gb254,1,none⟩) (Kd.S_types HO257.out BK254.out (by decide)) (fun _ hk=>hk.2) (.slice Ao16 t258.length co16)) (fun _ hk=>hk.2) (.bool a0_2)) (fun _ hk=>hk.2) (.int .i64 a0_3)) (fun _ hk=>hk.2) (.int .i64 a0_4)) (fun _ hk=>hk.2) (.int .i64 a0_5)) (fun _ hk=>trivial)))⟩;replace HO260:Aside0 (Kd.R k63 63 w19 w.heap.size (fun _=>True) (.slice Ao16 t258.length co16) t258):=⟨(by rw[hw];exact(by(with_reducible repeat (first|apply Kd.R_alloc|apply Kd.R_drewN|apply Kd.R_drew));exact Kd.R_mono (Kd.R_far (p:=⟨gb254,5,none⟩) (Kd.R_far (p:=⟨gb254,4,none⟩) (Kd.R_far (p:=⟨gb254,3,none⟩) (Kd.R_far (p:=⟨gb254,2,none⟩) (Kd.R_far (p:=⟨gb254,1,none⟩) (Kd.R_types HO260.out BK254.out (by decide)) (fun _ hk=>hk.2) (.slice Ao16 t258.length co16)) (fun _ hk=>hk.2) (.bool a0_2)) (fun _ hk=>hk.2) (.int .i64 a0_3)) (fun _ hk=>hk.2) (.int .i64 a0_4)) (fun _ hk=>hk.2) (.int .i64 a0_5)) (fun _ hk=>trivial)))⟩;replace BK252:Aside0 (w19.heap[gb252]? =some (.cells #[.slice A0_0 l0_0.length c0_0,.slice A0_1 l0_1.length c0_1,.bool a0_2,.int .i64 a0_3,.int .i64 a0_4,.int .i64 a0_5] 25 (0,0))):=⟨(by rw[hw];exact(by refine blk_far ?_ NB252_254.out _;refine blk_far ?_ NB252_254.out _;refine blk_far ?_ NB252_254.out _;refine blk_far ?_ NB252_254.out _;refine blk_far ?_ NB252_254.out _;(with_reducible repeat (first|refine blk_drewN ?_ _|refine blk_drew ?_|refine blk_alloc ?_ _));exact BK252.out))⟩;replace BK253:Aside0 (w19.heap[gb253]? =some (.cells #[.slice none 0 0,.slice none 0 0,.bool false,.int .i64 0,.int .i64 0,.int .i64 0] 32 (0,0))):=⟨(by rw[hw];exact(by refine blk_far ?_ NB253_254.out _;refine blk_far ?_ NB253_254.out _;refine blk_far ?_ NB253_254.out _;refine blk_far ?_ NB253_254.out _;refine blk_far ?_ NB253_254.out _;(with_reducible repeat (first|refine blk_drewN ?_ _|refine blk_drew ?_|refine blk_alloc ?_ _));exact BK253.out))⟩;replace BK254:Aside0 (w19.heap[gb254]? =some (.cells #[.slice Ao11 t255.length co11,.slice Ao16 t258.length co16,.bool a0_2,.int .i64 a0_3,.int .i64 a0_4,.int .i64 a0_5] 32 (0,0))):=⟨(by rw[hw];exact(by refine blk_put (cs:=#[.slice Ao11 t255.length co11,.slice Ao16 t258.length co16,.bool a0_2,.int .i64 a0_3,.int .i64 a0_4,.int .i64 0]) ?_ 5 _ rfl;refine blk_put (cs:=#[.slice Ao11 t255.length co11,.slice Ao16 t258.length co16,.bool a0_2,.int .i64 a0_3,.int .i64 0,.int .i64 0]) ?_ 4 _ rfl;refine blk_put (cs:=#[.slice Ao11 t255.length co11,.slice Ao16 t258.length co16,.bool a0_2,.int .i64 0,.int .i64 0,.int .i64 0]) ?_ 3 _ rfl;refine blk_put (cs:=#[.slice Ao11 t255.length co11,.slice Ao16 t258.length co16,.bool false,.int .i64 0,.int .i64 0,.int .i64 0]) ?_ 2 _ rfl;refine blk_put (cs:=#[.slice Ao11 t255.length co11,.slice none 0 0,.bool false,.int .i64 0,.int .i64 0,.int .i64 0]) ?_ 1 _ rfl;(with_reducible repeat (first|refine blk_drewN ?_ _|refine blk_drew ?_|refine blk_alloc ?_ _));exact BK254.out))⟩;replace HB:Aside0 (Below w.heap.size w w19):=⟨(by rw[hw];exact(bw HB.out))⟩;clear hw;obtain⟨hcz20_0,hcz20_1,hcz20_2,hcz20_3,hcz20_4,hcz20_5⟩:=cs6_ BK254.out;obtain⟨hfz20_0,hfz20_1,hfz20_2,hfz20_3,hfz20_4,hfz20_5⟩:=fz6_ BK254.out;obtain⟨hcz21_0,hcz21_1,hcz21_2,hcz21_3,hcz21_4,hcz21_5⟩:=cs6_ BK253.out;obtain⟨hfz21_0,hfz21_1,hfz21_2,hfz21_3,hfz21_4,hfz21_5⟩:=fz6_ BK253.out)|((with_reducible refine gate_store (t:=32) (p:=2) rfl ?_);refine store_event (t:=32) (p:=2) (v:=?vo_w22) (w1:=((((((w19.setCell ⟨gb253,0,none⟩ (.slice Ao11 t255.length co11)).setCell ⟨gb253,1,none⟩ (.slice Ao16 t258.length co16)).setCell ⟨gb253,2,none⟩ (.bool a0_2)).setCell ⟨gb253,3,none⟩ (.int .i64 a0_3)).setCell ⟨gb253,4,none⟩ (.int .i64 a0_4)).setCell ⟨gb253,5,none⟩ (.int .i64 a0_5))) ?hg ?ho ?hn ?hr ?_;(case ho=>rfl);(case hg=>rfl);(case hn=>rfl);(case hr=>first|(go_simp;done)|(go_simp;rfl));intro w22 hw;replace HO257:Aside0 (Kd.S k59 59 w22 w.heap.size (fun _=>True) (.slice Ao11 t255.length co11) t255):=⟨(by rw[hw];exact(by(with_reducible repeat (first|apply Kd.S_alloc|apply Kd.S_drewN|apply Kd.S_drew));exact Kd.S_mono (Kd.S_far (p:=⟨gb253,5,none⟩) (Kd.S_far (p:=⟨gb253,4,none⟩) (Kd.S_far (p:=⟨gb253,3,none⟩) (Kd.S_far (p:=⟨gb253,2,none⟩) (Kd.S_far (p:=⟨gb253,1,none⟩) (Kd.S_far (p:=⟨gb253,0,none⟩) (Kd.S_types HO257.out BK253.out (by decide)) (fun _ hk=>hk.2) (.slice Ao11 t255.length co11)) (fun _ hk=>hk.2) (.slice Ao16 t258.length co16)) (fun _ hk=>hk.2) (.bool a0_2)) (fun _ hk=>hk.2) (.int .i64 a0_3)) (fun _ hk=>hk.2) (.int .i64 a0_4)) (fun _ hk=>hk.2) (.int .i64 a0_5)) (fun _ hk=>trivial)))⟩;replace HO260:Aside0 (Kd.R k63 63 w22 w.heap.size (fun _=>True) (.slice Ao16 t258.length co16) t258):=⟨(by rw[hw];exact(by(with_reducible repeat (first|apply Kd.R_alloc|apply Kd.R_drewN|apply Kd.R_drew));exact Kd.R_mono (Kd.R_far (p:=⟨gb253,5,none⟩) (Kd.R_far (p:=⟨gb253,4,none⟩) (Kd.R_far (p:=⟨gb253,3,none⟩) (Kd.R_far (p:=⟨gb253,2,none⟩) (Kd.R_far (p:=⟨gb253,1,none⟩) (Kd.R_far (p:=⟨gb253,0,none⟩) (Kd.R_types HO260.out BK253.out (by decide)) (fun _ hk=>hk.2) (.slice Ao11 t255.length co11)) (fun _ hk=>hk.2) (.slice Ao16 t258.length co16)) (fun _ hk=>hk.2) (.bool a0_2)) (fun _ hk=>hk.2) (.int .i64 a0_3)) (fun _ hk=>hk.2) (.int .i64 a0_4)) (fun _ hk=>hk.2) (.int .i64 a0_5)) (fun _ hk=>trivial)))⟩;replace BK252:Aside0 (w22.heap[gb252]? =some (.cells #[.slice A0_0 l0_0.length c0_0,.slice A0_1 l0_1.length c0_1,.bool a0_2,.int .i64 a0_3,.int .i64 a0_4,.int .i64 a0_5] 25 (0,0))):=⟨(by rw[hw];exact(by refine blk_far ?_ NB252_253.out _;refine blk_far ?_ NB252_253.out _;refine blk_far ?_ NB252_253.out _;refine blk_far ?_ NB252_253.out _;refine blk_far ?_ NB252_253.out _;refine blk_far ?_ NB252_253.out _;(with_reducible repeat (first|refine blk_drewN ?_ _|refine blk_drew ?_|refine blk_alloc ?_ _));exact BK252.out))⟩;replace BK253:Aside0 (w22.heap[gb253]? =some (.cells #[.slice Ao11 t255.length co11,.slice Ao16 t258.length co16,.bool a0_2,.int .i64 a0_3,.int .i64 a0_4,.int .i64 a0_5] 32 (0,0))):=⟨(by rw[hw];exact(by refine blk_put (cs:=#[.slice Ao11 t255.length co11,.slice Ao16 t258.length co16,.bool a0_2,.int .i64 a0_3,.int .i64 a0_4,.int .i64 0]) ?_ 5 _ rfl;refine blk_put (cs:=#[.slice Ao11 t255.length co11,.slice Ao16 t258.length co16,.bool a0_2,.int .i64 a0_3,.int .i64 0,.int .i64 0]) ?_ 4 _ rfl;refine blk_put (cs:=#[.slice Ao11 t255.length co11,.slice Ao16 t258.length co16,.bool a0_2,.int .i64 0,.int .i64 0,.int .i64 0]) ?_ 3 _ rfl;refine blk_put (cs:=#[.slice Ao11 t255.length co11,.slice Ao16 t258.length co16,.bool false,.int .i64 0,.int .i64 0,.int .i64 0]) ?_ 2 _ rfl;refine blk_put (cs:=#[.slice Ao11 t255.length co11,.slice none 0 0,.bool false,.int .i64 0,.int .i64 0,.int .i64 0]) ?_ 1 _ rfl;refine blk_put (cs:=#[.slice none 0 0,.slice none 0 0,.bool false,.int .i64 0,.int .i64 0,.int .i64 0]) ?_ 0 _ rfl;(with_reducible repeat (first|refine blk_drewN ?_ _|refine blk_drew ?_|refine blk_alloc ?_ _));exact BK253.out))⟩;replace BK254:Aside0 (w22.heap[gb254]? =some (.cells #[.slice Ao11 t255.length co11,.slice Ao16 t258.length co16,.bool a0_2,.int .i64 a0_3,.int .i64 a0_4,.int .i64 a0_5] 32 (0,0))):=⟨(by rw[hw];exact(by refine blk_far ?_ NB254_253.out _;refine blk_far ?_ NB254_253.out _;refine blk_far ?_ NB254_253.out _;refine blk_far ?_ NB254_253.out _;refine blk_far ?_ NB254_253.out _;refine blk_far ?_ NB254_253.out _;(with_reducible repeat (first|refine blk_drewN ?_ _|refine blk_drew ?_|refine blk_alloc ?_ _));exact BK254.out))⟩;replace HB:Aside0 (Below w.heap.size w w22):=⟨(by rw[hw];exact(bw HB.out))⟩;clear hw))
 refine bodyPost_ret (results_cell_row rfl _ _ gb253 32 #[.slice Ao11 t255.length co11,.slice Ao16 t258.length co16,.bool a0_2,.int .i64 a0_3,.int .i64 a0_4,.int .i64 a0_5] (0,0) _ rfl (bk BK253.out) Try.underlying32 rfl (by kernel_rfl)) rfl ?_
 exact⟨_,_,rr_,ks_ HO257.out,kr_ HO260.out,bw HB.out⟩

/-! ### impl_goodType: function 52 -/
def impl_goodType.f (a0:Int):Option (Bool):=if a0=127 then (some true) else (if a0=126 then (some true) else (some (a0==125)))
theorem impl_goodType.calls (a0:Int) (r:Bool) (w:World) (h:impl_goodType.f a0=some r):
  Calls Try.prog 52 #[.int .i64 a0] w fun e w'=>e=.returned (.bool r)∧Drawn0 w w':=by
 have H:(if a0=127 then (some true) else (if a0=126 then (some true) else (some (a0==125))))=some r:=h
 clear h
 by_cases c2:a0=127
 ·
  rw[if_pos c2] at H
  obtain⟨c2b0,c2b1⟩:=eT_ c2
  clear c2
  obtain rfl:=Option.some.inj H
  clear H
  go_enter Try.func52,Try.ntmps52
  go_wp2
  go_ret
  exact⟨rs_,dr_⟩
 rw[if_neg c2] at H
 obtain⟨c2b0,c2b1⟩:=eF_ c2
 by_cases c3:a0=126
 ·
  rw[if_pos c3] at H
  obtain⟨c3b0,c3b1⟩:=eT_ c3
  clear c3
  obtain rfl:=Option.some.inj H
  clear H
  go_enter Try.func52,Try.ntmps52
  go_wp2
  go_ret
  exact⟨rs_,dr_⟩
 rw[if_neg c3] at H
 obtain⟨c3b0,c3b1⟩:=eF_ c3
 obtain rfl:=Option.some.inj H
 clear H
 go_enter Try.func52,Try.ntmps52
 go_wp2
 go_ret
 exact⟨rs_,dr_⟩

/-! ### impl_goodTypes: function 51 -/
def impl_goodTypes.l0:Nat→List Int→Int→Int→Option (Bool)
 |0,_,_,_=>none
 |k+1,x11,x12,x13=>if x13<x12 then (if 0≤x13 then (if x13<(x11.length:Int) then ((impl_goodType.f (rd x11 x13)).bind fun t262=>(if t262=true then (impl_goodTypes.l0 k x11 x12 (wrap64 (x13+1))) else (some false))) else (none)) else (none)) else (some true)
def impl_goodTypes.f (k:Nat) (l0:List Int) (a1:Int):Option (Bool):=if (l0.length:Int) > a1 then (some false) else (impl_goodTypes.l0 k l0 (l0.length:Int) 0)
theorem impl_goodTypes.calls (k:Nat) (A0:Option Addr) (c0:Nat) (l0:List Int) (a1:Int) (r:Bool) (w:World) (hr0:Kd.C (Kd.int .i64) w A0 l0.length l0) (hc0:l0.length≤c0) (h:impl_goodTypes.f k l0 a1=some r):
  Calls Try.prog 51 #[.slice A0 l0.length c0,.int .i64 a1] w fun e w'=>e=.returned (.bool r)∧Drawn0 w w':=by
 have HR0:=A_ hr0
 have HC0:=A_ hc0
 clear hr0 hc0
 have H:(if (l0.length:Int) > a1 then (some false) else (impl_goodTypes.l0 k l0 (l0.length:Int) 0))=some r:=h
 clear h
 by_cases c3:(l0.length:Int) > a1
 ·
  rw[if_pos c3] at H
  have c3b0:=decide_eq_true c3
  clear c3
  obtain rfl:=Option.some.inj H
  clear H
  go_enter Try.func51,Try.ntmps51
  go_wp2
  go_ret
  exact⟨rs_,dr_⟩
 rw[if_neg c3] at H
 have c3b0:=decide_eq_false c3
 clear c3
 have H':=A_ H
 clear H
 go_enter Try.func51,Try.ntmps51
 go_wp2
 (try simp only[Act.put,List.setIfInBounds_toArray,List.set_cons_zero,List.set_cons_succ])
 go_loopg [13] k (fun kq v13 w'=>∃ (x13_1:Int),v13=.int .i64 x13_1∧Aside0 (impl_goodTypes.l0 kq l0 (l0.length:Int) x13_1=some r)∧Aside0 (kq≤k)∧Drawn0 w w')
 case atStart=>exact⟨(0),rs_,H',⟨Nat.le_refl _⟩,dr_⟩
 case round=>
  clear H'
  try clear c3 c3b0
  obtain⟨x13_1,rfl,HA,HK1,⟨m1,rfl⟩⟩:=hrel
  cases gk with
  |zero=>exact absurd HA.out (by simp[impl_goodTypes.l0])
  |succ k1=>
   have H:=HA.out
   clear HA
   simp only[impl_goodTypes.l0] at H
   by_cases c4:x13_1<(l0.length:Int)
   ·
    rw[if_pos c4] at H
    have c4b0:=decide_eq_true c4
    clear c4
    by_cases c5:0≤x13_1
    ·
     rw[if_pos c5] at H
     have c5b0:=decide_eq_true c5
     clear c5
     by_cases c6:x13_1<(l0.length:Int)
     ·
      rw[if_pos c6] at H
      have c6b0:=decide_eq_true c6
      clear c6
      replace H:=bi_ H
      obtain⟨t262,A70,H⟩:=H
      have A7:=A_ A70
      clear A70
      by_cases c8:t262=true
      ·
       subst c8
       replace H:=iT_ H
       have H':=A_ H
       clear H
       have p261:0≤(x13_1:Int):=od_
       have q261:x13_1<(l0.length:Int):=od_
       obtain⟨ad261,e261,hx261_0⟩:=Kd.at_int HR0.out x13_1 p261 q261
       cases e261
       replace p261:=eq_true p261
       replace q261:=eq_true q261
       go_wp2_with (first|((with_reducible refine gc_ 52 rfl ?_);refine gn_ (some 18) Try.func52 (impl_goodType.calls (rd l0 x13_1) true _ A7.out) ?_;intro nd))
       go_roundg k1
       case measure=>have:=HK1.out;omega
       case rel=>exact⟨(wrap64 (x13_1+1)),rs_,H',⟨by have:=HK1.out;omega⟩,dr_⟩
      replace c8:=Bool.eq_false_iff.mpr c8
      subst c8
      replace H:=iF_ H
      obtain rfl:=Option.some.inj H
      clear H
      have p261:0≤(x13_1:Int):=od_
      have q261:x13_1<(l0.length:Int):=od_
      obtain⟨ad261,e261,hx261_0⟩:=Kd.at_int HR0.out x13_1 p261 q261
      cases e261
      replace p261:=eq_true p261
      replace q261:=eq_true q261
      go_wp2_with (first|((with_reducible refine gc_ 52 rfl ?_);refine gn_ (some 18) Try.func52 (impl_goodType.calls (rd l0 x13_1) false _ A7.out) ?_;intro nd))
      go_ret
      exact⟨rs_,dr_⟩
     rw[if_neg c6] at H
     exact absurd H (by simp)
    rw[if_neg c5] at H
    exact absurd H (by simp)
   rw[if_neg c4] at H
   have c4b0:=decide_eq_false c4
   clear c4
   obtain rfl:=Option.some.inj H
   clear H
   go_wp2
   go_ret
   exact⟨rs_,dr_⟩

/-! ### impl_formOf: function 76 -/
mutual
def impl_formOf.j0:Nat→Int→Int→Bool→Option (Int)
 |0,_,_,_=>none
 |k+1,x0,x3,x4=>if x4=true then (some 2) else (if x3=12 then (impl_formOf.j1 k x0 x3 (x3==12)) else (if x3=13 then (impl_formOf.j1 k x0 x3 (x3==13)) else (if x3=16 then (impl_formOf.j1 k x0 x3 (x3==16)) else (if x3=32 then (impl_formOf.j1 k x0 x3 (x3==32)) else (if x3=33 then (impl_formOf.j1 k x0 x3 (x3==33)) else (if x3=34 then (impl_formOf.j1 k x0 x3 (x3==34)) else (if x3=35 then (impl_formOf.j1 k x0 x3 (x3==35)) else (impl_formOf.j1 k x0 x3 (x3==36)))))))))
def impl_formOf.j1:Nat→Int→Int→Bool→Option (Int)
 |0,_,_,_=>none
 |k+1,x0,x3,x8=>if x8=true then (some 3) else (if x3=40 then (impl_formOf.j2 k x0 x3 (x3==40)) else (if x3=41 then (impl_formOf.j2 k x0 x3 (x3==41)) else (if x3=54 then (impl_formOf.j2 k x0 x3 (x3==54)) else (impl_formOf.j2 k x0 x3 (x3==55)))))
def impl_formOf.j2:Nat→Int→Int→Bool→Option (Int)
 |0,_,_,_=>none
 |k+1,x0,x3,x17=>if x17=true then (some 4) else (if x3=65 then (some 5) else (if x3=66 then (some 6) else (if x3=67 then (some 7) else (if x3=0 then (impl_formOf.j3 k x0 (x3==0)) else (if x3=1 then (impl_formOf.j3 k x0 (x3==1)) else (if x3=5 then (impl_formOf.j3 k x0 (x3==5)) else (if x3=11 then (impl_formOf.j3 k x0 (x3==11)) else (if x3=15 then (impl_formOf.j3 k x0 (x3==15)) else (if x3=26 then (impl_formOf.j3 k x0 (x3==26)) else (if x3=27 then (impl_formOf.j3 k x0 (x3==27)) else (if x3=63 then (impl_formOf.j3 k x0 (x3==63)) else (if x3=64 then (impl_formOf.j3 k x0 (x3==64)) else (if x3=176 then (impl_formOf.j3 k x0 (x3==176)) else (if x3=177 then (impl_formOf.j3 k x0 (x3==177)) else (if x3=178 then (impl_formOf.j3 k x0 (x3==178)) else (if x3=179 then (impl_formOf.j3 k x0 (x3==179)) else (impl_formOf.j3 k x0 (x3==180))))))))))))))))))
def impl_formOf.j3:Nat→Int→Bool→Option (Int)
 |0,_,_=>none
 |k+1,x0,x28=>if x28=true then (some 1) else (if x0 > 96 then (if x0≤123 then (some 1) else (if x0 > 128 then (if x0≤155 then (some 1) else (if x0 > 160 then (if x0≤169 then (some 1) else (some 0)) else (some 0))) else (if x0 > 160 then (if x0≤169 then (some 1) else (some 0)) else (some 0)))) else (if x0 > 128 then (if x0≤155 then (some 1) else (if x0 > 160 then (if x0≤169 then (some 1) else (some 0)) else (some 0))) else (if x0 > 160 then (if x0≤169 then (some 1) else (some 0)) else (some 0))))
end
def impl_formOf.f (k:Nat) (a0:Int):Option (Int):=if a0=2 then (impl_formOf.j0 k a0 a0 (a0==2)) else (if a0=3 then (impl_formOf.j0 k a0 a0 (a0==3)) else (impl_formOf.j0 k a0 a0 (a0==4)))
theorem impl_formOf.mono_l:∀ k,(∀ y0 y1 y2,LeO (impl_formOf.j0 k y0 y1 y2) (impl_formOf.j0 (k+1) y0 y1 y2))∧(∀ y0 y1 y2,LeO (impl_formOf.j1 k y0 y1 y2) (impl_formOf.j1 (k+1) y0 y1 y2))∧(∀ y0 y1 y2,LeO (impl_formOf.j2 k y0 y1 y2) (impl_formOf.j2 (k+1) y0 y1 y2))∧(∀ y0 y1,LeO (impl_formOf.j3 k y0 y1) (impl_formOf.j3 (k+1) y0 y1))
 |0=>⟨fun _ _ _ r h=>by simp[impl_formOf.j0] at h,fun _ _ _ r h=>by simp[impl_formOf.j1] at h,fun _ _ _ r h=>by simp[impl_formOf.j2] at h,fun _ _ r h=>by simp[impl_formOf.j3] at h⟩
 |k+1=>by
  obtain⟨ih0,ih1,ih2,ih3⟩:=impl_formOf.mono_l k
  refine⟨?_,?_,?_,?_⟩
  ·
   intro y0 y1 y2
   unfold impl_formOf.j0
   repeat' first
   |(with_reducible exact ih0 _ _ _)
   |(with_reducible exact ih1 _ _ _)
   |(with_reducible exact ih2 _ _ _)
   |(with_reducible exact ih3 _ _)
   |(with_reducible exact LeO.refl _)
   |(with_reducible exact LeO.none _)
   |(with_reducible refine LeO.ite ?_ ?_)
   |(with_reducible refine LeO.bind ?_ (fun _=>?_))
   |exact ih0 _ _ _
   |exact ih1 _ _ _
   |exact ih2 _ _ _
   |exact ih3 _ _
   |exact LeO.none _
   |refine LeO.ite ?_ ?_
   |refine LeO.bind ?_ (fun _=>?_)
  ·
   intro y0 y1 y2
   unfold impl_formOf.j1
   repeat' first
   |(with_reducible exact ih0 _ _ _)
   |(with_reducible exact ih1 _ _ _)
   |(with_reducible exact ih2 _ _ _)
   |(with_reducible exact ih3 _ _)
   |(with_reducible exact LeO.refl _)
   |(with_reducible exact LeO.none _)
   |(with_reducible refine LeO.ite ?_ ?_)
   |(with_reducible refine LeO.bind ?_ (fun _=>?_))
   |exact ih0 _ _ _
   |exact ih1 _ _ _
   |exact ih2 _ _ _
   |exact ih3 _ _
   |exact LeO.none _
   |refine LeO.ite ?_ ?_
   |refine LeO.bind ?_ (fun _=>?_)
  ·
   intro y0 y1 y2
   unfold impl_formOf.j2
   repeat' first
   |(with_reducible exact ih0 _ _ _)
   |(with_reducible exact ih1 _ _ _)
   |(with_reducible exact ih2 _ _ _)
   |(with_reducible exact ih3 _ _)
   |(with_reducible exact LeO.refl _)
   |(with_reducible exact LeO.none _)
   |(with_reducible refine LeO.ite ?_ ?_)
   |(with_reducible refine LeO.bind ?_ (fun _=>?_))
   |exact ih0 _ _ _
   |exact ih1 _ _ _
   |exact ih2 _ _ _
   |exact ih3 _ _
   |exact LeO.none _
   |refine LeO.ite ?_ ?_
   |refine LeO.bind ?_ (fun _=>?_)
  intro y0 y1
  unfold impl_formOf.j3
  repeat' first
  |(with_reducible exact ih0 _ _ _)
  |(with_reducible exact ih1 _ _ _)
  |(with_reducible exact ih2 _ _ _)
  |(with_reducible exact ih3 _ _)
  |(with_reducible exact LeO.refl _)
  |(with_reducible exact LeO.none _)
  |(with_reducible refine LeO.ite ?_ ?_)
  |(with_reducible refine LeO.bind ?_ (fun _=>?_))
  |exact ih0 _ _ _
  |exact ih1 _ _ _
  |exact ih2 _ _ _
  |exact ih3 _ _
  |exact LeO.none _
  |refine LeO.ite ?_ ?_
  |refine LeO.bind ?_ (fun _=>?_)
theorem impl_formOf.mono:∀ a0 k,LeO (impl_formOf.f k a0) (impl_formOf.f (k+1) a0):=by
 intro a0 k
 obtain⟨ih0,ih1,ih2,ih3⟩:=impl_formOf.mono_l k
 unfold impl_formOf.f
 repeat' first
   |(with_reducible exact ih0 _ _ _)
   |(with_reducible exact ih1 _ _ _)
   |(with_reducible exact ih2 _ _ _)
   |(with_reducible exact ih3 _ _)
   |(with_reducible exact LeO.refl _)
   |(with_reducible exact LeO.none _)
   |(with_reducible refine LeO.ite ?_ ?_)
   |(with_reducible refine LeO.bind ?_ (fun _=>?_))
   |exact ih0 _ _ _
   |exact ih1 _ _ _
   |exact ih2 _ _ _
   |exact ih3 _ _
   |exact LeO.none _
   |refine LeO.ite ?_ ?_
   |refine LeO.bind ?_ (fun _=>?_)
theorem impl_formOf.calls (k:Nat) (a0:Int) (r:Int) (w:World) (h:impl_formOf.f k a0=some r):
  Calls Try.prog 76 #[.int .i64 a0] w fun e w'=>e=.returned (.int .i64 r)∧Drawn0 w w':=by
 have H:(if a0=2 then (impl_formOf.j0 k a0 a0 (a0==2)) else (if a0=3 then (impl_formOf.j0 k a0 a0 (a0==3)) else (impl_formOf.j0 k a0 a0 (a0==4))))=some r:=h
 clear h
 have HC2:=A_ H
 clear H
 go_enter Try.func76,Try.ntmps76
 go_upto_if 4 with (fail)
 go_cut [4] (fun v4 wc=>∃ (kq:Nat) (x4_1:Bool),v4=.bool x4_1∧Aside0 (impl_formOf.j0 kq a0 a0 x4_1=some r)∧Aside0 (kq≤k)∧Drawn0 w wc)
 case first=>
  have H:=HC2.out
  clear HC2
  by_cases c3:a0=2
  ·
   rw[if_pos c3] at H
   obtain⟨c3b0,c3b1⟩:=eT_ c3
   clear c3
   (first|rw[c3b0]|(simp only[i64_w,i32_w];rw[c3b0])|skip)
   have H':=A_ H
   clear H
   go_wp2
   go_meet
   case rel=>exact⟨_,((a0==2)),rs_,H',⟨by first|omega|exact Nat.le_refl _⟩,dr_⟩
  rw[if_neg c3] at H
  obtain⟨c3b0,c3b1⟩:=eF_ c3
  (first|rw[c3b0]|(simp only[i64_w,i32_w];rw[c3b0])|skip)
  by_cases c4:a0=3
  ·
   rw[if_pos c4] at H
   obtain⟨c4b0,c4b1⟩:=eT_ c4
   clear c4
   have H':=A_ H
   clear H
   go_wp2
   go_meet
   case rel=>exact⟨_,((a0==3)),rs_,H',⟨by first|omega|exact Nat.le_refl _⟩,dr_⟩
  rw[if_neg c4] at H
  obtain⟨c4b0,c4b1⟩:=eF_ c4
  have H':=A_ H
  clear H
  go_wp2
  go_meet
  case rel=>exact⟨_,((a0==4)),rs_,H',⟨by first|omega|exact Nat.le_refl _⟩,dr_⟩
 case rest=>
  clear HC2
  obtain⟨kq,x4_1,rfl,HA,HJ1,⟨mc1,rfl⟩⟩:=hcut
  cases kq with
  |zero=>exact absurd HA.out (by simp[impl_formOf.j0])
  |succ kj1=>
   have H:=HA.out
   clear HA
   simp only[impl_formOf.j0] at H
   by_cases c5:x4_1=true
   ·
    subst c5
    replace H:=iT_ H
    obtain rfl:=Option.some.inj H
    clear H
    go_wp2
    go_ret
    exact⟨rs_,dr_⟩
   replace c5:=Bool.eq_false_iff.mpr c5
   subst c5
   replace H:=iF_ H
   have HC6:=A_ H
   clear H
   go_upto_if 8 with (fail)
   go_cut [8] (fun v8 wc=>∃ (kq:Nat) (x8_5:Bool),v8=.bool x8_5∧Aside0 (impl_formOf.j1 kq a0 a0 x8_5=some r)∧Aside0 (kq≤kj1)∧Drawn0 w wc)
   case first=>
    have H:=HC6.out
    clear HC6
    by_cases c7:a0=12
    ·
     rw[if_pos c7] at H
     obtain⟨c7b0,c7b1⟩:=eT_ c7
     clear c7
     (first|rw[c7b0]|(simp only[i64_w,i32_w];rw[c7b0])|skip)
     have H':=A_ H
     clear H
     go_wp2
     go_meet
     case rel=>exact⟨_,((a0==12)),rs_,H',⟨by have:=HJ1.out;first|omega|exact Nat.le_refl _⟩,dr_⟩
    rw[if_neg c7] at H
    obtain⟨c7b0,c7b1⟩:=eF_ c7
    (first|rw[c7b0]|(simp only[i64_w,i32_w];rw[c7b0])|skip)
    by_cases c8:a0=13
    ·
     rw[if_pos c8] at H
     obtain⟨c8b0,c8b1⟩:=eT_ c8
     clear c8
     have H':=A_ H
     clear H
     go_wp2
     go_meet
     case rel=>exact⟨_,((a0==13)),rs_,H',⟨by have:=HJ1.out;first|omega|exact Nat.le_refl _⟩,dr_⟩
    rw[if_neg c8] at H
    obtain⟨c8b0,c8b1⟩:=eF_ c8
    by_cases c9:a0=16
    ·
     rw[if_pos c9] at H
     obtain⟨c9b0,c9b1⟩:=eT_ c9
     clear c9
     have H':=A_ H
     clear H
     go_wp2
     go_meet
     case rel=>exact⟨_,((a0==16)),rs_,H',⟨by have:=HJ1.out;first|omega|exact Nat.le_refl _⟩,dr_⟩
    rw[if_neg c9] at H
    obtain⟨c9b0,c9b1⟩:=eF_ c9
    by_cases c10:a0=32
    ·
     rw[if_pos c10] at H
     obtain⟨c10b0,c10b1⟩:=eT_ c10
     clear c10
     have H':=A_ H
     clear H
     go_wp2
     go_meet
     case rel=>exact⟨_,((a0==32)),rs_,H',⟨by have:=HJ1.out;first|omega|exact Nat.le_refl _⟩,dr_⟩
    rw[if_neg c10] at H
    obtain⟨c10b0,c10b1⟩:=eF_ c10
    by_cases c11:a0=33
    ·
     rw[if_pos c11] at H
     obtain⟨c11b0,c11b1⟩:=eT_ c11
     clear c11
     have H':=A_ H
     clear H
     go_wp2
     go_meet
     case rel=>exact⟨_,((a0==33)),rs_,H',⟨by have:=HJ1.out;first|omega|exact Nat.le_refl _⟩,dr_⟩
    rw[if_neg c11] at H
    obtain⟨c11b0,c11b1⟩:=eF_ c11
    by_cases c12:a0=34
    ·
     rw[if_pos c12] at H
     obtain⟨c12b0,c12b1⟩:=eT_ c12
     clear c12
     have H':=A_ H
     clear H
     go_wp2
     go_meet
     case rel=>exact⟨_,((a0==34)),rs_,H',⟨by have:=HJ1.out;first|omega|exact Nat.le_refl _⟩,dr_⟩
    rw[if_neg c12] at H
    obtain⟨c12b0,c12b1⟩:=eF_ c12
    by_cases c13:a0=35
    ·
     rw[if_pos c13] at H
     obtain⟨c13b0,c13b1⟩:=eT_ c13
     clear c13
     have H':=A_ H
     clear H
     go_wp2
     go_meet
     case rel=>exact⟨_,((a0==35)),rs_,H',⟨by have:=HJ1.out;first|omega|exact Nat.le_refl _⟩,dr_⟩
    rw[if_neg c13] at H
    obtain⟨c13b0,c13b1⟩:=eF_ c13
    have H':=A_ H
    clear H
    go_wp2
    go_meet
    case rel=>exact⟨_,((a0==36)),rs_,H',⟨by have:=HJ1.out;first|omega|exact Nat.le_refl _⟩,dr_⟩
   case rest=>
    clear HC6
    try clear c5
    obtain⟨kq,x8_5,rfl,HA,HJ5,⟨mc5,rfl⟩⟩:=hcut
    cases kq with
    |zero=>exact absurd HA.out (by simp[impl_formOf.j1])
    |succ kj5=>
     have H:=HA.out
     clear HA
     simp only[impl_formOf.j1] at H
     by_cases c14:x8_5=true
     ·
      subst c14
      replace H:=iT_ H
      obtain rfl:=Option.some.inj H
      clear H
      go_wp2
      go_ret
      exact⟨rs_,dr_⟩
     replace c14:=Bool.eq_false_iff.mpr c14
     subst c14
     replace H:=iF_ H
     have HC15:=A_ H
     clear H
     go_upto_if 17 with (fail)
     go_cut [17] (fun v17 wc=>∃ (kq:Nat) (x17_14:Bool),v17=.bool x17_14∧Aside0 (impl_formOf.j2 kq a0 a0 x17_14=some r)∧Aside0 (kq≤kj5)∧Drawn0 w wc)
     case first=>
      have H:=HC15.out
      clear HC15
      by_cases c16:a0=40
      ·
       rw[if_pos c16] at H
       obtain⟨c16b0,c16b1⟩:=eT_ c16
       clear c16
       (first|rw[c16b0]|(simp only[i64_w,i32_w];rw[c16b0])|skip)
       have H':=A_ H
       clear H
       go_wp2
       go_meet
       case rel=>exact⟨_,((a0==40)),rs_,H',⟨by have:=HJ1.out;have:=HJ5.out;first|omega|exact Nat.le_refl _⟩,dr_⟩
      rw[if_neg c16] at H
      obtain⟨c16b0,c16b1⟩:=eF_ c16
      (first|rw[c16b0]|(simp only[i64_w,i32_w];rw[c16b0])|skip)
      by_cases c17:a0=41
      ·
       rw[if_pos c17] at H
       obtain⟨c17b0,c17b1⟩:=eT_ c17
       clear c17
       have H':=A_ H
       clear H
       go_wp2
       go_meet
       case rel=>exact⟨_,((a0==41)),rs_,H',⟨by have:=HJ1.out;have:=HJ5.out;first|omega|exact Nat.le_refl _⟩,dr_⟩
      rw[if_neg c17] at H
      obtain⟨c17b0,c17b1⟩:=eF_ c17
      by_cases c18:a0=54
      ·
       rw[if_pos c18] at H
       obtain⟨c18b0,c18b1⟩:=eT_ c18
       clear c18
       have H':=A_ H
       clear H
       go_wp2
       go_meet
       case rel=>exact⟨_,((a0==54)),rs_,H',⟨by have:=HJ1.out;have:=HJ5.out;first|omega|exact Nat.le_refl _⟩,dr_⟩
      rw[if_neg c18] at H
      obtain⟨c18b0,c18b1⟩:=eF_ c18
      have H':=A_ H
      clear H
      go_wp2
      go_meet
      case rel=>exact⟨_,((a0==55)),rs_,H',⟨by have:=HJ1.out;have:=HJ5.out;first|omega|exact Nat.le_refl _⟩,dr_⟩
     case rest=>
      clear HC15
      try clear c5 c14
      obtain⟨kq,x17_14,rfl,HA,HJ14,⟨mc14,rfl⟩⟩:=hcut
      cases kq with
      |zero=>exact absurd HA.out (by simp[impl_formOf.j2])
      |succ kj14=>
       have H:=HA.out
       clear HA
       simp only[impl_formOf.j2] at H
       by_cases c19:x17_14=true
       ·
        subst c19
        replace H:=iT_ H
        obtain rfl:=Option.some.inj H
        clear H
        go_wp2
        go_ret
        exact⟨rs_,dr_⟩
       replace c19:=Bool.eq_false_iff.mpr c19
       subst c19
       replace H:=iF_ H
       by_cases c20:a0=65
       ·
        rw[if_pos c20] at H
        obtain⟨c20b0,c20b1⟩:=eT_ c20
        clear c20
        obtain rfl:=Option.some.inj H
        clear H
        go_wp2
        go_ret
        exact⟨rs_,dr_⟩
       rw[if_neg c20] at H
       obtain⟨c20b0,c20b1⟩:=eF_ c20
       by_cases c21:a0=66
       ·
        rw[if_pos c21] at H
        obtain⟨c21b0,c21b1⟩:=eT_ c21
        clear c21
        obtain rfl:=Option.some.inj H
        clear H
        go_wp2
        go_ret
        exact⟨rs_,dr_⟩
       rw[if_neg c21] at H
       obtain⟨c21b0,c21b1⟩:=eF_ c21
       by_cases c22:a0=67
       ·
        rw[if_pos c22] at H
        obtain⟨c22b0,c22b1⟩:=eT_ c22
        clear c22
        obtain rfl:=Option.some.inj H
        clear H
        go_wp2
        go_ret
        exact⟨rs_,dr_⟩
       rw[if_neg c22] at H
       obtain⟨c22b0,c22b1⟩:=eF_ c22
       have HC23:=A_ H
       clear H
       go_upto_if 28 with (fail)
       go_cut [28] (fun v28 wc=>∃ (kq:Nat) (x28_22:Bool),v28=.bool x28_22∧Aside0 (impl_formOf.j3 kq a0 x28_22=some r)∧Aside0 (kq≤kj14)∧Drawn0 w wc)
       case first=>
        have H:=HC23.out
        clear HC23
        by_cases c24:a0=0
        ·
         rw[if_pos c24] at H
         obtain⟨c24b0,c24b1⟩:=eT_ c24
         clear c24
         (first|rw[c24b0]|(simp only[i64_w,i32_w];rw[c24b0])|skip)
         have H':=A_ H
         clear H
         go_wp2
         go_meet
         case rel=>exact⟨_,((a0==0)),rs_,H',⟨by have:=HJ1.out;have:=HJ5.out;have:=HJ14.out;first|omega|exact Nat.le_refl _⟩,dr_⟩
        rw[if_neg c24] at H
        obtain⟨c24b0,c24b1⟩:=eF_ c24
        (first|rw[c24b0]|(simp only[i64_w,i32_w];rw[c24b0])|skip)
        by_cases c25:a0=1
        ·
         rw[if_pos c25] at H
         obtain⟨c25b0,c25b1⟩:=eT_ c25
         clear c25
         have H':=A_ H
         clear H
         go_wp2
         go_meet
         case rel=>exact⟨_,((a0==1)),rs_,H',⟨by have:=HJ1.out;have:=HJ5.out;have:=HJ14.out;first|omega|exact Nat.le_refl _⟩,dr_⟩
        rw[if_neg c25] at H
        obtain⟨c25b0,c25b1⟩:=eF_ c25
        by_cases c26:a0=5
        ·
         rw[if_pos c26] at H
         obtain⟨c26b0,c26b1⟩:=eT_ c26
         clear c26
         have H':=A_ H
         clear H
         go_wp2
         go_meet
         case rel=>exact⟨_,((a0==5)),rs_,H',⟨by have:=HJ1.out;have:=HJ5.out;have:=HJ14.out;first|omega|exact Nat.le_refl _⟩,dr_⟩
        rw[if_neg c26] at H
        obtain⟨c26b0,c26b1⟩:=eF_ c26
        by_cases c27:a0=11
        ·
         rw[if_pos c27] at H
         obtain⟨c27b0,c27b1⟩:=eT_ c27
         clear c27
         have H':=A_ H
         clear H
         go_wp2
         go_meet
         case rel=>exact⟨_,((a0==11)),rs_,H',⟨by have:=HJ1.out;have:=HJ5.out;have:=HJ14.out;first|omega|exact Nat.le_refl _⟩,dr_⟩
        rw[if_neg c27] at H
        obtain⟨c27b0,c27b1⟩:=eF_ c27
        by_cases c28:a0=15
        ·
         rw[if_pos c28] at H
         obtain⟨c28b0,c28b1⟩:=eT_ c28
         clear c28
         have H':=A_ H
         clear H
         go_wp2
         go_meet
         case rel=>exact⟨_,((a0==15)),rs_,H',⟨by have:=HJ1.out;have:=HJ5.out;have:=HJ14.out;first|omega|exact Nat.le_refl _⟩,dr_⟩
        rw[if_neg c28] at H
        obtain⟨c28b0,c28b1⟩:=eF_ c28
        by_cases c29:a0=26
        ·
         rw[if_pos c29] at H
         obtain⟨c29b0,c29b1⟩:=eT_ c29
         clear c29
         have H':=A_ H
         clear H
         go_wp2
         go_meet
         case rel=>exact⟨_,((a0==26)),rs_,H',⟨by have:=HJ1.out;have:=HJ5.out;have:=HJ14.out;first|omega|exact Nat.le_refl _⟩,dr_⟩
        rw[if_neg c29] at H
        obtain⟨c29b0,c29b1⟩:=eF_ c29
        by_cases c30:a0=27
        ·
         rw[if_pos c30] at H
         obtain⟨c30b0,c30b1⟩:=eT_ c30
         clear c30
         have H':=A_ H
         clear H
         go_wp2
         go_meet
         case rel=>exact⟨_,((a0==27)),rs_,H',⟨by have:=HJ1.out;have:=HJ5.out;have:=HJ14.out;first|omega|exact Nat.le_refl _⟩,dr_⟩
        rw[if_neg c30] at H
        obtain⟨c30b0,c30b1⟩:=eF_ c30
        by_cases c31:a0=63
        ·
         rw[if_pos c31] at H
         obtain⟨c31b0,c31b1⟩:=eT_ c31
         clear c31
         have H':=A_ H
         clear H
         go_wp2
         go_meet
         case rel=>exact⟨_,((a0==63)),rs_,H',⟨by have:=HJ1.out;have:=HJ5.out;have:=HJ14.out;first|omega|exact Nat.le_refl _⟩,dr_⟩
        rw[if_neg c31] at H
        obtain⟨c31b0,c31b1⟩:=eF_ c31
        by_cases c32:a0=64
        ·
         rw[if_pos c32] at H
         obtain⟨c32b0,c32b1⟩:=eT_ c32
         clear c32
         have H':=A_ H
         clear H
         go_wp2
         go_meet
         case rel=>exact⟨_,((a0==64)),rs_,H',⟨by have:=HJ1.out;have:=HJ5.out;have:=HJ14.out;first|omega|exact Nat.le_refl _⟩,dr_⟩
        rw[if_neg c32] at H
        obtain⟨c32b0,c32b1⟩:=eF_ c32
        by_cases c33:a0=176
        ·
         rw[if_pos c33] at H
         obtain⟨c33b0,c33b1⟩:=eT_ c33
         clear c33
         have H':=A_ H
         clear H
         go_wp2
         go_meet
         case rel=>exact⟨_,((a0==176)),rs_,H',⟨by have:=HJ1.out;have:=HJ5.out;have:=HJ14.out;first|omega|exact Nat.le_refl _⟩,dr_⟩
        rw[if_neg c33] at H
        obtain⟨c33b0,c33b1⟩:=eF_ c33
        by_cases c34:a0=177
        ·
         rw[if_pos c34] at H
         obtain⟨c34b0,c34b1⟩:=eT_ c34
         clear c34
         have H':=A_ H
         clear H
         go_wp2
         go_meet
         case rel=>exact⟨_,((a0==177)),rs_,H',⟨by have:=HJ1.out;have:=HJ5.out;have:=HJ14.out;first|omega|exact Nat.le_refl _⟩,dr_⟩
        rw[if_neg c34] at H
        obtain⟨c34b0,c34b1⟩:=eF_ c34
        by_cases c35:a0=178
        ·
         rw[if_pos c35] at H
         obtain⟨c35b0,c35b1⟩:=eT_ c35
         clear c35
         have H':=A_ H
         clear H
         go_wp2
         go_meet
         case rel=>exact⟨_,((a0==178)),rs_,H',⟨by have:=HJ1.out;have:=HJ5.out;have:=HJ14.out;first|omega|exact Nat.le_refl _⟩,dr_⟩
        rw[if_neg c35] at H
        obtain⟨c35b0,c35b1⟩:=eF_ c35
        by_cases c36:a0=179
        ·
         rw[if_pos c36] at H
         obtain⟨c36b0,c36b1⟩:=eT_ c36
         clear c36
         have H':=A_ H
         clear H
         go_wp2
         go_meet
         case rel=>exact⟨_,((a0==179)),rs_,H',⟨by have:=HJ1.out;have:=HJ5.out;have:=HJ14.out;first|omega|exact Nat.le_refl _⟩,dr_⟩
        rw[if_neg c36] at H
        obtain⟨c36b0,c36b1⟩:=eF_ c36
        have H':=A_ H
        clear H
        go_wp2
        go_meet
        case rel=>exact⟨_,((a0==180)),rs_,H',⟨by have:=HJ1.out;have:=HJ5.out;have:=HJ14.out;first|omega|exact Nat.le_refl _⟩,dr_⟩
       case rest=>
        clear HC23
        try clear c5 c14 c19 c20 c20b0 c20b1 c21 c21b0 c21b1 c22 c22b0 c22b1
        obtain⟨kq,x28_22,rfl,HA,HJ22,⟨mc22,rfl⟩⟩:=hcut
        cases kq with
        |zero=>exact absurd HA.out (by simp[impl_formOf.j3])
        |succ kj22=>
         have H:=HA.out
         clear HA
         simp only[impl_formOf.j3] at H
         by_cases c37:x28_22=true
         ·
          subst c37
          replace H:=iT_ H
          obtain rfl:=Option.some.inj H
          clear H
          go_wp2
          go_ret
          exact⟨rs_,dr_⟩
         replace c37:=Bool.eq_false_iff.mpr c37
         subst c37
         replace H:=iF_ H
         by_cases c38:a0 > 96
         ·
          rw[if_pos c38] at H
          have c38b0:=decide_eq_true c38
          clear c38
          by_cases c39:a0≤123
          ·
           rw[if_pos c39] at H
           have c39b0:=decide_eq_true c39
           clear c39
           obtain rfl:=Option.some.inj H
           clear H
           go_wp2
           go_ret
           exact⟨rs_,dr_⟩
          rw[if_neg c39] at H
          have c39b0:=decide_eq_false c39
          clear c39
          by_cases c40:a0 > 128
          ·
           rw[if_pos c40] at H
           have c40b0:=decide_eq_true c40
           clear c40
           by_cases c41:a0≤155
           ·
            rw[if_pos c41] at H
            have c41b0:=decide_eq_true c41
            clear c41
            obtain rfl:=Option.some.inj H
            clear H
            go_wp2
            go_ret
            exact⟨rs_,dr_⟩
           rw[if_neg c41] at H
           have c41b0:=decide_eq_false c41
           clear c41
           by_cases c42:a0 > 160
           ·
            rw[if_pos c42] at H
            have c42b0:=decide_eq_true c42
            clear c42
            by_cases c43:a0≤169
            ·
             rw[if_pos c43] at H
             have c43b0:=decide_eq_true c43
             clear c43
             obtain rfl:=Option.some.inj H
             clear H
             go_wp2
             go_ret
             exact⟨rs_,dr_⟩
            rw[if_neg c43] at H
            have c43b0:=decide_eq_false c43
            clear c43
            obtain rfl:=Option.some.inj H
            clear H
            go_wp2
            go_ret
            exact⟨rs_,dr_⟩
           rw[if_neg c42] at H
           have c42b0:=decide_eq_false c42
           clear c42
           obtain rfl:=Option.some.inj H
           clear H
           go_wp2
           go_ret
           exact⟨rs_,dr_⟩
          rw[if_neg c40] at H
          have c40b0:=decide_eq_false c40
          clear c40
          by_cases c44:a0 > 160
          ·
           rw[if_pos c44] at H
           have c44b0:=decide_eq_true c44
           clear c44
           by_cases c45:a0≤169
           ·
            rw[if_pos c45] at H
            have c45b0:=decide_eq_true c45
            clear c45
            obtain rfl:=Option.some.inj H
            clear H
            go_wp2
            go_ret
            exact⟨rs_,dr_⟩
           rw[if_neg c45] at H
           have c45b0:=decide_eq_false c45
           clear c45
           obtain rfl:=Option.some.inj H
           clear H
           go_wp2
           go_ret
           exact⟨rs_,dr_⟩
          rw[if_neg c44] at H
          have c44b0:=decide_eq_false c44
          clear c44
          obtain rfl:=Option.some.inj H
          clear H
          go_wp2
          go_ret
          exact⟨rs_,dr_⟩
         rw[if_neg c38] at H
         have c38b0:=decide_eq_false c38
         clear c38
         by_cases c46:a0 > 128
         ·
          rw[if_pos c46] at H
          have c46b0:=decide_eq_true c46
          clear c46
          by_cases c47:a0≤155
          ·
           rw[if_pos c47] at H
           have c47b0:=decide_eq_true c47
           clear c47
           obtain rfl:=Option.some.inj H
           clear H
           go_wp2
           go_ret
           exact⟨rs_,dr_⟩
          rw[if_neg c47] at H
          have c47b0:=decide_eq_false c47
          clear c47
          by_cases c48:a0 > 160
          ·
           rw[if_pos c48] at H
           have c48b0:=decide_eq_true c48
           clear c48
           by_cases c49:a0≤169
           ·
            rw[if_pos c49] at H
            have c49b0:=decide_eq_true c49
            clear c49
            obtain rfl:=Option.some.inj H
            clear H
            go_wp2
            go_ret
            exact⟨rs_,dr_⟩
           rw[if_neg c49] at H
           have c49b0:=decide_eq_false c49
           clear c49
           obtain rfl:=Option.some.inj H
           clear H
           go_wp2
           go_ret
           exact⟨rs_,dr_⟩
          rw[if_neg c48] at H
          have c48b0:=decide_eq_false c48
          clear c48
          obtain rfl:=Option.some.inj H
          clear H
          go_wp2
          go_ret
          exact⟨rs_,dr_⟩
         rw[if_neg c46] at H
         have c46b0:=decide_eq_false c46
         clear c46
         by_cases c50:a0 > 160
         ·
          rw[if_pos c50] at H
          have c50b0:=decide_eq_true c50
          clear c50
          by_cases c51:a0≤169
          ·
           rw[if_pos c51] at H
           have c51b0:=decide_eq_true c51
           clear c51
           obtain rfl:=Option.some.inj H
           clear H
           go_wp2
           go_ret
           exact⟨rs_,dr_⟩
          rw[if_neg c51] at H
          have c51b0:=decide_eq_false c51
          clear c51
          obtain rfl:=Option.some.inj H
          clear H
          go_wp2
          go_ret
          exact⟨rs_,dr_⟩
         rw[if_neg c50] at H
         have c50b0:=decide_eq_false c50
         clear c50
         obtain rfl:=Option.some.inj H
         clear H
         go_wp2
         go_ret
         exact⟨rs_,dr_⟩

/-! ### impl_GoodIns: function 81 -/
def impl_GoodIns.f (k:Nat) (a0_0:Int) (a0_1:Int):Option (Bool):=(impl_formOf.f k a0_0).bind fun t264=>(if t264=1 then (some (a0_1==0)) else (if t264=2 then ((impl_goodType.f a0_1).bind fun t265=>(if t265=true then (some true) else (some (a0_1==64)))) else (if t264=3 then (if a0_1≥0 then (some (decide (a0_1≤1000))) else (some false)) else (if t264=4 then (if a0_1≥0 then (some (decide (a0_1≤10000))) else (some false)) else (if t264=5 then (if a0_1≥(-2147483648) then (some (decide (a0_1<2147483648))) else (some false)) else (if t264=6 then (some true) else (if t264=7 then (if a0_1≥0 then (some (decide (a0_1<4294967296))) else (some false)) else (some false))))))))
theorem impl_GoodIns.calls (k:Nat) (a0_0:Int) (a0_1:Int) (r:Bool) (w:World) (h:impl_GoodIns.f k a0_0 a0_1=some r):
  Calls Try.prog 81 #[.agg #[.int .i64 a0_0,.int .i64 a0_1]] w fun e w'=>e=.returned (.bool r)∧Below w.heap.size w w':=by
 have hu71:=Try.underlying71
 have HB:=A_ (Below.refl w.heap.size w)
 have H:((impl_formOf.f k a0_0).bind fun t264=>(if t264=1 then (some (a0_1==0)) else (if t264=2 then ((impl_goodType.f a0_1).bind fun t265=>(if t265=true then (some true) else (some (a0_1==64)))) else (if t264=3 then (if a0_1≥0 then (some (decide (a0_1≤1000))) else (some false)) else (if t264=4 then (if a0_1≥0 then (some (decide (a0_1≤10000))) else (some false)) else (if t264=5 then (if a0_1≥(-2147483648) then (some (decide (a0_1<2147483648))) else (some false)) else (if t264=6 then (some true) else (if t264=7 then (if a0_1≥0 then (some (decide (a0_1<4294967296))) else (some false)) else (some false)))))))))=some r:=h
 clear h
 replace H:=bi_ H
 obtain⟨t264,A20,H⟩:=H
 have A2:=A_ A20
 clear A20
 by_cases c3:t264=1
 ·
  rw[if_pos c3] at H
  obtain⟨c3b0,c3b1⟩:=eT_ c3
  clear c3
  obtain rfl:=Option.some.inj H
  clear H
  go_enter Try.func81,Try.ntmps81
  go_wp2_with (first|((with_reducible refine gd_ 1 rfl ?_);refine bx_ #[.int .i64 a0_0,.int .i64 a0_1] 71 ?_;intro gb263 hg w4 hbox hb;have BK263:=A_ hbox;have GW263:=gw_ hg HB;have GE263:=GW263;replace HB:=bs_ HB hb;clear hb hbox hg;obtain⟨hcz5_0,hcz5_1⟩:=cs2_ BK263.out;obtain⟨hfz5_0,hfz5_1⟩:=fz2_ BK263.out)|((with_reducible refine gc_ 76 rfl ?_);refine gn_ (some 5) Try.func76 (impl_formOf.calls k a0_0 t264 _ A2.out) ?_;intro nd))
  go_ret
  exact⟨rr_,bw HB.out⟩
 rw[if_neg c3] at H
 obtain⟨c3b0,c3b1⟩:=eF_ c3
 by_cases c6:t264=2
 ·
  rw[if_pos c6] at H
  obtain⟨c6b0,c6b1⟩:=eT_ c6
  clear c6
  replace H:=bi_ H
  obtain⟨t265,A70,H⟩:=H
  have A7:=A_ A70
  clear A70
  by_cases c8:t265=true
  ·
   subst c8
   replace H:=iT_ H
   obtain rfl:=Option.some.inj H
   clear H
   go_enter Try.func81,Try.ntmps81
   go_wp2_with (first|((with_reducible refine gd_ 1 rfl ?_);refine bx_ #[.int .i64 a0_0,.int .i64 a0_1] 71 ?_;intro gb263 hg w9 hbox hb;have BK263:=A_ hbox;have GW263:=gw_ hg HB;have GE263:=GW263;replace HB:=bs_ HB hb;clear hb hbox hg;obtain⟨hcz10_0,hcz10_1⟩:=cs2_ BK263.out;obtain⟨hfz10_0,hfz10_1⟩:=fz2_ BK263.out)|((with_reducible refine gc_ 76 rfl ?_);refine gn_ (some 5) Try.func76 (impl_formOf.calls k a0_0 t264 _ A2.out) ?_;intro nd)|((with_reducible refine gc_ 52 rfl ?_);refine gn_ (some 15) Try.func52 (impl_goodType.calls a0_1 true _ A7.out) ?_;intro nd))
   go_ret
   exact⟨rr_,bw HB.out⟩
  replace c8:=Bool.eq_false_iff.mpr c8
  subst c8
  replace H:=iF_ H
  obtain rfl:=Option.some.inj H
  clear H
  go_enter Try.func81,Try.ntmps81
  go_wp2_with (first|((with_reducible refine gd_ 1 rfl ?_);refine bx_ #[.int .i64 a0_0,.int .i64 a0_1] 71 ?_;intro gb263 hg w11 hbox hb;have BK263:=A_ hbox;have GW263:=gw_ hg HB;have GE263:=GW263;replace HB:=bs_ HB hb;clear hb hbox hg;obtain⟨hcz12_0,hcz12_1⟩:=cs2_ BK263.out;obtain⟨hfz12_0,hfz12_1⟩:=fz2_ BK263.out)|((with_reducible refine gc_ 76 rfl ?_);refine gn_ (some 5) Try.func76 (impl_formOf.calls k a0_0 t264 _ A2.out) ?_;intro nd)|((with_reducible refine gc_ 52 rfl ?_);refine gn_ (some 15) Try.func52 (impl_goodType.calls a0_1 false _ A7.out) ?_;intro nd))
  go_ret
  exact⟨rr_,bw HB.out⟩
 rw[if_neg c6] at H
 obtain⟨c6b0,c6b1⟩:=eF_ c6
 by_cases c13:t264=3
 ·
  rw[if_pos c13] at H
  obtain⟨c13b0,c13b1⟩:=eT_ c13
  clear c13
  by_cases c14:a0_1≥0
  ·
   rw[if_pos c14] at H
   have c14b0:=decide_eq_true c14
   clear c14
   obtain rfl:=Option.some.inj H
   clear H
   go_enter Try.func81,Try.ntmps81
   go_wp2_with (first|((with_reducible refine gd_ 1 rfl ?_);refine bx_ #[.int .i64 a0_0,.int .i64 a0_1] 71 ?_;intro gb263 hg w15 hbox hb;have BK263:=A_ hbox;have GW263:=gw_ hg HB;have GE263:=GW263;replace HB:=bs_ HB hb;clear hb hbox hg;obtain⟨hcz16_0,hcz16_1⟩:=cs2_ BK263.out;obtain⟨hfz16_0,hfz16_1⟩:=fz2_ BK263.out)|((with_reducible refine gc_ 76 rfl ?_);refine gn_ (some 5) Try.func76 (impl_formOf.calls k a0_0 t264 _ A2.out) ?_;intro nd))
   go_ret
   exact⟨rr_,bw HB.out⟩
  rw[if_neg c14] at H
  have c14b0:=decide_eq_false c14
  clear c14
  obtain rfl:=Option.some.inj H
  clear H
  go_enter Try.func81,Try.ntmps81
  go_wp2_with (first|((with_reducible refine gd_ 1 rfl ?_);refine bx_ #[.int .i64 a0_0,.int .i64 a0_1] 71 ?_;intro gb263 hg w17 hbox hb;have BK263:=A_ hbox;have GW263:=gw_ hg HB;have GE263:=GW263;replace HB:=bs_ HB hb;clear hb hbox hg;obtain⟨hcz18_0,hcz18_1⟩:=cs2_ BK263.out;obtain⟨hfz18_0,hfz18_1⟩:=fz2_ BK263.out)|((with_reducible refine gc_ 76 rfl ?_);refine gn_ (some 5) Try.func76 (impl_formOf.calls k a0_0 t264 _ A2.out) ?_;intro nd))
  go_ret
  exact⟨rr_,bw HB.out⟩
 rw[if_neg c13] at H
 obtain⟨c13b0,c13b1⟩:=eF_ c13
 by_cases c19:t264=4
 ·
  rw[if_pos c19] at H
  obtain⟨c19b0,c19b1⟩:=eT_ c19
  clear c19
  by_cases c20:a0_1≥0
  ·
   rw[if_pos c20] at H
   have c20b0:=decide_eq_true c20
   clear c20
   obtain rfl:=Option.some.inj H
   clear H
   go_enter Try.func81,Try.ntmps81
   go_wp2_with (first|((with_reducible refine gd_ 1 rfl ?_);refine bx_ #[.int .i64 a0_0,.int .i64 a0_1] 71 ?_;intro gb263 hg w21 hbox hb;have BK263:=A_ hbox;have GW263:=gw_ hg HB;have GE263:=GW263;replace HB:=bs_ HB hb;clear hb hbox hg;obtain⟨hcz22_0,hcz22_1⟩:=cs2_ BK263.out;obtain⟨hfz22_0,hfz22_1⟩:=fz2_ BK263.out)|((with_reducible refine gc_ 76 rfl ?_);refine gn_ (some 5) Try.func76 (impl_formOf.calls k a0_0 t264 _ A2.out) ?_;intro nd))
   go_ret
   exact⟨rr_,bw HB.out⟩
  rw[if_neg c20] at H
  have c20b0:=decide_eq_false c20
  clear c20
  obtain rfl:=Option.some.inj H
  clear H
  go_enter Try.func81,Try.ntmps81
  go_wp2_with (first|((with_reducible refine gd_ 1 rfl ?_);refine bx_ #[.int .i64 a0_0,.int .i64 a0_1] 71 ?_;intro gb263 hg w23 hbox hb;have BK263:=A_ hbox;have GW263:=gw_ hg HB;have GE263:=GW263;replace HB:=bs_ HB hb;clear hb hbox hg;obtain⟨hcz24_0,hcz24_1⟩:=cs2_ BK263.out;obtain⟨hfz24_0,hfz24_1⟩:=fz2_ BK263.out)|((with_reducible refine gc_ 76 rfl ?_);refine gn_ (some 5) Try.func76 (impl_formOf.calls k a0_0 t264 _ A2.out) ?_;intro nd))
  go_ret
  exact⟨rr_,bw HB.out⟩
 rw[if_neg c19] at H
 obtain⟨c19b0,c19b1⟩:=eF_ c19
 by_cases c25:t264=5
 ·
  rw[if_pos c25] at H
  obtain⟨c25b0,c25b1⟩:=eT_ c25
  clear c25
  by_cases c26:a0_1≥(-2147483648)
  ·
   rw[if_pos c26] at H
   have c26b0:=decide_eq_true c26
   clear c26
   obtain rfl:=Option.some.inj H
   clear H
   go_enter Try.func81,Try.ntmps81
   go_wp2_with (first|((with_reducible refine gd_ 1 rfl ?_);refine bx_ #[.int .i64 a0_0,.int .i64 a0_1] 71 ?_;intro gb263 hg w27 hbox hb;have BK263:=A_ hbox;have GW263:=gw_ hg HB;have GE263:=GW263;replace HB:=bs_ HB hb;clear hb hbox hg;obtain⟨hcz28_0,hcz28_1⟩:=cs2_ BK263.out;obtain⟨hfz28_0,hfz28_1⟩:=fz2_ BK263.out)|((with_reducible refine gc_ 76 rfl ?_);refine gn_ (some 5) Try.func76 (impl_formOf.calls k a0_0 t264 _ A2.out) ?_;intro nd))
   go_ret
   exact⟨rr_,bw HB.out⟩
  rw[if_neg c26] at H
  have c26b0:=decide_eq_false c26
  clear c26
  obtain rfl:=Option.some.inj H
  clear H
  go_enter Try.func81,Try.ntmps81
  go_wp2_with (first|((with_reducible refine gd_ 1 rfl ?_);refine bx_ #[.int .i64 a0_0,.int .i64 a0_1] 71 ?_;intro gb263 hg w29 hbox hb;have BK263:=A_ hbox;have GW263:=gw_ hg HB;have GE263:=GW263;replace HB:=bs_ HB hb;clear hb hbox hg;obtain⟨hcz30_0,hcz30_1⟩:=cs2_ BK263.out;obtain⟨hfz30_0,hfz30_1⟩:=fz2_ BK263.out)|((with_reducible refine gc_ 76 rfl ?_);refine gn_ (some 5) Try.func76 (impl_formOf.calls k a0_0 t264 _ A2.out) ?_;intro nd))
  go_ret
  exact⟨rr_,bw HB.out⟩
 rw[if_neg c25] at H
 obtain⟨c25b0,c25b1⟩:=eF_ c25
 by_cases c31:t264=6
 ·
  rw[if_pos c31] at H
  obtain⟨c31b0,c31b1⟩:=eT_ c31
  clear c31
  obtain rfl:=Option.some.inj H
  clear H
  go_enter Try.func81,Try.ntmps81
  go_wp2_with (first|((with_reducible refine gd_ 1 rfl ?_);refine bx_ #[.int .i64 a0_0,.int .i64 a0_1] 71 ?_;intro gb263 hg w32 hbox hb;have BK263:=A_ hbox;have GW263:=gw_ hg HB;have GE263:=GW263;replace HB:=bs_ HB hb;clear hb hbox hg;obtain⟨hcz33_0,hcz33_1⟩:=cs2_ BK263.out;obtain⟨hfz33_0,hfz33_1⟩:=fz2_ BK263.out)|((with_reducible refine gc_ 76 rfl ?_);refine gn_ (some 5) Try.func76 (impl_formOf.calls k a0_0 t264 _ A2.out) ?_;intro nd))
  go_ret
  exact⟨rr_,bw HB.out⟩
 rw[if_neg c31] at H
 obtain⟨c31b0,c31b1⟩:=eF_ c31
 by_cases c34:t264=7
 ·
  rw[if_pos c34] at H
  obtain⟨c34b0,c34b1⟩:=eT_ c34
  clear c34
  by_cases c35:a0_1≥0
  ·
   rw[if_pos c35] at H
   have c35b0:=decide_eq_true c35
   clear c35
   obtain rfl:=Option.some.inj H
   clear H
   go_enter Try.func81,Try.ntmps81
   go_wp2_with (first|((with_reducible refine gd_ 1 rfl ?_);refine bx_ #[.int .i64 a0_0,.int .i64 a0_1] 71 ?_;intro gb263 hg w36 hbox hb;have BK263:=A_ hbox;have GW263:=gw_ hg HB;have GE263:=GW263;replace HB:=bs_ HB hb;clear hb hbox hg;obtain⟨hcz37_0,hcz37_1⟩:=cs2_ BK263.out;obtain⟨hfz37_0,hfz37_1⟩:=fz2_ BK263.out)|((with_reducible refine gc_ 76 rfl ?_);refine gn_ (some 5) Try.func76 (impl_formOf.calls k a0_0 t264 _ A2.out) ?_;intro nd))
   go_ret
   exact⟨rr_,bw HB.out⟩
  rw[if_neg c35] at H
  have c35b0:=decide_eq_false c35
  clear c35
  obtain rfl:=Option.some.inj H
  clear H
  go_enter Try.func81,Try.ntmps81
  go_wp2_with (first|((with_reducible refine gd_ 1 rfl ?_);refine bx_ #[.int .i64 a0_0,.int .i64 a0_1] 71 ?_;intro gb263 hg w38 hbox hb;have BK263:=A_ hbox;have GW263:=gw_ hg HB;have GE263:=GW263;replace HB:=bs_ HB hb;clear hb hbox hg;obtain⟨hcz39_0,hcz39_1⟩:=cs2_ BK263.out;obtain⟨hfz39_0,hfz39_1⟩:=fz2_ BK263.out)|((with_reducible refine gc_ 76 rfl ?_);refine gn_ (some 5) Try.func76 (impl_formOf.calls k a0_0 t264 _ A2.out) ?_;intro nd))
  go_ret
  exact⟨rr_,bw HB.out⟩
 rw[if_neg c34] at H
 obtain⟨c34b0,c34b1⟩:=eF_ c34
 obtain rfl:=Option.some.inj H
 clear H
 go_enter Try.func81,Try.ntmps81
 go_wp2_with (first|((with_reducible refine gd_ 1 rfl ?_);refine bx_ #[.int .i64 a0_0,.int .i64 a0_1] 71 ?_;intro gb263 hg w40 hbox hb;have BK263:=A_ hbox;have GW263:=gw_ hg HB;have GE263:=GW263;replace HB:=bs_ HB hb;clear hb hbox hg;obtain⟨hcz41_0,hcz41_1⟩:=cs2_ BK263.out;obtain⟨hfz41_0,hfz41_1⟩:=fz2_ BK263.out)|((with_reducible refine gc_ 76 rfl ?_);refine gn_ (some 5) Try.func76 (impl_formOf.calls k a0_0 t264 _ A2.out) ?_;intro nd))
 go_ret
 exact⟨rr_,bw HB.out⟩

/-! ### impl_goodCode: function 68 -/
def impl_goodCode.l0:Nat→List (S71)→Int→Int→Option (Bool)
 |0,_,_,_=>none
 |k+1,x8,x9,x10=>if x10<x9 then (if 0≤x10 then (if x10<(x8.length:Int) then ((impl_GoodIns.f k ((rd_T71 x8 x10).f0) ((rd_T71 x8 x10).f1)).bind fun t268=>(if t268=true then (impl_goodCode.l0 k x8 x9 (wrap64 (x10+1))) else (some false))) else (none)) else (none)) else (some true)
def impl_goodCode.f (k:Nat) (l0:List (S71)):Option (Bool):=if (l0.length:Int) > 200 then (some false) else (impl_goodCode.l0 k l0 (l0.length:Int) 0)
theorem impl_goodCode.calls (k:Nat) (A0:Option Addr) (c0:Nat) (l0:List (S71)) (r:Bool) (w:World) (hr0:Kd.C k71 w A0 l0.length l0) (hc0:l0.length≤c0) (h:impl_goodCode.f k l0=some r):
  Calls Try.prog 68 #[.slice A0 l0.length c0] w fun e w'=>e=.returned (.bool r)∧Below w.heap.size w w':=by
 have hu71:=Try.underlying71
 have HR0:=A_ hr0
 have HC0:=A_ hc0
 clear hr0 hc0
 have HB:=A_ (Below.refl w.heap.size w)
 have H:(if (l0.length:Int) > 200 then (some false) else (impl_goodCode.l0 k l0 (l0.length:Int) 0))=some r:=h
 clear h
 by_cases c2:(l0.length:Int) > 200
 ·
  rw[if_pos c2] at H
  have c2b0:=decide_eq_true c2
  have c2b1:decide (200<l0.length)=true:=decide_eq_true (by omega)
  clear c2
  obtain rfl:=Option.some.inj H
  clear H
  go_enter Try.func68,Try.ntmps68
  go_wp2
  go_ret
  exact⟨rr_,bw HB.out⟩
 rw[if_neg c2] at H
 have c2b0:=decide_eq_false c2
 have c2b1:decide (200<l0.length)=false:=decide_eq_false (by omega)
 clear c2
 have H':=A_ H
 clear H
 go_enter Try.func68,Try.ntmps68
 go_wp2
 (try simp only[Act.put,List.setIfInBounds_toArray,List.set_cons_zero,List.set_cons_succ])
 go_loopg [10] k (fun kq v10 w'=>∃ (x10_1:Int),v10=.int .i64 x10_1∧Aside0 (impl_goodCode.l0 kq l0 (l0.length:Int) x10_1=some r)∧Aside0 (kq≤k)∧Aside0 (Below w.heap.size w w'))
 case atStart=>exact⟨(0),rs_,H',⟨Nat.le_refl _⟩,⟨bw HB.out⟩⟩
 case round=>
  clear H'
  try clear c2 c2b0 c2b1
  obtain⟨x10_1,rfl,HA,HK1,HB⟩:=hrel
  cases gk with
  |zero=>exact absurd HA.out (by simp[impl_goodCode.l0])
  |succ k1=>
   have H:=HA.out
   clear HA
   simp only[impl_goodCode.l0] at H
   by_cases c3:x10_1<(l0.length:Int)
   ·
    rw[if_pos c3] at H
    have c3b0:=decide_eq_true c3
    clear c3
    by_cases c4:0≤x10_1
    ·
     rw[if_pos c4] at H
     have c4b0:=decide_eq_true c4
     clear c4
     by_cases c5:x10_1<(l0.length:Int)
     ·
      rw[if_pos c5] at H
      have c5b0:=decide_eq_true c5
      clear c5
      replace H:=bi_ H
      obtain⟨t268,A60,H⟩:=H
      have A6:=A_ A60
      clear A60
      by_cases c7:t268=true
      ·
       subst c7
       replace H:=iT_ H
       have H':=A_ H
       clear H
       have p266:0≤(x10_1:Int):=od_
       have q266:x10_1<(l0.length:Int):=od_
       obtain⟨ad266,e266,hx266_0,hx266_1⟩:=at_T71 HR0.out x10_1 p266 q266
       cases e266
       replace hx266_0:=cl_ HB.out hx266_0
       replace hx266_1:=cl_ HB.out hx266_1
       replace p266:=eq_true p266
       replace q266:=eq_true q266
       go_wp2_with (first|((with_reducible refine gd_ 4 rfl ?_);refine bx_ #[.int .i64 0,.int .i64 0] 71 ?_;intro gb267 hg w8 hbox hb;have BK267:=A_ hbox;have GW267:=gw_ hg HB;have GE267:=GW267;replace HB:=bs_ HB hb;clear hb hbox hg;obtain⟨hcz9_0,hcz9_1⟩:=cs2_ BK267.out;obtain⟨hfz9_0,hfz9_1⟩:=fz2_ BK267.out)|((with_reducible refine gc_ 81 rfl ?_);refine gm_ (some 15) Try.func81 (impl_GoodIns.calls k1 ((rd_T71 l0 x10_1).f0) ((rd_T71 l0 x10_1).f1) true _ A6.out) ?_;intro w10 hb;replace BK267:=A_ (blk_below (g:=gb267) (o:=.cells #[.int .i64 ((rd_T71 l0 x10_1).f0),.int .i64 ((rd_T71 l0 x10_1).f1)] 71 (0,0)) (by refine blk_put (cs:=#[.int .i64 ((rd_T71 l0 x10_1).f0),.int .i64 0]) ?_ 1 _ rfl;refine blk_put (cs:=#[.int .i64 0,.int .i64 0]) ?_ 0 _ rfl;(with_reducible repeat (first|refine blk_drewN ?_ _|refine blk_drew ?_|refine blk_alloc ?_ _));exact BK267.out) hb);replace HB:=bs_ HB hb;(try clear hb)))
       go_roundg k1
       case measure=>have:=HK1.out;omega
       case rel=>exact⟨(wrap64 (x10_1+1)),rs_,H',⟨by have:=HK1.out;omega⟩,⟨bw HB.out⟩⟩
      replace c7:=Bool.eq_false_iff.mpr c7
      subst c7
      replace H:=iF_ H
      obtain rfl:=Option.some.inj H
      clear H
      have p266:0≤(x10_1:Int):=od_
      have q266:x10_1<(l0.length:Int):=od_
      obtain⟨ad266,e266,hx266_0,hx266_1⟩:=at_T71 HR0.out x10_1 p266 q266
      cases e266
      replace hx266_0:=cl_ HB.out hx266_0
      replace hx266_1:=cl_ HB.out hx266_1
      replace p266:=eq_true p266
      replace q266:=eq_true q266
      go_wp2_with (first|((with_reducible refine gd_ 4 rfl ?_);refine bx_ #[.int .i64 0,.int .i64 0] 71 ?_;intro gb267 hg w11 hbox hb;have BK267:=A_ hbox;have GW267:=gw_ hg HB;have GE267:=GW267;replace HB:=bs_ HB hb;clear hb hbox hg;obtain⟨hcz12_0,hcz12_1⟩:=cs2_ BK267.out;obtain⟨hfz12_0,hfz12_1⟩:=fz2_ BK267.out)|((with_reducible refine gc_ 81 rfl ?_);refine gm_ (some 15) Try.func81 (impl_GoodIns.calls k1 ((rd_T71 l0 x10_1).f0) ((rd_T71 l0 x10_1).f1) false _ A6.out) ?_;intro w13 hb;replace BK267:=A_ (blk_below (g:=gb267) (o:=.cells #[.int .i64 ((rd_T71 l0 x10_1).f0),.int .i64 ((rd_T71 l0 x10_1).f1)] 71 (0,0)) (by refine blk_put (cs:=#[.int .i64 ((rd_T71 l0 x10_1).f0),.int .i64 0]) ?_ 1 _ rfl;refine blk_put (cs:=#[.int .i64 0,.int .i64 0]) ?_ 0 _ rfl;(with_reducible repeat (first|refine blk_drewN ?_ _|refine blk_drew ?_|refine blk_alloc ?_ _));exact BK267.out) hb);replace HB:=bs_ HB hb;(try clear hb)))
      go_ret
      exact⟨rr_,bw HB.out⟩
     rw[if_neg c5] at H
     exact absurd H (by simp)
    rw[if_neg c4] at H
    exact absurd H (by simp)
   rw[if_neg c3] at H
   have c3b0:=decide_eq_false c3
   clear c3
   obtain rfl:=Option.some.inj H
   clear H
   go_wp2
   go_ret
   exact⟨rr_,bw HB.out⟩

/-! ### impl_opens: function 69 -/
def impl_opens.f (a0:Int):Option (Bool):=if a0=2 then (some true) else (if a0=3 then (some true) else (some (a0==4)))
theorem impl_opens.calls (a0:Int) (r:Bool) (w:World) (h:impl_opens.f a0=some r):
  Calls Try.prog 69 #[.int .i64 a0] w fun e w'=>e=.returned (.bool r)∧Drawn0 w w':=by
 have H:(if a0=2 then (some true) else (if a0=3 then (some true) else (some (a0==4))))=some r:=h
 clear h
 by_cases c2:a0=2
 ·
  rw[if_pos c2] at H
  obtain⟨c2b0,c2b1⟩:=eT_ c2
  clear c2
  obtain rfl:=Option.some.inj H
  clear H
  go_enter Try.func69,Try.ntmps69
  go_wp2
  go_ret
  exact⟨rs_,dr_⟩
 rw[if_neg c2] at H
 obtain⟨c2b0,c2b1⟩:=eF_ c2
 by_cases c3:a0=3
 ·
  rw[if_pos c3] at H
  obtain⟨c3b0,c3b1⟩:=eT_ c3
  clear c3
  obtain rfl:=Option.some.inj H
  clear H
  go_enter Try.func69,Try.ntmps69
  go_wp2
  go_ret
  exact⟨rs_,dr_⟩
 rw[if_neg c3] at H
 obtain⟨c3b0,c3b1⟩:=eF_ c3
 obtain rfl:=Option.some.inj H
 clear H
 go_enter Try.func69,Try.ntmps69
 go_wp2
 go_ret
 exact⟨rs_,dr_⟩

/-! ### impl_deepest: function 53 -/
def impl_deepest.l0:Nat→List Int→Int→List (S71)→Int→Int→Option (Int)
 |0,_,_,_,_,_=>none
 |k+1,x3,x4,x12,x13,x14=>if x14<x13 then (if 0≤x14 then (if x14<(x12.length:Int) then (if (x3.length:Int)=0 then (some 0) else ((impl_opens.f ((rd_T71 x12 x14).f0)).bind fun t275=>(if t275=true then (if x3.length<17592186044416 then ((some (x3++[(rd_T71 x12 x14).f0]:List Int)).bind fun y276=>(impl_deepest.l0 k y276 (mx x4 (y276.length:Int)) x12 x13 (wrap64 (x14+1)))) else (none)) else (if ((rd_T71 x12 x14).f0)=5 then (if 0≤(wrap64 ((x3.length:Int) - 1)) then (if (wrap64 ((x3.length:Int) - 1))<(x3.length:Int) then (if (rd x3 (wrap64 ((x3.length:Int) - 1)))=4 then (impl_deepest.l0 k (x3.set ((wrap64 ((x3.length:Int) - 1)):Int).toNat 5) x4 x12 x13 (wrap64 (x14+1))) else (some 0)) else (none)) else (none)) else (if ((rd_T71 x12 x14).f0)=11 then (if 0≤(wrap64 ((x3.length:Int) - 1)) then (if (wrap64 ((x3.length:Int) - 1))≤(x3.length:Int) then (impl_deepest.l0 k (x3.take ((wrap64 ((x3.length:Int) - 1)):Int).toNat) x4 x12 x13 (wrap64 (x14+1))) else (none)) else (none)) else (impl_deepest.l0 k x3 x4 x12 x13 (wrap64 (x14+1)))))))) else (none)) else (none)) else (if (x3.length:Int) > 0 then (some 0) else (some x4))
def impl_deepest.f (k:Nat) (l0:List (S71)):Option (Int):=(impl_goodCode.f k l0).bind fun t269=>(if t269=true then (impl_deepest.l0 k (([2]:List Int)) 1 l0 (l0.length:Int) 0) else (some 0))
theorem impl_deepest.calls (k:Nat) (A0:Option Addr) (c0:Nat) (l0:List (S71)) (r:Int) (w:World) (hr0:Kd.C k71 w A0 l0.length l0) (hc0:l0.length≤c0) (h:impl_deepest.f k l0=some r):
  Calls Try.prog 53 #[.slice A0 l0.length c0] w fun e w'=>e=.returned (.int .i64 r)∧Below w.heap.size w w':=by
 have hu71:=Try.underlying71
 have HR0:=A_ hr0
 have HC0:=A_ hc0
 clear hr0 hc0
 have HB:=A_ (Below.refl w.heap.size w)
 have H:((impl_goodCode.f k l0).bind fun t269=>(if t269=true then (impl_deepest.l0 k (([2]:List Int)) 1 l0 (l0.length:Int) 0) else (some 0)))=some r:=h
 clear h
 replace H:=bi_ H
 obtain⟨t269,A20,H⟩:=H
 have A2:=A_ A20
 clear A20
 by_cases c3:t269=true
 ·
  subst c3
  replace H:=iT_ H
  obtain⟨y270,hy270⟩:∃ y_:List Int,y_=(([2]:List Int)):=⟨_,rfl⟩
  replace H:(impl_deepest.l0 k y270 1 l0 (l0.length:Int) 0)=some r:=by first|(rw[hy270];with_reducible exact H)|(have H2_:=(Option.bind_some _ _).symm.trans H;rw[hy270];with_reducible exact H2_)|(have H2_:=(Option.bind_some _ _).symm.trans H;with_reducible exact H2_)|with_reducible exact H|(rw[hy270];exact H)|exact H
  have Ny270:=A_ hy270
  clear hy270
  have H':=A_ H
  clear H
  go_enter Try.func53,Try.ntmps53
  go_wp2_with (first|((with_reducible refine gc_ 68 rfl ?_);refine goesL_ (some 9) rfl rfl Try.func68 (by kernel_rfl) rfl #[.slice A0 l0.length c0] rfl ar ?_;(with_reducible refine(impl_goodCode.calls k _ _ l0 true _ ?side1 ?side2 A2.out).mono ?_);(case side1=>repeat (first|exact HR0.out|(with_reducible refine Kd.C_alloc ?_ _)|(with_reducible refine Kd.C_drewN ?_ _)|(with_reducible refine Kd.C_drew ?_)));(case side2=>exact HC0.out);rintro e w4 ⟨rfl,hb⟩;refine⟨_,rfl,?_⟩;replace HB:=bs_ HB hb;(try clear hb))|((with_reducible refine gd_ 11 rfl ?_);refine Kd.R_lit (Kd.int .i64) _ 3 ?hg (N:=11) ?hd (xs:=([2]:List Int)) (inner:=[.int .i64 2]) (ok:=fun _=>True) (okp:=fun _=>True) ?hr ?hp (fun _ hk=>hk) trivial (Below.refl _ _) (Nat.le_refl _) (by simp) ?_;(case hd=>rfl);(case hg=>rfl);(case hr=>first|(go_simp;done)|(go_simp;rfl));(case hp=>exact(Reps.one (show Kd.M (Kd.int .i64) _ _ _ 2 [.int .i64 2] from rfl) (Reps.none _ _)));intro v271 w5 ho6 hb hg_ hnew_;clear hg_ hnew_;(first|rw[←Ny270.out] at ho6|(simp only[Int.reduceToNat] at ho6;rw[←Ny270.out] at ho6));have HO272:=A_ (Kd.R_lower ho6 (below_size (bw HB.out)));replace HB:=bs_ HB hb;clear hb ho6))
  (try simp only[Act.put,List.setIfInBounds_toArray,List.set_cons_zero,List.set_cons_succ])
  go_loopg [3,4,14] k (fun kq v3 v4 v14 w'=>∃ (x3_1:List Int) (x4_1:Int) (x14_1:Int),v4=.int .i64 x4_1∧v14=.int .i64 x14_1∧Aside0 (impl_deepest.l0 kq x3_1 x4_1 l0 (l0.length:Int) x14_1=some r)∧Aside0 (kq≤k)∧Aside0 (Kd.R (Kd.int .i64) 3 w' w.heap.size (fun _=>True) v3 x3_1)∧Aside0 (Below w.heap.size w w'))
  case atStart=>exact⟨(y270),(1),(0),rs_,rs_,H',⟨Nat.le_refl _⟩,⟨kr_ HO272.out⟩,⟨bw HB.out⟩⟩
  case round=>
   clear H'
   try clear c3
   obtain⟨x3_1,x4_1,x14_1,rfl,rfl,HA,HK1,HO_3,HB⟩:=hrel
   cases gk with
   |zero=>exact absurd HA.out (by simp[impl_deepest.l0])
   |succ k1=>
    have H:=HA.out
    clear HA
    simp only[impl_deepest.l0] at H
    by_cases c7:x14_1<(l0.length:Int)
    ·
     rw[if_pos c7] at H
     have c7b0:=decide_eq_true c7
     clear c7
     by_cases c8:0≤x14_1
     ·
      rw[if_pos c8] at H
      have c8b0:=decide_eq_true c8
      clear c8
      by_cases c9:x14_1<(l0.length:Int)
      ·
       rw[if_pos c9] at H
       have c9b0:=decide_eq_true c9
       clear c9
       by_cases c10:(x3_1.length:Int)=0
       ·
        rw[if_pos c10] at H
        obtain⟨c10b0,c10b1⟩:=eT_ c10
        clear c10
        obtain rfl:=Option.some.inj H
        clear H
        have p273:0≤(x14_1:Int):=od_
        have q273:x14_1<(l0.length:Int):=od_
        obtain⟨ad273,e273,hx273_0,hx273_1⟩:=at_T71 HR0.out x14_1 p273 q273
        cases e273
        replace hx273_0:=cl_ HB.out hx273_0
        replace hx273_1:=cl_ HB.out hx273_1
        replace p273:=eq_true p273
        replace q273:=eq_true q273
        go_wp2_with (first|((with_reducible refine gd_ 6 rfl ?_);refine bx_ #[.int .i64 0,.int .i64 0] 71 ?_;intro gb274 hg w11 hbox hb;have BK274:=A_ hbox;have GW274:=gw_ hg HB;have GE274:=GW274;replace HO_3:=A_ (Kd.R_below (kr_ HO_3.out) hb);replace HB:=bs_ HB hb;clear hb hbox hg;obtain⟨hcz12_0,hcz12_1⟩:=cs2_ BK274.out;obtain⟨hfz12_0,hfz12_1⟩:=fz2_ BK274.out;obtain⟨Ao13,co13,eo13⟩:=Kd.R_slice HO_3.out;subst eo13))
        go_ret
        exact⟨rr_,bw HB.out⟩
       rw[if_neg c10] at H
       obtain⟨c10b0,c10b1⟩:=eF_ c10
       have c10b2:¬(x3_1=[]):=fun h_=>c10 (by rw[h_];rfl)
       replace H:=bi_ H
       obtain⟨t275,A140,H⟩:=H
       have A14:=A_ A140
       clear A140
       by_cases c15:t275=true
       ·
        subst c15
        replace H:=iT_ H
        by_cases c16:x3_1.length<17592186044416
        ·
         rw[if_pos c16] at H
         have LMc16:=A_ c16
         clear c16
         obtain⟨y276,hy276⟩:∃ y_:List Int,y_=(x3_1++[(rd_T71 l0 x14_1).f0]):=⟨_,rfl⟩
         replace H:(impl_deepest.l0 k1 y276 (mx x4_1 (y276.length:Int)) l0 (l0.length:Int) (wrap64 (x14_1+1)))=some r:=by first|(rw[hy276];with_reducible exact H)|(have H2_:=(Option.bind_some _ _).symm.trans H;rw[hy276];with_reducible exact H2_)|(have H2_:=(Option.bind_some _ _).symm.trans H;with_reducible exact H2_)|with_reducible exact H|(rw[hy276];exact H)|exact H
         have Ny276:=A_ hy276
         clear hy276
         obtain⟨ji17,hji17⟩:∃ j_:Int,(mx x4_1 (y276.length:Int))=j_:=⟨_,rfl⟩
         replace H:(impl_deepest.l0 k1 y276 ji17 l0 (l0.length:Int) (wrap64 (x14_1+1)))=some r:=by first|(rw[hji17] at H;exact H)|(simp only[hji17] at H ⊢;exact H)
         (try rw[hji17] at A14)
         have hji17_:(if x4_1<(y276.length:Int) then (y276.length:Int) else x4_1)=ji17:=hji17
         have H':=A_ H
         clear H
         have p273:0≤(x14_1:Int):=od_
         have q273:x14_1<(l0.length:Int):=od_
         obtain⟨ad273,e273,hx273_0,hx273_1⟩:=at_T71 HR0.out x14_1 p273 q273
         cases e273
         replace hx273_0:=cl_ HB.out hx273_0
         replace hx273_1:=cl_ HB.out hx273_1
         replace p273:=eq_true p273
         replace q273:=eq_true q273
         go_wp2_with (first|((with_reducible refine gd_ 6 rfl ?_);refine bx_ #[.int .i64 0,.int .i64 0] 71 ?_;intro gb274 hg w18 hbox hb;have BK274:=A_ hbox;have GW274:=gw_ hg HB;have GE274:=GW274;replace HO_3:=A_ (Kd.R_below (kr_ HO_3.out) hb);replace HB:=bs_ HB hb;clear hb hbox hg;obtain⟨hcz19_0,hcz19_1⟩:=cs2_ BK274.out;obtain⟨hfz19_0,hfz19_1⟩:=fz2_ BK274.out;obtain⟨Ao20,co20,eo20⟩:=Kd.R_slice HO_3.out;subst eo20)|((with_reducible refine gc_ 69 rfl ?_);refine gn_ (some 27) Try.func69 (impl_opens.calls ((rd_T71 l0 x14_1).f0) true _ A14.out) ?_;intro nd)|((with_reducible refine gate_builtin (b:=.append) (xs:=#[.tmp 28,.tmp 31]) rfl ?_);at_builtin;refine Kd.R_append (Kd.int .i64) (w0:=w) w.heap.size rfl (.tmp 28) (.tmp 31) 53 3 (.int .i64 0) 8 rfl Try.underlying53 info3 rfl (by decide) (by omega) (.slice Ao20 x3_1.length co20) x3_1 ((rd_T71 l0 x14_1).f0) [.int .i64 ((rd_T71 l0 x14_1).f0)] (fun _=>True) (fun _=>False) rfl (by first|(go_simp;done)|(go_simp;rfl)) ?aP (fun _ hk=>hk.elim) ?aF ?aO ?aB ?aS ?aL ?_;(case aP=>exact rfl);(case aB=>exact(bw HB.out));(case aF=>exact(fun _ _=>trivial));(case aO=>exact(by(with_reducible repeat (first|apply Kd.R_alloc|apply Kd.R_drewN|apply Kd.R_drew));exact Kd.R_mono (Kd.R_far (p:=⟨gb274,1,none⟩) (Kd.R_far (p:=⟨gb274,0,none⟩) (Kd.R_types HO_3.out BK274.out (by decide)) (fun _ hk=>hk.2) (.int .i64 ((rd_T71 l0 x14_1).f0))) (fun _ hk=>hk.2) (.int .i64 ((rd_T71 l0 x14_1).f1))) (fun _ hk=>trivial)));(case aS=>exact(below_size (bw HB.out)));(case aL=>have:=LMc16.out;omega);intro v277 w21 ho hb hg hat;rw[←Ny276.out] at ho;have HO278:=A_ (ho);replace BK274:=A_ (blk_grown (g:=gb274) (o:=.cells #[.int .i64 ((rd_T71 l0 x14_1).f0),.int .i64 ((rd_T71 l0 x14_1).f1)] 71 (0,0)) (by refine blk_put (cs:=#[.int .i64 ((rd_T71 l0 x14_1).f0),.int .i64 0]) ?_ 1 _ rfl;refine blk_put (cs:=#[.int .i64 0,.int .i64 0]) ?_ 0 _ rfl;(with_reducible repeat (first|refine blk_drewN ?_ _|refine blk_drew ?_|refine blk_alloc ?_ _));exact BK274.out) hg (Kd.R_ne HO_3.out BK274.out (by decide)));replace HB:=A_ (hb);clear HO_3;clear ho hb hg hat;obtain⟨Ao22,co22,eo22⟩:=Kd.R_slice HO278.out;subst eo22))
         go_roundg k1
         case measure=>have:=HK1.out;omega
         case rel=>exact⟨(y276),(ji17),(wrap64 (x14_1+1)),(by first|rfl|(simp;done)|(simp only[←hji17]<;>(first|rfl|simp))|(simp[*];done)),rs_,H',⟨by have:=HK1.out;omega⟩,⟨kr_ HO278.out⟩,⟨bw HB.out⟩⟩
        rw[if_neg c16] at H
        exact absurd H (by simp)
       replace c15:=Bool.eq_false_iff.mpr c15
       subst c15
       replace H:=iF_ H
       by_cases c23:((rd_T71 l0 x14_1).f0)=5
       ·
        rw[if_pos c23] at H
        obtain⟨c23b0,c23b1⟩:=eT_ c23
        clear c23
        obtain⟨ji24,hji24⟩:∃ j_:Int,(wrap64 ((x3_1.length:Int) - 1))=j_:=⟨_,rfl⟩
        replace H:(if 0≤(ji24) then (if (ji24)<(x3_1.length:Int) then (if (rd x3_1 (ji24))=4 then (impl_deepest.l0 k1 (x3_1.set ((ji24):Int).toNat 5) x4_1 l0 (l0.length:Int) (wrap64 (x14_1+1))) else (some 0)) else (none)) else (none))=some r:=by first|(rw[hji24] at H;exact H)|(simp only[hji24] at H ⊢;exact H)
        (try rw[hji24] at A14)
        have hji24w:(IntKind.i64.wrap ((x3_1.length:Int) - 1))=ji24:=(i64_w _).trans hji24
        by_cases c25:0≤(ji24)
        ·
         rw[if_pos c25] at H
         have c25b0:=decide_eq_true c25
         clear c25
         by_cases c26:(ji24)<(x3_1.length:Int)
         ·
          rw[if_pos c26] at H
          have c26b0:=decide_eq_true c26
          clear c26
          by_cases c27:(rd x3_1 (ji24))=4
          ·
           rw[if_pos c27] at H
           obtain⟨c27b0,c27b1⟩:=eT_ c27
           clear c27
           obtain⟨y280,hy280⟩:∃ y_:List Int,y_=(x3_1.set ((ji24):Int).toNat 5):=⟨_,rfl⟩
           replace H:(impl_deepest.l0 k1 y280 x4_1 l0 (l0.length:Int) (wrap64 (x14_1+1)))=some r:=by first|(rw[hy280];with_reducible exact H)|(have H2_:=(Option.bind_some _ _).symm.trans H;rw[hy280];with_reducible exact H2_)|(have H2_:=(Option.bind_some _ _).symm.trans H;with_reducible exact H2_)|with_reducible exact H|(rw[hy280];exact H)|exact H
           have Ny280:=A_ hy280
           clear hy280
           have H':=A_ H
           clear H
           have p273:0≤(x14_1:Int):=od_
           have q273:x14_1<(l0.length:Int):=od_
           obtain⟨ad273,e273,hx273_0,hx273_1⟩:=at_T71 HR0.out x14_1 p273 q273
           cases e273
           replace hx273_0:=cl_ HB.out hx273_0
           replace hx273_1:=cl_ HB.out hx273_1
           replace p273:=eq_true p273
           replace q273:=eq_true q273
           go_wp2_with (first|((with_reducible refine gd_ 6 rfl ?_);refine bx_ #[.int .i64 0,.int .i64 0] 71 ?_;intro gb274 hg w29 hbox hb;have BK274:=A_ hbox;have GW274:=gw_ hg HB;have GE274:=GW274;replace HO_3:=A_ (Kd.R_below (kr_ HO_3.out) hb);replace HB:=bs_ HB hb;clear hb hbox hg;obtain⟨hcz30_0,hcz30_1⟩:=cs2_ BK274.out;obtain⟨hfz30_0,hfz30_1⟩:=fz2_ BK274.out)|((with_reducible refine gate_store (t:=71) (p:=6) rfl ?_);refine store_event (t:=71) (p:=6) (v:=?vo_w31) (w1:=((w29.setCell ⟨gb274,0,none⟩ (.int .i64 ((rd_T71 l0 x14_1).f0))).setCell ⟨gb274,1,none⟩ (.int .i64 ((rd_T71 l0 x14_1).f1)))) ?hg ?ho ?hn ?hr ?_;(case ho=>rfl);(case hg=>rfl);(case hn=>rfl);(case hr=>first|(go_simp;done)|(go_simp;rfl));intro w31 hw;replace HO_3:Aside0 (Kd.R (Kd.int .i64) 3 w31 w.heap.size (fun _=>True) u3 x3_1):=⟨(by rw[hw];exact(by(with_reducible repeat (first|apply Kd.R_alloc|apply Kd.R_drewN|apply Kd.R_drew));exact Kd.R_mono (Kd.R_far (p:=⟨gb274,1,none⟩) (Kd.R_far (p:=⟨gb274,0,none⟩) (Kd.R_types HO_3.out BK274.out (by decide)) (fun _ hk=>hk.2) (.int .i64 ((rd_T71 l0 x14_1).f0))) (fun _ hk=>hk.2) (.int .i64 ((rd_T71 l0 x14_1).f1))) (fun _ hk=>trivial)))⟩;replace BK274:Aside0 (w31.heap[gb274]? =some (.cells #[.int .i64 ((rd_T71 l0 x14_1).f0),.int .i64 ((rd_T71 l0 x14_1).f1)] 71 (0,0))):=⟨(by rw[hw];exact(by refine blk_put (cs:=#[.int .i64 ((rd_T71 l0 x14_1).f0),.int .i64 0]) ?_ 1 _ rfl;refine blk_put (cs:=#[.int .i64 0,.int .i64 0]) ?_ 0 _ rfl;(with_reducible repeat (first|refine blk_drewN ?_ _|refine blk_drew ?_|refine blk_alloc ?_ _));exact BK274.out))⟩;replace HB:Aside0 (Below w.heap.size w w31):=⟨(by rw[hw];exact(bw HB.out))⟩;clear hw;obtain⟨Ao32,co32,eo32⟩:=Kd.R_slice HO_3.out;subst eo32;obtain⟨hcz33_0,hcz33_1⟩:=cs2_ BK274.out;obtain⟨hfz33_0,hfz33_1⟩:=fz2_ BK274.out)|((with_reducible refine gc_ 69 rfl ?_);refine gn_ (some 27) Try.func69 (impl_opens.calls ((rd_T71 l0 x14_1).f0) false _ A14.out) ?_;intro nd;(try (rw[drewN_self w31];generalize hq_:World.drewN w31 _=w31;have n0_:Aside0 (Kd.R (Kd.int .i64) 3 w31 w.heap.size (fun _=>True) (.slice Ao32 x3_1.length co32) x3_1):=⟨by rw[←hq_];exact(kr_ HO_3.out)⟩;have n1_:Aside0 (w31.heap[gb274]? =some (.cells #[.int .i64 ((rd_T71 l0 x14_1).f0),.int .i64 ((rd_T71 l0 x14_1).f1)] 71 (0,0))):=⟨by rw[←hq_];exact(bk BK274.out)⟩;have n2_:Aside0 (Below w.heap.size w w31):=⟨by rw[←hq_];exact(bw HB.out)⟩;clear HO_3 BK274 HB hq_;have HO_3:=n0_;have BK274:=n1_;have HB:=n2_;clear n0_ n1_ n2_));obtain⟨hcz34_0,hcz34_1⟩:=cs2_ BK274.out;obtain⟨hfz34_0,hfz34_1⟩:=fz2_ BK274.out;have p279:0≤((ji24):Int):=od_;have q279:(ji24)<(x3_1.length:Int):=od_;obtain⟨ad279,e279,hx279_0⟩:=Kd.at_int (Kd.R_reads' HO_3.out).2.2 (ji24) p279 q279;cases e279;replace p279:=eq_true p279;replace q279:=eq_true q279;have p28:0≤((ji24):Int):=od_;have q28:((ji24):Int)<((x3_1.length:Int):Int):=od_;obtain⟨go28,co28,eo28,gb28,gl28,cl28,HG28⟩:=Kd.R_form HO_3.out (by omega);(first|cases eo28|(injection eo28 with ea_ en_ ec_;(first|subst ea_|(injection ea_ with ea_;subst ea_));subst ec_;clear en_));have GB28:=A_ gb28;have GG28:=A_ HG28;clear gb28 gl28 HG28;(first|simp only[add_plain] at hx279_0|skip);obtain⟨hx28_0,hf28_0⟩:=Kd.R_celln 0 HO_3.out ((ji24):Int) p28 q28;replace p28:=eq_true p28;replace q28:=eq_true q28;obtain⟨hy35_,hz35_⟩:=Kd.R_celln 0 HO_3.out ((ji24):Int) (od_) (od_);have HP35:=Kd.R_putg HO_3.out ((ji24):Int) 5)|((with_reducible refine gate_store (t:=3) (p:=48) rfl ?_);refine store_event (t:=3) (p:=48) (v:=?vo_w36) (w1:=(w31.setCell ⟨go28,((ji24):Int).toNat,none⟩ (.int .i64 5))) ?hg ?ho ?hn ?hr ?_;(case ho=>rfl);(case hg=>rfl);(case hn=>rfl);(case hr=>first|(go_simp;done)|(go_simp;rfl));intro w36 hw;have hg:w31.grownBy w36 (some go28):=(by rw[hw];exact HP35.2);have hp_:Kd.R (Kd.int .i64) 3 w36 w.heap.size (fun _=>True) (.slice (some ⟨go28,0,none⟩) x3_1.length co32) y280:=(by rw[hw,Ny280.out];exact HP35.1);clear HP35;replace BK274:=A_ (blk_grown (g:=gb274) (o:=.cells #[.int .i64 ((rd_T71 l0 x14_1).f0),.int .i64 ((rd_T71 l0 x14_1).f1)] 71 (0,0)) (bk BK274.out) hg (Kd.R_ne HO_3.out BK274.out (by decide)));replace HO_3:=A_ (hp_);replace HB:=A_ ((by rw[hw];exact below_set (HB.out) GB28.out:Below w.heap.size w w36));clear hg hw hp_))
           go_roundg k1
           case measure=>have:=HK1.out;omega
           case rel=>exact⟨(y280),(x4_1),(wrap64 (x14_1+1)),rs_,rs_,H',⟨by have:=HK1.out;omega⟩,⟨kr_ HO_3.out⟩,⟨bw HB.out⟩⟩
          rw[if_neg c27] at H
          obtain⟨c27b0,c27b1⟩:=eF_ c27
          obtain rfl:=Option.some.inj H
          clear H
          have p273:0≤(x14_1:Int):=od_
          have q273:x14_1<(l0.length:Int):=od_
          obtain⟨ad273,e273,hx273_0,hx273_1⟩:=at_T71 HR0.out x14_1 p273 q273
          cases e273
          replace hx273_0:=cl_ HB.out hx273_0
          replace hx273_1:=cl_ HB.out hx273_1
          replace p273:=eq_true p273
          replace q273:=eq_true q273
          go_wp2_with (first|((with_reducible refine gd_ 6 rfl ?_);refine bx_ #[.int .i64 0,.int .i64 0] 71 ?_;intro gb274 hg w37 hbox hb;have BK274:=A_ hbox;have GW274:=gw_ hg HB;have GE274:=GW274;replace HO_3:=A_ (Kd.R_below (kr_ HO_3.out) hb);replace HB:=bs_ HB hb;clear hb hbox hg;obtain⟨hcz38_0,hcz38_1⟩:=cs2_ BK274.out;obtain⟨hfz38_0,hfz38_1⟩:=fz2_ BK274.out;obtain⟨Ao39,co39,eo39⟩:=Kd.R_slice HO_3.out;subst eo39)|((with_reducible refine gc_ 69 rfl ?_);refine gn_ (some 27) Try.func69 (impl_opens.calls ((rd_T71 l0 x14_1).f0) false _ A14.out) ?_;intro nd;have p279:0≤((ji24):Int):=od_;have q279:(ji24)<(x3_1.length:Int):=od_;obtain⟨ad279,e279,hx279_0⟩:=Kd.at_int (Kd.R_reads' HO_3.out).2.2 (ji24) p279 q279;cases e279;have hn279_0:ad279.block≠gb274:=Kd.own_blk (Kd.R_ne HO_3.out BK274.out (by decide));have hn279_1:ad279.block≠gb274:=Kd.own_blk (Kd.R_ne HO_3.out BK274.out (by decide));replace hx279_0:=(cell_far (p:=⟨gb274,0,none⟩) (by first|(rw[add_block];exact hn279_0)|(show(Addr.add _ _).block≠_;rw[add_block];exact hn279_0)|exact hn279_0) (.int .i64 ((rd_T71 l0 x14_1).f0))).trans hx279_0;replace hx279_0:=(cell_far (p:=⟨gb274,1,none⟩) (by first|(rw[add_block];exact hn279_1)|(show(Addr.add _ _).block≠_;rw[add_block];exact hn279_1)|exact hn279_1) (.int .i64 ((rd_T71 l0 x14_1).f1))).trans hx279_0;clear hn279_0;clear hn279_1;replace p279:=eq_true p279;replace q279:=eq_true q279))
          go_ret
          exact⟨by first|rfl|(simp[errW_none,errW_some]<;>rfl)|(simp only[←hji24];first|rfl|(simp[errW_none,errW_some]<;>rfl))|(simp[*,errW_none,errW_some]<;>rfl),bw HB.out⟩
         rw[if_neg c26] at H
         exact absurd H (by simp)
        rw[if_neg c25] at H
        exact absurd H (by simp)
       rw[if_neg c23] at H
       obtain⟨c23b0,c23b1⟩:=eF_ c23
       by_cases c40:((rd_T71 l0 x14_1).f0)=11
       ·
        rw[if_pos c40] at H
        obtain⟨c40b0,c40b1⟩:=eT_ c40
        clear c40
        obtain⟨ji41,hji41⟩:∃ j_:Int,(wrap64 ((x3_1.length:Int) - 1))=j_:=⟨_,rfl⟩
        replace H:(if 0≤(ji41) then (if (ji41)≤(x3_1.length:Int) then (impl_deepest.l0 k1 (x3_1.take ((ji41):Int).toNat) x4_1 l0 (l0.length:Int) (wrap64 (x14_1+1))) else (none)) else (none))=some r:=by first|(rw[hji41] at H;exact H)|(simp only[hji41] at H ⊢;exact H)
        (try rw[hji41] at A14)
        have hji41w:(IntKind.i64.wrap ((x3_1.length:Int) - 1))=ji41:=(i64_w _).trans hji41
        by_cases c42:0≤(ji41)
        ·
         rw[if_pos c42] at H
         have c42b0:=eq_true c42
         have c42b1:=decide_eq_true c42
         clear c42
         by_cases c43:(ji41)≤(x3_1.length:Int)
         ·
          rw[if_pos c43] at H
          have c43b0:=eq_true c43
          have c43b1:=decide_eq_true c43
          clear c43
          obtain⟨y281,hy281⟩:∃ y_:List Int,y_=(x3_1.take ((ji41):Int).toNat):=⟨_,rfl⟩
          replace H:(impl_deepest.l0 k1 y281 x4_1 l0 (l0.length:Int) (wrap64 (x14_1+1)))=some r:=by first|(rw[hy281];with_reducible exact H)|(have H2_:=(Option.bind_some _ _).symm.trans H;rw[hy281];with_reducible exact H2_)|(have H2_:=(Option.bind_some _ _).symm.trans H;with_reducible exact H2_)|with_reducible exact H|(rw[hy281];exact H)|exact H
          have Ny281:=A_ hy281
          clear hy281
          have H':=A_ H
          clear H
          have p273:0≤(x14_1:Int):=od_
          have q273:x14_1<(l0.length:Int):=od_
          obtain⟨ad273,e273,hx273_0,hx273_1⟩:=at_T71 HR0.out x14_1 p273 q273
          cases e273
          replace hx273_0:=cl_ HB.out hx273_0
          replace hx273_1:=cl_ HB.out hx273_1
          replace p273:=eq_true p273
          replace q273:=eq_true q273
          go_wp2_with (first|((with_reducible refine gd_ 6 rfl ?_);refine bx_ #[.int .i64 0,.int .i64 0] 71 ?_;intro gb274 hg w44 hbox hb;have BK274:=A_ hbox;have GW274:=gw_ hg HB;have GE274:=GW274;replace HO_3:=A_ (Kd.R_below (kr_ HO_3.out) hb);replace HB:=bs_ HB hb;clear hb hbox hg;obtain⟨hcz45_0,hcz45_1⟩:=cs2_ BK274.out;obtain⟨hfz45_0,hfz45_1⟩:=fz2_ BK274.out)|((with_reducible refine gate_store (t:=71) (p:=6) rfl ?_);refine store_event (t:=71) (p:=6) (v:=?vo_w46) (w1:=((w44.setCell ⟨gb274,0,none⟩ (.int .i64 ((rd_T71 l0 x14_1).f0))).setCell ⟨gb274,1,none⟩ (.int .i64 ((rd_T71 l0 x14_1).f1)))) ?hg ?ho ?hn ?hr ?_;(case ho=>rfl);(case hg=>rfl);(case hn=>rfl);(case hr=>first|(go_simp;done)|(go_simp;rfl));intro w46 hw;replace HO_3:Aside0 (Kd.R (Kd.int .i64) 3 w46 w.heap.size (fun _=>True) u3 x3_1):=⟨(by rw[hw];exact(by(with_reducible repeat (first|apply Kd.R_alloc|apply Kd.R_drewN|apply Kd.R_drew));exact Kd.R_mono (Kd.R_far (p:=⟨gb274,1,none⟩) (Kd.R_far (p:=⟨gb274,0,none⟩) (Kd.R_types HO_3.out BK274.out (by decide)) (fun _ hk=>hk.2) (.int .i64 ((rd_T71 l0 x14_1).f0))) (fun _ hk=>hk.2) (.int .i64 ((rd_T71 l0 x14_1).f1))) (fun _ hk=>trivial)))⟩;replace BK274:Aside0 (w46.heap[gb274]? =some (.cells #[.int .i64 ((rd_T71 l0 x14_1).f0),.int .i64 ((rd_T71 l0 x14_1).f1)] 71 (0,0))):=⟨(by rw[hw];exact(by refine blk_put (cs:=#[.int .i64 ((rd_T71 l0 x14_1).f0),.int .i64 0]) ?_ 1 _ rfl;refine blk_put (cs:=#[.int .i64 0,.int .i64 0]) ?_ 0 _ rfl;(with_reducible repeat (first|refine blk_drewN ?_ _|refine blk_drew ?_|refine blk_alloc ?_ _));exact BK274.out))⟩;replace HB:Aside0 (Below w.heap.size w w46):=⟨(by rw[hw];exact(bw HB.out))⟩;clear hw;obtain⟨Ao47,co47,eo47⟩:=Kd.R_slice HO_3.out;subst eo47;obtain⟨hcz48_0,hcz48_1⟩:=cs2_ BK274.out;obtain⟨hfz48_0,hfz48_1⟩:=fz2_ BK274.out)|((with_reducible refine gc_ 69 rfl ?_);refine gn_ (some 27) Try.func69 (impl_opens.calls ((rd_T71 l0 x14_1).f0) false _ A14.out) ?_;intro nd;have q49:((ji41):Int)≤((x3_1.length:Int):Int):=od_;obtain⟨i049,hi049,_,hsz49,_⟩:=info_parts info3;have hcut49:=cut_to (P:=Try.prog) 53 3 .i64 Try.underlying53 hi049 Ao47 x3_1.length co47 (ji41) (od_) q49 (Kd.R_reads' HO_3.out).2.1;have hr49:=Kd.R_take (m:=((ji41):Int).toNat) HO_3.out (by omega);have hy49:y281.length=((ji41):Int).toNat:=(by rw[Ny281.out,List.length_take];omega);rw[←Ny281.out] at hr49;rw[←hy49] at hr49 hcut49;clear hy49 hi049 hsz49 HO_3;have HO283:=A_ hr49;clear hr49;replace q49:=eq_true q49))
          go_roundg k1
          case measure=>have:=HK1.out;omega
          case rel=>exact⟨(y281),(x4_1),(wrap64 (x14_1+1)),rs_,rs_,H',⟨by have:=HK1.out;omega⟩,⟨kr_ HO283.out⟩,⟨bw HB.out⟩⟩
         rw[if_neg c43] at H
         exact absurd H (by simp)
        rw[if_neg c42] at H
        exact absurd H (by simp)
       rw[if_neg c40] at H
       obtain⟨c40b0,c40b1⟩:=eF_ c40
       have H':=A_ H
       clear H
       have p273:0≤(x14_1:Int):=od_
       have q273:x14_1<(l0.length:Int):=od_
       obtain⟨ad273,e273,hx273_0,hx273_1⟩:=at_T71 HR0.out x14_1 p273 q273
       cases e273
       replace hx273_0:=cl_ HB.out hx273_0
       replace hx273_1:=cl_ HB.out hx273_1
       replace p273:=eq_true p273
       replace q273:=eq_true q273
       go_wp2_with (first|((with_reducible refine gd_ 6 rfl ?_);refine bx_ #[.int .i64 0,.int .i64 0] 71 ?_;intro gb274 hg w50 hbox hb;have BK274:=A_ hbox;have GW274:=gw_ hg HB;have GE274:=GW274;replace HO_3:=A_ (Kd.R_below (kr_ HO_3.out) hb);replace HB:=bs_ HB hb;clear hb hbox hg;obtain⟨hcz51_0,hcz51_1⟩:=cs2_ BK274.out;obtain⟨hfz51_0,hfz51_1⟩:=fz2_ BK274.out;obtain⟨Ao52,co52,eo52⟩:=Kd.R_slice HO_3.out;subst eo52)|((with_reducible refine gc_ 69 rfl ?_);refine gn_ (some 27) Try.func69 (impl_opens.calls ((rd_T71 l0 x14_1).f0) false _ A14.out) ?_;intro nd))
       go_roundg k1
       case measure=>have:=HK1.out;omega
       case rel=>exact⟨(x3_1),(x4_1),(wrap64 (x14_1+1)),rs_,rs_,H',⟨by have:=HK1.out;omega⟩,⟨by (with_reducible repeat (first|apply Kd.R_alloc|apply Kd.R_drewN|apply Kd.R_drew));exact Kd.R_mono (Kd.R_far (p:=⟨gb274,1,none⟩) (Kd.R_far (p:=⟨gb274,0,none⟩) (Kd.R_types HO_3.out BK274.out (by decide)) (fun _ hk=>hk.2) (.int .i64 ((rd_T71 l0 x14_1).f0))) (fun _ hk=>hk.2) (.int .i64 ((rd_T71 l0 x14_1).f1))) (fun _ hk=>trivial)⟩,⟨bw HB.out⟩⟩
      rw[if_neg c9] at H
      exact absurd H (by simp)
     rw[if_neg c8] at H
     exact absurd H (by simp)
    rw[if_neg c7] at H
    have c7b0:=decide_eq_false c7
    clear c7
    by_cases c53:(x3_1.length:Int) > 0
    ·
     rw[if_pos c53] at H
     have c53b0:=decide_eq_true c53
     have c53b1:decide (0<x3_1.length)=true:=decide_eq_true (by omega)
     clear c53
     obtain rfl:=Option.some.inj H
     clear H
     obtain⟨Ao54,co54,eo54⟩:=Kd.R_slice HO_3.out
     subst eo54
     go_wp2
     go_ret
     exact⟨rr_,bw HB.out⟩
    rw[if_neg c53] at H
    have c53b0:=decide_eq_false c53
    have c53b1:decide (0<x3_1.length)=false:=decide_eq_false (by omega)
    clear c53
    obtain rfl:=Option.some.inj H
    clear H
    obtain⟨Ao55,co55,eo55⟩:=Kd.R_slice HO_3.out
    subst eo55
    go_wp2
    go_ret
    exact⟨rr_,bw HB.out⟩
 replace c3:=Bool.eq_false_iff.mpr c3
 subst c3
 replace H:=iF_ H
 obtain rfl:=Option.some.inj H
 clear H
 go_enter Try.func53,Try.ntmps53
 go_wp2_with (first|((with_reducible refine gc_ 68 rfl ?_);refine goesL_ (some 9) rfl rfl Try.func68 (by kernel_rfl) rfl #[.slice A0 l0.length c0] rfl ar ?_;(with_reducible refine(impl_goodCode.calls k _ _ l0 false _ ?side1 ?side2 A2.out).mono ?_);(case side1=>repeat (first|exact HR0.out|(with_reducible refine Kd.C_alloc ?_ _)|(with_reducible refine Kd.C_drewN ?_ _)|(with_reducible refine Kd.C_drew ?_)));(case side2=>exact HC0.out);rintro e w56 ⟨rfl,hb⟩;refine⟨_,rfl,?_⟩;replace HB:=bs_ HB hb;(try clear hb)))
 go_ret
 exact⟨rr_,bw HB.out⟩

/-! ### impl_goodFunc: function 33 -/
def impl_goodFunc.f (k:Nat) (l0_0:List Int) (a0_1:Int) (l0_2:List Int) (l0_3:List (S71)):Option (Bool):=(impl_goodTypes.f k l0_0 6).bind fun t285=>(if t285=true then ((impl_goodTypes.f k l0_2 20).bind fun t286=>(if t286=true then ((impl_goodType.f a0_1).bind fun t287=>(if t287=true then ((impl_deepest.f k l0_3).bind fun t288=>(some (decide (t288 > 0)))) else (if a0_1=64 then ((impl_deepest.f k l0_3).bind fun t289=>(some (decide (t289 > 0)))) else (some false)))) else (some false))) else (some false))
theorem impl_goodFunc.calls (k:Nat) (A0_0:Option Addr) (c0_0:Nat) (l0_0:List Int) (a0_1:Int) (A0_2:Option Addr) (c0_2:Nat) (l0_2:List Int) (A0_3:Option Addr) (c0_3:Nat) (l0_3:List (S71)) (r:Bool) (w:World) (hr0_0:Kd.C (Kd.int .i64) w A0_0 l0_0.length l0_0) (hc0_0:l0_0.length≤c0_0) (hr0_2:Kd.C (Kd.int .i64) w A0_2 l0_2.length l0_2) (hc0_2:l0_2.length≤c0_2) (hr0_3:Kd.C k71 w A0_3 l0_3.length l0_3) (hc0_3:l0_3.length≤c0_3) (h:impl_goodFunc.f k l0_0 a0_1 l0_2 l0_3=some r):
  Calls Try.prog 33 #[.agg #[.slice A0_0 l0_0.length c0_0,.int .i64 a0_1,.slice A0_2 l0_2.length c0_2,.slice A0_3 l0_3.length c0_3]] w fun e w'=>e=.returned (.bool r)∧Below w.heap.size w w':=by
 have hu59:=Try.underlying59
 have HR0_0:=A_ hr0_0
 have HC0_0:=A_ hc0_0
 clear hr0_0 hc0_0
 have HR0_2:=A_ hr0_2
 have HC0_2:=A_ hc0_2
 clear hr0_2 hc0_2
 have HR0_3:=A_ hr0_3
 have HC0_3:=A_ hc0_3
 clear hr0_3 hc0_3
 have HB:=A_ (Below.refl w.heap.size w)
 have H:((impl_goodTypes.f k l0_0 6).bind fun t285=>(if t285=true then ((impl_goodTypes.f k l0_2 20).bind fun t286=>(if t286=true then ((impl_goodType.f a0_1).bind fun t287=>(if t287=true then ((impl_deepest.f k l0_3).bind fun t288=>(some (decide (t288 > 0)))) else (if a0_1=64 then ((impl_deepest.f k l0_3).bind fun t289=>(some (decide (t289 > 0)))) else (some false)))) else (some false))) else (some false)))=some r:=h
 clear h
 replace H:=bi_ H
 obtain⟨t285,A20,H⟩:=H
 have A2:=A_ A20
 clear A20
 by_cases c3:t285=true
 ·
  subst c3
  replace H:=iT_ H
  replace H:=bi_ H
  obtain⟨t286,A40,H⟩:=H
  have A4:=A_ A40
  clear A40
  by_cases c5:t286=true
  ·
   subst c5
   replace H:=iT_ H
   replace H:=bi_ H
   obtain⟨t287,A60,H⟩:=H
   have A6:=A_ A60
   clear A60
   by_cases c7:t287=true
   ·
    subst c7
    replace H:=iT_ H
    replace H:=bi_ H
    obtain⟨t288,A80,H⟩:=H
    have A8:=A_ A80
    clear A80
    obtain rfl:=Option.some.inj H
    clear H
    go_enter Try.func33,Try.ntmps33
    go_wp2_with (first|((with_reducible refine gd_ 1 rfl ?_);refine bx_ #[.slice A0_0 l0_0.length c0_0,.int .i64 a0_1,.slice A0_2 l0_2.length c0_2,.slice A0_3 l0_3.length c0_3] 59 ?_;intro gb284 hg w9 hbox hb;have BK284:=A_ hbox;have GW284:=gw_ hg HB;have GE284:=GW284;replace HB:=bs_ HB hb;clear hb hbox hg;obtain⟨hcz10_0,hcz10_1,hcz10_2,hcz10_3⟩:=cs4_ BK284.out;obtain⟨hfz10_0,hfz10_1,hfz10_2,hfz10_3⟩:=fz4_ BK284.out)|((with_reducible refine gc_ 51 rfl ?_);refine gn_ (some 5) Try.func51 (impl_goodTypes.calls k _ _ l0_0 6 true _ (cb_ HR0_0 HB) HC0_0.out A2.out) ?_;intro nd)|(go_at_call 51;(with_reducible refine(impl_goodTypes.calls k _ _ l0_2 20 true _ ?side1 ?side2 A4.out).mono ?_);(case side1=>exact cb_ HR0_2 HB);(case side2=>exact HC0_2.out);rintro e w' ⟨rfl,⟨nd,rfl⟩⟩)|(go_at_call 52;(with_reducible refine(impl_goodType.calls a0_1 true _ A6.out).mono ?_);rintro e w' ⟨rfl,⟨nd,rfl⟩⟩)|(go_at_call 53;(with_reducible refine(impl_deepest.calls k _ _ l0_3 t288 _ ?side1 ?side2 A8.out).mono ?_);(case side1=>exact cb_ HR0_3 HB);(case side2=>exact HC0_3.out);rintro e w11 ⟨rfl,hb⟩;replace BK284:=kb_ BK284 hb;replace HB:=bs_ HB hb;(try clear hb);(try clear hb2);(try clear hk);(try clear hi)))
    go_ret
    exact⟨rr_,bw HB.out⟩
   replace c7:=Bool.eq_false_iff.mpr c7
   subst c7
   replace H:=iF_ H
   by_cases c12:a0_1=64
   ·
    rw[if_pos c12] at H
    obtain⟨c12b0,c12b1⟩:=eT_ c12
    clear c12
    replace H:=bi_ H
    obtain⟨t289,A130,H⟩:=H
    have A13:=A_ A130
    clear A130
    obtain rfl:=Option.some.inj H
    clear H
    go_enter Try.func33,Try.ntmps33
    go_wp2_with (first|((with_reducible refine gd_ 1 rfl ?_);refine bx_ #[.slice A0_0 l0_0.length c0_0,.int .i64 a0_1,.slice A0_2 l0_2.length c0_2,.slice A0_3 l0_3.length c0_3] 59 ?_;intro gb284 hg w14 hbox hb;have BK284:=A_ hbox;have GW284:=gw_ hg HB;have GE284:=GW284;replace HB:=bs_ HB hb;clear hb hbox hg;obtain⟨hcz15_0,hcz15_1,hcz15_2,hcz15_3⟩:=cs4_ BK284.out;obtain⟨hfz15_0,hfz15_1,hfz15_2,hfz15_3⟩:=fz4_ BK284.out)|((with_reducible refine gc_ 51 rfl ?_);refine gn_ (some 5) Try.func51 (impl_goodTypes.calls k _ _ l0_0 6 true _ (cb_ HR0_0 HB) HC0_0.out A2.out) ?_;intro nd)|(go_at_call 51;(with_reducible refine(impl_goodTypes.calls k _ _ l0_2 20 true _ ?side1 ?side2 A4.out).mono ?_);(case side1=>exact cb_ HR0_2 HB);(case side2=>exact HC0_2.out);rintro e w' ⟨rfl,⟨nd,rfl⟩⟩)|(go_at_call 52;(with_reducible refine(impl_goodType.calls a0_1 false _ A6.out).mono ?_);rintro e w' ⟨rfl,⟨nd,rfl⟩⟩)|(go_at_call 53;(with_reducible refine(impl_deepest.calls k _ _ l0_3 t289 _ ?side1 ?side2 A13.out).mono ?_);(case side1=>exact cb_ HR0_3 HB);(case side2=>exact HC0_3.out);rintro e w16 ⟨rfl,hb⟩;replace BK284:=kb_ BK284 hb;replace HB:=bs_ HB hb;(try clear hb);(try clear hb2);(try clear hk);(try clear hi)))
    go_ret
    exact⟨rr_,bw HB.out⟩
   rw[if_neg c12] at H
   obtain⟨c12b0,c12b1⟩:=eF_ c12
   obtain rfl:=Option.some.inj H
   clear H
   go_enter Try.func33,Try.ntmps33
   go_wp2_with (first|((with_reducible refine gd_ 1 rfl ?_);refine bx_ #[.slice A0_0 l0_0.length c0_0,.int .i64 a0_1,.slice A0_2 l0_2.length c0_2,.slice A0_3 l0_3.length c0_3] 59 ?_;intro gb284 hg w17 hbox hb;have BK284:=A_ hbox;have GW284:=gw_ hg HB;have GE284:=GW284;replace HB:=bs_ HB hb;clear hb hbox hg;obtain⟨hcz18_0,hcz18_1,hcz18_2,hcz18_3⟩:=cs4_ BK284.out;obtain⟨hfz18_0,hfz18_1,hfz18_2,hfz18_3⟩:=fz4_ BK284.out)|((with_reducible refine gc_ 51 rfl ?_);refine gn_ (some 5) Try.func51 (impl_goodTypes.calls k _ _ l0_0 6 true _ (cb_ HR0_0 HB) HC0_0.out A2.out) ?_;intro nd)|(go_at_call 51;(with_reducible refine(impl_goodTypes.calls k _ _ l0_2 20 true _ ?side1 ?side2 A4.out).mono ?_);(case side1=>exact cb_ HR0_2 HB);(case side2=>exact HC0_2.out);rintro e w' ⟨rfl,⟨nd,rfl⟩⟩)|(go_at_call 52;(with_reducible refine(impl_goodType.calls a0_1 false _ A6.out).mono ?_);rintro e w' ⟨rfl,⟨nd,rfl⟩⟩))
   go_ret
   exact⟨rr_,bw HB.out⟩
  replace c5:=Bool.eq_false_iff.mpr c5
  subst c5
  replace H:=iF_ H
  obtain rfl:=Option.some.inj H
  clear H
  go_enter Try.func33,Try.ntmps33
  go_wp2_with (first|((with_reducible refine gd_ 1 rfl ?_);refine bx_ #[.slice A0_0 l0_0.length c0_0,.int .i64 a0_1,.slice A0_2 l0_2.length c0_2,.slice A0_3 l0_3.length c0_3] 59 ?_;intro gb284 hg w19 hbox hb;have BK284:=A_ hbox;have GW284:=gw_ hg HB;have GE284:=GW284;replace HB:=bs_ HB hb;clear hb hbox hg;obtain⟨hcz20_0,hcz20_1,hcz20_2,hcz20_3⟩:=cs4_ BK284.out;obtain⟨hfz20_0,hfz20_1,hfz20_2,hfz20_3⟩:=fz4_ BK284.out)|((with_reducible refine gc_ 51 rfl ?_);refine gn_ (some 5) Try.func51 (impl_goodTypes.calls k _ _ l0_0 6 true _ (cb_ HR0_0 HB) HC0_0.out A2.out) ?_;intro nd)|(go_at_call 51;(with_reducible refine(impl_goodTypes.calls k _ _ l0_2 20 false _ ?side1 ?side2 A4.out).mono ?_);(case side1=>exact cb_ HR0_2 HB);(case side2=>exact HC0_2.out);rintro e w' ⟨rfl,⟨nd,rfl⟩⟩))
  go_ret
  exact⟨rr_,bw HB.out⟩
 replace c3:=Bool.eq_false_iff.mpr c3
 subst c3
 replace H:=iF_ H
 obtain rfl:=Option.some.inj H
 clear H
 go_enter Try.func33,Try.ntmps33
 go_wp2_with (first|((with_reducible refine gd_ 1 rfl ?_);refine bx_ #[.slice A0_0 l0_0.length c0_0,.int .i64 a0_1,.slice A0_2 l0_2.length c0_2,.slice A0_3 l0_3.length c0_3] 59 ?_;intro gb284 hg w21 hbox hb;have BK284:=A_ hbox;have GW284:=gw_ hg HB;have GE284:=GW284;replace HB:=bs_ HB hb;clear hb hbox hg;obtain⟨hcz22_0,hcz22_1,hcz22_2,hcz22_3⟩:=cs4_ BK284.out;obtain⟨hfz22_0,hfz22_1,hfz22_2,hfz22_3⟩:=fz4_ BK284.out)|((with_reducible refine gc_ 51 rfl ?_);refine gn_ (some 5) Try.func51 (impl_goodTypes.calls k _ _ l0_0 6 false _ (cb_ HR0_0 HB) HC0_0.out A2.out) ?_;intro nd))
 go_ret
 exact⟨rr_,bw HB.out⟩

/-! ### impl_goodGlobal: function 34 -/
def impl_goodGlobal.f (a0_0:Int) (a0_1:Bool) (a0_2:Int):Option (Bool):=(impl_goodType.f a0_0).bind fun t291=>(if t291=true then (if a0_0=126 then (some true) else (some (decide (a0_2<4294967296)))) else (some false))
theorem impl_goodGlobal.calls (a0_0:Int) (a0_1:Bool) (a0_2:Int) (r:Bool) (w:World) (h:impl_goodGlobal.f a0_0 a0_1 a0_2=some r):
  Calls Try.prog 34 #[.agg #[.int .i64 a0_0,.bool a0_1,.int .u64 a0_2]] w fun e w'=>e=.returned (.bool r)∧Below w.heap.size w w':=by
 have hu63:=Try.underlying63
 have HB:=A_ (Below.refl w.heap.size w)
 have H:((impl_goodType.f a0_0).bind fun t291=>(if t291=true then (if a0_0=126 then (some true) else (some (decide (a0_2<4294967296)))) else (some false)))=some r:=h
 clear h
 replace H:=bi_ H
 obtain⟨t291,A20,H⟩:=H
 have A2:=A_ A20
 clear A20
 by_cases c3:t291=true
 ·
  subst c3
  replace H:=iT_ H
  by_cases c4:a0_0=126
  ·
   rw[if_pos c4] at H
   obtain⟨c4b0,c4b1⟩:=eT_ c4
   clear c4
   obtain rfl:=Option.some.inj H
   clear H
   go_enter Try.func34,Try.ntmps34
   go_wp2_with (first|((with_reducible refine gd_ 1 rfl ?_);refine bx_ #[.int .i64 a0_0,.bool a0_1,.int .u64 a0_2] 63 ?_;intro gb290 hg w5 hbox hb;have BK290:=A_ hbox;have GW290:=gw_ hg HB;have GE290:=GW290;replace HB:=bs_ HB hb;clear hb hbox hg;obtain⟨hcz6_0,hcz6_1,hcz6_2⟩:=cs3_ BK290.out;obtain⟨hfz6_0,hfz6_1,hfz6_2⟩:=fz3_ BK290.out)|((with_reducible refine gc_ 52 rfl ?_);refine gn_ (some 5) Try.func52 (impl_goodType.calls a0_0 true _ A2.out) ?_;intro nd))
   go_ret
   exact⟨rr_,bw HB.out⟩
  rw[if_neg c4] at H
  obtain⟨c4b0,c4b1⟩:=eF_ c4
  obtain rfl:=Option.some.inj H
  clear H
  go_enter Try.func34,Try.ntmps34
  go_wp2_with (first|((with_reducible refine gd_ 1 rfl ?_);refine bx_ #[.int .i64 a0_0,.bool a0_1,.int .u64 a0_2] 63 ?_;intro gb290 hg w7 hbox hb;have BK290:=A_ hbox;have GW290:=gw_ hg HB;have GE290:=GW290;replace HB:=bs_ HB hb;clear hb hbox hg;obtain⟨hcz8_0,hcz8_1,hcz8_2⟩:=cs3_ BK290.out;obtain⟨hfz8_0,hfz8_1,hfz8_2⟩:=fz3_ BK290.out)|((with_reducible refine gc_ 52 rfl ?_);refine gn_ (some 5) Try.func52 (impl_goodType.calls a0_0 true _ A2.out) ?_;intro nd))
  go_ret
  exact⟨rr_,bw HB.out⟩
 replace c3:=Bool.eq_false_iff.mpr c3
 subst c3
 replace H:=iF_ H
 obtain rfl:=Option.some.inj H
 clear H
 go_enter Try.func34,Try.ntmps34
 go_wp2_with (first|((with_reducible refine gd_ 1 rfl ?_);refine bx_ #[.int .i64 a0_0,.bool a0_1,.int .u64 a0_2] 63 ?_;intro gb290 hg w9 hbox hb;have BK290:=A_ hbox;have GW290:=gw_ hg HB;have GE290:=GW290;replace HB:=bs_ HB hb;clear hb hbox hg;obtain⟨hcz10_0,hcz10_1,hcz10_2⟩:=cs3_ BK290.out;obtain⟨hfz10_0,hfz10_1,hfz10_2⟩:=fz3_ BK290.out)|((with_reducible refine gc_ 52 rfl ?_);refine gn_ (some 5) Try.func52 (impl_goodType.calls a0_0 false _ A2.out) ?_;intro nd))
 go_ret
 exact⟨rr_,bw HB.out⟩

/-! ### impl_GoodShape: function 22 -/
mutual
def impl_GoodShape.j0:Nat→Bool→List (S59)→List (S63)→Bool→Int→Int→Int→Option (Bool)
 |0,_,_,_,_,_,_,_=>none
 |k+1,x16,x293000,x293001,x293002,x293003,x293004,x293005=>if x16=true then (some false) else (impl_GoodShape.l0 k x293000 (x293000.length:Int) 0 x293000 x293001 x293002 x293003 x293004 x293005)
def impl_GoodShape.l0:Nat→List (S59)→Int→Int→List (S59)→List (S63)→Bool→Int→Int→Int→Option (Bool)
 |0,_,_,_,_,_,_,_,_,_=>none
 |k+1,x18,x19,x20,x293000,x293001,x293002,x293003,x293004,x293005=>if x20<x19 then (if 0≤x20 then (if x20<(x18.length:Int) then ((impl_goodFunc.f k ((rd_T59 x18 x20).f0) ((rd_T59 x18 x20).f1) ((rd_T59 x18 x20).f2) ((rd_T59 x18 x20).f3)).bind fun t295=>(if t295=true then (impl_GoodShape.l0 k x18 x19 (wrap64 (x20+1)) x293000 x293001 x293002 x293003 x293004 x293005) else (some false))) else (none)) else (none)) else (impl_GoodShape.l1 k x293001 (x293001.length:Int) 0 x293000 x293001 x293002 x293003 x293004 x293005)
def impl_GoodShape.l1:Nat→List (S63)→Int→Int→List (S59)→List (S63)→Bool→Int→Int→Int→Option (Bool)
 |0,_,_,_,_,_,_,_,_,_=>none
 |k+1,x29,x30,x31,x293000,x293001,x293002,x293003,x293004,x293005=>if x31<x30 then (if 0≤x31 then (if x31<(x29.length:Int) then ((impl_goodGlobal.f ((rd_T63 x29 x31).f0) ((rd_T63 x29 x31).f1) ((rd_T63 x29 x31).f2)).bind fun t298=>(if t298=true then (impl_GoodShape.l1 k x29 x30 (wrap64 (x31+1)) x293000 x293001 x293002 x293003 x293004 x293005) else (some false))) else (none)) else (none)) else (if x293002=true then (if x293003<0 then (impl_GoodShape.j3 k true x293000 x293001 x293002 x293003 x293004 x293005) else (if x293003 > x293004 then (impl_GoodShape.j3 k true x293000 x293001 x293002 x293003 x293004 x293005) else (impl_GoodShape.j3 k (decide (x293004 > 8)) x293000 x293001 x293002 x293003 x293004 x293005))) else (if x293003=0 then (impl_GoodShape.j4 k (x293004 !=0) x293000 x293001 x293002 x293003 x293004 x293005) else (impl_GoodShape.j4 k true x293000 x293001 x293002 x293003 x293004 x293005)))
def impl_GoodShape.j3:Nat→Bool→List (S59)→List (S63)→Bool→Int→Int→Int→Option (Bool)
 |0,_,_,_,_,_,_,_=>none
 |k+1,x55,x293000,x293001,x293002,x293003,x293004,x293005=>if x55=true then (some false) else (if x293005=(-1) then (some true) else (if x293005≥0 then (if x293005<(x293000.length:Int) then (if 0≤x293005 then (if (((rd_T59 x293000 x293005).f0).length:Int)=0 then (some (((rd_T59 x293000 x293005).f1)==64)) else (some false)) else (none)) else (some false)) else (some false)))
def impl_GoodShape.j4:Nat→Bool→List (S59)→List (S63)→Bool→Int→Int→Int→Option (Bool)
 |0,_,_,_,_,_,_,_=>none
 |k+1,x63,x293000,x293001,x293002,x293003,x293004,x293005=>if x63=true then (some false) else (if x293005=(-1) then (some true) else (if x293005≥0 then (if x293005<(x293000.length:Int) then (if 0≤x293005 then (if (((rd_T59 x293000 x293005).f0).length:Int)=0 then (some (((rd_T59 x293000 x293005).f1)==64)) else (some false)) else (none)) else (some false)) else (some false)))
end
def impl_GoodShape.f (k:Nat) (l0_0:List (S59)) (l0_1:List (S63)) (a0_2:Bool) (a0_3:Int) (a0_4:Int) (a0_5:Int):Option (Bool):=if (l0_0.length:Int) > 10 then (impl_GoodShape.j0 k true l0_0 l0_1 a0_2 a0_3 a0_4 a0_5) else (impl_GoodShape.j0 k (decide ((l0_1.length:Int) > 6)) l0_0 l0_1 a0_2 a0_3 a0_4 a0_5)
theorem impl_GoodShape.calls (k:Nat) (A0_0:Option Addr) (c0_0:Nat) (l0_0:List (S59)) (A0_1:Option Addr) (c0_1:Nat) (l0_1:List (S63)) (a0_2:Bool) (a0_3:Int) (a0_4:Int) (a0_5:Int) (r:Bool) (w:World) (hr0_0:Kd.C k59 w A0_0 l0_0.length l0_0) (hc0_0:l0_0.length≤c0_0) (hr0_1:Kd.C k63 w A0_1 l0_1.length l0_1) (hc0_1:l0_1.length≤c0_1) (h:impl_GoodShape.f k l0_0 l0_1 a0_2 a0_3 a0_4 a0_5=some r):
  Calls Try.prog 22 #[.agg #[.slice A0_0 l0_0.length c0_0,.slice A0_1 l0_1.length c0_1,.bool a0_2,.int .i64 a0_3,.int .i64 a0_4,.int .i64 a0_5]] w fun e w'=>e=.returned (.bool r)∧Below w.heap.size w w':=by
 have hu32:=Try.underlying32
 have hu59:=Try.underlying59
 have hu63:=Try.underlying63
 have HR0_0:=A_ hr0_0
 have HC0_0:=A_ hc0_0
 clear hr0_0 hc0_0
 have HR0_1:=A_ hr0_1
 have HC0_1:=A_ hc0_1
 clear hr0_1 hc0_1
 have HB:=A_ (Below.refl w.heap.size w)
 have H:(if (l0_0.length:Int) > 10 then (impl_GoodShape.j0 k true l0_0 l0_1 a0_2 a0_3 a0_4 a0_5) else (impl_GoodShape.j0 k (decide ((l0_1.length:Int) > 6)) l0_0 l0_1 a0_2 a0_3 a0_4 a0_5))=some r:=h
 clear h
 have HC2:=A_ H
 clear H
 go_enter Try.func22,Try.ntmps22
 go_upto_region 1 with (first|((with_reducible refine gd_ 1 rfl ?_);(try (refine gate_guard (by rfl) ?_;dsimp only));refine bx_ #[.slice A0_0 l0_0.length c0_0,.slice A0_1 l0_1.length c0_1,.bool a0_2,.int .i64 a0_3,.int .i64 a0_4,.int .i64 a0_5] 32 ?_;intro gb292 hg w3 hbox hb;have BK292:=A_ hbox;have GW292:=gw_ hg HB;have GE292:=GW292;replace HB:=bs_ HB hb;clear hb hbox hg))
 (try simp only[Act.put,List.setIfInBounds_toArray,List.set_cons_zero,List.set_cons_succ])
 go_cut [16] (fun v16 wc=>∃ (kq:Nat) (x16_1:Bool),v16=.bool x16_1∧Aside0 (impl_GoodShape.j0 kq x16_1 l0_0 l0_1 a0_2 a0_3 a0_4 a0_5=some r)∧Aside0 (kq≤k)∧Aside0 (wc.heap[gb292]? =some (.cells #[(.slice A0_0 l0_0.length c0_0),(.slice A0_1 l0_1.length c0_1),.bool a0_2,.int .i64 a0_3,.int .i64 a0_4,.int .i64 a0_5] 32 (0,0)))∧Aside0 (Below w.heap.size w wc))
 case first=>
  have H:=HC2.out
  clear HC2
  by_cases c4:(l0_0.length:Int) > 10
  ·
   rw[if_pos c4] at H
   have c4b0:=decide_eq_true c4
   have c4b1:decide (10<l0_0.length)=true:=decide_eq_true (by omega)
   clear c4
   (first|rw[c4b0]|(simp only[i64_w,i32_w];rw[c4b0])|skip)
   have H':=A_ H
   clear H
   obtain⟨hcz5_0,hcz5_1,hcz5_2,hcz5_3,hcz5_4,hcz5_5⟩:=cs6_ BK292.out
   obtain⟨hfz5_0,hfz5_1,hfz5_2,hfz5_3,hfz5_4,hfz5_5⟩:=fz6_ BK292.out
   go_wp2
   go_meet
   case rel=>exact⟨_,(true),rs_,H',⟨by first|omega|exact Nat.le_refl _⟩,⟨bk BK292.out⟩,⟨bw HB.out⟩⟩
  rw[if_neg c4] at H
  have c4b0:=decide_eq_false c4
  have c4b1:decide (10<l0_0.length)=false:=decide_eq_false (by omega)
  clear c4
  (first|rw[c4b0]|(simp only[i64_w,i32_w];rw[c4b0])|skip)
  have H':=A_ H
  clear H
  obtain⟨hcz6_0,hcz6_1,hcz6_2,hcz6_3,hcz6_4,hcz6_5⟩:=cs6_ BK292.out
  obtain⟨hfz6_0,hfz6_1,hfz6_2,hfz6_3,hfz6_4,hfz6_5⟩:=fz6_ BK292.out
  go_wp2
  go_meet
  case rel=>exact⟨_,(decide ((l0_1.length:Int) > 6)),rs_,H',⟨by first|omega|exact Nat.le_refl _⟩,⟨bk BK292.out⟩,⟨bw HB.out⟩⟩
 case rest=>
  clear HC2
  obtain⟨kq,x16_1,rfl,HA,HJ1,BK292,HB⟩:=hcut
  cases kq with
  |zero=>exact absurd HA.out (by simp[impl_GoodShape.j0])
  |succ kj1=>
   have H:=HA.out
   clear HA
   simp only[impl_GoodShape.j0] at H
   by_cases c7:x16_1=true
   ·
    subst c7
    replace H:=iT_ H
    obtain rfl:=Option.some.inj H
    clear H
    go_wp2
    go_ret
    exact⟨rr_,bw HB.out⟩
   replace c7:=Bool.eq_false_iff.mpr c7
   subst c7
   replace H:=iF_ H
   have H':=A_ H
   clear H
   obtain⟨hcz8_0,hcz8_1,hcz8_2,hcz8_3,hcz8_4,hcz8_5⟩:=cs6_ BK292.out
   obtain⟨hfz8_0,hfz8_1,hfz8_2,hfz8_3,hfz8_4,hfz8_5⟩:=fz6_ BK292.out
   go_wp2
   (try simp only[Act.put,List.setIfInBounds_toArray,List.set_cons_zero,List.set_cons_succ])
   go_loopg [20] kj1 (fun kq v20 w'=>∃ (x20_2:Int),v20=.int .i64 x20_2∧Aside0 (impl_GoodShape.l0 kq l0_0 (l0_0.length:Int) x20_2 l0_0 l0_1 a0_2 a0_3 a0_4 a0_5=some r)∧Aside0 (kq≤kj1)∧Aside0 (w'.heap[gb292]? =some (.cells #[(.slice A0_0 l0_0.length c0_0),(.slice A0_1 l0_1.length c0_1),.bool a0_2,.int .i64 a0_3,.int .i64 a0_4,.int .i64 a0_5] 32 (0,0)))∧Aside0 (Below w.heap.size w w'))
   case atStart=>exact⟨(0),rs_,H',⟨Nat.le_refl _⟩,⟨bk BK292.out⟩,⟨bw HB.out⟩⟩
   case round=>
    clear H'
    try clear c7 hcz8_0 hcz8_1 hcz8_2 hcz8_3 hcz8_4 hcz8_5 hfz8_0 hfz8_1 hfz8_2 hfz8_3 hfz8_4 hfz8_5
    obtain⟨x20_2,rfl,HA,HK2,BK292,HB⟩:=hrel
    cases gk with
    |zero=>exact absurd HA.out (by simp[impl_GoodShape.l0])
    |succ k2=>
     have H:=HA.out
     clear HA
     simp only[impl_GoodShape.l0] at H
     by_cases c9:x20_2<(l0_0.length:Int)
     ·
      rw[if_pos c9] at H
      have c9b0:=decide_eq_true c9
      clear c9
      by_cases c10:0≤x20_2
      ·
       rw[if_pos c10] at H
       have c10b0:=decide_eq_true c10
       clear c10
       by_cases c11:x20_2<(l0_0.length:Int)
       ·
        rw[if_pos c11] at H
        have c11b0:=decide_eq_true c11
        clear c11
        replace H:=bi_ H
        obtain⟨t295,A120,H⟩:=H
        have A12:=A_ A120
        clear A120
        by_cases c13:t295=true
        ·
         subst c13
         replace H:=iT_ H
         have H':=A_ H
         clear H
         have p293:0≤(x20_2:Int):=od_
         have q293:x20_2<(l0_0.length:Int):=od_
         obtain⟨ad293,A293_0,c293_0,A293_2,c293_2,A293_3,c293_3,e293,hx293_0,hx293_1,hx293_2,hx293_3,hl293_0,hi293_0,hl293_2,hi293_2,hl293_3,hi293_3⟩:=at_T59 HR0_0.out x20_2 p293 q293
         cases e293
         replace hx293_0:=cl_ HB.out hx293_0
         replace hx293_1:=cl_ HB.out hx293_1
         replace hx293_2:=cl_ HB.out hx293_2
         replace hx293_3:=cl_ HB.out hx293_3
         have HR293_0:=A_ hi293_0
         have HC293_0:=A_ hl293_0
         clear hi293_0 hl293_0
         have HR293_2:=A_ hi293_2
         have HC293_2:=A_ hl293_2
         clear hi293_2 hl293_2
         have HR293_3:=A_ hi293_3
         have HC293_3:=A_ hl293_3
         clear hi293_3 hl293_3
         replace p293:=eq_true p293
         replace q293:=eq_true q293
         go_wp2_with (first|((with_reducible refine gd_ 4 rfl ?_);(try (refine gate_guard (by rfl) ?_;dsimp only));refine bx_ #[.slice none 0 0,.int .i64 0,.slice none 0 0,.slice none 0 0] 59 ?_;intro gb294 hg w14 hbox hb;have BK294:=A_ hbox;have GW294:=gw_ hg HB;have GE294:=GW294;obtain⟨NB292_294,NB294_292⟩:=nb_ BK292 hg;replace BK292:=kb_ BK292 hb;replace HB:=bs_ HB hb;clear hb hbox hg;have hnb15:=NB294_292.out;have hnc15:=NB292_294.out;obtain⟨hcz16_0,hcz16_1,hcz16_2,hcz16_3⟩:=cs4_ BK294.out;obtain⟨hfz16_0,hfz16_1,hfz16_2,hfz16_3⟩:=fz4_ BK294.out)|((with_reducible refine gc_ 33 rfl ?_);refine goesL_ (some 25) rfl rfl Try.func33 (by kernel_rfl) rfl #[.agg #[.slice A293_0 ((rd_T59 l0_0 x20_2).f0).length c293_0,.int .i64 ((rd_T59 l0_0 x20_2).f1),.slice A293_2 ((rd_T59 l0_0 x20_2).f2).length c293_2,.slice A293_3 ((rd_T59 l0_0 x20_2).f3).length c293_3]] rfl ar ?_;(with_reducible refine(impl_goodFunc.calls k2 _ _ ((rd_T59 l0_0 x20_2).f0) ((rd_T59 l0_0 x20_2).f1) _ _ ((rd_T59 l0_0 x20_2).f2) _ _ ((rd_T59 l0_0 x20_2).f3) true _ ?side1 ?side2 ?side3 ?side4 ?side5 ?side6 A12.out).mono ?_);(case side1=>exact Kd.C_below HR293_0.out (bw HB.out));(case side2=>exact HC293_0.out);(case side3=>exact Kd.C_below HR293_2.out (bw HB.out));(case side4=>exact HC293_2.out);(case side5=>exact Kd.C_below HR293_3.out (bw HB.out));(case side6=>exact HC293_3.out);rintro e w17 ⟨rfl,hb⟩;refine⟨_,rfl,?_⟩;replace BK292:=A_ (blk_below (g:=gb292) (o:=.cells #[.slice (some ad293) l0_0.length c0_0,.slice A0_1 l0_1.length c0_1,.bool a0_2,.int .i64 a0_3,.int .i64 a0_4,.int .i64 a0_5] 32 (0,0)) (by refine blk_far ?_ NB292_294.out _;refine blk_far ?_ NB292_294.out _;refine blk_far ?_ NB292_294.out _;refine blk_far ?_ NB292_294.out _;(with_reducible repeat (first|refine blk_drewN ?_ _|refine blk_drew ?_|refine blk_alloc ?_ _));exact BK292.out) hb);replace BK294:=A_ (blk_below (g:=gb294) (o:=.cells #[.slice A293_0 ((rd_T59 l0_0 x20_2).f0).length c293_0,.int .i64 ((rd_T59 l0_0 x20_2).f1),.slice A293_2 ((rd_T59 l0_0 x20_2).f2).length c293_2,.slice A293_3 ((rd_T59 l0_0 x20_2).f3).length c293_3] 59 (0,0)) (by refine blk_put (cs:=#[.slice A293_0 ((rd_T59 l0_0 x20_2).f0).length c293_0,.int .i64 ((rd_T59 l0_0 x20_2).f1),.slice A293_2 ((rd_T59 l0_0 x20_2).f2).length c293_2,.slice none 0 0]) ?_ 3 _ rfl;refine blk_put (cs:=#[.slice A293_0 ((rd_T59 l0_0 x20_2).f0).length c293_0,.int .i64 ((rd_T59 l0_0 x20_2).f1),.slice none 0 0,.slice none 0 0]) ?_ 2 _ rfl;refine blk_put (cs:=#[.slice A293_0 ((rd_T59 l0_0 x20_2).f0).length c293_0,.int .i64 0,.slice none 0 0,.slice none 0 0]) ?_ 1 _ rfl;refine blk_put (cs:=#[.slice none 0 0,.int .i64 0,.slice none 0 0,.slice none 0 0]) ?_ 0 _ rfl;(with_reducible repeat (first|refine blk_drewN ?_ _|refine blk_drew ?_|refine blk_alloc ?_ _));exact BK294.out) hb);replace HB:=bs_ HB hb;(try clear hb)))
         go_roundg k2
         case measure=>have:=HJ1.out;have:=HK2.out;omega
         case rel=>exact⟨(wrap64 (x20_2+1)),rs_,H',⟨by have:=HJ1.out;have:=HK2.out;omega⟩,⟨bk BK292.out⟩,⟨bw HB.out⟩⟩
        replace c13:=Bool.eq_false_iff.mpr c13
        subst c13
        replace H:=iF_ H
        obtain rfl:=Option.some.inj H
        clear H
        have p293:0≤(x20_2:Int):=od_
        have q293:x20_2<(l0_0.length:Int):=od_
        obtain⟨ad293,A293_0,c293_0,A293_2,c293_2,A293_3,c293_3,e293,hx293_0,hx293_1,hx293_2,hx293_3,hl293_0,hi293_0,hl293_2,hi293_2,hl293_3,hi293_3⟩:=at_T59 HR0_0.out x20_2 p293 q293
        cases e293
        replace hx293_0:=cl_ HB.out hx293_0
        replace hx293_1:=cl_ HB.out hx293_1
        replace hx293_2:=cl_ HB.out hx293_2
        replace hx293_3:=cl_ HB.out hx293_3
        have HR293_0:=A_ hi293_0
        have HC293_0:=A_ hl293_0
        clear hi293_0 hl293_0
        have HR293_2:=A_ hi293_2
        have HC293_2:=A_ hl293_2
        clear hi293_2 hl293_2
        have HR293_3:=A_ hi293_3
        have HC293_3:=A_ hl293_3
        clear hi293_3 hl293_3
        replace p293:=eq_true p293
        replace q293:=eq_true q293
        go_wp2_with (first|((with_reducible refine gd_ 4 rfl ?_);(try (refine gate_guard (by rfl) ?_;dsimp only));refine bx_ #[.slice none 0 0,.int .i64 0,.slice none 0 0,.slice none 0 0] 59 ?_;intro gb294 hg w18 hbox hb;have BK294:=A_ hbox;have GW294:=gw_ hg HB;have GE294:=GW294;obtain⟨NB292_294,NB294_292⟩:=nb_ BK292 hg;replace BK292:=kb_ BK292 hb;replace HB:=bs_ HB hb;clear hb hbox hg;have hnb19:=NB294_292.out;have hnc19:=NB292_294.out;obtain⟨hcz20_0,hcz20_1,hcz20_2,hcz20_3⟩:=cs4_ BK294.out;obtain⟨hfz20_0,hfz20_1,hfz20_2,hfz20_3⟩:=fz4_ BK294.out)|((with_reducible refine gc_ 33 rfl ?_);refine goesL_ (some 25) rfl rfl Try.func33 (by kernel_rfl) rfl #[.agg #[.slice A293_0 ((rd_T59 l0_0 x20_2).f0).length c293_0,.int .i64 ((rd_T59 l0_0 x20_2).f1),.slice A293_2 ((rd_T59 l0_0 x20_2).f2).length c293_2,.slice A293_3 ((rd_T59 l0_0 x20_2).f3).length c293_3]] rfl ar ?_;(with_reducible refine(impl_goodFunc.calls k2 _ _ ((rd_T59 l0_0 x20_2).f0) ((rd_T59 l0_0 x20_2).f1) _ _ ((rd_T59 l0_0 x20_2).f2) _ _ ((rd_T59 l0_0 x20_2).f3) false _ ?side1 ?side2 ?side3 ?side4 ?side5 ?side6 A12.out).mono ?_);(case side1=>exact Kd.C_below HR293_0.out (bw HB.out));(case side2=>exact HC293_0.out);(case side3=>exact Kd.C_below HR293_2.out (bw HB.out));(case side4=>exact HC293_2.out);(case side5=>exact Kd.C_below HR293_3.out (bw HB.out));(case side6=>exact HC293_3.out);rintro e w21 ⟨rfl,hb⟩;refine⟨_,rfl,?_⟩;replace BK292:=A_ (blk_below (g:=gb292) (o:=.cells #[.slice (some ad293) l0_0.length c0_0,.slice A0_1 l0_1.length c0_1,.bool a0_2,.int .i64 a0_3,.int .i64 a0_4,.int .i64 a0_5] 32 (0,0)) (by refine blk_far ?_ NB292_294.out _;refine blk_far ?_ NB292_294.out _;refine blk_far ?_ NB292_294.out _;refine blk_far ?_ NB292_294.out _;(with_reducible repeat (first|refine blk_drewN ?_ _|refine blk_drew ?_|refine blk_alloc ?_ _));exact BK292.out) hb);replace BK294:=A_ (blk_below (g:=gb294) (o:=.cells #[.slice A293_0 ((rd_T59 l0_0 x20_2).f0).length c293_0,.int .i64 ((rd_T59 l0_0 x20_2).f1),.slice A293_2 ((rd_T59 l0_0 x20_2).f2).length c293_2,.slice A293_3 ((rd_T59 l0_0 x20_2).f3).length c293_3] 59 (0,0)) (by refine blk_put (cs:=#[.slice A293_0 ((rd_T59 l0_0 x20_2).f0).length c293_0,.int .i64 ((rd_T59 l0_0 x20_2).f1),.slice A293_2 ((rd_T59 l0_0 x20_2).f2).length c293_2,.slice none 0 0]) ?_ 3 _ rfl;refine blk_put (cs:=#[.slice A293_0 ((rd_T59 l0_0 x20_2).f0).length c293_0,.int .i64 ((rd_T59 l0_0 x20_2).f1),.slice none 0 0,.slice none 0 0]) ?_ 2 _ rfl;refine blk_put (cs:=#[.slice A293_0 ((rd_T59 l0_0 x20_2).f0).length c293_0,.int .i64 0,.slice none 0 0,.slice none 0 0]) ?_ 1 _ rfl;refine blk_put (cs:=#[.slice none 0 0,.int .i64 0,.slice none 0 0,.slice none 0 0]) ?_ 0 _ rfl;(with_reducible repeat (first|refine blk_drewN ?_ _|refine blk_drew ?_|refine blk_alloc ?_ _));exact BK294.out) hb);replace HB:=bs_ HB hb;(try clear hb)))
        go_ret
        exact⟨rr_,bw HB.out⟩
       rw[if_neg c11] at H
       exact absurd H (by simp)
      rw[if_neg c10] at H
      exact absurd H (by simp)
     rw[if_neg c9] at H
     have c9b0:=decide_eq_false c9
     clear c9
     have H':=A_ H
     clear H
     obtain⟨hcz22_0,hcz22_1,hcz22_2,hcz22_3,hcz22_4,hcz22_5⟩:=cs6_ BK292.out
     obtain⟨hfz22_0,hfz22_1,hfz22_2,hfz22_3,hfz22_4,hfz22_5⟩:=fz6_ BK292.out
     go_wp2
     (try simp only[Act.put,List.setIfInBounds_toArray,List.set_cons_zero,List.set_cons_succ])
     go_loopg [31] k2 (fun kq v31 w'=>∃ (x31_3:Int),v31=.int .i64 x31_3∧Aside0 (impl_GoodShape.l1 kq l0_1 (l0_1.length:Int) x31_3 l0_0 l0_1 a0_2 a0_3 a0_4 a0_5=some r)∧Aside0 (kq≤k2)∧Aside0 (w'.heap[gb292]? =some (.cells #[(.slice A0_0 l0_0.length c0_0),(.slice A0_1 l0_1.length c0_1),.bool a0_2,.int .i64 a0_3,.int .i64 a0_4,.int .i64 a0_5] 32 (0,0)))∧Aside0 (Below w.heap.size w w'))
     case atStart=>exact⟨(0),rs_,H',⟨Nat.le_refl _⟩,⟨bk BK292.out⟩,⟨bw HB.out⟩⟩
     case round=>
      clear H'
      try clear c7 c9 c9b0 hcz22_0 hcz22_1 hcz22_2 hcz22_3 hcz22_4 hcz22_5 hcz8_0 hcz8_1 hcz8_2 hcz8_3 hcz8_4 hcz8_5 hfz22_0 hfz22_1 hfz22_2 hfz22_3 hfz22_4 hfz22_5 hfz8_0 hfz8_1 hfz8_2 hfz8_3 hfz8_4 hfz8_5
      obtain⟨x31_3,rfl,HA,HK3,BK292,HB⟩:=hrel
      cases gk with
      |zero=>exact absurd HA.out (by simp[impl_GoodShape.l1])
      |succ k3=>
       have H:=HA.out
       clear HA
       simp only[impl_GoodShape.l1] at H
       by_cases c23:x31_3<(l0_1.length:Int)
       ·
        rw[if_pos c23] at H
        have c23b0:=decide_eq_true c23
        clear c23
        by_cases c24:0≤x31_3
        ·
         rw[if_pos c24] at H
         have c24b0:=decide_eq_true c24
         clear c24
         by_cases c25:x31_3<(l0_1.length:Int)
         ·
          rw[if_pos c25] at H
          have c25b0:=decide_eq_true c25
          clear c25
          replace H:=bi_ H
          obtain⟨t298,A260,H⟩:=H
          have A26:=A_ A260
          clear A260
          by_cases c27:t298=true
          ·
           subst c27
           replace H:=iT_ H
           have H':=A_ H
           clear H
           have p296:0≤(x31_3:Int):=od_
           have q296:x31_3<(l0_1.length:Int):=od_
           obtain⟨ad296,e296,hx296_0,hx296_1,hx296_2⟩:=at_T63 HR0_1.out x31_3 p296 q296
           cases e296
           replace hx296_0:=cl_ HB.out hx296_0
           replace hx296_1:=cl_ HB.out hx296_1
           replace hx296_2:=cl_ HB.out hx296_2
           replace p296:=eq_true p296
           replace q296:=eq_true q296
           go_wp2_with (first|((with_reducible refine gd_ 6 rfl ?_);(try (refine gate_guard (by rfl) ?_;dsimp only));refine bx_ #[.int .i64 0,.bool false,.int .u64 0] 63 ?_;intro gb297 hg w28 hbox hb;have BK297:=A_ hbox;have GW297:=gw_ hg HB;have GE297:=GW297;obtain⟨NB292_297,NB297_292⟩:=nb_ BK292 hg;replace BK292:=kb_ BK292 hb;replace HB:=bs_ HB hb;clear hb hbox hg;have hnb29:=NB297_292.out;have hnc29:=NB292_297.out;obtain⟨hcz30_0,hcz30_1,hcz30_2⟩:=cs3_ BK297.out;obtain⟨hfz30_0,hfz30_1,hfz30_2⟩:=fz3_ BK297.out)|((with_reducible refine gc_ 34 rfl ?_);refine gm_ (some 36) Try.func34 (impl_goodGlobal.calls ((rd_T63 l0_1 x31_3).f0) ((rd_T63 l0_1 x31_3).f1) ((rd_T63 l0_1 x31_3).f2) true _ A26.out) ?_;intro w31 hb;replace BK292:=A_ (blk_below (g:=gb292) (o:=.cells #[.slice A0_0 l0_0.length c0_0,.slice (some ad296) l0_1.length c0_1,.bool a0_2,.int .i64 a0_3,.int .i64 a0_4,.int .i64 a0_5] 32 (0,0)) (by refine blk_far ?_ NB292_297.out _;refine blk_far ?_ NB292_297.out _;refine blk_far ?_ NB292_297.out _;(with_reducible repeat (first|refine blk_drewN ?_ _|refine blk_drew ?_|refine blk_alloc ?_ _));exact BK292.out) hb);replace BK297:=A_ (blk_below (g:=gb297) (o:=.cells #[.int .i64 ((rd_T63 l0_1 x31_3).f0),.bool ((rd_T63 l0_1 x31_3).f1),.int .u64 ((rd_T63 l0_1 x31_3).f2)] 63 (0,0)) (by refine blk_put (cs:=#[.int .i64 ((rd_T63 l0_1 x31_3).f0),.bool ((rd_T63 l0_1 x31_3).f1),.int .u64 0]) ?_ 2 _ rfl;refine blk_put (cs:=#[.int .i64 ((rd_T63 l0_1 x31_3).f0),.bool false,.int .u64 0]) ?_ 1 _ rfl;refine blk_put (cs:=#[.int .i64 0,.bool false,.int .u64 0]) ?_ 0 _ rfl;(with_reducible repeat (first|refine blk_drewN ?_ _|refine blk_drew ?_|refine blk_alloc ?_ _));exact BK297.out) hb);replace HB:=bs_ HB hb;(try clear hb)))
           go_roundg k3
           case measure=>have:=HJ1.out;have:=HK2.out;have:=HK3.out;omega
           case rel=>exact⟨(wrap64 (x31_3+1)),rs_,H',⟨by have:=HJ1.out;have:=HK2.out;have:=HK3.out;omega⟩,⟨bk BK292.out⟩,⟨bw HB.out⟩⟩
          replace c27:=Bool.eq_false_iff.mpr c27
          subst c27
          replace H:=iF_ H
          obtain rfl:=Option.some.inj H
          clear H
          have p296:0≤(x31_3:Int):=od_
          have q296:x31_3<(l0_1.length:Int):=od_
          obtain⟨ad296,e296,hx296_0,hx296_1,hx296_2⟩:=at_T63 HR0_1.out x31_3 p296 q296
          cases e296
          replace hx296_0:=cl_ HB.out hx296_0
          replace hx296_1:=cl_ HB.out hx296_1
          replace hx296_2:=cl_ HB.out hx296_2
          replace p296:=eq_true p296
          replace q296:=eq_true q296
          go_wp2_with (first|((with_reducible refine gd_ 6 rfl ?_);(try (refine gate_guard (by rfl) ?_;dsimp only));refine bx_ #[.int .i64 0,.bool false,.int .u64 0] 63 ?_;intro gb297 hg w32 hbox hb;have BK297:=A_ hbox;have GW297:=gw_ hg HB;have GE297:=GW297;obtain⟨NB292_297,NB297_292⟩:=nb_ BK292 hg;replace BK292:=kb_ BK292 hb;replace HB:=bs_ HB hb;clear hb hbox hg;have hnb33:=NB297_292.out;have hnc33:=NB292_297.out;obtain⟨hcz34_0,hcz34_1,hcz34_2⟩:=cs3_ BK297.out;obtain⟨hfz34_0,hfz34_1,hfz34_2⟩:=fz3_ BK297.out)|((with_reducible refine gc_ 34 rfl ?_);refine gm_ (some 36) Try.func34 (impl_goodGlobal.calls ((rd_T63 l0_1 x31_3).f0) ((rd_T63 l0_1 x31_3).f1) ((rd_T63 l0_1 x31_3).f2) false _ A26.out) ?_;intro w35 hb;replace BK292:=A_ (blk_below (g:=gb292) (o:=.cells #[.slice A0_0 l0_0.length c0_0,.slice (some ad296) l0_1.length c0_1,.bool a0_2,.int .i64 a0_3,.int .i64 a0_4,.int .i64 a0_5] 32 (0,0)) (by refine blk_far ?_ NB292_297.out _;refine blk_far ?_ NB292_297.out _;refine blk_far ?_ NB292_297.out _;(with_reducible repeat (first|refine blk_drewN ?_ _|refine blk_drew ?_|refine blk_alloc ?_ _));exact BK292.out) hb);replace BK297:=A_ (blk_below (g:=gb297) (o:=.cells #[.int .i64 ((rd_T63 l0_1 x31_3).f0),.bool ((rd_T63 l0_1 x31_3).f1),.int .u64 ((rd_T63 l0_1 x31_3).f2)] 63 (0,0)) (by refine blk_put (cs:=#[.int .i64 ((rd_T63 l0_1 x31_3).f0),.bool ((rd_T63 l0_1 x31_3).f1),.int .u64 0]) ?_ 2 _ rfl;refine blk_put (cs:=#[.int .i64 ((rd_T63 l0_1 x31_3).f0),.bool false,.int .u64 0]) ?_ 1 _ rfl;refine blk_put (cs:=#[.int .i64 0,.bool false,.int .u64 0]) ?_ 0 _ rfl;(with_reducible repeat (first|refine blk_drewN ?_ _|refine blk_drew ?_|refine blk_alloc ?_ _));exact BK297.out) hb);replace HB:=bs_ HB hb;(try clear hb)))
          go_ret
          exact⟨rr_,bw HB.out⟩
         rw[if_neg c25] at H
         exact absurd H (by simp)
        rw[if_neg c24] at H
        exact absurd H (by simp)
       rw[if_neg c23] at H
       have c23b0:=decide_eq_false c23
       clear c23
       by_cases c36:a0_2=true
       ·
        subst c36
        replace H:=iT_ H
        have HC37:=A_ H
        clear H
        obtain⟨hcz38_0,hcz38_1,hcz38_2,hcz38_3,hcz38_4,hcz38_5⟩:=cs6_ BK292.out
        obtain⟨hfz38_0,hfz38_1,hfz38_2,hfz38_3,hfz38_4,hfz38_5⟩:=fz6_ BK292.out
        go_upto_region 16 with (fail)
        go_cut [55] (fun v55 wc=>∃ (kq:Nat) (x55_36:Bool),v55=.bool x55_36∧Aside0 (impl_GoodShape.j3 kq x55_36 l0_0 l0_1 true a0_3 a0_4 a0_5=some r)∧Aside0 (kq≤k3)∧Aside0 (wc.heap[gb292]? =some (.cells #[(.slice A0_0 l0_0.length c0_0),(.slice A0_1 l0_1.length c0_1),.bool true,.int .i64 a0_3,.int .i64 a0_4,.int .i64 a0_5] 32 (0,0)))∧Aside0 (Below w.heap.size w wc))
        case first=>
         have H:=HC37.out
         clear HC37
         by_cases c39:a0_3<0
         ·
          rw[if_pos c39] at H
          have c39b0:=decide_eq_true c39
          clear c39
          (first|rw[c39b0]|(simp only[i64_w,i32_w];rw[c39b0])|skip)
          have H':=A_ H
          clear H
          obtain⟨hcz40_0,hcz40_1,hcz40_2,hcz40_3,hcz40_4,hcz40_5⟩:=cs6_ BK292.out
          obtain⟨hfz40_0,hfz40_1,hfz40_2,hfz40_3,hfz40_4,hfz40_5⟩:=fz6_ BK292.out
          go_wp2
          go_meet
          case rel=>exact⟨_,(true),rs_,H',⟨by have:=HJ1.out;have:=HK2.out;have:=HK3.out;first|omega|exact Nat.le_refl _⟩,⟨bk BK292.out⟩,⟨bw HB.out⟩⟩
         rw[if_neg c39] at H
         have c39b0:=decide_eq_false c39
         clear c39
         (first|rw[c39b0]|(simp only[i64_w,i32_w];rw[c39b0])|skip)
         by_cases c41:a0_3 > a0_4
         ·
          rw[if_pos c41] at H
          have c41b0:=decide_eq_true c41
          clear c41
          have H':=A_ H
          clear H
          obtain⟨hcz42_0,hcz42_1,hcz42_2,hcz42_3,hcz42_4,hcz42_5⟩:=cs6_ BK292.out
          obtain⟨hfz42_0,hfz42_1,hfz42_2,hfz42_3,hfz42_4,hfz42_5⟩:=fz6_ BK292.out
          go_wp2
          go_meet
          case rel=>exact⟨_,(true),rs_,H',⟨by have:=HJ1.out;have:=HK2.out;have:=HK3.out;first|omega|exact Nat.le_refl _⟩,⟨bk BK292.out⟩,⟨bw HB.out⟩⟩
         rw[if_neg c41] at H
         have c41b0:=decide_eq_false c41
         clear c41
         have H':=A_ H
         clear H
         obtain⟨hcz43_0,hcz43_1,hcz43_2,hcz43_3,hcz43_4,hcz43_5⟩:=cs6_ BK292.out
         obtain⟨hfz43_0,hfz43_1,hfz43_2,hfz43_3,hfz43_4,hfz43_5⟩:=fz6_ BK292.out
         go_wp2
         go_meet
         case rel=>exact⟨_,(decide (a0_4 > 8)),rs_,H',⟨by have:=HJ1.out;have:=HK2.out;have:=HK3.out;first|omega|exact Nat.le_refl _⟩,⟨bk BK292.out⟩,⟨bw HB.out⟩⟩
        case rest=>
         clear HC37
         try clear c7 c9 c9b0 c23 c23b0 c36 hcz22_0 hcz22_1 hcz22_2 hcz22_3 hcz22_4 hcz22_5 hcz38_0 hcz38_1 hcz38_2 hcz38_3 hcz38_4 hcz38_5 hcz8_0 hcz8_1 hcz8_2 hcz8_3 hcz8_4 hcz8_5 hfz22_0 hfz22_1 hfz22_2 hfz22_3 hfz22_4 hfz22_5 hfz38_0 hfz38_1 hfz38_2 hfz38_3 hfz38_4 hfz38_5 hfz8_0 hfz8_1 hfz8_2 hfz8_3 hfz8_4 hfz8_5
         obtain⟨kq,x55_36,rfl,HA,HJ36,BK292,HB⟩:=hcut
         cases kq with
         |zero=>exact absurd HA.out (by simp[impl_GoodShape.j3])
         |succ kj36=>
          have H:=HA.out
          clear HA
          simp only[impl_GoodShape.j3] at H
          by_cases c44:x55_36=true
          ·
           subst c44
           replace H:=iT_ H
           obtain rfl:=Option.some.inj H
           clear H
           go_wp2
           go_ret
           exact⟨rr_,bw HB.out⟩
          replace c44:=Bool.eq_false_iff.mpr c44
          subst c44
          replace H:=iF_ H
          by_cases c45:a0_5=(-1)
          ·
           rw[if_pos c45] at H
           obtain⟨c45b0,c45b1⟩:=eT_ c45
           clear c45
           obtain rfl:=Option.some.inj H
           clear H
           obtain⟨hcz46_0,hcz46_1,hcz46_2,hcz46_3,hcz46_4,hcz46_5⟩:=cs6_ BK292.out
           obtain⟨hfz46_0,hfz46_1,hfz46_2,hfz46_3,hfz46_4,hfz46_5⟩:=fz6_ BK292.out
           go_wp2
           go_ret
           exact⟨rr_,bw HB.out⟩
          rw[if_neg c45] at H
          obtain⟨c45b0,c45b1⟩:=eF_ c45
          by_cases c47:a0_5≥0
          ·
           rw[if_pos c47] at H
           have c47b0:=decide_eq_true c47
           clear c47
           by_cases c48:a0_5<(l0_0.length:Int)
           ·
            rw[if_pos c48] at H
            have c48b0:=decide_eq_true c48
            clear c48
            by_cases c49:0≤a0_5
            ·
             rw[if_pos c49] at H
             have c49b0:=decide_eq_true c49
             clear c49
             by_cases c50:(((rd_T59 l0_0 a0_5).f0).length:Int)=0
             ·
              rw[if_pos c50] at H
              obtain⟨c50b0,c50b1⟩:=eT_ c50
              clear c50
              obtain rfl:=Option.some.inj H
              clear H
              obtain⟨hcz51_0,hcz51_1,hcz51_2,hcz51_3,hcz51_4,hcz51_5⟩:=cs6_ BK292.out
              obtain⟨hfz51_0,hfz51_1,hfz51_2,hfz51_3,hfz51_4,hfz51_5⟩:=fz6_ BK292.out
              have p299:0≤(a0_5:Int):=od_
              have q299:a0_5<(l0_0.length:Int):=od_
              obtain⟨ad299,A299_0,c299_0,A299_2,c299_2,A299_3,c299_3,e299,hx299_0,hx299_1,hx299_2,hx299_3,hl299_0,hi299_0,hl299_2,hi299_2,hl299_3,hi299_3⟩:=at_T59 HR0_0.out a0_5 p299 q299
              cases e299
              replace hx299_0:=cl_ HB.out hx299_0
              replace hx299_1:=cl_ HB.out hx299_1
              replace hx299_2:=cl_ HB.out hx299_2
              replace hx299_3:=cl_ HB.out hx299_3
              have HR299_0:=A_ hi299_0
              have HC299_0:=A_ hl299_0
              clear hi299_0 hl299_0
              have HR299_2:=A_ hi299_2
              have HC299_2:=A_ hl299_2
              clear hi299_2 hl299_2
              have HR299_3:=A_ hi299_3
              have HC299_3:=A_ hl299_3
              clear hi299_3 hl299_3
              replace p299:=eq_true p299
              replace q299:=eq_true q299
              have p300:0≤(a0_5:Int):=od_
              have q300:a0_5<(l0_0.length:Int):=od_
              obtain⟨ad300,A300_0,c300_0,A300_2,c300_2,A300_3,c300_3,e300,hx300_0,hx300_1,hx300_2,hx300_3,hl300_0,hi300_0,hl300_2,hi300_2,hl300_3,hi300_3⟩:=at_T59 HR0_0.out a0_5 p300 q300
              obtain rfl:ad299=ad300:=(by injection e300)
              replace hx300_0:=cl_ HB.out hx300_0
              replace hx300_1:=cl_ HB.out hx300_1
              replace hx300_2:=cl_ HB.out hx300_2
              replace hx300_3:=cl_ HB.out hx300_3
              have HR300_0:=A_ hi300_0
              have HC300_0:=A_ hl300_0
              clear hi300_0 hl300_0
              have HR300_2:=A_ hi300_2
              have HC300_2:=A_ hl300_2
              clear hi300_2 hl300_2
              have HR300_3:=A_ hi300_3
              have HC300_3:=A_ hl300_3
              clear hi300_3 hl300_3
              replace p300:=eq_true p300
              replace q300:=eq_true q300
              have ea_:=Option.some.inj (hx299_0.symm.trans hx300_0)
              injection ea_ with ea_ en_ ec_
              subst ea_
              subst ec_
              clear en_
              have ea_:=Option.some.inj (hx299_2.symm.trans hx300_2)
              injection ea_ with ea_ en_ ec_
              subst ea_
              subst ec_
              clear en_
              have ea_:=Option.some.inj (hx299_3.symm.trans hx300_3)
              injection ea_ with ea_ en_ ec_
              subst ea_
              subst ec_
              clear en_
              go_wp2
              go_ret
              exact⟨rr_,bw HB.out⟩
             rw[if_neg c50] at H
             obtain⟨c50b0,c50b1⟩:=eF_ c50
             have c50b2:¬(((rd_T59 l0_0 a0_5).f0)=[]):=fun h_=>c50 (by rw[h_];rfl)
             obtain rfl:=Option.some.inj H
             clear H
             obtain⟨hcz52_0,hcz52_1,hcz52_2,hcz52_3,hcz52_4,hcz52_5⟩:=cs6_ BK292.out
             obtain⟨hfz52_0,hfz52_1,hfz52_2,hfz52_3,hfz52_4,hfz52_5⟩:=fz6_ BK292.out
             have p299:0≤(a0_5:Int):=od_
             have q299:a0_5<(l0_0.length:Int):=od_
             obtain⟨ad299,A299_0,c299_0,A299_2,c299_2,A299_3,c299_3,e299,hx299_0,hx299_1,hx299_2,hx299_3,hl299_0,hi299_0,hl299_2,hi299_2,hl299_3,hi299_3⟩:=at_T59 HR0_0.out a0_5 p299 q299
             cases e299
             replace hx299_0:=cl_ HB.out hx299_0
             replace hx299_1:=cl_ HB.out hx299_1
             replace hx299_2:=cl_ HB.out hx299_2
             replace hx299_3:=cl_ HB.out hx299_3
             have HR299_0:=A_ hi299_0
             have HC299_0:=A_ hl299_0
             clear hi299_0 hl299_0
             have HR299_2:=A_ hi299_2
             have HC299_2:=A_ hl299_2
             clear hi299_2 hl299_2
             have HR299_3:=A_ hi299_3
             have HC299_3:=A_ hl299_3
             clear hi299_3 hl299_3
             replace p299:=eq_true p299
             replace q299:=eq_true q299
             go_wp2
             go_ret
             exact⟨rr_,bw HB.out⟩
            rw[if_neg c49] at H
            exact absurd H (by simp)
           rw[if_neg c48] at H
           have c48b0:=decide_eq_false c48
           clear c48
           obtain rfl:=Option.some.inj H
           clear H
           obtain⟨hcz53_0,hcz53_1,hcz53_2,hcz53_3,hcz53_4,hcz53_5⟩:=cs6_ BK292.out
           obtain⟨hfz53_0,hfz53_1,hfz53_2,hfz53_3,hfz53_4,hfz53_5⟩:=fz6_ BK292.out
           go_wp2
           go_ret
           exact⟨rr_,bw HB.out⟩
          rw[if_neg c47] at H
          have c47b0:=decide_eq_false c47
          clear c47
          obtain rfl:=Option.some.inj H
          clear H
          obtain⟨hcz54_0,hcz54_1,hcz54_2,hcz54_3,hcz54_4,hcz54_5⟩:=cs6_ BK292.out
          obtain⟨hfz54_0,hfz54_1,hfz54_2,hfz54_3,hfz54_4,hfz54_5⟩:=fz6_ BK292.out
          go_wp2
          go_ret
          exact⟨rr_,bw HB.out⟩
       replace c36:=Bool.eq_false_iff.mpr c36
       subst c36
       replace H:=iF_ H
       have HC55:=A_ H
       clear H
       obtain⟨hcz56_0,hcz56_1,hcz56_2,hcz56_3,hcz56_4,hcz56_5⟩:=cs6_ BK292.out
       obtain⟨hfz56_0,hfz56_1,hfz56_2,hfz56_3,hfz56_4,hfz56_5⟩:=fz6_ BK292.out
       go_upto_region 18 with (fail)
       go_cut [63] (fun v63 wc=>∃ (kq:Nat) (x63_54:Bool),v63=.bool x63_54∧Aside0 (impl_GoodShape.j4 kq x63_54 l0_0 l0_1 false a0_3 a0_4 a0_5=some r)∧Aside0 (kq≤k3)∧Aside0 (wc.heap[gb292]? =some (.cells #[(.slice A0_0 l0_0.length c0_0),(.slice A0_1 l0_1.length c0_1),.bool false,.int .i64 a0_3,.int .i64 a0_4,.int .i64 a0_5] 32 (0,0)))∧Aside0 (Below w.heap.size w wc))
       case first=>
        have H:=HC55.out
        clear HC55
        by_cases c57:a0_3=0
        ·
         rw[if_pos c57] at H
         obtain⟨c57b0,c57b1⟩:=eT_ c57
         clear c57
         (first|rw[c57b0]|(simp only[i64_w,i32_w];rw[c57b0])|skip)
         have H':=A_ H
         clear H
         obtain⟨hcz58_0,hcz58_1,hcz58_2,hcz58_3,hcz58_4,hcz58_5⟩:=cs6_ BK292.out
         obtain⟨hfz58_0,hfz58_1,hfz58_2,hfz58_3,hfz58_4,hfz58_5⟩:=fz6_ BK292.out
         go_wp2
         go_meet
         case rel=>exact⟨_,((a0_4 !=0)),rs_,H',⟨by have:=HJ1.out;have:=HK2.out;have:=HK3.out;first|omega|exact Nat.le_refl _⟩,⟨bk BK292.out⟩,⟨bw HB.out⟩⟩
        rw[if_neg c57] at H
        obtain⟨c57b0,c57b1⟩:=eF_ c57
        (first|rw[c57b0]|(simp only[i64_w,i32_w];rw[c57b0])|skip)
        have H':=A_ H
        clear H
        obtain⟨hcz59_0,hcz59_1,hcz59_2,hcz59_3,hcz59_4,hcz59_5⟩:=cs6_ BK292.out
        obtain⟨hfz59_0,hfz59_1,hfz59_2,hfz59_3,hfz59_4,hfz59_5⟩:=fz6_ BK292.out
        go_wp2
        go_meet
        case rel=>exact⟨_,(true),rs_,H',⟨by have:=HJ1.out;have:=HK2.out;have:=HK3.out;first|omega|exact Nat.le_refl _⟩,⟨bk BK292.out⟩,⟨bw HB.out⟩⟩
       case rest=>
        clear HC55
        try clear c7 c9 c9b0 c23 c23b0 c36 hcz22_0 hcz22_1 hcz22_2 hcz22_3 hcz22_4 hcz22_5 hcz56_0 hcz56_1 hcz56_2 hcz56_3 hcz56_4 hcz56_5 hcz8_0 hcz8_1 hcz8_2 hcz8_3 hcz8_4 hcz8_5 hfz22_0 hfz22_1 hfz22_2 hfz22_3 hfz22_4 hfz22_5 hfz56_0 hfz56_1 hfz56_2 hfz56_3 hfz56_4 hfz56_5 hfz8_0 hfz8_1 hfz8_2 hfz8_3 hfz8_4 hfz8_5
        obtain⟨kq,x63_54,rfl,HA,HJ54,BK292,HB⟩:=hcut
        cases kq with
        |zero=>exact absurd HA.out (by simp[impl_GoodShape.j4])
        |succ kj54=>
         have H:=HA.out
         clear HA
         simp only[impl_GoodShape.j4] at H
         by_cases c60:x63_54=true
         ·
          subst c60
          replace H:=iT_ H
          obtain rfl:=Option.some.inj H
          clear H
          go_wp2
          go_ret
          exact⟨rr_,bw HB.out⟩
         replace c60:=Bool.eq_false_iff.mpr c60
         subst c60
         replace H:=iF_ H
         by_cases c61:a0_5=(-1)
         ·
          rw[if_pos c61] at H
          obtain⟨c61b0,c61b1⟩:=eT_ c61
          clear c61
          obtain rfl:=Option.some.inj H
          clear H
          obtain⟨hcz62_0,hcz62_1,hcz62_2,hcz62_3,hcz62_4,hcz62_5⟩:=cs6_ BK292.out
          obtain⟨hfz62_0,hfz62_1,hfz62_2,hfz62_3,hfz62_4,hfz62_5⟩:=fz6_ BK292.out
          go_wp2
          go_ret
          exact⟨rr_,bw HB.out⟩
         rw[if_neg c61] at H
         obtain⟨c61b0,c61b1⟩:=eF_ c61
         by_cases c63:a0_5≥0
         ·
          rw[if_pos c63] at H
          have c63b0:=decide_eq_true c63
          clear c63
          by_cases c64:a0_5<(l0_0.length:Int)
          ·
           rw[if_pos c64] at H
           have c64b0:=decide_eq_true c64
           clear c64
           by_cases c65:0≤a0_5
           ·
            rw[if_pos c65] at H
            have c65b0:=decide_eq_true c65
            clear c65
            by_cases c66:(((rd_T59 l0_0 a0_5).f0).length:Int)=0
            ·
             rw[if_pos c66] at H
             obtain⟨c66b0,c66b1⟩:=eT_ c66
             clear c66
             obtain rfl:=Option.some.inj H
             clear H
             obtain⟨hcz67_0,hcz67_1,hcz67_2,hcz67_3,hcz67_4,hcz67_5⟩:=cs6_ BK292.out
             obtain⟨hfz67_0,hfz67_1,hfz67_2,hfz67_3,hfz67_4,hfz67_5⟩:=fz6_ BK292.out
             have p301:0≤(a0_5:Int):=od_
             have q301:a0_5<(l0_0.length:Int):=od_
             obtain⟨ad301,A301_0,c301_0,A301_2,c301_2,A301_3,c301_3,e301,hx301_0,hx301_1,hx301_2,hx301_3,hl301_0,hi301_0,hl301_2,hi301_2,hl301_3,hi301_3⟩:=at_T59 HR0_0.out a0_5 p301 q301
             cases e301
             replace hx301_0:=cl_ HB.out hx301_0
             replace hx301_1:=cl_ HB.out hx301_1
             replace hx301_2:=cl_ HB.out hx301_2
             replace hx301_3:=cl_ HB.out hx301_3
             have HR301_0:=A_ hi301_0
             have HC301_0:=A_ hl301_0
             clear hi301_0 hl301_0
             have HR301_2:=A_ hi301_2
             have HC301_2:=A_ hl301_2
             clear hi301_2 hl301_2
             have HR301_3:=A_ hi301_3
             have HC301_3:=A_ hl301_3
             clear hi301_3 hl301_3
             replace p301:=eq_true p301
             replace q301:=eq_true q301
             have p302:0≤(a0_5:Int):=od_
             have q302:a0_5<(l0_0.length:Int):=od_
             obtain⟨ad302,A302_0,c302_0,A302_2,c302_2,A302_3,c302_3,e302,hx302_0,hx302_1,hx302_2,hx302_3,hl302_0,hi302_0,hl302_2,hi302_2,hl302_3,hi302_3⟩:=at_T59 HR0_0.out a0_5 p302 q302
             obtain rfl:ad301=ad302:=(by injection e302)
             replace hx302_0:=cl_ HB.out hx302_0
             replace hx302_1:=cl_ HB.out hx302_1
             replace hx302_2:=cl_ HB.out hx302_2
             replace hx302_3:=cl_ HB.out hx302_3
             have HR302_0:=A_ hi302_0
             have HC302_0:=A_ hl302_0
             clear hi302_0 hl302_0
             have HR302_2:=A_ hi302_2
             have HC302_2:=A_ hl302_2
             clear hi302_2 hl302_2
             have HR302_3:=A_ hi302_3
             have HC302_3:=A_ hl302_3
             clear hi302_3 hl302_3
             replace p302:=eq_true p302
             replace q302:=eq_true q302
             have ea_:=Option.some.inj (hx301_0.symm.trans hx302_0)
             injection ea_ with ea_ en_ ec_
             subst ea_
             subst ec_
             clear en_
             have ea_:=Option.some.inj (hx301_2.symm.trans hx302_2)
             injection ea_ with ea_ en_ ec_
             subst ea_
             subst ec_
             clear en_
             have ea_:=Option.some.inj (hx301_3.symm.trans hx302_3)
             injection ea_ with ea_ en_ ec_
             subst ea_
             subst ec_
             clear en_
             go_wp2
             go_ret
             exact⟨rr_,bw HB.out⟩
            rw[if_neg c66] at H
            obtain⟨c66b0,c66b1⟩:=eF_ c66
            have c66b2:¬(((rd_T59 l0_0 a0_5).f0)=[]):=fun h_=>c66 (by rw[h_];rfl)
            obtain rfl:=Option.some.inj H
            clear H
            obtain⟨hcz68_0,hcz68_1,hcz68_2,hcz68_3,hcz68_4,hcz68_5⟩:=cs6_ BK292.out
            obtain⟨hfz68_0,hfz68_1,hfz68_2,hfz68_3,hfz68_4,hfz68_5⟩:=fz6_ BK292.out
            have p301:0≤(a0_5:Int):=od_
            have q301:a0_5<(l0_0.length:Int):=od_
            obtain⟨ad301,A301_0,c301_0,A301_2,c301_2,A301_3,c301_3,e301,hx301_0,hx301_1,hx301_2,hx301_3,hl301_0,hi301_0,hl301_2,hi301_2,hl301_3,hi301_3⟩:=at_T59 HR0_0.out a0_5 p301 q301
            cases e301
            replace hx301_0:=cl_ HB.out hx301_0
            replace hx301_1:=cl_ HB.out hx301_1
            replace hx301_2:=cl_ HB.out hx301_2
            replace hx301_3:=cl_ HB.out hx301_3
            have HR301_0:=A_ hi301_0
            have HC301_0:=A_ hl301_0
            clear hi301_0 hl301_0
            have HR301_2:=A_ hi301_2
            have HC301_2:=A_ hl301_2
            clear hi301_2 hl301_2
            have HR301_3:=A_ hi301_3
            have HC301_3:=A_ hl301_3
            clear hi301_3 hl301_3
            replace p301:=eq_true p301
            replace q301:=eq_true q301
            go_wp2
            go_ret
            exact⟨rr_,bw HB.out⟩
           rw[if_neg c65] at H
           exact absurd H (by simp)
          rw[if_neg c64] at H
          have c64b0:=decide_eq_false c64
          clear c64
          obtain rfl:=Option.some.inj H
          clear H
          obtain⟨hcz69_0,hcz69_1,hcz69_2,hcz69_3,hcz69_4,hcz69_5⟩:=cs6_ BK292.out
          obtain⟨hfz69_0,hfz69_1,hfz69_2,hfz69_3,hfz69_4,hfz69_5⟩:=fz6_ BK292.out
          go_wp2
          go_ret
          exact⟨rr_,bw HB.out⟩
         rw[if_neg c63] at H
         have c63b0:=decide_eq_false c63
         clear c63
         obtain rfl:=Option.some.inj H
         clear H
         obtain⟨hcz70_0,hcz70_1,hcz70_2,hcz70_3,hcz70_4,hcz70_5⟩:=cs6_ BK292.out
         obtain⟨hfz70_0,hfz70_1,hfz70_2,hfz70_3,hfz70_4,hfz70_5⟩:=fz6_ BK292.out
         go_wp2
         go_ret
         exact⟨rr_,bw HB.out⟩


/-! ### impl_checker_fail: function 59 (walked by hand) -/
set_option maxHeartbeats 4000000 in
theorem top_any (w0 w:World) (g:Nat) (q:Nat→Value) (c:CS S82) (A:Option Addr) (n1 gB n2:Nat) (hp:0<c.sp.length) (h:Ck w0 w g q c A n1 (some ⟨gB,0,none⟩) n2):
  Calls Try.prog 71 #[.pointer (some ⟨g,0,none⟩)] w fun e w'=>e=.returned (.pointer (some ⟨gB,(c.sp.length - 1)*5,none⟩))∧∃ nd,w'=w.drewN nd:=by
 have c3:=h.cell3
 have hm:=h.lenP.1
 have hP:=A_ hp
 clear h
 obtain⟨n,hn⟩:∃ n,c.sp.length=n:=⟨_,rfl⟩
 rw[hn] at c3 hm hP ⊢
 have e1:IntKind.i64.wrap ((n:Int) - 1)=((n - 1:Nat):Int):=by have:=hP.out;rw[show ((n:Int) - 1)=((n - 1:Nat):Int) by omega];exact IntWalk.i64_in _ (by omega)
 have q1:(0:Int)≤((n - 1:Nat):Int):=by omega
 have q2:((n - 1:Nat):Int)<(n:Int):=by have:=hP.out;omega
 go_enter Try.func71,Try.ntmps71
 go_wp2
 go_quiet (fail)
 go_wp2
 go_ret
 exact⟨rfl,_,rfl⟩
set_option maxHeartbeats 4000000 in
theorem fail_any (w0 w:World) (g:Nat) (q:Nat→Value) (c:CS S82) (k:Int) (A:Option Addr) (n1:Nat) (B:Option Addr) (n2:Nat) (h:Ck w0 w g q c A n1 B n2):
  Calls Try.prog 59 #[.pointer (some ⟨g,0,none⟩),.int .i64 k] w fun e w'=>e=.returned (.tuple #[])∧Ck w0 w' g q (c.fail k) A n1 B n2∧KeepBut w w' g none:=by
 have HO:=A_ h
 have c5:=h.cell5
 have f5:=h.frozen 5
 clear h
 by_cases cf:c.fa=0
 ·
  have cb:(c.fa==0)=true:=beq_iff_eq.2 cf
  have e:c.fail k={c with fa:=k}:=by rw[CS.fail,if_pos cf]
  rw[e]
  clear cf e
  go_enter Try.func59,Try.ntmps59
  go_wp2
  go_end0
  exact⟨rfl,HO.out.setF k,(KeepBut.refl w g none).set_ 5 _⟩
 have cb:(c.fa==0)=false:=beq_eq_false_iff_ne.2 cf
 have e:c.fail k=c:=by rw[CS.fail,if_neg cf]
 rw[e]
 clear cf e
 go_enter Try.func59,Try.ntmps59
 go_wp2
 go_end0
 exact⟨rfl,HO.out,KeepBut.refl w g none⟩


/-! ### impl_checker_take: function 56 (walked by hand) -/
def takeC (c:CS S82) (want:Int):Option (CS S82 × Int):=
 (c.sp[c.sp.length - 1]?).bind fun b=>
  if (c.st.length:Int)≤b.f2 then some (if b.f3=true then c else c.fail 2,0)
  else (c.st[c.st.length - 1]?).bind fun t=>
   if want≠0∧t≠0∧want≠t then some (({c with st:=c.st.take (c.st.length - 1)}:CS S82).fail 3,t) else some ({c with st:=c.st.take (c.st.length - 1)},t)
theorem take_any (w0 w:World) (g:Nat) (q:Nat→Value) (c c':CS S82) (want t:Int) (A:Option Addr) (n1:Nat) (B:Option Addr) (n2:Nat) (h:Ck w0 w g q c A n1 B n2) (hr:takeC c want=some (c',t)):
  Calls Try.prog 56 #[.pointer (some ⟨g,0,none⟩),.int .i64 want] w fun e w'=>e=.returned (.int .i64 t)∧Ck w0 w' g q c' A n1 B n2∧KeepBut w w' g none:=by
 obtain⟨b,hb,hr⟩:=Option.bind_eq_some_iff.1 hr
 have hp:0<c.sp.length:=by have:=(List.getElem?_eq_some_iff.1 hb).1;omega
 obtain⟨gB,rfl,ggB,s0,s1,s2,s3,s4,sf⟩:=h.span _ b hb
 have HO:=A_ h
 have HP:=A_ hp
 have c2:=h.cell2
 have f2:=h.frozen 2
 have hm:=h.lenS
 have HBB:=A_ hb
 clear s0 s1 s4 sf hb hp
 by_cases c1:(c.st.length:Int)≤b.f2
 ·
  rw[if_pos c1] at hr
  simp only[Option.some.injEq,Prod.mk.injEq] at hr
  obtain⟨rfl,rfl⟩:=hr
  have c1b:=decide_eq_true c1
  clear h c1
  by_cases cd:b.f3=true
  ·
   rw[if_pos cd]
   rw[cd] at s3
   clear cd
   go_enter Try.func56,Try.ntmps56
   go_wp2
   go_quiet ((go_at_call 71;exact Calls.quiet_of (top_any w0 _ g q c A n1 gB n2 HP.out (HO.out.drewN _))))
   go_wp2_with (first|(go_at_call 71;refine(top_any w0 _ g q c A n1 gB n2 HP.out (HO.out.drewN _)).mono ?_;rintro e w' ⟨rfl,nd,rfl⟩))
   go_ret
   exact⟨rfl,HO.out.drewN _,KeepBut.refl _ _ _⟩
  rw[if_neg cd]
  rw[show b.f3=false by simpa using cd] at s3
  clear cd
  go_enter Try.func56,Try.ntmps56
  go_wp2
  go_quiet ((go_at_call 71;exact Calls.quiet_of (top_any w0 _ g q c A n1 gB n2 HP.out (HO.out.drewN _))))
  go_wp2_with (first|(go_at_call 71;refine(top_any w0 _ g q c A n1 gB n2 HP.out (HO.out.drewN _)).mono ?_;rintro e w' ⟨rfl,nd,rfl⟩)|(go_at_call 59;refine(fail_any w0 _ g q c 2 A n1 _ n2 (HO.out.drewN _)).mono ?_;rintro e w2 ⟨rfl,hO,hK⟩;have HO2:=A_ hO;have HK:=A_ hK;clear hO hK))
  go_ret
  exact⟨rfl,HO2.out,HK.out⟩
 rw[if_neg c1] at hr
 obtain⟨x,hx,hr2⟩:=Option.bind_eq_some_iff.1 hr
 clear hr
 have c1b:=decide_eq_false c1
 have hlt:c.st.length - 1<c.st.length:=(List.getElem?_eq_some_iff.1 hx).1
 obtain⟨gA,rfl,sx⟩:=h.stk _ x hx
 have HX:=A_ hx
 have HK:=A_ (KeepBut.refl w g none)
 clear hx c1 s3
 have e1:IntKind.i64.wrap ((c.st.length:Int) - 1)=((c.st.length - 1:Nat):Int):=by rw[show ((c.st.length:Int) - 1)=((c.st.length - 1:Nat):Int) by omega];exact IntWalk.i64_in _ (by omega)
 have q1:(0:Int)≤((c.st.length - 1:Nat):Int):=by omega
 have q2:((c.st.length - 1:Nat):Int)<(c.st.length:Int):=by omega
 have q3:((c.st.length - 1:Nat):Int)≤(n1:Int):=by omega
 have HL:=A_ (show c.st.length - 1≤c.st.length by omega)
 clear h hlt hm
 go_enter Try.func56,Try.ntmps56
 go_wp2
 go_quiet (((go_at_call 71;exact Calls.quiet_of (top_any w0 _ g q c (some ⟨gA,0,none⟩) n1 gB n2 HP.out (HO.out.drewN _)))))
 replace HO:=A_ (HO.out.drewN nq);replace HK:=A_ (keep_drewN HK.out nq);clear c2 f2 sx s2;generalize w.drewN nq=w1 at*
 have c2:=HO.out.cell2;have f2:=HO.out.frozen 2
 obtain⟨_,e_,sx⟩:=HO.out.stk _ x HX.out;cases e_
 go_wp2
 go_quiet (fail)
 replace HO:=A_ (HO.out.drewN nq);replace HK:=A_ (keep_drewN HK.out nq);clear c2 f2 sx;generalize w1.drewN nq=w2 at*
 have c2:=HO.out.cell2;have f2:=HO.out.frozen 2
 go_wp2
 go_still_tail 14,(by kernel_rfl)
 change wpList _ _ _ _ _ w2.drew
 replace HO:=A_ (HO.out.drew);replace HK:=A_ (keep_drew HK.out);clear c2 f2;generalize w2.drew=w3 at*
 have c2:=HO.out.cell2;have f2:=HO.out.frozen 2
 go_upto_region 7 with (fail)
 replace HO:=A_ (HO.out.cutS (c.st.length - 1) HL.out);replace HK:=A_ (HK.out.set_ 2 (.slice (some ⟨gA,0,none⟩) (c.st.length - 1) n1));clear c2 f2;generalize w3.setCell ⟨g,2,none⟩ (.slice (some ⟨gA,0,none⟩) (c.st.length - 1) n1)=w4 at*
 by_cases w1:want=0
 ·
  have b1:(want !=0)=false:=bne_eq_false_iff_eq.mpr w1
  rw[if_neg (by simp[w1])] at hr2
  simp only[Option.some.injEq,Prod.mk.injEq] at hr2
  obtain⟨rfl,rfl⟩:=hr2
  go_wp2
  go_ret
  exact⟨rfl,HO.out,HK.out⟩
 have b1:(want !=0)=true:=bne_iff_ne.mpr w1
 by_cases w2:x=0
 ·
  have b2:(x !=0)=false:=bne_eq_false_iff_eq.mpr w2
  rw[if_neg (by simp[w2])] at hr2
  simp only[Option.some.injEq,Prod.mk.injEq] at hr2
  obtain⟨rfl,rfl⟩:=hr2
  go_wp2
  go_ret
  exact⟨rfl,HO.out,HK.out⟩
 have b2:(x !=0)=true:=bne_iff_ne.mpr w2
 by_cases w3:want=x
 ·
  have b3:(want !=x)=false:=bne_eq_false_iff_eq.mpr w3
  rw[if_neg (by simp[w3])] at hr2
  simp only[Option.some.injEq,Prod.mk.injEq] at hr2
  obtain⟨rfl,rfl⟩:=hr2
  go_wp2
  go_ret
  exact⟨rfl,HO.out,HK.out⟩
 have b3:(want !=x)=true:=bne_iff_ne.mpr w3
 rw[if_pos ⟨w1,w2,w3⟩] at hr2
 simp only[Option.some.injEq,Prod.mk.injEq] at hr2
 obtain⟨rfl,rfl⟩:=hr2
 go_wp2_with (first|(go_at_call 59;refine(fail_any w0 _ g q _ 3 _ n1 _ n2 HO.out).mono ?_;rintro e w5 ⟨rfl,hO,hK⟩;replace HO:=A_ hO;replace HK:=A_ (HK.out.trans hK (.inl rfl));clear hO hK))
 go_ret
 exact⟨rfl,HO.out,HK.out⟩


/-! ### impl_checker_put: function 57 (walked by hand) -/
theorem put_any (k:Int) (w0 w:World) (g:Nat) (q:Nat→Value) (c c':CS S82) (A:Option Addr) (n1:Nat) (B:Option Addr) (n2:Nat) (h:Ck w0 w g q c A n1 B n2) (hr:c.put k=some c'):
  Calls Try.prog 57 #[.pointer (some ⟨g,0,none⟩),.int .i64 k] w fun e w'=>e=.returned (.tuple #[])∧CkE w0 w' g q c':=by
 have HO:=A_ h
 have HK:=A_ (KeepBut.refl w g none)
 have hm:=h.lenS
 clear h
 unfold CS.put at hr
 by_cases ck:k=64
 ·
  rw[if_pos ck] at hr
  obtain rfl:=Option.some.inj hr
  have cb:(k !=64)=false:=bne_eq_false_iff_eq.mpr ck
  clear ck
  go_enter Try.func57,Try.ntmps57
  go_wp2
  go_end0
  exact⟨rfl,_,_,_,_,HO.out⟩
 rw[if_neg ck] at hr
 by_cases cl:c.st.length<17592186044416
 ·
  rw[if_pos cl] at hr
  obtain rfl:=Option.some.inj hr
  have cb:(k !=64)=true:=bne_iff_ne.mpr ck
  have HL:=A_ cl
  clear ck cl hr
  obtain⟨hx,hh⟩:∃ x,(if c.hi<(c.st.length:Int)+1 then (c.st.length:Int)+1 else c.hi)=x:=⟨_,rfl⟩
  rw[hh]
  have HH:=A_ hh
  clear hh
  have c2:=HO.out.cell2
  have f2:=HO.out.frozen 2
  go_enter Try.func57,Try.ntmps57
  go_wp2_with (first|((with_reducible refine gate_builtin (b:=.append) (xs:=#[.tmp 10,.tmp 12]) rfl ?_);at_builtin;refine Kd.R_append (Kd.int .i64) w0.heap.size rfl (.tmp 10) (.tmp 12) 53 3 (.int .i64 0) 8 rfl Try.underlying53 info3 rfl (by decide) (by omega) (.slice A c.st.length n1) c.st k [.int .i64 k] (fun _=>True) (fun _=>False) rfl rfl ?aP (fun _ hk=>hk.elim) (fun _ _=>trivial) ?aO HO.out.2.1 HO.out.2.1.size ?aL ?_;(case aP=>exact rfl);(case aO=>exact HO.out.2.2.2.1);(case aL=>have:=HL.out;omega);intro v1 wa hv hb hg hat;obtain⟨hblk,A',n',e_,hN⟩:=HO.out.appS hv hb hg;subst e_;have HB:=A_ hblk;have HN:=A_ hN;clear c2 f2 hv hb hg hat hblk hN;have c2:=blk_cell HB.out 2;have f2:=blk_frozen HB.out 2))
  replace HO:=A_ (HN.out);replace HK:=A_ trivial;clear HB c2 f2;generalize wa.setCell ⟨g,2,none⟩ (.slice A' (c.st.length+1) n')=wb at*;clear HN
  have c2:wb.cell? ⟨g,2,none⟩=some (.slice A' (c.st.length+1) n'):=by have h9:=HO.out.cell2;rwa [List.length_append,List.length_singleton] at h9
  have c4:=HO.out.cell4;have f4:=HO.out.frozen 4
  by_cases cm:c.hi<(c.st.length:Int)+1
  ·
   have ee:=HH.out.symm.trans (if_pos cm)
   have cm1:(c.hi<(c.st.length:Int)+1)=True:=eq_true cm
   have EE:=A_ ee
   clear cm ee
   go_still_tail 13,(by kernel_rfl)
   change wpList _ _ _ _ _ wb.drew
   replace HO:=A_ (HO.out.drew);replace HK:=A_ (trivial);clear c2 c4 f4;generalize wb.drew=wc at*
   have c4:=HO.out.cell4;have f4:=HO.out.frozen 4
   go_wp2
   go_end0
   exact⟨rfl,_,_,_,_,by rw[EE.out];exact HO.out.setH _⟩
  have ee:=HH.out.symm.trans (if_neg cm)
  have cm1:(c.hi<(c.st.length:Int)+1)=False:=eq_false cm
  have EE:=A_ ee
  clear cm ee
  go_still_tail 13,(by kernel_rfl)
  change wpList _ _ _ _ _ wb.drew
  replace HO:=A_ (HO.out.drew);replace HK:=A_ (trivial);clear c2 c4 f4;generalize wb.drew=wc at*
  have c4:=HO.out.cell4;have f4:=HO.out.frozen 4
  go_wp2
  go_end0
  exact⟨rfl,_,_,_,_,by rw[EE.out];exact HO.out.setH _⟩
 rw[if_neg cl] at hr;cases hr


/-! ### impl_checker_takeKind: function 72 (walked by hand) -/
def takeKC (c:CS S82) (k:Int):Option (CS S82):=if k=64 then some c else (takeC c k).bind fun r=>some r.1
theorem takeC_sp {c c1:CS S82} {k t:Int} (h:takeC c k=some (c1,t)):c1.sp=c.sp:=by
 have hf:∀ (c:CS S82) (k:Int),(c.fail k).sp=c.sp:=fun c k=>by unfold CS.fail;split<;>rfl
 unfold takeC at h
 obtain⟨b,_,h⟩:=Option.bind_eq_some_iff.1 h
 split at h
 ·
  simp only[Option.some.injEq,Prod.mk.injEq] at h
  rw[←h.1];split
  ·
   rfl
  exact hf _ _
 obtain⟨x,_,h⟩:=Option.bind_eq_some_iff.1 h
 split at h<;>simp only[Option.some.injEq,Prod.mk.injEq] at h<;>rw[←h.1]
 exact hf _ _
theorem takeKC_sp {c c1:CS S82} {k:Int} (h:takeKC c k=some c1):c1.sp=c.sp:=by
 unfold takeKC at h
 split at h
 ·
  rw[←Option.some.inj h]
 obtain⟨⟨c2,t⟩,h1,h⟩:=Option.bind_eq_some_iff.1 h
 rw[←Option.some.inj h];exact takeC_sp h1
theorem takeK_any (k:Int) (w0 w:World) (g:Nat) (q:Nat→Value) (c c':CS S82) (A:Option Addr) (n1:Nat) (B:Option Addr) (n2:Nat) (h:Ck w0 w g q c A n1 B n2) (hr:takeKC c k=some c'):
  Calls Try.prog 72 #[.pointer (some ⟨g,0,none⟩),.int .i64 k] w fun e w'=>e=.returned (.tuple #[])∧Ck w0 w' g q c' A n1 B n2∧KeepBut w w' g none:=by
 have HO:=A_ h
 have HK:=A_ (KeepBut.refl w g none)
 clear h
 unfold takeKC at hr
 by_cases ck:k=64
 ·
  rw[if_pos ck] at hr
  obtain rfl:=Option.some.inj hr
  have cb:(k !=64)=false:=bne_eq_false_iff_eq.mpr ck
  clear ck
  go_enter Try.func72,Try.ntmps72
  go_wp2
  go_end0
  exact⟨rfl,HO.out,HK.out⟩
 rw[if_neg ck] at hr
 obtain⟨⟨c1,t⟩,h1,h2⟩:=Option.bind_eq_some_iff.1 hr
 obtain rfl:=Option.some.inj h2
 have cb:(k !=64)=true:=bne_iff_ne.mpr ck
 have HT:=A_ h1
 clear ck hr h1 h2
 go_enter Try.func72,Try.ntmps72
 go_wp2_with (first|(go_at_call 56;refine(take_any w0 _ g q c c1 k t A n1 B n2 HO.out HT.out).mono ?_;rintro e w5 ⟨rfl,hO,hK⟩;replace HO:=A_ hO;replace HK:=A_ (HK.out.trans hK (.inl rfl));clear hO hK))
 go_end0
 exact⟨rfl,HO.out,HK.out⟩


/-! ### impl_checker_close: function 70 (walked by hand) -/
def closeC (c:CS S82):Option (CS S82):=(c.sp[c.sp.length - 1]?).bind fun b=>(takeKC c b.f1).bind fun c1=>if b.f2<(c1.st.length:Int) then (if 0≤b.f2 then some {(c1.fail 2) with st:=c1.st.take b.f2.toNat} else none) else some c1
theorem close_any (w0 w:World) (g:Nat) (q:Nat→Value) (c c':CS S82) (A:Option Addr) (n1:Nat) (B:Option Addr) (n2:Nat) (h:Ck w0 w g q c A n1 B n2) (hr:closeC c=some c'):
  Calls Try.prog 70 #[.pointer (some ⟨g,0,none⟩)] w fun e w'=>e=.returned (.tuple #[])∧Ck w0 w' g q c' A n1 B n2∧KeepBut w w' g none:=by
 obtain⟨b,hb,hr1⟩:=Option.bind_eq_some_iff.1 hr
 obtain⟨c1,hk,hr2⟩:=Option.bind_eq_some_iff.1 hr1
 clear hr hr1
 have HP:=A_ (show 0<c.sp.length by have:=(List.getElem?_eq_some_iff.1 hb).1;omega)
 obtain⟨gB,rfl,_⟩:=h.span _ b hb
 have HBB:=A_ hb
 have HB1:=A_ (show c1.sp[c.sp.length - 1]? =some b by rw[takeKC_sp hk];exact hb)
 have HO:=A_ h
 have HK:=A_ (KeepBut.refl w g none)
 have HT:=A_ hk
 clear h hb hk
 by_cases cl:b.f2<(c1.st.length:Int)
 ·
  rw[if_pos cl] at hr2
  by_cases hz:0≤b.f2
  ·
   rw[if_pos hz] at hr2
   obtain rfl:=Option.some.inj hr2
   obtain⟨hh,hhe⟩:=Int.eq_ofNat_of_zero_le hz
   rw[show b.f2.toNat=hh by omega]
   have HH:=A_ hhe
   have HC:=A_ (show hh<c1.st.length by omega)
   have cb:decide ((hh:Int)<(c1.st.length:Int))=true:=decide_eq_true (by have:=HC.out;omega)
   have cbn:decide (hh<c1.st.length)=true:=decide_eq_true HC.out
   clear hr2 cl hz hhe
   go_enter Try.func70,Try.ntmps70
   go_upto_region 2 with (first|(go_at_call 71;refine(top_any w0 _ g q _ A n1 gB n2 HP.out HO.out).mono ?_;rintro e wt ⟨rfl,hd⟩;obtain⟨nd,hnd⟩:=hd;replace HO:=A_ (show Ck w0 wt g q _ _ n1 (some ⟨gB,0,none⟩) n2 from by rw[hnd];exact HO.out.drewN nd);replace HK:=A_ (show KeepBut w wt g none from by rw[hnd];exact keep_drewN HK.out nd);clear hnd;obtain⟨_,e_,_,_,s1,_,_,_,_⟩:=HO.out.span (c.sp.length - 1) b HBB.out;cases e_)|(go_at_call 72;refine(takeK_any b.f1 w0 _ g q _ c1 A n1 _ n2 HO.out HT.out).mono ?_;rintro e w5 ⟨rfl,hO,hK⟩;replace HO:=A_ hO;replace HK:=A_ (HK.out.trans hK (.inl rfl));clear hO hK;clear s1))
   have hsh:=R_shape HO.out.2.2.2.1
   rcases hsh with ⟨rfl,e1,e2⟩|⟨gA,rfl⟩
   ·
    exact absurd HC.out (by omega)
   have c2:=HO.out.cell2
   obtain⟨_,e_,_,_,_,s2,_,_,_⟩:=HO.out.span (c.sp.length - 1) b HB1.out;cases e_
   rw[HH.out] at s2
   go_quiet (fail)
   replace HO:=A_ (HO.out.drewN nq);replace HK:=A_ (keep_drewN HK.out nq);clear c2 s2;generalize w5.drewN nq=wq at*
   go_upto_region 4 with (first|(go_at_call 59;refine(fail_any w0 _ g q _ 2 (some ⟨gA,0,none⟩) n1 _ n2 HO.out).mono ?_;rintro e w5 ⟨rfl,hO,hK⟩;replace HO:=A_ hO;replace HK:=A_ (HK.out.trans hK (.inl rfl));clear hO hK))
   have c2:w5.cell? ⟨g,2,none⟩=some (.slice (some ⟨gA,0,none⟩) c1.st.length n1):=by have h9:=HO.out.cell2;rwa [(fail_st c1 2).1] at h9
   have f2:=HO.out.frozen 2
   obtain⟨_,e_,_,_,_,s2,_,_,_⟩:=HO.out.span (c.sp.length - 1) b (by rw[(fail_st c1 2).2];exact HB1.out);cases e_
   rw[HH.out] at s2
   have q1:(0:Int)≤(hh:Int):=by omega
   have q2:(hh:Int)≤(n1:Int):=by have:=HC.out;have h9:=HO.out.lenS.2;rw[(fail_st c1 2).1] at h9;omega
   go_still_tail 12,(by kernel_rfl)
   change wpList _ _ _ _ _ w5.drew
   replace HO:=A_ (HO.out.drew);replace HK:=A_ (keep_drew HK.out);clear c2 f2 s2;generalize w5.drew=wz at*
   have c2:wz.cell? ⟨g,2,none⟩=some (.slice (some ⟨gA,0,none⟩) c1.st.length n1):=by have h9:=HO.out.cell2;rwa [(fail_st c1 2).1] at h9
   have f2:=HO.out.frozen 2
   go_wp2
   go_end0
   refine⟨rfl,?_,HK.out.set_ 2 _⟩
   have h9:=HO.out.cutS hh (by rw[(fail_st c1 2).1];have:=HC.out;omega)
   simp only[(fail_st c1 2).1] at h9
   exact h9
  rw[if_neg hz] at hr2;cases hr2
 rw[if_neg cl] at hr2
 obtain rfl:=Option.some.inj hr2
 have cb:=decide_eq_false cl
 clear hr2 cl
 go_enter Try.func70,Try.ntmps70
 go_upto_region 2 with (first|(go_at_call 71;refine(top_any w0 _ g q _ A n1 gB n2 HP.out HO.out).mono ?_;rintro e wt ⟨rfl,hd⟩;obtain⟨nd,hnd⟩:=hd;replace HO:=A_ (show Ck w0 wt g q _ _ n1 (some ⟨gB,0,none⟩) n2 from by rw[hnd];exact HO.out.drewN nd);replace HK:=A_ (show KeepBut w wt g none from by rw[hnd];exact keep_drewN HK.out nd);clear hnd;obtain⟨_,e_,_,_,s1,_,_,_,_⟩:=HO.out.span (c.sp.length - 1) b HBB.out;cases e_)|(go_at_call 72;refine(takeK_any b.f1 w0 _ g q _ c1 A n1 _ n2 HO.out HT.out).mono ?_;rintro e w5 ⟨rfl,hO,hK⟩;replace HO:=A_ hO;replace HK:=A_ (HK.out.trans hK (.inl rfl));clear hO hK;clear s1))
 have c2:=HO.out.cell2
 obtain⟨_,e_,_,_,_,s2,_,_,_⟩:=HO.out.span (c.sp.length - 1) b HB1.out;cases e_
 go_quiet (fail)
 replace HO:=A_ (HO.out.drewN nq);replace HK:=A_ (keep_drewN HK.out nq);clear c2 s2;generalize w5.drewN nq=wq at*
 go_wp2
 go_end0
 exact⟨rfl,HO.out,HK.out⟩


/-! ### impl_checker_wants: function 73 (walked by hand) -/
def wantsC (c:CS S82) (a:Int):Option (CS S82 × Int):=if (c.sp.length:Int)≤a then some (c.fail 4,64) else if 0≤a then (c.sp[c.sp.length - 1 - a.toNat]?).bind fun b=>some (c,if b.f0=3 then 64 else b.f1) else none
def impl_wants.T4:Bool × List (List Nat × List Nat):=(true,[([],[]),([0],[0]),([1],[1]),([2],[2]),([],[]),([4],[4]),([5],[5]),([6],[6]),([7],[7]),([8],[8]),([],[]),([9,10],[9,10]),([3,11],[3,11]),([12],[12]),([],[]),([14,13,0,1,2,3,4,5,6,7,8,9,10,11,12,13,14],[13,14])])
def impl_wants.B4:List Nat:=[0,1,3,7,0,16,48,112,240,496,0,2032,4095,8191,0,32767]
theorem impl_wants.tab4:rtab .any (opsOf Try.f73 4)=impl_wants.T4:=by kernel_rfl
theorem impl_wants.bits4:waitsOk impl_wants.T4.2 impl_wants.B4=true:=by kernel_rfl
theorem wants_any (a t:Int) (w0 w:World) (g:Nat) (q:Nat→Value) (c c':CS S82) (A:Option Addr) (n1:Nat) (B:Option Addr) (n2:Nat) (h:Ck w0 w g q c A n1 B n2) (hr:wantsC c a=some (c',t)):
  Calls Try.prog 73 #[.pointer (some ⟨g,0,none⟩),.int .i64 a] w fun e w'=>e=.returned (.int .i64 t)∧Ck w0 w' g q c' A n1 B n2∧KeepBut w w' g none:=by
 have HO:=A_ h
 have HK:=A_ (KeepBut.refl w g none)
 have c3:=h.cell3
 have hu82:=Try.underlying82
 unfold wantsC at hr
 by_cases cl:(c.sp.length:Int)≤a
 ·
  rw[if_pos cl] at hr
  simp only[Option.some.injEq,Prod.mk.injEq] at hr
  obtain⟨rfl,rfl⟩:=hr
  have cb:=decide_eq_true cl
  clear cl h
  go_enter Try.func73,Try.ntmps73
  go_wp2_with (first|(go_at_call 59;refine(fail_any w0 _ g q _ 4 A n1 B n2 HO.out).mono ?_;rintro e w5 ⟨rfl,hO,hK⟩;replace HO:=A_ hO;replace HK:=A_ (HK.out.trans hK (.inl rfl));clear hO hK))
  go_ret
  exact⟨rfl,HO.out,HK.out⟩
 rw[if_neg cl] at hr
 by_cases ca:0≤a
 ·
  rw[if_pos ca] at hr
  obtain⟨b,hb,hr1⟩:=Option.bind_eq_some_iff.1 hr
  simp only[Option.some.injEq,Prod.mk.injEq] at hr1
  obtain⟨rfl,ht⟩:=hr1
  have HT:=A_ ht
  have cb:=decide_eq_false cl
  obtain⟨an,rfl⟩:=Int.eq_ofNat_of_zero_le ca
  rw[Int.toNat_natCast] at hb
  have cbn:decide (c.sp.length≤an)=false:=decide_eq_false (by omega)
  have hm:=h.lenP.1
  obtain⟨gB,rfl,_,s0,s1,s2,s3,s4,sf⟩:=h.span _ b hb
  have e1:IntKind.i64.wrap ((c.sp.length:Int) - 1)=((c.sp.length - 1:Nat):Int):=by rw[show ((c.sp.length:Int) - 1)=((c.sp.length - 1:Nat):Int) by omega];exact IntWalk.i64_in _ (by omega)
  have e2:IntKind.i64.wrap (((c.sp.length - 1:Nat):Int) - (an:Int))=((c.sp.length - 1 - an:Nat):Int):=by rw[show (((c.sp.length - 1:Nat):Int) - (an:Int))=((c.sp.length - 1 - an:Nat):Int) by omega];exact IntWalk.i64_in _ (by omega)
  have q1:(0:Int)≤((c.sp.length - 1 - an:Nat):Int):=by omega
  have q2:((c.sp.length - 1 - an:Nat):Int)<(c.sp.length:Int):=by omega
  clear cl ca hr h hb hm ht
  go_enter Try.func73,Try.ntmps73
  go_upto_region 4 with (fail)
  refine sS 16 (fun w'=>w'.cell? ⟨g,3,none⟩=some (.slice (some ⟨gB,0,none⟩) c.sp.length n2)∧w'.cell? ⟨gB,(c.sp.length - 1 - an)*5,none⟩=some (.int .i64 b.f0)∧w'.cell? ⟨gB,(c.sp.length - 1 - an)*5+1,none⟩=some (.int .i64 b.f1)∧w'.cell? ⟨gB,(c.sp.length - 1 - an)*5+2,none⟩=some (.int .i64 b.f2)∧w'.cell? ⟨gB,(c.sp.length - 1 - an)*5+3,none⟩=some (.bool b.f3)∧w'.cell? ⟨gB,(c.sp.length - 1 - an)*5+4,none⟩=some (.bool b.f4)) [15] ⟨c3,s0,s1,s2,s3,s4⟩ impl_wants.tab4 impl_wants.bits4 (fun hHeld HT_ HW_=>?_)
  replace HO:=A_ HO.out.drew;replace HK:=A_ (keep_drew HK.out);clear c3 s0 s1 s2 s3 s4 sf;generalize w.drew=wd at*
  refine pS HT_ 0 15 ?_
  refine pS HT_ 1 16 ?_
  refine pS HT_ 2 17 ?_
  refine pS HT_ 4 19 ?_
  refine pS HT_ 5 20 ?_
  refine pS HT_ 6 21 ?_
  refine pS HT_ 10 25 ?_
  refine tS HT_ HW_ 3 18 hHeld ?_
  refine tS HT_ HW_ 7 22 hHeld ?_
  refine pS HT_ 8 23 ?_
  refine pS HT_ 9 24 ?_
  refine pS HT_ 11 26 ?_
  refine pS HT_ 12 27 ?_
  refine tS HT_ HW_ 13 28 hHeld ?_
  refine oS HT_ 14 (some 5) (fun K hK=>?_)
  refine box_step (by rfl) (N:=5) ?hd (cs:=#[(.int .i64 0),(.int .i64 0),(.int .i64 0),(.bool false),(.bool false)]) (t:=82) ?hr ?_;(case hd=>rfl);(case hr=>first|(go_simp;done)|(go_simp;rfl))
  intro gx hg wx hbox hb
  have BX:=A_ hbox;have GX:=A_ (show w.heap.size≤gx from by rw[hg];exact HK.out.1);have NX:=A_ (HO.out.fresh_ne hg);have G0:=A_ (Nat.le_trans HO.out.2.1.size (Nat.le_of_eq hg.symm));have m0:=A_ (HO.out.below hb);have m1:=A_ (HK.out.trans (KeepBut.of_below hb g none) (.inl rfl))
  obtain⟨s0_,s1_,s2_,s3_,s4_,s5_⟩:=hHeld
  have hHeld2:=A_ (show wx.cell? ⟨g,3,none⟩=some (.slice (some ⟨gB,0,none⟩) c.sp.length n2)∧wx.cell? ⟨gB,(c.sp.length - 1 - an)*5,none⟩=some (.int .i64 b.f0)∧wx.cell? ⟨gB,(c.sp.length - 1 - an)*5+1,none⟩=some (.int .i64 b.f1)∧wx.cell? ⟨gB,(c.sp.length - 1 - an)*5+2,none⟩=some (.int .i64 b.f2)∧wx.cell? ⟨gB,(c.sp.length - 1 - an)*5+3,none⟩=some (.bool b.f3)∧wx.cell? ⟨gB,(c.sp.length - 1 - an)*5+4,none⟩=some (.bool b.f4) from ⟨cl_ hb s0_,cl_ hb s1_,cl_ hb s2_,cl_ hb s3_,cl_ hb s4_,cl_ hb s5_⟩)
  clear HO HK hbox hb hg s0_ s1_ s2_ s3_ s4_ s5_;have HO:=m0;have HK:=m1;clear m0 m1
  have z0:=(blk_cell BX.out 0).trans rfl;have v0:=blk_frozen BX.out 0;have z1:=(blk_cell BX.out 1).trans rfl;have v1:=blk_frozen BX.out 1;have z2:=(blk_cell BX.out 2).trans rfl;have v2:=blk_frozen BX.out 2;have z3:=(blk_cell BX.out 3).trans rfl;have v3:=blk_frozen BX.out 3;have z4:=(blk_cell BX.out 4).trans rfl;have v4:=blk_frozen BX.out 4
  refine hK.out _ _ hHeld2.out (fun hHeld=>?_)
  clear hK K
  refine nS (some 5) ?_
  refine lS HT_ 15 (none) (fun K hK=>?_)
  refine skip_ (w1:=(((((wx.setCell ⟨gx,0,none⟩ ((.int .i64 b.f0))).setCell ⟨gx,1,none⟩ ((.int .i64 b.f1))).setCell ⟨gx,2,none⟩ ((.int .i64 b.f2))).setCell ⟨gx,3,none⟩ ((.bool b.f3))).setCell ⟨gx,4,none⟩ ((.bool b.f4)))) (by rfl) rfl (by first|(go_simp;done)|(go_simp;rfl)) ?_
  clear hHeld hHeld2 z0 v0 z1 v1 z2 v2 z3 v3 z4 v4
  refine hK.out _ _ ?_
  clear hK K
  refine dS HT_ ?_
  replace BX:=A_ (show((((((wx.setCell ⟨gx,0,none⟩ ((.int .i64 b.f0))).setCell ⟨gx,1,none⟩ ((.int .i64 b.f1))).setCell ⟨gx,2,none⟩ ((.int .i64 b.f2))).setCell ⟨gx,3,none⟩ ((.bool b.f3))).setCell ⟨gx,4,none⟩ ((.bool b.f4)))).heap[gx]? =some (.cells #[(.int .i64 b.f0),(.int .i64 b.f1),(.int .i64 b.f2),(.bool b.f3),(.bool b.f4)] 82 (0,0)) from blk_put (cs:=#[(.int .i64 b.f0),(.int .i64 b.f1),(.int .i64 b.f2),(.bool b.f3),(.bool false)]) (blk_put (cs:=#[(.int .i64 b.f0),(.int .i64 b.f1),(.int .i64 b.f2),(.bool false),(.bool false)]) (blk_put (cs:=#[(.int .i64 b.f0),(.int .i64 b.f1),(.int .i64 0),(.bool false),(.bool false)]) (blk_put (cs:=#[(.int .i64 b.f0),(.int .i64 0),(.int .i64 0),(.bool false),(.bool false)]) (blk_put (cs:=#[(.int .i64 0),(.int .i64 0),(.int .i64 0),(.bool false),(.bool false)]) (BX.out) 0 ((.int .i64 b.f0)) rfl) 1 ((.int .i64 b.f1)) rfl) 2 ((.int .i64 b.f2)) rfl) 3 ((.bool b.f3)) rfl) 4 ((.bool b.f4)) rfl);replace HO:=A_ (Ck.other (Ck.other (Ck.other (Ck.other (Ck.other (HO.out) G0.out NX.out 0 ((.int .i64 b.f0))) G0.out NX.out 1 ((.int .i64 b.f1))) G0.out NX.out 2 ((.int .i64 b.f2))) G0.out NX.out 3 ((.bool b.f3))) G0.out NX.out 4 ((.bool b.f4)));replace HK:=A_ (keep_other (keep_other (keep_other (keep_other (keep_other (HK.out) GX.out 0 ((.int .i64 b.f0))) GX.out 1 ((.int .i64 b.f1))) GX.out 2 ((.int .i64 b.f2))) GX.out 3 ((.bool b.f3))) GX.out 4 ((.bool b.f4)));generalize (((((wx.setCell ⟨gx,0,none⟩ ((.int .i64 b.f0))).setCell ⟨gx,1,none⟩ ((.int .i64 b.f1))).setCell ⟨gx,2,none⟩ ((.int .i64 b.f2))).setCell ⟨gx,3,none⟩ ((.bool b.f3))).setCell ⟨gx,4,none⟩ ((.bool b.f4)))=wy at*
  have x0:=(blk_cell BX.out 0).trans rfl;have x1:=(blk_cell BX.out 1).trans rfl;have x2:=(blk_cell BX.out 2).trans rfl;have x3:=(blk_cell BX.out 3).trans rfl;have x4:=(blk_cell BX.out 4).trans rfl
  by_cases c3b:b.f0=3
  ·
   have ee:=HT.out.symm.trans (if_pos c3b)
   have cb2:(b.f0==3)=true:=beq_iff_eq.2 c3b
   clear c3b HT
   go_wp2
   go_ret
   exact⟨by rw[ee];rfl,HO.out,HK.out⟩
  have ee:=HT.out.symm.trans (if_neg c3b)
  have cb2:(b.f0==3)=false:=beq_eq_false_iff_ne.2 c3b
  have EE:=A_ ee
  clear c3b HT ee
  go_wp2
  go_ret
  exact⟨by rw[EE.out];rfl,HO.out,HK.out⟩
 rw[if_neg ca] at hr;cases hr


/-! ### impl_checker_die: function 74 (walked by hand) -/
def dieC (c:CS S82):Option (CS S82):=(c.sp[c.sp.length - 1]?).bind fun b=>if 0≤b.f2 then some {c with sp:=c.sp.set (c.sp.length - 1) {b with f3:=true},st:=c.st.take (if b.f2.toNat<c.st.length then b.f2.toNat else c.st.length)} else none
theorem die_any (w0 w:World) (g:Nat) (q:Nat→Value) (c c':CS S82) (A:Option Addr) (n1:Nat) (B:Option Addr) (n2:Nat) (h:Ck w0 w g q c A n1 B n2) (hr:dieC c=some c'):
  Calls Try.prog 74 #[.pointer (some ⟨g,0,none⟩)] w fun e w'=>e=.returned (.tuple #[])∧Ck w0 w' g q c' A n1 B n2:=by
 obtain⟨b,hb,hr1⟩:=Option.bind_eq_some_iff.1 hr
 clear hr
 by_cases hz:0≤b.f2
 ·
  rw[if_pos hz] at hr1
  obtain rfl:=Option.some.inj hr1
  clear hr1
  obtain⟨hh,hhe⟩:=Int.eq_ofNat_of_zero_le hz
  have HLT:=A_ (List.getElem?_eq_some_iff.1 hb).1
  have HP:=A_ (show 0<c.sp.length by have:=HLT.out;omega)
  obtain⟨gB,rfl,_⟩:=h.span _ b hb
  have HBB:=A_ hb
  have HO:=A_ h
  have HK:=A_ (KeepBut.refl w g none)
  have HH:=A_ hhe
  have hm:=h.lenS
  rw[show b.f2.toNat=hh by omega]
  have hsh:=R_shape h.2.2.2.1
  clear h hb hz hhe
  by_cases cm:hh<c.st.length
  ·
   rw[if_pos cm]
   have HC:=A_ cm
   rcases hsh with ⟨rfl,e1,e2⟩|⟨gA,rfl⟩
   ·
    omega
   clear cm
   go_enter Try.func74,Try.ntmps74
   go_upto_region 2 with (first|(go_at_call 71;refine(top_any w0 _ g q _ (some ⟨gA,0,none⟩) n1 gB n2 HP.out HO.out).mono ?_;rintro e wt ⟨rfl,hd⟩;obtain⟨nd,hnd⟩:=hd;replace HO:=A_ (show Ck w0 wt g q _ _ n1 (some ⟨gB,0,none⟩) n2 from by rw[hnd];exact HO.out.drewN nd);replace HK:=A_ (show KeepBut w wt g none from by rw[hnd];exact keep_drewN HK.out nd);clear hnd;obtain⟨_,e_,_,_,_,_,s3,_,sf⟩:=HO.out.span (c.sp.length - 1) b HBB.out;cases e_;have u3:=sf ((c.sp.length - 1)*5+3);clear sf))
   replace HO:=A_ ((HO.out.flag gB (c.sp.length - 1) b HBB.out true).1);replace HK:=A_ (trivial);clear s3 u3;generalize wt.setCell ⟨gB,(c.sp.length - 1)*5+3,none⟩ (.bool true)=wa at*
   have c2:=HO.out.cell2;have f2:=HO.out.frozen 2
   obtain⟨_,e_,_,_,_,s2,_,_,_⟩:=HO.out.span (c.sp.length - 1) {b with f3:=true} (by rw[List.getElem?_set_self];exact HLT.out);cases e_
   replace c2:wa.cell? ⟨g,2,none⟩=some (.slice (some ⟨gA,0,none⟩) c.st.length n1):=c2
   replace s2:wa.cell? ⟨gB,(c.sp.length - 1)*5+2,none⟩=some (.int .i64 (hh:Int)):=s2.trans (by rw[←HH.out])
   have cm1:((hh:Int)<(c.st.length:Int))=True:=eq_true (by have:=HC.out;omega)
   have q1:(0:Int)≤(hh:Int):=by omega
   have q2:(hh:Int)≤(n1:Int):=by have:=HC.out;omega
   clear hm
   go_still_tail 18,(by kernel_rfl)
   change wpList _ _ _ _ _ wa.drew
   replace HO:=A_ (HO.out.drew);replace HK:=A_ (trivial);clear c2 f2 s2;generalize wa.drew=wb at*
   have c2:wb.cell? ⟨g,2,none⟩=some (.slice (some ⟨gA,0,none⟩) c.st.length n1):=HO.out.cell2;have f2:=HO.out.frozen 2
   go_wp2
   go_end0
   exact⟨rfl,HO.out.cutS hh (by have:=HC.out;show hh≤c.st.length;omega)⟩
  rw[if_neg cm]
  have HC:=A_ cm
  rcases hsh with ⟨rfl,e1,e2⟩|⟨gA,rfl⟩
  ·
   clear cm
   go_enter Try.func74,Try.ntmps74
   go_upto_region 2 with (first|(go_at_call 71;refine(top_any w0 _ g q _ none n1 gB n2 HP.out HO.out).mono ?_;rintro e wt ⟨rfl,hd⟩;obtain⟨nd,hnd⟩:=hd;replace HO:=A_ (show Ck w0 wt g q _ _ n1 (some ⟨gB,0,none⟩) n2 from by rw[hnd];exact HO.out.drewN nd);replace HK:=A_ (show KeepBut w wt g none from by rw[hnd];exact keep_drewN HK.out nd);clear hnd;obtain⟨_,e_,_,_,_,_,s3,_,sf⟩:=HO.out.span (c.sp.length - 1) b HBB.out;cases e_;have u3:=sf ((c.sp.length - 1)*5+3);clear sf))
   replace HO:=A_ ((HO.out.flag gB (c.sp.length - 1) b HBB.out true).1);replace HK:=A_ (trivial);clear s3 u3;generalize wt.setCell ⟨gB,(c.sp.length - 1)*5+3,none⟩ (.bool true)=wa at*
   have c2:=HO.out.cell2;have f2:=HO.out.frozen 2
   obtain⟨_,e_,_,_,_,s2,_,_,_⟩:=HO.out.span (c.sp.length - 1) {b with f3:=true} (by rw[List.getElem?_set_self];exact HLT.out);cases e_
   replace c2:wa.cell? ⟨g,2,none⟩=some (.slice none c.st.length n1):=c2
   replace s2:wa.cell? ⟨gB,(c.sp.length - 1)*5+2,none⟩=some (.int .i64 (hh:Int)):=s2.trans (by rw[←HH.out])
   have cm1:((hh:Int)<0)=False:=eq_false (by omega)
   rw[e1,e2] at c2
   clear hm
   go_still_tail 18,(by kernel_rfl)
   change wpList _ _ _ _ _ wa.drew
   replace HO:=A_ (HO.out.drew);replace HK:=A_ (trivial);clear c2 f2 s2;generalize wa.drew=wb at*
   have c2:wb.cell? ⟨g,2,none⟩=some (.slice none c.st.length n1):=HO.out.cell2;have f2:=HO.out.frozen 2
   go_wp2
   go_end0
   exact⟨rfl,by have h9:=HO.out.cutS c.st.length (Nat.le_refl _);simpa only [e1,e2,List.take_zero,List.take_length] using h9⟩
  clear cm
  go_enter Try.func74,Try.ntmps74
  go_upto_region 2 with (first|(go_at_call 71;refine(top_any w0 _ g q _ (some ⟨gA,0,none⟩) n1 gB n2 HP.out HO.out).mono ?_;rintro e wt ⟨rfl,hd⟩;obtain⟨nd,hnd⟩:=hd;replace HO:=A_ (show Ck w0 wt g q _ _ n1 (some ⟨gB,0,none⟩) n2 from by rw[hnd];exact HO.out.drewN nd);replace HK:=A_ (show KeepBut w wt g none from by rw[hnd];exact keep_drewN HK.out nd);clear hnd;obtain⟨_,e_,_,_,_,_,s3,_,sf⟩:=HO.out.span (c.sp.length - 1) b HBB.out;cases e_;have u3:=sf ((c.sp.length - 1)*5+3);clear sf))
  replace HO:=A_ ((HO.out.flag gB (c.sp.length - 1) b HBB.out true).1);replace HK:=A_ (trivial);clear s3 u3;generalize wt.setCell ⟨gB,(c.sp.length - 1)*5+3,none⟩ (.bool true)=wa at*
  have c2:=HO.out.cell2;have f2:=HO.out.frozen 2
  obtain⟨_,e_,_,_,_,s2,_,_,_⟩:=HO.out.span (c.sp.length - 1) {b with f3:=true} (by rw[List.getElem?_set_self];exact HLT.out);cases e_
  replace c2:wa.cell? ⟨g,2,none⟩=some (.slice (some ⟨gA,0,none⟩) c.st.length n1):=c2
  replace s2:wa.cell? ⟨gB,(c.sp.length - 1)*5+2,none⟩=some (.int .i64 (hh:Int)):=s2.trans (by rw[←HH.out])
  have cm1:((hh:Int)<(c.st.length:Int))=False:=eq_false (by have:=HC.out;omega)
  have q1:(0:Int)≤(c.st.length:Int):=by omega
  have q2:(c.st.length:Int)≤(n1:Int):=by omega
  clear hm
  go_still_tail 18,(by kernel_rfl)
  change wpList _ _ _ _ _ wa.drew
  replace HO:=A_ (HO.out.drew);replace HK:=A_ (trivial);clear c2 f2 s2;generalize wa.drew=wb at*
  have c2:wb.cell? ⟨g,2,none⟩=some (.slice (some ⟨gA,0,none⟩) c.st.length n1):=HO.out.cell2;have f2:=HO.out.frozen 2
  go_wp2
  go_end0
  exact⟨rfl,by have h9:=HO.out.cutS c.st.length (Nat.le_refl _);simpa only [List.take_zero,List.take_length] using h9⟩
 rw[if_neg hz] at hr1;cases hr1


end Go.Proofs.Ytghogonibanieaa.Q

