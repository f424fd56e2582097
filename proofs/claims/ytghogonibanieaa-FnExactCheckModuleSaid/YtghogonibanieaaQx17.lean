-- Written by a program of this session; it walks the functions that the law reaches.
import Derived.Test.YtghogonibanieaaQx0
import Derived.Test.YtghogonibanieaaQx16
import Derived.Test.YtghogonibanieaaQx15
namespace Go.Proofs.Ytghogonibanieaa.Q
open Go.RowKit Go.Proofs.YtghogonibanieaaW.PrintWords Go.Proofs.YtghogonibanieaaW.PrintLast Go.Proofs.YtghogonibanieaaW.PrintMore
attribute [local go_sem] max2_int min2_int max_two min_two max_three min_three max_four min_four   -- for this text's walks alone
set_option linter.unusedVariables false
set_option linter.unusedSimpArgs false
set_option maxRecDepth 100000
set_option maxHeartbeats 8000000

/-! ### impl_deepest: function 53 -/
def impl_deepest.l0:Nat→List Int→Int→List (S71)→Int→Int→Option (Int)
 |0,_,_,_,_,_=>none
 |k+1,x3,x4,x12,x13,x14=>if x14<x13 then (if 0≤x14 then (if x14<(x12.length:Int) then (if (x3.length:Int)=0 then (some 0) else ((impl_opens.f ((rd_T71 x12 x14).f0)).bind fun t298=>(if t298=true then (if x3.length<17592186044416 then ((some (x3++[(rd_T71 x12 x14).f0]:List Int)).bind fun y299=>(impl_deepest.l0 k y299 (mx x4 (y299.length:Int)) x12 x13 (wrap64 (x14+1)))) else (none)) else (if ((rd_T71 x12 x14).f0)=5 then (if 0≤(wrap64 ((x3.length:Int) - 1)) then (if (wrap64 ((x3.length:Int) - 1))<(x3.length:Int) then (if (rd x3 (wrap64 ((x3.length:Int) - 1)))=4 then (impl_deepest.l0 k (x3.set ((wrap64 ((x3.length:Int) - 1)):Int).toNat 5) x4 x12 x13 (wrap64 (x14+1))) else (some 0)) else (none)) else (none)) else (if ((rd_T71 x12 x14).f0)=11 then (if 0≤(wrap64 ((x3.length:Int) - 1)) then (if (wrap64 ((x3.length:Int) - 1))≤(x3.length:Int) then (impl_deepest.l0 k (x3.take ((wrap64 ((x3.length:Int) - 1)):Int).toNat) x4 x12 x13 (wrap64 (x14+1))) else (none)) else (none)) else (impl_deepest.l0 k x3 x4 x12 x13 (wrap64 (x14+1)))))))) else (none)) else (none)) else (if (x3.length:Int) > 0 then (some 0) else (some x4))
def impl_deepest.f (k:Nat) (l0:List (S71)):Option (Int):=(impl_goodCode.f k l0).bind fun t292=>(if t292=true then (impl_deepest.l0 k (([2]:List Int)) 1 l0 (l0.length:Int) 0) else (some 0))
theorem impl_deepest.calls (k:Nat) (A0:Option Addr) (c0:Nat) (l0:List (S71)) (r:Int) (w:World) (hr0:Kd.C k71 w A0 l0.length l0) (hc0:l0.length≤c0) (h:impl_deepest.f k l0=some r):
  Calls Try.prog 53 #[.slice A0 l0.length c0] w fun e w'=>e=.returned (.int .i64 r)∧Below w.heap.size w w':=by
 have hu71:=Try.underlying71
 have HR0:=A_ hr0
 have HC0:=A_ hc0
 clear hr0 hc0
 have HB:=A_ (Below.refl w.heap.size w)
 have H:((impl_goodCode.f k l0).bind fun t292=>(if t292=true then (impl_deepest.l0 k (([2]:List Int)) 1 l0 (l0.length:Int) 0) else (some 0)))=some r:=h
 clear h
 replace H:=bi_ H
 obtain⟨t292,A20,H⟩:=H
 have A2:=A_ A20
 clear A20
 by_cases c3:t292=true
 ·
  subst c3
  replace H:=iT_ H
  obtain⟨y293,hy293⟩:∃ y_:List Int,y_=(([2]:List Int)):=⟨_,rfl⟩
  replace H:(impl_deepest.l0 k y293 1 l0 (l0.length:Int) 0)=some r:=by first|(rw[hy293];with_reducible exact H)|(have H2_:=(Option.bind_some _ _).symm.trans H;rw[hy293];with_reducible exact H2_)|(have H2_:=(Option.bind_some _ _).symm.trans H;with_reducible exact H2_)|with_reducible exact H|(rw[hy293];exact H)|exact H
  have Ny293:=A_ hy293
  clear hy293
  have H':=A_ H
  clear H
  go_enter Try.func53,Try.ntmps53
  go_wp2_with (first|((with_reducible refine gc_ 68 rfl ?_);refine goesL_ (some 9) rfl rfl Try.func68 (by kernel_rfl) rfl #[.slice A0 l0.length c0] rfl ar ?_;(with_reducible refine(impl_goodCode.calls k _ _ l0 true _ ?side1 ?side2 A2.out).mono ?_);(case side1=>repeat (first|exact HR0.out|(with_reducible refine Kd.C_alloc ?_ _)|(with_reducible refine Kd.C_drewN ?_ _)|(with_reducible refine Kd.C_drew ?_)));(case side2=>exact HC0.out);rintro e w4 ⟨rfl,hb⟩;refine⟨_,rfl,?_⟩;replace HB:=bs_ HB hb;(try clear hb))|((with_reducible refine gd_ 11 rfl ?_);refine Kd.R_lit (Kd.int .i64) _ 3 ?hg (N:=11) ?hd (xs:=([2]:List Int)) (inner:=[.int .i64 2]) (ok:=fun _=>True) (okp:=fun _=>True) ?hr ?hp (fun _ hk=>hk) trivial (Below.refl _ _) (Nat.le_refl _) (by simp) ?_;(case hd=>rfl);(case hg=>rfl);(case hr=>first|(go_simp;done)|(go_simp;rfl));(case hp=>exact(Reps.one (show Kd.M (Kd.int .i64) _ _ _ 2 [.int .i64 2] from rfl) (Reps.none _ _)));intro v294 w5 ho6 hb hg_ hnew_;clear hg_ hnew_;(first|rw[←Ny293.out] at ho6|(simp only[Int.reduceToNat] at ho6;rw[←Ny293.out] at ho6));have HO295:=A_ (Kd.R_lower ho6 (below_size (bw HB.out)));replace HB:=bs_ HB hb;clear hb ho6))
  (try simp only[Act.put,List.setIfInBounds_toArray,List.set_cons_zero,List.set_cons_succ])
  go_loopg [3,4,14] k (fun kq v3 v4 v14 w'=>∃ (x3_1:List Int) (x4_1:Int) (x14_1:Int),v4=.int .i64 x4_1∧v14=.int .i64 x14_1∧Aside0 (impl_deepest.l0 kq x3_1 x4_1 l0 (l0.length:Int) x14_1=some r)∧Aside0 (kq≤k)∧Aside0 (Kd.R (Kd.int .i64) 3 w' w.heap.size (fun _=>True) v3 x3_1)∧Aside0 (Below w.heap.size w w'))
  case atStart=>exact⟨(y293),(1),(0),rs_,rs_,H',⟨Nat.le_refl _⟩,⟨kr_ HO295.out⟩,⟨bw HB.out⟩⟩
  case round=>
   clear H'
   try clear c3
   obtain⟨x3_1,x4_1,x14_1,rfl,rfl,HA,HK1,HO_3,HB⟩:=hrel
   cases gk with
   |zero=>exact absurd HA.out (by simp[impl_deepest.l0])
   |succ k1=>
    have H:=HA.out
    clear HA
    simp only[impl_deepest.l0] at H
    by_cases c7:x14_1<(l0.length:Int)
    ·
     rw[if_pos c7] at H
     have c7b0:=decide_eq_true c7
     clear c7
     by_cases c8:0≤x14_1
     ·
      rw[if_pos c8] at H
      have c8b0:=decide_eq_true c8
      clear c8
      by_cases c9:x14_1<(l0.length:Int)
      ·
       rw[if_pos c9] at H
       have c9b0:=decide_eq_true c9
       clear c9
       by_cases c10:(x3_1.length:Int)=0
       ·
        rw[if_pos c10] at H
        obtain⟨c10b0,c10b1⟩:=eT_ c10
        clear c10
        obtain rfl:=Option.some.inj H
        clear H
        have p296:0≤(x14_1:Int):=od_
        have q296:x14_1<(l0.length:Int):=od_
        obtain⟨ad296,e296,hx296_0,hx296_1⟩:=at_T71 HR0.out x14_1 p296 q296
        cases e296
        replace hx296_0:=cl_ HB.out hx296_0
        replace hx296_1:=cl_ HB.out hx296_1
        replace p296:=eq_true p296
        replace q296:=eq_true q296
        go_wp2_with (first|((with_reducible refine gd_ 6 rfl ?_);refine bx_ #[.int .i64 0,.int .i64 0] 71 ?_;intro gb297 hg w11 hbox hb;have BK297:=A_ hbox;have GW297:=gw_ hg HB;have GE297:=GW297;replace HO_3:=A_ (Kd.R_below (kr_ HO_3.out) hb);replace HB:=bs_ HB hb;clear hb hbox hg;obtain⟨hcz12_0,hcz12_1⟩:=cs2_ BK297.out;obtain⟨hfz12_0,hfz12_1⟩:=fz2_ BK297.out;obtain⟨Ao13,co13,eo13⟩:=Kd.R_slice HO_3.out;subst eo13))
        go_ret
        exact⟨rr_,bw HB.out⟩
       rw[if_neg c10] at H
       obtain⟨c10b0,c10b1⟩:=eF_ c10
       have c10b2:¬(x3_1=[]):=fun h_=>c10 (by rw[h_];rfl)
       replace H:=bi_ H
       obtain⟨t298,A140,H⟩:=H
       have A14:=A_ A140
       clear A140
       by_cases c15:t298=true
       ·
        subst c15
        replace H:=iT_ H
        by_cases c16:x3_1.length<17592186044416
        ·
         rw[if_pos c16] at H
         have LMc16:=A_ c16
         clear c16
         obtain⟨y299,hy299⟩:∃ y_:List Int,y_=(x3_1++[(rd_T71 l0 x14_1).f0]):=⟨_,rfl⟩
         replace H:(impl_deepest.l0 k1 y299 (mx x4_1 (y299.length:Int)) l0 (l0.length:Int) (wrap64 (x14_1+1)))=some r:=by first|(rw[hy299];with_reducible exact H)|(have H2_:=(Option.bind_some _ _).symm.trans H;rw[hy299];with_reducible exact H2_)|(have H2_:=(Option.bind_some _ _).symm.trans H;with_reducible exact H2_)|with_reducible exact H|(rw[hy299];exact H)|exact H
         have Ny299:=A_ hy299
         clear hy299
         obtain⟨ji17,hji17⟩:∃ j_:Int,(mx x4_1 (y299.length:Int))=j_:=⟨_,rfl⟩
         replace H:(impl_deepest.l0 k1 y299 ji17 l0 (l0.length:Int) (wrap64 (x14_1+1)))=some r:=by first|(rw[hji17] at H;exact H)|(simp only[hji17] at H ⊢;exact H)
         (try rw[hji17] at A14)
         have hji17_:(if x4_1<(y299.length:Int) then (y299.length:Int) else x4_1)=ji17:=hji17
         have H':=A_ H
         clear H
         have p296:0≤(x14_1:Int):=od_
         have q296:x14_1<(l0.length:Int):=od_
         obtain⟨ad296,e296,hx296_0,hx296_1⟩:=at_T71 HR0.out x14_1 p296 q296
         cases e296
         replace hx296_0:=cl_ HB.out hx296_0
         replace hx296_1:=cl_ HB.out hx296_1
         replace p296:=eq_true p296
         replace q296:=eq_true q296
         go_wp2_with (first|((with_reducible refine gd_ 6 rfl ?_);refine bx_ #[.int .i64 0,.int .i64 0] 71 ?_;intro gb297 hg w18 hbox hb;have BK297:=A_ hbox;have GW297:=gw_ hg HB;have GE297:=GW297;replace HO_3:=A_ (Kd.R_below (kr_ HO_3.out) hb);replace HB:=bs_ HB hb;clear hb hbox hg;obtain⟨hcz19_0,hcz19_1⟩:=cs2_ BK297.out;obtain⟨hfz19_0,hfz19_1⟩:=fz2_ BK297.out;obtain⟨Ao20,co20,eo20⟩:=Kd.R_slice HO_3.out;subst eo20)|((with_reducible refine gc_ 69 rfl ?_);refine gn_ (some 27) Try.func69 (impl_opens.calls ((rd_T71 l0 x14_1).f0) true _ A14.out) ?_;intro nd)|((with_reducible refine gate_builtin (b:=.append) (xs:=#[.tmp 28,.tmp 31]) rfl ?_);at_builtin;refine Kd.R_append (Kd.int .i64) (w0:=w) w.heap.size rfl (.tmp 28) (.tmp 31) 53 3 (.int .i64 0) 8 rfl Try.underlying53 info3 rfl (by decide) (by omega) (.slice Ao20 x3_1.length co20) x3_1 ((rd_T71 l0 x14_1).f0) [.int .i64 ((rd_T71 l0 x14_1).f0)] (fun _=>True) (fun _=>False) rfl (by first|(go_simp;done)|(go_simp;rfl)) ?aP (fun _ hk=>hk.elim) ?aF ?aO ?aB ?aS ?aL ?_;(case aP=>exact rfl);(case aB=>exact(bw HB.out));(case aF=>exact(fun _ _=>trivial));(case aO=>exact(by(with_reducible repeat (first|apply Kd.R_alloc|apply Kd.R_drewN|apply Kd.R_drew));exact Kd.R_mono (Kd.R_far (p:=⟨gb297,1,none⟩) (Kd.R_far (p:=⟨gb297,0,none⟩) (Kd.R_types HO_3.out BK297.out (by decide)) (fun _ hk=>hk.2) (.int .i64 ((rd_T71 l0 x14_1).f0))) (fun _ hk=>hk.2) (.int .i64 ((rd_T71 l0 x14_1).f1))) (fun _ hk=>trivial)));(case aS=>exact(below_size (bw HB.out)));(case aL=>have:=LMc16.out;omega);intro v300 w21 ho hb hg hat;rw[←Ny299.out] at ho;have HO301:=A_ (ho);replace BK297:=A_ (blk_grown (g:=gb297) (o:=.cells #[.int .i64 ((rd_T71 l0 x14_1).f0),.int .i64 ((rd_T71 l0 x14_1).f1)] 71 (0,0)) (by refine blk_put (cs:=#[.int .i64 ((rd_T71 l0 x14_1).f0),.int .i64 0]) ?_ 1 _ rfl;refine blk_put (cs:=#[.int .i64 0,.int .i64 0]) ?_ 0 _ rfl;(with_reducible repeat (first|refine blk_drewN ?_ _|refine blk_drew ?_|refine blk_alloc ?_ _));exact BK297.out) hg (Kd.R_ne HO_3.out BK297.out (by decide)));replace HB:=A_ (hb);clear HO_3;clear ho hb hg hat;obtain⟨Ao22,co22,eo22⟩:=Kd.R_slice HO301.out;subst eo22))
         go_roundg k1
         case measure=>have:=HK1.out;omega
         case rel=>exact⟨(y299),(ji17),(wrap64 (x14_1+1)),(by first|rfl|(simp;done)|(simp only[←hji17]<;>(first|rfl|simp))|(simp[*];done)),rs_,H',⟨by have:=HK1.out;omega⟩,⟨kr_ HO301.out⟩,⟨bw HB.out⟩⟩
        rw[if_neg c16] at H
        exact absurd H (by simp)
       replace c15:=Bool.eq_false_iff.mpr c15
       subst c15
       replace H:=iF_ H
       by_cases c23:((rd_T71 l0 x14_1).f0)=5
       ·
        rw[if_pos c23] at H
        obtain⟨c23b0,c23b1⟩:=eT_ c23
        clear c23
        obtain⟨ji24,hji24⟩:∃ j_:Int,(wrap64 ((x3_1.length:Int) - 1))=j_:=⟨_,rfl⟩
        replace H:(if 0≤(ji24) then (if (ji24)<(x3_1.length:Int) then (if (rd x3_1 (ji24))=4 then (impl_deepest.l0 k1 (x3_1.set ((ji24):Int).toNat 5) x4_1 l0 (l0.length:Int) (wrap64 (x14_1+1))) else (some 0)) else (none)) else (none))=some r:=by first|(rw[hji24] at H;exact H)|(simp only[hji24] at H ⊢;exact H)
        (try rw[hji24] at A14)
        have hji24w:(IntKind.i64.wrap ((x3_1.length:Int) - 1))=ji24:=(i64_w _).trans hji24
        by_cases c25:0≤(ji24)
        ·
         rw[if_pos c25] at H
         have c25b0:=decide_eq_true c25
         clear c25
         by_cases c26:(ji24)<(x3_1.length:Int)
         ·
          rw[if_pos c26] at H
          have c26b0:=decide_eq_true c26
          clear c26
          by_cases c27:(rd x3_1 (ji24))=4
          ·
           rw[if_pos c27] at H
           obtain⟨c27b0,c27b1⟩:=eT_ c27
           clear c27
           obtain⟨y303,hy303⟩:∃ y_:List Int,y_=(x3_1.set ((ji24):Int).toNat 5):=⟨_,rfl⟩
           replace H:(impl_deepest.l0 k1 y303 x4_1 l0 (l0.length:Int) (wrap64 (x14_1+1)))=some r:=by first|(rw[hy303];with_reducible exact H)|(have H2_:=(Option.bind_some _ _).symm.trans H;rw[hy303];with_reducible exact H2_)|(have H2_:=(Option.bind_some _ _).symm.trans H;with_reducible exact H2_)|with_reducible exact H|(rw[hy303];exact H)|exact H
           have Ny303:=A_ hy303
           clear hy303
           have H':=A_ H
           clear H
           have p296:0≤(x14_1:Int):=od_
           have q296:x14_1<(l0.length:Int):=od_
           obtain⟨ad296,e296,hx296_0,hx296_1⟩:=at_T71 HR0.out x14_1 p296 q296
           cases e296
           replace hx296_0:=cl_ HB.out hx296_0
           replace hx296_1:=cl_ HB.out hx296_1
           replace p296:=eq_true p296
           replace q296:=eq_true q296
           go_wp2_with (first|((with_reducible refine gd_ 6 rfl ?_);refine bx_ #[.int .i64 0,.int .i64 0] 71 ?_;intro gb297 hg w29 hbox hb;have BK297:=A_ hbox;have GW297:=gw_ hg HB;have GE297:=GW297;replace HO_3:=A_ (Kd.R_below (kr_ HO_3.out) hb);replace HB:=bs_ HB hb;clear hb hbox hg;obtain⟨hcz30_0,hcz30_1⟩:=cs2_ BK297.out;obtain⟨hfz30_0,hfz30_1⟩:=fz2_ BK297.out)|((with_reducible refine gate_store (t:=71) (p:=6) rfl ?_);refine store_event (t:=71) (p:=6) (v:=?vo_w31) (w1:=((w29.setCell ⟨gb297,0,none⟩ (.int .i64 ((rd_T71 l0 x14_1).f0))).setCell ⟨gb297,1,none⟩ (.int .i64 ((rd_T71 l0 x14_1).f1)))) ?hg ?ho ?hn ?hr ?_;(case ho=>rfl);(case hg=>rfl);(case hn=>rfl);(case hr=>first|(go_simp;done)|(go_simp;rfl));intro w31 hw;replace HO_3:Aside0 (Kd.R (Kd.int .i64) 3 w31 w.heap.size (fun _=>True) u3 x3_1):=⟨(by rw[hw];exact(by(with_reducible repeat (first|apply Kd.R_alloc|apply Kd.R_drewN|apply Kd.R_drew));exact Kd.R_mono (Kd.R_far (p:=⟨gb297,1,none⟩) (Kd.R_far (p:=⟨gb297,0,none⟩) (Kd.R_types HO_3.out BK297.out (by decide)) (fun _ hk=>hk.2) (.int .i64 ((rd_T71 l0 x14_1).f0))) (fun _ hk=>hk.2) (.int .i64 ((rd_T71 l0 x14_1).f1))) (fun _ hk=>trivial)))⟩;replace BK297:Aside0 (w31.heap[gb297]? =some (.cells #[.int .i64 ((rd_T71 l0 x14_1).f0),.int .i64 ((rd_T71 l0 x14_1).f1)] 71 (0,0))):=⟨(by rw[hw];exact(by refine blk_put (cs:=#[.int .i64 ((rd_T71 l0 x14_1).f0),.int .i64 0]) ?_ 1 _ rfl;refine blk_put (cs:=#[.int .i64 0,.int .i64 0]) ?_ 0 _ rfl;(with_reducible repeat (first|refine blk_drewN ?_ _|refine blk_drew ?_|refine blk_alloc ?_ _));exact BK297.out))⟩;replace HB:Aside0 (Below w.heap.size w w31):=⟨(by rw[hw];exact(bw HB.out))⟩;clear hw;obtain⟨Ao32,co32,eo32⟩:=Kd.R_slice HO_3.out;subst eo32;obtain⟨hcz33_0,hcz33_1⟩:=cs2_ BK297.out;obtain⟨hfz33_0,hfz33_1⟩:=fz2_ BK297.out)|((with_reducible refine gc_ 69 rfl ?_);refine gn_ (some 27) Try.func69 (impl_opens.calls ((rd_T71 l0 x14_1).f0) false _ A14.out) ?_;intro nd;(try (rw[drewN_self w31];generalize hq_:World.drewN w31 _=w31;have n0_:Aside0 (Kd.R (Kd.int .i64) 3 w31 w.heap.size (fun _=>True) (.slice Ao32 x3_1.length co32) x3_1):=⟨by rw[←hq_];exact(kr_ HO_3.out)⟩;have n1_:Aside0 (w31.heap[gb297]? =some (.cells #[.int .i64 ((rd_T71 l0 x14_1).f0),.int .i64 ((rd_T71 l0 x14_1).f1)] 71 (0,0))):=⟨by rw[←hq_];exact(bk BK297.out)⟩;have n2_:Aside0 (Below w.heap.size w w31):=⟨by rw[←hq_];exact(bw HB.out)⟩;clear HO_3 BK297 HB hq_;have HO_3:=n0_;have BK297:=n1_;have HB:=n2_;clear n0_ n1_ n2_));obtain⟨hcz34_0,hcz34_1⟩:=cs2_ BK297.out;obtain⟨hfz34_0,hfz34_1⟩:=fz2_ BK297.out;have p302:0≤((ji24):Int):=od_;have q302:(ji24)<(x3_1.length:Int):=od_;obtain⟨ad302,e302,hx302_0⟩:=Kd.at_int (Kd.R_reads' HO_3.out).2.2 (ji24) p302 q302;cases e302;replace p302:=eq_true p302;replace q302:=eq_true q302;have p28:0≤((ji24):Int):=od_;have q28:((ji24):Int)<((x3_1.length:Int):Int):=od_;obtain⟨go28,co28,eo28,gb28,gl28,cl28,HG28⟩:=Kd.R_form HO_3.out (by omega);(first|cases eo28|(injection eo28 with ea_ en_ ec_;(first|subst ea_|(injection ea_ with ea_;subst ea_));subst ec_;clear en_));have GB28:=A_ gb28;have GG28:=A_ HG28;clear gb28 gl28 HG28;(first|simp only[add_plain] at hx302_0|skip);obtain⟨hx28_0,hf28_0⟩:=Kd.R_celln 0 HO_3.out ((ji24):Int) p28 q28;replace p28:=eq_true p28;replace q28:=eq_true q28;obtain⟨hy35_,hz35_⟩:=Kd.R_celln 0 HO_3.out ((ji24):Int) (od_) (od_);have HP35:=Kd.R_putg HO_3.out ((ji24):Int) 5)|((with_reducible refine gate_store (t:=3) (p:=48) rfl ?_);refine store_event (t:=3) (p:=48) (v:=?vo_w36) (w1:=(w31.setCell ⟨go28,((ji24):Int).toNat,none⟩ (.int .i64 5))) ?hg ?ho ?hn ?hr ?_;(case ho=>rfl);(case hg=>rfl);(case hn=>rfl);(case hr=>first|(go_simp;done)|(go_simp;rfl));intro w36 hw;have hg:w31.grownBy w36 (some go28):=(by rw[hw];exact HP35.2);have hp_:Kd.R (Kd.int .i64) 3 w36 w.heap.size (fun _=>True) (.slice (some ⟨go28,0,none⟩) x3_1.length co32) y303:=(by rw[hw,Ny303.out];exact HP35.1);clear HP35;replace BK297:=A_ (blk_grown (g:=gb297) (o:=.cells #[.int .i64 ((rd_T71 l0 x14_1).f0),.int .i64 ((rd_T71 l0 x14_1).f1)] 71 (0,0)) (bk BK297.out) hg (Kd.R_ne HO_3.out BK297.out (by decide)));replace HO_3:=A_ (hp_);replace HB:=A_ ((by rw[hw];exact below_set (HB.out) GB28.out:Below w.heap.size w w36));clear hg hw hp_))
           go_roundg k1
           case measure=>have:=HK1.out;omega
           case rel=>exact⟨(y303),(x4_1),(wrap64 (x14_1+1)),rs_,rs_,H',⟨by have:=HK1.out;omega⟩,⟨kr_ HO_3.out⟩,⟨bw HB.out⟩⟩
          rw[if_neg c27] at H
          obtain⟨c27b0,c27b1⟩:=eF_ c27
          obtain rfl:=Option.some.inj H
          clear H
          have p296:0≤(x14_1:Int):=od_
          have q296:x14_1<(l0.length:Int):=od_
          obtain⟨ad296,e296,hx296_0,hx296_1⟩:=at_T71 HR0.out x14_1 p296 q296
          cases e296
          replace hx296_0:=cl_ HB.out hx296_0
          replace hx296_1:=cl_ HB.out hx296_1
          replace p296:=eq_true p296
          replace q296:=eq_true q296
          go_wp2_with (first|((with_reducible refine gd_ 6 rfl ?_);refine bx_ #[.int .i64 0,.int .i64 0] 71 ?_;intro gb297 hg w37 hbox hb;have BK297:=A_ hbox;have GW297:=gw_ hg HB;have GE297:=GW297;replace HO_3:=A_ (Kd.R_below (kr_ HO_3.out) hb);replace HB:=bs_ HB hb;clear hb hbox hg;obtain⟨hcz38_0,hcz38_1⟩:=cs2_ BK297.out;obtain⟨hfz38_0,hfz38_1⟩:=fz2_ BK297.out;obtain⟨Ao39,co39,eo39⟩:=Kd.R_slice HO_3.out;subst eo39)|((with_reducible refine gc_ 69 rfl ?_);refine gn_ (some 27) Try.func69 (impl_opens.calls ((rd_T71 l0 x14_1).f0) false _ A14.out) ?_;intro nd;have p302:0≤((ji24):Int):=od_;have q302:(ji24)<(x3_1.length:Int):=od_;obtain⟨ad302,e302,hx302_0⟩:=Kd.at_int (Kd.R_reads' HO_3.out).2.2 (ji24) p302 q302;cases e302;have hn302_0:ad302.block≠gb297:=Kd.own_blk (Kd.R_ne HO_3.out BK297.out (by decide));have hn302_1:ad302.block≠gb297:=Kd.own_blk (Kd.R_ne HO_3.out BK297.out (by decide));replace hx302_0:=(cell_far (p:=⟨gb297,0,none⟩) (by first|(rw[add_block];exact hn302_0)|(show(Addr.add _ _).block≠_;rw[add_block];exact hn302_0)|exact hn302_0) (.int .i64 ((rd_T71 l0 x14_1).f0))).trans hx302_0;replace hx302_0:=(cell_far (p:=⟨gb297,1,none⟩) (by first|(rw[add_block];exact hn302_1)|(show(Addr.add _ _).block≠_;rw[add_block];exact hn302_1)|exact hn302_1) (.int .i64 ((rd_T71 l0 x14_1).f1))).trans hx302_0;clear hn302_0;clear hn302_1;replace p302:=eq_true p302;replace q302:=eq_true q302))
          go_ret
          exact⟨by first|rfl|(simp[errW_none,errW_some]<;>rfl)|(simp only[←hji24];first|rfl|(simp[errW_none,errW_some]<;>rfl))|(simp[*,errW_none,errW_some]<;>rfl),bw HB.out⟩
         rw[if_neg c26] at H
         exact absurd H (by simp)
        rw[if_neg c25] at H
        exact absurd H (by simp)
       rw[if_neg c23] at H
       obtain⟨c23b0,c23b1⟩:=eF_ c23
       by_cases c40:((rd_T71 l0 x14_1).f0)=11
       ·
        rw[if_pos c40] at H
        obtain⟨c40b0,c40b1⟩:=eT_ c40
        clear c40
        obtain⟨ji41,hji41⟩:∃ j_:Int,(wrap64 ((x3_1.length:Int) - 1))=j_:=⟨_,rfl⟩
        replace H:(if 0≤(ji41) then (if (ji41)≤(x3_1.length:Int) then (impl_deepest.l0 k1 (x3_1.take ((ji41):Int).toNat) x4_1 l0 (l0.length:Int) (wrap64 (x14_1+1))) else (none)) else (none))=some r:=by first|(rw[hji41] at H;exact H)|(simp only[hji41] at H ⊢;exact H)
        (try rw[hji41] at A14)
        have hji41w:(IntKind.i64.wrap ((x3_1.length:Int) - 1))=ji41:=(i64_w _).trans hji41
        by_cases c42:0≤(ji41)
        ·
         rw[if_pos c42] at H
         have c42b0:=eq_true c42
         have c42b1:=decide_eq_true c42
         clear c42
         by_cases c43:(ji41)≤(x3_1.length:Int)
         ·
          rw[if_pos c43] at H
          have c43b0:=eq_true c43
          have c43b1:=decide_eq_true c43
          clear c43
          obtain⟨y304,hy304⟩:∃ y_:List Int,y_=(x3_1.take ((ji41):Int).toNat):=⟨_,rfl⟩
          replace H:(impl_deepest.l0 k1 y304 x4_1 l0 (l0.length:Int) (wrap64 (x14_1+1)))=some r:=by first|(rw[hy304];with_reducible exact H)|(have H2_:=(Option.bind_some _ _).symm.trans H;rw[hy304];with_reducible exact H2_)|(have H2_:=(Option.bind_some _ _).symm.trans H;with_reducible exact H2_)|with_reducible exact H|(rw[hy304];exact H)|exact H
          have Ny304:=A_ hy304
          clear hy304
          have H':=A_ H
          clear H
          have p296:0≤(x14_1:Int):=od_
          have q296:x14_1<(l0.length:Int):=od_
          obtain⟨ad296,e296,hx296_0,hx296_1⟩:=at_T71 HR0.out x14_1 p296 q296
          cases e296
          replace hx296_0:=cl_ HB.out hx296_0
          replace hx296_1:=cl_ HB.out hx296_1
          replace p296:=eq_true p296
          replace q296:=eq_true q296
          go_wp2_with (first|((with_reducible refine gd_ 6 rfl ?_);refine bx_ #[.int .i64 0,.int .i64 0] 71 ?_;intro gb297 hg w44 hbox hb;have BK297:=A_ hbox;have GW297:=gw_ hg HB;have GE297:=GW297;replace HO_3:=A_ (Kd.R_below (kr_ HO_3.out) hb);replace HB:=bs_ HB hb;clear hb hbox hg;obtain⟨hcz45_0,hcz45_1⟩:=cs2_ BK297.out;obtain⟨hfz45_0,hfz45_1⟩:=fz2_ BK297.out)|((with_reducible refine gate_store (t:=71) (p:=6) rfl ?_);refine store_event (t:=71) (p:=6) (v:=?vo_w46) (w1:=((w44.setCell ⟨gb297,0,none⟩ (.int .i64 ((rd_T71 l0 x14_1).f0))).setCell ⟨gb297,1,none⟩ (.int .i64 ((rd_T71 l0 x14_1).f1)))) ?hg ?ho ?hn ?hr ?_;(case ho=>rfl);(case hg=>rfl);(case hn=>rfl);(case hr=>first|(go_simp;done)|(go_simp;rfl));intro w46 hw;replace HO_3:Aside0 (Kd.R (Kd.int .i64) 3 w46 w.heap.size (fun _=>True) u3 x3_1):=⟨(by rw[hw];exact(by(with_reducible repeat (first|apply Kd.R_alloc|apply Kd.R_drewN|apply Kd.R_drew));exact Kd.R_mono (Kd.R_far (p:=⟨gb297,1,none⟩) (Kd.R_far (p:=⟨gb297,0,none⟩) (Kd.R_types HO_3.out BK297.out (by decide)) (fun _ hk=>hk.2) (.int .i64 ((rd_T71 l0 x14_1).f0))) (fun _ hk=>hk.2) (.int .i64 ((rd_T71 l0 x14_1).f1))) (fun _ hk=>trivial)))⟩;replace BK297:Aside0 (w46.heap[gb297]? =some (.cells #[.int .i64 ((rd_T71 l0 x14_1).f0),.int .i64 ((rd_T71 l0 x14_1).f1)] 71 (0,0))):=⟨(by rw[hw];exact(by refine blk_put (cs:=#[.int .i64 ((rd_T71 l0 x14_1).f0),.int .i64 0]) ?_ 1 _ rfl;refine blk_put (cs:=#[.int .i64 0,.int .i64 0]) ?_ 0 _ rfl;(with_reducible repeat (first|refine blk_drewN ?_ _|refine blk_drew ?_|refine blk_alloc ?_ _));exact BK297.out))⟩;replace HB:Aside0 (Below w.heap.size w w46):=⟨(by rw[hw];exact(bw HB.out))⟩;clear hw;obtain⟨Ao47,co47,eo47⟩:=Kd.R_slice HO_3.out;subst eo47;obtain⟨hcz48_0,hcz48_1⟩:=cs2_ BK297.out;obtain⟨hfz48_0,hfz48_1⟩:=fz2_ BK297.out)|((with_reducible refine gc_ 69 rfl ?_);refine gn_ (some 27) Try.func69 (impl_opens.calls ((rd_T71 l0 x14_1).f0) false _ A14.out) ?_;intro nd;have q49:((ji41):Int)≤((x3_1.length:Int):Int):=od_;obtain⟨i049,hi049,_,hsz49,_⟩:=info_parts info3;have hcut49:=cut_to (P:=Try.prog) 53 3 .i64 Try.underlying53 hi049 Ao47 x3_1.length co47 (ji41) (od_) q49 (Kd.R_reads' HO_3.out).2.1;have hr49:=Kd.R_take (m:=((ji41):Int).toNat) HO_3.out (by omega);have hy49:y304.length=((ji41):Int).toNat:=(by rw[Ny304.out,List.length_take];omega);rw[←Ny304.out] at hr49;rw[←hy49] at hr49 hcut49;clear hy49 hi049 hsz49 HO_3;have HO306:=A_ hr49;clear hr49;replace q49:=eq_true q49))
          go_roundg k1
          case measure=>have:=HK1.out;omega
          case rel=>exact⟨(y304),(x4_1),(wrap64 (x14_1+1)),rs_,rs_,H',⟨by have:=HK1.out;omega⟩,⟨kr_ HO306.out⟩,⟨bw HB.out⟩⟩
         rw[if_neg c43] at H
         exact absurd H (by simp)
        rw[if_neg c42] at H
        exact absurd H (by simp)
       rw[if_neg c40] at H
       obtain⟨c40b0,c40b1⟩:=eF_ c40
       have H':=A_ H
       clear H
       have p296:0≤(x14_1:Int):=od_
       have q296:x14_1<(l0.length:Int):=od_
       obtain⟨ad296,e296,hx296_0,hx296_1⟩:=at_T71 HR0.out x14_1 p296 q296
       cases e296
       replace hx296_0:=cl_ HB.out hx296_0
       replace hx296_1:=cl_ HB.out hx296_1
       replace p296:=eq_true p296
       replace q296:=eq_true q296
       go_wp2_with (first|((with_reducible refine gd_ 6 rfl ?_);refine bx_ #[.int .i64 0,.int .i64 0] 71 ?_;intro gb297 hg w50 hbox hb;have BK297:=A_ hbox;have GW297:=gw_ hg HB;have GE297:=GW297;replace HO_3:=A_ (Kd.R_below (kr_ HO_3.out) hb);replace HB:=bs_ HB hb;clear hb hbox hg;obtain⟨hcz51_0,hcz51_1⟩:=cs2_ BK297.out;obtain⟨hfz51_0,hfz51_1⟩:=fz2_ BK297.out;obtain⟨Ao52,co52,eo52⟩:=Kd.R_slice HO_3.out;subst eo52)|((with_reducible refine gc_ 69 rfl ?_);refine gn_ (some 27) Try.func69 (impl_opens.calls ((rd_T71 l0 x14_1).f0) false _ A14.out) ?_;intro nd))
       go_roundg k1
       case measure=>have:=HK1.out;omega
       case rel=>exact⟨(x3_1),(x4_1),(wrap64 (x14_1+1)),rs_,rs_,H',⟨by have:=HK1.out;omega⟩,⟨by (with_reducible repeat (first|apply Kd.R_alloc|apply Kd.R_drewN|apply Kd.R_drew));exact Kd.R_mono (Kd.R_far (p:=⟨gb297,1,none⟩) (Kd.R_far (p:=⟨gb297,0,none⟩) (Kd.R_types HO_3.out BK297.out (by decide)) (fun _ hk=>hk.2) (.int .i64 ((rd_T71 l0 x14_1).f0))) (fun _ hk=>hk.2) (.int .i64 ((rd_T71 l0 x14_1).f1))) (fun _ hk=>trivial)⟩,⟨bw HB.out⟩⟩
      rw[if_neg c9] at H
      exact absurd H (by simp)
     rw[if_neg c8] at H
     exact absurd H (by simp)
    rw[if_neg c7] at H
    have c7b0:=decide_eq_false c7
    clear c7
    by_cases c53:(x3_1.length:Int) > 0
    ·
     rw[if_pos c53] at H
     have c53b0:=decide_eq_true c53
     have c53b1:decide (0<x3_1.length)=true:=decide_eq_true (by omega)
     clear c53
     obtain rfl:=Option.some.inj H
     clear H
     obtain⟨Ao54,co54,eo54⟩:=Kd.R_slice HO_3.out
     subst eo54
     go_wp2
     go_ret
     exact⟨rr_,bw HB.out⟩
    rw[if_neg c53] at H
    have c53b0:=decide_eq_false c53
    have c53b1:decide (0<x3_1.length)=false:=decide_eq_false (by omega)
    clear c53
    obtain rfl:=Option.some.inj H
    clear H
    obtain⟨Ao55,co55,eo55⟩:=Kd.R_slice HO_3.out
    subst eo55
    go_wp2
    go_ret
    exact⟨rr_,bw HB.out⟩
 replace c3:=Bool.eq_false_iff.mpr c3
 subst c3
 replace H:=iF_ H
 obtain rfl:=Option.some.inj H
 clear H
 go_enter Try.func53,Try.ntmps53
 go_wp2_with (first|((with_reducible refine gc_ 68 rfl ?_);refine goesL_ (some 9) rfl rfl Try.func68 (by kernel_rfl) rfl #[.slice A0 l0.length c0] rfl ar ?_;(with_reducible refine(impl_goodCode.calls k _ _ l0 false _ ?side1 ?side2 A2.out).mono ?_);(case side1=>repeat (first|exact HR0.out|(with_reducible refine Kd.C_alloc ?_ _)|(with_reducible refine Kd.C_drewN ?_ _)|(with_reducible refine Kd.C_drew ?_)));(case side2=>exact HC0.out);rintro e w56 ⟨rfl,hb⟩;refine⟨_,rfl,?_⟩;replace HB:=bs_ HB hb;(try clear hb)))
 go_ret
 exact⟨rr_,bw HB.out⟩

/-! ### impl_goodFunc: function 33 -/
def impl_goodFunc.f (k:Nat) (l0_0:List Int) (a0_1:Int) (l0_2:List Int) (l0_3:List (S71)):Option (Bool):=(impl_goodTypes.f k l0_0 6).bind fun t308=>(if t308=true then ((impl_goodTypes.f k l0_2 20).bind fun t309=>(if t309=true then ((impl_goodType.f a0_1).bind fun t310=>(if t310=true then ((impl_deepest.f k l0_3).bind fun t311=>(some (decide (t311 > 0)))) else (if a0_1=64 then ((impl_deepest.f k l0_3).bind fun t312=>(some (decide (t312 > 0)))) else (some false)))) else (some false))) else (some false))
theorem impl_goodFunc.calls (k:Nat) (A0_0:Option Addr) (c0_0:Nat) (l0_0:List Int) (a0_1:Int) (A0_2:Option Addr) (c0_2:Nat) (l0_2:List Int) (A0_3:Option Addr) (c0_3:Nat) (l0_3:List (S71)) (r:Bool) (w:World) (hr0_0:Kd.C (Kd.int .i64) w A0_0 l0_0.length l0_0) (hc0_0:l0_0.length≤c0_0) (hr0_2:Kd.C (Kd.int .i64) w A0_2 l0_2.length l0_2) (hc0_2:l0_2.length≤c0_2) (hr0_3:Kd.C k71 w A0_3 l0_3.length l0_3) (hc0_3:l0_3.length≤c0_3) (h:impl_goodFunc.f k l0_0 a0_1 l0_2 l0_3=some r):
  Calls Try.prog 33 #[.agg #[.slice A0_0 l0_0.length c0_0,.int .i64 a0_1,.slice A0_2 l0_2.length c0_2,.slice A0_3 l0_3.length c0_3]] w fun e w'=>e=.returned (.bool r)∧Below w.heap.size w w':=by
 have hu59:=Try.underlying59
 have HR0_0:=A_ hr0_0
 have HC0_0:=A_ hc0_0
 clear hr0_0 hc0_0
 have HR0_2:=A_ hr0_2
 have HC0_2:=A_ hc0_2
 clear hr0_2 hc0_2
 have HR0_3:=A_ hr0_3
 have HC0_3:=A_ hc0_3
 clear hr0_3 hc0_3
 have HB:=A_ (Below.refl w.heap.size w)
 have H:((impl_goodTypes.f k l0_0 6).bind fun t308=>(if t308=true then ((impl_goodTypes.f k l0_2 20).bind fun t309=>(if t309=true then ((impl_goodType.f a0_1).bind fun t310=>(if t310=true then ((impl_deepest.f k l0_3).bind fun t311=>(some (decide (t311 > 0)))) else (if a0_1=64 then ((impl_deepest.f k l0_3).bind fun t312=>(some (decide (t312 > 0)))) else (some false)))) else (some false))) else (some false)))=some r:=h
 clear h
 replace H:=bi_ H
 obtain⟨t308,A20,H⟩:=H
 have A2:=A_ A20
 clear A20
 by_cases c3:t308=true
 ·
  subst c3
  replace H:=iT_ H
  replace H:=bi_ H
  obtain⟨t309,A40,H⟩:=H
  have A4:=A_ A40
  clear A40
  by_cases c5:t309=true
  ·
   subst c5
   replace H:=iT_ H
   replace H:=bi_ H
   obtain⟨t310,A60,H⟩:=H
   have A6:=A_ A60
   clear A60
   by_cases c7:t310=true
   ·
    subst c7
    replace H:=iT_ H
    replace H:=bi_ H
    obtain⟨t311,A80,H⟩:=H
    have A8:=A_ A80
    clear A80
    obtain rfl:=Option.some.inj H
    clear H
    go_enter Try.func33,Try.ntmps33
    go_wp2_with (first|((with_reducible refine gd_ 1 rfl ?_);refine bx_ #[.slice A0_0 l0_0.length c0_0,.int .i64 a0_1,.slice A0_2 l0_2.length c0_2,.slice A0_3 l0_3.length c0_3] 59 ?_;intro gb307 hg w9 hbox hb;have BK307:=A_ hbox;have GW307:=gw_ hg HB;have GE307:=GW307;replace HB:=bs_ HB hb;clear hb hbox hg;obtain⟨hcz10_0,hcz10_1,hcz10_2,hcz10_3⟩:=cs4_ BK307.out;obtain⟨hfz10_0,hfz10_1,hfz10_2,hfz10_3⟩:=fz4_ BK307.out)|((with_reducible refine gc_ 51 rfl ?_);refine gn_ (some 5) Try.func51 (impl_goodTypes.calls k _ _ l0_0 6 true _ (cb_ HR0_0 HB) HC0_0.out A2.out) ?_;intro nd)|(go_at_call 51;(with_reducible refine(impl_goodTypes.calls k _ _ l0_2 20 true _ ?side1 ?side2 A4.out).mono ?_);(case side1=>exact cb_ HR0_2 HB);(case side2=>exact HC0_2.out);rintro e w' ⟨rfl,⟨nd,rfl⟩⟩)|(go_at_call 52;(with_reducible refine(impl_goodType.calls a0_1 true _ A6.out).mono ?_);rintro e w' ⟨rfl,⟨nd,rfl⟩⟩)|(go_at_call 53;(with_reducible refine(impl_deepest.calls k _ _ l0_3 t311 _ ?side1 ?side2 A8.out).mono ?_);(case side1=>exact cb_ HR0_3 HB);(case side2=>exact HC0_3.out);rintro e w11 ⟨rfl,hb⟩;replace BK307:=kb_ BK307 hb;replace HB:=bs_ HB hb;(try clear hb);(try clear hb2);(try clear hk);(try clear hi)))
    go_ret
    exact⟨rr_,bw HB.out⟩
   replace c7:=Bool.eq_false_iff.mpr c7
   subst c7
   replace H:=iF_ H
   by_cases c12:a0_1=64
   ·
    rw[if_pos c12] at H
    obtain⟨c12b0,c12b1⟩:=eT_ c12
    clear c12
    replace H:=bi_ H
    obtain⟨t312,A130,H⟩:=H
    have A13:=A_ A130
    clear A130
    obtain rfl:=Option.some.inj H
    clear H
    go_enter Try.func33,Try.ntmps33
    go_wp2_with (first|((with_reducible refine gd_ 1 rfl ?_);refine bx_ #[.slice A0_0 l0_0.length c0_0,.int .i64 a0_1,.slice A0_2 l0_2.length c0_2,.slice A0_3 l0_3.length c0_3] 59 ?_;intro gb307 hg w14 hbox hb;have BK307:=A_ hbox;have GW307:=gw_ hg HB;have GE307:=GW307;replace HB:=bs_ HB hb;clear hb hbox hg;obtain⟨hcz15_0,hcz15_1,hcz15_2,hcz15_3⟩:=cs4_ BK307.out;obtain⟨hfz15_0,hfz15_1,hfz15_2,hfz15_3⟩:=fz4_ BK307.out)|((with_reducible refine gc_ 51 rfl ?_);refine gn_ (some 5) Try.func51 (impl_goodTypes.calls k _ _ l0_0 6 true _ (cb_ HR0_0 HB) HC0_0.out A2.out) ?_;intro nd)|(go_at_call 51;(with_reducible refine(impl_goodTypes.calls k _ _ l0_2 20 true _ ?side1 ?side2 A4.out).mono ?_);(case side1=>exact cb_ HR0_2 HB);(case side2=>exact HC0_2.out);rintro e w' ⟨rfl,⟨nd,rfl⟩⟩)|(go_at_call 52;(with_reducible refine(impl_goodType.calls a0_1 false _ A6.out).mono ?_);rintro e w' ⟨rfl,⟨nd,rfl⟩⟩)|(go_at_call 53;(with_reducible refine(impl_deepest.calls k _ _ l0_3 t312 _ ?side1 ?side2 A13.out).mono ?_);(case side1=>exact cb_ HR0_3 HB);(case side2=>exact HC0_3.out);rintro e w16 ⟨rfl,hb⟩;replace BK307:=kb_ BK307 hb;replace HB:=bs_ HB hb;(try clear hb);(try clear hb2);(try clear hk);(try clear hi)))
    go_ret
    exact⟨rr_,bw HB.out⟩
   rw[if_neg c12] at H
   obtain⟨c12b0,c12b1⟩:=eF_ c12
   obtain rfl:=Option.some.inj H
   clear H
   go_enter Try.func33,Try.ntmps33
   go_wp2_with (first|((with_reducible refine gd_ 1 rfl ?_);refine bx_ #[.slice A0_0 l0_0.length c0_0,.int .i64 a0_1,.slice A0_2 l0_2.length c0_2,.slice A0_3 l0_3.length c0_3] 59 ?_;intro gb307 hg w17 hbox hb;have BK307:=A_ hbox;have GW307:=gw_ hg HB;have GE307:=GW307;replace HB:=bs_ HB hb;clear hb hbox hg;obtain⟨hcz18_0,hcz18_1,hcz18_2,hcz18_3⟩:=cs4_ BK307.out;obtain⟨hfz18_0,hfz18_1,hfz18_2,hfz18_3⟩:=fz4_ BK307.out)|((with_reducible refine gc_ 51 rfl ?_);refine gn_ (some 5) Try.func51 (impl_goodTypes.calls k _ _ l0_0 6 true _ (cb_ HR0_0 HB) HC0_0.out A2.out) ?_;intro nd)|(go_at_call 51;(with_reducible refine(impl_goodTypes.calls k _ _ l0_2 20 true _ ?side1 ?side2 A4.out).mono ?_);(case side1=>exact cb_ HR0_2 HB);(case side2=>exact HC0_2.out);rintro e w' ⟨rfl,⟨nd,rfl⟩⟩)|(go_at_call 52;(with_reducible refine(impl_goodType.calls a0_1 false _ A6.out).mono ?_);rintro e w' ⟨rfl,⟨nd,rfl⟩⟩))
   go_ret
   exact⟨rr_,bw HB.out⟩
  replace c5:=Bool.eq_false_iff.mpr c5
  subst c5
  replace H:=iF_ H
  obtain rfl:=Option.some.inj H
  clear H
  go_enter Try.func33,Try.ntmps33
  go_wp2_with (first|((with_reducible refine gd_ 1 rfl ?_);refine bx_ #[.slice A0_0 l0_0.length c0_0,.int .i64 a0_1,.slice A0_2 l0_2.length c0_2,.slice A0_3 l0_3.length c0_3] 59 ?_;intro gb307 hg w19 hbox hb;have BK307:=A_ hbox;have GW307:=gw_ hg HB;have GE307:=GW307;replace HB:=bs_ HB hb;clear hb hbox hg;obtain⟨hcz20_0,hcz20_1,hcz20_2,hcz20_3⟩:=cs4_ BK307.out;obtain⟨hfz20_0,hfz20_1,hfz20_2,hfz20_3⟩:=fz4_ BK307.out)|((with_reducible refine gc_ 51 rfl ?_);refine gn_ (some 5) Try.func51 (impl_goodTypes.calls k _ _ l0_0 6 true _ (cb_ HR0_0 HB) HC0_0.out A2.out) ?_;intro nd)|(go_at_call 51;(with_reducible refine(impl_goodTypes.calls k _ _ l0_2 20 false _ ?side1 ?side2 A4.out).mono ?_);(case side1=>exact cb_ HR0_2 HB);(case side2=>exact HC0_2.out);rintro e w' ⟨rfl,⟨nd,rfl⟩⟩))
  go_ret
  exact⟨rr_,bw HB.out⟩
 replace c3:=Bool.eq_false_iff.mpr c3
 subst c3
 replace H:=iF_ H
 obtain rfl:=Option.some.inj H
 clear H
 go_enter Try.func33,Try.ntmps33
 go_wp2_with (first|((with_reducible refine gd_ 1 rfl ?_);refine bx_ #[.slice A0_0 l0_0.length c0_0,.int .i64 a0_1,.slice A0_2 l0_2.length c0_2,.slice A0_3 l0_3.length c0_3] 59 ?_;intro gb307 hg w21 hbox hb;have BK307:=A_ hbox;have GW307:=gw_ hg HB;have GE307:=GW307;replace HB:=bs_ HB hb;clear hb hbox hg;obtain⟨hcz22_0,hcz22_1,hcz22_2,hcz22_3⟩:=cs4_ BK307.out;obtain⟨hfz22_0,hfz22_1,hfz22_2,hfz22_3⟩:=fz4_ BK307.out)|((with_reducible refine gc_ 51 rfl ?_);refine gn_ (some 5) Try.func51 (impl_goodTypes.calls k _ _ l0_0 6 false _ (cb_ HR0_0 HB) HC0_0.out A2.out) ?_;intro nd))
 go_ret
 exact⟨rr_,bw HB.out⟩

/-! ### impl_goodGlobal: function 34 -/
def impl_goodGlobal.f (a0_0:Int) (a0_1:Bool) (a0_2:Int):Option (Bool):=(impl_goodType.f a0_0).bind fun t314=>(if t314=true then (if a0_0=126 then (some true) else (some (decide (a0_2<4294967296)))) else (some false))
theorem impl_goodGlobal.calls (a0_0:Int) (a0_1:Bool) (a0_2:Int) (r:Bool) (w:World) (h:impl_goodGlobal.f a0_0 a0_1 a0_2=some r):
  Calls Try.prog 34 #[.agg #[.int .i64 a0_0,.bool a0_1,.int .u64 a0_2]] w fun e w'=>e=.returned (.bool r)∧Below w.heap.size w w':=by
 have hu63:=Try.underlying63
 have HB:=A_ (Below.refl w.heap.size w)
 have H:((impl_goodType.f a0_0).bind fun t314=>(if t314=true then (if a0_0=126 then (some true) else (some (decide (a0_2<4294967296)))) else (some false)))=some r:=h
 clear h
 replace H:=bi_ H
 obtain⟨t314,A20,H⟩:=H
 have A2:=A_ A20
 clear A20
 by_cases c3:t314=true
 ·
  subst c3
  replace H:=iT_ H
  by_cases c4:a0_0=126
  ·
   rw[if_pos c4] at H
   obtain⟨c4b0,c4b1⟩:=eT_ c4
   clear c4
   obtain rfl:=Option.some.inj H
   clear H
   go_enter Try.func34,Try.ntmps34
   go_wp2_with (first|((with_reducible refine gd_ 1 rfl ?_);refine bx_ #[.int .i64 a0_0,.bool a0_1,.int .u64 a0_2] 63 ?_;intro gb313 hg w5 hbox hb;have BK313:=A_ hbox;have GW313:=gw_ hg HB;have GE313:=GW313;replace HB:=bs_ HB hb;clear hb hbox hg;obtain⟨hcz6_0,hcz6_1,hcz6_2⟩:=cs3_ BK313.out;obtain⟨hfz6_0,hfz6_1,hfz6_2⟩:=fz3_ BK313.out)|((with_reducible refine gc_ 52 rfl ?_);refine gn_ (some 5) Try.func52 (impl_goodType.calls a0_0 true _ A2.out) ?_;intro nd))
   go_ret
   exact⟨rr_,bw HB.out⟩
  rw[if_neg c4] at H
  obtain⟨c4b0,c4b1⟩:=eF_ c4
  obtain rfl:=Option.some.inj H
  clear H
  go_enter Try.func34,Try.ntmps34
  go_wp2_with (first|((with_reducible refine gd_ 1 rfl ?_);refine bx_ #[.int .i64 a0_0,.bool a0_1,.int .u64 a0_2] 63 ?_;intro gb313 hg w7 hbox hb;have BK313:=A_ hbox;have GW313:=gw_ hg HB;have GE313:=GW313;replace HB:=bs_ HB hb;clear hb hbox hg;obtain⟨hcz8_0,hcz8_1,hcz8_2⟩:=cs3_ BK313.out;obtain⟨hfz8_0,hfz8_1,hfz8_2⟩:=fz3_ BK313.out)|((with_reducible refine gc_ 52 rfl ?_);refine gn_ (some 5) Try.func52 (impl_goodType.calls a0_0 true _ A2.out) ?_;intro nd))
  go_ret
  exact⟨rr_,bw HB.out⟩
 replace c3:=Bool.eq_false_iff.mpr c3
 subst c3
 replace H:=iF_ H
 obtain rfl:=Option.some.inj H
 clear H
 go_enter Try.func34,Try.ntmps34
 go_wp2_with (first|((with_reducible refine gd_ 1 rfl ?_);refine bx_ #[.int .i64 a0_0,.bool a0_1,.int .u64 a0_2] 63 ?_;intro gb313 hg w9 hbox hb;have BK313:=A_ hbox;have GW313:=gw_ hg HB;have GE313:=GW313;replace HB:=bs_ HB hb;clear hb hbox hg;obtain⟨hcz10_0,hcz10_1,hcz10_2⟩:=cs3_ BK313.out;obtain⟨hfz10_0,hfz10_1,hfz10_2⟩:=fz3_ BK313.out)|((with_reducible refine gc_ 52 rfl ?_);refine gn_ (some 5) Try.func52 (impl_goodType.calls a0_0 false _ A2.out) ?_;intro nd))
 go_ret
 exact⟨rr_,bw HB.out⟩

end Go.Proofs.Ytghogonibanieaa.Q

