-- Written by a program of this session; it walks the functions that the law reaches.
import Derived.Test.YtanhbfhmgmjdgaaQx0
import Derived.Test.YtanhbfhmgmjdgaaQx2
namespace Go.Proofs.Ytanhbfhmgmjdgaa.Q
open Go.RowKit Go.Proofs.YtanhbfhmgmjdgaaW.PrintWords Go.Proofs.YtanhbfhmgmjdgaaW.PrintLast Go.Proofs.YtanhbfhmgmjdgaaW.PrintMore
attribute [local go_sem] max2_int min2_int max_two min_two max_three min_three max_four min_four   -- for this text's walks alone
set_option linter.unusedVariables false
set_option linter.unusedSimpArgs false

/-! ### spec_l6Ends: function 71 -/
mutual
def spec_l6Ends.j0:Nat→List (S103)→Bool→Option (List Int × Int × Bool)
 |0,_,_=>none
 |k+1,x0,x22=>if x22=true then (some (([]:List Int),0,false)) else (if 0≤(x0.length:Int) then (if ((x0.length:Int):Int).toNat≤35184372088832 then (if ([]:List (List Int)).length<5864062014805 then (spec_l6Ends.l0 k (List.replicate ((x0.length:Int):Int).toNat 0) 1 (([(-1)]:List Int)) (([true]:List Bool)) (([]:List (List Int))++[[]]) x0 (x0.length:Int) 0) else (none)) else (none)) else (none))
def spec_l6Ends.l0:Nat→List Int→Int→List Int→List Bool→List (List Int)→List (S103)→Int→Int→Option (List Int × Int × Bool)
 |0,_,_,_,_,_,_,_,_=>none
 |k+1,x5,x6,x7,x8,x9,x31,x32,x33=>if x33<x32 then (if 0≤x33 then (if x33<(x31.length:Int) then (if (wrap64 ((x7.length:Int) - 1))<0 then (some (([]:List Int),0,false)) else (if ((rd_T103 x31 x33).f0)=2 then (spec_l6Ends.j2 k x5 x6 x7 x8 x9 x33 (wrap64 ((x7.length:Int) - 1)) x31 x32 x33 ((rd_T103 x31 x33).f0) (((rd_T103 x31 x33).f0)==2) ((rd_T103 x31 x33).f0) ((rd_T103 x31 x33).f1)) else (if ((rd_T103 x31 x33).f0)=3 then (spec_l6Ends.j2 k x5 x6 x7 x8 x9 x33 (wrap64 ((x7.length:Int) - 1)) x31 x32 x33 ((rd_T103 x31 x33).f0) (((rd_T103 x31 x33).f0)==3) ((rd_T103 x31 x33).f0) ((rd_T103 x31 x33).f1)) else (spec_l6Ends.j2 k x5 x6 x7 x8 x9 x33 (wrap64 ((x7.length:Int) - 1)) x31 x32 x33 ((rd_T103 x31 x33).f0) (((rd_T103 x31 x33).f0)==4) ((rd_T103 x31 x33).f0) ((rd_T103 x31 x33).f1))))) else (none)) else (none)) else (some (x5,x6,((x7.length:Int)==0)))
def spec_l6Ends.j3:Nat→List Int→Int→List Int→List Bool→List (List Int)→Int→Int→List (S103)→Int→Int→Int→Int→Option (List Int × Int × Bool)
 |0,_,_,_,_,_,_,_,_,_,_,_,_=>none
 |k+1,x5,x6,x7,x8,x9,x10,x12,x31,x32,x33,x146000,x146001=>if 0≤x12 then (if x12<(x9.length:Int) then (if (rd_L2 x9 x12).length<17592186044416 then ((some (x9.set (x12:Int).toNat ((rd_L2 x9 x12)++[x10]):List (List Int))).bind fun y164=>(if x146000=11 then (spec_l6Ends.l1 k x5 x6 x7 x8 y164 x10 x12 x31 x32 x33 (rd_L2 y164 x12) ((rd_L2 y164 x12).length:Int) 0) else (spec_l6Ends.l0 k x5 x6 x7 x8 y164 x31 x32 (wrap64 (x33+1))))) else (none)) else (none)) else (none)
def spec_l6Ends.l1:Nat→List Int→Int→List Int→List Bool→List (List Int)→Int→Int→List (S103)→Int→Int→List Int→Int→Int→Option (List Int × Int × Bool)
 |0,_,_,_,_,_,_,_,_,_,_,_,_,_=>none
 |k+1,x5,x6,x7,x8,x9,x10,x12,x31,x32,x33,x95,x96,x97=>if x97<x96 then (if 0≤x97 then (if x97<(x95.length:Int) then (if 0≤(rd x95 x97) then (if (rd x95 x97)<(x5.length:Int) then (spec_l6Ends.l1 k (x5.set ((rd x95 x97):Int).toNat x10) x6 x7 x8 x9 x10 x12 x31 x32 x33 x95 x96 (wrap64 (x97+1))) else (none)) else (none)) else (none)) else (none)) else (if 0≤x12 then (if x12≤(x7.length:Int) then (if x12≤(x8.length:Int) then (if x12≤(x9.length:Int) then (spec_l6Ends.l0 k x5 x6 (x7.take (x12:Int).toNat) (x8.take (x12:Int).toNat) (x9.take (x12:Int).toNat) x31 x32 (wrap64 (x33+1))) else (none)) else (none)) else (none)) else (none))
def spec_l6Ends.j2:Nat→List Int→Int→List Int→List Bool→List (List Int)→Int→Int→List (S103)→Int→Int→Int→Bool→Int→Int→Option (List Int × Int × Bool)
 |0,_,_,_,_,_,_,_,_,_,_,_,_,_,_=>none
 |k+1,x5,x6,x7,x8,x9,x10,x12,x31,x32,x33,x44,x45,x146000,x146001=>if x45=true then (if x7.length<17592186044416 then ((some (x7++[x10]:List Int)).bind fun y146=>(if x8.length<140737488355328 then ((some (x8++[(x146000 !=4)]:List Bool)).bind fun y149=>(if x9.length<5864062014805 then ((some (x9++[(([x10]:List Int))]:List (List Int))).bind fun y155=>(if (y146.length:Int) > x6 then (spec_l6Ends.l0 k x5 (y146.length:Int) y146 y149 y155 x31 x32 (wrap64 (x33+1))) else (spec_l6Ends.l0 k x5 x6 y146 y149 y155 x31 x32 (wrap64 (x33+1))))) else (none))) else (none))) else (none)) else (if x44=5 then (if 0≤x12 then (if x12<(x8.length:Int) then (if rdOf false x8 x12=true then (some (([]:List Int),0,false)) else (spec_l6Ends.j3 k x5 x6 x7 (x8.set (x12:Int).toNat true) x9 x10 x12 x31 x32 x33 x146000 x146001)) else (none)) else (none)) else (spec_l6Ends.j3 k x5 x6 x7 x8 x9 x10 x12 x31 x32 x33 x146000 x146001))
end
def spec_l6Ends.f (k:Nat) (l0:List (S103)):Option (List Int × Int × Bool):=(spec_l6Good.f k l0).bind fun t131=>(if t131=true then (spec_l6Ends.j0 k l0 ((l0.length:Int)==0)) else (spec_l6Ends.j0 k l0 true))
set_option maxHeartbeats 8000000 in
set_option maxRecDepth 100000 in
theorem spec_l6Ends.calls (k:Nat) (A0:Option Addr) (c0:Nat) (l0:List (S103)) (r1:List Int) (r2:Int) (r3:Bool) (w:World) (hr0:Kd.C k103 w A0 l0.length l0) (hc0:l0.length≤c0) (h:spec_l6Ends.f k l0=some (r1,r2,r3)):
  Calls Try.prog 71 #[.slice A0 l0.length c0] w fun e w'=>∃ v0_:Value,e=.returned (.tuple #[v0_,.int .i64 r2,.bool r3])∧Kd.R (Kd.int .i64) 3 w' w.heap.size (fun _=>True) v0_ r1∧Below w.heap.size w w':=by
 have hu103:=Try.underlying103
 have HR0:=A_ hr0
 have HC0:=A_ hc0
 clear hr0 hc0
 have HB:=A_ (Below.refl w.heap.size w)
 have H:((spec_l6Good.f k l0).bind fun t131=>(if t131=true then (spec_l6Ends.j0 k l0 ((l0.length:Int)==0)) else (spec_l6Ends.j0 k l0 true)))=some (r1,r2,r3):=h
 clear h
 have HC2:=A_ H
 clear H
 go_enter Try.func71,Try.ntmps71
 go_upto_region 1 with (fail)
 go_cut [22] (fun v22 wc=>∃ (kq:Nat) (x22_1:Bool),v22=.bool x22_1∧Aside0 (spec_l6Ends.j0 kq l0 x22_1=some (r1,r2,r3))∧Aside0 (kq≤k)∧Aside0 (Below w.heap.size w wc))
 case first=>
  have H:=HC2.out
  clear HC2
  replace H:=bA_ H
  obtain⟨t131,A3,H⟩:=H
  revert H
  refine iB_ (fun c4 H=>?_) (fun c4 H=>?_)<;>subst c4
  ·
   have H':=A_ H
   clear H
   go_wp2_with (first|((with_reducible refine gc_ 93 rfl ?_);refine gm_ (some 16) Try.func93 (spec_l6Good.calls k _ _ l0 true _ (cb_ HR0 HB) HC0.out A3.out) ?_;intro w5 hb;replace HB:=bs_ HB hb;(try clear hb)))
   go_meet
   case rel=>exact⟨_,(((l0.length:Int)==0)),rs_,H',⟨by first|omega|exact Nat.le_refl _⟩,⟨bw HB.out⟩⟩
  have H':=A_ H
  clear H
  go_wp2_with (first|((with_reducible refine gc_ 93 rfl ?_);refine gm_ (some 16) Try.func93 (spec_l6Good.calls k _ _ l0 false _ (cb_ HR0 HB) HC0.out A3.out) ?_;intro w6 hb;replace HB:=bs_ HB hb;(try clear hb)))
  go_meet
  case rel=>exact⟨_,(true),rs_,H',⟨by first|omega|exact Nat.le_refl _⟩,⟨bw HB.out⟩⟩
 case rest=>
  clear HC2
  obtain⟨kq,x22_1,rfl,HA,HJ1,HB⟩:=hcut
  cases kq with
  |zero=>exact absurd HA.out (by simp[spec_l6Ends.j0])
  |succ kj1=>
   have H:=HA.out
   clear HA
   simp only[spec_l6Ends.j0] at H
   revert H
   refine iB_ (fun c7 H=>?_) (fun c7 H=>?_)<;>subst c7
   ·
    simp only[Option.some.injEq,Prod.mk.injEq] at H
    obtain⟨rfl,rfl,rfl⟩:=H
    go_wp2
    go_ret3
    exact⟨_,rr_,by first|exact Kd.R_nil _ _ _ _ _|exact Kd.N_nil _ _ _ _ _|exact Kd.V_nil _ _ _ _ _|exact Kd.Q_nil _ _ _ _ _|exact Kd.S_nil _ _ _ _ _,bw HB.out⟩
   replace H:=iq_ H
   obtain⟨c8b0,c8b1,H⟩:=H
   replace H:=iq_ H
   obtain⟨c9b0,c9b1,H⟩:=H
   obtain⟨y132,hy132⟩:∃ y_:List Int,y_=(List.replicate ((l0.length:Int):Int).toNat 0):=⟨_,rfl⟩
   rw[←hy132] at H
   have Ny132:=A_ hy132
   clear hy132
   obtain⟨y135,hy135⟩:∃ y_:List Int,y_=(([(-1)]:List Int)):=⟨_,rfl⟩
   rw[←hy135] at H
   have Ny135:=A_ hy135
   clear hy135
   obtain⟨y138,hy138⟩:∃ y_:List Bool,y_=(([true]:List Bool)):=⟨_,rfl⟩
   rw[←hy138] at H
   have Ny138:=A_ hy138
   clear hy138
   replace H:=im_ H
   obtain⟨LMc10,H⟩:=H
   obtain⟨y141,hy141⟩:∃ y_:List (List Int),y_=(([]:List (List Int))++[[]]):=⟨_,rfl⟩
   rw[←hy141] at H
   have Ny141:=A_ hy141
   clear hy141
   have H':=A_ H
   clear H
   go_wp2_with (first|((with_reducible refine gd_ 25 rfl ?_);(try (refine gate_guard (by rfl) ?_;dsimp only));refine Kd.R_make (Kd.int .i64) _ 3 rfl (N:=25) rfl 81 _ _ rfl (l0.length:Int) rfl rfl Try.underlying81 (.int .i64 0) 8 info3 rfl (by decide) (by omega) 0 (ok:=fun _=>True) (okp:=fun _=>True) rfl (fun _ hk=>hk) trivial (od_) (Nat.le_trans (Nat.mul_le_mul_right _ (od_:(l0.length:Int).toNat≤35184372088832)) (by omega)) (Below.refl _ _) (Nat.le_refl _) ?_;intro v133 w11 ho12 hb hg_ hnew_;clear hg_ hnew_;(first|rw[←Ny132.out] at ho12|(simp only[Int.reduceToNat] at ho12;rw[←Ny132.out] at ho12));have HO134:=A_ (Kd.R_lower ho12 (below_size (bw HB.out)));replace HB:=bs_ HB hb;clear hb ho12)|((with_reducible refine gd_ 26 rfl ?_);(try (refine gate_guard (by rfl) ?_;dsimp only));refine Kd.R_lit (Kd.int .i64) _ 3 ?hg (N:=26) ?hd (xs:=([(-1)]:List Int)) (inner:=[.int .i64 (-1)]) (ok:=fun _=>True) (okp:=fun _=>True) ?hr ?hp (fun _ hk=>hk) trivial (Below.refl _ _) (Nat.le_refl _) (by simp) ?_;(case hd=>rfl);(case hg=>rfl);(case hr=>first|(go_simp;done)|(go_simp;rfl));(case hp=>exact(Reps.one (show Kd.M (Kd.int .i64) _ _ _ (-1) [.int .i64 (-1)] from rfl) (Reps.none _ _)));intro v136 w13 ho14 hb hg_ hnew_;clear hg_ hnew_;(first|rw[←Ny135.out] at ho14|(simp only[Int.reduceToNat] at ho14;rw[←Ny135.out] at ho14));have HO137:=A_ (Kd.R_lower (Kd.R_new' ho14 (Kd.R_lt (kr_ HO134.out))) (below_size (bw HB.out)));replace HO134:=A_ (Kd.R_elder' (kr_ HO134.out) (Kd.R_base ho14) hb);replace HB:=bs_ HB hb;clear hb ho14)|((with_reducible refine gd_ 27 rfl ?_);(try (refine gate_guard (by rfl) ?_;dsimp only));refine Kd.R_lit Kd.bool _ 4 ?hg (N:=27) ?hd (xs:=([true]:List Bool)) (inner:=[.bool true]) (ok:=fun _=>True) (okp:=fun _=>True) ?hr ?hp (fun _ hk=>hk) trivial (Below.refl _ _) (Nat.le_refl _) (by simp) ?_;(case hd=>rfl);(case hg=>rfl);(case hr=>first|(go_simp;done)|(go_simp;rfl));(case hp=>exact(Reps.one (show Kd.M Kd.bool _ _ _ true [.bool true] from rfl) (Reps.none _ _)));intro v139 w15 ho16 hb hg_ hnew_;clear hg_ hnew_;(first|rw[←Ny138.out] at ho16|(simp only[Int.reduceToNat] at ho16;rw[←Ny138.out] at ho16));have HO140:=A_ (Kd.R_lower ho16 (below_size (bw HB.out)));replace HO134:=A_ (Kd.R_below (kr_ HO134.out) hb);replace HO137:=A_ (Kd.R_below (kr_ HO137.out) hb);replace HB:=bs_ HB hb;clear hb ho16)|((with_reducible refine gate_builtin (b:=.append) (xs:=#[.tmp 28,.tmp 29]) rfl ?_);(try (refine gate_guard (by rfl) ?_;dsimp only));at_builtin;refine Kd.S_append (Kd.slice 3 (Kd.int .i64)) (w0:=w) w.heap.size rfl (.tmp 28) (.tmp 29) 142 81 (.slice none 0 0) 24 rfl Try.underlying142 info81 rfl (by decide) (by omega) (.slice none 0 0) ([]:List (List Int)) [] [.slice none 0 0] (fun k_=>some k_≠(v133:Value).ownBlock∧some k_≠(v136:Value).ownBlock) (fun _=>False) rfl rfl ?aP (fun _ hk=>hk.elim) ?aF ?aO ?aB ?aS ?aL ?_;(case aP=>exact⟨_,rfl,Kd.R_nil _ _ _ _ _⟩);(case aB=>exact(bw HB.out));(case aF=>exact(fun k_ hk=>⟨Kd.fresh' (Kd.R_lt (kr_ HO134.out)) k_ hk,Kd.fresh' (Kd.R_lt (kr_ HO137.out)) k_ hk⟩));(case aO=>exact((Kd.S_nil _ _ _ _ _)));(case aS=>exact(below_size (bw HB.out)));(case aL=>have:=LMc10.out;omega);intro v142 w17 ho hb hg hat;rw[←Ny141.out] at ho;have HO143:=A_ (ho);replace HO134:=A_ (Kd.R_grown (kr_ HO134.out) hg (fun _ _=>by simp[Value.ownBlock]));replace HO137:=A_ (Kd.R_grown (kr_ HO137.out) hg (fun _ _=>by simp[Value.ownBlock]));replace HO140:=A_ (Kd.R_grown (kr_ HO140.out) hg (fun _ _=>by simp[Value.ownBlock]));replace HB:=A_ (hb);clear ho hb hg hat))
   (try simp only[Act.put,List.setIfInBounds_toArray,List.set_cons_zero,List.set_cons_succ])
   go_loopg [6,7,8,9,33] kj1 (fun kq v6 v7 v8 v9 v33 w'=>∃ (x5_2:List Int) (x6_2:Int) (x7_2:List Int) (x8_2:List Bool) (x9_2:List (List Int)) (x33_2:Int),v6=.int .i64 x6_2∧v33=.int .i64 x33_2∧Aside0 (spec_l6Ends.l0 kq x5_2 x6_2 x7_2 x8_2 x9_2 l0 (l0.length:Int) x33_2=some (r1,r2,r3))∧Aside0 (kq≤kj1)∧Aside0 (Kd.R (Kd.int .i64) 3 w' w.heap.size (fun k_=>some k_≠(v7:Value).ownBlock) v133 x5_2)∧Aside0 (Kd.R (Kd.int .i64) 3 w' w.heap.size (fun k_=>some k_≠(v133:Value).ownBlock) v7 x7_2)∧Aside0 (Kd.R Kd.bool 4 w' w.heap.size (fun _=>True) v8 x8_2)∧Aside0 (Kd.S (Kd.slice 3 (Kd.int .i64)) 81 w' w.heap.size (fun k_=>some k_≠(v133:Value).ownBlock∧some k_≠(v7:Value).ownBlock) v9 x9_2)∧Aside0 (Below w.heap.size w w'))
   case atStart=>exact⟨(y132),(1),(y135),(y138),(y141),(0),rs_,rs_,H',⟨Nat.le_refl _⟩,⟨by (with_reducible repeat (first|apply Kd.R_alloc|apply Kd.R_drewN|apply Kd.R_drew));exact Kd.R_mono HO134.out (fun _ hk=>hk.2)⟩,⟨by (with_reducible repeat (first|apply Kd.R_alloc|apply Kd.R_drewN|apply Kd.R_drew));exact Kd.R_mono HO137.out (fun _ hk=>hk.2)⟩,⟨kr_ HO140.out⟩,⟨ks_ HO143.out⟩,⟨bw HB.out⟩⟩
   case round=>
    clear H'
    try clear c7 c8 c8b0 c8b1 c9 c9b0 c9b1 c10
    obtain⟨x5_2,x6_2,x7_2,x8_2,x9_2,x33_2,rfl,rfl,HA,HK2,HO_5,HO_7,HO_8,HO_9,HB⟩:=hrel
    cases gk with
    |zero=>exact absurd HA.out (by simp[spec_l6Ends.l0])
    |succ k2=>
     have H:=HA.out
     clear HA
     simp only[spec_l6Ends.l0] at H
     revert H
     refine iL_ (fun c18b0 H=>?_) (fun c18b0 H=>?_)
     ·
      replace H:=id_ H
      obtain⟨c19b0,H⟩:=H
      replace H:=id_ H
      obtain⟨c20b0,H⟩:=H
      revert H
      refine iL_ (fun c21b0 H=>?_) (fun c21b0 H=>?_)
      ·
       simp only[Option.some.injEq,Prod.mk.injEq] at H
       obtain⟨rfl,rfl,rfl⟩:=H
       have p144:0≤(x33_2:Int):=od_
       have q144:x33_2<(l0.length:Int):=od_
       obtain⟨ad144,e144,hx144_0,hx144_1⟩:=at_T103 HR0.out x33_2 p144 q144
       cases e144
       replace hx144_0:=cl_ HB.out hx144_0
       replace hx144_1:=cl_ HB.out hx144_1
       replace p144:=eq_true p144
       replace q144:=eq_true q144
       go_wp2_with (first|((with_reducible refine gd_ 11 rfl ?_);(try (refine gate_guard (by rfl) ?_;dsimp only));refine bx_ #[.int .i64 0,.int .i64 0] 103 ?_;intro gb145 hg w22 hbox hb;have BK145:=A_ hbox;have GW145:=gw_ hg HB;have GE145:=GW145;replace HO_5:=A_ (Kd.R_below (kr_ HO_5.out) hb);replace HO_7:=A_ (Kd.R_below (kr_ HO_7.out) hb);replace HO_8:=A_ (Kd.R_below (kr_ HO_8.out) hb);replace HO_9:=A_ (Kd.S_below (ks_ HO_9.out) hb);replace HB:=bs_ HB hb;clear hb hbox hg;obtain⟨hcz23_0,hcz23_1⟩:=cs2_ BK145.out;obtain⟨hfz23_0,hfz23_1⟩:=fz2_ BK145.out;obtain⟨Ao24,co24,eo24⟩:=Kd.R_slice HO_7.out;subst eo24))
       go_ret3
       exact⟨_,rr_,by first|exact Kd.R_nil _ _ _ _ _|exact Kd.N_nil _ _ _ _ _|exact Kd.V_nil _ _ _ _ _|exact Kd.Q_nil _ _ _ _ _|exact Kd.S_nil _ _ _ _ _,bw HB.out⟩
      have HC25:=A_ H
      clear H
      have p144:0≤(x33_2:Int):=od_
      have q144:x33_2<(l0.length:Int):=od_
      obtain⟨ad144,e144,hx144_0,hx144_1⟩:=at_T103 HR0.out x33_2 p144 q144
      cases e144
      replace hx144_0:=cl_ HB.out hx144_0
      replace hx144_1:=cl_ HB.out hx144_1
      replace p144:=eq_true p144
      replace q144:=eq_true q144
      go_upto_block 2 with (first|((with_reducible refine gd_ 11 rfl ?_);(try (refine gate_guard (by rfl) ?_;dsimp only));refine bx_ #[.int .i64 0,.int .i64 0] 103 ?_;intro gb145 hg w26 hbox hb;have BK145:=A_ hbox;have GW145:=gw_ hg HB;have GE145:=GW145;replace HO_5:=A_ (Kd.R_below (kr_ HO_5.out) hb);replace HO_7:=A_ (Kd.R_below (kr_ HO_7.out) hb);replace HO_8:=A_ (Kd.R_below (kr_ HO_8.out) hb);replace HO_9:=A_ (Kd.S_below (ks_ HO_9.out) hb);replace HB:=bs_ HB hb;clear hb hbox hg;obtain⟨hcz27_0,hcz27_1⟩:=cs2_ BK145.out;obtain⟨hfz27_0,hfz27_1⟩:=fz2_ BK145.out;obtain⟨Ao28,co28,eo28⟩:=Kd.R_slice HO_7.out;subst eo28))
      (try simp only[Act.put,List.setIfInBounds_toArray,List.set_cons_zero,List.set_cons_succ])
      go_cut [6,7,8,9] (fun v6 v7 v8 v9 wc=>∃ (kq:Nat) (x6_24:Int) (x7_24:List Int) (x8_24:List Bool) (x9_24:List (List Int)),v6=.int .i64 x6_24∧Aside0 (spec_l6Ends.j3 kq x5_2 x6_24 x7_24 x8_24 x9_24 x33_2 (wrap64 ((x7_2.length:Int) - 1)) l0 (l0.length:Int) x33_2 ((rd_T103 l0 x33_2).f0) ((rd_T103 l0 x33_2).f1)=some (r1,r2,r3))∧Aside0 (kq≤k2)∧Aside0 (Kd.R (Kd.int .i64) 3 wc w.heap.size (fun k_=>some k_≠(v7:Value).ownBlock) v133 x5_2)∧Aside0 (Kd.R (Kd.int .i64) 3 wc w.heap.size (fun k_=>some k_≠(v133:Value).ownBlock) v7 x7_24)∧Aside0 (Kd.R Kd.bool 4 wc w.heap.size (fun _=>True) v8 x8_24)∧Aside0 (Kd.S (Kd.slice 3 (Kd.int .i64)) 81 wc w.heap.size (fun k_=>some k_≠(v133:Value).ownBlock∧some k_≠(v7:Value).ownBlock) v9 x9_24)∧Aside0 (wc.heap[gb145]? =some (.cells #[.int .i64 ((rd_T103 l0 x33_2).f0),.int .i64 ((rd_T103 l0 x33_2).f1)] 103 (0,0)))∧Aside0 (Below w.heap.size w wc))
      case first=>
       have H:=HC25.out
       clear HC25
       have HC29:=A_ H
       clear H
       go_upto_if 45 with (fail)
       go_cut [45] (fun v45 wc=>∃ (kq:Nat) (x45_28:Bool),v45=.bool x45_28∧Aside0 (spec_l6Ends.j2 kq x5_2 x6_2 x7_2 x8_2 x9_2 x33_2 (wrap64 ((x7_2.length:Int) - 1)) l0 (l0.length:Int) x33_2 ((rd_T103 l0 x33_2).f0) x45_28 ((rd_T103 l0 x33_2).f0) ((rd_T103 l0 x33_2).f1)=some (r1,r2,r3))∧Aside0 (kq≤k2)∧Aside0 (Kd.R (Kd.int .i64) 3 wc w.heap.size (fun k_=>some k_≠((.slice Ao28 x7_2.length co28):Value).ownBlock) v133 x5_2)∧Aside0 (Kd.R (Kd.int .i64) 3 wc w.heap.size (fun k_=>some k_≠(v133:Value).ownBlock) (.slice Ao28 x7_2.length co28) x7_2)∧Aside0 (Kd.R Kd.bool 4 wc w.heap.size (fun _=>True) u8 x8_2)∧Aside0 (Kd.S (Kd.slice 3 (Kd.int .i64)) 81 wc w.heap.size (fun k_=>some k_≠(v133:Value).ownBlock∧some k_≠((.slice Ao28 x7_2.length co28):Value).ownBlock) u9 x9_2)∧Aside0 (wc.heap[gb145]? =some (.cells #[.int .i64 ((rd_T103 l0 x33_2).f0),.int .i64 ((rd_T103 l0 x33_2).f1)] 103 (0,0)))∧Aside0 (Below w.heap.size w wc))
       case first=>
        have H:=HC29.out
        clear HC29
        revert H
        refine iE_ (fun c30b0 c30b1 H=>?pc30) (fun c30 c30b0 c30b1 H=>?nc30)
        case' pc30=>
         (first|rw[c30b0]|(simp only[i64_w,i32_w];rw[c30b0])|skip)
        case' nc30=>
         (first|rw[c30b0]|(simp only[i64_w,i32_w];rw[c30b0])|skip)
         revert H
         refine iE_ (fun c31b0 c31b1 H=>?_) (fun c31 c31b0 c31b1 H=>?_)
        all_goals
         have H':=A_ H
         clear H
         go_wp2
         go_meet
         case rel=>exact⟨_,_,rs_,H',⟨by have:=HJ1.out;have:=HK2.out;first|omega|exact Nat.le_refl _⟩,⟨by (with_reducible repeat (first|apply Kd.R_alloc|apply Kd.R_drewN|apply Kd.R_drew));exact Kd.R_mono (Kd.R_far (p:=⟨gb145,1,none⟩) (Kd.R_far (p:=⟨gb145,0,none⟩) (Kd.R_types HO_5.out BK145.out (by decide)) (fun _ hk=>hk.2) (.int .i64 ((rd_T103 l0 x33_2).f0))) (fun _ hk=>hk.2) (.int .i64 ((rd_T103 l0 x33_2).f1))) (fun _ hk=>hk.1)⟩,⟨by (with_reducible repeat (first|apply Kd.R_alloc|apply Kd.R_drewN|apply Kd.R_drew));exact Kd.R_mono (Kd.R_far (p:=⟨gb145,1,none⟩) (Kd.R_far (p:=⟨gb145,0,none⟩) (Kd.R_types HO_7.out BK145.out (by decide)) (fun _ hk=>hk.2) (.int .i64 ((rd_T103 l0 x33_2).f0))) (fun _ hk=>hk.2) (.int .i64 ((rd_T103 l0 x33_2).f1))) (fun _ hk=>hk.1)⟩,⟨by (with_reducible repeat (first|apply Kd.R_alloc|apply Kd.R_drewN|apply Kd.R_drew));exact Kd.R_mono (Kd.R_far (p:=⟨gb145,1,none⟩) (Kd.R_far (p:=⟨gb145,0,none⟩) (Kd.R_types HO_8.out BK145.out (by decide)) (fun _ hk=>hk.2) (.int .i64 ((rd_T103 l0 x33_2).f0))) (fun _ hk=>hk.2) (.int .i64 ((rd_T103 l0 x33_2).f1))) (fun _ hk=>trivial)⟩,⟨by (with_reducible repeat (first|apply Kd.S_alloc|apply Kd.S_drewN|apply Kd.S_drew));exact Kd.S_mono (Kd.S_far (p:=⟨gb145,1,none⟩) (Kd.S_far (p:=⟨gb145,0,none⟩) (Kd.S_types HO_9.out BK145.out (by decide)) (fun _ hk=>hk.2) (.int .i64 ((rd_T103 l0 x33_2).f0))) (fun _ hk=>hk.2) (.int .i64 ((rd_T103 l0 x33_2).f1))) (fun _ hk=>⟨hk.1.1,hk.1.2⟩)⟩,⟨by refine blk_put (cs:=#[.int .i64 ((rd_T103 l0 x33_2).f0),.int .i64 0]) ?_ 1 _ rfl;refine blk_put (cs:=#[.int .i64 0,.int .i64 0]) ?_ 0 _ rfl;(with_reducible repeat (first|refine blk_drewN ?_ _|refine blk_drew ?_|refine blk_alloc ?_ _));exact BK145.out⟩,⟨bw HB.out⟩⟩
       case rest=>
        clear HC29
        try clear c7 c8 c8b0 c8b1 c9 c9b0 c9b1 c10 c18 c18b0 c19 c19b0 c20 c20b0 c21 c21b0 hcz27_0 hcz27_1 hfz27_0 hfz27_1 hx144_0 hx144_1 p144 q144
        obtain⟨kq,x45_28,rfl,HA,HJ28,HO_5,HO_7,HO_8,HO_9,BK145,HB⟩:=hcut
        cases kq with
        |zero=>exact absurd HA.out (by simp[spec_l6Ends.j2])
        |succ kj28=>
         have H:=HA.out
         clear HA
         simp only[spec_l6Ends.j2] at H
         by_cases c32:x45_28=true
         case neg=>
          replace c32:=Bool.eq_false_iff.mpr c32
          subst c32
          replace H:=iF_ H
          revert H
          refine iE_ (fun c53b0 c53b1 H=>?_) (fun c53 c53b0 c53b1 H=>?_)
          ·
           obtain⟨ji54,hji54⟩:∃ j_:Int,(wrap64 ((x7_2.length:Int) - 1))=j_:=⟨_,rfl⟩
           first|rw[hji54] at H|simp only[hji54] at H
           (try rw[hji54] at c21b0)
           have hji54w:(IntKind.i64.wrap ((x7_2.length:Int) - 1))=ji54:=(i64_w _).trans hji54
           replace H:=id_ H
           obtain⟨c55b0,H⟩:=H
           replace H:=id_ H
           obtain⟨c56b0,H⟩:=H
           obtain⟨bq57,hbq57⟩:∃ b_:Bool,b_=(rdOf false x8_2 (ji54)):=⟨_,rfl⟩
           replace H:(if bq57=true then (some (([]:List Int),0,false)) else (spec_l6Ends.j3 kj28 x5_2 x6_2 x7_2 (x8_2.set ((ji54):Int).toNat true) x9_2 x33_2 (ji54) l0 (l0.length:Int) x33_2 ((rd_T103 l0 x33_2).f0) ((rd_T103 l0 x33_2).f1)))=some (r1,r2,r3):=by rw[←hbq57] at H;exact H
           have Nbq57:=A_ hbq57
           clear hbq57
           revert H
           refine iB_ (fun c58 H=>?_) (fun c58 H=>?_)<;>subst c58
           ·
            simp only[Option.some.injEq,Prod.mk.injEq] at H
            obtain⟨rfl,rfl,rfl⟩:=H
            obtain⟨Ao59,co59,eo59⟩:=Kd.R_slice HO_8.out
            subst eo59
            have p158:0≤((ji54):Int):=od_
            have q158:(ji54)<(x8_2.length:Int):=od_
            obtain⟨ad158,e158,hx158_0⟩:=Kd.at_bool (Kd.R_reads' HO_8.out).2.2 (ji54) p158 q158
            (try rw[←Nbq57.out] at hx158_0)
            cases e158
            replace p158:=eq_true p158
            replace q158:=eq_true q158
            go_wp2
            go_ret3
            exact⟨_,by first|rfl|(simp[errW_none,errW_some]<;>rfl)|(simp only[←hji54];first|rfl|(simp[errW_none,errW_some]<;>rfl))|(simp[*,errW_none,errW_some]<;>rfl),by first|exact Kd.R_nil _ _ _ _ _|exact Kd.N_nil _ _ _ _ _|exact Kd.V_nil _ _ _ _ _|exact Kd.Q_nil _ _ _ _ _|exact Kd.S_nil _ _ _ _ _,bw HB.out⟩
           obtain⟨y159,hy159⟩:∃ y_:List Bool,y_=(x8_2.set ((ji54):Int).toNat true):=⟨_,rfl⟩
           rw[←hy159] at H
           have Ny159:=A_ hy159
           clear hy159
           have H':=A_ H
           clear H
           obtain⟨Ao61,co61,eo61⟩:=Kd.R_slice HO_8.out
           subst eo61
           have p158:0≤((ji54):Int):=od_
           have q158:(ji54)<(x8_2.length:Int):=od_
           obtain⟨ad158,e158,hx158_0⟩:=Kd.at_bool (Kd.R_reads' HO_8.out).2.2 (ji54) p158 q158
           (try rw[←Nbq57.out] at hx158_0)
           cases e158
           replace p158:=eq_true p158
           replace q158:=eq_true q158
           have p60:0≤((ji54):Int):=od_
           have q60:((ji54):Int)<((x8_2.length:Int):Int):=od_
           obtain⟨go60,co60,eo60,gb60,gl60,cl60,HG60⟩:=Kd.R_form HO_8.out (by omega)
           (first|cases eo60|(injection eo60 with ea_ en_ ec_;(first|subst ea_|(injection ea_ with ea_;subst ea_));subst ec_;clear en_))
           have GB60:=A_ gb60
           have GG60:=A_ HG60
           clear gb60 gl60 HG60
           (first|simp only[add_plain] at hx158_0|skip)
           obtain⟨hx60_0,hf60_0⟩:=Kd.R_celln false HO_8.out ((ji54):Int) p60 q60
           replace p60:=eq_true p60
           replace q60:=eq_true q60
           have HP62:=Kd.R_putg HO_8.out ((ji54):Int) true
           go_wp2_with (first|((with_reducible refine gate_store (t:=4) (p:=78) rfl ?_);refine store_event (t:=4) (p:=78) (v:=?vo_w63) (w1:=(wc.setCell ⟨go60,((ji54):Int).toNat,none⟩ (.bool true))) ?hg ?ho ?hn ?hr ?_;(case ho=>rfl);(case hg=>rfl);(case hn=>rfl);(case hr=>first|(go_simp;done)|(go_simp;rfl));intro w63 hw;have hg:wc.grownBy w63 (some go60):=(by rw[hw];exact HP62.2);have hp_:Kd.R Kd.bool 4 w63 w.heap.size (fun _=>True) (.slice (some ⟨go60,0,none⟩) x8_2.length co61) y159:=(by rw[hw,Ny159.out];exact HP62.1);clear HP62;replace HO_5:=A_ (Kd.R_over' (v:=(.slice (some ⟨go60,0,none⟩) x8_2.length co61)) (kr_ HO_5.out) (Kd.R_typed HO_8.out) (by decide) hg);replace HO_7:=A_ (Kd.R_over' (v:=(.slice (some ⟨go60,0,none⟩) x8_2.length co61)) (kr_ HO_7.out) (Kd.R_typed HO_8.out) (by decide) hg);replace HO_9:=A_ (Kd.S_over' (v:=(.slice (some ⟨go60,0,none⟩) x8_2.length co61)) (ks_ HO_9.out) (Kd.R_typed HO_8.out) (by decide) hg);replace BK145:=A_ (blk_grown (g:=gb145) (o:=.cells #[.int .i64 ((rd_T103 l0 x33_2).f0),.int .i64 ((rd_T103 l0 x33_2).f1)] 103 (0,0)) (bk BK145.out) hg (Kd.R_ne HO_8.out BK145.out (by decide)));replace HO_8:=A_ (hp_);replace HB:=A_ ((by rw[hw];exact below_set (HB.out) GB60.out:Below w.heap.size w w63));clear hg hw hp_))
           first|go_meet|((simp only[←hji54]);go_meet)
           case rel=>exact⟨kj28,(x6_2),(x7_2),(y159),(x9_2),rs_,(by rw[hji54];exact H'),⟨by have:=HJ1.out;have:=HK2.out;have:=HJ28.out;first|omega|exact Nat.le_refl _⟩,⟨kr_ HO_5.out⟩,⟨kr_ HO_7.out⟩,⟨kr_ HO_8.out⟩,⟨ks_ HO_9.out⟩,⟨bk BK145.out⟩,⟨bw HB.out⟩⟩
          have H':=A_ H
          clear H
          go_wp2
          go_meet
          case rel=>exact⟨_,(x6_2),(x7_2),(x8_2),(x9_2),rs_,H',⟨by have:=HJ1.out;have:=HK2.out;have:=HJ28.out;first|omega|exact Nat.le_refl _⟩,⟨kr_ HO_5.out⟩,⟨kr_ HO_7.out⟩,⟨kr_ HO_8.out⟩,⟨ks_ HO_9.out⟩,⟨bk BK145.out⟩,⟨bw HB.out⟩⟩
         subst c32
         replace H:=iT_ H
         replace H:=im_ H
         obtain⟨LMc33,H⟩:=H
         replace H:=nm_ H
         obtain⟨y146,Ny146,H⟩:=H
         try dsimp only at H
         replace H:=im_ H
         obtain⟨LMc34,H⟩:=H
         replace H:=nm_ H
         obtain⟨y149,Ny149,H⟩:=H
         try dsimp only at H
         obtain⟨y152,hy152⟩:∃ y_:List Int,y_=(([x33_2]:List Int)):=⟨_,rfl⟩
         rw[←hy152] at H
         have Ny152:=A_ hy152
         clear hy152
         replace H:=im_ H
         obtain⟨LMc35,H⟩:=H
         replace H:=nm_ H
         obtain⟨y155,Ny155,H⟩:=H
         try dsimp only at H
         refine ic_ ((y146.length:Int) > x6_2) (fun c36=>?pc36) (fun c36=>?nc36)
         case' pc36=>
          rw[if_pos c36] at H
          have c36b0:=decide_eq_true c36
         case' nc36=>
          rw[if_neg c36] at H
          have c36b0:=decide_eq_false c36
         all_goals
          clear c36
          have H':=A_ H
          clear H
          go_wp2_with (first|((with_reducible refine gate_builtin (b:=.append) (xs:=#[.tmp 49,.tmp 51]) rfl ?_);(try (refine gate_guard (by rfl) ?_;dsimp only));at_builtin;refine Kd.R_append (Kd.int .i64) (w0:=w) w.heap.size rfl (.tmp 49) (.tmp 51) 81 3 (.int .i64 0) 8 rfl Try.underlying81 info3 rfl (by decide) (by omega) (.slice Ao28 x7_2.length co28) x7_2 x33_2 [.int .i64 x33_2] (fun k_=>some k_≠(v133:Value).ownBlock) (fun _=>False) rfl rfl ?aP (fun _ hk=>hk.elim) ?aF ?aO ?aB ?aS ?aL ?_;(case aP=>exact rfl);(case aB=>exact(bw HB.out));(case aF=>exact(fun k_ hk=>Kd.fresh' (Kd.R_lt (kr_ HO_5.out)) k_ hk));(case aO=>exact(kr_ HO_7.out));(case aS=>exact(below_size (bw HB.out)));(case aL=>have:=LMc33.out;omega);intro v147 w37 ho hb hg hat;rw[←Ny146.out] at ho;have HO148:=A_ (ho);replace HO_5:=A_ (Kd.R_after (ok:=(fun _=>True)) (by(with_reducible repeat (first|apply Kd.R_alloc|apply Kd.R_drewN|apply Kd.R_drew));exact Kd.R_mono HO_5.out (fun _ hk=>⟨trivial,hk⟩)) hg hat);replace HO_8:=A_ (Kd.R_over' (kr_ HO_8.out) (Kd.R_typed (kr_ HO_7.out)) (by decide) hg);replace HO_9:=A_ (Kd.S_after (ok:=(fun k_=>some k_≠(v133:Value).ownBlock)) (ks_ HO_9.out) hg hat);replace BK145:=A_ (blk_grown (g:=gb145) (o:=.cells #[.int .i64 ((rd_T103 l0 x33_2).f0),.int .i64 ((rd_T103 l0 x33_2).f1)] 103 (0,0)) (bk BK145.out) hg (Kd.R_ne HO_7.out BK145.out (by decide)));replace HB:=A_ (hb);clear HO_7;clear ho hb hg hat;obtain⟨hcz38_0,hcz38_1⟩:=cs2_ BK145.out;obtain⟨hfz38_0,hfz38_1⟩:=fz2_ BK145.out)|((with_reducible refine gate_builtin (b:=.append) (xs:=#[.tmp 53,.tmp 57]) rfl ?_);(try (refine gate_guard (by rfl) ?_;dsimp only));at_builtin;refine Kd.R_append Kd.bool (w0:=w) w.heap.size rfl (.tmp 53) (.tmp 57) 141 4 (.bool false) 1 rfl Try.underlying141 info4 rfl (by decide) (by omega) u8 x8_2 (((rd_T103 l0 x33_2).f0) !=4) [.bool (((rd_T103 l0 x33_2).f0) !=4)] (fun _=>True) (fun _=>False) rfl rfl ?aP (fun _ hk=>hk.elim) ?aF ?aO ?aB ?aS ?aL ?_;(case aP=>exact rfl);(case aB=>exact(bw HB.out));(case aF=>exact(fun _ _=>trivial));(case aO=>exact(kr_ HO_8.out));(case aS=>exact(below_size (bw HB.out)));(case aL=>have:=LMc34.out;omega);intro v150 w39 ho hb hg hat;rw[←Ny149.out] at ho;have HO151:=A_ (ho);replace HO_5:=A_ (Kd.R_over' (kr_ HO_5.out) (Kd.R_typed (kr_ HO_8.out)) (by decide) hg);replace HO_9:=A_ (Kd.S_over' (ks_ HO_9.out) (Kd.R_typed (kr_ HO_8.out)) (by decide) hg);replace BK145:=A_ (blk_grown (g:=gb145) (o:=.cells #[.int .i64 ((rd_T103 l0 x33_2).f0),.int .i64 ((rd_T103 l0 x33_2).f1)] 103 (0,0)) (bk BK145.out) hg (Kd.R_ne HO_8.out BK145.out (by decide)));replace HO148:=A_ (Kd.R_over' (kr_ HO148.out) (Kd.R_typed (kr_ HO_8.out)) (by decide) hg);replace HB:=A_ (hb);clear HO_8;clear ho hb hg hat)|((with_reducible refine gd_ 61 rfl ?_);(try (refine gate_guard (by rfl) ?_;dsimp only));refine Kd.R_lit (Kd.int .i64) _ 3 ?hg (N:=61) ?hd (xs:=([x33_2]:List Int)) (inner:=[.int .i64 x33_2]) (ok:=fun _=>True) (okp:=fun _=>True) ?hr ?hp (fun _ hk=>hk) trivial (Below.refl _ _) (Nat.le_refl _) (by simp) ?_;(case hd=>rfl);(case hg=>rfl);(case hr=>first|(go_simp;done)|(go_simp;rfl));(case hp=>exact(Reps.one (show Kd.M (Kd.int .i64) _ _ _ x33_2 [.int .i64 x33_2] from rfl) (Reps.none _ _)));intro v153 w40 ho41 hb hg_ hnew_;clear hg_ hnew_;(first|rw[←Ny152.out] at ho41|(simp only[Int.reduceToNat] at ho41;rw[←Ny152.out] at ho41));have HO154:=A_ (Kd.R_lower (Kd.R_new' (Kd.R_new' ho41 (Kd.R_lt (kr_ HO_5.out))) (Kd.R_lt (kr_ HO148.out))) (below_size (bw HB.out)));replace HO_5:=A_ (Kd.R_elder' (kr_ HO_5.out) (Kd.R_base ho41) hb);replace HO_9:=A_ (Kd.S_elder' (ks_ HO_9.out) (Kd.R_base ho41) hb);replace HO148:=A_ (Kd.R_elder' (kr_ HO148.out) (Kd.R_base ho41) hb);replace HO151:=A_ (Kd.R_below (kr_ HO151.out) hb);replace BK145:=kb_ BK145 hb;replace HB:=bs_ HB hb;clear hb ho41;obtain⟨Ao43,co43,eo43⟩:=Kd.R_slice HO154.out;subst eo43)|((with_reducible refine gate_builtin (b:=.append) (xs:=#[.tmp 59,.tmp 62]) rfl ?_);(try (refine gate_guard (by rfl) ?_;dsimp only));at_builtin;refine Kd.S_append (Kd.slice 3 (Kd.int .i64)) (w0:=w) w.heap.size rfl (.tmp 59) (.tmp 62) 142 81 (.slice none 0 0) 24 rfl Try.underlying142 info81 rfl (by decide) (by omega) u9 x9_2 y152 [.slice Ao43 y152.length co43] (fun k_=>some k_≠(v133:Value).ownBlock∧some k_≠(v147:Value).ownBlock) (fun k_=>some k_=(.slice Ao43 y152.length co43:Value).ownBlock) rfl rfl ?aP (fun k_ hk_=>((Kd.R_mono (ok':=fun k_=>((fun k_=>some k_≠(v133:Value).ownBlock∧some k_≠(v147:Value).ownBlock)) k_∧some k_≠(u9:Value).ownBlock) (Kd.R_apart' (HO154.out) (Kd.S_typed HO_9.out) (by decide)) (fun k_ hk=>⟨⟨hk.1.1.2,hk.1.2⟩,hk.2⟩))).1 k_ hk_.symm) ?aF ?aO ?aB ?aS ?aL ?_;(case aP=>exact Kd.M_row (Kd.R_mono (Kd.R_tight rfl (Kd.R_mono (ok':=fun k_=>((fun k_=>some k_≠(v133:Value).ownBlock∧some k_≠(v147:Value).ownBlock)) k_∧some k_≠(u9:Value).ownBlock) (Kd.R_apart' (HO154.out) (Kd.S_typed HO_9.out) (by decide)) (fun k_ hk=>⟨⟨hk.1.1.2,hk.1.2⟩,hk.2⟩))) (fun _ h_=>h_)));(case aB=>exact(bw HB.out));(case aF=>exact(fun k_ hk=>⟨Kd.fresh' (Kd.R_lt (kr_ HO_5.out)) k_ hk,Kd.fresh' (Kd.R_lt (kr_ HO148.out)) k_ hk⟩));(case aO=>exact(by(with_reducible repeat (first|apply Kd.S_alloc|apply Kd.S_drewN|apply Kd.S_drew));exact Kd.S_mono HO_9.out (fun k_ hk=>⟨⟨hk.1.1,hk.1.2⟩,fun e_=>hk.2 e_⟩)));(case aS=>exact(below_size (bw HB.out)));(case aL=>have:=LMc35.out;omega);intro v156 w42 ho hb hg hat;rw[←Ny155.out] at ho;have HO157:=A_ (ho);replace HO_5:=A_ (Kd.R_over' (kr_ HO_5.out) (Kd.S_typed (ks_ HO_9.out)) (by decide) hg);replace BK145:=A_ (blk_grown (g:=gb145) (o:=.cells #[.int .i64 ((rd_T103 l0 x33_2).f0),.int .i64 ((rd_T103 l0 x33_2).f1)] 103 (0,0)) (bk BK145.out) hg (Kd.S_ne HO_9.out BK145.out (by decide)));replace HO148:=A_ (Kd.R_over' (kr_ HO148.out) (Kd.S_typed (ks_ HO_9.out)) (by decide) hg);replace HO151:=A_ (Kd.R_over' (kr_ HO151.out) (Kd.S_typed (ks_ HO_9.out)) (by decide) hg);replace HB:=A_ (hb);clear HO_9 HO154;clear ho hb hg hat;obtain⟨Ao44,co44,eo44⟩:=Kd.R_slice HO148.out;subst eo44))
          go_roundg kj28
          case measure=>have:=HJ1.out;have:=HK2.out;have:=HJ28.out;omega
          case rel=>exact⟨_,_,_,_,_,_,rs_,rs_,H',⟨by have:=HJ1.out;have:=HK2.out;have:=HJ28.out;omega⟩,⟨by (with_reducible repeat (first|apply Kd.R_alloc|apply Kd.R_drewN|apply Kd.R_drew));exact Kd.R_mono HO_5.out (fun _ hk=>hk.1.2)⟩,⟨by (with_reducible repeat (first|apply Kd.R_alloc|apply Kd.R_drewN|apply Kd.R_drew));exact Kd.R_mono HO148.out (fun _ hk=>hk.1)⟩,⟨kr_ HO151.out⟩,⟨ks_ HO157.out⟩,⟨bw HB.out⟩⟩
      case rest=>
       clear HC25
       try clear c7 c8 c8b0 c8b1 c9 c9b0 c9b1 c10 c18 c18b0 c19 c19b0 c20 c20b0 c21 c21b0 hcz27_0 hcz27_1 hfz27_0 hfz27_1 hx144_0 hx144_1 p144 q144
       obtain⟨kq,x6_24,x7_24,x8_24,x9_24,rfl,HA,HJ24,HO_5,HO_7,HO_8,HO_9,BK145,HB⟩:=hcut
       cases kq with
       |zero=>exact absurd HA.out (by simp[spec_l6Ends.j3])
       |succ kj24=>
        have H:=HA.out
        clear HA
        simp only[spec_l6Ends.j3] at H
        obtain⟨ji64,hji64⟩:∃ j_:Int,(wrap64 ((x7_2.length:Int) - 1))=j_:=⟨_,rfl⟩
        first|rw[hji64] at H|simp only[hji64] at H
        (try rw[hji64] at c21b0)
        have hji64w:(IntKind.i64.wrap ((x7_2.length:Int) - 1))=ji64:=(i64_w _).trans hji64
        replace H:=id_ H
        obtain⟨c65b0,H⟩:=H
        replace H:=id_ H
        obtain⟨c66b0,H⟩:=H
        replace H:=im_ H
        obtain⟨LMc67,H⟩:=H
        obtain⟨y161,hy161⟩:∃ y_:List Int,y_=((rd_L2 x9_24 (ji64))++[x33_2]):=⟨_,rfl⟩
        rw[←hy161] at H
        have Ny161:=A_ hy161
        clear hy161
        replace H:=nm_ H
        obtain⟨y164,Ny164,H⟩:=H
        try dsimp only at H
        revert H
        refine iE_ (fun c69b0 c69b1 H=>?_) (fun c69 c69b0 c69b1 H=>?_)
        ·
         have H':=A_ H
         clear H
         obtain⟨Ao70,co70,eo70⟩:=Kd.S_slice HO_9.out
         subst eo70
         have p160:0≤((ji64):Int):=od_
         have q160:(ji64)<(x9_24.length:Int):=od_
         obtain⟨ad160,A160_0,c160_0,e160,hx160_0,hl160_0,hi160_0⟩:=at_L2 (Kd.S_reads' HO_9.out).2.2 (ji64) p160 q160
         cases e160
         obtain⟨ce160,hce160,hMe160,hcc160⟩:=Kd.S_get HO_9.out [] (ji64) p160 (by first|exact q160|exact od_|(have e_:=(Kd.S_reads' HO_9.out).1;omega))
         obtain⟨ve160_0,rfl,ge160_0⟩:=hMe160
         have hv160_0:=hcc160 0 _ rfl
         rw[Nat.add_zero,show ((Kd.slice 3 (Kd.int .i64))).sz=1 from rfl,Nat.mul_one] at hv160_0
         replace hv160_0:=Option.some.inj (hv160_0.symm.trans hx160_0)
         rw[hv160_0] at ge160_0
         have HL160_0:=A_ (show Kd.R (Kd.int .i64) 3 _ _ _ _ (rd_L2 x9_24 (ji64)) from ge160_0)
         clear hv160_0 ge160_0
         have HX160_0:=A_ hx160_0
         clear hcc160 hce160
         have HR160_0:=A_ hi160_0
         have HC160_0:=A_ hl160_0
         clear hi160_0 hl160_0
         replace p160:=eq_true p160
         replace q160:=eq_true q160
         obtain⟨go71,co71,eo71,gb71,gl71,cl71,HG71⟩:=Kd.S_form HO_9.out (by have h_:((ji64):Int)<((x9_24.length:Int):Int):=od_;have h2_:0≤((ji64):Int):=(od_);omega)
         (first|cases eo71|(injection eo71 with ea_ en_ ec_;(first|subst ea_|(injection ea_ with ea_;subst ea_));subst ec_;clear en_))
         have GB71:=A_ gb71
         have GG71:=A_ HG71
         clear gb71 gl71 HG71
         (first|simp only[add_plain] at hx160_0|skip)
         obtain⟨oki71,ce71,hcl71,hM71,hcc71,_,_,hH71⟩:=Kd.S_elem HO_9.out [] ((ji64):Int) (od_) (by have h_:((ji64):Int)<((x9_24.length:Int):Int):=od_;first|exact h_|(have e_:=(Kd.S_reads' HO_9.out).1;omega)|simpa using h_)
         obtain⟨ve71_0,rfl,ge71_0⟩:=hM71
         have hv71:=hcc71 0 _ rfl
         have hX71:=HX160_0.out
         (try simp only[add_plain] at hX71)
         (try simp only[Nat.add_zero] at hv71)
         (try rw[show ((Kd.slice 3 (Kd.int .i64))).sz=1 from rfl,Nat.mul_one] at hv71)
         replace hv71:=Option.some.inj (hv71.symm.trans hX71)
         subst hv71
         clear hX71 hcc71 hcl71
         have UU71:=A_ (show Kd.R (Kd.int .i64) 3 _ w.heap.size oki71 (.slice A160_0 (rd_L2 x9_24 (ji64)).length c160_0) (rd_L2 x9_24 (ji64)) from ge71_0)
         have HH71:=A_ hH71
         have HN71:=A_ (Kd.S_reads' HO_9.out).1
         clear hH71 ge71_0
         go_wp2_with (first|((with_reducible refine gate_builtin (b:=.append) (xs:=#[.tmp 84,.tmp 86]) rfl ?_);(try (refine gate_guard (by rfl) ?_;dsimp only));at_builtin;refine Kd.R_append (Kd.int .i64) (w0:=w) w.heap.size rfl (.tmp 84) (.tmp 86) 81 3 (.int .i64 0) 8 rfl Try.underlying81 info3 rfl (by decide) (by omega) (.slice A160_0 (rd_L2 x9_24 (ji64)).length c160_0) (rd_L2 x9_24 (ji64)) x33_2 [.int .i64 x33_2] (fun k_=>oki71 k_∨((fun k_=>some k_≠(v133:Value).ownBlock∧some k_≠(u7:Value).ownBlock)) k_∧wc.heap.size≤k_) (fun _=>False) rfl rfl ?aP (fun _ hk=>hk.elim) ?aF ?aO ?aB ?aS ?aL ?_;(case aP=>exact rfl);(case aB=>exact(bw HB.out));(case aF=>exact(fun k_ hk=>.inr ⟨⟨Kd.fresh' (Kd.R_lt (kr_ HO_5.out)) k_ hk,Kd.fresh' (Kd.R_lt (kr_ HO_7.out)) k_ hk⟩,hk⟩));(case aO=>exact(by(with_reducible repeat (first|apply Kd.R_alloc|apply Kd.R_drewN|apply Kd.R_drew));exact Kd.R_mono UU71.out (fun _ hk=>.inl hk)));(case aS=>exact(below_size (bw HB.out)));(case aL=>have:=LMc67.out;omega);intro v162 w72 ho hb hg hat;rw[←Ny161.out] at ho;have HO163:=A_ (ho);replace HO_5:=A_ (Kd.R_grown2 (kr_ HO_5.out) rfl hg (fun k_ e_=>(HL160_0.out.1 k_ e_).1.1));replace HO_7:=A_ (Kd.R_grown2 (kr_ HO_7.out) rfl hg (fun k_ e_=>(HL160_0.out.1 k_ e_).1.2));replace HO_8:=A_ (Kd.R_over' (v:=(.slice A160_0 (rd_L2 x9_24 (ji64)).length c160_0)) (kr_ HO_8.out) (Kd.R_typed HL160_0.out) (by decide) hg);replace BK145:=A_ (blk_grown (g:=gb145) (o:=.cells #[.int .i64 ((rd_T103 l0 x33_2).f0),.int .i64 ((rd_T103 l0 x33_2).f1)] 103 (0,0)) (bk BK145.out) hg (Kd.R_ne HL160_0.out BK145.out (by decide)));replace HB:=A_ (hb);replace HH71:=A_ (Kd.H_grown (Kd.H_widen (by repeat (first|exact HH71.out|refine Kd.H_alloc ?_ _|refine Kd.H_drewN ?_ _|refine Kd.H_drew ?_))) hg (fun k_ e_=>.inl (UU71.out.1 k_ e_)));clear HO_9 UU71 HL160_0;clear ho hb hg hat;have p68:0≤((ji64):Int):=od_;have q68:((ji64):Int)<((x9_24.length:Int):Int):=od_;replace p68:=eq_true p68;replace q68:=eq_true q68;obtain⟨Ao75,co75,eo75⟩:=Kd.R_slice HO163.out;subst eo75;obtain⟨_,_,hraw73,_,_,hcc73,_⟩:=Kd.H_raw HH71.out (od_) (by have h_:((ji64):Int)<((x9_24.length:Int):Int):=od_;first|exact h_|(have e_:=(HN71.out);omega)|simpa using h_);obtain⟨_,hfr73⟩:=Kd.H_at HH71.out (od_) (by have h_:((ji64):Int)<((x9_24.length:Int):Int):=od_;first|exact h_|(have e_:=(HN71.out);omega)|simpa using h_);have hx73_0:=hcc73 0 _ rfl;have hf73_0:=hfr73 0;(try simp only[Nat.add_zero] at hx73_0 hf73_0);(try rw[show ((Kd.slice 3 (Kd.int .i64))).sz=1 from rfl,Nat.mul_one] at hx73_0);(try rw[show ((Kd.slice 3 (Kd.int .i64))).sz=1 from rfl,Nat.mul_one] at hf73_0);have HP73:=Kd.S_seg0 HH71.out (od_) (by have h_:((ji64):Int)<((x9_24.length:Int):Int):=od_;first|exact h_|(have e_:=(HN71.out);omega)|simpa using h_) (seg:=[.slice Ao75 y161.length co75]) (j:=0) (show 1≤1 from by decide) (x':=y161) (Kd.M_row HO163.out) (fun _ hk=>hk);(try simp only[show ((Kd.slice 3 (Kd.int .i64))).sz=1 from rfl,Nat.mul_one,Nat.add_zero] at HP73);clear hcc73 hfr73)|((with_reducible refine gate_store (t:=81) (p:=88) rfl ?_);refine store_event (t:=81) (p:=88) (v:=?vo_w74) (w1:=(w72.setCell ⟨go71,((ji64):Int).toNat,none⟩ (.slice Ao75 y161.length co75))) ?hg ?ho ?hn ?hr ?_;(case ho=>rfl);(case hg=>rfl);(case hn=>rfl);(case hr=>first|(go_simp;done)|(go_simp;rfl));intro w74 hw;have hg:w72.grownBy w74 (some go71):=(by rw[hw];exact HP73.2);have hp_:Kd.S (Kd.slice 3 (Kd.int .i64)) 81 w74 w.heap.size (fun k_=>some k_≠(v133:Value).ownBlock∧some k_≠(u7:Value).ownBlock) (.slice (some ⟨go71,0,none⟩) x9_24.length co70) y164:=(by rw[hw,Ny164.out];exact HP73.1);clear HP73;have HO_9:=A_ (hp_);replace HO_5:=A_ (Kd.R_over' (v:=(.slice (some ⟨go71,0,none⟩) x9_24.length co70)) (kr_ HO_5.out) (Kd.R_typed hraw73) (by decide) hg);replace HO_7:=A_ (Kd.R_over' (v:=(.slice (some ⟨go71,0,none⟩) x9_24.length co70)) (kr_ HO_7.out) (Kd.R_typed hraw73) (by decide) hg);replace HO_8:=A_ (Kd.R_over' (v:=(.slice (some ⟨go71,0,none⟩) x9_24.length co70)) (kr_ HO_8.out) (Kd.R_typed hraw73) (by decide) hg);replace BK145:=A_ (blk_grown (g:=gb145) (o:=.cells #[.int .i64 ((rd_T103 l0 x33_2).f0),.int .i64 ((rd_T103 l0 x33_2).f1)] 103 (0,0)) (bk BK145.out) hg (Kd.R_ne hraw73 BK145.out (by decide)));replace HB:=A_ ((by rw[hw];exact below_set HB.out GB71.out:Below w.heap.size w w74));clear HO163 HH71;clear hg hw hp_ hraw73;obtain⟨hcz76_0,hcz76_1⟩:=cs2_ BK145.out;obtain⟨hfz76_0,hfz76_1⟩:=fz2_ BK145.out;have p165:0≤((ji64):Int):=od_;have q165:(ji64)<(y164.length:Int):=(by have h_:((ji64):Int)<((x9_24.length:Int):Int):=od_;first|(have e_:=(Kd.S_reads' HO_9.out).1;omega)|simpa only [Ny164.out,List.length_set] using h_);have ql165:(((ji64):Int)<((x9_24.length:Int):Int))=True:=eq_true (od_);obtain⟨ad165,A165_0,c165_0,e165,hx165_0,hl165_0,hi165_0⟩:=at_L2 (Kd.S_reads' HO_9.out).2.2 (ji64) p165 q165;obtain rfl:(⟨go71,0,none⟩:Addr)=ad165:=(by injection e165);obtain⟨ce165,hce165,hMe165,hcc165⟩:=Kd.S_get HO_9.out [] (ji64) p165 (by first|exact q165|exact od_|(have e_:=(Kd.S_reads' HO_9.out).1;omega));obtain⟨ve165_0,rfl,ge165_0⟩:=hMe165;have hv165_0:=hcc165 0 _ rfl;rw[Nat.add_zero,show ((Kd.slice 3 (Kd.int .i64))).sz=1 from rfl,Nat.mul_one] at hv165_0;replace hv165_0:=Option.some.inj (hv165_0.symm.trans hx165_0);rw[hv165_0] at ge165_0;have HL165_0:=A_ (show Kd.R (Kd.int .i64) 3 _ _ _ _ (rd_L2 y164 (ji64)) from ge165_0);clear hv165_0 ge165_0;have HX165_0:=A_ hx165_0;clear hcc165 hce165;(first|simp only[add_plain] at hx165_0|simp only[add_at] at hx165_0|simp only[Addr.add,Nat.zero_add] at hx165_0|skip);have HR165_0:=A_ hi165_0;have HC165_0:=A_ hl165_0;clear hi165_0 hl165_0;replace p165:=eq_true p165;replace q165:=eq_true q165))
         (try simp only[Act.put,List.setIfInBounds_toArray,List.set_cons_zero,List.set_cons_succ])
         go_loopg [97] kj24 (fun kq v97 w'=>∃ (x5_4:List Int) (x97_4:Int),v97=.int .i64 x97_4∧Aside0 (spec_l6Ends.l1 kq x5_4 x6_24 x7_24 x8_24 y164 x33_2 (ji64) l0 (l0.length:Int) x33_2 (rd_L2 y164 (ji64)) ((rd_L2 y164 (ji64)).length:Int) x97_4=some (r1,r2,r3))∧Aside0 (kq≤kj24)∧Aside0 (Kd.R (Kd.int .i64) 3 w' w.heap.size (fun k_=>some k_≠(u7:Value).ownBlock) v133 x5_4)∧Aside0 (Kd.R (Kd.int .i64) 3 w' w.heap.size (fun k_=>some k_≠(v133:Value).ownBlock) u7 x7_24)∧Aside0 (Kd.R Kd.bool 4 w' w.heap.size (fun _=>True) u8 x8_24)∧Aside0 (Kd.S (Kd.slice 3 (Kd.int .i64)) 81 w' w.heap.size (fun k_=>some k_≠(v133:Value).ownBlock∧some k_≠(u7:Value).ownBlock) (.slice (some ⟨go71,0,none⟩) x9_24.length co70) y164)∧Aside0 (w'.heap[gb145]? =some (.cells #[.int .i64 ((rd_T103 l0 x33_2).f0),.int .i64 ((rd_T103 l0 x33_2).f1)] 103 (0,0)))∧Aside0 (Below w.heap.size w w')∧Aside0 (Kd.R (Kd.int .i64) 3 w' w.heap.size (fun k_=>some k_≠(v133:Value).ownBlock) (.slice A165_0 (rd_L2 y164 (ji64)).length c165_0) (rd_L2 y164 (ji64))))
         case atStart=>exact⟨(x5_2),(0),rs_,H',⟨Nat.le_refl _⟩,⟨kr_ HO_5.out⟩,⟨kr_ HO_7.out⟩,⟨kr_ HO_8.out⟩,⟨ks_ HO_9.out⟩,⟨bk BK145.out⟩,⟨bw HB.out⟩,⟨Kd.R_mono HL165_0.out (fun _ hk=>hk.1.1)⟩⟩
         case round=>
          clear H'
          try clear c7 c8 c8b0 c8b1 c9 c9b0 c9b1 c10 c18 c18b0 c19 c19b0 c20 c20b0 c21 c21b0 c65 c65b0 c66 c66b0 c67 p68 q68 c69 c69b0 c69b1 hcz27_0 hcz27_1 hcz76_0 hcz76_1 hfz27_0 hfz27_1 hfz76_0 hfz76_1 hx144_0 hx144_1 hx160_0 hx165_0 hx73_0 p144 p160 p165 p68 q144 q160 q165 q68
          obtain⟨x5_4,x97_4,rfl,HA,HK4,HO_5,HO_7,HO_8,HO_9,BK145,HB,HLr⟩:=hrel
          have hl9_4:=(Kd.S_reads' HO_9.out).1
          rw[hl9_4] at HO_9
          (try simp only[hl9_4])
          (try simp only[hl9_4] at BK145)
          (try simp only[hl9_4] at HO_5)
          (try simp only[hl9_4] at HO_7)
          (try simp only[hl9_4] at HO_8)
          cases gk with
          |zero=>exact absurd HA.out (by simp[spec_l6Ends.l1])
          |succ k4=>
           have H:=HA.out
           clear HA
           simp only[spec_l6Ends.l1] at H
           revert H
           refine iL_ (fun c77b0 H=>?_) (fun c77b0 H=>?_)
           ·
            replace H:=id_ H
            obtain⟨c78b0,H⟩:=H
            replace H:=id_ H
            obtain⟨c79b0,H⟩:=H
            replace H:=id_ H
            obtain⟨c80b0,H⟩:=H
            replace H:=id_ H
            obtain⟨c81b0,H⟩:=H
            obtain⟨y167,hy167⟩:∃ y_:List Int,y_=(x5_4.set ((rd (rd_L2 y164 (ji64)) x97_4):Int).toNat x33_2):=⟨_,rfl⟩
            rw[←hy167] at H
            have Ny167:=A_ hy167
            clear hy167
            have H':=A_ H
            clear H
            have p166:0≤(x97_4:Int):=od_
            have q166:x97_4<((rd_L2 y164 (ji64)).length:Int):=od_
            obtain⟨ad166,e166,hx166_0⟩:=Kd.at_int (Kd.R_reads' HLr.out).2.2 x97_4 p166 q166
            cases e166
            replace p166:=eq_true p166
            replace q166:=eq_true q166
            have p82:0≤((rd (rd_L2 y164 (ji64)) x97_4):Int):=od_
            have q82:((rd (rd_L2 y164 (ji64)) x97_4):Int)<((x5_4.length:Int):Int):=od_
            obtain⟨go82,co82,eo82,gb82,gl82,cl82,HG82⟩:=Kd.R_form HO_5.out (by omega)
            (first|cases eo82|(injection eo82 with ea_ en_ ec_;(first|subst ea_|(injection ea_ with ea_;subst ea_));subst ec_;clear en_))
            have GB82:=A_ gb82
            have GG82:=A_ HG82
            clear gb82 gl82 HG82
            obtain⟨hx82_0,hf82_0⟩:=Kd.R_celln 0 HO_5.out ((rd (rd_L2 y164 (ji64)) x97_4):Int) p82 q82
            replace p82:=eq_true p82
            replace q82:=eq_true q82
            have HP83:=Kd.R_putg HO_5.out ((rd (rd_L2 y164 (ji64)) x97_4):Int) x33_2
            go_wp2_with (first|((with_reducible refine gate_store (t:=3) (p:=104) rfl ?_);refine store_event (t:=3) (p:=104) (v:=?vo_w84) (w1:=(wr.setCell ⟨go82,((rd (rd_L2 y164 (ji64)) x97_4):Int).toNat,none⟩ (.int .i64 x33_2))) ?hg ?ho ?hn ?hr ?_;(case ho=>rfl);(case hg=>rfl);(case hn=>rfl);(case hr=>first|(go_simp;done)|(go_simp;rfl));intro w84 hw;have hg:wr.grownBy w84 (some go82):=(by rw[hw];exact HP83.2);have hp_:Kd.R (Kd.int .i64) 3 w84 w.heap.size (fun k_=>some k_≠(u7:Value).ownBlock) (.slice (some ⟨go82,0,none⟩) x5_4.length co82) y167:=(by rw[hw,Ny167.out];exact HP83.1);clear HP83;replace HO_7:=A_ (Kd.R_after (v:=(.slice (some ⟨go82,0,none⟩) x5_4.length co82)) (v1:=(.slice (some ⟨go82,0,none⟩) x5_4.length co82)) (ok:=(fun _=>True)) (by(with_reducible repeat (first|apply Kd.R_alloc|apply Kd.R_drewN|apply Kd.R_drew));exact Kd.R_mono HO_7.out (fun _ hk=>⟨trivial,hk⟩)) hg (.inl rfl));replace HO_8:=A_ (Kd.R_over' (v:=(.slice (some ⟨go82,0,none⟩) x5_4.length co82)) (kr_ HO_8.out) (Kd.R_typed HO_5.out) (by decide) hg);replace HO_9:=A_ (Kd.S_after (v:=(.slice (some ⟨go82,0,none⟩) x5_4.length co82)) (v1:=(.slice (some ⟨go82,0,none⟩) x5_4.length co82)) (ok:=(fun k_=>some k_≠(u7:Value).ownBlock)) (by(with_reducible repeat (first|apply Kd.S_alloc|apply Kd.S_drewN|apply Kd.S_drew));exact Kd.S_mono HO_9.out (fun _ hk=>⟨hk.2,hk.1⟩)) hg (.inl rfl));replace BK145:=A_ (blk_grown (g:=gb145) (o:=.cells #[.int .i64 ((rd_T103 l0 x33_2).f0),.int .i64 ((rd_T103 l0 x33_2).f1)] 103 (0,0)) (bk BK145.out) hg (Kd.R_ne HO_5.out BK145.out (by decide)));replace HO_5:=A_ (hp_);replace HB:=A_ ((by rw[hw];exact below_set (HB.out) GB82.out:Below w.heap.size w w84));replace HLr:=A_ (Kd.R_after (v:=(.slice (some ⟨go82,0,none⟩) x5_4.length co82)) (v1:=(.slice (some ⟨go82,0,none⟩) x5_4.length co82)) (ok:=(fun _=>True)) (Kd.R_mono HLr.out (fun _ hk=>⟨trivial,hk⟩)) hg (.inl rfl));clear hg hw hp_))
            (try simp only[←hl9_4])
            go_roundg k4
            case measure=>have:=HJ1.out;have:=HK2.out;have:=HJ24.out;have:=HK4.out;omega
            case rel=>exact⟨(y167),(wrap64 (x97_4+1)),rs_,H',⟨by have:=HJ1.out;have:=HK2.out;have:=HJ24.out;have:=HK4.out;omega⟩,⟨by (try simp only[hl9_4]);(with_reducible repeat (first|apply Kd.R_alloc|apply Kd.R_drewN|apply Kd.R_drew));exact HO_5.out⟩,⟨by (try simp only[hl9_4]);(with_reducible repeat (first|apply Kd.R_alloc|apply Kd.R_drewN|apply Kd.R_drew));exact Kd.R_mono HO_7.out (fun _ hk=>hk.2)⟩,⟨by (try simp only[hl9_4]);(with_reducible repeat (first|apply Kd.R_alloc|apply Kd.R_drewN|apply Kd.R_drew));exact HO_8.out⟩,⟨by (try simp only[hl9_4]);(with_reducible repeat (first|apply Kd.S_alloc|apply Kd.S_drewN|apply Kd.S_drew));exact Kd.S_mono HO_9.out (fun _ hk=>⟨hk.2,hk.1⟩)⟩,⟨by (try simp only[hl9_4]);(with_reducible repeat (first|refine blk_drewN ?_ _|refine blk_drew ?_|refine blk_alloc ?_ _));exact BK145.out⟩,⟨bw HB.out⟩,⟨Kd.R_mono HLr.out (fun _ hk=>hk.2)⟩⟩
           replace H:=iq_ H
           obtain⟨c85b0,c85b1,H⟩:=H
           replace H:=iq_ H
           obtain⟨c86b0,c86b1,H⟩:=H
           obtain⟨y168,hy168⟩:∃ y_:List Int,y_=(x7_24.take ((ji64):Int).toNat):=⟨_,rfl⟩
           rw[←hy168] at H
           have Ny168:=A_ hy168
           clear hy168
           replace H:=iq_ H
           obtain⟨c87b0,c87b1,H⟩:=H
           obtain⟨y171,hy171⟩:∃ y_:List Bool,y_=(x8_24.take ((ji64):Int).toNat):=⟨_,rfl⟩
           rw[←hy171] at H
           have Ny171:=A_ hy171
           clear hy171
           replace H:=iq_ H
           obtain⟨c88b0,c88b1,H⟩:=H
           obtain⟨y174,hy174⟩:∃ y_:List (List Int),y_=(y164.take ((ji64):Int).toNat):=⟨_,rfl⟩
           rw[←hy174] at H
           have Ny174:=A_ hy174
           clear hy174
           have H':=A_ H
           clear H
           obtain⟨Ao89,co89,eo89⟩:=Kd.R_slice HO_7.out
           subst eo89
           have q90:((ji64):Int)≤((x7_24.length:Int):Int):=od_
           obtain⟨i090,hi090,_,hsz90,_⟩:=info_parts info3
           have hcut90:=cut_to (P:=Try.prog) 81 3 .i64 Try.underlying81 hi090 Ao89 x7_24.length co89 (ji64) (od_) q90 (Kd.R_reads' HO_7.out).2.1
           have hr90:=Kd.R_take (m:=((ji64):Int).toNat) HO_7.out (by omega)
           have hy90:y168.length=((ji64):Int).toNat:=(by rw[Ny168.out,List.length_take];omega)
           rw[←Ny168.out] at hr90
           rw[←hy90] at hr90 hcut90
           clear hy90 hi090 hsz90 HO_7
           have HO170:=A_ hr90
           clear hr90
           replace q90:=eq_true q90
           obtain⟨Ao91,co91,eo91⟩:=Kd.R_slice HO_8.out
           subst eo91
           have q92:((ji64):Int)≤((x8_24.length:Int):Int):=od_
           obtain⟨i092,hi092,_,hsz92,_⟩:=info_parts info4
           have hcut92:=cut_to (P:=Try.prog) 141 4 .i64 Try.underlying141 hi092 Ao91 x8_24.length co91 (ji64) (od_) q92 (Kd.R_reads' HO_8.out).2.1
           have hr92:=Kd.R_take (m:=((ji64):Int).toNat) HO_8.out (by omega)
           have hy92:y171.length=((ji64):Int).toNat:=(by rw[Ny171.out,List.length_take];omega)
           rw[←Ny171.out] at hr92
           rw[←hy92] at hr92 hcut92
           clear hy92 hi092 hsz92 HO_8
           have HO173:=A_ hr92
           clear hr92
           replace q92:=eq_true q92
           have q93:((ji64):Int)≤((y164.length:Int):Int):=od_
           obtain⟨i093,hi093,_,hsz93,_⟩:=info_parts info81
           have hcut93:=cut_to (P:=Try.prog) 142 81 .i64 Try.underlying142 hi093 (some ⟨go71,0,none⟩) y164.length co70 (ji64) (od_) q93 (Kd.S_reads' HO_9.out).2.1
           have hr93:=Kd.S_take (m:=((ji64):Int).toNat) HO_9.out (by omega)
           have hy93:y174.length=((ji64):Int).toNat:=(by rw[Ny174.out,List.length_take];omega)
           rw[←Ny174.out] at hr93
           rw[←hy93] at hr93 hcut93
           clear hy93 hi093 hsz93 HO_9
           have HO176:=A_ hr93
           clear hr93
           replace q93:=eq_true q93
           go_wp2
           (try simp only[←hl9_4])
           go_roundg k4
           case measure=>have:=HJ1.out;have:=HK2.out;have:=HJ24.out;have:=HK4.out;omega
           case rel=>exact⟨(x5_4),(x6_24),(y168),(y171),(y174),(wrap64 (x33_2+1)),rs_,rs_,H',⟨by have:=HJ1.out;have:=HK2.out;have:=HJ24.out;have:=HK4.out;omega⟩,⟨by (try simp only[hl9_4]);(with_reducible repeat (first|apply Kd.R_alloc|apply Kd.R_drewN|apply Kd.R_drew));exact Kd.R_mono HO_5.out (fun k_ hk_=>by cases Ao89<;>exact hk_)⟩,⟨by (try simp only[hl9_4]);(with_reducible repeat (first|apply Kd.R_alloc|apply Kd.R_drewN|apply Kd.R_drew));exact HO170.out⟩,⟨by (try simp only[hl9_4]);(with_reducible repeat (first|apply Kd.R_alloc|apply Kd.R_drewN|apply Kd.R_drew));exact HO173.out⟩,⟨by (try simp only[hl9_4]);(with_reducible repeat (first|apply Kd.S_alloc|apply Kd.S_drewN|apply Kd.S_drew));exact Kd.S_mono HO176.out (fun k_ hk_=>⟨hk_.1,by cases Ao89<;>exact hk_.2⟩)⟩,⟨bw HB.out⟩⟩
        have H':=A_ H
        clear H
        obtain⟨Ao94,co94,eo94⟩:=Kd.S_slice HO_9.out
        subst eo94
        have p160:0≤((ji64):Int):=od_
        have q160:(ji64)<(x9_24.length:Int):=od_
        obtain⟨ad160,A160_0,c160_0,e160,hx160_0,hl160_0,hi160_0⟩:=at_L2 (Kd.S_reads' HO_9.out).2.2 (ji64) p160 q160
        cases e160
        obtain⟨ce160,hce160,hMe160,hcc160⟩:=Kd.S_get HO_9.out [] (ji64) p160 (by first|exact q160|exact od_|(have e_:=(Kd.S_reads' HO_9.out).1;omega))
        obtain⟨ve160_0,rfl,ge160_0⟩:=hMe160
        have hv160_0:=hcc160 0 _ rfl
        rw[Nat.add_zero,show ((Kd.slice 3 (Kd.int .i64))).sz=1 from rfl,Nat.mul_one] at hv160_0
        replace hv160_0:=Option.some.inj (hv160_0.symm.trans hx160_0)
        rw[hv160_0] at ge160_0
        have HL160_0:=A_ (show Kd.R (Kd.int .i64) 3 _ _ _ _ (rd_L2 x9_24 (ji64)) from ge160_0)
        clear hv160_0 ge160_0
        have HX160_0:=A_ hx160_0
        clear hcc160 hce160
        have HR160_0:=A_ hi160_0
        have HC160_0:=A_ hl160_0
        clear hi160_0 hl160_0
        replace p160:=eq_true p160
        replace q160:=eq_true q160
        obtain⟨go95,co95,eo95,gb95,gl95,cl95,HG95⟩:=Kd.S_form HO_9.out (by have h_:((ji64):Int)<((x9_24.length:Int):Int):=od_;have h2_:0≤((ji64):Int):=(od_);omega)
        (first|cases eo95|(injection eo95 with ea_ en_ ec_;(first|subst ea_|(injection ea_ with ea_;subst ea_));subst ec_;clear en_))
        have GB95:=A_ gb95
        have GG95:=A_ HG95
        clear gb95 gl95 HG95
        (first|simp only[add_plain] at hx160_0|skip)
        obtain⟨oki95,ce95,hcl95,hM95,hcc95,_,_,hH95⟩:=Kd.S_elem HO_9.out [] ((ji64):Int) (od_) (by have h_:((ji64):Int)<((x9_24.length:Int):Int):=od_;first|exact h_|(have e_:=(Kd.S_reads' HO_9.out).1;omega)|simpa using h_)
        obtain⟨ve95_0,rfl,ge95_0⟩:=hM95
        have hv95:=hcc95 0 _ rfl
        have hX95:=HX160_0.out
        (try simp only[add_plain] at hX95)
        (try simp only[Nat.add_zero] at hv95)
        (try rw[show ((Kd.slice 3 (Kd.int .i64))).sz=1 from rfl,Nat.mul_one] at hv95)
        replace hv95:=Option.some.inj (hv95.symm.trans hX95)
        subst hv95
        clear hX95 hcc95 hcl95
        have UU95:=A_ (show Kd.R (Kd.int .i64) 3 _ w.heap.size oki95 (.slice A160_0 (rd_L2 x9_24 (ji64)).length c160_0) (rd_L2 x9_24 (ji64)) from ge95_0)
        have HH95:=A_ hH95
        have HN95:=A_ (Kd.S_reads' HO_9.out).1
        clear hH95 ge95_0
        go_wp2_with (first|((with_reducible refine gate_builtin (b:=.append) (xs:=#[.tmp 84,.tmp 86]) rfl ?_);(try (refine gate_guard (by rfl) ?_;dsimp only));at_builtin;refine Kd.R_append (Kd.int .i64) (w0:=w) w.heap.size rfl (.tmp 84) (.tmp 86) 81 3 (.int .i64 0) 8 rfl Try.underlying81 info3 rfl (by decide) (by omega) (.slice A160_0 (rd_L2 x9_24 (ji64)).length c160_0) (rd_L2 x9_24 (ji64)) x33_2 [.int .i64 x33_2] (fun k_=>oki95 k_∨((fun k_=>some k_≠(v133:Value).ownBlock∧some k_≠(u7:Value).ownBlock)) k_∧wc.heap.size≤k_) (fun _=>False) rfl rfl ?aP (fun _ hk=>hk.elim) ?aF ?aO ?aB ?aS ?aL ?_;(case aP=>exact rfl);(case aB=>exact(bw HB.out));(case aF=>exact(fun k_ hk=>.inr ⟨⟨Kd.fresh' (Kd.R_lt (kr_ HO_5.out)) k_ hk,Kd.fresh' (Kd.R_lt (kr_ HO_7.out)) k_ hk⟩,hk⟩));(case aO=>exact(by(with_reducible repeat (first|apply Kd.R_alloc|apply Kd.R_drewN|apply Kd.R_drew));exact Kd.R_mono UU95.out (fun _ hk=>.inl hk)));(case aS=>exact(below_size (bw HB.out)));(case aL=>have:=LMc67.out;omega);intro v162 w96 ho hb hg hat;rw[←Ny161.out] at ho;have HO163:=A_ (ho);replace HO_5:=A_ (Kd.R_grown2 (kr_ HO_5.out) rfl hg (fun k_ e_=>(HL160_0.out.1 k_ e_).1.1));replace HO_7:=A_ (Kd.R_grown2 (kr_ HO_7.out) rfl hg (fun k_ e_=>(HL160_0.out.1 k_ e_).1.2));replace HO_8:=A_ (Kd.R_over' (v:=(.slice A160_0 (rd_L2 x9_24 (ji64)).length c160_0)) (kr_ HO_8.out) (Kd.R_typed HL160_0.out) (by decide) hg);replace BK145:=A_ (blk_grown (g:=gb145) (o:=.cells #[.int .i64 ((rd_T103 l0 x33_2).f0),.int .i64 ((rd_T103 l0 x33_2).f1)] 103 (0,0)) (bk BK145.out) hg (Kd.R_ne HL160_0.out BK145.out (by decide)));replace HB:=A_ (hb);replace HH95:=A_ (Kd.H_grown (Kd.H_widen (by repeat (first|exact HH95.out|refine Kd.H_alloc ?_ _|refine Kd.H_drewN ?_ _|refine Kd.H_drew ?_))) hg (fun k_ e_=>.inl (UU95.out.1 k_ e_)));clear HO_9 UU95 HL160_0;clear ho hb hg hat;have p68:0≤((ji64):Int):=od_;have q68:((ji64):Int)<((x9_24.length:Int):Int):=od_;replace p68:=eq_true p68;replace q68:=eq_true q68;obtain⟨Ao99,co99,eo99⟩:=Kd.R_slice HO163.out;subst eo99;obtain⟨_,_,hraw97,_,_,hcc97,_⟩:=Kd.H_raw HH95.out (od_) (by have h_:((ji64):Int)<((x9_24.length:Int):Int):=od_;first|exact h_|(have e_:=(HN95.out);omega)|simpa using h_);obtain⟨_,hfr97⟩:=Kd.H_at HH95.out (od_) (by have h_:((ji64):Int)<((x9_24.length:Int):Int):=od_;first|exact h_|(have e_:=(HN95.out);omega)|simpa using h_);have hx97_0:=hcc97 0 _ rfl;have hf97_0:=hfr97 0;(try simp only[Nat.add_zero] at hx97_0 hf97_0);(try rw[show ((Kd.slice 3 (Kd.int .i64))).sz=1 from rfl,Nat.mul_one] at hx97_0);(try rw[show ((Kd.slice 3 (Kd.int .i64))).sz=1 from rfl,Nat.mul_one] at hf97_0);have HP97:=Kd.S_seg0 HH95.out (od_) (by have h_:((ji64):Int)<((x9_24.length:Int):Int):=od_;first|exact h_|(have e_:=(HN95.out);omega)|simpa using h_) (seg:=[.slice Ao99 y161.length co99]) (j:=0) (show 1≤1 from by decide) (x':=y161) (Kd.M_row HO163.out) (fun _ hk=>hk);(try simp only[show ((Kd.slice 3 (Kd.int .i64))).sz=1 from rfl,Nat.mul_one,Nat.add_zero] at HP97);clear hcc97 hfr97)|((with_reducible refine gate_store (t:=81) (p:=88) rfl ?_);refine store_event (t:=81) (p:=88) (v:=?vo_w98) (w1:=(w96.setCell ⟨go95,((ji64):Int).toNat,none⟩ (.slice Ao99 y161.length co99))) ?hg ?ho ?hn ?hr ?_;(case ho=>rfl);(case hg=>rfl);(case hn=>rfl);(case hr=>first|(go_simp;done)|(go_simp;rfl));intro w98 hw;have hg:w96.grownBy w98 (some go95):=(by rw[hw];exact HP97.2);have hp_:Kd.S (Kd.slice 3 (Kd.int .i64)) 81 w98 w.heap.size (fun k_=>some k_≠(v133:Value).ownBlock∧some k_≠(u7:Value).ownBlock) (.slice (some ⟨go95,0,none⟩) x9_24.length co94) y164:=(by rw[hw,Ny164.out];exact HP97.1);clear HP97;have HO_9:=A_ (hp_);replace HO_5:=A_ (Kd.R_over' (v:=(.slice (some ⟨go95,0,none⟩) x9_24.length co94)) (kr_ HO_5.out) (Kd.R_typed hraw97) (by decide) hg);replace HO_7:=A_ (Kd.R_over' (v:=(.slice (some ⟨go95,0,none⟩) x9_24.length co94)) (kr_ HO_7.out) (Kd.R_typed hraw97) (by decide) hg);replace HO_8:=A_ (Kd.R_over' (v:=(.slice (some ⟨go95,0,none⟩) x9_24.length co94)) (kr_ HO_8.out) (Kd.R_typed hraw97) (by decide) hg);replace BK145:=A_ (blk_grown (g:=gb145) (o:=.cells #[.int .i64 ((rd_T103 l0 x33_2).f0),.int .i64 ((rd_T103 l0 x33_2).f1)] 103 (0,0)) (bk BK145.out) hg (Kd.R_ne hraw97 BK145.out (by decide)));replace HB:=A_ ((by rw[hw];exact below_set HB.out GB95.out:Below w.heap.size w w98));clear HO163 HH95;clear hg hw hp_ hraw97;obtain⟨hcz100_0,hcz100_1⟩:=cs2_ BK145.out;obtain⟨hfz100_0,hfz100_1⟩:=fz2_ BK145.out))
        go_roundg kj24
        case measure=>have:=HJ1.out;have:=HK2.out;have:=HJ24.out;omega
        case rel=>exact⟨(x5_2),(x6_24),(x7_24),(x8_24),(y164),(wrap64 (x33_2+1)),rs_,rs_,H',⟨by have:=HJ1.out;have:=HK2.out;have:=HJ24.out;omega⟩,⟨kr_ HO_5.out⟩,⟨kr_ HO_7.out⟩,⟨kr_ HO_8.out⟩,⟨ks_ HO_9.out⟩,⟨bw HB.out⟩⟩
     simp only[Option.some.injEq,Prod.mk.injEq] at H
     obtain⟨rfl,rfl,rfl⟩:=H
     obtain⟨Ao101,co101,eo101⟩:=Kd.R_slice HO_7.out
     subst eo101
     go_wp2
     go_ret3
     exact⟨_,rr_,by (with_reducible repeat (first|apply Kd.R_alloc|apply Kd.R_drewN|apply Kd.R_drew));exact Kd.R_mono HO_5.out (fun _ hk=>trivial),bw HB.out⟩
end Go.Proofs.Ytanhbfhmgmjdgaa.Q

