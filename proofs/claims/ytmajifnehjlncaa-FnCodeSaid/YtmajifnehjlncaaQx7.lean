-- Written by a program of this session; it walks the functions that the law reaches.
import Derived.Test.YtmajifnehjlncaaQx0
import Derived.Test.YtmajifnehjlncaaQx5
import Derived.Test.YtmajifnehjlncaaQx6
import Derived.Test.YtmajifnehjlncaaQx1
namespace Go.Proofs.Ytmajifnehjlncaa.Q
open Go.RowKit Go.Proofs.YtmajifnehjlncaaW.PrintWords Go.Proofs.YtmajifnehjlncaaW.PrintLast Go.Proofs.YtmajifnehjlncaaW.PrintMore
attribute [local go_sem] max2_int min2_int max_two min_two max_three min_three max_four min_four   -- for this text's walks alone
set_option linter.unusedVariables false
set_option linter.unusedSimpArgs false
set_option maxRecDepth 100000
set_option maxHeartbeats 8000000

/-! ### impl_ReadCode: function 7 -/
theorem twice1 {w:World} {g:Nat} {v:Value} (h:w.cell? ⟨g,1,none⟩=some v) (u x:Value):((w.setCell ⟨g,0,none⟩ u).setCell ⟨g,1,none⟩ x).cell? ⟨g,1,none⟩=some x:=by
 refine World.cell?_setCell_same (u:=v) _ _ _ ?_
 rw[World.cell?_setCell_other _ _ _ _ (fun e_=>by have:=congrArg Addr.off e_;simp at this)]
 exact h
theorem twice2 {w:World} {g:Nat} {v:Value} (h:w.cell? ⟨g,1,none⟩=some v) (u x y:Value) (n:Nat):((((w.setCell ⟨g,0,none⟩ u).setCell ⟨g,1,none⟩ x).drewN n).setCell ⟨g,1,none⟩ y).cell? ⟨g,1,none⟩=some y:=World.cell?_setCell_same (u:=x) _ _ _ (twice1 h u x)
def impl_ReadCode.l0:Nat→ByteArray→List (S37)→Option ((List (S37)) × Bool)
 |0,_,_=>none
 |k+1,x0,x4=>if x0.toList=([]:List UInt8) then (some (x4,true)) else (if 0<(x0.size:Int) then (if 1≤(x0.size:Int) then ((impl_formOf.f k (wrap64 (bt x0 0))).bind fun t720=>((impl_takeA.f k (x0.extract 1 x0.size) t720).bind fun bt721=>(if bt721.2.2=true then ((impl_GoodIns.f k (wrap64 (bt x0 0)) bt721.1).bind fun t724=>(if t724=true then (if (x4.length:Int)=200 then (some (([]:List (S37)),false)) else (if x4.length<8796093022208 then (if 0≤(wrap64 (1+bt721.2.1)) then (if (wrap64 (1+bt721.2.1))≤(x0.size:Int) then (impl_ReadCode.l0 k (x0.extract ((wrap64 (1+bt721.2.1)):Int).toNat x0.size) (x4++[(⟨wrap64 (bt x0 0),bt721.1⟩:S37)])) else (none)) else (none)) else (none))) else (some (([]:List (S37)),false)))) else (some (([]:List (S37)),false))))) else (none)) else (none))
def impl_ReadCode.f (k:Nat) (a0:ByteArray):Option ((List (S37)) × Bool):=impl_ReadCode.l0 k a0 (([]:List (S37)))
theorem impl_ReadCode.calls (k:Nat) (a0:ByteArray) (r1:List (S37)) (r2:Bool) (w:World) (h:impl_ReadCode.f k a0=some (r1,r2)):
  Calls Try.prog 7 #[.string a0] w fun e w'=>∃ v0_:Value,e=.returned (.tuple #[v0_,.bool r2])∧Kd.R k37 37 w' w.heap.size (fun _=>True) v0_ r1∧Below w.heap.size w w':=by
 have hu37:=Try.underlying37
 have HB:=A_ (Below.refl w.heap.size w)
 have H:(impl_ReadCode.l0 k a0 (([]:List (S37))))=some (r1,r2):=h
 clear h
 obtain⟨y716,hy716⟩:∃ y_:List (S37),y_=(([]:List (S37))):=⟨_,rfl⟩
 replace H:(impl_ReadCode.l0 k a0 y716)=some (r1,r2):=by first|(rw[hy716];with_reducible exact H)|(have H2_:=(Option.bind_some _ _).symm.trans H;rw[hy716];with_reducible exact H2_)|(have H2_:=(Option.bind_some _ _).symm.trans H;with_reducible exact H2_)|with_reducible exact H|(rw[hy716];exact H)|exact H
 have Ny716:=A_ hy716
 clear hy716
 have H':=A_ H
 clear H
 go_enter Try.func7,Try.ntmps7
 go_wp2_with (first|((with_reducible refine gd_ 9 rfl ?_);(try (refine gate_guard (by rfl) ?_;dsimp only));refine Kd.R_lit k37 _ 37 ?hg (N:=9) ?hd (xs:=([]:List (S37))) (inner:=[]) (ok:=fun _=>True) (okp:=fun _=>True) ?hr ?hp (fun _ hk=>hk) trivial (Below.refl _ _) (Nat.le_refl _) (by simp) ?_;(case hd=>rfl);(case hg=>rfl);(case hr=>first|(go_simp;done)|(go_simp;rfl));(case hp=>exact(Reps.none _ _));intro v717 w2 ho3 hb hg_ hnew_;clear hg_ hnew_;(first|rw[←Ny716.out] at ho3|(simp only[Int.reduceToNat] at ho3;rw[←Ny716.out] at ho3));have HO718:=A_ (Kd.R_lower ho3 (below_size (bw HB.out)));replace HB:=bs_ HB hb;clear hb ho3))
 repeat (go_quiet (first|((with_reducible refine gate_dst (N:=9) rfl ?_);(try (refine gate_guard (by rfl) ?_;dsimp only));refine Kd.R_lit k37 _ 37 ?hg (N:=9) ?hd (xs:=([]:List (S37))) (inner:=[]) (ok:=fun _=>True) (okp:=fun _=>True) ?hr ?hp (fun _ hk=>hk) trivial (Below.refl _ _) (Nat.le_refl _) (by simp) ?_;(case hd=>rfl);(case hg=>rfl);(case hr=>first|(go_simp;done)|(go_simp;rfl));(case hp=>exact(Reps.none _ _));intro v717 w2 ho3 hb hg_ hnew_;clear hg_ hnew_;(first|rw[←Ny716.out] at ho3|(simp only[Int.reduceToNat] at ho3;rw[←Ny716.out] at ho3));have n0_:=A_ (Kd.R_lower ho3 (below_size (bw HB.out)));have n1_:=A_ (below_step (bw HB.out) hb);clear HB;have HO718:=n0_;have HB:=n1_;clear n0_ n1_;clear hb ho3));try go_wp2_with (first|((with_reducible refine gd_ 9 rfl ?_);(try (refine gate_guard (by rfl) ?_;dsimp only));refine Kd.R_lit k37 _ 37 ?hg (N:=9) ?hd (xs:=([]:List (S37))) (inner:=[]) (ok:=fun _=>True) (okp:=fun _=>True) ?hr ?hp (fun _ hk=>hk) trivial (Below.refl _ _) (Nat.le_refl _) (by simp) ?_;(case hd=>rfl);(case hg=>rfl);(case hr=>first|(go_simp;done)|(go_simp;rfl));(case hp=>exact(Reps.none _ _));intro v717 w2 ho3 hb hg_ hnew_;clear hg_ hnew_;(first|rw[←Ny716.out] at ho3|(simp only[Int.reduceToNat] at ho3;rw[←Ny716.out] at ho3));have HO718:=A_ (Kd.R_lower ho3 (below_size (bw HB.out)));replace HB:=bs_ HB hb;clear hb ho3)))
 (try simp only[Act.put,List.setIfInBounds_toArray,List.set_cons_zero,List.set_cons_succ])
 go_loopg [0,4] k (fun kq v0 v4 w'=>∃ (x0_1:ByteArray) (x4_1:List (S37)),v0=.string x0_1∧Aside0 (impl_ReadCode.l0 kq x0_1 x4_1=some (r1,r2))∧Aside0 (kq≤k)∧Aside0 (Kd.R k37 37 w' w.heap.size (fun _=>True) v4 x4_1)∧Aside0 (Below w.heap.size w w'))
 case atStart=>exact⟨(a0),(y716),rs_,H',⟨Nat.le_refl _⟩,⟨kr_ HO718.out⟩,⟨bw HB.out⟩⟩
 case round=>
  clear H'
  obtain⟨x0_1,x4_1,rfl,HA,HK1,HO_4,HB⟩:=hrel
  cases gk with
  |zero=>exact absurd HA.out (by simp[impl_ReadCode.l0])
  |succ k1=>
   have H:=HA.out
   clear HA
   simp only[impl_ReadCode.l0] at H
   by_cases c4:x0_1.toList=([]:List UInt8)
   ·
    rw[if_pos c4] at H
    obtain⟨c4b0,c4b1⟩:=eT_ c4
    clear c4
    simp only[Option.some.injEq,Prod.mk.injEq] at H
    obtain⟨rfl,rfl⟩:=H
    go_wp2
    repeat (go_quiet (fail);try go_wp2)
    go_ret2
    exact⟨_,rr_,kr_ HO_4.out,bw HB.out⟩
   rw[if_neg c4] at H
   obtain⟨c4b0,c4b1⟩:=eF_ c4
   by_cases c5:0<(x0_1.size:Int)
   ·
    rw[if_pos c5] at H
    have c5b0:=decide_eq_true c5
    have c5b1:decide (0<x0_1.size)=true:=decide_eq_true (by omega)
    clear c5
    by_cases c7:1≤(x0_1.size:Int)
    ·
     rw[if_pos c7] at H
     have c7b0:=eq_true c7
     have c7b1:=decide_eq_true c7
     clear c7
     replace H:=bi_ H
     obtain⟨t720,A80,H⟩:=H
     have A8:=A_ A80
     clear A80
     replace H:=Option.bind_eq_some_iff.mp H
     obtain⟨⟨t721,t722,t723⟩,A90,H⟩:=H
     replace H:(if t723=true then ((impl_GoodIns.f k1 (wrap64 (bt x0_1 0)) t721).bind fun t724=>(if t724=true then (if (x4_1.length:Int)=200 then (some (([]:List (S37)),false)) else (if x4_1.length<8796093022208 then (if 0≤(wrap64 (1+t722)) then (if (wrap64 (1+t722))≤(x0_1.size:Int) then (impl_ReadCode.l0 k1 (x0_1.extract ((wrap64 (1+t722)):Int).toNat x0_1.size) (x4_1++[(⟨wrap64 (bt x0_1 0),t721⟩:S37)])) else (none)) else (none)) else (none))) else (some (([]:List (S37)),false)))) else (some (([]:List (S37)),false)))=some (r1,r2):=H
     have A9:=A_ A90
     clear A90
     by_cases c10:t723=true
     ·
      subst c10
      replace H:=iT_ H
      replace H:=bi_ H
      obtain⟨t724,A110,H⟩:=H
      have A11:=A_ A110
      clear A110
      by_cases c12:t724=true
      ·
       subst c12
       replace H:=iT_ H
       by_cases c13:(x4_1.length:Int)=200
       ·
        rw[if_pos c13] at H
        obtain⟨c13b0,c13b1⟩:=eT_ c13
        clear c13
        simp only[Option.some.injEq,Prod.mk.injEq] at H
        obtain⟨rfl,rfl⟩:=H
        have p6:0≤(0:Int):=(by omega)
        have q6:0<x0_1.size:=(by have:(0:Int)<(x0_1.size:Int):=od_;omega)
        have hx6:∀ h:0<x0_1.size,((x0_1[0]'h).toNat:Int)=bt x0_1 0:=bt_at x0_1 0
        clear p6
        have qi6:(0<(x0_1.size:Int))=True:=eq_true (od_)
        replace q6:=eq_true q6
        go_wp2_with (first|((with_reducible refine gd_ 5 rfl ?_);(try (refine gate_guard (by rfl) ?_;dsimp only));refine bx_ #[.int .i64 0,.int .i64 0] 37 ?_;intro gb719 hg w14 hbox hb;have BK719:=A_ hbox;have GW719:=gw_ hg HB;have GE719:=GW719;replace HO_4:=A_ (Kd.R_below (Kd.R_elderB (kr_ HO_4.out) gb719 (Nat.le_of_eq hg.symm)) hb);replace HB:=bs_ HB hb;clear hb hbox hg;obtain⟨hcz15_0,hcz15_1⟩:=cs2_ BK719.out;obtain⟨hfz15_0,hfz15_1⟩:=fz2_ BK719.out;have hF15:=@twice1 _ _ _ hcz15_1;have hG15:=@twice2 _ _ _ hcz15_1)|(go_at_call 17;(with_reducible refine(impl_formOf.calls k1 (wrap64 (bt x0_1 0)) t720 _ A8.out).mono ?_);rintro e w' ⟨rfl,⟨nd,rfl⟩⟩;(try first|exact⟨rfl,_,World.drewN_drewN _ _ _⟩|exact⟨rfl,_,Eq.trans (World.drewN_drewN _ _ _) (congrArg (World.drewN _) (Nat.add_assoc _ _ _))⟩))|(go_at_call 23;(with_reducible refine(impl_takeA.calls k1 (x0_1.extract 1 x0_1.size) t720 t721 t722 true _ A9.out).mono ?_);rintro e w' ⟨rfl,⟨nd,rfl⟩⟩;(try first|exact⟨rfl,_,World.drewN_drewN _ _ _⟩|exact⟨rfl,_,Eq.trans (World.drewN_drewN _ _ _) (congrArg (World.drewN _) (Nat.add_assoc _ _ _))⟩))|(go_at_call 24;(with_reducible refine(impl_GoodIns.calls k1 (wrap64 (bt x0_1 0)) t721 true _ A11.out).mono ?_);rintro e w16 ⟨rfl,hb⟩;replace HO_4:=A_ (Kd.R_below (by(with_reducible repeat (first|apply Kd.R_alloc|apply Kd.R_drewN|apply Kd.R_drew));exact(Kd.R_mono (Kd.R_far (p:=⟨gb719,1,none⟩) (Kd.R_far (p:=⟨gb719,1,none⟩) (Kd.R_far (p:=⟨gb719,0,none⟩) (Kd.R_mono HO_4.out (fun k_ hk=>(⟨hk,hk.2⟩:_∧k_≠gb719))) (fun _ hk=>hk.2) (.int .i64 (wrap64 (bt x0_1 0)))) (fun _ hk=>hk.2) (.int .i64 0)) (fun _ hk=>hk.2) (.int .i64 t721)) (fun _ h_=>h_.1))) hb);replace BK719:=A_ (blk_below (g:=gb719) (o:=.cells #[.int .i64 (wrap64 (bt x0_1 0)),.int .i64 t721] 37 (0,0)) (by refine blk_put (cs:=#[.int .i64 (wrap64 (bt x0_1 0)),.int .i64 0]) ?_ 1 _ rfl;refine blk_put (cs:=#[.int .i64 (wrap64 (bt x0_1 0)),.int .i64 0]) ?_ 1 _ rfl;refine blk_put (cs:=#[.int .i64 0,.int .i64 0]) ?_ 0 _ rfl;(with_reducible repeat (first|refine blk_drewN ?_ _|refine blk_drew ?_|refine blk_alloc ?_ _));exact BK719.out) hb);replace HB:=bs_ HB hb;(try clear hb);(try clear hb2);(try clear hk);(try clear hi);obtain⟨Ao17,co17,eo17⟩:=Kd.R_slice HO_4.out;subst eo17))
        repeat (go_quiet (first|((with_reducible refine gate_dst (N:=5) rfl ?_);(try (refine gate_guard (by rfl) ?_;dsimp only));refine box_event ?hg (N:=5) ?hd (cs:=#[.int .i64 0,.int .i64 0]) (t:=37) ?hr ?_;(case hd=>rfl);(case hg=>rfl);(case hr=>first|(go_simp;done)|(go_simp;rfl));intro gb719 hg w14 hbox hb;have n0_:=A_ (Kd.R_below (Kd.R_elderB (kr_ HO_4.out) gb719 (Nat.le_of_eq hg.symm)) hb);have n1_:=A_ (below_step (bw HB.out) hb);have n2_:=A_ (hbox);have n3_:=A_ ((sz_ hg (bw HB.out):w.heap.size≤gb719));have n4_:=A_ ((sz_ hg (bw HB.out):w.heap.size≤gb719));clear HO_4;clear HB;have HO_4:=n0_;have HB:=n1_;have BK719:=n2_;have GW719:=n3_;have GE719:=n4_;clear n0_ n1_ n2_ n3_ n4_;clear hb hbox hg;obtain⟨hcz15_0,hcz15_1⟩:=cs2_ BK719.out;obtain⟨hfz15_0,hfz15_1⟩:=fz2_ BK719.out;have hF15:=@twice1 _ _ _ hcz15_1;have hG15:=@twice2 _ _ _ hcz15_1)|(go_at_call 17;(with_reducible refine(impl_formOf.calls k1 (wrap64 (bt x0_1 0)) t720 _ A8.out).mono ?_);rintro e w' ⟨rfl,⟨nd,rfl⟩⟩;(try first|exact⟨rfl,_,World.drewN_drewN _ _ _⟩|exact⟨rfl,_,Eq.trans (World.drewN_drewN _ _ _) (congrArg (World.drewN _) (Nat.add_assoc _ _ _))⟩))|(go_at_call 23;(with_reducible refine(impl_takeA.calls k1 (x0_1.extract 1 x0_1.size) t720 t721 t722 true _ A9.out).mono ?_);rintro e w' ⟨rfl,⟨nd,rfl⟩⟩;(try first|exact⟨rfl,_,World.drewN_drewN _ _ _⟩|exact⟨rfl,_,Eq.trans (World.drewN_drewN _ _ _) (congrArg (World.drewN _) (Nat.add_assoc _ _ _))⟩))|(go_at_call 24;(with_reducible refine(impl_GoodIns.calls k1 (wrap64 (bt x0_1 0)) t721 true _ A11.out).mono ?_);rintro e w16 ⟨rfl,hb⟩;have n0_:=A_ (Kd.R_below (by(with_reducible repeat (first|apply Kd.R_alloc|apply Kd.R_drewN|apply Kd.R_drew));exact(Kd.R_mono (Kd.R_far (p:=⟨gb719,1,none⟩) (Kd.R_far (p:=⟨gb719,1,none⟩) (Kd.R_far (p:=⟨gb719,0,none⟩) (Kd.R_mono HO_4.out (fun k_ hk=>(⟨hk,hk.2⟩:_∧k_≠gb719))) (fun _ hk=>hk.2) (.int .i64 (wrap64 (bt x0_1 0)))) (fun _ hk=>hk.2) (.int .i64 0)) (fun _ hk=>hk.2) (.int .i64 t721)) (fun _ h_=>h_.1))) hb);have n1_:=A_ (blk_below (g:=gb719) (o:=.cells #[.int .i64 (wrap64 (bt x0_1 0)),.int .i64 t721] 37 (0,0)) (by refine blk_put (cs:=#[.int .i64 (wrap64 (bt x0_1 0)),.int .i64 0]) ?_ 1 _ rfl;refine blk_put (cs:=#[.int .i64 (wrap64 (bt x0_1 0)),.int .i64 0]) ?_ 1 _ rfl;refine blk_put (cs:=#[.int .i64 0,.int .i64 0]) ?_ 0 _ rfl;(with_reducible repeat (first|refine blk_drewN ?_ _|refine blk_drew ?_|refine blk_alloc ?_ _));exact BK719.out) hb);have n2_:=A_ (below_step (bw HB.out) hb);clear HO_4;clear BK719;clear HB;have HO_4:=n0_;have BK719:=n1_;have HB:=n2_;clear n0_ n1_ n2_;(try clear hb);(try clear hb2);(try clear hk);(try clear hi);obtain⟨Ao17,co17,eo17⟩:=Kd.R_slice HO_4.out;subst eo17));try go_wp2_with (first|((with_reducible refine gd_ 5 rfl ?_);(try (refine gate_guard (by rfl) ?_;dsimp only));refine bx_ #[.int .i64 0,.int .i64 0] 37 ?_;intro gb719 hg w14 hbox hb;have BK719:=A_ hbox;have GW719:=gw_ hg HB;have GE719:=GW719;replace HO_4:=A_ (Kd.R_below (Kd.R_elderB (kr_ HO_4.out) gb719 (Nat.le_of_eq hg.symm)) hb);replace HB:=bs_ HB hb;clear hb hbox hg;obtain⟨hcz15_0,hcz15_1⟩:=cs2_ BK719.out;obtain⟨hfz15_0,hfz15_1⟩:=fz2_ BK719.out;have hF15:=@twice1 _ _ _ hcz15_1;have hG15:=@twice2 _ _ _ hcz15_1)|(go_at_call 17;(with_reducible refine(impl_formOf.calls k1 (wrap64 (bt x0_1 0)) t720 _ A8.out).mono ?_);rintro e w' ⟨rfl,⟨nd,rfl⟩⟩;(try first|exact⟨rfl,_,World.drewN_drewN _ _ _⟩|exact⟨rfl,_,Eq.trans (World.drewN_drewN _ _ _) (congrArg (World.drewN _) (Nat.add_assoc _ _ _))⟩))|(go_at_call 23;(with_reducible refine(impl_takeA.calls k1 (x0_1.extract 1 x0_1.size) t720 t721 t722 true _ A9.out).mono ?_);rintro e w' ⟨rfl,⟨nd,rfl⟩⟩;(try first|exact⟨rfl,_,World.drewN_drewN _ _ _⟩|exact⟨rfl,_,Eq.trans (World.drewN_drewN _ _ _) (congrArg (World.drewN _) (Nat.add_assoc _ _ _))⟩))|(go_at_call 24;(with_reducible refine(impl_GoodIns.calls k1 (wrap64 (bt x0_1 0)) t721 true _ A11.out).mono ?_);rintro e w16 ⟨rfl,hb⟩;replace HO_4:=A_ (Kd.R_below (by(with_reducible repeat (first|apply Kd.R_alloc|apply Kd.R_drewN|apply Kd.R_drew));exact(Kd.R_mono (Kd.R_far (p:=⟨gb719,1,none⟩) (Kd.R_far (p:=⟨gb719,1,none⟩) (Kd.R_far (p:=⟨gb719,0,none⟩) (Kd.R_mono HO_4.out (fun k_ hk=>(⟨hk,hk.2⟩:_∧k_≠gb719))) (fun _ hk=>hk.2) (.int .i64 (wrap64 (bt x0_1 0)))) (fun _ hk=>hk.2) (.int .i64 0)) (fun _ hk=>hk.2) (.int .i64 t721)) (fun _ h_=>h_.1))) hb);replace BK719:=A_ (blk_below (g:=gb719) (o:=.cells #[.int .i64 (wrap64 (bt x0_1 0)),.int .i64 t721] 37 (0,0)) (by refine blk_put (cs:=#[.int .i64 (wrap64 (bt x0_1 0)),.int .i64 0]) ?_ 1 _ rfl;refine blk_put (cs:=#[.int .i64 (wrap64 (bt x0_1 0)),.int .i64 0]) ?_ 1 _ rfl;refine blk_put (cs:=#[.int .i64 0,.int .i64 0]) ?_ 0 _ rfl;(with_reducible repeat (first|refine blk_drewN ?_ _|refine blk_drew ?_|refine blk_alloc ?_ _));exact BK719.out) hb);replace HB:=bs_ HB hb;(try clear hb);(try clear hb2);(try clear hk);(try clear hi);obtain⟨Ao17,co17,eo17⟩:=Kd.R_slice HO_4.out;subst eo17)))
        go_ret2
        exact⟨_,rr_,by first|exact Kd.R_nil _ _ _ _ _|exact Kd.N_nil _ _ _ _ _|exact Kd.V_nil _ _ _ _ _|exact Kd.Q_nil _ _ _ _ _|exact Kd.S_nil _ _ _ _ _,bw HB.out⟩
       rw[if_neg c13] at H
       obtain⟨c13b0,c13b1⟩:=eF_ c13
       by_cases c18:x4_1.length<8796093022208
       ·
        rw[if_pos c18] at H
        have LMc18:=A_ c18
        clear c18
        obtain⟨y725,hy725⟩:∃ y_:List (S37),y_=(x4_1++[(⟨wrap64 (bt x0_1 0),t721⟩:S37)]):=⟨_,rfl⟩
        replace H:(if 0≤(wrap64 (1+t722)) then (if (wrap64 (1+t722))≤(x0_1.size:Int) then (impl_ReadCode.l0 k1 (x0_1.extract ((wrap64 (1+t722)):Int).toNat x0_1.size) y725) else (none)) else (none))=some (r1,r2):=by first|(rw[hy725];with_reducible exact H)|(have H2_:=(Option.bind_some _ _).symm.trans H;rw[hy725];with_reducible exact H2_)|(have H2_:=(Option.bind_some _ _).symm.trans H;with_reducible exact H2_)|with_reducible exact H|(rw[hy725];exact H)|exact H
        have Ny725:=A_ hy725
        clear hy725
        obtain⟨ji19,hji19⟩:∃ j_:Int,(wrap64 (1+t722))=j_:=⟨_,rfl⟩
        replace H:(if 0≤(ji19) then (if (ji19)≤(x0_1.size:Int) then (impl_ReadCode.l0 k1 (x0_1.extract ((ji19):Int).toNat x0_1.size) y725) else (none)) else (none))=some (r1,r2):=by first|(rw[hji19] at H;exact H)|(simp only[hji19] at H ⊢;exact H)
        (try rw[hji19] at A8)
        (try rw[hji19] at A9)
        (try rw[hji19] at A11)
        have hji19w:(IntKind.i64.wrap (1+t722))=ji19:=(i64_w _).trans hji19
        by_cases c20:0≤(ji19)
        ·
         rw[if_pos c20] at H
         have c20b0:=eq_true c20
         have c20b1:=decide_eq_true c20
         clear c20
         by_cases c21:(ji19)≤(x0_1.size:Int)
         ·
          rw[if_pos c21] at H
          have c21b0:=eq_true c21
          have c21b1:=decide_eq_true c21
          clear c21
          have H':=A_ H
          clear H
          have p6:0≤(0:Int):=(by omega)
          have q6:0<x0_1.size:=(by have:(0:Int)<(x0_1.size:Int):=od_;omega)
          have hx6:∀ h:0<x0_1.size,((x0_1[0]'h).toNat:Int)=bt x0_1 0:=bt_at x0_1 0
          clear p6
          have qi6:(0<(x0_1.size:Int))=True:=eq_true (od_)
          replace q6:=eq_true q6
          go_wp2_with (first|((with_reducible refine gd_ 5 rfl ?_);(try (refine gate_guard (by rfl) ?_;dsimp only));refine bx_ #[.int .i64 0,.int .i64 0] 37 ?_;intro gb719 hg w22 hbox hb;have BK719:=A_ hbox;have GW719:=gw_ hg HB;have GE719:=GW719;replace HO_4:=A_ (Kd.R_below (Kd.R_elderB (kr_ HO_4.out) gb719 (Nat.le_of_eq hg.symm)) hb);replace HB:=bs_ HB hb;clear hb hbox hg;obtain⟨hcz23_0,hcz23_1⟩:=cs2_ BK719.out;obtain⟨hfz23_0,hfz23_1⟩:=fz2_ BK719.out;have hF23:=@twice1 _ _ _ hcz23_1;have hG23:=@twice2 _ _ _ hcz23_1)|(go_at_call 17;(with_reducible refine(impl_formOf.calls k1 (wrap64 (bt x0_1 0)) t720 _ A8.out).mono ?_);rintro e w' ⟨rfl,⟨nd,rfl⟩⟩;(try first|exact⟨rfl,_,World.drewN_drewN _ _ _⟩|exact⟨rfl,_,Eq.trans (World.drewN_drewN _ _ _) (congrArg (World.drewN _) (Nat.add_assoc _ _ _))⟩))|(go_at_call 23;(with_reducible refine(impl_takeA.calls k1 (x0_1.extract 1 x0_1.size) t720 t721 t722 true _ A9.out).mono ?_);rintro e w' ⟨rfl,⟨nd,rfl⟩⟩;(try first|exact⟨rfl,_,World.drewN_drewN _ _ _⟩|exact⟨rfl,_,Eq.trans (World.drewN_drewN _ _ _) (congrArg (World.drewN _) (Nat.add_assoc _ _ _))⟩))|(go_at_call 24;(with_reducible refine(impl_GoodIns.calls k1 (wrap64 (bt x0_1 0)) t721 true _ A11.out).mono ?_);rintro e w24 ⟨rfl,hb⟩;replace HO_4:=A_ (Kd.R_below (by(with_reducible repeat (first|apply Kd.R_alloc|apply Kd.R_drewN|apply Kd.R_drew));exact(Kd.R_mono (Kd.R_far (p:=⟨gb719,1,none⟩) (Kd.R_far (p:=⟨gb719,1,none⟩) (Kd.R_far (p:=⟨gb719,0,none⟩) (Kd.R_mono HO_4.out (fun k_ hk=>(⟨hk,hk.2⟩:_∧k_≠gb719))) (fun _ hk=>hk.2) (.int .i64 (wrap64 (bt x0_1 0)))) (fun _ hk=>hk.2) (.int .i64 0)) (fun _ hk=>hk.2) (.int .i64 t721)) (fun _ h_=>h_.1))) hb);replace BK719:=A_ (blk_below (g:=gb719) (o:=.cells #[.int .i64 (wrap64 (bt x0_1 0)),.int .i64 t721] 37 (0,0)) (by refine blk_put (cs:=#[.int .i64 (wrap64 (bt x0_1 0)),.int .i64 0]) ?_ 1 _ rfl;refine blk_put (cs:=#[.int .i64 (wrap64 (bt x0_1 0)),.int .i64 0]) ?_ 1 _ rfl;refine blk_put (cs:=#[.int .i64 0,.int .i64 0]) ?_ 0 _ rfl;(with_reducible repeat (first|refine blk_drewN ?_ _|refine blk_drew ?_|refine blk_alloc ?_ _));exact BK719.out) hb);replace HB:=bs_ HB hb;(try clear hb);(try clear hb2);(try clear hk);(try clear hi);obtain⟨Ao25,co25,eo25⟩:=Kd.R_slice HO_4.out;subst eo25;obtain⟨hcz26_0,hcz26_1⟩:=cs2_ BK719.out;obtain⟨hfz26_0,hfz26_1⟩:=fz2_ BK719.out)|((with_reducible refine gate_builtin (b:=.append) (xs:=#[.tmp 40,.tmp 42]) rfl ?_);(try (refine gate_guard (by rfl) ?_;dsimp only));at_builtin;refine Kd.R_append k37 (w0:=w) w.heap.size rfl (.tmp 40) (.tmp 42) 23 37 (.agg #[(.int .i64 0),(.int .i64 0)]) 16 rfl Try.underlying23 info37 rfl (by decide) (by omega) (.slice Ao25 x4_1.length co25) x4_1 (⟨wrap64 (bt x0_1 0),t721⟩:S37) [.int .i64 (wrap64 (bt x0_1 0)),.int .i64 t721] (fun k_=>k_≠gb719) (fun _=>False) rfl rfl ?aP (fun _ hk=>hk.elim) ?aF ?aO ?aB ?aS ?aL ?_;(case aP=>exact k37_mkM _ _ _ (⟨wrap64 (bt x0_1 0),t721⟩:S37));(case aB=>exact(bw HB.out));(case aF=>exact(fun k_ hk=>Kd.freshB (g:=gb719) (o:=.cells #[.int .i64 (wrap64 (bt x0_1 0)),.int .i64 t721] 37 (0,0)) (bk BK719.out) k_ hk));(case aO=>exact(by(with_reducible repeat (first|apply Kd.R_alloc|apply Kd.R_drewN|apply Kd.R_drew));exact Kd.R_mono HO_4.out (fun _ hk=>hk.2)));(case aS=>exact(below_size (bw HB.out)));(case aL=>have:=LMc18.out;omega);intro v726 w27 ho hb hg hat;rw[←Ny725.out] at ho;have HO727:=A_ (ho);replace BK719:=A_ (blk_grown (g:=gb719) (o:=.cells #[.int .i64 (wrap64 (bt x0_1 0)),.int .i64 t721] 37 (0,0)) (bk BK719.out) hg (Kd.R_away HO_4.out (fun _ hk=>hk.2)));replace HB:=A_ (hb);clear HO_4;clear ho hb hg hat))
          repeat (go_quiet (first|((with_reducible refine gate_dst (N:=5) rfl ?_);(try (refine gate_guard (by rfl) ?_;dsimp only));refine box_event ?hg (N:=5) ?hd (cs:=#[.int .i64 0,.int .i64 0]) (t:=37) ?hr ?_;(case hd=>rfl);(case hg=>rfl);(case hr=>first|(go_simp;done)|(go_simp;rfl));intro gb719 hg w22 hbox hb;have n0_:=A_ (Kd.R_below (Kd.R_elderB (kr_ HO_4.out) gb719 (Nat.le_of_eq hg.symm)) hb);have n1_:=A_ (below_step (bw HB.out) hb);have n2_:=A_ (hbox);have n3_:=A_ ((sz_ hg (bw HB.out):w.heap.size≤gb719));have n4_:=A_ ((sz_ hg (bw HB.out):w.heap.size≤gb719));clear HO_4;clear HB;have HO_4:=n0_;have HB:=n1_;have BK719:=n2_;have GW719:=n3_;have GE719:=n4_;clear n0_ n1_ n2_ n3_ n4_;clear hb hbox hg;obtain⟨hcz23_0,hcz23_1⟩:=cs2_ BK719.out;obtain⟨hfz23_0,hfz23_1⟩:=fz2_ BK719.out;have hF23:=@twice1 _ _ _ hcz23_1;have hG23:=@twice2 _ _ _ hcz23_1)|(go_at_call 17;(with_reducible refine(impl_formOf.calls k1 (wrap64 (bt x0_1 0)) t720 _ A8.out).mono ?_);rintro e w' ⟨rfl,⟨nd,rfl⟩⟩;(try first|exact⟨rfl,_,World.drewN_drewN _ _ _⟩|exact⟨rfl,_,Eq.trans (World.drewN_drewN _ _ _) (congrArg (World.drewN _) (Nat.add_assoc _ _ _))⟩))|(go_at_call 23;(with_reducible refine(impl_takeA.calls k1 (x0_1.extract 1 x0_1.size) t720 t721 t722 true _ A9.out).mono ?_);rintro e w' ⟨rfl,⟨nd,rfl⟩⟩;(try first|exact⟨rfl,_,World.drewN_drewN _ _ _⟩|exact⟨rfl,_,Eq.trans (World.drewN_drewN _ _ _) (congrArg (World.drewN _) (Nat.add_assoc _ _ _))⟩))|(go_at_call 24;(with_reducible refine(impl_GoodIns.calls k1 (wrap64 (bt x0_1 0)) t721 true _ A11.out).mono ?_);rintro e w24 ⟨rfl,hb⟩;have n0_:=A_ (Kd.R_below (by(with_reducible repeat (first|apply Kd.R_alloc|apply Kd.R_drewN|apply Kd.R_drew));exact(Kd.R_mono (Kd.R_far (p:=⟨gb719,1,none⟩) (Kd.R_far (p:=⟨gb719,1,none⟩) (Kd.R_far (p:=⟨gb719,0,none⟩) (Kd.R_mono HO_4.out (fun k_ hk=>(⟨hk,hk.2⟩:_∧k_≠gb719))) (fun _ hk=>hk.2) (.int .i64 (wrap64 (bt x0_1 0)))) (fun _ hk=>hk.2) (.int .i64 0)) (fun _ hk=>hk.2) (.int .i64 t721)) (fun _ h_=>h_.1))) hb);have n1_:=A_ (blk_below (g:=gb719) (o:=.cells #[.int .i64 (wrap64 (bt x0_1 0)),.int .i64 t721] 37 (0,0)) (by refine blk_put (cs:=#[.int .i64 (wrap64 (bt x0_1 0)),.int .i64 0]) ?_ 1 _ rfl;refine blk_put (cs:=#[.int .i64 (wrap64 (bt x0_1 0)),.int .i64 0]) ?_ 1 _ rfl;refine blk_put (cs:=#[.int .i64 0,.int .i64 0]) ?_ 0 _ rfl;(with_reducible repeat (first|refine blk_drewN ?_ _|refine blk_drew ?_|refine blk_alloc ?_ _));exact BK719.out) hb);have n2_:=A_ (below_step (bw HB.out) hb);clear HO_4;clear BK719;clear HB;have HO_4:=n0_;have BK719:=n1_;have HB:=n2_;clear n0_ n1_ n2_;(try clear hb);(try clear hb2);(try clear hk);(try clear hi);obtain⟨Ao25,co25,eo25⟩:=Kd.R_slice HO_4.out;subst eo25;obtain⟨hcz26_0,hcz26_1⟩:=cs2_ BK719.out;obtain⟨hfz26_0,hfz26_1⟩:=fz2_ BK719.out)|((with_reducible refine gate_builtin (b:=.append) (xs:=#[.tmp 40,.tmp 42]) rfl ?_);(try (refine gate_guard (by rfl) ?_;dsimp only));at_builtin;refine Kd.R_append k37 (w0:=w) w.heap.size rfl (.tmp 40) (.tmp 42) 23 37 (.agg #[(.int .i64 0),(.int .i64 0)]) 16 rfl Try.underlying23 info37 rfl (by decide) (by omega) (.slice Ao25 x4_1.length co25) x4_1 (⟨wrap64 (bt x0_1 0),t721⟩:S37) [.int .i64 (wrap64 (bt x0_1 0)),.int .i64 t721] (fun k_=>k_≠gb719) (fun _=>False) rfl rfl ?aP (fun _ hk=>hk.elim) ?aF ?aO ?aB ?aS ?aL ?_;(case aP=>exact k37_mkM _ _ _ (⟨wrap64 (bt x0_1 0),t721⟩:S37));(case aB=>exact(bw HB.out));(case aF=>exact(fun k_ hk=>Kd.freshB (g:=gb719) (o:=.cells #[.int .i64 (wrap64 (bt x0_1 0)),.int .i64 t721] 37 (0,0)) (bk BK719.out) k_ hk));(case aO=>exact(by(with_reducible repeat (first|apply Kd.R_alloc|apply Kd.R_drewN|apply Kd.R_drew));exact Kd.R_mono HO_4.out (fun _ hk=>hk.2)));(case aS=>exact(below_size (bw HB.out)));(case aL=>have:=LMc18.out;omega);intro v726 w27 ho hb hg hat;rw[←Ny725.out] at ho;have n0_:=A_ (blk_grown (g:=gb719) (o:=.cells #[.int .i64 (wrap64 (bt x0_1 0)),.int .i64 t721] 37 (0,0)) (bk BK719.out) hg (Kd.R_away HO_4.out (fun _ hk=>hk.2)));have n1_:=A_ (hb);have n2_:=A_ (ho);clear BK719;clear HB;clear HO_4;have BK719:=n0_;have HB:=n1_;have HO727:=n2_;clear n0_ n1_ n2_;clear ho hb hg hat));try go_wp2_with (first|((with_reducible refine gd_ 5 rfl ?_);(try (refine gate_guard (by rfl) ?_;dsimp only));refine bx_ #[.int .i64 0,.int .i64 0] 37 ?_;intro gb719 hg w22 hbox hb;have BK719:=A_ hbox;have GW719:=gw_ hg HB;have GE719:=GW719;replace HO_4:=A_ (Kd.R_below (Kd.R_elderB (kr_ HO_4.out) gb719 (Nat.le_of_eq hg.symm)) hb);replace HB:=bs_ HB hb;clear hb hbox hg;obtain⟨hcz23_0,hcz23_1⟩:=cs2_ BK719.out;obtain⟨hfz23_0,hfz23_1⟩:=fz2_ BK719.out;have hF23:=@twice1 _ _ _ hcz23_1;have hG23:=@twice2 _ _ _ hcz23_1)|(go_at_call 17;(with_reducible refine(impl_formOf.calls k1 (wrap64 (bt x0_1 0)) t720 _ A8.out).mono ?_);rintro e w' ⟨rfl,⟨nd,rfl⟩⟩;(try first|exact⟨rfl,_,World.drewN_drewN _ _ _⟩|exact⟨rfl,_,Eq.trans (World.drewN_drewN _ _ _) (congrArg (World.drewN _) (Nat.add_assoc _ _ _))⟩))|(go_at_call 23;(with_reducible refine(impl_takeA.calls k1 (x0_1.extract 1 x0_1.size) t720 t721 t722 true _ A9.out).mono ?_);rintro e w' ⟨rfl,⟨nd,rfl⟩⟩;(try first|exact⟨rfl,_,World.drewN_drewN _ _ _⟩|exact⟨rfl,_,Eq.trans (World.drewN_drewN _ _ _) (congrArg (World.drewN _) (Nat.add_assoc _ _ _))⟩))|(go_at_call 24;(with_reducible refine(impl_GoodIns.calls k1 (wrap64 (bt x0_1 0)) t721 true _ A11.out).mono ?_);rintro e w24 ⟨rfl,hb⟩;replace HO_4:=A_ (Kd.R_below (by(with_reducible repeat (first|apply Kd.R_alloc|apply Kd.R_drewN|apply Kd.R_drew));exact(Kd.R_mono (Kd.R_far (p:=⟨gb719,1,none⟩) (Kd.R_far (p:=⟨gb719,1,none⟩) (Kd.R_far (p:=⟨gb719,0,none⟩) (Kd.R_mono HO_4.out (fun k_ hk=>(⟨hk,hk.2⟩:_∧k_≠gb719))) (fun _ hk=>hk.2) (.int .i64 (wrap64 (bt x0_1 0)))) (fun _ hk=>hk.2) (.int .i64 0)) (fun _ hk=>hk.2) (.int .i64 t721)) (fun _ h_=>h_.1))) hb);replace BK719:=A_ (blk_below (g:=gb719) (o:=.cells #[.int .i64 (wrap64 (bt x0_1 0)),.int .i64 t721] 37 (0,0)) (by refine blk_put (cs:=#[.int .i64 (wrap64 (bt x0_1 0)),.int .i64 0]) ?_ 1 _ rfl;refine blk_put (cs:=#[.int .i64 (wrap64 (bt x0_1 0)),.int .i64 0]) ?_ 1 _ rfl;refine blk_put (cs:=#[.int .i64 0,.int .i64 0]) ?_ 0 _ rfl;(with_reducible repeat (first|refine blk_drewN ?_ _|refine blk_drew ?_|refine blk_alloc ?_ _));exact BK719.out) hb);replace HB:=bs_ HB hb;(try clear hb);(try clear hb2);(try clear hk);(try clear hi);obtain⟨Ao25,co25,eo25⟩:=Kd.R_slice HO_4.out;subst eo25;obtain⟨hcz26_0,hcz26_1⟩:=cs2_ BK719.out;obtain⟨hfz26_0,hfz26_1⟩:=fz2_ BK719.out)|((with_reducible refine gate_builtin (b:=.append) (xs:=#[.tmp 40,.tmp 42]) rfl ?_);(try (refine gate_guard (by rfl) ?_;dsimp only));at_builtin;refine Kd.R_append k37 (w0:=w) w.heap.size rfl (.tmp 40) (.tmp 42) 23 37 (.agg #[(.int .i64 0),(.int .i64 0)]) 16 rfl Try.underlying23 info37 rfl (by decide) (by omega) (.slice Ao25 x4_1.length co25) x4_1 (⟨wrap64 (bt x0_1 0),t721⟩:S37) [.int .i64 (wrap64 (bt x0_1 0)),.int .i64 t721] (fun k_=>k_≠gb719) (fun _=>False) rfl rfl ?aP (fun _ hk=>hk.elim) ?aF ?aO ?aB ?aS ?aL ?_;(case aP=>exact k37_mkM _ _ _ (⟨wrap64 (bt x0_1 0),t721⟩:S37));(case aB=>exact(bw HB.out));(case aF=>exact(fun k_ hk=>Kd.freshB (g:=gb719) (o:=.cells #[.int .i64 (wrap64 (bt x0_1 0)),.int .i64 t721] 37 (0,0)) (bk BK719.out) k_ hk));(case aO=>exact(by(with_reducible repeat (first|apply Kd.R_alloc|apply Kd.R_drewN|apply Kd.R_drew));exact Kd.R_mono HO_4.out (fun _ hk=>hk.2)));(case aS=>exact(below_size (bw HB.out)));(case aL=>have:=LMc18.out;omega);intro v726 w27 ho hb hg hat;rw[←Ny725.out] at ho;have HO727:=A_ (ho);replace BK719:=A_ (blk_grown (g:=gb719) (o:=.cells #[.int .i64 (wrap64 (bt x0_1 0)),.int .i64 t721] 37 (0,0)) (bk BK719.out) hg (Kd.R_away HO_4.out (fun _ hk=>hk.2)));replace HB:=A_ (hb);clear HO_4;clear ho hb hg hat)))
          go_roundg k1
          case measure=>have:=HK1.out;omega
          case rel=>exact⟨(x0_1.extract ((ji19):Int).toNat x0_1.size),(y725),(by first|rfl|(simp;done)|(simp only[←hji19]<;>(first|rfl|simp))|(simp[*];done)),H',⟨by have:=HK1.out;omega⟩,⟨by (with_reducible repeat (first|apply Kd.R_alloc|apply Kd.R_drewN|apply Kd.R_drew));exact Kd.R_mono HO727.out (fun _ hk=>trivial)⟩,⟨bw HB.out⟩⟩
         rw[if_neg c21] at H
         exact absurd H (by simp)
        rw[if_neg c20] at H
        exact absurd H (by simp)
       rw[if_neg c18] at H
       exact absurd H (by simp)
      replace c12:=Bool.eq_false_iff.mpr c12
      subst c12
      replace H:=iF_ H
      simp only[Option.some.injEq,Prod.mk.injEq] at H
      obtain⟨rfl,rfl⟩:=H
      have p6:0≤(0:Int):=(by omega)
      have q6:0<x0_1.size:=(by have:(0:Int)<(x0_1.size:Int):=od_;omega)
      have hx6:∀ h:0<x0_1.size,((x0_1[0]'h).toNat:Int)=bt x0_1 0:=bt_at x0_1 0
      clear p6
      have qi6:(0<(x0_1.size:Int))=True:=eq_true (od_)
      replace q6:=eq_true q6
      go_wp2_with (first|((with_reducible refine gd_ 5 rfl ?_);(try (refine gate_guard (by rfl) ?_;dsimp only));refine bx_ #[.int .i64 0,.int .i64 0] 37 ?_;intro gb719 hg w28 hbox hb;have BK719:=A_ hbox;have GW719:=gw_ hg HB;have GE719:=GW719;replace HO_4:=A_ (Kd.R_below (Kd.R_elderB (kr_ HO_4.out) gb719 (Nat.le_of_eq hg.symm)) hb);replace HB:=bs_ HB hb;clear hb hbox hg;obtain⟨hcz29_0,hcz29_1⟩:=cs2_ BK719.out;obtain⟨hfz29_0,hfz29_1⟩:=fz2_ BK719.out;have hF29:=@twice1 _ _ _ hcz29_1;have hG29:=@twice2 _ _ _ hcz29_1)|(go_at_call 17;(with_reducible refine(impl_formOf.calls k1 (wrap64 (bt x0_1 0)) t720 _ A8.out).mono ?_);rintro e w' ⟨rfl,⟨nd,rfl⟩⟩;(try first|exact⟨rfl,_,World.drewN_drewN _ _ _⟩|exact⟨rfl,_,Eq.trans (World.drewN_drewN _ _ _) (congrArg (World.drewN _) (Nat.add_assoc _ _ _))⟩))|(go_at_call 23;(with_reducible refine(impl_takeA.calls k1 (x0_1.extract 1 x0_1.size) t720 t721 t722 true _ A9.out).mono ?_);rintro e w' ⟨rfl,⟨nd,rfl⟩⟩;(try first|exact⟨rfl,_,World.drewN_drewN _ _ _⟩|exact⟨rfl,_,Eq.trans (World.drewN_drewN _ _ _) (congrArg (World.drewN _) (Nat.add_assoc _ _ _))⟩))|(go_at_call 24;(with_reducible refine(impl_GoodIns.calls k1 (wrap64 (bt x0_1 0)) t721 false _ A11.out).mono ?_);rintro e w30 ⟨rfl,hb⟩;replace HO_4:=A_ (Kd.R_below (by(with_reducible repeat (first|apply Kd.R_alloc|apply Kd.R_drewN|apply Kd.R_drew));exact(Kd.R_mono (Kd.R_far (p:=⟨gb719,1,none⟩) (Kd.R_far (p:=⟨gb719,1,none⟩) (Kd.R_far (p:=⟨gb719,0,none⟩) (Kd.R_mono HO_4.out (fun k_ hk=>(⟨hk,hk.2⟩:_∧k_≠gb719))) (fun _ hk=>hk.2) (.int .i64 (wrap64 (bt x0_1 0)))) (fun _ hk=>hk.2) (.int .i64 0)) (fun _ hk=>hk.2) (.int .i64 t721)) (fun _ h_=>h_.1))) hb);replace BK719:=A_ (blk_below (g:=gb719) (o:=.cells #[.int .i64 (wrap64 (bt x0_1 0)),.int .i64 t721] 37 (0,0)) (by refine blk_put (cs:=#[.int .i64 (wrap64 (bt x0_1 0)),.int .i64 0]) ?_ 1 _ rfl;refine blk_put (cs:=#[.int .i64 (wrap64 (bt x0_1 0)),.int .i64 0]) ?_ 1 _ rfl;refine blk_put (cs:=#[.int .i64 0,.int .i64 0]) ?_ 0 _ rfl;(with_reducible repeat (first|refine blk_drewN ?_ _|refine blk_drew ?_|refine blk_alloc ?_ _));exact BK719.out) hb);replace HB:=bs_ HB hb;(try clear hb);(try clear hb2);(try clear hk);(try clear hi)))
      repeat (go_quiet (first|((with_reducible refine gate_dst (N:=5) rfl ?_);(try (refine gate_guard (by rfl) ?_;dsimp only));refine box_event ?hg (N:=5) ?hd (cs:=#[.int .i64 0,.int .i64 0]) (t:=37) ?hr ?_;(case hd=>rfl);(case hg=>rfl);(case hr=>first|(go_simp;done)|(go_simp;rfl));intro gb719 hg w28 hbox hb;have n0_:=A_ (Kd.R_below (Kd.R_elderB (kr_ HO_4.out) gb719 (Nat.le_of_eq hg.symm)) hb);have n1_:=A_ (below_step (bw HB.out) hb);have n2_:=A_ (hbox);have n3_:=A_ ((sz_ hg (bw HB.out):w.heap.size≤gb719));have n4_:=A_ ((sz_ hg (bw HB.out):w.heap.size≤gb719));clear HO_4;clear HB;have HO_4:=n0_;have HB:=n1_;have BK719:=n2_;have GW719:=n3_;have GE719:=n4_;clear n0_ n1_ n2_ n3_ n4_;clear hb hbox hg;obtain⟨hcz29_0,hcz29_1⟩:=cs2_ BK719.out;obtain⟨hfz29_0,hfz29_1⟩:=fz2_ BK719.out;have hF29:=@twice1 _ _ _ hcz29_1;have hG29:=@twice2 _ _ _ hcz29_1)|(go_at_call 17;(with_reducible refine(impl_formOf.calls k1 (wrap64 (bt x0_1 0)) t720 _ A8.out).mono ?_);rintro e w' ⟨rfl,⟨nd,rfl⟩⟩;(try first|exact⟨rfl,_,World.drewN_drewN _ _ _⟩|exact⟨rfl,_,Eq.trans (World.drewN_drewN _ _ _) (congrArg (World.drewN _) (Nat.add_assoc _ _ _))⟩))|(go_at_call 23;(with_reducible refine(impl_takeA.calls k1 (x0_1.extract 1 x0_1.size) t720 t721 t722 true _ A9.out).mono ?_);rintro e w' ⟨rfl,⟨nd,rfl⟩⟩;(try first|exact⟨rfl,_,World.drewN_drewN _ _ _⟩|exact⟨rfl,_,Eq.trans (World.drewN_drewN _ _ _) (congrArg (World.drewN _) (Nat.add_assoc _ _ _))⟩))|(go_at_call 24;(with_reducible refine(impl_GoodIns.calls k1 (wrap64 (bt x0_1 0)) t721 false _ A11.out).mono ?_);rintro e w30 ⟨rfl,hb⟩;have n0_:=A_ (Kd.R_below (by(with_reducible repeat (first|apply Kd.R_alloc|apply Kd.R_drewN|apply Kd.R_drew));exact(Kd.R_mono (Kd.R_far (p:=⟨gb719,1,none⟩) (Kd.R_far (p:=⟨gb719,1,none⟩) (Kd.R_far (p:=⟨gb719,0,none⟩) (Kd.R_mono HO_4.out (fun k_ hk=>(⟨hk,hk.2⟩:_∧k_≠gb719))) (fun _ hk=>hk.2) (.int .i64 (wrap64 (bt x0_1 0)))) (fun _ hk=>hk.2) (.int .i64 0)) (fun _ hk=>hk.2) (.int .i64 t721)) (fun _ h_=>h_.1))) hb);have n1_:=A_ (blk_below (g:=gb719) (o:=.cells #[.int .i64 (wrap64 (bt x0_1 0)),.int .i64 t721] 37 (0,0)) (by refine blk_put (cs:=#[.int .i64 (wrap64 (bt x0_1 0)),.int .i64 0]) ?_ 1 _ rfl;refine blk_put (cs:=#[.int .i64 (wrap64 (bt x0_1 0)),.int .i64 0]) ?_ 1 _ rfl;refine blk_put (cs:=#[.int .i64 0,.int .i64 0]) ?_ 0 _ rfl;(with_reducible repeat (first|refine blk_drewN ?_ _|refine blk_drew ?_|refine blk_alloc ?_ _));exact BK719.out) hb);have n2_:=A_ (below_step (bw HB.out) hb);clear HO_4;clear BK719;clear HB;have HO_4:=n0_;have BK719:=n1_;have HB:=n2_;clear n0_ n1_ n2_;(try clear hb);(try clear hb2);(try clear hk);(try clear hi)));try go_wp2_with (first|((with_reducible refine gd_ 5 rfl ?_);(try (refine gate_guard (by rfl) ?_;dsimp only));refine bx_ #[.int .i64 0,.int .i64 0] 37 ?_;intro gb719 hg w28 hbox hb;have BK719:=A_ hbox;have GW719:=gw_ hg HB;have GE719:=GW719;replace HO_4:=A_ (Kd.R_below (Kd.R_elderB (kr_ HO_4.out) gb719 (Nat.le_of_eq hg.symm)) hb);replace HB:=bs_ HB hb;clear hb hbox hg;obtain⟨hcz29_0,hcz29_1⟩:=cs2_ BK719.out;obtain⟨hfz29_0,hfz29_1⟩:=fz2_ BK719.out;have hF29:=@twice1 _ _ _ hcz29_1;have hG29:=@twice2 _ _ _ hcz29_1)|(go_at_call 17;(with_reducible refine(impl_formOf.calls k1 (wrap64 (bt x0_1 0)) t720 _ A8.out).mono ?_);rintro e w' ⟨rfl,⟨nd,rfl⟩⟩;(try first|exact⟨rfl,_,World.drewN_drewN _ _ _⟩|exact⟨rfl,_,Eq.trans (World.drewN_drewN _ _ _) (congrArg (World.drewN _) (Nat.add_assoc _ _ _))⟩))|(go_at_call 23;(with_reducible refine(impl_takeA.calls k1 (x0_1.extract 1 x0_1.size) t720 t721 t722 true _ A9.out).mono ?_);rintro e w' ⟨rfl,⟨nd,rfl⟩⟩;(try first|exact⟨rfl,_,World.drewN_drewN _ _ _⟩|exact⟨rfl,_,Eq.trans (World.drewN_drewN _ _ _) (congrArg (World.drewN _) (Nat.add_assoc _ _ _))⟩))|(go_at_call 24;(with_reducible refine(impl_GoodIns.calls k1 (wrap64 (bt x0_1 0)) t721 false _ A11.out).mono ?_);rintro e w30 ⟨rfl,hb⟩;replace HO_4:=A_ (Kd.R_below (by(with_reducible repeat (first|apply Kd.R_alloc|apply Kd.R_drewN|apply Kd.R_drew));exact(Kd.R_mono (Kd.R_far (p:=⟨gb719,1,none⟩) (Kd.R_far (p:=⟨gb719,1,none⟩) (Kd.R_far (p:=⟨gb719,0,none⟩) (Kd.R_mono HO_4.out (fun k_ hk=>(⟨hk,hk.2⟩:_∧k_≠gb719))) (fun _ hk=>hk.2) (.int .i64 (wrap64 (bt x0_1 0)))) (fun _ hk=>hk.2) (.int .i64 0)) (fun _ hk=>hk.2) (.int .i64 t721)) (fun _ h_=>h_.1))) hb);replace BK719:=A_ (blk_below (g:=gb719) (o:=.cells #[.int .i64 (wrap64 (bt x0_1 0)),.int .i64 t721] 37 (0,0)) (by refine blk_put (cs:=#[.int .i64 (wrap64 (bt x0_1 0)),.int .i64 0]) ?_ 1 _ rfl;refine blk_put (cs:=#[.int .i64 (wrap64 (bt x0_1 0)),.int .i64 0]) ?_ 1 _ rfl;refine blk_put (cs:=#[.int .i64 0,.int .i64 0]) ?_ 0 _ rfl;(with_reducible repeat (first|refine blk_drewN ?_ _|refine blk_drew ?_|refine blk_alloc ?_ _));exact BK719.out) hb);replace HB:=bs_ HB hb;(try clear hb);(try clear hb2);(try clear hk);(try clear hi))))
      go_ret2
      exact⟨_,rr_,by first|exact Kd.R_nil _ _ _ _ _|exact Kd.N_nil _ _ _ _ _|exact Kd.V_nil _ _ _ _ _|exact Kd.Q_nil _ _ _ _ _|exact Kd.S_nil _ _ _ _ _,bw HB.out⟩
     replace c10:=Bool.eq_false_iff.mpr c10
     subst c10
     replace H:=iF_ H
     simp only[Option.some.injEq,Prod.mk.injEq] at H
     obtain⟨rfl,rfl⟩:=H
     have p6:0≤(0:Int):=(by omega)
     have q6:0<x0_1.size:=(by have:(0:Int)<(x0_1.size:Int):=od_;omega)
     have hx6:∀ h:0<x0_1.size,((x0_1[0]'h).toNat:Int)=bt x0_1 0:=bt_at x0_1 0
     clear p6
     have qi6:(0<(x0_1.size:Int))=True:=eq_true (od_)
     replace q6:=eq_true q6
     go_wp2_with (first|((with_reducible refine gd_ 5 rfl ?_);(try (refine gate_guard (by rfl) ?_;dsimp only));refine bx_ #[.int .i64 0,.int .i64 0] 37 ?_;intro gb719 hg w31 hbox hb;have BK719:=A_ hbox;have GW719:=gw_ hg HB;have GE719:=GW719;replace HO_4:=A_ (Kd.R_below (Kd.R_elderB (kr_ HO_4.out) gb719 (Nat.le_of_eq hg.symm)) hb);replace HB:=bs_ HB hb;clear hb hbox hg;obtain⟨hcz32_0,hcz32_1⟩:=cs2_ BK719.out;obtain⟨hfz32_0,hfz32_1⟩:=fz2_ BK719.out;have hF32:=@twice1 _ _ _ hcz32_1;have hG32:=@twice2 _ _ _ hcz32_1)|(go_at_call 17;(with_reducible refine(impl_formOf.calls k1 (wrap64 (bt x0_1 0)) t720 _ A8.out).mono ?_);rintro e w' ⟨rfl,⟨nd,rfl⟩⟩;(try first|exact⟨rfl,_,World.drewN_drewN _ _ _⟩|exact⟨rfl,_,Eq.trans (World.drewN_drewN _ _ _) (congrArg (World.drewN _) (Nat.add_assoc _ _ _))⟩))|(go_at_call 23;(with_reducible refine(impl_takeA.calls k1 (x0_1.extract 1 x0_1.size) t720 t721 t722 false _ A9.out).mono ?_);rintro e w' ⟨rfl,⟨nd,rfl⟩⟩;(try first|exact⟨rfl,_,World.drewN_drewN _ _ _⟩|exact⟨rfl,_,Eq.trans (World.drewN_drewN _ _ _) (congrArg (World.drewN _) (Nat.add_assoc _ _ _))⟩)))
     repeat (go_quiet (first|((with_reducible refine gate_dst (N:=5) rfl ?_);(try (refine gate_guard (by rfl) ?_;dsimp only));refine box_event ?hg (N:=5) ?hd (cs:=#[.int .i64 0,.int .i64 0]) (t:=37) ?hr ?_;(case hd=>rfl);(case hg=>rfl);(case hr=>first|(go_simp;done)|(go_simp;rfl));intro gb719 hg w31 hbox hb;have n0_:=A_ (Kd.R_below (Kd.R_elderB (kr_ HO_4.out) gb719 (Nat.le_of_eq hg.symm)) hb);have n1_:=A_ (below_step (bw HB.out) hb);have n2_:=A_ (hbox);have n3_:=A_ ((sz_ hg (bw HB.out):w.heap.size≤gb719));have n4_:=A_ ((sz_ hg (bw HB.out):w.heap.size≤gb719));clear HO_4;clear HB;have HO_4:=n0_;have HB:=n1_;have BK719:=n2_;have GW719:=n3_;have GE719:=n4_;clear n0_ n1_ n2_ n3_ n4_;clear hb hbox hg;obtain⟨hcz32_0,hcz32_1⟩:=cs2_ BK719.out;obtain⟨hfz32_0,hfz32_1⟩:=fz2_ BK719.out;have hF32:=@twice1 _ _ _ hcz32_1;have hG32:=@twice2 _ _ _ hcz32_1)|(go_at_call 17;(with_reducible refine(impl_formOf.calls k1 (wrap64 (bt x0_1 0)) t720 _ A8.out).mono ?_);rintro e w' ⟨rfl,⟨nd,rfl⟩⟩;(try first|exact⟨rfl,_,World.drewN_drewN _ _ _⟩|exact⟨rfl,_,Eq.trans (World.drewN_drewN _ _ _) (congrArg (World.drewN _) (Nat.add_assoc _ _ _))⟩))|(go_at_call 23;(with_reducible refine(impl_takeA.calls k1 (x0_1.extract 1 x0_1.size) t720 t721 t722 false _ A9.out).mono ?_);rintro e w' ⟨rfl,⟨nd,rfl⟩⟩;(try first|exact⟨rfl,_,World.drewN_drewN _ _ _⟩|exact⟨rfl,_,Eq.trans (World.drewN_drewN _ _ _) (congrArg (World.drewN _) (Nat.add_assoc _ _ _))⟩)));try go_wp2_with (first|((with_reducible refine gd_ 5 rfl ?_);(try (refine gate_guard (by rfl) ?_;dsimp only));refine bx_ #[.int .i64 0,.int .i64 0] 37 ?_;intro gb719 hg w31 hbox hb;have BK719:=A_ hbox;have GW719:=gw_ hg HB;have GE719:=GW719;replace HO_4:=A_ (Kd.R_below (Kd.R_elderB (kr_ HO_4.out) gb719 (Nat.le_of_eq hg.symm)) hb);replace HB:=bs_ HB hb;clear hb hbox hg;obtain⟨hcz32_0,hcz32_1⟩:=cs2_ BK719.out;obtain⟨hfz32_0,hfz32_1⟩:=fz2_ BK719.out;have hF32:=@twice1 _ _ _ hcz32_1;have hG32:=@twice2 _ _ _ hcz32_1)|(go_at_call 17;(with_reducible refine(impl_formOf.calls k1 (wrap64 (bt x0_1 0)) t720 _ A8.out).mono ?_);rintro e w' ⟨rfl,⟨nd,rfl⟩⟩;(try first|exact⟨rfl,_,World.drewN_drewN _ _ _⟩|exact⟨rfl,_,Eq.trans (World.drewN_drewN _ _ _) (congrArg (World.drewN _) (Nat.add_assoc _ _ _))⟩))|(go_at_call 23;(with_reducible refine(impl_takeA.calls k1 (x0_1.extract 1 x0_1.size) t720 t721 t722 false _ A9.out).mono ?_);rintro e w' ⟨rfl,⟨nd,rfl⟩⟩;(try first|exact⟨rfl,_,World.drewN_drewN _ _ _⟩|exact⟨rfl,_,Eq.trans (World.drewN_drewN _ _ _) (congrArg (World.drewN _) (Nat.add_assoc _ _ _))⟩))))
     go_ret2
     exact⟨_,rr_,by first|exact Kd.R_nil _ _ _ _ _|exact Kd.N_nil _ _ _ _ _|exact Kd.V_nil _ _ _ _ _|exact Kd.Q_nil _ _ _ _ _|exact Kd.S_nil _ _ _ _ _,bw HB.out⟩
    rw[if_neg c7] at H
    exact absurd H (by simp)
   rw[if_neg c5] at H
   exact absurd H (by simp)

attribute [local go_sem high] eqA37
/-! ### laws_sameCode: function 8 -/
def laws_sameCode.l0:Nat→List (S37)→List (S37)→Int→Int→Option (Bool)
 |0,_,_,_,_=>none
 |k+1,x0,x1,x12,x13=>if x13<x12 then (if 0≤x13 then (if x13<(x0.length:Int) then (if x13<(x1.length:Int) then (if (!(((rd_T37 x0 x13).f0)==((rd_T37 x1 x13).f0)) ||(!(((rd_T37 x0 x13).f1)==((rd_T37 x1 x13).f1))))=true then (some false) else (laws_sameCode.l0 k x0 x1 x12 (wrap64 (x13+1)))) else (none)) else (none)) else (none)) else (some true)
def laws_sameCode.f (k:Nat) (l0:List (S37)) (l1:List (S37)):Option (Bool):=if (l0.length:Int)=(l1.length:Int) then (laws_sameCode.l0 k l0 l1 (l0.length:Int) 0) else (some false)
theorem laws_sameCode.calls (k:Nat) (A0:Option Addr) (c0:Nat) (l0:List (S37)) (A1:Option Addr) (c1:Nat) (l1:List (S37)) (r:Bool) (w:World) (hr0:Kd.C k37 w A0 l0.length l0) (hc0:l0.length≤c0) (hr1:Kd.C k37 w A1 l1.length l1) (hc1:l1.length≤c1) (h:laws_sameCode.f k l0 l1=some r):
  Calls Try.prog 8 #[.slice A0 l0.length c0,.slice A1 l1.length c1] w fun e w'=>e=.returned (.bool r)∧Drawn0 w w':=by
 have hu37:=Try.underlying37
 have HR0:=A_ hr0
 have HC0:=A_ hc0
 clear hr0 hc0
 have HR1:=A_ hr1
 have HC1:=A_ hc1
 clear hr1 hc1
 have H:(if (l0.length:Int)=(l1.length:Int) then (laws_sameCode.l0 k l0 l1 (l0.length:Int) 0) else (some false))=some r:=h
 clear h
 by_cases c3:(l0.length:Int)=(l1.length:Int)
 ·
  rw[if_pos c3] at H
  obtain⟨c3b0,c3b1⟩:=eT_ c3
  have c3b2:(l0.length==l1.length)=true:=by first|simpa using c3|(simp at c3 ⊢;omega)
  clear c3
  have H':=A_ H
  clear H
  go_enter Try.func8,Try.ntmps8
  go_wp2
  repeat (go_quiet (fail);try go_wp2)
  (try simp only[Act.put,List.setIfInBounds_toArray,List.set_cons_zero,List.set_cons_succ])
  go_loopg [13] k (fun kq v13 w'=>∃ (x13_1:Int),v13=.int .i64 x13_1∧Aside0 (laws_sameCode.l0 kq l0 l1 (l0.length:Int) x13_1=some r)∧Aside0 (kq≤k)∧Drawn0 w w')
  case atStart=>exact⟨(0),rs_,H',⟨Nat.le_refl _⟩,dr_⟩
  case round=>
   clear H'
   try clear c1 c3 c3b0 c3b1 c3b2
   obtain⟨x13_1,rfl,HA,HK1,⟨m1,rfl⟩⟩:=hrel
   cases gk with
   |zero=>exact absurd HA.out (by simp[laws_sameCode.l0])
   |succ k1=>
    have H:=HA.out
    clear HA
    simp only[laws_sameCode.l0] at H
    by_cases c4:x13_1<(l0.length:Int)
    ·
     rw[if_pos c4] at H
     have c4b0:=decide_eq_true c4
     clear c4
     by_cases c5:0≤x13_1
     ·
      rw[if_pos c5] at H
      have c5b0:=decide_eq_true c5
      clear c5
      by_cases c6:x13_1<(l0.length:Int)
      ·
       rw[if_pos c6] at H
       have c6b0:=decide_eq_true c6
       clear c6
       by_cases c7:x13_1<(l1.length:Int)
       ·
        rw[if_pos c7] at H
        have c7b0:=decide_eq_true c7
        clear c7
        by_cases c8:(!(((rd_T37 l0 x13_1).f0)==((rd_T37 l1 x13_1).f0)) ||(!(((rd_T37 l0 x13_1).f1)==((rd_T37 l1 x13_1).f1))))=true
        ·
         rw[if_pos c8] at H
         have c8b0:(!(((rd_T37 l0 x13_1).f0)==((rd_T37 l1 x13_1).f0)) ||(!(((rd_T37 l0 x13_1).f1)==((rd_T37 l1 x13_1).f1))))=true:=c8
         clear c8
         obtain rfl:=Option.some.inj H
         clear H
         have p728:0≤(x13_1:Int):=od_
         have q728:x13_1<(l0.length:Int):=od_
         obtain⟨ad728,e728,hx728_0,hx728_1⟩:=at_T37 HR0.out x13_1 p728 q728
         cases e728
         replace p728:=eq_true p728
         replace q728:=eq_true q728
         have p729:0≤(x13_1:Int):=od_
         have q729:x13_1<(l1.length:Int):=od_
         obtain⟨ad729,e729,hx729_0,hx729_1⟩:=at_T37 HR1.out x13_1 p729 q729
         cases e729
         replace p729:=eq_true p729
         replace q729:=eq_true q729
         go_wp2
         repeat (go_quiet (fail);try go_wp2)
         go_ret
         exact⟨rs_,dr_⟩
        rw[if_neg c8] at H
        have c8b0:(!(((rd_T37 l0 x13_1).f0)==((rd_T37 l1 x13_1).f0)) ||(!(((rd_T37 l0 x13_1).f1)==((rd_T37 l1 x13_1).f1))))=false:=by simpa using c8
        clear c8
        have H':=A_ H
        clear H
        have p728:0≤(x13_1:Int):=od_
        have q728:x13_1<(l0.length:Int):=od_
        obtain⟨ad728,e728,hx728_0,hx728_1⟩:=at_T37 HR0.out x13_1 p728 q728
        cases e728
        replace p728:=eq_true p728
        replace q728:=eq_true q728
        have p729:0≤(x13_1:Int):=od_
        have q729:x13_1<(l1.length:Int):=od_
        obtain⟨ad729,e729,hx729_0,hx729_1⟩:=at_T37 HR1.out x13_1 p729 q729
        cases e729
        replace p729:=eq_true p729
        replace q729:=eq_true q729
        go_wp2
        repeat (go_quiet (fail);try go_wp2)
        go_roundg k1
        case measure=>have:=HK1.out;omega
        case rel=>exact⟨(wrap64 (x13_1+1)),rs_,H',⟨by have:=HK1.out;omega⟩,dr_⟩
       rw[if_neg c7] at H
       exact absurd H (by simp)
      rw[if_neg c6] at H
      exact absurd H (by simp)
     rw[if_neg c5] at H
     exact absurd H (by simp)
    rw[if_neg c4] at H
    have c4b0:=decide_eq_false c4
    clear c4
    obtain rfl:=Option.some.inj H
    clear H
    go_wp2
    repeat (go_quiet (fail);try go_wp2)
    go_ret
    exact⟨rs_,dr_⟩
 rw[if_neg c3] at H
 obtain⟨c3b0,c3b1⟩:=eF_ c3
 have c3b2:(l0.length==l1.length)=false:=by first|simpa using c3|(simp at c3 ⊢;omega)
 obtain rfl:=Option.some.inj H
 clear H
 go_enter Try.func8,Try.ntmps8
 go_wp2
 repeat (go_quiet (fail);try go_wp2)
 go_ret
 exact⟨rs_,dr_⟩

/-! ### impl_opens: function 41 -/
def impl_opens.f (a0:Int):Option (Bool):=if a0=2 then (some true) else (if a0=3 then (some true) else (some (a0==4)))
theorem impl_opens.calls (a0:Int) (r:Bool) (w:World) (h:impl_opens.f a0=some r):
  Calls Try.prog 41 #[.int .i64 a0] w fun e w'=>e=.returned (.bool r)∧Drawn0 w w':=by
 have H:(if a0=2 then (some true) else (if a0=3 then (some true) else (some (a0==4))))=some r:=h
 clear h
 by_cases c2:a0=2
 ·
  rw[if_pos c2] at H
  obtain⟨c2b0,c2b1⟩:=eT_ c2
  clear c2
  obtain rfl:=Option.some.inj H
  clear H
  go_enter Try.func41,Try.ntmps41
  go_wp2
  go_ret
  exact⟨rs_,dr_⟩
 rw[if_neg c2] at H
 obtain⟨c2b0,c2b1⟩:=eF_ c2
 by_cases c3:a0=3
 ·
  rw[if_pos c3] at H
  obtain⟨c3b0,c3b1⟩:=eT_ c3
  clear c3
  obtain rfl:=Option.some.inj H
  clear H
  go_enter Try.func41,Try.ntmps41
  go_wp2
  go_ret
  exact⟨rs_,dr_⟩
 rw[if_neg c3] at H
 obtain⟨c3b0,c3b1⟩:=eF_ c3
 obtain rfl:=Option.some.inj H
 clear H
 go_enter Try.func41,Try.ntmps41
 go_wp2
 go_ret
 exact⟨rs_,dr_⟩

/-! ### impl_deepest: function 25 -/
def impl_deepest.l0:Nat→List Int→Int→List (S37)→Int→Int→Option (Int)
 |0,_,_,_,_,_=>none
 |k+1,x3,x4,x12,x13,x14=>if x14<x13 then (if 0≤x14 then (if x14<(x12.length:Int) then (if (x3.length:Int)=0 then (some 0) else ((impl_opens.f ((rd_T37 x12 x14).f0)).bind fun t736=>(if t736=true then (if x3.length<17592186044416 then ((some (x3++[(rd_T37 x12 x14).f0]:List Int)).bind fun y737=>(impl_deepest.l0 k y737 (mx x4 (y737.length:Int)) x12 x13 (wrap64 (x14+1)))) else (none)) else (if ((rd_T37 x12 x14).f0)=5 then (if 0≤(wrap64 ((x3.length:Int) - 1)) then (if (wrap64 ((x3.length:Int) - 1))<(x3.length:Int) then (if (rd x3 (wrap64 ((x3.length:Int) - 1)))=4 then (impl_deepest.l0 k (x3.set ((wrap64 ((x3.length:Int) - 1)):Int).toNat 5) x4 x12 x13 (wrap64 (x14+1))) else (some 0)) else (none)) else (none)) else (if ((rd_T37 x12 x14).f0)=11 then (if 0≤(wrap64 ((x3.length:Int) - 1)) then (if (wrap64 ((x3.length:Int) - 1))≤(x3.length:Int) then (impl_deepest.l0 k (x3.take ((wrap64 ((x3.length:Int) - 1)):Int).toNat) x4 x12 x13 (wrap64 (x14+1))) else (none)) else (none)) else (impl_deepest.l0 k x3 x4 x12 x13 (wrap64 (x14+1)))))))) else (none)) else (none)) else (if (x3.length:Int) > 0 then (some 0) else (some x4))
def impl_deepest.f (k:Nat) (l0:List (S37)):Option (Int):=(impl_goodCode.f k l0).bind fun t730=>(if t730=true then (impl_deepest.l0 k (([2]:List Int)) 1 l0 (l0.length:Int) 0) else (some 0))
theorem impl_deepest.calls (k:Nat) (A0:Option Addr) (c0:Nat) (l0:List (S37)) (r:Int) (w:World) (hr0:Kd.C k37 w A0 l0.length l0) (hc0:l0.length≤c0) (h:impl_deepest.f k l0=some r):
  Calls Try.prog 25 #[.slice A0 l0.length c0] w fun e w'=>e=.returned (.int .i64 r)∧Below w.heap.size w w':=by
 have hu37:=Try.underlying37
 have HR0:=A_ hr0
 have HC0:=A_ hc0
 clear hr0 hc0
 have HB:=A_ (Below.refl w.heap.size w)
 have H:((impl_goodCode.f k l0).bind fun t730=>(if t730=true then (impl_deepest.l0 k (([2]:List Int)) 1 l0 (l0.length:Int) 0) else (some 0)))=some r:=h
 clear h
 replace H:=bi_ H
 obtain⟨t730,A20,H⟩:=H
 have A2:=A_ A20
 clear A20
 by_cases c3:t730=true
 ·
  subst c3
  replace H:=iT_ H
  obtain⟨y731,hy731⟩:∃ y_:List Int,y_=(([2]:List Int)):=⟨_,rfl⟩
  replace H:(impl_deepest.l0 k y731 1 l0 (l0.length:Int) 0)=some r:=by first|(rw[hy731];with_reducible exact H)|(have H2_:=(Option.bind_some _ _).symm.trans H;rw[hy731];with_reducible exact H2_)|(have H2_:=(Option.bind_some _ _).symm.trans H;with_reducible exact H2_)|with_reducible exact H|(rw[hy731];exact H)|exact H
  have Ny731:=A_ hy731
  clear hy731
  have H':=A_ H
  clear H
  go_enter Try.func25,Try.ntmps25
  go_wp2_with (first|((with_reducible refine gc_ 16 rfl ?_);refine goesL_ (some 9) rfl rfl Try.func16 (by kernel_rfl) rfl #[.slice A0 l0.length c0] rfl ar ?_;(with_reducible refine(impl_goodCode.calls k _ _ l0 true _ ?side1 ?side2 A2.out).mono ?_);(case side1=>repeat (first|exact HR0.out|(with_reducible refine Kd.C_alloc ?_ _)|(with_reducible refine Kd.C_drewN ?_ _)|(with_reducible refine Kd.C_drew ?_)));(case side2=>exact HC0.out);rintro e w4 ⟨rfl,hb⟩;refine⟨_,rfl,?_⟩;replace HB:=bs_ HB hb;(try clear hb))|((with_reducible refine gd_ 11 rfl ?_);refine Kd.R_lit (Kd.int .i64) _ 3 ?hg (N:=11) ?hd (xs:=([2]:List Int)) (inner:=[.int .i64 2]) (ok:=fun _=>True) (okp:=fun _=>True) ?hr ?hp (fun _ hk=>hk) trivial (Below.refl _ _) (Nat.le_refl _) (by simp) ?_;(case hd=>rfl);(case hg=>rfl);(case hr=>first|(go_simp;done)|(go_simp;rfl));(case hp=>exact(Reps.one (show Kd.M (Kd.int .i64) _ _ _ 2 [.int .i64 2] from rfl) (Reps.none _ _)));intro v732 w5 ho6 hb hg_ hnew_;clear hg_ hnew_;(first|rw[←Ny731.out] at ho6|(simp only[Int.reduceToNat] at ho6;rw[←Ny731.out] at ho6));have HO733:=A_ (Kd.R_lower ho6 (below_size (bw HB.out)));replace HB:=bs_ HB hb;clear hb ho6))
  (try simp only[Act.put,List.setIfInBounds_toArray,List.set_cons_zero,List.set_cons_succ])
  go_loopg [3,4,14] k (fun kq v3 v4 v14 w'=>∃ (x3_1:List Int) (x4_1:Int) (x14_1:Int),v4=.int .i64 x4_1∧v14=.int .i64 x14_1∧Aside0 (impl_deepest.l0 kq x3_1 x4_1 l0 (l0.length:Int) x14_1=some r)∧Aside0 (kq≤k)∧Aside0 (Kd.R (Kd.int .i64) 3 w' w.heap.size (fun _=>True) v3 x3_1)∧Aside0 (Below w.heap.size w w'))
  case atStart=>exact⟨(y731),(1),(0),rs_,rs_,H',⟨Nat.le_refl _⟩,⟨kr_ HO733.out⟩,⟨bw HB.out⟩⟩
  case round=>
   clear H'
   try clear c3
   obtain⟨x3_1,x4_1,x14_1,rfl,rfl,HA,HK1,HO_3,HB⟩:=hrel
   cases gk with
   |zero=>exact absurd HA.out (by simp[impl_deepest.l0])
   |succ k1=>
    have H:=HA.out
    clear HA
    simp only[impl_deepest.l0] at H
    by_cases c7:x14_1<(l0.length:Int)
    ·
     rw[if_pos c7] at H
     have c7b0:=decide_eq_true c7
     clear c7
     by_cases c8:0≤x14_1
     ·
      rw[if_pos c8] at H
      have c8b0:=decide_eq_true c8
      clear c8
      by_cases c9:x14_1<(l0.length:Int)
      ·
       rw[if_pos c9] at H
       have c9b0:=decide_eq_true c9
       clear c9
       by_cases c10:(x3_1.length:Int)=0
       ·
        rw[if_pos c10] at H
        obtain⟨c10b0,c10b1⟩:=eT_ c10
        clear c10
        obtain rfl:=Option.some.inj H
        clear H
        have p734:0≤(x14_1:Int):=od_
        have q734:x14_1<(l0.length:Int):=od_
        obtain⟨ad734,e734,hx734_0,hx734_1⟩:=at_T37 HR0.out x14_1 p734 q734
        cases e734
        replace hx734_0:=cl_ HB.out hx734_0
        replace hx734_1:=cl_ HB.out hx734_1
        replace p734:=eq_true p734
        replace q734:=eq_true q734
        go_wp2_with (first|((with_reducible refine gd_ 6 rfl ?_);refine bx_ #[.int .i64 0,.int .i64 0] 37 ?_;intro gb735 hg w11 hbox hb;have BK735:=A_ hbox;have GW735:=gw_ hg HB;have GE735:=GW735;replace HO_3:=A_ (Kd.R_below (kr_ HO_3.out) hb);replace HB:=bs_ HB hb;clear hb hbox hg;obtain⟨hcz12_0,hcz12_1⟩:=cs2_ BK735.out;obtain⟨hfz12_0,hfz12_1⟩:=fz2_ BK735.out;obtain⟨Ao13,co13,eo13⟩:=Kd.R_slice HO_3.out;subst eo13))
        go_ret
        exact⟨rr_,bw HB.out⟩
       rw[if_neg c10] at H
       obtain⟨c10b0,c10b1⟩:=eF_ c10
       have c10b2:¬(x3_1=[]):=fun h_=>c10 (by rw[h_];rfl)
       replace H:=bi_ H
       obtain⟨t736,A140,H⟩:=H
       have A14:=A_ A140
       clear A140
       by_cases c15:t736=true
       ·
        subst c15
        replace H:=iT_ H
        by_cases c16:x3_1.length<17592186044416
        ·
         rw[if_pos c16] at H
         have LMc16:=A_ c16
         clear c16
         obtain⟨y737,hy737⟩:∃ y_:List Int,y_=(x3_1++[(rd_T37 l0 x14_1).f0]):=⟨_,rfl⟩
         replace H:(impl_deepest.l0 k1 y737 (mx x4_1 (y737.length:Int)) l0 (l0.length:Int) (wrap64 (x14_1+1)))=some r:=by first|(rw[hy737];with_reducible exact H)|(have H2_:=(Option.bind_some _ _).symm.trans H;rw[hy737];with_reducible exact H2_)|(have H2_:=(Option.bind_some _ _).symm.trans H;with_reducible exact H2_)|with_reducible exact H|(rw[hy737];exact H)|exact H
         have Ny737:=A_ hy737
         clear hy737
         obtain⟨ji17,hji17⟩:∃ j_:Int,(mx x4_1 (y737.length:Int))=j_:=⟨_,rfl⟩
         replace H:(impl_deepest.l0 k1 y737 ji17 l0 (l0.length:Int) (wrap64 (x14_1+1)))=some r:=by first|(rw[hji17] at H;exact H)|(simp only[hji17] at H ⊢;exact H)
         (try rw[hji17] at A14)
         have hji17_:(if x4_1<(y737.length:Int) then (y737.length:Int) else x4_1)=ji17:=hji17
         have H':=A_ H
         clear H
         have p734:0≤(x14_1:Int):=od_
         have q734:x14_1<(l0.length:Int):=od_
         obtain⟨ad734,e734,hx734_0,hx734_1⟩:=at_T37 HR0.out x14_1 p734 q734
         cases e734
         replace hx734_0:=cl_ HB.out hx734_0
         replace hx734_1:=cl_ HB.out hx734_1
         replace p734:=eq_true p734
         replace q734:=eq_true q734
         go_wp2_with (first|((with_reducible refine gd_ 6 rfl ?_);refine bx_ #[.int .i64 0,.int .i64 0] 37 ?_;intro gb735 hg w18 hbox hb;have BK735:=A_ hbox;have GW735:=gw_ hg HB;have GE735:=GW735;replace HO_3:=A_ (Kd.R_below (kr_ HO_3.out) hb);replace HB:=bs_ HB hb;clear hb hbox hg;obtain⟨hcz19_0,hcz19_1⟩:=cs2_ BK735.out;obtain⟨hfz19_0,hfz19_1⟩:=fz2_ BK735.out;obtain⟨Ao20,co20,eo20⟩:=Kd.R_slice HO_3.out;subst eo20)|((with_reducible refine gc_ 41 rfl ?_);refine gn_ (some 27) Try.func41 (impl_opens.calls ((rd_T37 l0 x14_1).f0) true _ A14.out) ?_;intro nd)|((with_reducible refine gate_builtin (b:=.append) (xs:=#[.tmp 28,.tmp 31]) rfl ?_);at_builtin;refine Kd.R_append (Kd.int .i64) (w0:=w) w.heap.size rfl (.tmp 28) (.tmp 31) 30 3 (.int .i64 0) 8 rfl Try.underlying30 info3 rfl (by decide) (by omega) (.slice Ao20 x3_1.length co20) x3_1 ((rd_T37 l0 x14_1).f0) [.int .i64 ((rd_T37 l0 x14_1).f0)] (fun _=>True) (fun _=>False) rfl (by first|(go_simp;done)|(go_simp;rfl)) ?aP (fun _ hk=>hk.elim) ?aF ?aO ?aB ?aS ?aL ?_;(case aP=>exact rfl);(case aB=>exact(bw HB.out));(case aF=>exact(fun _ _=>trivial));(case aO=>exact(by(with_reducible repeat (first|apply Kd.R_alloc|apply Kd.R_drewN|apply Kd.R_drew));exact Kd.R_mono (Kd.R_far (p:=⟨gb735,1,none⟩) (Kd.R_far (p:=⟨gb735,0,none⟩) (Kd.R_types HO_3.out BK735.out (by decide)) (fun _ hk=>hk.2) (.int .i64 ((rd_T37 l0 x14_1).f0))) (fun _ hk=>hk.2) (.int .i64 ((rd_T37 l0 x14_1).f1))) (fun _ hk=>trivial)));(case aS=>exact(below_size (bw HB.out)));(case aL=>have:=LMc16.out;omega);intro v738 w21 ho hb hg hat;rw[←Ny737.out] at ho;have HO739:=A_ (ho);replace BK735:=A_ (blk_grown (g:=gb735) (o:=.cells #[.int .i64 ((rd_T37 l0 x14_1).f0),.int .i64 ((rd_T37 l0 x14_1).f1)] 37 (0,0)) (by refine blk_put (cs:=#[.int .i64 ((rd_T37 l0 x14_1).f0),.int .i64 0]) ?_ 1 _ rfl;refine blk_put (cs:=#[.int .i64 0,.int .i64 0]) ?_ 0 _ rfl;(with_reducible repeat (first|refine blk_drewN ?_ _|refine blk_drew ?_|refine blk_alloc ?_ _));exact BK735.out) hg (Kd.R_ne HO_3.out BK735.out (by decide)));replace HB:=A_ (hb);clear HO_3;clear ho hb hg hat;obtain⟨Ao22,co22,eo22⟩:=Kd.R_slice HO739.out;subst eo22))
         go_roundg k1
         case measure=>have:=HK1.out;omega
         case rel=>exact⟨(y737),(ji17),(wrap64 (x14_1+1)),(by first|rfl|(simp;done)|(simp only[←hji17]<;>(first|rfl|simp))|(simp[*];done)),rs_,H',⟨by have:=HK1.out;omega⟩,⟨kr_ HO739.out⟩,⟨bw HB.out⟩⟩
        rw[if_neg c16] at H
        exact absurd H (by simp)
       replace c15:=Bool.eq_false_iff.mpr c15
       subst c15
       replace H:=iF_ H
       by_cases c23:((rd_T37 l0 x14_1).f0)=5
       ·
        rw[if_pos c23] at H
        obtain⟨c23b0,c23b1⟩:=eT_ c23
        clear c23
        obtain⟨ji24,hji24⟩:∃ j_:Int,(wrap64 ((x3_1.length:Int) - 1))=j_:=⟨_,rfl⟩
        replace H:(if 0≤(ji24) then (if (ji24)<(x3_1.length:Int) then (if (rd x3_1 (ji24))=4 then (impl_deepest.l0 k1 (x3_1.set ((ji24):Int).toNat 5) x4_1 l0 (l0.length:Int) (wrap64 (x14_1+1))) else (some 0)) else (none)) else (none))=some r:=by first|(rw[hji24] at H;exact H)|(simp only[hji24] at H ⊢;exact H)
        (try rw[hji24] at A14)
        have hji24w:(IntKind.i64.wrap ((x3_1.length:Int) - 1))=ji24:=(i64_w _).trans hji24
        by_cases c25:0≤(ji24)
        ·
         rw[if_pos c25] at H
         have c25b0:=decide_eq_true c25
         clear c25
         by_cases c26:(ji24)<(x3_1.length:Int)
         ·
          rw[if_pos c26] at H
          have c26b0:=decide_eq_true c26
          clear c26
          by_cases c27:(rd x3_1 (ji24))=4
          ·
           rw[if_pos c27] at H
           obtain⟨c27b0,c27b1⟩:=eT_ c27
           clear c27
           obtain⟨y741,hy741⟩:∃ y_:List Int,y_=(x3_1.set ((ji24):Int).toNat 5):=⟨_,rfl⟩
           replace H:(impl_deepest.l0 k1 y741 x4_1 l0 (l0.length:Int) (wrap64 (x14_1+1)))=some r:=by first|(rw[hy741];with_reducible exact H)|(have H2_:=(Option.bind_some _ _).symm.trans H;rw[hy741];with_reducible exact H2_)|(have H2_:=(Option.bind_some _ _).symm.trans H;with_reducible exact H2_)|with_reducible exact H|(rw[hy741];exact H)|exact H
           have Ny741:=A_ hy741
           clear hy741
           have H':=A_ H
           clear H
           have p734:0≤(x14_1:Int):=od_
           have q734:x14_1<(l0.length:Int):=od_
           obtain⟨ad734,e734,hx734_0,hx734_1⟩:=at_T37 HR0.out x14_1 p734 q734
           cases e734
           replace hx734_0:=cl_ HB.out hx734_0
           replace hx734_1:=cl_ HB.out hx734_1
           replace p734:=eq_true p734
           replace q734:=eq_true q734
           go_wp2_with (first|((with_reducible refine gd_ 6 rfl ?_);refine bx_ #[.int .i64 0,.int .i64 0] 37 ?_;intro gb735 hg w29 hbox hb;have BK735:=A_ hbox;have GW735:=gw_ hg HB;have GE735:=GW735;replace HO_3:=A_ (Kd.R_below (kr_ HO_3.out) hb);replace HB:=bs_ HB hb;clear hb hbox hg;obtain⟨hcz30_0,hcz30_1⟩:=cs2_ BK735.out;obtain⟨hfz30_0,hfz30_1⟩:=fz2_ BK735.out)|((with_reducible refine gate_store (t:=37) (p:=6) rfl ?_);refine store_event (t:=37) (p:=6) (v:=?vo_w31) (w1:=((w29.setCell ⟨gb735,0,none⟩ (.int .i64 ((rd_T37 l0 x14_1).f0))).setCell ⟨gb735,1,none⟩ (.int .i64 ((rd_T37 l0 x14_1).f1)))) ?hg ?ho ?hn ?hr ?_;(case ho=>rfl);(case hg=>rfl);(case hn=>rfl);(case hr=>first|(go_simp;done)|(go_simp;rfl));intro w31 hw;replace HO_3:Aside0 (Kd.R (Kd.int .i64) 3 w31 w.heap.size (fun _=>True) u3 x3_1):=⟨(by rw[hw];exact(by(with_reducible repeat (first|apply Kd.R_alloc|apply Kd.R_drewN|apply Kd.R_drew));exact Kd.R_mono (Kd.R_far (p:=⟨gb735,1,none⟩) (Kd.R_far (p:=⟨gb735,0,none⟩) (Kd.R_types HO_3.out BK735.out (by decide)) (fun _ hk=>hk.2) (.int .i64 ((rd_T37 l0 x14_1).f0))) (fun _ hk=>hk.2) (.int .i64 ((rd_T37 l0 x14_1).f1))) (fun _ hk=>trivial)))⟩;replace BK735:Aside0 (w31.heap[gb735]? =some (.cells #[.int .i64 ((rd_T37 l0 x14_1).f0),.int .i64 ((rd_T37 l0 x14_1).f1)] 37 (0,0))):=⟨(by rw[hw];exact(by refine blk_put (cs:=#[.int .i64 ((rd_T37 l0 x14_1).f0),.int .i64 0]) ?_ 1 _ rfl;refine blk_put (cs:=#[.int .i64 0,.int .i64 0]) ?_ 0 _ rfl;(with_reducible repeat (first|refine blk_drewN ?_ _|refine blk_drew ?_|refine blk_alloc ?_ _));exact BK735.out))⟩;replace HB:Aside0 (Below w.heap.size w w31):=⟨(by rw[hw];exact(bw HB.out))⟩;clear hw;obtain⟨Ao32,co32,eo32⟩:=Kd.R_slice HO_3.out;subst eo32;obtain⟨hcz33_0,hcz33_1⟩:=cs2_ BK735.out;obtain⟨hfz33_0,hfz33_1⟩:=fz2_ BK735.out)|((with_reducible refine gc_ 41 rfl ?_);refine gn_ (some 27) Try.func41 (impl_opens.calls ((rd_T37 l0 x14_1).f0) false _ A14.out) ?_;intro nd;(try (rw[drewN_self w31];generalize hq_:World.drewN w31 _=w31;have n0_:Aside0 (Kd.R (Kd.int .i64) 3 w31 w.heap.size (fun _=>True) (.slice Ao32 x3_1.length co32) x3_1):=⟨by rw[←hq_];exact(kr_ HO_3.out)⟩;have n1_:Aside0 (w31.heap[gb735]? =some (.cells #[.int .i64 ((rd_T37 l0 x14_1).f0),.int .i64 ((rd_T37 l0 x14_1).f1)] 37 (0,0))):=⟨by rw[←hq_];exact(bk BK735.out)⟩;have n2_:Aside0 (Below w.heap.size w w31):=⟨by rw[←hq_];exact(bw HB.out)⟩;clear HO_3 BK735 HB hq_;have HO_3:=n0_;have BK735:=n1_;have HB:=n2_;clear n0_ n1_ n2_));obtain⟨hcz34_0,hcz34_1⟩:=cs2_ BK735.out;obtain⟨hfz34_0,hfz34_1⟩:=fz2_ BK735.out;have p740:0≤((ji24):Int):=od_;have q740:(ji24)<(x3_1.length:Int):=od_;obtain⟨ad740,e740,hx740_0⟩:=Kd.at_int (Kd.R_reads' HO_3.out).2.2 (ji24) p740 q740;cases e740;replace p740:=eq_true p740;replace q740:=eq_true q740;have p28:0≤((ji24):Int):=od_;have q28:((ji24):Int)<((x3_1.length:Int):Int):=od_;obtain⟨go28,co28,eo28,gb28,gl28,cl28,HG28⟩:=Kd.R_form HO_3.out (by omega);(first|cases eo28|(injection eo28 with ea_ en_ ec_;(first|subst ea_|(injection ea_ with ea_;subst ea_));subst ec_;clear en_));have GB28:=A_ gb28;have GG28:=A_ HG28;clear gb28 gl28 HG28;(first|simp only[add_plain] at hx740_0|skip);obtain⟨hx28_0,hf28_0⟩:=Kd.R_celln 0 HO_3.out ((ji24):Int) p28 q28;replace p28:=eq_true p28;replace q28:=eq_true q28;obtain⟨hy35_,hz35_⟩:=Kd.R_celln 0 HO_3.out ((ji24):Int) (od_) (od_);have HP35:=Kd.R_putg HO_3.out ((ji24):Int) 5)|((with_reducible refine gate_store (t:=3) (p:=48) rfl ?_);refine store_event (t:=3) (p:=48) (v:=?vo_w36) (w1:=(w31.setCell ⟨go28,((ji24):Int).toNat,none⟩ (.int .i64 5))) ?hg ?ho ?hn ?hr ?_;(case ho=>rfl);(case hg=>rfl);(case hn=>rfl);(case hr=>first|(go_simp;done)|(go_simp;rfl));intro w36 hw;have hg:w31.grownBy w36 (some go28):=(by rw[hw];exact HP35.2);have hp_:Kd.R (Kd.int .i64) 3 w36 w.heap.size (fun _=>True) (.slice (some ⟨go28,0,none⟩) x3_1.length co32) y741:=(by rw[hw,Ny741.out];exact HP35.1);clear HP35;replace BK735:=A_ (blk_grown (g:=gb735) (o:=.cells #[.int .i64 ((rd_T37 l0 x14_1).f0),.int .i64 ((rd_T37 l0 x14_1).f1)] 37 (0,0)) (bk BK735.out) hg (Kd.R_ne HO_3.out BK735.out (by decide)));replace HO_3:=A_ (hp_);replace HB:=A_ ((by rw[hw];exact below_set (HB.out) GB28.out:Below w.heap.size w w36));clear hg hw hp_))
           go_roundg k1
           case measure=>have:=HK1.out;omega
           case rel=>exact⟨(y741),(x4_1),(wrap64 (x14_1+1)),rs_,rs_,H',⟨by have:=HK1.out;omega⟩,⟨kr_ HO_3.out⟩,⟨bw HB.out⟩⟩
          rw[if_neg c27] at H
          obtain⟨c27b0,c27b1⟩:=eF_ c27
          obtain rfl:=Option.some.inj H
          clear H
          have p734:0≤(x14_1:Int):=od_
          have q734:x14_1<(l0.length:Int):=od_
          obtain⟨ad734,e734,hx734_0,hx734_1⟩:=at_T37 HR0.out x14_1 p734 q734
          cases e734
          replace hx734_0:=cl_ HB.out hx734_0
          replace hx734_1:=cl_ HB.out hx734_1
          replace p734:=eq_true p734
          replace q734:=eq_true q734
          go_wp2_with (first|((with_reducible refine gd_ 6 rfl ?_);refine bx_ #[.int .i64 0,.int .i64 0] 37 ?_;intro gb735 hg w37 hbox hb;have BK735:=A_ hbox;have GW735:=gw_ hg HB;have GE735:=GW735;replace HO_3:=A_ (Kd.R_below (kr_ HO_3.out) hb);replace HB:=bs_ HB hb;clear hb hbox hg;obtain⟨hcz38_0,hcz38_1⟩:=cs2_ BK735.out;obtain⟨hfz38_0,hfz38_1⟩:=fz2_ BK735.out;obtain⟨Ao39,co39,eo39⟩:=Kd.R_slice HO_3.out;subst eo39)|((with_reducible refine gc_ 41 rfl ?_);refine gn_ (some 27) Try.func41 (impl_opens.calls ((rd_T37 l0 x14_1).f0) false _ A14.out) ?_;intro nd;have p740:0≤((ji24):Int):=od_;have q740:(ji24)<(x3_1.length:Int):=od_;obtain⟨ad740,e740,hx740_0⟩:=Kd.at_int (Kd.R_reads' HO_3.out).2.2 (ji24) p740 q740;cases e740;have hn740_0:ad740.block≠gb735:=Kd.own_blk (Kd.R_ne HO_3.out BK735.out (by decide));have hn740_1:ad740.block≠gb735:=Kd.own_blk (Kd.R_ne HO_3.out BK735.out (by decide));replace hx740_0:=(cell_far (p:=⟨gb735,0,none⟩) (by first|(rw[add_block];exact hn740_0)|(show(Addr.add _ _).block≠_;rw[add_block];exact hn740_0)|exact hn740_0) (.int .i64 ((rd_T37 l0 x14_1).f0))).trans hx740_0;replace hx740_0:=(cell_far (p:=⟨gb735,1,none⟩) (by first|(rw[add_block];exact hn740_1)|(show(Addr.add _ _).block≠_;rw[add_block];exact hn740_1)|exact hn740_1) (.int .i64 ((rd_T37 l0 x14_1).f1))).trans hx740_0;clear hn740_0;clear hn740_1;replace p740:=eq_true p740;replace q740:=eq_true q740))
          go_ret
          exact⟨by first|rfl|(simp[errW_none,errW_some]<;>rfl)|(simp only[←hji24];first|rfl|(simp[errW_none,errW_some]<;>rfl))|(simp[*,errW_none,errW_some]<;>rfl),bw HB.out⟩
         rw[if_neg c26] at H
         exact absurd H (by simp)
        rw[if_neg c25] at H
        exact absurd H (by simp)
       rw[if_neg c23] at H
       obtain⟨c23b0,c23b1⟩:=eF_ c23
       by_cases c40:((rd_T37 l0 x14_1).f0)=11
       ·
        rw[if_pos c40] at H
        obtain⟨c40b0,c40b1⟩:=eT_ c40
        clear c40
        obtain⟨ji41,hji41⟩:∃ j_:Int,(wrap64 ((x3_1.length:Int) - 1))=j_:=⟨_,rfl⟩
        replace H:(if 0≤(ji41) then (if (ji41)≤(x3_1.length:Int) then (impl_deepest.l0 k1 (x3_1.take ((ji41):Int).toNat) x4_1 l0 (l0.length:Int) (wrap64 (x14_1+1))) else (none)) else (none))=some r:=by first|(rw[hji41] at H;exact H)|(simp only[hji41] at H ⊢;exact H)
        (try rw[hji41] at A14)
        have hji41w:(IntKind.i64.wrap ((x3_1.length:Int) - 1))=ji41:=(i64_w _).trans hji41
        by_cases c42:0≤(ji41)
        ·
         rw[if_pos c42] at H
         have c42b0:=eq_true c42
         have c42b1:=decide_eq_true c42
         clear c42
         by_cases c43:(ji41)≤(x3_1.length:Int)
         ·
          rw[if_pos c43] at H
          have c43b0:=eq_true c43
          have c43b1:=decide_eq_true c43
          clear c43
          obtain⟨y742,hy742⟩:∃ y_:List Int,y_=(x3_1.take ((ji41):Int).toNat):=⟨_,rfl⟩
          replace H:(impl_deepest.l0 k1 y742 x4_1 l0 (l0.length:Int) (wrap64 (x14_1+1)))=some r:=by first|(rw[hy742];with_reducible exact H)|(have H2_:=(Option.bind_some _ _).symm.trans H;rw[hy742];with_reducible exact H2_)|(have H2_:=(Option.bind_some _ _).symm.trans H;with_reducible exact H2_)|with_reducible exact H|(rw[hy742];exact H)|exact H
          have Ny742:=A_ hy742
          clear hy742
          have H':=A_ H
          clear H
          have p734:0≤(x14_1:Int):=od_
          have q734:x14_1<(l0.length:Int):=od_
          obtain⟨ad734,e734,hx734_0,hx734_1⟩:=at_T37 HR0.out x14_1 p734 q734
          cases e734
          replace hx734_0:=cl_ HB.out hx734_0
          replace hx734_1:=cl_ HB.out hx734_1
          replace p734:=eq_true p734
          replace q734:=eq_true q734
          go_wp2_with (first|((with_reducible refine gd_ 6 rfl ?_);refine bx_ #[.int .i64 0,.int .i64 0] 37 ?_;intro gb735 hg w44 hbox hb;have BK735:=A_ hbox;have GW735:=gw_ hg HB;have GE735:=GW735;replace HO_3:=A_ (Kd.R_below (kr_ HO_3.out) hb);replace HB:=bs_ HB hb;clear hb hbox hg;obtain⟨hcz45_0,hcz45_1⟩:=cs2_ BK735.out;obtain⟨hfz45_0,hfz45_1⟩:=fz2_ BK735.out)|((with_reducible refine gate_store (t:=37) (p:=6) rfl ?_);refine store_event (t:=37) (p:=6) (v:=?vo_w46) (w1:=((w44.setCell ⟨gb735,0,none⟩ (.int .i64 ((rd_T37 l0 x14_1).f0))).setCell ⟨gb735,1,none⟩ (.int .i64 ((rd_T37 l0 x14_1).f1)))) ?hg ?ho ?hn ?hr ?_;(case ho=>rfl);(case hg=>rfl);(case hn=>rfl);(case hr=>first|(go_simp;done)|(go_simp;rfl));intro w46 hw;replace HO_3:Aside0 (Kd.R (Kd.int .i64) 3 w46 w.heap.size (fun _=>True) u3 x3_1):=⟨(by rw[hw];exact(by(with_reducible repeat (first|apply Kd.R_alloc|apply Kd.R_drewN|apply Kd.R_drew));exact Kd.R_mono (Kd.R_far (p:=⟨gb735,1,none⟩) (Kd.R_far (p:=⟨gb735,0,none⟩) (Kd.R_types HO_3.out BK735.out (by decide)) (fun _ hk=>hk.2) (.int .i64 ((rd_T37 l0 x14_1).f0))) (fun _ hk=>hk.2) (.int .i64 ((rd_T37 l0 x14_1).f1))) (fun _ hk=>trivial)))⟩;replace BK735:Aside0 (w46.heap[gb735]? =some (.cells #[.int .i64 ((rd_T37 l0 x14_1).f0),.int .i64 ((rd_T37 l0 x14_1).f1)] 37 (0,0))):=⟨(by rw[hw];exact(by refine blk_put (cs:=#[.int .i64 ((rd_T37 l0 x14_1).f0),.int .i64 0]) ?_ 1 _ rfl;refine blk_put (cs:=#[.int .i64 0,.int .i64 0]) ?_ 0 _ rfl;(with_reducible repeat (first|refine blk_drewN ?_ _|refine blk_drew ?_|refine blk_alloc ?_ _));exact BK735.out))⟩;replace HB:Aside0 (Below w.heap.size w w46):=⟨(by rw[hw];exact(bw HB.out))⟩;clear hw;obtain⟨Ao47,co47,eo47⟩:=Kd.R_slice HO_3.out;subst eo47;obtain⟨hcz48_0,hcz48_1⟩:=cs2_ BK735.out;obtain⟨hfz48_0,hfz48_1⟩:=fz2_ BK735.out)|((with_reducible refine gc_ 41 rfl ?_);refine gn_ (some 27) Try.func41 (impl_opens.calls ((rd_T37 l0 x14_1).f0) false _ A14.out) ?_;intro nd;have q49:((ji41):Int)≤((x3_1.length:Int):Int):=od_;obtain⟨i049,hi049,_,hsz49,_⟩:=info_parts info3;have hcut49:=cut_to (P:=Try.prog) 30 3 .i64 Try.underlying30 hi049 Ao47 x3_1.length co47 (ji41) (od_) q49 (Kd.R_reads' HO_3.out).2.1;have hr49:=Kd.R_take (m:=((ji41):Int).toNat) HO_3.out (by omega);have hy49:y742.length=((ji41):Int).toNat:=(by rw[Ny742.out,List.length_take];omega);rw[←Ny742.out] at hr49;rw[←hy49] at hr49 hcut49;clear hy49 hi049 hsz49 HO_3;have HO744:=A_ hr49;clear hr49;replace q49:=eq_true q49))
          go_roundg k1
          case measure=>have:=HK1.out;omega
          case rel=>exact⟨(y742),(x4_1),(wrap64 (x14_1+1)),rs_,rs_,H',⟨by have:=HK1.out;omega⟩,⟨kr_ HO744.out⟩,⟨bw HB.out⟩⟩
         rw[if_neg c43] at H
         exact absurd H (by simp)
        rw[if_neg c42] at H
        exact absurd H (by simp)
       rw[if_neg c40] at H
       obtain⟨c40b0,c40b1⟩:=eF_ c40
       have H':=A_ H
       clear H
       have p734:0≤(x14_1:Int):=od_
       have q734:x14_1<(l0.length:Int):=od_
       obtain⟨ad734,e734,hx734_0,hx734_1⟩:=at_T37 HR0.out x14_1 p734 q734
       cases e734
       replace hx734_0:=cl_ HB.out hx734_0
       replace hx734_1:=cl_ HB.out hx734_1
       replace p734:=eq_true p734
       replace q734:=eq_true q734
       go_wp2_with (first|((with_reducible refine gd_ 6 rfl ?_);refine bx_ #[.int .i64 0,.int .i64 0] 37 ?_;intro gb735 hg w50 hbox hb;have BK735:=A_ hbox;have GW735:=gw_ hg HB;have GE735:=GW735;replace HO_3:=A_ (Kd.R_below (kr_ HO_3.out) hb);replace HB:=bs_ HB hb;clear hb hbox hg;obtain⟨hcz51_0,hcz51_1⟩:=cs2_ BK735.out;obtain⟨hfz51_0,hfz51_1⟩:=fz2_ BK735.out;obtain⟨Ao52,co52,eo52⟩:=Kd.R_slice HO_3.out;subst eo52)|((with_reducible refine gc_ 41 rfl ?_);refine gn_ (some 27) Try.func41 (impl_opens.calls ((rd_T37 l0 x14_1).f0) false _ A14.out) ?_;intro nd))
       go_roundg k1
       case measure=>have:=HK1.out;omega
       case rel=>exact⟨(x3_1),(x4_1),(wrap64 (x14_1+1)),rs_,rs_,H',⟨by have:=HK1.out;omega⟩,⟨by (with_reducible repeat (first|apply Kd.R_alloc|apply Kd.R_drewN|apply Kd.R_drew));exact Kd.R_mono (Kd.R_far (p:=⟨gb735,1,none⟩) (Kd.R_far (p:=⟨gb735,0,none⟩) (Kd.R_types HO_3.out BK735.out (by decide)) (fun _ hk=>hk.2) (.int .i64 ((rd_T37 l0 x14_1).f0))) (fun _ hk=>hk.2) (.int .i64 ((rd_T37 l0 x14_1).f1))) (fun _ hk=>trivial)⟩,⟨bw HB.out⟩⟩
      rw[if_neg c9] at H
      exact absurd H (by simp)
     rw[if_neg c8] at H
     exact absurd H (by simp)
    rw[if_neg c7] at H
    have c7b0:=decide_eq_false c7
    clear c7
    by_cases c53:(x3_1.length:Int) > 0
    ·
     rw[if_pos c53] at H
     have c53b0:=decide_eq_true c53
     have c53b1:decide (0<x3_1.length)=true:=decide_eq_true (by omega)
     clear c53
     obtain rfl:=Option.some.inj H
     clear H
     obtain⟨Ao54,co54,eo54⟩:=Kd.R_slice HO_3.out
     subst eo54
     go_wp2
     go_ret
     exact⟨rr_,bw HB.out⟩
    rw[if_neg c53] at H
    have c53b0:=decide_eq_false c53
    have c53b1:decide (0<x3_1.length)=false:=decide_eq_false (by omega)
    clear c53
    obtain rfl:=Option.some.inj H
    clear H
    obtain⟨Ao55,co55,eo55⟩:=Kd.R_slice HO_3.out
    subst eo55
    go_wp2
    go_ret
    exact⟨rr_,bw HB.out⟩
 replace c3:=Bool.eq_false_iff.mpr c3
 subst c3
 replace H:=iF_ H
 obtain rfl:=Option.some.inj H
 clear H
 go_enter Try.func25,Try.ntmps25
 go_wp2_with (first|((with_reducible refine gc_ 16 rfl ?_);refine goesL_ (some 9) rfl rfl Try.func16 (by kernel_rfl) rfl #[.slice A0 l0.length c0] rfl ar ?_;(with_reducible refine(impl_goodCode.calls k _ _ l0 false _ ?side1 ?side2 A2.out).mono ?_);(case side1=>repeat (first|exact HR0.out|(with_reducible refine Kd.C_alloc ?_ _)|(with_reducible refine Kd.C_drewN ?_ _)|(with_reducible refine Kd.C_drew ?_)));(case side2=>exact HC0.out);rintro e w56 ⟨rfl,hb⟩;refine⟨_,rfl,?_⟩;replace HB:=bs_ HB hb;(try clear hb)))
 go_ret
 exact⟨rr_,bw HB.out⟩

/-! ### impl_endsOf: function 26 -/
def impl_endsOf.l0:Nat→List (S37)→List Int→List Int→Int→Option (List Int)
 |0,_,_,_,_=>none
 |k+1,x0,x3,x4,x5=>if x5≥0 then (if 0≤x5 then (if x5<(x0.length:Int) then (if ((rd_T37 x0 x5).f0)=11 then (if x4.length<17592186044416 then ((some (x4++[x5]:List Int)).bind fun y752=>(if 0≤(wrap64 ((y752.length:Int) - 1)) then (if (wrap64 ((y752.length:Int) - 1))<(y752.length:Int) then (if x5<(x3.length:Int) then ((some (x3.set (x5:Int).toNat (rd y752 (wrap64 ((y752.length:Int) - 1))):List Int)).bind fun y756=>((impl_opens.f ((rd_T37 x0 x5).f0)).bind fun t758=>(if t758=true then (if (wrap64 ((y752.length:Int) - 1))≤(y752.length:Int) then (impl_endsOf.l0 k x0 y756 (y752.take ((wrap64 ((y752.length:Int) - 1)):Int).toNat) (wrap64 (x5 - 1))) else (none)) else (impl_endsOf.l0 k x0 y756 y752 (wrap64 (x5 - 1)))))) else (none)) else (none)) else (none))) else (none)) else (if 0≤(wrap64 ((x4.length:Int) - 1)) then (if (wrap64 ((x4.length:Int) - 1))<(x4.length:Int) then (if x5<(x3.length:Int) then ((some (x3.set (x5:Int).toNat (rd x4 (wrap64 ((x4.length:Int) - 1))):List Int)).bind fun y763=>((impl_opens.f ((rd_T37 x0 x5).f0)).bind fun t765=>(if t765=true then (if (wrap64 ((x4.length:Int) - 1))≤(x4.length:Int) then (impl_endsOf.l0 k x0 y763 (x4.take ((wrap64 ((x4.length:Int) - 1)):Int).toNat) (wrap64 (x5 - 1))) else (none)) else (impl_endsOf.l0 k x0 y763 x4 (wrap64 (x5 - 1)))))) else (none)) else (none)) else (none))) else (none)) else (none)) else (some x3)
def impl_endsOf.f (k:Nat) (l0:List (S37)):Option (List Int):=if 0≤(l0.length:Int) then (if ((l0.length:Int):Int).toNat≤35184372088832 then (impl_endsOf.l0 k l0 (List.replicate ((l0.length:Int):Int).toNat 0) (([]:List Int)) (wrap64 ((l0.length:Int) - 1))) else (none)) else (none)
theorem impl_endsOf.calls (k:Nat) (A0:Option Addr) (c0:Nat) (l0:List (S37)) (r:List Int) (w:World) (hr0:Kd.C k37 w A0 l0.length l0) (hc0:l0.length≤c0) (h:impl_endsOf.f k l0=some r):
  Calls Try.prog 26 #[.slice A0 l0.length c0] w fun e w'=>∃ v0_:Value,e=.returned (v0_)∧Kd.R (Kd.int .i64) 3 w' w.heap.size (fun _=>True) v0_ r∧Below w.heap.size w w':=by
 have HR0:=A_ hr0
 have HC0:=A_ hc0
 clear hr0 hc0
 have HB:=A_ (Below.refl w.heap.size w)
 have H:(if 0≤(l0.length:Int) then (if ((l0.length:Int):Int).toNat≤35184372088832 then (impl_endsOf.l0 k l0 (List.replicate ((l0.length:Int):Int).toNat 0) (([]:List Int)) (wrap64 ((l0.length:Int) - 1))) else (none)) else (none))=some r:=h
 clear h
 by_cases c2:0≤(l0.length:Int)
 ·
  rw[if_pos c2] at H
  have c2b0:=eq_true c2
  have c2b1:=decide_eq_true c2
  clear c2
  by_cases c3:((l0.length:Int):Int).toNat≤35184372088832
  ·
   rw[if_pos c3] at H
   have c3b0:=eq_true c3
   have c3b1:=decide_eq_true c3
   clear c3
   obtain⟨y745,hy745⟩:∃ y_:List Int,y_=(List.replicate ((l0.length:Int):Int).toNat 0):=⟨_,rfl⟩
   replace H:(impl_endsOf.l0 k l0 y745 (([]:List Int)) (wrap64 ((l0.length:Int) - 1)))=some r:=by first|(rw[hy745];with_reducible exact H)|(have H2_:=(Option.bind_some _ _).symm.trans H;rw[hy745];with_reducible exact H2_)|(have H2_:=(Option.bind_some _ _).symm.trans H;with_reducible exact H2_)|with_reducible exact H|(rw[hy745];exact H)|exact H
   have Ny745:=A_ hy745
   clear hy745
   obtain⟨y748,hy748⟩:∃ y_:List Int,y_=(([]:List Int)):=⟨_,rfl⟩
   replace H:(impl_endsOf.l0 k l0 y745 y748 (wrap64 ((l0.length:Int) - 1)))=some r:=by first|(rw[hy748];with_reducible exact H)|(have H2_:=(Option.bind_some _ _).symm.trans H;rw[hy748];with_reducible exact H2_)|(have H2_:=(Option.bind_some _ _).symm.trans H;with_reducible exact H2_)|with_reducible exact H|(rw[hy748];exact H)|exact H
   have Ny748:=A_ hy748
   clear hy748
   have H':=A_ H
   clear H
   go_enter Try.func26,Try.ntmps26
   go_wp2_with (first|((with_reducible refine gd_ 8 rfl ?_);refine Kd.R_make (Kd.int .i64) _ 3 rfl (N:=8) rfl 30 _ _ rfl (l0.length:Int) rfl rfl Try.underlying30 (.int .i64 0) 8 info3 rfl (by decide) (by omega) 0 (ok:=fun _=>True) (okp:=fun _=>True) rfl (fun _ hk=>hk) trivial (od_) (Nat.le_trans (Nat.mul_le_mul_right _ (od_:(l0.length:Int).toNat≤35184372088832)) (by omega)) (Below.refl _ _) (Nat.le_refl _) ?_;intro v746 w4 ho5 hb hg_ hnew_;clear hg_ hnew_;(first|rw[←Ny745.out] at ho5|(simp only[Int.reduceToNat] at ho5;rw[←Ny745.out] at ho5));have HO747:=A_ (Kd.R_lower ho5 (below_size (bw HB.out)));replace HB:=bs_ HB hb;clear hb ho5)|((with_reducible refine gd_ 9 rfl ?_);refine Kd.R_lit (Kd.int .i64) _ 3 ?hg (N:=9) ?hd (xs:=([]:List Int)) (inner:=[]) (ok:=fun _=>True) (okp:=fun _=>True) ?hr ?hp (fun _ hk=>hk) trivial (Below.refl _ _) (Nat.le_refl _) (by simp) ?_;(case hd=>rfl);(case hg=>rfl);(case hr=>first|(go_simp;done)|(go_simp;rfl));(case hp=>exact(Reps.none _ _));intro v749 w6 ho7 hb hg_ hnew_;clear hg_ hnew_;(first|rw[←Ny748.out] at ho7|(simp only[Int.reduceToNat] at ho7;rw[←Ny748.out] at ho7));have HO750:=A_ (Kd.R_lower (Kd.R_new' ho7 (Kd.R_lt (kr_ HO747.out))) (below_size (bw HB.out)));replace HO747:=A_ (Kd.R_elder' (kr_ HO747.out) (Kd.R_base ho7) hb);replace HB:=bs_ HB hb;clear hb ho7))
   (try simp only[Act.put,List.setIfInBounds_toArray,List.set_cons_zero,List.set_cons_succ])
   go_loopg [4,5] k (fun kq v4 v5 w'=>∃ (x3_1:List Int) (x4_1:List Int) (x5_1:Int),v5=.int .i64 x5_1∧Aside0 (impl_endsOf.l0 kq l0 x3_1 x4_1 x5_1=some r)∧Aside0 (kq≤k)∧Aside0 (Kd.R (Kd.int .i64) 3 w' w.heap.size (fun k_=>some k_≠(v4:Value).ownBlock) v746 x3_1)∧Aside0 (Kd.R (Kd.int .i64) 3 w' w.heap.size (fun k_=>some k_≠(v746:Value).ownBlock) v4 x4_1)∧Aside0 (Below w.heap.size w w'))
   case atStart=>exact⟨(y745),(y748),(wrap64 ((l0.length:Int) - 1)),rs_,H',⟨Nat.le_refl _⟩,⟨by (with_reducible repeat (first|apply Kd.R_alloc|apply Kd.R_drewN|apply Kd.R_drew));exact Kd.R_mono HO747.out (fun _ hk=>hk.2)⟩,⟨by (with_reducible repeat (first|apply Kd.R_alloc|apply Kd.R_drewN|apply Kd.R_drew));exact Kd.R_mono HO750.out (fun _ hk=>hk.2)⟩,⟨bw HB.out⟩⟩
   case round=>
    clear H'
    try clear c2 c2b0 c2b1 c3 c3b0 c3b1
    obtain⟨x3_1,x4_1,x5_1,rfl,HA,HK1,HO_3,HO_4,HB⟩:=hrel
    cases gk with
    |zero=>exact absurd HA.out (by simp[impl_endsOf.l0])
    |succ k1=>
     have H:=HA.out
     clear HA
     simp only[impl_endsOf.l0] at H
     by_cases c8:x5_1≥0
     ·
      rw[if_pos c8] at H
      have c8b0:=decide_eq_true c8
      clear c8
      by_cases c9:0≤x5_1
      ·
       rw[if_pos c9] at H
       have c9b0:=decide_eq_true c9
       clear c9
       by_cases c10:x5_1<(l0.length:Int)
       ·
        rw[if_pos c10] at H
        have c10b0:=decide_eq_true c10
        clear c10
        by_cases c11:((rd_T37 l0 x5_1).f0)=11
        ·
         rw[if_pos c11] at H
         obtain⟨c11b0,c11b1⟩:=eT_ c11
         clear c11
         by_cases c12:x4_1.length<17592186044416
         ·
          rw[if_pos c12] at H
          have LMc12:=A_ c12
          clear c12
          obtain⟨y752,hy752⟩:∃ y_:List Int,y_=(x4_1++[x5_1]):=⟨_,rfl⟩
          replace H:(if 0≤(wrap64 ((y752.length:Int) - 1)) then (if (wrap64 ((y752.length:Int) - 1))<(y752.length:Int) then (if x5_1<(x3_1.length:Int) then ((some (x3_1.set (x5_1:Int).toNat (rd y752 (wrap64 ((y752.length:Int) - 1))):List Int)).bind fun y756=>((impl_opens.f ((rd_T37 l0 x5_1).f0)).bind fun t758=>(if t758=true then (if (wrap64 ((y752.length:Int) - 1))≤(y752.length:Int) then (impl_endsOf.l0 k1 l0 y756 (y752.take ((wrap64 ((y752.length:Int) - 1)):Int).toNat) (wrap64 (x5_1 - 1))) else (none)) else (impl_endsOf.l0 k1 l0 y756 y752 (wrap64 (x5_1 - 1)))))) else (none)) else (none)) else (none))=some r:=by first|(rw[hy752];with_reducible exact H)|(have H2_:=(Option.bind_some _ _).symm.trans H;rw[hy752];with_reducible exact H2_)|(have H2_:=(Option.bind_some _ _).symm.trans H;with_reducible exact H2_)|with_reducible exact H|(rw[hy752];exact H)|exact H
          have Ny752:=A_ hy752
          clear hy752
          obtain⟨ji13,hji13⟩:∃ j_:Int,(wrap64 ((y752.length:Int) - 1))=j_:=⟨_,rfl⟩
          replace H:(if 0≤(ji13) then (if (ji13)<(y752.length:Int) then (if x5_1<(x3_1.length:Int) then ((some (x3_1.set (x5_1:Int).toNat (rd y752 (ji13)):List Int)).bind fun y756=>((impl_opens.f ((rd_T37 l0 x5_1).f0)).bind fun t758=>(if t758=true then (if (ji13)≤(y752.length:Int) then (impl_endsOf.l0 k1 l0 y756 (y752.take ((ji13):Int).toNat) (wrap64 (x5_1 - 1))) else (none)) else (impl_endsOf.l0 k1 l0 y756 y752 (wrap64 (x5_1 - 1)))))) else (none)) else (none)) else (none))=some r:=by first|(rw[hji13] at H;exact H)|(simp only[hji13] at H ⊢;exact H)
          have hji13w:(IntKind.i64.wrap ((y752.length:Int) - 1))=ji13:=(i64_w _).trans hji13
          by_cases c14:0≤(ji13)
          ·
           rw[if_pos c14] at H
           have c14b0:=decide_eq_true c14
           clear c14
           by_cases c15:(ji13)<(y752.length:Int)
           ·
            rw[if_pos c15] at H
            have c15b0:=decide_eq_true c15
            clear c15
            by_cases c16:x5_1<(x3_1.length:Int)
            ·
             rw[if_pos c16] at H
             have c16b0:=decide_eq_true c16
             clear c16
             obtain⟨y756,hy756⟩:∃ y_:List Int,y_=(x3_1.set (x5_1:Int).toNat (rd y752 (ji13))):=⟨_,rfl⟩
             replace H:((impl_opens.f ((rd_T37 l0 x5_1).f0)).bind fun t758=>(if t758=true then (if (ji13)≤(y752.length:Int) then (impl_endsOf.l0 k1 l0 y756 (y752.take ((ji13):Int).toNat) (wrap64 (x5_1 - 1))) else (none)) else (impl_endsOf.l0 k1 l0 y756 y752 (wrap64 (x5_1 - 1)))))=some r:=by first|(rw[hy756];with_reducible exact H)|(have H2_:=(Option.bind_some _ _).symm.trans H;rw[hy756];with_reducible exact H2_)|(have H2_:=(Option.bind_some _ _).symm.trans H;with_reducible exact H2_)|with_reducible exact H|(rw[hy756];exact H)|exact H
             have Ny756:=A_ hy756
             clear hy756
             replace H:=bi_ H
             obtain⟨t758,A180,H⟩:=H
             have A18:=A_ A180
             clear A180
             by_cases c19:t758=true
             ·
              subst c19
              replace H:=iT_ H
              by_cases c20:(ji13)≤(y752.length:Int)
              ·
               rw[if_pos c20] at H
               have c20b0:=eq_true c20
               have c20b1:=decide_eq_true c20
               clear c20
               obtain⟨y759,hy759⟩:∃ y_:List Int,y_=(y752.take ((ji13):Int).toNat):=⟨_,rfl⟩
               replace H:(impl_endsOf.l0 k1 l0 y756 y759 (wrap64 (x5_1 - 1)))=some r:=by first|(rw[hy759];with_reducible exact H)|(have H2_:=(Option.bind_some _ _).symm.trans H;rw[hy759];with_reducible exact H2_)|(have H2_:=(Option.bind_some _ _).symm.trans H;with_reducible exact H2_)|with_reducible exact H|(rw[hy759];exact H)|exact H
               have Ny759:=A_ hy759
               clear hy759
               have H':=A_ H
               clear H
               have p751:0≤(x5_1:Int):=od_
               have q751:x5_1<(l0.length:Int):=od_
               obtain⟨ad751,e751,hx751_0,hx751_1⟩:=at_T37 HR0.out x5_1 p751 q751
               cases e751
               replace hx751_0:=cl_ HB.out hx751_0
               replace hx751_1:=cl_ HB.out hx751_1
               replace p751:=eq_true p751
               replace q751:=eq_true q751
               go_wp2_with (first|((with_reducible refine gate_builtin (b:=.append) (xs:=#[.tmp 23,.tmp 25]) rfl ?_);at_builtin;refine Kd.R_append (Kd.int .i64) (w0:=w) w.heap.size rfl (.tmp 23) (.tmp 25) 30 3 (.int .i64 0) 8 rfl Try.underlying30 info3 rfl (by decide) (by omega) u4 x4_1 x5_1 [.int .i64 x5_1] (fun k_=>some k_≠(v746:Value).ownBlock) (fun _=>False) rfl rfl ?aP (fun _ hk=>hk.elim) ?aF ?aO ?aB ?aS ?aL ?_;(case aP=>exact rfl);(case aB=>exact(bw HB.out));(case aF=>exact(fun k_ hk=>Kd.fresh' (Kd.R_lt (kr_ HO_3.out)) k_ hk));(case aO=>exact(kr_ HO_4.out));(case aS=>exact(below_size (bw HB.out)));(case aL=>have:=LMc12.out;omega);intro v753 w21 ho hb hg hat;rw[←Ny752.out] at ho;have HO754:=A_ (ho);replace HO_3:=A_ (Kd.R_after (ok:=(fun _=>True)) (by(with_reducible repeat (first|apply Kd.R_alloc|apply Kd.R_drewN|apply Kd.R_drew));exact Kd.R_mono HO_3.out (fun _ hk=>⟨trivial,hk⟩)) hg hat);replace HB:=A_ (hb);clear HO_4;clear ho hb hg hat;obtain⟨Ao22,co22,eo22⟩:=Kd.R_slice HO754.out;subst eo22;have p755:0≤((ji13):Int):=od_;have q755:(ji13)<(y752.length:Int):=od_;obtain⟨ad755,e755,hx755_0⟩:=Kd.at_int (Kd.R_reads' HO754.out).2.2 (ji13) p755 q755;cases e755;replace p755:=eq_true p755;replace q755:=eq_true q755;have p17:0≤(x5_1:Int):=od_;have q17:(x5_1:Int)<((x3_1.length:Int):Int):=od_;obtain⟨go17,co17,eo17,gb17,gl17,cl17,HG17⟩:=Kd.R_form HO_3.out (by omega);(first|cases eo17|(injection eo17 with ea_ en_ ec_;(first|subst ea_|(injection ea_ with ea_;subst ea_));subst ec_;clear en_));have GB17:=A_ gb17;have GG17:=A_ HG17;clear gb17 gl17 HG17;obtain⟨hx17_0,hf17_0⟩:=Kd.R_celln 0 HO_3.out (x5_1:Int) p17 q17;replace p17:=eq_true p17;replace q17:=eq_true q17;have n_:=A_ (Kd.R_mono (ok':=(fun k_=>some k_≠(.slice (some ad755) y752.length co22:Value).ownBlock)) HO_3.out (fun k_ hk=>hk.2));clear HO_3;have HO_3:=n_;clear n_;obtain⟨hy23_,hz23_⟩:=Kd.R_celln 0 HO_3.out (x5_1:Int) (od_) (od_);have HP23:=Kd.R_putg HO_3.out (x5_1:Int) (rd y752 (ji13)))|((with_reducible refine gate_store (t:=3) (p:=35) rfl ?_);refine store_event (t:=3) (p:=35) (v:=?vo_w24) (w1:=(w21.setCell ⟨go17,(x5_1:Int).toNat,none⟩ (.int .i64 (rd y752 (ji13))))) ?hg ?ho ?hn ?hr ?_;(case ho=>rfl);(case hg=>rfl);(case hn=>rfl);(case hr=>first|(go_simp;done)|(go_simp;rfl));intro w24 hw;have hg:w21.grownBy w24 (some go17):=(by rw[hw];exact HP23.2);have hp_:Kd.R (Kd.int .i64) 3 w24 w.heap.size (fun k_=>some k_≠(.slice (some ad755) y752.length co22:Value).ownBlock) (.slice (some ⟨go17,0,none⟩) x3_1.length co17) y756:=(by rw[hw,Ny756.out];exact HP23.1);clear HP23;replace HO_3:=A_ (hp_);replace HO754:=A_ (Kd.R_after (v:=(.slice (some ⟨go17,0,none⟩) x3_1.length co17)) (v1:=(.slice (some ⟨go17,0,none⟩) x3_1.length co17)) (ok:=(fun _=>True)) (by(with_reducible repeat (first|apply Kd.R_alloc|apply Kd.R_drewN|apply Kd.R_drew));exact Kd.R_mono HO754.out (fun _ hk=>⟨trivial,hk⟩)) hg (.inl rfl));replace HB:=A_ ((by rw[hw];exact below_set (HB.out) GB17.out:Below w.heap.size w w24));clear hg hw hp_;have p757:0≤(x5_1:Int):=od_;have q757:x5_1<(l0.length:Int):=od_;obtain⟨ad757,e757,hx757_0,hx757_1⟩:=at_T37 HR0.out x5_1 p757 q757;obtain rfl:ad751=ad757:=(by injection e757);replace hx757_0:=cl_ HB.out hx757_0;replace hx757_1:=cl_ HB.out hx757_1;replace p757:=eq_true p757;replace q757:=eq_true q757)|((with_reducible refine gc_ 41 rfl ?_);refine gn_ (some 41) Try.func41 (impl_opens.calls ((rd_T37 l0 x5_1).f0) true _ A18.out) ?_;intro nd;have q25:((ji13):Int)≤((y752.length:Int):Int):=od_;obtain⟨i025,hi025,_,hsz25,_⟩:=info_parts info3;have hcut25:=cut_to (P:=Try.prog) 30 3 .i64 Try.underlying30 hi025 (some ad755) y752.length co22 (ji13) (od_) q25 (Kd.R_reads' HO754.out).2.1;have hr25:=Kd.R_take (m:=((ji13):Int).toNat) HO754.out (by omega);have hy25:y759.length=((ji13):Int).toNat:=(by rw[Ny759.out,List.length_take];omega);rw[←Ny759.out] at hr25;rw[←hy25] at hr25 hcut25;clear hy25 hi025 hsz25 HO754;have HO761:=A_ hr25;clear hr25;replace q25:=eq_true q25))
               go_roundg k1
               case measure=>have:=HK1.out;omega
               case rel=>exact⟨(y756),(y759),(wrap64 (x5_1 - 1)),rs_,H',⟨by have:=HK1.out;omega⟩,⟨kr_ HO_3.out⟩,⟨by (with_reducible repeat (first|apply Kd.R_alloc|apply Kd.R_drewN|apply Kd.R_drew));exact Kd.R_mono HO761.out (fun _ hk=>hk.2)⟩,⟨bw HB.out⟩⟩
              rw[if_neg c20] at H
              exact absurd H (by simp)
             replace c19:=Bool.eq_false_iff.mpr c19
             subst c19
             replace H:=iF_ H
             have H':=A_ H
             clear H
             have p751:0≤(x5_1:Int):=od_
             have q751:x5_1<(l0.length:Int):=od_
             obtain⟨ad751,e751,hx751_0,hx751_1⟩:=at_T37 HR0.out x5_1 p751 q751
             cases e751
             replace hx751_0:=cl_ HB.out hx751_0
             replace hx751_1:=cl_ HB.out hx751_1
             replace p751:=eq_true p751
             replace q751:=eq_true q751
             go_wp2_with (first|((with_reducible refine gate_builtin (b:=.append) (xs:=#[.tmp 23,.tmp 25]) rfl ?_);at_builtin;refine Kd.R_append (Kd.int .i64) (w0:=w) w.heap.size rfl (.tmp 23) (.tmp 25) 30 3 (.int .i64 0) 8 rfl Try.underlying30 info3 rfl (by decide) (by omega) u4 x4_1 x5_1 [.int .i64 x5_1] (fun k_=>some k_≠(v746:Value).ownBlock) (fun _=>False) rfl rfl ?aP (fun _ hk=>hk.elim) ?aF ?aO ?aB ?aS ?aL ?_;(case aP=>exact rfl);(case aB=>exact(bw HB.out));(case aF=>exact(fun k_ hk=>Kd.fresh' (Kd.R_lt (kr_ HO_3.out)) k_ hk));(case aO=>exact(kr_ HO_4.out));(case aS=>exact(below_size (bw HB.out)));(case aL=>have:=LMc12.out;omega);intro v753 w26 ho hb hg hat;rw[←Ny752.out] at ho;have HO754:=A_ (ho);replace HO_3:=A_ (Kd.R_after (ok:=(fun _=>True)) (by(with_reducible repeat (first|apply Kd.R_alloc|apply Kd.R_drewN|apply Kd.R_drew));exact Kd.R_mono HO_3.out (fun _ hk=>⟨trivial,hk⟩)) hg hat);replace HB:=A_ (hb);clear HO_4;clear ho hb hg hat;obtain⟨Ao27,co27,eo27⟩:=Kd.R_slice HO754.out;subst eo27;have p755:0≤((ji13):Int):=od_;have q755:(ji13)<(y752.length:Int):=od_;obtain⟨ad755,e755,hx755_0⟩:=Kd.at_int (Kd.R_reads' HO754.out).2.2 (ji13) p755 q755;cases e755;replace p755:=eq_true p755;replace q755:=eq_true q755;have p17:0≤(x5_1:Int):=od_;have q17:(x5_1:Int)<((x3_1.length:Int):Int):=od_;obtain⟨go17,co17,eo17,gb17,gl17,cl17,HG17⟩:=Kd.R_form HO_3.out (by omega);(first|cases eo17|(injection eo17 with ea_ en_ ec_;(first|subst ea_|(injection ea_ with ea_;subst ea_));subst ec_;clear en_));have GB17:=A_ gb17;have GG17:=A_ HG17;clear gb17 gl17 HG17;obtain⟨hx17_0,hf17_0⟩:=Kd.R_celln 0 HO_3.out (x5_1:Int) p17 q17;replace p17:=eq_true p17;replace q17:=eq_true q17;have n_:=A_ (Kd.R_mono (ok':=(fun k_=>some k_≠(.slice (some ad755) y752.length co27:Value).ownBlock)) HO_3.out (fun k_ hk=>hk.2));clear HO_3;have HO_3:=n_;clear n_;obtain⟨hy28_,hz28_⟩:=Kd.R_celln 0 HO_3.out (x5_1:Int) (od_) (od_);have HP28:=Kd.R_putg HO_3.out (x5_1:Int) (rd y752 (ji13)))|((with_reducible refine gate_store (t:=3) (p:=35) rfl ?_);refine store_event (t:=3) (p:=35) (v:=?vo_w29) (w1:=(w26.setCell ⟨go17,(x5_1:Int).toNat,none⟩ (.int .i64 (rd y752 (ji13))))) ?hg ?ho ?hn ?hr ?_;(case ho=>rfl);(case hg=>rfl);(case hn=>rfl);(case hr=>first|(go_simp;done)|(go_simp;rfl));intro w29 hw;have hg:w26.grownBy w29 (some go17):=(by rw[hw];exact HP28.2);have hp_:Kd.R (Kd.int .i64) 3 w29 w.heap.size (fun k_=>some k_≠(.slice (some ad755) y752.length co27:Value).ownBlock) (.slice (some ⟨go17,0,none⟩) x3_1.length co17) y756:=(by rw[hw,Ny756.out];exact HP28.1);clear HP28;replace HO_3:=A_ (hp_);replace HO754:=A_ (Kd.R_after (v:=(.slice (some ⟨go17,0,none⟩) x3_1.length co17)) (v1:=(.slice (some ⟨go17,0,none⟩) x3_1.length co17)) (ok:=(fun _=>True)) (by(with_reducible repeat (first|apply Kd.R_alloc|apply Kd.R_drewN|apply Kd.R_drew));exact Kd.R_mono HO754.out (fun _ hk=>⟨trivial,hk⟩)) hg (.inl rfl));replace HB:=A_ ((by rw[hw];exact below_set (HB.out) GB17.out:Below w.heap.size w w29));clear hg hw hp_;have p757:0≤(x5_1:Int):=od_;have q757:x5_1<(l0.length:Int):=od_;obtain⟨ad757,e757,hx757_0,hx757_1⟩:=at_T37 HR0.out x5_1 p757 q757;obtain rfl:ad751=ad757:=(by injection e757);replace hx757_0:=cl_ HB.out hx757_0;replace hx757_1:=cl_ HB.out hx757_1;replace p757:=eq_true p757;replace q757:=eq_true q757)|((with_reducible refine gc_ 41 rfl ?_);refine gn_ (some 41) Try.func41 (impl_opens.calls ((rd_T37 l0 x5_1).f0) false _ A18.out) ?_;intro nd))
             go_roundg k1
             case measure=>have:=HK1.out;omega
             case rel=>exact⟨(y756),(y752),(wrap64 (x5_1 - 1)),rs_,H',⟨by have:=HK1.out;omega⟩,⟨kr_ HO_3.out⟩,⟨by (with_reducible repeat (first|apply Kd.R_alloc|apply Kd.R_drewN|apply Kd.R_drew));exact Kd.R_mono HO754.out (fun _ hk=>hk.2)⟩,⟨bw HB.out⟩⟩
            rw[if_neg c16] at H
            exact absurd H (by simp)
           rw[if_neg c15] at H
           exact absurd H (by simp)
          rw[if_neg c14] at H
          exact absurd H (by simp)
         rw[if_neg c12] at H
         exact absurd H (by simp)
        rw[if_neg c11] at H
        obtain⟨c11b0,c11b1⟩:=eF_ c11
        obtain⟨ji30,hji30⟩:∃ j_:Int,(wrap64 ((x4_1.length:Int) - 1))=j_:=⟨_,rfl⟩
        replace H:(if 0≤(ji30) then (if (ji30)<(x4_1.length:Int) then (if x5_1<(x3_1.length:Int) then ((some (x3_1.set (x5_1:Int).toNat (rd x4_1 (ji30)):List Int)).bind fun y763=>((impl_opens.f ((rd_T37 l0 x5_1).f0)).bind fun t765=>(if t765=true then (if (ji30)≤(x4_1.length:Int) then (impl_endsOf.l0 k1 l0 y763 (x4_1.take ((ji30):Int).toNat) (wrap64 (x5_1 - 1))) else (none)) else (impl_endsOf.l0 k1 l0 y763 x4_1 (wrap64 (x5_1 - 1)))))) else (none)) else (none)) else (none))=some r:=by first|(rw[hji30] at H;exact H)|(simp only[hji30] at H ⊢;exact H)
        have hji30w:(IntKind.i64.wrap ((x4_1.length:Int) - 1))=ji30:=(i64_w _).trans hji30
        by_cases c31:0≤(ji30)
        ·
         rw[if_pos c31] at H
         have c31b0:=decide_eq_true c31
         clear c31
         by_cases c32:(ji30)<(x4_1.length:Int)
         ·
          rw[if_pos c32] at H
          have c32b0:=decide_eq_true c32
          clear c32
          by_cases c33:x5_1<(x3_1.length:Int)
          ·
           rw[if_pos c33] at H
           have c33b0:=decide_eq_true c33
           clear c33
           obtain⟨y763,hy763⟩:∃ y_:List Int,y_=(x3_1.set (x5_1:Int).toNat (rd x4_1 (ji30))):=⟨_,rfl⟩
           replace H:((impl_opens.f ((rd_T37 l0 x5_1).f0)).bind fun t765=>(if t765=true then (if (ji30)≤(x4_1.length:Int) then (impl_endsOf.l0 k1 l0 y763 (x4_1.take ((ji30):Int).toNat) (wrap64 (x5_1 - 1))) else (none)) else (impl_endsOf.l0 k1 l0 y763 x4_1 (wrap64 (x5_1 - 1)))))=some r:=by first|(rw[hy763];with_reducible exact H)|(have H2_:=(Option.bind_some _ _).symm.trans H;rw[hy763];with_reducible exact H2_)|(have H2_:=(Option.bind_some _ _).symm.trans H;with_reducible exact H2_)|with_reducible exact H|(rw[hy763];exact H)|exact H
           have Ny763:=A_ hy763
           clear hy763
           replace H:=bi_ H
           obtain⟨t765,A350,H⟩:=H
           have A35:=A_ A350
           clear A350
           by_cases c36:t765=true
           ·
            subst c36
            replace H:=iT_ H
            by_cases c37:(ji30)≤(x4_1.length:Int)
            ·
             rw[if_pos c37] at H
             have c37b0:=eq_true c37
             have c37b1:=decide_eq_true c37
             clear c37
             obtain⟨y766,hy766⟩:∃ y_:List Int,y_=(x4_1.take ((ji30):Int).toNat):=⟨_,rfl⟩
             replace H:(impl_endsOf.l0 k1 l0 y763 y766 (wrap64 (x5_1 - 1)))=some r:=by first|(rw[hy766];with_reducible exact H)|(have H2_:=(Option.bind_some _ _).symm.trans H;rw[hy766];with_reducible exact H2_)|(have H2_:=(Option.bind_some _ _).symm.trans H;with_reducible exact H2_)|with_reducible exact H|(rw[hy766];exact H)|exact H
             have Ny766:=A_ hy766
             clear hy766
             have H':=A_ H
             clear H
             have p751:0≤(x5_1:Int):=od_
             have q751:x5_1<(l0.length:Int):=od_
             obtain⟨ad751,e751,hx751_0,hx751_1⟩:=at_T37 HR0.out x5_1 p751 q751
             cases e751
             replace hx751_0:=cl_ HB.out hx751_0
             replace hx751_1:=cl_ HB.out hx751_1
             replace p751:=eq_true p751
             replace q751:=eq_true q751
             obtain⟨Ao38,co38,eo38⟩:=Kd.R_slice HO_4.out
             subst eo38
             have p762:0≤((ji30):Int):=od_
             have q762:(ji30)<(x4_1.length:Int):=od_
             obtain⟨ad762,e762,hx762_0⟩:=Kd.at_int (Kd.R_reads' HO_4.out).2.2 (ji30) p762 q762
             cases e762
             replace p762:=eq_true p762
             replace q762:=eq_true q762
             have p34:0≤(x5_1:Int):=od_
             have q34:(x5_1:Int)<((x3_1.length:Int):Int):=od_
             obtain⟨go34,co34,eo34,gb34,gl34,cl34,HG34⟩:=Kd.R_form HO_3.out (by omega)
             (first|cases eo34|(injection eo34 with ea_ en_ ec_;(first|subst ea_|(injection ea_ with ea_;subst ea_));subst ec_;clear en_))
             have GB34:=A_ gb34
             have GG34:=A_ HG34
             clear gb34 gl34 HG34
             obtain⟨hx34_0,hf34_0⟩:=Kd.R_celln 0 HO_3.out (x5_1:Int) p34 q34
             replace p34:=eq_true p34
             replace q34:=eq_true q34
             have HP39:=Kd.R_putg HO_3.out (x5_1:Int) (rd x4_1 (ji30))
             go_wp2_with (first|((with_reducible refine gate_store (t:=3) (p:=35) rfl ?_);refine store_event (t:=3) (p:=35) (v:=?vo_w40) (w1:=(wr.setCell ⟨go34,(x5_1:Int).toNat,none⟩ (.int .i64 (rd x4_1 (ji30))))) ?hg ?ho ?hn ?hr ?_;(case ho=>rfl);(case hg=>rfl);(case hn=>rfl);(case hr=>first|(go_simp;done)|(go_simp;rfl));intro w40 hw;have hg:wr.grownBy w40 (some go34):=(by rw[hw];exact HP39.2);have hp_:Kd.R (Kd.int .i64) 3 w40 w.heap.size (fun k_=>some k_≠(.slice (some ad762) x4_1.length co38:Value).ownBlock) (.slice (some ⟨go34,0,none⟩) x3_1.length co34) y763:=(by rw[hw,Ny763.out];exact HP39.1);clear HP39;replace HO_3:=A_ (hp_);replace HO_4:=A_ (Kd.R_after (v:=(.slice (some ⟨go34,0,none⟩) x3_1.length co34)) (v1:=(.slice (some ⟨go34,0,none⟩) x3_1.length co34)) (ok:=(fun _=>True)) (by(with_reducible repeat (first|apply Kd.R_alloc|apply Kd.R_drewN|apply Kd.R_drew));exact Kd.R_mono HO_4.out (fun _ hk=>⟨trivial,hk⟩)) hg (.inl rfl));replace HB:=A_ ((by rw[hw];exact below_set (HB.out) GB34.out:Below w.heap.size w w40));clear hg hw hp_;have p764:0≤(x5_1:Int):=od_;have q764:x5_1<(l0.length:Int):=od_;obtain⟨ad764,e764,hx764_0,hx764_1⟩:=at_T37 HR0.out x5_1 p764 q764;obtain rfl:ad751=ad764:=(by injection e764);replace hx764_0:=cl_ HB.out hx764_0;replace hx764_1:=cl_ HB.out hx764_1;replace p764:=eq_true p764;replace q764:=eq_true q764)|((with_reducible refine gc_ 41 rfl ?_);refine gn_ (some 41) Try.func41 (impl_opens.calls ((rd_T37 l0 x5_1).f0) true _ A35.out) ?_;intro nd;have q41:((ji30):Int)≤((x4_1.length:Int):Int):=od_;obtain⟨i041,hi041,_,hsz41,_⟩:=info_parts info3;have hcut41:=cut_to (P:=Try.prog) 30 3 .i64 Try.underlying30 hi041 (some ad762) x4_1.length co38 (ji30) (od_) q41 (Kd.R_reads' HO_4.out).2.1;have hr41:=Kd.R_take (m:=((ji30):Int).toNat) HO_4.out (by omega);have hy41:y766.length=((ji30):Int).toNat:=(by rw[Ny766.out,List.length_take];omega);rw[←Ny766.out] at hr41;rw[←hy41] at hr41 hcut41;clear hy41 hi041 hsz41 HO_4;have HO768:=A_ hr41;clear hr41;replace q41:=eq_true q41))
             go_roundg k1
             case measure=>have:=HK1.out;omega
             case rel=>exact⟨(y763),(y766),(wrap64 (x5_1 - 1)),rs_,H',⟨by have:=HK1.out;omega⟩,⟨kr_ HO_3.out⟩,⟨by (with_reducible repeat (first|apply Kd.R_alloc|apply Kd.R_drewN|apply Kd.R_drew));exact Kd.R_mono HO768.out (fun _ hk=>hk.2)⟩,⟨bw HB.out⟩⟩
            rw[if_neg c37] at H
            exact absurd H (by simp)
           replace c36:=Bool.eq_false_iff.mpr c36
           subst c36
           replace H:=iF_ H
           have H':=A_ H
           clear H
           have p751:0≤(x5_1:Int):=od_
           have q751:x5_1<(l0.length:Int):=od_
           obtain⟨ad751,e751,hx751_0,hx751_1⟩:=at_T37 HR0.out x5_1 p751 q751
           cases e751
           replace hx751_0:=cl_ HB.out hx751_0
           replace hx751_1:=cl_ HB.out hx751_1
           replace p751:=eq_true p751
           replace q751:=eq_true q751
           obtain⟨Ao42,co42,eo42⟩:=Kd.R_slice HO_4.out
           subst eo42
           have p762:0≤((ji30):Int):=od_
           have q762:(ji30)<(x4_1.length:Int):=od_
           obtain⟨ad762,e762,hx762_0⟩:=Kd.at_int (Kd.R_reads' HO_4.out).2.2 (ji30) p762 q762
           cases e762
           replace p762:=eq_true p762
           replace q762:=eq_true q762
           have p34:0≤(x5_1:Int):=od_
           have q34:(x5_1:Int)<((x3_1.length:Int):Int):=od_
           obtain⟨go34,co34,eo34,gb34,gl34,cl34,HG34⟩:=Kd.R_form HO_3.out (by omega)
           (first|cases eo34|(injection eo34 with ea_ en_ ec_;(first|subst ea_|(injection ea_ with ea_;subst ea_));subst ec_;clear en_))
           have GB34:=A_ gb34
           have GG34:=A_ HG34
           clear gb34 gl34 HG34
           obtain⟨hx34_0,hf34_0⟩:=Kd.R_celln 0 HO_3.out (x5_1:Int) p34 q34
           replace p34:=eq_true p34
           replace q34:=eq_true q34
           have HP43:=Kd.R_putg HO_3.out (x5_1:Int) (rd x4_1 (ji30))
           go_wp2_with (first|((with_reducible refine gate_store (t:=3) (p:=35) rfl ?_);refine store_event (t:=3) (p:=35) (v:=?vo_w44) (w1:=(wr.setCell ⟨go34,(x5_1:Int).toNat,none⟩ (.int .i64 (rd x4_1 (ji30))))) ?hg ?ho ?hn ?hr ?_;(case ho=>rfl);(case hg=>rfl);(case hn=>rfl);(case hr=>first|(go_simp;done)|(go_simp;rfl));intro w44 hw;have hg:wr.grownBy w44 (some go34):=(by rw[hw];exact HP43.2);have hp_:Kd.R (Kd.int .i64) 3 w44 w.heap.size (fun k_=>some k_≠(.slice (some ad762) x4_1.length co42:Value).ownBlock) (.slice (some ⟨go34,0,none⟩) x3_1.length co34) y763:=(by rw[hw,Ny763.out];exact HP43.1);clear HP43;replace HO_3:=A_ (hp_);replace HO_4:=A_ (Kd.R_after (v:=(.slice (some ⟨go34,0,none⟩) x3_1.length co34)) (v1:=(.slice (some ⟨go34,0,none⟩) x3_1.length co34)) (ok:=(fun _=>True)) (by(with_reducible repeat (first|apply Kd.R_alloc|apply Kd.R_drewN|apply Kd.R_drew));exact Kd.R_mono HO_4.out (fun _ hk=>⟨trivial,hk⟩)) hg (.inl rfl));replace HB:=A_ ((by rw[hw];exact below_set (HB.out) GB34.out:Below w.heap.size w w44));clear hg hw hp_;have p764:0≤(x5_1:Int):=od_;have q764:x5_1<(l0.length:Int):=od_;obtain⟨ad764,e764,hx764_0,hx764_1⟩:=at_T37 HR0.out x5_1 p764 q764;obtain rfl:ad751=ad764:=(by injection e764);replace hx764_0:=cl_ HB.out hx764_0;replace hx764_1:=cl_ HB.out hx764_1;replace p764:=eq_true p764;replace q764:=eq_true q764)|((with_reducible refine gc_ 41 rfl ?_);refine gn_ (some 41) Try.func41 (impl_opens.calls ((rd_T37 l0 x5_1).f0) false _ A35.out) ?_;intro nd))
           go_roundg k1
           case measure=>have:=HK1.out;omega
           case rel=>exact⟨(y763),(x4_1),(wrap64 (x5_1 - 1)),rs_,H',⟨by have:=HK1.out;omega⟩,⟨kr_ HO_3.out⟩,⟨by (with_reducible repeat (first|apply Kd.R_alloc|apply Kd.R_drewN|apply Kd.R_drew));exact Kd.R_mono HO_4.out (fun _ hk=>hk.2)⟩,⟨bw HB.out⟩⟩
          rw[if_neg c33] at H
          exact absurd H (by simp)
         rw[if_neg c32] at H
         exact absurd H (by simp)
        rw[if_neg c31] at H
        exact absurd H (by simp)
       rw[if_neg c10] at H
       exact absurd H (by simp)
      rw[if_neg c9] at H
      exact absurd H (by simp)
     rw[if_neg c8] at H
     have c8b0:=decide_eq_false c8
     clear c8
     obtain rfl:=Option.some.inj H
     clear H
     go_wp2
     go_ret
     exact⟨_,rr_,by (with_reducible repeat (first|apply Kd.R_alloc|apply Kd.R_drewN|apply Kd.R_drew));exact Kd.R_mono HO_3.out (fun _ hk=>trivial),bw HB.out⟩
  rw[if_neg c3] at H
  exact absurd H (by simp)
 rw[if_neg c2] at H
 exact absurd H (by simp)

/-! ### impl_EndsOf: function 9 -/
def impl_EndsOf.f (k:Nat) (l0:List (S37)):Option (List Int × Bool):=(impl_deepest.f k l0).bind fun t769=>(if t769=0 then (some (([]:List Int),false)) else ((impl_endsOf.f k l0).bind fun t770=>(some (t770,true))))
theorem impl_EndsOf.calls (k:Nat) (A0:Option Addr) (c0:Nat) (l0:List (S37)) (r1:List Int) (r2:Bool) (w:World) (hr0:Kd.C k37 w A0 l0.length l0) (hc0:l0.length≤c0) (h:impl_EndsOf.f k l0=some (r1,r2)):
  Calls Try.prog 9 #[.slice A0 l0.length c0] w fun e w'=>∃ v0_:Value,e=.returned (.tuple #[v0_,.bool r2])∧Kd.R (Kd.int .i64) 3 w' w.heap.size (fun _=>True) v0_ r1∧Below w.heap.size w w':=by
 have HR0:=A_ hr0
 have HC0:=A_ hc0
 clear hr0 hc0
 have HB:=A_ (Below.refl w.heap.size w)
 have H:((impl_deepest.f k l0).bind fun t769=>(if t769=0 then (some (([]:List Int),false)) else ((impl_endsOf.f k l0).bind fun t770=>(some (t770,true)))))=some (r1,r2):=h
 clear h
 replace H:=bi_ H
 obtain⟨t769,A20,H⟩:=H
 have A2:=A_ A20
 clear A20
 by_cases c3:t769=0
 ·
  rw[if_pos c3] at H
  obtain⟨c3b0,c3b1⟩:=eT_ c3
  clear c3
  simp only[Option.some.injEq,Prod.mk.injEq] at H
  obtain⟨rfl,rfl⟩:=H
  go_enter Try.func9,Try.ntmps9
  go_wp2_with (first|((with_reducible refine gc_ 25 rfl ?_);refine goesL_ (some 5) rfl rfl Try.func25 (by kernel_rfl) rfl #[.slice A0 l0.length c0] rfl ar ?_;(with_reducible refine(impl_deepest.calls k _ _ l0 t769 _ ?side1 ?side2 A2.out).mono ?_);(case side1=>repeat (first|exact HR0.out|(with_reducible refine Kd.C_alloc ?_ _)|(with_reducible refine Kd.C_drewN ?_ _)|(with_reducible refine Kd.C_drew ?_)));(case side2=>exact HC0.out);rintro e w4 ⟨rfl,hb⟩;refine⟨_,rfl,?_⟩;replace HB:=bs_ HB hb;(try clear hb)))
  go_ret2
  exact⟨_,rr_,by first|exact Kd.R_nil _ _ _ _ _|exact Kd.N_nil _ _ _ _ _|exact Kd.V_nil _ _ _ _ _|exact Kd.Q_nil _ _ _ _ _|exact Kd.S_nil _ _ _ _ _,bw HB.out⟩
 rw[if_neg c3] at H
 obtain⟨c3b0,c3b1⟩:=eF_ c3
 replace H:=bi_ H
 obtain⟨t770,A50,H⟩:=H
 have A5:=A_ A50
 clear A50
 simp only[Option.some.injEq,Prod.mk.injEq] at H
 obtain⟨rfl,rfl⟩:=H
 go_enter Try.func9,Try.ntmps9
 go_wp2_with (first|((with_reducible refine gc_ 25 rfl ?_);refine goesL_ (some 5) rfl rfl Try.func25 (by kernel_rfl) rfl #[.slice A0 l0.length c0] rfl ar ?_;(with_reducible refine(impl_deepest.calls k _ _ l0 t769 _ ?side1 ?side2 A2.out).mono ?_);(case side1=>repeat (first|exact HR0.out|(with_reducible refine Kd.C_alloc ?_ _)|(with_reducible refine Kd.C_drewN ?_ _)|(with_reducible refine Kd.C_drew ?_)));(case side2=>exact HC0.out);rintro e w6 ⟨rfl,hb⟩;refine⟨_,rfl,?_⟩;replace HB:=bs_ HB hb;(try clear hb))|((with_reducible refine gc_ 26 rfl ?_);refine goesL_ (some 8) rfl rfl Try.func26 (by kernel_rfl) rfl #[.slice A0 l0.length c0] rfl ar ?_;(with_reducible refine(impl_endsOf.calls k _ _ l0 t770 _ ?side1 ?side2 A5.out).mono ?_);(case side1=>exact cb_ HR0 HB);(case side2=>exact HC0.out);rintro e w7 ⟨v771,rfl,ho0,hb⟩;refine⟨_,rfl,?_⟩;have HO772:=A_ (Kd.R_lower ho0 (below_size (bw HB.out)));replace HB:=bs_ HB hb;(try clear hb);(try clear hb2);(try clear hk);(try clear hi);(try clear ho0)))
 go_ret2
 exact⟨_,rr_,kr_ HO772.out,bw HB.out⟩

end Go.Proofs.Ytmajifnehjlncaa.Q

