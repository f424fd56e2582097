-- Written by a program of this session; it walks the functions that the law reaches.
import Derived.Test.YtmajifnehjlncaaQx0
import Derived.Test.YtmajifnehjlncaaQx6
import Derived.Test.YtmajifnehjlncaaQx7
namespace Go.Proofs.Ytmajifnehjlncaa.Q
open Go.RowKit Go.Proofs.YtmajifnehjlncaaW.PrintWords Go.Proofs.YtmajifnehjlncaaW.PrintLast Go.Proofs.YtmajifnehjlncaaW.PrintMore
attribute [local go_sem] max2_int min2_int max_two min_two max_three min_three max_four min_four   -- for this text's walks alone
set_option linter.unusedVariables false
set_option linter.unusedSimpArgs false
set_option maxRecDepth 100000
set_option maxHeartbeats 8000000

/-! ### spec_l6Ends: function 27 -/
mutual
def spec_l6Ends.j0:Nat→List (S37)→Bool→Option (List Int × Int × Bool)
 |0,_,_=>none
 |k+1,x0,x22=>if x22=true then (some (([]:List Int),0,false)) else (if 0≤(x0.length:Int) then (if ((x0.length:Int):Int).toNat≤35184372088832 then (if ([]:List (List Int)).length<5864062014805 then (spec_l6Ends.l0 k (List.replicate ((x0.length:Int):Int).toNat 0) 1 (([(-1)]:List Int)) (([true]:List Bool)) (([]:List (List Int))++[[]]) x0 (x0.length:Int) 0) else (none)) else (none)) else (none))
def spec_l6Ends.l0:Nat→List Int→Int→List Int→List Bool→List (List Int)→List (S37)→Int→Int→Option (List Int × Int × Bool)
 |0,_,_,_,_,_,_,_,_=>none
 |k+1,x5,x6,x7,x8,x9,x31,x32,x33=>if x33<x32 then (if 0≤x33 then (if x33<(x31.length:Int) then (if (wrap64 ((x7.length:Int) - 1))<0 then (some (([]:List Int),0,false)) else (if ((rd_T37 x31 x33).f0)=2 then (spec_l6Ends.j2 k x5 x6 x7 x8 x9 x33 (wrap64 ((x7.length:Int) - 1)) x31 x32 x33 ((rd_T37 x31 x33).f0) (((rd_T37 x31 x33).f0)==2) ((rd_T37 x31 x33).f0) ((rd_T37 x31 x33).f1)) else (if ((rd_T37 x31 x33).f0)=3 then (spec_l6Ends.j2 k x5 x6 x7 x8 x9 x33 (wrap64 ((x7.length:Int) - 1)) x31 x32 x33 ((rd_T37 x31 x33).f0) (((rd_T37 x31 x33).f0)==3) ((rd_T37 x31 x33).f0) ((rd_T37 x31 x33).f1)) else (spec_l6Ends.j2 k x5 x6 x7 x8 x9 x33 (wrap64 ((x7.length:Int) - 1)) x31 x32 x33 ((rd_T37 x31 x33).f0) (((rd_T37 x31 x33).f0)==4) ((rd_T37 x31 x33).f0) ((rd_T37 x31 x33).f1))))) else (none)) else (none)) else (some (x5,x6,((x7.length:Int)==0)))
def spec_l6Ends.j3:Nat→List Int→Int→List Int→List Bool→List (List Int)→Int→Int→List (S37)→Int→Int→Int→Int→Option (List Int × Int × Bool)
 |0,_,_,_,_,_,_,_,_,_,_,_,_=>none
 |k+1,x5,x6,x7,x8,x9,x10,x12,x31,x32,x33,x788000,x788001=>if 0≤x12 then (if x12<(x9.length:Int) then (if (rd_L3 x9 x12).length<17592186044416 then ((some (x9.set (x12:Int).toNat ((rd_L3 x9 x12)++[x10]):List (List Int))).bind fun y806=>(if x788000=11 then (spec_l6Ends.l1 k x5 x6 x7 x8 y806 x10 x12 x31 x32 x33 (rd_L3 y806 x12) ((rd_L3 y806 x12).length:Int) 0) else (spec_l6Ends.l0 k x5 x6 x7 x8 y806 x31 x32 (wrap64 (x33+1))))) else (none)) else (none)) else (none)
def spec_l6Ends.l1:Nat→List Int→Int→List Int→List Bool→List (List Int)→Int→Int→List (S37)→Int→Int→List Int→Int→Int→Option (List Int × Int × Bool)
 |0,_,_,_,_,_,_,_,_,_,_,_,_,_=>none
 |k+1,x5,x6,x7,x8,x9,x10,x12,x31,x32,x33,x95,x96,x97=>if x97<x96 then (if 0≤x97 then (if x97<(x95.length:Int) then (if 0≤(rd x95 x97) then (if (rd x95 x97)<(x5.length:Int) then (spec_l6Ends.l1 k (x5.set ((rd x95 x97):Int).toNat x10) x6 x7 x8 x9 x10 x12 x31 x32 x33 x95 x96 (wrap64 (x97+1))) else (none)) else (none)) else (none)) else (none)) else (if 0≤x12 then (if x12≤(x7.length:Int) then (if x12≤(x8.length:Int) then (if x12≤(x9.length:Int) then (spec_l6Ends.l0 k x5 x6 (x7.take (x12:Int).toNat) (x8.take (x12:Int).toNat) (x9.take (x12:Int).toNat) x31 x32 (wrap64 (x33+1))) else (none)) else (none)) else (none)) else (none))
def spec_l6Ends.j2:Nat→List Int→Int→List Int→List Bool→List (List Int)→Int→Int→List (S37)→Int→Int→Int→Bool→Int→Int→Option (List Int × Int × Bool)
 |0,_,_,_,_,_,_,_,_,_,_,_,_,_,_=>none
 |k+1,x5,x6,x7,x8,x9,x10,x12,x31,x32,x33,x44,x45,x788000,x788001=>if x45=true then (if x7.length<17592186044416 then ((some (x7++[x10]:List Int)).bind fun y788=>(if x8.length<140737488355328 then ((some (x8++[(x788000 !=4)]:List Bool)).bind fun y791=>(if x9.length<5864062014805 then ((some (x9++[(([x10]:List Int))]:List (List Int))).bind fun y797=>(if (y788.length:Int) > x6 then (spec_l6Ends.l0 k x5 (y788.length:Int) y788 y791 y797 x31 x32 (wrap64 (x33+1))) else (spec_l6Ends.l0 k x5 x6 y788 y791 y797 x31 x32 (wrap64 (x33+1))))) else (none))) else (none))) else (none)) else (if x44=5 then (if 0≤x12 then (if x12<(x8.length:Int) then (if rdOf false x8 x12=true then (some (([]:List Int),0,false)) else (spec_l6Ends.j3 k x5 x6 x7 (x8.set (x12:Int).toNat true) x9 x10 x12 x31 x32 x33 x788000 x788001)) else (none)) else (none)) else (spec_l6Ends.j3 k x5 x6 x7 x8 x9 x10 x12 x31 x32 x33 x788000 x788001))
end
def spec_l6Ends.f (k:Nat) (l0:List (S37)):Option (List Int × Int × Bool):=(spec_l6Good.f k l0).bind fun t773=>(if t773=true then (spec_l6Ends.j0 k l0 ((l0.length:Int)==0)) else (spec_l6Ends.j0 k l0 true))
theorem spec_l6Ends.calls (k:Nat) (A0:Option Addr) (c0:Nat) (l0:List (S37)) (r1:List Int) (r2:Int) (r3:Bool) (w:World) (hr0:Kd.C k37 w A0 l0.length l0) (hc0:l0.length≤c0) (h:spec_l6Ends.f k l0=some (r1,r2,r3)):
  Calls Try.prog 27 #[.slice A0 l0.length c0] w fun e w'=>∃ v0_:Value,e=.returned (.tuple #[v0_,.int .i64 r2,.bool r3])∧Kd.R (Kd.int .i64) 3 w' w.heap.size (fun _=>True) v0_ r1∧Below w.heap.size w w':=by
 have hu37:=Try.underlying37
 have HR0:=A_ hr0
 have HC0:=A_ hc0
 clear hr0 hc0
 have HB:=A_ (Below.refl w.heap.size w)
 have H:((spec_l6Good.f k l0).bind fun t773=>(if t773=true then (spec_l6Ends.j0 k l0 ((l0.length:Int)==0)) else (spec_l6Ends.j0 k l0 true)))=some (r1,r2,r3):=h
 clear h
 have HC2:=A_ H
 clear H
 go_enter Try.func27,Try.ntmps27
 go_upto_region 1 with (fail)
 go_cut [22] (fun v22 wc=>∃ (kq:Nat) (x22_1:Bool),v22=.bool x22_1∧Aside0 (spec_l6Ends.j0 kq l0 x22_1=some (r1,r2,r3))∧Aside0 (kq≤k)∧Aside0 (Below w.heap.size w wc))
 case first=>
  have H:=HC2.out
  clear HC2
  replace H:=bi_ H
  obtain⟨t773,A30,H⟩:=H
  have A3:=A_ A30
  clear A30
  by_cases c4:t773=true
  ·
   subst c4
   replace H:=iT_ H
   have H':=A_ H
   clear H
   go_wp2_with (first|((with_reducible refine gc_ 21 rfl ?_);refine gm_ (some 16) Try.func21 (spec_l6Good.calls k _ _ l0 true _ (cb_ HR0 HB) HC0.out A3.out) ?_;intro w5 hb;replace HB:=bs_ HB hb;(try clear hb)))
   go_meet
   case rel=>exact⟨_,(((l0.length:Int)==0)),rs_,H',⟨by first|omega|exact Nat.le_refl _⟩,⟨bw HB.out⟩⟩
  replace c4:=Bool.eq_false_iff.mpr c4
  subst c4
  replace H:=iF_ H
  have H':=A_ H
  clear H
  go_wp2_with (first|((with_reducible refine gc_ 21 rfl ?_);refine gm_ (some 16) Try.func21 (spec_l6Good.calls k _ _ l0 false _ (cb_ HR0 HB) HC0.out A3.out) ?_;intro w6 hb;replace HB:=bs_ HB hb;(try clear hb)))
  go_meet
  case rel=>exact⟨_,(true),rs_,H',⟨by first|omega|exact Nat.le_refl _⟩,⟨bw HB.out⟩⟩
 case rest=>
  clear HC2
  obtain⟨kq,x22_1,rfl,HA,HJ1,HB⟩:=hcut
  cases kq with
  |zero=>exact absurd HA.out (by simp[spec_l6Ends.j0])
  |succ kj1=>
   have H:=HA.out
   clear HA
   simp only[spec_l6Ends.j0] at H
   by_cases c7:x22_1=true
   ·
    subst c7
    replace H:=iT_ H
    simp only[Option.some.injEq,Prod.mk.injEq] at H
    obtain⟨rfl,rfl,rfl⟩:=H
    go_wp2
    go_ret3
    exact⟨_,rr_,by first|exact Kd.R_nil _ _ _ _ _|exact Kd.N_nil _ _ _ _ _|exact Kd.V_nil _ _ _ _ _|exact Kd.Q_nil _ _ _ _ _|exact Kd.S_nil _ _ _ _ _,bw HB.out⟩
   replace c7:=Bool.eq_false_iff.mpr c7
   subst c7
   replace H:=iF_ H
   by_cases c8:0≤(l0.length:Int)
   ·
    rw[if_pos c8] at H
    have c8b0:=eq_true c8
    have c8b1:=decide_eq_true c8
    clear c8
    by_cases c9:((l0.length:Int):Int).toNat≤35184372088832
    ·
     rw[if_pos c9] at H
     have c9b0:=eq_true c9
     have c9b1:=decide_eq_true c9
     clear c9
     obtain⟨y774,hy774⟩:∃ y_:List Int,y_=(List.replicate ((l0.length:Int):Int).toNat 0):=⟨_,rfl⟩
     replace H:(if ([]:List (List Int)).length<5864062014805 then (spec_l6Ends.l0 kj1 y774 1 (([(-1)]:List Int)) (([true]:List Bool)) (([]:List (List Int))++[[]]) l0 (l0.length:Int) 0) else (none))=some (r1,r2,r3):=by first|(rw[hy774];with_reducible exact H)|(have H2_:=(Option.bind_some _ _).symm.trans H;rw[hy774];with_reducible exact H2_)|(have H2_:=(Option.bind_some _ _).symm.trans H;with_reducible exact H2_)|with_reducible exact H|(rw[hy774];exact H)|exact H
     have Ny774:=A_ hy774
     clear hy774
     obtain⟨y777,hy777⟩:∃ y_:List Int,y_=(([(-1)]:List Int)):=⟨_,rfl⟩
     replace H:(if ([]:List (List Int)).length<5864062014805 then (spec_l6Ends.l0 kj1 y774 1 y777 (([true]:List Bool)) (([]:List (List Int))++[[]]) l0 (l0.length:Int) 0) else (none))=some (r1,r2,r3):=by first|(rw[hy777];with_reducible exact H)|(have H2_:=(Option.bind_some _ _).symm.trans H;rw[hy777];with_reducible exact H2_)|(have H2_:=(Option.bind_some _ _).symm.trans H;with_reducible exact H2_)|with_reducible exact H|(rw[hy777];exact H)|exact H
     have Ny777:=A_ hy777
     clear hy777
     obtain⟨y780,hy780⟩:∃ y_:List Bool,y_=(([true]:List Bool)):=⟨_,rfl⟩
     replace H:(if ([]:List (List Int)).length<5864062014805 then (spec_l6Ends.l0 kj1 y774 1 y777 y780 (([]:List (List Int))++[[]]) l0 (l0.length:Int) 0) else (none))=some (r1,r2,r3):=by first|(rw[hy780];with_reducible exact H)|(have H2_:=(Option.bind_some _ _).symm.trans H;rw[hy780];with_reducible exact H2_)|(have H2_:=(Option.bind_some _ _).symm.trans H;with_reducible exact H2_)|with_reducible exact H|(rw[hy780];exact H)|exact H
     have Ny780:=A_ hy780
     clear hy780
     by_cases c10:([]:List (List Int)).length<5864062014805
     ·
      rw[if_pos c10] at H
      have LMc10:=A_ c10
      clear c10
      obtain⟨y783,hy783⟩:∃ y_:List (List Int),y_=(([]:List (List Int))++[[]]):=⟨_,rfl⟩
      replace H:(spec_l6Ends.l0 kj1 y774 1 y777 y780 y783 l0 (l0.length:Int) 0)=some (r1,r2,r3):=by first|(rw[hy783];with_reducible exact H)|(have H2_:=(Option.bind_some _ _).symm.trans H;rw[hy783];with_reducible exact H2_)|(have H2_:=(Option.bind_some _ _).symm.trans H;with_reducible exact H2_)|with_reducible exact H|(rw[hy783];exact H)|exact H
      have Ny783:=A_ hy783
      clear hy783
      have H':=A_ H
      clear H
      go_wp2_with (first|((with_reducible refine gd_ 25 rfl ?_);(try (refine gate_guard (by rfl) ?_;dsimp only));refine Kd.R_make (Kd.int .i64) _ 3 rfl (N:=25) rfl 30 _ _ rfl (l0.length:Int) rfl rfl Try.underlying30 (.int .i64 0) 8 info3 rfl (by decide) (by omega) 0 (ok:=fun _=>True) (okp:=fun _=>True) rfl (fun _ hk=>hk) trivial (od_) (Nat.le_trans (Nat.mul_le_mul_right _ (od_:(l0.length:Int).toNat≤35184372088832)) (by omega)) (Below.refl _ _) (Nat.le_refl _) ?_;intro v775 w11 ho12 hb hg_ hnew_;clear hg_ hnew_;(first|rw[←Ny774.out] at ho12|(simp only[Int.reduceToNat] at ho12;rw[←Ny774.out] at ho12));have HO776:=A_ (Kd.R_lower ho12 (below_size (bw HB.out)));replace HB:=bs_ HB hb;clear hb ho12)|((with_reducible refine gd_ 26 rfl ?_);(try (refine gate_guard (by rfl) ?_;dsimp only));refine Kd.R_lit (Kd.int .i64) _ 3 ?hg (N:=26) ?hd (xs:=([(-1)]:List Int)) (inner:=[.int .i64 (-1)]) (ok:=fun _=>True) (okp:=fun _=>True) ?hr ?hp (fun _ hk=>hk) trivial (Below.refl _ _) (Nat.le_refl _) (by simp) ?_;(case hd=>rfl);(case hg=>rfl);(case hr=>first|(go_simp;done)|(go_simp;rfl));(case hp=>exact(Reps.one (show Kd.M (Kd.int .i64) _ _ _ (-1) [.int .i64 (-1)] from rfl) (Reps.none _ _)));intro v778 w13 ho14 hb hg_ hnew_;clear hg_ hnew_;(first|rw[←Ny777.out] at ho14|(simp only[Int.reduceToNat] at ho14;rw[←Ny777.out] at ho14));have HO779:=A_ (Kd.R_lower (Kd.R_new' ho14 (Kd.R_lt (kr_ HO776.out))) (below_size (bw HB.out)));replace HO776:=A_ (Kd.R_elder' (kr_ HO776.out) (Kd.R_base ho14) hb);replace HB:=bs_ HB hb;clear hb ho14)|((with_reducible refine gd_ 27 rfl ?_);(try (refine gate_guard (by rfl) ?_;dsimp only));refine Kd.R_lit Kd.bool _ 4 ?hg (N:=27) ?hd (xs:=([true]:List Bool)) (inner:=[.bool true]) (ok:=fun _=>True) (okp:=fun _=>True) ?hr ?hp (fun _ hk=>hk) trivial (Below.refl _ _) (Nat.le_refl _) (by simp) ?_;(case hd=>rfl);(case hg=>rfl);(case hr=>first|(go_simp;done)|(go_simp;rfl));(case hp=>exact(Reps.one (show Kd.M Kd.bool _ _ _ true [.bool true] from rfl) (Reps.none _ _)));intro v781 w15 ho16 hb hg_ hnew_;clear hg_ hnew_;(first|rw[←Ny780.out] at ho16|(simp only[Int.reduceToNat] at ho16;rw[←Ny780.out] at ho16));have HO782:=A_ (Kd.R_lower ho16 (below_size (bw HB.out)));replace HO776:=A_ (Kd.R_below (kr_ HO776.out) hb);replace HO779:=A_ (Kd.R_below (kr_ HO779.out) hb);replace HB:=bs_ HB hb;clear hb ho16)|((with_reducible refine gate_builtin (b:=.append) (xs:=#[.tmp 28,.tmp 29]) rfl ?_);(try (refine gate_guard (by rfl) ?_;dsimp only));at_builtin;refine Kd.S_append (Kd.slice 3 (Kd.int .i64)) (w0:=w) w.heap.size rfl (.tmp 28) (.tmp 29) 69 30 (.slice none 0 0) 24 rfl Try.underlying69 info30 rfl (by decide) (by omega) (.slice none 0 0) ([]:List (List Int)) [] [.slice none 0 0] (fun k_=>some k_≠(v775:Value).ownBlock∧some k_≠(v778:Value).ownBlock) (fun _=>False) rfl rfl ?aP (fun _ hk=>hk.elim) ?aF ?aO ?aB ?aS ?aL ?_;(case aP=>exact⟨_,rfl,Kd.R_nil _ _ _ _ _⟩);(case aB=>exact(bw HB.out));(case aF=>exact(fun k_ hk=>⟨Kd.fresh' (Kd.R_lt (kr_ HO776.out)) k_ hk,Kd.fresh' (Kd.R_lt (kr_ HO779.out)) k_ hk⟩));(case aO=>exact((Kd.S_nil _ _ _ _ _)));(case aS=>exact(below_size (bw HB.out)));(case aL=>have:=LMc10.out;omega);intro v784 w17 ho hb hg hat;rw[←Ny783.out] at ho;have HO785:=A_ (ho);replace HO776:=A_ (Kd.R_grown (kr_ HO776.out) hg (fun _ _=>by simp[Value.ownBlock]));replace HO779:=A_ (Kd.R_grown (kr_ HO779.out) hg (fun _ _=>by simp[Value.ownBlock]));replace HO782:=A_ (Kd.R_grown (kr_ HO782.out) hg (fun _ _=>by simp[Value.ownBlock]));replace HB:=A_ (hb);clear ho hb hg hat))
      (try simp only[Act.put,List.setIfInBounds_toArray,List.set_cons_zero,List.set_cons_succ])
      go_loopg [6,7,8,9,33] kj1 (fun kq v6 v7 v8 v9 v33 w'=>∃ (x5_2:List Int) (x6_2:Int) (x7_2:List Int) (x8_2:List Bool) (x9_2:List (List Int)) (x33_2:Int),v6=.int .i64 x6_2∧v33=.int .i64 x33_2∧Aside0 (spec_l6Ends.l0 kq x5_2 x6_2 x7_2 x8_2 x9_2 l0 (l0.length:Int) x33_2=some (r1,r2,r3))∧Aside0 (kq≤kj1)∧Aside0 (Kd.R (Kd.int .i64) 3 w' w.heap.size (fun k_=>some k_≠(v7:Value).ownBlock) v775 x5_2)∧Aside0 (Kd.R (Kd.int .i64) 3 w' w.heap.size (fun k_=>some k_≠(v775:Value).ownBlock) v7 x7_2)∧Aside0 (Kd.R Kd.bool 4 w' w.heap.size (fun _=>True) v8 x8_2)∧Aside0 (Kd.S (Kd.slice 3 (Kd.int .i64)) 30 w' w.heap.size (fun k_=>some k_≠(v775:Value).ownBlock∧some k_≠(v7:Value).ownBlock) v9 x9_2)∧Aside0 (Below w.heap.size w w'))
      case atStart=>exact⟨(y774),(1),(y777),(y780),(y783),(0),rs_,rs_,H',⟨Nat.le_refl _⟩,⟨by (with_reducible repeat (first|apply Kd.R_alloc|apply Kd.R_drewN|apply Kd.R_drew));exact Kd.R_mono HO776.out (fun _ hk=>hk.2)⟩,⟨by (with_reducible repeat (first|apply Kd.R_alloc|apply Kd.R_drewN|apply Kd.R_drew));exact Kd.R_mono HO779.out (fun _ hk=>hk.2)⟩,⟨kr_ HO782.out⟩,⟨ks_ HO785.out⟩,⟨bw HB.out⟩⟩
      case round=>
       clear H'
       try clear c7 c8 c8b0 c8b1 c9 c9b0 c9b1 c10
       obtain⟨x5_2,x6_2,x7_2,x8_2,x9_2,x33_2,rfl,rfl,HA,HK2,HO_5,HO_7,HO_8,HO_9,HB⟩:=hrel
       cases gk with
       |zero=>exact absurd HA.out (by simp[spec_l6Ends.l0])
       |succ k2=>
        have H:=HA.out
        clear HA
        simp only[spec_l6Ends.l0] at H
        by_cases c18:x33_2<(l0.length:Int)
        ·
         rw[if_pos c18] at H
         have c18b0:=decide_eq_true c18
         clear c18
         by_cases c19:0≤x33_2
         ·
          rw[if_pos c19] at H
          have c19b0:=decide_eq_true c19
          clear c19
          by_cases c20:x33_2<(l0.length:Int)
          ·
           rw[if_pos c20] at H
           have c20b0:=decide_eq_true c20
           clear c20
           by_cases c21:(wrap64 ((x7_2.length:Int) - 1))<0
           ·
            rw[if_pos c21] at H
            have c21b0:=decide_eq_true c21
            clear c21
            simp only[Option.some.injEq,Prod.mk.injEq] at H
            obtain⟨rfl,rfl,rfl⟩:=H
            have p786:0≤(x33_2:Int):=od_
            have q786:x33_2<(l0.length:Int):=od_
            obtain⟨ad786,e786,hx786_0,hx786_1⟩:=at_T37 HR0.out x33_2 p786 q786
            cases e786
            replace hx786_0:=cl_ HB.out hx786_0
            replace hx786_1:=cl_ HB.out hx786_1
            replace p786:=eq_true p786
            replace q786:=eq_true q786
            go_wp2_with (first|((with_reducible refine gd_ 11 rfl ?_);(try (refine gate_guard (by rfl) ?_;dsimp only));refine bx_ #[.int .i64 0,.int .i64 0] 37 ?_;intro gb787 hg w22 hbox hb;have BK787:=A_ hbox;have GW787:=gw_ hg HB;have GE787:=GW787;replace HO_5:=A_ (Kd.R_below (kr_ HO_5.out) hb);replace HO_7:=A_ (Kd.R_below (kr_ HO_7.out) hb);replace HO_8:=A_ (Kd.R_below (kr_ HO_8.out) hb);replace HO_9:=A_ (Kd.S_below (ks_ HO_9.out) hb);replace HB:=bs_ HB hb;clear hb hbox hg;obtain⟨hcz23_0,hcz23_1⟩:=cs2_ BK787.out;obtain⟨hfz23_0,hfz23_1⟩:=fz2_ BK787.out;obtain⟨Ao24,co24,eo24⟩:=Kd.R_slice HO_7.out;subst eo24))
            go_ret3
            exact⟨_,rr_,by first|exact Kd.R_nil _ _ _ _ _|exact Kd.N_nil _ _ _ _ _|exact Kd.V_nil _ _ _ _ _|exact Kd.Q_nil _ _ _ _ _|exact Kd.S_nil _ _ _ _ _,bw HB.out⟩
           rw[if_neg c21] at H
           have c21b0:=decide_eq_false c21
           clear c21
           have HC25:=A_ H
           clear H
           have p786:0≤(x33_2:Int):=od_
           have q786:x33_2<(l0.length:Int):=od_
           obtain⟨ad786,e786,hx786_0,hx786_1⟩:=at_T37 HR0.out x33_2 p786 q786
           cases e786
           replace hx786_0:=cl_ HB.out hx786_0
           replace hx786_1:=cl_ HB.out hx786_1
           replace p786:=eq_true p786
           replace q786:=eq_true q786
           go_upto_block 2 with (first|((with_reducible refine gd_ 11 rfl ?_);(try (refine gate_guard (by rfl) ?_;dsimp only));refine bx_ #[.int .i64 0,.int .i64 0] 37 ?_;intro gb787 hg w26 hbox hb;have BK787:=A_ hbox;have GW787:=gw_ hg HB;have GE787:=GW787;replace HO_5:=A_ (Kd.R_below (kr_ HO_5.out) hb);replace HO_7:=A_ (Kd.R_below (kr_ HO_7.out) hb);replace HO_8:=A_ (Kd.R_below (kr_ HO_8.out) hb);replace HO_9:=A_ (Kd.S_below (ks_ HO_9.out) hb);replace HB:=bs_ HB hb;clear hb hbox hg;obtain⟨hcz27_0,hcz27_1⟩:=cs2_ BK787.out;obtain⟨hfz27_0,hfz27_1⟩:=fz2_ BK787.out;obtain⟨Ao28,co28,eo28⟩:=Kd.R_slice HO_7.out;subst eo28))
           (try simp only[Act.put,List.setIfInBounds_toArray,List.set_cons_zero,List.set_cons_succ])
           go_cut [6,7,8,9] (fun v6 v7 v8 v9 wc=>∃ (kq:Nat) (x6_24:Int) (x7_24:List Int) (x8_24:List Bool) (x9_24:List (List Int)),v6=.int .i64 x6_24∧Aside0 (spec_l6Ends.j3 kq x5_2 x6_24 x7_24 x8_24 x9_24 x33_2 (wrap64 ((x7_2.length:Int) - 1)) l0 (l0.length:Int) x33_2 ((rd_T37 l0 x33_2).f0) ((rd_T37 l0 x33_2).f1)=some (r1,r2,r3))∧Aside0 (kq≤k2)∧Aside0 (Kd.R (Kd.int .i64) 3 wc w.heap.size (fun k_=>some k_≠(v7:Value).ownBlock) v775 x5_2)∧Aside0 (Kd.R (Kd.int .i64) 3 wc w.heap.size (fun k_=>some k_≠(v775:Value).ownBlock) v7 x7_24)∧Aside0 (Kd.R Kd.bool 4 wc w.heap.size (fun _=>True) v8 x8_24)∧Aside0 (Kd.S (Kd.slice 3 (Kd.int .i64)) 30 wc w.heap.size (fun k_=>some k_≠(v775:Value).ownBlock∧some k_≠(v7:Value).ownBlock) v9 x9_24)∧Aside0 (wc.heap[gb787]? =some (.cells #[.int .i64 ((rd_T37 l0 x33_2).f0),.int .i64 ((rd_T37 l0 x33_2).f1)] 37 (0,0)))∧Aside0 (Below w.heap.size w wc))
           case first=>
            have H:=HC25.out
            clear HC25
            have HC29:=A_ H
            clear H
            go_upto_if 45 with (fail)
            go_cut [45] (fun v45 wc=>∃ (kq:Nat) (x45_28:Bool),v45=.bool x45_28∧Aside0 (spec_l6Ends.j2 kq x5_2 x6_2 x7_2 x8_2 x9_2 x33_2 (wrap64 ((x7_2.length:Int) - 1)) l0 (l0.length:Int) x33_2 ((rd_T37 l0 x33_2).f0) x45_28 ((rd_T37 l0 x33_2).f0) ((rd_T37 l0 x33_2).f1)=some (r1,r2,r3))∧Aside0 (kq≤k2)∧Aside0 (Kd.R (Kd.int .i64) 3 wc w.heap.size (fun k_=>some k_≠((.slice Ao28 x7_2.length co28):Value).ownBlock) v775 x5_2)∧Aside0 (Kd.R (Kd.int .i64) 3 wc w.heap.size (fun k_=>some k_≠(v775:Value).ownBlock) (.slice Ao28 x7_2.length co28) x7_2)∧Aside0 (Kd.R Kd.bool 4 wc w.heap.size (fun _=>True) u8 x8_2)∧Aside0 (Kd.S (Kd.slice 3 (Kd.int .i64)) 30 wc w.heap.size (fun k_=>some k_≠(v775:Value).ownBlock∧some k_≠((.slice Ao28 x7_2.length co28):Value).ownBlock) u9 x9_2)∧Aside0 (wc.heap[gb787]? =some (.cells #[.int .i64 ((rd_T37 l0 x33_2).f0),.int .i64 ((rd_T37 l0 x33_2).f1)] 37 (0,0)))∧Aside0 (Below w.heap.size w wc))
            case first=>
             have H:=HC29.out
             clear HC29
             by_cases c30:((rd_T37 l0 x33_2).f0)=2
             ·
              rw[if_pos c30] at H
              obtain⟨c30b0,c30b1⟩:=eT_ c30
              clear c30
              (first|rw[c30b0]|(simp only[i64_w,i32_w];rw[c30b0])|skip)
              have H':=A_ H
              clear H
              go_wp2
              go_meet
              case rel=>exact⟨_,((((rd_T37 l0 x33_2).f0)==2)),rs_,H',⟨by have:=HJ1.out;have:=HK2.out;first|omega|exact Nat.le_refl _⟩,⟨by (with_reducible repeat (first|apply Kd.R_alloc|apply Kd.R_drewN|apply Kd.R_drew));exact Kd.R_mono (Kd.R_far (p:=⟨gb787,1,none⟩) (Kd.R_far (p:=⟨gb787,0,none⟩) (Kd.R_types HO_5.out BK787.out (by decide)) (fun _ hk=>hk.2) (.int .i64 ((rd_T37 l0 x33_2).f0))) (fun _ hk=>hk.2) (.int .i64 ((rd_T37 l0 x33_2).f1))) (fun _ hk=>hk.1)⟩,⟨by (with_reducible repeat (first|apply Kd.R_alloc|apply Kd.R_drewN|apply Kd.R_drew));exact Kd.R_mono (Kd.R_far (p:=⟨gb787,1,none⟩) (Kd.R_far (p:=⟨gb787,0,none⟩) (Kd.R_types HO_7.out BK787.out (by decide)) (fun _ hk=>hk.2) (.int .i64 ((rd_T37 l0 x33_2).f0))) (fun _ hk=>hk.2) (.int .i64 ((rd_T37 l0 x33_2).f1))) (fun _ hk=>hk.1)⟩,⟨by (with_reducible repeat (first|apply Kd.R_alloc|apply Kd.R_drewN|apply Kd.R_drew));exact Kd.R_mono (Kd.R_far (p:=⟨gb787,1,none⟩) (Kd.R_far (p:=⟨gb787,0,none⟩) (Kd.R_types HO_8.out BK787.out (by decide)) (fun _ hk=>hk.2) (.int .i64 ((rd_T37 l0 x33_2).f0))) (fun _ hk=>hk.2) (.int .i64 ((rd_T37 l0 x33_2).f1))) (fun _ hk=>trivial)⟩,⟨by (with_reducible repeat (first|apply Kd.S_alloc|apply Kd.S_drewN|apply Kd.S_drew));exact Kd.S_mono (Kd.S_far (p:=⟨gb787,1,none⟩) (Kd.S_far (p:=⟨gb787,0,none⟩) (Kd.S_types HO_9.out BK787.out (by decide)) (fun _ hk=>hk.2) (.int .i64 ((rd_T37 l0 x33_2).f0))) (fun _ hk=>hk.2) (.int .i64 ((rd_T37 l0 x33_2).f1))) (fun _ hk=>⟨hk.1.1,hk.1.2⟩)⟩,⟨by refine blk_put (cs:=#[.int .i64 ((rd_T37 l0 x33_2).f0),.int .i64 0]) ?_ 1 _ rfl;refine blk_put (cs:=#[.int .i64 0,.int .i64 0]) ?_ 0 _ rfl;(with_reducible repeat (first|refine blk_drewN ?_ _|refine blk_drew ?_|refine blk_alloc ?_ _));exact BK787.out⟩,⟨bw HB.out⟩⟩
             rw[if_neg c30] at H
             obtain⟨c30b0,c30b1⟩:=eF_ c30
             (first|rw[c30b0]|(simp only[i64_w,i32_w];rw[c30b0])|skip)
             by_cases c31:((rd_T37 l0 x33_2).f0)=3
             ·
              rw[if_pos c31] at H
              obtain⟨c31b0,c31b1⟩:=eT_ c31
              clear c31
              have H':=A_ H
              clear H
              go_wp2
              go_meet
              case rel=>exact⟨_,((((rd_T37 l0 x33_2).f0)==3)),rs_,H',⟨by have:=HJ1.out;have:=HK2.out;first|omega|exact Nat.le_refl _⟩,⟨by (with_reducible repeat (first|apply Kd.R_alloc|apply Kd.R_drewN|apply Kd.R_drew));exact Kd.R_mono (Kd.R_far (p:=⟨gb787,1,none⟩) (Kd.R_far (p:=⟨gb787,0,none⟩) (Kd.R_types HO_5.out BK787.out (by decide)) (fun _ hk=>hk.2) (.int .i64 ((rd_T37 l0 x33_2).f0))) (fun _ hk=>hk.2) (.int .i64 ((rd_T37 l0 x33_2).f1))) (fun _ hk=>hk.1)⟩,⟨by (with_reducible repeat (first|apply Kd.R_alloc|apply Kd.R_drewN|apply Kd.R_drew));exact Kd.R_mono (Kd.R_far (p:=⟨gb787,1,none⟩) (Kd.R_far (p:=⟨gb787,0,none⟩) (Kd.R_types HO_7.out BK787.out (by decide)) (fun _ hk=>hk.2) (.int .i64 ((rd_T37 l0 x33_2).f0))) (fun _ hk=>hk.2) (.int .i64 ((rd_T37 l0 x33_2).f1))) (fun _ hk=>hk.1)⟩,⟨by (with_reducible repeat (first|apply Kd.R_alloc|apply Kd.R_drewN|apply Kd.R_drew));exact Kd.R_mono (Kd.R_far (p:=⟨gb787,1,none⟩) (Kd.R_far (p:=⟨gb787,0,none⟩) (Kd.R_types HO_8.out BK787.out (by decide)) (fun _ hk=>hk.2) (.int .i64 ((rd_T37 l0 x33_2).f0))) (fun _ hk=>hk.2) (.int .i64 ((rd_T37 l0 x33_2).f1))) (fun _ hk=>trivial)⟩,⟨by (with_reducible repeat (first|apply Kd.S_alloc|apply Kd.S_drewN|apply Kd.S_drew));exact Kd.S_mono (Kd.S_far (p:=⟨gb787,1,none⟩) (Kd.S_far (p:=⟨gb787,0,none⟩) (Kd.S_types HO_9.out BK787.out (by decide)) (fun _ hk=>hk.2) (.int .i64 ((rd_T37 l0 x33_2).f0))) (fun _ hk=>hk.2) (.int .i64 ((rd_T37 l0 x33_2).f1))) (fun _ hk=>⟨hk.1.1,hk.1.2⟩)⟩,⟨by refine blk_put (cs:=#[.int .i64 ((rd_T37 l0 x33_2).f0),.int .i64 0]) ?_ 1 _ rfl;refine blk_put (cs:=#[.int .i64 0,.int .i64 0]) ?_ 0 _ rfl;(with_reducible repeat (first|refine blk_drewN ?_ _|refine blk_drew ?_|refine blk_alloc ?_ _));exact BK787.out⟩,⟨bw HB.out⟩⟩
             rw[if_neg c31] at H
             obtain⟨c31b0,c31b1⟩:=eF_ c31
             have H':=A_ H
             clear H
             go_wp2
             go_meet
             case rel=>exact⟨_,((((rd_T37 l0 x33_2).f0)==4)),rs_,H',⟨by have:=HJ1.out;have:=HK2.out;first|omega|exact Nat.le_refl _⟩,⟨by (with_reducible repeat (first|apply Kd.R_alloc|apply Kd.R_drewN|apply Kd.R_drew));exact Kd.R_mono (Kd.R_far (p:=⟨gb787,1,none⟩) (Kd.R_far (p:=⟨gb787,0,none⟩) (Kd.R_types HO_5.out BK787.out (by decide)) (fun _ hk=>hk.2) (.int .i64 ((rd_T37 l0 x33_2).f0))) (fun _ hk=>hk.2) (.int .i64 ((rd_T37 l0 x33_2).f1))) (fun _ hk=>hk.1)⟩,⟨by (with_reducible repeat (first|apply Kd.R_alloc|apply Kd.R_drewN|apply Kd.R_drew));exact Kd.R_mono (Kd.R_far (p:=⟨gb787,1,none⟩) (Kd.R_far (p:=⟨gb787,0,none⟩) (Kd.R_types HO_7.out BK787.out (by decide)) (fun _ hk=>hk.2) (.int .i64 ((rd_T37 l0 x33_2).f0))) (fun _ hk=>hk.2) (.int .i64 ((rd_T37 l0 x33_2).f1))) (fun _ hk=>hk.1)⟩,⟨by (with_reducible repeat (first|apply Kd.R_alloc|apply Kd.R_drewN|apply Kd.R_drew));exact Kd.R_mono (Kd.R_far (p:=⟨gb787,1,none⟩) (Kd.R_far (p:=⟨gb787,0,none⟩) (Kd.R_types HO_8.out BK787.out (by decide)) (fun _ hk=>hk.2) (.int .i64 ((rd_T37 l0 x33_2).f0))) (fun _ hk=>hk.2) (.int .i64 ((rd_T37 l0 x33_2).f1))) (fun _ hk=>trivial)⟩,⟨by (with_reducible repeat (first|apply Kd.S_alloc|apply Kd.S_drewN|apply Kd.S_drew));exact Kd.S_mono (Kd.S_far (p:=⟨gb787,1,none⟩) (Kd.S_far (p:=⟨gb787,0,none⟩) (Kd.S_types HO_9.out BK787.out (by decide)) (fun _ hk=>hk.2) (.int .i64 ((rd_T37 l0 x33_2).f0))) (fun _ hk=>hk.2) (.int .i64 ((rd_T37 l0 x33_2).f1))) (fun _ hk=>⟨hk.1.1,hk.1.2⟩)⟩,⟨by refine blk_put (cs:=#[.int .i64 ((rd_T37 l0 x33_2).f0),.int .i64 0]) ?_ 1 _ rfl;refine blk_put (cs:=#[.int .i64 0,.int .i64 0]) ?_ 0 _ rfl;(with_reducible repeat (first|refine blk_drewN ?_ _|refine blk_drew ?_|refine blk_alloc ?_ _));exact BK787.out⟩,⟨bw HB.out⟩⟩
            case rest=>
             clear HC29
             try clear c7 c8 c8b0 c8b1 c9 c9b0 c9b1 c10 c18 c18b0 c19 c19b0 c20 c20b0 c21 c21b0 hcz27_0 hcz27_1 hfz27_0 hfz27_1 hx786_0 hx786_1 p786 q786
             obtain⟨kq,x45_28,rfl,HA,HJ28,HO_5,HO_7,HO_8,HO_9,BK787,HB⟩:=hcut
             cases kq with
             |zero=>exact absurd HA.out (by simp[spec_l6Ends.j2])
             |succ kj28=>
              have H:=HA.out
              clear HA
              simp only[spec_l6Ends.j2] at H
              by_cases c32:x45_28=true
              ·
               subst c32
               replace H:=iT_ H
               by_cases c33:x7_2.length<17592186044416
               ·
                rw[if_pos c33] at H
                have LMc33:=A_ c33
                clear c33
                obtain⟨y788,hy788⟩:∃ y_:List Int,y_=(x7_2++[x33_2]):=⟨_,rfl⟩
                replace H:(if x8_2.length<140737488355328 then ((some (x8_2++[(((rd_T37 l0 x33_2).f0) !=4)]:List Bool)).bind fun y791=>(if x9_2.length<5864062014805 then ((some (x9_2++[(([x33_2]:List Int))]:List (List Int))).bind fun y797=>(if (y788.length:Int) > x6_2 then (spec_l6Ends.l0 kj28 x5_2 (y788.length:Int) y788 y791 y797 l0 (l0.length:Int) (wrap64 (x33_2+1))) else (spec_l6Ends.l0 kj28 x5_2 x6_2 y788 y791 y797 l0 (l0.length:Int) (wrap64 (x33_2+1))))) else (none))) else (none))=some (r1,r2,r3):=by first|(rw[hy788];with_reducible exact H)|(have H2_:=(Option.bind_some _ _).symm.trans H;rw[hy788];with_reducible exact H2_)|(have H2_:=(Option.bind_some _ _).symm.trans H;with_reducible exact H2_)|with_reducible exact H|(rw[hy788];exact H)|exact H
                have Ny788:=A_ hy788
                clear hy788
                by_cases c34:x8_2.length<140737488355328
                ·
                 rw[if_pos c34] at H
                 have LMc34:=A_ c34
                 clear c34
                 obtain⟨y791,hy791⟩:∃ y_:List Bool,y_=(x8_2++[(((rd_T37 l0 x33_2).f0) !=4)]):=⟨_,rfl⟩
                 replace H:(if x9_2.length<5864062014805 then ((some (x9_2++[(([x33_2]:List Int))]:List (List Int))).bind fun y797=>(if (y788.length:Int) > x6_2 then (spec_l6Ends.l0 kj28 x5_2 (y788.length:Int) y788 y791 y797 l0 (l0.length:Int) (wrap64 (x33_2+1))) else (spec_l6Ends.l0 kj28 x5_2 x6_2 y788 y791 y797 l0 (l0.length:Int) (wrap64 (x33_2+1))))) else (none))=some (r1,r2,r3):=by first|(rw[hy791];with_reducible exact H)|(have H2_:=(Option.bind_some _ _).symm.trans H;rw[hy791];with_reducible exact H2_)|(have H2_:=(Option.bind_some _ _).symm.trans H;with_reducible exact H2_)|with_reducible exact H|(rw[hy791];exact H)|exact H
                 have Ny791:=A_ hy791
                 clear hy791
                 obtain⟨y794,hy794⟩:∃ y_:List Int,y_=(([x33_2]:List Int)):=⟨_,rfl⟩
                 replace H:(if x9_2.length<5864062014805 then ((some (x9_2++[y794]:List (List Int))).bind fun y797=>(if (y788.length:Int) > x6_2 then (spec_l6Ends.l0 kj28 x5_2 (y788.length:Int) y788 y791 y797 l0 (l0.length:Int) (wrap64 (x33_2+1))) else (spec_l6Ends.l0 kj28 x5_2 x6_2 y788 y791 y797 l0 (l0.length:Int) (wrap64 (x33_2+1))))) else (none))=some (r1,r2,r3):=by first|(rw[hy794];with_reducible exact H)|(have H2_:=(Option.bind_some _ _).symm.trans H;rw[hy794];with_reducible exact H2_)|(have H2_:=(Option.bind_some _ _).symm.trans H;with_reducible exact H2_)|with_reducible exact H|(rw[hy794];exact H)|exact H
                 have Ny794:=A_ hy794
                 clear hy794
                 by_cases c35:x9_2.length<5864062014805
                 ·
                  rw[if_pos c35] at H
                  have LMc35:=A_ c35
                  clear c35
                  obtain⟨y797,hy797⟩:∃ y_:List (List Int),y_=(x9_2++[y794]):=⟨_,rfl⟩
                  replace H:(if (y788.length:Int) > x6_2 then (spec_l6Ends.l0 kj28 x5_2 (y788.length:Int) y788 y791 y797 l0 (l0.length:Int) (wrap64 (x33_2+1))) else (spec_l6Ends.l0 kj28 x5_2 x6_2 y788 y791 y797 l0 (l0.length:Int) (wrap64 (x33_2+1))))=some (r1,r2,r3):=by first|(rw[hy797];with_reducible exact H)|(have H2_:=(Option.bind_some _ _).symm.trans H;rw[hy797];with_reducible exact H2_)|(have H2_:=(Option.bind_some _ _).symm.trans H;with_reducible exact H2_)|with_reducible exact H|(rw[hy797];exact H)|exact H
                  have Ny797:=A_ hy797
                  clear hy797
                  by_cases c36:(y788.length:Int) > x6_2
                  ·
                   rw[if_pos c36] at H
                   have c36b0:=decide_eq_true c36
                   clear c36
                   have H':=A_ H
                   clear H
                   go_wp2_with (first|((with_reducible refine gate_builtin (b:=.append) (xs:=#[.tmp 49,.tmp 51]) rfl ?_);(try (refine gate_guard (by rfl) ?_;dsimp only));at_builtin;refine Kd.R_append (Kd.int .i64) (w0:=w) w.heap.size rfl (.tmp 49) (.tmp 51) 30 3 (.int .i64 0) 8 rfl Try.underlying30 info3 rfl (by decide) (by omega) (.slice Ao28 x7_2.length co28) x7_2 x33_2 [.int .i64 x33_2] (fun k_=>some k_≠(v775:Value).ownBlock) (fun _=>False) rfl rfl ?aP (fun _ hk=>hk.elim) ?aF ?aO ?aB ?aS ?aL ?_;(case aP=>exact rfl);(case aB=>exact(bw HB.out));(case aF=>exact(fun k_ hk=>Kd.fresh' (Kd.R_lt (kr_ HO_5.out)) k_ hk));(case aO=>exact(kr_ HO_7.out));(case aS=>exact(below_size (bw HB.out)));(case aL=>have:=LMc33.out;omega);intro v789 w37 ho hb hg hat;rw[←Ny788.out] at ho;have HO790:=A_ (ho);replace HO_5:=A_ (Kd.R_after (ok:=(fun _=>True)) (by(with_reducible repeat (first|apply Kd.R_alloc|apply Kd.R_drewN|apply Kd.R_drew));exact Kd.R_mono HO_5.out (fun _ hk=>⟨trivial,hk⟩)) hg hat);replace HO_8:=A_ (Kd.R_over' (kr_ HO_8.out) (Kd.R_typed (kr_ HO_7.out)) (by decide) hg);replace HO_9:=A_ (Kd.S_after (ok:=(fun k_=>some k_≠(v775:Value).ownBlock)) (ks_ HO_9.out) hg hat);replace BK787:=A_ (blk_grown (g:=gb787) (o:=.cells #[.int .i64 ((rd_T37 l0 x33_2).f0),.int .i64 ((rd_T37 l0 x33_2).f1)] 37 (0,0)) (bk BK787.out) hg (Kd.R_ne HO_7.out BK787.out (by decide)));replace HB:=A_ (hb);clear HO_7;clear ho hb hg hat;obtain⟨hcz38_0,hcz38_1⟩:=cs2_ BK787.out;obtain⟨hfz38_0,hfz38_1⟩:=fz2_ BK787.out)|((with_reducible refine gate_builtin (b:=.append) (xs:=#[.tmp 53,.tmp 57]) rfl ?_);(try (refine gate_guard (by rfl) ?_;dsimp only));at_builtin;refine Kd.R_append Kd.bool (w0:=w) w.heap.size rfl (.tmp 53) (.tmp 57) 68 4 (.bool false) 1 rfl Try.underlying68 info4 rfl (by decide) (by omega) u8 x8_2 (((rd_T37 l0 x33_2).f0) !=4) [.bool (((rd_T37 l0 x33_2).f0) !=4)] (fun _=>True) (fun _=>False) rfl rfl ?aP (fun _ hk=>hk.elim) ?aF ?aO ?aB ?aS ?aL ?_;(case aP=>exact rfl);(case aB=>exact(bw HB.out));(case aF=>exact(fun _ _=>trivial));(case aO=>exact(kr_ HO_8.out));(case aS=>exact(below_size (bw HB.out)));(case aL=>have:=LMc34.out;omega);intro v792 w39 ho hb hg hat;rw[←Ny791.out] at ho;have HO793:=A_ (ho);replace HO_5:=A_ (Kd.R_over' (kr_ HO_5.out) (Kd.R_typed (kr_ HO_8.out)) (by decide) hg);replace HO_9:=A_ (Kd.S_over' (ks_ HO_9.out) (Kd.R_typed (kr_ HO_8.out)) (by decide) hg);replace BK787:=A_ (blk_grown (g:=gb787) (o:=.cells #[.int .i64 ((rd_T37 l0 x33_2).f0),.int .i64 ((rd_T37 l0 x33_2).f1)] 37 (0,0)) (bk BK787.out) hg (Kd.R_ne HO_8.out BK787.out (by decide)));replace HO790:=A_ (Kd.R_over' (kr_ HO790.out) (Kd.R_typed (kr_ HO_8.out)) (by decide) hg);replace HB:=A_ (hb);clear HO_8;clear ho hb hg hat)|((with_reducible refine gd_ 61 rfl ?_);(try (refine gate_guard (by rfl) ?_;dsimp only));refine Kd.R_lit (Kd.int .i64) _ 3 ?hg (N:=61) ?hd (xs:=([x33_2]:List Int)) (inner:=[.int .i64 x33_2]) (ok:=fun _=>True) (okp:=fun _=>True) ?hr ?hp (fun _ hk=>hk) trivial (Below.refl _ _) (Nat.le_refl _) (by simp) ?_;(case hd=>rfl);(case hg=>rfl);(case hr=>first|(go_simp;done)|(go_simp;rfl));(case hp=>exact(Reps.one (show Kd.M (Kd.int .i64) _ _ _ x33_2 [.int .i64 x33_2] from rfl) (Reps.none _ _)));intro v795 w40 ho41 hb hg_ hnew_;clear hg_ hnew_;(first|rw[←Ny794.out] at ho41|(simp only[Int.reduceToNat] at ho41;rw[←Ny794.out] at ho41));have HO796:=A_ (Kd.R_lower (Kd.R_new' (Kd.R_new' ho41 (Kd.R_lt (kr_ HO_5.out))) (Kd.R_lt (kr_ HO790.out))) (below_size (bw HB.out)));replace HO_5:=A_ (Kd.R_elder' (kr_ HO_5.out) (Kd.R_base ho41) hb);replace HO_9:=A_ (Kd.S_elder' (ks_ HO_9.out) (Kd.R_base ho41) hb);replace HO790:=A_ (Kd.R_elder' (kr_ HO790.out) (Kd.R_base ho41) hb);replace HO793:=A_ (Kd.R_below (kr_ HO793.out) hb);replace BK787:=kb_ BK787 hb;replace HB:=bs_ HB hb;clear hb ho41;obtain⟨Ao43,co43,eo43⟩:=Kd.R_slice HO796.out;subst eo43)|((with_reducible refine gate_builtin (b:=.append) (xs:=#[.tmp 59,.tmp 62]) rfl ?_);(try (refine gate_guard (by rfl) ?_;dsimp only));at_builtin;refine Kd.S_append (Kd.slice 3 (Kd.int .i64)) (w0:=w) w.heap.size rfl (.tmp 59) (.tmp 62) 69 30 (.slice none 0 0) 24 rfl Try.underlying69 info30 rfl (by decide) (by omega) u9 x9_2 y794 [.slice Ao43 y794.length co43] (fun k_=>some k_≠(v775:Value).ownBlock∧some k_≠(v789:Value).ownBlock) (fun k_=>some k_=(.slice Ao43 y794.length co43:Value).ownBlock) rfl rfl ?aP (fun k_ hk_=>((Kd.R_mono (ok':=fun k_=>((fun k_=>some k_≠(v775:Value).ownBlock∧some k_≠(v789:Value).ownBlock)) k_∧some k_≠(u9:Value).ownBlock) (Kd.R_apart' (HO796.out) (Kd.S_typed HO_9.out) (by decide)) (fun k_ hk=>⟨⟨hk.1.1.2,hk.1.2⟩,hk.2⟩))).1 k_ hk_.symm) ?aF ?aO ?aB ?aS ?aL ?_;(case aP=>exact Kd.M_row (Kd.R_mono (Kd.R_tight rfl (Kd.R_mono (ok':=fun k_=>((fun k_=>some k_≠(v775:Value).ownBlock∧some k_≠(v789:Value).ownBlock)) k_∧some k_≠(u9:Value).ownBlock) (Kd.R_apart' (HO796.out) (Kd.S_typed HO_9.out) (by decide)) (fun k_ hk=>⟨⟨hk.1.1.2,hk.1.2⟩,hk.2⟩))) (fun _ h_=>h_)));(case aB=>exact(bw HB.out));(case aF=>exact(fun k_ hk=>⟨Kd.fresh' (Kd.R_lt (kr_ HO_5.out)) k_ hk,Kd.fresh' (Kd.R_lt (kr_ HO790.out)) k_ hk⟩));(case aO=>exact(by(with_reducible repeat (first|apply Kd.S_alloc|apply Kd.S_drewN|apply Kd.S_drew));exact Kd.S_mono HO_9.out (fun k_ hk=>⟨⟨hk.1.1,hk.1.2⟩,fun e_=>hk.2 e_⟩)));(case aS=>exact(below_size (bw HB.out)));(case aL=>have:=LMc35.out;omega);intro v798 w42 ho hb hg hat;rw[←Ny797.out] at ho;have HO799:=A_ (ho);replace HO_5:=A_ (Kd.R_over' (kr_ HO_5.out) (Kd.S_typed (ks_ HO_9.out)) (by decide) hg);replace BK787:=A_ (blk_grown (g:=gb787) (o:=.cells #[.int .i64 ((rd_T37 l0 x33_2).f0),.int .i64 ((rd_T37 l0 x33_2).f1)] 37 (0,0)) (bk BK787.out) hg (Kd.S_ne HO_9.out BK787.out (by decide)));replace HO790:=A_ (Kd.R_over' (kr_ HO790.out) (Kd.S_typed (ks_ HO_9.out)) (by decide) hg);replace HO793:=A_ (Kd.R_over' (kr_ HO793.out) (Kd.S_typed (ks_ HO_9.out)) (by decide) hg);replace HB:=A_ (hb);clear HO_9 HO796;clear ho hb hg hat;obtain⟨Ao44,co44,eo44⟩:=Kd.R_slice HO790.out;subst eo44))
                   go_roundg kj28
                   case measure=>have:=HJ1.out;have:=HK2.out;have:=HJ28.out;omega
                   case rel=>exact⟨(x5_2),((y788.length:Int)),(y788),(y791),(y797),(wrap64 (x33_2+1)),rs_,rs_,H',⟨by have:=HJ1.out;have:=HK2.out;have:=HJ28.out;omega⟩,⟨by (with_reducible repeat (first|apply Kd.R_alloc|apply Kd.R_drewN|apply Kd.R_drew));exact Kd.R_mono HO_5.out (fun _ hk=>hk.1.2)⟩,⟨by (with_reducible repeat (first|apply Kd.R_alloc|apply Kd.R_drewN|apply Kd.R_drew));exact Kd.R_mono HO790.out (fun _ hk=>hk.1)⟩,⟨kr_ HO793.out⟩,⟨ks_ HO799.out⟩,⟨bw HB.out⟩⟩
                  rw[if_neg c36] at H
                  have c36b0:=decide_eq_false c36
                  clear c36
                  have H':=A_ H
                  clear H
                  go_wp2_with (first|((with_reducible refine gate_builtin (b:=.append) (xs:=#[.tmp 49,.tmp 51]) rfl ?_);(try (refine gate_guard (by rfl) ?_;dsimp only));at_builtin;refine Kd.R_append (Kd.int .i64) (w0:=w) w.heap.size rfl (.tmp 49) (.tmp 51) 30 3 (.int .i64 0) 8 rfl Try.underlying30 info3 rfl (by decide) (by omega) (.slice Ao28 x7_2.length co28) x7_2 x33_2 [.int .i64 x33_2] (fun k_=>some k_≠(v775:Value).ownBlock) (fun _=>False) rfl rfl ?aP (fun _ hk=>hk.elim) ?aF ?aO ?aB ?aS ?aL ?_;(case aP=>exact rfl);(case aB=>exact(bw HB.out));(case aF=>exact(fun k_ hk=>Kd.fresh' (Kd.R_lt (kr_ HO_5.out)) k_ hk));(case aO=>exact(kr_ HO_7.out));(case aS=>exact(below_size (bw HB.out)));(case aL=>have:=LMc33.out;omega);intro v789 w45 ho hb hg hat;rw[←Ny788.out] at ho;have HO790:=A_ (ho);replace HO_5:=A_ (Kd.R_after (ok:=(fun _=>True)) (by(with_reducible repeat (first|apply Kd.R_alloc|apply Kd.R_drewN|apply Kd.R_drew));exact Kd.R_mono HO_5.out (fun _ hk=>⟨trivial,hk⟩)) hg hat);replace HO_8:=A_ (Kd.R_over' (kr_ HO_8.out) (Kd.R_typed (kr_ HO_7.out)) (by decide) hg);replace HO_9:=A_ (Kd.S_after (ok:=(fun k_=>some k_≠(v775:Value).ownBlock)) (ks_ HO_9.out) hg hat);replace BK787:=A_ (blk_grown (g:=gb787) (o:=.cells #[.int .i64 ((rd_T37 l0 x33_2).f0),.int .i64 ((rd_T37 l0 x33_2).f1)] 37 (0,0)) (bk BK787.out) hg (Kd.R_ne HO_7.out BK787.out (by decide)));replace HB:=A_ (hb);clear HO_7;clear ho hb hg hat;obtain⟨hcz46_0,hcz46_1⟩:=cs2_ BK787.out;obtain⟨hfz46_0,hfz46_1⟩:=fz2_ BK787.out)|((with_reducible refine gate_builtin (b:=.append) (xs:=#[.tmp 53,.tmp 57]) rfl ?_);(try (refine gate_guard (by rfl) ?_;dsimp only));at_builtin;refine Kd.R_append Kd.bool (w0:=w) w.heap.size rfl (.tmp 53) (.tmp 57) 68 4 (.bool false) 1 rfl Try.underlying68 info4 rfl (by decide) (by omega) u8 x8_2 (((rd_T37 l0 x33_2).f0) !=4) [.bool (((rd_T37 l0 x33_2).f0) !=4)] (fun _=>True) (fun _=>False) rfl rfl ?aP (fun _ hk=>hk.elim) ?aF ?aO ?aB ?aS ?aL ?_;(case aP=>exact rfl);(case aB=>exact(bw HB.out));(case aF=>exact(fun _ _=>trivial));(case aO=>exact(kr_ HO_8.out));(case aS=>exact(below_size (bw HB.out)));(case aL=>have:=LMc34.out;omega);intro v792 w47 ho hb hg hat;rw[←Ny791.out] at ho;have HO793:=A_ (ho);replace HO_5:=A_ (Kd.R_over' (kr_ HO_5.out) (Kd.R_typed (kr_ HO_8.out)) (by decide) hg);replace HO_9:=A_ (Kd.S_over' (ks_ HO_9.out) (Kd.R_typed (kr_ HO_8.out)) (by decide) hg);replace BK787:=A_ (blk_grown (g:=gb787) (o:=.cells #[.int .i64 ((rd_T37 l0 x33_2).f0),.int .i64 ((rd_T37 l0 x33_2).f1)] 37 (0,0)) (bk BK787.out) hg (Kd.R_ne HO_8.out BK787.out (by decide)));replace HO790:=A_ (Kd.R_over' (kr_ HO790.out) (Kd.R_typed (kr_ HO_8.out)) (by decide) hg);replace HB:=A_ (hb);clear HO_8;clear ho hb hg hat)|((with_reducible refine gd_ 61 rfl ?_);(try (refine gate_guard (by rfl) ?_;dsimp only));refine Kd.R_lit (Kd.int .i64) _ 3 ?hg (N:=61) ?hd (xs:=([x33_2]:List Int)) (inner:=[.int .i64 x33_2]) (ok:=fun _=>True) (okp:=fun _=>True) ?hr ?hp (fun _ hk=>hk) trivial (Below.refl _ _) (Nat.le_refl _) (by simp) ?_;(case hd=>rfl);(case hg=>rfl);(case hr=>first|(go_simp;done)|(go_simp;rfl));(case hp=>exact(Reps.one (show Kd.M (Kd.int .i64) _ _ _ x33_2 [.int .i64 x33_2] from rfl) (Reps.none _ _)));intro v795 w48 ho49 hb hg_ hnew_;clear hg_ hnew_;(first|rw[←Ny794.out] at ho49|(simp only[Int.reduceToNat] at ho49;rw[←Ny794.out] at ho49));have HO796:=A_ (Kd.R_lower (Kd.R_new' (Kd.R_new' ho49 (Kd.R_lt (kr_ HO_5.out))) (Kd.R_lt (kr_ HO790.out))) (below_size (bw HB.out)));replace HO_5:=A_ (Kd.R_elder' (kr_ HO_5.out) (Kd.R_base ho49) hb);replace HO_9:=A_ (Kd.S_elder' (ks_ HO_9.out) (Kd.R_base ho49) hb);replace HO790:=A_ (Kd.R_elder' (kr_ HO790.out) (Kd.R_base ho49) hb);replace HO793:=A_ (Kd.R_below (kr_ HO793.out) hb);replace BK787:=kb_ BK787 hb;replace HB:=bs_ HB hb;clear hb ho49;obtain⟨Ao51,co51,eo51⟩:=Kd.R_slice HO796.out;subst eo51)|((with_reducible refine gate_builtin (b:=.append) (xs:=#[.tmp 59,.tmp 62]) rfl ?_);(try (refine gate_guard (by rfl) ?_;dsimp only));at_builtin;refine Kd.S_append (Kd.slice 3 (Kd.int .i64)) (w0:=w) w.heap.size rfl (.tmp 59) (.tmp 62) 69 30 (.slice none 0 0) 24 rfl Try.underlying69 info30 rfl (by decide) (by omega) u9 x9_2 y794 [.slice Ao51 y794.length co51] (fun k_=>some k_≠(v775:Value).ownBlock∧some k_≠(v789:Value).ownBlock) (fun k_=>some k_=(.slice Ao51 y794.length co51:Value).ownBlock) rfl rfl ?aP (fun k_ hk_=>((Kd.R_mono (ok':=fun k_=>((fun k_=>some k_≠(v775:Value).ownBlock∧some k_≠(v789:Value).ownBlock)) k_∧some k_≠(u9:Value).ownBlock) (Kd.R_apart' (HO796.out) (Kd.S_typed HO_9.out) (by decide)) (fun k_ hk=>⟨⟨hk.1.1.2,hk.1.2⟩,hk.2⟩))).1 k_ hk_.symm) ?aF ?aO ?aB ?aS ?aL ?_;(case aP=>exact Kd.M_row (Kd.R_mono (Kd.R_tight rfl (Kd.R_mono (ok':=fun k_=>((fun k_=>some k_≠(v775:Value).ownBlock∧some k_≠(v789:Value).ownBlock)) k_∧some k_≠(u9:Value).ownBlock) (Kd.R_apart' (HO796.out) (Kd.S_typed HO_9.out) (by decide)) (fun k_ hk=>⟨⟨hk.1.1.2,hk.1.2⟩,hk.2⟩))) (fun _ h_=>h_)));(case aB=>exact(bw HB.out));(case aF=>exact(fun k_ hk=>⟨Kd.fresh' (Kd.R_lt (kr_ HO_5.out)) k_ hk,Kd.fresh' (Kd.R_lt (kr_ HO790.out)) k_ hk⟩));(case aO=>exact(by(with_reducible repeat (first|apply Kd.S_alloc|apply Kd.S_drewN|apply Kd.S_drew));exact Kd.S_mono HO_9.out (fun k_ hk=>⟨⟨hk.1.1,hk.1.2⟩,fun e_=>hk.2 e_⟩)));(case aS=>exact(below_size (bw HB.out)));(case aL=>have:=LMc35.out;omega);intro v798 w50 ho hb hg hat;rw[←Ny797.out] at ho;have HO799:=A_ (ho);replace HO_5:=A_ (Kd.R_over' (kr_ HO_5.out) (Kd.S_typed (ks_ HO_9.out)) (by decide) hg);replace BK787:=A_ (blk_grown (g:=gb787) (o:=.cells #[.int .i64 ((rd_T37 l0 x33_2).f0),.int .i64 ((rd_T37 l0 x33_2).f1)] 37 (0,0)) (bk BK787.out) hg (Kd.S_ne HO_9.out BK787.out (by decide)));replace HO790:=A_ (Kd.R_over' (kr_ HO790.out) (Kd.S_typed (ks_ HO_9.out)) (by decide) hg);replace HO793:=A_ (Kd.R_over' (kr_ HO793.out) (Kd.S_typed (ks_ HO_9.out)) (by decide) hg);replace HB:=A_ (hb);clear HO_9 HO796;clear ho hb hg hat;obtain⟨Ao52,co52,eo52⟩:=Kd.R_slice HO790.out;subst eo52))
                  go_roundg kj28
                  case measure=>have:=HJ1.out;have:=HK2.out;have:=HJ28.out;omega
                  case rel=>exact⟨(x5_2),(x6_2),(y788),(y791),(y797),(wrap64 (x33_2+1)),rs_,rs_,H',⟨by have:=HJ1.out;have:=HK2.out;have:=HJ28.out;omega⟩,⟨by (with_reducible repeat (first|apply Kd.R_alloc|apply Kd.R_drewN|apply Kd.R_drew));exact Kd.R_mono HO_5.out (fun _ hk=>hk.1.2)⟩,⟨by (with_reducible repeat (first|apply Kd.R_alloc|apply Kd.R_drewN|apply Kd.R_drew));exact Kd.R_mono HO790.out (fun _ hk=>hk.1)⟩,⟨kr_ HO793.out⟩,⟨ks_ HO799.out⟩,⟨bw HB.out⟩⟩
                 rw[if_neg c35] at H
                 exact absurd H (by simp)
                rw[if_neg c34] at H
                exact absurd H (by simp)
               rw[if_neg c33] at H
               exact absurd H (by simp)
              replace c32:=Bool.eq_false_iff.mpr c32
              subst c32
              replace H:=iF_ H
              by_cases c53:((rd_T37 l0 x33_2).f0)=5
              ·
               rw[if_pos c53] at H
               obtain⟨c53b0,c53b1⟩:=eT_ c53
               clear c53
               obtain⟨ji54,hji54⟩:∃ j_:Int,(wrap64 ((x7_2.length:Int) - 1))=j_:=⟨_,rfl⟩
               replace H:(if 0≤(ji54) then (if (ji54)<(x8_2.length:Int) then (if rdOf false x8_2 (ji54)=true then (some (([]:List Int),0,false)) else (spec_l6Ends.j3 kj28 x5_2 x6_2 x7_2 (x8_2.set ((ji54):Int).toNat true) x9_2 x33_2 (ji54) l0 (l0.length:Int) x33_2 ((rd_T37 l0 x33_2).f0) ((rd_T37 l0 x33_2).f1))) else (none)) else (none))=some (r1,r2,r3):=by first|(rw[hji54] at H;exact H)|(simp only[hji54] at H ⊢;exact H)
               (try rw[hji54] at c21b0)
               have hji54w:(IntKind.i64.wrap ((x7_2.length:Int) - 1))=ji54:=(i64_w _).trans hji54
               by_cases c55:0≤(ji54)
               ·
                rw[if_pos c55] at H
                have c55b0:=decide_eq_true c55
                clear c55
                by_cases c56:(ji54)<(x8_2.length:Int)
                ·
                 rw[if_pos c56] at H
                 have c56b0:=decide_eq_true c56
                 clear c56
                 obtain⟨bq57,hbq57⟩:∃ b_:Bool,b_=(rdOf false x8_2 (ji54)):=⟨_,rfl⟩
                 replace H:(if bq57=true then (some (([]:List Int),0,false)) else (spec_l6Ends.j3 kj28 x5_2 x6_2 x7_2 (x8_2.set ((ji54):Int).toNat true) x9_2 x33_2 (ji54) l0 (l0.length:Int) x33_2 ((rd_T37 l0 x33_2).f0) ((rd_T37 l0 x33_2).f1)))=some (r1,r2,r3):=by rw[←hbq57] at H;exact H
                 have Nbq57:=A_ hbq57
                 clear hbq57
                 by_cases c58:bq57=true
                 ·
                  subst c58
                  replace H:=iT_ H
                  simp only[Option.some.injEq,Prod.mk.injEq] at H
                  obtain⟨rfl,rfl,rfl⟩:=H
                  obtain⟨Ao59,co59,eo59⟩:=Kd.R_slice HO_8.out
                  subst eo59
                  have p800:0≤((ji54):Int):=od_
                  have q800:(ji54)<(x8_2.length:Int):=od_
                  obtain⟨ad800,e800,hx800_0⟩:=Kd.at_bool (Kd.R_reads' HO_8.out).2.2 (ji54) p800 q800
                  (try rw[←Nbq57.out] at hx800_0)
                  cases e800
                  replace p800:=eq_true p800
                  replace q800:=eq_true q800
                  go_wp2
                  go_ret3
                  exact⟨_,by first|rfl|(simp[errW_none,errW_some]<;>rfl)|(simp only[←hji54];first|rfl|(simp[errW_none,errW_some]<;>rfl))|(simp[*,errW_none,errW_some]<;>rfl),by first|exact Kd.R_nil _ _ _ _ _|exact Kd.N_nil _ _ _ _ _|exact Kd.V_nil _ _ _ _ _|exact Kd.Q_nil _ _ _ _ _|exact Kd.S_nil _ _ _ _ _,bw HB.out⟩
                 replace c58:=Bool.eq_false_iff.mpr c58
                 subst c58
                 replace H:=iF_ H
                 obtain⟨y801,hy801⟩:∃ y_:List Bool,y_=(x8_2.set ((ji54):Int).toNat true):=⟨_,rfl⟩
                 replace H:(spec_l6Ends.j3 kj28 x5_2 x6_2 x7_2 y801 x9_2 x33_2 (ji54) l0 (l0.length:Int) x33_2 ((rd_T37 l0 x33_2).f0) ((rd_T37 l0 x33_2).f1))=some (r1,r2,r3):=by first|(rw[hy801];with_reducible exact H)|(have H2_:=(Option.bind_some _ _).symm.trans H;rw[hy801];with_reducible exact H2_)|(have H2_:=(Option.bind_some _ _).symm.trans H;with_reducible exact H2_)|with_reducible exact H|(rw[hy801];exact H)|exact H
                 have Ny801:=A_ hy801
                 clear hy801
                 have H':=A_ H
                 clear H
                 obtain⟨Ao61,co61,eo61⟩:=Kd.R_slice HO_8.out
                 subst eo61
                 have p800:0≤((ji54):Int):=od_
                 have q800:(ji54)<(x8_2.length:Int):=od_
                 obtain⟨ad800,e800,hx800_0⟩:=Kd.at_bool (Kd.R_reads' HO_8.out).2.2 (ji54) p800 q800
                 (try rw[←Nbq57.out] at hx800_0)
                 cases e800
                 replace p800:=eq_true p800
                 replace q800:=eq_true q800
                 have p60:0≤((ji54):Int):=od_
                 have q60:((ji54):Int)<((x8_2.length:Int):Int):=od_
                 obtain⟨go60,co60,eo60,gb60,gl60,cl60,HG60⟩:=Kd.R_form HO_8.out (by omega)
                 (first|cases eo60|(injection eo60 with ea_ en_ ec_;(first|subst ea_|(injection ea_ with ea_;subst ea_));subst ec_;clear en_))
                 have GB60:=A_ gb60
                 have GG60:=A_ HG60
                 clear gb60 gl60 HG60
                 (first|simp only[add_plain] at hx800_0|skip)
                 obtain⟨hx60_0,hf60_0⟩:=Kd.R_celln false HO_8.out ((ji54):Int) p60 q60
                 replace p60:=eq_true p60
                 replace q60:=eq_true q60
                 have HP62:=Kd.R_putg HO_8.out ((ji54):Int) true
                 go_wp2_with (first|((with_reducible refine gate_store (t:=4) (p:=78) rfl ?_);refine store_event (t:=4) (p:=78) (v:=?vo_w63) (w1:=(wc.setCell ⟨go60,((ji54):Int).toNat,none⟩ (.bool true))) ?hg ?ho ?hn ?hr ?_;(case ho=>rfl);(case hg=>rfl);(case hn=>rfl);(case hr=>first|(go_simp;done)|(go_simp;rfl));intro w63 hw;have hg:wc.grownBy w63 (some go60):=(by rw[hw];exact HP62.2);have hp_:Kd.R Kd.bool 4 w63 w.heap.size (fun _=>True) (.slice (some ⟨go60,0,none⟩) x8_2.length co61) y801:=(by rw[hw,Ny801.out];exact HP62.1);clear HP62;replace HO_5:=A_ (Kd.R_over' (v:=(.slice (some ⟨go60,0,none⟩) x8_2.length co61)) (kr_ HO_5.out) (Kd.R_typed HO_8.out) (by decide) hg);replace HO_7:=A_ (Kd.R_over' (v:=(.slice (some ⟨go60,0,none⟩) x8_2.length co61)) (kr_ HO_7.out) (Kd.R_typed HO_8.out) (by decide) hg);replace HO_9:=A_ (Kd.S_over' (v:=(.slice (some ⟨go60,0,none⟩) x8_2.length co61)) (ks_ HO_9.out) (Kd.R_typed HO_8.out) (by decide) hg);replace BK787:=A_ (blk_grown (g:=gb787) (o:=.cells #[.int .i64 ((rd_T37 l0 x33_2).f0),.int .i64 ((rd_T37 l0 x33_2).f1)] 37 (0,0)) (bk BK787.out) hg (Kd.R_ne HO_8.out BK787.out (by decide)));replace HO_8:=A_ (hp_);replace HB:=A_ ((by rw[hw];exact below_set (HB.out) GB60.out:Below w.heap.size w w63));clear hg hw hp_))
                 first|go_meet|((simp only[←hji54]);go_meet)
                 case rel=>exact⟨kj28,(x6_2),(x7_2),(y801),(x9_2),rs_,(by rw[hji54];exact H'),⟨by have:=HJ1.out;have:=HK2.out;have:=HJ28.out;first|omega|exact Nat.le_refl _⟩,⟨kr_ HO_5.out⟩,⟨kr_ HO_7.out⟩,⟨kr_ HO_8.out⟩,⟨ks_ HO_9.out⟩,⟨bk BK787.out⟩,⟨bw HB.out⟩⟩
                rw[if_neg c56] at H
                exact absurd H (by simp)
               rw[if_neg c55] at H
               exact absurd H (by simp)
              rw[if_neg c53] at H
              obtain⟨c53b0,c53b1⟩:=eF_ c53
              have H':=A_ H
              clear H
              go_wp2
              go_meet
              case rel=>exact⟨_,(x6_2),(x7_2),(x8_2),(x9_2),rs_,H',⟨by have:=HJ1.out;have:=HK2.out;have:=HJ28.out;first|omega|exact Nat.le_refl _⟩,⟨kr_ HO_5.out⟩,⟨kr_ HO_7.out⟩,⟨kr_ HO_8.out⟩,⟨ks_ HO_9.out⟩,⟨bk BK787.out⟩,⟨bw HB.out⟩⟩
           case rest=>
            clear HC25
            try clear c7 c8 c8b0 c8b1 c9 c9b0 c9b1 c10 c18 c18b0 c19 c19b0 c20 c20b0 c21 c21b0 hcz27_0 hcz27_1 hfz27_0 hfz27_1 hx786_0 hx786_1 p786 q786
            obtain⟨kq,x6_24,x7_24,x8_24,x9_24,rfl,HA,HJ24,HO_5,HO_7,HO_8,HO_9,BK787,HB⟩:=hcut
            cases kq with
            |zero=>exact absurd HA.out (by simp[spec_l6Ends.j3])
            |succ kj24=>
             have H:=HA.out
             clear HA
             simp only[spec_l6Ends.j3] at H
             obtain⟨ji64,hji64⟩:∃ j_:Int,(wrap64 ((x7_2.length:Int) - 1))=j_:=⟨_,rfl⟩
             replace H:(if 0≤(ji64) then (if (ji64)<(x9_24.length:Int) then (if (rd_L3 x9_24 (ji64)).length<17592186044416 then ((some (x9_24.set ((ji64):Int).toNat ((rd_L3 x9_24 (ji64))++[x33_2]):List (List Int))).bind fun y806=>(if ((rd_T37 l0 x33_2).f0)=11 then (spec_l6Ends.l1 kj24 x5_2 x6_24 x7_24 x8_24 y806 x33_2 (ji64) l0 (l0.length:Int) x33_2 (rd_L3 y806 (ji64)) ((rd_L3 y806 (ji64)).length:Int) 0) else (spec_l6Ends.l0 kj24 x5_2 x6_24 x7_24 x8_24 y806 l0 (l0.length:Int) (wrap64 (x33_2+1))))) else (none)) else (none)) else (none))=some (r1,r2,r3):=by first|(rw[hji64] at H;exact H)|(simp only[hji64] at H ⊢;exact H)
             (try rw[hji64] at c21b0)
             have hji64w:(IntKind.i64.wrap ((x7_2.length:Int) - 1))=ji64:=(i64_w _).trans hji64
             by_cases c65:0≤(ji64)
             ·
              rw[if_pos c65] at H
              have c65b0:=decide_eq_true c65
              clear c65
              by_cases c66:(ji64)<(x9_24.length:Int)
              ·
               rw[if_pos c66] at H
               have c66b0:=decide_eq_true c66
               clear c66
               by_cases c67:(rd_L3 x9_24 (ji64)).length<17592186044416
               ·
                rw[if_pos c67] at H
                have LMc67:=A_ c67
                clear c67
                obtain⟨y803,hy803⟩:∃ y_:List Int,y_=((rd_L3 x9_24 (ji64))++[x33_2]):=⟨_,rfl⟩
                replace H:((some (x9_24.set ((ji64):Int).toNat y803:List (List Int))).bind fun y806=>(if ((rd_T37 l0 x33_2).f0)=11 then (spec_l6Ends.l1 kj24 x5_2 x6_24 x7_24 x8_24 y806 x33_2 (ji64) l0 (l0.length:Int) x33_2 (rd_L3 y806 (ji64)) ((rd_L3 y806 (ji64)).length:Int) 0) else (spec_l6Ends.l0 kj24 x5_2 x6_24 x7_24 x8_24 y806 l0 (l0.length:Int) (wrap64 (x33_2+1)))))=some (r1,r2,r3):=by first|(rw[hy803];with_reducible exact H)|(have H2_:=(Option.bind_some _ _).symm.trans H;rw[hy803];with_reducible exact H2_)|(have H2_:=(Option.bind_some _ _).symm.trans H;with_reducible exact H2_)|with_reducible exact H|(rw[hy803];exact H)|exact H
                have Ny803:=A_ hy803
                clear hy803
                obtain⟨y806,hy806⟩:∃ y_:List (List Int),y_=(x9_24.set ((ji64):Int).toNat y803):=⟨_,rfl⟩
                replace H:(if ((rd_T37 l0 x33_2).f0)=11 then (spec_l6Ends.l1 kj24 x5_2 x6_24 x7_24 x8_24 y806 x33_2 (ji64) l0 (l0.length:Int) x33_2 (rd_L3 y806 (ji64)) ((rd_L3 y806 (ji64)).length:Int) 0) else (spec_l6Ends.l0 kj24 x5_2 x6_24 x7_24 x8_24 y806 l0 (l0.length:Int) (wrap64 (x33_2+1))))=some (r1,r2,r3):=by first|(rw[hy806];with_reducible exact H)|(have H2_:=(Option.bind_some _ _).symm.trans H;rw[hy806];with_reducible exact H2_)|(have H2_:=(Option.bind_some _ _).symm.trans H;with_reducible exact H2_)|with_reducible exact H|(rw[hy806];exact H)|exact H
                have Ny806:=A_ hy806
                clear hy806
                by_cases c69:((rd_T37 l0 x33_2).f0)=11
                ·
                 rw[if_pos c69] at H
                 obtain⟨c69b0,c69b1⟩:=eT_ c69
                 clear c69
                 have H':=A_ H
                 clear H
                 obtain⟨Ao70,co70,eo70⟩:=Kd.S_slice HO_9.out
                 subst eo70
                 have p802:0≤((ji64):Int):=od_
                 have q802:(ji64)<(x9_24.length:Int):=od_
                 obtain⟨ad802,A802_0,c802_0,e802,hx802_0,hl802_0,hi802_0⟩:=at_L3 (Kd.S_reads' HO_9.out).2.2 (ji64) p802 q802
                 cases e802
                 obtain⟨ce802,hce802,hMe802,hcc802⟩:=Kd.S_get HO_9.out [] (ji64) p802 (by first|exact q802|exact od_|(have e_:=(Kd.S_reads' HO_9.out).1;omega))
                 obtain⟨ve802_0,rfl,ge802_0⟩:=hMe802
                 have hv802_0:=hcc802 0 _ rfl
                 rw[Nat.add_zero,show ((Kd.slice 3 (Kd.int .i64))).sz=1 from rfl,Nat.mul_one] at hv802_0
                 replace hv802_0:=Option.some.inj (hv802_0.symm.trans hx802_0)
                 rw[hv802_0] at ge802_0
                 have HL802_0:=A_ (show Kd.R (Kd.int .i64) 3 _ _ _ _ (rd_L3 x9_24 (ji64)) from ge802_0)
                 clear hv802_0 ge802_0
                 have HX802_0:=A_ hx802_0
                 clear hcc802 hce802
                 have HR802_0:=A_ hi802_0
                 have HC802_0:=A_ hl802_0
                 clear hi802_0 hl802_0
                 replace p802:=eq_true p802
                 replace q802:=eq_true q802
                 obtain⟨go71,co71,eo71,gb71,gl71,cl71,HG71⟩:=Kd.S_form HO_9.out (by have h_:((ji64):Int)<((x9_24.length:Int):Int):=od_;have h2_:0≤((ji64):Int):=(od_);omega)
                 (first|cases eo71|(injection eo71 with ea_ en_ ec_;(first|subst ea_|(injection ea_ with ea_;subst ea_));subst ec_;clear en_))
                 have GB71:=A_ gb71
                 have GG71:=A_ HG71
                 clear gb71 gl71 HG71
                 (first|simp only[add_plain] at hx802_0|skip)
                 obtain⟨oki71,ce71,hcl71,hM71,hcc71,_,_,hH71⟩:=Kd.S_elem HO_9.out [] ((ji64):Int) (od_) (by have h_:((ji64):Int)<((x9_24.length:Int):Int):=od_;first|exact h_|(have e_:=(Kd.S_reads' HO_9.out).1;omega)|simpa using h_)
                 obtain⟨ve71_0,rfl,ge71_0⟩:=hM71
                 have hv71:=hcc71 0 _ rfl
                 have hX71:=HX802_0.out
                 (try simp only[add_plain] at hX71)
                 (try simp only[Nat.add_zero] at hv71)
                 (try rw[show ((Kd.slice 3 (Kd.int .i64))).sz=1 from rfl,Nat.mul_one] at hv71)
                 replace hv71:=Option.some.inj (hv71.symm.trans hX71)
                 subst hv71
                 clear hX71 hcc71 hcl71
                 have UU71:=A_ (show Kd.R (Kd.int .i64) 3 _ w.heap.size oki71 (.slice A802_0 (rd_L3 x9_24 (ji64)).length c802_0) (rd_L3 x9_24 (ji64)) from ge71_0)
                 have HH71:=A_ hH71
                 have HN71:=A_ (Kd.S_reads' HO_9.out).1
                 clear hH71 ge71_0
                 go_wp2_with (first|((with_reducible refine gate_builtin (b:=.append) (xs:=#[.tmp 84,.tmp 86]) rfl ?_);(try (refine gate_guard (by rfl) ?_;dsimp only));at_builtin;refine Kd.R_append (Kd.int .i64) (w0:=w) w.heap.size rfl (.tmp 84) (.tmp 86) 30 3 (.int .i64 0) 8 rfl Try.underlying30 info3 rfl (by decide) (by omega) (.slice A802_0 (rd_L3 x9_24 (ji64)).length c802_0) (rd_L3 x9_24 (ji64)) x33_2 [.int .i64 x33_2] (fun k_=>oki71 k_∨((fun k_=>some k_≠(v775:Value).ownBlock∧some k_≠(u7:Value).ownBlock)) k_∧wc.heap.size≤k_) (fun _=>False) rfl rfl ?aP (fun _ hk=>hk.elim) ?aF ?aO ?aB ?aS ?aL ?_;(case aP=>exact rfl);(case aB=>exact(bw HB.out));(case aF=>exact(fun k_ hk=>.inr ⟨⟨Kd.fresh' (Kd.R_lt (kr_ HO_5.out)) k_ hk,Kd.fresh' (Kd.R_lt (kr_ HO_7.out)) k_ hk⟩,hk⟩));(case aO=>exact(by(with_reducible repeat (first|apply Kd.R_alloc|apply Kd.R_drewN|apply Kd.R_drew));exact Kd.R_mono UU71.out (fun _ hk=>.inl hk)));(case aS=>exact(below_size (bw HB.out)));(case aL=>have:=LMc67.out;omega);intro v804 w72 ho hb hg hat;rw[←Ny803.out] at ho;have HO805:=A_ (ho);replace HO_5:=A_ (Kd.R_grown2 (kr_ HO_5.out) rfl hg (fun k_ e_=>(HL802_0.out.1 k_ e_).1.1));replace HO_7:=A_ (Kd.R_grown2 (kr_ HO_7.out) rfl hg (fun k_ e_=>(HL802_0.out.1 k_ e_).1.2));replace HO_8:=A_ (Kd.R_over' (v:=(.slice A802_0 (rd_L3 x9_24 (ji64)).length c802_0)) (kr_ HO_8.out) (Kd.R_typed HL802_0.out) (by decide) hg);replace BK787:=A_ (blk_grown (g:=gb787) (o:=.cells #[.int .i64 ((rd_T37 l0 x33_2).f0),.int .i64 ((rd_T37 l0 x33_2).f1)] 37 (0,0)) (bk BK787.out) hg (Kd.R_ne HL802_0.out BK787.out (by decide)));replace HB:=A_ (hb);replace HH71:=A_ (Kd.H_grown (Kd.H_widen (by repeat (first|exact HH71.out|refine Kd.H_alloc ?_ _|refine Kd.H_drewN ?_ _|refine Kd.H_drew ?_))) hg (fun k_ e_=>.inl (UU71.out.1 k_ e_)));clear HO_9 UU71 HL802_0;clear ho hb hg hat;have p68:0≤((ji64):Int):=od_;have q68:((ji64):Int)<((x9_24.length:Int):Int):=od_;replace p68:=eq_true p68;replace q68:=eq_true q68;obtain⟨Ao75,co75,eo75⟩:=Kd.R_slice HO805.out;subst eo75;obtain⟨_,_,hraw73,_,_,hcc73,_⟩:=Kd.H_raw HH71.out (od_) (by have h_:((ji64):Int)<((x9_24.length:Int):Int):=od_;first|exact h_|(have e_:=(HN71.out);omega)|simpa using h_);obtain⟨_,hfr73⟩:=Kd.H_at HH71.out (od_) (by have h_:((ji64):Int)<((x9_24.length:Int):Int):=od_;first|exact h_|(have e_:=(HN71.out);omega)|simpa using h_);have hx73_0:=hcc73 0 _ rfl;have hf73_0:=hfr73 0;(try simp only[Nat.add_zero] at hx73_0 hf73_0);(try rw[show ((Kd.slice 3 (Kd.int .i64))).sz=1 from rfl,Nat.mul_one] at hx73_0);(try rw[show ((Kd.slice 3 (Kd.int .i64))).sz=1 from rfl,Nat.mul_one] at hf73_0);have HP73:=Kd.S_seg0 HH71.out (od_) (by have h_:((ji64):Int)<((x9_24.length:Int):Int):=od_;first|exact h_|(have e_:=(HN71.out);omega)|simpa using h_) (seg:=[.slice Ao75 y803.length co75]) (j:=0) (show 1≤1 from by decide) (x':=y803) (Kd.M_row HO805.out) (fun _ hk=>hk);(try simp only[show ((Kd.slice 3 (Kd.int .i64))).sz=1 from rfl,Nat.mul_one,Nat.add_zero] at HP73);clear hcc73 hfr73)|((with_reducible refine gate_store (t:=30) (p:=88) rfl ?_);refine store_event (t:=30) (p:=88) (v:=?vo_w74) (w1:=(w72.setCell ⟨go71,((ji64):Int).toNat,none⟩ (.slice Ao75 y803.length co75))) ?hg ?ho ?hn ?hr ?_;(case ho=>rfl);(case hg=>rfl);(case hn=>rfl);(case hr=>first|(go_simp;done)|(go_simp;rfl));intro w74 hw;have hg:w72.grownBy w74 (some go71):=(by rw[hw];exact HP73.2);have hp_:Kd.S (Kd.slice 3 (Kd.int .i64)) 30 w74 w.heap.size (fun k_=>some k_≠(v775:Value).ownBlock∧some k_≠(u7:Value).ownBlock) (.slice (some ⟨go71,0,none⟩) x9_24.length co70) y806:=(by rw[hw,Ny806.out];exact HP73.1);clear HP73;have HO_9:=A_ (hp_);replace HO_5:=A_ (Kd.R_over' (v:=(.slice (some ⟨go71,0,none⟩) x9_24.length co70)) (kr_ HO_5.out) (Kd.R_typed hraw73) (by decide) hg);replace HO_7:=A_ (Kd.R_over' (v:=(.slice (some ⟨go71,0,none⟩) x9_24.length co70)) (kr_ HO_7.out) (Kd.R_typed hraw73) (by decide) hg);replace HO_8:=A_ (Kd.R_over' (v:=(.slice (some ⟨go71,0,none⟩) x9_24.length co70)) (kr_ HO_8.out) (Kd.R_typed hraw73) (by decide) hg);replace BK787:=A_ (blk_grown (g:=gb787) (o:=.cells #[.int .i64 ((rd_T37 l0 x33_2).f0),.int .i64 ((rd_T37 l0 x33_2).f1)] 37 (0,0)) (bk BK787.out) hg (Kd.R_ne hraw73 BK787.out (by decide)));replace HB:=A_ ((by rw[hw];exact below_set HB.out GB71.out:Below w.heap.size w w74));clear HO805 HH71;clear hg hw hp_ hraw73;obtain⟨hcz76_0,hcz76_1⟩:=cs2_ BK787.out;obtain⟨hfz76_0,hfz76_1⟩:=fz2_ BK787.out;have p807:0≤((ji64):Int):=od_;have q807:(ji64)<(y806.length:Int):=(by have h_:((ji64):Int)<((x9_24.length:Int):Int):=od_;first|(have e_:=(Kd.S_reads' HO_9.out).1;omega)|simpa only [Ny806.out,List.length_set] using h_);have ql807:(((ji64):Int)<((x9_24.length:Int):Int))=True:=eq_true (od_);obtain⟨ad807,A807_0,c807_0,e807,hx807_0,hl807_0,hi807_0⟩:=at_L3 (Kd.S_reads' HO_9.out).2.2 (ji64) p807 q807;obtain rfl:(⟨go71,0,none⟩:Addr)=ad807:=(by injection e807);obtain⟨ce807,hce807,hMe807,hcc807⟩:=Kd.S_get HO_9.out [] (ji64) p807 (by first|exact q807|exact od_|(have e_:=(Kd.S_reads' HO_9.out).1;omega));obtain⟨ve807_0,rfl,ge807_0⟩:=hMe807;have hv807_0:=hcc807 0 _ rfl;rw[Nat.add_zero,show ((Kd.slice 3 (Kd.int .i64))).sz=1 from rfl,Nat.mul_one] at hv807_0;replace hv807_0:=Option.some.inj (hv807_0.symm.trans hx807_0);rw[hv807_0] at ge807_0;have HL807_0:=A_ (show Kd.R (Kd.int .i64) 3 _ _ _ _ (rd_L3 y806 (ji64)) from ge807_0);clear hv807_0 ge807_0;have HX807_0:=A_ hx807_0;clear hcc807 hce807;(first|simp only[add_plain] at hx807_0|simp only[add_at] at hx807_0|simp only[Addr.add,Nat.zero_add] at hx807_0|skip);have HR807_0:=A_ hi807_0;have HC807_0:=A_ hl807_0;clear hi807_0 hl807_0;replace p807:=eq_true p807;replace q807:=eq_true q807))
                 (try simp only[Act.put,List.setIfInBounds_toArray,List.set_cons_zero,List.set_cons_succ])
                 go_loopg [97] kj24 (fun kq v97 w'=>∃ (x5_4:List Int) (x97_4:Int),v97=.int .i64 x97_4∧Aside0 (spec_l6Ends.l1 kq x5_4 x6_24 x7_24 x8_24 y806 x33_2 (ji64) l0 (l0.length:Int) x33_2 (rd_L3 y806 (ji64)) ((rd_L3 y806 (ji64)).length:Int) x97_4=some (r1,r2,r3))∧Aside0 (kq≤kj24)∧Aside0 (Kd.R (Kd.int .i64) 3 w' w.heap.size (fun k_=>some k_≠(u7:Value).ownBlock) v775 x5_4)∧Aside0 (Kd.R (Kd.int .i64) 3 w' w.heap.size (fun k_=>some k_≠(v775:Value).ownBlock) u7 x7_24)∧Aside0 (Kd.R Kd.bool 4 w' w.heap.size (fun _=>True) u8 x8_24)∧Aside0 (Kd.S (Kd.slice 3 (Kd.int .i64)) 30 w' w.heap.size (fun k_=>some k_≠(v775:Value).ownBlock∧some k_≠(u7:Value).ownBlock) (.slice (some ⟨go71,0,none⟩) x9_24.length co70) y806)∧Aside0 (w'.heap[gb787]? =some (.cells #[.int .i64 ((rd_T37 l0 x33_2).f0),.int .i64 ((rd_T37 l0 x33_2).f1)] 37 (0,0)))∧Aside0 (Below w.heap.size w w')∧Aside0 (Kd.R (Kd.int .i64) 3 w' w.heap.size (fun k_=>some k_≠(v775:Value).ownBlock) (.slice A807_0 (rd_L3 y806 (ji64)).length c807_0) (rd_L3 y806 (ji64))))
                 case atStart=>exact⟨(x5_2),(0),rs_,H',⟨Nat.le_refl _⟩,⟨kr_ HO_5.out⟩,⟨kr_ HO_7.out⟩,⟨kr_ HO_8.out⟩,⟨ks_ HO_9.out⟩,⟨bk BK787.out⟩,⟨bw HB.out⟩,⟨Kd.R_mono HL807_0.out (fun _ hk=>hk.1.1)⟩⟩
                 case round=>
                  clear H'
                  try clear c7 c8 c8b0 c8b1 c9 c9b0 c9b1 c10 c18 c18b0 c19 c19b0 c20 c20b0 c21 c21b0 c65 c65b0 c66 c66b0 c67 p68 q68 c69 c69b0 c69b1 hcz27_0 hcz27_1 hcz76_0 hcz76_1 hfz27_0 hfz27_1 hfz76_0 hfz76_1 hx73_0 hx786_0 hx786_1 hx802_0 hx807_0 p68 p786 p802 p807 q68 q786 q802 q807
                  obtain⟨x5_4,x97_4,rfl,HA,HK4,HO_5,HO_7,HO_8,HO_9,BK787,HB,HLr⟩:=hrel
                  have hl9_4:=(Kd.S_reads' HO_9.out).1
                  rw[hl9_4] at HO_9
                  (try simp only[hl9_4])
                  (try simp only[hl9_4] at BK787)
                  (try simp only[hl9_4] at HO_5)
                  (try simp only[hl9_4] at HO_7)
                  (try simp only[hl9_4] at HO_8)
                  cases gk with
                  |zero=>exact absurd HA.out (by simp[spec_l6Ends.l1])
                  |succ k4=>
                   have H:=HA.out
                   clear HA
                   simp only[spec_l6Ends.l1] at H
                   by_cases c77:x97_4<((rd_L3 y806 (ji64)).length:Int)
                   ·
                    rw[if_pos c77] at H
                    have c77b0:=decide_eq_true c77
                    clear c77
                    by_cases c78:0≤x97_4
                    ·
                     rw[if_pos c78] at H
                     have c78b0:=decide_eq_true c78
                     clear c78
                     by_cases c79:x97_4<((rd_L3 y806 (ji64)).length:Int)
                     ·
                      rw[if_pos c79] at H
                      have c79b0:=decide_eq_true c79
                      clear c79
                      by_cases c80:0≤(rd (rd_L3 y806 (ji64)) x97_4)
                      ·
                       rw[if_pos c80] at H
                       have c80b0:=decide_eq_true c80
                       clear c80
                       by_cases c81:(rd (rd_L3 y806 (ji64)) x97_4)<(x5_4.length:Int)
                       ·
                        rw[if_pos c81] at H
                        have c81b0:=decide_eq_true c81
                        clear c81
                        obtain⟨y809,hy809⟩:∃ y_:List Int,y_=(x5_4.set ((rd (rd_L3 y806 (ji64)) x97_4):Int).toNat x33_2):=⟨_,rfl⟩
                        replace H:(spec_l6Ends.l1 k4 y809 x6_24 x7_24 x8_24 y806 x33_2 (ji64) l0 (l0.length:Int) x33_2 (rd_L3 y806 (ji64)) ((rd_L3 y806 (ji64)).length:Int) (wrap64 (x97_4+1)))=some (r1,r2,r3):=by first|(rw[hy809];with_reducible exact H)|(have H2_:=(Option.bind_some _ _).symm.trans H;rw[hy809];with_reducible exact H2_)|(have H2_:=(Option.bind_some _ _).symm.trans H;with_reducible exact H2_)|with_reducible exact H|(rw[hy809];exact H)|exact H
                        have Ny809:=A_ hy809
                        clear hy809
                        have H':=A_ H
                        clear H
                        have p808:0≤(x97_4:Int):=od_
                        have q808:x97_4<((rd_L3 y806 (ji64)).length:Int):=od_
                        obtain⟨ad808,e808,hx808_0⟩:=Kd.at_int (Kd.R_reads' HLr.out).2.2 x97_4 p808 q808
                        cases e808
                        replace p808:=eq_true p808
                        replace q808:=eq_true q808
                        have p82:0≤((rd (rd_L3 y806 (ji64)) x97_4):Int):=od_
                        have q82:((rd (rd_L3 y806 (ji64)) x97_4):Int)<((x5_4.length:Int):Int):=od_
                        obtain⟨go82,co82,eo82,gb82,gl82,cl82,HG82⟩:=Kd.R_form HO_5.out (by omega)
                        (first|cases eo82|(injection eo82 with ea_ en_ ec_;(first|subst ea_|(injection ea_ with ea_;subst ea_));subst ec_;clear en_))
                        have GB82:=A_ gb82
                        have GG82:=A_ HG82
                        clear gb82 gl82 HG82
                        obtain⟨hx82_0,hf82_0⟩:=Kd.R_celln 0 HO_5.out ((rd (rd_L3 y806 (ji64)) x97_4):Int) p82 q82
                        replace p82:=eq_true p82
                        replace q82:=eq_true q82
                        have HP83:=Kd.R_putg HO_5.out ((rd (rd_L3 y806 (ji64)) x97_4):Int) x33_2
                        go_wp2_with (first|((with_reducible refine gate_store (t:=3) (p:=104) rfl ?_);refine store_event (t:=3) (p:=104) (v:=?vo_w84) (w1:=(wr.setCell ⟨go82,((rd (rd_L3 y806 (ji64)) x97_4):Int).toNat,none⟩ (.int .i64 x33_2))) ?hg ?ho ?hn ?hr ?_;(case ho=>rfl);(case hg=>rfl);(case hn=>rfl);(case hr=>first|(go_simp;done)|(go_simp;rfl));intro w84 hw;have hg:wr.grownBy w84 (some go82):=(by rw[hw];exact HP83.2);have hp_:Kd.R (Kd.int .i64) 3 w84 w.heap.size (fun k_=>some k_≠(u7:Value).ownBlock) (.slice (some ⟨go82,0,none⟩) x5_4.length co82) y809:=(by rw[hw,Ny809.out];exact HP83.1);clear HP83;replace HO_7:=A_ (Kd.R_after (v:=(.slice (some ⟨go82,0,none⟩) x5_4.length co82)) (v1:=(.slice (some ⟨go82,0,none⟩) x5_4.length co82)) (ok:=(fun _=>True)) (by(with_reducible repeat (first|apply Kd.R_alloc|apply Kd.R_drewN|apply Kd.R_drew));exact Kd.R_mono HO_7.out (fun _ hk=>⟨trivial,hk⟩)) hg (.inl rfl));replace HO_8:=A_ (Kd.R_over' (v:=(.slice (some ⟨go82,0,none⟩) x5_4.length co82)) (kr_ HO_8.out) (Kd.R_typed HO_5.out) (by decide) hg);replace HO_9:=A_ (Kd.S_after (v:=(.slice (some ⟨go82,0,none⟩) x5_4.length co82)) (v1:=(.slice (some ⟨go82,0,none⟩) x5_4.length co82)) (ok:=(fun k_=>some k_≠(u7:Value).ownBlock)) (by(with_reducible repeat (first|apply Kd.S_alloc|apply Kd.S_drewN|apply Kd.S_drew));exact Kd.S_mono HO_9.out (fun _ hk=>⟨hk.2,hk.1⟩)) hg (.inl rfl));replace BK787:=A_ (blk_grown (g:=gb787) (o:=.cells #[.int .i64 ((rd_T37 l0 x33_2).f0),.int .i64 ((rd_T37 l0 x33_2).f1)] 37 (0,0)) (bk BK787.out) hg (Kd.R_ne HO_5.out BK787.out (by decide)));replace HO_5:=A_ (hp_);replace HB:=A_ ((by rw[hw];exact below_set (HB.out) GB82.out:Below w.heap.size w w84));replace HLr:=A_ (Kd.R_after (v:=(.slice (some ⟨go82,0,none⟩) x5_4.length co82)) (v1:=(.slice (some ⟨go82,0,none⟩) x5_4.length co82)) (ok:=(fun _=>True)) (Kd.R_mono HLr.out (fun _ hk=>⟨trivial,hk⟩)) hg (.inl rfl));clear hg hw hp_))
                        (try simp only[←hl9_4])
                        go_roundg k4
                        case measure=>have:=HJ1.out;have:=HK2.out;have:=HJ24.out;have:=HK4.out;omega
                        case rel=>exact⟨(y809),(wrap64 (x97_4+1)),rs_,H',⟨by have:=HJ1.out;have:=HK2.out;have:=HJ24.out;have:=HK4.out;omega⟩,⟨by (try simp only[hl9_4]);(with_reducible repeat (first|apply Kd.R_alloc|apply Kd.R_drewN|apply Kd.R_drew));exact HO_5.out⟩,⟨by (try simp only[hl9_4]);(with_reducible repeat (first|apply Kd.R_alloc|apply Kd.R_drewN|apply Kd.R_drew));exact Kd.R_mono HO_7.out (fun _ hk=>hk.2)⟩,⟨by (try simp only[hl9_4]);(with_reducible repeat (first|apply Kd.R_alloc|apply Kd.R_drewN|apply Kd.R_drew));exact HO_8.out⟩,⟨by (try simp only[hl9_4]);(with_reducible repeat (first|apply Kd.S_alloc|apply Kd.S_drewN|apply Kd.S_drew));exact Kd.S_mono HO_9.out (fun _ hk=>⟨hk.2,hk.1⟩)⟩,⟨by (try simp only[hl9_4]);(with_reducible repeat (first|refine blk_drewN ?_ _|refine blk_drew ?_|refine blk_alloc ?_ _));exact BK787.out⟩,⟨bw HB.out⟩,⟨Kd.R_mono HLr.out (fun _ hk=>hk.2)⟩⟩
                       rw[if_neg c81] at H
                       exact absurd H (by simp)
                      rw[if_neg c80] at H
                      exact absurd H (by simp)
                     rw[if_neg c79] at H
                     exact absurd H (by simp)
                    rw[if_neg c78] at H
                    exact absurd H (by simp)
                   rw[if_neg c77] at H
                   have c77b0:=decide_eq_false c77
                   clear c77
                   by_cases c85:0≤(ji64)
                   ·
                    rw[if_pos c85] at H
                    have c85b0:=eq_true c85
                    have c85b1:=decide_eq_true c85
                    clear c85
                    by_cases c86:(ji64)≤(x7_24.length:Int)
                    ·
                     rw[if_pos c86] at H
                     have c86b0:=eq_true c86
                     have c86b1:=decide_eq_true c86
                     clear c86
                     obtain⟨y810,hy810⟩:∃ y_:List Int,y_=(x7_24.take ((ji64):Int).toNat):=⟨_,rfl⟩
                     replace H:(if (ji64)≤(x8_24.length:Int) then (if (ji64)≤(y806.length:Int) then (spec_l6Ends.l0 k4 x5_4 x6_24 y810 (x8_24.take ((ji64):Int).toNat) (y806.take ((ji64):Int).toNat) l0 (l0.length:Int) (wrap64 (x33_2+1))) else (none)) else (none))=some (r1,r2,r3):=by first|(rw[hy810];with_reducible exact H)|(have H2_:=(Option.bind_some _ _).symm.trans H;rw[hy810];with_reducible exact H2_)|(have H2_:=(Option.bind_some _ _).symm.trans H;with_reducible exact H2_)|with_reducible exact H|(rw[hy810];exact H)|exact H
                     have Ny810:=A_ hy810
                     clear hy810
                     by_cases c87:(ji64)≤(x8_24.length:Int)
                     ·
                      rw[if_pos c87] at H
                      have c87b0:=eq_true c87
                      have c87b1:=decide_eq_true c87
                      clear c87
                      obtain⟨y813,hy813⟩:∃ y_:List Bool,y_=(x8_24.take ((ji64):Int).toNat):=⟨_,rfl⟩
                      replace H:(if (ji64)≤(y806.length:Int) then (spec_l6Ends.l0 k4 x5_4 x6_24 y810 y813 (y806.take ((ji64):Int).toNat) l0 (l0.length:Int) (wrap64 (x33_2+1))) else (none))=some (r1,r2,r3):=by first|(rw[hy813];with_reducible exact H)|(have H2_:=(Option.bind_some _ _).symm.trans H;rw[hy813];with_reducible exact H2_)|(have H2_:=(Option.bind_some _ _).symm.trans H;with_reducible exact H2_)|with_reducible exact H|(rw[hy813];exact H)|exact H
                      have Ny813:=A_ hy813
                      clear hy813
                      by_cases c88:(ji64)≤(y806.length:Int)
                      ·
                       rw[if_pos c88] at H
                       have c88b0:=eq_true c88
                       have c88b1:=decide_eq_true c88
                       clear c88
                       obtain⟨y816,hy816⟩:∃ y_:List (List Int),y_=(y806.take ((ji64):Int).toNat):=⟨_,rfl⟩
                       replace H:(spec_l6Ends.l0 k4 x5_4 x6_24 y810 y813 y816 l0 (l0.length:Int) (wrap64 (x33_2+1)))=some (r1,r2,r3):=by first|(rw[hy816];with_reducible exact H)|(have H2_:=(Option.bind_some _ _).symm.trans H;rw[hy816];with_reducible exact H2_)|(have H2_:=(Option.bind_some _ _).symm.trans H;with_reducible exact H2_)|with_reducible exact H|(rw[hy816];exact H)|exact H
                       have Ny816:=A_ hy816
                       clear hy816
                       have H':=A_ H
                       clear H
                       obtain⟨Ao89,co89,eo89⟩:=Kd.R_slice HO_7.out
                       subst eo89
                       have q90:((ji64):Int)≤((x7_24.length:Int):Int):=od_
                       obtain⟨i090,hi090,_,hsz90,_⟩:=info_parts info3
                       have hcut90:=cut_to (P:=Try.prog) 30 3 .i64 Try.underlying30 hi090 Ao89 x7_24.length co89 (ji64) (od_) q90 (Kd.R_reads' HO_7.out).2.1
                       have hr90:=Kd.R_take (m:=((ji64):Int).toNat) HO_7.out (by omega)
                       have hy90:y810.length=((ji64):Int).toNat:=(by rw[Ny810.out,List.length_take];omega)
                       rw[←Ny810.out] at hr90
                       rw[←hy90] at hr90 hcut90
                       clear hy90 hi090 hsz90 HO_7
                       have HO812:=A_ hr90
                       clear hr90
                       replace q90:=eq_true q90
                       obtain⟨Ao91,co91,eo91⟩:=Kd.R_slice HO_8.out
                       subst eo91
                       have q92:((ji64):Int)≤((x8_24.length:Int):Int):=od_
                       obtain⟨i092,hi092,_,hsz92,_⟩:=info_parts info4
                       have hcut92:=cut_to (P:=Try.prog) 68 4 .i64 Try.underlying68 hi092 Ao91 x8_24.length co91 (ji64) (od_) q92 (Kd.R_reads' HO_8.out).2.1
                       have hr92:=Kd.R_take (m:=((ji64):Int).toNat) HO_8.out (by omega)
                       have hy92:y813.length=((ji64):Int).toNat:=(by rw[Ny813.out,List.length_take];omega)
                       rw[←Ny813.out] at hr92
                       rw[←hy92] at hr92 hcut92
                       clear hy92 hi092 hsz92 HO_8
                       have HO815:=A_ hr92
                       clear hr92
                       replace q92:=eq_true q92
                       have q93:((ji64):Int)≤((y806.length:Int):Int):=od_
                       obtain⟨i093,hi093,_,hsz93,_⟩:=info_parts info30
                       have hcut93:=cut_to (P:=Try.prog) 69 30 .i64 Try.underlying69 hi093 (some ⟨go71,0,none⟩) y806.length co70 (ji64) (od_) q93 (Kd.S_reads' HO_9.out).2.1
                       have hr93:=Kd.S_take (m:=((ji64):Int).toNat) HO_9.out (by omega)
                       have hy93:y816.length=((ji64):Int).toNat:=(by rw[Ny816.out,List.length_take];omega)
                       rw[←Ny816.out] at hr93
                       rw[←hy93] at hr93 hcut93
                       clear hy93 hi093 hsz93 HO_9
                       have HO818:=A_ hr93
                       clear hr93
                       replace q93:=eq_true q93
                       go_wp2
                       (try simp only[←hl9_4])
                       go_roundg k4
                       case measure=>have:=HJ1.out;have:=HK2.out;have:=HJ24.out;have:=HK4.out;omega
                       case rel=>exact⟨(x5_4),(x6_24),(y810),(y813),(y816),(wrap64 (x33_2+1)),rs_,rs_,H',⟨by have:=HJ1.out;have:=HK2.out;have:=HJ24.out;have:=HK4.out;omega⟩,⟨by (try simp only[hl9_4]);(with_reducible repeat (first|apply Kd.R_alloc|apply Kd.R_drewN|apply Kd.R_drew));exact Kd.R_mono HO_5.out (fun k_ hk_=>by cases Ao89<;>exact hk_)⟩,⟨by (try simp only[hl9_4]);(with_reducible repeat (first|apply Kd.R_alloc|apply Kd.R_drewN|apply Kd.R_drew));exact HO812.out⟩,⟨by (try simp only[hl9_4]);(with_reducible repeat (first|apply Kd.R_alloc|apply Kd.R_drewN|apply Kd.R_drew));exact HO815.out⟩,⟨by (try simp only[hl9_4]);(with_reducible repeat (first|apply Kd.S_alloc|apply Kd.S_drewN|apply Kd.S_drew));exact Kd.S_mono HO818.out (fun k_ hk_=>⟨hk_.1,by cases Ao89<;>exact hk_.2⟩)⟩,⟨bw HB.out⟩⟩
                      rw[if_neg c88] at H
                      exact absurd H (by simp)
                     rw[if_neg c87] at H
                     exact absurd H (by simp)
                    rw[if_neg c86] at H
                    exact absurd H (by simp)
                   rw[if_neg c85] at H
                   exact absurd H (by simp)
                rw[if_neg c69] at H
                obtain⟨c69b0,c69b1⟩:=eF_ c69
                have H':=A_ H
                clear H
                obtain⟨Ao94,co94,eo94⟩:=Kd.S_slice HO_9.out
                subst eo94
                have p802:0≤((ji64):Int):=od_
                have q802:(ji64)<(x9_24.length:Int):=od_
                obtain⟨ad802,A802_0,c802_0,e802,hx802_0,hl802_0,hi802_0⟩:=at_L3 (Kd.S_reads' HO_9.out).2.2 (ji64) p802 q802
                cases e802
                obtain⟨ce802,hce802,hMe802,hcc802⟩:=Kd.S_get HO_9.out [] (ji64) p802 (by first|exact q802|exact od_|(have e_:=(Kd.S_reads' HO_9.out).1;omega))
                obtain⟨ve802_0,rfl,ge802_0⟩:=hMe802
                have hv802_0:=hcc802 0 _ rfl
                rw[Nat.add_zero,show ((Kd.slice 3 (Kd.int .i64))).sz=1 from rfl,Nat.mul_one] at hv802_0
                replace hv802_0:=Option.some.inj (hv802_0.symm.trans hx802_0)
                rw[hv802_0] at ge802_0
                have HL802_0:=A_ (show Kd.R (Kd.int .i64) 3 _ _ _ _ (rd_L3 x9_24 (ji64)) from ge802_0)
                clear hv802_0 ge802_0
                have HX802_0:=A_ hx802_0
                clear hcc802 hce802
                have HR802_0:=A_ hi802_0
                have HC802_0:=A_ hl802_0
                clear hi802_0 hl802_0
                replace p802:=eq_true p802
                replace q802:=eq_true q802
                obtain⟨go95,co95,eo95,gb95,gl95,cl95,HG95⟩:=Kd.S_form HO_9.out (by have h_:((ji64):Int)<((x9_24.length:Int):Int):=od_;have h2_:0≤((ji64):Int):=(od_);omega)
                (first|cases eo95|(injection eo95 with ea_ en_ ec_;(first|subst ea_|(injection ea_ with ea_;subst ea_));subst ec_;clear en_))
                have GB95:=A_ gb95
                have GG95:=A_ HG95
                clear gb95 gl95 HG95
                (first|simp only[add_plain] at hx802_0|skip)
                obtain⟨oki95,ce95,hcl95,hM95,hcc95,_,_,hH95⟩:=Kd.S_elem HO_9.out [] ((ji64):Int) (od_) (by have h_:((ji64):Int)<((x9_24.length:Int):Int):=od_;first|exact h_|(have e_:=(Kd.S_reads' HO_9.out).1;omega)|simpa using h_)
                obtain⟨ve95_0,rfl,ge95_0⟩:=hM95
                have hv95:=hcc95 0 _ rfl
                have hX95:=HX802_0.out
                (try simp only[add_plain] at hX95)
                (try simp only[Nat.add_zero] at hv95)
                (try rw[show ((Kd.slice 3 (Kd.int .i64))).sz=1 from rfl,Nat.mul_one] at hv95)
                replace hv95:=Option.some.inj (hv95.symm.trans hX95)
                subst hv95
                clear hX95 hcc95 hcl95
                have UU95:=A_ (show Kd.R (Kd.int .i64) 3 _ w.heap.size oki95 (.slice A802_0 (rd_L3 x9_24 (ji64)).length c802_0) (rd_L3 x9_24 (ji64)) from ge95_0)
                have HH95:=A_ hH95
                have HN95:=A_ (Kd.S_reads' HO_9.out).1
                clear hH95 ge95_0
                go_wp2_with (first|((with_reducible refine gate_builtin (b:=.append) (xs:=#[.tmp 84,.tmp 86]) rfl ?_);(try (refine gate_guard (by rfl) ?_;dsimp only));at_builtin;refine Kd.R_append (Kd.int .i64) (w0:=w) w.heap.size rfl (.tmp 84) (.tmp 86) 30 3 (.int .i64 0) 8 rfl Try.underlying30 info3 rfl (by decide) (by omega) (.slice A802_0 (rd_L3 x9_24 (ji64)).length c802_0) (rd_L3 x9_24 (ji64)) x33_2 [.int .i64 x33_2] (fun k_=>oki95 k_∨((fun k_=>some k_≠(v775:Value).ownBlock∧some k_≠(u7:Value).ownBlock)) k_∧wc.heap.size≤k_) (fun _=>False) rfl rfl ?aP (fun _ hk=>hk.elim) ?aF ?aO ?aB ?aS ?aL ?_;(case aP=>exact rfl);(case aB=>exact(bw HB.out));(case aF=>exact(fun k_ hk=>.inr ⟨⟨Kd.fresh' (Kd.R_lt (kr_ HO_5.out)) k_ hk,Kd.fresh' (Kd.R_lt (kr_ HO_7.out)) k_ hk⟩,hk⟩));(case aO=>exact(by(with_reducible repeat (first|apply Kd.R_alloc|apply Kd.R_drewN|apply Kd.R_drew));exact Kd.R_mono UU95.out (fun _ hk=>.inl hk)));(case aS=>exact(below_size (bw HB.out)));(case aL=>have:=LMc67.out;omega);intro v804 w96 ho hb hg hat;rw[←Ny803.out] at ho;have HO805:=A_ (ho);replace HO_5:=A_ (Kd.R_grown2 (kr_ HO_5.out) rfl hg (fun k_ e_=>(HL802_0.out.1 k_ e_).1.1));replace HO_7:=A_ (Kd.R_grown2 (kr_ HO_7.out) rfl hg (fun k_ e_=>(HL802_0.out.1 k_ e_).1.2));replace HO_8:=A_ (Kd.R_over' (v:=(.slice A802_0 (rd_L3 x9_24 (ji64)).length c802_0)) (kr_ HO_8.out) (Kd.R_typed HL802_0.out) (by decide) hg);replace BK787:=A_ (blk_grown (g:=gb787) (o:=.cells #[.int .i64 ((rd_T37 l0 x33_2).f0),.int .i64 ((rd_T37 l0 x33_2).f1)] 37 (0,0)) (bk BK787.out) hg (Kd.R_ne HL802_0.out BK787.out (by decide)));replace HB:=A_ (hb);replace HH95:=A_ (Kd.H_grown (Kd.H_widen (by repeat (first|exact HH95.out|refine Kd.H_alloc ?_ _|refine Kd.H_drewN ?_ _|refine Kd.H_drew ?_))) hg (fun k_ e_=>.inl (UU95.out.1 k_ e_)));clear HO_9 UU95 HL802_0;clear ho hb hg hat;have p68:0≤((ji64):Int):=od_;have q68:((ji64):Int)<((x9_24.length:Int):Int):=od_;replace p68:=eq_true p68;replace q68:=eq_true q68;obtain⟨Ao99,co99,eo99⟩:=Kd.R_slice HO805.out;subst eo99;obtain⟨_,_,hraw97,_,_,hcc97,_⟩:=Kd.H_raw HH95.out (od_) (by have h_:((ji64):Int)<((x9_24.length:Int):Int):=od_;first|exact h_|(have e_:=(HN95.out);omega)|simpa using h_);obtain⟨_,hfr97⟩:=Kd.H_at HH95.out (od_) (by have h_:((ji64):Int)<((x9_24.length:Int):Int):=od_;first|exact h_|(have e_:=(HN95.out);omega)|simpa using h_);have hx97_0:=hcc97 0 _ rfl;have hf97_0:=hfr97 0;(try simp only[Nat.add_zero] at hx97_0 hf97_0);(try rw[show ((Kd.slice 3 (Kd.int .i64))).sz=1 from rfl,Nat.mul_one] at hx97_0);(try rw[show ((Kd.slice 3 (Kd.int .i64))).sz=1 from rfl,Nat.mul_one] at hf97_0);have HP97:=Kd.S_seg0 HH95.out (od_) (by have h_:((ji64):Int)<((x9_24.length:Int):Int):=od_;first|exact h_|(have e_:=(HN95.out);omega)|simpa using h_) (seg:=[.slice Ao99 y803.length co99]) (j:=0) (show 1≤1 from by decide) (x':=y803) (Kd.M_row HO805.out) (fun _ hk=>hk);(try simp only[show ((Kd.slice 3 (Kd.int .i64))).sz=1 from rfl,Nat.mul_one,Nat.add_zero] at HP97);clear hcc97 hfr97)|((with_reducible refine gate_store (t:=30) (p:=88) rfl ?_);refine store_event (t:=30) (p:=88) (v:=?vo_w98) (w1:=(w96.setCell ⟨go95,((ji64):Int).toNat,none⟩ (.slice Ao99 y803.length co99))) ?hg ?ho ?hn ?hr ?_;(case ho=>rfl);(case hg=>rfl);(case hn=>rfl);(case hr=>first|(go_simp;done)|(go_simp;rfl));intro w98 hw;have hg:w96.grownBy w98 (some go95):=(by rw[hw];exact HP97.2);have hp_:Kd.S (Kd.slice 3 (Kd.int .i64)) 30 w98 w.heap.size (fun k_=>some k_≠(v775:Value).ownBlock∧some k_≠(u7:Value).ownBlock) (.slice (some ⟨go95,0,none⟩) x9_24.length co94) y806:=(by rw[hw,Ny806.out];exact HP97.1);clear HP97;have HO_9:=A_ (hp_);replace HO_5:=A_ (Kd.R_over' (v:=(.slice (some ⟨go95,0,none⟩) x9_24.length co94)) (kr_ HO_5.out) (Kd.R_typed hraw97) (by decide) hg);replace HO_7:=A_ (Kd.R_over' (v:=(.slice (some ⟨go95,0,none⟩) x9_24.length co94)) (kr_ HO_7.out) (Kd.R_typed hraw97) (by decide) hg);replace HO_8:=A_ (Kd.R_over' (v:=(.slice (some ⟨go95,0,none⟩) x9_24.length co94)) (kr_ HO_8.out) (Kd.R_typed hraw97) (by decide) hg);replace BK787:=A_ (blk_grown (g:=gb787) (o:=.cells #[.int .i64 ((rd_T37 l0 x33_2).f0),.int .i64 ((rd_T37 l0 x33_2).f1)] 37 (0,0)) (bk BK787.out) hg (Kd.R_ne hraw97 BK787.out (by decide)));replace HB:=A_ ((by rw[hw];exact below_set HB.out GB95.out:Below w.heap.size w w98));clear HO805 HH95;clear hg hw hp_ hraw97;obtain⟨hcz100_0,hcz100_1⟩:=cs2_ BK787.out;obtain⟨hfz100_0,hfz100_1⟩:=fz2_ BK787.out))
                go_roundg kj24
                case measure=>have:=HJ1.out;have:=HK2.out;have:=HJ24.out;omega
                case rel=>exact⟨(x5_2),(x6_24),(x7_24),(x8_24),(y806),(wrap64 (x33_2+1)),rs_,rs_,H',⟨by have:=HJ1.out;have:=HK2.out;have:=HJ24.out;omega⟩,⟨kr_ HO_5.out⟩,⟨kr_ HO_7.out⟩,⟨kr_ HO_8.out⟩,⟨ks_ HO_9.out⟩,⟨bw HB.out⟩⟩
               rw[if_neg c67] at H
               exact absurd H (by simp)
              rw[if_neg c66] at H
              exact absurd H (by simp)
             rw[if_neg c65] at H
             exact absurd H (by simp)
          rw[if_neg c20] at H
          exact absurd H (by simp)
         rw[if_neg c19] at H
         exact absurd H (by simp)
        rw[if_neg c18] at H
        have c18b0:=decide_eq_false c18
        clear c18
        simp only[Option.some.injEq,Prod.mk.injEq] at H
        obtain⟨rfl,rfl,rfl⟩:=H
        obtain⟨Ao101,co101,eo101⟩:=Kd.R_slice HO_7.out
        subst eo101
        go_wp2
        go_ret3
        exact⟨_,rr_,by (with_reducible repeat (first|apply Kd.R_alloc|apply Kd.R_drewN|apply Kd.R_drew));exact Kd.R_mono HO_5.out (fun _ hk=>trivial),bw HB.out⟩
     rw[if_neg c10] at H
     exact absurd H (by simp)
    rw[if_neg c9] at H
    exact absurd H (by simp)
   rw[if_neg c8] at H
   exact absurd H (by simp)

/-! ### spec_EndsOf: function 10 -/
def spec_EndsOf.f (k:Nat) (l0:List (S37)):Option (List Int × Bool):=(spec_l6Ends.f k l0).bind fun bt819=>(if bt819.2.2=true then (some (bt819.1,true)) else (some (([]:List Int),false)))
theorem spec_EndsOf.calls (k:Nat) (A0:Option Addr) (c0:Nat) (l0:List (S37)) (r1:List Int) (r2:Bool) (w:World) (hr0:Kd.C k37 w A0 l0.length l0) (hc0:l0.length≤c0) (h:spec_EndsOf.f k l0=some (r1,r2)):
  Calls Try.prog 10 #[.slice A0 l0.length c0] w fun e w'=>∃ v0_:Value,e=.returned (.tuple #[v0_,.bool r2])∧Kd.R (Kd.int .i64) 3 w' w.heap.size (fun _=>True) v0_ r1∧Below w.heap.size w w':=by
 have HR0:=A_ hr0
 have HC0:=A_ hc0
 clear hr0 hc0
 have HB:=A_ (Below.refl w.heap.size w)
 have H:((spec_l6Ends.f k l0).bind fun bt819=>(if bt819.2.2=true then (some (bt819.1,true)) else (some (([]:List Int),false))))=some (r1,r2):=h
 clear h
 replace H:=Option.bind_eq_some_iff.mp H
 obtain⟨⟨t819,t820,t821⟩,A20,H⟩:=H
 replace H:(if t821=true then (some (t819,true)) else (some (([]:List Int),false)))=some (r1,r2):=H
 have A2:=A_ A20
 clear A20
 by_cases c3:t821=true
 ·
  subst c3
  replace H:=iT_ H
  simp only[Option.some.injEq,Prod.mk.injEq] at H
  obtain⟨rfl,rfl⟩:=H
  go_enter Try.func10,Try.ntmps10
  go_wp2_with (first|((with_reducible refine gc_ 27 rfl ?_);refine goesL_ (some 9) rfl rfl Try.func27 (by kernel_rfl) rfl #[.slice A0 l0.length c0] rfl ar ?_;(with_reducible refine(spec_l6Ends.calls k _ _ l0 t819 t820 true _ ?side1 ?side2 A2.out).mono ?_);(case side1=>repeat (first|exact HR0.out|(with_reducible refine Kd.C_alloc ?_ _)|(with_reducible refine Kd.C_drewN ?_ _)|(with_reducible refine Kd.C_drew ?_)));(case side2=>exact HC0.out);rintro e w4 ⟨v822,rfl,ho0,hb⟩;refine⟨_,rfl,?_⟩;have HO823:=A_ (Kd.R_lower ho0 (below_size (bw HB.out)));replace HB:=bs_ HB hb;(try clear hb);(try clear hb2);(try clear hk);(try clear hi);(try clear ho0)))
  go_ret2
  exact⟨_,rr_,kr_ HO823.out,bw HB.out⟩
 replace c3:=Bool.eq_false_iff.mpr c3
 subst c3
 replace H:=iF_ H
 simp only[Option.some.injEq,Prod.mk.injEq] at H
 obtain⟨rfl,rfl⟩:=H
 go_enter Try.func10,Try.ntmps10
 go_wp2_with (first|((with_reducible refine gc_ 27 rfl ?_);refine goesL_ (some 9) rfl rfl Try.func27 (by kernel_rfl) rfl #[.slice A0 l0.length c0] rfl ar ?_;(with_reducible refine(spec_l6Ends.calls k _ _ l0 t819 t820 false _ ?side1 ?side2 A2.out).mono ?_);(case side1=>repeat (first|exact HR0.out|(with_reducible refine Kd.C_alloc ?_ _)|(with_reducible refine Kd.C_drewN ?_ _)|(with_reducible refine Kd.C_drew ?_)));(case side2=>exact HC0.out);rintro e w5 ⟨v822,rfl,ho0,hb⟩;refine⟨_,rfl,?_⟩;have HO823:=A_ (Kd.R_lower ho0 (below_size (bw HB.out)));replace HB:=bs_ HB hb;(try clear hb);(try clear hb2);(try clear hk);(try clear hi);(try clear ho0)))
 go_ret2
 exact⟨_,rr_,by first|exact Kd.R_nil _ _ _ _ _|exact Kd.N_nil _ _ _ _ _|exact Kd.V_nil _ _ _ _ _|exact Kd.Q_nil _ _ _ _ _|exact Kd.S_nil _ _ _ _ _,bw HB.out⟩

/-! ### impl_DeepestOf: function 11 -/
def impl_DeepestOf.f (k:Nat) (l0:List (S37)):Option (Int × Bool):=(impl_deepest.f k l0).bind fun t824=>(some (t824,decide (t824 > 0)))
theorem impl_DeepestOf.calls (k:Nat) (A0:Option Addr) (c0:Nat) (l0:List (S37)) (r1:Int) (r2:Bool) (w:World) (hr0:Kd.C k37 w A0 l0.length l0) (hc0:l0.length≤c0) (h:impl_DeepestOf.f k l0=some (r1,r2)):
  Calls Try.prog 11 #[.slice A0 l0.length c0] w fun e w'=>e=.returned (.tuple #[.int .i64 r1,.bool r2])∧Below w.heap.size w w':=by
 have HR0:=A_ hr0
 have HC0:=A_ hc0
 clear hr0 hc0
 have HB:=A_ (Below.refl w.heap.size w)
 have H:((impl_deepest.f k l0).bind fun t824=>(some (t824,decide (t824 > 0))))=some (r1,r2):=h
 clear h
 replace H:=bi_ H
 obtain⟨t824,A20,H⟩:=H
 have A2:=A_ A20
 clear A20
 simp only[Option.some.injEq,Prod.mk.injEq] at H
 obtain⟨rfl,rfl⟩:=H
 go_enter Try.func11,Try.ntmps11
 go_wp2_with (first|((with_reducible refine gc_ 25 rfl ?_);refine goesL_ (some 6) rfl rfl Try.func25 (by kernel_rfl) rfl #[.slice A0 l0.length c0] rfl ar ?_;(with_reducible refine(impl_deepest.calls k _ _ l0 t824 _ ?side1 ?side2 A2.out).mono ?_);(case side1=>repeat (first|exact HR0.out|(with_reducible refine Kd.C_alloc ?_ _)|(with_reducible refine Kd.C_drewN ?_ _)|(with_reducible refine Kd.C_drew ?_)));(case side2=>exact HC0.out);rintro e w3 ⟨rfl,hb⟩;refine⟨_,rfl,?_⟩;replace HB:=bs_ HB hb;(try clear hb)))
 go_ret2
 exact⟨rr_,bw HB.out⟩

/-! ### laws_sameInts: function 12 -/
def laws_sameInts.l0:Nat→List Int→List Int→Int→Int→Option (Bool)
 |0,_,_,_,_=>none
 |k+1,x0,x1,x12,x13=>if x13<x12 then (if 0≤x13 then (if x13<(x0.length:Int) then (if x13<(x1.length:Int) then (if (rd x0 x13)=(rd x1 x13) then (laws_sameInts.l0 k x0 x1 x12 (wrap64 (x13+1))) else (some false)) else (none)) else (none)) else (none)) else (some true)
def laws_sameInts.f (k:Nat) (l0:List Int) (l1:List Int):Option (Bool):=if (l0.length:Int)=(l1.length:Int) then (laws_sameInts.l0 k l0 l1 (l0.length:Int) 0) else (some false)
theorem laws_sameInts.calls (k:Nat) (A0:Option Addr) (c0:Nat) (l0:List Int) (A1:Option Addr) (c1:Nat) (l1:List Int) (r:Bool) (w:World) (hr0:Kd.C (Kd.int .i64) w A0 l0.length l0) (hc0:l0.length≤c0) (hr1:Kd.C (Kd.int .i64) w A1 l1.length l1) (hc1:l1.length≤c1) (h:laws_sameInts.f k l0 l1=some r):
  Calls Try.prog 12 #[.slice A0 l0.length c0,.slice A1 l1.length c1] w fun e w'=>e=.returned (.bool r)∧Drawn0 w w':=by
 have HR0:=A_ hr0
 have HC0:=A_ hc0
 clear hr0 hc0
 have HR1:=A_ hr1
 have HC1:=A_ hc1
 clear hr1 hc1
 have H:(if (l0.length:Int)=(l1.length:Int) then (laws_sameInts.l0 k l0 l1 (l0.length:Int) 0) else (some false))=some r:=h
 clear h
 by_cases c3:(l0.length:Int)=(l1.length:Int)
 ·
  rw[if_pos c3] at H
  obtain⟨c3b0,c3b1⟩:=eT_ c3
  have c3b2:(l0.length==l1.length)=true:=by first|simpa using c3|(simp at c3 ⊢;omega)
  clear c3
  have H':=A_ H
  clear H
  go_enter Try.func12,Try.ntmps12
  go_wp2
  repeat (go_quiet (fail);try go_wp2)
  (try simp only[Act.put,List.setIfInBounds_toArray,List.set_cons_zero,List.set_cons_succ])
  go_loopg [13] k (fun kq v13 w'=>∃ (x13_1:Int),v13=.int .i64 x13_1∧Aside0 (laws_sameInts.l0 kq l0 l1 (l0.length:Int) x13_1=some r)∧Aside0 (kq≤k)∧Drawn0 w w')
  case atStart=>exact⟨(0),rs_,H',⟨Nat.le_refl _⟩,dr_⟩
  case round=>
   clear H'
   try clear c1 c3 c3b0 c3b1 c3b2
   obtain⟨x13_1,rfl,HA,HK1,⟨m1,rfl⟩⟩:=hrel
   cases gk with
   |zero=>exact absurd HA.out (by simp[laws_sameInts.l0])
   |succ k1=>
    have H:=HA.out
    clear HA
    simp only[laws_sameInts.l0] at H
    by_cases c4:x13_1<(l0.length:Int)
    ·
     rw[if_pos c4] at H
     have c4b0:=decide_eq_true c4
     clear c4
     by_cases c5:0≤x13_1
     ·
      rw[if_pos c5] at H
      have c5b0:=decide_eq_true c5
      clear c5
      by_cases c6:x13_1<(l0.length:Int)
      ·
       rw[if_pos c6] at H
       have c6b0:=decide_eq_true c6
       clear c6
       by_cases c7:x13_1<(l1.length:Int)
       ·
        rw[if_pos c7] at H
        have c7b0:=decide_eq_true c7
        clear c7
        by_cases c8:(rd l0 x13_1)=(rd l1 x13_1)
        ·
         rw[if_pos c8] at H
         obtain⟨c8b0,c8b1⟩:=eT_ c8
         clear c8
         have H':=A_ H
         clear H
         have p825:0≤(x13_1:Int):=od_
         have q825:x13_1<(l0.length:Int):=od_
         obtain⟨ad825,e825,hx825_0⟩:=Kd.at_int HR0.out x13_1 p825 q825
         cases e825
         replace p825:=eq_true p825
         replace q825:=eq_true q825
         have p826:0≤(x13_1:Int):=od_
         have q826:x13_1<(l1.length:Int):=od_
         obtain⟨ad826,e826,hx826_0⟩:=Kd.at_int HR1.out x13_1 p826 q826
         cases e826
         replace p826:=eq_true p826
         replace q826:=eq_true q826
         go_wp2
         repeat (go_quiet (fail);try go_wp2)
         go_roundg k1
         case measure=>have:=HK1.out;omega
         case rel=>exact⟨(wrap64 (x13_1+1)),rs_,H',⟨by have:=HK1.out;omega⟩,dr_⟩
        rw[if_neg c8] at H
        obtain⟨c8b0,c8b1⟩:=eF_ c8
        obtain rfl:=Option.some.inj H
        clear H
        have p825:0≤(x13_1:Int):=od_
        have q825:x13_1<(l0.length:Int):=od_
        obtain⟨ad825,e825,hx825_0⟩:=Kd.at_int HR0.out x13_1 p825 q825
        cases e825
        replace p825:=eq_true p825
        replace q825:=eq_true q825
        have p826:0≤(x13_1:Int):=od_
        have q826:x13_1<(l1.length:Int):=od_
        obtain⟨ad826,e826,hx826_0⟩:=Kd.at_int HR1.out x13_1 p826 q826
        cases e826
        replace p826:=eq_true p826
        replace q826:=eq_true q826
        go_wp2
        repeat (go_quiet (fail);try go_wp2)
        go_ret
        exact⟨rs_,dr_⟩
       rw[if_neg c7] at H
       exact absurd H (by simp)
      rw[if_neg c6] at H
      exact absurd H (by simp)
     rw[if_neg c5] at H
     exact absurd H (by simp)
    rw[if_neg c4] at H
    have c4b0:=decide_eq_false c4
    clear c4
    obtain rfl:=Option.some.inj H
    clear H
    go_wp2
    repeat (go_quiet (fail);try go_wp2)
    go_ret
    exact⟨rs_,dr_⟩
 rw[if_neg c3] at H
 obtain⟨c3b0,c3b1⟩:=eF_ c3
 have c3b2:(l0.length==l1.length)=false:=by first|simpa using c3|(simp at c3 ⊢;omega)
 obtain rfl:=Option.some.inj H
 clear H
 go_enter Try.func12,Try.ntmps12
 go_wp2
 repeat (go_quiet (fail);try go_wp2)
 go_ret
 exact⟨rs_,dr_⟩

end Go.Proofs.Ytmajifnehjlncaa.Q

