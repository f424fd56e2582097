-- Written by a program of this session; it walks the functions that the law reaches.
import Derived.Test.YtoeenmajdidfoaaDoorQx0
import Derived.Test.YtoeenmajdidfoaaDoorQx6
import Derived.Test.YtoeenmajdidfoaaDoorQx7
namespace Go.Proofs.YtoeenmajdidfoaaDoor.Q
open Go.RowKit Go.Proofs.YtoeenmajdidfoaaDoorW.PrintWords Go.Proofs.YtoeenmajdidfoaaDoorW.PrintLast Go.Proofs.YtoeenmajdidfoaaDoorW.PrintMore
attribute [local go_sem] max2_int min2_int max_two min_two max_three min_three max_four min_four   -- for this text's walks alone
set_option linter.unusedVariables false
set_option linter.unusedSimpArgs false
set_option maxRecDepth 100000
set_option maxHeartbeats 8000000

/-! ### spec_l11Tree: function 15 -/
mutual
def spec_l11Tree.l0:Nat→List (S33)→List Int→Int→Int→Int→Int→List (S43)→Option (Int × Int × (List (S43)))
 |0,_,_,_,_,_,_,_=>none
 |k+1,x0,x21,x22,x23,x288000,x288001,x288002=>if x23<x22 then (if 0≤x23 then (if x23<(x21.length:Int) then ((spec_l11Tree.f k x0 (rd x21 x23)).bind fun bt292=>(if x288002.length<3518437208883 then (spec_l11Tree.l0 k x0 x21 x22 (wrap64 (x23+1)) x288000 x288001 (x288002++[(⟨bt292.1,bt292.2.1,bt292.2.2⟩:S43)])) else (none))) else (none)) else (none)) else (some (x288000,x288001,x288002))
def spec_l11Tree.f:Nat→List (S33)→Int→Option (Int × Int × (List (S43)))
 |0,_,_=>none
 |k+1,l0,a1=>if 0≤a1 then (if a1<(l0.length:Int) then ((spec_l11Parts.f k l0 a1).bind fun t288=>(spec_l11Tree.l0 k l0 t288 (t288.length:Int) 0 ((rd_T33 l0 a1).f0) ((rd_T33 l0 a1).f1) ([]:List (S43)))) else (none)) else (none)
end
def spec_l11Tree.T1:Bool × List (List Nat × List Nat):=(true,[([],[]),([],[]),([0,1],[0,1]),([2],[2]),([3],[3]),([],[]),([],[]),([5,6],[5,6]),([7],[7]),([8],[8]),([4,9],[4,9]),([],[]),([11,10,0,1,2,3,4,5,6,7,8,9,10,11],[10,11])])
def spec_l11Tree.B1:List Nat:=[0,0,3,7,15,0,0,96,224,480,1023,0,4095]
theorem spec_l11Tree.tab1:rtab .any (opsOf Tryd.f15 1)=spec_l11Tree.T1:=by kernel_rfl
theorem spec_l11Tree.bits1:waitsOk spec_l11Tree.T1.2 spec_l11Tree.B1=true:=by kernel_rfl
def spec_l11Tree.T5:Bool × List (List Nat × List Nat):=(true,[([],[]),([0],[0]),([],[]),([],[]),([2,3],[2,3]),([4],[4]),([1,5,4],[1,5]),([0,1,2,3,4,5,6],[]),([7,6,6,0,1,2,3,4,5,6],[6,7])])
def spec_l11Tree.B5:List Nat:=[0,1,0,0,12,28,63,127,255]
theorem spec_l11Tree.tab5:rtab .any (opsOf Tryd.f15 5)=spec_l11Tree.T5:=by kernel_rfl
theorem spec_l11Tree.bits5:waitsOk spec_l11Tree.T5.2 spec_l11Tree.B5=true:=by kernel_rfl
theorem spec_l11Tree.calls (k:Nat):∀ (A0:Option Addr) (c0:Nat) (l0:List (S33)) (a1:Int) (r1:Int) (r2:Int) (r3:List (S43)) (w:World) (hr0:Kd.C k33 w A0 l0.length l0) (hc0:l0.length≤c0) (h:spec_l11Tree.f k l0 a1=some (r1,r2,r3)),
  Calls Tryd.prog 15 #[.slice A0 l0.length c0,.int .i64 a1] w fun e w'=>∃ v2_:Value,e=.returned (.agg #[.int .i64 r1,.int .i64 r2,v2_])∧Kd.R k43 43 w' w.heap.size (fun _=>True) v2_ r3∧Below w.heap.size w w':=by
 induction k using Nat.strongRecOn with
 |_ k ih=>
 intro A0 c0 l0 a1 r1 r2 r3 w hr0 hc0 h
 cases k with
 |zero=>exact absurd h (by simp[spec_l11Tree.f])
 |succ k=>
 simp only[spec_l11Tree.f] at h
 have hu43:=Tryd.underlying43
 have HR0:=A_ hr0
 have HC0:=A_ hc0
 clear hr0 hc0
 have HB:=A_ (Below.refl w.heap.size w)
 have H:(if 0≤a1 then (if a1<(l0.length:Int) then ((spec_l11Parts.f k l0 a1).bind fun t288=>(spec_l11Tree.l0 k l0 t288 (t288.length:Int) 0 ((rd_T33 l0 a1).f0) ((rd_T33 l0 a1).f1) ([]:List (S43)))) else (none)) else (none))=some (r1,r2,r3):=h
 clear h
 replace H:=id_ H
 obtain⟨c3b0,H⟩:=H
 replace H:=id_ H
 obtain⟨c4b0,H⟩:=H
 replace H:=bA_ H
 obtain⟨t288,A5,H⟩:=H
 have H':=A_ H
 clear H
 go_enter Tryd.func15,Tryd.ntmps15
 try go_wp2_with (first|((with_reducible refine gd_ 4 rfl ?_);refine bx_ #[.int .i64 0,.int .i64 0,.slice none 0 0] 43 ?_;intro gb284 hg w6 hbox hb;have BK284:=A_ hbox;have GW284:=gw_ hg HB;have GE284:=GW284;replace HB:=bs_ HB hb;clear hb hbox hg))
 have n0_:=A_ (blk_drew BK284.out)
 have n1_:=A_ (below_drew1 HB.out)
 clear BK284 HB
 have BK284:=n0_
 have HB:=n1_
 clear n0_ n1_
 have p285:0≤(a1:Int):=od_
 have q285:a1<(l0.length:Int):=od_
 obtain⟨ad285,e285,hx285_0,hx285_1,hx285_2⟩:=at_T33 HR0.out a1 p285 q285
 have hw285_2:=hx285_2
 have hw285_1:=hx285_1
 have hw285_0:=hx285_0
 cases e285
 replace hx285_0:=cl_ HB.out hx285_0
 replace hx285_1:=cl_ HB.out hx285_1
 replace hx285_2:=cl_ HB.out hx285_2
 replace p285:=eq_true p285
 replace q285:=eq_true q285
 have p286:0≤(a1:Int):=od_
 have q286:a1<(l0.length:Int):=od_
 obtain⟨ad286,e286,hx286_0,hx286_1,hx286_2⟩:=at_T33 HR0.out a1 p286 q286
 have hw286_2:=hx286_2
 have hw286_1:=hx286_1
 have hw286_0:=hx286_0
 obtain rfl:ad285=ad286:=(by injection e286)
 replace hx286_0:=cl_ HB.out hx286_0
 replace hx286_1:=cl_ HB.out hx286_1
 replace hx286_2:=cl_ HB.out hx286_2
 replace p286:=eq_true p286
 replace q286:=eq_true q286
 refine sS 13 (fun w'=>w'.cell? (ad285.add ((a1).toNat*3))=some (.int .i64 ((rd_T33 l0 a1).f0))∧w'.cell? ⟨(ad285.add ((a1).toNat*3)).block,(ad285.add ((a1).toNat*3)).off+1,none⟩=some (.int .i64 ((rd_T33 l0 a1).f1))∧w'.cell? ⟨(ad285.add ((a1).toNat*3)).block,(ad285.add ((a1).toNat*3)).off+2,none⟩=some (.int .i64 ((rd_T33 l0 a1).f2))∧w'.cell? (ad285.add ((a1).toNat*3))=some (.int .i64 ((rd_T33 l0 a1).f0))∧w'.cell? ⟨(ad285.add ((a1).toNat*3)).block,(ad285.add ((a1).toNat*3)).off+1,none⟩=some (.int .i64 ((rd_T33 l0 a1).f1))∧w'.cell? ⟨(ad285.add ((a1).toNat*3)).block,(ad285.add ((a1).toNat*3)).off+2,none⟩=some (.int .i64 ((rd_T33 l0 a1).f2))) [] ⟨(ce_ HB hw285_0),(ce_ HB hw285_1),(ce_ HB hw285_2),(ce_ HB hw286_0),(ce_ HB hw286_1),(ce_ HB hw286_2)⟩ spec_l11Tree.tab1 spec_l11Tree.bits1 (fun hHeld HT_ HW_=>?_)
 generalize w6.drew=w7 at BK284 HB hx285_0 hx285_1 hx285_2 hx286_0 hx286_1 hx286_2 hHeld ⊢
 refine pS HT_ 0 8 ?_
 refine pS HT_ 1 9 ?_
 refine pS HT_ 2 10 ?_
 refine pS HT_ 3 11 ?_
 refine pS HT_ 5 13 ?_
 refine pS HT_ 6 14 ?_
 refine pS HT_ 7 15 ?_
 refine pS HT_ 8 16 ?_
 refine tS HT_ HW_ 4 12 hHeld ?_
 refine tS HT_ HW_ 9 17 hHeld ?_
 refine pS HT_ 10 18 ?_
 refine oS HT_ 11 (some 5) (fun K hK=>?_)
 refine box_step ?hg (N:=5) ?hd (cs:=#[.int .i64 0,.int .i64 0,.slice none 0 0]) (t:=43) ?hr ?_;(case hd=>rfl);(case hg=>rfl);(case hr=>first|(go_simp;done)|(go_simp;rfl))
 intro gb287 hg w8 hbox hb
 have n0_:=A_ (blk_below (g:=gb284) (o:=.cells #[.int .i64 0,.int .i64 0,.slice none 0 0] 43 (0,0)) (bk BK284.out) hb)
 have n1_:=A_ (below_step (bw HB.out) hb)
 have n2_:=A_ (hbox)
 have n3_:=A_ ((sz_ hg (bw HB.out):w.heap.size≤gb287))
 have n4_:=A_ ((sz_ hg (bw HB.out):w.heap.size≤gb287))
 have n5_:=A_ ((by rw[hg];exact Nat.ne_of_lt (blk_lt (g:=gb284) (o:=.cells #[.int .i64 0,.int .i64 0,.slice none 0 0] 43 (0,0)) (bk BK284.out)):gb284≠gb287))
 have n6_:=A_ ((by rw[hg];exact Nat.ne_of_gt (blk_lt (g:=gb284) (o:=.cells #[.int .i64 0,.int .i64 0,.slice none 0 0] 43 (0,0)) (bk BK284.out)):gb287≠gb284))
 clear BK284 HB
 have BK284:=n0_
 have HB:=n1_
 have BK287:=n2_
 have GW287:=n3_
 have GE287:=n4_
 have NB284_287:=n5_
 have NB287_284:=n6_
 clear n0_ n1_ n2_ n3_ n4_ n5_ n6_ hb hbox hg
 refine hK.out _ _ ⟨(ce_ HB hw285_0),(ce_ HB hw285_1),(ce_ HB hw285_2),(ce_ HB hw286_0),(ce_ HB hw286_1),(ce_ HB hw286_2)⟩ (fun hHeld=>?_)
 clear hK K
 refine nS (some 5) ?_
 refine oS HT_ 12 none (fun K hK=>?_)
 have hs9:w8.cell? ⟨gb287,0,none⟩=some (.int .i64 0):=(blk_cell BK287.out 0).trans rfl
 have hfs9:=blk_frozen BK287.out 0
 have hns9_0:=NB284_287.out
 have hms9_0:=NB287_284.out
 have hs10:w8.cell? ⟨gb287,1,none⟩=some (.int .i64 0):=(blk_cell BK287.out 1).trans rfl
 have hfs10:=blk_frozen BK287.out 1
 have hns10_0:=NB284_287.out
 have hms10_0:=NB287_284.out
 have hs11:w8.cell? ⟨gb287,2,none⟩=some (.slice none 0 0):=(blk_cell BK287.out 2).trans rfl
 have hfs11:=blk_frozen BK287.out 2
 have hns11_0:=NB284_287.out
 have hms11_0:=NB287_284.out
 refine skip_ (w1:=?_) (by rfl) rfl ?_ ?_
 rotate_left
 ·
  go_simp
  rfl
 refine hK.out _ _ ⟨((cell_far (p:=⟨gb287,_,none⟩) (by first|exact Nat.ne_of_lt (Nat.lt_of_lt_of_le (by have:=World.block_lt_of_cell? _ _ hw285_0;first|rwa [add_block] at this|exact this) GW287.out)|(rw[add_block];exact Nat.ne_of_lt (Nat.lt_of_lt_of_le (by have:=World.block_lt_of_cell? _ _ hw285_0;first|rwa [add_block] at this|exact this) GW287.out))|(show(Addr.add _ _).block≠_;rw[add_block];exact Nat.ne_of_lt (Nat.lt_of_lt_of_le (by have:=World.block_lt_of_cell? _ _ hw285_0;first|rwa [add_block] at this|exact this) GW287.out))|(dsimp only;exact Nat.ne_of_lt (Nat.lt_of_lt_of_le (by have:=World.block_lt_of_cell? _ _ hw285_0;first|rwa [add_block] at this|exact this) GW287.out))) _).trans (((cell_far (p:=⟨gb287,_,none⟩) (by first|exact Nat.ne_of_lt (Nat.lt_of_lt_of_le (by have:=World.block_lt_of_cell? _ _ hw285_0;first|rwa [add_block] at this|exact this) GW287.out)|(rw[add_block];exact Nat.ne_of_lt (Nat.lt_of_lt_of_le (by have:=World.block_lt_of_cell? _ _ hw285_0;first|rwa [add_block] at this|exact this) GW287.out))|(show(Addr.add _ _).block≠_;rw[add_block];exact Nat.ne_of_lt (Nat.lt_of_lt_of_le (by have:=World.block_lt_of_cell? _ _ hw285_0;first|rwa [add_block] at this|exact this) GW287.out))|(dsimp only;exact Nat.ne_of_lt (Nat.lt_of_lt_of_le (by have:=World.block_lt_of_cell? _ _ hw285_0;first|rwa [add_block] at this|exact this) GW287.out))) _).trans (((cell_far (p:=⟨gb287,_,none⟩) (by first|exact Nat.ne_of_lt (Nat.lt_of_lt_of_le (by have:=World.block_lt_of_cell? _ _ hw285_0;first|rwa [add_block] at this|exact this) GW287.out)|(rw[add_block];exact Nat.ne_of_lt (Nat.lt_of_lt_of_le (by have:=World.block_lt_of_cell? _ _ hw285_0;first|rwa [add_block] at this|exact this) GW287.out))|(show(Addr.add _ _).block≠_;rw[add_block];exact Nat.ne_of_lt (Nat.lt_of_lt_of_le (by have:=World.block_lt_of_cell? _ _ hw285_0;first|rwa [add_block] at this|exact this) GW287.out))|(dsimp only;exact Nat.ne_of_lt (Nat.lt_of_lt_of_le (by have:=World.block_lt_of_cell? _ _ hw285_0;first|rwa [add_block] at this|exact this) GW287.out))) _).trans (hHeld.1)))))),((cell_far (p:=⟨gb287,_,none⟩) (by first|exact Nat.ne_of_lt (Nat.lt_of_lt_of_le (by have:=World.block_lt_of_cell? _ _ hw285_1;first|rwa [add_block] at this|exact this) GW287.out)|(rw[add_block];exact Nat.ne_of_lt (Nat.lt_of_lt_of_le (by have:=World.block_lt_of_cell? _ _ hw285_1;first|rwa [add_block] at this|exact this) GW287.out))|(show(Addr.add _ _).block≠_;rw[add_block];exact Nat.ne_of_lt (Nat.lt_of_lt_of_le (by have:=World.block_lt_of_cell? _ _ hw285_1;first|rwa [add_block] at this|exact this) GW287.out))|(dsimp only;exact Nat.ne_of_lt (Nat.lt_of_lt_of_le (by have:=World.block_lt_of_cell? _ _ hw285_1;first|rwa [add_block] at this|exact this) GW287.out))) _).trans (((cell_far (p:=⟨gb287,_,none⟩) (by first|exact Nat.ne_of_lt (Nat.lt_of_lt_of_le (by have:=World.block_lt_of_cell? _ _ hw285_1;first|rwa [add_block] at this|exact this) GW287.out)|(rw[add_block];exact Nat.ne_of_lt (Nat.lt_of_lt_of_le (by have:=World.block_lt_of_cell? _ _ hw285_1;first|rwa [add_block] at this|exact this) GW287.out))|(show(Addr.add _ _).block≠_;rw[add_block];exact Nat.ne_of_lt (Nat.lt_of_lt_of_le (by have:=World.block_lt_of_cell? _ _ hw285_1;first|rwa [add_block] at this|exact this) GW287.out))|(dsimp only;exact Nat.ne_of_lt (Nat.lt_of_lt_of_le (by have:=World.block_lt_of_cell? _ _ hw285_1;first|rwa [add_block] at this|exact this) GW287.out))) _).trans (((cell_far (p:=⟨gb287,_,none⟩) (by first|exact Nat.ne_of_lt (Nat.lt_of_lt_of_le (by have:=World.block_lt_of_cell? _ _ hw285_1;first|rwa [add_block] at this|exact this) GW287.out)|(rw[add_block];exact Nat.ne_of_lt (Nat.lt_of_lt_of_le (by have:=World.block_lt_of_cell? _ _ hw285_1;first|rwa [add_block] at this|exact this) GW287.out))|(show(Addr.add _ _).block≠_;rw[add_block];exact Nat.ne_of_lt (Nat.lt_of_lt_of_le (by have:=World.block_lt_of_cell? _ _ hw285_1;first|rwa [add_block] at this|exact this) GW287.out))|(dsimp only;exact Nat.ne_of_lt (Nat.lt_of_lt_of_le (by have:=World.block_lt_of_cell? _ _ hw285_1;first|rwa [add_block] at this|exact this) GW287.out))) _).trans (hHeld.2.1)))))),((cell_far (p:=⟨gb287,_,none⟩) (by first|exact Nat.ne_of_lt (Nat.lt_of_lt_of_le (by have:=World.block_lt_of_cell? _ _ hw285_2;first|rwa [add_block] at this|exact this) GW287.out)|(rw[add_block];exact Nat.ne_of_lt (Nat.lt_of_lt_of_le (by have:=World.block_lt_of_cell? _ _ hw285_2;first|rwa [add_block] at this|exact this) GW287.out))|(show(Addr.add _ _).block≠_;rw[add_block];exact Nat.ne_of_lt (Nat.lt_of_lt_of_le (by have:=World.block_lt_of_cell? _ _ hw285_2;first|rwa [add_block] at this|exact this) GW287.out))|(dsimp only;exact Nat.ne_of_lt (Nat.lt_of_lt_of_le (by have:=World.block_lt_of_cell? _ _ hw285_2;first|rwa [add_block] at this|exact this) GW287.out))) _).trans (((cell_far (p:=⟨gb287,_,none⟩) (by first|exact Nat.ne_of_lt (Nat.lt_of_lt_of_le (by have:=World.block_lt_of_cell? _ _ hw285_2;first|rwa [add_block] at this|exact this) GW287.out)|(rw[add_block];exact Nat.ne_of_lt (Nat.lt_of_lt_of_le (by have:=World.block_lt_of_cell? _ _ hw285_2;first|rwa [add_block] at this|exact this) GW287.out))|(show(Addr.add _ _).block≠_;rw[add_block];exact Nat.ne_of_lt (Nat.lt_of_lt_of_le (by have:=World.block_lt_of_cell? _ _ hw285_2;first|rwa [add_block] at this|exact this) GW287.out))|(dsimp only;exact Nat.ne_of_lt (Nat.lt_of_lt_of_le (by have:=World.block_lt_of_cell? _ _ hw285_2;first|rwa [add_block] at this|exact this) GW287.out))) _).trans (((cell_far (p:=⟨gb287,_,none⟩) (by first|exact Nat.ne_of_lt (Nat.lt_of_lt_of_le (by have:=World.block_lt_of_cell? _ _ hw285_2;first|rwa [add_block] at this|exact this) GW287.out)|(rw[add_block];exact Nat.ne_of_lt (Nat.lt_of_lt_of_le (by have:=World.block_lt_of_cell? _ _ hw285_2;first|rwa [add_block] at this|exact this) GW287.out))|(show(Addr.add _ _).block≠_;rw[add_block];exact Nat.ne_of_lt (Nat.lt_of_lt_of_le (by have:=World.block_lt_of_cell? _ _ hw285_2;first|rwa [add_block] at this|exact this) GW287.out))|(dsimp only;exact Nat.ne_of_lt (Nat.lt_of_lt_of_le (by have:=World.block_lt_of_cell? _ _ hw285_2;first|rwa [add_block] at this|exact this) GW287.out))) _).trans (hHeld.2.2.1)))))),((cell_far (p:=⟨gb287,_,none⟩) (by first|exact Nat.ne_of_lt (Nat.lt_of_lt_of_le (by have:=World.block_lt_of_cell? _ _ hw286_0;first|rwa [add_block] at this|exact this) GW287.out)|(rw[add_block];exact Nat.ne_of_lt (Nat.lt_of_lt_of_le (by have:=World.block_lt_of_cell? _ _ hw286_0;first|rwa [add_block] at this|exact this) GW287.out))|(show(Addr.add _ _).block≠_;rw[add_block];exact Nat.ne_of_lt (Nat.lt_of_lt_of_le (by have:=World.block_lt_of_cell? _ _ hw286_0;first|rwa [add_block] at this|exact this) GW287.out))|(dsimp only;exact Nat.ne_of_lt (Nat.lt_of_lt_of_le (by have:=World.block_lt_of_cell? _ _ hw286_0;first|rwa [add_block] at this|exact this) GW287.out))) _).trans (((cell_far (p:=⟨gb287,_,none⟩) (by first|exact Nat.ne_of_lt (Nat.lt_of_lt_of_le (by have:=World.block_lt_of_cell? _ _ hw286_0;first|rwa [add_block] at this|exact this) GW287.out)|(rw[add_block];exact Nat.ne_of_lt (Nat.lt_of_lt_of_le (by have:=World.block_lt_of_cell? _ _ hw286_0;first|rwa [add_block] at this|exact this) GW287.out))|(show(Addr.add _ _).block≠_;rw[add_block];exact Nat.ne_of_lt (Nat.lt_of_lt_of_le (by have:=World.block_lt_of_cell? _ _ hw286_0;first|rwa [add_block] at this|exact this) GW287.out))|(dsimp only;exact Nat.ne_of_lt (Nat.lt_of_lt_of_le (by have:=World.block_lt_of_cell? _ _ hw286_0;first|rwa [add_block] at this|exact this) GW287.out))) _).trans (((cell_far (p:=⟨gb287,_,none⟩) (by first|exact Nat.ne_of_lt (Nat.lt_of_lt_of_le (by have:=World.block_lt_of_cell? _ _ hw286_0;first|rwa [add_block] at this|exact this) GW287.out)|(rw[add_block];exact Nat.ne_of_lt (Nat.lt_of_lt_of_le (by have:=World.block_lt_of_cell? _ _ hw286_0;first|rwa [add_block] at this|exact this) GW287.out))|(show(Addr.add _ _).block≠_;rw[add_block];exact Nat.ne_of_lt (Nat.lt_of_lt_of_le (by have:=World.block_lt_of_cell? _ _ hw286_0;first|rwa [add_block] at this|exact this) GW287.out))|(dsimp only;exact Nat.ne_of_lt (Nat.lt_of_lt_of_le (by have:=World.block_lt_of_cell? _ _ hw286_0;first|rwa [add_block] at this|exact this) GW287.out))) _).trans (hHeld.2.2.2.1)))))),((cell_far (p:=⟨gb287,_,none⟩) (by first|exact Nat.ne_of_lt (Nat.lt_of_lt_of_le (by have:=World.block_lt_of_cell? _ _ hw286_1;first|rwa [add_block] at this|exact this) GW287.out)|(rw[add_block];exact Nat.ne_of_lt (Nat.lt_of_lt_of_le (by have:=World.block_lt_of_cell? _ _ hw286_1;first|rwa [add_block] at this|exact this) GW287.out))|(show(Addr.add _ _).block≠_;rw[add_block];exact Nat.ne_of_lt (Nat.lt_of_lt_of_le (by have:=World.block_lt_of_cell? _ _ hw286_1;first|rwa [add_block] at this|exact this) GW287.out))|(dsimp only;exact Nat.ne_of_lt (Nat.lt_of_lt_of_le (by have:=World.block_lt_of_cell? _ _ hw286_1;first|rwa [add_block] at this|exact this) GW287.out))) _).trans (((cell_far (p:=⟨gb287,_,none⟩) (by first|exact Nat.ne_of_lt (Nat.lt_of_lt_of_le (by have:=World.block_lt_of_cell? _ _ hw286_1;first|rwa [add_block] at this|exact this) GW287.out)|(rw[add_block];exact Nat.ne_of_lt (Nat.lt_of_lt_of_le (by have:=World.block_lt_of_cell? _ _ hw286_1;first|rwa [add_block] at this|exact this) GW287.out))|(show(Addr.add _ _).block≠_;rw[add_block];exact Nat.ne_of_lt (Nat.lt_of_lt_of_le (by have:=World.block_lt_of_cell? _ _ hw286_1;first|rwa [add_block] at this|exact this) GW287.out))|(dsimp only;exact Nat.ne_of_lt (Nat.lt_of_lt_of_le (by have:=World.block_lt_of_cell? _ _ hw286_1;first|rwa [add_block] at this|exact this) GW287.out))) _).trans (((cell_far (p:=⟨gb287,_,none⟩) (by first|exact Nat.ne_of_lt (Nat.lt_of_lt_of_le (by have:=World.block_lt_of_cell? _ _ hw286_1;first|rwa [add_block] at this|exact this) GW287.out)|(rw[add_block];exact Nat.ne_of_lt (Nat.lt_of_lt_of_le (by have:=World.block_lt_of_cell? _ _ hw286_1;first|rwa [add_block] at this|exact this) GW287.out))|(show(Addr.add _ _).block≠_;rw[add_block];exact Nat.ne_of_lt (Nat.lt_of_lt_of_le (by have:=World.block_lt_of_cell? _ _ hw286_1;first|rwa [add_block] at this|exact this) GW287.out))|(dsimp only;exact Nat.ne_of_lt (Nat.lt_of_lt_of_le (by have:=World.block_lt_of_cell? _ _ hw286_1;first|rwa [add_block] at this|exact this) GW287.out))) _).trans (hHeld.2.2.2.2.1)))))),((cell_far (p:=⟨gb287,_,none⟩) (by first|exact Nat.ne_of_lt (Nat.lt_of_lt_of_le (by have:=World.block_lt_of_cell? _ _ hw286_2;first|rwa [add_block] at this|exact this) GW287.out)|(rw[add_block];exact Nat.ne_of_lt (Nat.lt_of_lt_of_le (by have:=World.block_lt_of_cell? _ _ hw286_2;first|rwa [add_block] at this|exact this) GW287.out))|(show(Addr.add _ _).block≠_;rw[add_block];exact Nat.ne_of_lt (Nat.lt_of_lt_of_le (by have:=World.block_lt_of_cell? _ _ hw286_2;first|rwa [add_block] at this|exact this) GW287.out))|(dsimp only;exact Nat.ne_of_lt (Nat.lt_of_lt_of_le (by have:=World.block_lt_of_cell? _ _ hw286_2;first|rwa [add_block] at this|exact this) GW287.out))) _).trans (((cell_far (p:=⟨gb287,_,none⟩) (by first|exact Nat.ne_of_lt (Nat.lt_of_lt_of_le (by have:=World.block_lt_of_cell? _ _ hw286_2;first|rwa [add_block] at this|exact this) GW287.out)|(rw[add_block];exact Nat.ne_of_lt (Nat.lt_of_lt_of_le (by have:=World.block_lt_of_cell? _ _ hw286_2;first|rwa [add_block] at this|exact this) GW287.out))|(show(Addr.add _ _).block≠_;rw[add_block];exact Nat.ne_of_lt (Nat.lt_of_lt_of_le (by have:=World.block_lt_of_cell? _ _ hw286_2;first|rwa [add_block] at this|exact this) GW287.out))|(dsimp only;exact Nat.ne_of_lt (Nat.lt_of_lt_of_le (by have:=World.block_lt_of_cell? _ _ hw286_2;first|rwa [add_block] at this|exact this) GW287.out))) _).trans (((cell_far (p:=⟨gb287,_,none⟩) (by first|exact Nat.ne_of_lt (Nat.lt_of_lt_of_le (by have:=World.block_lt_of_cell? _ _ hw286_2;first|rwa [add_block] at this|exact this) GW287.out)|(rw[add_block];exact Nat.ne_of_lt (Nat.lt_of_lt_of_le (by have:=World.block_lt_of_cell? _ _ hw286_2;first|rwa [add_block] at this|exact this) GW287.out))|(show(Addr.add _ _).block≠_;rw[add_block];exact Nat.ne_of_lt (Nat.lt_of_lt_of_le (by have:=World.block_lt_of_cell? _ _ hw286_2;first|rwa [add_block] at this|exact this) GW287.out))|(dsimp only;exact Nat.ne_of_lt (Nat.lt_of_lt_of_le (by have:=World.block_lt_of_cell? _ _ hw286_2;first|rwa [add_block] at this|exact this) GW287.out))) _).trans (hHeld.2.2.2.2.2))))))⟩ (fun hHeld=>?_)
 clear hK K
 refine dS HT_ ?_
 try go_wp2_with (first|((with_reducible refine gc_ 27 rfl ?_);refine goesL_ (some 21) rfl rfl Tryd.func27 (by kernel_rfl) rfl #[.slice (some ad285) l0.length c0,.int .i64 a1] rfl ar ?_;(with_reducible refine(spec_l11Parts.calls k _ _ l0 a1 t288 _ ?side1 ?side2 A5.out).mono ?_);(case side1=>exact Kd.C_below HR0.out (bw HB.out));(case side2=>exact HC0.out);rintro e w12 ⟨v289,rfl,ho0,hb⟩;refine⟨_,rfl,?_⟩;have HO290:=A_ (Kd.R_lower ho0 (below_size (bw HB.out)));replace BK284:=A_ (blk_below (g:=gb284) (o:=.cells #[.int .i64 0,.int .i64 0,.slice none 0 0] 43 (0,0)) (by refine blk_far ?_ NB284_287.out _;refine blk_far ?_ NB284_287.out _;refine blk_far ?_ NB284_287.out _;(with_reducible repeat (first|refine blk_drewN ?_ _|refine blk_drew ?_|refine blk_alloc ?_ _));exact BK284.out) hb);replace BK287:=A_ (blk_below (g:=gb287) (o:=.cells #[.int .i64 ((rd_T33 l0 a1).f0),.int .i64 ((rd_T33 l0 a1).f1),.slice none 0 0] 43 (0,0)) (by refine blk_put (cs:=#[.int .i64 ((rd_T33 l0 a1).f0),.int .i64 ((rd_T33 l0 a1).f1),.slice none 0 0]) ?_ 2 _ rfl;refine blk_put (cs:=#[.int .i64 ((rd_T33 l0 a1).f0),.int .i64 0,.slice none 0 0]) ?_ 1 _ rfl;refine blk_put (cs:=#[.int .i64 0,.int .i64 0,.slice none 0 0]) ?_ 0 _ rfl;(with_reducible repeat (first|refine blk_drewN ?_ _|refine blk_drew ?_|refine blk_alloc ?_ _));exact BK287.out) hb);replace HB:=bs_ HB hb;(try clear hb);(try clear hb2);(try clear hk);(try clear hi);(try clear ho0);obtain⟨Ao13,co13,eo13⟩:=Kd.R_slice HO290.out;subst eo13))
 (try simp only[Act.put,List.setIfInBounds_toArray,List.set_cons_zero,List.set_cons_succ])
 go_loopg [23] k (fun kq v23 w'=>∃ (x23_1:Int) (x288002_1:List (S43)) (u288002:Value),v23=.int .i64 x23_1∧Aside0 (spec_l11Tree.l0 kq l0 t288 (t288.length:Int) x23_1 ((rd_T33 l0 a1).f0) ((rd_T33 l0 a1).f1) x288002_1=some (r1,r2,r3))∧Aside0 (kq≤k)∧Aside0 (Kd.R (Kd.int .i64) 3 w' w.heap.size (fun _=>True) (.slice Ao13 t288.length co13) t288)∧Aside0 (Kd.R k43 43 w' w.heap.size (fun k_=>k_≠gb284∧k_≠gb287) u288002 x288002_1)∧Aside0 (w'.heap[gb284]? =some (.cells #[.int .i64 0,.int .i64 0,(.slice none 0 0)] 43 (0,0)))∧Aside0 (w'.heap[gb287]? =some (.cells #[.int .i64 ((rd_T33 l0 a1).f0),.int .i64 ((rd_T33 l0 a1).f1),u288002] 43 (0,0)))∧Aside0 (Below w.heap.size w w'))
 case atStart=>exact⟨(0),(([]:List (S43))),(.slice none 0 0),rs_,H',⟨Nat.le_refl _⟩,⟨kr_ HO290.out⟩,⟨by first|exact Kd.R_nil _ _ _ _ _|exact Kd.N_nil _ _ _ _ _|exact Kd.V_nil _ _ _ _ _|exact Kd.Q_nil _ _ _ _ _|exact Kd.S_nil _ _ _ _ _⟩,⟨bk BK284.out⟩,⟨bk BK287.out⟩,⟨bw HB.out⟩⟩
 case round=>
  clear H'
  try clear c3 c3b0 c4 c4b0 hx285_0 hx285_1 hx285_2 hx286_0 hx286_1 hx286_2 p285 p286 q285 q286
  obtain⟨x23_1,x288002_1,u288002,rfl,HA,HK1,HO_21,HO_288002,BK284,BK287,HB⟩:=hrel
  cases gk with
  |zero=>exact absurd HA.out (by simp[spec_l11Tree.l0])
  |succ k1=>
   have H:=HA.out
   clear HA
   simp only[spec_l11Tree.l0] at H
   revert H
   refine iL_ (fun c14b0 H=>?_) (fun c14b0 H=>?_)
   ·
    replace H:=id_ H
    obtain⟨c15b0,H⟩:=H
    replace H:=id_ H
    obtain⟨c16b0,H⟩:=H
    replace H:=Option.bind_eq_some_iff.mp H
    obtain⟨⟨t292,t293,t294⟩,A170,H⟩:=H
    try dsimp only at H
    have A17:=A_ A170
    clear A170
    replace H:=im_ H
    obtain⟨LMc18,H⟩:=H
    obtain⟨y297,hy297⟩:∃ y_:List (S43),y_=(x288002_1++[(⟨t292,t293,t294⟩:S43)]):=⟨_,rfl⟩
    rw[←hy297] at H
    have Ny297:=A_ hy297
    clear hy297
    have H':=A_ H
    clear H
    have p291:0≤(x23_1:Int):=od_
    have q291:x23_1<(t288.length:Int):=od_
    obtain⟨ad291,e291,hx291_0⟩:=Kd.at_int (Kd.R_reads' HO_21.out).2.2 x23_1 p291 q291
    cases e291
    replace p291:=eq_true p291
    replace q291:=eq_true q291
    try go_wp2
    have n0_:=A_ (Kd.R_drew HO_21.out)
    have n1_:=A_ (Kd.R_drew HO_288002.out)
    have n2_:=A_ (blk_drew BK284.out)
    have n3_:=A_ (blk_drew BK287.out)
    have n4_:=A_ (below_drew1 HB.out)
    clear HO_21 HO_288002 BK284 BK287 HB
    have HO_21:=n0_
    have HO_288002:=n1_
    have BK284:=n2_
    have BK287:=n3_
    have HB:=n4_
    clear n0_ n1_ n2_ n3_ n4_
    refine sS 9 (fun w'=>w'.cell? ⟨gb287,0,none⟩=some (.int .i64 ((rd_T33 l0 a1).f0))∧w'.cell? ⟨gb287,1,none⟩=some (.int .i64 ((rd_T33 l0 a1).f1))∧w'.cell? ⟨gb287,2,none⟩=some (u288002)) [8] ⟨(blk_cell BK287.out 0).trans rfl,(blk_cell BK287.out 1).trans rfl,(blk_cell BK287.out 2).trans rfl⟩ spec_l11Tree.tab5 spec_l11Tree.bits5 (fun hHeld HT_ HW_=>?_)
    generalize wr.drew=w19 at HO_21 HO_288002 BK284 BK287 HB hHeld ⊢
    refine pS HT_ 0 27 ?_
    refine pS HT_ 2 29 ?_
    refine pS HT_ 3 30 ?_
    refine tS HT_ HW_ 1 28 hHeld ?_
    refine oS HT_ 4 (some 31) (fun K hK=>?_)
    refine goes_ Tryd.func15 (by kernel_rfl) rfl #[.slice (some ad285) l0.length c0,.int .i64 (rd t288 x23_1)] (by rfl) rfl rfl ar ?_
    with_reducible refine(ih k1 (by have:=HK1.out;omega) _ _ l0 (rd t288 x23_1) t292 t293 t294 _ ?side1 ?side2 A17.out).mono ?_
    (case side1=>repeat (first|exact(Kd.C_below HR0.out HB.out)|(with_reducible refine Kd.C_alloc ?_ _)|(with_reducible refine Kd.C_drewN ?_ _)|(with_reducible refine Kd.C_drew ?_)))
    (case side2=>exact HC0.out)
    rintro e w20 ⟨v295,rfl,ho0,hb⟩
    refine⟨_,rfl,?_⟩
    have n0_:=A_ (Kd.R_below (kr_ HO_21.out) hb)
    have n1_:=A_ (Kd.R_elder' (kr_ HO_288002.out) (Kd.R_base ho0) hb)
    have n2_:=A_ (Kd.R_lower (Kd.R_newB (Kd.R_newB (Kd.R_new' ho0 (Kd.R_lt (kr_ HO_288002.out))) (g:=gb284) (o:=.cells #[.int .i64 0,.int .i64 0,.slice none 0 0] 43 (0,0)) (bk BK284.out)) (g:=gb287) (o:=.cells #[.int .i64 ((rd_T33 l0 a1).f0),.int .i64 ((rd_T33 l0 a1).f1),u288002] 43 (0,0)) (bk BK287.out)) (below_size (bw HB.out)))
    have n3_:=A_ (blk_below (g:=gb284) (o:=.cells #[.int .i64 0,.int .i64 0,.slice none 0 0] 43 (0,0)) (bk BK284.out) hb)
    have n4_:=A_ (blk_below (g:=gb287) (o:=.cells #[.int .i64 ((rd_T33 l0 a1).f0),.int .i64 ((rd_T33 l0 a1).f1),u288002] 43 (0,0)) (bk BK287.out) hb)
    have n5_:=A_ (below_step (bw HB.out) hb)
    clear HO_21 HO_288002 BK284 BK287 HB
    have HO_21:=n0_
    have HO_288002:=n1_
    have HO296:=n2_
    have BK284:=n3_
    have BK287:=n4_
    have HB:=n5_
    clear n0_ n1_ n2_ n3_ n4_ n5_
    (try clear hb)
    (try clear hb2)
    (try clear hk)
    (try clear hi)
    (try clear ho0)
    obtain⟨Ao22,co22,eo22⟩:=Kd.R_slice HO296.out
    (first|subst eo22|(injection eo22 with f1_ f2_ f3_;have f4_:=f1_.symm;have f5_:=f3_.symm;clear f1_ f2_ f3_;subst f4_;subst f5_))
    refine hK.out _ _ ⟨(blk_cell BK287.out 0).trans rfl,(blk_cell BK287.out 1).trans rfl,(blk_cell BK287.out 2).trans rfl⟩ (fun hHeld=>?_)
    clear hK K
    refine nS (some 31) ?_
    refine oS HT_ 5 (some 32) (fun K hK=>?_)
    refine value_ (w1:=?_) (v:=?_) (by rfl) rfl ?_ ?_
    rotate_left 2
    ·
     go_simp
     constructor
     ·
      rfl
     rfl
    refine hK.out _ _ ⟨(blk_cell (blk_alloc BK287.out _) 0).trans rfl,(blk_cell (blk_alloc BK287.out _) 1).trans rfl,(blk_cell (blk_alloc BK287.out _) 2).trans rfl⟩ (fun hHeld=>?_)
    clear hK K
    refine nS (some 32) ?_
    refine oS HT_ 6 (some 33) (fun K hK=>?_)
    refine Kd.R_append_step k43 (w0:=w) w.heap.size (by rfl) (.tmp 28) (.tmp 32) 41 43 (.agg #[(.int .i64 0),(.int .i64 0),(.slice none 0 0)]) 40 rfl Tryd.underlying41 info43 rfl (by decide) (by omega) u288002 x288002_1 (⟨t292,t293,t294⟩:S43) [.int .i64 t292,.int .i64 t293,.slice Ao22 t294.length co22] (fun k_=>k_≠gb284∧k_≠gb287) (fun k_=>((fun k_=>k_≠gb284∧k_≠gb287)) k_∧some k_≠(u288002:Value).ownBlock) rfl rfl ?aP (fun _ hk=>hk) ?aF ?aO ?aB ?aS ?aL ?_
    (case aP=>exact k43_mkM _ _ _ (⟨t292,t293,t294⟩:S43) (Kd.R_mono (HO296.out) (fun k_ hk=>⟨⟨hk.1.2,hk.2⟩,hk.1.1.2⟩)))
    (case aB=>exact(bw HB.out))
    (case aF=>exact(fun k_ hk=>⟨Kd.freshB (g:=gb284) (o:=.cells #[.int .i64 0,.int .i64 0,.slice none 0 0] 43 (0,0)) (bk BK284.out) k_ hk,Kd.freshB (g:=gb287) (o:=.cells #[.int .i64 ((rd_T33 l0 a1).f0),.int .i64 ((rd_T33 l0 a1).f1),u288002] 43 (0,0)) (bk BK287.out) k_ hk⟩))
    (case aO=>exact(by(with_reducible repeat (first|apply Kd.R_alloc|apply Kd.R_drewN|apply Kd.R_drew));exact Kd.R_mono HO_288002.out (fun _ hk=>⟨hk.1.1,hk.1.2⟩)))
    (case aS=>exact(below_size (bw HB.out)))
    (case aL=>have:=LMc18.out;omega)
    intro v298 w21 ho hb hg hat
    rw[←Ny297.out] at ho
    have n0_:=A_ (Kd.R_over' (kr_ HO_21.out) (Kd.R_typed (kr_ HO_288002.out)) (by decide) hg)
    have n1_:=A_ (blk_grown (g:=gb284) (o:=.cells #[.int .i64 0,.int .i64 0,.slice none 0 0] 43 (0,0)) (bk BK284.out) hg (Kd.R_away HO_288002.out (fun _ hk=>hk.1.1)))
    have n2_:=A_ (blk_grown (g:=gb287) (o:=.cells #[.int .i64 ((rd_T33 l0 a1).f0),.int .i64 ((rd_T33 l0 a1).f1),u288002] 43 (0,0)) (bk BK287.out) hg (Kd.R_away HO_288002.out (fun _ hk=>hk.1.2)))
    have n3_:=A_ (hb)
    have n4_:=A_ (ho)
    clear HO_21 BK284 BK287 HB HO_288002 HO296
    have HO_21:=n0_
    have BK284:=n1_
    have BK287:=n2_
    have HB:=n3_
    have HO299:=n4_
    clear n0_ n1_ n2_ n3_ n4_ ho hb hg hat
    obtain⟨Ao23,co23,eo23⟩:=Kd.R_slice HO299.out
    (first|subst eo23|(injection eo23 with f1_ f2_ f3_;have f4_:=f1_.symm;have f5_:=f3_.symm;clear f1_ f2_ f3_;subst f4_;subst f5_))
    refine hK.out _ _ ⟨(blk_cell BK287.out 0).trans rfl,(blk_cell BK287.out 1).trans rfl,(blk_cell BK287.out 2).trans rfl⟩ (fun hHeld=>?_)
    clear hK K
    refine nS (some 33) ?_
    refine pS HT_ 7 34 ?_
    refine last_ (i:=8) (N:=none) #[true,true,true,true,true,true,true,true,true] rfl rfl (one_of HT_.out (by kernel_rfl)) (by decide) (fun K hK=>?_)
    have hs24:w21.cell? ⟨gb287,2,none⟩=some (u288002):=(blk_cell BK287.out 2).trans rfl
    have hfs24:=blk_frozen BK287.out 2
    have hns24_0:=NB284_287.out
    have hms24_0:=NB287_284.out
    refine skip_ (w1:=?_) (by rfl) rfl ?_ ?_
    rotate_left
    ·
     go_simp
     rfl
    refine hK.out _ _ ?_
    clear hK K
    refine dS HT_ ?_
    try go_wp2
    go_roundg k1
    case measure=>have:=HK1.out;omega
    case rel=>exact⟨(wrap64 (x23_1+1)),(y297),(.slice Ao23 y297.length co23),rs_,H',⟨by have:=HK1.out;omega⟩,⟨by (with_reducible repeat (first|apply Kd.R_alloc|apply Kd.R_drewN|apply Kd.R_drew));exact Kd.R_mono (Kd.R_far (p:=⟨gb287,2,none⟩) (Kd.R_types HO_21.out BK287.out (by decide)) (fun _ hk=>hk.2) (.slice Ao23 y297.length co23)) (fun _ hk=>trivial)⟩,⟨by (with_reducible repeat (first|apply Kd.R_alloc|apply Kd.R_drewN|apply Kd.R_drew));exact Kd.R_mono (Kd.R_far (p:=⟨gb287,2,none⟩) (Kd.R_mono HO299.out (fun k_ hk=>(⟨hk,hk.2⟩:_∧k_≠gb287))) (fun _ hk=>hk.2) (.slice Ao23 y297.length co23)) (fun _ hk=>⟨hk.1.1,hk.1.2⟩)⟩,⟨by refine blk_far ?_ NB284_287.out _;(with_reducible repeat (first|refine blk_drewN ?_ _|refine blk_drew ?_|refine blk_alloc ?_ _));exact BK284.out⟩,⟨by refine blk_put (cs:=#[.int .i64 ((rd_T33 l0 a1).f0),.int .i64 ((rd_T33 l0 a1).f1),u288002]) ?_ 2 _ rfl;(with_reducible repeat (first|refine blk_drewN ?_ _|refine blk_drew ?_|refine blk_alloc ?_ _));exact BK287.out⟩,⟨bw HB.out⟩⟩
   simp only[Option.some.injEq,Prod.mk.injEq] at H
   obtain⟨rfl,rfl,rfl⟩:=H
   have hnb25:=NB287_284.out
   have hnc25:=NB284_287.out
   obtain⟨hcz26_0,hcz26_1,hcz26_2⟩:=cs3_ BK287.out
   obtain⟨hfz26_0,hfz26_1,hfz26_2⟩:=fz3_ BK287.out
   obtain⟨hcz27_0,hcz27_1,hcz27_2⟩:=cs3_ BK284.out
   obtain⟨hfz27_0,hfz27_1,hfz27_2⟩:=fz3_ BK284.out
   obtain⟨Ao28,co28,eo28⟩:=Kd.R_slice HO_288002.out
   subst eo28
   go_wp2
   refine bodyPost_ret (results_cell_row rfl _ _ gb284 43 #[.int .i64 ((rd_T33 l0 a1).f0),.int .i64 ((rd_T33 l0 a1).f1),.slice Ao28 x288002_1.length co28] (0,0) _ rfl (by refine blk_put (cs:=#[.int .i64 ((rd_T33 l0 a1).f0),.int .i64 ((rd_T33 l0 a1).f1),.slice none 0 0]) ?_ 2 _ rfl;refine blk_put (cs:=#[.int .i64 ((rd_T33 l0 a1).f0),.int .i64 0,.slice none 0 0]) ?_ 1 _ rfl;refine blk_put (cs:=#[.int .i64 0,.int .i64 0,.slice none 0 0]) ?_ 0 _ rfl;(with_reducible repeat (first|refine blk_drewN ?_ _|refine blk_drew ?_|refine blk_alloc ?_ _));exact BK284.out) Tryd.underlying43 rfl (by kernel_rfl)) rfl ?_
   exact⟨_,rr_,by (with_reducible repeat (first|apply Kd.R_alloc|apply Kd.R_drewN|apply Kd.R_drew));exact Kd.R_mono (Kd.R_far (p:=⟨gb284,2,none⟩) (Kd.R_far (p:=⟨gb284,1,none⟩) (Kd.R_far (p:=⟨gb284,0,none⟩) (Kd.R_mono HO_288002.out (fun k_ hk=>(⟨hk,hk.1⟩:_∧k_≠gb284))) (fun _ hk=>hk.2) (.int .i64 ((rd_T33 l0 a1).f0))) (fun _ hk=>hk.2) (.int .i64 ((rd_T33 l0 a1).f1))) (fun _ hk=>hk.2) (.slice Ao28 x288002_1.length co28)) (fun _ hk=>trivial),bw HB.out⟩

/-! ### spec_TypeText: function 6 -/
def spec_TypeText.f (k:Nat) (l0:List (S33)):Option (ByteArray × Bool):=(spec_GoodType.f k l0).bind fun t300=>(if t300=true then ((spec_l11Tree.f k l0 0).bind fun bt301=>((spec_l11Text.f k bt301.1 bt301.2.1 bt301.2.2).bind fun t306=>(some (t306,true)))) else (some ((⟨#[]⟩:ByteArray),false)))
theorem spec_TypeText.calls (k:Nat) (A0:Option Addr) (c0:Nat) (l0:List (S33)) (r1:ByteArray) (r2:Bool) (w:World) (hr0:Kd.C k33 w A0 l0.length l0) (hc0:l0.length≤c0) (h:spec_TypeText.f k l0=some (r1,r2)):
  Calls Tryd.prog 6 #[.slice A0 l0.length c0] w fun e w'=>e=.returned (.tuple #[.string r1,.bool r2])∧Below w.heap.size w w':=by
 have HR0:=A_ hr0
 have HC0:=A_ hc0
 clear hr0 hc0
 have HB:=A_ (Below.refl w.heap.size w)
 have H:((spec_GoodType.f k l0).bind fun t300=>(if t300=true then ((spec_l11Tree.f k l0 0).bind fun bt301=>((spec_l11Text.f k bt301.1 bt301.2.1 bt301.2.2).bind fun t306=>(some (t306,true)))) else (some ((⟨#[]⟩:ByteArray),false))))=some (r1,r2):=h
 clear h
 replace H:=bA_ H
 obtain⟨t300,A2,H⟩:=H
 revert H
 refine iB_ (fun c3 H=>?_) (fun c3 H=>?_)<;>subst c3
 ·
  replace H:=Option.bind_eq_some_iff.mp H
  obtain⟨⟨t301,t302,t303⟩,A40,H⟩:=H
  try dsimp only at H
  have A4:=A_ A40
  clear A40
  replace H:=bA_ H
  obtain⟨t306,A5,H⟩:=H
  simp only[Option.some.injEq,Prod.mk.injEq] at H
  obtain⟨rfl,rfl⟩:=H
  go_enter Tryd.func6,Tryd.ntmps6
  go_wp2_with (first|((with_reducible refine gc_ 13 rfl ?_);refine goesL_ (some 5) rfl rfl Tryd.func13 (by kernel_rfl) rfl #[.slice A0 l0.length c0] rfl ar ?_;(with_reducible refine(spec_GoodType.calls k _ _ l0 true _ ?side1 ?side2 A2.out).mono ?_);(case side1=>repeat (first|exact HR0.out|(with_reducible refine Kd.C_alloc ?_ _)|(with_reducible refine Kd.C_drewN ?_ _)|(with_reducible refine Kd.C_drew ?_)));(case side2=>exact HC0.out);rintro e w6 ⟨rfl,hb⟩;refine⟨_,rfl,?_⟩;replace HB:=bs_ HB hb;(try clear hb))|((with_reducible refine gc_ 15 rfl ?_);refine goesL_ (some 8) rfl rfl Tryd.func15 (by kernel_rfl) rfl #[.slice A0 l0.length c0,.int .i64 0] rfl ar ?_;(with_reducible refine(spec_l11Tree.calls k _ _ l0 0 t301 t302 t303 _ ?side1 ?side2 A4.out).mono ?_);(case side1=>exact cb_ HR0 HB);(case side2=>exact HC0.out);rintro e w7 ⟨v304,rfl,ho0,hb⟩;refine⟨_,rfl,?_⟩;have HO305:=A_ (Kd.R_lower ho0 (below_size (bw HB.out)));replace HB:=bs_ HB hb;(try clear hb);(try clear hb2);(try clear hk);(try clear hi);(try clear ho0);obtain⟨Ao8,co8,eo8⟩:=Kd.R_slice HO305.out;subst eo8)|((with_reducible refine gc_ 14 rfl ?_);refine goesL_ (some 9) rfl rfl Tryd.func14 (by kernel_rfl) rfl #[.agg #[.int .i64 t301,.int .i64 t302,.slice Ao8 t303.length co8]] rfl ar ?_;(with_reducible refine(spec_l11Text.calls k t301 t302 _ _ t303 t306 _ ?side1 ?side2 A5.out).mono ?_);(case side1=>repeat (first|exact(Kd.R_reads' HO305.out).2.2|(with_reducible refine Kd.C_alloc ?_ _)|(with_reducible refine Kd.C_drewN ?_ _)|(with_reducible refine Kd.C_drew ?_)));(case side2=>exact(Kd.R_reads' HO305.out).2.1);rintro e w9 ⟨rfl,hb⟩;refine⟨_,rfl,?_⟩;replace HO305:=A_ (Kd.R_below (kr_ HO305.out) hb);replace HB:=bs_ HB hb;(try clear hb)))
  go_ret2
  exact⟨rr_,bw HB.out⟩
 simp only[Option.some.injEq,Prod.mk.injEq] at H
 obtain⟨rfl,rfl⟩:=H
 go_enter Tryd.func6,Tryd.ntmps6
 go_wp2_with (first|((with_reducible refine gc_ 13 rfl ?_);refine goesL_ (some 5) rfl rfl Tryd.func13 (by kernel_rfl) rfl #[.slice A0 l0.length c0] rfl ar ?_;(with_reducible refine(spec_GoodType.calls k _ _ l0 false _ ?side1 ?side2 A2.out).mono ?_);(case side1=>repeat (first|exact HR0.out|(with_reducible refine Kd.C_alloc ?_ _)|(with_reducible refine Kd.C_drewN ?_ _)|(with_reducible refine Kd.C_drew ?_)));(case side2=>exact HC0.out);rintro e w10 ⟨rfl,hb⟩;refine⟨_,rfl,?_⟩;replace HB:=bs_ HB hb;(try clear hb)))
 go_ret2
 exact⟨rr_,bw HB.out⟩


/-! ### strings_IndexAny: function 43 (walked by hand) -/
/-! The library's functions that the reader of types calls, off the shelf, in the form in which the print calls them. -/
def ascii (s:ByteArray):Bool:=s.data.toList.all (fun b=>decide (b.toNat<128))
theorem ascii_at {s:ByteArray} (h:ascii s=true) (j:Nat) (b:UInt8) (hb:s.data.toList[j]? =some b):b.toNat<128:=of_decide_eq_true (List.all_eq_true.1 h b (List.mem_of_getElem? hb))
def strings_IndexAny.f (a0:ByteArray) (a1:ByteArray):Option (Int):=if (ascii a0 && ascii a1)=true∧a0.size<4294967281∧a1.size<4294967281 then some (Lib.indexAny a0.data.toList a1.data.toList) else none
theorem strings_IndexAny.calls (a0:ByteArray) (a1:ByteArray) (r:Int) (w:World) (h:strings_IndexAny.f a0 a1=some r):
  Calls Tryd.prog 43 #[.string a0,.string a1] w fun e w'=>e=.returned (.int .i64 r)∧Below w.heap.size w w':=by
 unfold strings_IndexAny.f at h
 split at h
 ·
  next c=>
  obtain rfl:=Option.some.inj h
  obtain⟨c1,c2,c3⟩:=c
  rw[Bool.and_eq_true] at c1
  exact Tryd.strings_IndexAny_laid a0 a1 w c2 c3 (ascii_at c1.1) (ascii_at c1.2)
 cases h
def strconv_Atoi.f (a0:ByteArray):Option (Int × Option Int):=if a0.size≤18 then (Lib.atoi a0.data.toList).map (fun n=>(n,none)) else none
theorem strconv_Atoi.calls (a0:ByteArray) (r1:Int) (r2:Option Int) (w:World) (h:strconv_Atoi.f a0=some (r1,r2)):
  Calls Tryd.prog 32 #[.string a0] w fun e w'=>e=.returned (.tuple #[.int .i64 r1,errW r2])∧Below w.heap.size w w':=by
 unfold strconv_Atoi.f at h
 split at h
 ·
  next c=>
  obtain⟨n,hn,e⟩:=Option.map_eq_some_iff.1 h
  obtain⟨rfl,rfl⟩:=Prod.mk.inj e
  refine(Tryd.strconv_Atoi a0 n c hn w).mono ?_
  rintro e w' ⟨rfl,t,rfl⟩
  exact⟨rfl,⟨rfl,rfl,rfl,by rw[Lib.bytesWorld_size];omega,fun k hk=>Lib.bytesWorld_at_old w 5 t k (by omega)⟩⟩
 cases h


/-! ### impl_typeReader_word: function 30 (walked by hand) -/
/-! The reader of types: a block of its text and its row of nodes. -/
theorem Reps.cut_ {α:Type} {R:α→List Value→Prop} {sz:Nat} {ps:List α} {cs:List Value} (h:Reps R sz ps cs) (k:Nat):Reps R sz (ps.take k) (cs.take (k*sz)):=by
 refine⟨?_,fun j p hj=>?_⟩
 ·
  rw[List.length_take,List.length_take,h.1]
  rcases Nat.le_total k ps.length with hk|hk
  ·
   rw[Nat.min_eq_left hk,Nat.min_eq_left (Nat.mul_le_mul_right _ hk)]
  rw[Nat.min_eq_right hk,Nat.min_eq_right (Nat.mul_le_mul_right _ hk)]
 rw[List.getElem?_take] at hj
 split at hj
 ·
  next hlt=>
  have h1:=h.2 j p hj
  have e:((cs.take (k*sz)).drop (j*sz)).take sz=(cs.drop (j*sz)).take sz:=by
   rw[List.drop_take,List.take_take]
   congr 1
   have:(j+1)*sz≤k*sz:=Nat.mul_le_mul_right _ hlt
   rw[Nat.succ_mul] at this
   omega
  rw[e];exact h1
 cases hj
theorem R_set1 {α:Type} {d:Kd α} {e:Nat} {w:World} {base:Nat} {v:Value} {xs:List α} (h:d.R e w base (fun _=>True) v xs) (hE:d.E=[]) {g t:Nat} {cells:Array Value} (hb:w.heap[g]? =some (.cells cells t (0,0))) (ht:e≠t) (i:Nat) (u:Value):d.R e (w.setCell ⟨g,i,none⟩ u) base (fun _=>True) v xs:=
 Kd.R_mono (Kd.R_far (Kd.R_far1 h hE (Kd.R_ne h hb ht)) (fun k hk=>hk.2) u) (fun _ _=>trivial)
theorem R_typed {α:Type} {d:Kd α} {e:Nat} {w:World} {base:Nat} {ok:Nat→Prop} {v:Value} {xs:List α} (h:d.R e w base ok v xs) {g:Nat} (hv:v.ownBlock=some g):base≤g∧∃ cells,w.heap[g]? =some (.cells cells e (0,0)):=by
 obtain⟨_,inner,⟨_,ho⟩,_⟩:=h
 rcases ho with ⟨rfl,_⟩|⟨g',c,cur,rfl,hb,hg,_⟩
 ·
  cases hv
 obtain rfl:=Option.some.inj hv
 exact⟨hb,cur,hg⟩
def Rd (w0 w:World) (g:Nat) (s:ByteArray) (l:List S33) (A:Option Addr) (n:Nat):Prop:=
 w0.heap.size≤g∧Below w0.heap.size w0 w∧w.heap[g]? =some (.cells #[.string s,.slice A l.length n] 46 (0,0))∧Kd.R k33 33 w w0.heap.size (fun _=>True) (.slice A l.length n) l
def RdE (w0 w:World) (g:Nat) (s:ByteArray) (l:List S33):Prop:=∃ A n,Rd w0 w g s l A n
section
variable {w0 w w1:World} {g:Nat} {s:ByteArray} {l:List S33} {A:Option Addr} {n:Nat}
theorem Rd.below (h:Rd w0 w g s l A n) (hb:Below w.heap.size w w1):Rd w0 w1 g s l A n:=
 ⟨h.1,below_weaken h.2.1 h.2.1.size hb,blk_below h.2.2.1 hb,Kd.R_below h.2.2.2 hb⟩
theorem Rd.cell0 (h:Rd w0 w g s l A n):w.cell? ⟨g,0,none⟩=some (.string s):=(blk_cell h.2.2.1 0).trans rfl
theorem Rd.cell1 (h:Rd w0 w g s l A n):w.cell? ⟨g,1,none⟩=some (.slice A l.length n):=(blk_cell h.2.2.1 1).trans rfl
theorem Rd.frozen (h:Rd w0 w g s l A n) (i:Nat):w.frozen? ⟨g,i,none⟩=false:=blk_frozen h.2.2.1 i
theorem Rd.setS (h:Rd w0 w g s l A n) (x:ByteArray):Rd w0 (w.setCell ⟨g,0,none⟩ (.string x)) g x l A n:=
 ⟨h.1,below_set h.2.1 h.1,blk_put h.2.2.1 0 _ rfl,R_set1 h.2.2.2 rfl h.2.2.1 (by decide) _ _⟩
theorem Rd.fresh_ne (h:Rd w0 w g s l A n) {gn:Nat} (hg:gn=w.heap.size):gn≠g∧(∀ a,A=some a→a.block≠gn):=by
 subst hg
 refine⟨?_,?_⟩
 ·
  have:=blk_lt h.2.2.1;omega
 rintro a rfl
 obtain⟨_,cells,hc⟩:=R_typed h.2.2.2 (g:=a.block) rfl
 have:=blk_lt hc;omega
theorem Rd.app (h:Rd w0 w g s l A n) {v1:Value} {x:S33} (hv:Kd.R k33 33 w1 w0.heap.size (fun _=>True) v1 (l++[x])) (hb:Below w0.heap.size w0 w1) (hg:w.grownBy w1 (Value.ownBlock (.slice A l.length n))):
  w1.heap[g]? =some (.cells #[.string s,.slice A l.length n] 46 (0,0))∧∃ A' n',v1=.slice A' (l.length+1) n'∧Rd w0 (w1.setCell ⟨g,1,none⟩ v1) g s (l++[x]) A' n':=by
 have hne:=Kd.R_ne h.2.2.2 h.2.2.1 (by decide)
 have hblk:=blk_grown h.2.2.1 hg hne
 obtain⟨A',n',e⟩:=Kd.R_slice hv
 subst e
 rw[List.length_append,List.length_singleton] at hv
 refine⟨hblk,A',n',by rw[List.length_append,List.length_singleton],?_⟩
 have e:(l++[x]).length=l.length+1:=by rw[List.length_append,List.length_singleton]
 have h1:=R_set1 hv rfl hblk (by decide) 1 (.slice A' (l++[x]).length n')
 refine⟨h.1,below_set hb h.1,blk_put hblk 1 _ rfl,?_⟩
 simp only[e] at h1 ⊢;exact h1
theorem Rd.len (h:Rd w0 w g s l A n):l.length≤9223372036854775807∧l.length≤n:=⟨Kd.C_max (Kd.R_reads' h.2.2.2).2.2,(Kd.R_reads' h.2.2.2).2.1⟩
theorem Rd.drewN (h:Rd w0 w g s l A n) (m:Nat):Rd w0 (w.drewN m) g s l A n:=h.below (pw_below_drewN (Below.refl _ _) m)
theorem Rd.drew (h:Rd w0 w g s l A n):Rd w0 w.drew g s l A n:=h.below (below_drew (Below.refl _ _))
/-- The number of the j-th node is written. -/
theorem Rd.num (h:Rd w0 w g s l A n) (j:Nat) (x:S33) (hx:l[j]? =some x) (m:Int):∃ gB,A=some ⟨gB,0,none⟩∧w0.heap.size≤gB∧gB≠g∧w.cell? ⟨gB,j*3+1,none⟩=some (.int .i64 x.f1)∧w.frozen? ⟨gB,j*3+1,none⟩=false∧Rd w0 (w.setCell ⟨gB,j*3+1,none⟩ (.int .i64 m)) g s (l.set j {x with f1:=m}) A n:=by
 have hj:j<l.length:=(List.getElem?_eq_some_iff.1 hx).1
 obtain⟨gB,cap,e,gb,gl,cells,hc⟩:=Kd.R_form h.2.2.2 (by omega)
 injection e with eA e2 e3
 subst eA
 have hR:=h.2.2.2
 obtain⟨cs,hl,hM,hcc,_⟩:=Kd.R_elem hR z33 (j:Int) (by omega) (by omega)
 rw[Int.toNat_natCast,List.getD_eq_getElem?_getD,hx] at hM
 rw[Int.toNat_natCast] at hcc
 obtain rfl:=k33_openM hM
 have h3:∀ i u,[Value.int .i64 x.f0,.int .i64 x.f1,.int .i64 x.f2][i]? =some u→w.cell? ⟨gB,j*3+i,none⟩=some u:=hcc
 have hgne:g≠gB:=by
  rintro rfl
  have h3:=h.2.2.1.symm.trans hc
  injection h3 with h3
  injection h3 with _ h3 _
  exact absurd h3 (by decide)
 have s1:=(Kd.R_seg (okp:=fun k=>True∧k≠gB) hR (j:Int) (by omega) (by omega) (j:=1) (seg:=[.int .i64 m]) (x':={x with f1:=m}) hl (by rw[Int.toNat_natCast];exact hcc) (by show 1+1≤3;omega) (k33_mkM _ _ _ {x with f1:=m}) (fun k hk=>hk)).1
 rw[Int.toNat_natCast] at s1
 have e:(l.set j {x with f1:=m}).length=l.length:=List.length_set
 refine⟨gB,rfl,gb,fun e=>hgne e.symm,h3 1 _ rfl,blk_frozen hc _,h.1,below_set h.2.1 gb,?_,?_⟩
 ·
  simp only[e]
  exact(Below.heap_setCell w ⟨gB,j*3+1,none⟩ (.int .i64 m) g hgne).trans h.2.2.1
 simp only[e];exact s1
end

/-! The reader's word and sign. -/
def wordF (s:ByteArray):Option (ByteArray × ByteArray):=(strings_IndexAny.f s (⟨#[60,62,44]⟩:ByteArray)).bind fun t=>if t<0 then (if (s.size:Int)≤9223372036854775807 then some (s,ByteArray.empty) else none) else if t≤(s.size:Int)∧(s.size:Int)≤9223372036854775807 then some (s.extract 0 t.toNat,s.extract t.toNat s.size) else none
def signF (s:ByteArray) (c:Int):Option (Bool × ByteArray):=if s.toList=([]:List UInt8) then some (false,s) else if 0<s.size∧(s.size:Int)≤9223372036854775807 then (if bt s 0=c then some (true,s.extract 1 s.size) else some (false,s)) else none
theorem word_any (w0 w:World) (g:Nat) (s r s':ByteArray) (l:List S33) (A:Option Addr) (n:Nat) (h:Rd w0 w g s l A n) (hr:wordF s=some (r,s')):
  Calls Tryd.prog 30 #[.pointer (some ⟨g,0,none⟩)] w fun e w'=>e=.returned (.string r)∧Rd w0 w' g s' l A n:=by
 have HO:=A_ h
 clear h
 obtain⟨t,ht,hr⟩:=Option.bind_eq_some_iff.1 hr
 have HT:=A_ ht
 clear ht
 have c0:=HO.out.cell0
 refine ic_ (t<0) (fun hn=>?phn) (fun hn=>?nhn)
 case' phn=>
  rw[if_pos hn] at hr
  by_cases hs:(s.size:Int)≤9223372036854775807
  case neg=>
   rw[if_neg hs] at hr;cases hr
  rw[if_pos hs] at hr
  obtain⟨rfl,rfl⟩:=Prod.mk.inj (Option.some.inj hr)
  clear hr
  have b0:=decide_eq_true hn
  have q0:(0:Int)≤(s.size:Int):=by omega
  have q1:=eq_true q0
  have HS:=A_ hs
  clear hn hs q0
 case' nhn=>
  rw[if_neg hn] at hr
  by_cases hs:t≤(s.size:Int)∧(s.size:Int)≤9223372036854775807
  case neg=>
   rw[if_neg hs] at hr;cases hr
  rw[if_pos hs] at hr
  obtain⟨rfl,rfl⟩:=Prod.mk.inj (Option.some.inj hr)
  clear hr
  have b0:=decide_eq_false hn
  have q0:(0:Int)≤t:=by omega
  have q1:=eq_true q0
  have q2:=eq_true hs.1
  clear hn hs q0
 all_goals
  go_enter Tryd.func30,Tryd.ntmps30
  go_wp2_with (first|(go_at_call 43;refine(strings_IndexAny.calls s _ t _ HT.out).mono ?_;rintro e w5 ⟨rfl,hb⟩;replace HO:=A_ (HO.out.below hb);clear hb c0;have c0:=HO.out.cell0;have f0:=HO.out.frozen 0))
  go_ret
  exact⟨rfl,HO.out.setS _⟩
theorem sign_any (w0 w:World) (g:Nat) (s:ByteArray) (c:Int) (b:Bool) (s':ByteArray) (l:List S33) (A:Option Addr) (n:Nat) (h:Rd w0 w g s l A n) (hr:signF s c=some (b,s')):
  Calls Tryd.prog 31 #[.pointer (some ⟨g,0,none⟩),.int .u8 c] w fun e w'=>e=.returned (.bool b)∧Rd w0 w' g s' l A n:=by
 have HO:=A_ h
 clear h
 unfold signF at hr
 have c0:=HO.out.cell0
 have f0:=HO.out.frozen 0
 by_cases he:s.toList=([]:List UInt8)
 ·
  rw[if_pos he] at hr
  obtain⟨rfl,rfl⟩:=Prod.mk.inj (Option.some.inj hr)
  clear hr
  go_enter Tryd.func31,Tryd.ntmps31
  go_wp2
  go_ret
  exact⟨rfl,HO.out⟩
 rw[if_neg he] at hr
 by_cases hs:0<s.size∧(s.size:Int)≤9223372036854775807
 ·
  rw[if_pos hs] at hr
  have q0:(0:Int)<(s.size:Int):=by omega
  have hx6:∀ h:0<s.size,((s[0]'h).toNat:Int)=bt s 0:=bt_at s 0
  have q6:=eq_true hs.1
  have qi6:=eq_true q0
  have q2:((1:Int)≤(s.size:Int))=True:=eq_true (by omega)
  obtain⟨e0,e1⟩:=eF_ he
  clear hs q0
  by_cases hb:bt s 0=c
  ·
   rw[if_pos hb] at hr
   obtain⟨rfl,rfl⟩:=Prod.mk.inj (Option.some.inj hr)
   clear hr
   obtain⟨b0,b1⟩:=eT_ hb
   clear hb
   go_enter Tryd.func31,Tryd.ntmps31
   go_wp2
   go_ret
   exact⟨rfl,HO.out.setS _⟩
  rw[if_neg hb] at hr
  obtain⟨rfl,rfl⟩:=Prod.mk.inj (Option.some.inj hr)
  clear hr
  obtain⟨b0,b1⟩:=eF_ hb
  clear hb
  go_enter Tryd.func31,Tryd.ntmps31
  go_wp2
  go_ret
  exact⟨rfl,HO.out⟩
 rw[if_neg hs] at hr;cases hr


/-! ### impl_typeReader_read: function 16 (walked by hand) -/
/-! The reader of types: the pure function and the walk. -/
def findK (r:ByteArray):Nat→Int→Option Int
 |0,_=>none
 |n+1,k=>if k≤21 then (impl_kindWord.f k).bind fun x=>if x.toList=r.toList then some k else findK r n (k+1) else some k
def kidsF (f:ByteArray→List S33→Option (Bool × ByteArray × List S33)):Nat→ByteArray→List S33→Option (Bool × ByteArray × List S33)
 |0,_,_=>none
 |m+1,s,l=>(f s l).bind fun x=>if x.1=true then (signF x.2.1 62).bind fun y=>if y.1=true then some (true,y.2,x.2.2) else (signF y.2 44).bind fun z=>if z.1=true then kidsF f m z.2 x.2.2 else some (false,z.2,x.2.2) else some (false,x.2)
def readF:Nat→ByteArray→List S33→Int→Int→Option (Bool × ByteArray × List S33)
 |0,_,_,_,_=>none
 |n+1,s,l,p,d=>(wordF s).bind fun a=>(findK a.1 23 1).bind fun k=>if 21<k then some (false,a.2,l) else if 8<d then some (false,a.2,l) else if l.length=40 then some (false,a.2,l) else if l.length<40 then
   (signF a.2 60).bind fun y=>if y.1=true then (impl_counted.f k).bind fun c=>if c=true then
     (wordF y.2).bind fun u=>(strconv_Atoi.f u.1).bind fun m=>if m.2=none then (signF u.2 62).bind fun v=>some (v.1,v.2,l++[(⟨k,m.1,p⟩:S33)]) else none
    else kidsF (fun s' l'=>readF n s' l' (l.length:Int) (d+1)) 64 y.2 (l++[(⟨k,0,p⟩:S33)])
   else some (true,y.2,l++[(⟨k,0,p⟩:S33)])
  else none
theorem set_last {α:Type} (l:List α) (x y:α):(l++[x]).set l.length y=l++[y]:=by simp
theorem atoi_ok (a0:ByteArray) (m:Int) (w:World) (h:strconv_Atoi.f a0=some (m,none)):
  Calls Tryd.prog 32 #[.string a0] w fun e w'=>e=.returned (.tuple #[.int .i64 m,.nilIface])∧Below w.heap.size w w':=strconv_Atoi.calls a0 m none w h
set_option maxHeartbeats 16000000 in
theorem read_any (w0:World) (n:Nat):∀ (w:World) (g:Nat) (s:ByteArray) (l:List S33) (p d:Int) (b:Bool) (s':ByteArray) (l':List S33),0≤d→RdE w0 w g s l→readF n s l p d=some (b,s',l')→
  Calls Tryd.prog 16 #[.pointer (some ⟨g,0,none⟩),.int .i64 p,.int .i64 d] w fun e w'=>e=.returned (.bool b)∧RdE w0 w' g s' l':=by
 induction n with
 |zero=>intro w g s l p d b s' l' _ _ h;cases h
 |succ n ih=>
  intro w g s l p d b s' l' hd hR h
  obtain⟨⟨r,s1⟩,hw,h⟩:=Option.bind_eq_some_iff.1 h
  obtain⟨A,c,hR⟩:=hR
  have HO:=A_ hR
  have HWD:=A_ hw
  clear hR hw
  obtain⟨kk,hk,h⟩:=Option.bind_eq_some_iff.1 h
  have HK:=A_ hk
  have H:=A_ h
  clear hk h
  have c0:=HO.out.cell0
  have c1:=HO.out.cell1
  go_enter Tryd.func16,Tryd.ntmps16
  go_wp2_with (first|(go_at_call 30;go_loud (refine(word_any w0 _ g _ _ _ _ _ _ HO.out HWD.out).mono ?_;rintro e w5 ⟨rfl,hb⟩;have m0:=A_ hb;clear HO c0 c1 hb;have HO:=m0;clear m0;have c0:=HO.out.cell0;have c1:=HO.out.cell1)))
  go_loopg [8] 23 (fun kq v8 w'=>∃ k:Int,v8=.int .i64 k∧1≤k∧k+kq=24∧Aside0 (findK r kq k=some kk)∧Aside0 (Rd w0 w' g s1 l A c))
  case atStart=>exact⟨1,rfl,by omega,by omega,HK,HO⟩
  case round=>
   clear HO c0 c1 HK
   obtain⟨k,rfl,hk1,hkq,HK,HO⟩:=hrel
   cases gk with
   |zero=>cases HK.out
   |succ gk=>
    have h0:=HK.out
    clear HK
    unfold findK at h0
    have c0:=HO.out.cell0
    have c1:=HO.out.cell1
    refine ic_ (k≤21) (fun hk21=>?phk21) (fun hk21=>?nhk21)
    case' phk21=>
     rw[if_pos hk21] at h0
     obtain⟨x,hx,h0⟩:=Option.bind_eq_some_iff.1 h0
     have HX:=A_ hx
     clear hx
     by_cases hxr:x.toList=r.toList
     case neg=>
      rw[if_neg hxr] at h0
      have HK:=A_ h0
      clear h0
      have b21:=decide_eq_true hk21
      obtain⟨e0,e1⟩:=eF_ hxr
      go_wp2_with (first|(go_at_call 21;go_loud (refine(impl_kindWord.calls _ _ _ HX.out).mono ?_;rintro e w5 ⟨rfl,hb⟩;have m0:=A_ (HO.out.below hb);clear HO c0 c1 hb;have HO:=m0;clear m0;have c0:=HO.out.cell0;have c1:=HO.out.cell1)))
      go_roundg gk
      case measure=>omega
      case rel=>exact⟨k+1,by go_num,by omega,by omega,HK,HO⟩
     rw[if_pos hxr] at h0
     obtain rfl:=Option.some.inj h0
     obtain⟨e0,e1⟩:=eT_ hxr
     clear h0
     have b21:=decide_eq_true hk21
     have hh:¬(21:Int)<k:=by omega
     have b22:=decide_eq_false hh
     have h1:=H.out
     clear H
     rw[if_neg hh] at h1
     refine ic_ (8<d) (fun h8=>?ph8) (fun h8=>?nh8)
     case' ph8=>
      rw[if_pos h8] at h1
      obtain⟨rfl,h2⟩:=Prod.mk.inj (Option.some.inj h1)
      obtain⟨rfl,rfl⟩:=Prod.mk.inj h2
      clear h1 h2
      have b8:=decide_eq_true h8
     case' nh8=>
      rw[if_neg h8] at h1
      have b8:=decide_eq_false h8
      by_cases h40:l.length=40
      case neg=>
       rw[if_neg h40] at h1
       by_cases hl:l.length<40
       ·
        rw[if_pos hl] at h1
        obtain⟨e40,_⟩:=eF_ (show ¬(l.length:Int)=40 by omega)
        have HL:=A_ hl
        clear hl h40
        obtain⟨⟨b1,s2⟩,hy,h1⟩:=Option.bind_eq_some_iff.1 h1
        have HY:=A_ hy
        clear hy
        cases b1 with
        |false=>
         rw[if_neg (show ¬(false=true) by decide)] at h1
         obtain⟨rfl,h2⟩:=Prod.mk.inj (Option.some.inj h1)
         obtain⟨rfl,rfl⟩:=Prod.mk.inj h2
         clear h1 h2
         go_wp2_with (first|(go_at_call 21;go_loud (refine(impl_kindWord.calls _ _ _ HX.out).mono ?_;rintro e w5 ⟨rfl,hb⟩;have m0:=A_ (HO.out.below hb);clear HO c0 c1 hb;have HO:=m0;clear m0;have c0:=HO.out.cell0;have c1:=HO.out.cell1))|((with_reducible refine gate_builtin (b:=.append) (xs:=#[.tmp 47,.tmp 51]) rfl ?_);at_builtin;refine Kd.R_append k33 (w0:=w0) w0.heap.size rfl (.tmp 47) (.tmp 51) 23 33 (.agg #[(.int .i64 0),(.int .i64 0),(.int .i64 0)]) 24 rfl Tryd.underlying23 info33 rfl (by decide) (by omega) (.slice A l.length c) l (⟨k,0,p⟩:S33) [.int .i64 k,.int .i64 0,.int .i64 p] (fun _=>True) (fun _=>False) rfl rfl ?aP (fun _ hk=>hk.elim) ?aF ?aO ?aB ?aS ?aL ?_;(case aP=>exact k33_mkM _ _ _ _);(case aB=>exact HO.out.2.1);(case aF=>exact(fun k_ hk=>trivial));(case aO=>exact HO.out.2.2.2);(case aS=>exact HO.out.2.1.size);(case aL=>(have h40:=HL.out;omega));intro v2 w2 ho hb hg hat;obtain⟨hbk,A',c',rfl,hO'⟩:=HO.out.app ho hb hg;have c1:=(blk_cell hbk 1).trans rfl;have f1:=blk_frozen hbk 1;have m0:=A_ hO';have n0:=(blk_cell hbk 0).trans rfl;clear ho hb hg hat HO hbk hO' c0;have c0:=n0;clear n0;have HO:=m0;clear m0)|(go_at_call 31;go_loud (refine(sign_any w0 _ g _ _ _ _ _ _ _ HO.out HY.out).mono ?_;rintro e w5 ⟨rfl,hb⟩;have m0:=A_ hb;clear HO c0 c1 hb;have HO:=m0;clear m0;have c0:=HO.out.cell0;have c1:=HO.out.cell1)))
         go_ret
         exact⟨rfl,_,_,HO.out⟩
        |true=>
         rw[if_pos (show true=true from rfl)] at h1
         obtain⟨cc,hcc,h1⟩:=Option.bind_eq_some_iff.1 h1
         have HC:=A_ hcc
         have HLN:Aside0 ((l++[(⟨k,0,p⟩:S33)]).length=l.length+1):=⟨by rw[List.length_append,List.length_singleton]⟩
         clear hcc
         cases cc with
         |true=>
          rw[if_pos (show true=true from rfl)] at h1
          obtain⟨⟨r2,s3⟩,hu,h1⟩:=Option.bind_eq_some_iff.1 h1
          obtain⟨⟨m,e⟩,hm,h1⟩:=Option.bind_eq_some_iff.1 h1
          by_cases he:e=none
          ·
           subst he
           rw[if_pos (show none=none from rfl)] at h1
           obtain⟨⟨b2,s4⟩,hv,h1⟩:=Option.bind_eq_some_iff.1 h1
           obtain⟨h1,h2⟩:=Prod.mk.inj (Option.some.inj h1)
           subst h1
           obtain⟨rfl,rfl⟩:=Prod.mk.inj h2
           clear h2
           have HU:=A_ hu
           have HM:=A_ hm
           have HV:=A_ hv
           clear hu hm hv
           have q0:(0:Int)≤(l.length:Int):=by omega
           have q1:(l.length:Int)<((l.length+1:Nat):Int):=by omega
           have q2:l.length<l.length+1:=by omega
           go_wp2_with (first|(go_at_call 21;go_loud (refine(impl_kindWord.calls _ _ _ HX.out).mono ?_;rintro e w5 ⟨rfl,hb⟩;have m0:=A_ (HO.out.below hb);clear HO c0 c1 hb;have HO:=m0;clear m0;have c0:=HO.out.cell0;have c1:=HO.out.cell1))|((with_reducible refine gate_builtin (b:=.append) (xs:=#[.tmp 47,.tmp 51]) rfl ?_);at_builtin;refine Kd.R_append k33 (w0:=w0) w0.heap.size rfl (.tmp 47) (.tmp 51) 23 33 (.agg #[(.int .i64 0),(.int .i64 0),(.int .i64 0)]) 24 rfl Tryd.underlying23 info33 rfl (by decide) (by omega) (.slice A l.length c) l (⟨k,0,p⟩:S33) [.int .i64 k,.int .i64 0,.int .i64 p] (fun _=>True) (fun _=>False) rfl rfl ?aP (fun _ hk=>hk.elim) ?aF ?aO ?aB ?aS ?aL ?_;(case aP=>exact k33_mkM _ _ _ _);(case aB=>exact HO.out.2.1);(case aF=>exact(fun k_ hk=>trivial));(case aO=>exact HO.out.2.2.2);(case aS=>exact HO.out.2.1.size);(case aL=>(have h40:=HL.out;omega));intro v2 w2 ho hb hg hat;obtain⟨hbk,A',c',rfl,hO'⟩:=HO.out.app ho hb hg;have c1:=(blk_cell hbk 1).trans rfl;have f1:=blk_frozen hbk 1;have m0:=A_ hO';have n0:=(blk_cell hbk 0).trans rfl;clear ho hb hg hat HO hbk hO' c0;have c0:=n0;clear n0;have HO:=m0;clear m0)|(go_at_call 31;go_loud (refine(sign_any w0 _ g _ _ _ _ _ _ _ HO.out HY.out).mono ?_;rintro e w5 ⟨rfl,hb⟩;have m0:=A_ hb;clear HO c0 c1 hb;have HO:=m0;clear m0;have c0:=HO.out.cell0;have c1:=HO.out.cell1;(try rw[HLN.out] at c1)))|(go_at_call 22;go_loud (refine(impl_counted.calls _ _ _ HC.out).mono ?_;rintro e w5 ⟨rfl,hb⟩;have m0:=A_ (HO.out.below hb.below);clear HO c0 c1 hb;have HO:=m0;clear m0;have c0:=HO.out.cell0;have c1:=HO.out.cell1;(try rw[HLN.out] at c1)))|(go_at_call 30;go_loud (refine(word_any w0 _ g _ _ _ _ _ _ HO.out HU.out).mono ?_;rintro e w5 ⟨rfl,hb⟩;have m0:=A_ hb;clear HO c0 c1 hb;have HO:=m0;clear m0;have c0:=HO.out.cell0;have c1:=HO.out.cell1;(try rw[HLN.out] at c1)))|(go_at_call 32;go_loud (refine(atoi_ok _ _ _ HM.out).mono ?_;rintro e w5 ⟨rfl,hb⟩;have m0:=A_ (HO.out.below hb);clear HO c0 c1 hb;have HO:=m0;clear m0;have c0:=HO.out.cell0;have c1:=HO.out.cell1;(try rw[HLN.out] at c1);obtain⟨gB,eA,hgB,hgn,n1,fz,HO2⟩:=HO.out.num l.length ⟨k,0,p⟩ (by rw[List.getElem?_append_right (Nat.le_refl _),Nat.sub_self];rfl) m;subst eA;rw[set_last] at HO2;have HO3:=A_ HO2;clear HO HO2;have HO:=HO3;clear HO3))|(go_at_call 31;go_loud (refine(sign_any w0 _ g _ _ _ _ _ _ _ HO.out HV.out).mono ?_;rintro e w5 ⟨rfl,hb⟩;have m0:=A_ hb;clear HO c0 c1 hb;have HO:=m0;clear m0;have c0:=HO.out.cell0;have c1:=HO.out.cell1)))
           go_ret
           exact⟨rfl,_,_,HO.out⟩
          rw[if_neg he] at h1;cases h1
         |false=>
          rw[if_neg (show ¬(false=true) by decide)] at h1
          have h2:=A_ h1
          clear h1
          go_wp2_with (first|(go_at_call 21;go_loud (refine(impl_kindWord.calls _ _ _ HX.out).mono ?_;rintro e w5 ⟨rfl,hb⟩;have m0:=A_ (HO.out.below hb);clear HO c0 c1 hb;have HO:=m0;clear m0;have c0:=HO.out.cell0;have c1:=HO.out.cell1))|((with_reducible refine gate_builtin (b:=.append) (xs:=#[.tmp 47,.tmp 51]) rfl ?_);at_builtin;refine Kd.R_append k33 (w0:=w0) w0.heap.size rfl (.tmp 47) (.tmp 51) 23 33 (.agg #[(.int .i64 0),(.int .i64 0),(.int .i64 0)]) 24 rfl Tryd.underlying23 info33 rfl (by decide) (by omega) (.slice A l.length c) l (⟨k,0,p⟩:S33) [.int .i64 k,.int .i64 0,.int .i64 p] (fun _=>True) (fun _=>False) rfl rfl ?aP (fun _ hk=>hk.elim) ?aF ?aO ?aB ?aS ?aL ?_;(case aP=>exact k33_mkM _ _ _ _);(case aB=>exact HO.out.2.1);(case aF=>exact(fun k_ hk=>trivial));(case aO=>exact HO.out.2.2.2);(case aS=>exact HO.out.2.1.size);(case aL=>(have h40:=HL.out;omega));intro v2 w2 ho hb hg hat;obtain⟨hbk,A',c',rfl,hO'⟩:=HO.out.app ho hb hg;have c1:=(blk_cell hbk 1).trans rfl;have f1:=blk_frozen hbk 1;have m0:=A_ hO';have n0:=(blk_cell hbk 0).trans rfl;clear ho hb hg hat HO hbk hO' c0;have c0:=n0;clear n0;have HO:=m0;clear m0)|(go_at_call 31;go_loud (refine(sign_any w0 _ g _ _ _ _ _ _ _ HO.out HY.out).mono ?_;rintro e w5 ⟨rfl,hb⟩;have m0:=A_ hb;clear HO c0 c1 hb;have HO:=m0;clear m0;have c0:=HO.out.cell0;have c1:=HO.out.cell1;(try rw[HLN.out] at c1)))|(go_at_call 22;go_loud (refine(impl_counted.calls _ _ _ HC.out).mono ?_;rintro e w5 ⟨rfl,hb⟩;have m0:=A_ (HO.out.below hb.below);clear HO c0 c1 hb;have HO:=m0;clear m0;have c0:=HO.out.cell0;have c1:=HO.out.cell1;(try rw[HLN.out] at c1))))
          go_loopg [] 64 (fun kq w'=>∃ st lt At ct,Aside0 (kidsF (fun s' l'=>readF n s' l' (l.length:Int) (d+1)) kq st lt=some (b,s',l'))∧Aside0 (Rd w0 w' g st lt At ct))
          case atStart=>exact⟨_,_,_,_,h2,HO⟩
          case round=>
           clear HO c0 c1 f1 h2
           obtain⟨st,lt,At,ct,h2,HO⟩:=hrel
           cases gk with
           |zero=>cases h2.out
           |succ gk=>
            obtain⟨⟨b1,s3,l3⟩,hr,h1⟩:=Option.bind_eq_some_iff.1 h2.out
            have HR:=A_ hr
            clear hr h2
            cases b1 with
            |false=>
             rw[if_neg (show ¬(false=true) by decide)] at h1
             obtain⟨rfl,h3⟩:=Prod.mk.inj (Option.some.inj h1)
             obtain⟨rfl,rfl⟩:=Prod.mk.inj h3
             clear h1 h3
             go_wp2_with (first|(go_at_call 16;go_loud (refine(ih _ g st lt (l.length:Int) (d+1) _ _ _ (by omega) ⟨_,_,HO.out⟩ HR.out).mono ?_;rintro e w5 ⟨rfl,A5,c5,hb⟩;have m0:=A_ hb;clear HO hb;have HO:=m0;clear m0)))
             go_ret
             exact⟨rfl,_,_,HO.out⟩
            |true=>
             rw[if_pos (show true=true from rfl)] at h1
             obtain⟨⟨b2,s4⟩,hv,h1⟩:=Option.bind_eq_some_iff.1 h1
             have HV:=A_ hv
             clear hv
             cases b2 with
             |true=>
              rw[if_pos (show true=true from rfl)] at h1
              obtain⟨rfl,h3⟩:=Prod.mk.inj (Option.some.inj h1)
              obtain⟨rfl,rfl⟩:=Prod.mk.inj h3
              clear h1 h3
              go_wp2_with (first|(go_at_call 16;go_loud (refine(ih _ g st lt (l.length:Int) (d+1) _ _ _ (by omega) ⟨_,_,HO.out⟩ HR.out).mono ?_;rintro e w5 ⟨rfl,A5,c5,hb⟩;have m0:=A_ hb;clear HO hb;have HO:=m0;clear m0))|(go_at_call 31;go_loud (refine(sign_any w0 _ g _ _ _ _ _ _ _ HO.out HV.out).mono ?_;rintro e w5 ⟨rfl,hb⟩;have m0:=A_ hb;clear HO hb;have HO:=m0;clear m0)))
              go_ret
              exact⟨rfl,_,_,HO.out⟩
             |false=>
              rw[if_neg (show ¬(false=true) by decide)] at h1
              obtain⟨⟨b3,s5⟩,hz,h1⟩:=Option.bind_eq_some_iff.1 h1
              have HZ:=A_ hz
              clear hz
              cases b3 with
              |false=>
               rw[if_neg (show ¬(false=true) by decide)] at h1
               obtain⟨rfl,h3⟩:=Prod.mk.inj (Option.some.inj h1)
               obtain⟨rfl,rfl⟩:=Prod.mk.inj h3
               clear h1 h3
               go_wp2_with (first|(go_at_call 16;go_loud (refine(ih _ g st lt (l.length:Int) (d+1) _ _ _ (by omega) ⟨_,_,HO.out⟩ HR.out).mono ?_;rintro e w5 ⟨rfl,A5,c5,hb⟩;have m0:=A_ hb;clear HO hb;have HO:=m0;clear m0))|(go_at_call 31;go_loud (refine(sign_any w0 _ g _ _ _ _ _ _ _ HO.out HV.out).mono ?_;rintro e w5 ⟨rfl,hb⟩;have m0:=A_ hb;clear HO hb;have HO:=m0;clear m0))|(go_at_call 31;go_loud (refine(sign_any w0 _ g _ _ _ _ _ _ _ HO.out HZ.out).mono ?_;rintro e w5 ⟨rfl,hb⟩;have m0:=A_ hb;clear HO hb;have HO:=m0;clear m0)))
               go_ret
               exact⟨rfl,_,_,HO.out⟩
              |true=>
               rw[if_pos (show true=true from rfl)] at h1
               have h2:=A_ h1
               clear h1
               go_wp2_with (first|(go_at_call 16;go_loud (refine(ih _ g st lt (l.length:Int) (d+1) _ _ _ (by omega) ⟨_,_,HO.out⟩ HR.out).mono ?_;rintro e w5 ⟨rfl,A5,c5,hb⟩;have m0:=A_ hb;clear HO hb;have HO:=m0;clear m0))|(go_at_call 31;go_loud (refine(sign_any w0 _ g _ _ _ _ _ _ _ HO.out HV.out).mono ?_;rintro e w5 ⟨rfl,hb⟩;have m0:=A_ hb;clear HO hb;have HO:=m0;clear m0))|(go_at_call 31;go_loud (refine(sign_any w0 _ g _ _ _ _ _ _ _ HO.out HZ.out).mono ?_;rintro e w5 ⟨rfl,hb⟩;have m0:=A_ hb;clear HO hb;have HO:=m0;clear m0)))
               go_roundg gk
               case measure=>omega
               case rel=>exact⟨_,_,_,_,h2,HO⟩
       rw[if_neg hl] at h1;cases h1
      rw[if_pos h40] at h1
      obtain⟨rfl,h2⟩:=Prod.mk.inj (Option.some.inj h1)
      obtain⟨rfl,rfl⟩:=Prod.mk.inj h2
      clear h1 h2
      obtain⟨e40,_⟩:=eT_ (show(l.length:Int)=40 by omega)
    case' nhk21=>
     rw[if_neg hk21] at h0
     obtain rfl:=Option.some.inj h0
     clear h0
     have hh:(21:Int)<k:=by omega
     have h1:=H.out
     rw[if_pos hh] at h1
     obtain⟨rfl,h2⟩:=Prod.mk.inj (Option.some.inj h1)
     obtain⟨rfl,rfl⟩:=Prod.mk.inj h2
     clear h1
     have b21:=decide_eq_false hk21
     have b22:=decide_eq_true hh
    all_goals
     go_wp2_with (first|(go_at_call 21;go_loud (refine(impl_kindWord.calls _ _ _ HX.out).mono ?_;rintro e w5 ⟨rfl,hb⟩;have m0:=A_ (HO.out.below hb);clear HO c0 c1 hb;have HO:=m0;clear m0;have c0:=HO.out.cell0;have c1:=HO.out.cell1)))
     go_ret
     exact⟨rfl,_,_,HO.out⟩
end Go.Proofs.YtoeenmajdidfoaaDoor.Q

