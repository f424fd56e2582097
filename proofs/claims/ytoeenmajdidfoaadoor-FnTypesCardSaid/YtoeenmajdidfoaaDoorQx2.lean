-- Written by a program of this session; it walks the functions that the law reaches.
import Derived.Test.YtoeenmajdidfoaaDoorQx0
import Derived.Test.YtoeenmajdidfoaaDoorQx1
namespace Go.Proofs.YtoeenmajdidfoaaDoor.Q
open Go.RowKit Go.Proofs.YtoeenmajdidfoaaDoorW.PrintWords Go.Proofs.YtoeenmajdidfoaaDoorW.PrintLast Go.Proofs.YtoeenmajdidfoaaDoorW.PrintMore
attribute [local go_sem] max2_int min2_int max_two min_two max_three min_three max_four min_four   -- for this text's walks alone
set_option linter.unusedVariables false
set_option linter.unusedSimpArgs false
set_option maxRecDepth 100000
set_option maxHeartbeats 8000000

/-! ### spec_l1Cur_typeOf: function 35 -/
mutual
def spec_l1Cur_typeOf.j0:Nat→Int→Bool→Bool→List Int→Int→Int→Int→Int→Option (Int × Int × (List (S43)) × Int × Int)
 |0,_,_,_,_,_,_,_,_=>none
 |k+1,x1,x2,x22,x1000,x1001,x1002,x116000,x116001=>if x22=true then ((spec_l1Cur_pick.f x1000 x1001 x1002 7).bind fun bt119=>(spec_l1Cur_typeOf.j1 k x1 x2 x1000 bt119.2.1 bt119.2.2 (wrap64 (13+bt119.1)) x116001)) else (spec_l1Cur_typeOf.j1 k x1 x2 x1000 x1001 x1002 x116000 x116001)
def spec_l1Cur_typeOf.j1:Nat→Int→Bool→List Int→Int→Int→Int→Int→Option (Int × Int × (List (S43)) × Int × Int)
 |0,_,_,_,_,_,_,_=>none
 |k+1,x1,x2,x1000,x1001,x1002,x116000,x116001=>if x2=true then ((spec_l1Cur_one.f x1000 x1001 x1002 8).bind fun bt122=>(spec_l1Cur_typeOf.j2 k x1 x2 bt122.1 x1000 bt122.2.1 bt122.2.2 x116000 x116001)) else (spec_l1Cur_typeOf.j2 k x1 x2 false x1000 x1001 x1002 x116000 x116001)
def spec_l1Cur_typeOf.j2:Nat→Int→Bool→Bool→List Int→Int→Int→Int→Int→Option (Int × Int × (List (S43)) × Int × Int)
 |0,_,_,_,_,_,_,_,_=>none
 |k+1,x1,x2,x31,x1000,x1001,x1002,x116000,x116001=>if x31=true then ((spec_l1Cur_pick.f x1000 x1001 x1002 2).bind fun bt125=>(spec_l1Cur_typeOf.j3 k x1 x2 x1000 bt125.2.1 bt125.2.2 (wrap64 (20+bt125.1)) x116001)) else (spec_l1Cur_typeOf.j3 k x1 x2 x1000 x1001 x1002 x116000 x116001)
def spec_l1Cur_typeOf.j3:Nat→Int→Bool→List Int→Int→Int→Int→Int→Option (Int × Int × (List (S43)) × Int × Int)
 |0,_,_,_,_,_,_,_=>none
 |k+1,x1,x2,x1000,x1001,x1002,x116000,x116001=>(spec_l11Shape.f k x116000).bind fun bt128=>(if bt128.2.2.2 > 0 then ((spec_l1Cur_pick.f x1000 x1001 x1002 (wrap64 ((wrap64 (bt128.2.2.2 - bt128.2.2.1))+1))).bind fun bt132=>(if x116000=19 then ((spec_l1Cur_one.f x1000 bt132.2.1 bt132.2.2 4).bind fun bt135=>(if bt135.1=true then (spec_l1Cur_typeOf.j4 k x1 x2 bt128.1 bt128.2.1 x1000 bt135.2.1 bt135.2.2 x116000 (wrap64 (bt128.2.2.1+bt132.1))) else ((spec_l1Cur_pick.f x1000 bt135.2.1 bt135.2.2 9).bind fun bt138=>(spec_l1Cur_typeOf.j4 k x1 x2 bt128.1 bt128.2.1 x1000 bt138.2.1 bt138.2.2 x116000 (wrap64 (1+bt138.1)))))) else (spec_l1Cur_typeOf.j4 k x1 x2 bt128.1 bt128.2.1 x1000 bt132.2.1 bt132.2.2 x116000 (wrap64 (bt128.2.2.1+bt132.1))))) else (spec_l1Cur_typeOf.j4 k x1 x2 bt128.1 bt128.2.1 x1000 x1001 x1002 x116000 x116001))
def spec_l1Cur_typeOf.j4:Nat→Int→Bool→Int→Int→List Int→Int→Int→Int→Int→Option (Int × Int × (List (S43)) × Int × Int)
 |0,_,_,_,_,_,_,_,_,_=>none
 |k+1,x1,x2,x8,x9,x1000,x1001,x1002,x116000,x116001=>if x9 > x8 then ((spec_l1Cur_pick.f x1000 x1001 x1002 3).bind fun bt141=>(spec_l1Cur_typeOf.j5 k x1 x2 (wrap64 (x8+bt141.1)) x1000 bt141.2.1 bt141.2.2 x116000 x116001)) else (spec_l1Cur_typeOf.j5 k x1 x2 x8 x1000 x1001 x1002 x116000 x116001)
def spec_l1Cur_typeOf.j5:Nat→Int→Bool→Int→List Int→Int→Int→Int→Int→Option (Int × Int × (List (S43)) × Int × Int)
 |0,_,_,_,_,_,_,_,_=>none
 |k+1,x1,x2,x12,x1000,x1001,x1002,x116000,x116001=>spec_l1Cur_typeOf.l0 k x1 x2 x12 x1000 x1001 x1002 x116000 x116001 ([]:List (S43))
def spec_l1Cur_typeOf.l0:Nat→Int→Bool→Int→List Int→Int→Int→Int→Int→List (S43)→Option (Int × Int × (List (S43)) × Int × Int)
 |0,_,_,_,_,_,_,_,_,_=>none
 |k+1,x1,x2,x12,x1000,x1001,x1002,x116000,x116001,x116002=>if x12 > 0 then ((spec_l1Cur_typeOf.f k x1000 x1001 x1002 (wrap64 (x1 - 1)) x2).bind fun bt144=>(if x116002.length<3518437208883 then (spec_l1Cur_typeOf.l0 k x1 x2 (wrap64 (x12 - 1)) x1000 bt144.2.2.2.1 bt144.2.2.2.2 x116000 x116001 (x116002++[(⟨bt144.1,bt144.2.1,bt144.2.2.1⟩:S43)])) else (none))) else (some (x116000,x116001,x116002,x1001,x1002))
def spec_l1Cur_typeOf.f:Nat→List Int→Int→Int→Int→Bool→Option (Int × Int × (List (S43)) × Int × Int)
 |0,_,_,_,_,_=>none
 |k+1,s0_0,s0_1,s0_2,a1,a2=>(spec_l1Cur_pick.f s0_0 s0_1 s0_2 12).bind fun bt112=>(if a1 > 0 then ((spec_l1Cur_one.f s0_0 bt112.2.1 bt112.2.2 2).bind fun bt116=>(spec_l1Cur_typeOf.j0 k a1 a2 bt116.1 s0_0 bt116.2.1 bt116.2.2 (wrap64 (1+bt112.1)) 0)) else (spec_l1Cur_typeOf.j0 k a1 a2 false s0_0 bt112.2.1 bt112.2.2 (wrap64 (1+bt112.1)) 0))
end
def spec_l1Cur_typeOf.T16:Bool × List (List Nat × List Nat):=(true,[([],[]),([0],[0]),([],[]),([],[]),([3],[3]),([],[]),([2,4,5],[2,4,5]),([6],[6]),([1,7,6],[1,7]),([0,1,2,3,4,5,6,7,8],[]),([9,8,8,0,1,2,3,4,5,6,7,8],[8,9])])
def spec_l1Cur_typeOf.B16:List Nat:=[0,1,0,0,8,0,60,124,255,511,1023]
theorem spec_l1Cur_typeOf.tab16:rtab .any (opsOf Tryd.f35 16)=spec_l1Cur_typeOf.T16:=by kernel_rfl
theorem spec_l1Cur_typeOf.bits16:waitsOk spec_l1Cur_typeOf.T16.2 spec_l1Cur_typeOf.B16=true:=by kernel_rfl
theorem spec_l1Cur_typeOf.calls (k:Nat):∀ (g:Nat) (s0_0:List Int) (s0_1:Int) (s0_2:Int) (a1:Int) (a2:Bool) (r1:Int) (r2:Int) (r3:List (S43)) (r4:Int) (r5:Int) (w0 w:World) (hI:IsS52 w0 w g s0_0 s0_1 s0_2) (hB:Below w0.heap.size w0 w) (h:spec_l1Cur_typeOf.f k s0_0 s0_1 s0_2 a1 a2=some (r1,r2,r3,r4,r5)),
  Calls Tryd.prog 35 #[.pointer (some ⟨g,0,none⟩),.int .i64 a1,.bool a2] w fun e w'=>∃ v2_:Value,e=.returned (.agg #[.int .i64 r1,.int .i64 r2,v2_])∧Kd.R k43 43 w' w.heap.size (fun _=>True) v2_ r3∧IsS52 w0 w' g s0_0 r4 r5∧Below w0.heap.size w0 w'∧KeepBut w w' g none:=by
 induction k using Nat.strongRecOn with
 |_ k ih=>
 intro g s0_0 s0_1 s0_2 a1 a2 r1 r2 r3 r4 r5 w0 w hI hB h
 cases k with
 |zero=>exact absurd h (by simp[spec_l1Cur_typeOf.f])
 |succ k=>
 simp only[spec_l1Cur_typeOf.f] at h
 have hu43:=Tryd.underlying43
 have HI0:=A_ hI
 have HK:=A_ (KeepBut.refl w g none)
 have HL:=A_ hB.size
 clear hI
 have HW0:=A_ hB.size
 have HB:=A_ hB
 clear hB
 have H:((spec_l1Cur_pick.f s0_0 s0_1 s0_2 12).bind fun bt112=>(if a1 > 0 then ((spec_l1Cur_one.f s0_0 bt112.2.1 bt112.2.2 2).bind fun bt116=>(spec_l1Cur_typeOf.j0 k a1 a2 bt116.1 s0_0 bt116.2.1 bt116.2.2 (wrap64 (1+bt112.1)) 0)) else (spec_l1Cur_typeOf.j0 k a1 a2 false s0_0 bt112.2.1 bt112.2.2 (wrap64 (1+bt112.1)) 0)))=some (r1,r2,r3,r4,r5):=h
 clear h
 replace H:=Option.bind_eq_some_iff.mp H
 obtain⟨⟨t112,t113,t114⟩,A40,H⟩:=H
 try dsimp only at H
 have A4:=A_ A40
 clear A40
 have HC5:=A_ H
 clear H
 go_enter Tryd.func35,Tryd.ntmps35
 go_upto_region 2 with (first|((with_reducible refine gd_ 6 rfl ?_);refine bx_ #[.int .i64 0,.int .i64 0,.slice none 0 0] 43 ?_;intro gb111 hg w6 hbox hb;have BK111:=A_ hbox;have GW111:=A_ ((by rw[hg];exact(keep_size (w:=w) (g:=g) (row:=none) (y2 HK.out)):w.heap.size≤gb111));have GE111:=A_ ((Nat.le_trans HW0.out (by rw[hg];exact(keep_size (w:=w) (g:=g) (row:=none) (y2 HK.out)):w.heap.size≤gb111):w0.heap.size≤gb111));have NB0_111:=A_ ((by rw[hg];exact Nat.ne_of_lt (IsS52.lt (show IsS52 w0 _ g s0_0 s0_1 s0_2 from y1 HI0.out)):g≠gb111));have NB111_0:=A_ ((by rw[hg];exact Nat.ne_of_gt (IsS52.lt (show IsS52 w0 _ g s0_0 s0_1 s0_2 from y1 HI0.out)):gb111≠g));replace HI0:=A_ (IsS52.below (y1 HI0.out) hb);replace HK:=A_ (KeepBut.trans (y2 HK.out) (KeepBut.of_below hb g none) (.inl rfl));replace HB:=A_ (below_step (y0 HB.out) hb);clear hb hbox hg)|((with_reducible refine gc_ 36 rfl ?_);refine goesL_ (some 14) rfl rfl Tryd.func36 (by kernel_rfl) rfl #[.pointer (some ⟨g,0,none⟩),.int .i64 12] rfl ar ?_;(with_reducible refine(spec_l1Cur_pick.calls g s0_0 s0_1 s0_2 12 t112 t113 t114 w0 _ ?side1 ?side2 A4.out).mono ?_);(case side1=>repeat (first|(with_reducible first|exact HI0.out|apply IsS52.alloc|apply IsS52.drewN|apply IsS52.drew|apply IsS52.set_1|apply IsS52.set_2|refine IsS52.far ?_ NB0_111.out _)|exact HI0.out));(case side2=>repeat (first|(with_reducible first|exact HB.out|apply below_alloc|apply pw_below_drewN|apply below_drew1|refine below_set ?_ (IsS52.ge HI0.out)|refine below_set ?_ GE111.out)|exact HB.out));rintro e w7 ⟨rfl,hi,hb,hk⟩;refine⟨_,rfl,?_⟩;replace BK111:=A_ (KeepBut.blk hk (g':=gb111) (o:=.cells #[.int .i64 0,.int .i64 0,.slice none 0 0] 43 (0,0)) (bk BK111.out) NB111_0.out (by simp));replace HK:=A_ (KeepBut.trans (y3 HK.out) hk (.inl rfl));replace HB:=A_ (hb);replace HI0:=A_ (hi);(try clear hb);(try clear hb2);(try clear hk);(try clear hi))|((with_reducible refine gd_ 7 rfl ?_);refine bx_ #[.int .i64 0,.int .i64 0,.slice none 0 0] 43 ?_;intro gb115 hg w8 hbox hb;have BK115:=A_ hbox;have GW115:=A_ ((by rw[hg];exact(keep_size (w:=w) (g:=g) (row:=none) (y3 HK.out)):w.heap.size≤gb115));have GE115:=A_ ((Nat.le_trans HW0.out (by rw[hg];exact(keep_size (w:=w) (g:=g) (row:=none) (y3 HK.out)):w.heap.size≤gb115):w0.heap.size≤gb115));obtain⟨NB111_115,NB115_111⟩:=nb_ BK111 hg;have NB0_115:=A_ ((by rw[hg];exact Nat.ne_of_lt (IsS52.lt (show IsS52 w0 _ g s0_0 t113 t114 from y4 HI0.out)):g≠gb115));have NB115_0:=A_ ((by rw[hg];exact Nat.ne_of_gt (IsS52.lt (show IsS52 w0 _ g s0_0 t113 t114 from y4 HI0.out)):gb115≠g));replace HI0:=A_ (IsS52.below (y4 HI0.out) hb);replace BK111:=kb_ BK111 hb;replace HK:=A_ (KeepBut.trans (y3 HK.out) (KeepBut.of_below hb g none) (.inl rfl));replace HB:=A_ (below_step (y5 HB.out) hb);clear hb hbox hg;have hnb9:=NB115_111.out;have hnc9:=NB111_115.out;have hnb10:=NB115_0.out;have hnc10:=NB0_115.out;obtain⟨hcz11_0,hcz11_1,hcz11_2⟩:=cs3_ BK115.out;obtain⟨hfz11_0,hfz11_1,hfz11_2⟩:=fz3_ BK115.out))
 (try simp only[Act.put,List.setIfInBounds_toArray,List.set_cons_zero,List.set_cons_succ])
 go_cut [22] (fun v22 wc=>∃ (kq:Nat) (x22_4:Bool) (x1001_4:Int) (x1002_4:Int),v22=.bool x22_4∧Aside0 (spec_l1Cur_typeOf.j0 kq a1 a2 x22_4 s0_0 x1001_4 x1002_4 (wrap64 (1+t112)) 0=some (r1,r2,r3,r4,r5))∧Aside0 (kq≤k)∧Aside0 (wc.heap[gb111]? =some (.cells #[.int .i64 0,.int .i64 0,(.slice none 0 0)] 43 (0,0)))∧Aside0 (wc.heap[gb115]? =some (.cells #[.int .i64 (wrap64 (1+t112)),.int .i64 0,(.slice none 0 0)] 43 (0,0)))∧Aside0 (IsS52 w0 wc g s0_0 x1001_4 x1002_4)∧Aside0 (KeepBut w wc g none)∧Aside0 (Below w0.heap.size w0 wc))
 case first=>
  have H:=HC5.out
  clear HC5
  revert H
  refine iL_ (fun c12b0 H=>?_) (fun c12b0 H=>?_)
  ·
   (first|rw[c12b0]|(simp only[i64_w,i32_w];rw[c12b0])|skip)
   replace H:=Option.bind_eq_some_iff.mp H
   obtain⟨⟨t116,t117,t118⟩,A130,H⟩:=H
   try dsimp only at H
   have A13:=A_ A130
   clear A130
   have H':=A_ H
   clear H
   go_wp2_with (first|(go_at_call 37;(with_reducible refine(spec_l1Cur_one.calls g s0_0 t113 t114 2 t116 t117 t118 w0 _ ?side1 ?side2 A13.out).mono ?_);(case side1=>repeat (first|(with_reducible first|exact HI0.out|apply IsS52.alloc|apply IsS52.drewN|apply IsS52.drew|apply IsS52.set_1|apply IsS52.set_2|refine IsS52.far ?_ NB0_111.out _|refine IsS52.far ?_ NB0_115.out _)|exact HI0.out));(case side2=>repeat (first|(with_reducible first|exact HB.out|apply below_alloc|apply pw_below_drewN|apply below_drew1|refine below_set ?_ (IsS52.ge HI0.out)|refine below_set ?_ GE111.out|refine below_set ?_ GE115.out)|exact HB.out));rintro e w14 ⟨rfl,hi,hb,hk⟩;replace BK111:=A_ (KeepBut.blk hk (g':=gb111) (o:=.cells #[.int .i64 0,.int .i64 0,.slice none 0 0] 43 (0,0)) (by refine blk_far ?_ NB111_115.out _;refine blk_far ?_ NB111_115.out _;refine blk_far ?_ NB111_115.out _;(with_reducible repeat (first|refine blk_drewN ?_ _|refine blk_drew ?_|refine blk_alloc ?_ _));exact BK111.out) NB111_0.out (by simp));replace BK115:=A_ (KeepBut.blk hk (g':=gb115) (o:=.cells #[.int .i64 (wrap64 (1+t112)),.int .i64 0,.slice none 0 0] 43 (0,0)) (by refine blk_put (cs:=#[.int .i64 (wrap64 (1+t112)),.int .i64 0,.slice none 0 0]) ?_ 2 _ rfl;refine blk_put (cs:=#[.int .i64 (wrap64 (1+t112)),.int .i64 0,.slice none 0 0]) ?_ 1 _ rfl;refine blk_put (cs:=#[.int .i64 0,.int .i64 0,.slice none 0 0]) ?_ 0 _ rfl;(with_reducible repeat (first|refine blk_drewN ?_ _|refine blk_drew ?_|refine blk_alloc ?_ _));exact BK115.out) NB115_0.out (by simp));replace HK:=A_ (KeepBut.trans (y3 HK.out) hk (.inl rfl));replace HB:=A_ (hb);replace HI0:=A_ (hi);(try clear hb);(try clear hb2);(try clear hk);(try clear hi)))
   go_meet
   case rel=>exact⟨_,(t116),(t117),(t118),rs_,H',⟨by first|omega|exact Nat.le_refl _⟩,⟨bk BK111.out⟩,⟨bk BK115.out⟩,⟨y4 HI0.out⟩,⟨y3 HK.out⟩,⟨y5 HB.out⟩⟩
  (first|rw[c12b0]|(simp only[i64_w,i32_w];rw[c12b0])|skip)
  have H':=A_ H
  clear H
  go_wp2
  go_meet
  case rel=>exact⟨_,(false),(t113),(t114),rs_,H',⟨by first|omega|exact Nat.le_refl _⟩,⟨by refine blk_far ?_ NB111_115.out _;refine blk_far ?_ NB111_115.out _;refine blk_far ?_ NB111_115.out _;(with_reducible repeat (first|refine blk_drewN ?_ _|refine blk_drew ?_|refine blk_alloc ?_ _));exact BK111.out⟩,⟨by refine blk_put (cs:=#[.int .i64 (wrap64 (1+t112)),.int .i64 0,.slice none 0 0]) ?_ 2 _ rfl;refine blk_put (cs:=#[.int .i64 (wrap64 (1+t112)),.int .i64 0,.slice none 0 0]) ?_ 1 _ rfl;refine blk_put (cs:=#[.int .i64 0,.int .i64 0,.slice none 0 0]) ?_ 0 _ rfl;(with_reducible repeat (first|refine blk_drewN ?_ _|refine blk_drew ?_|refine blk_alloc ?_ _));exact BK115.out⟩,⟨y4 HI0.out⟩,⟨y3 HK.out⟩,⟨y5 HB.out⟩⟩
 case rest=>
  clear HC5
  try clear hcz11_0 hcz11_1 hcz11_2 hfz11_0 hfz11_1 hfz11_2
  obtain⟨kq,x22_4,x1001_4,x1002_4,rfl,HA,HJ4,BK111,BK115,HI0,HK,HB⟩:=hcut
  cases kq with
  |zero=>exact absurd HA.out (by simp[spec_l1Cur_typeOf.j0])
  |succ kj4=>
   have H:=HA.out
   clear HA
   simp only[spec_l1Cur_typeOf.j0] at H
   have HC15:=A_ H
   clear H
   go_upto_if 22 with (fail)
   go_cut [] (fun wc=>∃ (kq:Nat) (x1001_14:Int) (x1002_14:Int) (x116000_14:Int),Aside0 (spec_l1Cur_typeOf.j1 kq a1 a2 s0_0 x1001_14 x1002_14 x116000_14 0=some (r1,r2,r3,r4,r5))∧Aside0 (kq≤kj4)∧Aside0 (wc.heap[gb111]? =some (.cells #[.int .i64 0,.int .i64 0,(.slice none 0 0)] 43 (0,0)))∧Aside0 (wc.heap[gb115]? =some (.cells #[.int .i64 x116000_14,.int .i64 0,(.slice none 0 0)] 43 (0,0)))∧Aside0 (IsS52 w0 wc g s0_0 x1001_14 x1002_14)∧Aside0 (KeepBut w wc g none)∧Aside0 (Below w0.heap.size w0 wc))
   case first=>
    have H:=HC15.out
    clear HC15
    revert H
    refine iB_ (fun c16 H=>?_) (fun c16 H=>?_)<;>subst c16
    ·
     replace H:=Option.bind_eq_some_iff.mp H
     obtain⟨⟨t119,t120,t121⟩,A170,H⟩:=H
     try dsimp only at H
     have A17:=A_ A170
     clear A170
     have H':=A_ H
     clear H
     go_wp2_with (first|((with_reducible refine gc_ 36 rfl ?_);refine goesL_ (some 24) rfl rfl Tryd.func36 (by kernel_rfl) rfl #[.pointer (some ⟨g,0,none⟩),.int .i64 7] rfl ar ?_;(with_reducible refine(spec_l1Cur_pick.calls g s0_0 x1001_4 x1002_4 7 t119 t120 t121 w0 _ ?side1 ?side2 A17.out).mono ?_);(case side1=>repeat (first|(with_reducible first|exact HI0.out|apply IsS52.alloc|apply IsS52.drewN|apply IsS52.drew|apply IsS52.set_1|apply IsS52.set_2|refine IsS52.far ?_ NB0_111.out _|refine IsS52.far ?_ NB0_115.out _)|exact HI0.out));(case side2=>repeat (first|(with_reducible first|exact HB.out|apply below_alloc|apply pw_below_drewN|apply below_drew1|refine below_set ?_ (IsS52.ge HI0.out)|refine below_set ?_ GE111.out|refine below_set ?_ GE115.out)|exact HB.out));rintro e w18 ⟨rfl,hi,hb,hk⟩;refine⟨_,rfl,?_⟩;replace BK111:=A_ (KeepBut.blk hk (g':=gb111) (o:=.cells #[.int .i64 0,.int .i64 0,.slice none 0 0] 43 (0,0)) (bk BK111.out) NB111_0.out (by simp));replace BK115:=A_ (KeepBut.blk hk (g':=gb115) (o:=.cells #[.int .i64 (wrap64 (1+t112)),.int .i64 0,.slice none 0 0] 43 (0,0)) (bk BK115.out) NB115_0.out (by simp));replace HK:=A_ (KeepBut.trans (y3 HK.out) hk (.inl rfl));replace HB:=A_ (hb);replace HI0:=A_ (hi);(try clear hb);(try clear hb2);(try clear hk);(try clear hi);have hnb19:=NB115_111.out;have hnc19:=NB111_115.out;have hnb20:=NB115_0.out;have hnc20:=NB0_115.out;obtain⟨hcz21_0,hcz21_1,hcz21_2⟩:=cs3_ BK115.out;obtain⟨hfz21_0,hfz21_1,hfz21_2⟩:=fz3_ BK115.out))
     go_meet
     case rel=>exact⟨_,(t120),(t121),(wrap64 (13+t119)),H',⟨by have:=HJ4.out;first|omega|exact Nat.le_refl _⟩,⟨by refine blk_far ?_ NB111_115.out _;(with_reducible repeat (first|refine blk_drewN ?_ _|refine blk_drew ?_|refine blk_alloc ?_ _));exact BK111.out⟩,⟨by refine blk_put (cs:=#[.int .i64 (wrap64 (1+t112)),.int .i64 0,.slice none 0 0]) ?_ 0 _ rfl;(with_reducible repeat (first|refine blk_drewN ?_ _|refine blk_drew ?_|refine blk_alloc ?_ _));exact BK115.out⟩,⟨y4 HI0.out⟩,⟨y3 HK.out⟩,⟨y5 HB.out⟩⟩
    have H':=A_ H
    clear H
    go_wp2
    go_meet
    case rel=>exact⟨_,(x1001_4),(x1002_4),((wrap64 (1+t112))),H',⟨by have:=HJ4.out;first|omega|exact Nat.le_refl _⟩,⟨bk BK111.out⟩,⟨bk BK115.out⟩,⟨y4 HI0.out⟩,⟨y3 HK.out⟩,⟨y5 HB.out⟩⟩
   case rest=>
    clear HC15
    try clear hcz11_0 hcz11_1 hcz11_2 hfz11_0 hfz11_1 hfz11_2
    obtain⟨kq,x1001_14,x1002_14,x116000_14,HA,HJ14,BK111,BK115,HI0,HK,HB⟩:=hcut
    cases kq with
    |zero=>exact absurd HA.out (by simp[spec_l1Cur_typeOf.j1])
    |succ kj14=>
     have H:=HA.out
     clear HA
     simp only[spec_l1Cur_typeOf.j1] at H
     have HC22:=A_ H
     clear H
     go_upto_region 4 with (fail)
     go_cut [31] (fun v31 wc=>∃ (kq:Nat) (x31_21:Bool) (x1001_21:Int) (x1002_21:Int),v31=.bool x31_21∧Aside0 (spec_l1Cur_typeOf.j2 kq a1 a2 x31_21 s0_0 x1001_21 x1002_21 x116000_14 0=some (r1,r2,r3,r4,r5))∧Aside0 (kq≤kj14)∧Aside0 (wc.heap[gb111]? =some (.cells #[.int .i64 0,.int .i64 0,(.slice none 0 0)] 43 (0,0)))∧Aside0 (wc.heap[gb115]? =some (.cells #[.int .i64 x116000_14,.int .i64 0,(.slice none 0 0)] 43 (0,0)))∧Aside0 (IsS52 w0 wc g s0_0 x1001_21 x1002_21)∧Aside0 (KeepBut w wc g none)∧Aside0 (Below w0.heap.size w0 wc))
     case first=>
      have H:=HC22.out
      clear HC22
      revert H
      refine iB_ (fun c23 H=>?_) (fun c23 H=>?_)<;>subst c23
      ·
       replace H:=Option.bind_eq_some_iff.mp H
       obtain⟨⟨t122,t123,t124⟩,A240,H⟩:=H
       try dsimp only at H
       have A24:=A_ A240
       clear A240
       have H':=A_ H
       clear H
       go_wp2_with (first|(go_at_call 37;(with_reducible refine(spec_l1Cur_one.calls g s0_0 x1001_14 x1002_14 8 t122 t123 t124 w0 _ ?side1 ?side2 A24.out).mono ?_);(case side1=>repeat (first|(with_reducible first|exact HI0.out|apply IsS52.alloc|apply IsS52.drewN|apply IsS52.drew|apply IsS52.set_1|apply IsS52.set_2|refine IsS52.far ?_ NB0_111.out _|refine IsS52.far ?_ NB0_115.out _)|exact HI0.out));(case side2=>repeat (first|(with_reducible first|exact HB.out|apply below_alloc|apply pw_below_drewN|apply below_drew1|refine below_set ?_ (IsS52.ge HI0.out)|refine below_set ?_ GE111.out|refine below_set ?_ GE115.out)|exact HB.out));rintro e w25 ⟨rfl,hi,hb,hk⟩;replace BK111:=A_ (KeepBut.blk hk (g':=gb111) (o:=.cells #[.int .i64 0,.int .i64 0,.slice none 0 0] 43 (0,0)) (bk BK111.out) NB111_0.out (by simp));replace BK115:=A_ (KeepBut.blk hk (g':=gb115) (o:=.cells #[.int .i64 x116000_14,.int .i64 0,.slice none 0 0] 43 (0,0)) (bk BK115.out) NB115_0.out (by simp));replace HK:=A_ (KeepBut.trans (y3 HK.out) hk (.inl rfl));replace HB:=A_ (hb);replace HI0:=A_ (hi);(try clear hb);(try clear hb2);(try clear hk);(try clear hi)))
       go_meet
       case rel=>exact⟨_,(t122),(t123),(t124),rs_,H',⟨by have:=HJ4.out;have:=HJ14.out;first|omega|exact Nat.le_refl _⟩,⟨bk BK111.out⟩,⟨bk BK115.out⟩,⟨y4 HI0.out⟩,⟨y3 HK.out⟩,⟨y5 HB.out⟩⟩
      have H':=A_ H
      clear H
      go_wp2
      go_meet
      case rel=>exact⟨_,(false),(x1001_14),(x1002_14),rs_,H',⟨by have:=HJ4.out;have:=HJ14.out;first|omega|exact Nat.le_refl _⟩,⟨bk BK111.out⟩,⟨bk BK115.out⟩,⟨y4 HI0.out⟩,⟨y3 HK.out⟩,⟨y5 HB.out⟩⟩
     case rest=>
      clear HC22
      try clear hcz11_0 hcz11_1 hcz11_2 hfz11_0 hfz11_1 hfz11_2
      obtain⟨kq,x31_21,x1001_21,x1002_21,rfl,HA,HJ21,BK111,BK115,HI0,HK,HB⟩:=hcut
      cases kq with
      |zero=>exact absurd HA.out (by simp[spec_l1Cur_typeOf.j2])
      |succ kj21=>
       have H:=HA.out
       clear HA
       simp only[spec_l1Cur_typeOf.j2] at H
       have HC26:=A_ H
       clear H
       go_upto_if 31 with (fail)
       go_cut [] (fun wc=>∃ (kq:Nat) (x1001_25:Int) (x1002_25:Int) (x116000_25:Int),Aside0 (spec_l1Cur_typeOf.j3 kq a1 a2 s0_0 x1001_25 x1002_25 x116000_25 0=some (r1,r2,r3,r4,r5))∧Aside0 (kq≤kj21)∧Aside0 (wc.heap[gb111]? =some (.cells #[.int .i64 0,.int .i64 0,(.slice none 0 0)] 43 (0,0)))∧Aside0 (wc.heap[gb115]? =some (.cells #[.int .i64 x116000_25,.int .i64 0,(.slice none 0 0)] 43 (0,0)))∧Aside0 (IsS52 w0 wc g s0_0 x1001_25 x1002_25)∧Aside0 (KeepBut w wc g none)∧Aside0 (Below w0.heap.size w0 wc))
       case first=>
        have H:=HC26.out
        clear HC26
        revert H
        refine iB_ (fun c27 H=>?_) (fun c27 H=>?_)<;>subst c27
        ·
         replace H:=Option.bind_eq_some_iff.mp H
         obtain⟨⟨t125,t126,t127⟩,A280,H⟩:=H
         try dsimp only at H
         have A28:=A_ A280
         clear A280
         have H':=A_ H
         clear H
         go_wp2_with (first|((with_reducible refine gc_ 36 rfl ?_);refine goesL_ (some 33) rfl rfl Tryd.func36 (by kernel_rfl) rfl #[.pointer (some ⟨g,0,none⟩),.int .i64 2] rfl ar ?_;(with_reducible refine(spec_l1Cur_pick.calls g s0_0 x1001_21 x1002_21 2 t125 t126 t127 w0 _ ?side1 ?side2 A28.out).mono ?_);(case side1=>repeat (first|(with_reducible first|exact HI0.out|apply IsS52.alloc|apply IsS52.drewN|apply IsS52.drew|apply IsS52.set_1|apply IsS52.set_2|refine IsS52.far ?_ NB0_111.out _|refine IsS52.far ?_ NB0_115.out _)|exact HI0.out));(case side2=>repeat (first|(with_reducible first|exact HB.out|apply below_alloc|apply pw_below_drewN|apply below_drew1|refine below_set ?_ (IsS52.ge HI0.out)|refine below_set ?_ GE111.out|refine below_set ?_ GE115.out)|exact HB.out));rintro e w29 ⟨rfl,hi,hb,hk⟩;refine⟨_,rfl,?_⟩;replace BK111:=A_ (KeepBut.blk hk (g':=gb111) (o:=.cells #[.int .i64 0,.int .i64 0,.slice none 0 0] 43 (0,0)) (bk BK111.out) NB111_0.out (by simp));replace BK115:=A_ (KeepBut.blk hk (g':=gb115) (o:=.cells #[.int .i64 x116000_14,.int .i64 0,.slice none 0 0] 43 (0,0)) (bk BK115.out) NB115_0.out (by simp));replace HK:=A_ (KeepBut.trans (y3 HK.out) hk (.inl rfl));replace HB:=A_ (hb);replace HI0:=A_ (hi);(try clear hb);(try clear hb2);(try clear hk);(try clear hi);have hnb30:=NB115_111.out;have hnc30:=NB111_115.out;have hnb31:=NB115_0.out;have hnc31:=NB0_115.out;obtain⟨hcz32_0,hcz32_1,hcz32_2⟩:=cs3_ BK115.out;obtain⟨hfz32_0,hfz32_1,hfz32_2⟩:=fz3_ BK115.out))
         go_meet
         case rel=>exact⟨_,(t126),(t127),(wrap64 (20+t125)),H',⟨by have:=HJ4.out;have:=HJ14.out;have:=HJ21.out;first|omega|exact Nat.le_refl _⟩,⟨by refine blk_far ?_ NB111_115.out _;(with_reducible repeat (first|refine blk_drewN ?_ _|refine blk_drew ?_|refine blk_alloc ?_ _));exact BK111.out⟩,⟨by refine blk_put (cs:=#[.int .i64 x116000_14,.int .i64 0,.slice none 0 0]) ?_ 0 _ rfl;(with_reducible repeat (first|refine blk_drewN ?_ _|refine blk_drew ?_|refine blk_alloc ?_ _));exact BK115.out⟩,⟨y4 HI0.out⟩,⟨y3 HK.out⟩,⟨y5 HB.out⟩⟩
        have H':=A_ H
        clear H
        go_wp2
        go_meet
        case rel=>exact⟨_,(x1001_21),(x1002_21),(x116000_14),H',⟨by have:=HJ4.out;have:=HJ14.out;have:=HJ21.out;first|omega|exact Nat.le_refl _⟩,⟨bk BK111.out⟩,⟨bk BK115.out⟩,⟨y4 HI0.out⟩,⟨y3 HK.out⟩,⟨y5 HB.out⟩⟩
       case rest=>
        clear HC26
        try clear hcz11_0 hcz11_1 hcz11_2 hfz11_0 hfz11_1 hfz11_2
        obtain⟨kq,x1001_25,x1002_25,x116000_25,HA,HJ25,BK111,BK115,HI0,HK,HB⟩:=hcut
        cases kq with
        |zero=>exact absurd HA.out (by simp[spec_l1Cur_typeOf.j3])
        |succ kj25=>
         have H:=HA.out
         clear HA
         simp only[spec_l1Cur_typeOf.j3] at H
         replace H:=Option.bind_eq_some_iff.mp H
         obtain⟨⟨t128,t129,t130,t131⟩,A330,H⟩:=H
         try dsimp only at H
         have A33:=A_ A330
         clear A330
         have HC34:=A_ H
         clear H
         have hnb35:=NB115_111.out
         have hnc35:=NB111_115.out
         have hnb36:=NB115_0.out
         have hnc36:=NB0_115.out
         obtain⟨hcz37_0,hcz37_1,hcz37_2⟩:=cs3_ BK115.out
         obtain⟨hfz37_0,hfz37_1,hfz37_2⟩:=fz3_ BK115.out
         go_upto_if 45 with (first|((with_reducible refine gc_ 26 rfl ?_);refine gn_ (some 39) Tryd.func26 (spec_l11Shape.calls kj25 x116000_25 t128 t129 t130 t131 _ A33.out) ?_;intro nd))
         (try simp only[Act.put,List.setIfInBounds_toArray,List.set_cons_zero,List.set_cons_succ])
         go_cut [] (fun wc=>∃ (kq:Nat) (x1001_33:Int) (x1002_33:Int) (x116001_33:Int),Aside0 (spec_l1Cur_typeOf.j4 kq a1 a2 t128 t129 s0_0 x1001_33 x1002_33 x116000_25 x116001_33=some (r1,r2,r3,r4,r5))∧Aside0 (kq≤kj25)∧Aside0 (wc.heap[gb111]? =some (.cells #[.int .i64 0,.int .i64 0,(.slice none 0 0)] 43 (0,0)))∧Aside0 (wc.heap[gb115]? =some (.cells #[.int .i64 x116000_25,.int .i64 x116001_33,(.slice none 0 0)] 43 (0,0)))∧Aside0 (IsS52 w0 wc g s0_0 x1001_33 x1002_33)∧Aside0 (KeepBut w wc g none)∧Aside0 (Below w0.heap.size w0 wc))
         case first=>
          have H:=HC34.out
          clear HC34
          revert H
          refine iL_ (fun c38b0 H=>?_) (fun c38b0 H=>?_)
          ·
           (first|rw[c38b0]|(simp only[i64_w,i32_w];rw[c38b0])|skip)
           replace H:=Option.bind_eq_some_iff.mp H
           obtain⟨⟨t132,t133,t134⟩,A390,H⟩:=H
           try dsimp only at H
           have A39:=A_ A390
           clear A390
           revert H
           refine iE_ (fun c40b0 c40b1 H=>?_) (fun c40 c40b0 c40b1 H=>?_)
           ·
            replace H:=Option.bind_eq_some_iff.mp H
            obtain⟨⟨t135,t136,t137⟩,A410,H⟩:=H
            try dsimp only at H
            have A41:=A_ A410
            clear A410
            revert H
            refine iB_ (fun c42 H=>?_) (fun c42 H=>?_)<;>subst c42
            ·
             have H':=A_ H
             clear H
             go_wp2_with (first|((with_reducible refine gc_ 36 rfl ?_);refine goesL_ (some 52) rfl rfl Tryd.func36 (by kernel_rfl) rfl #[.pointer (some ⟨g,0,none⟩),.int .i64 (wrap64 ((wrap64 (t131 - t130))+1))] rfl ar ?_;(with_reducible refine(spec_l1Cur_pick.calls g s0_0 x1001_25 x1002_25 (wrap64 ((wrap64 (t131 - t130))+1)) t132 t133 t134 w0 _ ?side1 ?side2 A39.out).mono ?_);(case side1=>repeat (first|(with_reducible first|exact HI0.out|apply IsS52.alloc|apply IsS52.drewN|apply IsS52.drew|apply IsS52.set_1|apply IsS52.set_2|refine IsS52.far ?_ NB0_111.out _|refine IsS52.far ?_ NB0_115.out _)|exact HI0.out));(case side2=>repeat (first|(with_reducible first|exact HB.out|apply below_alloc|apply pw_below_drewN|apply below_drew1|refine below_set ?_ (IsS52.ge HI0.out)|refine below_set ?_ GE111.out|refine below_set ?_ GE115.out)|exact HB.out));rintro e w43 ⟨rfl,hi,hb,hk⟩;refine⟨_,rfl,?_⟩;replace BK111:=A_ (KeepBut.blk hk (g':=gb111) (o:=.cells #[.int .i64 0,.int .i64 0,.slice none 0 0] 43 (0,0)) (bk BK111.out) NB111_0.out (by simp));replace BK115:=A_ (KeepBut.blk hk (g':=gb115) (o:=.cells #[.int .i64 x116000_25,.int .i64 0,.slice none 0 0] 43 (0,0)) (bk BK115.out) NB115_0.out (by simp));replace HK:=A_ (KeepBut.trans (y3 HK.out) hk (.inl rfl));replace HB:=A_ (hb);replace HI0:=A_ (hi);(try clear hb);(try clear hb2);(try clear hk);(try clear hi);have hnb44:=NB115_111.out;have hnc44:=NB111_115.out;have hnb45:=NB115_0.out;have hnc45:=NB0_115.out;obtain⟨hcz46_0,hcz46_1,hcz46_2⟩:=cs3_ BK115.out;obtain⟨hfz46_0,hfz46_1,hfz46_2⟩:=fz3_ BK115.out)|(go_at_call 37;(with_reducible refine(spec_l1Cur_one.calls g s0_0 t133 t134 4 true t136 t137 w0 _ ?side1 ?side2 A41.out).mono ?_);(case side1=>repeat (first|(with_reducible first|exact HI0.out|apply IsS52.alloc|apply IsS52.drewN|apply IsS52.drew|apply IsS52.set_1|apply IsS52.set_2|refine IsS52.far ?_ NB0_111.out _|refine IsS52.far ?_ NB0_115.out _)|exact HI0.out));(case side2=>repeat (first|(with_reducible first|exact HB.out|apply below_alloc|apply pw_below_drewN|apply below_drew1|refine below_set ?_ (IsS52.ge HI0.out)|refine below_set ?_ GE111.out|refine below_set ?_ GE115.out)|exact HB.out));rintro e w47 ⟨rfl,hi,hb,hk⟩;replace BK111:=A_ (KeepBut.blk hk (g':=gb111) (o:=.cells #[.int .i64 0,.int .i64 0,.slice none 0 0] 43 (0,0)) (by refine blk_far ?_ NB111_115.out _;(with_reducible repeat (first|refine blk_drewN ?_ _|refine blk_drew ?_|refine blk_alloc ?_ _));exact BK111.out) NB111_0.out (by simp));replace BK115:=A_ (KeepBut.blk hk (g':=gb115) (o:=.cells #[.int .i64 x116000_25,.int .i64 (wrap64 (t130+t132)),.slice none 0 0] 43 (0,0)) (by refine blk_put (cs:=#[.int .i64 x116000_25,.int .i64 0,.slice none 0 0]) ?_ 1 _ rfl;(with_reducible repeat (first|refine blk_drewN ?_ _|refine blk_drew ?_|refine blk_alloc ?_ _));exact BK115.out) NB115_0.out (by simp));replace HK:=A_ (KeepBut.trans (y3 HK.out) hk (.inl rfl));replace HB:=A_ (hb);replace HI0:=A_ (hi);(try clear hb);(try clear hb2);(try clear hk);(try clear hi)))
             go_meet
             case rel=>exact⟨_,(t136),(t137),(wrap64 (t130+t132)),H',⟨by have:=HJ4.out;have:=HJ14.out;have:=HJ21.out;have:=HJ25.out;first|omega|exact Nat.le_refl _⟩,⟨bk BK111.out⟩,⟨bk BK115.out⟩,⟨y4 HI0.out⟩,⟨y3 HK.out⟩,⟨y5 HB.out⟩⟩
            replace H:=Option.bind_eq_some_iff.mp H
            obtain⟨⟨t138,t139,t140⟩,A480,H⟩:=H
            try dsimp only at H
            have A48:=A_ A480
            clear A480
            have H':=A_ H
            clear H
            go_wp2_with (first|((with_reducible refine gc_ 36 rfl ?_);refine goesL_ (some 52) rfl rfl Tryd.func36 (by kernel_rfl) rfl #[.pointer (some ⟨g,0,none⟩),.int .i64 (wrap64 ((wrap64 (t131 - t130))+1))] rfl ar ?_;(with_reducible refine(spec_l1Cur_pick.calls g s0_0 x1001_25 x1002_25 (wrap64 ((wrap64 (t131 - t130))+1)) t132 t133 t134 w0 _ ?side1 ?side2 A39.out).mono ?_);(case side1=>repeat (first|(with_reducible first|exact HI0.out|apply IsS52.alloc|apply IsS52.drewN|apply IsS52.drew|apply IsS52.set_1|apply IsS52.set_2|refine IsS52.far ?_ NB0_111.out _|refine IsS52.far ?_ NB0_115.out _)|exact HI0.out));(case side2=>repeat (first|(with_reducible first|exact HB.out|apply below_alloc|apply pw_below_drewN|apply below_drew1|refine below_set ?_ (IsS52.ge HI0.out)|refine below_set ?_ GE111.out|refine below_set ?_ GE115.out)|exact HB.out));rintro e w49 ⟨rfl,hi,hb,hk⟩;refine⟨_,rfl,?_⟩;replace BK111:=A_ (KeepBut.blk hk (g':=gb111) (o:=.cells #[.int .i64 0,.int .i64 0,.slice none 0 0] 43 (0,0)) (bk BK111.out) NB111_0.out (by simp));replace BK115:=A_ (KeepBut.blk hk (g':=gb115) (o:=.cells #[.int .i64 x116000_25,.int .i64 0,.slice none 0 0] 43 (0,0)) (bk BK115.out) NB115_0.out (by simp));replace HK:=A_ (KeepBut.trans (y3 HK.out) hk (.inl rfl));replace HB:=A_ (hb);replace HI0:=A_ (hi);(try clear hb);(try clear hb2);(try clear hk);(try clear hi);have hnb50:=NB115_111.out;have hnc50:=NB111_115.out;have hnb51:=NB115_0.out;have hnc51:=NB0_115.out;obtain⟨hcz52_0,hcz52_1,hcz52_2⟩:=cs3_ BK115.out;obtain⟨hfz52_0,hfz52_1,hfz52_2⟩:=fz3_ BK115.out)|(go_at_call 37;(with_reducible refine(spec_l1Cur_one.calls g s0_0 t133 t134 4 false t136 t137 w0 _ ?side1 ?side2 A41.out).mono ?_);(case side1=>repeat (first|(with_reducible first|exact HI0.out|apply IsS52.alloc|apply IsS52.drewN|apply IsS52.drew|apply IsS52.set_1|apply IsS52.set_2|refine IsS52.far ?_ NB0_111.out _|refine IsS52.far ?_ NB0_115.out _)|exact HI0.out));(case side2=>repeat (first|(with_reducible first|exact HB.out|apply below_alloc|apply pw_below_drewN|apply below_drew1|refine below_set ?_ (IsS52.ge HI0.out)|refine below_set ?_ GE111.out|refine below_set ?_ GE115.out)|exact HB.out));rintro e w53 ⟨rfl,hi,hb,hk⟩;replace BK111:=A_ (KeepBut.blk hk (g':=gb111) (o:=.cells #[.int .i64 0,.int .i64 0,.slice none 0 0] 43 (0,0)) (by refine blk_far ?_ NB111_115.out _;(with_reducible repeat (first|refine blk_drewN ?_ _|refine blk_drew ?_|refine blk_alloc ?_ _));exact BK111.out) NB111_0.out (by simp));replace BK115:=A_ (KeepBut.blk hk (g':=gb115) (o:=.cells #[.int .i64 x116000_25,.int .i64 (wrap64 (t130+t132)),.slice none 0 0] 43 (0,0)) (by refine blk_put (cs:=#[.int .i64 x116000_25,.int .i64 0,.slice none 0 0]) ?_ 1 _ rfl;(with_reducible repeat (first|refine blk_drewN ?_ _|refine blk_drew ?_|refine blk_alloc ?_ _));exact BK115.out) NB115_0.out (by simp));replace HK:=A_ (KeepBut.trans (y3 HK.out) hk (.inl rfl));replace HB:=A_ (hb);replace HI0:=A_ (hi);(try clear hb);(try clear hb2);(try clear hk);(try clear hi))|((with_reducible refine gc_ 36 rfl ?_);refine goesL_ (some 64) rfl rfl Tryd.func36 (by kernel_rfl) rfl #[.pointer (some ⟨g,0,none⟩),.int .i64 9] rfl ar ?_;(with_reducible refine(spec_l1Cur_pick.calls g s0_0 t136 t137 9 t138 t139 t140 w0 _ ?side1 ?side2 A48.out).mono ?_);(case side1=>repeat (first|(with_reducible first|exact HI0.out|apply IsS52.alloc|apply IsS52.drewN|apply IsS52.drew|apply IsS52.set_1|apply IsS52.set_2|refine IsS52.far ?_ NB0_111.out _|refine IsS52.far ?_ NB0_115.out _)|exact HI0.out));(case side2=>repeat (first|(with_reducible first|exact HB.out|apply below_alloc|apply pw_below_drewN|apply below_drew1|refine below_set ?_ (IsS52.ge HI0.out)|refine below_set ?_ GE111.out|refine below_set ?_ GE115.out)|exact HB.out));rintro e w54 ⟨rfl,hi,hb,hk⟩;refine⟨_,rfl,?_⟩;replace BK111:=A_ (KeepBut.blk hk (g':=gb111) (o:=.cells #[.int .i64 0,.int .i64 0,.slice none 0 0] 43 (0,0)) (bk BK111.out) NB111_0.out (by simp));replace BK115:=A_ (KeepBut.blk hk (g':=gb115) (o:=.cells #[.int .i64 x116000_25,.int .i64 (wrap64 (t130+t132)),.slice none 0 0] 43 (0,0)) (bk BK115.out) NB115_0.out (by simp));replace HK:=A_ (KeepBut.trans (y3 HK.out) hk (.inl rfl));replace HB:=A_ (hb);replace HI0:=A_ (hi);(try clear hb);(try clear hb2);(try clear hk);(try clear hi);obtain⟨hcz55_0,hcz55_1,hcz55_2⟩:=cs3_ BK115.out;obtain⟨hfz55_0,hfz55_1,hfz55_2⟩:=fz3_ BK115.out))
            go_meet
            case rel=>exact⟨_,(t139),(t140),(wrap64 (1+t138)),H',⟨by have:=HJ4.out;have:=HJ14.out;have:=HJ21.out;have:=HJ25.out;first|omega|exact Nat.le_refl _⟩,⟨by refine blk_far ?_ NB111_115.out _;(with_reducible repeat (first|refine blk_drewN ?_ _|refine blk_drew ?_|refine blk_alloc ?_ _));exact BK111.out⟩,⟨by refine blk_put (cs:=#[.int .i64 x116000_25,.int .i64 (wrap64 (t130+t132)),.slice none 0 0]) ?_ 1 _ rfl;(with_reducible repeat (first|refine blk_drewN ?_ _|refine blk_drew ?_|refine blk_alloc ?_ _));exact BK115.out⟩,⟨y4 HI0.out⟩,⟨y3 HK.out⟩,⟨y5 HB.out⟩⟩
           have H':=A_ H
           clear H
           go_wp2_with (first|((with_reducible refine gc_ 36 rfl ?_);refine goesL_ (some 52) rfl rfl Tryd.func36 (by kernel_rfl) rfl #[.pointer (some ⟨g,0,none⟩),.int .i64 (wrap64 ((wrap64 (t131 - t130))+1))] rfl ar ?_;(with_reducible refine(spec_l1Cur_pick.calls g s0_0 x1001_25 x1002_25 (wrap64 ((wrap64 (t131 - t130))+1)) t132 t133 t134 w0 _ ?side1 ?side2 A39.out).mono ?_);(case side1=>repeat (first|(with_reducible first|exact HI0.out|apply IsS52.alloc|apply IsS52.drewN|apply IsS52.drew|apply IsS52.set_1|apply IsS52.set_2|refine IsS52.far ?_ NB0_111.out _|refine IsS52.far ?_ NB0_115.out _)|exact HI0.out));(case side2=>repeat (first|(with_reducible first|exact HB.out|apply below_alloc|apply pw_below_drewN|apply below_drew1|refine below_set ?_ (IsS52.ge HI0.out)|refine below_set ?_ GE111.out|refine below_set ?_ GE115.out)|exact HB.out));rintro e w56 ⟨rfl,hi,hb,hk⟩;refine⟨_,rfl,?_⟩;replace BK111:=A_ (KeepBut.blk hk (g':=gb111) (o:=.cells #[.int .i64 0,.int .i64 0,.slice none 0 0] 43 (0,0)) (bk BK111.out) NB111_0.out (by simp));replace BK115:=A_ (KeepBut.blk hk (g':=gb115) (o:=.cells #[.int .i64 x116000_25,.int .i64 0,.slice none 0 0] 43 (0,0)) (bk BK115.out) NB115_0.out (by simp));replace HK:=A_ (KeepBut.trans (y3 HK.out) hk (.inl rfl));replace HB:=A_ (hb);replace HI0:=A_ (hi);(try clear hb);(try clear hb2);(try clear hk);(try clear hi);have hnb57:=NB115_111.out;have hnc57:=NB111_115.out;have hnb58:=NB115_0.out;have hnc58:=NB0_115.out;obtain⟨hcz59_0,hcz59_1,hcz59_2⟩:=cs3_ BK115.out;obtain⟨hfz59_0,hfz59_1,hfz59_2⟩:=fz3_ BK115.out))
           go_meet
           case rel=>exact⟨_,(t133),(t134),(wrap64 (t130+t132)),H',⟨by have:=HJ4.out;have:=HJ14.out;have:=HJ21.out;have:=HJ25.out;first|omega|exact Nat.le_refl _⟩,⟨by refine blk_far ?_ NB111_115.out _;(with_reducible repeat (first|refine blk_drewN ?_ _|refine blk_drew ?_|refine blk_alloc ?_ _));exact BK111.out⟩,⟨by refine blk_put (cs:=#[.int .i64 x116000_25,.int .i64 0,.slice none 0 0]) ?_ 1 _ rfl;(with_reducible repeat (first|refine blk_drewN ?_ _|refine blk_drew ?_|refine blk_alloc ?_ _));exact BK115.out⟩,⟨y4 HI0.out⟩,⟨y3 HK.out⟩,⟨y5 HB.out⟩⟩
          (first|rw[c38b0]|(simp only[i64_w,i32_w];rw[c38b0])|skip)
          have H':=A_ H
          clear H
          go_wp2
          go_meet
          case rel=>exact⟨_,(x1001_25),(x1002_25),(0),H',⟨by have:=HJ4.out;have:=HJ14.out;have:=HJ21.out;have:=HJ25.out;first|omega|exact Nat.le_refl _⟩,⟨bk BK111.out⟩,⟨bk BK115.out⟩,⟨y4 HI0.out⟩,⟨y3 HK.out⟩,⟨y5 HB.out⟩⟩
         case rest=>
          clear HC34
          try clear hcz11_0 hcz11_1 hcz11_2 hcz37_0 hcz37_1 hcz37_2 hfz11_0 hfz11_1 hfz11_2 hfz37_0 hfz37_1 hfz37_2
          obtain⟨kq,x1001_33,x1002_33,x116001_33,HA,HJ33,BK111,BK115,HI0,HK,HB⟩:=hcut
          cases kq with
          |zero=>exact absurd HA.out (by simp[spec_l1Cur_typeOf.j4])
          |succ kj33=>
           have H:=HA.out
           clear HA
           simp only[spec_l1Cur_typeOf.j4] at H
           have HC60:=A_ H
           clear H
           go_upto_if 70 with (fail)
           go_cut [12] (fun v12 wc=>∃ (kq:Nat) (x12_59:Int) (x1001_59:Int) (x1002_59:Int),v12=.int .i64 x12_59∧Aside0 (spec_l1Cur_typeOf.j5 kq a1 a2 x12_59 s0_0 x1001_59 x1002_59 x116000_25 x116001_33=some (r1,r2,r3,r4,r5))∧Aside0 (kq≤kj33)∧Aside0 (wc.heap[gb111]? =some (.cells #[.int .i64 0,.int .i64 0,(.slice none 0 0)] 43 (0,0)))∧Aside0 (wc.heap[gb115]? =some (.cells #[.int .i64 x116000_25,.int .i64 x116001_33,(.slice none 0 0)] 43 (0,0)))∧Aside0 (IsS52 w0 wc g s0_0 x1001_59 x1002_59)∧Aside0 (KeepBut w wc g none)∧Aside0 (Below w0.heap.size w0 wc))
           case first=>
            have H:=HC60.out
            clear HC60
            revert H
            refine iL_ (fun c61b0 H=>?pc61) (fun c61b0 H=>?nc61)
            case' pc61=>
             (first|rw[c61b0]|(simp only[i64_w,i32_w];rw[c61b0])|skip)
             replace H:=Option.bind_eq_some_iff.mp H
             obtain⟨⟨t141,t142,t143⟩,A620,H⟩:=H
             try dsimp only at H
             have A62:=A_ A620
             clear A620
            case' nc61=>
             (first|rw[c61b0]|(simp only[i64_w,i32_w];rw[c61b0])|skip)
            all_goals
             have H':=A_ H
             clear H
             go_wp2_with (first|((with_reducible refine gc_ 36 rfl ?_);refine goesL_ (some 73) rfl rfl Tryd.func36 (by kernel_rfl) rfl #[.pointer (some ⟨g,0,none⟩),.int .i64 3] rfl ar ?_;(with_reducible refine(spec_l1Cur_pick.calls g s0_0 x1001_33 x1002_33 3 t141 t142 t143 w0 _ ?side1 ?side2 A62.out).mono ?_);(case side1=>repeat (first|(with_reducible first|exact HI0.out|apply IsS52.alloc|apply IsS52.drewN|apply IsS52.drew|apply IsS52.set_1|apply IsS52.set_2|refine IsS52.far ?_ NB0_111.out _|refine IsS52.far ?_ NB0_115.out _)|exact HI0.out));(case side2=>repeat (first|(with_reducible first|exact HB.out|apply below_alloc|apply pw_below_drewN|apply below_drew1|refine below_set ?_ (IsS52.ge HI0.out)|refine below_set ?_ GE111.out|refine below_set ?_ GE115.out)|exact HB.out));rintro e w63 ⟨rfl,hi,hb,hk⟩;refine⟨_,rfl,?_⟩;replace BK111:=A_ (KeepBut.blk hk (g':=gb111) (o:=.cells #[.int .i64 0,.int .i64 0,.slice none 0 0] 43 (0,0)) (bk BK111.out) NB111_0.out (by simp));replace BK115:=A_ (KeepBut.blk hk (g':=gb115) (o:=.cells #[.int .i64 x116000_25,.int .i64 x116001_33,.slice none 0 0] 43 (0,0)) (bk BK115.out) NB115_0.out (by simp));replace HK:=A_ (KeepBut.trans (y3 HK.out) hk (.inl rfl));replace HB:=A_ (hb);replace HI0:=A_ (hi);(try clear hb);(try clear hb2);(try clear hk);(try clear hi)))
             go_meet
             case rel=>exact⟨_,_,_,_,rs_,H',⟨by have:=HJ4.out;have:=HJ14.out;have:=HJ21.out;have:=HJ25.out;have:=HJ33.out;first|omega|exact Nat.le_refl _⟩,⟨bk BK111.out⟩,⟨bk BK115.out⟩,⟨y4 HI0.out⟩,⟨y3 HK.out⟩,⟨y5 HB.out⟩⟩
           case rest=>
            clear HC60
            try clear hcz11_0 hcz11_1 hcz11_2 hcz37_0 hcz37_1 hcz37_2 hfz11_0 hfz11_1 hfz11_2 hfz37_0 hfz37_1 hfz37_2
            obtain⟨kq,x12_59,x1001_59,x1002_59,rfl,HA,HJ59,BK111,BK115,HI0,HK,HB⟩:=hcut
            cases kq with
            |zero=>exact absurd HA.out (by simp[spec_l1Cur_typeOf.j5])
            |succ kj59=>
             have H:=HA.out
             clear HA
             simp only[spec_l1Cur_typeOf.j5] at H
             have H':=A_ H
             clear H
             go_wp2
             (try simp only[Act.put,List.setIfInBounds_toArray,List.set_cons_zero,List.set_cons_succ])
             go_loopg [12] kj59 (fun kq v12 w'=>∃ (x12_7:Int) (x1001_7:Int) (x1002_7:Int) (x116002_7:List (S43)) (u116002:Value),v12=.int .i64 x12_7∧Aside0 (spec_l1Cur_typeOf.l0 kq a1 a2 x12_7 s0_0 x1001_7 x1002_7 x116000_25 x116001_33 x116002_7=some (r1,r2,r3,r4,r5))∧Aside0 (kq≤kj59)∧Aside0 (Kd.R k43 43 w' w.heap.size (fun k_=>k_≠gb111∧k_≠gb115) u116002 x116002_7)∧Aside0 (w'.heap[gb111]? =some (.cells #[.int .i64 0,.int .i64 0,(.slice none 0 0)] 43 (0,0)))∧Aside0 (w'.heap[gb115]? =some (.cells #[.int .i64 x116000_25,.int .i64 x116001_33,u116002] 43 (0,0)))∧Aside0 (IsS52 w0 w' g s0_0 x1001_7 x1002_7)∧Aside0 (KeepBut w w' g none)∧Aside0 (Below w0.heap.size w0 w'))
             case atStart=>exact⟨(x12_59),(x1001_59),(x1002_59),(([]:List (S43))),(.slice none 0 0),rs_,H',⟨Nat.le_refl _⟩,⟨by first|exact Kd.R_nil _ _ _ _ _|exact Kd.N_nil _ _ _ _ _|exact Kd.V_nil _ _ _ _ _|exact Kd.Q_nil _ _ _ _ _|exact Kd.S_nil _ _ _ _ _⟩,⟨bk BK111.out⟩,⟨bk BK115.out⟩,⟨y4 HI0.out⟩,⟨y3 HK.out⟩,⟨y5 HB.out⟩⟩
             case round=>
              clear H'
              try clear hcz11_0 hcz11_1 hcz11_2 hcz37_0 hcz37_1 hcz37_2 hfz11_0 hfz11_1 hfz11_2 hfz37_0 hfz37_1 hfz37_2
              obtain⟨x12_7,x1001_7,x1002_7,x116002_7,u116002,rfl,HA,HK7,HO_116002,BK111,BK115,HI0,HK,HB⟩:=hrel
              cases gk with
              |zero=>exact absurd HA.out (by simp[spec_l1Cur_typeOf.l0])
              |succ k7=>
               have H:=HA.out
               clear HA
               simp only[spec_l1Cur_typeOf.l0] at H
               revert H
               refine iL_ (fun c64b0 H=>?_) (fun c64b0 H=>?_)
               ·
                replace H:=Option.bind_eq_some_iff.mp H
                obtain⟨⟨t144,t145,t146,t149,t150⟩,A650,H⟩:=H
                try dsimp only at H
                have A65:=A_ A650
                clear A650
                replace H:=im_ H
                obtain⟨LMc66,H⟩:=H
                obtain⟨y151,hy151⟩:∃ y_:List (S43),y_=(x116002_7++[(⟨t144,t145,t146⟩:S43)]):=⟨_,rfl⟩
                rw[←hy151] at H
                have Ny151:=A_ hy151
                clear hy151
                have H':=A_ H
                clear H
                try go_wp2
                have n0_:=A_ (Kd.R_drew HO_116002.out)
                have n1_:=A_ (blk_drew BK111.out)
                have n2_:=A_ (blk_drew BK115.out)
                have n3_:=A_ (IsS52.drew HI0.out)
                have n4_:=A_ (keep_drew HK.out)
                have n5_:=A_ (below_drew1 HB.out)
                clear HO_116002 BK111 BK115 HI0 HK HB
                have HO_116002:=n0_
                have BK111:=n1_
                have BK115:=n2_
                have HI0:=n3_
                have HK:=n4_
                have HB:=n5_
                clear n0_ n1_ n2_ n3_ n4_ n5_
                refine sS 11 (fun w'=>w'.cell? ⟨gb115,0,none⟩=some (.int .i64 x116000_25)∧w'.cell? ⟨gb115,1,none⟩=some (.int .i64 x116001_33)∧w'.cell? ⟨gb115,2,none⟩=some (u116002)) [10] ⟨(blk_cell BK115.out 0).trans rfl,(blk_cell BK115.out 1).trans rfl,(blk_cell BK115.out 2).trans rfl⟩ spec_l1Cur_typeOf.tab16 spec_l1Cur_typeOf.bits16 (fun hHeld HT_ HW_=>?_)
                generalize wr.drew=w67 at HO_116002 BK111 BK115 HI0 HK HB hHeld ⊢
                refine pS HT_ 0 79 ?_
                refine pS HT_ 2 81 ?_
                refine pS HT_ 3 82 ?_
                refine pS HT_ 4 83 ?_
                refine pS HT_ 5 84 ?_
                refine tS HT_ HW_ 1 80 hHeld ?_
                refine oS HT_ 6 (some 85) (fun K hK=>?_)
                refine goes_ Tryd.func35 (by kernel_rfl) rfl #[.pointer (some ⟨g,0,none⟩),.int .i64 (wrap64 (a1 - 1)),.bool a2] (by rfl) rfl rfl ar ?_
                with_reducible refine(ih k7 (by have:=HJ4.out;have:=HJ14.out;have:=HJ21.out;have:=HJ25.out;have:=HJ33.out;have:=HJ59.out;have:=HK7.out;omega) g s0_0 x1001_7 x1002_7 (wrap64 (a1 - 1)) a2 t144 t145 t146 t149 t150 w0 _ ?side1 ?side2 A65.out).mono ?_
                (case side1=>repeat (first|(with_reducible first|exact HI0.out|apply IsS52.alloc|apply IsS52.drewN|apply IsS52.drew|apply IsS52.set_1|apply IsS52.set_2|refine IsS52.far ?_ NB0_111.out _|refine IsS52.far ?_ NB0_115.out _)|exact HI0.out))
                (case side2=>repeat (first|(with_reducible first|exact HB.out|apply below_alloc|apply pw_below_drewN|apply below_drew1|refine below_set ?_ (IsS52.ge HI0.out)|refine below_set ?_ GE111.out|refine below_set ?_ GE115.out)|exact HB.out))
                rintro e w68 ⟨v147,rfl,ho0,hi,hb,hk⟩
                refine⟨_,rfl,?_⟩
                have n0_:=A_ (Kd.R_mono (Kd.R_told (Kd.R_oldK (IsS52.apart (show IsS52 w0 _ g s0_0 x1001_7 x1002_7 from y4 HI0.out) (kr_ HO_116002.out) (by decide)) hk) (Kd.R_base ho0)) (fun _ h_=>h_.1))
                have n1_:=A_ (KeepBut.blk hk (g':=gb111) (o:=.cells #[.int .i64 0,.int .i64 0,.slice none 0 0] 43 (0,0)) (bk BK111.out) NB111_0.out (by simp))
                have n2_:=A_ (KeepBut.blk hk (g':=gb115) (o:=.cells #[.int .i64 x116000_25,.int .i64 x116001_33,u116002] 43 (0,0)) (bk BK115.out) NB115_0.out (by simp))
                have n3_:=A_ (Kd.R_lower (Kd.R_newB (Kd.R_newB (Kd.R_new' ho0 (Kd.R_lt (kr_ HO_116002.out))) (g:=gb111) (o:=.cells #[.int .i64 0,.int .i64 0,.slice none 0 0] 43 (0,0)) (bk BK111.out)) (g:=gb115) (o:=.cells #[.int .i64 x116000_25,.int .i64 x116001_33,u116002] 43 (0,0)) (bk BK115.out)) (keep_size (w:=w) (g:=g) (row:=none) (y3 HK.out)))
                have n4_:=A_ (KeepBut.trans (y3 HK.out) hk (.inl rfl))
                have n5_:=A_ (hb)
                have n6_:=A_ (hi)
                clear HO_116002 BK111 BK115 HK HB HI0
                have HO_116002:=n0_
                have BK111:=n1_
                have BK115:=n2_
                have HO148:=n3_
                have HK:=n4_
                have HB:=n5_
                have HI0:=n6_
                clear n0_ n1_ n2_ n3_ n4_ n5_ n6_
                (try clear hb)
                (try clear hb2)
                (try clear hk)
                (try clear hi)
                (try clear ho0)
                obtain⟨Ao70,co70,eo70⟩:=Kd.R_slice HO148.out
                (first|subst eo70|(injection eo70 with f1_ f2_ f3_;have f4_:=f1_.symm;have f5_:=f3_.symm;clear f1_ f2_ f3_;subst f4_;subst f5_))
                refine hK.out _ _ ⟨(blk_cell BK115.out 0).trans rfl,(blk_cell BK115.out 1).trans rfl,(blk_cell BK115.out 2).trans rfl⟩ (fun hHeld=>?_)
                clear hK K
                refine nS (some 85) ?_
                refine oS HT_ 7 (some 86) (fun K hK=>?_)
                refine value_ (w1:=?_) (v:=?_) (by rfl) rfl ?_ ?_
                rotate_left 2
                ·
                 go_simp
                 constructor
                 ·
                  rfl
                 rfl
                refine hK.out _ _ ⟨(blk_cell (blk_alloc BK115.out _) 0).trans rfl,(blk_cell (blk_alloc BK115.out _) 1).trans rfl,(blk_cell (blk_alloc BK115.out _) 2).trans rfl⟩ (fun hHeld=>?_)
                clear hK K
                refine nS (some 86) ?_
                refine oS HT_ 8 (some 87) (fun K hK=>?_)
                refine Kd.R_append_step k43 w.heap.size (by rfl) (.tmp 80) (.tmp 86) 41 43 (.agg #[(.int .i64 0),(.int .i64 0),(.slice none 0 0)]) 40 rfl Tryd.underlying41 info43 rfl (by decide) (by omega) u116002 x116002_7 (⟨t144,t145,t146⟩:S43) [.int .i64 t144,.int .i64 t145,.slice Ao70 t146.length co70] (fun k_=>k_≠gb111∧k_≠gb115) (fun k_=>((fun k_=>k_≠gb111∧k_≠gb115)) k_∧some k_≠(u116002:Value).ownBlock) rfl rfl ?aP (fun _ hk=>hk) ?aF ?aO (Below.refl _ _) ?aS ?aL ?_
                (case aP=>exact k43_mkM _ _ _ (⟨t144,t145,t146⟩:S43) (Kd.R_mono (HO148.out) (fun k_ hk=>⟨⟨hk.1.2,hk.2⟩,hk.1.1.2⟩)))
                (case aF=>exact(fun k_ hk=>⟨Kd.freshB (g:=gb111) (o:=.cells #[.int .i64 0,.int .i64 0,.slice none 0 0] 43 (0,0)) (bk BK111.out) k_ hk,Kd.freshB (g:=gb115) (o:=.cells #[.int .i64 x116000_25,.int .i64 x116001_33,u116002] 43 (0,0)) (bk BK115.out) k_ hk⟩))
                (case aO=>exact(by(with_reducible repeat (first|apply Kd.R_alloc|apply Kd.R_drewN|apply Kd.R_drew));exact Kd.R_mono HO_116002.out (fun _ hk=>⟨hk.1.1,hk.1.2⟩)))
                (case aS=>exact(keep_size (w:=w) (g:=g) (row:=none) (y3 HK.out)))
                (case aL=>have:=LMc66.out;omega)
                intro v152 w69 ho hb hg hat
                rw[←Ny151.out] at ho
                have n0_:=A_ (blk_grown (g:=gb111) (o:=.cells #[.int .i64 0,.int .i64 0,.slice none 0 0] 43 (0,0)) (bk BK111.out) hg (Kd.R_away HO_116002.out (fun _ hk=>hk.1.1)))
                have n1_:=A_ (blk_grown (g:=gb115) (o:=.cells #[.int .i64 x116000_25,.int .i64 x116001_33,u116002] 43 (0,0)) (bk BK115.out) hg (Kd.R_away HO_116002.out (fun _ hk=>hk.1.2)))
                have n2_:=A_ (IsS52.grown (y4 HI0.out) hg (IsS52.own_ne HI0.out HO_116002.out (by decide)))
                have n3_:=A_ (below_weaken (y5 HB.out) HL.out hb)
                have n4_:=A_ (KeepBut.trans (y3 HK.out) (KeepBut.of_grown hg g) (Kd.R_base2 HO_116002.out))
                have n5_:=A_ (ho)
                clear BK111 BK115 HI0 HB HK HO_116002 HO148
                have BK111:=n0_
                have BK115:=n1_
                have HI0:=n2_
                have HB:=n3_
                have HK:=n4_
                have HO153:=n5_
                clear n0_ n1_ n2_ n3_ n4_ n5_ ho hb hg hat
                obtain⟨Ao71,co71,eo71⟩:=Kd.R_slice HO153.out
                (first|subst eo71|(injection eo71 with f1_ f2_ f3_;have f4_:=f1_.symm;have f5_:=f3_.symm;clear f1_ f2_ f3_;subst f4_;subst f5_))
                refine hK.out _ _ ⟨(blk_cell BK115.out 0).trans rfl,(blk_cell BK115.out 1).trans rfl,(blk_cell BK115.out 2).trans rfl⟩ (fun hHeld=>?_)
                clear hK K
                refine nS (some 87) ?_
                refine pS HT_ 9 88 ?_
                refine last_ (i:=10) (N:=none) #[true,true,true,true,true,true,true,true,true,true,true] rfl rfl (one_of HT_.out (by kernel_rfl)) (by decide) (fun K hK=>?_)
                have hs72:w69.cell? ⟨gb115,2,none⟩=some (u116002):=(blk_cell BK115.out 2).trans rfl
                have hfs72:=blk_frozen BK115.out 2
                have hns72_0:=NB111_115.out
                have hms72_0:=NB115_111.out
                refine skip_ (w1:=?_) (by rfl) rfl ?_ ?_
                rotate_left
                ·
                 go_simp
                 rfl
                refine hK.out _ _ ?_
                clear hK K
                refine dS HT_ ?_
                try go_wp2
                go_roundg k7
                case measure=>have:=HJ4.out;have:=HJ14.out;have:=HJ21.out;have:=HJ25.out;have:=HJ33.out;have:=HJ59.out;have:=HK7.out;omega
                case rel=>exact⟨(wrap64 (x12_7 - 1)),(t149),(t150),(y151),(.slice Ao71 y151.length co71),rs_,H',⟨by have:=HJ4.out;have:=HJ14.out;have:=HJ21.out;have:=HJ25.out;have:=HJ33.out;have:=HJ59.out;have:=HK7.out;omega⟩,⟨by (with_reducible repeat (first|apply Kd.R_alloc|apply Kd.R_drewN|apply Kd.R_drew));exact Kd.R_mono (Kd.R_far (p:=⟨gb115,2,none⟩) (Kd.R_mono HO153.out (fun k_ hk=>(⟨hk,hk.2⟩:_∧k_≠gb115))) (fun _ hk=>hk.2) (.slice Ao71 y151.length co71)) (fun _ hk=>⟨hk.1.1,hk.1.2⟩)⟩,⟨by refine blk_far ?_ NB111_115.out _;(with_reducible repeat (first|refine blk_drewN ?_ _|refine blk_drew ?_|refine blk_alloc ?_ _));exact BK111.out⟩,⟨by refine blk_put (cs:=#[.int .i64 x116000_25,.int .i64 x116001_33,u116002]) ?_ 2 _ rfl;(with_reducible repeat (first|refine blk_drewN ?_ _|refine blk_drew ?_|refine blk_alloc ?_ _));exact BK115.out⟩,⟨y4 HI0.out⟩,⟨y3 HK.out⟩,⟨y5 HB.out⟩⟩
               simp only[Option.some.injEq,Prod.mk.injEq] at H
               obtain⟨rfl,rfl,rfl,rfl,rfl⟩:=H
               have hnb73:=NB115_111.out
               have hnc73:=NB111_115.out
               have hnb74:=NB115_0.out
               have hnc74:=NB0_115.out
               obtain⟨hcz75_0,hcz75_1,hcz75_2⟩:=cs3_ BK115.out
               obtain⟨hfz75_0,hfz75_1,hfz75_2⟩:=fz3_ BK115.out
               have hnb76:=NB111_0.out
               have hnc76:=NB0_111.out
               obtain⟨hcz77_0,hcz77_1,hcz77_2⟩:=cs3_ BK111.out
               obtain⟨hfz77_0,hfz77_1,hfz77_2⟩:=fz3_ BK111.out
               obtain⟨Ao78,co78,eo78⟩:=Kd.R_slice HO_116002.out
               subst eo78
               go_wp2
               refine bodyPost_ret (results_cell_row rfl _ _ gb111 43 #[.int .i64 x116000_25,.int .i64 x116001_33,.slice Ao78 x116002_7.length co78] (0,0) _ rfl (by refine blk_put (cs:=#[.int .i64 x116000_25,.int .i64 x116001_33,.slice none 0 0]) ?_ 2 _ rfl;refine blk_put (cs:=#[.int .i64 x116000_25,.int .i64 0,.slice none 0 0]) ?_ 1 _ rfl;refine blk_put (cs:=#[.int .i64 0,.int .i64 0,.slice none 0 0]) ?_ 0 _ rfl;(with_reducible repeat (first|refine blk_drewN ?_ _|refine blk_drew ?_|refine blk_alloc ?_ _));exact BK111.out) Tryd.underlying43 rfl (by kernel_rfl)) rfl ?_
               exact⟨_,rr_,by (with_reducible repeat (first|apply Kd.R_alloc|apply Kd.R_drewN|apply Kd.R_drew));exact Kd.R_mono (Kd.R_far (p:=⟨gb111,2,none⟩) (Kd.R_far (p:=⟨gb111,1,none⟩) (Kd.R_far (p:=⟨gb111,0,none⟩) (Kd.R_mono HO_116002.out (fun k_ hk=>(⟨hk,hk.1⟩:_∧k_≠gb111))) (fun _ hk=>hk.2) (.int .i64 x116000_25)) (fun _ hk=>hk.2) (.int .i64 x116001_33)) (fun _ hk=>hk.2) (.slice Ao78 x116002_7.length co78)) (fun _ hk=>trivial),y4 HI0.out,y5 HB.out,y3 HK.out⟩

/-! ### spec_l1Cur_among: function 38 -/
def spec_l1Cur_among.f (s0_0:List Int) (s0_1:Int) (s0_2:Int) (l1:List Int):Option (Int × Int × Int):=(spec_l1Cur_pick.f s0_0 s0_1 s0_2 (l1.length:Int)).bind fun bt154=>(if 0≤bt154.1 then (if bt154.1<(l1.length:Int) then (some (rd l1 bt154.1,bt154.2.1,bt154.2.2)) else (none)) else (none))
theorem spec_l1Cur_among.calls (g:Nat) (s0_0:List Int) (s0_1:Int) (s0_2:Int) (A1:Option Addr) (c1:Nat) (l1:List Int) (r1:Int) (r2:Int) (r3:Int) (w0 w:World) (hI:IsS52 w0 w g s0_0 s0_1 s0_2) (hB:Below w0.heap.size w0 w) (hr1:Kd.C (Kd.int .i64) w A1 l1.length l1) (hc1:l1.length≤c1) (hf1:∀ ad,A1=some ad→0<l1.length→ad.block≠g) (h:spec_l1Cur_among.f s0_0 s0_1 s0_2 l1=some (r1,r2,r3)):
  Calls Tryd.prog 38 #[.pointer (some ⟨g,0,none⟩),.slice A1 l1.length c1] w fun e w'=>e=.returned (.int .i64 r1)∧IsS52 w0 w' g s0_0 r2 r3∧Below w0.heap.size w0 w'∧KeepBut w w' g none:=by
 have HR1:=A_ hr1
 have HC1:=A_ hc1
 clear hr1 hc1
 have HI0:=A_ hI
 have HK:=A_ (KeepBut.refl w g none)
 have HL:=A_ hB.size
 clear hI
 have HW0:=A_ hB.size
 have HB:=A_ hB
 clear hB
 have H:((spec_l1Cur_pick.f s0_0 s0_1 s0_2 (l1.length:Int)).bind fun bt154=>(if 0≤bt154.1 then (if bt154.1<(l1.length:Int) then (some (rd l1 bt154.1,bt154.2.1,bt154.2.2)) else (none)) else (none)))=some (r1,r2,r3):=h
 clear h
 replace H:=Option.bind_eq_some_iff.mp H
 obtain⟨⟨t154,t155,t156⟩,A30,H⟩:=H
 try dsimp only at H
 have A3:=A_ A30
 clear A30
 replace H:=id_ H
 obtain⟨c4b0,H⟩:=H
 replace H:=id_ H
 obtain⟨c5b0,H⟩:=H
 simp only[Option.some.injEq,Prod.mk.injEq] at H
 obtain⟨rfl,rfl,rfl⟩:=H
 go_enter Tryd.func38,Tryd.ntmps38
 go_wp2_with (first|((with_reducible refine gc_ 36 rfl ?_);refine goesL_ (some 9) rfl rfl Tryd.func36 (by kernel_rfl) rfl #[.pointer (some ⟨g,0,none⟩),.int .i64 (l1.length:Int)] rfl ar ?_;(with_reducible refine(spec_l1Cur_pick.calls g s0_0 s0_1 s0_2 (l1.length:Int) t154 t155 t156 w0 _ ?side1 ?side2 A3.out).mono ?_);(case side1=>repeat (first|(with_reducible first|exact HI0.out|apply IsS52.alloc|apply IsS52.drewN|apply IsS52.drew|apply IsS52.set_1|apply IsS52.set_2)|exact HI0.out));(case side2=>repeat (first|(with_reducible first|exact HB.out|apply below_alloc|apply pw_below_drewN|apply below_drew1|refine below_set ?_ (IsS52.ge HI0.out))|exact HB.out));rintro e w6 ⟨rfl,hi,hb,hk⟩;refine⟨_,rfl,?_⟩;replace HK:=A_ (KeepBut.trans (y2 HK.out) hk (.inl rfl));replace HB:=A_ (hb);replace HI0:=A_ (hi);(try clear hb);(try clear hb2);(try clear hk);(try clear hi);have p157:0≤(t154:Int):=od_;have q157:t154<(l1.length:Int):=od_;obtain⟨ad157,e157,hx157_0⟩:=Kd.at_int HR1.out t154 p157 q157;cases e157;replace hx157_0:=keep_cell HK.out hx157_0 (by first|(rw[add_block];exact hf1 _ rfl (by omega))|exact hf1 _ rfl (by omega)|exact hf1 ad157 rfl (by omega));replace p157:=eq_true p157;replace q157:=eq_true q157))
 go_ret
 exact⟨rr_,y1 HI0.out,y0 HB.out,y2 HK.out⟩
end Go.Proofs.YtoeenmajdidfoaaDoor.Q

