-- Written by a program of this session; it walks the functions that the law reaches.
import Derived.Test.YtghogonibanieaaQx0
import Derived.Test.YtghogonibanieaaQx9
import Derived.Test.YtghogonibanieaaQx18
import Derived.Test.YtghogonibanieaaQx24
import Derived.Test.YtghogonibanieaaQx1
import Derived.Test.YtghogonibanieaaQx3
import Derived.Test.YtghogonibanieaaQx5
import Derived.Test.YtghogonibanieaaQx15
namespace Go.Proofs.Ytghogonibanieaa.Q
open Go.RowKit Go.Proofs.YtghogonibanieaaW.PrintWords Go.Proofs.YtghogonibanieaaW.PrintLast Go.Proofs.YtghogonibanieaaW.PrintMore
attribute [local go_sem] max2_int min2_int max_two min_two max_three min_three max_four min_four   -- for this text's walks alone
set_option linter.unusedVariables false
set_option linter.unusedSimpArgs false
set_option maxRecDepth 100000
set_option maxHeartbeats 8000000


/-! ### impl_CheckModule: function 14 (walked by hand) -/
def modC (k:Nat) (fs:List S59) (gs:List S63) (mem:Bool):Nat→Nat→Option (Int × Int × Int)
 |0,_=>some (0,0,0)
 |n+1,i=>(checkC k fs gs mem (i:Int)).bind fun r=>if r.1=0 then modC k fs gs mem n (i+1) else some (r.1,(i:Int),r.2.1)
def impl_CheckModule.f (k:Nat) (l0_0:List (S59)) (l0_1:List (S63)) (a0_2:Bool) (a0_3:Int) (a0_4:Int) (a0_5:Int):Option (Int × Int × Int):=(impl_GoodShape.f k l0_0 l0_1 a0_2 a0_3 a0_4 a0_5).bind fun t=>if t=true then modC k l0_0 l0_1 a0_2 l0_0.length 0 else some (1,0,0)
theorem impl_CheckModule.calls (k:Nat) (A0_0:Option Addr) (c0_0:Nat) (l0_0:List (S59)) (A0_1:Option Addr) (c0_1:Nat) (l0_1:List (S63)) (a0_2:Bool) (a0_3:Int) (a0_4:Int) (a0_5:Int) (r1:Int) (r2:Int) (r3:Int) (w:World) (hr0_0:Kd.C k59 w A0_0 l0_0.length l0_0) (hc0_0:l0_0.length≤c0_0) (hr0_1:Kd.C k63 w A0_1 l0_1.length l0_1) (hc0_1:l0_1.length≤c0_1) (h:impl_CheckModule.f k l0_0 l0_1 a0_2 a0_3 a0_4 a0_5=some (r1,r2,r3)):
  Calls Try.prog 14 #[.agg #[.slice A0_0 l0_0.length c0_0,.slice A0_1 l0_1.length c0_1,.bool a0_2,.int .i64 a0_3,.int .i64 a0_4,.int .i64 a0_5]] w fun e w'=>e=.returned (.tuple #[.int .i64 r1,.int .i64 r2,.int .i64 r3])∧Below w.heap.size w w':=by
 have hu32:=Try.underlying32
 have hmax:=Kd.C_max hr0_0
 have HR0:=A_ hr0_0
 have HR1:=A_ hr0_1
 have HC0:=A_ hc0_0
 have HC1:=A_ hc0_1
 have HB:=A_ (Below.refl w.heap.size w)
 unfold impl_CheckModule.f at h
 clear hr0_0 hr0_1 hc0_0 hc0_1
 obtain⟨t,A8,h⟩:=Option.bind_eq_some_iff.1 h
 have A8:=A_ A8
 cases t with
 |false=>
  rw[if_neg Bool.false_ne_true] at h
  simp only[Option.some.injEq,Prod.mk.injEq] at h
  obtain⟨rfl,rfl,rfl⟩:=h
  go_enter Try.func14,Try.ntmps14
  go_wp2_with (first|((with_reducible refine gd_ 1 rfl ?_);(try (refine gate_guard (by rfl) ?_;dsimp only));refine bx_ #[.slice A0_0 l0_0.length c0_0,.slice A0_1 l0_1.length c0_1,.bool a0_2,.int .i64 a0_3,.int .i64 a0_4,.int .i64 a0_5] 32 ?_;intro gx hg wx hbox hb;have BX:=A_ hbox;have n0_:=bs_ HB hb;clear HB;have HB:=n0_;clear n0_ hb hbox hg;have x0:=(blk_cell BX.out 0).trans rfl;have x1:=(blk_cell BX.out 1).trans rfl;have x2:=(blk_cell BX.out 2).trans rfl;have x3:=(blk_cell BX.out 3).trans rfl;have x4:=(blk_cell BX.out 4).trans rfl;have x5:=(blk_cell BX.out 5).trans rfl)|(go_at_call 22;(with_reducible refine(impl_GoodShape.calls k _ _ l0_0 _ _ l0_1 a0_2 a0_3 a0_4 a0_5 false _ ?side1 HC0.out ?side3 HC1.out A8.out).mono ?_);(case side1=>exact cb_ HR0 HB);(case side3=>exact cb_ HR1 HB);rintro e wy ⟨rfl,hb⟩;replace BX:=A_ (blk_below (bk BX.out) hb);replace HB:=bs_ HB hb;clear hb x0 x1 x2 x3 x4 x5;have x0:=(blk_cell BX.out 0).trans rfl))
  go_ret3
  exact⟨rfl,bw HB.out⟩
 |true=>
  rw[if_pos rfl] at h
  have HR:=A_ h
  clear h
  go_enter Try.func14,Try.ntmps14
  go_wp2_with (first|((with_reducible refine gd_ 1 rfl ?_);(try (refine gate_guard (by rfl) ?_;dsimp only));refine bx_ #[.slice A0_0 l0_0.length c0_0,.slice A0_1 l0_1.length c0_1,.bool a0_2,.int .i64 a0_3,.int .i64 a0_4,.int .i64 a0_5] 32 ?_;intro gx hg wx hbox hb;have BX:=A_ hbox;have n0_:=bs_ HB hb;clear HB;have HB:=n0_;clear n0_ hb hbox hg;have x0:=(blk_cell BX.out 0).trans rfl;have x1:=(blk_cell BX.out 1).trans rfl;have x2:=(blk_cell BX.out 2).trans rfl;have x3:=(blk_cell BX.out 3).trans rfl;have x4:=(blk_cell BX.out 4).trans rfl;have x5:=(blk_cell BX.out 5).trans rfl)|(go_at_call 22;(with_reducible refine(impl_GoodShape.calls k _ _ l0_0 _ _ l0_1 a0_2 a0_3 a0_4 a0_5 true _ ?side1 HC0.out ?side3 HC1.out A8.out).mono ?_);(case side1=>exact cb_ HR0 HB);(case side3=>exact cb_ HR1 HB);rintro e wy ⟨rfl,hb⟩;replace BX:=A_ (blk_below (bk BX.out) hb);replace HB:=bs_ HB hb;clear hb x0 x1 x2 x3 x4 x5;have x0:=(blk_cell BX.out 0).trans rfl))
  go_loopg [15] l0_0.length (fun kq v15 w'=>∃ (j kk:Nat),kk=kq∧j+kk=l0_0.length∧v15=.int .i64 j∧Aside0 (modC k l0_0 l0_1 a0_2 kk j=some (r1,r2,r3))∧Aside0 (w'.heap[gx]? =some (.cells #[.slice A0_0 l0_0.length c0_0,.slice A0_1 l0_1.length c0_1,.bool a0_2,.int .i64 a0_3,.int .i64 a0_4,.int .i64 a0_5] 32 (0,0)))∧Aside0 (Below w.heap.size w w'))
  case atStart=>exact⟨0,_,rfl,by omega,rfl,HR,⟨bk BX.out⟩,⟨bw HB.out⟩⟩
  case round=>
   clear HR BX HB x0
   obtain⟨j,kk,hkk,hjk,rfl,HR,BX,HB⟩:=hrel
   have HKK:=A_ hkk
   clear hkk
   rcases Nat.eq_zero_or_pos kk with hk0|hk0
   ·
    subst hk0
    obtain rfl:j=l0_0.length:=by omega
    have hR':=HR.out
    rw[modC] at hR'
    simp only[Option.some.injEq,Prod.mk.injEq] at hR'
    obtain⟨rfl,rfl,rfl⟩:=hR'
    clear HR
    go_wp2
    go_ret3
    exact⟨rfl,bw HB.out⟩
   obtain⟨km,rfl⟩:∃ km,kk=km+1:=⟨kk - 1,by omega⟩
   have hR':=HR.out
   rw[modC] at hR'
   obtain⟨⟨ra,rb,rc⟩,A9,hR'⟩:=Option.bind_eq_some_iff.1 hR'
   have A9:=A_ A9
   have hlt:j<l0_0.length:=by omega
   have q7:decide ((j:Int)<(l0_0.length:Int))=true:=decide_eq_true (by omega)
   have q8:=decide_eq_true hlt
   have ew:IntKind.i64.wrap ((j:Int)+1)=((j+1:Nat):Int):=ck_w _ (by omega)
   clear HR hlt
   by_cases hz:ra=0
   ·
    have hR2:=(if_pos hz).symm.trans hR'
    have HRn:=A_ hR2
    have bz:(ra !=0)=false:=bne_eq_false_iff_eq.2 hz
    clear hR' hR2 hz
    go_wp2_with (first|(go_at_call 23;refine(check_any k l0_0 l0_1 a0_2 (j:Int) gx ra rb rc _ ⟨gx,A0_0,c0_0,A0_1,c0_1,rfl,(blk_cell (bk BX.out) 0).trans rfl,(blk_cell (bk BX.out) 1).trans rfl,(blk_cell (bk BX.out) 2).trans rfl,Kd.C_below HR0.out (bw HB.out),Kd.C_below HR1.out (bw HB.out)⟩ A9.out).mono ?_;rintro e wz ⟨rfl,hb⟩;replace BX:=A_ (blk_below (bk BX.out) hb);replace HB:=bs_ HB hb;clear hb))
    go_roundg km
    case measure=>have:=HKK.out;omega
    case rel=>exact⟨j+1,km,rfl,by omega,by first|rfl|(rw[ew]),HRn,⟨bk BX.out⟩,⟨bw HB.out⟩⟩
   have hR2:=(if_neg hz).symm.trans hR'
   simp only[Option.some.injEq,Prod.mk.injEq] at hR2
   obtain⟨rfl,rfl,rfl⟩:=hR2
   have bz:(ra !=0)=true:=bne_iff_ne.2 hz
   clear hz
   go_wp2_with (first|(go_at_call 23;refine(check_any k l0_0 l0_1 a0_2 (j:Int) gx ra rb rc _ ⟨gx,A0_0,c0_0,A0_1,c0_1,rfl,(blk_cell (bk BX.out) 0).trans rfl,(blk_cell (bk BX.out) 1).trans rfl,(blk_cell (bk BX.out) 2).trans rfl,Kd.C_below HR0.out (bw HB.out),Kd.C_below HR1.out (bw HB.out)⟩ A9.out).mono ?_;rintro e wz ⟨rfl,hb⟩;replace BX:=A_ (blk_below (bk BX.out) hb);replace HB:=bs_ HB hb;clear hb))
   go_ret3
   exact⟨rfl,bw HB.out⟩

/-! ### laws_FnExactCheckModule: function 5 -/
def laws_FnExactCheckModule.j0:Nat→Bool→List (S56)→List (S75)→Bool→Int→Int→Int→List (S59)→List (S63)→Bool→Int→Int→Int→Option (Bool)
 |0,_,_,_,_,_,_,_,_,_,_,_,_,_=>none
 |k+1,x43,x382000,x382001,x382002,x382003,x382004,x382005,x407000,x407001,x407002,x407003,x407004,x407005=>if x43=true then (some false) else ((laws_toModule.f k x382000 x382001 x382002 x382003 x382004 x382005).bind fun bt410=>((laws_eqModule.f k x407000 x407001 x407002 x407003 x407004 x407005 bt410.1 bt410.2.1 bt410.2.2.1 bt410.2.2.2.1 bt410.2.2.2.2.1 bt410.2.2.2.2.2).bind fun t420=>(if t420=true then (some true) else (some false))))
def laws_FnExactCheckModule.f (k:Nat) (l0_0:List (S56)) (l0_1:List (S75)) (a0_2:Bool) (a0_3:Int) (a0_4:Int) (a0_5:Int):Option (Bool):=(laws_szModule.f k l0_0 l0_1 a0_2 a0_3 a0_4 a0_5 1048576).bind fun t382=>(if t382<0 then (some true) else ((laws_toModule.f k l0_0 l0_1 a0_2 a0_3 a0_4 a0_5).bind fun bt383=>((spec_CheckModule.f k bt383.1 bt383.2.1 bt383.2.2.1 bt383.2.2.2.1 bt383.2.2.2.2.1 bt383.2.2.2.2.2).bind fun bt393=>((laws_toModule.f k l0_0 l0_1 a0_2 a0_3 a0_4 a0_5).bind fun bt396=>((impl_CheckModule.f k bt396.1 bt396.2.1 bt396.2.2.1 bt396.2.2.2.1 bt396.2.2.2.2.1 bt396.2.2.2.2.2).bind fun bt407=>(if bt407.1=bt393.1 then (if bt407.2.1=bt393.2.1 then (laws_FnExactCheckModule.j0 k (bt407.2.2 !=bt393.2.2) l0_0 l0_1 a0_2 a0_3 a0_4 a0_5 bt396.1 bt396.2.1 bt396.2.2.1 bt396.2.2.2.1 bt396.2.2.2.2.1 bt396.2.2.2.2.2) else (laws_FnExactCheckModule.j0 k true l0_0 l0_1 a0_2 a0_3 a0_4 a0_5 bt396.1 bt396.2.1 bt396.2.2.1 bt396.2.2.2.1 bt396.2.2.2.2.1 bt396.2.2.2.2.2)) else (laws_FnExactCheckModule.j0 k true l0_0 l0_1 a0_2 a0_3 a0_4 a0_5 bt396.1 bt396.2.1 bt396.2.2.1 bt396.2.2.2.1 bt396.2.2.2.2.1 bt396.2.2.2.2.2)))))))
theorem laws_FnExactCheckModule.calls (k:Nat) (A0_0:Option Addr) (c0_0:Nat) (l0_0:List (S56)) (A0_1:Option Addr) (c0_1:Nat) (l0_1:List (S75)) (a0_2:Bool) (a0_3:Int) (a0_4:Int) (a0_5:Int) (r:Bool) (w:World) (hr0_0:Kd.C k56 w A0_0 l0_0.length l0_0) (hc0_0:l0_0.length≤c0_0) (hr0_1:Kd.C k75 w A0_1 l0_1.length l0_1) (hc0_1:l0_1.length≤c0_1) (hTrue:r=true) (h:laws_FnExactCheckModule.f k l0_0 l0_1 a0_2 a0_3 a0_4 a0_5=some r):
  Calls Try.prog 5 #[.agg #[.slice A0_0 l0_0.length c0_0,.slice A0_1 l0_1.length c0_1,.bool a0_2,.int .i64 a0_3,.int .i64 a0_4,.int .i64 a0_5]] w fun e w'=>e=.returned (.bool r)∧Below w.heap.size w w':=by
 have hu25:=Try.underlying25
 have hu32:=Try.underlying32
 have HR0_0:=A_ hr0_0
 have HC0_0:=A_ hc0_0
 clear hr0_0 hc0_0
 have HR0_1:=A_ hr0_1
 have HC0_1:=A_ hc0_1
 clear hr0_1 hc0_1
 have HB:=A_ (Below.refl w.heap.size w)
 have H:((laws_szModule.f k l0_0 l0_1 a0_2 a0_3 a0_4 a0_5 1048576).bind fun t382=>(if t382<0 then (some true) else ((laws_toModule.f k l0_0 l0_1 a0_2 a0_3 a0_4 a0_5).bind fun bt383=>((spec_CheckModule.f k bt383.1 bt383.2.1 bt383.2.2.1 bt383.2.2.2.1 bt383.2.2.2.2.1 bt383.2.2.2.2.2).bind fun bt393=>((laws_toModule.f k l0_0 l0_1 a0_2 a0_3 a0_4 a0_5).bind fun bt396=>((impl_CheckModule.f k bt396.1 bt396.2.1 bt396.2.2.1 bt396.2.2.2.1 bt396.2.2.2.2.1 bt396.2.2.2.2.2).bind fun bt407=>(if bt407.1=bt393.1 then (if bt407.2.1=bt393.2.1 then (laws_FnExactCheckModule.j0 k (bt407.2.2 !=bt393.2.2) l0_0 l0_1 a0_2 a0_3 a0_4 a0_5 bt396.1 bt396.2.1 bt396.2.2.1 bt396.2.2.2.1 bt396.2.2.2.2.1 bt396.2.2.2.2.2) else (laws_FnExactCheckModule.j0 k true l0_0 l0_1 a0_2 a0_3 a0_4 a0_5 bt396.1 bt396.2.1 bt396.2.2.1 bt396.2.2.2.1 bt396.2.2.2.2.1 bt396.2.2.2.2.2)) else (laws_FnExactCheckModule.j0 k true l0_0 l0_1 a0_2 a0_3 a0_4 a0_5 bt396.1 bt396.2.1 bt396.2.2.1 bt396.2.2.2.1 bt396.2.2.2.2.1 bt396.2.2.2.2.2))))))))=some r:=h
 clear h
 have HT:=A_ hTrue
 clear hTrue
 replace H:=bi_ H
 obtain⟨t382,A20,H⟩:=H
 have A2:=A_ A20
 clear A20
 by_cases c3:t382<0
 ·
  rw[if_pos c3] at H
  have c3b0:=decide_eq_true c3
  clear c3
  obtain rfl:=Option.some.inj H
  clear H
  go_enter Try.func5,Try.ntmps5
  go_wp2_with (first|((with_reducible refine gd_ 1 rfl ?_);refine bx_ #[.slice A0_0 l0_0.length c0_0,.slice A0_1 l0_1.length c0_1,.bool a0_2,.int .i64 a0_3,.int .i64 a0_4,.int .i64 a0_5] 25 ?_;intro gb381 hg w4 hbox hb;have BK381:=A_ hbox;have GW381:=gw_ hg HB;have GE381:=GW381;replace HB:=bs_ HB hb;clear hb hbox hg;obtain⟨hcz5_0,hcz5_1,hcz5_2,hcz5_3,hcz5_4,hcz5_5⟩:=cs6_ BK381.out;obtain⟨hfz5_0,hfz5_1,hfz5_2,hfz5_3,hfz5_4,hfz5_5⟩:=fz6_ BK381.out)|((with_reducible refine gc_ 6 rfl ?_);refine gm_ (some 13) Try.func6 (laws_szModule.calls k _ _ l0_0 _ _ l0_1 a0_2 a0_3 a0_4 a0_5 1048576 t382 _ (cb_ HR0_0 HB) HC0_0.out (cb_ HR0_1 HB) HC0_1.out A2.out) ?_;intro w6 hb;replace BK381:=kb_ BK381 hb;replace HB:=bs_ HB hb;(try clear hb)))
  go_ret
  exact⟨rr_,bw HB.out⟩
 rw[if_neg c3] at H
 have c3b0:=decide_eq_false c3
 clear c3
 replace H:=Option.bind_eq_some_iff.mp H
 obtain⟨⟨t383,t386,t389,t390,t391,t392⟩,A70,H⟩:=H
 replace H:((spec_CheckModule.f k t383 t386 t389 t390 t391 t392).bind fun bt393=>((laws_toModule.f k l0_0 l0_1 a0_2 a0_3 a0_4 a0_5).bind fun bt396=>((impl_CheckModule.f k bt396.1 bt396.2.1 bt396.2.2.1 bt396.2.2.2.1 bt396.2.2.2.2.1 bt396.2.2.2.2.2).bind fun bt407=>(if bt407.1=bt393.1 then (if bt407.2.1=bt393.2.1 then (laws_FnExactCheckModule.j0 k (bt407.2.2 !=bt393.2.2) l0_0 l0_1 a0_2 a0_3 a0_4 a0_5 bt396.1 bt396.2.1 bt396.2.2.1 bt396.2.2.2.1 bt396.2.2.2.2.1 bt396.2.2.2.2.2) else (laws_FnExactCheckModule.j0 k true l0_0 l0_1 a0_2 a0_3 a0_4 a0_5 bt396.1 bt396.2.1 bt396.2.2.1 bt396.2.2.2.1 bt396.2.2.2.2.1 bt396.2.2.2.2.2)) else (laws_FnExactCheckModule.j0 k true l0_0 l0_1 a0_2 a0_3 a0_4 a0_5 bt396.1 bt396.2.1 bt396.2.2.1 bt396.2.2.2.1 bt396.2.2.2.2.1 bt396.2.2.2.2.2)))))=some r:=H
 have A7:=A_ A70
 clear A70
 replace H:=Option.bind_eq_some_iff.mp H
 obtain⟨⟨t393,t394,t395⟩,A80,H⟩:=H
 replace H:((laws_toModule.f k l0_0 l0_1 a0_2 a0_3 a0_4 a0_5).bind fun bt396=>((impl_CheckModule.f k bt396.1 bt396.2.1 bt396.2.2.1 bt396.2.2.2.1 bt396.2.2.2.2.1 bt396.2.2.2.2.2).bind fun bt407=>(if bt407.1=t393 then (if bt407.2.1=t394 then (laws_FnExactCheckModule.j0 k (bt407.2.2 !=t395) l0_0 l0_1 a0_2 a0_3 a0_4 a0_5 bt396.1 bt396.2.1 bt396.2.2.1 bt396.2.2.2.1 bt396.2.2.2.2.1 bt396.2.2.2.2.2) else (laws_FnExactCheckModule.j0 k true l0_0 l0_1 a0_2 a0_3 a0_4 a0_5 bt396.1 bt396.2.1 bt396.2.2.1 bt396.2.2.2.1 bt396.2.2.2.2.1 bt396.2.2.2.2.2)) else (laws_FnExactCheckModule.j0 k true l0_0 l0_1 a0_2 a0_3 a0_4 a0_5 bt396.1 bt396.2.1 bt396.2.2.1 bt396.2.2.2.1 bt396.2.2.2.2.1 bt396.2.2.2.2.2))))=some r:=H
 have A8:=A_ A80
 clear A80
 replace H:=Option.bind_eq_some_iff.mp H
 obtain⟨⟨t396,t399,t402,t403,t404,t405⟩,A90,H⟩:=H
 replace H:((impl_CheckModule.f k t396 t399 t402 t403 t404 t405).bind fun bt407=>(if bt407.1=t393 then (if bt407.2.1=t394 then (laws_FnExactCheckModule.j0 k (bt407.2.2 !=t395) l0_0 l0_1 a0_2 a0_3 a0_4 a0_5 t396 t399 t402 t403 t404 t405) else (laws_FnExactCheckModule.j0 k true l0_0 l0_1 a0_2 a0_3 a0_4 a0_5 t396 t399 t402 t403 t404 t405)) else (laws_FnExactCheckModule.j0 k true l0_0 l0_1 a0_2 a0_3 a0_4 a0_5 t396 t399 t402 t403 t404 t405)))=some r:=H
 have A9:=A_ A90
 clear A90
 replace H:=Option.bind_eq_some_iff.mp H
 obtain⟨⟨t407,t408,t409⟩,A100,H⟩:=H
 replace H:(if t407=t393 then (if t408=t394 then (laws_FnExactCheckModule.j0 k (t409 !=t395) l0_0 l0_1 a0_2 a0_3 a0_4 a0_5 t396 t399 t402 t403 t404 t405) else (laws_FnExactCheckModule.j0 k true l0_0 l0_1 a0_2 a0_3 a0_4 a0_5 t396 t399 t402 t403 t404 t405)) else (laws_FnExactCheckModule.j0 k true l0_0 l0_1 a0_2 a0_3 a0_4 a0_5 t396 t399 t402 t403 t404 t405))=some r:=H
 have A10:=A_ A100
 clear A100
 have HC11:=A_ H
 clear H
 go_enter Try.func5,Try.ntmps5
 go_upto_region 8 with (first|((with_reducible refine gd_ 1 rfl ?_);refine bx_ #[.slice A0_0 l0_0.length c0_0,.slice A0_1 l0_1.length c0_1,.bool a0_2,.int .i64 a0_3,.int .i64 a0_4,.int .i64 a0_5] 25 ?_;intro gb381 hg w12 hbox hb;have BK381:=A_ hbox;have GW381:=gw_ hg HB;have GE381:=GW381;replace HB:=bs_ HB hb;clear hb hbox hg;obtain⟨hcz13_0,hcz13_1,hcz13_2,hcz13_3,hcz13_4,hcz13_5⟩:=cs6_ BK381.out;obtain⟨hfz13_0,hfz13_1,hfz13_2,hfz13_3,hfz13_4,hfz13_5⟩:=fz6_ BK381.out)|((with_reducible refine gc_ 6 rfl ?_);refine gm_ (some 13) Try.func6 (laws_szModule.calls k _ _ l0_0 _ _ l0_1 a0_2 a0_3 a0_4 a0_5 1048576 t382 _ (cb_ HR0_0 HB) HC0_0.out (cb_ HR0_1 HB) HC0_1.out A2.out) ?_;intro w14 hb;replace BK381:=kb_ BK381 hb;replace HB:=bs_ HB hb;(try clear hb);obtain⟨hcz15_0,hcz15_1,hcz15_2,hcz15_3,hcz15_4,hcz15_5⟩:=cs6_ BK381.out;obtain⟨hfz15_0,hfz15_1,hfz15_2,hfz15_3,hfz15_4,hfz15_5⟩:=fz6_ BK381.out)|((with_reducible refine gc_ 8 rfl ?_);refine goesL_ (some 18) rfl rfl Try.func8 (by kernel_rfl) rfl #[.agg #[.slice A0_0 l0_0.length c0_0,.slice A0_1 l0_1.length c0_1,.bool a0_2,.int .i64 a0_3,.int .i64 a0_4,.int .i64 a0_5]] rfl ar ?_;(with_reducible refine(laws_toModule.calls k _ _ l0_0 _ _ l0_1 a0_2 a0_3 a0_4 a0_5 t383 t386 t389 t390 t391 t392 _ ?side1 ?side2 ?side3 ?side4 A7.out).mono ?_);(case side1=>exact cb_ HR0_0 HB);(case side2=>exact HC0_0.out);(case side3=>exact cb_ HR0_1 HB);(case side4=>exact HC0_1.out);rintro e w16 ⟨v384,v387,rfl,ho0,ho1,hb⟩;refine⟨_,rfl,?_⟩;have HO385:=A_ (Kd.S_lower ho0 (below_size (bw HB.out)));have HO388:=A_ (Kd.R_lower ho1 (below_size (bw HB.out)));replace BK381:=kb_ BK381 hb;replace HB:=bs_ HB hb;(try clear hb);(try clear hb2);(try clear hk);(try clear hi);(try clear ho0);(try clear ho1);obtain⟨Ao17,co17,eo17⟩:=Kd.S_slice HO385.out;subst eo17;obtain⟨Ao18,co18,eo18⟩:=Kd.R_slice HO388.out;subst eo18)|((with_reducible refine gc_ 13 rfl ?_);refine goesL_ (some 19) rfl rfl Try.func13 (by kernel_rfl) rfl #[.agg #[.slice Ao17 t383.length co17,.slice Ao18 t386.length co18,.bool t389,.int .i64 t390,.int .i64 t391,.int .i64 t392]] rfl ar ?_;(with_reducible refine(spec_CheckModule.calls k _ _ t383 _ _ t386 t389 t390 t391 t392 t393 t394 t395 _ ?side1 ?side2 ?side3 ?side4 A8.out).mono ?_);(case side1=>repeat (first|exact(Kd.S_reads' HO385.out).2.2|(with_reducible refine Kd.C_alloc ?_ _)|(with_reducible refine Kd.C_drewN ?_ _)|(with_reducible refine Kd.C_drew ?_)));(case side2=>exact(Kd.S_reads' HO385.out).2.1);(case side3=>repeat (first|exact(Kd.R_reads' HO388.out).2.2|(with_reducible refine Kd.C_alloc ?_ _)|(with_reducible refine Kd.C_drewN ?_ _)|(with_reducible refine Kd.C_drew ?_)));(case side4=>exact(Kd.R_reads' HO388.out).2.1);rintro e w19 ⟨rfl,hb⟩;refine⟨_,rfl,?_⟩;replace HO385:=A_ (Kd.S_below (ks_ HO385.out) hb);replace HO388:=A_ (Kd.R_below (kr_ HO388.out) hb);replace BK381:=kb_ BK381 hb;replace HB:=bs_ HB hb;(try clear hb);obtain⟨hcz20_0,hcz20_1,hcz20_2,hcz20_3,hcz20_4,hcz20_5⟩:=cs6_ BK381.out;obtain⟨hfz20_0,hfz20_1,hfz20_2,hfz20_3,hfz20_4,hfz20_5⟩:=fz6_ BK381.out)|((with_reducible refine gc_ 8 rfl ?_);refine goesL_ (some 24) rfl rfl Try.func8 (by kernel_rfl) rfl #[.agg #[.slice A0_0 l0_0.length c0_0,.slice A0_1 l0_1.length c0_1,.bool a0_2,.int .i64 a0_3,.int .i64 a0_4,.int .i64 a0_5]] rfl ar ?_;(with_reducible refine(laws_toModule.calls k _ _ l0_0 _ _ l0_1 a0_2 a0_3 a0_4 a0_5 t396 t399 t402 t403 t404 t405 _ ?side1 ?side2 ?side3 ?side4 A9.out).mono ?_);(case side1=>exact cb_ HR0_0 HB);(case side2=>exact HC0_0.out);(case side3=>exact cb_ HR0_1 HB);(case side4=>exact HC0_1.out);rintro e w21 ⟨v397,v400,rfl,ho0,ho1,hb⟩;refine⟨_,rfl,?_⟩;have HO398:=A_ (Kd.S_lower (Kd.S_new' ho0 (Kd.S_lt (ks_ HO385.out))) (below_size (bw HB.out)));have HO401:=A_ (Kd.R_lower (Kd.R_new' ho1 (Kd.R_lt (kr_ HO388.out))) (below_size (bw HB.out)));replace HO385:=A_ (Kd.S_elder' (ks_ HO385.out) (Kd.S_base ho0) hb);replace HO388:=A_ (Kd.R_elder' (kr_ HO388.out) (Kd.R_base ho1) hb);replace BK381:=kb_ BK381 hb;replace HB:=bs_ HB hb;(try clear hb);(try clear hb2);(try clear hk);(try clear hi);(try clear ho0);(try clear ho1))|((with_reducible refine gd_ 7 rfl ?_);refine bx_ #[.slice none 0 0,.slice none 0 0,.bool false,.int .i64 0,.int .i64 0,.int .i64 0] 32 ?_;intro gb406 hg w22 hbox hb;have BK406:=A_ hbox;have GW406:=gw_ hg HB;have GE406:=GW406;obtain⟨NB381_406,NB406_381⟩:=nb_ BK381 hg;replace HO385:=A_ (Kd.S_below (ks_ HO385.out) hb);replace HO388:=A_ (Kd.R_below (kr_ HO388.out) hb);replace HO398:=A_ (Kd.S_below (ks_ HO398.out) hb);replace HO401:=A_ (Kd.R_below (kr_ HO401.out) hb);replace BK381:=kb_ BK381 hb;replace HB:=bs_ HB hb;clear hb hbox hg;obtain⟨Ao23,co23,eo23⟩:=Kd.S_slice HO398.out;subst eo23;have hnb24:=NB406_381.out;have hnc24:=NB381_406.out;obtain⟨hcz25_0,hcz25_1,hcz25_2,hcz25_3,hcz25_4,hcz25_5⟩:=cs6_ BK406.out;obtain⟨hfz25_0,hfz25_1,hfz25_2,hfz25_3,hfz25_4,hfz25_5⟩:=fz6_ BK406.out;obtain⟨Ao26,co26,eo26⟩:=Kd.R_slice HO401.out;subst eo26)|((with_reducible refine gate_store (t:=32) (p:=7) rfl ?_);refine store_event (t:=32) (p:=7) (v:=?vo_w27) (w1:=((((((w22.setCell ⟨gb406,0,none⟩ (.slice Ao23 t396.length co23)).setCell ⟨gb406,1,none⟩ (.slice Ao26 t399.length co26)).setCell ⟨gb406,2,none⟩ (.bool t402)).setCell ⟨gb406,3,none⟩ (.int .i64 t403)).setCell ⟨gb406,4,none⟩ (.int .i64 t404)).setCell ⟨gb406,5,none⟩ (.int .i64 t405))) ?hg ?ho ?hn ?hr ?_;(case ho=>rfl);(case hg=>rfl);(case hn=>rfl);(case hr=>first|(go_simp;done)|(go_simp;rfl));intro w27 hw;replace HO385:Aside0 (Kd.S k59 59 w27 w.heap.size (fun k_=>some k_≠(.slice Ao23 t396.length co23:Value).ownBlock) (.slice Ao17 t383.length co17) t383):=⟨(by rw[hw];exact(by(with_reducible repeat (first|apply Kd.S_alloc|apply Kd.S_drewN|apply Kd.S_drew));exact Kd.S_mono (Kd.S_far (p:=⟨gb406,5,none⟩) (Kd.S_far (p:=⟨gb406,4,none⟩) (Kd.S_far (p:=⟨gb406,3,none⟩) (Kd.S_far (p:=⟨gb406,2,none⟩) (Kd.S_far (p:=⟨gb406,1,none⟩) (Kd.S_far (p:=⟨gb406,0,none⟩) (Kd.S_types HO385.out BK406.out (by decide)) (fun _ hk=>hk.2) (.slice Ao23 t396.length co23)) (fun _ hk=>hk.2) (.slice Ao26 t399.length co26)) (fun _ hk=>hk.2) (.bool t402)) (fun _ hk=>hk.2) (.int .i64 t403)) (fun _ hk=>hk.2) (.int .i64 t404)) (fun _ hk=>hk.2) (.int .i64 t405)) (fun _ hk=>hk.1.2)))⟩;replace HO388:Aside0 (Kd.R k63 63 w27 w.heap.size (fun k_=>some k_≠(.slice Ao26 t399.length co26:Value).ownBlock) (.slice Ao18 t386.length co18) t386):=⟨(by rw[hw];exact(by(with_reducible repeat (first|apply Kd.R_alloc|apply Kd.R_drewN|apply Kd.R_drew));exact Kd.R_mono (Kd.R_far (p:=⟨gb406,5,none⟩) (Kd.R_far (p:=⟨gb406,4,none⟩) (Kd.R_far (p:=⟨gb406,3,none⟩) (Kd.R_far (p:=⟨gb406,2,none⟩) (Kd.R_far (p:=⟨gb406,1,none⟩) (Kd.R_far (p:=⟨gb406,0,none⟩) (Kd.R_types HO388.out BK406.out (by decide)) (fun _ hk=>hk.2) (.slice Ao23 t396.length co23)) (fun _ hk=>hk.2) (.slice Ao26 t399.length co26)) (fun _ hk=>hk.2) (.bool t402)) (fun _ hk=>hk.2) (.int .i64 t403)) (fun _ hk=>hk.2) (.int .i64 t404)) (fun _ hk=>hk.2) (.int .i64 t405)) (fun _ hk=>hk.1.2)))⟩;replace HO398:Aside0 (Kd.S k59 59 w27 w.heap.size (fun k_=>some k_≠(.slice Ao17 t383.length co17:Value).ownBlock) (.slice Ao23 t396.length co23) t396):=⟨(by rw[hw];exact(by(with_reducible repeat (first|apply Kd.S_alloc|apply Kd.S_drewN|apply Kd.S_drew));exact Kd.S_mono (Kd.S_far (p:=⟨gb406,5,none⟩) (Kd.S_far (p:=⟨gb406,4,none⟩) (Kd.S_far (p:=⟨gb406,3,none⟩) (Kd.S_far (p:=⟨gb406,2,none⟩) (Kd.S_far (p:=⟨gb406,1,none⟩) (Kd.S_far (p:=⟨gb406,0,none⟩) (Kd.S_types HO398.out BK406.out (by decide)) (fun _ hk=>hk.2) (.slice Ao23 t396.length co23)) (fun _ hk=>hk.2) (.slice Ao26 t399.length co26)) (fun _ hk=>hk.2) (.bool t402)) (fun _ hk=>hk.2) (.int .i64 t403)) (fun _ hk=>hk.2) (.int .i64 t404)) (fun _ hk=>hk.2) (.int .i64 t405)) (fun _ hk=>hk.1.2)))⟩;replace HO401:Aside0 (Kd.R k63 63 w27 w.heap.size (fun k_=>some k_≠(.slice Ao18 t386.length co18:Value).ownBlock) (.slice Ao26 t399.length co26) t399):=⟨(by rw[hw];exact(by(with_reducible repeat (first|apply Kd.R_alloc|apply Kd.R_drewN|apply Kd.R_drew));exact Kd.R_mono (Kd.R_far (p:=⟨gb406,5,none⟩) (Kd.R_far (p:=⟨gb406,4,none⟩) (Kd.R_far (p:=⟨gb406,3,none⟩) (Kd.R_far (p:=⟨gb406,2,none⟩) (Kd.R_far (p:=⟨gb406,1,none⟩) (Kd.R_far (p:=⟨gb406,0,none⟩) (Kd.R_types HO401.out BK406.out (by decide)) (fun _ hk=>hk.2) (.slice Ao23 t396.length co23)) (fun _ hk=>hk.2) (.slice Ao26 t399.length co26)) (fun _ hk=>hk.2) (.bool t402)) (fun _ hk=>hk.2) (.int .i64 t403)) (fun _ hk=>hk.2) (.int .i64 t404)) (fun _ hk=>hk.2) (.int .i64 t405)) (fun _ hk=>hk.1.2)))⟩;replace BK381:Aside0 (w27.heap[gb381]? =some (.cells #[.slice A0_0 l0_0.length c0_0,.slice A0_1 l0_1.length c0_1,.bool a0_2,.int .i64 a0_3,.int .i64 a0_4,.int .i64 a0_5] 25 (0,0))):=⟨(by rw[hw];exact(by refine blk_far ?_ NB381_406.out _;refine blk_far ?_ NB381_406.out _;refine blk_far ?_ NB381_406.out _;refine blk_far ?_ NB381_406.out _;refine blk_far ?_ NB381_406.out _;refine blk_far ?_ NB381_406.out _;(with_reducible repeat (first|refine blk_drewN ?_ _|refine blk_drew ?_|refine blk_alloc ?_ _));exact BK381.out))⟩;replace BK406:Aside0 (w27.heap[gb406]? =some (.cells #[.slice Ao23 t396.length co23,.slice Ao26 t399.length co26,.bool t402,.int .i64 t403,.int .i64 t404,.int .i64 t405] 32 (0,0))):=⟨(by rw[hw];exact(by refine blk_put (cs:=#[.slice Ao23 t396.length co23,.slice Ao26 t399.length co26,.bool t402,.int .i64 t403,.int .i64 t404,.int .i64 0]) ?_ 5 _ rfl;refine blk_put (cs:=#[.slice Ao23 t396.length co23,.slice Ao26 t399.length co26,.bool t402,.int .i64 t403,.int .i64 0,.int .i64 0]) ?_ 4 _ rfl;refine blk_put (cs:=#[.slice Ao23 t396.length co23,.slice Ao26 t399.length co26,.bool t402,.int .i64 0,.int .i64 0,.int .i64 0]) ?_ 3 _ rfl;refine blk_put (cs:=#[.slice Ao23 t396.length co23,.slice Ao26 t399.length co26,.bool false,.int .i64 0,.int .i64 0,.int .i64 0]) ?_ 2 _ rfl;refine blk_put (cs:=#[.slice Ao23 t396.length co23,.slice none 0 0,.bool false,.int .i64 0,.int .i64 0,.int .i64 0]) ?_ 1 _ rfl;refine blk_put (cs:=#[.slice none 0 0,.slice none 0 0,.bool false,.int .i64 0,.int .i64 0,.int .i64 0]) ?_ 0 _ rfl;(with_reducible repeat (first|refine blk_drewN ?_ _|refine blk_drew ?_|refine blk_alloc ?_ _));exact BK406.out))⟩;replace HB:Aside0 (Below w.heap.size w w27):=⟨(by rw[hw];exact(bw HB.out))⟩;clear hw;obtain⟨hcz28_0,hcz28_1,hcz28_2,hcz28_3,hcz28_4,hcz28_5⟩:=cs6_ BK406.out;obtain⟨hfz28_0,hfz28_1,hfz28_2,hfz28_3,hfz28_4,hfz28_5⟩:=fz6_ BK406.out)|((with_reducible refine gc_ 14 rfl ?_);refine goesL_ (some 27) rfl rfl Try.func14 (by kernel_rfl) rfl #[.agg #[.slice Ao23 t396.length co23,.slice Ao26 t399.length co26,.bool t402,.int .i64 t403,.int .i64 t404,.int .i64 t405]] rfl ar ?_;(with_reducible refine(impl_CheckModule.calls k _ _ t396 _ _ t399 t402 t403 t404 t405 t407 t408 t409 _ ?side1 ?side2 ?side3 ?side4 A10.out).mono ?_);(case side1=>repeat (first|exact(Kd.S_reads' HO398.out).2.2|(with_reducible refine Kd.C_alloc ?_ _)|(with_reducible refine Kd.C_drewN ?_ _)|(with_reducible refine Kd.C_drew ?_)));(case side2=>exact(Kd.S_reads' HO398.out).2.1);(case side3=>repeat (first|exact(Kd.R_reads' HO401.out).2.2|(with_reducible refine Kd.C_alloc ?_ _)|(with_reducible refine Kd.C_drewN ?_ _)|(with_reducible refine Kd.C_drew ?_)));(case side4=>exact(Kd.R_reads' HO401.out).2.1);rintro e w29 ⟨rfl,hb⟩;refine⟨_,rfl,?_⟩;replace HO385:=A_ (Kd.S_below (ks_ HO385.out) hb);replace HO388:=A_ (Kd.R_below (kr_ HO388.out) hb);replace HO398:=A_ (Kd.S_below (ks_ HO398.out) hb);replace HO401:=A_ (Kd.R_below (kr_ HO401.out) hb);replace BK381:=kb_ BK381 hb;replace BK406:=kb_ BK406 hb;replace HB:=bs_ HB hb;(try clear hb)))
 (try simp only[Act.put,List.setIfInBounds_toArray,List.set_cons_zero,List.set_cons_succ])
 go_cut [43] (fun v43 wc=>∃ (kq:Nat) (x43_10:Bool),v43=.bool x43_10∧Aside0 (laws_FnExactCheckModule.j0 kq x43_10 l0_0 l0_1 a0_2 a0_3 a0_4 a0_5 t396 t399 t402 t403 t404 t405=some r)∧Aside0 (kq≤k)∧Aside0 (Kd.S k59 59 wc w.heap.size (fun _=>True) (.slice Ao23 t396.length co23) t396)∧Aside0 (Kd.R k63 63 wc w.heap.size (fun _=>True) (.slice Ao26 t399.length co26) t399)∧Aside0 (wc.heap[gb381]? =some (.cells #[(.slice A0_0 l0_0.length c0_0),(.slice A0_1 l0_1.length c0_1),.bool a0_2,.int .i64 a0_3,.int .i64 a0_4,.int .i64 a0_5] 25 (0,0)))∧Aside0 (wc.heap[gb406]? =some (.cells #[(.slice Ao23 t396.length co23),(.slice Ao26 t399.length co26),.bool t402,.int .i64 t403,.int .i64 t404,.int .i64 t405] 32 (0,0)))∧Aside0 (Below w.heap.size w wc))
 case first=>
  have H:=HC11.out
  clear HC11
  by_cases c30:t407=t393
  ·
   rw[if_pos c30] at H
   obtain⟨c30b0,c30b1⟩:=eT_ c30
   clear c30
   (first|rw[c30b0]|(simp only[i64_w,i32_w];rw[c30b0])|skip)
   by_cases c31:t408=t394
   ·
    rw[if_pos c31] at H
    obtain⟨c31b0,c31b1⟩:=eT_ c31
    clear c31
    have H':=A_ H
    clear H
    go_wp2
    go_meet
    case rel=>exact⟨_,((t409 !=t395)),rs_,H',⟨by first|omega|exact Nat.le_refl _⟩,⟨by (with_reducible repeat (first|apply Kd.S_alloc|apply Kd.S_drewN|apply Kd.S_drew));exact Kd.S_mono HO398.out (fun _ hk=>trivial)⟩,⟨by (with_reducible repeat (first|apply Kd.R_alloc|apply Kd.R_drewN|apply Kd.R_drew));exact Kd.R_mono HO401.out (fun _ hk=>trivial)⟩,⟨bk BK381.out⟩,⟨bk BK406.out⟩,⟨bw HB.out⟩⟩
   rw[if_neg c31] at H
   obtain⟨c31b0,c31b1⟩:=eF_ c31
   have H':=A_ H
   clear H
   go_wp2
   go_meet
   case rel=>exact⟨_,(true),rs_,H',⟨by first|omega|exact Nat.le_refl _⟩,⟨by (with_reducible repeat (first|apply Kd.S_alloc|apply Kd.S_drewN|apply Kd.S_drew));exact Kd.S_mono HO398.out (fun _ hk=>trivial)⟩,⟨by (with_reducible repeat (first|apply Kd.R_alloc|apply Kd.R_drewN|apply Kd.R_drew));exact Kd.R_mono HO401.out (fun _ hk=>trivial)⟩,⟨bk BK381.out⟩,⟨bk BK406.out⟩,⟨bw HB.out⟩⟩
  rw[if_neg c30] at H
  obtain⟨c30b0,c30b1⟩:=eF_ c30
  (first|rw[c30b0]|(simp only[i64_w,i32_w];rw[c30b0])|skip)
  have H':=A_ H
  clear H
  go_wp2
  go_meet
  case rel=>exact⟨_,(true),rs_,H',⟨by first|omega|exact Nat.le_refl _⟩,⟨by (with_reducible repeat (first|apply Kd.S_alloc|apply Kd.S_drewN|apply Kd.S_drew));exact Kd.S_mono HO398.out (fun _ hk=>trivial)⟩,⟨by (with_reducible repeat (first|apply Kd.R_alloc|apply Kd.R_drewN|apply Kd.R_drew));exact Kd.R_mono HO401.out (fun _ hk=>trivial)⟩,⟨bk BK381.out⟩,⟨bk BK406.out⟩,⟨bw HB.out⟩⟩
 case rest=>
  clear HC11
  try clear c3 c3b0 hcz13_0 hcz13_1 hcz13_2 hcz13_3 hcz13_4 hcz13_5 hcz15_0 hcz15_1 hcz15_2 hcz15_3 hcz15_4 hcz15_5 hcz20_0 hcz20_1 hcz20_2 hcz20_3 hcz20_4 hcz20_5 hcz25_0 hcz25_1 hcz25_2 hcz25_3 hcz25_4 hcz25_5 hcz28_0 hcz28_1 hcz28_2 hcz28_3 hcz28_4 hcz28_5 hfz13_0 hfz13_1 hfz13_2 hfz13_3 hfz13_4 hfz13_5 hfz15_0 hfz15_1 hfz15_2 hfz15_3 hfz15_4 hfz15_5 hfz20_0 hfz20_1 hfz20_2 hfz20_3 hfz20_4 hfz20_5 hfz25_0 hfz25_1 hfz25_2 hfz25_3 hfz25_4 hfz25_5 hfz28_0 hfz28_1 hfz28_2 hfz28_3 hfz28_4 hfz28_5
  obtain⟨kq,x43_10,rfl,HA,HJ10,HO_407000,HO_407001,BK381,BK406,HB⟩:=hcut
  cases kq with
  |zero=>exact absurd HA.out (by simp[laws_FnExactCheckModule.j0])
  |succ kj10=>
   have H:=HA.out
   clear HA
   simp only[laws_FnExactCheckModule.j0] at H
   by_cases c32:x43_10=true
   ·
    subst c32
    replace H:=iT_ H
    obtain rfl:=Option.some.inj H
    exact absurd HT.out (by decide)
   replace c32:=Bool.eq_false_iff.mpr c32
   subst c32
   replace H:=iF_ H
   replace H:=Option.bind_eq_some_iff.mp H
   obtain⟨⟨t410,t413,t416,t417,t418,t419⟩,A330,H⟩:=H
   replace H:((laws_eqModule.f kj10 t396 t399 t402 t403 t404 t405 t410 t413 t416 t417 t418 t419).bind fun t420=>(if t420=true then (some true) else (some false)))=some r:=H
   have A33:=A_ A330
   clear A330
   replace H:=bi_ H
   obtain⟨t420,A340,H⟩:=H
   have A34:=A_ A340
   clear A340
   by_cases c35:t420=true
   ·
    subst c35
    replace H:=iT_ H
    obtain rfl:=Option.some.inj H
    clear H
    try go_wp2
    have n0_:=A_ (Kd.S_drew HO_407000.out)
    have n1_:=A_ (Kd.R_drew HO_407001.out)
    have n2_:=A_ (blk_drew BK381.out)
    have n3_:=A_ (blk_drew BK406.out)
    have n4_:=A_ (below_drew1 HB.out)
    clear HO_407000 HO_407001 BK381 BK406 HB
    have HO_407000:=n0_
    have HO_407001:=n1_
    have BK381:=n2_
    have BK406:=n3_
    have HB:=n4_
    clear n0_ n1_ n2_ n3_ n4_
    refine start_ (n:=5) (S:=fun w'=>w'.cell? ⟨gb406,0,none⟩=some (.slice Ao23 t396.length co23)∧w'.cell? ⟨gb406,1,none⟩=some (.slice Ao26 t399.length co26)∧w'.cell? ⟨gb406,2,none⟩=some (.bool t402)∧w'.cell? ⟨gb406,3,none⟩=some (.int .i64 t403)∧w'.cell? ⟨gb406,4,none⟩=some (.int .i64 t404)∧w'.cell? ⟨gb406,5,none⟩=some (.int .i64 t405)∧w'.cell? ⟨gb381,0,none⟩=some (.slice A0_0 l0_0.length c0_0)∧w'.cell? ⟨gb381,1,none⟩=some (.slice A0_1 l0_1.length c0_1)∧w'.cell? ⟨gb381,2,none⟩=some (.bool a0_2)∧w'.cell? ⟨gb381,3,none⟩=some (.int .i64 a0_3)∧w'.cell? ⟨gb381,4,none⟩=some (.int .i64 a0_4)∧w'.cell? ⟨gb381,5,none⟩=some (.int .i64 a0_5)) (ds:=[]) #[false,false,false,false,false] (by kernel_rfl) rfl rfl ⟨(blk_cell BK406.out 0).trans rfl,(blk_cell BK406.out 1).trans rfl,(blk_cell BK406.out 2).trans rfl,(blk_cell BK406.out 3).trans rfl,(blk_cell BK406.out 4).trans rfl,(blk_cell BK406.out 5).trans rfl,(blk_cell BK381.out 0).trans rfl,(blk_cell BK381.out 1).trans rfl,(blk_cell BK381.out 2).trans rfl,(blk_cell BK381.out 3).trans rfl,(blk_cell BK381.out 4).trans rfl,(blk_cell BK381.out 5).trans rfl⟩ (fun hHeld=>?_)
    generalize wc.drew=w36 at HO_407000 HO_407001 BK381 BK406 HB hHeld ⊢
    refine take_ (i:=0) (N:=some 44) (v:=?_) (a':=?_) #[true,false,false,false,false] rfl rfl (by kernel_rfl) (fun _ _ _ h=>h) (Or.inl ⟨by rfl,?_⟩) hHeld ?_ ?_
    rotate_left
    ·
     rintro w' ⟨s0,s1,s2,s3,s4,s5,s6,s7,s8,s9,s10,s11⟩
     go_simp
     with_reducible rfl
    rotate_left
    ·
     simp only[Act.put,List.setIfInBounds_toArray,List.set_cons_zero,List.set_cons_succ,i64_w,i32_w]
     rfl
    refine take_ (i:=1) (N:=some 45) (v:=?_) (a':=?_) #[true,true,false,false,false] rfl rfl (by kernel_rfl) (fun _ _ _ h=>h) (Or.inl ⟨by rfl,?_⟩) hHeld ?_ ?_
    rotate_left
    ·
     rintro w' ⟨s0,s1,s2,s3,s4,s5,s6,s7,s8,s9,s10,s11⟩
     go_simp
     with_reducible rfl
    rotate_left
    ·
     simp only[Act.put,List.setIfInBounds_toArray,List.set_cons_zero,List.set_cons_succ,i64_w,i32_w]
     rfl
    refine one_ (i:=2) (N:=some 46) #[true,true,true,false,false] rfl rfl (by kernel_rfl) (by decide) (fun K hK=>?_)
    refine goes_ Try.func8 (by kernel_rfl) rfl #[.agg #[.slice A0_0 l0_0.length c0_0,.slice A0_1 l0_1.length c0_1,.bool a0_2,.int .i64 a0_3,.int .i64 a0_4,.int .i64 a0_5]] (by rfl) rfl rfl ar ?_
    with_reducible refine(laws_toModule.calls kj10 _ _ l0_0 _ _ l0_1 a0_2 a0_3 a0_4 a0_5 t410 t413 t416 t417 t418 t419 _ ?side1 ?side2 ?side3 ?side4 A33.out).mono ?_
    (case side1=>repeat (first|exact(Kd.C_below HR0_0.out HB.out)|(with_reducible refine Kd.C_alloc ?_ _)|(with_reducible refine Kd.C_drewN ?_ _)|(with_reducible refine Kd.C_drew ?_)))
    (case side2=>exact HC0_0.out)
    (case side3=>repeat (first|exact(Kd.C_below HR0_1.out HB.out)|(with_reducible refine Kd.C_alloc ?_ _)|(with_reducible refine Kd.C_drewN ?_ _)|(with_reducible refine Kd.C_drew ?_)))
    (case side4=>exact HC0_1.out)
    rintro e w37 ⟨v411,v414,rfl,ho0,ho1,hb⟩
    refine⟨_,rfl,?_⟩
    have n0_:=A_ (Kd.S_elder' (ks_ HO_407000.out) (Kd.S_base ho0) hb)
    have n1_:=A_ (Kd.R_elder' (kr_ HO_407001.out) (Kd.R_base ho1) hb)
    have n2_:=A_ (Kd.S_lower (Kd.S_new' ho0 (Kd.S_lt (ks_ HO_407000.out))) (below_size (bw HB.out)))
    have n3_:=A_ (Kd.R_lower (Kd.R_new' ho1 (Kd.R_lt (kr_ HO_407001.out))) (below_size (bw HB.out)))
    have n4_:=A_ (blk_below (g:=gb381) (o:=.cells #[.slice A0_0 l0_0.length c0_0,.slice A0_1 l0_1.length c0_1,.bool a0_2,.int .i64 a0_3,.int .i64 a0_4,.int .i64 a0_5] 25 (0,0)) (bk BK381.out) hb)
    have n5_:=A_ (blk_below (g:=gb406) (o:=.cells #[.slice Ao23 t396.length co23,.slice Ao26 t399.length co26,.bool t402,.int .i64 t403,.int .i64 t404,.int .i64 t405] 32 (0,0)) (bk BK406.out) hb)
    have n6_:=A_ (below_step (bw HB.out) hb)
    clear HO_407000 HO_407001 BK381 BK406 HB
    have HO_407000:=n0_
    have HO_407001:=n1_
    have HO412:=n2_
    have HO415:=n3_
    have BK381:=n4_
    have BK406:=n5_
    have HB:=n6_
    clear n0_ n1_ n2_ n3_ n4_ n5_ n6_
    (try clear hb)
    (try clear hb2)
    (try clear hk)
    (try clear hi)
    (try clear ho0)
    (try clear ho1)
    obtain⟨Ao38,co38,eo38⟩:=Kd.S_slice HO412.out
    (first|subst eo38|(injection eo38 with f1_ f2_ f3_;have f4_:=f1_.symm;have f5_:=f3_.symm;clear f1_ f2_ f3_;subst f4_;subst f5_))
    obtain⟨Ao39,co39,eo39⟩:=Kd.R_slice HO415.out
    (first|subst eo39|(injection eo39 with f1_ f2_ f3_;have f4_:=f1_.symm;have f5_:=f3_.symm;clear f1_ f2_ f3_;subst f4_;subst f5_))
    refine hK.out _ _ ⟨(blk_cell BK406.out 0).trans rfl,(blk_cell BK406.out 1).trans rfl,(blk_cell BK406.out 2).trans rfl,(blk_cell BK406.out 3).trans rfl,(blk_cell BK406.out 4).trans rfl,(blk_cell BK406.out 5).trans rfl,(blk_cell BK381.out 0).trans rfl,(blk_cell BK381.out 1).trans rfl,(blk_cell BK381.out 2).trans rfl,(blk_cell BK381.out 3).trans rfl,(blk_cell BK381.out 4).trans rfl,(blk_cell BK381.out 5).trans rfl⟩ (fun hHeld=>?_)
    clear hK K
    refine norm_ (a':=?_) ?_ ?_
    rotate_left
    ·
     show Act.put _ (some 46) _=_
     simp only[Act.put,List.setIfInBounds_toArray,List.set_cons_zero,List.set_cons_succ,i64_w,i32_w]
     rfl
    refine one_ (i:=3) (N:=some 47) #[true,true,true,true,false] rfl rfl (by kernel_rfl) (by decide) (fun K hK=>?_)
    refine goes_ Try.func10 (by kernel_rfl) rfl #[.agg #[.slice Ao23 t396.length co23,.slice Ao26 t399.length co26,.bool t402,.int .i64 t403,.int .i64 t404,.int .i64 t405],.agg #[.slice Ao38 t410.length co38,.slice Ao39 t413.length co39,.bool t416,.int .i64 t417,.int .i64 t418,.int .i64 t419]] (by rfl) rfl rfl ar ?_
    with_reducible refine(laws_eqModule.calls kj10 _ _ t396 _ _ t399 t402 t403 t404 t405 _ _ t410 _ _ t413 t416 t417 t418 t419 true _ ?side1 ?side2 ?side3 ?side4 ?side5 ?side6 ?side7 ?side8 A34.out).mono ?_
    (case side1=>repeat (first|exact(Kd.S_reads' HO_407000.out).2.2|(with_reducible refine Kd.C_alloc ?_ _)|(with_reducible refine Kd.C_drewN ?_ _)|(with_reducible refine Kd.C_drew ?_)))
    (case side2=>exact(Kd.S_reads' HO_407000.out).2.1)
    (case side3=>repeat (first|exact(Kd.R_reads' HO_407001.out).2.2|(with_reducible refine Kd.C_alloc ?_ _)|(with_reducible refine Kd.C_drewN ?_ _)|(with_reducible refine Kd.C_drew ?_)))
    (case side4=>exact(Kd.R_reads' HO_407001.out).2.1)
    (case side5=>repeat (first|exact(Kd.S_reads' HO412.out).2.2|(with_reducible refine Kd.C_alloc ?_ _)|(with_reducible refine Kd.C_drewN ?_ _)|(with_reducible refine Kd.C_drew ?_)))
    (case side6=>exact(Kd.S_reads' HO412.out).2.1)
    (case side7=>repeat (first|exact(Kd.R_reads' HO415.out).2.2|(with_reducible refine Kd.C_alloc ?_ _)|(with_reducible refine Kd.C_drewN ?_ _)|(with_reducible refine Kd.C_drew ?_)))
    (case side8=>exact(Kd.R_reads' HO415.out).2.1)
    rintro e w40 ⟨rfl,hb⟩
    refine⟨_,rfl,?_⟩
    have n0_:=A_ (Kd.S_below (ks_ HO_407000.out) hb)
    have n1_:=A_ (Kd.R_below (kr_ HO_407001.out) hb)
    have n2_:=A_ (Kd.S_below (ks_ HO412.out) hb)
    have n3_:=A_ (Kd.R_below (kr_ HO415.out) hb)
    have n4_:=A_ (blk_below (g:=gb381) (o:=.cells #[.slice A0_0 l0_0.length c0_0,.slice A0_1 l0_1.length c0_1,.bool a0_2,.int .i64 a0_3,.int .i64 a0_4,.int .i64 a0_5] 25 (0,0)) (bk BK381.out) hb)
    have n5_:=A_ (blk_below (g:=gb406) (o:=.cells #[.slice Ao23 t396.length co23,.slice Ao26 t399.length co26,.bool t402,.int .i64 t403,.int .i64 t404,.int .i64 t405] 32 (0,0)) (bk BK406.out) hb)
    have n6_:=A_ (below_step (bw HB.out) hb)
    clear HO_407000 HO_407001 HO412 HO415 BK381 BK406 HB
    have HO_407000:=n0_
    have HO_407001:=n1_
    have HO412:=n2_
    have HO415:=n3_
    have BK381:=n4_
    have BK406:=n5_
    have HB:=n6_
    clear n0_ n1_ n2_ n3_ n4_ n5_ n6_
    (try clear hb)
    (try clear hb2)
    (try clear hk)
    (try clear hi)
    refine hK.out _ _ ⟨(blk_cell BK406.out 0).trans rfl,(blk_cell BK406.out 1).trans rfl,(blk_cell BK406.out 2).trans rfl,(blk_cell BK406.out 3).trans rfl,(blk_cell BK406.out 4).trans rfl,(blk_cell BK406.out 5).trans rfl,(blk_cell BK381.out 0).trans rfl,(blk_cell BK381.out 1).trans rfl,(blk_cell BK381.out 2).trans rfl,(blk_cell BK381.out 3).trans rfl,(blk_cell BK381.out 4).trans rfl,(blk_cell BK381.out 5).trans rfl⟩ (fun hHeld=>?_)
    clear hK K
    refine norm_ (a':=?_) ?_ ?_
    rotate_left
    ·
     show Act.put _ (some 47) _=_
     simp only[Act.put,List.setIfInBounds_toArray,List.set_cons_zero,List.set_cons_succ,i64_w,i32_w]
     rfl
    refine pure_ (i:=4) (N:=some 48) (v:=?_) (a':=?_) #[true,true,true,true,true] rfl rfl (by kernel_rfl) (fun _ _ _ h=>h) (Or.inl ⟨by rfl,?_⟩) ?_ ?_
    rotate_left
    ·
     intro w'
     go_simp
     with_reducible rfl
    rotate_left
    ·
     simp only[Act.put,List.setIfInBounds_toArray,List.set_cons_zero,List.set_cons_succ,i64_w,i32_w]
     rfl
    refine done_ (by kernel_rfl) ?_
    try go_wp2
    go_ret
    exact⟨rr_,bw HB.out⟩
   replace c35:=Bool.eq_false_iff.mpr c35
   subst c35
   replace H:=iF_ H
   obtain rfl:=Option.some.inj H
   exact absurd HT.out (by decide)

/-- THE ONE PURE STATEMENT of laws_FnExactCheckModule. -/
def laws_FnExactCheckModule.Pure:Prop:=∀ (l0_0:List (S56)) (l0_1:List (S75)) (a0_2:Bool) (a0_3:Int) (a0_4:Int) (a0_5:Int),(l0_0.length≤maxLen∧∀ y1∈l0_0,((y1.f0.length≤maxLen∧∀ y2∈y1.f0,(Lit.int .i64 y2).wf=true)∧(Lit.int .i64 y1.f1).wf=true∧(y1.f2.length≤maxLen∧∀ y2∈y1.f2,(Lit.int .i64 y2).wf=true)∧(y1.f3.length≤maxLen∧∀ y2∈y1.f3,((Lit.int .i64 y2.f0).wf=true∧(Lit.int .i64 y2.f1).wf=true))))→(l0_1.length≤maxLen∧∀ y1∈l0_1,((Lit.int .i64 y1.f0).wf=true∧True∧(Lit.int .u64 y1.f2).wf=true))→(Lit.int .i64 a0_3).wf=true→(Lit.int .i64 a0_4).wf=true→(Lit.int .i64 a0_5).wf=true→∃ k,laws_FnExactCheckModule.f k l0_0 l0_1 a0_2 a0_3 a0_4 a0_5=some true

end Go.Proofs.Ytghogonibanieaa.Q

