-- Written by a program of this session; it walks the functions that the law reaches.
import Derived.Test.YtanhbfhmgmjdgaaQx0
import Derived.Test.YtanhbfhmgmjdgaaQx5
import Derived.Test.YtanhbfhmgmjdgaaQx17
import Derived.Test.YtanhbfhmgmjdgaaQx23
import Derived.Test.YtanhbfhmgmjdgaaQx15
import Derived.Test.YtanhbfhmgmjdgaaQx1
namespace Go.Proofs.Ytanhbfhmgmjdgaa.Q
open Go.RowKit Go.Proofs.YtanhbfhmgmjdgaaW.PrintWords Go.Proofs.YtanhbfhmgmjdgaaW.PrintLast Go.Proofs.YtanhbfhmgmjdgaaW.PrintMore
attribute [local go_sem] max2_int min2_int max_two min_two max_three min_three max_four min_four   -- for this text's walks alone
set_option linter.unusedVariables false
set_option linter.unusedSimpArgs false
set_option maxRecDepth 100000
set_option maxHeartbeats 8000000


/-! ### impl_CheckModule: function 14 (walked by hand) -/
def modC (k:Nat) (fs:List S88) (gs:List S75) (mem:Bool):Nat→Nat→Option (Int × Int × Int)
 |0,_=>some (0,0,0)
 |n+1,i=>(checkC k fs gs mem (i:Int)).bind fun r=>if r.1=0 then modC k fs gs mem n (i+1) else some (r.1,(i:Int),r.2.1)
def impl_CheckModule.f (k:Nat) (l0_0:List (S88)) (l0_1:List (S75)) (a0_2:Bool) (a0_3:Int) (a0_4:Int) (a0_5:Int):Option (Int × Int × Int):=(impl_GoodShape.f k l0_0 l0_1 a0_2 a0_3 a0_4 a0_5).bind fun t=>if t=true then modC k l0_0 l0_1 a0_2 l0_0.length 0 else some (1,0,0)
theorem impl_CheckModule.calls (k:Nat) (A0_0:Option Addr) (c0_0:Nat) (l0_0:List (S88)) (A0_1:Option Addr) (c0_1:Nat) (l0_1:List (S75)) (a0_2:Bool) (a0_3:Int) (a0_4:Int) (a0_5:Int) (r1:Int) (r2:Int) (r3:Int) (w:World) (hr0_0:Kd.C k88 w A0_0 l0_0.length l0_0) (hc0_0:l0_0.length≤c0_0) (hr0_1:Kd.C k75 w A0_1 l0_1.length l0_1) (hc0_1:l0_1.length≤c0_1) (h:impl_CheckModule.f k l0_0 l0_1 a0_2 a0_3 a0_4 a0_5=some (r1,r2,r3)):
  Calls Try.prog 14 #[.agg #[.slice A0_0 l0_0.length c0_0,.slice A0_1 l0_1.length c0_1,.bool a0_2,.int .i64 a0_3,.int .i64 a0_4,.int .i64 a0_5]] w fun e w'=>e=.returned (.tuple #[.int .i64 r1,.int .i64 r2,.int .i64 r3])∧Below w.heap.size w w':=by
 have hu32:=Try.underlying38
 have hmax:=Kd.C_max hr0_0
 have HR0:=A_ hr0_0
 have HR1:=A_ hr0_1
 have HC0:=A_ hc0_0
 have HC1:=A_ hc0_1
 have HB:=A_ (Below.refl w.heap.size w)
 unfold impl_CheckModule.f at h
 clear hr0_0 hr0_1 hc0_0 hc0_1
 obtain⟨t,A8,h⟩:=Option.bind_eq_some_iff.1 h
 have A8:=A_ A8
 cases t with
 |false=>
  rw[if_neg Bool.false_ne_true] at h
  simp only[Option.some.injEq,Prod.mk.injEq] at h
  obtain⟨rfl,rfl,rfl⟩:=h
  go_enter Try.func14,Try.ntmps14
  go_wp2_with (first|((with_reducible refine gd_ 1 rfl ?_);(try (refine gate_guard (by rfl) ?_;dsimp only));refine bx_ #[.slice A0_0 l0_0.length c0_0,.slice A0_1 l0_1.length c0_1,.bool a0_2,.int .i64 a0_3,.int .i64 a0_4,.int .i64 a0_5] 38 ?_;intro gx hg wx hbox hb;have BX:=A_ hbox;have n0_:=bs_ HB hb;clear HB;have HB:=n0_;clear n0_ hb hbox hg;obtain⟨x0,x1,x2,x3,x4,x5⟩:=cp6_ BX.out)|(go_at_call 29;(with_reducible refine(impl_GoodShape.calls k _ _ l0_0 _ _ l0_1 a0_2 a0_3 a0_4 a0_5 false _ ?side1 HC0.out ?side3 HC1.out A8.out).mono ?_);(case side1=>exact cb_ HR0 HB);(case side3=>exact cb_ HR1 HB);rintro e wy ⟨rfl,hb⟩;replace BX:=A_ (blk_below (bk BX.out) hb);replace HB:=bs_ HB hb;clear hb x0 x1 x2 x3 x4 x5;have x0:=(blk_cell BX.out 0).trans rfl))
  go_ret3
  exact⟨rfl,bw HB.out⟩
 |true=>
  rw[if_pos rfl] at h
  have HR:=A_ h
  clear h
  go_enter Try.func14,Try.ntmps14
  go_wp2_with (first|((with_reducible refine gd_ 1 rfl ?_);(try (refine gate_guard (by rfl) ?_;dsimp only));refine bx_ #[.slice A0_0 l0_0.length c0_0,.slice A0_1 l0_1.length c0_1,.bool a0_2,.int .i64 a0_3,.int .i64 a0_4,.int .i64 a0_5] 38 ?_;intro gx hg wx hbox hb;have BX:=A_ hbox;have n0_:=bs_ HB hb;clear HB;have HB:=n0_;clear n0_ hb hbox hg;obtain⟨x0,x1,x2,x3,x4,x5⟩:=cp6_ BX.out)|(go_at_call 29;(with_reducible refine(impl_GoodShape.calls k _ _ l0_0 _ _ l0_1 a0_2 a0_3 a0_4 a0_5 true _ ?side1 HC0.out ?side3 HC1.out A8.out).mono ?_);(case side1=>exact cb_ HR0 HB);(case side3=>exact cb_ HR1 HB);rintro e wy ⟨rfl,hb⟩;replace BX:=A_ (blk_below (bk BX.out) hb);replace HB:=bs_ HB hb;clear hb x0 x1 x2 x3 x4 x5;have x0:=(blk_cell BX.out 0).trans rfl))
  go_loopg [15] l0_0.length (fun kq v15 w'=>∃ (j kk:Nat),kk=kq∧j+kk=l0_0.length∧v15=.int .i64 j∧Aside0 (modC k l0_0 l0_1 a0_2 kk j=some (r1,r2,r3))∧Aside0 (w'.heap[gx]? =some (.cells #[.slice A0_0 l0_0.length c0_0,.slice A0_1 l0_1.length c0_1,.bool a0_2,.int .i64 a0_3,.int .i64 a0_4,.int .i64 a0_5] 38 (0,0)))∧Aside0 (Below w.heap.size w w'))
  case atStart=>exact⟨0,_,rfl,by omega,rfl,HR,⟨bk BX.out⟩,⟨bw HB.out⟩⟩
  case round=>
   clear HR BX HB x0
   obtain⟨j,kk,hkk,hjk,rfl,HR,BX,HB⟩:=hrel
   have HKK:=A_ hkk
   clear hkk
   rcases Nat.eq_zero_or_pos kk with hk0|hk0
   ·
    subst hk0
    obtain rfl:j=l0_0.length:=by omega
    have hR':=HR.out
    rw[modC] at hR'
    simp only[Option.some.injEq,Prod.mk.injEq] at hR'
    obtain⟨rfl,rfl,rfl⟩:=hR'
    clear HR
    go_wp2
    go_ret3
    exact⟨rfl,bw HB.out⟩
   obtain⟨km,rfl⟩:∃ km,kk=km+1:=⟨kk - 1,by omega⟩
   have hR':=HR.out
   rw[modC] at hR'
   obtain⟨⟨ra,rb,rc⟩,A9,hR'⟩:=Option.bind_eq_some_iff.1 hR'
   have A9:=A_ A9
   have hlt:j<l0_0.length:=by omega
   have q7:decide ((j:Int)<(l0_0.length:Int))=true:=decide_eq_true (by omega)
   have q8:=decide_eq_true hlt
   have ew:IntKind.i64.wrap ((j:Int)+1)=((j+1:Nat):Int):=ck_w _ (by omega)
   clear HR hlt
   by_cases hz:ra=0
   ·
    have hR2:=(if_pos hz).symm.trans hR'
    have HRn:=A_ hR2
    have bz:(ra !=0)=false:=bne_eq_false_iff_eq.2 hz
    clear hR' hR2 hz
    go_wp2_with (first|(go_at_call 30;refine(check_any k l0_0 l0_1 a0_2 (j:Int) gx ra rb rc _ ⟨gx,A0_0,c0_0,A0_1,c0_1,rfl,(blk_cell (bk BX.out) 0).trans rfl,(blk_cell (bk BX.out) 1).trans rfl,(blk_cell (bk BX.out) 2).trans rfl,Kd.C_below HR0.out (bw HB.out),Kd.C_below HR1.out (bw HB.out)⟩ A9.out).mono ?_;rintro e wz ⟨rfl,hb⟩;replace BX:=A_ (blk_below (bk BX.out) hb);replace HB:=bs_ HB hb;clear hb))
    go_roundg km
    case measure=>have:=HKK.out;omega
    case rel=>exact⟨j+1,km,rfl,by omega,by first|rfl|(rw[ew]),HRn,⟨bk BX.out⟩,⟨bw HB.out⟩⟩
   have hR2:=(if_neg hz).symm.trans hR'
   simp only[Option.some.injEq,Prod.mk.injEq] at hR2
   obtain⟨rfl,rfl,rfl⟩:=hR2
   have bz:(ra !=0)=true:=bne_iff_ne.2 hz
   clear hz
   go_wp2_with (first|(go_at_call 30;refine(check_any k l0_0 l0_1 a0_2 (j:Int) gx ra rb rc _ ⟨gx,A0_0,c0_0,A0_1,c0_1,rfl,(blk_cell (bk BX.out) 0).trans rfl,(blk_cell (bk BX.out) 1).trans rfl,(blk_cell (bk BX.out) 2).trans rfl,Kd.C_below HR0.out (bw HB.out),Kd.C_below HR1.out (bw HB.out)⟩ A9.out).mono ?_;rintro e wz ⟨rfl,hb⟩;replace BX:=A_ (blk_below (bk BX.out) hb);replace HB:=bs_ HB hb;clear hb))
   go_ret3
   exact⟨rfl,bw HB.out⟩

/-! ### impl_GoodMemory: function 31 -/
def impl_GoodMemory.f (a0_0:Int) (a0_1:ByteArray):Option (Bool):=if a0_0≥0 then (if a0_0≤8 then (if ((a0_1.size:Int) % 256)=0 then (some (decide ((a0_1.size:Int)≤(wrap64 (a0_0*256))))) else (some false)) else (some false)) else (some false)
theorem impl_GoodMemory.calls (a0_0:Int) (a0_1:ByteArray) (r:Bool) (w:World) (h:impl_GoodMemory.f a0_0 a0_1=some r):
  Calls Try.prog 31 #[.agg #[.int .i64 a0_0,.string a0_1]] w fun e w'=>e=.returned (.bool r)∧Below w.heap.size w w':=by
 have hu39:=Try.underlying39
 have HB:=A_ (Below.refl w.heap.size w)
 have H:(if a0_0≥0 then (if a0_0≤8 then (if ((a0_1.size:Int) % 256)=0 then (some (decide ((a0_1.size:Int)≤(wrap64 (a0_0*256))))) else (some false)) else (some false)) else (some false))=some r:=h
 clear h
 revert H
 refine iL_ (fun c2b0 H=>?_) (fun c2b0 H=>?_)
 revert H
 refine iL_ (fun c3b0 H=>?_) (fun c3b0 H=>?_)
 revert H
 refine iE_ (fun c4b0 c4b1 H=>?_) (fun c4 c4b0 c4b1 H=>?_)
 all_goals
  obtain rfl:=Option.some.inj H
  clear H
  go_enter Try.func31,Try.ntmps31
  go_wp2_with (first|((with_reducible refine gd_ 1 rfl ?_);(try (refine gate_guard (by rfl) ?_;dsimp only));refine bx_ #[.int .i64 a0_0,.string a0_1] 39 ?_;intro gb423 hg w5 hbox hb;have BK423:=A_ hbox;have GW423:=gw_ hg HB;have GE423:=GW423;replace HB:=bs_ HB hb;clear hb hbox hg;obtain⟨hcz6_0,hcz6_1⟩:=cs2_ BK423.out;obtain⟨hfz6_0,hfz6_1⟩:=fz2_ BK423.out))
  go_ret
  exact⟨rr_,bw HB.out⟩

/-! ### impl_GoodWord: function 32 -/
def impl_GoodWord.f (a0_0:Int) (a0_1:Int):Option (Bool):=(impl_goodType.f a0_0).bind fun t425=>(if t425=true then (if a0_0=126 then (some true) else (some (decide (a0_1<4294967296)))) else (some false))
theorem impl_GoodWord.calls (a0_0:Int) (a0_1:Int) (r:Bool) (w:World) (h:impl_GoodWord.f a0_0 a0_1=some r):
  Calls Try.prog 32 #[.agg #[.int .i64 a0_0,.int .u64 a0_1]] w fun e w'=>e=.returned (.bool r)∧Below w.heap.size w w':=by
 have hu72:=Try.underlying72
 have HB:=A_ (Below.refl w.heap.size w)
 have H:((impl_goodType.f a0_0).bind fun t425=>(if t425=true then (if a0_0=126 then (some true) else (some (decide (a0_1<4294967296)))) else (some false)))=some r:=h
 clear h
 replace H:=bA_ H
 obtain⟨t425,A2,H⟩:=H
 revert H
 refine iB_ (fun c3 H=>?_) (fun c3 H=>?_)<;>subst c3
 revert H
 refine iE_ (fun c4b0 c4b1 H=>?_) (fun c4 c4b0 c4b1 H=>?_)
 all_goals
  obtain rfl:=Option.some.inj H
  clear H
  go_enter Try.func32,Try.ntmps32
  go_wp2_with (first|((with_reducible refine gd_ 1 rfl ?_);refine bx_ #[.int .i64 a0_0,.int .u64 a0_1] 72 ?_;intro gb424 hg w5 hbox hb;have BK424:=A_ hbox;have GW424:=gw_ hg HB;have GE424:=GW424;replace HB:=bs_ HB hb;clear hb hbox hg;obtain⟨hcz6_0,hcz6_1⟩:=cs2_ BK424.out;obtain⟨hfz6_0,hfz6_1⟩:=fz2_ BK424.out)|((with_reducible refine gc_ 48 rfl ?_);refine gn_ (some 5) Try.func48 (impl_goodType.calls a0_0 true _ A2.out) ?_;intro nd)|((with_reducible refine gc_ 48 rfl ?_);refine gn_ (some 5) Try.func48 (impl_goodType.calls a0_0 false _ A2.out) ?_;intro nd))
  go_ret
  exact⟨rr_,bw HB.out⟩

attribute [local go_sem high] eqA39
/-! ### impl_GoodState: function 15 -/
mutual
def impl_GoodState.j0:Nat→Bool→List (S88)→List (S75)→Bool→Int→Int→Int→Int→ByteArray→List (S72)→Option (Bool)
 |0,_,_,_,_,_,_,_,_,_,_=>none
 |k+1,x18,x427000,x427001,x427002,x427003,x427004,x427005,x428000,x428001,x428002=>if x18=true then (some false) else (if x427002=true then ((impl_GoodMemory.f x428000 x428001).bind fun t429=>(if t429=true then (if x428000=x427004 then (impl_GoodState.j1 k x427000 x427001 x427002 x427003 x427004 x427005 x428000 x428001 x428002) else (some false)) else (some false))) else (if (!(x428000==0) ||(!(x428001.toList==([]:List UInt8))))=true then (some false) else (impl_GoodState.j1 k x427000 x427001 x427002 x427003 x427004 x427005 x428000 x428001 x428002)))
def impl_GoodState.j1:Nat→List (S88)→List (S75)→Bool→Int→Int→Int→Int→ByteArray→List (S72)→Option (Bool)
 |0,_,_,_,_,_,_,_,_,_=>none
 |k+1,x427000,x427001,x427002,x427003,x427004,x427005,x428000,x428001,x428002=>impl_GoodState.l0 k x428002 (x428002.length:Int) 0 x427000 x427001 x427002 x427003 x427004 x427005
def impl_GoodState.l0:Nat→List (S72)→Int→Int→List (S88)→List (S75)→Bool→Int→Int→Int→Option (Bool)
 |0,_,_,_,_,_,_,_,_,_=>none
 |k+1,x38,x39,x40,x427000,x427001,x427002,x427003,x427004,x427005=>if x40<x39 then (if 0≤x40 then (if x40<(x38.length:Int) then ((impl_GoodWord.f ((rd_T72 x38 x40).f0) ((rd_T72 x38 x40).f1)).bind fun t432=>(if t432=true then (if x40<(x427001.length:Int) then (if ((rd_T72 x38 x40).f0)=((rd_T75 x427001 x40).f0) then (impl_GoodState.l0 k x38 x39 (wrap64 (x40+1)) x427000 x427001 x427002 x427003 x427004 x427005) else (some false)) else (none)) else (some false))) else (none)) else (none)) else (some true)
end
def impl_GoodState.f (k:Nat) (l0_0:List (S88)) (l0_1:List (S75)) (a0_2:Bool) (a0_3:Int) (a0_4:Int) (a0_5:Int) (a1_0:Int) (a1_1:ByteArray) (l1_2:List (S72)):Option (Bool):=(impl_GoodShape.f k l0_0 l0_1 a0_2 a0_3 a0_4 a0_5).bind fun t428=>(if t428=true then (impl_GoodState.j0 k ((l1_2.length:Int) !=(l0_1.length:Int)) l0_0 l0_1 a0_2 a0_3 a0_4 a0_5 a1_0 a1_1 l1_2) else (impl_GoodState.j0 k true l0_0 l0_1 a0_2 a0_3 a0_4 a0_5 a1_0 a1_1 l1_2))
def impl_GoodState.T11:Bool × List (List Nat × List Nat):=(true,[([],[]),([0],[0]),([1],[1]),([2,1],[2]),([3],[3]),([4,3],[3,4]),([3],[3]),([6,3],[3,6]),([3],[3]),([7,8,3],[3,7,8]),([9,3],[3,9]),([10,3],[3,10]),([5,11,3],[3,5,11]),([3,12],[3,12])])
def impl_GoodState.B11:List Nat:=[0,1,3,7,15,31,15,79,15,463,975,1999,4095,8191]
theorem impl_GoodState.tab11:rtab .any (opsOf Try.f15 11)=impl_GoodState.T11:=by kernel_rfl
theorem impl_GoodState.bits11:waitsOk impl_GoodState.T11.2 impl_GoodState.B11=true:=by kernel_rfl
theorem impl_GoodState.calls (k:Nat) (A0_0:Option Addr) (c0_0:Nat) (l0_0:List (S88)) (A0_1:Option Addr) (c0_1:Nat) (l0_1:List (S75)) (a0_2:Bool) (a0_3:Int) (a0_4:Int) (a0_5:Int) (a1_0:Int) (a1_1:ByteArray) (A1_2:Option Addr) (c1_2:Nat) (l1_2:List (S72)) (r:Bool) (w:World) (hr0_0:Kd.C k88 w A0_0 l0_0.length l0_0) (hc0_0:l0_0.length≤c0_0) (hr0_1:Kd.C k75 w A0_1 l0_1.length l0_1) (hc0_1:l0_1.length≤c0_1) (hr1_2:Kd.C k72 w A1_2 l1_2.length l1_2) (hc1_2:l1_2.length≤c1_2) (h:impl_GoodState.f k l0_0 l0_1 a0_2 a0_3 a0_4 a0_5 a1_0 a1_1 l1_2=some r):
  Calls Try.prog 15 #[.agg #[.slice A0_0 l0_0.length c0_0,.slice A0_1 l0_1.length c0_1,.bool a0_2,.int .i64 a0_3,.int .i64 a0_4,.int .i64 a0_5],.agg #[.int .i64 a1_0,.string a1_1,.slice A1_2 l1_2.length c1_2]] w fun e w'=>e=.returned (.bool r)∧Below w.heap.size w w':=by
 have hu38:=Try.underlying38
 have hu42:=Try.underlying42
 have hu39:=Try.underlying39
 have hu72:=Try.underlying72
 have HR0_0:=A_ hr0_0
 have HC0_0:=A_ hc0_0
 clear hr0_0 hc0_0
 have HR0_1:=A_ hr0_1
 have HC0_1:=A_ hc0_1
 clear hr0_1 hc0_1
 have HR1_2:=A_ hr1_2
 have HC1_2:=A_ hc1_2
 clear hr1_2 hc1_2
 have HB:=A_ (Below.refl w.heap.size w)
 have H:((impl_GoodShape.f k l0_0 l0_1 a0_2 a0_3 a0_4 a0_5).bind fun t428=>(if t428=true then (impl_GoodState.j0 k ((l1_2.length:Int) !=(l0_1.length:Int)) l0_0 l0_1 a0_2 a0_3 a0_4 a0_5 a1_0 a1_1 l1_2) else (impl_GoodState.j0 k true l0_0 l0_1 a0_2 a0_3 a0_4 a0_5 a1_0 a1_1 l1_2)))=some r:=h
 clear h
 have HC3:=A_ H
 clear H
 go_enter Try.func15,Try.ntmps15
 go_upto_region 1 with (first|((with_reducible refine gd_ 2 rfl ?_);(try (refine gate_guard (by rfl) ?_;dsimp only));refine bx_ #[.slice A0_0 l0_0.length c0_0,.slice A0_1 l0_1.length c0_1,.bool a0_2,.int .i64 a0_3,.int .i64 a0_4,.int .i64 a0_5] 38 ?_;intro gb426 hg w4 hbox hb;have BK426:=A_ hbox;have GW426:=gw_ hg HB;have GE426:=GW426;replace HB:=bs_ HB hb;clear hb hbox hg)|((with_reducible refine gd_ 3 rfl ?_);(try (refine gate_guard (by rfl) ?_;dsimp only));refine bx_ #[.int .i64 a1_0,.string a1_1,.slice A1_2 l1_2.length c1_2] 42 ?_;intro gb427 hg w5 hbox hb;have BK427:=A_ hbox;have GW427:=gw_ hg HB;have GE427:=GW427;obtain⟨NB426_427,NB427_426⟩:=nb_ BK426 hg;replace BK426:=kb_ BK426 hb;replace HB:=bs_ HB hb;clear hb hbox hg))
 (try simp only[Act.put,List.setIfInBounds_toArray,List.set_cons_zero,List.set_cons_succ])
 go_cut [18] (fun v18 wc=>∃ (kq:Nat) (x18_2:Bool),v18=.bool x18_2∧Aside0 (impl_GoodState.j0 kq x18_2 l0_0 l0_1 a0_2 a0_3 a0_4 a0_5 a1_0 a1_1 l1_2=some r)∧Aside0 (kq≤k)∧Aside0 (wc.heap[gb426]? =some (.cells #[(.slice A0_0 l0_0.length c0_0),(.slice A0_1 l0_1.length c0_1),.bool a0_2,.int .i64 a0_3,.int .i64 a0_4,.int .i64 a0_5] 38 (0,0)))∧Aside0 (wc.heap[gb427]? =some (.cells #[.int .i64 a1_0,.string a1_1,(.slice A1_2 l1_2.length c1_2)] 42 (0,0)))∧Aside0 (Below w.heap.size w wc))
 case first=>
  have H:=HC3.out
  clear HC3
  replace H:=bA_ H
  obtain⟨t428,A6,H⟩:=H
  revert H
  refine iB_ (fun c7 H=>?_) (fun c7 H=>?_)<;>subst c7
  ·
   have H':=A_ H
   clear H
   have hnb8:=NB426_427.out
   have hnc8:=NB427_426.out
   obtain⟨hcz9_0,hcz9_1,hcz9_2,hcz9_3,hcz9_4,hcz9_5⟩:=cs6_ BK426.out
   obtain⟨hfz9_0,hfz9_1,hfz9_2,hfz9_3,hfz9_4,hfz9_5⟩:=fz6_ BK426.out
   go_wp2_with (first|((with_reducible refine gc_ 29 rfl ?_);refine gm_ (some 8) Try.func29 (impl_GoodShape.calls k _ _ l0_0 _ _ l0_1 a0_2 a0_3 a0_4 a0_5 true _ (cb_ HR0_0 HB) HC0_0.out (cb_ HR0_1 HB) HC0_1.out A6.out) ?_;intro w10 hb;replace BK426:=kb_ BK426 hb;replace BK427:=kb_ BK427 hb;replace HB:=bs_ HB hb;(try clear hb);obtain⟨hcz11_0,hcz11_1,hcz11_2⟩:=cs3_ BK427.out;obtain⟨hfz11_0,hfz11_1,hfz11_2⟩:=fz3_ BK427.out;obtain⟨hcz12_0,hcz12_1,hcz12_2,hcz12_3,hcz12_4,hcz12_5⟩:=cs6_ BK426.out;obtain⟨hfz12_0,hfz12_1,hfz12_2,hfz12_3,hfz12_4,hfz12_5⟩:=fz6_ BK426.out))
   go_meet
   case rel=>exact⟨_,(((l1_2.length:Int) !=(l0_1.length:Int))),rs_,H',⟨by first|omega|exact Nat.le_refl _⟩,⟨bk BK426.out⟩,⟨bk BK427.out⟩,⟨bw HB.out⟩⟩
  have H':=A_ H
  clear H
  have hnb13:=NB426_427.out
  have hnc13:=NB427_426.out
  obtain⟨hcz14_0,hcz14_1,hcz14_2,hcz14_3,hcz14_4,hcz14_5⟩:=cs6_ BK426.out
  obtain⟨hfz14_0,hfz14_1,hfz14_2,hfz14_3,hfz14_4,hfz14_5⟩:=fz6_ BK426.out
  go_wp2_with (first|((with_reducible refine gc_ 29 rfl ?_);refine gm_ (some 8) Try.func29 (impl_GoodShape.calls k _ _ l0_0 _ _ l0_1 a0_2 a0_3 a0_4 a0_5 false _ (cb_ HR0_0 HB) HC0_0.out (cb_ HR0_1 HB) HC0_1.out A6.out) ?_;intro w15 hb;replace BK426:=kb_ BK426 hb;replace BK427:=kb_ BK427 hb;replace HB:=bs_ HB hb;(try clear hb)))
  go_meet
  case rel=>exact⟨_,(true),rs_,H',⟨by first|omega|exact Nat.le_refl _⟩,⟨bk BK426.out⟩,⟨bk BK427.out⟩,⟨bw HB.out⟩⟩
 case rest=>
  clear HC3
  obtain⟨kq,x18_2,rfl,HA,HJ2,BK426,BK427,HB⟩:=hcut
  cases kq with
  |zero=>exact absurd HA.out (by simp[impl_GoodState.j0])
  |succ kj2=>
   have H:=HA.out
   clear HA
   simp only[impl_GoodState.j0] at H
   revert H
   refine iB_ (fun c16 H=>?_) (fun c16 H=>?_)<;>subst c16
   ·
    obtain rfl:=Option.some.inj H
    clear H
    go_wp2
    go_ret
    exact⟨rr_,bw HB.out⟩
   have HC17:=A_ H
   clear H
   have hnb18:=NB426_427.out
   have hnc18:=NB427_426.out
   obtain⟨hcz19_0,hcz19_1,hcz19_2,hcz19_3,hcz19_4,hcz19_5⟩:=cs6_ BK426.out
   obtain⟨hfz19_0,hfz19_1,hfz19_2,hfz19_3,hfz19_4,hfz19_5⟩:=fz6_ BK426.out
   go_upto_if 20 with (fail)
   go_cut [] (fun wc=>∃ (kq:Nat),Aside0 (impl_GoodState.j1 kq l0_0 l0_1 a0_2 a0_3 a0_4 a0_5 a1_0 a1_1 l1_2=some r)∧Aside0 (kq≤kj2)∧Aside0 (wc.heap[gb426]? =some (.cells #[(.slice A0_0 l0_0.length c0_0),(.slice A0_1 l0_1.length c0_1),.bool a0_2,.int .i64 a0_3,.int .i64 a0_4,.int .i64 a0_5] 38 (0,0)))∧Aside0 (wc.heap[gb427]? =some (.cells #[.int .i64 a1_0,.string a1_1,(.slice A1_2 l1_2.length c1_2)] 42 (0,0)))∧Aside0 (Below w.heap.size w wc))
   case first=>
    have H:=HC17.out
    clear HC17
    revert H
    refine iB_ (fun c20 H=>?_) (fun c20 H=>?_)<;>subst c20
    ·
     replace H:=bA_ H
     obtain⟨t429,A21,H⟩:=H
     revert H
     refine iB_ (fun c22 H=>?_) (fun c22 H=>?_)<;>subst c22
     ·
      revert H
      refine iE_ (fun c23b0 c23b1 H=>?_) (fun c23 c23b0 c23b1 H=>?_)
      ·
       (first|rw[c23b0]|(simp only[i64_w,i32_w];rw[c23b0])|skip)
       have H':=A_ H
       clear H
       have hnb24:=NB427_426.out
       have hnc24:=NB426_427.out
       obtain⟨hcz25_0,hcz25_1,hcz25_2⟩:=cs3_ BK427.out
       obtain⟨hfz25_0,hfz25_1,hfz25_2⟩:=fz3_ BK427.out
       go_wp2_with (first|((with_reducible refine gc_ 31 rfl ?_);refine gm_ (some 23) Try.func31 (impl_GoodMemory.calls a1_0 a1_1 true _ A21.out) ?_;intro w26 hb;replace BK426:=kb_ BK426 hb;replace BK427:=kb_ BK427 hb;replace HB:=bs_ HB hb;(try clear hb);obtain⟨hcz27_0,hcz27_1,hcz27_2⟩:=cs3_ BK427.out;obtain⟨hfz27_0,hfz27_1,hfz27_2⟩:=fz3_ BK427.out;obtain⟨hcz28_0,hcz28_1,hcz28_2,hcz28_3,hcz28_4,hcz28_5⟩:=cs6_ BK426.out;obtain⟨hfz28_0,hfz28_1,hfz28_2,hfz28_3,hfz28_4,hfz28_5⟩:=fz6_ BK426.out))
       go_meet
       case rel=>exact⟨_,H',⟨by have:=HJ2.out;first|omega|exact Nat.le_refl _⟩,⟨bk BK426.out⟩,⟨bk BK427.out⟩,⟨bw HB.out⟩⟩
      (first|rw[c23b0]|(simp only[i64_w,i32_w];rw[c23b0])|skip)
      obtain rfl:=Option.some.inj H
      clear H
      have hnb29:=NB427_426.out
      have hnc29:=NB426_427.out
      obtain⟨hcz30_0,hcz30_1,hcz30_2⟩:=cs3_ BK427.out
      obtain⟨hfz30_0,hfz30_1,hfz30_2⟩:=fz3_ BK427.out
      go_wp2_with (first|((with_reducible refine gc_ 31 rfl ?_);refine gm_ (some 23) Try.func31 (impl_GoodMemory.calls a1_0 a1_1 true _ A21.out) ?_;intro w31 hb;replace BK426:=kb_ BK426 hb;replace BK427:=kb_ BK427 hb;replace HB:=bs_ HB hb;(try clear hb);obtain⟨hcz32_0,hcz32_1,hcz32_2⟩:=cs3_ BK427.out;obtain⟨hfz32_0,hfz32_1,hfz32_2⟩:=fz3_ BK427.out;obtain⟨hcz33_0,hcz33_1,hcz33_2,hcz33_3,hcz33_4,hcz33_5⟩:=cs6_ BK426.out;obtain⟨hfz33_0,hfz33_1,hfz33_2,hfz33_3,hfz33_4,hfz33_5⟩:=fz6_ BK426.out))
      go_ret
      exact⟨rr_,bw HB.out⟩
     obtain rfl:=Option.some.inj H
     clear H
     have hnb34:=NB427_426.out
     have hnc34:=NB426_427.out
     obtain⟨hcz35_0,hcz35_1,hcz35_2⟩:=cs3_ BK427.out
     obtain⟨hfz35_0,hfz35_1,hfz35_2⟩:=fz3_ BK427.out
     go_wp2_with (first|((with_reducible refine gc_ 31 rfl ?_);refine gm_ (some 23) Try.func31 (impl_GoodMemory.calls a1_0 a1_1 false _ A21.out) ?_;intro w36 hb;replace BK426:=kb_ BK426 hb;replace BK427:=kb_ BK427 hb;replace HB:=bs_ HB hb;(try clear hb)))
     go_ret
     exact⟨rr_,bw HB.out⟩
    by_cases c37:(!(a1_0==0) ||(!(a1_1.toList==([]:List UInt8))))=true
    ·
     rw[if_pos c37] at H
     have c37b0:(!(a1_0==0) ||(!(a1_1.toList==([]:List UInt8))))=true:=c37
     have c37b1:(!(a1_0==0) ||(!(a1_1.toList.isEmpty)))=true:=by cases h_:a1_1.toList<;>simp_all
     clear c37
     obtain rfl:=Option.some.inj H
     clear H
     have hnb38:=NB427_426.out
     have hnc38:=NB426_427.out
     obtain⟨hcz39_0,hcz39_1,hcz39_2⟩:=cs3_ BK427.out
     obtain⟨hfz39_0,hfz39_1,hfz39_2⟩:=fz3_ BK427.out
     go_wp2
     go_ret
     exact⟨rr_,bw HB.out⟩
    rw[if_neg c37] at H
    have c37b0:(!(a1_0==0) ||(!(a1_1.toList==([]:List UInt8))))=false:=by simpa using c37
    have c37b1:(!(a1_0==0) ||(!(a1_1.toList.isEmpty)))=false:=by cases h_:a1_1.toList<;>simp_all
    clear c37
    have H':=A_ H
    clear H
    have hnb40:=NB427_426.out
    have hnc40:=NB426_427.out
    obtain⟨hcz41_0,hcz41_1,hcz41_2⟩:=cs3_ BK427.out
    obtain⟨hfz41_0,hfz41_1,hfz41_2⟩:=fz3_ BK427.out
    go_wp2
    go_meet
    case rel=>exact⟨_,H',⟨by have:=HJ2.out;first|omega|exact Nat.le_refl _⟩,⟨bk BK426.out⟩,⟨bk BK427.out⟩,⟨bw HB.out⟩⟩
   case rest=>
    clear HC17
    try clear c16 hcz19_0 hcz19_1 hcz19_2 hcz19_3 hcz19_4 hcz19_5 hfz19_0 hfz19_1 hfz19_2 hfz19_3 hfz19_4 hfz19_5
    obtain⟨kq,HA,HJ16,BK426,BK427,HB⟩:=hcut
    cases kq with
    |zero=>exact absurd HA.out (by simp[impl_GoodState.j1])
    |succ kj16=>
     have H:=HA.out
     clear HA
     simp only[impl_GoodState.j1] at H
     have H':=A_ H
     clear H
     have hnb42:=NB427_426.out
     have hnc42:=NB426_427.out
     obtain⟨hcz43_0,hcz43_1,hcz43_2⟩:=cs3_ BK427.out
     obtain⟨hfz43_0,hfz43_1,hfz43_2⟩:=fz3_ BK427.out
     go_wp2
     (try simp only[Act.put,List.setIfInBounds_toArray,List.set_cons_zero,List.set_cons_succ])
     go_loopg [40] kj16 (fun kq v40 w'=>∃ (x40_3:Int),v40=.int .i64 x40_3∧Aside0 (impl_GoodState.l0 kq l1_2 (l1_2.length:Int) x40_3 l0_0 l0_1 a0_2 a0_3 a0_4 a0_5=some r)∧Aside0 (kq≤kj16)∧Aside0 (w'.heap[gb426]? =some (.cells #[(.slice A0_0 l0_0.length c0_0),(.slice A0_1 l0_1.length c0_1),.bool a0_2,.int .i64 a0_3,.int .i64 a0_4,.int .i64 a0_5] 38 (0,0)))∧Aside0 (w'.heap[gb427]? =some (.cells #[.int .i64 a1_0,.string a1_1,(.slice A1_2 l1_2.length c1_2)] 42 (0,0)))∧Aside0 (Below w.heap.size w w'))
     case atStart=>exact⟨(0),rs_,H',⟨Nat.le_refl _⟩,⟨bk BK426.out⟩,⟨bk BK427.out⟩,⟨bw HB.out⟩⟩
     case round=>
      clear H'
      try clear c16 hcz19_0 hcz19_1 hcz19_2 hcz19_3 hcz19_4 hcz19_5 hcz43_0 hcz43_1 hcz43_2 hfz19_0 hfz19_1 hfz19_2 hfz19_3 hfz19_4 hfz19_5 hfz43_0 hfz43_1 hfz43_2
      obtain⟨x40_3,rfl,HA,HK3,BK426,BK427,HB⟩:=hrel
      cases gk with
      |zero=>exact absurd HA.out (by simp[impl_GoodState.l0])
      |succ k3=>
       have H:=HA.out
       clear HA
       simp only[impl_GoodState.l0] at H
       revert H
       refine iL_ (fun c44b0 H=>?_) (fun c44b0 H=>?_)
       ·
        replace H:=id_ H
        obtain⟨c45b0,H⟩:=H
        replace H:=id_ H
        obtain⟨c46b0,H⟩:=H
        replace H:=bA_ H
        obtain⟨t432,A47,H⟩:=H
        revert H
        refine iB_ (fun c48 H=>?_) (fun c48 H=>?_)<;>subst c48
        ·
         replace H:=id_ H
         obtain⟨c49b0,H⟩:=H
         revert H
         refine iE_ (fun c50b0 c50b1 H=>?_) (fun c50 c50b0 c50b1 H=>?_)
         ·
          have H':=A_ H
          clear H
          have p430:0≤(x40_3:Int):=od_
          have q430:x40_3<(l1_2.length:Int):=od_
          obtain⟨ad430,e430,hx430_0,hx430_1⟩:=at_T72 HR1_2.out x40_3 p430 q430
          cases e430
          replace hx430_0:=cl_ HB.out hx430_0
          replace hx430_1:=cl_ HB.out hx430_1
          replace p430:=eq_true p430
          replace q430:=eq_true q430
          try go_wp2_with (first|((with_reducible refine gd_ 6 rfl ?_);(try (refine gate_guard (by rfl) ?_;dsimp only));refine bx_ #[.int .i64 0,.int .u64 0] 72 ?_;intro gb431 hg w51 hbox hb;have BK431:=A_ hbox;have GW431:=gw_ hg HB;have GE431:=GW431;obtain⟨NB426_431,NB431_426⟩:=nb_ BK426 hg;obtain⟨NB427_431,NB431_427⟩:=nb_ BK427 hg;replace BK426:=kb_ BK426 hb;replace BK427:=kb_ BK427 hb;replace HB:=bs_ HB hb;clear hb hbox hg;have hnb52:=NB431_426.out;have hnc52:=NB426_431.out;have hnb53:=NB431_427.out;have hnc53:=NB427_431.out;obtain⟨hcz54_0,hcz54_1⟩:=cs2_ BK431.out;obtain⟨hfz54_0,hfz54_1⟩:=fz2_ BK431.out))
          have n0_:Aside0 (((w51.setCell ⟨gb431,0,none⟩ (.int .i64 ((rd_T72 l1_2 x40_3).f0))).setCell ⟨gb431,1,none⟩ (.int .u64 ((rd_T72 l1_2 x40_3).f1))).heap[gb426]? =some (.cells #[.slice A0_0 l0_0.length c0_0,.slice A0_1 l0_1.length c0_1,.bool a0_2,.int .i64 a0_3,.int .i64 a0_4,.int .i64 a0_5] 38 (0,0))):=⟨by refine blk_far ?_ NB426_431.out _;refine blk_far ?_ NB426_431.out _;(with_reducible repeat (first|refine blk_drewN ?_ _|refine blk_drew ?_|refine blk_alloc ?_ _));exact BK426.out⟩
          have n1_:Aside0 (((w51.setCell ⟨gb431,0,none⟩ (.int .i64 ((rd_T72 l1_2 x40_3).f0))).setCell ⟨gb431,1,none⟩ (.int .u64 ((rd_T72 l1_2 x40_3).f1))).heap[gb427]? =some (.cells #[.int .i64 a1_0,.string a1_1,.slice (some ad430) l1_2.length c1_2] 42 (0,0))):=⟨by refine blk_far ?_ NB427_431.out _;refine blk_far ?_ NB427_431.out _;(with_reducible repeat (first|refine blk_drewN ?_ _|refine blk_drew ?_|refine blk_alloc ?_ _));exact BK427.out⟩
          have n2_:Aside0 (((w51.setCell ⟨gb431,0,none⟩ (.int .i64 ((rd_T72 l1_2 x40_3).f0))).setCell ⟨gb431,1,none⟩ (.int .u64 ((rd_T72 l1_2 x40_3).f1))).heap[gb431]? =some (.cells #[.int .i64 ((rd_T72 l1_2 x40_3).f0),.int .u64 ((rd_T72 l1_2 x40_3).f1)] 72 (0,0))):=⟨by refine blk_put (cs:=#[.int .i64 ((rd_T72 l1_2 x40_3).f0),.int .u64 0]) ?_ 1 _ rfl;refine blk_put (cs:=#[.int .i64 0,.int .u64 0]) ?_ 0 _ rfl;(with_reducible repeat (first|refine blk_drewN ?_ _|refine blk_drew ?_|refine blk_alloc ?_ _));exact BK431.out⟩
          have n3_:Aside0 (Below w.heap.size w ((w51.setCell ⟨gb431,0,none⟩ (.int .i64 ((rd_T72 l1_2 x40_3).f0))).setCell ⟨gb431,1,none⟩ (.int .u64 ((rd_T72 l1_2 x40_3).f1)))):=⟨bw HB.out⟩
          (try clear BK426)
          (try clear BK427)
          (try clear BK431)
          (try clear HB)
          generalize ((w51.setCell ⟨gb431,0,none⟩ (.int .i64 ((rd_T72 l1_2 x40_3).f0))).setCell ⟨gb431,1,none⟩ (.int .u64 ((rd_T72 l1_2 x40_3).f1)))=w55 at n0_ n1_ n2_ n3_ ⊢
          have BK426:=n0_
          have BK427:=n1_
          have BK431:=n2_
          have HB:=n3_
          clear n0_ n1_ n2_ n3_
          have n0_:=A_ (blk_drew BK426.out)
          have n1_:=A_ (blk_drew BK427.out)
          have n2_:=A_ (blk_drew BK431.out)
          have n3_:=A_ (below_drew1 HB.out)
          clear BK426 BK427 BK431 HB
          have BK426:=n0_
          have BK427:=n1_
          have BK431:=n2_
          have HB:=n3_
          clear n0_ n1_ n2_ n3_
          have p433:0≤(x40_3:Int):=od_
          have q433:x40_3<(l0_1.length:Int):=od_
          obtain⟨ad433,e433,hx433_0,hx433_1,hx433_2⟩:=at_T75 HR0_1.out x40_3 p433 q433
          have hw433_2:=hx433_2
          have hw433_1:=hx433_1
          have hw433_0:=hx433_0
          cases e433
          replace hx433_0:=cl_ HB.out hx433_0
          replace hx433_1:=cl_ HB.out hx433_1
          replace hx433_2:=cl_ HB.out hx433_2
          replace p433:=eq_true p433
          replace q433:=eq_true q433
          refine sS 14 (fun w'=>w'.cell? ⟨gb431,0,none⟩=some (.int .i64 ((rd_T72 l1_2 x40_3).f0))∧w'.cell? ⟨gb431,1,none⟩=some (.int .u64 ((rd_T72 l1_2 x40_3).f1))∧w'.cell? ⟨gb426,0,none⟩=some (.slice A0_0 l0_0.length c0_0)∧w'.cell? ⟨gb426,1,none⟩=some (.slice (some ad433) l0_1.length c0_1)∧w'.cell? ⟨gb426,2,none⟩=some (.bool a0_2)∧w'.cell? ⟨gb426,3,none⟩=some (.int .i64 a0_3)∧w'.cell? ⟨gb426,4,none⟩=some (.int .i64 a0_4)∧w'.cell? ⟨gb426,5,none⟩=some (.int .i64 a0_5)∧w'.cell? (ad433.add ((x40_3).toNat*3))=some (.int .i64 ((rd_T75 l0_1 x40_3).f0))∧w'.cell? ⟨(ad433.add ((x40_3).toNat*3)).block,(ad433.add ((x40_3).toNat*3)).off+1,none⟩=some (.bool ((rd_T75 l0_1 x40_3).f1))∧w'.cell? ⟨(ad433.add ((x40_3).toNat*3)).block,(ad433.add ((x40_3).toNat*3)).off+2,none⟩=some (.int .u64 ((rd_T75 l0_1 x40_3).f2))) [] ⟨(blk_cell BK431.out 0).trans rfl,(blk_cell BK431.out 1).trans rfl,(blk_cell BK426.out 0).trans rfl,(blk_cell BK426.out 1).trans rfl,(blk_cell BK426.out 2).trans rfl,(blk_cell BK426.out 3).trans rfl,(blk_cell BK426.out 4).trans rfl,(blk_cell BK426.out 5).trans rfl,(ce_ HB hw433_0),(ce_ HB hw433_1),(ce_ HB hw433_2)⟩ impl_GoodState.tab11 impl_GoodState.bits11 (fun hHeld HT_ HW_=>?_)
          generalize w55.drew=w56 at BK426 BK427 BK431 HB hx433_0 hx433_1 hx433_2 hHeld ⊢
          refine tS HT_ HW_ 0 45 hHeld ?_
          refine oS HT_ 1 (some 46) (fun K hK=>?_)
          refine goes_ Try.func32 (by kernel_rfl) rfl #[.agg #[.int .i64 ((rd_T72 l1_2 x40_3).f0),.int .u64 ((rd_T72 l1_2 x40_3).f1)]] (by rfl) rfl rfl ar ?_
          with_reducible refine(impl_GoodWord.calls ((rd_T72 l1_2 x40_3).f0) ((rd_T72 l1_2 x40_3).f1) true _ A47.out).mono ?_
          rintro e w57 ⟨rfl,hb⟩
          refine⟨_,rfl,?_⟩
          have n0_:=A_ (blk_below (g:=gb426) (o:=.cells #[.slice A0_0 l0_0.length c0_0,.slice (some ad433) l0_1.length c0_1,.bool a0_2,.int .i64 a0_3,.int .i64 a0_4,.int .i64 a0_5] 38 (0,0)) (bk BK426.out) hb)
          have n1_:=A_ (blk_below (g:=gb427) (o:=.cells #[.int .i64 a1_0,.string a1_1,.slice (some ad430) l1_2.length c1_2] 42 (0,0)) (bk BK427.out) hb)
          have n2_:=A_ (blk_below (g:=gb431) (o:=.cells #[.int .i64 ((rd_T72 l1_2 x40_3).f0),.int .u64 ((rd_T72 l1_2 x40_3).f1)] 72 (0,0)) (bk BK431.out) hb)
          have n3_:=A_ (below_step (bw HB.out) hb)
          clear BK426 BK427 BK431 HB
          have BK426:=n0_
          have BK427:=n1_
          have BK431:=n2_
          have HB:=n3_
          clear n0_ n1_ n2_ n3_
          (try clear hb)
          (try clear hb2)
          (try clear hk)
          (try clear hi)
          refine hK.out _ _ ⟨(blk_cell BK431.out 0).trans rfl,(blk_cell BK431.out 1).trans rfl,(blk_cell BK426.out 0).trans rfl,(blk_cell BK426.out 1).trans rfl,(blk_cell BK426.out 2).trans rfl,(blk_cell BK426.out 3).trans rfl,(blk_cell BK426.out 4).trans rfl,(blk_cell BK426.out 5).trans rfl,(ce_ HB hw433_0),(ce_ HB hw433_1),(ce_ HB hw433_2)⟩ (fun hHeld=>?_)
          clear hK K
          refine nS (some 46) ?_
          refine pS HT_ 2 47 ?_
          refine pS HT_ 3 48 ?_
          refine pS HT_ 4 49 ?_
          refine pS HT_ 6 51 ?_
          refine pS HT_ 8 53 ?_
          refine tS HT_ HW_ 5 50 hHeld ?_
          refine tS HT_ HW_ 7 52 hHeld ?_
          refine pS HT_ 9 54 ?_
          refine pS HT_ 10 55 ?_
          refine tS HT_ HW_ 11 56 hHeld ?_
          refine pS HT_ 12 57 ?_
          refine pS HT_ 13 58 ?_
          refine dS HT_ ?_
          try go_wp2
          go_roundg k3
          case measure=>have:=HJ2.out;have:=HJ16.out;have:=HK3.out;omega
          case rel=>exact⟨(wrap64 (x40_3+1)),rs_,H',⟨by have:=HJ2.out;have:=HJ16.out;have:=HK3.out;omega⟩,⟨bk BK426.out⟩,⟨bk BK427.out⟩,⟨bw HB.out⟩⟩
         obtain rfl:=Option.some.inj H
         clear H
         have p430:0≤(x40_3:Int):=od_
         have q430:x40_3<(l1_2.length:Int):=od_
         obtain⟨ad430,e430,hx430_0,hx430_1⟩:=at_T72 HR1_2.out x40_3 p430 q430
         cases e430
         replace hx430_0:=cl_ HB.out hx430_0
         replace hx430_1:=cl_ HB.out hx430_1
         replace p430:=eq_true p430
         replace q430:=eq_true q430
         try go_wp2_with (first|((with_reducible refine gd_ 6 rfl ?_);(try (refine gate_guard (by rfl) ?_;dsimp only));refine bx_ #[.int .i64 0,.int .u64 0] 72 ?_;intro gb431 hg w58 hbox hb;have BK431:=A_ hbox;have GW431:=gw_ hg HB;have GE431:=GW431;obtain⟨NB426_431,NB431_426⟩:=nb_ BK426 hg;obtain⟨NB427_431,NB431_427⟩:=nb_ BK427 hg;replace BK426:=kb_ BK426 hb;replace BK427:=kb_ BK427 hb;replace HB:=bs_ HB hb;clear hb hbox hg;have hnb59:=NB431_426.out;have hnc59:=NB426_431.out;have hnb60:=NB431_427.out;have hnc60:=NB427_431.out;obtain⟨hcz61_0,hcz61_1⟩:=cs2_ BK431.out;obtain⟨hfz61_0,hfz61_1⟩:=fz2_ BK431.out))
         have n0_:Aside0 (((w58.setCell ⟨gb431,0,none⟩ (.int .i64 ((rd_T72 l1_2 x40_3).f0))).setCell ⟨gb431,1,none⟩ (.int .u64 ((rd_T72 l1_2 x40_3).f1))).heap[gb426]? =some (.cells #[.slice A0_0 l0_0.length c0_0,.slice A0_1 l0_1.length c0_1,.bool a0_2,.int .i64 a0_3,.int .i64 a0_4,.int .i64 a0_5] 38 (0,0))):=⟨by refine blk_far ?_ NB426_431.out _;refine blk_far ?_ NB426_431.out _;(with_reducible repeat (first|refine blk_drewN ?_ _|refine blk_drew ?_|refine blk_alloc ?_ _));exact BK426.out⟩
         have n1_:Aside0 (((w58.setCell ⟨gb431,0,none⟩ (.int .i64 ((rd_T72 l1_2 x40_3).f0))).setCell ⟨gb431,1,none⟩ (.int .u64 ((rd_T72 l1_2 x40_3).f1))).heap[gb427]? =some (.cells #[.int .i64 a1_0,.string a1_1,.slice (some ad430) l1_2.length c1_2] 42 (0,0))):=⟨by refine blk_far ?_ NB427_431.out _;refine blk_far ?_ NB427_431.out _;(with_reducible repeat (first|refine blk_drewN ?_ _|refine blk_drew ?_|refine blk_alloc ?_ _));exact BK427.out⟩
         have n2_:Aside0 (((w58.setCell ⟨gb431,0,none⟩ (.int .i64 ((rd_T72 l1_2 x40_3).f0))).setCell ⟨gb431,1,none⟩ (.int .u64 ((rd_T72 l1_2 x40_3).f1))).heap[gb431]? =some (.cells #[.int .i64 ((rd_T72 l1_2 x40_3).f0),.int .u64 ((rd_T72 l1_2 x40_3).f1)] 72 (0,0))):=⟨by refine blk_put (cs:=#[.int .i64 ((rd_T72 l1_2 x40_3).f0),.int .u64 0]) ?_ 1 _ rfl;refine blk_put (cs:=#[.int .i64 0,.int .u64 0]) ?_ 0 _ rfl;(with_reducible repeat (first|refine blk_drewN ?_ _|refine blk_drew ?_|refine blk_alloc ?_ _));exact BK431.out⟩
         have n3_:Aside0 (Below w.heap.size w ((w58.setCell ⟨gb431,0,none⟩ (.int .i64 ((rd_T72 l1_2 x40_3).f0))).setCell ⟨gb431,1,none⟩ (.int .u64 ((rd_T72 l1_2 x40_3).f1)))):=⟨bw HB.out⟩
         (try clear BK426)
         (try clear BK427)
         (try clear BK431)
         (try clear HB)
         generalize ((w58.setCell ⟨gb431,0,none⟩ (.int .i64 ((rd_T72 l1_2 x40_3).f0))).setCell ⟨gb431,1,none⟩ (.int .u64 ((rd_T72 l1_2 x40_3).f1)))=w62 at n0_ n1_ n2_ n3_ ⊢
         have BK426:=n0_
         have BK427:=n1_
         have BK431:=n2_
         have HB:=n3_
         clear n0_ n1_ n2_ n3_
         have n0_:=A_ (blk_drew BK426.out)
         have n1_:=A_ (blk_drew BK427.out)
         have n2_:=A_ (blk_drew BK431.out)
         have n3_:=A_ (below_drew1 HB.out)
         clear BK426 BK427 BK431 HB
         have BK426:=n0_
         have BK427:=n1_
         have BK431:=n2_
         have HB:=n3_
         clear n0_ n1_ n2_ n3_
         have p433:0≤(x40_3:Int):=od_
         have q433:x40_3<(l0_1.length:Int):=od_
         obtain⟨ad433,e433,hx433_0,hx433_1,hx433_2⟩:=at_T75 HR0_1.out x40_3 p433 q433
         have hw433_2:=hx433_2
         have hw433_1:=hx433_1
         have hw433_0:=hx433_0
         cases e433
         replace hx433_0:=cl_ HB.out hx433_0
         replace hx433_1:=cl_ HB.out hx433_1
         replace hx433_2:=cl_ HB.out hx433_2
         replace p433:=eq_true p433
         replace q433:=eq_true q433
         refine sS 14 (fun w'=>w'.cell? ⟨gb431,0,none⟩=some (.int .i64 ((rd_T72 l1_2 x40_3).f0))∧w'.cell? ⟨gb431,1,none⟩=some (.int .u64 ((rd_T72 l1_2 x40_3).f1))∧w'.cell? ⟨gb426,0,none⟩=some (.slice A0_0 l0_0.length c0_0)∧w'.cell? ⟨gb426,1,none⟩=some (.slice (some ad433) l0_1.length c0_1)∧w'.cell? ⟨gb426,2,none⟩=some (.bool a0_2)∧w'.cell? ⟨gb426,3,none⟩=some (.int .i64 a0_3)∧w'.cell? ⟨gb426,4,none⟩=some (.int .i64 a0_4)∧w'.cell? ⟨gb426,5,none⟩=some (.int .i64 a0_5)∧w'.cell? (ad433.add ((x40_3).toNat*3))=some (.int .i64 ((rd_T75 l0_1 x40_3).f0))∧w'.cell? ⟨(ad433.add ((x40_3).toNat*3)).block,(ad433.add ((x40_3).toNat*3)).off+1,none⟩=some (.bool ((rd_T75 l0_1 x40_3).f1))∧w'.cell? ⟨(ad433.add ((x40_3).toNat*3)).block,(ad433.add ((x40_3).toNat*3)).off+2,none⟩=some (.int .u64 ((rd_T75 l0_1 x40_3).f2))) [] ⟨(blk_cell BK431.out 0).trans rfl,(blk_cell BK431.out 1).trans rfl,(blk_cell BK426.out 0).trans rfl,(blk_cell BK426.out 1).trans rfl,(blk_cell BK426.out 2).trans rfl,(blk_cell BK426.out 3).trans rfl,(blk_cell BK426.out 4).trans rfl,(blk_cell BK426.out 5).trans rfl,(ce_ HB hw433_0),(ce_ HB hw433_1),(ce_ HB hw433_2)⟩ impl_GoodState.tab11 impl_GoodState.bits11 (fun hHeld HT_ HW_=>?_)
         generalize w62.drew=w63 at BK426 BK427 BK431 HB hx433_0 hx433_1 hx433_2 hHeld ⊢
         refine tS HT_ HW_ 0 45 hHeld ?_
         refine oS HT_ 1 (some 46) (fun K hK=>?_)
         refine goes_ Try.func32 (by kernel_rfl) rfl #[.agg #[.int .i64 ((rd_T72 l1_2 x40_3).f0),.int .u64 ((rd_T72 l1_2 x40_3).f1)]] (by rfl) rfl rfl ar ?_
         with_reducible refine(impl_GoodWord.calls ((rd_T72 l1_2 x40_3).f0) ((rd_T72 l1_2 x40_3).f1) true _ A47.out).mono ?_
         rintro e w64 ⟨rfl,hb⟩
         refine⟨_,rfl,?_⟩
         have n0_:=A_ (blk_below (g:=gb426) (o:=.cells #[.slice A0_0 l0_0.length c0_0,.slice (some ad433) l0_1.length c0_1,.bool a0_2,.int .i64 a0_3,.int .i64 a0_4,.int .i64 a0_5] 38 (0,0)) (bk BK426.out) hb)
         have n1_:=A_ (blk_below (g:=gb427) (o:=.cells #[.int .i64 a1_0,.string a1_1,.slice (some ad430) l1_2.length c1_2] 42 (0,0)) (bk BK427.out) hb)
         have n2_:=A_ (blk_below (g:=gb431) (o:=.cells #[.int .i64 ((rd_T72 l1_2 x40_3).f0),.int .u64 ((rd_T72 l1_2 x40_3).f1)] 72 (0,0)) (bk BK431.out) hb)
         have n3_:=A_ (below_step (bw HB.out) hb)
         clear BK426 BK427 BK431 HB
         have BK426:=n0_
         have BK427:=n1_
         have BK431:=n2_
         have HB:=n3_
         clear n0_ n1_ n2_ n3_
         (try clear hb)
         (try clear hb2)
         (try clear hk)
         (try clear hi)
         refine hK.out _ _ ⟨(blk_cell BK431.out 0).trans rfl,(blk_cell BK431.out 1).trans rfl,(blk_cell BK426.out 0).trans rfl,(blk_cell BK426.out 1).trans rfl,(blk_cell BK426.out 2).trans rfl,(blk_cell BK426.out 3).trans rfl,(blk_cell BK426.out 4).trans rfl,(blk_cell BK426.out 5).trans rfl,(ce_ HB hw433_0),(ce_ HB hw433_1),(ce_ HB hw433_2)⟩ (fun hHeld=>?_)
         clear hK K
         refine nS (some 46) ?_
         refine pS HT_ 2 47 ?_
         refine pS HT_ 3 48 ?_
         refine pS HT_ 4 49 ?_
         refine pS HT_ 6 51 ?_
         refine pS HT_ 8 53 ?_
         refine tS HT_ HW_ 5 50 hHeld ?_
         refine tS HT_ HW_ 7 52 hHeld ?_
         refine pS HT_ 9 54 ?_
         refine pS HT_ 10 55 ?_
         refine tS HT_ HW_ 11 56 hHeld ?_
         refine pS HT_ 12 57 ?_
         refine pS HT_ 13 58 ?_
         refine dS HT_ ?_
         try go_wp2
         go_ret
         exact⟨rr_,bw HB.out⟩
        obtain rfl:=Option.some.inj H
        clear H
        have p430:0≤(x40_3:Int):=od_
        have q430:x40_3<(l1_2.length:Int):=od_
        obtain⟨ad430,e430,hx430_0,hx430_1⟩:=at_T72 HR1_2.out x40_3 p430 q430
        cases e430
        replace hx430_0:=cl_ HB.out hx430_0
        replace hx430_1:=cl_ HB.out hx430_1
        replace p430:=eq_true p430
        replace q430:=eq_true q430
        try go_wp2_with (first|((with_reducible refine gd_ 6 rfl ?_);(try (refine gate_guard (by rfl) ?_;dsimp only));refine bx_ #[.int .i64 0,.int .u64 0] 72 ?_;intro gb431 hg w65 hbox hb;have BK431:=A_ hbox;have GW431:=gw_ hg HB;have GE431:=GW431;obtain⟨NB426_431,NB431_426⟩:=nb_ BK426 hg;obtain⟨NB427_431,NB431_427⟩:=nb_ BK427 hg;replace BK426:=kb_ BK426 hb;replace BK427:=kb_ BK427 hb;replace HB:=bs_ HB hb;clear hb hbox hg;have hnb66:=NB431_426.out;have hnc66:=NB426_431.out;have hnb67:=NB431_427.out;have hnc67:=NB427_431.out;obtain⟨hcz68_0,hcz68_1⟩:=cs2_ BK431.out;obtain⟨hfz68_0,hfz68_1⟩:=fz2_ BK431.out))
        have n0_:Aside0 (((w65.setCell ⟨gb431,0,none⟩ (.int .i64 ((rd_T72 l1_2 x40_3).f0))).setCell ⟨gb431,1,none⟩ (.int .u64 ((rd_T72 l1_2 x40_3).f1))).heap[gb426]? =some (.cells #[.slice A0_0 l0_0.length c0_0,.slice A0_1 l0_1.length c0_1,.bool a0_2,.int .i64 a0_3,.int .i64 a0_4,.int .i64 a0_5] 38 (0,0))):=⟨by refine blk_far ?_ NB426_431.out _;refine blk_far ?_ NB426_431.out _;(with_reducible repeat (first|refine blk_drewN ?_ _|refine blk_drew ?_|refine blk_alloc ?_ _));exact BK426.out⟩
        have n1_:Aside0 (((w65.setCell ⟨gb431,0,none⟩ (.int .i64 ((rd_T72 l1_2 x40_3).f0))).setCell ⟨gb431,1,none⟩ (.int .u64 ((rd_T72 l1_2 x40_3).f1))).heap[gb427]? =some (.cells #[.int .i64 a1_0,.string a1_1,.slice (some ad430) l1_2.length c1_2] 42 (0,0))):=⟨by refine blk_far ?_ NB427_431.out _;refine blk_far ?_ NB427_431.out _;(with_reducible repeat (first|refine blk_drewN ?_ _|refine blk_drew ?_|refine blk_alloc ?_ _));exact BK427.out⟩
        have n2_:Aside0 (((w65.setCell ⟨gb431,0,none⟩ (.int .i64 ((rd_T72 l1_2 x40_3).f0))).setCell ⟨gb431,1,none⟩ (.int .u64 ((rd_T72 l1_2 x40_3).f1))).heap[gb431]? =some (.cells #[.int .i64 ((rd_T72 l1_2 x40_3).f0),.int .u64 ((rd_T72 l1_2 x40_3).f1)] 72 (0,0))):=⟨by refine blk_put (cs:=#[.int .i64 ((rd_T72 l1_2 x40_3).f0),.int .u64 0]) ?_ 1 _ rfl;refine blk_put (cs:=#[.int .i64 0,.int .u64 0]) ?_ 0 _ rfl;(with_reducible repeat (first|refine blk_drewN ?_ _|refine blk_drew ?_|refine blk_alloc ?_ _));exact BK431.out⟩
        have n3_:Aside0 (Below w.heap.size w ((w65.setCell ⟨gb431,0,none⟩ (.int .i64 ((rd_T72 l1_2 x40_3).f0))).setCell ⟨gb431,1,none⟩ (.int .u64 ((rd_T72 l1_2 x40_3).f1)))):=⟨bw HB.out⟩
        (try clear BK426)
        (try clear BK427)
        (try clear BK431)
        (try clear HB)
        generalize ((w65.setCell ⟨gb431,0,none⟩ (.int .i64 ((rd_T72 l1_2 x40_3).f0))).setCell ⟨gb431,1,none⟩ (.int .u64 ((rd_T72 l1_2 x40_3).f1)))=w69 at n0_ n1_ n2_ n3_ ⊢
        have BK426:=n0_
        have BK427:=n1_
        have BK431:=n2_
        have HB:=n3_
        clear n0_ n1_ n2_ n3_
        have n0_:=A_ (blk_drew BK426.out)
        have n1_:=A_ (blk_drew BK427.out)
        have n2_:=A_ (blk_drew BK431.out)
        have n3_:=A_ (below_drew1 HB.out)
        clear BK426 BK427 BK431 HB
        have BK426:=n0_
        have BK427:=n1_
        have BK431:=n2_
        have HB:=n3_
        clear n0_ n1_ n2_ n3_
        refine sS 14 (fun w'=>w'.cell? ⟨gb431,0,none⟩=some (.int .i64 ((rd_T72 l1_2 x40_3).f0))∧w'.cell? ⟨gb431,1,none⟩=some (.int .u64 ((rd_T72 l1_2 x40_3).f1))) [] ⟨(blk_cell BK431.out 0).trans rfl,(blk_cell BK431.out 1).trans rfl⟩ impl_GoodState.tab11 impl_GoodState.bits11 (fun hHeld HT_ HW_=>?_)
        generalize w69.drew=w70 at BK426 BK427 BK431 HB hHeld ⊢
        refine tS HT_ HW_ 0 45 hHeld ?_
        refine oS HT_ 1 (some 46) (fun K hK=>?_)
        refine goes_ Try.func32 (by kernel_rfl) rfl #[.agg #[.int .i64 ((rd_T72 l1_2 x40_3).f0),.int .u64 ((rd_T72 l1_2 x40_3).f1)]] (by rfl) rfl rfl ar ?_
        with_reducible refine(impl_GoodWord.calls ((rd_T72 l1_2 x40_3).f0) ((rd_T72 l1_2 x40_3).f1) false _ A47.out).mono ?_
        rintro e w71 ⟨rfl,hb⟩
        refine⟨_,rfl,?_⟩
        have n0_:=A_ (blk_below (g:=gb426) (o:=.cells #[.slice A0_0 l0_0.length c0_0,.slice A0_1 l0_1.length c0_1,.bool a0_2,.int .i64 a0_3,.int .i64 a0_4,.int .i64 a0_5] 38 (0,0)) (bk BK426.out) hb)
        have n1_:=A_ (blk_below (g:=gb427) (o:=.cells #[.int .i64 a1_0,.string a1_1,.slice (some ad430) l1_2.length c1_2] 42 (0,0)) (bk BK427.out) hb)
        have n2_:=A_ (blk_below (g:=gb431) (o:=.cells #[.int .i64 ((rd_T72 l1_2 x40_3).f0),.int .u64 ((rd_T72 l1_2 x40_3).f1)] 72 (0,0)) (bk BK431.out) hb)
        have n3_:=A_ (below_step (bw HB.out) hb)
        clear BK426 BK427 BK431 HB
        have BK426:=n0_
        have BK427:=n1_
        have BK431:=n2_
        have HB:=n3_
        clear n0_ n1_ n2_ n3_
        (try clear hb)
        (try clear hb2)
        (try clear hk)
        (try clear hi)
        refine hK.out _ _ ⟨(blk_cell BK431.out 0).trans rfl,(blk_cell BK431.out 1).trans rfl⟩ (fun hHeld=>?_)
        clear hK K
        refine nS (some 46) ?_
        refine pS HT_ 2 47 ?_
        refine pS HT_ 3 48 ?_
        refine pN HT_ 4 49 ?_
        refine pN HT_ 5 50 ?_
        refine pN HT_ 6 51 ?_
        refine pN HT_ 7 52 ?_
        refine pN HT_ 8 53 ?_
        refine pN HT_ 9 54 ?_
        refine pN HT_ 10 55 ?_
        refine pN HT_ 11 56 ?_
        refine pN HT_ 12 57 ?_
        refine pS HT_ 13 58 ?_
        refine dS HT_ ?_
        try go_wp2
        go_ret
        exact⟨rr_,bw HB.out⟩
       obtain rfl:=Option.some.inj H
       clear H
       go_wp2
       go_ret
       exact⟨rr_,bw HB.out⟩
end Go.Proofs.Ytanhbfhmgmjdgaa.Q

