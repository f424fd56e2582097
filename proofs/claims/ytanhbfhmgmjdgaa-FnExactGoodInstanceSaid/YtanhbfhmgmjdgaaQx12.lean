-- Written by a program of this session; it walks the functions that the law reaches.
import Derived.Test.YtanhbfhmgmjdgaaQx0
import Derived.Test.YtanhbfhmgmjdgaaQx1
import Derived.Test.YtanhbfhmgmjdgaaQx4
import Derived.Test.YtanhbfhmgmjdgaaQx11
namespace Go.Proofs.Ytanhbfhmgmjdgaa.Q
open Go.RowKit Go.Proofs.YtanhbfhmgmjdgaaW.PrintWords Go.Proofs.YtanhbfhmgmjdgaaW.PrintLast Go.Proofs.YtanhbfhmgmjdgaaW.PrintMore
attribute [local go_sem] max2_int min2_int max_two min_two max_three min_three max_four min_four   -- for this text's walks alone
set_option linter.unusedVariables false
set_option linter.unusedSimpArgs false
set_option maxRecDepth 100000
set_option maxHeartbeats 8000000

attribute [local go_sem high] eqA39
/-! ### spec_GoodState: function 23 -/
mutual
def spec_GoodState.j0:Nat→Bool→List (S88)→List (S75)→Bool→Int→Int→Int→Int→ByteArray→List (S72)→Option (Bool)
 |0,_,_,_,_,_,_,_,_,_,_=>none
 |k+1,x18,x210000,x210001,x210002,x210003,x210004,x210005,x211000,x211001,x211002=>if x18=true then (some false) else (spec_GoodState.l0 k x211002 (x211002.length:Int) 0 x210000 x210001 x210002 x210003 x210004 x210005 x211000 x211001 x211002)
def spec_GoodState.l0:Nat→List (S72)→Int→Int→List (S88)→List (S75)→Bool→Int→Int→Int→Int→ByteArray→List (S72)→Option (Bool)
 |0,_,_,_,_,_,_,_,_,_,_,_,_=>none
 |k+1,x20,x21,x22,x210000,x210001,x210002,x210003,x210004,x210005,x211000,x211001,x211002=>if x22<x21 then (if 0≤x22 then (if x22<(x20.length:Int) then ((spec_l8Word.f ((rd_T72 x20 x22).f0) ((rd_T72 x20 x22).f1)).bind fun t214=>(if t214=true then (if x22<(x210001.length:Int) then (if ((rd_T72 x20 x22).f0)=((rd_T75 x210001 x22).f0) then (spec_GoodState.l0 k x20 x21 (wrap64 (x22+1)) x210000 x210001 x210002 x210003 x210004 x210005 x211000 x211001 x211002) else (some false)) else (none)) else (some false))) else (none)) else (none)) else (if x210002=true then ((spec_GoodMemory.f x211000 x211001).bind fun t216=>(if t216=true then (some (x211000==x210004)) else (some false))) else (some (x211000==0 && (x211001.toList==([]:List UInt8)))))
end
def spec_GoodState.f (k:Nat) (l0_0:List (S88)) (l0_1:List (S75)) (a0_2:Bool) (a0_3:Int) (a0_4:Int) (a0_5:Int) (a1_0:Int) (a1_1:ByteArray) (l1_2:List (S72)):Option (Bool):=(spec_GoodShape.f k l0_0 l0_1 a0_2 a0_3 a0_4 a0_5).bind fun t211=>(if t211=true then (spec_GoodState.j0 k ((l1_2.length:Int) !=(l0_1.length:Int)) l0_0 l0_1 a0_2 a0_3 a0_4 a0_5 a1_0 a1_1 l1_2) else (spec_GoodState.j0 k true l0_0 l0_1 a0_2 a0_3 a0_4 a0_5 a1_0 a1_1 l1_2))
def spec_GoodState.T6:Bool × List (List Nat × List Nat):=(true,[([],[]),([0],[0]),([1],[1]),([2,1],[2]),([3],[3]),([4,3],[3,4]),([3],[3]),([6,3],[3,6]),([3],[3]),([7,8,3],[3,7,8]),([9,3],[3,9]),([10,3],[3,10]),([5,11,3],[3,5,11]),([3,12],[3,12])])
def spec_GoodState.B6:List Nat:=[0,1,3,7,15,31,15,79,15,463,975,1999,4095,8191]
theorem spec_GoodState.tab6:rtab .any (opsOf Try.f23 6)=spec_GoodState.T6:=by kernel_rfl
theorem spec_GoodState.bits6:waitsOk spec_GoodState.T6.2 spec_GoodState.B6=true:=by kernel_rfl
theorem spec_GoodState.calls (k:Nat) (A0_0:Option Addr) (c0_0:Nat) (l0_0:List (S88)) (A0_1:Option Addr) (c0_1:Nat) (l0_1:List (S75)) (a0_2:Bool) (a0_3:Int) (a0_4:Int) (a0_5:Int) (a1_0:Int) (a1_1:ByteArray) (A1_2:Option Addr) (c1_2:Nat) (l1_2:List (S72)) (r:Bool) (w:World) (hr0_0:Kd.C k88 w A0_0 l0_0.length l0_0) (hc0_0:l0_0.length≤c0_0) (hr0_1:Kd.C k75 w A0_1 l0_1.length l0_1) (hc0_1:l0_1.length≤c0_1) (hr1_2:Kd.C k72 w A1_2 l1_2.length l1_2) (hc1_2:l1_2.length≤c1_2) (h:spec_GoodState.f k l0_0 l0_1 a0_2 a0_3 a0_4 a0_5 a1_0 a1_1 l1_2=some r):
  Calls Try.prog 23 #[.agg #[.slice A0_0 l0_0.length c0_0,.slice A0_1 l0_1.length c0_1,.bool a0_2,.int .i64 a0_3,.int .i64 a0_4,.int .i64 a0_5],.agg #[.int .i64 a1_0,.string a1_1,.slice A1_2 l1_2.length c1_2]] w fun e w'=>e=.returned (.bool r)∧Below w.heap.size w w':=by
 have hu38:=Try.underlying38
 have hu42:=Try.underlying42
 have hu72:=Try.underlying72
 have hu39:=Try.underlying39
 have HR0_0:=A_ hr0_0
 have HC0_0:=A_ hc0_0
 clear hr0_0 hc0_0
 have HR0_1:=A_ hr0_1
 have HC0_1:=A_ hc0_1
 clear hr0_1 hc0_1
 have HR1_2:=A_ hr1_2
 have HC1_2:=A_ hc1_2
 clear hr1_2 hc1_2
 have HB:=A_ (Below.refl w.heap.size w)
 have H:((spec_GoodShape.f k l0_0 l0_1 a0_2 a0_3 a0_4 a0_5).bind fun t211=>(if t211=true then (spec_GoodState.j0 k ((l1_2.length:Int) !=(l0_1.length:Int)) l0_0 l0_1 a0_2 a0_3 a0_4 a0_5 a1_0 a1_1 l1_2) else (spec_GoodState.j0 k true l0_0 l0_1 a0_2 a0_3 a0_4 a0_5 a1_0 a1_1 l1_2)))=some r:=h
 clear h
 have HC3:=A_ H
 clear H
 go_enter Try.func23,Try.ntmps23
 go_upto_region 1 with (first|((with_reducible refine gd_ 2 rfl ?_);(try (refine gate_guard (by rfl) ?_;dsimp only));refine bx_ #[.slice A0_0 l0_0.length c0_0,.slice A0_1 l0_1.length c0_1,.bool a0_2,.int .i64 a0_3,.int .i64 a0_4,.int .i64 a0_5] 38 ?_;intro gb209 hg w4 hbox hb;have BK209:=A_ hbox;have GW209:=gw_ hg HB;have GE209:=GW209;replace HB:=bs_ HB hb;clear hb hbox hg)|((with_reducible refine gd_ 3 rfl ?_);(try (refine gate_guard (by rfl) ?_;dsimp only));refine bx_ #[.int .i64 a1_0,.string a1_1,.slice A1_2 l1_2.length c1_2] 42 ?_;intro gb210 hg w5 hbox hb;have BK210:=A_ hbox;have GW210:=gw_ hg HB;have GE210:=GW210;obtain⟨NB209_210,NB210_209⟩:=nb_ BK209 hg;replace BK209:=kb_ BK209 hb;replace HB:=bs_ HB hb;clear hb hbox hg))
 (try simp only[Act.put,List.setIfInBounds_toArray,List.set_cons_zero,List.set_cons_succ])
 go_cut [18] (fun v18 wc=>∃ (kq:Nat) (x18_2:Bool),v18=.bool x18_2∧Aside0 (spec_GoodState.j0 kq x18_2 l0_0 l0_1 a0_2 a0_3 a0_4 a0_5 a1_0 a1_1 l1_2=some r)∧Aside0 (kq≤k)∧Aside0 (wc.heap[gb209]? =some (.cells #[(.slice A0_0 l0_0.length c0_0),(.slice A0_1 l0_1.length c0_1),.bool a0_2,.int .i64 a0_3,.int .i64 a0_4,.int .i64 a0_5] 38 (0,0)))∧Aside0 (wc.heap[gb210]? =some (.cells #[.int .i64 a1_0,.string a1_1,(.slice A1_2 l1_2.length c1_2)] 42 (0,0)))∧Aside0 (Below w.heap.size w wc))
 case first=>
  have H:=HC3.out
  clear HC3
  replace H:=bA_ H
  obtain⟨t211,A6,H⟩:=H
  revert H
  refine iB_ (fun c7 H=>?_) (fun c7 H=>?_)<;>subst c7
  ·
   have H':=A_ H
   clear H
   have hnb8:=NB209_210.out
   have hnc8:=NB210_209.out
   obtain⟨hcz9_0,hcz9_1,hcz9_2,hcz9_3,hcz9_4,hcz9_5⟩:=cs6_ BK209.out
   obtain⟨hfz9_0,hfz9_1,hfz9_2,hfz9_3,hfz9_4,hfz9_5⟩:=fz6_ BK209.out
   go_wp2_with (first|((with_reducible refine gc_ 38 rfl ?_);refine gm_ (some 8) Try.func38 (spec_GoodShape.calls k _ _ l0_0 _ _ l0_1 a0_2 a0_3 a0_4 a0_5 true _ (cb_ HR0_0 HB) HC0_0.out (cb_ HR0_1 HB) HC0_1.out A6.out) ?_;intro w10 hb;replace BK209:=kb_ BK209 hb;replace BK210:=kb_ BK210 hb;replace HB:=bs_ HB hb;(try clear hb);obtain⟨hcz11_0,hcz11_1,hcz11_2⟩:=cs3_ BK210.out;obtain⟨hfz11_0,hfz11_1,hfz11_2⟩:=fz3_ BK210.out;obtain⟨hcz12_0,hcz12_1,hcz12_2,hcz12_3,hcz12_4,hcz12_5⟩:=cs6_ BK209.out;obtain⟨hfz12_0,hfz12_1,hfz12_2,hfz12_3,hfz12_4,hfz12_5⟩:=fz6_ BK209.out))
   go_meet
   case rel=>exact⟨_,(((l1_2.length:Int) !=(l0_1.length:Int))),rs_,H',⟨by first|omega|exact Nat.le_refl _⟩,⟨bk BK209.out⟩,⟨bk BK210.out⟩,⟨bw HB.out⟩⟩
  have H':=A_ H
  clear H
  have hnb13:=NB209_210.out
  have hnc13:=NB210_209.out
  obtain⟨hcz14_0,hcz14_1,hcz14_2,hcz14_3,hcz14_4,hcz14_5⟩:=cs6_ BK209.out
  obtain⟨hfz14_0,hfz14_1,hfz14_2,hfz14_3,hfz14_4,hfz14_5⟩:=fz6_ BK209.out
  go_wp2_with (first|((with_reducible refine gc_ 38 rfl ?_);refine gm_ (some 8) Try.func38 (spec_GoodShape.calls k _ _ l0_0 _ _ l0_1 a0_2 a0_3 a0_4 a0_5 false _ (cb_ HR0_0 HB) HC0_0.out (cb_ HR0_1 HB) HC0_1.out A6.out) ?_;intro w15 hb;replace BK209:=kb_ BK209 hb;replace BK210:=kb_ BK210 hb;replace HB:=bs_ HB hb;(try clear hb)))
  go_meet
  case rel=>exact⟨_,(true),rs_,H',⟨by first|omega|exact Nat.le_refl _⟩,⟨bk BK209.out⟩,⟨bk BK210.out⟩,⟨bw HB.out⟩⟩
 case rest=>
  clear HC3
  obtain⟨kq,x18_2,rfl,HA,HJ2,BK209,BK210,HB⟩:=hcut
  cases kq with
  |zero=>exact absurd HA.out (by simp[spec_GoodState.j0])
  |succ kj2=>
   have H:=HA.out
   clear HA
   simp only[spec_GoodState.j0] at H
   revert H
   refine iB_ (fun c16 H=>?_) (fun c16 H=>?_)<;>subst c16
   ·
    obtain rfl:=Option.some.inj H
    clear H
    go_wp2
    go_ret
    exact⟨rr_,bw HB.out⟩
   have H':=A_ H
   clear H
   have hnb17:=NB210_209.out
   have hnc17:=NB209_210.out
   obtain⟨hcz18_0,hcz18_1,hcz18_2⟩:=cs3_ BK210.out
   obtain⟨hfz18_0,hfz18_1,hfz18_2⟩:=fz3_ BK210.out
   go_wp2
   (try simp only[Act.put,List.setIfInBounds_toArray,List.set_cons_zero,List.set_cons_succ])
   go_loopg [22] kj2 (fun kq v22 w'=>∃ (x22_2:Int),v22=.int .i64 x22_2∧Aside0 (spec_GoodState.l0 kq l1_2 (l1_2.length:Int) x22_2 l0_0 l0_1 a0_2 a0_3 a0_4 a0_5 a1_0 a1_1 l1_2=some r)∧Aside0 (kq≤kj2)∧Aside0 (w'.heap[gb209]? =some (.cells #[(.slice A0_0 l0_0.length c0_0),(.slice A0_1 l0_1.length c0_1),.bool a0_2,.int .i64 a0_3,.int .i64 a0_4,.int .i64 a0_5] 38 (0,0)))∧Aside0 (w'.heap[gb210]? =some (.cells #[.int .i64 a1_0,.string a1_1,(.slice A1_2 l1_2.length c1_2)] 42 (0,0)))∧Aside0 (Below w.heap.size w w'))
   case atStart=>exact⟨(0),rs_,H',⟨Nat.le_refl _⟩,⟨bk BK209.out⟩,⟨bk BK210.out⟩,⟨bw HB.out⟩⟩
   case round=>
    clear H'
    try clear c16 hcz18_0 hcz18_1 hcz18_2 hfz18_0 hfz18_1 hfz18_2
    obtain⟨x22_2,rfl,HA,HK2,BK209,BK210,HB⟩:=hrel
    cases gk with
    |zero=>exact absurd HA.out (by simp[spec_GoodState.l0])
    |succ k2=>
     have H:=HA.out
     clear HA
     simp only[spec_GoodState.l0] at H
     revert H
     refine iL_ (fun c19b0 H=>?_) (fun c19b0 H=>?_)
     ·
      replace H:=id_ H
      obtain⟨c20b0,H⟩:=H
      replace H:=id_ H
      obtain⟨c21b0,H⟩:=H
      replace H:=bA_ H
      obtain⟨t214,A22,H⟩:=H
      revert H
      refine iB_ (fun c23 H=>?_) (fun c23 H=>?_)<;>subst c23
      ·
       replace H:=id_ H
       obtain⟨c24b0,H⟩:=H
       revert H
       refine iE_ (fun c25b0 c25b1 H=>?_) (fun c25 c25b0 c25b1 H=>?_)
       ·
        have H':=A_ H
        clear H
        have p212:0≤(x22_2:Int):=od_
        have q212:x22_2<(l1_2.length:Int):=od_
        obtain⟨ad212,e212,hx212_0,hx212_1⟩:=at_T72 HR1_2.out x22_2 p212 q212
        cases e212
        replace hx212_0:=cl_ HB.out hx212_0
        replace hx212_1:=cl_ HB.out hx212_1
        replace p212:=eq_true p212
        replace q212:=eq_true q212
        try go_wp2_with (first|((with_reducible refine gd_ 6 rfl ?_);(try (refine gate_guard (by rfl) ?_;dsimp only));refine bx_ #[.int .i64 0,.int .u64 0] 72 ?_;intro gb213 hg w26 hbox hb;have BK213:=A_ hbox;have GW213:=gw_ hg HB;have GE213:=GW213;obtain⟨NB209_213,NB213_209⟩:=nb_ BK209 hg;obtain⟨NB210_213,NB213_210⟩:=nb_ BK210 hg;replace BK209:=kb_ BK209 hb;replace BK210:=kb_ BK210 hb;replace HB:=bs_ HB hb;clear hb hbox hg;have hnb27:=NB213_209.out;have hnc27:=NB209_213.out;have hnb28:=NB213_210.out;have hnc28:=NB210_213.out;obtain⟨hcz29_0,hcz29_1⟩:=cs2_ BK213.out;obtain⟨hfz29_0,hfz29_1⟩:=fz2_ BK213.out))
        have n0_:Aside0 (((w26.setCell ⟨gb213,0,none⟩ (.int .i64 ((rd_T72 l1_2 x22_2).f0))).setCell ⟨gb213,1,none⟩ (.int .u64 ((rd_T72 l1_2 x22_2).f1))).heap[gb209]? =some (.cells #[.slice A0_0 l0_0.length c0_0,.slice A0_1 l0_1.length c0_1,.bool a0_2,.int .i64 a0_3,.int .i64 a0_4,.int .i64 a0_5] 38 (0,0))):=⟨by refine blk_far ?_ NB209_213.out _;refine blk_far ?_ NB209_213.out _;(with_reducible repeat (first|refine blk_drewN ?_ _|refine blk_drew ?_|refine blk_alloc ?_ _));exact BK209.out⟩
        have n1_:Aside0 (((w26.setCell ⟨gb213,0,none⟩ (.int .i64 ((rd_T72 l1_2 x22_2).f0))).setCell ⟨gb213,1,none⟩ (.int .u64 ((rd_T72 l1_2 x22_2).f1))).heap[gb210]? =some (.cells #[.int .i64 a1_0,.string a1_1,.slice (some ad212) l1_2.length c1_2] 42 (0,0))):=⟨by refine blk_far ?_ NB210_213.out _;refine blk_far ?_ NB210_213.out _;(with_reducible repeat (first|refine blk_drewN ?_ _|refine blk_drew ?_|refine blk_alloc ?_ _));exact BK210.out⟩
        have n2_:Aside0 (((w26.setCell ⟨gb213,0,none⟩ (.int .i64 ((rd_T72 l1_2 x22_2).f0))).setCell ⟨gb213,1,none⟩ (.int .u64 ((rd_T72 l1_2 x22_2).f1))).heap[gb213]? =some (.cells #[.int .i64 ((rd_T72 l1_2 x22_2).f0),.int .u64 ((rd_T72 l1_2 x22_2).f1)] 72 (0,0))):=⟨by refine blk_put (cs:=#[.int .i64 ((rd_T72 l1_2 x22_2).f0),.int .u64 0]) ?_ 1 _ rfl;refine blk_put (cs:=#[.int .i64 0,.int .u64 0]) ?_ 0 _ rfl;(with_reducible repeat (first|refine blk_drewN ?_ _|refine blk_drew ?_|refine blk_alloc ?_ _));exact BK213.out⟩
        have n3_:Aside0 (Below w.heap.size w ((w26.setCell ⟨gb213,0,none⟩ (.int .i64 ((rd_T72 l1_2 x22_2).f0))).setCell ⟨gb213,1,none⟩ (.int .u64 ((rd_T72 l1_2 x22_2).f1)))):=⟨bw HB.out⟩
        (try clear BK209)
        (try clear BK210)
        (try clear BK213)
        (try clear HB)
        generalize ((w26.setCell ⟨gb213,0,none⟩ (.int .i64 ((rd_T72 l1_2 x22_2).f0))).setCell ⟨gb213,1,none⟩ (.int .u64 ((rd_T72 l1_2 x22_2).f1)))=w30 at n0_ n1_ n2_ n3_ ⊢
        have BK209:=n0_
        have BK210:=n1_
        have BK213:=n2_
        have HB:=n3_
        clear n0_ n1_ n2_ n3_
        have n0_:=A_ (blk_drew BK209.out)
        have n1_:=A_ (blk_drew BK210.out)
        have n2_:=A_ (blk_drew BK213.out)
        have n3_:=A_ (below_drew1 HB.out)
        clear BK209 BK210 BK213 HB
        have BK209:=n0_
        have BK210:=n1_
        have BK213:=n2_
        have HB:=n3_
        clear n0_ n1_ n2_ n3_
        have p215:0≤(x22_2:Int):=od_
        have q215:x22_2<(l0_1.length:Int):=od_
        obtain⟨ad215,e215,hx215_0,hx215_1,hx215_2⟩:=at_T75 HR0_1.out x22_2 p215 q215
        have hw215_2:=hx215_2
        have hw215_1:=hx215_1
        have hw215_0:=hx215_0
        cases e215
        replace hx215_0:=cl_ HB.out hx215_0
        replace hx215_1:=cl_ HB.out hx215_1
        replace hx215_2:=cl_ HB.out hx215_2
        replace p215:=eq_true p215
        replace q215:=eq_true q215
        refine sS 14 (fun w'=>w'.cell? ⟨gb213,0,none⟩=some (.int .i64 ((rd_T72 l1_2 x22_2).f0))∧w'.cell? ⟨gb213,1,none⟩=some (.int .u64 ((rd_T72 l1_2 x22_2).f1))∧w'.cell? ⟨gb209,0,none⟩=some (.slice A0_0 l0_0.length c0_0)∧w'.cell? ⟨gb209,1,none⟩=some (.slice (some ad215) l0_1.length c0_1)∧w'.cell? ⟨gb209,2,none⟩=some (.bool a0_2)∧w'.cell? ⟨gb209,3,none⟩=some (.int .i64 a0_3)∧w'.cell? ⟨gb209,4,none⟩=some (.int .i64 a0_4)∧w'.cell? ⟨gb209,5,none⟩=some (.int .i64 a0_5)∧w'.cell? (ad215.add ((x22_2).toNat*3))=some (.int .i64 ((rd_T75 l0_1 x22_2).f0))∧w'.cell? ⟨(ad215.add ((x22_2).toNat*3)).block,(ad215.add ((x22_2).toNat*3)).off+1,none⟩=some (.bool ((rd_T75 l0_1 x22_2).f1))∧w'.cell? ⟨(ad215.add ((x22_2).toNat*3)).block,(ad215.add ((x22_2).toNat*3)).off+2,none⟩=some (.int .u64 ((rd_T75 l0_1 x22_2).f2))) [] ⟨(blk_cell BK213.out 0).trans rfl,(blk_cell BK213.out 1).trans rfl,(blk_cell BK209.out 0).trans rfl,(blk_cell BK209.out 1).trans rfl,(blk_cell BK209.out 2).trans rfl,(blk_cell BK209.out 3).trans rfl,(blk_cell BK209.out 4).trans rfl,(blk_cell BK209.out 5).trans rfl,(ce_ HB hw215_0),(ce_ HB hw215_1),(ce_ HB hw215_2)⟩ spec_GoodState.tab6 spec_GoodState.bits6 (fun hHeld HT_ HW_=>?_)
        generalize w30.drew=w31 at BK209 BK210 BK213 HB hx215_0 hx215_1 hx215_2 hHeld ⊢
        refine tS HT_ HW_ 0 27 hHeld ?_
        refine oS HT_ 1 (some 28) (fun K hK=>?_)
        refine goes_ Try.func40 (by kernel_rfl) rfl #[.agg #[.int .i64 ((rd_T72 l1_2 x22_2).f0),.int .u64 ((rd_T72 l1_2 x22_2).f1)]] (by rfl) rfl rfl ar ?_
        with_reducible refine(spec_l8Word.calls ((rd_T72 l1_2 x22_2).f0) ((rd_T72 l1_2 x22_2).f1) true _ A22.out).mono ?_
        rintro e w32 ⟨rfl,hb⟩
        refine⟨_,rfl,?_⟩
        have n0_:=A_ (blk_below (g:=gb209) (o:=.cells #[.slice A0_0 l0_0.length c0_0,.slice (some ad215) l0_1.length c0_1,.bool a0_2,.int .i64 a0_3,.int .i64 a0_4,.int .i64 a0_5] 38 (0,0)) (bk BK209.out) hb)
        have n1_:=A_ (blk_below (g:=gb210) (o:=.cells #[.int .i64 a1_0,.string a1_1,.slice (some ad212) l1_2.length c1_2] 42 (0,0)) (bk BK210.out) hb)
        have n2_:=A_ (blk_below (g:=gb213) (o:=.cells #[.int .i64 ((rd_T72 l1_2 x22_2).f0),.int .u64 ((rd_T72 l1_2 x22_2).f1)] 72 (0,0)) (bk BK213.out) hb)
        have n3_:=A_ (below_step (bw HB.out) hb)
        clear BK209 BK210 BK213 HB
        have BK209:=n0_
        have BK210:=n1_
        have BK213:=n2_
        have HB:=n3_
        clear n0_ n1_ n2_ n3_
        (try clear hb)
        (try clear hb2)
        (try clear hk)
        (try clear hi)
        refine hK.out _ _ ⟨(blk_cell BK213.out 0).trans rfl,(blk_cell BK213.out 1).trans rfl,(blk_cell BK209.out 0).trans rfl,(blk_cell BK209.out 1).trans rfl,(blk_cell BK209.out 2).trans rfl,(blk_cell BK209.out 3).trans rfl,(blk_cell BK209.out 4).trans rfl,(blk_cell BK209.out 5).trans rfl,(ce_ HB hw215_0),(ce_ HB hw215_1),(ce_ HB hw215_2)⟩ (fun hHeld=>?_)
        clear hK K
        refine nS (some 28) ?_
        refine pS HT_ 2 29 ?_
        refine pS HT_ 3 30 ?_
        refine pS HT_ 4 31 ?_
        refine pS HT_ 6 33 ?_
        refine pS HT_ 8 35 ?_
        refine tS HT_ HW_ 5 32 hHeld ?_
        refine tS HT_ HW_ 7 34 hHeld ?_
        refine pS HT_ 9 36 ?_
        refine pS HT_ 10 37 ?_
        refine tS HT_ HW_ 11 38 hHeld ?_
        refine pS HT_ 12 39 ?_
        refine pS HT_ 13 40 ?_
        refine dS HT_ ?_
        try go_wp2
        go_roundg k2
        case measure=>have:=HJ2.out;have:=HK2.out;omega
        case rel=>exact⟨(wrap64 (x22_2+1)),rs_,H',⟨by have:=HJ2.out;have:=HK2.out;omega⟩,⟨bk BK209.out⟩,⟨bk BK210.out⟩,⟨bw HB.out⟩⟩
       obtain rfl:=Option.some.inj H
       clear H
       have p212:0≤(x22_2:Int):=od_
       have q212:x22_2<(l1_2.length:Int):=od_
       obtain⟨ad212,e212,hx212_0,hx212_1⟩:=at_T72 HR1_2.out x22_2 p212 q212
       cases e212
       replace hx212_0:=cl_ HB.out hx212_0
       replace hx212_1:=cl_ HB.out hx212_1
       replace p212:=eq_true p212
       replace q212:=eq_true q212
       try go_wp2_with (first|((with_reducible refine gd_ 6 rfl ?_);(try (refine gate_guard (by rfl) ?_;dsimp only));refine bx_ #[.int .i64 0,.int .u64 0] 72 ?_;intro gb213 hg w33 hbox hb;have BK213:=A_ hbox;have GW213:=gw_ hg HB;have GE213:=GW213;obtain⟨NB209_213,NB213_209⟩:=nb_ BK209 hg;obtain⟨NB210_213,NB213_210⟩:=nb_ BK210 hg;replace BK209:=kb_ BK209 hb;replace BK210:=kb_ BK210 hb;replace HB:=bs_ HB hb;clear hb hbox hg;have hnb34:=NB213_209.out;have hnc34:=NB209_213.out;have hnb35:=NB213_210.out;have hnc35:=NB210_213.out;obtain⟨hcz36_0,hcz36_1⟩:=cs2_ BK213.out;obtain⟨hfz36_0,hfz36_1⟩:=fz2_ BK213.out))
       have n0_:Aside0 (((w33.setCell ⟨gb213,0,none⟩ (.int .i64 ((rd_T72 l1_2 x22_2).f0))).setCell ⟨gb213,1,none⟩ (.int .u64 ((rd_T72 l1_2 x22_2).f1))).heap[gb209]? =some (.cells #[.slice A0_0 l0_0.length c0_0,.slice A0_1 l0_1.length c0_1,.bool a0_2,.int .i64 a0_3,.int .i64 a0_4,.int .i64 a0_5] 38 (0,0))):=⟨by refine blk_far ?_ NB209_213.out _;refine blk_far ?_ NB209_213.out _;(with_reducible repeat (first|refine blk_drewN ?_ _|refine blk_drew ?_|refine blk_alloc ?_ _));exact BK209.out⟩
       have n1_:Aside0 (((w33.setCell ⟨gb213,0,none⟩ (.int .i64 ((rd_T72 l1_2 x22_2).f0))).setCell ⟨gb213,1,none⟩ (.int .u64 ((rd_T72 l1_2 x22_2).f1))).heap[gb210]? =some (.cells #[.int .i64 a1_0,.string a1_1,.slice (some ad212) l1_2.length c1_2] 42 (0,0))):=⟨by refine blk_far ?_ NB210_213.out _;refine blk_far ?_ NB210_213.out _;(with_reducible repeat (first|refine blk_drewN ?_ _|refine blk_drew ?_|refine blk_alloc ?_ _));exact BK210.out⟩
       have n2_:Aside0 (((w33.setCell ⟨gb213,0,none⟩ (.int .i64 ((rd_T72 l1_2 x22_2).f0))).setCell ⟨gb213,1,none⟩ (.int .u64 ((rd_T72 l1_2 x22_2).f1))).heap[gb213]? =some (.cells #[.int .i64 ((rd_T72 l1_2 x22_2).f0),.int .u64 ((rd_T72 l1_2 x22_2).f1)] 72 (0,0))):=⟨by refine blk_put (cs:=#[.int .i64 ((rd_T72 l1_2 x22_2).f0),.int .u64 0]) ?_ 1 _ rfl;refine blk_put (cs:=#[.int .i64 0,.int .u64 0]) ?_ 0 _ rfl;(with_reducible repeat (first|refine blk_drewN ?_ _|refine blk_drew ?_|refine blk_alloc ?_ _));exact BK213.out⟩
       have n3_:Aside0 (Below w.heap.size w ((w33.setCell ⟨gb213,0,none⟩ (.int .i64 ((rd_T72 l1_2 x22_2).f0))).setCell ⟨gb213,1,none⟩ (.int .u64 ((rd_T72 l1_2 x22_2).f1)))):=⟨bw HB.out⟩
       (try clear BK209)
       (try clear BK210)
       (try clear BK213)
       (try clear HB)
       generalize ((w33.setCell ⟨gb213,0,none⟩ (.int .i64 ((rd_T72 l1_2 x22_2).f0))).setCell ⟨gb213,1,none⟩ (.int .u64 ((rd_T72 l1_2 x22_2).f1)))=w37 at n0_ n1_ n2_ n3_ ⊢
       have BK209:=n0_
       have BK210:=n1_
       have BK213:=n2_
       have HB:=n3_
       clear n0_ n1_ n2_ n3_
       have n0_:=A_ (blk_drew BK209.out)
       have n1_:=A_ (blk_drew BK210.out)
       have n2_:=A_ (blk_drew BK213.out)
       have n3_:=A_ (below_drew1 HB.out)
       clear BK209 BK210 BK213 HB
       have BK209:=n0_
       have BK210:=n1_
       have BK213:=n2_
       have HB:=n3_
       clear n0_ n1_ n2_ n3_
       have p215:0≤(x22_2:Int):=od_
       have q215:x22_2<(l0_1.length:Int):=od_
       obtain⟨ad215,e215,hx215_0,hx215_1,hx215_2⟩:=at_T75 HR0_1.out x22_2 p215 q215
       have hw215_2:=hx215_2
       have hw215_1:=hx215_1
       have hw215_0:=hx215_0
       cases e215
       replace hx215_0:=cl_ HB.out hx215_0
       replace hx215_1:=cl_ HB.out hx215_1
       replace hx215_2:=cl_ HB.out hx215_2
       replace p215:=eq_true p215
       replace q215:=eq_true q215
       refine sS 14 (fun w'=>w'.cell? ⟨gb213,0,none⟩=some (.int .i64 ((rd_T72 l1_2 x22_2).f0))∧w'.cell? ⟨gb213,1,none⟩=some (.int .u64 ((rd_T72 l1_2 x22_2).f1))∧w'.cell? ⟨gb209,0,none⟩=some (.slice A0_0 l0_0.length c0_0)∧w'.cell? ⟨gb209,1,none⟩=some (.slice (some ad215) l0_1.length c0_1)∧w'.cell? ⟨gb209,2,none⟩=some (.bool a0_2)∧w'.cell? ⟨gb209,3,none⟩=some (.int .i64 a0_3)∧w'.cell? ⟨gb209,4,none⟩=some (.int .i64 a0_4)∧w'.cell? ⟨gb209,5,none⟩=some (.int .i64 a0_5)∧w'.cell? (ad215.add ((x22_2).toNat*3))=some (.int .i64 ((rd_T75 l0_1 x22_2).f0))∧w'.cell? ⟨(ad215.add ((x22_2).toNat*3)).block,(ad215.add ((x22_2).toNat*3)).off+1,none⟩=some (.bool ((rd_T75 l0_1 x22_2).f1))∧w'.cell? ⟨(ad215.add ((x22_2).toNat*3)).block,(ad215.add ((x22_2).toNat*3)).off+2,none⟩=some (.int .u64 ((rd_T75 l0_1 x22_2).f2))) [] ⟨(blk_cell BK213.out 0).trans rfl,(blk_cell BK213.out 1).trans rfl,(blk_cell BK209.out 0).trans rfl,(blk_cell BK209.out 1).trans rfl,(blk_cell BK209.out 2).trans rfl,(blk_cell BK209.out 3).trans rfl,(blk_cell BK209.out 4).trans rfl,(blk_cell BK209.out 5).trans rfl,(ce_ HB hw215_0),(ce_ HB hw215_1),(ce_ HB hw215_2)⟩ spec_GoodState.tab6 spec_GoodState.bits6 (fun hHeld HT_ HW_=>?_)
       generalize w37.drew=w38 at BK209 BK210 BK213 HB hx215_0 hx215_1 hx215_2 hHeld ⊢
       refine tS HT_ HW_ 0 27 hHeld ?_
       refine oS HT_ 1 (some 28) (fun K hK=>?_)
       refine goes_ Try.func40 (by kernel_rfl) rfl #[.agg #[.int .i64 ((rd_T72 l1_2 x22_2).f0),.int .u64 ((rd_T72 l1_2 x22_2).f1)]] (by rfl) rfl rfl ar ?_
       with_reducible refine(spec_l8Word.calls ((rd_T72 l1_2 x22_2).f0) ((rd_T72 l1_2 x22_2).f1) true _ A22.out).mono ?_
       rintro e w39 ⟨rfl,hb⟩
       refine⟨_,rfl,?_⟩
       have n0_:=A_ (blk_below (g:=gb209) (o:=.cells #[.slice A0_0 l0_0.length c0_0,.slice (some ad215) l0_1.length c0_1,.bool a0_2,.int .i64 a0_3,.int .i64 a0_4,.int .i64 a0_5] 38 (0,0)) (bk BK209.out) hb)
       have n1_:=A_ (blk_below (g:=gb210) (o:=.cells #[.int .i64 a1_0,.string a1_1,.slice (some ad212) l1_2.length c1_2] 42 (0,0)) (bk BK210.out) hb)
       have n2_:=A_ (blk_below (g:=gb213) (o:=.cells #[.int .i64 ((rd_T72 l1_2 x22_2).f0),.int .u64 ((rd_T72 l1_2 x22_2).f1)] 72 (0,0)) (bk BK213.out) hb)
       have n3_:=A_ (below_step (bw HB.out) hb)
       clear BK209 BK210 BK213 HB
       have BK209:=n0_
       have BK210:=n1_
       have BK213:=n2_
       have HB:=n3_
       clear n0_ n1_ n2_ n3_
       (try clear hb)
       (try clear hb2)
       (try clear hk)
       (try clear hi)
       refine hK.out _ _ ⟨(blk_cell BK213.out 0).trans rfl,(blk_cell BK213.out 1).trans rfl,(blk_cell BK209.out 0).trans rfl,(blk_cell BK209.out 1).trans rfl,(blk_cell BK209.out 2).trans rfl,(blk_cell BK209.out 3).trans rfl,(blk_cell BK209.out 4).trans rfl,(blk_cell BK209.out 5).trans rfl,(ce_ HB hw215_0),(ce_ HB hw215_1),(ce_ HB hw215_2)⟩ (fun hHeld=>?_)
       clear hK K
       refine nS (some 28) ?_
       refine pS HT_ 2 29 ?_
       refine pS HT_ 3 30 ?_
       refine pS HT_ 4 31 ?_
       refine pS HT_ 6 33 ?_
       refine pS HT_ 8 35 ?_
       refine tS HT_ HW_ 5 32 hHeld ?_
       refine tS HT_ HW_ 7 34 hHeld ?_
       refine pS HT_ 9 36 ?_
       refine pS HT_ 10 37 ?_
       refine tS HT_ HW_ 11 38 hHeld ?_
       refine pS HT_ 12 39 ?_
       refine pS HT_ 13 40 ?_
       refine dS HT_ ?_
       try go_wp2
       go_ret
       exact⟨rr_,bw HB.out⟩
      obtain rfl:=Option.some.inj H
      clear H
      have p212:0≤(x22_2:Int):=od_
      have q212:x22_2<(l1_2.length:Int):=od_
      obtain⟨ad212,e212,hx212_0,hx212_1⟩:=at_T72 HR1_2.out x22_2 p212 q212
      cases e212
      replace hx212_0:=cl_ HB.out hx212_0
      replace hx212_1:=cl_ HB.out hx212_1
      replace p212:=eq_true p212
      replace q212:=eq_true q212
      try go_wp2_with (first|((with_reducible refine gd_ 6 rfl ?_);(try (refine gate_guard (by rfl) ?_;dsimp only));refine bx_ #[.int .i64 0,.int .u64 0] 72 ?_;intro gb213 hg w40 hbox hb;have BK213:=A_ hbox;have GW213:=gw_ hg HB;have GE213:=GW213;obtain⟨NB209_213,NB213_209⟩:=nb_ BK209 hg;obtain⟨NB210_213,NB213_210⟩:=nb_ BK210 hg;replace BK209:=kb_ BK209 hb;replace BK210:=kb_ BK210 hb;replace HB:=bs_ HB hb;clear hb hbox hg;have hnb41:=NB213_209.out;have hnc41:=NB209_213.out;have hnb42:=NB213_210.out;have hnc42:=NB210_213.out;obtain⟨hcz43_0,hcz43_1⟩:=cs2_ BK213.out;obtain⟨hfz43_0,hfz43_1⟩:=fz2_ BK213.out))
      have n0_:Aside0 (((w40.setCell ⟨gb213,0,none⟩ (.int .i64 ((rd_T72 l1_2 x22_2).f0))).setCell ⟨gb213,1,none⟩ (.int .u64 ((rd_T72 l1_2 x22_2).f1))).heap[gb209]? =some (.cells #[.slice A0_0 l0_0.length c0_0,.slice A0_1 l0_1.length c0_1,.bool a0_2,.int .i64 a0_3,.int .i64 a0_4,.int .i64 a0_5] 38 (0,0))):=⟨by refine blk_far ?_ NB209_213.out _;refine blk_far ?_ NB209_213.out _;(with_reducible repeat (first|refine blk_drewN ?_ _|refine blk_drew ?_|refine blk_alloc ?_ _));exact BK209.out⟩
      have n1_:Aside0 (((w40.setCell ⟨gb213,0,none⟩ (.int .i64 ((rd_T72 l1_2 x22_2).f0))).setCell ⟨gb213,1,none⟩ (.int .u64 ((rd_T72 l1_2 x22_2).f1))).heap[gb210]? =some (.cells #[.int .i64 a1_0,.string a1_1,.slice (some ad212) l1_2.length c1_2] 42 (0,0))):=⟨by refine blk_far ?_ NB210_213.out _;refine blk_far ?_ NB210_213.out _;(with_reducible repeat (first|refine blk_drewN ?_ _|refine blk_drew ?_|refine blk_alloc ?_ _));exact BK210.out⟩
      have n2_:Aside0 (((w40.setCell ⟨gb213,0,none⟩ (.int .i64 ((rd_T72 l1_2 x22_2).f0))).setCell ⟨gb213,1,none⟩ (.int .u64 ((rd_T72 l1_2 x22_2).f1))).heap[gb213]? =some (.cells #[.int .i64 ((rd_T72 l1_2 x22_2).f0),.int .u64 ((rd_T72 l1_2 x22_2).f1)] 72 (0,0))):=⟨by refine blk_put (cs:=#[.int .i64 ((rd_T72 l1_2 x22_2).f0),.int .u64 0]) ?_ 1 _ rfl;refine blk_put (cs:=#[.int .i64 0,.int .u64 0]) ?_ 0 _ rfl;(with_reducible repeat (first|refine blk_drewN ?_ _|refine blk_drew ?_|refine blk_alloc ?_ _));exact BK213.out⟩
      have n3_:Aside0 (Below w.heap.size w ((w40.setCell ⟨gb213,0,none⟩ (.int .i64 ((rd_T72 l1_2 x22_2).f0))).setCell ⟨gb213,1,none⟩ (.int .u64 ((rd_T72 l1_2 x22_2).f1)))):=⟨bw HB.out⟩
      (try clear BK209)
      (try clear BK210)
      (try clear BK213)
      (try clear HB)
      generalize ((w40.setCell ⟨gb213,0,none⟩ (.int .i64 ((rd_T72 l1_2 x22_2).f0))).setCell ⟨gb213,1,none⟩ (.int .u64 ((rd_T72 l1_2 x22_2).f1)))=w44 at n0_ n1_ n2_ n3_ ⊢
      have BK209:=n0_
      have BK210:=n1_
      have BK213:=n2_
      have HB:=n3_
      clear n0_ n1_ n2_ n3_
      have n0_:=A_ (blk_drew BK209.out)
      have n1_:=A_ (blk_drew BK210.out)
      have n2_:=A_ (blk_drew BK213.out)
      have n3_:=A_ (below_drew1 HB.out)
      clear BK209 BK210 BK213 HB
      have BK209:=n0_
      have BK210:=n1_
      have BK213:=n2_
      have HB:=n3_
      clear n0_ n1_ n2_ n3_
      refine sS 14 (fun w'=>w'.cell? ⟨gb213,0,none⟩=some (.int .i64 ((rd_T72 l1_2 x22_2).f0))∧w'.cell? ⟨gb213,1,none⟩=some (.int .u64 ((rd_T72 l1_2 x22_2).f1))) [] ⟨(blk_cell BK213.out 0).trans rfl,(blk_cell BK213.out 1).trans rfl⟩ spec_GoodState.tab6 spec_GoodState.bits6 (fun hHeld HT_ HW_=>?_)
      generalize w44.drew=w45 at BK209 BK210 BK213 HB hHeld ⊢
      refine tS HT_ HW_ 0 27 hHeld ?_
      refine oS HT_ 1 (some 28) (fun K hK=>?_)
      refine goes_ Try.func40 (by kernel_rfl) rfl #[.agg #[.int .i64 ((rd_T72 l1_2 x22_2).f0),.int .u64 ((rd_T72 l1_2 x22_2).f1)]] (by rfl) rfl rfl ar ?_
      with_reducible refine(spec_l8Word.calls ((rd_T72 l1_2 x22_2).f0) ((rd_T72 l1_2 x22_2).f1) false _ A22.out).mono ?_
      rintro e w46 ⟨rfl,hb⟩
      refine⟨_,rfl,?_⟩
      have n0_:=A_ (blk_below (g:=gb209) (o:=.cells #[.slice A0_0 l0_0.length c0_0,.slice A0_1 l0_1.length c0_1,.bool a0_2,.int .i64 a0_3,.int .i64 a0_4,.int .i64 a0_5] 38 (0,0)) (bk BK209.out) hb)
      have n1_:=A_ (blk_below (g:=gb210) (o:=.cells #[.int .i64 a1_0,.string a1_1,.slice (some ad212) l1_2.length c1_2] 42 (0,0)) (bk BK210.out) hb)
      have n2_:=A_ (blk_below (g:=gb213) (o:=.cells #[.int .i64 ((rd_T72 l1_2 x22_2).f0),.int .u64 ((rd_T72 l1_2 x22_2).f1)] 72 (0,0)) (bk BK213.out) hb)
      have n3_:=A_ (below_step (bw HB.out) hb)
      clear BK209 BK210 BK213 HB
      have BK209:=n0_
      have BK210:=n1_
      have BK213:=n2_
      have HB:=n3_
      clear n0_ n1_ n2_ n3_
      (try clear hb)
      (try clear hb2)
      (try clear hk)
      (try clear hi)
      refine hK.out _ _ ⟨(blk_cell BK213.out 0).trans rfl,(blk_cell BK213.out 1).trans rfl⟩ (fun hHeld=>?_)
      clear hK K
      refine nS (some 28) ?_
      refine pS HT_ 2 29 ?_
      refine pS HT_ 3 30 ?_
      refine pN HT_ 4 31 ?_
      refine pN HT_ 5 32 ?_
      refine pN HT_ 6 33 ?_
      refine pN HT_ 7 34 ?_
      refine pN HT_ 8 35 ?_
      refine pN HT_ 9 36 ?_
      refine pN HT_ 10 37 ?_
      refine pN HT_ 11 38 ?_
      refine pN HT_ 12 39 ?_
      refine pS HT_ 13 40 ?_
      refine dS HT_ ?_
      try go_wp2
      go_ret
      exact⟨rr_,bw HB.out⟩
     revert H
     refine iB_ (fun c47 H=>?_) (fun c47 H=>?_)<;>subst c47
     ·
      replace H:=bA_ H
      obtain⟨t216,A48,H⟩:=H
      revert H
      refine iB_ (fun c49 H=>?_) (fun c49 H=>?_)<;>subst c49
      ·
       obtain rfl:=Option.some.inj H
       clear H
       have hnb50:=NB209_210.out
       have hnc50:=NB210_209.out
       obtain⟨hcz51_0,hcz51_1,hcz51_2,hcz51_3,hcz51_4,hcz51_5⟩:=cs6_ BK209.out
       obtain⟨hfz51_0,hfz51_1,hfz51_2,hfz51_3,hfz51_4,hfz51_5⟩:=fz6_ BK209.out
       obtain⟨hcz52_0,hcz52_1,hcz52_2⟩:=cs3_ BK210.out
       obtain⟨hfz52_0,hfz52_1,hfz52_2⟩:=fz3_ BK210.out
       go_wp2_with (first|((with_reducible refine gc_ 41 rfl ?_);refine gm_ (some 51) Try.func41 (spec_GoodMemory.calls a1_0 a1_1 true _ A48.out) ?_;intro w53 hb;replace BK209:=kb_ BK209 hb;replace BK210:=kb_ BK210 hb;replace HB:=bs_ HB hb;(try clear hb);obtain⟨hcz54_0,hcz54_1,hcz54_2⟩:=cs3_ BK210.out;obtain⟨hfz54_0,hfz54_1,hfz54_2⟩:=fz3_ BK210.out;obtain⟨hcz55_0,hcz55_1,hcz55_2,hcz55_3,hcz55_4,hcz55_5⟩:=cs6_ BK209.out;obtain⟨hfz55_0,hfz55_1,hfz55_2,hfz55_3,hfz55_4,hfz55_5⟩:=fz6_ BK209.out))
       go_ret
       exact⟨rr_,bw HB.out⟩
      obtain rfl:=Option.some.inj H
      clear H
      have hnb56:=NB209_210.out
      have hnc56:=NB210_209.out
      obtain⟨hcz57_0,hcz57_1,hcz57_2,hcz57_3,hcz57_4,hcz57_5⟩:=cs6_ BK209.out
      obtain⟨hfz57_0,hfz57_1,hfz57_2,hfz57_3,hfz57_4,hfz57_5⟩:=fz6_ BK209.out
      obtain⟨hcz58_0,hcz58_1,hcz58_2⟩:=cs3_ BK210.out
      obtain⟨hfz58_0,hfz58_1,hfz58_2⟩:=fz3_ BK210.out
      go_wp2_with (first|((with_reducible refine gc_ 41 rfl ?_);refine gm_ (some 51) Try.func41 (spec_GoodMemory.calls a1_0 a1_1 false _ A48.out) ?_;intro w59 hb;replace BK209:=kb_ BK209 hb;replace BK210:=kb_ BK210 hb;replace HB:=bs_ HB hb;(try clear hb)))
      go_ret
      exact⟨rr_,bw HB.out⟩
     obtain rfl:=Option.some.inj H
     clear H
     have hnb60:=NB209_210.out
     have hnc60:=NB210_209.out
     obtain⟨hcz61_0,hcz61_1,hcz61_2,hcz61_3,hcz61_4,hcz61_5⟩:=cs6_ BK209.out
     obtain⟨hfz61_0,hfz61_1,hfz61_2,hfz61_3,hfz61_4,hfz61_5⟩:=fz6_ BK209.out
     obtain⟨hcz62_0,hcz62_1,hcz62_2⟩:=cs3_ BK210.out
     obtain⟨hfz62_0,hfz62_1,hfz62_2⟩:=fz3_ BK210.out
     go_wp2
     go_ret
     exact⟨rr_,bw HB.out⟩

/-! ### spec_l10Good: function 11 -/
def spec_l10Good.f (k:Nat) (l0_0:List (S88)) (l0_1:List (S75)) (a0_2:Bool) (a0_3:Int) (a0_4:Int) (a0_5:Int) (a0_6:Int) (a0_7:ByteArray) (l0_8:List (S72)) (a0_9:Bool) (a0_10:Int):Option (Bool):=(spec_CheckModule.f k l0_0 l0_1 a0_2 a0_3 a0_4 a0_5).bind fun bt218=>(if bt218.1=0 then ((spec_GoodState.f k l0_0 l0_1 a0_2 a0_3 a0_4 a0_5 a0_6 a0_7 l0_8).bind fun t221=>(if t221=true then ((spec_l1In.f a0_10 0 1000000000).bind fun t222=>(some t222)) else (some false))) else (some false))
theorem spec_l10Good.calls (k:Nat) (A0_0:Option Addr) (c0_0:Nat) (l0_0:List (S88)) (A0_1:Option Addr) (c0_1:Nat) (l0_1:List (S75)) (a0_2:Bool) (a0_3:Int) (a0_4:Int) (a0_5:Int) (a0_6:Int) (a0_7:ByteArray) (A0_8:Option Addr) (c0_8:Nat) (l0_8:List (S72)) (a0_9:Bool) (a0_10:Int) (r:Bool) (w:World) (hr0_0:Kd.C k88 w A0_0 l0_0.length l0_0) (hc0_0:l0_0.length≤c0_0) (hr0_1:Kd.C k75 w A0_1 l0_1.length l0_1) (hc0_1:l0_1.length≤c0_1) (hr0_8:Kd.C k72 w A0_8 l0_8.length l0_8) (hc0_8:l0_8.length≤c0_8) (h:spec_l10Good.f k l0_0 l0_1 a0_2 a0_3 a0_4 a0_5 a0_6 a0_7 l0_8 a0_9 a0_10=some r):
  Calls Try.prog 11 #[.agg #[.slice A0_0 l0_0.length c0_0,.slice A0_1 l0_1.length c0_1,.bool a0_2,.int .i64 a0_3,.int .i64 a0_4,.int .i64 a0_5,.int .i64 a0_6,.string a0_7,.slice A0_8 l0_8.length c0_8,.bool a0_9,.int .i64 a0_10]] w fun e w'=>e=.returned (.bool r)∧Below w.heap.size w w':=by
 have hu44:=Try.underlying44
 have hu38:=Try.underlying38
 have hu42:=Try.underlying42
 have HR0_0:=A_ hr0_0
 have HC0_0:=A_ hc0_0
 clear hr0_0 hc0_0
 have HR0_1:=A_ hr0_1
 have HC0_1:=A_ hc0_1
 clear hr0_1 hc0_1
 have HR0_8:=A_ hr0_8
 have HC0_8:=A_ hc0_8
 clear hr0_8 hc0_8
 have HB:=A_ (Below.refl w.heap.size w)
 have H:((spec_CheckModule.f k l0_0 l0_1 a0_2 a0_3 a0_4 a0_5).bind fun bt218=>(if bt218.1=0 then ((spec_GoodState.f k l0_0 l0_1 a0_2 a0_3 a0_4 a0_5 a0_6 a0_7 l0_8).bind fun t221=>(if t221=true then ((spec_l1In.f a0_10 0 1000000000).bind fun t222=>(some t222)) else (some false))) else (some false)))=some r:=h
 clear h
 replace H:=Option.bind_eq_some_iff.mp H
 obtain⟨⟨t218,t219,t220⟩,A20,H⟩:=H
 try dsimp only at H
 have A2:=A_ A20
 clear A20
 revert H
 refine iE_ (fun c3b0 c3b1 H=>?_) (fun c3 c3b0 c3b1 H=>?_)
 replace H:=bA_ H
 obtain⟨t221,A4,H⟩:=H
 revert H
 refine iB_ (fun c5 H=>?_) (fun c5 H=>?_)<;>subst c5
 replace H:=bA_ H
 obtain⟨t222,A6,H⟩:=H
 all_goals
  obtain rfl:=Option.some.inj H
  clear H
  go_enter Try.func11,Try.ntmps11
  go_wp2_with (first|((with_reducible refine gd_ 1 rfl ?_);refine bx_ #[.slice A0_0 l0_0.length c0_0,.slice A0_1 l0_1.length c0_1,.bool a0_2,.int .i64 a0_3,.int .i64 a0_4,.int .i64 a0_5,.int .i64 a0_6,.string a0_7,.slice A0_8 l0_8.length c0_8,.bool a0_9,.int .i64 a0_10] 44 ?_;intro gb217 hg w7 hbox hb;have BK217:=A_ hbox;have GW217:=gw_ hg HB;have GE217:=GW217;replace HB:=bs_ HB hb;clear hb hbox hg;have hcz8_0:w7.cell? ⟨gb217,0,none⟩=some (.slice A0_0 l0_0.length c0_0):=(blk_cell BK217.out 0).trans rfl;have hcz8_1:w7.cell? ⟨gb217,1,none⟩=some (.slice A0_1 l0_1.length c0_1):=(blk_cell BK217.out 1).trans rfl;have hcz8_2:w7.cell? ⟨gb217,2,none⟩=some (.bool a0_2):=(blk_cell BK217.out 2).trans rfl;have hcz8_3:w7.cell? ⟨gb217,3,none⟩=some (.int .i64 a0_3):=(blk_cell BK217.out 3).trans rfl;have hcz8_4:w7.cell? ⟨gb217,4,none⟩=some (.int .i64 a0_4):=(blk_cell BK217.out 4).trans rfl;have hcz8_5:w7.cell? ⟨gb217,5,none⟩=some (.int .i64 a0_5):=(blk_cell BK217.out 5).trans rfl;have hcz8_6:w7.cell? ⟨gb217,6,none⟩=some (.int .i64 a0_6):=(blk_cell BK217.out 6).trans rfl;have hcz8_7:w7.cell? ⟨gb217,7,none⟩=some (.string a0_7):=(blk_cell BK217.out 7).trans rfl;have hcz8_8:w7.cell? ⟨gb217,8,none⟩=some (.slice A0_8 l0_8.length c0_8):=(blk_cell BK217.out 8).trans rfl;have hcz8_9:w7.cell? ⟨gb217,9,none⟩=some (.bool a0_9):=(blk_cell BK217.out 9).trans rfl;have hcz8_10:w7.cell? ⟨gb217,10,none⟩=some (.int .i64 a0_10):=(blk_cell BK217.out 10).trans rfl;have hfz8_0:=blk_frozen BK217.out 0;have hfz8_1:=blk_frozen BK217.out 1;have hfz8_2:=blk_frozen BK217.out 2;have hfz8_3:=blk_frozen BK217.out 3;have hfz8_4:=blk_frozen BK217.out 4;have hfz8_5:=blk_frozen BK217.out 5;have hfz8_6:=blk_frozen BK217.out 6;have hfz8_7:=blk_frozen BK217.out 7;have hfz8_8:=blk_frozen BK217.out 8;have hfz8_9:=blk_frozen BK217.out 9;have hfz8_10:=blk_frozen BK217.out 10)|((with_reducible refine gc_ 22 rfl ?_);refine gm_ (some 9) Try.func22 (spec_CheckModule.calls k _ _ l0_0 _ _ l0_1 a0_2 a0_3 a0_4 a0_5 t218 t219 t220 _ (cb_ HR0_0 HB) HC0_0.out (cb_ HR0_1 HB) HC0_1.out A2.out) ?_;intro w9 hb;replace BK217:=kb_ BK217 hb;replace HB:=bs_ HB hb;(try clear hb);have hcz10_0:w9.cell? ⟨gb217,0,none⟩=some (.slice A0_0 l0_0.length c0_0):=(blk_cell BK217.out 0).trans rfl;have hcz10_1:w9.cell? ⟨gb217,1,none⟩=some (.slice A0_1 l0_1.length c0_1):=(blk_cell BK217.out 1).trans rfl;have hcz10_2:w9.cell? ⟨gb217,2,none⟩=some (.bool a0_2):=(blk_cell BK217.out 2).trans rfl;have hcz10_3:w9.cell? ⟨gb217,3,none⟩=some (.int .i64 a0_3):=(blk_cell BK217.out 3).trans rfl;have hcz10_4:w9.cell? ⟨gb217,4,none⟩=some (.int .i64 a0_4):=(blk_cell BK217.out 4).trans rfl;have hcz10_5:w9.cell? ⟨gb217,5,none⟩=some (.int .i64 a0_5):=(blk_cell BK217.out 5).trans rfl;have hcz10_6:w9.cell? ⟨gb217,6,none⟩=some (.int .i64 a0_6):=(blk_cell BK217.out 6).trans rfl;have hcz10_7:w9.cell? ⟨gb217,7,none⟩=some (.string a0_7):=(blk_cell BK217.out 7).trans rfl;have hcz10_8:w9.cell? ⟨gb217,8,none⟩=some (.slice A0_8 l0_8.length c0_8):=(blk_cell BK217.out 8).trans rfl;have hcz10_9:w9.cell? ⟨gb217,9,none⟩=some (.bool a0_9):=(blk_cell BK217.out 9).trans rfl;have hcz10_10:w9.cell? ⟨gb217,10,none⟩=some (.int .i64 a0_10):=(blk_cell BK217.out 10).trans rfl;have hfz10_0:=blk_frozen BK217.out 0;have hfz10_1:=blk_frozen BK217.out 1;have hfz10_2:=blk_frozen BK217.out 2;have hfz10_3:=blk_frozen BK217.out 3;have hfz10_4:=blk_frozen BK217.out 4;have hfz10_5:=blk_frozen BK217.out 5;have hfz10_6:=blk_frozen BK217.out 6;have hfz10_7:=blk_frozen BK217.out 7;have hfz10_8:=blk_frozen BK217.out 8;have hfz10_9:=blk_frozen BK217.out 9;have hfz10_10:=blk_frozen BK217.out 10)|((with_reducible refine gc_ 23 rfl ?_);refine gm_ (some 19) Try.func23 (spec_GoodState.calls k _ _ l0_0 _ _ l0_1 a0_2 a0_3 a0_4 a0_5 a0_6 a0_7 _ _ l0_8 true _ (cb_ HR0_0 HB) HC0_0.out (cb_ HR0_1 HB) HC0_1.out (cb_ HR0_8 HB) HC0_8.out A4.out) ?_;intro w11 hb;replace BK217:=kb_ BK217 hb;replace HB:=bs_ HB hb;(try clear hb);have hcz12_0:w11.cell? ⟨gb217,0,none⟩=some (.slice A0_0 l0_0.length c0_0):=(blk_cell BK217.out 0).trans rfl;have hcz12_1:w11.cell? ⟨gb217,1,none⟩=some (.slice A0_1 l0_1.length c0_1):=(blk_cell BK217.out 1).trans rfl;have hcz12_2:w11.cell? ⟨gb217,2,none⟩=some (.bool a0_2):=(blk_cell BK217.out 2).trans rfl;have hcz12_3:w11.cell? ⟨gb217,3,none⟩=some (.int .i64 a0_3):=(blk_cell BK217.out 3).trans rfl;have hcz12_4:w11.cell? ⟨gb217,4,none⟩=some (.int .i64 a0_4):=(blk_cell BK217.out 4).trans rfl;have hcz12_5:w11.cell? ⟨gb217,5,none⟩=some (.int .i64 a0_5):=(blk_cell BK217.out 5).trans rfl;have hcz12_6:w11.cell? ⟨gb217,6,none⟩=some (.int .i64 a0_6):=(blk_cell BK217.out 6).trans rfl;have hcz12_7:w11.cell? ⟨gb217,7,none⟩=some (.string a0_7):=(blk_cell BK217.out 7).trans rfl;have hcz12_8:w11.cell? ⟨gb217,8,none⟩=some (.slice A0_8 l0_8.length c0_8):=(blk_cell BK217.out 8).trans rfl;have hcz12_9:w11.cell? ⟨gb217,9,none⟩=some (.bool a0_9):=(blk_cell BK217.out 9).trans rfl;have hcz12_10:w11.cell? ⟨gb217,10,none⟩=some (.int .i64 a0_10):=(blk_cell BK217.out 10).trans rfl;have hfz12_0:=blk_frozen BK217.out 0;have hfz12_1:=blk_frozen BK217.out 1;have hfz12_2:=blk_frozen BK217.out 2;have hfz12_3:=blk_frozen BK217.out 3;have hfz12_4:=blk_frozen BK217.out 4;have hfz12_5:=blk_frozen BK217.out 5;have hfz12_6:=blk_frozen BK217.out 6;have hfz12_7:=blk_frozen BK217.out 7;have hfz12_8:=blk_frozen BK217.out 8;have hfz12_9:=blk_frozen BK217.out 9;have hfz12_10:=blk_frozen BK217.out 10)|(go_at_call 24;(with_reducible refine(spec_l1In.calls a0_10 0 1000000000 t222 _ A6.out).mono ?_);rintro e w' ⟨rfl,⟨nd,rfl⟩⟩)|((with_reducible refine gc_ 23 rfl ?_);refine gm_ (some 19) Try.func23 (spec_GoodState.calls k _ _ l0_0 _ _ l0_1 a0_2 a0_3 a0_4 a0_5 a0_6 a0_7 _ _ l0_8 false _ (cb_ HR0_0 HB) HC0_0.out (cb_ HR0_1 HB) HC0_1.out (cb_ HR0_8 HB) HC0_8.out A4.out) ?_;intro w17 hb;replace BK217:=kb_ BK217 hb;replace HB:=bs_ HB hb;(try clear hb)))
  go_ret
  exact⟨rr_,bw HB.out⟩

/-! ### spec_GoodInstance: function 5 -/
def spec_GoodInstance.f (k:Nat) (l0_0:List (S88)) (l0_1:List (S75)) (a0_2:Bool) (a0_3:Int) (a0_4:Int) (a0_5:Int) (a0_6:Int) (a0_7:ByteArray) (l0_8:List (S72)) (a0_9:Bool) (a0_10:Int):Option (Bool):=(spec_l10Good.f k l0_0 l0_1 a0_2 a0_3 a0_4 a0_5 a0_6 a0_7 l0_8 a0_9 a0_10).bind fun t224=>(some t224)
theorem spec_GoodInstance.calls (k:Nat) (A0_0:Option Addr) (c0_0:Nat) (l0_0:List (S88)) (A0_1:Option Addr) (c0_1:Nat) (l0_1:List (S75)) (a0_2:Bool) (a0_3:Int) (a0_4:Int) (a0_5:Int) (a0_6:Int) (a0_7:ByteArray) (A0_8:Option Addr) (c0_8:Nat) (l0_8:List (S72)) (a0_9:Bool) (a0_10:Int) (r:Bool) (w:World) (hr0_0:Kd.C k88 w A0_0 l0_0.length l0_0) (hc0_0:l0_0.length≤c0_0) (hr0_1:Kd.C k75 w A0_1 l0_1.length l0_1) (hc0_1:l0_1.length≤c0_1) (hr0_8:Kd.C k72 w A0_8 l0_8.length l0_8) (hc0_8:l0_8.length≤c0_8) (h:spec_GoodInstance.f k l0_0 l0_1 a0_2 a0_3 a0_4 a0_5 a0_6 a0_7 l0_8 a0_9 a0_10=some r):
  Calls Try.prog 5 #[.agg #[.slice A0_0 l0_0.length c0_0,.slice A0_1 l0_1.length c0_1,.bool a0_2,.int .i64 a0_3,.int .i64 a0_4,.int .i64 a0_5,.int .i64 a0_6,.string a0_7,.slice A0_8 l0_8.length c0_8,.bool a0_9,.int .i64 a0_10]] w fun e w'=>e=.returned (.bool r)∧Below w.heap.size w w':=by
 have hu44:=Try.underlying44
 have HR0_0:=A_ hr0_0
 have HC0_0:=A_ hc0_0
 clear hr0_0 hc0_0
 have HR0_1:=A_ hr0_1
 have HC0_1:=A_ hc0_1
 clear hr0_1 hc0_1
 have HR0_8:=A_ hr0_8
 have HC0_8:=A_ hc0_8
 clear hr0_8 hc0_8
 have HB:=A_ (Below.refl w.heap.size w)
 have H:((spec_l10Good.f k l0_0 l0_1 a0_2 a0_3 a0_4 a0_5 a0_6 a0_7 l0_8 a0_9 a0_10).bind fun t224=>(some t224))=some r:=h
 clear h
 replace H:=bA_ H
 obtain⟨t224,A2,H⟩:=H
 obtain rfl:=Option.some.inj H
 clear H
 go_enter Try.func5,Try.ntmps5
 go_wp2_with (first|((with_reducible refine gd_ 1 rfl ?_);refine bx_ #[.slice A0_0 l0_0.length c0_0,.slice A0_1 l0_1.length c0_1,.bool a0_2,.int .i64 a0_3,.int .i64 a0_4,.int .i64 a0_5,.int .i64 a0_6,.string a0_7,.slice A0_8 l0_8.length c0_8,.bool a0_9,.int .i64 a0_10] 44 ?_;intro gb223 hg w3 hbox hb;have BK223:=A_ hbox;have GW223:=gw_ hg HB;have GE223:=GW223;replace HB:=bs_ HB hb;clear hb hbox hg;have hcz4_0:w3.cell? ⟨gb223,0,none⟩=some (.slice A0_0 l0_0.length c0_0):=(blk_cell BK223.out 0).trans rfl;have hcz4_1:w3.cell? ⟨gb223,1,none⟩=some (.slice A0_1 l0_1.length c0_1):=(blk_cell BK223.out 1).trans rfl;have hcz4_2:w3.cell? ⟨gb223,2,none⟩=some (.bool a0_2):=(blk_cell BK223.out 2).trans rfl;have hcz4_3:w3.cell? ⟨gb223,3,none⟩=some (.int .i64 a0_3):=(blk_cell BK223.out 3).trans rfl;have hcz4_4:w3.cell? ⟨gb223,4,none⟩=some (.int .i64 a0_4):=(blk_cell BK223.out 4).trans rfl;have hcz4_5:w3.cell? ⟨gb223,5,none⟩=some (.int .i64 a0_5):=(blk_cell BK223.out 5).trans rfl;have hcz4_6:w3.cell? ⟨gb223,6,none⟩=some (.int .i64 a0_6):=(blk_cell BK223.out 6).trans rfl;have hcz4_7:w3.cell? ⟨gb223,7,none⟩=some (.string a0_7):=(blk_cell BK223.out 7).trans rfl;have hcz4_8:w3.cell? ⟨gb223,8,none⟩=some (.slice A0_8 l0_8.length c0_8):=(blk_cell BK223.out 8).trans rfl;have hcz4_9:w3.cell? ⟨gb223,9,none⟩=some (.bool a0_9):=(blk_cell BK223.out 9).trans rfl;have hcz4_10:w3.cell? ⟨gb223,10,none⟩=some (.int .i64 a0_10):=(blk_cell BK223.out 10).trans rfl;have hfz4_0:=blk_frozen BK223.out 0;have hfz4_1:=blk_frozen BK223.out 1;have hfz4_2:=blk_frozen BK223.out 2;have hfz4_3:=blk_frozen BK223.out 3;have hfz4_4:=blk_frozen BK223.out 4;have hfz4_5:=blk_frozen BK223.out 5;have hfz4_6:=blk_frozen BK223.out 6;have hfz4_7:=blk_frozen BK223.out 7;have hfz4_8:=blk_frozen BK223.out 8;have hfz4_9:=blk_frozen BK223.out 9;have hfz4_10:=blk_frozen BK223.out 10)|((with_reducible refine gc_ 11 rfl ?_);refine gm_ (some 4) Try.func11 (spec_l10Good.calls k _ _ l0_0 _ _ l0_1 a0_2 a0_3 a0_4 a0_5 a0_6 a0_7 _ _ l0_8 a0_9 a0_10 t224 _ (cb_ HR0_0 HB) HC0_0.out (cb_ HR0_1 HB) HC0_1.out (cb_ HR0_8 HB) HC0_8.out A2.out) ?_;intro w5 hb;replace BK223:=kb_ BK223 hb;replace HB:=bs_ HB hb;(try clear hb)))
 go_ret
 exact⟨rr_,bw HB.out⟩

/-! ### laws_toIntS: function 58 -/
def laws_toIntS.l0:Nat→List Int→List Int→Int→Option (List Int)
 |0,_,_,_=>none
 |k+1,x0,x3,x4=>if x4<(x0.length:Int) then (if 0≤x4 then (if x4<(x3.length:Int) then (laws_toIntS.l0 k x0 (x3.set (x4:Int).toNat (rd x0 x4)) (wrap64 (x4+1))) else (none)) else (none)) else (some x3)
def laws_toIntS.f (k:Nat) (l0:List Int):Option (List Int):=if 0≤(l0.length:Int) then (if ((l0.length:Int):Int).toNat≤35184372088832 then (laws_toIntS.l0 k l0 (List.replicate ((l0.length:Int):Int).toNat 0) 0) else (none)) else (none)
theorem laws_toIntS.calls (k:Nat) (A0:Option Addr) (c0:Nat) (l0:List Int) (r:List Int) (w:World) (hr0:Kd.C (Kd.int .i64) w A0 l0.length l0) (hc0:l0.length≤c0) (h:laws_toIntS.f k l0=some r):
  Calls Try.prog 58 #[.slice A0 l0.length c0] w fun e w'=>∃ v0_:Value,e=.returned (v0_)∧Kd.R (Kd.int .i64) 3 w' w.heap.size (fun _=>True) v0_ r∧Below w.heap.size w w':=by
 have HR0:=A_ hr0
 have HC0:=A_ hc0
 clear hr0 hc0
 have HB:=A_ (Below.refl w.heap.size w)
 have H:(if 0≤(l0.length:Int) then (if ((l0.length:Int):Int).toNat≤35184372088832 then (laws_toIntS.l0 k l0 (List.replicate ((l0.length:Int):Int).toNat 0) 0) else (none)) else (none))=some r:=h
 clear h
 replace H:=iq_ H
 obtain⟨c2b0,c2b1,H⟩:=H
 replace H:=iq_ H
 obtain⟨c3b0,c3b1,H⟩:=H
 obtain⟨y225,hy225⟩:∃ y_:List Int,y_=(List.replicate ((l0.length:Int):Int).toNat 0):=⟨_,rfl⟩
 rw[←hy225] at H
 have Ny225:=A_ hy225
 clear hy225
 have H':=A_ H
 clear H
 go_enter Try.func58,Try.ntmps58
 go_wp2_with (first|((with_reducible refine gd_ 7 rfl ?_);refine Kd.R_make (Kd.int .i64) _ 3 rfl (N:=7) rfl 81 _ _ rfl (l0.length:Int) rfl rfl Try.underlying81 (.int .i64 0) 8 info3 rfl (by decide) (by omega) 0 (ok:=fun _=>True) (okp:=fun _=>True) rfl (fun _ hk=>hk) trivial (od_) (Nat.le_trans (Nat.mul_le_mul_right _ (od_:(l0.length:Int).toNat≤35184372088832)) (by omega)) (Below.refl _ _) (Nat.le_refl _) ?_;intro v226 w4 ho5 hb hg_ hnew_;clear hg_ hnew_;(first|rw[←Ny225.out] at ho5|(simp only[Int.reduceToNat] at ho5;rw[←Ny225.out] at ho5));have HO227:=A_ (Kd.R_lower ho5 (below_size (bw HB.out)));replace HB:=bs_ HB hb;clear hb ho5))
 (try simp only[Act.put,List.setIfInBounds_toArray,List.set_cons_zero,List.set_cons_succ])
 go_loopg [4] k (fun kq v4 w'=>∃ (x3_1:List Int) (x4_1:Int),v4=.int .i64 x4_1∧Aside0 (laws_toIntS.l0 kq l0 x3_1 x4_1=some r)∧Aside0 (kq≤k)∧Aside0 (Kd.R (Kd.int .i64) 3 w' w.heap.size (fun _=>True) v226 x3_1)∧Aside0 (Below w.heap.size w w'))
 case atStart=>exact⟨(y225),(0),rs_,H',⟨Nat.le_refl _⟩,⟨kr_ HO227.out⟩,⟨bw HB.out⟩⟩
 case round=>
  clear H'
  try clear c2 c2b0 c2b1 c3 c3b0 c3b1
  obtain⟨x3_1,x4_1,rfl,HA,HK1,HO_3,HB⟩:=hrel
  cases gk with
  |zero=>exact absurd HA.out (by simp[laws_toIntS.l0])
  |succ k1=>
   have H:=HA.out
   clear HA
   simp only[laws_toIntS.l0] at H
   revert H
   refine iL_ (fun c6b0 H=>?_) (fun c6b0 H=>?_)
   ·
    replace H:=id_ H
    obtain⟨c7b0,H⟩:=H
    replace H:=id_ H
    obtain⟨c8b0,H⟩:=H
    obtain⟨y229,hy229⟩:∃ y_:List Int,y_=(x3_1.set (x4_1:Int).toNat (rd l0 x4_1)):=⟨_,rfl⟩
    rw[←hy229] at H
    have Ny229:=A_ hy229
    clear hy229
    have H':=A_ H
    clear H
    have p228:0≤(x4_1:Int):=od_
    have q228:x4_1<(l0.length:Int):=od_
    obtain⟨ad228,e228,hx228_0⟩:=Kd.at_int HR0.out x4_1 p228 q228
    cases e228
    replace hx228_0:=cl_ HB.out hx228_0
    replace p228:=eq_true p228
    replace q228:=eq_true q228
    have p9:0≤(x4_1:Int):=od_
    have q9:(x4_1:Int)<((x3_1.length:Int):Int):=od_
    obtain⟨go9,co9,eo9,gb9,gl9,cl9,HG9⟩:=Kd.R_form HO_3.out (by omega)
    (first|cases eo9|(injection eo9 with ea_ en_ ec_;(first|subst ea_|(injection ea_ with ea_;subst ea_));subst ec_;clear en_))
    have GB9:=A_ gb9
    have GG9:=A_ HG9
    clear gb9 gl9 HG9
    obtain⟨hx9_0,hf9_0⟩:=Kd.R_celln 0 HO_3.out (x4_1:Int) p9 q9
    replace p9:=eq_true p9
    replace q9:=eq_true q9
    have HP10:=Kd.R_putg HO_3.out (x4_1:Int) (rd l0 x4_1)
    go_wp2_with (first|((with_reducible refine gate_store (t:=3) (p:=20) rfl ?_);refine store_event (t:=3) (p:=20) (v:=?vo_w11) (w1:=(wr.setCell ⟨go9,(x4_1:Int).toNat,none⟩ (.int .i64 (rd l0 x4_1)))) ?hg ?ho ?hn ?hr ?_;(case ho=>rfl);(case hg=>rfl);(case hn=>rfl);(case hr=>first|(go_simp;done)|(go_simp;rfl));intro w11 hw;have hg:wr.grownBy w11 (some go9):=(by rw[hw];exact HP10.2);have hp_:Kd.R (Kd.int .i64) 3 w11 w.heap.size (fun _=>True) (.slice (some ⟨go9,0,none⟩) x3_1.length co9) y229:=(by rw[hw,Ny229.out];exact HP10.1);clear HP10;replace HO_3:=A_ (hp_);replace HB:=A_ ((by rw[hw];exact below_set (HB.out) GB9.out:Below w.heap.size w w11));clear hg hw hp_))
    go_roundg k1
    case measure=>have:=HK1.out;omega
    case rel=>exact⟨(y229),(wrap64 (x4_1+1)),rs_,H',⟨by have:=HK1.out;omega⟩,⟨kr_ HO_3.out⟩,⟨bw HB.out⟩⟩
   obtain rfl:=Option.some.inj H
   clear H
   go_wp2
   go_ret
   exact⟨_,rr_,kr_ HO_3.out,bw HB.out⟩

/-! ### laws_toIns: function 80 -/
def laws_toIns.f (a0_0:Int) (a0_1:Int):Option (Int × Int):=some (a0_0,a0_1)
theorem laws_toIns.calls (a0_0:Int) (a0_1:Int) (r1:Int) (r2:Int) (w:World) (h:laws_toIns.f a0_0 a0_1=some (r1,r2)):
  Calls Try.prog 80 #[.agg #[.int .i64 a0_0,.int .i64 a0_1]] w fun e w'=>e=.returned (.agg #[.int .i64 r1,.int .i64 r2])∧Below w.heap.size w w':=by
 have hu133:=Try.underlying133
 have hu103:=Try.underlying103
 have HB:=A_ (Below.refl w.heap.size w)
 have H:(some (a0_0,a0_1))=some (r1,r2):=h
 clear h
 simp only[Option.some.injEq,Prod.mk.injEq] at H
 obtain⟨rfl,rfl⟩:=H
 go_enter Try.func80,Try.ntmps80
 go_wp2_with (first|((with_reducible refine gd_ 1 rfl ?_);refine bx_ #[.int .i64 a0_0,.int .i64 a0_1] 133 ?_;intro gb230 hg w2 hbox hb;have BK230:=A_ hbox;have GW230:=gw_ hg HB;have GE230:=GW230;replace HB:=bs_ HB hb;clear hb hbox hg)|((with_reducible refine gd_ 2 rfl ?_);refine bx_ #[.int .i64 0,.int .i64 0] 103 ?_;intro gb231 hg w3 hbox hb;have BK231:=A_ hbox;have GW231:=gw_ hg HB;have GE231:=GW231;obtain⟨NB230_231,NB231_230⟩:=nb_ BK230 hg;replace BK230:=kb_ BK230 hb;replace HB:=bs_ HB hb;clear hb hbox hg)|((with_reducible refine gd_ 3 rfl ?_);refine bx_ #[.int .i64 0,.int .i64 0] 103 ?_;intro gb232 hg w4 hbox hb;have BK232:=A_ hbox;have GW232:=gw_ hg HB;have GE232:=GW232;obtain⟨NB230_232,NB232_230⟩:=nb_ BK230 hg;obtain⟨NB231_232,NB232_231⟩:=nb_ BK231 hg;replace BK230:=kb_ BK230 hb;replace BK231:=kb_ BK231 hb;replace HB:=bs_ HB hb;clear hb hbox hg;have hnb5:=NB230_231.out;have hnc5:=NB231_230.out;have hnb6:=NB230_232.out;have hnc6:=NB232_230.out;obtain⟨hcz7_0,hcz7_1⟩:=cs2_ BK230.out;obtain⟨hfz7_0,hfz7_1⟩:=fz2_ BK230.out;have hnb8:=NB232_231.out;have hnc8:=NB231_232.out;obtain⟨hcz9_0,hcz9_1⟩:=cs2_ BK232.out;obtain⟨hfz9_0,hfz9_1⟩:=fz2_ BK232.out;obtain⟨hcz10_0,hcz10_1⟩:=cs2_ BK231.out;obtain⟨hfz10_0,hfz10_1⟩:=fz2_ BK231.out))
 refine bodyPost_ret (results_cell_row rfl _ _ gb231 103 #[.int .i64 a0_0,.int .i64 a0_1] (0,0) _ rfl (by refine blk_put (cs:=#[.int .i64 a0_0,.int .i64 0]) ?_ 1 _ rfl;refine blk_put (cs:=#[.int .i64 0,.int .i64 0]) ?_ 0 _ rfl;refine blk_far ?_ NB231_232.out _;refine blk_far ?_ NB231_232.out _;(with_reducible repeat (first|refine blk_drewN ?_ _|refine blk_drew ?_|refine blk_alloc ?_ _));exact BK231.out) Try.underlying103 rfl (by kernel_rfl)) rfl ?_
 exact⟨rr_,bw HB.out⟩
end Go.Proofs.Ytanhbfhmgmjdgaa.Q

