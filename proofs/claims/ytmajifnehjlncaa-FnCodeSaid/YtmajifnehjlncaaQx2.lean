-- Written by a program of this session; it walks the functions that the law reaches.
import Derived.Test.YtmajifnehjlncaaQx0
import Derived.Test.YtmajifnehjlncaaQx1
namespace Go.Proofs.Ytmajifnehjlncaa.Q
open Go.RowKit Go.Proofs.YtmajifnehjlncaaW.PrintWords Go.Proofs.YtmajifnehjlncaaW.PrintLast Go.Proofs.YtmajifnehjlncaaW.PrintMore
attribute [local go_sem] max2_int min2_int max_two min_two max_three min_three max_four min_four   -- for this text's walks alone
set_option linter.unusedVariables false
set_option linter.unusedSimpArgs false
set_option maxRecDepth 100000
set_option maxHeartbeats 8000000

/-! ### spec_l4K_ofInt: function 50 -/
mutual
def spec_l4K_ofInt.j0:Nat→Bool→Int→Int→Int→Option (Int)
 |0,_,_,_,_=>none
 |k+1,x5,x6,x163000,x163001=>spec_l4K_ofInt.l0 k x5 x6 0 false x163000 x163001
def spec_l4K_ofInt.l0:Nat→Bool→Int→Int→Bool→Int→Int→Option (Int)
 |0,_,_,_,_,_,_=>none
 |k+1,x5,x6,x7,x8,x163000,x163001=>if x6≥1152921504606846976 then (if x8=true then (spec_l4K_ofInt.l0 k x5 (x6 / 2) (wrap64 (x7+1)) true x163000 x163001) else (spec_l4K_ofInt.l0 k x5 (x6 / 2) (wrap64 (x7+1)) ((Go.bits .and .u64 x6 1)==1) x163000 x163001)) else ((spec_l4K_round.f k x163000 x163001 x5 x6 x7 x8).bind fun t163=>(some t163))
end
def spec_l4K_ofInt.f (k:Nat) (a0_0:Int) (a0_1:Int) (a1:Int):Option (Int):=if a1<0 then (spec_l4K_ofInt.j0 k (decide (a1<0)) (IntKind.u64.wrap (-(IntKind.u64.wrap (a1)))) a0_0 a0_1) else (spec_l4K_ofInt.j0 k (decide (a1<0)) (IntKind.u64.wrap (a1)) a0_0 a0_1)
theorem spec_l4K_ofInt.mono_l:∀ k,(∀ y0 y1 y2 y3,LeO (spec_l4K_ofInt.j0 k y0 y1 y2 y3) (spec_l4K_ofInt.j0 (k+1) y0 y1 y2 y3))∧(∀ y0 y1 y2 y3 y4 y5,LeO (spec_l4K_ofInt.l0 k y0 y1 y2 y3 y4 y5) (spec_l4K_ofInt.l0 (k+1) y0 y1 y2 y3 y4 y5))
 |0=>⟨fun _ _ _ _ r h=>by simp[spec_l4K_ofInt.j0] at h,fun _ _ _ _ _ _ r h=>by simp[spec_l4K_ofInt.l0] at h⟩
 |k+1=>by
  obtain⟨ih0,ih1⟩:=spec_l4K_ofInt.mono_l k
  refine⟨?_,?_⟩
  ·
   intro y0 y1 y2 y3
   unfold spec_l4K_ofInt.j0
   repeat' first
   |(with_reducible exact ih0 _ _ _ _)
   |(with_reducible exact ih1 _ _ _ _ _ _)
   |(with_reducible exact spec_l4K_round.mono _ _ _ _ _ _ _)
   |(with_reducible exact LeO.refl _)
   |(with_reducible exact LeO.none _)
   |(with_reducible refine LeO.ite ?_ ?_)
   |(with_reducible refine LeO.bind ?_ (fun _=>?_))
   |exact ih0 _ _ _ _
   |exact ih1 _ _ _ _ _ _
   |exact spec_l4K_round.mono _ _ _ _ _ _ _
   |exact LeO.none _
   |refine LeO.ite ?_ ?_
   |refine LeO.bind ?_ (fun _=>?_)
  intro y0 y1 y2 y3 y4 y5
  unfold spec_l4K_ofInt.l0
  repeat' first
  |(with_reducible exact ih0 _ _ _ _)
  |(with_reducible exact ih1 _ _ _ _ _ _)
  |(with_reducible exact spec_l4K_round.mono _ _ _ _ _ _ _)
  |(with_reducible exact LeO.refl _)
  |(with_reducible exact LeO.none _)
  |(with_reducible refine LeO.ite ?_ ?_)
  |(with_reducible refine LeO.bind ?_ (fun _=>?_))
  |exact ih0 _ _ _ _
  |exact ih1 _ _ _ _ _ _
  |exact spec_l4K_round.mono _ _ _ _ _ _ _
  |exact LeO.none _
  |refine LeO.ite ?_ ?_
  |refine LeO.bind ?_ (fun _=>?_)
theorem spec_l4K_ofInt.mono:∀ a0 a1 a2 k,LeO (spec_l4K_ofInt.f k a0 a1 a2) (spec_l4K_ofInt.f (k+1) a0 a1 a2):=by
 intro a0 a1 a2 k
 obtain⟨ih0,ih1⟩:=spec_l4K_ofInt.mono_l k
 unfold spec_l4K_ofInt.f
 repeat' first
   |(with_reducible exact ih0 _ _ _ _)
   |(with_reducible exact ih1 _ _ _ _ _ _)
   |(with_reducible exact spec_l4K_round.mono _ _ _ _ _ _ _)
   |(with_reducible exact LeO.refl _)
   |(with_reducible exact LeO.none _)
   |(with_reducible refine LeO.ite ?_ ?_)
   |(with_reducible refine LeO.bind ?_ (fun _=>?_))
   |exact ih0 _ _ _ _
   |exact ih1 _ _ _ _ _ _
   |exact spec_l4K_round.mono _ _ _ _ _ _ _
   |exact LeO.none _
   |refine LeO.ite ?_ ?_
   |refine LeO.bind ?_ (fun _=>?_)
theorem spec_l4K_ofInt.calls (k:Nat) (a0_0:Int) (a0_1:Int) (a1:Int) (r:Int) (w:World) (h:spec_l4K_ofInt.f k a0_0 a0_1 a1=some r):
  Calls Try.prog 50 #[.agg #[.int .u64 a0_0,.int .u64 a0_1],.int .i64 a1] w fun e w'=>e=.returned (.int .u32 r)∧Below w.heap.size w w':=by
 have hu76:=Try.underlying76
 have HB:=A_ (Below.refl w.heap.size w)
 have H:(if a1<0 then (spec_l4K_ofInt.j0 k (decide (a1<0)) (IntKind.u64.wrap (-(IntKind.u64.wrap (a1)))) a0_0 a0_1) else (spec_l4K_ofInt.j0 k (decide (a1<0)) (IntKind.u64.wrap (a1)) a0_0 a0_1))=some r:=h
 clear h
 have HC3:=A_ H
 clear H
 go_enter Try.func50,Try.ntmps50
 go_upto_if 13 with (first|((with_reducible refine gd_ 2 rfl ?_);refine bx_ #[.int .u64 a0_0,.int .u64 a0_1] 76 ?_;intro gb162 hg w4 hbox hb;have BK162:=A_ hbox;have GW162:=gw_ hg HB;have GE162:=GW162;replace HB:=bs_ HB hb;clear hb hbox hg))
 (try simp only[Act.put,List.setIfInBounds_toArray,List.set_cons_zero,List.set_cons_succ])
 go_cut [6] (fun v6 wc=>∃ (kq:Nat) (x6_2:Int),v6=.int .u64 x6_2∧Aside0 (spec_l4K_ofInt.j0 kq (decide (a1<0)) x6_2 a0_0 a0_1=some r)∧Aside0 (kq≤k)∧Aside0 (wc.heap[gb162]? =some (.cells #[.int .u64 a0_0,.int .u64 a0_1] 76 (0,0)))∧Aside0 (Below w.heap.size w wc))
 case first=>
  have H:=HC3.out
  clear HC3
  by_cases c5:a1<0
  ·
   rw[if_pos c5] at H
   have c5b0:=decide_eq_true c5
   clear c5
   (first|rw[c5b0]|(simp only[i64_w,i32_w];rw[c5b0])|skip)
   have H':=A_ H
   clear H
   go_wp2
   first|go_meet|((conv in (occs:=1) (Value.bool true)=>rw[←c5b0]);go_meet)|((conv in (occs:=2) (Value.bool true)=>rw[←c5b0]);go_meet)|((conv in (occs:=3) (Value.bool true)=>rw[←c5b0]);go_meet)|((conv in (occs:=4) (Value.bool true)=>rw[←c5b0]);go_meet)
   case rel=>exact⟨_,(IntKind.u64.wrap (-(IntKind.u64.wrap (a1)))),rs_,H',⟨by first|omega|exact Nat.le_refl _⟩,⟨bk BK162.out⟩,⟨bw HB.out⟩⟩
  rw[if_neg c5] at H
  have c5b0:=decide_eq_false c5
  clear c5
  (first|rw[c5b0]|(simp only[i64_w,i32_w];rw[c5b0])|skip)
  have H':=A_ H
  clear H
  go_wp2
  first|go_meet|((conv in (occs:=1) (Value.bool false)=>rw[←c5b0]);go_meet)|((conv in (occs:=2) (Value.bool false)=>rw[←c5b0]);go_meet)|((conv in (occs:=3) (Value.bool false)=>rw[←c5b0]);go_meet)|((conv in (occs:=4) (Value.bool false)=>rw[←c5b0]);go_meet)
  case rel=>exact⟨_,(IntKind.u64.wrap (a1)),rs_,H',⟨by first|omega|exact Nat.le_refl _⟩,⟨bk BK162.out⟩,⟨bw HB.out⟩⟩
 case rest=>
  clear HC3
  obtain⟨kq,x6_2,rfl,HA,HJ2,BK162,HB⟩:=hcut
  cases kq with
  |zero=>exact absurd HA.out (by simp[spec_l4K_ofInt.j0])
  |succ kj2=>
   have H:=HA.out
   clear HA
   simp only[spec_l4K_ofInt.j0] at H
   have H':=A_ H
   clear H
   go_wp2
   (try simp only[Act.put,List.setIfInBounds_toArray,List.set_cons_zero,List.set_cons_succ])
   go_loopg [6,7,8] kj2 (fun kq v6 v7 v8 w'=>∃ (x6_2:Int) (x7_2:Int) (x8_2:Bool),v6=.int .u64 x6_2∧v7=.int .i64 x7_2∧v8=.bool x8_2∧Aside0 (spec_l4K_ofInt.l0 kq (decide (a1<0)) x6_2 x7_2 x8_2 a0_0 a0_1=some r)∧Aside0 (kq≤kj2)∧Aside0 (w'.heap[gb162]? =some (.cells #[.int .u64 a0_0,.int .u64 a0_1] 76 (0,0)))∧Aside0 (Below w.heap.size w w'))
   case atStart=>exact⟨(x6_2),(0),(false),rs_,rs_,rs_,H',⟨Nat.le_refl _⟩,⟨bk BK162.out⟩,⟨bw HB.out⟩⟩
   case round=>
    clear H'
    obtain⟨x6_2,x7_2,x8_2,rfl,rfl,rfl,HA,HK2,BK162,HB⟩:=hrel
    cases gk with
    |zero=>exact absurd HA.out (by simp[spec_l4K_ofInt.l0])
    |succ k2=>
     have H:=HA.out
     clear HA
     simp only[spec_l4K_ofInt.l0] at H
     by_cases c6:x6_2≥1152921504606846976
     ·
      rw[if_pos c6] at H
      have c6b0:=decide_eq_true c6
      clear c6
      by_cases c7:x8_2=true
      ·
       subst c7
       replace H:=iT_ H
       have H':=A_ H
       clear H
       go_wp2
       go_roundg k2
       case measure=>have:=HJ2.out;have:=HK2.out;omega
       case rel=>exact⟨(x6_2 / 2),(wrap64 (x7_2+1)),(true),rs_,rs_,rs_,H',⟨by have:=HJ2.out;have:=HK2.out;omega⟩,⟨bk BK162.out⟩,⟨bw HB.out⟩⟩
      replace c7:=Bool.eq_false_iff.mpr c7
      subst c7
      replace H:=iF_ H
      have H':=A_ H
      clear H
      go_wp2
      go_roundg k2
      case measure=>have:=HJ2.out;have:=HK2.out;omega
      case rel=>exact⟨(x6_2 / 2),(wrap64 (x7_2+1)),(((Go.bits .and .u64 x6_2 1)==1)),rs_,rs_,rs_,H',⟨by have:=HJ2.out;have:=HK2.out;omega⟩,⟨bk BK162.out⟩,⟨bw HB.out⟩⟩
     rw[if_neg c6] at H
     have c6b0:=decide_eq_false c6
     clear c6
     replace H:=bi_ H
     obtain⟨t163,A80,H⟩:=H
     have A8:=A_ A80
     clear A80
     obtain rfl:=Option.some.inj H
     clear H
     obtain⟨hcz9_0,hcz9_1⟩:=cs2_ BK162.out
     obtain⟨hfz9_0,hfz9_1⟩:=fz2_ BK162.out
     go_wp2_with (first|((with_reducible refine gc_ 51 rfl ?_);refine gm_ (some 33) Try.func51 (spec_l4K_round.calls k2 a0_0 a0_1 (decide (a1<0)) x6_2 x7_2 x8_2 t163 _ A8.out) ?_;intro w10 hb;replace BK162:=kb_ BK162 hb;replace HB:=bs_ HB hb;(try clear hb)))
     go_ret
     exact⟨rr_,bw HB.out⟩

/-! ### spec_l1Cur_float: function 46 -/
def spec_l1Cur_float.j0:Nat→Int→Int→Int→Bool→List Int→Int→Int→Option (Int × Int × Int)
 |0,_,_,_,_,_,_,_=>none
 |k+1,x1,x5,x12,x25,x1000,x1001,x1002=>if x25=true then ((spec_l4Kind.f x1).bind fun bt182=>(if bt182.2.2=true then ((spec_l1Cur_pick.f x1000 x1001 x1002 300).bind fun bt186=>((spec_l4K_ofInt.f k bt182.1 bt182.2.1 (wrap64 (bt186.1 - 100))).bind fun t189=>(some (t189,bt186.2.1,bt186.2.2)))) else (some (x5,x1001,x1002)))) else (if x12=3 then (if x1=32 then ((spec_l1Cur_wide.f k x1000 x1001 x1002).bind fun bt190=>(some ((1056964608+(Go.bits .and .u32 ((bt190.1) % 4294967296) 33554431)) % 4294967296,bt190.2.1,bt190.2.2))) else ((spec_l1Cur_wide.f k x1000 x1001 x1002).bind fun bt193=>(some ((14336+(Go.bits .and .u32 ((bt193.1) % 4294967296) 4095)) % 4294967296,bt193.2.1,bt193.2.2)))) else (some (x5,x1001,x1002)))
def spec_l1Cur_float.f (k:Nat) (s0_0:List Int) (s0_1:Int) (s0_2:Int) (a1:Int):Option (Int × Int × Int):=(spec_l1Cur_wide.f k s0_0 s0_1 s0_2).bind fun bt164=>((spec_l1Cur_pick.f s0_0 bt164.2.1 bt164.2.2 8).bind fun bt167=>(if bt167.1=0 then ((spec_l1Cur_among.f s0_0 bt167.2.1 bt167.2.2 (([0,1,15360,31743,31744,32256,32768,1024,1023,64512]:List Int))).bind fun bt173=>(if a1=32 then ((spec_l1Cur_among.f s0_0 bt173.2.1 bt173.2.2 (([0,1,1065353216,2139095039,2139095040,2143289344,2147483648,8388608,8388607,4286578688]:List Int))).bind fun bt179=>(some ((bt179.1) % 4294967296,bt179.2.1,bt179.2.2))) else (some ((bt173.1) % 4294967296,bt173.2.1,bt173.2.2)))) else (if bt167.1=1 then (spec_l1Cur_float.j0 k a1 ((bt164.1) % 4294967296) bt167.1 (bt167.1==1) s0_0 bt167.2.1 bt167.2.2) else (spec_l1Cur_float.j0 k a1 ((bt164.1) % 4294967296) bt167.1 (bt167.1==2) s0_0 bt167.2.1 bt167.2.2))))
theorem spec_l1Cur_float.mono_l:∀ k,(∀ y0 y1 y2 y3 y4 y5 y6,LeO (spec_l1Cur_float.j0 k y0 y1 y2 y3 y4 y5 y6) (spec_l1Cur_float.j0 (k+1) y0 y1 y2 y3 y4 y5 y6))
 |0=>fun _ _ _ _ _ _ _ r h=>by simp[spec_l1Cur_float.j0] at h
 |k+1=>by
  have ih0:=spec_l1Cur_float.mono_l k
  intro y0 y1 y2 y3 y4 y5 y6
  unfold spec_l1Cur_float.j0
  repeat' first
  |(with_reducible exact ih0 _ _ _ _ _ _ _)
  |(with_reducible exact spec_l1Cur_wide.mono _ _ _ _)
  |(with_reducible exact spec_l4K_ofInt.mono _ _ _ _)
  |(with_reducible exact LeO.refl _)
  |(with_reducible exact LeO.none _)
  |(with_reducible refine LeO.ite ?_ ?_)
  |(with_reducible refine LeO.bind ?_ (fun _=>?_))
  |exact ih0 _ _ _ _ _ _ _
  |exact spec_l1Cur_wide.mono _ _ _ _
  |exact spec_l4K_ofInt.mono _ _ _ _
  |exact LeO.none _
  |refine LeO.ite ?_ ?_
  |refine LeO.bind ?_ (fun _=>?_)
theorem spec_l1Cur_float.mono:∀ a0 a1 a2 a3 k,LeO (spec_l1Cur_float.f k a0 a1 a2 a3) (spec_l1Cur_float.f (k+1) a0 a1 a2 a3):=by
 intro a0 a1 a2 a3 k
 have ih0:=spec_l1Cur_float.mono_l k
 unfold spec_l1Cur_float.f
 repeat' first
   |(with_reducible exact ih0 _ _ _ _ _ _ _)
   |(with_reducible exact spec_l1Cur_wide.mono _ _ _ _)
   |(with_reducible exact spec_l4K_ofInt.mono _ _ _ _)
   |(with_reducible exact LeO.refl _)
   |(with_reducible exact LeO.none _)
   |(with_reducible refine LeO.ite ?_ ?_)
   |(with_reducible refine LeO.bind ?_ (fun _=>?_))
   |exact ih0 _ _ _ _ _ _ _
   |exact spec_l1Cur_wide.mono _ _ _ _
   |exact spec_l4K_ofInt.mono _ _ _ _
   |exact LeO.none _
   |refine LeO.ite ?_ ?_
   |refine LeO.bind ?_ (fun _=>?_)
theorem spec_l1Cur_float.calls (k:Nat) (g:Nat) (s0_0:List Int) (s0_1:Int) (s0_2:Int) (a1:Int) (r1:Int) (r2:Int) (r3:Int) (w0 w:World) (hI:IsS42 w0 w g s0_0 s0_1 s0_2) (hB:Below w0.heap.size w0 w) (h:spec_l1Cur_float.f k s0_0 s0_1 s0_2 a1=some (r1,r2,r3)):
  Calls Try.prog 46 #[.pointer (some ⟨g,0,none⟩),.int .i64 a1] w fun e w'=>e=.returned (.int .u32 r1)∧IsS42 w0 w' g s0_0 r2 r3∧Below w0.heap.size w0 w'∧KeepBut w w' g none:=by
 have hu76:=Try.underlying76
 have HI0:=A_ hI
 have HK:=A_ (KeepBut.refl w g none)
 have HL:=A_ hB.size
 clear hI
 have HW0:=A_ hB.size
 have HB:=A_ hB
 clear hB
 have H:((spec_l1Cur_wide.f k s0_0 s0_1 s0_2).bind fun bt164=>((spec_l1Cur_pick.f s0_0 bt164.2.1 bt164.2.2 8).bind fun bt167=>(if bt167.1=0 then ((spec_l1Cur_among.f s0_0 bt167.2.1 bt167.2.2 (([0,1,15360,31743,31744,32256,32768,1024,1023,64512]:List Int))).bind fun bt173=>(if a1=32 then ((spec_l1Cur_among.f s0_0 bt173.2.1 bt173.2.2 (([0,1,1065353216,2139095039,2139095040,2143289344,2147483648,8388608,8388607,4286578688]:List Int))).bind fun bt179=>(some ((bt179.1) % 4294967296,bt179.2.1,bt179.2.2))) else (some ((bt173.1) % 4294967296,bt173.2.1,bt173.2.2)))) else (if bt167.1=1 then (spec_l1Cur_float.j0 k a1 ((bt164.1) % 4294967296) bt167.1 (bt167.1==1) s0_0 bt167.2.1 bt167.2.2) else (spec_l1Cur_float.j0 k a1 ((bt164.1) % 4294967296) bt167.1 (bt167.1==2) s0_0 bt167.2.1 bt167.2.2)))))=some (r1,r2,r3):=h
 clear h
 replace H:=Option.bind_eq_some_iff.mp H
 obtain⟨⟨t164,t165,t166⟩,A30,H⟩:=H
 replace H:((spec_l1Cur_pick.f s0_0 t165 t166 8).bind fun bt167=>(if bt167.1=0 then ((spec_l1Cur_among.f s0_0 bt167.2.1 bt167.2.2 (([0,1,15360,31743,31744,32256,32768,1024,1023,64512]:List Int))).bind fun bt173=>(if a1=32 then ((spec_l1Cur_among.f s0_0 bt173.2.1 bt173.2.2 (([0,1,1065353216,2139095039,2139095040,2143289344,2147483648,8388608,8388607,4286578688]:List Int))).bind fun bt179=>(some ((bt179.1) % 4294967296,bt179.2.1,bt179.2.2))) else (some ((bt173.1) % 4294967296,bt173.2.1,bt173.2.2)))) else (if bt167.1=1 then (spec_l1Cur_float.j0 k a1 ((t164) % 4294967296) bt167.1 (bt167.1==1) s0_0 bt167.2.1 bt167.2.2) else (spec_l1Cur_float.j0 k a1 ((t164) % 4294967296) bt167.1 (bt167.1==2) s0_0 bt167.2.1 bt167.2.2))))=some (r1,r2,r3):=H
 have A3:=A_ A30
 clear A30
 replace H:=Option.bind_eq_some_iff.mp H
 obtain⟨⟨t167,t168,t169⟩,A40,H⟩:=H
 replace H:(if t167=0 then ((spec_l1Cur_among.f s0_0 t168 t169 (([0,1,15360,31743,31744,32256,32768,1024,1023,64512]:List Int))).bind fun bt173=>(if a1=32 then ((spec_l1Cur_among.f s0_0 bt173.2.1 bt173.2.2 (([0,1,1065353216,2139095039,2139095040,2143289344,2147483648,8388608,8388607,4286578688]:List Int))).bind fun bt179=>(some ((bt179.1) % 4294967296,bt179.2.1,bt179.2.2))) else (some ((bt173.1) % 4294967296,bt173.2.1,bt173.2.2)))) else (if t167=1 then (spec_l1Cur_float.j0 k a1 ((t164) % 4294967296) t167 (t167==1) s0_0 t168 t169) else (spec_l1Cur_float.j0 k a1 ((t164) % 4294967296) t167 (t167==2) s0_0 t168 t169)))=some (r1,r2,r3):=H
 have A4:=A_ A40
 clear A40
 by_cases c5:t167=0
 ·
  rw[if_pos c5] at H
  obtain⟨c5b0,c5b1⟩:=eT_ c5
  clear c5
  obtain⟨y170,hy170⟩:∃ y_:List Int,y_=(([0,1,15360,31743,31744,32256,32768,1024,1023,64512]:List Int)):=⟨_,rfl⟩
  replace H:((spec_l1Cur_among.f s0_0 t168 t169 y170).bind fun bt173=>(if a1=32 then ((spec_l1Cur_among.f s0_0 bt173.2.1 bt173.2.2 (([0,1,1065353216,2139095039,2139095040,2143289344,2147483648,8388608,8388607,4286578688]:List Int))).bind fun bt179=>(some ((bt179.1) % 4294967296,bt179.2.1,bt179.2.2))) else (some ((bt173.1) % 4294967296,bt173.2.1,bt173.2.2))))=some (r1,r2,r3):=by first|(rw[hy170];with_reducible exact H)|(have H2_:=(Option.bind_some _ _).symm.trans H;rw[hy170];with_reducible exact H2_)|(have H2_:=(Option.bind_some _ _).symm.trans H;with_reducible exact H2_)|with_reducible exact H|(rw[hy170];exact H)|exact H
  have Ny170:=A_ hy170
  clear hy170
  replace H:=Option.bind_eq_some_iff.mp H
  obtain⟨⟨t173,t174,t175⟩,A60,H⟩:=H
  replace H:(if a1=32 then ((spec_l1Cur_among.f s0_0 t174 t175 (([0,1,1065353216,2139095039,2139095040,2143289344,2147483648,8388608,8388607,4286578688]:List Int))).bind fun bt179=>(some ((bt179.1) % 4294967296,bt179.2.1,bt179.2.2))) else (some ((t173) % 4294967296,t174,t175)))=some (r1,r2,r3):=H
  have A6:=A_ A60
  clear A60
  by_cases c7:a1=32
  ·
   rw[if_pos c7] at H
   obtain⟨c7b0,c7b1⟩:=eT_ c7
   clear c7
   obtain⟨y176,hy176⟩:∃ y_:List Int,y_=(([0,1,1065353216,2139095039,2139095040,2143289344,2147483648,8388608,8388607,4286578688]:List Int)):=⟨_,rfl⟩
   replace H:((spec_l1Cur_among.f s0_0 t174 t175 y176).bind fun bt179=>(some ((bt179.1) % 4294967296,bt179.2.1,bt179.2.2)))=some (r1,r2,r3):=by first|(rw[hy176];with_reducible exact H)|(have H2_:=(Option.bind_some _ _).symm.trans H;rw[hy176];with_reducible exact H2_)|(have H2_:=(Option.bind_some _ _).symm.trans H;with_reducible exact H2_)|with_reducible exact H|(rw[hy176];exact H)|exact H
   have Ny176:=A_ hy176
   clear hy176
   replace H:=Option.bind_eq_some_iff.mp H
   obtain⟨⟨t179,t180,t181⟩,A80,H⟩:=H
   replace H:(some ((t179) % 4294967296,t180,t181))=some (r1,r2,r3):=H
   have A8:=A_ A80
   clear A80
   simp only[Option.some.injEq,Prod.mk.injEq] at H
   obtain⟨rfl,rfl,rfl⟩:=H
   go_enter Try.func46,Try.ntmps46
   go_wp2_with (first|((with_reducible refine gc_ 48 rfl ?_);refine goesL_ (some 9) rfl rfl Try.func48 (by kernel_rfl) rfl #[.pointer (some ⟨g,0,none⟩)] rfl ar ?_;(with_reducible refine(spec_l1Cur_wide.calls k g s0_0 s0_1 s0_2 t164 t165 t166 w0 _ ?side1 ?side2 A3.out).mono ?_);(case side1=>repeat (first|(with_reducible first|exact HI0.out|apply IsS42.alloc|apply IsS42.drewN|apply IsS42.drew|apply IsS42.set_1|apply IsS42.set_2)|exact HI0.out));(case side2=>repeat (first|(with_reducible first|exact HB.out|apply below_alloc|apply pw_below_drewN|apply below_drew1|refine below_set ?_ (IsS42.ge HI0.out))|exact HB.out));rintro e w9 ⟨rfl,hi,hb,hk⟩;refine⟨_,rfl,?_⟩;replace HK:=A_ (KeepBut.trans (y0 HK.out) hk (.inl rfl));replace HB:=A_ (hb);replace HI0:=A_ (hi);(try clear hb);(try clear hb2);(try clear hk);(try clear hi))|((with_reducible refine gc_ 14 rfl ?_);refine goesL_ (some 12) rfl rfl Try.func14 (by kernel_rfl) rfl #[.pointer (some ⟨g,0,none⟩),.int .i64 8] rfl ar ?_;(with_reducible refine(spec_l1Cur_pick.calls g s0_0 t165 t166 8 t167 t168 t169 w0 _ ?side1 ?side2 A4.out).mono ?_);(case side1=>repeat (first|(with_reducible first|exact HI0.out|apply IsS42.alloc|apply IsS42.drewN|apply IsS42.drew|apply IsS42.set_1|apply IsS42.set_2)|exact HI0.out));(case side2=>repeat (first|(with_reducible first|exact HB.out|apply below_alloc|apply pw_below_drewN|apply below_drew1|refine below_set ?_ (IsS42.ge HI0.out))|exact HB.out));rintro e w10 ⟨rfl,hi,hb,hk⟩;refine⟨_,rfl,?_⟩;replace HK:=A_ (KeepBut.trans (y0 HK.out) hk (.inl rfl));replace HB:=A_ (hb);replace HI0:=A_ (hi);(try clear hb);(try clear hb2);(try clear hk);(try clear hi))|((with_reducible refine gd_ 16 rfl ?_);refine Kd.R_lit (Kd.int .i64) _ 3 ?hg (N:=16) ?hd (xs:=([0,1,15360,31743,31744,32256,32768,1024,1023,64512]:List Int)) (inner:=[.int .i64 0,.int .i64 1,.int .i64 15360,.int .i64 31743,.int .i64 31744,.int .i64 32256,.int .i64 32768,.int .i64 1024,.int .i64 1023,.int .i64 64512]) (ok:=fun _=>True) (okp:=fun _=>True) ?hr ?hp (fun _ hk=>hk) trivial (Below.refl _ _) (Nat.le_refl _) (by simp) ?_;(case hd=>rfl);(case hg=>rfl);(case hr=>first|(go_simp;done)|(go_simp;rfl));(case hp=>exact(Reps.one (show Kd.M (Kd.int .i64) _ _ _ 0 [.int .i64 0] from rfl) (Reps.one (show Kd.M (Kd.int .i64) _ _ _ 1 [.int .i64 1] from rfl) (Reps.one (show Kd.M (Kd.int .i64) _ _ _ 15360 [.int .i64 15360] from rfl) (Reps.one (show Kd.M (Kd.int .i64) _ _ _ 31743 [.int .i64 31743] from rfl) (Reps.one (show Kd.M (Kd.int .i64) _ _ _ 31744 [.int .i64 31744] from rfl) (Reps.one (show Kd.M (Kd.int .i64) _ _ _ 32256 [.int .i64 32256] from rfl) (Reps.one (show Kd.M (Kd.int .i64) _ _ _ 32768 [.int .i64 32768] from rfl) (Reps.one (show Kd.M (Kd.int .i64) _ _ _ 1024 [.int .i64 1024] from rfl) (Reps.one (show Kd.M (Kd.int .i64) _ _ _ 1023 [.int .i64 1023] from rfl) (Reps.one (show Kd.M (Kd.int .i64) _ _ _ 64512 [.int .i64 64512] from rfl) (Reps.none _ _))))))))))));intro v171 w11 ho12 hb hg_ hnew_;clear hg_ hnew_;(first|rw[←Ny170.out] at ho12|(simp only[Int.reduceToNat] at ho12;rw[←Ny170.out] at ho12));have HO172:=A_ (Kd.R_lower ho12 (keep_size (w:=w) (g:=g) (row:=none) (y0 HK.out)));replace HI0:=A_ (IsS42.below (y1 HI0.out) hb);replace HK:=A_ (KeepBut.trans (y0 HK.out) (KeepBut.of_below hb g none) (.inl rfl));replace HB:=A_ (below_step (y2 HB.out) hb);clear hb ho12;obtain⟨Ao13,co13,eo13⟩:=Kd.R_slice HO172.out;subst eo13)|((with_reducible refine gc_ 30 rfl ?_);refine goesL_ (some 17) rfl rfl Try.func30 (by kernel_rfl) rfl #[.pointer (some ⟨g,0,none⟩),.slice Ao13 y170.length co13] rfl ar ?_;(with_reducible refine(spec_l1Cur_among.calls g s0_0 t168 t169 _ _ y170 t173 t174 t175 w0 _ ?side1 ?side2 ?side3 ?side4 ?side5 A6.out).mono ?_);(case side1=>repeat (first|(with_reducible first|exact HI0.out|apply IsS42.alloc|apply IsS42.drewN|apply IsS42.drew|apply IsS42.set_1|apply IsS42.set_2)|exact HI0.out));(case side2=>repeat (first|(with_reducible first|exact HB.out|apply below_alloc|apply pw_below_drewN|apply below_drew1|refine below_set ?_ (IsS42.ge HI0.out))|exact HB.out));(case side3=>repeat (first|exact(Kd.R_reads' HO172.out).2.2|(with_reducible refine Kd.C_alloc ?_ _)|(with_reducible refine Kd.C_drewN ?_ _)|(with_reducible refine Kd.C_drew ?_)));(case side4=>exact(Kd.R_reads' HO172.out).2.1);(case side5=>exact far_slice (IsS42.own_ne HI0.out HO172.out (by decide)));rintro e w14 ⟨rfl,hi,hb,hk⟩;refine⟨_,rfl,?_⟩;replace HO172:=A_ (Kd.R_mono (Kd.R_keep (IsS42.apart (show IsS42 w0 _ g s0_0 t168 t169 from y1 HI0.out) (kr_ HO172.out) (by decide)) hk (fun _ h=>h.2)) (fun _ h=>h.1));replace HK:=A_ (KeepBut.trans (y0 HK.out) hk (.inl rfl));replace HB:=A_ (hb);replace HI0:=A_ (hi);(try clear hb);(try clear hb2);(try clear hk);(try clear hi))|((with_reducible refine gd_ 22 rfl ?_);refine Kd.R_lit (Kd.int .i64) _ 3 ?hg (N:=22) ?hd (xs:=([0,1,1065353216,2139095039,2139095040,2143289344,2147483648,8388608,8388607,4286578688]:List Int)) (inner:=[.int .i64 0,.int .i64 1,.int .i64 1065353216,.int .i64 2139095039,.int .i64 2139095040,.int .i64 2143289344,.int .i64 2147483648,.int .i64 8388608,.int .i64 8388607,.int .i64 4286578688]) (ok:=fun _=>True) (okp:=fun _=>True) ?hr ?hp (fun _ hk=>hk) trivial (Below.refl _ _) (Nat.le_refl _) (by simp) ?_;(case hd=>rfl);(case hg=>rfl);(case hr=>first|(go_simp;done)|(go_simp;rfl));(case hp=>exact(Reps.one (show Kd.M (Kd.int .i64) _ _ _ 0 [.int .i64 0] from rfl) (Reps.one (show Kd.M (Kd.int .i64) _ _ _ 1 [.int .i64 1] from rfl) (Reps.one (show Kd.M (Kd.int .i64) _ _ _ 1065353216 [.int .i64 1065353216] from rfl) (Reps.one (show Kd.M (Kd.int .i64) _ _ _ 2139095039 [.int .i64 2139095039] from rfl) (Reps.one (show Kd.M (Kd.int .i64) _ _ _ 2139095040 [.int .i64 2139095040] from rfl) (Reps.one (show Kd.M (Kd.int .i64) _ _ _ 2143289344 [.int .i64 2143289344] from rfl) (Reps.one (show Kd.M (Kd.int .i64) _ _ _ 2147483648 [.int .i64 2147483648] from rfl) (Reps.one (show Kd.M (Kd.int .i64) _ _ _ 8388608 [.int .i64 8388608] from rfl) (Reps.one (show Kd.M (Kd.int .i64) _ _ _ 8388607 [.int .i64 8388607] from rfl) (Reps.one (show Kd.M (Kd.int .i64) _ _ _ 4286578688 [.int .i64 4286578688] from rfl) (Reps.none _ _))))))))))));intro v177 w15 ho16 hb hg_ hnew_;clear hg_ hnew_;(first|rw[←Ny176.out] at ho16|(simp only[Int.reduceToNat] at ho16;rw[←Ny176.out] at ho16));have HO178:=A_ (Kd.R_lower (Kd.R_new' ho16 (Kd.R_lt (kr_ HO172.out))) (keep_size (w:=w) (g:=g) (row:=none) (y0 HK.out)));replace HO172:=A_ (Kd.R_elder' (kr_ HO172.out) (Kd.R_base ho16) hb);replace HI0:=A_ (IsS42.below (y1 HI0.out) hb);replace HK:=A_ (KeepBut.trans (y0 HK.out) (KeepBut.of_below hb g none) (.inl rfl));replace HB:=A_ (below_step (y2 HB.out) hb);clear hb ho16;obtain⟨Ao17,co17,eo17⟩:=Kd.R_slice HO178.out;subst eo17)|((with_reducible refine gc_ 30 rfl ?_);refine goesL_ (some 23) rfl rfl Try.func30 (by kernel_rfl) rfl #[.pointer (some ⟨g,0,none⟩),.slice Ao17 y176.length co17] rfl ar ?_;(with_reducible refine(spec_l1Cur_among.calls g s0_0 t174 t175 _ _ y176 t179 t180 t181 w0 _ ?side1 ?side2 ?side3 ?side4 ?side5 A8.out).mono ?_);(case side1=>repeat (first|(with_reducible first|exact HI0.out|apply IsS42.alloc|apply IsS42.drewN|apply IsS42.drew|apply IsS42.set_1|apply IsS42.set_2)|exact HI0.out));(case side2=>repeat (first|(with_reducible first|exact HB.out|apply below_alloc|apply pw_below_drewN|apply below_drew1|refine below_set ?_ (IsS42.ge HI0.out))|exact HB.out));(case side3=>repeat (first|exact(Kd.R_reads' HO178.out).2.2|(with_reducible refine Kd.C_alloc ?_ _)|(with_reducible refine Kd.C_drewN ?_ _)|(with_reducible refine Kd.C_drew ?_)));(case side4=>exact(Kd.R_reads' HO178.out).2.1);(case side5=>exact far_slice (IsS42.own_ne HI0.out HO178.out (by decide)));rintro e w18 ⟨rfl,hi,hb,hk⟩;refine⟨_,rfl,?_⟩;replace HO172:=A_ (Kd.R_mono (Kd.R_keep (IsS42.apart (show IsS42 w0 _ g s0_0 t174 t175 from y1 HI0.out) (kr_ HO172.out) (by decide)) hk (fun _ h=>h.2)) (fun _ h=>h.1));replace HO178:=A_ (Kd.R_mono (Kd.R_keep (IsS42.apart (show IsS42 w0 _ g s0_0 t174 t175 from y1 HI0.out) (kr_ HO178.out) (by decide)) hk (fun _ h=>h.2)) (fun _ h=>h.1));replace HK:=A_ (KeepBut.trans (y0 HK.out) hk (.inl rfl));replace HB:=A_ (hb);replace HI0:=A_ (hi);(try clear hb);(try clear hb2);(try clear hk);(try clear hi)))
   go_ret
   exact⟨rr_,y1 HI0.out,y2 HB.out,y0 HK.out⟩
  rw[if_neg c7] at H
  obtain⟨c7b0,c7b1⟩:=eF_ c7
  simp only[Option.some.injEq,Prod.mk.injEq] at H
  obtain⟨rfl,rfl,rfl⟩:=H
  go_enter Try.func46,Try.ntmps46
  go_wp2_with (first|((with_reducible refine gc_ 48 rfl ?_);refine goesL_ (some 9) rfl rfl Try.func48 (by kernel_rfl) rfl #[.pointer (some ⟨g,0,none⟩)] rfl ar ?_;(with_reducible refine(spec_l1Cur_wide.calls k g s0_0 s0_1 s0_2 t164 t165 t166 w0 _ ?side1 ?side2 A3.out).mono ?_);(case side1=>repeat (first|(with_reducible first|exact HI0.out|apply IsS42.alloc|apply IsS42.drewN|apply IsS42.drew|apply IsS42.set_1|apply IsS42.set_2)|exact HI0.out));(case side2=>repeat (first|(with_reducible first|exact HB.out|apply below_alloc|apply pw_below_drewN|apply below_drew1|refine below_set ?_ (IsS42.ge HI0.out))|exact HB.out));rintro e w19 ⟨rfl,hi,hb,hk⟩;refine⟨_,rfl,?_⟩;replace HK:=A_ (KeepBut.trans (y0 HK.out) hk (.inl rfl));replace HB:=A_ (hb);replace HI0:=A_ (hi);(try clear hb);(try clear hb2);(try clear hk);(try clear hi))|((with_reducible refine gc_ 14 rfl ?_);refine goesL_ (some 12) rfl rfl Try.func14 (by kernel_rfl) rfl #[.pointer (some ⟨g,0,none⟩),.int .i64 8] rfl ar ?_;(with_reducible refine(spec_l1Cur_pick.calls g s0_0 t165 t166 8 t167 t168 t169 w0 _ ?side1 ?side2 A4.out).mono ?_);(case side1=>repeat (first|(with_reducible first|exact HI0.out|apply IsS42.alloc|apply IsS42.drewN|apply IsS42.drew|apply IsS42.set_1|apply IsS42.set_2)|exact HI0.out));(case side2=>repeat (first|(with_reducible first|exact HB.out|apply below_alloc|apply pw_below_drewN|apply below_drew1|refine below_set ?_ (IsS42.ge HI0.out))|exact HB.out));rintro e w20 ⟨rfl,hi,hb,hk⟩;refine⟨_,rfl,?_⟩;replace HK:=A_ (KeepBut.trans (y0 HK.out) hk (.inl rfl));replace HB:=A_ (hb);replace HI0:=A_ (hi);(try clear hb);(try clear hb2);(try clear hk);(try clear hi))|((with_reducible refine gd_ 16 rfl ?_);refine Kd.R_lit (Kd.int .i64) _ 3 ?hg (N:=16) ?hd (xs:=([0,1,15360,31743,31744,32256,32768,1024,1023,64512]:List Int)) (inner:=[.int .i64 0,.int .i64 1,.int .i64 15360,.int .i64 31743,.int .i64 31744,.int .i64 32256,.int .i64 32768,.int .i64 1024,.int .i64 1023,.int .i64 64512]) (ok:=fun _=>True) (okp:=fun _=>True) ?hr ?hp (fun _ hk=>hk) trivial (Below.refl _ _) (Nat.le_refl _) (by simp) ?_;(case hd=>rfl);(case hg=>rfl);(case hr=>first|(go_simp;done)|(go_simp;rfl));(case hp=>exact(Reps.one (show Kd.M (Kd.int .i64) _ _ _ 0 [.int .i64 0] from rfl) (Reps.one (show Kd.M (Kd.int .i64) _ _ _ 1 [.int .i64 1] from rfl) (Reps.one (show Kd.M (Kd.int .i64) _ _ _ 15360 [.int .i64 15360] from rfl) (Reps.one (show Kd.M (Kd.int .i64) _ _ _ 31743 [.int .i64 31743] from rfl) (Reps.one (show Kd.M (Kd.int .i64) _ _ _ 31744 [.int .i64 31744] from rfl) (Reps.one (show Kd.M (Kd.int .i64) _ _ _ 32256 [.int .i64 32256] from rfl) (Reps.one (show Kd.M (Kd.int .i64) _ _ _ 32768 [.int .i64 32768] from rfl) (Reps.one (show Kd.M (Kd.int .i64) _ _ _ 1024 [.int .i64 1024] from rfl) (Reps.one (show Kd.M (Kd.int .i64) _ _ _ 1023 [.int .i64 1023] from rfl) (Reps.one (show Kd.M (Kd.int .i64) _ _ _ 64512 [.int .i64 64512] from rfl) (Reps.none _ _))))))))))));intro v171 w21 ho22 hb hg_ hnew_;clear hg_ hnew_;(first|rw[←Ny170.out] at ho22|(simp only[Int.reduceToNat] at ho22;rw[←Ny170.out] at ho22));have HO172:=A_ (Kd.R_lower ho22 (keep_size (w:=w) (g:=g) (row:=none) (y0 HK.out)));replace HI0:=A_ (IsS42.below (y1 HI0.out) hb);replace HK:=A_ (KeepBut.trans (y0 HK.out) (KeepBut.of_below hb g none) (.inl rfl));replace HB:=A_ (below_step (y2 HB.out) hb);clear hb ho22;obtain⟨Ao23,co23,eo23⟩:=Kd.R_slice HO172.out;subst eo23)|((with_reducible refine gc_ 30 rfl ?_);refine goesL_ (some 17) rfl rfl Try.func30 (by kernel_rfl) rfl #[.pointer (some ⟨g,0,none⟩),.slice Ao23 y170.length co23] rfl ar ?_;(with_reducible refine(spec_l1Cur_among.calls g s0_0 t168 t169 _ _ y170 t173 t174 t175 w0 _ ?side1 ?side2 ?side3 ?side4 ?side5 A6.out).mono ?_);(case side1=>repeat (first|(with_reducible first|exact HI0.out|apply IsS42.alloc|apply IsS42.drewN|apply IsS42.drew|apply IsS42.set_1|apply IsS42.set_2)|exact HI0.out));(case side2=>repeat (first|(with_reducible first|exact HB.out|apply below_alloc|apply pw_below_drewN|apply below_drew1|refine below_set ?_ (IsS42.ge HI0.out))|exact HB.out));(case side3=>repeat (first|exact(Kd.R_reads' HO172.out).2.2|(with_reducible refine Kd.C_alloc ?_ _)|(with_reducible refine Kd.C_drewN ?_ _)|(with_reducible refine Kd.C_drew ?_)));(case side4=>exact(Kd.R_reads' HO172.out).2.1);(case side5=>exact far_slice (IsS42.own_ne HI0.out HO172.out (by decide)));rintro e w24 ⟨rfl,hi,hb,hk⟩;refine⟨_,rfl,?_⟩;replace HO172:=A_ (Kd.R_mono (Kd.R_keep (IsS42.apart (show IsS42 w0 _ g s0_0 t168 t169 from y1 HI0.out) (kr_ HO172.out) (by decide)) hk (fun _ h=>h.2)) (fun _ h=>h.1));replace HK:=A_ (KeepBut.trans (y0 HK.out) hk (.inl rfl));replace HB:=A_ (hb);replace HI0:=A_ (hi);(try clear hb);(try clear hb2);(try clear hk);(try clear hi)))
  go_ret
  exact⟨rr_,y1 HI0.out,y2 HB.out,y0 HK.out⟩
 rw[if_neg c5] at H
 obtain⟨c5b0,c5b1⟩:=eF_ c5
 have HC25:=A_ H
 clear H
 go_enter Try.func46,Try.ntmps46
 go_upto_if 25 with (first|((with_reducible refine gc_ 48 rfl ?_);refine goesL_ (some 9) rfl rfl Try.func48 (by kernel_rfl) rfl #[.pointer (some ⟨g,0,none⟩)] rfl ar ?_;(with_reducible refine(spec_l1Cur_wide.calls k g s0_0 s0_1 s0_2 t164 t165 t166 w0 _ ?side1 ?side2 A3.out).mono ?_);(case side1=>repeat (first|(with_reducible first|exact HI0.out|apply IsS42.alloc|apply IsS42.drewN|apply IsS42.drew|apply IsS42.set_1|apply IsS42.set_2)|exact HI0.out));(case side2=>repeat (first|(with_reducible first|exact HB.out|apply below_alloc|apply pw_below_drewN|apply below_drew1|refine below_set ?_ (IsS42.ge HI0.out))|exact HB.out));rintro e w26 ⟨rfl,hi,hb,hk⟩;refine⟨_,rfl,?_⟩;replace HK:=A_ (KeepBut.trans (y0 HK.out) hk (.inl rfl));replace HB:=A_ (hb);replace HI0:=A_ (hi);(try clear hb);(try clear hb2);(try clear hk);(try clear hi))|((with_reducible refine gc_ 14 rfl ?_);refine goesL_ (some 12) rfl rfl Try.func14 (by kernel_rfl) rfl #[.pointer (some ⟨g,0,none⟩),.int .i64 8] rfl ar ?_;(with_reducible refine(spec_l1Cur_pick.calls g s0_0 t165 t166 8 t167 t168 t169 w0 _ ?side1 ?side2 A4.out).mono ?_);(case side1=>repeat (first|(with_reducible first|exact HI0.out|apply IsS42.alloc|apply IsS42.drewN|apply IsS42.drew|apply IsS42.set_1|apply IsS42.set_2)|exact HI0.out));(case side2=>repeat (first|(with_reducible first|exact HB.out|apply below_alloc|apply pw_below_drewN|apply below_drew1|refine below_set ?_ (IsS42.ge HI0.out))|exact HB.out));rintro e w27 ⟨rfl,hi,hb,hk⟩;refine⟨_,rfl,?_⟩;replace HK:=A_ (KeepBut.trans (y0 HK.out) hk (.inl rfl));replace HB:=A_ (hb);replace HI0:=A_ (hi);(try clear hb);(try clear hb2);(try clear hk);(try clear hi)))
 (try simp only[Act.put,List.setIfInBounds_toArray,List.set_cons_zero,List.set_cons_succ])
 go_cut [25] (fun v25 wc=>∃ (kq:Nat) (x25_24:Bool),v25=.bool x25_24∧Aside0 (spec_l1Cur_float.j0 kq a1 ((t164) % 4294967296) t167 x25_24 s0_0 t168 t169=some (r1,r2,r3))∧Aside0 (kq≤k)∧Aside0 (IsS42 w0 wc g s0_0 t168 t169)∧Aside0 (KeepBut w wc g none)∧Aside0 (Below w0.heap.size w0 wc))
 case first=>
  have H:=HC25.out
  clear HC25
  by_cases c28:t167=1
  ·
   rw[if_pos c28] at H
   obtain⟨c28b0,c28b1⟩:=eT_ c28
   clear c28
   (first|rw[c28b0]|(simp only[i64_w,i32_w];rw[c28b0])|skip)
   have H':=A_ H
   clear H
   go_wp2
   go_meet
   case rel=>exact⟨_,((t167==1)),rs_,H',⟨by first|omega|exact Nat.le_refl _⟩,⟨y1 HI0.out⟩,⟨y0 HK.out⟩,⟨y2 HB.out⟩⟩
  rw[if_neg c28] at H
  obtain⟨c28b0,c28b1⟩:=eF_ c28
  (first|rw[c28b0]|(simp only[i64_w,i32_w];rw[c28b0])|skip)
  have H':=A_ H
  clear H
  go_wp2
  go_meet
  case rel=>exact⟨_,((t167==2)),rs_,H',⟨by first|omega|exact Nat.le_refl _⟩,⟨y1 HI0.out⟩,⟨y0 HK.out⟩,⟨y2 HB.out⟩⟩
 case rest=>
  clear HC25
  try clear c5 c5b0 c5b1
  obtain⟨kq,x25_24,rfl,HA,HJ24,HI0,HK,HB⟩:=hcut
  cases kq with
  |zero=>exact absurd HA.out (by simp[spec_l1Cur_float.j0])
  |succ kj24=>
   have H:=HA.out
   clear HA
   simp only[spec_l1Cur_float.j0] at H
   by_cases c29:x25_24=true
   ·
    subst c29
    replace H:=iT_ H
    replace H:=Option.bind_eq_some_iff.mp H
    obtain⟨⟨t182,t183,t184⟩,A300,H⟩:=H
    replace H:(if t184=true then ((spec_l1Cur_pick.f s0_0 t168 t169 300).bind fun bt186=>((spec_l4K_ofInt.f kj24 t182 t183 (wrap64 (bt186.1 - 100))).bind fun t189=>(some (t189,bt186.2.1,bt186.2.2)))) else (some (((t164) % 4294967296),t168,t169)))=some (r1,r2,r3):=H
    have A30:=A_ A300
    clear A300
    by_cases c31:t184=true
    ·
     subst c31
     replace H:=iT_ H
     replace H:=Option.bind_eq_some_iff.mp H
     obtain⟨⟨t186,t187,t188⟩,A320,H⟩:=H
     replace H:((spec_l4K_ofInt.f kj24 t182 t183 (wrap64 (t186 - 100))).bind fun t189=>(some (t189,t187,t188)))=some (r1,r2,r3):=H
     have A32:=A_ A320
     clear A320
     replace H:=bi_ H
     obtain⟨t189,A330,H⟩:=H
     have A33:=A_ A330
     clear A330
     simp only[Option.some.injEq,Prod.mk.injEq] at H
     obtain⟨rfl,rfl,rfl⟩:=H
     try go_wp2_with (first|((with_reducible refine gc_ 49 rfl ?_);refine gm_ (some 30) Try.func49 (spec_l4Kind.calls a1 t182 t183 true _ A30.out) ?_;intro w34 hb;replace HI0:=A_ (IsS42.below (y1 HI0.out) hb);replace HK:=A_ (KeepBut.trans (y0 HK.out) (KeepBut.of_below hb g none) (.inl rfl));replace HB:=A_ (below_step (y2 HB.out) hb);(try clear hb))|((with_reducible refine gd_ 6 rfl ?_);refine bx_ #[.int .u64 0,.int .u64 0] 76 ?_;intro gb185 hg w35 hbox hb;have BK185:=A_ hbox;have GW185:=A_ ((by rw[hg];exact(keep_size (w:=w) (g:=g) (row:=none) (y0 HK.out)):w.heap.size≤gb185));have GE185:=A_ ((Nat.le_trans HW0.out (by rw[hg];exact(keep_size (w:=w) (g:=g) (row:=none) (y0 HK.out)):w.heap.size≤gb185):w0.heap.size≤gb185));have NB0_185:=A_ ((by rw[hg];exact Nat.ne_of_lt (IsS42.lt (show IsS42 w0 _ g s0_0 t168 t169 from y1 HI0.out)):g≠gb185));have NB185_0:=A_ ((by rw[hg];exact Nat.ne_of_gt (IsS42.lt (show IsS42 w0 _ g s0_0 t168 t169 from y1 HI0.out)):gb185≠g));replace HI0:=A_ (IsS42.below (y1 HI0.out) hb);replace HK:=A_ (KeepBut.trans (y0 HK.out) (KeepBut.of_below hb g none) (.inl rfl));replace HB:=A_ (below_step (y2 HB.out) hb);clear hb hbox hg;have hnb36:=NB185_0.out;have hnc36:=NB0_185.out;obtain⟨hcz37_0,hcz37_1⟩:=cs2_ BK185.out;obtain⟨hfz37_0,hfz37_1⟩:=fz2_ BK185.out))
     have n0_:Aside0 (((w35.setCell ⟨gb185,0,none⟩ (.int .u64 t182)).setCell ⟨gb185,1,none⟩ (.int .u64 t183)).heap[gb185]? =some (.cells #[.int .u64 t182,.int .u64 t183] 76 (0,0))):=⟨by refine blk_put (cs:=#[.int .u64 t182,.int .u64 0]) ?_ 1 _ rfl;refine blk_put (cs:=#[.int .u64 0,.int .u64 0]) ?_ 0 _ rfl;(with_reducible repeat (first|refine blk_drewN ?_ _|refine blk_drew ?_|refine blk_alloc ?_ _));exact BK185.out⟩
     have n1_:Aside0 (IsS42 w0 ((w35.setCell ⟨gb185,0,none⟩ (.int .u64 t182)).setCell ⟨gb185,1,none⟩ (.int .u64 t183)) g s0_0 t168 t169):=⟨y3 HI0.out⟩
     have n2_:Aside0 (KeepBut w ((w35.setCell ⟨gb185,0,none⟩ (.int .u64 t182)).setCell ⟨gb185,1,none⟩ (.int .u64 t183)) g none):=⟨y4 HK.out⟩
     have n3_:Aside0 (Below w0.heap.size w0 ((w35.setCell ⟨gb185,0,none⟩ (.int .u64 t182)).setCell ⟨gb185,1,none⟩ (.int .u64 t183))):=⟨y5 HB.out⟩
     (try clear BK185)
     (try clear HI0)
     (try clear HK)
     (try clear HB)
     generalize ((w35.setCell ⟨gb185,0,none⟩ (.int .u64 t182)).setCell ⟨gb185,1,none⟩ (.int .u64 t183))=w38 at n0_ n1_ n2_ n3_ ⊢
     have BK185:=n0_
     have HI0:=n1_
     have HK:=n2_
     have HB:=n3_
     clear n0_ n1_ n2_ n3_
     have n0_:=A_ (blk_drew BK185.out)
     have n1_:=A_ (IsS42.drew HI0.out)
     have n2_:=A_ (keep_drew HK.out)
     have n3_:=A_ (below_drew1 HB.out)
     clear BK185 HI0 HK HB
     have BK185:=n0_
     have HI0:=n1_
     have HK:=n2_
     have HB:=n3_
     clear n0_ n1_ n2_ n3_
     refine start_ (n:=6) (S:=fun w'=>w'.cell? ⟨gb185,0,none⟩=some (.int .u64 t182)∧w'.cell? ⟨gb185,1,none⟩=some (.int .u64 t183)) (ds:=[]) #[false,false,false,false,false,false] (by kernel_rfl) rfl rfl ⟨(blk_cell BK185.out 0).trans rfl,(blk_cell BK185.out 1).trans rfl⟩ (fun hHeld=>?_)
     generalize w38.drew=w39 at BK185 HI0 HK HB hHeld ⊢
     refine pure_ (i:=1) (N:=some 35) (v:=?_) (a':=?_) #[false,true,false,false,false,false] rfl rfl (by kernel_rfl) (fun _ _ _ h=>h) (Or.inl ⟨by rfl,?_⟩) ?_ ?_
     rotate_left
     ·
      intro w'
      go_simp
      with_reducible rfl
     rotate_left
     ·
      simp only[Act.put,List.setIfInBounds_toArray,List.set_cons_zero,List.set_cons_succ,i64_w,i32_w]
      rfl
     refine take_ (i:=0) (N:=some 34) (v:=?_) (a':=?_) #[true,true,false,false,false,false] rfl rfl (by kernel_rfl) (fun _ _ _ h=>h) (Or.inl ⟨by rfl,?_⟩) hHeld ?_ ?_
     rotate_left
     ·
      rintro w' ⟨s0,s1⟩
      go_simp
      with_reducible rfl
     rotate_left
     ·
      simp only[Act.put,List.setIfInBounds_toArray,List.set_cons_zero,List.set_cons_succ,i64_w,i32_w]
      rfl
     refine one_ (i:=2) (N:=some 36) #[true,true,true,false,false,false] rfl rfl (by kernel_rfl) (by decide) (fun K hK=>?_)
     refine goes_ Try.func14 (by kernel_rfl) rfl #[.pointer (some ⟨g,0,none⟩),.int .i64 300] (by rfl) rfl rfl ar ?_
     with_reducible refine(spec_l1Cur_pick.calls g s0_0 t168 t169 300 t186 t187 t188 w0 _ ?side1 ?side2 A32.out).mono ?_
     (case side1=>repeat (first|(with_reducible first|exact HI0.out|apply IsS42.alloc|apply IsS42.drewN|apply IsS42.drew|apply IsS42.set_1|apply IsS42.set_2|refine IsS42.far ?_ NB0_185.out _)|exact HI0.out))
     (case side2=>repeat (first|(with_reducible first|exact HB.out|apply below_alloc|apply pw_below_drewN|apply below_drew1|refine below_set ?_ (IsS42.ge HI0.out)|refine below_set ?_ GE185.out)|exact HB.out))
     rintro e w40 ⟨rfl,hi,hb,hk⟩
     refine⟨_,rfl,?_⟩
     have n0_:=A_ (KeepBut.blk hk (g':=gb185) (o:=.cells #[.int .u64 t182,.int .u64 t183] 76 (0,0)) (bk BK185.out) NB185_0.out (by simp))
     have n1_:=A_ (KeepBut.trans (y4 HK.out) hk (.inl rfl))
     have n2_:=A_ (hb)
     have n3_:=A_ (hi)
     clear BK185 HK HB HI0
     have BK185:=n0_
     have HK:=n1_
     have HB:=n2_
     have HI0:=n3_
     clear n0_ n1_ n2_ n3_
     (try clear hb)
     (try clear hb2)
     (try clear hk)
     (try clear hi)
     refine hK.out _ _ ⟨(blk_cell BK185.out 0).trans rfl,(blk_cell BK185.out 1).trans rfl⟩ (fun hHeld=>?_)
     clear hK K
     refine norm_ (a':=?_) ?_ ?_
     rotate_left
     ·
      show Act.put _ (some 36) _=_
      simp only[Act.put,List.setIfInBounds_toArray,List.set_cons_zero,List.set_cons_succ,i64_w,i32_w]
      rfl
     refine pure_ (i:=3) (N:=some 37) (v:=?_) (a':=?_) #[true,true,true,true,false,false] rfl rfl (by kernel_rfl) (fun _ _ _ h=>h) (Or.inl ⟨by rfl,?_⟩) ?_ ?_
     rotate_left
     ·
      intro w'
      go_simp
      with_reducible rfl
     rotate_left
     ·
      simp only[Act.put,List.setIfInBounds_toArray,List.set_cons_zero,List.set_cons_succ,i64_w,i32_w]
      rfl
     refine one_ (i:=4) (N:=some 38) #[true,true,true,true,true,false] rfl rfl (by kernel_rfl) (by decide) (fun K hK=>?_)
     refine goes_ Try.func50 (by kernel_rfl) rfl #[.agg #[.int .u64 t182,.int .u64 t183],.int .i64 (wrap64 (t186 - 100))] (by rfl) rfl rfl ar ?_
     with_reducible refine(spec_l4K_ofInt.calls kj24 t182 t183 (wrap64 (t186 - 100)) t189 _ A33.out).mono ?_
     rintro e w41 ⟨rfl,hb⟩
     refine⟨_,rfl,?_⟩
     have n0_:=A_ (IsS42.below (y3 HI0.out) hb)
     have n1_:=A_ (blk_below (g:=gb185) (o:=.cells #[.int .u64 t182,.int .u64 t183] 76 (0,0)) (bk BK185.out) hb)
     have n2_:=A_ (KeepBut.trans (y4 HK.out) (KeepBut.of_below hb g none) (.inl rfl))
     have n3_:=A_ (below_step (y5 HB.out) hb)
     clear HI0 BK185 HK HB
     have HI0:=n0_
     have BK185:=n1_
     have HK:=n2_
     have HB:=n3_
     clear n0_ n1_ n2_ n3_
     (try clear hb)
     (try clear hb2)
     (try clear hk)
     (try clear hi)
     refine hK.out _ _ ⟨(blk_cell BK185.out 0).trans rfl,(blk_cell BK185.out 1).trans rfl⟩ (fun hHeld=>?_)
     clear hK K
     refine norm_ (a':=?_) ?_ ?_
     rotate_left
     ·
      show Act.put _ (some 38) _=_
      simp only[Act.put,List.setIfInBounds_toArray,List.set_cons_zero,List.set_cons_succ,i64_w,i32_w]
      rfl
     refine pure_ (i:=5) (N:=some 5) (v:=?_) (a':=?_) #[true,true,true,true,true,true] rfl rfl (by kernel_rfl) (fun _ _ _ h=>h) (Or.inl ⟨by rfl,?_⟩) ?_ ?_
     rotate_left
     ·
      intro w'
      go_simp
      with_reducible rfl
     rotate_left
     ·
      simp only[Act.put,List.setIfInBounds_toArray,List.set_cons_zero,List.set_cons_succ,i64_w,i32_w]
      rfl
     refine done_ (by kernel_rfl) ?_
     try go_wp2
     go_ret
     exact⟨rr_,y3 HI0.out,y5 HB.out,y4 HK.out⟩
    replace c31:=Bool.eq_false_iff.mpr c31
    subst c31
    replace H:=iF_ H
    simp only[Option.some.injEq,Prod.mk.injEq] at H
    obtain⟨rfl,rfl,rfl⟩:=H
    go_wp2_with (first|((with_reducible refine gc_ 49 rfl ?_);refine gm_ (some 30) Try.func49 (spec_l4Kind.calls a1 t182 t183 false _ A30.out) ?_;intro w42 hb;replace HI0:=A_ (IsS42.below (y1 HI0.out) hb);replace HK:=A_ (KeepBut.trans (y0 HK.out) (KeepBut.of_below hb g none) (.inl rfl));replace HB:=A_ (below_step (y2 HB.out) hb);(try clear hb))|((with_reducible refine gd_ 6 rfl ?_);refine bx_ #[.int .u64 0,.int .u64 0] 76 ?_;intro gb185 hg w43 hbox hb;have BK185:=A_ hbox;have GW185:=A_ ((by rw[hg];exact(keep_size (w:=w) (g:=g) (row:=none) (y0 HK.out)):w.heap.size≤gb185));have GE185:=A_ ((Nat.le_trans HW0.out (by rw[hg];exact(keep_size (w:=w) (g:=g) (row:=none) (y0 HK.out)):w.heap.size≤gb185):w0.heap.size≤gb185));have NB0_185:=A_ ((by rw[hg];exact Nat.ne_of_lt (IsS42.lt (show IsS42 w0 _ g s0_0 t168 t169 from y1 HI0.out)):g≠gb185));have NB185_0:=A_ ((by rw[hg];exact Nat.ne_of_gt (IsS42.lt (show IsS42 w0 _ g s0_0 t168 t169 from y1 HI0.out)):gb185≠g));replace HI0:=A_ (IsS42.below (y1 HI0.out) hb);replace HK:=A_ (KeepBut.trans (y0 HK.out) (KeepBut.of_below hb g none) (.inl rfl));replace HB:=A_ (below_step (y2 HB.out) hb);clear hb hbox hg;have hnb44:=NB185_0.out;have hnc44:=NB0_185.out;obtain⟨hcz45_0,hcz45_1⟩:=cs2_ BK185.out;obtain⟨hfz45_0,hfz45_1⟩:=fz2_ BK185.out))
    go_ret
    exact⟨rr_,y3 HI0.out,y5 HB.out,y4 HK.out⟩
   replace c29:=Bool.eq_false_iff.mpr c29
   subst c29
   replace H:=iF_ H
   by_cases c46:t167=3
   ·
    rw[if_pos c46] at H
    obtain⟨c46b0,c46b1⟩:=eT_ c46
    clear c46
    by_cases c47:a1=32
    ·
     rw[if_pos c47] at H
     obtain⟨c47b0,c47b1⟩:=eT_ c47
     clear c47
     replace H:=Option.bind_eq_some_iff.mp H
     obtain⟨⟨t190,t191,t192⟩,A480,H⟩:=H
     replace H:(some ((1056964608+(Go.bits .and .u32 ((t190) % 4294967296) 33554431)) % 4294967296,t191,t192))=some (r1,r2,r3):=H
     have A48:=A_ A480
     clear A480
     simp only[Option.some.injEq,Prod.mk.injEq] at H
     obtain⟨rfl,rfl,rfl⟩:=H
     go_wp2_with (first|((with_reducible refine gc_ 48 rfl ?_);refine goesL_ (some 44) rfl rfl Try.func48 (by kernel_rfl) rfl #[.pointer (some ⟨g,0,none⟩)] rfl ar ?_;(with_reducible refine(spec_l1Cur_wide.calls kj24 g s0_0 t168 t169 t190 t191 t192 w0 _ ?side1 ?side2 A48.out).mono ?_);(case side1=>repeat (first|(with_reducible first|exact HI0.out|apply IsS42.alloc|apply IsS42.drewN|apply IsS42.drew|apply IsS42.set_1|apply IsS42.set_2)|exact HI0.out));(case side2=>repeat (first|(with_reducible first|exact HB.out|apply below_alloc|apply pw_below_drewN|apply below_drew1|refine below_set ?_ (IsS42.ge HI0.out))|exact HB.out));rintro e w49 ⟨rfl,hi,hb,hk⟩;refine⟨_,rfl,?_⟩;replace HK:=A_ (KeepBut.trans (y0 HK.out) hk (.inl rfl));replace HB:=A_ (hb);replace HI0:=A_ (hi);(try clear hb);(try clear hb2);(try clear hk);(try clear hi)))
     go_ret
     exact⟨rr_,y1 HI0.out,y2 HB.out,y0 HK.out⟩
    rw[if_neg c47] at H
    obtain⟨c47b0,c47b1⟩:=eF_ c47
    replace H:=Option.bind_eq_some_iff.mp H
    obtain⟨⟨t193,t194,t195⟩,A500,H⟩:=H
    replace H:(some ((14336+(Go.bits .and .u32 ((t193) % 4294967296) 4095)) % 4294967296,t194,t195))=some (r1,r2,r3):=H
    have A50:=A_ A500
    clear A500
    simp only[Option.some.injEq,Prod.mk.injEq] at H
    obtain⟨rfl,rfl,rfl⟩:=H
    go_wp2_with (first|((with_reducible refine gc_ 48 rfl ?_);refine goesL_ (some 49) rfl rfl Try.func48 (by kernel_rfl) rfl #[.pointer (some ⟨g,0,none⟩)] rfl ar ?_;(with_reducible refine(spec_l1Cur_wide.calls kj24 g s0_0 t168 t169 t193 t194 t195 w0 _ ?side1 ?side2 A50.out).mono ?_);(case side1=>repeat (first|(with_reducible first|exact HI0.out|apply IsS42.alloc|apply IsS42.drewN|apply IsS42.drew|apply IsS42.set_1|apply IsS42.set_2)|exact HI0.out));(case side2=>repeat (first|(with_reducible first|exact HB.out|apply below_alloc|apply pw_below_drewN|apply below_drew1|refine below_set ?_ (IsS42.ge HI0.out))|exact HB.out));rintro e w51 ⟨rfl,hi,hb,hk⟩;refine⟨_,rfl,?_⟩;replace HK:=A_ (KeepBut.trans (y0 HK.out) hk (.inl rfl));replace HB:=A_ (hb);replace HI0:=A_ (hi);(try clear hb);(try clear hb2);(try clear hk);(try clear hi)))
    go_ret
    exact⟨rr_,y1 HI0.out,y2 HB.out,y0 HK.out⟩
   rw[if_neg c46] at H
   obtain⟨c46b0,c46b1⟩:=eF_ c46
   simp only[Option.some.injEq,Prod.mk.injEq] at H
   obtain⟨rfl,rfl,rfl⟩:=H
   go_wp2
   go_ret
   exact⟨rr_,y1 HI0.out,y2 HB.out,y0 HK.out⟩

end Go.Proofs.Ytmajifnehjlncaa.Q

