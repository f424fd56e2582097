-- Written by a program of this session; it walks the functions that the law reaches.
import Derived.Test.YtmajifnehjlncaaQx0
import Derived.Test.YtmajifnehjlncaaQx1
import Derived.Test.YtmajifnehjlncaaQx2
namespace Go.Proofs.Ytmajifnehjlncaa.Q
open Go.RowKit Go.Proofs.YtmajifnehjlncaaW.PrintWords Go.Proofs.YtmajifnehjlncaaW.PrintLast Go.Proofs.YtmajifnehjlncaaW.PrintMore
attribute [local go_sem] max2_int min2_int max_two min_two max_three min_three max_four min_four   -- for this text's walks alone
set_option linter.unusedVariables false
set_option linter.unusedSimpArgs false

/-! ### spec_l1Cur_gen: function 42 -/
mutual
def spec_l1Cur_gen.j0:Nat→List (S37)→Int→Int→Int→List Int→Int→Int→Option ((List (S37)) × Int × Int)
 |0,_,_,_,_,_,_,_=>none
 |k+1,x1,x2,x3,x4,x1000,x1001,x1002=>if x2=64 then ((spec_l1Cur_pick.f x1000 x1001 x1002 7).bind fun bt196=>(if bt196.1=0 then (if x1.length<8796093022208 then (some ((x1++[(⟨1,0⟩:S37)]),bt196.2.1,bt196.2.2)) else (none)) else (if bt196.1=1 then (spec_l1Cur_gen.j1 k x1 x3 x4 bt196.1 (bt196.1==1) x1000 bt196.2.1 bt196.2.2) else (spec_l1Cur_gen.j1 k x1 x3 x4 bt196.1 (bt196.1==2) x1000 bt196.2.1 bt196.2.2)))) else (if x3≤0 then (if x2=127 then ((spec_l1Cur_one.f x1000 x1001 x1002 2).bind fun bt285=>(if bt285.1=true then ((spec_l1Cur_pick.f x1000 bt285.2.1 bt285.2.2 2).bind fun bt288=>(if x1.length<8796093022208 then (some ((x1++[(⟨32,bt288.1⟩:S37)]),bt288.2.1,bt288.2.2)) else (none))) else ((spec_l1Cur_pick.f x1000 bt285.2.1 bt285.2.2 50).bind fun bt294=>(if x1.length<8796093022208 then (some ((x1++[(⟨65,wrap64 (bt294.1 - 10)⟩:S37)]),bt294.2.1,bt294.2.2)) else (none))))) else (if x2=126 then ((spec_l1Cur_one.f x1000 x1001 x1002 2).bind fun bt300=>(if bt300.1=true then (if x1.length<8796093022208 then (some ((x1++[(⟨32,2⟩:S37)]),bt300.2.1,bt300.2.2)) else (none)) else ((spec_l1Cur_signed.f k x1000 bt300.2.1 bt300.2.2).bind fun bt306=>(if x1.length<8796093022208 then (some ((x1++[(⟨66,bt306.1⟩:S37)]),bt306.2.1,bt306.2.2)) else (none))))) else ((spec_l1Cur_float.f k x1000 x1001 x1002 32).bind fun bt312=>(if x1.length<8796093022208 then (some ((x1++[(⟨67,wrap64 (bt312.1)⟩:S37)]),bt312.2.1,bt312.2.2)) else (none))))) else ((spec_l1Cur_pick.f x1000 x1001 x1002 6).bind fun bt318=>(if bt318.1=0 then ((spec_l1Cur_gen.f k x1000 bt318.2.1 bt318.2.2 x1 127 (wrap64 (x3 - 1)) x4).bind fun bt321=>(if bt321.1.length<8796093022208 then ((spec_l1Cur_gen.f k x1000 bt321.2.1 bt321.2.2 (bt321.1++[(⟨4,x2⟩:S37)]) x2 (wrap64 (x3 - 1)) (wrap64 (x4+1))).bind fun bt329=>(if bt329.1.length<8796093022208 then ((spec_l1Cur_gen.f k x1000 bt329.2.1 bt329.2.2 (bt329.1++[(⟨5,0⟩:S37)]) x2 (wrap64 (x3 - 1)) (wrap64 (x4+1))).bind fun bt337=>(if bt337.1.length<8796093022208 then (some ((bt337.1++[(⟨11,0⟩:S37)]),bt337.2.1,bt337.2.2)) else (none))) else (none))) else (none))) else (if bt318.1=1 then ((spec_l1Cur_gen.f k x1000 bt318.2.1 bt318.2.2 x1 64 (wrap64 (x3 - 1)) x4).bind fun bt345=>((spec_l1Cur_gen.f k x1000 bt345.2.1 bt345.2.2 bt345.1 x2 (wrap64 (x3 - 1)) x4).bind fun bt350=>(some (bt350.1,bt350.2.1,bt350.2.2)))) else (if x2=127 then ((spec_l1Cur_pick.f x1000 bt318.2.1 bt318.2.2 6).bind fun bt355=>(if bt355.1=0 then ((spec_l1Cur_gen.f k x1000 bt355.2.1 bt355.2.2 x1 127 (wrap64 (x3 - 1)) x4).bind fun bt358=>((spec_l1Cur_pick.f x1000 bt358.2.1 bt358.2.2 6).bind fun bt363=>(if bt358.1.length<8796093022208 then (some ((bt358.1++[(⟨wrap64 (118+bt363.1),0⟩:S37)]),bt363.2.1,bt363.2.2)) else (none)))) else (if bt355.1=1 then ((spec_l1Cur_gen.f k x1000 bt355.2.1 bt355.2.2 x1 126 (wrap64 (x3 - 1)) x4).bind fun bt369=>(if bt369.1.length<8796093022208 then (some ((bt369.1++[(⟨176,0⟩:S37)]),bt369.2.1,bt369.2.2)) else (none))) else (if bt355.1=2 then ((spec_l1Cur_gen.f k x1000 bt355.2.1 bt355.2.2 x1 125 (wrap64 (x3 - 1)) x4).bind fun bt377=>(if bt377.1.length<8796093022208 then (some ((bt377.1++[(⟨180,0⟩:S37)]),bt377.2.1,bt377.2.2)) else (none))) else (if bt355.1=3 then ((spec_l1Cur_gen.f k x1000 bt355.2.1 bt355.2.2 x1 127 0 x4).bind fun bt385=>((spec_l1Cur_pick.f x1000 bt385.2.1 bt385.2.2 20).bind fun bt390=>(if bt385.1.length<8796093022208 then (some ((bt385.1++[(⟨40,bt390.1⟩:S37)]),bt390.2.1,bt390.2.2)) else (none)))) else ((spec_l1Cur_gen.f k x1000 bt355.2.1 bt355.2.2 x1 127 (wrap64 (x3 - 1)) x4).bind fun bt396=>((spec_l1Cur_gen.f k x1000 bt396.2.1 bt396.2.2 bt396.1 127 (wrap64 (x3 - 1)) x4).bind fun bt401=>((spec_l1Cur_pick.f x1000 bt401.2.1 bt401.2.2 21).bind fun bt406=>(if bt401.1.length<8796093022208 then (some ((bt401.1++[(⟨wrap64 (97+bt406.1),0⟩:S37)]),bt406.2.1,bt406.2.2)) else (none)))))))))) else (if x2=126 then ((spec_l1Cur_one.f x1000 bt318.2.1 bt318.2.2 3).bind fun bt412=>(if bt412.1=true then ((spec_l1Cur_gen.f k x1000 bt412.2.1 bt412.2.2 x1 127 (wrap64 (x3 - 1)) x4).bind fun bt415=>((spec_l1Cur_pick.f x1000 bt415.2.1 bt415.2.2 2).bind fun bt420=>(if bt415.1.length<8796093022208 then (some ((bt415.1++[(⟨wrap64 (177+bt420.1),0⟩:S37)]),bt420.2.1,bt420.2.2)) else (none)))) else ((spec_l1Cur_gen.f k x1000 bt412.2.1 bt412.2.2 x1 126 (wrap64 (x3 - 1)) x4).bind fun bt426=>((spec_l1Cur_gen.f k x1000 bt426.2.1 bt426.2.2 bt426.1 126 (wrap64 (x3 - 1)) x4).bind fun bt431=>((spec_l1Cur_pick.f x1000 bt431.2.1 bt431.2.2 15).bind fun bt436=>(if bt431.1.length<8796093022208 then (some ((bt431.1++[(⟨wrap64 (129+bt436.1),0⟩:S37)]),bt436.2.1,bt436.2.2)) else (none))))))) else ((spec_l1Cur_one.f x1000 bt318.2.1 bt318.2.2 2).bind fun bt442=>(if bt442.1=true then ((spec_l1Cur_gen.f k x1000 bt442.2.1 bt442.2.2 x1 127 (wrap64 (x3 - 1)) x4).bind fun bt445=>(if bt445.1.length<8796093022208 then (some ((bt445.1++[(⟨179,0⟩:S37)]),bt445.2.1,bt445.2.2)) else (none))) else ((spec_l1Cur_gen.f k x1000 bt442.2.1 bt442.2.2 x1 125 (wrap64 (x3 - 1)) x4).bind fun bt453=>((spec_l1Cur_gen.f k x1000 bt453.2.1 bt453.2.2 bt453.1 125 (wrap64 (x3 - 1)) x4).bind fun bt458=>((spec_l1Cur_pick.f x1000 bt458.2.1 bt458.2.2 5).bind fun bt463=>(if bt458.1.length<8796093022208 then (some ((bt458.1++[(⟨wrap64 (161+bt463.1),0⟩:S37)]),bt463.2.1,bt463.2.2)) else (none)))))))))))))
def spec_l1Cur_gen.j1:Nat→List (S37)→Int→Int→Int→Bool→List Int→Int→Int→Option ((List (S37)) × Int × Int)
 |0,_,_,_,_,_,_,_,_=>none
 |k+1,x1,x3,x4,x17,x24,x1000,x1001,x1002=>if x24=true then ((spec_l1Cur_gen.f k x1000 x1001 x1002 x1 127 (wrap64 (x3 - 1)) x4).bind fun bt202=>((spec_l1Cur_pick.f x1000 bt202.2.1 bt202.2.2 2).bind fun bt207=>(if bt202.1.length<8796093022208 then (some ((bt202.1++[(⟨33,bt207.1⟩:S37)]),bt207.2.1,bt207.2.2)) else (none)))) else (if x17=3 then (if x3 > 0 then ((spec_l1Cur_among.f x1000 x1001 x1002 (([2,3]:List Int))).bind fun bt216=>(if x1.length<8796093022208 then ((spec_l1Cur_gen.f k x1000 bt216.2.1 bt216.2.2 (x1++[(⟨bt216.1,64⟩:S37)]) 64 (wrap64 (x3 - 1)) (wrap64 (x4+1))).bind fun bt222=>((spec_l1Cur_one.f x1000 bt222.2.1 bt222.2.2 2).bind fun bt227=>(if bt227.1=true then ((spec_l1Cur_gen.f k x1000 bt227.2.1 bt227.2.2 bt222.1 127 0 (wrap64 (x4+1))).bind fun bt230=>(if bt230.1.length<8796093022208 then ((some (bt230.1++[(⟨13,0⟩:S37)]:List (S37))).bind fun y235=>(if y235.length<8796093022208 then (some ((y235++[(⟨11,0⟩:S37)]),bt230.2.1,bt230.2.2)) else (none))) else (none))) else (if bt222.1.length<8796093022208 then (some ((bt222.1++[(⟨11,0⟩:S37)]),bt227.2.1,bt227.2.2)) else (none))))) else (none))) else ((spec_l1Cur_gen.f k x1000 x1001 x1002 x1 127 (wrap64 (x3 - 1)) x4).bind fun bt244=>(if bt244.1.length<8796093022208 then (some ((bt244.1++[(⟨26,0⟩:S37)]),bt244.2.1,bt244.2.2)) else (none)))) else (if x17=4 then ((spec_l1Cur_pick.f x1000 x1001 x1002 300).bind fun bt252=>(if x1.length<8796093022208 then ((spec_l1Cur_gen.f k x1000 bt252.2.1 bt252.2.2 (x1++[(⟨65,bt252.1⟩:S37)]) 127 (wrap64 (x3 - 1)) x4).bind fun bt258=>((spec_l1Cur_pick.f x1000 bt258.2.1 bt258.2.2 9).bind fun bt263=>(if bt258.1.length<8796093022208 then (some ((bt258.1++[(⟨54,bt263.1⟩:S37)]),bt263.2.1,bt263.2.2)) else (none)))) else (none))) else (if x17=5 then ((spec_l1Cur_gen.f k x1000 x1001 x1002 x1 126 (wrap64 (x3 - 1)) x4).bind fun bt269=>(if bt269.1.length<8796093022208 then (some ((bt269.1++[(⟨33,2⟩:S37)]),bt269.2.1,bt269.2.2)) else (none))) else ((spec_l1Cur_gen.f k x1000 x1001 x1002 x1 127 (wrap64 (x3 - 1)) x4).bind fun bt277=>(if bt277.1.length<8796093022208 then (some ((bt277.1++[(⟨26,0⟩:S37)]),bt277.2.1,bt277.2.2)) else (none))))))
def spec_l1Cur_gen.f:Nat→List Int→Int→Int→List (S37)→Int→Int→Int→Option ((List (S37)) × Int × Int)
 |0,_,_,_,_,_,_,_=>none
 |k+1,s0_0,s0_1,s0_2,l1,a2,a3,a4=>if (l1.length:Int) > 120 then (spec_l1Cur_gen.j0 k l1 a2 0 a4 s0_0 s0_1 s0_2) else (spec_l1Cur_gen.j0 k l1 a2 a3 a4 s0_0 s0_1 s0_2)
end
set_option maxHeartbeats 8000000 in
set_option maxRecDepth 100000 in
theorem spec_l1Cur_gen.calls (k:Nat):∀ (g:Nat) (s0_0:List Int) (s0_1:Int) (s0_2:Int) (P1_:Nat→Prop) (u9000_:Value) (l1:List (S37)) (a2:Int) (a3:Int) (a4:Int) (r1:List (S37)) (r2:Int) (r3:Int) (w0 w:World) (hI:IsS42 w0 w g s0_0 s0_1 s0_2) (hB:Below w0.heap.size w0 w) (ho1:Kd.R k37 37 w w0.heap.size P1_ u9000_ l1) (h:spec_l1Cur_gen.f k s0_0 s0_1 s0_2 l1 a2 a3 a4=some (r1,r2,r3)),
  Calls Try.prog 42 #[.pointer (some ⟨g,0,none⟩),u9000_,.int .i64 a2,.int .i64 a3,.int .i64 a4] w fun e w'=>∃ v0_:Value,e=.returned (v0_)∧Kd.R k37 37 w' w0.heap.size (fun k_=>(P1_ k_∨w.heap.size≤k_)) v0_ r1∧IsS42 w0 w' g s0_0 r2 r3∧Below w0.heap.size w0 w'∧Kept w w' (fun k_=>(P1_ k_)∨k_=g):=by
 induction k using Nat.strongRecOn with
 |_ k ih=>
 intro g s0_0 s0_1 s0_2 P1_ u9000_ l1 a2 a3 a4 r1 r2 r3 w0 w hI hB ho1 h
 cases k with
 |zero=>exact absurd h (by simp[spec_l1Cur_gen.f])
 |succ k=>
 simp only[spec_l1Cur_gen.f] at h
 have hu37:=Try.underlying37
 have HO1:=A_ (show Kd.R k37 37 w w0.heap.size (fun k_=>(P1_ k_∨w.heap.size≤k_)) u9000_ l1 from Kd.R_mono ho1 (fun k_ hk=>(.inl hk)))
 have HI0:=A_ hI
 have HL:=A_ hB.size
 clear hI
 have HK:=A_ (Kept.refl w (fun k_=>(P1_ k_)∨k_=g))
 have HW0:=A_ hB.size
 have HB:=A_ hB
 clear hB
 have H:(if (l1.length:Int) > 120 then (spec_l1Cur_gen.j0 k l1 a2 0 a4 s0_0 s0_1 s0_2) else (spec_l1Cur_gen.j0 k l1 a2 a3 a4 s0_0 s0_1 s0_2))=some (r1,r2,r3):=h
 clear h
 have HC6:=A_ H
 clear H
 obtain⟨Ao7,co7,eo7⟩:=Kd.R_slice HO1.out
 subst eo7
 go_enter Try.func42,Try.ntmps42
 go_upto_if 13 with (fail)
 go_cut [3] (fun v3 wc=>∃ (kq:Nat) (x3_5:Int),v3=.int .i64 x3_5∧Aside0 (spec_l1Cur_gen.j0 kq l1 a2 x3_5 a4 s0_0 s0_1 s0_2=some (r1,r2,r3))∧Aside0 (kq≤k)∧Aside0 (Kd.R k37 37 wc w0.heap.size (fun k_=>(P1_ k_∨w.heap.size≤k_)) (.slice Ao7 l1.length co7) l1)∧Aside0 (IsS42 w0 wc g s0_0 s0_1 s0_2)∧Aside0 (Kept w wc (fun k_=>(P1_ k_)∨k_=g))∧Aside0 (Below w0.heap.size w0 wc))
 case first=>
  have H:=HC6.out
  clear HC6
  by_cases c8:(l1.length:Int) > 120
  ·
   rw[if_pos c8] at H
   have c8b0:=decide_eq_true c8
   have c8b1:decide (120<l1.length)=true:=decide_eq_true (by omega)
   clear c8
   (first|rw[c8b0]|(simp only[i64_w,i32_w];rw[c8b0])|skip)
   have H':=A_ H
   clear H
   go_wp2
   go_meet
   case rel=>exact⟨_,(0),rs_,H',⟨by first|omega|exact Nat.le_refl _⟩,⟨kr_ HO1.out⟩,⟨y1 HI0.out⟩,⟨y6 HK.out⟩,⟨y2 HB.out⟩⟩
  rw[if_neg c8] at H
  have c8b0:=decide_eq_false c8
  have c8b1:decide (120<l1.length)=false:=decide_eq_false (by omega)
  clear c8
  (first|rw[c8b0]|(simp only[i64_w,i32_w];rw[c8b0])|skip)
  have H':=A_ H
  clear H
  go_wp2
  go_meet
  case rel=>exact⟨_,(a3),rs_,H',⟨by first|omega|exact Nat.le_refl _⟩,⟨kr_ HO1.out⟩,⟨y1 HI0.out⟩,⟨y6 HK.out⟩,⟨y2 HB.out⟩⟩
 case rest=>as_aux_lemma=>
   clear HC6
   obtain⟨kq,x3_5,rfl,HA,HJ5,HO_1,HI0,HK,HB⟩:=hcut
   cases kq with
   |zero=>exact absurd HA.out (by simp[spec_l1Cur_gen.j0])
   |succ kj5=>
    have H:=HA.out
    clear HA
    simp only[spec_l1Cur_gen.j0] at H
    by_cases c9:a2=64
    · as_aux_lemma=>
      rw[if_pos c9] at H
      obtain⟨c9b0,c9b1⟩:=eT_ c9
      clear c9
      replace H:=Option.bind_eq_some_iff.mp H
      obtain⟨⟨t196,t197,t198⟩,A100,H⟩:=H
      replace H:(if t196=0 then (if l1.length<8796093022208 then (some ((l1++[(⟨1,0⟩:S37)]),t197,t198)) else (none)) else (if t196=1 then (spec_l1Cur_gen.j1 kj5 l1 x3_5 a4 t196 (t196==1) s0_0 t197 t198) else (spec_l1Cur_gen.j1 kj5 l1 x3_5 a4 t196 (t196==2) s0_0 t197 t198)))=some (r1,r2,r3):=H
      have A10:=A_ A100
      clear A100
      by_cases c11:t196=0
      · as_aux_lemma=>
        rw[if_pos c11] at H
        obtain⟨c11b0,c11b1⟩:=eT_ c11
        clear c11
        by_cases c12:l1.length<8796093022208
        · as_aux_lemma=>
          rw[if_pos c12] at H
          have LMc12:=A_ c12
          clear c12
          obtain⟨y199,hy199⟩:∃ y_:List (S37),y_=(l1++[(⟨1,0⟩:S37)]):=⟨_,rfl⟩
          replace H:(some (y199,t197,t198))=some (r1,r2,r3):=by first|(rw[hy199];with_reducible exact H)|(have H2_:=(Option.bind_some _ _).symm.trans H;rw[hy199];with_reducible exact H2_)|(have H2_:=(Option.bind_some _ _).symm.trans H;with_reducible exact H2_)|with_reducible exact H|(rw[hy199];exact H)|exact H
          have Ny199:=A_ hy199
          clear hy199
          simp only[Option.some.injEq,Prod.mk.injEq] at H
          obtain⟨rfl,rfl,rfl⟩:=H
          go_wp2_with (first|((with_reducible refine gc_ 14 rfl ?_);refine goesL_ (some 17) rfl rfl Try.func14 (by kernel_rfl) rfl #[.pointer (some ⟨g,0,none⟩),.int .i64 7] rfl ar ?_;(with_reducible refine(spec_l1Cur_pick.calls g s0_0 s0_1 s0_2 7 t196 t197 t198 w0 _ ?side1 ?side2 A10.out).mono ?_);(case side1=>repeat (first|(with_reducible first|exact HI0.out|apply IsS42.alloc|apply IsS42.drewN|apply IsS42.drew|apply IsS42.set_1|apply IsS42.set_2)|exact HI0.out));(case side2=>repeat (first|(with_reducible first|exact HB.out|apply below_alloc|apply pw_below_drewN|apply below_drew1|refine below_set ?_ (IsS42.ge HI0.out))|exact HB.out));rintro e w13 ⟨rfl,hi,hb,hk⟩;refine⟨_,rfl,?_⟩;replace HO_1:=A_ (Kd.R_mono (Kd.R_keep (IsS42.apart (show IsS42 w0 _ g s0_0 s0_1 s0_2 from y1 HI0.out) (kr_ HO_1.out) (by decide)) hk (fun _ h=>h.2)) (fun _ h=>h.1));replace HK:=A_ (Kept.of_keep (S:=(fun k_=>(P1_ k_)∨k_=g)) (y6 HK.out) hk (.inl (.inr rfl)));replace HB:=A_ (hb);replace HI0:=A_ (hi);(try clear hb);(try clear hb2);(try clear hk);(try clear hi))|((with_reducible refine gate_builtin (b:=.append) (xs:=#[.tmp 20,.tmp 22]) rfl ?_);at_builtin;refine Kd.R_append k37 (w0:=w0) w0.heap.size rfl (.tmp 20) (.tmp 22) 23 37 (.agg #[(.int .i64 0),(.int .i64 0)]) 16 rfl Try.underlying23 info37 rfl (by decide) (by omega) (.slice Ao7 l1.length co7) l1 (⟨1,0⟩:S37) [.int .i64 1,.int .i64 0] (fun k_=>(P1_ k_∨w.heap.size≤k_)) (fun _=>False) rfl rfl ?aP (fun _ hk=>hk.elim) ?aF ?aO ?aB ?aS ?aL ?_;(case aP=>exact k37_mkM _ _ _ (⟨1,0⟩:S37));(case aB=>exact(y2 HB.out));(case aF=>exact(fun k_ hk=>(.inr (Nat.le_trans (by first|exact HK.out.1|exact(show Kept w _ (fun k_=>(P1_ k_)∨k_=g) from y6 HK.out).1) hk))));(case aO=>exact(kr_ HO_1.out));(case aS=>exact(below_size (y2 HB.out)));(case aL=>have:=LMc12.out;omega);intro v200 w14 ho hb hg hat;rw[←Ny199.out] at ho;have HO201:=A_ (ho);replace HI0:=A_ (IsS42.grown (y1 HI0.out) hg (IsS42.own_ne HI0.out HO_1.out (by decide)));replace HB:=A_ (hb);replace HK:=A_ (Kept.of_grown (S:=(fun k_=>(P1_ k_)∨k_=g)) hg (y6 HK.out) (fun k_ e_=>Or.imp_left Or.inl ((HO_1.out.1 k_ e_))));clear HO_1;clear ho hb hg hat))
          go_ret
          exact⟨_,rr_,kr_ HO201.out,y1 HI0.out,y2 HB.out,y6 HK.out⟩
        rw[if_neg c12] at H
        exact absurd H (by simp)
      · as_aux_lemma=>
        rw[if_neg c11] at H
        obtain⟨c11b0,c11b1⟩:=eF_ c11
        have HC15:=A_ H
        clear H
        go_upto_if 24 with (first|((with_reducible refine gc_ 14 rfl ?_);refine goesL_ (some 17) rfl rfl Try.func14 (by kernel_rfl) rfl #[.pointer (some ⟨g,0,none⟩),.int .i64 7] rfl ar ?_;(with_reducible refine(spec_l1Cur_pick.calls g s0_0 s0_1 s0_2 7 t196 t197 t198 w0 _ ?side1 ?side2 A10.out).mono ?_);(case side1=>repeat (first|(with_reducible first|exact HI0.out|apply IsS42.alloc|apply IsS42.drewN|apply IsS42.drew|apply IsS42.set_1|apply IsS42.set_2)|exact HI0.out));(case side2=>repeat (first|(with_reducible first|exact HB.out|apply below_alloc|apply pw_below_drewN|apply below_drew1|refine below_set ?_ (IsS42.ge HI0.out))|exact HB.out));rintro e w16 ⟨rfl,hi,hb,hk⟩;refine⟨_,rfl,?_⟩;replace HO_1:=A_ (Kd.R_mono (Kd.R_keep (IsS42.apart (show IsS42 w0 _ g s0_0 s0_1 s0_2 from y1 HI0.out) (kr_ HO_1.out) (by decide)) hk (fun _ h=>h.2)) (fun _ h=>h.1));replace HK:=A_ (Kept.of_keep (S:=(fun k_=>(P1_ k_)∨k_=g)) (y6 HK.out) hk (.inl (.inr rfl)));replace HB:=A_ (hb);replace HI0:=A_ (hi);(try clear hb);(try clear hb2);(try clear hk);(try clear hi)))
        (try simp only[Act.put,List.setIfInBounds_toArray,List.set_cons_zero,List.set_cons_succ])
        go_cut [24] (fun v24 wc=>∃ (kq:Nat) (x24_14:Bool),v24=.bool x24_14∧Aside0 (spec_l1Cur_gen.j1 kq l1 x3_5 a4 t196 x24_14 s0_0 t197 t198=some (r1,r2,r3))∧Aside0 (kq≤kj5)∧Aside0 (Kd.R k37 37 wc w0.heap.size (fun k_=>(P1_ k_∨w.heap.size≤k_)) (.slice Ao7 l1.length co7) l1)∧Aside0 (IsS42 w0 wc g s0_0 t197 t198)∧Aside0 (Kept w wc (fun k_=>(P1_ k_)∨k_=g))∧Aside0 (Below w0.heap.size w0 wc))
        case first=>
         have H:=HC15.out
         clear HC15
         by_cases c17:t196=1
         ·
          rw[if_pos c17] at H
          obtain⟨c17b0,c17b1⟩:=eT_ c17
          clear c17
          (first|rw[c17b0]|(simp only[i64_w,i32_w];rw[c17b0])|skip)
          have H':=A_ H
          clear H
          go_wp2
          go_meet
          case rel=>exact⟨_,((t196==1)),rs_,H',⟨by have:=HJ5.out;first|omega|exact Nat.le_refl _⟩,⟨kr_ HO_1.out⟩,⟨y1 HI0.out⟩,⟨y6 HK.out⟩,⟨y2 HB.out⟩⟩
         rw[if_neg c17] at H
         obtain⟨c17b0,c17b1⟩:=eF_ c17
         (first|rw[c17b0]|(simp only[i64_w,i32_w];rw[c17b0])|skip)
         have H':=A_ H
         clear H
         go_wp2
         go_meet
         case rel=>exact⟨_,((t196==2)),rs_,H',⟨by have:=HJ5.out;first|omega|exact Nat.le_refl _⟩,⟨kr_ HO_1.out⟩,⟨y1 HI0.out⟩,⟨y6 HK.out⟩,⟨y2 HB.out⟩⟩
        case rest=>as_aux_lemma=>
          clear HC15
          try clear c9 c9b0 c9b1 c11 c11b0 c11b1
          obtain⟨kq,x24_14,rfl,HA,HJ14,HO_1,HI0,HK,HB⟩:=hcut
          cases kq with
          |zero=>exact absurd HA.out (by simp[spec_l1Cur_gen.j1])
          |succ kj14=>
           have H:=HA.out
           clear HA
           simp only[spec_l1Cur_gen.j1] at H
           by_cases c18:x24_14=true
           · as_aux_lemma=>
             subst c18
             replace H:=iT_ H
             replace H:=Option.bind_eq_some_iff.mp H
             obtain⟨⟨t202,t205,t206⟩,A190,H⟩:=H
             replace H:((spec_l1Cur_pick.f s0_0 t205 t206 2).bind fun bt207=>(if t202.length<8796093022208 then (some ((t202++[(⟨33,bt207.1⟩:S37)]),bt207.2.1,bt207.2.2)) else (none)))=some (r1,r2,r3):=H
             have A19:=A_ A190
             clear A190
             replace H:=Option.bind_eq_some_iff.mp H
             obtain⟨⟨t207,t208,t209⟩,A200,H⟩:=H
             replace H:(if t202.length<8796093022208 then (some ((t202++[(⟨33,t207⟩:S37)]),t208,t209)) else (none))=some (r1,r2,r3):=H
             have A20:=A_ A200
             clear A200
             by_cases c21:t202.length<8796093022208
             · as_aux_lemma=>
               rw[if_pos c21] at H
               have LMc21:=A_ c21
               clear c21
               obtain⟨y210,hy210⟩:∃ y_:List (S37),y_=(t202++[(⟨33,t207⟩:S37)]):=⟨_,rfl⟩
               replace H:(some (y210,t208,t209))=some (r1,r2,r3):=by first|(rw[hy210];with_reducible exact H)|(have H2_:=(Option.bind_some _ _).symm.trans H;rw[hy210];with_reducible exact H2_)|(have H2_:=(Option.bind_some _ _).symm.trans H;with_reducible exact H2_)|with_reducible exact H|(rw[hy210];exact H)|exact H
               have Ny210:=A_ hy210
               clear hy210
               simp only[Option.some.injEq,Prod.mk.injEq] at H
               obtain⟨rfl,rfl,rfl⟩:=H
               go_wp2_with (first|((with_reducible refine gc_ 42 rfl ?_);refine goesL_ (some 32) rfl rfl Try.func42 (by kernel_rfl) rfl #[.pointer (some ⟨g,0,none⟩),.slice Ao7 l1.length co7,.int .i64 127,.int .i64 (wrap64 (x3_5 - 1)),.int .i64 a4] rfl ar ?_;(with_reducible refine(ih kj14 (by have:=HJ5.out;have:=HJ14.out;omega) g s0_0 t197 t198 (fun k_=>some k_=(.slice Ao7 l1.length co7:Value).ownBlock) (.slice Ao7 l1.length co7) l1 127 (wrap64 (x3_5 - 1)) a4 t202 t205 t206 w0 _ ?side1 ?side2 ?side3 A19.out).mono ?_);(case side1=>repeat (first|(with_reducible first|exact HI0.out|apply IsS42.alloc|apply IsS42.drewN|apply IsS42.drew|apply IsS42.set_1|apply IsS42.set_2)|exact HI0.out));(case side2=>repeat (first|(with_reducible first|exact HB.out|apply below_alloc|apply pw_below_drewN|apply below_drew1|refine below_set ?_ (IsS42.ge HI0.out))|exact HB.out));(case side3=>exact Kd.R_tight rfl HO_1.out);rintro e w22 ⟨v203,rfl,ho0,hi,hb,hkp⟩;refine⟨_,rfl,?_⟩;have HO204:=A_ (Kd.R_mono (ok':=fun k_=>(P1_ k_∨w.heap.size≤k_)) ho0 (fun k_ hk_=>Or.elim hk_ (fun hs_=>(HO_1.out.1 k_ (hs_).symm)) (fun hn_=>(.inr (Nat.le_trans (by first|exact HK.out.1|exact(show Kept w _ (fun k_=>(P1_ k_)∨k_=g) from y6 HK.out).1) hn_)))));replace HI0:=A_ (hi);replace HK:=A_ (Kept.then_ (S:=(fun k_=>(P1_ k_)∨k_=g)) (y6 HK.out) hkp (fun k_ hs_=>Or.elim hs_ (fun hs_=>(fun e_=>Or.imp_left Or.inl ((HO_1.out.1 k_ e_.symm))) hs_) (fun e_=>.inl (.inr e_))));replace HB:=A_ (hb);clear HO_1;(try clear hb);(try clear hkp);(try clear ho0))|((with_reducible refine gc_ 14 rfl ?_);refine goesL_ (some 34) rfl rfl Try.func14 (by kernel_rfl) rfl #[.pointer (some ⟨g,0,none⟩),.int .i64 2] rfl ar ?_;(with_reducible refine(spec_l1Cur_pick.calls g s0_0 t205 t206 2 t207 t208 t209 w0 _ ?side1 ?side2 A20.out).mono ?_);(case side1=>repeat (first|(with_reducible first|exact HI0.out|apply IsS42.alloc|apply IsS42.drewN|apply IsS42.drew|apply IsS42.set_1|apply IsS42.set_2)|exact HI0.out));(case side2=>repeat (first|(with_reducible first|exact HB.out|apply below_alloc|apply pw_below_drewN|apply below_drew1|refine below_set ?_ (IsS42.ge HI0.out))|exact HB.out));rintro e w23 ⟨rfl,hi,hb,hk⟩;refine⟨_,rfl,?_⟩;replace HO204:=A_ (Kd.R_mono (Kd.R_keep (IsS42.apart (show IsS42 w0 _ g s0_0 t205 t206 from y1 HI0.out) (kr_ HO204.out) (by decide)) hk (fun _ h=>h.2)) (fun _ h=>h.1));replace HK:=A_ (Kept.of_keep (S:=(fun k_=>(P1_ k_)∨k_=g)) (y6 HK.out) hk (.inl (.inr rfl)));replace HB:=A_ (hb);replace HI0:=A_ (hi);(try clear hb);(try clear hb2);(try clear hk);(try clear hi))|((with_reducible refine gate_builtin (b:=.append) (xs:=#[.tmp 32,.tmp 36]) rfl ?_);at_builtin;refine Kd.R_append k37 (w0:=w0) w0.heap.size rfl (.tmp 32) (.tmp 36) 23 37 (.agg #[(.int .i64 0),(.int .i64 0)]) 16 rfl Try.underlying23 info37 rfl (by decide) (by omega) v203 t202 (⟨33,t207⟩:S37) [.int .i64 33,.int .i64 t207] (fun k_=>(P1_ k_∨w.heap.size≤k_)) (fun _=>False) rfl rfl ?aP (fun _ hk=>hk.elim) ?aF ?aO ?aB ?aS ?aL ?_;(case aP=>exact k37_mkM _ _ _ (⟨33,t207⟩:S37));(case aB=>exact(y2 HB.out));(case aF=>exact(fun k_ hk=>(.inr (Nat.le_trans (by first|exact HK.out.1|exact(show Kept w _ (fun k_=>(P1_ k_)∨k_=g) from y6 HK.out).1) hk))));(case aO=>exact(kr_ HO204.out));(case aS=>exact(below_size (y2 HB.out)));(case aL=>have:=LMc21.out;omega);intro v211 w24 ho hb hg hat;rw[←Ny210.out] at ho;have HO212:=A_ (ho);replace HI0:=A_ (IsS42.grown (y1 HI0.out) hg (IsS42.own_ne HI0.out HO204.out (by decide)));replace HB:=A_ (hb);replace HK:=A_ (Kept.of_grown (S:=(fun k_=>(P1_ k_)∨k_=g)) hg (y6 HK.out) (fun k_ e_=>Or.imp_left Or.inl ((HO204.out.1 k_ e_))));clear HO204;clear ho hb hg hat))
               go_ret
               exact⟨_,rr_,kr_ HO212.out,y1 HI0.out,y2 HB.out,y6 HK.out⟩
             rw[if_neg c21] at H
             exact absurd H (by simp)
           · as_aux_lemma=>
             replace c18:=Bool.eq_false_iff.mpr c18
             subst c18
             replace H:=iF_ H
             by_cases c25:t196=3
             · as_aux_lemma=>
               rw[if_pos c25] at H
               obtain⟨c25b0,c25b1⟩:=eT_ c25
               clear c25
               by_cases c26:x3_5 > 0
               · as_aux_lemma=>
                 rw[if_pos c26] at H
                 have c26b0:=decide_eq_true c26
                 clear c26
                 obtain⟨y213,hy213⟩:∃ y_:List Int,y_=(([2,3]:List Int)):=⟨_,rfl⟩
                 replace H:((spec_l1Cur_among.f s0_0 t197 t198 y213).bind fun bt216=>(if l1.length<8796093022208 then ((spec_l1Cur_gen.f kj14 s0_0 bt216.2.1 bt216.2.2 (l1++[(⟨bt216.1,64⟩:S37)]) 64 (wrap64 (x3_5 - 1)) (wrap64 (a4+1))).bind fun bt222=>((spec_l1Cur_one.f s0_0 bt222.2.1 bt222.2.2 2).bind fun bt227=>(if bt227.1=true then ((spec_l1Cur_gen.f kj14 s0_0 bt227.2.1 bt227.2.2 bt222.1 127 0 (wrap64 (a4+1))).bind fun bt230=>(if bt230.1.length<8796093022208 then ((some (bt230.1++[(⟨13,0⟩:S37)]:List (S37))).bind fun y235=>(if y235.length<8796093022208 then (some ((y235++[(⟨11,0⟩:S37)]),bt230.2.1,bt230.2.2)) else (none))) else (none))) else (if bt222.1.length<8796093022208 then (some ((bt222.1++[(⟨11,0⟩:S37)]),bt227.2.1,bt227.2.2)) else (none))))) else (none)))=some (r1,r2,r3):=by first|(rw[hy213];with_reducible exact H)|(have H2_:=(Option.bind_some _ _).symm.trans H;rw[hy213];with_reducible exact H2_)|(have H2_:=(Option.bind_some _ _).symm.trans H;with_reducible exact H2_)|with_reducible exact H|(rw[hy213];exact H)|exact H
                 have Ny213:=A_ hy213
                 clear hy213
                 replace H:=Option.bind_eq_some_iff.mp H
                 obtain⟨⟨t216,t217,t218⟩,A270,H⟩:=H
                 replace H:(if l1.length<8796093022208 then ((spec_l1Cur_gen.f kj14 s0_0 t217 t218 (l1++[(⟨t216,64⟩:S37)]) 64 (wrap64 (x3_5 - 1)) (wrap64 (a4+1))).bind fun bt222=>((spec_l1Cur_one.f s0_0 bt222.2.1 bt222.2.2 2).bind fun bt227=>(if bt227.1=true then ((spec_l1Cur_gen.f kj14 s0_0 bt227.2.1 bt227.2.2 bt222.1 127 0 (wrap64 (a4+1))).bind fun bt230=>(if bt230.1.length<8796093022208 then ((some (bt230.1++[(⟨13,0⟩:S37)]:List (S37))).bind fun y235=>(if y235.length<8796093022208 then (some ((y235++[(⟨11,0⟩:S37)]),bt230.2.1,bt230.2.2)) else (none))) else (none))) else (if bt222.1.length<8796093022208 then (some ((bt222.1++[(⟨11,0⟩:S37)]),bt227.2.1,bt227.2.2)) else (none))))) else (none))=some (r1,r2,r3):=H
                 have A27:=A_ A270
                 clear A270
                 by_cases c28:l1.length<8796093022208
                 · as_aux_lemma=>
                   rw[if_pos c28] at H
                   have LMc28:=A_ c28
                   clear c28
                   obtain⟨y219,hy219⟩:∃ y_:List (S37),y_=(l1++[(⟨t216,64⟩:S37)]):=⟨_,rfl⟩
                   replace H:((spec_l1Cur_gen.f kj14 s0_0 t217 t218 y219 64 (wrap64 (x3_5 - 1)) (wrap64 (a4+1))).bind fun bt222=>((spec_l1Cur_one.f s0_0 bt222.2.1 bt222.2.2 2).bind fun bt227=>(if bt227.1=true then ((spec_l1Cur_gen.f kj14 s0_0 bt227.2.1 bt227.2.2 bt222.1 127 0 (wrap64 (a4+1))).bind fun bt230=>(if bt230.1.length<8796093022208 then ((some (bt230.1++[(⟨13,0⟩:S37)]:List (S37))).bind fun y235=>(if y235.length<8796093022208 then (some ((y235++[(⟨11,0⟩:S37)]),bt230.2.1,bt230.2.2)) else (none))) else (none))) else (if bt222.1.length<8796093022208 then (some ((bt222.1++[(⟨11,0⟩:S37)]),bt227.2.1,bt227.2.2)) else (none)))))=some (r1,r2,r3):=by first|(rw[hy219];with_reducible exact H)|(have H2_:=(Option.bind_some _ _).symm.trans H;rw[hy219];with_reducible exact H2_)|(have H2_:=(Option.bind_some _ _).symm.trans H;with_reducible exact H2_)|with_reducible exact H|(rw[hy219];exact H)|exact H
                   have Ny219:=A_ hy219
                   clear hy219
                   replace H:=Option.bind_eq_some_iff.mp H
                   obtain⟨⟨t222,t225,t226⟩,A290,H⟩:=H
                   replace H:((spec_l1Cur_one.f s0_0 t225 t226 2).bind fun bt227=>(if bt227.1=true then ((spec_l1Cur_gen.f kj14 s0_0 bt227.2.1 bt227.2.2 t222 127 0 (wrap64 (a4+1))).bind fun bt230=>(if bt230.1.length<8796093022208 then ((some (bt230.1++[(⟨13,0⟩:S37)]:List (S37))).bind fun y235=>(if y235.length<8796093022208 then (some ((y235++[(⟨11,0⟩:S37)]),bt230.2.1,bt230.2.2)) else (none))) else (none))) else (if t222.length<8796093022208 then (some ((t222++[(⟨11,0⟩:S37)]),bt227.2.1,bt227.2.2)) else (none))))=some (r1,r2,r3):=H
                   have A29:=A_ A290
                   clear A290
                   replace H:=Option.bind_eq_some_iff.mp H
                   obtain⟨⟨t227,t228,t229⟩,A300,H⟩:=H
                   replace H:(if t227=true then ((spec_l1Cur_gen.f kj14 s0_0 t228 t229 t222 127 0 (wrap64 (a4+1))).bind fun bt230=>(if bt230.1.length<8796093022208 then ((some (bt230.1++[(⟨13,0⟩:S37)]:List (S37))).bind fun y235=>(if y235.length<8796093022208 then (some ((y235++[(⟨11,0⟩:S37)]),bt230.2.1,bt230.2.2)) else (none))) else (none))) else (if t222.length<8796093022208 then (some ((t222++[(⟨11,0⟩:S37)]),t228,t229)) else (none)))=some (r1,r2,r3):=H
                   have A30:=A_ A300
                   clear A300
                   by_cases c31:t227=true
                   · as_aux_lemma=>
                     subst c31
                     replace H:=iT_ H
                     replace H:=Option.bind_eq_some_iff.mp H
                     obtain⟨⟨t230,t233,t234⟩,A320,H⟩:=H
                     replace H:(if t230.length<8796093022208 then ((some (t230++[(⟨13,0⟩:S37)]:List (S37))).bind fun y235=>(if y235.length<8796093022208 then (some ((y235++[(⟨11,0⟩:S37)]),t233,t234)) else (none))) else (none))=some (r1,r2,r3):=H
                     have A32:=A_ A320
                     clear A320
                     by_cases c33:t230.length<8796093022208
                     · as_aux_lemma=>
                       rw[if_pos c33] at H
                       have LMc33:=A_ c33
                       clear c33
                       obtain⟨y235,hy235⟩:∃ y_:List (S37),y_=(t230++[(⟨13,0⟩:S37)]):=⟨_,rfl⟩
                       replace H:(if y235.length<8796093022208 then (some ((y235++[(⟨11,0⟩:S37)]),t233,t234)) else (none))=some (r1,r2,r3):=by first|(rw[hy235];with_reducible exact H)|(have H2_:=(Option.bind_some _ _).symm.trans H;rw[hy235];with_reducible exact H2_)|(have H2_:=(Option.bind_some _ _).symm.trans H;with_reducible exact H2_)|with_reducible exact H|(rw[hy235];exact H)|exact H
                       have Ny235:=A_ hy235
                       clear hy235
                       by_cases c34:y235.length<8796093022208
                       · as_aux_lemma=>
                         rw[if_pos c34] at H
                         have LMc34:=A_ c34
                         clear c34
                         obtain⟨y238,hy238⟩:∃ y_:List (S37),y_=(y235++[(⟨11,0⟩:S37)]):=⟨_,rfl⟩
                         replace H:(some (y238,t233,t234))=some (r1,r2,r3):=by first|(rw[hy238];with_reducible exact H)|(have H2_:=(Option.bind_some _ _).symm.trans H;rw[hy238];with_reducible exact H2_)|(have H2_:=(Option.bind_some _ _).symm.trans H;with_reducible exact H2_)|with_reducible exact H|(rw[hy238];exact H)|exact H
                         have Ny238:=A_ hy238
                         clear hy238
                         simp only[Option.some.injEq,Prod.mk.injEq] at H
                         obtain⟨rfl,rfl,rfl⟩:=H
                         go_wp2_with (first|((with_reducible refine gd_ 44 rfl ?_);refine Kd.R_lit (Kd.int .i64) _ 3 ?hg (N:=44) ?hd (xs:=([2,3]:List Int)) (inner:=[.int .i64 2,.int .i64 3]) (ok:=fun _=>True) (okp:=fun _=>True) ?hr ?hp (fun _ hk=>hk) trivial (Below.refl _ _) (Nat.le_refl _) (by simp) ?_;(case hd=>rfl);(case hg=>rfl);(case hr=>first|(go_simp;done)|(go_simp;rfl));(case hp=>exact(Reps.one (show Kd.M (Kd.int .i64) _ _ _ 2 [.int .i64 2] from rfl) (Reps.one (show Kd.M (Kd.int .i64) _ _ _ 3 [.int .i64 3] from rfl) (Reps.none _ _))));intro v214 w35 ho36 hb hg_ hnew_;clear hg_ hnew_;(first|rw[←Ny213.out] at ho36|(simp only[Int.reduceToNat] at ho36;rw[←Ny213.out] at ho36));have HO215:=A_ (Kd.R_lower (Kd.R_newM (M:=fun k_=>(P1_ k_∨w.heap.size≤k_)) ho36 (by first|exact HK.out.1|exact(show Kept w _ (fun k_=>(P1_ k_)∨k_=g) from y6 HK.out).1) (fun k_ h_=>.inr h_)) (below_size (y2 HB.out)));replace HO_1:=A_ (Kd.R_below (kr_ HO_1.out) hb);replace HI0:=A_ (IsS42.below (y1 HI0.out) hb);replace HK:=A_ (Kept.below (S:=(fun k_=>(P1_ k_)∨k_=g)) (y6 HK.out) hb);replace HB:=A_ (below_step (y2 HB.out) hb);clear hb ho36;obtain⟨Ao37,co37,eo37⟩:=Kd.R_slice HO215.out;subst eo37)|((with_reducible refine gc_ 30 rfl ?_);refine goesL_ (some 45) rfl rfl Try.func30 (by kernel_rfl) rfl #[.pointer (some ⟨g,0,none⟩),.slice Ao37 y213.length co37] rfl ar ?_;(with_reducible refine(spec_l1Cur_among.calls g s0_0 t197 t198 _ _ y213 t216 t217 t218 w0 _ ?side1 ?side2 ?side3 ?side4 ?side5 A27.out).mono ?_);(case side1=>repeat (first|(with_reducible first|exact HI0.out|apply IsS42.alloc|apply IsS42.drewN|apply IsS42.drew|apply IsS42.set_1|apply IsS42.set_2)|exact HI0.out));(case side2=>repeat (first|(with_reducible first|exact HB.out|apply below_alloc|apply pw_below_drewN|apply below_drew1|refine below_set ?_ (IsS42.ge HI0.out))|exact HB.out));(case side3=>repeat (first|exact(Kd.R_reads' HO215.out).2.2|(with_reducible refine Kd.C_alloc ?_ _)|(with_reducible refine Kd.C_drewN ?_ _)|(with_reducible refine Kd.C_drew ?_)));(case side4=>exact(Kd.R_reads' HO215.out).2.1);(case side5=>exact far_slice (IsS42.own_ne HI0.out HO215.out (by decide)));rintro e w38 ⟨rfl,hi,hb,hk⟩;refine⟨_,rfl,?_⟩;replace HO_1:=A_ (Kd.R_mono (Kd.R_keep (IsS42.apart (show IsS42 w0 _ g s0_0 t197 t198 from y1 HI0.out) (kr_ HO_1.out) (by decide)) hk (fun _ h=>h.2)) (fun _ h=>h.1));replace HO215:=A_ (Kd.R_mono (Kd.R_keep (IsS42.apart (show IsS42 w0 _ g s0_0 t197 t198 from y1 HI0.out) (kr_ HO215.out) (by decide)) hk (fun _ h=>h.2)) (fun _ h=>h.1));replace HK:=A_ (Kept.of_keep (S:=(fun k_=>(P1_ k_)∨k_=g)) (y6 HK.out) hk (.inl (.inr rfl)));replace HB:=A_ (hb);replace HI0:=A_ (hi);(try clear hb);(try clear hb2);(try clear hk);(try clear hi))|((with_reducible refine gate_builtin (b:=.append) (xs:=#[.tmp 42,.tmp 47]) rfl ?_);at_builtin;refine Kd.R_append k37 (w0:=w0) w0.heap.size rfl (.tmp 42) (.tmp 47) 23 37 (.agg #[(.int .i64 0),(.int .i64 0)]) 16 rfl Try.underlying23 info37 rfl (by decide) (by omega) (.slice Ao7 l1.length co7) l1 (⟨t216,64⟩:S37) [.int .i64 t216,.int .i64 64] (fun k_=>(P1_ k_∨w.heap.size≤k_)) (fun _=>False) rfl rfl ?aP (fun _ hk=>hk.elim) ?aF ?aO ?aB ?aS ?aL ?_;(case aP=>exact k37_mkM _ _ _ (⟨t216,64⟩:S37));(case aB=>exact(y2 HB.out));(case aF=>exact(fun k_ hk=>(.inr (Nat.le_trans (by first|exact HK.out.1|exact(show Kept w _ (fun k_=>(P1_ k_)∨k_=g) from y6 HK.out).1) hk))));(case aO=>exact(kr_ HO_1.out));(case aS=>exact(below_size (y2 HB.out)));(case aL=>have:=LMc28.out;omega);intro v220 w39 ho hb hg hat;rw[←Ny219.out] at ho;have HO221:=A_ (ho);replace HI0:=A_ (IsS42.grown (y1 HI0.out) hg (IsS42.own_ne HI0.out HO_1.out (by decide)));replace HO215:=A_ (Kd.R_over' (kr_ HO215.out) (Kd.R_typed (kr_ HO_1.out)) (by decide) hg);replace HB:=A_ (hb);replace HK:=A_ (Kept.of_grown (S:=(fun k_=>(P1_ k_)∨k_=g)) hg (y6 HK.out) (fun k_ e_=>Or.imp_left Or.inl ((HO_1.out.1 k_ e_))));clear HO_1;clear ho hb hg hat;obtain⟨Ao40,co40,eo40⟩:=Kd.R_slice HO221.out;subst eo40)|((with_reducible refine gc_ 42 rfl ?_);refine goesL_ (some 55) rfl rfl Try.func42 (by kernel_rfl) rfl #[.pointer (some ⟨g,0,none⟩),.slice Ao40 y219.length co40,.int .i64 64,.int .i64 (wrap64 (x3_5 - 1)),.int .i64 (wrap64 (a4+1))] rfl ar ?_;(with_reducible refine(ih kj14 (by have:=HJ5.out;have:=HJ14.out;omega) g s0_0 t217 t218 (fun k_=>some k_=(.slice Ao40 y219.length co40:Value).ownBlock) (.slice Ao40 y219.length co40) y219 64 (wrap64 (x3_5 - 1)) (wrap64 (a4+1)) t222 t225 t226 w0 _ ?side1 ?side2 ?side3 A29.out).mono ?_);(case side1=>repeat (first|(with_reducible first|exact HI0.out|apply IsS42.alloc|apply IsS42.drewN|apply IsS42.drew|apply IsS42.set_1|apply IsS42.set_2)|exact HI0.out));(case side2=>repeat (first|(with_reducible first|exact HB.out|apply below_alloc|apply pw_below_drewN|apply below_drew1|refine below_set ?_ (IsS42.ge HI0.out))|exact HB.out));(case side3=>exact Kd.R_tight rfl HO221.out);rintro e w41 ⟨v223,rfl,ho0,hi,hb,hkp⟩;refine⟨_,rfl,?_⟩;have HO224:=A_ (Kd.R_mono (ok':=fun k_=>(P1_ k_∨w.heap.size≤k_)) ho0 (fun k_ hk_=>Or.elim hk_ (fun hs_=>(HO221.out.1 k_ (hs_).symm)) (fun hn_=>(.inr (Nat.le_trans (by first|exact HK.out.1|exact(show Kept w _ (fun k_=>(P1_ k_)∨k_=g) from y6 HK.out).1) hn_)))));replace HO215:=A_ (Kd.R_mono (ok':=fun k_=>(P1_ k_∨w.heap.size≤k_)) (Kd.R_keptB ((IsS42.apart HI0.out (Kd.R_apart' HO215.out (Kd.R_typed HO221.out) (by decide)) (by decide))) hkp (fun k_ hk_ hs_=>Or.elim hs_ (fun hs_=>(hk_.1.2) hs_) (fun e_=>(hk_.2) e_))) (fun k_ hk_=>hk_.1.1.1.1));replace HI0:=A_ (hi);replace HK:=A_ (Kept.then_ (S:=(fun k_=>(P1_ k_)∨k_=g)) (y6 HK.out) hkp (fun k_ hs_=>Or.elim hs_ (fun hs_=>(fun e_=>Or.imp_left Or.inl ((HO221.out.1 k_ e_.symm))) hs_) (fun e_=>.inl (.inr e_))));replace HB:=A_ (hb);clear HO221;(try clear hb);(try clear hkp);(try clear ho0))|((with_reducible refine gc_ 13 rfl ?_);refine goesL_ (some 57) rfl rfl Try.func13 (by kernel_rfl) rfl #[.pointer (some ⟨g,0,none⟩),.int .i64 2] rfl ar ?_;(with_reducible refine(spec_l1Cur_one.calls g s0_0 t225 t226 2 true t228 t229 w0 _ ?side1 ?side2 A30.out).mono ?_);(case side1=>repeat (first|(with_reducible first|exact HI0.out|apply IsS42.alloc|apply IsS42.drewN|apply IsS42.drew|apply IsS42.set_1|apply IsS42.set_2)|exact HI0.out));(case side2=>repeat (first|(with_reducible first|exact HB.out|apply below_alloc|apply pw_below_drewN|apply below_drew1|refine below_set ?_ (IsS42.ge HI0.out))|exact HB.out));rintro e w42 ⟨rfl,hi,hb,hk⟩;refine⟨_,rfl,?_⟩;replace HO215:=A_ (Kd.R_mono (Kd.R_keep (IsS42.apart (show IsS42 w0 _ g s0_0 t225 t226 from y1 HI0.out) (kr_ HO215.out) (by decide)) hk (fun _ h=>h.2)) (fun _ h=>h.1));replace HO224:=A_ (Kd.R_mono (Kd.R_keep (IsS42.apart (show IsS42 w0 _ g s0_0 t225 t226 from y1 HI0.out) (kr_ HO224.out) (by decide)) hk (fun _ h=>h.2)) (fun _ h=>h.1));replace HK:=A_ (Kept.of_keep (S:=(fun k_=>(P1_ k_)∨k_=g)) (y6 HK.out) hk (.inl (.inr rfl)));replace HB:=A_ (hb);replace HI0:=A_ (hi);(try clear hb);(try clear hb2);(try clear hk);(try clear hi);obtain⟨Ao43,co43,eo43⟩:=Kd.R_slice HO224.out;subst eo43)|((with_reducible refine gc_ 42 rfl ?_);refine goesL_ (some 62) rfl rfl Try.func42 (by kernel_rfl) rfl #[.pointer (some ⟨g,0,none⟩),.slice Ao43 t222.length co43,.int .i64 127,.int .i64 0,.int .i64 (wrap64 (a4+1))] rfl ar ?_;(with_reducible refine(ih kj14 (by have:=HJ5.out;have:=HJ14.out;omega) g s0_0 t228 t229 (fun k_=>some k_=(.slice Ao43 t222.length co43:Value).ownBlock) (.slice Ao43 t222.length co43) t222 127 0 (wrap64 (a4+1)) t230 t233 t234 w0 _ ?side1 ?side2 ?side3 A32.out).mono ?_);(case side1=>repeat (first|(with_reducible first|exact HI0.out|apply IsS42.alloc|apply IsS42.drewN|apply IsS42.drew|apply IsS42.set_1|apply IsS42.set_2)|exact HI0.out));(case side2=>repeat (first|(with_reducible first|exact HB.out|apply below_alloc|apply pw_below_drewN|apply below_drew1|refine below_set ?_ (IsS42.ge HI0.out))|exact HB.out));(case side3=>exact Kd.R_tight rfl HO224.out);rintro e w44 ⟨v231,rfl,ho0,hi,hb,hkp⟩;refine⟨_,rfl,?_⟩;have HO232:=A_ (Kd.R_mono (ok':=fun k_=>(P1_ k_∨w.heap.size≤k_)) ho0 (fun k_ hk_=>Or.elim hk_ (fun hs_=>(HO224.out.1 k_ (hs_).symm)) (fun hn_=>(.inr (Nat.le_trans (by first|exact HK.out.1|exact(show Kept w _ (fun k_=>(P1_ k_)∨k_=g) from y6 HK.out).1) hn_)))));replace HO215:=A_ (Kd.R_mono (ok':=fun k_=>(P1_ k_∨w.heap.size≤k_)) (Kd.R_keptB ((IsS42.apart HI0.out (Kd.R_apart' HO215.out (Kd.R_typed HO224.out) (by decide)) (by decide))) hkp (fun k_ hk_ hs_=>Or.elim hs_ (fun hs_=>(hk_.1.2) hs_) (fun e_=>(hk_.2) e_))) (fun k_ hk_=>hk_.1.1.1));replace HI0:=A_ (hi);replace HK:=A_ (Kept.then_ (S:=(fun k_=>(P1_ k_)∨k_=g)) (y6 HK.out) hkp (fun k_ hs_=>Or.elim hs_ (fun hs_=>(fun e_=>Or.imp_left Or.inl ((HO224.out.1 k_ e_.symm))) hs_) (fun e_=>.inl (.inr e_))));replace HB:=A_ (hb);clear HO224;(try clear hb);(try clear hkp);(try clear ho0))|((with_reducible refine gate_builtin (b:=.append) (xs:=#[.tmp 62,.tmp 64]) rfl ?_);at_builtin;refine Kd.R_append k37 (w0:=w0) w0.heap.size rfl (.tmp 62) (.tmp 64) 23 37 (.agg #[(.int .i64 0),(.int .i64 0)]) 16 rfl Try.underlying23 info37 rfl (by decide) (by omega) v231 t230 (⟨13,0⟩:S37) [.int .i64 13,.int .i64 0] (fun k_=>(P1_ k_∨w.heap.size≤k_)) (fun _=>False) rfl rfl ?aP (fun _ hk=>hk.elim) ?aF ?aO ?aB ?aS ?aL ?_;(case aP=>exact k37_mkM _ _ _ (⟨13,0⟩:S37));(case aB=>exact(y2 HB.out));(case aF=>exact(fun k_ hk=>(.inr (Nat.le_trans (by first|exact HK.out.1|exact(show Kept w _ (fun k_=>(P1_ k_)∨k_=g) from y6 HK.out).1) hk))));(case aO=>exact(kr_ HO232.out));(case aS=>exact(below_size (y2 HB.out)));(case aL=>have:=LMc33.out;omega);intro v236 w45 ho hb hg hat;rw[←Ny235.out] at ho;have HO237:=A_ (ho);replace HI0:=A_ (IsS42.grown (y1 HI0.out) hg (IsS42.own_ne HI0.out HO232.out (by decide)));replace HO215:=A_ (Kd.R_over' (kr_ HO215.out) (Kd.R_typed (kr_ HO232.out)) (by decide) hg);replace HB:=A_ (hb);replace HK:=A_ (Kept.of_grown (S:=(fun k_=>(P1_ k_)∨k_=g)) hg (y6 HK.out) (fun k_ e_=>Or.imp_left Or.inl ((HO232.out.1 k_ e_))));clear HO232;clear ho hb hg hat)|((with_reducible refine gate_builtin (b:=.append) (xs:=#[.tmp 66,.tmp 68]) rfl ?_);at_builtin;refine Kd.R_append k37 (w0:=w0) w0.heap.size rfl (.tmp 66) (.tmp 68) 23 37 (.agg #[(.int .i64 0),(.int .i64 0)]) 16 rfl Try.underlying23 info37 rfl (by decide) (by omega) v236 y235 (⟨11,0⟩:S37) [.int .i64 11,.int .i64 0] (fun k_=>(P1_ k_∨w.heap.size≤k_)) (fun _=>False) rfl rfl ?aP (fun _ hk=>hk.elim) ?aF ?aO ?aB ?aS ?aL ?_;(case aP=>exact k37_mkM _ _ _ (⟨11,0⟩:S37));(case aB=>exact(y2 HB.out));(case aF=>exact(fun k_ hk=>(.inr (Nat.le_trans (by first|exact HK.out.1|exact(show Kept w _ (fun k_=>(P1_ k_)∨k_=g) from y6 HK.out).1) hk))));(case aO=>exact(kr_ HO237.out));(case aS=>exact(below_size (y2 HB.out)));(case aL=>have:=LMc34.out;omega);intro v239 w46 ho hb hg hat;rw[←Ny238.out] at ho;have HO240:=A_ (ho);replace HI0:=A_ (IsS42.grown (y1 HI0.out) hg (IsS42.own_ne HI0.out HO237.out (by decide)));replace HO215:=A_ (Kd.R_over' (kr_ HO215.out) (Kd.R_typed (kr_ HO237.out)) (by decide) hg);replace HB:=A_ (hb);replace HK:=A_ (Kept.of_grown (S:=(fun k_=>(P1_ k_)∨k_=g)) hg (y6 HK.out) (fun k_ e_=>Or.imp_left Or.inl ((HO237.out.1 k_ e_))));clear HO237;clear ho hb hg hat))
                         go_ret
                         exact⟨_,rr_,kr_ HO240.out,y1 HI0.out,y2 HB.out,y6 HK.out⟩
                       rw[if_neg c34] at H
                       exact absurd H (by simp)
                     rw[if_neg c33] at H
                     exact absurd H (by simp)
                   · as_aux_lemma=>
                     replace c31:=Bool.eq_false_iff.mpr c31
                     subst c31
                     replace H:=iF_ H
                     by_cases c47:t222.length<8796093022208
                     · as_aux_lemma=>
                       rw[if_pos c47] at H
                       have LMc47:=A_ c47
                       clear c47
                       obtain⟨y241,hy241⟩:∃ y_:List (S37),y_=(t222++[(⟨11,0⟩:S37)]):=⟨_,rfl⟩
                       replace H:(some (y241,t228,t229))=some (r1,r2,r3):=by first|(rw[hy241];with_reducible exact H)|(have H2_:=(Option.bind_some _ _).symm.trans H;rw[hy241];with_reducible exact H2_)|(have H2_:=(Option.bind_some _ _).symm.trans H;with_reducible exact H2_)|with_reducible exact H|(rw[hy241];exact H)|exact H
                       have Ny241:=A_ hy241
                       clear hy241
                       simp only[Option.some.injEq,Prod.mk.injEq] at H
                       obtain⟨rfl,rfl,rfl⟩:=H
                       go_wp2_with (first|((with_reducible refine gd_ 44 rfl ?_);refine Kd.R_lit (Kd.int .i64) _ 3 ?hg (N:=44) ?hd (xs:=([2,3]:List Int)) (inner:=[.int .i64 2,.int .i64 3]) (ok:=fun _=>True) (okp:=fun _=>True) ?hr ?hp (fun _ hk=>hk) trivial (Below.refl _ _) (Nat.le_refl _) (by simp) ?_;(case hd=>rfl);(case hg=>rfl);(case hr=>first|(go_simp;done)|(go_simp;rfl));(case hp=>exact(Reps.one (show Kd.M (Kd.int .i64) _ _ _ 2 [.int .i64 2] from rfl) (Reps.one (show Kd.M (Kd.int .i64) _ _ _ 3 [.int .i64 3] from rfl) (Reps.none _ _))));intro v214 w48 ho49 hb hg_ hnew_;clear hg_ hnew_;(first|rw[←Ny213.out] at ho49|(simp only[Int.reduceToNat] at ho49;rw[←Ny213.out] at ho49));have HO215:=A_ (Kd.R_lower (Kd.R_newM (M:=fun k_=>(P1_ k_∨w.heap.size≤k_)) ho49 (by first|exact HK.out.1|exact(show Kept w _ (fun k_=>(P1_ k_)∨k_=g) from y6 HK.out).1) (fun k_ h_=>.inr h_)) (below_size (y2 HB.out)));replace HO_1:=A_ (Kd.R_below (kr_ HO_1.out) hb);replace HI0:=A_ (IsS42.below (y1 HI0.out) hb);replace HK:=A_ (Kept.below (S:=(fun k_=>(P1_ k_)∨k_=g)) (y6 HK.out) hb);replace HB:=A_ (below_step (y2 HB.out) hb);clear hb ho49;obtain⟨Ao50,co50,eo50⟩:=Kd.R_slice HO215.out;subst eo50)|((with_reducible refine gc_ 30 rfl ?_);refine goesL_ (some 45) rfl rfl Try.func30 (by kernel_rfl) rfl #[.pointer (some ⟨g,0,none⟩),.slice Ao50 y213.length co50] rfl ar ?_;(with_reducible refine(spec_l1Cur_among.calls g s0_0 t197 t198 _ _ y213 t216 t217 t218 w0 _ ?side1 ?side2 ?side3 ?side4 ?side5 A27.out).mono ?_);(case side1=>repeat (first|(with_reducible first|exact HI0.out|apply IsS42.alloc|apply IsS42.drewN|apply IsS42.drew|apply IsS42.set_1|apply IsS42.set_2)|exact HI0.out));(case side2=>repeat (first|(with_reducible first|exact HB.out|apply below_alloc|apply pw_below_drewN|apply below_drew1|refine below_set ?_ (IsS42.ge HI0.out))|exact HB.out));(case side3=>repeat (first|exact(Kd.R_reads' HO215.out).2.2|(with_reducible refine Kd.C_alloc ?_ _)|(with_reducible refine Kd.C_drewN ?_ _)|(with_reducible refine Kd.C_drew ?_)));(case side4=>exact(Kd.R_reads' HO215.out).2.1);(case side5=>exact far_slice (IsS42.own_ne HI0.out HO215.out (by decide)));rintro e w51 ⟨rfl,hi,hb,hk⟩;refine⟨_,rfl,?_⟩;replace HO_1:=A_ (Kd.R_mono (Kd.R_keep (IsS42.apart (show IsS42 w0 _ g s0_0 t197 t198 from y1 HI0.out) (kr_ HO_1.out) (by decide)) hk (fun _ h=>h.2)) (fun _ h=>h.1));replace HO215:=A_ (Kd.R_mono (Kd.R_keep (IsS42.apart (show IsS42 w0 _ g s0_0 t197 t198 from y1 HI0.out) (kr_ HO215.out) (by decide)) hk (fun _ h=>h.2)) (fun _ h=>h.1));replace HK:=A_ (Kept.of_keep (S:=(fun k_=>(P1_ k_)∨k_=g)) (y6 HK.out) hk (.inl (.inr rfl)));replace HB:=A_ (hb);replace HI0:=A_ (hi);(try clear hb);(try clear hb2);(try clear hk);(try clear hi))|((with_reducible refine gate_builtin (b:=.append) (xs:=#[.tmp 42,.tmp 47]) rfl ?_);at_builtin;refine Kd.R_append k37 (w0:=w0) w0.heap.size rfl (.tmp 42) (.tmp 47) 23 37 (.agg #[(.int .i64 0),(.int .i64 0)]) 16 rfl Try.underlying23 info37 rfl (by decide) (by omega) (.slice Ao7 l1.length co7) l1 (⟨t216,64⟩:S37) [.int .i64 t216,.int .i64 64] (fun k_=>(P1_ k_∨w.heap.size≤k_)) (fun _=>False) rfl rfl ?aP (fun _ hk=>hk.elim) ?aF ?aO ?aB ?aS ?aL ?_;(case aP=>exact k37_mkM _ _ _ (⟨t216,64⟩:S37));(case aB=>exact(y2 HB.out));(case aF=>exact(fun k_ hk=>(.inr (Nat.le_trans (by first|exact HK.out.1|exact(show Kept w _ (fun k_=>(P1_ k_)∨k_=g) from y6 HK.out).1) hk))));(case aO=>exact(kr_ HO_1.out));(case aS=>exact(below_size (y2 HB.out)));(case aL=>have:=LMc28.out;omega);intro v220 w52 ho hb hg hat;rw[←Ny219.out] at ho;have HO221:=A_ (ho);replace HI0:=A_ (IsS42.grown (y1 HI0.out) hg (IsS42.own_ne HI0.out HO_1.out (by decide)));replace HO215:=A_ (Kd.R_over' (kr_ HO215.out) (Kd.R_typed (kr_ HO_1.out)) (by decide) hg);replace HB:=A_ (hb);replace HK:=A_ (Kept.of_grown (S:=(fun k_=>(P1_ k_)∨k_=g)) hg (y6 HK.out) (fun k_ e_=>Or.imp_left Or.inl ((HO_1.out.1 k_ e_))));clear HO_1;clear ho hb hg hat;obtain⟨Ao53,co53,eo53⟩:=Kd.R_slice HO221.out;subst eo53)|((with_reducible refine gc_ 42 rfl ?_);refine goesL_ (some 55) rfl rfl Try.func42 (by kernel_rfl) rfl #[.pointer (some ⟨g,0,none⟩),.slice Ao53 y219.length co53,.int .i64 64,.int .i64 (wrap64 (x3_5 - 1)),.int .i64 (wrap64 (a4+1))] rfl ar ?_;(with_reducible refine(ih kj14 (by have:=HJ5.out;have:=HJ14.out;omega) g s0_0 t217 t218 (fun k_=>some k_=(.slice Ao53 y219.length co53:Value).ownBlock) (.slice Ao53 y219.length co53) y219 64 (wrap64 (x3_5 - 1)) (wrap64 (a4+1)) t222 t225 t226 w0 _ ?side1 ?side2 ?side3 A29.out).mono ?_);(case side1=>repeat (first|(with_reducible first|exact HI0.out|apply IsS42.alloc|apply IsS42.drewN|apply IsS42.drew|apply IsS42.set_1|apply IsS42.set_2)|exact HI0.out));(case side2=>repeat (first|(with_reducible first|exact HB.out|apply below_alloc|apply pw_below_drewN|apply below_drew1|refine below_set ?_ (IsS42.ge HI0.out))|exact HB.out));(case side3=>exact Kd.R_tight rfl HO221.out);rintro e w54 ⟨v223,rfl,ho0,hi,hb,hkp⟩;refine⟨_,rfl,?_⟩;have HO224:=A_ (Kd.R_mono (ok':=fun k_=>(P1_ k_∨w.heap.size≤k_)) ho0 (fun k_ hk_=>Or.elim hk_ (fun hs_=>(HO221.out.1 k_ (hs_).symm)) (fun hn_=>(.inr (Nat.le_trans (by first|exact HK.out.1|exact(show Kept w _ (fun k_=>(P1_ k_)∨k_=g) from y6 HK.out).1) hn_)))));replace HO215:=A_ (Kd.R_mono (ok':=fun k_=>(P1_ k_∨w.heap.size≤k_)) (Kd.R_keptB ((IsS42.apart HI0.out (Kd.R_apart' HO215.out (Kd.R_typed HO221.out) (by decide)) (by decide))) hkp (fun k_ hk_ hs_=>Or.elim hs_ (fun hs_=>(hk_.1.2) hs_) (fun e_=>(hk_.2) e_))) (fun k_ hk_=>hk_.1.1.1.1));replace HI0:=A_ (hi);replace HK:=A_ (Kept.then_ (S:=(fun k_=>(P1_ k_)∨k_=g)) (y6 HK.out) hkp (fun k_ hs_=>Or.elim hs_ (fun hs_=>(fun e_=>Or.imp_left Or.inl ((HO221.out.1 k_ e_.symm))) hs_) (fun e_=>.inl (.inr e_))));replace HB:=A_ (hb);clear HO221;(try clear hb);(try clear hkp);(try clear ho0))|((with_reducible refine gc_ 13 rfl ?_);refine goesL_ (some 57) rfl rfl Try.func13 (by kernel_rfl) rfl #[.pointer (some ⟨g,0,none⟩),.int .i64 2] rfl ar ?_;(with_reducible refine(spec_l1Cur_one.calls g s0_0 t225 t226 2 false t228 t229 w0 _ ?side1 ?side2 A30.out).mono ?_);(case side1=>repeat (first|(with_reducible first|exact HI0.out|apply IsS42.alloc|apply IsS42.drewN|apply IsS42.drew|apply IsS42.set_1|apply IsS42.set_2)|exact HI0.out));(case side2=>repeat (first|(with_reducible first|exact HB.out|apply below_alloc|apply pw_below_drewN|apply below_drew1|refine below_set ?_ (IsS42.ge HI0.out))|exact HB.out));rintro e w55 ⟨rfl,hi,hb,hk⟩;refine⟨_,rfl,?_⟩;replace HO215:=A_ (Kd.R_mono (Kd.R_keep (IsS42.apart (show IsS42 w0 _ g s0_0 t225 t226 from y1 HI0.out) (kr_ HO215.out) (by decide)) hk (fun _ h=>h.2)) (fun _ h=>h.1));replace HO224:=A_ (Kd.R_mono (Kd.R_keep (IsS42.apart (show IsS42 w0 _ g s0_0 t225 t226 from y1 HI0.out) (kr_ HO224.out) (by decide)) hk (fun _ h=>h.2)) (fun _ h=>h.1));replace HK:=A_ (Kept.of_keep (S:=(fun k_=>(P1_ k_)∨k_=g)) (y6 HK.out) hk (.inl (.inr rfl)));replace HB:=A_ (hb);replace HI0:=A_ (hi);(try clear hb);(try clear hb2);(try clear hk);(try clear hi))|((with_reducible refine gate_builtin (b:=.append) (xs:=#[.tmp 66,.tmp 68]) rfl ?_);at_builtin;refine Kd.R_append k37 (w0:=w0) w0.heap.size rfl (.tmp 66) (.tmp 68) 23 37 (.agg #[(.int .i64 0),(.int .i64 0)]) 16 rfl Try.underlying23 info37 rfl (by decide) (by omega) v223 t222 (⟨11,0⟩:S37) [.int .i64 11,.int .i64 0] (fun k_=>(P1_ k_∨w.heap.size≤k_)) (fun _=>False) rfl rfl ?aP (fun _ hk=>hk.elim) ?aF ?aO ?aB ?aS ?aL ?_;(case aP=>exact k37_mkM _ _ _ (⟨11,0⟩:S37));(case aB=>exact(y2 HB.out));(case aF=>exact(fun k_ hk=>(.inr (Nat.le_trans (by first|exact HK.out.1|exact(show Kept w _ (fun k_=>(P1_ k_)∨k_=g) from y6 HK.out).1) hk))));(case aO=>exact(kr_ HO224.out));(case aS=>exact(below_size (y2 HB.out)));(case aL=>have:=LMc47.out;omega);intro v242 w56 ho hb hg hat;rw[←Ny241.out] at ho;have HO243:=A_ (ho);replace HI0:=A_ (IsS42.grown (y1 HI0.out) hg (IsS42.own_ne HI0.out HO224.out (by decide)));replace HO215:=A_ (Kd.R_over' (kr_ HO215.out) (Kd.R_typed (kr_ HO224.out)) (by decide) hg);replace HB:=A_ (hb);replace HK:=A_ (Kept.of_grown (S:=(fun k_=>(P1_ k_)∨k_=g)) hg (y6 HK.out) (fun k_ e_=>Or.imp_left Or.inl ((HO224.out.1 k_ e_))));clear HO224;clear ho hb hg hat))
                       go_ret
                       exact⟨_,rr_,kr_ HO243.out,y1 HI0.out,y2 HB.out,y6 HK.out⟩
                     rw[if_neg c47] at H
                     exact absurd H (by simp)
                 rw[if_neg c28] at H
                 exact absurd H (by simp)
               · as_aux_lemma=>
                 rw[if_neg c26] at H
                 have c26b0:=decide_eq_false c26
                 clear c26
                 replace H:=Option.bind_eq_some_iff.mp H
                 obtain⟨⟨t244,t247,t248⟩,A570,H⟩:=H
                 replace H:(if t244.length<8796093022208 then (some ((t244++[(⟨26,0⟩:S37)]),t247,t248)) else (none))=some (r1,r2,r3):=H
                 have A57:=A_ A570
                 clear A570
                 by_cases c58:t244.length<8796093022208
                 · as_aux_lemma=>
                   rw[if_pos c58] at H
                   have LMc58:=A_ c58
                   clear c58
                   obtain⟨y249,hy249⟩:∃ y_:List (S37),y_=(t244++[(⟨26,0⟩:S37)]):=⟨_,rfl⟩
                   replace H:(some (y249,t247,t248))=some (r1,r2,r3):=by first|(rw[hy249];with_reducible exact H)|(have H2_:=(Option.bind_some _ _).symm.trans H;rw[hy249];with_reducible exact H2_)|(have H2_:=(Option.bind_some _ _).symm.trans H;with_reducible exact H2_)|with_reducible exact H|(rw[hy249];exact H)|exact H
                   have Ny249:=A_ hy249
                   clear hy249
                   simp only[Option.some.injEq,Prod.mk.injEq] at H
                   obtain⟨rfl,rfl,rfl⟩:=H
                   go_wp2_with (first|((with_reducible refine gc_ 42 rfl ?_);refine goesL_ (some 106) rfl rfl Try.func42 (by kernel_rfl) rfl #[.pointer (some ⟨g,0,none⟩),.slice Ao7 l1.length co7,.int .i64 127,.int .i64 (wrap64 (x3_5 - 1)),.int .i64 a4] rfl ar ?_;(with_reducible refine(ih kj14 (by have:=HJ5.out;have:=HJ14.out;omega) g s0_0 t197 t198 (fun k_=>some k_=(.slice Ao7 l1.length co7:Value).ownBlock) (.slice Ao7 l1.length co7) l1 127 (wrap64 (x3_5 - 1)) a4 t244 t247 t248 w0 _ ?side1 ?side2 ?side3 A57.out).mono ?_);(case side1=>repeat (first|(with_reducible first|exact HI0.out|apply IsS42.alloc|apply IsS42.drewN|apply IsS42.drew|apply IsS42.set_1|apply IsS42.set_2)|exact HI0.out));(case side2=>repeat (first|(with_reducible first|exact HB.out|apply below_alloc|apply pw_below_drewN|apply below_drew1|refine below_set ?_ (IsS42.ge HI0.out))|exact HB.out));(case side3=>exact Kd.R_tight rfl HO_1.out);rintro e w59 ⟨v245,rfl,ho0,hi,hb,hkp⟩;refine⟨_,rfl,?_⟩;have HO246:=A_ (Kd.R_mono (ok':=fun k_=>(P1_ k_∨w.heap.size≤k_)) ho0 (fun k_ hk_=>Or.elim hk_ (fun hs_=>(HO_1.out.1 k_ (hs_).symm)) (fun hn_=>(.inr (Nat.le_trans (by first|exact HK.out.1|exact(show Kept w _ (fun k_=>(P1_ k_)∨k_=g) from y6 HK.out).1) hn_)))));replace HI0:=A_ (hi);replace HK:=A_ (Kept.then_ (S:=(fun k_=>(P1_ k_)∨k_=g)) (y6 HK.out) hkp (fun k_ hs_=>Or.elim hs_ (fun hs_=>(fun e_=>Or.imp_left Or.inl ((HO_1.out.1 k_ e_.symm))) hs_) (fun e_=>.inl (.inr e_))));replace HB:=A_ (hb);clear HO_1;(try clear hb);(try clear hkp);(try clear ho0))|((with_reducible refine gate_builtin (b:=.append) (xs:=#[.tmp 106,.tmp 108]) rfl ?_);at_builtin;refine Kd.R_append k37 (w0:=w0) w0.heap.size rfl (.tmp 106) (.tmp 108) 23 37 (.agg #[(.int .i64 0),(.int .i64 0)]) 16 rfl Try.underlying23 info37 rfl (by decide) (by omega) v245 t244 (⟨26,0⟩:S37) [.int .i64 26,.int .i64 0] (fun k_=>(P1_ k_∨w.heap.size≤k_)) (fun _=>False) rfl rfl ?aP (fun _ hk=>hk.elim) ?aF ?aO ?aB ?aS ?aL ?_;(case aP=>exact k37_mkM _ _ _ (⟨26,0⟩:S37));(case aB=>exact(y2 HB.out));(case aF=>exact(fun k_ hk=>(.inr (Nat.le_trans (by first|exact HK.out.1|exact(show Kept w _ (fun k_=>(P1_ k_)∨k_=g) from y6 HK.out).1) hk))));(case aO=>exact(kr_ HO246.out));(case aS=>exact(below_size (y2 HB.out)));(case aL=>have:=LMc58.out;omega);intro v250 w60 ho hb hg hat;rw[←Ny249.out] at ho;have HO251:=A_ (ho);replace HI0:=A_ (IsS42.grown (y1 HI0.out) hg (IsS42.own_ne HI0.out HO246.out (by decide)));replace HB:=A_ (hb);replace HK:=A_ (Kept.of_grown (S:=(fun k_=>(P1_ k_)∨k_=g)) hg (y6 HK.out) (fun k_ e_=>Or.imp_left Or.inl ((HO246.out.1 k_ e_))));clear HO246;clear ho hb hg hat))
                   go_ret
                   exact⟨_,rr_,kr_ HO251.out,y1 HI0.out,y2 HB.out,y6 HK.out⟩
                 rw[if_neg c58] at H
                 exact absurd H (by simp)
             · as_aux_lemma=>
               rw[if_neg c25] at H
               obtain⟨c25b0,c25b1⟩:=eF_ c25
               by_cases c61:t196=4
               · as_aux_lemma=>
                 rw[if_pos c61] at H
                 obtain⟨c61b0,c61b1⟩:=eT_ c61
                 clear c61
                 replace H:=Option.bind_eq_some_iff.mp H
                 obtain⟨⟨t252,t253,t254⟩,A620,H⟩:=H
                 replace H:(if l1.length<8796093022208 then ((spec_l1Cur_gen.f kj14 s0_0 t253 t254 (l1++[(⟨65,t252⟩:S37)]) 127 (wrap64 (x3_5 - 1)) a4).bind fun bt258=>((spec_l1Cur_pick.f s0_0 bt258.2.1 bt258.2.2 9).bind fun bt263=>(if bt258.1.length<8796093022208 then (some ((bt258.1++[(⟨54,bt263.1⟩:S37)]),bt263.2.1,bt263.2.2)) else (none)))) else (none))=some (r1,r2,r3):=H
                 have A62:=A_ A620
                 clear A620
                 by_cases c63:l1.length<8796093022208
                 · as_aux_lemma=>
                   rw[if_pos c63] at H
                   have LMc63:=A_ c63
                   clear c63
                   obtain⟨y255,hy255⟩:∃ y_:List (S37),y_=(l1++[(⟨65,t252⟩:S37)]):=⟨_,rfl⟩
                   replace H:((spec_l1Cur_gen.f kj14 s0_0 t253 t254 y255 127 (wrap64 (x3_5 - 1)) a4).bind fun bt258=>((spec_l1Cur_pick.f s0_0 bt258.2.1 bt258.2.2 9).bind fun bt263=>(if bt258.1.length<8796093022208 then (some ((bt258.1++[(⟨54,bt263.1⟩:S37)]),bt263.2.1,bt263.2.2)) else (none))))=some (r1,r2,r3):=by first|(rw[hy255];with_reducible exact H)|(have H2_:=(Option.bind_some _ _).symm.trans H;rw[hy255];with_reducible exact H2_)|(have H2_:=(Option.bind_some _ _).symm.trans H;with_reducible exact H2_)|with_reducible exact H|(rw[hy255];exact H)|exact H
                   have Ny255:=A_ hy255
                   clear hy255
                   replace H:=Option.bind_eq_some_iff.mp H
                   obtain⟨⟨t258,t261,t262⟩,A640,H⟩:=H
                   replace H:((spec_l1Cur_pick.f s0_0 t261 t262 9).bind fun bt263=>(if t258.length<8796093022208 then (some ((t258++[(⟨54,bt263.1⟩:S37)]),bt263.2.1,bt263.2.2)) else (none)))=some (r1,r2,r3):=H
                   have A64:=A_ A640
                   clear A640
                   replace H:=Option.bind_eq_some_iff.mp H
                   obtain⟨⟨t263,t264,t265⟩,A650,H⟩:=H
                   replace H:(if t258.length<8796093022208 then (some ((t258++[(⟨54,t263⟩:S37)]),t264,t265)) else (none))=some (r1,r2,r3):=H
                   have A65:=A_ A650
                   clear A650
                   by_cases c66:t258.length<8796093022208
                   · as_aux_lemma=>
                     rw[if_pos c66] at H
                     have LMc66:=A_ c66
                     clear c66
                     obtain⟨y266,hy266⟩:∃ y_:List (S37),y_=(t258++[(⟨54,t263⟩:S37)]):=⟨_,rfl⟩
                     replace H:(some (y266,t264,t265))=some (r1,r2,r3):=by first|(rw[hy266];with_reducible exact H)|(have H2_:=(Option.bind_some _ _).symm.trans H;rw[hy266];with_reducible exact H2_)|(have H2_:=(Option.bind_some _ _).symm.trans H;with_reducible exact H2_)|with_reducible exact H|(rw[hy266];exact H)|exact H
                     have Ny266:=A_ hy266
                     clear hy266
                     simp only[Option.some.injEq,Prod.mk.injEq] at H
                     obtain⟨rfl,rfl,rfl⟩:=H
                     go_wp2_with (first|((with_reducible refine gc_ 14 rfl ?_);refine goesL_ (some 74) rfl rfl Try.func14 (by kernel_rfl) rfl #[.pointer (some ⟨g,0,none⟩),.int .i64 300] rfl ar ?_;(with_reducible refine(spec_l1Cur_pick.calls g s0_0 t197 t198 300 t252 t253 t254 w0 _ ?side1 ?side2 A62.out).mono ?_);(case side1=>repeat (first|(with_reducible first|exact HI0.out|apply IsS42.alloc|apply IsS42.drewN|apply IsS42.drew|apply IsS42.set_1|apply IsS42.set_2)|exact HI0.out));(case side2=>repeat (first|(with_reducible first|exact HB.out|apply below_alloc|apply pw_below_drewN|apply below_drew1|refine below_set ?_ (IsS42.ge HI0.out))|exact HB.out));rintro e w67 ⟨rfl,hi,hb,hk⟩;refine⟨_,rfl,?_⟩;replace HO_1:=A_ (Kd.R_mono (Kd.R_keep (IsS42.apart (show IsS42 w0 _ g s0_0 t197 t198 from y1 HI0.out) (kr_ HO_1.out) (by decide)) hk (fun _ h=>h.2)) (fun _ h=>h.1));replace HK:=A_ (Kept.of_keep (S:=(fun k_=>(P1_ k_)∨k_=g)) (y6 HK.out) hk (.inl (.inr rfl)));replace HB:=A_ (hb);replace HI0:=A_ (hi);(try clear hb);(try clear hb2);(try clear hk);(try clear hi))|((with_reducible refine gate_builtin (b:=.append) (xs:=#[.tmp 72,.tmp 76]) rfl ?_);at_builtin;refine Kd.R_append k37 (w0:=w0) w0.heap.size rfl (.tmp 72) (.tmp 76) 23 37 (.agg #[(.int .i64 0),(.int .i64 0)]) 16 rfl Try.underlying23 info37 rfl (by decide) (by omega) (.slice Ao7 l1.length co7) l1 (⟨65,t252⟩:S37) [.int .i64 65,.int .i64 t252] (fun k_=>(P1_ k_∨w.heap.size≤k_)) (fun _=>False) rfl rfl ?aP (fun _ hk=>hk.elim) ?aF ?aO ?aB ?aS ?aL ?_;(case aP=>exact k37_mkM _ _ _ (⟨65,t252⟩:S37));(case aB=>exact(y2 HB.out));(case aF=>exact(fun k_ hk=>(.inr (Nat.le_trans (by first|exact HK.out.1|exact(show Kept w _ (fun k_=>(P1_ k_)∨k_=g) from y6 HK.out).1) hk))));(case aO=>exact(kr_ HO_1.out));(case aS=>exact(below_size (y2 HB.out)));(case aL=>have:=LMc63.out;omega);intro v256 w68 ho hb hg hat;rw[←Ny255.out] at ho;have HO257:=A_ (ho);replace HI0:=A_ (IsS42.grown (y1 HI0.out) hg (IsS42.own_ne HI0.out HO_1.out (by decide)));replace HB:=A_ (hb);replace HK:=A_ (Kept.of_grown (S:=(fun k_=>(P1_ k_)∨k_=g)) hg (y6 HK.out) (fun k_ e_=>Or.imp_left Or.inl ((HO_1.out.1 k_ e_))));clear HO_1;clear ho hb hg hat;obtain⟨Ao69,co69,eo69⟩:=Kd.R_slice HO257.out;subst eo69)|((with_reducible refine gc_ 42 rfl ?_);refine goesL_ (some 83) rfl rfl Try.func42 (by kernel_rfl) rfl #[.pointer (some ⟨g,0,none⟩),.slice Ao69 y255.length co69,.int .i64 127,.int .i64 (wrap64 (x3_5 - 1)),.int .i64 a4] rfl ar ?_;(with_reducible refine(ih kj14 (by have:=HJ5.out;have:=HJ14.out;omega) g s0_0 t253 t254 (fun k_=>some k_=(.slice Ao69 y255.length co69:Value).ownBlock) (.slice Ao69 y255.length co69) y255 127 (wrap64 (x3_5 - 1)) a4 t258 t261 t262 w0 _ ?side1 ?side2 ?side3 A64.out).mono ?_);(case side1=>repeat (first|(with_reducible first|exact HI0.out|apply IsS42.alloc|apply IsS42.drewN|apply IsS42.drew|apply IsS42.set_1|apply IsS42.set_2)|exact HI0.out));(case side2=>repeat (first|(with_reducible first|exact HB.out|apply below_alloc|apply pw_below_drewN|apply below_drew1|refine below_set ?_ (IsS42.ge HI0.out))|exact HB.out));(case side3=>exact Kd.R_tight rfl HO257.out);rintro e w70 ⟨v259,rfl,ho0,hi,hb,hkp⟩;refine⟨_,rfl,?_⟩;have HO260:=A_ (Kd.R_mono (ok':=fun k_=>(P1_ k_∨w.heap.size≤k_)) ho0 (fun k_ hk_=>Or.elim hk_ (fun hs_=>(HO257.out.1 k_ (hs_).symm)) (fun hn_=>(.inr (Nat.le_trans (by first|exact HK.out.1|exact(show Kept w _ (fun k_=>(P1_ k_)∨k_=g) from y6 HK.out).1) hn_)))));replace HI0:=A_ (hi);replace HK:=A_ (Kept.then_ (S:=(fun k_=>(P1_ k_)∨k_=g)) (y6 HK.out) hkp (fun k_ hs_=>Or.elim hs_ (fun hs_=>(fun e_=>Or.imp_left Or.inl ((HO257.out.1 k_ e_.symm))) hs_) (fun e_=>.inl (.inr e_))));replace HB:=A_ (hb);clear HO257;(try clear hb);(try clear hkp);(try clear ho0))|((with_reducible refine gc_ 14 rfl ?_);refine goesL_ (some 86) rfl rfl Try.func14 (by kernel_rfl) rfl #[.pointer (some ⟨g,0,none⟩),.int .i64 9] rfl ar ?_;(with_reducible refine(spec_l1Cur_pick.calls g s0_0 t261 t262 9 t263 t264 t265 w0 _ ?side1 ?side2 A65.out).mono ?_);(case side1=>repeat (first|(with_reducible first|exact HI0.out|apply IsS42.alloc|apply IsS42.drewN|apply IsS42.drew|apply IsS42.set_1|apply IsS42.set_2)|exact HI0.out));(case side2=>repeat (first|(with_reducible first|exact HB.out|apply below_alloc|apply pw_below_drewN|apply below_drew1|refine below_set ?_ (IsS42.ge HI0.out))|exact HB.out));rintro e w71 ⟨rfl,hi,hb,hk⟩;refine⟨_,rfl,?_⟩;replace HO260:=A_ (Kd.R_mono (Kd.R_keep (IsS42.apart (show IsS42 w0 _ g s0_0 t261 t262 from y1 HI0.out) (kr_ HO260.out) (by decide)) hk (fun _ h=>h.2)) (fun _ h=>h.1));replace HK:=A_ (Kept.of_keep (S:=(fun k_=>(P1_ k_)∨k_=g)) (y6 HK.out) hk (.inl (.inr rfl)));replace HB:=A_ (hb);replace HI0:=A_ (hi);(try clear hb);(try clear hb2);(try clear hk);(try clear hi))|((with_reducible refine gate_builtin (b:=.append) (xs:=#[.tmp 84,.tmp 88]) rfl ?_);at_builtin;refine Kd.R_append k37 (w0:=w0) w0.heap.size rfl (.tmp 84) (.tmp 88) 23 37 (.agg #[(.int .i64 0),(.int .i64 0)]) 16 rfl Try.underlying23 info37 rfl (by decide) (by omega) v259 t258 (⟨54,t263⟩:S37) [.int .i64 54,.int .i64 t263] (fun k_=>(P1_ k_∨w.heap.size≤k_)) (fun _=>False) rfl rfl ?aP (fun _ hk=>hk.elim) ?aF ?aO ?aB ?aS ?aL ?_;(case aP=>exact k37_mkM _ _ _ (⟨54,t263⟩:S37));(case aB=>exact(y2 HB.out));(case aF=>exact(fun k_ hk=>(.inr (Nat.le_trans (by first|exact HK.out.1|exact(show Kept w _ (fun k_=>(P1_ k_)∨k_=g) from y6 HK.out).1) hk))));(case aO=>exact(kr_ HO260.out));(case aS=>exact(below_size (y2 HB.out)));(case aL=>have:=LMc66.out;omega);intro v267 w72 ho hb hg hat;rw[←Ny266.out] at ho;have HO268:=A_ (ho);replace HI0:=A_ (IsS42.grown (y1 HI0.out) hg (IsS42.own_ne HI0.out HO260.out (by decide)));replace HB:=A_ (hb);replace HK:=A_ (Kept.of_grown (S:=(fun k_=>(P1_ k_)∨k_=g)) hg (y6 HK.out) (fun k_ e_=>Or.imp_left Or.inl ((HO260.out.1 k_ e_))));clear HO260;clear ho hb hg hat))
                     go_ret
                     exact⟨_,rr_,kr_ HO268.out,y1 HI0.out,y2 HB.out,y6 HK.out⟩
                   rw[if_neg c66] at H
                   exact absurd H (by simp)
                 rw[if_neg c63] at H
                 exact absurd H (by simp)
               · as_aux_lemma=>
                 rw[if_neg c61] at H
                 obtain⟨c61b0,c61b1⟩:=eF_ c61
                 by_cases c73:t196=5
                 · as_aux_lemma=>
                   rw[if_pos c73] at H
                   obtain⟨c73b0,c73b1⟩:=eT_ c73
                   clear c73
                   replace H:=Option.bind_eq_some_iff.mp H
                   obtain⟨⟨t269,t272,t273⟩,A740,H⟩:=H
                   replace H:(if t269.length<8796093022208 then (some ((t269++[(⟨33,2⟩:S37)]),t272,t273)) else (none))=some (r1,r2,r3):=H
                   have A74:=A_ A740
                   clear A740
                   by_cases c75:t269.length<8796093022208
                   · as_aux_lemma=>
                     rw[if_pos c75] at H
                     have LMc75:=A_ c75
                     clear c75
                     obtain⟨y274,hy274⟩:∃ y_:List (S37),y_=(t269++[(⟨33,2⟩:S37)]):=⟨_,rfl⟩
                     replace H:(some (y274,t272,t273))=some (r1,r2,r3):=by first|(rw[hy274];with_reducible exact H)|(have H2_:=(Option.bind_some _ _).symm.trans H;rw[hy274];with_reducible exact H2_)|(have H2_:=(Option.bind_some _ _).symm.trans H;with_reducible exact H2_)|with_reducible exact H|(rw[hy274];exact H)|exact H
                     have Ny274:=A_ hy274
                     clear hy274
                     simp only[Option.some.injEq,Prod.mk.injEq] at H
                     obtain⟨rfl,rfl,rfl⟩:=H
                     go_wp2_with (first|((with_reducible refine gc_ 42 rfl ?_);refine goesL_ (some 97) rfl rfl Try.func42 (by kernel_rfl) rfl #[.pointer (some ⟨g,0,none⟩),.slice Ao7 l1.length co7,.int .i64 126,.int .i64 (wrap64 (x3_5 - 1)),.int .i64 a4] rfl ar ?_;(with_reducible refine(ih kj14 (by have:=HJ5.out;have:=HJ14.out;omega) g s0_0 t197 t198 (fun k_=>some k_=(.slice Ao7 l1.length co7:Value).ownBlock) (.slice Ao7 l1.length co7) l1 126 (wrap64 (x3_5 - 1)) a4 t269 t272 t273 w0 _ ?side1 ?side2 ?side3 A74.out).mono ?_);(case side1=>repeat (first|(with_reducible first|exact HI0.out|apply IsS42.alloc|apply IsS42.drewN|apply IsS42.drew|apply IsS42.set_1|apply IsS42.set_2)|exact HI0.out));(case side2=>repeat (first|(with_reducible first|exact HB.out|apply below_alloc|apply pw_below_drewN|apply below_drew1|refine below_set ?_ (IsS42.ge HI0.out))|exact HB.out));(case side3=>exact Kd.R_tight rfl HO_1.out);rintro e w76 ⟨v270,rfl,ho0,hi,hb,hkp⟩;refine⟨_,rfl,?_⟩;have HO271:=A_ (Kd.R_mono (ok':=fun k_=>(P1_ k_∨w.heap.size≤k_)) ho0 (fun k_ hk_=>Or.elim hk_ (fun hs_=>(HO_1.out.1 k_ (hs_).symm)) (fun hn_=>(.inr (Nat.le_trans (by first|exact HK.out.1|exact(show Kept w _ (fun k_=>(P1_ k_)∨k_=g) from y6 HK.out).1) hn_)))));replace HI0:=A_ (hi);replace HK:=A_ (Kept.then_ (S:=(fun k_=>(P1_ k_)∨k_=g)) (y6 HK.out) hkp (fun k_ hs_=>Or.elim hs_ (fun hs_=>(fun e_=>Or.imp_left Or.inl ((HO_1.out.1 k_ e_.symm))) hs_) (fun e_=>.inl (.inr e_))));replace HB:=A_ (hb);clear HO_1;(try clear hb);(try clear hkp);(try clear ho0))|((with_reducible refine gate_builtin (b:=.append) (xs:=#[.tmp 97,.tmp 99]) rfl ?_);at_builtin;refine Kd.R_append k37 (w0:=w0) w0.heap.size rfl (.tmp 97) (.tmp 99) 23 37 (.agg #[(.int .i64 0),(.int .i64 0)]) 16 rfl Try.underlying23 info37 rfl (by decide) (by omega) v270 t269 (⟨33,2⟩:S37) [.int .i64 33,.int .i64 2] (fun k_=>(P1_ k_∨w.heap.size≤k_)) (fun _=>False) rfl rfl ?aP (fun _ hk=>hk.elim) ?aF ?aO ?aB ?aS ?aL ?_;(case aP=>exact k37_mkM _ _ _ (⟨33,2⟩:S37));(case aB=>exact(y2 HB.out));(case aF=>exact(fun k_ hk=>(.inr (Nat.le_trans (by first|exact HK.out.1|exact(show Kept w _ (fun k_=>(P1_ k_)∨k_=g) from y6 HK.out).1) hk))));(case aO=>exact(kr_ HO271.out));(case aS=>exact(below_size (y2 HB.out)));(case aL=>have:=LMc75.out;omega);intro v275 w77 ho hb hg hat;rw[←Ny274.out] at ho;have HO276:=A_ (ho);replace HI0:=A_ (IsS42.grown (y1 HI0.out) hg (IsS42.own_ne HI0.out HO271.out (by decide)));replace HB:=A_ (hb);replace HK:=A_ (Kept.of_grown (S:=(fun k_=>(P1_ k_)∨k_=g)) hg (y6 HK.out) (fun k_ e_=>Or.imp_left Or.inl ((HO271.out.1 k_ e_))));clear HO271;clear ho hb hg hat))
                     go_ret
                     exact⟨_,rr_,kr_ HO276.out,y1 HI0.out,y2 HB.out,y6 HK.out⟩
                   rw[if_neg c75] at H
                   exact absurd H (by simp)
                 · as_aux_lemma=>
                   rw[if_neg c73] at H
                   obtain⟨c73b0,c73b1⟩:=eF_ c73
                   replace H:=Option.bind_eq_some_iff.mp H
                   obtain⟨⟨t277,t280,t281⟩,A780,H⟩:=H
                   replace H:(if t277.length<8796093022208 then (some ((t277++[(⟨26,0⟩:S37)]),t280,t281)) else (none))=some (r1,r2,r3):=H
                   have A78:=A_ A780
                   clear A780
                   by_cases c79:t277.length<8796093022208
                   · as_aux_lemma=>
                     rw[if_pos c79] at H
                     have LMc79:=A_ c79
                     clear c79
                     obtain⟨y282,hy282⟩:∃ y_:List (S37),y_=(t277++[(⟨26,0⟩:S37)]):=⟨_,rfl⟩
                     replace H:(some (y282,t280,t281))=some (r1,r2,r3):=by first|(rw[hy282];with_reducible exact H)|(have H2_:=(Option.bind_some _ _).symm.trans H;rw[hy282];with_reducible exact H2_)|(have H2_:=(Option.bind_some _ _).symm.trans H;with_reducible exact H2_)|with_reducible exact H|(rw[hy282];exact H)|exact H
                     have Ny282:=A_ hy282
                     clear hy282
                     simp only[Option.some.injEq,Prod.mk.injEq] at H
                     obtain⟨rfl,rfl,rfl⟩:=H
                     go_wp2_with (first|((with_reducible refine gc_ 42 rfl ?_);refine goesL_ (some 106) rfl rfl Try.func42 (by kernel_rfl) rfl #[.pointer (some ⟨g,0,none⟩),.slice Ao7 l1.length co7,.int .i64 127,.int .i64 (wrap64 (x3_5 - 1)),.int .i64 a4] rfl ar ?_;(with_reducible refine(ih kj14 (by have:=HJ5.out;have:=HJ14.out;omega) g s0_0 t197 t198 (fun k_=>some k_=(.slice Ao7 l1.length co7:Value).ownBlock) (.slice Ao7 l1.length co7) l1 127 (wrap64 (x3_5 - 1)) a4 t277 t280 t281 w0 _ ?side1 ?side2 ?side3 A78.out).mono ?_);(case side1=>repeat (first|(with_reducible first|exact HI0.out|apply IsS42.alloc|apply IsS42.drewN|apply IsS42.drew|apply IsS42.set_1|apply IsS42.set_2)|exact HI0.out));(case side2=>repeat (first|(with_reducible first|exact HB.out|apply below_alloc|apply pw_below_drewN|apply below_drew1|refine below_set ?_ (IsS42.ge HI0.out))|exact HB.out));(case side3=>exact Kd.R_tight rfl HO_1.out);rintro e w80 ⟨v278,rfl,ho0,hi,hb,hkp⟩;refine⟨_,rfl,?_⟩;have HO279:=A_ (Kd.R_mono (ok':=fun k_=>(P1_ k_∨w.heap.size≤k_)) ho0 (fun k_ hk_=>Or.elim hk_ (fun hs_=>(HO_1.out.1 k_ (hs_).symm)) (fun hn_=>(.inr (Nat.le_trans (by first|exact HK.out.1|exact(show Kept w _ (fun k_=>(P1_ k_)∨k_=g) from y6 HK.out).1) hn_)))));replace HI0:=A_ (hi);replace HK:=A_ (Kept.then_ (S:=(fun k_=>(P1_ k_)∨k_=g)) (y6 HK.out) hkp (fun k_ hs_=>Or.elim hs_ (fun hs_=>(fun e_=>Or.imp_left Or.inl ((HO_1.out.1 k_ e_.symm))) hs_) (fun e_=>.inl (.inr e_))));replace HB:=A_ (hb);clear HO_1;(try clear hb);(try clear hkp);(try clear ho0))|((with_reducible refine gate_builtin (b:=.append) (xs:=#[.tmp 106,.tmp 108]) rfl ?_);at_builtin;refine Kd.R_append k37 (w0:=w0) w0.heap.size rfl (.tmp 106) (.tmp 108) 23 37 (.agg #[(.int .i64 0),(.int .i64 0)]) 16 rfl Try.underlying23 info37 rfl (by decide) (by omega) v278 t277 (⟨26,0⟩:S37) [.int .i64 26,.int .i64 0] (fun k_=>(P1_ k_∨w.heap.size≤k_)) (fun _=>False) rfl rfl ?aP (fun _ hk=>hk.elim) ?aF ?aO ?aB ?aS ?aL ?_;(case aP=>exact k37_mkM _ _ _ (⟨26,0⟩:S37));(case aB=>exact(y2 HB.out));(case aF=>exact(fun k_ hk=>(.inr (Nat.le_trans (by first|exact HK.out.1|exact(show Kept w _ (fun k_=>(P1_ k_)∨k_=g) from y6 HK.out).1) hk))));(case aO=>exact(kr_ HO279.out));(case aS=>exact(below_size (y2 HB.out)));(case aL=>have:=LMc79.out;omega);intro v283 w81 ho hb hg hat;rw[←Ny282.out] at ho;have HO284:=A_ (ho);replace HI0:=A_ (IsS42.grown (y1 HI0.out) hg (IsS42.own_ne HI0.out HO279.out (by decide)));replace HB:=A_ (hb);replace HK:=A_ (Kept.of_grown (S:=(fun k_=>(P1_ k_)∨k_=g)) hg (y6 HK.out) (fun k_ e_=>Or.imp_left Or.inl ((HO279.out.1 k_ e_))));clear HO279;clear ho hb hg hat))
                     go_ret
                     exact⟨_,rr_,kr_ HO284.out,y1 HI0.out,y2 HB.out,y6 HK.out⟩
                   rw[if_neg c79] at H
                   exact absurd H (by simp)
    · as_aux_lemma=>
      rw[if_neg c9] at H
      obtain⟨c9b0,c9b1⟩:=eF_ c9
      by_cases c82:x3_5≤0
      · as_aux_lemma=>
        rw[if_pos c82] at H
        have c82b0:=decide_eq_true c82
        clear c82
        by_cases c83:a2=127
        · as_aux_lemma=>
          rw[if_pos c83] at H
          obtain⟨c83b0,c83b1⟩:=eT_ c83
          clear c83
          replace H:=Option.bind_eq_some_iff.mp H
          obtain⟨⟨t285,t286,t287⟩,A840,H⟩:=H
          replace H:(if t285=true then ((spec_l1Cur_pick.f s0_0 t286 t287 2).bind fun bt288=>(if l1.length<8796093022208 then (some ((l1++[(⟨32,bt288.1⟩:S37)]),bt288.2.1,bt288.2.2)) else (none))) else ((spec_l1Cur_pick.f s0_0 t286 t287 50).bind fun bt294=>(if l1.length<8796093022208 then (some ((l1++[(⟨65,wrap64 (bt294.1 - 10)⟩:S37)]),bt294.2.1,bt294.2.2)) else (none))))=some (r1,r2,r3):=H
          have A84:=A_ A840
          clear A840
          by_cases c85:t285=true
          · as_aux_lemma=>
            subst c85
            replace H:=iT_ H
            replace H:=Option.bind_eq_some_iff.mp H
            obtain⟨⟨t288,t289,t290⟩,A860,H⟩:=H
            replace H:(if l1.length<8796093022208 then (some ((l1++[(⟨32,t288⟩:S37)]),t289,t290)) else (none))=some (r1,r2,r3):=H
            have A86:=A_ A860
            clear A860
            by_cases c87:l1.length<8796093022208
            · as_aux_lemma=>
              rw[if_pos c87] at H
              have LMc87:=A_ c87
              clear c87
              obtain⟨y291,hy291⟩:∃ y_:List (S37),y_=(l1++[(⟨32,t288⟩:S37)]):=⟨_,rfl⟩
              replace H:(some (y291,t289,t290))=some (r1,r2,r3):=by first|(rw[hy291];with_reducible exact H)|(have H2_:=(Option.bind_some _ _).symm.trans H;rw[hy291];with_reducible exact H2_)|(have H2_:=(Option.bind_some _ _).symm.trans H;with_reducible exact H2_)|with_reducible exact H|(rw[hy291];exact H)|exact H
              have Ny291:=A_ hy291
              clear hy291
              simp only[Option.some.injEq,Prod.mk.injEq] at H
              obtain⟨rfl,rfl,rfl⟩:=H
              go_wp2_with (first|((with_reducible refine gc_ 13 rfl ?_);refine goesL_ (some 116) rfl rfl Try.func13 (by kernel_rfl) rfl #[.pointer (some ⟨g,0,none⟩),.int .i64 2] rfl ar ?_;(with_reducible refine(spec_l1Cur_one.calls g s0_0 s0_1 s0_2 2 true t286 t287 w0 _ ?side1 ?side2 A84.out).mono ?_);(case side1=>repeat (first|(with_reducible first|exact HI0.out|apply IsS42.alloc|apply IsS42.drewN|apply IsS42.drew|apply IsS42.set_1|apply IsS42.set_2)|exact HI0.out));(case side2=>repeat (first|(with_reducible first|exact HB.out|apply below_alloc|apply pw_below_drewN|apply below_drew1|refine below_set ?_ (IsS42.ge HI0.out))|exact HB.out));rintro e w88 ⟨rfl,hi,hb,hk⟩;refine⟨_,rfl,?_⟩;replace HO_1:=A_ (Kd.R_mono (Kd.R_keep (IsS42.apart (show IsS42 w0 _ g s0_0 s0_1 s0_2 from y1 HI0.out) (kr_ HO_1.out) (by decide)) hk (fun _ h=>h.2)) (fun _ h=>h.1));replace HK:=A_ (Kept.of_keep (S:=(fun k_=>(P1_ k_)∨k_=g)) (y6 HK.out) hk (.inl (.inr rfl)));replace HB:=A_ (hb);replace HI0:=A_ (hi);(try clear hb);(try clear hb2);(try clear hk);(try clear hi))|((with_reducible refine gc_ 14 rfl ?_);refine goesL_ (some 119) rfl rfl Try.func14 (by kernel_rfl) rfl #[.pointer (some ⟨g,0,none⟩),.int .i64 2] rfl ar ?_;(with_reducible refine(spec_l1Cur_pick.calls g s0_0 t286 t287 2 t288 t289 t290 w0 _ ?side1 ?side2 A86.out).mono ?_);(case side1=>repeat (first|(with_reducible first|exact HI0.out|apply IsS42.alloc|apply IsS42.drewN|apply IsS42.drew|apply IsS42.set_1|apply IsS42.set_2)|exact HI0.out));(case side2=>repeat (first|(with_reducible first|exact HB.out|apply below_alloc|apply pw_below_drewN|apply below_drew1|refine below_set ?_ (IsS42.ge HI0.out))|exact HB.out));rintro e w89 ⟨rfl,hi,hb,hk⟩;refine⟨_,rfl,?_⟩;replace HO_1:=A_ (Kd.R_mono (Kd.R_keep (IsS42.apart (show IsS42 w0 _ g s0_0 t286 t287 from y1 HI0.out) (kr_ HO_1.out) (by decide)) hk (fun _ h=>h.2)) (fun _ h=>h.1));replace HK:=A_ (Kept.of_keep (S:=(fun k_=>(P1_ k_)∨k_=g)) (y6 HK.out) hk (.inl (.inr rfl)));replace HB:=A_ (hb);replace HI0:=A_ (hi);(try clear hb);(try clear hb2);(try clear hk);(try clear hi))|((with_reducible refine gate_builtin (b:=.append) (xs:=#[.tmp 117,.tmp 121]) rfl ?_);at_builtin;refine Kd.R_append k37 (w0:=w0) w0.heap.size rfl (.tmp 117) (.tmp 121) 23 37 (.agg #[(.int .i64 0),(.int .i64 0)]) 16 rfl Try.underlying23 info37 rfl (by decide) (by omega) (.slice Ao7 l1.length co7) l1 (⟨32,t288⟩:S37) [.int .i64 32,.int .i64 t288] (fun k_=>(P1_ k_∨w.heap.size≤k_)) (fun _=>False) rfl rfl ?aP (fun _ hk=>hk.elim) ?aF ?aO ?aB ?aS ?aL ?_;(case aP=>exact k37_mkM _ _ _ (⟨32,t288⟩:S37));(case aB=>exact(y2 HB.out));(case aF=>exact(fun k_ hk=>(.inr (Nat.le_trans (by first|exact HK.out.1|exact(show Kept w _ (fun k_=>(P1_ k_)∨k_=g) from y6 HK.out).1) hk))));(case aO=>exact(kr_ HO_1.out));(case aS=>exact(below_size (y2 HB.out)));(case aL=>have:=LMc87.out;omega);intro v292 w90 ho hb hg hat;rw[←Ny291.out] at ho;have HO293:=A_ (ho);replace HI0:=A_ (IsS42.grown (y1 HI0.out) hg (IsS42.own_ne HI0.out HO_1.out (by decide)));replace HB:=A_ (hb);replace HK:=A_ (Kept.of_grown (S:=(fun k_=>(P1_ k_)∨k_=g)) hg (y6 HK.out) (fun k_ e_=>Or.imp_left Or.inl ((HO_1.out.1 k_ e_))));clear HO_1;clear ho hb hg hat))
              go_ret
              exact⟨_,rr_,kr_ HO293.out,y1 HI0.out,y2 HB.out,y6 HK.out⟩
            rw[if_neg c87] at H
            exact absurd H (by simp)
          · as_aux_lemma=>
            replace c85:=Bool.eq_false_iff.mpr c85
            subst c85
            replace H:=iF_ H
            replace H:=Option.bind_eq_some_iff.mp H
            obtain⟨⟨t294,t295,t296⟩,A910,H⟩:=H
            replace H:(if l1.length<8796093022208 then (some ((l1++[(⟨65,wrap64 (t294 - 10)⟩:S37)]),t295,t296)) else (none))=some (r1,r2,r3):=H
            have A91:=A_ A910
            clear A910
            by_cases c92:l1.length<8796093022208
            · as_aux_lemma=>
              rw[if_pos c92] at H
              have LMc92:=A_ c92
              clear c92
              obtain⟨y297,hy297⟩:∃ y_:List (S37),y_=(l1++[(⟨65,wrap64 (t294 - 10)⟩:S37)]):=⟨_,rfl⟩
              replace H:(some (y297,t295,t296))=some (r1,r2,r3):=by first|(rw[hy297];with_reducible exact H)|(have H2_:=(Option.bind_some _ _).symm.trans H;rw[hy297];with_reducible exact H2_)|(have H2_:=(Option.bind_some _ _).symm.trans H;with_reducible exact H2_)|with_reducible exact H|(rw[hy297];exact H)|exact H
              have Ny297:=A_ hy297
              clear hy297
              simp only[Option.some.injEq,Prod.mk.injEq] at H
              obtain⟨rfl,rfl,rfl⟩:=H
              go_wp2_with (first|((with_reducible refine gc_ 13 rfl ?_);refine goesL_ (some 116) rfl rfl Try.func13 (by kernel_rfl) rfl #[.pointer (some ⟨g,0,none⟩),.int .i64 2] rfl ar ?_;(with_reducible refine(spec_l1Cur_one.calls g s0_0 s0_1 s0_2 2 false t286 t287 w0 _ ?side1 ?side2 A84.out).mono ?_);(case side1=>repeat (first|(with_reducible first|exact HI0.out|apply IsS42.alloc|apply IsS42.drewN|apply IsS42.drew|apply IsS42.set_1|apply IsS42.set_2)|exact HI0.out));(case side2=>repeat (first|(with_reducible first|exact HB.out|apply below_alloc|apply pw_below_drewN|apply below_drew1|refine below_set ?_ (IsS42.ge HI0.out))|exact HB.out));rintro e w93 ⟨rfl,hi,hb,hk⟩;refine⟨_,rfl,?_⟩;replace HO_1:=A_ (Kd.R_mono (Kd.R_keep (IsS42.apart (show IsS42 w0 _ g s0_0 s0_1 s0_2 from y1 HI0.out) (kr_ HO_1.out) (by decide)) hk (fun _ h=>h.2)) (fun _ h=>h.1));replace HK:=A_ (Kept.of_keep (S:=(fun k_=>(P1_ k_)∨k_=g)) (y6 HK.out) hk (.inl (.inr rfl)));replace HB:=A_ (hb);replace HI0:=A_ (hi);(try clear hb);(try clear hb2);(try clear hk);(try clear hi))|((with_reducible refine gc_ 14 rfl ?_);refine goesL_ (some 125) rfl rfl Try.func14 (by kernel_rfl) rfl #[.pointer (some ⟨g,0,none⟩),.int .i64 50] rfl ar ?_;(with_reducible refine(spec_l1Cur_pick.calls g s0_0 t286 t287 50 t294 t295 t296 w0 _ ?side1 ?side2 A91.out).mono ?_);(case side1=>repeat (first|(with_reducible first|exact HI0.out|apply IsS42.alloc|apply IsS42.drewN|apply IsS42.drew|apply IsS42.set_1|apply IsS42.set_2)|exact HI0.out));(case side2=>repeat (first|(with_reducible first|exact HB.out|apply below_alloc|apply pw_below_drewN|apply below_drew1|refine below_set ?_ (IsS42.ge HI0.out))|exact HB.out));rintro e w94 ⟨rfl,hi,hb,hk⟩;refine⟨_,rfl,?_⟩;replace HO_1:=A_ (Kd.R_mono (Kd.R_keep (IsS42.apart (show IsS42 w0 _ g s0_0 t286 t287 from y1 HI0.out) (kr_ HO_1.out) (by decide)) hk (fun _ h=>h.2)) (fun _ h=>h.1));replace HK:=A_ (Kept.of_keep (S:=(fun k_=>(P1_ k_)∨k_=g)) (y6 HK.out) hk (.inl (.inr rfl)));replace HB:=A_ (hb);replace HI0:=A_ (hi);(try clear hb);(try clear hb2);(try clear hk);(try clear hi))|((with_reducible refine gate_builtin (b:=.append) (xs:=#[.tmp 123,.tmp 128]) rfl ?_);at_builtin;refine Kd.R_append k37 (w0:=w0) w0.heap.size rfl (.tmp 123) (.tmp 128) 23 37 (.agg #[(.int .i64 0),(.int .i64 0)]) 16 rfl Try.underlying23 info37 rfl (by decide) (by omega) (.slice Ao7 l1.length co7) l1 (⟨65,wrap64 (t294 - 10)⟩:S37) [.int .i64 65,.int .i64 (wrap64 (t294 - 10))] (fun k_=>(P1_ k_∨w.heap.size≤k_)) (fun _=>False) rfl rfl ?aP (fun _ hk=>hk.elim) ?aF ?aO ?aB ?aS ?aL ?_;(case aP=>exact k37_mkM _ _ _ (⟨65,wrap64 (t294 - 10)⟩:S37));(case aB=>exact(y2 HB.out));(case aF=>exact(fun k_ hk=>(.inr (Nat.le_trans (by first|exact HK.out.1|exact(show Kept w _ (fun k_=>(P1_ k_)∨k_=g) from y6 HK.out).1) hk))));(case aO=>exact(kr_ HO_1.out));(case aS=>exact(below_size (y2 HB.out)));(case aL=>have:=LMc92.out;omega);intro v298 w95 ho hb hg hat;rw[←Ny297.out] at ho;have HO299:=A_ (ho);replace HI0:=A_ (IsS42.grown (y1 HI0.out) hg (IsS42.own_ne HI0.out HO_1.out (by decide)));replace HB:=A_ (hb);replace HK:=A_ (Kept.of_grown (S:=(fun k_=>(P1_ k_)∨k_=g)) hg (y6 HK.out) (fun k_ e_=>Or.imp_left Or.inl ((HO_1.out.1 k_ e_))));clear HO_1;clear ho hb hg hat))
              go_ret
              exact⟨_,rr_,kr_ HO299.out,y1 HI0.out,y2 HB.out,y6 HK.out⟩
            rw[if_neg c92] at H
            exact absurd H (by simp)
        · as_aux_lemma=>
          rw[if_neg c83] at H
          obtain⟨c83b0,c83b1⟩:=eF_ c83
          by_cases c96:a2=126
          · as_aux_lemma=>
            rw[if_pos c96] at H
            obtain⟨c96b0,c96b1⟩:=eT_ c96
            clear c96
            replace H:=Option.bind_eq_some_iff.mp H
            obtain⟨⟨t300,t301,t302⟩,A970,H⟩:=H
            replace H:(if t300=true then (if l1.length<8796093022208 then (some ((l1++[(⟨32,2⟩:S37)]),t301,t302)) else (none)) else ((spec_l1Cur_signed.f kj5 s0_0 t301 t302).bind fun bt306=>(if l1.length<8796093022208 then (some ((l1++[(⟨66,bt306.1⟩:S37)]),bt306.2.1,bt306.2.2)) else (none))))=some (r1,r2,r3):=H
            have A97:=A_ A970
            clear A970
            by_cases c98:t300=true
            · as_aux_lemma=>
              subst c98
              replace H:=iT_ H
              by_cases c99:l1.length<8796093022208
              · as_aux_lemma=>
                rw[if_pos c99] at H
                have LMc99:=A_ c99
                clear c99
                obtain⟨y303,hy303⟩:∃ y_:List (S37),y_=(l1++[(⟨32,2⟩:S37)]):=⟨_,rfl⟩
                replace H:(some (y303,t301,t302))=some (r1,r2,r3):=by first|(rw[hy303];with_reducible exact H)|(have H2_:=(Option.bind_some _ _).symm.trans H;rw[hy303];with_reducible exact H2_)|(have H2_:=(Option.bind_some _ _).symm.trans H;with_reducible exact H2_)|with_reducible exact H|(rw[hy303];exact H)|exact H
                have Ny303:=A_ hy303
                clear hy303
                simp only[Option.some.injEq,Prod.mk.injEq] at H
                obtain⟨rfl,rfl,rfl⟩:=H
                go_wp2_with (first|((with_reducible refine gc_ 13 rfl ?_);refine goesL_ (some 133) rfl rfl Try.func13 (by kernel_rfl) rfl #[.pointer (some ⟨g,0,none⟩),.int .i64 2] rfl ar ?_;(with_reducible refine(spec_l1Cur_one.calls g s0_0 s0_1 s0_2 2 true t301 t302 w0 _ ?side1 ?side2 A97.out).mono ?_);(case side1=>repeat (first|(with_reducible first|exact HI0.out|apply IsS42.alloc|apply IsS42.drewN|apply IsS42.drew|apply IsS42.set_1|apply IsS42.set_2)|exact HI0.out));(case side2=>repeat (first|(with_reducible first|exact HB.out|apply below_alloc|apply pw_below_drewN|apply below_drew1|refine below_set ?_ (IsS42.ge HI0.out))|exact HB.out));rintro e w100 ⟨rfl,hi,hb,hk⟩;refine⟨_,rfl,?_⟩;replace HO_1:=A_ (Kd.R_mono (Kd.R_keep (IsS42.apart (show IsS42 w0 _ g s0_0 s0_1 s0_2 from y1 HI0.out) (kr_ HO_1.out) (by decide)) hk (fun _ h=>h.2)) (fun _ h=>h.1));replace HK:=A_ (Kept.of_keep (S:=(fun k_=>(P1_ k_)∨k_=g)) (y6 HK.out) hk (.inl (.inr rfl)));replace HB:=A_ (hb);replace HI0:=A_ (hi);(try clear hb);(try clear hb2);(try clear hk);(try clear hi))|((with_reducible refine gate_builtin (b:=.append) (xs:=#[.tmp 134,.tmp 136]) rfl ?_);at_builtin;refine Kd.R_append k37 (w0:=w0) w0.heap.size rfl (.tmp 134) (.tmp 136) 23 37 (.agg #[(.int .i64 0),(.int .i64 0)]) 16 rfl Try.underlying23 info37 rfl (by decide) (by omega) (.slice Ao7 l1.length co7) l1 (⟨32,2⟩:S37) [.int .i64 32,.int .i64 2] (fun k_=>(P1_ k_∨w.heap.size≤k_)) (fun _=>False) rfl rfl ?aP (fun _ hk=>hk.elim) ?aF ?aO ?aB ?aS ?aL ?_;(case aP=>exact k37_mkM _ _ _ (⟨32,2⟩:S37));(case aB=>exact(y2 HB.out));(case aF=>exact(fun k_ hk=>(.inr (Nat.le_trans (by first|exact HK.out.1|exact(show Kept w _ (fun k_=>(P1_ k_)∨k_=g) from y6 HK.out).1) hk))));(case aO=>exact(kr_ HO_1.out));(case aS=>exact(below_size (y2 HB.out)));(case aL=>have:=LMc99.out;omega);intro v304 w101 ho hb hg hat;rw[←Ny303.out] at ho;have HO305:=A_ (ho);replace HI0:=A_ (IsS42.grown (y1 HI0.out) hg (IsS42.own_ne HI0.out HO_1.out (by decide)));replace HB:=A_ (hb);replace HK:=A_ (Kept.of_grown (S:=(fun k_=>(P1_ k_)∨k_=g)) hg (y6 HK.out) (fun k_ e_=>Or.imp_left Or.inl ((HO_1.out.1 k_ e_))));clear HO_1;clear ho hb hg hat))
                go_ret
                exact⟨_,rr_,kr_ HO305.out,y1 HI0.out,y2 HB.out,y6 HK.out⟩
              rw[if_neg c99] at H
              exact absurd H (by simp)
            · as_aux_lemma=>
              replace c98:=Bool.eq_false_iff.mpr c98
              subst c98
              replace H:=iF_ H
              replace H:=Option.bind_eq_some_iff.mp H
              obtain⟨⟨t306,t307,t308⟩,A1020,H⟩:=H
              replace H:(if l1.length<8796093022208 then (some ((l1++[(⟨66,t306⟩:S37)]),t307,t308)) else (none))=some (r1,r2,r3):=H
              have A102:=A_ A1020
              clear A1020
              by_cases c103:l1.length<8796093022208
              · as_aux_lemma=>
                rw[if_pos c103] at H
                have LMc103:=A_ c103
                clear c103
                obtain⟨y309,hy309⟩:∃ y_:List (S37),y_=(l1++[(⟨66,t306⟩:S37)]):=⟨_,rfl⟩
                replace H:(some (y309,t307,t308))=some (r1,r2,r3):=by first|(rw[hy309];with_reducible exact H)|(have H2_:=(Option.bind_some _ _).symm.trans H;rw[hy309];with_reducible exact H2_)|(have H2_:=(Option.bind_some _ _).symm.trans H;with_reducible exact H2_)|with_reducible exact H|(rw[hy309];exact H)|exact H
                have Ny309:=A_ hy309
                clear hy309
                simp only[Option.some.injEq,Prod.mk.injEq] at H
                obtain⟨rfl,rfl,rfl⟩:=H
                go_wp2_with (first|((with_reducible refine gc_ 13 rfl ?_);refine goesL_ (some 133) rfl rfl Try.func13 (by kernel_rfl) rfl #[.pointer (some ⟨g,0,none⟩),.int .i64 2] rfl ar ?_;(with_reducible refine(spec_l1Cur_one.calls g s0_0 s0_1 s0_2 2 false t301 t302 w0 _ ?side1 ?side2 A97.out).mono ?_);(case side1=>repeat (first|(with_reducible first|exact HI0.out|apply IsS42.alloc|apply IsS42.drewN|apply IsS42.drew|apply IsS42.set_1|apply IsS42.set_2)|exact HI0.out));(case side2=>repeat (first|(with_reducible first|exact HB.out|apply below_alloc|apply pw_below_drewN|apply below_drew1|refine below_set ?_ (IsS42.ge HI0.out))|exact HB.out));rintro e w104 ⟨rfl,hi,hb,hk⟩;refine⟨_,rfl,?_⟩;replace HO_1:=A_ (Kd.R_mono (Kd.R_keep (IsS42.apart (show IsS42 w0 _ g s0_0 s0_1 s0_2 from y1 HI0.out) (kr_ HO_1.out) (by decide)) hk (fun _ h=>h.2)) (fun _ h=>h.1));replace HK:=A_ (Kept.of_keep (S:=(fun k_=>(P1_ k_)∨k_=g)) (y6 HK.out) hk (.inl (.inr rfl)));replace HB:=A_ (hb);replace HI0:=A_ (hi);(try clear hb);(try clear hb2);(try clear hk);(try clear hi))|((with_reducible refine gc_ 45 rfl ?_);refine goesL_ (some 140) rfl rfl Try.func45 (by kernel_rfl) rfl #[.pointer (some ⟨g,0,none⟩)] rfl ar ?_;(with_reducible refine(spec_l1Cur_signed.calls kj5 g s0_0 t301 t302 t306 t307 t308 w0 _ ?side1 ?side2 A102.out).mono ?_);(case side1=>repeat (first|(with_reducible first|exact HI0.out|apply IsS42.alloc|apply IsS42.drewN|apply IsS42.drew|apply IsS42.set_1|apply IsS42.set_2)|exact HI0.out));(case side2=>repeat (first|(with_reducible first|exact HB.out|apply below_alloc|apply pw_below_drewN|apply below_drew1|refine below_set ?_ (IsS42.ge HI0.out))|exact HB.out));rintro e w105 ⟨rfl,hi,hb,hk⟩;refine⟨_,rfl,?_⟩;replace HO_1:=A_ (Kd.R_mono (Kd.R_keep (IsS42.apart (show IsS42 w0 _ g s0_0 t301 t302 from y1 HI0.out) (kr_ HO_1.out) (by decide)) hk (fun _ h=>h.2)) (fun _ h=>h.1));replace HK:=A_ (Kept.of_keep (S:=(fun k_=>(P1_ k_)∨k_=g)) (y6 HK.out) hk (.inl (.inr rfl)));replace HB:=A_ (hb);replace HI0:=A_ (hi);(try clear hb);(try clear hb2);(try clear hk);(try clear hi))|((with_reducible refine gate_builtin (b:=.append) (xs:=#[.tmp 138,.tmp 142]) rfl ?_);at_builtin;refine Kd.R_append k37 (w0:=w0) w0.heap.size rfl (.tmp 138) (.tmp 142) 23 37 (.agg #[(.int .i64 0),(.int .i64 0)]) 16 rfl Try.underlying23 info37 rfl (by decide) (by omega) (.slice Ao7 l1.length co7) l1 (⟨66,t306⟩:S37) [.int .i64 66,.int .i64 t306] (fun k_=>(P1_ k_∨w.heap.size≤k_)) (fun _=>False) rfl rfl ?aP (fun _ hk=>hk.elim) ?aF ?aO ?aB ?aS ?aL ?_;(case aP=>exact k37_mkM _ _ _ (⟨66,t306⟩:S37));(case aB=>exact(y2 HB.out));(case aF=>exact(fun k_ hk=>(.inr (Nat.le_trans (by first|exact HK.out.1|exact(show Kept w _ (fun k_=>(P1_ k_)∨k_=g) from y6 HK.out).1) hk))));(case aO=>exact(kr_ HO_1.out));(case aS=>exact(below_size (y2 HB.out)));(case aL=>have:=LMc103.out;omega);intro v310 w106 ho hb hg hat;rw[←Ny309.out] at ho;have HO311:=A_ (ho);replace HI0:=A_ (IsS42.grown (y1 HI0.out) hg (IsS42.own_ne HI0.out HO_1.out (by decide)));replace HB:=A_ (hb);replace HK:=A_ (Kept.of_grown (S:=(fun k_=>(P1_ k_)∨k_=g)) hg (y6 HK.out) (fun k_ e_=>Or.imp_left Or.inl ((HO_1.out.1 k_ e_))));clear HO_1;clear ho hb hg hat))
                go_ret
                exact⟨_,rr_,kr_ HO311.out,y1 HI0.out,y2 HB.out,y6 HK.out⟩
              rw[if_neg c103] at H
              exact absurd H (by simp)
          · as_aux_lemma=>
            rw[if_neg c96] at H
            obtain⟨c96b0,c96b1⟩:=eF_ c96
            replace H:=Option.bind_eq_some_iff.mp H
            obtain⟨⟨t312,t313,t314⟩,A1070,H⟩:=H
            replace H:(if l1.length<8796093022208 then (some ((l1++[(⟨67,wrap64 (t312)⟩:S37)]),t313,t314)) else (none))=some (r1,r2,r3):=H
            have A107:=A_ A1070
            clear A1070
            by_cases c108:l1.length<8796093022208
            · as_aux_lemma=>
              rw[if_pos c108] at H
              have LMc108:=A_ c108
              clear c108
              obtain⟨y315,hy315⟩:∃ y_:List (S37),y_=(l1++[(⟨67,wrap64 (t312)⟩:S37)]):=⟨_,rfl⟩
              replace H:(some (y315,t313,t314))=some (r1,r2,r3):=by first|(rw[hy315];with_reducible exact H)|(have H2_:=(Option.bind_some _ _).symm.trans H;rw[hy315];with_reducible exact H2_)|(have H2_:=(Option.bind_some _ _).symm.trans H;with_reducible exact H2_)|with_reducible exact H|(rw[hy315];exact H)|exact H
              have Ny315:=A_ hy315
              clear hy315
              simp only[Option.some.injEq,Prod.mk.injEq] at H
              obtain⟨rfl,rfl,rfl⟩:=H
              go_wp2_with (first|((with_reducible refine gc_ 46 rfl ?_);refine goesL_ (some 146) rfl rfl Try.func46 (by kernel_rfl) rfl #[.pointer (some ⟨g,0,none⟩),.int .i64 32] rfl ar ?_;(with_reducible refine(spec_l1Cur_float.calls kj5 g s0_0 s0_1 s0_2 32 t312 t313 t314 w0 _ ?side1 ?side2 A107.out).mono ?_);(case side1=>repeat (first|(with_reducible first|exact HI0.out|apply IsS42.alloc|apply IsS42.drewN|apply IsS42.drew|apply IsS42.set_1|apply IsS42.set_2)|exact HI0.out));(case side2=>repeat (first|(with_reducible first|exact HB.out|apply below_alloc|apply pw_below_drewN|apply below_drew1|refine below_set ?_ (IsS42.ge HI0.out))|exact HB.out));rintro e w109 ⟨rfl,hi,hb,hk⟩;refine⟨_,rfl,?_⟩;replace HO_1:=A_ (Kd.R_mono (Kd.R_keep (IsS42.apart (show IsS42 w0 _ g s0_0 s0_1 s0_2 from y1 HI0.out) (kr_ HO_1.out) (by decide)) hk (fun _ h=>h.2)) (fun _ h=>h.1));replace HK:=A_ (Kept.of_keep (S:=(fun k_=>(P1_ k_)∨k_=g)) (y6 HK.out) hk (.inl (.inr rfl)));replace HB:=A_ (hb);replace HI0:=A_ (hi);(try clear hb);(try clear hb2);(try clear hk);(try clear hi))|((with_reducible refine gate_builtin (b:=.append) (xs:=#[.tmp 144,.tmp 149]) rfl ?_);at_builtin;refine Kd.R_append k37 (w0:=w0) w0.heap.size rfl (.tmp 144) (.tmp 149) 23 37 (.agg #[(.int .i64 0),(.int .i64 0)]) 16 rfl Try.underlying23 info37 rfl (by decide) (by omega) (.slice Ao7 l1.length co7) l1 (⟨67,wrap64 (t312)⟩:S37) [.int .i64 67,.int .i64 (wrap64 (t312))] (fun k_=>(P1_ k_∨w.heap.size≤k_)) (fun _=>False) rfl rfl ?aP (fun _ hk=>hk.elim) ?aF ?aO ?aB ?aS ?aL ?_;(case aP=>exact k37_mkM _ _ _ (⟨67,wrap64 (t312)⟩:S37));(case aB=>exact(y2 HB.out));(case aF=>exact(fun k_ hk=>(.inr (Nat.le_trans (by first|exact HK.out.1|exact(show Kept w _ (fun k_=>(P1_ k_)∨k_=g) from y6 HK.out).1) hk))));(case aO=>exact(kr_ HO_1.out));(case aS=>exact(below_size (y2 HB.out)));(case aL=>have:=LMc108.out;omega);intro v316 w110 ho hb hg hat;rw[←Ny315.out] at ho;have HO317:=A_ (ho);replace HI0:=A_ (IsS42.grown (y1 HI0.out) hg (IsS42.own_ne HI0.out HO_1.out (by decide)));replace HB:=A_ (hb);replace HK:=A_ (Kept.of_grown (S:=(fun k_=>(P1_ k_)∨k_=g)) hg (y6 HK.out) (fun k_ e_=>Or.imp_left Or.inl ((HO_1.out.1 k_ e_))));clear HO_1;clear ho hb hg hat))
              go_ret
              exact⟨_,rr_,kr_ HO317.out,y1 HI0.out,y2 HB.out,y6 HK.out⟩
            rw[if_neg c108] at H
            exact absurd H (by simp)
      · as_aux_lemma=>
        rw[if_neg c82] at H
        have c82b0:=decide_eq_false c82
        clear c82
        replace H:=Option.bind_eq_some_iff.mp H
        obtain⟨⟨t318,t319,t320⟩,A1110,H⟩:=H
        replace H:(if t318=0 then ((spec_l1Cur_gen.f kj5 s0_0 t319 t320 l1 127 (wrap64 (x3_5 - 1)) a4).bind fun bt321=>(if bt321.1.length<8796093022208 then ((spec_l1Cur_gen.f kj5 s0_0 bt321.2.1 bt321.2.2 (bt321.1++[(⟨4,a2⟩:S37)]) a2 (wrap64 (x3_5 - 1)) (wrap64 (a4+1))).bind fun bt329=>(if bt329.1.length<8796093022208 then ((spec_l1Cur_gen.f kj5 s0_0 bt329.2.1 bt329.2.2 (bt329.1++[(⟨5,0⟩:S37)]) a2 (wrap64 (x3_5 - 1)) (wrap64 (a4+1))).bind fun bt337=>(if bt337.1.length<8796093022208 then (some ((bt337.1++[(⟨11,0⟩:S37)]),bt337.2.1,bt337.2.2)) else (none))) else (none))) else (none))) else (if t318=1 then ((spec_l1Cur_gen.f kj5 s0_0 t319 t320 l1 64 (wrap64 (x3_5 - 1)) a4).bind fun bt345=>((spec_l1Cur_gen.f kj5 s0_0 bt345.2.1 bt345.2.2 bt345.1 a2 (wrap64 (x3_5 - 1)) a4).bind fun bt350=>(some (bt350.1,bt350.2.1,bt350.2.2)))) else (if a2=127 then ((spec_l1Cur_pick.f s0_0 t319 t320 6).bind fun bt355=>(if bt355.1=0 then ((spec_l1Cur_gen.f kj5 s0_0 bt355.2.1 bt355.2.2 l1 127 (wrap64 (x3_5 - 1)) a4).bind fun bt358=>((spec_l1Cur_pick.f s0_0 bt358.2.1 bt358.2.2 6).bind fun bt363=>(if bt358.1.length<8796093022208 then (some ((bt358.1++[(⟨wrap64 (118+bt363.1),0⟩:S37)]),bt363.2.1,bt363.2.2)) else (none)))) else (if bt355.1=1 then ((spec_l1Cur_gen.f kj5 s0_0 bt355.2.1 bt355.2.2 l1 126 (wrap64 (x3_5 - 1)) a4).bind fun bt369=>(if bt369.1.length<8796093022208 then (some ((bt369.1++[(⟨176,0⟩:S37)]),bt369.2.1,bt369.2.2)) else (none))) else (if bt355.1=2 then ((spec_l1Cur_gen.f kj5 s0_0 bt355.2.1 bt355.2.2 l1 125 (wrap64 (x3_5 - 1)) a4).bind fun bt377=>(if bt377.1.length<8796093022208 then (some ((bt377.1++[(⟨180,0⟩:S37)]),bt377.2.1,bt377.2.2)) else (none))) else (if bt355.1=3 then ((spec_l1Cur_gen.f kj5 s0_0 bt355.2.1 bt355.2.2 l1 127 0 a4).bind fun bt385=>((spec_l1Cur_pick.f s0_0 bt385.2.1 bt385.2.2 20).bind fun bt390=>(if bt385.1.length<8796093022208 then (some ((bt385.1++[(⟨40,bt390.1⟩:S37)]),bt390.2.1,bt390.2.2)) else (none)))) else ((spec_l1Cur_gen.f kj5 s0_0 bt355.2.1 bt355.2.2 l1 127 (wrap64 (x3_5 - 1)) a4).bind fun bt396=>((spec_l1Cur_gen.f kj5 s0_0 bt396.2.1 bt396.2.2 bt396.1 127 (wrap64 (x3_5 - 1)) a4).bind fun bt401=>((spec_l1Cur_pick.f s0_0 bt401.2.1 bt401.2.2 21).bind fun bt406=>(if bt401.1.length<8796093022208 then (some ((bt401.1++[(⟨wrap64 (97+bt406.1),0⟩:S37)]),bt406.2.1,bt406.2.2)) else (none)))))))))) else (if a2=126 then ((spec_l1Cur_one.f s0_0 t319 t320 3).bind fun bt412=>(if bt412.1=true then ((spec_l1Cur_gen.f kj5 s0_0 bt412.2.1 bt412.2.2 l1 127 (wrap64 (x3_5 - 1)) a4).bind fun bt415=>((spec_l1Cur_pick.f s0_0 bt415.2.1 bt415.2.2 2).bind fun bt420=>(if bt415.1.length<8796093022208 then (some ((bt415.1++[(⟨wrap64 (177+bt420.1),0⟩:S37)]),bt420.2.1,bt420.2.2)) else (none)))) else ((spec_l1Cur_gen.f kj5 s0_0 bt412.2.1 bt412.2.2 l1 126 (wrap64 (x3_5 - 1)) a4).bind fun bt426=>((spec_l1Cur_gen.f kj5 s0_0 bt426.2.1 bt426.2.2 bt426.1 126 (wrap64 (x3_5 - 1)) a4).bind fun bt431=>((spec_l1Cur_pick.f s0_0 bt431.2.1 bt431.2.2 15).bind fun bt436=>(if bt431.1.length<8796093022208 then (some ((bt431.1++[(⟨wrap64 (129+bt436.1),0⟩:S37)]),bt436.2.1,bt436.2.2)) else (none))))))) else ((spec_l1Cur_one.f s0_0 t319 t320 2).bind fun bt442=>(if bt442.1=true then ((spec_l1Cur_gen.f kj5 s0_0 bt442.2.1 bt442.2.2 l1 127 (wrap64 (x3_5 - 1)) a4).bind fun bt445=>(if bt445.1.length<8796093022208 then (some ((bt445.1++[(⟨179,0⟩:S37)]),bt445.2.1,bt445.2.2)) else (none))) else ((spec_l1Cur_gen.f kj5 s0_0 bt442.2.1 bt442.2.2 l1 125 (wrap64 (x3_5 - 1)) a4).bind fun bt453=>((spec_l1Cur_gen.f kj5 s0_0 bt453.2.1 bt453.2.2 bt453.1 125 (wrap64 (x3_5 - 1)) a4).bind fun bt458=>((spec_l1Cur_pick.f s0_0 bt458.2.1 bt458.2.2 5).bind fun bt463=>(if bt458.1.length<8796093022208 then (some ((bt458.1++[(⟨wrap64 (161+bt463.1),0⟩:S37)]),bt463.2.1,bt463.2.2)) else (none)))))))))))=some (r1,r2,r3):=H
        have A111:=A_ A1110
        clear A1110
        by_cases c112:t318=0
        · as_aux_lemma=>
          rw[if_pos c112] at H
          obtain⟨c112b0,c112b1⟩:=eT_ c112
          clear c112
          replace H:=Option.bind_eq_some_iff.mp H
          obtain⟨⟨t321,t324,t325⟩,A1130,H⟩:=H
          replace H:(if t321.length<8796093022208 then ((spec_l1Cur_gen.f kj5 s0_0 t324 t325 (t321++[(⟨4,a2⟩:S37)]) a2 (wrap64 (x3_5 - 1)) (wrap64 (a4+1))).bind fun bt329=>(if bt329.1.length<8796093022208 then ((spec_l1Cur_gen.f kj5 s0_0 bt329.2.1 bt329.2.2 (bt329.1++[(⟨5,0⟩:S37)]) a2 (wrap64 (x3_5 - 1)) (wrap64 (a4+1))).bind fun bt337=>(if bt337.1.length<8796093022208 then (some ((bt337.1++[(⟨11,0⟩:S37)]),bt337.2.1,bt337.2.2)) else (none))) else (none))) else (none))=some (r1,r2,r3):=H
          have A113:=A_ A1130
          clear A1130
          by_cases c114:t321.length<8796093022208
          · as_aux_lemma=>
            rw[if_pos c114] at H
            have LMc114:=A_ c114
            clear c114
            obtain⟨y326,hy326⟩:∃ y_:List (S37),y_=(t321++[(⟨4,a2⟩:S37)]):=⟨_,rfl⟩
            replace H:((spec_l1Cur_gen.f kj5 s0_0 t324 t325 y326 a2 (wrap64 (x3_5 - 1)) (wrap64 (a4+1))).bind fun bt329=>(if bt329.1.length<8796093022208 then ((spec_l1Cur_gen.f kj5 s0_0 bt329.2.1 bt329.2.2 (bt329.1++[(⟨5,0⟩:S37)]) a2 (wrap64 (x3_5 - 1)) (wrap64 (a4+1))).bind fun bt337=>(if bt337.1.length<8796093022208 then (some ((bt337.1++[(⟨11,0⟩:S37)]),bt337.2.1,bt337.2.2)) else (none))) else (none)))=some (r1,r2,r3):=by first|(rw[hy326];with_reducible exact H)|(have H2_:=(Option.bind_some _ _).symm.trans H;rw[hy326];with_reducible exact H2_)|(have H2_:=(Option.bind_some _ _).symm.trans H;with_reducible exact H2_)|with_reducible exact H|(rw[hy326];exact H)|exact H
            have Ny326:=A_ hy326
            clear hy326
            replace H:=Option.bind_eq_some_iff.mp H
            obtain⟨⟨t329,t332,t333⟩,A1150,H⟩:=H
            replace H:(if t329.length<8796093022208 then ((spec_l1Cur_gen.f kj5 s0_0 t332 t333 (t329++[(⟨5,0⟩:S37)]) a2 (wrap64 (x3_5 - 1)) (wrap64 (a4+1))).bind fun bt337=>(if bt337.1.length<8796093022208 then (some ((bt337.1++[(⟨11,0⟩:S37)]),bt337.2.1,bt337.2.2)) else (none))) else (none))=some (r1,r2,r3):=H
            have A115:=A_ A1150
            clear A1150
            by_cases c116:t329.length<8796093022208
            · as_aux_lemma=>
              rw[if_pos c116] at H
              have LMc116:=A_ c116
              clear c116
              obtain⟨y334,hy334⟩:∃ y_:List (S37),y_=(t329++[(⟨5,0⟩:S37)]):=⟨_,rfl⟩
              replace H:((spec_l1Cur_gen.f kj5 s0_0 t332 t333 y334 a2 (wrap64 (x3_5 - 1)) (wrap64 (a4+1))).bind fun bt337=>(if bt337.1.length<8796093022208 then (some ((bt337.1++[(⟨11,0⟩:S37)]),bt337.2.1,bt337.2.2)) else (none)))=some (r1,r2,r3):=by first|(rw[hy334];with_reducible exact H)|(have H2_:=(Option.bind_some _ _).symm.trans H;rw[hy334];with_reducible exact H2_)|(have H2_:=(Option.bind_some _ _).symm.trans H;with_reducible exact H2_)|with_reducible exact H|(rw[hy334];exact H)|exact H
              have Ny334:=A_ hy334
              clear hy334
              replace H:=Option.bind_eq_some_iff.mp H
              obtain⟨⟨t337,t340,t341⟩,A1170,H⟩:=H
              replace H:(if t337.length<8796093022208 then (some ((t337++[(⟨11,0⟩:S37)]),t340,t341)) else (none))=some (r1,r2,r3):=H
              have A117:=A_ A1170
              clear A1170
              by_cases c118:t337.length<8796093022208
              · as_aux_lemma=>
                rw[if_pos c118] at H
                have LMc118:=A_ c118
                clear c118
                obtain⟨y342,hy342⟩:∃ y_:List (S37),y_=(t337++[(⟨11,0⟩:S37)]):=⟨_,rfl⟩
                replace H:(some (y342,t340,t341))=some (r1,r2,r3):=by first|(rw[hy342];with_reducible exact H)|(have H2_:=(Option.bind_some _ _).symm.trans H;rw[hy342];with_reducible exact H2_)|(have H2_:=(Option.bind_some _ _).symm.trans H;with_reducible exact H2_)|with_reducible exact H|(rw[hy342];exact H)|exact H
                have Ny342:=A_ hy342
                clear hy342
                simp only[Option.some.injEq,Prod.mk.injEq] at H
                obtain⟨rfl,rfl,rfl⟩:=H
                go_wp2_with (first|((with_reducible refine gc_ 14 rfl ?_);refine goesL_ (some 152) rfl rfl Try.func14 (by kernel_rfl) rfl #[.pointer (some ⟨g,0,none⟩),.int .i64 6] rfl ar ?_;(with_reducible refine(spec_l1Cur_pick.calls g s0_0 s0_1 s0_2 6 t318 t319 t320 w0 _ ?side1 ?side2 A111.out).mono ?_);(case side1=>repeat (first|(with_reducible first|exact HI0.out|apply IsS42.alloc|apply IsS42.drewN|apply IsS42.drew|apply IsS42.set_1|apply IsS42.set_2)|exact HI0.out));(case side2=>repeat (first|(with_reducible first|exact HB.out|apply below_alloc|apply pw_below_drewN|apply below_drew1|refine below_set ?_ (IsS42.ge HI0.out))|exact HB.out));rintro e w119 ⟨rfl,hi,hb,hk⟩;refine⟨_,rfl,?_⟩;replace HO_1:=A_ (Kd.R_mono (Kd.R_keep (IsS42.apart (show IsS42 w0 _ g s0_0 s0_1 s0_2 from y1 HI0.out) (kr_ HO_1.out) (by decide)) hk (fun _ h=>h.2)) (fun _ h=>h.1));replace HK:=A_ (Kept.of_keep (S:=(fun k_=>(P1_ k_)∨k_=g)) (y6 HK.out) hk (.inl (.inr rfl)));replace HB:=A_ (hb);replace HI0:=A_ (hi);(try clear hb);(try clear hb2);(try clear hk);(try clear hi))|((with_reducible refine gc_ 42 rfl ?_);refine goesL_ (some 160) rfl rfl Try.func42 (by kernel_rfl) rfl #[.pointer (some ⟨g,0,none⟩),.slice Ao7 l1.length co7,.int .i64 127,.int .i64 (wrap64 (x3_5 - 1)),.int .i64 a4] rfl ar ?_;(with_reducible refine(ih kj5 (by have:=HJ5.out;omega) g s0_0 t319 t320 (fun k_=>some k_=(.slice Ao7 l1.length co7:Value).ownBlock) (.slice Ao7 l1.length co7) l1 127 (wrap64 (x3_5 - 1)) a4 t321 t324 t325 w0 _ ?side1 ?side2 ?side3 A113.out).mono ?_);(case side1=>repeat (first|(with_reducible first|exact HI0.out|apply IsS42.alloc|apply IsS42.drewN|apply IsS42.drew|apply IsS42.set_1|apply IsS42.set_2)|exact HI0.out));(case side2=>repeat (first|(with_reducible first|exact HB.out|apply below_alloc|apply pw_below_drewN|apply below_drew1|refine below_set ?_ (IsS42.ge HI0.out))|exact HB.out));(case side3=>exact Kd.R_tight rfl HO_1.out);rintro e w120 ⟨v322,rfl,ho0,hi,hb,hkp⟩;refine⟨_,rfl,?_⟩;have HO323:=A_ (Kd.R_mono (ok':=fun k_=>(P1_ k_∨w.heap.size≤k_)) ho0 (fun k_ hk_=>Or.elim hk_ (fun hs_=>(HO_1.out.1 k_ (hs_).symm)) (fun hn_=>(.inr (Nat.le_trans (by first|exact HK.out.1|exact(show Kept w _ (fun k_=>(P1_ k_)∨k_=g) from y6 HK.out).1) hn_)))));replace HI0:=A_ (hi);replace HK:=A_ (Kept.then_ (S:=(fun k_=>(P1_ k_)∨k_=g)) (y6 HK.out) hkp (fun k_ hs_=>Or.elim hs_ (fun hs_=>(fun e_=>Or.imp_left Or.inl ((HO_1.out.1 k_ e_.symm))) hs_) (fun e_=>.inl (.inr e_))));replace HB:=A_ (hb);clear HO_1;(try clear hb);(try clear hkp);(try clear ho0))|((with_reducible refine gate_builtin (b:=.append) (xs:=#[.tmp 161,.tmp 164]) rfl ?_);at_builtin;refine Kd.R_append k37 (w0:=w0) w0.heap.size rfl (.tmp 161) (.tmp 164) 23 37 (.agg #[(.int .i64 0),(.int .i64 0)]) 16 rfl Try.underlying23 info37 rfl (by decide) (by omega) v322 t321 (⟨4,a2⟩:S37) [.int .i64 4,.int .i64 a2] (fun k_=>(P1_ k_∨w.heap.size≤k_)) (fun _=>False) rfl rfl ?aP (fun _ hk=>hk.elim) ?aF ?aO ?aB ?aS ?aL ?_;(case aP=>exact k37_mkM _ _ _ (⟨4,a2⟩:S37));(case aB=>exact(y2 HB.out));(case aF=>exact(fun k_ hk=>(.inr (Nat.le_trans (by first|exact HK.out.1|exact(show Kept w _ (fun k_=>(P1_ k_)∨k_=g) from y6 HK.out).1) hk))));(case aO=>exact(kr_ HO323.out));(case aS=>exact(below_size (y2 HB.out)));(case aL=>have:=LMc114.out;omega);intro v327 w121 ho hb hg hat;rw[←Ny326.out] at ho;have HO328:=A_ (ho);replace HI0:=A_ (IsS42.grown (y1 HI0.out) hg (IsS42.own_ne HI0.out HO323.out (by decide)));replace HB:=A_ (hb);replace HK:=A_ (Kept.of_grown (S:=(fun k_=>(P1_ k_)∨k_=g)) hg (y6 HK.out) (fun k_ e_=>Or.imp_left Or.inl ((HO323.out.1 k_ e_))));clear HO323;clear ho hb hg hat;obtain⟨Ao122,co122,eo122⟩:=Kd.R_slice HO328.out;subst eo122)|((with_reducible refine gc_ 42 rfl ?_);refine goesL_ (some 173) rfl rfl Try.func42 (by kernel_rfl) rfl #[.pointer (some ⟨g,0,none⟩),.slice Ao122 y326.length co122,.int .i64 a2,.int .i64 (wrap64 (x3_5 - 1)),.int .i64 (wrap64 (a4+1))] rfl ar ?_;(with_reducible refine(ih kj5 (by have:=HJ5.out;omega) g s0_0 t324 t325 (fun k_=>some k_=(.slice Ao122 y326.length co122:Value).ownBlock) (.slice Ao122 y326.length co122) y326 a2 (wrap64 (x3_5 - 1)) (wrap64 (a4+1)) t329 t332 t333 w0 _ ?side1 ?side2 ?side3 A115.out).mono ?_);(case side1=>repeat (first|(with_reducible first|exact HI0.out|apply IsS42.alloc|apply IsS42.drewN|apply IsS42.drew|apply IsS42.set_1|apply IsS42.set_2)|exact HI0.out));(case side2=>repeat (first|(with_reducible first|exact HB.out|apply below_alloc|apply pw_below_drewN|apply below_drew1|refine below_set ?_ (IsS42.ge HI0.out))|exact HB.out));(case side3=>exact Kd.R_tight rfl HO328.out);rintro e w123 ⟨v330,rfl,ho0,hi,hb,hkp⟩;refine⟨_,rfl,?_⟩;have HO331:=A_ (Kd.R_mono (ok':=fun k_=>(P1_ k_∨w.heap.size≤k_)) ho0 (fun k_ hk_=>Or.elim hk_ (fun hs_=>(HO328.out.1 k_ (hs_).symm)) (fun hn_=>(.inr (Nat.le_trans (by first|exact HK.out.1|exact(show Kept w _ (fun k_=>(P1_ k_)∨k_=g) from y6 HK.out).1) hn_)))));replace HI0:=A_ (hi);replace HK:=A_ (Kept.then_ (S:=(fun k_=>(P1_ k_)∨k_=g)) (y6 HK.out) hkp (fun k_ hs_=>Or.elim hs_ (fun hs_=>(fun e_=>Or.imp_left Or.inl ((HO328.out.1 k_ e_.symm))) hs_) (fun e_=>.inl (.inr e_))));replace HB:=A_ (hb);clear HO328;(try clear hb);(try clear hkp);(try clear ho0))|((with_reducible refine gate_builtin (b:=.append) (xs:=#[.tmp 174,.tmp 176]) rfl ?_);at_builtin;refine Kd.R_append k37 (w0:=w0) w0.heap.size rfl (.tmp 174) (.tmp 176) 23 37 (.agg #[(.int .i64 0),(.int .i64 0)]) 16 rfl Try.underlying23 info37 rfl (by decide) (by omega) v330 t329 (⟨5,0⟩:S37) [.int .i64 5,.int .i64 0] (fun k_=>(P1_ k_∨w.heap.size≤k_)) (fun _=>False) rfl rfl ?aP (fun _ hk=>hk.elim) ?aF ?aO ?aB ?aS ?aL ?_;(case aP=>exact k37_mkM _ _ _ (⟨5,0⟩:S37));(case aB=>exact(y2 HB.out));(case aF=>exact(fun k_ hk=>(.inr (Nat.le_trans (by first|exact HK.out.1|exact(show Kept w _ (fun k_=>(P1_ k_)∨k_=g) from y6 HK.out).1) hk))));(case aO=>exact(kr_ HO331.out));(case aS=>exact(below_size (y2 HB.out)));(case aL=>have:=LMc116.out;omega);intro v335 w124 ho hb hg hat;rw[←Ny334.out] at ho;have HO336:=A_ (ho);replace HI0:=A_ (IsS42.grown (y1 HI0.out) hg (IsS42.own_ne HI0.out HO331.out (by decide)));replace HB:=A_ (hb);replace HK:=A_ (Kept.of_grown (S:=(fun k_=>(P1_ k_)∨k_=g)) hg (y6 HK.out) (fun k_ e_=>Or.imp_left Or.inl ((HO331.out.1 k_ e_))));clear HO331;clear ho hb hg hat;obtain⟨Ao125,co125,eo125⟩:=Kd.R_slice HO336.out;subst eo125)|((with_reducible refine gc_ 42 rfl ?_);refine goesL_ (some 185) rfl rfl Try.func42 (by kernel_rfl) rfl #[.pointer (some ⟨g,0,none⟩),.slice Ao125 y334.length co125,.int .i64 a2,.int .i64 (wrap64 (x3_5 - 1)),.int .i64 (wrap64 (a4+1))] rfl ar ?_;(with_reducible refine(ih kj5 (by have:=HJ5.out;omega) g s0_0 t332 t333 (fun k_=>some k_=(.slice Ao125 y334.length co125:Value).ownBlock) (.slice Ao125 y334.length co125) y334 a2 (wrap64 (x3_5 - 1)) (wrap64 (a4+1)) t337 t340 t341 w0 _ ?side1 ?side2 ?side3 A117.out).mono ?_);(case side1=>repeat (first|(with_reducible first|exact HI0.out|apply IsS42.alloc|apply IsS42.drewN|apply IsS42.drew|apply IsS42.set_1|apply IsS42.set_2)|exact HI0.out));(case side2=>repeat (first|(with_reducible first|exact HB.out|apply below_alloc|apply pw_below_drewN|apply below_drew1|refine below_set ?_ (IsS42.ge HI0.out))|exact HB.out));(case side3=>exact Kd.R_tight rfl HO336.out);rintro e w126 ⟨v338,rfl,ho0,hi,hb,hkp⟩;refine⟨_,rfl,?_⟩;have HO339:=A_ (Kd.R_mono (ok':=fun k_=>(P1_ k_∨w.heap.size≤k_)) ho0 (fun k_ hk_=>Or.elim hk_ (fun hs_=>(HO336.out.1 k_ (hs_).symm)) (fun hn_=>(.inr (Nat.le_trans (by first|exact HK.out.1|exact(show Kept w _ (fun k_=>(P1_ k_)∨k_=g) from y6 HK.out).1) hn_)))));replace HI0:=A_ (hi);replace HK:=A_ (Kept.then_ (S:=(fun k_=>(P1_ k_)∨k_=g)) (y6 HK.out) hkp (fun k_ hs_=>Or.elim hs_ (fun hs_=>(fun e_=>Or.imp_left Or.inl ((HO336.out.1 k_ e_.symm))) hs_) (fun e_=>.inl (.inr e_))));replace HB:=A_ (hb);clear HO336;(try clear hb);(try clear hkp);(try clear ho0))|((with_reducible refine gate_builtin (b:=.append) (xs:=#[.tmp 186,.tmp 188]) rfl ?_);at_builtin;refine Kd.R_append k37 (w0:=w0) w0.heap.size rfl (.tmp 186) (.tmp 188) 23 37 (.agg #[(.int .i64 0),(.int .i64 0)]) 16 rfl Try.underlying23 info37 rfl (by decide) (by omega) v338 t337 (⟨11,0⟩:S37) [.int .i64 11,.int .i64 0] (fun k_=>(P1_ k_∨w.heap.size≤k_)) (fun _=>False) rfl rfl ?aP (fun _ hk=>hk.elim) ?aF ?aO ?aB ?aS ?aL ?_;(case aP=>exact k37_mkM _ _ _ (⟨11,0⟩:S37));(case aB=>exact(y2 HB.out));(case aF=>exact(fun k_ hk=>(.inr (Nat.le_trans (by first|exact HK.out.1|exact(show Kept w _ (fun k_=>(P1_ k_)∨k_=g) from y6 HK.out).1) hk))));(case aO=>exact(kr_ HO339.out));(case aS=>exact(below_size (y2 HB.out)));(case aL=>have:=LMc118.out;omega);intro v343 w127 ho hb hg hat;rw[←Ny342.out] at ho;have HO344:=A_ (ho);replace HI0:=A_ (IsS42.grown (y1 HI0.out) hg (IsS42.own_ne HI0.out HO339.out (by decide)));replace HB:=A_ (hb);replace HK:=A_ (Kept.of_grown (S:=(fun k_=>(P1_ k_)∨k_=g)) hg (y6 HK.out) (fun k_ e_=>Or.imp_left Or.inl ((HO339.out.1 k_ e_))));clear HO339;clear ho hb hg hat))
                go_ret
                exact⟨_,rr_,kr_ HO344.out,y1 HI0.out,y2 HB.out,y6 HK.out⟩
              rw[if_neg c118] at H
              exact absurd H (by simp)
            rw[if_neg c116] at H
            exact absurd H (by simp)
          rw[if_neg c114] at H
          exact absurd H (by simp)
        · as_aux_lemma=>
          rw[if_neg c112] at H
          obtain⟨c112b0,c112b1⟩:=eF_ c112
          by_cases c128:t318=1
          · as_aux_lemma=>
            rw[if_pos c128] at H
            obtain⟨c128b0,c128b1⟩:=eT_ c128
            clear c128
            replace H:=Option.bind_eq_some_iff.mp H
            obtain⟨⟨t345,t348,t349⟩,A1290,H⟩:=H
            replace H:((spec_l1Cur_gen.f kj5 s0_0 t348 t349 t345 a2 (wrap64 (x3_5 - 1)) a4).bind fun bt350=>(some (bt350.1,bt350.2.1,bt350.2.2)))=some (r1,r2,r3):=H
            have A129:=A_ A1290
            clear A1290
            replace H:=Option.bind_eq_some_iff.mp H
            obtain⟨⟨t350,t353,t354⟩,A1300,H⟩:=H
            replace H:(some (t350,t353,t354))=some (r1,r2,r3):=H
            have A130:=A_ A1300
            clear A1300
            simp only[Option.some.injEq,Prod.mk.injEq] at H
            obtain⟨rfl,rfl,rfl⟩:=H
            go_wp2_with (first|((with_reducible refine gc_ 14 rfl ?_);refine goesL_ (some 152) rfl rfl Try.func14 (by kernel_rfl) rfl #[.pointer (some ⟨g,0,none⟩),.int .i64 6] rfl ar ?_;(with_reducible refine(spec_l1Cur_pick.calls g s0_0 s0_1 s0_2 6 t318 t319 t320 w0 _ ?side1 ?side2 A111.out).mono ?_);(case side1=>repeat (first|(with_reducible first|exact HI0.out|apply IsS42.alloc|apply IsS42.drewN|apply IsS42.drew|apply IsS42.set_1|apply IsS42.set_2)|exact HI0.out));(case side2=>repeat (first|(with_reducible first|exact HB.out|apply below_alloc|apply pw_below_drewN|apply below_drew1|refine below_set ?_ (IsS42.ge HI0.out))|exact HB.out));rintro e w131 ⟨rfl,hi,hb,hk⟩;refine⟨_,rfl,?_⟩;replace HO_1:=A_ (Kd.R_mono (Kd.R_keep (IsS42.apart (show IsS42 w0 _ g s0_0 s0_1 s0_2 from y1 HI0.out) (kr_ HO_1.out) (by decide)) hk (fun _ h=>h.2)) (fun _ h=>h.1));replace HK:=A_ (Kept.of_keep (S:=(fun k_=>(P1_ k_)∨k_=g)) (y6 HK.out) hk (.inl (.inr rfl)));replace HB:=A_ (hb);replace HI0:=A_ (hi);(try clear hb);(try clear hb2);(try clear hk);(try clear hi))|((with_reducible refine gc_ 42 rfl ?_);refine goesL_ (some 197) rfl rfl Try.func42 (by kernel_rfl) rfl #[.pointer (some ⟨g,0,none⟩),.slice Ao7 l1.length co7,.int .i64 64,.int .i64 (wrap64 (x3_5 - 1)),.int .i64 a4] rfl ar ?_;(with_reducible refine(ih kj5 (by have:=HJ5.out;omega) g s0_0 t319 t320 (fun k_=>some k_=(.slice Ao7 l1.length co7:Value).ownBlock) (.slice Ao7 l1.length co7) l1 64 (wrap64 (x3_5 - 1)) a4 t345 t348 t349 w0 _ ?side1 ?side2 ?side3 A129.out).mono ?_);(case side1=>repeat (first|(with_reducible first|exact HI0.out|apply IsS42.alloc|apply IsS42.drewN|apply IsS42.drew|apply IsS42.set_1|apply IsS42.set_2)|exact HI0.out));(case side2=>repeat (first|(with_reducible first|exact HB.out|apply below_alloc|apply pw_below_drewN|apply below_drew1|refine below_set ?_ (IsS42.ge HI0.out))|exact HB.out));(case side3=>exact Kd.R_tight rfl HO_1.out);rintro e w132 ⟨v346,rfl,ho0,hi,hb,hkp⟩;refine⟨_,rfl,?_⟩;have HO347:=A_ (Kd.R_mono (ok':=fun k_=>(P1_ k_∨w.heap.size≤k_)) ho0 (fun k_ hk_=>Or.elim hk_ (fun hs_=>(HO_1.out.1 k_ (hs_).symm)) (fun hn_=>(.inr (Nat.le_trans (by first|exact HK.out.1|exact(show Kept w _ (fun k_=>(P1_ k_)∨k_=g) from y6 HK.out).1) hn_)))));replace HI0:=A_ (hi);replace HK:=A_ (Kept.then_ (S:=(fun k_=>(P1_ k_)∨k_=g)) (y6 HK.out) hkp (fun k_ hs_=>Or.elim hs_ (fun hs_=>(fun e_=>Or.imp_left Or.inl ((HO_1.out.1 k_ e_.symm))) hs_) (fun e_=>.inl (.inr e_))));replace HB:=A_ (hb);clear HO_1;(try clear hb);(try clear hkp);(try clear ho0);obtain⟨Ao133,co133,eo133⟩:=Kd.R_slice HO347.out;subst eo133)|((with_reducible refine gc_ 42 rfl ?_);refine goesL_ (some 204) rfl rfl Try.func42 (by kernel_rfl) rfl #[.pointer (some ⟨g,0,none⟩),.slice Ao133 t345.length co133,.int .i64 a2,.int .i64 (wrap64 (x3_5 - 1)),.int .i64 a4] rfl ar ?_;(with_reducible refine(ih kj5 (by have:=HJ5.out;omega) g s0_0 t348 t349 (fun k_=>some k_=(.slice Ao133 t345.length co133:Value).ownBlock) (.slice Ao133 t345.length co133) t345 a2 (wrap64 (x3_5 - 1)) a4 t350 t353 t354 w0 _ ?side1 ?side2 ?side3 A130.out).mono ?_);(case side1=>repeat (first|(with_reducible first|exact HI0.out|apply IsS42.alloc|apply IsS42.drewN|apply IsS42.drew|apply IsS42.set_1|apply IsS42.set_2)|exact HI0.out));(case side2=>repeat (first|(with_reducible first|exact HB.out|apply below_alloc|apply pw_below_drewN|apply below_drew1|refine below_set ?_ (IsS42.ge HI0.out))|exact HB.out));(case side3=>exact Kd.R_tight rfl HO347.out);rintro e w134 ⟨v351,rfl,ho0,hi,hb,hkp⟩;refine⟨_,rfl,?_⟩;have HO352:=A_ (Kd.R_mono (ok':=fun k_=>(P1_ k_∨w.heap.size≤k_)) ho0 (fun k_ hk_=>Or.elim hk_ (fun hs_=>(HO347.out.1 k_ (hs_).symm)) (fun hn_=>(.inr (Nat.le_trans (by first|exact HK.out.1|exact(show Kept w _ (fun k_=>(P1_ k_)∨k_=g) from y6 HK.out).1) hn_)))));replace HI0:=A_ (hi);replace HK:=A_ (Kept.then_ (S:=(fun k_=>(P1_ k_)∨k_=g)) (y6 HK.out) hkp (fun k_ hs_=>Or.elim hs_ (fun hs_=>(fun e_=>Or.imp_left Or.inl ((HO347.out.1 k_ e_.symm))) hs_) (fun e_=>.inl (.inr e_))));replace HB:=A_ (hb);clear HO347;(try clear hb);(try clear hkp);(try clear ho0)))
            go_ret
            exact⟨_,rr_,kr_ HO352.out,y1 HI0.out,y2 HB.out,y6 HK.out⟩
          · as_aux_lemma=>
            rw[if_neg c128] at H
            obtain⟨c128b0,c128b1⟩:=eF_ c128
            by_cases c135:a2=127
            · as_aux_lemma=>
              rw[if_pos c135] at H
              obtain⟨c135b0,c135b1⟩:=eT_ c135
              clear c135
              replace H:=Option.bind_eq_some_iff.mp H
              obtain⟨⟨t355,t356,t357⟩,A1360,H⟩:=H
              replace H:(if t355=0 then ((spec_l1Cur_gen.f kj5 s0_0 t356 t357 l1 127 (wrap64 (x3_5 - 1)) a4).bind fun bt358=>((spec_l1Cur_pick.f s0_0 bt358.2.1 bt358.2.2 6).bind fun bt363=>(if bt358.1.length<8796093022208 then (some ((bt358.1++[(⟨wrap64 (118+bt363.1),0⟩:S37)]),bt363.2.1,bt363.2.2)) else (none)))) else (if t355=1 then ((spec_l1Cur_gen.f kj5 s0_0 t356 t357 l1 126 (wrap64 (x3_5 - 1)) a4).bind fun bt369=>(if bt369.1.length<8796093022208 then (some ((bt369.1++[(⟨176,0⟩:S37)]),bt369.2.1,bt369.2.2)) else (none))) else (if t355=2 then ((spec_l1Cur_gen.f kj5 s0_0 t356 t357 l1 125 (wrap64 (x3_5 - 1)) a4).bind fun bt377=>(if bt377.1.length<8796093022208 then (some ((bt377.1++[(⟨180,0⟩:S37)]),bt377.2.1,bt377.2.2)) else (none))) else (if t355=3 then ((spec_l1Cur_gen.f kj5 s0_0 t356 t357 l1 127 0 a4).bind fun bt385=>((spec_l1Cur_pick.f s0_0 bt385.2.1 bt385.2.2 20).bind fun bt390=>(if bt385.1.length<8796093022208 then (some ((bt385.1++[(⟨40,bt390.1⟩:S37)]),bt390.2.1,bt390.2.2)) else (none)))) else ((spec_l1Cur_gen.f kj5 s0_0 t356 t357 l1 127 (wrap64 (x3_5 - 1)) a4).bind fun bt396=>((spec_l1Cur_gen.f kj5 s0_0 bt396.2.1 bt396.2.2 bt396.1 127 (wrap64 (x3_5 - 1)) a4).bind fun bt401=>((spec_l1Cur_pick.f s0_0 bt401.2.1 bt401.2.2 21).bind fun bt406=>(if bt401.1.length<8796093022208 then (some ((bt401.1++[(⟨wrap64 (97+bt406.1),0⟩:S37)]),bt406.2.1,bt406.2.2)) else (none)))))))))=some (r1,r2,r3):=H
              have A136:=A_ A1360
              clear A1360
              by_cases c137:t355=0
              · as_aux_lemma=>
                rw[if_pos c137] at H
                obtain⟨c137b0,c137b1⟩:=eT_ c137
                clear c137
                replace H:=Option.bind_eq_some_iff.mp H
                obtain⟨⟨t358,t361,t362⟩,A1380,H⟩:=H
                replace H:((spec_l1Cur_pick.f s0_0 t361 t362 6).bind fun bt363=>(if t358.length<8796093022208 then (some ((t358++[(⟨wrap64 (118+bt363.1),0⟩:S37)]),bt363.2.1,bt363.2.2)) else (none)))=some (r1,r2,r3):=H
                have A138:=A_ A1380
                clear A1380
                replace H:=Option.bind_eq_some_iff.mp H
                obtain⟨⟨t363,t364,t365⟩,A1390,H⟩:=H
                replace H:(if t358.length<8796093022208 then (some ((t358++[(⟨wrap64 (118+t363),0⟩:S37)]),t364,t365)) else (none))=some (r1,r2,r3):=H
                have A139:=A_ A1390
                clear A1390
                by_cases c140:t358.length<8796093022208
                · as_aux_lemma=>
                  rw[if_pos c140] at H
                  have LMc140:=A_ c140
                  clear c140
                  obtain⟨y366,hy366⟩:∃ y_:List (S37),y_=(t358++[(⟨wrap64 (118+t363),0⟩:S37)]):=⟨_,rfl⟩
                  replace H:(some (y366,t364,t365))=some (r1,r2,r3):=by first|(rw[hy366];with_reducible exact H)|(have H2_:=(Option.bind_some _ _).symm.trans H;rw[hy366];with_reducible exact H2_)|(have H2_:=(Option.bind_some _ _).symm.trans H;with_reducible exact H2_)|with_reducible exact H|(rw[hy366];exact H)|exact H
                  have Ny366:=A_ hy366
                  clear hy366
                  simp only[Option.some.injEq,Prod.mk.injEq] at H
                  obtain⟨rfl,rfl,rfl⟩:=H
                  go_wp2_with (first|((with_reducible refine gc_ 14 rfl ?_);refine goesL_ (some 152) rfl rfl Try.func14 (by kernel_rfl) rfl #[.pointer (some ⟨g,0,none⟩),.int .i64 6] rfl ar ?_;(with_reducible refine(spec_l1Cur_pick.calls g s0_0 s0_1 s0_2 6 t318 t319 t320 w0 _ ?side1 ?side2 A111.out).mono ?_);(case side1=>repeat (first|(with_reducible first|exact HI0.out|apply IsS42.alloc|apply IsS42.drewN|apply IsS42.drew|apply IsS42.set_1|apply IsS42.set_2)|exact HI0.out));(case side2=>repeat (first|(with_reducible first|exact HB.out|apply below_alloc|apply pw_below_drewN|apply below_drew1|refine below_set ?_ (IsS42.ge HI0.out))|exact HB.out));rintro e w141 ⟨rfl,hi,hb,hk⟩;refine⟨_,rfl,?_⟩;replace HO_1:=A_ (Kd.R_mono (Kd.R_keep (IsS42.apart (show IsS42 w0 _ g s0_0 s0_1 s0_2 from y1 HI0.out) (kr_ HO_1.out) (by decide)) hk (fun _ h=>h.2)) (fun _ h=>h.1));replace HK:=A_ (Kept.of_keep (S:=(fun k_=>(P1_ k_)∨k_=g)) (y6 HK.out) hk (.inl (.inr rfl)));replace HB:=A_ (hb);replace HI0:=A_ (hi);(try clear hb);(try clear hb2);(try clear hk);(try clear hi))|((with_reducible refine gc_ 14 rfl ?_);refine goesL_ (some 209) rfl rfl Try.func14 (by kernel_rfl) rfl #[.pointer (some ⟨g,0,none⟩),.int .i64 6] rfl ar ?_;(with_reducible refine(spec_l1Cur_pick.calls g s0_0 t319 t320 6 t355 t356 t357 w0 _ ?side1 ?side2 A136.out).mono ?_);(case side1=>repeat (first|(with_reducible first|exact HI0.out|apply IsS42.alloc|apply IsS42.drewN|apply IsS42.drew|apply IsS42.set_1|apply IsS42.set_2)|exact HI0.out));(case side2=>repeat (first|(with_reducible first|exact HB.out|apply below_alloc|apply pw_below_drewN|apply below_drew1|refine below_set ?_ (IsS42.ge HI0.out))|exact HB.out));rintro e w142 ⟨rfl,hi,hb,hk⟩;refine⟨_,rfl,?_⟩;replace HO_1:=A_ (Kd.R_mono (Kd.R_keep (IsS42.apart (show IsS42 w0 _ g s0_0 t319 t320 from y1 HI0.out) (kr_ HO_1.out) (by decide)) hk (fun _ h=>h.2)) (fun _ h=>h.1));replace HK:=A_ (Kept.of_keep (S:=(fun k_=>(P1_ k_)∨k_=g)) (y6 HK.out) hk (.inl (.inr rfl)));replace HB:=A_ (hb);replace HI0:=A_ (hi);(try clear hb);(try clear hb2);(try clear hk);(try clear hi))|((with_reducible refine gc_ 42 rfl ?_);refine goesL_ (some 217) rfl rfl Try.func42 (by kernel_rfl) rfl #[.pointer (some ⟨g,0,none⟩),.slice Ao7 l1.length co7,.int .i64 127,.int .i64 (wrap64 (x3_5 - 1)),.int .i64 a4] rfl ar ?_;(with_reducible refine(ih kj5 (by have:=HJ5.out;omega) g s0_0 t356 t357 (fun k_=>some k_=(.slice Ao7 l1.length co7:Value).ownBlock) (.slice Ao7 l1.length co7) l1 127 (wrap64 (x3_5 - 1)) a4 t358 t361 t362 w0 _ ?side1 ?side2 ?side3 A138.out).mono ?_);(case side1=>repeat (first|(with_reducible first|exact HI0.out|apply IsS42.alloc|apply IsS42.drewN|apply IsS42.drew|apply IsS42.set_1|apply IsS42.set_2)|exact HI0.out));(case side2=>repeat (first|(with_reducible first|exact HB.out|apply below_alloc|apply pw_below_drewN|apply below_drew1|refine below_set ?_ (IsS42.ge HI0.out))|exact HB.out));(case side3=>exact Kd.R_tight rfl HO_1.out);rintro e w143 ⟨v359,rfl,ho0,hi,hb,hkp⟩;refine⟨_,rfl,?_⟩;have HO360:=A_ (Kd.R_mono (ok':=fun k_=>(P1_ k_∨w.heap.size≤k_)) ho0 (fun k_ hk_=>Or.elim hk_ (fun hs_=>(HO_1.out.1 k_ (hs_).symm)) (fun hn_=>(.inr (Nat.le_trans (by first|exact HK.out.1|exact(show Kept w _ (fun k_=>(P1_ k_)∨k_=g) from y6 HK.out).1) hn_)))));replace HI0:=A_ (hi);replace HK:=A_ (Kept.then_ (S:=(fun k_=>(P1_ k_)∨k_=g)) (y6 HK.out) hkp (fun k_ hs_=>Or.elim hs_ (fun hs_=>(fun e_=>Or.imp_left Or.inl ((HO_1.out.1 k_ e_.symm))) hs_) (fun e_=>.inl (.inr e_))));replace HB:=A_ (hb);clear HO_1;(try clear hb);(try clear hkp);(try clear ho0))|((with_reducible refine gc_ 14 rfl ?_);refine goesL_ (some 219) rfl rfl Try.func14 (by kernel_rfl) rfl #[.pointer (some ⟨g,0,none⟩),.int .i64 6] rfl ar ?_;(with_reducible refine(spec_l1Cur_pick.calls g s0_0 t361 t362 6 t363 t364 t365 w0 _ ?side1 ?side2 A139.out).mono ?_);(case side1=>repeat (first|(with_reducible first|exact HI0.out|apply IsS42.alloc|apply IsS42.drewN|apply IsS42.drew|apply IsS42.set_1|apply IsS42.set_2)|exact HI0.out));(case side2=>repeat (first|(with_reducible first|exact HB.out|apply below_alloc|apply pw_below_drewN|apply below_drew1|refine below_set ?_ (IsS42.ge HI0.out))|exact HB.out));rintro e w144 ⟨rfl,hi,hb,hk⟩;refine⟨_,rfl,?_⟩;replace HO360:=A_ (Kd.R_mono (Kd.R_keep (IsS42.apart (show IsS42 w0 _ g s0_0 t361 t362 from y1 HI0.out) (kr_ HO360.out) (by decide)) hk (fun _ h=>h.2)) (fun _ h=>h.1));replace HK:=A_ (Kept.of_keep (S:=(fun k_=>(P1_ k_)∨k_=g)) (y6 HK.out) hk (.inl (.inr rfl)));replace HB:=A_ (hb);replace HI0:=A_ (hi);(try clear hb);(try clear hb2);(try clear hk);(try clear hi))|((with_reducible refine gate_builtin (b:=.append) (xs:=#[.tmp 217,.tmp 222]) rfl ?_);at_builtin;refine Kd.R_append k37 (w0:=w0) w0.heap.size rfl (.tmp 217) (.tmp 222) 23 37 (.agg #[(.int .i64 0),(.int .i64 0)]) 16 rfl Try.underlying23 info37 rfl (by decide) (by omega) v359 t358 (⟨wrap64 (118+t363),0⟩:S37) [.int .i64 (wrap64 (118+t363)),.int .i64 0] (fun k_=>(P1_ k_∨w.heap.size≤k_)) (fun _=>False) rfl rfl ?aP (fun _ hk=>hk.elim) ?aF ?aO ?aB ?aS ?aL ?_;(case aP=>exact k37_mkM _ _ _ (⟨wrap64 (118+t363),0⟩:S37));(case aB=>exact(y2 HB.out));(case aF=>exact(fun k_ hk=>(.inr (Nat.le_trans (by first|exact HK.out.1|exact(show Kept w _ (fun k_=>(P1_ k_)∨k_=g) from y6 HK.out).1) hk))));(case aO=>exact(kr_ HO360.out));(case aS=>exact(below_size (y2 HB.out)));(case aL=>have:=LMc140.out;omega);intro v367 w145 ho hb hg hat;rw[←Ny366.out] at ho;have HO368:=A_ (ho);replace HI0:=A_ (IsS42.grown (y1 HI0.out) hg (IsS42.own_ne HI0.out HO360.out (by decide)));replace HB:=A_ (hb);replace HK:=A_ (Kept.of_grown (S:=(fun k_=>(P1_ k_)∨k_=g)) hg (y6 HK.out) (fun k_ e_=>Or.imp_left Or.inl ((HO360.out.1 k_ e_))));clear HO360;clear ho hb hg hat))
                  go_ret
                  exact⟨_,rr_,kr_ HO368.out,y1 HI0.out,y2 HB.out,y6 HK.out⟩
                rw[if_neg c140] at H
                exact absurd H (by simp)
              · as_aux_lemma=>
                rw[if_neg c137] at H
                obtain⟨c137b0,c137b1⟩:=eF_ c137
                by_cases c146:t355=1
                · as_aux_lemma=>
                  rw[if_pos c146] at H
                  obtain⟨c146b0,c146b1⟩:=eT_ c146
                  clear c146
                  replace H:=Option.bind_eq_some_iff.mp H
                  obtain⟨⟨t369,t372,t373⟩,A1470,H⟩:=H
                  replace H:(if t369.length<8796093022208 then (some ((t369++[(⟨176,0⟩:S37)]),t372,t373)) else (none))=some (r1,r2,r3):=H
                  have A147:=A_ A1470
                  clear A1470
                  by_cases c148:t369.length<8796093022208
                  · as_aux_lemma=>
                    rw[if_pos c148] at H
                    have LMc148:=A_ c148
                    clear c148
                    obtain⟨y374,hy374⟩:∃ y_:List (S37),y_=(t369++[(⟨176,0⟩:S37)]):=⟨_,rfl⟩
                    replace H:(some (y374,t372,t373))=some (r1,r2,r3):=by first|(rw[hy374];with_reducible exact H)|(have H2_:=(Option.bind_some _ _).symm.trans H;rw[hy374];with_reducible exact H2_)|(have H2_:=(Option.bind_some _ _).symm.trans H;with_reducible exact H2_)|with_reducible exact H|(rw[hy374];exact H)|exact H
                    have Ny374:=A_ hy374
                    clear hy374
                    simp only[Option.some.injEq,Prod.mk.injEq] at H
                    obtain⟨rfl,rfl,rfl⟩:=H
                    go_wp2_with (first|((with_reducible refine gc_ 14 rfl ?_);refine goesL_ (some 152) rfl rfl Try.func14 (by kernel_rfl) rfl #[.pointer (some ⟨g,0,none⟩),.int .i64 6] rfl ar ?_;(with_reducible refine(spec_l1Cur_pick.calls g s0_0 s0_1 s0_2 6 t318 t319 t320 w0 _ ?side1 ?side2 A111.out).mono ?_);(case side1=>repeat (first|(with_reducible first|exact HI0.out|apply IsS42.alloc|apply IsS42.drewN|apply IsS42.drew|apply IsS42.set_1|apply IsS42.set_2)|exact HI0.out));(case side2=>repeat (first|(with_reducible first|exact HB.out|apply below_alloc|apply pw_below_drewN|apply below_drew1|refine below_set ?_ (IsS42.ge HI0.out))|exact HB.out));rintro e w149 ⟨rfl,hi,hb,hk⟩;refine⟨_,rfl,?_⟩;replace HO_1:=A_ (Kd.R_mono (Kd.R_keep (IsS42.apart (show IsS42 w0 _ g s0_0 s0_1 s0_2 from y1 HI0.out) (kr_ HO_1.out) (by decide)) hk (fun _ h=>h.2)) (fun _ h=>h.1));replace HK:=A_ (Kept.of_keep (S:=(fun k_=>(P1_ k_)∨k_=g)) (y6 HK.out) hk (.inl (.inr rfl)));replace HB:=A_ (hb);replace HI0:=A_ (hi);(try clear hb);(try clear hb2);(try clear hk);(try clear hi))|((with_reducible refine gc_ 14 rfl ?_);refine goesL_ (some 209) rfl rfl Try.func14 (by kernel_rfl) rfl #[.pointer (some ⟨g,0,none⟩),.int .i64 6] rfl ar ?_;(with_reducible refine(spec_l1Cur_pick.calls g s0_0 t319 t320 6 t355 t356 t357 w0 _ ?side1 ?side2 A136.out).mono ?_);(case side1=>repeat (first|(with_reducible first|exact HI0.out|apply IsS42.alloc|apply IsS42.drewN|apply IsS42.drew|apply IsS42.set_1|apply IsS42.set_2)|exact HI0.out));(case side2=>repeat (first|(with_reducible first|exact HB.out|apply below_alloc|apply pw_below_drewN|apply below_drew1|refine below_set ?_ (IsS42.ge HI0.out))|exact HB.out));rintro e w150 ⟨rfl,hi,hb,hk⟩;refine⟨_,rfl,?_⟩;replace HO_1:=A_ (Kd.R_mono (Kd.R_keep (IsS42.apart (show IsS42 w0 _ g s0_0 t319 t320 from y1 HI0.out) (kr_ HO_1.out) (by decide)) hk (fun _ h=>h.2)) (fun _ h=>h.1));replace HK:=A_ (Kept.of_keep (S:=(fun k_=>(P1_ k_)∨k_=g)) (y6 HK.out) hk (.inl (.inr rfl)));replace HB:=A_ (hb);replace HI0:=A_ (hi);(try clear hb);(try clear hb2);(try clear hk);(try clear hi))|((with_reducible refine gc_ 42 rfl ?_);refine goesL_ (some 231) rfl rfl Try.func42 (by kernel_rfl) rfl #[.pointer (some ⟨g,0,none⟩),.slice Ao7 l1.length co7,.int .i64 126,.int .i64 (wrap64 (x3_5 - 1)),.int .i64 a4] rfl ar ?_;(with_reducible refine(ih kj5 (by have:=HJ5.out;omega) g s0_0 t356 t357 (fun k_=>some k_=(.slice Ao7 l1.length co7:Value).ownBlock) (.slice Ao7 l1.length co7) l1 126 (wrap64 (x3_5 - 1)) a4 t369 t372 t373 w0 _ ?side1 ?side2 ?side3 A147.out).mono ?_);(case side1=>repeat (first|(with_reducible first|exact HI0.out|apply IsS42.alloc|apply IsS42.drewN|apply IsS42.drew|apply IsS42.set_1|apply IsS42.set_2)|exact HI0.out));(case side2=>repeat (first|(with_reducible first|exact HB.out|apply below_alloc|apply pw_below_drewN|apply below_drew1|refine below_set ?_ (IsS42.ge HI0.out))|exact HB.out));(case side3=>exact Kd.R_tight rfl HO_1.out);rintro e w151 ⟨v370,rfl,ho0,hi,hb,hkp⟩;refine⟨_,rfl,?_⟩;have HO371:=A_ (Kd.R_mono (ok':=fun k_=>(P1_ k_∨w.heap.size≤k_)) ho0 (fun k_ hk_=>Or.elim hk_ (fun hs_=>(HO_1.out.1 k_ (hs_).symm)) (fun hn_=>(.inr (Nat.le_trans (by first|exact HK.out.1|exact(show Kept w _ (fun k_=>(P1_ k_)∨k_=g) from y6 HK.out).1) hn_)))));replace HI0:=A_ (hi);replace HK:=A_ (Kept.then_ (S:=(fun k_=>(P1_ k_)∨k_=g)) (y6 HK.out) hkp (fun k_ hs_=>Or.elim hs_ (fun hs_=>(fun e_=>Or.imp_left Or.inl ((HO_1.out.1 k_ e_.symm))) hs_) (fun e_=>.inl (.inr e_))));replace HB:=A_ (hb);clear HO_1;(try clear hb);(try clear hkp);(try clear ho0))|((with_reducible refine gate_builtin (b:=.append) (xs:=#[.tmp 231,.tmp 233]) rfl ?_);at_builtin;refine Kd.R_append k37 (w0:=w0) w0.heap.size rfl (.tmp 231) (.tmp 233) 23 37 (.agg #[(.int .i64 0),(.int .i64 0)]) 16 rfl Try.underlying23 info37 rfl (by decide) (by omega) v370 t369 (⟨176,0⟩:S37) [.int .i64 176,.int .i64 0] (fun k_=>(P1_ k_∨w.heap.size≤k_)) (fun _=>False) rfl rfl ?aP (fun _ hk=>hk.elim) ?aF ?aO ?aB ?aS ?aL ?_;(case aP=>exact k37_mkM _ _ _ (⟨176,0⟩:S37));(case aB=>exact(y2 HB.out));(case aF=>exact(fun k_ hk=>(.inr (Nat.le_trans (by first|exact HK.out.1|exact(show Kept w _ (fun k_=>(P1_ k_)∨k_=g) from y6 HK.out).1) hk))));(case aO=>exact(kr_ HO371.out));(case aS=>exact(below_size (y2 HB.out)));(case aL=>have:=LMc148.out;omega);intro v375 w152 ho hb hg hat;rw[←Ny374.out] at ho;have HO376:=A_ (ho);replace HI0:=A_ (IsS42.grown (y1 HI0.out) hg (IsS42.own_ne HI0.out HO371.out (by decide)));replace HB:=A_ (hb);replace HK:=A_ (Kept.of_grown (S:=(fun k_=>(P1_ k_)∨k_=g)) hg (y6 HK.out) (fun k_ e_=>Or.imp_left Or.inl ((HO371.out.1 k_ e_))));clear HO371;clear ho hb hg hat))
                    go_ret
                    exact⟨_,rr_,kr_ HO376.out,y1 HI0.out,y2 HB.out,y6 HK.out⟩
                  rw[if_neg c148] at H
                  exact absurd H (by simp)
                · as_aux_lemma=>
                  rw[if_neg c146] at H
                  obtain⟨c146b0,c146b1⟩:=eF_ c146
                  by_cases c153:t355=2
                  · as_aux_lemma=>
                    rw[if_pos c153] at H
                    obtain⟨c153b0,c153b1⟩:=eT_ c153
                    clear c153
                    replace H:=Option.bind_eq_some_iff.mp H
                    obtain⟨⟨t377,t380,t381⟩,A1540,H⟩:=H
                    replace H:(if t377.length<8796093022208 then (some ((t377++[(⟨180,0⟩:S37)]),t380,t381)) else (none))=some (r1,r2,r3):=H
                    have A154:=A_ A1540
                    clear A1540
                    by_cases c155:t377.length<8796093022208
                    · as_aux_lemma=>
                      rw[if_pos c155] at H
                      have LMc155:=A_ c155
                      clear c155
                      obtain⟨y382,hy382⟩:∃ y_:List (S37),y_=(t377++[(⟨180,0⟩:S37)]):=⟨_,rfl⟩
                      replace H:(some (y382,t380,t381))=some (r1,r2,r3):=by first|(rw[hy382];with_reducible exact H)|(have H2_:=(Option.bind_some _ _).symm.trans H;rw[hy382];with_reducible exact H2_)|(have H2_:=(Option.bind_some _ _).symm.trans H;with_reducible exact H2_)|with_reducible exact H|(rw[hy382];exact H)|exact H
                      have Ny382:=A_ hy382
                      clear hy382
                      simp only[Option.some.injEq,Prod.mk.injEq] at H
                      obtain⟨rfl,rfl,rfl⟩:=H
                      go_wp2_with (first|((with_reducible refine gc_ 14 rfl ?_);refine goesL_ (some 152) rfl rfl Try.func14 (by kernel_rfl) rfl #[.pointer (some ⟨g,0,none⟩),.int .i64 6] rfl ar ?_;(with_reducible refine(spec_l1Cur_pick.calls g s0_0 s0_1 s0_2 6 t318 t319 t320 w0 _ ?side1 ?side2 A111.out).mono ?_);(case side1=>repeat (first|(with_reducible first|exact HI0.out|apply IsS42.alloc|apply IsS42.drewN|apply IsS42.drew|apply IsS42.set_1|apply IsS42.set_2)|exact HI0.out));(case side2=>repeat (first|(with_reducible first|exact HB.out|apply below_alloc|apply pw_below_drewN|apply below_drew1|refine below_set ?_ (IsS42.ge HI0.out))|exact HB.out));rintro e w156 ⟨rfl,hi,hb,hk⟩;refine⟨_,rfl,?_⟩;replace HO_1:=A_ (Kd.R_mono (Kd.R_keep (IsS42.apart (show IsS42 w0 _ g s0_0 s0_1 s0_2 from y1 HI0.out) (kr_ HO_1.out) (by decide)) hk (fun _ h=>h.2)) (fun _ h=>h.1));replace HK:=A_ (Kept.of_keep (S:=(fun k_=>(P1_ k_)∨k_=g)) (y6 HK.out) hk (.inl (.inr rfl)));replace HB:=A_ (hb);replace HI0:=A_ (hi);(try clear hb);(try clear hb2);(try clear hk);(try clear hi))|((with_reducible refine gc_ 14 rfl ?_);refine goesL_ (some 209) rfl rfl Try.func14 (by kernel_rfl) rfl #[.pointer (some ⟨g,0,none⟩),.int .i64 6] rfl ar ?_;(with_reducible refine(spec_l1Cur_pick.calls g s0_0 t319 t320 6 t355 t356 t357 w0 _ ?side1 ?side2 A136.out).mono ?_);(case side1=>repeat (first|(with_reducible first|exact HI0.out|apply IsS42.alloc|apply IsS42.drewN|apply IsS42.drew|apply IsS42.set_1|apply IsS42.set_2)|exact HI0.out));(case side2=>repeat (first|(with_reducible first|exact HB.out|apply below_alloc|apply pw_below_drewN|apply below_drew1|refine below_set ?_ (IsS42.ge HI0.out))|exact HB.out));rintro e w157 ⟨rfl,hi,hb,hk⟩;refine⟨_,rfl,?_⟩;replace HO_1:=A_ (Kd.R_mono (Kd.R_keep (IsS42.apart (show IsS42 w0 _ g s0_0 t319 t320 from y1 HI0.out) (kr_ HO_1.out) (by decide)) hk (fun _ h=>h.2)) (fun _ h=>h.1));replace HK:=A_ (Kept.of_keep (S:=(fun k_=>(P1_ k_)∨k_=g)) (y6 HK.out) hk (.inl (.inr rfl)));replace HB:=A_ (hb);replace HI0:=A_ (hi);(try clear hb);(try clear hb2);(try clear hk);(try clear hi))|((with_reducible refine gc_ 42 rfl ?_);refine goesL_ (some 242) rfl rfl Try.func42 (by kernel_rfl) rfl #[.pointer (some ⟨g,0,none⟩),.slice Ao7 l1.length co7,.int .i64 125,.int .i64 (wrap64 (x3_5 - 1)),.int .i64 a4] rfl ar ?_;(with_reducible refine(ih kj5 (by have:=HJ5.out;omega) g s0_0 t356 t357 (fun k_=>some k_=(.slice Ao7 l1.length co7:Value).ownBlock) (.slice Ao7 l1.length co7) l1 125 (wrap64 (x3_5 - 1)) a4 t377 t380 t381 w0 _ ?side1 ?side2 ?side3 A154.out).mono ?_);(case side1=>repeat (first|(with_reducible first|exact HI0.out|apply IsS42.alloc|apply IsS42.drewN|apply IsS42.drew|apply IsS42.set_1|apply IsS42.set_2)|exact HI0.out));(case side2=>repeat (first|(with_reducible first|exact HB.out|apply below_alloc|apply pw_below_drewN|apply below_drew1|refine below_set ?_ (IsS42.ge HI0.out))|exact HB.out));(case side3=>exact Kd.R_tight rfl HO_1.out);rintro e w158 ⟨v378,rfl,ho0,hi,hb,hkp⟩;refine⟨_,rfl,?_⟩;have HO379:=A_ (Kd.R_mono (ok':=fun k_=>(P1_ k_∨w.heap.size≤k_)) ho0 (fun k_ hk_=>Or.elim hk_ (fun hs_=>(HO_1.out.1 k_ (hs_).symm)) (fun hn_=>(.inr (Nat.le_trans (by first|exact HK.out.1|exact(show Kept w _ (fun k_=>(P1_ k_)∨k_=g) from y6 HK.out).1) hn_)))));replace HI0:=A_ (hi);replace HK:=A_ (Kept.then_ (S:=(fun k_=>(P1_ k_)∨k_=g)) (y6 HK.out) hkp (fun k_ hs_=>Or.elim hs_ (fun hs_=>(fun e_=>Or.imp_left Or.inl ((HO_1.out.1 k_ e_.symm))) hs_) (fun e_=>.inl (.inr e_))));replace HB:=A_ (hb);clear HO_1;(try clear hb);(try clear hkp);(try clear ho0))|((with_reducible refine gate_builtin (b:=.append) (xs:=#[.tmp 242,.tmp 244]) rfl ?_);at_builtin;refine Kd.R_append k37 (w0:=w0) w0.heap.size rfl (.tmp 242) (.tmp 244) 23 37 (.agg #[(.int .i64 0),(.int .i64 0)]) 16 rfl Try.underlying23 info37 rfl (by decide) (by omega) v378 t377 (⟨180,0⟩:S37) [.int .i64 180,.int .i64 0] (fun k_=>(P1_ k_∨w.heap.size≤k_)) (fun _=>False) rfl rfl ?aP (fun _ hk=>hk.elim) ?aF ?aO ?aB ?aS ?aL ?_;(case aP=>exact k37_mkM _ _ _ (⟨180,0⟩:S37));(case aB=>exact(y2 HB.out));(case aF=>exact(fun k_ hk=>(.inr (Nat.le_trans (by first|exact HK.out.1|exact(show Kept w _ (fun k_=>(P1_ k_)∨k_=g) from y6 HK.out).1) hk))));(case aO=>exact(kr_ HO379.out));(case aS=>exact(below_size (y2 HB.out)));(case aL=>have:=LMc155.out;omega);intro v383 w159 ho hb hg hat;rw[←Ny382.out] at ho;have HO384:=A_ (ho);replace HI0:=A_ (IsS42.grown (y1 HI0.out) hg (IsS42.own_ne HI0.out HO379.out (by decide)));replace HB:=A_ (hb);replace HK:=A_ (Kept.of_grown (S:=(fun k_=>(P1_ k_)∨k_=g)) hg (y6 HK.out) (fun k_ e_=>Or.imp_left Or.inl ((HO379.out.1 k_ e_))));clear HO379;clear ho hb hg hat))
                      go_ret
                      exact⟨_,rr_,kr_ HO384.out,y1 HI0.out,y2 HB.out,y6 HK.out⟩
                    rw[if_neg c155] at H
                    exact absurd H (by simp)
                  · as_aux_lemma=>
                    rw[if_neg c153] at H
                    obtain⟨c153b0,c153b1⟩:=eF_ c153
                    by_cases c160:t355=3
                    · as_aux_lemma=>
                      rw[if_pos c160] at H
                      obtain⟨c160b0,c160b1⟩:=eT_ c160
                      clear c160
                      replace H:=Option.bind_eq_some_iff.mp H
                      obtain⟨⟨t385,t388,t389⟩,A1610,H⟩:=H
                      replace H:((spec_l1Cur_pick.f s0_0 t388 t389 20).bind fun bt390=>(if t385.length<8796093022208 then (some ((t385++[(⟨40,bt390.1⟩:S37)]),bt390.2.1,bt390.2.2)) else (none)))=some (r1,r2,r3):=H
                      have A161:=A_ A1610
                      clear A1610
                      replace H:=Option.bind_eq_some_iff.mp H
                      obtain⟨⟨t390,t391,t392⟩,A1620,H⟩:=H
                      replace H:(if t385.length<8796093022208 then (some ((t385++[(⟨40,t390⟩:S37)]),t391,t392)) else (none))=some (r1,r2,r3):=H
                      have A162:=A_ A1620
                      clear A1620
                      by_cases c163:t385.length<8796093022208
                      · as_aux_lemma=>
                        rw[if_pos c163] at H
                        have LMc163:=A_ c163
                        clear c163
                        obtain⟨y393,hy393⟩:∃ y_:List (S37),y_=(t385++[(⟨40,t390⟩:S37)]):=⟨_,rfl⟩
                        replace H:(some (y393,t391,t392))=some (r1,r2,r3):=by first|(rw[hy393];with_reducible exact H)|(have H2_:=(Option.bind_some _ _).symm.trans H;rw[hy393];with_reducible exact H2_)|(have H2_:=(Option.bind_some _ _).symm.trans H;with_reducible exact H2_)|with_reducible exact H|(rw[hy393];exact H)|exact H
                        have Ny393:=A_ hy393
                        clear hy393
                        simp only[Option.some.injEq,Prod.mk.injEq] at H
                        obtain⟨rfl,rfl,rfl⟩:=H
                        go_wp2_with (first|((with_reducible refine gc_ 14 rfl ?_);refine goesL_ (some 152) rfl rfl Try.func14 (by kernel_rfl) rfl #[.pointer (some ⟨g,0,none⟩),.int .i64 6] rfl ar ?_;(with_reducible refine(spec_l1Cur_pick.calls g s0_0 s0_1 s0_2 6 t318 t319 t320 w0 _ ?side1 ?side2 A111.out).mono ?_);(case side1=>repeat (first|(with_reducible first|exact HI0.out|apply IsS42.alloc|apply IsS42.drewN|apply IsS42.drew|apply IsS42.set_1|apply IsS42.set_2)|exact HI0.out));(case side2=>repeat (first|(with_reducible first|exact HB.out|apply below_alloc|apply pw_below_drewN|apply below_drew1|refine below_set ?_ (IsS42.ge HI0.out))|exact HB.out));rintro e w164 ⟨rfl,hi,hb,hk⟩;refine⟨_,rfl,?_⟩;replace HO_1:=A_ (Kd.R_mono (Kd.R_keep (IsS42.apart (show IsS42 w0 _ g s0_0 s0_1 s0_2 from y1 HI0.out) (kr_ HO_1.out) (by decide)) hk (fun _ h=>h.2)) (fun _ h=>h.1));replace HK:=A_ (Kept.of_keep (S:=(fun k_=>(P1_ k_)∨k_=g)) (y6 HK.out) hk (.inl (.inr rfl)));replace HB:=A_ (hb);replace HI0:=A_ (hi);(try clear hb);(try clear hb2);(try clear hk);(try clear hi))|((with_reducible refine gc_ 14 rfl ?_);refine goesL_ (some 209) rfl rfl Try.func14 (by kernel_rfl) rfl #[.pointer (some ⟨g,0,none⟩),.int .i64 6] rfl ar ?_;(with_reducible refine(spec_l1Cur_pick.calls g s0_0 t319 t320 6 t355 t356 t357 w0 _ ?side1 ?side2 A136.out).mono ?_);(case side1=>repeat (first|(with_reducible first|exact HI0.out|apply IsS42.alloc|apply IsS42.drewN|apply IsS42.drew|apply IsS42.set_1|apply IsS42.set_2)|exact HI0.out));(case side2=>repeat (first|(with_reducible first|exact HB.out|apply below_alloc|apply pw_below_drewN|apply below_drew1|refine below_set ?_ (IsS42.ge HI0.out))|exact HB.out));rintro e w165 ⟨rfl,hi,hb,hk⟩;refine⟨_,rfl,?_⟩;replace HO_1:=A_ (Kd.R_mono (Kd.R_keep (IsS42.apart (show IsS42 w0 _ g s0_0 t319 t320 from y1 HI0.out) (kr_ HO_1.out) (by decide)) hk (fun _ h=>h.2)) (fun _ h=>h.1));replace HK:=A_ (Kept.of_keep (S:=(fun k_=>(P1_ k_)∨k_=g)) (y6 HK.out) hk (.inl (.inr rfl)));replace HB:=A_ (hb);replace HI0:=A_ (hi);(try clear hb);(try clear hb2);(try clear hk);(try clear hi))|((with_reducible refine gc_ 42 rfl ?_);refine goesL_ (some 251) rfl rfl Try.func42 (by kernel_rfl) rfl #[.pointer (some ⟨g,0,none⟩),.slice Ao7 l1.length co7,.int .i64 127,.int .i64 0,.int .i64 a4] rfl ar ?_;(with_reducible refine(ih kj5 (by have:=HJ5.out;omega) g s0_0 t356 t357 (fun k_=>some k_=(.slice Ao7 l1.length co7:Value).ownBlock) (.slice Ao7 l1.length co7) l1 127 0 a4 t385 t388 t389 w0 _ ?side1 ?side2 ?side3 A161.out).mono ?_);(case side1=>repeat (first|(with_reducible first|exact HI0.out|apply IsS42.alloc|apply IsS42.drewN|apply IsS42.drew|apply IsS42.set_1|apply IsS42.set_2)|exact HI0.out));(case side2=>repeat (first|(with_reducible first|exact HB.out|apply below_alloc|apply pw_below_drewN|apply below_drew1|refine below_set ?_ (IsS42.ge HI0.out))|exact HB.out));(case side3=>exact Kd.R_tight rfl HO_1.out);rintro e w166 ⟨v386,rfl,ho0,hi,hb,hkp⟩;refine⟨_,rfl,?_⟩;have HO387:=A_ (Kd.R_mono (ok':=fun k_=>(P1_ k_∨w.heap.size≤k_)) ho0 (fun k_ hk_=>Or.elim hk_ (fun hs_=>(HO_1.out.1 k_ (hs_).symm)) (fun hn_=>(.inr (Nat.le_trans (by first|exact HK.out.1|exact(show Kept w _ (fun k_=>(P1_ k_)∨k_=g) from y6 HK.out).1) hn_)))));replace HI0:=A_ (hi);replace HK:=A_ (Kept.then_ (S:=(fun k_=>(P1_ k_)∨k_=g)) (y6 HK.out) hkp (fun k_ hs_=>Or.elim hs_ (fun hs_=>(fun e_=>Or.imp_left Or.inl ((HO_1.out.1 k_ e_.symm))) hs_) (fun e_=>.inl (.inr e_))));replace HB:=A_ (hb);clear HO_1;(try clear hb);(try clear hkp);(try clear ho0))|((with_reducible refine gc_ 14 rfl ?_);refine goesL_ (some 253) rfl rfl Try.func14 (by kernel_rfl) rfl #[.pointer (some ⟨g,0,none⟩),.int .i64 20] rfl ar ?_;(with_reducible refine(spec_l1Cur_pick.calls g s0_0 t388 t389 20 t390 t391 t392 w0 _ ?side1 ?side2 A162.out).mono ?_);(case side1=>repeat (first|(with_reducible first|exact HI0.out|apply IsS42.alloc|apply IsS42.drewN|apply IsS42.drew|apply IsS42.set_1|apply IsS42.set_2)|exact HI0.out));(case side2=>repeat (first|(with_reducible first|exact HB.out|apply below_alloc|apply pw_below_drewN|apply below_drew1|refine below_set ?_ (IsS42.ge HI0.out))|exact HB.out));rintro e w167 ⟨rfl,hi,hb,hk⟩;refine⟨_,rfl,?_⟩;replace HO387:=A_ (Kd.R_mono (Kd.R_keep (IsS42.apart (show IsS42 w0 _ g s0_0 t388 t389 from y1 HI0.out) (kr_ HO387.out) (by decide)) hk (fun _ h=>h.2)) (fun _ h=>h.1));replace HK:=A_ (Kept.of_keep (S:=(fun k_=>(P1_ k_)∨k_=g)) (y6 HK.out) hk (.inl (.inr rfl)));replace HB:=A_ (hb);replace HI0:=A_ (hi);(try clear hb);(try clear hb2);(try clear hk);(try clear hi))|((with_reducible refine gate_builtin (b:=.append) (xs:=#[.tmp 251,.tmp 255]) rfl ?_);at_builtin;refine Kd.R_append k37 (w0:=w0) w0.heap.size rfl (.tmp 251) (.tmp 255) 23 37 (.agg #[(.int .i64 0),(.int .i64 0)]) 16 rfl Try.underlying23 info37 rfl (by decide) (by omega) v386 t385 (⟨40,t390⟩:S37) [.int .i64 40,.int .i64 t390] (fun k_=>(P1_ k_∨w.heap.size≤k_)) (fun _=>False) rfl rfl ?aP (fun _ hk=>hk.elim) ?aF ?aO ?aB ?aS ?aL ?_;(case aP=>exact k37_mkM _ _ _ (⟨40,t390⟩:S37));(case aB=>exact(y2 HB.out));(case aF=>exact(fun k_ hk=>(.inr (Nat.le_trans (by first|exact HK.out.1|exact(show Kept w _ (fun k_=>(P1_ k_)∨k_=g) from y6 HK.out).1) hk))));(case aO=>exact(kr_ HO387.out));(case aS=>exact(below_size (y2 HB.out)));(case aL=>have:=LMc163.out;omega);intro v394 w168 ho hb hg hat;rw[←Ny393.out] at ho;have HO395:=A_ (ho);replace HI0:=A_ (IsS42.grown (y1 HI0.out) hg (IsS42.own_ne HI0.out HO387.out (by decide)));replace HB:=A_ (hb);replace HK:=A_ (Kept.of_grown (S:=(fun k_=>(P1_ k_)∨k_=g)) hg (y6 HK.out) (fun k_ e_=>Or.imp_left Or.inl ((HO387.out.1 k_ e_))));clear HO387;clear ho hb hg hat))
                        go_ret
                        exact⟨_,rr_,kr_ HO395.out,y1 HI0.out,y2 HB.out,y6 HK.out⟩
                      rw[if_neg c163] at H
                      exact absurd H (by simp)
                    · as_aux_lemma=>
                      rw[if_neg c160] at H
                      obtain⟨c160b0,c160b1⟩:=eF_ c160
                      replace H:=Option.bind_eq_some_iff.mp H
                      obtain⟨⟨t396,t399,t400⟩,A1690,H⟩:=H
                      replace H:((spec_l1Cur_gen.f kj5 s0_0 t399 t400 t396 127 (wrap64 (x3_5 - 1)) a4).bind fun bt401=>((spec_l1Cur_pick.f s0_0 bt401.2.1 bt401.2.2 21).bind fun bt406=>(if bt401.1.length<8796093022208 then (some ((bt401.1++[(⟨wrap64 (97+bt406.1),0⟩:S37)]),bt406.2.1,bt406.2.2)) else (none))))=some (r1,r2,r3):=H
                      have A169:=A_ A1690
                      clear A1690
                      replace H:=Option.bind_eq_some_iff.mp H
                      obtain⟨⟨t401,t404,t405⟩,A1700,H⟩:=H
                      replace H:((spec_l1Cur_pick.f s0_0 t404 t405 21).bind fun bt406=>(if t401.length<8796093022208 then (some ((t401++[(⟨wrap64 (97+bt406.1),0⟩:S37)]),bt406.2.1,bt406.2.2)) else (none)))=some (r1,r2,r3):=H
                      have A170:=A_ A1700
                      clear A1700
                      replace H:=Option.bind_eq_some_iff.mp H
                      obtain⟨⟨t406,t407,t408⟩,A1710,H⟩:=H
                      replace H:(if t401.length<8796093022208 then (some ((t401++[(⟨wrap64 (97+t406),0⟩:S37)]),t407,t408)) else (none))=some (r1,r2,r3):=H
                      have A171:=A_ A1710
                      clear A1710
                      by_cases c172:t401.length<8796093022208
                      · as_aux_lemma=>
                        rw[if_pos c172] at H
                        have LMc172:=A_ c172
                        clear c172
                        obtain⟨y409,hy409⟩:∃ y_:List (S37),y_=(t401++[(⟨wrap64 (97+t406),0⟩:S37)]):=⟨_,rfl⟩
                        replace H:(some (y409,t407,t408))=some (r1,r2,r3):=by first|(rw[hy409];with_reducible exact H)|(have H2_:=(Option.bind_some _ _).symm.trans H;rw[hy409];with_reducible exact H2_)|(have H2_:=(Option.bind_some _ _).symm.trans H;with_reducible exact H2_)|with_reducible exact H|(rw[hy409];exact H)|exact H
                        have Ny409:=A_ hy409
                        clear hy409
                        simp only[Option.some.injEq,Prod.mk.injEq] at H
                        obtain⟨rfl,rfl,rfl⟩:=H
                        go_wp2_with (first|((with_reducible refine gc_ 14 rfl ?_);refine goesL_ (some 152) rfl rfl Try.func14 (by kernel_rfl) rfl #[.pointer (some ⟨g,0,none⟩),.int .i64 6] rfl ar ?_;(with_reducible refine(spec_l1Cur_pick.calls g s0_0 s0_1 s0_2 6 t318 t319 t320 w0 _ ?side1 ?side2 A111.out).mono ?_);(case side1=>repeat (first|(with_reducible first|exact HI0.out|apply IsS42.alloc|apply IsS42.drewN|apply IsS42.drew|apply IsS42.set_1|apply IsS42.set_2)|exact HI0.out));(case side2=>repeat (first|(with_reducible first|exact HB.out|apply below_alloc|apply pw_below_drewN|apply below_drew1|refine below_set ?_ (IsS42.ge HI0.out))|exact HB.out));rintro e w173 ⟨rfl,hi,hb,hk⟩;refine⟨_,rfl,?_⟩;replace HO_1:=A_ (Kd.R_mono (Kd.R_keep (IsS42.apart (show IsS42 w0 _ g s0_0 s0_1 s0_2 from y1 HI0.out) (kr_ HO_1.out) (by decide)) hk (fun _ h=>h.2)) (fun _ h=>h.1));replace HK:=A_ (Kept.of_keep (S:=(fun k_=>(P1_ k_)∨k_=g)) (y6 HK.out) hk (.inl (.inr rfl)));replace HB:=A_ (hb);replace HI0:=A_ (hi);(try clear hb);(try clear hb2);(try clear hk);(try clear hi))|((with_reducible refine gc_ 14 rfl ?_);refine goesL_ (some 209) rfl rfl Try.func14 (by kernel_rfl) rfl #[.pointer (some ⟨g,0,none⟩),.int .i64 6] rfl ar ?_;(with_reducible refine(spec_l1Cur_pick.calls g s0_0 t319 t320 6 t355 t356 t357 w0 _ ?side1 ?side2 A136.out).mono ?_);(case side1=>repeat (first|(with_reducible first|exact HI0.out|apply IsS42.alloc|apply IsS42.drewN|apply IsS42.drew|apply IsS42.set_1|apply IsS42.set_2)|exact HI0.out));(case side2=>repeat (first|(with_reducible first|exact HB.out|apply below_alloc|apply pw_below_drewN|apply below_drew1|refine below_set ?_ (IsS42.ge HI0.out))|exact HB.out));rintro e w174 ⟨rfl,hi,hb,hk⟩;refine⟨_,rfl,?_⟩;replace HO_1:=A_ (Kd.R_mono (Kd.R_keep (IsS42.apart (show IsS42 w0 _ g s0_0 t319 t320 from y1 HI0.out) (kr_ HO_1.out) (by decide)) hk (fun _ h=>h.2)) (fun _ h=>h.1));replace HK:=A_ (Kept.of_keep (S:=(fun k_=>(P1_ k_)∨k_=g)) (y6 HK.out) hk (.inl (.inr rfl)));replace HB:=A_ (hb);replace HI0:=A_ (hi);(try clear hb);(try clear hb2);(try clear hk);(try clear hi))|((with_reducible refine gc_ 42 rfl ?_);refine goesL_ (some 262) rfl rfl Try.func42 (by kernel_rfl) rfl #[.pointer (some ⟨g,0,none⟩),.slice Ao7 l1.length co7,.int .i64 127,.int .i64 (wrap64 (x3_5 - 1)),.int .i64 a4] rfl ar ?_;(with_reducible refine(ih kj5 (by have:=HJ5.out;omega) g s0_0 t356 t357 (fun k_=>some k_=(.slice Ao7 l1.length co7:Value).ownBlock) (.slice Ao7 l1.length co7) l1 127 (wrap64 (x3_5 - 1)) a4 t396 t399 t400 w0 _ ?side1 ?side2 ?side3 A169.out).mono ?_);(case side1=>repeat (first|(with_reducible first|exact HI0.out|apply IsS42.alloc|apply IsS42.drewN|apply IsS42.drew|apply IsS42.set_1|apply IsS42.set_2)|exact HI0.out));(case side2=>repeat (first|(with_reducible first|exact HB.out|apply below_alloc|apply pw_below_drewN|apply below_drew1|refine below_set ?_ (IsS42.ge HI0.out))|exact HB.out));(case side3=>exact Kd.R_tight rfl HO_1.out);rintro e w175 ⟨v397,rfl,ho0,hi,hb,hkp⟩;refine⟨_,rfl,?_⟩;have HO398:=A_ (Kd.R_mono (ok':=fun k_=>(P1_ k_∨w.heap.size≤k_)) ho0 (fun k_ hk_=>Or.elim hk_ (fun hs_=>(HO_1.out.1 k_ (hs_).symm)) (fun hn_=>(.inr (Nat.le_trans (by first|exact HK.out.1|exact(show Kept w _ (fun k_=>(P1_ k_)∨k_=g) from y6 HK.out).1) hn_)))));replace HI0:=A_ (hi);replace HK:=A_ (Kept.then_ (S:=(fun k_=>(P1_ k_)∨k_=g)) (y6 HK.out) hkp (fun k_ hs_=>Or.elim hs_ (fun hs_=>(fun e_=>Or.imp_left Or.inl ((HO_1.out.1 k_ e_.symm))) hs_) (fun e_=>.inl (.inr e_))));replace HB:=A_ (hb);clear HO_1;(try clear hb);(try clear hkp);(try clear ho0);obtain⟨Ao176,co176,eo176⟩:=Kd.R_slice HO398.out;subst eo176)|((with_reducible refine gc_ 42 rfl ?_);refine goesL_ (some 268) rfl rfl Try.func42 (by kernel_rfl) rfl #[.pointer (some ⟨g,0,none⟩),.slice Ao176 t396.length co176,.int .i64 127,.int .i64 (wrap64 (x3_5 - 1)),.int .i64 a4] rfl ar ?_;(with_reducible refine(ih kj5 (by have:=HJ5.out;omega) g s0_0 t399 t400 (fun k_=>some k_=(.slice Ao176 t396.length co176:Value).ownBlock) (.slice Ao176 t396.length co176) t396 127 (wrap64 (x3_5 - 1)) a4 t401 t404 t405 w0 _ ?side1 ?side2 ?side3 A170.out).mono ?_);(case side1=>repeat (first|(with_reducible first|exact HI0.out|apply IsS42.alloc|apply IsS42.drewN|apply IsS42.drew|apply IsS42.set_1|apply IsS42.set_2)|exact HI0.out));(case side2=>repeat (first|(with_reducible first|exact HB.out|apply below_alloc|apply pw_below_drewN|apply below_drew1|refine below_set ?_ (IsS42.ge HI0.out))|exact HB.out));(case side3=>exact Kd.R_tight rfl HO398.out);rintro e w177 ⟨v402,rfl,ho0,hi,hb,hkp⟩;refine⟨_,rfl,?_⟩;have HO403:=A_ (Kd.R_mono (ok':=fun k_=>(P1_ k_∨w.heap.size≤k_)) ho0 (fun k_ hk_=>Or.elim hk_ (fun hs_=>(HO398.out.1 k_ (hs_).symm)) (fun hn_=>(.inr (Nat.le_trans (by first|exact HK.out.1|exact(show Kept w _ (fun k_=>(P1_ k_)∨k_=g) from y6 HK.out).1) hn_)))));replace HI0:=A_ (hi);replace HK:=A_ (Kept.then_ (S:=(fun k_=>(P1_ k_)∨k_=g)) (y6 HK.out) hkp (fun k_ hs_=>Or.elim hs_ (fun hs_=>(fun e_=>Or.imp_left Or.inl ((HO398.out.1 k_ e_.symm))) hs_) (fun e_=>.inl (.inr e_))));replace HB:=A_ (hb);clear HO398;(try clear hb);(try clear hkp);(try clear ho0))|((with_reducible refine gc_ 14 rfl ?_);refine goesL_ (some 271) rfl rfl Try.func14 (by kernel_rfl) rfl #[.pointer (some ⟨g,0,none⟩),.int .i64 21] rfl ar ?_;(with_reducible refine(spec_l1Cur_pick.calls g s0_0 t404 t405 21 t406 t407 t408 w0 _ ?side1 ?side2 A171.out).mono ?_);(case side1=>repeat (first|(with_reducible first|exact HI0.out|apply IsS42.alloc|apply IsS42.drewN|apply IsS42.drew|apply IsS42.set_1|apply IsS42.set_2)|exact HI0.out));(case side2=>repeat (first|(with_reducible first|exact HB.out|apply below_alloc|apply pw_below_drewN|apply below_drew1|refine below_set ?_ (IsS42.ge HI0.out))|exact HB.out));rintro e w178 ⟨rfl,hi,hb,hk⟩;refine⟨_,rfl,?_⟩;replace HO403:=A_ (Kd.R_mono (Kd.R_keep (IsS42.apart (show IsS42 w0 _ g s0_0 t404 t405 from y1 HI0.out) (kr_ HO403.out) (by decide)) hk (fun _ h=>h.2)) (fun _ h=>h.1));replace HK:=A_ (Kept.of_keep (S:=(fun k_=>(P1_ k_)∨k_=g)) (y6 HK.out) hk (.inl (.inr rfl)));replace HB:=A_ (hb);replace HI0:=A_ (hi);(try clear hb);(try clear hb2);(try clear hk);(try clear hi))|((with_reducible refine gate_builtin (b:=.append) (xs:=#[.tmp 269,.tmp 274]) rfl ?_);at_builtin;refine Kd.R_append k37 (w0:=w0) w0.heap.size rfl (.tmp 269) (.tmp 274) 23 37 (.agg #[(.int .i64 0),(.int .i64 0)]) 16 rfl Try.underlying23 info37 rfl (by decide) (by omega) v402 t401 (⟨wrap64 (97+t406),0⟩:S37) [.int .i64 (wrap64 (97+t406)),.int .i64 0] (fun k_=>(P1_ k_∨w.heap.size≤k_)) (fun _=>False) rfl rfl ?aP (fun _ hk=>hk.elim) ?aF ?aO ?aB ?aS ?aL ?_;(case aP=>exact k37_mkM _ _ _ (⟨wrap64 (97+t406),0⟩:S37));(case aB=>exact(y2 HB.out));(case aF=>exact(fun k_ hk=>(.inr (Nat.le_trans (by first|exact HK.out.1|exact(show Kept w _ (fun k_=>(P1_ k_)∨k_=g) from y6 HK.out).1) hk))));(case aO=>exact(kr_ HO403.out));(case aS=>exact(below_size (y2 HB.out)));(case aL=>have:=LMc172.out;omega);intro v410 w179 ho hb hg hat;rw[←Ny409.out] at ho;have HO411:=A_ (ho);replace HI0:=A_ (IsS42.grown (y1 HI0.out) hg (IsS42.own_ne HI0.out HO403.out (by decide)));replace HB:=A_ (hb);replace HK:=A_ (Kept.of_grown (S:=(fun k_=>(P1_ k_)∨k_=g)) hg (y6 HK.out) (fun k_ e_=>Or.imp_left Or.inl ((HO403.out.1 k_ e_))));clear HO403;clear ho hb hg hat))
                        go_ret
                        exact⟨_,rr_,kr_ HO411.out,y1 HI0.out,y2 HB.out,y6 HK.out⟩
                      rw[if_neg c172] at H
                      exact absurd H (by simp)
            · as_aux_lemma=>
              rw[if_neg c135] at H
              obtain⟨c135b0,c135b1⟩:=eF_ c135
              by_cases c180:a2=126
              · as_aux_lemma=>
                rw[if_pos c180] at H
                obtain⟨c180b0,c180b1⟩:=eT_ c180
                clear c180
                replace H:=Option.bind_eq_some_iff.mp H
                obtain⟨⟨t412,t413,t414⟩,A1810,H⟩:=H
                replace H:(if t412=true then ((spec_l1Cur_gen.f kj5 s0_0 t413 t414 l1 127 (wrap64 (x3_5 - 1)) a4).bind fun bt415=>((spec_l1Cur_pick.f s0_0 bt415.2.1 bt415.2.2 2).bind fun bt420=>(if bt415.1.length<8796093022208 then (some ((bt415.1++[(⟨wrap64 (177+bt420.1),0⟩:S37)]),bt420.2.1,bt420.2.2)) else (none)))) else ((spec_l1Cur_gen.f kj5 s0_0 t413 t414 l1 126 (wrap64 (x3_5 - 1)) a4).bind fun bt426=>((spec_l1Cur_gen.f kj5 s0_0 bt426.2.1 bt426.2.2 bt426.1 126 (wrap64 (x3_5 - 1)) a4).bind fun bt431=>((spec_l1Cur_pick.f s0_0 bt431.2.1 bt431.2.2 15).bind fun bt436=>(if bt431.1.length<8796093022208 then (some ((bt431.1++[(⟨wrap64 (129+bt436.1),0⟩:S37)]),bt436.2.1,bt436.2.2)) else (none))))))=some (r1,r2,r3):=H
                have A181:=A_ A1810
                clear A1810
                by_cases c182:t412=true
                · as_aux_lemma=>
                  subst c182
                  replace H:=iT_ H
                  replace H:=Option.bind_eq_some_iff.mp H
                  obtain⟨⟨t415,t418,t419⟩,A1830,H⟩:=H
                  replace H:((spec_l1Cur_pick.f s0_0 t418 t419 2).bind fun bt420=>(if t415.length<8796093022208 then (some ((t415++[(⟨wrap64 (177+bt420.1),0⟩:S37)]),bt420.2.1,bt420.2.2)) else (none)))=some (r1,r2,r3):=H
                  have A183:=A_ A1830
                  clear A1830
                  replace H:=Option.bind_eq_some_iff.mp H
                  obtain⟨⟨t420,t421,t422⟩,A1840,H⟩:=H
                  replace H:(if t415.length<8796093022208 then (some ((t415++[(⟨wrap64 (177+t420),0⟩:S37)]),t421,t422)) else (none))=some (r1,r2,r3):=H
                  have A184:=A_ A1840
                  clear A1840
                  by_cases c185:t415.length<8796093022208
                  · as_aux_lemma=>
                    rw[if_pos c185] at H
                    have LMc185:=A_ c185
                    clear c185
                    obtain⟨y423,hy423⟩:∃ y_:List (S37),y_=(t415++[(⟨wrap64 (177+t420),0⟩:S37)]):=⟨_,rfl⟩
                    replace H:(some (y423,t421,t422))=some (r1,r2,r3):=by first|(rw[hy423];with_reducible exact H)|(have H2_:=(Option.bind_some _ _).symm.trans H;rw[hy423];with_reducible exact H2_)|(have H2_:=(Option.bind_some _ _).symm.trans H;with_reducible exact H2_)|with_reducible exact H|(rw[hy423];exact H)|exact H
                    have Ny423:=A_ hy423
                    clear hy423
                    simp only[Option.some.injEq,Prod.mk.injEq] at H
                    obtain⟨rfl,rfl,rfl⟩:=H
                    go_wp2_with (first|((with_reducible refine gc_ 14 rfl ?_);refine goesL_ (some 152) rfl rfl Try.func14 (by kernel_rfl) rfl #[.pointer (some ⟨g,0,none⟩),.int .i64 6] rfl ar ?_;(with_reducible refine(spec_l1Cur_pick.calls g s0_0 s0_1 s0_2 6 t318 t319 t320 w0 _ ?side1 ?side2 A111.out).mono ?_);(case side1=>repeat (first|(with_reducible first|exact HI0.out|apply IsS42.alloc|apply IsS42.drewN|apply IsS42.drew|apply IsS42.set_1|apply IsS42.set_2)|exact HI0.out));(case side2=>repeat (first|(with_reducible first|exact HB.out|apply below_alloc|apply pw_below_drewN|apply below_drew1|refine below_set ?_ (IsS42.ge HI0.out))|exact HB.out));rintro e w186 ⟨rfl,hi,hb,hk⟩;refine⟨_,rfl,?_⟩;replace HO_1:=A_ (Kd.R_mono (Kd.R_keep (IsS42.apart (show IsS42 w0 _ g s0_0 s0_1 s0_2 from y1 HI0.out) (kr_ HO_1.out) (by decide)) hk (fun _ h=>h.2)) (fun _ h=>h.1));replace HK:=A_ (Kept.of_keep (S:=(fun k_=>(P1_ k_)∨k_=g)) (y6 HK.out) hk (.inl (.inr rfl)));replace HB:=A_ (hb);replace HI0:=A_ (hi);(try clear hb);(try clear hb2);(try clear hk);(try clear hi))|((with_reducible refine gc_ 13 rfl ?_);refine goesL_ (some 279) rfl rfl Try.func13 (by kernel_rfl) rfl #[.pointer (some ⟨g,0,none⟩),.int .i64 3] rfl ar ?_;(with_reducible refine(spec_l1Cur_one.calls g s0_0 t319 t320 3 true t413 t414 w0 _ ?side1 ?side2 A181.out).mono ?_);(case side1=>repeat (first|(with_reducible first|exact HI0.out|apply IsS42.alloc|apply IsS42.drewN|apply IsS42.drew|apply IsS42.set_1|apply IsS42.set_2)|exact HI0.out));(case side2=>repeat (first|(with_reducible first|exact HB.out|apply below_alloc|apply pw_below_drewN|apply below_drew1|refine below_set ?_ (IsS42.ge HI0.out))|exact HB.out));rintro e w187 ⟨rfl,hi,hb,hk⟩;refine⟨_,rfl,?_⟩;replace HO_1:=A_ (Kd.R_mono (Kd.R_keep (IsS42.apart (show IsS42 w0 _ g s0_0 t319 t320 from y1 HI0.out) (kr_ HO_1.out) (by decide)) hk (fun _ h=>h.2)) (fun _ h=>h.1));replace HK:=A_ (Kept.of_keep (S:=(fun k_=>(P1_ k_)∨k_=g)) (y6 HK.out) hk (.inl (.inr rfl)));replace HB:=A_ (hb);replace HI0:=A_ (hi);(try clear hb);(try clear hb2);(try clear hk);(try clear hi))|((with_reducible refine gc_ 42 rfl ?_);refine goesL_ (some 285) rfl rfl Try.func42 (by kernel_rfl) rfl #[.pointer (some ⟨g,0,none⟩),.slice Ao7 l1.length co7,.int .i64 127,.int .i64 (wrap64 (x3_5 - 1)),.int .i64 a4] rfl ar ?_;(with_reducible refine(ih kj5 (by have:=HJ5.out;omega) g s0_0 t413 t414 (fun k_=>some k_=(.slice Ao7 l1.length co7:Value).ownBlock) (.slice Ao7 l1.length co7) l1 127 (wrap64 (x3_5 - 1)) a4 t415 t418 t419 w0 _ ?side1 ?side2 ?side3 A183.out).mono ?_);(case side1=>repeat (first|(with_reducible first|exact HI0.out|apply IsS42.alloc|apply IsS42.drewN|apply IsS42.drew|apply IsS42.set_1|apply IsS42.set_2)|exact HI0.out));(case side2=>repeat (first|(with_reducible first|exact HB.out|apply below_alloc|apply pw_below_drewN|apply below_drew1|refine below_set ?_ (IsS42.ge HI0.out))|exact HB.out));(case side3=>exact Kd.R_tight rfl HO_1.out);rintro e w188 ⟨v416,rfl,ho0,hi,hb,hkp⟩;refine⟨_,rfl,?_⟩;have HO417:=A_ (Kd.R_mono (ok':=fun k_=>(P1_ k_∨w.heap.size≤k_)) ho0 (fun k_ hk_=>Or.elim hk_ (fun hs_=>(HO_1.out.1 k_ (hs_).symm)) (fun hn_=>(.inr (Nat.le_trans (by first|exact HK.out.1|exact(show Kept w _ (fun k_=>(P1_ k_)∨k_=g) from y6 HK.out).1) hn_)))));replace HI0:=A_ (hi);replace HK:=A_ (Kept.then_ (S:=(fun k_=>(P1_ k_)∨k_=g)) (y6 HK.out) hkp (fun k_ hs_=>Or.elim hs_ (fun hs_=>(fun e_=>Or.imp_left Or.inl ((HO_1.out.1 k_ e_.symm))) hs_) (fun e_=>.inl (.inr e_))));replace HB:=A_ (hb);clear HO_1;(try clear hb);(try clear hkp);(try clear ho0))|((with_reducible refine gc_ 14 rfl ?_);refine goesL_ (some 287) rfl rfl Try.func14 (by kernel_rfl) rfl #[.pointer (some ⟨g,0,none⟩),.int .i64 2] rfl ar ?_;(with_reducible refine(spec_l1Cur_pick.calls g s0_0 t418 t419 2 t420 t421 t422 w0 _ ?side1 ?side2 A184.out).mono ?_);(case side1=>repeat (first|(with_reducible first|exact HI0.out|apply IsS42.alloc|apply IsS42.drewN|apply IsS42.drew|apply IsS42.set_1|apply IsS42.set_2)|exact HI0.out));(case side2=>repeat (first|(with_reducible first|exact HB.out|apply below_alloc|apply pw_below_drewN|apply below_drew1|refine below_set ?_ (IsS42.ge HI0.out))|exact HB.out));rintro e w189 ⟨rfl,hi,hb,hk⟩;refine⟨_,rfl,?_⟩;replace HO417:=A_ (Kd.R_mono (Kd.R_keep (IsS42.apart (show IsS42 w0 _ g s0_0 t418 t419 from y1 HI0.out) (kr_ HO417.out) (by decide)) hk (fun _ h=>h.2)) (fun _ h=>h.1));replace HK:=A_ (Kept.of_keep (S:=(fun k_=>(P1_ k_)∨k_=g)) (y6 HK.out) hk (.inl (.inr rfl)));replace HB:=A_ (hb);replace HI0:=A_ (hi);(try clear hb);(try clear hb2);(try clear hk);(try clear hi))|((with_reducible refine gate_builtin (b:=.append) (xs:=#[.tmp 285,.tmp 290]) rfl ?_);at_builtin;refine Kd.R_append k37 (w0:=w0) w0.heap.size rfl (.tmp 285) (.tmp 290) 23 37 (.agg #[(.int .i64 0),(.int .i64 0)]) 16 rfl Try.underlying23 info37 rfl (by decide) (by omega) v416 t415 (⟨wrap64 (177+t420),0⟩:S37) [.int .i64 (wrap64 (177+t420)),.int .i64 0] (fun k_=>(P1_ k_∨w.heap.size≤k_)) (fun _=>False) rfl rfl ?aP (fun _ hk=>hk.elim) ?aF ?aO ?aB ?aS ?aL ?_;(case aP=>exact k37_mkM _ _ _ (⟨wrap64 (177+t420),0⟩:S37));(case aB=>exact(y2 HB.out));(case aF=>exact(fun k_ hk=>(.inr (Nat.le_trans (by first|exact HK.out.1|exact(show Kept w _ (fun k_=>(P1_ k_)∨k_=g) from y6 HK.out).1) hk))));(case aO=>exact(kr_ HO417.out));(case aS=>exact(below_size (y2 HB.out)));(case aL=>have:=LMc185.out;omega);intro v424 w190 ho hb hg hat;rw[←Ny423.out] at ho;have HO425:=A_ (ho);replace HI0:=A_ (IsS42.grown (y1 HI0.out) hg (IsS42.own_ne HI0.out HO417.out (by decide)));replace HB:=A_ (hb);replace HK:=A_ (Kept.of_grown (S:=(fun k_=>(P1_ k_)∨k_=g)) hg (y6 HK.out) (fun k_ e_=>Or.imp_left Or.inl ((HO417.out.1 k_ e_))));clear HO417;clear ho hb hg hat))
                    go_ret
                    exact⟨_,rr_,kr_ HO425.out,y1 HI0.out,y2 HB.out,y6 HK.out⟩
                  rw[if_neg c185] at H
                  exact absurd H (by simp)
                · as_aux_lemma=>
                  replace c182:=Bool.eq_false_iff.mpr c182
                  subst c182
                  replace H:=iF_ H
                  replace H:=Option.bind_eq_some_iff.mp H
                  obtain⟨⟨t426,t429,t430⟩,A1910,H⟩:=H
                  replace H:((spec_l1Cur_gen.f kj5 s0_0 t429 t430 t426 126 (wrap64 (x3_5 - 1)) a4).bind fun bt431=>((spec_l1Cur_pick.f s0_0 bt431.2.1 bt431.2.2 15).bind fun bt436=>(if bt431.1.length<8796093022208 then (some ((bt431.1++[(⟨wrap64 (129+bt436.1),0⟩:S37)]),bt436.2.1,bt436.2.2)) else (none))))=some (r1,r2,r3):=H
                  have A191:=A_ A1910
                  clear A1910
                  replace H:=Option.bind_eq_some_iff.mp H
                  obtain⟨⟨t431,t434,t435⟩,A1920,H⟩:=H
                  replace H:((spec_l1Cur_pick.f s0_0 t434 t435 15).bind fun bt436=>(if t431.length<8796093022208 then (some ((t431++[(⟨wrap64 (129+bt436.1),0⟩:S37)]),bt436.2.1,bt436.2.2)) else (none)))=some (r1,r2,r3):=H
                  have A192:=A_ A1920
                  clear A1920
                  replace H:=Option.bind_eq_some_iff.mp H
                  obtain⟨⟨t436,t437,t438⟩,A1930,H⟩:=H
                  replace H:(if t431.length<8796093022208 then (some ((t431++[(⟨wrap64 (129+t436),0⟩:S37)]),t437,t438)) else (none))=some (r1,r2,r3):=H
                  have A193:=A_ A1930
                  clear A1930
                  by_cases c194:t431.length<8796093022208
                  · as_aux_lemma=>
                    rw[if_pos c194] at H
                    have LMc194:=A_ c194
                    clear c194
                    obtain⟨y439,hy439⟩:∃ y_:List (S37),y_=(t431++[(⟨wrap64 (129+t436),0⟩:S37)]):=⟨_,rfl⟩
                    replace H:(some (y439,t437,t438))=some (r1,r2,r3):=by first|(rw[hy439];with_reducible exact H)|(have H2_:=(Option.bind_some _ _).symm.trans H;rw[hy439];with_reducible exact H2_)|(have H2_:=(Option.bind_some _ _).symm.trans H;with_reducible exact H2_)|with_reducible exact H|(rw[hy439];exact H)|exact H
                    have Ny439:=A_ hy439
                    clear hy439
                    simp only[Option.some.injEq,Prod.mk.injEq] at H
                    obtain⟨rfl,rfl,rfl⟩:=H
                    go_wp2_with (first|((with_reducible refine gc_ 14 rfl ?_);refine goesL_ (some 152) rfl rfl Try.func14 (by kernel_rfl) rfl #[.pointer (some ⟨g,0,none⟩),.int .i64 6] rfl ar ?_;(with_reducible refine(spec_l1Cur_pick.calls g s0_0 s0_1 s0_2 6 t318 t319 t320 w0 _ ?side1 ?side2 A111.out).mono ?_);(case side1=>repeat (first|(with_reducible first|exact HI0.out|apply IsS42.alloc|apply IsS42.drewN|apply IsS42.drew|apply IsS42.set_1|apply IsS42.set_2)|exact HI0.out));(case side2=>repeat (first|(with_reducible first|exact HB.out|apply below_alloc|apply pw_below_drewN|apply below_drew1|refine below_set ?_ (IsS42.ge HI0.out))|exact HB.out));rintro e w195 ⟨rfl,hi,hb,hk⟩;refine⟨_,rfl,?_⟩;replace HO_1:=A_ (Kd.R_mono (Kd.R_keep (IsS42.apart (show IsS42 w0 _ g s0_0 s0_1 s0_2 from y1 HI0.out) (kr_ HO_1.out) (by decide)) hk (fun _ h=>h.2)) (fun _ h=>h.1));replace HK:=A_ (Kept.of_keep (S:=(fun k_=>(P1_ k_)∨k_=g)) (y6 HK.out) hk (.inl (.inr rfl)));replace HB:=A_ (hb);replace HI0:=A_ (hi);(try clear hb);(try clear hb2);(try clear hk);(try clear hi))|((with_reducible refine gc_ 13 rfl ?_);refine goesL_ (some 279) rfl rfl Try.func13 (by kernel_rfl) rfl #[.pointer (some ⟨g,0,none⟩),.int .i64 3] rfl ar ?_;(with_reducible refine(spec_l1Cur_one.calls g s0_0 t319 t320 3 false t413 t414 w0 _ ?side1 ?side2 A181.out).mono ?_);(case side1=>repeat (first|(with_reducible first|exact HI0.out|apply IsS42.alloc|apply IsS42.drewN|apply IsS42.drew|apply IsS42.set_1|apply IsS42.set_2)|exact HI0.out));(case side2=>repeat (first|(with_reducible first|exact HB.out|apply below_alloc|apply pw_below_drewN|apply below_drew1|refine below_set ?_ (IsS42.ge HI0.out))|exact HB.out));rintro e w196 ⟨rfl,hi,hb,hk⟩;refine⟨_,rfl,?_⟩;replace HO_1:=A_ (Kd.R_mono (Kd.R_keep (IsS42.apart (show IsS42 w0 _ g s0_0 t319 t320 from y1 HI0.out) (kr_ HO_1.out) (by decide)) hk (fun _ h=>h.2)) (fun _ h=>h.1));replace HK:=A_ (Kept.of_keep (S:=(fun k_=>(P1_ k_)∨k_=g)) (y6 HK.out) hk (.inl (.inr rfl)));replace HB:=A_ (hb);replace HI0:=A_ (hi);(try clear hb);(try clear hb2);(try clear hk);(try clear hi))|((with_reducible refine gc_ 42 rfl ?_);refine goesL_ (some 297) rfl rfl Try.func42 (by kernel_rfl) rfl #[.pointer (some ⟨g,0,none⟩),.slice Ao7 l1.length co7,.int .i64 126,.int .i64 (wrap64 (x3_5 - 1)),.int .i64 a4] rfl ar ?_;(with_reducible refine(ih kj5 (by have:=HJ5.out;omega) g s0_0 t413 t414 (fun k_=>some k_=(.slice Ao7 l1.length co7:Value).ownBlock) (.slice Ao7 l1.length co7) l1 126 (wrap64 (x3_5 - 1)) a4 t426 t429 t430 w0 _ ?side1 ?side2 ?side3 A191.out).mono ?_);(case side1=>repeat (first|(with_reducible first|exact HI0.out|apply IsS42.alloc|apply IsS42.drewN|apply IsS42.drew|apply IsS42.set_1|apply IsS42.set_2)|exact HI0.out));(case side2=>repeat (first|(with_reducible first|exact HB.out|apply below_alloc|apply pw_below_drewN|apply below_drew1|refine below_set ?_ (IsS42.ge HI0.out))|exact HB.out));(case side3=>exact Kd.R_tight rfl HO_1.out);rintro e w197 ⟨v427,rfl,ho0,hi,hb,hkp⟩;refine⟨_,rfl,?_⟩;have HO428:=A_ (Kd.R_mono (ok':=fun k_=>(P1_ k_∨w.heap.size≤k_)) ho0 (fun k_ hk_=>Or.elim hk_ (fun hs_=>(HO_1.out.1 k_ (hs_).symm)) (fun hn_=>(.inr (Nat.le_trans (by first|exact HK.out.1|exact(show Kept w _ (fun k_=>(P1_ k_)∨k_=g) from y6 HK.out).1) hn_)))));replace HI0:=A_ (hi);replace HK:=A_ (Kept.then_ (S:=(fun k_=>(P1_ k_)∨k_=g)) (y6 HK.out) hkp (fun k_ hs_=>Or.elim hs_ (fun hs_=>(fun e_=>Or.imp_left Or.inl ((HO_1.out.1 k_ e_.symm))) hs_) (fun e_=>.inl (.inr e_))));replace HB:=A_ (hb);clear HO_1;(try clear hb);(try clear hkp);(try clear ho0);obtain⟨Ao198,co198,eo198⟩:=Kd.R_slice HO428.out;subst eo198)|((with_reducible refine gc_ 42 rfl ?_);refine goesL_ (some 303) rfl rfl Try.func42 (by kernel_rfl) rfl #[.pointer (some ⟨g,0,none⟩),.slice Ao198 t426.length co198,.int .i64 126,.int .i64 (wrap64 (x3_5 - 1)),.int .i64 a4] rfl ar ?_;(with_reducible refine(ih kj5 (by have:=HJ5.out;omega) g s0_0 t429 t430 (fun k_=>some k_=(.slice Ao198 t426.length co198:Value).ownBlock) (.slice Ao198 t426.length co198) t426 126 (wrap64 (x3_5 - 1)) a4 t431 t434 t435 w0 _ ?side1 ?side2 ?side3 A192.out).mono ?_);(case side1=>repeat (first|(with_reducible first|exact HI0.out|apply IsS42.alloc|apply IsS42.drewN|apply IsS42.drew|apply IsS42.set_1|apply IsS42.set_2)|exact HI0.out));(case side2=>repeat (first|(with_reducible first|exact HB.out|apply below_alloc|apply pw_below_drewN|apply below_drew1|refine below_set ?_ (IsS42.ge HI0.out))|exact HB.out));(case side3=>exact Kd.R_tight rfl HO428.out);rintro e w199 ⟨v432,rfl,ho0,hi,hb,hkp⟩;refine⟨_,rfl,?_⟩;have HO433:=A_ (Kd.R_mono (ok':=fun k_=>(P1_ k_∨w.heap.size≤k_)) ho0 (fun k_ hk_=>Or.elim hk_ (fun hs_=>(HO428.out.1 k_ (hs_).symm)) (fun hn_=>(.inr (Nat.le_trans (by first|exact HK.out.1|exact(show Kept w _ (fun k_=>(P1_ k_)∨k_=g) from y6 HK.out).1) hn_)))));replace HI0:=A_ (hi);replace HK:=A_ (Kept.then_ (S:=(fun k_=>(P1_ k_)∨k_=g)) (y6 HK.out) hkp (fun k_ hs_=>Or.elim hs_ (fun hs_=>(fun e_=>Or.imp_left Or.inl ((HO428.out.1 k_ e_.symm))) hs_) (fun e_=>.inl (.inr e_))));replace HB:=A_ (hb);clear HO428;(try clear hb);(try clear hkp);(try clear ho0))|((with_reducible refine gc_ 14 rfl ?_);refine goesL_ (some 306) rfl rfl Try.func14 (by kernel_rfl) rfl #[.pointer (some ⟨g,0,none⟩),.int .i64 15] rfl ar ?_;(with_reducible refine(spec_l1Cur_pick.calls g s0_0 t434 t435 15 t436 t437 t438 w0 _ ?side1 ?side2 A193.out).mono ?_);(case side1=>repeat (first|(with_reducible first|exact HI0.out|apply IsS42.alloc|apply IsS42.drewN|apply IsS42.drew|apply IsS42.set_1|apply IsS42.set_2)|exact HI0.out));(case side2=>repeat (first|(with_reducible first|exact HB.out|apply below_alloc|apply pw_below_drewN|apply below_drew1|refine below_set ?_ (IsS42.ge HI0.out))|exact HB.out));rintro e w200 ⟨rfl,hi,hb,hk⟩;refine⟨_,rfl,?_⟩;replace HO433:=A_ (Kd.R_mono (Kd.R_keep (IsS42.apart (show IsS42 w0 _ g s0_0 t434 t435 from y1 HI0.out) (kr_ HO433.out) (by decide)) hk (fun _ h=>h.2)) (fun _ h=>h.1));replace HK:=A_ (Kept.of_keep (S:=(fun k_=>(P1_ k_)∨k_=g)) (y6 HK.out) hk (.inl (.inr rfl)));replace HB:=A_ (hb);replace HI0:=A_ (hi);(try clear hb);(try clear hb2);(try clear hk);(try clear hi))|((with_reducible refine gate_builtin (b:=.append) (xs:=#[.tmp 304,.tmp 309]) rfl ?_);at_builtin;refine Kd.R_append k37 (w0:=w0) w0.heap.size rfl (.tmp 304) (.tmp 309) 23 37 (.agg #[(.int .i64 0),(.int .i64 0)]) 16 rfl Try.underlying23 info37 rfl (by decide) (by omega) v432 t431 (⟨wrap64 (129+t436),0⟩:S37) [.int .i64 (wrap64 (129+t436)),.int .i64 0] (fun k_=>(P1_ k_∨w.heap.size≤k_)) (fun _=>False) rfl rfl ?aP (fun _ hk=>hk.elim) ?aF ?aO ?aB ?aS ?aL ?_;(case aP=>exact k37_mkM _ _ _ (⟨wrap64 (129+t436),0⟩:S37));(case aB=>exact(y2 HB.out));(case aF=>exact(fun k_ hk=>(.inr (Nat.le_trans (by first|exact HK.out.1|exact(show Kept w _ (fun k_=>(P1_ k_)∨k_=g) from y6 HK.out).1) hk))));(case aO=>exact(kr_ HO433.out));(case aS=>exact(below_size (y2 HB.out)));(case aL=>have:=LMc194.out;omega);intro v440 w201 ho hb hg hat;rw[←Ny439.out] at ho;have HO441:=A_ (ho);replace HI0:=A_ (IsS42.grown (y1 HI0.out) hg (IsS42.own_ne HI0.out HO433.out (by decide)));replace HB:=A_ (hb);replace HK:=A_ (Kept.of_grown (S:=(fun k_=>(P1_ k_)∨k_=g)) hg (y6 HK.out) (fun k_ e_=>Or.imp_left Or.inl ((HO433.out.1 k_ e_))));clear HO433;clear ho hb hg hat))
                    go_ret
                    exact⟨_,rr_,kr_ HO441.out,y1 HI0.out,y2 HB.out,y6 HK.out⟩
                  rw[if_neg c194] at H
                  exact absurd H (by simp)
              · as_aux_lemma=>
                rw[if_neg c180] at H
                obtain⟨c180b0,c180b1⟩:=eF_ c180
                replace H:=Option.bind_eq_some_iff.mp H
                obtain⟨⟨t442,t443,t444⟩,A2020,H⟩:=H
                replace H:(if t442=true then ((spec_l1Cur_gen.f kj5 s0_0 t443 t444 l1 127 (wrap64 (x3_5 - 1)) a4).bind fun bt445=>(if bt445.1.length<8796093022208 then (some ((bt445.1++[(⟨179,0⟩:S37)]),bt445.2.1,bt445.2.2)) else (none))) else ((spec_l1Cur_gen.f kj5 s0_0 t443 t444 l1 125 (wrap64 (x3_5 - 1)) a4).bind fun bt453=>((spec_l1Cur_gen.f kj5 s0_0 bt453.2.1 bt453.2.2 bt453.1 125 (wrap64 (x3_5 - 1)) a4).bind fun bt458=>((spec_l1Cur_pick.f s0_0 bt458.2.1 bt458.2.2 5).bind fun bt463=>(if bt458.1.length<8796093022208 then (some ((bt458.1++[(⟨wrap64 (161+bt463.1),0⟩:S37)]),bt463.2.1,bt463.2.2)) else (none))))))=some (r1,r2,r3):=H
                have A202:=A_ A2020
                clear A2020
                by_cases c203:t442=true
                · as_aux_lemma=>
                  subst c203
                  replace H:=iT_ H
                  replace H:=Option.bind_eq_some_iff.mp H
                  obtain⟨⟨t445,t448,t449⟩,A2040,H⟩:=H
                  replace H:(if t445.length<8796093022208 then (some ((t445++[(⟨179,0⟩:S37)]),t448,t449)) else (none))=some (r1,r2,r3):=H
                  have A204:=A_ A2040
                  clear A2040
                  by_cases c205:t445.length<8796093022208
                  · as_aux_lemma=>
                    rw[if_pos c205] at H
                    have LMc205:=A_ c205
                    clear c205
                    obtain⟨y450,hy450⟩:∃ y_:List (S37),y_=(t445++[(⟨179,0⟩:S37)]):=⟨_,rfl⟩
                    replace H:(some (y450,t448,t449))=some (r1,r2,r3):=by first|(rw[hy450];with_reducible exact H)|(have H2_:=(Option.bind_some _ _).symm.trans H;rw[hy450];with_reducible exact H2_)|(have H2_:=(Option.bind_some _ _).symm.trans H;with_reducible exact H2_)|with_reducible exact H|(rw[hy450];exact H)|exact H
                    have Ny450:=A_ hy450
                    clear hy450
                    simp only[Option.some.injEq,Prod.mk.injEq] at H
                    obtain⟨rfl,rfl,rfl⟩:=H
                    go_wp2_with (first|((with_reducible refine gc_ 14 rfl ?_);refine goesL_ (some 152) rfl rfl Try.func14 (by kernel_rfl) rfl #[.pointer (some ⟨g,0,none⟩),.int .i64 6] rfl ar ?_;(with_reducible refine(spec_l1Cur_pick.calls g s0_0 s0_1 s0_2 6 t318 t319 t320 w0 _ ?side1 ?side2 A111.out).mono ?_);(case side1=>repeat (first|(with_reducible first|exact HI0.out|apply IsS42.alloc|apply IsS42.drewN|apply IsS42.drew|apply IsS42.set_1|apply IsS42.set_2)|exact HI0.out));(case side2=>repeat (first|(with_reducible first|exact HB.out|apply below_alloc|apply pw_below_drewN|apply below_drew1|refine below_set ?_ (IsS42.ge HI0.out))|exact HB.out));rintro e w206 ⟨rfl,hi,hb,hk⟩;refine⟨_,rfl,?_⟩;replace HO_1:=A_ (Kd.R_mono (Kd.R_keep (IsS42.apart (show IsS42 w0 _ g s0_0 s0_1 s0_2 from y1 HI0.out) (kr_ HO_1.out) (by decide)) hk (fun _ h=>h.2)) (fun _ h=>h.1));replace HK:=A_ (Kept.of_keep (S:=(fun k_=>(P1_ k_)∨k_=g)) (y6 HK.out) hk (.inl (.inr rfl)));replace HB:=A_ (hb);replace HI0:=A_ (hi);(try clear hb);(try clear hb2);(try clear hk);(try clear hi))|((with_reducible refine gc_ 13 rfl ?_);refine goesL_ (some 312) rfl rfl Try.func13 (by kernel_rfl) rfl #[.pointer (some ⟨g,0,none⟩),.int .i64 2] rfl ar ?_;(with_reducible refine(spec_l1Cur_one.calls g s0_0 t319 t320 2 true t443 t444 w0 _ ?side1 ?side2 A202.out).mono ?_);(case side1=>repeat (first|(with_reducible first|exact HI0.out|apply IsS42.alloc|apply IsS42.drewN|apply IsS42.drew|apply IsS42.set_1|apply IsS42.set_2)|exact HI0.out));(case side2=>repeat (first|(with_reducible first|exact HB.out|apply below_alloc|apply pw_below_drewN|apply below_drew1|refine below_set ?_ (IsS42.ge HI0.out))|exact HB.out));rintro e w207 ⟨rfl,hi,hb,hk⟩;refine⟨_,rfl,?_⟩;replace HO_1:=A_ (Kd.R_mono (Kd.R_keep (IsS42.apart (show IsS42 w0 _ g s0_0 t319 t320 from y1 HI0.out) (kr_ HO_1.out) (by decide)) hk (fun _ h=>h.2)) (fun _ h=>h.1));replace HK:=A_ (Kept.of_keep (S:=(fun k_=>(P1_ k_)∨k_=g)) (y6 HK.out) hk (.inl (.inr rfl)));replace HB:=A_ (hb);replace HI0:=A_ (hi);(try clear hb);(try clear hb2);(try clear hk);(try clear hi))|((with_reducible refine gc_ 42 rfl ?_);refine goesL_ (some 318) rfl rfl Try.func42 (by kernel_rfl) rfl #[.pointer (some ⟨g,0,none⟩),.slice Ao7 l1.length co7,.int .i64 127,.int .i64 (wrap64 (x3_5 - 1)),.int .i64 a4] rfl ar ?_;(with_reducible refine(ih kj5 (by have:=HJ5.out;omega) g s0_0 t443 t444 (fun k_=>some k_=(.slice Ao7 l1.length co7:Value).ownBlock) (.slice Ao7 l1.length co7) l1 127 (wrap64 (x3_5 - 1)) a4 t445 t448 t449 w0 _ ?side1 ?side2 ?side3 A204.out).mono ?_);(case side1=>repeat (first|(with_reducible first|exact HI0.out|apply IsS42.alloc|apply IsS42.drewN|apply IsS42.drew|apply IsS42.set_1|apply IsS42.set_2)|exact HI0.out));(case side2=>repeat (first|(with_reducible first|exact HB.out|apply below_alloc|apply pw_below_drewN|apply below_drew1|refine below_set ?_ (IsS42.ge HI0.out))|exact HB.out));(case side3=>exact Kd.R_tight rfl HO_1.out);rintro e w208 ⟨v446,rfl,ho0,hi,hb,hkp⟩;refine⟨_,rfl,?_⟩;have HO447:=A_ (Kd.R_mono (ok':=fun k_=>(P1_ k_∨w.heap.size≤k_)) ho0 (fun k_ hk_=>Or.elim hk_ (fun hs_=>(HO_1.out.1 k_ (hs_).symm)) (fun hn_=>(.inr (Nat.le_trans (by first|exact HK.out.1|exact(show Kept w _ (fun k_=>(P1_ k_)∨k_=g) from y6 HK.out).1) hn_)))));replace HI0:=A_ (hi);replace HK:=A_ (Kept.then_ (S:=(fun k_=>(P1_ k_)∨k_=g)) (y6 HK.out) hkp (fun k_ hs_=>Or.elim hs_ (fun hs_=>(fun e_=>Or.imp_left Or.inl ((HO_1.out.1 k_ e_.symm))) hs_) (fun e_=>.inl (.inr e_))));replace HB:=A_ (hb);clear HO_1;(try clear hb);(try clear hkp);(try clear ho0))|((with_reducible refine gate_builtin (b:=.append) (xs:=#[.tmp 318,.tmp 320]) rfl ?_);at_builtin;refine Kd.R_append k37 (w0:=w0) w0.heap.size rfl (.tmp 318) (.tmp 320) 23 37 (.agg #[(.int .i64 0),(.int .i64 0)]) 16 rfl Try.underlying23 info37 rfl (by decide) (by omega) v446 t445 (⟨179,0⟩:S37) [.int .i64 179,.int .i64 0] (fun k_=>(P1_ k_∨w.heap.size≤k_)) (fun _=>False) rfl rfl ?aP (fun _ hk=>hk.elim) ?aF ?aO ?aB ?aS ?aL ?_;(case aP=>exact k37_mkM _ _ _ (⟨179,0⟩:S37));(case aB=>exact(y2 HB.out));(case aF=>exact(fun k_ hk=>(.inr (Nat.le_trans (by first|exact HK.out.1|exact(show Kept w _ (fun k_=>(P1_ k_)∨k_=g) from y6 HK.out).1) hk))));(case aO=>exact(kr_ HO447.out));(case aS=>exact(below_size (y2 HB.out)));(case aL=>have:=LMc205.out;omega);intro v451 w209 ho hb hg hat;rw[←Ny450.out] at ho;have HO452:=A_ (ho);replace HI0:=A_ (IsS42.grown (y1 HI0.out) hg (IsS42.own_ne HI0.out HO447.out (by decide)));replace HB:=A_ (hb);replace HK:=A_ (Kept.of_grown (S:=(fun k_=>(P1_ k_)∨k_=g)) hg (y6 HK.out) (fun k_ e_=>Or.imp_left Or.inl ((HO447.out.1 k_ e_))));clear HO447;clear ho hb hg hat))
                    go_ret
                    exact⟨_,rr_,kr_ HO452.out,y1 HI0.out,y2 HB.out,y6 HK.out⟩
                  rw[if_neg c205] at H
                  exact absurd H (by simp)
                · as_aux_lemma=>
                  replace c203:=Bool.eq_false_iff.mpr c203
                  subst c203
                  replace H:=iF_ H
                  replace H:=Option.bind_eq_some_iff.mp H
                  obtain⟨⟨t453,t456,t457⟩,A2100,H⟩:=H
                  replace H:((spec_l1Cur_gen.f kj5 s0_0 t456 t457 t453 125 (wrap64 (x3_5 - 1)) a4).bind fun bt458=>((spec_l1Cur_pick.f s0_0 bt458.2.1 bt458.2.2 5).bind fun bt463=>(if bt458.1.length<8796093022208 then (some ((bt458.1++[(⟨wrap64 (161+bt463.1),0⟩:S37)]),bt463.2.1,bt463.2.2)) else (none))))=some (r1,r2,r3):=H
                  have A210:=A_ A2100
                  clear A2100
                  replace H:=Option.bind_eq_some_iff.mp H
                  obtain⟨⟨t458,t461,t462⟩,A2110,H⟩:=H
                  replace H:((spec_l1Cur_pick.f s0_0 t461 t462 5).bind fun bt463=>(if t458.length<8796093022208 then (some ((t458++[(⟨wrap64 (161+bt463.1),0⟩:S37)]),bt463.2.1,bt463.2.2)) else (none)))=some (r1,r2,r3):=H
                  have A211:=A_ A2110
                  clear A2110
                  replace H:=Option.bind_eq_some_iff.mp H
                  obtain⟨⟨t463,t464,t465⟩,A2120,H⟩:=H
                  replace H:(if t458.length<8796093022208 then (some ((t458++[(⟨wrap64 (161+t463),0⟩:S37)]),t464,t465)) else (none))=some (r1,r2,r3):=H
                  have A212:=A_ A2120
                  clear A2120
                  by_cases c213:t458.length<8796093022208
                  · as_aux_lemma=>
                    rw[if_pos c213] at H
                    have LMc213:=A_ c213
                    clear c213
                    obtain⟨y466,hy466⟩:∃ y_:List (S37),y_=(t458++[(⟨wrap64 (161+t463),0⟩:S37)]):=⟨_,rfl⟩
                    replace H:(some (y466,t464,t465))=some (r1,r2,r3):=by first|(rw[hy466];with_reducible exact H)|(have H2_:=(Option.bind_some _ _).symm.trans H;rw[hy466];with_reducible exact H2_)|(have H2_:=(Option.bind_some _ _).symm.trans H;with_reducible exact H2_)|with_reducible exact H|(rw[hy466];exact H)|exact H
                    have Ny466:=A_ hy466
                    clear hy466
                    simp only[Option.some.injEq,Prod.mk.injEq] at H
                    obtain⟨rfl,rfl,rfl⟩:=H
                    go_wp2_with (first|((with_reducible refine gc_ 14 rfl ?_);refine goesL_ (some 152) rfl rfl Try.func14 (by kernel_rfl) rfl #[.pointer (some ⟨g,0,none⟩),.int .i64 6] rfl ar ?_;(with_reducible refine(spec_l1Cur_pick.calls g s0_0 s0_1 s0_2 6 t318 t319 t320 w0 _ ?side1 ?side2 A111.out).mono ?_);(case side1=>repeat (first|(with_reducible first|exact HI0.out|apply IsS42.alloc|apply IsS42.drewN|apply IsS42.drew|apply IsS42.set_1|apply IsS42.set_2)|exact HI0.out));(case side2=>repeat (first|(with_reducible first|exact HB.out|apply below_alloc|apply pw_below_drewN|apply below_drew1|refine below_set ?_ (IsS42.ge HI0.out))|exact HB.out));rintro e w214 ⟨rfl,hi,hb,hk⟩;refine⟨_,rfl,?_⟩;replace HO_1:=A_ (Kd.R_mono (Kd.R_keep (IsS42.apart (show IsS42 w0 _ g s0_0 s0_1 s0_2 from y1 HI0.out) (kr_ HO_1.out) (by decide)) hk (fun _ h=>h.2)) (fun _ h=>h.1));replace HK:=A_ (Kept.of_keep (S:=(fun k_=>(P1_ k_)∨k_=g)) (y6 HK.out) hk (.inl (.inr rfl)));replace HB:=A_ (hb);replace HI0:=A_ (hi);(try clear hb);(try clear hb2);(try clear hk);(try clear hi))|((with_reducible refine gc_ 13 rfl ?_);refine goesL_ (some 312) rfl rfl Try.func13 (by kernel_rfl) rfl #[.pointer (some ⟨g,0,none⟩),.int .i64 2] rfl ar ?_;(with_reducible refine(spec_l1Cur_one.calls g s0_0 t319 t320 2 false t443 t444 w0 _ ?side1 ?side2 A202.out).mono ?_);(case side1=>repeat (first|(with_reducible first|exact HI0.out|apply IsS42.alloc|apply IsS42.drewN|apply IsS42.drew|apply IsS42.set_1|apply IsS42.set_2)|exact HI0.out));(case side2=>repeat (first|(with_reducible first|exact HB.out|apply below_alloc|apply pw_below_drewN|apply below_drew1|refine below_set ?_ (IsS42.ge HI0.out))|exact HB.out));rintro e w215 ⟨rfl,hi,hb,hk⟩;refine⟨_,rfl,?_⟩;replace HO_1:=A_ (Kd.R_mono (Kd.R_keep (IsS42.apart (show IsS42 w0 _ g s0_0 t319 t320 from y1 HI0.out) (kr_ HO_1.out) (by decide)) hk (fun _ h=>h.2)) (fun _ h=>h.1));replace HK:=A_ (Kept.of_keep (S:=(fun k_=>(P1_ k_)∨k_=g)) (y6 HK.out) hk (.inl (.inr rfl)));replace HB:=A_ (hb);replace HI0:=A_ (hi);(try clear hb);(try clear hb2);(try clear hk);(try clear hi))|((with_reducible refine gc_ 42 rfl ?_);refine goesL_ (some 327) rfl rfl Try.func42 (by kernel_rfl) rfl #[.pointer (some ⟨g,0,none⟩),.slice Ao7 l1.length co7,.int .i64 125,.int .i64 (wrap64 (x3_5 - 1)),.int .i64 a4] rfl ar ?_;(with_reducible refine(ih kj5 (by have:=HJ5.out;omega) g s0_0 t443 t444 (fun k_=>some k_=(.slice Ao7 l1.length co7:Value).ownBlock) (.slice Ao7 l1.length co7) l1 125 (wrap64 (x3_5 - 1)) a4 t453 t456 t457 w0 _ ?side1 ?side2 ?side3 A210.out).mono ?_);(case side1=>repeat (first|(with_reducible first|exact HI0.out|apply IsS42.alloc|apply IsS42.drewN|apply IsS42.drew|apply IsS42.set_1|apply IsS42.set_2)|exact HI0.out));(case side2=>repeat (first|(with_reducible first|exact HB.out|apply below_alloc|apply pw_below_drewN|apply below_drew1|refine below_set ?_ (IsS42.ge HI0.out))|exact HB.out));(case side3=>exact Kd.R_tight rfl HO_1.out);rintro e w216 ⟨v454,rfl,ho0,hi,hb,hkp⟩;refine⟨_,rfl,?_⟩;have HO455:=A_ (Kd.R_mono (ok':=fun k_=>(P1_ k_∨w.heap.size≤k_)) ho0 (fun k_ hk_=>Or.elim hk_ (fun hs_=>(HO_1.out.1 k_ (hs_).symm)) (fun hn_=>(.inr (Nat.le_trans (by first|exact HK.out.1|exact(show Kept w _ (fun k_=>(P1_ k_)∨k_=g) from y6 HK.out).1) hn_)))));replace HI0:=A_ (hi);replace HK:=A_ (Kept.then_ (S:=(fun k_=>(P1_ k_)∨k_=g)) (y6 HK.out) hkp (fun k_ hs_=>Or.elim hs_ (fun hs_=>(fun e_=>Or.imp_left Or.inl ((HO_1.out.1 k_ e_.symm))) hs_) (fun e_=>.inl (.inr e_))));replace HB:=A_ (hb);clear HO_1;(try clear hb);(try clear hkp);(try clear ho0);obtain⟨Ao217,co217,eo217⟩:=Kd.R_slice HO455.out;subst eo217)|((with_reducible refine gc_ 42 rfl ?_);refine goesL_ (some 333) rfl rfl Try.func42 (by kernel_rfl) rfl #[.pointer (some ⟨g,0,none⟩),.slice Ao217 t453.length co217,.int .i64 125,.int .i64 (wrap64 (x3_5 - 1)),.int .i64 a4] rfl ar ?_;(with_reducible refine(ih kj5 (by have:=HJ5.out;omega) g s0_0 t456 t457 (fun k_=>some k_=(.slice Ao217 t453.length co217:Value).ownBlock) (.slice Ao217 t453.length co217) t453 125 (wrap64 (x3_5 - 1)) a4 t458 t461 t462 w0 _ ?side1 ?side2 ?side3 A211.out).mono ?_);(case side1=>repeat (first|(with_reducible first|exact HI0.out|apply IsS42.alloc|apply IsS42.drewN|apply IsS42.drew|apply IsS42.set_1|apply IsS42.set_2)|exact HI0.out));(case side2=>repeat (first|(with_reducible first|exact HB.out|apply below_alloc|apply pw_below_drewN|apply below_drew1|refine below_set ?_ (IsS42.ge HI0.out))|exact HB.out));(case side3=>exact Kd.R_tight rfl HO455.out);rintro e w218 ⟨v459,rfl,ho0,hi,hb,hkp⟩;refine⟨_,rfl,?_⟩;have HO460:=A_ (Kd.R_mono (ok':=fun k_=>(P1_ k_∨w.heap.size≤k_)) ho0 (fun k_ hk_=>Or.elim hk_ (fun hs_=>(HO455.out.1 k_ (hs_).symm)) (fun hn_=>(.inr (Nat.le_trans (by first|exact HK.out.1|exact(show Kept w _ (fun k_=>(P1_ k_)∨k_=g) from y6 HK.out).1) hn_)))));replace HI0:=A_ (hi);replace HK:=A_ (Kept.then_ (S:=(fun k_=>(P1_ k_)∨k_=g)) (y6 HK.out) hkp (fun k_ hs_=>Or.elim hs_ (fun hs_=>(fun e_=>Or.imp_left Or.inl ((HO455.out.1 k_ e_.symm))) hs_) (fun e_=>.inl (.inr e_))));replace HB:=A_ (hb);clear HO455;(try clear hb);(try clear hkp);(try clear ho0))|((with_reducible refine gc_ 14 rfl ?_);refine goesL_ (some 336) rfl rfl Try.func14 (by kernel_rfl) rfl #[.pointer (some ⟨g,0,none⟩),.int .i64 5] rfl ar ?_;(with_reducible refine(spec_l1Cur_pick.calls g s0_0 t461 t462 5 t463 t464 t465 w0 _ ?side1 ?side2 A212.out).mono ?_);(case side1=>repeat (first|(with_reducible first|exact HI0.out|apply IsS42.alloc|apply IsS42.drewN|apply IsS42.drew|apply IsS42.set_1|apply IsS42.set_2)|exact HI0.out));(case side2=>repeat (first|(with_reducible first|exact HB.out|apply below_alloc|apply pw_below_drewN|apply below_drew1|refine below_set ?_ (IsS42.ge HI0.out))|exact HB.out));rintro e w219 ⟨rfl,hi,hb,hk⟩;refine⟨_,rfl,?_⟩;replace HO460:=A_ (Kd.R_mono (Kd.R_keep (IsS42.apart (show IsS42 w0 _ g s0_0 t461 t462 from y1 HI0.out) (kr_ HO460.out) (by decide)) hk (fun _ h=>h.2)) (fun _ h=>h.1));replace HK:=A_ (Kept.of_keep (S:=(fun k_=>(P1_ k_)∨k_=g)) (y6 HK.out) hk (.inl (.inr rfl)));replace HB:=A_ (hb);replace HI0:=A_ (hi);(try clear hb);(try clear hb2);(try clear hk);(try clear hi))|((with_reducible refine gate_builtin (b:=.append) (xs:=#[.tmp 334,.tmp 339]) rfl ?_);at_builtin;refine Kd.R_append k37 (w0:=w0) w0.heap.size rfl (.tmp 334) (.tmp 339) 23 37 (.agg #[(.int .i64 0),(.int .i64 0)]) 16 rfl Try.underlying23 info37 rfl (by decide) (by omega) v459 t458 (⟨wrap64 (161+t463),0⟩:S37) [.int .i64 (wrap64 (161+t463)),.int .i64 0] (fun k_=>(P1_ k_∨w.heap.size≤k_)) (fun _=>False) rfl rfl ?aP (fun _ hk=>hk.elim) ?aF ?aO ?aB ?aS ?aL ?_;(case aP=>exact k37_mkM _ _ _ (⟨wrap64 (161+t463),0⟩:S37));(case aB=>exact(y2 HB.out));(case aF=>exact(fun k_ hk=>(.inr (Nat.le_trans (by first|exact HK.out.1|exact(show Kept w _ (fun k_=>(P1_ k_)∨k_=g) from y6 HK.out).1) hk))));(case aO=>exact(kr_ HO460.out));(case aS=>exact(below_size (y2 HB.out)));(case aL=>have:=LMc213.out;omega);intro v467 w220 ho hb hg hat;rw[←Ny466.out] at ho;have HO468:=A_ (ho);replace HI0:=A_ (IsS42.grown (y1 HI0.out) hg (IsS42.own_ne HI0.out HO460.out (by decide)));replace HB:=A_ (hb);replace HK:=A_ (Kept.of_grown (S:=(fun k_=>(P1_ k_)∨k_=g)) hg (y6 HK.out) (fun k_ e_=>Or.imp_left Or.inl ((HO460.out.1 k_ e_))));clear HO460;clear ho hb hg hat))
                    go_ret
                    exact⟨_,rr_,kr_ HO468.out,y1 HI0.out,y2 HB.out,y6 HK.out⟩
                  rw[if_neg c213] at H
                  exact absurd H (by simp)

end Go.Proofs.Ytmajifnehjlncaa.Q

