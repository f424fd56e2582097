-- Written by a program of this session; it walks the functions that the law reaches.
import Derived.Test.YtmajifnehjlncaaQx0
import Derived.Test.YtmajifnehjlncaaQx1
import Derived.Test.YtmajifnehjlncaaQx3
namespace Go.Proofs.Ytmajifnehjlncaa.Q
open Go.RowKit Go.Proofs.YtmajifnehjlncaaW.PrintWords Go.Proofs.YtmajifnehjlncaaW.PrintLast Go.Proofs.YtmajifnehjlncaaW.PrintMore
attribute [local go_sem] max2_int min2_int max_two min_two max_three min_three max_four min_four   -- for this text's walks alone
set_option linter.unusedVariables false
set_option linter.unusedSimpArgs false
set_option maxRecDepth 100000
set_option maxHeartbeats 8000000

/-! ### spec_l1Cur_body: function 29 -/
def spec_l1Cur_body.l0:Nat→Int→List (S37)→Int→List Int→Int→Int→Option ((List (S37)) × Int × Int)
 |0,_,_,_,_,_,_=>none
 |k+1,x1,x5,x6,x1000,x1001,x1002=>if x6 > 0 then ((spec_l1Cur_pick.f x1000 x1001 x1002 3).bind fun bt472=>((spec_l1Cur_gen.f k x1000 bt472.2.1 bt472.2.2 x5 64 bt472.1 0).bind fun bt475=>(spec_l1Cur_body.l0 k x1 bt475.1 (wrap64 (x6 - 1)) x1000 bt475.2.1 bt475.2.2))) else ((spec_l1Cur_pick.f x1000 x1001 x1002 4).bind fun bt480=>((spec_l1Cur_gen.f k x1000 bt480.2.1 bt480.2.2 x5 x1 bt480.1 0).bind fun bt483=>(if bt483.1.length<8796093022208 then (some ((bt483.1++[(⟨11,0⟩:S37)]),bt483.2.1,bt483.2.2)) else (none))))
def spec_l1Cur_body.f (k:Nat) (s0_0:List Int) (s0_1:Int) (s0_2:Int) (a1:Int):Option ((List (S37)) × Int × Int):=(spec_l1Cur_pick.f s0_0 s0_1 s0_2 3).bind fun bt469=>(spec_l1Cur_body.l0 k a1 ([]:List (S37)) bt469.1 s0_0 bt469.2.1 bt469.2.2)
theorem spec_l1Cur_body.calls (k:Nat) (g:Nat) (s0_0:List Int) (s0_1:Int) (s0_2:Int) (a1:Int) (r1:List (S37)) (r2:Int) (r3:Int) (w0 w:World) (hI:IsS42 w0 w g s0_0 s0_1 s0_2) (hB:Below w0.heap.size w0 w) (h:spec_l1Cur_body.f k s0_0 s0_1 s0_2 a1=some (r1,r2,r3)):
  Calls Try.prog 29 #[.pointer (some ⟨g,0,none⟩),.int .i64 a1] w fun e w'=>∃ v0_:Value,e=.returned (v0_)∧Kd.R k37 37 w' w.heap.size (fun _=>True) v0_ r1∧IsS42 w0 w' g s0_0 r2 r3∧Below w0.heap.size w0 w'∧KeepBut w w' g none:=by
 have hu37:=Try.underlying37
 have HI0:=A_ hI
 have HK:=A_ (KeepBut.refl w g none)
 have HL:=A_ hB.size
 clear hI
 have HW0:=A_ hB.size
 have HB:=A_ hB
 clear hB
 have H:((spec_l1Cur_pick.f s0_0 s0_1 s0_2 3).bind fun bt469=>(spec_l1Cur_body.l0 k a1 ([]:List (S37)) bt469.1 s0_0 bt469.2.1 bt469.2.2))=some (r1,r2,r3):=h
 clear h
 replace H:=Option.bind_eq_some_iff.mp H
 obtain⟨⟨t469,t470,t471⟩,A30,H⟩:=H
 replace H:(spec_l1Cur_body.l0 k a1 ([]:List (S37)) t469 s0_0 t470 t471)=some (r1,r2,r3):=H
 have A3:=A_ A30
 clear A30
 have H':=A_ H
 clear H
 go_enter Try.func29,Try.ntmps29
 go_wp2_with (first|((with_reducible refine gc_ 14 rfl ?_);refine goesL_ (some 8) rfl rfl Try.func14 (by kernel_rfl) rfl #[.pointer (some ⟨g,0,none⟩),.int .i64 3] rfl ar ?_;(with_reducible refine(spec_l1Cur_pick.calls g s0_0 s0_1 s0_2 3 t469 t470 t471 w0 _ ?side1 ?side2 A3.out).mono ?_);(case side1=>repeat (first|(with_reducible first|exact HI0.out|apply IsS42.alloc|apply IsS42.drewN|apply IsS42.drew|apply IsS42.set_1|apply IsS42.set_2)|exact HI0.out));(case side2=>repeat (first|(with_reducible first|exact HB.out|apply below_alloc|apply pw_below_drewN|apply below_drew1|refine below_set ?_ (IsS42.ge HI0.out))|exact HB.out));rintro e w4 ⟨rfl,hi,hb,hk⟩;refine⟨_,rfl,?_⟩;replace HK:=A_ (KeepBut.trans (y0 HK.out) hk (.inl rfl));replace HB:=A_ (hb);replace HI0:=A_ (hi);(try clear hb);(try clear hb2);(try clear hk);(try clear hi)))
 (try simp only[Act.put,List.setIfInBounds_toArray,List.set_cons_zero,List.set_cons_succ])
 go_loopg [5,6] k (fun kq v5 v6 w'=>∃ (x5_1:List (S37)) (x6_1:Int) (x1001_1:Int) (x1002_1:Int),v6=.int .i64 x6_1∧Aside0 (spec_l1Cur_body.l0 kq a1 x5_1 x6_1 s0_0 x1001_1 x1002_1=some (r1,r2,r3))∧Aside0 (kq≤k)∧Aside0 (Kd.R k37 37 w' w.heap.size (fun _=>True) v5 x5_1)∧Aside0 (IsS42 w0 w' g s0_0 x1001_1 x1002_1)∧Aside0 (KeepBut w w' g none)∧Aside0 (Below w0.heap.size w0 w'))
 case atStart=>exact⟨(([]:List (S37))),(t469),(t470),(t471),rs_,H',⟨Nat.le_refl _⟩,⟨by first|exact Kd.R_nil _ _ _ _ _|exact Kd.N_nil _ _ _ _ _|exact Kd.V_nil _ _ _ _ _|exact Kd.Q_nil _ _ _ _ _|exact Kd.S_nil _ _ _ _ _⟩,⟨y1 HI0.out⟩,⟨y0 HK.out⟩,⟨y2 HB.out⟩⟩
 case round=>
  clear H'
  obtain⟨x5_1,x6_1,x1001_1,x1002_1,rfl,HA,HK1,HO_5,HI0,HK,HB⟩:=hrel
  cases gk with
  |zero=>exact absurd HA.out (by simp[spec_l1Cur_body.l0])
  |succ k1=>
   have H:=HA.out
   clear HA
   simp only[spec_l1Cur_body.l0] at H
   by_cases c5:x6_1 > 0
   ·
    rw[if_pos c5] at H
    have c5b0:=decide_eq_true c5
    clear c5
    replace H:=Option.bind_eq_some_iff.mp H
    obtain⟨⟨t472,t473,t474⟩,A60,H⟩:=H
    replace H:((spec_l1Cur_gen.f k1 s0_0 t473 t474 x5_1 64 t472 0).bind fun bt475=>(spec_l1Cur_body.l0 k1 a1 bt475.1 (wrap64 (x6_1 - 1)) s0_0 bt475.2.1 bt475.2.2))=some (r1,r2,r3):=H
    have A6:=A_ A60
    clear A60
    replace H:=Option.bind_eq_some_iff.mp H
    obtain⟨⟨t475,t478,t479⟩,A70,H⟩:=H
    replace H:(spec_l1Cur_body.l0 k1 a1 t475 (wrap64 (x6_1 - 1)) s0_0 t478 t479)=some (r1,r2,r3):=H
    have A7:=A_ A70
    clear A70
    have H':=A_ H
    clear H
    go_wp2_with (first|((with_reducible refine gc_ 14 rfl ?_);refine goesL_ (some 16) rfl rfl Try.func14 (by kernel_rfl) rfl #[.pointer (some ⟨g,0,none⟩),.int .i64 3] rfl ar ?_;(with_reducible refine(spec_l1Cur_pick.calls g s0_0 x1001_1 x1002_1 3 t472 t473 t474 w0 _ ?side1 ?side2 A6.out).mono ?_);(case side1=>repeat (first|(with_reducible first|exact HI0.out|apply IsS42.alloc|apply IsS42.drewN|apply IsS42.drew|apply IsS42.set_1|apply IsS42.set_2)|exact HI0.out));(case side2=>repeat (first|(with_reducible first|exact HB.out|apply below_alloc|apply pw_below_drewN|apply below_drew1|refine below_set ?_ (IsS42.ge HI0.out))|exact HB.out));rintro e w8 ⟨rfl,hi,hb,hk⟩;refine⟨_,rfl,?_⟩;replace HO_5:=A_ (Kd.R_mono (Kd.R_keep (IsS42.apart (show IsS42 w0 _ g s0_0 x1001_1 x1002_1 from y1 HI0.out) (kr_ HO_5.out) (by decide)) hk (fun _ h=>h.2)) (fun _ h=>h.1));replace HK:=A_ (KeepBut.trans (y0 HK.out) hk (.inl rfl));replace HB:=A_ (hb);replace HI0:=A_ (hi);(try clear hb);(try clear hb2);(try clear hk);(try clear hi);obtain⟨Ao9,co9,eo9⟩:=Kd.R_slice HO_5.out;subst eo9)|((with_reducible refine gc_ 42 rfl ?_);refine goesL_ (some 17) rfl rfl Try.func42 (by kernel_rfl) rfl #[.pointer (some ⟨g,0,none⟩),.slice Ao9 x5_1.length co9,.int .i64 64,.int .i64 t472,.int .i64 0] rfl ar ?_;(with_reducible refine(spec_l1Cur_gen.calls k1 g s0_0 t473 t474 (fun k_=>some k_=(.slice Ao9 x5_1.length co9:Value).ownBlock) (.slice Ao9 x5_1.length co9) x5_1 64 t472 0 t475 t478 t479 w0 _ ?side1 ?side2 ?side3 A7.out).mono ?_);(case side1=>repeat (first|(with_reducible first|exact HI0.out|apply IsS42.alloc|apply IsS42.drewN|apply IsS42.drew|apply IsS42.set_1|apply IsS42.set_2)|exact HI0.out));(case side2=>repeat (first|(with_reducible first|exact HB.out|apply below_alloc|apply pw_below_drewN|apply below_drew1|refine below_set ?_ (IsS42.ge HI0.out))|exact HB.out));(case side3=>exact Kd.R_lower (Kd.R_tight rfl HO_5.out) HL.out);rintro e w10 ⟨v476,rfl,ho0,hi,hb,hkp⟩;refine⟨_,rfl,?_⟩;have HO477:=A_ (Kd.R_mono (ok':=fun k_=>True) (Kd.R_raise (d:=k37) (b:=w0.heap.size) (b':=w.heap.size) (fun _ _ _ _ h_=>h_) ho0 (fun k_ e_=>Or.elim (ho0.1 k_ e_) (fun hs_=>(fun e_=>Kd.R_base HO_5.out k_ e_.symm) hs_) (fun hn_=>Nat.le_trans (keep_size (w:=w) (g:=g) (row:=none) (y0 HK.out)) hn_))) (fun k_ hk_=>trivial));replace HI0:=A_ (hi);replace HK:=A_ (Kept.keepG (y0 HK.out) hkp (fun k_ hs_=>Or.elim hs_ (fun hs_=>(fun e_=>.inr (Kd.R_base HO_5.out k_ e_.symm)) hs_) (fun e_=>.inl e_)));replace HB:=A_ (hb);clear HO_5;(try clear hb);(try clear hkp);(try clear ho0)))
    go_roundg k1
    case measure=>have:=HK1.out;omega
    case rel=>exact⟨(t475),(wrap64 (x6_1 - 1)),(t478),(t479),rs_,H',⟨by have:=HK1.out;omega⟩,⟨kr_ HO477.out⟩,⟨y1 HI0.out⟩,⟨y0 HK.out⟩,⟨y2 HB.out⟩⟩
   rw[if_neg c5] at H
   have c5b0:=decide_eq_false c5
   clear c5
   replace H:=Option.bind_eq_some_iff.mp H
   obtain⟨⟨t480,t481,t482⟩,A110,H⟩:=H
   replace H:((spec_l1Cur_gen.f k1 s0_0 t481 t482 x5_1 a1 t480 0).bind fun bt483=>(if bt483.1.length<8796093022208 then (some ((bt483.1++[(⟨11,0⟩:S37)]),bt483.2.1,bt483.2.2)) else (none)))=some (r1,r2,r3):=H
   have A11:=A_ A110
   clear A110
   replace H:=Option.bind_eq_some_iff.mp H
   obtain⟨⟨t483,t486,t487⟩,A120,H⟩:=H
   replace H:(if t483.length<8796093022208 then (some ((t483++[(⟨11,0⟩:S37)]),t486,t487)) else (none))=some (r1,r2,r3):=H
   have A12:=A_ A120
   clear A120
   by_cases c13:t483.length<8796093022208
   ·
    rw[if_pos c13] at H
    have LMc13:=A_ c13
    clear c13
    obtain⟨y488,hy488⟩:∃ y_:List (S37),y_=(t483++[(⟨11,0⟩:S37)]):=⟨_,rfl⟩
    replace H:(some (y488,t486,t487))=some (r1,r2,r3):=by first|(rw[hy488];with_reducible exact H)|(have H2_:=(Option.bind_some _ _).symm.trans H;rw[hy488];with_reducible exact H2_)|(have H2_:=(Option.bind_some _ _).symm.trans H;with_reducible exact H2_)|with_reducible exact H|(rw[hy488];exact H)|exact H
    have Ny488:=A_ hy488
    clear hy488
    simp only[Option.some.injEq,Prod.mk.injEq] at H
    obtain⟨rfl,rfl,rfl⟩:=H
    go_wp2_with (first|((with_reducible refine gc_ 14 rfl ?_);refine goesL_ (some 22) rfl rfl Try.func14 (by kernel_rfl) rfl #[.pointer (some ⟨g,0,none⟩),.int .i64 4] rfl ar ?_;(with_reducible refine(spec_l1Cur_pick.calls g s0_0 x1001_1 x1002_1 4 t480 t481 t482 w0 _ ?side1 ?side2 A11.out).mono ?_);(case side1=>repeat (first|(with_reducible first|exact HI0.out|apply IsS42.alloc|apply IsS42.drewN|apply IsS42.drew|apply IsS42.set_1|apply IsS42.set_2)|exact HI0.out));(case side2=>repeat (first|(with_reducible first|exact HB.out|apply below_alloc|apply pw_below_drewN|apply below_drew1|refine below_set ?_ (IsS42.ge HI0.out))|exact HB.out));rintro e w14 ⟨rfl,hi,hb,hk⟩;refine⟨_,rfl,?_⟩;replace HO_5:=A_ (Kd.R_mono (Kd.R_keep (IsS42.apart (show IsS42 w0 _ g s0_0 x1001_1 x1002_1 from y1 HI0.out) (kr_ HO_5.out) (by decide)) hk (fun _ h=>h.2)) (fun _ h=>h.1));replace HK:=A_ (KeepBut.trans (y0 HK.out) hk (.inl rfl));replace HB:=A_ (hb);replace HI0:=A_ (hi);(try clear hb);(try clear hb2);(try clear hk);(try clear hi);obtain⟨Ao15,co15,eo15⟩:=Kd.R_slice HO_5.out;subst eo15)|((with_reducible refine gc_ 42 rfl ?_);refine goesL_ (some 23) rfl rfl Try.func42 (by kernel_rfl) rfl #[.pointer (some ⟨g,0,none⟩),.slice Ao15 x5_1.length co15,.int .i64 a1,.int .i64 t480,.int .i64 0] rfl ar ?_;(with_reducible refine(spec_l1Cur_gen.calls k1 g s0_0 t481 t482 (fun k_=>some k_=(.slice Ao15 x5_1.length co15:Value).ownBlock) (.slice Ao15 x5_1.length co15) x5_1 a1 t480 0 t483 t486 t487 w0 _ ?side1 ?side2 ?side3 A12.out).mono ?_);(case side1=>repeat (first|(with_reducible first|exact HI0.out|apply IsS42.alloc|apply IsS42.drewN|apply IsS42.drew|apply IsS42.set_1|apply IsS42.set_2)|exact HI0.out));(case side2=>repeat (first|(with_reducible first|exact HB.out|apply below_alloc|apply pw_below_drewN|apply below_drew1|refine below_set ?_ (IsS42.ge HI0.out))|exact HB.out));(case side3=>exact Kd.R_lower (Kd.R_tight rfl HO_5.out) HL.out);rintro e w16 ⟨v484,rfl,ho0,hi,hb,hkp⟩;refine⟨_,rfl,?_⟩;have HO485:=A_ (Kd.R_mono (ok':=fun k_=>True) (Kd.R_raise (d:=k37) (b:=w0.heap.size) (b':=w.heap.size) (fun _ _ _ _ h_=>h_) ho0 (fun k_ e_=>Or.elim (ho0.1 k_ e_) (fun hs_=>(fun e_=>Kd.R_base HO_5.out k_ e_.symm) hs_) (fun hn_=>Nat.le_trans (keep_size (w:=w) (g:=g) (row:=none) (y0 HK.out)) hn_))) (fun k_ hk_=>trivial));replace HI0:=A_ (hi);replace HK:=A_ (Kept.keepG (y0 HK.out) hkp (fun k_ hs_=>Or.elim hs_ (fun hs_=>(fun e_=>.inr (Kd.R_base HO_5.out k_ e_.symm)) hs_) (fun e_=>.inl e_)));replace HB:=A_ (hb);clear HO_5;(try clear hb);(try clear hkp);(try clear ho0))|((with_reducible refine gate_builtin (b:=.append) (xs:=#[.tmp 24,.tmp 26]) rfl ?_);at_builtin;refine Kd.R_append k37 w.heap.size rfl (.tmp 24) (.tmp 26) 23 37 (.agg #[(.int .i64 0),(.int .i64 0)]) 16 rfl Try.underlying23 info37 rfl (by decide) (by omega) v484 t483 (⟨11,0⟩:S37) [.int .i64 11,.int .i64 0] (fun _=>True) (fun _=>False) rfl rfl ?aP (fun _ hk=>hk.elim) ?aF ?aO (Below.refl _ _) ?aS ?aL ?_;(case aP=>exact k37_mkM _ _ _ (⟨11,0⟩:S37));(case aF=>exact(fun _ _=>trivial));(case aO=>exact(kr_ HO485.out));(case aS=>exact(keep_size (w:=w) (g:=g) (row:=none) (y0 HK.out)));(case aL=>have:=LMc13.out;omega);intro v489 w17 ho hb hg hat;rw[←Ny488.out] at ho;have HO490:=A_ (ho);replace HI0:=A_ (IsS42.grown (y1 HI0.out) hg (IsS42.own_ne HI0.out HO485.out (by decide)));replace HB:=A_ (below_weaken (y2 HB.out) HL.out hb);replace HK:=A_ (KeepBut.trans (y0 HK.out) (KeepBut.of_grown hg g) (Kd.R_base2 HO485.out));clear HO485;clear ho hb hg hat))
    go_ret
    exact⟨_,rr_,kr_ HO490.out,y1 HI0.out,y2 HB.out,y0 HK.out⟩
   rw[if_neg c13] at H
   exact absurd H (by simp)

/-! ### spec_l1Cur_spoiltCode: function 31 -/
def spec_l1Cur_spoiltCode.f (s0_0:List Int) (s0_1:Int) (s0_2:Int) (l1:List (S37)):Option ((List (S37)) × Int × Int):=if (l1.length:Int)=0 then (some (l1,s0_1,s0_2)) else ((spec_l1Cur_pick.f s0_0 s0_1 s0_2 (l1.length:Int)).bind fun bt491=>((spec_l1Cur_pick.f s0_0 bt491.2.1 bt491.2.2 4).bind fun bt494=>(if bt494.1=0 then ((spec_l1Cur_among.f s0_0 bt494.2.1 bt494.2.2 (([0,2,5,11,12,15,26,27,33,97,250]:List Int))).bind fun bt500=>(if 0≤bt491.1 then (if bt491.1<(l1.length:Int) then (some ((l1.set (bt491.1:Int).toNat (⟨bt500.1,(rd_T37 l1 bt491.1).f1⟩:S37)),bt500.2.1,bt500.2.2)) else (none)) else (none))) else (if bt494.1=1 then ((spec_l1Cur_among.f s0_0 bt494.2.1 bt494.2.2 (([(-1),0,1,1001,64,127]:List Int))).bind fun bt507=>(if 0≤bt491.1 then (if bt491.1<(l1.length:Int) then (some ((l1.set (bt491.1:Int).toNat (⟨(rd_T37 l1 bt491.1).f0,bt507.1⟩:S37)),bt507.2.1,bt507.2.2)) else (none)) else (none))) else (if bt494.1=2 then ((some (([]:List (S37)):List (S37))).bind fun y511=>(if 0≤bt491.1 then (if bt491.1≤(l1.length:Int) then ((some (l1.take (bt491.1:Int).toNat:List (S37))).bind fun y514=>(if y511.length+y514.length<8796093022208 then ((some (y511++y514:List (S37))).bind fun y518=>(if 0≤(wrap64 (bt491.1+1)) then (if (wrap64 (bt491.1+1))≤(l1.length:Int) then ((some (l1.drop ((wrap64 (bt491.1+1)):Int).toNat:List (S37))).bind fun y521=>(if y518.length+y521.length<8796093022208 then (some ((y518++y521),bt494.2.1,bt494.2.2)) else (none))) else (none)) else (none))) else (none))) else (none)) else (none))) else ((some (([]:List (S37)):List (S37))).bind fun y528=>(if 0≤bt491.1 then (if bt491.1≤(l1.length:Int) then ((some (l1.take (bt491.1:Int).toNat:List (S37))).bind fun y531=>(if y528.length+y531.length<8796093022208 then ((some (y528++y531:List (S37))).bind fun y535=>((spec_l1Cur_among.f s0_0 bt494.2.1 bt494.2.2 (([0,1,12,15,26,11,5]:List Int))).bind fun bt541=>(if y535.length<8796093022208 then ((some (y535++[(⟨bt541.1,0⟩:S37)]:List (S37))).bind fun y544=>((some (l1.drop (bt491.1:Int).toNat:List (S37))).bind fun y547=>(if y544.length+y547.length<8796093022208 then (some ((y544++y547),bt541.2.1,bt541.2.2)) else (none)))) else (none)))) else (none))) else (none)) else (none))))))))
def spec_l1Cur_spoiltCode.T13:Bool × List (List Nat × List Nat):=(true,[([],[]),([],[]),([],[]),([1,2],[1,2]),([0,3],[0,3]),([],[]),([],[]),([6],[6]),([5,7],[5,7]),([4,8,4],[4,8]),([9,9,0,1,2,3,4,5,6,7,8,9],[1,5,9])])
def spec_l1Cur_spoiltCode.B13:List Nat:=[0,0,0,6,15,0,0,64,224,511,1023]
theorem spec_l1Cur_spoiltCode.tab13:rtab .any (opsOf Try.f31 13)=spec_l1Cur_spoiltCode.T13:=by kernel_rfl
theorem spec_l1Cur_spoiltCode.bits13:waitsOk spec_l1Cur_spoiltCode.T13.2 spec_l1Cur_spoiltCode.B13=true:=by kernel_rfl
theorem spec_l1Cur_spoiltCode.calls (g:Nat) (s0_0:List Int) (s0_1:Int) (s0_2:Int) (P1_:Nat→Prop) (u9000_:Value) (l1:List (S37)) (r1:List (S37)) (r2:Int) (r3:Int) (w0 w:World) (hI:IsS42 w0 w g s0_0 s0_1 s0_2) (hB:Below w0.heap.size w0 w) (ho1:Kd.R k37 37 w w0.heap.size P1_ u9000_ l1) (h:spec_l1Cur_spoiltCode.f s0_0 s0_1 s0_2 l1=some (r1,r2,r3)):
  Calls Try.prog 31 #[.pointer (some ⟨g,0,none⟩),u9000_] w fun e w'=>∃ v0_:Value,e=.returned (v0_)∧Kd.R k37 37 w' w0.heap.size (fun k_=>(P1_ k_∨w.heap.size≤k_)) v0_ r1∧IsS42 w0 w' g s0_0 r2 r3∧Below w0.heap.size w0 w'∧Kept w w' (fun k_=>(P1_ k_)∨k_=g):=by
 have hu37:=Try.underlying37
 have HO1:=A_ (show Kd.R k37 37 w w0.heap.size (fun k_=>(P1_ k_∨w.heap.size≤k_)) u9000_ l1 from Kd.R_mono ho1 (fun k_ hk=>(.inl hk)))
 have HI0:=A_ hI
 have HL:=A_ hB.size
 clear hI
 have HK:=A_ (Kept.refl w (fun k_=>(P1_ k_)∨k_=g))
 have HW0:=A_ hB.size
 have HB:=A_ hB
 clear hB
 have H:(if (l1.length:Int)=0 then (some (l1,s0_1,s0_2)) else ((spec_l1Cur_pick.f s0_0 s0_1 s0_2 (l1.length:Int)).bind fun bt491=>((spec_l1Cur_pick.f s0_0 bt491.2.1 bt491.2.2 4).bind fun bt494=>(if bt494.1=0 then ((spec_l1Cur_among.f s0_0 bt494.2.1 bt494.2.2 (([0,2,5,11,12,15,26,27,33,97,250]:List Int))).bind fun bt500=>(if 0≤bt491.1 then (if bt491.1<(l1.length:Int) then (some ((l1.set (bt491.1:Int).toNat (⟨bt500.1,(rd_T37 l1 bt491.1).f1⟩:S37)),bt500.2.1,bt500.2.2)) else (none)) else (none))) else (if bt494.1=1 then ((spec_l1Cur_among.f s0_0 bt494.2.1 bt494.2.2 (([(-1),0,1,1001,64,127]:List Int))).bind fun bt507=>(if 0≤bt491.1 then (if bt491.1<(l1.length:Int) then (some ((l1.set (bt491.1:Int).toNat (⟨(rd_T37 l1 bt491.1).f0,bt507.1⟩:S37)),bt507.2.1,bt507.2.2)) else (none)) else (none))) else (if bt494.1=2 then ((some (([]:List (S37)):List (S37))).bind fun y511=>(if 0≤bt491.1 then (if bt491.1≤(l1.length:Int) then ((some (l1.take (bt491.1:Int).toNat:List (S37))).bind fun y514=>(if y511.length+y514.length<8796093022208 then ((some (y511++y514:List (S37))).bind fun y518=>(if 0≤(wrap64 (bt491.1+1)) then (if (wrap64 (bt491.1+1))≤(l1.length:Int) then ((some (l1.drop ((wrap64 (bt491.1+1)):Int).toNat:List (S37))).bind fun y521=>(if y518.length+y521.length<8796093022208 then (some ((y518++y521),bt494.2.1,bt494.2.2)) else (none))) else (none)) else (none))) else (none))) else (none)) else (none))) else ((some (([]:List (S37)):List (S37))).bind fun y528=>(if 0≤bt491.1 then (if bt491.1≤(l1.length:Int) then ((some (l1.take (bt491.1:Int).toNat:List (S37))).bind fun y531=>(if y528.length+y531.length<8796093022208 then ((some (y528++y531:List (S37))).bind fun y535=>((spec_l1Cur_among.f s0_0 bt494.2.1 bt494.2.2 (([0,1,12,15,26,11,5]:List Int))).bind fun bt541=>(if y535.length<8796093022208 then ((some (y535++[(⟨bt541.1,0⟩:S37)]:List (S37))).bind fun y544=>((some (l1.drop (bt491.1:Int).toNat:List (S37))).bind fun y547=>(if y544.length+y547.length<8796093022208 then (some ((y544++y547),bt541.2.1,bt541.2.2)) else (none)))) else (none)))) else (none))) else (none)) else (none)))))))))=some (r1,r2,r3):=h
 clear h
 by_cases c3:(l1.length:Int)=0
 ·
  rw[if_pos c3] at H
  obtain⟨c3b0,c3b1⟩:=eT_ c3
  clear c3
  simp only[Option.some.injEq,Prod.mk.injEq] at H
  obtain⟨rfl,rfl,rfl⟩:=H
  obtain⟨Ao4,co4,eo4⟩:=Kd.R_slice HO1.out
  subst eo4
  go_enter Try.func31,Try.ntmps31
  go_wp2
  go_ret
  exact⟨_,rr_,kr_ HO1.out,y1 HI0.out,y2 HB.out,y6 HK.out⟩
 rw[if_neg c3] at H
 obtain⟨c3b0,c3b1⟩:=eF_ c3
 have c3b2:¬(l1=[]):=fun h_=>c3 (by rw[h_];rfl)
 replace H:=Option.bind_eq_some_iff.mp H
 obtain⟨⟨t491,t492,t493⟩,A50,H⟩:=H
 replace H:((spec_l1Cur_pick.f s0_0 t492 t493 4).bind fun bt494=>(if bt494.1=0 then ((spec_l1Cur_among.f s0_0 bt494.2.1 bt494.2.2 (([0,2,5,11,12,15,26,27,33,97,250]:List Int))).bind fun bt500=>(if 0≤t491 then (if t491<(l1.length:Int) then (some ((l1.set (t491:Int).toNat (⟨bt500.1,(rd_T37 l1 t491).f1⟩:S37)),bt500.2.1,bt500.2.2)) else (none)) else (none))) else (if bt494.1=1 then ((spec_l1Cur_among.f s0_0 bt494.2.1 bt494.2.2 (([(-1),0,1,1001,64,127]:List Int))).bind fun bt507=>(if 0≤t491 then (if t491<(l1.length:Int) then (some ((l1.set (t491:Int).toNat (⟨(rd_T37 l1 t491).f0,bt507.1⟩:S37)),bt507.2.1,bt507.2.2)) else (none)) else (none))) else (if bt494.1=2 then ((some (([]:List (S37)):List (S37))).bind fun y511=>(if 0≤t491 then (if t491≤(l1.length:Int) then ((some (l1.take (t491:Int).toNat:List (S37))).bind fun y514=>(if y511.length+y514.length<8796093022208 then ((some (y511++y514:List (S37))).bind fun y518=>(if 0≤(wrap64 (t491+1)) then (if (wrap64 (t491+1))≤(l1.length:Int) then ((some (l1.drop ((wrap64 (t491+1)):Int).toNat:List (S37))).bind fun y521=>(if y518.length+y521.length<8796093022208 then (some ((y518++y521),bt494.2.1,bt494.2.2)) else (none))) else (none)) else (none))) else (none))) else (none)) else (none))) else ((some (([]:List (S37)):List (S37))).bind fun y528=>(if 0≤t491 then (if t491≤(l1.length:Int) then ((some (l1.take (t491:Int).toNat:List (S37))).bind fun y531=>(if y528.length+y531.length<8796093022208 then ((some (y528++y531:List (S37))).bind fun y535=>((spec_l1Cur_among.f s0_0 bt494.2.1 bt494.2.2 (([0,1,12,15,26,11,5]:List Int))).bind fun bt541=>(if y535.length<8796093022208 then ((some (y535++[(⟨bt541.1,0⟩:S37)]:List (S37))).bind fun y544=>((some (l1.drop (t491:Int).toNat:List (S37))).bind fun y547=>(if y544.length+y547.length<8796093022208 then (some ((y544++y547),bt541.2.1,bt541.2.2)) else (none)))) else (none)))) else (none))) else (none)) else (none)))))))=some (r1,r2,r3):=H
 have A5:=A_ A50
 clear A50
 replace H:=Option.bind_eq_some_iff.mp H
 obtain⟨⟨t494,t495,t496⟩,A60,H⟩:=H
 replace H:(if t494=0 then ((spec_l1Cur_among.f s0_0 t495 t496 (([0,2,5,11,12,15,26,27,33,97,250]:List Int))).bind fun bt500=>(if 0≤t491 then (if t491<(l1.length:Int) then (some ((l1.set (t491:Int).toNat (⟨bt500.1,(rd_T37 l1 t491).f1⟩:S37)),bt500.2.1,bt500.2.2)) else (none)) else (none))) else (if t494=1 then ((spec_l1Cur_among.f s0_0 t495 t496 (([(-1),0,1,1001,64,127]:List Int))).bind fun bt507=>(if 0≤t491 then (if t491<(l1.length:Int) then (some ((l1.set (t491:Int).toNat (⟨(rd_T37 l1 t491).f0,bt507.1⟩:S37)),bt507.2.1,bt507.2.2)) else (none)) else (none))) else (if t494=2 then ((some (([]:List (S37)):List (S37))).bind fun y511=>(if 0≤t491 then (if t491≤(l1.length:Int) then ((some (l1.take (t491:Int).toNat:List (S37))).bind fun y514=>(if y511.length+y514.length<8796093022208 then ((some (y511++y514:List (S37))).bind fun y518=>(if 0≤(wrap64 (t491+1)) then (if (wrap64 (t491+1))≤(l1.length:Int) then ((some (l1.drop ((wrap64 (t491+1)):Int).toNat:List (S37))).bind fun y521=>(if y518.length+y521.length<8796093022208 then (some ((y518++y521),t495,t496)) else (none))) else (none)) else (none))) else (none))) else (none)) else (none))) else ((some (([]:List (S37)):List (S37))).bind fun y528=>(if 0≤t491 then (if t491≤(l1.length:Int) then ((some (l1.take (t491:Int).toNat:List (S37))).bind fun y531=>(if y528.length+y531.length<8796093022208 then ((some (y528++y531:List (S37))).bind fun y535=>((spec_l1Cur_among.f s0_0 t495 t496 (([0,1,12,15,26,11,5]:List Int))).bind fun bt541=>(if y535.length<8796093022208 then ((some (y535++[(⟨bt541.1,0⟩:S37)]:List (S37))).bind fun y544=>((some (l1.drop (t491:Int).toNat:List (S37))).bind fun y547=>(if y544.length+y547.length<8796093022208 then (some ((y544++y547),bt541.2.1,bt541.2.2)) else (none)))) else (none)))) else (none))) else (none)) else (none))))))=some (r1,r2,r3):=H
 have A6:=A_ A60
 clear A60
 by_cases c7:t494=0
 ·
  rw[if_pos c7] at H
  obtain⟨c7b0,c7b1⟩:=eT_ c7
  clear c7
  obtain⟨y497,hy497⟩:∃ y_:List Int,y_=(([0,2,5,11,12,15,26,27,33,97,250]:List Int)):=⟨_,rfl⟩
  replace H:((spec_l1Cur_among.f s0_0 t495 t496 y497).bind fun bt500=>(if 0≤t491 then (if t491<(l1.length:Int) then (some ((l1.set (t491:Int).toNat (⟨bt500.1,(rd_T37 l1 t491).f1⟩:S37)),bt500.2.1,bt500.2.2)) else (none)) else (none)))=some (r1,r2,r3):=by first|(rw[hy497];with_reducible exact H)|(have H2_:=(Option.bind_some _ _).symm.trans H;rw[hy497];with_reducible exact H2_)|(have H2_:=(Option.bind_some _ _).symm.trans H;with_reducible exact H2_)|with_reducible exact H|(rw[hy497];exact H)|exact H
  have Ny497:=A_ hy497
  clear hy497
  replace H:=Option.bind_eq_some_iff.mp H
  obtain⟨⟨t500,t501,t502⟩,A80,H⟩:=H
  replace H:(if 0≤t491 then (if t491<(l1.length:Int) then (some ((l1.set (t491:Int).toNat (⟨t500,(rd_T37 l1 t491).f1⟩:S37)),t501,t502)) else (none)) else (none))=some (r1,r2,r3):=H
  have A8:=A_ A80
  clear A80
  by_cases c9:0≤t491
  ·
   rw[if_pos c9] at H
   have c9b0:=decide_eq_true c9
   clear c9
   by_cases c10:t491<(l1.length:Int)
   ·
    rw[if_pos c10] at H
    have c10b0:=decide_eq_true c10
    clear c10
    obtain⟨y503,hy503⟩:∃ y_:List (S37),y_=(l1.set (t491:Int).toNat (⟨t500,(rd_T37 l1 t491).f1⟩:S37)):=⟨_,rfl⟩
    replace H:(some (y503,t501,t502))=some (r1,r2,r3):=by first|(rw[hy503];with_reducible exact H)|(have H2_:=(Option.bind_some _ _).symm.trans H;rw[hy503];with_reducible exact H2_)|(have H2_:=(Option.bind_some _ _).symm.trans H;with_reducible exact H2_)|with_reducible exact H|(rw[hy503];exact H)|exact H
    have Ny503:=A_ hy503
    clear hy503
    simp only[Option.some.injEq,Prod.mk.injEq] at H
    obtain⟨rfl,rfl,rfl⟩:=H
    obtain⟨Ao12,co12,eo12⟩:=Kd.R_slice HO1.out
    subst eo12
    go_enter Try.func31,Try.ntmps31
    go_wp2_with (first|((with_reducible refine gc_ 14 rfl ?_);refine goesL_ (some 14) rfl rfl Try.func14 (by kernel_rfl) rfl #[.pointer (some ⟨g,0,none⟩),.int .i64 (l1.length:Int)] rfl ar ?_;(with_reducible refine(spec_l1Cur_pick.calls g s0_0 s0_1 s0_2 (l1.length:Int) t491 t492 t493 w0 _ ?side1 ?side2 A5.out).mono ?_);(case side1=>repeat (first|(with_reducible first|exact HI0.out|apply IsS42.alloc|apply IsS42.drewN|apply IsS42.drew|apply IsS42.set_1|apply IsS42.set_2)|exact HI0.out));(case side2=>repeat (first|(with_reducible first|exact HB.out|apply below_alloc|apply pw_below_drewN|apply below_drew1|refine below_set ?_ (IsS42.ge HI0.out))|exact HB.out));rintro e w13 ⟨rfl,hi,hb,hk⟩;refine⟨_,rfl,?_⟩;replace HO1:=A_ (Kd.R_mono (Kd.R_keep (IsS42.apart (show IsS42 w0 _ g s0_0 s0_1 s0_2 from y1 HI0.out) (kr_ HO1.out) (by decide)) hk (fun _ h=>h.2)) (fun _ h=>h.1));replace HK:=A_ (Kept.of_keep (S:=(fun k_=>(P1_ k_)∨k_=g)) (y6 HK.out) hk (.inl (.inr rfl)));replace HB:=A_ (hb);replace HI0:=A_ (hi);(try clear hb);(try clear hb2);(try clear hk);(try clear hi))|((with_reducible refine gc_ 14 rfl ?_);refine goesL_ (some 16) rfl rfl Try.func14 (by kernel_rfl) rfl #[.pointer (some ⟨g,0,none⟩),.int .i64 4] rfl ar ?_;(with_reducible refine(spec_l1Cur_pick.calls g s0_0 t492 t493 4 t494 t495 t496 w0 _ ?side1 ?side2 A6.out).mono ?_);(case side1=>repeat (first|(with_reducible first|exact HI0.out|apply IsS42.alloc|apply IsS42.drewN|apply IsS42.drew|apply IsS42.set_1|apply IsS42.set_2)|exact HI0.out));(case side2=>repeat (first|(with_reducible first|exact HB.out|apply below_alloc|apply pw_below_drewN|apply below_drew1|refine below_set ?_ (IsS42.ge HI0.out))|exact HB.out));rintro e w14 ⟨rfl,hi,hb,hk⟩;refine⟨_,rfl,?_⟩;replace HO1:=A_ (Kd.R_mono (Kd.R_keep (IsS42.apart (show IsS42 w0 _ g s0_0 t492 t493 from y1 HI0.out) (kr_ HO1.out) (by decide)) hk (fun _ h=>h.2)) (fun _ h=>h.1));replace HK:=A_ (Kept.of_keep (S:=(fun k_=>(P1_ k_)∨k_=g)) (y6 HK.out) hk (.inl (.inr rfl)));replace HB:=A_ (hb);replace HI0:=A_ (hi);(try clear hb);(try clear hb2);(try clear hk);(try clear hi))|((with_reducible refine gd_ 39 rfl ?_);refine Kd.R_lit (Kd.int .i64) _ 3 ?hg (N:=39) ?hd (xs:=([0,2,5,11,12,15,26,27,33,97,250]:List Int)) (inner:=[.int .i64 0,.int .i64 2,.int .i64 5,.int .i64 11,.int .i64 12,.int .i64 15,.int .i64 26,.int .i64 27,.int .i64 33,.int .i64 97,.int .i64 250]) (ok:=fun _=>True) (okp:=fun _=>True) ?hr ?hp (fun _ hk=>hk) trivial (Below.refl _ _) (Nat.le_refl _) (by simp) ?_;(case hd=>rfl);(case hg=>rfl);(case hr=>first|(go_simp;done)|(go_simp;rfl));(case hp=>exact(Reps.one (show Kd.M (Kd.int .i64) _ _ _ 0 [.int .i64 0] from rfl) (Reps.one (show Kd.M (Kd.int .i64) _ _ _ 2 [.int .i64 2] from rfl) (Reps.one (show Kd.M (Kd.int .i64) _ _ _ 5 [.int .i64 5] from rfl) (Reps.one (show Kd.M (Kd.int .i64) _ _ _ 11 [.int .i64 11] from rfl) (Reps.one (show Kd.M (Kd.int .i64) _ _ _ 12 [.int .i64 12] from rfl) (Reps.one (show Kd.M (Kd.int .i64) _ _ _ 15 [.int .i64 15] from rfl) (Reps.one (show Kd.M (Kd.int .i64) _ _ _ 26 [.int .i64 26] from rfl) (Reps.one (show Kd.M (Kd.int .i64) _ _ _ 27 [.int .i64 27] from rfl) (Reps.one (show Kd.M (Kd.int .i64) _ _ _ 33 [.int .i64 33] from rfl) (Reps.one (show Kd.M (Kd.int .i64) _ _ _ 97 [.int .i64 97] from rfl) (Reps.one (show Kd.M (Kd.int .i64) _ _ _ 250 [.int .i64 250] from rfl) (Reps.none _ _)))))))))))));intro v498 w15 ho16 hb hg_ hnew_;clear hg_ hnew_;(first|rw[←Ny497.out] at ho16|(simp only[Int.reduceToNat] at ho16;rw[←Ny497.out] at ho16));have HO499:=A_ (Kd.R_lower (Kd.R_newM (M:=fun k_=>(P1_ k_∨w.heap.size≤k_)) ho16 (by first|exact HK.out.1|exact(show Kept w _ (fun k_=>(P1_ k_)∨k_=g) from y6 HK.out).1) (fun k_ h_=>.inr h_)) (below_size (y2 HB.out)));replace HO1:=A_ (Kd.R_below (kr_ HO1.out) hb);replace HI0:=A_ (IsS42.below (y1 HI0.out) hb);replace HK:=A_ (Kept.below (S:=(fun k_=>(P1_ k_)∨k_=g)) (y6 HK.out) hb);replace HB:=A_ (below_step (y2 HB.out) hb);clear hb ho16;obtain⟨Ao17,co17,eo17⟩:=Kd.R_slice HO499.out;subst eo17)|((with_reducible refine gc_ 30 rfl ?_);refine goesL_ (some 40) rfl rfl Try.func30 (by kernel_rfl) rfl #[.pointer (some ⟨g,0,none⟩),.slice Ao17 y497.length co17] rfl ar ?_;(with_reducible refine(spec_l1Cur_among.calls g s0_0 t495 t496 _ _ y497 t500 t501 t502 w0 _ ?side1 ?side2 ?side3 ?side4 ?side5 A8.out).mono ?_);(case side1=>repeat (first|(with_reducible first|exact HI0.out|apply IsS42.alloc|apply IsS42.drewN|apply IsS42.drew|apply IsS42.set_1|apply IsS42.set_2)|exact HI0.out));(case side2=>repeat (first|(with_reducible first|exact HB.out|apply below_alloc|apply pw_below_drewN|apply below_drew1|refine below_set ?_ (IsS42.ge HI0.out))|exact HB.out));(case side3=>repeat (first|exact(Kd.R_reads' HO499.out).2.2|(with_reducible refine Kd.C_alloc ?_ _)|(with_reducible refine Kd.C_drewN ?_ _)|(with_reducible refine Kd.C_drew ?_)));(case side4=>exact(Kd.R_reads' HO499.out).2.1);(case side5=>exact far_slice (IsS42.own_ne HI0.out HO499.out (by decide)));rintro e w18 ⟨rfl,hi,hb,hk⟩;refine⟨_,rfl,?_⟩;replace HO1:=A_ (Kd.R_mono (Kd.R_keep (IsS42.apart (show IsS42 w0 _ g s0_0 t495 t496 from y1 HI0.out) (kr_ HO1.out) (by decide)) hk (fun _ h=>h.2)) (fun _ h=>h.1));replace HO499:=A_ (Kd.R_mono (Kd.R_keep (IsS42.apart (show IsS42 w0 _ g s0_0 t495 t496 from y1 HI0.out) (kr_ HO499.out) (by decide)) hk (fun _ h=>h.2)) (fun _ h=>h.1));replace HK:=A_ (Kept.of_keep (S:=(fun k_=>(P1_ k_)∨k_=g)) (y6 HK.out) hk (.inl (.inr rfl)));replace HB:=A_ (hb);replace HI0:=A_ (hi);(try clear hb);(try clear hb2);(try clear hk);(try clear hi);have p11:0≤(t491:Int):=od_;have q11:(t491:Int)<((l1.length:Int):Int):=od_;obtain⟨go11,co11,eo11,gb11,gl11,cl11,HG11⟩:=Kd.R_form HO1.out (by omega);(first|cases eo11|(injection eo11 with ea_ en_ ec_;(first|subst ea_|(injection ea_ with ea_;subst ea_));subst ec_;clear en_));have GB11:=A_ gb11;have GG11:=A_ HG11;clear gb11 gl11 HG11;have HMgo11:=A_ (show(P1_ go11∨w.heap.size≤go11) from(HO1.out.1 _ rfl));obtain⟨ce11,hcl11,hM11,hcc11,hfr11⟩:=Kd.R_elem HO1.out z37 (t491:Int) p11 q11;obtain rfl:=k37_openM hM11;have hx11_0:w18.cell? ⟨go11,(t491:Int).toNat*2,none⟩=some (.int .i64 ((rd_T37 l1 t491).f0)):=hcc11 0 _ rfl;have hx11_1:w18.cell? ⟨go11,(t491:Int).toNat*2+1,none⟩=some (.int .i64 ((rd_T37 l1 t491).f1)):=hcc11 1 _ rfl;have hf11_0:w18.frozen? ⟨go11,(t491:Int).toNat*2,none⟩=false:=hfr11 0;have hf11_1:w18.frozen? ⟨go11,(t491:Int).toNat*2+1,none⟩=false:=hfr11 1;clear hcl11 hcc11 hfr11 hM11;replace p11:=eq_true p11;replace q11:=eq_true q11;have HX19:=A_ (show Kd.R k37 37 w18 w0.heap.size (fun k_=>(P1_ k_∨w.heap.size≤k_)) (.slice (some ⟨go11,0,none⟩) l1.length co12) l1 from(kr_ HO1.out));obtain⟨ce19,hcl19,hM19,hcc19,hfr19⟩:=Kd.R_elem HX19.out z37 (t491:Int) (od_) (by have h_:(t491:Int)<((l1.length:Int):Int):=od_;first|exact h_|(have e_:=(Kd.R_reads' HO1.out).1;omega)|simpa using h_);obtain rfl:=k37_openM hM19;have HP19:=Kd.R_seg HX19.out (t491:Int) (od_) (by have h_:(t491:Int)<((l1.length:Int):Int):=od_;first|exact h_|(have e_:=(Kd.R_reads' HO1.out).1;omega)|simpa using h_) (seg:=[.int .i64 t500]) (j:=0) hcl19 hcc19 (show 1≤2 from by decide) (x':=(⟨t500,(rd_T37 l1 t491).f1⟩:S37)) (k37_mkM _ _ _ (⟨t500,(rd_T37 l1 t491).f1⟩:S37)) (fun _ hk=>hk);have hx19_0:=hcc19 0 _ rfl;(try simp only[show (k37).sz=2 from rfl,Nat.mul_one,Nat.add_zero] at hx19_0);have hf19_0:=hfr19 0;(try simp only[show (k37).sz=2 from rfl,Nat.mul_one,Nat.add_zero] at hf19_0);clear hcl19 hcc19 hfr19 hM19)|((with_reducible refine gate_store (t:=3) (p:=42) rfl ?_);refine store_event (t:=3) (p:=42) (v:=?vo_w20) (w1:=(w18.setCell ⟨go11,(t491:Int).toNat*2,none⟩ (.int .i64 t500))) ?hg ?ho ?hn ?hr ?_;(case ho=>rfl);(case hg=>rfl);(case hn=>rfl);(case hr=>first|(go_simp;done)|(go_simp;rfl));intro w20 hw;have hg:w18.grownBy w20 (some go11):=(by rw[hw];exact HP19.2);have hp_:Kd.R k37 37 w20 w0.heap.size (fun k_=>(P1_ k_∨w.heap.size≤k_)) (.slice (some ⟨go11,0,none⟩) l1.length co12) y503:=(by rw[hw,Ny503.out];exact HP19.1);clear HP19;replace HI0:=A_ (IsS42.grown (y1 HI0.out) hg (IsS42.own_ne HI0.out HO1.out (by decide)));replace HO499:=A_ (Kd.R_over' (v:=(.slice (some ⟨go11,0,none⟩) l1.length co12)) (kr_ HO499.out) (Kd.R_typed HO1.out) (by decide) hg);replace HB:=A_ ((by rw[hw];exact below_set (HB.out) GB11.out:Below w0.heap.size w0 w20));replace HK:=A_ (Kept.of_grown (S:=(fun k_=>(P1_ k_)∨k_=g)) hg (y6 HK.out) (fun k_ e_=>Or.imp_left Or.inl ((HO1.out.1 k_ e_))));replace HO1:=A_ (hp_);clear hg hw hp_))
    go_ret
    exact⟨_,rr_,kr_ HO1.out,y1 HI0.out,y2 HB.out,y6 HK.out⟩
   rw[if_neg c10] at H
   exact absurd H (by simp)
  rw[if_neg c9] at H
  exact absurd H (by simp)
 rw[if_neg c7] at H
 obtain⟨c7b0,c7b1⟩:=eF_ c7
 by_cases c21:t494=1
 ·
  rw[if_pos c21] at H
  obtain⟨c21b0,c21b1⟩:=eT_ c21
  clear c21
  obtain⟨y504,hy504⟩:∃ y_:List Int,y_=(([(-1),0,1,1001,64,127]:List Int)):=⟨_,rfl⟩
  replace H:((spec_l1Cur_among.f s0_0 t495 t496 y504).bind fun bt507=>(if 0≤t491 then (if t491<(l1.length:Int) then (some ((l1.set (t491:Int).toNat (⟨(rd_T37 l1 t491).f0,bt507.1⟩:S37)),bt507.2.1,bt507.2.2)) else (none)) else (none)))=some (r1,r2,r3):=by first|(rw[hy504];with_reducible exact H)|(have H2_:=(Option.bind_some _ _).symm.trans H;rw[hy504];with_reducible exact H2_)|(have H2_:=(Option.bind_some _ _).symm.trans H;with_reducible exact H2_)|with_reducible exact H|(rw[hy504];exact H)|exact H
  have Ny504:=A_ hy504
  clear hy504
  replace H:=Option.bind_eq_some_iff.mp H
  obtain⟨⟨t507,t508,t509⟩,A220,H⟩:=H
  replace H:(if 0≤t491 then (if t491<(l1.length:Int) then (some ((l1.set (t491:Int).toNat (⟨(rd_T37 l1 t491).f0,t507⟩:S37)),t508,t509)) else (none)) else (none))=some (r1,r2,r3):=H
  have A22:=A_ A220
  clear A220
  by_cases c23:0≤t491
  ·
   rw[if_pos c23] at H
   have c23b0:=decide_eq_true c23
   clear c23
   by_cases c24:t491<(l1.length:Int)
   ·
    rw[if_pos c24] at H
    have c24b0:=decide_eq_true c24
    clear c24
    obtain⟨y510,hy510⟩:∃ y_:List (S37),y_=(l1.set (t491:Int).toNat (⟨(rd_T37 l1 t491).f0,t507⟩:S37)):=⟨_,rfl⟩
    replace H:(some (y510,t508,t509))=some (r1,r2,r3):=by first|(rw[hy510];with_reducible exact H)|(have H2_:=(Option.bind_some _ _).symm.trans H;rw[hy510];with_reducible exact H2_)|(have H2_:=(Option.bind_some _ _).symm.trans H;with_reducible exact H2_)|with_reducible exact H|(rw[hy510];exact H)|exact H
    have Ny510:=A_ hy510
    clear hy510
    simp only[Option.some.injEq,Prod.mk.injEq] at H
    obtain⟨rfl,rfl,rfl⟩:=H
    obtain⟨Ao26,co26,eo26⟩:=Kd.R_slice HO1.out
    subst eo26
    go_enter Try.func31,Try.ntmps31
    go_wp2_with (first|((with_reducible refine gc_ 14 rfl ?_);refine goesL_ (some 14) rfl rfl Try.func14 (by kernel_rfl) rfl #[.pointer (some ⟨g,0,none⟩),.int .i64 (l1.length:Int)] rfl ar ?_;(with_reducible refine(spec_l1Cur_pick.calls g s0_0 s0_1 s0_2 (l1.length:Int) t491 t492 t493 w0 _ ?side1 ?side2 A5.out).mono ?_);(case side1=>repeat (first|(with_reducible first|exact HI0.out|apply IsS42.alloc|apply IsS42.drewN|apply IsS42.drew|apply IsS42.set_1|apply IsS42.set_2)|exact HI0.out));(case side2=>repeat (first|(with_reducible first|exact HB.out|apply below_alloc|apply pw_below_drewN|apply below_drew1|refine below_set ?_ (IsS42.ge HI0.out))|exact HB.out));rintro e w27 ⟨rfl,hi,hb,hk⟩;refine⟨_,rfl,?_⟩;replace HO1:=A_ (Kd.R_mono (Kd.R_keep (IsS42.apart (show IsS42 w0 _ g s0_0 s0_1 s0_2 from y1 HI0.out) (kr_ HO1.out) (by decide)) hk (fun _ h=>h.2)) (fun _ h=>h.1));replace HK:=A_ (Kept.of_keep (S:=(fun k_=>(P1_ k_)∨k_=g)) (y6 HK.out) hk (.inl (.inr rfl)));replace HB:=A_ (hb);replace HI0:=A_ (hi);(try clear hb);(try clear hb2);(try clear hk);(try clear hi))|((with_reducible refine gc_ 14 rfl ?_);refine goesL_ (some 16) rfl rfl Try.func14 (by kernel_rfl) rfl #[.pointer (some ⟨g,0,none⟩),.int .i64 4] rfl ar ?_;(with_reducible refine(spec_l1Cur_pick.calls g s0_0 t492 t493 4 t494 t495 t496 w0 _ ?side1 ?side2 A6.out).mono ?_);(case side1=>repeat (first|(with_reducible first|exact HI0.out|apply IsS42.alloc|apply IsS42.drewN|apply IsS42.drew|apply IsS42.set_1|apply IsS42.set_2)|exact HI0.out));(case side2=>repeat (first|(with_reducible first|exact HB.out|apply below_alloc|apply pw_below_drewN|apply below_drew1|refine below_set ?_ (IsS42.ge HI0.out))|exact HB.out));rintro e w28 ⟨rfl,hi,hb,hk⟩;refine⟨_,rfl,?_⟩;replace HO1:=A_ (Kd.R_mono (Kd.R_keep (IsS42.apart (show IsS42 w0 _ g s0_0 t492 t493 from y1 HI0.out) (kr_ HO1.out) (by decide)) hk (fun _ h=>h.2)) (fun _ h=>h.1));replace HK:=A_ (Kept.of_keep (S:=(fun k_=>(P1_ k_)∨k_=g)) (y6 HK.out) hk (.inl (.inr rfl)));replace HB:=A_ (hb);replace HI0:=A_ (hi);(try clear hb);(try clear hb2);(try clear hk);(try clear hi))|((with_reducible refine gd_ 48 rfl ?_);refine Kd.R_lit (Kd.int .i64) _ 3 ?hg (N:=48) ?hd (xs:=([(-1),0,1,1001,64,127]:List Int)) (inner:=[.int .i64 (-1),.int .i64 0,.int .i64 1,.int .i64 1001,.int .i64 64,.int .i64 127]) (ok:=fun _=>True) (okp:=fun _=>True) ?hr ?hp (fun _ hk=>hk) trivial (Below.refl _ _) (Nat.le_refl _) (by simp) ?_;(case hd=>rfl);(case hg=>rfl);(case hr=>first|(go_simp;done)|(go_simp;rfl));(case hp=>exact(Reps.one (show Kd.M (Kd.int .i64) _ _ _ (-1) [.int .i64 (-1)] from rfl) (Reps.one (show Kd.M (Kd.int .i64) _ _ _ 0 [.int .i64 0] from rfl) (Reps.one (show Kd.M (Kd.int .i64) _ _ _ 1 [.int .i64 1] from rfl) (Reps.one (show Kd.M (Kd.int .i64) _ _ _ 1001 [.int .i64 1001] from rfl) (Reps.one (show Kd.M (Kd.int .i64) _ _ _ 64 [.int .i64 64] from rfl) (Reps.one (show Kd.M (Kd.int .i64) _ _ _ 127 [.int .i64 127] from rfl) (Reps.none _ _))))))));intro v505 w29 ho30 hb hg_ hnew_;clear hg_ hnew_;(first|rw[←Ny504.out] at ho30|(simp only[Int.reduceToNat] at ho30;rw[←Ny504.out] at ho30));have HO506:=A_ (Kd.R_lower (Kd.R_newM (M:=fun k_=>(P1_ k_∨w.heap.size≤k_)) ho30 (by first|exact HK.out.1|exact(show Kept w _ (fun k_=>(P1_ k_)∨k_=g) from y6 HK.out).1) (fun k_ h_=>.inr h_)) (below_size (y2 HB.out)));replace HO1:=A_ (Kd.R_below (kr_ HO1.out) hb);replace HI0:=A_ (IsS42.below (y1 HI0.out) hb);replace HK:=A_ (Kept.below (S:=(fun k_=>(P1_ k_)∨k_=g)) (y6 HK.out) hb);replace HB:=A_ (below_step (y2 HB.out) hb);clear hb ho30;obtain⟨Ao31,co31,eo31⟩:=Kd.R_slice HO506.out;subst eo31)|((with_reducible refine gc_ 30 rfl ?_);refine goesL_ (some 49) rfl rfl Try.func30 (by kernel_rfl) rfl #[.pointer (some ⟨g,0,none⟩),.slice Ao31 y504.length co31] rfl ar ?_;(with_reducible refine(spec_l1Cur_among.calls g s0_0 t495 t496 _ _ y504 t507 t508 t509 w0 _ ?side1 ?side2 ?side3 ?side4 ?side5 A22.out).mono ?_);(case side1=>repeat (first|(with_reducible first|exact HI0.out|apply IsS42.alloc|apply IsS42.drewN|apply IsS42.drew|apply IsS42.set_1|apply IsS42.set_2)|exact HI0.out));(case side2=>repeat (first|(with_reducible first|exact HB.out|apply below_alloc|apply pw_below_drewN|apply below_drew1|refine below_set ?_ (IsS42.ge HI0.out))|exact HB.out));(case side3=>repeat (first|exact(Kd.R_reads' HO506.out).2.2|(with_reducible refine Kd.C_alloc ?_ _)|(with_reducible refine Kd.C_drewN ?_ _)|(with_reducible refine Kd.C_drew ?_)));(case side4=>exact(Kd.R_reads' HO506.out).2.1);(case side5=>exact far_slice (IsS42.own_ne HI0.out HO506.out (by decide)));rintro e w32 ⟨rfl,hi,hb,hk⟩;refine⟨_,rfl,?_⟩;replace HO1:=A_ (Kd.R_mono (Kd.R_keep (IsS42.apart (show IsS42 w0 _ g s0_0 t495 t496 from y1 HI0.out) (kr_ HO1.out) (by decide)) hk (fun _ h=>h.2)) (fun _ h=>h.1));replace HO506:=A_ (Kd.R_mono (Kd.R_keep (IsS42.apart (show IsS42 w0 _ g s0_0 t495 t496 from y1 HI0.out) (kr_ HO506.out) (by decide)) hk (fun _ h=>h.2)) (fun _ h=>h.1));replace HK:=A_ (Kept.of_keep (S:=(fun k_=>(P1_ k_)∨k_=g)) (y6 HK.out) hk (.inl (.inr rfl)));replace HB:=A_ (hb);replace HI0:=A_ (hi);(try clear hb);(try clear hb2);(try clear hk);(try clear hi);have p25:0≤(t491:Int):=od_;have q25:(t491:Int)<((l1.length:Int):Int):=od_;obtain⟨go25,co25,eo25,gb25,gl25,cl25,HG25⟩:=Kd.R_form HO1.out (by omega);(first|cases eo25|(injection eo25 with ea_ en_ ec_;(first|subst ea_|(injection ea_ with ea_;subst ea_));subst ec_;clear en_));have GB25:=A_ gb25;have GG25:=A_ HG25;clear gb25 gl25 HG25;have HMgo25:=A_ (show(P1_ go25∨w.heap.size≤go25) from(HO1.out.1 _ rfl));obtain⟨ce25,hcl25,hM25,hcc25,hfr25⟩:=Kd.R_elem HO1.out z37 (t491:Int) p25 q25;obtain rfl:=k37_openM hM25;have hx25_0:w32.cell? ⟨go25,(t491:Int).toNat*2,none⟩=some (.int .i64 ((rd_T37 l1 t491).f0)):=hcc25 0 _ rfl;have hx25_1:w32.cell? ⟨go25,(t491:Int).toNat*2+1,none⟩=some (.int .i64 ((rd_T37 l1 t491).f1)):=hcc25 1 _ rfl;have hf25_0:w32.frozen? ⟨go25,(t491:Int).toNat*2,none⟩=false:=hfr25 0;have hf25_1:w32.frozen? ⟨go25,(t491:Int).toNat*2+1,none⟩=false:=hfr25 1;clear hcl25 hcc25 hfr25 hM25;replace p25:=eq_true p25;replace q25:=eq_true q25;have HX33:=A_ (show Kd.R k37 37 w32 w0.heap.size (fun k_=>(P1_ k_∨w.heap.size≤k_)) (.slice (some ⟨go25,0,none⟩) l1.length co26) l1 from(kr_ HO1.out));obtain⟨ce33,hcl33,hM33,hcc33,hfr33⟩:=Kd.R_elem HX33.out z37 (t491:Int) (od_) (by have h_:(t491:Int)<((l1.length:Int):Int):=od_;first|exact h_|(have e_:=(Kd.R_reads' HO1.out).1;omega)|simpa using h_);obtain rfl:=k37_openM hM33;have HP33:=Kd.R_seg HX33.out (t491:Int) (od_) (by have h_:(t491:Int)<((l1.length:Int):Int):=od_;first|exact h_|(have e_:=(Kd.R_reads' HO1.out).1;omega)|simpa using h_) (seg:=[.int .i64 t507]) (j:=1) hcl33 hcc33 (show 2≤2 from by decide) (x':=(⟨(rd_T37 l1 t491).f0,t507⟩:S37)) (k37_mkM _ _ _ (⟨(rd_T37 l1 t491).f0,t507⟩:S37)) (fun _ hk=>hk);have hx33_1:=hcc33 1 _ rfl;(try simp only[show (k37).sz=2 from rfl,Nat.mul_one,Nat.add_zero] at hx33_1);have hf33_1:=hfr33 1;(try simp only[show (k37).sz=2 from rfl,Nat.mul_one,Nat.add_zero] at hf33_1);clear hcl33 hcc33 hfr33 hM33)|((with_reducible refine gate_store (t:=3) (p:=51) rfl ?_);refine store_event (t:=3) (p:=51) (v:=?vo_w34) (w1:=(w32.setCell ⟨go25,(t491:Int).toNat*2+1,none⟩ (.int .i64 t507))) ?hg ?ho ?hn ?hr ?_;(case ho=>rfl);(case hg=>rfl);(case hn=>rfl);(case hr=>first|(go_simp;done)|(go_simp;rfl));intro w34 hw;have hg:w32.grownBy w34 (some go25):=(by rw[hw];exact HP33.2);have hp_:Kd.R k37 37 w34 w0.heap.size (fun k_=>(P1_ k_∨w.heap.size≤k_)) (.slice (some ⟨go25,0,none⟩) l1.length co26) y510:=(by rw[hw,Ny510.out];exact HP33.1);clear HP33;replace HI0:=A_ (IsS42.grown (y1 HI0.out) hg (IsS42.own_ne HI0.out HO1.out (by decide)));replace HO506:=A_ (Kd.R_over' (v:=(.slice (some ⟨go25,0,none⟩) l1.length co26)) (kr_ HO506.out) (Kd.R_typed HO1.out) (by decide) hg);replace HB:=A_ ((by rw[hw];exact below_set (HB.out) GB25.out:Below w0.heap.size w0 w34));replace HK:=A_ (Kept.of_grown (S:=(fun k_=>(P1_ k_)∨k_=g)) hg (y6 HK.out) (fun k_ e_=>Or.imp_left Or.inl ((HO1.out.1 k_ e_))));replace HO1:=A_ (hp_);clear hg hw hp_))
    go_ret
    exact⟨_,rr_,kr_ HO1.out,y1 HI0.out,y2 HB.out,y6 HK.out⟩
   rw[if_neg c24] at H
   exact absurd H (by simp)
  rw[if_neg c23] at H
  exact absurd H (by simp)
 rw[if_neg c21] at H
 obtain⟨c21b0,c21b1⟩:=eF_ c21
 by_cases c35:t494=2
 ·
  rw[if_pos c35] at H
  obtain⟨c35b0,c35b1⟩:=eT_ c35
  clear c35
  obtain⟨y511,hy511⟩:∃ y_:List (S37),y_=(([]:List (S37))):=⟨_,rfl⟩
  replace H:(if 0≤t491 then (if t491≤(l1.length:Int) then ((some (l1.take (t491:Int).toNat:List (S37))).bind fun y514=>(if y511.length+y514.length<8796093022208 then ((some (y511++y514:List (S37))).bind fun y518=>(if 0≤(wrap64 (t491+1)) then (if (wrap64 (t491+1))≤(l1.length:Int) then ((some (l1.drop ((wrap64 (t491+1)):Int).toNat:List (S37))).bind fun y521=>(if y518.length+y521.length<8796093022208 then (some ((y518++y521),t495,t496)) else (none))) else (none)) else (none))) else (none))) else (none)) else (none))=some (r1,r2,r3):=by first|(rw[hy511];with_reducible exact H)|(have H2_:=(Option.bind_some _ _).symm.trans H;rw[hy511];with_reducible exact H2_)|(have H2_:=(Option.bind_some _ _).symm.trans H;with_reducible exact H2_)|with_reducible exact H|(rw[hy511];exact H)|exact H
  have Ny511:=A_ hy511
  clear hy511
  by_cases c36:0≤t491
  ·
   rw[if_pos c36] at H
   have c36b0:=eq_true c36
   have c36b1:=decide_eq_true c36
   clear c36
   by_cases c37:t491≤(l1.length:Int)
   ·
    rw[if_pos c37] at H
    have c37b0:=eq_true c37
    have c37b1:=decide_eq_true c37
    clear c37
    obtain⟨y514,hy514⟩:∃ y_:List (S37),y_=(l1.take (t491:Int).toNat):=⟨_,rfl⟩
    replace H:(if y511.length+y514.length<8796093022208 then ((some (y511++y514:List (S37))).bind fun y518=>(if 0≤(wrap64 (t491+1)) then (if (wrap64 (t491+1))≤(l1.length:Int) then ((some (l1.drop ((wrap64 (t491+1)):Int).toNat:List (S37))).bind fun y521=>(if y518.length+y521.length<8796093022208 then (some ((y518++y521),t495,t496)) else (none))) else (none)) else (none))) else (none))=some (r1,r2,r3):=by first|(rw[hy514];with_reducible exact H)|(have H2_:=(Option.bind_some _ _).symm.trans H;rw[hy514];with_reducible exact H2_)|(have H2_:=(Option.bind_some _ _).symm.trans H;with_reducible exact H2_)|with_reducible exact H|(rw[hy514];exact H)|exact H
    have Ny514:=A_ hy514
    clear hy514
    by_cases c38:y511.length+y514.length<8796093022208
    ·
     rw[if_pos c38] at H
     have LMc38:=A_ c38
     clear c38
     obtain⟨y518,hy518⟩:∃ y_:List (S37),y_=(y511++y514):=⟨_,rfl⟩
     replace H:(if 0≤(wrap64 (t491+1)) then (if (wrap64 (t491+1))≤(l1.length:Int) then ((some (l1.drop ((wrap64 (t491+1)):Int).toNat:List (S37))).bind fun y521=>(if y518.length+y521.length<8796093022208 then (some ((y518++y521),t495,t496)) else (none))) else (none)) else (none))=some (r1,r2,r3):=by first|(rw[hy518];with_reducible exact H)|(have H2_:=(Option.bind_some _ _).symm.trans H;rw[hy518];with_reducible exact H2_)|(have H2_:=(Option.bind_some _ _).symm.trans H;with_reducible exact H2_)|with_reducible exact H|(rw[hy518];exact H)|exact H
     have Ny518:=A_ hy518
     clear hy518
     obtain⟨ji39,hji39⟩:∃ j_:Int,(wrap64 (t491+1))=j_:=⟨_,rfl⟩
     replace H:(if 0≤(ji39) then (if (ji39)≤(l1.length:Int) then ((some (l1.drop ((ji39):Int).toNat:List (S37))).bind fun y521=>(if y518.length+y521.length<8796093022208 then (some ((y518++y521),t495,t496)) else (none))) else (none)) else (none))=some (r1,r2,r3):=by first|(rw[hji39] at H;exact H)|(simp only[hji39] at H ⊢;exact H)
     (try rw[hji39] at A5)
     (try rw[hji39] at A6)
     have hji39w:(IntKind.i64.wrap (t491+1))=ji39:=(i64_w _).trans hji39
     by_cases c40:0≤(ji39)
     ·
      rw[if_pos c40] at H
      have c40b0:=eq_true c40
      have c40b1:=decide_eq_true c40
      clear c40
      by_cases c41:(ji39)≤(l1.length:Int)
      ·
       rw[if_pos c41] at H
       have c41b0:=eq_true c41
       have c41b1:=decide_eq_true c41
       clear c41
       obtain⟨y521,hy521⟩:∃ y_:List (S37),y_=(l1.drop ((ji39):Int).toNat):=⟨_,rfl⟩
       replace H:(if y518.length+y521.length<8796093022208 then (some ((y518++y521),t495,t496)) else (none))=some (r1,r2,r3):=by first|(rw[hy521];with_reducible exact H)|(have H2_:=(Option.bind_some _ _).symm.trans H;rw[hy521];with_reducible exact H2_)|(have H2_:=(Option.bind_some _ _).symm.trans H;with_reducible exact H2_)|with_reducible exact H|(rw[hy521];exact H)|exact H
       have Ny521:=A_ hy521
       clear hy521
       by_cases c42:y518.length+y521.length<8796093022208
       ·
        rw[if_pos c42] at H
        have LMc42:=A_ c42
        clear c42
        obtain⟨y525,hy525⟩:∃ y_:List (S37),y_=(y518++y521):=⟨_,rfl⟩
        replace H:(some (y525,t495,t496))=some (r1,r2,r3):=by first|(rw[hy525];with_reducible exact H)|(have H2_:=(Option.bind_some _ _).symm.trans H;rw[hy525];with_reducible exact H2_)|(have H2_:=(Option.bind_some _ _).symm.trans H;with_reducible exact H2_)|with_reducible exact H|(rw[hy525];exact H)|exact H
        have Ny525:=A_ hy525
        clear hy525
        simp only[Option.some.injEq,Prod.mk.injEq] at H
        obtain⟨rfl,rfl,rfl⟩:=H
        obtain⟨Ao43,co43,eo43⟩:=Kd.R_slice HO1.out
        subst eo43
        go_enter Try.func31,Try.ntmps31
        try go_wp2_with (first|((with_reducible refine gc_ 14 rfl ?_);refine goesL_ (some 14) rfl rfl Try.func14 (by kernel_rfl) rfl #[.pointer (some ⟨g,0,none⟩),.int .i64 (l1.length:Int)] rfl ar ?_;(with_reducible refine(spec_l1Cur_pick.calls g s0_0 s0_1 s0_2 (l1.length:Int) t491 t492 t493 w0 _ ?side1 ?side2 A5.out).mono ?_);(case side1=>repeat (first|(with_reducible first|exact HI0.out|apply IsS42.alloc|apply IsS42.drewN|apply IsS42.drew|apply IsS42.set_1|apply IsS42.set_2)|exact HI0.out));(case side2=>repeat (first|(with_reducible first|exact HB.out|apply below_alloc|apply pw_below_drewN|apply below_drew1|refine below_set ?_ (IsS42.ge HI0.out))|exact HB.out));rintro e w44 ⟨rfl,hi,hb,hk⟩;refine⟨_,rfl,?_⟩;replace HO1:=A_ (Kd.R_mono (Kd.R_keep (IsS42.apart (show IsS42 w0 _ g s0_0 s0_1 s0_2 from y1 HI0.out) (kr_ HO1.out) (by decide)) hk (fun _ h=>h.2)) (fun _ h=>h.1));replace HK:=A_ (Kept.of_keep (S:=(fun k_=>(P1_ k_)∨k_=g)) (y6 HK.out) hk (.inl (.inr rfl)));replace HB:=A_ (hb);replace HI0:=A_ (hi);(try clear hb);(try clear hb2);(try clear hk);(try clear hi))|((with_reducible refine gc_ 14 rfl ?_);refine goesL_ (some 16) rfl rfl Try.func14 (by kernel_rfl) rfl #[.pointer (some ⟨g,0,none⟩),.int .i64 4] rfl ar ?_;(with_reducible refine(spec_l1Cur_pick.calls g s0_0 t492 t493 4 t494 t495 t496 w0 _ ?side1 ?side2 A6.out).mono ?_);(case side1=>repeat (first|(with_reducible first|exact HI0.out|apply IsS42.alloc|apply IsS42.drewN|apply IsS42.drew|apply IsS42.set_1|apply IsS42.set_2)|exact HI0.out));(case side2=>repeat (first|(with_reducible first|exact HB.out|apply below_alloc|apply pw_below_drewN|apply below_drew1|refine below_set ?_ (IsS42.ge HI0.out))|exact HB.out));rintro e w45 ⟨rfl,hi,hb,hk⟩;refine⟨_,rfl,?_⟩;replace HO1:=A_ (Kd.R_mono (Kd.R_keep (IsS42.apart (show IsS42 w0 _ g s0_0 t492 t493 from y1 HI0.out) (kr_ HO1.out) (by decide)) hk (fun _ h=>h.2)) (fun _ h=>h.1));replace HK:=A_ (Kept.of_keep (S:=(fun k_=>(P1_ k_)∨k_=g)) (y6 HK.out) hk (.inl (.inr rfl)));replace HB:=A_ (hb);replace HI0:=A_ (hi);(try clear hb);(try clear hb2);(try clear hk);(try clear hi)))
        have n0_:=A_ (Kd.R_drew HO1.out)
        have n1_:=A_ (IsS42.drew HI0.out)
        have n2_:=A_ (Kept.drew HK.out)
        have n3_:=A_ (below_drew1 HB.out)
        clear HO1 HI0 HK HB
        have HO1:=n0_
        have HI0:=n1_
        have HK:=n2_
        have HB:=n3_
        clear n0_ n1_ n2_ n3_
        have q47:(t491:Int)≤((l1.length:Int):Int):=od_
        obtain⟨i047,hi047,_,hsz47,_⟩:=info_parts info37
        have hroom47:l1.length≤co43:=(Kd.R_reads' HO1.out).2.1
        have hC47:Kd.C k37 _ Ao43 l1.length l1:=(Kd.R_reads' HO1.out).2.2
        have hcut47:=cut_to (P:=Try.prog) 23 37 .i64 Try.underlying23 hi047 Ao43 l1.length co43 t491 (od_) q47 hroom47
        have hr47:=Kd.C_take (m:=(t491:Int).toNat) hC47 (by omega)
        have hy47:y514.length=(t491:Int).toNat:=(by rw[Ny514.out,List.length_take];omega)
        rw[←Ny514.out] at hr47
        rw[←hy47] at hcut47
        have HR517:=A_ hr47
        have HC517:=A_ (show y514.length≤co43 from by omega)
        clear hr47 hC47 hroom47 hi047 hsz47
        have KY47:=A_ hy47
        clear hy47
        have KL47:=A_ (show(t491:Int).toNat≤l1.length from by omega)
        replace q47:=eq_true q47
        have q48:((ji39):Int)≤((l1.length:Int):Int):=od_
        obtain⟨i048,hi048,_,hsz48,_⟩:=info_parts info37
        have hroom48:l1.length≤co43:=(Kd.R_reads' HO1.out).2.1
        have hC48:Kd.C k37 _ Ao43 l1.length l1:=(Kd.R_reads' HO1.out).2.2
        have q048:(0:Int)≤((ji39):Int):=od_
        have hcut48:=cut_from (P:=Try.prog) 23 37 .i64 Try.underlying23 hi048 2 hsz48 Ao43 l1.length co43 (ji39) q048 q48
        have hr48:=Kd.C_drop (m:=((ji39):Int).toNat) (c:=co43) hC48 (by omega) hroom48
        obtain⟨A48,hA48⟩:∃ A1,A1=(if co43=((ji39):Int).toNat then Ao43 else (Ao43:Option Addr).map (·.add (((ji39):Int).toNat*2))):=⟨_,rfl⟩
        obtain⟨c48,hc48⟩:∃ c1,c1=co43 - ((ji39):Int).toNat:=⟨_,rfl⟩
        have hy48:y521.length=l1.length - ((ji39):Int).toNat:=(by rw[Ny521.out,List.length_drop]<;>omega)
        rw[show (l1).drop ((ji39):Int).toNat=y521 from Ny521.out.symm] at hr48
        replace hr48:Kd.C k37 _ A48 y521.length y521:=(by rw[hA48];exact hr48)
        rw[←hy48,←hA48,←hc48] at hcut48
        have HR524:=A_ hr48
        have HC524:=A_ (show y521.length≤c48 from by rw[hy48,hc48];exact Nat.sub_le_sub_right hroom48 _)
        clear hr48 hC48 hroom48 hi048 hsz48 hc48
        have KY48:=A_ hy48
        have KA48:=A_ hA48
        clear hy48 hA48
        have KL48:=A_ (show((ji39):Int).toNat≤l1.length from by omega)
        replace q48:=eq_true q48
        refine start_ (n:=11) (S:=fun w'=>True) (ds:=[]) #[false,false,false,false,false,false,false,false,false,false,false] (by kernel_rfl) rfl rfl trivial (fun hHeld=>?_);refine with_tabW spec_l1Cur_spoiltCode.tab13 spec_l1Cur_spoiltCode.bits13 (fun HT_ HW_=>?_)
        generalize w45.drew=w46 at HO1 HI0 HK HB HR517 HR524 hHeld ⊢
        refine pure_ (i:=1) (N:=some 55) (v:=?_) (a':=?_) #[false,true,false,false,false,false,false,false,false,false,false] rfl rfl (any_of HT_.out (by kernel_rfl)) (fun _ _ _ h=>h) (Or.inl ⟨by rfl,?_⟩) ?_ ?_
        rotate_left
        ·
         intro w'
         go_simp
         with_reducible rfl
        rotate_left
        ·
         simp only[Act.put,List.setIfInBounds_toArray,List.set_cons_zero,List.set_cons_succ,i64_w,i32_w]
         rfl
        refine pure_ (i:=2) (N:=some 56) (v:=?_) (a':=?_) #[false,true,true,false,false,false,false,false,false,false,false] rfl rfl (any_of HT_.out (by kernel_rfl)) (fun _ _ _ h=>h) (Or.inl ⟨by rfl,?_⟩) ?_ ?_
        rotate_left
        ·
         intro w'
         go_simp
         with_reducible rfl
        rotate_left
        ·
         simp only[Act.put,List.setIfInBounds_toArray,List.set_cons_zero,List.set_cons_succ,i64_w,i32_w]
         rfl
        refine pure_ (i:=3) (N:=some 57) (v:=?_) (a':=?_) #[false,true,true,true,false,false,false,false,false,false,false] rfl rfl (any_of HT_.out (by kernel_rfl)) (fun _ _ _ h=>h) (Or.inl ⟨by rfl,?_⟩) ?_ ?_
        rotate_left
        ·
         intro w'
         go_simp
         with_reducible rfl
        rotate_left
        ·
         simp only[Act.put,List.setIfInBounds_toArray,List.set_cons_zero,List.set_cons_succ,i64_w,i32_w]
         rfl
        refine pure_ (i:=5) (N:=some 59) (v:=?_) (a':=?_) #[false,true,true,true,false,true,false,false,false,false,false] rfl rfl (any_of HT_.out (by kernel_rfl)) (fun _ _ _ h=>h) (Or.inl ⟨by rfl,?_⟩) ?_ ?_
        rotate_left
        ·
         intro w'
         go_simp
         with_reducible rfl
        rotate_left
        ·
         simp only[Act.put,List.setIfInBounds_toArray,List.set_cons_zero,List.set_cons_succ,i64_w,i32_w]
         rfl
        refine pure_ (i:=6) (N:=some 60) (v:=?_) (a':=?_) #[false,true,true,true,false,true,true,false,false,false,false] rfl rfl (any_of HT_.out (by kernel_rfl)) (fun _ _ _ h=>h) (Or.inl ⟨by rfl,?_⟩) ?_ ?_
        rotate_left
        ·
         intro w'
         go_simp
         with_reducible rfl
        rotate_left
        ·
         simp only[Act.put,List.setIfInBounds_toArray,List.set_cons_zero,List.set_cons_succ,i64_w,i32_w]
         rfl
        refine pure_ (i:=7) (N:=some 61) (v:=?_) (a':=?_) #[false,true,true,true,false,true,true,true,false,false,false] rfl rfl (any_of HT_.out (by kernel_rfl)) (fun _ _ _ h=>h) (Or.inl ⟨by rfl,?_⟩) ?_ ?_
        rotate_left
        ·
         intro w'
         go_simp
         with_reducible rfl
        rotate_left
        ·
         simp only[Act.put,List.setIfInBounds_toArray,List.set_cons_zero,List.set_cons_succ,i64_w,i32_w]
         rfl
        refine pure_ (i:=8) (N:=some 62) (v:=?_) (a':=?_) #[false,true,true,true,false,true,true,true,true,false,false] rfl rfl (any_of HT_.out (by kernel_rfl)) (fun _ _ _ h=>h) (Or.inl ⟨by rfl,?_⟩) ?_ ?_
        rotate_left
        ·
         intro w'
         go_simp
         with_reducible rfl
        rotate_left
        ·
         simp only[Act.put,List.setIfInBounds_toArray,List.set_cons_zero,List.set_cons_succ,i64_w,i32_w]
         rfl
        refine one_ (i:=0) (N:=some 54) #[true,true,true,true,false,true,true,true,true,false,false] rfl rfl (one_of HT_.out (by kernel_rfl)) (by decide) (fun K hK=>?_)
        refine Kd.R_lit_step k37 _ 37 ?hg (N:=54) ?hd (xs:=([]:List (S37))) (inner:=[]) (ok:=fun _=>True) (okp:=fun _=>True) ?hr ?hp (fun _ hk=>hk) trivial (Below.refl _ _) (Nat.le_refl _) (by simp) ?_;(case hd=>rfl);(case hg=>rfl);(case hr=>first|(go_simp;done)|(go_simp;rfl));(case hp=>exact(Reps.none _ _))
        intro v512 w49 ho50 hb hg_ hnew_
        clear hg_ hnew_
        (first|rw[←Ny511.out] at ho50|(simp only[Int.reduceToNat] at ho50;rw[←Ny511.out] at ho50))
        have n0_:=A_ (Kd.R_elder' (kr_ HO1.out) (Kd.R_base ho50) hb)
        have n1_:=A_ (Kd.R_lower (Kd.R_new' (Kd.R_newM (M:=fun k_=>(P1_ k_∨w.heap.size≤k_)) ho50 (by first|exact HK.out.1|exact(show Kept w _ (fun k_=>(P1_ k_)∨k_=g) from y6 HK.out).1) (fun k_ h_=>.inr h_)) (Kd.R_lt (kr_ HO1.out))) (below_size (y2 HB.out)))
        have n2_:=A_ (IsS42.below (y1 HI0.out) hb)
        have n3_:=A_ (Kd.C_below (by repeat (first|(with_reducible exact HR517.out)|(with_reducible refine Kd.C_alloc ?_ _)|(with_reducible refine Kd.C_drewN ?_ _)|(with_reducible refine Kd.C_drew ?_)|exact HR517.out)) hb)
        have n4_:=A_ (Kd.C_below (by repeat (first|(with_reducible exact HR524.out)|(with_reducible refine Kd.C_alloc ?_ _)|(with_reducible refine Kd.C_drewN ?_ _)|(with_reducible refine Kd.C_drew ?_)|exact HR524.out)) hb)
        have n5_:=A_ (Kept.below (S:=(fun k_=>(P1_ k_)∨k_=g)) (y6 HK.out) hb)
        have n6_:=A_ (below_step (y2 HB.out) hb)
        clear HO1 HI0 HR517 HR524 HK HB
        have HO1:=n0_
        have HO513:=n1_
        have HI0:=n2_
        have HR517:=n3_
        have HR524:=n4_
        have HK:=n5_
        have HB:=n6_
        clear n0_ n1_ n2_ n3_ n4_ n5_ n6_ hb ho50
        refine hK.out _ _ trivial (fun hHeld=>?_)
        clear hK K
        refine norm_ (a':=?_) ?_ ?_
        rotate_left
        ·
         show Act.put _ (some 54) _=_
         simp only[Act.put,List.setIfInBounds_toArray,List.set_cons_zero,List.set_cons_succ,i64_w,i32_w]
         rfl
        refine one_ (i:=4) (N:=some 58) #[true,true,true,true,true,true,true,true,true,false,false] rfl rfl (one_of HT_.out (by kernel_rfl)) (by decide) (fun K hK=>?_)
        refine Kd.R_append_rows_step k37 (w0:=w0) w0.heap.size (by rfl) (.tmp 54) (.tmp 57) 23 37 (.agg #[(.int .i64 0),(.int .i64 0)]) 16 rfl Try.underlying23 info37 rfl (by decide) (by omega) v512 y511 y514 _ _ _ (fun k_=>(P1_ k_∨w.heap.size≤k_)∧some k_≠(.slice Ao43 l1.length co43:Value).ownBlock) (fun _=>False) rfl rfl ?aO ?aR (fun _ _ h=>h) (fun _ h=>h.elim) ?aF ?aB ?aS ?aL ?_
        (case aR=>repeat (first|exact(by repeat (first|(with_reducible exact HR517.out)|(with_reducible refine Kd.C_alloc ?_ _)|(with_reducible refine Kd.C_drewN ?_ _)|(with_reducible refine Kd.C_drew ?_)|exact HR517.out))|(with_reducible refine Kd.C_alloc ?_ _)|(with_reducible refine Kd.C_drewN ?_ _)|(with_reducible refine Kd.C_drew ?_)))
        (case aB=>exact(y2 HB.out))
        (case aF=>exact(fun k_ hk=>⟨(.inr (Nat.le_trans (by first|exact HK.out.1|exact(show Kept w _ (fun k_=>(P1_ k_)∨k_=g) from y6 HK.out).1) hk)),Kd.fresh' (Kd.R_lt (kr_ HO1.out)) k_ hk⟩))
        (case aO=>exact(by(with_reducible repeat (first|apply Kd.R_alloc|apply Kd.R_drewN|apply Kd.R_drew));exact Kd.R_mono HO513.out (fun _ hk=>⟨hk.1.1,hk.2⟩)))
        (case aS=>exact(below_size (y2 HB.out)))
        (case aL=>have:=LMc38.out;omega)
        intro v519 w51 ho hb hg hat
        rw[←Ny518.out] at ho
        have n0_:=A_ (IsS42.grown (y1 HI0.out) hg (IsS42.own_ne HI0.out HO513.out (by decide)))
        have n1_:=A_ (Kd.R_after (ok:=(fun k_=>(P1_ k_∨w.heap.size≤k_))) (kr_ HO1.out) hg hat)
        have n2_:=A_ (hb)
        have n3_:=A_ (Kept.of_grown (S:=(fun k_=>(P1_ k_)∨k_=g)) hg (y6 HK.out) (fun k_ e_=>Or.imp_left Or.inl ((HO513.out.1 k_ e_).1.1)))
        have n4_:=A_ ((show Kd.C k37 w51 Ao43 y514.length y514 from by rw[Ny514.out];exact Kd.C_take (m:=(t491:Int).toNat) ((Kd.R_reads' (Kd.R_after (ok:=(fun k_=>(P1_ k_∨w.heap.size≤k_))) (kr_ HO1.out) hg hat)).2.2) KL47.out))
        have n5_:=A_ ((show Kd.C k37 w51 A48 y521.length y521 from by rw[Ny521.out,KA48.out];exact Kd.C_drop (m:=((ji39):Int).toNat) (c:=co43) ((Kd.R_reads' (Kd.R_after (ok:=(fun k_=>(P1_ k_∨w.heap.size≤k_))) (kr_ HO1.out) hg hat)).2.2) KL48.out ((Kd.R_reads' (Kd.R_after (ok:=(fun k_=>(P1_ k_∨w.heap.size≤k_))) (kr_ HO1.out) hg hat)).2.1)))
        have n6_:=A_ (ho)
        clear HI0 HO1 HB HK HR517 HR524 HO513
        have HI0:=n0_
        have HO1:=n1_
        have HB:=n2_
        have HK:=n3_
        have HR517:=n4_
        have HR524:=n5_
        have HO520:=n6_
        clear n0_ n1_ n2_ n3_ n4_ n5_ n6_ ho hb hg hat
        refine hK.out _ _ trivial (fun hHeld=>?_)
        clear hK K
        refine norm_ (a':=?_) ?_ ?_
        rotate_left
        ·
         show Act.put _ (some 58) _=_
         simp only[Act.put,List.setIfInBounds_toArray,List.set_cons_zero,List.set_cons_succ,i64_w,i32_w]
         rfl
        refine one_ (i:=9) (N:=some 63) #[true,true,true,true,true,true,true,true,true,true,false] rfl rfl (one_of HT_.out (by kernel_rfl)) (by decide) (fun K hK=>?_)
        refine Kd.R_append_rows_step k37 (w0:=w0) w0.heap.size (by rfl) (.tmp 58) (.tmp 62) 23 37 (.agg #[(.int .i64 0),(.int .i64 0)]) 16 rfl Try.underlying23 info37 rfl (by decide) (by omega) v519 y518 y521 _ _ _ (fun k_=>(P1_ k_∨w.heap.size≤k_)∧some k_≠(.slice Ao43 l1.length co43:Value).ownBlock) (fun _=>False) rfl rfl ?aO ?aR (fun _ _ h=>h) (fun _ h=>h.elim) ?aF ?aB ?aS ?aL ?_
        (case aR=>repeat (first|exact(by repeat (first|(with_reducible exact HR524.out)|(with_reducible refine Kd.C_alloc ?_ _)|(with_reducible refine Kd.C_drewN ?_ _)|(with_reducible refine Kd.C_drew ?_)|exact HR524.out))|(with_reducible refine Kd.C_alloc ?_ _)|(with_reducible refine Kd.C_drewN ?_ _)|(with_reducible refine Kd.C_drew ?_)))
        (case aB=>exact(y2 HB.out))
        (case aF=>exact(fun k_ hk=>⟨(.inr (Nat.le_trans (by first|exact HK.out.1|exact(show Kept w _ (fun k_=>(P1_ k_)∨k_=g) from y6 HK.out).1) hk)),Kd.fresh' (Kd.R_lt (kr_ HO1.out)) k_ hk⟩))
        (case aO=>exact(kr_ HO520.out))
        (case aS=>exact(below_size (y2 HB.out)))
        (case aL=>have:=LMc42.out;omega)
        intro v526 w52 ho hb hg hat
        rw[←Ny525.out] at ho
        have n0_:=A_ (IsS42.grown (y1 HI0.out) hg (IsS42.own_ne HI0.out HO520.out (by decide)))
        have n1_:=A_ (Kd.R_after (ok:=(fun k_=>(P1_ k_∨w.heap.size≤k_))) (kr_ HO1.out) hg hat)
        have n2_:=A_ (hb)
        have n3_:=A_ (Kept.of_grown (S:=(fun k_=>(P1_ k_)∨k_=g)) hg (y6 HK.out) (fun k_ e_=>Or.imp_left Or.inl ((HO520.out.1 k_ e_).1)))
        have n4_:=A_ ((show Kd.C k37 w52 Ao43 y514.length y514 from by rw[Ny514.out];exact Kd.C_take (m:=(t491:Int).toNat) ((Kd.R_reads' (Kd.R_after (ok:=(fun k_=>(P1_ k_∨w.heap.size≤k_))) (kr_ HO1.out) hg hat)).2.2) KL47.out))
        have n5_:=A_ ((show Kd.C k37 w52 A48 y521.length y521 from by rw[Ny521.out,KA48.out];exact Kd.C_drop (m:=((ji39):Int).toNat) (c:=co43) ((Kd.R_reads' (Kd.R_after (ok:=(fun k_=>(P1_ k_∨w.heap.size≤k_))) (kr_ HO1.out) hg hat)).2.2) KL48.out ((Kd.R_reads' (Kd.R_after (ok:=(fun k_=>(P1_ k_∨w.heap.size≤k_))) (kr_ HO1.out) hg hat)).2.1)))
        have n6_:=A_ (ho)
        clear HI0 HO1 HB HK HR517 HR524 HO520
        have HI0:=n0_
        have HO1:=n1_
        have HB:=n2_
        have HK:=n3_
        have HR517:=n4_
        have HR524:=n5_
        have HO527:=n6_
        clear n0_ n1_ n2_ n3_ n4_ n5_ n6_ ho hb hg hat
        refine hK.out _ _ trivial (fun hHeld=>?_)
        clear hK K
        refine norm_ (a':=?_) ?_ ?_
        rotate_left
        ·
         show Act.put _ (some 63) _=_
         simp only[Act.put,List.setIfInBounds_toArray,List.set_cons_zero,List.set_cons_succ,i64_w,i32_w]
         rfl
        refine pure_ (i:=10) (N:=some 1) (v:=?_) (a':=?_) #[true,true,true,true,true,true,true,true,true,true,true] rfl rfl (any_of HT_.out (by kernel_rfl)) (fun _ _ _ h=>h) (Or.inl ⟨by rfl,?_⟩) ?_ ?_
        rotate_left
        ·
         intro w'
         go_simp
         with_reducible rfl
        rotate_left
        ·
         simp only[Act.put,List.setIfInBounds_toArray,List.set_cons_zero,List.set_cons_succ,i64_w,i32_w]
         rfl
        refine done_ (done_of HT_.out (by kernel_rfl)) ?_
        try go_wp2
        go_ret
        exact⟨_,by first|rfl|(simp[errW_none,errW_some]<;>rfl)|(simp only[←hji39];first|rfl|(simp[errW_none,errW_some]<;>rfl))|(simp[*,errW_none,errW_some]<;>rfl),by (with_reducible repeat (first|apply Kd.R_alloc|apply Kd.R_drewN|apply Kd.R_drew));exact Kd.R_mono HO527.out (fun _ hk=>hk.1),y1 HI0.out,y2 HB.out,y6 HK.out⟩
       rw[if_neg c42] at H
       exact absurd H (by simp)
      rw[if_neg c41] at H
      exact absurd H (by simp)
     rw[if_neg c40] at H
     exact absurd H (by simp)
    rw[if_neg c38] at H
    exact absurd H (by simp)
   rw[if_neg c37] at H
   exact absurd H (by simp)
  rw[if_neg c36] at H
  exact absurd H (by simp)
 rw[if_neg c35] at H
 obtain⟨c35b0,c35b1⟩:=eF_ c35
 obtain⟨y528,hy528⟩:∃ y_:List (S37),y_=(([]:List (S37))):=⟨_,rfl⟩
 replace H:(if 0≤t491 then (if t491≤(l1.length:Int) then ((some (l1.take (t491:Int).toNat:List (S37))).bind fun y531=>(if y528.length+y531.length<8796093022208 then ((some (y528++y531:List (S37))).bind fun y535=>((spec_l1Cur_among.f s0_0 t495 t496 (([0,1,12,15,26,11,5]:List Int))).bind fun bt541=>(if y535.length<8796093022208 then ((some (y535++[(⟨bt541.1,0⟩:S37)]:List (S37))).bind fun y544=>((some (l1.drop (t491:Int).toNat:List (S37))).bind fun y547=>(if y544.length+y547.length<8796093022208 then (some ((y544++y547),bt541.2.1,bt541.2.2)) else (none)))) else (none)))) else (none))) else (none)) else (none))=some (r1,r2,r3):=by first|(rw[hy528];with_reducible exact H)|(have H2_:=(Option.bind_some _ _).symm.trans H;rw[hy528];with_reducible exact H2_)|(have H2_:=(Option.bind_some _ _).symm.trans H;with_reducible exact H2_)|with_reducible exact H|(rw[hy528];exact H)|exact H
 have Ny528:=A_ hy528
 clear hy528
 by_cases c53:0≤t491
 ·
  rw[if_pos c53] at H
  have c53b0:=eq_true c53
  have c53b1:=decide_eq_true c53
  clear c53
  by_cases c54:t491≤(l1.length:Int)
  ·
   rw[if_pos c54] at H
   have c54b0:=eq_true c54
   have c54b1:=decide_eq_true c54
   clear c54
   obtain⟨y531,hy531⟩:∃ y_:List (S37),y_=(l1.take (t491:Int).toNat):=⟨_,rfl⟩
   replace H:(if y528.length+y531.length<8796093022208 then ((some (y528++y531:List (S37))).bind fun y535=>((spec_l1Cur_among.f s0_0 t495 t496 (([0,1,12,15,26,11,5]:List Int))).bind fun bt541=>(if y535.length<8796093022208 then ((some (y535++[(⟨bt541.1,0⟩:S37)]:List (S37))).bind fun y544=>((some (l1.drop (t491:Int).toNat:List (S37))).bind fun y547=>(if y544.length+y547.length<8796093022208 then (some ((y544++y547),bt541.2.1,bt541.2.2)) else (none)))) else (none)))) else (none))=some (r1,r2,r3):=by first|(rw[hy531];with_reducible exact H)|(have H2_:=(Option.bind_some _ _).symm.trans H;rw[hy531];with_reducible exact H2_)|(have H2_:=(Option.bind_some _ _).symm.trans H;with_reducible exact H2_)|with_reducible exact H|(rw[hy531];exact H)|exact H
   have Ny531:=A_ hy531
   clear hy531
   by_cases c55:y528.length+y531.length<8796093022208
   ·
    rw[if_pos c55] at H
    have LMc55:=A_ c55
    clear c55
    obtain⟨y535,hy535⟩:∃ y_:List (S37),y_=(y528++y531):=⟨_,rfl⟩
    replace H:((spec_l1Cur_among.f s0_0 t495 t496 (([0,1,12,15,26,11,5]:List Int))).bind fun bt541=>(if y535.length<8796093022208 then ((some (y535++[(⟨bt541.1,0⟩:S37)]:List (S37))).bind fun y544=>((some (l1.drop (t491:Int).toNat:List (S37))).bind fun y547=>(if y544.length+y547.length<8796093022208 then (some ((y544++y547),bt541.2.1,bt541.2.2)) else (none)))) else (none)))=some (r1,r2,r3):=by first|(rw[hy535];with_reducible exact H)|(have H2_:=(Option.bind_some _ _).symm.trans H;rw[hy535];with_reducible exact H2_)|(have H2_:=(Option.bind_some _ _).symm.trans H;with_reducible exact H2_)|with_reducible exact H|(rw[hy535];exact H)|exact H
    have Ny535:=A_ hy535
    clear hy535
    obtain⟨y538,hy538⟩:∃ y_:List Int,y_=(([0,1,12,15,26,11,5]:List Int)):=⟨_,rfl⟩
    replace H:((spec_l1Cur_among.f s0_0 t495 t496 y538).bind fun bt541=>(if y535.length<8796093022208 then ((some (y535++[(⟨bt541.1,0⟩:S37)]:List (S37))).bind fun y544=>((some (l1.drop (t491:Int).toNat:List (S37))).bind fun y547=>(if y544.length+y547.length<8796093022208 then (some ((y544++y547),bt541.2.1,bt541.2.2)) else (none)))) else (none)))=some (r1,r2,r3):=by first|(rw[hy538];with_reducible exact H)|(have H2_:=(Option.bind_some _ _).symm.trans H;rw[hy538];with_reducible exact H2_)|(have H2_:=(Option.bind_some _ _).symm.trans H;with_reducible exact H2_)|with_reducible exact H|(rw[hy538];exact H)|exact H
    have Ny538:=A_ hy538
    clear hy538
    replace H:=Option.bind_eq_some_iff.mp H
    obtain⟨⟨t541,t542,t543⟩,A560,H⟩:=H
    replace H:(if y535.length<8796093022208 then ((some (y535++[(⟨t541,0⟩:S37)]:List (S37))).bind fun y544=>((some (l1.drop (t491:Int).toNat:List (S37))).bind fun y547=>(if y544.length+y547.length<8796093022208 then (some ((y544++y547),t542,t543)) else (none)))) else (none))=some (r1,r2,r3):=H
    have A56:=A_ A560
    clear A560
    by_cases c57:y535.length<8796093022208
    ·
     rw[if_pos c57] at H
     have LMc57:=A_ c57
     clear c57
     obtain⟨y544,hy544⟩:∃ y_:List (S37),y_=(y535++[(⟨t541,0⟩:S37)]):=⟨_,rfl⟩
     replace H:((some (l1.drop (t491:Int).toNat:List (S37))).bind fun y547=>(if y544.length+y547.length<8796093022208 then (some ((y544++y547),t542,t543)) else (none)))=some (r1,r2,r3):=by first|(rw[hy544];with_reducible exact H)|(have H2_:=(Option.bind_some _ _).symm.trans H;rw[hy544];with_reducible exact H2_)|(have H2_:=(Option.bind_some _ _).symm.trans H;with_reducible exact H2_)|with_reducible exact H|(rw[hy544];exact H)|exact H
     have Ny544:=A_ hy544
     clear hy544
     have c58b0:=eq_true (od_:0≤t491)
     have c59b0:=eq_true (od_:t491≤(l1.length:Int))
     obtain⟨y547,hy547⟩:∃ y_:List (S37),y_=(l1.drop (t491:Int).toNat):=⟨_,rfl⟩
     replace H:(if y544.length+y547.length<8796093022208 then (some ((y544++y547),t542,t543)) else (none))=some (r1,r2,r3):=by first|(rw[hy547];with_reducible exact H)|(have H2_:=(Option.bind_some _ _).symm.trans H;rw[hy547];with_reducible exact H2_)|(have H2_:=(Option.bind_some _ _).symm.trans H;with_reducible exact H2_)|with_reducible exact H|(rw[hy547];exact H)|exact H
     have Ny547:=A_ hy547
     clear hy547
     by_cases c60:y544.length+y547.length<8796093022208
     ·
      rw[if_pos c60] at H
      have LMc60:=A_ c60
      clear c60
      obtain⟨y551,hy551⟩:∃ y_:List (S37),y_=(y544++y547):=⟨_,rfl⟩
      replace H:(some (y551,t542,t543))=some (r1,r2,r3):=by first|(rw[hy551];with_reducible exact H)|(have H2_:=(Option.bind_some _ _).symm.trans H;rw[hy551];with_reducible exact H2_)|(have H2_:=(Option.bind_some _ _).symm.trans H;with_reducible exact H2_)|with_reducible exact H|(rw[hy551];exact H)|exact H
      have Ny551:=A_ hy551
      clear hy551
      simp only[Option.some.injEq,Prod.mk.injEq] at H
      obtain⟨rfl,rfl,rfl⟩:=H
      obtain⟨Ao61,co61,eo61⟩:=Kd.R_slice HO1.out
      subst eo61
      go_enter Try.func31,Try.ntmps31
      go_wp2_with (first|((with_reducible refine gc_ 14 rfl ?_);refine goesL_ (some 14) rfl rfl Try.func14 (by kernel_rfl) rfl #[.pointer (some ⟨g,0,none⟩),.int .i64 (l1.length:Int)] rfl ar ?_;(with_reducible refine(spec_l1Cur_pick.calls g s0_0 s0_1 s0_2 (l1.length:Int) t491 t492 t493 w0 _ ?side1 ?side2 A5.out).mono ?_);(case side1=>repeat (first|(with_reducible first|exact HI0.out|apply IsS42.alloc|apply IsS42.drewN|apply IsS42.drew|apply IsS42.set_1|apply IsS42.set_2)|exact HI0.out));(case side2=>repeat (first|(with_reducible first|exact HB.out|apply below_alloc|apply pw_below_drewN|apply below_drew1|refine below_set ?_ (IsS42.ge HI0.out))|exact HB.out));rintro e w62 ⟨rfl,hi,hb,hk⟩;refine⟨_,rfl,?_⟩;replace HO1:=A_ (Kd.R_mono (Kd.R_keep (IsS42.apart (show IsS42 w0 _ g s0_0 s0_1 s0_2 from y1 HI0.out) (kr_ HO1.out) (by decide)) hk (fun _ h=>h.2)) (fun _ h=>h.1));replace HK:=A_ (Kept.of_keep (S:=(fun k_=>(P1_ k_)∨k_=g)) (y6 HK.out) hk (.inl (.inr rfl)));replace HB:=A_ (hb);replace HI0:=A_ (hi);(try clear hb);(try clear hb2);(try clear hk);(try clear hi))|((with_reducible refine gc_ 14 rfl ?_);refine goesL_ (some 16) rfl rfl Try.func14 (by kernel_rfl) rfl #[.pointer (some ⟨g,0,none⟩),.int .i64 4] rfl ar ?_;(with_reducible refine(spec_l1Cur_pick.calls g s0_0 t492 t493 4 t494 t495 t496 w0 _ ?side1 ?side2 A6.out).mono ?_);(case side1=>repeat (first|(with_reducible first|exact HI0.out|apply IsS42.alloc|apply IsS42.drewN|apply IsS42.drew|apply IsS42.set_1|apply IsS42.set_2)|exact HI0.out));(case side2=>repeat (first|(with_reducible first|exact HB.out|apply below_alloc|apply pw_below_drewN|apply below_drew1|refine below_set ?_ (IsS42.ge HI0.out))|exact HB.out));rintro e w63 ⟨rfl,hi,hb,hk⟩;refine⟨_,rfl,?_⟩;replace HO1:=A_ (Kd.R_mono (Kd.R_keep (IsS42.apart (show IsS42 w0 _ g s0_0 t492 t493 from y1 HI0.out) (kr_ HO1.out) (by decide)) hk (fun _ h=>h.2)) (fun _ h=>h.1));replace HK:=A_ (Kept.of_keep (S:=(fun k_=>(P1_ k_)∨k_=g)) (y6 HK.out) hk (.inl (.inr rfl)));replace HB:=A_ (hb);replace HI0:=A_ (hi);(try clear hb);(try clear hb2);(try clear hk);(try clear hi))|((with_reducible refine gd_ 17 rfl ?_);refine Kd.R_lit k37 _ 37 ?hg (N:=17) ?hd (xs:=([]:List (S37))) (inner:=[]) (ok:=fun _=>True) (okp:=fun _=>True) ?hr ?hp (fun _ hk=>hk) trivial (Below.refl _ _) (Nat.le_refl _) (by simp) ?_;(case hd=>rfl);(case hg=>rfl);(case hr=>first|(go_simp;done)|(go_simp;rfl));(case hp=>exact(Reps.none _ _));intro v529 w64 ho65 hb hg_ hnew_;clear hg_ hnew_;(first|rw[←Ny528.out] at ho65|(simp only[Int.reduceToNat] at ho65;rw[←Ny528.out] at ho65));have HO530:=A_ (Kd.R_lower (Kd.R_new' (Kd.R_newM (M:=fun k_=>(P1_ k_∨w.heap.size≤k_)) ho65 (by first|exact HK.out.1|exact(show Kept w _ (fun k_=>(P1_ k_)∨k_=g) from y6 HK.out).1) (fun k_ h_=>.inr h_)) (Kd.R_lt (kr_ HO1.out))) (below_size (y2 HB.out)));replace HO1:=A_ (Kd.R_elder' (kr_ HO1.out) (Kd.R_base ho65) hb);replace HI0:=A_ (IsS42.below (y1 HI0.out) hb);replace HK:=A_ (Kept.below (S:=(fun k_=>(P1_ k_)∨k_=g)) (y6 HK.out) hb);replace HB:=A_ (below_step (y2 HB.out) hb);clear hb ho65;have q66:(t491:Int)≤((l1.length:Int):Int):=od_;obtain⟨i066,hi066,_,hsz66,_⟩:=info_parts info37;have hroom66:l1.length≤co61:=(Kd.R_reads' HO1.out).2.1;have hC66:Kd.C k37 _ Ao61 l1.length l1:=(Kd.R_reads' HO1.out).2.2;have hcut66:=cut_to (P:=Try.prog) 23 37 .i64 Try.underlying23 hi066 Ao61 l1.length co61 t491 (od_) q66 hroom66;have hr66:=Kd.C_take (m:=(t491:Int).toNat) hC66 (by omega);have hy66:y531.length=(t491:Int).toNat:=(by rw[Ny531.out,List.length_take];omega);rw[←Ny531.out] at hr66;rw[←hy66] at hcut66;have HR534:=A_ hr66;have HC534:=A_ (show y531.length≤co61 from by omega);clear hr66 hC66 hroom66 hi066 hsz66;have KY66:=A_ hy66;clear hy66;have KL66:=A_ (show(t491:Int).toNat≤l1.length from by omega);replace q66:=eq_true q66)|((with_reducible refine gate_builtin (b:=.append) (xs:=#[.tmp 17,.tmp 20]) rfl ?_);at_builtin;refine Kd.R_append_rows k37 (w0:=w0) w0.heap.size rfl (.tmp 17) (.tmp 20) 23 37 (.agg #[(.int .i64 0),(.int .i64 0)]) 16 rfl Try.underlying23 info37 rfl (by decide) (by omega) v529 y528 y531 _ _ _ (fun k_=>(P1_ k_∨w.heap.size≤k_)∧some k_≠(.slice Ao61 l1.length co61:Value).ownBlock) (fun _=>False) rfl rfl ?aO ?aR (fun _ _ h=>h) (fun _ h=>h.elim) ?aF ?aB ?aS ?aL ?_;(case aR=>repeat (first|exact(by repeat (first|(with_reducible exact HR534.out)|(with_reducible refine Kd.C_alloc ?_ _)|(with_reducible refine Kd.C_drewN ?_ _)|(with_reducible refine Kd.C_drew ?_)|exact HR534.out))|(with_reducible refine Kd.C_alloc ?_ _)|(with_reducible refine Kd.C_drewN ?_ _)|(with_reducible refine Kd.C_drew ?_)));(case aB=>exact(y2 HB.out));(case aF=>exact(fun k_ hk=>⟨(.inr (Nat.le_trans (by first|exact HK.out.1|exact(show Kept w _ (fun k_=>(P1_ k_)∨k_=g) from y6 HK.out).1) hk)),Kd.fresh' (Kd.R_lt (kr_ HO1.out)) k_ hk⟩));(case aO=>exact(by(with_reducible repeat (first|apply Kd.R_alloc|apply Kd.R_drewN|apply Kd.R_drew));exact Kd.R_mono HO530.out (fun _ hk=>⟨hk.1.1,hk.2⟩)));(case aS=>exact(below_size (y2 HB.out)));(case aL=>have:=LMc55.out;omega);intro v536 w67 ho hb hg hat;rw[←Ny535.out] at ho;have HO537:=A_ (ho);replace HI0:=A_ (IsS42.grown (y1 HI0.out) hg (IsS42.own_ne HI0.out HO530.out (by decide)));replace HB:=A_ (hb);replace HK:=A_ (Kept.of_grown (S:=(fun k_=>(P1_ k_)∨k_=g)) hg (y6 HK.out) (fun k_ e_=>Or.imp_left Or.inl ((HO530.out.1 k_ e_).1.1)));replace HR534:=A_ ((show Kd.C k37 w67 Ao61 y531.length y531 from by rw[Ny531.out];exact Kd.C_take (m:=(t491:Int).toNat) ((Kd.R_reads' (Kd.R_after (ok:=(fun k_=>(P1_ k_∨w.heap.size≤k_))) (kr_ HO1.out) hg hat)).2.2) KL66.out));replace HO1:=A_ (Kd.R_after (ok:=(fun k_=>(P1_ k_∨w.heap.size≤k_))) (kr_ HO1.out) hg hat);clear HO530;clear ho hb hg hat)|((with_reducible refine gd_ 24 rfl ?_);refine Kd.R_lit (Kd.int .i64) _ 3 ?hg (N:=24) ?hd (xs:=([0,1,12,15,26,11,5]:List Int)) (inner:=[.int .i64 0,.int .i64 1,.int .i64 12,.int .i64 15,.int .i64 26,.int .i64 11,.int .i64 5]) (ok:=fun _=>True) (okp:=fun _=>True) ?hr ?hp (fun _ hk=>hk) trivial (Below.refl _ _) (Nat.le_refl _) (by simp) ?_;(case hd=>rfl);(case hg=>rfl);(case hr=>first|(go_simp;done)|(go_simp;rfl));(case hp=>exact(Reps.one (show Kd.M (Kd.int .i64) _ _ _ 0 [.int .i64 0] from rfl) (Reps.one (show Kd.M (Kd.int .i64) _ _ _ 1 [.int .i64 1] from rfl) (Reps.one (show Kd.M (Kd.int .i64) _ _ _ 12 [.int .i64 12] from rfl) (Reps.one (show Kd.M (Kd.int .i64) _ _ _ 15 [.int .i64 15] from rfl) (Reps.one (show Kd.M (Kd.int .i64) _ _ _ 26 [.int .i64 26] from rfl) (Reps.one (show Kd.M (Kd.int .i64) _ _ _ 11 [.int .i64 11] from rfl) (Reps.one (show Kd.M (Kd.int .i64) _ _ _ 5 [.int .i64 5] from rfl) (Reps.none _ _)))))))));intro v539 w68 ho69 hb hg_ hnew_;clear hg_ hnew_;(first|rw[←Ny538.out] at ho69|(simp only[Int.reduceToNat] at ho69;rw[←Ny538.out] at ho69));have HO540:=A_ (Kd.R_lower (Kd.R_newM (M:=fun k_=>(P1_ k_∨w.heap.size≤k_)) ho69 (by first|exact HK.out.1|exact(show Kept w _ (fun k_=>(P1_ k_)∨k_=g) from y6 HK.out).1) (fun k_ h_=>.inr h_)) (below_size (y2 HB.out)));replace HO1:=A_ (Kd.R_below (kr_ HO1.out) hb);replace HO537:=A_ (Kd.R_below (kr_ HO537.out) hb);replace HI0:=A_ (IsS42.below (y1 HI0.out) hb);replace HR534:=A_ (Kd.C_below (by repeat (first|(with_reducible exact HR534.out)|(with_reducible refine Kd.C_alloc ?_ _)|(with_reducible refine Kd.C_drewN ?_ _)|(with_reducible refine Kd.C_drew ?_)|exact HR534.out)) hb);replace HK:=A_ (Kept.below (S:=(fun k_=>(P1_ k_)∨k_=g)) (y6 HK.out) hb);replace HB:=A_ (below_step (y2 HB.out) hb);clear hb ho69;obtain⟨Ao70,co70,eo70⟩:=Kd.R_slice HO540.out;subst eo70)|((with_reducible refine gc_ 30 rfl ?_);refine goesL_ (some 25) rfl rfl Try.func30 (by kernel_rfl) rfl #[.pointer (some ⟨g,0,none⟩),.slice Ao70 y538.length co70] rfl ar ?_;(with_reducible refine(spec_l1Cur_among.calls g s0_0 t495 t496 _ _ y538 t541 t542 t543 w0 _ ?side1 ?side2 ?side3 ?side4 ?side5 A56.out).mono ?_);(case side1=>repeat (first|(with_reducible first|exact HI0.out|apply IsS42.alloc|apply IsS42.drewN|apply IsS42.drew|apply IsS42.set_1|apply IsS42.set_2)|exact HI0.out));(case side2=>repeat (first|(with_reducible first|exact HB.out|apply below_alloc|apply pw_below_drewN|apply below_drew1|refine below_set ?_ (IsS42.ge HI0.out))|exact HB.out));(case side3=>repeat (first|exact(Kd.R_reads' HO540.out).2.2|(with_reducible refine Kd.C_alloc ?_ _)|(with_reducible refine Kd.C_drewN ?_ _)|(with_reducible refine Kd.C_drew ?_)));(case side4=>exact(Kd.R_reads' HO540.out).2.1);(case side5=>exact far_slice (IsS42.own_ne HI0.out HO540.out (by decide)));rintro e w71 ⟨rfl,hi,hb,hk⟩;refine⟨_,rfl,?_⟩;replace HO1:=A_ (Kd.R_mono (Kd.R_keep (IsS42.apart (show IsS42 w0 _ g s0_0 t495 t496 from y1 HI0.out) (kr_ HO1.out) (by decide)) hk (fun _ h=>h.2)) (fun _ h=>h.1));replace HO537:=A_ (Kd.R_mono (Kd.R_keep (IsS42.apart (show IsS42 w0 _ g s0_0 t495 t496 from y1 HI0.out) (kr_ HO537.out) (by decide)) hk (fun _ h=>h.2)) (fun _ h=>h.1));replace HO540:=A_ (Kd.R_mono (Kd.R_keep (IsS42.apart (show IsS42 w0 _ g s0_0 t495 t496 from y1 HI0.out) (kr_ HO540.out) (by decide)) hk (fun _ h=>h.2)) (fun _ h=>h.1));replace HK:=A_ (Kept.of_keep (S:=(fun k_=>(P1_ k_)∨k_=g)) (y6 HK.out) hk (.inl (.inr rfl)));replace HB:=A_ (hb);replace HI0:=A_ (hi);(try clear hb);(try clear hb2);(try clear hk);(try clear hi))|((with_reducible refine gate_builtin (b:=.append) (xs:=#[.tmp 22,.tmp 27]) rfl ?_);at_builtin;refine Kd.R_append k37 (w0:=w0) w0.heap.size rfl (.tmp 22) (.tmp 27) 23 37 (.agg #[(.int .i64 0),(.int .i64 0)]) 16 rfl Try.underlying23 info37 rfl (by decide) (by omega) v536 y535 (⟨t541,0⟩:S37) [.int .i64 t541,.int .i64 0] (fun k_=>(P1_ k_∨w.heap.size≤k_)∧some k_≠(.slice Ao61 l1.length co61:Value).ownBlock) (fun _=>False) rfl rfl ?aP (fun _ hk=>hk.elim) ?aF ?aO ?aB ?aS ?aL ?_;(case aP=>exact k37_mkM _ _ _ (⟨t541,0⟩:S37));(case aB=>exact(y2 HB.out));(case aF=>exact(fun k_ hk=>⟨(.inr (Nat.le_trans (by first|exact HK.out.1|exact(show Kept w _ (fun k_=>(P1_ k_)∨k_=g) from y6 HK.out).1) hk)),Kd.fresh' (Kd.R_lt (kr_ HO1.out)) k_ hk⟩));(case aO=>exact(kr_ HO537.out));(case aS=>exact(below_size (y2 HB.out)));(case aL=>have:=LMc57.out;omega);intro v545 w72 ho hb hg hat;rw[←Ny544.out] at ho;have HO546:=A_ (ho);replace HI0:=A_ (IsS42.grown (y1 HI0.out) hg (IsS42.own_ne HI0.out HO537.out (by decide)));replace HO1:=A_ (Kd.R_after (ok:=(fun k_=>(P1_ k_∨w.heap.size≤k_))) (kr_ HO1.out) hg hat);replace HO540:=A_ (Kd.R_over' (kr_ HO540.out) (Kd.R_typed (kr_ HO537.out)) (by decide) hg);replace HB:=A_ (hb);replace HK:=A_ (Kept.of_grown (S:=(fun k_=>(P1_ k_)∨k_=g)) hg (y6 HK.out) (fun k_ e_=>Or.imp_left Or.inl ((HO537.out.1 k_ e_).1)));clear HO537;clear ho hb hg hat;have q73:(t491:Int)≤((l1.length:Int):Int):=od_;obtain⟨i073,hi073,_,hsz73,_⟩:=info_parts info37;have hroom73:l1.length≤co61:=(Kd.R_reads' HO1.out).2.1;have hC73:Kd.C k37 _ Ao61 l1.length l1:=(Kd.R_reads' HO1.out).2.2;have q073:(0:Int)≤(t491:Int):=od_;have hcut73:=cut_from (P:=Try.prog) 23 37 .i64 Try.underlying23 hi073 2 hsz73 Ao61 l1.length co61 t491 q073 q73;have hr73:=Kd.C_drop (m:=(t491:Int).toNat) (c:=co61) hC73 (by omega) hroom73;obtain⟨A73,hA73⟩:∃ A1,A1=(if co61=(t491:Int).toNat then Ao61 else (Ao61:Option Addr).map (·.add ((t491:Int).toNat*2))):=⟨_,rfl⟩;obtain⟨c73,hc73⟩:∃ c1,c1=co61 - (t491:Int).toNat:=⟨_,rfl⟩;have hy73:y547.length=l1.length - (t491:Int).toNat:=(by rw[Ny547.out,List.length_drop]<;>omega);rw[show (l1).drop (t491:Int).toNat=y547 from Ny547.out.symm] at hr73;replace hr73:Kd.C k37 _ A73 y547.length y547:=(by rw[hA73];exact hr73);rw[←hy73,←hA73,←hc73] at hcut73;have HR550:=A_ hr73;have HC550:=A_ (show y547.length≤c73 from by rw[hy73,hc73];exact Nat.sub_le_sub_right hroom73 _);clear hr73 hC73 hroom73 hi073 hsz73 hc73;have KY73:=A_ hy73;have KA73:=A_ hA73;clear hy73 hA73;have KL73:=A_ (show(t491:Int).toNat≤l1.length from by omega);replace q73:=eq_true q73)|((with_reducible refine gate_builtin (b:=.append) (xs:=#[.tmp 29,.tmp 32]) rfl ?_);at_builtin;refine Kd.R_append_rows k37 (w0:=w0) w0.heap.size rfl (.tmp 29) (.tmp 32) 23 37 (.agg #[(.int .i64 0),(.int .i64 0)]) 16 rfl Try.underlying23 info37 rfl (by decide) (by omega) v545 y544 y547 _ _ _ (fun k_=>(P1_ k_∨w.heap.size≤k_)∧some k_≠(.slice Ao61 l1.length co61:Value).ownBlock) (fun _=>False) rfl rfl ?aO ?aR (fun _ _ h=>h) (fun _ h=>h.elim) ?aF ?aB ?aS ?aL ?_;(case aR=>repeat (first|exact(by repeat (first|(with_reducible exact HR550.out)|(with_reducible refine Kd.C_alloc ?_ _)|(with_reducible refine Kd.C_drewN ?_ _)|(with_reducible refine Kd.C_drew ?_)|exact HR550.out))|(with_reducible refine Kd.C_alloc ?_ _)|(with_reducible refine Kd.C_drewN ?_ _)|(with_reducible refine Kd.C_drew ?_)));(case aB=>exact(y2 HB.out));(case aF=>exact(fun k_ hk=>⟨(.inr (Nat.le_trans (by first|exact HK.out.1|exact(show Kept w _ (fun k_=>(P1_ k_)∨k_=g) from y6 HK.out).1) hk)),Kd.fresh' (Kd.R_lt (kr_ HO1.out)) k_ hk⟩));(case aO=>exact(kr_ HO546.out));(case aS=>exact(below_size (y2 HB.out)));(case aL=>have:=LMc60.out;omega);intro v552 w74 ho hb hg hat;rw[←Ny551.out] at ho;have HO553:=A_ (ho);replace HI0:=A_ (IsS42.grown (y1 HI0.out) hg (IsS42.own_ne HI0.out HO546.out (by decide)));replace HO540:=A_ (Kd.R_over' (kr_ HO540.out) (Kd.R_typed (kr_ HO546.out)) (by decide) hg);replace HB:=A_ (hb);replace HK:=A_ (Kept.of_grown (S:=(fun k_=>(P1_ k_)∨k_=g)) hg (y6 HK.out) (fun k_ e_=>Or.imp_left Or.inl ((HO546.out.1 k_ e_).1)));replace HR550:=A_ ((show Kd.C k37 w74 A73 y547.length y547 from by rw[Ny547.out,KA73.out];exact Kd.C_drop (m:=(t491:Int).toNat) (c:=co61) ((Kd.R_reads' (Kd.R_after (ok:=(fun k_=>(P1_ k_∨w.heap.size≤k_))) (kr_ HO1.out) hg hat)).2.2) KL73.out ((Kd.R_reads' (Kd.R_after (ok:=(fun k_=>(P1_ k_∨w.heap.size≤k_))) (kr_ HO1.out) hg hat)).2.1)));replace HO1:=A_ (Kd.R_after (ok:=(fun k_=>(P1_ k_∨w.heap.size≤k_))) (kr_ HO1.out) hg hat);clear HO546;clear ho hb hg hat))
      go_ret
      exact⟨_,rr_,by (with_reducible repeat (first|apply Kd.R_alloc|apply Kd.R_drewN|apply Kd.R_drew));exact Kd.R_mono HO553.out (fun _ hk=>hk.1),y1 HI0.out,y2 HB.out,y6 HK.out⟩
     rw[if_neg c60] at H
     exact absurd H (by simp)
    rw[if_neg c57] at H
    exact absurd H (by simp)
   rw[if_neg c55] at H
   exact absurd H (by simp)
  rw[if_neg c54] at H
  exact absurd H (by simp)
 rw[if_neg c53] at H
 exact absurd H (by simp)

/-! ### spec_l1Cur_codeOf: function 15 -/
def spec_l1Cur_codeOf.f (k:Nat) (s0_0:List Int) (s0_1:Int) (s0_2:Int):Option ((List (S37)) × Int × Int):=(spec_l1Cur_among.f s0_0 s0_1 s0_2 (([127,126,125,64]:List Int))).bind fun bt557=>((spec_l1Cur_body.f k s0_0 bt557.2.1 bt557.2.2 bt557.1).bind fun bt560=>((spec_l1Cur_one.f s0_0 bt560.2.1 bt560.2.2 3).bind fun bt565=>(if bt565.1=true then ((spec_l1Cur_spoiltCode.f s0_0 bt565.2.1 bt565.2.2 bt560.1).bind fun bt568=>(some (bt568.1,bt568.2.1,bt568.2.2))) else (some (bt560.1,bt565.2.1,bt565.2.2)))))
theorem spec_l1Cur_codeOf.calls (k:Nat) (g:Nat) (s0_0:List Int) (s0_1:Int) (s0_2:Int) (r1:List (S37)) (r2:Int) (r3:Int) (w0 w:World) (hI:IsS42 w0 w g s0_0 s0_1 s0_2) (hB:Below w0.heap.size w0 w) (h:spec_l1Cur_codeOf.f k s0_0 s0_1 s0_2=some (r1,r2,r3)):
  Calls Try.prog 15 #[.pointer (some ⟨g,0,none⟩)] w fun e w'=>∃ v0_:Value,e=.returned (v0_)∧Kd.R k37 37 w' w.heap.size (fun _=>True) v0_ r1∧IsS42 w0 w' g s0_0 r2 r3∧Below w0.heap.size w0 w'∧KeepBut w w' g none:=by
 have HI0:=A_ hI
 have HK:=A_ (KeepBut.refl w g none)
 have HL:=A_ hB.size
 clear hI
 have HW0:=A_ hB.size
 have HB:=A_ hB
 clear hB
 have H:((spec_l1Cur_among.f s0_0 s0_1 s0_2 (([127,126,125,64]:List Int))).bind fun bt557=>((spec_l1Cur_body.f k s0_0 bt557.2.1 bt557.2.2 bt557.1).bind fun bt560=>((spec_l1Cur_one.f s0_0 bt560.2.1 bt560.2.2 3).bind fun bt565=>(if bt565.1=true then ((spec_l1Cur_spoiltCode.f s0_0 bt565.2.1 bt565.2.2 bt560.1).bind fun bt568=>(some (bt568.1,bt568.2.1,bt568.2.2))) else (some (bt560.1,bt565.2.1,bt565.2.2))))))=some (r1,r2,r3):=h
 clear h
 obtain⟨y554,hy554⟩:∃ y_:List Int,y_=(([127,126,125,64]:List Int)):=⟨_,rfl⟩
 replace H:((spec_l1Cur_among.f s0_0 s0_1 s0_2 y554).bind fun bt557=>((spec_l1Cur_body.f k s0_0 bt557.2.1 bt557.2.2 bt557.1).bind fun bt560=>((spec_l1Cur_one.f s0_0 bt560.2.1 bt560.2.2 3).bind fun bt565=>(if bt565.1=true then ((spec_l1Cur_spoiltCode.f s0_0 bt565.2.1 bt565.2.2 bt560.1).bind fun bt568=>(some (bt568.1,bt568.2.1,bt568.2.2))) else (some (bt560.1,bt565.2.1,bt565.2.2))))))=some (r1,r2,r3):=by first|(rw[hy554];with_reducible exact H)|(have H2_:=(Option.bind_some _ _).symm.trans H;rw[hy554];with_reducible exact H2_)|(have H2_:=(Option.bind_some _ _).symm.trans H;with_reducible exact H2_)|with_reducible exact H|(rw[hy554];exact H)|exact H
 have Ny554:=A_ hy554
 clear hy554
 replace H:=Option.bind_eq_some_iff.mp H
 obtain⟨⟨t557,t558,t559⟩,A20,H⟩:=H
 replace H:((spec_l1Cur_body.f k s0_0 t558 t559 t557).bind fun bt560=>((spec_l1Cur_one.f s0_0 bt560.2.1 bt560.2.2 3).bind fun bt565=>(if bt565.1=true then ((spec_l1Cur_spoiltCode.f s0_0 bt565.2.1 bt565.2.2 bt560.1).bind fun bt568=>(some (bt568.1,bt568.2.1,bt568.2.2))) else (some (bt560.1,bt565.2.1,bt565.2.2)))))=some (r1,r2,r3):=H
 have A2:=A_ A20
 clear A20
 replace H:=Option.bind_eq_some_iff.mp H
 obtain⟨⟨t560,t563,t564⟩,A30,H⟩:=H
 replace H:((spec_l1Cur_one.f s0_0 t563 t564 3).bind fun bt565=>(if bt565.1=true then ((spec_l1Cur_spoiltCode.f s0_0 bt565.2.1 bt565.2.2 t560).bind fun bt568=>(some (bt568.1,bt568.2.1,bt568.2.2))) else (some (t560,bt565.2.1,bt565.2.2))))=some (r1,r2,r3):=H
 have A3:=A_ A30
 clear A30
 replace H:=Option.bind_eq_some_iff.mp H
 obtain⟨⟨t565,t566,t567⟩,A40,H⟩:=H
 replace H:(if t565=true then ((spec_l1Cur_spoiltCode.f s0_0 t566 t567 t560).bind fun bt568=>(some (bt568.1,bt568.2.1,bt568.2.2))) else (some (t560,t566,t567)))=some (r1,r2,r3):=H
 have A4:=A_ A40
 clear A40
 by_cases c5:t565=true
 ·
  subst c5
  replace H:=iT_ H
  replace H:=Option.bind_eq_some_iff.mp H
  obtain⟨⟨t568,t571,t572⟩,A60,H⟩:=H
  replace H:(some (t568,t571,t572))=some (r1,r2,r3):=H
  have A6:=A_ A60
  clear A60
  simp only[Option.some.injEq,Prod.mk.injEq] at H
  obtain⟨rfl,rfl,rfl⟩:=H
  go_enter Try.func15,Try.ntmps15
  go_wp2_with (first|((with_reducible refine gd_ 6 rfl ?_);refine Kd.R_lit (Kd.int .i64) _ 3 ?hg (N:=6) ?hd (xs:=([127,126,125,64]:List Int)) (inner:=[.int .i64 127,.int .i64 126,.int .i64 125,.int .i64 64]) (ok:=fun _=>True) (okp:=fun _=>True) ?hr ?hp (fun _ hk=>hk) trivial (Below.refl _ _) (Nat.le_refl _) (by simp) ?_;(case hd=>rfl);(case hg=>rfl);(case hr=>first|(go_simp;done)|(go_simp;rfl));(case hp=>exact(Reps.one (show Kd.M (Kd.int .i64) _ _ _ 127 [.int .i64 127] from rfl) (Reps.one (show Kd.M (Kd.int .i64) _ _ _ 126 [.int .i64 126] from rfl) (Reps.one (show Kd.M (Kd.int .i64) _ _ _ 125 [.int .i64 125] from rfl) (Reps.one (show Kd.M (Kd.int .i64) _ _ _ 64 [.int .i64 64] from rfl) (Reps.none _ _))))));intro v555 w7 ho8 hb hg_ hnew_;clear hg_ hnew_;(first|rw[←Ny554.out] at ho8|(simp only[Int.reduceToNat] at ho8;rw[←Ny554.out] at ho8));have HO556:=A_ (Kd.R_lower ho8 (keep_size (w:=w) (g:=g) (row:=none) (y0 HK.out)));replace HI0:=A_ (IsS42.below (y1 HI0.out) hb);replace HK:=A_ (KeepBut.trans (y0 HK.out) (KeepBut.of_below hb g none) (.inl rfl));replace HB:=A_ (below_step (y2 HB.out) hb);clear hb ho8;obtain⟨Ao9,co9,eo9⟩:=Kd.R_slice HO556.out;subst eo9)|((with_reducible refine gc_ 30 rfl ?_);refine goesL_ (some 7) rfl rfl Try.func30 (by kernel_rfl) rfl #[.pointer (some ⟨g,0,none⟩),.slice Ao9 y554.length co9] rfl ar ?_;(with_reducible refine(spec_l1Cur_among.calls g s0_0 s0_1 s0_2 _ _ y554 t557 t558 t559 w0 _ ?side1 ?side2 ?side3 ?side4 ?side5 A2.out).mono ?_);(case side1=>repeat (first|(with_reducible first|exact HI0.out|apply IsS42.alloc|apply IsS42.drewN|apply IsS42.drew|apply IsS42.set_1|apply IsS42.set_2)|exact HI0.out));(case side2=>repeat (first|(with_reducible first|exact HB.out|apply below_alloc|apply pw_below_drewN|apply below_drew1|refine below_set ?_ (IsS42.ge HI0.out))|exact HB.out));(case side3=>repeat (first|exact(Kd.R_reads' HO556.out).2.2|(with_reducible refine Kd.C_alloc ?_ _)|(with_reducible refine Kd.C_drewN ?_ _)|(with_reducible refine Kd.C_drew ?_)));(case side4=>exact(Kd.R_reads' HO556.out).2.1);(case side5=>exact far_slice (IsS42.own_ne HI0.out HO556.out (by decide)));rintro e w10 ⟨rfl,hi,hb,hk⟩;refine⟨_,rfl,?_⟩;replace HO556:=A_ (Kd.R_mono (Kd.R_keep (IsS42.apart (show IsS42 w0 _ g s0_0 s0_1 s0_2 from y1 HI0.out) (kr_ HO556.out) (by decide)) hk (fun _ h=>h.2)) (fun _ h=>h.1));replace HK:=A_ (KeepBut.trans (y0 HK.out) hk (.inl rfl));replace HB:=A_ (hb);replace HI0:=A_ (hi);(try clear hb);(try clear hb2);(try clear hk);(try clear hi))|((with_reducible refine gc_ 29 rfl ?_);refine goesL_ (some 8) rfl rfl Try.func29 (by kernel_rfl) rfl #[.pointer (some ⟨g,0,none⟩),.int .i64 t557] rfl ar ?_;(with_reducible refine(spec_l1Cur_body.calls k g s0_0 t558 t559 t557 t560 t563 t564 w0 _ ?side1 ?side2 A3.out).mono ?_);(case side1=>repeat (first|(with_reducible first|exact HI0.out|apply IsS42.alloc|apply IsS42.drewN|apply IsS42.drew|apply IsS42.set_1|apply IsS42.set_2)|exact HI0.out));(case side2=>repeat (first|(with_reducible first|exact HB.out|apply below_alloc|apply pw_below_drewN|apply below_drew1|refine below_set ?_ (IsS42.ge HI0.out))|exact HB.out));rintro e w11 ⟨v561,rfl,ho0,hi,hb,hk⟩;refine⟨_,rfl,?_⟩;have HO562:=A_ (Kd.R_lower ho0 (keep_size (w:=w) (g:=g) (row:=none) (y0 HK.out)));replace HO556:=A_ (Kd.R_mono (Kd.R_keep (IsS42.apart (show IsS42 w0 _ g s0_0 t558 t559 from y1 HI0.out) (kr_ HO556.out) (by decide)) hk (fun _ h=>h.2)) (fun _ h=>h.1));replace HK:=A_ (KeepBut.trans (y0 HK.out) hk (.inl rfl));replace HB:=A_ (hb);replace HI0:=A_ (hi);(try clear hb);(try clear hb2);(try clear hk);(try clear hi);(try clear ho0))|((with_reducible refine gc_ 13 rfl ?_);refine goesL_ (some 10) rfl rfl Try.func13 (by kernel_rfl) rfl #[.pointer (some ⟨g,0,none⟩),.int .i64 3] rfl ar ?_;(with_reducible refine(spec_l1Cur_one.calls g s0_0 t563 t564 3 true t566 t567 w0 _ ?side1 ?side2 A4.out).mono ?_);(case side1=>repeat (first|(with_reducible first|exact HI0.out|apply IsS42.alloc|apply IsS42.drewN|apply IsS42.drew|apply IsS42.set_1|apply IsS42.set_2)|exact HI0.out));(case side2=>repeat (first|(with_reducible first|exact HB.out|apply below_alloc|apply pw_below_drewN|apply below_drew1|refine below_set ?_ (IsS42.ge HI0.out))|exact HB.out));rintro e w12 ⟨rfl,hi,hb,hk⟩;refine⟨_,rfl,?_⟩;replace HO556:=A_ (Kd.R_mono (Kd.R_keep (IsS42.apart (show IsS42 w0 _ g s0_0 t563 t564 from y1 HI0.out) (kr_ HO556.out) (by decide)) hk (fun _ h=>h.2)) (fun _ h=>h.1));replace HO562:=A_ (Kd.R_mono (Kd.R_keep (IsS42.apart (show IsS42 w0 _ g s0_0 t563 t564 from y1 HI0.out) (kr_ HO562.out) (by decide)) hk (fun _ h=>h.2)) (fun _ h=>h.1));replace HK:=A_ (KeepBut.trans (y0 HK.out) hk (.inl rfl));replace HB:=A_ (hb);replace HI0:=A_ (hi);(try clear hb);(try clear hb2);(try clear hk);(try clear hi);obtain⟨Ao13,co13,eo13⟩:=Kd.R_slice HO562.out;subst eo13)|((with_reducible refine gc_ 31 rfl ?_);refine goesL_ (some 13) rfl rfl Try.func31 (by kernel_rfl) rfl #[.pointer (some ⟨g,0,none⟩),.slice Ao13 t560.length co13] rfl ar ?_;(with_reducible refine(spec_l1Cur_spoiltCode.calls g s0_0 t566 t567 (fun k_=>some k_=(.slice Ao13 t560.length co13:Value).ownBlock) (.slice Ao13 t560.length co13) t560 t568 t571 t572 w0 _ ?side1 ?side2 ?side3 A6.out).mono ?_);(case side1=>repeat (first|(with_reducible first|exact HI0.out|apply IsS42.alloc|apply IsS42.drewN|apply IsS42.drew|apply IsS42.set_1|apply IsS42.set_2)|exact HI0.out));(case side2=>repeat (first|(with_reducible first|exact HB.out|apply below_alloc|apply pw_below_drewN|apply below_drew1|refine below_set ?_ (IsS42.ge HI0.out))|exact HB.out));(case side3=>exact Kd.R_lower (Kd.R_tight rfl HO562.out) HL.out);rintro e w14 ⟨v569,rfl,ho0,hi,hb,hkp⟩;refine⟨_,rfl,?_⟩;have HO570:=A_ (Kd.R_mono (ok':=fun k_=>True) (Kd.R_raise (d:=k37) (b:=w0.heap.size) (b':=w.heap.size) (fun _ _ _ _ h_=>h_) ho0 (fun k_ e_=>Or.elim (ho0.1 k_ e_) (fun hs_=>(fun e_=>Kd.R_base HO562.out k_ e_.symm) hs_) (fun hn_=>Nat.le_trans (keep_size (w:=w) (g:=g) (row:=none) (y0 HK.out)) hn_))) (fun k_ hk_=>trivial));replace HO556:=A_ (Kd.R_mono (ok':=fun k_=>True) (Kd.R_keptB ((IsS42.apart HI0.out (Kd.R_apart' HO556.out (Kd.R_typed HO562.out) (by decide)) (by decide))) hkp (fun k_ hk_ hs_=>Or.elim hs_ (fun hs_=>(hk_.1.2) hs_) (fun e_=>(hk_.2) e_))) (fun k_ hk_=>trivial));replace HI0:=A_ (hi);replace HK:=A_ (Kept.keepG (y0 HK.out) hkp (fun k_ hs_=>Or.elim hs_ (fun hs_=>(fun e_=>.inr (Kd.R_base HO562.out k_ e_.symm)) hs_) (fun e_=>.inl e_)));replace HB:=A_ (hb);clear HO562;(try clear hb);(try clear hkp);(try clear ho0)))
  go_ret
  exact⟨_,rr_,kr_ HO570.out,y1 HI0.out,y2 HB.out,y0 HK.out⟩
 replace c5:=Bool.eq_false_iff.mpr c5
 subst c5
 replace H:=iF_ H
 simp only[Option.some.injEq,Prod.mk.injEq] at H
 obtain⟨rfl,rfl,rfl⟩:=H
 go_enter Try.func15,Try.ntmps15
 go_wp2_with (first|((with_reducible refine gd_ 6 rfl ?_);refine Kd.R_lit (Kd.int .i64) _ 3 ?hg (N:=6) ?hd (xs:=([127,126,125,64]:List Int)) (inner:=[.int .i64 127,.int .i64 126,.int .i64 125,.int .i64 64]) (ok:=fun _=>True) (okp:=fun _=>True) ?hr ?hp (fun _ hk=>hk) trivial (Below.refl _ _) (Nat.le_refl _) (by simp) ?_;(case hd=>rfl);(case hg=>rfl);(case hr=>first|(go_simp;done)|(go_simp;rfl));(case hp=>exact(Reps.one (show Kd.M (Kd.int .i64) _ _ _ 127 [.int .i64 127] from rfl) (Reps.one (show Kd.M (Kd.int .i64) _ _ _ 126 [.int .i64 126] from rfl) (Reps.one (show Kd.M (Kd.int .i64) _ _ _ 125 [.int .i64 125] from rfl) (Reps.one (show Kd.M (Kd.int .i64) _ _ _ 64 [.int .i64 64] from rfl) (Reps.none _ _))))));intro v555 w15 ho16 hb hg_ hnew_;clear hg_ hnew_;(first|rw[←Ny554.out] at ho16|(simp only[Int.reduceToNat] at ho16;rw[←Ny554.out] at ho16));have HO556:=A_ (Kd.R_lower ho16 (keep_size (w:=w) (g:=g) (row:=none) (y0 HK.out)));replace HI0:=A_ (IsS42.below (y1 HI0.out) hb);replace HK:=A_ (KeepBut.trans (y0 HK.out) (KeepBut.of_below hb g none) (.inl rfl));replace HB:=A_ (below_step (y2 HB.out) hb);clear hb ho16;obtain⟨Ao17,co17,eo17⟩:=Kd.R_slice HO556.out;subst eo17)|((with_reducible refine gc_ 30 rfl ?_);refine goesL_ (some 7) rfl rfl Try.func30 (by kernel_rfl) rfl #[.pointer (some ⟨g,0,none⟩),.slice Ao17 y554.length co17] rfl ar ?_;(with_reducible refine(spec_l1Cur_among.calls g s0_0 s0_1 s0_2 _ _ y554 t557 t558 t559 w0 _ ?side1 ?side2 ?side3 ?side4 ?side5 A2.out).mono ?_);(case side1=>repeat (first|(with_reducible first|exact HI0.out|apply IsS42.alloc|apply IsS42.drewN|apply IsS42.drew|apply IsS42.set_1|apply IsS42.set_2)|exact HI0.out));(case side2=>repeat (first|(with_reducible first|exact HB.out|apply below_alloc|apply pw_below_drewN|apply below_drew1|refine below_set ?_ (IsS42.ge HI0.out))|exact HB.out));(case side3=>repeat (first|exact(Kd.R_reads' HO556.out).2.2|(with_reducible refine Kd.C_alloc ?_ _)|(with_reducible refine Kd.C_drewN ?_ _)|(with_reducible refine Kd.C_drew ?_)));(case side4=>exact(Kd.R_reads' HO556.out).2.1);(case side5=>exact far_slice (IsS42.own_ne HI0.out HO556.out (by decide)));rintro e w18 ⟨rfl,hi,hb,hk⟩;refine⟨_,rfl,?_⟩;replace HO556:=A_ (Kd.R_mono (Kd.R_keep (IsS42.apart (show IsS42 w0 _ g s0_0 s0_1 s0_2 from y1 HI0.out) (kr_ HO556.out) (by decide)) hk (fun _ h=>h.2)) (fun _ h=>h.1));replace HK:=A_ (KeepBut.trans (y0 HK.out) hk (.inl rfl));replace HB:=A_ (hb);replace HI0:=A_ (hi);(try clear hb);(try clear hb2);(try clear hk);(try clear hi))|((with_reducible refine gc_ 29 rfl ?_);refine goesL_ (some 8) rfl rfl Try.func29 (by kernel_rfl) rfl #[.pointer (some ⟨g,0,none⟩),.int .i64 t557] rfl ar ?_;(with_reducible refine(spec_l1Cur_body.calls k g s0_0 t558 t559 t557 t560 t563 t564 w0 _ ?side1 ?side2 A3.out).mono ?_);(case side1=>repeat (first|(with_reducible first|exact HI0.out|apply IsS42.alloc|apply IsS42.drewN|apply IsS42.drew|apply IsS42.set_1|apply IsS42.set_2)|exact HI0.out));(case side2=>repeat (first|(with_reducible first|exact HB.out|apply below_alloc|apply pw_below_drewN|apply below_drew1|refine below_set ?_ (IsS42.ge HI0.out))|exact HB.out));rintro e w19 ⟨v561,rfl,ho0,hi,hb,hk⟩;refine⟨_,rfl,?_⟩;have HO562:=A_ (Kd.R_lower ho0 (keep_size (w:=w) (g:=g) (row:=none) (y0 HK.out)));replace HO556:=A_ (Kd.R_mono (Kd.R_keep (IsS42.apart (show IsS42 w0 _ g s0_0 t558 t559 from y1 HI0.out) (kr_ HO556.out) (by decide)) hk (fun _ h=>h.2)) (fun _ h=>h.1));replace HK:=A_ (KeepBut.trans (y0 HK.out) hk (.inl rfl));replace HB:=A_ (hb);replace HI0:=A_ (hi);(try clear hb);(try clear hb2);(try clear hk);(try clear hi);(try clear ho0))|((with_reducible refine gc_ 13 rfl ?_);refine goesL_ (some 10) rfl rfl Try.func13 (by kernel_rfl) rfl #[.pointer (some ⟨g,0,none⟩),.int .i64 3] rfl ar ?_;(with_reducible refine(spec_l1Cur_one.calls g s0_0 t563 t564 3 false t566 t567 w0 _ ?side1 ?side2 A4.out).mono ?_);(case side1=>repeat (first|(with_reducible first|exact HI0.out|apply IsS42.alloc|apply IsS42.drewN|apply IsS42.drew|apply IsS42.set_1|apply IsS42.set_2)|exact HI0.out));(case side2=>repeat (first|(with_reducible first|exact HB.out|apply below_alloc|apply pw_below_drewN|apply below_drew1|refine below_set ?_ (IsS42.ge HI0.out))|exact HB.out));rintro e w20 ⟨rfl,hi,hb,hk⟩;refine⟨_,rfl,?_⟩;replace HO556:=A_ (Kd.R_mono (Kd.R_keep (IsS42.apart (show IsS42 w0 _ g s0_0 t563 t564 from y1 HI0.out) (kr_ HO556.out) (by decide)) hk (fun _ h=>h.2)) (fun _ h=>h.1));replace HO562:=A_ (Kd.R_mono (Kd.R_keep (IsS42.apart (show IsS42 w0 _ g s0_0 t563 t564 from y1 HI0.out) (kr_ HO562.out) (by decide)) hk (fun _ h=>h.2)) (fun _ h=>h.1));replace HK:=A_ (KeepBut.trans (y0 HK.out) hk (.inl rfl));replace HB:=A_ (hb);replace HI0:=A_ (hi);(try clear hb);(try clear hb2);(try clear hk);(try clear hi)))
 go_ret
 exact⟨_,rr_,kr_ HO562.out,y1 HI0.out,y2 HB.out,y0 HK.out⟩

/-! ### spec_DrawCodeBytes: function 4 -/
def spec_DrawCodeBytes.f (k:Nat) (l0:List Int):Option ((List (S37))):=(spec_l1Cur_one.f l0 0 0 40).bind fun bt574=>(if bt574.1=true then ((spec_l1Cur_pick.f l0 bt574.2.1 bt574.2.2 2).bind fun bt577=>(if 0≤(wrap64 (200+bt577.1)) then (if (wrap64 (200+bt577.1):Int).toNat≤17592186044416 then (some (List.replicate (wrap64 (200+bt577.1):Int).toNat z37)) else (none)) else (none))) else ((spec_l1Cur_codeOf.f k l0 bt574.2.1 bt574.2.2).bind fun bt583=>(some bt583.1)))
theorem spec_DrawCodeBytes.calls (k:Nat) (A0:Option Addr) (c0:Nat) (l0:List Int) (r:List (S37)) (w:World) (hr0:Kd.C (Kd.int .u8) w A0 l0.length l0) (hc0:l0.length≤c0) (h:spec_DrawCodeBytes.f k l0=some r):
  Calls Try.prog 4 #[.slice A0 l0.length c0] w fun e w'=>∃ v0_:Value,e=.returned (v0_)∧Kd.R k37 37 w' w.heap.size (fun _=>True) v0_ r∧Below w.heap.size w w':=by
 have hu42:=Try.underlying42
 have HR0:=A_ hr0
 have HC0:=A_ hc0
 clear hr0 hc0
 have HB:=A_ (Below.refl w.heap.size w)
 have H:((spec_l1Cur_one.f l0 0 0 40).bind fun bt574=>(if bt574.1=true then ((spec_l1Cur_pick.f l0 bt574.2.1 bt574.2.2 2).bind fun bt577=>(if 0≤(wrap64 (200+bt577.1)) then (if (wrap64 (200+bt577.1):Int).toNat≤17592186044416 then (some (List.replicate (wrap64 (200+bt577.1):Int).toNat z37)) else (none)) else (none))) else ((spec_l1Cur_codeOf.f k l0 bt574.2.1 bt574.2.2).bind fun bt583=>(some bt583.1))))=some r:=h
 clear h
 replace H:=Option.bind_eq_some_iff.mp H
 obtain⟨⟨t574,t575,t576⟩,A20,H⟩:=H
 replace H:(if t574=true then ((spec_l1Cur_pick.f l0 t575 t576 2).bind fun bt577=>(if 0≤(wrap64 (200+bt577.1)) then (if (wrap64 (200+bt577.1):Int).toNat≤17592186044416 then (some (List.replicate (wrap64 (200+bt577.1):Int).toNat z37)) else (none)) else (none))) else ((spec_l1Cur_codeOf.f k l0 t575 t576).bind fun bt583=>(some bt583.1)))=some r:=H
 have A2:=A_ A20
 clear A20
 by_cases c3:t574=true
 ·
  subst c3
  replace H:=iT_ H
  replace H:=Option.bind_eq_some_iff.mp H
  obtain⟨⟨t577,t578,t579⟩,A40,H⟩:=H
  replace H:(if 0≤(wrap64 (200+t577)) then (if (wrap64 (200+t577):Int).toNat≤17592186044416 then (some (List.replicate (wrap64 (200+t577):Int).toNat z37)) else (none)) else (none))=some r:=H
  have A4:=A_ A40
  clear A40
  obtain⟨ji5,hji5⟩:∃ j_:Int,(wrap64 (200+t577))=j_:=⟨_,rfl⟩
  replace H:(if 0≤(ji5) then (if (ji5:Int).toNat≤17592186044416 then (some (List.replicate (ji5:Int).toNat z37)) else (none)) else (none))=some r:=by first|(rw[hji5] at H;exact H)|(simp only[hji5] at H ⊢;exact H)
  (try rw[hji5] at A2)
  (try rw[hji5] at A4)
  have hji5w:(IntKind.i64.wrap (200+t577))=ji5:=(i64_w _).trans hji5
  by_cases c6:0≤(ji5)
  ·
   rw[if_pos c6] at H
   have c6b0:=eq_true c6
   have c6b1:=decide_eq_true c6
   clear c6
   by_cases c7:(ji5:Int).toNat≤17592186044416
   ·
    rw[if_pos c7] at H
    have c7b0:=eq_true c7
    have c7b1:=decide_eq_true c7
    clear c7
    obtain⟨y580,hy580⟩:∃ y_:List (S37),y_=(List.replicate (ji5:Int).toNat z37):=⟨_,rfl⟩
    replace H:(some y580)=some r:=by first|(rw[hy580];with_reducible exact H)|(have H2_:=(Option.bind_some _ _).symm.trans H;rw[hy580];with_reducible exact H2_)|(have H2_:=(Option.bind_some _ _).symm.trans H;with_reducible exact H2_)|with_reducible exact H|(rw[hy580];exact H)|exact H
    have Ny580:=A_ hy580
    clear hy580
    obtain rfl:=Option.some.inj H
    clear H
    go_enter Try.func4,Try.ntmps4
    go_wp2_with (first|((with_reducible refine gd_ 6 rfl ?_);refine bx_ #[.slice A0 l0.length c0,.int .i64 0,.int .u64 0] 42 ?_;intro gb573 hg w8 hbox hb;have HI573:=A_ ((show IsS42 w w8 gb573 l0 0 0 from ⟨_,_,hbox,(sz_ hg (bw HB.out):w.heap.size≤gb573),HR0.out⟩));have GW573:=gw_ hg HB;have GE573:=GW573;replace HB:=bs_ HB hb;clear hb hbox hg)|((with_reducible refine gc_ 13 rfl ?_);refine goesL_ (some 8) rfl rfl Try.func13 (by kernel_rfl) rfl #[.pointer (some ⟨gb573,0,none⟩),.int .i64 40] rfl ar ?_;(with_reducible refine(spec_l1Cur_one.calls gb573 l0 0 0 40 true t575 t576 w _ ?side1 ?side2 A2.out).mono ?_);(case side1=>repeat (first|(with_reducible first|exact HI573.out|apply IsS42.alloc|apply IsS42.drewN|apply IsS42.drew|apply IsS42.set_1|apply IsS42.set_2)|exact HI573.out));(case side2=>repeat (first|(with_reducible first|exact HB.out|apply below_alloc|apply pw_below_drewN|apply below_drew1|refine below_set ?_ (IsS42.ge HI573.out))|exact HB.out));rintro e w9 ⟨rfl,hi,hb,hk⟩;refine⟨_,rfl,?_⟩;replace HB:=A_ (hb);replace HI573:=A_ (hi);(try clear hb);(try clear hb2);(try clear hk);(try clear hi))|((with_reducible refine gc_ 14 rfl ?_);refine goesL_ (some 10) rfl rfl Try.func14 (by kernel_rfl) rfl #[.pointer (some ⟨gb573,0,none⟩),.int .i64 2] rfl ar ?_;(with_reducible refine(spec_l1Cur_pick.calls gb573 l0 t575 t576 2 t577 t578 t579 w _ ?side1 ?side2 A4.out).mono ?_);(case side1=>repeat (first|(with_reducible first|exact HI573.out|apply IsS42.alloc|apply IsS42.drewN|apply IsS42.drew|apply IsS42.set_1|apply IsS42.set_2)|exact HI573.out));(case side2=>repeat (first|(with_reducible first|exact HB.out|apply below_alloc|apply pw_below_drewN|apply below_drew1|refine below_set ?_ (IsS42.ge HI573.out))|exact HB.out));rintro e w10 ⟨rfl,hi,hb,hk⟩;refine⟨_,rfl,?_⟩;replace HB:=A_ (hb);replace HI573:=A_ (hi);(try clear hb);(try clear hb2);(try clear hk);(try clear hi))|((with_reducible refine gd_ 12 rfl ?_);refine Kd.R_make k37 _ 37 rfl (N:=12) rfl 23 _ _ rfl ji5 rfl rfl Try.underlying23 (.agg #[(.int .i64 0),(.int .i64 0)]) 16 info37 rfl (by decide) (by omega) z37 (ok:=fun _=>True) (okp:=fun _=>True) (k37_mkM _ _ _ z37) (fun _ hk=>hk) trivial (od_) (Nat.le_trans (Nat.mul_le_mul_right _ (od_:ji5.toNat≤17592186044416)) (by omega)) (Below.refl _ _) (Nat.le_refl _) ?_;intro v581 w11 ho12 hb hg_ hnew_;clear hg_ hnew_;(first|rw[←Ny580.out] at ho12|(simp only[Int.reduceToNat] at ho12;rw[←Ny580.out] at ho12));have HO582:=A_ (Kd.R_lower ho12 (below_size (y2 HB.out)));replace HI573:=A_ (IsS42.below (y1 HI573.out) hb);replace HB:=A_ (below_step (y2 HB.out) hb);clear hb ho12))
    go_ret
    exact⟨_,by first|rfl|(simp[errW_none,errW_some]<;>rfl)|(simp only[←hji5];first|rfl|(simp[errW_none,errW_some]<;>rfl))|(simp[*,errW_none,errW_some]<;>rfl),kr_ HO582.out,y2 HB.out⟩
   rw[if_neg c7] at H
   exact absurd H (by simp)
  rw[if_neg c6] at H
  exact absurd H (by simp)
 replace c3:=Bool.eq_false_iff.mpr c3
 subst c3
 replace H:=iF_ H
 replace H:=Option.bind_eq_some_iff.mp H
 obtain⟨⟨t583,t586,t587⟩,A130,H⟩:=H
 replace H:(some t583)=some r:=H
 have A13:=A_ A130
 clear A130
 obtain rfl:=Option.some.inj H
 clear H
 go_enter Try.func4,Try.ntmps4
 go_wp2_with (first|((with_reducible refine gd_ 6 rfl ?_);refine bx_ #[.slice A0 l0.length c0,.int .i64 0,.int .u64 0] 42 ?_;intro gb573 hg w14 hbox hb;have HI573:=A_ ((show IsS42 w w14 gb573 l0 0 0 from ⟨_,_,hbox,(sz_ hg (bw HB.out):w.heap.size≤gb573),HR0.out⟩));have GW573:=gw_ hg HB;have GE573:=GW573;replace HB:=bs_ HB hb;clear hb hbox hg)|((with_reducible refine gc_ 13 rfl ?_);refine goesL_ (some 8) rfl rfl Try.func13 (by kernel_rfl) rfl #[.pointer (some ⟨gb573,0,none⟩),.int .i64 40] rfl ar ?_;(with_reducible refine(spec_l1Cur_one.calls gb573 l0 0 0 40 false t575 t576 w _ ?side1 ?side2 A2.out).mono ?_);(case side1=>repeat (first|(with_reducible first|exact HI573.out|apply IsS42.alloc|apply IsS42.drewN|apply IsS42.drew|apply IsS42.set_1|apply IsS42.set_2)|exact HI573.out));(case side2=>repeat (first|(with_reducible first|exact HB.out|apply below_alloc|apply pw_below_drewN|apply below_drew1|refine below_set ?_ (IsS42.ge HI573.out))|exact HB.out));rintro e w15 ⟨rfl,hi,hb,hk⟩;refine⟨_,rfl,?_⟩;replace HB:=A_ (hb);replace HI573:=A_ (hi);(try clear hb);(try clear hb2);(try clear hk);(try clear hi))|((with_reducible refine gc_ 15 rfl ?_);refine goesL_ (some 14) rfl rfl Try.func15 (by kernel_rfl) rfl #[.pointer (some ⟨gb573,0,none⟩)] rfl ar ?_;(with_reducible refine(spec_l1Cur_codeOf.calls k gb573 l0 t575 t576 t583 t586 t587 w _ ?side1 ?side2 A13.out).mono ?_);(case side1=>repeat (first|(with_reducible first|exact HI573.out|apply IsS42.alloc|apply IsS42.drewN|apply IsS42.drew|apply IsS42.set_1|apply IsS42.set_2)|exact HI573.out));(case side2=>repeat (first|(with_reducible first|exact HB.out|apply below_alloc|apply pw_below_drewN|apply below_drew1|refine below_set ?_ (IsS42.ge HI573.out))|exact HB.out));rintro e w16 ⟨v584,rfl,ho0,hi,hb,hk⟩;refine⟨_,rfl,?_⟩;have HO585:=A_ (Kd.R_lower ho0 (below_size (y2 HB.out)));replace HB:=A_ (hb);replace HI573:=A_ (hi);(try clear hb);(try clear hb2);(try clear hk);(try clear hi);(try clear ho0)))
 go_ret
 exact⟨_,rr_,kr_ HO585.out,y2 HB.out⟩

end Go.Proofs.Ytmajifnehjlncaa.Q

