-- Written by a program of this session; it walks the functions that the law reaches.
import Derived.Test.YtghogonibanieaaQx0
import Derived.Test.YtghogonibanieaaQx1
namespace Go.Proofs.Ytghogonibanieaa.Q
open Go.RowKit Go.Proofs.YtghogonibanieaaW.PrintWords Go.Proofs.YtghogonibanieaaW.PrintLast Go.Proofs.YtghogonibanieaaW.PrintMore
attribute [local go_sem] max2_int min2_int max_two min_two max_three min_three max_four min_four   -- for this text's walks alone
set_option linter.unusedVariables false
set_option linter.unusedSimpArgs false
set_option maxRecDepth 100000
set_option maxHeartbeats 8000000


/-! ### spec_l7S_take: function 43 (walked by hand) -/
def takeS (c:CS S91) (want:Int):Option (CS S91 × Int):=
 if want=64 then some (c,want) else if c.fa≠0 then some (c,want) else
 (c.sp[c.sp.length - 1]?).bind fun b=>
  if (c.st.length:Int)=b.f2 then some (if b.f3=true then c else c.fail 2,want)
  else (c.st[c.st.length - 1]?).bind fun t=>some (if t≠want∧t≠1∧want≠1 then ({c with st:=c.st.take (c.st.length - 1)}:CS S91).fail 3 else {c with st:=c.st.take (c.st.length - 1)},if t=1 then want else t)
def spec_l7take.T3:Bool × List (List Nat × List Nat):=(true,[([],[]),([0],[0]),([1],[1]),([2],[2]),([],[]),([4],[4]),([5],[5]),([6],[6]),([7],[7]),([8],[8]),([3,9],[3,9]),([10],[10]),([],[]),([12,11,0,1,2,3,4,5,6,7,8,9,10,11,12],[11,12])])
def spec_l7take.B3:List Nat:=[0,1,3,7,0,16,48,112,240,496,1023,2047,0,8191]
theorem spec_l7take.tab3:rtab .any (opsOf Try.f43 3)=spec_l7take.T3:=by kernel_rfl
theorem spec_l7take.bits3:waitsOk spec_l7take.T3.2 spec_l7take.B3=true:=by kernel_rfl
theorem stake_any (want t:Int) (w0 w:World) (g:Nat) (q:Nat→Value) (c c':CS S91) (A:Option Addr) (n1:Nat) (B:Option Addr) (n2:Nat) (h:Cs w0 w g q c A n1 B n2) (hr:takeS c want=some (c',t)):
  Calls Try.prog 43 #[.pointer (some ⟨g,0,none⟩),.int .i64 want] w fun e w'=>e=.returned (.int .i64 t)∧Cs w0 w' g q c' A n1 B n2∧KeepBut w w' g none:=by
 have HO:=A_ h
 have HK:=A_ (KeepBut.refl w g none)
 have hu91:=Try.underlying91
 unfold takeS at hr
 by_cases k64:want=64
 ·
  rw[if_pos k64] at hr
  simp only[Option.some.injEq,Prod.mk.injEq] at hr
  obtain⟨rfl,rfl⟩:=hr
  have cb:(want==64)=true:=beq_iff_eq.2 k64
  clear h k64
  go_enter Try.func43,Try.ntmps43
  go_wp2
  go_ret
  exact⟨rfl,HO.out,HK.out⟩
 rw[if_neg k64] at hr
 have cb:(want==64)=false:=beq_eq_false_iff_ne.2 k64
 have c12f:=HO.out.cell12
 by_cases kf:c.fa≠0
 ·
  rw[if_pos kf] at hr
  simp only[Option.some.injEq,Prod.mk.injEq] at hr
  obtain⟨rfl,rfl⟩:=hr
  have cf:(c.fa !=0)=true:=bne_iff_ne.2 kf
  clear h k64 kf
  go_enter Try.func43,Try.ntmps43
  go_wp2
  go_ret
  exact⟨rfl,HO.out,HK.out⟩
 rw[if_neg kf] at hr
 have cf:(c.fa !=0)=false:=bne_eq_false_iff_eq.2 (Classical.not_not.1 kf)
 obtain⟨b,hb,hr1⟩:=Option.bind_eq_some_iff.1 hr
 clear hr
 have hr:=hr1
 clear hr1 k64 kf
 have hp:0<c.sp.length:=by have:=(List.getElem?_eq_some_iff.1 hb).1;omega
 obtain⟨gB,rfl,_,s0,s1,s2,s3,s4,_⟩:=h.span _ b hb
 have c3:=HO.out.cell11
 have hm:=h.lenP.1
 have e1:IntKind.i64.wrap ((c.sp.length:Int) - 1)=((c.sp.length - 1:Nat):Int):=by rw[show ((c.sp.length:Int) - 1)=((c.sp.length - 1:Nat):Int) by omega];exact IntWalk.i64_in _ (by omega)
 have q1:(0:Int)≤((c.sp.length - 1:Nat):Int):=by omega
 have q2:((c.sp.length - 1:Nat):Int)<(c.sp.length:Int):=by omega
 clear hp hm hb
 by_cases c1:(c.st.length:Int)=b.f2
 ·
  rw[if_pos c1] at hr
  simp only[Option.some.injEq,Prod.mk.injEq] at hr
  obtain⟨rfl,rfl⟩:=hr
  have cbn:((c.st.length:Int)==b.f2)=true:=beq_iff_eq.2 c1
  clear h c1
  obtain⟨cr,hcr⟩:∃ cr,(if b.f3=true then c else c.fail 2)=cr:=⟨_,rfl⟩
  rw[hcr]
  have HCR:=A_ hcr
  clear hcr
  go_enter Try.func43,Try.ntmps43
  go_upto_region 3 with (fail)
  refine sS 14 (fun w'=>w'.cell? ⟨g,11,none⟩=some (.slice (some ⟨gB,0,none⟩) c.sp.length n2)∧w'.cell? ⟨gB,(c.sp.length - 1)*5,none⟩=some (.int .i64 b.f0)∧w'.cell? ⟨gB,(c.sp.length - 1)*5+1,none⟩=some (.int .i64 b.f1)∧w'.cell? ⟨gB,(c.sp.length - 1)*5+2,none⟩=some (.int .i64 b.f2)∧w'.cell? ⟨gB,(c.sp.length - 1)*5+3,none⟩=some (.bool b.f3)∧w'.cell? ⟨gB,(c.sp.length - 1)*5+4,none⟩=some (.bool b.f4)) [13] ⟨c3,s0,s1,s2,s3,s4⟩ spec_l7take.tab3 spec_l7take.bits3 (fun hHeld HT_ HW_=>?_)
  replace HO:=A_ HO.out.drew;replace HK:=A_ (keep_drew HK.out);clear c3 s0 s1 s2 s3 s4;generalize w.drew=wd at*
  refine pS HT_ 0 17 ?_
  refine pS HT_ 1 18 ?_
  refine pS HT_ 2 19 ?_
  refine pS HT_ 4 21 ?_
  refine pS HT_ 5 22 ?_
  refine pS HT_ 6 23 ?_
  refine tS HT_ HW_ 3 20 hHeld ?_
  refine tS HT_ HW_ 7 24 hHeld ?_
  refine pS HT_ 8 25 ?_
  refine pS HT_ 9 26 ?_
  refine pS HT_ 10 27 ?_
  refine tS HT_ HW_ 11 28 hHeld ?_
  refine oS HT_ 12 (some 5) (fun K hK=>?_)
  refine box_step (by rfl) (N:=5) ?hd (cs:=#[(.int .i64 0),(.int .i64 0),(.int .i64 0),(.bool false),(.bool false)]) (t:=91) ?hr ?_;(case hd=>rfl);(case hr=>first|(go_simp;done)|(go_simp;rfl))
  intro gx hg wx hbox hb
  have BX:=A_ hbox;have GX:=A_ (show w.heap.size≤gx from by rw[hg];exact HK.out.1);have NX:=A_ (HO.out.fresh_ne hg);have G0:=A_ (Nat.le_trans HO.out.2.1.size (Nat.le_of_eq hg.symm));have m0:=A_ (HO.out.below hb);have m1:=A_ (HK.out.trans (KeepBut.of_below hb g none) (.inl rfl))
  obtain⟨s0_,s1_,s2_,s3_,s4_,s5_⟩:=hHeld
  have hHeld2:=A_ (show wx.cell? ⟨g,11,none⟩=some (.slice (some ⟨gB,0,none⟩) c.sp.length n2)∧wx.cell? ⟨gB,(c.sp.length - 1)*5,none⟩=some (.int .i64 b.f0)∧wx.cell? ⟨gB,(c.sp.length - 1)*5+1,none⟩=some (.int .i64 b.f1)∧wx.cell? ⟨gB,(c.sp.length - 1)*5+2,none⟩=some (.int .i64 b.f2)∧wx.cell? ⟨gB,(c.sp.length - 1)*5+3,none⟩=some (.bool b.f3)∧wx.cell? ⟨gB,(c.sp.length - 1)*5+4,none⟩=some (.bool b.f4) from ⟨cl_ hb s0_,cl_ hb s1_,cl_ hb s2_,cl_ hb s3_,cl_ hb s4_,cl_ hb s5_⟩)
  clear HO HK hbox hb hg s0_ s1_ s2_ s3_ s4_ s5_;have HO:=m0;have HK:=m1;clear m0 m1
  have z0:=(blk_cell BX.out 0).trans rfl;have v0:=blk_frozen BX.out 0;have z1:=(blk_cell BX.out 1).trans rfl;have v1:=blk_frozen BX.out 1;have z2:=(blk_cell BX.out 2).trans rfl;have v2:=blk_frozen BX.out 2;have z3:=(blk_cell BX.out 3).trans rfl;have v3:=blk_frozen BX.out 3;have z4:=(blk_cell BX.out 4).trans rfl;have v4:=blk_frozen BX.out 4
  refine hK.out _ _ hHeld2.out (fun hHeld=>?_)
  clear hK K
  refine nS (some 5) ?_
  refine lS HT_ 13 (none) (fun K hK=>?_)
  refine skip_ (w1:=(((((wx.setCell ⟨gx,0,none⟩ ((.int .i64 b.f0))).setCell ⟨gx,1,none⟩ ((.int .i64 b.f1))).setCell ⟨gx,2,none⟩ ((.int .i64 b.f2))).setCell ⟨gx,3,none⟩ ((.bool b.f3))).setCell ⟨gx,4,none⟩ ((.bool b.f4)))) (by rfl) rfl (by first|(go_simp;done)|(go_simp;rfl)) ?_
  clear hHeld hHeld2 z0 v0 z1 v1 z2 v2 z3 v3 z4 v4
  refine hK.out _ _ ?_
  clear hK K
  refine dS HT_ ?_
  replace BX:=A_ (show((((((wx.setCell ⟨gx,0,none⟩ ((.int .i64 b.f0))).setCell ⟨gx,1,none⟩ ((.int .i64 b.f1))).setCell ⟨gx,2,none⟩ ((.int .i64 b.f2))).setCell ⟨gx,3,none⟩ ((.bool b.f3))).setCell ⟨gx,4,none⟩ ((.bool b.f4)))).heap[gx]? =some (.cells #[(.int .i64 b.f0),(.int .i64 b.f1),(.int .i64 b.f2),(.bool b.f3),(.bool b.f4)] 91 (0,0)) from blk_put (cs:=#[(.int .i64 b.f0),(.int .i64 b.f1),(.int .i64 b.f2),(.bool b.f3),(.bool false)]) (blk_put (cs:=#[(.int .i64 b.f0),(.int .i64 b.f1),(.int .i64 b.f2),(.bool false),(.bool false)]) (blk_put (cs:=#[(.int .i64 b.f0),(.int .i64 b.f1),(.int .i64 0),(.bool false),(.bool false)]) (blk_put (cs:=#[(.int .i64 b.f0),(.int .i64 0),(.int .i64 0),(.bool false),(.bool false)]) (blk_put (cs:=#[(.int .i64 0),(.int .i64 0),(.int .i64 0),(.bool false),(.bool false)]) (BX.out) 0 ((.int .i64 b.f0)) rfl) 1 ((.int .i64 b.f1)) rfl) 2 ((.int .i64 b.f2)) rfl) 3 ((.bool b.f3)) rfl) 4 ((.bool b.f4)) rfl);replace HO:=A_ (Cs.other (Cs.other (Cs.other (Cs.other (Cs.other (HO.out) G0.out NX.out 0 ((.int .i64 b.f0))) G0.out NX.out 1 ((.int .i64 b.f1))) G0.out NX.out 2 ((.int .i64 b.f2))) G0.out NX.out 3 ((.bool b.f3))) G0.out NX.out 4 ((.bool b.f4)));replace HK:=A_ (keep_other (keep_other (keep_other (keep_other (keep_other (HK.out) GX.out 0 ((.int .i64 b.f0))) GX.out 1 ((.int .i64 b.f1))) GX.out 2 ((.int .i64 b.f2))) GX.out 3 ((.bool b.f3))) GX.out 4 ((.bool b.f4)));generalize (((((wx.setCell ⟨gx,0,none⟩ ((.int .i64 b.f0))).setCell ⟨gx,1,none⟩ ((.int .i64 b.f1))).setCell ⟨gx,2,none⟩ ((.int .i64 b.f2))).setCell ⟨gx,3,none⟩ ((.bool b.f3))).setCell ⟨gx,4,none⟩ ((.bool b.f4)))=wy at*
  have x0:=(blk_cell BX.out 0).trans rfl;have x1:=(blk_cell BX.out 1).trans rfl;have x2:=(blk_cell BX.out 2).trans rfl;have x3:=(blk_cell BX.out 3).trans rfl;have x4:=(blk_cell BX.out 4).trans rfl
  have c10f:=HO.out.cell10
  go_upto_region 4 with (fail)
  go_quiet (fail)
  replace HO:=A_ (HO.out.drewN nq);replace HK:=A_ (keep_drewN HK.out nq);replace BX:=A_ (blk_drewN BX.out nq);clear x0 x1 x2 x3 x4 c10f;generalize wy.drewN nq=wq at*;have x0:=(blk_cell BX.out 0).trans rfl;have x1:=(blk_cell BX.out 1).trans rfl;have x2:=(blk_cell BX.out 2).trans rfl;have x3:=(blk_cell BX.out 3).trans rfl;have x4:=(blk_cell BX.out 4).trans rfl
  by_cases cd:b.f3=true
  ·
   have EE:=A_ (HCR.out.symm.trans (if_pos cd))
   rw[cd] at x3
   clear cd HCR
   go_wp2
   go_ret
   exact⟨rfl,by rw[EE.out];exact HO.out,HK.out⟩
  have EE:=A_ (HCR.out.symm.trans (if_neg cd))
  rw[show b.f3=false by simpa using cd] at x3
  clear cd HCR
  go_wp2_with (first|(go_at_call 46;refine(bad_any w0 _ g q _ 2 _ n1 _ n2 HO.out).mono ?_;rintro e w5 ⟨rfl,hO,hK⟩;replace HO:=A_ hO;replace HK:=A_ (HK.out.trans hK (.inl rfl));clear hO hK))
  go_ret
  exact⟨rfl,by rw[EE.out];exact HO.out,HK.out⟩
 rw[if_neg c1] at hr
 obtain⟨x,hx,hr2⟩:=Option.bind_eq_some_iff.1 hr
 clear hr
 have cbn:((c.st.length:Int)==b.f2)=false:=beq_eq_false_iff_ne.2 c1
 have hlt:c.st.length - 1<c.st.length:=(List.getElem?_eq_some_iff.1 hx).1
 obtain⟨gA,rfl,sx⟩:=h.stk _ x hx
 have HX:=A_ hx
 have hm2:=h.lenS
 have e3:IntKind.i64.wrap ((c.st.length:Int) - 1)=((c.st.length - 1:Nat):Int):=by rw[show ((c.st.length:Int) - 1)=((c.st.length - 1:Nat):Int) by omega];exact IntWalk.i64_in _ (by omega)
 have q3:(0:Int)≤((c.st.length - 1:Nat):Int):=by omega
 have q4:((c.st.length - 1:Nat):Int)<(c.st.length:Int):=by omega
 have q5:((c.st.length - 1:Nat):Int)≤(n1:Int):=by omega
 have HL:=A_ (show c.st.length - 1≤c.st.length by omega)
 clear h hlt hm2 hx c1 sx
 go_enter Try.func43,Try.ntmps43
 go_upto_region 3 with (fail)
 refine sS 14 (fun w'=>w'.cell? ⟨g,11,none⟩=some (.slice (some ⟨gB,0,none⟩) c.sp.length n2)∧w'.cell? ⟨gB,(c.sp.length - 1)*5,none⟩=some (.int .i64 b.f0)∧w'.cell? ⟨gB,(c.sp.length - 1)*5+1,none⟩=some (.int .i64 b.f1)∧w'.cell? ⟨gB,(c.sp.length - 1)*5+2,none⟩=some (.int .i64 b.f2)∧w'.cell? ⟨gB,(c.sp.length - 1)*5+3,none⟩=some (.bool b.f3)∧w'.cell? ⟨gB,(c.sp.length - 1)*5+4,none⟩=some (.bool b.f4)) [13] ⟨c3,s0,s1,s2,s3,s4⟩ spec_l7take.tab3 spec_l7take.bits3 (fun hHeld HT_ HW_=>?_)
 replace HO:=A_ HO.out.drew;replace HK:=A_ (keep_drew HK.out);clear c3 s0 s1 s2 s3 s4;generalize w.drew=wd at*
 refine pS HT_ 0 17 ?_
 refine pS HT_ 1 18 ?_
 refine pS HT_ 2 19 ?_
 refine pS HT_ 4 21 ?_
 refine pS HT_ 5 22 ?_
 refine pS HT_ 6 23 ?_
 refine tS HT_ HW_ 3 20 hHeld ?_
 refine tS HT_ HW_ 7 24 hHeld ?_
 refine pS HT_ 8 25 ?_
 refine pS HT_ 9 26 ?_
 refine pS HT_ 10 27 ?_
 refine tS HT_ HW_ 11 28 hHeld ?_
 refine oS HT_ 12 (some 5) (fun K hK=>?_)
 refine box_step (by rfl) (N:=5) ?hd (cs:=#[(.int .i64 0),(.int .i64 0),(.int .i64 0),(.bool false),(.bool false)]) (t:=91) ?hr ?_;(case hd=>rfl);(case hr=>first|(go_simp;done)|(go_simp;rfl))
 intro gx hg wx hbox hb
 have BX:=A_ hbox;have GX:=A_ (show w.heap.size≤gx from by rw[hg];exact HK.out.1);have NX:=A_ (HO.out.fresh_ne hg);have G0:=A_ (Nat.le_trans HO.out.2.1.size (Nat.le_of_eq hg.symm));have m0:=A_ (HO.out.below hb);have m1:=A_ (HK.out.trans (KeepBut.of_below hb g none) (.inl rfl))
 obtain⟨s0_,s1_,s2_,s3_,s4_,s5_⟩:=hHeld
 have hHeld2:=A_ (show wx.cell? ⟨g,11,none⟩=some (.slice (some ⟨gB,0,none⟩) c.sp.length n2)∧wx.cell? ⟨gB,(c.sp.length - 1)*5,none⟩=some (.int .i64 b.f0)∧wx.cell? ⟨gB,(c.sp.length - 1)*5+1,none⟩=some (.int .i64 b.f1)∧wx.cell? ⟨gB,(c.sp.length - 1)*5+2,none⟩=some (.int .i64 b.f2)∧wx.cell? ⟨gB,(c.sp.length - 1)*5+3,none⟩=some (.bool b.f3)∧wx.cell? ⟨gB,(c.sp.length - 1)*5+4,none⟩=some (.bool b.f4) from ⟨cl_ hb s0_,cl_ hb s1_,cl_ hb s2_,cl_ hb s3_,cl_ hb s4_,cl_ hb s5_⟩)
 clear HO HK hbox hb hg s0_ s1_ s2_ s3_ s4_ s5_;have HO:=m0;have HK:=m1;clear m0 m1
 have z0:=(blk_cell BX.out 0).trans rfl;have v0:=blk_frozen BX.out 0;have z1:=(blk_cell BX.out 1).trans rfl;have v1:=blk_frozen BX.out 1;have z2:=(blk_cell BX.out 2).trans rfl;have v2:=blk_frozen BX.out 2;have z3:=(blk_cell BX.out 3).trans rfl;have v3:=blk_frozen BX.out 3;have z4:=(blk_cell BX.out 4).trans rfl;have v4:=blk_frozen BX.out 4
 refine hK.out _ _ hHeld2.out (fun hHeld=>?_)
 clear hK K
 refine nS (some 5) ?_
 refine lS HT_ 13 (none) (fun K hK=>?_)
 refine skip_ (w1:=(((((wx.setCell ⟨gx,0,none⟩ ((.int .i64 b.f0))).setCell ⟨gx,1,none⟩ ((.int .i64 b.f1))).setCell ⟨gx,2,none⟩ ((.int .i64 b.f2))).setCell ⟨gx,3,none⟩ ((.bool b.f3))).setCell ⟨gx,4,none⟩ ((.bool b.f4)))) (by rfl) rfl (by first|(go_simp;done)|(go_simp;rfl)) ?_
 clear hHeld hHeld2 z0 v0 z1 v1 z2 v2 z3 v3 z4 v4
 refine hK.out _ _ ?_
 clear hK K
 refine dS HT_ ?_
 replace BX:=A_ (show((((((wx.setCell ⟨gx,0,none⟩ ((.int .i64 b.f0))).setCell ⟨gx,1,none⟩ ((.int .i64 b.f1))).setCell ⟨gx,2,none⟩ ((.int .i64 b.f2))).setCell ⟨gx,3,none⟩ ((.bool b.f3))).setCell ⟨gx,4,none⟩ ((.bool b.f4)))).heap[gx]? =some (.cells #[(.int .i64 b.f0),(.int .i64 b.f1),(.int .i64 b.f2),(.bool b.f3),(.bool b.f4)] 91 (0,0)) from blk_put (cs:=#[(.int .i64 b.f0),(.int .i64 b.f1),(.int .i64 b.f2),(.bool b.f3),(.bool false)]) (blk_put (cs:=#[(.int .i64 b.f0),(.int .i64 b.f1),(.int .i64 b.f2),(.bool false),(.bool false)]) (blk_put (cs:=#[(.int .i64 b.f0),(.int .i64 b.f1),(.int .i64 0),(.bool false),(.bool false)]) (blk_put (cs:=#[(.int .i64 b.f0),(.int .i64 0),(.int .i64 0),(.bool false),(.bool false)]) (blk_put (cs:=#[(.int .i64 0),(.int .i64 0),(.int .i64 0),(.bool false),(.bool false)]) (BX.out) 0 ((.int .i64 b.f0)) rfl) 1 ((.int .i64 b.f1)) rfl) 2 ((.int .i64 b.f2)) rfl) 3 ((.bool b.f3)) rfl) 4 ((.bool b.f4)) rfl);replace HO:=A_ (Cs.other (Cs.other (Cs.other (Cs.other (Cs.other (HO.out) G0.out NX.out 0 ((.int .i64 b.f0))) G0.out NX.out 1 ((.int .i64 b.f1))) G0.out NX.out 2 ((.int .i64 b.f2))) G0.out NX.out 3 ((.bool b.f3))) G0.out NX.out 4 ((.bool b.f4)));replace HK:=A_ (keep_other (keep_other (keep_other (keep_other (keep_other (HK.out) GX.out 0 ((.int .i64 b.f0))) GX.out 1 ((.int .i64 b.f1))) GX.out 2 ((.int .i64 b.f2))) GX.out 3 ((.bool b.f3))) GX.out 4 ((.bool b.f4)));generalize (((((wx.setCell ⟨gx,0,none⟩ ((.int .i64 b.f0))).setCell ⟨gx,1,none⟩ ((.int .i64 b.f1))).setCell ⟨gx,2,none⟩ ((.int .i64 b.f2))).setCell ⟨gx,3,none⟩ ((.bool b.f3))).setCell ⟨gx,4,none⟩ ((.bool b.f4)))=wy at*
 have x0:=(blk_cell BX.out 0).trans rfl;have x1:=(blk_cell BX.out 1).trans rfl;have x2:=(blk_cell BX.out 2).trans rfl;have x3:=(blk_cell BX.out 3).trans rfl;have x4:=(blk_cell BX.out 4).trans rfl
 have c10f:=HO.out.cell10
 go_upto_region 4 with (fail)
 go_quiet (fail)
 replace HO:=A_ (HO.out.drewN nq);replace HK:=A_ (keep_drewN HK.out nq);replace BX:=A_ (blk_drewN BX.out nq);clear x0 x1 x2 x3 x4 c10f;generalize wy.drewN nq=wq at*;have x0:=(blk_cell BX.out 0).trans rfl;have x1:=(blk_cell BX.out 1).trans rfl;have x2:=(blk_cell BX.out 2).trans rfl;have x3:=(blk_cell BX.out 3).trans rfl;have x4:=(blk_cell BX.out 4).trans rfl
 have c10f:=HO.out.cell10
 obtain⟨_,e_,sx⟩:=HO.out.stk _ x HX.out;cases e_
 clear BX x0 x1 x2 x3 x4
 go_wp2
 go_quiet (fail)
 replace HO:=A_ (HO.out.drewN nq);replace HK:=A_ (keep_drewN HK.out nq);clear c10f sx;generalize wq.drewN nq=wr at*
 have c10f:=HO.out.cell10;have f10:=HO.out.frozen 10
 go_wp2
 go_still_tail 14,(by kernel_rfl)
 change wpList _ _ _ _ _ wr.drew
 replace HO:=A_ (HO.out.drew);replace HK:=A_ (keep_drew HK.out);clear c10f f10;generalize wr.drew=wt at*
 have c10f:=HO.out.cell10;have f10:=HO.out.frozen 10
 go_upto_region 10 with (fail)
 replace HO:=A_ (HO.out.cutS (c.st.length - 1) HL.out);replace HK:=A_ (HK.out.set_ 10 (.slice (some ⟨gA,0,none⟩) (c.st.length - 1) n1));clear c10f f10;generalize wt.setCell ⟨g,10,none⟩ (.slice (some ⟨gA,0,none⟩) (c.st.length - 1) n1)=wu at*
 by_cases k1:x=want
 ·
  have b1:(x !=want)=false:=bne_eq_false_iff_eq.2 k1
  rw[if_neg (show ¬(x≠want∧x≠1∧want≠1) from(fun h=>h.1 k1))] at hr2
  by_cases k9:x=1
  ·
   rw[if_pos k9] at hr2
   simp only[Option.some.injEq,Prod.mk.injEq] at hr2
   obtain⟨rfl,rfl⟩:=hr2
   have b9:(x==1)=true:=beq_iff_eq.2 k9
   clear k9
   go_wp2
   go_ret
   exact⟨rfl,HO.out,HK.out⟩
  rw[if_neg k9] at hr2
  simp only[Option.some.injEq,Prod.mk.injEq] at hr2
  obtain⟨rfl,rfl⟩:=hr2
  have b9:(x==1)=false:=beq_eq_false_iff_ne.2 k9
  clear k9
  go_wp2
  go_ret
  exact⟨rfl,HO.out,HK.out⟩
 have b1:(x !=want)=true:=bne_iff_ne.2 k1
 by_cases k2:x=1
 ·
  have b2:(x !=1)=false:=bne_eq_false_iff_eq.2 k2
  rw[if_neg (show ¬(x≠want∧x≠1∧want≠1) from(fun h=>h.2.1 k2))] at hr2
  by_cases k9:x=1
  ·
   rw[if_pos k9] at hr2
   simp only[Option.some.injEq,Prod.mk.injEq] at hr2
   obtain⟨rfl,rfl⟩:=hr2
   have b9:(x==1)=true:=beq_iff_eq.2 k9
   clear k9
   go_wp2
   go_ret
   exact⟨rfl,HO.out,HK.out⟩
  exact absurd k2 k9
 have b2:(x !=1)=true:=bne_iff_ne.2 k2
 by_cases k3:want=1
 ·
  have b3:(want !=1)=false:=bne_eq_false_iff_eq.2 k3
  rw[if_neg (show ¬(x≠want∧x≠1∧want≠1) from(fun h=>h.2.2 k3))] at hr2
  by_cases k9:x=1
  ·
   exact absurd k9 k2
  rw[if_neg k9] at hr2
  simp only[Option.some.injEq,Prod.mk.injEq] at hr2
  obtain⟨rfl,rfl⟩:=hr2
  have b9:(x==1)=false:=beq_eq_false_iff_ne.2 k9
  clear k9
  go_wp2
  go_ret
  exact⟨rfl,HO.out,HK.out⟩
 have b3:(want !=1)=true:=bne_iff_ne.2 k3
 rw[if_pos (show x≠want∧x≠1∧want≠1 from ⟨k1,k2,k3⟩)] at hr2
 by_cases k9:x=1
 ·
  exact absurd k9 k2
 rw[if_neg k9] at hr2
 simp only[Option.some.injEq,Prod.mk.injEq] at hr2
 obtain⟨rfl,rfl⟩:=hr2
 have b9:(x==1)=false:=beq_eq_false_iff_ne.2 k9
 clear k9
 go_wp2_with (first|(go_at_call 46;refine(bad_any w0 _ g q _ 3 _ n1 _ n2 HO.out).mono ?_;rintro e w5 ⟨rfl,hO,hK⟩;replace HO:=A_ hO;replace HK:=A_ (HK.out.trans hK (.inl rfl));clear hO hK))
 go_ret
 exact⟨rfl,HO.out,HK.out⟩


/-! ### spec_l7S_close: function 45 (walked by hand) -/
def closeS (c:CS S91):Option (CS S91):=(c.sp[c.sp.length - 1]?).bind fun b=>(takeS c b.f1).bind fun r=>some (if r.1.fa=0∧(r.1.st.length:Int)≠b.f2 then r.1.fail 2 else r.1)
def spec_l7close.T0:Bool × List (List Nat × List Nat):=(true,[([],[]),([0],[0]),([1],[1]),([2],[2]),([],[]),([4],[4]),([5],[5]),([6],[6]),([7],[7]),([8],[8]),([3,9],[3,9]),([10],[10]),([],[]),([12,11,0,1,2,3,4,5,6,7,8,9,10,11,12],[11,12])])
def spec_l7close.B0:List Nat:=[0,1,3,7,0,16,48,112,240,496,1023,2047,0,8191]
theorem spec_l7close.tab0:rtab .any (opsOf Try.f45 0)=spec_l7close.T0:=by kernel_rfl
theorem spec_l7close.bits0:waitsOk spec_l7close.T0.2 spec_l7close.B0=true:=by kernel_rfl
theorem sclose_any (w0 w:World) (g:Nat) (q:Nat→Value) (c c':CS S91) (A:Option Addr) (n1:Nat) (B:Option Addr) (n2:Nat) (h:Cs w0 w g q c A n1 B n2) (hr:closeS c=some c'):
  Calls Try.prog 45 #[.pointer (some ⟨g,0,none⟩)] w fun e w'=>e=.returned (.tuple #[])∧Cs w0 w' g q c' A n1 B n2∧KeepBut w w' g none:=by
 have HO:=A_ h
 have HK:=A_ (KeepBut.refl w g none)
 have hu91:=Try.underlying91
 obtain⟨b,hb,hr1⟩:=Option.bind_eq_some_iff.1 hr
 obtain⟨⟨c1,t⟩,ht,hr2⟩:=Option.bind_eq_some_iff.1 hr1
 have hr3:=Option.some.inj hr2
 have HT:=A_ ht
 have hp:0<c.sp.length:=by have:=(List.getElem?_eq_some_iff.1 hb).1;omega
 obtain⟨gB,rfl,_,s0,s1,s2,s3,s4,_⟩:=h.span _ b hb
 have c3:=HO.out.cell11
 have hm:=h.lenP.1
 have e1:IntKind.i64.wrap ((c.sp.length:Int) - 1)=((c.sp.length - 1:Nat):Int):=by rw[show ((c.sp.length:Int) - 1)=((c.sp.length - 1:Nat):Int) by omega];exact IntWalk.i64_in _ (by omega)
 have q1:(0:Int)≤((c.sp.length - 1:Nat):Int):=by omega
 have q2:((c.sp.length - 1:Nat):Int)<(c.sp.length:Int):=by omega
 clear hr hr1 hr2 ht hb hp hm h
 by_cases k1:c1.fa=0
 ·
  have b1:(c1.fa==0)=true:=beq_iff_eq.2 k1
  by_cases k2:(c1.st.length:Int)≠b.f2
  ·
   have b2:((c1.st.length:Int) !=b.f2)=true:=bne_iff_ne.2 k2
   rw[if_pos ⟨k1,k2⟩] at hr3
   subst hr3
   clear k1 k2
   go_enter Try.func45,Try.ntmps45
   go_upto_region 0 with (fail)
   refine sS 14 (fun w'=>w'.cell? ⟨g,11,none⟩=some (.slice (some ⟨gB,0,none⟩) c.sp.length n2)∧w'.cell? ⟨gB,(c.sp.length - 1)*5,none⟩=some (.int .i64 b.f0)∧w'.cell? ⟨gB,(c.sp.length - 1)*5+1,none⟩=some (.int .i64 b.f1)∧w'.cell? ⟨gB,(c.sp.length - 1)*5+2,none⟩=some (.int .i64 b.f2)∧w'.cell? ⟨gB,(c.sp.length - 1)*5+3,none⟩=some (.bool b.f3)∧w'.cell? ⟨gB,(c.sp.length - 1)*5+4,none⟩=some (.bool b.f4)) [13] ⟨c3,s0,s1,s2,s3,s4⟩ spec_l7close.tab0 spec_l7close.bits0 (fun hHeld HT_ HW_=>?_)
   replace HO:=A_ HO.out.drew;replace HK:=A_ (keep_drew HK.out);clear c3 s0 s1 s2 s3 s4;generalize w.drew=wd at*
   refine pS HT_ 0 3 ?_
   refine pS HT_ 1 4 ?_
   refine pS HT_ 2 5 ?_
   refine pS HT_ 4 7 ?_
   refine pS HT_ 5 8 ?_
   refine pS HT_ 6 9 ?_
   refine tS HT_ HW_ 3 6 hHeld ?_
   refine tS HT_ HW_ 7 10 hHeld ?_
   refine pS HT_ 8 11 ?_
   refine pS HT_ 9 12 ?_
   refine pS HT_ 10 13 ?_
   refine tS HT_ HW_ 11 14 hHeld ?_
   refine oS HT_ 12 (some 2) (fun K hK=>?_)
   refine box_step (by rfl) (N:=2) ?hd (cs:=#[(.int .i64 0),(.int .i64 0),(.int .i64 0),(.bool false),(.bool false)]) (t:=91) ?hr ?_;(case hd=>rfl);(case hr=>first|(go_simp;done)|(go_simp;rfl))
   intro gx hg wx hbox hb
   have BX:=A_ hbox;have GX:=A_ (show w.heap.size≤gx from by rw[hg];exact HK.out.1);have NX:=A_ (HO.out.fresh_ne hg);have G0:=A_ (Nat.le_trans HO.out.2.1.size (Nat.le_of_eq hg.symm));have m0:=A_ (HO.out.below hb);have m1:=A_ (HK.out.trans (KeepBut.of_below hb g none) (.inl rfl))
   obtain⟨s0_,s1_,s2_,s3_,s4_,s5_⟩:=hHeld
   have hHeld2:=A_ (show wx.cell? ⟨g,11,none⟩=some (.slice (some ⟨gB,0,none⟩) c.sp.length n2)∧wx.cell? ⟨gB,(c.sp.length - 1)*5,none⟩=some (.int .i64 b.f0)∧wx.cell? ⟨gB,(c.sp.length - 1)*5+1,none⟩=some (.int .i64 b.f1)∧wx.cell? ⟨gB,(c.sp.length - 1)*5+2,none⟩=some (.int .i64 b.f2)∧wx.cell? ⟨gB,(c.sp.length - 1)*5+3,none⟩=some (.bool b.f3)∧wx.cell? ⟨gB,(c.sp.length - 1)*5+4,none⟩=some (.bool b.f4) from ⟨cl_ hb s0_,cl_ hb s1_,cl_ hb s2_,cl_ hb s3_,cl_ hb s4_,cl_ hb s5_⟩)
   clear HO HK hbox hb hg s0_ s1_ s2_ s3_ s4_ s5_;have HO:=m0;have HK:=m1;clear m0 m1
   have z0:=(blk_cell BX.out 0).trans rfl;have v0:=blk_frozen BX.out 0;have z1:=(blk_cell BX.out 1).trans rfl;have v1:=blk_frozen BX.out 1;have z2:=(blk_cell BX.out 2).trans rfl;have v2:=blk_frozen BX.out 2;have z3:=(blk_cell BX.out 3).trans rfl;have v3:=blk_frozen BX.out 3;have z4:=(blk_cell BX.out 4).trans rfl;have v4:=blk_frozen BX.out 4
   refine hK.out _ _ hHeld2.out (fun hHeld=>?_)
   clear hK K
   refine nS (some 2) ?_
   refine lS HT_ 13 (none) (fun K hK=>?_)
   refine skip_ (w1:=(((((wx.setCell ⟨gx,0,none⟩ ((.int .i64 b.f0))).setCell ⟨gx,1,none⟩ ((.int .i64 b.f1))).setCell ⟨gx,2,none⟩ ((.int .i64 b.f2))).setCell ⟨gx,3,none⟩ ((.bool b.f3))).setCell ⟨gx,4,none⟩ ((.bool b.f4)))) (by rfl) rfl (by first|(go_simp;done)|(go_simp;rfl)) ?_
   clear hHeld hHeld2 z0 v0 z1 v1 z2 v2 z3 v3 z4 v4
   refine hK.out _ _ ?_
   clear hK K
   refine dS HT_ ?_
   replace BX:=A_ (show((((((wx.setCell ⟨gx,0,none⟩ ((.int .i64 b.f0))).setCell ⟨gx,1,none⟩ ((.int .i64 b.f1))).setCell ⟨gx,2,none⟩ ((.int .i64 b.f2))).setCell ⟨gx,3,none⟩ ((.bool b.f3))).setCell ⟨gx,4,none⟩ ((.bool b.f4)))).heap[gx]? =some (.cells #[(.int .i64 b.f0),(.int .i64 b.f1),(.int .i64 b.f2),(.bool b.f3),(.bool b.f4)] 91 (0,0)) from blk_put (cs:=#[(.int .i64 b.f0),(.int .i64 b.f1),(.int .i64 b.f2),(.bool b.f3),(.bool false)]) (blk_put (cs:=#[(.int .i64 b.f0),(.int .i64 b.f1),(.int .i64 b.f2),(.bool false),(.bool false)]) (blk_put (cs:=#[(.int .i64 b.f0),(.int .i64 b.f1),(.int .i64 0),(.bool false),(.bool false)]) (blk_put (cs:=#[(.int .i64 b.f0),(.int .i64 0),(.int .i64 0),(.bool false),(.bool false)]) (blk_put (cs:=#[(.int .i64 0),(.int .i64 0),(.int .i64 0),(.bool false),(.bool false)]) (BX.out) 0 ((.int .i64 b.f0)) rfl) 1 ((.int .i64 b.f1)) rfl) 2 ((.int .i64 b.f2)) rfl) 3 ((.bool b.f3)) rfl) 4 ((.bool b.f4)) rfl);replace HO:=A_ (Cs.other (Cs.other (Cs.other (Cs.other (Cs.other (HO.out) G0.out NX.out 0 ((.int .i64 b.f0))) G0.out NX.out 1 ((.int .i64 b.f1))) G0.out NX.out 2 ((.int .i64 b.f2))) G0.out NX.out 3 ((.bool b.f3))) G0.out NX.out 4 ((.bool b.f4)));replace HK:=A_ (keep_other (keep_other (keep_other (keep_other (keep_other (HK.out) GX.out 0 ((.int .i64 b.f0))) GX.out 1 ((.int .i64 b.f1))) GX.out 2 ((.int .i64 b.f2))) GX.out 3 ((.bool b.f3))) GX.out 4 ((.bool b.f4)));generalize (((((wx.setCell ⟨gx,0,none⟩ ((.int .i64 b.f0))).setCell ⟨gx,1,none⟩ ((.int .i64 b.f1))).setCell ⟨gx,2,none⟩ ((.int .i64 b.f2))).setCell ⟨gx,3,none⟩ ((.bool b.f3))).setCell ⟨gx,4,none⟩ ((.bool b.f4)))=wy at*
   have x0:=(blk_cell BX.out 0).trans rfl;have x1:=(blk_cell BX.out 1).trans rfl;have x2:=(blk_cell BX.out 2).trans rfl;have x3:=(blk_cell BX.out 3).trans rfl;have x4:=(blk_cell BX.out 4).trans rfl
   go_upto_region 2 with (first|(go_at_call 43;refine(stake_any b.f1 t w0 _ g q _ c1 A n1 _ n2 HO.out HT.out).mono ?_;rintro e w5 ⟨rfl,hO,hK⟩;replace HO:=A_ hO;replace HK:=A_ (HK.out.trans hK (.inl rfl));replace BX:=A_ (KeepBut.blk hK BX.out NX.out.1 (by simp));clear x0 x1 x2 x3 x4 hO hK;have x0:=(blk_cell BX.out 0).trans rfl;have x1:=(blk_cell BX.out 1).trans rfl;have x2:=(blk_cell BX.out 2).trans rfl;have x3:=(blk_cell BX.out 3).trans rfl;have x4:=(blk_cell BX.out 4).trans rfl))
   have c10f:=HO.out.cell10;have c12f:=HO.out.cell12
   go_quiet (fail)
   replace HO:=A_ (HO.out.drewN nq);replace HK:=A_ (keep_drewN HK.out nq);replace BX:=A_ (blk_drewN BX.out nq);clear x0 x1 x2 x3 x4 c10f c12f;generalize w5.drewN nq=wq at*;have x0:=(blk_cell BX.out 0).trans rfl;have x1:=(blk_cell BX.out 1).trans rfl;have x2:=(blk_cell BX.out 2).trans rfl;have x3:=(blk_cell BX.out 3).trans rfl;have x4:=(blk_cell BX.out 4).trans rfl
   go_wp2_with (first|(go_at_call 46;refine(bad_any w0 _ g q _ 2 _ n1 _ n2 HO.out).mono ?_;rintro e w5 ⟨rfl,hO,hK⟩;replace HO:=A_ hO;replace HK:=A_ (HK.out.trans hK (.inl rfl));clear hO hK))
   first|go_end0|((try simp only[Exit.inBlock,Exit.then]);refine rt_ ?_)
   exact⟨rfl,HO.out,HK.out⟩
  have b2:((c1.st.length:Int) !=b.f2)=false:=bne_eq_false_iff_eq.2 (Classical.not_not.1 k2)
  rw[if_neg (fun e=>k2 e.2)] at hr3
  subst hr3
  clear k1 k2
  go_enter Try.func45,Try.ntmps45
  go_upto_region 0 with (fail)
  refine sS 14 (fun w'=>w'.cell? ⟨g,11,none⟩=some (.slice (some ⟨gB,0,none⟩) c.sp.length n2)∧w'.cell? ⟨gB,(c.sp.length - 1)*5,none⟩=some (.int .i64 b.f0)∧w'.cell? ⟨gB,(c.sp.length - 1)*5+1,none⟩=some (.int .i64 b.f1)∧w'.cell? ⟨gB,(c.sp.length - 1)*5+2,none⟩=some (.int .i64 b.f2)∧w'.cell? ⟨gB,(c.sp.length - 1)*5+3,none⟩=some (.bool b.f3)∧w'.cell? ⟨gB,(c.sp.length - 1)*5+4,none⟩=some (.bool b.f4)) [13] ⟨c3,s0,s1,s2,s3,s4⟩ spec_l7close.tab0 spec_l7close.bits0 (fun hHeld HT_ HW_=>?_)
  replace HO:=A_ HO.out.drew;replace HK:=A_ (keep_drew HK.out);clear c3 s0 s1 s2 s3 s4;generalize w.drew=wd at*
  refine pS HT_ 0 3 ?_
  refine pS HT_ 1 4 ?_
  refine pS HT_ 2 5 ?_
  refine pS HT_ 4 7 ?_
  refine pS HT_ 5 8 ?_
  refine pS HT_ 6 9 ?_
  refine tS HT_ HW_ 3 6 hHeld ?_
  refine tS HT_ HW_ 7 10 hHeld ?_
  refine pS HT_ 8 11 ?_
  refine pS HT_ 9 12 ?_
  refine pS HT_ 10 13 ?_
  refine tS HT_ HW_ 11 14 hHeld ?_
  refine oS HT_ 12 (some 2) (fun K hK=>?_)
  refine box_step (by rfl) (N:=2) ?hd (cs:=#[(.int .i64 0),(.int .i64 0),(.int .i64 0),(.bool false),(.bool false)]) (t:=91) ?hr ?_;(case hd=>rfl);(case hr=>first|(go_simp;done)|(go_simp;rfl))
  intro gx hg wx hbox hb
  have BX:=A_ hbox;have GX:=A_ (show w.heap.size≤gx from by rw[hg];exact HK.out.1);have NX:=A_ (HO.out.fresh_ne hg);have G0:=A_ (Nat.le_trans HO.out.2.1.size (Nat.le_of_eq hg.symm));have m0:=A_ (HO.out.below hb);have m1:=A_ (HK.out.trans (KeepBut.of_below hb g none) (.inl rfl))
  obtain⟨s0_,s1_,s2_,s3_,s4_,s5_⟩:=hHeld
  have hHeld2:=A_ (show wx.cell? ⟨g,11,none⟩=some (.slice (some ⟨gB,0,none⟩) c.sp.length n2)∧wx.cell? ⟨gB,(c.sp.length - 1)*5,none⟩=some (.int .i64 b.f0)∧wx.cell? ⟨gB,(c.sp.length - 1)*5+1,none⟩=some (.int .i64 b.f1)∧wx.cell? ⟨gB,(c.sp.length - 1)*5+2,none⟩=some (.int .i64 b.f2)∧wx.cell? ⟨gB,(c.sp.length - 1)*5+3,none⟩=some (.bool b.f3)∧wx.cell? ⟨gB,(c.sp.length - 1)*5+4,none⟩=some (.bool b.f4) from ⟨cl_ hb s0_,cl_ hb s1_,cl_ hb s2_,cl_ hb s3_,cl_ hb s4_,cl_ hb s5_⟩)
  clear HO HK hbox hb hg s0_ s1_ s2_ s3_ s4_ s5_;have HO:=m0;have HK:=m1;clear m0 m1
  have z0:=(blk_cell BX.out 0).trans rfl;have v0:=blk_frozen BX.out 0;have z1:=(blk_cell BX.out 1).trans rfl;have v1:=blk_frozen BX.out 1;have z2:=(blk_cell BX.out 2).trans rfl;have v2:=blk_frozen BX.out 2;have z3:=(blk_cell BX.out 3).trans rfl;have v3:=blk_frozen BX.out 3;have z4:=(blk_cell BX.out 4).trans rfl;have v4:=blk_frozen BX.out 4
  refine hK.out _ _ hHeld2.out (fun hHeld=>?_)
  clear hK K
  refine nS (some 2) ?_
  refine lS HT_ 13 (none) (fun K hK=>?_)
  refine skip_ (w1:=(((((wx.setCell ⟨gx,0,none⟩ ((.int .i64 b.f0))).setCell ⟨gx,1,none⟩ ((.int .i64 b.f1))).setCell ⟨gx,2,none⟩ ((.int .i64 b.f2))).setCell ⟨gx,3,none⟩ ((.bool b.f3))).setCell ⟨gx,4,none⟩ ((.bool b.f4)))) (by rfl) rfl (by first|(go_simp;done)|(go_simp;rfl)) ?_
  clear hHeld hHeld2 z0 v0 z1 v1 z2 v2 z3 v3 z4 v4
  refine hK.out _ _ ?_
  clear hK K
  refine dS HT_ ?_
  replace BX:=A_ (show((((((wx.setCell ⟨gx,0,none⟩ ((.int .i64 b.f0))).setCell ⟨gx,1,none⟩ ((.int .i64 b.f1))).setCell ⟨gx,2,none⟩ ((.int .i64 b.f2))).setCell ⟨gx,3,none⟩ ((.bool b.f3))).setCell ⟨gx,4,none⟩ ((.bool b.f4)))).heap[gx]? =some (.cells #[(.int .i64 b.f0),(.int .i64 b.f1),(.int .i64 b.f2),(.bool b.f3),(.bool b.f4)] 91 (0,0)) from blk_put (cs:=#[(.int .i64 b.f0),(.int .i64 b.f1),(.int .i64 b.f2),(.bool b.f3),(.bool false)]) (blk_put (cs:=#[(.int .i64 b.f0),(.int .i64 b.f1),(.int .i64 b.f2),(.bool false),(.bool false)]) (blk_put (cs:=#[(.int .i64 b.f0),(.int .i64 b.f1),(.int .i64 0),(.bool false),(.bool false)]) (blk_put (cs:=#[(.int .i64 b.f0),(.int .i64 0),(.int .i64 0),(.bool false),(.bool false)]) (blk_put (cs:=#[(.int .i64 0),(.int .i64 0),(.int .i64 0),(.bool false),(.bool false)]) (BX.out) 0 ((.int .i64 b.f0)) rfl) 1 ((.int .i64 b.f1)) rfl) 2 ((.int .i64 b.f2)) rfl) 3 ((.bool b.f3)) rfl) 4 ((.bool b.f4)) rfl);replace HO:=A_ (Cs.other (Cs.other (Cs.other (Cs.other (Cs.other (HO.out) G0.out NX.out 0 ((.int .i64 b.f0))) G0.out NX.out 1 ((.int .i64 b.f1))) G0.out NX.out 2 ((.int .i64 b.f2))) G0.out NX.out 3 ((.bool b.f3))) G0.out NX.out 4 ((.bool b.f4)));replace HK:=A_ (keep_other (keep_other (keep_other (keep_other (keep_other (HK.out) GX.out 0 ((.int .i64 b.f0))) GX.out 1 ((.int .i64 b.f1))) GX.out 2 ((.int .i64 b.f2))) GX.out 3 ((.bool b.f3))) GX.out 4 ((.bool b.f4)));generalize (((((wx.setCell ⟨gx,0,none⟩ ((.int .i64 b.f0))).setCell ⟨gx,1,none⟩ ((.int .i64 b.f1))).setCell ⟨gx,2,none⟩ ((.int .i64 b.f2))).setCell ⟨gx,3,none⟩ ((.bool b.f3))).setCell ⟨gx,4,none⟩ ((.bool b.f4)))=wy at*
  have x0:=(blk_cell BX.out 0).trans rfl;have x1:=(blk_cell BX.out 1).trans rfl;have x2:=(blk_cell BX.out 2).trans rfl;have x3:=(blk_cell BX.out 3).trans rfl;have x4:=(blk_cell BX.out 4).trans rfl
  go_upto_region 2 with (first|(go_at_call 43;refine(stake_any b.f1 t w0 _ g q _ c1 A n1 _ n2 HO.out HT.out).mono ?_;rintro e w5 ⟨rfl,hO,hK⟩;replace HO:=A_ hO;replace HK:=A_ (HK.out.trans hK (.inl rfl));replace BX:=A_ (KeepBut.blk hK BX.out NX.out.1 (by simp));clear x0 x1 x2 x3 x4 hO hK;have x0:=(blk_cell BX.out 0).trans rfl;have x1:=(blk_cell BX.out 1).trans rfl;have x2:=(blk_cell BX.out 2).trans rfl;have x3:=(blk_cell BX.out 3).trans rfl;have x4:=(blk_cell BX.out 4).trans rfl))
  have c10f:=HO.out.cell10;have c12f:=HO.out.cell12
  go_quiet (fail)
  replace HO:=A_ (HO.out.drewN nq);replace HK:=A_ (keep_drewN HK.out nq);replace BX:=A_ (blk_drewN BX.out nq);clear x0 x1 x2 x3 x4 c10f c12f;generalize w5.drewN nq=wq at*;have x0:=(blk_cell BX.out 0).trans rfl;have x1:=(blk_cell BX.out 1).trans rfl;have x2:=(blk_cell BX.out 2).trans rfl;have x3:=(blk_cell BX.out 3).trans rfl;have x4:=(blk_cell BX.out 4).trans rfl
  go_wp2
  first|go_end0|((try simp only[Exit.inBlock,Exit.then]);refine rt_ ?_)
  exact⟨rfl,HO.out,HK.out⟩
 have b1:(c1.fa==0)=false:=beq_eq_false_iff_ne.2 k1
 rw[if_neg (fun e=>k1 e.1)] at hr3
 subst hr3
 clear k1
 go_enter Try.func45,Try.ntmps45
 go_upto_region 0 with (fail)
 refine sS 14 (fun w'=>w'.cell? ⟨g,11,none⟩=some (.slice (some ⟨gB,0,none⟩) c.sp.length n2)∧w'.cell? ⟨gB,(c.sp.length - 1)*5,none⟩=some (.int .i64 b.f0)∧w'.cell? ⟨gB,(c.sp.length - 1)*5+1,none⟩=some (.int .i64 b.f1)∧w'.cell? ⟨gB,(c.sp.length - 1)*5+2,none⟩=some (.int .i64 b.f2)∧w'.cell? ⟨gB,(c.sp.length - 1)*5+3,none⟩=some (.bool b.f3)∧w'.cell? ⟨gB,(c.sp.length - 1)*5+4,none⟩=some (.bool b.f4)) [13] ⟨c3,s0,s1,s2,s3,s4⟩ spec_l7close.tab0 spec_l7close.bits0 (fun hHeld HT_ HW_=>?_)
 replace HO:=A_ HO.out.drew;replace HK:=A_ (keep_drew HK.out);clear c3 s0 s1 s2 s3 s4;generalize w.drew=wd at*
 refine pS HT_ 0 3 ?_
 refine pS HT_ 1 4 ?_
 refine pS HT_ 2 5 ?_
 refine pS HT_ 4 7 ?_
 refine pS HT_ 5 8 ?_
 refine pS HT_ 6 9 ?_
 refine tS HT_ HW_ 3 6 hHeld ?_
 refine tS HT_ HW_ 7 10 hHeld ?_
 refine pS HT_ 8 11 ?_
 refine pS HT_ 9 12 ?_
 refine pS HT_ 10 13 ?_
 refine tS HT_ HW_ 11 14 hHeld ?_
 refine oS HT_ 12 (some 2) (fun K hK=>?_)
 refine box_step (by rfl) (N:=2) ?hd (cs:=#[(.int .i64 0),(.int .i64 0),(.int .i64 0),(.bool false),(.bool false)]) (t:=91) ?hr ?_;(case hd=>rfl);(case hr=>first|(go_simp;done)|(go_simp;rfl))
 intro gx hg wx hbox hb
 have BX:=A_ hbox;have GX:=A_ (show w.heap.size≤gx from by rw[hg];exact HK.out.1);have NX:=A_ (HO.out.fresh_ne hg);have G0:=A_ (Nat.le_trans HO.out.2.1.size (Nat.le_of_eq hg.symm));have m0:=A_ (HO.out.below hb);have m1:=A_ (HK.out.trans (KeepBut.of_below hb g none) (.inl rfl))
 obtain⟨s0_,s1_,s2_,s3_,s4_,s5_⟩:=hHeld
 have hHeld2:=A_ (show wx.cell? ⟨g,11,none⟩=some (.slice (some ⟨gB,0,none⟩) c.sp.length n2)∧wx.cell? ⟨gB,(c.sp.length - 1)*5,none⟩=some (.int .i64 b.f0)∧wx.cell? ⟨gB,(c.sp.length - 1)*5+1,none⟩=some (.int .i64 b.f1)∧wx.cell? ⟨gB,(c.sp.length - 1)*5+2,none⟩=some (.int .i64 b.f2)∧wx.cell? ⟨gB,(c.sp.length - 1)*5+3,none⟩=some (.bool b.f3)∧wx.cell? ⟨gB,(c.sp.length - 1)*5+4,none⟩=some (.bool b.f4) from ⟨cl_ hb s0_,cl_ hb s1_,cl_ hb s2_,cl_ hb s3_,cl_ hb s4_,cl_ hb s5_⟩)
 clear HO HK hbox hb hg s0_ s1_ s2_ s3_ s4_ s5_;have HO:=m0;have HK:=m1;clear m0 m1
 have z0:=(blk_cell BX.out 0).trans rfl;have v0:=blk_frozen BX.out 0;have z1:=(blk_cell BX.out 1).trans rfl;have v1:=blk_frozen BX.out 1;have z2:=(blk_cell BX.out 2).trans rfl;have v2:=blk_frozen BX.out 2;have z3:=(blk_cell BX.out 3).trans rfl;have v3:=blk_frozen BX.out 3;have z4:=(blk_cell BX.out 4).trans rfl;have v4:=blk_frozen BX.out 4
 refine hK.out _ _ hHeld2.out (fun hHeld=>?_)
 clear hK K
 refine nS (some 2) ?_
 refine lS HT_ 13 (none) (fun K hK=>?_)
 refine skip_ (w1:=(((((wx.setCell ⟨gx,0,none⟩ ((.int .i64 b.f0))).setCell ⟨gx,1,none⟩ ((.int .i64 b.f1))).setCell ⟨gx,2,none⟩ ((.int .i64 b.f2))).setCell ⟨gx,3,none⟩ ((.bool b.f3))).setCell ⟨gx,4,none⟩ ((.bool b.f4)))) (by rfl) rfl (by first|(go_simp;done)|(go_simp;rfl)) ?_
 clear hHeld hHeld2 z0 v0 z1 v1 z2 v2 z3 v3 z4 v4
 refine hK.out _ _ ?_
 clear hK K
 refine dS HT_ ?_
 replace BX:=A_ (show((((((wx.setCell ⟨gx,0,none⟩ ((.int .i64 b.f0))).setCell ⟨gx,1,none⟩ ((.int .i64 b.f1))).setCell ⟨gx,2,none⟩ ((.int .i64 b.f2))).setCell ⟨gx,3,none⟩ ((.bool b.f3))).setCell ⟨gx,4,none⟩ ((.bool b.f4)))).heap[gx]? =some (.cells #[(.int .i64 b.f0),(.int .i64 b.f1),(.int .i64 b.f2),(.bool b.f3),(.bool b.f4)] 91 (0,0)) from blk_put (cs:=#[(.int .i64 b.f0),(.int .i64 b.f1),(.int .i64 b.f2),(.bool b.f3),(.bool false)]) (blk_put (cs:=#[(.int .i64 b.f0),(.int .i64 b.f1),(.int .i64 b.f2),(.bool false),(.bool false)]) (blk_put (cs:=#[(.int .i64 b.f0),(.int .i64 b.f1),(.int .i64 0),(.bool false),(.bool false)]) (blk_put (cs:=#[(.int .i64 b.f0),(.int .i64 0),(.int .i64 0),(.bool false),(.bool false)]) (blk_put (cs:=#[(.int .i64 0),(.int .i64 0),(.int .i64 0),(.bool false),(.bool false)]) (BX.out) 0 ((.int .i64 b.f0)) rfl) 1 ((.int .i64 b.f1)) rfl) 2 ((.int .i64 b.f2)) rfl) 3 ((.bool b.f3)) rfl) 4 ((.bool b.f4)) rfl);replace HO:=A_ (Cs.other (Cs.other (Cs.other (Cs.other (Cs.other (HO.out) G0.out NX.out 0 ((.int .i64 b.f0))) G0.out NX.out 1 ((.int .i64 b.f1))) G0.out NX.out 2 ((.int .i64 b.f2))) G0.out NX.out 3 ((.bool b.f3))) G0.out NX.out 4 ((.bool b.f4)));replace HK:=A_ (keep_other (keep_other (keep_other (keep_other (keep_other (HK.out) GX.out 0 ((.int .i64 b.f0))) GX.out 1 ((.int .i64 b.f1))) GX.out 2 ((.int .i64 b.f2))) GX.out 3 ((.bool b.f3))) GX.out 4 ((.bool b.f4)));generalize (((((wx.setCell ⟨gx,0,none⟩ ((.int .i64 b.f0))).setCell ⟨gx,1,none⟩ ((.int .i64 b.f1))).setCell ⟨gx,2,none⟩ ((.int .i64 b.f2))).setCell ⟨gx,3,none⟩ ((.bool b.f3))).setCell ⟨gx,4,none⟩ ((.bool b.f4)))=wy at*
 have x0:=(blk_cell BX.out 0).trans rfl;have x1:=(blk_cell BX.out 1).trans rfl;have x2:=(blk_cell BX.out 2).trans rfl;have x3:=(blk_cell BX.out 3).trans rfl;have x4:=(blk_cell BX.out 4).trans rfl
 go_upto_region 2 with (first|(go_at_call 43;refine(stake_any b.f1 t w0 _ g q _ c1 A n1 _ n2 HO.out HT.out).mono ?_;rintro e w5 ⟨rfl,hO,hK⟩;replace HO:=A_ hO;replace HK:=A_ (HK.out.trans hK (.inl rfl));replace BX:=A_ (KeepBut.blk hK BX.out NX.out.1 (by simp));clear x0 x1 x2 x3 x4 hO hK;have x0:=(blk_cell BX.out 0).trans rfl;have x1:=(blk_cell BX.out 1).trans rfl;have x2:=(blk_cell BX.out 2).trans rfl;have x3:=(blk_cell BX.out 3).trans rfl;have x4:=(blk_cell BX.out 4).trans rfl))
 have c10f:=HO.out.cell10;have c12f:=HO.out.cell12
 go_quiet (fail)
 replace HO:=A_ (HO.out.drewN nq);replace HK:=A_ (keep_drewN HK.out nq);replace BX:=A_ (blk_drewN BX.out nq);clear x0 x1 x2 x3 x4 c10f c12f;generalize w5.drewN nq=wq at*;have x0:=(blk_cell BX.out 0).trans rfl;have x1:=(blk_cell BX.out 1).trans rfl;have x2:=(blk_cell BX.out 2).trans rfl;have x3:=(blk_cell BX.out 3).trans rfl;have x4:=(blk_cell BX.out 4).trans rfl
 go_wp2
 first|go_end0|((try simp only[Exit.inBlock,Exit.then]);refine rt_ ?_)
 exact⟨rfl,HO.out,HK.out⟩


/-! ### spec_l7S_wants: function 47 (walked by hand) -/
def wantsS (c:CS S91) (a:Int):Option (CS S91 × Int):=if (c.sp.length:Int)≤a then some (c.fail 4,64) else if 0≤a then (c.sp[c.sp.length - 1 - a.toNat]?).bind fun b=>some (c,if b.f0=3 then 64 else b.f1) else none
def spec_l7wants.T4:Bool × List (List Nat × List Nat):=(true,[([],[]),([0],[0]),([1],[1]),([2],[2]),([],[]),([4],[4]),([5],[5]),([6],[6]),([7],[7]),([8],[8]),([],[]),([9,10],[9,10]),([3,11],[3,11]),([12],[12]),([],[]),([14,13,0,1,2,3,4,5,6,7,8,9,10,11,12,13,14],[13,14])])
def spec_l7wants.B4:List Nat:=[0,1,3,7,0,16,48,112,240,496,0,2032,4095,8191,0,32767]
theorem spec_l7wants.tab4:rtab .any (opsOf Try.f47 4)=spec_l7wants.T4:=by kernel_rfl
theorem spec_l7wants.bits4:waitsOk spec_l7wants.T4.2 spec_l7wants.B4=true:=by kernel_rfl
theorem swants_any (a t:Int) (w0 w:World) (g:Nat) (q:Nat→Value) (c c':CS S91) (A:Option Addr) (n1:Nat) (B:Option Addr) (n2:Nat) (h:Cs w0 w g q c A n1 B n2) (hr:wantsS c a=some (c',t)):
  Calls Try.prog 47 #[.pointer (some ⟨g,0,none⟩),.int .i64 a] w fun e w'=>e=.returned (.int .i64 t)∧Cs w0 w' g q c' A n1 B n2∧KeepBut w w' g none:=by
 have HO:=A_ h
 have HK:=A_ (KeepBut.refl w g none)
 have c3:=h.cell11
 have hu91:=Try.underlying91
 unfold wantsS at hr
 by_cases cl:(c.sp.length:Int)≤a
 ·
  rw[if_pos cl] at hr
  simp only[Option.some.injEq,Prod.mk.injEq] at hr
  obtain⟨rfl,rfl⟩:=hr
  have cb:=decide_eq_true cl
  clear cl h
  go_enter Try.func47,Try.ntmps47
  go_wp2_with (first|(go_at_call 46;refine(bad_any w0 _ g q _ 4 A n1 B n2 HO.out).mono ?_;rintro e w5 ⟨rfl,hO,hK⟩;replace HO:=A_ hO;replace HK:=A_ (HK.out.trans hK (.inl rfl));clear hO hK))
  go_ret
  exact⟨rfl,HO.out,HK.out⟩
 rw[if_neg cl] at hr
 by_cases ca:0≤a
 ·
  rw[if_pos ca] at hr
  obtain⟨b,hb,hr1⟩:=Option.bind_eq_some_iff.1 hr
  simp only[Option.some.injEq,Prod.mk.injEq] at hr1
  obtain⟨rfl,ht⟩:=hr1
  have HT:=A_ ht
  have cb:=decide_eq_false cl
  obtain⟨an,rfl⟩:=Int.eq_ofNat_of_zero_le ca
  rw[Int.toNat_natCast] at hb
  have cbn:decide (c.sp.length≤an)=false:=decide_eq_false (by omega)
  have hm:=h.lenP.1
  obtain⟨gB,rfl,_,s0,s1,s2,s3,s4,sf⟩:=h.span _ b hb
  have e1:IntKind.i64.wrap ((c.sp.length:Int) - 1)=((c.sp.length - 1:Nat):Int):=by rw[show ((c.sp.length:Int) - 1)=((c.sp.length - 1:Nat):Int) by omega];exact IntWalk.i64_in _ (by omega)
  have e2:IntKind.i64.wrap (((c.sp.length - 1:Nat):Int) - (an:Int))=((c.sp.length - 1 - an:Nat):Int):=by rw[show (((c.sp.length - 1:Nat):Int) - (an:Int))=((c.sp.length - 1 - an:Nat):Int) by omega];exact IntWalk.i64_in _ (by omega)
  have q1:(0:Int)≤((c.sp.length - 1 - an:Nat):Int):=by omega
  have q2:((c.sp.length - 1 - an:Nat):Int)<(c.sp.length:Int):=by omega
  clear cl ca hr h hb hm ht
  go_enter Try.func47,Try.ntmps47
  go_upto_region 4 with (fail)
  refine sS 16 (fun w'=>w'.cell? ⟨g,11,none⟩=some (.slice (some ⟨gB,0,none⟩) c.sp.length n2)∧w'.cell? ⟨gB,(c.sp.length - 1 - an)*5,none⟩=some (.int .i64 b.f0)∧w'.cell? ⟨gB,(c.sp.length - 1 - an)*5+1,none⟩=some (.int .i64 b.f1)∧w'.cell? ⟨gB,(c.sp.length - 1 - an)*5+2,none⟩=some (.int .i64 b.f2)∧w'.cell? ⟨gB,(c.sp.length - 1 - an)*5+3,none⟩=some (.bool b.f3)∧w'.cell? ⟨gB,(c.sp.length - 1 - an)*5+4,none⟩=some (.bool b.f4)) [15] ⟨c3,s0,s1,s2,s3,s4⟩ spec_l7wants.tab4 spec_l7wants.bits4 (fun hHeld HT_ HW_=>?_)
  replace HO:=A_ HO.out.drew;replace HK:=A_ (keep_drew HK.out);clear c3 s0 s1 s2 s3 s4;generalize w.drew=wd at*
  refine pS HT_ 0 15 ?_
  refine pS HT_ 1 16 ?_
  refine pS HT_ 2 17 ?_
  refine pS HT_ 4 19 ?_
  refine pS HT_ 5 20 ?_
  refine pS HT_ 6 21 ?_
  refine pS HT_ 10 25 ?_
  refine tS HT_ HW_ 3 18 hHeld ?_
  refine tS HT_ HW_ 7 22 hHeld ?_
  refine pS HT_ 8 23 ?_
  refine pS HT_ 9 24 ?_
  refine pS HT_ 11 26 ?_
  refine pS HT_ 12 27 ?_
  refine tS HT_ HW_ 13 28 hHeld ?_
  refine oS HT_ 14 (some 5) (fun K hK=>?_)
  refine box_step (by rfl) (N:=5) ?hd (cs:=#[(.int .i64 0),(.int .i64 0),(.int .i64 0),(.bool false),(.bool false)]) (t:=91) ?hr ?_;(case hd=>rfl);(case hr=>first|(go_simp;done)|(go_simp;rfl))
  intro gx hg wx hbox hb
  have BX:=A_ hbox;have GX:=A_ (show w.heap.size≤gx from by rw[hg];exact HK.out.1);have NX:=A_ (HO.out.fresh_ne hg);have G0:=A_ (Nat.le_trans HO.out.2.1.size (Nat.le_of_eq hg.symm));have m0:=A_ (HO.out.below hb);have m1:=A_ (HK.out.trans (KeepBut.of_below hb g none) (.inl rfl))
  obtain⟨s0_,s1_,s2_,s3_,s4_,s5_⟩:=hHeld
  have hHeld2:=A_ (show wx.cell? ⟨g,11,none⟩=some (.slice (some ⟨gB,0,none⟩) c.sp.length n2)∧wx.cell? ⟨gB,(c.sp.length - 1 - an)*5,none⟩=some (.int .i64 b.f0)∧wx.cell? ⟨gB,(c.sp.length - 1 - an)*5+1,none⟩=some (.int .i64 b.f1)∧wx.cell? ⟨gB,(c.sp.length - 1 - an)*5+2,none⟩=some (.int .i64 b.f2)∧wx.cell? ⟨gB,(c.sp.length - 1 - an)*5+3,none⟩=some (.bool b.f3)∧wx.cell? ⟨gB,(c.sp.length - 1 - an)*5+4,none⟩=some (.bool b.f4) from ⟨cl_ hb s0_,cl_ hb s1_,cl_ hb s2_,cl_ hb s3_,cl_ hb s4_,cl_ hb s5_⟩)
  clear HO HK hbox hb hg s0_ s1_ s2_ s3_ s4_ s5_;have HO:=m0;have HK:=m1;clear m0 m1
  have z0:=(blk_cell BX.out 0).trans rfl;have v0:=blk_frozen BX.out 0;have z1:=(blk_cell BX.out 1).trans rfl;have v1:=blk_frozen BX.out 1;have z2:=(blk_cell BX.out 2).trans rfl;have v2:=blk_frozen BX.out 2;have z3:=(blk_cell BX.out 3).trans rfl;have v3:=blk_frozen BX.out 3;have z4:=(blk_cell BX.out 4).trans rfl;have v4:=blk_frozen BX.out 4
  refine hK.out _ _ hHeld2.out (fun hHeld=>?_)
  clear hK K
  refine nS (some 5) ?_
  refine lS HT_ 15 (none) (fun K hK=>?_)
  refine skip_ (w1:=(((((wx.setCell ⟨gx,0,none⟩ ((.int .i64 b.f0))).setCell ⟨gx,1,none⟩ ((.int .i64 b.f1))).setCell ⟨gx,2,none⟩ ((.int .i64 b.f2))).setCell ⟨gx,3,none⟩ ((.bool b.f3))).setCell ⟨gx,4,none⟩ ((.bool b.f4)))) (by rfl) rfl (by first|(go_simp;done)|(go_simp;rfl)) ?_
  clear hHeld hHeld2 z0 v0 z1 v1 z2 v2 z3 v3 z4 v4
  refine hK.out _ _ ?_
  clear hK K
  refine dS HT_ ?_
  replace BX:=A_ (show((((((wx.setCell ⟨gx,0,none⟩ ((.int .i64 b.f0))).setCell ⟨gx,1,none⟩ ((.int .i64 b.f1))).setCell ⟨gx,2,none⟩ ((.int .i64 b.f2))).setCell ⟨gx,3,none⟩ ((.bool b.f3))).setCell ⟨gx,4,none⟩ ((.bool b.f4)))).heap[gx]? =some (.cells #[(.int .i64 b.f0),(.int .i64 b.f1),(.int .i64 b.f2),(.bool b.f3),(.bool b.f4)] 91 (0,0)) from blk_put (cs:=#[(.int .i64 b.f0),(.int .i64 b.f1),(.int .i64 b.f2),(.bool b.f3),(.bool false)]) (blk_put (cs:=#[(.int .i64 b.f0),(.int .i64 b.f1),(.int .i64 b.f2),(.bool false),(.bool false)]) (blk_put (cs:=#[(.int .i64 b.f0),(.int .i64 b.f1),(.int .i64 0),(.bool false),(.bool false)]) (blk_put (cs:=#[(.int .i64 b.f0),(.int .i64 0),(.int .i64 0),(.bool false),(.bool false)]) (blk_put (cs:=#[(.int .i64 0),(.int .i64 0),(.int .i64 0),(.bool false),(.bool false)]) (BX.out) 0 ((.int .i64 b.f0)) rfl) 1 ((.int .i64 b.f1)) rfl) 2 ((.int .i64 b.f2)) rfl) 3 ((.bool b.f3)) rfl) 4 ((.bool b.f4)) rfl);replace HO:=A_ (Cs.other (Cs.other (Cs.other (Cs.other (Cs.other (HO.out) G0.out NX.out 0 ((.int .i64 b.f0))) G0.out NX.out 1 ((.int .i64 b.f1))) G0.out NX.out 2 ((.int .i64 b.f2))) G0.out NX.out 3 ((.bool b.f3))) G0.out NX.out 4 ((.bool b.f4)));replace HK:=A_ (keep_other (keep_other (keep_other (keep_other (keep_other (HK.out) GX.out 0 ((.int .i64 b.f0))) GX.out 1 ((.int .i64 b.f1))) GX.out 2 ((.int .i64 b.f2))) GX.out 3 ((.bool b.f3))) GX.out 4 ((.bool b.f4)));generalize (((((wx.setCell ⟨gx,0,none⟩ ((.int .i64 b.f0))).setCell ⟨gx,1,none⟩ ((.int .i64 b.f1))).setCell ⟨gx,2,none⟩ ((.int .i64 b.f2))).setCell ⟨gx,3,none⟩ ((.bool b.f3))).setCell ⟨gx,4,none⟩ ((.bool b.f4)))=wy at*
  have x0:=(blk_cell BX.out 0).trans rfl;have x1:=(blk_cell BX.out 1).trans rfl;have x2:=(blk_cell BX.out 2).trans rfl;have x3:=(blk_cell BX.out 3).trans rfl;have x4:=(blk_cell BX.out 4).trans rfl
  by_cases c3b:b.f0=3
  ·
   have ee:=HT.out.symm.trans (if_pos c3b)
   have cb2:(b.f0==3)=true:=beq_iff_eq.2 c3b
   clear c3b HT
   go_wp2
   go_ret
   exact⟨by rw[ee];rfl,HO.out,HK.out⟩
  have ee:=HT.out.symm.trans (if_neg c3b)
  have cb2:(b.f0==3)=false:=beq_eq_false_iff_ne.2 c3b
  have EE:=A_ ee
  clear c3b HT ee
  go_wp2
  go_ret
  exact⟨by rw[EE.out];rfl,HO.out,HK.out⟩
 rw[if_neg ca] at hr;cases hr


/-! ### spec_l7S_memory: function 64 (walked by hand) -/
def turnS (c:CS S91) (a b:Int):Option (CS S91):=(takeS c a).bind fun r=>r.1.put b
theorem turn_any (a b:Int) (w0 w:World) (g:Nat) (q:Nat→Value) (c c':CS S91) (A:Option Addr) (n1:Nat) (B:Option Addr) (n2:Nat) (h:Cs w0 w g q c A n1 B n2) (hr:turnS c a b=some c'):
  Calls Try.prog 65 #[.pointer (some ⟨g,0,none⟩),.int .i64 a,.int .i64 b] w fun e w'=>e=.returned (.tuple #[])∧CsE w0 w' g q c':=by
 have HO:=A_ h
 have HK:=A_ (KeepBut.refl w g none)
 obtain⟨⟨c1,t⟩,h1,h2⟩:=Option.bind_eq_some_iff.1 hr
 have HT:=A_ h1;have HR:=A_ h2
 clear h hr h1 h2
 go_enter Try.func65,Try.ntmps65
 go_wp2_with (first|(go_at_call 43;refine(stake_any a t w0 _ g q _ c1 A n1 _ n2 HO.out HT.out).mono ?_;rintro e w5 ⟨rfl,hO,hK⟩;replace HO:=A_ hO;replace HK:=A_ (HK.out.trans hK (.inl rfl));clear hO hK)|(go_at_call 44;refine(sput_any b w0 _ g q _ c' A n1 _ n2 HO.out HR.out).mono ?_;rintro e w5 ⟨rfl,hE⟩;have HE:=A_ hE;clear hE))
 first|go_end0|((try simp only[Exit.inBlock,Exit.then]);refine rt_ ?_)
 exact⟨rfl,HE.out⟩
def memS (c:CS S91) (mem:Bool) (op:Int):Option (CS S91):=
 if mem=false then some (c.fail 6) else if op=40 then turnS c 127 127 else if op=41 then turnS c 127 126
 else if op=54 then (takeS c 127).bind fun r=>(takeS r.1 127).bind fun s=>some s.1
 else if op=55 then (takeS c 126).bind fun r=>(takeS r.1 127).bind fun s=>some s.1
 else if op=63 then c.put 127 else turnS c 127 127
theorem smem_any (mem:Bool) (op:Int) (w0 w:World) (g:Nat) (q:Nat→Value) (c c':CS S91) (A:Option Addr) (n1:Nat) (B:Option Addr) (n2:Nat) (h:Cs w0 w g q c A n1 B n2) (hm2:q 2=.bool mem) (hr:memS c mem op=some c'):
  Calls Try.prog 64 #[.pointer (some ⟨g,0,none⟩),.int .i64 op] w fun e w'=>e=.returned (.tuple #[])∧CsE w0 w' g q c':=by
 have HO:=A_ h
 have HK:=A_ (KeepBut.refl w g none)
 have c2f:=HO.out.cell2
 rw[hm2] at c2f
 clear h hm2
 unfold memS at hr
 cases mem with
 |false=>
  rw[if_pos rfl] at hr
  obtain rfl:=Option.some.inj hr
  go_enter Try.func64,Try.ntmps64
  go_wp2_with (first|(go_at_call 46;refine(bad_any w0 _ g q _ 6 A n1 _ n2 HO.out).mono ?_;rintro e w5 ⟨rfl,hO,hK⟩;replace HO:=A_ hO;replace HK:=A_ (HK.out.trans hK (.inl rfl));clear hO hK))
  first|go_end0|((try simp only[Exit.inBlock,Exit.then]);refine rt_ ?_)
  exact⟨rfl,_,_,_,_,HO.out⟩
 |true=>
  rw[if_neg (show ¬(true=false) from fun e=>by cases e)] at hr
  by_cases k40:op=40
  ·
   rw[if_pos k40] at hr
   have b40:(op==40)=true:=beq_iff_eq.2 k40
   have HR:=A_ hr
   clear hr
   go_enter Try.func64,Try.ntmps64
   go_wp2_with (first|(go_at_call 65;refine(turn_any 127 127 w0 _ g q _ c' A n1 _ n2 HO.out HR.out).mono ?_;rintro e w5 ⟨rfl,hE⟩;have HE:=A_ hE;clear hE))
   first|go_end0|((try simp only[Exit.inBlock,Exit.then]);refine rt_ ?_)
   exact⟨rfl,HE.out⟩
  rw[if_neg k40] at hr
  by_cases k41:op=41
  ·
   rw[if_pos k41] at hr
   have b40:(op==40)=false:=beq_eq_false_iff_ne.2 k40
   have b41:(op==41)=true:=beq_iff_eq.2 k41
   have HR:=A_ hr
   clear hr
   go_enter Try.func64,Try.ntmps64
   go_wp2_with (first|(go_at_call 65;refine(turn_any 127 126 w0 _ g q _ c' A n1 _ n2 HO.out HR.out).mono ?_;rintro e w5 ⟨rfl,hE⟩;have HE:=A_ hE;clear hE))
   first|go_end0|((try simp only[Exit.inBlock,Exit.then]);refine rt_ ?_)
   exact⟨rfl,HE.out⟩
  rw[if_neg k41] at hr
  by_cases k54:op=54
  ·
   rw[if_pos k54] at hr
   have b40:(op==40)=false:=beq_eq_false_iff_ne.2 k40
   have b41:(op==41)=false:=beq_eq_false_iff_ne.2 k41
   have b54:(op==54)=true:=beq_iff_eq.2 k54
   obtain⟨⟨c1,t⟩,h1,hr1⟩:=Option.bind_eq_some_iff.1 hr
   obtain⟨⟨c2,u⟩,h2,hr2⟩:=Option.bind_eq_some_iff.1 hr1
   obtain rfl:=Option.some.inj hr2
   have HT:=A_ h1;have HU:=A_ h2
   clear h1 h2 hr1 hr2 hr
   go_enter Try.func64,Try.ntmps64
   go_upto_region 10 with (first|(go_at_call 43;refine(stake_any 127 t w0 _ g q _ c1 A n1 _ n2 HO.out HT.out).mono ?_;rintro e w5 ⟨rfl,hO,hK⟩;replace HO:=A_ hO;replace HK:=A_ (HK.out.trans hK (.inl rfl));clear hO hK))
   go_wp2_with (first|(go_at_call 43;refine(stake_any 127 u w0 _ g q _ c2 A n1 _ n2 HO.out HU.out).mono ?_;rintro e w5 ⟨rfl,hO,hK⟩;replace HO:=A_ hO;replace HK:=A_ (HK.out.trans hK (.inl rfl));clear hO hK))
   first|go_end0|((try simp only[Exit.inBlock,Exit.then]);refine rt_ ?_)
   exact⟨rfl,_,_,_,_,HO.out⟩
  rw[if_neg k54] at hr
  by_cases k55:op=55
  ·
   rw[if_pos k55] at hr
   have b40:(op==40)=false:=beq_eq_false_iff_ne.2 k40
   have b41:(op==41)=false:=beq_eq_false_iff_ne.2 k41
   have b54:(op==54)=false:=beq_eq_false_iff_ne.2 k54
   have b55:(op==55)=true:=beq_iff_eq.2 k55
   obtain⟨⟨c1,t⟩,h1,hr1⟩:=Option.bind_eq_some_iff.1 hr
   obtain⟨⟨c2,u⟩,h2,hr2⟩:=Option.bind_eq_some_iff.1 hr1
   obtain rfl:=Option.some.inj hr2
   have HT:=A_ h1;have HU:=A_ h2
   clear h1 h2 hr1 hr2 hr
   go_enter Try.func64,Try.ntmps64
   go_upto_region 13 with (first|(go_at_call 43;refine(stake_any 126 t w0 _ g q _ c1 A n1 _ n2 HO.out HT.out).mono ?_;rintro e w5 ⟨rfl,hO,hK⟩;replace HO:=A_ hO;replace HK:=A_ (HK.out.trans hK (.inl rfl));clear hO hK))
   go_wp2_with (first|(go_at_call 43;refine(stake_any 127 u w0 _ g q _ c2 A n1 _ n2 HO.out HU.out).mono ?_;rintro e w5 ⟨rfl,hO,hK⟩;replace HO:=A_ hO;replace HK:=A_ (HK.out.trans hK (.inl rfl));clear hO hK))
   first|go_end0|((try simp only[Exit.inBlock,Exit.then]);refine rt_ ?_)
   exact⟨rfl,_,_,_,_,HO.out⟩
  rw[if_neg k55] at hr
  by_cases k63:op=63
  ·
   rw[if_pos k63] at hr
   have b40:(op==40)=false:=beq_eq_false_iff_ne.2 k40
   have b41:(op==41)=false:=beq_eq_false_iff_ne.2 k41
   have b54:(op==54)=false:=beq_eq_false_iff_ne.2 k54
   have b55:(op==55)=false:=beq_eq_false_iff_ne.2 k55
   have b63:(op==63)=true:=beq_iff_eq.2 k63
   have HR:=A_ hr
   clear hr
   go_enter Try.func64,Try.ntmps64
   go_wp2_with (first|(go_at_call 44;refine(sput_any 127 w0 _ g q _ c' A n1 _ n2 HO.out HR.out).mono ?_;rintro e w5 ⟨rfl,hE⟩;have HE:=A_ hE;clear hE))
   first|go_end0|((try simp only[Exit.inBlock,Exit.then]);refine rt_ ?_)
   exact⟨rfl,HE.out⟩
  rw[if_neg k63] at hr
  have b40:(op==40)=false:=beq_eq_false_iff_ne.2 k40
  have b41:(op==41)=false:=beq_eq_false_iff_ne.2 k41
  have b54:(op==54)=false:=beq_eq_false_iff_ne.2 k54
  have b55:(op==55)=false:=beq_eq_false_iff_ne.2 k55
  have b63:(op==63)=false:=beq_eq_false_iff_ne.2 k63
  have HR:=A_ hr
  clear hr
  go_enter Try.func64,Try.ntmps64
  go_wp2_with (first|(go_at_call 65;refine(turn_any 127 127 w0 _ g q _ c' A n1 _ n2 HO.out HR.out).mono ?_;rintro e w5 ⟨rfl,hE⟩;have HE:=A_ hE;clear hE))
  first|go_end0|((try simp only[Exit.inBlock,Exit.then]);refine rt_ ?_)
  exact⟨rfl,HE.out⟩


/-! ### spec_l7S_number: function 66 (walked by hand) -/
def numS (c:CS S91) (op:Int):Option (CS S91):=
 if 0≤op∧op≤1000 then
  if op > 160 then (takeS c 125).bind fun r=>(if op - 160=6 then some r.1 else (takeS r.1 125).bind fun s=>some s.1).bind fun c2=>c2.put (if op - 160 > 6 then 127 else 125)
  else (takeS c (if op > 128 then 126 else 127)).bind fun r=>(if (if op > 128 then op - 128 else op - 96)≤21 then (takeS r.1 (if op > 128 then 126 else 127)).bind fun s=>some s.1 else some r.1).bind fun c2=>
   c2.put (if (16≤(if op > 128 then op - 128 else op - 96)∧(if op > 128 then op - 128 else op - 96)≤21)∨(if op > 128 then op - 128 else op - 96)=25 then 127 else (if op > 128 then 126 else 127))
 else none
theorem snum_f (op:Int) (one:Bool) (out:Int) (w0 w:World) (g:Nat) (q:Nat→Value) (c c':CS S91) (A:Option Addr) (n1:Nat) (B:Option Addr) (n2:Nat) (h:Cs w0 w g q c A n1 B n2) (ho:160<op∧op≤1000) (hone:one=(op - 160==6)) (hout:out=if op - 160 > 6 then 127 else 125) (c1 c2:CS S91) (t u:Int) (h1:takeS c 125=some (c1,t)) (h2:if one=true then c2=c1 else takeS c1 125=some (c2,u)) (hr:c2.put out=some c'):
  Calls Try.prog 66 #[.pointer (some ⟨g,0,none⟩),.int .i64 op] w fun e w'=>e=.returned (.tuple #[])∧CsE w0 w' g q c':=by
 have HO:=A_ h
 have HK:=A_ (KeepBut.refl w g none)
 have HT:=A_ h1;have HR:=A_ hr
 have b0:decide ((160:Int)<op)=true:=decide_eq_true ho.1
 have e1:IntKind.i64.wrap (op - 160)=op - 160:=ck_w _ (by omega)
 clear h hr h1
 obtain⟨kk,hkk⟩:∃ kk,op - 160=kk:=⟨_,rfl⟩
 rw[hkk] at hone hout e1
 clear ho
 have HKV:=A_ hkk
 cases one with
 |true=>
  rw[if_pos rfl] at h2
  subst h2
  have k6:kk=6:=by simpa using hone.symm
  subst k6
  obtain rfl:out=125:=by rw[hout];rfl
  clear hone hout HKV
  go_enter Try.func66,Try.ntmps66
  go_wp2_with (first|(go_at_call 43;refine(stake_any 125 t w0 _ g q _ c2 A n1 _ n2 HO.out HT.out).mono ?_;rintro e w5 ⟨rfl,hO,hK⟩;replace HO:=A_ hO;replace HK:=A_ (HK.out.trans hK (.inl rfl));clear hO hK)|(go_at_call 44;refine(sput_any 125 w0 _ g q _ c' A n1 _ n2 HO.out HR.out).mono ?_;rintro e w5 ⟨rfl,hE⟩;have HE:=A_ hE;clear hE))
  first|go_end0|((try simp only[Exit.inBlock,Exit.then]);refine rt_ ?_)
  exact⟨rfl,HE.out⟩
 |false=>
  rw[if_neg (fun e=>by cases e)] at h2
  have HU:=A_ h2
  have k6:(kk !=6)=true:=by rw[bne,←hone];rfl
  clear h2 hone
  by_cases k7:kk > 6
  ·
   rw[if_pos k7] at hout
   subst hout
   have b7:=decide_eq_true k7
   clear k7 HKV
   go_enter Try.func66,Try.ntmps66
   go_upto_region 3 with (first|(go_at_call 43;refine(stake_any 125 t w0 _ g q _ c1 A n1 _ n2 HO.out HT.out).mono ?_;rintro e w5 ⟨rfl,hO,hK⟩;replace HO:=A_ hO;replace HK:=A_ (HK.out.trans hK (.inl rfl));clear hO hK))
   go_wp2_with (first|(go_at_call 43;refine(stake_any 125 u w0 _ g q _ c2 A n1 _ n2 HO.out HU.out).mono ?_;rintro e w5 ⟨rfl,hO,hK⟩;replace HO:=A_ hO;replace HK:=A_ (HK.out.trans hK (.inl rfl));clear hO hK)|(go_at_call 44;refine(sput_any 127 w0 _ g q _ c' A n1 _ n2 HO.out HR.out).mono ?_;rintro e w5 ⟨rfl,hE⟩;have HE:=A_ hE;clear hE))
   first|go_end0|((try simp only[Exit.inBlock,Exit.then]);refine rt_ ?_)
   exact⟨rfl,HE.out⟩
  rw[if_neg k7] at hout
  subst hout
  have b7:=decide_eq_false k7
  clear k7 HKV
  go_enter Try.func66,Try.ntmps66
  go_upto_region 3 with (first|(go_at_call 43;refine(stake_any 125 t w0 _ g q _ c1 A n1 _ n2 HO.out HT.out).mono ?_;rintro e w5 ⟨rfl,hO,hK⟩;replace HO:=A_ hO;replace HK:=A_ (HK.out.trans hK (.inl rfl));clear hO hK))
  go_wp2_with (first|(go_at_call 43;refine(stake_any 125 u w0 _ g q _ c2 A n1 _ n2 HO.out HU.out).mono ?_;rintro e w5 ⟨rfl,hO,hK⟩;replace HO:=A_ hO;replace HK:=A_ (HK.out.trans hK (.inl rfl));clear hO hK)|(go_at_call 44;refine(sput_any 125 w0 _ g q _ c' A n1 _ n2 HO.out HR.out).mono ?_;rintro e w5 ⟨rfl,hE⟩;have HE:=A_ hE;clear hE))
  first|go_end0|((try simp only[Exit.inBlock,Exit.then]);refine rt_ ?_)
  exact⟨rfl,HE.out⟩

section
variable (op kk:Int) (w0 w:World) (g:Nat) (q:Nat→Value) (c c':CS S91) (A:Option Addr) (n1:Nat) (B:Option Addr) (n2:Nat)
theorem snum_b_lo (h:Cs w0 w g q c A n1 B n2) (ho:128<op∧op≤160) (hkk:op - 128=kk) (hc:kk<16) (c1 c2:CS S91) (t u:Int) (h1:takeS c 126=some (c1,t)) (h2:takeS c1 126=some (c2,u)) (hr:CS.put c2 126=some c'):
  Calls Try.prog 66 #[.pointer (some ⟨g,0,none⟩),.int .i64 op] w fun e w'=>e=.returned (.tuple #[])∧CsE w0 w' g q c':=by
 have HO:=A_ h
 have HK:=A_ (KeepBut.refl w g none)
 have HT:=A_ h1;have HR:=A_ hr
 have HU:=A_ h2
 clear h2
 have b0:decide ((160:Int)<op)=false:=decide_eq_false (by omega)
 have b1:decide ((128:Int)<op)=true:=decide_eq_true (by omega)
 have e96:IntKind.i64.wrap (op - 96)=op - 96:=ck_w _ (by omega)
 have e128:IntKind.i64.wrap (op - 128)=op - 128:=ck_w _ (by omega)
 have HIN:Aside0 (spec_l1In.f kk 16 21=some false):=⟨by unfold spec_l1In.f;first|(rw[if_pos (by omega)];simp;omega)|(rw[if_neg (by omega)];simp;omega)|(rw[if_pos (by omega)])|(rw[if_neg (by omega)])⟩
 have b21:decide (kk≤21)=true:=decide_eq_true (by omega)
 have b25:(kk==25)=false:=beq_eq_false_iff_ne.2 (by omega)
 have ek:IntKind.i64.wrap kk=kk:=ck_w _ (by omega)
 have ek2:wrap64 kk=kk:=by unfold wrap64;omega
 have HKK:=A_ hkk
 clear h hr h1 ho hc
 go_enter Try.func66,Try.ntmps66
 go_upto_region 14 with (first|(go_at_call 43;refine(stake_any 126 t w0 _ g q _ c1 A n1 _ n2 HO.out HT.out).mono ?_;rintro e w5 ⟨rfl,hO,hK⟩;replace HO:=A_ hO;replace HK:=A_ (HK.out.trans hK (.inl rfl));clear hO hK))
 go_upto_region 16 with (first|(go_at_call 43;refine(stake_any 126 u w0 _ g q _ c2 A n1 _ n2 HO.out HU.out).mono ?_;rintro e w5 ⟨rfl,hO,hK⟩;replace HO:=A_ hO;replace HK:=A_ (HK.out.trans hK (.inl rfl));clear hO hK))
 go_wp2_with (first|(go_at_call 18;refine(spec_l1In.calls kk 16 21 false _ HIN.out).mono ?_;rintro e w6 ⟨rfl,hd⟩;obtain⟨nd,hnd⟩:=hd;replace HO:=A_ (show Cs w0 w6 g q _ A n1 _ n2 from by rw[hnd];exact HO.out.drewN nd);clear hnd;have HK:=A_ (KeepBut.refl w6 g none))|(go_at_call 44;refine(sput_any 126 w0 _ g q _ c' A n1 _ n2 HO.out HR.out).mono ?_;rintro e w5 ⟨rfl,hE⟩;have HE:=A_ hE;clear hE))
 first|go_end0|((try simp only[Exit.inBlock,Exit.then]);refine rt_ ?_)
 exact⟨rfl,HE.out⟩
theorem snum_b_mid (h:Cs w0 w g q c A n1 B n2) (ho:128<op∧op≤160) (hkk:op - 128=kk) (hc:16≤kk∧kk≤21) (c1 c2:CS S91) (t u:Int) (h1:takeS c 126=some (c1,t)) (h2:takeS c1 126=some (c2,u)) (hr:CS.put c2 127=some c'):
  Calls Try.prog 66 #[.pointer (some ⟨g,0,none⟩),.int .i64 op] w fun e w'=>e=.returned (.tuple #[])∧CsE w0 w' g q c':=by
 have HO:=A_ h
 have HK:=A_ (KeepBut.refl w g none)
 have HT:=A_ h1;have HR:=A_ hr
 have HU:=A_ h2
 clear h2
 have b0:decide ((160:Int)<op)=false:=decide_eq_false (by omega)
 have b1:decide ((128:Int)<op)=true:=decide_eq_true (by omega)
 have e96:IntKind.i64.wrap (op - 96)=op - 96:=ck_w _ (by omega)
 have e128:IntKind.i64.wrap (op - 128)=op - 128:=ck_w _ (by omega)
 have HIN:Aside0 (spec_l1In.f kk 16 21=some true):=⟨by unfold spec_l1In.f;first|(rw[if_pos (by omega)];simp;omega)|(rw[if_neg (by omega)];simp;omega)|(rw[if_pos (by omega)])|(rw[if_neg (by omega)])⟩
 have b21:decide (kk≤21)=true:=decide_eq_true (by omega)
 have ek:IntKind.i64.wrap kk=kk:=ck_w _ (by omega)
 have ek2:wrap64 kk=kk:=by unfold wrap64;omega
 have HKK:=A_ hkk
 clear h hr h1 ho hc
 go_enter Try.func66,Try.ntmps66
 go_upto_region 14 with (first|(go_at_call 43;refine(stake_any 126 t w0 _ g q _ c1 A n1 _ n2 HO.out HT.out).mono ?_;rintro e w5 ⟨rfl,hO,hK⟩;replace HO:=A_ hO;replace HK:=A_ (HK.out.trans hK (.inl rfl));clear hO hK))
 go_upto_region 16 with (first|(go_at_call 43;refine(stake_any 126 u w0 _ g q _ c2 A n1 _ n2 HO.out HU.out).mono ?_;rintro e w5 ⟨rfl,hO,hK⟩;replace HO:=A_ hO;replace HK:=A_ (HK.out.trans hK (.inl rfl));clear hO hK))
 go_wp2_with (first|(go_at_call 18;refine(spec_l1In.calls kk 16 21 true _ HIN.out).mono ?_;rintro e w6 ⟨rfl,hd⟩;obtain⟨nd,hnd⟩:=hd;replace HO:=A_ (show Cs w0 w6 g q _ A n1 _ n2 from by rw[hnd];exact HO.out.drewN nd);clear hnd;have HK:=A_ (KeepBut.refl w6 g none))|(go_at_call 44;refine(sput_any 127 w0 _ g q _ c' A n1 _ n2 HO.out HR.out).mono ?_;rintro e w5 ⟨rfl,hE⟩;have HE:=A_ hE;clear hE))
 first|go_end0|((try simp only[Exit.inBlock,Exit.then]);refine rt_ ?_)
 exact⟨rfl,HE.out⟩
theorem snum_b_25 (h:Cs w0 w g q c A n1 B n2) (ho:128<op∧op≤160) (hkk:op - 128=kk) (hc:kk=25) (c1:CS S91) (t u:Int) (h1:takeS c 126=some (c1,t)) (hr:CS.put c1 127=some c'):
  Calls Try.prog 66 #[.pointer (some ⟨g,0,none⟩),.int .i64 op] w fun e w'=>e=.returned (.tuple #[])∧CsE w0 w' g q c':=by
 have HO:=A_ h
 have HK:=A_ (KeepBut.refl w g none)
 have HT:=A_ h1;have HR:=A_ hr
 have b0:decide ((160:Int)<op)=false:=decide_eq_false (by omega)
 have b1:decide ((128:Int)<op)=true:=decide_eq_true (by omega)
 have e96:IntKind.i64.wrap (op - 96)=op - 96:=ck_w _ (by omega)
 have e128:IntKind.i64.wrap (op - 128)=op - 128:=ck_w _ (by omega)
 have HIN:Aside0 (spec_l1In.f kk 16 21=some false):=⟨by unfold spec_l1In.f;first|(rw[if_pos (by omega)];simp;omega)|(rw[if_neg (by omega)];simp;omega)|(rw[if_pos (by omega)])|(rw[if_neg (by omega)])⟩
 have b21:decide (kk≤21)=false:=decide_eq_false (by omega)
 have b25:(kk==25)=true:=beq_iff_eq.2 (by omega)
 have ek:IntKind.i64.wrap kk=kk:=ck_w _ (by omega)
 have ek2:wrap64 kk=kk:=by unfold wrap64;omega
 have HKK:=A_ hkk
 clear h hr h1 ho hc
 go_enter Try.func66,Try.ntmps66
 go_upto_region 14 with (first|(go_at_call 43;refine(stake_any 126 t w0 _ g q _ c1 A n1 _ n2 HO.out HT.out).mono ?_;rintro e w5 ⟨rfl,hO,hK⟩;replace HO:=A_ hO;replace HK:=A_ (HK.out.trans hK (.inl rfl));clear hO hK))
 go_upto_region 16 with (fail)
 go_wp2_with (first|(go_at_call 18;refine(spec_l1In.calls kk 16 21 false _ HIN.out).mono ?_;rintro e w6 ⟨rfl,hd⟩;obtain⟨nd,hnd⟩:=hd;replace HO:=A_ (show Cs w0 w6 g q _ A n1 _ n2 from by rw[hnd];exact HO.out.drewN nd);clear hnd;have HK:=A_ (KeepBut.refl w6 g none))|(go_at_call 44;refine(sput_any 127 w0 _ g q _ c' A n1 _ n2 HO.out HR.out).mono ?_;rintro e w5 ⟨rfl,hE⟩;have HE:=A_ hE;clear hE))
 first|go_end0|((try simp only[Exit.inBlock,Exit.then]);refine rt_ ?_)
 exact⟨rfl,HE.out⟩
theorem snum_b_no (h:Cs w0 w g q c A n1 B n2) (ho:128<op∧op≤160) (hkk:op - 128=kk) (hc:21<kk∧kk≠25) (c1:CS S91) (t u:Int) (h1:takeS c 126=some (c1,t)) (hr:CS.put c1 126=some c'):
  Calls Try.prog 66 #[.pointer (some ⟨g,0,none⟩),.int .i64 op] w fun e w'=>e=.returned (.tuple #[])∧CsE w0 w' g q c':=by
 have HO:=A_ h
 have HK:=A_ (KeepBut.refl w g none)
 have HT:=A_ h1;have HR:=A_ hr
 have b0:decide ((160:Int)<op)=false:=decide_eq_false (by omega)
 have b1:decide ((128:Int)<op)=true:=decide_eq_true (by omega)
 have e96:IntKind.i64.wrap (op - 96)=op - 96:=ck_w _ (by omega)
 have e128:IntKind.i64.wrap (op - 128)=op - 128:=ck_w _ (by omega)
 have HIN:Aside0 (spec_l1In.f kk 16 21=some false):=⟨by unfold spec_l1In.f;first|(rw[if_pos (by omega)];simp;omega)|(rw[if_neg (by omega)];simp;omega)|(rw[if_pos (by omega)])|(rw[if_neg (by omega)])⟩
 have b21:decide (kk≤21)=false:=decide_eq_false (by omega)
 have b25:(kk==25)=false:=beq_eq_false_iff_ne.2 (by omega)
 have ek:IntKind.i64.wrap kk=kk:=ck_w _ (by omega)
 have ek2:wrap64 kk=kk:=by unfold wrap64;omega
 have HKK:=A_ hkk
 clear h hr h1 ho hc
 go_enter Try.func66,Try.ntmps66
 go_upto_region 14 with (first|(go_at_call 43;refine(stake_any 126 t w0 _ g q _ c1 A n1 _ n2 HO.out HT.out).mono ?_;rintro e w5 ⟨rfl,hO,hK⟩;replace HO:=A_ hO;replace HK:=A_ (HK.out.trans hK (.inl rfl));clear hO hK))
 go_upto_region 16 with (fail)
 go_wp2_with (first|(go_at_call 18;refine(spec_l1In.calls kk 16 21 false _ HIN.out).mono ?_;rintro e w6 ⟨rfl,hd⟩;obtain⟨nd,hnd⟩:=hd;replace HO:=A_ (show Cs w0 w6 g q _ A n1 _ n2 from by rw[hnd];exact HO.out.drewN nd);clear hnd;have HK:=A_ (KeepBut.refl w6 g none))|(go_at_call 44;refine(sput_any 126 w0 _ g q _ c' A n1 _ n2 HO.out HR.out).mono ?_;rintro e w5 ⟨rfl,hE⟩;have HE:=A_ hE;clear hE))
 first|go_end0|((try simp only[Exit.inBlock,Exit.then]);refine rt_ ?_)
 exact⟨rfl,HE.out⟩
theorem snum_s_lo (h:Cs w0 w g q c A n1 B n2) (ho:0≤op∧op≤128) (hkk:op - 96=kk) (hc:kk<16) (c1 c2:CS S91) (t u:Int) (h1:takeS c 127=some (c1,t)) (h2:takeS c1 127=some (c2,u)) (hr:CS.put c2 127=some c'):
  Calls Try.prog 66 #[.pointer (some ⟨g,0,none⟩),.int .i64 op] w fun e w'=>e=.returned (.tuple #[])∧CsE w0 w' g q c':=by
 have HO:=A_ h
 have HK:=A_ (KeepBut.refl w g none)
 have HT:=A_ h1;have HR:=A_ hr
 have HU:=A_ h2
 clear h2
 have b0:decide ((160:Int)<op)=false:=decide_eq_false (by omega)
 have b1:decide ((128:Int)<op)=false:=decide_eq_false (by omega)
 have e96:IntKind.i64.wrap (op - 96)=op - 96:=ck_w _ (by omega)
 have HIN:Aside0 (spec_l1In.f kk 16 21=some false):=⟨by unfold spec_l1In.f;first|(rw[if_pos (by omega)];simp;omega)|(rw[if_neg (by omega)];simp;omega)|(rw[if_pos (by omega)])|(rw[if_neg (by omega)])⟩
 have b21:decide (kk≤21)=true:=decide_eq_true (by omega)
 have b25:(kk==25)=false:=beq_eq_false_iff_ne.2 (by omega)
 have ek:IntKind.i64.wrap kk=kk:=ck_w _ (by omega)
 have ek2:wrap64 kk=kk:=by unfold wrap64;omega
 have HKK:=A_ hkk
 clear h hr h1 ho hc
 go_enter Try.func66,Try.ntmps66
 go_upto_region 14 with (first|(go_at_call 43;refine(stake_any 127 t w0 _ g q _ c1 A n1 _ n2 HO.out HT.out).mono ?_;rintro e w5 ⟨rfl,hO,hK⟩;replace HO:=A_ hO;replace HK:=A_ (HK.out.trans hK (.inl rfl));clear hO hK))
 go_upto_region 16 with (first|(go_at_call 43;refine(stake_any 127 u w0 _ g q _ c2 A n1 _ n2 HO.out HU.out).mono ?_;rintro e w5 ⟨rfl,hO,hK⟩;replace HO:=A_ hO;replace HK:=A_ (HK.out.trans hK (.inl rfl));clear hO hK))
 go_wp2_with (first|(go_at_call 18;refine(spec_l1In.calls kk 16 21 false _ HIN.out).mono ?_;rintro e w6 ⟨rfl,hd⟩;obtain⟨nd,hnd⟩:=hd;replace HO:=A_ (show Cs w0 w6 g q _ A n1 _ n2 from by rw[hnd];exact HO.out.drewN nd);clear hnd;have HK:=A_ (KeepBut.refl w6 g none))|(go_at_call 44;refine(sput_any 127 w0 _ g q _ c' A n1 _ n2 HO.out HR.out).mono ?_;rintro e w5 ⟨rfl,hE⟩;have HE:=A_ hE;clear hE))
 first|go_end0|((try simp only[Exit.inBlock,Exit.then]);refine rt_ ?_)
 exact⟨rfl,HE.out⟩
theorem snum_s_mid (h:Cs w0 w g q c A n1 B n2) (ho:0≤op∧op≤128) (hkk:op - 96=kk) (hc:16≤kk∧kk≤21) (c1 c2:CS S91) (t u:Int) (h1:takeS c 127=some (c1,t)) (h2:takeS c1 127=some (c2,u)) (hr:CS.put c2 127=some c'):
  Calls Try.prog 66 #[.pointer (some ⟨g,0,none⟩),.int .i64 op] w fun e w'=>e=.returned (.tuple #[])∧CsE w0 w' g q c':=by
 have HO:=A_ h
 have HK:=A_ (KeepBut.refl w g none)
 have HT:=A_ h1;have HR:=A_ hr
 have HU:=A_ h2
 clear h2
 have b0:decide ((160:Int)<op)=false:=decide_eq_false (by omega)
 have b1:decide ((128:Int)<op)=false:=decide_eq_false (by omega)
 have e96:IntKind.i64.wrap (op - 96)=op - 96:=ck_w _ (by omega)
 have HIN:Aside0 (spec_l1In.f kk 16 21=some true):=⟨by unfold spec_l1In.f;first|(rw[if_pos (by omega)];simp;omega)|(rw[if_neg (by omega)];simp;omega)|(rw[if_pos (by omega)])|(rw[if_neg (by omega)])⟩
 have b21:decide (kk≤21)=true:=decide_eq_true (by omega)
 have ek:IntKind.i64.wrap kk=kk:=ck_w _ (by omega)
 have ek2:wrap64 kk=kk:=by unfold wrap64;omega
 have HKK:=A_ hkk
 clear h hr h1 ho hc
 go_enter Try.func66,Try.ntmps66
 go_upto_region 14 with (first|(go_at_call 43;refine(stake_any 127 t w0 _ g q _ c1 A n1 _ n2 HO.out HT.out).mono ?_;rintro e w5 ⟨rfl,hO,hK⟩;replace HO:=A_ hO;replace HK:=A_ (HK.out.trans hK (.inl rfl));clear hO hK))
 go_upto_region 16 with (first|(go_at_call 43;refine(stake_any 127 u w0 _ g q _ c2 A n1 _ n2 HO.out HU.out).mono ?_;rintro e w5 ⟨rfl,hO,hK⟩;replace HO:=A_ hO;replace HK:=A_ (HK.out.trans hK (.inl rfl));clear hO hK))
 go_wp2_with (first|(go_at_call 18;refine(spec_l1In.calls kk 16 21 true _ HIN.out).mono ?_;rintro e w6 ⟨rfl,hd⟩;obtain⟨nd,hnd⟩:=hd;replace HO:=A_ (show Cs w0 w6 g q _ A n1 _ n2 from by rw[hnd];exact HO.out.drewN nd);clear hnd;have HK:=A_ (KeepBut.refl w6 g none))|(go_at_call 44;refine(sput_any 127 w0 _ g q _ c' A n1 _ n2 HO.out HR.out).mono ?_;rintro e w5 ⟨rfl,hE⟩;have HE:=A_ hE;clear hE))
 first|go_end0|((try simp only[Exit.inBlock,Exit.then]);refine rt_ ?_)
 exact⟨rfl,HE.out⟩
theorem snum_s_25 (h:Cs w0 w g q c A n1 B n2) (ho:0≤op∧op≤128) (hkk:op - 96=kk) (hc:kk=25) (c1:CS S91) (t u:Int) (h1:takeS c 127=some (c1,t)) (hr:CS.put c1 127=some c'):
  Calls Try.prog 66 #[.pointer (some ⟨g,0,none⟩),.int .i64 op] w fun e w'=>e=.returned (.tuple #[])∧CsE w0 w' g q c':=by
 have HO:=A_ h
 have HK:=A_ (KeepBut.refl w g none)
 have HT:=A_ h1;have HR:=A_ hr
 have b0:decide ((160:Int)<op)=false:=decide_eq_false (by omega)
 have b1:decide ((128:Int)<op)=false:=decide_eq_false (by omega)
 have e96:IntKind.i64.wrap (op - 96)=op - 96:=ck_w _ (by omega)
 have HIN:Aside0 (spec_l1In.f kk 16 21=some false):=⟨by unfold spec_l1In.f;first|(rw[if_pos (by omega)];simp;omega)|(rw[if_neg (by omega)];simp;omega)|(rw[if_pos (by omega)])|(rw[if_neg (by omega)])⟩
 have b21:decide (kk≤21)=false:=decide_eq_false (by omega)
 have b25:(kk==25)=true:=beq_iff_eq.2 (by omega)
 have ek:IntKind.i64.wrap kk=kk:=ck_w _ (by omega)
 have ek2:wrap64 kk=kk:=by unfold wrap64;omega
 have HKK:=A_ hkk
 clear h hr h1 ho hc
 go_enter Try.func66,Try.ntmps66
 go_upto_region 14 with (first|(go_at_call 43;refine(stake_any 127 t w0 _ g q _ c1 A n1 _ n2 HO.out HT.out).mono ?_;rintro e w5 ⟨rfl,hO,hK⟩;replace HO:=A_ hO;replace HK:=A_ (HK.out.trans hK (.inl rfl));clear hO hK))
 go_upto_region 16 with (fail)
 go_wp2_with (first|(go_at_call 18;refine(spec_l1In.calls kk 16 21 false _ HIN.out).mono ?_;rintro e w6 ⟨rfl,hd⟩;obtain⟨nd,hnd⟩:=hd;replace HO:=A_ (show Cs w0 w6 g q _ A n1 _ n2 from by rw[hnd];exact HO.out.drewN nd);clear hnd;have HK:=A_ (KeepBut.refl w6 g none))|(go_at_call 44;refine(sput_any 127 w0 _ g q _ c' A n1 _ n2 HO.out HR.out).mono ?_;rintro e w5 ⟨rfl,hE⟩;have HE:=A_ hE;clear hE))
 first|go_end0|((try simp only[Exit.inBlock,Exit.then]);refine rt_ ?_)
 exact⟨rfl,HE.out⟩
theorem snum_s_no (h:Cs w0 w g q c A n1 B n2) (ho:0≤op∧op≤128) (hkk:op - 96=kk) (hc:21<kk∧kk≠25) (c1:CS S91) (t u:Int) (h1:takeS c 127=some (c1,t)) (hr:CS.put c1 127=some c'):
  Calls Try.prog 66 #[.pointer (some ⟨g,0,none⟩),.int .i64 op] w fun e w'=>e=.returned (.tuple #[])∧CsE w0 w' g q c':=by
 have HO:=A_ h
 have HK:=A_ (KeepBut.refl w g none)
 have HT:=A_ h1;have HR:=A_ hr
 have b0:decide ((160:Int)<op)=false:=decide_eq_false (by omega)
 have b1:decide ((128:Int)<op)=false:=decide_eq_false (by omega)
 have e96:IntKind.i64.wrap (op - 96)=op - 96:=ck_w _ (by omega)
 have HIN:Aside0 (spec_l1In.f kk 16 21=some false):=⟨by unfold spec_l1In.f;first|(rw[if_pos (by omega)];simp;omega)|(rw[if_neg (by omega)];simp;omega)|(rw[if_pos (by omega)])|(rw[if_neg (by omega)])⟩
 have b21:decide (kk≤21)=false:=decide_eq_false (by omega)
 have b25:(kk==25)=false:=beq_eq_false_iff_ne.2 (by omega)
 have ek:IntKind.i64.wrap kk=kk:=ck_w _ (by omega)
 have ek2:wrap64 kk=kk:=by unfold wrap64;omega
 have HKK:=A_ hkk
 clear h hr h1 ho hc
 go_enter Try.func66,Try.ntmps66
 go_upto_region 14 with (first|(go_at_call 43;refine(stake_any 127 t w0 _ g q _ c1 A n1 _ n2 HO.out HT.out).mono ?_;rintro e w5 ⟨rfl,hO,hK⟩;replace HO:=A_ hO;replace HK:=A_ (HK.out.trans hK (.inl rfl));clear hO hK))
 go_upto_region 16 with (fail)
 go_wp2_with (first|(go_at_call 18;refine(spec_l1In.calls kk 16 21 false _ HIN.out).mono ?_;rintro e w6 ⟨rfl,hd⟩;obtain⟨nd,hnd⟩:=hd;replace HO:=A_ (show Cs w0 w6 g q _ A n1 _ n2 from by rw[hnd];exact HO.out.drewN nd);clear hnd;have HK:=A_ (KeepBut.refl w6 g none))|(go_at_call 44;refine(sput_any 127 w0 _ g q _ c' A n1 _ n2 HO.out HR.out).mono ?_;rintro e w5 ⟨rfl,hE⟩;have HE:=A_ hE;clear hE))
 first|go_end0|((try simp only[Exit.inBlock,Exit.then]);refine rt_ ?_)
 exact⟨rfl,HE.out⟩


end


/-! ### spec_l7S_other: function 48 (walked by hand) -/
/-- What a state of the reference's checker holds that came in: the module, the func's result, the row of its params and locals. -/
def SEnv (w0:World) (q:Nat→Value) (fs:List S59) (gs:List S63) (mem:Bool) (res:Int) (sl:List Int):Prop:=∃ AF cF AG cG AS cS,q 0=.slice AF fs.length cF∧q 1=.slice AG gs.length cG∧q 2=.bool mem∧q 7=.int .i64 res∧q 14=.slice AS sl.length cS∧Kd.C k59 w0 AF fs.length fs∧Kd.C k63 w0 AG gs.length gs∧Kd.C (Kd.int .i64) w0 AS sl.length sl
def takeRevS (l:List Int):CS S91→Nat→Option (CS S91)
 |c,0=>some c
 |c,n+1=>(takeS c (rd l (n:Int))).bind fun r=>takeRevS l r.1 n
section
variable (x:S71) (fs:List S59) (gs:List S63) (mem:Bool) (res:Int) (sl:List Int) (w0 w:World) (g:Nat) (q:Nat→Value) (c c':CS S91) (A:Option Addr) (n1:Nat) (B:Option Addr) (n2:Nat)
theorem other_65 (h:Cs w0 w g q c A n1 B n2) (hm:SEnv w0 q fs gs mem res sl) (hop:x.f0=65) (hr:c.put 127=some c'):
  Calls Try.prog 48 #[.pointer (some ⟨g,0,none⟩),.agg #[.int .i64 x.f0,.int .i64 x.f1]] w fun e w'=>e=.returned (.tuple #[])∧CsE w0 w' g q c':=by
 have HO:=A_ h
 have HK:=A_ (KeepBut.refl w g none)
 have hu71:=Try.underlying71
 have HM:=A_ hm
 clear h hm
 have b16:=ne_ hop 16
 have b32:=ne_ hop 32
 have b33:=ne_ hop 33
 have b34:=ne_ hop 34
 have b35:=ne_ hop 35
 have b36:=ne_ hop 36
 have b40:=ne_ hop 40
 have b41:=ne_ hop 41
 have b54:=ne_ hop 54
 have b55:=ne_ hop 55
 have b63:=ne_ hop 63
 have b64:=ne_ hop 64
 have b65:=e1_ hop
 have HR:=A_ hr
 clear hr hop
 go_enter Try.func48,Try.ntmps48
 go_wp2_with (first|((with_reducible refine gd_ 3 rfl ?_);refine bx_ #[.int .i64 x.f0,.int .i64 x.f1] 71 ?_;intro gx hg wx hbox hb;have BX:=A_ hbox;have NX:=A_ (HO.out.fresh_ne hg);replace HO:=A_ (HO.out.below hb);replace HK:=A_ (HK.out.trans (KeepBut.of_below hb g none) (.inl rfl));clear hbox hb hg;have x0:=(blk_cell BX.out 0).trans rfl;have x1:=(blk_cell BX.out 1).trans rfl)|(go_at_call 44;refine(sput_any 127 w0 _ g q _ c' A n1 _ n2 HO.out HR.out).mono ?_;rintro e w5 ⟨rfl,hE⟩;have HE:=A_ hE;clear hE))
 first|go_end0|((try simp only[Exit.inBlock,Exit.then]);refine rt_ ?_)
 exact⟨rfl,HE.out⟩
theorem other_66 (h:Cs w0 w g q c A n1 B n2) (hm:SEnv w0 q fs gs mem res sl) (hop:x.f0=66) (hr:c.put 126=some c'):
  Calls Try.prog 48 #[.pointer (some ⟨g,0,none⟩),.agg #[.int .i64 x.f0,.int .i64 x.f1]] w fun e w'=>e=.returned (.tuple #[])∧CsE w0 w' g q c':=by
 have HO:=A_ h
 have HK:=A_ (KeepBut.refl w g none)
 have hu71:=Try.underlying71
 have HM:=A_ hm
 clear h hm
 have b16:=ne_ hop 16
 have b32:=ne_ hop 32
 have b33:=ne_ hop 33
 have b34:=ne_ hop 34
 have b35:=ne_ hop 35
 have b36:=ne_ hop 36
 have b40:=ne_ hop 40
 have b41:=ne_ hop 41
 have b54:=ne_ hop 54
 have b55:=ne_ hop 55
 have b63:=ne_ hop 63
 have b64:=ne_ hop 64
 have b65:=ne_ hop 65
 have b66:=e1_ hop
 have HR:=A_ hr
 clear hr hop
 go_enter Try.func48,Try.ntmps48
 go_wp2_with (first|((with_reducible refine gd_ 3 rfl ?_);refine bx_ #[.int .i64 x.f0,.int .i64 x.f1] 71 ?_;intro gx hg wx hbox hb;have BX:=A_ hbox;have NX:=A_ (HO.out.fresh_ne hg);replace HO:=A_ (HO.out.below hb);replace HK:=A_ (HK.out.trans (KeepBut.of_below hb g none) (.inl rfl));clear hbox hb hg;have x0:=(blk_cell BX.out 0).trans rfl;have x1:=(blk_cell BX.out 1).trans rfl)|(go_at_call 44;refine(sput_any 126 w0 _ g q _ c' A n1 _ n2 HO.out HR.out).mono ?_;rintro e w5 ⟨rfl,hE⟩;have HE:=A_ hE;clear hE))
 first|go_end0|((try simp only[Exit.inBlock,Exit.then]);refine rt_ ?_)
 exact⟨rfl,HE.out⟩
theorem other_67 (h:Cs w0 w g q c A n1 B n2) (hm:SEnv w0 q fs gs mem res sl) (hop:x.f0=67) (hr:c.put 125=some c'):
  Calls Try.prog 48 #[.pointer (some ⟨g,0,none⟩),.agg #[.int .i64 x.f0,.int .i64 x.f1]] w fun e w'=>e=.returned (.tuple #[])∧CsE w0 w' g q c':=by
 have HO:=A_ h
 have HK:=A_ (KeepBut.refl w g none)
 have hu71:=Try.underlying71
 have HM:=A_ hm
 clear h hm
 have b16:=ne_ hop 16
 have b32:=ne_ hop 32
 have b33:=ne_ hop 33
 have b34:=ne_ hop 34
 have b35:=ne_ hop 35
 have b36:=ne_ hop 36
 have b40:=ne_ hop 40
 have b41:=ne_ hop 41
 have b54:=ne_ hop 54
 have b55:=ne_ hop 55
 have b63:=ne_ hop 63
 have b64:=ne_ hop 64
 have b65:=ne_ hop 65
 have b66:=ne_ hop 66
 have b67:=e1_ hop
 have HR:=A_ hr
 clear hr hop
 go_enter Try.func48,Try.ntmps48
 go_wp2_with (first|((with_reducible refine gd_ 3 rfl ?_);refine bx_ #[.int .i64 x.f0,.int .i64 x.f1] 71 ?_;intro gx hg wx hbox hb;have BX:=A_ hbox;have NX:=A_ (HO.out.fresh_ne hg);replace HO:=A_ (HO.out.below hb);replace HK:=A_ (HK.out.trans (KeepBut.of_below hb g none) (.inl rfl));clear hbox hb hg;have x0:=(blk_cell BX.out 0).trans rfl;have x1:=(blk_cell BX.out 1).trans rfl)|(go_at_call 44;refine(sput_any 125 w0 _ g q _ c' A n1 _ n2 HO.out HR.out).mono ?_;rintro e w5 ⟨rfl,hE⟩;have HE:=A_ hE;clear hE))
 first|go_end0|((try simp only[Exit.inBlock,Exit.then]);refine rt_ ?_)
 exact⟨rfl,HE.out⟩
theorem other_176 (h:Cs w0 w g q c A n1 B n2) (hm:SEnv w0 q fs gs mem res sl) (hop:x.f0=176) (hr:turnS c 126 127=some c'):
  Calls Try.prog 48 #[.pointer (some ⟨g,0,none⟩),.agg #[.int .i64 x.f0,.int .i64 x.f1]] w fun e w'=>e=.returned (.tuple #[])∧CsE w0 w' g q c':=by
 have HO:=A_ h
 have HK:=A_ (KeepBut.refl w g none)
 have hu71:=Try.underlying71
 have HM:=A_ hm
 clear h hm
 have b16:=ne_ hop 16
 have b32:=ne_ hop 32
 have b33:=ne_ hop 33
 have b34:=ne_ hop 34
 have b35:=ne_ hop 35
 have b36:=ne_ hop 36
 have b40:=ne_ hop 40
 have b41:=ne_ hop 41
 have b54:=ne_ hop 54
 have b55:=ne_ hop 55
 have b63:=ne_ hop 63
 have b64:=ne_ hop 64
 have b65:=ne_ hop 65
 have b66:=ne_ hop 66
 have b67:=ne_ hop 67
 have b176:=e1_ hop
 have HR:=A_ hr
 clear hr hop
 go_enter Try.func48,Try.ntmps48
 go_wp2_with (first|((with_reducible refine gd_ 3 rfl ?_);refine bx_ #[.int .i64 x.f0,.int .i64 x.f1] 71 ?_;intro gx hg wx hbox hb;have BX:=A_ hbox;have NX:=A_ (HO.out.fresh_ne hg);replace HO:=A_ (HO.out.below hb);replace HK:=A_ (HK.out.trans (KeepBut.of_below hb g none) (.inl rfl));clear hbox hb hg;have x0:=(blk_cell BX.out 0).trans rfl;have x1:=(blk_cell BX.out 1).trans rfl)|(go_at_call 65;refine(turn_any 126 127 w0 _ g q _ c' A n1 _ n2 HO.out HR.out).mono ?_;rintro e w5 ⟨rfl,hE⟩;have HE:=A_ hE;clear hE))
 first|go_end0|((try simp only[Exit.inBlock,Exit.then]);refine rt_ ?_)
 exact⟨rfl,HE.out⟩
theorem other_177 (h:Cs w0 w g q c A n1 B n2) (hm:SEnv w0 q fs gs mem res sl) (hop:x.f0=177) (hr:turnS c 127 126=some c'):
  Calls Try.prog 48 #[.pointer (some ⟨g,0,none⟩),.agg #[.int .i64 x.f0,.int .i64 x.f1]] w fun e w'=>e=.returned (.tuple #[])∧CsE w0 w' g q c':=by
 have HO:=A_ h
 have HK:=A_ (KeepBut.refl w g none)
 have hu71:=Try.underlying71
 have HM:=A_ hm
 clear h hm
 have b16:=ne_ hop 16
 have b32:=ne_ hop 32
 have b33:=ne_ hop 33
 have b34:=ne_ hop 34
 have b35:=ne_ hop 35
 have b36:=ne_ hop 36
 have b40:=ne_ hop 40
 have b41:=ne_ hop 41
 have b54:=ne_ hop 54
 have b55:=ne_ hop 55
 have b63:=ne_ hop 63
 have b64:=ne_ hop 64
 have b65:=ne_ hop 65
 have b66:=ne_ hop 66
 have b67:=ne_ hop 67
 have b176:=ne_ hop 176
 have b177:=e1_ hop
 have HR:=A_ hr
 clear hr hop
 go_enter Try.func48,Try.ntmps48
 go_wp2_with (first|((with_reducible refine gd_ 3 rfl ?_);refine bx_ #[.int .i64 x.f0,.int .i64 x.f1] 71 ?_;intro gx hg wx hbox hb;have BX:=A_ hbox;have NX:=A_ (HO.out.fresh_ne hg);replace HO:=A_ (HO.out.below hb);replace HK:=A_ (HK.out.trans (KeepBut.of_below hb g none) (.inl rfl));clear hbox hb hg;have x0:=(blk_cell BX.out 0).trans rfl;have x1:=(blk_cell BX.out 1).trans rfl)|(go_at_call 65;refine(turn_any 127 126 w0 _ g q _ c' A n1 _ n2 HO.out HR.out).mono ?_;rintro e w5 ⟨rfl,hE⟩;have HE:=A_ hE;clear hE))
 first|go_end0|((try simp only[Exit.inBlock,Exit.then]);refine rt_ ?_)
 exact⟨rfl,HE.out⟩
theorem other_178 (h:Cs w0 w g q c A n1 B n2) (hm:SEnv w0 q fs gs mem res sl) (hop:x.f0=178) (hr:turnS c 127 126=some c'):
  Calls Try.prog 48 #[.pointer (some ⟨g,0,none⟩),.agg #[.int .i64 x.f0,.int .i64 x.f1]] w fun e w'=>e=.returned (.tuple #[])∧CsE w0 w' g q c':=by
 have HO:=A_ h
 have HK:=A_ (KeepBut.refl w g none)
 have hu71:=Try.underlying71
 have HM:=A_ hm
 clear h hm
 have b16:=ne_ hop 16
 have b32:=ne_ hop 32
 have b33:=ne_ hop 33
 have b34:=ne_ hop 34
 have b35:=ne_ hop 35
 have b36:=ne_ hop 36
 have b40:=ne_ hop 40
 have b41:=ne_ hop 41
 have b54:=ne_ hop 54
 have b55:=ne_ hop 55
 have b63:=ne_ hop 63
 have b64:=ne_ hop 64
 have b65:=ne_ hop 65
 have b66:=ne_ hop 66
 have b67:=ne_ hop 67
 have b176:=ne_ hop 176
 have b177:=ne_ hop 177
 have b178:=e1_ hop
 have HR:=A_ hr
 clear hr hop
 go_enter Try.func48,Try.ntmps48
 go_wp2_with (first|((with_reducible refine gd_ 3 rfl ?_);refine bx_ #[.int .i64 x.f0,.int .i64 x.f1] 71 ?_;intro gx hg wx hbox hb;have BX:=A_ hbox;have NX:=A_ (HO.out.fresh_ne hg);replace HO:=A_ (HO.out.below hb);replace HK:=A_ (HK.out.trans (KeepBut.of_below hb g none) (.inl rfl));clear hbox hb hg;have x0:=(blk_cell BX.out 0).trans rfl;have x1:=(blk_cell BX.out 1).trans rfl)|(go_at_call 65;refine(turn_any 127 126 w0 _ g q _ c' A n1 _ n2 HO.out HR.out).mono ?_;rintro e w5 ⟨rfl,hE⟩;have HE:=A_ hE;clear hE))
 first|go_end0|((try simp only[Exit.inBlock,Exit.then]);refine rt_ ?_)
 exact⟨rfl,HE.out⟩
theorem other_179 (h:Cs w0 w g q c A n1 B n2) (hm:SEnv w0 q fs gs mem res sl) (hop:x.f0=179) (hr:turnS c 127 125=some c'):
  Calls Try.prog 48 #[.pointer (some ⟨g,0,none⟩),.agg #[.int .i64 x.f0,.int .i64 x.f1]] w fun e w'=>e=.returned (.tuple #[])∧CsE w0 w' g q c':=by
 have HO:=A_ h
 have HK:=A_ (KeepBut.refl w g none)
 have hu71:=Try.underlying71
 have HM:=A_ hm
 clear h hm
 have b16:=ne_ hop 16
 have b32:=ne_ hop 32
 have b33:=ne_ hop 33
 have b34:=ne_ hop 34
 have b35:=ne_ hop 35
 have b36:=ne_ hop 36
 have b40:=ne_ hop 40
 have b41:=ne_ hop 41
 have b54:=ne_ hop 54
 have b55:=ne_ hop 55
 have b63:=ne_ hop 63
 have b64:=ne_ hop 64
 have b65:=ne_ hop 65
 have b66:=ne_ hop 66
 have b67:=ne_ hop 67
 have b176:=ne_ hop 176
 have b177:=ne_ hop 177
 have b178:=ne_ hop 178
 have b179:=e1_ hop
 have HR:=A_ hr
 clear hr hop
 go_enter Try.func48,Try.ntmps48
 go_wp2_with (first|((with_reducible refine gd_ 3 rfl ?_);refine bx_ #[.int .i64 x.f0,.int .i64 x.f1] 71 ?_;intro gx hg wx hbox hb;have BX:=A_ hbox;have NX:=A_ (HO.out.fresh_ne hg);replace HO:=A_ (HO.out.below hb);replace HK:=A_ (HK.out.trans (KeepBut.of_below hb g none) (.inl rfl));clear hbox hb hg;have x0:=(blk_cell BX.out 0).trans rfl;have x1:=(blk_cell BX.out 1).trans rfl)|(go_at_call 65;refine(turn_any 127 125 w0 _ g q _ c' A n1 _ n2 HO.out HR.out).mono ?_;rintro e w5 ⟨rfl,hE⟩;have HE:=A_ hE;clear hE))
 first|go_end0|((try simp only[Exit.inBlock,Exit.then]);refine rt_ ?_)
 exact⟨rfl,HE.out⟩
theorem other_180 (h:Cs w0 w g q c A n1 B n2) (hm:SEnv w0 q fs gs mem res sl) (hop:x.f0=180) (hr:turnS c 125 127=some c'):
  Calls Try.prog 48 #[.pointer (some ⟨g,0,none⟩),.agg #[.int .i64 x.f0,.int .i64 x.f1]] w fun e w'=>e=.returned (.tuple #[])∧CsE w0 w' g q c':=by
 have HO:=A_ h
 have HK:=A_ (KeepBut.refl w g none)
 have hu71:=Try.underlying71
 have HM:=A_ hm
 clear h hm
 have b16:=ne_ hop 16
 have b32:=ne_ hop 32
 have b33:=ne_ hop 33
 have b34:=ne_ hop 34
 have b35:=ne_ hop 35
 have b36:=ne_ hop 36
 have b40:=ne_ hop 40
 have b41:=ne_ hop 41
 have b54:=ne_ hop 54
 have b55:=ne_ hop 55
 have b63:=ne_ hop 63
 have b64:=ne_ hop 64
 have b65:=ne_ hop 65
 have b66:=ne_ hop 66
 have b67:=ne_ hop 67
 have b176:=ne_ hop 176
 have b177:=ne_ hop 177
 have b178:=ne_ hop 178
 have b179:=ne_ hop 179
 have b180:=e1_ hop
 have HR:=A_ hr
 clear hr hop
 go_enter Try.func48,Try.ntmps48
 go_wp2_with (first|((with_reducible refine gd_ 3 rfl ?_);refine bx_ #[.int .i64 x.f0,.int .i64 x.f1] 71 ?_;intro gx hg wx hbox hb;have BX:=A_ hbox;have NX:=A_ (HO.out.fresh_ne hg);replace HO:=A_ (HO.out.below hb);replace HK:=A_ (HK.out.trans (KeepBut.of_below hb g none) (.inl rfl));clear hbox hb hg;have x0:=(blk_cell BX.out 0).trans rfl;have x1:=(blk_cell BX.out 1).trans rfl)|(go_at_call 65;refine(turn_any 125 127 w0 _ g q _ c' A n1 _ n2 HO.out HR.out).mono ?_;rintro e w5 ⟨rfl,hE⟩;have HE:=A_ hE;clear hE))
 first|go_end0|((try simp only[Exit.inBlock,Exit.then]);refine rt_ ?_)
 exact⟨rfl,HE.out⟩
theorem other_40 (h:Cs w0 w g q c A n1 B n2) (hm:SEnv w0 q fs gs mem res sl) (hop:x.f0=40) (hr:memS c mem x.f0=some c'):
  Calls Try.prog 48 #[.pointer (some ⟨g,0,none⟩),.agg #[.int .i64 x.f0,.int .i64 x.f1]] w fun e w'=>e=.returned (.tuple #[])∧CsE w0 w' g q c':=by
 have HO:=A_ h
 have HK:=A_ (KeepBut.refl w g none)
 have hu71:=Try.underlying71
 have HM:=A_ hm
 clear h hm
 have b16:=ne_ hop 16
 have b32:=ne_ hop 32
 have b33:=ne_ hop 33
 have b34:=ne_ hop 34
 have b35:=ne_ hop 35
 have b36:=ne_ hop 36
 have b40:=e1_ hop
 have HR:=A_ hr
 have H2:Aside0 (q 2=.bool mem):=by obtain⟨_,_,_,_,_,_,_,_,e,_⟩:=HM.out;exact⟨e⟩
 clear hr hop
 go_enter Try.func48,Try.ntmps48
 go_wp2_with (first|((with_reducible refine gd_ 3 rfl ?_);refine bx_ #[.int .i64 x.f0,.int .i64 x.f1] 71 ?_;intro gx hg wx hbox hb;have BX:=A_ hbox;have NX:=A_ (HO.out.fresh_ne hg);replace HO:=A_ (HO.out.below hb);replace HK:=A_ (HK.out.trans (KeepBut.of_below hb g none) (.inl rfl));clear hbox hb hg;have x0:=(blk_cell BX.out 0).trans rfl;have x1:=(blk_cell BX.out 1).trans rfl)|(go_at_call 64;refine(smem_any mem x.f0 w0 _ g q _ c' A n1 _ n2 HO.out H2.out HR.out).mono ?_;rintro e w5 ⟨rfl,hE⟩;have HE:=A_ hE;clear hE))
 first|go_end0|((try simp only[Exit.inBlock,Exit.then]);refine rt_ ?_)
 exact⟨rfl,HE.out⟩
theorem other_41 (h:Cs w0 w g q c A n1 B n2) (hm:SEnv w0 q fs gs mem res sl) (hop:x.f0=41) (hr:memS c mem x.f0=some c'):
  Calls Try.prog 48 #[.pointer (some ⟨g,0,none⟩),.agg #[.int .i64 x.f0,.int .i64 x.f1]] w fun e w'=>e=.returned (.tuple #[])∧CsE w0 w' g q c':=by
 have HO:=A_ h
 have HK:=A_ (KeepBut.refl w g none)
 have hu71:=Try.underlying71
 have HM:=A_ hm
 clear h hm
 have b16:=ne_ hop 16
 have b32:=ne_ hop 32
 have b33:=ne_ hop 33
 have b34:=ne_ hop 34
 have b35:=ne_ hop 35
 have b36:=ne_ hop 36
 have b40:=ne_ hop 40
 have b41:=e1_ hop
 have HR:=A_ hr
 have H2:Aside0 (q 2=.bool mem):=by obtain⟨_,_,_,_,_,_,_,_,e,_⟩:=HM.out;exact⟨e⟩
 clear hr hop
 go_enter Try.func48,Try.ntmps48
 go_wp2_with (first|((with_reducible refine gd_ 3 rfl ?_);refine bx_ #[.int .i64 x.f0,.int .i64 x.f1] 71 ?_;intro gx hg wx hbox hb;have BX:=A_ hbox;have NX:=A_ (HO.out.fresh_ne hg);replace HO:=A_ (HO.out.below hb);replace HK:=A_ (HK.out.trans (KeepBut.of_below hb g none) (.inl rfl));clear hbox hb hg;have x0:=(blk_cell BX.out 0).trans rfl;have x1:=(blk_cell BX.out 1).trans rfl)|(go_at_call 64;refine(smem_any mem x.f0 w0 _ g q _ c' A n1 _ n2 HO.out H2.out HR.out).mono ?_;rintro e w5 ⟨rfl,hE⟩;have HE:=A_ hE;clear hE))
 first|go_end0|((try simp only[Exit.inBlock,Exit.then]);refine rt_ ?_)
 exact⟨rfl,HE.out⟩
theorem other_54 (h:Cs w0 w g q c A n1 B n2) (hm:SEnv w0 q fs gs mem res sl) (hop:x.f0=54) (hr:memS c mem x.f0=some c'):
  Calls Try.prog 48 #[.pointer (some ⟨g,0,none⟩),.agg #[.int .i64 x.f0,.int .i64 x.f1]] w fun e w'=>e=.returned (.tuple #[])∧CsE w0 w' g q c':=by
 have HO:=A_ h
 have HK:=A_ (KeepBut.refl w g none)
 have hu71:=Try.underlying71
 have HM:=A_ hm
 clear h hm
 have b16:=ne_ hop 16
 have b32:=ne_ hop 32
 have b33:=ne_ hop 33
 have b34:=ne_ hop 34
 have b35:=ne_ hop 35
 have b36:=ne_ hop 36
 have b40:=ne_ hop 40
 have b41:=ne_ hop 41
 have b54:=e1_ hop
 have HR:=A_ hr
 have H2:Aside0 (q 2=.bool mem):=by obtain⟨_,_,_,_,_,_,_,_,e,_⟩:=HM.out;exact⟨e⟩
 clear hr hop
 go_enter Try.func48,Try.ntmps48
 go_wp2_with (first|((with_reducible refine gd_ 3 rfl ?_);refine bx_ #[.int .i64 x.f0,.int .i64 x.f1] 71 ?_;intro gx hg wx hbox hb;have BX:=A_ hbox;have NX:=A_ (HO.out.fresh_ne hg);replace HO:=A_ (HO.out.below hb);replace HK:=A_ (HK.out.trans (KeepBut.of_below hb g none) (.inl rfl));clear hbox hb hg;have x0:=(blk_cell BX.out 0).trans rfl;have x1:=(blk_cell BX.out 1).trans rfl)|(go_at_call 64;refine(smem_any mem x.f0 w0 _ g q _ c' A n1 _ n2 HO.out H2.out HR.out).mono ?_;rintro e w5 ⟨rfl,hE⟩;have HE:=A_ hE;clear hE))
 first|go_end0|((try simp only[Exit.inBlock,Exit.then]);refine rt_ ?_)
 exact⟨rfl,HE.out⟩
theorem other_55 (h:Cs w0 w g q c A n1 B n2) (hm:SEnv w0 q fs gs mem res sl) (hop:x.f0=55) (hr:memS c mem x.f0=some c'):
  Calls Try.prog 48 #[.pointer (some ⟨g,0,none⟩),.agg #[.int .i64 x.f0,.int .i64 x.f1]] w fun e w'=>e=.returned (.tuple #[])∧CsE w0 w' g q c':=by
 have HO:=A_ h
 have HK:=A_ (KeepBut.refl w g none)
 have hu71:=Try.underlying71
 have HM:=A_ hm
 clear h hm
 have b16:=ne_ hop 16
 have b32:=ne_ hop 32
 have b33:=ne_ hop 33
 have b34:=ne_ hop 34
 have b35:=ne_ hop 35
 have b36:=ne_ hop 36
 have b40:=ne_ hop 40
 have b41:=ne_ hop 41
 have b54:=ne_ hop 54
 have b55:=e1_ hop
 have HR:=A_ hr
 have H2:Aside0 (q 2=.bool mem):=by obtain⟨_,_,_,_,_,_,_,_,e,_⟩:=HM.out;exact⟨e⟩
 clear hr hop
 go_enter Try.func48,Try.ntmps48
 go_wp2_with (first|((with_reducible refine gd_ 3 rfl ?_);refine bx_ #[.int .i64 x.f0,.int .i64 x.f1] 71 ?_;intro gx hg wx hbox hb;have BX:=A_ hbox;have NX:=A_ (HO.out.fresh_ne hg);replace HO:=A_ (HO.out.below hb);replace HK:=A_ (HK.out.trans (KeepBut.of_below hb g none) (.inl rfl));clear hbox hb hg;have x0:=(blk_cell BX.out 0).trans rfl;have x1:=(blk_cell BX.out 1).trans rfl)|(go_at_call 64;refine(smem_any mem x.f0 w0 _ g q _ c' A n1 _ n2 HO.out H2.out HR.out).mono ?_;rintro e w5 ⟨rfl,hE⟩;have HE:=A_ hE;clear hE))
 first|go_end0|((try simp only[Exit.inBlock,Exit.then]);refine rt_ ?_)
 exact⟨rfl,HE.out⟩
theorem other_63 (h:Cs w0 w g q c A n1 B n2) (hm:SEnv w0 q fs gs mem res sl) (hop:x.f0=63) (hr:memS c mem x.f0=some c'):
  Calls Try.prog 48 #[.pointer (some ⟨g,0,none⟩),.agg #[.int .i64 x.f0,.int .i64 x.f1]] w fun e w'=>e=.returned (.tuple #[])∧CsE w0 w' g q c':=by
 have HO:=A_ h
 have HK:=A_ (KeepBut.refl w g none)
 have hu71:=Try.underlying71
 have HM:=A_ hm
 clear h hm
 have b16:=ne_ hop 16
 have b32:=ne_ hop 32
 have b33:=ne_ hop 33
 have b34:=ne_ hop 34
 have b35:=ne_ hop 35
 have b36:=ne_ hop 36
 have b40:=ne_ hop 40
 have b41:=ne_ hop 41
 have b54:=ne_ hop 54
 have b55:=ne_ hop 55
 have b63:=e1_ hop
 have HR:=A_ hr
 have H2:Aside0 (q 2=.bool mem):=by obtain⟨_,_,_,_,_,_,_,_,e,_⟩:=HM.out;exact⟨e⟩
 clear hr hop
 go_enter Try.func48,Try.ntmps48
 go_wp2_with (first|((with_reducible refine gd_ 3 rfl ?_);refine bx_ #[.int .i64 x.f0,.int .i64 x.f1] 71 ?_;intro gx hg wx hbox hb;have BX:=A_ hbox;have NX:=A_ (HO.out.fresh_ne hg);replace HO:=A_ (HO.out.below hb);replace HK:=A_ (HK.out.trans (KeepBut.of_below hb g none) (.inl rfl));clear hbox hb hg;have x0:=(blk_cell BX.out 0).trans rfl;have x1:=(blk_cell BX.out 1).trans rfl)|(go_at_call 64;refine(smem_any mem x.f0 w0 _ g q _ c' A n1 _ n2 HO.out H2.out HR.out).mono ?_;rintro e w5 ⟨rfl,hE⟩;have HE:=A_ hE;clear hE))
 first|go_end0|((try simp only[Exit.inBlock,Exit.then]);refine rt_ ?_)
 exact⟨rfl,HE.out⟩
theorem other_64 (h:Cs w0 w g q c A n1 B n2) (hm:SEnv w0 q fs gs mem res sl) (hop:x.f0=64) (hr:memS c mem x.f0=some c'):
  Calls Try.prog 48 #[.pointer (some ⟨g,0,none⟩),.agg #[.int .i64 x.f0,.int .i64 x.f1]] w fun e w'=>e=.returned (.tuple #[])∧CsE w0 w' g q c':=by
 have HO:=A_ h
 have HK:=A_ (KeepBut.refl w g none)
 have hu71:=Try.underlying71
 have HM:=A_ hm
 clear h hm
 have b16:=ne_ hop 16
 have b32:=ne_ hop 32
 have b33:=ne_ hop 33
 have b34:=ne_ hop 34
 have b35:=ne_ hop 35
 have b36:=ne_ hop 36
 have b40:=ne_ hop 40
 have b41:=ne_ hop 41
 have b54:=ne_ hop 54
 have b55:=ne_ hop 55
 have b63:=ne_ hop 63
 have b64:=e1_ hop
 have HR:=A_ hr
 have H2:Aside0 (q 2=.bool mem):=by obtain⟨_,_,_,_,_,_,_,_,e,_⟩:=HM.out;exact⟨e⟩
 clear hr hop
 go_enter Try.func48,Try.ntmps48
 go_wp2_with (first|((with_reducible refine gd_ 3 rfl ?_);refine bx_ #[.int .i64 x.f0,.int .i64 x.f1] 71 ?_;intro gx hg wx hbox hb;have BX:=A_ hbox;have NX:=A_ (HO.out.fresh_ne hg);replace HO:=A_ (HO.out.below hb);replace HK:=A_ (HK.out.trans (KeepBut.of_below hb g none) (.inl rfl));clear hbox hb hg;have x0:=(blk_cell BX.out 0).trans rfl;have x1:=(blk_cell BX.out 1).trans rfl)|(go_at_call 64;refine(smem_any mem x.f0 w0 _ g q _ c' A n1 _ n2 HO.out H2.out HR.out).mono ?_;rintro e w5 ⟨rfl,hE⟩;have HE:=A_ hE;clear hE))
 first|go_end0|((try simp only[Exit.inBlock,Exit.then]);refine rt_ ?_)
 exact⟨rfl,HE.out⟩

theorem other_32_no (h:Cs w0 w g q c A n1 B n2) (hm:SEnv w0 q fs gs mem res sl) (hop:x.f0=32) (hz:(sl.length:Int)≤x.f1) (hc:c'=c.fail 5):
  Calls Try.prog 48 #[.pointer (some ⟨g,0,none⟩),.agg #[.int .i64 x.f0,.int .i64 x.f1]] w fun e w'=>e=.returned (.tuple #[])∧CsE w0 w' g q c':=by
 have HO:=A_ h
 have HK:=A_ (KeepBut.refl w g none)
 have hu71:=Try.underlying71
 have HM:=A_ hm
 clear h hm
 subst hc
 have b16:=ne_ hop 16
 have b32:=e1_ hop
 have d32:(x.f0 !=32)=false:=by rw[hop];rfl
 have d33:=nd_ hop 33
 clear hop
 obtain⟨AF,cF,AG,cG,AS,cS,e0_,e1_,e2_,e7_,e14_,rF,rG,rS⟩:=HM.out
 go_enter Try.func48,Try.ntmps48
 go_upto_region 15 with (first|((with_reducible refine gd_ 3 rfl ?_);refine bx_ #[.int .i64 x.f0,.int .i64 x.f1] 71 ?_;intro gx hg wx hbox hb;have BX:=A_ hbox;have NX:=A_ (HO.out.fresh_ne hg);replace HO:=A_ (HO.out.below hb);replace HK:=A_ (HK.out.trans (KeepBut.of_below hb g none) (.inl rfl));clear hbox hb hg;have x0:=(blk_cell BX.out 0).trans rfl;have x1:=(blk_cell BX.out 1).trans rfl))
 have c14f:=HO.out.cell14
 rw[e14_] at c14f
 have RS:=A_ rS
 clear e0_ e1_ e2_ e7_ rF rG rS
 have cb:=decide_eq_true hz
 go_quiet (fail)
 replace HO:=A_ (HO.out.drewN nq);replace HK:=A_ (keep_drewN HK.out nq);replace BX:=A_ (blk_drewN BX.out nq);clear x0 x1 c14f;generalize wx.drewN nq=wq at*;have x0:=(blk_cell BX.out 0).trans rfl;have x1:=(blk_cell BX.out 1).trans rfl
 go_wp2_with (first|(go_at_call 46;refine(bad_any w0 _ g q _ 5 A n1 _ n2 HO.out).mono ?_;rintro e w5 ⟨rfl,hO,hK⟩;replace HO:=A_ hO;replace HK:=A_ (HK.out.trans hK (.inl rfl));replace BX:=A_ (KeepBut.blk hK BX.out NX.out.1 (by simp));clear x0 x1 hO hK;have x0:=(blk_cell BX.out 0).trans rfl;have x1:=(blk_cell BX.out 1).trans rfl))
 first|go_end0|((try simp only[Exit.inBlock,Exit.then]);refine rt_ ?_)
 exact⟨rfl,_,_,_,_,HO.out⟩
theorem other_32 (h:Cs w0 w g q c A n1 B n2) (hm:SEnv w0 q fs gs mem res sl) (hop:x.f0=32) (hz0:0≤x.f1) (hz:x.f1<(sl.length:Int)) (hr:c.put (rd sl x.f1)=some c'):
  Calls Try.prog 48 #[.pointer (some ⟨g,0,none⟩),.agg #[.int .i64 x.f0,.int .i64 x.f1]] w fun e w'=>e=.returned (.tuple #[])∧CsE w0 w' g q c':=by
 have HO:=A_ h
 have HK:=A_ (KeepBut.refl w g none)
 have hu71:=Try.underlying71
 have HM:=A_ hm
 clear h hm
 have HR:=A_ hr
 clear hr
 have b16:=ne_ hop 16
 have b32:=e1_ hop
 have d32:(x.f0 !=32)=false:=by rw[hop];rfl
 have d33:=nd_ hop 33
 clear hop
 obtain⟨AF,cF,AG,cG,AS,cS,e0_,e1_,e2_,e7_,e14_,rF,rG,rS⟩:=HM.out
 go_enter Try.func48,Try.ntmps48
 go_upto_region 15 with (first|((with_reducible refine gd_ 3 rfl ?_);refine bx_ #[.int .i64 x.f0,.int .i64 x.f1] 71 ?_;intro gx hg wx hbox hb;have BX:=A_ hbox;have NX:=A_ (HO.out.fresh_ne hg);replace HO:=A_ (HO.out.below hb);replace HK:=A_ (HK.out.trans (KeepBut.of_below hb g none) (.inl rfl));clear hbox hb hg;have x0:=(blk_cell BX.out 0).trans rfl;have x1:=(blk_cell BX.out 1).trans rfl))
 have c14f:=HO.out.cell14
 rw[e14_] at c14f
 have RS:=A_ rS
 clear e0_ e1_ e2_ e7_ rF rG rS
 have cb:decide ((sl.length:Int)≤x.f1)=false:=decide_eq_false (by omega)
 go_quiet (fail)
 replace HO:=A_ (HO.out.drewN nq);replace HK:=A_ (keep_drewN HK.out nq);replace BX:=A_ (blk_drewN BX.out nq);clear x0 x1 c14f;generalize wx.drewN nq=wq at*;have x0:=(blk_cell BX.out 0).trans rfl;have x1:=(blk_cell BX.out 1).trans rfl
 obtain⟨ad,eA,hx⟩:=Kd.at_int RS.out x.f1 hz0 (by omega)
 subst eA
 have q0:=eq_true hz0
 have q1:(x.f1<(sl.length:Int))=True:=eq_true (by omega)
 go_upto_region 20 with (fail)
 have c14f:=HO.out.cell14
 rw[e14_] at c14f
 have gx_:=cl_ HO.out.2.1 hx
 go_still_tail 9,(by kernel_rfl)
 change wpList _ _ _ _ _ wq.drew
 replace HO:=A_ HO.out.drew;replace HK:=A_ (keep_drew HK.out);replace BX:=A_ (blk_drew BX.out);clear x0 x1 c14f gx_;generalize wq.drew=wt at*;have x0:=(blk_cell BX.out 0).trans rfl;have x1:=(blk_cell BX.out 1).trans rfl
 go_wp2_with (first|(go_at_call 44;refine(sput_any (rd sl x.f1) w0 _ g q _ c' A n1 _ n2 HO.out HR.out).mono ?_;rintro e w5 ⟨rfl,hE⟩;have HE:=A_ hE;clear hE))
 first|go_end0|((try simp only[Exit.inBlock,Exit.then]);refine rt_ ?_)
 exact⟨rfl,HE.out⟩
theorem other_33_no (h:Cs w0 w g q c A n1 B n2) (hm:SEnv w0 q fs gs mem res sl) (hop:x.f0=33) (hz:(sl.length:Int)≤x.f1) (hc:c'=c.fail 5):
  Calls Try.prog 48 #[.pointer (some ⟨g,0,none⟩),.agg #[.int .i64 x.f0,.int .i64 x.f1]] w fun e w'=>e=.returned (.tuple #[])∧CsE w0 w' g q c':=by
 have HO:=A_ h
 have HK:=A_ (KeepBut.refl w g none)
 have hu71:=Try.underlying71
 have HM:=A_ hm
 clear h hm
 subst hc
 have b16:=ne_ hop 16
 have b32:=ne_ hop 32
 have b33:=e1_ hop
 have d32:=nd_ hop 32
 have d33:(x.f0 !=33)=false:=by rw[hop];rfl
 clear hop
 obtain⟨AF,cF,AG,cG,AS,cS,e0_,e1_,e2_,e7_,e14_,rF,rG,rS⟩:=HM.out
 go_enter Try.func48,Try.ntmps48
 go_upto_region 15 with (first|((with_reducible refine gd_ 3 rfl ?_);refine bx_ #[.int .i64 x.f0,.int .i64 x.f1] 71 ?_;intro gx hg wx hbox hb;have BX:=A_ hbox;have NX:=A_ (HO.out.fresh_ne hg);replace HO:=A_ (HO.out.below hb);replace HK:=A_ (HK.out.trans (KeepBut.of_below hb g none) (.inl rfl));clear hbox hb hg;have x0:=(blk_cell BX.out 0).trans rfl;have x1:=(blk_cell BX.out 1).trans rfl))
 have c14f:=HO.out.cell14
 rw[e14_] at c14f
 have RS:=A_ rS
 clear e0_ e1_ e2_ e7_ rF rG rS
 have cb:=decide_eq_true hz
 go_quiet (fail)
 replace HO:=A_ (HO.out.drewN nq);replace HK:=A_ (keep_drewN HK.out nq);replace BX:=A_ (blk_drewN BX.out nq);clear x0 x1 c14f;generalize wx.drewN nq=wq at*;have x0:=(blk_cell BX.out 0).trans rfl;have x1:=(blk_cell BX.out 1).trans rfl
 go_wp2_with (first|(go_at_call 46;refine(bad_any w0 _ g q _ 5 A n1 _ n2 HO.out).mono ?_;rintro e w5 ⟨rfl,hO,hK⟩;replace HO:=A_ hO;replace HK:=A_ (HK.out.trans hK (.inl rfl));replace BX:=A_ (KeepBut.blk hK BX.out NX.out.1 (by simp));clear x0 x1 hO hK;have x0:=(blk_cell BX.out 0).trans rfl;have x1:=(blk_cell BX.out 1).trans rfl))
 first|go_end0|((try simp only[Exit.inBlock,Exit.then]);refine rt_ ?_)
 exact⟨rfl,_,_,_,_,HO.out⟩
theorem other_33 (h:Cs w0 w g q c A n1 B n2) (hm:SEnv w0 q fs gs mem res sl) (hop:x.f0=33) (hz0:0≤x.f1) (hz:x.f1<(sl.length:Int)) (u:Int) (hs:takeS c (rd sl x.f1)=some (c',u)):
  Calls Try.prog 48 #[.pointer (some ⟨g,0,none⟩),.agg #[.int .i64 x.f0,.int .i64 x.f1]] w fun e w'=>e=.returned (.tuple #[])∧CsE w0 w' g q c':=by
 have HO:=A_ h
 have HK:=A_ (KeepBut.refl w g none)
 have hu71:=Try.underlying71
 have HM:=A_ hm
 clear h hm
 have HS:=A_ hs
 clear hs
 have b16:=ne_ hop 16
 have b32:=ne_ hop 32
 have b33:=e1_ hop
 have d32:=nd_ hop 32
 have d33:(x.f0 !=33)=false:=by rw[hop];rfl
 clear hop
 obtain⟨AF,cF,AG,cG,AS,cS,e0_,e1_,e2_,e7_,e14_,rF,rG,rS⟩:=HM.out
 go_enter Try.func48,Try.ntmps48
 go_upto_region 15 with (first|((with_reducible refine gd_ 3 rfl ?_);refine bx_ #[.int .i64 x.f0,.int .i64 x.f1] 71 ?_;intro gx hg wx hbox hb;have BX:=A_ hbox;have NX:=A_ (HO.out.fresh_ne hg);replace HO:=A_ (HO.out.below hb);replace HK:=A_ (HK.out.trans (KeepBut.of_below hb g none) (.inl rfl));clear hbox hb hg;have x0:=(blk_cell BX.out 0).trans rfl;have x1:=(blk_cell BX.out 1).trans rfl))
 have c14f:=HO.out.cell14
 rw[e14_] at c14f
 have RS:=A_ rS
 clear e0_ e1_ e2_ e7_ rF rG rS
 have cb:decide ((sl.length:Int)≤x.f1)=false:=decide_eq_false (by omega)
 go_quiet (fail)
 replace HO:=A_ (HO.out.drewN nq);replace HK:=A_ (keep_drewN HK.out nq);replace BX:=A_ (blk_drewN BX.out nq);clear x0 x1 c14f;generalize wx.drewN nq=wq at*;have x0:=(blk_cell BX.out 0).trans rfl;have x1:=(blk_cell BX.out 1).trans rfl
 obtain⟨ad,eA,hx⟩:=Kd.at_int RS.out x.f1 hz0 (by omega)
 subst eA
 have q0:=eq_true hz0
 have q1:(x.f1<(sl.length:Int))=True:=eq_true (by omega)
 go_upto_region 18 with (fail)
 have c14f:=HO.out.cell14
 rw[e14_] at c14f
 have gx_:=cl_ HO.out.2.1 hx
 go_still_tail 9,(by kernel_rfl)
 change wpList _ _ _ _ _ wq.drew
 replace HO:=A_ HO.out.drew;replace HK:=A_ (keep_drew HK.out);replace BX:=A_ (blk_drew BX.out);clear x0 x1 c14f gx_;generalize wq.drew=wr at*;have x0:=(blk_cell BX.out 0).trans rfl;have x1:=(blk_cell BX.out 1).trans rfl
 go_upto_region 19 with (first|(go_at_call 43;refine(stake_any (rd sl x.f1) u w0 _ g q _ c' A n1 _ n2 HO.out HS.out).mono ?_;rintro e w5 ⟨rfl,hO,hK⟩;replace HO:=A_ hO;replace HK:=A_ (HK.out.trans hK (.inl rfl));replace BX:=A_ (KeepBut.blk hK BX.out NX.out.1 (by simp));clear x0 x1 hO hK;have x0:=(blk_cell BX.out 0).trans rfl;have x1:=(blk_cell BX.out 1).trans rfl))
 go_wp2
 first|go_end0|((try simp only[Exit.inBlock,Exit.then]);refine rt_ ?_)
 exact⟨rfl,_,_,_,_,HO.out⟩
theorem other_34_no (h:Cs w0 w g q c A n1 B n2) (hm:SEnv w0 q fs gs mem res sl) (hop:x.f0=34) (hz:(sl.length:Int)≤x.f1) (hc:c'=c.fail 5):
  Calls Try.prog 48 #[.pointer (some ⟨g,0,none⟩),.agg #[.int .i64 x.f0,.int .i64 x.f1]] w fun e w'=>e=.returned (.tuple #[])∧CsE w0 w' g q c':=by
 have HO:=A_ h
 have HK:=A_ (KeepBut.refl w g none)
 have hu71:=Try.underlying71
 have HM:=A_ hm
 clear h hm
 subst hc
 have b16:=ne_ hop 16
 have b32:=ne_ hop 32
 have b33:=ne_ hop 33
 have b34:=e1_ hop
 have d32:=nd_ hop 32
 have d33:=nd_ hop 33
 clear hop
 obtain⟨AF,cF,AG,cG,AS,cS,e0_,e1_,e2_,e7_,e14_,rF,rG,rS⟩:=HM.out
 go_enter Try.func48,Try.ntmps48
 go_upto_region 15 with (first|((with_reducible refine gd_ 3 rfl ?_);refine bx_ #[.int .i64 x.f0,.int .i64 x.f1] 71 ?_;intro gx hg wx hbox hb;have BX:=A_ hbox;have NX:=A_ (HO.out.fresh_ne hg);replace HO:=A_ (HO.out.below hb);replace HK:=A_ (HK.out.trans (KeepBut.of_below hb g none) (.inl rfl));clear hbox hb hg;have x0:=(blk_cell BX.out 0).trans rfl;have x1:=(blk_cell BX.out 1).trans rfl))
 have c14f:=HO.out.cell14
 rw[e14_] at c14f
 have RS:=A_ rS
 clear e0_ e1_ e2_ e7_ rF rG rS
 have cb:=decide_eq_true hz
 go_quiet (fail)
 replace HO:=A_ (HO.out.drewN nq);replace HK:=A_ (keep_drewN HK.out nq);replace BX:=A_ (blk_drewN BX.out nq);clear x0 x1 c14f;generalize wx.drewN nq=wq at*;have x0:=(blk_cell BX.out 0).trans rfl;have x1:=(blk_cell BX.out 1).trans rfl
 go_wp2_with (first|(go_at_call 46;refine(bad_any w0 _ g q _ 5 A n1 _ n2 HO.out).mono ?_;rintro e w5 ⟨rfl,hO,hK⟩;replace HO:=A_ hO;replace HK:=A_ (HK.out.trans hK (.inl rfl));replace BX:=A_ (KeepBut.blk hK BX.out NX.out.1 (by simp));clear x0 x1 hO hK;have x0:=(blk_cell BX.out 0).trans rfl;have x1:=(blk_cell BX.out 1).trans rfl))
 first|go_end0|((try simp only[Exit.inBlock,Exit.then]);refine rt_ ?_)
 exact⟨rfl,_,_,_,_,HO.out⟩
theorem other_34 (h:Cs w0 w g q c A n1 B n2) (hm:SEnv w0 q fs gs mem res sl) (hop:x.f0=34) (hz0:0≤x.f1) (hz:x.f1<(sl.length:Int)) (c1:CS S91) (u:Int) (hs:takeS c (rd sl x.f1)=some (c1,u)) (hr:c1.put (rd sl x.f1)=some c'):
  Calls Try.prog 48 #[.pointer (some ⟨g,0,none⟩),.agg #[.int .i64 x.f0,.int .i64 x.f1]] w fun e w'=>e=.returned (.tuple #[])∧CsE w0 w' g q c':=by
 have HO:=A_ h
 have HK:=A_ (KeepBut.refl w g none)
 have hu71:=Try.underlying71
 have HM:=A_ hm
 clear h hm
 have HR:=A_ hr;have HS:=A_ hs
 clear hr hs
 have b16:=ne_ hop 16
 have b32:=ne_ hop 32
 have b33:=ne_ hop 33
 have b34:=e1_ hop
 have d32:=nd_ hop 32
 have d33:=nd_ hop 33
 clear hop
 obtain⟨AF,cF,AG,cG,AS,cS,e0_,e1_,e2_,e7_,e14_,rF,rG,rS⟩:=HM.out
 go_enter Try.func48,Try.ntmps48
 go_upto_region 15 with (first|((with_reducible refine gd_ 3 rfl ?_);refine bx_ #[.int .i64 x.f0,.int .i64 x.f1] 71 ?_;intro gx hg wx hbox hb;have BX:=A_ hbox;have NX:=A_ (HO.out.fresh_ne hg);replace HO:=A_ (HO.out.below hb);replace HK:=A_ (HK.out.trans (KeepBut.of_below hb g none) (.inl rfl));clear hbox hb hg;have x0:=(blk_cell BX.out 0).trans rfl;have x1:=(blk_cell BX.out 1).trans rfl))
 have c14f:=HO.out.cell14
 rw[e14_] at c14f
 have RS:=A_ rS
 clear e0_ e1_ e2_ e7_ rF rG rS
 have cb:decide ((sl.length:Int)≤x.f1)=false:=decide_eq_false (by omega)
 go_quiet (fail)
 replace HO:=A_ (HO.out.drewN nq);replace HK:=A_ (keep_drewN HK.out nq);replace BX:=A_ (blk_drewN BX.out nq);clear x0 x1 c14f;generalize wx.drewN nq=wq at*;have x0:=(blk_cell BX.out 0).trans rfl;have x1:=(blk_cell BX.out 1).trans rfl
 obtain⟨ad,eA,hx⟩:=Kd.at_int RS.out x.f1 hz0 (by omega)
 subst eA
 have q0:=eq_true hz0
 have q1:(x.f1<(sl.length:Int))=True:=eq_true (by omega)
 go_upto_region 18 with (fail)
 have c14f:=HO.out.cell14
 rw[e14_] at c14f
 have gx_:=cl_ HO.out.2.1 hx
 go_still_tail 9,(by kernel_rfl)
 change wpList _ _ _ _ _ wq.drew
 replace HO:=A_ HO.out.drew;replace HK:=A_ (keep_drew HK.out);replace BX:=A_ (blk_drew BX.out);clear x0 x1 c14f gx_;generalize wq.drew=wr at*;have x0:=(blk_cell BX.out 0).trans rfl;have x1:=(blk_cell BX.out 1).trans rfl
 go_upto_region 19 with (first|(go_at_call 43;refine(stake_any (rd sl x.f1) u w0 _ g q _ c1 A n1 _ n2 HO.out HS.out).mono ?_;rintro e w5 ⟨rfl,hO,hK⟩;replace HO:=A_ hO;replace HK:=A_ (HK.out.trans hK (.inl rfl));replace BX:=A_ (KeepBut.blk hK BX.out NX.out.1 (by simp));clear x0 x1 hO hK;have x0:=(blk_cell BX.out 0).trans rfl;have x1:=(blk_cell BX.out 1).trans rfl))
 go_upto_region 20 with (fail)
 have c14f:=HO.out.cell14
 rw[e14_] at c14f
 have gx_:=cl_ HO.out.2.1 hx
 go_still_tail 9,(by kernel_rfl)
 change wpList _ _ _ _ _ w5.drew
 replace HO:=A_ HO.out.drew;replace HK:=A_ (keep_drew HK.out);replace BX:=A_ (blk_drew BX.out);clear x0 x1 c14f gx_;generalize w5.drew=wt at*;have x0:=(blk_cell BX.out 0).trans rfl;have x1:=(blk_cell BX.out 1).trans rfl
 go_wp2_with (first|(go_at_call 44;refine(sput_any (rd sl x.f1) w0 _ g q _ c' A n1 _ n2 HO.out HR.out).mono ?_;rintro e w5 ⟨rfl,hE⟩;have HE:=A_ hE;clear hE))
 first|go_end0|((try simp only[Exit.inBlock,Exit.then]);refine rt_ ?_)
 exact⟨rfl,HE.out⟩

def spec_l7other.T25:Bool × List (List Nat × List Nat):=(true,[([],[]),([0],[0]),([1],[1]),([2],[2]),([3],[3]),([],[]),([5],[5]),([4,6],[4,6]),([7],[7]),([],[]),([9,8,0,1,2,3,4,5,6,7,8,9],[8,9])])
def spec_l7other.B25:List Nat:=[0,1,3,7,15,0,32,127,255,0,1023]
theorem spec_l7other.tab25:rtab .any (opsOf Try.f48 25)=spec_l7other.T25:=by kernel_rfl
theorem spec_l7other.bits25:waitsOk spec_l7other.T25.2 spec_l7other.B25=true:=by kernel_rfl
theorem other_35_no (h:Cs w0 w g q c A n1 B n2) (hm:SEnv w0 q fs gs mem res sl) (hop:x.f0=35) (hz:(gs.length:Int)≤x.f1) (hc:c'=c.fail 5):
  Calls Try.prog 48 #[.pointer (some ⟨g,0,none⟩),.agg #[.int .i64 x.f0,.int .i64 x.f1]] w fun e w'=>e=.returned (.tuple #[])∧CsE w0 w' g q c':=by
 have HO:=A_ h
 have HK:=A_ (KeepBut.refl w g none)
 have hu71:=Try.underlying71
 have HM:=A_ hm
 clear h hm
 subst hc
 have b16:=ne_ hop 16
 have b32:=ne_ hop 32
 have b33:=ne_ hop 33
 have b34:=ne_ hop 34
 have b35:=e1_ hop
 clear hop
 obtain⟨AF,cF,AG,cG,AS,cS,e0_,e1_,e2_,e7_,e14_,rF,rG,rS⟩:=HM.out
 go_enter Try.func48,Try.ntmps48
 go_upto_region 23 with (first|((with_reducible refine gd_ 3 rfl ?_);refine bx_ #[.int .i64 x.f0,.int .i64 x.f1] 71 ?_;intro gx hg wx hbox hb;have BX:=A_ hbox;have NX:=A_ (HO.out.fresh_ne hg);replace HO:=A_ (HO.out.below hb);replace HK:=A_ (HK.out.trans (KeepBut.of_below hb g none) (.inl rfl));clear hbox hb hg;have x0:=(blk_cell BX.out 0).trans rfl;have x1:=(blk_cell BX.out 1).trans rfl))
 have c1f:=HO.out.cell1
 rw[e1_] at c1f
 have RG:=A_ rG;have E1:=A_ e1_
 clear e0_ e1_ e2_ e7_ e14_ rF rG rS
 have cb:=decide_eq_true hz
 go_quiet (fail)
 replace HO:=A_ (HO.out.drewN nq);replace HK:=A_ (keep_drewN HK.out nq);replace BX:=A_ (blk_drewN BX.out nq);clear x0 x1 c1f;generalize wx.drewN nq=wq at*;have x0:=(blk_cell BX.out 0).trans rfl;have x1:=(blk_cell BX.out 1).trans rfl
 go_wp2_with (first|(go_at_call 46;refine(bad_any w0 _ g q _ 5 A n1 _ n2 HO.out).mono ?_;rintro e w5 ⟨rfl,hO,hK⟩;replace HO:=A_ hO;replace HK:=A_ (HK.out.trans hK (.inl rfl));replace BX:=A_ (KeepBut.blk hK BX.out NX.out.1 (by simp));clear x0 x1 hO hK;have x0:=(blk_cell BX.out 0).trans rfl;have x1:=(blk_cell BX.out 1).trans rfl))
 first|go_end0|((try simp only[Exit.inBlock,Exit.then]);refine rt_ ?_)
 exact⟨rfl,_,_,_,_,HO.out⟩
theorem other_36_no (h:Cs w0 w g q c A n1 B n2) (hm:SEnv w0 q fs gs mem res sl) (hop:x.f0=36) (hz:(gs.length:Int)≤x.f1) (hc:c'=c.fail 5):
  Calls Try.prog 48 #[.pointer (some ⟨g,0,none⟩),.agg #[.int .i64 x.f0,.int .i64 x.f1]] w fun e w'=>e=.returned (.tuple #[])∧CsE w0 w' g q c':=by
 have HO:=A_ h
 have HK:=A_ (KeepBut.refl w g none)
 have hu71:=Try.underlying71
 have HM:=A_ hm
 clear h hm
 subst hc
 have b16:=ne_ hop 16
 have b32:=ne_ hop 32
 have b33:=ne_ hop 33
 have b34:=ne_ hop 34
 have b35:=ne_ hop 35
 have b36:=e1_ hop
 clear hop
 obtain⟨AF,cF,AG,cG,AS,cS,e0_,e1_,e2_,e7_,e14_,rF,rG,rS⟩:=HM.out
 go_enter Try.func48,Try.ntmps48
 go_upto_region 23 with (first|((with_reducible refine gd_ 3 rfl ?_);refine bx_ #[.int .i64 x.f0,.int .i64 x.f1] 71 ?_;intro gx hg wx hbox hb;have BX:=A_ hbox;have NX:=A_ (HO.out.fresh_ne hg);replace HO:=A_ (HO.out.below hb);replace HK:=A_ (HK.out.trans (KeepBut.of_below hb g none) (.inl rfl));clear hbox hb hg;have x0:=(blk_cell BX.out 0).trans rfl;have x1:=(blk_cell BX.out 1).trans rfl))
 have c1f:=HO.out.cell1
 rw[e1_] at c1f
 have RG:=A_ rG;have E1:=A_ e1_
 clear e0_ e1_ e2_ e7_ e14_ rF rG rS
 have cb:=decide_eq_true hz
 go_quiet (fail)
 replace HO:=A_ (HO.out.drewN nq);replace HK:=A_ (keep_drewN HK.out nq);replace BX:=A_ (blk_drewN BX.out nq);clear x0 x1 c1f;generalize wx.drewN nq=wq at*;have x0:=(blk_cell BX.out 0).trans rfl;have x1:=(blk_cell BX.out 1).trans rfl
 go_wp2_with (first|(go_at_call 46;refine(bad_any w0 _ g q _ 5 A n1 _ n2 HO.out).mono ?_;rintro e w5 ⟨rfl,hO,hK⟩;replace HO:=A_ hO;replace HK:=A_ (HK.out.trans hK (.inl rfl));replace BX:=A_ (KeepBut.blk hK BX.out NX.out.1 (by simp));clear x0 x1 hO hK;have x0:=(blk_cell BX.out 0).trans rfl;have x1:=(blk_cell BX.out 1).trans rfl))
 first|go_end0|((try simp only[Exit.inBlock,Exit.then]);refine rt_ ?_)
 exact⟨rfl,_,_,_,_,HO.out⟩
theorem other_35 (h:Cs w0 w g q c A n1 B n2) (hm:SEnv w0 q fs gs mem res sl) (hop:x.f0=35) (hz0:0≤x.f1) (hz:x.f1<(gs.length:Int)) (hr:c.put (rd_T63 gs x.f1).f0=some c'):
  Calls Try.prog 48 #[.pointer (some ⟨g,0,none⟩),.agg #[.int .i64 x.f0,.int .i64 x.f1]] w fun e w'=>e=.returned (.tuple #[])∧CsE w0 w' g q c':=by
 have HO:=A_ h
 have HK:=A_ (KeepBut.refl w g none)
 have hu71:=Try.underlying71
 have HM:=A_ hm
 clear h hm
 have HR:=A_ hr
 clear hr
 have b16:=ne_ hop 16
 have b32:=ne_ hop 32
 have b33:=ne_ hop 33
 have b34:=ne_ hop 34
 have b35:=e1_ hop
 clear hop
 obtain⟨AF,cF,AG,cG,AS,cS,e0_,e1_,e2_,e7_,e14_,rF,rG,rS⟩:=HM.out
 go_enter Try.func48,Try.ntmps48
 go_upto_region 23 with (first|((with_reducible refine gd_ 3 rfl ?_);refine bx_ #[.int .i64 x.f0,.int .i64 x.f1] 71 ?_;intro gx hg wx hbox hb;have BX:=A_ hbox;have NX:=A_ (HO.out.fresh_ne hg);replace HO:=A_ (HO.out.below hb);replace HK:=A_ (HK.out.trans (KeepBut.of_below hb g none) (.inl rfl));clear hbox hb hg;have x0:=(blk_cell BX.out 0).trans rfl;have x1:=(blk_cell BX.out 1).trans rfl))
 have c1f:=HO.out.cell1
 rw[e1_] at c1f
 have RG:=A_ rG;have E1:=A_ e1_
 clear e0_ e1_ e2_ e7_ e14_ rF rG rS
 have cb:decide ((gs.length:Int)≤x.f1)=false:=decide_eq_false (by omega)
 obtain⟨ad,eA,g0_,g1_,g2_⟩:=at_T63 RG.out x.f1 hz0 (by omega)
 subst eA
 have q0:=eq_true hz0
 have q1:(x.f1<(gs.length:Int))=True:=eq_true (by omega)
 have hu63:=Try.underlying63
 go_quiet (fail)
 replace HO:=A_ (HO.out.drewN nq);replace HK:=A_ (keep_drewN HK.out nq);replace BX:=A_ (blk_drewN BX.out nq);clear x0 x1 c1f;generalize wx.drewN nq=wq at*;have x0:=(blk_cell BX.out 0).trans rfl;have x1:=(blk_cell BX.out 1).trans rfl
 have c1f:=HO.out.cell1
 rw[E1.out] at c1f
 replace g0_:=cl_ HO.out.2.1 g0_
 replace g1_:=cl_ HO.out.2.1 g1_
 replace g2_:=cl_ HO.out.2.1 g2_
 go_upto_region 25 with (fail)
 refine sS 11 (fun w'=>w'.cell? ⟨g,1,none⟩=some (.slice (some ad) gs.length cG)∧w'.cell? ⟨gx,1,none⟩=some (.int .i64 x.f1)∧w'.cell? (ad.add (x.f1.toNat*3))=some (.int .i64 (rd_T63 gs x.f1).f0)∧w'.cell? ⟨(ad.add (x.f1.toNat*3)).block,(ad.add (x.f1.toNat*3)).off+1,none⟩=some (.bool (rd_T63 gs x.f1).f1)∧w'.cell? ⟨(ad.add (x.f1.toNat*3)).block,(ad.add (x.f1.toNat*3)).off+2,none⟩=some (.int .u64 (rd_T63 gs x.f1).f2)) [10] ⟨c1f,x1,g0_,g1_,g2_⟩ spec_l7other.tab25 spec_l7other.bits25 (fun hHeld HT_ HW_=>?_)
 replace HO:=A_ HO.out.drew;replace HK:=A_ (keep_drew HK.out);replace BX:=A_ (blk_drew BX.out);clear c1f g0_ g1_ g2_ x0 x1;generalize wq.drew=wd at*
 refine pS HT_ 0 108 ?_
 refine pS HT_ 1 109 ?_
 refine pS HT_ 2 110 ?_
 refine pS HT_ 3 111 ?_
 refine pS HT_ 5 113 ?_
 refine tS HT_ HW_ 4 112 hHeld ?_
 refine tS HT_ HW_ 6 114 hHeld ?_
 refine pS HT_ 7 115 ?_
 refine tS HT_ HW_ 8 116 hHeld ?_
 refine oS HT_ 9 (some 6) (fun K hK=>?_)
 refine box_step (by rfl) (N:=6) ?hd (cs:=#[(.int .i64 0),(.bool false),(.int .u64 0)]) (t:=63) ?hr ?_;(case hd=>rfl);(case hr=>first|(go_simp;done)|(go_simp;rfl))
 intro gy hg wx hbox hb
 have BY:=A_ hbox;have GY:=A_ (show w.heap.size≤gy from by rw[hg];exact HK.out.1);have NY:=A_ (HO.out.fresh_ne hg);have GG:=A_ (Nat.le_trans HO.out.2.1.size (Nat.le_of_eq hg.symm));have m0:=A_ (HO.out.below hb);have m1:=A_ (HK.out.trans (KeepBut.of_below hb g none) (.inl rfl));have m4:=A_ (blk_below BX.out hb);have NXY:=A_ (show gx≠gy from by rw[hg];have:=blk_lt BX.out;omega)
 obtain⟨s0_,s1_,s2_,s3_,s4_⟩:=hHeld
 have hHeld2:=A_ (show wx.cell? ⟨g,1,none⟩=some (.slice (some ad) gs.length cG)∧wx.cell? ⟨gx,1,none⟩=some (.int .i64 x.f1)∧wx.cell? (ad.add (x.f1.toNat*3))=some (.int .i64 (rd_T63 gs x.f1).f0)∧wx.cell? ⟨(ad.add (x.f1.toNat*3)).block,(ad.add (x.f1.toNat*3)).off+1,none⟩=some (.bool (rd_T63 gs x.f1).f1)∧wx.cell? ⟨(ad.add (x.f1.toNat*3)).block,(ad.add (x.f1.toNat*3)).off+2,none⟩=some (.int .u64 (rd_T63 gs x.f1).f2) from ⟨cl_ hb s0_,cl_ hb s1_,cl_ hb s2_,cl_ hb s3_,cl_ hb s4_⟩)
 clear HO HK BX hbox hb hg s0_ s1_ s2_ s3_ s4_;have HO:=m0;have HK:=m1;have BX:=m4;clear m0 m1 m4
 have z0:=(blk_cell BY.out 0).trans rfl;have v0:=blk_frozen BY.out 0;have z1:=(blk_cell BY.out 1).trans rfl;have v1:=blk_frozen BY.out 1;have z2:=(blk_cell BY.out 2).trans rfl;have v2:=blk_frozen BY.out 2
 refine hK.out _ _ hHeld2.out (fun hHeld=>?_)
 clear hK K
 refine nS (some 6) ?_
 refine lS HT_ 10 (none) (fun K hK=>?_)
 refine skip_ (w1:=(((wx.setCell ⟨gy,0,none⟩ ((.int .i64 (rd_T63 gs x.f1).f0))).setCell ⟨gy,1,none⟩ ((.bool (rd_T63 gs x.f1).f1))).setCell ⟨gy,2,none⟩ ((.int .u64 (rd_T63 gs x.f1).f2)))) (by rfl) rfl (by first|(go_simp;done)|(go_simp;rfl)) ?_
 clear hHeld hHeld2 z0 v0 z1 v1 z2 v2
 refine hK.out _ _ ?_
 clear hK K
 refine dS HT_ ?_
 replace BY:=A_ (show((((wx.setCell ⟨gy,0,none⟩ ((.int .i64 (rd_T63 gs x.f1).f0))).setCell ⟨gy,1,none⟩ ((.bool (rd_T63 gs x.f1).f1))).setCell ⟨gy,2,none⟩ ((.int .u64 (rd_T63 gs x.f1).f2)))).heap[gy]? =some (.cells #[(.int .i64 (rd_T63 gs x.f1).f0),(.bool (rd_T63 gs x.f1).f1),(.int .u64 (rd_T63 gs x.f1).f2)] 63 (0,0)) from blk_put (cs:=#[(.int .i64 (rd_T63 gs x.f1).f0),(.bool (rd_T63 gs x.f1).f1),(.int .u64 0)]) (blk_put (cs:=#[(.int .i64 (rd_T63 gs x.f1).f0),(.bool false),(.int .u64 0)]) (blk_put (cs:=#[(.int .i64 0),(.bool false),(.int .u64 0)]) (BY.out) 0 ((.int .i64 (rd_T63 gs x.f1).f0)) rfl) 1 ((.bool (rd_T63 gs x.f1).f1)) rfl) 2 ((.int .u64 (rd_T63 gs x.f1).f2)) rfl);replace HO:=A_ (Cs.other (Cs.other (Cs.other (HO.out) GG.out NY.out 0 ((.int .i64 (rd_T63 gs x.f1).f0))) GG.out NY.out 1 ((.bool (rd_T63 gs x.f1).f1))) GG.out NY.out 2 ((.int .u64 (rd_T63 gs x.f1).f2)));replace HK:=A_ (keep_other (keep_other (keep_other (HK.out) GY.out 0 ((.int .i64 (rd_T63 gs x.f1).f0))) GY.out 1 ((.bool (rd_T63 gs x.f1).f1))) GY.out 2 ((.int .u64 (rd_T63 gs x.f1).f2)));replace BX:=A_ (show(((wx.setCell ⟨gy,0,none⟩ ((.int .i64 (rd_T63 gs x.f1).f0))).setCell ⟨gy,1,none⟩ ((.bool (rd_T63 gs x.f1).f1))).setCell ⟨gy,2,none⟩ ((.int .u64 (rd_T63 gs x.f1).f2))).heap[gx]? =some (.cells #[.int .i64 x.f0,.int .i64 x.f1] 71 (0,0)) from(Below.heap_setCell ((wx.setCell ⟨gy,0,none⟩ ((.int .i64 (rd_T63 gs x.f1).f0))).setCell ⟨gy,1,none⟩ ((.bool (rd_T63 gs x.f1).f1))) ⟨gy,2,none⟩ ((.int .u64 (rd_T63 gs x.f1).f2)) gx NXY.out).trans ((Below.heap_setCell (wx.setCell ⟨gy,0,none⟩ ((.int .i64 (rd_T63 gs x.f1).f0))) ⟨gy,1,none⟩ ((.bool (rd_T63 gs x.f1).f1)) gx NXY.out).trans ((Below.heap_setCell wx ⟨gy,0,none⟩ ((.int .i64 (rd_T63 gs x.f1).f0)) gx NXY.out).trans (BX.out))));generalize (((wx.setCell ⟨gy,0,none⟩ ((.int .i64 (rd_T63 gs x.f1).f0))).setCell ⟨gy,1,none⟩ ((.bool (rd_T63 gs x.f1).f1))).setCell ⟨gy,2,none⟩ ((.int .u64 (rd_T63 gs x.f1).f2)))=wy at*;have x0:=(blk_cell BX.out 0).trans rfl;have x1:=(blk_cell BX.out 1).trans rfl
 have y0:=(blk_cell BY.out 0).trans rfl;have y1:=(blk_cell BY.out 1).trans rfl;have y2:=(blk_cell BY.out 2).trans rfl
 go_wp2_with (first|(go_at_call 44;refine(sput_any (rd_T63 gs x.f1).f0 w0 _ g q _ c' A n1 _ n2 HO.out HR.out).mono ?_;rintro e w5 ⟨rfl,hE⟩;have HE:=A_ hE;clear hE))
 first|go_end0|((try simp only[Exit.inBlock,Exit.then]);refine rt_ ?_)
 exact⟨rfl,HE.out⟩
theorem other_36_f (h:Cs w0 w g q c A n1 B n2) (hm:SEnv w0 q fs gs mem res sl) (hop:x.f0=36) (hz0:0≤x.f1) (hz:x.f1<(gs.length:Int)) (hx:(rd_T63 gs x.f1).f1=true) (u:Int) (hr:takeS (c.fail 7) (rd_T63 gs x.f1).f0=some (c',u)):
  Calls Try.prog 48 #[.pointer (some ⟨g,0,none⟩),.agg #[.int .i64 x.f0,.int .i64 x.f1]] w fun e w'=>e=.returned (.tuple #[])∧CsE w0 w' g q c':=by
 have HO:=A_ h
 have HK:=A_ (KeepBut.refl w g none)
 have hu71:=Try.underlying71
 have HM:=A_ hm
 clear h hm
 have HR:=A_ hr;have HX:=A_ hx
 clear hr hx
 have b16:=ne_ hop 16
 have b32:=ne_ hop 32
 have b33:=ne_ hop 33
 have b34:=ne_ hop 34
 have b35:=ne_ hop 35
 have b36:=e1_ hop
 clear hop
 obtain⟨AF,cF,AG,cG,AS,cS,e0_,e1_,e2_,e7_,e14_,rF,rG,rS⟩:=HM.out
 go_enter Try.func48,Try.ntmps48
 go_upto_region 23 with (first|((with_reducible refine gd_ 3 rfl ?_);refine bx_ #[.int .i64 x.f0,.int .i64 x.f1] 71 ?_;intro gx hg wx hbox hb;have BX:=A_ hbox;have NX:=A_ (HO.out.fresh_ne hg);replace HO:=A_ (HO.out.below hb);replace HK:=A_ (HK.out.trans (KeepBut.of_below hb g none) (.inl rfl));clear hbox hb hg;have x0:=(blk_cell BX.out 0).trans rfl;have x1:=(blk_cell BX.out 1).trans rfl))
 have c1f:=HO.out.cell1
 rw[e1_] at c1f
 have RG:=A_ rG;have E1:=A_ e1_
 clear e0_ e1_ e2_ e7_ e14_ rF rG rS
 have cb:decide ((gs.length:Int)≤x.f1)=false:=decide_eq_false (by omega)
 obtain⟨ad,eA,g0_,g1_,g2_⟩:=at_T63 RG.out x.f1 hz0 (by omega)
 subst eA
 have q0:=eq_true hz0
 have q1:(x.f1<(gs.length:Int))=True:=eq_true (by omega)
 have hu63:=Try.underlying63
 go_quiet (fail)
 replace HO:=A_ (HO.out.drewN nq);replace HK:=A_ (keep_drewN HK.out nq);replace BX:=A_ (blk_drewN BX.out nq);clear x0 x1 c1f;generalize wx.drewN nq=wq at*;have x0:=(blk_cell BX.out 0).trans rfl;have x1:=(blk_cell BX.out 1).trans rfl
 have c1f:=HO.out.cell1
 rw[E1.out] at c1f
 replace g0_:=cl_ HO.out.2.1 g0_
 replace g1_:=cl_ HO.out.2.1 g1_
 replace g2_:=cl_ HO.out.2.1 g2_
 go_upto_region 25 with (fail)
 refine sS 11 (fun w'=>w'.cell? ⟨g,1,none⟩=some (.slice (some ad) gs.length cG)∧w'.cell? ⟨gx,1,none⟩=some (.int .i64 x.f1)∧w'.cell? (ad.add (x.f1.toNat*3))=some (.int .i64 (rd_T63 gs x.f1).f0)∧w'.cell? ⟨(ad.add (x.f1.toNat*3)).block,(ad.add (x.f1.toNat*3)).off+1,none⟩=some (.bool (rd_T63 gs x.f1).f1)∧w'.cell? ⟨(ad.add (x.f1.toNat*3)).block,(ad.add (x.f1.toNat*3)).off+2,none⟩=some (.int .u64 (rd_T63 gs x.f1).f2)) [10] ⟨c1f,x1,g0_,g1_,g2_⟩ spec_l7other.tab25 spec_l7other.bits25 (fun hHeld HT_ HW_=>?_)
 replace HO:=A_ HO.out.drew;replace HK:=A_ (keep_drew HK.out);replace BX:=A_ (blk_drew BX.out);clear c1f g0_ g1_ g2_ x0 x1;generalize wq.drew=wd at*
 refine pS HT_ 0 108 ?_
 refine pS HT_ 1 109 ?_
 refine pS HT_ 2 110 ?_
 refine pS HT_ 3 111 ?_
 refine pS HT_ 5 113 ?_
 refine tS HT_ HW_ 4 112 hHeld ?_
 refine tS HT_ HW_ 6 114 hHeld ?_
 refine pS HT_ 7 115 ?_
 refine tS HT_ HW_ 8 116 hHeld ?_
 refine oS HT_ 9 (some 6) (fun K hK=>?_)
 refine box_step (by rfl) (N:=6) ?hd (cs:=#[(.int .i64 0),(.bool false),(.int .u64 0)]) (t:=63) ?hr ?_;(case hd=>rfl);(case hr=>first|(go_simp;done)|(go_simp;rfl))
 intro gy hg wx hbox hb
 have BY:=A_ hbox;have GY:=A_ (show w.heap.size≤gy from by rw[hg];exact HK.out.1);have NY:=A_ (HO.out.fresh_ne hg);have GG:=A_ (Nat.le_trans HO.out.2.1.size (Nat.le_of_eq hg.symm));have m0:=A_ (HO.out.below hb);have m1:=A_ (HK.out.trans (KeepBut.of_below hb g none) (.inl rfl));have m4:=A_ (blk_below BX.out hb);have NXY:=A_ (show gx≠gy from by rw[hg];have:=blk_lt BX.out;omega)
 obtain⟨s0_,s1_,s2_,s3_,s4_⟩:=hHeld
 have hHeld2:=A_ (show wx.cell? ⟨g,1,none⟩=some (.slice (some ad) gs.length cG)∧wx.cell? ⟨gx,1,none⟩=some (.int .i64 x.f1)∧wx.cell? (ad.add (x.f1.toNat*3))=some (.int .i64 (rd_T63 gs x.f1).f0)∧wx.cell? ⟨(ad.add (x.f1.toNat*3)).block,(ad.add (x.f1.toNat*3)).off+1,none⟩=some (.bool (rd_T63 gs x.f1).f1)∧wx.cell? ⟨(ad.add (x.f1.toNat*3)).block,(ad.add (x.f1.toNat*3)).off+2,none⟩=some (.int .u64 (rd_T63 gs x.f1).f2) from ⟨cl_ hb s0_,cl_ hb s1_,cl_ hb s2_,cl_ hb s3_,cl_ hb s4_⟩)
 clear HO HK BX hbox hb hg s0_ s1_ s2_ s3_ s4_;have HO:=m0;have HK:=m1;have BX:=m4;clear m0 m1 m4
 have z0:=(blk_cell BY.out 0).trans rfl;have v0:=blk_frozen BY.out 0;have z1:=(blk_cell BY.out 1).trans rfl;have v1:=blk_frozen BY.out 1;have z2:=(blk_cell BY.out 2).trans rfl;have v2:=blk_frozen BY.out 2
 refine hK.out _ _ hHeld2.out (fun hHeld=>?_)
 clear hK K
 refine nS (some 6) ?_
 refine lS HT_ 10 (none) (fun K hK=>?_)
 refine skip_ (w1:=(((wx.setCell ⟨gy,0,none⟩ ((.int .i64 (rd_T63 gs x.f1).f0))).setCell ⟨gy,1,none⟩ ((.bool (rd_T63 gs x.f1).f1))).setCell ⟨gy,2,none⟩ ((.int .u64 (rd_T63 gs x.f1).f2)))) (by rfl) rfl (by first|(go_simp;done)|(go_simp;rfl)) ?_
 clear hHeld hHeld2 z0 v0 z1 v1 z2 v2
 refine hK.out _ _ ?_
 clear hK K
 refine dS HT_ ?_
 replace BY:=A_ (show((((wx.setCell ⟨gy,0,none⟩ ((.int .i64 (rd_T63 gs x.f1).f0))).setCell ⟨gy,1,none⟩ ((.bool (rd_T63 gs x.f1).f1))).setCell ⟨gy,2,none⟩ ((.int .u64 (rd_T63 gs x.f1).f2)))).heap[gy]? =some (.cells #[(.int .i64 (rd_T63 gs x.f1).f0),(.bool (rd_T63 gs x.f1).f1),(.int .u64 (rd_T63 gs x.f1).f2)] 63 (0,0)) from blk_put (cs:=#[(.int .i64 (rd_T63 gs x.f1).f0),(.bool (rd_T63 gs x.f1).f1),(.int .u64 0)]) (blk_put (cs:=#[(.int .i64 (rd_T63 gs x.f1).f0),(.bool false),(.int .u64 0)]) (blk_put (cs:=#[(.int .i64 0),(.bool false),(.int .u64 0)]) (BY.out) 0 ((.int .i64 (rd_T63 gs x.f1).f0)) rfl) 1 ((.bool (rd_T63 gs x.f1).f1)) rfl) 2 ((.int .u64 (rd_T63 gs x.f1).f2)) rfl);replace HO:=A_ (Cs.other (Cs.other (Cs.other (HO.out) GG.out NY.out 0 ((.int .i64 (rd_T63 gs x.f1).f0))) GG.out NY.out 1 ((.bool (rd_T63 gs x.f1).f1))) GG.out NY.out 2 ((.int .u64 (rd_T63 gs x.f1).f2)));replace HK:=A_ (keep_other (keep_other (keep_other (HK.out) GY.out 0 ((.int .i64 (rd_T63 gs x.f1).f0))) GY.out 1 ((.bool (rd_T63 gs x.f1).f1))) GY.out 2 ((.int .u64 (rd_T63 gs x.f1).f2)));replace BX:=A_ (show(((wx.setCell ⟨gy,0,none⟩ ((.int .i64 (rd_T63 gs x.f1).f0))).setCell ⟨gy,1,none⟩ ((.bool (rd_T63 gs x.f1).f1))).setCell ⟨gy,2,none⟩ ((.int .u64 (rd_T63 gs x.f1).f2))).heap[gx]? =some (.cells #[.int .i64 x.f0,.int .i64 x.f1] 71 (0,0)) from(Below.heap_setCell ((wx.setCell ⟨gy,0,none⟩ ((.int .i64 (rd_T63 gs x.f1).f0))).setCell ⟨gy,1,none⟩ ((.bool (rd_T63 gs x.f1).f1))) ⟨gy,2,none⟩ ((.int .u64 (rd_T63 gs x.f1).f2)) gx NXY.out).trans ((Below.heap_setCell (wx.setCell ⟨gy,0,none⟩ ((.int .i64 (rd_T63 gs x.f1).f0))) ⟨gy,1,none⟩ ((.bool (rd_T63 gs x.f1).f1)) gx NXY.out).trans ((Below.heap_setCell wx ⟨gy,0,none⟩ ((.int .i64 (rd_T63 gs x.f1).f0)) gx NXY.out).trans (BX.out))));generalize (((wx.setCell ⟨gy,0,none⟩ ((.int .i64 (rd_T63 gs x.f1).f0))).setCell ⟨gy,1,none⟩ ((.bool (rd_T63 gs x.f1).f1))).setCell ⟨gy,2,none⟩ ((.int .u64 (rd_T63 gs x.f1).f2)))=wy at*;have x0:=(blk_cell BX.out 0).trans rfl;have x1:=(blk_cell BX.out 1).trans rfl
 have y0:=(blk_cell BY.out 0).trans rfl;have y1:=(blk_cell BY.out 1).trans rfl;have y2:=(blk_cell BY.out 2).trans rfl
 rw[HX.out] at y1
 go_wp2_with (first|(go_at_call 46;refine(bad_any w0 _ g q _ 7 A n1 _ n2 HO.out).mono ?_;rintro e w5 ⟨rfl,hO,hK⟩;replace HO:=A_ hO;replace HK:=A_ (HK.out.trans hK (.inl rfl));replace BY:=A_ (KeepBut.blk hK BY.out NY.out.1 (by simp));clear BX x0 x1 y0 y1 y2 hO hK;have y0:=(blk_cell BY.out 0).trans rfl)|(go_at_call 43;refine(stake_any (rd_T63 gs x.f1).f0 u w0 _ g q _ c' A n1 _ n2 HO.out HR.out).mono ?_;rintro e w5 ⟨rfl,hO,hK⟩;replace HO:=A_ hO;clear HK hO hK))
 first|go_end0|((try simp only[Exit.inBlock,Exit.then]);refine rt_ ?_)
 exact⟨rfl,_,_,_,_,HO.out⟩
theorem other_36 (h:Cs w0 w g q c A n1 B n2) (hm:SEnv w0 q fs gs mem res sl) (hop:x.f0=36) (hz0:0≤x.f1) (hz:x.f1<(gs.length:Int)) (hx:(rd_T63 gs x.f1).f1=false) (u:Int) (hr:takeS c (rd_T63 gs x.f1).f0=some (c',u)):
  Calls Try.prog 48 #[.pointer (some ⟨g,0,none⟩),.agg #[.int .i64 x.f0,.int .i64 x.f1]] w fun e w'=>e=.returned (.tuple #[])∧CsE w0 w' g q c':=by
 have HO:=A_ h
 have HK:=A_ (KeepBut.refl w g none)
 have hu71:=Try.underlying71
 have HM:=A_ hm
 clear h hm
 have HR:=A_ hr;have HX:=A_ hx
 clear hr hx
 have b16:=ne_ hop 16
 have b32:=ne_ hop 32
 have b33:=ne_ hop 33
 have b34:=ne_ hop 34
 have b35:=ne_ hop 35
 have b36:=e1_ hop
 clear hop
 obtain⟨AF,cF,AG,cG,AS,cS,e0_,e1_,e2_,e7_,e14_,rF,rG,rS⟩:=HM.out
 go_enter Try.func48,Try.ntmps48
 go_upto_region 23 with (first|((with_reducible refine gd_ 3 rfl ?_);refine bx_ #[.int .i64 x.f0,.int .i64 x.f1] 71 ?_;intro gx hg wx hbox hb;have BX:=A_ hbox;have NX:=A_ (HO.out.fresh_ne hg);replace HO:=A_ (HO.out.below hb);replace HK:=A_ (HK.out.trans (KeepBut.of_below hb g none) (.inl rfl));clear hbox hb hg;have x0:=(blk_cell BX.out 0).trans rfl;have x1:=(blk_cell BX.out 1).trans rfl))
 have c1f:=HO.out.cell1
 rw[e1_] at c1f
 have RG:=A_ rG;have E1:=A_ e1_
 clear e0_ e1_ e2_ e7_ e14_ rF rG rS
 have cb:decide ((gs.length:Int)≤x.f1)=false:=decide_eq_false (by omega)
 obtain⟨ad,eA,g0_,g1_,g2_⟩:=at_T63 RG.out x.f1 hz0 (by omega)
 subst eA
 have q0:=eq_true hz0
 have q1:(x.f1<(gs.length:Int))=True:=eq_true (by omega)
 have hu63:=Try.underlying63
 go_quiet (fail)
 replace HO:=A_ (HO.out.drewN nq);replace HK:=A_ (keep_drewN HK.out nq);replace BX:=A_ (blk_drewN BX.out nq);clear x0 x1 c1f;generalize wx.drewN nq=wq at*;have x0:=(blk_cell BX.out 0).trans rfl;have x1:=(blk_cell BX.out 1).trans rfl
 have c1f:=HO.out.cell1
 rw[E1.out] at c1f
 replace g0_:=cl_ HO.out.2.1 g0_
 replace g1_:=cl_ HO.out.2.1 g1_
 replace g2_:=cl_ HO.out.2.1 g2_
 go_upto_region 25 with (fail)
 refine sS 11 (fun w'=>w'.cell? ⟨g,1,none⟩=some (.slice (some ad) gs.length cG)∧w'.cell? ⟨gx,1,none⟩=some (.int .i64 x.f1)∧w'.cell? (ad.add (x.f1.toNat*3))=some (.int .i64 (rd_T63 gs x.f1).f0)∧w'.cell? ⟨(ad.add (x.f1.toNat*3)).block,(ad.add (x.f1.toNat*3)).off+1,none⟩=some (.bool (rd_T63 gs x.f1).f1)∧w'.cell? ⟨(ad.add (x.f1.toNat*3)).block,(ad.add (x.f1.toNat*3)).off+2,none⟩=some (.int .u64 (rd_T63 gs x.f1).f2)) [10] ⟨c1f,x1,g0_,g1_,g2_⟩ spec_l7other.tab25 spec_l7other.bits25 (fun hHeld HT_ HW_=>?_)
 replace HO:=A_ HO.out.drew;replace HK:=A_ (keep_drew HK.out);replace BX:=A_ (blk_drew BX.out);clear c1f g0_ g1_ g2_ x0 x1;generalize wq.drew=wd at*
 refine pS HT_ 0 108 ?_
 refine pS HT_ 1 109 ?_
 refine pS HT_ 2 110 ?_
 refine pS HT_ 3 111 ?_
 refine pS HT_ 5 113 ?_
 refine tS HT_ HW_ 4 112 hHeld ?_
 refine tS HT_ HW_ 6 114 hHeld ?_
 refine pS HT_ 7 115 ?_
 refine tS HT_ HW_ 8 116 hHeld ?_
 refine oS HT_ 9 (some 6) (fun K hK=>?_)
 refine box_step (by rfl) (N:=6) ?hd (cs:=#[(.int .i64 0),(.bool false),(.int .u64 0)]) (t:=63) ?hr ?_;(case hd=>rfl);(case hr=>first|(go_simp;done)|(go_simp;rfl))
 intro gy hg wx hbox hb
 have BY:=A_ hbox;have GY:=A_ (show w.heap.size≤gy from by rw[hg];exact HK.out.1);have NY:=A_ (HO.out.fresh_ne hg);have GG:=A_ (Nat.le_trans HO.out.2.1.size (Nat.le_of_eq hg.symm));have m0:=A_ (HO.out.below hb);have m1:=A_ (HK.out.trans (KeepBut.of_below hb g none) (.inl rfl));have m4:=A_ (blk_below BX.out hb);have NXY:=A_ (show gx≠gy from by rw[hg];have:=blk_lt BX.out;omega)
 obtain⟨s0_,s1_,s2_,s3_,s4_⟩:=hHeld
 have hHeld2:=A_ (show wx.cell? ⟨g,1,none⟩=some (.slice (some ad) gs.length cG)∧wx.cell? ⟨gx,1,none⟩=some (.int .i64 x.f1)∧wx.cell? (ad.add (x.f1.toNat*3))=some (.int .i64 (rd_T63 gs x.f1).f0)∧wx.cell? ⟨(ad.add (x.f1.toNat*3)).block,(ad.add (x.f1.toNat*3)).off+1,none⟩=some (.bool (rd_T63 gs x.f1).f1)∧wx.cell? ⟨(ad.add (x.f1.toNat*3)).block,(ad.add (x.f1.toNat*3)).off+2,none⟩=some (.int .u64 (rd_T63 gs x.f1).f2) from ⟨cl_ hb s0_,cl_ hb s1_,cl_ hb s2_,cl_ hb s3_,cl_ hb s4_⟩)
 clear HO HK BX hbox hb hg s0_ s1_ s2_ s3_ s4_;have HO:=m0;have HK:=m1;have BX:=m4;clear m0 m1 m4
 have z0:=(blk_cell BY.out 0).trans rfl;have v0:=blk_frozen BY.out 0;have z1:=(blk_cell BY.out 1).trans rfl;have v1:=blk_frozen BY.out 1;have z2:=(blk_cell BY.out 2).trans rfl;have v2:=blk_frozen BY.out 2
 refine hK.out _ _ hHeld2.out (fun hHeld=>?_)
 clear hK K
 refine nS (some 6) ?_
 refine lS HT_ 10 (none) (fun K hK=>?_)
 refine skip_ (w1:=(((wx.setCell ⟨gy,0,none⟩ ((.int .i64 (rd_T63 gs x.f1).f0))).setCell ⟨gy,1,none⟩ ((.bool (rd_T63 gs x.f1).f1))).setCell ⟨gy,2,none⟩ ((.int .u64 (rd_T63 gs x.f1).f2)))) (by rfl) rfl (by first|(go_simp;done)|(go_simp;rfl)) ?_
 clear hHeld hHeld2 z0 v0 z1 v1 z2 v2
 refine hK.out _ _ ?_
 clear hK K
 refine dS HT_ ?_
 replace BY:=A_ (show((((wx.setCell ⟨gy,0,none⟩ ((.int .i64 (rd_T63 gs x.f1).f0))).setCell ⟨gy,1,none⟩ ((.bool (rd_T63 gs x.f1).f1))).setCell ⟨gy,2,none⟩ ((.int .u64 (rd_T63 gs x.f1).f2)))).heap[gy]? =some (.cells #[(.int .i64 (rd_T63 gs x.f1).f0),(.bool (rd_T63 gs x.f1).f1),(.int .u64 (rd_T63 gs x.f1).f2)] 63 (0,0)) from blk_put (cs:=#[(.int .i64 (rd_T63 gs x.f1).f0),(.bool (rd_T63 gs x.f1).f1),(.int .u64 0)]) (blk_put (cs:=#[(.int .i64 (rd_T63 gs x.f1).f0),(.bool false),(.int .u64 0)]) (blk_put (cs:=#[(.int .i64 0),(.bool false),(.int .u64 0)]) (BY.out) 0 ((.int .i64 (rd_T63 gs x.f1).f0)) rfl) 1 ((.bool (rd_T63 gs x.f1).f1)) rfl) 2 ((.int .u64 (rd_T63 gs x.f1).f2)) rfl);replace HO:=A_ (Cs.other (Cs.other (Cs.other (HO.out) GG.out NY.out 0 ((.int .i64 (rd_T63 gs x.f1).f0))) GG.out NY.out 1 ((.bool (rd_T63 gs x.f1).f1))) GG.out NY.out 2 ((.int .u64 (rd_T63 gs x.f1).f2)));replace HK:=A_ (keep_other (keep_other (keep_other (HK.out) GY.out 0 ((.int .i64 (rd_T63 gs x.f1).f0))) GY.out 1 ((.bool (rd_T63 gs x.f1).f1))) GY.out 2 ((.int .u64 (rd_T63 gs x.f1).f2)));replace BX:=A_ (show(((wx.setCell ⟨gy,0,none⟩ ((.int .i64 (rd_T63 gs x.f1).f0))).setCell ⟨gy,1,none⟩ ((.bool (rd_T63 gs x.f1).f1))).setCell ⟨gy,2,none⟩ ((.int .u64 (rd_T63 gs x.f1).f2))).heap[gx]? =some (.cells #[.int .i64 x.f0,.int .i64 x.f1] 71 (0,0)) from(Below.heap_setCell ((wx.setCell ⟨gy,0,none⟩ ((.int .i64 (rd_T63 gs x.f1).f0))).setCell ⟨gy,1,none⟩ ((.bool (rd_T63 gs x.f1).f1))) ⟨gy,2,none⟩ ((.int .u64 (rd_T63 gs x.f1).f2)) gx NXY.out).trans ((Below.heap_setCell (wx.setCell ⟨gy,0,none⟩ ((.int .i64 (rd_T63 gs x.f1).f0))) ⟨gy,1,none⟩ ((.bool (rd_T63 gs x.f1).f1)) gx NXY.out).trans ((Below.heap_setCell wx ⟨gy,0,none⟩ ((.int .i64 (rd_T63 gs x.f1).f0)) gx NXY.out).trans (BX.out))));generalize (((wx.setCell ⟨gy,0,none⟩ ((.int .i64 (rd_T63 gs x.f1).f0))).setCell ⟨gy,1,none⟩ ((.bool (rd_T63 gs x.f1).f1))).setCell ⟨gy,2,none⟩ ((.int .u64 (rd_T63 gs x.f1).f2)))=wy at*;have x0:=(blk_cell BX.out 0).trans rfl;have x1:=(blk_cell BX.out 1).trans rfl
 have y0:=(blk_cell BY.out 0).trans rfl;have y1:=(blk_cell BY.out 1).trans rfl;have y2:=(blk_cell BY.out 2).trans rfl
 rw[HX.out] at y1
 go_wp2_with (first|(go_at_call 43;refine(stake_any (rd_T63 gs x.f1).f0 u w0 _ g q _ c' A n1 _ n2 HO.out HR.out).mono ?_;rintro e w5 ⟨rfl,hO,hK⟩;replace HO:=A_ hO;clear HK hO hK))
 first|go_end0|((try simp only[Exit.inBlock,Exit.then]);refine rt_ ?_)
 exact⟨rfl,_,_,_,_,HO.out⟩

def spec_l7other.T6:Bool × List (List Nat × List Nat):=(true,[([],[]),([0],[0]),([1],[1]),([2],[2]),([3],[3]),([],[]),([5],[5]),([4,6],[4,6]),([7],[7]),([],[]),([9,8,0,1,2,3,4,5,6,7,8,9],[8,9])])
def spec_l7other.B6:List Nat:=[0,1,3,7,15,0,32,127,255,0,1023]
theorem spec_l7other.tab6:rtab .any (opsOf Try.f48 6)=spec_l7other.T6:=by kernel_rfl
theorem spec_l7other.bits6:waitsOk spec_l7other.T6.2 spec_l7other.B6=true:=by kernel_rfl
theorem other_16_no (h:Cs w0 w g q c A n1 B n2) (hm:SEnv w0 q fs gs mem res sl) (hop:x.f0=16) (hz:(fs.length:Int)≤x.f1) (hc:c'=c.fail 5):
  Calls Try.prog 48 #[.pointer (some ⟨g,0,none⟩),.agg #[.int .i64 x.f0,.int .i64 x.f1]] w fun e w'=>e=.returned (.tuple #[])∧CsE w0 w' g q c':=by
 have HO:=A_ h
 have HK:=A_ (KeepBut.refl w g none)
 have hu71:=Try.underlying71
 have HM:=A_ hm
 clear h hm
 subst hc
 have b16:=e1_ hop
 clear hop
 obtain⟨AF,cF,AG,cG,AS,cS,e0_,e1_,e2_,e7_,e14_,rF,rG,rS⟩:=HM.out
 go_enter Try.func48,Try.ntmps48
 go_upto_region 4 with (first|((with_reducible refine gd_ 3 rfl ?_);refine bx_ #[.int .i64 x.f0,.int .i64 x.f1] 71 ?_;intro gx hg wx hbox hb;have BX:=A_ hbox;have NX:=A_ (HO.out.fresh_ne hg);replace HO:=A_ (HO.out.below hb);replace HK:=A_ (HK.out.trans (KeepBut.of_below hb g none) (.inl rfl));clear hbox hb hg;have x0:=(blk_cell BX.out 0).trans rfl;have x1:=(blk_cell BX.out 1).trans rfl))
 have c0f:=HO.out.cell0
 rw[e0_] at c0f
 have RF:=A_ rF;have E0:=A_ e0_
 clear e0_ e1_ e2_ e7_ e14_ rF rG rS
 have cb:=decide_eq_true hz
 go_quiet (fail)
 replace HO:=A_ (HO.out.drewN nq);replace HK:=A_ (keep_drewN HK.out nq);replace BX:=A_ (blk_drewN BX.out nq);clear x0 x1 c0f;generalize wx.drewN nq=wq at*;have x0:=(blk_cell BX.out 0).trans rfl;have x1:=(blk_cell BX.out 1).trans rfl
 go_wp2_with (first|(go_at_call 46;refine(bad_any w0 _ g q _ 5 A n1 _ n2 HO.out).mono ?_;rintro e w5 ⟨rfl,hO,hK⟩;replace HO:=A_ hO;replace HK:=A_ (HK.out.trans hK (.inl rfl));replace BX:=A_ (KeepBut.blk hK BX.out NX.out.1 (by simp));clear x0 x1 hO hK;have x0:=(blk_cell BX.out 0).trans rfl;have x1:=(blk_cell BX.out 1).trans rfl))
 first|go_end0|((try simp only[Exit.inBlock,Exit.then]);refine rt_ ?_)
 exact⟨rfl,_,_,_,_,HO.out⟩
theorem other_16 (h:Cs w0 w g q c A n1 B n2) (hm:SEnv w0 q fs gs mem res sl) (hop:x.f0=16) (hz0:0≤x.f1) (hz:x.f1<(fs.length:Int)) (c1:CS S91) (ht:takeRevS (rd_T59 fs x.f1).f0 c (rd_T59 fs x.f1).f0.length=some c1) (hr:c1.put (rd_T59 fs x.f1).f1=some c'):
  Calls Try.prog 48 #[.pointer (some ⟨g,0,none⟩),.agg #[.int .i64 x.f0,.int .i64 x.f1]] w fun e w'=>e=.returned (.tuple #[])∧CsE w0 w' g q c':=by
 have HO:=A_ h
 have HK:=A_ (KeepBut.refl w g none)
 have hu71:=Try.underlying71
 have HM:=A_ hm
 clear h hm
 have HR:=A_ hr;have HT:=A_ ht
 clear hr ht
 have b16:=e1_ hop
 clear hop
 obtain⟨AF,cF,AG,cG,AS,cS,e0_,e1_,e2_,e7_,e14_,rF,rG,rS⟩:=HM.out
 go_enter Try.func48,Try.ntmps48
 go_upto_region 4 with (first|((with_reducible refine gd_ 3 rfl ?_);refine bx_ #[.int .i64 x.f0,.int .i64 x.f1] 71 ?_;intro gx hg wx hbox hb;have BX:=A_ hbox;have NX:=A_ (HO.out.fresh_ne hg);replace HO:=A_ (HO.out.below hb);replace HK:=A_ (HK.out.trans (KeepBut.of_below hb g none) (.inl rfl));clear hbox hb hg;have x0:=(blk_cell BX.out 0).trans rfl;have x1:=(blk_cell BX.out 1).trans rfl))
 have c0f:=HO.out.cell0
 rw[e0_] at c0f
 have RF:=A_ rF;have E0:=A_ e0_
 clear e0_ e1_ e2_ e7_ e14_ rF rG rS
 have cb:decide ((fs.length:Int)≤x.f1)=false:=decide_eq_false (by omega)
 obtain⟨ad,A0,d0,A2,d2,A3,d3,eA,g0_,g1_,g2_,g3_,l0_,r0,_,_,_,_⟩:=at_T59 RF.out x.f1 hz0 (by omega)
 subst eA
 have R0:=A_ r0;have hmax:=Kd.C_max r0
 clear r0 l0_
 have q0:=eq_true hz0
 have q1:(x.f1<(fs.length:Int))=True:=eq_true (by omega)
 have hu59:=Try.underlying59
 go_quiet (fail)
 replace HO:=A_ (HO.out.drewN nq);replace HK:=A_ (keep_drewN HK.out nq);replace BX:=A_ (blk_drewN BX.out nq);clear x0 x1 c0f;generalize wx.drewN nq=wq at*;have x0:=(blk_cell BX.out 0).trans rfl;have x1:=(blk_cell BX.out 1).trans rfl
 have c0f:=HO.out.cell0
 rw[E0.out] at c0f
 replace g0_:=cl_ HO.out.2.1 g0_
 replace g1_:=cl_ HO.out.2.1 g1_
 replace g2_:=cl_ HO.out.2.1 g2_
 replace g3_:=cl_ HO.out.2.1 g3_
 go_upto_region 6 with (fail)
 refine sS 11 (fun w'=>w'.cell? ⟨g,0,none⟩=some (.slice (some ad) fs.length cF)∧w'.cell? ⟨gx,1,none⟩=some (.int .i64 x.f1)∧w'.cell? (ad.add (x.f1.toNat*4))=some (.slice A0 (rd_T59 fs x.f1).f0.length d0)∧w'.cell? ⟨(ad.add (x.f1.toNat*4)).block,(ad.add (x.f1.toNat*4)).off+1,none⟩=some (.int .i64 (rd_T59 fs x.f1).f1)∧w'.cell? ⟨(ad.add (x.f1.toNat*4)).block,(ad.add (x.f1.toNat*4)).off+2,none⟩=some (.slice A2 (rd_T59 fs x.f1).f2.length d2)∧w'.cell? ⟨(ad.add (x.f1.toNat*4)).block,(ad.add (x.f1.toNat*4)).off+3,none⟩=some (.slice A3 (rd_T59 fs x.f1).f3.length d3)) [10] ⟨c0f,x1,g0_,g1_,g2_,g3_⟩ spec_l7other.tab6 spec_l7other.bits6 (fun hHeld HT_ HW_=>?_)
 replace HO:=A_ HO.out.drew;replace HK:=A_ (keep_drew HK.out);replace BX:=A_ (blk_drew BX.out);clear c0f g0_ g1_ g2_ g3_ x0 x1;generalize wq.drew=wd at*
 refine pS HT_ 0 26 ?_
 refine pS HT_ 1 27 ?_
 refine pS HT_ 2 28 ?_
 refine pS HT_ 3 29 ?_
 refine pS HT_ 5 31 ?_
 refine tS HT_ HW_ 4 30 hHeld ?_
 refine tS HT_ HW_ 6 32 hHeld ?_
 refine pS HT_ 7 33 ?_
 refine tS HT_ HW_ 8 34 hHeld ?_
 refine oS HT_ 9 (some 4) (fun K hK=>?_)
 refine box_step (by rfl) (N:=4) ?hd (cs:=#[(.slice none 0 0),(.int .i64 0),(.slice none 0 0),(.slice none 0 0)]) (t:=59) ?hr ?_;(case hd=>rfl);(case hr=>first|(go_simp;done)|(go_simp;rfl))
 intro gy hg wx hbox hb
 have BY:=A_ hbox;have GY:=A_ (show w.heap.size≤gy from by rw[hg];exact HK.out.1);have NY:=A_ (HO.out.fresh_ne hg);have GG:=A_ (Nat.le_trans HO.out.2.1.size (Nat.le_of_eq hg.symm));have m0:=A_ (HO.out.below hb);have m1:=A_ (HK.out.trans (KeepBut.of_below hb g none) (.inl rfl));have m4:=A_ (blk_below BX.out hb);have NXY:=A_ (show gx≠gy from by rw[hg];have:=blk_lt BX.out;omega)
 obtain⟨s0_,s1_,s2_,s3_,s4_,s5_⟩:=hHeld
 have hHeld2:=A_ (show wx.cell? ⟨g,0,none⟩=some (.slice (some ad) fs.length cF)∧wx.cell? ⟨gx,1,none⟩=some (.int .i64 x.f1)∧wx.cell? (ad.add (x.f1.toNat*4))=some (.slice A0 (rd_T59 fs x.f1).f0.length d0)∧wx.cell? ⟨(ad.add (x.f1.toNat*4)).block,(ad.add (x.f1.toNat*4)).off+1,none⟩=some (.int .i64 (rd_T59 fs x.f1).f1)∧wx.cell? ⟨(ad.add (x.f1.toNat*4)).block,(ad.add (x.f1.toNat*4)).off+2,none⟩=some (.slice A2 (rd_T59 fs x.f1).f2.length d2)∧wx.cell? ⟨(ad.add (x.f1.toNat*4)).block,(ad.add (x.f1.toNat*4)).off+3,none⟩=some (.slice A3 (rd_T59 fs x.f1).f3.length d3) from ⟨cl_ hb s0_,cl_ hb s1_,cl_ hb s2_,cl_ hb s3_,cl_ hb s4_,cl_ hb s5_⟩)
 clear HO HK BX hbox hb hg s0_ s1_ s2_ s3_ s4_ s5_;have HO:=m0;have HK:=m1;have BX:=m4;clear m0 m1 m4
 have z0:=(blk_cell BY.out 0).trans rfl;have v0:=blk_frozen BY.out 0;have z1:=(blk_cell BY.out 1).trans rfl;have v1:=blk_frozen BY.out 1;have z2:=(blk_cell BY.out 2).trans rfl;have v2:=blk_frozen BY.out 2;have z3:=(blk_cell BY.out 3).trans rfl;have v3:=blk_frozen BY.out 3
 refine hK.out _ _ hHeld2.out (fun hHeld=>?_)
 clear hK K
 refine nS (some 4) ?_
 refine lS HT_ 10 (none) (fun K hK=>?_)
 refine skip_ (w1:=((((wx.setCell ⟨gy,0,none⟩ ((.slice A0 (rd_T59 fs x.f1).f0.length d0))).setCell ⟨gy,1,none⟩ ((.int .i64 (rd_T59 fs x.f1).f1))).setCell ⟨gy,2,none⟩ ((.slice A2 (rd_T59 fs x.f1).f2.length d2))).setCell ⟨gy,3,none⟩ ((.slice A3 (rd_T59 fs x.f1).f3.length d3)))) (by rfl) rfl (by first|(go_simp;done)|(go_simp;rfl)) ?_
 clear hHeld hHeld2 z0 v0 z1 v1 z2 v2 z3 v3
 refine hK.out _ _ ?_
 clear hK K
 refine dS HT_ ?_
 replace BY:=A_ (show(((((wx.setCell ⟨gy,0,none⟩ ((.slice A0 (rd_T59 fs x.f1).f0.length d0))).setCell ⟨gy,1,none⟩ ((.int .i64 (rd_T59 fs x.f1).f1))).setCell ⟨gy,2,none⟩ ((.slice A2 (rd_T59 fs x.f1).f2.length d2))).setCell ⟨gy,3,none⟩ ((.slice A3 (rd_T59 fs x.f1).f3.length d3)))).heap[gy]? =some (.cells #[(.slice A0 (rd_T59 fs x.f1).f0.length d0),(.int .i64 (rd_T59 fs x.f1).f1),(.slice A2 (rd_T59 fs x.f1).f2.length d2),(.slice A3 (rd_T59 fs x.f1).f3.length d3)] 59 (0,0)) from blk_put (cs:=#[(.slice A0 (rd_T59 fs x.f1).f0.length d0),(.int .i64 (rd_T59 fs x.f1).f1),(.slice A2 (rd_T59 fs x.f1).f2.length d2),(.slice none 0 0)]) (blk_put (cs:=#[(.slice A0 (rd_T59 fs x.f1).f0.length d0),(.int .i64 (rd_T59 fs x.f1).f1),(.slice none 0 0),(.slice none 0 0)]) (blk_put (cs:=#[(.slice A0 (rd_T59 fs x.f1).f0.length d0),(.int .i64 0),(.slice none 0 0),(.slice none 0 0)]) (blk_put (cs:=#[(.slice none 0 0),(.int .i64 0),(.slice none 0 0),(.slice none 0 0)]) (BY.out) 0 ((.slice A0 (rd_T59 fs x.f1).f0.length d0)) rfl) 1 ((.int .i64 (rd_T59 fs x.f1).f1)) rfl) 2 ((.slice A2 (rd_T59 fs x.f1).f2.length d2)) rfl) 3 ((.slice A3 (rd_T59 fs x.f1).f3.length d3)) rfl);replace HO:=A_ (Cs.other (Cs.other (Cs.other (Cs.other (HO.out) GG.out NY.out 0 ((.slice A0 (rd_T59 fs x.f1).f0.length d0))) GG.out NY.out 1 ((.int .i64 (rd_T59 fs x.f1).f1))) GG.out NY.out 2 ((.slice A2 (rd_T59 fs x.f1).f2.length d2))) GG.out NY.out 3 ((.slice A3 (rd_T59 fs x.f1).f3.length d3)));replace HK:=A_ (keep_other (keep_other (keep_other (keep_other (HK.out) GY.out 0 ((.slice A0 (rd_T59 fs x.f1).f0.length d0))) GY.out 1 ((.int .i64 (rd_T59 fs x.f1).f1))) GY.out 2 ((.slice A2 (rd_T59 fs x.f1).f2.length d2))) GY.out 3 ((.slice A3 (rd_T59 fs x.f1).f3.length d3)));replace BX:=A_ (show((((wx.setCell ⟨gy,0,none⟩ ((.slice A0 (rd_T59 fs x.f1).f0.length d0))).setCell ⟨gy,1,none⟩ ((.int .i64 (rd_T59 fs x.f1).f1))).setCell ⟨gy,2,none⟩ ((.slice A2 (rd_T59 fs x.f1).f2.length d2))).setCell ⟨gy,3,none⟩ ((.slice A3 (rd_T59 fs x.f1).f3.length d3))).heap[gx]? =some (.cells #[.int .i64 x.f0,.int .i64 x.f1] 71 (0,0)) from(Below.heap_setCell (((wx.setCell ⟨gy,0,none⟩ ((.slice A0 (rd_T59 fs x.f1).f0.length d0))).setCell ⟨gy,1,none⟩ ((.int .i64 (rd_T59 fs x.f1).f1))).setCell ⟨gy,2,none⟩ ((.slice A2 (rd_T59 fs x.f1).f2.length d2))) ⟨gy,3,none⟩ ((.slice A3 (rd_T59 fs x.f1).f3.length d3)) gx NXY.out).trans ((Below.heap_setCell ((wx.setCell ⟨gy,0,none⟩ ((.slice A0 (rd_T59 fs x.f1).f0.length d0))).setCell ⟨gy,1,none⟩ ((.int .i64 (rd_T59 fs x.f1).f1))) ⟨gy,2,none⟩ ((.slice A2 (rd_T59 fs x.f1).f2.length d2)) gx NXY.out).trans ((Below.heap_setCell (wx.setCell ⟨gy,0,none⟩ ((.slice A0 (rd_T59 fs x.f1).f0.length d0))) ⟨gy,1,none⟩ ((.int .i64 (rd_T59 fs x.f1).f1)) gx NXY.out).trans ((Below.heap_setCell wx ⟨gy,0,none⟩ ((.slice A0 (rd_T59 fs x.f1).f0.length d0)) gx NXY.out).trans (BX.out)))));generalize ((((wx.setCell ⟨gy,0,none⟩ ((.slice A0 (rd_T59 fs x.f1).f0.length d0))).setCell ⟨gy,1,none⟩ ((.int .i64 (rd_T59 fs x.f1).f1))).setCell ⟨gy,2,none⟩ ((.slice A2 (rd_T59 fs x.f1).f2.length d2))).setCell ⟨gy,3,none⟩ ((.slice A3 (rd_T59 fs x.f1).f3.length d3)))=wy at*;have x0:=(blk_cell BX.out 0).trans rfl;have x1:=(blk_cell BX.out 1).trans rfl
 have y0:=(blk_cell BY.out 0).trans rfl;have y1:=(blk_cell BY.out 1).trans rfl;have y2:=(blk_cell BY.out 2).trans rfl;have y3:=(blk_cell BY.out 3).trans rfl
 clear x0 x1 BX
 have ew:IntKind.i64.wrap (((rd_T59 fs x.f1).f0.length:Int) - 1)=((rd_T59 fs x.f1).f0.length:Int) - 1:=ck_w _ (by omega)
 go_wp2
 go_loopg [5] (rd_T59 fs x.f1).f0.length (fun kq v5 w'=>∃ (kk:Nat) (c2:CS S91),kk=kq∧v5=.int .i64 ((kk:Int) - 1)∧Aside0 (takeRevS (rd_T59 fs x.f1).f0 c2 kk=some c1)∧Aside0 (Cs w0 w' g q c2 A n1 B n2)∧Aside0 (w'.heap[gy]? =some (.cells #[(.slice A0 (rd_T59 fs x.f1).f0.length d0),(.int .i64 (rd_T59 fs x.f1).f1),(.slice A2 (rd_T59 fs x.f1).f2.length d2),(.slice A3 (rd_T59 fs x.f1).f3.length d3)] 59 (0,0)))∧Aside0 (kk≤(rd_T59 fs x.f1).f0.length))
 case atStart=>exact⟨_,c,rfl,rfl,HT,HO,BY,⟨Nat.le_refl _⟩⟩
 case round=>
  clear y0 y1 y2 y3 HO HK BY HT ew
  obtain⟨kk,c2,hkk,rfl,HT,HO,BY,HKQ⟩:=hrel
  have y0:=(blk_cell BY.out 0).trans rfl;have y1:=(blk_cell BY.out 1).trans rfl
  have HKK:=A_ hkk
  clear hkk
  rcases Nat.eq_zero_or_pos kk with hk0|hk0
  ·
   subst hk0
   have HT':=HT.out
   rw[takeRevS] at HT'
   obtain rfl:=Option.some.inj HT'
   have HK:=A_ trivial
   have cbz:decide ((0:Int)≤((0:Nat):Int) - 1)=false:=rfl
   go_wp2_with (first|(go_at_call 44;refine(sput_any (rd_T59 fs x.f1).f1 w0 _ g q _ c' A n1 _ n2 HO.out HR.out).mono ?_;rintro e w5 ⟨rfl,hE⟩;have HE:=A_ hE;clear hE))
   first|go_end0|((try simp only[Exit.inBlock,Exit.then]);refine rt_ ?_)
   exact⟨rfl,HE.out⟩
  obtain⟨km,rfl⟩:∃ km,kk=km+1:=⟨kk - 1,by omega⟩
  have HT':=HT.out
  rw[takeRevS] at HT'
  obtain⟨⟨c3,u⟩,hs,ht⟩:=Option.bind_eq_some_iff.1 HT'
  have HS:=A_ hs;have HTn:=A_ ht
  clear HT' hs ht HT
  have ek:((km+1:Nat):Int) - 1=(km:Int):=by omega
  rw[ek]
  have hkm:=HKQ.out
  obtain⟨ad2,eA,hx⟩:=Kd.at_int R0.out (km:Int) (by omega) (by omega)
  subst eA
  have gx_:=cl_ HO.out.2.1 hx
  rw[Int.toNat_natCast] at gx_
  have cbz:decide ((0:Int)≤(km:Int))=true:=decide_eq_true (by omega)
  have q5:((0:Int)≤(km:Int))=True:=eq_true (by omega)
  have q6:((km:Int)<((rd_T59 fs x.f1).f0.length:Int))=True:=eq_true (by omega)
  have ew:IntKind.i64.wrap ((km:Int) - 1)=(km:Int) - 1:=ck_w _ (by omega)
  clear hx ek hkm
  have HK:=A_ (KeepBut.refl wr g none)
  go_wp2_with (first|(go_at_call 43;refine(stake_any (rd (rd_T59 fs x.f1).f0 (km:Int)) u w0 _ g q _ c3 A n1 _ n2 HO.out HS.out).mono ?_;rintro e w5 ⟨rfl,hO,hK⟩;replace HO:=A_ hO;replace BY:=A_ (KeepBut.blk hK BY.out NY.out.1 (by simp));clear y0 y1 gx_ hO hK))
  go_roundg km
  case measure=>have:=HKK.out;omega
  case rel=>exact⟨km,c3,rfl,by first|rfl|(rw[ew]),HTn,HO,BY,⟨by have:=HKQ.out;omega⟩⟩

end
set_option maxHeartbeats 1000000 in
theorem snum_any (op:Int) (w0 w:World) (g:Nat) (q:Nat→Value) (c c':CS S91) (A:Option Addr) (n1:Nat) (B:Option Addr) (n2:Nat) (h:Cs w0 w g q c A n1 B n2) (hr:numS c op=some c'):
  Calls Try.prog 66 #[.pointer (some ⟨g,0,none⟩),.int .i64 op] w fun e w'=>e=.returned (.tuple #[])∧CsE w0 w' g q c':=by
 unfold numS at hr
 by_cases k0:0≤op∧op≤1000
 ·
  rw[if_pos k0] at hr
  by_cases k1:op > 160
  ·
   rw[if_pos k1] at hr
   obtain⟨⟨c1,t⟩,h1,hr⟩:=Option.bind_eq_some_iff.1 hr
   obtain⟨c2,h2,hr⟩:=Option.bind_eq_some_iff.1 hr
   by_cases k6:op - 160=6
   ·
    rw[if_pos k6] at h2
    exact snum_f op true _ w0 w g q c c' A n1 B n2 h ⟨k1,k0.2⟩ (beq_iff_eq.2 k6).symm rfl c1 c2 t 0 h1 (by rw[if_pos rfl];exact(Option.some.inj h2).symm) hr
   rw[if_neg k6] at h2
   obtain⟨⟨c3,u⟩,h3,h2⟩:=Option.bind_eq_some_iff.1 h2
   obtain rfl:=Option.some.inj h2
   exact snum_f op false _ w0 w g q c c' A n1 B n2 h ⟨k1,k0.2⟩ (beq_eq_false_iff_ne.2 k6).symm rfl c1 c3 t u h1 (by rw[if_neg (fun e=>by cases e)];exact h3) hr
  rw[if_neg k1] at hr
  by_cases kb:op > 128
  ·
   simp only[if_pos kb] at hr
   obtain⟨⟨c1,t⟩,h1,hr⟩:=Option.bind_eq_some_iff.1 hr
   obtain⟨c2,h2,hr⟩:=Option.bind_eq_some_iff.1 hr
   obtain⟨kk,hkk⟩:∃ kk,op - 128=kk:=⟨_,rfl⟩
   rw[hkk] at h2 hr
   have hop:128<op∧op≤160:=⟨by omega,by omega⟩
   by_cases k21:kk≤21
   ·
    rw[if_pos k21] at h2
    obtain⟨⟨c3,u⟩,h3,h2⟩:=Option.bind_eq_some_iff.1 h2
    obtain rfl:=Option.some.inj h2
    by_cases k16:16≤kk
    ·
     rw[if_pos (.inl ⟨k16,k21⟩)] at hr
     exact snum_b_mid op kk w0 w g q c c' A n1 B n2 h hop hkk ⟨k16,k21⟩ c1 c3 t u h1 h3 hr
    rw[if_neg (by rintro (e|e)<;>omega)] at hr
    exact snum_b_lo op kk w0 w g q c c' A n1 B n2 h hop hkk (by omega) c1 c3 t u h1 h3 hr
   rw[if_neg k21] at h2
   obtain rfl:=Option.some.inj h2
   by_cases k25:kk=25
   ·
    rw[if_pos (.inr k25)] at hr
    exact snum_b_25 op kk w0 w g q c c' A n1 B n2 h hop hkk k25 c1 t 0 h1 hr
   rw[if_neg (by rintro (e|e)<;>omega)] at hr
   exact snum_b_no op kk w0 w g q c c' A n1 B n2 h hop hkk ⟨by omega,k25⟩ c1 t 0 h1 hr
  simp only[if_neg kb] at hr
  obtain⟨⟨c1,t⟩,h1,hr⟩:=Option.bind_eq_some_iff.1 hr
  obtain⟨c2,h2,hr⟩:=Option.bind_eq_some_iff.1 hr
  obtain⟨kk,hkk⟩:∃ kk,op - 96=kk:=⟨_,rfl⟩
  rw[hkk] at h2 hr
  have hop:0≤op∧op≤128:=⟨by omega,by omega⟩
  by_cases k21:kk≤21
  ·
   rw[if_pos k21] at h2
   obtain⟨⟨c3,u⟩,h3,h2⟩:=Option.bind_eq_some_iff.1 h2
   obtain rfl:=Option.some.inj h2
   by_cases k16:16≤kk
   ·
    rw[if_pos (.inl ⟨k16,k21⟩)] at hr
    exact snum_s_mid op kk w0 w g q c c' A n1 B n2 h hop hkk ⟨k16,k21⟩ c1 c3 t u h1 h3 hr
   rw[if_neg (by rintro (e|e)<;>omega)] at hr
   exact snum_s_lo op kk w0 w g q c c' A n1 B n2 h hop hkk (by omega) c1 c3 t u h1 h3 hr
  rw[if_neg k21] at h2
  obtain rfl:=Option.some.inj h2
  by_cases k25:kk=25
  ·
   rw[if_pos (.inr k25)] at hr
   exact snum_s_25 op kk w0 w g q c c' A n1 B n2 h hop hkk k25 c1 t 0 h1 hr
  rw[if_neg (by rintro (e|e)<;>omega)] at hr
  exact snum_s_no op kk w0 w g q c c' A n1 B n2 h hop hkk ⟨by omega,k25⟩ c1 t 0 h1 hr
 rw[if_neg k0] at hr;cases hr
section
variable (x:S71) (fs:List S59) (gs:List S63) (mem:Bool) (res:Int) (sl:List Int) (w0 w:World) (g:Nat) (q:Nat→Value) (c c':CS S91) (A:Option Addr) (n1:Nat) (B:Option Addr) (n2:Nat)
theorem other_n (h:Cs w0 w g q c A n1 B n2) (hm:SEnv w0 q fs gs mem res sl) (hop:x.f0≠16∧x.f0≠32∧x.f0≠33∧x.f0≠34∧x.f0≠35∧x.f0≠36∧x.f0≠40∧x.f0≠41∧x.f0≠54∧x.f0≠55∧x.f0≠63∧x.f0≠64∧x.f0≠65∧x.f0≠66∧x.f0≠67∧x.f0≠176∧x.f0≠177∧x.f0≠178∧x.f0≠179∧x.f0≠180) (hr:numS c x.f0=some c'):
  Calls Try.prog 48 #[.pointer (some ⟨g,0,none⟩),.agg #[.int .i64 x.f0,.int .i64 x.f1]] w fun e w'=>e=.returned (.tuple #[])∧CsE w0 w' g q c':=by
 have HO:=A_ h
 have HK:=A_ (KeepBut.refl w g none)
 have hu71:=Try.underlying71
 have HR:=A_ hr
 clear h hm hr
 obtain⟨h16,h32,h33,h34,h35,h36,h40,h41,h54,h55,h63,h64,h65,h66,h67,h176,h177,h178,h179,h180⟩:=hop
 have b16:=e0_ h16
 have b32:=e0_ h32
 have b33:=e0_ h33
 have b34:=e0_ h34
 have b35:=e0_ h35
 have b36:=e0_ h36
 have b40:=e0_ h40
 have b41:=e0_ h41
 have b54:=e0_ h54
 have b55:=e0_ h55
 have b63:=e0_ h63
 have b64:=e0_ h64
 have b65:=e0_ h65
 have b66:=e0_ h66
 have b67:=e0_ h67
 have b176:=e0_ h176
 have b177:=e0_ h177
 have b178:=e0_ h178
 have b179:=e0_ h179
 have b180:=e0_ h180
 clear h16 h32 h33 h34 h35 h36 h40 h41 h54 h55 h63 h64 h65 h66 h67 h176 h177 h178 h179 h180
 go_enter Try.func48,Try.ntmps48
 go_wp2_with (first|((with_reducible refine gd_ 3 rfl ?_);refine bx_ #[.int .i64 x.f0,.int .i64 x.f1] 71 ?_;intro gx hg wx hbox hb;have BX:=A_ hbox;have NX:=A_ (HO.out.fresh_ne hg);replace HO:=A_ (HO.out.below hb);replace HK:=A_ (HK.out.trans (KeepBut.of_below hb g none) (.inl rfl));clear hbox hb hg;have x0:=(blk_cell BX.out 0).trans rfl;have x1:=(blk_cell BX.out 1).trans rfl)|(go_at_call 66;refine(snum_any x.f0 w0 _ g q _ c' A n1 _ n2 HO.out HR.out).mono ?_;rintro e w5 ⟨rfl,hE⟩;have HE:=A_ hE;clear hE))
 first|go_end0|((try simp only[Exit.inBlock,Exit.then]);refine rt_ ?_)
 exact⟨rfl,HE.out⟩

def otherS (c:CS S91) (fs:List S59) (gs:List S63) (mem:Bool) (sl:List Int) (x:S71):Option (CS S91):=
 if x.f0=16 then (if (fs.length:Int)≤x.f1 then some (c.fail 5) else if 0≤x.f1 then (takeRevS (rd_T59 fs x.f1).f0 c (rd_T59 fs x.f1).f0.length).bind fun c1=>c1.put (rd_T59 fs x.f1).f1 else none)
 else if x.f0=32∨x.f0=33∨x.f0=34 then (if (sl.length:Int)≤x.f1 then some (c.fail 5) else if 0≤x.f1 then
  (if x.f0=32 then c.put (rd sl x.f1) else if x.f0=33 then (takeS c (rd sl x.f1)).bind fun s=>some s.1 else (takeS c (rd sl x.f1)).bind fun s=>s.1.put (rd sl x.f1)) else none)
 else if x.f0=35∨x.f0=36 then (if (gs.length:Int)≤x.f1 then some (c.fail 5) else if 0≤x.f1 then
  (if x.f0=35 then c.put (rd_T63 gs x.f1).f0 else (takeS (if (rd_T63 gs x.f1).f1=true then c.fail 7 else c) (rd_T63 gs x.f1).f0).bind fun s=>some s.1) else none)
 else if x.f0=40∨x.f0=41∨x.f0=54∨x.f0=55∨x.f0=63∨x.f0=64 then memS c mem x.f0
 else if x.f0=65 then c.put 127 else if x.f0=66 then c.put 126 else if x.f0=67 then c.put 125
 else if x.f0=176 then turnS c 126 127 else if x.f0=177 then turnS c 127 126 else if x.f0=178 then turnS c 127 126 else if x.f0=179 then turnS c 127 125 else if x.f0=180 then turnS c 125 127
 else numS c x.f0
set_option maxHeartbeats 1000000 in
theorem other_any (h:Cs w0 w g q c A n1 B n2) (hm:SEnv w0 q fs gs mem res sl) (hr:otherS c fs gs mem sl x=some c'):
  Calls Try.prog 48 #[.pointer (some ⟨g,0,none⟩),.agg #[.int .i64 x.f0,.int .i64 x.f1]] w fun e w'=>e=.returned (.tuple #[])∧CsE w0 w' g q c':=by
 unfold otherS at hr
 by_cases k16:x.f0=16
 ·
  rw[if_pos k16] at hr
  by_cases kz:(fs.length:Int)≤x.f1
  ·
   rw[if_pos kz] at hr
   exact other_16_no x fs gs mem res sl w0 w g q c c' A n1 B n2 h hm k16 kz (Option.some.inj hr).symm
  rw[if_neg kz] at hr
  by_cases k0:0≤x.f1
  ·
   rw[if_pos k0] at hr
   obtain⟨c1,h1,hr⟩:=Option.bind_eq_some_iff.1 hr
   exact other_16 x fs gs mem res sl w0 w g q c c' A n1 B n2 h hm k16 k0 (by omega) c1 h1 hr
  rw[if_neg k0] at hr;cases hr
 rw[if_neg k16] at hr
 by_cases k3:x.f0=32∨x.f0=33∨x.f0=34
 ·
  rw[if_pos k3] at hr
  by_cases kz:(sl.length:Int)≤x.f1
  ·
   rw[if_pos kz] at hr
   rcases k3 with k|k|k
   ·
    exact other_32_no x fs gs mem res sl w0 w g q c c' A n1 B n2 h hm k kz (Option.some.inj hr).symm
   ·
    exact other_33_no x fs gs mem res sl w0 w g q c c' A n1 B n2 h hm k kz (Option.some.inj hr).symm
   exact other_34_no x fs gs mem res sl w0 w g q c c' A n1 B n2 h hm k kz (Option.some.inj hr).symm
  rw[if_neg kz] at hr
  by_cases k0:0≤x.f1
  ·
   rw[if_pos k0] at hr
   by_cases k32:x.f0=32
   ·
    rw[if_pos k32] at hr
    exact other_32 x fs gs mem res sl w0 w g q c c' A n1 B n2 h hm k32 k0 (by omega) hr
   rw[if_neg k32] at hr
   by_cases k33:x.f0=33
   ·
    rw[if_pos k33] at hr
    obtain⟨⟨c1,u⟩,h1,hr⟩:=Option.bind_eq_some_iff.1 hr
    obtain rfl:=Option.some.inj hr
    exact other_33 x fs gs mem res sl w0 w g q c c1 A n1 B n2 h hm k33 k0 (by omega) u h1
   rw[if_neg k33] at hr
   obtain⟨⟨c1,u⟩,h1,hr⟩:=Option.bind_eq_some_iff.1 hr
   exact other_34 x fs gs mem res sl w0 w g q c c' A n1 B n2 h hm (by omega) k0 (by omega) c1 u h1 hr
  rw[if_neg k0] at hr;cases hr
 rw[if_neg k3] at hr
 by_cases k5:x.f0=35∨x.f0=36
 ·
  rw[if_pos k5] at hr
  by_cases kz:(gs.length:Int)≤x.f1
  ·
   rw[if_pos kz] at hr
   rcases k5 with k|k
   ·
    exact other_35_no x fs gs mem res sl w0 w g q c c' A n1 B n2 h hm k kz (Option.some.inj hr).symm
   exact other_36_no x fs gs mem res sl w0 w g q c c' A n1 B n2 h hm k kz (Option.some.inj hr).symm
  rw[if_neg kz] at hr
  by_cases k0:0≤x.f1
  ·
   rw[if_pos k0] at hr
   by_cases k35:x.f0=35
   ·
    rw[if_pos k35] at hr
    exact other_35 x fs gs mem res sl w0 w g q c c' A n1 B n2 h hm k35 k0 (by omega) hr
   rw[if_neg k35] at hr
   obtain⟨⟨c1,u⟩,h1,hr⟩:=Option.bind_eq_some_iff.1 hr
   obtain rfl:=Option.some.inj hr
   by_cases kx:(rd_T63 gs x.f1).f1=true
   ·
    rw[if_pos kx] at h1
    exact other_36_f x fs gs mem res sl w0 w g q c c1 A n1 B n2 h hm (by omega) k0 (by omega) kx u h1
   rw[if_neg kx] at h1
   exact other_36 x fs gs mem res sl w0 w g q c c1 A n1 B n2 h hm (by omega) k0 (by omega) (by simpa using kx) u h1
  rw[if_neg k0] at hr;cases hr
 rw[if_neg k5] at hr
 by_cases km:x.f0=40∨x.f0=41∨x.f0=54∨x.f0=55∨x.f0=63∨x.f0=64
 ·
  rw[if_pos km] at hr
  rcases km with k|k|k|k|k|k
  ·
   exact other_40 x fs gs mem res sl w0 w g q c c' A n1 B n2 h hm k hr
  ·
   exact other_41 x fs gs mem res sl w0 w g q c c' A n1 B n2 h hm k hr
  ·
   exact other_54 x fs gs mem res sl w0 w g q c c' A n1 B n2 h hm k hr
  ·
   exact other_55 x fs gs mem res sl w0 w g q c c' A n1 B n2 h hm k hr
  ·
   exact other_63 x fs gs mem res sl w0 w g q c c' A n1 B n2 h hm k hr
  exact other_64 x fs gs mem res sl w0 w g q c c' A n1 B n2 h hm k hr
 rw[if_neg km] at hr
 by_cases k65:x.f0=65
 ·
  rw[if_pos k65] at hr
  exact other_65 x fs gs mem res sl w0 w g q c c' A n1 B n2 h hm k65 hr
 rw[if_neg k65] at hr
 by_cases k66:x.f0=66
 ·
  rw[if_pos k66] at hr
  exact other_66 x fs gs mem res sl w0 w g q c c' A n1 B n2 h hm k66 hr
 rw[if_neg k66] at hr
 by_cases k67:x.f0=67
 ·
  rw[if_pos k67] at hr
  exact other_67 x fs gs mem res sl w0 w g q c c' A n1 B n2 h hm k67 hr
 rw[if_neg k67] at hr
 by_cases k176:x.f0=176
 ·
  rw[if_pos k176] at hr
  exact other_176 x fs gs mem res sl w0 w g q c c' A n1 B n2 h hm k176 hr
 rw[if_neg k176] at hr
 by_cases k177:x.f0=177
 ·
  rw[if_pos k177] at hr
  exact other_177 x fs gs mem res sl w0 w g q c c' A n1 B n2 h hm k177 hr
 rw[if_neg k177] at hr
 by_cases k178:x.f0=178
 ·
  rw[if_pos k178] at hr
  exact other_178 x fs gs mem res sl w0 w g q c c' A n1 B n2 h hm k178 hr
 rw[if_neg k178] at hr
 by_cases k179:x.f0=179
 ·
  rw[if_pos k179] at hr
  exact other_179 x fs gs mem res sl w0 w g q c c' A n1 B n2 h hm k179 hr
 rw[if_neg k179] at hr
 by_cases k180:x.f0=180
 ·
  rw[if_pos k180] at hr
  exact other_180 x fs gs mem res sl w0 w g q c c' A n1 B n2 h hm k180 hr
 rw[if_neg k180] at hr
 exact other_n x fs gs mem res sl w0 w g q c c' A n1 B n2 h hm ⟨k16,fun e=>k3 (.inl e),fun e=>k3 (.inr (.inl e)),fun e=>k3 (.inr (.inr e)),fun e=>k5 (.inl e),fun e=>k5 (.inr e),fun e=>km (.inl e),fun e=>km (.inr (.inl e)),fun e=>km (.inr (.inr (.inl e))),fun e=>km (.inr (.inr (.inr (.inl e)))),fun e=>km (.inr (.inr (.inr (.inr (.inl e))))),fun e=>km (.inr (.inr (.inr (.inr (.inr e))))),k65,k66,k67,k176,k177,k178,k179,k180⟩ hr


end


/-! ### spec_l7S_ins: function 30 (walked by hand) -/
section
variable (x:S71) (fs:List S59) (gs:List S63) (mem:Bool) (res:Int) (sl:List Int) (w0 w:World) (g:Nat) (q:Nat→Value) (c c':CS S91) (A:Option Addr) (n1:Nat) (B:Option Addr) (n2:Nat)
theorem ins_1 (h:Cs w0 w g q c A n1 B n2) (hm:SEnv w0 q fs gs mem res sl) (hop:x.f0=1) (hc:c'=c):
  Calls Try.prog 30 #[.pointer (some ⟨g,0,none⟩),.agg #[.int .i64 x.f0,.int .i64 x.f1]] w fun e w'=>e=.returned (.tuple #[])∧CsE w0 w' g q c':=by
 have HO:=A_ h
 have HK:=A_ (KeepBut.refl w g none)
 have hu71:=Try.underlying71
 have hu91:=Try.underlying91
 have HM:=A_ hm
 clear h hm
 subst hc
 have b1:=e1_ hop
 clear hop
 go_enter Try.func30,Try.ntmps30
 go_wp2_with (first|((with_reducible refine gd_ 3 rfl ?_);refine bx_ #[.int .i64 x.f0,.int .i64 x.f1] 71 ?_;intro gx hg wx hbox hb;have BX:=A_ hbox;have NX:=A_ (HO.out.fresh_ne hg);replace HO:=A_ (HO.out.below hb);replace HK:=A_ (HK.out.trans (KeepBut.of_below hb g none) (.inl rfl));clear hbox hb hg;have x0:=(blk_cell BX.out 0).trans rfl;have x1:=(blk_cell BX.out 1).trans rfl))
 first|go_end0|((try simp only[Exit.inBlock,Exit.then]);refine rt_ ?_)
 exact⟨rfl,_,_,_,_,HO.out⟩
theorem ins_0 (h:Cs w0 w g q c A n1 B n2) (hm:SEnv w0 q fs gs mem res sl) (hop:x.f0=0) (hr:dieS c=some c'):
  Calls Try.prog 30 #[.pointer (some ⟨g,0,none⟩),.agg #[.int .i64 x.f0,.int .i64 x.f1]] w fun e w'=>e=.returned (.tuple #[])∧CsE w0 w' g q c':=by
 have HO:=A_ h
 have HK:=A_ (KeepBut.refl w g none)
 have hu71:=Try.underlying71
 have hu91:=Try.underlying91
 have HM:=A_ hm
 clear h hm
 have b1:=ne_ hop 1
 have b0:=e1_ hop
 have HR:=A_ hr
 clear hr hop
 go_enter Try.func30,Try.ntmps30
 go_wp2_with (first|((with_reducible refine gd_ 3 rfl ?_);refine bx_ #[.int .i64 x.f0,.int .i64 x.f1] 71 ?_;intro gx hg wx hbox hb;have BX:=A_ hbox;have NX:=A_ (HO.out.fresh_ne hg);replace HO:=A_ (HO.out.below hb);replace HK:=A_ (HK.out.trans (KeepBut.of_below hb g none) (.inl rfl));clear hbox hb hg;have x0:=(blk_cell BX.out 0).trans rfl;have x1:=(blk_cell BX.out 1).trans rfl)|(go_at_call 42;refine(sdie_any w0 _ g q _ c' A n1 _ n2 HO.out HR.out).mono ?_;rintro e w5 ⟨rfl,hE⟩;have HE:=A_ hE;clear hE))
 first|go_end0|((try simp only[Exit.inBlock,Exit.then]);refine rt_ ?_)
 exact⟨rfl,HE.out⟩
theorem ins_15 (h:Cs w0 w g q c A n1 B n2) (hm:SEnv w0 q fs gs mem res sl) (hop:x.f0=15) (c1:CS S91) (t:Int) (ht:takeS c res=some (c1,t)) (hr:dieS c1=some c'):
  Calls Try.prog 30 #[.pointer (some ⟨g,0,none⟩),.agg #[.int .i64 x.f0,.int .i64 x.f1]] w fun e w'=>e=.returned (.tuple #[])∧CsE w0 w' g q c':=by
 have HO:=A_ h
 have HK:=A_ (KeepBut.refl w g none)
 have hu71:=Try.underlying71
 have hu91:=Try.underlying91
 have HM:=A_ hm
 clear h hm
 have b1:=ne_ hop 1
 have b0:=ne_ hop 0
 have b15:=e1_ hop
 have HR:=A_ hr
 have HT:=A_ ht
 clear hr ht hop
 obtain⟨AF,cF,AG,cG,AS,cS,e0_,e1_,e2_,e7_,e14_,rF,rG,rS⟩:=HM.out
 have E7:=A_ e7_
 clear e0_ e1_ e2_ e7_ e14_ rF rG rS
 go_enter Try.func30,Try.ntmps30
 go_upto_region 7 with (first|((with_reducible refine gd_ 3 rfl ?_);refine bx_ #[.int .i64 x.f0,.int .i64 x.f1] 71 ?_;intro gx hg wx hbox hb;have BX:=A_ hbox;have NX:=A_ (HO.out.fresh_ne hg);replace HO:=A_ (HO.out.below hb);replace HK:=A_ (HK.out.trans (KeepBut.of_below hb g none) (.inl rfl));clear hbox hb hg;have x0:=(blk_cell BX.out 0).trans rfl;have x1:=(blk_cell BX.out 1).trans rfl))
 have c7f:=HO.out.cell7
 rw[E7.out] at c7f
 go_wp2_with (first|(go_at_call 43;refine(stake_any res t w0 _ g q _ c1 A n1 _ n2 HO.out HT.out).mono ?_;rintro e w5 ⟨rfl,hO,hK⟩;replace HO:=A_ hO;replace HK:=A_ (HK.out.trans hK (.inl rfl));replace BX:=A_ (KeepBut.blk hK BX.out NX.out.1 (by simp));clear x0 x1 hO hK;have x0:=(blk_cell BX.out 0).trans rfl;have x1:=(blk_cell BX.out 1).trans rfl;clear c7f)|(go_at_call 42;refine(sdie_any w0 _ g q _ c' A n1 _ n2 HO.out HR.out).mono ?_;rintro e w5 ⟨rfl,hE⟩;have HE:=A_ hE;clear hE))
 first|go_end0|((try simp only[Exit.inBlock,Exit.then]);refine rt_ ?_)
 exact⟨rfl,HE.out⟩
theorem ins_26 (h:Cs w0 w g q c A n1 B n2) (hm:SEnv w0 q fs gs mem res sl) (hop:x.f0=26) (t:Int) (hr:takeS c 1=some (c',t)):
  Calls Try.prog 30 #[.pointer (some ⟨g,0,none⟩),.agg #[.int .i64 x.f0,.int .i64 x.f1]] w fun e w'=>e=.returned (.tuple #[])∧CsE w0 w' g q c':=by
 have HO:=A_ h
 have HK:=A_ (KeepBut.refl w g none)
 have hu71:=Try.underlying71
 have hu91:=Try.underlying91
 have HM:=A_ hm
 clear h hm
 have b1:=ne_ hop 1
 have b0:=ne_ hop 0
 have b15:=ne_ hop 15
 have b26:=e1_ hop
 have HR:=A_ hr
 clear hr hop
 go_enter Try.func30,Try.ntmps30
 go_wp2_with (first|((with_reducible refine gd_ 3 rfl ?_);refine bx_ #[.int .i64 x.f0,.int .i64 x.f1] 71 ?_;intro gx hg wx hbox hb;have BX:=A_ hbox;have NX:=A_ (HO.out.fresh_ne hg);replace HO:=A_ (HO.out.below hb);replace HK:=A_ (HK.out.trans (KeepBut.of_below hb g none) (.inl rfl));clear hbox hb hg;have x0:=(blk_cell BX.out 0).trans rfl;have x1:=(blk_cell BX.out 1).trans rfl)|(go_at_call 43;refine(stake_any 1 t w0 _ g q _ c' A n1 _ n2 HO.out HR.out).mono ?_;rintro e w5 ⟨rfl,hO,hK⟩;replace HO:=A_ hO;replace HK:=A_ (HK.out.trans hK (.inl rfl));replace BX:=A_ (KeepBut.blk hK BX.out NX.out.1 (by simp));clear x0 x1 hO hK;have x0:=(blk_cell BX.out 0).trans rfl;have x1:=(blk_cell BX.out 1).trans rfl))
 first|go_end0|((try simp only[Exit.inBlock,Exit.then]);refine rt_ ?_)
 exact⟨rfl,_,_,_,_,HO.out⟩
theorem ins_27 (h:Cs w0 w g q c A n1 B n2) (hm:SEnv w0 q fs gs mem res sl) (hop:x.f0=27) (c1 c2 c3:CS S91) (t a b:Int) (h1:takeS c 127=some (c1,t)) (h2:takeS c1 1=some (c2,a)) (h3:takeS c2 a=some (c3,b)) (hr:c3.put b=some c'):
  Calls Try.prog 30 #[.pointer (some ⟨g,0,none⟩),.agg #[.int .i64 x.f0,.int .i64 x.f1]] w fun e w'=>e=.returned (.tuple #[])∧CsE w0 w' g q c':=by
 have HO:=A_ h
 have HK:=A_ (KeepBut.refl w g none)
 have hu71:=Try.underlying71
 have hu91:=Try.underlying91
 have HM:=A_ hm
 clear h hm
 have b1:=ne_ hop 1
 have b0:=ne_ hop 0
 have b15:=ne_ hop 15
 have b26:=ne_ hop 26
 have b27:=e1_ hop
 have HR:=A_ hr
 have H1:=A_ h1;have H2:=A_ h2;have H3:=A_ h3
 clear hr h1 h2 h3 hop
 go_enter Try.func30,Try.ntmps30
 go_upto_region 13 with (first|((with_reducible refine gd_ 3 rfl ?_);refine bx_ #[.int .i64 x.f0,.int .i64 x.f1] 71 ?_;intro gx hg wx hbox hb;have BX:=A_ hbox;have NX:=A_ (HO.out.fresh_ne hg);replace HO:=A_ (HO.out.below hb);replace HK:=A_ (HK.out.trans (KeepBut.of_below hb g none) (.inl rfl));clear hbox hb hg;have x0:=(blk_cell BX.out 0).trans rfl;have x1:=(blk_cell BX.out 1).trans rfl)|(go_at_call 43;refine(stake_any 127 t w0 _ g q _ c1 A n1 _ n2 HO.out H1.out).mono ?_;rintro e w5 ⟨rfl,hO,hK⟩;replace HO:=A_ hO;replace HK:=A_ (HK.out.trans hK (.inl rfl));replace BX:=A_ (KeepBut.blk hK BX.out NX.out.1 (by simp));clear x0 x1 hO hK;have x0:=(blk_cell BX.out 0).trans rfl;have x1:=(blk_cell BX.out 1).trans rfl))
 go_upto_region 14 with (first|(go_at_call 43;refine(stake_any 1 a w0 _ g q _ c2 A n1 _ n2 HO.out H2.out).mono ?_;rintro e w5 ⟨rfl,hO,hK⟩;replace HO:=A_ hO;replace HK:=A_ (HK.out.trans hK (.inl rfl));replace BX:=A_ (KeepBut.blk hK BX.out NX.out.1 (by simp));clear x0 x1 hO hK;have x0:=(blk_cell BX.out 0).trans rfl;have x1:=(blk_cell BX.out 1).trans rfl))
 go_upto_region 15 with (first|(go_at_call 43;refine(stake_any a b w0 _ g q _ c3 A n1 _ n2 HO.out H3.out).mono ?_;rintro e w5 ⟨rfl,hO,hK⟩;replace HO:=A_ hO;replace HK:=A_ (HK.out.trans hK (.inl rfl));replace BX:=A_ (KeepBut.blk hK BX.out NX.out.1 (by simp));clear x0 x1 hO hK;have x0:=(blk_cell BX.out 0).trans rfl;have x1:=(blk_cell BX.out 1).trans rfl))
 go_wp2_with (first|(go_at_call 44;refine(sput_any b w0 _ g q _ c' A n1 _ n2 HO.out HR.out).mono ?_;rintro e w5 ⟨rfl,hE⟩;have HE:=A_ hE;clear hE))
 first|go_end0|((try simp only[Exit.inBlock,Exit.then]);refine rt_ ?_)
 exact⟨rfl,HE.out⟩
theorem ins_2 (h:Cs w0 w g q c A n1 B n2) (hm:SEnv w0 q fs gs mem res sl) (hop:x.f0=2) (hr:pushS c x.f0 x.f1=some c'):
  Calls Try.prog 30 #[.pointer (some ⟨g,0,none⟩),.agg #[.int .i64 x.f0,.int .i64 x.f1]] w fun e w'=>e=.returned (.tuple #[])∧CsE w0 w' g q c':=by
 have HO:=A_ h
 have HK:=A_ (KeepBut.refl w g none)
 have hu71:=Try.underlying71
 have hu91:=Try.underlying91
 have HM:=A_ hm
 clear h hm
 have b1:=ne_ hop 1
 have b0:=ne_ hop 0
 have b15:=ne_ hop 15
 have b26:=ne_ hop 26
 have b27:=ne_ hop 27
 have b2:=e1_ hop
 have HR:=A_ hr
 clear hr hop
 go_enter Try.func30,Try.ntmps30
 go_wp2_with (first|((with_reducible refine gd_ 3 rfl ?_);refine bx_ #[.int .i64 x.f0,.int .i64 x.f1] 71 ?_;intro gx hg wx hbox hb;have BX:=A_ hbox;have NX:=A_ (HO.out.fresh_ne hg);replace HO:=A_ (HO.out.below hb);replace HK:=A_ (HK.out.trans (KeepBut.of_below hb g none) (.inl rfl));clear hbox hb hg;have x0:=(blk_cell BX.out 0).trans rfl;have x1:=(blk_cell BX.out 1).trans rfl)|(go_at_call 29;refine(begin_any x.f0 x.f1 w0 _ g q _ c' A n1 _ n2 HO.out HR.out).mono ?_;rintro e w5 ⟨rfl,hE⟩;have HE:=A_ hE;clear hE))
 first|go_end0|((try simp only[Exit.inBlock,Exit.then]);refine rt_ ?_)
 exact⟨rfl,HE.out⟩
theorem ins_3 (h:Cs w0 w g q c A n1 B n2) (hm:SEnv w0 q fs gs mem res sl) (hop:x.f0=3) (hr:pushS c x.f0 x.f1=some c'):
  Calls Try.prog 30 #[.pointer (some ⟨g,0,none⟩),.agg #[.int .i64 x.f0,.int .i64 x.f1]] w fun e w'=>e=.returned (.tuple #[])∧CsE w0 w' g q c':=by
 have HO:=A_ h
 have HK:=A_ (KeepBut.refl w g none)
 have hu71:=Try.underlying71
 have hu91:=Try.underlying91
 have HM:=A_ hm
 clear h hm
 have b1:=ne_ hop 1
 have b0:=ne_ hop 0
 have b15:=ne_ hop 15
 have b26:=ne_ hop 26
 have b27:=ne_ hop 27
 have b2:=ne_ hop 2
 have b3:=e1_ hop
 have HR:=A_ hr
 clear hr hop
 go_enter Try.func30,Try.ntmps30
 go_wp2_with (first|((with_reducible refine gd_ 3 rfl ?_);refine bx_ #[.int .i64 x.f0,.int .i64 x.f1] 71 ?_;intro gx hg wx hbox hb;have BX:=A_ hbox;have NX:=A_ (HO.out.fresh_ne hg);replace HO:=A_ (HO.out.below hb);replace HK:=A_ (HK.out.trans (KeepBut.of_below hb g none) (.inl rfl));clear hbox hb hg;have x0:=(blk_cell BX.out 0).trans rfl;have x1:=(blk_cell BX.out 1).trans rfl)|(go_at_call 29;refine(begin_any x.f0 x.f1 w0 _ g q _ c' A n1 _ n2 HO.out HR.out).mono ?_;rintro e w5 ⟨rfl,hE⟩;have HE:=A_ hE;clear hE))
 first|go_end0|((try simp only[Exit.inBlock,Exit.then]);refine rt_ ?_)
 exact⟨rfl,HE.out⟩
theorem ins_4 (h:Cs w0 w g q c A n1 B n2) (hm:SEnv w0 q fs gs mem res sl) (hop:x.f0=4) (c1:CS S91) (t:Int) (h1:takeS c 127=some (c1,t)) (hr:pushS c1 x.f0 x.f1=some c'):
  Calls Try.prog 30 #[.pointer (some ⟨g,0,none⟩),.agg #[.int .i64 x.f0,.int .i64 x.f1]] w fun e w'=>e=.returned (.tuple #[])∧CsE w0 w' g q c':=by
 have HO:=A_ h
 have HK:=A_ (KeepBut.refl w g none)
 have hu71:=Try.underlying71
 have hu91:=Try.underlying91
 have HM:=A_ hm
 clear h hm
 have b1:=ne_ hop 1
 have b0:=ne_ hop 0
 have b15:=ne_ hop 15
 have b26:=ne_ hop 26
 have b27:=ne_ hop 27
 have b2:=ne_ hop 2
 have b3:=ne_ hop 3
 have b4:=e1_ hop
 have HR:=A_ hr
 have H1:=A_ h1
 clear hr h1 hop
 go_enter Try.func30,Try.ntmps30
 go_wp2_with (first|((with_reducible refine gd_ 3 rfl ?_);refine bx_ #[.int .i64 x.f0,.int .i64 x.f1] 71 ?_;intro gx hg wx hbox hb;have BX:=A_ hbox;have NX:=A_ (HO.out.fresh_ne hg);replace HO:=A_ (HO.out.below hb);replace HK:=A_ (HK.out.trans (KeepBut.of_below hb g none) (.inl rfl));clear hbox hb hg;have x0:=(blk_cell BX.out 0).trans rfl;have x1:=(blk_cell BX.out 1).trans rfl)|(go_at_call 43;refine(stake_any 127 t w0 _ g q _ c1 A n1 _ n2 HO.out H1.out).mono ?_;rintro e w5 ⟨rfl,hO,hK⟩;replace HO:=A_ hO;replace HK:=A_ (HK.out.trans hK (.inl rfl));replace BX:=A_ (KeepBut.blk hK BX.out NX.out.1 (by simp));clear x0 x1 hO hK;have x0:=(blk_cell BX.out 0).trans rfl;have x1:=(blk_cell BX.out 1).trans rfl)|(go_at_call 29;refine(begin_any x.f0 x.f1 w0 _ g q _ c' A n1 _ n2 HO.out HR.out).mono ?_;rintro e w5 ⟨rfl,hE⟩;have HE:=A_ hE;clear hE))
 first|go_end0|((try simp only[Exit.inBlock,Exit.then]);refine rt_ ?_)
 exact⟨rfl,HE.out⟩
theorem ins_12 (h:Cs w0 w g q c A n1 B n2) (hm:SEnv w0 q fs gs mem res sl) (hop:x.f0=12) (cw c1:CS S91) (t u:Int) (h1:wantsS c x.f1=some (cw,t)) (h2:takeS cw t=some (c1,u)) (hr:dieS c1=some c'):
  Calls Try.prog 30 #[.pointer (some ⟨g,0,none⟩),.agg #[.int .i64 x.f0,.int .i64 x.f1]] w fun e w'=>e=.returned (.tuple #[])∧CsE w0 w' g q c':=by
 have HO:=A_ h
 have HK:=A_ (KeepBut.refl w g none)
 have hu71:=Try.underlying71
 have hu91:=Try.underlying91
 have HM:=A_ hm
 clear h hm
 have b1:=ne_ hop 1
 have b0:=ne_ hop 0
 have b15:=ne_ hop 15
 have b26:=ne_ hop 26
 have b27:=ne_ hop 27
 have b2:=ne_ hop 2
 have b3:=ne_ hop 3
 have b4:=ne_ hop 4
 have b5:=ne_ hop 5
 have b11:=ne_ hop 11
 have b12:=e1_ hop
 have HR:=A_ hr
 have H1:=A_ h1;have H2:=A_ h2
 clear hr h1 h2 hop
 go_enter Try.func30,Try.ntmps30
 go_wp2_with (first|((with_reducible refine gd_ 3 rfl ?_);refine bx_ #[.int .i64 x.f0,.int .i64 x.f1] 71 ?_;intro gx hg wx hbox hb;have BX:=A_ hbox;have NX:=A_ (HO.out.fresh_ne hg);replace HO:=A_ (HO.out.below hb);replace HK:=A_ (HK.out.trans (KeepBut.of_below hb g none) (.inl rfl));clear hbox hb hg;have x0:=(blk_cell BX.out 0).trans rfl;have x1:=(blk_cell BX.out 1).trans rfl)|(go_at_call 47;refine(swants_any x.f1 t w0 _ g q _ cw A n1 _ n2 HO.out H1.out).mono ?_;rintro e w5 ⟨rfl,hO,hK⟩;replace HO:=A_ hO;replace HK:=A_ (HK.out.trans hK (.inl rfl));replace BX:=A_ (KeepBut.blk hK BX.out NX.out.1 (by simp));clear x0 x1 hO hK;have x0:=(blk_cell BX.out 0).trans rfl;have x1:=(blk_cell BX.out 1).trans rfl)|(go_at_call 43;refine(stake_any t u w0 _ g q _ c1 A n1 _ n2 HO.out H2.out).mono ?_;rintro e w5 ⟨rfl,hO,hK⟩;replace HO:=A_ hO;replace HK:=A_ (HK.out.trans hK (.inl rfl));replace BX:=A_ (KeepBut.blk hK BX.out NX.out.1 (by simp));clear x0 x1 hO hK;have x0:=(blk_cell BX.out 0).trans rfl;have x1:=(blk_cell BX.out 1).trans rfl)|(go_at_call 42;refine(sdie_any w0 _ g q _ c' A n1 _ n2 HO.out HR.out).mono ?_;rintro e w5 ⟨rfl,hE⟩;have HE:=A_ hE;clear hE))
 first|go_end0|((try simp only[Exit.inBlock,Exit.then]);refine rt_ ?_)
 exact⟨rfl,HE.out⟩
theorem ins_13 (h:Cs w0 w g q c A n1 B n2) (hm:SEnv w0 q fs gs mem res sl) (hop:x.f0=13) (cw c1 c2:CS S91) (t u v:Int) (h1:wantsS c x.f1=some (cw,t)) (h2:takeS cw 127=some (c1,u)) (h3:takeS c1 t=some (c2,v)) (hr:c2.put t=some c'):
  Calls Try.prog 30 #[.pointer (some ⟨g,0,none⟩),.agg #[.int .i64 x.f0,.int .i64 x.f1]] w fun e w'=>e=.returned (.tuple #[])∧CsE w0 w' g q c':=by
 have HO:=A_ h
 have HK:=A_ (KeepBut.refl w g none)
 have hu71:=Try.underlying71
 have hu91:=Try.underlying91
 have HM:=A_ hm
 clear h hm
 have b1:=ne_ hop 1
 have b0:=ne_ hop 0
 have b15:=ne_ hop 15
 have b26:=ne_ hop 26
 have b27:=ne_ hop 27
 have b2:=ne_ hop 2
 have b3:=ne_ hop 3
 have b4:=ne_ hop 4
 have b5:=ne_ hop 5
 have b11:=ne_ hop 11
 have b12:=ne_ hop 12
 have b13:=e1_ hop
 have HR:=A_ hr
 have H1:=A_ h1;have H2:=A_ h2;have H3:=A_ h3
 clear hr h1 h2 h3 hop
 go_enter Try.func30,Try.ntmps30
 go_upto_region 40 with (first|((with_reducible refine gd_ 3 rfl ?_);refine bx_ #[.int .i64 x.f0,.int .i64 x.f1] 71 ?_;intro gx hg wx hbox hb;have BX:=A_ hbox;have NX:=A_ (HO.out.fresh_ne hg);replace HO:=A_ (HO.out.below hb);replace HK:=A_ (HK.out.trans (KeepBut.of_below hb g none) (.inl rfl));clear hbox hb hg;have x0:=(blk_cell BX.out 0).trans rfl;have x1:=(blk_cell BX.out 1).trans rfl)|(go_at_call 47;refine(swants_any x.f1 t w0 _ g q _ cw A n1 _ n2 HO.out H1.out).mono ?_;rintro e w5 ⟨rfl,hO,hK⟩;replace HO:=A_ hO;replace HK:=A_ (HK.out.trans hK (.inl rfl));replace BX:=A_ (KeepBut.blk hK BX.out NX.out.1 (by simp));clear x0 x1 hO hK;have x0:=(blk_cell BX.out 0).trans rfl;have x1:=(blk_cell BX.out 1).trans rfl))
 go_upto_region 41 with (first|(go_at_call 43;refine(stake_any 127 u w0 _ g q _ c1 A n1 _ n2 HO.out H2.out).mono ?_;rintro e w5 ⟨rfl,hO,hK⟩;replace HO:=A_ hO;replace HK:=A_ (HK.out.trans hK (.inl rfl));replace BX:=A_ (KeepBut.blk hK BX.out NX.out.1 (by simp));clear x0 x1 hO hK;have x0:=(blk_cell BX.out 0).trans rfl;have x1:=(blk_cell BX.out 1).trans rfl))
 go_upto_region 42 with (first|(go_at_call 43;refine(stake_any t v w0 _ g q _ c2 A n1 _ n2 HO.out H3.out).mono ?_;rintro e w5 ⟨rfl,hO,hK⟩;replace HO:=A_ hO;replace HK:=A_ (HK.out.trans hK (.inl rfl));replace BX:=A_ (KeepBut.blk hK BX.out NX.out.1 (by simp));clear x0 x1 hO hK;have x0:=(blk_cell BX.out 0).trans rfl;have x1:=(blk_cell BX.out 1).trans rfl))
 go_wp2_with (first|(go_at_call 44;refine(sput_any t w0 _ g q _ c' A n1 _ n2 HO.out HR.out).mono ?_;rintro e w5 ⟨rfl,hE⟩;have HE:=A_ hE;clear hE))
 first|go_end0|((try simp only[Exit.inBlock,Exit.then]);refine rt_ ?_)
 exact⟨rfl,HE.out⟩
theorem ins_n (h:Cs w0 w g q c A n1 B n2) (hm:SEnv w0 q fs gs mem res sl) (hop:x.f0≠1∧x.f0≠0∧x.f0≠15∧x.f0≠26∧x.f0≠27∧x.f0≠2∧x.f0≠3∧x.f0≠4∧x.f0≠5∧x.f0≠11∧x.f0≠12∧x.f0≠13) (hr:otherS c fs gs mem sl x=some c'):
  Calls Try.prog 30 #[.pointer (some ⟨g,0,none⟩),.agg #[.int .i64 x.f0,.int .i64 x.f1]] w fun e w'=>e=.returned (.tuple #[])∧CsE w0 w' g q c':=by
 have HO:=A_ h
 have HK:=A_ (KeepBut.refl w g none)
 have hu71:=Try.underlying71
 have HR:=A_ hr;have HM:=A_ hm
 clear h hm hr
 obtain⟨h1,h0,h15,h26,h27,h2,h3,h4,h5,h11,h12,h13⟩:=hop
 have b1:=e0_ h1
 have b0:=e0_ h0
 have b15:=e0_ h15
 have b26:=e0_ h26
 have b27:=e0_ h27
 have b2:=e0_ h2
 have b3:=e0_ h3
 have b4:=e0_ h4
 have b5:=e0_ h5
 have b11:=e0_ h11
 have b12:=e0_ h12
 have b13:=e0_ h13
 clear h1 h0 h15 h26 h27 h2 h3 h4 h5 h11 h12 h13
 go_enter Try.func30,Try.ntmps30
 go_wp2_with (first|((with_reducible refine gd_ 3 rfl ?_);refine bx_ #[.int .i64 x.f0,.int .i64 x.f1] 71 ?_;intro gx hg wx hbox hb;have BX:=A_ hbox;have NX:=A_ (HO.out.fresh_ne hg);replace HO:=A_ (HO.out.below hb);replace HK:=A_ (HK.out.trans (KeepBut.of_below hb g none) (.inl rfl));clear hbox hb hg;have x0:=(blk_cell BX.out 0).trans rfl;have x1:=(blk_cell BX.out 1).trans rfl)|(go_at_call 48;refine(other_any x fs gs mem res sl w0 _ g q _ c' A n1 _ n2 HO.out HM.out HR.out).mono ?_;rintro e w5 ⟨rfl,hE⟩;have HE:=A_ hE;clear hE))
 first|go_end0|((try simp only[Exit.inBlock,Exit.then]);refine rt_ ?_)
 exact⟨rfl,HE.out⟩

def elseS (c1:CS S91):Option (CS S91):=(c1.sp[c1.sp.length - 1]?).bind fun b=>some {c1 with sp:=c1.sp.set (c1.sp.length - 1) {b with f3:=false,f4:=true}}
def endS (c1:CS S91):Option (CS S91):=(c1.sp[c1.sp.length - 1]?).bind fun b=>
 let c2:=if b.f0=4∧b.f4=false∧b.f1≠64 then c1.fail 3 else c1
 if 0<c1.sp.length - 1 then ({c2 with sp:=c2.sp.take (c2.sp.length - 1)}:CS S91).put b.f1 else some {c2 with sp:=c2.sp.take (c2.sp.length - 1)}
theorem ins_5 (h:Cs w0 w g q c A n1 B n2) (hm:SEnv w0 q fs gs mem res sl) (hop:x.f0=5) (c1:CS S91) (hk:closeS c=some c1) (hr:elseS c1=some c'):
  Calls Try.prog 30 #[.pointer (some ⟨g,0,none⟩),.agg #[.int .i64 x.f0,.int .i64 x.f1]] w fun e w'=>e=.returned (.tuple #[])∧CsE w0 w' g q c':=by
 have HO:=A_ h
 have HK:=A_ (KeepBut.refl w g none)
 have hu71:=Try.underlying71
 have hu91:=Try.underlying91
 have HM:=A_ hm
 clear h hm
 have b1:=ne_ hop 1
 have b0:=ne_ hop 0
 have b15:=ne_ hop 15
 have b26:=ne_ hop 26
 have b27:=ne_ hop 27
 have b2:=ne_ hop 2
 have b3:=ne_ hop 3
 have b4:=ne_ hop 4
 have b5:=e1_ hop
 have HT:=A_ hk
 obtain⟨b,hb,hr1⟩:=Option.bind_eq_some_iff.1 hr
 have HBB:=A_ hb
 have HLT:=A_ (List.getElem?_eq_some_iff.1 hb).1
 have HP:=A_ (show 0<c1.sp.length by have:=HLT.out;omega)
 obtain rfl:=Option.some.inj hr1
 clear hk hb hr hr1 hop
 go_enter Try.func30,Try.ntmps30
 go_upto_region 24 with (first|((with_reducible refine gd_ 3 rfl ?_);refine bx_ #[.int .i64 x.f0,.int .i64 x.f1] 71 ?_;intro gx hg wx hbox hb;have BX:=A_ hbox;have NX:=A_ (HO.out.fresh_ne hg);replace HO:=A_ (HO.out.below hb);replace HK:=A_ (HK.out.trans (KeepBut.of_below hb g none) (.inl rfl));clear hbox hb hg;have x0:=(blk_cell BX.out 0).trans rfl;have x1:=(blk_cell BX.out 1).trans rfl)|(go_at_call 45;refine(sclose_any w0 _ g q _ c1 A n1 _ n2 HO.out HT.out).mono ?_;rintro e w5 ⟨rfl,hO,hK⟩;replace HO:=A_ hO;replace HK:=A_ (HK.out.trans hK (.inl rfl));replace BX:=A_ (KeepBut.blk hK BX.out NX.out.1 (by simp));clear x0 x1 hO hK;have x0:=(blk_cell BX.out 0).trans rfl;have x1:=(blk_cell BX.out 1).trans rfl))
 clear x0 x1 BX
 obtain⟨gB,rfl,_⟩:=HO.out.span _ b HBB.out
 have hm1:=HO.out.lenP
 have e1:IntKind.i64.wrap ((c1.sp.length:Int) - 1)=((c1.sp.length - 1:Nat):Int):=by have:=HP.out;rw[show ((c1.sp.length:Int) - 1)=((c1.sp.length - 1:Nat):Int) by omega];exact IntWalk.i64_in _ (by omega)
 have q1:(0:Int)≤((c1.sp.length - 1:Nat):Int):=by omega
 have q2:((c1.sp.length - 1:Nat):Int)<(c1.sp.length:Int):=by have:=HP.out;omega
 have q3:((c1.sp.length - 1:Nat):Int)≤(n2:Int):=by omega
 clear hm1
 have c11f:=HO.out.cell11
 obtain⟨_,e_,_,_,_,_,s3,s4,sf⟩:=HO.out.span (c1.sp.length - 1) b HBB.out;cases e_
 have u3:=sf ((c1.sp.length - 1)*5+3)
 clear sf
 go_upto_region 26 with (fail)
 replace HO:=A_ ((HO.out.flag gB (c1.sp.length - 1) b HBB.out false).1);replace HK:=A_ (trivial);clear c11f s3 s4 u3;generalize w5.setCell ⟨gB,(c1.sp.length - 1)*5+3,none⟩ (.bool false)=wa at*
 have c11f:wa.cell? ⟨g,11,none⟩=some (.slice (some ⟨gB,0,none⟩) c1.sp.length n2):=by have h9:=HO.out.cell11;rwa [List.length_set] at h9
 obtain⟨_,e_,_,_,_,_,_,s4,sf⟩:=HO.out.span (c1.sp.length - 1) {b with f3:=false} (by rw[List.getElem?_set_self];exact HLT.out);cases e_;have u4:=sf ((c1.sp.length - 1)*5+4);clear sf
 go_wp2
 first|go_end0|((try simp only[Exit.inBlock,Exit.then]);refine rt_ ?_)
 refine⟨rfl,A,n1,some ⟨gB,0,none⟩,n2,?_⟩
 have h9:=(HO.out.flag gB (c1.sp.length - 1) {b with f3:=false} (by rw[List.getElem?_set_self];exact HLT.out) true).2
 simp only[List.set_set] at h9
 exact h9

def spec_l7ins.T29:Bool × List (List Nat × List Nat):=(true,[([],[]),([0],[0]),([1],[1]),([2],[2]),([],[]),([4],[4]),([5],[5]),([6],[6]),([7],[7]),([8],[8]),([3,9],[3,9]),([10],[10]),([],[]),([12,11,0,1,2,3,4,5,6,7,8,9,10,11,12],[11,12])])
def spec_l7ins.B29:List Nat:=[0,1,3,7,0,16,48,112,240,496,1023,2047,0,8191]
theorem spec_l7ins.tab29:rtab .any (opsOf Try.f30 29)=spec_l7ins.T29:=by kernel_rfl
theorem spec_l7ins.bits29:waitsOk spec_l7ins.T29.2 spec_l7ins.B29=true:=by kernel_rfl
theorem ins_11 (h:Cs w0 w g q c A n1 B n2) (hm:SEnv w0 q fs gs mem res sl) (hop:x.f0=11) (c1:CS S91) (hk:closeS c=some c1) (hr:endS c1=some c'):
  Calls Try.prog 30 #[.pointer (some ⟨g,0,none⟩),.agg #[.int .i64 x.f0,.int .i64 x.f1]] w fun e w'=>e=.returned (.tuple #[])∧CsE w0 w' g q c':=by
 have HO:=A_ h
 have HK:=A_ (KeepBut.refl w g none)
 have hu71:=Try.underlying71
 have hu91:=Try.underlying91
 have HM:=A_ hm
 clear h hm
 have b1:=ne_ hop 1
 have b0:=ne_ hop 0
 have b15:=ne_ hop 15
 have b26:=ne_ hop 26
 have b27:=ne_ hop 27
 have b2:=ne_ hop 2
 have b3:=ne_ hop 3
 have b4:=ne_ hop 4
 have b5:=ne_ hop 5
 have b11:=e1_ hop
 have HT:=A_ hk
 obtain⟨b,hb,hr1⟩:=Option.bind_eq_some_iff.1 hr
 have HBB:=A_ hb
 have HLT:=A_ (List.getElem?_eq_some_iff.1 hb).1
 have HP:=A_ (show 0<c1.sp.length by have:=HLT.out;omega)
 have HL1:=A_ (Nat.sub_le c1.sp.length 1)
 clear hk hb hr hop
 go_enter Try.func30,Try.ntmps30
 go_upto_region 29 with (first|((with_reducible refine gd_ 3 rfl ?_);refine bx_ #[.int .i64 x.f0,.int .i64 x.f1] 71 ?_;intro gx hg wx hbox hb;have BX:=A_ hbox;have NX:=A_ (HO.out.fresh_ne hg);replace HO:=A_ (HO.out.below hb);replace HK:=A_ (HK.out.trans (KeepBut.of_below hb g none) (.inl rfl));clear hbox hb hg;have x0:=(blk_cell BX.out 0).trans rfl;have x1:=(blk_cell BX.out 1).trans rfl)|(go_at_call 45;refine(sclose_any w0 _ g q _ c1 A n1 _ n2 HO.out HT.out).mono ?_;rintro e w5 ⟨rfl,hO,hK⟩;replace HO:=A_ hO;replace HK:=A_ (HK.out.trans hK (.inl rfl));replace BX:=A_ (KeepBut.blk hK BX.out NX.out.1 (by simp));clear x0 x1 hO hK;have x0:=(blk_cell BX.out 0).trans rfl;have x1:=(blk_cell BX.out 1).trans rfl))
 clear x0 x1 BX NX
 obtain⟨gB,rfl,_,s0,s1,s2,s3,s4,_⟩:=HO.out.span _ b HBB.out
 have hm1:=HO.out.lenP
 have e1:IntKind.i64.wrap ((c1.sp.length:Int) - 1)=((c1.sp.length - 1:Nat):Int):=by have:=HP.out;rw[show ((c1.sp.length:Int) - 1)=((c1.sp.length - 1:Nat):Int) by omega];exact IntWalk.i64_in _ (by omega)
 have q1:(0:Int)≤((c1.sp.length - 1:Nat):Int):=by omega
 have q2:((c1.sp.length - 1:Nat):Int)<(c1.sp.length:Int):=by have:=HP.out;omega
 have q3:((c1.sp.length - 1:Nat):Int)≤(n2:Int):=by omega
 clear hm1
 have c3:=HO.out.cell11
 refine sS 14 (fun w'=>w'.cell? ⟨g,11,none⟩=some (.slice (some ⟨gB,0,none⟩) c1.sp.length n2)∧w'.cell? ⟨gB,(c1.sp.length - 1)*5,none⟩=some (.int .i64 b.f0)∧w'.cell? ⟨gB,(c1.sp.length - 1)*5+1,none⟩=some (.int .i64 b.f1)∧w'.cell? ⟨gB,(c1.sp.length - 1)*5+2,none⟩=some (.int .i64 b.f2)∧w'.cell? ⟨gB,(c1.sp.length - 1)*5+3,none⟩=some (.bool b.f3)∧w'.cell? ⟨gB,(c1.sp.length - 1)*5+4,none⟩=some (.bool b.f4)) [13] ⟨c3,s0,s1,s2,s3,s4⟩ spec_l7ins.tab29 spec_l7ins.bits29 (fun hHeld HT_ HW_=>?_)
 replace HO:=A_ HO.out.drew;replace HK:=A_ (keep_drew HK.out);clear c3 s0 s1 s2 s3 s4;generalize w5.drew=wd at*
 refine pS HT_ 0 94 ?_
 refine pS HT_ 1 95 ?_
 refine pS HT_ 2 96 ?_
 refine pS HT_ 4 98 ?_
 refine pS HT_ 5 99 ?_
 refine pS HT_ 6 100 ?_
 refine tS HT_ HW_ 3 97 hHeld ?_
 refine tS HT_ HW_ 7 101 hHeld ?_
 refine pS HT_ 8 102 ?_
 refine pS HT_ 9 103 ?_
 refine pS HT_ 10 104 ?_
 refine tS HT_ HW_ 11 105 hHeld ?_
 refine oS HT_ 12 (some 7) (fun K hK=>?_)
 refine box_step (by rfl) (N:=7) ?hd (cs:=#[(.int .i64 0),(.int .i64 0),(.int .i64 0),(.bool false),(.bool false)]) (t:=91) ?hr ?_;(case hd=>rfl);(case hr=>first|(go_simp;done)|(go_simp;rfl))
 intro gx hg wx hbox hb
 have BX:=A_ hbox;have GX:=A_ (show w.heap.size≤gx from by rw[hg];exact HK.out.1);have NX:=A_ (HO.out.fresh_ne hg);have G0:=A_ (Nat.le_trans HO.out.2.1.size (Nat.le_of_eq hg.symm));have m0:=A_ (HO.out.below hb);have m1:=A_ (HK.out.trans (KeepBut.of_below hb g none) (.inl rfl))
 obtain⟨s0_,s1_,s2_,s3_,s4_,s5_⟩:=hHeld
 have hHeld2:=A_ (show wx.cell? ⟨g,11,none⟩=some (.slice (some ⟨gB,0,none⟩) c1.sp.length n2)∧wx.cell? ⟨gB,(c1.sp.length - 1)*5,none⟩=some (.int .i64 b.f0)∧wx.cell? ⟨gB,(c1.sp.length - 1)*5+1,none⟩=some (.int .i64 b.f1)∧wx.cell? ⟨gB,(c1.sp.length - 1)*5+2,none⟩=some (.int .i64 b.f2)∧wx.cell? ⟨gB,(c1.sp.length - 1)*5+3,none⟩=some (.bool b.f3)∧wx.cell? ⟨gB,(c1.sp.length - 1)*5+4,none⟩=some (.bool b.f4) from ⟨cl_ hb s0_,cl_ hb s1_,cl_ hb s2_,cl_ hb s3_,cl_ hb s4_,cl_ hb s5_⟩)
 clear HO HK hbox hb hg s0_ s1_ s2_ s3_ s4_ s5_;have HO:=m0;have HK:=m1;clear m0 m1
 have z0:=(blk_cell BX.out 0).trans rfl;have v0:=blk_frozen BX.out 0;have z1:=(blk_cell BX.out 1).trans rfl;have v1:=blk_frozen BX.out 1;have z2:=(blk_cell BX.out 2).trans rfl;have v2:=blk_frozen BX.out 2;have z3:=(blk_cell BX.out 3).trans rfl;have v3:=blk_frozen BX.out 3;have z4:=(blk_cell BX.out 4).trans rfl;have v4:=blk_frozen BX.out 4
 refine hK.out _ _ hHeld2.out (fun hHeld=>?_)
 clear hK K
 refine nS (some 7) ?_
 refine lS HT_ 13 (none) (fun K hK=>?_)
 refine skip_ (w1:=(((((wx.setCell ⟨gx,0,none⟩ ((.int .i64 b.f0))).setCell ⟨gx,1,none⟩ ((.int .i64 b.f1))).setCell ⟨gx,2,none⟩ ((.int .i64 b.f2))).setCell ⟨gx,3,none⟩ ((.bool b.f3))).setCell ⟨gx,4,none⟩ ((.bool b.f4)))) (by rfl) rfl (by first|(go_simp;done)|(go_simp;rfl)) ?_
 clear hHeld hHeld2 z0 v0 z1 v1 z2 v2 z3 v3 z4 v4
 refine hK.out _ _ ?_
 clear hK K
 refine dS HT_ ?_
 replace BX:=A_ (show((((((wx.setCell ⟨gx,0,none⟩ ((.int .i64 b.f0))).setCell ⟨gx,1,none⟩ ((.int .i64 b.f1))).setCell ⟨gx,2,none⟩ ((.int .i64 b.f2))).setCell ⟨gx,3,none⟩ ((.bool b.f3))).setCell ⟨gx,4,none⟩ ((.bool b.f4)))).heap[gx]? =some (.cells #[(.int .i64 b.f0),(.int .i64 b.f1),(.int .i64 b.f2),(.bool b.f3),(.bool b.f4)] 91 (0,0)) from blk_put (cs:=#[(.int .i64 b.f0),(.int .i64 b.f1),(.int .i64 b.f2),(.bool b.f3),(.bool false)]) (blk_put (cs:=#[(.int .i64 b.f0),(.int .i64 b.f1),(.int .i64 b.f2),(.bool false),(.bool false)]) (blk_put (cs:=#[(.int .i64 b.f0),(.int .i64 b.f1),(.int .i64 0),(.bool false),(.bool false)]) (blk_put (cs:=#[(.int .i64 b.f0),(.int .i64 0),(.int .i64 0),(.bool false),(.bool false)]) (blk_put (cs:=#[(.int .i64 0),(.int .i64 0),(.int .i64 0),(.bool false),(.bool false)]) (BX.out) 0 ((.int .i64 b.f0)) rfl) 1 ((.int .i64 b.f1)) rfl) 2 ((.int .i64 b.f2)) rfl) 3 ((.bool b.f3)) rfl) 4 ((.bool b.f4)) rfl);replace HO:=A_ (Cs.other (Cs.other (Cs.other (Cs.other (Cs.other (HO.out) G0.out NX.out 0 ((.int .i64 b.f0))) G0.out NX.out 1 ((.int .i64 b.f1))) G0.out NX.out 2 ((.int .i64 b.f2))) G0.out NX.out 3 ((.bool b.f3))) G0.out NX.out 4 ((.bool b.f4)));replace HK:=A_ (keep_other (keep_other (keep_other (keep_other (keep_other (HK.out) GX.out 0 ((.int .i64 b.f0))) GX.out 1 ((.int .i64 b.f1))) GX.out 2 ((.int .i64 b.f2))) GX.out 3 ((.bool b.f3))) GX.out 4 ((.bool b.f4)));generalize (((((wx.setCell ⟨gx,0,none⟩ ((.int .i64 b.f0))).setCell ⟨gx,1,none⟩ ((.int .i64 b.f1))).setCell ⟨gx,2,none⟩ ((.int .i64 b.f2))).setCell ⟨gx,3,none⟩ ((.bool b.f3))).setCell ⟨gx,4,none⟩ ((.bool b.f4)))=wy at*
 have x0:=(blk_cell BX.out 0).trans rfl;have x1:=(blk_cell BX.out 1).trans rfl;have x2:=(blk_cell BX.out 2).trans rfl;have x3:=(blk_cell BX.out 3).trans rfl;have x4:=(blk_cell BX.out 4).trans rfl
 go_upto_region 30 with (fail)
 by_cases k1:b.f0=4
 ·
  have d1:(b.f0==4)=true:=beq_iff_eq.2 k1
  by_cases k2:b.f4=false
  ·
   rw[k2] at x4
   by_cases k3:b.f1≠64
   ·
    have d3:(b.f1 !=64)=true:=bne_iff_ne.2 k3
    simp only[if_pos (show b.f0=4∧b.f4=false∧b.f1≠64 from ⟨k1,k2,k3⟩)] at hr1
    by_cases cz:0<c1.sp.length - 1
    ·
     rw[if_pos cz] at hr1
     rw[(fail_st c1 3).2] at hr1
     have HRR:=A_ hr1
     have cb:decide ((0:Int)<((c1.sp.length - 1:Nat):Int))=true:=decide_eq_true (by omega)
     have cbn:=decide_eq_true cz
     clear hr1 cz
     go_upto_region 32 with (first|(go_at_call 46;refine(bad_any w0 _ g q _ 3 A n1 _ n2 HO.out).mono ?_;rintro e w5 ⟨rfl,hO,hK⟩;replace HO:=A_ hO;replace HK:=A_ (HK.out.trans hK (.inl rfl));replace BX:=A_ (KeepBut.blk hK BX.out NX.out.1 (by simp));clear x0 x1 x2 x3 x4 hO hK;have x0:=(blk_cell BX.out 0).trans rfl;have x1:=(blk_cell BX.out 1).trans rfl;have x2:=(blk_cell BX.out 2).trans rfl;have x3:=(blk_cell BX.out 3).trans rfl;have x4:=(blk_cell BX.out 4).trans rfl))
     have c3:w5.cell? ⟨g,11,none⟩=some (.slice (some ⟨gB,0,none⟩) c1.sp.length n2):=by have h9:=HO.out.cell11;rwa [(fail_st c1 3).2] at h9
     go_still_tail 14,(by kernel_rfl)
     change wpList _ _ _ _ _ w5.drew
     have m2:=A_ (blk_drew BX.out);clear BX x0 x1 x2 x3 x4;replace HO:=A_ (HO.out.drew);replace HK:=A_ (keep_drew HK.out);clear c3;generalize w5.drew=wz at*
     have c3:wz.cell? ⟨g,11,none⟩=some (.slice (some ⟨gB,0,none⟩) c1.sp.length n2):=by have h9:=HO.out.cell11;rwa [(fail_st c1 3).2] at h9
     have f3:=HO.out.frozen 11
     go_upto_region 33 with (fail)
     have m3:=A_ (show(wz.setCell ⟨g,11,none⟩ (.slice (some ⟨gB,0,none⟩) (c1.sp.length - 1) n2)).heap[gx]? =some (.cells #[(.int .i64 b.f0),(.int .i64 b.f1),(.int .i64 b.f2),(.bool b.f3),(.bool b.f4)] 91 (0,0)) from(Below.heap_setCell wz ⟨g,11,none⟩ (.slice (some ⟨gB,0,none⟩) (c1.sp.length - 1) n2) gx NX.out.1).trans m2.out);clear m2;replace HO:=A_ (HO.out.cutP (c1.sp.length - 1) (by rw[(fail_st c1 3).2];exact HL1.out));replace HK:=A_ (HK.out.set_ 11 (.slice (some ⟨gB,0,none⟩) (c1.sp.length - 1) n2));clear c3 f3;generalize wz.setCell ⟨g,11,none⟩ (.slice (some ⟨gB,0,none⟩) (c1.sp.length - 1) n2)=wu at*
     have x1:=(blk_cell m3.out 1).trans rfl
     have c3:wu.cell? ⟨g,11,none⟩=some (.slice (some ⟨gB,0,none⟩) (c1.sp.length - 1) n2):=by have h9:=HO.out.cell11;simp only[List.length_take] at h9;rwa [(fail_st c1 3).2,Nat.min_eq_left (Nat.sub_le _ _)] at h9
     have h9:=HO.out
     rw[(fail_st c1 3).2] at h9
     replace HO:=A_ h9;clear h9
     go_wp2_with (first|(go_at_call 44;refine(sput_any b.f1 w0 _ g q _ c' A n1 _ n2 HO.out HRR.out).mono ?_;rintro e w5 ⟨rfl,hE⟩;have HE:=A_ hE;clear hE))
     first|go_end0|((try simp only[Exit.inBlock,Exit.then]);refine rt_ ?_)
     exact⟨rfl,HE.out⟩
    rw[if_neg cz] at hr1
    rw[(fail_st c1 3).2] at hr1
    have HRR:=A_ (Option.some.inj hr1)
    have cb:decide ((0:Int)<((c1.sp.length - 1:Nat):Int))=false:=decide_eq_false (by omega)
    have cbn:=decide_eq_false cz
    clear hr1 cz
    go_upto_region 32 with (first|(go_at_call 46;refine(bad_any w0 _ g q _ 3 A n1 _ n2 HO.out).mono ?_;rintro e w5 ⟨rfl,hO,hK⟩;replace HO:=A_ hO;replace HK:=A_ (HK.out.trans hK (.inl rfl));replace BX:=A_ (KeepBut.blk hK BX.out NX.out.1 (by simp));clear x0 x1 x2 x3 x4 hO hK;have x0:=(blk_cell BX.out 0).trans rfl;have x1:=(blk_cell BX.out 1).trans rfl;have x2:=(blk_cell BX.out 2).trans rfl;have x3:=(blk_cell BX.out 3).trans rfl;have x4:=(blk_cell BX.out 4).trans rfl))
    have c3:w5.cell? ⟨g,11,none⟩=some (.slice (some ⟨gB,0,none⟩) c1.sp.length n2):=by have h9:=HO.out.cell11;rwa [(fail_st c1 3).2] at h9
    go_still_tail 14,(by kernel_rfl)
    change wpList _ _ _ _ _ w5.drew
    have m2:=A_ (blk_drew BX.out);clear BX x0 x1 x2 x3 x4;replace HO:=A_ (HO.out.drew);replace HK:=A_ (keep_drew HK.out);clear c3;generalize w5.drew=wz at*
    have c3:wz.cell? ⟨g,11,none⟩=some (.slice (some ⟨gB,0,none⟩) c1.sp.length n2):=by have h9:=HO.out.cell11;rwa [(fail_st c1 3).2] at h9
    have f3:=HO.out.frozen 11
    go_upto_region 33 with (fail)
    have m3:=A_ (show(wz.setCell ⟨g,11,none⟩ (.slice (some ⟨gB,0,none⟩) (c1.sp.length - 1) n2)).heap[gx]? =some (.cells #[(.int .i64 b.f0),(.int .i64 b.f1),(.int .i64 b.f2),(.bool b.f3),(.bool b.f4)] 91 (0,0)) from(Below.heap_setCell wz ⟨g,11,none⟩ (.slice (some ⟨gB,0,none⟩) (c1.sp.length - 1) n2) gx NX.out.1).trans m2.out);clear m2;replace HO:=A_ (HO.out.cutP (c1.sp.length - 1) (by rw[(fail_st c1 3).2];exact HL1.out));replace HK:=A_ (HK.out.set_ 11 (.slice (some ⟨gB,0,none⟩) (c1.sp.length - 1) n2));clear c3 f3;generalize wz.setCell ⟨g,11,none⟩ (.slice (some ⟨gB,0,none⟩) (c1.sp.length - 1) n2)=wu at*
    have x1:=(blk_cell m3.out 1).trans rfl
    have c3:wu.cell? ⟨g,11,none⟩=some (.slice (some ⟨gB,0,none⟩) (c1.sp.length - 1) n2):=by have h9:=HO.out.cell11;simp only[List.length_take] at h9;rwa [(fail_st c1 3).2,Nat.min_eq_left (Nat.sub_le _ _)] at h9
    have h9:=HO.out
    rw[(fail_st c1 3).2] at h9
    replace HO:=A_ h9;clear h9
    go_wp2
    first|go_end0|((try simp only[Exit.inBlock,Exit.then]);refine rt_ ?_)
    exact⟨rfl,_,_,_,_,by have h9:=HO.out;rw[HRR.out] at h9;exact h9⟩
   have d3:(b.f1 !=64)=false:=bne_eq_false_iff_eq.2 (Classical.not_not.1 k3)
   simp only[if_neg (show ¬(b.f0=4∧b.f4=false∧b.f1≠64) from(fun h=>k3 h.2.2))] at hr1
   by_cases cz:0<c1.sp.length - 1
   ·
    rw[if_pos cz] at hr1
    have HRR:=A_ hr1
    have cb:decide ((0:Int)<((c1.sp.length - 1:Nat):Int))=true:=decide_eq_true (by omega)
    have cbn:=decide_eq_true cz
    clear hr1 cz
    go_upto_region 32 with (fail)
    have c3:wy.cell? ⟨g,11,none⟩=some (.slice (some ⟨gB,0,none⟩) c1.sp.length n2):=by have h9:=HO.out.cell11;exact h9
    go_still_tail 14,(by kernel_rfl)
    change wpList _ _ _ _ _ wy.drew
    have m2:=A_ (blk_drew BX.out);clear BX x0 x1 x2 x3 x4;replace HO:=A_ (HO.out.drew);replace HK:=A_ (keep_drew HK.out);clear c3;generalize wy.drew=wz at*
    have c3:wz.cell? ⟨g,11,none⟩=some (.slice (some ⟨gB,0,none⟩) c1.sp.length n2):=by have h9:=HO.out.cell11;exact h9
    have f3:=HO.out.frozen 11
    go_upto_region 33 with (fail)
    have m3:=A_ (show(wz.setCell ⟨g,11,none⟩ (.slice (some ⟨gB,0,none⟩) (c1.sp.length - 1) n2)).heap[gx]? =some (.cells #[(.int .i64 b.f0),(.int .i64 b.f1),(.int .i64 b.f2),(.bool b.f3),(.bool b.f4)] 91 (0,0)) from(Below.heap_setCell wz ⟨g,11,none⟩ (.slice (some ⟨gB,0,none⟩) (c1.sp.length - 1) n2) gx NX.out.1).trans m2.out);clear m2;replace HO:=A_ (HO.out.cutP (c1.sp.length - 1) (by exact HL1.out));replace HK:=A_ (HK.out.set_ 11 (.slice (some ⟨gB,0,none⟩) (c1.sp.length - 1) n2));clear c3 f3;generalize wz.setCell ⟨g,11,none⟩ (.slice (some ⟨gB,0,none⟩) (c1.sp.length - 1) n2)=wu at*
    have x1:=(blk_cell m3.out 1).trans rfl
    have c3:wu.cell? ⟨g,11,none⟩=some (.slice (some ⟨gB,0,none⟩) (c1.sp.length - 1) n2):=by have h9:=HO.out.cell11;simp only[List.length_take] at h9;rwa [Nat.min_eq_left (Nat.sub_le _ _)] at h9
    go_wp2_with (first|(go_at_call 44;refine(sput_any b.f1 w0 _ g q _ c' A n1 _ n2 HO.out HRR.out).mono ?_;rintro e w5 ⟨rfl,hE⟩;have HE:=A_ hE;clear hE))
    first|go_end0|((try simp only[Exit.inBlock,Exit.then]);refine rt_ ?_)
    exact⟨rfl,HE.out⟩
   rw[if_neg cz] at hr1
   have HRR:=A_ (Option.some.inj hr1)
   have cb:decide ((0:Int)<((c1.sp.length - 1:Nat):Int))=false:=decide_eq_false (by omega)
   have cbn:=decide_eq_false cz
   clear hr1 cz
   go_upto_region 32 with (fail)
   have c3:wy.cell? ⟨g,11,none⟩=some (.slice (some ⟨gB,0,none⟩) c1.sp.length n2):=by have h9:=HO.out.cell11;exact h9
   go_still_tail 14,(by kernel_rfl)
   change wpList _ _ _ _ _ wy.drew
   have m2:=A_ (blk_drew BX.out);clear BX x0 x1 x2 x3 x4;replace HO:=A_ (HO.out.drew);replace HK:=A_ (keep_drew HK.out);clear c3;generalize wy.drew=wz at*
   have c3:wz.cell? ⟨g,11,none⟩=some (.slice (some ⟨gB,0,none⟩) c1.sp.length n2):=by have h9:=HO.out.cell11;exact h9
   have f3:=HO.out.frozen 11
   go_upto_region 33 with (fail)
   have m3:=A_ (show(wz.setCell ⟨g,11,none⟩ (.slice (some ⟨gB,0,none⟩) (c1.sp.length - 1) n2)).heap[gx]? =some (.cells #[(.int .i64 b.f0),(.int .i64 b.f1),(.int .i64 b.f2),(.bool b.f3),(.bool b.f4)] 91 (0,0)) from(Below.heap_setCell wz ⟨g,11,none⟩ (.slice (some ⟨gB,0,none⟩) (c1.sp.length - 1) n2) gx NX.out.1).trans m2.out);clear m2;replace HO:=A_ (HO.out.cutP (c1.sp.length - 1) (by exact HL1.out));replace HK:=A_ (HK.out.set_ 11 (.slice (some ⟨gB,0,none⟩) (c1.sp.length - 1) n2));clear c3 f3;generalize wz.setCell ⟨g,11,none⟩ (.slice (some ⟨gB,0,none⟩) (c1.sp.length - 1) n2)=wu at*
   have x1:=(blk_cell m3.out 1).trans rfl
   have c3:wu.cell? ⟨g,11,none⟩=some (.slice (some ⟨gB,0,none⟩) (c1.sp.length - 1) n2):=by have h9:=HO.out.cell11;simp only[List.length_take] at h9;rwa [Nat.min_eq_left (Nat.sub_le _ _)] at h9
   go_wp2
   first|go_end0|((try simp only[Exit.inBlock,Exit.then]);refine rt_ ?_)
   exact⟨rfl,_,_,_,_,by have h9:=HO.out;rw[HRR.out] at h9;exact h9⟩
  have d2:b.f4=true:=by simpa using k2
  rw[d2] at x4
  simp only[if_neg (show ¬(b.f0=4∧b.f4=false∧b.f1≠64) from(fun h=>k2 h.2.1))] at hr1
  by_cases cz:0<c1.sp.length - 1
  ·
   rw[if_pos cz] at hr1
   have HRR:=A_ hr1
   have cb:decide ((0:Int)<((c1.sp.length - 1:Nat):Int))=true:=decide_eq_true (by omega)
   have cbn:=decide_eq_true cz
   clear hr1 cz
   go_upto_region 32 with (fail)
   have c3:wy.cell? ⟨g,11,none⟩=some (.slice (some ⟨gB,0,none⟩) c1.sp.length n2):=by have h9:=HO.out.cell11;exact h9
   go_still_tail 14,(by kernel_rfl)
   change wpList _ _ _ _ _ wy.drew
   have m2:=A_ (blk_drew BX.out);clear BX x0 x1 x2 x3 x4;replace HO:=A_ (HO.out.drew);replace HK:=A_ (keep_drew HK.out);clear c3;generalize wy.drew=wz at*
   have c3:wz.cell? ⟨g,11,none⟩=some (.slice (some ⟨gB,0,none⟩) c1.sp.length n2):=by have h9:=HO.out.cell11;exact h9
   have f3:=HO.out.frozen 11
   go_upto_region 33 with (fail)
   have m3:=A_ (show(wz.setCell ⟨g,11,none⟩ (.slice (some ⟨gB,0,none⟩) (c1.sp.length - 1) n2)).heap[gx]? =some (.cells #[(.int .i64 b.f0),(.int .i64 b.f1),(.int .i64 b.f2),(.bool b.f3),(.bool b.f4)] 91 (0,0)) from(Below.heap_setCell wz ⟨g,11,none⟩ (.slice (some ⟨gB,0,none⟩) (c1.sp.length - 1) n2) gx NX.out.1).trans m2.out);clear m2;replace HO:=A_ (HO.out.cutP (c1.sp.length - 1) (by exact HL1.out));replace HK:=A_ (HK.out.set_ 11 (.slice (some ⟨gB,0,none⟩) (c1.sp.length - 1) n2));clear c3 f3;generalize wz.setCell ⟨g,11,none⟩ (.slice (some ⟨gB,0,none⟩) (c1.sp.length - 1) n2)=wu at*
   have x1:=(blk_cell m3.out 1).trans rfl
   have c3:wu.cell? ⟨g,11,none⟩=some (.slice (some ⟨gB,0,none⟩) (c1.sp.length - 1) n2):=by have h9:=HO.out.cell11;simp only[List.length_take] at h9;rwa [Nat.min_eq_left (Nat.sub_le _ _)] at h9
   go_wp2_with (first|(go_at_call 44;refine(sput_any b.f1 w0 _ g q _ c' A n1 _ n2 HO.out HRR.out).mono ?_;rintro e w5 ⟨rfl,hE⟩;have HE:=A_ hE;clear hE))
   first|go_end0|((try simp only[Exit.inBlock,Exit.then]);refine rt_ ?_)
   exact⟨rfl,HE.out⟩
  rw[if_neg cz] at hr1
  have HRR:=A_ (Option.some.inj hr1)
  have cb:decide ((0:Int)<((c1.sp.length - 1:Nat):Int))=false:=decide_eq_false (by omega)
  have cbn:=decide_eq_false cz
  clear hr1 cz
  go_upto_region 32 with (fail)
  have c3:wy.cell? ⟨g,11,none⟩=some (.slice (some ⟨gB,0,none⟩) c1.sp.length n2):=by have h9:=HO.out.cell11;exact h9
  go_still_tail 14,(by kernel_rfl)
  change wpList _ _ _ _ _ wy.drew
  have m2:=A_ (blk_drew BX.out);clear BX x0 x1 x2 x3 x4;replace HO:=A_ (HO.out.drew);replace HK:=A_ (keep_drew HK.out);clear c3;generalize wy.drew=wz at*
  have c3:wz.cell? ⟨g,11,none⟩=some (.slice (some ⟨gB,0,none⟩) c1.sp.length n2):=by have h9:=HO.out.cell11;exact h9
  have f3:=HO.out.frozen 11
  go_upto_region 33 with (fail)
  have m3:=A_ (show(wz.setCell ⟨g,11,none⟩ (.slice (some ⟨gB,0,none⟩) (c1.sp.length - 1) n2)).heap[gx]? =some (.cells #[(.int .i64 b.f0),(.int .i64 b.f1),(.int .i64 b.f2),(.bool b.f3),(.bool b.f4)] 91 (0,0)) from(Below.heap_setCell wz ⟨g,11,none⟩ (.slice (some ⟨gB,0,none⟩) (c1.sp.length - 1) n2) gx NX.out.1).trans m2.out);clear m2;replace HO:=A_ (HO.out.cutP (c1.sp.length - 1) (by exact HL1.out));replace HK:=A_ (HK.out.set_ 11 (.slice (some ⟨gB,0,none⟩) (c1.sp.length - 1) n2));clear c3 f3;generalize wz.setCell ⟨g,11,none⟩ (.slice (some ⟨gB,0,none⟩) (c1.sp.length - 1) n2)=wu at*
  have x1:=(blk_cell m3.out 1).trans rfl
  have c3:wu.cell? ⟨g,11,none⟩=some (.slice (some ⟨gB,0,none⟩) (c1.sp.length - 1) n2):=by have h9:=HO.out.cell11;simp only[List.length_take] at h9;rwa [Nat.min_eq_left (Nat.sub_le _ _)] at h9
  go_wp2
  first|go_end0|((try simp only[Exit.inBlock,Exit.then]);refine rt_ ?_)
  exact⟨rfl,_,_,_,_,by have h9:=HO.out;rw[HRR.out] at h9;exact h9⟩
 have d1:(b.f0==4)=false:=beq_eq_false_iff_ne.2 k1
 simp only[if_neg (show ¬(b.f0=4∧b.f4=false∧b.f1≠64) from(fun h=>k1 h.1))] at hr1
 by_cases cz:0<c1.sp.length - 1
 ·
  rw[if_pos cz] at hr1
  have HRR:=A_ hr1
  have cb:decide ((0:Int)<((c1.sp.length - 1:Nat):Int))=true:=decide_eq_true (by omega)
  have cbn:=decide_eq_true cz
  clear hr1 cz
  go_upto_region 32 with (fail)
  have c3:wy.cell? ⟨g,11,none⟩=some (.slice (some ⟨gB,0,none⟩) c1.sp.length n2):=by have h9:=HO.out.cell11;exact h9
  go_still_tail 14,(by kernel_rfl)
  change wpList _ _ _ _ _ wy.drew
  have m2:=A_ (blk_drew BX.out);clear BX x0 x1 x2 x3 x4;replace HO:=A_ (HO.out.drew);replace HK:=A_ (keep_drew HK.out);clear c3;generalize wy.drew=wz at*
  have c3:wz.cell? ⟨g,11,none⟩=some (.slice (some ⟨gB,0,none⟩) c1.sp.length n2):=by have h9:=HO.out.cell11;exact h9
  have f3:=HO.out.frozen 11
  go_upto_region 33 with (fail)
  have m3:=A_ (show(wz.setCell ⟨g,11,none⟩ (.slice (some ⟨gB,0,none⟩) (c1.sp.length - 1) n2)).heap[gx]? =some (.cells #[(.int .i64 b.f0),(.int .i64 b.f1),(.int .i64 b.f2),(.bool b.f3),(.bool b.f4)] 91 (0,0)) from(Below.heap_setCell wz ⟨g,11,none⟩ (.slice (some ⟨gB,0,none⟩) (c1.sp.length - 1) n2) gx NX.out.1).trans m2.out);clear m2;replace HO:=A_ (HO.out.cutP (c1.sp.length - 1) (by exact HL1.out));replace HK:=A_ (HK.out.set_ 11 (.slice (some ⟨gB,0,none⟩) (c1.sp.length - 1) n2));clear c3 f3;generalize wz.setCell ⟨g,11,none⟩ (.slice (some ⟨gB,0,none⟩) (c1.sp.length - 1) n2)=wu at*
  have x1:=(blk_cell m3.out 1).trans rfl
  have c3:wu.cell? ⟨g,11,none⟩=some (.slice (some ⟨gB,0,none⟩) (c1.sp.length - 1) n2):=by have h9:=HO.out.cell11;simp only[List.length_take] at h9;rwa [Nat.min_eq_left (Nat.sub_le _ _)] at h9
  go_wp2_with (first|(go_at_call 44;refine(sput_any b.f1 w0 _ g q _ c' A n1 _ n2 HO.out HRR.out).mono ?_;rintro e w5 ⟨rfl,hE⟩;have HE:=A_ hE;clear hE))
  first|go_end0|((try simp only[Exit.inBlock,Exit.then]);refine rt_ ?_)
  exact⟨rfl,HE.out⟩
 rw[if_neg cz] at hr1
 have HRR:=A_ (Option.some.inj hr1)
 have cb:decide ((0:Int)<((c1.sp.length - 1:Nat):Int))=false:=decide_eq_false (by omega)
 have cbn:=decide_eq_false cz
 clear hr1 cz
 go_upto_region 32 with (fail)
 have c3:wy.cell? ⟨g,11,none⟩=some (.slice (some ⟨gB,0,none⟩) c1.sp.length n2):=by have h9:=HO.out.cell11;exact h9
 go_still_tail 14,(by kernel_rfl)
 change wpList _ _ _ _ _ wy.drew
 have m2:=A_ (blk_drew BX.out);clear BX x0 x1 x2 x3 x4;replace HO:=A_ (HO.out.drew);replace HK:=A_ (keep_drew HK.out);clear c3;generalize wy.drew=wz at*
 have c3:wz.cell? ⟨g,11,none⟩=some (.slice (some ⟨gB,0,none⟩) c1.sp.length n2):=by have h9:=HO.out.cell11;exact h9
 have f3:=HO.out.frozen 11
 go_upto_region 33 with (fail)
 have m3:=A_ (show(wz.setCell ⟨g,11,none⟩ (.slice (some ⟨gB,0,none⟩) (c1.sp.length - 1) n2)).heap[gx]? =some (.cells #[(.int .i64 b.f0),(.int .i64 b.f1),(.int .i64 b.f2),(.bool b.f3),(.bool b.f4)] 91 (0,0)) from(Below.heap_setCell wz ⟨g,11,none⟩ (.slice (some ⟨gB,0,none⟩) (c1.sp.length - 1) n2) gx NX.out.1).trans m2.out);clear m2;replace HO:=A_ (HO.out.cutP (c1.sp.length - 1) (by exact HL1.out));replace HK:=A_ (HK.out.set_ 11 (.slice (some ⟨gB,0,none⟩) (c1.sp.length - 1) n2));clear c3 f3;generalize wz.setCell ⟨g,11,none⟩ (.slice (some ⟨gB,0,none⟩) (c1.sp.length - 1) n2)=wu at*
 have x1:=(blk_cell m3.out 1).trans rfl
 have c3:wu.cell? ⟨g,11,none⟩=some (.slice (some ⟨gB,0,none⟩) (c1.sp.length - 1) n2):=by have h9:=HO.out.cell11;simp only[List.length_take] at h9;rwa [Nat.min_eq_left (Nat.sub_le _ _)] at h9
 go_wp2
 first|go_end0|((try simp only[Exit.inBlock,Exit.then]);refine rt_ ?_)
 exact⟨rfl,_,_,_,_,by have h9:=HO.out;rw[HRR.out] at h9;exact h9⟩

def insS (c:CS S91) (fs:List S59) (gs:List S63) (mem:Bool) (res:Int) (sl:List Int) (x:S71):Option (CS S91):=
 if x.f0=1 then some c else if x.f0=0 then dieS c
 else if x.f0=15 then (takeS c res).bind fun r=>dieS r.1
 else if x.f0=26 then (takeS c 1).bind fun r=>some r.1
 else if x.f0=27 then (takeS c 127).bind fun r=>(takeS r.1 1).bind fun s=>(takeS s.1 s.2).bind fun t=>t.1.put t.2
 else if x.f0=2∨x.f0=3 then pushS c x.f0 x.f1
 else if x.f0=4 then (takeS c 127).bind fun r=>pushS r.1 x.f0 x.f1
 else if x.f0=5 then (closeS c).bind fun c1=>elseS c1
 else if x.f0=11 then (closeS c).bind fun c1=>endS c1
 else if x.f0=12 then (wantsS c x.f1).bind fun r=>(takeS r.1 r.2).bind fun s=>dieS s.1
 else if x.f0=13 then (wantsS c x.f1).bind fun r=>(takeS r.1 127).bind fun s=>(takeS s.1 r.2).bind fun t=>t.1.put r.2
 else otherS c fs gs mem sl x
set_option maxHeartbeats 1000000 in
theorem ins_any (h:Cs w0 w g q c A n1 B n2) (hm:SEnv w0 q fs gs mem res sl) (hr:insS c fs gs mem res sl x=some c'):
  Calls Try.prog 30 #[.pointer (some ⟨g,0,none⟩),.agg #[.int .i64 x.f0,.int .i64 x.f1]] w fun e w'=>e=.returned (.tuple #[])∧CsE w0 w' g q c':=by
 unfold insS at hr
 by_cases k1:x.f0=1
 ·
  rw[if_pos k1] at hr
  exact ins_1 x fs gs mem res sl w0 w g q c c' A n1 B n2 h hm k1 (Option.some.inj hr).symm
 rw[if_neg k1] at hr
 by_cases k0:x.f0=0
 ·
  rw[if_pos k0] at hr
  exact ins_0 x fs gs mem res sl w0 w g q c c' A n1 B n2 h hm k0 hr
 rw[if_neg k0] at hr
 by_cases k15:x.f0=15
 ·
  rw[if_pos k15] at hr
  obtain⟨⟨c1,t⟩,h1,hr⟩:=Option.bind_eq_some_iff.1 hr
  exact ins_15 x fs gs mem res sl w0 w g q c c' A n1 B n2 h hm k15 c1 t h1 hr
 rw[if_neg k15] at hr
 by_cases k26:x.f0=26
 ·
  rw[if_pos k26] at hr
  obtain⟨⟨c1,t⟩,h1,hr⟩:=Option.bind_eq_some_iff.1 hr
  obtain rfl:=Option.some.inj hr
  exact ins_26 x fs gs mem res sl w0 w g q c c1 A n1 B n2 h hm k26 t h1
 rw[if_neg k26] at hr
 by_cases k27:x.f0=27
 ·
  rw[if_pos k27] at hr
  obtain⟨⟨c1,t⟩,h1,hr⟩:=Option.bind_eq_some_iff.1 hr
  obtain⟨⟨c2,a⟩,h2,hr⟩:=Option.bind_eq_some_iff.1 hr
  obtain⟨⟨c3,b⟩,h3,hr⟩:=Option.bind_eq_some_iff.1 hr
  exact ins_27 x fs gs mem res sl w0 w g q c c' A n1 B n2 h hm k27 c1 c2 c3 t a b h1 h2 h3 hr
 rw[if_neg k27] at hr
 by_cases k2:x.f0=2∨x.f0=3
 ·
  rw[if_pos k2] at hr
  rcases k2 with k|k
  ·
   exact ins_2 x fs gs mem res sl w0 w g q c c' A n1 B n2 h hm k hr
  exact ins_3 x fs gs mem res sl w0 w g q c c' A n1 B n2 h hm k hr
 rw[if_neg k2] at hr
 by_cases k4:x.f0=4
 ·
  rw[if_pos k4] at hr
  obtain⟨⟨c1,t⟩,h1,hr⟩:=Option.bind_eq_some_iff.1 hr
  exact ins_4 x fs gs mem res sl w0 w g q c c' A n1 B n2 h hm k4 c1 t h1 hr
 rw[if_neg k4] at hr
 by_cases k5:x.f0=5
 ·
  rw[if_pos k5] at hr
  obtain⟨c1,h1,hr⟩:=Option.bind_eq_some_iff.1 hr
  exact ins_5 x fs gs mem res sl w0 w g q c c' A n1 B n2 h hm k5 c1 h1 hr
 rw[if_neg k5] at hr
 by_cases k11:x.f0=11
 ·
  rw[if_pos k11] at hr
  obtain⟨c1,h1,hr⟩:=Option.bind_eq_some_iff.1 hr
  exact ins_11 x fs gs mem res sl w0 w g q c c' A n1 B n2 h hm k11 c1 h1 hr
 rw[if_neg k11] at hr
 by_cases k12:x.f0=12
 ·
  rw[if_pos k12] at hr
  obtain⟨⟨cw,t⟩,h1,hr⟩:=Option.bind_eq_some_iff.1 hr
  obtain⟨⟨c1,u⟩,h2,hr⟩:=Option.bind_eq_some_iff.1 hr
  exact ins_12 x fs gs mem res sl w0 w g q c c' A n1 B n2 h hm k12 cw c1 t u h1 h2 hr
 rw[if_neg k12] at hr
 by_cases k13:x.f0=13
 ·
  rw[if_pos k13] at hr
  obtain⟨⟨cw,t⟩,h1,hr⟩:=Option.bind_eq_some_iff.1 hr
  obtain⟨⟨c1,u⟩,h2,hr⟩:=Option.bind_eq_some_iff.1 hr
  obtain⟨⟨c2,v⟩,h3,hr⟩:=Option.bind_eq_some_iff.1 hr
  exact ins_13 x fs gs mem res sl w0 w g q c c' A n1 B n2 h hm k13 cw c1 c2 t u v h1 h2 h3 hr
 rw[if_neg k13] at hr
 exact ins_n x fs gs mem res sl w0 w g q c c' A n1 B n2 h hm ⟨k1,k0,k15,k26,k27,fun e=>k2 (.inl e),fun e=>k2 (.inr e),k4,k5,k11,k12,k13⟩ hr


end


/-! ### spec_l7Check: function 19 (walked by hand) -/
def runS (fs:List S59) (gs:List S63) (mem:Bool) (f:S59):Nat→Nat→CS S91→Option (Int × Int × Int)
 |0,_,c=>some (0,0,c.hi)
 |n+1,i,c=>(insS c fs gs mem f.f1 ([]++f.f0++f.f2) (rd_T71 f.f3 (i:Int))).bind fun c1=>if c1.fa=0 then runS fs gs mem f n (i+1) c1 else some (c1.fa,(i:Int),0)
def checkS (fs:List S59) (gs:List S63) (mem:Bool) (kf:Int):Option (Int × Int × Int):=
 if 0≤kf∧kf<(fs.length:Int) then (if (rd_T59 fs kf).f0.length+(rd_T59 fs kf).f2.length≤1000000 then (pushS (⟨[],[],0,0⟩:CS S91) 2 (rd_T59 fs kf).f1).bind fun c=>runS fs gs mem (rd_T59 fs kf) (rd_T59 fs kf).f3.length 0 c else none) else none
def spec_l7Check.T2:Bool × List (List Nat × List Nat):=(true,[([],[]),([],[]),([],[]),([],[]),([3],[3]),([2,4],[2,4]),([],[]),([6],[6]),([5,7,5],[5,7]),([0,1,8],[0,1,8]),([9],[9]),([10,8,0,1,2,3,4,5,6,7,8,9,10],[10])])
def spec_l7Check.B2:List Nat:=[0,0,0,0,8,28,0,64,252,511,1023,2047]
theorem spec_l7Check.tab2:rtab .any (opsOf Try.f19 2)=spec_l7Check.T2:=by kernel_rfl
theorem spec_l7Check.bits2:waitsOk spec_l7Check.T2.2 spec_l7Check.B2=true:=by kernel_rfl
theorem scheck_any (fs:List S59) (gs:List S63) (mem:Bool) (pg mo sta kf:Int) (AF:Option Addr) (cF:Nat) (AG:Option Addr) (cG:Nat) (a b d:Int) (w:World) (rF:Kd.C k59 w AF fs.length fs) (rG:Kd.C k63 w AG gs.length gs) (hr:checkS fs gs mem kf=some (a,b,d)):
  Calls Try.prog 19 #[.agg #[(.slice AF fs.length cF),(.slice AG gs.length cG),(.bool mem),(.int .i64 pg),(.int .i64 mo),(.int .i64 sta)],.int .i64 kf] w fun e w'=>e=.returned (.tuple #[.int .i64 a,.int .i64 b,.int .i64 d])∧Below w.heap.size w w':=by
 unfold checkS at hr
 by_cases hk:0≤kf∧kf<(fs.length:Int)
 ·
  rw[if_pos hk] at hr
  obtain⟨ad,A0,d0,A2,d2,A3,d3,rfl,g0_,g1_,g2_,g3_,l0_,r0,l2_,r2,l3_,r3⟩:=at_T59 rF kf hk.1 hk.2
  have RF:=A_ rF;have RG:=A_ rG
  have R0:=A_ r0;have R2:=A_ r2;have R3:=A_ r3
  have hmax:=Kd.C_max r3
  generalize rd_T59 fs kf=f at*
  by_cases hsm:f.f0.length+f.f2.length≤1000000
  ·
   rw[if_pos hsm] at hr
   obtain⟨cs,hp,hr⟩:=Option.bind_eq_some_iff.1 hr
   have HR:=A_ hr;have HSM:=A_ hsm;have HPS:=A_ hp
   have q0:=eq_true hk.1
   have q1:=eq_true hk.2
   have hu71:=Try.underlying71
   have hu59:=Try.underlying59
   have hu32:=Try.underlying32
   have hu68:=Try.underlying68
   clear hr hk rF rG l0_ r0 l2_ r2 l3_ r3 hsm hp
   go_enter Try.func19,Try.ntmps19
   go_upto_region 2 with (first|((with_reducible refine gd_ 2 rfl ?_);refine bx_ #[(.slice (some ad) fs.length cF),(.slice AG gs.length cG),(.bool mem),(.int .i64 pg),(.int .i64 mo),(.int .i64 sta)] 32 ?_;intro bm hg w1 hbox hb;have BM:=A_ hbox;have HB:=A_ hb;have GM:=A_ (show w.heap.size≤bm from Nat.le_of_eq hg.symm);clear hbox hb hg;have z0:=(blk_cell BM.out 0).trans rfl;have z1:=(blk_cell BM.out 1).trans rfl;have z2:=(blk_cell BM.out 2).trans rfl;have z3:=(blk_cell BM.out 3).trans rfl;have z4:=(blk_cell BM.out 4).trans rfl;have z5:=(blk_cell BM.out 5).trans rfl;replace g0_:=cl_ HB.out g0_;replace g1_:=cl_ HB.out g1_;replace g2_:=cl_ HB.out g2_;replace g3_:=cl_ HB.out g3_)|((with_reducible refine gd_ 7 rfl ?_);refine bx_ #[(.slice none 0 0),(.int .i64 0),(.slice none 0 0),(.slice none 0 0)] 59 ?_;intro bf hg w2 hbox hb;have BF:=A_ hbox;have GF:=A_ (show w.heap.size≤bf∧bm≠bf from ⟨by have:=HB.out.size;omega,by have:=blk_lt BM.out;omega⟩);replace HB:=A_ (below_step HB.out hb);replace BM:=A_ (blk_below BM.out hb);clear z0 z1 z2 z3 z4 z5 hbox hb hg;have y0:=(blk_cell BF.out 0).trans rfl;have v0:=blk_frozen BF.out 0;have y1:=(blk_cell BF.out 1).trans rfl;have v1:=blk_frozen BF.out 1;have y2:=(blk_cell BF.out 2).trans rfl;have v2:=blk_frozen BF.out 2;have y3:=(blk_cell BF.out 3).trans rfl;have v3:=blk_frozen BF.out 3))
   have hBF:((((w2.setCell ⟨bf,0,none⟩ ((.slice A0 f.f0.length d0))).setCell ⟨bf,1,none⟩ ((.int .i64 f.f1))).setCell ⟨bf,2,none⟩ ((.slice A2 f.f2.length d2))).setCell ⟨bf,3,none⟩ ((.slice A3 f.f3.length d3))).heap[bf]? =some (.cells #[(.slice A0 f.f0.length d0),(.int .i64 f.f1),(.slice A2 f.f2.length d2),(.slice A3 f.f3.length d3)] 59 (0,0)):=blk_put (cs:=#[(.slice A0 f.f0.length d0),(.int .i64 f.f1),(.slice A2 f.f2.length d2),(.slice none 0 0)]) (blk_put (cs:=#[(.slice A0 f.f0.length d0),(.int .i64 f.f1),(.slice none 0 0),(.slice none 0 0)]) (blk_put (cs:=#[(.slice A0 f.f0.length d0),(.int .i64 0),(.slice none 0 0),(.slice none 0 0)]) (blk_put (cs:=#[(.slice none 0 0),(.int .i64 0),(.slice none 0 0),(.slice none 0 0)]) (BF.out) 0 ((.slice A0 f.f0.length d0)) rfl) 1 ((.int .i64 f.f1)) rfl) 2 ((.slice A2 f.f2.length d2)) rfl) 3 ((.slice A3 f.f3.length d3)) rfl
   have hBM:((((w2.setCell ⟨bf,0,none⟩ ((.slice A0 f.f0.length d0))).setCell ⟨bf,1,none⟩ ((.int .i64 f.f1))).setCell ⟨bf,2,none⟩ ((.slice A2 f.f2.length d2))).setCell ⟨bf,3,none⟩ ((.slice A3 f.f3.length d3))).heap[bm]? =some (.cells #[(.slice (some ad) fs.length cF),(.slice AG gs.length cG),(.bool mem),(.int .i64 pg),(.int .i64 mo),(.int .i64 sta)] 32 (0,0)):=(Below.heap_setCell (((w2.setCell ⟨bf,0,none⟩ ((.slice A0 f.f0.length d0))).setCell ⟨bf,1,none⟩ ((.int .i64 f.f1))).setCell ⟨bf,2,none⟩ ((.slice A2 f.f2.length d2))) ⟨bf,3,none⟩ ((.slice A3 f.f3.length d3)) bm GF.out.2).trans ((Below.heap_setCell ((w2.setCell ⟨bf,0,none⟩ ((.slice A0 f.f0.length d0))).setCell ⟨bf,1,none⟩ ((.int .i64 f.f1))) ⟨bf,2,none⟩ ((.slice A2 f.f2.length d2)) bm GF.out.2).trans ((Below.heap_setCell (w2.setCell ⟨bf,0,none⟩ ((.slice A0 f.f0.length d0))) ⟨bf,1,none⟩ ((.int .i64 f.f1)) bm GF.out.2).trans ((Below.heap_setCell w2 ⟨bf,0,none⟩ ((.slice A0 f.f0.length d0)) bm GF.out.2).trans (BM.out))))
   have hHB:Below w.heap.size w ((((w2.setCell ⟨bf,0,none⟩ ((.slice A0 f.f0.length d0))).setCell ⟨bf,1,none⟩ ((.int .i64 f.f1))).setCell ⟨bf,2,none⟩ ((.slice A2 f.f2.length d2))).setCell ⟨bf,3,none⟩ ((.slice A3 f.f3.length d3))):=below_set (below_set (below_set (below_set (HB.out) GF.out.1) GF.out.1) GF.out.1) GF.out.1
   replace BF:=A_ hBF;replace BM:=A_ hBM;replace HB:=A_ hHB;clear y0 y1 y2 y3 v0 v1 v2 v3 g0_ g1_ g2_ g3_ hBF hBM hHB;generalize ((((w2.setCell ⟨bf,0,none⟩ ((.slice A0 f.f0.length d0))).setCell ⟨bf,1,none⟩ ((.int .i64 f.f1))).setCell ⟨bf,2,none⟩ ((.slice A2 f.f2.length d2))).setCell ⟨bf,3,none⟩ ((.slice A3 f.f3.length d3)))=w3 at*
   refine sS 12 (fun w'=>w'.cell? ⟨bm,0,none⟩=some (.slice (some ad) fs.length cF)∧w'.cell? ⟨bm,1,none⟩=some (.slice AG gs.length cG)∧w'.cell? ⟨bm,2,none⟩=some (.bool mem)∧w'.cell? ⟨bm,3,none⟩=some (.int .i64 pg)∧w'.cell? ⟨bm,4,none⟩=some (.int .i64 mo)∧w'.cell? ⟨bm,5,none⟩=some (.int .i64 sta)∧w'.cell? ⟨bf,0,none⟩=some (.slice A0 f.f0.length d0)∧w'.cell? ⟨bf,1,none⟩=some (.int .i64 f.f1)∧w'.cell? ⟨bf,2,none⟩=some (.slice A2 f.f2.length d2)∧w'.cell? ⟨bf,3,none⟩=some (.slice A3 f.f3.length d3)) [] ⟨(blk_cell BM.out 0).trans rfl,(blk_cell BM.out 1).trans rfl,(blk_cell BM.out 2).trans rfl,(blk_cell BM.out 3).trans rfl,(blk_cell BM.out 4).trans rfl,(blk_cell BM.out 5).trans rfl,(blk_cell BF.out 0).trans rfl,(blk_cell BF.out 1).trans rfl,(blk_cell BF.out 2).trans rfl,(blk_cell BF.out 3).trans rfl⟩ spec_l7Check.tab2 spec_l7Check.bits2 (fun hHeld HT_ HW_=>?_)
   replace HB:=A_ (below_drew1 HB.out);replace BM:=A_ (blk_drew BM.out);replace BF:=A_ (blk_drew BF.out);generalize w3.drew=wx at*
   refine pS HT_ 3 19 ?_
   refine pS HT_ 6 22 ?_
   refine tS HT_ HW_ 0 16 hHeld ?_
   refine tS HT_ HW_ 1 17 hHeld ?_
   refine tS HT_ HW_ 4 20 hHeld ?_
   refine tS HT_ HW_ 7 23 hHeld ?_
   refine oS HT_ 2 (some 18) (fun K hK=>?_)
   refine Kd.R_lit_step (Kd.int .i64) w.heap.size 3 (by rfl) (N:=18) ?hd (xs:=([]:List Int)) (inner:=[]) (ok:=fun _=>True) (okp:=fun _=>False) ?hr (Reps.none _ _) (fun _ hk=>hk.elim) trivial HB.out HB.out.size (by simp) ?_;(case hd=>rfl);(case hr=>first|(go_simp;done)|(go_simp;rfl))
   intro va wa hv hb hg_ hn_
   have HV:=A_ hv;have m0:=A_ hb;have m1:=A_ (blk_grown BM.out hg_ (by simp));have m2:=A_ (blk_grown BF.out hg_ (by simp));clear HB BM BF hv hb hg_ hn_ hHeld;have HB:=m0;have BM:=m1;have BF:=m2;clear m0 m1 m2
   obtain⟨Ara,cra,era⟩:=Kd.R_slice HV.out;subst era
   refine hK.out _ _ ⟨(blk_cell BM.out 0).trans rfl,(blk_cell BM.out 1).trans rfl,(blk_cell BM.out 2).trans rfl,(blk_cell BM.out 3).trans rfl,(blk_cell BM.out 4).trans rfl,(blk_cell BM.out 5).trans rfl,(blk_cell BF.out 0).trans rfl,(blk_cell BF.out 1).trans rfl,(blk_cell BF.out 2).trans rfl,(blk_cell BF.out 3).trans rfl⟩ (fun hHeld=>?_)
   clear hK K
   refine nS (some 18) ?_
   refine oS HT_ 5 (some 21) (fun K hK=>?_)
   refine Kd.R_append_rows_step (Kd.int .i64) (Rr:=(Kd.int .i64).K w) w.heap.size (by rfl) (.tmp 18) (.tmp 20) 53 3 (.int .i64 0) 8 rfl Try.underlying53 info3 rfl (by decide) (by omega) (.slice Ara 0 cra) ([]:List Int) f.f0 A0 f.f0.length d0 (fun _=>True) (fun _=>False) rfl rfl HV.out (Kd.C_below R0.out HB.out) (fun _ _ h_=>h_) (fun _ hk=>hk.elim) (fun _ _=>trivial) HB.out HB.out.size (by have:=HSM.out;simp only[List.length_nil,List.length_append];omega) ?_
   intro vb wb hv hb hg_ hn_
   have NEM:=Kd.R_ne HV.out BM.out (by decide);have NEF:=Kd.R_ne HV.out BF.out (by decide)
   replace HV:=A_ hv;replace HB:=A_ hb;replace BM:=A_ (blk_grown BM.out hg_ NEM);replace BF:=A_ (blk_grown BF.out hg_ NEF);clear hv hb hg_ hn_ hHeld NEM NEF
   obtain⟨Arb,crb,erb⟩:=Kd.R_slice HV.out;subst erb
   refine hK.out _ _ ⟨(blk_cell BM.out 0).trans rfl,(blk_cell BM.out 1).trans rfl,(blk_cell BM.out 2).trans rfl,(blk_cell BM.out 3).trans rfl,(blk_cell BM.out 4).trans rfl,(blk_cell BM.out 5).trans rfl,(blk_cell BF.out 0).trans rfl,(blk_cell BF.out 1).trans rfl,(blk_cell BF.out 2).trans rfl,(blk_cell BF.out 3).trans rfl⟩ (fun hHeld=>?_)
   clear hK K
   refine nS (some 21) ?_
   refine oS HT_ 8 (some 24) (fun K hK=>?_)
   refine Kd.R_append_rows_step (Kd.int .i64) (Rr:=(Kd.int .i64).K w) w.heap.size (by rfl) (.tmp 21) (.tmp 23) 53 3 (.int .i64 0) 8 rfl Try.underlying53 info3 rfl (by decide) (by omega) (.slice Arb ([]++f.f0).length crb) ([]++f.f0) f.f2 A2 f.f2.length d2 (fun _=>True) (fun _=>False) rfl rfl HV.out (Kd.C_below R2.out HB.out) (fun _ _ h_=>h_) (fun _ hk=>hk.elim) (fun _ _=>trivial) HB.out HB.out.size (by have:=HSM.out;simp only[List.length_nil,List.length_append];omega) ?_
   intro vb wc hv hb hg_ hn_
   have NEM:=Kd.R_ne HV.out BM.out (by decide);have NEF:=Kd.R_ne HV.out BF.out (by decide)
   replace HV:=A_ hv;replace HB:=A_ hb;replace BM:=A_ (blk_grown BM.out hg_ NEM);replace BF:=A_ (blk_grown BF.out hg_ NEF);clear hv hb hg_ hn_ hHeld NEM NEF
   obtain⟨Arc,crc,erc⟩:=Kd.R_slice HV.out;subst erc
   refine hK.out _ _ ⟨(blk_cell BM.out 0).trans rfl,(blk_cell BM.out 1).trans rfl,(blk_cell BM.out 2).trans rfl,(blk_cell BM.out 3).trans rfl,(blk_cell BM.out 4).trans rfl,(blk_cell BM.out 5).trans rfl,(blk_cell BF.out 0).trans rfl,(blk_cell BF.out 1).trans rfl,(blk_cell BF.out 2).trans rfl,(blk_cell BF.out 3).trans rfl⟩ (fun hHeld=>?_)
   clear hK K
   refine nS (some 24) ?_
   refine pS HT_ 9 25 ?_
   refine oS HT_ 10 (some 26) (fun K hK=>?_)
   refine box_step (by rfl) (N:=26) ?hd (cs:=#[(.slice (some ad) fs.length cF),(.slice AG gs.length cG),(.bool mem),(.int .i64 pg),(.int .i64 mo),(.int .i64 sta),(.slice A0 f.f0.length d0),(.int .i64 f.f1),(.slice A2 f.f2.length d2),(.slice A3 f.f3.length d3),(.slice none 0 0),(.slice none 0 0),(.int .i64 0),(.int .i64 0),(.slice Arc ([]++f.f0++f.f2).length crc)]) (t:=68) ?hr ?_;(case hd=>rfl);(case hr=>first|(go_simp;done)|(go_simp;rfl))
   intro g hg wd hbox hb
   have hHeld2:Aside0 (wd.cell? ⟨bm,0,none⟩=some (.slice (some ad) fs.length cF)∧wd.cell? ⟨bm,1,none⟩=some (.slice AG gs.length cG)∧wd.cell? ⟨bm,2,none⟩=some (.bool mem)∧wd.cell? ⟨bm,3,none⟩=some (.int .i64 pg)∧wd.cell? ⟨bm,4,none⟩=some (.int .i64 mo)∧wd.cell? ⟨bm,5,none⟩=some (.int .i64 sta)∧wd.cell? ⟨bf,0,none⟩=some (.slice A0 f.f0.length d0)∧wd.cell? ⟨bf,1,none⟩=some (.int .i64 f.f1)∧wd.cell? ⟨bf,2,none⟩=some (.slice A2 f.f2.length d2)∧wd.cell? ⟨bf,3,none⟩=some (.slice A3 f.f3.length d3)):=⟨by obtain⟨s0_,s1_,s2_,s3_,s4_,s5_,s6_,s7_,s8_,s9_⟩:=hHeld;exact⟨cl_ hb s0_,cl_ hb s1_,cl_ hb s2_,cl_ hb s3_,cl_ hb s4_,cl_ hb s5_,cl_ hb s6_,cl_ hb s7_,cl_ hb s8_,cl_ hb s9_⟩⟩
   clear hHeld
   have BS:=A_ hbox;have HB3:=A_ hb;have GS:=A_ hg;clear hbox hb hg
   refine hK.out _ _ hHeld2.out (fun hHeld=>?_)
   clear hK K
   refine nS (some 26) ?_
   refine pS HT_ 11 8 ?_
   refine dS HT_ ?_
   obtain⟨q,hq⟩:∃ q:Nat→Value,q=fun i=>([(.slice (some ad) fs.length cF),(.slice AG gs.length cG),(.bool mem),(.int .i64 pg),(.int .i64 mo),(.int .i64 sta),(.slice A0 f.f0.length d0),(.int .i64 f.f1),(.slice A2 f.f2.length d2),(.slice A3 f.f3.length d3),(.slice none 0 0),(.slice none 0 0),(.int .i64 0),(.int .i64 0),(.slice Arc ([]++f.f0++f.f2).length crc)]:List Value).getD i undef:=⟨_,rfl⟩
   have hck:Cs wc wd g q ⟨[],[],0,0⟩ none 0 none 0:=⟨Nat.le_of_eq GS.out.symm,HB3.out,by rw[hq];exact BS.out,Kd.R_nil _ _ _ _ _,Kd.R_nil _ _ _ _ _⟩
   have HE:Aside0 (SEnv wc q fs gs mem f.f1 ([]++f.f0++f.f2)):=⟨some ad,cF,AG,cG,Arc,crc,by rw[hq];rfl,by rw[hq];rfl,by rw[hq];rfl,by rw[hq];rfl,by rw[hq];rfl,Kd.C_below RF.out HB.out,Kd.C_below RG.out HB.out,(Kd.R_reads' HV.out).2.2⟩
   have HO:Aside0 (Cs wc wd g q ⟨[],[],0,0⟩ none 0 none 0):=A_ hck
   have HK:=A_ (KeepBut.refl wd g none)
   have R3c:=A_ (Kd.C_below R3.out HB.out)
   have Y1:=A_ ((blk_cell BF.out 1).trans rfl:wc.cell? ⟨bf,1,none⟩=some (.int .i64 f.f1))
   have Y3:=A_ ((blk_cell BF.out 3).trans rfl:wc.cell? ⟨bf,3,none⟩=some (.slice A3 f.f3.length d3))
   clear hck hq hHeld hHeld2 BS HB3 GS HV BM BF
   have y1:=(HO.out.2.1.cell (World.block_lt_of_cell? wc _ Y1.out)).trans Y1.out
   go_upto_region 4 with (first|(go_at_call 29;refine(begin_any 2 f.f1 wc _ g q _ cs none 0 _ 0 HO.out HPS.out).mono ?_;rintro e w5 ⟨rfl,hE⟩;have HE_:=A_ hE;clear hE))
   have H0:=HE_.out
   clear HO HK y1 HE_
   obtain⟨A,n1,B,n2,hO⟩:=H0
   have HO:=A_ hO
   clear hO
   have y3:=(HO.out.2.1.cell (World.block_lt_of_cell? wc _ Y3.out)).trans Y3.out
   go_wp2
   clear y3
   go_loopg [34] f.f3.length (fun kq v34 w'=>∃ (j kk:Nat) (c:CS S91) (A:Option Addr) (n1:Nat) (B:Option Addr) (n2:Nat),kk=kq∧j+kk=f.f3.length∧v34=.int .i64 j∧Aside0 (runS fs gs mem f kk j c=some (a,b,d))∧Aside0 (Cs wc w' g q c A n1 B n2))
   case atStart=>exact⟨0,_,cs,A,n1,B,n2,rfl,by omega,rfl,HR,HO⟩
   case round=>
    clear HO HR
    obtain⟨j,kk,c,A,n1,B,n2,hkk,hjk,rfl,HR,HO⟩:=hrel
    have HKK:=A_ hkk
    clear hkk
    rcases Nat.eq_zero_or_pos kk with hk0|hk0
    ·
     subst hk0
     obtain rfl:j=f.f3.length:=by omega
     have hR':=HR.out
     rw[runS] at hR'
     simp only[Option.some.injEq,Prod.mk.injEq] at hR'
     obtain⟨rfl,rfl,rfl⟩:=hR'
     have c13f:=HO.out.cell13
     clear HR
     go_wp2
     go_quiet (fail)
     go_wp2
     go_ret3
     exact⟨rfl,below_weaken HB.out HB.out.size (HO.out.drewN _).2.1⟩
    obtain⟨km,rfl⟩:∃ km,kk=km+1:=⟨kk - 1,by omega⟩
    have hR':=HR.out
    rw[runS] at hR'
    obtain⟨c2,hs,hR'⟩:=Option.bind_eq_some_iff.1 hR'
    have HST:=A_ hs
    have hlt:j<f.f3.length:=by omega
    obtain⟨ad3,eA,x0_,x1_⟩:=at_T71 R3c.out (j:Int) (by omega) (by omega)
    subst eA
    rw[Int.toNat_natCast] at x0_ x1_
    replace x0_:=(HO.out.2.1.cell (World.block_lt_of_cell? wc _ x0_)).trans x0_
    replace x1_:=(HO.out.2.1.cell (World.block_lt_of_cell? wc _ x1_)).trans x1_
    have q5:((0:Int)≤(j:Int))=True:=eq_true (by omega)
    have q6:((j:Int)<(f.f3.length:Int))=True:=eq_true (by omega)
    have q7:decide ((j:Int)<(f.f3.length:Int))=true:=decide_eq_true (by omega)
    have q8:=decide_eq_true hlt
    have ew:IntKind.i64.wrap ((j:Int)+1)=((j+1:Nat):Int):=ck_w _ (by omega)
    clear HR hs hlt
    by_cases hz:c2.fa=0
    ·
     rw[if_pos hz] at hR'
     have HRn:=A_ hR'
     have bz:(c2.fa !=0)=false:=bne_eq_false_iff_eq.2 hz
     clear hR' hz
     go_upto_region 7 with (first|((with_reducible refine gd_ 10 rfl ?_);refine bx_ #[(.int .i64 0),(.int .i64 0)] 71 ?_;intro gx hg wx hbox hb;have BX:=A_ hbox;have NX:=A_ (HO.out.fresh_ne hg);have G0:=A_ (Nat.le_trans HO.out.2.1.size (Nat.le_of_eq hg.symm));replace HO:=A_ (HO.out.below hb);clear hbox hb hg;have z0:=(blk_cell BX.out 0).trans rfl;have v0:=blk_frozen BX.out 0;have z1:=(blk_cell BX.out 1).trans rfl;have v1:=blk_frozen BX.out 1))
     replace BX:Aside0 (((wx.setCell ⟨gx,0,none⟩ ((.int .i64 (rd_T71 f.f3 (j:Int)).f0))).setCell ⟨gx,1,none⟩ ((.int .i64 (rd_T71 f.f3 (j:Int)).f1))).heap[gx]? =some (.cells #[(.int .i64 (rd_T71 f.f3 (j:Int)).f0),(.int .i64 (rd_T71 f.f3 (j:Int)).f1)] 71 (0,0))):=⟨blk_put (cs:=#[(.int .i64 (rd_T71 f.f3 (j:Int)).f0),(.int .i64 0)]) (blk_put (cs:=#[(.int .i64 0),(.int .i64 0)]) (BX.out) 0 ((.int .i64 (rd_T71 f.f3 (j:Int)).f0)) rfl) 1 ((.int .i64 (rd_T71 f.f3 (j:Int)).f1)) rfl⟩;replace HO:Aside0 (Cs wc ((wx.setCell ⟨gx,0,none⟩ ((.int .i64 (rd_T71 f.f3 (j:Int)).f0))).setCell ⟨gx,1,none⟩ ((.int .i64 (rd_T71 f.f3 (j:Int)).f1))) g q _ A n1 B n2):=⟨Cs.other (Cs.other (HO.out) G0.out NX.out 0 ((.int .i64 (rd_T71 f.f3 (j:Int)).f0))) G0.out NX.out 1 ((.int .i64 (rd_T71 f.f3 (j:Int)).f1))⟩;clear z0 v0 z1 v1;generalize ((wx.setCell ⟨gx,0,none⟩ ((.int .i64 (rd_T71 f.f3 (j:Int)).f0))).setCell ⟨gx,1,none⟩ ((.int .i64 (rd_T71 f.f3 (j:Int)).f1)))=wy at*
     have x0:=(blk_cell BX.out 0).trans rfl;have x1:=(blk_cell BX.out 1).trans rfl
     go_wp2_with (first|(go_at_call 30;refine(ins_any (rd_T71 f.f3 (j:Int)) fs gs mem f.f1 ([]++f.f0++f.f2) wc _ g q _ c2 A n1 B n2 HO.out HE.out HST.out).mono ?_;rintro e wz ⟨rfl,hE⟩;have HF_:=A_ hE;clear HO BX x0 x1 hE;obtain⟨A',n1',B',n2',hO⟩:=HF_.out;have HO:=A_ hO;have c12f:=HO.out.cell12;clear hO))
     go_roundg km
     case measure=>have:=HKK.out;omega
     case rel=>exact⟨j+1,km,c2,A',n1',B',n2',rfl,by omega,by first|rfl|(rw[ew]),HRn,HO⟩
    rw[if_neg hz] at hR'
    simp only[Option.some.injEq,Prod.mk.injEq] at hR'
    obtain⟨rfl,rfl,rfl⟩:=hR'
    have bz:(c2.fa !=0)=true:=bne_iff_ne.2 hz
    clear hz
    go_upto_region 7 with (first|((with_reducible refine gd_ 10 rfl ?_);refine bx_ #[(.int .i64 0),(.int .i64 0)] 71 ?_;intro gx hg wx hbox hb;have BX:=A_ hbox;have NX:=A_ (HO.out.fresh_ne hg);have G0:=A_ (Nat.le_trans HO.out.2.1.size (Nat.le_of_eq hg.symm));replace HO:=A_ (HO.out.below hb);clear hbox hb hg;have z0:=(blk_cell BX.out 0).trans rfl;have v0:=blk_frozen BX.out 0;have z1:=(blk_cell BX.out 1).trans rfl;have v1:=blk_frozen BX.out 1))
    replace BX:Aside0 (((wx.setCell ⟨gx,0,none⟩ ((.int .i64 (rd_T71 f.f3 (j:Int)).f0))).setCell ⟨gx,1,none⟩ ((.int .i64 (rd_T71 f.f3 (j:Int)).f1))).heap[gx]? =some (.cells #[(.int .i64 (rd_T71 f.f3 (j:Int)).f0),(.int .i64 (rd_T71 f.f3 (j:Int)).f1)] 71 (0,0))):=⟨blk_put (cs:=#[(.int .i64 (rd_T71 f.f3 (j:Int)).f0),(.int .i64 0)]) (blk_put (cs:=#[(.int .i64 0),(.int .i64 0)]) (BX.out) 0 ((.int .i64 (rd_T71 f.f3 (j:Int)).f0)) rfl) 1 ((.int .i64 (rd_T71 f.f3 (j:Int)).f1)) rfl⟩;replace HO:Aside0 (Cs wc ((wx.setCell ⟨gx,0,none⟩ ((.int .i64 (rd_T71 f.f3 (j:Int)).f0))).setCell ⟨gx,1,none⟩ ((.int .i64 (rd_T71 f.f3 (j:Int)).f1))) g q _ A n1 B n2):=⟨Cs.other (Cs.other (HO.out) G0.out NX.out 0 ((.int .i64 (rd_T71 f.f3 (j:Int)).f0))) G0.out NX.out 1 ((.int .i64 (rd_T71 f.f3 (j:Int)).f1))⟩;clear z0 v0 z1 v1;generalize ((wx.setCell ⟨gx,0,none⟩ ((.int .i64 (rd_T71 f.f3 (j:Int)).f0))).setCell ⟨gx,1,none⟩ ((.int .i64 (rd_T71 f.f3 (j:Int)).f1)))=wy at*
    have x0:=(blk_cell BX.out 0).trans rfl;have x1:=(blk_cell BX.out 1).trans rfl
    go_wp2_with (first|(go_at_call 30;refine(ins_any (rd_T71 f.f3 (j:Int)) fs gs mem f.f1 ([]++f.f0++f.f2) wc _ g q _ c2 A n1 B n2 HO.out HE.out HST.out).mono ?_;rintro e wz ⟨rfl,hE⟩;have HF_:=A_ hE;clear HO BX x0 x1 hE;obtain⟨A',n1',B',n2',hO⟩:=HF_.out;have HO:=A_ hO;have c12f:=HO.out.cell12;clear hO))
    go_ret3
    exact⟨rfl,below_weaken HB.out HB.out.size HO.out.2.1⟩
  rw[if_neg hsm] at hr;cases hr
 rw[if_neg hk] at hr;cases hr

def spec_l7Check.f (l0_0:List S59) (l0_1:List S63) (a0_2:Bool) (a0_3 a0_4 a0_5:Int) (a1:Int):Option (Int × Int × Int):=checkS l0_0 l0_1 a0_2 a1
theorem spec_l7Check.calls (A0_0:Option Addr) (c0_0:Nat) (l0_0:List S59) (A0_1:Option Addr) (c0_1:Nat) (l0_1:List S63) (a0_2:Bool) (a0_3 a0_4 a0_5:Int) (a1:Int) (r1 r2 r3:Int) (w:World) (hr0_0:Kd.C k59 w A0_0 l0_0.length l0_0) (hc0_0:l0_0.length≤c0_0) (hr0_1:Kd.C k63 w A0_1 l0_1.length l0_1) (hc0_1:l0_1.length≤c0_1) (h:spec_l7Check.f l0_0 l0_1 a0_2 a0_3 a0_4 a0_5 a1=some (r1,r2,r3)):
  Calls Try.prog 19 #[.agg #[.slice A0_0 l0_0.length c0_0,.slice A0_1 l0_1.length c0_1,.bool a0_2,.int .i64 a0_3,.int .i64 a0_4,.int .i64 a0_5],.int .i64 a1] w fun e w'=>e=.returned (.tuple #[.int .i64 r1,.int .i64 r2,.int .i64 r3])∧Below w.heap.size w w':=
 scheck_any l0_0 l0_1 a0_2 a0_3 a0_4 a0_5 a1 A0_0 c0_0 A0_1 c0_1 r1 r2 r3 w hr0_0 hr0_1 h

/-! ### spec_CheckFunc: function 7 -/
def spec_CheckFunc.f (k:Nat) (l0_0:List (S59)) (l0_1:List (S63)) (a0_2:Bool) (a0_3:Int) (a0_4:Int) (a0_5:Int) (a1:Int):Option (Int × Int):=(spec_GoodShape.f k l0_0 l0_1 a0_2 a0_3 a0_4 a0_5).bind fun t194=>(if t194=true then ((spec_l1In.f a1 0 (wrap64 ((l0_0.length:Int) - 1))).bind fun t195=>(if t195=true then ((spec_l7Check.f l0_0 l0_1 a0_2 a0_3 a0_4 a0_5 a1).bind fun bt196=>(some (bt196.1,bt196.2.1))) else (some (1,0)))) else (some (1,0)))
theorem spec_CheckFunc.calls (k:Nat) (A0_0:Option Addr) (c0_0:Nat) (l0_0:List (S59)) (A0_1:Option Addr) (c0_1:Nat) (l0_1:List (S63)) (a0_2:Bool) (a0_3:Int) (a0_4:Int) (a0_5:Int) (a1:Int) (r1:Int) (r2:Int) (w:World) (hr0_0:Kd.C k59 w A0_0 l0_0.length l0_0) (hc0_0:l0_0.length≤c0_0) (hr0_1:Kd.C k63 w A0_1 l0_1.length l0_1) (hc0_1:l0_1.length≤c0_1) (h:spec_CheckFunc.f k l0_0 l0_1 a0_2 a0_3 a0_4 a0_5 a1=some (r1,r2)):
  Calls Try.prog 7 #[.agg #[.slice A0_0 l0_0.length c0_0,.slice A0_1 l0_1.length c0_1,.bool a0_2,.int .i64 a0_3,.int .i64 a0_4,.int .i64 a0_5],.int .i64 a1] w fun e w'=>e=.returned (.tuple #[.int .i64 r1,.int .i64 r2])∧Below w.heap.size w w':=by
 have hu32:=Try.underlying32
 have HR0_0:=A_ hr0_0
 have HC0_0:=A_ hc0_0
 clear hr0_0 hc0_0
 have HR0_1:=A_ hr0_1
 have HC0_1:=A_ hc0_1
 clear hr0_1 hc0_1
 have HB:=A_ (Below.refl w.heap.size w)
 have H:((spec_GoodShape.f k l0_0 l0_1 a0_2 a0_3 a0_4 a0_5).bind fun t194=>(if t194=true then ((spec_l1In.f a1 0 (wrap64 ((l0_0.length:Int) - 1))).bind fun t195=>(if t195=true then ((spec_l7Check.f l0_0 l0_1 a0_2 a0_3 a0_4 a0_5 a1).bind fun bt196=>(some (bt196.1,bt196.2.1))) else (some (1,0)))) else (some (1,0))))=some (r1,r2):=h
 clear h
 replace H:=bi_ H
 obtain⟨t194,A30,H⟩:=H
 have A3:=A_ A30
 clear A30
 by_cases c4:t194=true
 ·
  subst c4
  replace H:=iT_ H
  replace H:=bi_ H
  obtain⟨t195,A50,H⟩:=H
  have A5:=A_ A50
  clear A50
  by_cases c6:t195=true
  ·
   subst c6
   replace H:=iT_ H
   replace H:=Option.bind_eq_some_iff.mp H
   obtain⟨⟨t196,t197,t198⟩,A70,H⟩:=H
   replace H:(some (t196,t197))=some (r1,r2):=H
   have A7:=A_ A70
   clear A70
   simp only[Option.some.injEq,Prod.mk.injEq] at H
   obtain⟨rfl,rfl⟩:=H
   go_enter Try.func7,Try.ntmps7
   go_wp2_with (first|((with_reducible refine gd_ 2 rfl ?_);(try (refine gate_guard (by rfl) ?_;dsimp only));refine bx_ #[.slice A0_0 l0_0.length c0_0,.slice A0_1 l0_1.length c0_1,.bool a0_2,.int .i64 a0_3,.int .i64 a0_4,.int .i64 a0_5] 32 ?_;intro gb193 hg w8 hbox hb;have BK193:=A_ hbox;have GW193:=gw_ hg HB;have GE193:=GW193;replace HB:=bs_ HB hb;clear hb hbox hg;obtain⟨hcz9_0,hcz9_1,hcz9_2,hcz9_3,hcz9_4,hcz9_5⟩:=cs6_ BK193.out;obtain⟨hfz9_0,hfz9_1,hfz9_2,hfz9_3,hfz9_4,hfz9_5⟩:=fz6_ BK193.out)|((with_reducible refine gc_ 17 rfl ?_);refine gm_ (some 10) Try.func17 (spec_GoodShape.calls k _ _ l0_0 _ _ l0_1 a0_2 a0_3 a0_4 a0_5 true _ (cb_ HR0_0 HB) HC0_0.out (cb_ HR0_1 HB) HC0_1.out A3.out) ?_;intro w10 hb;replace BK193:=kb_ BK193 hb;replace HB:=bs_ HB hb;(try clear hb);obtain⟨hcz11_0,hcz11_1,hcz11_2,hcz11_3,hcz11_4,hcz11_5⟩:=cs6_ BK193.out;obtain⟨hfz11_0,hfz11_1,hfz11_2,hfz11_3,hfz11_4,hfz11_5⟩:=fz6_ BK193.out)|(go_at_call 18;(with_reducible refine(spec_l1In.calls a1 0 (wrap64 ((l0_0.length:Int) - 1)) true _ A5.out).mono ?_);rintro e w' ⟨rfl,⟨nd,rfl⟩⟩)|((with_reducible refine gc_ 19 rfl ?_);refine gm_ (some 24) Try.func19 (spec_l7Check.calls _ _ l0_0 _ _ l0_1 a0_2 a0_3 a0_4 a0_5 a1 t196 t197 t198 _ (cb_ HR0_0 HB) HC0_0.out (cb_ HR0_1 HB) HC0_1.out A7.out) ?_;intro w12 hb;replace BK193:=kb_ BK193 hb;replace HB:=bs_ HB hb;(try clear hb)))
   go_ret2
   exact⟨rr_,bw HB.out⟩
  replace c6:=Bool.eq_false_iff.mpr c6
  subst c6
  replace H:=iF_ H
  simp only[Option.some.injEq,Prod.mk.injEq] at H
  obtain⟨rfl,rfl⟩:=H
  go_enter Try.func7,Try.ntmps7
  go_wp2_with (first|((with_reducible refine gd_ 2 rfl ?_);(try (refine gate_guard (by rfl) ?_;dsimp only));refine bx_ #[.slice A0_0 l0_0.length c0_0,.slice A0_1 l0_1.length c0_1,.bool a0_2,.int .i64 a0_3,.int .i64 a0_4,.int .i64 a0_5] 32 ?_;intro gb193 hg w13 hbox hb;have BK193:=A_ hbox;have GW193:=gw_ hg HB;have GE193:=GW193;replace HB:=bs_ HB hb;clear hb hbox hg;obtain⟨hcz14_0,hcz14_1,hcz14_2,hcz14_3,hcz14_4,hcz14_5⟩:=cs6_ BK193.out;obtain⟨hfz14_0,hfz14_1,hfz14_2,hfz14_3,hfz14_4,hfz14_5⟩:=fz6_ BK193.out)|((with_reducible refine gc_ 17 rfl ?_);refine gm_ (some 10) Try.func17 (spec_GoodShape.calls k _ _ l0_0 _ _ l0_1 a0_2 a0_3 a0_4 a0_5 true _ (cb_ HR0_0 HB) HC0_0.out (cb_ HR0_1 HB) HC0_1.out A3.out) ?_;intro w15 hb;replace BK193:=kb_ BK193 hb;replace HB:=bs_ HB hb;(try clear hb);obtain⟨hcz16_0,hcz16_1,hcz16_2,hcz16_3,hcz16_4,hcz16_5⟩:=cs6_ BK193.out;obtain⟨hfz16_0,hfz16_1,hfz16_2,hfz16_3,hfz16_4,hfz16_5⟩:=fz6_ BK193.out)|(go_at_call 18;(with_reducible refine(spec_l1In.calls a1 0 (wrap64 ((l0_0.length:Int) - 1)) false _ A5.out).mono ?_);rintro e w' ⟨rfl,⟨nd,rfl⟩⟩))
  go_ret2
  exact⟨rr_,bw HB.out⟩
 replace c4:=Bool.eq_false_iff.mpr c4
 subst c4
 replace H:=iF_ H
 simp only[Option.some.injEq,Prod.mk.injEq] at H
 obtain⟨rfl,rfl⟩:=H
 go_enter Try.func7,Try.ntmps7
 go_wp2_with (first|((with_reducible refine gd_ 2 rfl ?_);(try (refine gate_guard (by rfl) ?_;dsimp only));refine bx_ #[.slice A0_0 l0_0.length c0_0,.slice A0_1 l0_1.length c0_1,.bool a0_2,.int .i64 a0_3,.int .i64 a0_4,.int .i64 a0_5] 32 ?_;intro gb193 hg w17 hbox hb;have BK193:=A_ hbox;have GW193:=gw_ hg HB;have GE193:=GW193;replace HB:=bs_ HB hb;clear hb hbox hg;obtain⟨hcz18_0,hcz18_1,hcz18_2,hcz18_3,hcz18_4,hcz18_5⟩:=cs6_ BK193.out;obtain⟨hfz18_0,hfz18_1,hfz18_2,hfz18_3,hfz18_4,hfz18_5⟩:=fz6_ BK193.out)|((with_reducible refine gc_ 17 rfl ?_);refine gm_ (some 10) Try.func17 (spec_GoodShape.calls k _ _ l0_0 _ _ l0_1 a0_2 a0_3 a0_4 a0_5 false _ (cb_ HR0_0 HB) HC0_0.out (cb_ HR0_1 HB) HC0_1.out A3.out) ?_;intro w19 hb;replace BK193:=kb_ BK193 hb;replace HB:=bs_ HB hb;(try clear hb)))
 go_ret2
 exact⟨rr_,bw HB.out⟩

/-! ### laws_toIntS: function 49 -/
def laws_toIntS.l0:Nat→List Int→List Int→Int→Option (List Int)
 |0,_,_,_=>none
 |k+1,x0,x3,x4=>if x4<(x0.length:Int) then (if 0≤x4 then (if x4<(x3.length:Int) then (laws_toIntS.l0 k x0 (x3.set (x4:Int).toNat (rd x0 x4)) (wrap64 (x4+1))) else (none)) else (none)) else (some x3)
def laws_toIntS.f (k:Nat) (l0:List Int):Option (List Int):=if 0≤(l0.length:Int) then (if ((l0.length:Int):Int).toNat≤35184372088832 then (laws_toIntS.l0 k l0 (List.replicate ((l0.length:Int):Int).toNat 0) 0) else (none)) else (none)
theorem laws_toIntS.calls (k:Nat) (A0:Option Addr) (c0:Nat) (l0:List Int) (r:List Int) (w:World) (hr0:Kd.C (Kd.int .i64) w A0 l0.length l0) (hc0:l0.length≤c0) (h:laws_toIntS.f k l0=some r):
  Calls Try.prog 49 #[.slice A0 l0.length c0] w fun e w'=>∃ v0_:Value,e=.returned (v0_)∧Kd.R (Kd.int .i64) 3 w' w.heap.size (fun _=>True) v0_ r∧Below w.heap.size w w':=by
 have HR0:=A_ hr0
 have HC0:=A_ hc0
 clear hr0 hc0
 have HB:=A_ (Below.refl w.heap.size w)
 have H:(if 0≤(l0.length:Int) then (if ((l0.length:Int):Int).toNat≤35184372088832 then (laws_toIntS.l0 k l0 (List.replicate ((l0.length:Int):Int).toNat 0) 0) else (none)) else (none))=some r:=h
 clear h
 by_cases c2:0≤(l0.length:Int)
 ·
  rw[if_pos c2] at H
  have c2b0:=eq_true c2
  have c2b1:=decide_eq_true c2
  clear c2
  by_cases c3:((l0.length:Int):Int).toNat≤35184372088832
  ·
   rw[if_pos c3] at H
   have c3b0:=eq_true c3
   have c3b1:=decide_eq_true c3
   clear c3
   obtain⟨y199,hy199⟩:∃ y_:List Int,y_=(List.replicate ((l0.length:Int):Int).toNat 0):=⟨_,rfl⟩
   replace H:(laws_toIntS.l0 k l0 y199 0)=some r:=by first|(rw[hy199];with_reducible exact H)|(have H2_:=(Option.bind_some _ _).symm.trans H;rw[hy199];with_reducible exact H2_)|(have H2_:=(Option.bind_some _ _).symm.trans H;with_reducible exact H2_)|with_reducible exact H|(rw[hy199];exact H)|exact H
   have Ny199:=A_ hy199
   clear hy199
   have H':=A_ H
   clear H
   go_enter Try.func49,Try.ntmps49
   go_wp2_with (first|((with_reducible refine gd_ 7 rfl ?_);refine Kd.R_make (Kd.int .i64) _ 3 rfl (N:=7) rfl 53 _ _ rfl (l0.length:Int) rfl rfl Try.underlying53 (.int .i64 0) 8 info3 rfl (by decide) (by omega) 0 (ok:=fun _=>True) (okp:=fun _=>True) rfl (fun _ hk=>hk) trivial (od_) (Nat.le_trans (Nat.mul_le_mul_right _ (od_:(l0.length:Int).toNat≤35184372088832)) (by omega)) (Below.refl _ _) (Nat.le_refl _) ?_;intro v200 w4 ho5 hb hg_ hnew_;clear hg_ hnew_;(first|rw[←Ny199.out] at ho5|(simp only[Int.reduceToNat] at ho5;rw[←Ny199.out] at ho5));have HO201:=A_ (Kd.R_lower ho5 (below_size (bw HB.out)));replace HB:=bs_ HB hb;clear hb ho5))
   (try simp only[Act.put,List.setIfInBounds_toArray,List.set_cons_zero,List.set_cons_succ])
   go_loopg [4] k (fun kq v4 w'=>∃ (x3_1:List Int) (x4_1:Int),v4=.int .i64 x4_1∧Aside0 (laws_toIntS.l0 kq l0 x3_1 x4_1=some r)∧Aside0 (kq≤k)∧Aside0 (Kd.R (Kd.int .i64) 3 w' w.heap.size (fun _=>True) v200 x3_1)∧Aside0 (Below w.heap.size w w'))
   case atStart=>exact⟨(y199),(0),rs_,H',⟨Nat.le_refl _⟩,⟨kr_ HO201.out⟩,⟨bw HB.out⟩⟩
   case round=>
    clear H'
    try clear c2 c2b0 c2b1 c3 c3b0 c3b1
    obtain⟨x3_1,x4_1,rfl,HA,HK1,HO_3,HB⟩:=hrel
    cases gk with
    |zero=>exact absurd HA.out (by simp[laws_toIntS.l0])
    |succ k1=>
     have H:=HA.out
     clear HA
     simp only[laws_toIntS.l0] at H
     by_cases c6:x4_1<(l0.length:Int)
     ·
      rw[if_pos c6] at H
      have c6b0:=decide_eq_true c6
      clear c6
      by_cases c7:0≤x4_1
      ·
       rw[if_pos c7] at H
       have c7b0:=decide_eq_true c7
       clear c7
       by_cases c8:x4_1<(x3_1.length:Int)
       ·
        rw[if_pos c8] at H
        have c8b0:=decide_eq_true c8
        clear c8
        obtain⟨y203,hy203⟩:∃ y_:List Int,y_=(x3_1.set (x4_1:Int).toNat (rd l0 x4_1)):=⟨_,rfl⟩
        replace H:(laws_toIntS.l0 k1 l0 y203 (wrap64 (x4_1+1)))=some r:=by first|(rw[hy203];with_reducible exact H)|(have H2_:=(Option.bind_some _ _).symm.trans H;rw[hy203];with_reducible exact H2_)|(have H2_:=(Option.bind_some _ _).symm.trans H;with_reducible exact H2_)|with_reducible exact H|(rw[hy203];exact H)|exact H
        have Ny203:=A_ hy203
        clear hy203
        have H':=A_ H
        clear H
        have p202:0≤(x4_1:Int):=od_
        have q202:x4_1<(l0.length:Int):=od_
        obtain⟨ad202,e202,hx202_0⟩:=Kd.at_int HR0.out x4_1 p202 q202
        cases e202
        replace hx202_0:=cl_ HB.out hx202_0
        replace p202:=eq_true p202
        replace q202:=eq_true q202
        have p9:0≤(x4_1:Int):=od_
        have q9:(x4_1:Int)<((x3_1.length:Int):Int):=od_
        obtain⟨go9,co9,eo9,gb9,gl9,cl9,HG9⟩:=Kd.R_form HO_3.out (by omega)
        (first|cases eo9|(injection eo9 with ea_ en_ ec_;(first|subst ea_|(injection ea_ with ea_;subst ea_));subst ec_;clear en_))
        have GB9:=A_ gb9
        have GG9:=A_ HG9
        clear gb9 gl9 HG9
        obtain⟨hx9_0,hf9_0⟩:=Kd.R_celln 0 HO_3.out (x4_1:Int) p9 q9
        replace p9:=eq_true p9
        replace q9:=eq_true q9
        have HP10:=Kd.R_putg HO_3.out (x4_1:Int) (rd l0 x4_1)
        go_wp2_with (first|((with_reducible refine gate_store (t:=3) (p:=20) rfl ?_);refine store_event (t:=3) (p:=20) (v:=?vo_w11) (w1:=(wr.setCell ⟨go9,(x4_1:Int).toNat,none⟩ (.int .i64 (rd l0 x4_1)))) ?hg ?ho ?hn ?hr ?_;(case ho=>rfl);(case hg=>rfl);(case hn=>rfl);(case hr=>first|(go_simp;done)|(go_simp;rfl));intro w11 hw;have hg:wr.grownBy w11 (some go9):=(by rw[hw];exact HP10.2);have hp_:Kd.R (Kd.int .i64) 3 w11 w.heap.size (fun _=>True) (.slice (some ⟨go9,0,none⟩) x3_1.length co9) y203:=(by rw[hw,Ny203.out];exact HP10.1);clear HP10;replace HO_3:=A_ (hp_);replace HB:=A_ ((by rw[hw];exact below_set (HB.out) GB9.out:Below w.heap.size w w11));clear hg hw hp_))
        go_roundg k1
        case measure=>have:=HK1.out;omega
        case rel=>exact⟨(y203),(wrap64 (x4_1+1)),rs_,H',⟨by have:=HK1.out;omega⟩,⟨kr_ HO_3.out⟩,⟨bw HB.out⟩⟩
       rw[if_neg c8] at H
       exact absurd H (by simp)
      rw[if_neg c7] at H
      exact absurd H (by simp)
     rw[if_neg c6] at H
     have c6b0:=decide_eq_false c6
     clear c6
     obtain rfl:=Option.some.inj H
     clear H
     go_wp2
     go_ret
     exact⟨_,rr_,kr_ HO_3.out,bw HB.out⟩
  rw[if_neg c3] at H
  exact absurd H (by simp)
 rw[if_neg c2] at H
 exact absurd H (by simp)

/-! ### laws_toIns: function 67 -/
def laws_toIns.f (a0_0:Int) (a0_1:Int):Option (Int × Int):=some (a0_0,a0_1)
theorem laws_toIns.calls (a0_0:Int) (a0_1:Int) (r1:Int) (r2:Int) (w:World) (h:laws_toIns.f a0_0 a0_1=some (r1,r2)):
  Calls Try.prog 67 #[.agg #[.int .i64 a0_0,.int .i64 a0_1]] w fun e w'=>e=.returned (.agg #[.int .i64 r1,.int .i64 r2])∧Below w.heap.size w w':=by
 have hu107:=Try.underlying107
 have hu71:=Try.underlying71
 have HB:=A_ (Below.refl w.heap.size w)
 have H:(some (a0_0,a0_1))=some (r1,r2):=h
 clear h
 simp only[Option.some.injEq,Prod.mk.injEq] at H
 obtain⟨rfl,rfl⟩:=H
 go_enter Try.func67,Try.ntmps67
 go_wp2_with (first|((with_reducible refine gd_ 1 rfl ?_);refine bx_ #[.int .i64 a0_0,.int .i64 a0_1] 107 ?_;intro gb204 hg w2 hbox hb;have BK204:=A_ hbox;have GW204:=gw_ hg HB;have GE204:=GW204;replace HB:=bs_ HB hb;clear hb hbox hg)|((with_reducible refine gd_ 2 rfl ?_);refine bx_ #[.int .i64 0,.int .i64 0] 71 ?_;intro gb205 hg w3 hbox hb;have BK205:=A_ hbox;have GW205:=gw_ hg HB;have GE205:=GW205;obtain⟨NB204_205,NB205_204⟩:=nb_ BK204 hg;replace BK204:=kb_ BK204 hb;replace HB:=bs_ HB hb;clear hb hbox hg)|((with_reducible refine gd_ 3 rfl ?_);refine bx_ #[.int .i64 0,.int .i64 0] 71 ?_;intro gb206 hg w4 hbox hb;have BK206:=A_ hbox;have GW206:=gw_ hg HB;have GE206:=GW206;obtain⟨NB204_206,NB206_204⟩:=nb_ BK204 hg;obtain⟨NB205_206,NB206_205⟩:=nb_ BK205 hg;replace BK204:=kb_ BK204 hb;replace BK205:=kb_ BK205 hb;replace HB:=bs_ HB hb;clear hb hbox hg;have hnb5:=NB204_205.out;have hnc5:=NB205_204.out;have hnb6:=NB204_206.out;have hnc6:=NB206_204.out;obtain⟨hcz7_0,hcz7_1⟩:=cs2_ BK204.out;obtain⟨hfz7_0,hfz7_1⟩:=fz2_ BK204.out;have hnb8:=NB206_205.out;have hnc8:=NB205_206.out;obtain⟨hcz9_0,hcz9_1⟩:=cs2_ BK206.out;obtain⟨hfz9_0,hfz9_1⟩:=fz2_ BK206.out;obtain⟨hcz10_0,hcz10_1⟩:=cs2_ BK205.out;obtain⟨hfz10_0,hfz10_1⟩:=fz2_ BK205.out))
 refine bodyPost_ret (results_cell_row rfl _ _ gb205 71 #[.int .i64 a0_0,.int .i64 a0_1] (0,0) _ rfl (by refine blk_put (cs:=#[.int .i64 a0_0,.int .i64 0]) ?_ 1 _ rfl;refine blk_put (cs:=#[.int .i64 0,.int .i64 0]) ?_ 0 _ rfl;refine blk_far ?_ NB205_206.out _;refine blk_far ?_ NB205_206.out _;(with_reducible repeat (first|refine blk_drewN ?_ _|refine blk_drew ?_|refine blk_alloc ?_ _));exact BK205.out) Try.underlying71 rfl (by kernel_rfl)) rfl ?_
 exact⟨rr_,bw HB.out⟩

end Go.Proofs.Ytghogonibanieaa.Q

