-- Written by a program of this session; it walks the functions that the law reaches.
import Derived.Test.YtanhbfhmgmjdgaaQx0
import Derived.Test.YtanhbfhmgmjdgaaQx5
namespace Go.Proofs.Ytanhbfhmgmjdgaa.Q
open Go.RowKit Go.Proofs.YtanhbfhmgmjdgaaW.PrintWords Go.Proofs.YtanhbfhmgmjdgaaW.PrintLast Go.Proofs.YtanhbfhmgmjdgaaW.PrintMore
attribute [local go_sem] max2_int min2_int max_two min_two max_three min_three max_four min_four   -- for this text's walks alone
set_option linter.unusedVariables false
set_option linter.unusedSimpArgs false
set_option maxRecDepth 100000
set_option maxHeartbeats 8000000


/-! ### spec_l7S_take: function 74 (walked by hand) -/
def takeS (c:CS S131) (want:Int):Option (CS S131 × Int):=
 if want=64 then some (c,want) else if c.fa≠0 then some (c,want) else
 (c.sp[c.sp.length - 1]?).bind fun b=>
  if (c.st.length:Int)=b.f2 then some (if b.f3=true then c else c.fail 2,want)
  else (c.st[c.st.length - 1]?).bind fun t=>some (if t≠want∧t≠1∧want≠1 then ({c with st:=c.st.take (c.st.length - 1)}:CS S131).fail 3 else {c with st:=c.st.take (c.st.length - 1)},if t=1 then want else t)
def spec_l7take.T3:Bool × List (List Nat × List Nat):=(true,[([],[]),([0],[0]),([1],[1]),([2],[2]),([],[]),([4],[4]),([5],[5]),([6],[6]),([7],[7]),([8],[8]),([3,9],[3,9]),([10],[10]),([],[]),([12,11,0,1,2,3,4,5,6,7,8,9,10,11,12],[11,12])])
def spec_l7take.B3:List Nat:=[0,1,3,7,0,16,48,112,240,496,1023,2047,0,8191]
theorem spec_l7take.tab3:rtab .any (opsOf Try.f74 3)=spec_l7take.T3:=by kernel_rfl
theorem spec_l7take.bits3:waitsOk spec_l7take.T3.2 spec_l7take.B3=true:=by kernel_rfl
theorem stake_any (want t:Int) (w0 w:World) (g:Nat) (q:Nat→Value) (c c':CS S131) (A:Option Addr) (n1:Nat) (B:Option Addr) (n2:Nat) (h:Cs w0 w g q c A n1 B n2) (hr:takeS c want=some (c',t)):
  Calls Try.prog 74 #[.pointer (some ⟨g,0,none⟩),.int .i64 want] w fun e w'=>e=.returned (.int .i64 t)∧Cs w0 w' g q c' A n1 B n2∧KeepBut w w' g none:=by
 have HO:=A_ h
 have HK:=A_ (KeepBut.refl w g none)
 have hu91:=Try.underlying131
 unfold takeS at hr
 by_cases k105:want=64
 ·
  rw[if_pos k105] at hr
  simp only[Option.some.injEq,Prod.mk.injEq] at hr
  obtain⟨rfl,rfl⟩:=hr
  have cb:(want==64)=true:=beq_iff_eq.2 k105
  clear h k105
  go_enter Try.func74,Try.ntmps74
  go_wp2
  go_ret
  exact⟨rfl,HO.out,HK.out⟩
 rw[if_neg k105] at hr
 have cb:(want==64)=false:=beq_eq_false_iff_ne.2 k105
 have c12f:=HO.out.cell12
 by_cases kf:c.fa≠0
 ·
  rw[if_pos kf] at hr
  simp only[Option.some.injEq,Prod.mk.injEq] at hr
  obtain⟨rfl,rfl⟩:=hr
  have cf:(c.fa !=0)=true:=bne_iff_ne.2 kf
  clear h k105 kf
  go_enter Try.func74,Try.ntmps74
  go_wp2
  go_ret
  exact⟨rfl,HO.out,HK.out⟩
 rw[if_neg kf] at hr
 have cf:(c.fa !=0)=false:=bne_eq_false_iff_eq.2 (Classical.not_not.1 kf)
 obtain⟨b,hb,hr1⟩:=Option.bind_eq_some_iff.1 hr
 clear hr
 have hr:=hr1
 clear hr1 k105 kf
 have hp:0<c.sp.length:=by have:=(List.getElem?_eq_some_iff.1 hb).1;omega
 obtain⟨gB,rfl,_,s0,s1,s2,s3,s4,_⟩:=h.span _ b hb
 have c3:=HO.out.cell11
 have hm:=h.lenP.1
 have e1:IntKind.i64.wrap ((c.sp.length:Int) - 1)=((c.sp.length - 1:Nat):Int):=by rw[show ((c.sp.length:Int) - 1)=((c.sp.length - 1:Nat):Int) by omega];exact IntWalk.i64_in _ (by omega)
 have q1:(0:Int)≤((c.sp.length - 1:Nat):Int):=by omega
 have q2:((c.sp.length - 1:Nat):Int)<(c.sp.length:Int):=by omega
 clear hp hm hb
 by_cases c1:(c.st.length:Int)=b.f2
 ·
  rw[if_pos c1] at hr
  simp only[Option.some.injEq,Prod.mk.injEq] at hr
  obtain⟨rfl,rfl⟩:=hr
  have cbn:((c.st.length:Int)==b.f2)=true:=beq_iff_eq.2 c1
  clear h c1
  obtain⟨cr,hcr⟩:∃ cr,(if b.f3=true then c else c.fail 2)=cr:=⟨_,rfl⟩
  rw[hcr]
  have HCR:=A_ hcr
  clear hcr
  go_enter Try.func74,Try.ntmps74
  go_upto_region 3 with (fail)
  refine sS 14 (fun w'=>w'.cell? ⟨g,11,none⟩=some (.slice (some ⟨gB,0,none⟩) c.sp.length n2)∧w'.cell? ⟨gB,(c.sp.length - 1)*5,none⟩=some (.int .i64 b.f0)∧w'.cell? ⟨gB,(c.sp.length - 1)*5+1,none⟩=some (.int .i64 b.f1)∧w'.cell? ⟨gB,(c.sp.length - 1)*5+2,none⟩=some (.int .i64 b.f2)∧w'.cell? ⟨gB,(c.sp.length - 1)*5+3,none⟩=some (.bool b.f3)∧w'.cell? ⟨gB,(c.sp.length - 1)*5+4,none⟩=some (.bool b.f4)) [13] ⟨c3,s0,s1,s2,s3,s4⟩ spec_l7take.tab3 spec_l7take.bits3 (fun hHeld HT_ HW_=>?_)
  replace HO:=A_ HO.out.drew;replace HK:=A_ (keep_drew HK.out);clear c3 s0 s1 s2 s3 s4;generalize w.drew=wd at*
  refine pS HT_ 0 17 ?_
  refine pS HT_ 1 18 ?_
  refine pS HT_ 2 19 ?_
  refine pS HT_ 4 21 ?_
  refine pS HT_ 5 22 ?_
  refine pS HT_ 6 23 ?_
  refine tS HT_ HW_ 3 20 hHeld ?_
  refine tS HT_ HW_ 7 24 hHeld ?_
  refine pS HT_ 8 25 ?_
  refine pS HT_ 9 26 ?_
  refine pS HT_ 10 27 ?_
  refine tS HT_ HW_ 11 28 hHeld ?_
  refine oS HT_ 12 (some 5) (fun K hK=>?_)
  refine box_step (by rfl) (N:=5) ?hd (cs:=#[(.int .i64 0),(.int .i64 0),(.int .i64 0),(.bool false),(.bool false)]) (t:=131) ?hr ?_;(case hd=>rfl);(case hr=>first|(go_simp;done)|(go_simp;rfl))
  intro gx hg wx hbox hb
  have BX:=A_ hbox;have GX:=A_ (show w.heap.size≤gx from by rw[hg];exact HK.out.1);have NX:=A_ (HO.out.fresh_ne hg);have G0:=A_ (Nat.le_trans HO.out.2.1.size (Nat.le_of_eq hg.symm));have m0:=A_ (HO.out.below hb);have m1:=A_ (HK.out.trans (KeepBut.of_below hb g none) (.inl rfl))
  obtain⟨s0_,s1_,s2_,s3_,s4_,s5_⟩:=hHeld
  have hHeld2:=A_ (And.intro (cl_ hb s0_) (And.intro (cl_ hb s1_) (And.intro (cl_ hb s2_) (And.intro (cl_ hb s3_) (And.intro (cl_ hb s4_) (cl_ hb s5_))))))
  clear HO HK hbox hb hg s0_ s1_ s2_ s3_ s4_ s5_;have HO:=m0;have HK:=m1;clear m0 m1
  obtain⟨z0,z1,z2,z3,z4⟩:=cp5_ BX.out;obtain⟨v0,v1,v2,v3,v4⟩:=fz5_ BX.out
  refine hK.out _ _ hHeld2.out (fun hHeld=>?_)
  clear hK K
  refine nS (some 5) ?_
  refine lS HT_ 13 (none) (fun K hK=>?_)
  obtain⟨vs,hvs⟩:∃ vs:List Value,vs=[.int .i64 b.f0,.int .i64 b.f1,.int .i64 b.f2,.bool b.f3,.bool b.f4]:=⟨_,rfl⟩
  refine skip_ (w1:=sets wx gx 0 vs) (by rfl) rfl (by subst hvs;first|(go_simp;done)|(go_simp;rfl)) ?_
  clear hHeld hHeld2 z0 v0 z1 v1 z2 v2 z3 v3 z4 v4
  refine hK.out _ _ ?_
  clear hK K
  refine dS HT_ ?_
  replace BX:=A_ (sets_blk vs BX.out (by rw[hvs];rfl));replace HO:=A_ (HO.out.sets G0.out NX.out vs 0);replace HK:=A_ (keep_sets HK.out GX.out vs 0);generalize sets wx gx 0 vs=wy at*;subst hvs
  obtain⟨x0,x1,x2,x3,x4⟩:=cp5_ BX.out
  have c10f:=HO.out.cell10
  go_upto_region 4 with (fail)
  go_quiet (fail)
  replace HO:=A_ (HO.out.drewN nq);replace HK:=A_ (keep_drewN HK.out nq);replace BX:=A_ (blk_drewN BX.out nq);clear x0 x1 x2 x3 x4 c10f;generalize wy.drewN nq=wq at*;obtain⟨x0,x1,x2,x3,x4⟩:=cp5_ BX.out
  by_cases cd:b.f3=true
  ·
   have EE:=A_ (HCR.out.symm.trans (if_pos cd))
   rw[cd] at x3
   clear cd HCR
   go_wp2
   go_ret
   exact⟨rfl,by rw[EE.out];exact HO.out,HK.out⟩
  have EE:=A_ (HCR.out.symm.trans (if_neg cd))
  rw[show b.f3=false by simpa using cd] at x3
  clear cd HCR
  go_wp2_with (first|(go_at_call 77;refine(bad_any w0 _ g q _ 2 _ n1 _ n2 HO.out).mono ?_;rintro e w5 ⟨rfl,hO,hK⟩;replace HO:=A_ hO;replace HK:=A_ (HK.out.trans hK (.inl rfl));clear hO hK))
  go_ret
  exact⟨rfl,by rw[EE.out];exact HO.out,HK.out⟩
 rw[if_neg c1] at hr
 obtain⟨x,hx,hr2⟩:=Option.bind_eq_some_iff.1 hr
 clear hr
 have cbn:((c.st.length:Int)==b.f2)=false:=beq_eq_false_iff_ne.2 c1
 have hlt:c.st.length - 1<c.st.length:=(List.getElem?_eq_some_iff.1 hx).1
 obtain⟨gA,rfl,sx⟩:=h.stk _ x hx
 have HX:=A_ hx
 have hm2:=h.lenS
 have e3:IntKind.i64.wrap ((c.st.length:Int) - 1)=((c.st.length - 1:Nat):Int):=by rw[show ((c.st.length:Int) - 1)=((c.st.length - 1:Nat):Int) by omega];exact IntWalk.i64_in _ (by omega)
 have q3:(0:Int)≤((c.st.length - 1:Nat):Int):=by omega
 have q4:((c.st.length - 1:Nat):Int)<(c.st.length:Int):=by omega
 have q5:((c.st.length - 1:Nat):Int)≤(n1:Int):=by omega
 have HL:=A_ (show c.st.length - 1≤c.st.length by omega)
 clear h hlt hm2 hx c1 sx
 go_enter Try.func74,Try.ntmps74
 go_upto_region 3 with (fail)
 refine sS 14 (fun w'=>w'.cell? ⟨g,11,none⟩=some (.slice (some ⟨gB,0,none⟩) c.sp.length n2)∧w'.cell? ⟨gB,(c.sp.length - 1)*5,none⟩=some (.int .i64 b.f0)∧w'.cell? ⟨gB,(c.sp.length - 1)*5+1,none⟩=some (.int .i64 b.f1)∧w'.cell? ⟨gB,(c.sp.length - 1)*5+2,none⟩=some (.int .i64 b.f2)∧w'.cell? ⟨gB,(c.sp.length - 1)*5+3,none⟩=some (.bool b.f3)∧w'.cell? ⟨gB,(c.sp.length - 1)*5+4,none⟩=some (.bool b.f4)) [13] ⟨c3,s0,s1,s2,s3,s4⟩ spec_l7take.tab3 spec_l7take.bits3 (fun hHeld HT_ HW_=>?_)
 replace HO:=A_ HO.out.drew;replace HK:=A_ (keep_drew HK.out);clear c3 s0 s1 s2 s3 s4;generalize w.drew=wd at*
 refine pS HT_ 0 17 ?_
 refine pS HT_ 1 18 ?_
 refine pS HT_ 2 19 ?_
 refine pS HT_ 4 21 ?_
 refine pS HT_ 5 22 ?_
 refine pS HT_ 6 23 ?_
 refine tS HT_ HW_ 3 20 hHeld ?_
 refine tS HT_ HW_ 7 24 hHeld ?_
 refine pS HT_ 8 25 ?_
 refine pS HT_ 9 26 ?_
 refine pS HT_ 10 27 ?_
 refine tS HT_ HW_ 11 28 hHeld ?_
 refine oS HT_ 12 (some 5) (fun K hK=>?_)
 refine box_step (by rfl) (N:=5) ?hd (cs:=#[(.int .i64 0),(.int .i64 0),(.int .i64 0),(.bool false),(.bool false)]) (t:=131) ?hr ?_;(case hd=>rfl);(case hr=>first|(go_simp;done)|(go_simp;rfl))
 intro gx hg wx hbox hb
 have BX:=A_ hbox;have GX:=A_ (show w.heap.size≤gx from by rw[hg];exact HK.out.1);have NX:=A_ (HO.out.fresh_ne hg);have G0:=A_ (Nat.le_trans HO.out.2.1.size (Nat.le_of_eq hg.symm));have m0:=A_ (HO.out.below hb);have m1:=A_ (HK.out.trans (KeepBut.of_below hb g none) (.inl rfl))
 obtain⟨s0_,s1_,s2_,s3_,s4_,s5_⟩:=hHeld
 have hHeld2:=A_ (And.intro (cl_ hb s0_) (And.intro (cl_ hb s1_) (And.intro (cl_ hb s2_) (And.intro (cl_ hb s3_) (And.intro (cl_ hb s4_) (cl_ hb s5_))))))
 clear HO HK hbox hb hg s0_ s1_ s2_ s3_ s4_ s5_;have HO:=m0;have HK:=m1;clear m0 m1
 obtain⟨z0,z1,z2,z3,z4⟩:=cp5_ BX.out;obtain⟨v0,v1,v2,v3,v4⟩:=fz5_ BX.out
 refine hK.out _ _ hHeld2.out (fun hHeld=>?_)
 clear hK K
 refine nS (some 5) ?_
 refine lS HT_ 13 (none) (fun K hK=>?_)
 obtain⟨vs,hvs⟩:∃ vs:List Value,vs=[.int .i64 b.f0,.int .i64 b.f1,.int .i64 b.f2,.bool b.f3,.bool b.f4]:=⟨_,rfl⟩
 refine skip_ (w1:=sets wx gx 0 vs) (by rfl) rfl (by subst hvs;first|(go_simp;done)|(go_simp;rfl)) ?_
 clear hHeld hHeld2 z0 v0 z1 v1 z2 v2 z3 v3 z4 v4
 refine hK.out _ _ ?_
 clear hK K
 refine dS HT_ ?_
 replace BX:=A_ (sets_blk vs BX.out (by rw[hvs];rfl));replace HO:=A_ (HO.out.sets G0.out NX.out vs 0);replace HK:=A_ (keep_sets HK.out GX.out vs 0);generalize sets wx gx 0 vs=wy at*;subst hvs
 obtain⟨x0,x1,x2,x3,x4⟩:=cp5_ BX.out
 have c10f:=HO.out.cell10
 go_upto_region 4 with (fail)
 go_quiet (fail)
 replace HO:=A_ (HO.out.drewN nq);replace HK:=A_ (keep_drewN HK.out nq);replace BX:=A_ (blk_drewN BX.out nq);clear x0 x1 x2 x3 x4 c10f;generalize wy.drewN nq=wq at*;obtain⟨x0,x1,x2,x3,x4⟩:=cp5_ BX.out
 have c10f:=HO.out.cell10
 obtain⟨_,e_,sx⟩:=HO.out.stk _ x HX.out;cases e_
 clear BX x0 x1 x2 x3 x4
 go_wp2
 go_quiet (fail)
 replace HO:=A_ (HO.out.drewN nq);replace HK:=A_ (keep_drewN HK.out nq);clear c10f sx;generalize wq.drewN nq=wr at*
 have c10f:=HO.out.cell10;have f10:=HO.out.frozen 10
 go_wp2
 go_still_tail 14,(by kernel_rfl)
 change wpList _ _ _ _ _ wr.drew
 replace HO:=A_ (HO.out.drew);replace HK:=A_ (keep_drew HK.out);clear c10f f10;generalize wr.drew=wt at*
 have c10f:=HO.out.cell10;have f10:=HO.out.frozen 10
 go_upto_region 10 with (fail)
 replace HO:=A_ (HO.out.cutS (c.st.length - 1) HL.out);replace HK:=A_ (HK.out.set_ 10 (.slice (some ⟨gA,0,none⟩) (c.st.length - 1) n1));clear c10f f10;generalize wt.setCell ⟨g,10,none⟩ (.slice (some ⟨gA,0,none⟩) (c.st.length - 1) n1)=wu at*
 by_cases k1:x=want
 ·
  have b1:(x !=want)=false:=bne_eq_false_iff_eq.2 k1
  rw[if_neg (show ¬(x≠want∧x≠1∧want≠1) from(fun h=>h.1 k1))] at hr2
  by_cases k9:x=1
  ·
   rw[if_pos k9] at hr2
   simp only[Option.some.injEq,Prod.mk.injEq] at hr2
   obtain⟨rfl,rfl⟩:=hr2
   have b9:(x==1)=true:=beq_iff_eq.2 k9
   clear k9
   go_wp2
   go_ret
   exact⟨rfl,HO.out,HK.out⟩
  rw[if_neg k9] at hr2
  simp only[Option.some.injEq,Prod.mk.injEq] at hr2
  obtain⟨rfl,rfl⟩:=hr2
  have b9:(x==1)=false:=beq_eq_false_iff_ne.2 k9
  clear k9
  go_wp2
  go_ret
  exact⟨rfl,HO.out,HK.out⟩
 have b1:(x !=want)=true:=bne_iff_ne.2 k1
 by_cases k2:x=1
 ·
  have b2:(x !=1)=false:=bne_eq_false_iff_eq.2 k2
  rw[if_neg (show ¬(x≠want∧x≠1∧want≠1) from(fun h=>h.2.1 k2))] at hr2
  by_cases k9:x=1
  ·
   rw[if_pos k9] at hr2
   simp only[Option.some.injEq,Prod.mk.injEq] at hr2
   obtain⟨rfl,rfl⟩:=hr2
   have b9:(x==1)=true:=beq_iff_eq.2 k9
   clear k9
   go_wp2
   go_ret
   exact⟨rfl,HO.out,HK.out⟩
  exact absurd k2 k9
 have b2:(x !=1)=true:=bne_iff_ne.2 k2
 by_cases k3:want=1
 ·
  have b3:(want !=1)=false:=bne_eq_false_iff_eq.2 k3
  rw[if_neg (show ¬(x≠want∧x≠1∧want≠1) from(fun h=>h.2.2 k3))] at hr2
  by_cases k9:x=1
  ·
   exact absurd k9 k2
  rw[if_neg k9] at hr2
  simp only[Option.some.injEq,Prod.mk.injEq] at hr2
  obtain⟨rfl,rfl⟩:=hr2
  have b9:(x==1)=false:=beq_eq_false_iff_ne.2 k9
  clear k9
  go_wp2
  go_ret
  exact⟨rfl,HO.out,HK.out⟩
 have b3:(want !=1)=true:=bne_iff_ne.2 k3
 rw[if_pos (show x≠want∧x≠1∧want≠1 from ⟨k1,k2,k3⟩)] at hr2
 by_cases k9:x=1
 ·
  exact absurd k9 k2
 rw[if_neg k9] at hr2
 simp only[Option.some.injEq,Prod.mk.injEq] at hr2
 obtain⟨rfl,rfl⟩:=hr2
 have b9:(x==1)=false:=beq_eq_false_iff_ne.2 k9
 clear k9
 go_wp2_with (first|(go_at_call 77;refine(bad_any w0 _ g q _ 3 _ n1 _ n2 HO.out).mono ?_;rintro e w5 ⟨rfl,hO,hK⟩;replace HO:=A_ hO;replace HK:=A_ (HK.out.trans hK (.inl rfl));clear hO hK))
 go_ret
 exact⟨rfl,HO.out,HK.out⟩


/-! ### spec_l7S_close: function 76 (walked by hand) -/
def closeS (c:CS S131):Option (CS S131):=(c.sp[c.sp.length - 1]?).bind fun b=>(takeS c b.f1).bind fun r=>some (if r.1.fa=0∧(r.1.st.length:Int)≠b.f2 then r.1.fail 2 else r.1)
def spec_l7close.T0:Bool × List (List Nat × List Nat):=(true,[([],[]),([0],[0]),([1],[1]),([2],[2]),([],[]),([4],[4]),([5],[5]),([6],[6]),([7],[7]),([8],[8]),([3,9],[3,9]),([10],[10]),([],[]),([12,11,0,1,2,3,4,5,6,7,8,9,10,11,12],[11,12])])
def spec_l7close.B0:List Nat:=[0,1,3,7,0,16,48,112,240,496,1023,2047,0,8191]
theorem spec_l7close.tab0:rtab .any (opsOf Try.f76 0)=spec_l7close.T0:=by kernel_rfl
theorem spec_l7close.bits0:waitsOk spec_l7close.T0.2 spec_l7close.B0=true:=by kernel_rfl
theorem sclose_any (w0 w:World) (g:Nat) (q:Nat→Value) (c c':CS S131) (A:Option Addr) (n1:Nat) (B:Option Addr) (n2:Nat) (h:Cs w0 w g q c A n1 B n2) (hr:closeS c=some c'):
  Calls Try.prog 76 #[.pointer (some ⟨g,0,none⟩)] w fun e w'=>e=.returned (.tuple #[])∧Cs w0 w' g q c' A n1 B n2∧KeepBut w w' g none:=by
 have HO:=A_ h
 have HK:=A_ (KeepBut.refl w g none)
 have hu91:=Try.underlying131
 obtain⟨b,hb,hr1⟩:=Option.bind_eq_some_iff.1 hr
 obtain⟨⟨c1,t⟩,ht,hr2⟩:=Option.bind_eq_some_iff.1 hr1
 have hr3:=Option.some.inj hr2
 have HT:=A_ ht
 have hp:0<c.sp.length:=by have:=(List.getElem?_eq_some_iff.1 hb).1;omega
 obtain⟨gB,rfl,_,s0,s1,s2,s3,s4,_⟩:=h.span _ b hb
 have c3:=HO.out.cell11
 have hm:=h.lenP.1
 have e1:IntKind.i64.wrap ((c.sp.length:Int) - 1)=((c.sp.length - 1:Nat):Int):=by rw[show ((c.sp.length:Int) - 1)=((c.sp.length - 1:Nat):Int) by omega];exact IntWalk.i64_in _ (by omega)
 have q1:(0:Int)≤((c.sp.length - 1:Nat):Int):=by omega
 have q2:((c.sp.length - 1:Nat):Int)<(c.sp.length:Int):=by omega
 clear hr hr1 hr2 ht hb hp hm h
 by_cases k1:c1.fa=0
 ·
  have b1:(c1.fa==0)=true:=beq_iff_eq.2 k1
  by_cases k2:(c1.st.length:Int)≠b.f2
  ·
   have b2:((c1.st.length:Int) !=b.f2)=true:=bne_iff_ne.2 k2
   rw[if_pos ⟨k1,k2⟩] at hr3
   subst hr3
   clear k1 k2
   go_enter Try.func76,Try.ntmps76
   go_upto_region 0 with (fail)
   refine sS 14 (fun w'=>w'.cell? ⟨g,11,none⟩=some (.slice (some ⟨gB,0,none⟩) c.sp.length n2)∧w'.cell? ⟨gB,(c.sp.length - 1)*5,none⟩=some (.int .i64 b.f0)∧w'.cell? ⟨gB,(c.sp.length - 1)*5+1,none⟩=some (.int .i64 b.f1)∧w'.cell? ⟨gB,(c.sp.length - 1)*5+2,none⟩=some (.int .i64 b.f2)∧w'.cell? ⟨gB,(c.sp.length - 1)*5+3,none⟩=some (.bool b.f3)∧w'.cell? ⟨gB,(c.sp.length - 1)*5+4,none⟩=some (.bool b.f4)) [13] ⟨c3,s0,s1,s2,s3,s4⟩ spec_l7close.tab0 spec_l7close.bits0 (fun hHeld HT_ HW_=>?_)
   replace HO:=A_ HO.out.drew;replace HK:=A_ (keep_drew HK.out);clear c3 s0 s1 s2 s3 s4;generalize w.drew=wd at*
   refine pS HT_ 0 3 ?_
   refine pS HT_ 1 4 ?_
   refine pS HT_ 2 5 ?_
   refine pS HT_ 4 7 ?_
   refine pS HT_ 5 8 ?_
   refine pS HT_ 6 9 ?_
   refine tS HT_ HW_ 3 6 hHeld ?_
   refine tS HT_ HW_ 7 10 hHeld ?_
   refine pS HT_ 8 11 ?_
   refine pS HT_ 9 12 ?_
   refine pS HT_ 10 13 ?_
   refine tS HT_ HW_ 11 14 hHeld ?_
   refine oS HT_ 12 (some 2) (fun K hK=>?_)
   refine box_step (by rfl) (N:=2) ?hd (cs:=#[(.int .i64 0),(.int .i64 0),(.int .i64 0),(.bool false),(.bool false)]) (t:=131) ?hr ?_;(case hd=>rfl);(case hr=>first|(go_simp;done)|(go_simp;rfl))
   intro gx hg wx hbox hb
   have BX:=A_ hbox;have GX:=A_ (show w.heap.size≤gx from by rw[hg];exact HK.out.1);have NX:=A_ (HO.out.fresh_ne hg);have G0:=A_ (Nat.le_trans HO.out.2.1.size (Nat.le_of_eq hg.symm));have m0:=A_ (HO.out.below hb);have m1:=A_ (HK.out.trans (KeepBut.of_below hb g none) (.inl rfl))
   obtain⟨s0_,s1_,s2_,s3_,s4_,s5_⟩:=hHeld
   have hHeld2:=A_ (And.intro (cl_ hb s0_) (And.intro (cl_ hb s1_) (And.intro (cl_ hb s2_) (And.intro (cl_ hb s3_) (And.intro (cl_ hb s4_) (cl_ hb s5_))))))
   clear HO HK hbox hb hg s0_ s1_ s2_ s3_ s4_ s5_;have HO:=m0;have HK:=m1;clear m0 m1
   obtain⟨z0,z1,z2,z3,z4⟩:=cp5_ BX.out;obtain⟨v0,v1,v2,v3,v4⟩:=fz5_ BX.out
   refine hK.out _ _ hHeld2.out (fun hHeld=>?_)
   clear hK K
   refine nS (some 2) ?_
   refine lS HT_ 13 (none) (fun K hK=>?_)
   obtain⟨vs,hvs⟩:∃ vs:List Value,vs=[.int .i64 b.f0,.int .i64 b.f1,.int .i64 b.f2,.bool b.f3,.bool b.f4]:=⟨_,rfl⟩
   refine skip_ (w1:=sets wx gx 0 vs) (by rfl) rfl (by subst hvs;first|(go_simp;done)|(go_simp;rfl)) ?_
   clear hHeld hHeld2 z0 v0 z1 v1 z2 v2 z3 v3 z4 v4
   refine hK.out _ _ ?_
   clear hK K
   refine dS HT_ ?_
   replace BX:=A_ (sets_blk vs BX.out (by rw[hvs];rfl));replace HO:=A_ (HO.out.sets G0.out NX.out vs 0);replace HK:=A_ (keep_sets HK.out GX.out vs 0);generalize sets wx gx 0 vs=wy at*;subst hvs
   obtain⟨x0,x1,x2,x3,x4⟩:=cp5_ BX.out
   go_upto_region 2 with (first|(go_at_call 74;refine(stake_any b.f1 t w0 _ g q _ c1 A n1 _ n2 HO.out HT.out).mono ?_;rintro e w5 ⟨rfl,hO,hK⟩;replace HO:=A_ hO;replace HK:=A_ (HK.out.trans hK (.inl rfl));replace BX:=A_ (KeepBut.blk hK BX.out NX.out.1 (by simp));clear x0 x1 x2 x3 x4 hO hK;obtain⟨x0,x1,x2,x3,x4⟩:=cp5_ BX.out))
   have c10f:=HO.out.cell10;have c12f:=HO.out.cell12
   go_quiet (fail)
   replace HO:=A_ (HO.out.drewN nq);replace HK:=A_ (keep_drewN HK.out nq);replace BX:=A_ (blk_drewN BX.out nq);clear x0 x1 x2 x3 x4 c10f c12f;generalize w5.drewN nq=wq at*;obtain⟨x0,x1,x2,x3,x4⟩:=cp5_ BX.out
   go_wp2_with (first|(go_at_call 77;refine(bad_any w0 _ g q _ 2 _ n1 _ n2 HO.out).mono ?_;rintro e w5 ⟨rfl,hO,hK⟩;replace HO:=A_ hO;replace HK:=A_ (HK.out.trans hK (.inl rfl));clear hO hK))
   first|go_end0|((try simp only[Exit.inBlock,Exit.then]);refine rt_ ?_)
   exact⟨rfl,HO.out,HK.out⟩
  have b2:((c1.st.length:Int) !=b.f2)=false:=bne_eq_false_iff_eq.2 (Classical.not_not.1 k2)
  rw[if_neg (fun e=>k2 e.2)] at hr3
  subst hr3
  clear k1 k2
  go_enter Try.func76,Try.ntmps76
  go_upto_region 0 with (fail)
  refine sS 14 (fun w'=>w'.cell? ⟨g,11,none⟩=some (.slice (some ⟨gB,0,none⟩) c.sp.length n2)∧w'.cell? ⟨gB,(c.sp.length - 1)*5,none⟩=some (.int .i64 b.f0)∧w'.cell? ⟨gB,(c.sp.length - 1)*5+1,none⟩=some (.int .i64 b.f1)∧w'.cell? ⟨gB,(c.sp.length - 1)*5+2,none⟩=some (.int .i64 b.f2)∧w'.cell? ⟨gB,(c.sp.length - 1)*5+3,none⟩=some (.bool b.f3)∧w'.cell? ⟨gB,(c.sp.length - 1)*5+4,none⟩=some (.bool b.f4)) [13] ⟨c3,s0,s1,s2,s3,s4⟩ spec_l7close.tab0 spec_l7close.bits0 (fun hHeld HT_ HW_=>?_)
  replace HO:=A_ HO.out.drew;replace HK:=A_ (keep_drew HK.out);clear c3 s0 s1 s2 s3 s4;generalize w.drew=wd at*
  refine pS HT_ 0 3 ?_
  refine pS HT_ 1 4 ?_
  refine pS HT_ 2 5 ?_
  refine pS HT_ 4 7 ?_
  refine pS HT_ 5 8 ?_
  refine pS HT_ 6 9 ?_
  refine tS HT_ HW_ 3 6 hHeld ?_
  refine tS HT_ HW_ 7 10 hHeld ?_
  refine pS HT_ 8 11 ?_
  refine pS HT_ 9 12 ?_
  refine pS HT_ 10 13 ?_
  refine tS HT_ HW_ 11 14 hHeld ?_
  refine oS HT_ 12 (some 2) (fun K hK=>?_)
  refine box_step (by rfl) (N:=2) ?hd (cs:=#[(.int .i64 0),(.int .i64 0),(.int .i64 0),(.bool false),(.bool false)]) (t:=131) ?hr ?_;(case hd=>rfl);(case hr=>first|(go_simp;done)|(go_simp;rfl))
  intro gx hg wx hbox hb
  have BX:=A_ hbox;have GX:=A_ (show w.heap.size≤gx from by rw[hg];exact HK.out.1);have NX:=A_ (HO.out.fresh_ne hg);have G0:=A_ (Nat.le_trans HO.out.2.1.size (Nat.le_of_eq hg.symm));have m0:=A_ (HO.out.below hb);have m1:=A_ (HK.out.trans (KeepBut.of_below hb g none) (.inl rfl))
  obtain⟨s0_,s1_,s2_,s3_,s4_,s5_⟩:=hHeld
  have hHeld2:=A_ (And.intro (cl_ hb s0_) (And.intro (cl_ hb s1_) (And.intro (cl_ hb s2_) (And.intro (cl_ hb s3_) (And.intro (cl_ hb s4_) (cl_ hb s5_))))))
  clear HO HK hbox hb hg s0_ s1_ s2_ s3_ s4_ s5_;have HO:=m0;have HK:=m1;clear m0 m1
  obtain⟨z0,z1,z2,z3,z4⟩:=cp5_ BX.out;obtain⟨v0,v1,v2,v3,v4⟩:=fz5_ BX.out
  refine hK.out _ _ hHeld2.out (fun hHeld=>?_)
  clear hK K
  refine nS (some 2) ?_
  refine lS HT_ 13 (none) (fun K hK=>?_)
  obtain⟨vs,hvs⟩:∃ vs:List Value,vs=[.int .i64 b.f0,.int .i64 b.f1,.int .i64 b.f2,.bool b.f3,.bool b.f4]:=⟨_,rfl⟩
  refine skip_ (w1:=sets wx gx 0 vs) (by rfl) rfl (by subst hvs;first|(go_simp;done)|(go_simp;rfl)) ?_
  clear hHeld hHeld2 z0 v0 z1 v1 z2 v2 z3 v3 z4 v4
  refine hK.out _ _ ?_
  clear hK K
  refine dS HT_ ?_
  replace BX:=A_ (sets_blk vs BX.out (by rw[hvs];rfl));replace HO:=A_ (HO.out.sets G0.out NX.out vs 0);replace HK:=A_ (keep_sets HK.out GX.out vs 0);generalize sets wx gx 0 vs=wy at*;subst hvs
  obtain⟨x0,x1,x2,x3,x4⟩:=cp5_ BX.out
  go_upto_region 2 with (first|(go_at_call 74;refine(stake_any b.f1 t w0 _ g q _ c1 A n1 _ n2 HO.out HT.out).mono ?_;rintro e w5 ⟨rfl,hO,hK⟩;replace HO:=A_ hO;replace HK:=A_ (HK.out.trans hK (.inl rfl));replace BX:=A_ (KeepBut.blk hK BX.out NX.out.1 (by simp));clear x0 x1 x2 x3 x4 hO hK;obtain⟨x0,x1,x2,x3,x4⟩:=cp5_ BX.out))
  have c10f:=HO.out.cell10;have c12f:=HO.out.cell12
  go_quiet (fail)
  replace HO:=A_ (HO.out.drewN nq);replace HK:=A_ (keep_drewN HK.out nq);replace BX:=A_ (blk_drewN BX.out nq);clear x0 x1 x2 x3 x4 c10f c12f;generalize w5.drewN nq=wq at*;obtain⟨x0,x1,x2,x3,x4⟩:=cp5_ BX.out
  go_wp2
  first|go_end0|((try simp only[Exit.inBlock,Exit.then]);refine rt_ ?_)
  exact⟨rfl,HO.out,HK.out⟩
 have b1:(c1.fa==0)=false:=beq_eq_false_iff_ne.2 k1
 rw[if_neg (fun e=>k1 e.1)] at hr3
 subst hr3
 clear k1
 go_enter Try.func76,Try.ntmps76
 go_upto_region 0 with (fail)
 refine sS 14 (fun w'=>w'.cell? ⟨g,11,none⟩=some (.slice (some ⟨gB,0,none⟩) c.sp.length n2)∧w'.cell? ⟨gB,(c.sp.length - 1)*5,none⟩=some (.int .i64 b.f0)∧w'.cell? ⟨gB,(c.sp.length - 1)*5+1,none⟩=some (.int .i64 b.f1)∧w'.cell? ⟨gB,(c.sp.length - 1)*5+2,none⟩=some (.int .i64 b.f2)∧w'.cell? ⟨gB,(c.sp.length - 1)*5+3,none⟩=some (.bool b.f3)∧w'.cell? ⟨gB,(c.sp.length - 1)*5+4,none⟩=some (.bool b.f4)) [13] ⟨c3,s0,s1,s2,s3,s4⟩ spec_l7close.tab0 spec_l7close.bits0 (fun hHeld HT_ HW_=>?_)
 replace HO:=A_ HO.out.drew;replace HK:=A_ (keep_drew HK.out);clear c3 s0 s1 s2 s3 s4;generalize w.drew=wd at*
 refine pS HT_ 0 3 ?_
 refine pS HT_ 1 4 ?_
 refine pS HT_ 2 5 ?_
 refine pS HT_ 4 7 ?_
 refine pS HT_ 5 8 ?_
 refine pS HT_ 6 9 ?_
 refine tS HT_ HW_ 3 6 hHeld ?_
 refine tS HT_ HW_ 7 10 hHeld ?_
 refine pS HT_ 8 11 ?_
 refine pS HT_ 9 12 ?_
 refine pS HT_ 10 13 ?_
 refine tS HT_ HW_ 11 14 hHeld ?_
 refine oS HT_ 12 (some 2) (fun K hK=>?_)
 refine box_step (by rfl) (N:=2) ?hd (cs:=#[(.int .i64 0),(.int .i64 0),(.int .i64 0),(.bool false),(.bool false)]) (t:=131) ?hr ?_;(case hd=>rfl);(case hr=>first|(go_simp;done)|(go_simp;rfl))
 intro gx hg wx hbox hb
 have BX:=A_ hbox;have GX:=A_ (show w.heap.size≤gx from by rw[hg];exact HK.out.1);have NX:=A_ (HO.out.fresh_ne hg);have G0:=A_ (Nat.le_trans HO.out.2.1.size (Nat.le_of_eq hg.symm));have m0:=A_ (HO.out.below hb);have m1:=A_ (HK.out.trans (KeepBut.of_below hb g none) (.inl rfl))
 obtain⟨s0_,s1_,s2_,s3_,s4_,s5_⟩:=hHeld
 have hHeld2:=A_ (And.intro (cl_ hb s0_) (And.intro (cl_ hb s1_) (And.intro (cl_ hb s2_) (And.intro (cl_ hb s3_) (And.intro (cl_ hb s4_) (cl_ hb s5_))))))
 clear HO HK hbox hb hg s0_ s1_ s2_ s3_ s4_ s5_;have HO:=m0;have HK:=m1;clear m0 m1
 obtain⟨z0,z1,z2,z3,z4⟩:=cp5_ BX.out;obtain⟨v0,v1,v2,v3,v4⟩:=fz5_ BX.out
 refine hK.out _ _ hHeld2.out (fun hHeld=>?_)
 clear hK K
 refine nS (some 2) ?_
 refine lS HT_ 13 (none) (fun K hK=>?_)
 obtain⟨vs,hvs⟩:∃ vs:List Value,vs=[.int .i64 b.f0,.int .i64 b.f1,.int .i64 b.f2,.bool b.f3,.bool b.f4]:=⟨_,rfl⟩
 refine skip_ (w1:=sets wx gx 0 vs) (by rfl) rfl (by subst hvs;first|(go_simp;done)|(go_simp;rfl)) ?_
 clear hHeld hHeld2 z0 v0 z1 v1 z2 v2 z3 v3 z4 v4
 refine hK.out _ _ ?_
 clear hK K
 refine dS HT_ ?_
 replace BX:=A_ (sets_blk vs BX.out (by rw[hvs];rfl));replace HO:=A_ (HO.out.sets G0.out NX.out vs 0);replace HK:=A_ (keep_sets HK.out GX.out vs 0);generalize sets wx gx 0 vs=wy at*;subst hvs
 obtain⟨x0,x1,x2,x3,x4⟩:=cp5_ BX.out
 go_upto_region 2 with (first|(go_at_call 74;refine(stake_any b.f1 t w0 _ g q _ c1 A n1 _ n2 HO.out HT.out).mono ?_;rintro e w5 ⟨rfl,hO,hK⟩;replace HO:=A_ hO;replace HK:=A_ (HK.out.trans hK (.inl rfl));replace BX:=A_ (KeepBut.blk hK BX.out NX.out.1 (by simp));clear x0 x1 x2 x3 x4 hO hK;obtain⟨x0,x1,x2,x3,x4⟩:=cp5_ BX.out))
 have c10f:=HO.out.cell10;have c12f:=HO.out.cell12
 go_quiet (fail)
 replace HO:=A_ (HO.out.drewN nq);replace HK:=A_ (keep_drewN HK.out nq);replace BX:=A_ (blk_drewN BX.out nq);clear x0 x1 x2 x3 x4 c10f c12f;generalize w5.drewN nq=wq at*;obtain⟨x0,x1,x2,x3,x4⟩:=cp5_ BX.out
 go_wp2
 first|go_end0|((try simp only[Exit.inBlock,Exit.then]);refine rt_ ?_)
 exact⟨rfl,HO.out,HK.out⟩


/-! ### spec_l7S_wants: function 78 (walked by hand) -/
def wantsS (c:CS S131) (a:Int):Option (CS S131 × Int):=if (c.sp.length:Int)≤a then some (c.fail 4,64) else if 0≤a then (c.sp[c.sp.length - 1 - a.toNat]?).bind fun b=>some (c,if b.f0=3 then 64 else b.f1) else none
def spec_l7wants.T4:Bool × List (List Nat × List Nat):=(true,[([],[]),([0],[0]),([1],[1]),([2],[2]),([],[]),([4],[4]),([5],[5]),([6],[6]),([7],[7]),([8],[8]),([],[]),([9,10],[9,10]),([3,11],[3,11]),([12],[12]),([],[]),([14,13,0,1,2,3,4,5,6,7,8,9,10,11,12,13,14],[13,14])])
def spec_l7wants.B4:List Nat:=[0,1,3,7,0,16,48,112,240,496,0,2032,4095,8191,0,32767]
theorem spec_l7wants.tab4:rtab .any (opsOf Try.f78 4)=spec_l7wants.T4:=by kernel_rfl
theorem spec_l7wants.bits4:waitsOk spec_l7wants.T4.2 spec_l7wants.B4=true:=by kernel_rfl
theorem swants_any (a t:Int) (w0 w:World) (g:Nat) (q:Nat→Value) (c c':CS S131) (A:Option Addr) (n1:Nat) (B:Option Addr) (n2:Nat) (h:Cs w0 w g q c A n1 B n2) (hr:wantsS c a=some (c',t)):
  Calls Try.prog 78 #[.pointer (some ⟨g,0,none⟩),.int .i64 a] w fun e w'=>e=.returned (.int .i64 t)∧Cs w0 w' g q c' A n1 B n2∧KeepBut w w' g none:=by
 have HO:=A_ h
 have HK:=A_ (KeepBut.refl w g none)
 have c3:=h.cell11
 have hu91:=Try.underlying131
 unfold wantsS at hr
 by_cases cl:(c.sp.length:Int)≤a
 ·
  rw[if_pos cl] at hr
  simp only[Option.some.injEq,Prod.mk.injEq] at hr
  obtain⟨rfl,rfl⟩:=hr
  have cb:=decide_eq_true cl
  clear cl h
  go_enter Try.func78,Try.ntmps78
  go_wp2_with (first|(go_at_call 77;refine(bad_any w0 _ g q _ 4 A n1 B n2 HO.out).mono ?_;rintro e w5 ⟨rfl,hO,hK⟩;replace HO:=A_ hO;replace HK:=A_ (HK.out.trans hK (.inl rfl));clear hO hK))
  go_ret
  exact⟨rfl,HO.out,HK.out⟩
 rw[if_neg cl] at hr
 by_cases ca:0≤a
 ·
  rw[if_pos ca] at hr
  obtain⟨b,hb,hr1⟩:=Option.bind_eq_some_iff.1 hr
  simp only[Option.some.injEq,Prod.mk.injEq] at hr1
  obtain⟨rfl,ht⟩:=hr1
  have HT:=A_ ht
  have cb:=decide_eq_false cl
  obtain⟨an,rfl⟩:=Int.eq_ofNat_of_zero_le ca
  rw[Int.toNat_natCast] at hb
  have cbn:decide (c.sp.length≤an)=false:=decide_eq_false (by omega)
  have hm:=h.lenP.1
  obtain⟨gB,rfl,_,s0,s1,s2,s3,s4,sf⟩:=h.span _ b hb
  have e1:IntKind.i64.wrap ((c.sp.length:Int) - 1)=((c.sp.length - 1:Nat):Int):=by rw[show ((c.sp.length:Int) - 1)=((c.sp.length - 1:Nat):Int) by omega];exact IntWalk.i64_in _ (by omega)
  have e2:IntKind.i64.wrap (((c.sp.length - 1:Nat):Int) - (an:Int))=((c.sp.length - 1 - an:Nat):Int):=by rw[show (((c.sp.length - 1:Nat):Int) - (an:Int))=((c.sp.length - 1 - an:Nat):Int) by omega];exact IntWalk.i64_in _ (by omega)
  have q1:(0:Int)≤((c.sp.length - 1 - an:Nat):Int):=by omega
  have q2:((c.sp.length - 1 - an:Nat):Int)<(c.sp.length:Int):=by omega
  clear cl ca hr h hb hm ht
  go_enter Try.func78,Try.ntmps78
  go_upto_region 4 with (fail)
  refine sS 16 (fun w'=>w'.cell? ⟨g,11,none⟩=some (.slice (some ⟨gB,0,none⟩) c.sp.length n2)∧w'.cell? ⟨gB,(c.sp.length - 1 - an)*5,none⟩=some (.int .i64 b.f0)∧w'.cell? ⟨gB,(c.sp.length - 1 - an)*5+1,none⟩=some (.int .i64 b.f1)∧w'.cell? ⟨gB,(c.sp.length - 1 - an)*5+2,none⟩=some (.int .i64 b.f2)∧w'.cell? ⟨gB,(c.sp.length - 1 - an)*5+3,none⟩=some (.bool b.f3)∧w'.cell? ⟨gB,(c.sp.length - 1 - an)*5+4,none⟩=some (.bool b.f4)) [15] ⟨c3,s0,s1,s2,s3,s4⟩ spec_l7wants.tab4 spec_l7wants.bits4 (fun hHeld HT_ HW_=>?_)
  replace HO:=A_ HO.out.drew;replace HK:=A_ (keep_drew HK.out);clear c3 s0 s1 s2 s3 s4;generalize w.drew=wd at*
  refine pS HT_ 0 15 ?_
  refine pS HT_ 1 16 ?_
  refine pS HT_ 2 17 ?_
  refine pS HT_ 4 19 ?_
  refine pS HT_ 5 20 ?_
  refine pS HT_ 6 21 ?_
  refine pS HT_ 10 25 ?_
  refine tS HT_ HW_ 3 18 hHeld ?_
  refine tS HT_ HW_ 7 22 hHeld ?_
  refine pS HT_ 8 23 ?_
  refine pS HT_ 9 24 ?_
  refine pS HT_ 11 26 ?_
  refine pS HT_ 12 27 ?_
  refine tS HT_ HW_ 13 28 hHeld ?_
  refine oS HT_ 14 (some 5) (fun K hK=>?_)
  refine box_step (by rfl) (N:=5) ?hd (cs:=#[(.int .i64 0),(.int .i64 0),(.int .i64 0),(.bool false),(.bool false)]) (t:=131) ?hr ?_;(case hd=>rfl);(case hr=>first|(go_simp;done)|(go_simp;rfl))
  intro gx hg wx hbox hb
  have BX:=A_ hbox;have GX:=A_ (show w.heap.size≤gx from by rw[hg];exact HK.out.1);have NX:=A_ (HO.out.fresh_ne hg);have G0:=A_ (Nat.le_trans HO.out.2.1.size (Nat.le_of_eq hg.symm));have m0:=A_ (HO.out.below hb);have m1:=A_ (HK.out.trans (KeepBut.of_below hb g none) (.inl rfl))
  obtain⟨s0_,s1_,s2_,s3_,s4_,s5_⟩:=hHeld
  have hHeld2:=A_ (And.intro (cl_ hb s0_) (And.intro (cl_ hb s1_) (And.intro (cl_ hb s2_) (And.intro (cl_ hb s3_) (And.intro (cl_ hb s4_) (cl_ hb s5_))))))
  clear HO HK hbox hb hg s0_ s1_ s2_ s3_ s4_ s5_;have HO:=m0;have HK:=m1;clear m0 m1
  obtain⟨z0,z1,z2,z3,z4⟩:=cp5_ BX.out;obtain⟨v0,v1,v2,v3,v4⟩:=fz5_ BX.out
  refine hK.out _ _ hHeld2.out (fun hHeld=>?_)
  clear hK K
  refine nS (some 5) ?_
  refine lS HT_ 15 (none) (fun K hK=>?_)
  obtain⟨vs,hvs⟩:∃ vs:List Value,vs=[.int .i64 b.f0,.int .i64 b.f1,.int .i64 b.f2,.bool b.f3,.bool b.f4]:=⟨_,rfl⟩
  refine skip_ (w1:=sets wx gx 0 vs) (by rfl) rfl (by subst hvs;first|(go_simp;done)|(go_simp;rfl)) ?_
  clear hHeld hHeld2 z0 v0 z1 v1 z2 v2 z3 v3 z4 v4
  refine hK.out _ _ ?_
  clear hK K
  refine dS HT_ ?_
  replace BX:=A_ (sets_blk vs BX.out (by rw[hvs];rfl));replace HO:=A_ (HO.out.sets G0.out NX.out vs 0);replace HK:=A_ (keep_sets HK.out GX.out vs 0);generalize sets wx gx 0 vs=wy at*;subst hvs
  obtain⟨x0,x1,x2,x3,x4⟩:=cp5_ BX.out
  by_cases c3b:b.f0=3
  ·
   have ee:=HT.out.symm.trans (if_pos c3b)
   have cb2:(b.f0==3)=true:=beq_iff_eq.2 c3b
   clear c3b HT
   go_wp2
   go_ret
   exact⟨by rw[ee];rfl,HO.out,HK.out⟩
  have ee:=HT.out.symm.trans (if_neg c3b)
  have cb2:(b.f0==3)=false:=beq_eq_false_iff_ne.2 c3b
  have EE:=A_ ee
  clear c3b HT ee
  go_wp2
  go_ret
  exact⟨by rw[EE.out];rfl,HO.out,HK.out⟩
 rw[if_neg ca] at hr;cases hr


/-! ### spec_l7S_memory: function 94 (walked by hand) -/
def turnS (c:CS S131) (a b:Int):Option (CS S131):=(takeS c a).bind fun r=>r.1.put b
theorem turn_any (a b:Int) (w0 w:World) (g:Nat) (q:Nat→Value) (c c':CS S131) (A:Option Addr) (n1:Nat) (B:Option Addr) (n2:Nat) (h:Cs w0 w g q c A n1 B n2) (hr:turnS c a b=some c'):
  Calls Try.prog 95 #[.pointer (some ⟨g,0,none⟩),.int .i64 a,.int .i64 b] w fun e w'=>e=.returned (.tuple #[])∧CsE w0 w' g q c':=by
 have HO:=A_ h
 have HK:=A_ (KeepBut.refl w g none)
 obtain⟨⟨c1,t⟩,h1,h2⟩:=Option.bind_eq_some_iff.1 hr
 have HT:=A_ h1;have HR:=A_ h2
 clear h hr h1 h2
 go_enter Try.func95,Try.ntmps95
 go_wp2_with (first|(go_at_call 74;refine(stake_any a t w0 _ g q _ c1 A n1 _ n2 HO.out HT.out).mono ?_;rintro e w5 ⟨rfl,hO,hK⟩;replace HO:=A_ hO;replace HK:=A_ (HK.out.trans hK (.inl rfl));clear hO hK)|(go_at_call 75;refine(sput_any b w0 _ g q _ c' A n1 _ n2 HO.out HR.out).mono ?_;rintro e w5 ⟨rfl,hE⟩;have HE:=A_ hE;clear hE))
 first|go_end0|((try simp only[Exit.inBlock,Exit.then]);refine rt_ ?_)
 exact⟨rfl,HE.out⟩
def memS (c:CS S131) (mem:Bool) (op:Int):Option (CS S131):=
 if mem=false then some (c.fail 6) else if op=40 then turnS c 127 127 else if op=41 then turnS c 127 126
 else if op=54 then (takeS c 127).bind fun r=>(takeS r.1 127).bind fun s=>some s.1
 else if op=55 then (takeS c 126).bind fun r=>(takeS r.1 127).bind fun s=>some s.1
 else if op=63 then c.put 127 else turnS c 127 127
theorem smem_any (mem:Bool) (op:Int) (w0 w:World) (g:Nat) (q:Nat→Value) (c c':CS S131) (A:Option Addr) (n1:Nat) (B:Option Addr) (n2:Nat) (h:Cs w0 w g q c A n1 B n2) (hm2:q 2=.bool mem) (hr:memS c mem op=some c'):
  Calls Try.prog 94 #[.pointer (some ⟨g,0,none⟩),.int .i64 op] w fun e w'=>e=.returned (.tuple #[])∧CsE w0 w' g q c':=by
 have HO:=A_ h
 have HK:=A_ (KeepBut.refl w g none)
 have c2f:=HO.out.cell2
 rw[hm2] at c2f
 clear h hm2
 unfold memS at hr
 cases mem with
 |false=>
  rw[if_pos rfl] at hr
  obtain rfl:=Option.some.inj hr
  go_enter Try.func94,Try.ntmps94
  go_wp2_with (first|(go_at_call 77;refine(bad_any w0 _ g q _ 6 A n1 _ n2 HO.out).mono ?_;rintro e w5 ⟨rfl,hO,hK⟩;replace HO:=A_ hO;replace HK:=A_ (HK.out.trans hK (.inl rfl));clear hO hK))
  first|go_end0|((try simp only[Exit.inBlock,Exit.then]);refine rt_ ?_)
  exact⟨rfl,_,_,_,_,HO.out⟩
 |true=>
  rw[if_neg (show ¬(true=false) from fun e=>by cases e)] at hr
  by_cases k40:op=40
  ·
   rw[if_pos k40] at hr
   have b40:(op==40)=true:=beq_iff_eq.2 k40
   have HR:=A_ hr
   clear hr
   go_enter Try.func94,Try.ntmps94
   go_wp2_with (first|(go_at_call 95;refine(turn_any 127 127 w0 _ g q _ c' A n1 _ n2 HO.out HR.out).mono ?_;rintro e w5 ⟨rfl,hE⟩;have HE:=A_ hE;clear hE))
   first|go_end0|((try simp only[Exit.inBlock,Exit.then]);refine rt_ ?_)
   exact⟨rfl,HE.out⟩
  rw[if_neg k40] at hr
  by_cases k57:op=41
  ·
   rw[if_pos k57] at hr
   have b40:(op==40)=false:=beq_eq_false_iff_ne.2 k40
   have b41:(op==41)=true:=beq_iff_eq.2 k57
   have HR:=A_ hr
   clear hr
   go_enter Try.func94,Try.ntmps94
   go_wp2_with (first|(go_at_call 95;refine(turn_any 127 126 w0 _ g q _ c' A n1 _ n2 HO.out HR.out).mono ?_;rintro e w5 ⟨rfl,hE⟩;have HE:=A_ hE;clear hE))
   first|go_end0|((try simp only[Exit.inBlock,Exit.then]);refine rt_ ?_)
   exact⟨rfl,HE.out⟩
  rw[if_neg k57] at hr
  by_cases k82:op=54
  ·
   rw[if_pos k82] at hr
   have b40:(op==40)=false:=beq_eq_false_iff_ne.2 k40
   have b41:(op==41)=false:=beq_eq_false_iff_ne.2 k57
   have b54:(op==54)=true:=beq_iff_eq.2 k82
   obtain⟨⟨c1,t⟩,h1,hr1⟩:=Option.bind_eq_some_iff.1 hr
   obtain⟨⟨c2,u⟩,h2,hr2⟩:=Option.bind_eq_some_iff.1 hr1
   obtain rfl:=Option.some.inj hr2
   have HT:=A_ h1;have HU:=A_ h2
   clear h1 h2 hr1 hr2 hr
   go_enter Try.func94,Try.ntmps94
   go_upto_region 10 with (first|(go_at_call 74;refine(stake_any 127 t w0 _ g q _ c1 A n1 _ n2 HO.out HT.out).mono ?_;rintro e w5 ⟨rfl,hO,hK⟩;replace HO:=A_ hO;replace HK:=A_ (HK.out.trans hK (.inl rfl));clear hO hK))
   go_wp2_with (first|(go_at_call 74;refine(stake_any 127 u w0 _ g q _ c2 A n1 _ n2 HO.out HU.out).mono ?_;rintro e w5 ⟨rfl,hO,hK⟩;replace HO:=A_ hO;replace HK:=A_ (HK.out.trans hK (.inl rfl));clear hO hK))
   first|go_end0|((try simp only[Exit.inBlock,Exit.then]);refine rt_ ?_)
   exact⟨rfl,_,_,_,_,HO.out⟩
  rw[if_neg k82] at hr
  by_cases k83:op=55
  ·
   rw[if_pos k83] at hr
   have b40:(op==40)=false:=beq_eq_false_iff_ne.2 k40
   have b41:(op==41)=false:=beq_eq_false_iff_ne.2 k57
   have b54:(op==54)=false:=beq_eq_false_iff_ne.2 k82
   have b55:(op==55)=true:=beq_iff_eq.2 k83
   obtain⟨⟨c1,t⟩,h1,hr1⟩:=Option.bind_eq_some_iff.1 hr
   obtain⟨⟨c2,u⟩,h2,hr2⟩:=Option.bind_eq_some_iff.1 hr1
   obtain rfl:=Option.some.inj hr2
   have HT:=A_ h1;have HU:=A_ h2
   clear h1 h2 hr1 hr2 hr
   go_enter Try.func94,Try.ntmps94
   go_upto_region 13 with (first|(go_at_call 74;refine(stake_any 126 t w0 _ g q _ c1 A n1 _ n2 HO.out HT.out).mono ?_;rintro e w5 ⟨rfl,hO,hK⟩;replace HO:=A_ hO;replace HK:=A_ (HK.out.trans hK (.inl rfl));clear hO hK))
   go_wp2_with (first|(go_at_call 74;refine(stake_any 127 u w0 _ g q _ c2 A n1 _ n2 HO.out HU.out).mono ?_;rintro e w5 ⟨rfl,hO,hK⟩;replace HO:=A_ hO;replace HK:=A_ (HK.out.trans hK (.inl rfl));clear hO hK))
   first|go_end0|((try simp only[Exit.inBlock,Exit.then]);refine rt_ ?_)
   exact⟨rfl,_,_,_,_,HO.out⟩
  rw[if_neg k83] at hr
  by_cases k75:op=63
  ·
   rw[if_pos k75] at hr
   have b40:(op==40)=false:=beq_eq_false_iff_ne.2 k40
   have b41:(op==41)=false:=beq_eq_false_iff_ne.2 k57
   have b54:(op==54)=false:=beq_eq_false_iff_ne.2 k82
   have b55:(op==55)=false:=beq_eq_false_iff_ne.2 k83
   have b63:(op==63)=true:=beq_iff_eq.2 k75
   have HR:=A_ hr
   clear hr
   go_enter Try.func94,Try.ntmps94
   go_wp2_with (first|(go_at_call 75;refine(sput_any 127 w0 _ g q _ c' A n1 _ n2 HO.out HR.out).mono ?_;rintro e w5 ⟨rfl,hE⟩;have HE:=A_ hE;clear hE))
   first|go_end0|((try simp only[Exit.inBlock,Exit.then]);refine rt_ ?_)
   exact⟨rfl,HE.out⟩
  rw[if_neg k75] at hr
  have b40:(op==40)=false:=beq_eq_false_iff_ne.2 k40
  have b41:(op==41)=false:=beq_eq_false_iff_ne.2 k57
  have b54:(op==54)=false:=beq_eq_false_iff_ne.2 k82
  have b55:(op==55)=false:=beq_eq_false_iff_ne.2 k83
  have b63:(op==63)=false:=beq_eq_false_iff_ne.2 k75
  have HR:=A_ hr
  clear hr
  go_enter Try.func94,Try.ntmps94
  go_wp2_with (first|(go_at_call 95;refine(turn_any 127 127 w0 _ g q _ c' A n1 _ n2 HO.out HR.out).mono ?_;rintro e w5 ⟨rfl,hE⟩;have HE:=A_ hE;clear hE))
  first|go_end0|((try simp only[Exit.inBlock,Exit.then]);refine rt_ ?_)
  exact⟨rfl,HE.out⟩
end Go.Proofs.Ytanhbfhmgmjdgaa.Q

