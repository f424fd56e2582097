-- Written by a program of this session; it walks the functions that the law reaches.
import Derived.Test.YtanhbfhmgmjdgaaQx0
import Derived.Test.YtanhbfhmgmjdgaaQx5
import Derived.Test.YtanhbfhmgmjdgaaQx17
namespace Go.Proofs.Ytanhbfhmgmjdgaa.Q
open Go.RowKit Go.Proofs.YtanhbfhmgmjdgaaW.PrintWords Go.Proofs.YtanhbfhmgmjdgaaW.PrintLast Go.Proofs.YtanhbfhmgmjdgaaW.PrintMore
attribute [local go_sem] max2_int min2_int max_two min_two max_three min_three max_four min_four   -- for this text's walks alone
set_option linter.unusedVariables false
set_option linter.unusedSimpArgs false
set_option maxRecDepth 100000
set_option maxHeartbeats 8000000


/-! ### impl_checker_close: function 83 (walked by hand) -/
def closeC (c:CS S101):Option (CS S101):=(c.sp[c.sp.length - 1]?).bind fun b=>(takeKC c b.f1).bind fun c1=>if b.f2<(c1.st.length:Int) then (if 0≤b.f2 then some {(c1.fail 2) with st:=c1.st.take b.f2.toNat} else none) else some c1
theorem close_any (w0 w:World) (g:Nat) (q:Nat→Value) (c c':CS S101) (A:Option Addr) (n1:Nat) (B:Option Addr) (n2:Nat) (h:Ck w0 w g q c A n1 B n2) (hr:closeC c=some c'):
  Calls Try.prog 83 #[.pointer (some ⟨g,0,none⟩)] w fun e w'=>e=.returned (.tuple #[])∧Ck w0 w' g q c' A n1 B n2∧KeepBut w w' g none:=by
 obtain⟨b,hb,hr1⟩:=Option.bind_eq_some_iff.1 hr
 obtain⟨c1,hk,hr2⟩:=Option.bind_eq_some_iff.1 hr1
 clear hr hr1
 have HP:=A_ (show 0<c.sp.length by have:=(List.getElem?_eq_some_iff.1 hb).1;omega)
 obtain⟨gB,rfl,_⟩:=h.span _ b hb
 have HBB:=A_ hb
 have HB1:=A_ (show c1.sp[c.sp.length - 1]? =some b by rw[takeKC_sp hk];exact hb)
 have HO:=A_ h
 have HK:=A_ (KeepBut.refl w g none)
 have HT:=A_ hk
 clear h hb hk
 by_cases cl:b.f2<(c1.st.length:Int)
 ·
  rw[if_pos cl] at hr2
  by_cases hz:0≤b.f2
  ·
   rw[if_pos hz] at hr2
   obtain rfl:=Option.some.inj hr2
   obtain⟨hh,hhe⟩:=Int.eq_ofNat_of_zero_le hz
   rw[show b.f2.toNat=hh by omega]
   have HH:=A_ hhe
   have HC:=A_ (show hh<c1.st.length by omega)
   have cb:decide ((hh:Int)<(c1.st.length:Int))=true:=decide_eq_true (by have:=HC.out;omega)
   have cbn:decide (hh<c1.st.length)=true:=decide_eq_true HC.out
   clear hr2 cl hz hhe
   go_enter Try.func83,Try.ntmps83
   go_upto_region 2 with (first|(go_at_call 84;refine(top_any w0 _ g q _ A n1 gB n2 HP.out HO.out).mono ?_;rintro e wt ⟨rfl,hd⟩;obtain⟨nd,hnd⟩:=hd;replace HO:=A_ (show Ck w0 wt g q _ _ n1 (some ⟨gB,0,none⟩) n2 from by rw[hnd];exact HO.out.drewN nd);replace HK:=A_ (show KeepBut w wt g none from by rw[hnd];exact keep_drewN HK.out nd);clear hnd;obtain⟨_,e_,_,_,s1,_,_,_,_⟩:=HO.out.span (c.sp.length - 1) b HBB.out;cases e_)|(go_at_call 85;refine(takeK_any b.f1 w0 _ g q _ c1 A n1 _ n2 HO.out HT.out).mono ?_;rintro e w5 ⟨rfl,hO,hK⟩;replace HO:=A_ hO;replace HK:=A_ (HK.out.trans hK (.inl rfl));clear hO hK;clear s1))
   have hsh:=R_shape HO.out.2.2.2.1
   rcases hsh with ⟨rfl,e1,e2⟩|⟨gA,rfl⟩
   ·
    exact absurd HC.out (by omega)
   have c2:=HO.out.cell2
   obtain⟨_,e_,_,_,_,s2,_,_,_⟩:=HO.out.span (c.sp.length - 1) b HB1.out;cases e_
   rw[HH.out] at s2
   go_quiet (fail)
   replace HO:=A_ (HO.out.drewN nq);replace HK:=A_ (keep_drewN HK.out nq);clear c2 s2;generalize w5.drewN nq=wq at*
   go_upto_region 4 with (first|(go_at_call 67;refine(fail_any w0 _ g q _ 2 (some ⟨gA,0,none⟩) n1 _ n2 HO.out).mono ?_;rintro e w5 ⟨rfl,hO,hK⟩;replace HO:=A_ hO;replace HK:=A_ (HK.out.trans hK (.inl rfl));clear hO hK))
   have c2:w5.cell? ⟨g,2,none⟩=some (.slice (some ⟨gA,0,none⟩) c1.st.length n1):=by have h9:=HO.out.cell2;rwa [(fail_st c1 2).1] at h9
   have f2:=HO.out.frozen 2
   obtain⟨_,e_,_,_,_,s2,_,_,_⟩:=HO.out.span (c.sp.length - 1) b (by rw[(fail_st c1 2).2];exact HB1.out);cases e_
   rw[HH.out] at s2
   have q1:(0:Int)≤(hh:Int):=by omega
   have q2:(hh:Int)≤(n1:Int):=by have:=HC.out;have h9:=HO.out.lenS.2;rw[(fail_st c1 2).1] at h9;omega
   go_still_tail 12,(by kernel_rfl)
   change wpList _ _ _ _ _ w5.drew
   replace HO:=A_ (HO.out.drew);replace HK:=A_ (keep_drew HK.out);clear c2 f2 s2;generalize w5.drew=wz at*
   have c2:wz.cell? ⟨g,2,none⟩=some (.slice (some ⟨gA,0,none⟩) c1.st.length n1):=by have h9:=HO.out.cell2;rwa [(fail_st c1 2).1] at h9
   have f2:=HO.out.frozen 2
   go_wp2
   go_end0
   refine⟨rfl,?_,HK.out.set_ 2 _⟩
   have h9:=HO.out.cutS hh (by rw[(fail_st c1 2).1];have:=HC.out;omega)
   simp only[(fail_st c1 2).1] at h9
   exact h9
  rw[if_neg hz] at hr2;cases hr2
 rw[if_neg cl] at hr2
 obtain rfl:=Option.some.inj hr2
 have cb:=decide_eq_false cl
 clear hr2 cl
 go_enter Try.func83,Try.ntmps83
 go_upto_region 2 with (first|(go_at_call 84;refine(top_any w0 _ g q _ A n1 gB n2 HP.out HO.out).mono ?_;rintro e wt ⟨rfl,hd⟩;obtain⟨nd,hnd⟩:=hd;replace HO:=A_ (show Ck w0 wt g q _ _ n1 (some ⟨gB,0,none⟩) n2 from by rw[hnd];exact HO.out.drewN nd);replace HK:=A_ (show KeepBut w wt g none from by rw[hnd];exact keep_drewN HK.out nd);clear hnd;obtain⟨_,e_,_,_,s1,_,_,_,_⟩:=HO.out.span (c.sp.length - 1) b HBB.out;cases e_)|(go_at_call 85;refine(takeK_any b.f1 w0 _ g q _ c1 A n1 _ n2 HO.out HT.out).mono ?_;rintro e w5 ⟨rfl,hO,hK⟩;replace HO:=A_ hO;replace HK:=A_ (HK.out.trans hK (.inl rfl));clear hO hK;clear s1))
 have c2:=HO.out.cell2
 obtain⟨_,e_,_,_,_,s2,_,_,_⟩:=HO.out.span (c.sp.length - 1) b HB1.out;cases e_
 go_quiet (fail)
 replace HO:=A_ (HO.out.drewN nq);replace HK:=A_ (keep_drewN HK.out nq);clear c2 s2;generalize w5.drewN nq=wq at*
 go_wp2
 go_end0
 exact⟨rfl,HO.out,HK.out⟩


/-! ### impl_checker_wants: function 86 (walked by hand) -/
def wantsC (c:CS S101) (a:Int):Option (CS S101 × Int):=if (c.sp.length:Int)≤a then some (c.fail 4,64) else if 0≤a then (c.sp[c.sp.length - 1 - a.toNat]?).bind fun b=>some (c,if b.f0=3 then 64 else b.f1) else none
def impl_wants.T4:Bool × List (List Nat × List Nat):=(true,[([],[]),([0],[0]),([1],[1]),([2],[2]),([],[]),([4],[4]),([5],[5]),([6],[6]),([7],[7]),([8],[8]),([],[]),([9,10],[9,10]),([3,11],[3,11]),([12],[12]),([],[]),([14,13,0,1,2,3,4,5,6,7,8,9,10,11,12,13,14],[13,14])])
def impl_wants.B4:List Nat:=[0,1,3,7,0,16,48,112,240,496,0,2032,4095,8191,0,32767]
theorem impl_wants.tab4:rtab .any (opsOf Try.f86 4)=impl_wants.T4:=by kernel_rfl
theorem impl_wants.bits4:waitsOk impl_wants.T4.2 impl_wants.B4=true:=by kernel_rfl
theorem wants_any (a t:Int) (w0 w:World) (g:Nat) (q:Nat→Value) (c c':CS S101) (A:Option Addr) (n1:Nat) (B:Option Addr) (n2:Nat) (h:Ck w0 w g q c A n1 B n2) (hr:wantsC c a=some (c',t)):
  Calls Try.prog 86 #[.pointer (some ⟨g,0,none⟩),.int .i64 a] w fun e w'=>e=.returned (.int .i64 t)∧Ck w0 w' g q c' A n1 B n2∧KeepBut w w' g none:=by
 have HO:=A_ h
 have HK:=A_ (KeepBut.refl w g none)
 have c3:=h.cell3
 have hu82:=Try.underlying101
 unfold wantsC at hr
 by_cases cl:(c.sp.length:Int)≤a
 ·
  rw[if_pos cl] at hr
  simp only[Option.some.injEq,Prod.mk.injEq] at hr
  obtain⟨rfl,rfl⟩:=hr
  have cb:=decide_eq_true cl
  clear cl h
  go_enter Try.func86,Try.ntmps86
  go_wp2_with (first|(go_at_call 67;refine(fail_any w0 _ g q _ 4 A n1 B n2 HO.out).mono ?_;rintro e w5 ⟨rfl,hO,hK⟩;replace HO:=A_ hO;replace HK:=A_ (HK.out.trans hK (.inl rfl));clear hO hK))
  go_ret
  exact⟨rfl,HO.out,HK.out⟩
 rw[if_neg cl] at hr
 by_cases ca:0≤a
 ·
  rw[if_pos ca] at hr
  obtain⟨b,hb,hr1⟩:=Option.bind_eq_some_iff.1 hr
  simp only[Option.some.injEq,Prod.mk.injEq] at hr1
  obtain⟨rfl,ht⟩:=hr1
  have HT:=A_ ht
  have cb:=decide_eq_false cl
  obtain⟨an,rfl⟩:=Int.eq_ofNat_of_zero_le ca
  rw[Int.toNat_natCast] at hb
  have cbn:decide (c.sp.length≤an)=false:=decide_eq_false (by omega)
  have hm:=h.lenP.1
  obtain⟨gB,rfl,_,s0,s1,s2,s3,s4,sf⟩:=h.span _ b hb
  have e1:IntKind.i64.wrap ((c.sp.length:Int) - 1)=((c.sp.length - 1:Nat):Int):=by rw[show ((c.sp.length:Int) - 1)=((c.sp.length - 1:Nat):Int) by omega];exact IntWalk.i64_in _ (by omega)
  have e2:IntKind.i64.wrap (((c.sp.length - 1:Nat):Int) - (an:Int))=((c.sp.length - 1 - an:Nat):Int):=by rw[show (((c.sp.length - 1:Nat):Int) - (an:Int))=((c.sp.length - 1 - an:Nat):Int) by omega];exact IntWalk.i64_in _ (by omega)
  have q1:(0:Int)≤((c.sp.length - 1 - an:Nat):Int):=by omega
  have q2:((c.sp.length - 1 - an:Nat):Int)<(c.sp.length:Int):=by omega
  clear cl ca hr h hb hm ht
  go_enter Try.func86,Try.ntmps86
  go_upto_region 4 with (fail)
  refine sS 16 (fun w'=>w'.cell? ⟨g,3,none⟩=some (.slice (some ⟨gB,0,none⟩) c.sp.length n2)∧w'.cell? ⟨gB,(c.sp.length - 1 - an)*5,none⟩=some (.int .i64 b.f0)∧w'.cell? ⟨gB,(c.sp.length - 1 - an)*5+1,none⟩=some (.int .i64 b.f1)∧w'.cell? ⟨gB,(c.sp.length - 1 - an)*5+2,none⟩=some (.int .i64 b.f2)∧w'.cell? ⟨gB,(c.sp.length - 1 - an)*5+3,none⟩=some (.bool b.f3)∧w'.cell? ⟨gB,(c.sp.length - 1 - an)*5+4,none⟩=some (.bool b.f4)) [15] ⟨c3,s0,s1,s2,s3,s4⟩ impl_wants.tab4 impl_wants.bits4 (fun hHeld HT_ HW_=>?_)
  replace HO:=A_ HO.out.drew;replace HK:=A_ (keep_drew HK.out);clear c3 s0 s1 s2 s3 s4 sf;generalize w.drew=wd at*
  refine pS HT_ 0 15 ?_
  refine pS HT_ 1 16 ?_
  refine pS HT_ 2 17 ?_
  refine pS HT_ 4 19 ?_
  refine pS HT_ 5 20 ?_
  refine pS HT_ 6 21 ?_
  refine pS HT_ 10 25 ?_
  refine tS HT_ HW_ 3 18 hHeld ?_
  refine tS HT_ HW_ 7 22 hHeld ?_
  refine pS HT_ 8 23 ?_
  refine pS HT_ 9 24 ?_
  refine pS HT_ 11 26 ?_
  refine pS HT_ 12 27 ?_
  refine tS HT_ HW_ 13 28 hHeld ?_
  refine oS HT_ 14 (some 5) (fun K hK=>?_)
  refine box_step (by rfl) (N:=5) ?hd (cs:=#[(.int .i64 0),(.int .i64 0),(.int .i64 0),(.bool false),(.bool false)]) (t:=101) ?hr ?_;(case hd=>rfl);(case hr=>first|(go_simp;done)|(go_simp;rfl))
  intro gx hg wx hbox hb
  have BX:=A_ hbox;have GX:=A_ (show w.heap.size≤gx from by rw[hg];exact HK.out.1);have NX:=A_ (HO.out.fresh_ne hg);have G0:=A_ (Nat.le_trans HO.out.2.1.size (Nat.le_of_eq hg.symm));have m0:=A_ (HO.out.below hb);have m1:=A_ (HK.out.trans (KeepBut.of_below hb g none) (.inl rfl))
  obtain⟨s0_,s1_,s2_,s3_,s4_,s5_⟩:=hHeld
  have hHeld2:=A_ (And.intro (cl_ hb s0_) (And.intro (cl_ hb s1_) (And.intro (cl_ hb s2_) (And.intro (cl_ hb s3_) (And.intro (cl_ hb s4_) (cl_ hb s5_))))))
  clear HO HK hbox hb hg s0_ s1_ s2_ s3_ s4_ s5_;have HO:=m0;have HK:=m1;clear m0 m1
  obtain⟨z0,z1,z2,z3,z4⟩:=cp5_ BX.out;obtain⟨v0,v1,v2,v3,v4⟩:=fz5_ BX.out
  refine hK.out _ _ hHeld2.out (fun hHeld=>?_)
  clear hK K
  refine nS (some 5) ?_
  refine lS HT_ 15 (none) (fun K hK=>?_)
  obtain⟨vs,hvs⟩:∃ vs:List Value,vs=[.int .i64 b.f0,.int .i64 b.f1,.int .i64 b.f2,.bool b.f3,.bool b.f4]:=⟨_,rfl⟩
  refine skip_ (w1:=sets wx gx 0 vs) (by rfl) rfl (by subst hvs;first|(go_simp;done)|(go_simp;rfl)) ?_
  clear hHeld hHeld2 z0 v0 z1 v1 z2 v2 z3 v3 z4 v4
  refine hK.out _ _ ?_
  clear hK K
  refine dS HT_ ?_
  replace BX:=A_ (sets_blk vs BX.out (by rw[hvs];rfl));replace HO:=A_ (HO.out.sets G0.out NX.out vs 0);replace HK:=A_ (keep_sets HK.out GX.out vs 0);generalize sets wx gx 0 vs=wy at*;subst hvs
  obtain⟨x0,x1,x2,x3,x4⟩:=cp5_ BX.out
  by_cases c3b:b.f0=3
  ·
   have ee:=HT.out.symm.trans (if_pos c3b)
   have cb2:(b.f0==3)=true:=beq_iff_eq.2 c3b
   clear c3b HT
   go_wp2
   go_ret
   exact⟨by rw[ee];rfl,HO.out,HK.out⟩
  have ee:=HT.out.symm.trans (if_neg c3b)
  have cb2:(b.f0==3)=false:=beq_eq_false_iff_ne.2 c3b
  have EE:=A_ ee
  clear c3b HT ee
  go_wp2
  go_ret
  exact⟨by rw[EE.out];rfl,HO.out,HK.out⟩
 rw[if_neg ca] at hr;cases hr


/-! ### impl_checker_die: function 87 (walked by hand) -/
def dieC (c:CS S101):Option (CS S101):=(c.sp[c.sp.length - 1]?).bind fun b=>if 0≤b.f2 then some {c with sp:=c.sp.set (c.sp.length - 1) {b with f3:=true},st:=c.st.take (if b.f2.toNat<c.st.length then b.f2.toNat else c.st.length)} else none
theorem die_any (w0 w:World) (g:Nat) (q:Nat→Value) (c c':CS S101) (A:Option Addr) (n1:Nat) (B:Option Addr) (n2:Nat) (h:Ck w0 w g q c A n1 B n2) (hr:dieC c=some c'):
  Calls Try.prog 87 #[.pointer (some ⟨g,0,none⟩)] w fun e w'=>e=.returned (.tuple #[])∧Ck w0 w' g q c' A n1 B n2:=by
 obtain⟨b,hb,hr1⟩:=Option.bind_eq_some_iff.1 hr
 clear hr
 by_cases hz:0≤b.f2
 ·
  rw[if_pos hz] at hr1
  obtain rfl:=Option.some.inj hr1
  clear hr1
  obtain⟨hh,hhe⟩:=Int.eq_ofNat_of_zero_le hz
  have HLT:=A_ (List.getElem?_eq_some_iff.1 hb).1
  have HP:=A_ (show 0<c.sp.length by have:=HLT.out;omega)
  obtain⟨gB,rfl,_⟩:=h.span _ b hb
  have HBB:=A_ hb
  have HO:=A_ h
  have HK:=A_ (KeepBut.refl w g none)
  have HH:=A_ hhe
  have hm:=h.lenS
  rw[show b.f2.toNat=hh by omega]
  have hsh:=R_shape h.2.2.2.1
  clear h hb hz hhe
  by_cases cm:hh<c.st.length
  ·
   rw[if_pos cm]
   have HC:=A_ cm
   rcases hsh with ⟨rfl,e1,e2⟩|⟨gA,rfl⟩
   ·
    omega
   clear cm
   go_enter Try.func87,Try.ntmps87
   go_upto_region 2 with (first|(go_at_call 84;refine(top_any w0 _ g q _ (some ⟨gA,0,none⟩) n1 gB n2 HP.out HO.out).mono ?_;rintro e wt ⟨rfl,hd⟩;obtain⟨nd,hnd⟩:=hd;replace HO:=A_ (show Ck w0 wt g q _ _ n1 (some ⟨gB,0,none⟩) n2 from by rw[hnd];exact HO.out.drewN nd);replace HK:=A_ (show KeepBut w wt g none from by rw[hnd];exact keep_drewN HK.out nd);clear hnd;obtain⟨_,e_,_,_,_,_,s3,_,sf⟩:=HO.out.span (c.sp.length - 1) b HBB.out;cases e_;have u3:=sf ((c.sp.length - 1)*5+3);clear sf))
   replace HO:=A_ ((HO.out.flag gB (c.sp.length - 1) b HBB.out true).1);replace HK:=A_ (trivial);clear s3 u3;generalize wt.setCell ⟨gB,(c.sp.length - 1)*5+3,none⟩ (.bool true)=wa at*
   have c2:=HO.out.cell2;have f2:=HO.out.frozen 2
   obtain⟨_,e_,_,_,_,s2,_,_,_⟩:=HO.out.span (c.sp.length - 1) {b with f3:=true} (by rw[List.getElem?_set_self];exact HLT.out);cases e_
   replace c2:wa.cell? ⟨g,2,none⟩=some (.slice (some ⟨gA,0,none⟩) c.st.length n1):=c2
   replace s2:wa.cell? ⟨gB,(c.sp.length - 1)*5+2,none⟩=some (.int .i64 (hh:Int)):=s2.trans (by rw[←HH.out])
   have cm1:((hh:Int)<(c.st.length:Int))=True:=eq_true (by have:=HC.out;omega)
   have q1:(0:Int)≤(hh:Int):=by omega
   have q2:(hh:Int)≤(n1:Int):=by have:=HC.out;omega
   clear hm
   go_still_tail 18,(by kernel_rfl)
   change wpList _ _ _ _ _ wa.drew
   replace HO:=A_ (HO.out.drew);replace HK:=A_ (trivial);clear c2 f2 s2;generalize wa.drew=wb at*
   have c2:wb.cell? ⟨g,2,none⟩=some (.slice (some ⟨gA,0,none⟩) c.st.length n1):=HO.out.cell2;have f2:=HO.out.frozen 2
   go_wp2
   go_end0
   exact⟨rfl,HO.out.cutS hh (by have:=HC.out;show hh≤c.st.length;omega)⟩
  rw[if_neg cm]
  have HC:=A_ cm
  rcases hsh with ⟨rfl,e1,e2⟩|⟨gA,rfl⟩
  ·
   clear cm
   go_enter Try.func87,Try.ntmps87
   go_upto_region 2 with (first|(go_at_call 84;refine(top_any w0 _ g q _ none n1 gB n2 HP.out HO.out).mono ?_;rintro e wt ⟨rfl,hd⟩;obtain⟨nd,hnd⟩:=hd;replace HO:=A_ (show Ck w0 wt g q _ _ n1 (some ⟨gB,0,none⟩) n2 from by rw[hnd];exact HO.out.drewN nd);replace HK:=A_ (show KeepBut w wt g none from by rw[hnd];exact keep_drewN HK.out nd);clear hnd;obtain⟨_,e_,_,_,_,_,s3,_,sf⟩:=HO.out.span (c.sp.length - 1) b HBB.out;cases e_;have u3:=sf ((c.sp.length - 1)*5+3);clear sf))
   replace HO:=A_ ((HO.out.flag gB (c.sp.length - 1) b HBB.out true).1);replace HK:=A_ (trivial);clear s3 u3;generalize wt.setCell ⟨gB,(c.sp.length - 1)*5+3,none⟩ (.bool true)=wa at*
   have c2:=HO.out.cell2;have f2:=HO.out.frozen 2
   obtain⟨_,e_,_,_,_,s2,_,_,_⟩:=HO.out.span (c.sp.length - 1) {b with f3:=true} (by rw[List.getElem?_set_self];exact HLT.out);cases e_
   replace c2:wa.cell? ⟨g,2,none⟩=some (.slice none c.st.length n1):=c2
   replace s2:wa.cell? ⟨gB,(c.sp.length - 1)*5+2,none⟩=some (.int .i64 (hh:Int)):=s2.trans (by rw[←HH.out])
   have cm1:((hh:Int)<0)=False:=eq_false (by omega)
   rw[e1,e2] at c2
   clear hm
   go_still_tail 18,(by kernel_rfl)
   change wpList _ _ _ _ _ wa.drew
   replace HO:=A_ (HO.out.drew);replace HK:=A_ (trivial);clear c2 f2 s2;generalize wa.drew=wb at*
   have c2:wb.cell? ⟨g,2,none⟩=some (.slice none c.st.length n1):=HO.out.cell2;have f2:=HO.out.frozen 2
   go_wp2
   go_end0
   exact⟨rfl,by have h9:=HO.out.cutS c.st.length (Nat.le_refl _);simpa only [e1,e2,List.take_zero,List.take_length] using h9⟩
  clear cm
  go_enter Try.func87,Try.ntmps87
  go_upto_region 2 with (first|(go_at_call 84;refine(top_any w0 _ g q _ (some ⟨gA,0,none⟩) n1 gB n2 HP.out HO.out).mono ?_;rintro e wt ⟨rfl,hd⟩;obtain⟨nd,hnd⟩:=hd;replace HO:=A_ (show Ck w0 wt g q _ _ n1 (some ⟨gB,0,none⟩) n2 from by rw[hnd];exact HO.out.drewN nd);replace HK:=A_ (show KeepBut w wt g none from by rw[hnd];exact keep_drewN HK.out nd);clear hnd;obtain⟨_,e_,_,_,_,_,s3,_,sf⟩:=HO.out.span (c.sp.length - 1) b HBB.out;cases e_;have u3:=sf ((c.sp.length - 1)*5+3);clear sf))
  replace HO:=A_ ((HO.out.flag gB (c.sp.length - 1) b HBB.out true).1);replace HK:=A_ (trivial);clear s3 u3;generalize wt.setCell ⟨gB,(c.sp.length - 1)*5+3,none⟩ (.bool true)=wa at*
  have c2:=HO.out.cell2;have f2:=HO.out.frozen 2
  obtain⟨_,e_,_,_,_,s2,_,_,_⟩:=HO.out.span (c.sp.length - 1) {b with f3:=true} (by rw[List.getElem?_set_self];exact HLT.out);cases e_
  replace c2:wa.cell? ⟨g,2,none⟩=some (.slice (some ⟨gA,0,none⟩) c.st.length n1):=c2
  replace s2:wa.cell? ⟨gB,(c.sp.length - 1)*5+2,none⟩=some (.int .i64 (hh:Int)):=s2.trans (by rw[←HH.out])
  have cm1:((hh:Int)<(c.st.length:Int))=False:=eq_false (by have:=HC.out;omega)
  have q1:(0:Int)≤(c.st.length:Int):=by omega
  have q2:(c.st.length:Int)≤(n1:Int):=by omega
  clear hm
  go_still_tail 18,(by kernel_rfl)
  change wpList _ _ _ _ _ wa.drew
  replace HO:=A_ (HO.out.drew);replace HK:=A_ (trivial);clear c2 f2 s2;generalize wa.drew=wb at*
  have c2:wb.cell? ⟨g,2,none⟩=some (.slice (some ⟨gA,0,none⟩) c.st.length n1):=HO.out.cell2;have f2:=HO.out.frozen 2
  go_wp2
  go_end0
  exact⟨rfl,by have h9:=HO.out.cutS c.st.length (Nat.le_refl _);simpa only [List.take_zero,List.take_length] using h9⟩
 rw[if_neg hz] at hr1;cases hr1
end Go.Proofs.Ytanhbfhmgmjdgaa.Q

