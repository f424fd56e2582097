-- Written by a program of this session; it walks the functions that the law reaches.
import Derived.Test.YtanhbfhmgmjdgaaQx0
import Derived.Test.YtanhbfhmgmjdgaaQx5
import Derived.Test.YtanhbfhmgmjdgaaQx17
import Derived.Test.YtanhbfhmgmjdgaaQx18
namespace Go.Proofs.Ytanhbfhmgmjdgaa.Q
open Go.RowKit Go.Proofs.YtanhbfhmgmjdgaaW.PrintWords Go.Proofs.YtanhbfhmgmjdgaaW.PrintLast Go.Proofs.YtanhbfhmgmjdgaaW.PrintMore
attribute [local go_sem] max2_int min2_int max_two min_two max_three min_three max_four min_four   -- for this text's walks alone
set_option linter.unusedVariables false
set_option linter.unusedSimpArgs false
set_option maxRecDepth 100000
set_option maxHeartbeats 8000000


/-! ### impl_checker_block: function 62 (walked by hand) -/
def pushC (c:CS S101) (op k:Int):Option (CS S101):=if c.sp.length<4000000000000 then some {c with sp:=c.sp++[⟨op,k,(c.st.length:Int),false,false⟩]} else none
def endC (c1:CS S101):Option (CS S101):=(c1.sp[c1.sp.length - 1]?).bind fun b=>
 let c2:=if b.f0=4∧b.f4=false∧b.f1≠64 then c1.fail 3 else c1
 if 0<c1.sp.length - 1 then ({c2 with sp:=c2.sp.take (c2.sp.length - 1)}:CS S101).put b.f1 else some {c2 with sp:=c2.sp.take (c2.sp.length - 1)}
def elseC (c1:CS S101):Option (CS S101):=(c1.sp[c1.sp.length - 1]?).bind fun b=>some {c1 with sp:=c1.sp.set (c1.sp.length - 1) {b with f3:=false,f4:=true}}
def blockC (c:CS S101) (res:Int) (x:S103):Option (CS S101 × Bool):=
 if x.f0=4 then (takeC c 127).bind fun r=>(pushC r.1 4 x.f1).bind fun c1=>some (c1,true)
 else if x.f0=2∨x.f0=3 then (pushC c x.f0 x.f1).bind fun c1=>some (c1,true)
 else if x.f0=5 then (closeC c).bind fun c1=>(elseC c1).bind fun c2=>some (c2,true)
 else if x.f0=11 then (closeC c).bind fun c1=>(endC c1).bind fun c2=>some (c2,true)
 else if x.f0=12 then (wantsC c x.f1).bind fun r=>(takeKC r.1 r.2).bind fun c1=>(dieC c1).bind fun c2=>some (c2,true)
 else if x.f0=13 then (wantsC c x.f1).bind fun r=>(takeC r.1 127).bind fun s=>(takeKC s.1 r.2).bind fun c1=>(c1.put r.2).bind fun c2=>some (c2,true)
 else if x.f0=15 then (takeKC c res).bind fun c1=>(dieC c1).bind fun c2=>some (c2,true)
 else if x.f0=0 then (dieC c).bind fun c1=>some (c1,true)
 else some (c,false)
section
variable (x:S103) (res:Int) (pf:Addr) (w0 w:World) (g:Nat) (q:Nat→Value) (c c':CS S101) (A:Option Addr) (n1:Nat) (B:Option Addr) (n2:Nat)
theorem block_0 (h:Ck w0 w g q c A n1 B n2) (hq:q 1=.pointer (some pf)) (hres:w0.cell? ⟨pf.block,pf.off+1,none⟩=some (.int .i64 res)) (hop:x.f0=0) (hr:dieC c=some c'):
  Calls Try.prog 62 #[.pointer (some ⟨g,0,none⟩),.agg #[.int .i64 x.f0,.int .i64 x.f1]] w fun e w'=>e=.returned (.bool true)∧CkE w0 w' g q c':=by
 have HO:=A_ h
 have HK:=A_ (KeepBut.refl w g none)
 have hu71:=Try.underlying103
 have hu82:=Try.underlying101
 clear h
 have b4:=ne_ hop 4
 have b2:=ne_ hop 2
 have b3:=ne_ hop 3
 have b5:=ne_ hop 5
 have b11:=ne_ hop 11
 have b12:=ne_ hop 12
 have b13:=ne_ hop 13
 have b15:=ne_ hop 15
 have b0:=e1_ hop
 have HR:=A_ hr
 clear hr
 go_enter Try.func62,Try.ntmps62
 go_wp2_with (first|((with_reducible refine gd_ 3 rfl ?_);refine bx_ #[.int .i64 x.f0,.int .i64 x.f1] 103 ?_;intro gx hg wx hbox hb;have BX:=A_ hbox;have NX:=A_ (HO.out.fresh_ne hg);replace HO:=A_ (HO.out.below hb);replace HK:=A_ (HK.out.trans (KeepBut.of_below hb g none) (.inl rfl));clear hbox hb hg;obtain⟨x0,x1⟩:=cp2_ BX.out)|(go_at_call 87;refine(die_any w0 _ g q _ c' A n1 _ n2 HO.out HR.out).mono ?_;rintro e w5 ⟨rfl,hO⟩;replace HO:=A_ hO;clear HK BX x0 x1 hO))
 go_ret
 exact⟨rfl,_,_,_,_,HO.out⟩
theorem block_15 (h:Ck w0 w g q c A n1 B n2) (hq:q 1=.pointer (some pf)) (hres:w0.cell? ⟨pf.block,pf.off+1,none⟩=some (.int .i64 res)) (hop:x.f0=15) (c1:CS S101) (hk:takeKC c res=some c1) (hr:dieC c1=some c'):
  Calls Try.prog 62 #[.pointer (some ⟨g,0,none⟩),.agg #[.int .i64 x.f0,.int .i64 x.f1]] w fun e w'=>e=.returned (.bool true)∧CkE w0 w' g q c':=by
 have HO:=A_ h
 have HK:=A_ (KeepBut.refl w g none)
 have hu71:=Try.underlying103
 have hu82:=Try.underlying101
 clear h
 have b4:=ne_ hop 4
 have b2:=ne_ hop 2
 have b3:=ne_ hop 3
 have b5:=ne_ hop 5
 have b11:=ne_ hop 11
 have b12:=ne_ hop 12
 have b13:=ne_ hop 13
 have b15:=e1_ hop
 have HR:=A_ hr;have HT:=A_ hk
 have HS:=A_ hres;have HQ:=A_ hq
 clear hr hk hres hq
 go_enter Try.func62,Try.ntmps62
 go_upto_region 29 with (first|((with_reducible refine gd_ 3 rfl ?_);refine bx_ #[.int .i64 x.f0,.int .i64 x.f1] 103 ?_;intro gx hg wx hbox hb;have BX:=A_ hbox;have NX:=A_ (HO.out.fresh_ne hg);replace HO:=A_ (HO.out.below hb);replace HK:=A_ (HK.out.trans (KeepBut.of_below hb g none) (.inl rfl));clear hbox hb hg;obtain⟨x0,x1⟩:=cp2_ BX.out))
 have c1f:=HO.out.cell1
 rw[HQ.out] at c1f
 have c5f:=(HO.out.2.1.cell (World.block_lt_of_cell? w0 _ HS.out)).trans HS.out
 go_wp2_with (first|(go_at_call 85;refine(takeK_any res w0 _ g q _ c1 A n1 _ n2 HO.out HT.out).mono ?_;rintro e w5 ⟨rfl,hO,hK⟩;replace HO:=A_ hO;replace HK:=A_ (HK.out.trans hK (.inl rfl));replace BX:=A_ (KeepBut.blk hK BX.out NX.out.1 (by simp));clear x0 x1 hO hK;obtain⟨x0,x1⟩:=cp2_ BX.out;clear c1f c5f)|(go_at_call 87;refine(die_any w0 _ g q _ c' A n1 _ n2 HO.out HR.out).mono ?_;rintro e w5 ⟨rfl,hO⟩;replace HO:=A_ hO;clear HK BX x0 x1 hO))
 go_ret
 exact⟨rfl,_,_,_,_,HO.out⟩
theorem block_13 (h:Ck w0 w g q c A n1 B n2) (hq:q 1=.pointer (some pf)) (hres:w0.cell? ⟨pf.block,pf.off+1,none⟩=some (.int .i64 res)) (hop:x.f0=13) (cw cs c1:CS S101) (t u:Int) (hw:wantsC c x.f1=some (cw,t)) (hs:takeC cw 127=some (cs,u)) (hk:takeKC cs t=some c1) (hr:c1.put t=some c'):
  Calls Try.prog 62 #[.pointer (some ⟨g,0,none⟩),.agg #[.int .i64 x.f0,.int .i64 x.f1]] w fun e w'=>e=.returned (.bool true)∧CkE w0 w' g q c':=by
 have HO:=A_ h
 have HK:=A_ (KeepBut.refl w g none)
 have hu71:=Try.underlying103
 have hu82:=Try.underlying101
 clear h
 have b4:=ne_ hop 4
 have b2:=ne_ hop 2
 have b3:=ne_ hop 3
 have b5:=ne_ hop 5
 have b11:=ne_ hop 11
 have b12:=ne_ hop 12
 have b13:=e1_ hop
 have HR:=A_ hr;have HT:=A_ hk;have HS:=A_ hs;have HW:=A_ hw
 clear hr hk hs hw
 go_enter Try.func62,Try.ntmps62
 go_wp2_with (first|((with_reducible refine gd_ 3 rfl ?_);refine bx_ #[.int .i64 x.f0,.int .i64 x.f1] 103 ?_;intro gx hg wx hbox hb;have BX:=A_ hbox;have NX:=A_ (HO.out.fresh_ne hg);replace HO:=A_ (HO.out.below hb);replace HK:=A_ (HK.out.trans (KeepBut.of_below hb g none) (.inl rfl));clear hbox hb hg;obtain⟨x0,x1⟩:=cp2_ BX.out)|(go_at_call 86;refine(wants_any x.f1 t w0 _ g q _ cw A n1 _ n2 HO.out HW.out).mono ?_;rintro e w5 ⟨rfl,hO,hK⟩;replace HO:=A_ hO;replace HK:=A_ (HK.out.trans hK (.inl rfl));replace BX:=A_ (KeepBut.blk hK BX.out NX.out.1 (by simp));clear x0 x1 hO hK;obtain⟨x0,x1⟩:=cp2_ BX.out)|(go_at_call 64;refine(take_any w0 _ g q _ cs 127 u A n1 _ n2 HO.out HS.out).mono ?_;rintro e w5 ⟨rfl,hO,hK⟩;replace HO:=A_ hO;replace HK:=A_ (HK.out.trans hK (.inl rfl));replace BX:=A_ (KeepBut.blk hK BX.out NX.out.1 (by simp));clear x0 x1 hO hK;obtain⟨x0,x1⟩:=cp2_ BX.out)|(go_at_call 85;refine(takeK_any t w0 _ g q _ c1 A n1 _ n2 HO.out HT.out).mono ?_;rintro e w5 ⟨rfl,hO,hK⟩;replace HO:=A_ hO;replace HK:=A_ (HK.out.trans hK (.inl rfl));replace BX:=A_ (KeepBut.blk hK BX.out NX.out.1 (by simp));clear x0 x1 hO hK;obtain⟨x0,x1⟩:=cp2_ BX.out)|(go_at_call 65;refine(put_any t w0 _ g q _ c' A n1 _ n2 HO.out HR.out).mono ?_;rintro e w5 ⟨rfl,hE⟩;have HE:=A_ hE;clear hE))
 go_ret
 exact⟨rfl,HE.out⟩
theorem block_12 (h:Ck w0 w g q c A n1 B n2) (hq:q 1=.pointer (some pf)) (hres:w0.cell? ⟨pf.block,pf.off+1,none⟩=some (.int .i64 res)) (hop:x.f0=12) (cw c1:CS S101) (t:Int) (hw:wantsC c x.f1=some (cw,t)) (hk:takeKC cw t=some c1) (hr:dieC c1=some c'):
  Calls Try.prog 62 #[.pointer (some ⟨g,0,none⟩),.agg #[.int .i64 x.f0,.int .i64 x.f1]] w fun e w'=>e=.returned (.bool true)∧CkE w0 w' g q c':=by
 have HO:=A_ h
 have HK:=A_ (KeepBut.refl w g none)
 have hu71:=Try.underlying103
 have hu82:=Try.underlying101
 clear h
 have b4:=ne_ hop 4
 have b2:=ne_ hop 2
 have b3:=ne_ hop 3
 have b5:=ne_ hop 5
 have b11:=ne_ hop 11
 have b12:=e1_ hop
 have HR:=A_ hr;have HT:=A_ hk;have HW:=A_ hw
 clear hr hk hw
 go_enter Try.func62,Try.ntmps62
 go_wp2_with (first|((with_reducible refine gd_ 3 rfl ?_);refine bx_ #[.int .i64 x.f0,.int .i64 x.f1] 103 ?_;intro gx hg wx hbox hb;have BX:=A_ hbox;have NX:=A_ (HO.out.fresh_ne hg);replace HO:=A_ (HO.out.below hb);replace HK:=A_ (HK.out.trans (KeepBut.of_below hb g none) (.inl rfl));clear hbox hb hg;obtain⟨x0,x1⟩:=cp2_ BX.out)|(go_at_call 86;refine(wants_any x.f1 t w0 _ g q _ cw A n1 _ n2 HO.out HW.out).mono ?_;rintro e w5 ⟨rfl,hO,hK⟩;replace HO:=A_ hO;replace HK:=A_ (HK.out.trans hK (.inl rfl));replace BX:=A_ (KeepBut.blk hK BX.out NX.out.1 (by simp));clear x0 x1 hO hK;obtain⟨x0,x1⟩:=cp2_ BX.out)|(go_at_call 85;refine(takeK_any t w0 _ g q _ c1 A n1 _ n2 HO.out HT.out).mono ?_;rintro e w5 ⟨rfl,hO,hK⟩;replace HO:=A_ hO;replace HK:=A_ (HK.out.trans hK (.inl rfl));replace BX:=A_ (KeepBut.blk hK BX.out NX.out.1 (by simp));clear x0 x1 hO hK;obtain⟨x0,x1⟩:=cp2_ BX.out)|(go_at_call 87;refine(die_any w0 _ g q _ c' A n1 _ n2 HO.out HR.out).mono ?_;rintro e w5 ⟨rfl,hO⟩;replace HO:=A_ hO;clear HK BX x0 x1 hO))
 go_ret
 exact⟨rfl,_,_,_,_,HO.out⟩
end
section
variable (x:S103) (res:Int) (pf:Addr) (w0 w:World) (g:Nat) (q:Nat→Value)
theorem block_no (c:CS S101) (A:Option Addr) (n1:Nat) (B:Option Addr) (n2:Nat) (h:Ck w0 w g q c A n1 B n2) (hq:q 1=.pointer (some pf)) (hres:w0.cell? ⟨pf.block,pf.off+1,none⟩=some (.int .i64 res)) (hop:x.f0≠4∧x.f0≠2∧x.f0≠3∧x.f0≠5∧x.f0≠11∧x.f0≠12∧x.f0≠13∧x.f0≠15∧x.f0≠0):
  Calls Try.prog 62 #[.pointer (some ⟨g,0,none⟩),.agg #[.int .i64 x.f0,.int .i64 x.f1]] w fun e w'=>e=.returned (.bool false)∧Ck w0 w' g q c A n1 B n2∧KeepBut w w' g none:=by
 have HO:=A_ h
 have HK:=A_ (KeepBut.refl w g none)
 have hu71:=Try.underlying103
 clear h
 obtain⟨h4,h2,h3,h5,h11,h12,h13,h15,h0⟩:=hop
 have b4:=e0_ h4
 have b2:=e0_ h2
 have b3:=e0_ h3
 have b5:=e0_ h5
 have b11:=e0_ h11
 have b12:=e0_ h12
 have b13:=e0_ h13
 have b15:=e0_ h15
 have b0:=e0_ h0
 clear h4 h2 h3 h5 h11 h12 h13 h15 h0
 go_enter Try.func62,Try.ntmps62
 go_wp2_with (first|((with_reducible refine gd_ 3 rfl ?_);refine bx_ #[.int .i64 x.f0,.int .i64 x.f1] 103 ?_;intro gx hg wx hbox hb;have BX:=A_ hbox;have NX:=A_ (HO.out.fresh_ne hg);replace HO:=A_ (HO.out.below hb);replace HK:=A_ (HK.out.trans (KeepBut.of_below hb g none) (.inl rfl));clear hbox hb hg;obtain⟨x0,x1⟩:=cp2_ BX.out))
 go_ret
 exact⟨rfl,HO.out,HK.out⟩
def impl_block.T8:Bool × List (List Nat × List Nat):=(true,[([],[]),([],[]),([1],[1]),([2],[2]),([3],[3]),([],[]),([5],[5]),([],[]),([7],[7]),([],[]),([9],[9]),([10],[10]),([11],[11]),([12],[12]),([6,8,13],[6,8,13]),([14],[14]),([4,15],[4,15]),([0,0,1,2,3,4,5,6,7,8,9,10,11,12,13,14,15,16],[0]),([17,0,1,2,3,4,5,6,7,8,9,10,11,12,13,14,15,16],[17]),([18,16,16,0,1,2,3,4,5,6,7,8,9,10,11,12,13,14,15,16],[16,18])])
def impl_block.B8:List Nat:=[0,0,2,6,14,0,32,0,128,0,512,1536,3584,7680,16352,32736,65534,131071,262143,524287]
theorem impl_block.tab8:rtab .any (opsOf Try.f62 8)=impl_block.T8:=by kernel_rfl
theorem impl_block.bits8:waitsOk impl_block.T8.2 impl_block.B8=true:=by kernel_rfl
theorem block_23 (c c':CS S101) (A:Option Addr) (n1:Nat) (B:Option Addr) (n2:Nat) (h:Ck w0 w g q c A n1 B n2) (hq:q 1=.pointer (some pf)) (hres:w0.cell? ⟨pf.block,pf.off+1,none⟩=some (.int .i64 res)) (hop:x.f0=2∨x.f0=3) (hr:pushC c x.f0 x.f1=some c'):
  Calls Try.prog 62 #[.pointer (some ⟨g,0,none⟩),.agg #[.int .i64 x.f0,.int .i64 x.f1]] w fun e w'=>e=.returned (.bool true)∧CkE w0 w' g q c':=by
 have HO:=A_ h
 have HK:=A_ (KeepBut.refl w g none)
 have hu71:=Try.underlying103
 have hu82:=Try.underlying101
 clear h
 unfold pushC at hr
 by_cases cl:c.sp.length<4000000000000
 ·
  rw[if_pos cl] at hr
  obtain rfl:=Option.some.inj hr
  have HLP:=A_ cl
  clear cl hr
  have b4:(x.f0==4)=false:=by rcases hop with e|e<;>rw[e]<;>rfl
  have HOP:=A_ hop
  clear hop
  go_enter Try.func62,Try.ntmps62
  go_upto_region 6 with (first|((with_reducible refine gd_ 3 rfl ?_);refine bx_ #[.int .i64 x.f0,.int .i64 x.f1] 103 ?_;intro gx hg wx hbox hb;have BX:=A_ hbox;have NX:=A_ (HO.out.fresh_ne hg);replace HO:=A_ (HO.out.below hb);replace HK:=A_ (HK.out.trans (KeepBut.of_below hb g none) (.inl rfl));clear hbox hb hg;obtain⟨x0,x1⟩:=cp2_ BX.out))
  have hb23:(x.f0==2)=true∨((x.f0==2)=false∧(x.f0==3)=true):=by rcases HOP.out with e|e<;>rw[e];exact .inl rfl;exact .inr ⟨rfl,rfl⟩
  rcases hb23 with b2|⟨b2,b3⟩
  ·
   go_upto_region 8 with (fail)
   have c3:=HO.out.cell3;have c2:=HO.out.cell2
   refine sS 20 (fun w'=>w'.cell? ⟨g,3,none⟩=some (.slice B c.sp.length n2)∧w'.cell? ⟨g,2,none⟩=some (.slice A c.st.length n1)∧w'.cell? ⟨gx,1,none⟩=some (.int .i64 x.f1)∧w'.cell? ⟨gx,0,none⟩=some (.int .i64 x.f0)) [19] ⟨c3,c2,x1,x0⟩ impl_block.tab8 impl_block.bits8 (fun hHeld HT_ HW_=>?_)
   have m0:=A_ HO.out.drew;have m1:=A_ (keep_drew HK.out);have m2:=A_ (blk_drew BX.out)
   clear HO HK c2 c3 x0 x1
   generalize wx.drew=wd at*
   have HO:=m0;have HK:=m1;have BX:=m2;clear m0 m1 m2
   refine pS HT_ 0 33 ?_
   refine pS HT_ 1 34 ?_
   refine pS HT_ 2 35 ?_
   refine pS HT_ 3 36 ?_
   refine pS HT_ 5 38 ?_
   refine pS HT_ 7 40 ?_
   refine pS HT_ 9 42 ?_
   refine pS HT_ 10 43 ?_
   refine pS HT_ 11 44 ?_
   refine tS HT_ HW_ 4 37 hHeld ?_
   refine tS HT_ HW_ 6 39 hHeld ?_
   refine tS HT_ HW_ 8 41 hHeld ?_
   refine tS HT_ HW_ 12 45 hHeld ?_
   refine pS HT_ 13 46 ?_
   refine pS HT_ 14 47 ?_
   refine oS HT_ 15 (some 48) (fun K hK=>?_)
   have hHeld2:Aside0 ((wd.alloc (.cells #[.int .i64 x.f0,.int .i64 x.f1,.int .i64 (c.st.length:Int),.bool false,.bool false] 101 (0,0))).cell? ⟨g,3,none⟩=some (.slice B c.sp.length n2)∧(wd.alloc (.cells #[.int .i64 x.f0,.int .i64 x.f1,.int .i64 (c.st.length:Int),.bool false,.bool false] 101 (0,0))).cell? ⟨g,2,none⟩=some (.slice A c.st.length n1)∧(wd.alloc (.cells #[.int .i64 x.f0,.int .i64 x.f1,.int .i64 (c.st.length:Int),.bool false,.bool false] 101 (0,0))).cell? ⟨gx,1,none⟩=some (.int .i64 x.f1)∧(wd.alloc (.cells #[.int .i64 x.f0,.int .i64 x.f1,.int .i64 (c.st.length:Int),.bool false,.bool false] 101 (0,0))).cell? ⟨gx,0,none⟩=some (.int .i64 x.f0)):=⟨by obtain⟨s0_,s1_,s2_,s3_⟩:=hHeld;exact⟨cl_ (below_alloc (Below.refl _ _) _) s0_,cl_ (below_alloc (Below.refl _ _) _) s1_,cl_ (below_alloc (Below.refl _ _) _) s2_,cl_ (below_alloc (Below.refl _ _) _) s3_⟩⟩
   refine value_ (w1:=(wd.alloc (.cells #[.int .i64 x.f0,.int .i64 x.f1,.int .i64 (c.st.length:Int),.bool false,.bool false] 101 (0,0)))) (v:=.slice (some ⟨wd.heap.size,0,none⟩) 1 1) (by rfl) rfl (by first|(go_simp;done)|(go_simp;rfl)) ?_
   clear hHeld
   refine hK.out _ _ hHeld2.out (fun hHeld=>?_)
   clear hK K
   refine nS (some 48) ?_
   refine oS HT_ 16 (some 49) (fun K hK=>?_)
   refine Kd.R_append_step k101 w0.heap.size (by rfl) (.tmp 37) (.tmp 48) 97 101 (.agg #[.int .i64 0,.int .i64 0,.int .i64 0,.bool false,.bool false]) 32 rfl Try.underlying97 info101 rfl (by decide) (by omega) (.slice B c.sp.length n2) c.sp (⟨x.f0,x.f1,(c.st.length:Int),false,false⟩:S101) [.int .i64 x.f0,.int .i64 x.f1,.int .i64 (c.st.length:Int),.bool false,.bool false] (fun _=>True) (fun _=>False) rfl rfl ?aP (fun _ hk=>hk.elim) (fun _ _=>trivial) HO.out.2.2.2.2 HO.out.2.1 HO.out.2.1.size ?aL ?_;(case aP=>exact k101_mkM _ _ _ (⟨x.f0,x.f1,(c.st.length:Int),false,false⟩:S101));(case aL=>have:=HLP.out;omega)
   intro v1 wa hv hb hg hat
   obtain⟨hblk,B',n',e_,hN⟩:=HO.out.appP hv hb hg;subst e_;have HB:=A_ hblk;have HN:=A_ hN
   have hblk0:=A_ hblk
   have BX2:=A_ (blk_grown BX.out hg (fun e=>by have h7:=NX.out.2.2;cases B with|none=>cases e|some a=>exact h7 a rfl (Option.some.inj e).symm))
   clear hv hb hg hat hblk hN hHeld hHeld2
   refine hK.out _ _ ⟨(blk_cell hblk0.out 3).trans rfl,(blk_cell hblk0.out 2).trans rfl,(blk_cell BX2.out 1).trans rfl,(blk_cell BX2.out 0).trans rfl⟩ (fun hHeld=>?_)
   clear hK K
   refine nS (some 49) ?_
   refine pS HT_ 17 50 ?_
   refine pS HT_ 18 51 ?_
   refine lS HT_ 19 (none) (fun K hK=>?_)
   have ff:=blk_frozen HB.out 3
   refine skip_ (w1:=(wa.setCell ⟨g,3,none⟩ (.slice B' (c.sp.length+1) n'))) (by rfl) rfl (by first|(obtain⟨s0_,s1_,s2_,s3_⟩:=hHeld;go_simp;done)|(obtain⟨s0_,s1_,s2_,s3_⟩:=hHeld;go_simp;rfl)) ?_
   clear hHeld ff
   refine hK.out _ _ ?_
   clear hK K
   refine dS HT_ ?_
   clear HO HK
   generalize (wa.setCell ⟨g,3,none⟩ (.slice B' (c.sp.length+1) n'))=wy at*
   have HO:=HN
   go_wp2
   go_ret
   exact⟨rfl,_,_,_,_,HO.out⟩
  go_upto_region 8 with (fail)
  have c3:=HO.out.cell3;have c2:=HO.out.cell2
  refine sS 20 (fun w'=>w'.cell? ⟨g,3,none⟩=some (.slice B c.sp.length n2)∧w'.cell? ⟨g,2,none⟩=some (.slice A c.st.length n1)∧w'.cell? ⟨gx,1,none⟩=some (.int .i64 x.f1)∧w'.cell? ⟨gx,0,none⟩=some (.int .i64 x.f0)) [19] ⟨c3,c2,x1,x0⟩ impl_block.tab8 impl_block.bits8 (fun hHeld HT_ HW_=>?_)
  have m0:=A_ HO.out.drew;have m1:=A_ (keep_drew HK.out);have m2:=A_ (blk_drew BX.out)
  clear HO HK c2 c3 x0 x1
  generalize wx.drew=wd at*
  have HO:=m0;have HK:=m1;have BX:=m2;clear m0 m1 m2
  refine pS HT_ 0 33 ?_
  refine pS HT_ 1 34 ?_
  refine pS HT_ 2 35 ?_
  refine pS HT_ 3 36 ?_
  refine pS HT_ 5 38 ?_
  refine pS HT_ 7 40 ?_
  refine pS HT_ 9 42 ?_
  refine pS HT_ 10 43 ?_
  refine pS HT_ 11 44 ?_
  refine tS HT_ HW_ 4 37 hHeld ?_
  refine tS HT_ HW_ 6 39 hHeld ?_
  refine tS HT_ HW_ 8 41 hHeld ?_
  refine tS HT_ HW_ 12 45 hHeld ?_
  refine pS HT_ 13 46 ?_
  refine pS HT_ 14 47 ?_
  refine oS HT_ 15 (some 48) (fun K hK=>?_)
  have hHeld2:Aside0 ((wd.alloc (.cells #[.int .i64 x.f0,.int .i64 x.f1,.int .i64 (c.st.length:Int),.bool false,.bool false] 101 (0,0))).cell? ⟨g,3,none⟩=some (.slice B c.sp.length n2)∧(wd.alloc (.cells #[.int .i64 x.f0,.int .i64 x.f1,.int .i64 (c.st.length:Int),.bool false,.bool false] 101 (0,0))).cell? ⟨g,2,none⟩=some (.slice A c.st.length n1)∧(wd.alloc (.cells #[.int .i64 x.f0,.int .i64 x.f1,.int .i64 (c.st.length:Int),.bool false,.bool false] 101 (0,0))).cell? ⟨gx,1,none⟩=some (.int .i64 x.f1)∧(wd.alloc (.cells #[.int .i64 x.f0,.int .i64 x.f1,.int .i64 (c.st.length:Int),.bool false,.bool false] 101 (0,0))).cell? ⟨gx,0,none⟩=some (.int .i64 x.f0)):=⟨by obtain⟨s0_,s1_,s2_,s3_⟩:=hHeld;exact⟨cl_ (below_alloc (Below.refl _ _) _) s0_,cl_ (below_alloc (Below.refl _ _) _) s1_,cl_ (below_alloc (Below.refl _ _) _) s2_,cl_ (below_alloc (Below.refl _ _) _) s3_⟩⟩
  refine value_ (w1:=(wd.alloc (.cells #[.int .i64 x.f0,.int .i64 x.f1,.int .i64 (c.st.length:Int),.bool false,.bool false] 101 (0,0)))) (v:=.slice (some ⟨wd.heap.size,0,none⟩) 1 1) (by rfl) rfl (by first|(go_simp;done)|(go_simp;rfl)) ?_
  clear hHeld
  refine hK.out _ _ hHeld2.out (fun hHeld=>?_)
  clear hK K
  refine nS (some 48) ?_
  refine oS HT_ 16 (some 49) (fun K hK=>?_)
  refine Kd.R_append_step k101 w0.heap.size (by rfl) (.tmp 37) (.tmp 48) 97 101 (.agg #[.int .i64 0,.int .i64 0,.int .i64 0,.bool false,.bool false]) 32 rfl Try.underlying97 info101 rfl (by decide) (by omega) (.slice B c.sp.length n2) c.sp (⟨x.f0,x.f1,(c.st.length:Int),false,false⟩:S101) [.int .i64 x.f0,.int .i64 x.f1,.int .i64 (c.st.length:Int),.bool false,.bool false] (fun _=>True) (fun _=>False) rfl rfl ?aP (fun _ hk=>hk.elim) (fun _ _=>trivial) HO.out.2.2.2.2 HO.out.2.1 HO.out.2.1.size ?aL ?_;(case aP=>exact k101_mkM _ _ _ (⟨x.f0,x.f1,(c.st.length:Int),false,false⟩:S101));(case aL=>have:=HLP.out;omega)
  intro v1 wa hv hb hg hat
  obtain⟨hblk,B',n',e_,hN⟩:=HO.out.appP hv hb hg;subst e_;have HB:=A_ hblk;have HN:=A_ hN
  have hblk0:=A_ hblk
  have BX2:=A_ (blk_grown BX.out hg (fun e=>by have h7:=NX.out.2.2;cases B with|none=>cases e|some a=>exact h7 a rfl (Option.some.inj e).symm))
  clear hv hb hg hat hblk hN hHeld hHeld2
  refine hK.out _ _ ⟨(blk_cell hblk0.out 3).trans rfl,(blk_cell hblk0.out 2).trans rfl,(blk_cell BX2.out 1).trans rfl,(blk_cell BX2.out 0).trans rfl⟩ (fun hHeld=>?_)
  clear hK K
  refine nS (some 49) ?_
  refine pS HT_ 17 50 ?_
  refine pS HT_ 18 51 ?_
  refine lS HT_ 19 (none) (fun K hK=>?_)
  have ff:=blk_frozen HB.out 3
  refine skip_ (w1:=(wa.setCell ⟨g,3,none⟩ (.slice B' (c.sp.length+1) n'))) (by rfl) rfl (by first|(obtain⟨s0_,s1_,s2_,s3_⟩:=hHeld;go_simp;done)|(obtain⟨s0_,s1_,s2_,s3_⟩:=hHeld;go_simp;rfl)) ?_
  clear hHeld ff
  refine hK.out _ _ ?_
  clear hK K
  refine dS HT_ ?_
  clear HO HK
  generalize (wa.setCell ⟨g,3,none⟩ (.slice B' (c.sp.length+1) n'))=wy at*
  have HO:=HN
  go_wp2
  go_ret
  exact⟨rfl,_,_,_,_,HO.out⟩
 rw[if_neg cl] at hr;cases hr
def impl_block.T5:Bool × List (List Nat × List Nat):=(true,[([],[]),([],[]),([1],[1]),([2],[2]),([3],[3]),([],[]),([5],[5]),([],[]),([7],[7]),([8],[8]),([9],[9]),([10],[10]),([6,11],[6,11]),([12],[12]),([4,13],[4,13]),([0,0,1,2,3,4,5,6,7,8,9,10,11,12,13,14],[0]),([15,0,1,2,3,4,5,6,7,8,9,10,11,12,13,14],[15]),([16,14,14,0,1,2,3,4,5,6,7,8,9,10,11,12,13,14],[14,16])])
def impl_block.B5:List Nat:=[0,0,2,6,14,0,32,0,128,384,896,1920,4064,8160,16382,32767,65535,131071]
theorem impl_block.tab5:rtab .any (opsOf Try.f62 5)=impl_block.T5:=by kernel_rfl
theorem impl_block.bits5:waitsOk impl_block.T5.2 impl_block.B5=true:=by kernel_rfl
theorem block_4 (c c':CS S101) (A:Option Addr) (n1:Nat) (B:Option Addr) (n2:Nat) (h:Ck w0 w g q c A n1 B n2) (hq:q 1=.pointer (some pf)) (hres:w0.cell? ⟨pf.block,pf.off+1,none⟩=some (.int .i64 res)) (hop:x.f0=4) (c1:CS S101) (t:Int) (hs:takeC c 127=some (c1,t)) (hr:pushC c1 4 x.f1=some c'):
  Calls Try.prog 62 #[.pointer (some ⟨g,0,none⟩),.agg #[.int .i64 x.f0,.int .i64 x.f1]] w fun e w'=>e=.returned (.bool true)∧CkE w0 w' g q c':=by
 have HO:=A_ h
 have HK:=A_ (KeepBut.refl w g none)
 have hu71:=Try.underlying103
 have hu82:=Try.underlying101
 clear h
 have HS:=A_ hs
 clear hs
 unfold pushC at hr
 by_cases cl:c1.sp.length<4000000000000
 ·
  rw[if_pos cl] at hr
  obtain rfl:=Option.some.inj hr
  have HLP:=A_ cl
  clear cl hr
  have b4:=e1_ hop
  clear hop
  go_enter Try.func62,Try.ntmps62
  go_upto_region 5 with (first|((with_reducible refine gd_ 3 rfl ?_);refine bx_ #[.int .i64 x.f0,.int .i64 x.f1] 103 ?_;intro gx hg wx hbox hb;have BX:=A_ hbox;have NX:=A_ (HO.out.fresh_ne hg);replace HO:=A_ (HO.out.below hb);replace HK:=A_ (HK.out.trans (KeepBut.of_below hb g none) (.inl rfl));clear hbox hb hg;obtain⟨x0,x1⟩:=cp2_ BX.out)|(go_at_call 64;refine(take_any w0 _ g q _ c1 127 t A n1 _ n2 HO.out HS.out).mono ?_;rintro e w5 ⟨rfl,hO,hK⟩;replace HO:=A_ hO;replace HK:=A_ (HK.out.trans hK (.inl rfl));replace BX:=A_ (KeepBut.blk hK BX.out NX.out.1 (by simp));clear x0 x1 hO hK;obtain⟨x0,x1⟩:=cp2_ BX.out))
  have c3:=HO.out.cell3;have c2:=HO.out.cell2
  refine sS 18 (fun w'=>w'.cell? ⟨g,3,none⟩=some (.slice B c1.sp.length n2)∧w'.cell? ⟨g,2,none⟩=some (.slice A c1.st.length n1)∧w'.cell? ⟨gx,1,none⟩=some (.int .i64 x.f1)) [17] ⟨c3,c2,x1⟩ impl_block.tab5 impl_block.bits5 (fun hHeld HT_ HW_=>?_)
  have m0:=A_ HO.out.drew;have m1:=A_ (keep_drew HK.out);have m2:=A_ (blk_drew BX.out)
  clear HO HK c2 c3 x0 x1
  generalize w5.drew=wd at*
  have HO:=m0;have HK:=m1;have BX:=m2;clear m0 m1 m2
  refine pS HT_ 0 13 ?_
  refine pS HT_ 1 14 ?_
  refine pS HT_ 2 15 ?_
  refine pS HT_ 3 16 ?_
  refine pS HT_ 5 18 ?_
  refine pS HT_ 7 20 ?_
  refine pS HT_ 8 21 ?_
  refine pS HT_ 9 22 ?_
  refine tS HT_ HW_ 4 17 hHeld ?_
  refine tS HT_ HW_ 6 19 hHeld ?_
  refine tS HT_ HW_ 10 23 hHeld ?_
  refine pS HT_ 11 24 ?_
  refine pS HT_ 12 25 ?_
  refine oS HT_ 13 (some 26) (fun K hK=>?_)
  have hHeld2:Aside0 ((wd.alloc (.cells #[.int .i64 4,.int .i64 x.f1,.int .i64 (c1.st.length:Int),.bool false,.bool false] 101 (0,0))).cell? ⟨g,3,none⟩=some (.slice B c1.sp.length n2)∧(wd.alloc (.cells #[.int .i64 4,.int .i64 x.f1,.int .i64 (c1.st.length:Int),.bool false,.bool false] 101 (0,0))).cell? ⟨g,2,none⟩=some (.slice A c1.st.length n1)∧(wd.alloc (.cells #[.int .i64 4,.int .i64 x.f1,.int .i64 (c1.st.length:Int),.bool false,.bool false] 101 (0,0))).cell? ⟨gx,1,none⟩=some (.int .i64 x.f1)):=⟨by obtain⟨s0_,s1_,s2_⟩:=hHeld;exact⟨cl_ (below_alloc (Below.refl _ _) _) s0_,cl_ (below_alloc (Below.refl _ _) _) s1_,cl_ (below_alloc (Below.refl _ _) _) s2_⟩⟩
  refine value_ (w1:=(wd.alloc (.cells #[.int .i64 4,.int .i64 x.f1,.int .i64 (c1.st.length:Int),.bool false,.bool false] 101 (0,0)))) (v:=.slice (some ⟨wd.heap.size,0,none⟩) 1 1) (by rfl) rfl (by first|(go_simp;done)|(go_simp;rfl)) ?_
  clear hHeld
  refine hK.out _ _ hHeld2.out (fun hHeld=>?_)
  clear hK K
  refine nS (some 26) ?_
  refine oS HT_ 14 (some 27) (fun K hK=>?_)
  refine Kd.R_append_step k101 w0.heap.size (by rfl) (.tmp 17) (.tmp 26) 97 101 (.agg #[.int .i64 0,.int .i64 0,.int .i64 0,.bool false,.bool false]) 32 rfl Try.underlying97 info101 rfl (by decide) (by omega) (.slice B c1.sp.length n2) c1.sp (⟨4,x.f1,(c1.st.length:Int),false,false⟩:S101) [.int .i64 4,.int .i64 x.f1,.int .i64 (c1.st.length:Int),.bool false,.bool false] (fun _=>True) (fun _=>False) rfl rfl ?aP (fun _ hk=>hk.elim) (fun _ _=>trivial) HO.out.2.2.2.2 HO.out.2.1 HO.out.2.1.size ?aL ?_;(case aP=>exact k101_mkM _ _ _ (⟨4,x.f1,(c1.st.length:Int),false,false⟩:S101));(case aL=>have:=HLP.out;omega)
  intro v1 wa hv hb hg hat
  obtain⟨hblk,B',n',e_,hN⟩:=HO.out.appP hv hb hg;subst e_;have HB:=A_ hblk;have HN:=A_ hN
  have hblk0:=A_ hblk
  have BX2:=A_ (blk_grown BX.out hg (fun e=>by have h7:=NX.out.2.2;cases B with|none=>cases e|some a=>exact h7 a rfl (Option.some.inj e).symm))
  clear hv hb hg hat hblk hN hHeld hHeld2
  refine hK.out _ _ ⟨(blk_cell hblk0.out 3).trans rfl,(blk_cell hblk0.out 2).trans rfl,(blk_cell BX2.out 1).trans rfl⟩ (fun hHeld=>?_)
  clear hK K
  refine nS (some 27) ?_
  refine pS HT_ 15 28 ?_
  refine pS HT_ 16 29 ?_
  refine lS HT_ 17 (none) (fun K hK=>?_)
  have ff:=blk_frozen HB.out 3
  refine skip_ (w1:=(wa.setCell ⟨g,3,none⟩ (.slice B' (c1.sp.length+1) n'))) (by rfl) rfl (by first|(obtain⟨s0_,s1_,s2_⟩:=hHeld;go_simp;done)|(obtain⟨s0_,s1_,s2_⟩:=hHeld;go_simp;rfl)) ?_
  clear hHeld ff
  refine hK.out _ _ ?_
  clear hK K
  refine dS HT_ ?_
  clear HO HK
  generalize (wa.setCell ⟨g,3,none⟩ (.slice B' (c1.sp.length+1) n'))=wy at*
  have HO:=HN
  go_wp2
  go_ret
  exact⟨rfl,_,_,_,_,HO.out⟩
 rw[if_neg cl] at hr;cases hr
theorem block_5 (c c':CS S101) (A:Option Addr) (n1:Nat) (B:Option Addr) (n2:Nat) (h:Ck w0 w g q c A n1 B n2) (hq:q 1=.pointer (some pf)) (hres:w0.cell? ⟨pf.block,pf.off+1,none⟩=some (.int .i64 res)) (hop:x.f0=5) (c1:CS S101) (hk:closeC c=some c1) (hr:elseC c1=some c'):
  Calls Try.prog 62 #[.pointer (some ⟨g,0,none⟩),.agg #[.int .i64 x.f0,.int .i64 x.f1]] w fun e w'=>e=.returned (.bool true)∧CkE w0 w' g q c':=by
 have HO:=A_ h
 have HK:=A_ (KeepBut.refl w g none)
 have hu71:=Try.underlying103
 have hu82:=Try.underlying101
 clear h
 have b4:=ne_ hop 4
 have b2:=ne_ hop 2
 have b3:=ne_ hop 3
 have b5:=e1_ hop
 have HT:=A_ hk
 obtain⟨b,hb,hr1⟩:=Option.bind_eq_some_iff.1 hr
 obtain rfl:=Option.some.inj hr1
 have HBB:=A_ hb
 have HLT:=A_ (List.getElem?_eq_some_iff.1 hb).1
 have HP:=A_ (show 0<c1.sp.length by have:=HLT.out;omega)
 clear hk hb hr hr1 hop
 go_enter Try.func62,Try.ntmps62
 go_upto_region 11 with (first|((with_reducible refine gd_ 3 rfl ?_);refine bx_ #[.int .i64 x.f0,.int .i64 x.f1] 103 ?_;intro gx hg wx hbox hb;have BX:=A_ hbox;have NX:=A_ (HO.out.fresh_ne hg);replace HO:=A_ (HO.out.below hb);replace HK:=A_ (HK.out.trans (KeepBut.of_below hb g none) (.inl rfl));clear hbox hb hg;obtain⟨x0,x1⟩:=cp2_ BX.out)|(go_at_call 83;refine(close_any w0 _ g q _ c1 A n1 _ n2 HO.out HT.out).mono ?_;rintro e w5 ⟨rfl,hO,hK⟩;replace HO:=A_ hO;replace HK:=A_ (HK.out.trans hK (.inl rfl));replace BX:=A_ (KeepBut.blk hK BX.out NX.out.1 (by simp));clear x0 x1 hO hK;obtain⟨x0,x1⟩:=cp2_ BX.out))
 obtain⟨gB,rfl,_⟩:=HO.out.span _ b HBB.out
 go_wp2_with (first|(go_at_call 84;refine(top_any w0 _ g q _ A n1 gB n2 HP.out HO.out).mono ?_;rintro e wt ⟨rfl,hd⟩;obtain⟨nd,hnd⟩:=hd;replace HO:=A_ (show Ck w0 wt g q _ _ n1 (some ⟨gB,0,none⟩) n2 from by rw[hnd];exact HO.out.drewN nd);replace HK:=A_ (show KeepBut w wt g none from by rw[hnd];exact keep_drewN HK.out nd);clear hnd;obtain⟨_,e_,_,_,_,_,s3,s4,sf⟩:=HO.out.span (c1.sp.length - 1) b HBB.out;cases e_;have u3:=sf ((c1.sp.length - 1)*5+3);have u4:=sf ((c1.sp.length - 1)*5+4);clear sf)|((with_reducible refine gate_store (t:=4) (p:=61) rfl ?_);refine store_event (t:=4) (p:=61) (v:=?vo_) (w1:=(wt.setCell ⟨gB,(c1.sp.length - 1)*5+3,none⟩ (.bool false))) ?hg ?ho ?hn ?hr ?_;(case ho=>rfl);(case hg=>rfl);(case hn=>rfl);(case hr=>first|(go_simp;done)|(go_simp;rfl));intro w6 hw;replace HO:=A_ (show Ck w0 w6 g q _ A n1 (some ⟨gB,0,none⟩) n2 from by rw[hw];exact(HO.out.flag gB (c1.sp.length - 1) b HBB.out false).1);clear s3 u3 s4 u4 hw;obtain⟨_,e_,_,_,_,_,_,s4,sf⟩:=HO.out.span (c1.sp.length - 1) {b with f3:=false} (by rw[List.getElem?_set_self];exact HLT.out);cases e_;have u4:=sf ((c1.sp.length - 1)*5+4);clear sf))
 go_ret
 refine⟨rfl,A,n1,some ⟨gB,0,none⟩,n2,?_⟩
 have h9:=(HO.out.flag gB (c1.sp.length - 1) {b with f3:=false} (by rw[List.getElem?_set_self];exact HLT.out) true).2
 simp only[List.set_set] at h9
 exact h9
theorem block_11 (c c':CS S101) (A:Option Addr) (n1:Nat) (B:Option Addr) (n2:Nat) (h:Ck w0 w g q c A n1 B n2) (hq:q 1=.pointer (some pf)) (hres:w0.cell? ⟨pf.block,pf.off+1,none⟩=some (.int .i64 res)) (hop:x.f0=11) (c1:CS S101) (hk:closeC c=some c1) (hr:endC c1=some c'):
  Calls Try.prog 62 #[.pointer (some ⟨g,0,none⟩),.agg #[.int .i64 x.f0,.int .i64 x.f1]] w fun e w'=>e=.returned (.bool true)∧CkE w0 w' g q c':=by
 have HO:=A_ h
 have HK:=A_ (KeepBut.refl w g none)
 have hu71:=Try.underlying103
 have hu82:=Try.underlying101
 clear h
 have b4:=ne_ hop 4
 have b2:=ne_ hop 2
 have b3:=ne_ hop 3
 have b5:=ne_ hop 5
 have b11:=e1_ hop
 have HT:=A_ hk
 obtain⟨b,hb,hr1⟩:=Option.bind_eq_some_iff.1 hr
 have HBB:=A_ hb
 have HLT:=A_ (List.getElem?_eq_some_iff.1 hb).1
 have HP:=A_ (show 0<c1.sp.length by have:=HLT.out;omega)
 have HL1:=A_ (Nat.sub_le c1.sp.length 1)
 clear hk hb hr hop
 go_enter Try.func62,Try.ntmps62
 go_upto_region 14 with (first|((with_reducible refine gd_ 3 rfl ?_);refine bx_ #[.int .i64 x.f0,.int .i64 x.f1] 103 ?_;intro gx hg wx hbox hb;have BX:=A_ hbox;have NX:=A_ (HO.out.fresh_ne hg);replace HO:=A_ (HO.out.below hb);replace HK:=A_ (HK.out.trans (KeepBut.of_below hb g none) (.inl rfl));clear hbox hb hg;obtain⟨x0,x1⟩:=cp2_ BX.out)|(go_at_call 83;refine(close_any w0 _ g q _ c1 A n1 _ n2 HO.out HT.out).mono ?_;rintro e w5 ⟨rfl,hO,hK⟩;replace HO:=A_ hO;replace HK:=A_ (HK.out.trans hK (.inl rfl));replace BX:=A_ (KeepBut.blk hK BX.out NX.out.1 (by simp));clear x0 x1 hO hK;obtain⟨x0,x1⟩:=cp2_ BX.out))
 obtain⟨gB,rfl,_,s0,s1,s2,s3,s4,_⟩:=HO.out.span _ b HBB.out
 have hm:=HO.out.lenP
 have e1:IntKind.i64.wrap ((c1.sp.length:Int) - 1)=((c1.sp.length - 1:Nat):Int):=by have:=HP.out;rw[show ((c1.sp.length:Int) - 1)=((c1.sp.length - 1:Nat):Int) by omega];exact IntWalk.i64_in _ (by omega)
 have q1:(0:Int)≤((c1.sp.length - 1:Nat):Int):=by omega
 have q3:((c1.sp.length - 1:Nat):Int)≤(n2:Int):=by omega
 clear hm
 go_upto_region 15 with (first|(go_at_call 84;refine(top_any w0 _ g q _ A n1 gB n2 HP.out HO.out).mono ?_;rintro e wt ⟨rfl,hd⟩;obtain⟨nd,hnd⟩:=hd;replace HO:=A_ (show Ck w0 wt g q _ _ n1 (some ⟨gB,0,none⟩) n2 from by rw[hnd];exact HO.out.drewN nd);replace HK:=A_ (show KeepBut w wt g none from by rw[hnd];exact keep_drewN HK.out nd);clear s0 s1 s2 s3 s4 hnd;obtain⟨_,e_,_,s0,s1,s2,s3,s4,_⟩:=HO.out.span (c1.sp.length - 1) b HBB.out;cases e_)|((with_reducible refine gd_ 5 rfl ?_);refine bx_ #[(.int .i64 0),(.int .i64 0),(.int .i64 0),(.bool false),(.bool false)] 101 ?_;intro gy hg wy hbox hb;have BY:=A_ hbox;have GY:=A_ (show w.heap.size≤gy from by rw[hg];exact HK.out.1);have NY:=A_ (HO.out.fresh_ne hg);have GG:=A_ (Nat.le_trans HO.out.2.1.size (Nat.le_of_eq hg.symm));replace HO:=A_ (HO.out.below hb);replace HK:=A_ (HK.out.trans (KeepBut.of_below hb g none) (.inl rfl));clear BX x0 x1 hbox hb hg;obtain⟨y0,y1,y2,y3,y4⟩:=cp5_ BY.out;obtain⟨vy0,vy1,vy2,vy3,vy4⟩:=fz5_ BY.out)|((with_reducible refine gate_store (t:=101) (p:=5) rfl ?_);refine store_event (t:=101) (p:=5) (v:=?vo_) (w1:=(((((wy.setCell ⟨gy,0,none⟩ ((.int .i64 b.f0))).setCell ⟨gy,1,none⟩ ((.int .i64 b.f1))).setCell ⟨gy,2,none⟩ ((.int .i64 b.f2))).setCell ⟨gy,3,none⟩ ((.bool b.f3))).setCell ⟨gy,4,none⟩ ((.bool b.f4)))) ?hg ?ho ?hn ?hr ?_;(case ho=>rfl);(case hg=>rfl);(case hn=>rfl);(case hr=>first|(go_simp;done)|(go_simp;rfl));intro wv hw;replace BY:Aside0 (wv.heap[gy]? =some (.cells #[(.int .i64 b.f0),(.int .i64 b.f1),(.int .i64 b.f2),(.bool b.f3),(.bool b.f4)] 101 (0,0))):=⟨by rw[hw];exact blk_put (cs:=#[(.int .i64 b.f0),(.int .i64 b.f1),(.int .i64 b.f2),(.bool b.f3),(.bool false)]) (blk_put (cs:=#[(.int .i64 b.f0),(.int .i64 b.f1),(.int .i64 b.f2),(.bool false),(.bool false)]) (blk_put (cs:=#[(.int .i64 b.f0),(.int .i64 b.f1),(.int .i64 0),(.bool false),(.bool false)]) (blk_put (cs:=#[(.int .i64 b.f0),(.int .i64 0),(.int .i64 0),(.bool false),(.bool false)]) (blk_put (cs:=#[(.int .i64 0),(.int .i64 0),(.int .i64 0),(.bool false),(.bool false)]) (BY.out) 0 ((.int .i64 b.f0)) rfl) 1 ((.int .i64 b.f1)) rfl) 2 ((.int .i64 b.f2)) rfl) 3 ((.bool b.f3)) rfl) 4 ((.bool b.f4)) rfl⟩;replace HO:Aside0 (Ck w0 wv g q _ _ n1 _ n2):=⟨by rw[hw];exact Ck.other (Ck.other (Ck.other (Ck.other (Ck.other (HO.out) GG.out NY.out 0 ((.int .i64 b.f0))) GG.out NY.out 1 ((.int .i64 b.f1))) GG.out NY.out 2 ((.int .i64 b.f2))) GG.out NY.out 3 ((.bool b.f3))) GG.out NY.out 4 ((.bool b.f4))⟩;replace HK:Aside0 (KeepBut w wv g none):=⟨by rw[hw];exact keep_other (keep_other (keep_other (keep_other (keep_other (HK.out) GY.out 0 ((.int .i64 b.f0))) GY.out 1 ((.int .i64 b.f1))) GY.out 2 ((.int .i64 b.f2))) GY.out 3 ((.bool b.f3))) GY.out 4 ((.bool b.f4))⟩;clear y0 vy0 y1 vy1 y2 vy2 y3 vy3 y4 vy4 hw;obtain⟨y0,y1,y2,y3,y4⟩:=cp5_ BY.out))
 by_cases k1:b.f0=4
 ·
  have d1:(b.f0==4)=true:=beq_iff_eq.2 k1
  by_cases k2:b.f4=false
  ·
   by_cases k3:b.f1≠64
   ·
    have d3:(b.f1 !=64)=true:=bne_iff_ne.2 k3
    rw[k2] at y4
    simp only[if_pos (show b.f0=4∧b.f4=false∧b.f1≠64 from ⟨k1,k2,k3⟩)] at hr1
    by_cases cz:0<c1.sp.length - 1
    ·
     rw[if_pos cz] at hr1
     rw[(fail_st c1 3).2] at hr1
     have HRR:=A_ hr1
     have cb:decide ((0:Int)<((c1.sp.length - 1:Nat):Int))=true:=decide_eq_true (by omega)
     have cbn:=decide_eq_true cz
     clear hr1 cz
     go_upto_region 17 with (first|(go_at_call 67;refine(fail_any w0 _ g q _ 3 A n1 _ n2 HO.out).mono ?_;rintro e w5 ⟨rfl,hO,hK⟩;replace HO:=A_ hO;replace HK:=A_ (HK.out.trans hK (.inl rfl));replace BY:=A_ (KeepBut.blk hK BY.out NY.out.1 (by simp));clear y0 y1 y2 y3 y4 hO hK;have y1:=(blk_cell BY.out 1).trans rfl))
     have c3:w5.cell? ⟨g,3,none⟩=some (.slice (some ⟨gB,0,none⟩) c1.sp.length n2):=by have h9:=HO.out.cell3;rwa [(fail_st c1 3).2] at h9
     go_still_tail 14,(by kernel_rfl)
     change wpList _ _ _ _ _ w5.drew
     have m2:=A_ (blk_drew BY.out);clear BY y1;replace HO:=A_ (HO.out.drew);replace HK:=A_ (keep_drew HK.out);clear c3;generalize w5.drew=wz at*
     have c3:wz.cell? ⟨g,3,none⟩=some (.slice (some ⟨gB,0,none⟩) c1.sp.length n2):=by have h9:=HO.out.cell3;rwa [(fail_st c1 3).2] at h9
     have y1:=(blk_cell m2.out 1).trans rfl
     have f3:=HO.out.frozen 3
     go_upto_region 18 with (fail)
     have m3:=A_ ((Below.heap_setCell wz ⟨g,3,none⟩ (.slice (some ⟨gB,0,none⟩) (c1.sp.length - 1) n2) gy NY.out.1).trans m2.out);clear m2 y1;replace HO:=A_ (HO.out.cutP (c1.sp.length - 1) (by rw[(fail_st c1 3).2];exact HL1.out));replace HK:=A_ (HK.out.set_ 3 (.slice (some ⟨gB,0,none⟩) (c1.sp.length - 1) n2));clear c3 f3;generalize wz.setCell ⟨g,3,none⟩ (.slice (some ⟨gB,0,none⟩) (c1.sp.length - 1) n2)=wu at*
     have y1:=(blk_cell m3.out 1).trans rfl
     have c3:wu.cell? ⟨g,3,none⟩=some (.slice (some ⟨gB,0,none⟩) (c1.sp.length - 1) n2):=by have h9:=HO.out.cell3;simp only[List.length_take] at h9;rwa [(fail_st c1 3).2,Nat.min_eq_left (Nat.sub_le _ _)] at h9
     have h9:=HO.out
     rw[(fail_st c1 3).2] at h9
     replace HO:=A_ h9;clear h9
     go_wp2_with (first|(go_at_call 65;refine(put_any b.f1 w0 _ g q _ c' A n1 _ n2 HO.out HRR.out).mono ?_;rintro e w8 ⟨rfl,hE⟩;have HE:=A_ hE;clear hE))
     go_ret
     exact⟨rfl,HE.out⟩
    rw[if_neg cz] at hr1
    rw[(fail_st c1 3).2] at hr1
    have HRR:=A_ (Option.some.inj hr1)
    have cb:decide ((0:Int)<((c1.sp.length - 1:Nat):Int))=false:=decide_eq_false (by omega)
    have cbn:=decide_eq_false cz
    clear hr1 cz
    go_upto_region 17 with (first|(go_at_call 67;refine(fail_any w0 _ g q _ 3 A n1 _ n2 HO.out).mono ?_;rintro e w5 ⟨rfl,hO,hK⟩;replace HO:=A_ hO;replace HK:=A_ (HK.out.trans hK (.inl rfl));replace BY:=A_ (KeepBut.blk hK BY.out NY.out.1 (by simp));clear y0 y1 y2 y3 y4 hO hK;have y1:=(blk_cell BY.out 1).trans rfl))
    have c3:w5.cell? ⟨g,3,none⟩=some (.slice (some ⟨gB,0,none⟩) c1.sp.length n2):=by have h9:=HO.out.cell3;rwa [(fail_st c1 3).2] at h9
    go_still_tail 14,(by kernel_rfl)
    change wpList _ _ _ _ _ w5.drew
    have m2:=A_ (blk_drew BY.out);clear BY y1;replace HO:=A_ (HO.out.drew);replace HK:=A_ (keep_drew HK.out);clear c3;generalize w5.drew=wz at*
    have c3:wz.cell? ⟨g,3,none⟩=some (.slice (some ⟨gB,0,none⟩) c1.sp.length n2):=by have h9:=HO.out.cell3;rwa [(fail_st c1 3).2] at h9
    have y1:=(blk_cell m2.out 1).trans rfl
    have f3:=HO.out.frozen 3
    go_upto_region 18 with (fail)
    have m3:=A_ ((Below.heap_setCell wz ⟨g,3,none⟩ (.slice (some ⟨gB,0,none⟩) (c1.sp.length - 1) n2) gy NY.out.1).trans m2.out);clear m2 y1;replace HO:=A_ (HO.out.cutP (c1.sp.length - 1) (by rw[(fail_st c1 3).2];exact HL1.out));replace HK:=A_ (HK.out.set_ 3 (.slice (some ⟨gB,0,none⟩) (c1.sp.length - 1) n2));clear c3 f3;generalize wz.setCell ⟨g,3,none⟩ (.slice (some ⟨gB,0,none⟩) (c1.sp.length - 1) n2)=wu at*
    have y1:=(blk_cell m3.out 1).trans rfl
    have c3:wu.cell? ⟨g,3,none⟩=some (.slice (some ⟨gB,0,none⟩) (c1.sp.length - 1) n2):=by have h9:=HO.out.cell3;simp only[List.length_take] at h9;rwa [(fail_st c1 3).2,Nat.min_eq_left (Nat.sub_le _ _)] at h9
    have h9:=HO.out
    rw[(fail_st c1 3).2] at h9
    replace HO:=A_ h9;clear h9
    go_wp2
    go_ret
    exact⟨rfl,_,_,_,_,by have h9:=HO.out;rw[HRR.out] at h9;exact h9⟩
   have d3:(b.f1 !=64)=false:=bne_eq_false_iff_eq.2 (Classical.not_not.1 k3)
   rw[k2] at y4
   simp only[if_neg (show ¬(b.f0=4∧b.f4=false∧b.f1≠64) from(fun h=>k3 h.2.2))] at hr1
   by_cases cz:0<c1.sp.length - 1
   ·
    rw[if_pos cz] at hr1
    have HRR:=A_ hr1
    have cb:decide ((0:Int)<((c1.sp.length - 1:Nat):Int))=true:=decide_eq_true (by omega)
    have cbn:=decide_eq_true cz
    clear hr1 cz
    go_upto_region 17 with (fail)
    have c3:wv.cell? ⟨g,3,none⟩=some (.slice (some ⟨gB,0,none⟩) c1.sp.length n2):=by have h9:=HO.out.cell3;exact h9
    go_still_tail 14,(by kernel_rfl)
    change wpList _ _ _ _ _ wv.drew
    have m2:=A_ (blk_drew BY.out);clear BY y0 y1 y2 y3 y4;replace HO:=A_ (HO.out.drew);replace HK:=A_ (keep_drew HK.out);clear c3;generalize wv.drew=wz at*
    have c3:wz.cell? ⟨g,3,none⟩=some (.slice (some ⟨gB,0,none⟩) c1.sp.length n2):=by have h9:=HO.out.cell3;exact h9
    have y1:=(blk_cell m2.out 1).trans rfl
    have f3:=HO.out.frozen 3
    go_upto_region 18 with (fail)
    have m3:=A_ ((Below.heap_setCell wz ⟨g,3,none⟩ (.slice (some ⟨gB,0,none⟩) (c1.sp.length - 1) n2) gy NY.out.1).trans m2.out);clear m2 y1;replace HO:=A_ (HO.out.cutP (c1.sp.length - 1) (by exact HL1.out));replace HK:=A_ (HK.out.set_ 3 (.slice (some ⟨gB,0,none⟩) (c1.sp.length - 1) n2));clear c3 f3;generalize wz.setCell ⟨g,3,none⟩ (.slice (some ⟨gB,0,none⟩) (c1.sp.length - 1) n2)=wu at*
    have y1:=(blk_cell m3.out 1).trans rfl
    have c3:wu.cell? ⟨g,3,none⟩=some (.slice (some ⟨gB,0,none⟩) (c1.sp.length - 1) n2):=by have h9:=HO.out.cell3;simp only[List.length_take] at h9;rwa [Nat.min_eq_left (Nat.sub_le _ _)] at h9
    go_wp2_with (first|(go_at_call 65;refine(put_any b.f1 w0 _ g q _ c' A n1 _ n2 HO.out HRR.out).mono ?_;rintro e w8 ⟨rfl,hE⟩;have HE:=A_ hE;clear hE))
    go_ret
    exact⟨rfl,HE.out⟩
   rw[if_neg cz] at hr1
   have HRR:=A_ (Option.some.inj hr1)
   have cb:decide ((0:Int)<((c1.sp.length - 1:Nat):Int))=false:=decide_eq_false (by omega)
   have cbn:=decide_eq_false cz
   clear hr1 cz
   go_upto_region 17 with (fail)
   have c3:wv.cell? ⟨g,3,none⟩=some (.slice (some ⟨gB,0,none⟩) c1.sp.length n2):=by have h9:=HO.out.cell3;exact h9
   go_still_tail 14,(by kernel_rfl)
   change wpList _ _ _ _ _ wv.drew
   have m2:=A_ (blk_drew BY.out);clear BY y0 y1 y2 y3 y4;replace HO:=A_ (HO.out.drew);replace HK:=A_ (keep_drew HK.out);clear c3;generalize wv.drew=wz at*
   have c3:wz.cell? ⟨g,3,none⟩=some (.slice (some ⟨gB,0,none⟩) c1.sp.length n2):=by have h9:=HO.out.cell3;exact h9
   have y1:=(blk_cell m2.out 1).trans rfl
   have f3:=HO.out.frozen 3
   go_upto_region 18 with (fail)
   have m3:=A_ ((Below.heap_setCell wz ⟨g,3,none⟩ (.slice (some ⟨gB,0,none⟩) (c1.sp.length - 1) n2) gy NY.out.1).trans m2.out);clear m2 y1;replace HO:=A_ (HO.out.cutP (c1.sp.length - 1) (by exact HL1.out));replace HK:=A_ (HK.out.set_ 3 (.slice (some ⟨gB,0,none⟩) (c1.sp.length - 1) n2));clear c3 f3;generalize wz.setCell ⟨g,3,none⟩ (.slice (some ⟨gB,0,none⟩) (c1.sp.length - 1) n2)=wu at*
   have y1:=(blk_cell m3.out 1).trans rfl
   have c3:wu.cell? ⟨g,3,none⟩=some (.slice (some ⟨gB,0,none⟩) (c1.sp.length - 1) n2):=by have h9:=HO.out.cell3;simp only[List.length_take] at h9;rwa [Nat.min_eq_left (Nat.sub_le _ _)] at h9
   go_wp2
   go_ret
   exact⟨rfl,_,_,_,_,by have h9:=HO.out;rw[HRR.out] at h9;exact h9⟩
  have d2:b.f4=true:=by simpa using k2
  rw[d2] at y4
  simp only[if_neg (show ¬(b.f0=4∧b.f4=false∧b.f1≠64) from(fun h=>k2 h.2.1))] at hr1
  by_cases cz:0<c1.sp.length - 1
  ·
   rw[if_pos cz] at hr1
   have HRR:=A_ hr1
   have cb:decide ((0:Int)<((c1.sp.length - 1:Nat):Int))=true:=decide_eq_true (by omega)
   have cbn:=decide_eq_true cz
   clear hr1 cz
   go_upto_region 17 with (fail)
   have c3:wv.cell? ⟨g,3,none⟩=some (.slice (some ⟨gB,0,none⟩) c1.sp.length n2):=by have h9:=HO.out.cell3;exact h9
   go_still_tail 14,(by kernel_rfl)
   change wpList _ _ _ _ _ wv.drew
   have m2:=A_ (blk_drew BY.out);clear BY y0 y1 y2 y3 y4;replace HO:=A_ (HO.out.drew);replace HK:=A_ (keep_drew HK.out);clear c3;generalize wv.drew=wz at*
   have c3:wz.cell? ⟨g,3,none⟩=some (.slice (some ⟨gB,0,none⟩) c1.sp.length n2):=by have h9:=HO.out.cell3;exact h9
   have y1:=(blk_cell m2.out 1).trans rfl
   have f3:=HO.out.frozen 3
   go_upto_region 18 with (fail)
   have m3:=A_ ((Below.heap_setCell wz ⟨g,3,none⟩ (.slice (some ⟨gB,0,none⟩) (c1.sp.length - 1) n2) gy NY.out.1).trans m2.out);clear m2 y1;replace HO:=A_ (HO.out.cutP (c1.sp.length - 1) (by exact HL1.out));replace HK:=A_ (HK.out.set_ 3 (.slice (some ⟨gB,0,none⟩) (c1.sp.length - 1) n2));clear c3 f3;generalize wz.setCell ⟨g,3,none⟩ (.slice (some ⟨gB,0,none⟩) (c1.sp.length - 1) n2)=wu at*
   have y1:=(blk_cell m3.out 1).trans rfl
   have c3:wu.cell? ⟨g,3,none⟩=some (.slice (some ⟨gB,0,none⟩) (c1.sp.length - 1) n2):=by have h9:=HO.out.cell3;simp only[List.length_take] at h9;rwa [Nat.min_eq_left (Nat.sub_le _ _)] at h9
   go_wp2_with (first|(go_at_call 65;refine(put_any b.f1 w0 _ g q _ c' A n1 _ n2 HO.out HRR.out).mono ?_;rintro e w8 ⟨rfl,hE⟩;have HE:=A_ hE;clear hE))
   go_ret
   exact⟨rfl,HE.out⟩
  rw[if_neg cz] at hr1
  have HRR:=A_ (Option.some.inj hr1)
  have cb:decide ((0:Int)<((c1.sp.length - 1:Nat):Int))=false:=decide_eq_false (by omega)
  have cbn:=decide_eq_false cz
  clear hr1 cz
  go_upto_region 17 with (fail)
  have c3:wv.cell? ⟨g,3,none⟩=some (.slice (some ⟨gB,0,none⟩) c1.sp.length n2):=by have h9:=HO.out.cell3;exact h9
  go_still_tail 14,(by kernel_rfl)
  change wpList _ _ _ _ _ wv.drew
  have m2:=A_ (blk_drew BY.out);clear BY y0 y1 y2 y3 y4;replace HO:=A_ (HO.out.drew);replace HK:=A_ (keep_drew HK.out);clear c3;generalize wv.drew=wz at*
  have c3:wz.cell? ⟨g,3,none⟩=some (.slice (some ⟨gB,0,none⟩) c1.sp.length n2):=by have h9:=HO.out.cell3;exact h9
  have y1:=(blk_cell m2.out 1).trans rfl
  have f3:=HO.out.frozen 3
  go_upto_region 18 with (fail)
  have m3:=A_ ((Below.heap_setCell wz ⟨g,3,none⟩ (.slice (some ⟨gB,0,none⟩) (c1.sp.length - 1) n2) gy NY.out.1).trans m2.out);clear m2 y1;replace HO:=A_ (HO.out.cutP (c1.sp.length - 1) (by exact HL1.out));replace HK:=A_ (HK.out.set_ 3 (.slice (some ⟨gB,0,none⟩) (c1.sp.length - 1) n2));clear c3 f3;generalize wz.setCell ⟨g,3,none⟩ (.slice (some ⟨gB,0,none⟩) (c1.sp.length - 1) n2)=wu at*
  have y1:=(blk_cell m3.out 1).trans rfl
  have c3:wu.cell? ⟨g,3,none⟩=some (.slice (some ⟨gB,0,none⟩) (c1.sp.length - 1) n2):=by have h9:=HO.out.cell3;simp only[List.length_take] at h9;rwa [Nat.min_eq_left (Nat.sub_le _ _)] at h9
  go_wp2
  go_ret
  exact⟨rfl,_,_,_,_,by have h9:=HO.out;rw[HRR.out] at h9;exact h9⟩
 have d1:(b.f0==4)=false:=beq_eq_false_iff_ne.2 k1
 simp only[if_neg (show ¬(b.f0=4∧b.f4=false∧b.f1≠64) from(fun h=>k1 h.1))] at hr1
 by_cases cz:0<c1.sp.length - 1
 ·
  rw[if_pos cz] at hr1
  have HRR:=A_ hr1
  have cb:decide ((0:Int)<((c1.sp.length - 1:Nat):Int))=true:=decide_eq_true (by omega)
  have cbn:=decide_eq_true cz
  clear hr1 cz
  go_upto_region 17 with (fail)
  have c3:wv.cell? ⟨g,3,none⟩=some (.slice (some ⟨gB,0,none⟩) c1.sp.length n2):=by have h9:=HO.out.cell3;exact h9
  go_still_tail 14,(by kernel_rfl)
  change wpList _ _ _ _ _ wv.drew
  have m2:=A_ (blk_drew BY.out);clear BY y0 y1 y2 y3 y4;replace HO:=A_ (HO.out.drew);replace HK:=A_ (keep_drew HK.out);clear c3;generalize wv.drew=wz at*
  have c3:wz.cell? ⟨g,3,none⟩=some (.slice (some ⟨gB,0,none⟩) c1.sp.length n2):=by have h9:=HO.out.cell3;exact h9
  have y1:=(blk_cell m2.out 1).trans rfl
  have f3:=HO.out.frozen 3
  go_upto_region 18 with (fail)
  have m3:=A_ ((Below.heap_setCell wz ⟨g,3,none⟩ (.slice (some ⟨gB,0,none⟩) (c1.sp.length - 1) n2) gy NY.out.1).trans m2.out);clear m2 y1;replace HO:=A_ (HO.out.cutP (c1.sp.length - 1) (by exact HL1.out));replace HK:=A_ (HK.out.set_ 3 (.slice (some ⟨gB,0,none⟩) (c1.sp.length - 1) n2));clear c3 f3;generalize wz.setCell ⟨g,3,none⟩ (.slice (some ⟨gB,0,none⟩) (c1.sp.length - 1) n2)=wu at*
  have y1:=(blk_cell m3.out 1).trans rfl
  have c3:wu.cell? ⟨g,3,none⟩=some (.slice (some ⟨gB,0,none⟩) (c1.sp.length - 1) n2):=by have h9:=HO.out.cell3;simp only[List.length_take] at h9;rwa [Nat.min_eq_left (Nat.sub_le _ _)] at h9
  go_wp2_with (first|(go_at_call 65;refine(put_any b.f1 w0 _ g q _ c' A n1 _ n2 HO.out HRR.out).mono ?_;rintro e w8 ⟨rfl,hE⟩;have HE:=A_ hE;clear hE))
  go_ret
  exact⟨rfl,HE.out⟩
 rw[if_neg cz] at hr1
 have HRR:=A_ (Option.some.inj hr1)
 have cb:decide ((0:Int)<((c1.sp.length - 1:Nat):Int))=false:=decide_eq_false (by omega)
 have cbn:=decide_eq_false cz
 clear hr1 cz
 go_upto_region 17 with (fail)
 have c3:wv.cell? ⟨g,3,none⟩=some (.slice (some ⟨gB,0,none⟩) c1.sp.length n2):=by have h9:=HO.out.cell3;exact h9
 go_still_tail 14,(by kernel_rfl)
 change wpList _ _ _ _ _ wv.drew
 have m2:=A_ (blk_drew BY.out);clear BY y0 y1 y2 y3 y4;replace HO:=A_ (HO.out.drew);replace HK:=A_ (keep_drew HK.out);clear c3;generalize wv.drew=wz at*
 have c3:wz.cell? ⟨g,3,none⟩=some (.slice (some ⟨gB,0,none⟩) c1.sp.length n2):=by have h9:=HO.out.cell3;exact h9
 have y1:=(blk_cell m2.out 1).trans rfl
 have f3:=HO.out.frozen 3
 go_upto_region 18 with (fail)
 have m3:=A_ ((Below.heap_setCell wz ⟨g,3,none⟩ (.slice (some ⟨gB,0,none⟩) (c1.sp.length - 1) n2) gy NY.out.1).trans m2.out);clear m2 y1;replace HO:=A_ (HO.out.cutP (c1.sp.length - 1) (by exact HL1.out));replace HK:=A_ (HK.out.set_ 3 (.slice (some ⟨gB,0,none⟩) (c1.sp.length - 1) n2));clear c3 f3;generalize wz.setCell ⟨g,3,none⟩ (.slice (some ⟨gB,0,none⟩) (c1.sp.length - 1) n2)=wu at*
 have y1:=(blk_cell m3.out 1).trans rfl
 have c3:wu.cell? ⟨g,3,none⟩=some (.slice (some ⟨gB,0,none⟩) (c1.sp.length - 1) n2):=by have h9:=HO.out.cell3;simp only[List.length_take] at h9;rwa [Nat.min_eq_left (Nat.sub_le _ _)] at h9
 go_wp2
 go_ret
 exact⟨rfl,_,_,_,_,by have h9:=HO.out;rw[HRR.out] at h9;exact h9⟩
set_option maxHeartbeats 1000000 in
theorem block_any (c c':CS S101) (r:Bool) (A:Option Addr) (n1:Nat) (B:Option Addr) (n2:Nat) (h:Ck w0 w g q c A n1 B n2) (hq:q 1=.pointer (some pf)) (hres:w0.cell? ⟨pf.block,pf.off+1,none⟩=some (.int .i64 res)) (hr:blockC c res x=some (c',r)):
  Calls Try.prog 62 #[.pointer (some ⟨g,0,none⟩),.agg #[.int .i64 x.f0,.int .i64 x.f1]] w fun e w'=>e=.returned (.bool r)∧(r=true→CkE w0 w' g q c')∧(r=false→c'=c∧Ck w0 w' g q c A n1 B n2∧KeepBut w w' g none):=by
 have yes:∀ {P:Ending→World→Prop},r=true→Calls Try.prog 62 #[.pointer (some ⟨g,0,none⟩),.agg #[.int .i64 x.f0,.int .i64 x.f1]] w (fun e w'=>e=.returned (.bool true)∧CkE w0 w' g q c')→Calls Try.prog 62 #[.pointer (some ⟨g,0,none⟩),.agg #[.int .i64 x.f0,.int .i64 x.f1]] w (fun e w'=>e=.returned (.bool r)∧(r=true→CkE w0 w' g q c')∧(r=false→c'=c∧Ck w0 w' g q c A n1 B n2∧KeepBut w w' g none)):=by
  intro P e hc
  subst e
  exact hc.mono fun e w' hh=>⟨hh.1,fun _=>hh.2,(fun h=>by cases h)⟩
 unfold blockC at hr
 by_cases k4:x.f0=4
 ·
  rw[if_pos k4] at hr
  obtain⟨⟨c1,t⟩,h1,hr⟩:=Option.bind_eq_some_iff.1 hr
  obtain⟨c2,h2,hr⟩:=Option.bind_eq_some_iff.1 hr
  simp only[Option.some.injEq,Prod.mk.injEq] at hr
  obtain⟨rfl,e⟩:=hr
  exact yes (P:=fun _ _=>True) e.symm (block_4 x res pf w0 w g q c c2 A n1 B n2 h hq hres k4 c1 t h1 h2)
 rw[if_neg k4] at hr
 by_cases k23:x.f0=2∨x.f0=3
 ·
  rw[if_pos k23] at hr
  obtain⟨c2,h2,hr⟩:=Option.bind_eq_some_iff.1 hr
  simp only[Option.some.injEq,Prod.mk.injEq] at hr
  obtain⟨rfl,e⟩:=hr
  exact yes (P:=fun _ _=>True) e.symm (block_23 x res pf w0 w g q c c2 A n1 B n2 h hq hres k23 h2)
 rw[if_neg k23] at hr
 by_cases k5:x.f0=5
 ·
  rw[if_pos k5] at hr
  obtain⟨c1,h1,hr⟩:=Option.bind_eq_some_iff.1 hr
  obtain⟨c2,h2,hr⟩:=Option.bind_eq_some_iff.1 hr
  simp only[Option.some.injEq,Prod.mk.injEq] at hr
  obtain⟨rfl,e⟩:=hr
  exact yes (P:=fun _ _=>True) e.symm (block_5 x res pf w0 w g q c c2 A n1 B n2 h hq hres k5 c1 h1 h2)
 rw[if_neg k5] at hr
 by_cases k11:x.f0=11
 ·
  rw[if_pos k11] at hr
  obtain⟨c1,h1,hr⟩:=Option.bind_eq_some_iff.1 hr
  obtain⟨c2,h2,hr⟩:=Option.bind_eq_some_iff.1 hr
  simp only[Option.some.injEq,Prod.mk.injEq] at hr
  obtain⟨rfl,e⟩:=hr
  exact yes (P:=fun _ _=>True) e.symm (block_11 x res pf w0 w g q c c2 A n1 B n2 h hq hres k11 c1 h1 h2)
 rw[if_neg k11] at hr
 by_cases k12:x.f0=12
 ·
  rw[if_pos k12] at hr
  obtain⟨⟨cw,t⟩,h1,hr⟩:=Option.bind_eq_some_iff.1 hr
  obtain⟨c1,h2,hr⟩:=Option.bind_eq_some_iff.1 hr
  obtain⟨c2,h3,hr⟩:=Option.bind_eq_some_iff.1 hr
  simp only[Option.some.injEq,Prod.mk.injEq] at hr
  obtain⟨rfl,e⟩:=hr
  exact yes (P:=fun _ _=>True) e.symm (block_12 x res pf w0 w g q c c2 A n1 B n2 h hq hres k12 cw c1 t h1 h2 h3)
 rw[if_neg k12] at hr
 by_cases k13:x.f0=13
 ·
  rw[if_pos k13] at hr
  obtain⟨⟨cw,t⟩,h1,hr⟩:=Option.bind_eq_some_iff.1 hr
  obtain⟨⟨cs,u⟩,h2,hr⟩:=Option.bind_eq_some_iff.1 hr
  obtain⟨c1,h3,hr⟩:=Option.bind_eq_some_iff.1 hr
  obtain⟨c2,h4,hr⟩:=Option.bind_eq_some_iff.1 hr
  simp only[Option.some.injEq,Prod.mk.injEq] at hr
  obtain⟨rfl,e⟩:=hr
  exact yes (P:=fun _ _=>True) e.symm (block_13 x res pf w0 w g q c c2 A n1 B n2 h hq hres k13 cw cs c1 t u h1 h2 h3 h4)
 rw[if_neg k13] at hr
 by_cases k15:x.f0=15
 ·
  rw[if_pos k15] at hr
  obtain⟨c1,h1,hr⟩:=Option.bind_eq_some_iff.1 hr
  obtain⟨c2,h2,hr⟩:=Option.bind_eq_some_iff.1 hr
  simp only[Option.some.injEq,Prod.mk.injEq] at hr
  obtain⟨rfl,e⟩:=hr
  exact yes (P:=fun _ _=>True) e.symm (block_15 x res pf w0 w g q c c2 A n1 B n2 h hq hres k15 c1 h1 h2)
 rw[if_neg k15] at hr
 by_cases k0:x.f0=0
 ·
  rw[if_pos k0] at hr
  obtain⟨c2,h2,hr⟩:=Option.bind_eq_some_iff.1 hr
  simp only[Option.some.injEq,Prod.mk.injEq] at hr
  obtain⟨rfl,e⟩:=hr
  exact yes (P:=fun _ _=>True) e.symm (block_0 x res pf w0 w g q c c2 A n1 B n2 h hq hres k0 h2)
 rw[if_neg k0] at hr
 simp only[Option.some.injEq,Prod.mk.injEq] at hr
 obtain⟨rfl,rfl⟩:=hr
 refine(block_no x res pf w0 w g q c A n1 B n2 h hq hres ⟨k4,fun e=>k23 (.inl e),fun e=>k23 (.inr e),k5,k11,k12,k13,k15,k0⟩).mono fun e w' hh=>⟨hh.1,(fun h=>by cases h),fun _=>⟨rfl,hh.2⟩⟩
end
end Go.Proofs.Ytanhbfhmgmjdgaa.Q

