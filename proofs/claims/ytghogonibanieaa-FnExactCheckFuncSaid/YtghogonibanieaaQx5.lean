-- Written by a program of this session; it walks the functions that the law reaches.
import Derived.Test.YtghogonibanieaaQx0
import Derived.Test.YtghogonibanieaaQx1
import Derived.Test.YtghogonibanieaaQx4
namespace Go.Proofs.Ytghogonibanieaa.Q
open Go.RowKit Go.Proofs.YtghogonibanieaaW.PrintWords Go.Proofs.YtghogonibanieaaW.PrintLast Go.Proofs.YtghogonibanieaaW.PrintMore
attribute [local go_sem] max2_int min2_int max_two min_two max_three min_three max_four min_four   -- for this text's walks alone
set_option linter.unusedVariables false
set_option linter.unusedSimpArgs false
set_option maxRecDepth 100000
set_option maxHeartbeats 8000000


/-! ### impl_checker_block: function 54 (walked by hand) -/
def pushC (c:CS S82) (op k:Int):Option (CS S82):=if c.sp.length<4000000000000 then some {c with sp:=c.sp++[⟨op,k,(c.st.length:Int),false,false⟩]} else none
def endC (c1:CS S82):Option (CS S82):=(c1.sp[c1.sp.length - 1]?).bind fun b=>
 let c2:=if b.f0=4∧b.f4=false∧b.f1≠64 then c1.fail 3 else c1
 if 0<c1.sp.length - 1 then ({c2 with sp:=c2.sp.take (c2.sp.length - 1)}:CS S82).put b.f1 else some {c2 with sp:=c2.sp.take (c2.sp.length - 1)}
def elseC (c1:CS S82):Option (CS S82):=(c1.sp[c1.sp.length - 1]?).bind fun b=>some {c1 with sp:=c1.sp.set (c1.sp.length - 1) {b with f3:=false,f4:=true}}
def blockC (c:CS S82) (res:Int) (x:S71):Option (CS S82 × Bool):=
 if x.f0=4 then (takeC c 127).bind fun r=>(pushC r.1 4 x.f1).bind fun c1=>some (c1,true)
 else if x.f0=2∨x.f0=3 then (pushC c x.f0 x.f1).bind fun c1=>some (c1,true)
 else if x.f0=5 then (closeC c).bind fun c1=>(elseC c1).bind fun c2=>some (c2,true)
 else if x.f0=11 then (closeC c).bind fun c1=>(endC c1).bind fun c2=>some (c2,true)
 else if x.f0=12 then (wantsC c x.f1).bind fun r=>(takeKC r.1 r.2).bind fun c1=>(dieC c1).bind fun c2=>some (c2,true)
 else if x.f0=13 then (wantsC c x.f1).bind fun r=>(takeC r.1 127).bind fun s=>(takeKC s.1 r.2).bind fun c1=>(c1.put r.2).bind fun c2=>some (c2,true)
 else if x.f0=15 then (takeKC c res).bind fun c1=>(dieC c1).bind fun c2=>some (c2,true)
 else if x.f0=0 then (dieC c).bind fun c1=>some (c1,true)
 else some (c,false)
section
variable (x:S71) (res:Int) (pf:Addr) (w0 w:World) (g:Nat) (q:Nat→Value) (c c':CS S82) (A:Option Addr) (n1:Nat) (B:Option Addr) (n2:Nat)
theorem block_0 (h:Ck w0 w g q c A n1 B n2) (hq:q 1=.pointer (some pf)) (hres:w0.cell? ⟨pf.block,pf.off+1,none⟩=some (.int .i64 res)) (hop:x.f0=0) (hr:dieC c=some c'):
  Calls Try.prog 54 #[.pointer (some ⟨g,0,none⟩),.agg #[.int .i64 x.f0,.int .i64 x.f1]] w fun e w'=>e=.returned (.bool true)∧CkE w0 w' g q c':=by
 have HO:=A_ h
 have HK:=A_ (KeepBut.refl w g none)
 have hu71:=Try.underlying71
 have hu82:=Try.underlying82
 clear h
 have b4:=ne_ hop 4
 have b2:=ne_ hop 2
 have b3:=ne_ hop 3
 have b5:=ne_ hop 5
 have b11:=ne_ hop 11
 have b12:=ne_ hop 12
 have b13:=ne_ hop 13
 have b15:=ne_ hop 15
 have b0:=e1_ hop
 have HR:=A_ hr
 clear hr
 go_enter Try.func54,Try.ntmps54
 go_wp2_with (first|((with_reducible refine gd_ 3 rfl ?_);refine bx_ #[.int .i64 x.f0,.int .i64 x.f1] 71 ?_;intro gx hg wx hbox hb;have BX:=A_ hbox;have NX:=A_ (HO.out.fresh_ne hg);replace HO:=A_ (HO.out.below hb);replace HK:=A_ (HK.out.trans (KeepBut.of_below hb g none) (.inl rfl));clear hbox hb hg;have x0:=(blk_cell BX.out 0).trans rfl;have x1:=(blk_cell BX.out 1).trans rfl)|(go_at_call 74;refine(die_any w0 _ g q _ c' A n1 _ n2 HO.out HR.out).mono ?_;rintro e w5 ⟨rfl,hO⟩;replace HO:=A_ hO;clear HK BX x0 x1 hO))
 go_ret
 exact⟨rfl,_,_,_,_,HO.out⟩
theorem block_15 (h:Ck w0 w g q c A n1 B n2) (hq:q 1=.pointer (some pf)) (hres:w0.cell? ⟨pf.block,pf.off+1,none⟩=some (.int .i64 res)) (hop:x.f0=15) (c1:CS S82) (hk:takeKC c res=some c1) (hr:dieC c1=some c'):
  Calls Try.prog 54 #[.pointer (some ⟨g,0,none⟩),.agg #[.int .i64 x.f0,.int .i64 x.f1]] w fun e w'=>e=.returned (.bool true)∧CkE w0 w' g q c':=by
 have HO:=A_ h
 have HK:=A_ (KeepBut.refl w g none)
 have hu71:=Try.underlying71
 have hu82:=Try.underlying82
 clear h
 have b4:=ne_ hop 4
 have b2:=ne_ hop 2
 have b3:=ne_ hop 3
 have b5:=ne_ hop 5
 have b11:=ne_ hop 11
 have b12:=ne_ hop 12
 have b13:=ne_ hop 13
 have b15:=e1_ hop
 have HR:=A_ hr;have HT:=A_ hk
 have HS:=A_ hres;have HQ:=A_ hq
 clear hr hk hres hq
 go_enter Try.func54,Try.ntmps54
 go_upto_region 29 with (first|((with_reducible refine gd_ 3 rfl ?_);refine bx_ #[.int .i64 x.f0,.int .i64 x.f1] 71 ?_;intro gx hg wx hbox hb;have BX:=A_ hbox;have NX:=A_ (HO.out.fresh_ne hg);replace HO:=A_ (HO.out.below hb);replace HK:=A_ (HK.out.trans (KeepBut.of_below hb g none) (.inl rfl));clear hbox hb hg;have x0:=(blk_cell BX.out 0).trans rfl;have x1:=(blk_cell BX.out 1).trans rfl))
 have c1f:=HO.out.cell1
 rw[HQ.out] at c1f
 have c5f:=(HO.out.2.1.cell (World.block_lt_of_cell? w0 _ HS.out)).trans HS.out
 go_wp2_with (first|(go_at_call 72;refine(takeK_any res w0 _ g q _ c1 A n1 _ n2 HO.out HT.out).mono ?_;rintro e w5 ⟨rfl,hO,hK⟩;replace HO:=A_ hO;replace HK:=A_ (HK.out.trans hK (.inl rfl));replace BX:=A_ (KeepBut.blk hK BX.out NX.out.1 (by simp));clear x0 x1 hO hK;have x0:=(blk_cell BX.out 0).trans rfl;have x1:=(blk_cell BX.out 1).trans rfl;clear c1f c5f)|(go_at_call 74;refine(die_any w0 _ g q _ c' A n1 _ n2 HO.out HR.out).mono ?_;rintro e w5 ⟨rfl,hO⟩;replace HO:=A_ hO;clear HK BX x0 x1 hO))
 go_ret
 exact⟨rfl,_,_,_,_,HO.out⟩
theorem block_13 (h:Ck w0 w g q c A n1 B n2) (hq:q 1=.pointer (some pf)) (hres:w0.cell? ⟨pf.block,pf.off+1,none⟩=some (.int .i64 res)) (hop:x.f0=13) (cw cs c1:CS S82) (t u:Int) (hw:wantsC c x.f1=some (cw,t)) (hs:takeC cw 127=some (cs,u)) (hk:takeKC cs t=some c1) (hr:c1.put t=some c'):
  Calls Try.prog 54 #[.pointer (some ⟨g,0,none⟩),.agg #[.int .i64 x.f0,.int .i64 x.f1]] w fun e w'=>e=.returned (.bool true)∧CkE w0 w' g q c':=by
 have HO:=A_ h
 have HK:=A_ (KeepBut.refl w g none)
 have hu71:=Try.underlying71
 have hu82:=Try.underlying82
 clear h
 have b4:=ne_ hop 4
 have b2:=ne_ hop 2
 have b3:=ne_ hop 3
 have b5:=ne_ hop 5
 have b11:=ne_ hop 11
 have b12:=ne_ hop 12
 have b13:=e1_ hop
 have HR:=A_ hr;have HT:=A_ hk;have HS:=A_ hs;have HW:=A_ hw
 clear hr hk hs hw
 go_enter Try.func54,Try.ntmps54
 go_wp2_with (first|((with_reducible refine gd_ 3 rfl ?_);refine bx_ #[.int .i64 x.f0,.int .i64 x.f1] 71 ?_;intro gx hg wx hbox hb;have BX:=A_ hbox;have NX:=A_ (HO.out.fresh_ne hg);replace HO:=A_ (HO.out.below hb);replace HK:=A_ (HK.out.trans (KeepBut.of_below hb g none) (.inl rfl));clear hbox hb hg;have x0:=(blk_cell BX.out 0).trans rfl;have x1:=(blk_cell BX.out 1).trans rfl)|(go_at_call 73;refine(wants_any x.f1 t w0 _ g q _ cw A n1 _ n2 HO.out HW.out).mono ?_;rintro e w5 ⟨rfl,hO,hK⟩;replace HO:=A_ hO;replace HK:=A_ (HK.out.trans hK (.inl rfl));replace BX:=A_ (KeepBut.blk hK BX.out NX.out.1 (by simp));clear x0 x1 hO hK;have x0:=(blk_cell BX.out 0).trans rfl;have x1:=(blk_cell BX.out 1).trans rfl)|(go_at_call 56;refine(take_any w0 _ g q _ cs 127 u A n1 _ n2 HO.out HS.out).mono ?_;rintro e w5 ⟨rfl,hO,hK⟩;replace HO:=A_ hO;replace HK:=A_ (HK.out.trans hK (.inl rfl));replace BX:=A_ (KeepBut.blk hK BX.out NX.out.1 (by simp));clear x0 x1 hO hK;have x0:=(blk_cell BX.out 0).trans rfl;have x1:=(blk_cell BX.out 1).trans rfl)|(go_at_call 72;refine(takeK_any t w0 _ g q _ c1 A n1 _ n2 HO.out HT.out).mono ?_;rintro e w5 ⟨rfl,hO,hK⟩;replace HO:=A_ hO;replace HK:=A_ (HK.out.trans hK (.inl rfl));replace BX:=A_ (KeepBut.blk hK BX.out NX.out.1 (by simp));clear x0 x1 hO hK;have x0:=(blk_cell BX.out 0).trans rfl;have x1:=(blk_cell BX.out 1).trans rfl)|(go_at_call 57;refine(put_any t w0 _ g q _ c' A n1 _ n2 HO.out HR.out).mono ?_;rintro e w5 ⟨rfl,hE⟩;have HE:=A_ hE;clear hE))
 go_ret
 exact⟨rfl,HE.out⟩
theorem block_12 (h:Ck w0 w g q c A n1 B n2) (hq:q 1=.pointer (some pf)) (hres:w0.cell? ⟨pf.block,pf.off+1,none⟩=some (.int .i64 res)) (hop:x.f0=12) (cw c1:CS S82) (t:Int) (hw:wantsC c x.f1=some (cw,t)) (hk:takeKC cw t=some c1) (hr:dieC c1=some c'):
  Calls Try.prog 54 #[.pointer (some ⟨g,0,none⟩),.agg #[.int .i64 x.f0,.int .i64 x.f1]] w fun e w'=>e=.returned (.bool true)∧CkE w0 w' g q c':=by
 have HO:=A_ h
 have HK:=A_ (KeepBut.refl w g none)
 have hu71:=Try.underlying71
 have hu82:=Try.underlying82
 clear h
 have b4:=ne_ hop 4
 have b2:=ne_ hop 2
 have b3:=ne_ hop 3
 have b5:=ne_ hop 5
 have b11:=ne_ hop 11
 have b12:=e1_ hop
 have HR:=A_ hr;have HT:=A_ hk;have HW:=A_ hw
 clear hr hk hw
 go_enter Try.func54,Try.ntmps54
 go_wp2_with (first|((with_reducible refine gd_ 3 rfl ?_);refine bx_ #[.int .i64 x.f0,.int .i64 x.f1] 71 ?_;intro gx hg wx hbox hb;have BX:=A_ hbox;have NX:=A_ (HO.out.fresh_ne hg);replace HO:=A_ (HO.out.below hb);replace HK:=A_ (HK.out.trans (KeepBut.of_below hb g none) (.inl rfl));clear hbox hb hg;have x0:=(blk_cell BX.out 0).trans rfl;have x1:=(blk_cell BX.out 1).trans rfl)|(go_at_call 73;refine(wants_any x.f1 t w0 _ g q _ cw A n1 _ n2 HO.out HW.out).mono ?_;rintro e w5 ⟨rfl,hO,hK⟩;replace HO:=A_ hO;replace HK:=A_ (HK.out.trans hK (.inl rfl));replace BX:=A_ (KeepBut.blk hK BX.out NX.out.1 (by simp));clear x0 x1 hO hK;have x0:=(blk_cell BX.out 0).trans rfl;have x1:=(blk_cell BX.out 1).trans rfl)|(go_at_call 72;refine(takeK_any t w0 _ g q _ c1 A n1 _ n2 HO.out HT.out).mono ?_;rintro e w5 ⟨rfl,hO,hK⟩;replace HO:=A_ hO;replace HK:=A_ (HK.out.trans hK (.inl rfl));replace BX:=A_ (KeepBut.blk hK BX.out NX.out.1 (by simp));clear x0 x1 hO hK;have x0:=(blk_cell BX.out 0).trans rfl;have x1:=(blk_cell BX.out 1).trans rfl)|(go_at_call 74;refine(die_any w0 _ g q _ c' A n1 _ n2 HO.out HR.out).mono ?_;rintro e w5 ⟨rfl,hO⟩;replace HO:=A_ hO;clear HK BX x0 x1 hO))
 go_ret
 exact⟨rfl,_,_,_,_,HO.out⟩
end
section
variable (x:S71) (res:Int) (pf:Addr) (w0 w:World) (g:Nat) (q:Nat→Value)
theorem block_no (c:CS S82) (A:Option Addr) (n1:Nat) (B:Option Addr) (n2:Nat) (h:Ck w0 w g q c A n1 B n2) (hq:q 1=.pointer (some pf)) (hres:w0.cell? ⟨pf.block,pf.off+1,none⟩=some (.int .i64 res)) (hop:x.f0≠4∧x.f0≠2∧x.f0≠3∧x.f0≠5∧x.f0≠11∧x.f0≠12∧x.f0≠13∧x.f0≠15∧x.f0≠0):
  Calls Try.prog 54 #[.pointer (some ⟨g,0,none⟩),.agg #[.int .i64 x.f0,.int .i64 x.f1]] w fun e w'=>e=.returned (.bool false)∧Ck w0 w' g q c A n1 B n2∧KeepBut w w' g none:=by
 have HO:=A_ h
 have HK:=A_ (KeepBut.refl w g none)
 have hu71:=Try.underlying71
 clear h
 obtain⟨h4,h2,h3,h5,h11,h12,h13,h15,h0⟩:=hop
 have b4:=e0_ h4
 have b2:=e0_ h2
 have b3:=e0_ h3
 have b5:=e0_ h5
 have b11:=e0_ h11
 have b12:=e0_ h12
 have b13:=e0_ h13
 have b15:=e0_ h15
 have b0:=e0_ h0
 clear h4 h2 h3 h5 h11 h12 h13 h15 h0
 go_enter Try.func54,Try.ntmps54
 go_wp2_with (first|((with_reducible refine gd_ 3 rfl ?_);refine bx_ #[.int .i64 x.f0,.int .i64 x.f1] 71 ?_;intro gx hg wx hbox hb;have BX:=A_ hbox;have NX:=A_ (HO.out.fresh_ne hg);replace HO:=A_ (HO.out.below hb);replace HK:=A_ (HK.out.trans (KeepBut.of_below hb g none) (.inl rfl));clear hbox hb hg;have x0:=(blk_cell BX.out 0).trans rfl;have x1:=(blk_cell BX.out 1).trans rfl))
 go_ret
 exact⟨rfl,HO.out,HK.out⟩

def impl_block.T8:Bool × List (List Nat × List Nat):=(true,[([],[]),([],[]),([1],[1]),([2],[2]),([3],[3]),([],[]),([5],[5]),([],[]),([7],[7]),([],[]),([9],[9]),([10],[10]),([11],[11]),([12],[12]),([6,8,13],[6,8,13]),([14],[14]),([4,15],[4,15]),([0,0,1,2,3,4,5,6,7,8,9,10,11,12,13,14,15,16],[0]),([17,0,1,2,3,4,5,6,7,8,9,10,11,12,13,14,15,16],[17]),([18,16,16,0,1,2,3,4,5,6,7,8,9,10,11,12,13,14,15,16],[16,18])])
def impl_block.B8:List Nat:=[0,0,2,6,14,0,32,0,128,0,512,1536,3584,7680,16352,32736,65534,131071,262143,524287]
theorem impl_block.tab8:rtab .any (opsOf Try.f54 8)=impl_block.T8:=by kernel_rfl
theorem impl_block.bits8:waitsOk impl_block.T8.2 impl_block.B8=true:=by kernel_rfl
theorem block_23 (c c':CS S82) (A:Option Addr) (n1:Nat) (B:Option Addr) (n2:Nat) (h:Ck w0 w g q c A n1 B n2) (hq:q 1=.pointer (some pf)) (hres:w0.cell? ⟨pf.block,pf.off+1,none⟩=some (.int .i64 res)) (hop:x.f0=2∨x.f0=3) (hr:pushC c x.f0 x.f1=some c'):
  Calls Try.prog 54 #[.pointer (some ⟨g,0,none⟩),.agg #[.int .i64 x.f0,.int .i64 x.f1]] w fun e w'=>e=.returned (.bool true)∧CkE w0 w' g q c':=by
 have HO:=A_ h
 have HK:=A_ (KeepBut.refl w g none)
 have hu71:=Try.underlying71
 have hu82:=Try.underlying82
 clear h
 unfold pushC at hr
 by_cases cl:c.sp.length<4000000000000
 ·
  rw[if_pos cl] at hr
  obtain rfl:=Option.some.inj hr
  have HLP:=A_ cl
  clear cl hr
  have b4:(x.f0==4)=false:=by rcases hop with e|e<;>rw[e]<;>rfl
  have HOP:=A_ hop
  clear hop
  go_enter Try.func54,Try.ntmps54
  go_upto_region 6 with (first|((with_reducible refine gd_ 3 rfl ?_);refine bx_ #[.int .i64 x.f0,.int .i64 x.f1] 71 ?_;intro gx hg wx hbox hb;have BX:=A_ hbox;have NX:=A_ (HO.out.fresh_ne hg);replace HO:=A_ (HO.out.below hb);replace HK:=A_ (HK.out.trans (KeepBut.of_below hb g none) (.inl rfl));clear hbox hb hg;have x0:=(blk_cell BX.out 0).trans rfl;have x1:=(blk_cell BX.out 1).trans rfl))
  have hb23:(x.f0==2)=true∨((x.f0==2)=false∧(x.f0==3)=true):=by rcases HOP.out with e|e<;>rw[e];exact .inl rfl;exact .inr ⟨rfl,rfl⟩
  rcases hb23 with b2|⟨b2,b3⟩
  ·
   go_upto_region 8 with (fail)
   have c3:=HO.out.cell3;have c2:=HO.out.cell2
   refine sS 20 (fun w'=>w'.cell? ⟨g,3,none⟩=some (.slice B c.sp.length n2)∧w'.cell? ⟨g,2,none⟩=some (.slice A c.st.length n1)∧w'.cell? ⟨gx,1,none⟩=some (.int .i64 x.f1)∧w'.cell? ⟨gx,0,none⟩=some (.int .i64 x.f0)) [19] ⟨c3,c2,x1,x0⟩ impl_block.tab8 impl_block.bits8 (fun hHeld HT_ HW_=>?_)
   have m0:=A_ HO.out.drew;have m1:=A_ (keep_drew HK.out);have m2:=A_ (blk_drew BX.out)
   clear HO HK c2 c3 x0 x1
   generalize wx.drew=wd at*
   have HO:=m0;have HK:=m1;have BX:=m2;clear m0 m1 m2
   refine pS HT_ 0 33 ?_
   refine pS HT_ 1 34 ?_
   refine pS HT_ 2 35 ?_
   refine pS HT_ 3 36 ?_
   refine pS HT_ 5 38 ?_
   refine pS HT_ 7 40 ?_
   refine pS HT_ 9 42 ?_
   refine pS HT_ 10 43 ?_
   refine pS HT_ 11 44 ?_
   refine tS HT_ HW_ 4 37 hHeld ?_
   refine tS HT_ HW_ 6 39 hHeld ?_
   refine tS HT_ HW_ 8 41 hHeld ?_
   refine tS HT_ HW_ 12 45 hHeld ?_
   refine pS HT_ 13 46 ?_
   refine pS HT_ 14 47 ?_
   refine oS HT_ 15 (some 48) (fun K hK=>?_)
   have hHeld2:Aside0 ((wd.alloc (.cells #[.int .i64 x.f0,.int .i64 x.f1,.int .i64 (c.st.length:Int),.bool false,.bool false] 82 (0,0))).cell? ⟨g,3,none⟩=some (.slice B c.sp.length n2)∧(wd.alloc (.cells #[.int .i64 x.f0,.int .i64 x.f1,.int .i64 (c.st.length:Int),.bool false,.bool false] 82 (0,0))).cell? ⟨g,2,none⟩=some (.slice A c.st.length n1)∧(wd.alloc (.cells #[.int .i64 x.f0,.int .i64 x.f1,.int .i64 (c.st.length:Int),.bool false,.bool false] 82 (0,0))).cell? ⟨gx,1,none⟩=some (.int .i64 x.f1)∧(wd.alloc (.cells #[.int .i64 x.f0,.int .i64 x.f1,.int .i64 (c.st.length:Int),.bool false,.bool false] 82 (0,0))).cell? ⟨gx,0,none⟩=some (.int .i64 x.f0)):=⟨by obtain⟨s0_,s1_,s2_,s3_⟩:=hHeld;exact⟨cl_ (below_alloc (Below.refl _ _) _) s0_,cl_ (below_alloc (Below.refl _ _) _) s1_,cl_ (below_alloc (Below.refl _ _) _) s2_,cl_ (below_alloc (Below.refl _ _) _) s3_⟩⟩
   refine value_ (w1:=(wd.alloc (.cells #[.int .i64 x.f0,.int .i64 x.f1,.int .i64 (c.st.length:Int),.bool false,.bool false] 82 (0,0)))) (v:=.slice (some ⟨wd.heap.size,0,none⟩) 1 1) (by rfl) rfl (by first|(go_simp;done)|(go_simp;rfl)) ?_
   clear hHeld
   refine hK.out _ _ hHeld2.out (fun hHeld=>?_)
   clear hK K
   refine nS (some 48) ?_
   refine oS HT_ 16 (some 49) (fun K hK=>?_)
   refine Kd.R_append_step k82 w0.heap.size (by rfl) (.tmp 37) (.tmp 48) 78 82 (.agg #[.int .i64 0,.int .i64 0,.int .i64 0,.bool false,.bool false]) 32 rfl Try.underlying78 info82 rfl (by decide) (by omega) (.slice B c.sp.length n2) c.sp (⟨x.f0,x.f1,(c.st.length:Int),false,false⟩:S82) [.int .i64 x.f0,.int .i64 x.f1,.int .i64 (c.st.length:Int),.bool false,.bool false] (fun _=>True) (fun _=>False) rfl rfl ?aP (fun _ hk=>hk.elim) (fun _ _=>trivial) HO.out.2.2.2.2 HO.out.2.1 HO.out.2.1.size ?aL ?_;(case aP=>exact k82_mkM _ _ _ (⟨x.f0,x.f1,(c.st.length:Int),false,false⟩:S82));(case aL=>have:=HLP.out;omega)
   intro v1 wa hv hb hg hat
   obtain⟨hblk,B',n',e_,hN⟩:=HO.out.appP hv hb hg;subst e_;have HB:=A_ hblk;have HN:=A_ hN
   have hblk0:=A_ hblk
   have BX2:=A_ (blk_grown BX.out hg (fun e=>by have h7:=NX.out.2.2;cases B with|none=>cases e|some a=>exact h7 a rfl (Option.some.inj e).symm))
   clear hv hb hg hat hblk hN hHeld hHeld2
   refine hK.out _ _ ⟨(blk_cell hblk0.out 3).trans rfl,(blk_cell hblk0.out 2).trans rfl,(blk_cell BX2.out 1).trans rfl,(blk_cell BX2.out 0).trans rfl⟩ (fun hHeld=>?_)
   clear hK K
   refine nS (some 49) ?_
   refine pS HT_ 17 50 ?_
   refine pS HT_ 18 51 ?_
   refine lS HT_ 19 (none) (fun K hK=>?_)
   have ff:=blk_frozen HB.out 3
   refine skip_ (w1:=(wa.setCell ⟨g,3,none⟩ (.slice B' (c.sp.length+1) n'))) (by rfl) rfl (by first|(obtain⟨s0_,s1_,s2_,s3_⟩:=hHeld;go_simp;done)|(obtain⟨s0_,s1_,s2_,s3_⟩:=hHeld;go_simp;rfl)) ?_
   clear hHeld ff
   refine hK.out _ _ ?_
   clear hK K
   refine dS HT_ ?_
   clear HO HK
   generalize (wa.setCell ⟨g,3,none⟩ (.slice B' (c.sp.length+1) n'))=wy at*
   have HO:=HN
   go_wp2
   go_ret
   exact⟨rfl,_,_,_,_,HO.out⟩
  go_upto_region 8 with (fail)
  have c3:=HO.out.cell3;have c2:=HO.out.cell2
  refine sS 20 (fun w'=>w'.cell? ⟨g,3,none⟩=some (.slice B c.sp.length n2)∧w'.cell? ⟨g,2,none⟩=some (.slice A c.st.length n1)∧w'.cell? ⟨gx,1,none⟩=some (.int .i64 x.f1)∧w'.cell? ⟨gx,0,none⟩=some (.int .i64 x.f0)) [19] ⟨c3,c2,x1,x0⟩ impl_block.tab8 impl_block.bits8 (fun hHeld HT_ HW_=>?_)
  have m0:=A_ HO.out.drew;have m1:=A_ (keep_drew HK.out);have m2:=A_ (blk_drew BX.out)
  clear HO HK c2 c3 x0 x1
  generalize wx.drew=wd at*
  have HO:=m0;have HK:=m1;have BX:=m2;clear m0 m1 m2
  refine pS HT_ 0 33 ?_
  refine pS HT_ 1 34 ?_
  refine pS HT_ 2 35 ?_
  refine pS HT_ 3 36 ?_
  refine pS HT_ 5 38 ?_
  refine pS HT_ 7 40 ?_
  refine pS HT_ 9 42 ?_
  refine pS HT_ 10 43 ?_
  refine pS HT_ 11 44 ?_
  refine tS HT_ HW_ 4 37 hHeld ?_
  refine tS HT_ HW_ 6 39 hHeld ?_
  refine tS HT_ HW_ 8 41 hHeld ?_
  refine tS HT_ HW_ 12 45 hHeld ?_
  refine pS HT_ 13 46 ?_
  refine pS HT_ 14 47 ?_
  refine oS HT_ 15 (some 48) (fun K hK=>?_)
  have hHeld2:Aside0 ((wd.alloc (.cells #[.int .i64 x.f0,.int .i64 x.f1,.int .i64 (c.st.length:Int),.bool false,.bool false] 82 (0,0))).cell? ⟨g,3,none⟩=some (.slice B c.sp.length n2)∧(wd.alloc (.cells #[.int .i64 x.f0,.int .i64 x.f1,.int .i64 (c.st.length:Int),.bool false,.bool false] 82 (0,0))).cell? ⟨g,2,none⟩=some (.slice A c.st.length n1)∧(wd.alloc (.cells #[.int .i64 x.f0,.int .i64 x.f1,.int .i64 (c.st.length:Int),.bool false,.bool false] 82 (0,0))).cell? ⟨gx,1,none⟩=some (.int .i64 x.f1)∧(wd.alloc (.cells #[.int .i64 x.f0,.int .i64 x.f1,.int .i64 (c.st.length:Int),.bool false,.bool false] 82 (0,0))).cell? ⟨gx,0,none⟩=some (.int .i64 x.f0)):=⟨by obtain⟨s0_,s1_,s2_,s3_⟩:=hHeld;exact⟨cl_ (below_alloc (Below.refl _ _) _) s0_,cl_ (below_alloc (Below.refl _ _) _) s1_,cl_ (below_alloc (Below.refl _ _) _) s2_,cl_ (below_alloc (Below.refl _ _) _) s3_⟩⟩
  refine value_ (w1:=(wd.alloc (.cells #[.int .i64 x.f0,.int .i64 x.f1,.int .i64 (c.st.length:Int),.bool false,.bool false] 82 (0,0)))) (v:=.slice (some ⟨wd.heap.size,0,none⟩) 1 1) (by rfl) rfl (by first|(go_simp;done)|(go_simp;rfl)) ?_
  clear hHeld
  refine hK.out _ _ hHeld2.out (fun hHeld=>?_)
  clear hK K
  refine nS (some 48) ?_
  refine oS HT_ 16 (some 49) (fun K hK=>?_)
  refine Kd.R_append_step k82 w0.heap.size (by rfl) (.tmp 37) (.tmp 48) 78 82 (.agg #[.int .i64 0,.int .i64 0,.int .i64 0,.bool false,.bool false]) 32 rfl Try.underlying78 info82 rfl (by decide) (by omega) (.slice B c.sp.length n2) c.sp (⟨x.f0,x.f1,(c.st.length:Int),false,false⟩:S82) [.int .i64 x.f0,.int .i64 x.f1,.int .i64 (c.st.length:Int),.bool false,.bool false] (fun _=>True) (fun _=>False) rfl rfl ?aP (fun _ hk=>hk.elim) (fun _ _=>trivial) HO.out.2.2.2.2 HO.out.2.1 HO.out.2.1.size ?aL ?_;(case aP=>exact k82_mkM _ _ _ (⟨x.f0,x.f1,(c.st.length:Int),false,false⟩:S82));(case aL=>have:=HLP.out;omega)
  intro v1 wa hv hb hg hat
  obtain⟨hblk,B',n',e_,hN⟩:=HO.out.appP hv hb hg;subst e_;have HB:=A_ hblk;have HN:=A_ hN
  have hblk0:=A_ hblk
  have BX2:=A_ (blk_grown BX.out hg (fun e=>by have h7:=NX.out.2.2;cases B with|none=>cases e|some a=>exact h7 a rfl (Option.some.inj e).symm))
  clear hv hb hg hat hblk hN hHeld hHeld2
  refine hK.out _ _ ⟨(blk_cell hblk0.out 3).trans rfl,(blk_cell hblk0.out 2).trans rfl,(blk_cell BX2.out 1).trans rfl,(blk_cell BX2.out 0).trans rfl⟩ (fun hHeld=>?_)
  clear hK K
  refine nS (some 49) ?_
  refine pS HT_ 17 50 ?_
  refine pS HT_ 18 51 ?_
  refine lS HT_ 19 (none) (fun K hK=>?_)
  have ff:=blk_frozen HB.out 3
  refine skip_ (w1:=(wa.setCell ⟨g,3,none⟩ (.slice B' (c.sp.length+1) n'))) (by rfl) rfl (by first|(obtain⟨s0_,s1_,s2_,s3_⟩:=hHeld;go_simp;done)|(obtain⟨s0_,s1_,s2_,s3_⟩:=hHeld;go_simp;rfl)) ?_
  clear hHeld ff
  refine hK.out _ _ ?_
  clear hK K
  refine dS HT_ ?_
  clear HO HK
  generalize (wa.setCell ⟨g,3,none⟩ (.slice B' (c.sp.length+1) n'))=wy at*
  have HO:=HN
  go_wp2
  go_ret
  exact⟨rfl,_,_,_,_,HO.out⟩
 rw[if_neg cl] at hr;cases hr

def impl_block.T5:Bool × List (List Nat × List Nat):=(true,[([],[]),([],[]),([1],[1]),([2],[2]),([3],[3]),([],[]),([5],[5]),([],[]),([7],[7]),([8],[8]),([9],[9]),([10],[10]),([6,11],[6,11]),([12],[12]),([4,13],[4,13]),([0,0,1,2,3,4,5,6,7,8,9,10,11,12,13,14],[0]),([15,0,1,2,3,4,5,6,7,8,9,10,11,12,13,14],[15]),([16,14,14,0,1,2,3,4,5,6,7,8,9,10,11,12,13,14],[14,16])])
def impl_block.B5:List Nat:=[0,0,2,6,14,0,32,0,128,384,896,1920,4064,8160,16382,32767,65535,131071]
theorem impl_block.tab5:rtab .any (opsOf Try.f54 5)=impl_block.T5:=by kernel_rfl
theorem impl_block.bits5:waitsOk impl_block.T5.2 impl_block.B5=true:=by kernel_rfl
theorem block_4 (c c':CS S82) (A:Option Addr) (n1:Nat) (B:Option Addr) (n2:Nat) (h:Ck w0 w g q c A n1 B n2) (hq:q 1=.pointer (some pf)) (hres:w0.cell? ⟨pf.block,pf.off+1,none⟩=some (.int .i64 res)) (hop:x.f0=4) (c1:CS S82) (t:Int) (hs:takeC c 127=some (c1,t)) (hr:pushC c1 4 x.f1=some c'):
  Calls Try.prog 54 #[.pointer (some ⟨g,0,none⟩),.agg #[.int .i64 x.f0,.int .i64 x.f1]] w fun e w'=>e=.returned (.bool true)∧CkE w0 w' g q c':=by
 have HO:=A_ h
 have HK:=A_ (KeepBut.refl w g none)
 have hu71:=Try.underlying71
 have hu82:=Try.underlying82
 clear h
 have HS:=A_ hs
 clear hs
 unfold pushC at hr
 by_cases cl:c1.sp.length<4000000000000
 ·
  rw[if_pos cl] at hr
  obtain rfl:=Option.some.inj hr
  have HLP:=A_ cl
  clear cl hr
  have b4:=e1_ hop
  clear hop
  go_enter Try.func54,Try.ntmps54
  go_upto_region 5 with (first|((with_reducible refine gd_ 3 rfl ?_);refine bx_ #[.int .i64 x.f0,.int .i64 x.f1] 71 ?_;intro gx hg wx hbox hb;have BX:=A_ hbox;have NX:=A_ (HO.out.fresh_ne hg);replace HO:=A_ (HO.out.below hb);replace HK:=A_ (HK.out.trans (KeepBut.of_below hb g none) (.inl rfl));clear hbox hb hg;have x0:=(blk_cell BX.out 0).trans rfl;have x1:=(blk_cell BX.out 1).trans rfl)|(go_at_call 56;refine(take_any w0 _ g q _ c1 127 t A n1 _ n2 HO.out HS.out).mono ?_;rintro e w5 ⟨rfl,hO,hK⟩;replace HO:=A_ hO;replace HK:=A_ (HK.out.trans hK (.inl rfl));replace BX:=A_ (KeepBut.blk hK BX.out NX.out.1 (by simp));clear x0 x1 hO hK;have x0:=(blk_cell BX.out 0).trans rfl;have x1:=(blk_cell BX.out 1).trans rfl))
  have c3:=HO.out.cell3;have c2:=HO.out.cell2
  refine sS 18 (fun w'=>w'.cell? ⟨g,3,none⟩=some (.slice B c1.sp.length n2)∧w'.cell? ⟨g,2,none⟩=some (.slice A c1.st.length n1)∧w'.cell? ⟨gx,1,none⟩=some (.int .i64 x.f1)) [17] ⟨c3,c2,x1⟩ impl_block.tab5 impl_block.bits5 (fun hHeld HT_ HW_=>?_)
  have m0:=A_ HO.out.drew;have m1:=A_ (keep_drew HK.out);have m2:=A_ (blk_drew BX.out)
  clear HO HK c2 c3 x0 x1
  generalize w5.drew=wd at*
  have HO:=m0;have HK:=m1;have BX:=m2;clear m0 m1 m2
  refine pS HT_ 0 13 ?_
  refine pS HT_ 1 14 ?_
  refine pS HT_ 2 15 ?_
  refine pS HT_ 3 16 ?_
  refine pS HT_ 5 18 ?_
  refine pS HT_ 7 20 ?_
  refine pS HT_ 8 21 ?_
  refine pS HT_ 9 22 ?_
  refine tS HT_ HW_ 4 17 hHeld ?_
  refine tS HT_ HW_ 6 19 hHeld ?_
  refine tS HT_ HW_ 10 23 hHeld ?_
  refine pS HT_ 11 24 ?_
  refine pS HT_ 12 25 ?_
  refine oS HT_ 13 (some 26) (fun K hK=>?_)
  have hHeld2:Aside0 ((wd.alloc (.cells #[.int .i64 4,.int .i64 x.f1,.int .i64 (c1.st.length:Int),.bool false,.bool false] 82 (0,0))).cell? ⟨g,3,none⟩=some (.slice B c1.sp.length n2)∧(wd.alloc (.cells #[.int .i64 4,.int .i64 x.f1,.int .i64 (c1.st.length:Int),.bool false,.bool false] 82 (0,0))).cell? ⟨g,2,none⟩=some (.slice A c1.st.length n1)∧(wd.alloc (.cells #[.int .i64 4,.int .i64 x.f1,.int .i64 (c1.st.length:Int),.bool false,.bool false] 82 (0,0))).cell? ⟨gx,1,none⟩=some (.int .i64 x.f1)):=⟨by obtain⟨s0_,s1_,s2_⟩:=hHeld;exact⟨cl_ (below_alloc (Below.refl _ _) _) s0_,cl_ (below_alloc (Below.refl _ _) _) s1_,cl_ (below_alloc (Below.refl _ _) _) s2_⟩⟩
  refine value_ (w1:=(wd.alloc (.cells #[.int .i64 4,.int .i64 x.f1,.int .i64 (c1.st.length:Int),.bool false,.bool false] 82 (0,0)))) (v:=.slice (some ⟨wd.heap.size,0,none⟩) 1 1) (by rfl) rfl (by first|(go_simp;done)|(go_simp;rfl)) ?_
  clear hHeld
  refine hK.out _ _ hHeld2.out (fun hHeld=>?_)
  clear hK K
  refine nS (some 26) ?_
  refine oS HT_ 14 (some 27) (fun K hK=>?_)
  refine Kd.R_append_step k82 w0.heap.size (by rfl) (.tmp 17) (.tmp 26) 78 82 (.agg #[.int .i64 0,.int .i64 0,.int .i64 0,.bool false,.bool false]) 32 rfl Try.underlying78 info82 rfl (by decide) (by omega) (.slice B c1.sp.length n2) c1.sp (⟨4,x.f1,(c1.st.length:Int),false,false⟩:S82) [.int .i64 4,.int .i64 x.f1,.int .i64 (c1.st.length:Int),.bool false,.bool false] (fun _=>True) (fun _=>False) rfl rfl ?aP (fun _ hk=>hk.elim) (fun _ _=>trivial) HO.out.2.2.2.2 HO.out.2.1 HO.out.2.1.size ?aL ?_;(case aP=>exact k82_mkM _ _ _ (⟨4,x.f1,(c1.st.length:Int),false,false⟩:S82));(case aL=>have:=HLP.out;omega)
  intro v1 wa hv hb hg hat
  obtain⟨hblk,B',n',e_,hN⟩:=HO.out.appP hv hb hg;subst e_;have HB:=A_ hblk;have HN:=A_ hN
  have hblk0:=A_ hblk
  have BX2:=A_ (blk_grown BX.out hg (fun e=>by have h7:=NX.out.2.2;cases B with|none=>cases e|some a=>exact h7 a rfl (Option.some.inj e).symm))
  clear hv hb hg hat hblk hN hHeld hHeld2
  refine hK.out _ _ ⟨(blk_cell hblk0.out 3).trans rfl,(blk_cell hblk0.out 2).trans rfl,(blk_cell BX2.out 1).trans rfl⟩ (fun hHeld=>?_)
  clear hK K
  refine nS (some 27) ?_
  refine pS HT_ 15 28 ?_
  refine pS HT_ 16 29 ?_
  refine lS HT_ 17 (none) (fun K hK=>?_)
  have ff:=blk_frozen HB.out 3
  refine skip_ (w1:=(wa.setCell ⟨g,3,none⟩ (.slice B' (c1.sp.length+1) n'))) (by rfl) rfl (by first|(obtain⟨s0_,s1_,s2_⟩:=hHeld;go_simp;done)|(obtain⟨s0_,s1_,s2_⟩:=hHeld;go_simp;rfl)) ?_
  clear hHeld ff
  refine hK.out _ _ ?_
  clear hK K
  refine dS HT_ ?_
  clear HO HK
  generalize (wa.setCell ⟨g,3,none⟩ (.slice B' (c1.sp.length+1) n'))=wy at*
  have HO:=HN
  go_wp2
  go_ret
  exact⟨rfl,_,_,_,_,HO.out⟩
 rw[if_neg cl] at hr;cases hr
theorem block_5 (c c':CS S82) (A:Option Addr) (n1:Nat) (B:Option Addr) (n2:Nat) (h:Ck w0 w g q c A n1 B n2) (hq:q 1=.pointer (some pf)) (hres:w0.cell? ⟨pf.block,pf.off+1,none⟩=some (.int .i64 res)) (hop:x.f0=5) (c1:CS S82) (hk:closeC c=some c1) (hr:elseC c1=some c'):
  Calls Try.prog 54 #[.pointer (some ⟨g,0,none⟩),.agg #[.int .i64 x.f0,.int .i64 x.f1]] w fun e w'=>e=.returned (.bool true)∧CkE w0 w' g q c':=by
 have HO:=A_ h
 have HK:=A_ (KeepBut.refl w g none)
 have hu71:=Try.underlying71
 have hu82:=Try.underlying82
 clear h
 have b4:=ne_ hop 4
 have b2:=ne_ hop 2
 have b3:=ne_ hop 3
 have b5:=e1_ hop
 have HT:=A_ hk
 obtain⟨b,hb,hr1⟩:=Option.bind_eq_some_iff.1 hr
 obtain rfl:=Option.some.inj hr1
 have HBB:=A_ hb
 have HLT:=A_ (List.getElem?_eq_some_iff.1 hb).1
 have HP:=A_ (show 0<c1.sp.length by have:=HLT.out;omega)
 clear hk hb hr hr1 hop
 go_enter Try.func54,Try.ntmps54
 go_upto_region 11 with (first|((with_reducible refine gd_ 3 rfl ?_);refine bx_ #[.int .i64 x.f0,.int .i64 x.f1] 71 ?_;intro gx hg wx hbox hb;have BX:=A_ hbox;have NX:=A_ (HO.out.fresh_ne hg);replace HO:=A_ (HO.out.below hb);replace HK:=A_ (HK.out.trans (KeepBut.of_below hb g none) (.inl rfl));clear hbox hb hg;have x0:=(blk_cell BX.out 0).trans rfl;have x1:=(blk_cell BX.out 1).trans rfl)|(go_at_call 70;refine(close_any w0 _ g q _ c1 A n1 _ n2 HO.out HT.out).mono ?_;rintro e w5 ⟨rfl,hO,hK⟩;replace HO:=A_ hO;replace HK:=A_ (HK.out.trans hK (.inl rfl));replace BX:=A_ (KeepBut.blk hK BX.out NX.out.1 (by simp));clear x0 x1 hO hK;have x0:=(blk_cell BX.out 0).trans rfl;have x1:=(blk_cell BX.out 1).trans rfl))
 obtain⟨gB,rfl,_⟩:=HO.out.span _ b HBB.out
 go_wp2_with (first|(go_at_call 71;refine(top_any w0 _ g q _ A n1 gB n2 HP.out HO.out).mono ?_;rintro e wt ⟨rfl,hd⟩;obtain⟨nd,hnd⟩:=hd;replace HO:=A_ (show Ck w0 wt g q _ _ n1 (some ⟨gB,0,none⟩) n2 from by rw[hnd];exact HO.out.drewN nd);replace HK:=A_ (show KeepBut w wt g none from by rw[hnd];exact keep_drewN HK.out nd);clear hnd;obtain⟨_,e_,_,_,_,_,s3,s4,sf⟩:=HO.out.span (c1.sp.length - 1) b HBB.out;cases e_;have u3:=sf ((c1.sp.length - 1)*5+3);have u4:=sf ((c1.sp.length - 1)*5+4);clear sf)|((with_reducible refine gate_store (t:=4) (p:=61) rfl ?_);refine store_event (t:=4) (p:=61) (v:=?vo_) (w1:=(wt.setCell ⟨gB,(c1.sp.length - 1)*5+3,none⟩ (.bool false))) ?hg ?ho ?hn ?hr ?_;(case ho=>rfl);(case hg=>rfl);(case hn=>rfl);(case hr=>first|(go_simp;done)|(go_simp;rfl));intro w6 hw;replace HO:=A_ (show Ck w0 w6 g q _ A n1 (some ⟨gB,0,none⟩) n2 from by rw[hw];exact(HO.out.flag gB (c1.sp.length - 1) b HBB.out false).1);clear s3 u3 s4 u4 hw;obtain⟨_,e_,_,_,_,_,_,s4,sf⟩:=HO.out.span (c1.sp.length - 1) {b with f3:=false} (by rw[List.getElem?_set_self];exact HLT.out);cases e_;have u4:=sf ((c1.sp.length - 1)*5+4);clear sf))
 go_ret
 refine⟨rfl,A,n1,some ⟨gB,0,none⟩,n2,?_⟩
 have h9:=(HO.out.flag gB (c1.sp.length - 1) {b with f3:=false} (by rw[List.getElem?_set_self];exact HLT.out) true).2
 simp only[List.set_set] at h9
 exact h9

theorem block_11 (c c':CS S82) (A:Option Addr) (n1:Nat) (B:Option Addr) (n2:Nat) (h:Ck w0 w g q c A n1 B n2) (hq:q 1=.pointer (some pf)) (hres:w0.cell? ⟨pf.block,pf.off+1,none⟩=some (.int .i64 res)) (hop:x.f0=11) (c1:CS S82) (hk:closeC c=some c1) (hr:endC c1=some c'):
  Calls Try.prog 54 #[.pointer (some ⟨g,0,none⟩),.agg #[.int .i64 x.f0,.int .i64 x.f1]] w fun e w'=>e=.returned (.bool true)∧CkE w0 w' g q c':=by
 have HO:=A_ h
 have HK:=A_ (KeepBut.refl w g none)
 have hu71:=Try.underlying71
 have hu82:=Try.underlying82
 clear h
 have b4:=ne_ hop 4
 have b2:=ne_ hop 2
 have b3:=ne_ hop 3
 have b5:=ne_ hop 5
 have b11:=e1_ hop
 have HT:=A_ hk
 obtain⟨b,hb,hr1⟩:=Option.bind_eq_some_iff.1 hr
 have HBB:=A_ hb
 have HLT:=A_ (List.getElem?_eq_some_iff.1 hb).1
 have HP:=A_ (show 0<c1.sp.length by have:=HLT.out;omega)
 have HL1:=A_ (Nat.sub_le c1.sp.length 1)
 clear hk hb hr hop
 go_enter Try.func54,Try.ntmps54
 go_upto_region 14 with (first|((with_reducible refine gd_ 3 rfl ?_);refine bx_ #[.int .i64 x.f0,.int .i64 x.f1] 71 ?_;intro gx hg wx hbox hb;have BX:=A_ hbox;have NX:=A_ (HO.out.fresh_ne hg);replace HO:=A_ (HO.out.below hb);replace HK:=A_ (HK.out.trans (KeepBut.of_below hb g none) (.inl rfl));clear hbox hb hg;have x0:=(blk_cell BX.out 0).trans rfl;have x1:=(blk_cell BX.out 1).trans rfl)|(go_at_call 70;refine(close_any w0 _ g q _ c1 A n1 _ n2 HO.out HT.out).mono ?_;rintro e w5 ⟨rfl,hO,hK⟩;replace HO:=A_ hO;replace HK:=A_ (HK.out.trans hK (.inl rfl));replace BX:=A_ (KeepBut.blk hK BX.out NX.out.1 (by simp));clear x0 x1 hO hK;have x0:=(blk_cell BX.out 0).trans rfl;have x1:=(blk_cell BX.out 1).trans rfl))
 obtain⟨gB,rfl,_,s0,s1,s2,s3,s4,_⟩:=HO.out.span _ b HBB.out
 have hm:=HO.out.lenP
 have e1:IntKind.i64.wrap ((c1.sp.length:Int) - 1)=((c1.sp.length - 1:Nat):Int):=by have:=HP.out;rw[show ((c1.sp.length:Int) - 1)=((c1.sp.length - 1:Nat):Int) by omega];exact IntWalk.i64_in _ (by omega)
 have q1:(0:Int)≤((c1.sp.length - 1:Nat):Int):=by omega
 have q3:((c1.sp.length - 1:Nat):Int)≤(n2:Int):=by omega
 clear hm
 go_upto_region 15 with (first|(go_at_call 71;refine(top_any w0 _ g q _ A n1 gB n2 HP.out HO.out).mono ?_;rintro e wt ⟨rfl,hd⟩;obtain⟨nd,hnd⟩:=hd;replace HO:=A_ (show Ck w0 wt g q _ _ n1 (some ⟨gB,0,none⟩) n2 from by rw[hnd];exact HO.out.drewN nd);replace HK:=A_ (show KeepBut w wt g none from by rw[hnd];exact keep_drewN HK.out nd);clear s0 s1 s2 s3 s4 hnd;obtain⟨_,e_,_,s0,s1,s2,s3,s4,_⟩:=HO.out.span (c1.sp.length - 1) b HBB.out;cases e_)|((with_reducible refine gd_ 5 rfl ?_);refine bx_ #[(.int .i64 0),(.int .i64 0),(.int .i64 0),(.bool false),(.bool false)] 82 ?_;intro gy hg wy hbox hb;have BY:=A_ hbox;have GY:=A_ (show w.heap.size≤gy from by rw[hg];exact HK.out.1);have NY:=A_ (HO.out.fresh_ne hg);have GG:=A_ (Nat.le_trans HO.out.2.1.size (Nat.le_of_eq hg.symm));replace HO:=A_ (HO.out.below hb);replace HK:=A_ (HK.out.trans (KeepBut.of_below hb g none) (.inl rfl));clear BX x0 x1 hbox hb hg;have y0:=(blk_cell BY.out 0).trans rfl;have vy0:=blk_frozen BY.out 0;have y1:=(blk_cell BY.out 1).trans rfl;have vy1:=blk_frozen BY.out 1;have y2:=(blk_cell BY.out 2).trans rfl;have vy2:=blk_frozen BY.out 2;have y3:=(blk_cell BY.out 3).trans rfl;have vy3:=blk_frozen BY.out 3;have y4:=(blk_cell BY.out 4).trans rfl;have vy4:=blk_frozen BY.out 4)|((with_reducible refine gate_store (t:=82) (p:=5) rfl ?_);refine store_event (t:=82) (p:=5) (v:=?vo_) (w1:=(((((wy.setCell ⟨gy,0,none⟩ ((.int .i64 b.f0))).setCell ⟨gy,1,none⟩ ((.int .i64 b.f1))).setCell ⟨gy,2,none⟩ ((.int .i64 b.f2))).setCell ⟨gy,3,none⟩ ((.bool b.f3))).setCell ⟨gy,4,none⟩ ((.bool b.f4)))) ?hg ?ho ?hn ?hr ?_;(case ho=>rfl);(case hg=>rfl);(case hn=>rfl);(case hr=>first|(go_simp;done)|(go_simp;rfl));intro wv hw;replace BY:Aside0 (wv.heap[gy]? =some (.cells #[(.int .i64 b.f0),(.int .i64 b.f1),(.int .i64 b.f2),(.bool b.f3),(.bool b.f4)] 82 (0,0))):=⟨by rw[hw];exact blk_put (cs:=#[(.int .i64 b.f0),(.int .i64 b.f1),(.int .i64 b.f2),(.bool b.f3),(.bool false)]) (blk_put (cs:=#[(.int .i64 b.f0),(.int .i64 b.f1),(.int .i64 b.f2),(.bool false),(.bool false)]) (blk_put (cs:=#[(.int .i64 b.f0),(.int .i64 b.f1),(.int .i64 0),(.bool false),(.bool false)]) (blk_put (cs:=#[(.int .i64 b.f0),(.int .i64 0),(.int .i64 0),(.bool false),(.bool false)]) (blk_put (cs:=#[(.int .i64 0),(.int .i64 0),(.int .i64 0),(.bool false),(.bool false)]) (BY.out) 0 ((.int .i64 b.f0)) rfl) 1 ((.int .i64 b.f1)) rfl) 2 ((.int .i64 b.f2)) rfl) 3 ((.bool b.f3)) rfl) 4 ((.bool b.f4)) rfl⟩;replace HO:Aside0 (Ck w0 wv g q _ _ n1 _ n2):=⟨by rw[hw];exact Ck.other (Ck.other (Ck.other (Ck.other (Ck.other (HO.out) GG.out NY.out 0 ((.int .i64 b.f0))) GG.out NY.out 1 ((.int .i64 b.f1))) GG.out NY.out 2 ((.int .i64 b.f2))) GG.out NY.out 3 ((.bool b.f3))) GG.out NY.out 4 ((.bool b.f4))⟩;replace HK:Aside0 (KeepBut w wv g none):=⟨by rw[hw];exact keep_other (keep_other (keep_other (keep_other (keep_other (HK.out) GY.out 0 ((.int .i64 b.f0))) GY.out 1 ((.int .i64 b.f1))) GY.out 2 ((.int .i64 b.f2))) GY.out 3 ((.bool b.f3))) GY.out 4 ((.bool b.f4))⟩;clear y0 vy0 y1 vy1 y2 vy2 y3 vy3 y4 vy4 hw;have y0:=(blk_cell BY.out 0).trans rfl;have y1:=(blk_cell BY.out 1).trans rfl;have y2:=(blk_cell BY.out 2).trans rfl;have y3:=(blk_cell BY.out 3).trans rfl;have y4:=(blk_cell BY.out 4).trans rfl))
 by_cases k1:b.f0=4
 ·
  have d1:(b.f0==4)=true:=beq_iff_eq.2 k1
  by_cases k2:b.f4=false
  ·
   by_cases k3:b.f1≠64
   ·
    have d3:(b.f1 !=64)=true:=bne_iff_ne.2 k3
    rw[k2] at y4
    simp only[if_pos (show b.f0=4∧b.f4=false∧b.f1≠64 from ⟨k1,k2,k3⟩)] at hr1
    by_cases cz:0<c1.sp.length - 1
    ·
     rw[if_pos cz] at hr1
     rw[(fail_st c1 3).2] at hr1
     have HRR:=A_ hr1
     have cb:decide ((0:Int)<((c1.sp.length - 1:Nat):Int))=true:=decide_eq_true (by omega)
     have cbn:=decide_eq_true cz
     clear hr1 cz
     go_upto_region 17 with (first|(go_at_call 59;refine(fail_any w0 _ g q _ 3 A n1 _ n2 HO.out).mono ?_;rintro e w5 ⟨rfl,hO,hK⟩;replace HO:=A_ hO;replace HK:=A_ (HK.out.trans hK (.inl rfl));replace BY:=A_ (KeepBut.blk hK BY.out NY.out.1 (by simp));clear y0 y1 y2 y3 y4 hO hK;have y1:=(blk_cell BY.out 1).trans rfl))
     have c3:w5.cell? ⟨g,3,none⟩=some (.slice (some ⟨gB,0,none⟩) c1.sp.length n2):=by have h9:=HO.out.cell3;rwa [(fail_st c1 3).2] at h9
     go_still_tail 14,(by kernel_rfl)
     change wpList _ _ _ _ _ w5.drew
     have m2:=A_ (blk_drew BY.out);clear BY y1;replace HO:=A_ (HO.out.drew);replace HK:=A_ (keep_drew HK.out);clear c3;generalize w5.drew=wz at*
     have c3:wz.cell? ⟨g,3,none⟩=some (.slice (some ⟨gB,0,none⟩) c1.sp.length n2):=by have h9:=HO.out.cell3;rwa [(fail_st c1 3).2] at h9
     have y1:=(blk_cell m2.out 1).trans rfl
     have f3:=HO.out.frozen 3
     go_upto_region 18 with (fail)
     have m3:=A_ (show(wz.setCell ⟨g,3,none⟩ (.slice (some ⟨gB,0,none⟩) (c1.sp.length - 1) n2)).heap[gy]? =some (.cells #[(.int .i64 b.f0),(.int .i64 b.f1),(.int .i64 b.f2),(.bool b.f3),(.bool b.f4)] 82 (0,0)) from(Below.heap_setCell wz ⟨g,3,none⟩ (.slice (some ⟨gB,0,none⟩) (c1.sp.length - 1) n2) gy NY.out.1).trans m2.out);clear m2 y1;replace HO:=A_ (HO.out.cutP (c1.sp.length - 1) (by rw[(fail_st c1 3).2];exact HL1.out));replace HK:=A_ (HK.out.set_ 3 (.slice (some ⟨gB,0,none⟩) (c1.sp.length - 1) n2));clear c3 f3;generalize wz.setCell ⟨g,3,none⟩ (.slice (some ⟨gB,0,none⟩) (c1.sp.length - 1) n2)=wu at*
     have y1:=(blk_cell m3.out 1).trans rfl
     have c3:wu.cell? ⟨g,3,none⟩=some (.slice (some ⟨gB,0,none⟩) (c1.sp.length - 1) n2):=by have h9:=HO.out.cell3;simp only[List.length_take] at h9;rwa [(fail_st c1 3).2,Nat.min_eq_left (Nat.sub_le _ _)] at h9
     have h9:=HO.out
     rw[(fail_st c1 3).2] at h9
     replace HO:=A_ h9;clear h9
     go_wp2_with (first|(go_at_call 57;refine(put_any b.f1 w0 _ g q _ c' A n1 _ n2 HO.out HRR.out).mono ?_;rintro e w8 ⟨rfl,hE⟩;have HE:=A_ hE;clear hE))
     go_ret
     exact⟨rfl,HE.out⟩
    rw[if_neg cz] at hr1
    rw[(fail_st c1 3).2] at hr1
    have HRR:=A_ (Option.some.inj hr1)
    have cb:decide ((0:Int)<((c1.sp.length - 1:Nat):Int))=false:=decide_eq_false (by omega)
    have cbn:=decide_eq_false cz
    clear hr1 cz
    go_upto_region 17 with (first|(go_at_call 59;refine(fail_any w0 _ g q _ 3 A n1 _ n2 HO.out).mono ?_;rintro e w5 ⟨rfl,hO,hK⟩;replace HO:=A_ hO;replace HK:=A_ (HK.out.trans hK (.inl rfl));replace BY:=A_ (KeepBut.blk hK BY.out NY.out.1 (by simp));clear y0 y1 y2 y3 y4 hO hK;have y1:=(blk_cell BY.out 1).trans rfl))
    have c3:w5.cell? ⟨g,3,none⟩=some (.slice (some ⟨gB,0,none⟩) c1.sp.length n2):=by have h9:=HO.out.cell3;rwa [(fail_st c1 3).2] at h9
    go_still_tail 14,(by kernel_rfl)
    change wpList _ _ _ _ _ w5.drew
    have m2:=A_ (blk_drew BY.out);clear BY y1;replace HO:=A_ (HO.out.drew);replace HK:=A_ (keep_drew HK.out);clear c3;generalize w5.drew=wz at*
    have c3:wz.cell? ⟨g,3,none⟩=some (.slice (some ⟨gB,0,none⟩) c1.sp.length n2):=by have h9:=HO.out.cell3;rwa [(fail_st c1 3).2] at h9
    have y1:=(blk_cell m2.out 1).trans rfl
    have f3:=HO.out.frozen 3
    go_upto_region 18 with (fail)
    have m3:=A_ (show(wz.setCell ⟨g,3,none⟩ (.slice (some ⟨gB,0,none⟩) (c1.sp.length - 1) n2)).heap[gy]? =some (.cells #[(.int .i64 b.f0),(.int .i64 b.f1),(.int .i64 b.f2),(.bool b.f3),(.bool b.f4)] 82 (0,0)) from(Below.heap_setCell wz ⟨g,3,none⟩ (.slice (some ⟨gB,0,none⟩) (c1.sp.length - 1) n2) gy NY.out.1).trans m2.out);clear m2 y1;replace HO:=A_ (HO.out.cutP (c1.sp.length - 1) (by rw[(fail_st c1 3).2];exact HL1.out));replace HK:=A_ (HK.out.set_ 3 (.slice (some ⟨gB,0,none⟩) (c1.sp.length - 1) n2));clear c3 f3;generalize wz.setCell ⟨g,3,none⟩ (.slice (some ⟨gB,0,none⟩) (c1.sp.length - 1) n2)=wu at*
    have y1:=(blk_cell m3.out 1).trans rfl
    have c3:wu.cell? ⟨g,3,none⟩=some (.slice (some ⟨gB,0,none⟩) (c1.sp.length - 1) n2):=by have h9:=HO.out.cell3;simp only[List.length_take] at h9;rwa [(fail_st c1 3).2,Nat.min_eq_left (Nat.sub_le _ _)] at h9
    have h9:=HO.out
    rw[(fail_st c1 3).2] at h9
    replace HO:=A_ h9;clear h9
    go_wp2
    go_ret
    exact⟨rfl,_,_,_,_,by have h9:=HO.out;rw[HRR.out] at h9;exact h9⟩
   have d3:(b.f1 !=64)=false:=bne_eq_false_iff_eq.2 (Classical.not_not.1 k3)
   rw[k2] at y4
   simp only[if_neg (show ¬(b.f0=4∧b.f4=false∧b.f1≠64) from(fun h=>k3 h.2.2))] at hr1
   by_cases cz:0<c1.sp.length - 1
   ·
    rw[if_pos cz] at hr1
    have HRR:=A_ hr1
    have cb:decide ((0:Int)<((c1.sp.length - 1:Nat):Int))=true:=decide_eq_true (by omega)
    have cbn:=decide_eq_true cz
    clear hr1 cz
    go_upto_region 17 with (fail)
    have c3:wv.cell? ⟨g,3,none⟩=some (.slice (some ⟨gB,0,none⟩) c1.sp.length n2):=by have h9:=HO.out.cell3;exact h9
    go_still_tail 14,(by kernel_rfl)
    change wpList _ _ _ _ _ wv.drew
    have m2:=A_ (blk_drew BY.out);clear BY y0 y1 y2 y3 y4;replace HO:=A_ (HO.out.drew);replace HK:=A_ (keep_drew HK.out);clear c3;generalize wv.drew=wz at*
    have c3:wz.cell? ⟨g,3,none⟩=some (.slice (some ⟨gB,0,none⟩) c1.sp.length n2):=by have h9:=HO.out.cell3;exact h9
    have y1:=(blk_cell m2.out 1).trans rfl
    have f3:=HO.out.frozen 3
    go_upto_region 18 with (fail)
    have m3:=A_ (show(wz.setCell ⟨g,3,none⟩ (.slice (some ⟨gB,0,none⟩) (c1.sp.length - 1) n2)).heap[gy]? =some (.cells #[(.int .i64 b.f0),(.int .i64 b.f1),(.int .i64 b.f2),(.bool b.f3),(.bool b.f4)] 82 (0,0)) from(Below.heap_setCell wz ⟨g,3,none⟩ (.slice (some ⟨gB,0,none⟩) (c1.sp.length - 1) n2) gy NY.out.1).trans m2.out);clear m2 y1;replace HO:=A_ (HO.out.cutP (c1.sp.length - 1) (by exact HL1.out));replace HK:=A_ (HK.out.set_ 3 (.slice (some ⟨gB,0,none⟩) (c1.sp.length - 1) n2));clear c3 f3;generalize wz.setCell ⟨g,3,none⟩ (.slice (some ⟨gB,0,none⟩) (c1.sp.length - 1) n2)=wu at*
    have y1:=(blk_cell m3.out 1).trans rfl
    have c3:wu.cell? ⟨g,3,none⟩=some (.slice (some ⟨gB,0,none⟩) (c1.sp.length - 1) n2):=by have h9:=HO.out.cell3;simp only[List.length_take] at h9;rwa [Nat.min_eq_left (Nat.sub_le _ _)] at h9
    go_wp2_with (first|(go_at_call 57;refine(put_any b.f1 w0 _ g q _ c' A n1 _ n2 HO.out HRR.out).mono ?_;rintro e w8 ⟨rfl,hE⟩;have HE:=A_ hE;clear hE))
    go_ret
    exact⟨rfl,HE.out⟩
   rw[if_neg cz] at hr1
   have HRR:=A_ (Option.some.inj hr1)
   have cb:decide ((0:Int)<((c1.sp.length - 1:Nat):Int))=false:=decide_eq_false (by omega)
   have cbn:=decide_eq_false cz
   clear hr1 cz
   go_upto_region 17 with (fail)
   have c3:wv.cell? ⟨g,3,none⟩=some (.slice (some ⟨gB,0,none⟩) c1.sp.length n2):=by have h9:=HO.out.cell3;exact h9
   go_still_tail 14,(by kernel_rfl)
   change wpList _ _ _ _ _ wv.drew
   have m2:=A_ (blk_drew BY.out);clear BY y0 y1 y2 y3 y4;replace HO:=A_ (HO.out.drew);replace HK:=A_ (keep_drew HK.out);clear c3;generalize wv.drew=wz at*
   have c3:wz.cell? ⟨g,3,none⟩=some (.slice (some ⟨gB,0,none⟩) c1.sp.length n2):=by have h9:=HO.out.cell3;exact h9
   have y1:=(blk_cell m2.out 1).trans rfl
   have f3:=HO.out.frozen 3
   go_upto_region 18 with (fail)
   have m3:=A_ (show(wz.setCell ⟨g,3,none⟩ (.slice (some ⟨gB,0,none⟩) (c1.sp.length - 1) n2)).heap[gy]? =some (.cells #[(.int .i64 b.f0),(.int .i64 b.f1),(.int .i64 b.f2),(.bool b.f3),(.bool b.f4)] 82 (0,0)) from(Below.heap_setCell wz ⟨g,3,none⟩ (.slice (some ⟨gB,0,none⟩) (c1.sp.length - 1) n2) gy NY.out.1).trans m2.out);clear m2 y1;replace HO:=A_ (HO.out.cutP (c1.sp.length - 1) (by exact HL1.out));replace HK:=A_ (HK.out.set_ 3 (.slice (some ⟨gB,0,none⟩) (c1.sp.length - 1) n2));clear c3 f3;generalize wz.setCell ⟨g,3,none⟩ (.slice (some ⟨gB,0,none⟩) (c1.sp.length - 1) n2)=wu at*
   have y1:=(blk_cell m3.out 1).trans rfl
   have c3:wu.cell? ⟨g,3,none⟩=some (.slice (some ⟨gB,0,none⟩) (c1.sp.length - 1) n2):=by have h9:=HO.out.cell3;simp only[List.length_take] at h9;rwa [Nat.min_eq_left (Nat.sub_le _ _)] at h9
   go_wp2
   go_ret
   exact⟨rfl,_,_,_,_,by have h9:=HO.out;rw[HRR.out] at h9;exact h9⟩
  have d2:b.f4=true:=by simpa using k2
  rw[d2] at y4
  simp only[if_neg (show ¬(b.f0=4∧b.f4=false∧b.f1≠64) from(fun h=>k2 h.2.1))] at hr1
  by_cases cz:0<c1.sp.length - 1
  ·
   rw[if_pos cz] at hr1
   have HRR:=A_ hr1
   have cb:decide ((0:Int)<((c1.sp.length - 1:Nat):Int))=true:=decide_eq_true (by omega)
   have cbn:=decide_eq_true cz
   clear hr1 cz
   go_upto_region 17 with (fail)
   have c3:wv.cell? ⟨g,3,none⟩=some (.slice (some ⟨gB,0,none⟩) c1.sp.length n2):=by have h9:=HO.out.cell3;exact h9
   go_still_tail 14,(by kernel_rfl)
   change wpList _ _ _ _ _ wv.drew
   have m2:=A_ (blk_drew BY.out);clear BY y0 y1 y2 y3 y4;replace HO:=A_ (HO.out.drew);replace HK:=A_ (keep_drew HK.out);clear c3;generalize wv.drew=wz at*
   have c3:wz.cell? ⟨g,3,none⟩=some (.slice (some ⟨gB,0,none⟩) c1.sp.length n2):=by have h9:=HO.out.cell3;exact h9
   have y1:=(blk_cell m2.out 1).trans rfl
   have f3:=HO.out.frozen 3
   go_upto_region 18 with (fail)
   have m3:=A_ (show(wz.setCell ⟨g,3,none⟩ (.slice (some ⟨gB,0,none⟩) (c1.sp.length - 1) n2)).heap[gy]? =some (.cells #[(.int .i64 b.f0),(.int .i64 b.f1),(.int .i64 b.f2),(.bool b.f3),(.bool b.f4)] 82 (0,0)) from(Below.heap_setCell wz ⟨g,3,none⟩ (.slice (some ⟨gB,0,none⟩) (c1.sp.length - 1) n2) gy NY.out.1).trans m2.out);clear m2 y1;replace HO:=A_ (HO.out.cutP (c1.sp.length - 1) (by exact HL1.out));replace HK:=A_ (HK.out.set_ 3 (.slice (some ⟨gB,0,none⟩) (c1.sp.length - 1) n2));clear c3 f3;generalize wz.setCell ⟨g,3,none⟩ (.slice (some ⟨gB,0,none⟩) (c1.sp.length - 1) n2)=wu at*
   have y1:=(blk_cell m3.out 1).trans rfl
   have c3:wu.cell? ⟨g,3,none⟩=some (.slice (some ⟨gB,0,none⟩) (c1.sp.length - 1) n2):=by have h9:=HO.out.cell3;simp only[List.length_take] at h9;rwa [Nat.min_eq_left (Nat.sub_le _ _)] at h9
   go_wp2_with (first|(go_at_call 57;refine(put_any b.f1 w0 _ g q _ c' A n1 _ n2 HO.out HRR.out).mono ?_;rintro e w8 ⟨rfl,hE⟩;have HE:=A_ hE;clear hE))
   go_ret
   exact⟨rfl,HE.out⟩
  rw[if_neg cz] at hr1
  have HRR:=A_ (Option.some.inj hr1)
  have cb:decide ((0:Int)<((c1.sp.length - 1:Nat):Int))=false:=decide_eq_false (by omega)
  have cbn:=decide_eq_false cz
  clear hr1 cz
  go_upto_region 17 with (fail)
  have c3:wv.cell? ⟨g,3,none⟩=some (.slice (some ⟨gB,0,none⟩) c1.sp.length n2):=by have h9:=HO.out.cell3;exact h9
  go_still_tail 14,(by kernel_rfl)
  change wpList _ _ _ _ _ wv.drew
  have m2:=A_ (blk_drew BY.out);clear BY y0 y1 y2 y3 y4;replace HO:=A_ (HO.out.drew);replace HK:=A_ (keep_drew HK.out);clear c3;generalize wv.drew=wz at*
  have c3:wz.cell? ⟨g,3,none⟩=some (.slice (some ⟨gB,0,none⟩) c1.sp.length n2):=by have h9:=HO.out.cell3;exact h9
  have y1:=(blk_cell m2.out 1).trans rfl
  have f3:=HO.out.frozen 3
  go_upto_region 18 with (fail)
  have m3:=A_ (show(wz.setCell ⟨g,3,none⟩ (.slice (some ⟨gB,0,none⟩) (c1.sp.length - 1) n2)).heap[gy]? =some (.cells #[(.int .i64 b.f0),(.int .i64 b.f1),(.int .i64 b.f2),(.bool b.f3),(.bool b.f4)] 82 (0,0)) from(Below.heap_setCell wz ⟨g,3,none⟩ (.slice (some ⟨gB,0,none⟩) (c1.sp.length - 1) n2) gy NY.out.1).trans m2.out);clear m2 y1;replace HO:=A_ (HO.out.cutP (c1.sp.length - 1) (by exact HL1.out));replace HK:=A_ (HK.out.set_ 3 (.slice (some ⟨gB,0,none⟩) (c1.sp.length - 1) n2));clear c3 f3;generalize wz.setCell ⟨g,3,none⟩ (.slice (some ⟨gB,0,none⟩) (c1.sp.length - 1) n2)=wu at*
  have y1:=(blk_cell m3.out 1).trans rfl
  have c3:wu.cell? ⟨g,3,none⟩=some (.slice (some ⟨gB,0,none⟩) (c1.sp.length - 1) n2):=by have h9:=HO.out.cell3;simp only[List.length_take] at h9;rwa [Nat.min_eq_left (Nat.sub_le _ _)] at h9
  go_wp2
  go_ret
  exact⟨rfl,_,_,_,_,by have h9:=HO.out;rw[HRR.out] at h9;exact h9⟩
 have d1:(b.f0==4)=false:=beq_eq_false_iff_ne.2 k1
 simp only[if_neg (show ¬(b.f0=4∧b.f4=false∧b.f1≠64) from(fun h=>k1 h.1))] at hr1
 by_cases cz:0<c1.sp.length - 1
 ·
  rw[if_pos cz] at hr1
  have HRR:=A_ hr1
  have cb:decide ((0:Int)<((c1.sp.length - 1:Nat):Int))=true:=decide_eq_true (by omega)
  have cbn:=decide_eq_true cz
  clear hr1 cz
  go_upto_region 17 with (fail)
  have c3:wv.cell? ⟨g,3,none⟩=some (.slice (some ⟨gB,0,none⟩) c1.sp.length n2):=by have h9:=HO.out.cell3;exact h9
  go_still_tail 14,(by kernel_rfl)
  change wpList _ _ _ _ _ wv.drew
  have m2:=A_ (blk_drew BY.out);clear BY y0 y1 y2 y3 y4;replace HO:=A_ (HO.out.drew);replace HK:=A_ (keep_drew HK.out);clear c3;generalize wv.drew=wz at*
  have c3:wz.cell? ⟨g,3,none⟩=some (.slice (some ⟨gB,0,none⟩) c1.sp.length n2):=by have h9:=HO.out.cell3;exact h9
  have y1:=(blk_cell m2.out 1).trans rfl
  have f3:=HO.out.frozen 3
  go_upto_region 18 with (fail)
  have m3:=A_ (show(wz.setCell ⟨g,3,none⟩ (.slice (some ⟨gB,0,none⟩) (c1.sp.length - 1) n2)).heap[gy]? =some (.cells #[(.int .i64 b.f0),(.int .i64 b.f1),(.int .i64 b.f2),(.bool b.f3),(.bool b.f4)] 82 (0,0)) from(Below.heap_setCell wz ⟨g,3,none⟩ (.slice (some ⟨gB,0,none⟩) (c1.sp.length - 1) n2) gy NY.out.1).trans m2.out);clear m2 y1;replace HO:=A_ (HO.out.cutP (c1.sp.length - 1) (by exact HL1.out));replace HK:=A_ (HK.out.set_ 3 (.slice (some ⟨gB,0,none⟩) (c1.sp.length - 1) n2));clear c3 f3;generalize wz.setCell ⟨g,3,none⟩ (.slice (some ⟨gB,0,none⟩) (c1.sp.length - 1) n2)=wu at*
  have y1:=(blk_cell m3.out 1).trans rfl
  have c3:wu.cell? ⟨g,3,none⟩=some (.slice (some ⟨gB,0,none⟩) (c1.sp.length - 1) n2):=by have h9:=HO.out.cell3;simp only[List.length_take] at h9;rwa [Nat.min_eq_left (Nat.sub_le _ _)] at h9
  go_wp2_with (first|(go_at_call 57;refine(put_any b.f1 w0 _ g q _ c' A n1 _ n2 HO.out HRR.out).mono ?_;rintro e w8 ⟨rfl,hE⟩;have HE:=A_ hE;clear hE))
  go_ret
  exact⟨rfl,HE.out⟩
 rw[if_neg cz] at hr1
 have HRR:=A_ (Option.some.inj hr1)
 have cb:decide ((0:Int)<((c1.sp.length - 1:Nat):Int))=false:=decide_eq_false (by omega)
 have cbn:=decide_eq_false cz
 clear hr1 cz
 go_upto_region 17 with (fail)
 have c3:wv.cell? ⟨g,3,none⟩=some (.slice (some ⟨gB,0,none⟩) c1.sp.length n2):=by have h9:=HO.out.cell3;exact h9
 go_still_tail 14,(by kernel_rfl)
 change wpList _ _ _ _ _ wv.drew
 have m2:=A_ (blk_drew BY.out);clear BY y0 y1 y2 y3 y4;replace HO:=A_ (HO.out.drew);replace HK:=A_ (keep_drew HK.out);clear c3;generalize wv.drew=wz at*
 have c3:wz.cell? ⟨g,3,none⟩=some (.slice (some ⟨gB,0,none⟩) c1.sp.length n2):=by have h9:=HO.out.cell3;exact h9
 have y1:=(blk_cell m2.out 1).trans rfl
 have f3:=HO.out.frozen 3
 go_upto_region 18 with (fail)
 have m3:=A_ (show(wz.setCell ⟨g,3,none⟩ (.slice (some ⟨gB,0,none⟩) (c1.sp.length - 1) n2)).heap[gy]? =some (.cells #[(.int .i64 b.f0),(.int .i64 b.f1),(.int .i64 b.f2),(.bool b.f3),(.bool b.f4)] 82 (0,0)) from(Below.heap_setCell wz ⟨g,3,none⟩ (.slice (some ⟨gB,0,none⟩) (c1.sp.length - 1) n2) gy NY.out.1).trans m2.out);clear m2 y1;replace HO:=A_ (HO.out.cutP (c1.sp.length - 1) (by exact HL1.out));replace HK:=A_ (HK.out.set_ 3 (.slice (some ⟨gB,0,none⟩) (c1.sp.length - 1) n2));clear c3 f3;generalize wz.setCell ⟨g,3,none⟩ (.slice (some ⟨gB,0,none⟩) (c1.sp.length - 1) n2)=wu at*
 have y1:=(blk_cell m3.out 1).trans rfl
 have c3:wu.cell? ⟨g,3,none⟩=some (.slice (some ⟨gB,0,none⟩) (c1.sp.length - 1) n2):=by have h9:=HO.out.cell3;simp only[List.length_take] at h9;rwa [Nat.min_eq_left (Nat.sub_le _ _)] at h9
 go_wp2
 go_ret
 exact⟨rfl,_,_,_,_,by have h9:=HO.out;rw[HRR.out] at h9;exact h9⟩

set_option maxHeartbeats 1000000 in
theorem block_any (c c':CS S82) (r:Bool) (A:Option Addr) (n1:Nat) (B:Option Addr) (n2:Nat) (h:Ck w0 w g q c A n1 B n2) (hq:q 1=.pointer (some pf)) (hres:w0.cell? ⟨pf.block,pf.off+1,none⟩=some (.int .i64 res)) (hr:blockC c res x=some (c',r)):
  Calls Try.prog 54 #[.pointer (some ⟨g,0,none⟩),.agg #[.int .i64 x.f0,.int .i64 x.f1]] w fun e w'=>e=.returned (.bool r)∧(r=true→CkE w0 w' g q c')∧(r=false→c'=c∧Ck w0 w' g q c A n1 B n2∧KeepBut w w' g none):=by
 have yes:∀ {P:Ending→World→Prop},r=true→Calls Try.prog 54 #[.pointer (some ⟨g,0,none⟩),.agg #[.int .i64 x.f0,.int .i64 x.f1]] w (fun e w'=>e=.returned (.bool true)∧CkE w0 w' g q c')→Calls Try.prog 54 #[.pointer (some ⟨g,0,none⟩),.agg #[.int .i64 x.f0,.int .i64 x.f1]] w (fun e w'=>e=.returned (.bool r)∧(r=true→CkE w0 w' g q c')∧(r=false→c'=c∧Ck w0 w' g q c A n1 B n2∧KeepBut w w' g none)):=by
  intro P e hc
  subst e
  exact hc.mono fun e w' hh=>⟨hh.1,fun _=>hh.2,(fun h=>by cases h)⟩
 unfold blockC at hr
 by_cases k4:x.f0=4
 ·
  rw[if_pos k4] at hr
  obtain⟨⟨c1,t⟩,h1,hr⟩:=Option.bind_eq_some_iff.1 hr
  obtain⟨c2,h2,hr⟩:=Option.bind_eq_some_iff.1 hr
  simp only[Option.some.injEq,Prod.mk.injEq] at hr
  obtain⟨rfl,e⟩:=hr
  exact yes (P:=fun _ _=>True) e.symm (block_4 x res pf w0 w g q c c2 A n1 B n2 h hq hres k4 c1 t h1 h2)
 rw[if_neg k4] at hr
 by_cases k23:x.f0=2∨x.f0=3
 ·
  rw[if_pos k23] at hr
  obtain⟨c2,h2,hr⟩:=Option.bind_eq_some_iff.1 hr
  simp only[Option.some.injEq,Prod.mk.injEq] at hr
  obtain⟨rfl,e⟩:=hr
  exact yes (P:=fun _ _=>True) e.symm (block_23 x res pf w0 w g q c c2 A n1 B n2 h hq hres k23 h2)
 rw[if_neg k23] at hr
 by_cases k5:x.f0=5
 ·
  rw[if_pos k5] at hr
  obtain⟨c1,h1,hr⟩:=Option.bind_eq_some_iff.1 hr
  obtain⟨c2,h2,hr⟩:=Option.bind_eq_some_iff.1 hr
  simp only[Option.some.injEq,Prod.mk.injEq] at hr
  obtain⟨rfl,e⟩:=hr
  exact yes (P:=fun _ _=>True) e.symm (block_5 x res pf w0 w g q c c2 A n1 B n2 h hq hres k5 c1 h1 h2)
 rw[if_neg k5] at hr
 by_cases k11:x.f0=11
 ·
  rw[if_pos k11] at hr
  obtain⟨c1,h1,hr⟩:=Option.bind_eq_some_iff.1 hr
  obtain⟨c2,h2,hr⟩:=Option.bind_eq_some_iff.1 hr
  simp only[Option.some.injEq,Prod.mk.injEq] at hr
  obtain⟨rfl,e⟩:=hr
  exact yes (P:=fun _ _=>True) e.symm (block_11 x res pf w0 w g q c c2 A n1 B n2 h hq hres k11 c1 h1 h2)
 rw[if_neg k11] at hr
 by_cases k12:x.f0=12
 ·
  rw[if_pos k12] at hr
  obtain⟨⟨cw,t⟩,h1,hr⟩:=Option.bind_eq_some_iff.1 hr
  obtain⟨c1,h2,hr⟩:=Option.bind_eq_some_iff.1 hr
  obtain⟨c2,h3,hr⟩:=Option.bind_eq_some_iff.1 hr
  simp only[Option.some.injEq,Prod.mk.injEq] at hr
  obtain⟨rfl,e⟩:=hr
  exact yes (P:=fun _ _=>True) e.symm (block_12 x res pf w0 w g q c c2 A n1 B n2 h hq hres k12 cw c1 t h1 h2 h3)
 rw[if_neg k12] at hr
 by_cases k13:x.f0=13
 ·
  rw[if_pos k13] at hr
  obtain⟨⟨cw,t⟩,h1,hr⟩:=Option.bind_eq_some_iff.1 hr
  obtain⟨⟨cs,u⟩,h2,hr⟩:=Option.bind_eq_some_iff.1 hr
  obtain⟨c1,h3,hr⟩:=Option.bind_eq_some_iff.1 hr
  obtain⟨c2,h4,hr⟩:=Option.bind_eq_some_iff.1 hr
  simp only[Option.some.injEq,Prod.mk.injEq] at hr
  obtain⟨rfl,e⟩:=hr
  exact yes (P:=fun _ _=>True) e.symm (block_13 x res pf w0 w g q c c2 A n1 B n2 h hq hres k13 cw cs c1 t u h1 h2 h3 h4)
 rw[if_neg k13] at hr
 by_cases k15:x.f0=15
 ·
  rw[if_pos k15] at hr
  obtain⟨c1,h1,hr⟩:=Option.bind_eq_some_iff.1 hr
  obtain⟨c2,h2,hr⟩:=Option.bind_eq_some_iff.1 hr
  simp only[Option.some.injEq,Prod.mk.injEq] at hr
  obtain⟨rfl,e⟩:=hr
  exact yes (P:=fun _ _=>True) e.symm (block_15 x res pf w0 w g q c c2 A n1 B n2 h hq hres k15 c1 h1 h2)
 rw[if_neg k15] at hr
 by_cases k0:x.f0=0
 ·
  rw[if_pos k0] at hr
  obtain⟨c2,h2,hr⟩:=Option.bind_eq_some_iff.1 hr
  simp only[Option.some.injEq,Prod.mk.injEq] at hr
  obtain⟨rfl,e⟩:=hr
  exact yes (P:=fun _ _=>True) e.symm (block_0 x res pf w0 w g q c c2 A n1 B n2 h hq hres k0 h2)
 rw[if_neg k0] at hr
 simp only[Option.some.injEq,Prod.mk.injEq] at hr
 obtain⟨rfl,rfl⟩:=hr
 refine(block_no x res pf w0 w g q c A n1 B n2 h hq hres ⟨k4,fun e=>k23 (.inl e),fun e=>k23 (.inr e),k5,k11,k12,k13,k15,k0⟩).mono fun e w' hh=>⟨hh.1,(fun h=>by cases h),fun _=>⟨rfl,hh.2⟩⟩


end


/-! ### impl_Func_local: function 75 (walked by hand) -/
/-- A func that lies in the memory that came in. -/
def FEnv (w0:World) (p:Addr) (f:S59):Prop:=∃ A0 c0 A2 c2 A3 c3,w0.cell? p=some (.slice A0 f.f0.length c0)∧w0.cell? ⟨p.block,p.off+1,none⟩=some (.int .i64 f.f1)∧w0.cell? ⟨p.block,p.off+2,none⟩=some (.slice A2 f.f2.length c2)∧w0.cell? ⟨p.block,p.off+3,none⟩=some (.slice A3 f.f3.length c3)∧Kd.C (Kd.int .i64) w0 A0 f.f0.length f.f0∧Kd.C (Kd.int .i64) w0 A2 f.f2.length f.f2∧Kd.C k71 w0 A3 f.f3.length f.f3
/-- A module that lies in the memory that came in. -/
def MEnv (w0:World) (v:Value) (fs:List S59) (gs:List S63) (mem:Bool):Prop:=∃ bm AF cF AG cG,v=.pointer (some ⟨bm,0,none⟩)∧w0.cell? ⟨bm,0,none⟩=some (.slice AF fs.length cF)∧w0.cell? ⟨bm,1,none⟩=some (.slice AG gs.length cG)∧w0.cell? ⟨bm,2,none⟩=some (.bool mem)∧Kd.C k59 w0 AF fs.length fs∧Kd.C k63 w0 AG gs.length gs
def localF (f:S59) (a:Int):Option (Int × Bool):=if f.f0.length+f.f2.length≤1000000∧0≤a then (if a<(f.f0.length:Int) then some (rd f.f0 a,true) else if a<(f.f0.length:Int)+(f.f2.length:Int) then some (rd f.f2 (a - (f.f0.length:Int)),true) else some (0,false)) else none
theorem local_any (f:S59) (a t:Int) (ok:Bool) (p:Addr) (w0 w:World) (hf:FEnv w0 p f) (hb:Below w0.heap.size w0 w) (hr:localF f a=some (t,ok)):
  Calls Try.prog 75 #[.pointer (some p),.int .i64 a] w fun e w'=>e=.returned (.tuple #[.int .i64 t,.bool ok])∧∃ nd,w'=w.drewN nd:=by
 obtain⟨A0,c0,A2,c2,A3,c3,h0,h1,h2,h3,r0,r2,r3⟩:=hf
 have g0:=cl_ hb h0
 have g2:=cl_ hb h2
 unfold localF at hr
 by_cases cg:f.f0.length+f.f2.length≤1000000∧0≤a
 ·
  rw[if_pos cg] at hr
  obtain⟨cl,ca⟩:=cg
  by_cases k1:a<(f.f0.length:Int)
  ·
   rw[if_pos k1] at hr
   simp only[Option.some.injEq,Prod.mk.injEq] at hr
   obtain⟨rfl,rfl⟩:=hr
   obtain⟨ad,rfl,hx⟩:=Kd.at_int r0 a ca k1
   have gx:=cl_ hb hx
   have b1:=decide_eq_true k1
   have q0:=eq_true ca
   have q1:=eq_true k1
   clear hb h0 h1 h2 h3 r0 r2 r3 cl ca k1 hx g2
   go_enter Try.func75,Try.ntmps75
   go_wp2
   go_ret2
   exact⟨rfl,0,rfl⟩
  rw[if_neg k1] at hr
  have b1:=decide_eq_false k1
  have e1:IntKind.i64.wrap ((f.f0.length:Int)+(f.f2.length:Int))=(f.f0.length:Int)+(f.f2.length:Int):=ck_w _ (by omega)
  by_cases k2:a<(f.f0.length:Int)+(f.f2.length:Int)
  ·
   rw[if_pos k2] at hr
   simp only[Option.some.injEq,Prod.mk.injEq] at hr
   obtain⟨rfl,rfl⟩:=hr
   have e2:IntKind.i64.wrap (a - (f.f0.length:Int))=a - (f.f0.length:Int):=ck_w _ (by omega)
   have p0:0≤a - (f.f0.length:Int):=by omega
   have p1:a - (f.f0.length:Int)<(f.f2.length:Int):=by omega
   obtain⟨ad,rfl,hx⟩:=Kd.at_int r2 (a - (f.f0.length:Int)) p0 p1
   have gx:=cl_ hb hx
   have b2:=decide_eq_true k2
   generalize hi:a - (f.f0.length:Int)=i at*
   have q0:=eq_true p0
   have q1:=eq_true p1
   have HI:=A_ hi
   clear hb h0 h1 h2 h3 r0 r2 r3 cl ca k1 k2 hx hi
   go_enter Try.func75,Try.ntmps75
   go_wp2
   go_quiet (fail)
   go_wp2
   have HI':=HI.out
   go_quiet (fail)
   go_wp2
   go_ret2
   exact⟨rfl,drewN_two _ _ _⟩
  rw[if_neg k2] at hr
  simp only[Option.some.injEq,Prod.mk.injEq] at hr
  obtain⟨rfl,rfl⟩:=hr
  have b2:=decide_eq_false k2
  clear hb h0 h1 h2 h3 r0 r2 r3 cl ca k1 k2
  go_enter Try.func75,Try.ntmps75
  go_wp2
  go_quiet (fail)
  go_wp2
  go_ret2
  exact⟨rfl,_,rfl⟩
 rw[if_neg cg] at hr;cases hr


/-! ### impl_checker_place: function 55 (walked by hand) -/
section
variable (x:S71) (f:S59) (fs:List S59) (gs:List S63) (mem:Bool) (pf:Addr) (w0 w:World) (g:Nat) (q:Nat→Value)
theorem place_32_no (c c':CS S82) (A:Option Addr) (n1:Nat) (B:Option Addr) (n2:Nat) (h:Ck w0 w g q c A n1 B n2) (hm:MEnv w0 (q 0) fs gs mem) (hq:q 1=.pointer (some pf)) (hf:FEnv w0 pf f) (hop:x.f0=32) (t:Int) (hl:localF f x.f1=some (t,false)) (hc:c'=c.fail 5):
  Calls Try.prog 55 #[.pointer (some ⟨g,0,none⟩),.agg #[.int .i64 x.f0,.int .i64 x.f1]] w fun e w'=>e=.returned (.bool true)∧CkE w0 w' g q c':=by
 have HO:=A_ h
 have HK:=A_ (KeepBut.refl w g none)
 have hu71:=Try.underlying71
 have HM:=A_ hm;have HQ:=A_ hq;have HF:=A_ hf
 clear h hm hq hf
 subst hc
 have HL:=A_ hl
 have b32:=e1_ hop
 have d32:(x.f0 !=32)=false:=by rw[hop];rfl
 have d33:=nd_ hop 33
 clear hl hop
 go_enter Try.func55,Try.ntmps55
 go_upto_region 6 with (first|((with_reducible refine gd_ 3 rfl ?_);refine bx_ #[.int .i64 x.f0,.int .i64 x.f1] 71 ?_;intro gx hg wx hbox hb;have BX:=A_ hbox;have NX:=A_ (HO.out.fresh_ne hg);replace HO:=A_ (HO.out.below hb);replace HK:=A_ (HK.out.trans (KeepBut.of_below hb g none) (.inl rfl));clear hbox hb hg;have x0:=(blk_cell BX.out 0).trans rfl;have x1:=(blk_cell BX.out 1).trans rfl))
 have c1f:=HO.out.cell1
 rw[HQ.out] at c1f
 go_quiet ((go_at_call 75;exact Calls.quiet_of (local_any f x.f1 t false pf w0 _ HF.out (pw_below_drewN HO.out.2.1 _) HL.out)))
 replace HO:=A_ (HO.out.drewN nq);replace HK:=A_ (keep_drewN HK.out nq);replace BX:=A_ (blk_drewN BX.out nq);clear x0 x1 c1f;generalize wx.drewN nq=wq at*;have x0:=(blk_cell BX.out 0).trans rfl;have x1:=(blk_cell BX.out 1).trans rfl
 go_wp2_with (first|(go_at_call 59;refine(fail_any w0 _ g q _ 5 A n1 _ n2 HO.out).mono ?_;rintro e w5 ⟨rfl,hO,hK⟩;replace HO:=A_ hO;replace HK:=A_ (HK.out.trans hK (.inl rfl));replace BX:=A_ (KeepBut.blk hK BX.out NX.out.1 (by simp));clear x0 x1 hO hK;have x0:=(blk_cell BX.out 0).trans rfl;have x1:=(blk_cell BX.out 1).trans rfl))
 go_ret
 exact⟨rfl,_,_,_,_,HO.out⟩
theorem place_32 (c c':CS S82) (A:Option Addr) (n1:Nat) (B:Option Addr) (n2:Nat) (h:Ck w0 w g q c A n1 B n2) (hm:MEnv w0 (q 0) fs gs mem) (hq:q 1=.pointer (some pf)) (hf:FEnv w0 pf f) (hop:x.f0=32) (t:Int) (hl:localF f x.f1=some (t,true)) (hr:c.put t=some c'):
  Calls Try.prog 55 #[.pointer (some ⟨g,0,none⟩),.agg #[.int .i64 x.f0,.int .i64 x.f1]] w fun e w'=>e=.returned (.bool true)∧CkE w0 w' g q c':=by
 have HO:=A_ h
 have HK:=A_ (KeepBut.refl w g none)
 have hu71:=Try.underlying71
 have HM:=A_ hm;have HQ:=A_ hq;have HF:=A_ hf
 clear h hm hq hf
 have HL:=A_ hl
 have HR:=A_ hr
 have b32:=e1_ hop
 have d32:(x.f0 !=32)=false:=by rw[hop];rfl
 have d33:=nd_ hop 33
 clear hl hop hr
 go_enter Try.func55,Try.ntmps55
 go_upto_region 6 with (first|((with_reducible refine gd_ 3 rfl ?_);refine bx_ #[.int .i64 x.f0,.int .i64 x.f1] 71 ?_;intro gx hg wx hbox hb;have BX:=A_ hbox;have NX:=A_ (HO.out.fresh_ne hg);replace HO:=A_ (HO.out.below hb);replace HK:=A_ (HK.out.trans (KeepBut.of_below hb g none) (.inl rfl));clear hbox hb hg;have x0:=(blk_cell BX.out 0).trans rfl;have x1:=(blk_cell BX.out 1).trans rfl))
 have c1f:=HO.out.cell1
 rw[HQ.out] at c1f
 go_quiet ((go_at_call 75;exact Calls.quiet_of (local_any f x.f1 t true pf w0 _ HF.out (pw_below_drewN HO.out.2.1 _) HL.out)))
 replace HO:=A_ (HO.out.drewN nq);replace HK:=A_ (keep_drewN HK.out nq);replace BX:=A_ (blk_drewN BX.out nq);clear x0 x1 c1f;generalize wx.drewN nq=wq at*;have x0:=(blk_cell BX.out 0).trans rfl;have x1:=(blk_cell BX.out 1).trans rfl
 go_wp2_with (first|(go_at_call 57;refine(put_any t w0 _ g q _ c' A n1 _ n2 HO.out HR.out).mono ?_;rintro e w5 ⟨rfl,hE⟩;have HE:=A_ hE;clear hE))
 go_ret
 exact⟨rfl,HE.out⟩
theorem place_33_no (c c':CS S82) (A:Option Addr) (n1:Nat) (B:Option Addr) (n2:Nat) (h:Ck w0 w g q c A n1 B n2) (hm:MEnv w0 (q 0) fs gs mem) (hq:q 1=.pointer (some pf)) (hf:FEnv w0 pf f) (hop:x.f0=33) (t:Int) (hl:localF f x.f1=some (t,false)) (hc:c'=c.fail 5):
  Calls Try.prog 55 #[.pointer (some ⟨g,0,none⟩),.agg #[.int .i64 x.f0,.int .i64 x.f1]] w fun e w'=>e=.returned (.bool true)∧CkE w0 w' g q c':=by
 have HO:=A_ h
 have HK:=A_ (KeepBut.refl w g none)
 have hu71:=Try.underlying71
 have HM:=A_ hm;have HQ:=A_ hq;have HF:=A_ hf
 clear h hm hq hf
 subst hc
 have HL:=A_ hl
 have b32:=ne_ hop 32
 have b33:=e1_ hop
 have d32:=nd_ hop 32
 have d33:(x.f0 !=33)=false:=by rw[hop];rfl
 clear hl hop
 go_enter Try.func55,Try.ntmps55
 go_upto_region 6 with (first|((with_reducible refine gd_ 3 rfl ?_);refine bx_ #[.int .i64 x.f0,.int .i64 x.f1] 71 ?_;intro gx hg wx hbox hb;have BX:=A_ hbox;have NX:=A_ (HO.out.fresh_ne hg);replace HO:=A_ (HO.out.below hb);replace HK:=A_ (HK.out.trans (KeepBut.of_below hb g none) (.inl rfl));clear hbox hb hg;have x0:=(blk_cell BX.out 0).trans rfl;have x1:=(blk_cell BX.out 1).trans rfl))
 have c1f:=HO.out.cell1
 rw[HQ.out] at c1f
 go_quiet ((go_at_call 75;exact Calls.quiet_of (local_any f x.f1 t false pf w0 _ HF.out (pw_below_drewN HO.out.2.1 _) HL.out)))
 replace HO:=A_ (HO.out.drewN nq);replace HK:=A_ (keep_drewN HK.out nq);replace BX:=A_ (blk_drewN BX.out nq);clear x0 x1 c1f;generalize wx.drewN nq=wq at*;have x0:=(blk_cell BX.out 0).trans rfl;have x1:=(blk_cell BX.out 1).trans rfl
 go_wp2_with (first|(go_at_call 59;refine(fail_any w0 _ g q _ 5 A n1 _ n2 HO.out).mono ?_;rintro e w5 ⟨rfl,hO,hK⟩;replace HO:=A_ hO;replace HK:=A_ (HK.out.trans hK (.inl rfl));replace BX:=A_ (KeepBut.blk hK BX.out NX.out.1 (by simp));clear x0 x1 hO hK;have x0:=(blk_cell BX.out 0).trans rfl;have x1:=(blk_cell BX.out 1).trans rfl))
 go_ret
 exact⟨rfl,_,_,_,_,HO.out⟩
theorem place_33 (c c':CS S82) (A:Option Addr) (n1:Nat) (B:Option Addr) (n2:Nat) (h:Ck w0 w g q c A n1 B n2) (hm:MEnv w0 (q 0) fs gs mem) (hq:q 1=.pointer (some pf)) (hf:FEnv w0 pf f) (hop:x.f0=33) (t:Int) (hl:localF f x.f1=some (t,true)) (u:Int) (hr:takeC c t=some (c',u)):
  Calls Try.prog 55 #[.pointer (some ⟨g,0,none⟩),.agg #[.int .i64 x.f0,.int .i64 x.f1]] w fun e w'=>e=.returned (.bool true)∧CkE w0 w' g q c':=by
 have HO:=A_ h
 have HK:=A_ (KeepBut.refl w g none)
 have hu71:=Try.underlying71
 have HM:=A_ hm;have HQ:=A_ hq;have HF:=A_ hf
 clear h hm hq hf
 have HL:=A_ hl
 have HR:=A_ hr
 have b32:=ne_ hop 32
 have b33:=e1_ hop
 have d32:=nd_ hop 32
 have d33:(x.f0 !=33)=false:=by rw[hop];rfl
 clear hl hop hr
 go_enter Try.func55,Try.ntmps55
 go_upto_region 6 with (first|((with_reducible refine gd_ 3 rfl ?_);refine bx_ #[.int .i64 x.f0,.int .i64 x.f1] 71 ?_;intro gx hg wx hbox hb;have BX:=A_ hbox;have NX:=A_ (HO.out.fresh_ne hg);replace HO:=A_ (HO.out.below hb);replace HK:=A_ (HK.out.trans (KeepBut.of_below hb g none) (.inl rfl));clear hbox hb hg;have x0:=(blk_cell BX.out 0).trans rfl;have x1:=(blk_cell BX.out 1).trans rfl))
 have c1f:=HO.out.cell1
 rw[HQ.out] at c1f
 go_quiet ((go_at_call 75;exact Calls.quiet_of (local_any f x.f1 t true pf w0 _ HF.out (pw_below_drewN HO.out.2.1 _) HL.out)))
 replace HO:=A_ (HO.out.drewN nq);replace HK:=A_ (keep_drewN HK.out nq);replace BX:=A_ (blk_drewN BX.out nq);clear x0 x1 c1f;generalize wx.drewN nq=wq at*;have x0:=(blk_cell BX.out 0).trans rfl;have x1:=(blk_cell BX.out 1).trans rfl
 go_wp2_with (first|(go_at_call 56;refine(take_any w0 _ g q _ c' t u A n1 _ n2 HO.out HR.out).mono ?_;rintro e w5 ⟨rfl,hO,hK⟩;replace HO:=A_ hO;replace HK:=A_ (HK.out.trans hK (.inl rfl));replace BX:=A_ (KeepBut.blk hK BX.out NX.out.1 (by simp));clear x0 x1 hO hK;have x0:=(blk_cell BX.out 0).trans rfl;have x1:=(blk_cell BX.out 1).trans rfl))
 go_ret
 exact⟨rfl,_,_,_,_,HO.out⟩
theorem place_34_no (c c':CS S82) (A:Option Addr) (n1:Nat) (B:Option Addr) (n2:Nat) (h:Ck w0 w g q c A n1 B n2) (hm:MEnv w0 (q 0) fs gs mem) (hq:q 1=.pointer (some pf)) (hf:FEnv w0 pf f) (hop:x.f0=34) (t:Int) (hl:localF f x.f1=some (t,false)) (hc:c'=c.fail 5):
  Calls Try.prog 55 #[.pointer (some ⟨g,0,none⟩),.agg #[.int .i64 x.f0,.int .i64 x.f1]] w fun e w'=>e=.returned (.bool true)∧CkE w0 w' g q c':=by
 have HO:=A_ h
 have HK:=A_ (KeepBut.refl w g none)
 have hu71:=Try.underlying71
 have HM:=A_ hm;have HQ:=A_ hq;have HF:=A_ hf
 clear h hm hq hf
 subst hc
 have HL:=A_ hl
 have b32:=ne_ hop 32
 have b33:=ne_ hop 33
 have b34:=e1_ hop
 have d32:=nd_ hop 32
 have d33:=nd_ hop 33
 clear hl hop
 go_enter Try.func55,Try.ntmps55
 go_upto_region 6 with (first|((with_reducible refine gd_ 3 rfl ?_);refine bx_ #[.int .i64 x.f0,.int .i64 x.f1] 71 ?_;intro gx hg wx hbox hb;have BX:=A_ hbox;have NX:=A_ (HO.out.fresh_ne hg);replace HO:=A_ (HO.out.below hb);replace HK:=A_ (HK.out.trans (KeepBut.of_below hb g none) (.inl rfl));clear hbox hb hg;have x0:=(blk_cell BX.out 0).trans rfl;have x1:=(blk_cell BX.out 1).trans rfl))
 have c1f:=HO.out.cell1
 rw[HQ.out] at c1f
 go_quiet ((go_at_call 75;exact Calls.quiet_of (local_any f x.f1 t false pf w0 _ HF.out (pw_below_drewN HO.out.2.1 _) HL.out)))
 replace HO:=A_ (HO.out.drewN nq);replace HK:=A_ (keep_drewN HK.out nq);replace BX:=A_ (blk_drewN BX.out nq);clear x0 x1 c1f;generalize wx.drewN nq=wq at*;have x0:=(blk_cell BX.out 0).trans rfl;have x1:=(blk_cell BX.out 1).trans rfl
 go_wp2_with (first|(go_at_call 59;refine(fail_any w0 _ g q _ 5 A n1 _ n2 HO.out).mono ?_;rintro e w5 ⟨rfl,hO,hK⟩;replace HO:=A_ hO;replace HK:=A_ (HK.out.trans hK (.inl rfl));replace BX:=A_ (KeepBut.blk hK BX.out NX.out.1 (by simp));clear x0 x1 hO hK;have x0:=(blk_cell BX.out 0).trans rfl;have x1:=(blk_cell BX.out 1).trans rfl))
 go_ret
 exact⟨rfl,_,_,_,_,HO.out⟩
theorem place_34 (c c':CS S82) (A:Option Addr) (n1:Nat) (B:Option Addr) (n2:Nat) (h:Ck w0 w g q c A n1 B n2) (hm:MEnv w0 (q 0) fs gs mem) (hq:q 1=.pointer (some pf)) (hf:FEnv w0 pf f) (hop:x.f0=34) (t:Int) (hl:localF f x.f1=some (t,true)) (c1:CS S82) (u:Int) (hs:takeC c t=some (c1,u)) (hr:c1.put t=some c'):
  Calls Try.prog 55 #[.pointer (some ⟨g,0,none⟩),.agg #[.int .i64 x.f0,.int .i64 x.f1]] w fun e w'=>e=.returned (.bool true)∧CkE w0 w' g q c':=by
 have HO:=A_ h
 have HK:=A_ (KeepBut.refl w g none)
 have hu71:=Try.underlying71
 have HM:=A_ hm;have HQ:=A_ hq;have HF:=A_ hf
 clear h hm hq hf
 have HL:=A_ hl
 have HR:=A_ hr;have HS:=A_ hs
 have b32:=ne_ hop 32
 have b33:=ne_ hop 33
 have b34:=e1_ hop
 have d32:=nd_ hop 32
 have d33:=nd_ hop 33
 clear hl hop hr hs
 go_enter Try.func55,Try.ntmps55
 go_upto_region 6 with (first|((with_reducible refine gd_ 3 rfl ?_);refine bx_ #[.int .i64 x.f0,.int .i64 x.f1] 71 ?_;intro gx hg wx hbox hb;have BX:=A_ hbox;have NX:=A_ (HO.out.fresh_ne hg);replace HO:=A_ (HO.out.below hb);replace HK:=A_ (HK.out.trans (KeepBut.of_below hb g none) (.inl rfl));clear hbox hb hg;have x0:=(blk_cell BX.out 0).trans rfl;have x1:=(blk_cell BX.out 1).trans rfl))
 have c1f:=HO.out.cell1
 rw[HQ.out] at c1f
 go_quiet ((go_at_call 75;exact Calls.quiet_of (local_any f x.f1 t true pf w0 _ HF.out (pw_below_drewN HO.out.2.1 _) HL.out)))
 replace HO:=A_ (HO.out.drewN nq);replace HK:=A_ (keep_drewN HK.out nq);replace BX:=A_ (blk_drewN BX.out nq);clear x0 x1 c1f;generalize wx.drewN nq=wq at*;have x0:=(blk_cell BX.out 0).trans rfl;have x1:=(blk_cell BX.out 1).trans rfl
 go_wp2_with (first|(go_at_call 56;refine(take_any w0 _ g q _ c1 t u A n1 _ n2 HO.out HS.out).mono ?_;rintro e w5 ⟨rfl,hO,hK⟩;replace HO:=A_ hO;replace HK:=A_ (HK.out.trans hK (.inl rfl));replace BX:=A_ (KeepBut.blk hK BX.out NX.out.1 (by simp));clear x0 x1 hO hK;have x0:=(blk_cell BX.out 0).trans rfl;have x1:=(blk_cell BX.out 1).trans rfl)|(go_at_call 57;refine(put_any t w0 _ g q _ c' A n1 _ n2 HO.out HR.out).mono ?_;rintro e w5 ⟨rfl,hE⟩;have HE:=A_ hE;clear hE))
 go_ret
 exact⟨rfl,HE.out⟩

def impl_place.T19:Bool × List (List Nat × List Nat):=(true,[([],[]),([0],[0]),([1],[1]),([2],[2]),([3],[3]),([4],[4]),([5],[5]),([],[]),([7],[7]),([6,8],[6,8]),([9],[9]),([],[]),([11,10,0,1,2,3,4,5,6,7,8,9,10,11],[10,11])])
def impl_place.B19:List Nat:=[0,1,3,7,15,31,63,0,128,511,1023,0,4095]
theorem impl_place.tab19:rtab .any (opsOf Try.f55 19)=impl_place.T19:=by kernel_rfl
theorem impl_place.bits19:waitsOk impl_place.T19.2 impl_place.B19=true:=by kernel_rfl
theorem place_35_no (c c':CS S82) (A:Option Addr) (n1:Nat) (B:Option Addr) (n2:Nat) (h:Ck w0 w g q c A n1 B n2) (hm:MEnv w0 (q 0) fs gs mem) (hq:q 1=.pointer (some pf)) (hf:FEnv w0 pf f) (hop:x.f0=35) (hz:(gs.length:Int)≤x.f1) (hc:c'=c.fail 5):
  Calls Try.prog 55 #[.pointer (some ⟨g,0,none⟩),.agg #[.int .i64 x.f0,.int .i64 x.f1]] w fun e w'=>e=.returned (.bool true)∧CkE w0 w' g q c':=by
 have HO:=A_ h
 have HK:=A_ (KeepBut.refl w g none)
 have hu71:=Try.underlying71
 have HM:=A_ hm;have HQ:=A_ hq;have HF:=A_ hf
 clear h hm hq hf
 subst hc
 have b32:=ne_ hop 32
 have b33:=ne_ hop 33
 have b34:=ne_ hop 34
 have b35:=e1_ hop
 have d32:=nd_ hop 32
 have d33:=nd_ hop 33
 clear hop
 obtain⟨bm,AF,cF,AG,cG,e0_,m0_,m1_,m2_,rF,rG⟩:=HM.out
 go_enter Try.func55,Try.ntmps55
 go_upto_region 16 with (first|((with_reducible refine gd_ 3 rfl ?_);refine bx_ #[.int .i64 x.f0,.int .i64 x.f1] 71 ?_;intro gx hg wx hbox hb;have BX:=A_ hbox;have NX:=A_ (HO.out.fresh_ne hg);replace HO:=A_ (HO.out.below hb);replace HK:=A_ (HK.out.trans (KeepBut.of_below hb g none) (.inl rfl));clear hbox hb hg;have x0:=(blk_cell BX.out 0).trans rfl;have x1:=(blk_cell BX.out 1).trans rfl))
 have c0:=HO.out.cell0
 rw[e0_] at c0
 replace m1_:=cl_ HO.out.2.1 m1_
 have RG:=A_ rG
 clear m0_ m2_ rF rG
 have cb:=decide_eq_true hz
 go_quiet (fail)
 replace HO:=A_ (HO.out.drewN nq);replace HK:=A_ (keep_drewN HK.out nq);replace BX:=A_ (blk_drewN BX.out nq);clear x0 x1 c0 m1_;generalize wx.drewN nq=wq at*;have x0:=(blk_cell BX.out 0).trans rfl;have x1:=(blk_cell BX.out 1).trans rfl
 go_wp2_with (first|(go_at_call 59;refine(fail_any w0 _ g q _ 5 A n1 _ n2 HO.out).mono ?_;rintro e w5 ⟨rfl,hO,hK⟩;replace HO:=A_ hO;replace HK:=A_ (HK.out.trans hK (.inl rfl));replace BX:=A_ (KeepBut.blk hK BX.out NX.out.1 (by simp));clear x0 x1 hO hK;have x0:=(blk_cell BX.out 0).trans rfl;have x1:=(blk_cell BX.out 1).trans rfl))
 go_ret
 exact⟨rfl,_,_,_,_,HO.out⟩
theorem place_36_no (c c':CS S82) (A:Option Addr) (n1:Nat) (B:Option Addr) (n2:Nat) (h:Ck w0 w g q c A n1 B n2) (hm:MEnv w0 (q 0) fs gs mem) (hq:q 1=.pointer (some pf)) (hf:FEnv w0 pf f) (hop:x.f0=36) (hz:(gs.length:Int)≤x.f1) (hc:c'=c.fail 5):
  Calls Try.prog 55 #[.pointer (some ⟨g,0,none⟩),.agg #[.int .i64 x.f0,.int .i64 x.f1]] w fun e w'=>e=.returned (.bool true)∧CkE w0 w' g q c':=by
 have HO:=A_ h
 have HK:=A_ (KeepBut.refl w g none)
 have hu71:=Try.underlying71
 have HM:=A_ hm;have HQ:=A_ hq;have HF:=A_ hf
 clear h hm hq hf
 subst hc
 have b32:=ne_ hop 32
 have b33:=ne_ hop 33
 have b34:=ne_ hop 34
 have b35:=ne_ hop 35
 have b36:=e1_ hop
 have d32:=nd_ hop 32
 have d33:=nd_ hop 33
 clear hop
 obtain⟨bm,AF,cF,AG,cG,e0_,m0_,m1_,m2_,rF,rG⟩:=HM.out
 go_enter Try.func55,Try.ntmps55
 go_upto_region 16 with (first|((with_reducible refine gd_ 3 rfl ?_);refine bx_ #[.int .i64 x.f0,.int .i64 x.f1] 71 ?_;intro gx hg wx hbox hb;have BX:=A_ hbox;have NX:=A_ (HO.out.fresh_ne hg);replace HO:=A_ (HO.out.below hb);replace HK:=A_ (HK.out.trans (KeepBut.of_below hb g none) (.inl rfl));clear hbox hb hg;have x0:=(blk_cell BX.out 0).trans rfl;have x1:=(blk_cell BX.out 1).trans rfl))
 have c0:=HO.out.cell0
 rw[e0_] at c0
 replace m1_:=cl_ HO.out.2.1 m1_
 have RG:=A_ rG
 clear m0_ m2_ rF rG
 have cb:=decide_eq_true hz
 go_quiet (fail)
 replace HO:=A_ (HO.out.drewN nq);replace HK:=A_ (keep_drewN HK.out nq);replace BX:=A_ (blk_drewN BX.out nq);clear x0 x1 c0 m1_;generalize wx.drewN nq=wq at*;have x0:=(blk_cell BX.out 0).trans rfl;have x1:=(blk_cell BX.out 1).trans rfl
 go_wp2_with (first|(go_at_call 59;refine(fail_any w0 _ g q _ 5 A n1 _ n2 HO.out).mono ?_;rintro e w5 ⟨rfl,hO,hK⟩;replace HO:=A_ hO;replace HK:=A_ (HK.out.trans hK (.inl rfl));replace BX:=A_ (KeepBut.blk hK BX.out NX.out.1 (by simp));clear x0 x1 hO hK;have x0:=(blk_cell BX.out 0).trans rfl;have x1:=(blk_cell BX.out 1).trans rfl))
 go_ret
 exact⟨rfl,_,_,_,_,HO.out⟩
theorem place_35 (c c':CS S82) (A:Option Addr) (n1:Nat) (B:Option Addr) (n2:Nat) (h:Ck w0 w g q c A n1 B n2) (hm:MEnv w0 (q 0) fs gs mem) (hq:q 1=.pointer (some pf)) (hf:FEnv w0 pf f) (hop:x.f0=35) (hz0:0≤x.f1) (hz:x.f1<(gs.length:Int)) (hr:c.put (rd_T63 gs x.f1).f0=some c'):
  Calls Try.prog 55 #[.pointer (some ⟨g,0,none⟩),.agg #[.int .i64 x.f0,.int .i64 x.f1]] w fun e w'=>e=.returned (.bool true)∧CkE w0 w' g q c':=by
 have HO:=A_ h
 have HK:=A_ (KeepBut.refl w g none)
 have hu71:=Try.underlying71
 have HM:=A_ hm;have HQ:=A_ hq;have HF:=A_ hf
 clear h hm hq hf
 have HR:=A_ hr
 clear hr
 have b32:=ne_ hop 32
 have b33:=ne_ hop 33
 have b34:=ne_ hop 34
 have b35:=e1_ hop
 have d32:=nd_ hop 32
 have d33:=nd_ hop 33
 clear hop
 obtain⟨bm,AF,cF,AG,cG,e0_,m0_,m1_,m2_,rF,rG⟩:=HM.out
 go_enter Try.func55,Try.ntmps55
 go_upto_region 16 with (first|((with_reducible refine gd_ 3 rfl ?_);refine bx_ #[.int .i64 x.f0,.int .i64 x.f1] 71 ?_;intro gx hg wx hbox hb;have BX:=A_ hbox;have NX:=A_ (HO.out.fresh_ne hg);replace HO:=A_ (HO.out.below hb);replace HK:=A_ (HK.out.trans (KeepBut.of_below hb g none) (.inl rfl));clear hbox hb hg;have x0:=(blk_cell BX.out 0).trans rfl;have x1:=(blk_cell BX.out 1).trans rfl))
 have c0:=HO.out.cell0
 rw[e0_] at c0
 replace m1_:=cl_ HO.out.2.1 m1_
 have RG:=A_ rG
 clear m0_ m2_ rF rG
 have cb:decide ((gs.length:Int)≤x.f1)=false:=decide_eq_false (by omega)
 obtain⟨ad,rfl,g0_,g1_,g2_⟩:=at_T63 RG.out x.f1 hz0 (by omega)
 replace g0_:=cl_ HO.out.2.1 g0_;replace g1_:=cl_ HO.out.2.1 g1_;replace g2_:=cl_ HO.out.2.1 g2_
 have q0:=eq_true hz0
 have q1:(x.f1<(gs.length:Int))=True:=eq_true (by omega)
 have hu63:=Try.underlying63
 go_quiet (fail)
 have m0:=A_ (HO.out.drewN nq);have m1:=A_ (keep_drewN HK.out nq);have m2:=A_ (blk_drewN BX.out nq)
 have k1:(wx.drewN nq).cell? ⟨bm,1,none⟩=some (.slice (some ad) gs.length cG):=m1_
 have k2:(wx.drewN nq).cell? (ad.add (x.f1.toNat*3))=some (.int .i64 (rd_T63 gs x.f1).f0):=g0_
 have k3:(wx.drewN nq).cell? ⟨(ad.add (x.f1.toNat*3)).block,(ad.add (x.f1.toNat*3)).off+1,none⟩=some (.bool (rd_T63 gs x.f1).f1):=g1_
 have k4:(wx.drewN nq).cell? ⟨(ad.add (x.f1.toNat*3)).block,(ad.add (x.f1.toNat*3)).off+2,none⟩=some (.int .u64 (rd_T63 gs x.f1).f2):=g2_
 clear HO HK BX x0 x1 c0 m1_ g0_ g1_ g2_
 generalize wx.drewN nq=wq at*
 have HO:=m0;have HK:=m1;have BX:=m2;have m1_:=k1;have g0_:=k2;have g1_:=k3;have g2_:=k4;clear m0 m1 m2 k1 k2 k3 k4;have x0:=(blk_cell BX.out 0).trans rfl;have x1:=(blk_cell BX.out 1).trans rfl
 have c0:=HO.out.cell0
 rw[e0_] at c0
 go_upto_region 19 with (fail)
 refine sS 13 (fun w'=>w'.cell? ⟨g,0,none⟩=some (.pointer (some ⟨bm,0,none⟩))∧w'.cell? ⟨bm,1,none⟩=some (.slice (some ad) gs.length cG)∧w'.cell? ⟨gx,1,none⟩=some (.int .i64 x.f1)∧w'.cell? (ad.add (x.f1.toNat*3))=some (.int .i64 (rd_T63 gs x.f1).f0)∧w'.cell? ⟨(ad.add (x.f1.toNat*3)).block,(ad.add (x.f1.toNat*3)).off+1,none⟩=some (.bool (rd_T63 gs x.f1).f1)∧w'.cell? ⟨(ad.add (x.f1.toNat*3)).block,(ad.add (x.f1.toNat*3)).off+2,none⟩=some (.int .u64 (rd_T63 gs x.f1).f2)) [12] ⟨c0,m1_,x1,g0_,g1_,g2_⟩ impl_place.tab19 impl_place.bits19 (fun hHeld HT_ HW_=>?_)
 replace HO:=A_ HO.out.drew;replace HK:=A_ (keep_drew HK.out);replace BX:=A_ (blk_drew BX.out);clear c0 m1_ g0_ g1_ g2_ x0 x1;generalize wq.drew=wd at*
 refine pS HT_ 0 58 ?_
 refine pS HT_ 1 59 ?_
 refine pS HT_ 2 60 ?_
 refine pS HT_ 7 65 ?_
 refine tS HT_ HW_ 3 61 hHeld ?_
 refine pS HT_ 4 62 ?_
 refine pS HT_ 5 63 ?_
 refine tS HT_ HW_ 6 64 hHeld ?_
 refine tS HT_ HW_ 8 66 hHeld ?_
 refine pS HT_ 9 67 ?_
 refine tS HT_ HW_ 10 68 hHeld ?_
 refine oS HT_ 11 (some 7) (fun K hK=>?_)
 refine box_step (by rfl) (N:=7) ?hd (cs:=#[(.int .i64 0),(.bool false),(.int .u64 0)]) (t:=63) ?hr ?_;(case hd=>rfl);(case hr=>first|(go_simp;done)|(go_simp;rfl))
 intro gy hg wx hbox hb
 have BY:=A_ hbox;have GY:=A_ (show w.heap.size≤gy from by rw[hg];exact HK.out.1);have NY:=A_ (HO.out.fresh_ne hg);have GG:=A_ (Nat.le_trans HO.out.2.1.size (Nat.le_of_eq hg.symm));have m0:=A_ (HO.out.below hb);have m1:=A_ (HK.out.trans (KeepBut.of_below hb g none) (.inl rfl));have m4:=A_ (blk_below BX.out hb);have NXY:=A_ (show gx≠gy from by rw[hg];have:=blk_lt BX.out;omega)
 obtain⟨s0_,s1_,s2_,s3_,s4_,s5_⟩:=hHeld
 have hHeld2:=A_ (show wx.cell? ⟨g,0,none⟩=some (.pointer (some ⟨bm,0,none⟩))∧wx.cell? ⟨bm,1,none⟩=some (.slice (some ad) gs.length cG)∧wx.cell? ⟨gx,1,none⟩=some (.int .i64 x.f1)∧wx.cell? (ad.add (x.f1.toNat*3))=some (.int .i64 (rd_T63 gs x.f1).f0)∧wx.cell? ⟨(ad.add (x.f1.toNat*3)).block,(ad.add (x.f1.toNat*3)).off+1,none⟩=some (.bool (rd_T63 gs x.f1).f1)∧wx.cell? ⟨(ad.add (x.f1.toNat*3)).block,(ad.add (x.f1.toNat*3)).off+2,none⟩=some (.int .u64 (rd_T63 gs x.f1).f2) from ⟨cl_ hb s0_,cl_ hb s1_,cl_ hb s2_,cl_ hb s3_,cl_ hb s4_,cl_ hb s5_⟩)
 clear HO HK BX hbox hb hg s0_ s1_ s2_ s3_ s4_ s5_;have HO:=m0;have HK:=m1;have BX:=m4;clear m0 m1 m4
 have z0:=(blk_cell BY.out 0).trans rfl;have v0:=blk_frozen BY.out 0;have z1:=(blk_cell BY.out 1).trans rfl;have v1:=blk_frozen BY.out 1;have z2:=(blk_cell BY.out 2).trans rfl;have v2:=blk_frozen BY.out 2
 refine hK.out _ _ hHeld2.out (fun hHeld=>?_)
 clear hK K
 refine nS (some 7) ?_
 refine lS HT_ 12 (none) (fun K hK=>?_)
 refine skip_ (w1:=(((wx.setCell ⟨gy,0,none⟩ ((.int .i64 (rd_T63 gs x.f1).f0))).setCell ⟨gy,1,none⟩ ((.bool (rd_T63 gs x.f1).f1))).setCell ⟨gy,2,none⟩ ((.int .u64 (rd_T63 gs x.f1).f2)))) (by rfl) rfl (by first|(go_simp;done)|(go_simp;rfl)) ?_
 clear hHeld hHeld2 z0 v0 z1 v1 z2 v2
 refine hK.out _ _ ?_
 clear hK K
 refine dS HT_ ?_
 replace BY:=A_ (show((((wx.setCell ⟨gy,0,none⟩ ((.int .i64 (rd_T63 gs x.f1).f0))).setCell ⟨gy,1,none⟩ ((.bool (rd_T63 gs x.f1).f1))).setCell ⟨gy,2,none⟩ ((.int .u64 (rd_T63 gs x.f1).f2)))).heap[gy]? =some (.cells #[(.int .i64 (rd_T63 gs x.f1).f0),(.bool (rd_T63 gs x.f1).f1),(.int .u64 (rd_T63 gs x.f1).f2)] 63 (0,0)) from blk_put (cs:=#[(.int .i64 (rd_T63 gs x.f1).f0),(.bool (rd_T63 gs x.f1).f1),(.int .u64 0)]) (blk_put (cs:=#[(.int .i64 (rd_T63 gs x.f1).f0),(.bool false),(.int .u64 0)]) (blk_put (cs:=#[(.int .i64 0),(.bool false),(.int .u64 0)]) (BY.out) 0 ((.int .i64 (rd_T63 gs x.f1).f0)) rfl) 1 ((.bool (rd_T63 gs x.f1).f1)) rfl) 2 ((.int .u64 (rd_T63 gs x.f1).f2)) rfl);replace HO:=A_ (Ck.other (Ck.other (Ck.other (HO.out) GG.out NY.out 0 ((.int .i64 (rd_T63 gs x.f1).f0))) GG.out NY.out 1 ((.bool (rd_T63 gs x.f1).f1))) GG.out NY.out 2 ((.int .u64 (rd_T63 gs x.f1).f2)));replace HK:=A_ (keep_other (keep_other (keep_other (HK.out) GY.out 0 ((.int .i64 (rd_T63 gs x.f1).f0))) GY.out 1 ((.bool (rd_T63 gs x.f1).f1))) GY.out 2 ((.int .u64 (rd_T63 gs x.f1).f2)));replace BX:=A_ (show(((wx.setCell ⟨gy,0,none⟩ ((.int .i64 (rd_T63 gs x.f1).f0))).setCell ⟨gy,1,none⟩ ((.bool (rd_T63 gs x.f1).f1))).setCell ⟨gy,2,none⟩ ((.int .u64 (rd_T63 gs x.f1).f2))).heap[gx]? =some (.cells #[.int .i64 x.f0,.int .i64 x.f1] 71 (0,0)) from(Below.heap_setCell ((wx.setCell ⟨gy,0,none⟩ ((.int .i64 (rd_T63 gs x.f1).f0))).setCell ⟨gy,1,none⟩ ((.bool (rd_T63 gs x.f1).f1))) ⟨gy,2,none⟩ ((.int .u64 (rd_T63 gs x.f1).f2)) gx NXY.out).trans ((Below.heap_setCell (wx.setCell ⟨gy,0,none⟩ ((.int .i64 (rd_T63 gs x.f1).f0))) ⟨gy,1,none⟩ ((.bool (rd_T63 gs x.f1).f1)) gx NXY.out).trans ((Below.heap_setCell wx ⟨gy,0,none⟩ ((.int .i64 (rd_T63 gs x.f1).f0)) gx NXY.out).trans (BX.out))));generalize (((wx.setCell ⟨gy,0,none⟩ ((.int .i64 (rd_T63 gs x.f1).f0))).setCell ⟨gy,1,none⟩ ((.bool (rd_T63 gs x.f1).f1))).setCell ⟨gy,2,none⟩ ((.int .u64 (rd_T63 gs x.f1).f2)))=wy at*;have x0:=(blk_cell BX.out 0).trans rfl;have x1:=(blk_cell BX.out 1).trans rfl
 have y0:=(blk_cell BY.out 0).trans rfl;have y1:=(blk_cell BY.out 1).trans rfl;have y2:=(blk_cell BY.out 2).trans rfl
 go_wp2_with (first|(go_at_call 57;refine(put_any (rd_T63 gs x.f1).f0 w0 _ g q _ c' A n1 _ n2 HO.out HR.out).mono ?_;rintro e w5 ⟨rfl,hE⟩;have HE:=A_ hE;clear hE))
 go_ret
 exact⟨rfl,HE.out⟩
theorem place_36_f (c c':CS S82) (A:Option Addr) (n1:Nat) (B:Option Addr) (n2:Nat) (h:Ck w0 w g q c A n1 B n2) (hm:MEnv w0 (q 0) fs gs mem) (hq:q 1=.pointer (some pf)) (hf:FEnv w0 pf f) (hop:x.f0=36) (hz0:0≤x.f1) (hz:x.f1<(gs.length:Int)) (hx:(rd_T63 gs x.f1).f1=true) (u:Int) (hr:takeC (c.fail 7) (rd_T63 gs x.f1).f0=some (c',u)):
  Calls Try.prog 55 #[.pointer (some ⟨g,0,none⟩),.agg #[.int .i64 x.f0,.int .i64 x.f1]] w fun e w'=>e=.returned (.bool true)∧CkE w0 w' g q c':=by
 have HO:=A_ h
 have HK:=A_ (KeepBut.refl w g none)
 have hu71:=Try.underlying71
 have HM:=A_ hm;have HQ:=A_ hq;have HF:=A_ hf
 clear h hm hq hf
 have HR:=A_ hr;have HX:=A_ hx
 clear hr hx
 have b32:=ne_ hop 32
 have b33:=ne_ hop 33
 have b34:=ne_ hop 34
 have b35:=ne_ hop 35
 have b36:=e1_ hop
 have d32:=nd_ hop 32
 have d33:=nd_ hop 33
 clear hop
 obtain⟨bm,AF,cF,AG,cG,e0_,m0_,m1_,m2_,rF,rG⟩:=HM.out
 go_enter Try.func55,Try.ntmps55
 go_upto_region 16 with (first|((with_reducible refine gd_ 3 rfl ?_);refine bx_ #[.int .i64 x.f0,.int .i64 x.f1] 71 ?_;intro gx hg wx hbox hb;have BX:=A_ hbox;have NX:=A_ (HO.out.fresh_ne hg);replace HO:=A_ (HO.out.below hb);replace HK:=A_ (HK.out.trans (KeepBut.of_below hb g none) (.inl rfl));clear hbox hb hg;have x0:=(blk_cell BX.out 0).trans rfl;have x1:=(blk_cell BX.out 1).trans rfl))
 have c0:=HO.out.cell0
 rw[e0_] at c0
 replace m1_:=cl_ HO.out.2.1 m1_
 have RG:=A_ rG
 clear m0_ m2_ rF rG
 have cb:decide ((gs.length:Int)≤x.f1)=false:=decide_eq_false (by omega)
 obtain⟨ad,rfl,g0_,g1_,g2_⟩:=at_T63 RG.out x.f1 hz0 (by omega)
 replace g0_:=cl_ HO.out.2.1 g0_;replace g1_:=cl_ HO.out.2.1 g1_;replace g2_:=cl_ HO.out.2.1 g2_
 have q0:=eq_true hz0
 have q1:(x.f1<(gs.length:Int))=True:=eq_true (by omega)
 have hu63:=Try.underlying63
 go_quiet (fail)
 have m0:=A_ (HO.out.drewN nq);have m1:=A_ (keep_drewN HK.out nq);have m2:=A_ (blk_drewN BX.out nq)
 have k1:(wx.drewN nq).cell? ⟨bm,1,none⟩=some (.slice (some ad) gs.length cG):=m1_
 have k2:(wx.drewN nq).cell? (ad.add (x.f1.toNat*3))=some (.int .i64 (rd_T63 gs x.f1).f0):=g0_
 have k3:(wx.drewN nq).cell? ⟨(ad.add (x.f1.toNat*3)).block,(ad.add (x.f1.toNat*3)).off+1,none⟩=some (.bool (rd_T63 gs x.f1).f1):=g1_
 have k4:(wx.drewN nq).cell? ⟨(ad.add (x.f1.toNat*3)).block,(ad.add (x.f1.toNat*3)).off+2,none⟩=some (.int .u64 (rd_T63 gs x.f1).f2):=g2_
 clear HO HK BX x0 x1 c0 m1_ g0_ g1_ g2_
 generalize wx.drewN nq=wq at*
 have HO:=m0;have HK:=m1;have BX:=m2;have m1_:=k1;have g0_:=k2;have g1_:=k3;have g2_:=k4;clear m0 m1 m2 k1 k2 k3 k4;have x0:=(blk_cell BX.out 0).trans rfl;have x1:=(blk_cell BX.out 1).trans rfl
 have c0:=HO.out.cell0
 rw[e0_] at c0
 go_upto_region 19 with (fail)
 refine sS 13 (fun w'=>w'.cell? ⟨g,0,none⟩=some (.pointer (some ⟨bm,0,none⟩))∧w'.cell? ⟨bm,1,none⟩=some (.slice (some ad) gs.length cG)∧w'.cell? ⟨gx,1,none⟩=some (.int .i64 x.f1)∧w'.cell? (ad.add (x.f1.toNat*3))=some (.int .i64 (rd_T63 gs x.f1).f0)∧w'.cell? ⟨(ad.add (x.f1.toNat*3)).block,(ad.add (x.f1.toNat*3)).off+1,none⟩=some (.bool (rd_T63 gs x.f1).f1)∧w'.cell? ⟨(ad.add (x.f1.toNat*3)).block,(ad.add (x.f1.toNat*3)).off+2,none⟩=some (.int .u64 (rd_T63 gs x.f1).f2)) [12] ⟨c0,m1_,x1,g0_,g1_,g2_⟩ impl_place.tab19 impl_place.bits19 (fun hHeld HT_ HW_=>?_)
 replace HO:=A_ HO.out.drew;replace HK:=A_ (keep_drew HK.out);replace BX:=A_ (blk_drew BX.out);clear c0 m1_ g0_ g1_ g2_ x0 x1;generalize wq.drew=wd at*
 refine pS HT_ 0 58 ?_
 refine pS HT_ 1 59 ?_
 refine pS HT_ 2 60 ?_
 refine pS HT_ 7 65 ?_
 refine tS HT_ HW_ 3 61 hHeld ?_
 refine pS HT_ 4 62 ?_
 refine pS HT_ 5 63 ?_
 refine tS HT_ HW_ 6 64 hHeld ?_
 refine tS HT_ HW_ 8 66 hHeld ?_
 refine pS HT_ 9 67 ?_
 refine tS HT_ HW_ 10 68 hHeld ?_
 refine oS HT_ 11 (some 7) (fun K hK=>?_)
 refine box_step (by rfl) (N:=7) ?hd (cs:=#[(.int .i64 0),(.bool false),(.int .u64 0)]) (t:=63) ?hr ?_;(case hd=>rfl);(case hr=>first|(go_simp;done)|(go_simp;rfl))
 intro gy hg wx hbox hb
 have BY:=A_ hbox;have GY:=A_ (show w.heap.size≤gy from by rw[hg];exact HK.out.1);have NY:=A_ (HO.out.fresh_ne hg);have GG:=A_ (Nat.le_trans HO.out.2.1.size (Nat.le_of_eq hg.symm));have m0:=A_ (HO.out.below hb);have m1:=A_ (HK.out.trans (KeepBut.of_below hb g none) (.inl rfl));have m4:=A_ (blk_below BX.out hb);have NXY:=A_ (show gx≠gy from by rw[hg];have:=blk_lt BX.out;omega)
 obtain⟨s0_,s1_,s2_,s3_,s4_,s5_⟩:=hHeld
 have hHeld2:=A_ (show wx.cell? ⟨g,0,none⟩=some (.pointer (some ⟨bm,0,none⟩))∧wx.cell? ⟨bm,1,none⟩=some (.slice (some ad) gs.length cG)∧wx.cell? ⟨gx,1,none⟩=some (.int .i64 x.f1)∧wx.cell? (ad.add (x.f1.toNat*3))=some (.int .i64 (rd_T63 gs x.f1).f0)∧wx.cell? ⟨(ad.add (x.f1.toNat*3)).block,(ad.add (x.f1.toNat*3)).off+1,none⟩=some (.bool (rd_T63 gs x.f1).f1)∧wx.cell? ⟨(ad.add (x.f1.toNat*3)).block,(ad.add (x.f1.toNat*3)).off+2,none⟩=some (.int .u64 (rd_T63 gs x.f1).f2) from ⟨cl_ hb s0_,cl_ hb s1_,cl_ hb s2_,cl_ hb s3_,cl_ hb s4_,cl_ hb s5_⟩)
 clear HO HK BX hbox hb hg s0_ s1_ s2_ s3_ s4_ s5_;have HO:=m0;have HK:=m1;have BX:=m4;clear m0 m1 m4
 have z0:=(blk_cell BY.out 0).trans rfl;have v0:=blk_frozen BY.out 0;have z1:=(blk_cell BY.out 1).trans rfl;have v1:=blk_frozen BY.out 1;have z2:=(blk_cell BY.out 2).trans rfl;have v2:=blk_frozen BY.out 2
 refine hK.out _ _ hHeld2.out (fun hHeld=>?_)
 clear hK K
 refine nS (some 7) ?_
 refine lS HT_ 12 (none) (fun K hK=>?_)
 refine skip_ (w1:=(((wx.setCell ⟨gy,0,none⟩ ((.int .i64 (rd_T63 gs x.f1).f0))).setCell ⟨gy,1,none⟩ ((.bool (rd_T63 gs x.f1).f1))).setCell ⟨gy,2,none⟩ ((.int .u64 (rd_T63 gs x.f1).f2)))) (by rfl) rfl (by first|(go_simp;done)|(go_simp;rfl)) ?_
 clear hHeld hHeld2 z0 v0 z1 v1 z2 v2
 refine hK.out _ _ ?_
 clear hK K
 refine dS HT_ ?_
 replace BY:=A_ (show((((wx.setCell ⟨gy,0,none⟩ ((.int .i64 (rd_T63 gs x.f1).f0))).setCell ⟨gy,1,none⟩ ((.bool (rd_T63 gs x.f1).f1))).setCell ⟨gy,2,none⟩ ((.int .u64 (rd_T63 gs x.f1).f2)))).heap[gy]? =some (.cells #[(.int .i64 (rd_T63 gs x.f1).f0),(.bool (rd_T63 gs x.f1).f1),(.int .u64 (rd_T63 gs x.f1).f2)] 63 (0,0)) from blk_put (cs:=#[(.int .i64 (rd_T63 gs x.f1).f0),(.bool (rd_T63 gs x.f1).f1),(.int .u64 0)]) (blk_put (cs:=#[(.int .i64 (rd_T63 gs x.f1).f0),(.bool false),(.int .u64 0)]) (blk_put (cs:=#[(.int .i64 0),(.bool false),(.int .u64 0)]) (BY.out) 0 ((.int .i64 (rd_T63 gs x.f1).f0)) rfl) 1 ((.bool (rd_T63 gs x.f1).f1)) rfl) 2 ((.int .u64 (rd_T63 gs x.f1).f2)) rfl);replace HO:=A_ (Ck.other (Ck.other (Ck.other (HO.out) GG.out NY.out 0 ((.int .i64 (rd_T63 gs x.f1).f0))) GG.out NY.out 1 ((.bool (rd_T63 gs x.f1).f1))) GG.out NY.out 2 ((.int .u64 (rd_T63 gs x.f1).f2)));replace HK:=A_ (keep_other (keep_other (keep_other (HK.out) GY.out 0 ((.int .i64 (rd_T63 gs x.f1).f0))) GY.out 1 ((.bool (rd_T63 gs x.f1).f1))) GY.out 2 ((.int .u64 (rd_T63 gs x.f1).f2)));replace BX:=A_ (show(((wx.setCell ⟨gy,0,none⟩ ((.int .i64 (rd_T63 gs x.f1).f0))).setCell ⟨gy,1,none⟩ ((.bool (rd_T63 gs x.f1).f1))).setCell ⟨gy,2,none⟩ ((.int .u64 (rd_T63 gs x.f1).f2))).heap[gx]? =some (.cells #[.int .i64 x.f0,.int .i64 x.f1] 71 (0,0)) from(Below.heap_setCell ((wx.setCell ⟨gy,0,none⟩ ((.int .i64 (rd_T63 gs x.f1).f0))).setCell ⟨gy,1,none⟩ ((.bool (rd_T63 gs x.f1).f1))) ⟨gy,2,none⟩ ((.int .u64 (rd_T63 gs x.f1).f2)) gx NXY.out).trans ((Below.heap_setCell (wx.setCell ⟨gy,0,none⟩ ((.int .i64 (rd_T63 gs x.f1).f0))) ⟨gy,1,none⟩ ((.bool (rd_T63 gs x.f1).f1)) gx NXY.out).trans ((Below.heap_setCell wx ⟨gy,0,none⟩ ((.int .i64 (rd_T63 gs x.f1).f0)) gx NXY.out).trans (BX.out))));generalize (((wx.setCell ⟨gy,0,none⟩ ((.int .i64 (rd_T63 gs x.f1).f0))).setCell ⟨gy,1,none⟩ ((.bool (rd_T63 gs x.f1).f1))).setCell ⟨gy,2,none⟩ ((.int .u64 (rd_T63 gs x.f1).f2)))=wy at*;have x0:=(blk_cell BX.out 0).trans rfl;have x1:=(blk_cell BX.out 1).trans rfl
 have y0:=(blk_cell BY.out 0).trans rfl;have y1:=(blk_cell BY.out 1).trans rfl;have y2:=(blk_cell BY.out 2).trans rfl
 rw[HX.out] at y1
 go_wp2_with (first|(go_at_call 59;refine(fail_any w0 _ g q _ 7 A n1 _ n2 HO.out).mono ?_;rintro e w5 ⟨rfl,hO,hK⟩;replace HO:=A_ hO;replace HK:=A_ (HK.out.trans hK (.inl rfl));replace BY:=A_ (KeepBut.blk hK BY.out NY.out.1 (by simp));clear BX x0 x1 y0 y1 y2 hO hK;have y0:=(blk_cell BY.out 0).trans rfl)|(go_at_call 56;refine(take_any w0 _ g q _ c' (rd_T63 gs x.f1).f0 u A n1 _ n2 HO.out HR.out).mono ?_;rintro e w5 ⟨rfl,hO,hK⟩;replace HO:=A_ hO;clear HK hO hK))
 go_ret
 exact⟨rfl,_,_,_,_,HO.out⟩
theorem place_36 (c c':CS S82) (A:Option Addr) (n1:Nat) (B:Option Addr) (n2:Nat) (h:Ck w0 w g q c A n1 B n2) (hm:MEnv w0 (q 0) fs gs mem) (hq:q 1=.pointer (some pf)) (hf:FEnv w0 pf f) (hop:x.f0=36) (hz0:0≤x.f1) (hz:x.f1<(gs.length:Int)) (hx:(rd_T63 gs x.f1).f1=false) (u:Int) (hr:takeC c (rd_T63 gs x.f1).f0=some (c',u)):
  Calls Try.prog 55 #[.pointer (some ⟨g,0,none⟩),.agg #[.int .i64 x.f0,.int .i64 x.f1]] w fun e w'=>e=.returned (.bool true)∧CkE w0 w' g q c':=by
 have HO:=A_ h
 have HK:=A_ (KeepBut.refl w g none)
 have hu71:=Try.underlying71
 have HM:=A_ hm;have HQ:=A_ hq;have HF:=A_ hf
 clear h hm hq hf
 have HR:=A_ hr;have HX:=A_ hx
 clear hr hx
 have b32:=ne_ hop 32
 have b33:=ne_ hop 33
 have b34:=ne_ hop 34
 have b35:=ne_ hop 35
 have b36:=e1_ hop
 have d32:=nd_ hop 32
 have d33:=nd_ hop 33
 clear hop
 obtain⟨bm,AF,cF,AG,cG,e0_,m0_,m1_,m2_,rF,rG⟩:=HM.out
 go_enter Try.func55,Try.ntmps55
 go_upto_region 16 with (first|((with_reducible refine gd_ 3 rfl ?_);refine bx_ #[.int .i64 x.f0,.int .i64 x.f1] 71 ?_;intro gx hg wx hbox hb;have BX:=A_ hbox;have NX:=A_ (HO.out.fresh_ne hg);replace HO:=A_ (HO.out.below hb);replace HK:=A_ (HK.out.trans (KeepBut.of_below hb g none) (.inl rfl));clear hbox hb hg;have x0:=(blk_cell BX.out 0).trans rfl;have x1:=(blk_cell BX.out 1).trans rfl))
 have c0:=HO.out.cell0
 rw[e0_] at c0
 replace m1_:=cl_ HO.out.2.1 m1_
 have RG:=A_ rG
 clear m0_ m2_ rF rG
 have cb:decide ((gs.length:Int)≤x.f1)=false:=decide_eq_false (by omega)
 obtain⟨ad,rfl,g0_,g1_,g2_⟩:=at_T63 RG.out x.f1 hz0 (by omega)
 replace g0_:=cl_ HO.out.2.1 g0_;replace g1_:=cl_ HO.out.2.1 g1_;replace g2_:=cl_ HO.out.2.1 g2_
 have q0:=eq_true hz0
 have q1:(x.f1<(gs.length:Int))=True:=eq_true (by omega)
 have hu63:=Try.underlying63
 go_quiet (fail)
 have m0:=A_ (HO.out.drewN nq);have m1:=A_ (keep_drewN HK.out nq);have m2:=A_ (blk_drewN BX.out nq)
 have k1:(wx.drewN nq).cell? ⟨bm,1,none⟩=some (.slice (some ad) gs.length cG):=m1_
 have k2:(wx.drewN nq).cell? (ad.add (x.f1.toNat*3))=some (.int .i64 (rd_T63 gs x.f1).f0):=g0_
 have k3:(wx.drewN nq).cell? ⟨(ad.add (x.f1.toNat*3)).block,(ad.add (x.f1.toNat*3)).off+1,none⟩=some (.bool (rd_T63 gs x.f1).f1):=g1_
 have k4:(wx.drewN nq).cell? ⟨(ad.add (x.f1.toNat*3)).block,(ad.add (x.f1.toNat*3)).off+2,none⟩=some (.int .u64 (rd_T63 gs x.f1).f2):=g2_
 clear HO HK BX x0 x1 c0 m1_ g0_ g1_ g2_
 generalize wx.drewN nq=wq at*
 have HO:=m0;have HK:=m1;have BX:=m2;have m1_:=k1;have g0_:=k2;have g1_:=k3;have g2_:=k4;clear m0 m1 m2 k1 k2 k3 k4;have x0:=(blk_cell BX.out 0).trans rfl;have x1:=(blk_cell BX.out 1).trans rfl
 have c0:=HO.out.cell0
 rw[e0_] at c0
 go_upto_region 19 with (fail)
 refine sS 13 (fun w'=>w'.cell? ⟨g,0,none⟩=some (.pointer (some ⟨bm,0,none⟩))∧w'.cell? ⟨bm,1,none⟩=some (.slice (some ad) gs.length cG)∧w'.cell? ⟨gx,1,none⟩=some (.int .i64 x.f1)∧w'.cell? (ad.add (x.f1.toNat*3))=some (.int .i64 (rd_T63 gs x.f1).f0)∧w'.cell? ⟨(ad.add (x.f1.toNat*3)).block,(ad.add (x.f1.toNat*3)).off+1,none⟩=some (.bool (rd_T63 gs x.f1).f1)∧w'.cell? ⟨(ad.add (x.f1.toNat*3)).block,(ad.add (x.f1.toNat*3)).off+2,none⟩=some (.int .u64 (rd_T63 gs x.f1).f2)) [12] ⟨c0,m1_,x1,g0_,g1_,g2_⟩ impl_place.tab19 impl_place.bits19 (fun hHeld HT_ HW_=>?_)
 replace HO:=A_ HO.out.drew;replace HK:=A_ (keep_drew HK.out);replace BX:=A_ (blk_drew BX.out);clear c0 m1_ g0_ g1_ g2_ x0 x1;generalize wq.drew=wd at*
 refine pS HT_ 0 58 ?_
 refine pS HT_ 1 59 ?_
 refine pS HT_ 2 60 ?_
 refine pS HT_ 7 65 ?_
 refine tS HT_ HW_ 3 61 hHeld ?_
 refine pS HT_ 4 62 ?_
 refine pS HT_ 5 63 ?_
 refine tS HT_ HW_ 6 64 hHeld ?_
 refine tS HT_ HW_ 8 66 hHeld ?_
 refine pS HT_ 9 67 ?_
 refine tS HT_ HW_ 10 68 hHeld ?_
 refine oS HT_ 11 (some 7) (fun K hK=>?_)
 refine box_step (by rfl) (N:=7) ?hd (cs:=#[(.int .i64 0),(.bool false),(.int .u64 0)]) (t:=63) ?hr ?_;(case hd=>rfl);(case hr=>first|(go_simp;done)|(go_simp;rfl))
 intro gy hg wx hbox hb
 have BY:=A_ hbox;have GY:=A_ (show w.heap.size≤gy from by rw[hg];exact HK.out.1);have NY:=A_ (HO.out.fresh_ne hg);have GG:=A_ (Nat.le_trans HO.out.2.1.size (Nat.le_of_eq hg.symm));have m0:=A_ (HO.out.below hb);have m1:=A_ (HK.out.trans (KeepBut.of_below hb g none) (.inl rfl));have m4:=A_ (blk_below BX.out hb);have NXY:=A_ (show gx≠gy from by rw[hg];have:=blk_lt BX.out;omega)
 obtain⟨s0_,s1_,s2_,s3_,s4_,s5_⟩:=hHeld
 have hHeld2:=A_ (show wx.cell? ⟨g,0,none⟩=some (.pointer (some ⟨bm,0,none⟩))∧wx.cell? ⟨bm,1,none⟩=some (.slice (some ad) gs.length cG)∧wx.cell? ⟨gx,1,none⟩=some (.int .i64 x.f1)∧wx.cell? (ad.add (x.f1.toNat*3))=some (.int .i64 (rd_T63 gs x.f1).f0)∧wx.cell? ⟨(ad.add (x.f1.toNat*3)).block,(ad.add (x.f1.toNat*3)).off+1,none⟩=some (.bool (rd_T63 gs x.f1).f1)∧wx.cell? ⟨(ad.add (x.f1.toNat*3)).block,(ad.add (x.f1.toNat*3)).off+2,none⟩=some (.int .u64 (rd_T63 gs x.f1).f2) from ⟨cl_ hb s0_,cl_ hb s1_,cl_ hb s2_,cl_ hb s3_,cl_ hb s4_,cl_ hb s5_⟩)
 clear HO HK BX hbox hb hg s0_ s1_ s2_ s3_ s4_ s5_;have HO:=m0;have HK:=m1;have BX:=m4;clear m0 m1 m4
 have z0:=(blk_cell BY.out 0).trans rfl;have v0:=blk_frozen BY.out 0;have z1:=(blk_cell BY.out 1).trans rfl;have v1:=blk_frozen BY.out 1;have z2:=(blk_cell BY.out 2).trans rfl;have v2:=blk_frozen BY.out 2
 refine hK.out _ _ hHeld2.out (fun hHeld=>?_)
 clear hK K
 refine nS (some 7) ?_
 refine lS HT_ 12 (none) (fun K hK=>?_)
 refine skip_ (w1:=(((wx.setCell ⟨gy,0,none⟩ ((.int .i64 (rd_T63 gs x.f1).f0))).setCell ⟨gy,1,none⟩ ((.bool (rd_T63 gs x.f1).f1))).setCell ⟨gy,2,none⟩ ((.int .u64 (rd_T63 gs x.f1).f2)))) (by rfl) rfl (by first|(go_simp;done)|(go_simp;rfl)) ?_
 clear hHeld hHeld2 z0 v0 z1 v1 z2 v2
 refine hK.out _ _ ?_
 clear hK K
 refine dS HT_ ?_
 replace BY:=A_ (show((((wx.setCell ⟨gy,0,none⟩ ((.int .i64 (rd_T63 gs x.f1).f0))).setCell ⟨gy,1,none⟩ ((.bool (rd_T63 gs x.f1).f1))).setCell ⟨gy,2,none⟩ ((.int .u64 (rd_T63 gs x.f1).f2)))).heap[gy]? =some (.cells #[(.int .i64 (rd_T63 gs x.f1).f0),(.bool (rd_T63 gs x.f1).f1),(.int .u64 (rd_T63 gs x.f1).f2)] 63 (0,0)) from blk_put (cs:=#[(.int .i64 (rd_T63 gs x.f1).f0),(.bool (rd_T63 gs x.f1).f1),(.int .u64 0)]) (blk_put (cs:=#[(.int .i64 (rd_T63 gs x.f1).f0),(.bool false),(.int .u64 0)]) (blk_put (cs:=#[(.int .i64 0),(.bool false),(.int .u64 0)]) (BY.out) 0 ((.int .i64 (rd_T63 gs x.f1).f0)) rfl) 1 ((.bool (rd_T63 gs x.f1).f1)) rfl) 2 ((.int .u64 (rd_T63 gs x.f1).f2)) rfl);replace HO:=A_ (Ck.other (Ck.other (Ck.other (HO.out) GG.out NY.out 0 ((.int .i64 (rd_T63 gs x.f1).f0))) GG.out NY.out 1 ((.bool (rd_T63 gs x.f1).f1))) GG.out NY.out 2 ((.int .u64 (rd_T63 gs x.f1).f2)));replace HK:=A_ (keep_other (keep_other (keep_other (HK.out) GY.out 0 ((.int .i64 (rd_T63 gs x.f1).f0))) GY.out 1 ((.bool (rd_T63 gs x.f1).f1))) GY.out 2 ((.int .u64 (rd_T63 gs x.f1).f2)));replace BX:=A_ (show(((wx.setCell ⟨gy,0,none⟩ ((.int .i64 (rd_T63 gs x.f1).f0))).setCell ⟨gy,1,none⟩ ((.bool (rd_T63 gs x.f1).f1))).setCell ⟨gy,2,none⟩ ((.int .u64 (rd_T63 gs x.f1).f2))).heap[gx]? =some (.cells #[.int .i64 x.f0,.int .i64 x.f1] 71 (0,0)) from(Below.heap_setCell ((wx.setCell ⟨gy,0,none⟩ ((.int .i64 (rd_T63 gs x.f1).f0))).setCell ⟨gy,1,none⟩ ((.bool (rd_T63 gs x.f1).f1))) ⟨gy,2,none⟩ ((.int .u64 (rd_T63 gs x.f1).f2)) gx NXY.out).trans ((Below.heap_setCell (wx.setCell ⟨gy,0,none⟩ ((.int .i64 (rd_T63 gs x.f1).f0))) ⟨gy,1,none⟩ ((.bool (rd_T63 gs x.f1).f1)) gx NXY.out).trans ((Below.heap_setCell wx ⟨gy,0,none⟩ ((.int .i64 (rd_T63 gs x.f1).f0)) gx NXY.out).trans (BX.out))));generalize (((wx.setCell ⟨gy,0,none⟩ ((.int .i64 (rd_T63 gs x.f1).f0))).setCell ⟨gy,1,none⟩ ((.bool (rd_T63 gs x.f1).f1))).setCell ⟨gy,2,none⟩ ((.int .u64 (rd_T63 gs x.f1).f2)))=wy at*;have x0:=(blk_cell BX.out 0).trans rfl;have x1:=(blk_cell BX.out 1).trans rfl
 have y0:=(blk_cell BY.out 0).trans rfl;have y1:=(blk_cell BY.out 1).trans rfl;have y2:=(blk_cell BY.out 2).trans rfl
 rw[HX.out] at y1
 go_wp2_with (first|(go_at_call 56;refine(take_any w0 _ g q _ c' (rd_T63 gs x.f1).f0 u A n1 _ n2 HO.out HR.out).mono ?_;rintro e w5 ⟨rfl,hO,hK⟩;replace HO:=A_ hO;clear HK hO hK))
 go_ret
 exact⟨rfl,_,_,_,_,HO.out⟩

def takeRev (l:List Int):CS S82→Nat→Option (CS S82)
 |c,0=>some c
 |c,n+1=>(takeC c (rd l (n:Int))).bind fun r=>takeRev l r.1 n
def impl_place.T30:Bool × List (List Nat × List Nat):=(true,[([],[]),([0],[0]),([1],[1]),([2],[2]),([3],[3]),([4],[4]),([5],[5]),([],[]),([7],[7]),([6,8],[6,8]),([9],[9]),([],[]),([11,10,0,1,2,3,4,5,6,7,8,9,10,11],[10,11])])
def impl_place.B30:List Nat:=[0,1,3,7,15,31,63,0,128,511,1023,0,4095]
theorem impl_place.tab30:rtab .any (opsOf Try.f55 30)=impl_place.T30:=by kernel_rfl
theorem impl_place.bits30:waitsOk impl_place.T30.2 impl_place.B30=true:=by kernel_rfl
theorem place_16_no (c c':CS S82) (A:Option Addr) (n1:Nat) (B:Option Addr) (n2:Nat) (h:Ck w0 w g q c A n1 B n2) (hm:MEnv w0 (q 0) fs gs mem) (hq:q 1=.pointer (some pf)) (hf:FEnv w0 pf f) (hop:x.f0=16) (hz:(fs.length:Int)≤x.f1) (hc:c'=c.fail 5):
  Calls Try.prog 55 #[.pointer (some ⟨g,0,none⟩),.agg #[.int .i64 x.f0,.int .i64 x.f1]] w fun e w'=>e=.returned (.bool true)∧CkE w0 w' g q c':=by
 have HO:=A_ h
 have HK:=A_ (KeepBut.refl w g none)
 have hu71:=Try.underlying71
 have HM:=A_ hm;have HQ:=A_ hq;have HF:=A_ hf
 clear h hm hq hf
 subst hc
 have b32:=ne_ hop 32
 have b33:=ne_ hop 33
 have b34:=ne_ hop 34
 have b35:=ne_ hop 35
 have b36:=ne_ hop 36
 have b16:=e1_ hop
 have d32:=nd_ hop 32
 have d33:=nd_ hop 33
 clear hop
 obtain⟨bm,AF,cF,AG,cG,e0_,m0_,m1_,m2_,rF,rG⟩:=HM.out
 go_enter Try.func55,Try.ntmps55
 go_upto_region 27 with (first|((with_reducible refine gd_ 3 rfl ?_);refine bx_ #[.int .i64 x.f0,.int .i64 x.f1] 71 ?_;intro gx hg wx hbox hb;have BX:=A_ hbox;have NX:=A_ (HO.out.fresh_ne hg);replace HO:=A_ (HO.out.below hb);replace HK:=A_ (HK.out.trans (KeepBut.of_below hb g none) (.inl rfl));clear hbox hb hg;have x0:=(blk_cell BX.out 0).trans rfl;have x1:=(blk_cell BX.out 1).trans rfl))
 have c0:=HO.out.cell0
 rw[e0_] at c0
 replace m0_:=cl_ HO.out.2.1 m0_
 have RF:=A_ rF
 clear m1_ m2_ rF rG
 have cb:=decide_eq_true hz
 go_quiet (fail)
 replace HO:=A_ (HO.out.drewN nq);replace HK:=A_ (keep_drewN HK.out nq);replace BX:=A_ (blk_drewN BX.out nq);clear x0 x1 c0 m0_;generalize wx.drewN nq=wq at*;have x0:=(blk_cell BX.out 0).trans rfl;have x1:=(blk_cell BX.out 1).trans rfl
 go_wp2_with (first|(go_at_call 59;refine(fail_any w0 _ g q _ 5 A n1 _ n2 HO.out).mono ?_;rintro e w5 ⟨rfl,hO,hK⟩;replace HO:=A_ hO;replace HK:=A_ (HK.out.trans hK (.inl rfl));replace BX:=A_ (KeepBut.blk hK BX.out NX.out.1 (by simp));clear x0 x1 hO hK;have x0:=(blk_cell BX.out 0).trans rfl;have x1:=(blk_cell BX.out 1).trans rfl))
 go_ret
 exact⟨rfl,_,_,_,_,HO.out⟩
theorem place_16 (c c':CS S82) (A:Option Addr) (n1:Nat) (B:Option Addr) (n2:Nat) (h:Ck w0 w g q c A n1 B n2) (hm:MEnv w0 (q 0) fs gs mem) (hq:q 1=.pointer (some pf)) (hf:FEnv w0 pf f) (hop:x.f0=16) (hz0:0≤x.f1) (hz:x.f1<(fs.length:Int)) (c1:CS S82) (ht:takeRev (rd_T59 fs x.f1).f0 c (rd_T59 fs x.f1).f0.length=some c1) (hr:c1.put (rd_T59 fs x.f1).f1=some c'):
  Calls Try.prog 55 #[.pointer (some ⟨g,0,none⟩),.agg #[.int .i64 x.f0,.int .i64 x.f1]] w fun e w'=>e=.returned (.bool true)∧CkE w0 w' g q c':=by
 have HO:=A_ h
 have HK:=A_ (KeepBut.refl w g none)
 have hu71:=Try.underlying71
 have HM:=A_ hm;have HQ:=A_ hq;have HF:=A_ hf
 clear h hm hq hf
 have HR:=A_ hr;have HT:=A_ ht
 clear hr ht
 have b32:=ne_ hop 32
 have b33:=ne_ hop 33
 have b34:=ne_ hop 34
 have b35:=ne_ hop 35
 have b36:=ne_ hop 36
 have b16:=e1_ hop
 have d32:=nd_ hop 32
 have d33:=nd_ hop 33
 clear hop
 obtain⟨bm,AF,cF,AG,cG,e0_,m0_,m1_,m2_,rF,rG⟩:=HM.out
 go_enter Try.func55,Try.ntmps55
 go_upto_region 27 with (first|((with_reducible refine gd_ 3 rfl ?_);refine bx_ #[.int .i64 x.f0,.int .i64 x.f1] 71 ?_;intro gx hg wx hbox hb;have BX:=A_ hbox;have NX:=A_ (HO.out.fresh_ne hg);replace HO:=A_ (HO.out.below hb);replace HK:=A_ (HK.out.trans (KeepBut.of_below hb g none) (.inl rfl));clear hbox hb hg;have x0:=(blk_cell BX.out 0).trans rfl;have x1:=(blk_cell BX.out 1).trans rfl))
 have c0:=HO.out.cell0
 rw[e0_] at c0
 replace m0_:=cl_ HO.out.2.1 m0_
 have RF:=A_ rF
 clear m1_ m2_ rF rG
 have cb:decide ((fs.length:Int)≤x.f1)=false:=decide_eq_false (by omega)
 obtain⟨ad,A0,d0,A2,d2,A3,d3,rfl,g0_,g1_,g2_,g3_,l0_,r0,_,_,_,_⟩:=at_T59 RF.out x.f1 hz0 (by omega)
 have R0:=A_ r0;have hmax:=Kd.C_max r0
 replace g0_:=cl_ HO.out.2.1 g0_
 replace g1_:=cl_ HO.out.2.1 g1_
 replace g2_:=cl_ HO.out.2.1 g2_
 replace g3_:=cl_ HO.out.2.1 g3_
 clear r0 l0_
 have q0:=eq_true hz0
 have q1:(x.f1<(fs.length:Int))=True:=eq_true (by omega)
 have hu59:=Try.underlying59
 go_quiet (fail)
 have m0:=A_ (HO.out.drewN nq);have m1:=A_ (keep_drewN HK.out nq);have m2:=A_ (blk_drewN BX.out nq)
 have k0:(wx.drewN nq).cell? ⟨bm,0,none⟩=some (.slice (some ad) fs.length cF):=m0_
 have k1:(wx.drewN nq).cell? (ad.add (x.f1.toNat*4))=some (.slice A0 (rd_T59 fs x.f1).f0.length d0):=g0_
 have k2:(wx.drewN nq).cell? ⟨(ad.add (x.f1.toNat*4)).block,(ad.add (x.f1.toNat*4)).off+1,none⟩=some (.int .i64 (rd_T59 fs x.f1).f1):=g1_
 have k3:(wx.drewN nq).cell? ⟨(ad.add (x.f1.toNat*4)).block,(ad.add (x.f1.toNat*4)).off+2,none⟩=some (.slice A2 (rd_T59 fs x.f1).f2.length d2):=g2_
 have k4:(wx.drewN nq).cell? ⟨(ad.add (x.f1.toNat*4)).block,(ad.add (x.f1.toNat*4)).off+3,none⟩=some (.slice A3 (rd_T59 fs x.f1).f3.length d3):=g3_
 clear HO HK BX x0 x1 c0 m0_ g0_ g1_ g2_ g3_
 generalize wx.drewN nq=wq at*
 have HO:=m0;have HK:=m1;have BX:=m2;have m0_:=k0;have g0_:=k1;have g1_:=k2;have g2_:=k3;have g3_:=k4;clear m0 m1 m2 k0 k1 k2 k3 k4;have x0:=(blk_cell BX.out 0).trans rfl;have x1:=(blk_cell BX.out 1).trans rfl
 have c0:=HO.out.cell0
 rw[e0_] at c0
 go_upto_region 30 with (fail)
 refine sS 13 (fun w'=>w'.cell? ⟨g,0,none⟩=some (.pointer (some ⟨bm,0,none⟩))∧w'.cell? ⟨bm,0,none⟩=some (.slice (some ad) fs.length cF)∧w'.cell? ⟨gx,1,none⟩=some (.int .i64 x.f1)∧w'.cell? (ad.add (x.f1.toNat*4))=some (.slice A0 (rd_T59 fs x.f1).f0.length d0)∧w'.cell? ⟨(ad.add (x.f1.toNat*4)).block,(ad.add (x.f1.toNat*4)).off+1,none⟩=some (.int .i64 (rd_T59 fs x.f1).f1)∧w'.cell? ⟨(ad.add (x.f1.toNat*4)).block,(ad.add (x.f1.toNat*4)).off+2,none⟩=some (.slice A2 (rd_T59 fs x.f1).f2.length d2)∧w'.cell? ⟨(ad.add (x.f1.toNat*4)).block,(ad.add (x.f1.toNat*4)).off+3,none⟩=some (.slice A3 (rd_T59 fs x.f1).f3.length d3)) [12] ⟨c0,m0_,x1,g0_,g1_,g2_,g3_⟩ impl_place.tab30 impl_place.bits30 (fun hHeld HT_ HW_=>?_)
 replace HO:=A_ HO.out.drew;replace HK:=A_ (keep_drew HK.out);replace BX:=A_ (blk_drew BX.out);clear c0 m0_ g0_ g1_ g2_ g3_ x0 x1;generalize wq.drew=wd at*
 refine pS HT_ 0 99 ?_
 refine pS HT_ 1 100 ?_
 refine pS HT_ 2 101 ?_
 refine pS HT_ 7 106 ?_
 refine tS HT_ HW_ 3 102 hHeld ?_
 refine pS HT_ 4 103 ?_
 refine pS HT_ 5 104 ?_
 refine tS HT_ HW_ 6 105 hHeld ?_
 refine tS HT_ HW_ 8 107 hHeld ?_
 refine pS HT_ 9 108 ?_
 refine tS HT_ HW_ 10 109 hHeld ?_
 refine oS HT_ 11 (some 8) (fun K hK=>?_)
 refine box_step (by rfl) (N:=8) ?hd (cs:=#[(.slice none 0 0),(.int .i64 0),(.slice none 0 0),(.slice none 0 0)]) (t:=59) ?hr ?_;(case hd=>rfl);(case hr=>first|(go_simp;done)|(go_simp;rfl))
 intro gy hg wx hbox hb
 have BY:=A_ hbox;have GY:=A_ (show w.heap.size≤gy from by rw[hg];exact HK.out.1);have NY:=A_ (HO.out.fresh_ne hg);have GG:=A_ (Nat.le_trans HO.out.2.1.size (Nat.le_of_eq hg.symm));have m0:=A_ (HO.out.below hb);have m1:=A_ (HK.out.trans (KeepBut.of_below hb g none) (.inl rfl));have m4:=A_ (blk_below BX.out hb);have NXY:=A_ (show gx≠gy from by rw[hg];have:=blk_lt BX.out;omega)
 obtain⟨s0_,s1_,s2_,s3_,s4_,s5_,s6_⟩:=hHeld
 have hHeld2:=A_ (show wx.cell? ⟨g,0,none⟩=some (.pointer (some ⟨bm,0,none⟩))∧wx.cell? ⟨bm,0,none⟩=some (.slice (some ad) fs.length cF)∧wx.cell? ⟨gx,1,none⟩=some (.int .i64 x.f1)∧wx.cell? (ad.add (x.f1.toNat*4))=some (.slice A0 (rd_T59 fs x.f1).f0.length d0)∧wx.cell? ⟨(ad.add (x.f1.toNat*4)).block,(ad.add (x.f1.toNat*4)).off+1,none⟩=some (.int .i64 (rd_T59 fs x.f1).f1)∧wx.cell? ⟨(ad.add (x.f1.toNat*4)).block,(ad.add (x.f1.toNat*4)).off+2,none⟩=some (.slice A2 (rd_T59 fs x.f1).f2.length d2)∧wx.cell? ⟨(ad.add (x.f1.toNat*4)).block,(ad.add (x.f1.toNat*4)).off+3,none⟩=some (.slice A3 (rd_T59 fs x.f1).f3.length d3) from ⟨cl_ hb s0_,cl_ hb s1_,cl_ hb s2_,cl_ hb s3_,cl_ hb s4_,cl_ hb s5_,cl_ hb s6_⟩)
 clear HO HK BX hbox hb hg s0_ s1_ s2_ s3_ s4_ s5_ s6_;have HO:=m0;have HK:=m1;have BX:=m4;clear m0 m1 m4
 have z0:=(blk_cell BY.out 0).trans rfl;have v0:=blk_frozen BY.out 0;have z1:=(blk_cell BY.out 1).trans rfl;have v1:=blk_frozen BY.out 1;have z2:=(blk_cell BY.out 2).trans rfl;have v2:=blk_frozen BY.out 2;have z3:=(blk_cell BY.out 3).trans rfl;have v3:=blk_frozen BY.out 3
 refine hK.out _ _ hHeld2.out (fun hHeld=>?_)
 clear hK K
 refine nS (some 8) ?_
 refine lS HT_ 12 (none) (fun K hK=>?_)
 refine skip_ (w1:=((((wx.setCell ⟨gy,0,none⟩ ((.slice A0 (rd_T59 fs x.f1).f0.length d0))).setCell ⟨gy,1,none⟩ ((.int .i64 (rd_T59 fs x.f1).f1))).setCell ⟨gy,2,none⟩ ((.slice A2 (rd_T59 fs x.f1).f2.length d2))).setCell ⟨gy,3,none⟩ ((.slice A3 (rd_T59 fs x.f1).f3.length d3)))) (by rfl) rfl (by first|(go_simp;done)|(go_simp;rfl)) ?_
 clear hHeld hHeld2 z0 v0 z1 v1 z2 v2 z3 v3
 refine hK.out _ _ ?_
 clear hK K
 refine dS HT_ ?_
 replace BY:=A_ (show(((((wx.setCell ⟨gy,0,none⟩ ((.slice A0 (rd_T59 fs x.f1).f0.length d0))).setCell ⟨gy,1,none⟩ ((.int .i64 (rd_T59 fs x.f1).f1))).setCell ⟨gy,2,none⟩ ((.slice A2 (rd_T59 fs x.f1).f2.length d2))).setCell ⟨gy,3,none⟩ ((.slice A3 (rd_T59 fs x.f1).f3.length d3)))).heap[gy]? =some (.cells #[(.slice A0 (rd_T59 fs x.f1).f0.length d0),(.int .i64 (rd_T59 fs x.f1).f1),(.slice A2 (rd_T59 fs x.f1).f2.length d2),(.slice A3 (rd_T59 fs x.f1).f3.length d3)] 59 (0,0)) from blk_put (cs:=#[(.slice A0 (rd_T59 fs x.f1).f0.length d0),(.int .i64 (rd_T59 fs x.f1).f1),(.slice A2 (rd_T59 fs x.f1).f2.length d2),(.slice none 0 0)]) (blk_put (cs:=#[(.slice A0 (rd_T59 fs x.f1).f0.length d0),(.int .i64 (rd_T59 fs x.f1).f1),(.slice none 0 0),(.slice none 0 0)]) (blk_put (cs:=#[(.slice A0 (rd_T59 fs x.f1).f0.length d0),(.int .i64 0),(.slice none 0 0),(.slice none 0 0)]) (blk_put (cs:=#[(.slice none 0 0),(.int .i64 0),(.slice none 0 0),(.slice none 0 0)]) (BY.out) 0 ((.slice A0 (rd_T59 fs x.f1).f0.length d0)) rfl) 1 ((.int .i64 (rd_T59 fs x.f1).f1)) rfl) 2 ((.slice A2 (rd_T59 fs x.f1).f2.length d2)) rfl) 3 ((.slice A3 (rd_T59 fs x.f1).f3.length d3)) rfl);replace HO:=A_ (Ck.other (Ck.other (Ck.other (Ck.other (HO.out) GG.out NY.out 0 ((.slice A0 (rd_T59 fs x.f1).f0.length d0))) GG.out NY.out 1 ((.int .i64 (rd_T59 fs x.f1).f1))) GG.out NY.out 2 ((.slice A2 (rd_T59 fs x.f1).f2.length d2))) GG.out NY.out 3 ((.slice A3 (rd_T59 fs x.f1).f3.length d3)));replace HK:=A_ (keep_other (keep_other (keep_other (keep_other (HK.out) GY.out 0 ((.slice A0 (rd_T59 fs x.f1).f0.length d0))) GY.out 1 ((.int .i64 (rd_T59 fs x.f1).f1))) GY.out 2 ((.slice A2 (rd_T59 fs x.f1).f2.length d2))) GY.out 3 ((.slice A3 (rd_T59 fs x.f1).f3.length d3)));replace BX:=A_ (show((((wx.setCell ⟨gy,0,none⟩ ((.slice A0 (rd_T59 fs x.f1).f0.length d0))).setCell ⟨gy,1,none⟩ ((.int .i64 (rd_T59 fs x.f1).f1))).setCell ⟨gy,2,none⟩ ((.slice A2 (rd_T59 fs x.f1).f2.length d2))).setCell ⟨gy,3,none⟩ ((.slice A3 (rd_T59 fs x.f1).f3.length d3))).heap[gx]? =some (.cells #[.int .i64 x.f0,.int .i64 x.f1] 71 (0,0)) from(Below.heap_setCell (((wx.setCell ⟨gy,0,none⟩ ((.slice A0 (rd_T59 fs x.f1).f0.length d0))).setCell ⟨gy,1,none⟩ ((.int .i64 (rd_T59 fs x.f1).f1))).setCell ⟨gy,2,none⟩ ((.slice A2 (rd_T59 fs x.f1).f2.length d2))) ⟨gy,3,none⟩ ((.slice A3 (rd_T59 fs x.f1).f3.length d3)) gx NXY.out).trans ((Below.heap_setCell ((wx.setCell ⟨gy,0,none⟩ ((.slice A0 (rd_T59 fs x.f1).f0.length d0))).setCell ⟨gy,1,none⟩ ((.int .i64 (rd_T59 fs x.f1).f1))) ⟨gy,2,none⟩ ((.slice A2 (rd_T59 fs x.f1).f2.length d2)) gx NXY.out).trans ((Below.heap_setCell (wx.setCell ⟨gy,0,none⟩ ((.slice A0 (rd_T59 fs x.f1).f0.length d0))) ⟨gy,1,none⟩ ((.int .i64 (rd_T59 fs x.f1).f1)) gx NXY.out).trans ((Below.heap_setCell wx ⟨gy,0,none⟩ ((.slice A0 (rd_T59 fs x.f1).f0.length d0)) gx NXY.out).trans (BX.out)))));generalize ((((wx.setCell ⟨gy,0,none⟩ ((.slice A0 (rd_T59 fs x.f1).f0.length d0))).setCell ⟨gy,1,none⟩ ((.int .i64 (rd_T59 fs x.f1).f1))).setCell ⟨gy,2,none⟩ ((.slice A2 (rd_T59 fs x.f1).f2.length d2))).setCell ⟨gy,3,none⟩ ((.slice A3 (rd_T59 fs x.f1).f3.length d3)))=wy at*;have x0:=(blk_cell BX.out 0).trans rfl;have x1:=(blk_cell BX.out 1).trans rfl
 have y0:=(blk_cell BY.out 0).trans rfl;have y1:=(blk_cell BY.out 1).trans rfl;have y2:=(blk_cell BY.out 2).trans rfl;have y3:=(blk_cell BY.out 3).trans rfl
 clear x0 x1 BX
 have ew:IntKind.i64.wrap (((rd_T59 fs x.f1).f0.length:Int) - 1)=((rd_T59 fs x.f1).f0.length:Int) - 1:=ck_w _ (by omega)
 go_wp2
 go_loopg [9] (rd_T59 fs x.f1).f0.length (fun kq v9 w'=>∃ (kk:Nat) (c2:CS S82),kk=kq∧v9=.int .i64 ((kk:Int) - 1)∧Aside0 (takeRev (rd_T59 fs x.f1).f0 c2 kk=some c1)∧Aside0 (Ck w0 w' g q c2 A n1 B n2)∧Aside0 (w'.heap[gy]? =some (.cells #[(.slice A0 (rd_T59 fs x.f1).f0.length d0),(.int .i64 (rd_T59 fs x.f1).f1),(.slice A2 (rd_T59 fs x.f1).f2.length d2),(.slice A3 (rd_T59 fs x.f1).f3.length d3)] 59 (0,0)))∧Aside0 (kk≤(rd_T59 fs x.f1).f0.length))
 case atStart=>exact⟨_,c,rfl,rfl,HT,HO,BY,⟨Nat.le_refl _⟩⟩
 case round=>
  clear y0 y1 y2 y3 HO HK BY HT ew
  obtain⟨kk,c2,hkk,rfl,HT,HO,BY,HKQ⟩:=hrel
  have y0:=(blk_cell BY.out 0).trans rfl;have y1:=(blk_cell BY.out 1).trans rfl
  have HKK:=A_ hkk
  clear hkk
  rcases Nat.eq_zero_or_pos kk with hk0|hk0
  ·
   subst hk0
   have HT':=HT.out
   rw[takeRev] at HT'
   obtain rfl:=Option.some.inj HT'
   have HK:=A_ trivial
   have cbz:decide ((0:Int)≤((0:Nat):Int) - 1)=false:=rfl
   go_wp2_with (first|(go_at_call 57;refine(put_any (rd_T59 fs x.f1).f1 w0 _ g q _ c' A n1 _ n2 HO.out HR.out).mono ?_;rintro e w5 ⟨rfl,hE⟩;have HE:=A_ hE;clear hE))
   go_ret
   exact⟨rfl,HE.out⟩
  obtain⟨km,rfl⟩:∃ km,kk=km+1:=⟨kk - 1,by omega⟩
  have HT':=HT.out
  rw[takeRev] at HT'
  obtain⟨⟨c3,u⟩,hs,ht⟩:=Option.bind_eq_some_iff.1 HT'
  have HS:=A_ hs;have HTn:=A_ ht
  clear HT' hs ht HT
  have ek:((km+1:Nat):Int) - 1=(km:Int):=by omega
  rw[ek]
  have hkm:=HKQ.out
  obtain⟨ad2,eA,hx⟩:=Kd.at_int R0.out (km:Int) (by omega) (by omega)
  subst eA
  have gx_:=cl_ HO.out.2.1 hx
  rw[Int.toNat_natCast] at gx_
  have cbz:decide ((0:Int)≤(km:Int))=true:=decide_eq_true (by omega)
  have q5:((0:Int)≤(km:Int))=True:=eq_true (by omega)
  have q6:((km:Int)<((rd_T59 fs x.f1).f0.length:Int))=True:=eq_true (by omega)
  have ew:IntKind.i64.wrap ((km:Int) - 1)=(km:Int) - 1:=ck_w _ (by omega)
  clear hx ek hkm
  have HK:=A_ (KeepBut.refl wr g none)
  go_wp2_with (first|(go_at_call 56;refine(take_any w0 _ g q _ c3 (rd (rd_T59 fs x.f1).f0 (km:Int)) u A n1 _ n2 HO.out HS.out).mono ?_;rintro e w5 ⟨rfl,hO,hK⟩;replace HO:=A_ hO;replace BY:=A_ (KeepBut.blk hK BY.out NY.out.1 (by simp));clear y0 y1 gx_ hO hK))
  go_roundg km
  case measure=>have:=HKK.out;omega
  case rel=>exact⟨km,c3,rfl,by first|rfl|(rw[ew]),HTn,HO,BY,⟨by have:=HKQ.out;omega⟩⟩
theorem place_no (c:CS S82) (A:Option Addr) (n1:Nat) (B:Option Addr) (n2:Nat) (h:Ck w0 w g q c A n1 B n2) (hm:MEnv w0 (q 0) fs gs mem) (hq:q 1=.pointer (some pf)) (hf:FEnv w0 pf f) (hop:x.f0≠32∧x.f0≠33∧x.f0≠34∧x.f0≠35∧x.f0≠36∧x.f0≠16):
  Calls Try.prog 55 #[.pointer (some ⟨g,0,none⟩),.agg #[.int .i64 x.f0,.int .i64 x.f1]] w fun e w'=>e=.returned (.bool false)∧Ck w0 w' g q c A n1 B n2∧KeepBut w w' g none:=by
 have HO:=A_ h
 have HK:=A_ (KeepBut.refl w g none)
 have hu71:=Try.underlying71
 clear h hm hq hf
 obtain⟨h32,h33,h34,h35,h36,h16⟩:=hop
 have b32:=e0_ h32
 have b33:=e0_ h33
 have b34:=e0_ h34
 have b35:=e0_ h35
 have b36:=e0_ h36
 have b16:=e0_ h16
 clear h32 h33 h34 h35 h36 h16
 go_enter Try.func55,Try.ntmps55
 go_wp2_with (first|((with_reducible refine gd_ 3 rfl ?_);refine bx_ #[.int .i64 x.f0,.int .i64 x.f1] 71 ?_;intro gx hg wx hbox hb;have BX:=A_ hbox;have NX:=A_ (HO.out.fresh_ne hg);replace HO:=A_ (HO.out.below hb);replace HK:=A_ (HK.out.trans (KeepBut.of_below hb g none) (.inl rfl));clear hbox hb hg;have x0:=(blk_cell BX.out 0).trans rfl;have x1:=(blk_cell BX.out 1).trans rfl))
 go_ret
 exact⟨rfl,HO.out,HK.out⟩

def placeC (c:CS S82) (fs:List S59) (gs:List S63) (f:S59) (x:S71):Option (CS S82 × Bool):=
 if x.f0=32∨x.f0=33∨x.f0=34 then (localF f x.f1).bind fun r=>if r.2=false then some (c.fail 5,true) else
  (if x.f0=32 then c.put r.1 else if x.f0=33 then (takeC c r.1).bind fun s=>some s.1 else (takeC c r.1).bind fun s=>s.1.put r.1).bind fun c2=>some (c2,true)
 else if x.f0=35∨x.f0=36 then (if (gs.length:Int)≤x.f1 then some (c.fail 5,true) else if 0≤x.f1 then
  (if x.f0=35 then c.put (rd_T63 gs x.f1).f0 else (takeC (if (rd_T63 gs x.f1).f1=true then c.fail 7 else c) (rd_T63 gs x.f1).f0).bind fun s=>some s.1).bind fun c2=>some (c2,true) else none)
 else if x.f0=16 then (if (fs.length:Int)≤x.f1 then some (c.fail 5,true) else if 0≤x.f1 then
  (takeRev (rd_T59 fs x.f1).f0 c (rd_T59 fs x.f1).f0.length).bind fun c1=>(c1.put (rd_T59 fs x.f1).f1).bind fun c2=>some (c2,true) else none)
 else some (c,false)
set_option maxHeartbeats 1000000 in
theorem place_any (c c':CS S82) (r:Bool) (A:Option Addr) (n1:Nat) (B:Option Addr) (n2:Nat) (h:Ck w0 w g q c A n1 B n2) (hm:MEnv w0 (q 0) fs gs mem) (hq:q 1=.pointer (some pf)) (hf:FEnv w0 pf f) (hr:placeC c fs gs f x=some (c',r)):
  Calls Try.prog 55 #[.pointer (some ⟨g,0,none⟩),.agg #[.int .i64 x.f0,.int .i64 x.f1]] w fun e w'=>e=.returned (.bool r)∧(r=true→CkE w0 w' g q c')∧(r=false→c'=c∧Ck w0 w' g q c A n1 B n2∧KeepBut w w' g none):=by
 have yes:r=true→Calls Try.prog 55 #[.pointer (some ⟨g,0,none⟩),.agg #[.int .i64 x.f0,.int .i64 x.f1]] w (fun e w'=>e=.returned (.bool true)∧CkE w0 w' g q c')→Calls Try.prog 55 #[.pointer (some ⟨g,0,none⟩),.agg #[.int .i64 x.f0,.int .i64 x.f1]] w (fun e w'=>e=.returned (.bool r)∧(r=true→CkE w0 w' g q c')∧(r=false→c'=c∧Ck w0 w' g q c A n1 B n2∧KeepBut w w' g none)):=by
  intro e hc
  subst e
  exact hc.mono fun e w' hh=>⟨hh.1,fun _=>hh.2,(fun h=>by cases h)⟩
 unfold placeC at hr
 by_cases k3:x.f0=32∨x.f0=33∨x.f0=34
 ·
  rw[if_pos k3] at hr
  obtain⟨⟨t,ok⟩,hl,hr⟩:=Option.bind_eq_some_iff.1 hr
  cases ok with
  |false=>
   rw[if_pos rfl] at hr
   simp only[Option.some.injEq,Prod.mk.injEq] at hr
   obtain⟨e1,e⟩:=hr
   rcases k3 with k|k|k
   ·
    exact yes e.symm (place_32_no x f fs gs mem pf w0 w g q c c' A n1 B n2 h hm hq hf k t hl e1.symm)
   ·
    exact yes e.symm (place_33_no x f fs gs mem pf w0 w g q c c' A n1 B n2 h hm hq hf k t hl e1.symm)
   exact yes e.symm (place_34_no x f fs gs mem pf w0 w g q c c' A n1 B n2 h hm hq hf k t hl e1.symm)
  |true=>
   rw[if_neg (show ¬((t,true):Int × Bool).2=false from fun e=>by cases e)] at hr
   obtain⟨c2,h2,hr⟩:=Option.bind_eq_some_iff.1 hr
   simp only[Option.some.injEq,Prod.mk.injEq] at hr
   obtain⟨rfl,e⟩:=hr
   by_cases k32:x.f0=32
   ·
    rw[if_pos k32] at h2
    exact yes e.symm (place_32 x f fs gs mem pf w0 w g q c c2 A n1 B n2 h hm hq hf k32 t hl h2)
   rw[if_neg k32] at h2
   by_cases k33:x.f0=33
   ·
    rw[if_pos k33] at h2
    obtain⟨⟨c3,u⟩,hs,h2⟩:=Option.bind_eq_some_iff.1 h2
    obtain rfl:=Option.some.inj h2
    exact yes e.symm (place_33 x f fs gs mem pf w0 w g q c c3 A n1 B n2 h hm hq hf k33 t hl u hs)
   rw[if_neg k33] at h2
   obtain⟨⟨c3,u⟩,hs,h2⟩:=Option.bind_eq_some_iff.1 h2
   exact yes e.symm (place_34 x f fs gs mem pf w0 w g q c c2 A n1 B n2 h hm hq hf (by omega) t hl c3 u hs h2)
 rw[if_neg k3] at hr
 by_cases k5:x.f0=35∨x.f0=36
 ·
  rw[if_pos k5] at hr
  by_cases kz:(gs.length:Int)≤x.f1
  ·
   rw[if_pos kz] at hr
   simp only[Option.some.injEq,Prod.mk.injEq] at hr
   obtain⟨e1,e⟩:=hr
   rcases k5 with k|k
   ·
    exact yes e.symm (place_35_no x f fs gs mem pf w0 w g q c c' A n1 B n2 h hm hq hf k kz e1.symm)
   exact yes e.symm (place_36_no x f fs gs mem pf w0 w g q c c' A n1 B n2 h hm hq hf k kz e1.symm)
  rw[if_neg kz] at hr
  by_cases k0:0≤x.f1
  ·
   rw[if_pos k0] at hr
   obtain⟨c2,h2,hr⟩:=Option.bind_eq_some_iff.1 hr
   simp only[Option.some.injEq,Prod.mk.injEq] at hr
   obtain⟨rfl,e⟩:=hr
   by_cases k35:x.f0=35
   ·
    rw[if_pos k35] at h2
    exact yes e.symm (place_35 x f fs gs mem pf w0 w g q c c2 A n1 B n2 h hm hq hf k35 k0 (by omega) h2)
   rw[if_neg k35] at h2
   obtain⟨⟨c3,u⟩,hs,h2⟩:=Option.bind_eq_some_iff.1 h2
   obtain rfl:=Option.some.inj h2
   by_cases kx:(rd_T63 gs x.f1).f1=true
   ·
    rw[if_pos kx] at hs
    exact yes e.symm (place_36_f x f fs gs mem pf w0 w g q c c3 A n1 B n2 h hm hq hf (by omega) k0 (by omega) kx u hs)
   rw[if_neg kx] at hs
   exact yes e.symm (place_36 x f fs gs mem pf w0 w g q c c3 A n1 B n2 h hm hq hf (by omega) k0 (by omega) (by simpa using kx) u hs)
  rw[if_neg k0] at hr;cases hr
 rw[if_neg k5] at hr
 by_cases k16:x.f0=16
 ·
  rw[if_pos k16] at hr
  by_cases kz:(fs.length:Int)≤x.f1
  ·
   rw[if_pos kz] at hr
   simp only[Option.some.injEq,Prod.mk.injEq] at hr
   obtain⟨e1,e⟩:=hr
   exact yes e.symm (place_16_no x f fs gs mem pf w0 w g q c c' A n1 B n2 h hm hq hf k16 kz e1.symm)
  rw[if_neg kz] at hr
  by_cases k0:0≤x.f1
  ·
   rw[if_pos k0] at hr
   obtain⟨c1,h1,hr⟩:=Option.bind_eq_some_iff.1 hr
   obtain⟨c2,h2,hr⟩:=Option.bind_eq_some_iff.1 hr
   simp only[Option.some.injEq,Prod.mk.injEq] at hr
   obtain⟨rfl,e⟩:=hr
   exact yes e.symm (place_16 x f fs gs mem pf w0 w g q c c2 A n1 B n2 h hm hq hf k16 k0 (by omega) c1 h1 h2)
  rw[if_neg k0] at hr;cases hr
 rw[if_neg k16] at hr
 simp only[Option.some.injEq,Prod.mk.injEq] at hr
 obtain⟨rfl,rfl⟩:=hr
 exact(place_no x f fs gs mem pf w0 w g q c A n1 B n2 h hm hq hf ⟨fun e=>k3 (.inl e),fun e=>k3 (.inr (.inl e)),fun e=>k3 (.inr (.inr e)),fun e=>k5 (.inl e),fun e=>k5 (.inr e),k16⟩).mono fun e w' hh=>⟨hh.1,(fun h=>by cases h),fun _=>⟨rfl,hh.2⟩⟩


end

/-! ### impl_usesMemory: function 58 -/
def impl_usesMemory.f (k:Nat) (a0:Int):Option (Bool):=(impl_formOf.f k a0).bind fun t303=>(if t303=4 then (some true) else (if a0=63 then (some true) else (some (a0==64))))
theorem impl_usesMemory.mono:∀ a0 k,LeO (impl_usesMemory.f k a0) (impl_usesMemory.f (k+1) a0):=by
 intro a0 k
 unfold impl_usesMemory.f
 repeat' first
   |(with_reducible exact impl_formOf.mono _ _)
   |(with_reducible exact LeO.refl _)
   |(with_reducible exact LeO.none _)
   |(with_reducible refine LeO.ite ?_ ?_)
   |(with_reducible refine LeO.bind ?_ (fun _=>?_))
   |exact impl_formOf.mono _ _
   |exact LeO.none _
   |refine LeO.ite ?_ ?_
   |refine LeO.bind ?_ (fun _=>?_)
theorem impl_usesMemory.calls (k:Nat) (a0:Int) (r:Bool) (w:World) (h:impl_usesMemory.f k a0=some r):
  Calls Try.prog 58 #[.int .i64 a0] w fun e w'=>e=.returned (.bool r)∧Drawn0 w w':=by
 have H:((impl_formOf.f k a0).bind fun t303=>(if t303=4 then (some true) else (if a0=63 then (some true) else (some (a0==64)))))=some r:=h
 clear h
 replace H:=bi_ H
 obtain⟨t303,A20,H⟩:=H
 have A2:=A_ A20
 clear A20
 by_cases c3:t303=4
 ·
  rw[if_pos c3] at H
  obtain⟨c3b0,c3b1⟩:=eT_ c3
  clear c3
  obtain rfl:=Option.some.inj H
  clear H
  go_enter Try.func58,Try.ntmps58
  go_wp2_with (first|((with_reducible refine gc_ 76 rfl ?_);refine gn_ (some 4) Try.func76 (impl_formOf.calls k a0 t303 _ A2.out) ?_;intro nd))
  go_ret
  exact⟨rs_,dr_⟩
 rw[if_neg c3] at H
 obtain⟨c3b0,c3b1⟩:=eF_ c3
 by_cases c4:a0=63
 ·
  rw[if_pos c4] at H
  obtain⟨c4b0,c4b1⟩:=eT_ c4
  clear c4
  obtain rfl:=Option.some.inj H
  clear H
  go_enter Try.func58,Try.ntmps58
  go_wp2_with (first|((with_reducible refine gc_ 76 rfl ?_);refine gn_ (some 4) Try.func76 (impl_formOf.calls k a0 t303 _ A2.out) ?_;intro nd))
  go_ret
  exact⟨rs_,dr_⟩
 rw[if_neg c4] at H
 obtain⟨c4b0,c4b1⟩:=eF_ c4
 obtain rfl:=Option.some.inj H
 clear H
 go_enter Try.func58,Try.ntmps58
 go_wp2_with (first|((with_reducible refine gc_ 76 rfl ?_);refine gn_ (some 4) Try.func76 (impl_formOf.calls k a0 t303 _ A2.out) ?_;intro nd))
 go_ret
 exact⟨rs_,dr_⟩

/-! ### impl_floatRow: function 77 -/
def impl_floatRow.f (a0:Int):Option (List Int × Int):=if a0=6 then (some ((([125]:List Int)),125)) else (if a0≥7 then (some ((([125,125]:List Int)),127)) else (some ((([125,125]:List Int)),125)))
theorem impl_floatRow.calls (a0:Int) (r1:List Int) (r2:Int) (w:World) (h:impl_floatRow.f a0=some (r1,r2)):
  Calls Try.prog 77 #[.int .i64 a0] w fun e w'=>∃ v0_:Value,e=.returned (.tuple #[v0_,.int .i64 r2])∧Kd.R (Kd.int .i64) 3 w' w.heap.size (fun _=>True) v0_ r1∧Below w.heap.size w w':=by
 have HB:=A_ (Below.refl w.heap.size w)
 have H:(if a0=6 then (some ((([125]:List Int)),125)) else (if a0≥7 then (some ((([125,125]:List Int)),127)) else (some ((([125,125]:List Int)),125))))=some (r1,r2):=h
 clear h
 by_cases c2:a0=6
 ·
  rw[if_pos c2] at H
  obtain⟨c2b0,c2b1⟩:=eT_ c2
  clear c2
  obtain⟨y304,hy304⟩:∃ y_:List Int,y_=(([125]:List Int)):=⟨_,rfl⟩
  replace H:(some (y304,125))=some (r1,r2):=by first|(rw[hy304];with_reducible exact H)|(have H2_:=(Option.bind_some _ _).symm.trans H;rw[hy304];with_reducible exact H2_)|(have H2_:=(Option.bind_some _ _).symm.trans H;with_reducible exact H2_)|with_reducible exact H|(rw[hy304];exact H)|exact H
  have Ny304:=A_ hy304
  clear hy304
  simp only[Option.some.injEq,Prod.mk.injEq] at H
  obtain⟨rfl,rfl⟩:=H
  go_enter Try.func77,Try.ntmps77
  go_wp2_with (first|((with_reducible refine gd_ 7 rfl ?_);refine Kd.R_lit (Kd.int .i64) _ 3 ?hg (N:=7) ?hd (xs:=([125]:List Int)) (inner:=[.int .i64 125]) (ok:=fun _=>True) (okp:=fun _=>True) ?hr ?hp (fun _ hk=>hk) trivial (Below.refl _ _) (Nat.le_refl _) (by simp) ?_;(case hd=>rfl);(case hg=>rfl);(case hr=>first|(go_simp;done)|(go_simp;rfl));(case hp=>exact(Reps.one (show Kd.M (Kd.int .i64) _ _ _ 125 [.int .i64 125] from rfl) (Reps.none _ _)));intro v305 w3 ho4 hb hg_ hnew_;clear hg_ hnew_;(first|rw[←Ny304.out] at ho4|(simp only[Int.reduceToNat] at ho4;rw[←Ny304.out] at ho4));have HO306:=A_ (Kd.R_lower ho4 (below_size (bw HB.out)));replace HB:=bs_ HB hb;clear hb ho4))
  go_ret2
  exact⟨_,rr_,kr_ HO306.out,bw HB.out⟩
 rw[if_neg c2] at H
 obtain⟨c2b0,c2b1⟩:=eF_ c2
 by_cases c5:a0≥7
 ·
  rw[if_pos c5] at H
  have c5b0:=decide_eq_true c5
  clear c5
  obtain⟨y307,hy307⟩:∃ y_:List Int,y_=(([125,125]:List Int)):=⟨_,rfl⟩
  replace H:(some (y307,127))=some (r1,r2):=by first|(rw[hy307];with_reducible exact H)|(have H2_:=(Option.bind_some _ _).symm.trans H;rw[hy307];with_reducible exact H2_)|(have H2_:=(Option.bind_some _ _).symm.trans H;with_reducible exact H2_)|with_reducible exact H|(rw[hy307];exact H)|exact H
  have Ny307:=A_ hy307
  clear hy307
  simp only[Option.some.injEq,Prod.mk.injEq] at H
  obtain⟨rfl,rfl⟩:=H
  go_enter Try.func77,Try.ntmps77
  go_wp2_with (first|((with_reducible refine gd_ 11 rfl ?_);refine Kd.R_lit (Kd.int .i64) _ 3 ?hg (N:=11) ?hd (xs:=([125,125]:List Int)) (inner:=[.int .i64 125,.int .i64 125]) (ok:=fun _=>True) (okp:=fun _=>True) ?hr ?hp (fun _ hk=>hk) trivial (Below.refl _ _) (Nat.le_refl _) (by simp) ?_;(case hd=>rfl);(case hg=>rfl);(case hr=>first|(go_simp;done)|(go_simp;rfl));(case hp=>exact(Reps.one (show Kd.M (Kd.int .i64) _ _ _ 125 [.int .i64 125] from rfl) (Reps.one (show Kd.M (Kd.int .i64) _ _ _ 125 [.int .i64 125] from rfl) (Reps.none _ _))));intro v308 w6 ho7 hb hg_ hnew_;clear hg_ hnew_;(first|rw[←Ny307.out] at ho7|(simp only[Int.reduceToNat] at ho7;rw[←Ny307.out] at ho7));have HO309:=A_ (Kd.R_lower ho7 (below_size (bw HB.out)));replace HB:=bs_ HB hb;clear hb ho7))
  go_ret2
  exact⟨_,rr_,kr_ HO309.out,bw HB.out⟩
 rw[if_neg c5] at H
 have c5b0:=decide_eq_false c5
 clear c5
 obtain⟨y310,hy310⟩:∃ y_:List Int,y_=(([125,125]:List Int)):=⟨_,rfl⟩
 replace H:(some (y310,125))=some (r1,r2):=by first|(rw[hy310];with_reducible exact H)|(have H2_:=(Option.bind_some _ _).symm.trans H;rw[hy310];with_reducible exact H2_)|(have H2_:=(Option.bind_some _ _).symm.trans H;with_reducible exact H2_)|with_reducible exact H|(rw[hy310];exact H)|exact H
 have Ny310:=A_ hy310
 clear hy310
 simp only[Option.some.injEq,Prod.mk.injEq] at H
 obtain⟨rfl,rfl⟩:=H
 go_enter Try.func77,Try.ntmps77
 go_wp2_with (first|((with_reducible refine gd_ 12 rfl ?_);refine Kd.R_lit (Kd.int .i64) _ 3 ?hg (N:=12) ?hd (xs:=([125,125]:List Int)) (inner:=[.int .i64 125,.int .i64 125]) (ok:=fun _=>True) (okp:=fun _=>True) ?hr ?hp (fun _ hk=>hk) trivial (Below.refl _ _) (Nat.le_refl _) (by simp) ?_;(case hd=>rfl);(case hg=>rfl);(case hr=>first|(go_simp;done)|(go_simp;rfl));(case hp=>exact(Reps.one (show Kd.M (Kd.int .i64) _ _ _ 125 [.int .i64 125] from rfl) (Reps.one (show Kd.M (Kd.int .i64) _ _ _ 125 [.int .i64 125] from rfl) (Reps.none _ _))));intro v311 w8 ho9 hb hg_ hnew_;clear hg_ hnew_;(first|rw[←Ny310.out] at ho9|(simp only[Int.reduceToNat] at ho9;rw[←Ny310.out] at ho9));have HO312:=A_ (Kd.R_lower ho9 (below_size (bw HB.out)));replace HB:=bs_ HB hb;clear hb ho9))
 go_ret2
 exact⟨_,rr_,kr_ HO312.out,bw HB.out⟩

/-! ### impl_intRow: function 78 -/
def impl_intRow.j0:Nat→Int→Int→Int→Bool→Option (List Int × Int)
 |0,_,_,_,_=>none
 |k+1,x0,x1,x6,x17=>if x17=true then (if x1≤21 then (some ((([x0,x0]:List Int)),127)) else (some ((([x0]:List Int)),127))) else (if x1≤21 then (some ((([x0,x0]:List Int)),x6)) else (some ((([x0]:List Int)),x6)))
def impl_intRow.f (k:Nat) (a0:Int) (a1:Int):Option (List Int × Int):=if a1≥16 then (if a1≤21 then (impl_intRow.j0 k a0 a1 a0 true) else (impl_intRow.j0 k a0 a1 a0 (a1==25))) else (impl_intRow.j0 k a0 a1 a0 (a1==25))
theorem impl_intRow.mono_l:∀ k,(∀ y0 y1 y2 y3,LeO (impl_intRow.j0 k y0 y1 y2 y3) (impl_intRow.j0 (k+1) y0 y1 y2 y3))
 |0=>fun _ _ _ _ r h=>by simp[impl_intRow.j0] at h
 |k+1=>by
  have ih0:=impl_intRow.mono_l k
  intro y0 y1 y2 y3
  unfold impl_intRow.j0
  repeat' first
  |(with_reducible exact ih0 _ _ _ _)
  |(with_reducible exact LeO.refl _)
  |(with_reducible exact LeO.none _)
  |(with_reducible refine LeO.ite ?_ ?_)
  |(with_reducible refine LeO.bind ?_ (fun _=>?_))
  |exact ih0 _ _ _ _
  |exact LeO.none _
  |refine LeO.ite ?_ ?_
  |refine LeO.bind ?_ (fun _=>?_)
theorem impl_intRow.mono:∀ a0 a1 k,LeO (impl_intRow.f k a0 a1) (impl_intRow.f (k+1) a0 a1):=by
 intro a0 a1 k
 have ih0:=impl_intRow.mono_l k
 unfold impl_intRow.f
 repeat' first
   |(with_reducible exact ih0 _ _ _ _)
   |(with_reducible exact LeO.refl _)
   |(with_reducible exact LeO.none _)
   |(with_reducible refine LeO.ite ?_ ?_)
   |(with_reducible refine LeO.bind ?_ (fun _=>?_))
   |exact ih0 _ _ _ _
   |exact LeO.none _
   |refine LeO.ite ?_ ?_
   |refine LeO.bind ?_ (fun _=>?_)
theorem impl_intRow.calls (k:Nat) (a0:Int) (a1:Int) (r1:List Int) (r2:Int) (w:World) (h:impl_intRow.f k a0 a1=some (r1,r2)):
  Calls Try.prog 78 #[.int .i64 a0,.int .i64 a1] w fun e w'=>∃ v0_:Value,e=.returned (.tuple #[v0_,.int .i64 r2])∧Kd.R (Kd.int .i64) 3 w' w.heap.size (fun _=>True) v0_ r1∧Below w.heap.size w w':=by
 have HB:=A_ (Below.refl w.heap.size w)
 have H:(if a1≥16 then (if a1≤21 then (impl_intRow.j0 k a0 a1 a0 true) else (impl_intRow.j0 k a0 a1 a0 (a1==25))) else (impl_intRow.j0 k a0 a1 a0 (a1==25)))=some (r1,r2):=h
 clear h
 have HC3:=A_ H
 clear H
 go_enter Try.func78,Try.ntmps78
 go_upto_region 2 with (fail)
 go_cut [17] (fun v17 wc=>∃ (kq:Nat) (x17_2:Bool),v17=.bool x17_2∧Aside0 (impl_intRow.j0 kq a0 a1 a0 x17_2=some (r1,r2))∧Aside0 (kq≤k)∧Aside0 (Below w.heap.size w wc))
 case first=>
  have H:=HC3.out
  clear HC3
  by_cases c4:a1≥16
  ·
   rw[if_pos c4] at H
   have c4b0:=decide_eq_true c4
   clear c4
   (first|rw[c4b0]|(simp only[i64_w,i32_w];rw[c4b0])|skip)
   by_cases c5:a1≤21
   ·
    rw[if_pos c5] at H
    have c5b0:=decide_eq_true c5
    clear c5
    have H':=A_ H
    clear H
    go_wp2
    go_meet
    case rel=>exact⟨_,(true),rs_,H',⟨by first|omega|exact Nat.le_refl _⟩,⟨bw HB.out⟩⟩
   rw[if_neg c5] at H
   have c5b0:=decide_eq_false c5
   clear c5
   have H':=A_ H
   clear H
   go_wp2
   go_meet
   case rel=>exact⟨_,((a1==25)),rs_,H',⟨by first|omega|exact Nat.le_refl _⟩,⟨bw HB.out⟩⟩
  rw[if_neg c4] at H
  have c4b0:=decide_eq_false c4
  clear c4
  (first|rw[c4b0]|(simp only[i64_w,i32_w];rw[c4b0])|skip)
  have H':=A_ H
  clear H
  go_wp2
  go_meet
  case rel=>exact⟨_,((a1==25)),rs_,H',⟨by first|omega|exact Nat.le_refl _⟩,⟨bw HB.out⟩⟩
 case rest=>
  clear HC3
  obtain⟨kq,x17_2,rfl,HA,HJ2,HB⟩:=hcut
  cases kq with
  |zero=>exact absurd HA.out (by simp[impl_intRow.j0])
  |succ kj2=>
   have H:=HA.out
   clear HA
   simp only[impl_intRow.j0] at H
   by_cases c6:x17_2=true
   ·
    subst c6
    replace H:=iT_ H
    by_cases c7:a1≤21
    ·
     rw[if_pos c7] at H
     have c7b0:=decide_eq_true c7
     clear c7
     obtain⟨y313,hy313⟩:∃ y_:List Int,y_=(([a0,a0]:List Int)):=⟨_,rfl⟩
     replace H:(some (y313,127))=some (r1,r2):=by first|(rw[hy313];with_reducible exact H)|(have H2_:=(Option.bind_some _ _).symm.trans H;rw[hy313];with_reducible exact H2_)|(have H2_:=(Option.bind_some _ _).symm.trans H;with_reducible exact H2_)|with_reducible exact H|(rw[hy313];exact H)|exact H
     have Ny313:=A_ hy313
     clear hy313
     simp only[Option.some.injEq,Prod.mk.injEq] at H
     obtain⟨rfl,rfl⟩:=H
     go_wp2_with (first|((with_reducible refine gd_ 22 rfl ?_);refine Kd.R_lit (Kd.int .i64) _ 3 ?hg (N:=22) ?hd (xs:=([a0,a0]:List Int)) (inner:=[.int .i64 a0,.int .i64 a0]) (ok:=fun _=>True) (okp:=fun _=>True) ?hr ?hp (fun _ hk=>hk) trivial (Below.refl _ _) (Nat.le_refl _) (by simp) ?_;(case hd=>rfl);(case hg=>rfl);(case hr=>first|(go_simp;done)|(go_simp;rfl));(case hp=>exact(Reps.one (show Kd.M (Kd.int .i64) _ _ _ a0 [.int .i64 a0] from rfl) (Reps.one (show Kd.M (Kd.int .i64) _ _ _ a0 [.int .i64 a0] from rfl) (Reps.none _ _))));intro v314 w8 ho9 hb hg_ hnew_;clear hg_ hnew_;(first|rw[←Ny313.out] at ho9|(simp only[Int.reduceToNat] at ho9;rw[←Ny313.out] at ho9));have HO315:=A_ (Kd.R_lower ho9 (below_size (bw HB.out)));replace HB:=bs_ HB hb;clear hb ho9))
     go_ret2
     exact⟨_,rr_,kr_ HO315.out,bw HB.out⟩
    rw[if_neg c7] at H
    have c7b0:=decide_eq_false c7
    clear c7
    obtain⟨y316,hy316⟩:∃ y_:List Int,y_=(([a0]:List Int)):=⟨_,rfl⟩
    replace H:(some (y316,127))=some (r1,r2):=by first|(rw[hy316];with_reducible exact H)|(have H2_:=(Option.bind_some _ _).symm.trans H;rw[hy316];with_reducible exact H2_)|(have H2_:=(Option.bind_some _ _).symm.trans H;with_reducible exact H2_)|with_reducible exact H|(rw[hy316];exact H)|exact H
    have Ny316:=A_ hy316
    clear hy316
    simp only[Option.some.injEq,Prod.mk.injEq] at H
    obtain⟨rfl,rfl⟩:=H
    go_wp2_with (first|((with_reducible refine gd_ 25 rfl ?_);refine Kd.R_lit (Kd.int .i64) _ 3 ?hg (N:=25) ?hd (xs:=([a0]:List Int)) (inner:=[.int .i64 a0]) (ok:=fun _=>True) (okp:=fun _=>True) ?hr ?hp (fun _ hk=>hk) trivial (Below.refl _ _) (Nat.le_refl _) (by simp) ?_;(case hd=>rfl);(case hg=>rfl);(case hr=>first|(go_simp;done)|(go_simp;rfl));(case hp=>exact(Reps.one (show Kd.M (Kd.int .i64) _ _ _ a0 [.int .i64 a0] from rfl) (Reps.none _ _)));intro v317 w10 ho11 hb hg_ hnew_;clear hg_ hnew_;(first|rw[←Ny316.out] at ho11|(simp only[Int.reduceToNat] at ho11;rw[←Ny316.out] at ho11));have HO318:=A_ (Kd.R_lower ho11 (below_size (bw HB.out)));replace HB:=bs_ HB hb;clear hb ho11))
    go_ret2
    exact⟨_,rr_,kr_ HO318.out,bw HB.out⟩
   replace c6:=Bool.eq_false_iff.mpr c6
   subst c6
   replace H:=iF_ H
   by_cases c12:a1≤21
   ·
    rw[if_pos c12] at H
    have c12b0:=decide_eq_true c12
    clear c12
    obtain⟨y319,hy319⟩:∃ y_:List Int,y_=(([a0,a0]:List Int)):=⟨_,rfl⟩
    replace H:(some (y319,a0))=some (r1,r2):=by first|(rw[hy319];with_reducible exact H)|(have H2_:=(Option.bind_some _ _).symm.trans H;rw[hy319];with_reducible exact H2_)|(have H2_:=(Option.bind_some _ _).symm.trans H;with_reducible exact H2_)|with_reducible exact H|(rw[hy319];exact H)|exact H
    have Ny319:=A_ hy319
    clear hy319
    simp only[Option.some.injEq,Prod.mk.injEq] at H
    obtain⟨rfl,rfl⟩:=H
    go_wp2_with (first|((with_reducible refine gd_ 22 rfl ?_);refine Kd.R_lit (Kd.int .i64) _ 3 ?hg (N:=22) ?hd (xs:=([a0,a0]:List Int)) (inner:=[.int .i64 a0,.int .i64 a0]) (ok:=fun _=>True) (okp:=fun _=>True) ?hr ?hp (fun _ hk=>hk) trivial (Below.refl _ _) (Nat.le_refl _) (by simp) ?_;(case hd=>rfl);(case hg=>rfl);(case hr=>first|(go_simp;done)|(go_simp;rfl));(case hp=>exact(Reps.one (show Kd.M (Kd.int .i64) _ _ _ a0 [.int .i64 a0] from rfl) (Reps.one (show Kd.M (Kd.int .i64) _ _ _ a0 [.int .i64 a0] from rfl) (Reps.none _ _))));intro v320 w13 ho14 hb hg_ hnew_;clear hg_ hnew_;(first|rw[←Ny319.out] at ho14|(simp only[Int.reduceToNat] at ho14;rw[←Ny319.out] at ho14));have HO321:=A_ (Kd.R_lower ho14 (below_size (bw HB.out)));replace HB:=bs_ HB hb;clear hb ho14))
    go_ret2
    exact⟨_,rr_,kr_ HO321.out,bw HB.out⟩
   rw[if_neg c12] at H
   have c12b0:=decide_eq_false c12
   clear c12
   obtain⟨y322,hy322⟩:∃ y_:List Int,y_=(([a0]:List Int)):=⟨_,rfl⟩
   replace H:(some (y322,a0))=some (r1,r2):=by first|(rw[hy322];with_reducible exact H)|(have H2_:=(Option.bind_some _ _).symm.trans H;rw[hy322];with_reducible exact H2_)|(have H2_:=(Option.bind_some _ _).symm.trans H;with_reducible exact H2_)|with_reducible exact H|(rw[hy322];exact H)|exact H
   have Ny322:=A_ hy322
   clear hy322
   simp only[Option.some.injEq,Prod.mk.injEq] at H
   obtain⟨rfl,rfl⟩:=H
   go_wp2_with (first|((with_reducible refine gd_ 25 rfl ?_);refine Kd.R_lit (Kd.int .i64) _ 3 ?hg (N:=25) ?hd (xs:=([a0]:List Int)) (inner:=[.int .i64 a0]) (ok:=fun _=>True) (okp:=fun _=>True) ?hr ?hp (fun _ hk=>hk) trivial (Below.refl _ _) (Nat.le_refl _) (by simp) ?_;(case hd=>rfl);(case hg=>rfl);(case hr=>first|(go_simp;done)|(go_simp;rfl));(case hp=>exact(Reps.one (show Kd.M (Kd.int .i64) _ _ _ a0 [.int .i64 a0] from rfl) (Reps.none _ _)));intro v323 w15 ho16 hb hg_ hnew_;clear hg_ hnew_;(first|rw[←Ny322.out] at ho16|(simp only[Int.reduceToNat] at ho16;rw[←Ny322.out] at ho16));have HO324:=A_ (Kd.R_lower ho16 (below_size (bw HB.out)));replace HB:=bs_ HB hb;clear hb ho16))
   go_ret2
   exact⟨_,rr_,kr_ HO324.out,bw HB.out⟩

/-! ### impl_row: function 60 -/
mutual
def impl_row.j0:Nat→Int→Int→Bool→Option (List Int × Int)
 |0,_,_,_=>none
 |k+1,x0,x4,x5=>if x5=true then (some ((([127]:List Int)),127)) else (if x4=41 then (impl_row.j1 k x0 x4 (x4==41)) else (if x4=177 then (impl_row.j1 k x0 x4 (x4==177)) else (impl_row.j1 k x0 x4 (x4==178))))
def impl_row.j1:Nat→Int→Int→Bool→Option (List Int × Int)
 |0,_,_,_=>none
 |k+1,x0,x4,x9=>if x9=true then (some ((([127]:List Int)),126)) else (if x4=54 then (some ((([127,127]:List Int)),64)) else (if x4=55 then (some ((([127,126]:List Int)),64)) else (if x4=63 then (impl_row.j2 k x0 x4 (x4==63)) else (impl_row.j2 k x0 x4 (x4==65)))))
def impl_row.j2:Nat→Int→Int→Bool→Option (List Int × Int)
 |0,_,_,_=>none
 |k+1,x0,x4,x20=>if x20=true then (some (([]:List Int),127)) else (if x4=66 then (some (([]:List Int),126)) else (if x4=67 then (some (([]:List Int),125)) else (if x4=176 then (some ((([126]:List Int)),127)) else (if x4=179 then (some ((([127]:List Int)),125)) else (if x4=180 then (some ((([125]:List Int)),127)) else (if x0 > 160 then (impl_row.j3 k x0 (decide (x0≤169))) else (impl_row.j3 k x0 false)))))))
def impl_row.j3:Nat→Int→Bool→Option (List Int × Int)
 |0,_,_=>none
 |k+1,x0,x36=>if x36=true then ((impl_floatRow.f (wrap64 (x0 - 160))).bind fun bt346=>(some (bt346.1,bt346.2))) else (if x0 > 128 then (impl_row.j4 k x0 (decide (x0≤155))) else (impl_row.j4 k x0 false))
def impl_row.j4:Nat→Int→Bool→Option (List Int × Int)
 |0,_,_=>none
 |k+1,x0,x48=>if x48=true then ((impl_intRow.f k 126 (wrap64 (x0 - 128))).bind fun bt350=>(some (bt350.1,bt350.2))) else (if x0 > 96 then (if x0≤123 then ((impl_intRow.f k 127 (wrap64 (x0 - 96))).bind fun bt354=>(some (bt354.1,bt354.2))) else (some (([]:List Int),64))) else (some (([]:List Int),64)))
end
def impl_row.f (k:Nat) (a0:Int):Option (List Int × Int):=if a0=40 then (impl_row.j0 k a0 a0 (a0==40)) else (impl_row.j0 k a0 a0 (a0==64))
theorem impl_row.mono_l:∀ k,(∀ y0 y1 y2,LeO (impl_row.j0 k y0 y1 y2) (impl_row.j0 (k+1) y0 y1 y2))∧(∀ y0 y1 y2,LeO (impl_row.j1 k y0 y1 y2) (impl_row.j1 (k+1) y0 y1 y2))∧(∀ y0 y1 y2,LeO (impl_row.j2 k y0 y1 y2) (impl_row.j2 (k+1) y0 y1 y2))∧(∀ y0 y1,LeO (impl_row.j3 k y0 y1) (impl_row.j3 (k+1) y0 y1))∧(∀ y0 y1,LeO (impl_row.j4 k y0 y1) (impl_row.j4 (k+1) y0 y1))
 |0=>⟨fun _ _ _ r h=>by simp[impl_row.j0] at h,fun _ _ _ r h=>by simp[impl_row.j1] at h,fun _ _ _ r h=>by simp[impl_row.j2] at h,fun _ _ r h=>by simp[impl_row.j3] at h,fun _ _ r h=>by simp[impl_row.j4] at h⟩
 |k+1=>by
  obtain⟨ih0,ih1,ih2,ih3,ih4⟩:=impl_row.mono_l k
  refine⟨?_,?_,?_,?_,?_⟩
  ·
   intro y0 y1 y2
   unfold impl_row.j0
   repeat' first
   |(with_reducible exact ih0 _ _ _)
   |(with_reducible exact ih1 _ _ _)
   |(with_reducible exact ih2 _ _ _)
   |(with_reducible exact ih3 _ _)
   |(with_reducible exact ih4 _ _)
   |(with_reducible exact impl_intRow.mono _ _ _)
   |(with_reducible exact LeO.refl _)
   |(with_reducible exact LeO.none _)
   |(with_reducible refine LeO.ite ?_ ?_)
   |(with_reducible refine LeO.bind ?_ (fun _=>?_))
   |exact ih0 _ _ _
   |exact ih1 _ _ _
   |exact ih2 _ _ _
   |exact ih3 _ _
   |exact ih4 _ _
   |exact impl_intRow.mono _ _ _
   |exact LeO.none _
   |refine LeO.ite ?_ ?_
   |refine LeO.bind ?_ (fun _=>?_)
  ·
   intro y0 y1 y2
   unfold impl_row.j1
   repeat' first
   |(with_reducible exact ih0 _ _ _)
   |(with_reducible exact ih1 _ _ _)
   |(with_reducible exact ih2 _ _ _)
   |(with_reducible exact ih3 _ _)
   |(with_reducible exact ih4 _ _)
   |(with_reducible exact impl_intRow.mono _ _ _)
   |(with_reducible exact LeO.refl _)
   |(with_reducible exact LeO.none _)
   |(with_reducible refine LeO.ite ?_ ?_)
   |(with_reducible refine LeO.bind ?_ (fun _=>?_))
   |exact ih0 _ _ _
   |exact ih1 _ _ _
   |exact ih2 _ _ _
   |exact ih3 _ _
   |exact ih4 _ _
   |exact impl_intRow.mono _ _ _
   |exact LeO.none _
   |refine LeO.ite ?_ ?_
   |refine LeO.bind ?_ (fun _=>?_)
  ·
   intro y0 y1 y2
   unfold impl_row.j2
   repeat' first
   |(with_reducible exact ih0 _ _ _)
   |(with_reducible exact ih1 _ _ _)
   |(with_reducible exact ih2 _ _ _)
   |(with_reducible exact ih3 _ _)
   |(with_reducible exact ih4 _ _)
   |(with_reducible exact impl_intRow.mono _ _ _)
   |(with_reducible exact LeO.refl _)
   |(with_reducible exact LeO.none _)
   |(with_reducible refine LeO.ite ?_ ?_)
   |(with_reducible refine LeO.bind ?_ (fun _=>?_))
   |exact ih0 _ _ _
   |exact ih1 _ _ _
   |exact ih2 _ _ _
   |exact ih3 _ _
   |exact ih4 _ _
   |exact impl_intRow.mono _ _ _
   |exact LeO.none _
   |refine LeO.ite ?_ ?_
   |refine LeO.bind ?_ (fun _=>?_)
  ·
   intro y0 y1
   unfold impl_row.j3
   repeat' first
   |(with_reducible exact ih0 _ _ _)
   |(with_reducible exact ih1 _ _ _)
   |(with_reducible exact ih2 _ _ _)
   |(with_reducible exact ih3 _ _)
   |(with_reducible exact ih4 _ _)
   |(with_reducible exact impl_intRow.mono _ _ _)
   |(with_reducible exact LeO.refl _)
   |(with_reducible exact LeO.none _)
   |(with_reducible refine LeO.ite ?_ ?_)
   |(with_reducible refine LeO.bind ?_ (fun _=>?_))
   |exact ih0 _ _ _
   |exact ih1 _ _ _
   |exact ih2 _ _ _
   |exact ih3 _ _
   |exact ih4 _ _
   |exact impl_intRow.mono _ _ _
   |exact LeO.none _
   |refine LeO.ite ?_ ?_
   |refine LeO.bind ?_ (fun _=>?_)
  intro y0 y1
  unfold impl_row.j4
  repeat' first
  |(with_reducible exact ih0 _ _ _)
  |(with_reducible exact ih1 _ _ _)
  |(with_reducible exact ih2 _ _ _)
  |(with_reducible exact ih3 _ _)
  |(with_reducible exact ih4 _ _)
  |(with_reducible exact impl_intRow.mono _ _ _)
  |(with_reducible exact LeO.refl _)
  |(with_reducible exact LeO.none _)
  |(with_reducible refine LeO.ite ?_ ?_)
  |(with_reducible refine LeO.bind ?_ (fun _=>?_))
  |exact ih0 _ _ _
  |exact ih1 _ _ _
  |exact ih2 _ _ _
  |exact ih3 _ _
  |exact ih4 _ _
  |exact impl_intRow.mono _ _ _
  |exact LeO.none _
  |refine LeO.ite ?_ ?_
  |refine LeO.bind ?_ (fun _=>?_)
theorem impl_row.mono:∀ a0 k,LeO (impl_row.f k a0) (impl_row.f (k+1) a0):=by
 intro a0 k
 obtain⟨ih0,ih1,ih2,ih3,ih4⟩:=impl_row.mono_l k
 unfold impl_row.f
 repeat' first
   |(with_reducible exact ih0 _ _ _)
   |(with_reducible exact ih1 _ _ _)
   |(with_reducible exact ih2 _ _ _)
   |(with_reducible exact ih3 _ _)
   |(with_reducible exact ih4 _ _)
   |(with_reducible exact impl_intRow.mono _ _ _)
   |(with_reducible exact LeO.refl _)
   |(with_reducible exact LeO.none _)
   |(with_reducible refine LeO.ite ?_ ?_)
   |(with_reducible refine LeO.bind ?_ (fun _=>?_))
   |exact ih0 _ _ _
   |exact ih1 _ _ _
   |exact ih2 _ _ _
   |exact ih3 _ _
   |exact ih4 _ _
   |exact impl_intRow.mono _ _ _
   |exact LeO.none _
   |refine LeO.ite ?_ ?_
   |refine LeO.bind ?_ (fun _=>?_)
theorem impl_row.calls (k:Nat) (a0:Int) (r1:List Int) (r2:Int) (w:World) (h:impl_row.f k a0=some (r1,r2)):
  Calls Try.prog 60 #[.int .i64 a0] w fun e w'=>∃ v0_:Value,e=.returned (.tuple #[v0_,.int .i64 r2])∧Kd.R (Kd.int .i64) 3 w' w.heap.size (fun _=>True) v0_ r1∧Below w.heap.size w w':=by
 have HB:=A_ (Below.refl w.heap.size w)
 have H:(if a0=40 then (impl_row.j0 k a0 a0 (a0==40)) else (impl_row.j0 k a0 a0 (a0==64)))=some (r1,r2):=h
 clear h
 have HC2:=A_ H
 clear H
 go_enter Try.func60,Try.ntmps60
 go_upto_if 5 with (fail)
 go_cut [5] (fun v5 wc=>∃ (kq:Nat) (x5_1:Bool),v5=.bool x5_1∧Aside0 (impl_row.j0 kq a0 a0 x5_1=some (r1,r2))∧Aside0 (kq≤k)∧Aside0 (Below w.heap.size w wc))
 case first=>
  have H:=HC2.out
  clear HC2
  by_cases c3:a0=40
  ·
   rw[if_pos c3] at H
   obtain⟨c3b0,c3b1⟩:=eT_ c3
   clear c3
   (first|rw[c3b0]|(simp only[i64_w,i32_w];rw[c3b0])|skip)
   have H':=A_ H
   clear H
   go_wp2
   go_meet
   case rel=>exact⟨_,((a0==40)),rs_,H',⟨by first|omega|exact Nat.le_refl _⟩,⟨bw HB.out⟩⟩
  rw[if_neg c3] at H
  obtain⟨c3b0,c3b1⟩:=eF_ c3
  (first|rw[c3b0]|(simp only[i64_w,i32_w];rw[c3b0])|skip)
  have H':=A_ H
  clear H
  go_wp2
  go_meet
  case rel=>exact⟨_,((a0==64)),rs_,H',⟨by first|omega|exact Nat.le_refl _⟩,⟨bw HB.out⟩⟩
 case rest=>
  clear HC2
  obtain⟨kq,x5_1,rfl,HA,HJ1,HB⟩:=hcut
  cases kq with
  |zero=>exact absurd HA.out (by simp[impl_row.j0])
  |succ kj1=>
   have H:=HA.out
   clear HA
   simp only[impl_row.j0] at H
   by_cases c4:x5_1=true
   ·
    subst c4
    replace H:=iT_ H
    obtain⟨y325,hy325⟩:∃ y_:List Int,y_=(([127]:List Int)):=⟨_,rfl⟩
    replace H:(some (y325,127))=some (r1,r2):=by first|(rw[hy325];with_reducible exact H)|(have H2_:=(Option.bind_some _ _).symm.trans H;rw[hy325];with_reducible exact H2_)|(have H2_:=(Option.bind_some _ _).symm.trans H;with_reducible exact H2_)|with_reducible exact H|(rw[hy325];exact H)|exact H
    have Ny325:=A_ hy325
    clear hy325
    simp only[Option.some.injEq,Prod.mk.injEq] at H
    obtain⟨rfl,rfl⟩:=H
    go_wp2_with (first|((with_reducible refine gd_ 8 rfl ?_);refine Kd.R_lit (Kd.int .i64) _ 3 ?hg (N:=8) ?hd (xs:=([127]:List Int)) (inner:=[.int .i64 127]) (ok:=fun _=>True) (okp:=fun _=>True) ?hr ?hp (fun _ hk=>hk) trivial (Below.refl _ _) (Nat.le_refl _) (by simp) ?_;(case hd=>rfl);(case hg=>rfl);(case hr=>first|(go_simp;done)|(go_simp;rfl));(case hp=>exact(Reps.one (show Kd.M (Kd.int .i64) _ _ _ 127 [.int .i64 127] from rfl) (Reps.none _ _)));intro v326 w5 ho6 hb hg_ hnew_;clear hg_ hnew_;(first|rw[←Ny325.out] at ho6|(simp only[Int.reduceToNat] at ho6;rw[←Ny325.out] at ho6));have HO327:=A_ (Kd.R_lower ho6 (below_size (bw HB.out)));replace HB:=bs_ HB hb;clear hb ho6))
    go_ret2
    exact⟨_,rr_,kr_ HO327.out,bw HB.out⟩
   replace c4:=Bool.eq_false_iff.mpr c4
   subst c4
   replace H:=iF_ H
   have HC7:=A_ H
   clear H
   go_upto_if 9 with (fail)
   go_cut [9] (fun v9 wc=>∃ (kq:Nat) (x9_6:Bool),v9=.bool x9_6∧Aside0 (impl_row.j1 kq a0 a0 x9_6=some (r1,r2))∧Aside0 (kq≤kj1)∧Aside0 (Below w.heap.size w wc))
   case first=>
    have H:=HC7.out
    clear HC7
    by_cases c8:a0=41
    ·
     rw[if_pos c8] at H
     obtain⟨c8b0,c8b1⟩:=eT_ c8
     clear c8
     (first|rw[c8b0]|(simp only[i64_w,i32_w];rw[c8b0])|skip)
     have H':=A_ H
     clear H
     go_wp2
     go_meet
     case rel=>exact⟨_,((a0==41)),rs_,H',⟨by have:=HJ1.out;first|omega|exact Nat.le_refl _⟩,⟨bw HB.out⟩⟩
    rw[if_neg c8] at H
    obtain⟨c8b0,c8b1⟩:=eF_ c8
    (first|rw[c8b0]|(simp only[i64_w,i32_w];rw[c8b0])|skip)
    by_cases c9:a0=177
    ·
     rw[if_pos c9] at H
     obtain⟨c9b0,c9b1⟩:=eT_ c9
     clear c9
     have H':=A_ H
     clear H
     go_wp2
     go_meet
     case rel=>exact⟨_,((a0==177)),rs_,H',⟨by have:=HJ1.out;first|omega|exact Nat.le_refl _⟩,⟨bw HB.out⟩⟩
    rw[if_neg c9] at H
    obtain⟨c9b0,c9b1⟩:=eF_ c9
    have H':=A_ H
    clear H
    go_wp2
    go_meet
    case rel=>exact⟨_,((a0==178)),rs_,H',⟨by have:=HJ1.out;first|omega|exact Nat.le_refl _⟩,⟨bw HB.out⟩⟩
   case rest=>
    clear HC7
    try clear c4
    obtain⟨kq,x9_6,rfl,HA,HJ6,HB⟩:=hcut
    cases kq with
    |zero=>exact absurd HA.out (by simp[impl_row.j1])
    |succ kj6=>
     have H:=HA.out
     clear HA
     simp only[impl_row.j1] at H
     by_cases c10:x9_6=true
     ·
      subst c10
      replace H:=iT_ H
      obtain⟨y328,hy328⟩:∃ y_:List Int,y_=(([127]:List Int)):=⟨_,rfl⟩
      replace H:(some (y328,126))=some (r1,r2):=by first|(rw[hy328];with_reducible exact H)|(have H2_:=(Option.bind_some _ _).symm.trans H;rw[hy328];with_reducible exact H2_)|(have H2_:=(Option.bind_some _ _).symm.trans H;with_reducible exact H2_)|with_reducible exact H|(rw[hy328];exact H)|exact H
      have Ny328:=A_ hy328
      clear hy328
      simp only[Option.some.injEq,Prod.mk.injEq] at H
      obtain⟨rfl,rfl⟩:=H
      go_wp2_with (first|((with_reducible refine gd_ 13 rfl ?_);refine Kd.R_lit (Kd.int .i64) _ 3 ?hg (N:=13) ?hd (xs:=([127]:List Int)) (inner:=[.int .i64 127]) (ok:=fun _=>True) (okp:=fun _=>True) ?hr ?hp (fun _ hk=>hk) trivial (Below.refl _ _) (Nat.le_refl _) (by simp) ?_;(case hd=>rfl);(case hg=>rfl);(case hr=>first|(go_simp;done)|(go_simp;rfl));(case hp=>exact(Reps.one (show Kd.M (Kd.int .i64) _ _ _ 127 [.int .i64 127] from rfl) (Reps.none _ _)));intro v329 w11 ho12 hb hg_ hnew_;clear hg_ hnew_;(first|rw[←Ny328.out] at ho12|(simp only[Int.reduceToNat] at ho12;rw[←Ny328.out] at ho12));have HO330:=A_ (Kd.R_lower ho12 (below_size (bw HB.out)));replace HB:=bs_ HB hb;clear hb ho12))
      go_ret2
      exact⟨_,rr_,kr_ HO330.out,bw HB.out⟩
     replace c10:=Bool.eq_false_iff.mpr c10
     subst c10
     replace H:=iF_ H
     by_cases c13:a0=54
     ·
      rw[if_pos c13] at H
      obtain⟨c13b0,c13b1⟩:=eT_ c13
      clear c13
      obtain⟨y331,hy331⟩:∃ y_:List Int,y_=(([127,127]:List Int)):=⟨_,rfl⟩
      replace H:(some (y331,64))=some (r1,r2):=by first|(rw[hy331];with_reducible exact H)|(have H2_:=(Option.bind_some _ _).symm.trans H;rw[hy331];with_reducible exact H2_)|(have H2_:=(Option.bind_some _ _).symm.trans H;with_reducible exact H2_)|with_reducible exact H|(rw[hy331];exact H)|exact H
      have Ny331:=A_ hy331
      clear hy331
      simp only[Option.some.injEq,Prod.mk.injEq] at H
      obtain⟨rfl,rfl⟩:=H
      go_wp2_with (first|((with_reducible refine gd_ 16 rfl ?_);refine Kd.R_lit (Kd.int .i64) _ 3 ?hg (N:=16) ?hd (xs:=([127,127]:List Int)) (inner:=[.int .i64 127,.int .i64 127]) (ok:=fun _=>True) (okp:=fun _=>True) ?hr ?hp (fun _ hk=>hk) trivial (Below.refl _ _) (Nat.le_refl _) (by simp) ?_;(case hd=>rfl);(case hg=>rfl);(case hr=>first|(go_simp;done)|(go_simp;rfl));(case hp=>exact(Reps.one (show Kd.M (Kd.int .i64) _ _ _ 127 [.int .i64 127] from rfl) (Reps.one (show Kd.M (Kd.int .i64) _ _ _ 127 [.int .i64 127] from rfl) (Reps.none _ _))));intro v332 w14 ho15 hb hg_ hnew_;clear hg_ hnew_;(first|rw[←Ny331.out] at ho15|(simp only[Int.reduceToNat] at ho15;rw[←Ny331.out] at ho15));have HO333:=A_ (Kd.R_lower ho15 (below_size (bw HB.out)));replace HB:=bs_ HB hb;clear hb ho15))
      go_ret2
      exact⟨_,rr_,kr_ HO333.out,bw HB.out⟩
     rw[if_neg c13] at H
     obtain⟨c13b0,c13b1⟩:=eF_ c13
     by_cases c16:a0=55
     ·
      rw[if_pos c16] at H
      obtain⟨c16b0,c16b1⟩:=eT_ c16
      clear c16
      obtain⟨y334,hy334⟩:∃ y_:List Int,y_=(([127,126]:List Int)):=⟨_,rfl⟩
      replace H:(some (y334,64))=some (r1,r2):=by first|(rw[hy334];with_reducible exact H)|(have H2_:=(Option.bind_some _ _).symm.trans H;rw[hy334];with_reducible exact H2_)|(have H2_:=(Option.bind_some _ _).symm.trans H;with_reducible exact H2_)|with_reducible exact H|(rw[hy334];exact H)|exact H
      have Ny334:=A_ hy334
      clear hy334
      simp only[Option.some.injEq,Prod.mk.injEq] at H
      obtain⟨rfl,rfl⟩:=H
      go_wp2_with (first|((with_reducible refine gd_ 19 rfl ?_);refine Kd.R_lit (Kd.int .i64) _ 3 ?hg (N:=19) ?hd (xs:=([127,126]:List Int)) (inner:=[.int .i64 127,.int .i64 126]) (ok:=fun _=>True) (okp:=fun _=>True) ?hr ?hp (fun _ hk=>hk) trivial (Below.refl _ _) (Nat.le_refl _) (by simp) ?_;(case hd=>rfl);(case hg=>rfl);(case hr=>first|(go_simp;done)|(go_simp;rfl));(case hp=>exact(Reps.one (show Kd.M (Kd.int .i64) _ _ _ 127 [.int .i64 127] from rfl) (Reps.one (show Kd.M (Kd.int .i64) _ _ _ 126 [.int .i64 126] from rfl) (Reps.none _ _))));intro v335 w17 ho18 hb hg_ hnew_;clear hg_ hnew_;(first|rw[←Ny334.out] at ho18|(simp only[Int.reduceToNat] at ho18;rw[←Ny334.out] at ho18));have HO336:=A_ (Kd.R_lower ho18 (below_size (bw HB.out)));replace HB:=bs_ HB hb;clear hb ho18))
      go_ret2
      exact⟨_,rr_,kr_ HO336.out,bw HB.out⟩
     rw[if_neg c16] at H
     obtain⟨c16b0,c16b1⟩:=eF_ c16
     have HC19:=A_ H
     clear H
     go_upto_if 20 with (fail)
     go_cut [20] (fun v20 wc=>∃ (kq:Nat) (x20_18:Bool),v20=.bool x20_18∧Aside0 (impl_row.j2 kq a0 a0 x20_18=some (r1,r2))∧Aside0 (kq≤kj6)∧Aside0 (Below w.heap.size w wc))
     case first=>
      have H:=HC19.out
      clear HC19
      by_cases c20:a0=63
      ·
       rw[if_pos c20] at H
       obtain⟨c20b0,c20b1⟩:=eT_ c20
       clear c20
       (first|rw[c20b0]|(simp only[i64_w,i32_w];rw[c20b0])|skip)
       have H':=A_ H
       clear H
       go_wp2
       go_meet
       case rel=>exact⟨_,((a0==63)),rs_,H',⟨by have:=HJ1.out;have:=HJ6.out;first|omega|exact Nat.le_refl _⟩,⟨bw HB.out⟩⟩
      rw[if_neg c20] at H
      obtain⟨c20b0,c20b1⟩:=eF_ c20
      (first|rw[c20b0]|(simp only[i64_w,i32_w];rw[c20b0])|skip)
      have H':=A_ H
      clear H
      go_wp2
      go_meet
      case rel=>exact⟨_,((a0==65)),rs_,H',⟨by have:=HJ1.out;have:=HJ6.out;first|omega|exact Nat.le_refl _⟩,⟨bw HB.out⟩⟩
     case rest=>
      clear HC19
      try clear c4 c10 c13 c13b0 c13b1 c16 c16b0 c16b1
      obtain⟨kq,x20_18,rfl,HA,HJ18,HB⟩:=hcut
      cases kq with
      |zero=>exact absurd HA.out (by simp[impl_row.j2])
      |succ kj18=>
       have H:=HA.out
       clear HA
       simp only[impl_row.j2] at H
       by_cases c21:x20_18=true
       ·
        subst c21
        replace H:=iT_ H
        simp only[Option.some.injEq,Prod.mk.injEq] at H
        obtain⟨rfl,rfl⟩:=H
        go_wp2
        go_ret2
        exact⟨_,rr_,by first|exact Kd.R_nil _ _ _ _ _|exact Kd.N_nil _ _ _ _ _|exact Kd.V_nil _ _ _ _ _|exact Kd.Q_nil _ _ _ _ _|exact Kd.S_nil _ _ _ _ _,bw HB.out⟩
       replace c21:=Bool.eq_false_iff.mpr c21
       subst c21
       replace H:=iF_ H
       by_cases c22:a0=66
       ·
        rw[if_pos c22] at H
        obtain⟨c22b0,c22b1⟩:=eT_ c22
        clear c22
        simp only[Option.some.injEq,Prod.mk.injEq] at H
        obtain⟨rfl,rfl⟩:=H
        go_wp2
        go_ret2
        exact⟨_,rr_,by first|exact Kd.R_nil _ _ _ _ _|exact Kd.N_nil _ _ _ _ _|exact Kd.V_nil _ _ _ _ _|exact Kd.Q_nil _ _ _ _ _|exact Kd.S_nil _ _ _ _ _,bw HB.out⟩
       rw[if_neg c22] at H
       obtain⟨c22b0,c22b1⟩:=eF_ c22
       by_cases c23:a0=67
       ·
        rw[if_pos c23] at H
        obtain⟨c23b0,c23b1⟩:=eT_ c23
        clear c23
        simp only[Option.some.injEq,Prod.mk.injEq] at H
        obtain⟨rfl,rfl⟩:=H
        go_wp2
        go_ret2
        exact⟨_,rr_,by first|exact Kd.R_nil _ _ _ _ _|exact Kd.N_nil _ _ _ _ _|exact Kd.V_nil _ _ _ _ _|exact Kd.Q_nil _ _ _ _ _|exact Kd.S_nil _ _ _ _ _,bw HB.out⟩
       rw[if_neg c23] at H
       obtain⟨c23b0,c23b1⟩:=eF_ c23
       by_cases c24:a0=176
       ·
        rw[if_pos c24] at H
        obtain⟨c24b0,c24b1⟩:=eT_ c24
        clear c24
        obtain⟨y337,hy337⟩:∃ y_:List Int,y_=(([126]:List Int)):=⟨_,rfl⟩
        replace H:(some (y337,127))=some (r1,r2):=by first|(rw[hy337];with_reducible exact H)|(have H2_:=(Option.bind_some _ _).symm.trans H;rw[hy337];with_reducible exact H2_)|(have H2_:=(Option.bind_some _ _).symm.trans H;with_reducible exact H2_)|with_reducible exact H|(rw[hy337];exact H)|exact H
        have Ny337:=A_ hy337
        clear hy337
        simp only[Option.some.injEq,Prod.mk.injEq] at H
        obtain⟨rfl,rfl⟩:=H
        go_wp2_with (first|((with_reducible refine gd_ 29 rfl ?_);refine Kd.R_lit (Kd.int .i64) _ 3 ?hg (N:=29) ?hd (xs:=([126]:List Int)) (inner:=[.int .i64 126]) (ok:=fun _=>True) (okp:=fun _=>True) ?hr ?hp (fun _ hk=>hk) trivial (Below.refl _ _) (Nat.le_refl _) (by simp) ?_;(case hd=>rfl);(case hg=>rfl);(case hr=>first|(go_simp;done)|(go_simp;rfl));(case hp=>exact(Reps.one (show Kd.M (Kd.int .i64) _ _ _ 126 [.int .i64 126] from rfl) (Reps.none _ _)));intro v338 w25 ho26 hb hg_ hnew_;clear hg_ hnew_;(first|rw[←Ny337.out] at ho26|(simp only[Int.reduceToNat] at ho26;rw[←Ny337.out] at ho26));have HO339:=A_ (Kd.R_lower ho26 (below_size (bw HB.out)));replace HB:=bs_ HB hb;clear hb ho26))
        go_ret2
        exact⟨_,rr_,kr_ HO339.out,bw HB.out⟩
       rw[if_neg c24] at H
       obtain⟨c24b0,c24b1⟩:=eF_ c24
       by_cases c27:a0=179
       ·
        rw[if_pos c27] at H
        obtain⟨c27b0,c27b1⟩:=eT_ c27
        clear c27
        obtain⟨y340,hy340⟩:∃ y_:List Int,y_=(([127]:List Int)):=⟨_,rfl⟩
        replace H:(some (y340,125))=some (r1,r2):=by first|(rw[hy340];with_reducible exact H)|(have H2_:=(Option.bind_some _ _).symm.trans H;rw[hy340];with_reducible exact H2_)|(have H2_:=(Option.bind_some _ _).symm.trans H;with_reducible exact H2_)|with_reducible exact H|(rw[hy340];exact H)|exact H
        have Ny340:=A_ hy340
        clear hy340
        simp only[Option.some.injEq,Prod.mk.injEq] at H
        obtain⟨rfl,rfl⟩:=H
        go_wp2_with (first|((with_reducible refine gd_ 32 rfl ?_);refine Kd.R_lit (Kd.int .i64) _ 3 ?hg (N:=32) ?hd (xs:=([127]:List Int)) (inner:=[.int .i64 127]) (ok:=fun _=>True) (okp:=fun _=>True) ?hr ?hp (fun _ hk=>hk) trivial (Below.refl _ _) (Nat.le_refl _) (by simp) ?_;(case hd=>rfl);(case hg=>rfl);(case hr=>first|(go_simp;done)|(go_simp;rfl));(case hp=>exact(Reps.one (show Kd.M (Kd.int .i64) _ _ _ 127 [.int .i64 127] from rfl) (Reps.none _ _)));intro v341 w28 ho29 hb hg_ hnew_;clear hg_ hnew_;(first|rw[←Ny340.out] at ho29|(simp only[Int.reduceToNat] at ho29;rw[←Ny340.out] at ho29));have HO342:=A_ (Kd.R_lower ho29 (below_size (bw HB.out)));replace HB:=bs_ HB hb;clear hb ho29))
        go_ret2
        exact⟨_,rr_,kr_ HO342.out,bw HB.out⟩
       rw[if_neg c27] at H
       obtain⟨c27b0,c27b1⟩:=eF_ c27
       by_cases c30:a0=180
       ·
        rw[if_pos c30] at H
        obtain⟨c30b0,c30b1⟩:=eT_ c30
        clear c30
        obtain⟨y343,hy343⟩:∃ y_:List Int,y_=(([125]:List Int)):=⟨_,rfl⟩
        replace H:(some (y343,127))=some (r1,r2):=by first|(rw[hy343];with_reducible exact H)|(have H2_:=(Option.bind_some _ _).symm.trans H;rw[hy343];with_reducible exact H2_)|(have H2_:=(Option.bind_some _ _).symm.trans H;with_reducible exact H2_)|with_reducible exact H|(rw[hy343];exact H)|exact H
        have Ny343:=A_ hy343
        clear hy343
        simp only[Option.some.injEq,Prod.mk.injEq] at H
        obtain⟨rfl,rfl⟩:=H
        go_wp2_with (first|((with_reducible refine gd_ 35 rfl ?_);refine Kd.R_lit (Kd.int .i64) _ 3 ?hg (N:=35) ?hd (xs:=([125]:List Int)) (inner:=[.int .i64 125]) (ok:=fun _=>True) (okp:=fun _=>True) ?hr ?hp (fun _ hk=>hk) trivial (Below.refl _ _) (Nat.le_refl _) (by simp) ?_;(case hd=>rfl);(case hg=>rfl);(case hr=>first|(go_simp;done)|(go_simp;rfl));(case hp=>exact(Reps.one (show Kd.M (Kd.int .i64) _ _ _ 125 [.int .i64 125] from rfl) (Reps.none _ _)));intro v344 w31 ho32 hb hg_ hnew_;clear hg_ hnew_;(first|rw[←Ny343.out] at ho32|(simp only[Int.reduceToNat] at ho32;rw[←Ny343.out] at ho32));have HO345:=A_ (Kd.R_lower ho32 (below_size (bw HB.out)));replace HB:=bs_ HB hb;clear hb ho32))
        go_ret2
        exact⟨_,rr_,kr_ HO345.out,bw HB.out⟩
       rw[if_neg c30] at H
       obtain⟨c30b0,c30b1⟩:=eF_ c30
       have HC33:=A_ H
       clear H
       go_upto_region 26 with (fail)
       go_cut [36] (fun v36 wc=>∃ (kq:Nat) (x36_32:Bool),v36=.bool x36_32∧Aside0 (impl_row.j3 kq a0 x36_32=some (r1,r2))∧Aside0 (kq≤kj18)∧Aside0 (Below w.heap.size w wc))
       case first=>
        have H:=HC33.out
        clear HC33
        by_cases c34:a0 > 160
        ·
         rw[if_pos c34] at H
         have c34b0:=decide_eq_true c34
         clear c34
         (first|rw[c34b0]|(simp only[i64_w,i32_w];rw[c34b0])|skip)
         have H':=A_ H
         clear H
         go_wp2
         go_meet
         case rel=>exact⟨_,(decide (a0≤169)),rs_,H',⟨by have:=HJ1.out;have:=HJ6.out;have:=HJ18.out;first|omega|exact Nat.le_refl _⟩,⟨bw HB.out⟩⟩
        rw[if_neg c34] at H
        have c34b0:=decide_eq_false c34
        clear c34
        (first|rw[c34b0]|(simp only[i64_w,i32_w];rw[c34b0])|skip)
        have H':=A_ H
        clear H
        go_wp2
        go_meet
        case rel=>exact⟨_,(false),rs_,H',⟨by have:=HJ1.out;have:=HJ6.out;have:=HJ18.out;first|omega|exact Nat.le_refl _⟩,⟨bw HB.out⟩⟩
       case rest=>
        clear HC33
        try clear c4 c10 c13 c13b0 c13b1 c16 c16b0 c16b1 c21 c22 c22b0 c22b1 c23 c23b0 c23b1 c24 c24b0 c24b1 c27 c27b0 c27b1 c30 c30b0 c30b1
        obtain⟨kq,x36_32,rfl,HA,HJ32,HB⟩:=hcut
        cases kq with
        |zero=>exact absurd HA.out (by simp[impl_row.j3])
        |succ kj32=>
         have H:=HA.out
         clear HA
         simp only[impl_row.j3] at H
         by_cases c35:x36_32=true
         ·
          subst c35
          replace H:=iT_ H
          replace H:=Option.bind_eq_some_iff.mp H
          obtain⟨⟨t346,t347⟩,A360,H⟩:=H
          replace H:(some (t346,t347))=some (r1,r2):=H
          have A36:=A_ A360
          clear A360
          simp only[Option.some.injEq,Prod.mk.injEq] at H
          obtain⟨rfl,rfl⟩:=H
          go_wp2_with (first|((with_reducible refine gc_ 77 rfl ?_);refine goesL_ (some 45) rfl rfl Try.func77 (by kernel_rfl) rfl #[.int .i64 (wrap64 (a0 - 160))] rfl ar ?_;(with_reducible refine(impl_floatRow.calls (wrap64 (a0 - 160)) t346 t347 _ A36.out).mono ?_);rintro e w37 ⟨v348,rfl,ho0,hb⟩;refine⟨_,rfl,?_⟩;have HO349:=A_ (Kd.R_lower ho0 (below_size (bw HB.out)));replace HB:=bs_ HB hb;(try clear hb);(try clear hb2);(try clear hk);(try clear hi);(try clear ho0)))
          go_ret2
          exact⟨_,rr_,kr_ HO349.out,bw HB.out⟩
         replace c35:=Bool.eq_false_iff.mpr c35
         subst c35
         replace H:=iF_ H
         have HC38:=A_ H
         clear H
         go_upto_region 28 with (fail)
         go_cut [48] (fun v48 wc=>∃ (kq:Nat) (x48_37:Bool),v48=.bool x48_37∧Aside0 (impl_row.j4 kq a0 x48_37=some (r1,r2))∧Aside0 (kq≤kj32)∧Aside0 (Below w.heap.size w wc))
         case first=>
          have H:=HC38.out
          clear HC38
          by_cases c39:a0 > 128
          ·
           rw[if_pos c39] at H
           have c39b0:=decide_eq_true c39
           clear c39
           (first|rw[c39b0]|(simp only[i64_w,i32_w];rw[c39b0])|skip)
           have H':=A_ H
           clear H
           go_wp2
           go_meet
           case rel=>exact⟨_,(decide (a0≤155)),rs_,H',⟨by have:=HJ1.out;have:=HJ6.out;have:=HJ18.out;have:=HJ32.out;first|omega|exact Nat.le_refl _⟩,⟨bw HB.out⟩⟩
          rw[if_neg c39] at H
          have c39b0:=decide_eq_false c39
          clear c39
          (first|rw[c39b0]|(simp only[i64_w,i32_w];rw[c39b0])|skip)
          have H':=A_ H
          clear H
          go_wp2
          go_meet
          case rel=>exact⟨_,(false),rs_,H',⟨by have:=HJ1.out;have:=HJ6.out;have:=HJ18.out;have:=HJ32.out;first|omega|exact Nat.le_refl _⟩,⟨bw HB.out⟩⟩
         case rest=>
          clear HC38
          try clear c4 c10 c13 c13b0 c13b1 c16 c16b0 c16b1 c21 c22 c22b0 c22b1 c23 c23b0 c23b1 c24 c24b0 c24b1 c27 c27b0 c27b1 c30 c30b0 c30b1 c35
          obtain⟨kq,x48_37,rfl,HA,HJ37,HB⟩:=hcut
          cases kq with
          |zero=>exact absurd HA.out (by simp[impl_row.j4])
          |succ kj37=>
           have H:=HA.out
           clear HA
           simp only[impl_row.j4] at H
           by_cases c40:x48_37=true
           ·
            subst c40
            replace H:=iT_ H
            replace H:=Option.bind_eq_some_iff.mp H
            obtain⟨⟨t350,t351⟩,A410,H⟩:=H
            replace H:(some (t350,t351))=some (r1,r2):=H
            have A41:=A_ A410
            clear A410
            simp only[Option.some.injEq,Prod.mk.injEq] at H
            obtain⟨rfl,rfl⟩:=H
            go_wp2_with (first|((with_reducible refine gc_ 78 rfl ?_);refine goesL_ (some 57) rfl rfl Try.func78 (by kernel_rfl) rfl #[.int .i64 126,.int .i64 (wrap64 (a0 - 128))] rfl ar ?_;(with_reducible refine(impl_intRow.calls kj37 126 (wrap64 (a0 - 128)) t350 t351 _ A41.out).mono ?_);rintro e w42 ⟨v352,rfl,ho0,hb⟩;refine⟨_,rfl,?_⟩;have HO353:=A_ (Kd.R_lower ho0 (below_size (bw HB.out)));replace HB:=bs_ HB hb;(try clear hb);(try clear hb2);(try clear hk);(try clear hi);(try clear ho0)))
            go_ret2
            exact⟨_,rr_,kr_ HO353.out,bw HB.out⟩
           replace c40:=Bool.eq_false_iff.mpr c40
           subst c40
           replace H:=iF_ H
           by_cases c43:a0 > 96
           ·
            rw[if_pos c43] at H
            have c43b0:=decide_eq_true c43
            clear c43
            by_cases c44:a0≤123
            ·
             rw[if_pos c44] at H
             have c44b0:=decide_eq_true c44
             clear c44
             replace H:=Option.bind_eq_some_iff.mp H
             obtain⟨⟨t354,t355⟩,A450,H⟩:=H
             replace H:(some (t354,t355))=some (r1,r2):=H
             have A45:=A_ A450
             clear A450
             simp only[Option.some.injEq,Prod.mk.injEq] at H
             obtain⟨rfl,rfl⟩:=H
             go_wp2_with (first|((with_reducible refine gc_ 78 rfl ?_);refine goesL_ (some 69) rfl rfl Try.func78 (by kernel_rfl) rfl #[.int .i64 127,.int .i64 (wrap64 (a0 - 96))] rfl ar ?_;(with_reducible refine(impl_intRow.calls kj37 127 (wrap64 (a0 - 96)) t354 t355 _ A45.out).mono ?_);rintro e w46 ⟨v356,rfl,ho0,hb⟩;refine⟨_,rfl,?_⟩;have HO357:=A_ (Kd.R_lower ho0 (below_size (bw HB.out)));replace HB:=bs_ HB hb;(try clear hb);(try clear hb2);(try clear hk);(try clear hi);(try clear ho0)))
             go_ret2
             exact⟨_,rr_,kr_ HO357.out,bw HB.out⟩
            rw[if_neg c44] at H
            have c44b0:=decide_eq_false c44
            clear c44
            simp only[Option.some.injEq,Prod.mk.injEq] at H
            obtain⟨rfl,rfl⟩:=H
            go_wp2
            go_ret2
            exact⟨_,rr_,by first|exact Kd.R_nil _ _ _ _ _|exact Kd.N_nil _ _ _ _ _|exact Kd.V_nil _ _ _ _ _|exact Kd.Q_nil _ _ _ _ _|exact Kd.S_nil _ _ _ _ _,bw HB.out⟩
           rw[if_neg c43] at H
           have c43b0:=decide_eq_false c43
           clear c43
           simp only[Option.some.injEq,Prod.mk.injEq] at H
           obtain⟨rfl,rfl⟩:=H
           go_wp2
           go_ret2
           exact⟨_,rr_,by first|exact Kd.R_nil _ _ _ _ _|exact Kd.N_nil _ _ _ _ _|exact Kd.V_nil _ _ _ _ _|exact Kd.Q_nil _ _ _ _ _|exact Kd.S_nil _ _ _ _ _,bw HB.out⟩


/-! ### impl_checker_step: function 35 (walked by hand) -/
theorem step_block (k:Nat) (x:S71) (f:S59) (fs:List S59) (gs:List S63) (mem:Bool) (pf:Addr) (w0 w:World) (g:Nat) (q:Nat→Value) (c c':CS S82) (A:Option Addr) (n1:Nat) (B:Option Addr) (n2:Nat) (h:Ck w0 w g q c A n1 B n2) (hm:MEnv w0 (q 0) fs gs mem) (hq:q 1=.pointer (some pf)) (hf:FEnv w0 pf f) (hb:blockC c f.f1 x=some (c',true)):
  Calls Try.prog 35 #[.pointer (some ⟨g,0,none⟩),.agg #[.int .i64 x.f0,.int .i64 x.f1]] w fun e w'=>e=.returned (.tuple #[])∧CkE w0 w' g q c':=by
 have HO:=A_ h
 have HK:=A_ (KeepBut.refl w g none)
 have hu71:=Try.underlying71
 have HM:=A_ hm;have HQ:=A_ hq;have HF:=A_ hf
 have HRS:=A_ (show w0.cell? ⟨pf.block,pf.off+1,none⟩=some (.int .i64 f.f1) from by obtain⟨_,_,_,_,_,_,_,h1,_⟩:=hf;exact h1)
 clear h hm hq hf
 have HBK:=A_ hb
 clear hb
 go_enter Try.func35,Try.ntmps35
 go_wp2_with (first|((with_reducible refine gd_ 3 rfl ?_);refine bx_ #[.int .i64 x.f0,.int .i64 x.f1] 71 ?_;intro gx hg wx hbox hb;have BX:=A_ hbox;have NX:=A_ (HO.out.fresh_ne hg);replace HO:=A_ (HO.out.below hb);replace HK:=A_ (HK.out.trans (KeepBut.of_below hb g none) (.inl rfl));clear hbox hb hg;have x0:=(blk_cell BX.out 0).trans rfl;have x1:=(blk_cell BX.out 1).trans rfl)|(go_at_call 54;refine(block_any x f.f1 pf w0 _ g q _ c' true A n1 _ n2 HO.out HQ.out HRS.out HBK.out).mono ?_;rintro e w5 ⟨rfl,hy,_⟩;have HE:=A_ (hy rfl);clear hy))
 first|go_end0|((try simp only[Exit.inBlock,Exit.then]);refine rt_ ?_)
 exact⟨rfl,HE.out⟩
theorem step_place (k:Nat) (x:S71) (f:S59) (fs:List S59) (gs:List S63) (mem:Bool) (pf:Addr) (w0 w:World) (g:Nat) (q:Nat→Value) (c c':CS S82) (A:Option Addr) (n1:Nat) (B:Option Addr) (n2:Nat) (h:Ck w0 w g q c A n1 B n2) (hm:MEnv w0 (q 0) fs gs mem) (hq:q 1=.pointer (some pf)) (hf:FEnv w0 pf f) (hb:blockC c f.f1 x=some (c,false)) (hp:placeC c fs gs f x=some (c',true)):
  Calls Try.prog 35 #[.pointer (some ⟨g,0,none⟩),.agg #[.int .i64 x.f0,.int .i64 x.f1]] w fun e w'=>e=.returned (.tuple #[])∧CkE w0 w' g q c':=by
 have HO:=A_ h
 have HK:=A_ (KeepBut.refl w g none)
 have hu71:=Try.underlying71
 have HM:=A_ hm;have HQ:=A_ hq;have HF:=A_ hf
 have HRS:=A_ (show w0.cell? ⟨pf.block,pf.off+1,none⟩=some (.int .i64 f.f1) from by obtain⟨_,_,_,_,_,_,_,h1,_⟩:=hf;exact h1)
 clear h hm hq hf
 have HBK:=A_ hb;have HPL:=A_ hp
 clear hb hp
 go_enter Try.func35,Try.ntmps35
 go_wp2_with (first|((with_reducible refine gd_ 3 rfl ?_);refine bx_ #[.int .i64 x.f0,.int .i64 x.f1] 71 ?_;intro gx hg wx hbox hb;have BX:=A_ hbox;have NX:=A_ (HO.out.fresh_ne hg);replace HO:=A_ (HO.out.below hb);replace HK:=A_ (HK.out.trans (KeepBut.of_below hb g none) (.inl rfl));clear hbox hb hg;have x0:=(blk_cell BX.out 0).trans rfl;have x1:=(blk_cell BX.out 1).trans rfl)|(go_at_call 54;refine(block_any x f.f1 pf w0 _ g q _ _ false A n1 _ n2 HO.out HQ.out HRS.out HBK.out).mono ?_;rintro e w5 ⟨rfl,_,hy⟩;obtain⟨_,hO,hK⟩:=hy rfl;replace HO:=A_ hO;replace HK:=A_ (HK.out.trans hK (.inl rfl));replace BX:=A_ (KeepBut.blk hK BX.out NX.out.1 (by simp));clear x0 x1 hO hK;have x0:=(blk_cell BX.out 0).trans rfl;have x1:=(blk_cell BX.out 1).trans rfl)|(go_at_call 55;refine(place_any x f fs gs mem pf w0 _ g q _ c' true A n1 _ n2 HO.out HM.out HQ.out HF.out HPL.out).mono ?_;rintro e w5 ⟨rfl,hy,_⟩;have HE:=A_ (hy rfl);clear hy))
 first|go_end0|((try simp only[Exit.inBlock,Exit.then]);refine rt_ ?_)
 exact⟨rfl,HE.out⟩
theorem step_26 (k:Nat) (x:S71) (f:S59) (fs:List S59) (gs:List S63) (mem:Bool) (pf:Addr) (w0 w:World) (g:Nat) (q:Nat→Value) (c c':CS S82) (A:Option Addr) (n1:Nat) (B:Option Addr) (n2:Nat) (h:Ck w0 w g q c A n1 B n2) (hm:MEnv w0 (q 0) fs gs mem) (hq:q 1=.pointer (some pf)) (hf:FEnv w0 pf f) (hb:blockC c f.f1 x=some (c,false)) (hp:placeC c fs gs f x=some (c,false)) (hop:x.f0=26) (u:Int) (hr:takeC c 0=some (c',u)):
  Calls Try.prog 35 #[.pointer (some ⟨g,0,none⟩),.agg #[.int .i64 x.f0,.int .i64 x.f1]] w fun e w'=>e=.returned (.tuple #[])∧CkE w0 w' g q c':=by
 have HO:=A_ h
 have HK:=A_ (KeepBut.refl w g none)
 have hu71:=Try.underlying71
 have HM:=A_ hm;have HQ:=A_ hq;have HF:=A_ hf
 have HRS:=A_ (show w0.cell? ⟨pf.block,pf.off+1,none⟩=some (.int .i64 f.f1) from by obtain⟨_,_,_,_,_,_,_,h1,_⟩:=hf;exact h1)
 clear h hm hq hf
 have HBK:=A_ hb;have HPL:=A_ hp
 clear hb hp
 have HR:=A_ hr
 have b26:=e1_ hop
 clear hr hop
 go_enter Try.func35,Try.ntmps35
 go_wp2_with (first|((with_reducible refine gd_ 3 rfl ?_);refine bx_ #[.int .i64 x.f0,.int .i64 x.f1] 71 ?_;intro gx hg wx hbox hb;have BX:=A_ hbox;have NX:=A_ (HO.out.fresh_ne hg);replace HO:=A_ (HO.out.below hb);replace HK:=A_ (HK.out.trans (KeepBut.of_below hb g none) (.inl rfl));clear hbox hb hg;have x0:=(blk_cell BX.out 0).trans rfl;have x1:=(blk_cell BX.out 1).trans rfl)|(go_at_call 54;refine(block_any x f.f1 pf w0 _ g q _ _ false A n1 _ n2 HO.out HQ.out HRS.out HBK.out).mono ?_;rintro e w5 ⟨rfl,_,hy⟩;obtain⟨_,hO,hK⟩:=hy rfl;replace HO:=A_ hO;replace HK:=A_ (HK.out.trans hK (.inl rfl));replace BX:=A_ (KeepBut.blk hK BX.out NX.out.1 (by simp));clear x0 x1 hO hK;have x0:=(blk_cell BX.out 0).trans rfl;have x1:=(blk_cell BX.out 1).trans rfl)|(go_at_call 55;refine(place_any x f fs gs mem pf w0 _ g q _ _ false A n1 _ n2 HO.out HM.out HQ.out HF.out HPL.out).mono ?_;rintro e w5 ⟨rfl,_,hy⟩;obtain⟨_,hO,hK⟩:=hy rfl;replace HO:=A_ hO;replace HK:=A_ (HK.out.trans hK (.inl rfl));replace BX:=A_ (KeepBut.blk hK BX.out NX.out.1 (by simp));clear x0 x1 hO hK;have x0:=(blk_cell BX.out 0).trans rfl;have x1:=(blk_cell BX.out 1).trans rfl)|(go_at_call 56;refine(take_any w0 _ g q _ c' 0 u A n1 _ n2 HO.out HR.out).mono ?_;rintro e w5 ⟨rfl,hO,hK⟩;replace HO:=A_ hO;replace HK:=A_ (HK.out.trans hK (.inl rfl));replace BX:=A_ (KeepBut.blk hK BX.out NX.out.1 (by simp));clear x0 x1 hO hK;have x0:=(blk_cell BX.out 0).trans rfl;have x1:=(blk_cell BX.out 1).trans rfl))
 first|go_end0|((try simp only[Exit.inBlock,Exit.then]);refine rt_ ?_)
 exact⟨rfl,_,_,_,_,HO.out⟩
theorem step_27z (k:Nat) (x:S71) (f:S59) (fs:List S59) (gs:List S63) (mem:Bool) (pf:Addr) (w0 w:World) (g:Nat) (q:Nat→Value) (c c':CS S82) (A:Option Addr) (n1:Nat) (B:Option Addr) (n2:Nat) (h:Ck w0 w g q c A n1 B n2) (hm:MEnv w0 (q 0) fs gs mem) (hq:q 1=.pointer (some pf)) (hf:FEnv w0 pf f) (hb:blockC c f.f1 x=some (c,false)) (hp:placeC c fs gs f x=some (c,false)) (hop:x.f0=27) (cs cb ca:CS S82) (t b a:Int) (hs:takeC c 127=some (cs,t)) (ht:takeC cs 0=some (cb,b)) (hu:takeC cb b=some (ca,a)) (hz:a=0) (hr:ca.put b=some c'):
  Calls Try.prog 35 #[.pointer (some ⟨g,0,none⟩),.agg #[.int .i64 x.f0,.int .i64 x.f1]] w fun e w'=>e=.returned (.tuple #[])∧CkE w0 w' g q c':=by
 have HO:=A_ h
 have HK:=A_ (KeepBut.refl w g none)
 have hu71:=Try.underlying71
 have HM:=A_ hm;have HQ:=A_ hq;have HF:=A_ hf
 have HRS:=A_ (show w0.cell? ⟨pf.block,pf.off+1,none⟩=some (.int .i64 f.f1) from by obtain⟨_,_,_,_,_,_,_,h1,_⟩:=hf;exact h1)
 clear h hm hq hf
 have HBK:=A_ hb;have HPL:=A_ hp
 clear hb hp
 have HS:=A_ hs;have HT:=A_ ht;have HU:=A_ hu;have HR:=A_ hr
 have b26:=ne_ hop 26
 have b27:=e1_ hop
 have bz:(a==0)=true:=beq_iff_eq.2 hz
 clear hs ht hu hr hop hz
 go_enter Try.func35,Try.ntmps35
 go_upto_region 6 with (first|((with_reducible refine gd_ 3 rfl ?_);refine bx_ #[.int .i64 x.f0,.int .i64 x.f1] 71 ?_;intro gx hg wx hbox hb;have BX:=A_ hbox;have NX:=A_ (HO.out.fresh_ne hg);replace HO:=A_ (HO.out.below hb);replace HK:=A_ (HK.out.trans (KeepBut.of_below hb g none) (.inl rfl));clear hbox hb hg;have x0:=(blk_cell BX.out 0).trans rfl;have x1:=(blk_cell BX.out 1).trans rfl)|(go_at_call 54;refine(block_any x f.f1 pf w0 _ g q _ _ false A n1 _ n2 HO.out HQ.out HRS.out HBK.out).mono ?_;rintro e w5 ⟨rfl,_,hy⟩;obtain⟨_,hO,hK⟩:=hy rfl;replace HO:=A_ hO;replace HK:=A_ (HK.out.trans hK (.inl rfl));replace BX:=A_ (KeepBut.blk hK BX.out NX.out.1 (by simp));clear x0 x1 hO hK;have x0:=(blk_cell BX.out 0).trans rfl;have x1:=(blk_cell BX.out 1).trans rfl)|(go_at_call 55;refine(place_any x f fs gs mem pf w0 _ g q _ _ false A n1 _ n2 HO.out HM.out HQ.out HF.out HPL.out).mono ?_;rintro e w5 ⟨rfl,_,hy⟩;obtain⟨_,hO,hK⟩:=hy rfl;replace HO:=A_ hO;replace HK:=A_ (HK.out.trans hK (.inl rfl));replace BX:=A_ (KeepBut.blk hK BX.out NX.out.1 (by simp));clear x0 x1 hO hK;have x0:=(blk_cell BX.out 0).trans rfl;have x1:=(blk_cell BX.out 1).trans rfl))
 go_upto_region 7 with (first|(go_at_call 56;refine(take_any w0 _ g q _ cs 127 t A n1 _ n2 HO.out HS.out).mono ?_;rintro e w5 ⟨rfl,hO,hK⟩;replace HO:=A_ hO;replace HK:=A_ (HK.out.trans hK (.inl rfl));replace BX:=A_ (KeepBut.blk hK BX.out NX.out.1 (by simp));clear x0 x1 hO hK;have x0:=(blk_cell BX.out 0).trans rfl;have x1:=(blk_cell BX.out 1).trans rfl))
 go_upto_region 8 with (first|(go_at_call 56;refine(take_any w0 _ g q _ cb 0 b A n1 _ n2 HO.out HT.out).mono ?_;rintro e w5 ⟨rfl,hO,hK⟩;replace HO:=A_ hO;replace HK:=A_ (HK.out.trans hK (.inl rfl));replace BX:=A_ (KeepBut.blk hK BX.out NX.out.1 (by simp));clear x0 x1 hO hK;have x0:=(blk_cell BX.out 0).trans rfl;have x1:=(blk_cell BX.out 1).trans rfl))
 go_upto_region 9 with (first|(go_at_call 56;refine(take_any w0 _ g q _ ca b a A n1 _ n2 HO.out HU.out).mono ?_;rintro e w5 ⟨rfl,hO,hK⟩;replace HO:=A_ hO;replace HK:=A_ (HK.out.trans hK (.inl rfl));replace BX:=A_ (KeepBut.blk hK BX.out NX.out.1 (by simp));clear x0 x1 hO hK;have x0:=(blk_cell BX.out 0).trans rfl;have x1:=(blk_cell BX.out 1).trans rfl))
 go_wp2_with (first|(go_at_call 57;refine(put_any b w0 _ g q _ c' A n1 _ n2 HO.out HR.out).mono ?_;rintro e w5 ⟨rfl,hE⟩;have HE:=A_ hE;clear hE))
 first|go_end0|((try simp only[Exit.inBlock,Exit.then]);refine rt_ ?_)
 exact⟨rfl,HE.out⟩
theorem step_27 (k:Nat) (x:S71) (f:S59) (fs:List S59) (gs:List S63) (mem:Bool) (pf:Addr) (w0 w:World) (g:Nat) (q:Nat→Value) (c c':CS S82) (A:Option Addr) (n1:Nat) (B:Option Addr) (n2:Nat) (h:Ck w0 w g q c A n1 B n2) (hm:MEnv w0 (q 0) fs gs mem) (hq:q 1=.pointer (some pf)) (hf:FEnv w0 pf f) (hb:blockC c f.f1 x=some (c,false)) (hp:placeC c fs gs f x=some (c,false)) (hop:x.f0=27) (cs cb ca:CS S82) (t b a:Int) (hs:takeC c 127=some (cs,t)) (ht:takeC cs 0=some (cb,b)) (hu:takeC cb b=some (ca,a)) (hz:a≠0) (hr:ca.put a=some c'):
  Calls Try.prog 35 #[.pointer (some ⟨g,0,none⟩),.agg #[.int .i64 x.f0,.int .i64 x.f1]] w fun e w'=>e=.returned (.tuple #[])∧CkE w0 w' g q c':=by
 have HO:=A_ h
 have HK:=A_ (KeepBut.refl w g none)
 have hu71:=Try.underlying71
 have HM:=A_ hm;have HQ:=A_ hq;have HF:=A_ hf
 have HRS:=A_ (show w0.cell? ⟨pf.block,pf.off+1,none⟩=some (.int .i64 f.f1) from by obtain⟨_,_,_,_,_,_,_,h1,_⟩:=hf;exact h1)
 clear h hm hq hf
 have HBK:=A_ hb;have HPL:=A_ hp
 clear hb hp
 have HS:=A_ hs;have HT:=A_ ht;have HU:=A_ hu;have HR:=A_ hr
 have b26:=ne_ hop 26
 have b27:=e1_ hop
 have bz:(a==0)=false:=beq_eq_false_iff_ne.2 hz
 clear hs ht hu hr hop hz
 go_enter Try.func35,Try.ntmps35
 go_upto_region 6 with (first|((with_reducible refine gd_ 3 rfl ?_);refine bx_ #[.int .i64 x.f0,.int .i64 x.f1] 71 ?_;intro gx hg wx hbox hb;have BX:=A_ hbox;have NX:=A_ (HO.out.fresh_ne hg);replace HO:=A_ (HO.out.below hb);replace HK:=A_ (HK.out.trans (KeepBut.of_below hb g none) (.inl rfl));clear hbox hb hg;have x0:=(blk_cell BX.out 0).trans rfl;have x1:=(blk_cell BX.out 1).trans rfl)|(go_at_call 54;refine(block_any x f.f1 pf w0 _ g q _ _ false A n1 _ n2 HO.out HQ.out HRS.out HBK.out).mono ?_;rintro e w5 ⟨rfl,_,hy⟩;obtain⟨_,hO,hK⟩:=hy rfl;replace HO:=A_ hO;replace HK:=A_ (HK.out.trans hK (.inl rfl));replace BX:=A_ (KeepBut.blk hK BX.out NX.out.1 (by simp));clear x0 x1 hO hK;have x0:=(blk_cell BX.out 0).trans rfl;have x1:=(blk_cell BX.out 1).trans rfl)|(go_at_call 55;refine(place_any x f fs gs mem pf w0 _ g q _ _ false A n1 _ n2 HO.out HM.out HQ.out HF.out HPL.out).mono ?_;rintro e w5 ⟨rfl,_,hy⟩;obtain⟨_,hO,hK⟩:=hy rfl;replace HO:=A_ hO;replace HK:=A_ (HK.out.trans hK (.inl rfl));replace BX:=A_ (KeepBut.blk hK BX.out NX.out.1 (by simp));clear x0 x1 hO hK;have x0:=(blk_cell BX.out 0).trans rfl;have x1:=(blk_cell BX.out 1).trans rfl))
 go_upto_region 7 with (first|(go_at_call 56;refine(take_any w0 _ g q _ cs 127 t A n1 _ n2 HO.out HS.out).mono ?_;rintro e w5 ⟨rfl,hO,hK⟩;replace HO:=A_ hO;replace HK:=A_ (HK.out.trans hK (.inl rfl));replace BX:=A_ (KeepBut.blk hK BX.out NX.out.1 (by simp));clear x0 x1 hO hK;have x0:=(blk_cell BX.out 0).trans rfl;have x1:=(blk_cell BX.out 1).trans rfl))
 go_upto_region 8 with (first|(go_at_call 56;refine(take_any w0 _ g q _ cb 0 b A n1 _ n2 HO.out HT.out).mono ?_;rintro e w5 ⟨rfl,hO,hK⟩;replace HO:=A_ hO;replace HK:=A_ (HK.out.trans hK (.inl rfl));replace BX:=A_ (KeepBut.blk hK BX.out NX.out.1 (by simp));clear x0 x1 hO hK;have x0:=(blk_cell BX.out 0).trans rfl;have x1:=(blk_cell BX.out 1).trans rfl))
 go_upto_region 9 with (first|(go_at_call 56;refine(take_any w0 _ g q _ ca b a A n1 _ n2 HO.out HU.out).mono ?_;rintro e w5 ⟨rfl,hO,hK⟩;replace HO:=A_ hO;replace HK:=A_ (HK.out.trans hK (.inl rfl));replace BX:=A_ (KeepBut.blk hK BX.out NX.out.1 (by simp));clear x0 x1 hO hK;have x0:=(blk_cell BX.out 0).trans rfl;have x1:=(blk_cell BX.out 1).trans rfl))
 go_wp2_with (first|(go_at_call 57;refine(put_any a w0 _ g q _ c' A n1 _ n2 HO.out HR.out).mono ?_;rintro e w5 ⟨rfl,hE⟩;have HE:=A_ hE;clear hE))
 first|go_end0|((try simp only[Exit.inBlock,Exit.then]);refine rt_ ?_)
 exact⟨rfl,HE.out⟩

section
variable (k:Nat) (x:S71) (f:S59) (fs:List S59) (gs:List S63) (mem:Bool) (pf:Addr) (w0 w:World) (g:Nat) (q:Nat→Value) (c c':CS S82) (A:Option Addr) (n1:Nat) (B:Option Addr) (n2:Nat)
theorem step_n (h:Ck w0 w g q c A n1 B n2) (hm:MEnv w0 (q 0) fs gs mem) (hq:q 1=.pointer (some pf)) (hf:FEnv w0 pf f) (hb:blockC c f.f1 x=some (c,false)) (hp:placeC c fs gs f x=some (c,false)) (h26:x.f0≠26) (h27:x.f0≠27) (l:List Int) (v:Int) (c2:CS S82) (hu:impl_usesMemory.f k x.f0=some false) (hw:impl_row.f k x.f0=some (l,v)) (ht:takeRev l c l.length=some c2) (hr:c2.put v=some c'):
  Calls Try.prog 35 #[.pointer (some ⟨g,0,none⟩),.agg #[.int .i64 x.f0,.int .i64 x.f1]] w fun e w'=>e=.returned (.tuple #[])∧CkE w0 w' g q c':=by
 have HO:=A_ h
 have HK:=A_ (KeepBut.refl w g none)
 have hu71:=Try.underlying71
 have HM:=A_ hm;have HQ:=A_ hq;have HF:=A_ hf
 have HRS:=A_ (show w0.cell? ⟨pf.block,pf.off+1,none⟩=some (.int .i64 f.f1) from by obtain⟨_,_,_,_,_,_,_,h1,_⟩:=hf;exact h1)
 clear h hm hq hf
 have HBK:=A_ hb;have HPL:=A_ hp
 clear hb hp
 have HU:=A_ hu;have HW:=A_ hw;have HT:=A_ ht;have HR:=A_ hr
 have b26:=e0_ h26
 have b27:=e0_ h27
 clear hu hw ht hr h26 h27
 go_enter Try.func35,Try.ntmps35
 go_upto_region 12 with (first|((with_reducible refine gd_ 3 rfl ?_);refine bx_ #[.int .i64 x.f0,.int .i64 x.f1] 71 ?_;intro gx hg wx hbox hb;have BX:=A_ hbox;have NX:=A_ (HO.out.fresh_ne hg);replace HO:=A_ (HO.out.below hb);replace HK:=A_ (HK.out.trans (KeepBut.of_below hb g none) (.inl rfl));clear hbox hb hg;have x0:=(blk_cell BX.out 0).trans rfl;have x1:=(blk_cell BX.out 1).trans rfl)|(go_at_call 54;refine(block_any x f.f1 pf w0 _ g q _ _ false A n1 _ n2 HO.out HQ.out HRS.out HBK.out).mono ?_;rintro e w5 ⟨rfl,_,hy⟩;obtain⟨_,hO,hK⟩:=hy rfl;replace HO:=A_ hO;replace HK:=A_ (HK.out.trans hK (.inl rfl));replace BX:=A_ (KeepBut.blk hK BX.out NX.out.1 (by simp));clear x0 x1 hO hK;have x0:=(blk_cell BX.out 0).trans rfl;have x1:=(blk_cell BX.out 1).trans rfl)|(go_at_call 55;refine(place_any x f fs gs mem pf w0 _ g q _ _ false A n1 _ n2 HO.out HM.out HQ.out HF.out HPL.out).mono ?_;rintro e w5 ⟨rfl,_,hy⟩;obtain⟨_,hO,hK⟩:=hy rfl;replace HO:=A_ hO;replace HK:=A_ (HK.out.trans hK (.inl rfl));replace BX:=A_ (KeepBut.blk hK BX.out NX.out.1 (by simp));clear x0 x1 hO hK;have x0:=(blk_cell BX.out 0).trans rfl;have x1:=(blk_cell BX.out 1).trans rfl))
 go_upto_region 14 with (first|(go_at_call 58;refine(impl_usesMemory.calls k x.f0 false _ HU.out).mono ?_;rintro e w6 ⟨rfl,hd⟩;obtain⟨nd,hnd⟩:=hd;replace HO:=A_ (show Ck w0 w6 g q _ A n1 _ n2 from by rw[hnd];exact HO.out.drewN nd);replace HK:=A_ (show KeepBut w w6 g none from by rw[hnd];exact keep_drewN HK.out nd);replace BX:=A_ (show w6.heap[gx]? =some (.cells #[.int .i64 x.f0,.int .i64 x.f1] 71 (0,0)) from by rw[hnd];exact BX.out);clear x0 x1 hnd;have x0:=(blk_cell BX.out 0).trans rfl))
 go_upto_region 15 with (first|(go_at_call 60;refine(impl_row.calls k x.f0 l v _ HW.out).mono ?_;rintro e w7 ⟨vr,rfl,hR,hb⟩;have HRw:=A_ (show Kd.R (Kd.int .i64) 3 w7 w6.heap.size (fun k_=>k_≠g) vr l from Kd.R_mono (Kd.R_bound hR) (fun k_ hk_=>by have h8:=hk_.2.1;have h9:=blk_lt HO.out.2.2.1;omega));replace HO:=A_ (HO.out.below hb);clear HK BX x0 hR hb))
 have hlen:=Kd.R_slice HRw.out
 obtain⟨Ar,cr,er⟩:=hlen
 subst er
 have hmax:=Kd.C_max (Kd.R_reads' HRw.out).2.2
 have ew:IntKind.i64.wrap ((l.length:Int) - 1)=(l.length:Int) - 1:=ck_w _ (by omega)
 go_wp2
 go_loopg [8] l.length (fun kq v8 w'=>∃ (kk:Nat) (c3:CS S82),kk=kq∧v8=.int .i64 ((kk:Int) - 1)∧Aside0 (takeRev l c3 kk=some c2)∧Aside0 (Ck w0 w' g q c3 A n1 B n2)∧Aside0 (Kd.R (Kd.int .i64) 3 w' w6.heap.size (fun k_=>k_≠g) (.slice Ar l.length cr) l)∧Aside0 (kk≤l.length))
 case atStart=>exact⟨_,_,rfl,rfl,HT,HO,HRw,⟨Nat.le_refl _⟩⟩
 case round=>
  clear HO HRw HT ew
  obtain⟨kk,c3,hkk,rfl,HT,HO,HRw,HKQ⟩:=hrel
  have HKK:=A_ hkk
  clear hkk
  rcases Nat.eq_zero_or_pos kk with hk0|hk0
  ·
   subst hk0
   have HT':=HT.out
   rw[takeRev] at HT'
   obtain rfl:=Option.some.inj HT'
   have cbz:decide ((0:Int)≤((0:Nat):Int) - 1)=false:=rfl
   go_wp2_with (first|(go_at_call 57;refine(put_any v w0 _ g q _ c' A n1 _ n2 HO.out HR.out).mono ?_;rintro e w5 ⟨rfl,hE⟩;have HE:=A_ hE;clear hE))
   first|go_end0|((try simp only[Exit.inBlock,Exit.then]);refine rt_ ?_)
   exact⟨rfl,HE.out⟩
  obtain⟨km,rfl⟩:∃ km,kk=km+1:=⟨kk - 1,by omega⟩
  have HT':=HT.out
  rw[takeRev] at HT'
  obtain⟨⟨c4,u⟩,hs,ht⟩:=Option.bind_eq_some_iff.1 HT'
  have HS:=A_ hs;have HTn:=A_ ht
  clear HT' hs ht HT
  have ek:((km+1:Nat):Int) - 1=(km:Int):=by omega
  rw[ek]
  have hkm:=HKQ.out
  obtain⟨ad2,eA,hx⟩:=Kd.at_int (Kd.R_reads' HRw.out).2.2 (km:Int) (by omega) (by omega)
  subst eA
  rw[Int.toNat_natCast] at hx
  have cbz:decide ((0:Int)≤(km:Int))=true:=decide_eq_true (by omega)
  have q5:((0:Int)≤(km:Int))=True:=eq_true (by omega)
  have q6:((km:Int)<(l.length:Int))=True:=eq_true (by omega)
  have ew:IntKind.i64.wrap ((km:Int) - 1)=(km:Int) - 1:=ck_w _ (by omega)
  clear ek hkm
  go_wp2_with (first|(go_at_call 56;refine(take_any w0 _ g q _ c4 (rd l (km:Int)) u A n1 _ n2 HO.out HS.out).mono ?_;rintro e w5 ⟨rfl,hO,hK⟩;replace HO:=A_ hO;replace HRw:=A_ (Kd.R_keep HRw.out hK (fun _ h_=>h_));clear hx hO hK))
  go_roundg km
  case measure=>have:=HKK.out;omega
  case rel=>exact⟨km,c4,rfl,by first|rfl|(rw[ew]),HTn,HO,HRw,⟨by have:=HKQ.out;omega⟩⟩
theorem step_m (h:Ck w0 w g q c A n1 B n2) (hm:MEnv w0 (q 0) fs gs mem) (hq:q 1=.pointer (some pf)) (hf:FEnv w0 pf f) (hb:blockC c f.f1 x=some (c,false)) (hp:placeC c fs gs f x=some (c,false)) (h26:x.f0≠26) (h27:x.f0≠27) (l:List Int) (v:Int) (c2:CS S82) (hmem:mem=true) (hu:impl_usesMemory.f k x.f0=some true) (hw:impl_row.f k x.f0=some (l,v)) (ht:takeRev l c l.length=some c2) (hr:c2.put v=some c'):
  Calls Try.prog 35 #[.pointer (some ⟨g,0,none⟩),.agg #[.int .i64 x.f0,.int .i64 x.f1]] w fun e w'=>e=.returned (.tuple #[])∧CkE w0 w' g q c':=by
 have HO:=A_ h
 have HK:=A_ (KeepBut.refl w g none)
 have hu71:=Try.underlying71
 have HM:=A_ hm;have HQ:=A_ hq;have HF:=A_ hf
 have HRS:=A_ (show w0.cell? ⟨pf.block,pf.off+1,none⟩=some (.int .i64 f.f1) from by obtain⟨_,_,_,_,_,_,_,h1,_⟩:=hf;exact h1)
 clear h hm hq hf
 have HMM:=A_ hmem
 clear hmem
 have HBK:=A_ hb;have HPL:=A_ hp
 clear hb hp
 have HU:=A_ hu;have HW:=A_ hw;have HT:=A_ ht;have HR:=A_ hr
 have b26:=e0_ h26
 have b27:=e0_ h27
 clear hu hw ht hr h26 h27
 go_enter Try.func35,Try.ntmps35
 go_upto_region 12 with (first|((with_reducible refine gd_ 3 rfl ?_);refine bx_ #[.int .i64 x.f0,.int .i64 x.f1] 71 ?_;intro gx hg wx hbox hb;have BX:=A_ hbox;have NX:=A_ (HO.out.fresh_ne hg);replace HO:=A_ (HO.out.below hb);replace HK:=A_ (HK.out.trans (KeepBut.of_below hb g none) (.inl rfl));clear hbox hb hg;have x0:=(blk_cell BX.out 0).trans rfl;have x1:=(blk_cell BX.out 1).trans rfl)|(go_at_call 54;refine(block_any x f.f1 pf w0 _ g q _ _ false A n1 _ n2 HO.out HQ.out HRS.out HBK.out).mono ?_;rintro e w5 ⟨rfl,_,hy⟩;obtain⟨_,hO,hK⟩:=hy rfl;replace HO:=A_ hO;replace HK:=A_ (HK.out.trans hK (.inl rfl));replace BX:=A_ (KeepBut.blk hK BX.out NX.out.1 (by simp));clear x0 x1 hO hK;have x0:=(blk_cell BX.out 0).trans rfl;have x1:=(blk_cell BX.out 1).trans rfl)|(go_at_call 55;refine(place_any x f fs gs mem pf w0 _ g q _ _ false A n1 _ n2 HO.out HM.out HQ.out HF.out HPL.out).mono ?_;rintro e w5 ⟨rfl,_,hy⟩;obtain⟨_,hO,hK⟩:=hy rfl;replace HO:=A_ hO;replace HK:=A_ (HK.out.trans hK (.inl rfl));replace BX:=A_ (KeepBut.blk hK BX.out NX.out.1 (by simp));clear x0 x1 hO hK;have x0:=(blk_cell BX.out 0).trans rfl;have x1:=(blk_cell BX.out 1).trans rfl))
 obtain⟨bm,AF,cF,AG,cG,e0_,_,_,m2_,_,_⟩:=HM.out
 go_upto_region 14 with (first|(go_at_call 58;refine(impl_usesMemory.calls k x.f0 true _ HU.out).mono ?_;rintro e w6 ⟨rfl,hd⟩;obtain⟨nd,hnd⟩:=hd;replace HO:=A_ (show Ck w0 w6 g q _ A n1 _ n2 from by rw[hnd];exact HO.out.drewN nd);replace HK:=A_ (show KeepBut w w6 g none from by rw[hnd];exact keep_drewN HK.out nd);replace BX:=A_ (show w6.heap[gx]? =some (.cells #[.int .i64 x.f0,.int .i64 x.f1] 71 (0,0)) from by rw[hnd];exact BX.out);clear x0 x1 hnd;have x0:=(blk_cell BX.out 0).trans rfl;have c0:=HO.out.cell0;rw[e0_] at c0;replace m2_:=cl_ HO.out.2.1 m2_;rw[HMM.out] at m2_))
 go_upto_region 15 with (first|(go_at_call 60;refine(impl_row.calls k x.f0 l v _ HW.out).mono ?_;rintro e w7 ⟨vr,rfl,hR,hb⟩;have HRw:=A_ (show Kd.R (Kd.int .i64) 3 w7 w6.heap.size (fun k_=>k_≠g) vr l from Kd.R_mono (Kd.R_bound hR) (fun k_ hk_=>by have h8:=hk_.2.1;have h9:=blk_lt HO.out.2.2.1;omega));replace HO:=A_ (HO.out.below hb);clear HK BX x0 hR hb))
 have hlen:=Kd.R_slice HRw.out
 obtain⟨Ar,cr,er⟩:=hlen
 subst er
 have hmax:=Kd.C_max (Kd.R_reads' HRw.out).2.2
 have ew:IntKind.i64.wrap ((l.length:Int) - 1)=(l.length:Int) - 1:=ck_w _ (by omega)
 go_wp2
 go_loopg [8] l.length (fun kq v8 w'=>∃ (kk:Nat) (c3:CS S82),kk=kq∧v8=.int .i64 ((kk:Int) - 1)∧Aside0 (takeRev l c3 kk=some c2)∧Aside0 (Ck w0 w' g q c3 A n1 B n2)∧Aside0 (Kd.R (Kd.int .i64) 3 w' w6.heap.size (fun k_=>k_≠g) (.slice Ar l.length cr) l)∧Aside0 (kk≤l.length))
 case atStart=>exact⟨_,_,rfl,rfl,HT,HO,HRw,⟨Nat.le_refl _⟩⟩
 case round=>
  clear HO HRw HT ew
  obtain⟨kk,c3,hkk,rfl,HT,HO,HRw,HKQ⟩:=hrel
  have HKK:=A_ hkk
  clear hkk
  rcases Nat.eq_zero_or_pos kk with hk0|hk0
  ·
   subst hk0
   have HT':=HT.out
   rw[takeRev] at HT'
   obtain rfl:=Option.some.inj HT'
   have cbz:decide ((0:Int)≤((0:Nat):Int) - 1)=false:=rfl
   go_wp2_with (first|(go_at_call 57;refine(put_any v w0 _ g q _ c' A n1 _ n2 HO.out HR.out).mono ?_;rintro e w5 ⟨rfl,hE⟩;have HE:=A_ hE;clear hE))
   first|go_end0|((try simp only[Exit.inBlock,Exit.then]);refine rt_ ?_)
   exact⟨rfl,HE.out⟩
  obtain⟨km,rfl⟩:∃ km,kk=km+1:=⟨kk - 1,by omega⟩
  have HT':=HT.out
  rw[takeRev] at HT'
  obtain⟨⟨c4,u⟩,hs,ht⟩:=Option.bind_eq_some_iff.1 HT'
  have HS:=A_ hs;have HTn:=A_ ht
  clear HT' hs ht HT
  have ek:((km+1:Nat):Int) - 1=(km:Int):=by omega
  rw[ek]
  have hkm:=HKQ.out
  obtain⟨ad2,eA,hx⟩:=Kd.at_int (Kd.R_reads' HRw.out).2.2 (km:Int) (by omega) (by omega)
  subst eA
  rw[Int.toNat_natCast] at hx
  have cbz:decide ((0:Int)≤(km:Int))=true:=decide_eq_true (by omega)
  have q5:((0:Int)≤(km:Int))=True:=eq_true (by omega)
  have q6:((km:Int)<(l.length:Int))=True:=eq_true (by omega)
  have ew:IntKind.i64.wrap ((km:Int) - 1)=(km:Int) - 1:=ck_w _ (by omega)
  clear ek hkm
  go_wp2_with (first|(go_at_call 56;refine(take_any w0 _ g q _ c4 (rd l (km:Int)) u A n1 _ n2 HO.out HS.out).mono ?_;rintro e w5 ⟨rfl,hO,hK⟩;replace HO:=A_ hO;replace HRw:=A_ (Kd.R_keep HRw.out hK (fun _ h_=>h_));clear hx hO hK))
  go_roundg km
  case measure=>have:=HKK.out;omega
  case rel=>exact⟨km,c4,rfl,by first|rfl|(rw[ew]),HTn,HO,HRw,⟨by have:=HKQ.out;omega⟩⟩
theorem step_mf (h:Ck w0 w g q c A n1 B n2) (hm:MEnv w0 (q 0) fs gs mem) (hq:q 1=.pointer (some pf)) (hf:FEnv w0 pf f) (hb:blockC c f.f1 x=some (c,false)) (hp:placeC c fs gs f x=some (c,false)) (h26:x.f0≠26) (h27:x.f0≠27) (l:List Int) (v:Int) (c2:CS S82) (hmem:mem=false) (hu:impl_usesMemory.f k x.f0=some true) (hw:impl_row.f k x.f0=some (l,v)) (ht:takeRev l (c.fail 6) l.length=some c2) (hr:c2.put v=some c'):
  Calls Try.prog 35 #[.pointer (some ⟨g,0,none⟩),.agg #[.int .i64 x.f0,.int .i64 x.f1]] w fun e w'=>e=.returned (.tuple #[])∧CkE w0 w' g q c':=by
 have HO:=A_ h
 have HK:=A_ (KeepBut.refl w g none)
 have hu71:=Try.underlying71
 have HM:=A_ hm;have HQ:=A_ hq;have HF:=A_ hf
 have HRS:=A_ (show w0.cell? ⟨pf.block,pf.off+1,none⟩=some (.int .i64 f.f1) from by obtain⟨_,_,_,_,_,_,_,h1,_⟩:=hf;exact h1)
 clear h hm hq hf
 have HMM:=A_ hmem
 clear hmem
 have HBK:=A_ hb;have HPL:=A_ hp
 clear hb hp
 have HU:=A_ hu;have HW:=A_ hw;have HT:=A_ ht;have HR:=A_ hr
 have b26:=e0_ h26
 have b27:=e0_ h27
 clear hu hw ht hr h26 h27
 go_enter Try.func35,Try.ntmps35
 go_upto_region 12 with (first|((with_reducible refine gd_ 3 rfl ?_);refine bx_ #[.int .i64 x.f0,.int .i64 x.f1] 71 ?_;intro gx hg wx hbox hb;have BX:=A_ hbox;have NX:=A_ (HO.out.fresh_ne hg);replace HO:=A_ (HO.out.below hb);replace HK:=A_ (HK.out.trans (KeepBut.of_below hb g none) (.inl rfl));clear hbox hb hg;have x0:=(blk_cell BX.out 0).trans rfl;have x1:=(blk_cell BX.out 1).trans rfl)|(go_at_call 54;refine(block_any x f.f1 pf w0 _ g q _ _ false A n1 _ n2 HO.out HQ.out HRS.out HBK.out).mono ?_;rintro e w5 ⟨rfl,_,hy⟩;obtain⟨_,hO,hK⟩:=hy rfl;replace HO:=A_ hO;replace HK:=A_ (HK.out.trans hK (.inl rfl));replace BX:=A_ (KeepBut.blk hK BX.out NX.out.1 (by simp));clear x0 x1 hO hK;have x0:=(blk_cell BX.out 0).trans rfl;have x1:=(blk_cell BX.out 1).trans rfl)|(go_at_call 55;refine(place_any x f fs gs mem pf w0 _ g q _ _ false A n1 _ n2 HO.out HM.out HQ.out HF.out HPL.out).mono ?_;rintro e w5 ⟨rfl,_,hy⟩;obtain⟨_,hO,hK⟩:=hy rfl;replace HO:=A_ hO;replace HK:=A_ (HK.out.trans hK (.inl rfl));replace BX:=A_ (KeepBut.blk hK BX.out NX.out.1 (by simp));clear x0 x1 hO hK;have x0:=(blk_cell BX.out 0).trans rfl;have x1:=(blk_cell BX.out 1).trans rfl))
 obtain⟨bm,AF,cF,AG,cG,e0_,_,_,m2_,_,_⟩:=HM.out
 go_upto_region 14 with (first|(go_at_call 58;refine(impl_usesMemory.calls k x.f0 true _ HU.out).mono ?_;rintro e w6 ⟨rfl,hd⟩;obtain⟨nd,hnd⟩:=hd;replace HO:=A_ (show Ck w0 w6 g q _ A n1 _ n2 from by rw[hnd];exact HO.out.drewN nd);replace HK:=A_ (show KeepBut w w6 g none from by rw[hnd];exact keep_drewN HK.out nd);replace BX:=A_ (show w6.heap[gx]? =some (.cells #[.int .i64 x.f0,.int .i64 x.f1] 71 (0,0)) from by rw[hnd];exact BX.out);clear x0 x1 hnd;have x0:=(blk_cell BX.out 0).trans rfl;have c0:=HO.out.cell0;rw[e0_] at c0;replace m2_:=cl_ HO.out.2.1 m2_;rw[HMM.out] at m2_)|(go_at_call 59;refine(fail_any w0 _ g q _ 6 A n1 _ n2 HO.out).mono ?_;rintro e w5 ⟨rfl,hO,hK⟩;replace HO:=A_ hO;replace HK:=A_ (HK.out.trans hK (.inl rfl));replace BX:=A_ (KeepBut.blk hK BX.out NX.out.1 (by simp));clear x0 c0 m2_ hO hK;have x0:=(blk_cell BX.out 0).trans rfl))
 go_upto_region 15 with (first|(go_at_call 60;refine(impl_row.calls k x.f0 l v _ HW.out).mono ?_;rintro e w7 ⟨vr,rfl,hR,hb⟩;have HRw:=A_ (show Kd.R (Kd.int .i64) 3 w7 w5.heap.size (fun k_=>k_≠g) vr l from Kd.R_mono (Kd.R_bound hR) (fun k_ hk_=>by have h8:=hk_.2.1;have h9:=blk_lt HO.out.2.2.1;omega));replace HO:=A_ (HO.out.below hb);clear HK BX x0 hR hb))
 have hlen:=Kd.R_slice HRw.out
 obtain⟨Ar,cr,er⟩:=hlen
 subst er
 have hmax:=Kd.C_max (Kd.R_reads' HRw.out).2.2
 have ew:IntKind.i64.wrap ((l.length:Int) - 1)=(l.length:Int) - 1:=ck_w _ (by omega)
 go_wp2
 go_loopg [8] l.length (fun kq v8 w'=>∃ (kk:Nat) (c3:CS S82),kk=kq∧v8=.int .i64 ((kk:Int) - 1)∧Aside0 (takeRev l c3 kk=some c2)∧Aside0 (Ck w0 w' g q c3 A n1 B n2)∧Aside0 (Kd.R (Kd.int .i64) 3 w' w5.heap.size (fun k_=>k_≠g) (.slice Ar l.length cr) l)∧Aside0 (kk≤l.length))
 case atStart=>exact⟨_,_,rfl,rfl,HT,HO,HRw,⟨Nat.le_refl _⟩⟩
 case round=>
  clear HO HRw HT ew
  obtain⟨kk,c3,hkk,rfl,HT,HO,HRw,HKQ⟩:=hrel
  have HKK:=A_ hkk
  clear hkk
  rcases Nat.eq_zero_or_pos kk with hk0|hk0
  ·
   subst hk0
   have HT':=HT.out
   rw[takeRev] at HT'
   obtain rfl:=Option.some.inj HT'
   have cbz:decide ((0:Int)≤((0:Nat):Int) - 1)=false:=rfl
   go_wp2_with (first|(go_at_call 57;refine(put_any v w0 _ g q _ c' A n1 _ n2 HO.out HR.out).mono ?_;rintro e w5 ⟨rfl,hE⟩;have HE:=A_ hE;clear hE))
   first|go_end0|((try simp only[Exit.inBlock,Exit.then]);refine rt_ ?_)
   exact⟨rfl,HE.out⟩
  obtain⟨km,rfl⟩:∃ km,kk=km+1:=⟨kk - 1,by omega⟩
  have HT':=HT.out
  rw[takeRev] at HT'
  obtain⟨⟨c4,u⟩,hs,ht⟩:=Option.bind_eq_some_iff.1 HT'
  have HS:=A_ hs;have HTn:=A_ ht
  clear HT' hs ht HT
  have ek:((km+1:Nat):Int) - 1=(km:Int):=by omega
  rw[ek]
  have hkm:=HKQ.out
  obtain⟨ad2,eA,hx⟩:=Kd.at_int (Kd.R_reads' HRw.out).2.2 (km:Int) (by omega) (by omega)
  subst eA
  rw[Int.toNat_natCast] at hx
  have cbz:decide ((0:Int)≤(km:Int))=true:=decide_eq_true (by omega)
  have q5:((0:Int)≤(km:Int))=True:=eq_true (by omega)
  have q6:((km:Int)<(l.length:Int))=True:=eq_true (by omega)
  have ew:IntKind.i64.wrap ((km:Int) - 1)=(km:Int) - 1:=ck_w _ (by omega)
  clear ek hkm
  go_wp2_with (first|(go_at_call 56;refine(take_any w0 _ g q _ c4 (rd l (km:Int)) u A n1 _ n2 HO.out HS.out).mono ?_;rintro e w5 ⟨rfl,hO,hK⟩;replace HO:=A_ hO;replace HRw:=A_ (Kd.R_keep HRw.out hK (fun _ h_=>h_));clear hx hO hK))
  go_roundg km
  case measure=>have:=HKK.out;omega
  case rel=>exact⟨km,c4,rfl,by first|rfl|(rw[ew]),HTn,HO,HRw,⟨by have:=HKQ.out;omega⟩⟩

end
def stepC (k:Nat) (c:CS S82) (fs:List S59) (gs:List S63) (mem:Bool) (f:S59) (x:S71):Option (CS S82):=
 (blockC c f.f1 x).bind fun r=>if r.2=true then some r.1 else (placeC c fs gs f x).bind fun s=>if s.2=true then some s.1 else
  if x.f0=26 then (takeC c 0).bind fun r=>some r.1
  else if x.f0=27 then (takeC c 127).bind fun s=>(takeC s.1 0).bind fun b=>(takeC b.1 b.2).bind fun a=>if a.2=0 then a.1.put b.2 else a.1.put a.2
  else (impl_usesMemory.f k x.f0).bind fun um=>(impl_row.f k x.f0).bind fun rw=>(takeRev rw.1 (if um=true∧mem=false then c.fail 6 else c) rw.1.length).bind fun c2=>c2.put rw.2
theorem block_false {c c':CS S82} {res:Int} {x:S71} (h:blockC c res x=some (c',false)):c'=c:=by
 unfold blockC at h
 repeat' split at h
 all_goals first
  |(simp only[Option.some.injEq,Prod.mk.injEq] at h;exact h.1.symm)
  |(obtain⟨_,_,h⟩:=Option.bind_eq_some_iff.1 h;first|(simp only[Option.some.injEq,Prod.mk.injEq] at h;exact absurd h.2 (by decide))|(obtain⟨_,_,h⟩:=Option.bind_eq_some_iff.1 h;first|(simp only[Option.some.injEq,Prod.mk.injEq] at h;exact absurd h.2 (by decide))|(obtain⟨_,_,h⟩:=Option.bind_eq_some_iff.1 h;first|(simp only[Option.some.injEq,Prod.mk.injEq] at h;exact absurd h.2 (by decide))|(obtain⟨_,_,h⟩:=Option.bind_eq_some_iff.1 h;simp only[Option.some.injEq,Prod.mk.injEq] at h;exact absurd h.2 (by decide)))))
theorem place_false {c c':CS S82} {fs:List S59} {gs:List S63} {f:S59} {x:S71} (h:placeC c fs gs f x=some (c',false)):c'=c:=by
 unfold placeC at h
 by_cases k3:x.f0=32∨x.f0=33∨x.f0=34
 ·
  rw[if_pos k3] at h
  obtain⟨r,_,h⟩:=Option.bind_eq_some_iff.1 h
  split at h
  ·
   simp only[Option.some.injEq,Prod.mk.injEq] at h;exact absurd h.2 (by decide)
  obtain⟨_,_,h⟩:=Option.bind_eq_some_iff.1 h
  simp only[Option.some.injEq,Prod.mk.injEq] at h;exact absurd h.2 (by decide)
 rw[if_neg k3] at h
 by_cases k5:x.f0=35∨x.f0=36
 ·
  rw[if_pos k5] at h
  split at h
  ·
   simp only[Option.some.injEq,Prod.mk.injEq] at h;exact absurd h.2 (by decide)
  split at h
  ·
   obtain⟨_,_,h⟩:=Option.bind_eq_some_iff.1 h
   simp only[Option.some.injEq,Prod.mk.injEq] at h;exact absurd h.2 (by decide)
  cases h
 rw[if_neg k5] at h
 by_cases k16:x.f0=16
 ·
  rw[if_pos k16] at h
  split at h
  ·
   simp only[Option.some.injEq,Prod.mk.injEq] at h;exact absurd h.2 (by decide)
  split at h
  ·
   obtain⟨_,_,h⟩:=Option.bind_eq_some_iff.1 h
   obtain⟨_,_,h⟩:=Option.bind_eq_some_iff.1 h
   simp only[Option.some.injEq,Prod.mk.injEq] at h;exact absurd h.2 (by decide)
  cases h
 rw[if_neg k16] at h
 simp only[Option.some.injEq,Prod.mk.injEq] at h
 exact h.1.symm
set_option maxHeartbeats 1000000 in
theorem step_any (k:Nat) (x:S71) (f:S59) (fs:List S59) (gs:List S63) (mem:Bool) (pf:Addr) (w0 w:World) (g:Nat) (q:Nat→Value) (c c':CS S82) (A:Option Addr) (n1:Nat) (B:Option Addr) (n2:Nat) (h:Ck w0 w g q c A n1 B n2) (hm:MEnv w0 (q 0) fs gs mem) (hq:q 1=.pointer (some pf)) (hf:FEnv w0 pf f) (hr:stepC k c fs gs mem f x=some c'):
  Calls Try.prog 35 #[.pointer (some ⟨g,0,none⟩),.agg #[.int .i64 x.f0,.int .i64 x.f1]] w fun e w'=>e=.returned (.tuple #[])∧CkE w0 w' g q c':=by
 unfold stepC at hr
 obtain⟨⟨cb,rb⟩,hb,hr⟩:=Option.bind_eq_some_iff.1 hr
 cases rb with
 |true=>
  rw[if_pos rfl] at hr
  obtain rfl:=Option.some.inj hr
  exact step_block k x f fs gs mem pf w0 w g q c cb A n1 B n2 h hm hq hf hb
 |false=>
  obtain rfl:=block_false hb
  rw[if_neg (show ¬((cb,false):CS S82 × Bool).2=true from fun e=>by cases e)] at hr
  obtain⟨⟨cp,rp⟩,hp,hr⟩:=Option.bind_eq_some_iff.1 hr
  cases rp with
  |true=>
   rw[if_pos rfl] at hr
   obtain rfl:=Option.some.inj hr
   exact step_place k x f fs gs mem pf w0 w g q cb cp A n1 B n2 h hm hq hf hb hp
  |false=>
   obtain rfl:=place_false hp
   rw[if_neg (show ¬((cp,false):CS S82 × Bool).2=true from fun e=>by cases e)] at hr
   by_cases k26:x.f0=26
   ·
    rw[if_pos k26] at hr
    obtain⟨⟨c1,u⟩,h1,hr⟩:=Option.bind_eq_some_iff.1 hr
    obtain rfl:=Option.some.inj hr
    exact step_26 k x f fs gs mem pf w0 w g q cp c1 A n1 B n2 h hm hq hf hb hp k26 u h1
   rw[if_neg k26] at hr
   by_cases k27:x.f0=27
   ·
    rw[if_pos k27] at hr
    obtain⟨⟨cs,t⟩,h1,hr⟩:=Option.bind_eq_some_iff.1 hr
    obtain⟨⟨c2,b⟩,h2,hr⟩:=Option.bind_eq_some_iff.1 hr
    obtain⟨⟨ca,a⟩,h3,hr⟩:=Option.bind_eq_some_iff.1 hr
    by_cases hz:a=0
    ·
     rw[if_pos hz] at hr
     exact step_27z k x f fs gs mem pf w0 w g q cp c' A n1 B n2 h hm hq hf hb hp k27 cs c2 ca t b a h1 h2 h3 hz hr
    rw[if_neg hz] at hr
    exact step_27 k x f fs gs mem pf w0 w g q cp c' A n1 B n2 h hm hq hf hb hp k27 cs c2 ca t b a h1 h2 h3 hz hr
   rw[if_neg k27] at hr
   obtain⟨um,hu,hr⟩:=Option.bind_eq_some_iff.1 hr
   obtain⟨⟨l,v⟩,hw,hr⟩:=Option.bind_eq_some_iff.1 hr
   obtain⟨c2,ht,hr9⟩:=Option.bind_eq_some_iff.1 hr
   clear hr
   cases um with
   |false=>
    rw[if_neg (fun e=>by cases e.1)] at ht
    exact step_n k x f fs gs mem pf w0 w g q cp c' A n1 B n2 h hm hq hf hb hp k26 k27 l v c2 hu hw ht hr9
   |true=>
    cases mem with
    |true=>
     rw[if_neg (fun e=>by cases e.2)] at ht
     exact step_m k x f fs gs true pf w0 w g q cp c' A n1 B n2 h hm hq hf hb hp k26 k27 l v c2 rfl hu hw ht hr9
    |false=>
     rw[if_pos ⟨rfl,rfl⟩] at ht
     exact step_mf k x f fs gs false pf w0 w g q cp c' A n1 B n2 h hm hq hf hb hp k26 k27 l v c2 rfl hu hw ht hr9


/-! ### impl_check: function 23 (walked by hand) -/
def runC (k:Nat) (fs:List S59) (gs:List S63) (mem:Bool) (f:S59):Nat→Nat→CS S82→Option (Int × Int × Int)
 |0,_,c=>some (0,0,c.hi)
 |n+1,i,c=>(stepC k c fs gs mem f (rd_T71 f.f3 (i:Int))).bind fun c1=>if c1.fa=0 then runC k fs gs mem f n (i+1) c1 else some (c1.fa,(i:Int),0)
def startC (f:S59):CS S82:=⟨[],[⟨2,f.f1,0,false,false⟩],0,0⟩
def checkC (k:Nat) (fs:List S59) (gs:List S63) (mem:Bool) (kf:Int):Option (Int × Int × Int):=
 if 0≤kf∧kf<(fs.length:Int) then runC k fs gs mem (rd_T59 fs kf) (rd_T59 fs kf).f3.length 0 (startC (rd_T59 fs kf)) else none
theorem check_any (k:Nat) (fs:List S59) (gs:List S63) (mem:Bool) (kf:Int) (bm:Nat) (a b d:Int) (w:World) (hm:MEnv w (.pointer (some ⟨bm,0,none⟩)) fs gs mem) (hr:checkC k fs gs mem kf=some (a,b,d)):
  Calls Try.prog 23 #[.pointer (some ⟨bm,0,none⟩),.int .i64 kf] w fun e w'=>e=.returned (.tuple #[.int .i64 a,.int .i64 b,.int .i64 d])∧Below w.heap.size w w':=by
 have HM:=A_ hm
 obtain⟨bm2,AF,cF,AG,cG,e0_,m0_,m1_,m2_,rF,rG⟩:=hm
 obtain rfl:bm2=bm:=by injection e0_ with e;injection e with e;injection e with e;exact e.symm
 clear e0_ m1_ m2_ rG
 unfold checkC at hr
 by_cases hk:0≤kf∧kf<(fs.length:Int)
 ·
  rw[if_pos hk] at hr
  obtain⟨ad,A0,d0,A2,d2,A3,d3,rfl,g0_,g1_,g2_,g3_,l0_,r0,l2_,r2,l3_,r3⟩:=at_T59 rF kf hk.1 hk.2
  have HF:=A_ (show FEnv w (ad.add (kf.toNat*4)) (rd_T59 fs kf) from ⟨A0,d0,A2,d2,A3,d3,g0_,g1_,g2_,g3_,r0,r2,r3⟩)
  have R3:=A_ r3
  have hmax:=Kd.C_max r3
  obtain⟨f,hfe⟩:∃ f,rd_T59 fs kf=f:=⟨_,rfl⟩
  rw[hfe] at hr g1_ g3_ HF R3 hmax
  have HR:=A_ hr
  have G1:=A_ g1_;have G3:=A_ g3_
  have q0:=eq_true hk.1
  have q1:=eq_true hk.2
  have hu71:=Try.underlying71
  have hu80:=Try.underlying80
  clear hr hk rF l0_ r0 l2_ r2 l3_ r3 g0_ g1_ g2_ g3_ hfe
  obtain⟨q,HQ0,HQ⟩:∃ q:Nat→Value,Aside0 (q 0=.pointer (some ⟨bm2,0,none⟩))∧Aside0 (q 1=.pointer (some (ad.add (kf.toNat*4)))):=⟨fun i=>if i=0 then .pointer (some ⟨bm2,0,none⟩) else .pointer (some (ad.add (kf.toNat*4))),⟨rfl⟩,⟨rfl⟩⟩
  have HM:=A_ (show MEnv w (q 0) fs gs mem from by rw[HQ0.out];exact HM.out)
  go_enter Try.func23,Try.ntmps23
  go_upto_region 2 with (first|((with_reducible refine gd_ 7 rfl ?_);refine bx_ #[(.pointer none),(.pointer none),(.slice none 0 0),(.slice none 0 0),(.int .i64 0),(.int .i64 0)] 80 ?_;intro g hg w5 hbox hb;have BX:=A_ hbox;have GE:=A_ (show w.heap.size≤g from Nat.le_of_eq hg.symm);have HB:=A_ hb;clear hbox hb hg;have z0:=(blk_cell BX.out 0).trans rfl;have v0:=blk_frozen BX.out 0;have z1:=(blk_cell BX.out 1).trans rfl;have v1:=blk_frozen BX.out 1;have z2:=(blk_cell BX.out 2).trans rfl;have v2:=blk_frozen BX.out 2;have z3:=(blk_cell BX.out 3).trans rfl;have v3:=blk_frozen BX.out 3;have z4:=(blk_cell BX.out 4).trans rfl;have v4:=blk_frozen BX.out 4;have z5:=(blk_cell BX.out 5).trans rfl;have v5:=blk_frozen BX.out 5)|((with_reducible refine gate_store (t:=80) (p:=7) rfl ?_);refine store_event (t:=80) (p:=7) (v:=?vo_) (w1:=((((((w5.setCell ⟨g,0,none⟩ ((.pointer (some ⟨bm2,0,none⟩)))).setCell ⟨g,1,none⟩ ((.pointer (some (ad.add (kf.toNat*4)))))).setCell ⟨g,2,none⟩ ((.slice none 0 0))).setCell ⟨g,3,none⟩ ((.slice none 0 0))).setCell ⟨g,4,none⟩ ((.int .i64 0))).setCell ⟨g,5,none⟩ ((.int .i64 0)))) ?hg ?ho ?hn ?hr ?_;(case ho=>rfl);(case hg=>rfl);(case hn=>rfl);(case hr=>first|(go_simp;done)|(go_simp;rfl));intro w6 hw;replace BX:Aside0 (w6.heap[g]? =some (.cells #[(.pointer (some ⟨bm2,0,none⟩)),(.pointer (some (ad.add (kf.toNat*4)))),(.slice none 0 0),(.slice none 0 0),(.int .i64 0),(.int .i64 0)] 80 (0,0))):=⟨by rw[hw];exact blk_put (cs:=#[(.pointer (some ⟨bm2,0,none⟩)),(.pointer (some (ad.add (kf.toNat*4)))),(.slice none 0 0),(.slice none 0 0),(.int .i64 0),(.int .i64 0)]) (blk_put (cs:=#[(.pointer (some ⟨bm2,0,none⟩)),(.pointer (some (ad.add (kf.toNat*4)))),(.slice none 0 0),(.slice none 0 0),(.int .i64 0),(.int .i64 0)]) (blk_put (cs:=#[(.pointer (some ⟨bm2,0,none⟩)),(.pointer (some (ad.add (kf.toNat*4)))),(.slice none 0 0),(.slice none 0 0),(.int .i64 0),(.int .i64 0)]) (blk_put (cs:=#[(.pointer (some ⟨bm2,0,none⟩)),(.pointer (some (ad.add (kf.toNat*4)))),(.slice none 0 0),(.slice none 0 0),(.int .i64 0),(.int .i64 0)]) (blk_put (cs:=#[(.pointer (some ⟨bm2,0,none⟩)),(.pointer none),(.slice none 0 0),(.slice none 0 0),(.int .i64 0),(.int .i64 0)]) (blk_put (cs:=#[(.pointer none),(.pointer none),(.slice none 0 0),(.slice none 0 0),(.int .i64 0),(.int .i64 0)]) (BX.out) 0 ((.pointer (some ⟨bm2,0,none⟩))) rfl) 1 ((.pointer (some (ad.add (kf.toNat*4))))) rfl) 2 ((.slice none 0 0)) rfl) 3 ((.slice none 0 0)) rfl) 4 ((.int .i64 0)) rfl) 5 ((.int .i64 0)) rfl⟩;replace HB:Aside0 (Below w.heap.size w w6):=⟨by rw[hw];exact below_set (below_set (below_set (below_set (below_set (below_set (HB.out) GE.out) GE.out) GE.out) GE.out) GE.out) GE.out⟩;clear z0 v0 z1 v1 z2 v2 z3 v3 z4 v4 z5 v5 hw))
  have hck:Ck w w6 g q ⟨[],[],0,0⟩ none 0 none 0:=⟨GE.out,HB.out,by rw[HQ0.out,HQ.out];exact BX.out,Kd.R_nil _ _ _ _ _,Kd.R_nil _ _ _ _ _⟩
  have HO:Aside0 (Ck w w6 g q ⟨[],[],0,0⟩ none 0 none 0):=A_ hck;clear hck BX HB m0_
  have c1f:=HO.out.cell1
  rw[HQ.out] at c1f
  have c3f:=HO.out.cell3
  have u3:=HO.out.frozen 3
  have f1_:=(HO.out.2.1.cell (World.block_lt_of_cell? w _ G1.out)).trans G1.out
  go_upto_region 3 with (first|((with_reducible refine gd_ 24 rfl ?_);refine Kd.R_lit k82 w.heap.size 82 ?hg (N:=24) ?hd (xs:=[(⟨2,f.f1,0,false,false⟩:S82)]) (inner:=[.int .i64 2,.int .i64 f.f1,.int .i64 0,.bool false,.bool false]) (ok:=fun _=>True) (okp:=fun _=>False) ?hr ?hp (fun _ hk=>hk.elim) trivial HO.out.2.1 HO.out.2.1.size (by simp) ?_;(case hd=>rfl);(case hg=>rfl);(case hr=>first|(go_simp;done)|(go_simp;rfl));(case hp=>exact Reps.c5 (k82_mkM _ _ _ (⟨2,f.f1,0,false,false⟩:S82)) (Reps.none _ _));intro v1 wa hv hb hg_ hnew_;obtain⟨hblk,B',n',e_,hN⟩:=HO.out.appP (x:=(⟨2,f.f1,0,false,false⟩:S82)) hv hb hg_;subst e_;have HB2:=A_ hblk;have HN:=A_ hN;clear c1f c3f u3 f1_ hv hb hg_ hnew_ hblk hN;have c3f:=(blk_cell HB2.out 3).trans rfl;have u3:=blk_frozen HB2.out 3))
  have H0:CkE w (wa.setCell ⟨g,3,none⟩ (.slice B' 1 n')) g q (startC f):=⟨_,_,_,_,HN.out⟩
  clear HO HN HB2 c3f u3
  generalize wa.setCell ⟨g,3,none⟩ (.slice B' 1 n')=wb at*
  obtain⟨A,n1,B,n2,hO⟩:=H0
  have HO:=A_ hO
  clear hO
  have c1f:=HO.out.cell1
  rw[HQ.out] at c1f
  have f3_:=(HO.out.2.1.cell (World.block_lt_of_cell? w _ G3.out)).trans G3.out
  go_wp2
  clear c1f f3_
  go_loopg [32] f.f3.length (fun kq v32 w'=>∃ (j kk:Nat) (c:CS S82) (A:Option Addr) (n1:Nat) (B:Option Addr) (n2:Nat),kk=kq∧j+kk=f.f3.length∧v32=.int .i64 j∧Aside0 (runC k fs gs mem f kk j c=some (a,b,d))∧Aside0 (Ck w w' g q c A n1 B n2))
  case atStart=>exact⟨0,_,startC f,A,n1,B,n2,rfl,by omega,rfl,HR,HO⟩
  case round=>
   clear HO HR
   obtain⟨j,kk,c,A,n1,B,n2,hkk,hjk,rfl,HR,HO⟩:=hrel
   have HKK:=A_ hkk
   clear hkk
   rcases Nat.eq_zero_or_pos kk with hk0|hk0
   ·
    subst hk0
    obtain rfl:j=f.f3.length:=by omega
    have hR':=HR.out
    rw[runC] at hR'
    simp only[Option.some.injEq,Prod.mk.injEq] at hR'
    obtain⟨rfl,rfl,rfl⟩:=hR'
    have c4f:=HO.out.cell4
    clear HR
    go_wp2
    go_quiet (fail)
    go_wp2
    go_ret3
    exact⟨rfl,(HO.out.drewN _).2.1⟩
   obtain⟨km,rfl⟩:∃ km,kk=km+1:=⟨kk - 1,by omega⟩
   have hR':=HR.out
   rw[runC] at hR'
   obtain⟨c2,hs,hR'⟩:=Option.bind_eq_some_iff.1 hR'
   have HST:=A_ hs
   have hlt:j<f.f3.length:=by omega
   obtain⟨ad3,eA,x0_,x1_⟩:=at_T71 R3.out (j:Int) (by omega) (by omega)
   subst eA
   rw[Int.toNat_natCast] at x0_ x1_
   replace x0_:=cl_ HO.out.2.1 x0_
   replace x1_:=cl_ HO.out.2.1 x1_
   have q5:((0:Int)≤(j:Int))=True:=eq_true (by omega)
   have q6:((j:Int)<(f.f3.length:Int))=True:=eq_true (by omega)
   have q7:decide ((j:Int)<(f.f3.length:Int))=true:=decide_eq_true (by omega)
   have q8:=decide_eq_true hlt
   have ew:IntKind.i64.wrap ((j:Int)+1)=((j+1:Nat):Int):=ck_w _ (by omega)
   clear HR hs hlt
   by_cases hz:c2.fa=0
   ·
    rw[if_pos hz] at hR'
    have HRn:=A_ hR'
    have bz:(c2.fa !=0)=false:=bne_eq_false_iff_eq.2 hz
    clear hR' hz
    go_upto_region 6 with (first|((with_reducible refine gd_ 9 rfl ?_);refine bx_ #[(.int .i64 0),(.int .i64 0)] 71 ?_;intro gx hg wx hbox hb;have BX:=A_ hbox;have NX:=A_ (HO.out.fresh_ne hg);have G0:=A_ (Nat.le_trans HO.out.2.1.size (Nat.le_of_eq hg.symm));replace HO:=A_ (HO.out.below hb);clear hbox hb hg;have z0:=(blk_cell BX.out 0).trans rfl;have v0:=blk_frozen BX.out 0;have z1:=(blk_cell BX.out 1).trans rfl;have v1:=blk_frozen BX.out 1))
    replace BX:Aside0 (((wx.setCell ⟨gx,0,none⟩ ((.int .i64 (rd_T71 f.f3 (j:Int)).f0))).setCell ⟨gx,1,none⟩ ((.int .i64 (rd_T71 f.f3 (j:Int)).f1))).heap[gx]? =some (.cells #[(.int .i64 (rd_T71 f.f3 (j:Int)).f0),(.int .i64 (rd_T71 f.f3 (j:Int)).f1)] 71 (0,0))):=⟨blk_put (cs:=#[(.int .i64 (rd_T71 f.f3 (j:Int)).f0),(.int .i64 0)]) (blk_put (cs:=#[(.int .i64 0),(.int .i64 0)]) (BX.out) 0 ((.int .i64 (rd_T71 f.f3 (j:Int)).f0)) rfl) 1 ((.int .i64 (rd_T71 f.f3 (j:Int)).f1)) rfl⟩;replace HO:Aside0 (Ck w ((wx.setCell ⟨gx,0,none⟩ ((.int .i64 (rd_T71 f.f3 (j:Int)).f0))).setCell ⟨gx,1,none⟩ ((.int .i64 (rd_T71 f.f3 (j:Int)).f1))) g q _ A n1 B n2):=⟨Ck.other (Ck.other (HO.out) G0.out NX.out 0 ((.int .i64 (rd_T71 f.f3 (j:Int)).f0))) G0.out NX.out 1 ((.int .i64 (rd_T71 f.f3 (j:Int)).f1))⟩;clear z0 v0 z1 v1;generalize ((wx.setCell ⟨gx,0,none⟩ ((.int .i64 (rd_T71 f.f3 (j:Int)).f0))).setCell ⟨gx,1,none⟩ ((.int .i64 (rd_T71 f.f3 (j:Int)).f1)))=wy at*
    have x0:=(blk_cell BX.out 0).trans rfl;have x1:=(blk_cell BX.out 1).trans rfl
    go_wp2_with (first|(go_at_call 35;refine(step_any k (rd_T71 f.f3 (j:Int)) f fs gs mem (ad.add (kf.toNat*4)) w _ g q _ c2 A n1 B n2 HO.out HM.out HQ.out HF.out HST.out).mono ?_;rintro e wz ⟨rfl,hE⟩;have HE:=A_ hE;clear HO BX x0 x1 hE;obtain⟨A',n1',B',n2',hO⟩:=HE.out;have HO:=A_ hO;have c5f:=HO.out.cell5;clear hO))
    go_roundg km
    case measure=>have:=HKK.out;omega
    case rel=>exact⟨j+1,km,c2,A',n1',B',n2',rfl,by omega,by first|rfl|(rw[ew]),HRn,HO⟩
   rw[if_neg hz] at hR'
   simp only[Option.some.injEq,Prod.mk.injEq] at hR'
   obtain⟨rfl,rfl,rfl⟩:=hR'
   have bz:(c2.fa !=0)=true:=bne_iff_ne.2 hz
   clear hz
   go_upto_region 6 with (first|((with_reducible refine gd_ 9 rfl ?_);refine bx_ #[(.int .i64 0),(.int .i64 0)] 71 ?_;intro gx hg wx hbox hb;have BX:=A_ hbox;have NX:=A_ (HO.out.fresh_ne hg);have G0:=A_ (Nat.le_trans HO.out.2.1.size (Nat.le_of_eq hg.symm));replace HO:=A_ (HO.out.below hb);clear hbox hb hg;have z0:=(blk_cell BX.out 0).trans rfl;have v0:=blk_frozen BX.out 0;have z1:=(blk_cell BX.out 1).trans rfl;have v1:=blk_frozen BX.out 1))
   replace BX:Aside0 (((wx.setCell ⟨gx,0,none⟩ ((.int .i64 (rd_T71 f.f3 (j:Int)).f0))).setCell ⟨gx,1,none⟩ ((.int .i64 (rd_T71 f.f3 (j:Int)).f1))).heap[gx]? =some (.cells #[(.int .i64 (rd_T71 f.f3 (j:Int)).f0),(.int .i64 (rd_T71 f.f3 (j:Int)).f1)] 71 (0,0))):=⟨blk_put (cs:=#[(.int .i64 (rd_T71 f.f3 (j:Int)).f0),(.int .i64 0)]) (blk_put (cs:=#[(.int .i64 0),(.int .i64 0)]) (BX.out) 0 ((.int .i64 (rd_T71 f.f3 (j:Int)).f0)) rfl) 1 ((.int .i64 (rd_T71 f.f3 (j:Int)).f1)) rfl⟩;replace HO:Aside0 (Ck w ((wx.setCell ⟨gx,0,none⟩ ((.int .i64 (rd_T71 f.f3 (j:Int)).f0))).setCell ⟨gx,1,none⟩ ((.int .i64 (rd_T71 f.f3 (j:Int)).f1))) g q _ A n1 B n2):=⟨Ck.other (Ck.other (HO.out) G0.out NX.out 0 ((.int .i64 (rd_T71 f.f3 (j:Int)).f0))) G0.out NX.out 1 ((.int .i64 (rd_T71 f.f3 (j:Int)).f1))⟩;clear z0 v0 z1 v1;generalize ((wx.setCell ⟨gx,0,none⟩ ((.int .i64 (rd_T71 f.f3 (j:Int)).f0))).setCell ⟨gx,1,none⟩ ((.int .i64 (rd_T71 f.f3 (j:Int)).f1)))=wy at*
   have x0:=(blk_cell BX.out 0).trans rfl;have x1:=(blk_cell BX.out 1).trans rfl
   go_wp2_with (first|(go_at_call 35;refine(step_any k (rd_T71 f.f3 (j:Int)) f fs gs mem (ad.add (kf.toNat*4)) w _ g q _ c2 A n1 B n2 HO.out HM.out HQ.out HF.out HST.out).mono ?_;rintro e wz ⟨rfl,hE⟩;have HE:=A_ hE;clear HO BX x0 x1 hE;obtain⟨A',n1',B',n2',hO⟩:=HE.out;have HO:=A_ hO;have c5f:=HO.out.cell5;clear hO))
   go_ret3
   exact⟨rfl,HO.out.2.1⟩
 rw[if_neg hk] at hr;cases hr

/-! A module in a block of one's own. -/
section
variable {W:World} {g:Nat} {A0:Option Addr} {c0:Nat} {A1:Option Addr} {c1:Nat} {f0:List S59} {f1:List S63} {f2:Bool} {f3 f4 f5:Int}
theorem cellS32_0 (h:W.heap[g]? =some (.cells #[.slice A0 f0.length c0,.slice A1 f1.length c1,.bool f2,.int .i64 f3,.int .i64 f4,.int .i64 f5] 32 (0,0))) : W.cell? ⟨g,0,none⟩=some (.slice A0 f0.length c0):=(blk_cell h 0).trans rfl
theorem cellS32_1 (h:W.heap[g]? =some (.cells #[.slice A0 f0.length c0,.slice A1 f1.length c1,.bool f2,.int .i64 f3,.int .i64 f4,.int .i64 f5] 32 (0,0))) : W.cell? ⟨g,1,none⟩=some (.slice A1 f1.length c1):=(blk_cell h 1).trans rfl
theorem cellS32_2 (h:W.heap[g]? =some (.cells #[.slice A0 f0.length c0,.slice A1 f1.length c1,.bool f2,.int .i64 f3,.int .i64 f4,.int .i64 f5] 32 (0,0))) : W.cell? ⟨g,2,none⟩=some (.bool f2):=(blk_cell h 2).trans rfl
theorem cellS32_3 (h:W.heap[g]? =some (.cells #[.slice A0 f0.length c0,.slice A1 f1.length c1,.bool f2,.int .i64 f3,.int .i64 f4,.int .i64 f5] 32 (0,0))) : W.cell? ⟨g,3,none⟩=some (.int .i64 f3):=(blk_cell h 3).trans rfl
theorem cellS32_4 (h:W.heap[g]? =some (.cells #[.slice A0 f0.length c0,.slice A1 f1.length c1,.bool f2,.int .i64 f3,.int .i64 f4,.int .i64 f5] 32 (0,0))) : W.cell? ⟨g,4,none⟩=some (.int .i64 f4):=(blk_cell h 4).trans rfl
theorem cellS32_5 (h:W.heap[g]? =some (.cells #[.slice A0 f0.length c0,.slice A1 f1.length c1,.bool f2,.int .i64 f3,.int .i64 f4,.int .i64 f5] 32 (0,0))) : W.cell? ⟨g,5,none⟩=some (.int .i64 f5):=(blk_cell h 5).trans rfl
end
def IsS32 (w0 W:World) (g:Nat) (f0:List S59) (f1:List S63) (f2:Bool) (f3 f4 f5:Int):Prop:=∃ A0 c0,∃ A1 c1,W.heap[g]? =some (.cells #[.slice A0 f0.length c0,.slice A1 f1.length c1,.bool f2,.int .i64 f3,.int .i64 f4,.int .i64 f5] 32 (0,0))∧w0.heap.size≤g∧(Kd.C k59 w0 A0 f0.length f0∧f0.length≤c0)∧Kd.C k63 w0 A1 f1.length f1∧f1.length≤c1
theorem IsS32.ge {w0 W:World} {g:Nat} {f0:List S59} {f1:List S63} {f2:Bool} {f3 f4 f5:Int} (h:IsS32 w0 W g f0 f1 f2 f3 f4 f5):w0.heap.size≤g:=by
 obtain⟨_,_,_,_,_,hg,_⟩:=h;exact hg
theorem IsS32.below {w0 W W1:World} {g:Nat} {f0:List S59} {f1:List S63} {f2:Bool} {f3 f4 f5:Int} (h:IsS32 w0 W g f0 f1 f2 f3 f4 f5) (hb:Below W.heap.size W W1):IsS32 w0 W1 g f0 f1 f2 f3 f4 f5:=by
 obtain⟨A0,c0,A1,c1,hh,hg,r0,r1⟩:=h
 exact⟨A0,c0,A1,c1,blk_below hh hb,hg,r0,r1⟩
section
variable {w0 W:World} {g:Nat} {f0:List S59} {f1:List S63} {f2:Bool} {f3 f4 f5:Int}
theorem IsS32.alloc (h:IsS32 w0 W g f0 f1 f2 f3 f4 f5) (o:Obj):IsS32 w0 (W.alloc o) g f0 f1 f2 f3 f4 f5:=h.below (below_alloc (Below.refl _ _) o)
theorem IsS32.drewN (h:IsS32 w0 W g f0 f1 f2 f3 f4 f5) (n:Nat):IsS32 w0 (W.drewN n) g f0 f1 f2 f3 f4 f5:=h.below (pw_below_drewN (Below.refl _ _) n)
theorem IsS32.drew (h:IsS32 w0 W g f0 f1 f2 f3 f4 f5):IsS32 w0 W.drew g f0 f1 f2 f3 f4 f5:=h.below (below_drew (Below.refl _ _))
end
theorem y0 {p q:Prop} (x:q) (h:q→p:=by intro h;repeat (first|(with_reducible first|exact h|apply IsS32.alloc|apply IsS32.drewN|apply IsS32.drew|apply IsS32.set_2|apply IsS32.set_3|apply IsS32.set_4|apply IsS32.set_5)|exact h)):p:=h x
theorem y1 {p q:Prop} (x:q) (h:q→p:=by intro h;repeat (first|(with_reducible first|exact h|apply below_alloc|apply pw_below_drewN|apply below_drew1|refine below_set ?_ (IsS32.ge (Aside0.out (by assumption))))|exact h)):p:=h x
def impl_check.f (k:Nat) (s0_0:List S59) (s0_1:List S63) (s0_2:Bool) (s0_3 s0_4 s0_5:Int) (a1:Int):Option (Int × Int × Int × Bool × Int × Int × Int):=(checkC k s0_0 s0_1 s0_2 a1).bind fun r=>some (r.1,r.2.1,r.2.2,s0_2,s0_3,s0_4,s0_5)
theorem impl_check.calls (k:Nat) (g:Nat) (s0_0:List S59) (s0_1:List S63) (s0_2:Bool) (s0_3 s0_4 s0_5:Int) (a1:Int) (r1 r2 r3:Int) (r4:Bool) (r5 r6 r7:Int) (w0 w:World) (hI:IsS32 w0 w g s0_0 s0_1 s0_2 s0_3 s0_4 s0_5) (hB:Below w0.heap.size w0 w) (h:impl_check.f k s0_0 s0_1 s0_2 s0_3 s0_4 s0_5 a1=some (r1,r2,r3,r4,r5,r6,r7)):
  Calls Try.prog 23 #[.pointer (some ⟨g,0,none⟩),.int .i64 a1] w fun e w'=>e=.returned (.tuple #[.int .i64 r1,.int .i64 r2,.int .i64 r3])∧IsS32 w0 w' g s0_0 s0_1 r4 r5 r6 r7∧Below w0.heap.size w0 w'∧KeepBut w w' g none:=by
 obtain⟨⟨a,b,d⟩,hr,h⟩:=Option.bind_eq_some_iff.1 h
 simp only[Option.some.injEq,Prod.mk.injEq] at h
 obtain⟨rfl,rfl,rfl,rfl,rfl,rfl,rfl⟩:=h
 have hI2:=hI
 obtain⟨A0,c0,A1,c1,hh,hg,q0,q1⟩:=hI
 refine(check_any k s0_0 s0_1 s0_2 a1 g a b d w ⟨g,A0,c0,A1,c1,rfl,(blk_cell hh 0).trans rfl,(blk_cell hh 1).trans rfl,(blk_cell hh 2).trans rfl,Kd.C_below q0.1 hB,Kd.C_below q1.1 hB⟩ hr).mono ?_
 rintro e w' ⟨rfl,hb⟩
 exact⟨rfl,hI2.below hb,below_weaken hB hB.size hb,KeepBut.of_below hb g none⟩

/-! ### impl_CheckFunc: function 9 -/
def impl_CheckFunc.f (k:Nat) (l0_0:List (S59)) (l0_1:List (S63)) (a0_2:Bool) (a0_3:Int) (a0_4:Int) (a0_5:Int) (a1:Int):Option (Int × Int):=if a1<0 then (some (1,0)) else (if a1≥(l0_0.length:Int) then (some (1,0)) else ((impl_GoodShape.f k l0_0 l0_1 a0_2 a0_3 a0_4 a0_5).bind fun t359=>(if t359=true then ((impl_check.f k l0_0 l0_1 a0_2 a0_3 a0_4 a0_5 a1).bind fun bt360=>(some (bt360.1,bt360.2.1))) else (some (1,0)))))
theorem impl_CheckFunc.calls (k:Nat) (A0_0:Option Addr) (c0_0:Nat) (l0_0:List (S59)) (A0_1:Option Addr) (c0_1:Nat) (l0_1:List (S63)) (a0_2:Bool) (a0_3:Int) (a0_4:Int) (a0_5:Int) (a1:Int) (r1:Int) (r2:Int) (w:World) (hr0_0:Kd.C k59 w A0_0 l0_0.length l0_0) (hc0_0:l0_0.length≤c0_0) (hr0_1:Kd.C k63 w A0_1 l0_1.length l0_1) (hc0_1:l0_1.length≤c0_1) (h:impl_CheckFunc.f k l0_0 l0_1 a0_2 a0_3 a0_4 a0_5 a1=some (r1,r2)):
  Calls Try.prog 9 #[.agg #[.slice A0_0 l0_0.length c0_0,.slice A0_1 l0_1.length c0_1,.bool a0_2,.int .i64 a0_3,.int .i64 a0_4,.int .i64 a0_5],.int .i64 a1] w fun e w'=>e=.returned (.tuple #[.int .i64 r1,.int .i64 r2])∧Below w.heap.size w w':=by
 have hu32:=Try.underlying32
 have HR0_0:=A_ hr0_0
 have HC0_0:=A_ hc0_0
 clear hr0_0 hc0_0
 have HR0_1:=A_ hr0_1
 have HC0_1:=A_ hc0_1
 clear hr0_1 hc0_1
 have HB:=A_ (Below.refl w.heap.size w)
 have H:(if a1<0 then (some (1,0)) else (if a1≥(l0_0.length:Int) then (some (1,0)) else ((impl_GoodShape.f k l0_0 l0_1 a0_2 a0_3 a0_4 a0_5).bind fun t359=>(if t359=true then ((impl_check.f k l0_0 l0_1 a0_2 a0_3 a0_4 a0_5 a1).bind fun bt360=>(some (bt360.1,bt360.2.1))) else (some (1,0))))))=some (r1,r2):=h
 clear h
 by_cases c3:a1<0
 ·
  rw[if_pos c3] at H
  have c3b0:=decide_eq_true c3
  clear c3
  simp only[Option.some.injEq,Prod.mk.injEq] at H
  obtain⟨rfl,rfl⟩:=H
  go_enter Try.func9,Try.ntmps9
  go_wp2_with (first|((with_reducible refine gd_ 2 rfl ?_);(try (refine gate_guard (by rfl) ?_;dsimp only));refine bx_ #[.slice A0_0 l0_0.length c0_0,.slice A0_1 l0_1.length c0_1,.bool a0_2,.int .i64 a0_3,.int .i64 a0_4,.int .i64 a0_5] 32 ?_;intro gb358 hg w4 hbox hb;have BK358:=A_ hbox;have GW358:=gw_ hg HB;have GE358:=GW358;replace HB:=bs_ HB hb;clear hb hbox hg))
  go_ret2
  exact⟨rr_,bw HB.out⟩
 rw[if_neg c3] at H
 have c3b0:=decide_eq_false c3
 clear c3
 by_cases c5:a1≥(l0_0.length:Int)
 ·
  rw[if_pos c5] at H
  have c5b0:=decide_eq_true c5
  clear c5
  simp only[Option.some.injEq,Prod.mk.injEq] at H
  obtain⟨rfl,rfl⟩:=H
  go_enter Try.func9,Try.ntmps9
  go_wp2_with (first|((with_reducible refine gd_ 2 rfl ?_);(try (refine gate_guard (by rfl) ?_;dsimp only));refine bx_ #[.slice A0_0 l0_0.length c0_0,.slice A0_1 l0_1.length c0_1,.bool a0_2,.int .i64 a0_3,.int .i64 a0_4,.int .i64 a0_5] 32 ?_;intro gb358 hg w6 hbox hb;have BK358:=A_ hbox;have GW358:=gw_ hg HB;have GE358:=GW358;replace HB:=bs_ HB hb;clear hb hbox hg;obtain⟨hcz7_0,hcz7_1,hcz7_2,hcz7_3,hcz7_4,hcz7_5⟩:=cs6_ BK358.out;obtain⟨hfz7_0,hfz7_1,hfz7_2,hfz7_3,hfz7_4,hfz7_5⟩:=fz6_ BK358.out))
  go_ret2
  exact⟨rr_,bw HB.out⟩
 rw[if_neg c5] at H
 have c5b0:=decide_eq_false c5
 clear c5
 replace H:=bi_ H
 obtain⟨t359,A80,H⟩:=H
 have A8:=A_ A80
 clear A80
 by_cases c9:t359=true
 ·
  subst c9
  replace H:=iT_ H
  replace H:=Option.bind_eq_some_iff.mp H
  obtain⟨⟨t360,t361,t362,t363,t364,t365,t366⟩,A100,H⟩:=H
  replace H:(some (t360,t361))=some (r1,r2):=H
  have A10:=A_ A100
  clear A100
  simp only[Option.some.injEq,Prod.mk.injEq] at H
  obtain⟨rfl,rfl⟩:=H
  go_enter Try.func9,Try.ntmps9
  go_wp2_with (first|((with_reducible refine gd_ 2 rfl ?_);(try (refine gate_guard (by rfl) ?_;dsimp only));refine bx_ #[.slice A0_0 l0_0.length c0_0,.slice A0_1 l0_1.length c0_1,.bool a0_2,.int .i64 a0_3,.int .i64 a0_4,.int .i64 a0_5] 32 ?_;intro gb358 hg w11 hbox hb;have HI358:=A_ ((show IsS32 w w11 gb358 l0_0 l0_1 a0_2 a0_3 a0_4 a0_5 from ⟨_,_,_,_,hbox,(sz_ hg (bw HB.out):w.heap.size≤gb358),⟨HR0_0.out,HC0_0.out⟩,HR0_1.out,HC0_1.out⟩));have GW358:=gw_ hg HB;have GE358:=GW358;replace HB:=bs_ HB hb;clear hb hbox hg;obtain⟨ASz12_0,cSz12_0,ASz12_1,cSz12_1,HGz12,hgz12,HSz12_0,HSz12_1⟩:=HI358.out;have hcz12_0:=cellS32_0 HGz12;have hcz12_1:=cellS32_1 HGz12;have hcz12_2:=cellS32_2 HGz12;have hcz12_3:=cellS32_3 HGz12;have hcz12_4:=cellS32_4 HGz12;have hcz12_5:=cellS32_5 HGz12;have hfz12_2:=blk_frozen HGz12 2;have hfz12_3:=blk_frozen HGz12 3;have hfz12_4:=blk_frozen HGz12 4;have hfz12_5:=blk_frozen HGz12 5;clear HGz12 hgz12)|(go_at_call 22;(with_reducible refine(impl_GoodShape.calls k _ _ l0_0 _ _ l0_1 a0_2 a0_3 a0_4 a0_5 true _ ?side1 ?side2 ?side3 ?side4 A8.out).mono ?_);(case side1=>repeat (first|exact(Kd.C_below HSz12_0.1 HB.out)|(with_reducible refine Kd.C_alloc ?_ _)|(with_reducible refine Kd.C_drewN ?_ _)|(with_reducible refine Kd.C_drew ?_)));(case side2=>exact HSz12_0.2);(case side3=>repeat (first|exact(Kd.C_below HSz12_1.1 HB.out)|(with_reducible refine Kd.C_alloc ?_ _)|(with_reducible refine Kd.C_drewN ?_ _)|(with_reducible refine Kd.C_drew ?_)));(case side4=>exact HSz12_1.2);rintro e w13 ⟨rfl,hb⟩;replace HI358:=A_ (IsS32.below (y0 HI358.out) hb);replace HB:=A_ (below_step (y1 HB.out) hb);(try clear hb);(try clear hb2);(try clear hk);(try clear hi))|((with_reducible refine gc_ 23 rfl ?_);refine goesL_ (some 25) rfl rfl Try.func23 (by kernel_rfl) rfl #[.pointer (some ⟨gb358,0,none⟩),.int .i64 a1] rfl ar ?_;(with_reducible refine(impl_check.calls k gb358 l0_0 l0_1 a0_2 a0_3 a0_4 a0_5 a1 t360 t361 t362 t363 t364 t365 t366 w _ ?side1 ?side2 A10.out).mono ?_);(case side1=>repeat (first|(with_reducible first|exact HI358.out|apply IsS32.alloc|apply IsS32.drewN|apply IsS32.drew|apply IsS32.set_2|apply IsS32.set_3|apply IsS32.set_4|apply IsS32.set_5)|exact HI358.out));(case side2=>repeat (first|(with_reducible first|exact HB.out|apply below_alloc|apply pw_below_drewN|apply below_drew1|refine below_set ?_ (IsS32.ge HI358.out))|exact HB.out));rintro e w14 ⟨rfl,hi,hb,hk⟩;refine⟨_,rfl,?_⟩;replace HB:=A_ (hb);replace HI358:=A_ (hi);(try clear hb);(try clear hb2);(try clear hk);(try clear hi)))
  go_ret2
  exact⟨rr_,y1 HB.out⟩
 replace c9:=Bool.eq_false_iff.mpr c9
 subst c9
 replace H:=iF_ H
 simp only[Option.some.injEq,Prod.mk.injEq] at H
 obtain⟨rfl,rfl⟩:=H
 go_enter Try.func9,Try.ntmps9
 go_wp2_with (first|((with_reducible refine gd_ 2 rfl ?_);(try (refine gate_guard (by rfl) ?_;dsimp only));refine bx_ #[.slice A0_0 l0_0.length c0_0,.slice A0_1 l0_1.length c0_1,.bool a0_2,.int .i64 a0_3,.int .i64 a0_4,.int .i64 a0_5] 32 ?_;intro gb358 hg w15 hbox hb;have BK358:=A_ hbox;have GW358:=gw_ hg HB;have GE358:=GW358;replace HB:=bs_ HB hb;clear hb hbox hg;obtain⟨hcz16_0,hcz16_1,hcz16_2,hcz16_3,hcz16_4,hcz16_5⟩:=cs6_ BK358.out;obtain⟨hfz16_0,hfz16_1,hfz16_2,hfz16_3,hfz16_4,hfz16_5⟩:=fz6_ BK358.out)|(go_at_call 22;(with_reducible refine(impl_GoodShape.calls k _ _ l0_0 _ _ l0_1 a0_2 a0_3 a0_4 a0_5 false _ ?side1 ?side2 ?side3 ?side4 A8.out).mono ?_);(case side1=>exact cb_ HR0_0 HB);(case side2=>exact HC0_0.out);(case side3=>exact cb_ HR0_1 HB);(case side4=>exact HC0_1.out);rintro e w17 ⟨rfl,hb⟩;replace BK358:=kb_ BK358 hb;replace HB:=bs_ HB hb;(try clear hb);(try clear hb2);(try clear hk);(try clear hi)))
 go_ret2
 exact⟨rr_,bw HB.out⟩

/-! ### laws_eqIntS: function 61 -/
def laws_eqIntS.l0:Nat→List Int→List Int→Int→Option (Bool)
 |0,_,_,_=>none
 |k+1,x0,x1,x5=>if x5<(x0.length:Int) then (if 0≤x5 then (if x5<(x1.length:Int) then (if (rd x0 x5)=(rd x1 x5) then (laws_eqIntS.l0 k x0 x1 (wrap64 (x5+1))) else (some false)) else (none)) else (none)) else (some true)
def laws_eqIntS.f (k:Nat) (l0:List Int) (l1:List Int):Option (Bool):=if (l0.length:Int)=(l1.length:Int) then (laws_eqIntS.l0 k l0 l1 0) else (some false)
theorem laws_eqIntS.calls (k:Nat) (A0:Option Addr) (c0:Nat) (l0:List Int) (A1:Option Addr) (c1:Nat) (l1:List Int) (r:Bool) (w:World) (hr0:Kd.C (Kd.int .i64) w A0 l0.length l0) (hc0:l0.length≤c0) (hr1:Kd.C (Kd.int .i64) w A1 l1.length l1) (hc1:l1.length≤c1) (h:laws_eqIntS.f k l0 l1=some r):
  Calls Try.prog 61 #[.slice A0 l0.length c0,.slice A1 l1.length c1] w fun e w'=>e=.returned (.bool r)∧Drawn0 w w':=by
 have HR0:=A_ hr0
 have HC0:=A_ hc0
 clear hr0 hc0
 have HR1:=A_ hr1
 have HC1:=A_ hc1
 clear hr1 hc1
 have H:(if (l0.length:Int)=(l1.length:Int) then (laws_eqIntS.l0 k l0 l1 0) else (some false))=some r:=h
 clear h
 by_cases c3:(l0.length:Int)=(l1.length:Int)
 ·
  rw[if_pos c3] at H
  obtain⟨c3b0,c3b1⟩:=eT_ c3
  have c3b2:(l0.length==l1.length)=true:=by first|simpa using c3|(simp at c3 ⊢;omega)
  clear c3
  have H':=A_ H
  clear H
  go_enter Try.func61,Try.ntmps61
  go_wp2
  repeat (go_quiet (fail);try go_wp2)
  (try simp only[Act.put,List.setIfInBounds_toArray,List.set_cons_zero,List.set_cons_succ])
  go_loopg [5] k (fun kq v5 w'=>∃ (x5_1:Int),v5=.int .i64 x5_1∧Aside0 (laws_eqIntS.l0 kq l0 l1 x5_1=some r)∧Aside0 (kq≤k)∧Drawn0 w w')
  case atStart=>exact⟨(0),rs_,H',⟨Nat.le_refl _⟩,dr_⟩
  case round=>
   clear H'
   try clear c1 c3 c3b0 c3b1 c3b2
   obtain⟨x5_1,rfl,HA,HK1,⟨m1,rfl⟩⟩:=hrel
   cases gk with
   |zero=>exact absurd HA.out (by simp[laws_eqIntS.l0])
   |succ k1=>
    have H:=HA.out
    clear HA
    simp only[laws_eqIntS.l0] at H
    by_cases c4:x5_1<(l0.length:Int)
    ·
     rw[if_pos c4] at H
     have c4b0:=decide_eq_true c4
     clear c4
     by_cases c5:0≤x5_1
     ·
      rw[if_pos c5] at H
      have c5b0:=decide_eq_true c5
      clear c5
      by_cases c6:x5_1<(l1.length:Int)
      ·
       rw[if_pos c6] at H
       have c6b0:=decide_eq_true c6
       clear c6
       by_cases c7:(rd l0 x5_1)=(rd l1 x5_1)
       ·
        rw[if_pos c7] at H
        obtain⟨c7b0,c7b1⟩:=eT_ c7
        clear c7
        have H':=A_ H
        clear H
        have p367:0≤(x5_1:Int):=od_
        have q367:x5_1<(l0.length:Int):=od_
        obtain⟨ad367,e367,hx367_0⟩:=Kd.at_int HR0.out x5_1 p367 q367
        cases e367
        replace p367:=eq_true p367
        replace q367:=eq_true q367
        have p368:0≤(x5_1:Int):=od_
        have q368:x5_1<(l1.length:Int):=od_
        obtain⟨ad368,e368,hx368_0⟩:=Kd.at_int HR1.out x5_1 p368 q368
        cases e368
        replace p368:=eq_true p368
        replace q368:=eq_true q368
        go_wp2
        repeat (go_quiet (fail);try go_wp2)
        go_roundg k1
        case measure=>have:=HK1.out;omega
        case rel=>exact⟨(wrap64 (x5_1+1)),rs_,H',⟨by have:=HK1.out;omega⟩,dr_⟩
       rw[if_neg c7] at H
       obtain⟨c7b0,c7b1⟩:=eF_ c7
       obtain rfl:=Option.some.inj H
       clear H
       have p367:0≤(x5_1:Int):=od_
       have q367:x5_1<(l0.length:Int):=od_
       obtain⟨ad367,e367,hx367_0⟩:=Kd.at_int HR0.out x5_1 p367 q367
       cases e367
       replace p367:=eq_true p367
       replace q367:=eq_true q367
       have p368:0≤(x5_1:Int):=od_
       have q368:x5_1<(l1.length:Int):=od_
       obtain⟨ad368,e368,hx368_0⟩:=Kd.at_int HR1.out x5_1 p368 q368
       cases e368
       replace p368:=eq_true p368
       replace q368:=eq_true q368
       go_wp2
       repeat (go_quiet (fail);try go_wp2)
       go_ret
       exact⟨rs_,dr_⟩
      rw[if_neg c6] at H
      exact absurd H (by simp)
     rw[if_neg c5] at H
     exact absurd H (by simp)
    rw[if_neg c4] at H
    have c4b0:=decide_eq_false c4
    clear c4
    obtain rfl:=Option.some.inj H
    clear H
    go_wp2
    repeat (go_quiet (fail);try go_wp2)
    go_ret
    exact⟨rs_,dr_⟩
 rw[if_neg c3] at H
 obtain⟨c3b0,c3b1⟩:=eF_ c3
 have c3b2:(l0.length==l1.length)=false:=by first|simpa using c3|(simp at c3 ⊢;omega)
 obtain rfl:=Option.some.inj H
 clear H
 go_enter Try.func61,Try.ntmps61
 go_wp2
 repeat (go_quiet (fail);try go_wp2)
 go_ret
 exact⟨rs_,dr_⟩

/-! ### laws_eqIns: function 79 -/
def laws_eqIns.f (a0_0:Int) (a0_1:Int) (a1_0:Int) (a1_1:Int):Option (Bool):=if a0_0=a1_0 then (if a0_1=a1_1 then (some true) else (some false)) else (some false)
theorem laws_eqIns.calls (a0_0:Int) (a0_1:Int) (a1_0:Int) (a1_1:Int) (r:Bool) (w:World) (h:laws_eqIns.f a0_0 a0_1 a1_0 a1_1=some r):
  Calls Try.prog 79 #[.agg #[.int .i64 a0_0,.int .i64 a0_1],.agg #[.int .i64 a1_0,.int .i64 a1_1]] w fun e w'=>e=.returned (.bool r)∧Below w.heap.size w w':=by
 have hu71:=Try.underlying71
 have HB:=A_ (Below.refl w.heap.size w)
 have H:(if a0_0=a1_0 then (if a0_1=a1_1 then (some true) else (some false)) else (some false))=some r:=h
 clear h
 by_cases c3:a0_0=a1_0
 ·
  rw[if_pos c3] at H
  obtain⟨c3b0,c3b1⟩:=eT_ c3
  clear c3
  by_cases c4:a0_1=a1_1
  ·
   rw[if_pos c4] at H
   obtain⟨c4b0,c4b1⟩:=eT_ c4
   clear c4
   obtain rfl:=Option.some.inj H
   clear H
   go_enter Try.func79,Try.ntmps79
   go_wp2_with (first|((with_reducible refine gd_ 2 rfl ?_);refine bx_ #[.int .i64 a0_0,.int .i64 a0_1] 71 ?_;intro gb369 hg w5 hbox hb;have BK369:=A_ hbox;have GW369:=gw_ hg HB;have GE369:=GW369;replace HB:=bs_ HB hb;clear hb hbox hg)|((with_reducible refine gd_ 3 rfl ?_);refine bx_ #[.int .i64 a1_0,.int .i64 a1_1] 71 ?_;intro gb370 hg w6 hbox hb;have BK370:=A_ hbox;have GW370:=gw_ hg HB;have GE370:=GW370;obtain⟨NB369_370,NB370_369⟩:=nb_ BK369 hg;replace BK369:=kb_ BK369 hb;replace HB:=bs_ HB hb;clear hb hbox hg;have hnb7:=NB369_370.out;have hnc7:=NB370_369.out;obtain⟨hcz8_0,hcz8_1⟩:=cs2_ BK369.out;obtain⟨hfz8_0,hfz8_1⟩:=fz2_ BK369.out;obtain⟨hcz9_0,hcz9_1⟩:=cs2_ BK370.out;obtain⟨hfz9_0,hfz9_1⟩:=fz2_ BK370.out))
   go_ret
   exact⟨rr_,bw HB.out⟩
  rw[if_neg c4] at H
  obtain⟨c4b0,c4b1⟩:=eF_ c4
  obtain rfl:=Option.some.inj H
  clear H
  go_enter Try.func79,Try.ntmps79
  go_wp2_with (first|((with_reducible refine gd_ 2 rfl ?_);refine bx_ #[.int .i64 a0_0,.int .i64 a0_1] 71 ?_;intro gb369 hg w10 hbox hb;have BK369:=A_ hbox;have GW369:=gw_ hg HB;have GE369:=GW369;replace HB:=bs_ HB hb;clear hb hbox hg)|((with_reducible refine gd_ 3 rfl ?_);refine bx_ #[.int .i64 a1_0,.int .i64 a1_1] 71 ?_;intro gb370 hg w11 hbox hb;have BK370:=A_ hbox;have GW370:=gw_ hg HB;have GE370:=GW370;obtain⟨NB369_370,NB370_369⟩:=nb_ BK369 hg;replace BK369:=kb_ BK369 hb;replace HB:=bs_ HB hb;clear hb hbox hg;have hnb12:=NB369_370.out;have hnc12:=NB370_369.out;obtain⟨hcz13_0,hcz13_1⟩:=cs2_ BK369.out;obtain⟨hfz13_0,hfz13_1⟩:=fz2_ BK369.out;obtain⟨hcz14_0,hcz14_1⟩:=cs2_ BK370.out;obtain⟨hfz14_0,hfz14_1⟩:=fz2_ BK370.out))
  go_ret
  exact⟨rr_,bw HB.out⟩
 rw[if_neg c3] at H
 obtain⟨c3b0,c3b1⟩:=eF_ c3
 obtain rfl:=Option.some.inj H
 clear H
 go_enter Try.func79,Try.ntmps79
 go_wp2_with (first|((with_reducible refine gd_ 2 rfl ?_);refine bx_ #[.int .i64 a0_0,.int .i64 a0_1] 71 ?_;intro gb369 hg w15 hbox hb;have BK369:=A_ hbox;have GW369:=gw_ hg HB;have GE369:=GW369;replace HB:=bs_ HB hb;clear hb hbox hg)|((with_reducible refine gd_ 3 rfl ?_);refine bx_ #[.int .i64 a1_0,.int .i64 a1_1] 71 ?_;intro gb370 hg w16 hbox hb;have BK370:=A_ hbox;have GW370:=gw_ hg HB;have GE370:=GW370;obtain⟨NB369_370,NB370_369⟩:=nb_ BK369 hg;replace BK369:=kb_ BK369 hb;replace HB:=bs_ HB hb;clear hb hbox hg;have hnb17:=NB369_370.out;have hnc17:=NB370_369.out;obtain⟨hcz18_0,hcz18_1⟩:=cs2_ BK369.out;obtain⟨hfz18_0,hfz18_1⟩:=fz2_ BK369.out;obtain⟨hcz19_0,hcz19_1⟩:=cs2_ BK370.out;obtain⟨hfz19_0,hfz19_1⟩:=fz2_ BK370.out))
 go_ret
 exact⟨rr_,bw HB.out⟩

end Go.Proofs.Ytghogonibanieaa.Q

