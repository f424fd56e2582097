-- Written by a program of this session; it walks the functions that the law reaches.
import Derived.Test.YtanhbfhmgmjdgaaQx0
import Derived.Test.YtanhbfhmgmjdgaaQx5
import Derived.Test.YtanhbfhmgmjdgaaQx6
import Derived.Test.YtanhbfhmgmjdgaaQx9
namespace Go.Proofs.Ytanhbfhmgmjdgaa.Q
open Go.RowKit Go.Proofs.YtanhbfhmgmjdgaaW.PrintWords Go.Proofs.YtanhbfhmgmjdgaaW.PrintLast Go.Proofs.YtanhbfhmgmjdgaaW.PrintMore
attribute [local go_sem] max2_int min2_int max_two min_two max_three min_three max_four min_four   -- for this text's walks alone
set_option linter.unusedVariables false
set_option linter.unusedSimpArgs false
set_option maxRecDepth 100000
set_option maxHeartbeats 8000000


/-! ### spec_l7S_ins: function 57 (walked by hand) -/
section
variable (x:S103) (fs:List S88) (gs:List S75) (mem:Bool) (res:Int) (sl:List Int) (w0 w:World) (g:Nat) (q:Nat→Value) (c c':CS S131) (A:Option Addr) (n1:Nat) (B:Option Addr) (n2:Nat)
theorem ins_1 (h:Cs w0 w g q c A n1 B n2) (hm:SEnv w0 q fs gs mem res sl) (hop:x.f0=1) (hc:c'=c):
  Calls Try.prog 57 #[.pointer (some ⟨g,0,none⟩),.agg #[.int .i64 x.f0,.int .i64 x.f1]] w fun e w'=>e=.returned (.tuple #[])∧CsE w0 w' g q c':=by
 have HO:=A_ h
 have HK:=A_ (KeepBut.refl w g none)
 have hu71:=Try.underlying103
 have hu91:=Try.underlying131
 have HM:=A_ hm
 clear h hm
 subst hc
 have b1:=e1_ hop
 clear hop
 go_enter Try.func57,Try.ntmps57
 go_wp2_with (first|((with_reducible refine gd_ 3 rfl ?_);refine bx_ #[.int .i64 x.f0,.int .i64 x.f1] 103 ?_;intro gx hg wx hbox hb;have BX:=A_ hbox;have NX:=A_ (HO.out.fresh_ne hg);replace HO:=A_ (HO.out.below hb);replace HK:=A_ (HK.out.trans (KeepBut.of_below hb g none) (.inl rfl));clear hbox hb hg;obtain⟨x0,x1⟩:=cp2_ BX.out))
 first|go_end0|((try simp only[Exit.inBlock,Exit.then]);refine rt_ ?_)
 exact⟨rfl,_,_,_,_,HO.out⟩
theorem ins_0 (h:Cs w0 w g q c A n1 B n2) (hm:SEnv w0 q fs gs mem res sl) (hop:x.f0=0) (hr:dieS c=some c'):
  Calls Try.prog 57 #[.pointer (some ⟨g,0,none⟩),.agg #[.int .i64 x.f0,.int .i64 x.f1]] w fun e w'=>e=.returned (.tuple #[])∧CsE w0 w' g q c':=by
 have HO:=A_ h
 have HK:=A_ (KeepBut.refl w g none)
 have hu71:=Try.underlying103
 have hu91:=Try.underlying131
 have HM:=A_ hm
 clear h hm
 have b1:=ne_ hop 1
 have b0:=e1_ hop
 have HR:=A_ hr
 clear hr hop
 go_enter Try.func57,Try.ntmps57
 go_wp2_with (first|((with_reducible refine gd_ 3 rfl ?_);refine bx_ #[.int .i64 x.f0,.int .i64 x.f1] 103 ?_;intro gx hg wx hbox hb;have BX:=A_ hbox;have NX:=A_ (HO.out.fresh_ne hg);replace HO:=A_ (HO.out.below hb);replace HK:=A_ (HK.out.trans (KeepBut.of_below hb g none) (.inl rfl));clear hbox hb hg;obtain⟨x0,x1⟩:=cp2_ BX.out)|(go_at_call 73;refine(sdie_any w0 _ g q _ c' A n1 _ n2 HO.out HR.out).mono ?_;rintro e w5 ⟨rfl,hE⟩;have HE:=A_ hE;clear hE))
 first|go_end0|((try simp only[Exit.inBlock,Exit.then]);refine rt_ ?_)
 exact⟨rfl,HE.out⟩
theorem ins_15 (h:Cs w0 w g q c A n1 B n2) (hm:SEnv w0 q fs gs mem res sl) (hop:x.f0=15) (c1:CS S131) (t:Int) (ht:takeS c res=some (c1,t)) (hr:dieS c1=some c'):
  Calls Try.prog 57 #[.pointer (some ⟨g,0,none⟩),.agg #[.int .i64 x.f0,.int .i64 x.f1]] w fun e w'=>e=.returned (.tuple #[])∧CsE w0 w' g q c':=by
 have HO:=A_ h
 have HK:=A_ (KeepBut.refl w g none)
 have hu71:=Try.underlying103
 have hu91:=Try.underlying131
 have HM:=A_ hm
 clear h hm
 have b1:=ne_ hop 1
 have b0:=ne_ hop 0
 have b15:=e1_ hop
 have HR:=A_ hr
 have HT:=A_ ht
 clear hr ht hop
 obtain⟨AF,cF,AG,cG,AS,cS,e0_,e1_,e2_,e7_,e14_,rF,rG,rS⟩:=HM.out
 have E7:=A_ e7_
 clear e0_ e1_ e2_ e7_ e14_ rF rG rS
 go_enter Try.func57,Try.ntmps57
 go_upto_region 7 with (first|((with_reducible refine gd_ 3 rfl ?_);refine bx_ #[.int .i64 x.f0,.int .i64 x.f1] 103 ?_;intro gx hg wx hbox hb;have BX:=A_ hbox;have NX:=A_ (HO.out.fresh_ne hg);replace HO:=A_ (HO.out.below hb);replace HK:=A_ (HK.out.trans (KeepBut.of_below hb g none) (.inl rfl));clear hbox hb hg;obtain⟨x0,x1⟩:=cp2_ BX.out))
 have c7f:=HO.out.cell7
 rw[E7.out] at c7f
 go_wp2_with (first|(go_at_call 74;refine(stake_any res t w0 _ g q _ c1 A n1 _ n2 HO.out HT.out).mono ?_;rintro e w5 ⟨rfl,hO,hK⟩;replace HO:=A_ hO;replace HK:=A_ (HK.out.trans hK (.inl rfl));replace BX:=A_ (KeepBut.blk hK BX.out NX.out.1 (by simp));clear x0 x1 hO hK;obtain⟨x0,x1⟩:=cp2_ BX.out;clear c7f)|(go_at_call 73;refine(sdie_any w0 _ g q _ c' A n1 _ n2 HO.out HR.out).mono ?_;rintro e w5 ⟨rfl,hE⟩;have HE:=A_ hE;clear hE))
 first|go_end0|((try simp only[Exit.inBlock,Exit.then]);refine rt_ ?_)
 exact⟨rfl,HE.out⟩
theorem ins_26 (h:Cs w0 w g q c A n1 B n2) (hm:SEnv w0 q fs gs mem res sl) (hop:x.f0=26) (t:Int) (hr:takeS c 1=some (c',t)):
  Calls Try.prog 57 #[.pointer (some ⟨g,0,none⟩),.agg #[.int .i64 x.f0,.int .i64 x.f1]] w fun e w'=>e=.returned (.tuple #[])∧CsE w0 w' g q c':=by
 have HO:=A_ h
 have HK:=A_ (KeepBut.refl w g none)
 have hu71:=Try.underlying103
 have hu91:=Try.underlying131
 have HM:=A_ hm
 clear h hm
 have b1:=ne_ hop 1
 have b0:=ne_ hop 0
 have b15:=ne_ hop 15
 have b26:=e1_ hop
 have HR:=A_ hr
 clear hr hop
 go_enter Try.func57,Try.ntmps57
 go_wp2_with (first|((with_reducible refine gd_ 3 rfl ?_);refine bx_ #[.int .i64 x.f0,.int .i64 x.f1] 103 ?_;intro gx hg wx hbox hb;have BX:=A_ hbox;have NX:=A_ (HO.out.fresh_ne hg);replace HO:=A_ (HO.out.below hb);replace HK:=A_ (HK.out.trans (KeepBut.of_below hb g none) (.inl rfl));clear hbox hb hg;obtain⟨x0,x1⟩:=cp2_ BX.out)|(go_at_call 74;refine(stake_any 1 t w0 _ g q _ c' A n1 _ n2 HO.out HR.out).mono ?_;rintro e w5 ⟨rfl,hO,hK⟩;replace HO:=A_ hO;replace HK:=A_ (HK.out.trans hK (.inl rfl));replace BX:=A_ (KeepBut.blk hK BX.out NX.out.1 (by simp));clear x0 x1 hO hK;obtain⟨x0,x1⟩:=cp2_ BX.out))
 first|go_end0|((try simp only[Exit.inBlock,Exit.then]);refine rt_ ?_)
 exact⟨rfl,_,_,_,_,HO.out⟩
theorem ins_27 (h:Cs w0 w g q c A n1 B n2) (hm:SEnv w0 q fs gs mem res sl) (hop:x.f0=27) (c1 c2 c3:CS S131) (t a b:Int) (h1:takeS c 127=some (c1,t)) (h2:takeS c1 1=some (c2,a)) (h3:takeS c2 a=some (c3,b)) (hr:c3.put b=some c'):
  Calls Try.prog 57 #[.pointer (some ⟨g,0,none⟩),.agg #[.int .i64 x.f0,.int .i64 x.f1]] w fun e w'=>e=.returned (.tuple #[])∧CsE w0 w' g q c':=by
 have HO:=A_ h
 have HK:=A_ (KeepBut.refl w g none)
 have hu71:=Try.underlying103
 have hu91:=Try.underlying131
 have HM:=A_ hm
 clear h hm
 have b1:=ne_ hop 1
 have b0:=ne_ hop 0
 have b15:=ne_ hop 15
 have b26:=ne_ hop 26
 have b27:=e1_ hop
 have HR:=A_ hr
 have H1:=A_ h1;have H2:=A_ h2;have H3:=A_ h3
 clear hr h1 h2 h3 hop
 go_enter Try.func57,Try.ntmps57
 go_upto_region 13 with (first|((with_reducible refine gd_ 3 rfl ?_);refine bx_ #[.int .i64 x.f0,.int .i64 x.f1] 103 ?_;intro gx hg wx hbox hb;have BX:=A_ hbox;have NX:=A_ (HO.out.fresh_ne hg);replace HO:=A_ (HO.out.below hb);replace HK:=A_ (HK.out.trans (KeepBut.of_below hb g none) (.inl rfl));clear hbox hb hg;obtain⟨x0,x1⟩:=cp2_ BX.out)|(go_at_call 74;refine(stake_any 127 t w0 _ g q _ c1 A n1 _ n2 HO.out H1.out).mono ?_;rintro e w5 ⟨rfl,hO,hK⟩;replace HO:=A_ hO;replace HK:=A_ (HK.out.trans hK (.inl rfl));replace BX:=A_ (KeepBut.blk hK BX.out NX.out.1 (by simp));clear x0 x1 hO hK;obtain⟨x0,x1⟩:=cp2_ BX.out))
 go_upto_region 14 with (first|(go_at_call 74;refine(stake_any 1 a w0 _ g q _ c2 A n1 _ n2 HO.out H2.out).mono ?_;rintro e w5 ⟨rfl,hO,hK⟩;replace HO:=A_ hO;replace HK:=A_ (HK.out.trans hK (.inl rfl));replace BX:=A_ (KeepBut.blk hK BX.out NX.out.1 (by simp));clear x0 x1 hO hK;obtain⟨x0,x1⟩:=cp2_ BX.out))
 go_upto_region 15 with (first|(go_at_call 74;refine(stake_any a b w0 _ g q _ c3 A n1 _ n2 HO.out H3.out).mono ?_;rintro e w5 ⟨rfl,hO,hK⟩;replace HO:=A_ hO;replace HK:=A_ (HK.out.trans hK (.inl rfl));replace BX:=A_ (KeepBut.blk hK BX.out NX.out.1 (by simp));clear x0 x1 hO hK;obtain⟨x0,x1⟩:=cp2_ BX.out))
 go_wp2_with (first|(go_at_call 75;refine(sput_any b w0 _ g q _ c' A n1 _ n2 HO.out HR.out).mono ?_;rintro e w5 ⟨rfl,hE⟩;have HE:=A_ hE;clear hE))
 first|go_end0|((try simp only[Exit.inBlock,Exit.then]);refine rt_ ?_)
 exact⟨rfl,HE.out⟩
theorem ins_2 (h:Cs w0 w g q c A n1 B n2) (hm:SEnv w0 q fs gs mem res sl) (hop:x.f0=2) (hr:pushS c x.f0 x.f1=some c'):
  Calls Try.prog 57 #[.pointer (some ⟨g,0,none⟩),.agg #[.int .i64 x.f0,.int .i64 x.f1]] w fun e w'=>e=.returned (.tuple #[])∧CsE w0 w' g q c':=by
 have HO:=A_ h
 have HK:=A_ (KeepBut.refl w g none)
 have hu71:=Try.underlying103
 have hu91:=Try.underlying131
 have HM:=A_ hm
 clear h hm
 have b1:=ne_ hop 1
 have b0:=ne_ hop 0
 have b15:=ne_ hop 15
 have b26:=ne_ hop 26
 have b27:=ne_ hop 27
 have b2:=e1_ hop
 have HR:=A_ hr
 clear hr hop
 go_enter Try.func57,Try.ntmps57
 go_wp2_with (first|((with_reducible refine gd_ 3 rfl ?_);refine bx_ #[.int .i64 x.f0,.int .i64 x.f1] 103 ?_;intro gx hg wx hbox hb;have BX:=A_ hbox;have NX:=A_ (HO.out.fresh_ne hg);replace HO:=A_ (HO.out.below hb);replace HK:=A_ (HK.out.trans (KeepBut.of_below hb g none) (.inl rfl));clear hbox hb hg;obtain⟨x0,x1⟩:=cp2_ BX.out)|(go_at_call 56;refine(begin_any x.f0 x.f1 w0 _ g q _ c' A n1 _ n2 HO.out HR.out).mono ?_;rintro e w5 ⟨rfl,hE⟩;have HE:=A_ hE;clear hE))
 first|go_end0|((try simp only[Exit.inBlock,Exit.then]);refine rt_ ?_)
 exact⟨rfl,HE.out⟩
theorem ins_3 (h:Cs w0 w g q c A n1 B n2) (hm:SEnv w0 q fs gs mem res sl) (hop:x.f0=3) (hr:pushS c x.f0 x.f1=some c'):
  Calls Try.prog 57 #[.pointer (some ⟨g,0,none⟩),.agg #[.int .i64 x.f0,.int .i64 x.f1]] w fun e w'=>e=.returned (.tuple #[])∧CsE w0 w' g q c':=by
 have HO:=A_ h
 have HK:=A_ (KeepBut.refl w g none)
 have hu71:=Try.underlying103
 have hu91:=Try.underlying131
 have HM:=A_ hm
 clear h hm
 have b1:=ne_ hop 1
 have b0:=ne_ hop 0
 have b15:=ne_ hop 15
 have b26:=ne_ hop 26
 have b27:=ne_ hop 27
 have b2:=ne_ hop 2
 have b3:=e1_ hop
 have HR:=A_ hr
 clear hr hop
 go_enter Try.func57,Try.ntmps57
 go_wp2_with (first|((with_reducible refine gd_ 3 rfl ?_);refine bx_ #[.int .i64 x.f0,.int .i64 x.f1] 103 ?_;intro gx hg wx hbox hb;have BX:=A_ hbox;have NX:=A_ (HO.out.fresh_ne hg);replace HO:=A_ (HO.out.below hb);replace HK:=A_ (HK.out.trans (KeepBut.of_below hb g none) (.inl rfl));clear hbox hb hg;obtain⟨x0,x1⟩:=cp2_ BX.out)|(go_at_call 56;refine(begin_any x.f0 x.f1 w0 _ g q _ c' A n1 _ n2 HO.out HR.out).mono ?_;rintro e w5 ⟨rfl,hE⟩;have HE:=A_ hE;clear hE))
 first|go_end0|((try simp only[Exit.inBlock,Exit.then]);refine rt_ ?_)
 exact⟨rfl,HE.out⟩
theorem ins_4 (h:Cs w0 w g q c A n1 B n2) (hm:SEnv w0 q fs gs mem res sl) (hop:x.f0=4) (c1:CS S131) (t:Int) (h1:takeS c 127=some (c1,t)) (hr:pushS c1 x.f0 x.f1=some c'):
  Calls Try.prog 57 #[.pointer (some ⟨g,0,none⟩),.agg #[.int .i64 x.f0,.int .i64 x.f1]] w fun e w'=>e=.returned (.tuple #[])∧CsE w0 w' g q c':=by
 have HO:=A_ h
 have HK:=A_ (KeepBut.refl w g none)
 have hu71:=Try.underlying103
 have hu91:=Try.underlying131
 have HM:=A_ hm
 clear h hm
 have b1:=ne_ hop 1
 have b0:=ne_ hop 0
 have b15:=ne_ hop 15
 have b26:=ne_ hop 26
 have b27:=ne_ hop 27
 have b2:=ne_ hop 2
 have b3:=ne_ hop 3
 have b4:=e1_ hop
 have HR:=A_ hr
 have H1:=A_ h1
 clear hr h1 hop
 go_enter Try.func57,Try.ntmps57
 go_wp2_with (first|((with_reducible refine gd_ 3 rfl ?_);refine bx_ #[.int .i64 x.f0,.int .i64 x.f1] 103 ?_;intro gx hg wx hbox hb;have BX:=A_ hbox;have NX:=A_ (HO.out.fresh_ne hg);replace HO:=A_ (HO.out.below hb);replace HK:=A_ (HK.out.trans (KeepBut.of_below hb g none) (.inl rfl));clear hbox hb hg;obtain⟨x0,x1⟩:=cp2_ BX.out)|(go_at_call 74;refine(stake_any 127 t w0 _ g q _ c1 A n1 _ n2 HO.out H1.out).mono ?_;rintro e w5 ⟨rfl,hO,hK⟩;replace HO:=A_ hO;replace HK:=A_ (HK.out.trans hK (.inl rfl));replace BX:=A_ (KeepBut.blk hK BX.out NX.out.1 (by simp));clear x0 x1 hO hK;obtain⟨x0,x1⟩:=cp2_ BX.out)|(go_at_call 56;refine(begin_any x.f0 x.f1 w0 _ g q _ c' A n1 _ n2 HO.out HR.out).mono ?_;rintro e w5 ⟨rfl,hE⟩;have HE:=A_ hE;clear hE))
 first|go_end0|((try simp only[Exit.inBlock,Exit.then]);refine rt_ ?_)
 exact⟨rfl,HE.out⟩
theorem ins_12 (h:Cs w0 w g q c A n1 B n2) (hm:SEnv w0 q fs gs mem res sl) (hop:x.f0=12) (cw c1:CS S131) (t u:Int) (h1:wantsS c x.f1=some (cw,t)) (h2:takeS cw t=some (c1,u)) (hr:dieS c1=some c'):
  Calls Try.prog 57 #[.pointer (some ⟨g,0,none⟩),.agg #[.int .i64 x.f0,.int .i64 x.f1]] w fun e w'=>e=.returned (.tuple #[])∧CsE w0 w' g q c':=by
 have HO:=A_ h
 have HK:=A_ (KeepBut.refl w g none)
 have hu71:=Try.underlying103
 have hu91:=Try.underlying131
 have HM:=A_ hm
 clear h hm
 have b1:=ne_ hop 1
 have b0:=ne_ hop 0
 have b15:=ne_ hop 15
 have b26:=ne_ hop 26
 have b27:=ne_ hop 27
 have b2:=ne_ hop 2
 have b3:=ne_ hop 3
 have b4:=ne_ hop 4
 have b5:=ne_ hop 5
 have b11:=ne_ hop 11
 have b12:=e1_ hop
 have HR:=A_ hr
 have H1:=A_ h1;have H2:=A_ h2
 clear hr h1 h2 hop
 go_enter Try.func57,Try.ntmps57
 go_wp2_with (first|((with_reducible refine gd_ 3 rfl ?_);refine bx_ #[.int .i64 x.f0,.int .i64 x.f1] 103 ?_;intro gx hg wx hbox hb;have BX:=A_ hbox;have NX:=A_ (HO.out.fresh_ne hg);replace HO:=A_ (HO.out.below hb);replace HK:=A_ (HK.out.trans (KeepBut.of_below hb g none) (.inl rfl));clear hbox hb hg;obtain⟨x0,x1⟩:=cp2_ BX.out)|(go_at_call 78;refine(swants_any x.f1 t w0 _ g q _ cw A n1 _ n2 HO.out H1.out).mono ?_;rintro e w5 ⟨rfl,hO,hK⟩;replace HO:=A_ hO;replace HK:=A_ (HK.out.trans hK (.inl rfl));replace BX:=A_ (KeepBut.blk hK BX.out NX.out.1 (by simp));clear x0 x1 hO hK;obtain⟨x0,x1⟩:=cp2_ BX.out)|(go_at_call 74;refine(stake_any t u w0 _ g q _ c1 A n1 _ n2 HO.out H2.out).mono ?_;rintro e w5 ⟨rfl,hO,hK⟩;replace HO:=A_ hO;replace HK:=A_ (HK.out.trans hK (.inl rfl));replace BX:=A_ (KeepBut.blk hK BX.out NX.out.1 (by simp));clear x0 x1 hO hK;obtain⟨x0,x1⟩:=cp2_ BX.out)|(go_at_call 73;refine(sdie_any w0 _ g q _ c' A n1 _ n2 HO.out HR.out).mono ?_;rintro e w5 ⟨rfl,hE⟩;have HE:=A_ hE;clear hE))
 first|go_end0|((try simp only[Exit.inBlock,Exit.then]);refine rt_ ?_)
 exact⟨rfl,HE.out⟩
theorem ins_13 (h:Cs w0 w g q c A n1 B n2) (hm:SEnv w0 q fs gs mem res sl) (hop:x.f0=13) (cw c1 c2:CS S131) (t u v:Int) (h1:wantsS c x.f1=some (cw,t)) (h2:takeS cw 127=some (c1,u)) (h3:takeS c1 t=some (c2,v)) (hr:c2.put t=some c'):
  Calls Try.prog 57 #[.pointer (some ⟨g,0,none⟩),.agg #[.int .i64 x.f0,.int .i64 x.f1]] w fun e w'=>e=.returned (.tuple #[])∧CsE w0 w' g q c':=by
 have HO:=A_ h
 have HK:=A_ (KeepBut.refl w g none)
 have hu71:=Try.underlying103
 have hu91:=Try.underlying131
 have HM:=A_ hm
 clear h hm
 have b1:=ne_ hop 1
 have b0:=ne_ hop 0
 have b15:=ne_ hop 15
 have b26:=ne_ hop 26
 have b27:=ne_ hop 27
 have b2:=ne_ hop 2
 have b3:=ne_ hop 3
 have b4:=ne_ hop 4
 have b5:=ne_ hop 5
 have b11:=ne_ hop 11
 have b12:=ne_ hop 12
 have b13:=e1_ hop
 have HR:=A_ hr
 have H1:=A_ h1;have H2:=A_ h2;have H3:=A_ h3
 clear hr h1 h2 h3 hop
 go_enter Try.func57,Try.ntmps57
 go_upto_region 40 with (first|((with_reducible refine gd_ 3 rfl ?_);refine bx_ #[.int .i64 x.f0,.int .i64 x.f1] 103 ?_;intro gx hg wx hbox hb;have BX:=A_ hbox;have NX:=A_ (HO.out.fresh_ne hg);replace HO:=A_ (HO.out.below hb);replace HK:=A_ (HK.out.trans (KeepBut.of_below hb g none) (.inl rfl));clear hbox hb hg;obtain⟨x0,x1⟩:=cp2_ BX.out)|(go_at_call 78;refine(swants_any x.f1 t w0 _ g q _ cw A n1 _ n2 HO.out H1.out).mono ?_;rintro e w5 ⟨rfl,hO,hK⟩;replace HO:=A_ hO;replace HK:=A_ (HK.out.trans hK (.inl rfl));replace BX:=A_ (KeepBut.blk hK BX.out NX.out.1 (by simp));clear x0 x1 hO hK;obtain⟨x0,x1⟩:=cp2_ BX.out))
 go_upto_region 41 with (first|(go_at_call 74;refine(stake_any 127 u w0 _ g q _ c1 A n1 _ n2 HO.out H2.out).mono ?_;rintro e w5 ⟨rfl,hO,hK⟩;replace HO:=A_ hO;replace HK:=A_ (HK.out.trans hK (.inl rfl));replace BX:=A_ (KeepBut.blk hK BX.out NX.out.1 (by simp));clear x0 x1 hO hK;obtain⟨x0,x1⟩:=cp2_ BX.out))
 go_upto_region 42 with (first|(go_at_call 74;refine(stake_any t v w0 _ g q _ c2 A n1 _ n2 HO.out H3.out).mono ?_;rintro e w5 ⟨rfl,hO,hK⟩;replace HO:=A_ hO;replace HK:=A_ (HK.out.trans hK (.inl rfl));replace BX:=A_ (KeepBut.blk hK BX.out NX.out.1 (by simp));clear x0 x1 hO hK;obtain⟨x0,x1⟩:=cp2_ BX.out))
 go_wp2_with (first|(go_at_call 75;refine(sput_any t w0 _ g q _ c' A n1 _ n2 HO.out HR.out).mono ?_;rintro e w5 ⟨rfl,hE⟩;have HE:=A_ hE;clear hE))
 first|go_end0|((try simp only[Exit.inBlock,Exit.then]);refine rt_ ?_)
 exact⟨rfl,HE.out⟩
theorem ins_n (h:Cs w0 w g q c A n1 B n2) (hm:SEnv w0 q fs gs mem res sl) (hop:x.f0≠1∧x.f0≠0∧x.f0≠15∧x.f0≠26∧x.f0≠27∧x.f0≠2∧x.f0≠3∧x.f0≠4∧x.f0≠5∧x.f0≠11∧x.f0≠12∧x.f0≠13) (hr:otherS c fs gs mem sl x=some c'):
  Calls Try.prog 57 #[.pointer (some ⟨g,0,none⟩),.agg #[.int .i64 x.f0,.int .i64 x.f1]] w fun e w'=>e=.returned (.tuple #[])∧CsE w0 w' g q c':=by
 have HO:=A_ h
 have HK:=A_ (KeepBut.refl w g none)
 have hu71:=Try.underlying103
 have HR:=A_ hr;have HM:=A_ hm
 clear h hm hr
 obtain⟨h1,h0,h15,h26,h27,h2,h3,h4,h5,h11,h12,h13⟩:=hop
 have b1:=e0_ h1
 have b0:=e0_ h0
 have b15:=e0_ h15
 have b26:=e0_ h26
 have b27:=e0_ h27
 have b2:=e0_ h2
 have b3:=e0_ h3
 have b4:=e0_ h4
 have b5:=e0_ h5
 have b11:=e0_ h11
 have b12:=e0_ h12
 have b13:=e0_ h13
 clear h1 h0 h15 h26 h27 h2 h3 h4 h5 h11 h12 h13
 go_enter Try.func57,Try.ntmps57
 go_wp2_with (first|((with_reducible refine gd_ 3 rfl ?_);refine bx_ #[.int .i64 x.f0,.int .i64 x.f1] 103 ?_;intro gx hg wx hbox hb;have BX:=A_ hbox;have NX:=A_ (HO.out.fresh_ne hg);replace HO:=A_ (HO.out.below hb);replace HK:=A_ (HK.out.trans (KeepBut.of_below hb g none) (.inl rfl));clear hbox hb hg;obtain⟨x0,x1⟩:=cp2_ BX.out)|(go_at_call 79;refine(other_any x fs gs mem res sl w0 _ g q _ c' A n1 _ n2 HO.out HM.out HR.out).mono ?_;rintro e w5 ⟨rfl,hE⟩;have HE:=A_ hE;clear hE))
 first|go_end0|((try simp only[Exit.inBlock,Exit.then]);refine rt_ ?_)
 exact⟨rfl,HE.out⟩
def elseS (c1:CS S131):Option (CS S131):=(c1.sp[c1.sp.length - 1]?).bind fun b=>some {c1 with sp:=c1.sp.set (c1.sp.length - 1) {b with f3:=false,f4:=true}}
def endS (c1:CS S131):Option (CS S131):=(c1.sp[c1.sp.length - 1]?).bind fun b=>
 let c2:=if b.f0=4∧b.f4=false∧b.f1≠64 then c1.fail 3 else c1
 if 0<c1.sp.length - 1 then ({c2 with sp:=c2.sp.take (c2.sp.length - 1)}:CS S131).put b.f1 else some {c2 with sp:=c2.sp.take (c2.sp.length - 1)}
theorem ins_5 (h:Cs w0 w g q c A n1 B n2) (hm:SEnv w0 q fs gs mem res sl) (hop:x.f0=5) (c1:CS S131) (hk:closeS c=some c1) (hr:elseS c1=some c'):
  Calls Try.prog 57 #[.pointer (some ⟨g,0,none⟩),.agg #[.int .i64 x.f0,.int .i64 x.f1]] w fun e w'=>e=.returned (.tuple #[])∧CsE w0 w' g q c':=by
 have HO:=A_ h
 have HK:=A_ (KeepBut.refl w g none)
 have hu71:=Try.underlying103
 have hu91:=Try.underlying131
 have HM:=A_ hm
 clear h hm
 have b1:=ne_ hop 1
 have b0:=ne_ hop 0
 have b15:=ne_ hop 15
 have b26:=ne_ hop 26
 have b27:=ne_ hop 27
 have b2:=ne_ hop 2
 have b3:=ne_ hop 3
 have b4:=ne_ hop 4
 have b5:=e1_ hop
 have HT:=A_ hk
 obtain⟨b,hb,hr1⟩:=Option.bind_eq_some_iff.1 hr
 have HBB:=A_ hb
 have HLT:=A_ (List.getElem?_eq_some_iff.1 hb).1
 have HP:=A_ (show 0<c1.sp.length by have:=HLT.out;omega)
 obtain rfl:=Option.some.inj hr1
 clear hk hb hr hr1 hop
 go_enter Try.func57,Try.ntmps57
 go_upto_region 24 with (first|((with_reducible refine gd_ 3 rfl ?_);refine bx_ #[.int .i64 x.f0,.int .i64 x.f1] 103 ?_;intro gx hg wx hbox hb;have BX:=A_ hbox;have NX:=A_ (HO.out.fresh_ne hg);replace HO:=A_ (HO.out.below hb);replace HK:=A_ (HK.out.trans (KeepBut.of_below hb g none) (.inl rfl));clear hbox hb hg;obtain⟨x0,x1⟩:=cp2_ BX.out)|(go_at_call 76;refine(sclose_any w0 _ g q _ c1 A n1 _ n2 HO.out HT.out).mono ?_;rintro e w5 ⟨rfl,hO,hK⟩;replace HO:=A_ hO;replace HK:=A_ (HK.out.trans hK (.inl rfl));replace BX:=A_ (KeepBut.blk hK BX.out NX.out.1 (by simp));clear x0 x1 hO hK;obtain⟨x0,x1⟩:=cp2_ BX.out))
 clear x0 x1 BX
 obtain⟨gB,rfl,_⟩:=HO.out.span _ b HBB.out
 have hm1:=HO.out.lenP
 have e1:IntKind.i64.wrap ((c1.sp.length:Int) - 1)=((c1.sp.length - 1:Nat):Int):=by have:=HP.out;rw[show ((c1.sp.length:Int) - 1)=((c1.sp.length - 1:Nat):Int) by omega];exact IntWalk.i64_in _ (by omega)
 have q1:(0:Int)≤((c1.sp.length - 1:Nat):Int):=by omega
 have q2:((c1.sp.length - 1:Nat):Int)<(c1.sp.length:Int):=by have:=HP.out;omega
 have q3:((c1.sp.length - 1:Nat):Int)≤(n2:Int):=by omega
 clear hm1
 have c11f:=HO.out.cell11
 obtain⟨_,e_,_,_,_,_,s3,s4,sf⟩:=HO.out.span (c1.sp.length - 1) b HBB.out;cases e_
 have u3:=sf ((c1.sp.length - 1)*5+3)
 clear sf
 go_upto_region 26 with (fail)
 replace HO:=A_ ((HO.out.flag gB (c1.sp.length - 1) b HBB.out false).1);replace HK:=A_ (trivial);clear c11f s3 s4 u3;generalize w5.setCell ⟨gB,(c1.sp.length - 1)*5+3,none⟩ (.bool false)=wa at*
 have c11f:wa.cell? ⟨g,11,none⟩=some (.slice (some ⟨gB,0,none⟩) c1.sp.length n2):=by have h9:=HO.out.cell11;rwa [List.length_set] at h9
 obtain⟨_,e_,_,_,_,_,_,s4,sf⟩:=HO.out.span (c1.sp.length - 1) {b with f3:=false} (by rw[List.getElem?_set_self];exact HLT.out);cases e_;have u4:=sf ((c1.sp.length - 1)*5+4);clear sf
 go_wp2
 first|go_end0|((try simp only[Exit.inBlock,Exit.then]);refine rt_ ?_)
 refine⟨rfl,A,n1,some ⟨gB,0,none⟩,n2,?_⟩
 have h9:=(HO.out.flag gB (c1.sp.length - 1) {b with f3:=false} (by rw[List.getElem?_set_self];exact HLT.out) true).2
 simp only[List.set_set] at h9
 exact h9
def spec_l7ins.T29:Bool × List (List Nat × List Nat):=(true,[([],[]),([0],[0]),([1],[1]),([2],[2]),([],[]),([4],[4]),([5],[5]),([6],[6]),([7],[7]),([8],[8]),([3,9],[3,9]),([10],[10]),([],[]),([12,11,0,1,2,3,4,5,6,7,8,9,10,11,12],[11,12])])
def spec_l7ins.B29:List Nat:=[0,1,3,7,0,16,48,112,240,496,1023,2047,0,8191]
theorem spec_l7ins.tab29:rtab .any (opsOf Try.f57 29)=spec_l7ins.T29:=by kernel_rfl
theorem spec_l7ins.bits29:waitsOk spec_l7ins.T29.2 spec_l7ins.B29=true:=by kernel_rfl
theorem ins_11 (h:Cs w0 w g q c A n1 B n2) (hm:SEnv w0 q fs gs mem res sl) (hop:x.f0=11) (c1:CS S131) (hk:closeS c=some c1) (hr:endS c1=some c'):
  Calls Try.prog 57 #[.pointer (some ⟨g,0,none⟩),.agg #[.int .i64 x.f0,.int .i64 x.f1]] w fun e w'=>e=.returned (.tuple #[])∧CsE w0 w' g q c':=by
 have HO:=A_ h
 have HK:=A_ (KeepBut.refl w g none)
 have hu71:=Try.underlying103
 have hu91:=Try.underlying131
 have HM:=A_ hm
 clear h hm
 have b1:=ne_ hop 1
 have b0:=ne_ hop 0
 have b15:=ne_ hop 15
 have b26:=ne_ hop 26
 have b27:=ne_ hop 27
 have b2:=ne_ hop 2
 have b3:=ne_ hop 3
 have b4:=ne_ hop 4
 have b5:=ne_ hop 5
 have b11:=e1_ hop
 have HT:=A_ hk
 obtain⟨b,hb,hr1⟩:=Option.bind_eq_some_iff.1 hr
 have HBB:=A_ hb
 have HLT:=A_ (List.getElem?_eq_some_iff.1 hb).1
 have HP:=A_ (show 0<c1.sp.length by have:=HLT.out;omega)
 have HL1:=A_ (Nat.sub_le c1.sp.length 1)
 clear hk hb hr hop
 go_enter Try.func57,Try.ntmps57
 go_upto_region 29 with (first|((with_reducible refine gd_ 3 rfl ?_);refine bx_ #[.int .i64 x.f0,.int .i64 x.f1] 103 ?_;intro gx hg wx hbox hb;have BX:=A_ hbox;have NX:=A_ (HO.out.fresh_ne hg);replace HO:=A_ (HO.out.below hb);replace HK:=A_ (HK.out.trans (KeepBut.of_below hb g none) (.inl rfl));clear hbox hb hg;obtain⟨x0,x1⟩:=cp2_ BX.out)|(go_at_call 76;refine(sclose_any w0 _ g q _ c1 A n1 _ n2 HO.out HT.out).mono ?_;rintro e w5 ⟨rfl,hO,hK⟩;replace HO:=A_ hO;replace HK:=A_ (HK.out.trans hK (.inl rfl));replace BX:=A_ (KeepBut.blk hK BX.out NX.out.1 (by simp));clear x0 x1 hO hK;obtain⟨x0,x1⟩:=cp2_ BX.out))
 clear x0 x1 BX NX
 obtain⟨gB,rfl,_,s0,s1,s2,s3,s4,_⟩:=HO.out.span _ b HBB.out
 have hm1:=HO.out.lenP
 have e1:IntKind.i64.wrap ((c1.sp.length:Int) - 1)=((c1.sp.length - 1:Nat):Int):=by have:=HP.out;rw[show ((c1.sp.length:Int) - 1)=((c1.sp.length - 1:Nat):Int) by omega];exact IntWalk.i64_in _ (by omega)
 have q1:(0:Int)≤((c1.sp.length - 1:Nat):Int):=by omega
 have q2:((c1.sp.length - 1:Nat):Int)<(c1.sp.length:Int):=by have:=HP.out;omega
 have q3:((c1.sp.length - 1:Nat):Int)≤(n2:Int):=by omega
 clear hm1
 have c3:=HO.out.cell11
 refine sS 14 (fun w'=>w'.cell? ⟨g,11,none⟩=some (.slice (some ⟨gB,0,none⟩) c1.sp.length n2)∧w'.cell? ⟨gB,(c1.sp.length - 1)*5,none⟩=some (.int .i64 b.f0)∧w'.cell? ⟨gB,(c1.sp.length - 1)*5+1,none⟩=some (.int .i64 b.f1)∧w'.cell? ⟨gB,(c1.sp.length - 1)*5+2,none⟩=some (.int .i64 b.f2)∧w'.cell? ⟨gB,(c1.sp.length - 1)*5+3,none⟩=some (.bool b.f3)∧w'.cell? ⟨gB,(c1.sp.length - 1)*5+4,none⟩=some (.bool b.f4)) [13] ⟨c3,s0,s1,s2,s3,s4⟩ spec_l7ins.tab29 spec_l7ins.bits29 (fun hHeld HT_ HW_=>?_)
 replace HO:=A_ HO.out.drew;replace HK:=A_ (keep_drew HK.out);clear c3 s0 s1 s2 s3 s4;generalize w5.drew=wd at*
 refine pS HT_ 0 94 ?_
 refine pS HT_ 1 95 ?_
 refine pS HT_ 2 96 ?_
 refine pS HT_ 4 98 ?_
 refine pS HT_ 5 99 ?_
 refine pS HT_ 6 100 ?_
 refine tS HT_ HW_ 3 97 hHeld ?_
 refine tS HT_ HW_ 7 101 hHeld ?_
 refine pS HT_ 8 102 ?_
 refine pS HT_ 9 103 ?_
 refine pS HT_ 10 104 ?_
 refine tS HT_ HW_ 11 105 hHeld ?_
 refine oS HT_ 12 (some 7) (fun K hK=>?_)
 refine box_step (by rfl) (N:=7) ?hd (cs:=#[(.int .i64 0),(.int .i64 0),(.int .i64 0),(.bool false),(.bool false)]) (t:=131) ?hr ?_;(case hd=>rfl);(case hr=>first|(go_simp;done)|(go_simp;rfl))
 intro gx hg wx hbox hb
 have BX:=A_ hbox;have GX:=A_ (show w.heap.size≤gx from by rw[hg];exact HK.out.1);have NX:=A_ (HO.out.fresh_ne hg);have G0:=A_ (Nat.le_trans HO.out.2.1.size (Nat.le_of_eq hg.symm));have m0:=A_ (HO.out.below hb);have m1:=A_ (HK.out.trans (KeepBut.of_below hb g none) (.inl rfl))
 obtain⟨s0_,s1_,s2_,s3_,s4_,s5_⟩:=hHeld
 have hHeld2:=A_ (And.intro (cl_ hb s0_) (And.intro (cl_ hb s1_) (And.intro (cl_ hb s2_) (And.intro (cl_ hb s3_) (And.intro (cl_ hb s4_) (cl_ hb s5_))))))
 clear HO HK hbox hb hg s0_ s1_ s2_ s3_ s4_ s5_;have HO:=m0;have HK:=m1;clear m0 m1
 obtain⟨z0,z1,z2,z3,z4⟩:=cp5_ BX.out;obtain⟨v0,v1,v2,v3,v4⟩:=fz5_ BX.out
 refine hK.out _ _ hHeld2.out (fun hHeld=>?_)
 clear hK K
 refine nS (some 7) ?_
 refine lS HT_ 13 (none) (fun K hK=>?_)
 obtain⟨vs,hvs⟩:∃ vs:List Value,vs=[.int .i64 b.f0,.int .i64 b.f1,.int .i64 b.f2,.bool b.f3,.bool b.f4]:=⟨_,rfl⟩
 refine skip_ (w1:=sets wx gx 0 vs) (by rfl) rfl (by subst hvs;first|(go_simp;done)|(go_simp;rfl)) ?_
 clear hHeld hHeld2 z0 v0 z1 v1 z2 v2 z3 v3 z4 v4
 refine hK.out _ _ ?_
 clear hK K
 refine dS HT_ ?_
 replace BX:=A_ (sets_blk vs BX.out (by rw[hvs];rfl));replace HO:=A_ (HO.out.sets G0.out NX.out vs 0);replace HK:=A_ (keep_sets HK.out GX.out vs 0);generalize sets wx gx 0 vs=wy at*;subst hvs
 obtain⟨x0,x1,x2,x3,x4⟩:=cp5_ BX.out
 go_upto_region 30 with (fail)
 by_cases k1:b.f0=4
 ·
  have d1:(b.f0==4)=true:=beq_iff_eq.2 k1
  by_cases k2:b.f4=false
  ·
   rw[k2] at x4
   by_cases k3:b.f1≠64
   ·
    have d3:(b.f1 !=64)=true:=bne_iff_ne.2 k3
    simp only[if_pos (show b.f0=4∧b.f4=false∧b.f1≠64 from ⟨k1,k2,k3⟩)] at hr1
    by_cases cz:0<c1.sp.length - 1
    ·
     rw[if_pos cz] at hr1
     rw[(fail_st c1 3).2] at hr1
     have HRR:=A_ hr1
     have cb:decide ((0:Int)<((c1.sp.length - 1:Nat):Int))=true:=decide_eq_true (by omega)
     have cbn:=decide_eq_true cz
     clear hr1 cz
     go_upto_region 32 with (first|(go_at_call 77;refine(bad_any w0 _ g q _ 3 A n1 _ n2 HO.out).mono ?_;rintro e w5 ⟨rfl,hO,hK⟩;replace HO:=A_ hO;replace HK:=A_ (HK.out.trans hK (.inl rfl));replace BX:=A_ (KeepBut.blk hK BX.out NX.out.1 (by simp));clear x0 x1 x2 x3 x4 hO hK;obtain⟨x0,x1,x2,x3,x4⟩:=cp5_ BX.out))
     have c3:w5.cell? ⟨g,11,none⟩=some (.slice (some ⟨gB,0,none⟩) c1.sp.length n2):=by have h9:=HO.out.cell11;rwa [(fail_st c1 3).2] at h9
     go_still_tail 14,(by kernel_rfl)
     change wpList _ _ _ _ _ w5.drew
     have m2:=A_ (blk_drew BX.out);clear BX x0 x1 x2 x3 x4;replace HO:=A_ (HO.out.drew);replace HK:=A_ (keep_drew HK.out);clear c3;generalize w5.drew=wz at*
     have c3:wz.cell? ⟨g,11,none⟩=some (.slice (some ⟨gB,0,none⟩) c1.sp.length n2):=by have h9:=HO.out.cell11;rwa [(fail_st c1 3).2] at h9
     have f3:=HO.out.frozen 11
     go_upto_region 33 with (fail)
     have m3:=A_ ((Below.heap_setCell wz ⟨g,11,none⟩ (.slice (some ⟨gB,0,none⟩) (c1.sp.length - 1) n2) gx NX.out.1).trans m2.out);clear m2;replace HO:=A_ (HO.out.cutP (c1.sp.length - 1) (by rw[(fail_st c1 3).2];exact HL1.out));replace HK:=A_ (HK.out.set_ 11 (.slice (some ⟨gB,0,none⟩) (c1.sp.length - 1) n2));clear c3 f3;generalize wz.setCell ⟨g,11,none⟩ (.slice (some ⟨gB,0,none⟩) (c1.sp.length - 1) n2)=wu at*
     have x1:=(blk_cell m3.out 1).trans rfl
     have c3:wu.cell? ⟨g,11,none⟩=some (.slice (some ⟨gB,0,none⟩) (c1.sp.length - 1) n2):=by have h9:=HO.out.cell11;simp only[List.length_take] at h9;rwa [(fail_st c1 3).2,Nat.min_eq_left (Nat.sub_le _ _)] at h9
     have h9:=HO.out
     rw[(fail_st c1 3).2] at h9
     replace HO:=A_ h9;clear h9
     go_wp2_with (first|(go_at_call 75;refine(sput_any b.f1 w0 _ g q _ c' A n1 _ n2 HO.out HRR.out).mono ?_;rintro e w5 ⟨rfl,hE⟩;have HE:=A_ hE;clear hE))
     first|go_end0|((try simp only[Exit.inBlock,Exit.then]);refine rt_ ?_)
     exact⟨rfl,HE.out⟩
    rw[if_neg cz] at hr1
    rw[(fail_st c1 3).2] at hr1
    have HRR:=A_ (Option.some.inj hr1)
    have cb:decide ((0:Int)<((c1.sp.length - 1:Nat):Int))=false:=decide_eq_false (by omega)
    have cbn:=decide_eq_false cz
    clear hr1 cz
    go_upto_region 32 with (first|(go_at_call 77;refine(bad_any w0 _ g q _ 3 A n1 _ n2 HO.out).mono ?_;rintro e w5 ⟨rfl,hO,hK⟩;replace HO:=A_ hO;replace HK:=A_ (HK.out.trans hK (.inl rfl));replace BX:=A_ (KeepBut.blk hK BX.out NX.out.1 (by simp));clear x0 x1 x2 x3 x4 hO hK;obtain⟨x0,x1,x2,x3,x4⟩:=cp5_ BX.out))
    have c3:w5.cell? ⟨g,11,none⟩=some (.slice (some ⟨gB,0,none⟩) c1.sp.length n2):=by have h9:=HO.out.cell11;rwa [(fail_st c1 3).2] at h9
    go_still_tail 14,(by kernel_rfl)
    change wpList _ _ _ _ _ w5.drew
    have m2:=A_ (blk_drew BX.out);clear BX x0 x1 x2 x3 x4;replace HO:=A_ (HO.out.drew);replace HK:=A_ (keep_drew HK.out);clear c3;generalize w5.drew=wz at*
    have c3:wz.cell? ⟨g,11,none⟩=some (.slice (some ⟨gB,0,none⟩) c1.sp.length n2):=by have h9:=HO.out.cell11;rwa [(fail_st c1 3).2] at h9
    have f3:=HO.out.frozen 11
    go_upto_region 33 with (fail)
    have m3:=A_ ((Below.heap_setCell wz ⟨g,11,none⟩ (.slice (some ⟨gB,0,none⟩) (c1.sp.length - 1) n2) gx NX.out.1).trans m2.out);clear m2;replace HO:=A_ (HO.out.cutP (c1.sp.length - 1) (by rw[(fail_st c1 3).2];exact HL1.out));replace HK:=A_ (HK.out.set_ 11 (.slice (some ⟨gB,0,none⟩) (c1.sp.length - 1) n2));clear c3 f3;generalize wz.setCell ⟨g,11,none⟩ (.slice (some ⟨gB,0,none⟩) (c1.sp.length - 1) n2)=wu at*
    have x1:=(blk_cell m3.out 1).trans rfl
    have c3:wu.cell? ⟨g,11,none⟩=some (.slice (some ⟨gB,0,none⟩) (c1.sp.length - 1) n2):=by have h9:=HO.out.cell11;simp only[List.length_take] at h9;rwa [(fail_st c1 3).2,Nat.min_eq_left (Nat.sub_le _ _)] at h9
    have h9:=HO.out
    rw[(fail_st c1 3).2] at h9
    replace HO:=A_ h9;clear h9
    go_wp2
    first|go_end0|((try simp only[Exit.inBlock,Exit.then]);refine rt_ ?_)
    exact⟨rfl,_,_,_,_,by have h9:=HO.out;rw[HRR.out] at h9;exact h9⟩
   have d3:(b.f1 !=64)=false:=bne_eq_false_iff_eq.2 (Classical.not_not.1 k3)
   simp only[if_neg (show ¬(b.f0=4∧b.f4=false∧b.f1≠64) from(fun h=>k3 h.2.2))] at hr1
   by_cases cz:0<c1.sp.length - 1
   ·
    rw[if_pos cz] at hr1
    have HRR:=A_ hr1
    have cb:decide ((0:Int)<((c1.sp.length - 1:Nat):Int))=true:=decide_eq_true (by omega)
    have cbn:=decide_eq_true cz
    clear hr1 cz
    go_upto_region 32 with (fail)
    have c3:wy.cell? ⟨g,11,none⟩=some (.slice (some ⟨gB,0,none⟩) c1.sp.length n2):=by have h9:=HO.out.cell11;exact h9
    go_still_tail 14,(by kernel_rfl)
    change wpList _ _ _ _ _ wy.drew
    have m2:=A_ (blk_drew BX.out);clear BX x0 x1 x2 x3 x4;replace HO:=A_ (HO.out.drew);replace HK:=A_ (keep_drew HK.out);clear c3;generalize wy.drew=wz at*
    have c3:wz.cell? ⟨g,11,none⟩=some (.slice (some ⟨gB,0,none⟩) c1.sp.length n2):=by have h9:=HO.out.cell11;exact h9
    have f3:=HO.out.frozen 11
    go_upto_region 33 with (fail)
    have m3:=A_ ((Below.heap_setCell wz ⟨g,11,none⟩ (.slice (some ⟨gB,0,none⟩) (c1.sp.length - 1) n2) gx NX.out.1).trans m2.out);clear m2;replace HO:=A_ (HO.out.cutP (c1.sp.length - 1) (by exact HL1.out));replace HK:=A_ (HK.out.set_ 11 (.slice (some ⟨gB,0,none⟩) (c1.sp.length - 1) n2));clear c3 f3;generalize wz.setCell ⟨g,11,none⟩ (.slice (some ⟨gB,0,none⟩) (c1.sp.length - 1) n2)=wu at*
    have x1:=(blk_cell m3.out 1).trans rfl
    have c3:wu.cell? ⟨g,11,none⟩=some (.slice (some ⟨gB,0,none⟩) (c1.sp.length - 1) n2):=by have h9:=HO.out.cell11;simp only[List.length_take] at h9;rwa [Nat.min_eq_left (Nat.sub_le _ _)] at h9
    go_wp2_with (first|(go_at_call 75;refine(sput_any b.f1 w0 _ g q _ c' A n1 _ n2 HO.out HRR.out).mono ?_;rintro e w5 ⟨rfl,hE⟩;have HE:=A_ hE;clear hE))
    first|go_end0|((try simp only[Exit.inBlock,Exit.then]);refine rt_ ?_)
    exact⟨rfl,HE.out⟩
   rw[if_neg cz] at hr1
   have HRR:=A_ (Option.some.inj hr1)
   have cb:decide ((0:Int)<((c1.sp.length - 1:Nat):Int))=false:=decide_eq_false (by omega)
   have cbn:=decide_eq_false cz
   clear hr1 cz
   go_upto_region 32 with (fail)
   have c3:wy.cell? ⟨g,11,none⟩=some (.slice (some ⟨gB,0,none⟩) c1.sp.length n2):=by have h9:=HO.out.cell11;exact h9
   go_still_tail 14,(by kernel_rfl)
   change wpList _ _ _ _ _ wy.drew
   have m2:=A_ (blk_drew BX.out);clear BX x0 x1 x2 x3 x4;replace HO:=A_ (HO.out.drew);replace HK:=A_ (keep_drew HK.out);clear c3;generalize wy.drew=wz at*
   have c3:wz.cell? ⟨g,11,none⟩=some (.slice (some ⟨gB,0,none⟩) c1.sp.length n2):=by have h9:=HO.out.cell11;exact h9
   have f3:=HO.out.frozen 11
   go_upto_region 33 with (fail)
   have m3:=A_ ((Below.heap_setCell wz ⟨g,11,none⟩ (.slice (some ⟨gB,0,none⟩) (c1.sp.length - 1) n2) gx NX.out.1).trans m2.out);clear m2;replace HO:=A_ (HO.out.cutP (c1.sp.length - 1) (by exact HL1.out));replace HK:=A_ (HK.out.set_ 11 (.slice (some ⟨gB,0,none⟩) (c1.sp.length - 1) n2));clear c3 f3;generalize wz.setCell ⟨g,11,none⟩ (.slice (some ⟨gB,0,none⟩) (c1.sp.length - 1) n2)=wu at*
   have x1:=(blk_cell m3.out 1).trans rfl
   have c3:wu.cell? ⟨g,11,none⟩=some (.slice (some ⟨gB,0,none⟩) (c1.sp.length - 1) n2):=by have h9:=HO.out.cell11;simp only[List.length_take] at h9;rwa [Nat.min_eq_left (Nat.sub_le _ _)] at h9
   go_wp2
   first|go_end0|((try simp only[Exit.inBlock,Exit.then]);refine rt_ ?_)
   exact⟨rfl,_,_,_,_,by have h9:=HO.out;rw[HRR.out] at h9;exact h9⟩
  have d2:b.f4=true:=by simpa using k2
  rw[d2] at x4
  simp only[if_neg (show ¬(b.f0=4∧b.f4=false∧b.f1≠64) from(fun h=>k2 h.2.1))] at hr1
  by_cases cz:0<c1.sp.length - 1
  ·
   rw[if_pos cz] at hr1
   have HRR:=A_ hr1
   have cb:decide ((0:Int)<((c1.sp.length - 1:Nat):Int))=true:=decide_eq_true (by omega)
   have cbn:=decide_eq_true cz
   clear hr1 cz
   go_upto_region 32 with (fail)
   have c3:wy.cell? ⟨g,11,none⟩=some (.slice (some ⟨gB,0,none⟩) c1.sp.length n2):=by have h9:=HO.out.cell11;exact h9
   go_still_tail 14,(by kernel_rfl)
   change wpList _ _ _ _ _ wy.drew
   have m2:=A_ (blk_drew BX.out);clear BX x0 x1 x2 x3 x4;replace HO:=A_ (HO.out.drew);replace HK:=A_ (keep_drew HK.out);clear c3;generalize wy.drew=wz at*
   have c3:wz.cell? ⟨g,11,none⟩=some (.slice (some ⟨gB,0,none⟩) c1.sp.length n2):=by have h9:=HO.out.cell11;exact h9
   have f3:=HO.out.frozen 11
   go_upto_region 33 with (fail)
   have m3:=A_ ((Below.heap_setCell wz ⟨g,11,none⟩ (.slice (some ⟨gB,0,none⟩) (c1.sp.length - 1) n2) gx NX.out.1).trans m2.out);clear m2;replace HO:=A_ (HO.out.cutP (c1.sp.length - 1) (by exact HL1.out));replace HK:=A_ (HK.out.set_ 11 (.slice (some ⟨gB,0,none⟩) (c1.sp.length - 1) n2));clear c3 f3;generalize wz.setCell ⟨g,11,none⟩ (.slice (some ⟨gB,0,none⟩) (c1.sp.length - 1) n2)=wu at*
   have x1:=(blk_cell m3.out 1).trans rfl
   have c3:wu.cell? ⟨g,11,none⟩=some (.slice (some ⟨gB,0,none⟩) (c1.sp.length - 1) n2):=by have h9:=HO.out.cell11;simp only[List.length_take] at h9;rwa [Nat.min_eq_left (Nat.sub_le _ _)] at h9
   go_wp2_with (first|(go_at_call 75;refine(sput_any b.f1 w0 _ g q _ c' A n1 _ n2 HO.out HRR.out).mono ?_;rintro e w5 ⟨rfl,hE⟩;have HE:=A_ hE;clear hE))
   first|go_end0|((try simp only[Exit.inBlock,Exit.then]);refine rt_ ?_)
   exact⟨rfl,HE.out⟩
  rw[if_neg cz] at hr1
  have HRR:=A_ (Option.some.inj hr1)
  have cb:decide ((0:Int)<((c1.sp.length - 1:Nat):Int))=false:=decide_eq_false (by omega)
  have cbn:=decide_eq_false cz
  clear hr1 cz
  go_upto_region 32 with (fail)
  have c3:wy.cell? ⟨g,11,none⟩=some (.slice (some ⟨gB,0,none⟩) c1.sp.length n2):=by have h9:=HO.out.cell11;exact h9
  go_still_tail 14,(by kernel_rfl)
  change wpList _ _ _ _ _ wy.drew
  have m2:=A_ (blk_drew BX.out);clear BX x0 x1 x2 x3 x4;replace HO:=A_ (HO.out.drew);replace HK:=A_ (keep_drew HK.out);clear c3;generalize wy.drew=wz at*
  have c3:wz.cell? ⟨g,11,none⟩=some (.slice (some ⟨gB,0,none⟩) c1.sp.length n2):=by have h9:=HO.out.cell11;exact h9
  have f3:=HO.out.frozen 11
  go_upto_region 33 with (fail)
  have m3:=A_ ((Below.heap_setCell wz ⟨g,11,none⟩ (.slice (some ⟨gB,0,none⟩) (c1.sp.length - 1) n2) gx NX.out.1).trans m2.out);clear m2;replace HO:=A_ (HO.out.cutP (c1.sp.length - 1) (by exact HL1.out));replace HK:=A_ (HK.out.set_ 11 (.slice (some ⟨gB,0,none⟩) (c1.sp.length - 1) n2));clear c3 f3;generalize wz.setCell ⟨g,11,none⟩ (.slice (some ⟨gB,0,none⟩) (c1.sp.length - 1) n2)=wu at*
  have x1:=(blk_cell m3.out 1).trans rfl
  have c3:wu.cell? ⟨g,11,none⟩=some (.slice (some ⟨gB,0,none⟩) (c1.sp.length - 1) n2):=by have h9:=HO.out.cell11;simp only[List.length_take] at h9;rwa [Nat.min_eq_left (Nat.sub_le _ _)] at h9
  go_wp2
  first|go_end0|((try simp only[Exit.inBlock,Exit.then]);refine rt_ ?_)
  exact⟨rfl,_,_,_,_,by have h9:=HO.out;rw[HRR.out] at h9;exact h9⟩
 have d1:(b.f0==4)=false:=beq_eq_false_iff_ne.2 k1
 simp only[if_neg (show ¬(b.f0=4∧b.f4=false∧b.f1≠64) from(fun h=>k1 h.1))] at hr1
 by_cases cz:0<c1.sp.length - 1
 ·
  rw[if_pos cz] at hr1
  have HRR:=A_ hr1
  have cb:decide ((0:Int)<((c1.sp.length - 1:Nat):Int))=true:=decide_eq_true (by omega)
  have cbn:=decide_eq_true cz
  clear hr1 cz
  go_upto_region 32 with (fail)
  have c3:wy.cell? ⟨g,11,none⟩=some (.slice (some ⟨gB,0,none⟩) c1.sp.length n2):=by have h9:=HO.out.cell11;exact h9
  go_still_tail 14,(by kernel_rfl)
  change wpList _ _ _ _ _ wy.drew
  have m2:=A_ (blk_drew BX.out);clear BX x0 x1 x2 x3 x4;replace HO:=A_ (HO.out.drew);replace HK:=A_ (keep_drew HK.out);clear c3;generalize wy.drew=wz at*
  have c3:wz.cell? ⟨g,11,none⟩=some (.slice (some ⟨gB,0,none⟩) c1.sp.length n2):=by have h9:=HO.out.cell11;exact h9
  have f3:=HO.out.frozen 11
  go_upto_region 33 with (fail)
  have m3:=A_ ((Below.heap_setCell wz ⟨g,11,none⟩ (.slice (some ⟨gB,0,none⟩) (c1.sp.length - 1) n2) gx NX.out.1).trans m2.out);clear m2;replace HO:=A_ (HO.out.cutP (c1.sp.length - 1) (by exact HL1.out));replace HK:=A_ (HK.out.set_ 11 (.slice (some ⟨gB,0,none⟩) (c1.sp.length - 1) n2));clear c3 f3;generalize wz.setCell ⟨g,11,none⟩ (.slice (some ⟨gB,0,none⟩) (c1.sp.length - 1) n2)=wu at*
  have x1:=(blk_cell m3.out 1).trans rfl
  have c3:wu.cell? ⟨g,11,none⟩=some (.slice (some ⟨gB,0,none⟩) (c1.sp.length - 1) n2):=by have h9:=HO.out.cell11;simp only[List.length_take] at h9;rwa [Nat.min_eq_left (Nat.sub_le _ _)] at h9
  go_wp2_with (first|(go_at_call 75;refine(sput_any b.f1 w0 _ g q _ c' A n1 _ n2 HO.out HRR.out).mono ?_;rintro e w5 ⟨rfl,hE⟩;have HE:=A_ hE;clear hE))
  first|go_end0|((try simp only[Exit.inBlock,Exit.then]);refine rt_ ?_)
  exact⟨rfl,HE.out⟩
 rw[if_neg cz] at hr1
 have HRR:=A_ (Option.some.inj hr1)
 have cb:decide ((0:Int)<((c1.sp.length - 1:Nat):Int))=false:=decide_eq_false (by omega)
 have cbn:=decide_eq_false cz
 clear hr1 cz
 go_upto_region 32 with (fail)
 have c3:wy.cell? ⟨g,11,none⟩=some (.slice (some ⟨gB,0,none⟩) c1.sp.length n2):=by have h9:=HO.out.cell11;exact h9
 go_still_tail 14,(by kernel_rfl)
 change wpList _ _ _ _ _ wy.drew
 have m2:=A_ (blk_drew BX.out);clear BX x0 x1 x2 x3 x4;replace HO:=A_ (HO.out.drew);replace HK:=A_ (keep_drew HK.out);clear c3;generalize wy.drew=wz at*
 have c3:wz.cell? ⟨g,11,none⟩=some (.slice (some ⟨gB,0,none⟩) c1.sp.length n2):=by have h9:=HO.out.cell11;exact h9
 have f3:=HO.out.frozen 11
 go_upto_region 33 with (fail)
 have m3:=A_ ((Below.heap_setCell wz ⟨g,11,none⟩ (.slice (some ⟨gB,0,none⟩) (c1.sp.length - 1) n2) gx NX.out.1).trans m2.out);clear m2;replace HO:=A_ (HO.out.cutP (c1.sp.length - 1) (by exact HL1.out));replace HK:=A_ (HK.out.set_ 11 (.slice (some ⟨gB,0,none⟩) (c1.sp.length - 1) n2));clear c3 f3;generalize wz.setCell ⟨g,11,none⟩ (.slice (some ⟨gB,0,none⟩) (c1.sp.length - 1) n2)=wu at*
 have x1:=(blk_cell m3.out 1).trans rfl
 have c3:wu.cell? ⟨g,11,none⟩=some (.slice (some ⟨gB,0,none⟩) (c1.sp.length - 1) n2):=by have h9:=HO.out.cell11;simp only[List.length_take] at h9;rwa [Nat.min_eq_left (Nat.sub_le _ _)] at h9
 go_wp2
 first|go_end0|((try simp only[Exit.inBlock,Exit.then]);refine rt_ ?_)
 exact⟨rfl,_,_,_,_,by have h9:=HO.out;rw[HRR.out] at h9;exact h9⟩
def insS (c:CS S131) (fs:List S88) (gs:List S75) (mem:Bool) (res:Int) (sl:List Int) (x:S103):Option (CS S131):=
 if x.f0=1 then some c else if x.f0=0 then dieS c
 else if x.f0=15 then (takeS c res).bind fun r=>dieS r.1
 else if x.f0=26 then (takeS c 1).bind fun r=>some r.1
 else if x.f0=27 then (takeS c 127).bind fun r=>(takeS r.1 1).bind fun s=>(takeS s.1 s.2).bind fun t=>t.1.put t.2
 else if x.f0=2∨x.f0=3 then pushS c x.f0 x.f1
 else if x.f0=4 then (takeS c 127).bind fun r=>pushS r.1 x.f0 x.f1
 else if x.f0=5 then (closeS c).bind fun c1=>elseS c1
 else if x.f0=11 then (closeS c).bind fun c1=>endS c1
 else if x.f0=12 then (wantsS c x.f1).bind fun r=>(takeS r.1 r.2).bind fun s=>dieS s.1
 else if x.f0=13 then (wantsS c x.f1).bind fun r=>(takeS r.1 127).bind fun s=>(takeS s.1 r.2).bind fun t=>t.1.put r.2
 else otherS c fs gs mem sl x
set_option maxHeartbeats 1000000 in
theorem ins_any (h:Cs w0 w g q c A n1 B n2) (hm:SEnv w0 q fs gs mem res sl) (hr:insS c fs gs mem res sl x=some c'):
  Calls Try.prog 57 #[.pointer (some ⟨g,0,none⟩),.agg #[.int .i64 x.f0,.int .i64 x.f1]] w fun e w'=>e=.returned (.tuple #[])∧CsE w0 w' g q c':=by
 unfold insS at hr
 by_cases k1:x.f0=1
 ·
  rw[if_pos k1] at hr
  exact ins_1 x fs gs mem res sl w0 w g q c c' A n1 B n2 h hm k1 (Option.some.inj hr).symm
 rw[if_neg k1] at hr
 by_cases k0:x.f0=0
 ·
  rw[if_pos k0] at hr
  exact ins_0 x fs gs mem res sl w0 w g q c c' A n1 B n2 h hm k0 hr
 rw[if_neg k0] at hr
 by_cases k15:x.f0=15
 ·
  rw[if_pos k15] at hr
  obtain⟨⟨c1,t⟩,h1,hr⟩:=Option.bind_eq_some_iff.1 hr
  exact ins_15 x fs gs mem res sl w0 w g q c c' A n1 B n2 h hm k15 c1 t h1 hr
 rw[if_neg k15] at hr
 by_cases k48:x.f0=26
 ·
  rw[if_pos k48] at hr
  obtain⟨⟨c1,t⟩,h1,hr⟩:=Option.bind_eq_some_iff.1 hr
  obtain rfl:=Option.some.inj hr
  exact ins_26 x fs gs mem res sl w0 w g q c c1 A n1 B n2 h hm k48 t h1
 rw[if_neg k48] at hr
 by_cases k27:x.f0=27
 ·
  rw[if_pos k27] at hr
  obtain⟨⟨c1,t⟩,h1,hr⟩:=Option.bind_eq_some_iff.1 hr
  obtain⟨⟨c2,a⟩,h2,hr⟩:=Option.bind_eq_some_iff.1 hr
  obtain⟨⟨c3,b⟩,h3,hr⟩:=Option.bind_eq_some_iff.1 hr
  exact ins_27 x fs gs mem res sl w0 w g q c c' A n1 B n2 h hm k27 c1 c2 c3 t a b h1 h2 h3 hr
 rw[if_neg k27] at hr
 by_cases k2:x.f0=2∨x.f0=3
 ·
  rw[if_pos k2] at hr
  rcases k2 with k|k
  ·
   exact ins_2 x fs gs mem res sl w0 w g q c c' A n1 B n2 h hm k hr
  exact ins_3 x fs gs mem res sl w0 w g q c c' A n1 B n2 h hm k hr
 rw[if_neg k2] at hr
 by_cases k4:x.f0=4
 ·
  rw[if_pos k4] at hr
  obtain⟨⟨c1,t⟩,h1,hr⟩:=Option.bind_eq_some_iff.1 hr
  exact ins_4 x fs gs mem res sl w0 w g q c c' A n1 B n2 h hm k4 c1 t h1 hr
 rw[if_neg k4] at hr
 by_cases k5:x.f0=5
 ·
  rw[if_pos k5] at hr
  obtain⟨c1,h1,hr⟩:=Option.bind_eq_some_iff.1 hr
  exact ins_5 x fs gs mem res sl w0 w g q c c' A n1 B n2 h hm k5 c1 h1 hr
 rw[if_neg k5] at hr
 by_cases k11:x.f0=11
 ·
  rw[if_pos k11] at hr
  obtain⟨c1,h1,hr⟩:=Option.bind_eq_some_iff.1 hr
  exact ins_11 x fs gs mem res sl w0 w g q c c' A n1 B n2 h hm k11 c1 h1 hr
 rw[if_neg k11] at hr
 by_cases k12:x.f0=12
 ·
  rw[if_pos k12] at hr
  obtain⟨⟨cw,t⟩,h1,hr⟩:=Option.bind_eq_some_iff.1 hr
  obtain⟨⟨c1,u⟩,h2,hr⟩:=Option.bind_eq_some_iff.1 hr
  exact ins_12 x fs gs mem res sl w0 w g q c c' A n1 B n2 h hm k12 cw c1 t u h1 h2 hr
 rw[if_neg k12] at hr
 by_cases k13:x.f0=13
 ·
  rw[if_pos k13] at hr
  obtain⟨⟨cw,t⟩,h1,hr⟩:=Option.bind_eq_some_iff.1 hr
  obtain⟨⟨c1,u⟩,h2,hr⟩:=Option.bind_eq_some_iff.1 hr
  obtain⟨⟨c2,v⟩,h3,hr⟩:=Option.bind_eq_some_iff.1 hr
  exact ins_13 x fs gs mem res sl w0 w g q c c' A n1 B n2 h hm k13 cw c1 c2 t u v h1 h2 h3 hr
 rw[if_neg k13] at hr
 exact ins_n x fs gs mem res sl w0 w g q c c' A n1 B n2 h hm ⟨k1,k0,k15,k48,k27,fun e=>k2 (.inl e),fun e=>k2 (.inr e),k4,k5,k11,k12,k13⟩ hr
end
end Go.Proofs.Ytanhbfhmgmjdgaa.Q

