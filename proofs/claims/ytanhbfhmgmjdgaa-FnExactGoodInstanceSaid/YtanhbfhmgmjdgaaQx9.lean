-- Written by a program of this session; it walks the functions that the law reaches.
import Derived.Test.YtanhbfhmgmjdgaaQx0
import Derived.Test.YtanhbfhmgmjdgaaQx5
import Derived.Test.YtanhbfhmgmjdgaaQx6
import Derived.Test.YtanhbfhmgmjdgaaQx8
namespace Go.Proofs.Ytanhbfhmgmjdgaa.Q
open Go.RowKit Go.Proofs.YtanhbfhmgmjdgaaW.PrintWords Go.Proofs.YtanhbfhmgmjdgaaW.PrintLast Go.Proofs.YtanhbfhmgmjdgaaW.PrintMore
attribute [local go_sem] max2_int min2_int max_two min_two max_three min_three max_four min_four   -- for this text's walks alone
set_option linter.unusedVariables false
set_option linter.unusedSimpArgs false
set_option maxRecDepth 100000
set_option maxHeartbeats 8000000


/-! ### spec_l7S_other: function 79 (walked by hand) -/
/-- What a state of the reference's checker holds that came in: the module, the func's result, the row of its params and locals. -/
def SEnv (w0:World) (q:Nat→Value) (fs:List S88) (gs:List S75) (mem:Bool) (res:Int) (sl:List Int):Prop:=∃ AF cF AG cG AS cS,q 0=.slice AF fs.length cF∧q 1=.slice AG gs.length cG∧q 2=.bool mem∧q 7=.int .i64 res∧q 14=.slice AS sl.length cS∧Kd.C k88 w0 AF fs.length fs∧Kd.C k75 w0 AG gs.length gs∧Kd.C (Kd.int .i64) w0 AS sl.length sl
def takeRevS (l:List Int):CS S131→Nat→Option (CS S131)
 |c,0=>some c
 |c,n+1=>(takeS c (rd l (n:Int))).bind fun r=>takeRevS l r.1 n
section
variable (x:S103) (fs:List S88) (gs:List S75) (mem:Bool) (res:Int) (sl:List Int) (w0 w:World) (g:Nat) (q:Nat→Value) (c c':CS S131) (A:Option Addr) (n1:Nat) (B:Option Addr) (n2:Nat)
theorem other_65 (h:Cs w0 w g q c A n1 B n2) (hm:SEnv w0 q fs gs mem res sl) (hop:x.f0=65) (hr:c.put 127=some c'):
  Calls Try.prog 79 #[.pointer (some ⟨g,0,none⟩),.agg #[.int .i64 x.f0,.int .i64 x.f1]] w fun e w'=>e=.returned (.tuple #[])∧CsE w0 w' g q c':=by
 have HO:=A_ h
 have HK:=A_ (KeepBut.refl w g none)
 have hu71:=Try.underlying103
 have HM:=A_ hm
 clear h hm
 have b16:=ne_ hop 16
 have b32:=ne_ hop 32
 have b33:=ne_ hop 33
 have b34:=ne_ hop 34
 have b35:=ne_ hop 35
 have b36:=ne_ hop 36
 have b40:=ne_ hop 40
 have b41:=ne_ hop 41
 have b54:=ne_ hop 54
 have b55:=ne_ hop 55
 have b63:=ne_ hop 63
 have b64:=ne_ hop 64
 have b65:=e1_ hop
 have HR:=A_ hr
 clear hr hop
 go_enter Try.func79,Try.ntmps79
 go_wp2_with (first|((with_reducible refine gd_ 3 rfl ?_);refine bx_ #[.int .i64 x.f0,.int .i64 x.f1] 103 ?_;intro gx hg wx hbox hb;have BX:=A_ hbox;have NX:=A_ (HO.out.fresh_ne hg);replace HO:=A_ (HO.out.below hb);replace HK:=A_ (HK.out.trans (KeepBut.of_below hb g none) (.inl rfl));clear hbox hb hg;obtain⟨x0,x1⟩:=cp2_ BX.out)|(go_at_call 75;refine(sput_any 127 w0 _ g q _ c' A n1 _ n2 HO.out HR.out).mono ?_;rintro e w5 ⟨rfl,hE⟩;have HE:=A_ hE;clear hE))
 first|go_end0|((try simp only[Exit.inBlock,Exit.then]);refine rt_ ?_)
 exact⟨rfl,HE.out⟩
theorem other_66 (h:Cs w0 w g q c A n1 B n2) (hm:SEnv w0 q fs gs mem res sl) (hop:x.f0=66) (hr:c.put 126=some c'):
  Calls Try.prog 79 #[.pointer (some ⟨g,0,none⟩),.agg #[.int .i64 x.f0,.int .i64 x.f1]] w fun e w'=>e=.returned (.tuple #[])∧CsE w0 w' g q c':=by
 have HO:=A_ h
 have HK:=A_ (KeepBut.refl w g none)
 have hu71:=Try.underlying103
 have HM:=A_ hm
 clear h hm
 have b16:=ne_ hop 16
 have b32:=ne_ hop 32
 have b33:=ne_ hop 33
 have b34:=ne_ hop 34
 have b35:=ne_ hop 35
 have b36:=ne_ hop 36
 have b40:=ne_ hop 40
 have b41:=ne_ hop 41
 have b54:=ne_ hop 54
 have b55:=ne_ hop 55
 have b63:=ne_ hop 63
 have b64:=ne_ hop 64
 have b65:=ne_ hop 65
 have b66:=e1_ hop
 have HR:=A_ hr
 clear hr hop
 go_enter Try.func79,Try.ntmps79
 go_wp2_with (first|((with_reducible refine gd_ 3 rfl ?_);refine bx_ #[.int .i64 x.f0,.int .i64 x.f1] 103 ?_;intro gx hg wx hbox hb;have BX:=A_ hbox;have NX:=A_ (HO.out.fresh_ne hg);replace HO:=A_ (HO.out.below hb);replace HK:=A_ (HK.out.trans (KeepBut.of_below hb g none) (.inl rfl));clear hbox hb hg;obtain⟨x0,x1⟩:=cp2_ BX.out)|(go_at_call 75;refine(sput_any 126 w0 _ g q _ c' A n1 _ n2 HO.out HR.out).mono ?_;rintro e w5 ⟨rfl,hE⟩;have HE:=A_ hE;clear hE))
 first|go_end0|((try simp only[Exit.inBlock,Exit.then]);refine rt_ ?_)
 exact⟨rfl,HE.out⟩
theorem other_67 (h:Cs w0 w g q c A n1 B n2) (hm:SEnv w0 q fs gs mem res sl) (hop:x.f0=67) (hr:c.put 125=some c'):
  Calls Try.prog 79 #[.pointer (some ⟨g,0,none⟩),.agg #[.int .i64 x.f0,.int .i64 x.f1]] w fun e w'=>e=.returned (.tuple #[])∧CsE w0 w' g q c':=by
 have HO:=A_ h
 have HK:=A_ (KeepBut.refl w g none)
 have hu71:=Try.underlying103
 have HM:=A_ hm
 clear h hm
 have b16:=ne_ hop 16
 have b32:=ne_ hop 32
 have b33:=ne_ hop 33
 have b34:=ne_ hop 34
 have b35:=ne_ hop 35
 have b36:=ne_ hop 36
 have b40:=ne_ hop 40
 have b41:=ne_ hop 41
 have b54:=ne_ hop 54
 have b55:=ne_ hop 55
 have b63:=ne_ hop 63
 have b64:=ne_ hop 64
 have b65:=ne_ hop 65
 have b66:=ne_ hop 66
 have b67:=e1_ hop
 have HR:=A_ hr
 clear hr hop
 go_enter Try.func79,Try.ntmps79
 go_wp2_with (first|((with_reducible refine gd_ 3 rfl ?_);refine bx_ #[.int .i64 x.f0,.int .i64 x.f1] 103 ?_;intro gx hg wx hbox hb;have BX:=A_ hbox;have NX:=A_ (HO.out.fresh_ne hg);replace HO:=A_ (HO.out.below hb);replace HK:=A_ (HK.out.trans (KeepBut.of_below hb g none) (.inl rfl));clear hbox hb hg;obtain⟨x0,x1⟩:=cp2_ BX.out)|(go_at_call 75;refine(sput_any 125 w0 _ g q _ c' A n1 _ n2 HO.out HR.out).mono ?_;rintro e w5 ⟨rfl,hE⟩;have HE:=A_ hE;clear hE))
 first|go_end0|((try simp only[Exit.inBlock,Exit.then]);refine rt_ ?_)
 exact⟨rfl,HE.out⟩
theorem other_176 (h:Cs w0 w g q c A n1 B n2) (hm:SEnv w0 q fs gs mem res sl) (hop:x.f0=176) (hr:turnS c 126 127=some c'):
  Calls Try.prog 79 #[.pointer (some ⟨g,0,none⟩),.agg #[.int .i64 x.f0,.int .i64 x.f1]] w fun e w'=>e=.returned (.tuple #[])∧CsE w0 w' g q c':=by
 have HO:=A_ h
 have HK:=A_ (KeepBut.refl w g none)
 have hu71:=Try.underlying103
 have HM:=A_ hm
 clear h hm
 have b16:=ne_ hop 16
 have b32:=ne_ hop 32
 have b33:=ne_ hop 33
 have b34:=ne_ hop 34
 have b35:=ne_ hop 35
 have b36:=ne_ hop 36
 have b40:=ne_ hop 40
 have b41:=ne_ hop 41
 have b54:=ne_ hop 54
 have b55:=ne_ hop 55
 have b63:=ne_ hop 63
 have b64:=ne_ hop 64
 have b65:=ne_ hop 65
 have b66:=ne_ hop 66
 have b67:=ne_ hop 67
 have b176:=e1_ hop
 have HR:=A_ hr
 clear hr hop
 go_enter Try.func79,Try.ntmps79
 go_wp2_with (first|((with_reducible refine gd_ 3 rfl ?_);refine bx_ #[.int .i64 x.f0,.int .i64 x.f1] 103 ?_;intro gx hg wx hbox hb;have BX:=A_ hbox;have NX:=A_ (HO.out.fresh_ne hg);replace HO:=A_ (HO.out.below hb);replace HK:=A_ (HK.out.trans (KeepBut.of_below hb g none) (.inl rfl));clear hbox hb hg;obtain⟨x0,x1⟩:=cp2_ BX.out)|(go_at_call 95;refine(turn_any 126 127 w0 _ g q _ c' A n1 _ n2 HO.out HR.out).mono ?_;rintro e w5 ⟨rfl,hE⟩;have HE:=A_ hE;clear hE))
 first|go_end0|((try simp only[Exit.inBlock,Exit.then]);refine rt_ ?_)
 exact⟨rfl,HE.out⟩
theorem other_177 (h:Cs w0 w g q c A n1 B n2) (hm:SEnv w0 q fs gs mem res sl) (hop:x.f0=177) (hr:turnS c 127 126=some c'):
  Calls Try.prog 79 #[.pointer (some ⟨g,0,none⟩),.agg #[.int .i64 x.f0,.int .i64 x.f1]] w fun e w'=>e=.returned (.tuple #[])∧CsE w0 w' g q c':=by
 have HO:=A_ h
 have HK:=A_ (KeepBut.refl w g none)
 have hu71:=Try.underlying103
 have HM:=A_ hm
 clear h hm
 have b16:=ne_ hop 16
 have b32:=ne_ hop 32
 have b33:=ne_ hop 33
 have b34:=ne_ hop 34
 have b35:=ne_ hop 35
 have b36:=ne_ hop 36
 have b40:=ne_ hop 40
 have b41:=ne_ hop 41
 have b54:=ne_ hop 54
 have b55:=ne_ hop 55
 have b63:=ne_ hop 63
 have b64:=ne_ hop 64
 have b65:=ne_ hop 65
 have b66:=ne_ hop 66
 have b67:=ne_ hop 67
 have b176:=ne_ hop 176
 have b177:=e1_ hop
 have HR:=A_ hr
 clear hr hop
 go_enter Try.func79,Try.ntmps79
 go_wp2_with (first|((with_reducible refine gd_ 3 rfl ?_);refine bx_ #[.int .i64 x.f0,.int .i64 x.f1] 103 ?_;intro gx hg wx hbox hb;have BX:=A_ hbox;have NX:=A_ (HO.out.fresh_ne hg);replace HO:=A_ (HO.out.below hb);replace HK:=A_ (HK.out.trans (KeepBut.of_below hb g none) (.inl rfl));clear hbox hb hg;obtain⟨x0,x1⟩:=cp2_ BX.out)|(go_at_call 95;refine(turn_any 127 126 w0 _ g q _ c' A n1 _ n2 HO.out HR.out).mono ?_;rintro e w5 ⟨rfl,hE⟩;have HE:=A_ hE;clear hE))
 first|go_end0|((try simp only[Exit.inBlock,Exit.then]);refine rt_ ?_)
 exact⟨rfl,HE.out⟩
theorem other_178 (h:Cs w0 w g q c A n1 B n2) (hm:SEnv w0 q fs gs mem res sl) (hop:x.f0=178) (hr:turnS c 127 126=some c'):
  Calls Try.prog 79 #[.pointer (some ⟨g,0,none⟩),.agg #[.int .i64 x.f0,.int .i64 x.f1]] w fun e w'=>e=.returned (.tuple #[])∧CsE w0 w' g q c':=by
 have HO:=A_ h
 have HK:=A_ (KeepBut.refl w g none)
 have hu71:=Try.underlying103
 have HM:=A_ hm
 clear h hm
 have b16:=ne_ hop 16
 have b32:=ne_ hop 32
 have b33:=ne_ hop 33
 have b34:=ne_ hop 34
 have b35:=ne_ hop 35
 have b36:=ne_ hop 36
 have b40:=ne_ hop 40
 have b41:=ne_ hop 41
 have b54:=ne_ hop 54
 have b55:=ne_ hop 55
 have b63:=ne_ hop 63
 have b64:=ne_ hop 64
 have b65:=ne_ hop 65
 have b66:=ne_ hop 66
 have b67:=ne_ hop 67
 have b176:=ne_ hop 176
 have b177:=ne_ hop 177
 have b178:=e1_ hop
 have HR:=A_ hr
 clear hr hop
 go_enter Try.func79,Try.ntmps79
 go_wp2_with (first|((with_reducible refine gd_ 3 rfl ?_);refine bx_ #[.int .i64 x.f0,.int .i64 x.f1] 103 ?_;intro gx hg wx hbox hb;have BX:=A_ hbox;have NX:=A_ (HO.out.fresh_ne hg);replace HO:=A_ (HO.out.below hb);replace HK:=A_ (HK.out.trans (KeepBut.of_below hb g none) (.inl rfl));clear hbox hb hg;obtain⟨x0,x1⟩:=cp2_ BX.out)|(go_at_call 95;refine(turn_any 127 126 w0 _ g q _ c' A n1 _ n2 HO.out HR.out).mono ?_;rintro e w5 ⟨rfl,hE⟩;have HE:=A_ hE;clear hE))
 first|go_end0|((try simp only[Exit.inBlock,Exit.then]);refine rt_ ?_)
 exact⟨rfl,HE.out⟩
theorem other_179 (h:Cs w0 w g q c A n1 B n2) (hm:SEnv w0 q fs gs mem res sl) (hop:x.f0=179) (hr:turnS c 127 125=some c'):
  Calls Try.prog 79 #[.pointer (some ⟨g,0,none⟩),.agg #[.int .i64 x.f0,.int .i64 x.f1]] w fun e w'=>e=.returned (.tuple #[])∧CsE w0 w' g q c':=by
 have HO:=A_ h
 have HK:=A_ (KeepBut.refl w g none)
 have hu71:=Try.underlying103
 have HM:=A_ hm
 clear h hm
 have b16:=ne_ hop 16
 have b32:=ne_ hop 32
 have b33:=ne_ hop 33
 have b34:=ne_ hop 34
 have b35:=ne_ hop 35
 have b36:=ne_ hop 36
 have b40:=ne_ hop 40
 have b41:=ne_ hop 41
 have b54:=ne_ hop 54
 have b55:=ne_ hop 55
 have b63:=ne_ hop 63
 have b64:=ne_ hop 64
 have b65:=ne_ hop 65
 have b66:=ne_ hop 66
 have b67:=ne_ hop 67
 have b176:=ne_ hop 176
 have b177:=ne_ hop 177
 have b178:=ne_ hop 178
 have b179:=e1_ hop
 have HR:=A_ hr
 clear hr hop
 go_enter Try.func79,Try.ntmps79
 go_wp2_with (first|((with_reducible refine gd_ 3 rfl ?_);refine bx_ #[.int .i64 x.f0,.int .i64 x.f1] 103 ?_;intro gx hg wx hbox hb;have BX:=A_ hbox;have NX:=A_ (HO.out.fresh_ne hg);replace HO:=A_ (HO.out.below hb);replace HK:=A_ (HK.out.trans (KeepBut.of_below hb g none) (.inl rfl));clear hbox hb hg;obtain⟨x0,x1⟩:=cp2_ BX.out)|(go_at_call 95;refine(turn_any 127 125 w0 _ g q _ c' A n1 _ n2 HO.out HR.out).mono ?_;rintro e w5 ⟨rfl,hE⟩;have HE:=A_ hE;clear hE))
 first|go_end0|((try simp only[Exit.inBlock,Exit.then]);refine rt_ ?_)
 exact⟨rfl,HE.out⟩
theorem other_180 (h:Cs w0 w g q c A n1 B n2) (hm:SEnv w0 q fs gs mem res sl) (hop:x.f0=180) (hr:turnS c 125 127=some c'):
  Calls Try.prog 79 #[.pointer (some ⟨g,0,none⟩),.agg #[.int .i64 x.f0,.int .i64 x.f1]] w fun e w'=>e=.returned (.tuple #[])∧CsE w0 w' g q c':=by
 have HO:=A_ h
 have HK:=A_ (KeepBut.refl w g none)
 have hu71:=Try.underlying103
 have HM:=A_ hm
 clear h hm
 have b16:=ne_ hop 16
 have b32:=ne_ hop 32
 have b33:=ne_ hop 33
 have b34:=ne_ hop 34
 have b35:=ne_ hop 35
 have b36:=ne_ hop 36
 have b40:=ne_ hop 40
 have b41:=ne_ hop 41
 have b54:=ne_ hop 54
 have b55:=ne_ hop 55
 have b63:=ne_ hop 63
 have b64:=ne_ hop 64
 have b65:=ne_ hop 65
 have b66:=ne_ hop 66
 have b67:=ne_ hop 67
 have b176:=ne_ hop 176
 have b177:=ne_ hop 177
 have b178:=ne_ hop 178
 have b179:=ne_ hop 179
 have b180:=e1_ hop
 have HR:=A_ hr
 clear hr hop
 go_enter Try.func79,Try.ntmps79
 go_wp2_with (first|((with_reducible refine gd_ 3 rfl ?_);refine bx_ #[.int .i64 x.f0,.int .i64 x.f1] 103 ?_;intro gx hg wx hbox hb;have BX:=A_ hbox;have NX:=A_ (HO.out.fresh_ne hg);replace HO:=A_ (HO.out.below hb);replace HK:=A_ (HK.out.trans (KeepBut.of_below hb g none) (.inl rfl));clear hbox hb hg;obtain⟨x0,x1⟩:=cp2_ BX.out)|(go_at_call 95;refine(turn_any 125 127 w0 _ g q _ c' A n1 _ n2 HO.out HR.out).mono ?_;rintro e w5 ⟨rfl,hE⟩;have HE:=A_ hE;clear hE))
 first|go_end0|((try simp only[Exit.inBlock,Exit.then]);refine rt_ ?_)
 exact⟨rfl,HE.out⟩
theorem other_40 (h:Cs w0 w g q c A n1 B n2) (hm:SEnv w0 q fs gs mem res sl) (hop:x.f0=40) (hr:memS c mem x.f0=some c'):
  Calls Try.prog 79 #[.pointer (some ⟨g,0,none⟩),.agg #[.int .i64 x.f0,.int .i64 x.f1]] w fun e w'=>e=.returned (.tuple #[])∧CsE w0 w' g q c':=by
 have HO:=A_ h
 have HK:=A_ (KeepBut.refl w g none)
 have hu71:=Try.underlying103
 have HM:=A_ hm
 clear h hm
 have b16:=ne_ hop 16
 have b32:=ne_ hop 32
 have b33:=ne_ hop 33
 have b34:=ne_ hop 34
 have b35:=ne_ hop 35
 have b36:=ne_ hop 36
 have b40:=e1_ hop
 have HR:=A_ hr
 have H2:Aside0 (q 2=.bool mem):=by obtain⟨_,_,_,_,_,_,_,_,e,_⟩:=HM.out;exact⟨e⟩
 clear hr hop
 go_enter Try.func79,Try.ntmps79
 go_wp2_with (first|((with_reducible refine gd_ 3 rfl ?_);refine bx_ #[.int .i64 x.f0,.int .i64 x.f1] 103 ?_;intro gx hg wx hbox hb;have BX:=A_ hbox;have NX:=A_ (HO.out.fresh_ne hg);replace HO:=A_ (HO.out.below hb);replace HK:=A_ (HK.out.trans (KeepBut.of_below hb g none) (.inl rfl));clear hbox hb hg;obtain⟨x0,x1⟩:=cp2_ BX.out)|(go_at_call 94;refine(smem_any mem x.f0 w0 _ g q _ c' A n1 _ n2 HO.out H2.out HR.out).mono ?_;rintro e w5 ⟨rfl,hE⟩;have HE:=A_ hE;clear hE))
 first|go_end0|((try simp only[Exit.inBlock,Exit.then]);refine rt_ ?_)
 exact⟨rfl,HE.out⟩
theorem other_41 (h:Cs w0 w g q c A n1 B n2) (hm:SEnv w0 q fs gs mem res sl) (hop:x.f0=41) (hr:memS c mem x.f0=some c'):
  Calls Try.prog 79 #[.pointer (some ⟨g,0,none⟩),.agg #[.int .i64 x.f0,.int .i64 x.f1]] w fun e w'=>e=.returned (.tuple #[])∧CsE w0 w' g q c':=by
 have HO:=A_ h
 have HK:=A_ (KeepBut.refl w g none)
 have hu71:=Try.underlying103
 have HM:=A_ hm
 clear h hm
 have b16:=ne_ hop 16
 have b32:=ne_ hop 32
 have b33:=ne_ hop 33
 have b34:=ne_ hop 34
 have b35:=ne_ hop 35
 have b36:=ne_ hop 36
 have b40:=ne_ hop 40
 have b41:=e1_ hop
 have HR:=A_ hr
 have H2:Aside0 (q 2=.bool mem):=by obtain⟨_,_,_,_,_,_,_,_,e,_⟩:=HM.out;exact⟨e⟩
 clear hr hop
 go_enter Try.func79,Try.ntmps79
 go_wp2_with (first|((with_reducible refine gd_ 3 rfl ?_);refine bx_ #[.int .i64 x.f0,.int .i64 x.f1] 103 ?_;intro gx hg wx hbox hb;have BX:=A_ hbox;have NX:=A_ (HO.out.fresh_ne hg);replace HO:=A_ (HO.out.below hb);replace HK:=A_ (HK.out.trans (KeepBut.of_below hb g none) (.inl rfl));clear hbox hb hg;obtain⟨x0,x1⟩:=cp2_ BX.out)|(go_at_call 94;refine(smem_any mem x.f0 w0 _ g q _ c' A n1 _ n2 HO.out H2.out HR.out).mono ?_;rintro e w5 ⟨rfl,hE⟩;have HE:=A_ hE;clear hE))
 first|go_end0|((try simp only[Exit.inBlock,Exit.then]);refine rt_ ?_)
 exact⟨rfl,HE.out⟩
theorem other_54 (h:Cs w0 w g q c A n1 B n2) (hm:SEnv w0 q fs gs mem res sl) (hop:x.f0=54) (hr:memS c mem x.f0=some c'):
  Calls Try.prog 79 #[.pointer (some ⟨g,0,none⟩),.agg #[.int .i64 x.f0,.int .i64 x.f1]] w fun e w'=>e=.returned (.tuple #[])∧CsE w0 w' g q c':=by
 have HO:=A_ h
 have HK:=A_ (KeepBut.refl w g none)
 have hu71:=Try.underlying103
 have HM:=A_ hm
 clear h hm
 have b16:=ne_ hop 16
 have b32:=ne_ hop 32
 have b33:=ne_ hop 33
 have b34:=ne_ hop 34
 have b35:=ne_ hop 35
 have b36:=ne_ hop 36
 have b40:=ne_ hop 40
 have b41:=ne_ hop 41
 have b54:=e1_ hop
 have HR:=A_ hr
 have H2:Aside0 (q 2=.bool mem):=by obtain⟨_,_,_,_,_,_,_,_,e,_⟩:=HM.out;exact⟨e⟩
 clear hr hop
 go_enter Try.func79,Try.ntmps79
 go_wp2_with (first|((with_reducible refine gd_ 3 rfl ?_);refine bx_ #[.int .i64 x.f0,.int .i64 x.f1] 103 ?_;intro gx hg wx hbox hb;have BX:=A_ hbox;have NX:=A_ (HO.out.fresh_ne hg);replace HO:=A_ (HO.out.below hb);replace HK:=A_ (HK.out.trans (KeepBut.of_below hb g none) (.inl rfl));clear hbox hb hg;obtain⟨x0,x1⟩:=cp2_ BX.out)|(go_at_call 94;refine(smem_any mem x.f0 w0 _ g q _ c' A n1 _ n2 HO.out H2.out HR.out).mono ?_;rintro e w5 ⟨rfl,hE⟩;have HE:=A_ hE;clear hE))
 first|go_end0|((try simp only[Exit.inBlock,Exit.then]);refine rt_ ?_)
 exact⟨rfl,HE.out⟩
theorem other_55 (h:Cs w0 w g q c A n1 B n2) (hm:SEnv w0 q fs gs mem res sl) (hop:x.f0=55) (hr:memS c mem x.f0=some c'):
  Calls Try.prog 79 #[.pointer (some ⟨g,0,none⟩),.agg #[.int .i64 x.f0,.int .i64 x.f1]] w fun e w'=>e=.returned (.tuple #[])∧CsE w0 w' g q c':=by
 have HO:=A_ h
 have HK:=A_ (KeepBut.refl w g none)
 have hu71:=Try.underlying103
 have HM:=A_ hm
 clear h hm
 have b16:=ne_ hop 16
 have b32:=ne_ hop 32
 have b33:=ne_ hop 33
 have b34:=ne_ hop 34
 have b35:=ne_ hop 35
 have b36:=ne_ hop 36
 have b40:=ne_ hop 40
 have b41:=ne_ hop 41
 have b54:=ne_ hop 54
 have b55:=e1_ hop
 have HR:=A_ hr
 have H2:Aside0 (q 2=.bool mem):=by obtain⟨_,_,_,_,_,_,_,_,e,_⟩:=HM.out;exact⟨e⟩
 clear hr hop
 go_enter Try.func79,Try.ntmps79
 go_wp2_with (first|((with_reducible refine gd_ 3 rfl ?_);refine bx_ #[.int .i64 x.f0,.int .i64 x.f1] 103 ?_;intro gx hg wx hbox hb;have BX:=A_ hbox;have NX:=A_ (HO.out.fresh_ne hg);replace HO:=A_ (HO.out.below hb);replace HK:=A_ (HK.out.trans (KeepBut.of_below hb g none) (.inl rfl));clear hbox hb hg;obtain⟨x0,x1⟩:=cp2_ BX.out)|(go_at_call 94;refine(smem_any mem x.f0 w0 _ g q _ c' A n1 _ n2 HO.out H2.out HR.out).mono ?_;rintro e w5 ⟨rfl,hE⟩;have HE:=A_ hE;clear hE))
 first|go_end0|((try simp only[Exit.inBlock,Exit.then]);refine rt_ ?_)
 exact⟨rfl,HE.out⟩
theorem other_63 (h:Cs w0 w g q c A n1 B n2) (hm:SEnv w0 q fs gs mem res sl) (hop:x.f0=63) (hr:memS c mem x.f0=some c'):
  Calls Try.prog 79 #[.pointer (some ⟨g,0,none⟩),.agg #[.int .i64 x.f0,.int .i64 x.f1]] w fun e w'=>e=.returned (.tuple #[])∧CsE w0 w' g q c':=by
 have HO:=A_ h
 have HK:=A_ (KeepBut.refl w g none)
 have hu71:=Try.underlying103
 have HM:=A_ hm
 clear h hm
 have b16:=ne_ hop 16
 have b32:=ne_ hop 32
 have b33:=ne_ hop 33
 have b34:=ne_ hop 34
 have b35:=ne_ hop 35
 have b36:=ne_ hop 36
 have b40:=ne_ hop 40
 have b41:=ne_ hop 41
 have b54:=ne_ hop 54
 have b55:=ne_ hop 55
 have b63:=e1_ hop
 have HR:=A_ hr
 have H2:Aside0 (q 2=.bool mem):=by obtain⟨_,_,_,_,_,_,_,_,e,_⟩:=HM.out;exact⟨e⟩
 clear hr hop
 go_enter Try.func79,Try.ntmps79
 go_wp2_with (first|((with_reducible refine gd_ 3 rfl ?_);refine bx_ #[.int .i64 x.f0,.int .i64 x.f1] 103 ?_;intro gx hg wx hbox hb;have BX:=A_ hbox;have NX:=A_ (HO.out.fresh_ne hg);replace HO:=A_ (HO.out.below hb);replace HK:=A_ (HK.out.trans (KeepBut.of_below hb g none) (.inl rfl));clear hbox hb hg;obtain⟨x0,x1⟩:=cp2_ BX.out)|(go_at_call 94;refine(smem_any mem x.f0 w0 _ g q _ c' A n1 _ n2 HO.out H2.out HR.out).mono ?_;rintro e w5 ⟨rfl,hE⟩;have HE:=A_ hE;clear hE))
 first|go_end0|((try simp only[Exit.inBlock,Exit.then]);refine rt_ ?_)
 exact⟨rfl,HE.out⟩
theorem other_64 (h:Cs w0 w g q c A n1 B n2) (hm:SEnv w0 q fs gs mem res sl) (hop:x.f0=64) (hr:memS c mem x.f0=some c'):
  Calls Try.prog 79 #[.pointer (some ⟨g,0,none⟩),.agg #[.int .i64 x.f0,.int .i64 x.f1]] w fun e w'=>e=.returned (.tuple #[])∧CsE w0 w' g q c':=by
 have HO:=A_ h
 have HK:=A_ (KeepBut.refl w g none)
 have hu71:=Try.underlying103
 have HM:=A_ hm
 clear h hm
 have b16:=ne_ hop 16
 have b32:=ne_ hop 32
 have b33:=ne_ hop 33
 have b34:=ne_ hop 34
 have b35:=ne_ hop 35
 have b36:=ne_ hop 36
 have b40:=ne_ hop 40
 have b41:=ne_ hop 41
 have b54:=ne_ hop 54
 have b55:=ne_ hop 55
 have b63:=ne_ hop 63
 have b64:=e1_ hop
 have HR:=A_ hr
 have H2:Aside0 (q 2=.bool mem):=by obtain⟨_,_,_,_,_,_,_,_,e,_⟩:=HM.out;exact⟨e⟩
 clear hr hop
 go_enter Try.func79,Try.ntmps79
 go_wp2_with (first|((with_reducible refine gd_ 3 rfl ?_);refine bx_ #[.int .i64 x.f0,.int .i64 x.f1] 103 ?_;intro gx hg wx hbox hb;have BX:=A_ hbox;have NX:=A_ (HO.out.fresh_ne hg);replace HO:=A_ (HO.out.below hb);replace HK:=A_ (HK.out.trans (KeepBut.of_below hb g none) (.inl rfl));clear hbox hb hg;obtain⟨x0,x1⟩:=cp2_ BX.out)|(go_at_call 94;refine(smem_any mem x.f0 w0 _ g q _ c' A n1 _ n2 HO.out H2.out HR.out).mono ?_;rintro e w5 ⟨rfl,hE⟩;have HE:=A_ hE;clear hE))
 first|go_end0|((try simp only[Exit.inBlock,Exit.then]);refine rt_ ?_)
 exact⟨rfl,HE.out⟩
theorem other_32_no (h:Cs w0 w g q c A n1 B n2) (hm:SEnv w0 q fs gs mem res sl) (hop:x.f0=32) (hz:(sl.length:Int)≤x.f1) (hc:c'=c.fail 5):
  Calls Try.prog 79 #[.pointer (some ⟨g,0,none⟩),.agg #[.int .i64 x.f0,.int .i64 x.f1]] w fun e w'=>e=.returned (.tuple #[])∧CsE w0 w' g q c':=by
 have HO:=A_ h
 have HK:=A_ (KeepBut.refl w g none)
 have hu71:=Try.underlying103
 have HM:=A_ hm
 clear h hm
 subst hc
 have b16:=ne_ hop 16
 have b32:=e1_ hop
 have d32:(x.f0 !=32)=false:=by rw[hop];rfl
 have d33:=nd_ hop 33
 clear hop
 obtain⟨AF,cF,AG,cG,AS,cS,e0_,e1_,e2_,e7_,e14_,rF,rG,rS⟩:=HM.out
 go_enter Try.func79,Try.ntmps79
 go_upto_region 15 with (first|((with_reducible refine gd_ 3 rfl ?_);refine bx_ #[.int .i64 x.f0,.int .i64 x.f1] 103 ?_;intro gx hg wx hbox hb;have BX:=A_ hbox;have NX:=A_ (HO.out.fresh_ne hg);replace HO:=A_ (HO.out.below hb);replace HK:=A_ (HK.out.trans (KeepBut.of_below hb g none) (.inl rfl));clear hbox hb hg;obtain⟨x0,x1⟩:=cp2_ BX.out))
 have c14f:=HO.out.cell14
 rw[e14_] at c14f
 have RS:=A_ rS
 clear e0_ e1_ e2_ e7_ rF rG rS
 have cb:=decide_eq_true hz
 go_quiet (fail)
 replace HO:=A_ (HO.out.drewN nq);replace HK:=A_ (keep_drewN HK.out nq);replace BX:=A_ (blk_drewN BX.out nq);clear x0 x1 c14f;generalize wx.drewN nq=wq at*;obtain⟨x0,x1⟩:=cp2_ BX.out
 go_wp2_with (first|(go_at_call 77;refine(bad_any w0 _ g q _ 5 A n1 _ n2 HO.out).mono ?_;rintro e w5 ⟨rfl,hO,hK⟩;replace HO:=A_ hO;replace HK:=A_ (HK.out.trans hK (.inl rfl));replace BX:=A_ (KeepBut.blk hK BX.out NX.out.1 (by simp));clear x0 x1 hO hK;obtain⟨x0,x1⟩:=cp2_ BX.out))
 first|go_end0|((try simp only[Exit.inBlock,Exit.then]);refine rt_ ?_)
 exact⟨rfl,_,_,_,_,HO.out⟩
theorem other_32 (h:Cs w0 w g q c A n1 B n2) (hm:SEnv w0 q fs gs mem res sl) (hop:x.f0=32) (hz0:0≤x.f1) (hz:x.f1<(sl.length:Int)) (hr:c.put (rd sl x.f1)=some c'):
  Calls Try.prog 79 #[.pointer (some ⟨g,0,none⟩),.agg #[.int .i64 x.f0,.int .i64 x.f1]] w fun e w'=>e=.returned (.tuple #[])∧CsE w0 w' g q c':=by
 have HO:=A_ h
 have HK:=A_ (KeepBut.refl w g none)
 have hu71:=Try.underlying103
 have HM:=A_ hm
 clear h hm
 have HR:=A_ hr
 clear hr
 have b16:=ne_ hop 16
 have b32:=e1_ hop
 have d32:(x.f0 !=32)=false:=by rw[hop];rfl
 have d33:=nd_ hop 33
 clear hop
 obtain⟨AF,cF,AG,cG,AS,cS,e0_,e1_,e2_,e7_,e14_,rF,rG,rS⟩:=HM.out
 go_enter Try.func79,Try.ntmps79
 go_upto_region 15 with (first|((with_reducible refine gd_ 3 rfl ?_);refine bx_ #[.int .i64 x.f0,.int .i64 x.f1] 103 ?_;intro gx hg wx hbox hb;have BX:=A_ hbox;have NX:=A_ (HO.out.fresh_ne hg);replace HO:=A_ (HO.out.below hb);replace HK:=A_ (HK.out.trans (KeepBut.of_below hb g none) (.inl rfl));clear hbox hb hg;obtain⟨x0,x1⟩:=cp2_ BX.out))
 have c14f:=HO.out.cell14
 rw[e14_] at c14f
 have RS:=A_ rS
 clear e0_ e1_ e2_ e7_ rF rG rS
 have cb:decide ((sl.length:Int)≤x.f1)=false:=decide_eq_false (by omega)
 go_quiet (fail)
 replace HO:=A_ (HO.out.drewN nq);replace HK:=A_ (keep_drewN HK.out nq);replace BX:=A_ (blk_drewN BX.out nq);clear x0 x1 c14f;generalize wx.drewN nq=wq at*;obtain⟨x0,x1⟩:=cp2_ BX.out
 obtain⟨ad,eA,hx⟩:=Kd.at_int RS.out x.f1 hz0 (by omega)
 subst eA
 have q0:=eq_true hz0
 have q1:(x.f1<(sl.length:Int))=True:=eq_true (by omega)
 go_upto_region 20 with (fail)
 have c14f:=HO.out.cell14
 rw[e14_] at c14f
 have gx_:=cl_ HO.out.2.1 hx
 go_still_tail 9,(by kernel_rfl)
 change wpList _ _ _ _ _ wq.drew
 replace HO:=A_ HO.out.drew;replace HK:=A_ (keep_drew HK.out);replace BX:=A_ (blk_drew BX.out);clear x0 x1 c14f gx_;generalize wq.drew=wt at*;obtain⟨x0,x1⟩:=cp2_ BX.out
 go_wp2_with (first|(go_at_call 75;refine(sput_any (rd sl x.f1) w0 _ g q _ c' A n1 _ n2 HO.out HR.out).mono ?_;rintro e w5 ⟨rfl,hE⟩;have HE:=A_ hE;clear hE))
 first|go_end0|((try simp only[Exit.inBlock,Exit.then]);refine rt_ ?_)
 exact⟨rfl,HE.out⟩
theorem other_33_no (h:Cs w0 w g q c A n1 B n2) (hm:SEnv w0 q fs gs mem res sl) (hop:x.f0=33) (hz:(sl.length:Int)≤x.f1) (hc:c'=c.fail 5):
  Calls Try.prog 79 #[.pointer (some ⟨g,0,none⟩),.agg #[.int .i64 x.f0,.int .i64 x.f1]] w fun e w'=>e=.returned (.tuple #[])∧CsE w0 w' g q c':=by
 have HO:=A_ h
 have HK:=A_ (KeepBut.refl w g none)
 have hu71:=Try.underlying103
 have HM:=A_ hm
 clear h hm
 subst hc
 have b16:=ne_ hop 16
 have b32:=ne_ hop 32
 have b33:=e1_ hop
 have d32:=nd_ hop 32
 have d33:(x.f0 !=33)=false:=by rw[hop];rfl
 clear hop
 obtain⟨AF,cF,AG,cG,AS,cS,e0_,e1_,e2_,e7_,e14_,rF,rG,rS⟩:=HM.out
 go_enter Try.func79,Try.ntmps79
 go_upto_region 15 with (first|((with_reducible refine gd_ 3 rfl ?_);refine bx_ #[.int .i64 x.f0,.int .i64 x.f1] 103 ?_;intro gx hg wx hbox hb;have BX:=A_ hbox;have NX:=A_ (HO.out.fresh_ne hg);replace HO:=A_ (HO.out.below hb);replace HK:=A_ (HK.out.trans (KeepBut.of_below hb g none) (.inl rfl));clear hbox hb hg;obtain⟨x0,x1⟩:=cp2_ BX.out))
 have c14f:=HO.out.cell14
 rw[e14_] at c14f
 have RS:=A_ rS
 clear e0_ e1_ e2_ e7_ rF rG rS
 have cb:=decide_eq_true hz
 go_quiet (fail)
 replace HO:=A_ (HO.out.drewN nq);replace HK:=A_ (keep_drewN HK.out nq);replace BX:=A_ (blk_drewN BX.out nq);clear x0 x1 c14f;generalize wx.drewN nq=wq at*;obtain⟨x0,x1⟩:=cp2_ BX.out
 go_wp2_with (first|(go_at_call 77;refine(bad_any w0 _ g q _ 5 A n1 _ n2 HO.out).mono ?_;rintro e w5 ⟨rfl,hO,hK⟩;replace HO:=A_ hO;replace HK:=A_ (HK.out.trans hK (.inl rfl));replace BX:=A_ (KeepBut.blk hK BX.out NX.out.1 (by simp));clear x0 x1 hO hK;obtain⟨x0,x1⟩:=cp2_ BX.out))
 first|go_end0|((try simp only[Exit.inBlock,Exit.then]);refine rt_ ?_)
 exact⟨rfl,_,_,_,_,HO.out⟩
theorem other_33 (h:Cs w0 w g q c A n1 B n2) (hm:SEnv w0 q fs gs mem res sl) (hop:x.f0=33) (hz0:0≤x.f1) (hz:x.f1<(sl.length:Int)) (u:Int) (hs:takeS c (rd sl x.f1)=some (c',u)):
  Calls Try.prog 79 #[.pointer (some ⟨g,0,none⟩),.agg #[.int .i64 x.f0,.int .i64 x.f1]] w fun e w'=>e=.returned (.tuple #[])∧CsE w0 w' g q c':=by
 have HO:=A_ h
 have HK:=A_ (KeepBut.refl w g none)
 have hu71:=Try.underlying103
 have HM:=A_ hm
 clear h hm
 have HS:=A_ hs
 clear hs
 have b16:=ne_ hop 16
 have b32:=ne_ hop 32
 have b33:=e1_ hop
 have d32:=nd_ hop 32
 have d33:(x.f0 !=33)=false:=by rw[hop];rfl
 clear hop
 obtain⟨AF,cF,AG,cG,AS,cS,e0_,e1_,e2_,e7_,e14_,rF,rG,rS⟩:=HM.out
 go_enter Try.func79,Try.ntmps79
 go_upto_region 15 with (first|((with_reducible refine gd_ 3 rfl ?_);refine bx_ #[.int .i64 x.f0,.int .i64 x.f1] 103 ?_;intro gx hg wx hbox hb;have BX:=A_ hbox;have NX:=A_ (HO.out.fresh_ne hg);replace HO:=A_ (HO.out.below hb);replace HK:=A_ (HK.out.trans (KeepBut.of_below hb g none) (.inl rfl));clear hbox hb hg;obtain⟨x0,x1⟩:=cp2_ BX.out))
 have c14f:=HO.out.cell14
 rw[e14_] at c14f
 have RS:=A_ rS
 clear e0_ e1_ e2_ e7_ rF rG rS
 have cb:decide ((sl.length:Int)≤x.f1)=false:=decide_eq_false (by omega)
 go_quiet (fail)
 replace HO:=A_ (HO.out.drewN nq);replace HK:=A_ (keep_drewN HK.out nq);replace BX:=A_ (blk_drewN BX.out nq);clear x0 x1 c14f;generalize wx.drewN nq=wq at*;obtain⟨x0,x1⟩:=cp2_ BX.out
 obtain⟨ad,eA,hx⟩:=Kd.at_int RS.out x.f1 hz0 (by omega)
 subst eA
 have q0:=eq_true hz0
 have q1:(x.f1<(sl.length:Int))=True:=eq_true (by omega)
 go_upto_region 18 with (fail)
 have c14f:=HO.out.cell14
 rw[e14_] at c14f
 have gx_:=cl_ HO.out.2.1 hx
 go_still_tail 9,(by kernel_rfl)
 change wpList _ _ _ _ _ wq.drew
 replace HO:=A_ HO.out.drew;replace HK:=A_ (keep_drew HK.out);replace BX:=A_ (blk_drew BX.out);clear x0 x1 c14f gx_;generalize wq.drew=wr at*;obtain⟨x0,x1⟩:=cp2_ BX.out
 go_upto_region 19 with (first|(go_at_call 74;refine(stake_any (rd sl x.f1) u w0 _ g q _ c' A n1 _ n2 HO.out HS.out).mono ?_;rintro e w5 ⟨rfl,hO,hK⟩;replace HO:=A_ hO;replace HK:=A_ (HK.out.trans hK (.inl rfl));replace BX:=A_ (KeepBut.blk hK BX.out NX.out.1 (by simp));clear x0 x1 hO hK;obtain⟨x0,x1⟩:=cp2_ BX.out))
 go_wp2
 first|go_end0|((try simp only[Exit.inBlock,Exit.then]);refine rt_ ?_)
 exact⟨rfl,_,_,_,_,HO.out⟩
theorem other_34_no (h:Cs w0 w g q c A n1 B n2) (hm:SEnv w0 q fs gs mem res sl) (hop:x.f0=34) (hz:(sl.length:Int)≤x.f1) (hc:c'=c.fail 5):
  Calls Try.prog 79 #[.pointer (some ⟨g,0,none⟩),.agg #[.int .i64 x.f0,.int .i64 x.f1]] w fun e w'=>e=.returned (.tuple #[])∧CsE w0 w' g q c':=by
 have HO:=A_ h
 have HK:=A_ (KeepBut.refl w g none)
 have hu71:=Try.underlying103
 have HM:=A_ hm
 clear h hm
 subst hc
 have b16:=ne_ hop 16
 have b32:=ne_ hop 32
 have b33:=ne_ hop 33
 have b34:=e1_ hop
 have d32:=nd_ hop 32
 have d33:=nd_ hop 33
 clear hop
 obtain⟨AF,cF,AG,cG,AS,cS,e0_,e1_,e2_,e7_,e14_,rF,rG,rS⟩:=HM.out
 go_enter Try.func79,Try.ntmps79
 go_upto_region 15 with (first|((with_reducible refine gd_ 3 rfl ?_);refine bx_ #[.int .i64 x.f0,.int .i64 x.f1] 103 ?_;intro gx hg wx hbox hb;have BX:=A_ hbox;have NX:=A_ (HO.out.fresh_ne hg);replace HO:=A_ (HO.out.below hb);replace HK:=A_ (HK.out.trans (KeepBut.of_below hb g none) (.inl rfl));clear hbox hb hg;obtain⟨x0,x1⟩:=cp2_ BX.out))
 have c14f:=HO.out.cell14
 rw[e14_] at c14f
 have RS:=A_ rS
 clear e0_ e1_ e2_ e7_ rF rG rS
 have cb:=decide_eq_true hz
 go_quiet (fail)
 replace HO:=A_ (HO.out.drewN nq);replace HK:=A_ (keep_drewN HK.out nq);replace BX:=A_ (blk_drewN BX.out nq);clear x0 x1 c14f;generalize wx.drewN nq=wq at*;obtain⟨x0,x1⟩:=cp2_ BX.out
 go_wp2_with (first|(go_at_call 77;refine(bad_any w0 _ g q _ 5 A n1 _ n2 HO.out).mono ?_;rintro e w5 ⟨rfl,hO,hK⟩;replace HO:=A_ hO;replace HK:=A_ (HK.out.trans hK (.inl rfl));replace BX:=A_ (KeepBut.blk hK BX.out NX.out.1 (by simp));clear x0 x1 hO hK;obtain⟨x0,x1⟩:=cp2_ BX.out))
 first|go_end0|((try simp only[Exit.inBlock,Exit.then]);refine rt_ ?_)
 exact⟨rfl,_,_,_,_,HO.out⟩
theorem other_34 (h:Cs w0 w g q c A n1 B n2) (hm:SEnv w0 q fs gs mem res sl) (hop:x.f0=34) (hz0:0≤x.f1) (hz:x.f1<(sl.length:Int)) (c1:CS S131) (u:Int) (hs:takeS c (rd sl x.f1)=some (c1,u)) (hr:c1.put (rd sl x.f1)=some c'):
  Calls Try.prog 79 #[.pointer (some ⟨g,0,none⟩),.agg #[.int .i64 x.f0,.int .i64 x.f1]] w fun e w'=>e=.returned (.tuple #[])∧CsE w0 w' g q c':=by
 have HO:=A_ h
 have HK:=A_ (KeepBut.refl w g none)
 have hu71:=Try.underlying103
 have HM:=A_ hm
 clear h hm
 have HR:=A_ hr;have HS:=A_ hs
 clear hr hs
 have b16:=ne_ hop 16
 have b32:=ne_ hop 32
 have b33:=ne_ hop 33
 have b34:=e1_ hop
 have d32:=nd_ hop 32
 have d33:=nd_ hop 33
 clear hop
 obtain⟨AF,cF,AG,cG,AS,cS,e0_,e1_,e2_,e7_,e14_,rF,rG,rS⟩:=HM.out
 go_enter Try.func79,Try.ntmps79
 go_upto_region 15 with (first|((with_reducible refine gd_ 3 rfl ?_);refine bx_ #[.int .i64 x.f0,.int .i64 x.f1] 103 ?_;intro gx hg wx hbox hb;have BX:=A_ hbox;have NX:=A_ (HO.out.fresh_ne hg);replace HO:=A_ (HO.out.below hb);replace HK:=A_ (HK.out.trans (KeepBut.of_below hb g none) (.inl rfl));clear hbox hb hg;obtain⟨x0,x1⟩:=cp2_ BX.out))
 have c14f:=HO.out.cell14
 rw[e14_] at c14f
 have RS:=A_ rS
 clear e0_ e1_ e2_ e7_ rF rG rS
 have cb:decide ((sl.length:Int)≤x.f1)=false:=decide_eq_false (by omega)
 go_quiet (fail)
 replace HO:=A_ (HO.out.drewN nq);replace HK:=A_ (keep_drewN HK.out nq);replace BX:=A_ (blk_drewN BX.out nq);clear x0 x1 c14f;generalize wx.drewN nq=wq at*;obtain⟨x0,x1⟩:=cp2_ BX.out
 obtain⟨ad,eA,hx⟩:=Kd.at_int RS.out x.f1 hz0 (by omega)
 subst eA
 have q0:=eq_true hz0
 have q1:(x.f1<(sl.length:Int))=True:=eq_true (by omega)
 go_upto_region 18 with (fail)
 have c14f:=HO.out.cell14
 rw[e14_] at c14f
 have gx_:=cl_ HO.out.2.1 hx
 go_still_tail 9,(by kernel_rfl)
 change wpList _ _ _ _ _ wq.drew
 replace HO:=A_ HO.out.drew;replace HK:=A_ (keep_drew HK.out);replace BX:=A_ (blk_drew BX.out);clear x0 x1 c14f gx_;generalize wq.drew=wr at*;obtain⟨x0,x1⟩:=cp2_ BX.out
 go_upto_region 19 with (first|(go_at_call 74;refine(stake_any (rd sl x.f1) u w0 _ g q _ c1 A n1 _ n2 HO.out HS.out).mono ?_;rintro e w5 ⟨rfl,hO,hK⟩;replace HO:=A_ hO;replace HK:=A_ (HK.out.trans hK (.inl rfl));replace BX:=A_ (KeepBut.blk hK BX.out NX.out.1 (by simp));clear x0 x1 hO hK;obtain⟨x0,x1⟩:=cp2_ BX.out))
 go_upto_region 20 with (fail)
 have c14f:=HO.out.cell14
 rw[e14_] at c14f
 have gx_:=cl_ HO.out.2.1 hx
 go_still_tail 9,(by kernel_rfl)
 change wpList _ _ _ _ _ w5.drew
 replace HO:=A_ HO.out.drew;replace HK:=A_ (keep_drew HK.out);replace BX:=A_ (blk_drew BX.out);clear x0 x1 c14f gx_;generalize w5.drew=wt at*;obtain⟨x0,x1⟩:=cp2_ BX.out
 go_wp2_with (first|(go_at_call 75;refine(sput_any (rd sl x.f1) w0 _ g q _ c' A n1 _ n2 HO.out HR.out).mono ?_;rintro e w5 ⟨rfl,hE⟩;have HE:=A_ hE;clear hE))
 first|go_end0|((try simp only[Exit.inBlock,Exit.then]);refine rt_ ?_)
 exact⟨rfl,HE.out⟩
def spec_l7other.T25:Bool × List (List Nat × List Nat):=(true,[([],[]),([0],[0]),([1],[1]),([2],[2]),([3],[3]),([],[]),([5],[5]),([4,6],[4,6]),([7],[7]),([],[]),([9,8,0,1,2,3,4,5,6,7,8,9],[8,9])])
def spec_l7other.B25:List Nat:=[0,1,3,7,15,0,32,127,255,0,1023]
theorem spec_l7other.tab25:rtab .any (opsOf Try.f79 25)=spec_l7other.T25:=by kernel_rfl
theorem spec_l7other.bits25:waitsOk spec_l7other.T25.2 spec_l7other.B25=true:=by kernel_rfl
theorem other_35_no (h:Cs w0 w g q c A n1 B n2) (hm:SEnv w0 q fs gs mem res sl) (hop:x.f0=35) (hz:(gs.length:Int)≤x.f1) (hc:c'=c.fail 5):
  Calls Try.prog 79 #[.pointer (some ⟨g,0,none⟩),.agg #[.int .i64 x.f0,.int .i64 x.f1]] w fun e w'=>e=.returned (.tuple #[])∧CsE w0 w' g q c':=by
 have HO:=A_ h
 have HK:=A_ (KeepBut.refl w g none)
 have hu71:=Try.underlying103
 have HM:=A_ hm
 clear h hm
 subst hc
 have b16:=ne_ hop 16
 have b32:=ne_ hop 32
 have b33:=ne_ hop 33
 have b34:=ne_ hop 34
 have b35:=e1_ hop
 clear hop
 obtain⟨AF,cF,AG,cG,AS,cS,e0_,e1_,e2_,e7_,e14_,rF,rG,rS⟩:=HM.out
 go_enter Try.func79,Try.ntmps79
 go_upto_region 23 with (first|((with_reducible refine gd_ 3 rfl ?_);refine bx_ #[.int .i64 x.f0,.int .i64 x.f1] 103 ?_;intro gx hg wx hbox hb;have BX:=A_ hbox;have NX:=A_ (HO.out.fresh_ne hg);replace HO:=A_ (HO.out.below hb);replace HK:=A_ (HK.out.trans (KeepBut.of_below hb g none) (.inl rfl));clear hbox hb hg;obtain⟨x0,x1⟩:=cp2_ BX.out))
 have c1f:=HO.out.cell1
 rw[e1_] at c1f
 have RG:=A_ rG;have E1:=A_ e1_
 clear e0_ e1_ e2_ e7_ e14_ rF rG rS
 have cb:=decide_eq_true hz
 go_quiet (fail)
 replace HO:=A_ (HO.out.drewN nq);replace HK:=A_ (keep_drewN HK.out nq);replace BX:=A_ (blk_drewN BX.out nq);clear x0 x1 c1f;generalize wx.drewN nq=wq at*;obtain⟨x0,x1⟩:=cp2_ BX.out
 go_wp2_with (first|(go_at_call 77;refine(bad_any w0 _ g q _ 5 A n1 _ n2 HO.out).mono ?_;rintro e w5 ⟨rfl,hO,hK⟩;replace HO:=A_ hO;replace HK:=A_ (HK.out.trans hK (.inl rfl));replace BX:=A_ (KeepBut.blk hK BX.out NX.out.1 (by simp));clear x0 x1 hO hK;obtain⟨x0,x1⟩:=cp2_ BX.out))
 first|go_end0|((try simp only[Exit.inBlock,Exit.then]);refine rt_ ?_)
 exact⟨rfl,_,_,_,_,HO.out⟩
theorem other_36_no (h:Cs w0 w g q c A n1 B n2) (hm:SEnv w0 q fs gs mem res sl) (hop:x.f0=36) (hz:(gs.length:Int)≤x.f1) (hc:c'=c.fail 5):
  Calls Try.prog 79 #[.pointer (some ⟨g,0,none⟩),.agg #[.int .i64 x.f0,.int .i64 x.f1]] w fun e w'=>e=.returned (.tuple #[])∧CsE w0 w' g q c':=by
 have HO:=A_ h
 have HK:=A_ (KeepBut.refl w g none)
 have hu71:=Try.underlying103
 have HM:=A_ hm
 clear h hm
 subst hc
 have b16:=ne_ hop 16
 have b32:=ne_ hop 32
 have b33:=ne_ hop 33
 have b34:=ne_ hop 34
 have b35:=ne_ hop 35
 have b36:=e1_ hop
 clear hop
 obtain⟨AF,cF,AG,cG,AS,cS,e0_,e1_,e2_,e7_,e14_,rF,rG,rS⟩:=HM.out
 go_enter Try.func79,Try.ntmps79
 go_upto_region 23 with (first|((with_reducible refine gd_ 3 rfl ?_);refine bx_ #[.int .i64 x.f0,.int .i64 x.f1] 103 ?_;intro gx hg wx hbox hb;have BX:=A_ hbox;have NX:=A_ (HO.out.fresh_ne hg);replace HO:=A_ (HO.out.below hb);replace HK:=A_ (HK.out.trans (KeepBut.of_below hb g none) (.inl rfl));clear hbox hb hg;obtain⟨x0,x1⟩:=cp2_ BX.out))
 have c1f:=HO.out.cell1
 rw[e1_] at c1f
 have RG:=A_ rG;have E1:=A_ e1_
 clear e0_ e1_ e2_ e7_ e14_ rF rG rS
 have cb:=decide_eq_true hz
 go_quiet (fail)
 replace HO:=A_ (HO.out.drewN nq);replace HK:=A_ (keep_drewN HK.out nq);replace BX:=A_ (blk_drewN BX.out nq);clear x0 x1 c1f;generalize wx.drewN nq=wq at*;obtain⟨x0,x1⟩:=cp2_ BX.out
 go_wp2_with (first|(go_at_call 77;refine(bad_any w0 _ g q _ 5 A n1 _ n2 HO.out).mono ?_;rintro e w5 ⟨rfl,hO,hK⟩;replace HO:=A_ hO;replace HK:=A_ (HK.out.trans hK (.inl rfl));replace BX:=A_ (KeepBut.blk hK BX.out NX.out.1 (by simp));clear x0 x1 hO hK;obtain⟨x0,x1⟩:=cp2_ BX.out))
 first|go_end0|((try simp only[Exit.inBlock,Exit.then]);refine rt_ ?_)
 exact⟨rfl,_,_,_,_,HO.out⟩
theorem other_35 (h:Cs w0 w g q c A n1 B n2) (hm:SEnv w0 q fs gs mem res sl) (hop:x.f0=35) (hz0:0≤x.f1) (hz:x.f1<(gs.length:Int)) (hr:c.put (rd_T75 gs x.f1).f0=some c'):
  Calls Try.prog 79 #[.pointer (some ⟨g,0,none⟩),.agg #[.int .i64 x.f0,.int .i64 x.f1]] w fun e w'=>e=.returned (.tuple #[])∧CsE w0 w' g q c':=by
 have HO:=A_ h
 have HK:=A_ (KeepBut.refl w g none)
 have hu71:=Try.underlying103
 have HM:=A_ hm
 clear h hm
 have HR:=A_ hr
 clear hr
 have b16:=ne_ hop 16
 have b32:=ne_ hop 32
 have b33:=ne_ hop 33
 have b34:=ne_ hop 34
 have b35:=e1_ hop
 clear hop
 obtain⟨AF,cF,AG,cG,AS,cS,e0_,e1_,e2_,e7_,e14_,rF,rG,rS⟩:=HM.out
 go_enter Try.func79,Try.ntmps79
 go_upto_region 23 with (first|((with_reducible refine gd_ 3 rfl ?_);refine bx_ #[.int .i64 x.f0,.int .i64 x.f1] 103 ?_;intro gx hg wx hbox hb;have BX:=A_ hbox;have NX:=A_ (HO.out.fresh_ne hg);replace HO:=A_ (HO.out.below hb);replace HK:=A_ (HK.out.trans (KeepBut.of_below hb g none) (.inl rfl));clear hbox hb hg;obtain⟨x0,x1⟩:=cp2_ BX.out))
 have c1f:=HO.out.cell1
 rw[e1_] at c1f
 have RG:=A_ rG;have E1:=A_ e1_
 clear e0_ e1_ e2_ e7_ e14_ rF rG rS
 have cb:decide ((gs.length:Int)≤x.f1)=false:=decide_eq_false (by omega)
 obtain⟨ad,eA,g0_,g1_,g2_⟩:=at_T75 RG.out x.f1 hz0 (by omega)
 subst eA
 have q0:=eq_true hz0
 have q1:(x.f1<(gs.length:Int))=True:=eq_true (by omega)
 have hu63:=Try.underlying75
 go_quiet (fail)
 replace HO:=A_ (HO.out.drewN nq);replace HK:=A_ (keep_drewN HK.out nq);replace BX:=A_ (blk_drewN BX.out nq);clear x0 x1 c1f;generalize wx.drewN nq=wq at*;obtain⟨x0,x1⟩:=cp2_ BX.out
 have c1f:=HO.out.cell1
 rw[E1.out] at c1f
 replace g0_:=cl_ HO.out.2.1 g0_
 replace g1_:=cl_ HO.out.2.1 g1_
 replace g2_:=cl_ HO.out.2.1 g2_
 go_upto_region 25 with (fail)
 refine sS 11 (fun w'=>w'.cell? ⟨g,1,none⟩=some (.slice (some ad) gs.length cG)∧w'.cell? ⟨gx,1,none⟩=some (.int .i64 x.f1)∧w'.cell? (ad.add (x.f1.toNat*3))=some (.int .i64 (rd_T75 gs x.f1).f0)∧w'.cell? ⟨(ad.add (x.f1.toNat*3)).block,(ad.add (x.f1.toNat*3)).off+1,none⟩=some (.bool (rd_T75 gs x.f1).f1)∧w'.cell? ⟨(ad.add (x.f1.toNat*3)).block,(ad.add (x.f1.toNat*3)).off+2,none⟩=some (.int .u64 (rd_T75 gs x.f1).f2)) [10] ⟨c1f,x1,g0_,g1_,g2_⟩ spec_l7other.tab25 spec_l7other.bits25 (fun hHeld HT_ HW_=>?_)
 replace HO:=A_ HO.out.drew;replace HK:=A_ (keep_drew HK.out);replace BX:=A_ (blk_drew BX.out);clear c1f g0_ g1_ g2_ x0 x1;generalize wq.drew=wd at*
 refine pS HT_ 0 108 ?_
 refine pS HT_ 1 109 ?_
 refine pS HT_ 2 110 ?_
 refine pS HT_ 3 111 ?_
 refine pS HT_ 5 113 ?_
 refine tS HT_ HW_ 4 112 hHeld ?_
 refine tS HT_ HW_ 6 114 hHeld ?_
 refine pS HT_ 7 115 ?_
 refine tS HT_ HW_ 8 116 hHeld ?_
 refine oS HT_ 9 (some 6) (fun K hK=>?_)
 refine box_step (by rfl) (N:=6) ?hd (cs:=#[(.int .i64 0),(.bool false),(.int .u64 0)]) (t:=75) ?hr ?_;(case hd=>rfl);(case hr=>first|(go_simp;done)|(go_simp;rfl))
 intro gy hg wx hbox hb
 have BY:=A_ hbox;have GY:=A_ (show w.heap.size≤gy from by rw[hg];exact HK.out.1);have NY:=A_ (HO.out.fresh_ne hg);have GG:=A_ (Nat.le_trans HO.out.2.1.size (Nat.le_of_eq hg.symm));have m0:=A_ (HO.out.below hb);have m1:=A_ (HK.out.trans (KeepBut.of_below hb g none) (.inl rfl));have m4:=A_ (blk_below BX.out hb);have NXY:=A_ (show gx≠gy from by rw[hg];have:=blk_lt BX.out;omega)
 obtain⟨s0_,s1_,s2_,s3_,s4_⟩:=hHeld
 have hHeld2:=A_ (And.intro (cl_ hb s0_) (And.intro (cl_ hb s1_) (And.intro (cl_ hb s2_) (And.intro (cl_ hb s3_) (cl_ hb s4_)))))
 clear HO HK BX hbox hb hg s0_ s1_ s2_ s3_ s4_;have HO:=m0;have HK:=m1;have BX:=m4;clear m0 m1 m4
 obtain⟨z0,z1,z2⟩:=cp3_ BY.out;obtain⟨v0,v1,v2⟩:=fz3_ BY.out
 refine hK.out _ _ hHeld2.out (fun hHeld=>?_)
 clear hK K
 refine nS (some 6) ?_
 refine lS HT_ 10 (none) (fun K hK=>?_)
 obtain⟨vs,hvs⟩:∃ vs:List Value,vs=[.int .i64 (rd_T75 gs x.f1).f0,.bool (rd_T75 gs x.f1).f1,.int .u64 (rd_T75 gs x.f1).f2]:=⟨_,rfl⟩
 refine skip_ (w1:=sets wx gy 0 vs) (by rfl) rfl (by subst hvs;first|(go_simp;done)|(go_simp;rfl)) ?_
 clear hHeld hHeld2 z0 v0 z1 v1 z2 v2
 refine hK.out _ _ ?_
 clear hK K
 refine dS HT_ ?_
 replace BY:=A_ (sets_blk vs BY.out (by rw[hvs];rfl));replace HO:=A_ (HO.out.sets GG.out NY.out vs 0);replace HK:=A_ (keep_sets HK.out GY.out vs 0);replace BX:=A_ ((heap_sets vs wx 0 NXY.out).trans BX.out);generalize sets wx gy 0 vs=wy at*;subst hvs;obtain⟨x0,x1⟩:=cp2_ BX.out
 obtain⟨y0,y1,y2⟩:=cp3_ BY.out
 go_wp2_with (first|(go_at_call 75;refine(sput_any (rd_T75 gs x.f1).f0 w0 _ g q _ c' A n1 _ n2 HO.out HR.out).mono ?_;rintro e w5 ⟨rfl,hE⟩;have HE:=A_ hE;clear hE))
 first|go_end0|((try simp only[Exit.inBlock,Exit.then]);refine rt_ ?_)
 exact⟨rfl,HE.out⟩
theorem other_36_f (h:Cs w0 w g q c A n1 B n2) (hm:SEnv w0 q fs gs mem res sl) (hop:x.f0=36) (hz0:0≤x.f1) (hz:x.f1<(gs.length:Int)) (hx:(rd_T75 gs x.f1).f1=true) (u:Int) (hr:takeS (c.fail 7) (rd_T75 gs x.f1).f0=some (c',u)):
  Calls Try.prog 79 #[.pointer (some ⟨g,0,none⟩),.agg #[.int .i64 x.f0,.int .i64 x.f1]] w fun e w'=>e=.returned (.tuple #[])∧CsE w0 w' g q c':=by
 have HO:=A_ h
 have HK:=A_ (KeepBut.refl w g none)
 have hu71:=Try.underlying103
 have HM:=A_ hm
 clear h hm
 have HR:=A_ hr;have HX:=A_ hx
 clear hr hx
 have b16:=ne_ hop 16
 have b32:=ne_ hop 32
 have b33:=ne_ hop 33
 have b34:=ne_ hop 34
 have b35:=ne_ hop 35
 have b36:=e1_ hop
 clear hop
 obtain⟨AF,cF,AG,cG,AS,cS,e0_,e1_,e2_,e7_,e14_,rF,rG,rS⟩:=HM.out
 go_enter Try.func79,Try.ntmps79
 go_upto_region 23 with (first|((with_reducible refine gd_ 3 rfl ?_);refine bx_ #[.int .i64 x.f0,.int .i64 x.f1] 103 ?_;intro gx hg wx hbox hb;have BX:=A_ hbox;have NX:=A_ (HO.out.fresh_ne hg);replace HO:=A_ (HO.out.below hb);replace HK:=A_ (HK.out.trans (KeepBut.of_below hb g none) (.inl rfl));clear hbox hb hg;obtain⟨x0,x1⟩:=cp2_ BX.out))
 have c1f:=HO.out.cell1
 rw[e1_] at c1f
 have RG:=A_ rG;have E1:=A_ e1_
 clear e0_ e1_ e2_ e7_ e14_ rF rG rS
 have cb:decide ((gs.length:Int)≤x.f1)=false:=decide_eq_false (by omega)
 obtain⟨ad,eA,g0_,g1_,g2_⟩:=at_T75 RG.out x.f1 hz0 (by omega)
 subst eA
 have q0:=eq_true hz0
 have q1:(x.f1<(gs.length:Int))=True:=eq_true (by omega)
 have hu63:=Try.underlying75
 go_quiet (fail)
 replace HO:=A_ (HO.out.drewN nq);replace HK:=A_ (keep_drewN HK.out nq);replace BX:=A_ (blk_drewN BX.out nq);clear x0 x1 c1f;generalize wx.drewN nq=wq at*;obtain⟨x0,x1⟩:=cp2_ BX.out
 have c1f:=HO.out.cell1
 rw[E1.out] at c1f
 replace g0_:=cl_ HO.out.2.1 g0_
 replace g1_:=cl_ HO.out.2.1 g1_
 replace g2_:=cl_ HO.out.2.1 g2_
 go_upto_region 25 with (fail)
 refine sS 11 (fun w'=>w'.cell? ⟨g,1,none⟩=some (.slice (some ad) gs.length cG)∧w'.cell? ⟨gx,1,none⟩=some (.int .i64 x.f1)∧w'.cell? (ad.add (x.f1.toNat*3))=some (.int .i64 (rd_T75 gs x.f1).f0)∧w'.cell? ⟨(ad.add (x.f1.toNat*3)).block,(ad.add (x.f1.toNat*3)).off+1,none⟩=some (.bool (rd_T75 gs x.f1).f1)∧w'.cell? ⟨(ad.add (x.f1.toNat*3)).block,(ad.add (x.f1.toNat*3)).off+2,none⟩=some (.int .u64 (rd_T75 gs x.f1).f2)) [10] ⟨c1f,x1,g0_,g1_,g2_⟩ spec_l7other.tab25 spec_l7other.bits25 (fun hHeld HT_ HW_=>?_)
 replace HO:=A_ HO.out.drew;replace HK:=A_ (keep_drew HK.out);replace BX:=A_ (blk_drew BX.out);clear c1f g0_ g1_ g2_ x0 x1;generalize wq.drew=wd at*
 refine pS HT_ 0 108 ?_
 refine pS HT_ 1 109 ?_
 refine pS HT_ 2 110 ?_
 refine pS HT_ 3 111 ?_
 refine pS HT_ 5 113 ?_
 refine tS HT_ HW_ 4 112 hHeld ?_
 refine tS HT_ HW_ 6 114 hHeld ?_
 refine pS HT_ 7 115 ?_
 refine tS HT_ HW_ 8 116 hHeld ?_
 refine oS HT_ 9 (some 6) (fun K hK=>?_)
 refine box_step (by rfl) (N:=6) ?hd (cs:=#[(.int .i64 0),(.bool false),(.int .u64 0)]) (t:=75) ?hr ?_;(case hd=>rfl);(case hr=>first|(go_simp;done)|(go_simp;rfl))
 intro gy hg wx hbox hb
 have BY:=A_ hbox;have GY:=A_ (show w.heap.size≤gy from by rw[hg];exact HK.out.1);have NY:=A_ (HO.out.fresh_ne hg);have GG:=A_ (Nat.le_trans HO.out.2.1.size (Nat.le_of_eq hg.symm));have m0:=A_ (HO.out.below hb);have m1:=A_ (HK.out.trans (KeepBut.of_below hb g none) (.inl rfl));have m4:=A_ (blk_below BX.out hb);have NXY:=A_ (show gx≠gy from by rw[hg];have:=blk_lt BX.out;omega)
 obtain⟨s0_,s1_,s2_,s3_,s4_⟩:=hHeld
 have hHeld2:=A_ (And.intro (cl_ hb s0_) (And.intro (cl_ hb s1_) (And.intro (cl_ hb s2_) (And.intro (cl_ hb s3_) (cl_ hb s4_)))))
 clear HO HK BX hbox hb hg s0_ s1_ s2_ s3_ s4_;have HO:=m0;have HK:=m1;have BX:=m4;clear m0 m1 m4
 obtain⟨z0,z1,z2⟩:=cp3_ BY.out;obtain⟨v0,v1,v2⟩:=fz3_ BY.out
 refine hK.out _ _ hHeld2.out (fun hHeld=>?_)
 clear hK K
 refine nS (some 6) ?_
 refine lS HT_ 10 (none) (fun K hK=>?_)
 obtain⟨vs,hvs⟩:∃ vs:List Value,vs=[.int .i64 (rd_T75 gs x.f1).f0,.bool (rd_T75 gs x.f1).f1,.int .u64 (rd_T75 gs x.f1).f2]:=⟨_,rfl⟩
 refine skip_ (w1:=sets wx gy 0 vs) (by rfl) rfl (by subst hvs;first|(go_simp;done)|(go_simp;rfl)) ?_
 clear hHeld hHeld2 z0 v0 z1 v1 z2 v2
 refine hK.out _ _ ?_
 clear hK K
 refine dS HT_ ?_
 replace BY:=A_ (sets_blk vs BY.out (by rw[hvs];rfl));replace HO:=A_ (HO.out.sets GG.out NY.out vs 0);replace HK:=A_ (keep_sets HK.out GY.out vs 0);replace BX:=A_ ((heap_sets vs wx 0 NXY.out).trans BX.out);generalize sets wx gy 0 vs=wy at*;subst hvs;obtain⟨x0,x1⟩:=cp2_ BX.out
 obtain⟨y0,y1,y2⟩:=cp3_ BY.out
 rw[HX.out] at y1
 go_wp2_with (first|(go_at_call 77;refine(bad_any w0 _ g q _ 7 A n1 _ n2 HO.out).mono ?_;rintro e w5 ⟨rfl,hO,hK⟩;replace HO:=A_ hO;replace HK:=A_ (HK.out.trans hK (.inl rfl));replace BY:=A_ (KeepBut.blk hK BY.out NY.out.1 (by simp));clear BX x0 x1 y0 y1 y2 hO hK;have y0:=(blk_cell BY.out 0).trans rfl)|(go_at_call 74;refine(stake_any (rd_T75 gs x.f1).f0 u w0 _ g q _ c' A n1 _ n2 HO.out HR.out).mono ?_;rintro e w5 ⟨rfl,hO,hK⟩;replace HO:=A_ hO;clear HK hO hK))
 first|go_end0|((try simp only[Exit.inBlock,Exit.then]);refine rt_ ?_)
 exact⟨rfl,_,_,_,_,HO.out⟩
theorem other_36 (h:Cs w0 w g q c A n1 B n2) (hm:SEnv w0 q fs gs mem res sl) (hop:x.f0=36) (hz0:0≤x.f1) (hz:x.f1<(gs.length:Int)) (hx:(rd_T75 gs x.f1).f1=false) (u:Int) (hr:takeS c (rd_T75 gs x.f1).f0=some (c',u)):
  Calls Try.prog 79 #[.pointer (some ⟨g,0,none⟩),.agg #[.int .i64 x.f0,.int .i64 x.f1]] w fun e w'=>e=.returned (.tuple #[])∧CsE w0 w' g q c':=by
 have HO:=A_ h
 have HK:=A_ (KeepBut.refl w g none)
 have hu71:=Try.underlying103
 have HM:=A_ hm
 clear h hm
 have HR:=A_ hr;have HX:=A_ hx
 clear hr hx
 have b16:=ne_ hop 16
 have b32:=ne_ hop 32
 have b33:=ne_ hop 33
 have b34:=ne_ hop 34
 have b35:=ne_ hop 35
 have b36:=e1_ hop
 clear hop
 obtain⟨AF,cF,AG,cG,AS,cS,e0_,e1_,e2_,e7_,e14_,rF,rG,rS⟩:=HM.out
 go_enter Try.func79,Try.ntmps79
 go_upto_region 23 with (first|((with_reducible refine gd_ 3 rfl ?_);refine bx_ #[.int .i64 x.f0,.int .i64 x.f1] 103 ?_;intro gx hg wx hbox hb;have BX:=A_ hbox;have NX:=A_ (HO.out.fresh_ne hg);replace HO:=A_ (HO.out.below hb);replace HK:=A_ (HK.out.trans (KeepBut.of_below hb g none) (.inl rfl));clear hbox hb hg;obtain⟨x0,x1⟩:=cp2_ BX.out))
 have c1f:=HO.out.cell1
 rw[e1_] at c1f
 have RG:=A_ rG;have E1:=A_ e1_
 clear e0_ e1_ e2_ e7_ e14_ rF rG rS
 have cb:decide ((gs.length:Int)≤x.f1)=false:=decide_eq_false (by omega)
 obtain⟨ad,eA,g0_,g1_,g2_⟩:=at_T75 RG.out x.f1 hz0 (by omega)
 subst eA
 have q0:=eq_true hz0
 have q1:(x.f1<(gs.length:Int))=True:=eq_true (by omega)
 have hu63:=Try.underlying75
 go_quiet (fail)
 replace HO:=A_ (HO.out.drewN nq);replace HK:=A_ (keep_drewN HK.out nq);replace BX:=A_ (blk_drewN BX.out nq);clear x0 x1 c1f;generalize wx.drewN nq=wq at*;obtain⟨x0,x1⟩:=cp2_ BX.out
 have c1f:=HO.out.cell1
 rw[E1.out] at c1f
 replace g0_:=cl_ HO.out.2.1 g0_
 replace g1_:=cl_ HO.out.2.1 g1_
 replace g2_:=cl_ HO.out.2.1 g2_
 go_upto_region 25 with (fail)
 refine sS 11 (fun w'=>w'.cell? ⟨g,1,none⟩=some (.slice (some ad) gs.length cG)∧w'.cell? ⟨gx,1,none⟩=some (.int .i64 x.f1)∧w'.cell? (ad.add (x.f1.toNat*3))=some (.int .i64 (rd_T75 gs x.f1).f0)∧w'.cell? ⟨(ad.add (x.f1.toNat*3)).block,(ad.add (x.f1.toNat*3)).off+1,none⟩=some (.bool (rd_T75 gs x.f1).f1)∧w'.cell? ⟨(ad.add (x.f1.toNat*3)).block,(ad.add (x.f1.toNat*3)).off+2,none⟩=some (.int .u64 (rd_T75 gs x.f1).f2)) [10] ⟨c1f,x1,g0_,g1_,g2_⟩ spec_l7other.tab25 spec_l7other.bits25 (fun hHeld HT_ HW_=>?_)
 replace HO:=A_ HO.out.drew;replace HK:=A_ (keep_drew HK.out);replace BX:=A_ (blk_drew BX.out);clear c1f g0_ g1_ g2_ x0 x1;generalize wq.drew=wd at*
 refine pS HT_ 0 108 ?_
 refine pS HT_ 1 109 ?_
 refine pS HT_ 2 110 ?_
 refine pS HT_ 3 111 ?_
 refine pS HT_ 5 113 ?_
 refine tS HT_ HW_ 4 112 hHeld ?_
 refine tS HT_ HW_ 6 114 hHeld ?_
 refine pS HT_ 7 115 ?_
 refine tS HT_ HW_ 8 116 hHeld ?_
 refine oS HT_ 9 (some 6) (fun K hK=>?_)
 refine box_step (by rfl) (N:=6) ?hd (cs:=#[(.int .i64 0),(.bool false),(.int .u64 0)]) (t:=75) ?hr ?_;(case hd=>rfl);(case hr=>first|(go_simp;done)|(go_simp;rfl))
 intro gy hg wx hbox hb
 have BY:=A_ hbox;have GY:=A_ (show w.heap.size≤gy from by rw[hg];exact HK.out.1);have NY:=A_ (HO.out.fresh_ne hg);have GG:=A_ (Nat.le_trans HO.out.2.1.size (Nat.le_of_eq hg.symm));have m0:=A_ (HO.out.below hb);have m1:=A_ (HK.out.trans (KeepBut.of_below hb g none) (.inl rfl));have m4:=A_ (blk_below BX.out hb);have NXY:=A_ (show gx≠gy from by rw[hg];have:=blk_lt BX.out;omega)
 obtain⟨s0_,s1_,s2_,s3_,s4_⟩:=hHeld
 have hHeld2:=A_ (And.intro (cl_ hb s0_) (And.intro (cl_ hb s1_) (And.intro (cl_ hb s2_) (And.intro (cl_ hb s3_) (cl_ hb s4_)))))
 clear HO HK BX hbox hb hg s0_ s1_ s2_ s3_ s4_;have HO:=m0;have HK:=m1;have BX:=m4;clear m0 m1 m4
 obtain⟨z0,z1,z2⟩:=cp3_ BY.out;obtain⟨v0,v1,v2⟩:=fz3_ BY.out
 refine hK.out _ _ hHeld2.out (fun hHeld=>?_)
 clear hK K
 refine nS (some 6) ?_
 refine lS HT_ 10 (none) (fun K hK=>?_)
 obtain⟨vs,hvs⟩:∃ vs:List Value,vs=[.int .i64 (rd_T75 gs x.f1).f0,.bool (rd_T75 gs x.f1).f1,.int .u64 (rd_T75 gs x.f1).f2]:=⟨_,rfl⟩
 refine skip_ (w1:=sets wx gy 0 vs) (by rfl) rfl (by subst hvs;first|(go_simp;done)|(go_simp;rfl)) ?_
 clear hHeld hHeld2 z0 v0 z1 v1 z2 v2
 refine hK.out _ _ ?_
 clear hK K
 refine dS HT_ ?_
 replace BY:=A_ (sets_blk vs BY.out (by rw[hvs];rfl));replace HO:=A_ (HO.out.sets GG.out NY.out vs 0);replace HK:=A_ (keep_sets HK.out GY.out vs 0);replace BX:=A_ ((heap_sets vs wx 0 NXY.out).trans BX.out);generalize sets wx gy 0 vs=wy at*;subst hvs;obtain⟨x0,x1⟩:=cp2_ BX.out
 obtain⟨y0,y1,y2⟩:=cp3_ BY.out
 rw[HX.out] at y1
 go_wp2_with (first|(go_at_call 74;refine(stake_any (rd_T75 gs x.f1).f0 u w0 _ g q _ c' A n1 _ n2 HO.out HR.out).mono ?_;rintro e w5 ⟨rfl,hO,hK⟩;replace HO:=A_ hO;clear HK hO hK))
 first|go_end0|((try simp only[Exit.inBlock,Exit.then]);refine rt_ ?_)
 exact⟨rfl,_,_,_,_,HO.out⟩
def spec_l7other.T6:Bool × List (List Nat × List Nat):=(true,[([],[]),([0],[0]),([1],[1]),([2],[2]),([3],[3]),([],[]),([5],[5]),([4,6],[4,6]),([7],[7]),([],[]),([9,8,0,1,2,3,4,5,6,7,8,9],[8,9])])
def spec_l7other.B6:List Nat:=[0,1,3,7,15,0,32,127,255,0,1023]
theorem spec_l7other.tab6:rtab .any (opsOf Try.f79 6)=spec_l7other.T6:=by kernel_rfl
theorem spec_l7other.bits6:waitsOk spec_l7other.T6.2 spec_l7other.B6=true:=by kernel_rfl
theorem other_16_no (h:Cs w0 w g q c A n1 B n2) (hm:SEnv w0 q fs gs mem res sl) (hop:x.f0=16) (hz:(fs.length:Int)≤x.f1) (hc:c'=c.fail 5):
  Calls Try.prog 79 #[.pointer (some ⟨g,0,none⟩),.agg #[.int .i64 x.f0,.int .i64 x.f1]] w fun e w'=>e=.returned (.tuple #[])∧CsE w0 w' g q c':=by
 have HO:=A_ h
 have HK:=A_ (KeepBut.refl w g none)
 have hu71:=Try.underlying103
 have HM:=A_ hm
 clear h hm
 subst hc
 have b16:=e1_ hop
 clear hop
 obtain⟨AF,cF,AG,cG,AS,cS,e0_,e1_,e2_,e7_,e14_,rF,rG,rS⟩:=HM.out
 go_enter Try.func79,Try.ntmps79
 go_upto_region 4 with (first|((with_reducible refine gd_ 3 rfl ?_);refine bx_ #[.int .i64 x.f0,.int .i64 x.f1] 103 ?_;intro gx hg wx hbox hb;have BX:=A_ hbox;have NX:=A_ (HO.out.fresh_ne hg);replace HO:=A_ (HO.out.below hb);replace HK:=A_ (HK.out.trans (KeepBut.of_below hb g none) (.inl rfl));clear hbox hb hg;obtain⟨x0,x1⟩:=cp2_ BX.out))
 have c0f:=HO.out.cell0
 rw[e0_] at c0f
 have RF:=A_ rF;have E0:=A_ e0_
 clear e0_ e1_ e2_ e7_ e14_ rF rG rS
 have cb:=decide_eq_true hz
 go_quiet (fail)
 replace HO:=A_ (HO.out.drewN nq);replace HK:=A_ (keep_drewN HK.out nq);replace BX:=A_ (blk_drewN BX.out nq);clear x0 x1 c0f;generalize wx.drewN nq=wq at*;obtain⟨x0,x1⟩:=cp2_ BX.out
 go_wp2_with (first|(go_at_call 77;refine(bad_any w0 _ g q _ 5 A n1 _ n2 HO.out).mono ?_;rintro e w5 ⟨rfl,hO,hK⟩;replace HO:=A_ hO;replace HK:=A_ (HK.out.trans hK (.inl rfl));replace BX:=A_ (KeepBut.blk hK BX.out NX.out.1 (by simp));clear x0 x1 hO hK;obtain⟨x0,x1⟩:=cp2_ BX.out))
 first|go_end0|((try simp only[Exit.inBlock,Exit.then]);refine rt_ ?_)
 exact⟨rfl,_,_,_,_,HO.out⟩
theorem other_16 (h:Cs w0 w g q c A n1 B n2) (hm:SEnv w0 q fs gs mem res sl) (hop:x.f0=16) (hz0:0≤x.f1) (hz:x.f1<(fs.length:Int)) (c1:CS S131) (ht:takeRevS (rd_T88 fs x.f1).f0 c (rd_T88 fs x.f1).f0.length=some c1) (hr:c1.put (rd_T88 fs x.f1).f1=some c'):
  Calls Try.prog 79 #[.pointer (some ⟨g,0,none⟩),.agg #[.int .i64 x.f0,.int .i64 x.f1]] w fun e w'=>e=.returned (.tuple #[])∧CsE w0 w' g q c':=by
 have HO:=A_ h
 have HK:=A_ (KeepBut.refl w g none)
 have hu71:=Try.underlying103
 have HM:=A_ hm
 clear h hm
 have HR:=A_ hr;have HT:=A_ ht
 clear hr ht
 have b16:=e1_ hop
 clear hop
 obtain⟨AF,cF,AG,cG,AS,cS,e0_,e1_,e2_,e7_,e14_,rF,rG,rS⟩:=HM.out
 go_enter Try.func79,Try.ntmps79
 go_upto_region 4 with (first|((with_reducible refine gd_ 3 rfl ?_);refine bx_ #[.int .i64 x.f0,.int .i64 x.f1] 103 ?_;intro gx hg wx hbox hb;have BX:=A_ hbox;have NX:=A_ (HO.out.fresh_ne hg);replace HO:=A_ (HO.out.below hb);replace HK:=A_ (HK.out.trans (KeepBut.of_below hb g none) (.inl rfl));clear hbox hb hg;obtain⟨x0,x1⟩:=cp2_ BX.out))
 have c0f:=HO.out.cell0
 rw[e0_] at c0f
 have RF:=A_ rF;have E0:=A_ e0_
 clear e0_ e1_ e2_ e7_ e14_ rF rG rS
 have cb:decide ((fs.length:Int)≤x.f1)=false:=decide_eq_false (by omega)
 obtain⟨ad,A0,d0,A2,d2,A3,d3,eA,g0_,g1_,g2_,g3_,l0_,r0,_,_,_,_⟩:=at_T88 RF.out x.f1 hz0 (by omega)
 subst eA
 have R0:=A_ r0;have hmax:=Kd.C_max r0
 clear r0 l0_
 have q0:=eq_true hz0
 have q1:(x.f1<(fs.length:Int))=True:=eq_true (by omega)
 have hu59:=Try.underlying88
 go_quiet (fail)
 replace HO:=A_ (HO.out.drewN nq);replace HK:=A_ (keep_drewN HK.out nq);replace BX:=A_ (blk_drewN BX.out nq);clear x0 x1 c0f;generalize wx.drewN nq=wq at*;obtain⟨x0,x1⟩:=cp2_ BX.out
 have c0f:=HO.out.cell0
 rw[E0.out] at c0f
 replace g0_:=cl_ HO.out.2.1 g0_
 replace g1_:=cl_ HO.out.2.1 g1_
 replace g2_:=cl_ HO.out.2.1 g2_
 replace g3_:=cl_ HO.out.2.1 g3_
 go_upto_region 6 with (fail)
 refine sS 11 (fun w'=>w'.cell? ⟨g,0,none⟩=some (.slice (some ad) fs.length cF)∧w'.cell? ⟨gx,1,none⟩=some (.int .i64 x.f1)∧w'.cell? (ad.add (x.f1.toNat*4))=some (.slice A0 (rd_T88 fs x.f1).f0.length d0)∧w'.cell? ⟨(ad.add (x.f1.toNat*4)).block,(ad.add (x.f1.toNat*4)).off+1,none⟩=some (.int .i64 (rd_T88 fs x.f1).f1)∧w'.cell? ⟨(ad.add (x.f1.toNat*4)).block,(ad.add (x.f1.toNat*4)).off+2,none⟩=some (.slice A2 (rd_T88 fs x.f1).f2.length d2)∧w'.cell? ⟨(ad.add (x.f1.toNat*4)).block,(ad.add (x.f1.toNat*4)).off+3,none⟩=some (.slice A3 (rd_T88 fs x.f1).f3.length d3)) [10] ⟨c0f,x1,g0_,g1_,g2_,g3_⟩ spec_l7other.tab6 spec_l7other.bits6 (fun hHeld HT_ HW_=>?_)
 replace HO:=A_ HO.out.drew;replace HK:=A_ (keep_drew HK.out);replace BX:=A_ (blk_drew BX.out);clear c0f g0_ g1_ g2_ g3_ x0 x1;generalize wq.drew=wd at*
 refine pS HT_ 0 26 ?_
 refine pS HT_ 1 27 ?_
 refine pS HT_ 2 28 ?_
 refine pS HT_ 3 29 ?_
 refine pS HT_ 5 31 ?_
 refine tS HT_ HW_ 4 30 hHeld ?_
 refine tS HT_ HW_ 6 32 hHeld ?_
 refine pS HT_ 7 33 ?_
 refine tS HT_ HW_ 8 34 hHeld ?_
 refine oS HT_ 9 (some 4) (fun K hK=>?_)
 refine box_step (by rfl) (N:=4) ?hd (cs:=#[(.slice none 0 0),(.int .i64 0),(.slice none 0 0),(.slice none 0 0)]) (t:=88) ?hr ?_;(case hd=>rfl);(case hr=>first|(go_simp;done)|(go_simp;rfl))
 intro gy hg wx hbox hb
 have BY:=A_ hbox;have GY:=A_ (show w.heap.size≤gy from by rw[hg];exact HK.out.1);have NY:=A_ (HO.out.fresh_ne hg);have GG:=A_ (Nat.le_trans HO.out.2.1.size (Nat.le_of_eq hg.symm));have m0:=A_ (HO.out.below hb);have m1:=A_ (HK.out.trans (KeepBut.of_below hb g none) (.inl rfl));have m4:=A_ (blk_below BX.out hb);have NXY:=A_ (show gx≠gy from by rw[hg];have:=blk_lt BX.out;omega)
 obtain⟨s0_,s1_,s2_,s3_,s4_,s5_⟩:=hHeld
 have hHeld2:=A_ (And.intro (cl_ hb s0_) (And.intro (cl_ hb s1_) (And.intro (cl_ hb s2_) (And.intro (cl_ hb s3_) (And.intro (cl_ hb s4_) (cl_ hb s5_))))))
 clear HO HK BX hbox hb hg s0_ s1_ s2_ s3_ s4_ s5_;have HO:=m0;have HK:=m1;have BX:=m4;clear m0 m1 m4
 obtain⟨z0,z1,z2,z3⟩:=cp4_ BY.out;obtain⟨v0,v1,v2,v3⟩:=fz4_ BY.out
 refine hK.out _ _ hHeld2.out (fun hHeld=>?_)
 clear hK K
 refine nS (some 4) ?_
 refine lS HT_ 10 (none) (fun K hK=>?_)
 obtain⟨vs,hvs⟩:∃ vs:List Value,vs=[.slice A0 (rd_T88 fs x.f1).f0.length d0,.int .i64 (rd_T88 fs x.f1).f1,.slice A2 (rd_T88 fs x.f1).f2.length d2,.slice A3 (rd_T88 fs x.f1).f3.length d3]:=⟨_,rfl⟩
 refine skip_ (w1:=sets wx gy 0 vs) (by rfl) rfl (by subst hvs;first|(go_simp;done)|(go_simp;rfl)) ?_
 clear hHeld hHeld2 z0 v0 z1 v1 z2 v2 z3 v3
 refine hK.out _ _ ?_
 clear hK K
 refine dS HT_ ?_
 replace BY:=A_ (sets_blk vs BY.out (by rw[hvs];rfl));replace HO:=A_ (HO.out.sets GG.out NY.out vs 0);replace HK:=A_ (keep_sets HK.out GY.out vs 0);replace BX:=A_ ((heap_sets vs wx 0 NXY.out).trans BX.out);generalize sets wx gy 0 vs=wy at*;subst hvs;obtain⟨x0,x1⟩:=cp2_ BX.out
 obtain⟨y0,y1,y2,y3⟩:=cp4_ BY.out
 clear x0 x1 BX
 have ew:IntKind.i64.wrap (((rd_T88 fs x.f1).f0.length:Int) - 1)=((rd_T88 fs x.f1).f0.length:Int) - 1:=ck_w _ (by omega)
 go_wp2
 go_loopg [5] (rd_T88 fs x.f1).f0.length (fun kq v5 w'=>∃ (kk:Nat) (c2:CS S131),kk=kq∧v5=.int .i64 ((kk:Int) - 1)∧Aside0 (takeRevS (rd_T88 fs x.f1).f0 c2 kk=some c1)∧Aside0 (Cs w0 w' g q c2 A n1 B n2)∧Aside0 (w'.heap[gy]? =some (.cells #[(.slice A0 (rd_T88 fs x.f1).f0.length d0),(.int .i64 (rd_T88 fs x.f1).f1),(.slice A2 (rd_T88 fs x.f1).f2.length d2),(.slice A3 (rd_T88 fs x.f1).f3.length d3)] 88 (0,0)))∧Aside0 (kk≤(rd_T88 fs x.f1).f0.length))
 case atStart=>exact⟨_,c,rfl,rfl,HT,HO,BY,⟨Nat.le_refl _⟩⟩
 case round=>
  clear y0 y1 y2 y3 HO HK BY HT ew
  obtain⟨kk,c2,hkk,rfl,HT,HO,BY,HKQ⟩:=hrel
  obtain⟨y0,y1⟩:=cp2_ BY.out
  have HKK:=A_ hkk
  clear hkk
  rcases Nat.eq_zero_or_pos kk with hk0|hk0
  ·
   subst hk0
   have HT':=HT.out
   rw[takeRevS] at HT'
   obtain rfl:=Option.some.inj HT'
   have HK:=A_ trivial
   have cbz:decide ((0:Int)≤((0:Nat):Int) - 1)=false:=rfl
   go_wp2_with (first|(go_at_call 75;refine(sput_any (rd_T88 fs x.f1).f1 w0 _ g q _ c' A n1 _ n2 HO.out HR.out).mono ?_;rintro e w5 ⟨rfl,hE⟩;have HE:=A_ hE;clear hE))
   first|go_end0|((try simp only[Exit.inBlock,Exit.then]);refine rt_ ?_)
   exact⟨rfl,HE.out⟩
  obtain⟨km,rfl⟩:∃ km,kk=km+1:=⟨kk - 1,by omega⟩
  have HT':=HT.out
  rw[takeRevS] at HT'
  obtain⟨⟨c3,u⟩,hs,ht⟩:=Option.bind_eq_some_iff.1 HT'
  have HS:=A_ hs;have HTn:=A_ ht
  clear HT' hs ht HT
  have ek:((km+1:Nat):Int) - 1=(km:Int):=by omega
  rw[ek]
  have hkm:=HKQ.out
  obtain⟨ad2,eA,hx⟩:=Kd.at_int R0.out (km:Int) (by omega) (by omega)
  subst eA
  have gx_:=cl_ HO.out.2.1 hx
  rw[Int.toNat_natCast] at gx_
  have cbz:decide ((0:Int)≤(km:Int))=true:=decide_eq_true (by omega)
  have q5:((0:Int)≤(km:Int))=True:=eq_true (by omega)
  have q6:((km:Int)<((rd_T88 fs x.f1).f0.length:Int))=True:=eq_true (by omega)
  have ew:IntKind.i64.wrap ((km:Int) - 1)=(km:Int) - 1:=ck_w _ (by omega)
  clear hx ek hkm
  have HK:=A_ (KeepBut.refl wr g none)
  go_wp2_with (first|(go_at_call 74;refine(stake_any (rd (rd_T88 fs x.f1).f0 (km:Int)) u w0 _ g q _ c3 A n1 _ n2 HO.out HS.out).mono ?_;rintro e w5 ⟨rfl,hO,hK⟩;replace HO:=A_ hO;replace BY:=A_ (KeepBut.blk hK BY.out NY.out.1 (by simp));clear y0 y1 gx_ hO hK))
  go_roundg km
  case measure=>have:=HKK.out;omega
  case rel=>exact⟨km,c3,rfl,by first|rfl|(rw[ew]),HTn,HO,BY,⟨by have:=HKQ.out;omega⟩⟩
end
set_option maxHeartbeats 1000000 in
theorem snum_any (op:Int) (w0 w:World) (g:Nat) (q:Nat→Value) (c c':CS S131) (A:Option Addr) (n1:Nat) (B:Option Addr) (n2:Nat) (h:Cs w0 w g q c A n1 B n2) (hr:numS c op=some c'):
  Calls Try.prog 96 #[.pointer (some ⟨g,0,none⟩),.int .i64 op] w fun e w'=>e=.returned (.tuple #[])∧CsE w0 w' g q c':=by
 unfold numS at hr
 by_cases k0:0≤op∧op≤1000
 ·
  rw[if_pos k0] at hr
  by_cases k1:op > 160
  ·
   rw[if_pos k1] at hr
   obtain⟨⟨c1,t⟩,h1,hr⟩:=Option.bind_eq_some_iff.1 hr
   obtain⟨c2,h2,hr⟩:=Option.bind_eq_some_iff.1 hr
   by_cases k6:op - 160=6
   ·
    rw[if_pos k6] at h2
    exact snum_f op true _ w0 w g q c c' A n1 B n2 h ⟨k1,k0.2⟩ (beq_iff_eq.2 k6).symm rfl c1 c2 t 0 h1 (by rw[if_pos rfl];exact(Option.some.inj h2).symm) hr
   rw[if_neg k6] at h2
   obtain⟨⟨c3,u⟩,h3,h2⟩:=Option.bind_eq_some_iff.1 h2
   obtain rfl:=Option.some.inj h2
   exact snum_f op false _ w0 w g q c c' A n1 B n2 h ⟨k1,k0.2⟩ (beq_eq_false_iff_ne.2 k6).symm rfl c1 c3 t u h1 (by rw[if_neg (fun e=>by cases e)];exact h3) hr
  rw[if_neg k1] at hr
  by_cases kb:op > 128
  ·
   simp only[if_pos kb] at hr
   obtain⟨⟨c1,t⟩,h1,hr⟩:=Option.bind_eq_some_iff.1 hr
   obtain⟨c2,h2,hr⟩:=Option.bind_eq_some_iff.1 hr
   obtain⟨kk,hkk⟩:∃ kk,op - 128=kk:=⟨_,rfl⟩
   rw[hkk] at h2 hr
   have hop:128<op∧op≤160:=⟨by omega,by omega⟩
   by_cases k21:kk≤21
   ·
    rw[if_pos k21] at h2
    obtain⟨⟨c3,u⟩,h3,h2⟩:=Option.bind_eq_some_iff.1 h2
    obtain rfl:=Option.some.inj h2
    by_cases k16:16≤kk
    ·
     rw[if_pos (.inl ⟨k16,k21⟩)] at hr
     exact snum_b_mid op kk w0 w g q c c' A n1 B n2 h hop hkk ⟨k16,k21⟩ c1 c3 t u h1 h3 hr
    rw[if_neg (by rintro (e|e)<;>omega)] at hr
    exact snum_b_lo op kk w0 w g q c c' A n1 B n2 h hop hkk (by omega) c1 c3 t u h1 h3 hr
   rw[if_neg k21] at h2
   obtain rfl:=Option.some.inj h2
   by_cases k25:kk=25
   ·
    rw[if_pos (.inr k25)] at hr
    exact snum_b_25 op kk w0 w g q c c' A n1 B n2 h hop hkk k25 c1 t 0 h1 hr
   rw[if_neg (by rintro (e|e)<;>omega)] at hr
   exact snum_b_no op kk w0 w g q c c' A n1 B n2 h hop hkk ⟨by omega,k25⟩ c1 t 0 h1 hr
  simp only[if_neg kb] at hr
  obtain⟨⟨c1,t⟩,h1,hr⟩:=Option.bind_eq_some_iff.1 hr
  obtain⟨c2,h2,hr⟩:=Option.bind_eq_some_iff.1 hr
  obtain⟨kk,hkk⟩:∃ kk,op - 96=kk:=⟨_,rfl⟩
  rw[hkk] at h2 hr
  have hop:0≤op∧op≤128:=⟨by omega,by omega⟩
  by_cases k21:kk≤21
  ·
   rw[if_pos k21] at h2
   obtain⟨⟨c3,u⟩,h3,h2⟩:=Option.bind_eq_some_iff.1 h2
   obtain rfl:=Option.some.inj h2
   by_cases k16:16≤kk
   ·
    rw[if_pos (.inl ⟨k16,k21⟩)] at hr
    exact snum_s_mid op kk w0 w g q c c' A n1 B n2 h hop hkk ⟨k16,k21⟩ c1 c3 t u h1 h3 hr
   rw[if_neg (by rintro (e|e)<;>omega)] at hr
   exact snum_s_lo op kk w0 w g q c c' A n1 B n2 h hop hkk (by omega) c1 c3 t u h1 h3 hr
  rw[if_neg k21] at h2
  obtain rfl:=Option.some.inj h2
  by_cases k25:kk=25
  ·
   rw[if_pos (.inr k25)] at hr
   exact snum_s_25 op kk w0 w g q c c' A n1 B n2 h hop hkk k25 c1 t 0 h1 hr
  rw[if_neg (by rintro (e|e)<;>omega)] at hr
  exact snum_s_no op kk w0 w g q c c' A n1 B n2 h hop hkk ⟨by omega,k25⟩ c1 t 0 h1 hr
 rw[if_neg k0] at hr;cases hr
section
variable (x:S103) (fs:List S88) (gs:List S75) (mem:Bool) (res:Int) (sl:List Int) (w0 w:World) (g:Nat) (q:Nat→Value) (c c':CS S131) (A:Option Addr) (n1:Nat) (B:Option Addr) (n2:Nat)
theorem other_n (h:Cs w0 w g q c A n1 B n2) (hm:SEnv w0 q fs gs mem res sl) (hop:x.f0≠16∧x.f0≠32∧x.f0≠33∧x.f0≠34∧x.f0≠35∧x.f0≠36∧x.f0≠40∧x.f0≠41∧x.f0≠54∧x.f0≠55∧x.f0≠63∧x.f0≠64∧x.f0≠65∧x.f0≠66∧x.f0≠67∧x.f0≠176∧x.f0≠177∧x.f0≠178∧x.f0≠179∧x.f0≠180) (hr:numS c x.f0=some c'):
  Calls Try.prog 79 #[.pointer (some ⟨g,0,none⟩),.agg #[.int .i64 x.f0,.int .i64 x.f1]] w fun e w'=>e=.returned (.tuple #[])∧CsE w0 w' g q c':=by
 have HO:=A_ h
 have HK:=A_ (KeepBut.refl w g none)
 have hu71:=Try.underlying103
 have HR:=A_ hr
 clear h hm hr
 obtain⟨h16,h32,h33,h34,h35,h36,h40,h41,h54,h55,h63,h64,h65,h66,h67,h176,h177,h178,h179,h180⟩:=hop
 have b16:=e0_ h16
 have b32:=e0_ h32
 have b33:=e0_ h33
 have b34:=e0_ h34
 have b35:=e0_ h35
 have b36:=e0_ h36
 have b40:=e0_ h40
 have b41:=e0_ h41
 have b54:=e0_ h54
 have b55:=e0_ h55
 have b63:=e0_ h63
 have b64:=e0_ h64
 have b65:=e0_ h65
 have b66:=e0_ h66
 have b67:=e0_ h67
 have b176:=e0_ h176
 have b177:=e0_ h177
 have b178:=e0_ h178
 have b179:=e0_ h179
 have b180:=e0_ h180
 clear h16 h32 h33 h34 h35 h36 h40 h41 h54 h55 h63 h64 h65 h66 h67 h176 h177 h178 h179 h180
 go_enter Try.func79,Try.ntmps79
 go_wp2_with (first|((with_reducible refine gd_ 3 rfl ?_);refine bx_ #[.int .i64 x.f0,.int .i64 x.f1] 103 ?_;intro gx hg wx hbox hb;have BX:=A_ hbox;have NX:=A_ (HO.out.fresh_ne hg);replace HO:=A_ (HO.out.below hb);replace HK:=A_ (HK.out.trans (KeepBut.of_below hb g none) (.inl rfl));clear hbox hb hg;obtain⟨x0,x1⟩:=cp2_ BX.out)|(go_at_call 96;refine(snum_any x.f0 w0 _ g q _ c' A n1 _ n2 HO.out HR.out).mono ?_;rintro e w5 ⟨rfl,hE⟩;have HE:=A_ hE;clear hE))
 first|go_end0|((try simp only[Exit.inBlock,Exit.then]);refine rt_ ?_)
 exact⟨rfl,HE.out⟩
def otherS (c:CS S131) (fs:List S88) (gs:List S75) (mem:Bool) (sl:List Int) (x:S103):Option (CS S131):=
 if x.f0=16 then (if (fs.length:Int)≤x.f1 then some (c.fail 5) else if 0≤x.f1 then (takeRevS (rd_T88 fs x.f1).f0 c (rd_T88 fs x.f1).f0.length).bind fun c1=>c1.put (rd_T88 fs x.f1).f1 else none)
 else if x.f0=32∨x.f0=33∨x.f0=34 then (if (sl.length:Int)≤x.f1 then some (c.fail 5) else if 0≤x.f1 then
  (if x.f0=32 then c.put (rd sl x.f1) else if x.f0=33 then (takeS c (rd sl x.f1)).bind fun s=>some s.1 else (takeS c (rd sl x.f1)).bind fun s=>s.1.put (rd sl x.f1)) else none)
 else if x.f0=35∨x.f0=36 then (if (gs.length:Int)≤x.f1 then some (c.fail 5) else if 0≤x.f1 then
  (if x.f0=35 then c.put (rd_T75 gs x.f1).f0 else (takeS (if (rd_T75 gs x.f1).f1=true then c.fail 7 else c) (rd_T75 gs x.f1).f0).bind fun s=>some s.1) else none)
 else if x.f0=40∨x.f0=41∨x.f0=54∨x.f0=55∨x.f0=63∨x.f0=64 then memS c mem x.f0
 else if x.f0=65 then c.put 127 else if x.f0=66 then c.put 126 else if x.f0=67 then c.put 125
 else if x.f0=176 then turnS c 126 127 else if x.f0=177 then turnS c 127 126 else if x.f0=178 then turnS c 127 126 else if x.f0=179 then turnS c 127 125 else if x.f0=180 then turnS c 125 127
 else numS c x.f0
set_option maxHeartbeats 1000000 in
theorem other_any (h:Cs w0 w g q c A n1 B n2) (hm:SEnv w0 q fs gs mem res sl) (hr:otherS c fs gs mem sl x=some c'):
  Calls Try.prog 79 #[.pointer (some ⟨g,0,none⟩),.agg #[.int .i64 x.f0,.int .i64 x.f1]] w fun e w'=>e=.returned (.tuple #[])∧CsE w0 w' g q c':=by
 unfold otherS at hr
 by_cases k16:x.f0=16
 ·
  rw[if_pos k16] at hr
  by_cases kz:(fs.length:Int)≤x.f1
  ·
   rw[if_pos kz] at hr
   exact other_16_no x fs gs mem res sl w0 w g q c c' A n1 B n2 h hm k16 kz (Option.some.inj hr).symm
  rw[if_neg kz] at hr
  by_cases k0:0≤x.f1
  ·
   rw[if_pos k0] at hr
   obtain⟨c1,h1,hr⟩:=Option.bind_eq_some_iff.1 hr
   exact other_16 x fs gs mem res sl w0 w g q c c' A n1 B n2 h hm k16 k0 (by omega) c1 h1 hr
  rw[if_neg k0] at hr;cases hr
 rw[if_neg k16] at hr
 by_cases k3:x.f0=32∨x.f0=33∨x.f0=34
 ·
  rw[if_pos k3] at hr
  by_cases kz:(sl.length:Int)≤x.f1
  ·
   rw[if_pos kz] at hr
   rcases k3 with k|k|k
   ·
    exact other_32_no x fs gs mem res sl w0 w g q c c' A n1 B n2 h hm k kz (Option.some.inj hr).symm
   ·
    exact other_33_no x fs gs mem res sl w0 w g q c c' A n1 B n2 h hm k kz (Option.some.inj hr).symm
   exact other_34_no x fs gs mem res sl w0 w g q c c' A n1 B n2 h hm k kz (Option.some.inj hr).symm
  rw[if_neg kz] at hr
  by_cases k0:0≤x.f1
  ·
   rw[if_pos k0] at hr
   by_cases k38:x.f0=32
   ·
    rw[if_pos k38] at hr
    exact other_32 x fs gs mem res sl w0 w g q c c' A n1 B n2 h hm k38 k0 (by omega) hr
   rw[if_neg k38] at hr
   by_cases k50:x.f0=33
   ·
    rw[if_pos k50] at hr
    obtain⟨⟨c1,u⟩,h1,hr⟩:=Option.bind_eq_some_iff.1 hr
    obtain rfl:=Option.some.inj hr
    exact other_33 x fs gs mem res sl w0 w g q c c1 A n1 B n2 h hm k50 k0 (by omega) u h1
   rw[if_neg k50] at hr
   obtain⟨⟨c1,u⟩,h1,hr⟩:=Option.bind_eq_some_iff.1 hr
   exact other_34 x fs gs mem res sl w0 w g q c c' A n1 B n2 h hm (by omega) k0 (by omega) c1 u h1 hr
  rw[if_neg k0] at hr;cases hr
 rw[if_neg k3] at hr
 by_cases k5:x.f0=35∨x.f0=36
 ·
  rw[if_pos k5] at hr
  by_cases kz:(gs.length:Int)≤x.f1
  ·
   rw[if_pos kz] at hr
   rcases k5 with k|k
   ·
    exact other_35_no x fs gs mem res sl w0 w g q c c' A n1 B n2 h hm k kz (Option.some.inj hr).symm
   exact other_36_no x fs gs mem res sl w0 w g q c c' A n1 B n2 h hm k kz (Option.some.inj hr).symm
  rw[if_neg kz] at hr
  by_cases k0:0≤x.f1
  ·
   rw[if_pos k0] at hr
   by_cases k35:x.f0=35
   ·
    rw[if_pos k35] at hr
    exact other_35 x fs gs mem res sl w0 w g q c c' A n1 B n2 h hm k35 k0 (by omega) hr
   rw[if_neg k35] at hr
   obtain⟨⟨c1,u⟩,h1,hr⟩:=Option.bind_eq_some_iff.1 hr
   obtain rfl:=Option.some.inj hr
   by_cases kx:(rd_T75 gs x.f1).f1=true
   ·
    rw[if_pos kx] at h1
    exact other_36_f x fs gs mem res sl w0 w g q c c1 A n1 B n2 h hm (by omega) k0 (by omega) kx u h1
   rw[if_neg kx] at h1
   exact other_36 x fs gs mem res sl w0 w g q c c1 A n1 B n2 h hm (by omega) k0 (by omega) (by simpa using kx) u h1
  rw[if_neg k0] at hr;cases hr
 rw[if_neg k5] at hr
 by_cases km:x.f0=40∨x.f0=41∨x.f0=54∨x.f0=55∨x.f0=63∨x.f0=64
 ·
  rw[if_pos km] at hr
  rcases km with k|k|k|k|k|k
  ·
   exact other_40 x fs gs mem res sl w0 w g q c c' A n1 B n2 h hm k hr
  ·
   exact other_41 x fs gs mem res sl w0 w g q c c' A n1 B n2 h hm k hr
  ·
   exact other_54 x fs gs mem res sl w0 w g q c c' A n1 B n2 h hm k hr
  ·
   exact other_55 x fs gs mem res sl w0 w g q c c' A n1 B n2 h hm k hr
  ·
   exact other_63 x fs gs mem res sl w0 w g q c c' A n1 B n2 h hm k hr
  exact other_64 x fs gs mem res sl w0 w g q c c' A n1 B n2 h hm k hr
 rw[if_neg km] at hr
 by_cases k111:x.f0=65
 ·
  rw[if_pos k111] at hr
  exact other_65 x fs gs mem res sl w0 w g q c c' A n1 B n2 h hm k111 hr
 rw[if_neg k111] at hr
 by_cases k112:x.f0=66
 ·
  rw[if_pos k112] at hr
  exact other_66 x fs gs mem res sl w0 w g q c c' A n1 B n2 h hm k112 hr
 rw[if_neg k112] at hr
 by_cases k113:x.f0=67
 ·
  rw[if_pos k113] at hr
  exact other_67 x fs gs mem res sl w0 w g q c c' A n1 B n2 h hm k113 hr
 rw[if_neg k113] at hr
 by_cases k176:x.f0=176
 ·
  rw[if_pos k176] at hr
  exact other_176 x fs gs mem res sl w0 w g q c c' A n1 B n2 h hm k176 hr
 rw[if_neg k176] at hr
 by_cases k177:x.f0=177
 ·
  rw[if_pos k177] at hr
  exact other_177 x fs gs mem res sl w0 w g q c c' A n1 B n2 h hm k177 hr
 rw[if_neg k177] at hr
 by_cases k178:x.f0=178
 ·
  rw[if_pos k178] at hr
  exact other_178 x fs gs mem res sl w0 w g q c c' A n1 B n2 h hm k178 hr
 rw[if_neg k178] at hr
 by_cases k179:x.f0=179
 ·
  rw[if_pos k179] at hr
  exact other_179 x fs gs mem res sl w0 w g q c c' A n1 B n2 h hm k179 hr
 rw[if_neg k179] at hr
 by_cases k180:x.f0=180
 ·
  rw[if_pos k180] at hr
  exact other_180 x fs gs mem res sl w0 w g q c c' A n1 B n2 h hm k180 hr
 rw[if_neg k180] at hr
 exact other_n x fs gs mem res sl w0 w g q c c' A n1 B n2 h hm ⟨k16,fun e=>k3 (.inl e),fun e=>k3 (.inr (.inl e)),fun e=>k3 (.inr (.inr e)),fun e=>k5 (.inl e),fun e=>k5 (.inr e),fun e=>km (.inl e),fun e=>km (.inr (.inl e)),fun e=>km (.inr (.inr (.inl e))),fun e=>km (.inr (.inr (.inr (.inl e)))),fun e=>km (.inr (.inr (.inr (.inr (.inl e))))),fun e=>km (.inr (.inr (.inr (.inr (.inr e))))),k111,k112,k113,k176,k177,k178,k179,k180⟩ hr
end
end Go.Proofs.Ytanhbfhmgmjdgaa.Q

