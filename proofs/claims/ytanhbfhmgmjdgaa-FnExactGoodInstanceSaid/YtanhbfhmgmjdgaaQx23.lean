-- Written by a program of this session; it walks the functions that the law reaches.
import Derived.Test.YtanhbfhmgmjdgaaQx0
import Derived.Test.YtanhbfhmgmjdgaaQx5
import Derived.Test.YtanhbfhmgmjdgaaQx17
import Derived.Test.YtanhbfhmgmjdgaaQx19
import Derived.Test.YtanhbfhmgmjdgaaQx20
import Derived.Test.YtanhbfhmgmjdgaaQx21
import Derived.Test.YtanhbfhmgmjdgaaQx22
namespace Go.Proofs.Ytanhbfhmgmjdgaa.Q
open Go.RowKit Go.Proofs.YtanhbfhmgmjdgaaW.PrintWords Go.Proofs.YtanhbfhmgmjdgaaW.PrintLast Go.Proofs.YtanhbfhmgmjdgaaW.PrintMore
attribute [local go_sem] max2_int min2_int max_two min_two max_three min_three max_four min_four   -- for this text's walks alone
set_option linter.unusedVariables false
set_option linter.unusedSimpArgs false
set_option maxRecDepth 100000
set_option maxHeartbeats 8000000


/-! ### impl_checker_step: function 47 (walked by hand) -/
theorem step_block (k:Nat) (x:S103) (f:S88) (fs:List S88) (gs:List S75) (mem:Bool) (pf:Addr) (w0 w:World) (g:Nat) (q:Nat→Value) (c c':CS S101) (A:Option Addr) (n1:Nat) (B:Option Addr) (n2:Nat) (h:Ck w0 w g q c A n1 B n2) (hm:MEnv w0 (q 0) fs gs mem) (hq:q 1=.pointer (some pf)) (hf:FEnv w0 pf f) (hb:blockC c f.f1 x=some (c',true)):
  Calls Try.prog 47 #[.pointer (some ⟨g,0,none⟩),.agg #[.int .i64 x.f0,.int .i64 x.f1]] w fun e w'=>e=.returned (.tuple #[])∧CkE w0 w' g q c':=by
 have HO:=A_ h
 have HK:=A_ (KeepBut.refl w g none)
 have hu71:=Try.underlying103
 have HM:=A_ hm;have HQ:=A_ hq;have HF:=A_ hf
 have HRS:=A_ (show w0.cell? ⟨pf.block,pf.off+1,none⟩=some (.int .i64 f.f1) from by obtain⟨_,_,_,_,_,_,_,h1,_⟩:=hf;exact h1)
 clear h hm hq hf
 have HBK:=A_ hb
 clear hb
 go_enter Try.func47,Try.ntmps47
 go_wp2_with (first|((with_reducible refine gd_ 3 rfl ?_);refine bx_ #[.int .i64 x.f0,.int .i64 x.f1] 103 ?_;intro gx hg wx hbox hb;have BX:=A_ hbox;have NX:=A_ (HO.out.fresh_ne hg);replace HO:=A_ (HO.out.below hb);replace HK:=A_ (HK.out.trans (KeepBut.of_below hb g none) (.inl rfl));clear hbox hb hg;obtain⟨x0,x1⟩:=cp2_ BX.out)|(go_at_call 62;refine(block_any x f.f1 pf w0 _ g q _ c' true A n1 _ n2 HO.out HQ.out HRS.out HBK.out).mono ?_;rintro e w5 ⟨rfl,hy,_⟩;have HE:=A_ (hy rfl);clear hy))
 first|go_end0|((try simp only[Exit.inBlock,Exit.then]);refine rt_ ?_)
 exact⟨rfl,HE.out⟩
theorem step_place (k:Nat) (x:S103) (f:S88) (fs:List S88) (gs:List S75) (mem:Bool) (pf:Addr) (w0 w:World) (g:Nat) (q:Nat→Value) (c c':CS S101) (A:Option Addr) (n1:Nat) (B:Option Addr) (n2:Nat) (h:Ck w0 w g q c A n1 B n2) (hm:MEnv w0 (q 0) fs gs mem) (hq:q 1=.pointer (some pf)) (hf:FEnv w0 pf f) (hb:blockC c f.f1 x=some (c,false)) (hp:placeC c fs gs f x=some (c',true)):
  Calls Try.prog 47 #[.pointer (some ⟨g,0,none⟩),.agg #[.int .i64 x.f0,.int .i64 x.f1]] w fun e w'=>e=.returned (.tuple #[])∧CkE w0 w' g q c':=by
 have HO:=A_ h
 have HK:=A_ (KeepBut.refl w g none)
 have hu71:=Try.underlying103
 have HM:=A_ hm;have HQ:=A_ hq;have HF:=A_ hf
 have HRS:=A_ (show w0.cell? ⟨pf.block,pf.off+1,none⟩=some (.int .i64 f.f1) from by obtain⟨_,_,_,_,_,_,_,h1,_⟩:=hf;exact h1)
 clear h hm hq hf
 have HBK:=A_ hb;have HPL:=A_ hp
 clear hb hp
 go_enter Try.func47,Try.ntmps47
 go_wp2_with (first|((with_reducible refine gd_ 3 rfl ?_);refine bx_ #[.int .i64 x.f0,.int .i64 x.f1] 103 ?_;intro gx hg wx hbox hb;have BX:=A_ hbox;have NX:=A_ (HO.out.fresh_ne hg);replace HO:=A_ (HO.out.below hb);replace HK:=A_ (HK.out.trans (KeepBut.of_below hb g none) (.inl rfl));clear hbox hb hg;obtain⟨x0,x1⟩:=cp2_ BX.out)|(go_at_call 62;refine(block_any x f.f1 pf w0 _ g q _ _ false A n1 _ n2 HO.out HQ.out HRS.out HBK.out).mono ?_;rintro e w5 ⟨rfl,_,hy⟩;obtain⟨_,hO,hK⟩:=hy rfl;replace HO:=A_ hO;replace HK:=A_ (HK.out.trans hK (.inl rfl));replace BX:=A_ (KeepBut.blk hK BX.out NX.out.1 (by simp));clear x0 x1 hO hK;obtain⟨x0,x1⟩:=cp2_ BX.out)|(go_at_call 63;refine(place_any x f fs gs mem pf w0 _ g q _ c' true A n1 _ n2 HO.out HM.out HQ.out HF.out HPL.out).mono ?_;rintro e w5 ⟨rfl,hy,_⟩;have HE:=A_ (hy rfl);clear hy))
 first|go_end0|((try simp only[Exit.inBlock,Exit.then]);refine rt_ ?_)
 exact⟨rfl,HE.out⟩
theorem step_26 (k:Nat) (x:S103) (f:S88) (fs:List S88) (gs:List S75) (mem:Bool) (pf:Addr) (w0 w:World) (g:Nat) (q:Nat→Value) (c c':CS S101) (A:Option Addr) (n1:Nat) (B:Option Addr) (n2:Nat) (h:Ck w0 w g q c A n1 B n2) (hm:MEnv w0 (q 0) fs gs mem) (hq:q 1=.pointer (some pf)) (hf:FEnv w0 pf f) (hb:blockC c f.f1 x=some (c,false)) (hp:placeC c fs gs f x=some (c,false)) (hop:x.f0=26) (u:Int) (hr:takeC c 0=some (c',u)):
  Calls Try.prog 47 #[.pointer (some ⟨g,0,none⟩),.agg #[.int .i64 x.f0,.int .i64 x.f1]] w fun e w'=>e=.returned (.tuple #[])∧CkE w0 w' g q c':=by
 have HO:=A_ h
 have HK:=A_ (KeepBut.refl w g none)
 have hu71:=Try.underlying103
 have HM:=A_ hm;have HQ:=A_ hq;have HF:=A_ hf
 have HRS:=A_ (show w0.cell? ⟨pf.block,pf.off+1,none⟩=some (.int .i64 f.f1) from by obtain⟨_,_,_,_,_,_,_,h1,_⟩:=hf;exact h1)
 clear h hm hq hf
 have HBK:=A_ hb;have HPL:=A_ hp
 clear hb hp
 have HR:=A_ hr
 have b26:=e1_ hop
 clear hr hop
 go_enter Try.func47,Try.ntmps47
 go_wp2_with (first|((with_reducible refine gd_ 3 rfl ?_);refine bx_ #[.int .i64 x.f0,.int .i64 x.f1] 103 ?_;intro gx hg wx hbox hb;have BX:=A_ hbox;have NX:=A_ (HO.out.fresh_ne hg);replace HO:=A_ (HO.out.below hb);replace HK:=A_ (HK.out.trans (KeepBut.of_below hb g none) (.inl rfl));clear hbox hb hg;obtain⟨x0,x1⟩:=cp2_ BX.out)|(go_at_call 62;refine(block_any x f.f1 pf w0 _ g q _ _ false A n1 _ n2 HO.out HQ.out HRS.out HBK.out).mono ?_;rintro e w5 ⟨rfl,_,hy⟩;obtain⟨_,hO,hK⟩:=hy rfl;replace HO:=A_ hO;replace HK:=A_ (HK.out.trans hK (.inl rfl));replace BX:=A_ (KeepBut.blk hK BX.out NX.out.1 (by simp));clear x0 x1 hO hK;obtain⟨x0,x1⟩:=cp2_ BX.out)|(go_at_call 63;refine(place_any x f fs gs mem pf w0 _ g q _ _ false A n1 _ n2 HO.out HM.out HQ.out HF.out HPL.out).mono ?_;rintro e w5 ⟨rfl,_,hy⟩;obtain⟨_,hO,hK⟩:=hy rfl;replace HO:=A_ hO;replace HK:=A_ (HK.out.trans hK (.inl rfl));replace BX:=A_ (KeepBut.blk hK BX.out NX.out.1 (by simp));clear x0 x1 hO hK;obtain⟨x0,x1⟩:=cp2_ BX.out)|(go_at_call 64;refine(take_any w0 _ g q _ c' 0 u A n1 _ n2 HO.out HR.out).mono ?_;rintro e w5 ⟨rfl,hO,hK⟩;replace HO:=A_ hO;replace HK:=A_ (HK.out.trans hK (.inl rfl));replace BX:=A_ (KeepBut.blk hK BX.out NX.out.1 (by simp));clear x0 x1 hO hK;obtain⟨x0,x1⟩:=cp2_ BX.out))
 first|go_end0|((try simp only[Exit.inBlock,Exit.then]);refine rt_ ?_)
 exact⟨rfl,_,_,_,_,HO.out⟩
theorem step_27z (k:Nat) (x:S103) (f:S88) (fs:List S88) (gs:List S75) (mem:Bool) (pf:Addr) (w0 w:World) (g:Nat) (q:Nat→Value) (c c':CS S101) (A:Option Addr) (n1:Nat) (B:Option Addr) (n2:Nat) (h:Ck w0 w g q c A n1 B n2) (hm:MEnv w0 (q 0) fs gs mem) (hq:q 1=.pointer (some pf)) (hf:FEnv w0 pf f) (hb:blockC c f.f1 x=some (c,false)) (hp:placeC c fs gs f x=some (c,false)) (hop:x.f0=27) (cs cb ca:CS S101) (t b a:Int) (hs:takeC c 127=some (cs,t)) (ht:takeC cs 0=some (cb,b)) (hu:takeC cb b=some (ca,a)) (hz:a=0) (hr:ca.put b=some c'):
  Calls Try.prog 47 #[.pointer (some ⟨g,0,none⟩),.agg #[.int .i64 x.f0,.int .i64 x.f1]] w fun e w'=>e=.returned (.tuple #[])∧CkE w0 w' g q c':=by
 have HO:=A_ h
 have HK:=A_ (KeepBut.refl w g none)
 have hu71:=Try.underlying103
 have HM:=A_ hm;have HQ:=A_ hq;have HF:=A_ hf
 have HRS:=A_ (show w0.cell? ⟨pf.block,pf.off+1,none⟩=some (.int .i64 f.f1) from by obtain⟨_,_,_,_,_,_,_,h1,_⟩:=hf;exact h1)
 clear h hm hq hf
 have HBK:=A_ hb;have HPL:=A_ hp
 clear hb hp
 have HS:=A_ hs;have HT:=A_ ht;have HU:=A_ hu;have HR:=A_ hr
 have b26:=ne_ hop 26
 have b27:=e1_ hop
 have bz:(a==0)=true:=beq_iff_eq.2 hz
 clear hs ht hu hr hop hz
 go_enter Try.func47,Try.ntmps47
 go_upto_region 6 with (first|((with_reducible refine gd_ 3 rfl ?_);refine bx_ #[.int .i64 x.f0,.int .i64 x.f1] 103 ?_;intro gx hg wx hbox hb;have BX:=A_ hbox;have NX:=A_ (HO.out.fresh_ne hg);replace HO:=A_ (HO.out.below hb);replace HK:=A_ (HK.out.trans (KeepBut.of_below hb g none) (.inl rfl));clear hbox hb hg;obtain⟨x0,x1⟩:=cp2_ BX.out)|(go_at_call 62;refine(block_any x f.f1 pf w0 _ g q _ _ false A n1 _ n2 HO.out HQ.out HRS.out HBK.out).mono ?_;rintro e w5 ⟨rfl,_,hy⟩;obtain⟨_,hO,hK⟩:=hy rfl;replace HO:=A_ hO;replace HK:=A_ (HK.out.trans hK (.inl rfl));replace BX:=A_ (KeepBut.blk hK BX.out NX.out.1 (by simp));clear x0 x1 hO hK;obtain⟨x0,x1⟩:=cp2_ BX.out)|(go_at_call 63;refine(place_any x f fs gs mem pf w0 _ g q _ _ false A n1 _ n2 HO.out HM.out HQ.out HF.out HPL.out).mono ?_;rintro e w5 ⟨rfl,_,hy⟩;obtain⟨_,hO,hK⟩:=hy rfl;replace HO:=A_ hO;replace HK:=A_ (HK.out.trans hK (.inl rfl));replace BX:=A_ (KeepBut.blk hK BX.out NX.out.1 (by simp));clear x0 x1 hO hK;obtain⟨x0,x1⟩:=cp2_ BX.out))
 go_upto_region 7 with (first|(go_at_call 64;refine(take_any w0 _ g q _ cs 127 t A n1 _ n2 HO.out HS.out).mono ?_;rintro e w5 ⟨rfl,hO,hK⟩;replace HO:=A_ hO;replace HK:=A_ (HK.out.trans hK (.inl rfl));replace BX:=A_ (KeepBut.blk hK BX.out NX.out.1 (by simp));clear x0 x1 hO hK;obtain⟨x0,x1⟩:=cp2_ BX.out))
 go_upto_region 8 with (first|(go_at_call 64;refine(take_any w0 _ g q _ cb 0 b A n1 _ n2 HO.out HT.out).mono ?_;rintro e w5 ⟨rfl,hO,hK⟩;replace HO:=A_ hO;replace HK:=A_ (HK.out.trans hK (.inl rfl));replace BX:=A_ (KeepBut.blk hK BX.out NX.out.1 (by simp));clear x0 x1 hO hK;obtain⟨x0,x1⟩:=cp2_ BX.out))
 go_upto_region 9 with (first|(go_at_call 64;refine(take_any w0 _ g q _ ca b a A n1 _ n2 HO.out HU.out).mono ?_;rintro e w5 ⟨rfl,hO,hK⟩;replace HO:=A_ hO;replace HK:=A_ (HK.out.trans hK (.inl rfl));replace BX:=A_ (KeepBut.blk hK BX.out NX.out.1 (by simp));clear x0 x1 hO hK;obtain⟨x0,x1⟩:=cp2_ BX.out))
 go_wp2_with (first|(go_at_call 65;refine(put_any b w0 _ g q _ c' A n1 _ n2 HO.out HR.out).mono ?_;rintro e w5 ⟨rfl,hE⟩;have HE:=A_ hE;clear hE))
 first|go_end0|((try simp only[Exit.inBlock,Exit.then]);refine rt_ ?_)
 exact⟨rfl,HE.out⟩
theorem step_27 (k:Nat) (x:S103) (f:S88) (fs:List S88) (gs:List S75) (mem:Bool) (pf:Addr) (w0 w:World) (g:Nat) (q:Nat→Value) (c c':CS S101) (A:Option Addr) (n1:Nat) (B:Option Addr) (n2:Nat) (h:Ck w0 w g q c A n1 B n2) (hm:MEnv w0 (q 0) fs gs mem) (hq:q 1=.pointer (some pf)) (hf:FEnv w0 pf f) (hb:blockC c f.f1 x=some (c,false)) (hp:placeC c fs gs f x=some (c,false)) (hop:x.f0=27) (cs cb ca:CS S101) (t b a:Int) (hs:takeC c 127=some (cs,t)) (ht:takeC cs 0=some (cb,b)) (hu:takeC cb b=some (ca,a)) (hz:a≠0) (hr:ca.put a=some c'):
  Calls Try.prog 47 #[.pointer (some ⟨g,0,none⟩),.agg #[.int .i64 x.f0,.int .i64 x.f1]] w fun e w'=>e=.returned (.tuple #[])∧CkE w0 w' g q c':=by
 have HO:=A_ h
 have HK:=A_ (KeepBut.refl w g none)
 have hu71:=Try.underlying103
 have HM:=A_ hm;have HQ:=A_ hq;have HF:=A_ hf
 have HRS:=A_ (show w0.cell? ⟨pf.block,pf.off+1,none⟩=some (.int .i64 f.f1) from by obtain⟨_,_,_,_,_,_,_,h1,_⟩:=hf;exact h1)
 clear h hm hq hf
 have HBK:=A_ hb;have HPL:=A_ hp
 clear hb hp
 have HS:=A_ hs;have HT:=A_ ht;have HU:=A_ hu;have HR:=A_ hr
 have b26:=ne_ hop 26
 have b27:=e1_ hop
 have bz:(a==0)=false:=beq_eq_false_iff_ne.2 hz
 clear hs ht hu hr hop hz
 go_enter Try.func47,Try.ntmps47
 go_upto_region 6 with (first|((with_reducible refine gd_ 3 rfl ?_);refine bx_ #[.int .i64 x.f0,.int .i64 x.f1] 103 ?_;intro gx hg wx hbox hb;have BX:=A_ hbox;have NX:=A_ (HO.out.fresh_ne hg);replace HO:=A_ (HO.out.below hb);replace HK:=A_ (HK.out.trans (KeepBut.of_below hb g none) (.inl rfl));clear hbox hb hg;obtain⟨x0,x1⟩:=cp2_ BX.out)|(go_at_call 62;refine(block_any x f.f1 pf w0 _ g q _ _ false A n1 _ n2 HO.out HQ.out HRS.out HBK.out).mono ?_;rintro e w5 ⟨rfl,_,hy⟩;obtain⟨_,hO,hK⟩:=hy rfl;replace HO:=A_ hO;replace HK:=A_ (HK.out.trans hK (.inl rfl));replace BX:=A_ (KeepBut.blk hK BX.out NX.out.1 (by simp));clear x0 x1 hO hK;obtain⟨x0,x1⟩:=cp2_ BX.out)|(go_at_call 63;refine(place_any x f fs gs mem pf w0 _ g q _ _ false A n1 _ n2 HO.out HM.out HQ.out HF.out HPL.out).mono ?_;rintro e w5 ⟨rfl,_,hy⟩;obtain⟨_,hO,hK⟩:=hy rfl;replace HO:=A_ hO;replace HK:=A_ (HK.out.trans hK (.inl rfl));replace BX:=A_ (KeepBut.blk hK BX.out NX.out.1 (by simp));clear x0 x1 hO hK;obtain⟨x0,x1⟩:=cp2_ BX.out))
 go_upto_region 7 with (first|(go_at_call 64;refine(take_any w0 _ g q _ cs 127 t A n1 _ n2 HO.out HS.out).mono ?_;rintro e w5 ⟨rfl,hO,hK⟩;replace HO:=A_ hO;replace HK:=A_ (HK.out.trans hK (.inl rfl));replace BX:=A_ (KeepBut.blk hK BX.out NX.out.1 (by simp));clear x0 x1 hO hK;obtain⟨x0,x1⟩:=cp2_ BX.out))
 go_upto_region 8 with (first|(go_at_call 64;refine(take_any w0 _ g q _ cb 0 b A n1 _ n2 HO.out HT.out).mono ?_;rintro e w5 ⟨rfl,hO,hK⟩;replace HO:=A_ hO;replace HK:=A_ (HK.out.trans hK (.inl rfl));replace BX:=A_ (KeepBut.blk hK BX.out NX.out.1 (by simp));clear x0 x1 hO hK;obtain⟨x0,x1⟩:=cp2_ BX.out))
 go_upto_region 9 with (first|(go_at_call 64;refine(take_any w0 _ g q _ ca b a A n1 _ n2 HO.out HU.out).mono ?_;rintro e w5 ⟨rfl,hO,hK⟩;replace HO:=A_ hO;replace HK:=A_ (HK.out.trans hK (.inl rfl));replace BX:=A_ (KeepBut.blk hK BX.out NX.out.1 (by simp));clear x0 x1 hO hK;obtain⟨x0,x1⟩:=cp2_ BX.out))
 go_wp2_with (first|(go_at_call 65;refine(put_any a w0 _ g q _ c' A n1 _ n2 HO.out HR.out).mono ?_;rintro e w5 ⟨rfl,hE⟩;have HE:=A_ hE;clear hE))
 first|go_end0|((try simp only[Exit.inBlock,Exit.then]);refine rt_ ?_)
 exact⟨rfl,HE.out⟩
section
variable (k:Nat) (x:S103) (f:S88) (fs:List S88) (gs:List S75) (mem:Bool) (pf:Addr) (w0 w:World) (g:Nat) (q:Nat→Value) (c c':CS S101) (A:Option Addr) (n1:Nat) (B:Option Addr) (n2:Nat)
theorem step_n (h:Ck w0 w g q c A n1 B n2) (hm:MEnv w0 (q 0) fs gs mem) (hq:q 1=.pointer (some pf)) (hf:FEnv w0 pf f) (hb:blockC c f.f1 x=some (c,false)) (hp:placeC c fs gs f x=some (c,false)) (h26:x.f0≠26) (h27:x.f0≠27) (l:List Int) (v:Int) (c2:CS S101) (hu:impl_usesMemory.f k x.f0=some false) (hw:impl_row.f k x.f0=some (l,v)) (ht:takeRev l c l.length=some c2) (hr:c2.put v=some c'):
  Calls Try.prog 47 #[.pointer (some ⟨g,0,none⟩),.agg #[.int .i64 x.f0,.int .i64 x.f1]] w fun e w'=>e=.returned (.tuple #[])∧CkE w0 w' g q c':=by
 have HO:=A_ h
 have HK:=A_ (KeepBut.refl w g none)
 have hu71:=Try.underlying103
 have HM:=A_ hm;have HQ:=A_ hq;have HF:=A_ hf
 have HRS:=A_ (show w0.cell? ⟨pf.block,pf.off+1,none⟩=some (.int .i64 f.f1) from by obtain⟨_,_,_,_,_,_,_,h1,_⟩:=hf;exact h1)
 clear h hm hq hf
 have HBK:=A_ hb;have HPL:=A_ hp
 clear hb hp
 have HU:=A_ hu;have HW:=A_ hw;have HT:=A_ ht;have HR:=A_ hr
 have b26:=e0_ h26
 have b27:=e0_ h27
 clear hu hw ht hr h26 h27
 go_enter Try.func47,Try.ntmps47
 go_upto_region 12 with (first|((with_reducible refine gd_ 3 rfl ?_);refine bx_ #[.int .i64 x.f0,.int .i64 x.f1] 103 ?_;intro gx hg wx hbox hb;have BX:=A_ hbox;have NX:=A_ (HO.out.fresh_ne hg);replace HO:=A_ (HO.out.below hb);replace HK:=A_ (HK.out.trans (KeepBut.of_below hb g none) (.inl rfl));clear hbox hb hg;obtain⟨x0,x1⟩:=cp2_ BX.out)|(go_at_call 62;refine(block_any x f.f1 pf w0 _ g q _ _ false A n1 _ n2 HO.out HQ.out HRS.out HBK.out).mono ?_;rintro e w5 ⟨rfl,_,hy⟩;obtain⟨_,hO,hK⟩:=hy rfl;replace HO:=A_ hO;replace HK:=A_ (HK.out.trans hK (.inl rfl));replace BX:=A_ (KeepBut.blk hK BX.out NX.out.1 (by simp));clear x0 x1 hO hK;obtain⟨x0,x1⟩:=cp2_ BX.out)|(go_at_call 63;refine(place_any x f fs gs mem pf w0 _ g q _ _ false A n1 _ n2 HO.out HM.out HQ.out HF.out HPL.out).mono ?_;rintro e w5 ⟨rfl,_,hy⟩;obtain⟨_,hO,hK⟩:=hy rfl;replace HO:=A_ hO;replace HK:=A_ (HK.out.trans hK (.inl rfl));replace BX:=A_ (KeepBut.blk hK BX.out NX.out.1 (by simp));clear x0 x1 hO hK;obtain⟨x0,x1⟩:=cp2_ BX.out))
 go_upto_region 14 with (first|(go_at_call 66;refine(impl_usesMemory.calls k x.f0 false _ HU.out).mono ?_;rintro e w6 ⟨rfl,hd⟩;obtain⟨nd,hnd⟩:=hd;replace HO:=A_ (show Ck w0 w6 g q _ A n1 _ n2 from by rw[hnd];exact HO.out.drewN nd);replace HK:=A_ (show KeepBut w w6 g none from by rw[hnd];exact keep_drewN HK.out nd);replace BX:=A_ (show w6.heap[gx]? =some (.cells #[.int .i64 x.f0,.int .i64 x.f1] 103 (0,0)) from by rw[hnd];exact BX.out);clear x0 x1 hnd;have x0:=(blk_cell BX.out 0).trans rfl))
 go_upto_region 15 with (first|(go_at_call 68;refine(impl_row.calls k x.f0 l v _ HW.out).mono ?_;rintro e w7 ⟨vr,rfl,hR,hb⟩;have HRw:=A_ (show Kd.R (Kd.int .i64) 3 w7 w6.heap.size (fun k_=>k_≠g) vr l from Kd.R_mono (Kd.R_bound hR) (fun k_ hk_=>by have h8:=hk_.2.1;have h9:=blk_lt HO.out.2.2.1;omega));replace HO:=A_ (HO.out.below hb);clear HK BX x0 hR hb))
 have hlen:=Kd.R_slice HRw.out
 obtain⟨Ar,cr,er⟩:=hlen
 subst er
 have hmax:=Kd.C_max (Kd.R_reads' HRw.out).2.2
 have ew:IntKind.i64.wrap ((l.length:Int) - 1)=(l.length:Int) - 1:=ck_w _ (by omega)
 go_wp2
 go_loopg [8] l.length (fun kq v8 w'=>∃ (kk:Nat) (c3:CS S101),kk=kq∧v8=.int .i64 ((kk:Int) - 1)∧Aside0 (takeRev l c3 kk=some c2)∧Aside0 (Ck w0 w' g q c3 A n1 B n2)∧Aside0 (Kd.R (Kd.int .i64) 3 w' w6.heap.size (fun k_=>k_≠g) (.slice Ar l.length cr) l)∧Aside0 (kk≤l.length))
 case atStart=>exact⟨_,_,rfl,rfl,HT,HO,HRw,⟨Nat.le_refl _⟩⟩
 case round=>
  clear HO HRw HT ew
  obtain⟨kk,c3,hkk,rfl,HT,HO,HRw,HKQ⟩:=hrel
  have HKK:=A_ hkk
  clear hkk
  rcases Nat.eq_zero_or_pos kk with hk0|hk0
  ·
   subst hk0
   have HT':=HT.out
   rw[takeRev] at HT'
   obtain rfl:=Option.some.inj HT'
   have cbz:decide ((0:Int)≤((0:Nat):Int) - 1)=false:=rfl
   go_wp2_with (first|(go_at_call 65;refine(put_any v w0 _ g q _ c' A n1 _ n2 HO.out HR.out).mono ?_;rintro e w5 ⟨rfl,hE⟩;have HE:=A_ hE;clear hE))
   first|go_end0|((try simp only[Exit.inBlock,Exit.then]);refine rt_ ?_)
   exact⟨rfl,HE.out⟩
  obtain⟨km,rfl⟩:∃ km,kk=km+1:=⟨kk - 1,by omega⟩
  have HT':=HT.out
  rw[takeRev] at HT'
  obtain⟨⟨c4,u⟩,hs,ht⟩:=Option.bind_eq_some_iff.1 HT'
  have HS:=A_ hs;have HTn:=A_ ht
  clear HT' hs ht HT
  have ek:((km+1:Nat):Int) - 1=(km:Int):=by omega
  rw[ek]
  have hkm:=HKQ.out
  obtain⟨ad2,eA,hx⟩:=Kd.at_int (Kd.R_reads' HRw.out).2.2 (km:Int) (by omega) (by omega)
  subst eA
  rw[Int.toNat_natCast] at hx
  have cbz:decide ((0:Int)≤(km:Int))=true:=decide_eq_true (by omega)
  have q5:((0:Int)≤(km:Int))=True:=eq_true (by omega)
  have q6:((km:Int)<(l.length:Int))=True:=eq_true (by omega)
  have ew:IntKind.i64.wrap ((km:Int) - 1)=(km:Int) - 1:=ck_w _ (by omega)
  clear ek hkm
  go_wp2_with (first|(go_at_call 64;refine(take_any w0 _ g q _ c4 (rd l (km:Int)) u A n1 _ n2 HO.out HS.out).mono ?_;rintro e w5 ⟨rfl,hO,hK⟩;replace HO:=A_ hO;replace HRw:=A_ (Kd.R_keep HRw.out hK (fun _ h_=>h_));clear hx hO hK))
  go_roundg km
  case measure=>have:=HKK.out;omega
  case rel=>exact⟨km,c4,rfl,by first|rfl|(rw[ew]),HTn,HO,HRw,⟨by have:=HKQ.out;omega⟩⟩
theorem step_m (h:Ck w0 w g q c A n1 B n2) (hm:MEnv w0 (q 0) fs gs mem) (hq:q 1=.pointer (some pf)) (hf:FEnv w0 pf f) (hb:blockC c f.f1 x=some (c,false)) (hp:placeC c fs gs f x=some (c,false)) (h26:x.f0≠26) (h27:x.f0≠27) (l:List Int) (v:Int) (c2:CS S101) (hmem:mem=true) (hu:impl_usesMemory.f k x.f0=some true) (hw:impl_row.f k x.f0=some (l,v)) (ht:takeRev l c l.length=some c2) (hr:c2.put v=some c'):
  Calls Try.prog 47 #[.pointer (some ⟨g,0,none⟩),.agg #[.int .i64 x.f0,.int .i64 x.f1]] w fun e w'=>e=.returned (.tuple #[])∧CkE w0 w' g q c':=by
 have HO:=A_ h
 have HK:=A_ (KeepBut.refl w g none)
 have hu71:=Try.underlying103
 have HM:=A_ hm;have HQ:=A_ hq;have HF:=A_ hf
 have HRS:=A_ (show w0.cell? ⟨pf.block,pf.off+1,none⟩=some (.int .i64 f.f1) from by obtain⟨_,_,_,_,_,_,_,h1,_⟩:=hf;exact h1)
 clear h hm hq hf
 have HMM:=A_ hmem
 clear hmem
 have HBK:=A_ hb;have HPL:=A_ hp
 clear hb hp
 have HU:=A_ hu;have HW:=A_ hw;have HT:=A_ ht;have HR:=A_ hr
 have b26:=e0_ h26
 have b27:=e0_ h27
 clear hu hw ht hr h26 h27
 go_enter Try.func47,Try.ntmps47
 go_upto_region 12 with (first|((with_reducible refine gd_ 3 rfl ?_);refine bx_ #[.int .i64 x.f0,.int .i64 x.f1] 103 ?_;intro gx hg wx hbox hb;have BX:=A_ hbox;have NX:=A_ (HO.out.fresh_ne hg);replace HO:=A_ (HO.out.below hb);replace HK:=A_ (HK.out.trans (KeepBut.of_below hb g none) (.inl rfl));clear hbox hb hg;obtain⟨x0,x1⟩:=cp2_ BX.out)|(go_at_call 62;refine(block_any x f.f1 pf w0 _ g q _ _ false A n1 _ n2 HO.out HQ.out HRS.out HBK.out).mono ?_;rintro e w5 ⟨rfl,_,hy⟩;obtain⟨_,hO,hK⟩:=hy rfl;replace HO:=A_ hO;replace HK:=A_ (HK.out.trans hK (.inl rfl));replace BX:=A_ (KeepBut.blk hK BX.out NX.out.1 (by simp));clear x0 x1 hO hK;obtain⟨x0,x1⟩:=cp2_ BX.out)|(go_at_call 63;refine(place_any x f fs gs mem pf w0 _ g q _ _ false A n1 _ n2 HO.out HM.out HQ.out HF.out HPL.out).mono ?_;rintro e w5 ⟨rfl,_,hy⟩;obtain⟨_,hO,hK⟩:=hy rfl;replace HO:=A_ hO;replace HK:=A_ (HK.out.trans hK (.inl rfl));replace BX:=A_ (KeepBut.blk hK BX.out NX.out.1 (by simp));clear x0 x1 hO hK;obtain⟨x0,x1⟩:=cp2_ BX.out))
 obtain⟨bm,AF,cF,AG,cG,e0_,_,_,m2_,_,_⟩:=HM.out
 go_upto_region 14 with (first|(go_at_call 66;refine(impl_usesMemory.calls k x.f0 true _ HU.out).mono ?_;rintro e w6 ⟨rfl,hd⟩;obtain⟨nd,hnd⟩:=hd;replace HO:=A_ (show Ck w0 w6 g q _ A n1 _ n2 from by rw[hnd];exact HO.out.drewN nd);replace HK:=A_ (show KeepBut w w6 g none from by rw[hnd];exact keep_drewN HK.out nd);replace BX:=A_ (show w6.heap[gx]? =some (.cells #[.int .i64 x.f0,.int .i64 x.f1] 103 (0,0)) from by rw[hnd];exact BX.out);clear x0 x1 hnd;have x0:=(blk_cell BX.out 0).trans rfl;have c0:=HO.out.cell0;rw[e0_] at c0;replace m2_:=cl_ HO.out.2.1 m2_;rw[HMM.out] at m2_))
 go_upto_region 15 with (first|(go_at_call 68;refine(impl_row.calls k x.f0 l v _ HW.out).mono ?_;rintro e w7 ⟨vr,rfl,hR,hb⟩;have HRw:=A_ (show Kd.R (Kd.int .i64) 3 w7 w6.heap.size (fun k_=>k_≠g) vr l from Kd.R_mono (Kd.R_bound hR) (fun k_ hk_=>by have h8:=hk_.2.1;have h9:=blk_lt HO.out.2.2.1;omega));replace HO:=A_ (HO.out.below hb);clear HK BX x0 hR hb))
 have hlen:=Kd.R_slice HRw.out
 obtain⟨Ar,cr,er⟩:=hlen
 subst er
 have hmax:=Kd.C_max (Kd.R_reads' HRw.out).2.2
 have ew:IntKind.i64.wrap ((l.length:Int) - 1)=(l.length:Int) - 1:=ck_w _ (by omega)
 go_wp2
 go_loopg [8] l.length (fun kq v8 w'=>∃ (kk:Nat) (c3:CS S101),kk=kq∧v8=.int .i64 ((kk:Int) - 1)∧Aside0 (takeRev l c3 kk=some c2)∧Aside0 (Ck w0 w' g q c3 A n1 B n2)∧Aside0 (Kd.R (Kd.int .i64) 3 w' w6.heap.size (fun k_=>k_≠g) (.slice Ar l.length cr) l)∧Aside0 (kk≤l.length))
 case atStart=>exact⟨_,_,rfl,rfl,HT,HO,HRw,⟨Nat.le_refl _⟩⟩
 case round=>
  clear HO HRw HT ew
  obtain⟨kk,c3,hkk,rfl,HT,HO,HRw,HKQ⟩:=hrel
  have HKK:=A_ hkk
  clear hkk
  rcases Nat.eq_zero_or_pos kk with hk0|hk0
  ·
   subst hk0
   have HT':=HT.out
   rw[takeRev] at HT'
   obtain rfl:=Option.some.inj HT'
   have cbz:decide ((0:Int)≤((0:Nat):Int) - 1)=false:=rfl
   go_wp2_with (first|(go_at_call 65;refine(put_any v w0 _ g q _ c' A n1 _ n2 HO.out HR.out).mono ?_;rintro e w5 ⟨rfl,hE⟩;have HE:=A_ hE;clear hE))
   first|go_end0|((try simp only[Exit.inBlock,Exit.then]);refine rt_ ?_)
   exact⟨rfl,HE.out⟩
  obtain⟨km,rfl⟩:∃ km,kk=km+1:=⟨kk - 1,by omega⟩
  have HT':=HT.out
  rw[takeRev] at HT'
  obtain⟨⟨c4,u⟩,hs,ht⟩:=Option.bind_eq_some_iff.1 HT'
  have HS:=A_ hs;have HTn:=A_ ht
  clear HT' hs ht HT
  have ek:((km+1:Nat):Int) - 1=(km:Int):=by omega
  rw[ek]
  have hkm:=HKQ.out
  obtain⟨ad2,eA,hx⟩:=Kd.at_int (Kd.R_reads' HRw.out).2.2 (km:Int) (by omega) (by omega)
  subst eA
  rw[Int.toNat_natCast] at hx
  have cbz:decide ((0:Int)≤(km:Int))=true:=decide_eq_true (by omega)
  have q5:((0:Int)≤(km:Int))=True:=eq_true (by omega)
  have q6:((km:Int)<(l.length:Int))=True:=eq_true (by omega)
  have ew:IntKind.i64.wrap ((km:Int) - 1)=(km:Int) - 1:=ck_w _ (by omega)
  clear ek hkm
  go_wp2_with (first|(go_at_call 64;refine(take_any w0 _ g q _ c4 (rd l (km:Int)) u A n1 _ n2 HO.out HS.out).mono ?_;rintro e w5 ⟨rfl,hO,hK⟩;replace HO:=A_ hO;replace HRw:=A_ (Kd.R_keep HRw.out hK (fun _ h_=>h_));clear hx hO hK))
  go_roundg km
  case measure=>have:=HKK.out;omega
  case rel=>exact⟨km,c4,rfl,by first|rfl|(rw[ew]),HTn,HO,HRw,⟨by have:=HKQ.out;omega⟩⟩
theorem step_mf (h:Ck w0 w g q c A n1 B n2) (hm:MEnv w0 (q 0) fs gs mem) (hq:q 1=.pointer (some pf)) (hf:FEnv w0 pf f) (hb:blockC c f.f1 x=some (c,false)) (hp:placeC c fs gs f x=some (c,false)) (h26:x.f0≠26) (h27:x.f0≠27) (l:List Int) (v:Int) (c2:CS S101) (hmem:mem=false) (hu:impl_usesMemory.f k x.f0=some true) (hw:impl_row.f k x.f0=some (l,v)) (ht:takeRev l (c.fail 6) l.length=some c2) (hr:c2.put v=some c'):
  Calls Try.prog 47 #[.pointer (some ⟨g,0,none⟩),.agg #[.int .i64 x.f0,.int .i64 x.f1]] w fun e w'=>e=.returned (.tuple #[])∧CkE w0 w' g q c':=by
 have HO:=A_ h
 have HK:=A_ (KeepBut.refl w g none)
 have hu71:=Try.underlying103
 have HM:=A_ hm;have HQ:=A_ hq;have HF:=A_ hf
 have HRS:=A_ (show w0.cell? ⟨pf.block,pf.off+1,none⟩=some (.int .i64 f.f1) from by obtain⟨_,_,_,_,_,_,_,h1,_⟩:=hf;exact h1)
 clear h hm hq hf
 have HMM:=A_ hmem
 clear hmem
 have HBK:=A_ hb;have HPL:=A_ hp
 clear hb hp
 have HU:=A_ hu;have HW:=A_ hw;have HT:=A_ ht;have HR:=A_ hr
 have b26:=e0_ h26
 have b27:=e0_ h27
 clear hu hw ht hr h26 h27
 go_enter Try.func47,Try.ntmps47
 go_upto_region 12 with (first|((with_reducible refine gd_ 3 rfl ?_);refine bx_ #[.int .i64 x.f0,.int .i64 x.f1] 103 ?_;intro gx hg wx hbox hb;have BX:=A_ hbox;have NX:=A_ (HO.out.fresh_ne hg);replace HO:=A_ (HO.out.below hb);replace HK:=A_ (HK.out.trans (KeepBut.of_below hb g none) (.inl rfl));clear hbox hb hg;obtain⟨x0,x1⟩:=cp2_ BX.out)|(go_at_call 62;refine(block_any x f.f1 pf w0 _ g q _ _ false A n1 _ n2 HO.out HQ.out HRS.out HBK.out).mono ?_;rintro e w5 ⟨rfl,_,hy⟩;obtain⟨_,hO,hK⟩:=hy rfl;replace HO:=A_ hO;replace HK:=A_ (HK.out.trans hK (.inl rfl));replace BX:=A_ (KeepBut.blk hK BX.out NX.out.1 (by simp));clear x0 x1 hO hK;obtain⟨x0,x1⟩:=cp2_ BX.out)|(go_at_call 63;refine(place_any x f fs gs mem pf w0 _ g q _ _ false A n1 _ n2 HO.out HM.out HQ.out HF.out HPL.out).mono ?_;rintro e w5 ⟨rfl,_,hy⟩;obtain⟨_,hO,hK⟩:=hy rfl;replace HO:=A_ hO;replace HK:=A_ (HK.out.trans hK (.inl rfl));replace BX:=A_ (KeepBut.blk hK BX.out NX.out.1 (by simp));clear x0 x1 hO hK;obtain⟨x0,x1⟩:=cp2_ BX.out))
 obtain⟨bm,AF,cF,AG,cG,e0_,_,_,m2_,_,_⟩:=HM.out
 go_upto_region 14 with (first|(go_at_call 66;refine(impl_usesMemory.calls k x.f0 true _ HU.out).mono ?_;rintro e w6 ⟨rfl,hd⟩;obtain⟨nd,hnd⟩:=hd;replace HO:=A_ (show Ck w0 w6 g q _ A n1 _ n2 from by rw[hnd];exact HO.out.drewN nd);replace HK:=A_ (show KeepBut w w6 g none from by rw[hnd];exact keep_drewN HK.out nd);replace BX:=A_ (show w6.heap[gx]? =some (.cells #[.int .i64 x.f0,.int .i64 x.f1] 103 (0,0)) from by rw[hnd];exact BX.out);clear x0 x1 hnd;have x0:=(blk_cell BX.out 0).trans rfl;have c0:=HO.out.cell0;rw[e0_] at c0;replace m2_:=cl_ HO.out.2.1 m2_;rw[HMM.out] at m2_)|(go_at_call 67;refine(fail_any w0 _ g q _ 6 A n1 _ n2 HO.out).mono ?_;rintro e w5 ⟨rfl,hO,hK⟩;replace HO:=A_ hO;replace HK:=A_ (HK.out.trans hK (.inl rfl));replace BX:=A_ (KeepBut.blk hK BX.out NX.out.1 (by simp));clear x0 c0 m2_ hO hK;have x0:=(blk_cell BX.out 0).trans rfl))
 go_upto_region 15 with (first|(go_at_call 68;refine(impl_row.calls k x.f0 l v _ HW.out).mono ?_;rintro e w7 ⟨vr,rfl,hR,hb⟩;have HRw:=A_ (show Kd.R (Kd.int .i64) 3 w7 w5.heap.size (fun k_=>k_≠g) vr l from Kd.R_mono (Kd.R_bound hR) (fun k_ hk_=>by have h8:=hk_.2.1;have h9:=blk_lt HO.out.2.2.1;omega));replace HO:=A_ (HO.out.below hb);clear HK BX x0 hR hb))
 have hlen:=Kd.R_slice HRw.out
 obtain⟨Ar,cr,er⟩:=hlen
 subst er
 have hmax:=Kd.C_max (Kd.R_reads' HRw.out).2.2
 have ew:IntKind.i64.wrap ((l.length:Int) - 1)=(l.length:Int) - 1:=ck_w _ (by omega)
 go_wp2
 go_loopg [8] l.length (fun kq v8 w'=>∃ (kk:Nat) (c3:CS S101),kk=kq∧v8=.int .i64 ((kk:Int) - 1)∧Aside0 (takeRev l c3 kk=some c2)∧Aside0 (Ck w0 w' g q c3 A n1 B n2)∧Aside0 (Kd.R (Kd.int .i64) 3 w' w5.heap.size (fun k_=>k_≠g) (.slice Ar l.length cr) l)∧Aside0 (kk≤l.length))
 case atStart=>exact⟨_,_,rfl,rfl,HT,HO,HRw,⟨Nat.le_refl _⟩⟩
 case round=>
  clear HO HRw HT ew
  obtain⟨kk,c3,hkk,rfl,HT,HO,HRw,HKQ⟩:=hrel
  have HKK:=A_ hkk
  clear hkk
  rcases Nat.eq_zero_or_pos kk with hk0|hk0
  ·
   subst hk0
   have HT':=HT.out
   rw[takeRev] at HT'
   obtain rfl:=Option.some.inj HT'
   have cbz:decide ((0:Int)≤((0:Nat):Int) - 1)=false:=rfl
   go_wp2_with (first|(go_at_call 65;refine(put_any v w0 _ g q _ c' A n1 _ n2 HO.out HR.out).mono ?_;rintro e w5 ⟨rfl,hE⟩;have HE:=A_ hE;clear hE))
   first|go_end0|((try simp only[Exit.inBlock,Exit.then]);refine rt_ ?_)
   exact⟨rfl,HE.out⟩
  obtain⟨km,rfl⟩:∃ km,kk=km+1:=⟨kk - 1,by omega⟩
  have HT':=HT.out
  rw[takeRev] at HT'
  obtain⟨⟨c4,u⟩,hs,ht⟩:=Option.bind_eq_some_iff.1 HT'
  have HS:=A_ hs;have HTn:=A_ ht
  clear HT' hs ht HT
  have ek:((km+1:Nat):Int) - 1=(km:Int):=by omega
  rw[ek]
  have hkm:=HKQ.out
  obtain⟨ad2,eA,hx⟩:=Kd.at_int (Kd.R_reads' HRw.out).2.2 (km:Int) (by omega) (by omega)
  subst eA
  rw[Int.toNat_natCast] at hx
  have cbz:decide ((0:Int)≤(km:Int))=true:=decide_eq_true (by omega)
  have q5:((0:Int)≤(km:Int))=True:=eq_true (by omega)
  have q6:((km:Int)<(l.length:Int))=True:=eq_true (by omega)
  have ew:IntKind.i64.wrap ((km:Int) - 1)=(km:Int) - 1:=ck_w _ (by omega)
  clear ek hkm
  go_wp2_with (first|(go_at_call 64;refine(take_any w0 _ g q _ c4 (rd l (km:Int)) u A n1 _ n2 HO.out HS.out).mono ?_;rintro e w5 ⟨rfl,hO,hK⟩;replace HO:=A_ hO;replace HRw:=A_ (Kd.R_keep HRw.out hK (fun _ h_=>h_));clear hx hO hK))
  go_roundg km
  case measure=>have:=HKK.out;omega
  case rel=>exact⟨km,c4,rfl,by first|rfl|(rw[ew]),HTn,HO,HRw,⟨by have:=HKQ.out;omega⟩⟩
end
def stepC (k:Nat) (c:CS S101) (fs:List S88) (gs:List S75) (mem:Bool) (f:S88) (x:S103):Option (CS S101):=
 (blockC c f.f1 x).bind fun r=>if r.2=true then some r.1 else (placeC c fs gs f x).bind fun s=>if s.2=true then some s.1 else
  if x.f0=26 then (takeC c 0).bind fun r=>some r.1
  else if x.f0=27 then (takeC c 127).bind fun s=>(takeC s.1 0).bind fun b=>(takeC b.1 b.2).bind fun a=>if a.2=0 then a.1.put b.2 else a.1.put a.2
  else (impl_usesMemory.f k x.f0).bind fun um=>(impl_row.f k x.f0).bind fun rw=>(takeRev rw.1 (if um=true∧mem=false then c.fail 6 else c) rw.1.length).bind fun c2=>c2.put rw.2
theorem block_false {c c':CS S101} {res:Int} {x:S103} (h:blockC c res x=some (c',false)):c'=c:=by
 unfold blockC at h
 repeat' split at h
 all_goals first
  |(simp only[Option.some.injEq,Prod.mk.injEq] at h;exact h.1.symm)
  |(obtain⟨_,_,h⟩:=Option.bind_eq_some_iff.1 h;first|(simp only[Option.some.injEq,Prod.mk.injEq] at h;exact absurd h.2 (by decide))|(obtain⟨_,_,h⟩:=Option.bind_eq_some_iff.1 h;first|(simp only[Option.some.injEq,Prod.mk.injEq] at h;exact absurd h.2 (by decide))|(obtain⟨_,_,h⟩:=Option.bind_eq_some_iff.1 h;first|(simp only[Option.some.injEq,Prod.mk.injEq] at h;exact absurd h.2 (by decide))|(obtain⟨_,_,h⟩:=Option.bind_eq_some_iff.1 h;simp only[Option.some.injEq,Prod.mk.injEq] at h;exact absurd h.2 (by decide)))))
theorem place_false {c c':CS S101} {fs:List S88} {gs:List S75} {f:S88} {x:S103} (h:placeC c fs gs f x=some (c',false)):c'=c:=by
 unfold placeC at h
 by_cases k3:x.f0=32∨x.f0=33∨x.f0=34
 ·
  rw[if_pos k3] at h
  obtain⟨r,_,h⟩:=Option.bind_eq_some_iff.1 h
  split at h
  ·
   simp only[Option.some.injEq,Prod.mk.injEq] at h;exact absurd h.2 (by decide)
  obtain⟨_,_,h⟩:=Option.bind_eq_some_iff.1 h
  simp only[Option.some.injEq,Prod.mk.injEq] at h;exact absurd h.2 (by decide)
 rw[if_neg k3] at h
 by_cases k5:x.f0=35∨x.f0=36
 ·
  rw[if_pos k5] at h
  split at h
  ·
   simp only[Option.some.injEq,Prod.mk.injEq] at h;exact absurd h.2 (by decide)
  split at h
  ·
   obtain⟨_,_,h⟩:=Option.bind_eq_some_iff.1 h
   simp only[Option.some.injEq,Prod.mk.injEq] at h;exact absurd h.2 (by decide)
  cases h
 rw[if_neg k5] at h
 by_cases k16:x.f0=16
 ·
  rw[if_pos k16] at h
  split at h
  ·
   simp only[Option.some.injEq,Prod.mk.injEq] at h;exact absurd h.2 (by decide)
  split at h
  ·
   obtain⟨_,_,h⟩:=Option.bind_eq_some_iff.1 h
   obtain⟨_,_,h⟩:=Option.bind_eq_some_iff.1 h
   simp only[Option.some.injEq,Prod.mk.injEq] at h;exact absurd h.2 (by decide)
  cases h
 rw[if_neg k16] at h
 simp only[Option.some.injEq,Prod.mk.injEq] at h
 exact h.1.symm
set_option maxHeartbeats 1000000 in
theorem step_any (k:Nat) (x:S103) (f:S88) (fs:List S88) (gs:List S75) (mem:Bool) (pf:Addr) (w0 w:World) (g:Nat) (q:Nat→Value) (c c':CS S101) (A:Option Addr) (n1:Nat) (B:Option Addr) (n2:Nat) (h:Ck w0 w g q c A n1 B n2) (hm:MEnv w0 (q 0) fs gs mem) (hq:q 1=.pointer (some pf)) (hf:FEnv w0 pf f) (hr:stepC k c fs gs mem f x=some c'):
  Calls Try.prog 47 #[.pointer (some ⟨g,0,none⟩),.agg #[.int .i64 x.f0,.int .i64 x.f1]] w fun e w'=>e=.returned (.tuple #[])∧CkE w0 w' g q c':=by
 unfold stepC at hr
 obtain⟨⟨cb,rb⟩,hb,hr⟩:=Option.bind_eq_some_iff.1 hr
 cases rb with
 |true=>
  rw[if_pos rfl] at hr
  obtain rfl:=Option.some.inj hr
  exact step_block k x f fs gs mem pf w0 w g q c cb A n1 B n2 h hm hq hf hb
 |false=>
  obtain rfl:=block_false hb
  rw[if_neg (show ¬((cb,false):CS S101 × Bool).2=true from fun e=>by cases e)] at hr
  obtain⟨⟨cp,rp⟩,hp,hr⟩:=Option.bind_eq_some_iff.1 hr
  cases rp with
  |true=>
   rw[if_pos rfl] at hr
   obtain rfl:=Option.some.inj hr
   exact step_place k x f fs gs mem pf w0 w g q cb cp A n1 B n2 h hm hq hf hb hp
  |false=>
   obtain rfl:=place_false hp
   rw[if_neg (show ¬((cp,false):CS S101 × Bool).2=true from fun e=>by cases e)] at hr
   by_cases k48:x.f0=26
   ·
    rw[if_pos k48] at hr
    obtain⟨⟨c1,u⟩,h1,hr⟩:=Option.bind_eq_some_iff.1 hr
    obtain rfl:=Option.some.inj hr
    exact step_26 k x f fs gs mem pf w0 w g q cp c1 A n1 B n2 h hm hq hf hb hp k48 u h1
   rw[if_neg k48] at hr
   by_cases k27:x.f0=27
   ·
    rw[if_pos k27] at hr
    obtain⟨⟨cs,t⟩,h1,hr⟩:=Option.bind_eq_some_iff.1 hr
    obtain⟨⟨c2,b⟩,h2,hr⟩:=Option.bind_eq_some_iff.1 hr
    obtain⟨⟨ca,a⟩,h3,hr⟩:=Option.bind_eq_some_iff.1 hr
    by_cases hz:a=0
    ·
     rw[if_pos hz] at hr
     exact step_27z k x f fs gs mem pf w0 w g q cp c' A n1 B n2 h hm hq hf hb hp k27 cs c2 ca t b a h1 h2 h3 hz hr
    rw[if_neg hz] at hr
    exact step_27 k x f fs gs mem pf w0 w g q cp c' A n1 B n2 h hm hq hf hb hp k27 cs c2 ca t b a h1 h2 h3 hz hr
   rw[if_neg k27] at hr
   obtain⟨um,hu,hr⟩:=Option.bind_eq_some_iff.1 hr
   obtain⟨⟨l,v⟩,hw,hr⟩:=Option.bind_eq_some_iff.1 hr
   obtain⟨c2,ht,hr9⟩:=Option.bind_eq_some_iff.1 hr
   clear hr
   cases um with
   |false=>
    rw[if_neg (fun e=>by cases e.1)] at ht
    exact step_n k x f fs gs mem pf w0 w g q cp c' A n1 B n2 h hm hq hf hb hp k48 k27 l v c2 hu hw ht hr9
   |true=>
    cases mem with
    |true=>
     rw[if_neg (fun e=>by cases e.2)] at ht
     exact step_m k x f fs gs true pf w0 w g q cp c' A n1 B n2 h hm hq hf hb hp k48 k27 l v c2 rfl hu hw ht hr9
    |false=>
     rw[if_pos ⟨rfl,rfl⟩] at ht
     exact step_mf k x f fs gs false pf w0 w g q cp c' A n1 B n2 h hm hq hf hb hp k48 k27 l v c2 rfl hu hw ht hr9


/-! ### impl_check: function 30 (walked by hand) -/
def runC (k:Nat) (fs:List S88) (gs:List S75) (mem:Bool) (f:S88):Nat→Nat→CS S101→Option (Int × Int × Int)
 |0,_,c=>some (0,0,c.hi)
 |n+1,i,c=>(stepC k c fs gs mem f (rd_T103 f.f3 (i:Int))).bind fun c1=>if c1.fa=0 then runC k fs gs mem f n (i+1) c1 else some (c1.fa,(i:Int),0)
def startC (f:S88):CS S101:=⟨[],[⟨2,f.f1,0,false,false⟩],0,0⟩
def checkC (k:Nat) (fs:List S88) (gs:List S75) (mem:Bool) (kf:Int):Option (Int × Int × Int):=
 if 0≤kf∧kf<(fs.length:Int) then runC k fs gs mem (rd_T88 fs kf) (rd_T88 fs kf).f3.length 0 (startC (rd_T88 fs kf)) else none
theorem check_any (k:Nat) (fs:List S88) (gs:List S75) (mem:Bool) (kf:Int) (bm:Nat) (a b d:Int) (w:World) (hm:MEnv w (.pointer (some ⟨bm,0,none⟩)) fs gs mem) (hr:checkC k fs gs mem kf=some (a,b,d)):
  Calls Try.prog 30 #[.pointer (some ⟨bm,0,none⟩),.int .i64 kf] w fun e w'=>e=.returned (.tuple #[.int .i64 a,.int .i64 b,.int .i64 d])∧Below w.heap.size w w':=by
 have HM:=A_ hm
 obtain⟨bm2,AF,cF,AG,cG,e0_,m0_,m1_,m2_,rF,rG⟩:=hm
 obtain rfl:bm2=bm:=by injection e0_ with e;injection e with e;injection e with e;exact e.symm
 clear e0_ m1_ m2_ rG
 unfold checkC at hr
 by_cases hk:0≤kf∧kf<(fs.length:Int)
 ·
  rw[if_pos hk] at hr
  obtain⟨ad,A0,d0,A2,d2,A3,d3,rfl,g0_,g1_,g2_,g3_,l0_,r0,l2_,r2,l3_,r3⟩:=at_T88 rF kf hk.1 hk.2
  have HF:=A_ (show FEnv w (ad.add (kf.toNat*4)) (rd_T88 fs kf) from ⟨A0,d0,A2,d2,A3,d3,g0_,g1_,g2_,g3_,r0,r2,r3⟩)
  have R3:=A_ r3
  have hmax:=Kd.C_max r3
  obtain⟨f,hfe⟩:∃ f,rd_T88 fs kf=f:=⟨_,rfl⟩
  rw[hfe] at hr g1_ g3_ HF R3 hmax
  have HR:=A_ hr
  have G1:=A_ g1_;have G3:=A_ g3_
  have q0:=eq_true hk.1
  have q1:=eq_true hk.2
  have hu71:=Try.underlying103
  have hu80:=Try.underlying99
  clear hr hk rF l0_ r0 l2_ r2 l3_ r3 g0_ g1_ g2_ g3_ hfe
  obtain⟨q,HQ0,HQ⟩:∃ q:Nat→Value,Aside0 (q 0=.pointer (some ⟨bm2,0,none⟩))∧Aside0 (q 1=.pointer (some (ad.add (kf.toNat*4)))):=⟨fun i=>if i=0 then .pointer (some ⟨bm2,0,none⟩) else .pointer (some (ad.add (kf.toNat*4))),⟨rfl⟩,⟨rfl⟩⟩
  have HM:=A_ (show MEnv w (q 0) fs gs mem from by rw[HQ0.out];exact HM.out)
  go_enter Try.func30,Try.ntmps30
  go_upto_region 2 with (first|((with_reducible refine gd_ 7 rfl ?_);refine bx_ #[(.pointer none),(.pointer none),(.slice none 0 0),(.slice none 0 0),(.int .i64 0),(.int .i64 0)] 99 ?_;intro g hg w5 hbox hb;have BX:=A_ hbox;have GE:=A_ (show w.heap.size≤g from Nat.le_of_eq hg.symm);have HB:=A_ hb;clear hbox hb hg;obtain⟨z0,z1,z2,z3,z4,z5⟩:=cp6_ BX.out;obtain⟨v0,v1,v2,v3,v4,v5⟩:=fz6_ BX.out)|((with_reducible refine gate_store (t:=99) (p:=7) rfl ?_);refine store_event (t:=99) (p:=7) (v:=?vo_) (w1:=((((((w5.setCell ⟨g,0,none⟩ ((.pointer (some ⟨bm2,0,none⟩)))).setCell ⟨g,1,none⟩ ((.pointer (some (ad.add (kf.toNat*4)))))).setCell ⟨g,2,none⟩ ((.slice none 0 0))).setCell ⟨g,3,none⟩ ((.slice none 0 0))).setCell ⟨g,4,none⟩ ((.int .i64 0))).setCell ⟨g,5,none⟩ ((.int .i64 0)))) ?hg ?ho ?hn ?hr ?_;(case ho=>rfl);(case hg=>rfl);(case hn=>rfl);(case hr=>first|(go_simp;done)|(go_simp;rfl));intro w6 hw;replace BX:Aside0 (w6.heap[g]? =some (.cells #[(.pointer (some ⟨bm2,0,none⟩)),(.pointer (some (ad.add (kf.toNat*4)))),(.slice none 0 0),(.slice none 0 0),(.int .i64 0),(.int .i64 0)] 99 (0,0))):=⟨by rw[hw];exact blk_put (cs:=#[(.pointer (some ⟨bm2,0,none⟩)),(.pointer (some (ad.add (kf.toNat*4)))),(.slice none 0 0),(.slice none 0 0),(.int .i64 0),(.int .i64 0)]) (blk_put (cs:=#[(.pointer (some ⟨bm2,0,none⟩)),(.pointer (some (ad.add (kf.toNat*4)))),(.slice none 0 0),(.slice none 0 0),(.int .i64 0),(.int .i64 0)]) (blk_put (cs:=#[(.pointer (some ⟨bm2,0,none⟩)),(.pointer (some (ad.add (kf.toNat*4)))),(.slice none 0 0),(.slice none 0 0),(.int .i64 0),(.int .i64 0)]) (blk_put (cs:=#[(.pointer (some ⟨bm2,0,none⟩)),(.pointer (some (ad.add (kf.toNat*4)))),(.slice none 0 0),(.slice none 0 0),(.int .i64 0),(.int .i64 0)]) (blk_put (cs:=#[(.pointer (some ⟨bm2,0,none⟩)),(.pointer none),(.slice none 0 0),(.slice none 0 0),(.int .i64 0),(.int .i64 0)]) (blk_put (cs:=#[(.pointer none),(.pointer none),(.slice none 0 0),(.slice none 0 0),(.int .i64 0),(.int .i64 0)]) (BX.out) 0 ((.pointer (some ⟨bm2,0,none⟩))) rfl) 1 ((.pointer (some (ad.add (kf.toNat*4))))) rfl) 2 ((.slice none 0 0)) rfl) 3 ((.slice none 0 0)) rfl) 4 ((.int .i64 0)) rfl) 5 ((.int .i64 0)) rfl⟩;replace HB:Aside0 (Below w.heap.size w w6):=⟨by rw[hw];exact below_set (below_set (below_set (below_set (below_set (below_set (HB.out) GE.out) GE.out) GE.out) GE.out) GE.out) GE.out⟩;clear z0 v0 z1 v1 z2 v2 z3 v3 z4 v4 z5 v5 hw))
  have hck:Ck w w6 g q ⟨[],[],0,0⟩ none 0 none 0:=⟨GE.out,HB.out,by rw[HQ0.out,HQ.out];exact BX.out,Kd.R_nil _ _ _ _ _,Kd.R_nil _ _ _ _ _⟩
  have HO:Aside0 (Ck w w6 g q ⟨[],[],0,0⟩ none 0 none 0):=A_ hck;clear hck BX HB m0_
  have c1f:=HO.out.cell1
  rw[HQ.out] at c1f
  have c3f:=HO.out.cell3
  have u3:=HO.out.frozen 3
  have f1_:=(HO.out.2.1.cell (World.block_lt_of_cell? w _ G1.out)).trans G1.out
  go_upto_region 3 with (first|((with_reducible refine gd_ 24 rfl ?_);refine Kd.R_lit k101 w.heap.size 101 ?hg (N:=24) ?hd (xs:=[(⟨2,f.f1,0,false,false⟩:S101)]) (inner:=[.int .i64 2,.int .i64 f.f1,.int .i64 0,.bool false,.bool false]) (ok:=fun _=>True) (okp:=fun _=>False) ?hr ?hp (fun _ hk=>hk.elim) trivial HO.out.2.1 HO.out.2.1.size (by simp) ?_;(case hd=>rfl);(case hg=>rfl);(case hr=>first|(go_simp;done)|(go_simp;rfl));(case hp=>exact Reps.c5 (k101_mkM _ _ _ (⟨2,f.f1,0,false,false⟩:S101)) (Reps.none _ _));intro v1 wa hv hb hg_ hnew_;obtain⟨hblk,B',n',e_,hN⟩:=HO.out.appP (x:=(⟨2,f.f1,0,false,false⟩:S101)) hv hb hg_;subst e_;have HB2:=A_ hblk;have HN:=A_ hN;clear c1f c3f u3 f1_ hv hb hg_ hnew_ hblk hN;have c3f:=(blk_cell HB2.out 3).trans rfl;have u3:=blk_frozen HB2.out 3))
  have H0:CkE w (wa.setCell ⟨g,3,none⟩ (.slice B' 1 n')) g q (startC f):=⟨_,_,_,_,HN.out⟩
  clear HO HN HB2 c3f u3
  generalize wa.setCell ⟨g,3,none⟩ (.slice B' 1 n')=wb at*
  obtain⟨A,n1,B,n2,hO⟩:=H0
  have HO:=A_ hO
  clear hO
  have c1f:=HO.out.cell1
  rw[HQ.out] at c1f
  have f3_:=(HO.out.2.1.cell (World.block_lt_of_cell? w _ G3.out)).trans G3.out
  go_wp2
  clear c1f f3_
  go_loopg [32] f.f3.length (fun kq v32 w'=>∃ (j kk:Nat) (c:CS S101) (A:Option Addr) (n1:Nat) (B:Option Addr) (n2:Nat),kk=kq∧j+kk=f.f3.length∧v32=.int .i64 j∧Aside0 (runC k fs gs mem f kk j c=some (a,b,d))∧Aside0 (Ck w w' g q c A n1 B n2))
  case atStart=>exact⟨0,_,startC f,A,n1,B,n2,rfl,by omega,rfl,HR,HO⟩
  case round=>
   clear HO HR
   obtain⟨j,kk,c,A,n1,B,n2,hkk,hjk,rfl,HR,HO⟩:=hrel
   have HKK:=A_ hkk
   clear hkk
   rcases Nat.eq_zero_or_pos kk with hk0|hk0
   ·
    subst hk0
    obtain rfl:j=f.f3.length:=by omega
    have hR':=HR.out
    rw[runC] at hR'
    simp only[Option.some.injEq,Prod.mk.injEq] at hR'
    obtain⟨rfl,rfl,rfl⟩:=hR'
    have c4f:=HO.out.cell4
    clear HR
    go_wp2
    go_quiet (fail)
    go_wp2
    go_ret3
    exact⟨rfl,(HO.out.drewN _).2.1⟩
   obtain⟨km,rfl⟩:∃ km,kk=km+1:=⟨kk - 1,by omega⟩
   have hR':=HR.out
   rw[runC] at hR'
   obtain⟨c2,hs,hR'⟩:=Option.bind_eq_some_iff.1 hR'
   have HST:=A_ hs
   have hlt:j<f.f3.length:=by omega
   obtain⟨ad3,eA,x0_,x1_⟩:=at_T103 R3.out (j:Int) (by omega) (by omega)
   subst eA
   rw[Int.toNat_natCast] at x0_ x1_
   replace x0_:=cl_ HO.out.2.1 x0_
   replace x1_:=cl_ HO.out.2.1 x1_
   have q5:((0:Int)≤(j:Int))=True:=eq_true (by omega)
   have q6:((j:Int)<(f.f3.length:Int))=True:=eq_true (by omega)
   have q7:decide ((j:Int)<(f.f3.length:Int))=true:=decide_eq_true (by omega)
   have q8:=decide_eq_true hlt
   have ew:IntKind.i64.wrap ((j:Int)+1)=((j+1:Nat):Int):=ck_w _ (by omega)
   clear HR hs hlt
   by_cases hz:c2.fa=0
   ·
    rw[if_pos hz] at hR'
    have HRn:=A_ hR'
    have bz:(c2.fa !=0)=false:=bne_eq_false_iff_eq.2 hz
    clear hR' hz
    go_upto_region 6 with (first|((with_reducible refine gd_ 9 rfl ?_);refine bx_ #[(.int .i64 0),(.int .i64 0)] 103 ?_;intro gx hg wx hbox hb;have BX:=A_ hbox;have NX:=A_ (HO.out.fresh_ne hg);have G0:=A_ (Nat.le_trans HO.out.2.1.size (Nat.le_of_eq hg.symm));replace HO:=A_ (HO.out.below hb);clear hbox hb hg;obtain⟨z0,z1⟩:=cp2_ BX.out;obtain⟨v0,v1⟩:=fz2_ BX.out))
    replace BX:Aside0 (((wx.setCell ⟨gx,0,none⟩ ((.int .i64 (rd_T103 f.f3 (j:Int)).f0))).setCell ⟨gx,1,none⟩ ((.int .i64 (rd_T103 f.f3 (j:Int)).f1))).heap[gx]? =some (.cells #[(.int .i64 (rd_T103 f.f3 (j:Int)).f0),(.int .i64 (rd_T103 f.f3 (j:Int)).f1)] 103 (0,0))):=⟨blk_put (cs:=#[(.int .i64 (rd_T103 f.f3 (j:Int)).f0),(.int .i64 0)]) (blk_put (cs:=#[(.int .i64 0),(.int .i64 0)]) (BX.out) 0 ((.int .i64 (rd_T103 f.f3 (j:Int)).f0)) rfl) 1 ((.int .i64 (rd_T103 f.f3 (j:Int)).f1)) rfl⟩;replace HO:Aside0 (Ck w ((wx.setCell ⟨gx,0,none⟩ ((.int .i64 (rd_T103 f.f3 (j:Int)).f0))).setCell ⟨gx,1,none⟩ ((.int .i64 (rd_T103 f.f3 (j:Int)).f1))) g q _ A n1 B n2):=⟨Ck.other (Ck.other (HO.out) G0.out NX.out 0 ((.int .i64 (rd_T103 f.f3 (j:Int)).f0))) G0.out NX.out 1 ((.int .i64 (rd_T103 f.f3 (j:Int)).f1))⟩;clear z0 v0 z1 v1;generalize ((wx.setCell ⟨gx,0,none⟩ ((.int .i64 (rd_T103 f.f3 (j:Int)).f0))).setCell ⟨gx,1,none⟩ ((.int .i64 (rd_T103 f.f3 (j:Int)).f1)))=wy at*
    obtain⟨x0,x1⟩:=cp2_ BX.out
    go_wp2_with (first|(go_at_call 47;refine(step_any k (rd_T103 f.f3 (j:Int)) f fs gs mem (ad.add (kf.toNat*4)) w _ g q _ c2 A n1 B n2 HO.out HM.out HQ.out HF.out HST.out).mono ?_;rintro e wz ⟨rfl,hE⟩;have HE:=A_ hE;clear HO BX x0 x1 hE;obtain⟨A',n1',B',n2',hO⟩:=HE.out;have HO:=A_ hO;have c5f:=HO.out.cell5;clear hO))
    go_roundg km
    case measure=>have:=HKK.out;omega
    case rel=>exact⟨j+1,km,c2,A',n1',B',n2',rfl,by omega,by first|rfl|(rw[ew]),HRn,HO⟩
   rw[if_neg hz] at hR'
   simp only[Option.some.injEq,Prod.mk.injEq] at hR'
   obtain⟨rfl,rfl,rfl⟩:=hR'
   have bz:(c2.fa !=0)=true:=bne_iff_ne.2 hz
   clear hz
   go_upto_region 6 with (first|((with_reducible refine gd_ 9 rfl ?_);refine bx_ #[(.int .i64 0),(.int .i64 0)] 103 ?_;intro gx hg wx hbox hb;have BX:=A_ hbox;have NX:=A_ (HO.out.fresh_ne hg);have G0:=A_ (Nat.le_trans HO.out.2.1.size (Nat.le_of_eq hg.symm));replace HO:=A_ (HO.out.below hb);clear hbox hb hg;obtain⟨z0,z1⟩:=cp2_ BX.out;obtain⟨v0,v1⟩:=fz2_ BX.out))
   replace BX:Aside0 (((wx.setCell ⟨gx,0,none⟩ ((.int .i64 (rd_T103 f.f3 (j:Int)).f0))).setCell ⟨gx,1,none⟩ ((.int .i64 (rd_T103 f.f3 (j:Int)).f1))).heap[gx]? =some (.cells #[(.int .i64 (rd_T103 f.f3 (j:Int)).f0),(.int .i64 (rd_T103 f.f3 (j:Int)).f1)] 103 (0,0))):=⟨blk_put (cs:=#[(.int .i64 (rd_T103 f.f3 (j:Int)).f0),(.int .i64 0)]) (blk_put (cs:=#[(.int .i64 0),(.int .i64 0)]) (BX.out) 0 ((.int .i64 (rd_T103 f.f3 (j:Int)).f0)) rfl) 1 ((.int .i64 (rd_T103 f.f3 (j:Int)).f1)) rfl⟩;replace HO:Aside0 (Ck w ((wx.setCell ⟨gx,0,none⟩ ((.int .i64 (rd_T103 f.f3 (j:Int)).f0))).setCell ⟨gx,1,none⟩ ((.int .i64 (rd_T103 f.f3 (j:Int)).f1))) g q _ A n1 B n2):=⟨Ck.other (Ck.other (HO.out) G0.out NX.out 0 ((.int .i64 (rd_T103 f.f3 (j:Int)).f0))) G0.out NX.out 1 ((.int .i64 (rd_T103 f.f3 (j:Int)).f1))⟩;clear z0 v0 z1 v1;generalize ((wx.setCell ⟨gx,0,none⟩ ((.int .i64 (rd_T103 f.f3 (j:Int)).f0))).setCell ⟨gx,1,none⟩ ((.int .i64 (rd_T103 f.f3 (j:Int)).f1)))=wy at*
   obtain⟨x0,x1⟩:=cp2_ BX.out
   go_wp2_with (first|(go_at_call 47;refine(step_any k (rd_T103 f.f3 (j:Int)) f fs gs mem (ad.add (kf.toNat*4)) w _ g q _ c2 A n1 B n2 HO.out HM.out HQ.out HF.out HST.out).mono ?_;rintro e wz ⟨rfl,hE⟩;have HE:=A_ hE;clear HO BX x0 x1 hE;obtain⟨A',n1',B',n2',hO⟩:=HE.out;have HO:=A_ hO;have c5f:=HO.out.cell5;clear hO))
   go_ret3
   exact⟨rfl,HO.out.2.1⟩
 rw[if_neg hk] at hr;cases hr
/-! A module in a block of one's own. -/
section
variable {W:World} {g:Nat} {A0:Option Addr} {c0:Nat} {A1:Option Addr} {c1:Nat} {f0:List S88} {f1:List S75} {f2:Bool} {f3 f4 f5:Int}
theorem cellS32_0 (h:W.heap[g]? =some (.cells #[.slice A0 f0.length c0,.slice A1 f1.length c1,.bool f2,.int .i64 f3,.int .i64 f4,.int .i64 f5] 38 (0,0))):W.cell? ⟨g,0,none⟩=some (.slice A0 f0.length c0):=(blk_cell h 0).trans rfl
theorem cellS32_1 (h:W.heap[g]? =some (.cells #[.slice A0 f0.length c0,.slice A1 f1.length c1,.bool f2,.int .i64 f3,.int .i64 f4,.int .i64 f5] 38 (0,0))):W.cell? ⟨g,1,none⟩=some (.slice A1 f1.length c1):=(blk_cell h 1).trans rfl
theorem cellS32_2 (h:W.heap[g]? =some (.cells #[.slice A0 f0.length c0,.slice A1 f1.length c1,.bool f2,.int .i64 f3,.int .i64 f4,.int .i64 f5] 38 (0,0))):W.cell? ⟨g,2,none⟩=some (.bool f2):=(blk_cell h 2).trans rfl
theorem cellS32_3 (h:W.heap[g]? =some (.cells #[.slice A0 f0.length c0,.slice A1 f1.length c1,.bool f2,.int .i64 f3,.int .i64 f4,.int .i64 f5] 38 (0,0))):W.cell? ⟨g,3,none⟩=some (.int .i64 f3):=(blk_cell h 3).trans rfl
theorem cellS32_4 (h:W.heap[g]? =some (.cells #[.slice A0 f0.length c0,.slice A1 f1.length c1,.bool f2,.int .i64 f3,.int .i64 f4,.int .i64 f5] 38 (0,0))):W.cell? ⟨g,4,none⟩=some (.int .i64 f4):=(blk_cell h 4).trans rfl
theorem cellS32_5 (h:W.heap[g]? =some (.cells #[.slice A0 f0.length c0,.slice A1 f1.length c1,.bool f2,.int .i64 f3,.int .i64 f4,.int .i64 f5] 38 (0,0))):W.cell? ⟨g,5,none⟩=some (.int .i64 f5):=(blk_cell h 5).trans rfl
end
def IsS32 (w0 W:World) (g:Nat) (f0:List S88) (f1:List S75) (f2:Bool) (f3 f4 f5:Int):Prop:=∃ A0 c0,∃ A1 c1,W.heap[g]? =some (.cells #[.slice A0 f0.length c0,.slice A1 f1.length c1,.bool f2,.int .i64 f3,.int .i64 f4,.int .i64 f5] 38 (0,0))∧w0.heap.size≤g∧(Kd.C k88 w0 A0 f0.length f0∧f0.length≤c0)∧Kd.C k75 w0 A1 f1.length f1∧f1.length≤c1
theorem IsS32.ge {w0 W:World} {g:Nat} {f0:List S88} {f1:List S75} {f2:Bool} {f3 f4 f5:Int} (h:IsS32 w0 W g f0 f1 f2 f3 f4 f5):w0.heap.size≤g:=by
 obtain⟨_,_,_,_,_,hg,_⟩:=h;exact hg
theorem IsS32.below {w0 W W1:World} {g:Nat} {f0:List S88} {f1:List S75} {f2:Bool} {f3 f4 f5:Int} (h:IsS32 w0 W g f0 f1 f2 f3 f4 f5) (hb:Below W.heap.size W W1):IsS32 w0 W1 g f0 f1 f2 f3 f4 f5:=by
 obtain⟨A0,c0,A1,c1,hh,hg,r0,r1⟩:=h
 exact⟨A0,c0,A1,c1,blk_below hh hb,hg,r0,r1⟩
section
variable {w0 W:World} {g:Nat} {f0:List S88} {f1:List S75} {f2:Bool} {f3 f4 f5:Int}
theorem IsS32.alloc (h:IsS32 w0 W g f0 f1 f2 f3 f4 f5) (o:Obj):IsS32 w0 (W.alloc o) g f0 f1 f2 f3 f4 f5:=h.below (below_alloc (Below.refl _ _) o)
theorem IsS32.drewN (h:IsS32 w0 W g f0 f1 f2 f3 f4 f5) (n:Nat):IsS32 w0 (W.drewN n) g f0 f1 f2 f3 f4 f5:=h.below (pw_below_drewN (Below.refl _ _) n)
theorem IsS32.drew (h:IsS32 w0 W g f0 f1 f2 f3 f4 f5):IsS32 w0 W.drew g f0 f1 f2 f3 f4 f5:=h.below (below_drew (Below.refl _ _))
end
def impl_check.f (k:Nat) (s0_0:List S88) (s0_1:List S75) (s0_2:Bool) (s0_3 s0_4 s0_5:Int) (a1:Int):Option (Int × Int × Int × Bool × Int × Int × Int):=(checkC k s0_0 s0_1 s0_2 a1).bind fun r=>some (r.1,r.2.1,r.2.2,s0_2,s0_3,s0_4,s0_5)
theorem impl_check.calls (k:Nat) (g:Nat) (s0_0:List S88) (s0_1:List S75) (s0_2:Bool) (s0_3 s0_4 s0_5:Int) (a1:Int) (r1 r2 r3:Int) (r4:Bool) (r5 r6 r7:Int) (w0 w:World) (hI:IsS32 w0 w g s0_0 s0_1 s0_2 s0_3 s0_4 s0_5) (hB:Below w0.heap.size w0 w) (h:impl_check.f k s0_0 s0_1 s0_2 s0_3 s0_4 s0_5 a1=some (r1,r2,r3,r4,r5,r6,r7)):
  Calls Try.prog 30 #[.pointer (some ⟨g,0,none⟩),.int .i64 a1] w fun e w'=>e=.returned (.tuple #[.int .i64 r1,.int .i64 r2,.int .i64 r3])∧IsS32 w0 w' g s0_0 s0_1 r4 r5 r6 r7∧Below w0.heap.size w0 w'∧KeepBut w w' g none:=by
 obtain⟨⟨a,b,d⟩,hr,h⟩:=Option.bind_eq_some_iff.1 h
 simp only[Option.some.injEq,Prod.mk.injEq] at h
 obtain⟨rfl,rfl,rfl,rfl,rfl,rfl,rfl⟩:=h
 have hI2:=hI
 obtain⟨A0,c0,A1,c1,hh,hg,q0,q1⟩:=hI
 refine(check_any k s0_0 s0_1 s0_2 a1 g a b d w ⟨g,A0,c0,A1,c1,rfl,(blk_cell hh 0).trans rfl,(blk_cell hh 1).trans rfl,(blk_cell hh 2).trans rfl,Kd.C_below q0.1 hB,Kd.C_below q1.1 hB⟩ hr).mono ?_
 rintro e w' ⟨rfl,hb⟩
 exact⟨rfl,hI2.below hb,below_weaken hB hB.size hb,KeepBut.of_below hb g none⟩
end Go.Proofs.Ytanhbfhmgmjdgaa.Q

