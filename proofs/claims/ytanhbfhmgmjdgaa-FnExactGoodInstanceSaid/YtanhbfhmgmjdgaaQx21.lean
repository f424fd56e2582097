-- Written by a program of this session; it walks the functions that the law reaches.
import Derived.Test.YtanhbfhmgmjdgaaQx0
import Derived.Test.YtanhbfhmgmjdgaaQx5
import Derived.Test.YtanhbfhmgmjdgaaQx17
import Derived.Test.YtanhbfhmgmjdgaaQx20
import Derived.Test.YtanhbfhmgmjdgaaQx15
namespace Go.Proofs.Ytanhbfhmgmjdgaa.Q
open Go.RowKit Go.Proofs.YtanhbfhmgmjdgaaW.PrintWords Go.Proofs.YtanhbfhmgmjdgaaW.PrintLast Go.Proofs.YtanhbfhmgmjdgaaW.PrintMore
attribute [local go_sem] max2_int min2_int max_two min_two max_three min_three max_four min_four   -- for this text's walks alone
set_option linter.unusedVariables false
set_option linter.unusedSimpArgs false
set_option maxRecDepth 100000
set_option maxHeartbeats 8000000


/-! ### impl_checker_place: function 63 (walked by hand) -/
section
variable (x:S103) (f:S88) (fs:List S88) (gs:List S75) (mem:Bool) (pf:Addr) (w0 w:World) (g:Nat) (q:Nat→Value)
theorem place_32_no (c c':CS S101) (A:Option Addr) (n1:Nat) (B:Option Addr) (n2:Nat) (h:Ck w0 w g q c A n1 B n2) (hm:MEnv w0 (q 0) fs gs mem) (hq:q 1=.pointer (some pf)) (hf:FEnv w0 pf f) (hop:x.f0=32) (t:Int) (hl:localF f x.f1=some (t,false)) (hc:c'=c.fail 5):
  Calls Try.prog 63 #[.pointer (some ⟨g,0,none⟩),.agg #[.int .i64 x.f0,.int .i64 x.f1]] w fun e w'=>e=.returned (.bool true)∧CkE w0 w' g q c':=by
 have HO:=A_ h
 have HK:=A_ (KeepBut.refl w g none)
 have hu71:=Try.underlying103
 have HM:=A_ hm;have HQ:=A_ hq;have HF:=A_ hf
 clear h hm hq hf
 subst hc
 have HL:=A_ hl
 have b32:=e1_ hop
 have d32:(x.f0 !=32)=false:=by rw[hop];rfl
 have d33:=nd_ hop 33
 clear hl hop
 go_enter Try.func63,Try.ntmps63
 go_upto_region 6 with (first|((with_reducible refine gd_ 3 rfl ?_);refine bx_ #[.int .i64 x.f0,.int .i64 x.f1] 103 ?_;intro gx hg wx hbox hb;have BX:=A_ hbox;have NX:=A_ (HO.out.fresh_ne hg);replace HO:=A_ (HO.out.below hb);replace HK:=A_ (HK.out.trans (KeepBut.of_below hb g none) (.inl rfl));clear hbox hb hg;obtain⟨x0,x1⟩:=cp2_ BX.out))
 have c1f:=HO.out.cell1
 rw[HQ.out] at c1f
 go_quiet ((go_at_call 88;exact Calls.quiet_of (local_any f x.f1 t false pf w0 _ HF.out (pw_below_drewN HO.out.2.1 _) HL.out)))
 replace HO:=A_ (HO.out.drewN nq);replace HK:=A_ (keep_drewN HK.out nq);replace BX:=A_ (blk_drewN BX.out nq);clear x0 x1 c1f;generalize wx.drewN nq=wq at*;obtain⟨x0,x1⟩:=cp2_ BX.out
 go_wp2_with (first|(go_at_call 67;refine(fail_any w0 _ g q _ 5 A n1 _ n2 HO.out).mono ?_;rintro e w5 ⟨rfl,hO,hK⟩;replace HO:=A_ hO;replace HK:=A_ (HK.out.trans hK (.inl rfl));replace BX:=A_ (KeepBut.blk hK BX.out NX.out.1 (by simp));clear x0 x1 hO hK;obtain⟨x0,x1⟩:=cp2_ BX.out))
 go_ret
 exact⟨rfl,_,_,_,_,HO.out⟩
theorem place_32 (c c':CS S101) (A:Option Addr) (n1:Nat) (B:Option Addr) (n2:Nat) (h:Ck w0 w g q c A n1 B n2) (hm:MEnv w0 (q 0) fs gs mem) (hq:q 1=.pointer (some pf)) (hf:FEnv w0 pf f) (hop:x.f0=32) (t:Int) (hl:localF f x.f1=some (t,true)) (hr:c.put t=some c'):
  Calls Try.prog 63 #[.pointer (some ⟨g,0,none⟩),.agg #[.int .i64 x.f0,.int .i64 x.f1]] w fun e w'=>e=.returned (.bool true)∧CkE w0 w' g q c':=by
 have HO:=A_ h
 have HK:=A_ (KeepBut.refl w g none)
 have hu71:=Try.underlying103
 have HM:=A_ hm;have HQ:=A_ hq;have HF:=A_ hf
 clear h hm hq hf
 have HL:=A_ hl
 have HR:=A_ hr
 have b32:=e1_ hop
 have d32:(x.f0 !=32)=false:=by rw[hop];rfl
 have d33:=nd_ hop 33
 clear hl hop hr
 go_enter Try.func63,Try.ntmps63
 go_upto_region 6 with (first|((with_reducible refine gd_ 3 rfl ?_);refine bx_ #[.int .i64 x.f0,.int .i64 x.f1] 103 ?_;intro gx hg wx hbox hb;have BX:=A_ hbox;have NX:=A_ (HO.out.fresh_ne hg);replace HO:=A_ (HO.out.below hb);replace HK:=A_ (HK.out.trans (KeepBut.of_below hb g none) (.inl rfl));clear hbox hb hg;obtain⟨x0,x1⟩:=cp2_ BX.out))
 have c1f:=HO.out.cell1
 rw[HQ.out] at c1f
 go_quiet ((go_at_call 88;exact Calls.quiet_of (local_any f x.f1 t true pf w0 _ HF.out (pw_below_drewN HO.out.2.1 _) HL.out)))
 replace HO:=A_ (HO.out.drewN nq);replace HK:=A_ (keep_drewN HK.out nq);replace BX:=A_ (blk_drewN BX.out nq);clear x0 x1 c1f;generalize wx.drewN nq=wq at*;obtain⟨x0,x1⟩:=cp2_ BX.out
 go_wp2_with (first|(go_at_call 65;refine(put_any t w0 _ g q _ c' A n1 _ n2 HO.out HR.out).mono ?_;rintro e w5 ⟨rfl,hE⟩;have HE:=A_ hE;clear hE))
 go_ret
 exact⟨rfl,HE.out⟩
theorem place_33_no (c c':CS S101) (A:Option Addr) (n1:Nat) (B:Option Addr) (n2:Nat) (h:Ck w0 w g q c A n1 B n2) (hm:MEnv w0 (q 0) fs gs mem) (hq:q 1=.pointer (some pf)) (hf:FEnv w0 pf f) (hop:x.f0=33) (t:Int) (hl:localF f x.f1=some (t,false)) (hc:c'=c.fail 5):
  Calls Try.prog 63 #[.pointer (some ⟨g,0,none⟩),.agg #[.int .i64 x.f0,.int .i64 x.f1]] w fun e w'=>e=.returned (.bool true)∧CkE w0 w' g q c':=by
 have HO:=A_ h
 have HK:=A_ (KeepBut.refl w g none)
 have hu71:=Try.underlying103
 have HM:=A_ hm;have HQ:=A_ hq;have HF:=A_ hf
 clear h hm hq hf
 subst hc
 have HL:=A_ hl
 have b32:=ne_ hop 32
 have b33:=e1_ hop
 have d32:=nd_ hop 32
 have d33:(x.f0 !=33)=false:=by rw[hop];rfl
 clear hl hop
 go_enter Try.func63,Try.ntmps63
 go_upto_region 6 with (first|((with_reducible refine gd_ 3 rfl ?_);refine bx_ #[.int .i64 x.f0,.int .i64 x.f1] 103 ?_;intro gx hg wx hbox hb;have BX:=A_ hbox;have NX:=A_ (HO.out.fresh_ne hg);replace HO:=A_ (HO.out.below hb);replace HK:=A_ (HK.out.trans (KeepBut.of_below hb g none) (.inl rfl));clear hbox hb hg;obtain⟨x0,x1⟩:=cp2_ BX.out))
 have c1f:=HO.out.cell1
 rw[HQ.out] at c1f
 go_quiet ((go_at_call 88;exact Calls.quiet_of (local_any f x.f1 t false pf w0 _ HF.out (pw_below_drewN HO.out.2.1 _) HL.out)))
 replace HO:=A_ (HO.out.drewN nq);replace HK:=A_ (keep_drewN HK.out nq);replace BX:=A_ (blk_drewN BX.out nq);clear x0 x1 c1f;generalize wx.drewN nq=wq at*;obtain⟨x0,x1⟩:=cp2_ BX.out
 go_wp2_with (first|(go_at_call 67;refine(fail_any w0 _ g q _ 5 A n1 _ n2 HO.out).mono ?_;rintro e w5 ⟨rfl,hO,hK⟩;replace HO:=A_ hO;replace HK:=A_ (HK.out.trans hK (.inl rfl));replace BX:=A_ (KeepBut.blk hK BX.out NX.out.1 (by simp));clear x0 x1 hO hK;obtain⟨x0,x1⟩:=cp2_ BX.out))
 go_ret
 exact⟨rfl,_,_,_,_,HO.out⟩
theorem place_33 (c c':CS S101) (A:Option Addr) (n1:Nat) (B:Option Addr) (n2:Nat) (h:Ck w0 w g q c A n1 B n2) (hm:MEnv w0 (q 0) fs gs mem) (hq:q 1=.pointer (some pf)) (hf:FEnv w0 pf f) (hop:x.f0=33) (t:Int) (hl:localF f x.f1=some (t,true)) (u:Int) (hr:takeC c t=some (c',u)):
  Calls Try.prog 63 #[.pointer (some ⟨g,0,none⟩),.agg #[.int .i64 x.f0,.int .i64 x.f1]] w fun e w'=>e=.returned (.bool true)∧CkE w0 w' g q c':=by
 have HO:=A_ h
 have HK:=A_ (KeepBut.refl w g none)
 have hu71:=Try.underlying103
 have HM:=A_ hm;have HQ:=A_ hq;have HF:=A_ hf
 clear h hm hq hf
 have HL:=A_ hl
 have HR:=A_ hr
 have b32:=ne_ hop 32
 have b33:=e1_ hop
 have d32:=nd_ hop 32
 have d33:(x.f0 !=33)=false:=by rw[hop];rfl
 clear hl hop hr
 go_enter Try.func63,Try.ntmps63
 go_upto_region 6 with (first|((with_reducible refine gd_ 3 rfl ?_);refine bx_ #[.int .i64 x.f0,.int .i64 x.f1] 103 ?_;intro gx hg wx hbox hb;have BX:=A_ hbox;have NX:=A_ (HO.out.fresh_ne hg);replace HO:=A_ (HO.out.below hb);replace HK:=A_ (HK.out.trans (KeepBut.of_below hb g none) (.inl rfl));clear hbox hb hg;obtain⟨x0,x1⟩:=cp2_ BX.out))
 have c1f:=HO.out.cell1
 rw[HQ.out] at c1f
 go_quiet ((go_at_call 88;exact Calls.quiet_of (local_any f x.f1 t true pf w0 _ HF.out (pw_below_drewN HO.out.2.1 _) HL.out)))
 replace HO:=A_ (HO.out.drewN nq);replace HK:=A_ (keep_drewN HK.out nq);replace BX:=A_ (blk_drewN BX.out nq);clear x0 x1 c1f;generalize wx.drewN nq=wq at*;obtain⟨x0,x1⟩:=cp2_ BX.out
 go_wp2_with (first|(go_at_call 64;refine(take_any w0 _ g q _ c' t u A n1 _ n2 HO.out HR.out).mono ?_;rintro e w5 ⟨rfl,hO,hK⟩;replace HO:=A_ hO;replace HK:=A_ (HK.out.trans hK (.inl rfl));replace BX:=A_ (KeepBut.blk hK BX.out NX.out.1 (by simp));clear x0 x1 hO hK;obtain⟨x0,x1⟩:=cp2_ BX.out))
 go_ret
 exact⟨rfl,_,_,_,_,HO.out⟩
theorem place_34_no (c c':CS S101) (A:Option Addr) (n1:Nat) (B:Option Addr) (n2:Nat) (h:Ck w0 w g q c A n1 B n2) (hm:MEnv w0 (q 0) fs gs mem) (hq:q 1=.pointer (some pf)) (hf:FEnv w0 pf f) (hop:x.f0=34) (t:Int) (hl:localF f x.f1=some (t,false)) (hc:c'=c.fail 5):
  Calls Try.prog 63 #[.pointer (some ⟨g,0,none⟩),.agg #[.int .i64 x.f0,.int .i64 x.f1]] w fun e w'=>e=.returned (.bool true)∧CkE w0 w' g q c':=by
 have HO:=A_ h
 have HK:=A_ (KeepBut.refl w g none)
 have hu71:=Try.underlying103
 have HM:=A_ hm;have HQ:=A_ hq;have HF:=A_ hf
 clear h hm hq hf
 subst hc
 have HL:=A_ hl
 have b32:=ne_ hop 32
 have b33:=ne_ hop 33
 have b34:=e1_ hop
 have d32:=nd_ hop 32
 have d33:=nd_ hop 33
 clear hl hop
 go_enter Try.func63,Try.ntmps63
 go_upto_region 6 with (first|((with_reducible refine gd_ 3 rfl ?_);refine bx_ #[.int .i64 x.f0,.int .i64 x.f1] 103 ?_;intro gx hg wx hbox hb;have BX:=A_ hbox;have NX:=A_ (HO.out.fresh_ne hg);replace HO:=A_ (HO.out.below hb);replace HK:=A_ (HK.out.trans (KeepBut.of_below hb g none) (.inl rfl));clear hbox hb hg;obtain⟨x0,x1⟩:=cp2_ BX.out))
 have c1f:=HO.out.cell1
 rw[HQ.out] at c1f
 go_quiet ((go_at_call 88;exact Calls.quiet_of (local_any f x.f1 t false pf w0 _ HF.out (pw_below_drewN HO.out.2.1 _) HL.out)))
 replace HO:=A_ (HO.out.drewN nq);replace HK:=A_ (keep_drewN HK.out nq);replace BX:=A_ (blk_drewN BX.out nq);clear x0 x1 c1f;generalize wx.drewN nq=wq at*;obtain⟨x0,x1⟩:=cp2_ BX.out
 go_wp2_with (first|(go_at_call 67;refine(fail_any w0 _ g q _ 5 A n1 _ n2 HO.out).mono ?_;rintro e w5 ⟨rfl,hO,hK⟩;replace HO:=A_ hO;replace HK:=A_ (HK.out.trans hK (.inl rfl));replace BX:=A_ (KeepBut.blk hK BX.out NX.out.1 (by simp));clear x0 x1 hO hK;obtain⟨x0,x1⟩:=cp2_ BX.out))
 go_ret
 exact⟨rfl,_,_,_,_,HO.out⟩
theorem place_34 (c c':CS S101) (A:Option Addr) (n1:Nat) (B:Option Addr) (n2:Nat) (h:Ck w0 w g q c A n1 B n2) (hm:MEnv w0 (q 0) fs gs mem) (hq:q 1=.pointer (some pf)) (hf:FEnv w0 pf f) (hop:x.f0=34) (t:Int) (hl:localF f x.f1=some (t,true)) (c1:CS S101) (u:Int) (hs:takeC c t=some (c1,u)) (hr:c1.put t=some c'):
  Calls Try.prog 63 #[.pointer (some ⟨g,0,none⟩),.agg #[.int .i64 x.f0,.int .i64 x.f1]] w fun e w'=>e=.returned (.bool true)∧CkE w0 w' g q c':=by
 have HO:=A_ h
 have HK:=A_ (KeepBut.refl w g none)
 have hu71:=Try.underlying103
 have HM:=A_ hm;have HQ:=A_ hq;have HF:=A_ hf
 clear h hm hq hf
 have HL:=A_ hl
 have HR:=A_ hr;have HS:=A_ hs
 have b32:=ne_ hop 32
 have b33:=ne_ hop 33
 have b34:=e1_ hop
 have d32:=nd_ hop 32
 have d33:=nd_ hop 33
 clear hl hop hr hs
 go_enter Try.func63,Try.ntmps63
 go_upto_region 6 with (first|((with_reducible refine gd_ 3 rfl ?_);refine bx_ #[.int .i64 x.f0,.int .i64 x.f1] 103 ?_;intro gx hg wx hbox hb;have BX:=A_ hbox;have NX:=A_ (HO.out.fresh_ne hg);replace HO:=A_ (HO.out.below hb);replace HK:=A_ (HK.out.trans (KeepBut.of_below hb g none) (.inl rfl));clear hbox hb hg;obtain⟨x0,x1⟩:=cp2_ BX.out))
 have c1f:=HO.out.cell1
 rw[HQ.out] at c1f
 go_quiet ((go_at_call 88;exact Calls.quiet_of (local_any f x.f1 t true pf w0 _ HF.out (pw_below_drewN HO.out.2.1 _) HL.out)))
 replace HO:=A_ (HO.out.drewN nq);replace HK:=A_ (keep_drewN HK.out nq);replace BX:=A_ (blk_drewN BX.out nq);clear x0 x1 c1f;generalize wx.drewN nq=wq at*;obtain⟨x0,x1⟩:=cp2_ BX.out
 go_wp2_with (first|(go_at_call 64;refine(take_any w0 _ g q _ c1 t u A n1 _ n2 HO.out HS.out).mono ?_;rintro e w5 ⟨rfl,hO,hK⟩;replace HO:=A_ hO;replace HK:=A_ (HK.out.trans hK (.inl rfl));replace BX:=A_ (KeepBut.blk hK BX.out NX.out.1 (by simp));clear x0 x1 hO hK;obtain⟨x0,x1⟩:=cp2_ BX.out)|(go_at_call 65;refine(put_any t w0 _ g q _ c' A n1 _ n2 HO.out HR.out).mono ?_;rintro e w5 ⟨rfl,hE⟩;have HE:=A_ hE;clear hE))
 go_ret
 exact⟨rfl,HE.out⟩
def impl_place.T19:Bool × List (List Nat × List Nat):=(true,[([],[]),([0],[0]),([1],[1]),([2],[2]),([3],[3]),([4],[4]),([5],[5]),([],[]),([7],[7]),([6,8],[6,8]),([9],[9]),([],[]),([11,10,0,1,2,3,4,5,6,7,8,9,10,11],[10,11])])
def impl_place.B19:List Nat:=[0,1,3,7,15,31,63,0,128,511,1023,0,4095]
theorem impl_place.tab19:rtab .any (opsOf Try.f63 19)=impl_place.T19:=by kernel_rfl
theorem impl_place.bits19:waitsOk impl_place.T19.2 impl_place.B19=true:=by kernel_rfl
theorem place_35_no (c c':CS S101) (A:Option Addr) (n1:Nat) (B:Option Addr) (n2:Nat) (h:Ck w0 w g q c A n1 B n2) (hm:MEnv w0 (q 0) fs gs mem) (hq:q 1=.pointer (some pf)) (hf:FEnv w0 pf f) (hop:x.f0=35) (hz:(gs.length:Int)≤x.f1) (hc:c'=c.fail 5):
  Calls Try.prog 63 #[.pointer (some ⟨g,0,none⟩),.agg #[.int .i64 x.f0,.int .i64 x.f1]] w fun e w'=>e=.returned (.bool true)∧CkE w0 w' g q c':=by
 have HO:=A_ h
 have HK:=A_ (KeepBut.refl w g none)
 have hu71:=Try.underlying103
 have HM:=A_ hm;have HQ:=A_ hq;have HF:=A_ hf
 clear h hm hq hf
 subst hc
 have b32:=ne_ hop 32
 have b33:=ne_ hop 33
 have b34:=ne_ hop 34
 have b35:=e1_ hop
 have d32:=nd_ hop 32
 have d33:=nd_ hop 33
 clear hop
 obtain⟨bm,AF,cF,AG,cG,e0_,m0_,m1_,m2_,rF,rG⟩:=HM.out
 go_enter Try.func63,Try.ntmps63
 go_upto_region 16 with (first|((with_reducible refine gd_ 3 rfl ?_);refine bx_ #[.int .i64 x.f0,.int .i64 x.f1] 103 ?_;intro gx hg wx hbox hb;have BX:=A_ hbox;have NX:=A_ (HO.out.fresh_ne hg);replace HO:=A_ (HO.out.below hb);replace HK:=A_ (HK.out.trans (KeepBut.of_below hb g none) (.inl rfl));clear hbox hb hg;obtain⟨x0,x1⟩:=cp2_ BX.out))
 have c0:=HO.out.cell0
 rw[e0_] at c0
 replace m1_:=cl_ HO.out.2.1 m1_
 have RG:=A_ rG
 clear m0_ m2_ rF rG
 have cb:=decide_eq_true hz
 go_quiet (fail)
 replace HO:=A_ (HO.out.drewN nq);replace HK:=A_ (keep_drewN HK.out nq);replace BX:=A_ (blk_drewN BX.out nq);clear x0 x1 c0 m1_;generalize wx.drewN nq=wq at*;obtain⟨x0,x1⟩:=cp2_ BX.out
 go_wp2_with (first|(go_at_call 67;refine(fail_any w0 _ g q _ 5 A n1 _ n2 HO.out).mono ?_;rintro e w5 ⟨rfl,hO,hK⟩;replace HO:=A_ hO;replace HK:=A_ (HK.out.trans hK (.inl rfl));replace BX:=A_ (KeepBut.blk hK BX.out NX.out.1 (by simp));clear x0 x1 hO hK;obtain⟨x0,x1⟩:=cp2_ BX.out))
 go_ret
 exact⟨rfl,_,_,_,_,HO.out⟩
theorem place_36_no (c c':CS S101) (A:Option Addr) (n1:Nat) (B:Option Addr) (n2:Nat) (h:Ck w0 w g q c A n1 B n2) (hm:MEnv w0 (q 0) fs gs mem) (hq:q 1=.pointer (some pf)) (hf:FEnv w0 pf f) (hop:x.f0=36) (hz:(gs.length:Int)≤x.f1) (hc:c'=c.fail 5):
  Calls Try.prog 63 #[.pointer (some ⟨g,0,none⟩),.agg #[.int .i64 x.f0,.int .i64 x.f1]] w fun e w'=>e=.returned (.bool true)∧CkE w0 w' g q c':=by
 have HO:=A_ h
 have HK:=A_ (KeepBut.refl w g none)
 have hu71:=Try.underlying103
 have HM:=A_ hm;have HQ:=A_ hq;have HF:=A_ hf
 clear h hm hq hf
 subst hc
 have b32:=ne_ hop 32
 have b33:=ne_ hop 33
 have b34:=ne_ hop 34
 have b35:=ne_ hop 35
 have b36:=e1_ hop
 have d32:=nd_ hop 32
 have d33:=nd_ hop 33
 clear hop
 obtain⟨bm,AF,cF,AG,cG,e0_,m0_,m1_,m2_,rF,rG⟩:=HM.out
 go_enter Try.func63,Try.ntmps63
 go_upto_region 16 with (first|((with_reducible refine gd_ 3 rfl ?_);refine bx_ #[.int .i64 x.f0,.int .i64 x.f1] 103 ?_;intro gx hg wx hbox hb;have BX:=A_ hbox;have NX:=A_ (HO.out.fresh_ne hg);replace HO:=A_ (HO.out.below hb);replace HK:=A_ (HK.out.trans (KeepBut.of_below hb g none) (.inl rfl));clear hbox hb hg;obtain⟨x0,x1⟩:=cp2_ BX.out))
 have c0:=HO.out.cell0
 rw[e0_] at c0
 replace m1_:=cl_ HO.out.2.1 m1_
 have RG:=A_ rG
 clear m0_ m2_ rF rG
 have cb:=decide_eq_true hz
 go_quiet (fail)
 replace HO:=A_ (HO.out.drewN nq);replace HK:=A_ (keep_drewN HK.out nq);replace BX:=A_ (blk_drewN BX.out nq);clear x0 x1 c0 m1_;generalize wx.drewN nq=wq at*;obtain⟨x0,x1⟩:=cp2_ BX.out
 go_wp2_with (first|(go_at_call 67;refine(fail_any w0 _ g q _ 5 A n1 _ n2 HO.out).mono ?_;rintro e w5 ⟨rfl,hO,hK⟩;replace HO:=A_ hO;replace HK:=A_ (HK.out.trans hK (.inl rfl));replace BX:=A_ (KeepBut.blk hK BX.out NX.out.1 (by simp));clear x0 x1 hO hK;obtain⟨x0,x1⟩:=cp2_ BX.out))
 go_ret
 exact⟨rfl,_,_,_,_,HO.out⟩
theorem place_35 (c c':CS S101) (A:Option Addr) (n1:Nat) (B:Option Addr) (n2:Nat) (h:Ck w0 w g q c A n1 B n2) (hm:MEnv w0 (q 0) fs gs mem) (hq:q 1=.pointer (some pf)) (hf:FEnv w0 pf f) (hop:x.f0=35) (hz0:0≤x.f1) (hz:x.f1<(gs.length:Int)) (hr:c.put (rd_T75 gs x.f1).f0=some c'):
  Calls Try.prog 63 #[.pointer (some ⟨g,0,none⟩),.agg #[.int .i64 x.f0,.int .i64 x.f1]] w fun e w'=>e=.returned (.bool true)∧CkE w0 w' g q c':=by
 have HO:=A_ h
 have HK:=A_ (KeepBut.refl w g none)
 have hu71:=Try.underlying103
 have HM:=A_ hm;have HQ:=A_ hq;have HF:=A_ hf
 clear h hm hq hf
 have HR:=A_ hr
 clear hr
 have b32:=ne_ hop 32
 have b33:=ne_ hop 33
 have b34:=ne_ hop 34
 have b35:=e1_ hop
 have d32:=nd_ hop 32
 have d33:=nd_ hop 33
 clear hop
 obtain⟨bm,AF,cF,AG,cG,e0_,m0_,m1_,m2_,rF,rG⟩:=HM.out
 go_enter Try.func63,Try.ntmps63
 go_upto_region 16 with (first|((with_reducible refine gd_ 3 rfl ?_);refine bx_ #[.int .i64 x.f0,.int .i64 x.f1] 103 ?_;intro gx hg wx hbox hb;have BX:=A_ hbox;have NX:=A_ (HO.out.fresh_ne hg);replace HO:=A_ (HO.out.below hb);replace HK:=A_ (HK.out.trans (KeepBut.of_below hb g none) (.inl rfl));clear hbox hb hg;obtain⟨x0,x1⟩:=cp2_ BX.out))
 have c0:=HO.out.cell0
 rw[e0_] at c0
 replace m1_:=cl_ HO.out.2.1 m1_
 have RG:=A_ rG
 clear m0_ m2_ rF rG
 have cb:decide ((gs.length:Int)≤x.f1)=false:=decide_eq_false (by omega)
 obtain⟨ad,rfl,g0_,g1_,g2_⟩:=at_T75 RG.out x.f1 hz0 (by omega)
 replace g0_:=cl_ HO.out.2.1 g0_;replace g1_:=cl_ HO.out.2.1 g1_;replace g2_:=cl_ HO.out.2.1 g2_
 have q0:=eq_true hz0
 have q1:(x.f1<(gs.length:Int))=True:=eq_true (by omega)
 have hu63:=Try.underlying75
 go_quiet (fail)
 have m0:=A_ (HO.out.drewN nq);have m1:=A_ (keep_drewN HK.out nq);have m2:=A_ (blk_drewN BX.out nq)
 have k1:(wx.drewN nq).cell? ⟨bm,1,none⟩=some (.slice (some ad) gs.length cG):=m1_
 have k2:(wx.drewN nq).cell? (ad.add (x.f1.toNat*3))=some (.int .i64 (rd_T75 gs x.f1).f0):=g0_
 have k3:(wx.drewN nq).cell? ⟨(ad.add (x.f1.toNat*3)).block,(ad.add (x.f1.toNat*3)).off+1,none⟩=some (.bool (rd_T75 gs x.f1).f1):=g1_
 have k4:(wx.drewN nq).cell? ⟨(ad.add (x.f1.toNat*3)).block,(ad.add (x.f1.toNat*3)).off+2,none⟩=some (.int .u64 (rd_T75 gs x.f1).f2):=g2_
 clear HO HK BX x0 x1 c0 m1_ g0_ g1_ g2_
 generalize wx.drewN nq=wq at*
 have HO:=m0;have HK:=m1;have BX:=m2;have m1_:=k1;have g0_:=k2;have g1_:=k3;have g2_:=k4;clear m0 m1 m2 k1 k2 k3 k4;obtain⟨x0,x1⟩:=cp2_ BX.out
 have c0:=HO.out.cell0
 rw[e0_] at c0
 go_upto_region 19 with (fail)
 refine sS 13 (fun w'=>w'.cell? ⟨g,0,none⟩=some (.pointer (some ⟨bm,0,none⟩))∧w'.cell? ⟨bm,1,none⟩=some (.slice (some ad) gs.length cG)∧w'.cell? ⟨gx,1,none⟩=some (.int .i64 x.f1)∧w'.cell? (ad.add (x.f1.toNat*3))=some (.int .i64 (rd_T75 gs x.f1).f0)∧w'.cell? ⟨(ad.add (x.f1.toNat*3)).block,(ad.add (x.f1.toNat*3)).off+1,none⟩=some (.bool (rd_T75 gs x.f1).f1)∧w'.cell? ⟨(ad.add (x.f1.toNat*3)).block,(ad.add (x.f1.toNat*3)).off+2,none⟩=some (.int .u64 (rd_T75 gs x.f1).f2)) [12] ⟨c0,m1_,x1,g0_,g1_,g2_⟩ impl_place.tab19 impl_place.bits19 (fun hHeld HT_ HW_=>?_)
 replace HO:=A_ HO.out.drew;replace HK:=A_ (keep_drew HK.out);replace BX:=A_ (blk_drew BX.out);clear c0 m1_ g0_ g1_ g2_ x0 x1;generalize wq.drew=wd at*
 refine pS HT_ 0 58 ?_
 refine pS HT_ 1 59 ?_
 refine pS HT_ 2 60 ?_
 refine pS HT_ 7 65 ?_
 refine tS HT_ HW_ 3 61 hHeld ?_
 refine pS HT_ 4 62 ?_
 refine pS HT_ 5 63 ?_
 refine tS HT_ HW_ 6 64 hHeld ?_
 refine tS HT_ HW_ 8 66 hHeld ?_
 refine pS HT_ 9 67 ?_
 refine tS HT_ HW_ 10 68 hHeld ?_
 refine oS HT_ 11 (some 7) (fun K hK=>?_)
 refine box_step (by rfl) (N:=7) ?hd (cs:=#[(.int .i64 0),(.bool false),(.int .u64 0)]) (t:=75) ?hr ?_;(case hd=>rfl);(case hr=>first|(go_simp;done)|(go_simp;rfl))
 intro gy hg wx hbox hb
 have BY:=A_ hbox;have GY:=A_ (show w.heap.size≤gy from by rw[hg];exact HK.out.1);have NY:=A_ (HO.out.fresh_ne hg);have GG:=A_ (Nat.le_trans HO.out.2.1.size (Nat.le_of_eq hg.symm));have m0:=A_ (HO.out.below hb);have m1:=A_ (HK.out.trans (KeepBut.of_below hb g none) (.inl rfl));have m4:=A_ (blk_below BX.out hb);have NXY:=A_ (show gx≠gy from by rw[hg];have:=blk_lt BX.out;omega)
 obtain⟨s0_,s1_,s2_,s3_,s4_,s5_⟩:=hHeld
 have hHeld2:=A_ (And.intro (cl_ hb s0_) (And.intro (cl_ hb s1_) (And.intro (cl_ hb s2_) (And.intro (cl_ hb s3_) (And.intro (cl_ hb s4_) (cl_ hb s5_))))))
 clear HO HK BX hbox hb hg s0_ s1_ s2_ s3_ s4_ s5_;have HO:=m0;have HK:=m1;have BX:=m4;clear m0 m1 m4
 obtain⟨z0,z1,z2⟩:=cp3_ BY.out;obtain⟨v0,v1,v2⟩:=fz3_ BY.out
 refine hK.out _ _ hHeld2.out (fun hHeld=>?_)
 clear hK K
 refine nS (some 7) ?_
 refine lS HT_ 12 (none) (fun K hK=>?_)
 obtain⟨vs,hvs⟩:∃ vs:List Value,vs=[.int .i64 (rd_T75 gs x.f1).f0,.bool (rd_T75 gs x.f1).f1,.int .u64 (rd_T75 gs x.f1).f2]:=⟨_,rfl⟩
 refine skip_ (w1:=sets wx gy 0 vs) (by rfl) rfl (by subst hvs;first|(go_simp;done)|(go_simp;rfl)) ?_
 clear hHeld hHeld2 z0 v0 z1 v1 z2 v2
 refine hK.out _ _ ?_
 clear hK K
 refine dS HT_ ?_
 replace BY:=A_ (sets_blk vs BY.out (by rw[hvs];rfl));replace HO:=A_ (HO.out.sets GG.out NY.out vs 0);replace HK:=A_ (keep_sets HK.out GY.out vs 0);replace BX:=A_ ((heap_sets vs wx 0 NXY.out).trans BX.out);generalize sets wx gy 0 vs=wy at*;subst hvs;obtain⟨x0,x1⟩:=cp2_ BX.out
 obtain⟨y0,y1,y2⟩:=cp3_ BY.out
 go_wp2_with (first|(go_at_call 65;refine(put_any (rd_T75 gs x.f1).f0 w0 _ g q _ c' A n1 _ n2 HO.out HR.out).mono ?_;rintro e w5 ⟨rfl,hE⟩;have HE:=A_ hE;clear hE))
 go_ret
 exact⟨rfl,HE.out⟩
theorem place_36_f (c c':CS S101) (A:Option Addr) (n1:Nat) (B:Option Addr) (n2:Nat) (h:Ck w0 w g q c A n1 B n2) (hm:MEnv w0 (q 0) fs gs mem) (hq:q 1=.pointer (some pf)) (hf:FEnv w0 pf f) (hop:x.f0=36) (hz0:0≤x.f1) (hz:x.f1<(gs.length:Int)) (hx:(rd_T75 gs x.f1).f1=true) (u:Int) (hr:takeC (c.fail 7) (rd_T75 gs x.f1).f0=some (c',u)):
  Calls Try.prog 63 #[.pointer (some ⟨g,0,none⟩),.agg #[.int .i64 x.f0,.int .i64 x.f1]] w fun e w'=>e=.returned (.bool true)∧CkE w0 w' g q c':=by
 have HO:=A_ h
 have HK:=A_ (KeepBut.refl w g none)
 have hu71:=Try.underlying103
 have HM:=A_ hm;have HQ:=A_ hq;have HF:=A_ hf
 clear h hm hq hf
 have HR:=A_ hr;have HX:=A_ hx
 clear hr hx
 have b32:=ne_ hop 32
 have b33:=ne_ hop 33
 have b34:=ne_ hop 34
 have b35:=ne_ hop 35
 have b36:=e1_ hop
 have d32:=nd_ hop 32
 have d33:=nd_ hop 33
 clear hop
 obtain⟨bm,AF,cF,AG,cG,e0_,m0_,m1_,m2_,rF,rG⟩:=HM.out
 go_enter Try.func63,Try.ntmps63
 go_upto_region 16 with (first|((with_reducible refine gd_ 3 rfl ?_);refine bx_ #[.int .i64 x.f0,.int .i64 x.f1] 103 ?_;intro gx hg wx hbox hb;have BX:=A_ hbox;have NX:=A_ (HO.out.fresh_ne hg);replace HO:=A_ (HO.out.below hb);replace HK:=A_ (HK.out.trans (KeepBut.of_below hb g none) (.inl rfl));clear hbox hb hg;obtain⟨x0,x1⟩:=cp2_ BX.out))
 have c0:=HO.out.cell0
 rw[e0_] at c0
 replace m1_:=cl_ HO.out.2.1 m1_
 have RG:=A_ rG
 clear m0_ m2_ rF rG
 have cb:decide ((gs.length:Int)≤x.f1)=false:=decide_eq_false (by omega)
 obtain⟨ad,rfl,g0_,g1_,g2_⟩:=at_T75 RG.out x.f1 hz0 (by omega)
 replace g0_:=cl_ HO.out.2.1 g0_;replace g1_:=cl_ HO.out.2.1 g1_;replace g2_:=cl_ HO.out.2.1 g2_
 have q0:=eq_true hz0
 have q1:(x.f1<(gs.length:Int))=True:=eq_true (by omega)
 have hu63:=Try.underlying75
 go_quiet (fail)
 have m0:=A_ (HO.out.drewN nq);have m1:=A_ (keep_drewN HK.out nq);have m2:=A_ (blk_drewN BX.out nq)
 have k1:(wx.drewN nq).cell? ⟨bm,1,none⟩=some (.slice (some ad) gs.length cG):=m1_
 have k2:(wx.drewN nq).cell? (ad.add (x.f1.toNat*3))=some (.int .i64 (rd_T75 gs x.f1).f0):=g0_
 have k3:(wx.drewN nq).cell? ⟨(ad.add (x.f1.toNat*3)).block,(ad.add (x.f1.toNat*3)).off+1,none⟩=some (.bool (rd_T75 gs x.f1).f1):=g1_
 have k4:(wx.drewN nq).cell? ⟨(ad.add (x.f1.toNat*3)).block,(ad.add (x.f1.toNat*3)).off+2,none⟩=some (.int .u64 (rd_T75 gs x.f1).f2):=g2_
 clear HO HK BX x0 x1 c0 m1_ g0_ g1_ g2_
 generalize wx.drewN nq=wq at*
 have HO:=m0;have HK:=m1;have BX:=m2;have m1_:=k1;have g0_:=k2;have g1_:=k3;have g2_:=k4;clear m0 m1 m2 k1 k2 k3 k4;obtain⟨x0,x1⟩:=cp2_ BX.out
 have c0:=HO.out.cell0
 rw[e0_] at c0
 go_upto_region 19 with (fail)
 refine sS 13 (fun w'=>w'.cell? ⟨g,0,none⟩=some (.pointer (some ⟨bm,0,none⟩))∧w'.cell? ⟨bm,1,none⟩=some (.slice (some ad) gs.length cG)∧w'.cell? ⟨gx,1,none⟩=some (.int .i64 x.f1)∧w'.cell? (ad.add (x.f1.toNat*3))=some (.int .i64 (rd_T75 gs x.f1).f0)∧w'.cell? ⟨(ad.add (x.f1.toNat*3)).block,(ad.add (x.f1.toNat*3)).off+1,none⟩=some (.bool (rd_T75 gs x.f1).f1)∧w'.cell? ⟨(ad.add (x.f1.toNat*3)).block,(ad.add (x.f1.toNat*3)).off+2,none⟩=some (.int .u64 (rd_T75 gs x.f1).f2)) [12] ⟨c0,m1_,x1,g0_,g1_,g2_⟩ impl_place.tab19 impl_place.bits19 (fun hHeld HT_ HW_=>?_)
 replace HO:=A_ HO.out.drew;replace HK:=A_ (keep_drew HK.out);replace BX:=A_ (blk_drew BX.out);clear c0 m1_ g0_ g1_ g2_ x0 x1;generalize wq.drew=wd at*
 refine pS HT_ 0 58 ?_
 refine pS HT_ 1 59 ?_
 refine pS HT_ 2 60 ?_
 refine pS HT_ 7 65 ?_
 refine tS HT_ HW_ 3 61 hHeld ?_
 refine pS HT_ 4 62 ?_
 refine pS HT_ 5 63 ?_
 refine tS HT_ HW_ 6 64 hHeld ?_
 refine tS HT_ HW_ 8 66 hHeld ?_
 refine pS HT_ 9 67 ?_
 refine tS HT_ HW_ 10 68 hHeld ?_
 refine oS HT_ 11 (some 7) (fun K hK=>?_)
 refine box_step (by rfl) (N:=7) ?hd (cs:=#[(.int .i64 0),(.bool false),(.int .u64 0)]) (t:=75) ?hr ?_;(case hd=>rfl);(case hr=>first|(go_simp;done)|(go_simp;rfl))
 intro gy hg wx hbox hb
 have BY:=A_ hbox;have GY:=A_ (show w.heap.size≤gy from by rw[hg];exact HK.out.1);have NY:=A_ (HO.out.fresh_ne hg);have GG:=A_ (Nat.le_trans HO.out.2.1.size (Nat.le_of_eq hg.symm));have m0:=A_ (HO.out.below hb);have m1:=A_ (HK.out.trans (KeepBut.of_below hb g none) (.inl rfl));have m4:=A_ (blk_below BX.out hb);have NXY:=A_ (show gx≠gy from by rw[hg];have:=blk_lt BX.out;omega)
 obtain⟨s0_,s1_,s2_,s3_,s4_,s5_⟩:=hHeld
 have hHeld2:=A_ (And.intro (cl_ hb s0_) (And.intro (cl_ hb s1_) (And.intro (cl_ hb s2_) (And.intro (cl_ hb s3_) (And.intro (cl_ hb s4_) (cl_ hb s5_))))))
 clear HO HK BX hbox hb hg s0_ s1_ s2_ s3_ s4_ s5_;have HO:=m0;have HK:=m1;have BX:=m4;clear m0 m1 m4
 obtain⟨z0,z1,z2⟩:=cp3_ BY.out;obtain⟨v0,v1,v2⟩:=fz3_ BY.out
 refine hK.out _ _ hHeld2.out (fun hHeld=>?_)
 clear hK K
 refine nS (some 7) ?_
 refine lS HT_ 12 (none) (fun K hK=>?_)
 obtain⟨vs,hvs⟩:∃ vs:List Value,vs=[.int .i64 (rd_T75 gs x.f1).f0,.bool (rd_T75 gs x.f1).f1,.int .u64 (rd_T75 gs x.f1).f2]:=⟨_,rfl⟩
 refine skip_ (w1:=sets wx gy 0 vs) (by rfl) rfl (by subst hvs;first|(go_simp;done)|(go_simp;rfl)) ?_
 clear hHeld hHeld2 z0 v0 z1 v1 z2 v2
 refine hK.out _ _ ?_
 clear hK K
 refine dS HT_ ?_
 replace BY:=A_ (sets_blk vs BY.out (by rw[hvs];rfl));replace HO:=A_ (HO.out.sets GG.out NY.out vs 0);replace HK:=A_ (keep_sets HK.out GY.out vs 0);replace BX:=A_ ((heap_sets vs wx 0 NXY.out).trans BX.out);generalize sets wx gy 0 vs=wy at*;subst hvs;obtain⟨x0,x1⟩:=cp2_ BX.out
 obtain⟨y0,y1,y2⟩:=cp3_ BY.out
 rw[HX.out] at y1
 go_wp2_with (first|(go_at_call 67;refine(fail_any w0 _ g q _ 7 A n1 _ n2 HO.out).mono ?_;rintro e w5 ⟨rfl,hO,hK⟩;replace HO:=A_ hO;replace HK:=A_ (HK.out.trans hK (.inl rfl));replace BY:=A_ (KeepBut.blk hK BY.out NY.out.1 (by simp));clear BX x0 x1 y0 y1 y2 hO hK;have y0:=(blk_cell BY.out 0).trans rfl)|(go_at_call 64;refine(take_any w0 _ g q _ c' (rd_T75 gs x.f1).f0 u A n1 _ n2 HO.out HR.out).mono ?_;rintro e w5 ⟨rfl,hO,hK⟩;replace HO:=A_ hO;clear HK hO hK))
 go_ret
 exact⟨rfl,_,_,_,_,HO.out⟩
theorem place_36 (c c':CS S101) (A:Option Addr) (n1:Nat) (B:Option Addr) (n2:Nat) (h:Ck w0 w g q c A n1 B n2) (hm:MEnv w0 (q 0) fs gs mem) (hq:q 1=.pointer (some pf)) (hf:FEnv w0 pf f) (hop:x.f0=36) (hz0:0≤x.f1) (hz:x.f1<(gs.length:Int)) (hx:(rd_T75 gs x.f1).f1=false) (u:Int) (hr:takeC c (rd_T75 gs x.f1).f0=some (c',u)):
  Calls Try.prog 63 #[.pointer (some ⟨g,0,none⟩),.agg #[.int .i64 x.f0,.int .i64 x.f1]] w fun e w'=>e=.returned (.bool true)∧CkE w0 w' g q c':=by
 have HO:=A_ h
 have HK:=A_ (KeepBut.refl w g none)
 have hu71:=Try.underlying103
 have HM:=A_ hm;have HQ:=A_ hq;have HF:=A_ hf
 clear h hm hq hf
 have HR:=A_ hr;have HX:=A_ hx
 clear hr hx
 have b32:=ne_ hop 32
 have b33:=ne_ hop 33
 have b34:=ne_ hop 34
 have b35:=ne_ hop 35
 have b36:=e1_ hop
 have d32:=nd_ hop 32
 have d33:=nd_ hop 33
 clear hop
 obtain⟨bm,AF,cF,AG,cG,e0_,m0_,m1_,m2_,rF,rG⟩:=HM.out
 go_enter Try.func63,Try.ntmps63
 go_upto_region 16 with (first|((with_reducible refine gd_ 3 rfl ?_);refine bx_ #[.int .i64 x.f0,.int .i64 x.f1] 103 ?_;intro gx hg wx hbox hb;have BX:=A_ hbox;have NX:=A_ (HO.out.fresh_ne hg);replace HO:=A_ (HO.out.below hb);replace HK:=A_ (HK.out.trans (KeepBut.of_below hb g none) (.inl rfl));clear hbox hb hg;obtain⟨x0,x1⟩:=cp2_ BX.out))
 have c0:=HO.out.cell0
 rw[e0_] at c0
 replace m1_:=cl_ HO.out.2.1 m1_
 have RG:=A_ rG
 clear m0_ m2_ rF rG
 have cb:decide ((gs.length:Int)≤x.f1)=false:=decide_eq_false (by omega)
 obtain⟨ad,rfl,g0_,g1_,g2_⟩:=at_T75 RG.out x.f1 hz0 (by omega)
 replace g0_:=cl_ HO.out.2.1 g0_;replace g1_:=cl_ HO.out.2.1 g1_;replace g2_:=cl_ HO.out.2.1 g2_
 have q0:=eq_true hz0
 have q1:(x.f1<(gs.length:Int))=True:=eq_true (by omega)
 have hu63:=Try.underlying75
 go_quiet (fail)
 have m0:=A_ (HO.out.drewN nq);have m1:=A_ (keep_drewN HK.out nq);have m2:=A_ (blk_drewN BX.out nq)
 have k1:(wx.drewN nq).cell? ⟨bm,1,none⟩=some (.slice (some ad) gs.length cG):=m1_
 have k2:(wx.drewN nq).cell? (ad.add (x.f1.toNat*3))=some (.int .i64 (rd_T75 gs x.f1).f0):=g0_
 have k3:(wx.drewN nq).cell? ⟨(ad.add (x.f1.toNat*3)).block,(ad.add (x.f1.toNat*3)).off+1,none⟩=some (.bool (rd_T75 gs x.f1).f1):=g1_
 have k4:(wx.drewN nq).cell? ⟨(ad.add (x.f1.toNat*3)).block,(ad.add (x.f1.toNat*3)).off+2,none⟩=some (.int .u64 (rd_T75 gs x.f1).f2):=g2_
 clear HO HK BX x0 x1 c0 m1_ g0_ g1_ g2_
 generalize wx.drewN nq=wq at*
 have HO:=m0;have HK:=m1;have BX:=m2;have m1_:=k1;have g0_:=k2;have g1_:=k3;have g2_:=k4;clear m0 m1 m2 k1 k2 k3 k4;obtain⟨x0,x1⟩:=cp2_ BX.out
 have c0:=HO.out.cell0
 rw[e0_] at c0
 go_upto_region 19 with (fail)
 refine sS 13 (fun w'=>w'.cell? ⟨g,0,none⟩=some (.pointer (some ⟨bm,0,none⟩))∧w'.cell? ⟨bm,1,none⟩=some (.slice (some ad) gs.length cG)∧w'.cell? ⟨gx,1,none⟩=some (.int .i64 x.f1)∧w'.cell? (ad.add (x.f1.toNat*3))=some (.int .i64 (rd_T75 gs x.f1).f0)∧w'.cell? ⟨(ad.add (x.f1.toNat*3)).block,(ad.add (x.f1.toNat*3)).off+1,none⟩=some (.bool (rd_T75 gs x.f1).f1)∧w'.cell? ⟨(ad.add (x.f1.toNat*3)).block,(ad.add (x.f1.toNat*3)).off+2,none⟩=some (.int .u64 (rd_T75 gs x.f1).f2)) [12] ⟨c0,m1_,x1,g0_,g1_,g2_⟩ impl_place.tab19 impl_place.bits19 (fun hHeld HT_ HW_=>?_)
 replace HO:=A_ HO.out.drew;replace HK:=A_ (keep_drew HK.out);replace BX:=A_ (blk_drew BX.out);clear c0 m1_ g0_ g1_ g2_ x0 x1;generalize wq.drew=wd at*
 refine pS HT_ 0 58 ?_
 refine pS HT_ 1 59 ?_
 refine pS HT_ 2 60 ?_
 refine pS HT_ 7 65 ?_
 refine tS HT_ HW_ 3 61 hHeld ?_
 refine pS HT_ 4 62 ?_
 refine pS HT_ 5 63 ?_
 refine tS HT_ HW_ 6 64 hHeld ?_
 refine tS HT_ HW_ 8 66 hHeld ?_
 refine pS HT_ 9 67 ?_
 refine tS HT_ HW_ 10 68 hHeld ?_
 refine oS HT_ 11 (some 7) (fun K hK=>?_)
 refine box_step (by rfl) (N:=7) ?hd (cs:=#[(.int .i64 0),(.bool false),(.int .u64 0)]) (t:=75) ?hr ?_;(case hd=>rfl);(case hr=>first|(go_simp;done)|(go_simp;rfl))
 intro gy hg wx hbox hb
 have BY:=A_ hbox;have GY:=A_ (show w.heap.size≤gy from by rw[hg];exact HK.out.1);have NY:=A_ (HO.out.fresh_ne hg);have GG:=A_ (Nat.le_trans HO.out.2.1.size (Nat.le_of_eq hg.symm));have m0:=A_ (HO.out.below hb);have m1:=A_ (HK.out.trans (KeepBut.of_below hb g none) (.inl rfl));have m4:=A_ (blk_below BX.out hb);have NXY:=A_ (show gx≠gy from by rw[hg];have:=blk_lt BX.out;omega)
 obtain⟨s0_,s1_,s2_,s3_,s4_,s5_⟩:=hHeld
 have hHeld2:=A_ (And.intro (cl_ hb s0_) (And.intro (cl_ hb s1_) (And.intro (cl_ hb s2_) (And.intro (cl_ hb s3_) (And.intro (cl_ hb s4_) (cl_ hb s5_))))))
 clear HO HK BX hbox hb hg s0_ s1_ s2_ s3_ s4_ s5_;have HO:=m0;have HK:=m1;have BX:=m4;clear m0 m1 m4
 obtain⟨z0,z1,z2⟩:=cp3_ BY.out;obtain⟨v0,v1,v2⟩:=fz3_ BY.out
 refine hK.out _ _ hHeld2.out (fun hHeld=>?_)
 clear hK K
 refine nS (some 7) ?_
 refine lS HT_ 12 (none) (fun K hK=>?_)
 obtain⟨vs,hvs⟩:∃ vs:List Value,vs=[.int .i64 (rd_T75 gs x.f1).f0,.bool (rd_T75 gs x.f1).f1,.int .u64 (rd_T75 gs x.f1).f2]:=⟨_,rfl⟩
 refine skip_ (w1:=sets wx gy 0 vs) (by rfl) rfl (by subst hvs;first|(go_simp;done)|(go_simp;rfl)) ?_
 clear hHeld hHeld2 z0 v0 z1 v1 z2 v2
 refine hK.out _ _ ?_
 clear hK K
 refine dS HT_ ?_
 replace BY:=A_ (sets_blk vs BY.out (by rw[hvs];rfl));replace HO:=A_ (HO.out.sets GG.out NY.out vs 0);replace HK:=A_ (keep_sets HK.out GY.out vs 0);replace BX:=A_ ((heap_sets vs wx 0 NXY.out).trans BX.out);generalize sets wx gy 0 vs=wy at*;subst hvs;obtain⟨x0,x1⟩:=cp2_ BX.out
 obtain⟨y0,y1,y2⟩:=cp3_ BY.out
 rw[HX.out] at y1
 go_wp2_with (first|(go_at_call 64;refine(take_any w0 _ g q _ c' (rd_T75 gs x.f1).f0 u A n1 _ n2 HO.out HR.out).mono ?_;rintro e w5 ⟨rfl,hO,hK⟩;replace HO:=A_ hO;clear HK hO hK))
 go_ret
 exact⟨rfl,_,_,_,_,HO.out⟩
def takeRev (l:List Int):CS S101→Nat→Option (CS S101)
 |c,0=>some c
 |c,n+1=>(takeC c (rd l (n:Int))).bind fun r=>takeRev l r.1 n
def impl_place.T30:Bool × List (List Nat × List Nat):=(true,[([],[]),([0],[0]),([1],[1]),([2],[2]),([3],[3]),([4],[4]),([5],[5]),([],[]),([7],[7]),([6,8],[6,8]),([9],[9]),([],[]),([11,10,0,1,2,3,4,5,6,7,8,9,10,11],[10,11])])
def impl_place.B30:List Nat:=[0,1,3,7,15,31,63,0,128,511,1023,0,4095]
theorem impl_place.tab30:rtab .any (opsOf Try.f63 30)=impl_place.T30:=by kernel_rfl
theorem impl_place.bits30:waitsOk impl_place.T30.2 impl_place.B30=true:=by kernel_rfl
theorem place_16_no (c c':CS S101) (A:Option Addr) (n1:Nat) (B:Option Addr) (n2:Nat) (h:Ck w0 w g q c A n1 B n2) (hm:MEnv w0 (q 0) fs gs mem) (hq:q 1=.pointer (some pf)) (hf:FEnv w0 pf f) (hop:x.f0=16) (hz:(fs.length:Int)≤x.f1) (hc:c'=c.fail 5):
  Calls Try.prog 63 #[.pointer (some ⟨g,0,none⟩),.agg #[.int .i64 x.f0,.int .i64 x.f1]] w fun e w'=>e=.returned (.bool true)∧CkE w0 w' g q c':=by
 have HO:=A_ h
 have HK:=A_ (KeepBut.refl w g none)
 have hu71:=Try.underlying103
 have HM:=A_ hm;have HQ:=A_ hq;have HF:=A_ hf
 clear h hm hq hf
 subst hc
 have b32:=ne_ hop 32
 have b33:=ne_ hop 33
 have b34:=ne_ hop 34
 have b35:=ne_ hop 35
 have b36:=ne_ hop 36
 have b16:=e1_ hop
 have d32:=nd_ hop 32
 have d33:=nd_ hop 33
 clear hop
 obtain⟨bm,AF,cF,AG,cG,e0_,m0_,m1_,m2_,rF,rG⟩:=HM.out
 go_enter Try.func63,Try.ntmps63
 go_upto_region 27 with (first|((with_reducible refine gd_ 3 rfl ?_);refine bx_ #[.int .i64 x.f0,.int .i64 x.f1] 103 ?_;intro gx hg wx hbox hb;have BX:=A_ hbox;have NX:=A_ (HO.out.fresh_ne hg);replace HO:=A_ (HO.out.below hb);replace HK:=A_ (HK.out.trans (KeepBut.of_below hb g none) (.inl rfl));clear hbox hb hg;obtain⟨x0,x1⟩:=cp2_ BX.out))
 have c0:=HO.out.cell0
 rw[e0_] at c0
 replace m0_:=cl_ HO.out.2.1 m0_
 have RF:=A_ rF
 clear m1_ m2_ rF rG
 have cb:=decide_eq_true hz
 go_quiet (fail)
 replace HO:=A_ (HO.out.drewN nq);replace HK:=A_ (keep_drewN HK.out nq);replace BX:=A_ (blk_drewN BX.out nq);clear x0 x1 c0 m0_;generalize wx.drewN nq=wq at*;obtain⟨x0,x1⟩:=cp2_ BX.out
 go_wp2_with (first|(go_at_call 67;refine(fail_any w0 _ g q _ 5 A n1 _ n2 HO.out).mono ?_;rintro e w5 ⟨rfl,hO,hK⟩;replace HO:=A_ hO;replace HK:=A_ (HK.out.trans hK (.inl rfl));replace BX:=A_ (KeepBut.blk hK BX.out NX.out.1 (by simp));clear x0 x1 hO hK;obtain⟨x0,x1⟩:=cp2_ BX.out))
 go_ret
 exact⟨rfl,_,_,_,_,HO.out⟩
theorem place_16 (c c':CS S101) (A:Option Addr) (n1:Nat) (B:Option Addr) (n2:Nat) (h:Ck w0 w g q c A n1 B n2) (hm:MEnv w0 (q 0) fs gs mem) (hq:q 1=.pointer (some pf)) (hf:FEnv w0 pf f) (hop:x.f0=16) (hz0:0≤x.f1) (hz:x.f1<(fs.length:Int)) (c1:CS S101) (ht:takeRev (rd_T88 fs x.f1).f0 c (rd_T88 fs x.f1).f0.length=some c1) (hr:c1.put (rd_T88 fs x.f1).f1=some c'):
  Calls Try.prog 63 #[.pointer (some ⟨g,0,none⟩),.agg #[.int .i64 x.f0,.int .i64 x.f1]] w fun e w'=>e=.returned (.bool true)∧CkE w0 w' g q c':=by
 have HO:=A_ h
 have HK:=A_ (KeepBut.refl w g none)
 have hu71:=Try.underlying103
 have HM:=A_ hm;have HQ:=A_ hq;have HF:=A_ hf
 clear h hm hq hf
 have HR:=A_ hr;have HT:=A_ ht
 clear hr ht
 have b32:=ne_ hop 32
 have b33:=ne_ hop 33
 have b34:=ne_ hop 34
 have b35:=ne_ hop 35
 have b36:=ne_ hop 36
 have b16:=e1_ hop
 have d32:=nd_ hop 32
 have d33:=nd_ hop 33
 clear hop
 obtain⟨bm,AF,cF,AG,cG,e0_,m0_,m1_,m2_,rF,rG⟩:=HM.out
 go_enter Try.func63,Try.ntmps63
 go_upto_region 27 with (first|((with_reducible refine gd_ 3 rfl ?_);refine bx_ #[.int .i64 x.f0,.int .i64 x.f1] 103 ?_;intro gx hg wx hbox hb;have BX:=A_ hbox;have NX:=A_ (HO.out.fresh_ne hg);replace HO:=A_ (HO.out.below hb);replace HK:=A_ (HK.out.trans (KeepBut.of_below hb g none) (.inl rfl));clear hbox hb hg;obtain⟨x0,x1⟩:=cp2_ BX.out))
 have c0:=HO.out.cell0
 rw[e0_] at c0
 replace m0_:=cl_ HO.out.2.1 m0_
 have RF:=A_ rF
 clear m1_ m2_ rF rG
 have cb:decide ((fs.length:Int)≤x.f1)=false:=decide_eq_false (by omega)
 obtain⟨ad,A0,d0,A2,d2,A3,d3,rfl,g0_,g1_,g2_,g3_,l0_,r0,_,_,_,_⟩:=at_T88 RF.out x.f1 hz0 (by omega)
 have R0:=A_ r0;have hmax:=Kd.C_max r0
 replace g0_:=cl_ HO.out.2.1 g0_
 replace g1_:=cl_ HO.out.2.1 g1_
 replace g2_:=cl_ HO.out.2.1 g2_
 replace g3_:=cl_ HO.out.2.1 g3_
 clear r0 l0_
 have q0:=eq_true hz0
 have q1:(x.f1<(fs.length:Int))=True:=eq_true (by omega)
 have hu59:=Try.underlying88
 go_quiet (fail)
 have m0:=A_ (HO.out.drewN nq);have m1:=A_ (keep_drewN HK.out nq);have m2:=A_ (blk_drewN BX.out nq)
 have k0:(wx.drewN nq).cell? ⟨bm,0,none⟩=some (.slice (some ad) fs.length cF):=m0_
 have k1:(wx.drewN nq).cell? (ad.add (x.f1.toNat*4))=some (.slice A0 (rd_T88 fs x.f1).f0.length d0):=g0_
 have k2:(wx.drewN nq).cell? ⟨(ad.add (x.f1.toNat*4)).block,(ad.add (x.f1.toNat*4)).off+1,none⟩=some (.int .i64 (rd_T88 fs x.f1).f1):=g1_
 have k3:(wx.drewN nq).cell? ⟨(ad.add (x.f1.toNat*4)).block,(ad.add (x.f1.toNat*4)).off+2,none⟩=some (.slice A2 (rd_T88 fs x.f1).f2.length d2):=g2_
 have k4:(wx.drewN nq).cell? ⟨(ad.add (x.f1.toNat*4)).block,(ad.add (x.f1.toNat*4)).off+3,none⟩=some (.slice A3 (rd_T88 fs x.f1).f3.length d3):=g3_
 clear HO HK BX x0 x1 c0 m0_ g0_ g1_ g2_ g3_
 generalize wx.drewN nq=wq at*
 have HO:=m0;have HK:=m1;have BX:=m2;have m0_:=k0;have g0_:=k1;have g1_:=k2;have g2_:=k3;have g3_:=k4;clear m0 m1 m2 k0 k1 k2 k3 k4;obtain⟨x0,x1⟩:=cp2_ BX.out
 have c0:=HO.out.cell0
 rw[e0_] at c0
 go_upto_region 30 with (fail)
 refine sS 13 (fun w'=>w'.cell? ⟨g,0,none⟩=some (.pointer (some ⟨bm,0,none⟩))∧w'.cell? ⟨bm,0,none⟩=some (.slice (some ad) fs.length cF)∧w'.cell? ⟨gx,1,none⟩=some (.int .i64 x.f1)∧w'.cell? (ad.add (x.f1.toNat*4))=some (.slice A0 (rd_T88 fs x.f1).f0.length d0)∧w'.cell? ⟨(ad.add (x.f1.toNat*4)).block,(ad.add (x.f1.toNat*4)).off+1,none⟩=some (.int .i64 (rd_T88 fs x.f1).f1)∧w'.cell? ⟨(ad.add (x.f1.toNat*4)).block,(ad.add (x.f1.toNat*4)).off+2,none⟩=some (.slice A2 (rd_T88 fs x.f1).f2.length d2)∧w'.cell? ⟨(ad.add (x.f1.toNat*4)).block,(ad.add (x.f1.toNat*4)).off+3,none⟩=some (.slice A3 (rd_T88 fs x.f1).f3.length d3)) [12] ⟨c0,m0_,x1,g0_,g1_,g2_,g3_⟩ impl_place.tab30 impl_place.bits30 (fun hHeld HT_ HW_=>?_)
 replace HO:=A_ HO.out.drew;replace HK:=A_ (keep_drew HK.out);replace BX:=A_ (blk_drew BX.out);clear c0 m0_ g0_ g1_ g2_ g3_ x0 x1;generalize wq.drew=wd at*
 refine pS HT_ 0 99 ?_
 refine pS HT_ 1 100 ?_
 refine pS HT_ 2 101 ?_
 refine pS HT_ 7 106 ?_
 refine tS HT_ HW_ 3 102 hHeld ?_
 refine pS HT_ 4 103 ?_
 refine pS HT_ 5 104 ?_
 refine tS HT_ HW_ 6 105 hHeld ?_
 refine tS HT_ HW_ 8 107 hHeld ?_
 refine pS HT_ 9 108 ?_
 refine tS HT_ HW_ 10 109 hHeld ?_
 refine oS HT_ 11 (some 8) (fun K hK=>?_)
 refine box_step (by rfl) (N:=8) ?hd (cs:=#[(.slice none 0 0),(.int .i64 0),(.slice none 0 0),(.slice none 0 0)]) (t:=88) ?hr ?_;(case hd=>rfl);(case hr=>first|(go_simp;done)|(go_simp;rfl))
 intro gy hg wx hbox hb
 have BY:=A_ hbox;have GY:=A_ (show w.heap.size≤gy from by rw[hg];exact HK.out.1);have NY:=A_ (HO.out.fresh_ne hg);have GG:=A_ (Nat.le_trans HO.out.2.1.size (Nat.le_of_eq hg.symm));have m0:=A_ (HO.out.below hb);have m1:=A_ (HK.out.trans (KeepBut.of_below hb g none) (.inl rfl));have m4:=A_ (blk_below BX.out hb);have NXY:=A_ (show gx≠gy from by rw[hg];have:=blk_lt BX.out;omega)
 obtain⟨s0_,s1_,s2_,s3_,s4_,s5_,s6_⟩:=hHeld
 have hHeld2:=A_ (And.intro (cl_ hb s0_) (And.intro (cl_ hb s1_) (And.intro (cl_ hb s2_) (And.intro (cl_ hb s3_) (And.intro (cl_ hb s4_) (And.intro (cl_ hb s5_) (cl_ hb s6_)))))))
 clear HO HK BX hbox hb hg s0_ s1_ s2_ s3_ s4_ s5_ s6_;have HO:=m0;have HK:=m1;have BX:=m4;clear m0 m1 m4
 obtain⟨z0,z1,z2,z3⟩:=cp4_ BY.out;obtain⟨v0,v1,v2,v3⟩:=fz4_ BY.out
 refine hK.out _ _ hHeld2.out (fun hHeld=>?_)
 clear hK K
 refine nS (some 8) ?_
 refine lS HT_ 12 (none) (fun K hK=>?_)
 obtain⟨vs,hvs⟩:∃ vs:List Value,vs=[.slice A0 (rd_T88 fs x.f1).f0.length d0,.int .i64 (rd_T88 fs x.f1).f1,.slice A2 (rd_T88 fs x.f1).f2.length d2,.slice A3 (rd_T88 fs x.f1).f3.length d3]:=⟨_,rfl⟩
 refine skip_ (w1:=sets wx gy 0 vs) (by rfl) rfl (by subst hvs;first|(go_simp;done)|(go_simp;rfl)) ?_
 clear hHeld hHeld2 z0 v0 z1 v1 z2 v2 z3 v3
 refine hK.out _ _ ?_
 clear hK K
 refine dS HT_ ?_
 replace BY:=A_ (sets_blk vs BY.out (by rw[hvs];rfl));replace HO:=A_ (HO.out.sets GG.out NY.out vs 0);replace HK:=A_ (keep_sets HK.out GY.out vs 0);replace BX:=A_ ((heap_sets vs wx 0 NXY.out).trans BX.out);generalize sets wx gy 0 vs=wy at*;subst hvs;obtain⟨x0,x1⟩:=cp2_ BX.out
 obtain⟨y0,y1,y2,y3⟩:=cp4_ BY.out
 clear x0 x1 BX
 have ew:IntKind.i64.wrap (((rd_T88 fs x.f1).f0.length:Int) - 1)=((rd_T88 fs x.f1).f0.length:Int) - 1:=ck_w _ (by omega)
 go_wp2
 go_loopg [9] (rd_T88 fs x.f1).f0.length (fun kq v9 w'=>∃ (kk:Nat) (c2:CS S101),kk=kq∧v9=.int .i64 ((kk:Int) - 1)∧Aside0 (takeRev (rd_T88 fs x.f1).f0 c2 kk=some c1)∧Aside0 (Ck w0 w' g q c2 A n1 B n2)∧Aside0 (w'.heap[gy]? =some (.cells #[(.slice A0 (rd_T88 fs x.f1).f0.length d0),(.int .i64 (rd_T88 fs x.f1).f1),(.slice A2 (rd_T88 fs x.f1).f2.length d2),(.slice A3 (rd_T88 fs x.f1).f3.length d3)] 88 (0,0)))∧Aside0 (kk≤(rd_T88 fs x.f1).f0.length))
 case atStart=>exact⟨_,c,rfl,rfl,HT,HO,BY,⟨Nat.le_refl _⟩⟩
 case round=>
  clear y0 y1 y2 y3 HO HK BY HT ew
  obtain⟨kk,c2,hkk,rfl,HT,HO,BY,HKQ⟩:=hrel
  obtain⟨y0,y1⟩:=cp2_ BY.out
  have HKK:=A_ hkk
  clear hkk
  rcases Nat.eq_zero_or_pos kk with hk0|hk0
  ·
   subst hk0
   have HT':=HT.out
   rw[takeRev] at HT'
   obtain rfl:=Option.some.inj HT'
   have HK:=A_ trivial
   have cbz:decide ((0:Int)≤((0:Nat):Int) - 1)=false:=rfl
   go_wp2_with (first|(go_at_call 65;refine(put_any (rd_T88 fs x.f1).f1 w0 _ g q _ c' A n1 _ n2 HO.out HR.out).mono ?_;rintro e w5 ⟨rfl,hE⟩;have HE:=A_ hE;clear hE))
   go_ret
   exact⟨rfl,HE.out⟩
  obtain⟨km,rfl⟩:∃ km,kk=km+1:=⟨kk - 1,by omega⟩
  have HT':=HT.out
  rw[takeRev] at HT'
  obtain⟨⟨c3,u⟩,hs,ht⟩:=Option.bind_eq_some_iff.1 HT'
  have HS:=A_ hs;have HTn:=A_ ht
  clear HT' hs ht HT
  have ek:((km+1:Nat):Int) - 1=(km:Int):=by omega
  rw[ek]
  have hkm:=HKQ.out
  obtain⟨ad2,eA,hx⟩:=Kd.at_int R0.out (km:Int) (by omega) (by omega)
  subst eA
  have gx_:=cl_ HO.out.2.1 hx
  rw[Int.toNat_natCast] at gx_
  have cbz:decide ((0:Int)≤(km:Int))=true:=decide_eq_true (by omega)
  have q5:((0:Int)≤(km:Int))=True:=eq_true (by omega)
  have q6:((km:Int)<((rd_T88 fs x.f1).f0.length:Int))=True:=eq_true (by omega)
  have ew:IntKind.i64.wrap ((km:Int) - 1)=(km:Int) - 1:=ck_w _ (by omega)
  clear hx ek hkm
  have HK:=A_ (KeepBut.refl wr g none)
  go_wp2_with (first|(go_at_call 64;refine(take_any w0 _ g q _ c3 (rd (rd_T88 fs x.f1).f0 (km:Int)) u A n1 _ n2 HO.out HS.out).mono ?_;rintro e w5 ⟨rfl,hO,hK⟩;replace HO:=A_ hO;replace BY:=A_ (KeepBut.blk hK BY.out NY.out.1 (by simp));clear y0 y1 gx_ hO hK))
  go_roundg km
  case measure=>have:=HKK.out;omega
  case rel=>exact⟨km,c3,rfl,by first|rfl|(rw[ew]),HTn,HO,BY,⟨by have:=HKQ.out;omega⟩⟩
theorem place_no (c:CS S101) (A:Option Addr) (n1:Nat) (B:Option Addr) (n2:Nat) (h:Ck w0 w g q c A n1 B n2) (hm:MEnv w0 (q 0) fs gs mem) (hq:q 1=.pointer (some pf)) (hf:FEnv w0 pf f) (hop:x.f0≠32∧x.f0≠33∧x.f0≠34∧x.f0≠35∧x.f0≠36∧x.f0≠16):
  Calls Try.prog 63 #[.pointer (some ⟨g,0,none⟩),.agg #[.int .i64 x.f0,.int .i64 x.f1]] w fun e w'=>e=.returned (.bool false)∧Ck w0 w' g q c A n1 B n2∧KeepBut w w' g none:=by
 have HO:=A_ h
 have HK:=A_ (KeepBut.refl w g none)
 have hu71:=Try.underlying103
 clear h hm hq hf
 obtain⟨h32,h33,h34,h35,h36,h16⟩:=hop
 have b32:=e0_ h32
 have b33:=e0_ h33
 have b34:=e0_ h34
 have b35:=e0_ h35
 have b36:=e0_ h36
 have b16:=e0_ h16
 clear h32 h33 h34 h35 h36 h16
 go_enter Try.func63,Try.ntmps63
 go_wp2_with (first|((with_reducible refine gd_ 3 rfl ?_);refine bx_ #[.int .i64 x.f0,.int .i64 x.f1] 103 ?_;intro gx hg wx hbox hb;have BX:=A_ hbox;have NX:=A_ (HO.out.fresh_ne hg);replace HO:=A_ (HO.out.below hb);replace HK:=A_ (HK.out.trans (KeepBut.of_below hb g none) (.inl rfl));clear hbox hb hg;obtain⟨x0,x1⟩:=cp2_ BX.out))
 go_ret
 exact⟨rfl,HO.out,HK.out⟩
def placeC (c:CS S101) (fs:List S88) (gs:List S75) (f:S88) (x:S103):Option (CS S101 × Bool):=
 if x.f0=32∨x.f0=33∨x.f0=34 then (localF f x.f1).bind fun r=>if r.2=false then some (c.fail 5,true) else
  (if x.f0=32 then c.put r.1 else if x.f0=33 then (takeC c r.1).bind fun s=>some s.1 else (takeC c r.1).bind fun s=>s.1.put r.1).bind fun c2=>some (c2,true)
 else if x.f0=35∨x.f0=36 then (if (gs.length:Int)≤x.f1 then some (c.fail 5,true) else if 0≤x.f1 then
  (if x.f0=35 then c.put (rd_T75 gs x.f1).f0 else (takeC (if (rd_T75 gs x.f1).f1=true then c.fail 7 else c) (rd_T75 gs x.f1).f0).bind fun s=>some s.1).bind fun c2=>some (c2,true) else none)
 else if x.f0=16 then (if (fs.length:Int)≤x.f1 then some (c.fail 5,true) else if 0≤x.f1 then
  (takeRev (rd_T88 fs x.f1).f0 c (rd_T88 fs x.f1).f0.length).bind fun c1=>(c1.put (rd_T88 fs x.f1).f1).bind fun c2=>some (c2,true) else none)
 else some (c,false)
set_option maxHeartbeats 1000000 in
theorem place_any (c c':CS S101) (r:Bool) (A:Option Addr) (n1:Nat) (B:Option Addr) (n2:Nat) (h:Ck w0 w g q c A n1 B n2) (hm:MEnv w0 (q 0) fs gs mem) (hq:q 1=.pointer (some pf)) (hf:FEnv w0 pf f) (hr:placeC c fs gs f x=some (c',r)):
  Calls Try.prog 63 #[.pointer (some ⟨g,0,none⟩),.agg #[.int .i64 x.f0,.int .i64 x.f1]] w fun e w'=>e=.returned (.bool r)∧(r=true→CkE w0 w' g q c')∧(r=false→c'=c∧Ck w0 w' g q c A n1 B n2∧KeepBut w w' g none):=by
 have yes:r=true→Calls Try.prog 63 #[.pointer (some ⟨g,0,none⟩),.agg #[.int .i64 x.f0,.int .i64 x.f1]] w (fun e w'=>e=.returned (.bool true)∧CkE w0 w' g q c')→Calls Try.prog 63 #[.pointer (some ⟨g,0,none⟩),.agg #[.int .i64 x.f0,.int .i64 x.f1]] w (fun e w'=>e=.returned (.bool r)∧(r=true→CkE w0 w' g q c')∧(r=false→c'=c∧Ck w0 w' g q c A n1 B n2∧KeepBut w w' g none)):=by
  intro e hc
  subst e
  exact hc.mono fun e w' hh=>⟨hh.1,fun _=>hh.2,(fun h=>by cases h)⟩
 unfold placeC at hr
 by_cases k3:x.f0=32∨x.f0=33∨x.f0=34
 ·
  rw[if_pos k3] at hr
  obtain⟨⟨t,ok⟩,hl,hr⟩:=Option.bind_eq_some_iff.1 hr
  cases ok with
  |false=>
   rw[if_pos rfl] at hr
   simp only[Option.some.injEq,Prod.mk.injEq] at hr
   obtain⟨e1,e⟩:=hr
   rcases k3 with k|k|k
   ·
    exact yes e.symm (place_32_no x f fs gs mem pf w0 w g q c c' A n1 B n2 h hm hq hf k t hl e1.symm)
   ·
    exact yes e.symm (place_33_no x f fs gs mem pf w0 w g q c c' A n1 B n2 h hm hq hf k t hl e1.symm)
   exact yes e.symm (place_34_no x f fs gs mem pf w0 w g q c c' A n1 B n2 h hm hq hf k t hl e1.symm)
  |true=>
   rw[if_neg (show ¬((t,true):Int × Bool).2=false from fun e=>by cases e)] at hr
   obtain⟨c2,h2,hr⟩:=Option.bind_eq_some_iff.1 hr
   simp only[Option.some.injEq,Prod.mk.injEq] at hr
   obtain⟨rfl,e⟩:=hr
   by_cases k38:x.f0=32
   ·
    rw[if_pos k38] at h2
    exact yes e.symm (place_32 x f fs gs mem pf w0 w g q c c2 A n1 B n2 h hm hq hf k38 t hl h2)
   rw[if_neg k38] at h2
   by_cases k50:x.f0=33
   ·
    rw[if_pos k50] at h2
    obtain⟨⟨c3,u⟩,hs,h2⟩:=Option.bind_eq_some_iff.1 h2
    obtain rfl:=Option.some.inj h2
    exact yes e.symm (place_33 x f fs gs mem pf w0 w g q c c3 A n1 B n2 h hm hq hf k50 t hl u hs)
   rw[if_neg k50] at h2
   obtain⟨⟨c3,u⟩,hs,h2⟩:=Option.bind_eq_some_iff.1 h2
   exact yes e.symm (place_34 x f fs gs mem pf w0 w g q c c2 A n1 B n2 h hm hq hf (by omega) t hl c3 u hs h2)
 rw[if_neg k3] at hr
 by_cases k5:x.f0=35∨x.f0=36
 ·
  rw[if_pos k5] at hr
  by_cases kz:(gs.length:Int)≤x.f1
  ·
   rw[if_pos kz] at hr
   simp only[Option.some.injEq,Prod.mk.injEq] at hr
   obtain⟨e1,e⟩:=hr
   rcases k5 with k|k
   ·
    exact yes e.symm (place_35_no x f fs gs mem pf w0 w g q c c' A n1 B n2 h hm hq hf k kz e1.symm)
   exact yes e.symm (place_36_no x f fs gs mem pf w0 w g q c c' A n1 B n2 h hm hq hf k kz e1.symm)
  rw[if_neg kz] at hr
  by_cases k0:0≤x.f1
  ·
   rw[if_pos k0] at hr
   obtain⟨c2,h2,hr⟩:=Option.bind_eq_some_iff.1 hr
   simp only[Option.some.injEq,Prod.mk.injEq] at hr
   obtain⟨rfl,e⟩:=hr
   by_cases k35:x.f0=35
   ·
    rw[if_pos k35] at h2
    exact yes e.symm (place_35 x f fs gs mem pf w0 w g q c c2 A n1 B n2 h hm hq hf k35 k0 (by omega) h2)
   rw[if_neg k35] at h2
   obtain⟨⟨c3,u⟩,hs,h2⟩:=Option.bind_eq_some_iff.1 h2
   obtain rfl:=Option.some.inj h2
   by_cases kx:(rd_T75 gs x.f1).f1=true
   ·
    rw[if_pos kx] at hs
    exact yes e.symm (place_36_f x f fs gs mem pf w0 w g q c c3 A n1 B n2 h hm hq hf (by omega) k0 (by omega) kx u hs)
   rw[if_neg kx] at hs
   exact yes e.symm (place_36 x f fs gs mem pf w0 w g q c c3 A n1 B n2 h hm hq hf (by omega) k0 (by omega) (by simpa using kx) u hs)
  rw[if_neg k0] at hr;cases hr
 rw[if_neg k5] at hr
 by_cases k16:x.f0=16
 ·
  rw[if_pos k16] at hr
  by_cases kz:(fs.length:Int)≤x.f1
  ·
   rw[if_pos kz] at hr
   simp only[Option.some.injEq,Prod.mk.injEq] at hr
   obtain⟨e1,e⟩:=hr
   exact yes e.symm (place_16_no x f fs gs mem pf w0 w g q c c' A n1 B n2 h hm hq hf k16 kz e1.symm)
  rw[if_neg kz] at hr
  by_cases k0:0≤x.f1
  ·
   rw[if_pos k0] at hr
   obtain⟨c1,h1,hr⟩:=Option.bind_eq_some_iff.1 hr
   obtain⟨c2,h2,hr⟩:=Option.bind_eq_some_iff.1 hr
   simp only[Option.some.injEq,Prod.mk.injEq] at hr
   obtain⟨rfl,e⟩:=hr
   exact yes e.symm (place_16 x f fs gs mem pf w0 w g q c c2 A n1 B n2 h hm hq hf k16 k0 (by omega) c1 h1 h2)
  rw[if_neg k0] at hr;cases hr
 rw[if_neg k16] at hr
 simp only[Option.some.injEq,Prod.mk.injEq] at hr
 obtain⟨rfl,rfl⟩:=hr
 exact(place_no x f fs gs mem pf w0 w g q c A n1 B n2 h hm hq hf ⟨fun e=>k3 (.inl e),fun e=>k3 (.inr (.inl e)),fun e=>k3 (.inr (.inr e)),fun e=>k5 (.inl e),fun e=>k5 (.inr e),k16⟩).mono fun e w' hh=>⟨hh.1,(fun h=>by cases h),fun _=>⟨rfl,hh.2⟩⟩
end

/-! ### impl_usesMemory: function 66 -/
def impl_usesMemory.f (k:Nat) (a0:Int):Option (Bool):=(impl_formOf.f k a0).bind fun t368=>(if t368=4 then (some true) else (if a0=63 then (some true) else (some (a0==64))))
theorem impl_usesMemory.mono:∀ a0 k,LeO (impl_usesMemory.f k a0) (impl_usesMemory.f (k+1) a0):=by
 intro a0 k
 unfold impl_usesMemory.f
 repeat' first
  |(with_reducible exact impl_formOf.mono _ _)
  |(with_reducible exact LeO.refl _)
  |(with_reducible exact LeO.none _)
  |(with_reducible refine LeO.ite ?_ ?_)
  |(with_reducible refine LeO.bind ?_ (fun _=>?_))
  |exact impl_formOf.mono _ _
  |exact LeO.none _
  |refine LeO.ite ?_ ?_
  |refine LeO.bind ?_ (fun _=>?_)
theorem impl_usesMemory.calls (k:Nat) (a0:Int) (r:Bool) (w:World) (h:impl_usesMemory.f k a0=some r):
  Calls Try.prog 66 #[.int .i64 a0] w fun e w'=>e=.returned (.bool r)∧Drawn0 w w':=by
 have H:((impl_formOf.f k a0).bind fun t368=>(if t368=4 then (some true) else (if a0=63 then (some true) else (some (a0==64)))))=some r:=h
 clear h
 replace H:=bA_ H
 obtain⟨t368,A2,H⟩:=H
 revert H
 refine iE_ (fun c3b0 c3b1 H=>?_) (fun c3 c3b0 c3b1 H=>?_)
 rotate_left
 revert H
 refine iE_ (fun c4b0 c4b1 H=>?_) (fun c4 c4b0 c4b1 H=>?_)
 all_goals
  obtain rfl:=Option.some.inj H
  clear H
  go_enter Try.func66,Try.ntmps66
  go_wp2_with (first|((with_reducible refine gc_ 89 rfl ?_);refine gn_ (some 4) Try.func89 (impl_formOf.calls k a0 t368 _ A2.out) ?_;intro nd))
  go_ret
  exact⟨rs_,dr_⟩
end Go.Proofs.Ytanhbfhmgmjdgaa.Q

