-- Written by a program of this session; it walks the functions that the law reaches.
import Derived.Test.YtanhbfhmgmjdgaaQx0
import Derived.Test.YtanhbfhmgmjdgaaQx1
import Derived.Test.YtanhbfhmgmjdgaaQx5
import Derived.Test.YtanhbfhmgmjdgaaQx6
namespace Go.Proofs.Ytanhbfhmgmjdgaa.Q
open Go.RowKit Go.Proofs.YtanhbfhmgmjdgaaW.PrintWords Go.Proofs.YtanhbfhmgmjdgaaW.PrintLast Go.Proofs.YtanhbfhmgmjdgaaW.PrintMore
attribute [local go_sem] max2_int min2_int max_two min_two max_three min_three max_four min_four   -- for this text's walks alone
set_option linter.unusedVariables false
set_option linter.unusedSimpArgs false
set_option maxRecDepth 100000
set_option maxHeartbeats 8000000


/-! ### spec_l7S_number: function 96 (walked by hand) -/
def numS (c:CS S131) (op:Int):Option (CS S131):=
 if 0≤op∧op≤1000 then
  if op > 160 then (takeS c 125).bind fun r=>(if op - 160=6 then some r.1 else (takeS r.1 125).bind fun s=>some s.1).bind fun c2=>c2.put (if op - 160 > 6 then 127 else 125)
  else (takeS c (if op > 128 then 126 else 127)).bind fun r=>(if (if op > 128 then op - 128 else op - 96)≤21 then (takeS r.1 (if op > 128 then 126 else 127)).bind fun s=>some s.1 else some r.1).bind fun c2=>
   c2.put (if (16≤(if op > 128 then op - 128 else op - 96)∧(if op > 128 then op - 128 else op - 96)≤21)∨(if op > 128 then op - 128 else op - 96)=25 then 127 else (if op > 128 then 126 else 127))
 else none
theorem snum_f (op:Int) (one:Bool) (out:Int) (w0 w:World) (g:Nat) (q:Nat→Value) (c c':CS S131) (A:Option Addr) (n1:Nat) (B:Option Addr) (n2:Nat) (h:Cs w0 w g q c A n1 B n2) (ho:160<op∧op≤1000) (hone:one=(op - 160==6)) (hout:out=if op - 160 > 6 then 127 else 125) (c1 c2:CS S131) (t u:Int) (h1:takeS c 125=some (c1,t)) (h2:if one=true then c2=c1 else takeS c1 125=some (c2,u)) (hr:c2.put out=some c'):
  Calls Try.prog 96 #[.pointer (some ⟨g,0,none⟩),.int .i64 op] w fun e w'=>e=.returned (.tuple #[])∧CsE w0 w' g q c':=by
 have HO:=A_ h
 have HK:=A_ (KeepBut.refl w g none)
 have HT:=A_ h1;have HR:=A_ hr
 have b0:decide ((160:Int)<op)=true:=decide_eq_true ho.1
 have e1:IntKind.i64.wrap (op - 160)=op - 160:=ck_w _ (by omega)
 clear h hr h1
 obtain⟨kk,hkk⟩:∃ kk,op - 160=kk:=⟨_,rfl⟩
 rw[hkk] at hone hout e1
 clear ho
 have HKV:=A_ hkk
 cases one with
 |true=>
  rw[if_pos rfl] at h2
  subst h2
  have k6:kk=6:=by simpa using hone.symm
  subst k6
  obtain rfl:out=125:=by rw[hout];rfl
  clear hone hout HKV
  go_enter Try.func96,Try.ntmps96
  go_wp2_with (first|(go_at_call 74;refine(stake_any 125 t w0 _ g q _ c2 A n1 _ n2 HO.out HT.out).mono ?_;rintro e w5 ⟨rfl,hO,hK⟩;replace HO:=A_ hO;replace HK:=A_ (HK.out.trans hK (.inl rfl));clear hO hK)|(go_at_call 75;refine(sput_any 125 w0 _ g q _ c' A n1 _ n2 HO.out HR.out).mono ?_;rintro e w5 ⟨rfl,hE⟩;have HE:=A_ hE;clear hE))
  first|go_end0|((try simp only[Exit.inBlock,Exit.then]);refine rt_ ?_)
  exact⟨rfl,HE.out⟩
 |false=>
  rw[if_neg (fun e=>by cases e)] at h2
  have HU:=A_ h2
  have k6:(kk !=6)=true:=by rw[bne,←hone];rfl
  clear h2 hone
  by_cases k7:kk > 6
  ·
   rw[if_pos k7] at hout
   subst hout
   have b7:=decide_eq_true k7
   clear k7 HKV
   go_enter Try.func96,Try.ntmps96
   go_upto_region 3 with (first|(go_at_call 74;refine(stake_any 125 t w0 _ g q _ c1 A n1 _ n2 HO.out HT.out).mono ?_;rintro e w5 ⟨rfl,hO,hK⟩;replace HO:=A_ hO;replace HK:=A_ (HK.out.trans hK (.inl rfl));clear hO hK))
   go_wp2_with (first|(go_at_call 74;refine(stake_any 125 u w0 _ g q _ c2 A n1 _ n2 HO.out HU.out).mono ?_;rintro e w5 ⟨rfl,hO,hK⟩;replace HO:=A_ hO;replace HK:=A_ (HK.out.trans hK (.inl rfl));clear hO hK)|(go_at_call 75;refine(sput_any 127 w0 _ g q _ c' A n1 _ n2 HO.out HR.out).mono ?_;rintro e w5 ⟨rfl,hE⟩;have HE:=A_ hE;clear hE))
   first|go_end0|((try simp only[Exit.inBlock,Exit.then]);refine rt_ ?_)
   exact⟨rfl,HE.out⟩
  rw[if_neg k7] at hout
  subst hout
  have b7:=decide_eq_false k7
  clear k7 HKV
  go_enter Try.func96,Try.ntmps96
  go_upto_region 3 with (first|(go_at_call 74;refine(stake_any 125 t w0 _ g q _ c1 A n1 _ n2 HO.out HT.out).mono ?_;rintro e w5 ⟨rfl,hO,hK⟩;replace HO:=A_ hO;replace HK:=A_ (HK.out.trans hK (.inl rfl));clear hO hK))
  go_wp2_with (first|(go_at_call 74;refine(stake_any 125 u w0 _ g q _ c2 A n1 _ n2 HO.out HU.out).mono ?_;rintro e w5 ⟨rfl,hO,hK⟩;replace HO:=A_ hO;replace HK:=A_ (HK.out.trans hK (.inl rfl));clear hO hK)|(go_at_call 75;refine(sput_any 125 w0 _ g q _ c' A n1 _ n2 HO.out HR.out).mono ?_;rintro e w5 ⟨rfl,hE⟩;have HE:=A_ hE;clear hE))
  first|go_end0|((try simp only[Exit.inBlock,Exit.then]);refine rt_ ?_)
  exact⟨rfl,HE.out⟩
section
variable (op kk:Int) (w0 w:World) (g:Nat) (q:Nat→Value) (c c':CS S131) (A:Option Addr) (n1:Nat) (B:Option Addr) (n2:Nat)
theorem snum_b_lo (h:Cs w0 w g q c A n1 B n2) (ho:128<op∧op≤160) (hkk:op - 128=kk) (hc:kk<16) (c1 c2:CS S131) (t u:Int) (h1:takeS c 126=some (c1,t)) (h2:takeS c1 126=some (c2,u)) (hr:CS.put c2 126=some c'):
  Calls Try.prog 96 #[.pointer (some ⟨g,0,none⟩),.int .i64 op] w fun e w'=>e=.returned (.tuple #[])∧CsE w0 w' g q c':=by
 have HO:=A_ h
 have HK:=A_ (KeepBut.refl w g none)
 have HT:=A_ h1;have HR:=A_ hr
 have HU:=A_ h2
 clear h2
 have b0:decide ((160:Int)<op)=false:=decide_eq_false (by omega)
 have b1:decide ((128:Int)<op)=true:=decide_eq_true (by omega)
 have e96:IntKind.i64.wrap (op - 96)=op - 96:=ck_w _ (by omega)
 have e128:IntKind.i64.wrap (op - 128)=op - 128:=ck_w _ (by omega)
 have HIN:Aside0 (spec_l1In.f kk 16 21=some false):=⟨by unfold spec_l1In.f;first|(rw[if_pos (by omega)];simp;omega)|(rw[if_neg (by omega)];simp;omega)|(rw[if_pos (by omega)])|(rw[if_neg (by omega)])⟩
 have b21:decide (kk≤21)=true:=decide_eq_true (by omega)
 have b25:(kk==25)=false:=beq_eq_false_iff_ne.2 (by omega)
 have ek:IntKind.i64.wrap kk=kk:=ck_w _ (by omega)
 have ek2:wrap64 kk=kk:=by unfold wrap64;omega
 have HKK:=A_ hkk
 clear h hr h1 ho hc
 go_enter Try.func96,Try.ntmps96
 go_upto_region 14 with (first|(go_at_call 74;refine(stake_any 126 t w0 _ g q _ c1 A n1 _ n2 HO.out HT.out).mono ?_;rintro e w5 ⟨rfl,hO,hK⟩;replace HO:=A_ hO;replace HK:=A_ (HK.out.trans hK (.inl rfl));clear hO hK))
 go_upto_region 16 with (first|(go_at_call 74;refine(stake_any 126 u w0 _ g q _ c2 A n1 _ n2 HO.out HU.out).mono ?_;rintro e w5 ⟨rfl,hO,hK⟩;replace HO:=A_ hO;replace HK:=A_ (HK.out.trans hK (.inl rfl));clear hO hK))
 go_wp2_with (first|(go_at_call 24;refine(spec_l1In.calls kk 16 21 false _ HIN.out).mono ?_;rintro e w6 ⟨rfl,hd⟩;obtain⟨nd,hnd⟩:=hd;replace HO:=A_ (show Cs w0 w6 g q _ A n1 _ n2 from by rw[hnd];exact HO.out.drewN nd);clear hnd;have HK:=A_ (KeepBut.refl w6 g none))|(go_at_call 75;refine(sput_any 126 w0 _ g q _ c' A n1 _ n2 HO.out HR.out).mono ?_;rintro e w5 ⟨rfl,hE⟩;have HE:=A_ hE;clear hE))
 first|go_end0|((try simp only[Exit.inBlock,Exit.then]);refine rt_ ?_)
 exact⟨rfl,HE.out⟩
theorem snum_b_mid (h:Cs w0 w g q c A n1 B n2) (ho:128<op∧op≤160) (hkk:op - 128=kk) (hc:16≤kk∧kk≤21) (c1 c2:CS S131) (t u:Int) (h1:takeS c 126=some (c1,t)) (h2:takeS c1 126=some (c2,u)) (hr:CS.put c2 127=some c'):
  Calls Try.prog 96 #[.pointer (some ⟨g,0,none⟩),.int .i64 op] w fun e w'=>e=.returned (.tuple #[])∧CsE w0 w' g q c':=by
 have HO:=A_ h
 have HK:=A_ (KeepBut.refl w g none)
 have HT:=A_ h1;have HR:=A_ hr
 have HU:=A_ h2
 clear h2
 have b0:decide ((160:Int)<op)=false:=decide_eq_false (by omega)
 have b1:decide ((128:Int)<op)=true:=decide_eq_true (by omega)
 have e96:IntKind.i64.wrap (op - 96)=op - 96:=ck_w _ (by omega)
 have e128:IntKind.i64.wrap (op - 128)=op - 128:=ck_w _ (by omega)
 have HIN:Aside0 (spec_l1In.f kk 16 21=some true):=⟨by unfold spec_l1In.f;first|(rw[if_pos (by omega)];simp;omega)|(rw[if_neg (by omega)];simp;omega)|(rw[if_pos (by omega)])|(rw[if_neg (by omega)])⟩
 have b21:decide (kk≤21)=true:=decide_eq_true (by omega)
 have ek:IntKind.i64.wrap kk=kk:=ck_w _ (by omega)
 have ek2:wrap64 kk=kk:=by unfold wrap64;omega
 have HKK:=A_ hkk
 clear h hr h1 ho hc
 go_enter Try.func96,Try.ntmps96
 go_upto_region 14 with (first|(go_at_call 74;refine(stake_any 126 t w0 _ g q _ c1 A n1 _ n2 HO.out HT.out).mono ?_;rintro e w5 ⟨rfl,hO,hK⟩;replace HO:=A_ hO;replace HK:=A_ (HK.out.trans hK (.inl rfl));clear hO hK))
 go_upto_region 16 with (first|(go_at_call 74;refine(stake_any 126 u w0 _ g q _ c2 A n1 _ n2 HO.out HU.out).mono ?_;rintro e w5 ⟨rfl,hO,hK⟩;replace HO:=A_ hO;replace HK:=A_ (HK.out.trans hK (.inl rfl));clear hO hK))
 go_wp2_with (first|(go_at_call 24;refine(spec_l1In.calls kk 16 21 true _ HIN.out).mono ?_;rintro e w6 ⟨rfl,hd⟩;obtain⟨nd,hnd⟩:=hd;replace HO:=A_ (show Cs w0 w6 g q _ A n1 _ n2 from by rw[hnd];exact HO.out.drewN nd);clear hnd;have HK:=A_ (KeepBut.refl w6 g none))|(go_at_call 75;refine(sput_any 127 w0 _ g q _ c' A n1 _ n2 HO.out HR.out).mono ?_;rintro e w5 ⟨rfl,hE⟩;have HE:=A_ hE;clear hE))
 first|go_end0|((try simp only[Exit.inBlock,Exit.then]);refine rt_ ?_)
 exact⟨rfl,HE.out⟩
theorem snum_b_25 (h:Cs w0 w g q c A n1 B n2) (ho:128<op∧op≤160) (hkk:op - 128=kk) (hc:kk=25) (c1:CS S131) (t u:Int) (h1:takeS c 126=some (c1,t)) (hr:CS.put c1 127=some c'):
  Calls Try.prog 96 #[.pointer (some ⟨g,0,none⟩),.int .i64 op] w fun e w'=>e=.returned (.tuple #[])∧CsE w0 w' g q c':=by
 have HO:=A_ h
 have HK:=A_ (KeepBut.refl w g none)
 have HT:=A_ h1;have HR:=A_ hr
 have b0:decide ((160:Int)<op)=false:=decide_eq_false (by omega)
 have b1:decide ((128:Int)<op)=true:=decide_eq_true (by omega)
 have e96:IntKind.i64.wrap (op - 96)=op - 96:=ck_w _ (by omega)
 have e128:IntKind.i64.wrap (op - 128)=op - 128:=ck_w _ (by omega)
 have HIN:Aside0 (spec_l1In.f kk 16 21=some false):=⟨by unfold spec_l1In.f;first|(rw[if_pos (by omega)];simp;omega)|(rw[if_neg (by omega)];simp;omega)|(rw[if_pos (by omega)])|(rw[if_neg (by omega)])⟩
 have b21:decide (kk≤21)=false:=decide_eq_false (by omega)
 have b25:(kk==25)=true:=beq_iff_eq.2 (by omega)
 have ek:IntKind.i64.wrap kk=kk:=ck_w _ (by omega)
 have ek2:wrap64 kk=kk:=by unfold wrap64;omega
 have HKK:=A_ hkk
 clear h hr h1 ho hc
 go_enter Try.func96,Try.ntmps96
 go_upto_region 14 with (first|(go_at_call 74;refine(stake_any 126 t w0 _ g q _ c1 A n1 _ n2 HO.out HT.out).mono ?_;rintro e w5 ⟨rfl,hO,hK⟩;replace HO:=A_ hO;replace HK:=A_ (HK.out.trans hK (.inl rfl));clear hO hK))
 go_upto_region 16 with (fail)
 go_wp2_with (first|(go_at_call 24;refine(spec_l1In.calls kk 16 21 false _ HIN.out).mono ?_;rintro e w6 ⟨rfl,hd⟩;obtain⟨nd,hnd⟩:=hd;replace HO:=A_ (show Cs w0 w6 g q _ A n1 _ n2 from by rw[hnd];exact HO.out.drewN nd);clear hnd;have HK:=A_ (KeepBut.refl w6 g none))|(go_at_call 75;refine(sput_any 127 w0 _ g q _ c' A n1 _ n2 HO.out HR.out).mono ?_;rintro e w5 ⟨rfl,hE⟩;have HE:=A_ hE;clear hE))
 first|go_end0|((try simp only[Exit.inBlock,Exit.then]);refine rt_ ?_)
 exact⟨rfl,HE.out⟩
theorem snum_b_no (h:Cs w0 w g q c A n1 B n2) (ho:128<op∧op≤160) (hkk:op - 128=kk) (hc:21<kk∧kk≠25) (c1:CS S131) (t u:Int) (h1:takeS c 126=some (c1,t)) (hr:CS.put c1 126=some c'):
  Calls Try.prog 96 #[.pointer (some ⟨g,0,none⟩),.int .i64 op] w fun e w'=>e=.returned (.tuple #[])∧CsE w0 w' g q c':=by
 have HO:=A_ h
 have HK:=A_ (KeepBut.refl w g none)
 have HT:=A_ h1;have HR:=A_ hr
 have b0:decide ((160:Int)<op)=false:=decide_eq_false (by omega)
 have b1:decide ((128:Int)<op)=true:=decide_eq_true (by omega)
 have e96:IntKind.i64.wrap (op - 96)=op - 96:=ck_w _ (by omega)
 have e128:IntKind.i64.wrap (op - 128)=op - 128:=ck_w _ (by omega)
 have HIN:Aside0 (spec_l1In.f kk 16 21=some false):=⟨by unfold spec_l1In.f;first|(rw[if_pos (by omega)];simp;omega)|(rw[if_neg (by omega)];simp;omega)|(rw[if_pos (by omega)])|(rw[if_neg (by omega)])⟩
 have b21:decide (kk≤21)=false:=decide_eq_false (by omega)
 have b25:(kk==25)=false:=beq_eq_false_iff_ne.2 (by omega)
 have ek:IntKind.i64.wrap kk=kk:=ck_w _ (by omega)
 have ek2:wrap64 kk=kk:=by unfold wrap64;omega
 have HKK:=A_ hkk
 clear h hr h1 ho hc
 go_enter Try.func96,Try.ntmps96
 go_upto_region 14 with (first|(go_at_call 74;refine(stake_any 126 t w0 _ g q _ c1 A n1 _ n2 HO.out HT.out).mono ?_;rintro e w5 ⟨rfl,hO,hK⟩;replace HO:=A_ hO;replace HK:=A_ (HK.out.trans hK (.inl rfl));clear hO hK))
 go_upto_region 16 with (fail)
 go_wp2_with (first|(go_at_call 24;refine(spec_l1In.calls kk 16 21 false _ HIN.out).mono ?_;rintro e w6 ⟨rfl,hd⟩;obtain⟨nd,hnd⟩:=hd;replace HO:=A_ (show Cs w0 w6 g q _ A n1 _ n2 from by rw[hnd];exact HO.out.drewN nd);clear hnd;have HK:=A_ (KeepBut.refl w6 g none))|(go_at_call 75;refine(sput_any 126 w0 _ g q _ c' A n1 _ n2 HO.out HR.out).mono ?_;rintro e w5 ⟨rfl,hE⟩;have HE:=A_ hE;clear hE))
 first|go_end0|((try simp only[Exit.inBlock,Exit.then]);refine rt_ ?_)
 exact⟨rfl,HE.out⟩
theorem snum_s_lo (h:Cs w0 w g q c A n1 B n2) (ho:0≤op∧op≤128) (hkk:op - 96=kk) (hc:kk<16) (c1 c2:CS S131) (t u:Int) (h1:takeS c 127=some (c1,t)) (h2:takeS c1 127=some (c2,u)) (hr:CS.put c2 127=some c'):
  Calls Try.prog 96 #[.pointer (some ⟨g,0,none⟩),.int .i64 op] w fun e w'=>e=.returned (.tuple #[])∧CsE w0 w' g q c':=by
 have HO:=A_ h
 have HK:=A_ (KeepBut.refl w g none)
 have HT:=A_ h1;have HR:=A_ hr
 have HU:=A_ h2
 clear h2
 have b0:decide ((160:Int)<op)=false:=decide_eq_false (by omega)
 have b1:decide ((128:Int)<op)=false:=decide_eq_false (by omega)
 have e96:IntKind.i64.wrap (op - 96)=op - 96:=ck_w _ (by omega)
 have HIN:Aside0 (spec_l1In.f kk 16 21=some false):=⟨by unfold spec_l1In.f;first|(rw[if_pos (by omega)];simp;omega)|(rw[if_neg (by omega)];simp;omega)|(rw[if_pos (by omega)])|(rw[if_neg (by omega)])⟩
 have b21:decide (kk≤21)=true:=decide_eq_true (by omega)
 have b25:(kk==25)=false:=beq_eq_false_iff_ne.2 (by omega)
 have ek:IntKind.i64.wrap kk=kk:=ck_w _ (by omega)
 have ek2:wrap64 kk=kk:=by unfold wrap64;omega
 have HKK:=A_ hkk
 clear h hr h1 ho hc
 go_enter Try.func96,Try.ntmps96
 go_upto_region 14 with (first|(go_at_call 74;refine(stake_any 127 t w0 _ g q _ c1 A n1 _ n2 HO.out HT.out).mono ?_;rintro e w5 ⟨rfl,hO,hK⟩;replace HO:=A_ hO;replace HK:=A_ (HK.out.trans hK (.inl rfl));clear hO hK))
 go_upto_region 16 with (first|(go_at_call 74;refine(stake_any 127 u w0 _ g q _ c2 A n1 _ n2 HO.out HU.out).mono ?_;rintro e w5 ⟨rfl,hO,hK⟩;replace HO:=A_ hO;replace HK:=A_ (HK.out.trans hK (.inl rfl));clear hO hK))
 go_wp2_with (first|(go_at_call 24;refine(spec_l1In.calls kk 16 21 false _ HIN.out).mono ?_;rintro e w6 ⟨rfl,hd⟩;obtain⟨nd,hnd⟩:=hd;replace HO:=A_ (show Cs w0 w6 g q _ A n1 _ n2 from by rw[hnd];exact HO.out.drewN nd);clear hnd;have HK:=A_ (KeepBut.refl w6 g none))|(go_at_call 75;refine(sput_any 127 w0 _ g q _ c' A n1 _ n2 HO.out HR.out).mono ?_;rintro e w5 ⟨rfl,hE⟩;have HE:=A_ hE;clear hE))
 first|go_end0|((try simp only[Exit.inBlock,Exit.then]);refine rt_ ?_)
 exact⟨rfl,HE.out⟩
theorem snum_s_mid (h:Cs w0 w g q c A n1 B n2) (ho:0≤op∧op≤128) (hkk:op - 96=kk) (hc:16≤kk∧kk≤21) (c1 c2:CS S131) (t u:Int) (h1:takeS c 127=some (c1,t)) (h2:takeS c1 127=some (c2,u)) (hr:CS.put c2 127=some c'):
  Calls Try.prog 96 #[.pointer (some ⟨g,0,none⟩),.int .i64 op] w fun e w'=>e=.returned (.tuple #[])∧CsE w0 w' g q c':=by
 have HO:=A_ h
 have HK:=A_ (KeepBut.refl w g none)
 have HT:=A_ h1;have HR:=A_ hr
 have HU:=A_ h2
 clear h2
 have b0:decide ((160:Int)<op)=false:=decide_eq_false (by omega)
 have b1:decide ((128:Int)<op)=false:=decide_eq_false (by omega)
 have e96:IntKind.i64.wrap (op - 96)=op - 96:=ck_w _ (by omega)
 have HIN:Aside0 (spec_l1In.f kk 16 21=some true):=⟨by unfold spec_l1In.f;first|(rw[if_pos (by omega)];simp;omega)|(rw[if_neg (by omega)];simp;omega)|(rw[if_pos (by omega)])|(rw[if_neg (by omega)])⟩
 have b21:decide (kk≤21)=true:=decide_eq_true (by omega)
 have ek:IntKind.i64.wrap kk=kk:=ck_w _ (by omega)
 have ek2:wrap64 kk=kk:=by unfold wrap64;omega
 have HKK:=A_ hkk
 clear h hr h1 ho hc
 go_enter Try.func96,Try.ntmps96
 go_upto_region 14 with (first|(go_at_call 74;refine(stake_any 127 t w0 _ g q _ c1 A n1 _ n2 HO.out HT.out).mono ?_;rintro e w5 ⟨rfl,hO,hK⟩;replace HO:=A_ hO;replace HK:=A_ (HK.out.trans hK (.inl rfl));clear hO hK))
 go_upto_region 16 with (first|(go_at_call 74;refine(stake_any 127 u w0 _ g q _ c2 A n1 _ n2 HO.out HU.out).mono ?_;rintro e w5 ⟨rfl,hO,hK⟩;replace HO:=A_ hO;replace HK:=A_ (HK.out.trans hK (.inl rfl));clear hO hK))
 go_wp2_with (first|(go_at_call 24;refine(spec_l1In.calls kk 16 21 true _ HIN.out).mono ?_;rintro e w6 ⟨rfl,hd⟩;obtain⟨nd,hnd⟩:=hd;replace HO:=A_ (show Cs w0 w6 g q _ A n1 _ n2 from by rw[hnd];exact HO.out.drewN nd);clear hnd;have HK:=A_ (KeepBut.refl w6 g none))|(go_at_call 75;refine(sput_any 127 w0 _ g q _ c' A n1 _ n2 HO.out HR.out).mono ?_;rintro e w5 ⟨rfl,hE⟩;have HE:=A_ hE;clear hE))
 first|go_end0|((try simp only[Exit.inBlock,Exit.then]);refine rt_ ?_)
 exact⟨rfl,HE.out⟩
theorem snum_s_25 (h:Cs w0 w g q c A n1 B n2) (ho:0≤op∧op≤128) (hkk:op - 96=kk) (hc:kk=25) (c1:CS S131) (t u:Int) (h1:takeS c 127=some (c1,t)) (hr:CS.put c1 127=some c'):
  Calls Try.prog 96 #[.pointer (some ⟨g,0,none⟩),.int .i64 op] w fun e w'=>e=.returned (.tuple #[])∧CsE w0 w' g q c':=by
 have HO:=A_ h
 have HK:=A_ (KeepBut.refl w g none)
 have HT:=A_ h1;have HR:=A_ hr
 have b0:decide ((160:Int)<op)=false:=decide_eq_false (by omega)
 have b1:decide ((128:Int)<op)=false:=decide_eq_false (by omega)
 have e96:IntKind.i64.wrap (op - 96)=op - 96:=ck_w _ (by omega)
 have HIN:Aside0 (spec_l1In.f kk 16 21=some false):=⟨by unfold spec_l1In.f;first|(rw[if_pos (by omega)];simp;omega)|(rw[if_neg (by omega)];simp;omega)|(rw[if_pos (by omega)])|(rw[if_neg (by omega)])⟩
 have b21:decide (kk≤21)=false:=decide_eq_false (by omega)
 have b25:(kk==25)=true:=beq_iff_eq.2 (by omega)
 have ek:IntKind.i64.wrap kk=kk:=ck_w _ (by omega)
 have ek2:wrap64 kk=kk:=by unfold wrap64;omega
 have HKK:=A_ hkk
 clear h hr h1 ho hc
 go_enter Try.func96,Try.ntmps96
 go_upto_region 14 with (first|(go_at_call 74;refine(stake_any 127 t w0 _ g q _ c1 A n1 _ n2 HO.out HT.out).mono ?_;rintro e w5 ⟨rfl,hO,hK⟩;replace HO:=A_ hO;replace HK:=A_ (HK.out.trans hK (.inl rfl));clear hO hK))
 go_upto_region 16 with (fail)
 go_wp2_with (first|(go_at_call 24;refine(spec_l1In.calls kk 16 21 false _ HIN.out).mono ?_;rintro e w6 ⟨rfl,hd⟩;obtain⟨nd,hnd⟩:=hd;replace HO:=A_ (show Cs w0 w6 g q _ A n1 _ n2 from by rw[hnd];exact HO.out.drewN nd);clear hnd;have HK:=A_ (KeepBut.refl w6 g none))|(go_at_call 75;refine(sput_any 127 w0 _ g q _ c' A n1 _ n2 HO.out HR.out).mono ?_;rintro e w5 ⟨rfl,hE⟩;have HE:=A_ hE;clear hE))
 first|go_end0|((try simp only[Exit.inBlock,Exit.then]);refine rt_ ?_)
 exact⟨rfl,HE.out⟩
theorem snum_s_no (h:Cs w0 w g q c A n1 B n2) (ho:0≤op∧op≤128) (hkk:op - 96=kk) (hc:21<kk∧kk≠25) (c1:CS S131) (t u:Int) (h1:takeS c 127=some (c1,t)) (hr:CS.put c1 127=some c'):
  Calls Try.prog 96 #[.pointer (some ⟨g,0,none⟩),.int .i64 op] w fun e w'=>e=.returned (.tuple #[])∧CsE w0 w' g q c':=by
 have HO:=A_ h
 have HK:=A_ (KeepBut.refl w g none)
 have HT:=A_ h1;have HR:=A_ hr
 have b0:decide ((160:Int)<op)=false:=decide_eq_false (by omega)
 have b1:decide ((128:Int)<op)=false:=decide_eq_false (by omega)
 have e96:IntKind.i64.wrap (op - 96)=op - 96:=ck_w _ (by omega)
 have HIN:Aside0 (spec_l1In.f kk 16 21=some false):=⟨by unfold spec_l1In.f;first|(rw[if_pos (by omega)];simp;omega)|(rw[if_neg (by omega)];simp;omega)|(rw[if_pos (by omega)])|(rw[if_neg (by omega)])⟩
 have b21:decide (kk≤21)=false:=decide_eq_false (by omega)
 have b25:(kk==25)=false:=beq_eq_false_iff_ne.2 (by omega)
 have ek:IntKind.i64.wrap kk=kk:=ck_w _ (by omega)
 have ek2:wrap64 kk=kk:=by unfold wrap64;omega
 have HKK:=A_ hkk
 clear h hr h1 ho hc
 go_enter Try.func96,Try.ntmps96
 go_upto_region 14 with (first|(go_at_call 74;refine(stake_any 127 t w0 _ g q _ c1 A n1 _ n2 HO.out HT.out).mono ?_;rintro e w5 ⟨rfl,hO,hK⟩;replace HO:=A_ hO;replace HK:=A_ (HK.out.trans hK (.inl rfl));clear hO hK))
 go_upto_region 16 with (fail)
 go_wp2_with (first|(go_at_call 24;refine(spec_l1In.calls kk 16 21 false _ HIN.out).mono ?_;rintro e w6 ⟨rfl,hd⟩;obtain⟨nd,hnd⟩:=hd;replace HO:=A_ (show Cs w0 w6 g q _ A n1 _ n2 from by rw[hnd];exact HO.out.drewN nd);clear hnd;have HK:=A_ (KeepBut.refl w6 g none))|(go_at_call 75;refine(sput_any 127 w0 _ g q _ c' A n1 _ n2 HO.out HR.out).mono ?_;rintro e w5 ⟨rfl,hE⟩;have HE:=A_ hE;clear hE))
 first|go_end0|((try simp only[Exit.inBlock,Exit.then]);refine rt_ ?_)
 exact⟨rfl,HE.out⟩
end
end Go.Proofs.Ytanhbfhmgmjdgaa.Q

