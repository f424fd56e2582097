/- What is drawn for code: numbers with a sign, and floats of 32 bits; each draw ends. -/
import Derived.Test.YtmajifnehjlncaaCurW
import Derived.Test.YtmajifnehjlncaaQx1
import Derived.Test.YtmajifnehjlncaaQx2
namespace Go.Proofs.Ytmajifnehjlncaa.Cur
open Go.RowKit Go.Proofs.Ytmajifnehjlncaa.Q Go.Proofs.YtmajifnehjlncaaW.PrintWords Go.Proofs.YtmajifnehjlncaaW.PrintLast Go.Proofs.YtmajifnehjlncaaW.PrintMore Go.Proofs.Ytmajifnehjlncaa.Mb
set_option linter.unusedSimpArgs false
set_option linter.unusedVariables false
theorem signed_ok {l:List Int} (hl:U8 l) {a:Int} (h0:0≤a) (h1:a≤4611686018427380000) (s:Int) {k:Nat} (hk:9≤k):∃ r a' s',spec_l1Cur_signed.f k l a s=some (r,a',s')∧-9223372036854775808≤r∧r≤9223372036854775807∧a≤a'∧a'≤a+14:=by
  unfold spec_l1Cur_signed.f
  obtain⟨r,a1,s1,e1,hr0,hr1,ha1,hb1⟩:=word_ok hl h0 (by omega) s hk
  rw[e1]
  simp only[Option.bind_some]
  obtain⟨b,a2,s2,e2,ha2,hb2⟩:=one_ok hl (a:=a1) (by omega) (by omega) s1 2 (by omega) (by omega)
  rw[e2]
  simp only[Option.bind_some]
  have hw1:=wrap64_range (-(wrap64 r))
  have hw2:=wrap64_range r
  by_cases hb:b=true
  · rw[if_pos hb]
    exact⟨_,_,_,rfl,hw1.1,hw1.2,by omega,by omega⟩
  · rw[if_neg hb]
    exact⟨_,_,_,rfl,hw2.1,hw2.2,by omega,by omega⟩
theorem sign_32 (b:Bool):∃ r,spec_l4K_sign.f 8 23 b=some r:=by
  unfold spec_l4K_sign.f
  cases b
  · exact⟨_,by rw[if_neg (by decide)]⟩
  · exact⟨_,by rw[if_pos rfl,if_pos (wrap_u64_range _).1]⟩
theorem least_32:∃ r,spec_l4K_least.f 8 23=some r:=by
  unfold spec_l4K_least.f
  exact⟨_,by rw[if_pos (wrap_u64_range _).1]⟩
theorem inf_32 (b:Bool):∃ r,spec_l4K_inf.f 8 23 b=some r:=by
  unfold spec_l4K_inf.f
  obtain⟨r,hr⟩:=sign_32 b
  exact⟨_,by rw[if_pos (by decide),if_pos (by decide),hr,Option.bind_some]⟩
theorem round_j2 (k:Nat) (n:Bool) (x e:Int):∃ r,spec_l4K_round.j2 (k+1) n x e 8 23=some r:=by
  rw[spec_l4K_round.j2,if_pos (by decide)]
  obtain⟨r,hr⟩:=sign_32 n
  obtain⟨q,hq⟩:=least_32
  obtain⟨i,hi⟩:=inf_32 n
  by_cases c:x<shl .u64 1 23
  · exact⟨_,by rw[if_pos c,hr,Option.bind_some]⟩
  · rw[if_neg c,hq,Option.bind_some,if_pos (by decide)]
    split
    · exact⟨_,by rw[hi,Option.bind_some]⟩
    · exact⟨_,by rw[hr,Option.bind_some]⟩
theorem round_j1 (k:Nat) (n:Bool) (x e:Int):∃ r,spec_l4K_round.j1 (k+2) n x e 8 23=some r:=by
  rw[spec_l4K_round.j1,if_pos (wrap_u64_range _).1]
  split
  · exact round_j2 k _ _ _
  · exact round_j2 k _ _ _
theorem round_j0 (k:Nat) (n:Bool) (x y:Int) (b:Bool) (e:Int):∃ r,spec_l4K_round.j0 (k+3) n x y b e 8 23=some r:=by
  rw[spec_l4K_round.j0]
  repeat' (first|exact round_j1 k _ _ _|(rw[if_pos (wrap_u64_range _).1])|split)
theorem len_l0 (d:Nat):∀ (k:Nat) (x y:Int),d<k→0≤x→x<2 ^ d→∃ r,spec_l4Len.l0 k x y=some r:=by
  induction d with
  |zero=>
    intro k x y hk h0 h1
    obtain⟨k,rfl⟩:∃ j,k=j+1:=⟨k - 1,by omega⟩
    rw[Int.pow_zero] at h1
    exact⟨_,by rw[spec_l4Len.l0,if_neg (by omega)]⟩
  |succ d ih=>
    intro k x y hk h0 h1
    obtain⟨k,rfl⟩:∃ j,k=j+1:=⟨k - 1,by omega⟩
    rw[Int.pow_succ] at h1
    rw[spec_l4Len.l0]
    split
    · exact ih k _ _ (by omega) (by omega) (by omega)
    · exact⟨_,rfl⟩
theorem round_32 (k:Nat) (hk:80≤k) (n:Bool) (x y:Int) (b:Bool) (h0:0≤x) (h1:x<2 ^ 60):∃ r,spec_l4K_round.f k 8 23 n x y b=some r:=by
  obtain⟨k,rfl⟩:∃ j,k=j+3:=⟨k - 3,by omega⟩
  unfold spec_l4K_round.f
  obtain⟨r,hr⟩:=sign_32 n
  obtain⟨q,hq⟩:=least_32
  obtain⟨t,ht⟩:=len_l0 60 (k+3) x 0 (by omega) h0 h1
  split
  · exact⟨_,by rw[hr,Option.bind_some]⟩
  · unfold spec_l4Len.f
    rw[ht,Option.bind_some,hq,Option.bind_some]
    split
    · exact round_j0 k _ _ _ _ _
    · exact round_j0 k _ _ _ _ _
theorem ofInt_32 (k:Nat) (hk:90≤k) (v:Int) (h0:-1152921504606846975≤v) (h1:v≤1152921504606846975):∃ r,spec_l4K_ofInt.f k 8 23 v=some r:=by
  obtain⟨k,rfl⟩:∃ j,k=j+2:=⟨k - 2,by omega⟩
  have hj:∀ (b:Bool) (n:Nat),n<1152921504606846976→∃ r,spec_l4K_ofInt.j0 (k+2) b (n:Int) 8 23=some r:=by
    intro b n hn
    obtain⟨r,hr⟩:=round_32 k (by omega) b (n:Int) 0 false (by omega) (by omega)
    exact⟨r,by rw[spec_l4K_ofInt.j0,spec_l4K_ofInt.l0,if_neg (by omega),hr,Option.bind_some]⟩
  unfold spec_l4K_ofInt.f
  by_cases c:v<0
  · have e1:IntKind.u64.wrap (-(IntKind.u64.wrap v))=((v.natAbs:Nat):Int):=by rw[wrap_u64,wrap_u64];omega
    rw[if_pos c,e1]
    exact hj _ _ (by omega)
  · have e1:IntKind.u64.wrap v=((v.natAbs:Nat):Int):=by rw[wrap_u64];omega
    rw[if_neg c,e1]
    exact hj _ _ (by omega)
/-- A float of 32 bits is drawn. -/
theorem float32_ok {l:List Int} (hl:U8 l) {a:Int} (h0:0≤a) (h1:a≤4611686018427386000) (s:Int) {k:Nat} (hk:100≤k):∃ r a' s',spec_l1Cur_float.f k l a s 32=some (r,a',s')∧a≤a'∧a'≤a+30:=by
  obtain⟨k,rfl⟩:∃ j,k=j+1:=⟨k - 1,by omega⟩
  unfold spec_l1Cur_float.f
  obtain⟨w,s1,e1,hw⟩:=wide_ok hl h0 (by omega) s (k:=k+1) (by omega)
  rw[e1]
  simp only[Option.bind_some]
  obtain⟨p,a2,s2,e2,hp0,hp1,ha2,hb2⟩:=pick_ok hl (a:=a+8) (by omega) (by omega) s1 8 (by omega) (by omega)
  rw[e2]
  simp only[Option.bind_some]
  have hj0:∀ b:Bool,∃ r a' s',spec_l1Cur_float.j0 (k+1) 32 (w % 4294967296) p b l a2 s2=some (r,a',s')∧a≤a'∧a'≤a+30:=by
    intro b
    simp only[spec_l1Cur_float.j0]
    cases b
    · rw[if_neg (by decide)]
      by_cases c3:p=3
      · rw[if_pos c3]
        obtain⟨w2,s3,e3,hw3⟩:=wide_ok hl (a:=a2) (by omega) (by omega) s2 (k:=k) (by omega)
        rw[if_pos trivial,e3]
        simp only[Option.bind_some]
        exact⟨_,_,_,rfl,by omega,by omega⟩
      · rw[if_neg c3]
        exact⟨_,_,_,rfl,by omega,by omega⟩
    · rw[if_pos rfl,show spec_l4Kind.f 32=some (8,23,true) from by decide]
      simp only[Option.bind_some,if_true]
      obtain⟨q,a3,s3,e3,hq0,hq1,ha3,hb3⟩:=pick_ok hl (a:=a2) (by omega) (by omega) s2 300 (by omega) (by omega)
      rw[e3]
      simp only[Option.bind_some]
      obtain⟨r,hr⟩:=ofInt_32 k (by omega) (q - 100) (by omega) (by omega)
      rw[w64 (n:=q - 100) (by omega) (by omega),hr]
      exact⟨_,_,_,rfl,by omega,by omega⟩
  by_cases c0:p=0
  · rw[if_pos c0]
    obtain⟨r,a3,s3,e3,_,ha3,hb3⟩:=among_ok hl (a:=a2) (by omega) (by omega) s2 ([0,1,15360,31743,31744,32256,32768,1024,1023,64512]:List Int) (by simp) (by simp)
    rw[e3]
    simp only[Option.bind_some]
    rw[if_pos trivial]
    obtain⟨r4,a4,s4,e4,_,ha4,hb4⟩:=among_ok hl (a:=a3) (by omega) (by omega) s3 ([0,1,1065353216,2139095039,2139095040,2143289344,2147483648,8388608,8388607,4286578688]:List Int) (by simp) (by simp)
    rw[e4]
    simp only[Option.bind_some]
    exact⟨_,_,_,rfl,by omega,by omega⟩
  · rw[if_neg c0]
    by_cases c1:p=1
    · rw[if_pos c1];exact hj0 _
    · rw[if_neg c1];exact hj0 _
end Go.Proofs.Ytmajifnehjlncaa.Cur
