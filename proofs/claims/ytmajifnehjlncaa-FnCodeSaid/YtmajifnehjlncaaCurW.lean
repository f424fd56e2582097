/- The reader of choices: words. -/
import Derived.Test.YtmajifnehjlncaaCur
import Derived.Test.YtmajifnehjlncaaQx1
namespace Go.Proofs.Ytmajifnehjlncaa.Cur
open Go.RowKit Go.Proofs.Ytmajifnehjlncaa.Q Go.Proofs.YtmajifnehjlncaaW.PrintWords Go.Proofs.YtmajifnehjlncaaW.PrintLast Go.Proofs.YtmajifnehjlncaaW.PrintMore Go.Proofs.Ytmajifnehjlncaa.Mb
set_option linter.unusedSimpArgs false
set_option linter.unusedVariables false
theorem word_ok {l:List Int} (hl:U8 l) {a:Int} (h0:0≤a) (h1:a≤4611686018427386000) (s:Int) {k:Nat} (hk:9≤k):∃ r a' s',spec_l1Cur_word.f k l a s=some (r,a',s')∧0≤r∧r≤18446744073709551615∧a≤a'∧a'≤a+12:=by
  unfold spec_l1Cur_word.f
  obtain⟨p,a1,s1,e1,hp0,hp1,ha1,hb1⟩:=pick_ok hl h0 (by omega) s 6 (by omega) (by omega)
  rw[e1]
  simp only[Option.bind_some]
  by_cases c0:p=0
  · rw[if_pos c0]
    obtain⟨r,a2,s2,e2,_,ha2,hb2⟩:=among_ok hl (a:=a1) (by omega) (by omega) s1 ([0,1,127,128,255,256,16383,16384,4294967295,4294967296,(-1),9223372036854775807,(-9223372036854775808)]:List Int) (by simp) (by simp)
    rw[e2]
    simp only[Option.bind_some]
    have:=wrap_u64_range r
    exact⟨_,_,_,rfl,this.1,this.2,by omega,by omega⟩
  · rw[if_neg c0]
    by_cases c1:p=1
    · rw[if_pos c1]
      obtain⟨r,s2,e2,_⟩:=wide_ok hl (a:=a1) (by omega) (by omega) s1 hk
      rw[e2]
      simp only[Option.bind_some]
      have:=wrap_u64_range r
      exact⟨_,_,_,rfl,this.1,this.2,by omega,by omega⟩
    · rw[if_neg c1]
      by_cases c2:p=2
      · rw[if_pos c2]
        obtain⟨r,s2,e2,_⟩:=wide_ok hl (a:=a1) (by omega) (by omega) s1 hk
        rw[e2]
        simp only[Option.bind_some]
        obtain⟨q,a3,s3,e3,hq0,hq1,ha3,hb3⟩:=pick_ok hl (a:=a1+8) (by omega) (by omega) s2 64 (by omega) (by omega)
        rw[e3]
        simp only[Option.bind_some]
        rw[if_pos (wrap_u64_range q).1]
        have:=wrap_u64_range r
        have h2:=shr_range_u64 (IntKind.u64.wrap r) (IntKind.u64.wrap q) this.1 this.2
        exact⟨_,_,_,rfl,h2.1,h2.2,by omega,by omega⟩
      · rw[if_neg c2]
        by_cases c3:p=3
        · rw[if_pos c3]
          obtain⟨r,s2,e2,_⟩:=wide_ok hl (a:=a1) (by omega) (by omega) s1 hk
          rw[e2]
          simp only[Option.bind_some]
          have:=wrap_u64_range (Go.bits .and .i64 r 4294967295)
          exact⟨_,_,_,rfl,this.1,this.2,by omega,by omega⟩
        · rw[if_neg c3]
          obtain⟨r,a2,s2,e2,hr0,hr1,ha2,hb2⟩:=pick_ok hl (a:=a1) (by omega) (by omega) s1 300 (by omega) (by omega)
          rw[e2]
          simp only[Option.bind_some]
          have:=wrap_u64_range r
          exact⟨_,_,_,rfl,this.1,this.2,by omega,by omega⟩
end Go.Proofs.Ytmajifnehjlncaa.Cur
