/- The reader of choices: whatever bytes it has, it tells numbers within its bounds, and goes on by few places. -/
import Derived.Test.YtoeenmajdidfoaaDoorMb
import Derived.Test.YtoeenmajdidfoaaDoorQx1
import Derived.Test.YtoeenmajdidfoaaDoorQx2
namespace Go.Proofs.YtoeenmajdidfoaaDoor.Cur
open Go.RowKit Go.Proofs.YtoeenmajdidfoaaDoor.Q Go.Proofs.YtoeenmajdidfoaaDoorW.PrintWords Go.Proofs.YtoeenmajdidfoaaDoorW.PrintLast Go.Proofs.YtoeenmajdidfoaaDoorW.PrintMore Go.Proofs.YtoeenmajdidfoaaDoor.Mb
set_option linter.unusedSimpArgs false
set_option linter.unusedVariables false

/-- A list of bytes. -/
def U8 (l:List Int):Prop:=∀ x∈l,0≤x∧x≤255
theorem u8_of {l:List Int} (h:∀ x∈l,(Lit.int .u8 x).wf=true):U8 l:=fun x hx=>wf_u8 (h x hx)
/-- A place that is far from the end of all numbers. -/
def Pl (a:Int):Prop:=0≤a∧a≤4611686018427387904
theorem next_ok {l:List Int} (hl:U8 l) {a:Int} (ha:Pl a) (s:Int):∃ r s',spec_l1Cur_next.f l a s=some (r,a+1,s')∧0≤r∧r≤255:=by
  obtain⟨h0,h1⟩:=ha
  unfold spec_l1Cur_next.f
  rw[w64 (n:=a+1) (by omega) (by omega)]
  have fin:∀ X:Int,0≤wrap64 (Go.bits .and .u64 (IntKind.u64.wrap X / 1099511627776) 255)∧wrap64 (Go.bits .and .u64 (IntKind.u64.wrap X / 1099511627776) 255)≤255:=by
    intro X
    have hX:=wrap_u64_range X
    rw[u64_and255 (by omega) (by omega),w64 (by omega) (by omega)]
    omega
  by_cases c:a<(l.length:Int)
  · rw[if_pos c,if_pos h0,if_pos (by omega)]
    have hr:=hl _ (rd_mem h0 c)
    exact⟨_,_,rfl,by rw[w64 (by omega) (by omega)];omega,by rw[w64 (by omega) (by omega)];omega⟩
  · rw[if_neg c,if_neg (by omega)]
    exact⟨_,_,rfl,fin _⟩
theorem pick_ok {l:List Int} (hl:U8 l) {a:Int} (h0:0≤a) (h1:a≤4611686018427387000) (s n:Int) (hn:1≤n) (hn2:n≤1000000):∃ r a' s',spec_l1Cur_pick.f l a s n=some (r,a',s')∧0≤r∧r<n∧a≤a'∧a'≤a+2:=by
  unfold spec_l1Cur_pick.f
  by_cases c:n≤1
  · rw[if_pos c];exact⟨_,_,_,rfl,by omega,by omega,by omega,by omega⟩
  · rw[if_neg c]
    obtain⟨r,s1,e1,hr0,hr1⟩:=next_ok hl (a:=a) ⟨h0,by omega⟩ s
    rw[e1]
    simp only[Option.bind_some]
    by_cases c2:n > 200
    · rw[if_pos c2]
      obtain⟨r2,s2,e2,hr2,hr3⟩:=next_ok hl (a:=a+1) ⟨by omega,by omega⟩ s1
      rw[e2]
      simp only[Option.bind_some]
      rw[if_neg (by omega),w64 (n:=r*256) (by omega) (by omega),w64 (by omega) (by omega),Int.tmod_eq_emod_of_nonneg (by omega)]
      exact⟨_,_,_,rfl,Int.emod_nonneg _ (by omega),Int.emod_lt_of_pos _ (by omega),by omega,by omega⟩
    · rw[if_neg c2,if_neg (by omega),Int.tmod_eq_emod_of_nonneg (by omega)]
      exact⟨_,_,_,rfl,Int.emod_nonneg _ (by omega),Int.emod_lt_of_pos _ (by omega),by omega,by omega⟩
theorem among_ok {l:List Int} (hl:U8 l) {a:Int} (h0:0≤a) (h1:a≤4611686018427387000) (s:Int) (L:List Int) (hL:1≤L.length) (hL2:L.length≤1000000):∃ r a' s',spec_l1Cur_among.f l a s L=some (r,a',s')∧r∈L∧a≤a'∧a'≤a+2:=by
  unfold spec_l1Cur_among.f
  obtain⟨r,a',s',e,hr0,hr1,ha0,ha1⟩:=pick_ok hl h0 h1 s (L.length:Int) (by omega) (by omega)
  rw[e]
  simp only[Option.bind_some]
  rw[if_pos hr0,if_pos hr1]
  exact⟨_,_,_,rfl,rd_mem hr0 hr1,ha0,ha1⟩
theorem one_ok {l:List Int} (hl:U8 l) {a:Int} (h0:0≤a) (h1:a≤4611686018427387000) (s n:Int) (hn:1≤n) (hn2:n≤1000000):∃ b a' s',spec_l1Cur_one.f l a s n=some (b,a',s')∧a≤a'∧a'≤a+2:=by
  unfold spec_l1Cur_one.f
  obtain⟨r,a',s',e,_,_,h2,h3⟩:=pick_ok hl h0 h1 s n hn hn2
  rw[e]
  exact⟨_,_,_,rfl,h2,h3⟩
end Go.Proofs.YtoeenmajdidfoaaDoor.Cur
