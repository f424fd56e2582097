/- Numbers in as many bytes as they need: what is written, and that it is read back. -/
import Derived.Test.YtmajifnehjlncaaLb
import Derived.Test.YtmajifnehjlncaaQx5
import Derived.Test.YtmajifnehjlncaaQx6
namespace Go.Proofs.Ytmajifnehjlncaa.Leb
open Go.RowKit Go.Proofs.Ytmajifnehjlncaa.Q Go.Proofs.YtmajifnehjlncaaW.PrintWords Go.Proofs.YtmajifnehjlncaaW.PrintLast Go.Proofs.YtmajifnehjlncaaW.PrintMore Go.Proofs.Ytmajifnehjlncaa.Mb
set_option linter.unusedSimpArgs false
set_option linter.unusedVariables false

/-! numbers without sign -/
def ul:Nat→Int→List Int
  |0,n=>[n]
  |f+1,n=>if n≥128 then (n % 128+128) ::ul f (n / 128) else [n]
theorem ul_ge {f:Nat} {n:Int} (h:n≥128):ul (f+1) n=(n % 128+128) ::ul f (n / 128):=by simp only[ul];rw[if_pos h]
theorem ul_lt {f:Nat} {n:Int} (h:¬n≥128):ul (f+1) n=[n]:=by simp only[ul];rw[if_neg h]
theorem ul_b8 (f:Nat):∀ n:Int,0≤n→n<128 ^ (f+1)→B8 (ul f n):=by
  induction f with
  |zero=>
    intro n h0 h1 x hx
    rw[Int.pow_succ,Int.pow_zero] at h1
    simp only[ul,List.mem_singleton] at hx
    subst hx;omega
  |succ f ih=>
    intro n h0 h1 x hx
    unfold ul at hx
    rw[Int.pow_succ] at h1
    split at hx
    · rcases List.mem_cons.1 hx with rfl|hx
      · omega
      · exact ih (n / 128) (by omega) (by omega) x hx
    · simp only[List.mem_singleton] at hx
      subst hx;omega
theorem impl_ul_l0 (f:Nat):∀ (k:Nat) (n:Int) (acc:List Int),f<k→0≤n→n<128 ^ (f+1)→acc.length+f≤1000→impl_UlebBytes.l0 k n acc=some (strOfNums (acc++ul f n)):=by
  induction f with
  |zero=>
    intro k n acc hk h0 h1 ha
    obtain⟨k,rfl⟩:∃ j,k=j+1:=⟨k - 1,by omega⟩
    rw[Int.pow_succ,Int.pow_zero] at h1
    simp only[impl_UlebBytes.l0,ul]
    rw[if_neg (by omega),if_pos (by omega),show n % 256=n by omega]
  |succ f ih=>
    intro k n acc hk h0 h1 ha
    obtain⟨k,rfl⟩:∃ j,k=j+1:=⟨k - 1,by omega⟩
    rw[Int.pow_succ] at h1
    simp only[impl_UlebBytes.l0,ul]
    by_cases c:n≥128
    · rw[if_pos c,if_pos c,if_pos (by omega),u8_or128 (by omega) (by omega),show n % 256 % 128+128=n % 128+128 by omega,ih k (n / 128) _ (by omega) (by omega) (by omega) (by simp;omega),List.append_assoc]
      rfl
    · rw[if_neg c,if_neg c,if_pos (by omega),show n % 256=n by omega]
theorem spec_ul_l0 (f:Nat):∀ (k:Nat) (n:Int) (acc:List Int),f<k→0≤n→n≤18446744073709551615→n<128 ^ (f+1)→acc.length+f≤1000→spec_l1Uleb.l0 k n acc=some (strOfNums (acc++ul f n)):=by
  induction f with
  |zero=>
    intro k n acc hk h0 _ h1 ha
    obtain⟨k,rfl⟩:∃ j,k=j+1:=⟨k - 1,by omega⟩
    rw[Int.pow_succ,Int.pow_zero] at h1
    simp only[spec_l1Uleb.l0,ul]
    rw[if_neg (by omega),if_pos (by omega),show n % 256=n by omega]
  |succ f ih=>
    intro k n acc hk h0 h64 h1 ha
    obtain⟨k,rfl⟩:∃ j,k=j+1:=⟨k - 1,by omega⟩
    rw[Int.pow_succ] at h1
    simp only[spec_l1Uleb.l0,ul]
    by_cases c:n≥128
    · rw[if_pos c,if_pos (by omega),if_pos (by omega),u64_and127 h0 h64,bits_or_comm,u64_join 7 128 (n % 128) (by decide) (by decide) (by decide) (by omega) (by omega) (by omega),show (128+n % 128) % 256=n % 128+128 by omega,ih k (n / 128) _ (by omega) (by omega) (by omega) (by omega) (by simp;omega),List.append_assoc]
      rfl
    · rw[if_neg c,if_neg (by omega),if_pos (by omega),show n % 256=n by omega]
theorem p128_10:(18446744073709551615:Int)<128 ^ (9+1):=by decide
/-- The bytes of a number of 64 bits. -/
def U (n:Int):List Int:=ul 9 n
theorem impl_U (k:Nat) (hk:10≤k) (n:Int) (h0:0≤n) (h1:n≤18446744073709551615):impl_UlebBytes.f k n=some (strOfNums (U n)):=by
  unfold impl_UlebBytes.f
  rw[impl_ul_l0 9 k n [] (by omega) h0 (Int.lt_of_le_of_lt h1 p128_10) (by simp)]
  rfl
theorem spec_U (k:Nat) (hk:10≤k) (n:Int) (h0:0≤n) (h1:n≤18446744073709551615):spec_l1Uleb.f k n=some (strOfNums (U n)):=by
  unfold spec_l1Uleb.f
  rw[spec_ul_l0 9 k n [] (by omega) h0 h1 (Int.lt_of_le_of_lt h1 p128_10) (by simp)]
  rfl
theorem U_b8 (n:Int) (h0:0≤n) (h1:n≤18446744073709551615):B8 (U n):=ul_b8 9 n h0 (Int.lt_of_le_of_lt h1 p128_10)
/-- As few as can be. -/
theorem ul_len (f:Nat):∀ n:Int,0≤n→n<128 ^ (f+1)→1≤(ul f n).length∧(ul f n).length≤f+1∧n<128 ^ (ul f n).length∧(1<(ul f n).length→128 ^ ((ul f n).length - 1)≤n):=by
  induction f with
  |zero=>
    intro n h0 h1
    rw[show (ul 0 n).length=1 from rfl]
    exact⟨by omega,by omega,h1,fun h=>absurd h (by decide)⟩
  |succ f ih=>
    intro n h0 h1
    rw[Int.pow_succ] at h1
    unfold ul
    by_cases c:n≥128
    · rw[if_pos c]
      obtain⟨a,b,d,e⟩:=ih (n / 128) (by omega) (by omega)
      simp only[List.length_cons]
      generalize (ul f (n / 128)).length=L at*
      refine⟨by omega,by omega,?_,fun _=>?_⟩
      · rw[Int.pow_succ];omega
      · rw[show L+1 - 1=L by omega]
        obtain⟨L,rfl⟩:∃ j,L=j+1:=⟨L - 1,by omega⟩
        by_cases c2:1<L+1
        · have:=e c2
          rw[show L+1 - 1=L by omega] at this
          rw[Int.pow_succ];omega
        · obtain rfl:L=0:=by omega
          rw[Int.pow_succ,Int.pow_zero];omega
    · rw[if_neg c]
      simp only[List.length_singleton]
      refine⟨by omega,by omega,?_,fun h=>absurd h (by decide)⟩
      rw[Int.pow_succ,Int.pow_zero];omega
/-- What was written is read, whatever stands behind it. -/
theorem take_u (f:Nat):∀ (k:Nat) (s:ByteArray) (i:Nat) (n m:Int),3*f+3≤k→i+f≤9→s.size≤1000000000→0≤n→n<128 ^ i→0≤m→m<128 ^ (f+1)→n+m*128 ^ i≤18446744073709551615→At s i (ul f m)→
    impl_TakeUleb.l0 k s 64 n (i:Int)=some (n+m*128 ^ i,((i+(ul f m).length:Nat):Int)):=by
  induction f with
  |zero=>
    intro k s i n m hk hi hs hn0 hn hm0 hm hb hat
    obtain⟨k,rfl⟩:∃ j,k=j+3:=⟨k - 3,by omega⟩
    rw[Int.pow_succ,Int.pow_zero] at hm
    obtain⟨hbt,hsz,-⟩:=hat
    have hp0:(0:Int)<128 ^ i:=Int.pow_pos (by decide)
    have hmax:wrap64 (Int.tdiv (wrap64 (64+6)) 7)=10:=by decide+kernel
    simp only[impl_TakeUleb.l0,impl_TakeUleb.j2,impl_TakeUleb.j3]
    rw[if_pos (by omega),hmax,decide_eq_true (by omega),if_pos rfl,if_pos (by omega),if_pos (by omega),hbt,u8_and127 hm0 (by omega),show m % 128=m by omega,wu64 hm0 (by omega),w64 (n:=7*(i:Int)) (by omega) (by omega),w64 (n:=64 - 7*(i:Int)) (by omega) (by omega)]
    have fin:(if 0≤7*(i:Int) then if 0≤(i:Int) then if (i:Int)<(s.size:Int) then if m<128 then some (Go.bits .or .u64 n (shl .u64 m (7*(i:Int))),wrap64 ((i:Int)+1)) else impl_TakeUleb.l0 k s 64 (Go.bits .or .u64 n (shl .u64 m (7*(i:Int)))) (wrap64 ((i:Int)+1)) else none else none else none)=some (n+m*128 ^ i,((i+1:Nat):Int)):=by
      rw[if_pos (by omega),if_pos (by omega),if_pos (by omega),if_pos (by omega),w64 (n:=(i:Int)+1) (by omega) (by omega),show (7*(i:Int))=((7*i:Nat):Int) by omega,acc_u n m i hn0 hn hm0 (by omega) (by omega) (by omega)]
      congr 2
    by_cases c:64 - 7*(i:Int)<7
    · have hi9:i=9:=by omega
      subst hi9
      have h9:(128:Int) ^ 9=9223372036854775808:=by decide
      rw[if_pos c,if_pos (by omega),shr_u64 m _ 1 (by decide) (by decide)]
      have hm1:m≤1:=by rw[h9] at hb;omega
      have e0:(m / 2 ^ 1 !=0)=false:=by
        rw[show (2:Int) ^ 1=2 by decide,show m / 2=0 by omega];rfl
      rw[e0,if_neg (by decide)]
      exact fin
    · rw[if_neg c,if_neg (by decide)]
      exact fin
  |succ f ih=>
    intro k s i n m hk hi hs hn0 hn hm0 hm hb hat
    have hp0:(0:Int)<128 ^ i:=Int.pow_pos (by decide)
    by_cases c:m≥128
    · unfold ul at hat
      rw[if_pos c] at hat
      obtain⟨hbt,hsz,hrest⟩:=hat
      obtain⟨k,rfl⟩:∃ j,k=j+3:=⟨k - 3,by omega⟩
      rw[Int.pow_succ] at hm
      have hmax:wrap64 (Int.tdiv (wrap64 (64+6)) 7)=10:=by decide+kernel
      simp only[impl_TakeUleb.l0,impl_TakeUleb.j2,impl_TakeUleb.j3]
      rw[if_pos (by omega),hmax,decide_eq_true (by omega),if_pos rfl,if_pos (by omega),if_pos (by omega),hbt,u8_and127 (by omega) (by omega),show (m % 128+128) % 128=m % 128 by omega,wu64 (n:=m % 128) (by omega) (by omega),w64 (n:=7*(i:Int)) (by omega) (by omega),w64 (n:=64 - 7*(i:Int)) (by omega) (by omega),if_neg (by omega),if_neg (by decide)]
      have hsplit:m*128 ^ i=m % 128*128 ^ i+m / 128*128 ^ (i+1):=by
        have:m=m % 128+m / 128*128:=by omega
        conv=>lhs;rw[this]
        rw[Int.add_mul,Int.pow_succ,Int.mul_assoc (m / 128) 128,Int.mul_comm 128]
      have hq0:0≤m / 128*128 ^ (i+1):=Int.mul_nonneg (by omega) (Int.le_of_lt (Int.pow_pos (by decide)))
      have hr0:0≤m % 128*128 ^ i:=Int.mul_nonneg (by omega) (Int.le_of_lt hp0)
      have hr1:m % 128*128 ^ i≤127*128 ^ i:=Int.mul_le_mul_of_nonneg_right (by omega) (Int.le_of_lt hp0)
      rw[if_pos (by omega),if_pos (by omega),if_pos (by omega),if_neg (by omega),w64 (n:=(i:Int)+1) (by omega) (by omega),show (7*(i:Int))=((7*i:Nat):Int) by omega,acc_u n (m % 128) i hn0 hn (by omega) (by omega) (by omega) (by omega)]
      have:=ih k s (i+1) (n+m % 128*128 ^ i) (m / 128) (by omega) (by omega) hs (by omega) (by rw[Int.pow_succ];omega) (by omega) (by omega) (by omega) hrest
      rw[show ((i:Int)+1)=((i+1:Nat):Int) by omega,this]
      rw[ul_ge c,hsplit,List.length_cons,show n+m % 128*128 ^ i+m / 128*128 ^ (i+1)=n+(m % 128*128 ^ i+m / 128*128 ^ (i+1)) by omega,show i+1+(ul f (m / 128)).length=i+((ul f (m / 128)).length+1) by omega]
    · have hul:ul (f+1) m=ul 0 m:=ul_lt c
      rw[hul] at hat ⊢
      have hz:impl_TakeUleb.l0 k s 64 n (i:Int)=some (n+m*128 ^ i,((i+(ul 0 m).length:Nat):Int)):=by
        obtain⟨hbt,hsz,-⟩:=hat
        obtain⟨k,rfl⟩:∃ j,k=j+3:=⟨k - 3,by omega⟩
        have hmax:wrap64 (Int.tdiv (wrap64 (64+6)) 7)=10:=by decide+kernel
        simp only[impl_TakeUleb.l0,impl_TakeUleb.j2,impl_TakeUleb.j3]
        rw[if_pos (by omega),hmax,decide_eq_true (by omega),if_pos rfl,if_pos (by omega),if_pos (by omega),hbt,u8_and127 hm0 (by omega),show m % 128=m by omega,wu64 hm0 (by omega),w64 (n:=7*(i:Int)) (by omega) (by omega),w64 (n:=64 - 7*(i:Int)) (by omega) (by omega),if_neg (by omega),if_neg (by decide)]
        rw[if_pos (by omega),if_pos (by omega),if_pos (by omega),if_pos (by omega),w64 (n:=(i:Int)+1) (by omega) (by omega),show (7*(i:Int))=((7*i:Nat):Int) by omega,acc_u n m i hn0 hn hm0 (by omega) (by omega) (by omega)]
        rfl
      exact hz
theorem take_U (k:Nat) (hk:40≤k) (n:Int) (h0:0≤n) (h1:n≤18446744073709551615) (more:ByteArray) (hm:more.size≤1000000):impl_TakeUleb.f k (strOfNums (U n)++more) 64=some (n,((U n).length:Int)):=by
  obtain⟨k,rfl⟩:∃ j,k=j+1:=⟨k - 1,by omega⟩
  have hl:=ul_len 9 n h0 (Int.lt_of_le_of_lt h1 p128_10)
  unfold impl_TakeUleb.f
  rw[if_neg (by decide),show decide ((64:Int) > 64)=false from by decide]
  simp only[impl_TakeUleb.j0]
  rw[if_neg (by decide)]
  have:=take_u 9 k (strOfNums (U n)++more) 0 0 n (by omega) (by omega) (by rw[ByteArray.size_append,strOfNums_size];unfold U;omega) (by decide) (by decide) h0 (Int.lt_of_le_of_lt h1 p128_10) (by rw[Int.pow_zero];omega) (At_str (U n) (U_b8 n h0 h1) more)
  rw[Int.pow_zero,Int.mul_one,Int.zero_add,Nat.zero_add] at this
  exact this
end Go.Proofs.Ytmajifnehjlncaa.Leb
