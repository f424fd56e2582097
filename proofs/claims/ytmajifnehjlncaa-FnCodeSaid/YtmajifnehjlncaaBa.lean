/- Texts and their bytes; what was written without sign is read in 32 bits. -/
import Derived.Test.YtmajifnehjlncaaLz
namespace Go.Proofs.Ytmajifnehjlncaa.Ba
open Go.RowKit Go.Proofs.Ytmajifnehjlncaa.Q Go.Proofs.YtmajifnehjlncaaW.PrintWords Go.Proofs.YtmajifnehjlncaaW.PrintLast Go.Proofs.YtmajifnehjlncaaW.PrintMore Go.Proofs.Ytmajifnehjlncaa.Mb Go.Proofs.Ytmajifnehjlncaa.Leb
set_option linter.unusedSimpArgs false
set_option linter.unusedVariables false
/-! bytes -/
theorem ba_ext {a b:ByteArray} (h:a.data.toList=b.data.toList):a=b:=ByteArray.ext (Array.ext' h)
theorem tl_app (a b:ByteArray):(a++b).data.toList=a.data.toList++b.data.toList:=by rw[ByteArray.data_append,Array.toList_append]
theorem tl_ext (a:ByteArray) (i j:Nat):(a.extract i j).data.toList=(a.data.toList.take j).drop i:=by
  rw[ByteArray.data_extract,Array.toList_extract,List.extract_eq_take_drop,List.drop_take]
theorem tl_len (a:ByteArray):a.data.toList.length=a.size:=by rw[Array.length_toList];rfl
theorem ext_tail (a b:ByteArray):(a++b).extract a.size (a++b).size=b:=by
  apply ba_ext
  rw[tl_ext,tl_app,←tl_len (a++b),tl_app,List.take_length,←tl_len a,List.drop_left]
theorem ext_mid (a b c:ByteArray):(a++b++c).extract a.size (a.size+b.size)=b:=by
  apply ba_ext
  rw[tl_ext,tl_app,tl_app,←tl_len a,←tl_len b,←List.length_append,List.take_left,List.drop_left]
theorem sz0:(⟨#[]⟩:ByteArray).size=0:=rfl
theorem app_nil (a:ByteArray):a++(⟨#[]⟩:ByteArray)=a:=by
  apply ba_ext
  rw[tl_app];exact List.append_nil _
theorem nil_app (a:ByteArray):(⟨#[]⟩:ByteArray)++a=a:=by
  apply ba_ext
  rw[tl_app];rfl
theorem app_as (a b c:ByteArray):a++b++c=a++(b++c):=by
  apply ba_ext
  rw[tl_app,tl_app,tl_app,tl_app,List.append_assoc]
theorem empty_iff (s:ByteArray):s.toList=([]:List UInt8)↔s.size=0:=by
  rw[ByteArray.toList_eq]
  constructor
  · intro h;rw[←tl_len,h];rfl
  · intro h;exact List.length_eq_zero_iff.1 (by rw[tl_len,h])
theorem U_size (x:Int):(strOfNums (U x)).size=(U x).length:=strOfNums_size _
theorem U_len {n:Int} (h0:0≤n) (h1:n≤18446744073709551615):1≤(U n).length∧(U n).length≤10:=by
  have:=ul_len 9 n h0 (Int.lt_of_le_of_lt h1 p128_10)
  exact⟨this.1,this.2.1⟩
theorem ul_two (f g:Nat) (n:Int) (h0:0≤n) (h1:n<128 ^ 2):ul (f+1) n=ul (g+1) n:=by
  unfold ul
  by_cases c:n≥128
  · rw[if_pos c,if_pos c]
    have e:∀ f,ul f (n / 128)=[n / 128]:=by
      intro f
      cases f with
      |zero=>rfl
      |succ f=>exact ul_lt (by omega)
    rw[e,e]
  · rw[if_neg c,if_neg c]
/-- A number below 2^28 that was written is read, in 32 bits, whatever stands behind it. -/
theorem take_u32 (f:Nat):∀ (k:Nat) (s:ByteArray) (i:Nat) (n m:Int),3*f+3≤k→i+f≤3→s.size≤1000000000→0≤n→n<128 ^ i→0≤m→m<128 ^ (f+1)→n+m*128 ^ i≤18446744073709551615→At s i (ul f m)→
    impl_TakeUleb.l0 k s 32 n (i:Int)=some (n+m*128 ^ i,((i+(ul f m).length:Nat):Int)):=by
  have hmax:wrap64 (Int.tdiv (wrap64 (32+6)) 7)=5:=by decide+kernel
  have one:∀ (k:Nat) (s:ByteArray) (i:Nat) (n m:Int),3≤k→i≤3→s.size≤1000000000→0≤n→n<128 ^ i→0≤m→m<128→n+m*128 ^ i≤18446744073709551615→At s i [m]→impl_TakeUleb.l0 k s 32 n (i:Int)=some (n+m*128 ^ i,((i+1:Nat):Int)):=by
    intro k s i n m hk hi hs hn0 hn hm0 hm hb hat
    obtain⟨k,rfl⟩:∃ j,k=j+3:=⟨k - 3,by omega⟩
    obtain⟨hbt,hsz,-⟩:=hat
    have hp0:(0:Int)<128 ^ i:=Int.pow_pos (by decide)
    simp only[impl_TakeUleb.l0,impl_TakeUleb.j2,impl_TakeUleb.j3]
    rw[if_pos (by omega),hmax,decide_eq_true (by omega),if_pos rfl,if_pos (by omega),if_pos (by omega),hbt,u8_and127 hm0 (by omega),show m % 128=m by omega,wu64 hm0 (by omega),w64 (n:=7*(i:Int)) (by omega) (by omega),w64 (n:=32 - 7*(i:Int)) (by omega) (by omega),if_neg (by omega),if_neg (by decide)]
    rw[if_pos (by omega),if_pos (by omega),if_pos (by omega),if_pos (by omega),w64 (n:=(i:Int)+1) (by omega) (by omega),show (7*(i:Int))=((7*i:Nat):Int) by omega,acc_u n m i hn0 hn hm0 (by omega) (by omega) (by omega)]
    congr 2
  induction f with
  |zero=>
    intro k s i n m hk hi hs hn0 hn hm0 hm hb hat
    exact one k s i n m (by omega) (by omega) hs hn0 hn hm0 (by rw[Int.pow_succ,Int.pow_zero] at hm;omega) hb hat
  |succ f ih=>
    intro k s i n m hk hi hs hn0 hn hm0 hm hb hat
    have hp0:(0:Int)<128 ^ i:=Int.pow_pos (by decide)
    by_cases c:m≥128
    · unfold ul at hat
      rw[if_pos c] at hat
      obtain⟨hbt,hsz,hrest⟩:=hat
      obtain⟨k,rfl⟩:∃ j,k=j+3:=⟨k - 3,by omega⟩
      rw[Int.pow_succ] at hm
      simp only[impl_TakeUleb.l0,impl_TakeUleb.j2,impl_TakeUleb.j3]
      rw[if_pos (by omega),hmax,decide_eq_true (by omega),if_pos rfl,if_pos (by omega),if_pos (by omega),hbt,u8_and127 (by omega) (by omega),show (m % 128+128) % 128=m % 128 by omega,wu64 (n:=m % 128) (by omega) (by omega),w64 (n:=7*(i:Int)) (by omega) (by omega),w64 (n:=32 - 7*(i:Int)) (by omega) (by omega),if_neg (by omega),if_neg (by decide)]
      have hsplit:m*128 ^ i=m % 128*128 ^ i+m / 128*128 ^ (i+1):=by
        have:m=m % 128+m / 128*128:=by omega
        conv=>lhs;rw[this]
        rw[Int.add_mul,Int.pow_succ,Int.mul_assoc (m / 128) 128,Int.mul_comm 128]
      have hq0:0≤m / 128*128 ^ (i+1):=Int.mul_nonneg (by omega) (Int.le_of_lt (Int.pow_pos (by decide)))
      have hr0:0≤m % 128*128 ^ i:=Int.mul_nonneg (by omega) (Int.le_of_lt hp0)
      have hr1:m % 128*128 ^ i≤127*128 ^ i:=Int.mul_le_mul_of_nonneg_right (by omega) (Int.le_of_lt hp0)
      rw[if_pos (by omega),if_pos (by omega),if_pos (by omega),if_neg (by omega),w64 (n:=(i:Int)+1) (by omega) (by omega),show (7*(i:Int))=((7*i:Nat):Int) by omega,acc_u n (m % 128) i hn0 hn (by omega) (by omega) (by omega) (by omega)]
      have:=ih k s (i+1) (n+m % 128*128 ^ i) (m / 128) (by omega) (by omega) hs (by omega) (by rw[Int.pow_succ];omega) (by omega) (by omega) (by omega) hrest
      rw[show ((i:Int)+1)=((i+1:Nat):Int) by omega,this]
      rw[ul_ge c,hsplit,List.length_cons,show n+m % 128*128 ^ i+m / 128*128 ^ (i+1)=n+(m % 128*128 ^ i+m / 128*128 ^ (i+1)) by omega,show i+1+(ul f (m / 128)).length=i+((ul f (m / 128)).length+1) by omega]
    · rw[ul_lt c] at hat ⊢
      exact one k s i n m (by omega) (by omega) hs hn0 hn hm0 (by omega) hb hat
theorem take_U32 (k:Nat) (hk:40≤k) (n:Int) (h0:0≤n) (h1:n<16384) (more:ByteArray) (hm:more.size≤1000000):impl_TakeUleb.f k (strOfNums (U n)++more) 32=some (n,((U n).length:Int)):=by
  obtain⟨k,rfl⟩:∃ j,k=j+1:=⟨k - 1,by omega⟩
  have hl:=U_len (n:=n) h0 (by omega)
  unfold impl_TakeUleb.f
  rw[if_neg (by decide),show decide ((32:Int) > 64)=false from by decide]
  simp only[impl_TakeUleb.j0]
  rw[if_neg (by decide)]
  have e:U n=ul 1 n:=ul_two 8 0 n h0 h1
  have hat:=At_str (U n) (U_b8 n h0 (by omega)) more
  rw[e] at hat hl ⊢
  have:=take_u32 1 k (strOfNums (ul 1 n)++more) 0 0 n (by omega) (by omega) (by rw[ByteArray.size_append,strOfNums_size];omega) (by decide) (by decide) h0 h1 (by rw[Int.pow_zero];omega) hat
  rw[Int.pow_zero,Int.mul_one,Int.zero_add,Nat.zero_add] at this
  exact this

theorem str_app (a b:List Int):strOfNums (a++b)=strOfNums a++strOfNums b:=by
  apply ba_ext
  rw[tl_app,strOfNums_data,strOfNums_data,strOfNums_data,List.map_append]
theorem str_nil:strOfNums []=(⟨#[]⟩:ByteArray):=rfl
theorem cut_str (a b:List Int):(strOfNums (a++b)).extract a.length (strOfNums (a++b)).size=strOfNums b:=by
  rw[str_app,←strOfNums_size a];exact ext_tail _ _
theorem head_str (a b:List Int):(strOfNums (a++b)).extract 0 a.length=strOfNums a:=by
  apply ba_ext
  rw[tl_ext,str_app,tl_app,←strOfNums_size a,←tl_len,List.take_left,List.drop_zero]
theorem bytes_str {xs:List Int} (h:∀ x∈xs,0≤x∧x≤255):bytesOf (strOfNums xs)=xs:=by
  unfold bytesOf
  rw[strOfNums_data,List.map_map]
  conv=>rhs;rw[←List.map_id xs]
  refine List.map_congr_left fun x hx=>?_
  have:=h x hx
  simp only[Function.comp_apply,id_eq,UInt8.toNat_ofNat']
  omega
end Go.Proofs.Ytmajifnehjlncaa.Ba
