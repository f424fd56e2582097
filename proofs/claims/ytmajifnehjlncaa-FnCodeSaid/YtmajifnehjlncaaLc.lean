/- Numbers with a sign: as both texts write them, and as the program's text reads them, in 32 and 64 bits. -/
import Derived.Test.YtmajifnehjlncaaLz
import Derived.Test.YtmajifnehjlncaaQx5
import Derived.Test.YtmajifnehjlncaaQx6
namespace Go.Proofs.Ytmajifnehjlncaa.Leb
open Go.RowKit Go.Proofs.Ytmajifnehjlncaa.Q Go.Proofs.YtmajifnehjlncaaW.PrintWords Go.Proofs.YtmajifnehjlncaaW.PrintLast Go.Proofs.YtmajifnehjlncaaW.PrintMore Go.Proofs.Ytmajifnehjlncaa.Mb
set_option linter.unusedSimpArgs false
set_option linter.unusedVariables false
set_option linter.unusedSectionVars false
theorem u8_and64 {b:Int} (h0:0≤b) (h1:b≤127):Go.bits .and .u8 b 64=0↔b<64:=by
  have h:∀ n:Fin 128,(Go.bits .and .u8 ((n.val:Nat):Int) 64=0↔((n.val:Nat):Int)<64):=by decide+kernel
  obtain⟨b,rfl⟩:=Int.eq_ofNat_of_zero_le h0
  exact h ⟨b,by omega⟩
/-- The bytes of a number with a sign. -/
def sl:Nat→Int→List Int
  |0,x=>[x % 128]
  |f+1,x=>if -64≤x∧x<64 then [x % 128] else (x % 128+128) ::sl f (x / 128)
theorem sl_in {f:Nat} {x:Int} (h:-64≤x∧x<64):sl (f+1) x=[x % 128]:=by simp only[sl];rw[if_pos h]
theorem sl_out {f:Nat} {x:Int} (h:¬(-64≤x∧x<64)):sl (f+1) x=(x % 128+128) ::sl f (x / 128):=by simp only[sl];rw[if_neg h]
theorem sl_b8 (f:Nat):∀ x:Int,B8 (sl f x):=by
  induction f with
  |zero=>
    intro x y hy
    simp only[sl,List.mem_singleton] at hy
    subst hy;omega
  |succ f ih=>
    intro x y hy
    by_cases c:-64≤x∧x<64
    · rw[sl_in c,List.mem_singleton] at hy
      subst hy;omega
    · rw[sl_out c] at hy
      rcases List.mem_cons.1 hy with rfl|hy
      · omega
      · exact ih (x / 128) y hy
/-- One round of the writer. -/
theorem sleb_step (k:Nat) (x:Int) (acc:List Int) (ha:acc.length<140737488355328):impl_SlebBytes.l0 (k+1) x acc=if -64≤x∧x<64 then some (strOfNums (acc++[x % 128])) else impl_SlebBytes.l0 k (x / 128) (acc++[x % 128+128]):=by
  simp only[impl_SlebBytes.l0]
  rw[i64_and127,show x % 128 % 256=x % 128 by omega,u8_or128 (by omega) (by omega),show x % 128 % 128+128=x % 128+128 by omega]
  have h64:=u8_and64 (b:=x % 128) (by omega) (by omega)
  simp only[h64,if_pos ha]
  by_cases c1:x / 128=0
  · rw[if_pos c1]
    by_cases c2:x % 128<64
    · rw[if_pos c2,if_pos (by omega)]
    · rw[if_neg c2,if_neg (by omega),if_neg (by omega)]
  · rw[if_neg c1]
    by_cases c3:x / 128=-1
    · rw[if_pos c3]
      by_cases c2:x % 128<64
      · rw[if_pos c2,if_neg (by omega)]
      · rw[if_neg c2,if_pos (by omega)]
    · rw[if_neg c3,if_neg (by omega)]
theorem sleb_same:∀ (k:Nat) (x:Int) (acc:List Int),spec_l1Sleb.l0 k x acc=impl_SlebBytes.l0 k x acc:=by
  intro k
  induction k with
  |zero=>intros;rfl
  |succ k ih=>intro x acc;simp only[spec_l1Sleb.l0,impl_SlebBytes.l0,ih]
theorem pow_small {f:Nat} (hf:f≤9):(1:Int)≤128 ^ f∧(128:Int) ^ f≤9223372036854775808:=by
  have h1:(128:Int) ^ f≤128 ^ 9:=pow_le_pow 128 (by decide) hf
  have h2:(0:Int)<128 ^ f:=Int.pow_pos (by decide)
  have h3:(128:Int) ^ 9=9223372036854775808:=by decide
  exact⟨by omega,by omega⟩
theorem impl_sl_l0 (f:Nat):∀ (k:Nat) (x:Int) (acc:List Int),f<k→-(64*128 ^ f)≤x→x<64*128 ^ f→acc.length+f≤1000→impl_SlebBytes.l0 k x acc=some (strOfNums (acc++sl f x)):=by
  induction f with
  |zero=>
    intro k x acc hk h0 h1 ha
    obtain⟨k,rfl⟩:∃ j,k=j+1:=⟨k - 1,by omega⟩
    rw[Int.pow_zero] at h0 h1
    rw[sleb_step k x acc (by omega),if_pos (by omega)]
    rfl
  |succ f ih=>
    intro k x acc hk h0 h1 ha
    obtain⟨k,rfl⟩:∃ j,k=j+1:=⟨k - 1,by omega⟩
    rw[Int.pow_succ] at h0 h1
    rw[sleb_step k x acc (by omega)]
    by_cases c:-64≤x∧x<64
    · rw[if_pos c,sl_in c]
    · rw[if_neg c,sl_out c,ih k (x / 128) _ (by omega) (by omega) (by omega) (by simp;omega),List.append_assoc]
      rfl
/-- The bytes of a number of 64 bits with a sign. -/
def S (x:Int):List Int:=sl 9 x
theorem s_bounds {x:Int} (h0:-9223372036854775808≤x) (h1:x≤9223372036854775807):-(64*128 ^ 9)≤x∧x<64*128 ^ 9:=by
  have h9:(128:Int) ^ 9=9223372036854775808:=by decide
  rw[h9];omega
theorem impl_S (k:Nat) (hk:10≤k) (x:Int) (h0:-9223372036854775808≤x) (h1:x≤9223372036854775807):impl_SlebBytes.f k x=some (strOfNums (S x)):=by
  have hb:=s_bounds h0 h1
  unfold impl_SlebBytes.f
  rw[impl_sl_l0 9 k x [] (by omega) hb.1 hb.2 (by simp)]
  rfl
theorem sl_len (f:Nat):∀ x:Int,-(64*128 ^ f)≤x→x<64*128 ^ f→1≤(sl f x).length∧(sl f x).length≤f+1∧-(64*128 ^ ((sl f x).length - 1))≤x∧x<64*128 ^ ((sl f x).length - 1):=by
  induction f with
  |zero=>
    intro x h0 h1
    rw[show (sl 0 x).length=1 from rfl]
    exact⟨by omega,by omega,h0,h1⟩
  |succ f ih=>
    intro x h0 h1
    rw[Int.pow_succ] at h0 h1
    by_cases c:-64≤x∧x<64
    · rw[sl_in c,List.length_singleton]
      exact⟨by omega,by omega,by rw[Nat.sub_self,Int.pow_zero];omega,by rw[Nat.sub_self,Int.pow_zero];omega⟩
    · rw[sl_out c,List.length_cons]
      obtain⟨a,b,d,e⟩:=ih (x / 128) (by omega) (by omega)
      generalize (sl f (x / 128)).length=L at*
      obtain⟨L,rfl⟩:∃ j,L=j+1:=⟨L - 1,by omega⟩
      rw[Nat.add_sub_cancel] at d e ⊢
      rw[Int.pow_succ]
      exact⟨by omega,by omega,by omega,by omega⟩

theorem shl_i64 (x:Int) (j:Nat) (hj:j≤64):shl .i64 x (j:Int)=wrap64 (x*2 ^ j):=by
  have e:(IntKind.i64).bits=64:=rfl
  unfold shl
  rw[IntKind.wrap_i64,e,Int.toNat_natCast,Nat.min_eq_left hj]
  unfold wrap64
  omega
theorem sg7_bounds {low:Int} (h0:0≤low) (h1:low≤127):-64≤sg7 low∧sg7 low≤63:=by unfold sg7;split<;>omega
/-- One byte more, signed. -/
theorem acc_s (n q:Int) (i:Nat) (hn0:0≤n) (hn:n<128 ^ i) (hq0:-64≤q) (hq:q≤127) (hi:i≤8):Go.bits .or .i64 n (shl .i64 q ((7*i:Nat):Int))=n+q*128 ^ i:=by
  have hp:(128:Int) ^ i≤128 ^ 8:=pow_le_pow 128 (by decide) hi
  have h8:(128:Int) ^ 8=72057594037927936:=by decide
  have hp0:(0:Int)<128 ^ i:=Int.pow_pos (by decide)
  have hm0:-64*128 ^ i≤q*128 ^ i:=Int.mul_le_mul_of_nonneg_right hq0 (Int.le_of_lt hp0)
  have hm1:q*128 ^ i≤127*128 ^ i:=Int.mul_le_mul_of_nonneg_right hq (Int.le_of_lt hp0)
  rw[shl_i64 _ _ (by omega),←pow128,w64 (by omega) (by omega),i64_join (7*i) (by omega) n _ hn0 (by rw[←pow128];exact hn) (by rw[←pow128];exact Int.mul_emod_left _ _) (by omega) (by omega)]
theorem acc_next (n low:Int) (i:Nat) (hn0:0≤n) (hn:n<128 ^ i) (h0:0≤low) (h1:low≤127):0≤n+low*128 ^ i∧n+low*128 ^ i<128 ^ (i+1):=by
  have hp0:(0:Int)<128 ^ i:=Int.pow_pos (by decide)
  have hm0:0≤low*128 ^ i:=Int.mul_nonneg h0 (Int.le_of_lt hp0)
  have hm1:low*128 ^ i≤127*128 ^ i:=Int.mul_le_mul_of_nonneg_right h1 (Int.le_of_lt hp0)
  rw[Int.pow_succ]
  omega
section
variable (s:ByteArray) (b mo:Nat) (hs:s.size≤1000000000) (hb0:1≤b) (hb:b≤64) (hmo:mo=(b+6) / 7)
include hs hb0 hb hmo
theorem most_ok:wrap64 (Int.tdiv (wrap64 ((b:Int)+6)) 7)=(mo:Int):=by
  rw[w64 (n:=(b:Int)+6) (by omega) (by omega),Int.tdiv_eq_ediv_of_nonneg (by omega),w64 (by omega) (by omega)]
  omega
/-- What the last byte tells, in the program's text. -/
theorem impl_last (k i:Nat) (n:Int) (hi:i<mo) (hsz:i<s.size) (hn0:0≤n) (hn:n<128 ^ i) (hbt:bt s (i:Int)<128):
    impl_TakeSleb.l0 (k+4) s (b:Int) n (i:Int)=some (if fitS (bt s (i:Int)) ((b:Int) - 7*(i:Int))=true then (n+sg7 (bt s (i:Int))*128 ^ i,((i+1:Nat):Int)) else (0,0)):=by
  have hr:=bt_rng s (i:Int)
  have hq:=sg7_bounds hr.1 (by omega)
  simp only[impl_TakeSleb.l0,impl_TakeSleb.j2,impl_TakeSleb.j3,impl_TakeSleb.j4]
  rw[most_ok s b mo hs hb0 hb hmo,if_pos (by omega),decide_eq_true (by omega),if_pos rfl,if_pos (by omega),if_pos (by omega),u8_and127 hr.1 hr.2,show bt s (i:Int) % 128=bt s (i:Int) by omega,w64 (n:=bt s (i:Int)) (by omega) (by omega),w64 (n:=bt s (i:Int) - 128) (by omega) (by omega),w64 (n:=7*(i:Int)) (by omega) (by omega),w64 (n:=(b:Int) - 7*(i:Int)) (by omega) (by omega),w64 (n:=(i:Int)+1) (by omega) (by omega),w64 (n:=(b:Int) - 7*(i:Int) - 1) (by omega) (by omega)]
  generalize hlow:bt s (i:Int)=low at*
  have main:∀ q:Int,q=sg7 low→(if (b:Int) - 7*(i:Int)<7 then (if 0≤(b:Int) - 7*(i:Int) - 1 then (if shr .i64 q ((b:Int) - 7*(i:Int) - 1)=0 then (if false=true then some ((0:Int),(0:Int)) else (if 0≤(i:Int) then (if (i:Int)<(s.size:Int) then (if low<128 then (if 0≤7*(i:Int) then (some (Go.bits .or .i64 n (shl .i64 q (7*(i:Int))),(i:Int)+1)) else (none)) else (if 0≤7*(i:Int) then (impl_TakeSleb.l0 k s (b:Int) (Go.bits .or .i64 n (shl .i64 low (7*(i:Int)))) ((i:Int)+1)) else (none))) else (none)) else (none))) else (if (shr .i64 q ((b:Int) - 7*(i:Int) - 1) !=-1)=true then some (0,0) else (if 0≤(i:Int) then (if (i:Int)<(s.size:Int) then (if low<128 then (if 0≤7*(i:Int) then (some (Go.bits .or .i64 n (shl .i64 q (7*(i:Int))),(i:Int)+1)) else (none)) else (if 0≤7*(i:Int) then (impl_TakeSleb.l0 k s (b:Int) (Go.bits .or .i64 n (shl .i64 low (7*(i:Int)))) ((i:Int)+1)) else (none))) else (none)) else (none)))) else (none)) else (if false=true then some (0,0) else (if 0≤(i:Int) then (if (i:Int)<(s.size:Int) then (if low<128 then (if 0≤7*(i:Int) then (some (Go.bits .or .i64 n (shl .i64 q (7*(i:Int))),(i:Int)+1)) else (none)) else (if 0≤7*(i:Int) then (impl_TakeSleb.l0 k s (b:Int) (Go.bits .or .i64 n (shl .i64 low (7*(i:Int)))) ((i:Int)+1)) else (none))) else (none)) else (none))))=
      some (if fitS low ((b:Int) - 7*(i:Int))=true then (n+sg7 low*128 ^ i,((i+1:Nat):Int)) else (0,0)):=by
    intro q hqe
    subst hqe
    have val:fitS low ((b:Int) - 7*(i:Int))=true→(if 0≤(i:Int) then (if (i:Int)<(s.size:Int) then (if low<128 then (if 0≤7*(i:Int) then (some (Go.bits .or .i64 n (shl .i64 (sg7 low) (7*(i:Int))),(i:Int)+1)) else (none)) else (if 0≤7*(i:Int) then (impl_TakeSleb.l0 k s (b:Int) (Go.bits .or .i64 n (shl .i64 low (7*(i:Int)))) ((i:Int)+1)) else (none))) else (none)) else (none))=some (n+sg7 low*128 ^ i,((i+1:Nat):Int)):=by
      intro hf
      rw[if_pos (by omega),if_pos (by omega),if_pos hbt,if_pos (by omega),show (7*(i:Int))=((7*i:Nat):Int) by omega,show ((i:Int)+1)=((i+1:Nat):Int) by omega]
      by_cases c8:i≤8
      · rw[acc_s n (sg7 low) i hn0 hn hq.1 (by omega) c8]
      · have hi9:i=9:=by omega
        have hb64:b=64:=by omega
        subst hi9 hb64
        have h9:(128:Int) ^ 9=9223372036854775808:=by decide
        rw[show (((64:Nat):Int) - 7*((9:Nat):Int))=1 by decide] at hf
        unfold fitS at hf
        simp only[show decide ((7:Int)≤1)=false from by decide,Bool.false_or,decide_eq_true_eq,show ((1:Int) - 1).toNat=0 from rfl,Int.pow_zero] at hf
        have hcase:sg7 low=0∨sg7 low=-1:=by omega
        rcases hcase with e|e
        · rw[e,shl_i64 _ _ (by decide),Int.zero_mul,w64 (by decide) (by decide),i64_join 63 (by decide) n 0 hn0 (by rw[h9] at hn;exact hn) (by decide) (by decide) (by decide),Int.zero_mul]
        · rw[e,shl_i64 _ _ (by decide),show (-1:Int)*2 ^ (7*9)=-9223372036854775808 by decide,w64 (by decide) (by decide),i64_join 63 (by decide) n _ hn0 (by rw[h9] at hn;exact hn) (by decide) (by decide) (by decide),h9]
          rfl
    by_cases c7:(b:Int) - 7*(i:Int)<7
    · have hfit:=(shr_fit (low:=low) (r:=(b:Int) - 7*(i:Int)) hr.1 (by omega) (by omega) c7).1
      rw[if_pos c7,if_pos (by omega)]
      by_cases z:shr .i64 (sg7 low) ((b:Int) - 7*(i:Int) - 1)=0
      · have hf:fitS low ((b:Int) - 7*(i:Int))=true:=by rw[hfit,z];rfl
        rw[if_pos z,if_neg (by decide),val hf,hf,if_pos rfl]
      · rw[if_neg z]
        by_cases z2:shr .i64 (sg7 low) ((b:Int) - 7*(i:Int) - 1)=-1
        · have hf:fitS low ((b:Int) - 7*(i:Int))=true:=by rw[hfit,z2];rfl
          rw[show (shr .i64 (sg7 low) ((b:Int) - 7*(i:Int) - 1) !=-1)=false from by rw[z2];rfl,if_neg (by decide),val hf,hf,if_pos rfl]
        · have hf:fitS low ((b:Int) - 7*(i:Int))=false:=by rw[hfit];simp[z,z2]
          rw[show (shr .i64 (sg7 low) ((b:Int) - 7*(i:Int) - 1) !=-1)=true from by simpa using z2,if_pos rfl,hf,if_neg (by decide)]
    · have hf:fitS low ((b:Int) - 7*(i:Int))=true:=by unfold fitS;rw[decide_eq_true (by omega)];rfl
      rw[if_neg c7,if_neg (by decide),val hf,hf,if_pos rfl]
  by_cases c64:low≥64
  · rw[if_pos c64]
    exact main (low - 128) (by unfold sg7;rw[if_pos c64])
  · rw[if_neg c64]
    exact main low (by unfold sg7;rw[if_neg c64])
/-- A byte that says that there is more. -/
theorem impl_more (k i:Nat) (n:Int) (hi:i<mo) (hsz:i<s.size) (hn0:0≤n) (hn:n<128 ^ i) (hbt:128≤bt s (i:Int)):
    (i+1<mo→impl_TakeSleb.l0 (k+4) s (b:Int) n (i:Int)=impl_TakeSleb.l0 k s (b:Int) (n+(bt s (i:Int) - 128)*128 ^ i) ((i+1:Nat):Int)):=by
  have hr:=bt_rng s (i:Int)
  have e1:Unit→bt s (i:Int) % 128=bt s (i:Int) - 128:=fun _=>by omega
  have hw1:Unit→wrap64 (bt s (i:Int) - 128)=bt s (i:Int) - 128:=fun _=>w64 (by omega) (by omega)
  have hw2:Unit→wrap64 (bt s (i:Int) - 128 - 128)=bt s (i:Int) - 128 - 128:=fun _=>w64 (by omega) (by omega)
  have hw3:Unit→wrap64 (7*(i:Int))=7*(i:Int):=fun _=>w64 (by omega) (by omega)
  have hw4:Unit→wrap64 ((b:Int) - 7*(i:Int))=(b:Int) - 7*(i:Int):=fun _=>w64 (by omega) (by omega)
  have hw5:Unit→wrap64 ((i:Int)+1)=((i+1:Nat):Int):=by intro _;rw[w64 (by omega) (by omega)];omega
  have hw6:Unit→wrap64 ((b:Int) - 7*(i:Int) - 1)=(b:Int) - 7*(i:Int) - 1:=fun _=>w64 (by omega) (by omega)
  · intro h
    have c7:¬(b:Int) - 7*(i:Int)<7:=by omega
    simp only[impl_TakeSleb.l0,impl_TakeSleb.j2,impl_TakeSleb.j3,impl_TakeSleb.j4]
    rw[most_ok s b mo hs hb0 hb hmo,if_pos (by omega),decide_eq_true (by omega),if_pos rfl,if_pos (by omega),if_pos (by omega),u8_and127 hr.1 hr.2,e1 (),hw1 (),hw2 (),hw3 (),hw4 (),hw5 ()]
    have cA:(0:Int)≤(i:Int):=by omega
    have cB:(i:Int)<(s.size:Int):=by omega
    have cC:¬bt s (i:Int)<128:=by omega
    have cD:(0:Int)≤7*(i:Int):=by omega
    simp only[if_neg c7,if_pos cA,if_pos cB,if_neg cC,if_pos cD,Bool.false_eq_true,if_false,ite_self]
    rw[show (7*(i:Int))=((7*i:Nat):Int) by omega,acc_s n _ i hn0 hn (by omega) (by omega) (by omega)]
end

theorem sl_more (f:Nat):∀ x:Int,-(64*128 ^ f)≤x→x<64*128 ^ f→sl f x=sl (f+1) x:=by
  induction f with
  |zero=>
    intro x h0 h1
    rw[Int.pow_zero] at h0 h1
    rw[sl_in ⟨by omega,by omega⟩];rfl
  |succ f ih=>
    intro x h0 h1
    rw[Int.pow_succ] at h0 h1
    by_cases c:-64≤x∧x<64
    · rw[sl_in c,sl_in c]
    · rw[sl_out c,sl_out c,ih (x / 128) (by omega) (by omega)]
theorem sl_4 {x:Int} (h0:-2147483648≤x) (h1:x≤2147483647):S x=sl 4 x:=by
  have p:∀ n:Nat,4≤n→(268435456:Int)≤128 ^ n:=fun n hn=>by
    have:(128:Int) ^ 4≤128 ^ n:=pow_le_pow 128 (by decide) hn
    rwa [show (128:Int) ^ 4=268435456 by decide] at this
  have q:∀ n:Nat,4≤n→sl n x=sl (n+1) x:=fun n hn=>sl_more n x (by have:=p n hn;omega) (by have:=p n hn;omega)
  unfold S
  rw[q 4 (by decide),q 5 (by decide),q 6 (by decide),q 7 (by decide),q 8 (by decide)]
/-- What was written is read, whatever stands behind it, in 32 bits or 64. -/
theorem take_sb (b mo:Nat) (hbm:b=32∧mo=5∨b=64∧mo=10) (f:Nat):∀ (k:Nat) (s:ByteArray) (i:Nat) (n x:Int),4*f+4≤k→i+f+1=mo→s.size≤1000000000→0≤n→n<128 ^ i→-(2 ^ (b - 1))≤n+x*128 ^ i→n+x*128 ^ i<2 ^ (b - 1)→At s i (sl f x)→
    impl_TakeSleb.l0 k s (b:Int) n (i:Int)=some (n+x*128 ^ i,((i+(sl f x).length:Nat):Int)):=by
  have hb0:1≤b:=by omega
  have hb1:b≤64:=by omega
  have hmo:mo=(b+6) / 7:=by omega
  have last:∀ (k:Nat) (s:ByteArray) (i:Nat) (n x:Int),4≤k→i<mo→s.size≤1000000000→0≤n→n<128 ^ i→-64≤x→x<64→(b=32→i=4→-8≤x∧x<8)→(b=64→i=9→-1≤x∧x≤0)→At s i [x % 128]→impl_TakeSleb.l0 k s (b:Int) n (i:Int)=some (n+x*128 ^ i,((i+1:Nat):Int)):=by
    intro k s i n x hk hi hs hn0 hn hx0 hx1 h4 h9 hat
    obtain⟨hbt,hsz,-⟩:=hat
    obtain⟨k,rfl⟩:∃ j,k=j+4:=⟨k - 4,by omega⟩
    have e:=impl_last s b mo hs hb0 hb1 hmo k i n hi hsz hn0 hn (by rw[hbt];omega)
    have hsg:sg7 (x % 128)=x:=by unfold sg7;split<;>omega
    have hf:fitS (x % 128) ((b:Int) - 7*(i:Int))=true:=by
      unfold fitS
      rw[hsg]
      by_cases c:i+1=mo
      · rcases hbm with ⟨rfl,rfl⟩|⟨rfl,rfl⟩
        · obtain rfl:i=4:=by omega
          have:=h4 rfl rfl
          rw[show (((32:Nat):Int) - 7*((4:Nat):Int) - 1).toNat=3 from rfl,show (2:Int) ^ 3=8 by decide]
          simp;omega
        · obtain rfl:i=9:=by omega
          have:=h9 rfl rfl
          rw[show (((64:Nat):Int) - 7*((9:Nat):Int) - 1).toNat=0 from rfl,Int.pow_zero]
          simp;omega
      · rw[decide_eq_true (by omega)];rfl
    rw[hbt,hf,if_pos rfl,hsg] at e
    exact e
  have p4:(128:Int) ^ 4=268435456:=by decide
  have p9:(128:Int) ^ 9=9223372036854775808:=by decide
  have q31:(2:Int) ^ (32 - 1)=2147483648:=by decide
  have q63:(2:Int) ^ (64 - 1)=9223372036854775808:=by decide
  have top:∀ (i:Nat) (n x:Int),0≤n→n<128 ^ i→-(2 ^ (b - 1))≤n+x*128 ^ i→n+x*128 ^ i<2 ^ (b - 1)→(b=32→i=4→-8≤x∧x<8)∧(b=64→i=9→-1≤x∧x≤0):=by
    intro i n x hn0 hn h0 h1
    constructor
    · intro hb hi
      subst hb hi
      rw[p4] at hn h0 h1;rw[q31] at h0 h1
      omega
    · intro hb hi
      subst hb hi
      rw[p9] at hn h0 h1;rw[q63] at h0 h1
      omega
  induction f with
  |zero=>
    intro k s i n x hk hi hs hn0 hn hb0' hb1' hat
    have ht:=top i n x hn0 hn hb0' hb1'
    have hx:-64≤x∧x<64:=by
      rcases hbm with ⟨h,h2⟩|⟨h,h2⟩
      · have:=ht.1 h (by omega);omega
      · have:=ht.2 h (by omega);omega
    exact last k s i n x (by omega) (by omega) hs hn0 hn hx.1 hx.2 ht.1 ht.2 hat
  |succ f ih=>
    intro k s i n x hk hi hs hn0 hn hb0' hb1' hat
    have ht:=top i n x hn0 hn hb0' hb1'
    by_cases c:-64≤x∧x<64
    · rw[sl_in c] at hat ⊢
      exact last k s i n x (by omega) (by omega) hs hn0 hn c.1 c.2 ht.1 ht.2 hat
    · rw[sl_out c] at hat ⊢
      obtain⟨hbt,hsz,hrest⟩:=hat
      obtain⟨k,rfl⟩:∃ j,k=j+4:=⟨k - 4,by omega⟩
      have e:=(impl_more s b mo hs hb0 hb1 hmo k i n (by omega) hsz hn0 hn (by rw[hbt];omega)) (by omega)
      rw[hbt,show x % 128+128 - 128=x % 128 by omega] at e
      obtain⟨hN0,hN⟩:=acc_next n (x % 128) i hn0 hn (by omega) (by omega)
      have hsplit:x*128 ^ i=x % 128*128 ^ i+x / 128*128 ^ (i+1):=by
        have:x=x % 128+x / 128*128:=by omega
        conv=>lhs;rw[this]
        rw[Int.add_mul,Int.pow_succ,Int.mul_assoc (x / 128) 128,Int.mul_comm 128]
      have e2:=ih k s (i+1) (n+x % 128*128 ^ i) (x / 128) (by omega) (by omega) hs hN0 hN (by omega) (by omega) hrest
      rw[e,e2,List.length_cons,hsplit,show n+x % 128*128 ^ i+x / 128*128 ^ (i+1)=n+(x % 128*128 ^ i+x / 128*128 ^ (i+1)) by omega,show i+1+(sl f (x / 128)).length=i+((sl f (x / 128)).length+1) by omega]

theorem take_S64 (k:Nat) (hk:60≤k) (x:Int) (h0:-9223372036854775808≤x) (h1:x≤9223372036854775807) (more:ByteArray) (hm:more.size≤1000000):impl_TakeSleb.f k (strOfNums (S x)++more) 64=some (x,((S x).length:Int)):=by
  obtain⟨k,rfl⟩:∃ j,k=j+1:=⟨k - 1,by omega⟩
  have hb:=s_bounds h0 h1
  have hl:=sl_len 9 x hb.1 hb.2
  unfold impl_TakeSleb.f
  rw[if_neg (by decide),show decide ((64:Int) > 64)=false from by decide]
  simp only[impl_TakeSleb.j0]
  rw[if_neg (by decide)]
  have:=take_sb 64 10 (Or.inr ⟨rfl,rfl⟩) 9 k (strOfNums (S x)++more) 0 0 x (by omega) (by omega) (by rw[ByteArray.size_append,strOfNums_size];unfold S;omega) (by decide) (by decide) (by rw[Int.pow_zero,show (2:Int) ^ (64 - 1)=9223372036854775808 by decide];omega) (by rw[Int.pow_zero,show (2:Int) ^ (64 - 1)=9223372036854775808 by decide];omega) (At_str (S x) (sl_b8 9 x) more)
  rw[Int.pow_zero,Int.mul_one,Int.zero_add,Nat.zero_add] at this
  exact this
theorem take_S32 (k:Nat) (hk:60≤k) (x:Int) (h0:-2147483648≤x) (h1:x≤2147483647) (more:ByteArray) (hm:more.size≤1000000):impl_TakeSleb.f k (strOfNums (S x)++more) 32=some (x,((S x).length:Int)):=by
  obtain⟨k,rfl⟩:∃ j,k=j+1:=⟨k - 1,by omega⟩
  have hb:=s_bounds (x:=x) (by omega) (by omega)
  have hl:=sl_len 9 x hb.1 hb.2
  have h8:=sl_b8 9 x
  change B8 (S x) at h8
  change 1≤(S x).length∧(S x).length≤9+1∧_ at hl
  rw[sl_4 h0 h1] at h8 hl ⊢
  unfold impl_TakeSleb.f
  rw[if_neg (by decide),show decide ((32:Int) > 64)=false from by decide]
  simp only[impl_TakeSleb.j0]
  rw[if_neg (by decide)]
  have:=take_sb 32 5 (Or.inl ⟨rfl,rfl⟩) 4 k (strOfNums (sl 4 x)++more) 0 0 x (by omega) (by omega) (by rw[ByteArray.size_append,strOfNums_size];omega) (by decide) (by decide) (by rw[Int.pow_zero,show (2:Int) ^ (32 - 1)=2147483648 by decide];omega) (by rw[Int.pow_zero,show (2:Int) ^ (32 - 1)=2147483648 by decide];omega) (At_str (sl 4 x) h8 more)
  rw[Int.pow_zero,Int.mul_one,Int.zero_add,Nat.zero_add] at this
  exact this
end Go.Proofs.Ytmajifnehjlncaa.Leb
