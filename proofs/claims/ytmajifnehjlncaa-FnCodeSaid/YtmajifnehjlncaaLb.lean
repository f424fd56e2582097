/- Bits of bytes, texts and their bytes: what numbers in bytes need. -/
import Derived.Test.YtmajifnehjlncaaMb
namespace Go.Proofs.Ytmajifnehjlncaa.Leb
open Go.RowKit Go.Proofs.YtmajifnehjlncaaW.PrintWords Go.Proofs.YtmajifnehjlncaaW.PrintLast Go.Proofs.YtmajifnehjlncaaW.PrintMore Go.Proofs.Ytmajifnehjlncaa.Mb
set_option linter.unusedSimpArgs false
set_option linter.unusedVariables false

/-! bits of bytes and of signed numbers -/
theorem u8_and127 {b:Int} (h0:0≤b) (h1:b≤255):Go.bits .and .u8 b 127=b % 128:=by
  have h:∀ n:Fin 256,Go.bits .and .u8 ((n.val:Nat):Int) 127=((n.val:Nat):Int) % 128:=by decide+kernel
  obtain⟨b,rfl⟩:=Int.eq_ofNat_of_zero_le h0
  exact h ⟨b,by omega⟩
theorem u8_or128 {b:Int} (h0:0≤b) (h1:b≤255):Go.bits .or .u8 b 128=b % 128+128:=by
  have h:∀ n:Fin 256,Go.bits .or .u8 ((n.val:Nat):Int) 128=((n.val:Nat):Int) % 128+128:=by decide+kernel
  obtain⟨b,rfl⟩:=Int.eq_ofNat_of_zero_le h0
  exact h ⟨b,by omega⟩
theorem u64_and127 {x:Int} (h0:0≤x) (h1:x≤18446744073709551615):Go.bits .and .u64 x 127=x % 128:=u64_mask 7 (by decide) x h0 (by omega)
theorem ofInt_mod (x:Int):BitVec.ofInt 64 x=BitVec.ofInt 64 (x % 18446744073709551616):=by
  apply BitVec.eq_of_toInt_eq
  rw[BitVec.toInt_ofInt,BitVec.toInt_ofInt]
  have h:=Int.emod_bmod x 18446744073709551616
  exact h.symm
theorem and_i64 (x y:Int):Go.bits .and .i64 x y=wrap64 (Go.bits .and .u64 (x % 18446744073709551616) (y % 18446744073709551616)):=by
  have e1:(IntKind.i64).bits=64:=rfl
  have e2:(IntKind.u64).bits=64:=rfl
  show IntKind.i64.wrap (((BitVec.ofInt 64 x &&& BitVec.ofInt 64 y).toNat:Nat):Int)=wrap64 (IntKind.u64.wrap (((BitVec.ofInt 64 (x % 18446744073709551616) &&& BitVec.ofInt 64 (y % 18446744073709551616)).toNat:Nat):Int))
  rw[←ofInt_mod x,←ofInt_mod y,IntKind.wrap_i64,wrap_u64]
  unfold wrap64
  omega
theorem or_i64 (x y:Int):Go.bits .or .i64 x y=wrap64 (Go.bits .or .u64 (x % 18446744073709551616) (y % 18446744073709551616)):=by
  have e1:(IntKind.i64).bits=64:=rfl
  have e2:(IntKind.u64).bits=64:=rfl
  show IntKind.i64.wrap (((BitVec.ofInt 64 x |||BitVec.ofInt 64 y).toNat:Nat):Int)=wrap64 (IntKind.u64.wrap (((BitVec.ofInt 64 (x % 18446744073709551616) |||BitVec.ofInt 64 (y % 18446744073709551616)).toNat:Nat):Int))
  rw[←ofInt_mod x,←ofInt_mod y,IntKind.wrap_i64,wrap_u64]
  unfold wrap64
  omega
theorem i64_and127 (x:Int):Go.bits .and .i64 x 127=x % 128:=by
  rw[and_i64,show (127:Int) % 18446744073709551616=127 by decide,u64_and127 (by omega) (by omega),w64 (by omega) (by omega)]
  omega
/-- A multiple of 2^j, of any sign, and what is below 2^j. -/
theorem i64_join (j:Nat) (hj:j≤63) (x y:Int) (hx0:0≤x) (hx:x<2 ^ j) (hy:y % 2 ^ j=0) (hy0:-9223372036854775808≤y) (hy1:y≤9223372036854775807):Go.bits .or .i64 x y=x+y:=by
  have hp:(2:Int) ^ j≤9223372036854775808:=by
    have:=two_pow_lt hj
    have e:((2 ^ j:Nat):Int)=(2:Int) ^ j:=by rw[Int.natCast_pow];rfl
    omega
  have hd:(2:Int) ^ j∣18446744073709551616:=⟨2 ^ (64 - j),by rw[←Int.pow_add,show j+(64 - j)=64 by omega];decide⟩
  rw[or_i64,Int.emod_eq_of_lt hx0 (by omega),bits_or_comm,u64_join j (y % 18446744073709551616) x (by omega) (by rw[Int.emod_emod_of_dvd _ hd];exact hy) (by omega) hx0 hx (by omega)]
  have hs:-9223372036854775808≤x+y∧x+y≤9223372036854775807:=by
    obtain⟨t,ht⟩:=Int.dvd_of_emod_eq_zero hy
    have h2:(2:Int) ^ j*t+2 ^ j≤9223372036854775808:=by
      obtain⟨u,hu⟩:(2:Int) ^ j∣9223372036854775808:=⟨2 ^ (63 - j),by rw[←Int.pow_add,show j+(63 - j)=63 by omega];decide⟩
      have hpos:(0:Int)<2 ^ j:=Int.pow_pos (by decide)
      have h3:t<u:=by
        refine Int.lt_of_mul_lt_mul_left (a:=2 ^ j) ?_ (Int.le_of_lt hpos)
        omega
      have h4:(2:Int) ^ j*(t+1)≤2 ^ j*u:=Int.mul_le_mul_of_nonneg_left (by omega) (Int.le_of_lt hpos)
      rw[Int.mul_add,Int.mul_one] at h4
      omega
    omega
  unfold wrap64
  omega

/-! texts and their bytes -/
theorem bt_str (xs:List Int) (i:Nat) (hi:i<xs.length) (h0:0≤xs.getD i 0) (h1:xs.getD i 0≤255):bt (strOfNums xs) (i:Int)=xs.getD i 0:=by
  unfold bt
  have hs:(i:Int).toNat<(strOfNums xs).size:=by rw[Int.toNat_natCast,strOfNums_size];exact hi
  rw[dif_pos hs]
  have e:(strOfNums xs)[(i:Int).toNat]'hs=UInt8.ofNat (xs.getD i 0).toNat:=by
    simp only[Int.toNat_natCast,strOfNums,ByteArray.getElem_eq_getElem_data,List.getElem_toArray,List.getElem_map,List.getD_eq_getElem?_getD,List.getElem?_eq_getElem hi,Option.getD_some]
  rw[e]
  generalize xs.getD i 0=x at*
  obtain⟨x,rfl⟩:=Int.eq_ofNat_of_zero_le h0
  rw[Int.toNat_natCast,UInt8.toNat_ofNat']
  omega
theorem bt_rng (s:ByteArray) (i:Int):0≤bt s i∧bt s i≤255:=by
  unfold bt
  split
  · rename_i h
    have:=(s[i.toNat]'h).toNat_lt
    omega
  · omega
theorem bt_append (a b:ByteArray) (i:Nat) (h:i<a.size):bt (a++b) (i:Int)=bt a (i:Int):=by
  unfold bt
  have h1:(i:Int).toNat<a.size:=by rw[Int.toNat_natCast];exact h
  have h2:(i:Int).toNat<(a++b).size:=by rw[ByteArray.size_append];omega
  rw[dif_pos h1,dif_pos h2]
  congr 2
  exact ByteArray.getElem_append_left h1
/-- These bytes stand in a text from place i on. -/
def At (s:ByteArray) (i:Nat):List Int→Prop
  |[]=>True
  |x ::xs=>bt s (i:Int)=x∧i<s.size∧At s (i+1) xs
def B8 (xs:List Int):Prop:=∀ x∈xs,0≤x∧x≤255
theorem At_of (s:ByteArray) (ys:List Int):∀ (xs:List Int) (i:Nat),(∀ j,j<xs.length→bt s ((i+j:Nat):Int)=xs.getD j 0)→i+xs.length≤s.size→At s i xs:=by
  intro xs
  induction xs with
  |nil=>intro i _ _;trivial
  |cons x xs ih=>
    intro i h hs
    rw[List.length_cons] at hs
    refine⟨h 0 (by simp),by omega,ih (i+1) (fun j hj=>?_) (by omega)⟩
    have:=h (j+1) (by simpa using hj)
    rw[show i+(j+1)=i+1+j by omega] at this
    rw[this];rfl
/-- What was made out of bytes, and anything behind it. -/
theorem At_str (xs:List Int) (hb:B8 xs) (more:ByteArray):At (strOfNums xs++more) 0 xs:=by
  refine At_of _ xs xs 0 (fun j hj=>?_) ?_
  · have hm:xs.getD j 0∈xs:=by
      rw[List.getD_eq_getElem?_getD,List.getElem?_eq_getElem hj];exact List.getElem_mem hj
    have:=hb _ hm
    rw[Nat.zero_add,bt_append _ _ _ (by rw[strOfNums_size];exact hj),bt_str xs j hj this.1 this.2]
  · rw[ByteArray.size_append,strOfNums_size];omega

theorem pow128 (i:Nat):(128:Int) ^ i=2 ^ (7*i):=by rw[Int.pow_mul];rfl
/-- One byte more. -/
theorem acc_u (n low:Int) (i:Nat) (hn0:0≤n) (hn:n<128 ^ i) (hl0:0≤low) (hl:low≤127) (hb:low*128 ^ i<18446744073709551616) (hi:i≤9):Go.bits .or .u64 n (shl .u64 low ((7*i:Nat):Int))=n+low*128 ^ i:=by
  have hp:(128:Int) ^ i≤128 ^ 9:=pow_le_pow 128 (by decide) hi
  have h9:(128:Int) ^ 9=9223372036854775808:=by decide
  have hp0:(0:Int)<128 ^ i:=Int.pow_pos (by decide)
  have hm0:0≤low*128 ^ i:=Int.mul_nonneg hl0 (Int.le_of_lt hp0)
  rw[shl_u64 _ _ (7*i) rfl (by omega),←pow128,Int.emod_eq_of_lt hm0 hb,bits_or_comm,u64_join (7*i) _ n hm0 (by rw[←pow128];exact Int.mul_emod_left _ _) hb hn0 (by rw[←pow128];exact hn) (by omega)]
  omega
/-- A byte's seven bits with their sign. -/
def sg7 (low:Int):Int:=if low≥64 then low - 128 else low
/-- Is the last byte right, when but r bits are left? -/
def fitS (low r:Int):Bool:=decide (7≤r) ||decide (-(2 ^ (r - 1).toNat)≤sg7 low∧sg7 low<2 ^ (r - 1).toNat)
theorem shr_fit {low r:Int} (h0:0≤low) (h1:low≤127) (hr0:1≤r) (hr:r<7):fitS low r=((shr .i64 (sg7 low) (r - 1)==0) ||(shr .i64 (sg7 low) (r - 1)==-1))∧
    fitS low r=((shr .u64 low (r - 1)==0) ||(shr .u64 low (r - 1)==shr .u64 127 (r - 1))):=by
  have h:∀ n:Fin 128,∀ q:Fin 6,fitS ((n.val:Nat):Int) (((q.val:Nat):Int)+1)=((shr .i64 (sg7 ((n.val:Nat):Int)) (((q.val:Nat):Int)+1 - 1)==0) ||(shr .i64 (sg7 ((n.val:Nat):Int)) (((q.val:Nat):Int)+1 - 1)==-1))∧
      fitS ((n.val:Nat):Int) (((q.val:Nat):Int)+1)=((shr .u64 ((n.val:Nat):Int) (((q.val:Nat):Int)+1 - 1)==0) ||(shr .u64 ((n.val:Nat):Int) (((q.val:Nat):Int)+1 - 1)==shr .u64 127 (((q.val:Nat):Int)+1 - 1))):=by decide+kernel
  obtain⟨low,rfl⟩:=Int.eq_ofNat_of_zero_le h0
  obtain⟨q,rfl⟩:∃ q:Nat,r=(q:Int)+1:=⟨(r - 1).toNat,by omega⟩
  exact h ⟨low,by omega⟩ ⟨q,by omega⟩
end Go.Proofs.Ytmajifnehjlncaa.Leb
