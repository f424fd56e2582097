/- Small facts on whole numbers of 64 bits, on bits and on shifts, as the walked functions spell them. -/
import Derived.Test.YtoeenmajdidfoaaDoorWWords
import Derived.RowKit
import Derived.Laws.BitsLemmas
import Derived.RowKit3
namespace Go.Proofs.YtoeenmajdidfoaaDoor.Mb
open Go.RowKit Go.Proofs.YtoeenmajdidfoaaDoorW.PrintWords Go.Proofs.YtoeenmajdidfoaaDoorW.PrintMore
set_option linter.unusedVariables false
set_option linter.unusedSimpArgs false

theorem wrap_u64 (n:Int):IntKind.u64.wrap n=n % 18446744073709551616:=by simp[IntKind.wrap,IntKind.bits,IntKind.signed]
theorem wrap_u16 (n:Int):IntKind.u16.wrap n=n % 65536:=by simp[IntKind.wrap,IntKind.bits,IntKind.signed]
theorem wraps_u64 (n:Int) (h₀:0≤n) (h₁:n<2 ^ 64):IntKind.u64.wrap n=n:=by rw[wrap_u64];omega
theorem wraps_u32 (n:Int) (h₀:0≤n) (h₁:n<2 ^ 32):IntKind.u32.wrap n=n:=by rw[IntKind.wrap_u32];omega
theorem wraps_i64 (n:Int) (h₀:0≤n) (h₁:n<2 ^ 63):IntKind.i64.wrap n=n:=by rw[IntKind.wrap_i64];omega
theorem w64 {n:Int} (h₀:-9223372036854775808≤n) (h₁:n≤9223372036854775807):wrap64 n=n:=by unfold wrap64;omega
theorem wu64 {n:Int} (h₀:0≤n) (h₁:n≤18446744073709551615):IntKind.u64.wrap n=n:=by rw[wrap_u64];omega
theorem wf_i64 {n:Int} (h:(Lit.int .i64 n).wf=true):-9223372036854775808≤n∧n≤9223372036854775807:=by
  simpa [Lit.wf,show IntKind.i64.min=-9223372036854775808 from rfl,show IntKind.i64.max=9223372036854775807 from rfl] using h
theorem wf_u64 {n:Int} (h:(Lit.int .u64 n).wf=true):0≤n∧n≤18446744073709551615:=by
  simpa [Lit.wf,show IntKind.u64.min=0 from rfl,show IntKind.u64.max=18446744073709551615 from rfl] using h
theorem wf_u32 {n:Int} (h:(Lit.int .u32 n).wf=true):0≤n∧n≤4294967295:=by
  simpa [Lit.wf,show IntKind.u32.min=0 from rfl,show IntKind.u32.max=4294967295 from rfl] using h
theorem wf_u8 {n:Int} (h:(Lit.int .u8 n).wf=true):0≤n∧n≤255:=by
  simpa [Lit.wf,show IntKind.u8.min=0 from rfl,show IntKind.u8.max=255 from rfl] using h
theorem wrap64_range (n:Int):-9223372036854775808≤wrap64 n∧wrap64 n≤9223372036854775807:=by unfold wrap64;omega
theorem wrap_u64_range (n:Int):0≤IntKind.u64.wrap n∧IntKind.u64.wrap n≤18446744073709551615:=by rw[wrap_u64];omega

/-! bits -/
theorem u64_and (a b:Nat) (ha:a<2 ^ 64) (hb:b<2 ^ 64):Go.bits .and .u64 a b=((a &&& b:Nat):Int):=(bits_nat .u64 64 (by decide) wraps_u64 a b ha hb).1
theorem u64_or (a b:Nat) (ha:a<2 ^ 64) (hb:b<2 ^ 64):Go.bits .or .u64 a b=((a |||b:Nat):Int):=(bits_nat .u64 64 (by decide) wraps_u64 a b ha hb).2
theorem u32_and (a b:Nat) (ha:a<2 ^ 32) (hb:b<2 ^ 32):Go.bits .and .u32 a b=((a &&& b:Nat):Int):=(bits_nat .u32 32 (by decide) wraps_u32 a b ha hb).1
theorem u32_or (a b:Nat) (ha:a<2 ^ 32) (hb:b<2 ^ 32):Go.bits .or .u32 a b=((a |||b:Nat):Int):=(bits_nat .u32 32 (by decide) wraps_u32 a b ha hb).2
theorem u64_xor (a b:Nat) (ha:a<2 ^ 64) (hb:b<2 ^ 64):Go.bits .xor .u64 a b=((a ^^^ b:Nat):Int):=by
  have ha':a % 2 ^ 64=a:=Nat.mod_eq_of_lt ha
  have hb':b % 2 ^ 64=b:=Nat.mod_eq_of_lt hb
  have e:(IntKind.u64).bits=64:=rfl
  simp only[Go.bits,e,BitVec.ofInt_natCast,BitVec.toNat_xor,BitVec.toNat_ofNat,ha',hb']
  have:=Nat.xor_lt_two_pow ha hb
  exact wraps_u64 _ (Int.natCast_nonneg _) (by exact_mod_cast this)
theorem u32_xor (a b:Nat) (ha:a<2 ^ 32) (hb:b<2 ^ 32):Go.bits .xor .u32 a b=((a ^^^ b:Nat):Int):=by
  have ha':a % 2 ^ 32=a:=Nat.mod_eq_of_lt ha
  have hb':b % 2 ^ 32=b:=Nat.mod_eq_of_lt hb
  have e:(IntKind.u32).bits=32:=rfl
  simp only[Go.bits,e,BitVec.ofInt_natCast,BitVec.toNat_xor,BitVec.toNat_ofNat,ha',hb']
  have:=Nat.xor_lt_two_pow ha hb
  exact wraps_u32 _ (Int.natCast_nonneg _) (by exact_mod_cast this)
/-- A mask of the lowest i bits. -/
theorem u64_mask (i:Nat) (hi:i≤64) (x:Int) (h₀:0≤x) (h₁:x<2 ^ 64):Go.bits .and .u64 x (2 ^ i - 1)=x % 2 ^ i:=bits_mask .u64 64 (by decide) wraps_u64 i hi x h₀ h₁
theorem u32_mask (i:Nat) (hi:i≤32) (x:Int) (h₀:0≤x) (h₁:x<2 ^ 32):Go.bits .and .u32 x (2 ^ i - 1)=x % 2 ^ i:=bits_mask .u32 32 (by decide) wraps_u32 i hi x h₀ h₁
theorem i64_mask (i:Nat) (hi:i≤63) (x:Int) (h₀:0≤x) (h₁:x<2 ^ 63):Go.bits .and .i64 x (2 ^ i - 1)=x % 2 ^ i:=bits_mask .i64 63 (by decide) wraps_i64 i hi x h₀ h₁
theorem u64_and32 {x:Int} (h₀:0≤x) (h₁:x≤18446744073709551615):Go.bits .and .u64 x 4294967295=x % 4294967296:=u64_mask 32 (by decide) x h₀ (by omega)
theorem u64_and255 {x:Int} (h₀:0≤x) (h₁:x≤18446744073709551615):Go.bits .and .u64 x 255=x % 256:=u64_mask 8 (by decide) x h₀ (by omega)
/-- Parts that share no bit. -/
theorem u64_join (i:Nat) (x y:Int) (hx₀:0≤x) (hx:x % 2 ^ i=0) (hx₁:x<2 ^ 64) (hy₀:0≤y) (hy:y<2 ^ i) (hy₁:y<2 ^ 64):Go.bits .or .u64 x y=x+y:=bits_join .u64 64 (by decide) wraps_u64 i x y hx₀ hx hx₁ hy₀ hy hy₁
theorem u32_join (i:Nat) (x y:Int) (hx₀:0≤x) (hx:x % 2 ^ i=0) (hx₁:x<2 ^ 32) (hy₀:0≤y) (hy:y<2 ^ i) (hy₁:y<2 ^ 32):Go.bits .or .u32 x y=x+y:=bits_join .u32 32 (by decide) wraps_u32 i x y hx₀ hx hx₁ hy₀ hy hy₁
theorem bits_or_comm (k:IntKind) (x y:Int):Go.bits .or k x y=Go.bits .or k y x:=by simp[Go.bits,BitVec.or_comm]
theorem bits_and_comm (k:IntKind) (x y:Int):Go.bits .and k x y=Go.bits .and k y x:=by simp[Go.bits,BitVec.and_comm]
theorem bits_range_u64 (op:BinOp) (x y:Int):0≤Go.bits op .u64 x y∧Go.bits op .u64 x y≤18446744073709551615:=by unfold Go.bits;exact wrap_u64_range _
theorem bits_range_u32 (op:BinOp) (x y:Int):0≤Go.bits op .u32 x y∧Go.bits op .u32 x y≤4294967295:=by
  unfold Go.bits
  simp only[IntKind.wrap_u32]
  omega
theorem bits_range_i64 (op:BinOp) (x y:Int):-9223372036854775808≤Go.bits op .i64 x y∧Go.bits op .i64 x y≤9223372036854775807:=by
  unfold Go.bits
  simp only[IntKind.wrap_i64]
  omega

/-! shifts -/
theorem shl_u64 (x y:Int) (j:Nat) (hy:y=j) (hj:j≤64):shl .u64 x y=(x*2 ^ j) % 18446744073709551616:=by
  subst hy
  have e:(IntKind.u64).bits=64:=rfl
  unfold shl
  rw[wrap_u64,e,Int.toNat_natCast,Nat.min_eq_left hj]
theorem shl_u32 (x y:Int) (j:Nat) (hy:y=j) (hj:j≤32):shl .u32 x y=(x*2 ^ j) % 4294967296:=by
  subst hy
  have e:(IntKind.u32).bits=32:=rfl
  unfold shl
  rw[IntKind.wrap_u32,e,Int.toNat_natCast,Nat.min_eq_left hj]
theorem shr_u64 (x y:Int) (j:Nat) (hy:y=j) (hj:j≤64):shr .u64 x y=x / 2 ^ j:=by
  subst hy
  have e:(IntKind.u64).bits=64:=rfl
  unfold shr
  rw[e,Int.toNat_natCast,Nat.min_eq_left hj]
theorem shr_u32 (x y:Int) (j:Nat) (hy:y=j) (hj:j≤32):shr .u32 x y=x / 2 ^ j:=by
  subst hy
  have e:(IntKind.u32).bits=32:=rfl
  unfold shr
  rw[e,Int.toNat_natCast,Nat.min_eq_left hj]
theorem shr_i64 (x y:Int) (j:Nat) (hy:y=j) (hj:j≤64):shr .i64 x y=x / 2 ^ j:=by
  subst hy
  have e:(IntKind.i64).bits=64:=rfl
  unfold shr
  rw[e,Int.toNat_natCast,Nat.min_eq_left hj]
theorem shl_range_u64 (x y:Int):0≤shl .u64 x y∧shl .u64 x y≤18446744073709551615:=by unfold shl;exact wrap_u64_range _
theorem shr_range_u64 (x y:Int) (h₀:0≤x) (h₁:x≤18446744073709551615):0≤shr .u64 x y∧shr .u64 x y≤18446744073709551615:=by
  unfold shr
  have hp:(0:Int)<2 ^ min y.toNat (IntKind.u64).bits:=Int.pow_pos (by decide)
  exact⟨Int.ediv_nonneg h₀ (Int.le_of_lt hp),Int.le_trans (Int.ediv_le_self _ h₀) h₁⟩

theorem pow_le_pow (b:Nat) (hb:0<b) {m n:Nat} (h:m≤n):(b:Int) ^ m≤(b:Int) ^ n:=by
  have h1:=Int.ofNat_le.2 (Nat.pow_le_pow_right hb h)
  rwa [Int.natCast_pow,Int.natCast_pow] at h1

/-! shifts of natural numbers -/
theorem two_pow_lt {s:Nat} (hs:s≤63):(2:Nat) ^ s≤9223372036854775808:=Nat.pow_le_pow_right (by decide) hs
theorem shl_nat (m s:Nat) (hs:s≤64) (h:m*2 ^ s<18446744073709551616):shl .u64 (m:Int) (s:Int)=((m*2 ^ s:Nat):Int):=by
  rw[shl_u64 _ _ s rfl hs]
  have e:(m:Int)*2 ^ s=((m*2 ^ s:Nat):Int):=by rw[Int.natCast_mul,Int.natCast_pow];rfl
  rw[e]
  omega
theorem shl_one (s:Nat) (hs:s≤63):shl .u64 1 (s:Int)=((2 ^ s:Nat):Int):=by
  have h:=two_pow_lt hs
  have:=shl_nat 1 s (by omega) (by omega)
  rw[Nat.one_mul] at this
  exact this
theorem shr_nat (m s:Nat) (hs:s≤64):shr .u64 (m:Int) (s:Int)=((m / 2 ^ s:Nat):Int):=by
  rw[shr_u64 _ _ s rfl hs,Int.natCast_ediv,Int.natCast_pow]
  rfl
theorem wrap_pred (s:Nat) (hs:s≤63):IntKind.u64.wrap (shl .u64 1 (s:Int) - 1)=2 ^ s - 1:=by
  have h:=two_pow_lt hs
  have hp:=Nat.two_pow_pos s
  rw[shl_one s hs,wu64 (by omega) (by omega),Int.natCast_pow]
  rfl
theorem mask_nat (m s:Nat) (hm:m<18446744073709551616) (hs:s≤63):Go.bits .and .u64 (m:Int) (IntKind.u64.wrap (shl .u64 1 (s:Int) - 1))=((m % 2 ^ s:Nat):Int):=by
  rw[wrap_pred s hs,u64_mask s (by omega) m (by omega) (by omega),Int.natCast_emod,Int.natCast_pow]
  rfl
theorem and_one_nat (m:Nat) (hm:m<18446744073709551616):Go.bits .and .u64 (m:Int) 1=((m % 2:Nat):Int):=by
  have:=u64_mask 1 (by decide) (m:Int) (by omega) (by omega)
  rw[show (2:Int) ^ 1 - 1=1 by decide] at this
  rw[this]
  omega

/-! elements of a list -/
theorem rd_mem {l:List Int} {i:Int} (h0:0≤i) (h1:i<(l.length:Int)):rd l i∈l:=by
  unfold rd
  have hl:i.toNat<l.length:=by omega
  rw[List.getD_eq_getElem?_getD,List.getElem?_eq_getElem hl]
  exact List.getElem_mem hl
end Go.Proofs.YtoeenmajdidfoaaDoor.Mb
