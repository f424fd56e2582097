-- Written by a program of this session; it walks the functions that the law reaches.
import Derived.Test.YtanhbfhmgmjdgaaProg
import Derived.Below
import Derived.Deep.Draws
import Derived.Deep.AppendLies
import Derived.Maps.AppendAt
import Derived.OwnWalk
import Derived.Laws.BytesArg
import Derived.Laws.MakeOwn
import Derived.Laws.OwnMore
import Derived.Deep.OwnRows
import Derived.Tactics
import Derived.Lib.ConvBytes
import Derived.Laws.Slices
import Derived.WalkKit
import Derived.KernelRfl
import Derived.RowKit3
import Derived.Deep.LoopGhost
import Derived.Deep.QuietTactic
import Derived.BigQuiet
import Derived.WideLaws
import Derived.Deep.DeepCutAuto
import Derived.Deep.CutBlock
import Derived.Deep.RegionHeld3
import Derived.Laws.Rows
import Derived.Lib.AppendStr
import Derived.ArgAppend
import Derived.StillTailTactics
import Derived.Laws.IdiomCopy
import Derived.OrdersHeld
import Derived.Laws.BitsLemmas
import Derived.RowKit
import Derived.Test.YtanhbfhmgmjdgaaWWords
namespace Go.Proofs.Ytanhbfhmgmjdgaa.Q
open Go.RowKit Go.Proofs.YtanhbfhmgmjdgaaW.PrintWords Go.Proofs.YtanhbfhmgmjdgaaW.PrintLast Go.Proofs.YtanhbfhmgmjdgaaW.PrintMore
attribute [local go_sem] max2_int min2_int max_two min_two max_three min_three max_four min_four   -- for this text's walks alone
set_option linter.unusedVariables false
set_option linter.unusedSimpArgs false



def errW:Option Int→Value
 |none=>.nilIface
 |some c=>.iface 0 (.int .i64 c)
theorem errW_none:errW none=.nilIface:=rfl
theorem errW_some (c:Int):errW (some c)=.iface 0 (.int .i64 c):=rfl

theorem info3:(Try.prog.info? 3).map (fun i=>(i.zero,i.size,i.bytes))=some (some (.int .i64 0),1,8):=by kernel_rfl
theorem info4:(Try.prog.info? 4).map (fun i=>(i.zero,i.size,i.bytes))=some (some (.bool false),1,1):=by kernel_rfl
theorem info72:(Try.prog.info? 72).map (fun i=>(i.zero,i.size,i.bytes))=some (some (.agg #[(.int .i64 0),(.int .u64 0)]),2,16):=by kernel_rfl
theorem info75:(Try.prog.info? 75).map (fun i=>(i.zero,i.size,i.bytes))=some (some (.agg #[(.int .i64 0),(.bool false),(.int .u64 0)]),3,24):=by kernel_rfl
theorem info81:(Try.prog.info? 81).map (fun i=>(i.zero,i.size,i.bytes))=some (some (.slice none 0 0),1,24):=by kernel_rfl
theorem info88:(Try.prog.info? 88).map (fun i=>(i.zero,i.size,i.bytes))=some (some (.agg #[(.slice none 0 0),(.int .i64 0),(.slice none 0 0),(.slice none 0 0)]),4,80):=by kernel_rfl
theorem info103:(Try.prog.info? 103).map (fun i=>(i.zero,i.size,i.bytes))=some (some (.agg #[(.int .i64 0),(.int .i64 0)]),2,16):=by kernel_rfl
-- the values' own types
/-! #### struct type 133 -/
structure S133 where
 f0:Int
 f1:Int
def z133:S133:=⟨(0:Int),(0:Int)⟩
def k133:Kd S133:=Kd.iso (Kd.pair (Kd.int .i64) (Kd.int .i64)) (fun x:S133=>(x.f0,x.f1))
theorem k133_open {w:World} {x:S133} {cs:List Value} (h:k133.K w x cs):cs=[.int .i64 x.f0,.int .i64 x.f1]:=by
 obtain⟨_,_,rfl,rfl,rfl⟩:=h
 exact rfl
theorem k133_openM {w:World} {base:Nat} {ok:Nat→Prop} {x:S133} {cs:List Value} (h:k133.M w base ok x cs):cs=[.int .i64 x.f0,.int .i64 x.f1]:=by
 obtain⟨_,_,rfl,rfl,rfl⟩:=h
 exact rfl
theorem k133_mk (w:World) (x:S133):k133.K w x [.int .i64 x.f0,.int .i64 x.f1]:=⟨[.int .i64 x.f0],[.int .i64 x.f1],rfl,rfl,rfl⟩
theorem k133_mkM (w:World) (base:Nat) (ok:Nat→Prop) (x:S133):k133.M w base ok x [.int .i64 x.f0,.int .i64 x.f1]:=⟨[.int .i64 x.f0],[.int .i64 x.f1],rfl,rfl,rfl⟩
def rd_T133 (xs:List S133) (i:Int):S133:=xs.getD i.toNat z133
theorem at_T133 {w:World} {A:Option Addr} {n:Nat} {xs:List S133} (h:Kd.C k133 w A n xs) (i:Int) (h0:0≤i) (h1:i<n):∃ ad,A=some ad∧w.cell? (ad.add (i.toNat*2))=some (.int .i64 (rd_T133 xs i).f0)∧w.cell? ⟨(ad.add (i.toNat*2)).block,(ad.add (i.toNat*2)).off+1,none⟩=some (.int .i64 (rd_T133 xs i).f1):=by
 obtain⟨ad,c,e,_,hK,hc0⟩:=Kd.C_get h z133 i h0 h1
 have hc:∀ j u,c[j]? =some u→w.cell? (ad.add (i.toNat*2+j))=some u:=hc0
 obtain rfl:=k133_open hK
 exact⟨ad,e,hc 0 _ rfl,by rw[←add_field _ _ 1 (by omega)];exact hc 1 _ rfl⟩
def rd_L2 (xs:List (List Int)) (i:Int):(List Int):=xs.getD i.toNat ([]:List Int)
theorem at_L2 {w:World} {A:Option Addr} {n:Nat} {xs:List (List Int)} (h:Kd.C (Kd.slice 3 (Kd.int .i64)) w A n xs) (i:Int) (h0:0≤i) (h1:i<n):∃ ad A0 c0,A=some ad∧w.cell? (ad.add i.toNat)=some (.slice A0 (rd_L2 xs i).length c0)∧(rd_L2 xs i).length≤c0∧(Kd.int .i64).C w A0 (rd_L2 xs i).length (rd_L2 xs i):=by
 obtain⟨ad,c,e,_,hK,hc0⟩:=Kd.C_get h ([]:List Int) i h0 h1
 have hc:∀ j u,c[j]? =some u→w.cell? (ad.add (i.toNat*1+j))=some u:=hc0
 obtain⟨A0,c0,rfl,l0,g0⟩:=hK
 exact⟨ad,A0,c0,e,by have hq:=hc 0 _ rfl;rwa [Nat.mul_one,Nat.add_zero] at hq,l0,g0⟩
def rd_L3 (xs:List (List S133)) (i:Int):(List S133):=xs.getD i.toNat ([]:List S133)
theorem at_L3 {w:World} {A:Option Addr} {n:Nat} {xs:List (List S133)} (h:Kd.C (Kd.slice 133 k133) w A n xs) (i:Int) (h0:0≤i) (h1:i<n):∃ ad A0 c0,A=some ad∧w.cell? (ad.add i.toNat)=some (.slice A0 (rd_L3 xs i).length c0)∧(rd_L3 xs i).length≤c0∧k133.C w A0 (rd_L3 xs i).length (rd_L3 xs i):=by
 obtain⟨ad,c,e,_,hK,hc0⟩:=Kd.C_get h ([]:List S133) i h0 h1
 have hc:∀ j u,c[j]? =some u→w.cell? (ad.add (i.toNat*1+j))=some u:=hc0
 obtain⟨A0,c0,rfl,l0,g0⟩:=hK
 exact⟨ad,A0,c0,e,by have hq:=hc 0 _ rfl;rwa [Nat.mul_one,Nat.add_zero] at hq,l0,g0⟩
/-! #### struct type 84 -/
structure S84 where
 f0:(List Int)
 f1:Int
 f2:(List Int)
 f3:(List S133)
def z84:S84:=⟨([]:List Int),(0:Int),([]:List Int),([]:List S133)⟩
def k84:Kd S84:=Kd.iso (Kd.pair (Kd.slice 3 (Kd.int .i64)) (Kd.pair (Kd.int .i64) (Kd.pair (Kd.slice 3 (Kd.int .i64)) (Kd.slice 133 k133)))) (fun x:S84=>(x.f0,x.f1,x.f2,x.f3))
theorem k84_open {w:World} {x:S84} {cs:List Value} (h:k84.K w x cs):∃ A0 c0 A2 c2 A3 c3,cs=[.slice A0 x.f0.length c0,.int .i64 x.f1,.slice A2 x.f2.length c2,.slice A3 x.f3.length c3]∧x.f0.length≤c0∧(Kd.int .i64).C w A0 x.f0.length x.f0∧x.f2.length≤c2∧(Kd.int .i64).C w A2 x.f2.length x.f2∧x.f3.length≤c3∧k133.C w A3 x.f3.length x.f3:=by
 obtain⟨_,_,rfl,⟨A0,c0,rfl,l0,g0⟩,⟨_,_,rfl,rfl,⟨_,_,rfl,⟨A2,c2,rfl,l2,g2⟩,⟨A3,c3,rfl,l3,g3⟩⟩⟩⟩:=h
 exact⟨A0,c0,A2,c2,A3,c3,rfl,l0,g0,l2,g2,l3,g3⟩
theorem k84_openM {w:World} {base:Nat} {ok:Nat→Prop} {x:S84} {cs:List Value} (h:k84.M w base ok x cs):∃ v0 v2 v3,cs=[v0,.int .i64 x.f1,v2,v3]∧(Kd.int .i64).R 3 w base ok v0 x.f0∧(Kd.int .i64).R 3 w base ok v2 x.f2∧k133.R 133 w base ok v3 x.f3:=by
 obtain⟨_,_,rfl,⟨v0,rfl,g0⟩,⟨_,_,rfl,rfl,⟨_,_,rfl,⟨v2,rfl,g2⟩,⟨v3,rfl,g3⟩⟩⟩⟩:=h
 exact⟨v0,v2,v3,rfl,g0,g2,g3⟩
theorem k84_mk (w:World) (x:S84) {A0:Option Addr} {c0:Nat} (l0:x.f0.length≤c0) (g0:(Kd.int .i64).C w A0 x.f0.length x.f0) {A2:Option Addr} {c2:Nat} (l2:x.f2.length≤c2) (g2:(Kd.int .i64).C w A2 x.f2.length x.f2) {A3:Option Addr} {c3:Nat} (l3:x.f3.length≤c3) (g3:k133.C w A3 x.f3.length x.f3):k84.K w x [.slice A0 x.f0.length c0,.int .i64 x.f1,.slice A2 x.f2.length c2,.slice A3 x.f3.length c3]:=⟨[.slice A0 x.f0.length c0],[.int .i64 x.f1,.slice A2 x.f2.length c2,.slice A3 x.f3.length c3],rfl,⟨A0,c0,rfl,l0,g0⟩,⟨[.int .i64 x.f1],[.slice A2 x.f2.length c2,.slice A3 x.f3.length c3],rfl,rfl,⟨[.slice A2 x.f2.length c2],[.slice A3 x.f3.length c3],rfl,⟨A2,c2,rfl,l2,g2⟩,⟨A3,c3,rfl,l3,g3⟩⟩⟩⟩
theorem k84_mkM (w:World) (base:Nat) (ok:Nat→Prop) (x:S84) {v0:Value} (g0:(Kd.int .i64).R 3 w base ok v0 x.f0) {v2:Value} (g2:(Kd.int .i64).R 3 w base ok v2 x.f2) {v3:Value} (g3:k133.R 133 w base ok v3 x.f3):k84.M w base ok x [v0,.int .i64 x.f1,v2,v3]:=⟨[v0],[.int .i64 x.f1,v2,v3],rfl,⟨v0,rfl,g0⟩,⟨[.int .i64 x.f1],[v2,v3],rfl,rfl,⟨[v2],[v3],rfl,⟨v2,rfl,g2⟩,⟨v3,rfl,g3⟩⟩⟩⟩
def rd_T84 (xs:List S84) (i:Int):S84:=xs.getD i.toNat z84
theorem at_T84 {w:World} {A:Option Addr} {n:Nat} {xs:List S84} (h:Kd.C k84 w A n xs) (i:Int) (h0:0≤i) (h1:i<n):∃ ad A0 c0 A2 c2 A3 c3,A=some ad∧w.cell? (ad.add (i.toNat*4))=some (.slice A0 (rd_T84 xs i).f0.length c0)∧w.cell? ⟨(ad.add (i.toNat*4)).block,(ad.add (i.toNat*4)).off+1,none⟩=some (.int .i64 (rd_T84 xs i).f1)∧w.cell? ⟨(ad.add (i.toNat*4)).block,(ad.add (i.toNat*4)).off+2,none⟩=some (.slice A2 (rd_T84 xs i).f2.length c2)∧w.cell? ⟨(ad.add (i.toNat*4)).block,(ad.add (i.toNat*4)).off+3,none⟩=some (.slice A3 (rd_T84 xs i).f3.length c3)∧(rd_T84 xs i).f0.length≤c0∧(Kd.int .i64).C w A0 (rd_T84 xs i).f0.length (rd_T84 xs i).f0∧(rd_T84 xs i).f2.length≤c2∧(Kd.int .i64).C w A2 (rd_T84 xs i).f2.length (rd_T84 xs i).f2∧(rd_T84 xs i).f3.length≤c3∧k133.C w A3 (rd_T84 xs i).f3.length (rd_T84 xs i).f3:=by
 obtain⟨ad,c,e,_,hK,hc0⟩:=Kd.C_get h z84 i h0 h1
 have hc:∀ j u,c[j]? =some u→w.cell? (ad.add (i.toNat*4+j))=some u:=hc0
 obtain⟨A0,c0,A2,c2,A3,c3,rfl,l0,g0,l2,g2,l3,g3⟩:=k84_open hK
 exact⟨ad,A0,c0,A2,c2,A3,c3,e,hc 0 _ rfl,by rw[←add_field _ _ 1 (by omega)];exact hc 1 _ rfl,by rw[←add_field _ _ 2 (by omega)];exact hc 2 _ rfl,by rw[←add_field _ _ 3 (by omega)];exact hc 3 _ rfl,l0,g0,l2,g2,l3,g3⟩
/-! #### struct type 91 -/
structure S91 where
 f0:Int
 f1:Bool
 f2:Int
def z91:S91:=⟨(0:Int),false,(0:Int)⟩
def k91:Kd S91:=Kd.iso (Kd.pair (Kd.int .i64) (Kd.pair Kd.bool (Kd.int .u64))) (fun x:S91=>(x.f0,x.f1,x.f2))
theorem k91_open {w:World} {x:S91} {cs:List Value} (h:k91.K w x cs):cs=[.int .i64 x.f0,.bool x.f1,.int .u64 x.f2]:=by
 obtain⟨_,_,rfl,rfl,⟨_,_,rfl,rfl,rfl⟩⟩:=h
 exact rfl
theorem k91_openM {w:World} {base:Nat} {ok:Nat→Prop} {x:S91} {cs:List Value} (h:k91.M w base ok x cs):cs=[.int .i64 x.f0,.bool x.f1,.int .u64 x.f2]:=by
 obtain⟨_,_,rfl,rfl,⟨_,_,rfl,rfl,rfl⟩⟩:=h
 exact rfl
theorem k91_mk (w:World) (x:S91):k91.K w x [.int .i64 x.f0,.bool x.f1,.int .u64 x.f2]:=⟨[.int .i64 x.f0],[.bool x.f1,.int .u64 x.f2],rfl,rfl,⟨[.bool x.f1],[.int .u64 x.f2],rfl,rfl,rfl⟩⟩
theorem k91_mkM (w:World) (base:Nat) (ok:Nat→Prop) (x:S91):k91.M w base ok x [.int .i64 x.f0,.bool x.f1,.int .u64 x.f2]:=⟨[.int .i64 x.f0],[.bool x.f1,.int .u64 x.f2],rfl,rfl,⟨[.bool x.f1],[.int .u64 x.f2],rfl,rfl,rfl⟩⟩
def rd_T91 (xs:List S91) (i:Int):S91:=xs.getD i.toNat z91
theorem at_T91 {w:World} {A:Option Addr} {n:Nat} {xs:List S91} (h:Kd.C k91 w A n xs) (i:Int) (h0:0≤i) (h1:i<n):∃ ad,A=some ad∧w.cell? (ad.add (i.toNat*3))=some (.int .i64 (rd_T91 xs i).f0)∧w.cell? ⟨(ad.add (i.toNat*3)).block,(ad.add (i.toNat*3)).off+1,none⟩=some (.bool (rd_T91 xs i).f1)∧w.cell? ⟨(ad.add (i.toNat*3)).block,(ad.add (i.toNat*3)).off+2,none⟩=some (.int .u64 (rd_T91 xs i).f2):=by
 obtain⟨ad,c,e,_,hK,hc0⟩:=Kd.C_get h z91 i h0 h1
 have hc:∀ j u,c[j]? =some u→w.cell? (ad.add (i.toNat*3+j))=some u:=hc0
 obtain rfl:=k91_open hK
 exact⟨ad,e,hc 0 _ rfl,by rw[←add_field _ _ 1 (by omega)];exact hc 1 _ rfl,by rw[←add_field _ _ 2 (by omega)];exact hc 2 _ rfl⟩
/-! #### struct type 93 -/
structure S93 where
 f0:Int
 f1:Int
def z93:S93:=⟨(0:Int),(0:Int)⟩
def k93:Kd S93:=Kd.iso (Kd.pair (Kd.int .i64) (Kd.int .u64)) (fun x:S93=>(x.f0,x.f1))
theorem k93_open {w:World} {x:S93} {cs:List Value} (h:k93.K w x cs):cs=[.int .i64 x.f0,.int .u64 x.f1]:=by
 obtain⟨_,_,rfl,rfl,rfl⟩:=h
 exact rfl
theorem k93_openM {w:World} {base:Nat} {ok:Nat→Prop} {x:S93} {cs:List Value} (h:k93.M w base ok x cs):cs=[.int .i64 x.f0,.int .u64 x.f1]:=by
 obtain⟨_,_,rfl,rfl,rfl⟩:=h
 exact rfl
theorem k93_mk (w:World) (x:S93):k93.K w x [.int .i64 x.f0,.int .u64 x.f1]:=⟨[.int .i64 x.f0],[.int .u64 x.f1],rfl,rfl,rfl⟩
theorem k93_mkM (w:World) (base:Nat) (ok:Nat→Prop) (x:S93):k93.M w base ok x [.int .i64 x.f0,.int .u64 x.f1]:=⟨[.int .i64 x.f0],[.int .u64 x.f1],rfl,rfl,rfl⟩
def rd_T93 (xs:List S93) (i:Int):S93:=xs.getD i.toNat z93
theorem at_T93 {w:World} {A:Option Addr} {n:Nat} {xs:List S93} (h:Kd.C k93 w A n xs) (i:Int) (h0:0≤i) (h1:i<n):∃ ad,A=some ad∧w.cell? (ad.add (i.toNat*2))=some (.int .i64 (rd_T93 xs i).f0)∧w.cell? ⟨(ad.add (i.toNat*2)).block,(ad.add (i.toNat*2)).off+1,none⟩=some (.int .u64 (rd_T93 xs i).f1):=by
 obtain⟨ad,c,e,_,hK,hc0⟩:=Kd.C_get h z93 i h0 h1
 have hc:∀ j u,c[j]? =some u→w.cell? (ad.add (i.toNat*2+j))=some u:=hc0
 obtain rfl:=k93_open hK
 exact⟨ad,e,hc 0 _ rfl,by rw[←add_field _ _ 1 (by omega)];exact hc 1 _ rfl⟩
/-! #### struct type 103 -/
structure S103 where
 f0:Int
 f1:Int
def z103:S103:=⟨(0:Int),(0:Int)⟩
def k103:Kd S103:=Kd.iso (Kd.pair (Kd.int .i64) (Kd.int .i64)) (fun x:S103=>(x.f0,x.f1))
theorem k103_open {w:World} {x:S103} {cs:List Value} (h:k103.K w x cs):cs=[.int .i64 x.f0,.int .i64 x.f1]:=by
 obtain⟨_,_,rfl,rfl,rfl⟩:=h
 exact rfl
theorem k103_openM {w:World} {base:Nat} {ok:Nat→Prop} {x:S103} {cs:List Value} (h:k103.M w base ok x cs):cs=[.int .i64 x.f0,.int .i64 x.f1]:=by
 obtain⟨_,_,rfl,rfl,rfl⟩:=h
 exact rfl
theorem k103_mk (w:World) (x:S103):k103.K w x [.int .i64 x.f0,.int .i64 x.f1]:=⟨[.int .i64 x.f0],[.int .i64 x.f1],rfl,rfl,rfl⟩
theorem k103_mkM (w:World) (base:Nat) (ok:Nat→Prop) (x:S103):k103.M w base ok x [.int .i64 x.f0,.int .i64 x.f1]:=⟨[.int .i64 x.f0],[.int .i64 x.f1],rfl,rfl,rfl⟩
def rd_T103 (xs:List S103) (i:Int):S103:=xs.getD i.toNat z103
theorem at_T103 {w:World} {A:Option Addr} {n:Nat} {xs:List S103} (h:Kd.C k103 w A n xs) (i:Int) (h0:0≤i) (h1:i<n):∃ ad,A=some ad∧w.cell? (ad.add (i.toNat*2))=some (.int .i64 (rd_T103 xs i).f0)∧w.cell? ⟨(ad.add (i.toNat*2)).block,(ad.add (i.toNat*2)).off+1,none⟩=some (.int .i64 (rd_T103 xs i).f1):=by
 obtain⟨ad,c,e,_,hK,hc0⟩:=Kd.C_get h z103 i h0 h1
 have hc:∀ j u,c[j]? =some u→w.cell? (ad.add (i.toNat*2+j))=some u:=hc0
 obtain rfl:=k103_open hK
 exact⟨ad,e,hc 0 _ rfl,by rw[←add_field _ _ 1 (by omega)];exact hc 1 _ rfl⟩
def rd_L10 (xs:List (List S103)) (i:Int):(List S103):=xs.getD i.toNat ([]:List S103)
theorem at_L10 {w:World} {A:Option Addr} {n:Nat} {xs:List (List S103)} (h:Kd.C (Kd.slice 103 k103) w A n xs) (i:Int) (h0:0≤i) (h1:i<n):∃ ad A0 c0,A=some ad∧w.cell? (ad.add i.toNat)=some (.slice A0 (rd_L10 xs i).length c0)∧(rd_L10 xs i).length≤c0∧k103.C w A0 (rd_L10 xs i).length (rd_L10 xs i):=by
 obtain⟨ad,c,e,_,hK,hc0⟩:=Kd.C_get h ([]:List S103) i h0 h1
 have hc:∀ j u,c[j]? =some u→w.cell? (ad.add (i.toNat*1+j))=some u:=hc0
 obtain⟨A0,c0,rfl,l0,g0⟩:=hK
 exact⟨ad,A0,c0,e,by have hq:=hc 0 _ rfl;rwa [Nat.mul_one,Nat.add_zero] at hq,l0,g0⟩
/-! #### struct type 88 -/
structure S88 where
 f0:(List Int)
 f1:Int
 f2:(List Int)
 f3:(List S103)
def z88:S88:=⟨([]:List Int),(0:Int),([]:List Int),([]:List S103)⟩
def k88:Kd S88:=Kd.iso (Kd.pair (Kd.slice 3 (Kd.int .i64)) (Kd.pair (Kd.int .i64) (Kd.pair (Kd.slice 3 (Kd.int .i64)) (Kd.slice 103 k103)))) (fun x:S88=>(x.f0,x.f1,x.f2,x.f3))
theorem k88_open {w:World} {x:S88} {cs:List Value} (h:k88.K w x cs):∃ A0 c0 A2 c2 A3 c3,cs=[.slice A0 x.f0.length c0,.int .i64 x.f1,.slice A2 x.f2.length c2,.slice A3 x.f3.length c3]∧x.f0.length≤c0∧(Kd.int .i64).C w A0 x.f0.length x.f0∧x.f2.length≤c2∧(Kd.int .i64).C w A2 x.f2.length x.f2∧x.f3.length≤c3∧k103.C w A3 x.f3.length x.f3:=by
 obtain⟨_,_,rfl,⟨A0,c0,rfl,l0,g0⟩,⟨_,_,rfl,rfl,⟨_,_,rfl,⟨A2,c2,rfl,l2,g2⟩,⟨A3,c3,rfl,l3,g3⟩⟩⟩⟩:=h
 exact⟨A0,c0,A2,c2,A3,c3,rfl,l0,g0,l2,g2,l3,g3⟩
theorem k88_openM {w:World} {base:Nat} {ok:Nat→Prop} {x:S88} {cs:List Value} (h:k88.M w base ok x cs):∃ v0 v2 v3,cs=[v0,.int .i64 x.f1,v2,v3]∧(Kd.int .i64).R 3 w base ok v0 x.f0∧(Kd.int .i64).R 3 w base ok v2 x.f2∧k103.R 103 w base ok v3 x.f3:=by
 obtain⟨_,_,rfl,⟨v0,rfl,g0⟩,⟨_,_,rfl,rfl,⟨_,_,rfl,⟨v2,rfl,g2⟩,⟨v3,rfl,g3⟩⟩⟩⟩:=h
 exact⟨v0,v2,v3,rfl,g0,g2,g3⟩
theorem k88_mk (w:World) (x:S88) {A0:Option Addr} {c0:Nat} (l0:x.f0.length≤c0) (g0:(Kd.int .i64).C w A0 x.f0.length x.f0) {A2:Option Addr} {c2:Nat} (l2:x.f2.length≤c2) (g2:(Kd.int .i64).C w A2 x.f2.length x.f2) {A3:Option Addr} {c3:Nat} (l3:x.f3.length≤c3) (g3:k103.C w A3 x.f3.length x.f3):k88.K w x [.slice A0 x.f0.length c0,.int .i64 x.f1,.slice A2 x.f2.length c2,.slice A3 x.f3.length c3]:=⟨[.slice A0 x.f0.length c0],[.int .i64 x.f1,.slice A2 x.f2.length c2,.slice A3 x.f3.length c3],rfl,⟨A0,c0,rfl,l0,g0⟩,⟨[.int .i64 x.f1],[.slice A2 x.f2.length c2,.slice A3 x.f3.length c3],rfl,rfl,⟨[.slice A2 x.f2.length c2],[.slice A3 x.f3.length c3],rfl,⟨A2,c2,rfl,l2,g2⟩,⟨A3,c3,rfl,l3,g3⟩⟩⟩⟩
theorem k88_mkM (w:World) (base:Nat) (ok:Nat→Prop) (x:S88) {v0:Value} (g0:(Kd.int .i64).R 3 w base ok v0 x.f0) {v2:Value} (g2:(Kd.int .i64).R 3 w base ok v2 x.f2) {v3:Value} (g3:k103.R 103 w base ok v3 x.f3):k88.M w base ok x [v0,.int .i64 x.f1,v2,v3]:=⟨[v0],[.int .i64 x.f1,v2,v3],rfl,⟨v0,rfl,g0⟩,⟨[.int .i64 x.f1],[v2,v3],rfl,rfl,⟨[v2],[v3],rfl,⟨v2,rfl,g2⟩,⟨v3,rfl,g3⟩⟩⟩⟩
def rd_T88 (xs:List S88) (i:Int):S88:=xs.getD i.toNat z88
theorem at_T88 {w:World} {A:Option Addr} {n:Nat} {xs:List S88} (h:Kd.C k88 w A n xs) (i:Int) (h0:0≤i) (h1:i<n):∃ ad A0 c0 A2 c2 A3 c3,A=some ad∧w.cell? (ad.add (i.toNat*4))=some (.slice A0 (rd_T88 xs i).f0.length c0)∧w.cell? ⟨(ad.add (i.toNat*4)).block,(ad.add (i.toNat*4)).off+1,none⟩=some (.int .i64 (rd_T88 xs i).f1)∧w.cell? ⟨(ad.add (i.toNat*4)).block,(ad.add (i.toNat*4)).off+2,none⟩=some (.slice A2 (rd_T88 xs i).f2.length c2)∧w.cell? ⟨(ad.add (i.toNat*4)).block,(ad.add (i.toNat*4)).off+3,none⟩=some (.slice A3 (rd_T88 xs i).f3.length c3)∧(rd_T88 xs i).f0.length≤c0∧(Kd.int .i64).C w A0 (rd_T88 xs i).f0.length (rd_T88 xs i).f0∧(rd_T88 xs i).f2.length≤c2∧(Kd.int .i64).C w A2 (rd_T88 xs i).f2.length (rd_T88 xs i).f2∧(rd_T88 xs i).f3.length≤c3∧k103.C w A3 (rd_T88 xs i).f3.length (rd_T88 xs i).f3:=by
 obtain⟨ad,c,e,_,hK,hc0⟩:=Kd.C_get h z88 i h0 h1
 have hc:∀ j u,c[j]? =some u→w.cell? (ad.add (i.toNat*4+j))=some u:=hc0
 obtain⟨A0,c0,A2,c2,A3,c3,rfl,l0,g0,l2,g2,l3,g3⟩:=k88_open hK
 exact⟨ad,A0,c0,A2,c2,A3,c3,e,hc 0 _ rfl,by rw[←add_field _ _ 1 (by omega)];exact hc 1 _ rfl,by rw[←add_field _ _ 2 (by omega)];exact hc 2 _ rfl,by rw[←add_field _ _ 3 (by omega)];exact hc 3 _ rfl,l0,g0,l2,g2,l3,g3⟩
/-! #### struct type 75 -/
structure S75 where
 f0:Int
 f1:Bool
 f2:Int
def z75:S75:=⟨(0:Int),false,(0:Int)⟩
def k75:Kd S75:=Kd.iso (Kd.pair (Kd.int .i64) (Kd.pair Kd.bool (Kd.int .u64))) (fun x:S75=>(x.f0,x.f1,x.f2))
theorem k75_open {w:World} {x:S75} {cs:List Value} (h:k75.K w x cs):cs=[.int .i64 x.f0,.bool x.f1,.int .u64 x.f2]:=by
 obtain⟨_,_,rfl,rfl,⟨_,_,rfl,rfl,rfl⟩⟩:=h
 exact rfl
theorem k75_openM {w:World} {base:Nat} {ok:Nat→Prop} {x:S75} {cs:List Value} (h:k75.M w base ok x cs):cs=[.int .i64 x.f0,.bool x.f1,.int .u64 x.f2]:=by
 obtain⟨_,_,rfl,rfl,⟨_,_,rfl,rfl,rfl⟩⟩:=h
 exact rfl
theorem k75_mk (w:World) (x:S75):k75.K w x [.int .i64 x.f0,.bool x.f1,.int .u64 x.f2]:=⟨[.int .i64 x.f0],[.bool x.f1,.int .u64 x.f2],rfl,rfl,⟨[.bool x.f1],[.int .u64 x.f2],rfl,rfl,rfl⟩⟩
theorem k75_mkM (w:World) (base:Nat) (ok:Nat→Prop) (x:S75):k75.M w base ok x [.int .i64 x.f0,.bool x.f1,.int .u64 x.f2]:=⟨[.int .i64 x.f0],[.bool x.f1,.int .u64 x.f2],rfl,rfl,⟨[.bool x.f1],[.int .u64 x.f2],rfl,rfl,rfl⟩⟩
def rd_T75 (xs:List S75) (i:Int):S75:=xs.getD i.toNat z75
theorem at_T75 {w:World} {A:Option Addr} {n:Nat} {xs:List S75} (h:Kd.C k75 w A n xs) (i:Int) (h0:0≤i) (h1:i<n):∃ ad,A=some ad∧w.cell? (ad.add (i.toNat*3))=some (.int .i64 (rd_T75 xs i).f0)∧w.cell? ⟨(ad.add (i.toNat*3)).block,(ad.add (i.toNat*3)).off+1,none⟩=some (.bool (rd_T75 xs i).f1)∧w.cell? ⟨(ad.add (i.toNat*3)).block,(ad.add (i.toNat*3)).off+2,none⟩=some (.int .u64 (rd_T75 xs i).f2):=by
 obtain⟨ad,c,e,_,hK,hc0⟩:=Kd.C_get h z75 i h0 h1
 have hc:∀ j u,c[j]? =some u→w.cell? (ad.add (i.toNat*3+j))=some u:=hc0
 obtain rfl:=k75_open hK
 exact⟨ad,e,hc 0 _ rfl,by rw[←add_field _ _ 1 (by omega)];exact hc 1 _ rfl,by rw[←add_field _ _ 2 (by omega)];exact hc 2 _ rfl⟩
/-! #### struct type 72 -/
structure S72 where
 f0:Int
 f1:Int
def z72:S72:=⟨(0:Int),(0:Int)⟩
def k72:Kd S72:=Kd.iso (Kd.pair (Kd.int .i64) (Kd.int .u64)) (fun x:S72=>(x.f0,x.f1))
theorem k72_open {w:World} {x:S72} {cs:List Value} (h:k72.K w x cs):cs=[.int .i64 x.f0,.int .u64 x.f1]:=by
 obtain⟨_,_,rfl,rfl,rfl⟩:=h
 exact rfl
theorem k72_openM {w:World} {base:Nat} {ok:Nat→Prop} {x:S72} {cs:List Value} (h:k72.M w base ok x cs):cs=[.int .i64 x.f0,.int .u64 x.f1]:=by
 obtain⟨_,_,rfl,rfl,rfl⟩:=h
 exact rfl
theorem k72_mk (w:World) (x:S72):k72.K w x [.int .i64 x.f0,.int .u64 x.f1]:=⟨[.int .i64 x.f0],[.int .u64 x.f1],rfl,rfl,rfl⟩
theorem k72_mkM (w:World) (base:Nat) (ok:Nat→Prop) (x:S72):k72.M w base ok x [.int .i64 x.f0,.int .u64 x.f1]:=⟨[.int .i64 x.f0],[.int .u64 x.f1],rfl,rfl,rfl⟩
def rd_T72 (xs:List S72) (i:Int):S72:=xs.getD i.toNat z72
theorem at_T72 {w:World} {A:Option Addr} {n:Nat} {xs:List S72} (h:Kd.C k72 w A n xs) (i:Int) (h0:0≤i) (h1:i<n):∃ ad,A=some ad∧w.cell? (ad.add (i.toNat*2))=some (.int .i64 (rd_T72 xs i).f0)∧w.cell? ⟨(ad.add (i.toNat*2)).block,(ad.add (i.toNat*2)).off+1,none⟩=some (.int .u64 (rd_T72 xs i).f1):=by
 obtain⟨ad,c,e,_,hK,hc0⟩:=Kd.C_get h z72 i h0 h1
 have hc:∀ j u,c[j]? =some u→w.cell? (ad.add (i.toNat*2+j))=some u:=hc0
 obtain rfl:=k72_open hK
 exact⟨ad,e,hc 0 _ rfl,by rw[←add_field _ _ 1 (by omega)];exact hc 1 _ rfl⟩
theorem A_ {p:Prop} (h:p):Aside0 p:=Aside0.mk h
theorem bw {p q:Prop} (x:q) (h:q→p:=by intro h;repeat (first|(with_reducible first|exact h|apply below_alloc|apply pw_below_drewN|apply below_drew1|refine below_set ?_ (Aside0.out (by assumption)))|exact h)):p:=h x
theorem bk {p q:Prop} (x:q) (h:q→p:=by intro h;(with_reducible repeat (first|refine blk_drewN ?_ _|refine blk_drew ?_|refine blk_alloc ?_ _));exact h):p:=h x
theorem ar {p:Prop} (h:p:=by (try simp only[List.map_toArray,List.map_cons,List.map_nil]);first|done|rfl|(simp only[List.length_drop,List.length_take];rfl)):p:=h
theorem kr_ {p q:Prop} (x:q) (h:q→p:=by intro h;(with_reducible repeat (first|apply Kd.R_alloc|apply Kd.R_drewN|apply Kd.R_drew));exact h):p:=h x
theorem ks_ {p q:Prop} (x:q) (h:q→p:=by intro h;(with_reducible repeat (first|apply Kd.S_alloc|apply Kd.S_drewN|apply Kd.S_drew));exact h):p:=h x
theorem rr_ {p:Prop} (h:p:=by first|rfl|(simp[errW_none,errW_some]<;>rfl)|(simp[*,errW_none,errW_some]<;>rfl)):p:=h
theorem cs2_ {w:World} {g:Nat} {t:TypeId} {v0 v1:Value} (h:w.heap[g]? =some (.cells #[v0,v1] t (0,0))):w.cell? ⟨g,0,none⟩=some v0∧w.cell? ⟨g,1,none⟩=some v1:=⟨(blk_cell h 0).trans rfl,(blk_cell h 1).trans rfl⟩
theorem fz2_ {w:World} {g:Nat} {t:TypeId} {cs:Array Value} (h:w.heap[g]? =some (.cells cs t (0,0))):w.frozen? ⟨g,0,none⟩=false∧w.frozen? ⟨g,1,none⟩=false:=⟨blk_frozen h 0,blk_frozen h 1⟩
theorem cs3_ {w:World} {g:Nat} {t:TypeId} {v0 v1 v2:Value} (h:w.heap[g]? =some (.cells #[v0,v1,v2] t (0,0))):w.cell? ⟨g,0,none⟩=some v0∧w.cell? ⟨g,1,none⟩=some v1∧w.cell? ⟨g,2,none⟩=some v2:=⟨(blk_cell h 0).trans rfl,(blk_cell h 1).trans rfl,(blk_cell h 2).trans rfl⟩
theorem fz3_ {w:World} {g:Nat} {t:TypeId} {cs:Array Value} (h:w.heap[g]? =some (.cells cs t (0,0))):w.frozen? ⟨g,0,none⟩=false∧w.frozen? ⟨g,1,none⟩=false∧w.frozen? ⟨g,2,none⟩=false:=⟨blk_frozen h 0,blk_frozen h 1,blk_frozen h 2⟩
theorem cs4_ {w:World} {g:Nat} {t:TypeId} {v0 v1 v2 v3:Value} (h:w.heap[g]? =some (.cells #[v0,v1,v2,v3] t (0,0))):w.cell? ⟨g,0,none⟩=some v0∧w.cell? ⟨g,1,none⟩=some v1∧w.cell? ⟨g,2,none⟩=some v2∧w.cell? ⟨g,3,none⟩=some v3:=⟨(blk_cell h 0).trans rfl,(blk_cell h 1).trans rfl,(blk_cell h 2).trans rfl,(blk_cell h 3).trans rfl⟩
theorem fz4_ {w:World} {g:Nat} {t:TypeId} {cs:Array Value} (h:w.heap[g]? =some (.cells cs t (0,0))):w.frozen? ⟨g,0,none⟩=false∧w.frozen? ⟨g,1,none⟩=false∧w.frozen? ⟨g,2,none⟩=false∧w.frozen? ⟨g,3,none⟩=false:=⟨blk_frozen h 0,blk_frozen h 1,blk_frozen h 2,blk_frozen h 3⟩
theorem cs6_ {w:World} {g:Nat} {t:TypeId} {v0 v1 v2 v3 v4 v5:Value} (h:w.heap[g]? =some (.cells #[v0,v1,v2,v3,v4,v5] t (0,0))):w.cell? ⟨g,0,none⟩=some v0∧w.cell? ⟨g,1,none⟩=some v1∧w.cell? ⟨g,2,none⟩=some v2∧w.cell? ⟨g,3,none⟩=some v3∧w.cell? ⟨g,4,none⟩=some v4∧w.cell? ⟨g,5,none⟩=some v5:=⟨(blk_cell h 0).trans rfl,(blk_cell h 1).trans rfl,(blk_cell h 2).trans rfl,(blk_cell h 3).trans rfl,(blk_cell h 4).trans rfl,(blk_cell h 5).trans rfl⟩
theorem fz6_ {w:World} {g:Nat} {t:TypeId} {cs:Array Value} (h:w.heap[g]? =some (.cells cs t (0,0))):w.frozen? ⟨g,0,none⟩=false∧w.frozen? ⟨g,1,none⟩=false∧w.frozen? ⟨g,2,none⟩=false∧w.frozen? ⟨g,3,none⟩=false∧w.frozen? ⟨g,4,none⟩=false∧w.frozen? ⟨g,5,none⟩=false:=⟨blk_frozen h 0,blk_frozen h 1,blk_frozen h 2,blk_frozen h 3,blk_frozen h 4,blk_frozen h 5⟩
theorem sz_ {w W:World} {g:Nat} (hg:g=W.heap.size) (h:Below w.heap.size w W):w.heap.size≤g:=by rw[hg];exact below_size h
theorem dr_ {p:Prop} (h:p:=by repeat (first|exact Drawn0.refl _|apply Drawn0.step)):p:=h
theorem od_ {p:Prop} [Decidable p] (h:decide p=true:=by first|(with_reducible assumption)|assumption):p:=of_decide_eq_true h
theorem rs_ {p:Prop} (h:p:=by first|rfl|(simp;done)|(simp[*];done)):p:=h
theorem cl_ {w w':World} {a:Addr} {v:Value} (x:Below w.heap.size w w') (h:w.cell? a=some v):w'.cell? a=some v:=(x.cell (World.block_lt_of_cell? w _ h)).trans h
theorem ne_ {a b:Int} (h:a=b) (c:Int) (hc:(b==c)=false:=by rfl):(a==c)=false:=by rw[h];exact hc
theorem nd_ {a b:Int} (h:a=b) (c:Int) (hc:(b !=c)=true:=by rfl):(a !=c)=true:=by rw[h];exact hc
theorem rt_ {P:Program} {fn:Func} {R:Ending→World→Prop} {a:Act} {w:World} (hR:R (.returned (.tuple #[])) w) (h:fn.results=#[]:=by rfl) (hd:a.defers=[]:=by rfl):bodyPost P fn R .ret a w:=bodyPost_ret (results_none h _ _ _) hd hR
theorem e1_ {a b:Int} (h:a=b):(a==b)=true:=beq_iff_eq.2 h
theorem e0_ {a b:Int} (h:¬a=b):(a==b)=false:=beq_eq_false_iff_ne.2 h
theorem gd_ {P:Program} {ops:Array Oper} {Q:Exit→Act→World→Prop} {rest:List Oper} {o:Oper} {a:Act} {W:World} (N:Tmp) (_hN:o.dst=some N) (h:wpList P ops Q (o ::rest) a W):wpList P ops Q (o ::rest) a W:=h
theorem gc_ {P:Program} {ops:Array Oper} {Q:Exit→Act→World→Prop} {rest:List Oper} {o:Oper} {a:Act} {W:World} (f:FuncId) {as_:Array Operand} {ts:Array TypeId} (_ho:o.op=.call {callee:=.value (.func f),args:=as_,argTypes:=ts}) (h:wpList P ops Q (o ::rest) a W):wpList P ops Q (o ::rest) a W:=h
theorem bx_ {P:Program} {ops:Array Oper} {Q:Exit→Act→World→Prop} {rest:List Oper} {o:Oper} {a:Act} {W:World} (cs:Array Value) (t:TypeId) (h:∀ g,g=W.heap.size→∀ w1,w1.heap[g]? =some (.cells cs t (0,0))→Below W.heap.size W w1→wpList P ops Q rest (a.put o.dst (.pointer (some ⟨g,0,none⟩))) w1) (hgd:o.guard=none:=by rfl) (hrun:(execOp a.eval o).run P W=.ok (.value (.pointer (some ⟨W.heap.size,0,none⟩))) (W.alloc (.cells cs t (0,0))):=by first|(go_simp;done)|(go_simp;rfl)):wpList P ops Q (o ::rest) a W:=
  Kd.event_run hgd hrun (h _ rfl _ (blk_new W _) (below_alloc (Below.refl _ _) _))
theorem kb_ {w w1 w2:World} {g:Nat} {o:Obj} (x:Aside0 (w.heap[g]? =some o)) (hb:Below w1.heap.size w1 w2) (h:w.heap[g]? =some o→w1.heap[g]? =some o:=by intro h;(with_reducible repeat (first|refine blk_drewN ?_ _|refine blk_drew ?_|refine blk_alloc ?_ _));exact h):Aside0 (w2.heap[g]? =some o):=⟨blk_below (h x.out) hb⟩
theorem nb_ {w w1:World} {g g':Nat} {o:Obj} (x:Aside0 (w.heap[g]? =some o)) (hg:g'=w1.heap.size) (h:w.heap[g]? =some o→w1.heap[g]? =some o:=by intro h;(with_reducible repeat (first|refine blk_drewN ?_ _|refine blk_drew ?_|refine blk_alloc ?_ _));exact h):Aside0 (g≠g')∧Aside0 (g'≠g):=⟨⟨by rw[hg];exact Nat.ne_of_lt (blk_lt (h x.out))⟩,⟨by rw[hg];exact Nat.ne_of_gt (blk_lt (h x.out))⟩⟩
theorem bs_ {w w0 w1 w2:World} (x:Aside0 (Below w.heap.size w w0)) (hb:Below w1.heap.size w1 w2) (h:Below w.heap.size w w0→Below w.heap.size w w1:=by intro h;repeat (first|(with_reducible first|exact h|apply below_alloc|apply pw_below_drewN|apply below_drew1|refine below_set ?_ (Aside0.out (by assumption)))|exact h)):Aside0 (Below w.heap.size w w2):=⟨below_step (h x.out) hb⟩
theorem gw_ {w w0 W:World} {g:Nat} (hg:g=W.heap.size) (x:Aside0 (Below w.heap.size w w0)) (h:Below w.heap.size w w0→Below w.heap.size w W:=by intro h;repeat (first|(with_reducible first|exact h|apply below_alloc|apply pw_below_drewN|apply below_drew1|refine below_set ?_ (Aside0.out (by assumption)))|exact h)):Aside0 (w.heap.size≤g):=⟨sz_ hg (h x.out)⟩
theorem cb_ {α:Type} {d:Kd α} {w w0 W:World} {A:Option Addr} {n:Nat} {xs:List α} (x:Aside0 (Kd.C d w A n xs)) (y:Aside0 (Below w.heap.size w w0)) (h:Kd.C d w0 A n xs→Kd.C d W A n xs:=by intro h;repeat (first|exact h|(with_reducible refine Kd.C_alloc ?_ _)|(with_reducible refine Kd.C_drewN ?_ _)|(with_reducible refine Kd.C_drew ?_))):Kd.C d W A n xs:=h (Kd.C_below x.out y.out)
theorem gn_ {P : Program} {ops : Array Oper} {Q : Exit → Act → World → Prop} {rest : List Oper} {oi : Oper} {a : Act} {w : World} (N : Option Tmp) {f : FuncId} {fn : Func} {as_ : Array Operand} {ts : Array TypeId} (hf : P.funcs[f]? = some fn) {args : Array Value} {v : Value} (hc : Calls P f args w fun e w' => e = .returned v ∧ Drawn0 w w') (h : ∀ n, wpList P ops Q rest (a.put N v) (w.drewN n)) (hd : oi.dst = N := by rfl) (hg : oi.guard = none := by rfl) (hname : (fn.name == "runtime.NumGoroutine") = false := by kernel_rfl) (hb : fn.body.isSome = true := by rfl)
    (hop:oi.op=.call {callee:=.value (.func f),args:=as_,argTypes:=ts}:=by rfl) (hargs:as_.map a.eval=args:=by exact ar):wpList P ops Q (oi ::rest) a w:=
  goesL_ N hd hg hf hname hb args hop hargs (hc.mono fun e w' he=>by obtain⟨rfl,⟨n,rfl⟩⟩:=he;exact⟨_,rfl,h n⟩)
theorem gm_ {P : Program} {ops : Array Oper} {Q : Exit → Act → World → Prop} {rest : List Oper} {oi : Oper} {a : Act} {w : World} (N : Option Tmp) {f : FuncId} {fn : Func} {as_ : Array Operand} {ts : Array TypeId} (hf : P.funcs[f]? = some fn) {args : Array Value} {v : Value} (hc : Calls P f args w fun e w' => e = .returned v ∧ Below w.heap.size w w') (h : ∀ w', Below w.heap.size w w' → wpList P ops Q rest (a.put N v) w') (hd : oi.dst = N := by rfl) (hg : oi.guard = none := by rfl) (hname : (fn.name == "runtime.NumGoroutine") = false := by kernel_rfl) (hb : fn.body.isSome = true := by rfl)
    (hop:oi.op=.call {callee:=.value (.func f),args:=as_,argTypes:=ts}:=by rfl) (hargs:as_.map a.eval=args:=by exact ar):wpList P ops Q (oi ::rest) a w:=
  goesL_ N hd hg hf hname hb args hop hargs (hc.mono fun e w' he=>by obtain⟨rfl,hb⟩:=he;exact⟨_,rfl,h w' hb⟩)
theorem iT_ {α:Type} {x y r:α} (h:(if true=true then x else y)=r):x=r:=(if_pos rfl).symm.trans h
theorem iF_ {α:Type} {x y r:α} (h:(if false=true then x else y)=r):y=r:=(if_neg (show ¬(false=true) by decide)).symm.trans h
theorem bi_ {α β:Type} {o:Option α} {f:α→Option β} {r:β} (h:o.bind f=some r):∃ t,o=some t∧f t=some r:=Option.bind_eq_some_iff.mp h
theorem ce_ {w w':World} {a:Addr} {v:Value} (x:Aside0 (Below w.heap.size w w')) (h:w.cell? a=some v):w'.cell? a=some v:=(x.out.cell (World.block_lt_of_cell? w _ h)).trans h
theorem eF_ {α:Type} [BEq α] [LawfulBEq α] {a b:α} (h:¬a=b):(a==b)=false∧(a !=b)=true:=⟨beq_eq_false_iff_ne.mpr h,bne_iff_ne.mpr h⟩
theorem eT_ {α:Type} [BEq α] [LawfulBEq α] {a b:α} (h:a=b):(a==b)=true∧(a !=b)=false:=⟨beq_iff_eq.mpr h,bne_eq_false_iff_eq.mpr h⟩
theorem ic_ {a:Prop} (c:Prop) (h:c→a) (g:¬c→a):a:=(Classical.em c).elim h g
theorem id_ {β:Type} {c:Prop} [Decidable c] {A:Option β} {r:β} (h:(if c then A else none)=some r):decide c=true∧A=some r:=by
  by_cases k:c
  · rw[if_pos k] at h;exact⟨decide_eq_true k,h⟩
  · rw[if_neg k] at h;cases h
theorem iq_ {β:Type} {c:Prop} [Decidable c] {A:Option β} {r:β} (h:(if c then A else none)=some r):c=True∧decide c=true∧A=some r:=⟨eq_true (of_decide_eq_true (id_ h).1),id_ h⟩
theorem im_ {β:Type} {c:Prop} [Decidable c] {A:Option β} {r:β} (h:(if c then A else none)=some r):Aside0 c∧A=some r:=⟨⟨of_decide_eq_true (id_ h).1⟩,(id_ h).2⟩
theorem nm_ {α β:Type} {x:α} {f:α→Option β} {r:β} (h:(some x).bind f=some r):∃ y,Aside0 (y=x)∧f y=some r:=⟨x,⟨rfl⟩,h⟩
theorem bA_ {α β:Type} {o:Option α} {f:α→Option β} {r:β} (h:o.bind f=some r):∃ t,Aside0 (o=some t)∧f t=some r:=let ⟨t,e,k⟩:=Option.bind_eq_some_iff.mp h;⟨t,⟨e⟩,k⟩
theorem iB_ {β:Type} {b:Bool} {A B r:β} {G:Prop} (h:b=true→A=r→G) (g:b=false→B=r→G):(if b=true then A else B)=r→G:=by
  intro H
  cases b
  · exact g rfl H
  · exact h rfl H
theorem iE_ {α β:Type} [BEq α] [LawfulBEq α] {x y:α} [Decidable (x=y)] {A B r:β} {G:Prop} (h:(x==y)=true→(x !=y)=false→A=r→G) (g:¬x=y→(x==y)=false→(x !=y)=true→B=r→G):(if x=y then A else B)=r→G:=by
  intro H
  by_cases k:x=y
  · rw[if_pos k] at H;exact h (eT_ k).1 (eT_ k).2 H
  · rw[if_neg k] at H;exact g k (eF_ k).1 (eF_ k).2 H
theorem iL_ {β:Type} {c:Prop} [Decidable c] {A B r:β} {G:Prop} (h:decide c=true→A=r→G) (g:decide c=false→B=r→G):(if c then A else B)=r→G:=by
  intro H
  by_cases k:c
  · rw[if_pos k] at H;exact h (decide_eq_true k) H
  · rw[if_neg k] at H;exact g (decide_eq_false k) H
theorem cp2_ {w:World} {g:Nat} {a0 a1:Value} {t:TypeId} {cs:Array Value} (h:w.heap[g]? =some (.cells cs t (0,0))) (e0:cs[0]? =some a0:=by rfl) (e1:cs[1]? =some a1:=by rfl):w.cell? ⟨g,0,none⟩=some a0∧w.cell? ⟨g,1,none⟩=some a1:=⟨(blk_cell h 0).trans e0,(blk_cell h 1).trans e1⟩
theorem cp3_ {w:World} {g:Nat} {a0 a1 a2:Value} {t:TypeId} {cs:Array Value} (h:w.heap[g]? =some (.cells cs t (0,0))) (e0:cs[0]? =some a0:=by rfl) (e1:cs[1]? =some a1:=by rfl) (e2:cs[2]? =some a2:=by rfl):w.cell? ⟨g,0,none⟩=some a0∧w.cell? ⟨g,1,none⟩=some a1∧w.cell? ⟨g,2,none⟩=some a2:=⟨(blk_cell h 0).trans e0,(blk_cell h 1).trans e1,(blk_cell h 2).trans e2⟩
theorem cp4_ {w:World} {g:Nat} {a0 a1 a2 a3:Value} {t:TypeId} {cs:Array Value} (h:w.heap[g]? =some (.cells cs t (0,0))) (e0:cs[0]? =some a0:=by rfl) (e1:cs[1]? =some a1:=by rfl) (e2:cs[2]? =some a2:=by rfl) (e3:cs[3]? =some a3:=by rfl):w.cell? ⟨g,0,none⟩=some a0∧w.cell? ⟨g,1,none⟩=some a1∧w.cell? ⟨g,2,none⟩=some a2∧w.cell? ⟨g,3,none⟩=some a3:=⟨(blk_cell h 0).trans e0,(blk_cell h 1).trans e1,(blk_cell h 2).trans e2,(blk_cell h 3).trans e3⟩
theorem cp5_ {w:World} {g:Nat} {a0 a1 a2 a3 a4:Value} {t:TypeId} {cs:Array Value} (h:w.heap[g]? =some (.cells cs t (0,0))) (e0:cs[0]? =some a0:=by rfl) (e1:cs[1]? =some a1:=by rfl) (e2:cs[2]? =some a2:=by rfl) (e3:cs[3]? =some a3:=by rfl) (e4:cs[4]? =some a4:=by rfl):w.cell? ⟨g,0,none⟩=some a0∧w.cell? ⟨g,1,none⟩=some a1∧w.cell? ⟨g,2,none⟩=some a2∧w.cell? ⟨g,3,none⟩=some a3∧w.cell? ⟨g,4,none⟩=some a4:=⟨(blk_cell h 0).trans e0,(blk_cell h 1).trans e1,(blk_cell h 2).trans e2,(blk_cell h 3).trans e3,(blk_cell h 4).trans e4⟩
theorem cp6_ {w:World} {g:Nat} {a0 a1 a2 a3 a4 a5:Value} {t:TypeId} {cs:Array Value} (h:w.heap[g]? =some (.cells cs t (0,0))) (e0:cs[0]? =some a0:=by rfl) (e1:cs[1]? =some a1:=by rfl) (e2:cs[2]? =some a2:=by rfl) (e3:cs[3]? =some a3:=by rfl) (e4:cs[4]? =some a4:=by rfl) (e5:cs[5]? =some a5:=by rfl):w.cell? ⟨g,0,none⟩=some a0∧w.cell? ⟨g,1,none⟩=some a1∧w.cell? ⟨g,2,none⟩=some a2∧w.cell? ⟨g,3,none⟩=some a3∧w.cell? ⟨g,4,none⟩=some a4∧w.cell? ⟨g,5,none⟩=some a5:=⟨(blk_cell h 0).trans e0,(blk_cell h 1).trans e1,(blk_cell h 2).trans e2,(blk_cell h 3).trans e3,(blk_cell h 4).trans e4,(blk_cell h 5).trans e5⟩
theorem fz5_ {w:World} {g:Nat} {t:TypeId} {cs:Array Value} (h:w.heap[g]? =some (.cells cs t (0,0))):w.frozen? ⟨g,0,none⟩=false∧w.frozen? ⟨g,1,none⟩=false∧w.frozen? ⟨g,2,none⟩=false∧w.frozen? ⟨g,3,none⟩=false∧w.frozen? ⟨g,4,none⟩=false:=⟨blk_frozen h 0,blk_frozen h 1,blk_frozen h 2,blk_frozen h 3,blk_frozen h 4⟩
section
variable {P:Program} {ops:Array Oper} {Q:Exit→Act→World→Prop} {md:Region.Mode} {S:World→Prop} {ds:List Nat} {T:Bool × List (List Nat × List Nat)} {BB:List Nat} {fuel:Nat} {l:Array Bool} {a a':Act} {w:World} {oi:Oper}
theorem sS (n:Nat) (S:World→Prop) (ds:List Nat) {id:Nat} (hS:S w.drew) (hT:rtab .any ops=T) (hB:waitsOk T.2 BB=true)
  (h:S w.drew→Aside0 (rtab .any ops=T)→Aside0 (waitsOk T.2 BB=true)→wpAnyLast P .any ops Q S ds n (Array.replicate n false) a w.drew)
  (hm:P.follows .mixedOrders=true:=by kernel_rfl) (hn:ops.size=n:=by rfl):(Code.region id ops true).wp P Q a w:=
 start_ _ hm hn rfl hS (fun k=>h k ⟨hT⟩ ⟨hB⟩)
theorem pS (HT:Aside0 (rtab md ops=T)) (i:Nat) (N:Tmp) {v:Value} (h:wpAnyLast P md ops Q S ds fuel (l.setIfInBounds i true) a' w) (hi:ops[i]? =some oi:=by rfl) (hN:oi.dst=some N:=by rfl)
  (hc:anyT T l.toList (l.setIfInBounds i true).toList i=true:=by kernel_rfl) (hQ:∀ c a w,Q (.panic c) (a.put (some N) v) w→Q (.panic c) a w:=by exact fun _ _ _ h=>h)
  (hw:Region.wanted oi (yielded ops a.tmps)=true:=by rfl) (hy:∀ w,(execOp a.eval oi).run P w=.ok (.value v) w:=by intro w';go_simp;with_reducible rfl)
  (ha:a.put (some N) v=a':=by simp only[Act.put,List.setIfInBounds_toArray,List.set_cons_zero,List.set_cons_succ,i64_w,i32_w];rfl):wpAnyLast P md ops Q S ds (fuel+1) l a w:=
 pure_ _ hi hN (any_of HT.out hc) (fun c a w h=>hQ c a w (hN▸h)) (.inl ⟨hw,hy⟩) ha h
theorem pO (HT:Aside0 (rtab md ops=T)) (i:Nat) (N:Tmp) {v:Value} (hy:∀ w,(execOp a.eval oi).run P w=.ok (.value v) w) (h:wpAnyLast P md ops Q S ds fuel (l.setIfInBounds i true) a' w) (hi:ops[i]? =some oi:=by rfl) (hN:oi.dst=some N:=by rfl)
  (hc:anyT T l.toList (l.setIfInBounds i true).toList i=true:=by kernel_rfl) (hQ:∀ c a w,Q (.panic c) (a.put (some N) v) w→Q (.panic c) a w:=by exact fun _ _ _ h=>h)
  (hw:Region.wanted oi (yielded ops a.tmps)=true:=by rfl)
  (ha:a.put (some N) v=a':=by simp only[Act.put,List.setIfInBounds_toArray,List.set_cons_zero,List.set_cons_succ,i64_w,i32_w];rfl):wpAnyLast P md ops Q S ds (fuel+1) l a w:=
 pure_ _ hi hN (any_of HT.out hc) (fun c a w h=>hQ c a w (hN▸h)) (.inl ⟨hw,hy⟩) ha h
theorem pN (HT:Aside0 (rtab md ops=T)) (i:Nat) (N:Tmp) (h:wpAnyLast P md ops Q S ds fuel (l.setIfInBounds i true) a' w) (hi:ops[i]? =some oi:=by rfl) (hN:oi.dst=some N:=by rfl)
  (hc:anyT T l.toList (l.setIfInBounds i true).toList i=true:=by kernel_rfl) (hQ:∀ c a w,Q (.panic c) (a.put (some N) undef) w→Q (.panic c) a w:=by exact fun _ _ _ h=>h)
  (hw:Region.wanted oi (yielded ops a.tmps)=false:=by rfl)
  (ha:a.put (some N) undef=a':=by simp only[Act.put,List.setIfInBounds_toArray,List.set_cons_zero,List.set_cons_succ,i64_w,i32_w];rfl):wpAnyLast P md ops Q S ds (fuel+1) l a w:=
 pure_ _ hi hN (any_of HT.out hc) (fun c a w h=>hQ c a w (hN▸h)) (.inr ⟨hw,rfl⟩) ha h
theorem tS (HT:Aside0 (rtab md ops=T)) (HW:Aside0 (waitsOk T.2 BB=true)) (i:Nat) (N:Tmp) {v:Value} (hS:S w) (h:wpAnyLast P md ops Q S ds fuel (l.setIfInBounds i true) a' w) (hi:ops[i]? =some oi:=by rfl) (hN:oi.dst=some N:=by rfl)
  (hc:takeW T BB ds l.toList (l.setIfInBounds i true).toList i=true:=by kernel_rfl) (hQ:∀ c a w,Q (.panic c) (a.put (some N) v) w→Q (.panic c) a w:=by exact fun _ _ _ h=>h)
  (hw:Region.wanted oi (yielded ops a.tmps)=true:=by rfl) (hy:∀ w,S w→(execOp a.eval oi).run P w=.ok (.value v) w:=by intro w' hs_;(try dsimp only at hs_);go_simp;with_reducible rfl)
  (ha:a.put (some N) v=a':=by simp only[Act.put,List.setIfInBounds_toArray,List.set_cons_zero,List.set_cons_succ,i64_w,i32_w];rfl):wpAnyLast P md ops Q S ds (fuel+1) l a w:=
 take_ _ hi hN (take_ofW HT.out HW.out hc) (fun c a w h=>hQ c a w (hN▸h)) (.inl ⟨hw,hy⟩) hS ha h
theorem oS (HT:Aside0 (rtab md ops=T)) (i:Nat) (N:Option Tmp)
  (h:∀ K:Act→World→Prop,Shut (∀ a' w',S w'→(S w'→wpAnyLast P md ops Q S ds fuel (l.setIfInBounds i true) a' w')→K a' w')→if Region.wanted oi (yielded ops a.tmps)=true then Oper.wp P oi a w K Q else K (a.put N undef) w)
  (hi:ops[i]? =some oi:=by rfl) (hN:oi.dst=N:=by rfl) (hc:(readyT T.2 l.toList==[i] && l.toList.set i true==(l.setIfInBounds i true).toList)=true:=by kernel_rfl) (hd:i∉ds:=by decide):wpAnyLast P md ops Q S ds (fuel+1) l a w:=
 one_ _ hi hN (one_of HT.out hc) hd h
theorem lS (HT:Aside0 (rtab md ops=T)) (i:Nat) (N:Option Tmp)
  (h:∀ K:Act→World→Prop,Shut (∀ a' w',wpAnyLast P md ops Q S ds fuel (l.setIfInBounds i true) a' w'→K a' w')→if Region.wanted oi (yielded ops a.tmps)=true then Oper.wp P oi a w K Q else K (a.put N undef) w)
  (hi:ops[i]? =some oi:=by rfl) (hN:oi.dst=N:=by rfl) (hc:(readyT T.2 l.toList==[i] && l.toList.set i true==(l.setIfInBounds i true).toList)=true:=by kernel_rfl) (hd:i∈ds:=by decide):wpAnyLast P md ops Q S ds (fuel+1) l a w:=
 last_ _ hi hN (one_of HT.out hc) hd h
theorem nS (N:Option Tmp) {v:Value} (h:wpAnyLast P md ops Q S ds fuel l a' w) (ha:a.put N v=a':=by simp only[Act.put,List.setIfInBounds_toArray,List.set_cons_zero,List.set_cons_succ,i64_w,i32_w];rfl):wpAnyLast P md ops Q S ds fuel l (a.put N v) w:=norm_ ha h
theorem dS (HT:Aside0 (rtab md ops=T)) {n:Nat} (h:Q .normal a w) (hc:(readyT T.2 l.toList==[])=true:=by kernel_rfl):wpAnyLast P md ops Q S ds n l a w:=done_ (done_of HT.out hc) h
end
end Go.Proofs.Ytanhbfhmgmjdgaa.Q
