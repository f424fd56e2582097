-- Written by a program of this session; it walks the functions that the law reaches.
import Derived.Test.YtoeenmajdidfoaaDoorProg
import Derived.Below
import Derived.Deep.Draws
import Derived.Deep.AppendLies
import Derived.Maps.AppendAt
import Derived.OwnWalk
import Derived.Laws.BytesArg
import Derived.Laws.MakeOwn
import Derived.Laws.OwnMore
import Derived.Deep.OwnRows
import Derived.Tactics
import Derived.Lib.ConvBytes
import Derived.Laws.Slices
import Derived.WalkKit
import Derived.KernelRfl
import Derived.RowKit3
import Derived.Deep.LoopGhost
import Derived.Deep.QuietTactic
import Derived.BigQuiet
import Derived.WideLaws
import Derived.Deep.DeepCutAuto
import Derived.Deep.CutBlock
import Derived.Deep.RegionHeld3
import Derived.Laws.Rows
import Derived.Lib.AppendStr
import Derived.ArgAppend
import Derived.StillTailTactics
import Derived.Laws.IdiomCopy
import Derived.OrdersHeld
import Derived.Laws.BitsLemmas
import Derived.RowKit
import Derived.Test.YtoeenmajdidfoaaDoorLen64
import Derived.Test.YtoeenmajdidfoaaDoorShelf
import Derived.Test.YtoeenmajdidfoaaDoorWWords
namespace Go.Proofs.YtoeenmajdidfoaaDoor.Q
open Go.RowKit Go.Proofs.YtoeenmajdidfoaaDoorW.PrintWords Go.Proofs.YtoeenmajdidfoaaDoorW.PrintLast Go.Proofs.YtoeenmajdidfoaaDoorW.PrintMore
attribute [local go_sem] max2_int min2_int max_two min_two max_three min_three max_four min_four   -- for this text's walks alone
set_option linter.unusedVariables false
set_option linter.unusedSimpArgs false



def errW:Option Int→Value
 |none=>.nilIface
 |some c=>.iface 99 (.int .i64 c)
theorem errW_none:errW none=.nilIface:=rfl
theorem errW_some (c:Int):errW (some c)=.iface 99 (.int .i64 c):=rfl

theorem info3:(Tryd.prog.info? 3).map (fun i=>(i.zero,i.size,i.bytes))=some (some (.int .i64 0),1,8):=by kernel_rfl
theorem info5:(Tryd.prog.info? 5).map (fun i=>(i.zero,i.size,i.bytes))=some (some (.int .u8 0),1,1):=by kernel_rfl
theorem info9:(Tryd.prog.info? 9).map (fun i=>(i.zero,i.size,i.bytes))=some (some (.string ⟨#[]⟩),1,16):=by kernel_rfl
theorem info33:(Tryd.prog.info? 33).map (fun i=>(i.zero,i.size,i.bytes))=some (some (.agg #[(.int .i64 0),(.int .i64 0),(.int .i64 0)]),3,24):=by kernel_rfl
theorem info43:(Tryd.prog.info? 43).map (fun i=>(i.zero,i.size,i.bytes))=some (some (.agg #[(.int .i64 0),(.int .i64 0),(.slice none 0 0)]),3,40):=by kernel_rfl
theorem info54:(Tryd.prog.info? 54).map (fun i=>(i.zero,i.size,i.bytes))=some (some (.slice none 0 0),1,24):=by kernel_rfl
-- the values' own types
/-! #### struct type 43, nested in itself -/
structure S43 where
 f0:Int
 f1:Int
 f2:(List S43)
def z43:S43:=⟨(0:Int),(0:Int),([]:List S43)⟩
def F43 (d:Kd S43):Kd S43:=Kd.iso (Kd.pair (Kd.int .i64) (Kd.pair (Kd.int .i64) (Kd.slice 43 d))) (fun x:S43=>(x.f0,x.f1,x.f2))
theorem mono43:Kd.Mono F43:=Kd.mono_iso _ (Kd.mono_pair (Kd.mono_const _) (Kd.mono_pair (Kd.mono_const _) (Kd.mono_slice 43 Kd.mono_id)))
theorem sub43:Kd.Sub F43 [43]:=Kd.sub_iso _ (Kd.sub_pair (Kd.sub_const _ (by decide)) (Kd.sub_pair (Kd.sub_const _ (by decide)) (Kd.sub_slice 43 (by decide) Kd.sub_id)))
theorem sz43:∀ n,(Kd.upto F43 3 [43] n).sz=3:=Kd.upto_sz (fun _=>rfl)
def k43:Kd S43:=Kd.fix F43 3 [43] sz43 (Kd.upto_E sub43)
theorem k43_open {w:World} {x:S43} {cs:List Value} (h:k43.K w x cs):∃ A2 c2,cs=[.int .i64 x.f0,.int .i64 x.f1,.slice A2 x.f2.length c2]∧x.f2.length≤c2∧k43.C w A2 x.f2.length x.f2:=by
 obtain⟨n,h⟩:=h
 cases n with
 |zero=>exact h.elim
 |succ n=>
  obtain⟨_,_,rfl,rfl,⟨_,_,rfl,rfl,⟨A2,c2,rfl,l2,g2⟩⟩⟩:=h
  exact⟨A2,c2,rfl,l2,Kd.fix_C g2⟩
theorem k43_openM {w:World} {base:Nat} {ok:Nat→Prop} {x:S43} {cs:List Value} (h:k43.M w base ok x cs):∃ v2,cs=[.int .i64 x.f0,.int .i64 x.f1,v2]∧k43.R 43 w base ok v2 x.f2:=by
 obtain⟨n,h⟩:=h
 cases n with
 |zero=>exact h.elim
 |succ n=>
  obtain⟨_,_,rfl,rfl,⟨_,_,rfl,rfl,⟨v2,rfl,g2⟩⟩⟩:=h
  exact⟨v2,rfl,Kd.fix_R g2⟩
theorem k43_mk (w:World) (x:S43) {A2:Option Addr} {c2:Nat} (l2:x.f2.length≤c2) (g2:k43.C w A2 x.f2.length x.f2):k43.K w x [.int .i64 x.f0,.int .i64 x.f1,.slice A2 x.f2.length c2]:=by
 obtain⟨n2,q2⟩:=Kd.fix_C_back mono43 g2
 have r2:=Kd.upto_C_le mono43 sz43 (show n2≤n2 by omega) q2
 exact⟨n2+1,⟨[.int .i64 x.f0],[.int .i64 x.f1,.slice A2 x.f2.length c2],rfl,rfl,⟨[.int .i64 x.f1],[.slice A2 x.f2.length c2],rfl,rfl,⟨A2,c2,rfl,l2,r2⟩⟩⟩⟩
theorem k43_mkM (w:World) (base:Nat) (ok:Nat→Prop) (x:S43) {v2:Value} (g2:k43.R 43 w base ok v2 x.f2):k43.M w base ok x [.int .i64 x.f0,.int .i64 x.f1,v2]:=by
 obtain⟨n2,q2⟩:=Kd.fix_R_back mono43 g2
 have r2:=Kd.upto_R_le mono43 sz43 (show n2≤n2 by omega) q2
 exact⟨n2+1,⟨[.int .i64 x.f0],[.int .i64 x.f1,v2],rfl,rfl,⟨[.int .i64 x.f1],[v2],rfl,rfl,⟨v2,rfl,r2⟩⟩⟩⟩
def rd_T43 (xs:List S43) (i:Int):S43:=xs.getD i.toNat z43
theorem at_T43 {w:World} {A:Option Addr} {n:Nat} {xs:List S43} (h:Kd.C k43 w A n xs) (i:Int) (h0:0≤i) (h1:i<n):∃ ad A2 c2,A=some ad∧w.cell? (ad.add (i.toNat*3))=some (.int .i64 (rd_T43 xs i).f0)∧w.cell? ⟨(ad.add (i.toNat*3)).block,(ad.add (i.toNat*3)).off+1,none⟩=some (.int .i64 (rd_T43 xs i).f1)∧w.cell? ⟨(ad.add (i.toNat*3)).block,(ad.add (i.toNat*3)).off+2,none⟩=some (.slice A2 (rd_T43 xs i).f2.length c2)∧(rd_T43 xs i).f2.length≤c2∧k43.C w A2 (rd_T43 xs i).f2.length (rd_T43 xs i).f2:=by
 obtain⟨ad,c,e,_,hK,hc0⟩:=Kd.C_get h z43 i h0 h1
 have hc:∀ j u,c[j]? =some u→w.cell? (ad.add (i.toNat*3+j))=some u:=hc0
 obtain⟨A2,c2,rfl,l2,g2⟩:=k43_open hK
 exact⟨ad,A2,c2,e,hc 0 _ rfl,by rw[←add_field _ _ 1 (by omega)];exact hc 1 _ rfl,by rw[←add_field _ _ 2 (by omega)];exact hc 2 _ rfl,l2,g2⟩
/-! #### struct type 33 -/
structure S33 where
 f0:Int
 f1:Int
 f2:Int
def z33:S33:=⟨(0:Int),(0:Int),(0:Int)⟩
def k33:Kd S33:=Kd.iso (Kd.pair (Kd.int .i64) (Kd.pair (Kd.int .i64) (Kd.int .i64))) (fun x:S33=>(x.f0,x.f1,x.f2))
theorem k33_open {w:World} {x:S33} {cs:List Value} (h:k33.K w x cs):cs=[.int .i64 x.f0,.int .i64 x.f1,.int .i64 x.f2]:=by
 obtain⟨_,_,rfl,rfl,⟨_,_,rfl,rfl,rfl⟩⟩:=h
 exact rfl
theorem k33_openM {w:World} {base:Nat} {ok:Nat→Prop} {x:S33} {cs:List Value} (h:k33.M w base ok x cs):cs=[.int .i64 x.f0,.int .i64 x.f1,.int .i64 x.f2]:=by
 obtain⟨_,_,rfl,rfl,⟨_,_,rfl,rfl,rfl⟩⟩:=h
 exact rfl
theorem k33_mk (w:World) (x:S33):k33.K w x [.int .i64 x.f0,.int .i64 x.f1,.int .i64 x.f2]:=⟨[.int .i64 x.f0],[.int .i64 x.f1,.int .i64 x.f2],rfl,rfl,⟨[.int .i64 x.f1],[.int .i64 x.f2],rfl,rfl,rfl⟩⟩
theorem k33_mkM (w:World) (base:Nat) (ok:Nat→Prop) (x:S33):k33.M w base ok x [.int .i64 x.f0,.int .i64 x.f1,.int .i64 x.f2]:=⟨[.int .i64 x.f0],[.int .i64 x.f1,.int .i64 x.f2],rfl,rfl,⟨[.int .i64 x.f1],[.int .i64 x.f2],rfl,rfl,rfl⟩⟩
def rd_T33 (xs:List S33) (i:Int):S33:=xs.getD i.toNat z33
theorem at_T33 {w:World} {A:Option Addr} {n:Nat} {xs:List S33} (h:Kd.C k33 w A n xs) (i:Int) (h0:0≤i) (h1:i<n):∃ ad,A=some ad∧w.cell? (ad.add (i.toNat*3))=some (.int .i64 (rd_T33 xs i).f0)∧w.cell? ⟨(ad.add (i.toNat*3)).block,(ad.add (i.toNat*3)).off+1,none⟩=some (.int .i64 (rd_T33 xs i).f1)∧w.cell? ⟨(ad.add (i.toNat*3)).block,(ad.add (i.toNat*3)).off+2,none⟩=some (.int .i64 (rd_T33 xs i).f2):=by
 obtain⟨ad,c,e,_,hK,hc0⟩:=Kd.C_get h z33 i h0 h1
 have hc:∀ j u,c[j]? =some u→w.cell? (ad.add (i.toNat*3+j))=some u:=hc0
 obtain rfl:=k33_open hK
 exact⟨ad,e,hc 0 _ rfl,by rw[←add_field _ _ 1 (by omega)];exact hc 1 _ rfl,by rw[←add_field _ _ 2 (by omega)];exact hc 2 _ rfl⟩
def rd_L4 (xs:List (List Int)) (i:Int):(List Int):=xs.getD i.toNat ([]:List Int)
theorem at_L4 {w:World} {A:Option Addr} {n:Nat} {xs:List (List Int)} (h:Kd.C (Kd.slice 3 (Kd.int .i64)) w A n xs) (i:Int) (h0:0≤i) (h1:i<n):∃ ad A0 c0,A=some ad∧w.cell? (ad.add i.toNat)=some (.slice A0 (rd_L4 xs i).length c0)∧(rd_L4 xs i).length≤c0∧(Kd.int .i64).C w A0 (rd_L4 xs i).length (rd_L4 xs i):=by
 obtain⟨ad,c,e,_,hK,hc0⟩:=Kd.C_get h ([]:List Int) i h0 h1
 have hc:∀ j u,c[j]? =some u→w.cell? (ad.add (i.toNat*1+j))=some u:=hc0
 obtain⟨A0,c0,rfl,l0,g0⟩:=hK
 exact⟨ad,A0,c0,e,by have hq:=hc 0 _ rfl;rwa [Nat.mul_one,Nat.add_zero] at hq,l0,g0⟩
theorem A_ {p:Prop} (h:p):Aside0 p:=Aside0.mk h
theorem bw {p q:Prop} (x:q) (h:q→p:=by intro h;repeat (first|(with_reducible first|exact h|apply below_alloc|apply pw_below_drewN|apply below_drew1|refine below_set ?_ (Aside0.out (by assumption)))|exact h)):p:=h x
theorem bk {p q:Prop} (x:q) (h:q→p:=by intro h;(with_reducible repeat (first|refine blk_drewN ?_ _|refine blk_drew ?_|refine blk_alloc ?_ _));exact h):p:=h x
theorem ar {p:Prop} (h:p:=by (try simp only[List.map_toArray,List.map_cons,List.map_nil]);first|done|rfl|(simp only[List.length_drop,List.length_take];rfl)):p:=h
theorem y2 {p q:Prop} (x:q) (h:q→p:=by intro h;repeat (first|(with_reducible first|exact h|apply KeepBut.set_|apply keep_drewN|apply keep_drew|apply keep_alloc)|exact h)):p:=h x
theorem y3 {a b c:World} {g:Nat} {r:Option Nat} (x:KeepBut a b g r) (h:KeepBut a b g r→KeepBut a c g r:=by intro h;repeat (first|(with_reducible first|exact h|apply KeepBut.set_|apply keep_drewN|apply keep_drew|apply keep_alloc|refine keep_far ?_ (Aside0.out (by assumption)) _)|exact h)):KeepBut a c g r:=h x
theorem kr_ {p q:Prop} (x:q) (h:q→p:=by intro h;(with_reducible repeat (first|apply Kd.R_alloc|apply Kd.R_drewN|apply Kd.R_drew));exact h):p:=h x
theorem ks_ {p q:Prop} (x:q) (h:q→p:=by intro h;(with_reducible repeat (first|apply Kd.S_alloc|apply Kd.S_drewN|apply Kd.S_drew));exact h):p:=h x
theorem rr_ {p:Prop} (h:p:=by first|rfl|(simp[errW_none,errW_some]<;>rfl)|(simp[*,errW_none,errW_some]<;>rfl)):p:=h
theorem cs3_ {w:World} {g:Nat} {t:TypeId} {v0 v1 v2:Value} (h:w.heap[g]? =some (.cells #[v0,v1,v2] t (0,0))):w.cell? ⟨g,0,none⟩=some v0∧w.cell? ⟨g,1,none⟩=some v1∧w.cell? ⟨g,2,none⟩=some v2:=⟨(blk_cell h 0).trans rfl,(blk_cell h 1).trans rfl,(blk_cell h 2).trans rfl⟩
theorem fz3_ {w:World} {g:Nat} {t:TypeId} {cs:Array Value} (h:w.heap[g]? =some (.cells cs t (0,0))):w.frozen? ⟨g,0,none⟩=false∧w.frozen? ⟨g,1,none⟩=false∧w.frozen? ⟨g,2,none⟩=false:=⟨blk_frozen h 0,blk_frozen h 1,blk_frozen h 2⟩
theorem sz_ {w W:World} {g:Nat} (hg:g=W.heap.size) (h:Below w.heap.size w W):w.heap.size≤g:=by rw[hg];exact below_size h
theorem dr_ {p:Prop} (h:p:=by repeat (first|exact Drawn0.refl _|apply Drawn0.step)):p:=h
theorem od_ {p:Prop} [Decidable p] (h:decide p=true:=by first|(with_reducible assumption)|assumption):p:=of_decide_eq_true h
theorem rs_ {p:Prop} (h:p:=by first|rfl|(simp;done)|(simp[*];done)):p:=h
theorem cl_ {w w':World} {a:Addr} {v:Value} (x:Below w.heap.size w w') (h:w.cell? a=some v):w'.cell? a=some v:=(x.cell (World.block_lt_of_cell? w _ h)).trans h
theorem ne_ {a b:Int} (h:a=b) (c:Int) (hc:(b==c)=false:=by rfl):(a==c)=false:=by rw[h];exact hc
theorem nd_ {a b:Int} (h:a=b) (c:Int) (hc:(b !=c)=true:=by rfl):(a !=c)=true:=by rw[h];exact hc
theorem rt_ {P:Program} {fn:Func} {R:Ending→World→Prop} {a:Act} {w:World} (hR:R (.returned (.tuple #[])) w) (h:fn.results=#[]:=by rfl) (hd:a.defers=[]:=by rfl):bodyPost P fn R .ret a w:=bodyPost_ret (results_none h _ _ _) hd hR
theorem e1_ {a b:Int} (h:a=b):(a==b)=true:=beq_iff_eq.2 h
theorem e0_ {a b:Int} (h:¬a=b):(a==b)=false:=beq_eq_false_iff_ne.2 h
theorem gd_ {P:Program} {ops:Array Oper} {Q:Exit→Act→World→Prop} {rest:List Oper} {o:Oper} {a:Act} {W:World} (N:Tmp) (_hN:o.dst=some N) (h:wpList P ops Q (o ::rest) a W):wpList P ops Q (o ::rest) a W:=h
theorem gc_ {P:Program} {ops:Array Oper} {Q:Exit→Act→World→Prop} {rest:List Oper} {o:Oper} {a:Act} {W:World} (f:FuncId) {as_:Array Operand} {ts:Array TypeId} (_ho:o.op=.call {callee:=.value (.func f),args:=as_,argTypes:=ts}) (h:wpList P ops Q (o ::rest) a W):wpList P ops Q (o ::rest) a W:=h
theorem bx_ {P:Program} {ops:Array Oper} {Q:Exit→Act→World→Prop} {rest:List Oper} {o:Oper} {a:Act} {W:World} (cs:Array Value) (t:TypeId) (h:∀ g,g=W.heap.size→∀ w1,w1.heap[g]? =some (.cells cs t (0,0))→Below W.heap.size W w1→wpList P ops Q rest (a.put o.dst (.pointer (some ⟨g,0,none⟩))) w1) (hgd:o.guard=none:=by rfl) (hrun:(execOp a.eval o).run P W=.ok (.value (.pointer (some ⟨W.heap.size,0,none⟩))) (W.alloc (.cells cs t (0,0))):=by first|(go_simp;done)|(go_simp;rfl)):wpList P ops Q (o ::rest) a W:=
  Kd.event_run hgd hrun (h _ rfl _ (blk_new W _) (below_alloc (Below.refl _ _) _))
theorem kb_ {w w1 w2:World} {g:Nat} {o:Obj} (x:Aside0 (w.heap[g]? =some o)) (hb:Below w1.heap.size w1 w2) (h:w.heap[g]? =some o→w1.heap[g]? =some o:=by intro h;(with_reducible repeat (first|refine blk_drewN ?_ _|refine blk_drew ?_|refine blk_alloc ?_ _));exact h):Aside0 (w2.heap[g]? =some o):=⟨blk_below (h x.out) hb⟩
theorem nb_ {w w1:World} {g g':Nat} {o:Obj} (x:Aside0 (w.heap[g]? =some o)) (hg:g'=w1.heap.size) (h:w.heap[g]? =some o→w1.heap[g]? =some o:=by intro h;(with_reducible repeat (first|refine blk_drewN ?_ _|refine blk_drew ?_|refine blk_alloc ?_ _));exact h):Aside0 (g≠g')∧Aside0 (g'≠g):=⟨⟨by rw[hg];exact Nat.ne_of_lt (blk_lt (h x.out))⟩,⟨by rw[hg];exact Nat.ne_of_gt (blk_lt (h x.out))⟩⟩
theorem bs_ {w w0 w1 w2:World} (x:Aside0 (Below w.heap.size w w0)) (hb:Below w1.heap.size w1 w2) (h:Below w.heap.size w w0→Below w.heap.size w w1:=by intro h;repeat (first|(with_reducible first|exact h|apply below_alloc|apply pw_below_drewN|apply below_drew1|refine below_set ?_ (Aside0.out (by assumption)))|exact h)):Aside0 (Below w.heap.size w w2):=⟨below_step (h x.out) hb⟩
theorem gw_ {w w0 W:World} {g:Nat} (hg:g=W.heap.size) (x:Aside0 (Below w.heap.size w w0)) (h:Below w.heap.size w w0→Below w.heap.size w W:=by intro h;repeat (first|(with_reducible first|exact h|apply below_alloc|apply pw_below_drewN|apply below_drew1|refine below_set ?_ (Aside0.out (by assumption)))|exact h)):Aside0 (w.heap.size≤g):=⟨sz_ hg (h x.out)⟩
theorem cb_ {α:Type} {d:Kd α} {w w0 W:World} {A:Option Addr} {n:Nat} {xs:List α} (x:Aside0 (Kd.C d w A n xs)) (y:Aside0 (Below w.heap.size w w0)) (h:Kd.C d w0 A n xs→Kd.C d W A n xs:=by intro h;repeat (first|exact h|(with_reducible refine Kd.C_alloc ?_ _)|(with_reducible refine Kd.C_drewN ?_ _)|(with_reducible refine Kd.C_drew ?_))):Kd.C d W A n xs:=h (Kd.C_below x.out y.out)
theorem gn_ {P : Program} {ops : Array Oper} {Q : Exit → Act → World → Prop} {rest : List Oper} {oi : Oper} {a : Act} {w : World} (N : Option Tmp) {f : FuncId} {fn : Func} {as_ : Array Operand} {ts : Array TypeId} (hf : P.funcs[f]? = some fn) {args : Array Value} {v : Value} (hc : Calls P f args w fun e w' => e = .returned v ∧ Drawn0 w w') (h : ∀ n, wpList P ops Q rest (a.put N v) (w.drewN n)) (hd : oi.dst = N := by rfl) (hg : oi.guard = none := by rfl) (hname : (fn.name == "runtime.NumGoroutine") = false := by kernel_rfl) (hb : fn.body.isSome = true := by rfl)
    (hop:oi.op=.call {callee:=.value (.func f),args:=as_,argTypes:=ts}:=by rfl) (hargs:as_.map a.eval=args:=by exact ar):wpList P ops Q (oi ::rest) a w:=
  goesL_ N hd hg hf hname hb args hop hargs (hc.mono fun e w' he=>by obtain⟨rfl,⟨n,rfl⟩⟩:=he;exact⟨_,rfl,h n⟩)
theorem gm_ {P : Program} {ops : Array Oper} {Q : Exit → Act → World → Prop} {rest : List Oper} {oi : Oper} {a : Act} {w : World} (N : Option Tmp) {f : FuncId} {fn : Func} {as_ : Array Operand} {ts : Array TypeId} (hf : P.funcs[f]? = some fn) {args : Array Value} {v : Value} (hc : Calls P f args w fun e w' => e = .returned v ∧ Below w.heap.size w w') (h : ∀ w', Below w.heap.size w w' → wpList P ops Q rest (a.put N v) w') (hd : oi.dst = N := by rfl) (hg : oi.guard = none := by rfl) (hname : (fn.name == "runtime.NumGoroutine") = false := by kernel_rfl) (hb : fn.body.isSome = true := by rfl)
    (hop:oi.op=.call {callee:=.value (.func f),args:=as_,argTypes:=ts}:=by rfl) (hargs:as_.map a.eval=args:=by exact ar):wpList P ops Q (oi ::rest) a w:=
  goesL_ N hd hg hf hname hb args hop hargs (hc.mono fun e w' he=>by obtain⟨rfl,hb⟩:=he;exact⟨_,rfl,h w' hb⟩)
theorem iT_ {α:Type} {x y r:α} (h:(if true=true then x else y)=r):x=r:=(if_pos rfl).symm.trans h
theorem iF_ {α:Type} {x y r:α} (h:(if false=true then x else y)=r):y=r:=(if_neg (show ¬(false=true) by decide)).symm.trans h
theorem bi_ {α β:Type} {o:Option α} {f:α→Option β} {r:β} (h:o.bind f=some r):∃ t,o=some t∧f t=some r:=Option.bind_eq_some_iff.mp h
theorem ce_ {w w':World} {a:Addr} {v:Value} (x:Aside0 (Below w.heap.size w w')) (h:w.cell? a=some v):w'.cell? a=some v:=(x.out.cell (World.block_lt_of_cell? w _ h)).trans h
theorem eF_ {α:Type} [BEq α] [LawfulBEq α] {a b:α} (h:¬a=b):(a==b)=false∧(a !=b)=true:=⟨beq_eq_false_iff_ne.mpr h,bne_iff_ne.mpr h⟩
theorem eT_ {α:Type} [BEq α] [LawfulBEq α] {a b:α} (h:a=b):(a==b)=true∧(a !=b)=false:=⟨beq_iff_eq.mpr h,bne_eq_false_iff_eq.mpr h⟩
theorem ic_ {a:Prop} (c:Prop) (h:c→a) (g:¬c→a):a:=(Classical.em c).elim h g
theorem id_ {β:Type} {c:Prop} [Decidable c] {A:Option β} {r:β} (h:(if c then A else none)=some r):decide c=true∧A=some r:=by
  by_cases k:c
  · rw[if_pos k] at h;exact⟨decide_eq_true k,h⟩
  · rw[if_neg k] at h;cases h
theorem iq_ {β:Type} {c:Prop} [Decidable c] {A:Option β} {r:β} (h:(if c then A else none)=some r):c=True∧decide c=true∧A=some r:=⟨eq_true (of_decide_eq_true (id_ h).1),id_ h⟩
theorem im_ {β:Type} {c:Prop} [Decidable c] {A:Option β} {r:β} (h:(if c then A else none)=some r):Aside0 c∧A=some r:=⟨⟨of_decide_eq_true (id_ h).1⟩,(id_ h).2⟩
theorem nm_ {α β:Type} {x:α} {f:α→Option β} {r:β} (h:(some x).bind f=some r):∃ y,Aside0 (y=x)∧f y=some r:=⟨x,⟨rfl⟩,h⟩
theorem bA_ {α β:Type} {o:Option α} {f:α→Option β} {r:β} (h:o.bind f=some r):∃ t,Aside0 (o=some t)∧f t=some r:=let ⟨t,e,k⟩:=Option.bind_eq_some_iff.mp h;⟨t,⟨e⟩,k⟩
theorem iB_ {β:Type} {b:Bool} {A B r:β} {G:Prop} (h:b=true→A=r→G) (g:b=false→B=r→G):(if b=true then A else B)=r→G:=by
  intro H
  cases b
  · exact g rfl H
  · exact h rfl H
theorem iE_ {α β:Type} [BEq α] [LawfulBEq α] {x y:α} [Decidable (x=y)] {A B r:β} {G:Prop} (h:(x==y)=true→(x !=y)=false→A=r→G) (g:¬x=y→(x==y)=false→(x !=y)=true→B=r→G):(if x=y then A else B)=r→G:=by
  intro H
  by_cases k:x=y
  · rw[if_pos k] at H;exact h (eT_ k).1 (eT_ k).2 H
  · rw[if_neg k] at H;exact g k (eF_ k).1 (eF_ k).2 H
theorem iL_ {β:Type} {c:Prop} [Decidable c] {A B r:β} {G:Prop} (h:decide c=true→A=r→G) (g:decide c=false→B=r→G):(if c then A else B)=r→G:=by
  intro H
  by_cases k:c
  · rw[if_pos k] at H;exact h (decide_eq_true k) H
  · rw[if_neg k] at H;exact g (decide_eq_false k) H
section
variable {P:Program} {ops:Array Oper} {Q:Exit→Act→World→Prop} {md:Region.Mode} {S:World→Prop} {ds:List Nat} {T:Bool × List (List Nat × List Nat)} {BB:List Nat} {fuel:Nat} {l:Array Bool} {a a':Act} {w:World} {oi:Oper}
theorem sS (n:Nat) (S:World→Prop) (ds:List Nat) {id:Nat} (hS:S w.drew) (hT:rtab .any ops=T) (hB:waitsOk T.2 BB=true)
    (h:S w.drew→Aside0 (rtab .any ops=T)→Aside0 (waitsOk T.2 BB=true)→wpAnyLast P .any ops Q S ds n (Array.replicate n false) a w.drew)
    (hm:P.follows .mixedOrders=true:=by kernel_rfl) (hn:ops.size=n:=by rfl):(Code.region id ops true).wp P Q a w:=
  start_ _ hm hn rfl hS (fun k=>h k ⟨hT⟩ ⟨hB⟩)
theorem pS (HT:Aside0 (rtab md ops=T)) (i:Nat) (N:Tmp) {v:Value} (h:wpAnyLast P md ops Q S ds fuel (l.setIfInBounds i true) a' w) (hi:ops[i]? =some oi:=by rfl) (hN:oi.dst=some N:=by rfl)
    (hc:anyT T l.toList (l.setIfInBounds i true).toList i=true:=by kernel_rfl) (hQ:∀ c a w,Q (.panic c) (a.put (some N) v) w→Q (.panic c) a w:=by exact fun _ _ _ h=>h)
    (hw:Region.wanted oi (yielded ops a.tmps)=true:=by rfl) (hy:∀ w,(execOp a.eval oi).run P w=.ok (.value v) w:=by intro w';go_simp;with_reducible rfl)
    (ha:a.put (some N) v=a':=by simp only[Act.put,List.setIfInBounds_toArray,List.set_cons_zero,List.set_cons_succ,i64_w,i32_w];rfl):wpAnyLast P md ops Q S ds (fuel+1) l a w:=
  pure_ _ hi hN (any_of HT.out hc) (fun c a w h=>hQ c a w (hN▸h)) (.inl ⟨hw,hy⟩) ha h
theorem pO (HT:Aside0 (rtab md ops=T)) (i:Nat) (N:Tmp) {v:Value} (hy:∀ w,(execOp a.eval oi).run P w=.ok (.value v) w) (h:wpAnyLast P md ops Q S ds fuel (l.setIfInBounds i true) a' w) (hi:ops[i]? =some oi:=by rfl) (hN:oi.dst=some N:=by rfl)
    (hc:anyT T l.toList (l.setIfInBounds i true).toList i=true:=by kernel_rfl) (hQ:∀ c a w,Q (.panic c) (a.put (some N) v) w→Q (.panic c) a w:=by exact fun _ _ _ h=>h)
    (hw:Region.wanted oi (yielded ops a.tmps)=true:=by rfl)
    (ha:a.put (some N) v=a':=by simp only[Act.put,List.setIfInBounds_toArray,List.set_cons_zero,List.set_cons_succ,i64_w,i32_w];rfl):wpAnyLast P md ops Q S ds (fuel+1) l a w:=
  pure_ _ hi hN (any_of HT.out hc) (fun c a w h=>hQ c a w (hN▸h)) (.inl ⟨hw,hy⟩) ha h
theorem pN (HT:Aside0 (rtab md ops=T)) (i:Nat) (N:Tmp) (h:wpAnyLast P md ops Q S ds fuel (l.setIfInBounds i true) a' w) (hi:ops[i]? =some oi:=by rfl) (hN:oi.dst=some N:=by rfl)
    (hc:anyT T l.toList (l.setIfInBounds i true).toList i=true:=by kernel_rfl) (hQ:∀ c a w,Q (.panic c) (a.put (some N) undef) w→Q (.panic c) a w:=by exact fun _ _ _ h=>h)
    (hw:Region.wanted oi (yielded ops a.tmps)=false:=by rfl)
    (ha:a.put (some N) undef=a':=by simp only[Act.put,List.setIfInBounds_toArray,List.set_cons_zero,List.set_cons_succ,i64_w,i32_w];rfl):wpAnyLast P md ops Q S ds (fuel+1) l a w:=
  pure_ _ hi hN (any_of HT.out hc) (fun c a w h=>hQ c a w (hN▸h)) (.inr ⟨hw,rfl⟩) ha h
theorem tS (HT:Aside0 (rtab md ops=T)) (HW:Aside0 (waitsOk T.2 BB=true)) (i:Nat) (N:Tmp) {v:Value} (hS:S w) (h:wpAnyLast P md ops Q S ds fuel (l.setIfInBounds i true) a' w) (hi:ops[i]? =some oi:=by rfl) (hN:oi.dst=some N:=by rfl)
    (hc:takeW T BB ds l.toList (l.setIfInBounds i true).toList i=true:=by kernel_rfl) (hQ:∀ c a w,Q (.panic c) (a.put (some N) v) w→Q (.panic c) a w:=by exact fun _ _ _ h=>h)
    (hw:Region.wanted oi (yielded ops a.tmps)=true:=by rfl) (hy:∀ w,S w→(execOp a.eval oi).run P w=.ok (.value v) w:=by intro w' hs_;(try dsimp only at hs_);go_simp;with_reducible rfl)
    (ha:a.put (some N) v=a':=by simp only[Act.put,List.setIfInBounds_toArray,List.set_cons_zero,List.set_cons_succ,i64_w,i32_w];rfl):wpAnyLast P md ops Q S ds (fuel+1) l a w:=
  take_ _ hi hN (take_ofW HT.out HW.out hc) (fun c a w h=>hQ c a w (hN▸h)) (.inl ⟨hw,hy⟩) hS ha h
theorem oS (HT:Aside0 (rtab md ops=T)) (i:Nat) (N:Option Tmp)
    (h:∀ K:Act→World→Prop,Shut (∀ a' w',S w'→(S w'→wpAnyLast P md ops Q S ds fuel (l.setIfInBounds i true) a' w')→K a' w')→if Region.wanted oi (yielded ops a.tmps)=true then Oper.wp P oi a w K Q else K (a.put N undef) w)
    (hi:ops[i]? =some oi:=by rfl) (hN:oi.dst=N:=by rfl) (hc:(readyT T.2 l.toList==[i] && l.toList.set i true==(l.setIfInBounds i true).toList)=true:=by kernel_rfl) (hd:i∉ds:=by decide):wpAnyLast P md ops Q S ds (fuel+1) l a w:=
  one_ _ hi hN (one_of HT.out hc) hd h
theorem lS (HT:Aside0 (rtab md ops=T)) (i:Nat) (N:Option Tmp)
    (h:∀ K:Act→World→Prop,Shut (∀ a' w',wpAnyLast P md ops Q S ds fuel (l.setIfInBounds i true) a' w'→K a' w')→if Region.wanted oi (yielded ops a.tmps)=true then Oper.wp P oi a w K Q else K (a.put N undef) w)
    (hi:ops[i]? =some oi:=by rfl) (hN:oi.dst=N:=by rfl) (hc:(readyT T.2 l.toList==[i] && l.toList.set i true==(l.setIfInBounds i true).toList)=true:=by kernel_rfl) (hd:i∈ds:=by decide):wpAnyLast P md ops Q S ds (fuel+1) l a w:=
  last_ _ hi hN (one_of HT.out hc) hd h
theorem nS (N:Option Tmp) {v:Value} (h:wpAnyLast P md ops Q S ds fuel l a' w) (ha:a.put N v=a':=by simp only[Act.put,List.setIfInBounds_toArray,List.set_cons_zero,List.set_cons_succ,i64_w,i32_w];rfl):wpAnyLast P md ops Q S ds fuel l (a.put N v) w:=norm_ ha h
theorem dS (HT:Aside0 (rtab md ops=T)) {n:Nat} (h:Q .normal a w) (hc:(readyT T.2 l.toList==[])=true:=by kernel_rfl):wpAnyLast P md ops Q S ds n l a w:=done_ (done_of HT.out hc) h
end
end Go.Proofs.YtoeenmajdidfoaaDoor.Q
