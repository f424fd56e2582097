-- Written by a program of this session; it walks the functions that the law reaches.
import Derived.Test.YtanhbfhmgmjdgaaQx0
import Derived.Test.YtanhbfhmgmjdgaaQx5
namespace Go.Proofs.Ytanhbfhmgmjdgaa.Q
open Go.RowKit Go.Proofs.YtanhbfhmgmjdgaaW.PrintWords Go.Proofs.YtanhbfhmgmjdgaaW.PrintLast Go.Proofs.YtanhbfhmgmjdgaaW.PrintMore
attribute [local go_sem] max2_int min2_int max_two min_two max_three min_three max_four min_four   -- for this text's walks alone
set_option linter.unusedVariables false
set_option linter.unusedSimpArgs false


/-! ### impl_Func_local: function 88 (walked by hand) -/
/-- A func that lies in the memory that came in. -/
def FEnv (w0:World) (p:Addr) (f:S88):Prop:=∃ A0 c0 A2 c2 A3 c3,w0.cell? p=some (.slice A0 f.f0.length c0)∧w0.cell? ⟨p.block,p.off+1,none⟩=some (.int .i64 f.f1)∧w0.cell? ⟨p.block,p.off+2,none⟩=some (.slice A2 f.f2.length c2)∧w0.cell? ⟨p.block,p.off+3,none⟩=some (.slice A3 f.f3.length c3)∧Kd.C (Kd.int .i64) w0 A0 f.f0.length f.f0∧Kd.C (Kd.int .i64) w0 A2 f.f2.length f.f2∧Kd.C k103 w0 A3 f.f3.length f.f3
/-- A module that lies in the memory that came in. -/
def MEnv (w0:World) (v:Value) (fs:List S88) (gs:List S75) (mem:Bool):Prop:=∃ bm AF cF AG cG,v=.pointer (some ⟨bm,0,none⟩)∧w0.cell? ⟨bm,0,none⟩=some (.slice AF fs.length cF)∧w0.cell? ⟨bm,1,none⟩=some (.slice AG gs.length cG)∧w0.cell? ⟨bm,2,none⟩=some (.bool mem)∧Kd.C k88 w0 AF fs.length fs∧Kd.C k75 w0 AG gs.length gs
def localF (f:S88) (a:Int):Option (Int × Bool):=if f.f0.length+f.f2.length≤1000000∧0≤a then (if a<(f.f0.length:Int) then some (rd f.f0 a,true) else if a<(f.f0.length:Int)+(f.f2.length:Int) then some (rd f.f2 (a - (f.f0.length:Int)),true) else some (0,false)) else none
set_option maxHeartbeats 8000000 in
set_option maxRecDepth 100000 in
theorem local_any (f:S88) (a t:Int) (ok:Bool) (p:Addr) (w0 w:World) (hf:FEnv w0 p f) (hb:Below w0.heap.size w0 w) (hr:localF f a=some (t,ok)):
  Calls Try.prog 88 #[.pointer (some p),.int .i64 a] w fun e w'=>e=.returned (.tuple #[.int .i64 t,.bool ok])∧∃ nd,w'=w.drewN nd:=by
 obtain⟨A0,c0,A2,c2,A3,c3,h0,h1,h2,h3,r0,r2,r3⟩:=hf
 have g0:=cl_ hb h0
 have g2:=cl_ hb h2
 unfold localF at hr
 by_cases cg:f.f0.length+f.f2.length≤1000000∧0≤a
 ·
  rw[if_pos cg] at hr
  obtain⟨cl,ca⟩:=cg
  by_cases k1:a<(f.f0.length:Int)
  ·
   rw[if_pos k1] at hr
   simp only[Option.some.injEq,Prod.mk.injEq] at hr
   obtain⟨rfl,rfl⟩:=hr
   obtain⟨ad,rfl,hx⟩:=Kd.at_int r0 a ca k1
   have gx:=cl_ hb hx
   have b1:=decide_eq_true k1
   have q0:=eq_true ca
   have q1:=eq_true k1
   clear hb h0 h1 h2 h3 r0 r2 r3 cl ca k1 hx g2
   go_enter Try.func88,Try.ntmps88
   go_wp2
   go_ret2
   exact⟨rfl,0,rfl⟩
  rw[if_neg k1] at hr
  have b1:=decide_eq_false k1
  have e1:IntKind.i64.wrap ((f.f0.length:Int)+(f.f2.length:Int))=(f.f0.length:Int)+(f.f2.length:Int):=ck_w _ (by omega)
  by_cases k2:a<(f.f0.length:Int)+(f.f2.length:Int)
  ·
   rw[if_pos k2] at hr
   simp only[Option.some.injEq,Prod.mk.injEq] at hr
   obtain⟨rfl,rfl⟩:=hr
   have e2:IntKind.i64.wrap (a - (f.f0.length:Int))=a - (f.f0.length:Int):=ck_w _ (by omega)
   have p0:0≤a - (f.f0.length:Int):=by omega
   have p1:a - (f.f0.length:Int)<(f.f2.length:Int):=by omega
   obtain⟨ad,rfl,hx⟩:=Kd.at_int r2 (a - (f.f0.length:Int)) p0 p1
   have gx:=cl_ hb hx
   have b2:=decide_eq_true k2
   generalize hi:a - (f.f0.length:Int)=i at*
   have q0:=eq_true p0
   have q1:=eq_true p1
   have HI:=A_ hi
   clear hb h0 h1 h2 h3 r0 r2 r3 cl ca k1 k2 hx hi
   go_enter Try.func88,Try.ntmps88
   go_wp2
   go_quiet (fail)
   go_wp2
   have HI':=HI.out
   go_quiet (fail)
   go_wp2
   go_ret2
   exact⟨rfl,drewN_two _ _ _⟩
  rw[if_neg k2] at hr
  simp only[Option.some.injEq,Prod.mk.injEq] at hr
  obtain⟨rfl,rfl⟩:=hr
  have b2:=decide_eq_false k2
  clear hb h0 h1 h2 h3 r0 r2 r3 cl ca k1 k2
  go_enter Try.func88,Try.ntmps88
  go_wp2
  go_quiet (fail)
  go_wp2
  go_ret2
  exact⟨rfl,_,rfl⟩
 rw[if_neg cg] at hr;cases hr
end Go.Proofs.Ytanhbfhmgmjdgaa.Q

