-- Written by a program of this session; it walks the functions that the law reaches.
import Derived.Test.YtanhbfhmgmjdgaaQx0
namespace Go.Proofs.Ytanhbfhmgmjdgaa.Q
open Go.RowKit Go.Proofs.YtanhbfhmgmjdgaaW.PrintWords Go.Proofs.YtanhbfhmgmjdgaaW.PrintLast Go.Proofs.YtanhbfhmgmjdgaaW.PrintMore
attribute [local go_sem] max2_int min2_int max_two min_two max_three min_three max_four min_four   -- for this text's walks alone
set_option linter.unusedVariables false
set_option linter.unusedSimpArgs false
set_option maxRecDepth 100000
set_option maxHeartbeats 8000000


/-! ### spec_l7S_begin: function 56 (walked by hand) -/

/-! Steps of a walk through a drawn region, each said once. -/
/-! Rows of one's own: cut, and beside other blocks. -/
theorem Reps.cut_ {α:Type} {R:α→List Value→Prop} {sz:Nat} {ps:List α} {cs:List Value} (h:Reps R sz ps cs) (k:Nat):Reps R sz (ps.take k) (cs.take (k*sz)):=by
 refine⟨?_,fun j p hj=>?_⟩
 ·
  rw[List.length_take,List.length_take,h.1]
  rcases Nat.le_total k ps.length with hk|hk
  ·
   rw[Nat.min_eq_left hk,Nat.min_eq_left (Nat.mul_le_mul_right _ hk)]
  rw[Nat.min_eq_right hk,Nat.min_eq_right (Nat.mul_le_mul_right _ hk)]
 rw[List.getElem?_take] at hj
 split at hj
 ·
  next hlt=>
  have h1:=h.2 j p hj
  have e:((cs.take (k*sz)).drop (j*sz)).take sz=(cs.drop (j*sz)).take sz:=by
   rw[List.drop_take,List.take_take]
   congr 1
   have:(j+1)*sz≤k*sz:=Nat.mul_le_mul_right _ hlt
   rw[Nat.succ_mul] at this
   omega
  rw[e];exact h1
 cases hj
theorem R_cut {α:Type} {d:Kd α} {e:Nat} {w:World} {base:Nat} {ok:Nat→Prop} {A:Option Addr} {n cap:Nat} {xs:List α} (h:d.R e w base ok (.slice A n cap) xs) (k:Nat) (hk:k≤n):d.R e w base ok (.slice A k cap) (xs.take k):=by
 obtain⟨hn,_,_⟩:=Kd.R_reads' h
 obtain⟨h0,inner,⟨hl,ho⟩,hr⟩:=h
 have hkl:(xs.take k).length=k:=by rw[List.length_take];omega
 have hown:∀ m,Value.ownBlock (.slice A m cap)=Value.ownBlock (.slice A n cap):=fun m=>by cases A<;>rfl
 have hsz:(inner.take (k*d.sz)).length=k*d.sz:=by
  rw[List.length_take,hl,←hn]
  exact Nat.min_eq_left (Nat.mul_le_mul_right _ hk)
 refine⟨fun q hq=>h0 q (by rw[←hown k];exact hq),inner.take (k*d.sz),⟨by rw[hkl];exact hsz,?_⟩,?_⟩
 ·
  rw[hkl]
  rcases ho with ⟨hv,h2⟩|⟨g,c,cur,hv,hb,hg,hnc,hc,hcs,ht⟩
  ·
   injection hv with hA hn0 hcap
   subst hA hcap
   obtain rfl:k=0:=by omega
   exact .inl ⟨rfl,rfl⟩
  injection hv with hA hn0 hcap
  subst hA hcap
  refine .inr ⟨g,cap,cur,rfl,hb,hg,by omega,hc,hcs,?_⟩
  rw[←ht,List.take_take,Nat.min_eq_left (Nat.mul_le_mul_right _ (by omega))]
 rw[hown k];exact Reps.cut_ hr k
theorem R_set1 {α:Type} {d:Kd α} {e:Nat} {w:World} {base:Nat} {v:Value} {xs:List α} (h:d.R e w base (fun _=>True) v xs) (hE:d.E=[]) {g t:Nat} {cells:Array Value} (hb:w.heap[g]? =some (.cells cells t (0,0))) (ht:e≠t) (i:Nat) (u:Value):d.R e (w.setCell ⟨g,i,none⟩ u) base (fun _=>True) v xs:=
 Kd.R_mono (Kd.R_far (Kd.R_far1 h hE (Kd.R_ne h hb ht)) (fun k hk=>hk.2) u) (fun _ _=>trivial)
section
variable {α:Type} {d:Kd α} {e:Nat} {w:World} {base:Nat} {ok:Nat→Prop}
theorem R_typed {v:Value} {xs:List α} (h:d.R e w base ok v xs) {g:Nat} (hv:v.ownBlock=some g):base≤g∧∃ cells,w.heap[g]? =some (.cells cells e (0,0)):=by
 obtain⟨_,inner,⟨_,ho⟩,_⟩:=h
 rcases ho with ⟨rfl,_⟩|⟨g',c,cur,rfl,hb,hg,_⟩
 ·
  cases hv
 obtain rfl:=Option.some.inj hv
 exact⟨hb,cur,hg⟩
theorem R_shape {A:Option Addr} {n cap:Nat} {xs:List α} (h:d.R e w base ok (.slice A n cap) xs):(A=none∧n=0∧cap=0)∨∃ gA,A=some ⟨gA,0,none⟩:=by
 obtain⟨_,inner,⟨_,ho⟩,_⟩:=h
 rcases ho with ⟨hv,_⟩|⟨g',c,cur,hv,hb,hg,_⟩
 ·
  injection hv with h1 h2 h3
  exact .inl ⟨h1,h2,h3⟩
 injection hv with h1 h2 h3
 exact .inr ⟨g',h1⟩
end
theorem keep_other {w w1:World} {g gn:Nat} {row:Option Nat} (h:KeepBut w w1 g row) (hg:w.heap.size≤gn) (j:Nat) (u:Value):KeepBut w (w1.setCell ⟨gn,j,none⟩ u) g row:=
 ⟨by have:=(KeepBut.set_ (KeepBut.refl w1 gn none) j u).1;exact Nat.le_trans h.1 this,fun i hi h1 h2=>(Below.heap_setCell w1 ⟨gn,j,none⟩ u i (by show i≠gn;omega)).trans (h.2 i hi h1 h2)⟩
def sets (w:World) (g:Nat):Nat→List Value→World
  |_,[]=>w
  |i,v ::vs=>sets (w.setCell ⟨g,i,none⟩ v) g (i+1) vs
theorem keep_sets {w w1:World} {g gn:Nat} {row:Option Nat} (h:KeepBut w w1 g row) (hg:w.heap.size≤gn) (vs:List Value) (i:Nat):KeepBut w (sets w1 gn i vs) g row:=by
  induction vs generalizing w1 i with
  |nil=>exact h
  |cons v vs ih=>exact ih (keep_other h hg i v) (i+1)
theorem sets_at {w:World} {g:Nat} {t:TypeId}:∀ (vs pre post:List Value),w.heap[g]? =some (.cells (pre++post).toArray t (0,0))→post.length=vs.length→(sets w g pre.length vs).heap[g]? =some (.cells (pre++vs).toArray t (0,0))
  |[],pre,[],h,_=>h
  |[],pre,_ ::_,h,hl=>by cases hl
  |_ ::_,pre,[],h,hl=>by cases hl
  |v ::vs,pre,p ::post,h,hl=>by
    have h1:(w.setCell ⟨g,pre.length,none⟩ v).heap[g]? =some (.cells ((pre++[v])++post).toArray t (0,0)):=blk_put h pre.length v (by simp)
    have h2:=sets_at vs (pre++[v]) post h1 (by simpa using hl)
    rw[List.length_append,List.length_singleton,List.append_assoc] at h2
    exact h2
theorem sets_blk {w:World} {g:Nat} {t:TypeId} {cs:List Value} (vs:List Value) (h:w.heap[g]? =some (.cells cs.toArray t (0,0))) (hl:cs.length=vs.length):(sets w g 0 vs).heap[g]? =some (.cells vs.toArray t (0,0)):=sets_at vs [] cs h hl
theorem heap_sets {g gx:Nat} (vs:List Value) (w:World) (i:Nat) (h:gx≠g):(sets w g i vs).heap[gx]? =w.heap[gx]? :=by
  induction vs generalizing w i with
  |nil=>rfl
  |cons v vs ih=>exact(ih (w.setCell ⟨g,i,none⟩ v) (i+1)).trans (Below.heap_setCell w ⟨g,i,none⟩ v gx h)
structure CS (β:Type) where
 st:List Int
 sp:List β
 hi:Int
 fa:Int
def CS.fail {β:Type} (c:CS β) (k:Int):CS β:=if c.fa=0 then {c with fa:=k} else c
theorem fail_st {β:Type} (c:CS β) (k:Int):(c.fail k).st=c.st∧(c.fail k).sp=c.sp:=by unfold CS.fail;split<;>exact⟨rfl,rfl⟩
theorem drewN_two (w:World) (a b:Nat):∃ n,(w.drewN a).drewN b=w.drewN n:=⟨a+b,by simp[World.drewN,Nat.add_assoc]⟩
theorem ck_w (n:Int) (h:-9223372036854775808≤n∧n≤9223372036854775807):IntKind.i64.wrap n=n:=IntWalk.i64_in _ h
def CS.put {β:Type} (c:CS β) (k:Int):Option (CS β):=if k=64 then some c else if c.st.length<17592186044416 then some {c with st:=c.st++[k],hi:=if c.hi<(c.st.length:Int)+1 then (c.st.length:Int)+1 else c.hi} else none
/-! #### the program's spans: struct type 82 -/
structure S101 where
 f0:Int
 f1:Int
 f2:Int
 f3:Bool
 f4:Bool
def z101:S101:=⟨(0:Int),(0:Int),(0:Int),false,false⟩
def k101:Kd S101:=Kd.iso (Kd.pair (Kd.int .i64) (Kd.pair (Kd.int .i64) (Kd.pair (Kd.int .i64) (Kd.pair Kd.bool Kd.bool)))) (fun x:S101=>(x.f0,x.f1,x.f2,x.f3,x.f4))
theorem k101_open {w:World} {x:S101} {cs:List Value} (h:k101.K w x cs):cs=[.int .i64 x.f0,.int .i64 x.f1,.int .i64 x.f2,.bool x.f3,.bool x.f4]:=by
 obtain⟨_,_,rfl,rfl,⟨_,_,rfl,rfl,⟨_,_,rfl,rfl,⟨_,_,rfl,rfl,rfl⟩⟩⟩⟩:=h
 exact rfl
theorem k101_openM {w:World} {base:Nat} {ok:Nat→Prop} {x:S101} {cs:List Value} (h:k101.M w base ok x cs):cs=[.int .i64 x.f0,.int .i64 x.f1,.int .i64 x.f2,.bool x.f3,.bool x.f4]:=by
 obtain⟨_,_,rfl,rfl,⟨_,_,rfl,rfl,⟨_,_,rfl,rfl,⟨_,_,rfl,rfl,rfl⟩⟩⟩⟩:=h
 exact rfl
theorem k101_mk (w:World) (x:S101):k101.K w x [.int .i64 x.f0,.int .i64 x.f1,.int .i64 x.f2,.bool x.f3,.bool x.f4]:=⟨[.int .i64 x.f0],[.int .i64 x.f1,.int .i64 x.f2,.bool x.f3,.bool x.f4],rfl,rfl,⟨[.int .i64 x.f1],[.int .i64 x.f2,.bool x.f3,.bool x.f4],rfl,rfl,⟨[.int .i64 x.f2],[.bool x.f3,.bool x.f4],rfl,rfl,⟨[.bool x.f3],[.bool x.f4],rfl,rfl,rfl⟩⟩⟩⟩
theorem k101_mkM (w:World) (base:Nat) (ok:Nat→Prop) (x:S101):k101.M w base ok x [.int .i64 x.f0,.int .i64 x.f1,.int .i64 x.f2,.bool x.f3,.bool x.f4]:=⟨[.int .i64 x.f0],[.int .i64 x.f1,.int .i64 x.f2,.bool x.f3,.bool x.f4],rfl,rfl,⟨[.int .i64 x.f1],[.int .i64 x.f2,.bool x.f3,.bool x.f4],rfl,rfl,⟨[.int .i64 x.f2],[.bool x.f3,.bool x.f4],rfl,rfl,⟨[.bool x.f3],[.bool x.f4],rfl,rfl,rfl⟩⟩⟩⟩
def rd_T101 (xs:List S101) (i:Int):S101:=xs.getD i.toNat z101
theorem at_T101 {w:World} {A:Option Addr} {n:Nat} {xs:List S101} (h:Kd.C k101 w A n xs) (i:Int) (h0:0≤i) (h1:i<n):∃ ad,A=some ad∧w.cell? (ad.add (i.toNat*5))=some (.int .i64 (rd_T101 xs i).f0)∧w.cell? ⟨(ad.add (i.toNat*5)).block,(ad.add (i.toNat*5)).off+1,none⟩=some (.int .i64 (rd_T101 xs i).f1)∧w.cell? ⟨(ad.add (i.toNat*5)).block,(ad.add (i.toNat*5)).off+2,none⟩=some (.int .i64 (rd_T101 xs i).f2)∧w.cell? ⟨(ad.add (i.toNat*5)).block,(ad.add (i.toNat*5)).off+3,none⟩=some (.bool (rd_T101 xs i).f3)∧w.cell? ⟨(ad.add (i.toNat*5)).block,(ad.add (i.toNat*5)).off+4,none⟩=some (.bool (rd_T101 xs i).f4):=by
 obtain⟨ad,c,e,_,hK,hc0⟩:=Kd.C_get h z101 i h0 h1
 have hc:∀ j u,c[j]? =some u→w.cell? (ad.add (i.toNat*5+j))=some u:=hc0
 obtain rfl:=k101_open hK
 exact⟨ad,e,hc 0 _ rfl,by rw[←add_field _ _ 1 (by omega)];exact hc 1 _ rfl,by rw[←add_field _ _ 2 (by omega)];exact hc 2 _ rfl,by rw[←add_field _ _ 3 (by omega)];exact hc 3 _ rfl,by rw[←add_field _ _ 4 (by omega)];exact hc 4 _ rfl⟩
theorem info101:(Try.prog.info? 101).map (fun i=>(i.zero,i.size,i.bytes))=some (some (.agg #[(.int .i64 0),(.int .i64 0),(.int .i64 0),(.bool false),(.bool false)]),5,32):=by kernel_rfl

/-! The state Ck: a block of type 80. -/
def Ck (w0 w:World) (g:Nat) (q:Nat→Value) (c:CS S101) (A:Option Addr) (n1:Nat) (B:Option Addr) (n2:Nat):Prop:=
 w0.heap.size≤g∧Below w0.heap.size w0 w∧w.heap[g]? =some (.cells #[q 0,q 1,.slice A c.st.length n1,.slice B c.sp.length n2,.int .i64 c.hi,.int .i64 c.fa] 99 (0,0))∧Kd.R (Kd.int .i64) 3 w w0.heap.size (fun _=>True) (.slice A c.st.length n1) c.st∧Kd.R k101 101 w w0.heap.size (fun _=>True) (.slice B c.sp.length n2) c.sp
def CkE (w0 w:World) (g:Nat) (q:Nat→Value) (c:CS S101):Prop:=∃ A n1 B n2,Ck w0 w g q c A n1 B n2
section
variable {w0 w w1:World} {g:Nat} {q:Nat→Value} {c:CS S101} {A:Option Addr} {n1:Nat} {B:Option Addr} {n2:Nat}
theorem Ck.below (h:Ck w0 w g q c A n1 B n2) (hb:Below w.heap.size w w1):Ck w0 w1 g q c A n1 B n2:=
 ⟨h.1,below_weaken h.2.1 h.2.1.size hb,blk_below h.2.2.1 hb,Kd.R_below h.2.2.2.1 hb,Kd.R_below h.2.2.2.2 hb⟩
theorem CkE.below (h:CkE w0 w g q c) (hb:Below w.heap.size w w1):CkE w0 w1 g q c:=by
 obtain⟨A,n1,B,n2,h⟩:=h
 exact⟨A,n1,B,n2,h.below hb⟩
theorem Ck.cell0 (h:Ck w0 w g q c A n1 B n2):w.cell? ⟨g,0,none⟩=some (q 0):=(blk_cell h.2.2.1 0).trans rfl
theorem Ck.cell1 (h:Ck w0 w g q c A n1 B n2):w.cell? ⟨g,1,none⟩=some (q 1):=(blk_cell h.2.2.1 1).trans rfl
theorem Ck.cell2 (h:Ck w0 w g q c A n1 B n2):w.cell? ⟨g,2,none⟩=some (.slice A c.st.length n1):=(blk_cell h.2.2.1 2).trans rfl
theorem Ck.cell3 (h:Ck w0 w g q c A n1 B n2):w.cell? ⟨g,3,none⟩=some (.slice B c.sp.length n2):=(blk_cell h.2.2.1 3).trans rfl
theorem Ck.cell4 (h:Ck w0 w g q c A n1 B n2):w.cell? ⟨g,4,none⟩=some (.int .i64 c.hi):=(blk_cell h.2.2.1 4).trans rfl
theorem Ck.cell5 (h:Ck w0 w g q c A n1 B n2):w.cell? ⟨g,5,none⟩=some (.int .i64 c.fa):=(blk_cell h.2.2.1 5).trans rfl
theorem Ck.frozen (h:Ck w0 w g q c A n1 B n2) (i:Nat):w.frozen? ⟨g,i,none⟩=false:=blk_frozen h.2.2.1 i
theorem Ck.setH (h:Ck w0 w g q c A n1 B n2) (x:Int):Ck w0 (w.setCell ⟨g,4,none⟩ (.int .i64 x)) g q {c with hi:=x} A n1 B n2:=
 ⟨h.1,below_set h.2.1 h.1,blk_put h.2.2.1 4 _ rfl,R_set1 h.2.2.2.1 rfl h.2.2.1 (by decide) _ _,R_set1 h.2.2.2.2 rfl h.2.2.1 (by decide) _ _⟩
theorem Ck.setF (h:Ck w0 w g q c A n1 B n2) (x:Int):Ck w0 (w.setCell ⟨g,5,none⟩ (.int .i64 x)) g q {c with fa:=x} A n1 B n2:=
 ⟨h.1,below_set h.2.1 h.1,blk_put h.2.2.1 5 _ rfl,R_set1 h.2.2.2.1 rfl h.2.2.1 (by decide) _ _,R_set1 h.2.2.2.2 rfl h.2.2.1 (by decide) _ _⟩
theorem Ck.cutS (h:Ck w0 w g q c A n1 B n2) (k:Nat) (hk:k≤c.st.length):Ck w0 (w.setCell ⟨g,2,none⟩ (.slice A k n1)) g q {c with st:=c.st.take k} A n1 B n2:=by
 have e:(c.st.take k).length=k:=by rw[List.length_take];omega
 have h1:=R_set1 (R_cut h.2.2.2.1 k hk) rfl h.2.2.1 (by decide) 2 (.slice A k n1)
 refine⟨h.1,below_set h.2.1 h.1,blk_put h.2.2.1 2 _ (by simp only[e];rfl),?_,R_set1 h.2.2.2.2 rfl h.2.2.1 (by decide) _ _⟩
 simp only[e];exact h1
theorem Ck.cutP (h:Ck w0 w g q c A n1 B n2) (k:Nat) (hk:k≤c.sp.length):Ck w0 (w.setCell ⟨g,3,none⟩ (.slice B k n2)) g q {c with sp:=c.sp.take k} A n1 B n2:=by
 have e:(c.sp.take k).length=k:=by rw[List.length_take];omega
 have h1:=R_set1 (R_cut h.2.2.2.2 k hk) rfl h.2.2.1 (by decide) 3 (.slice B k n2)
 refine⟨h.1,below_set h.2.1 h.1,blk_put h.2.2.1 3 _ (by simp only[e];rfl),R_set1 h.2.2.2.1 rfl h.2.2.1 (by decide) _ _,?_⟩
 simp only[e];exact h1
theorem Ck.fresh_ne (h:Ck w0 w g q c A n1 B n2) {gn:Nat} (hg:gn=w.heap.size):gn≠g∧(∀ a,A=some a→a.block≠gn)∧(∀ a,B=some a→a.block≠gn):=by
 subst hg
 refine⟨?_,?_,?_⟩
 ·
  have:=blk_lt h.2.2.1;omega
 ·
  rintro a rfl
  obtain⟨_,cells,hc⟩:=R_typed h.2.2.2.1 (g:=a.block) rfl
  have:=blk_lt hc;omega
 rintro a rfl
 obtain⟨_,cells,hc⟩:=R_typed h.2.2.2.2 (g:=a.block) rfl
 have:=blk_lt hc;omega
theorem Ck.other {gn:Nat} (h:Ck w0 w g q c A n1 B n2) (hge:w0.heap.size≤gn) (hn:gn≠g∧(∀ a,A=some a→a.block≠gn)∧(∀ a,B=some a→a.block≠gn)) (i:Nat) (u:Value):Ck w0 (w.setCell ⟨gn,i,none⟩ u) g q c A n1 B n2:=by
 have hA:some gn≠Value.ownBlock (.slice A c.st.length n1):=by
  intro e
  cases A with
  |none=>cases e
  |some a=>exact hn.2.1 a rfl (Option.some.inj e).symm
 have hB:some gn≠Value.ownBlock (.slice B c.sp.length n2):=by
  intro e
  cases B with
  |none=>cases e
  |some a=>exact hn.2.2 a rfl (Option.some.inj e).symm
 exact⟨h.1,below_set h.2.1 hge,(Below.heap_setCell w ⟨gn,i,none⟩ u g (fun e=>hn.1 e.symm)).trans h.2.2.1,
  Kd.R_mono (Kd.R_far (Kd.R_far1 h.2.2.2.1 rfl hA) (fun k hk=>hk.2) u) (fun _ _=>trivial),Kd.R_mono (Kd.R_far (Kd.R_far1 h.2.2.2.2 rfl hB) (fun k hk=>hk.2) u) (fun _ _=>trivial)⟩
theorem Ck.sets {gn:Nat} (h:Ck w0 w g q c A n1 B n2) (hge:w0.heap.size≤gn) (hn:gn≠g∧(∀ a,A=some a→a.block≠gn)∧(∀ a,B=some a→a.block≠gn)) (vs:List Value) (i:Nat):Ck w0 (sets w gn i vs) g q c A n1 B n2:=by
  induction vs generalizing w i with
  |nil=>exact h
  |cons v vs ih=>exact ih (h.other hge hn i v) (i+1)
/-- Behind an append to the stack: the block stands, and the spans. -/
theorem Ck.appS (h:Ck w0 w g q c A n1 B n2) {v1:Value} {x:Int} (hv:Kd.R (Kd.int .i64) 3 w1 w0.heap.size (fun _=>True) v1 (c.st++[x])) (hb:Below w0.heap.size w0 w1) (hg:w.grownBy w1 (Value.ownBlock (.slice A c.st.length n1))):
  w1.heap[g]? =some (.cells #[q 0,q 1,.slice A c.st.length n1,.slice B c.sp.length n2,.int .i64 c.hi,.int .i64 c.fa] 99 (0,0))∧∃ A' n',v1=.slice A' (c.st.length+1) n'∧Ck w0 (w1.setCell ⟨g,2,none⟩ v1) g q {c with st:=c.st++[x]} A' n' B n2:=by
 have hne:=Kd.R_ne h.2.2.2.1 h.2.2.1 (by decide)
 have hblk:=blk_grown h.2.2.1 hg hne
 have hsp:Kd.R k101 101 w1 w0.heap.size (fun _=>True) (.slice B c.sp.length n2) c.sp:=Kd.R_grown2 h.2.2.2.2 rfl hg (fun k hk=>by
  obtain⟨_,cells,hc⟩:=R_typed h.2.2.2.1 hk
  exact Kd.R_ne h.2.2.2.2 hc (by decide))
 obtain⟨A',n',e⟩:=Kd.R_slice hv
 subst e
 rw[List.length_append,List.length_singleton] at hv
 refine⟨hblk,A',n',by rw[List.length_append,List.length_singleton],?_⟩
 have e:(c.st++[x]).length=c.st.length+1:=by rw[List.length_append,List.length_singleton]
 have h1:=R_set1 hv rfl hblk (by decide) 2 (.slice A' (c.st++[x]).length n')
 refine⟨h.1,below_set hb h.1,blk_put hblk 2 _ rfl,?_,R_set1 hsp rfl hblk (by decide) _ _⟩
 simp only[e] at h1 ⊢;exact h1
theorem Ck.appP (h:Ck w0 w g q c A n1 B n2) {v1:Value} {x:S101} (hv:Kd.R k101 101 w1 w0.heap.size (fun _=>True) v1 (c.sp++[x])) (hb:Below w0.heap.size w0 w1) (hg:w.grownBy w1 (Value.ownBlock (.slice B c.sp.length n2))):
  w1.heap[g]? =some (.cells #[q 0,q 1,.slice A c.st.length n1,.slice B c.sp.length n2,.int .i64 c.hi,.int .i64 c.fa] 99 (0,0))∧∃ B' n',v1=.slice B' (c.sp.length+1) n'∧Ck w0 (w1.setCell ⟨g,3,none⟩ v1) g q {c with sp:=c.sp++[x]} A n1 B' n':=by
 have hne:=Kd.R_ne h.2.2.2.2 h.2.2.1 (by decide)
 have hblk:=blk_grown h.2.2.1 hg hne
 have hst:Kd.R (Kd.int .i64) 3 w1 w0.heap.size (fun _=>True) (.slice A c.st.length n1) c.st:=Kd.R_grown2 h.2.2.2.1 rfl hg (fun k hk=>by
  obtain⟨_,cells,hc⟩:=R_typed h.2.2.2.2 hk
  exact Kd.R_ne h.2.2.2.1 hc (by decide))
 obtain⟨B',n',e⟩:=Kd.R_slice hv
 subst e
 rw[List.length_append,List.length_singleton] at hv
 refine⟨hblk,B',n',by rw[List.length_append,List.length_singleton],?_⟩
 have e:(c.sp++[x]).length=c.sp.length+1:=by rw[List.length_append,List.length_singleton]
 have h1:=R_set1 hv rfl hblk (by decide) 3 (.slice B' (c.sp++[x]).length n')
 refine⟨h.1,below_set hb h.1,blk_put hblk 3 _ rfl,R_set1 hst rfl hblk (by decide) _ _,?_⟩
 simp only[e] at h1 ⊢;exact h1
theorem Ck.stk (h:Ck w0 w g q c A n1 B n2) (j:Nat) (x:Int) (hx:c.st[j]? =some x):∃ gA,A=some ⟨gA,0,none⟩∧w.cell? ⟨gA,j,none⟩=some (.int .i64 x):=by
 have hj:j<c.st.length:=(List.getElem?_eq_some_iff.1 hx).1
 obtain⟨gA,cap,e,gb,gl,cells,hc⟩:=Kd.R_form h.2.2.2.1 (by omega)
 injection e with eA e2 e3
 subst eA
 have h1:=(Kd.R_celln 0 h.2.2.2.1 (j:Int) (by omega) (by omega)).1
 rw[Int.toNat_natCast] at h1
 refine⟨gA,rfl,h1.trans ?_⟩
 unfold rdOf
 rw[Int.toNat_natCast,List.getD_eq_getElem?_getD,hx]
 rfl
theorem Ck.lenS (h:Ck w0 w g q c A n1 B n2):c.st.length≤9223372036854775807∧c.st.length≤n1:=⟨Kd.C_max (Kd.R_reads' h.2.2.2.1).2.2,(Kd.R_reads' h.2.2.2.1).2.1⟩
theorem Ck.lenP (h:Ck w0 w g q c A n1 B n2):c.sp.length≤9223372036854775807∧c.sp.length≤n2:=⟨Kd.C_max (Kd.R_reads' h.2.2.2.2).2.2,(Kd.R_reads' h.2.2.2.2).2.1⟩
theorem Ck.drewN (h:Ck w0 w g q c A n1 B n2) (n:Nat):Ck w0 (w.drewN n) g q c A n1 B n2:=h.below (pw_below_drewN (Below.refl _ _) n)
theorem Ck.drew (h:Ck w0 w g q c A n1 B n2):Ck w0 w.drew g q c A n1 B n2:=h.below (below_drew (Below.refl _ _))
/-- The j-th span. -/
theorem Ck.span (h:Ck w0 w g q c A n1 B n2) (j:Nat) (x:S101) (hx:c.sp[j]? =some x):∃ gB,B=some ⟨gB,0,none⟩∧w0.heap.size≤gB∧w.cell? ⟨gB,j*5,none⟩=some (.int .i64 x.f0)∧w.cell? ⟨gB,j*5+1,none⟩=some (.int .i64 x.f1)∧w.cell? ⟨gB,j*5+2,none⟩=some (.int .i64 x.f2)∧w.cell? ⟨gB,j*5+3,none⟩=some (.bool x.f3)∧w.cell? ⟨gB,j*5+4,none⟩=some (.bool x.f4)∧∀ i,w.frozen? ⟨gB,i,none⟩=false:=by
 have hj:j<c.sp.length:=(List.getElem?_eq_some_iff.1 hx).1
 obtain⟨gB,cap,e,gb,gl,cells,hc⟩:=Kd.R_form h.2.2.2.2 (by omega)
 injection e with eA e2 e3
 subst eA
 have hR:=h.2.2.2.2
 obtain⟨cs,hl,hM,hcc,_⟩:=Kd.R_elem hR z101 (j:Int) (by omega) (by omega)
 rw[Int.toNat_natCast,List.getD_eq_getElem?_getD,hx] at hM
 rw[Int.toNat_natCast] at hcc
 obtain rfl:=k101_openM hM
 have h5:∀ i u,[Value.int .i64 x.f0,.int .i64 x.f1,.int .i64 x.f2,.bool x.f3,.bool x.f4][i]? =some u→w.cell? ⟨gB,j*5+i,none⟩=some u:=hcc
 exact⟨gB,rfl,gb,h5 0 _ rfl,h5 1 _ rfl,h5 2 _ rfl,h5 3 _ rfl,h5 4 _ rfl,fun i=>blk_frozen hc i⟩
/-- A field of the j-th span is written. -/
theorem Ck.flag (gB:Nat) (h:Ck w0 w g q c A n1 (some ⟨gB,0,none⟩) n2) (j:Nat) (x:S101) (hx:c.sp[j]? =some x) (b:Bool):Ck w0 (w.setCell ⟨gB,j*5+3,none⟩ (.bool b)) g q {c with sp:=c.sp.set j {x with f3:=b}} A n1 (some ⟨gB,0,none⟩) n2∧Ck w0 (w.setCell ⟨gB,j*5+4,none⟩ (.bool b)) g q {c with sp:=c.sp.set j {x with f4:=b}} A n1 (some ⟨gB,0,none⟩) n2:=by
 have hj:j<c.sp.length:=(List.getElem?_eq_some_iff.1 hx).1
 have hR:=h.2.2.2.2
 obtain⟨gb,cells,hc⟩:=R_typed hR (g:=gB) rfl
 obtain⟨cs,hl,hM,hcc,_⟩:=Kd.R_elem hR z101 (j:Int) (by omega) (by omega)
 rw[Int.toNat_natCast,List.getD_eq_getElem?_getD,hx] at hM
 obtain rfl:=k101_openM hM
 have hgne:g≠gB:=by
  rintro rfl
  have h3:=h.2.2.1.symm.trans hc
  injection h3 with h3
  injection h3 with _ h3 _
  exact absurd h3 (by decide)
 have fin:∀ (i:Nat) (y:S101) (u:Value),Kd.R k101 101 (w.setCell ⟨gB,i,none⟩ u) w0.heap.size (fun _=>True) (.slice (some ⟨gB,0,none⟩) c.sp.length n2) (c.sp.set j y)→Ck w0 (w.setCell ⟨gB,i,none⟩ u) g q {c with sp:=c.sp.set j y} A n1 (some ⟨gB,0,none⟩) n2:=by
  intro i y u hR1
  have e:(c.sp.set j y).length=c.sp.length:=List.length_set
  refine⟨h.1,below_set h.2.1 gb,?_,R_set1 h.2.2.2.1 rfl hc (by decide) _ _,?_⟩
  ·
   simp only[e]
   exact(Below.heap_setCell w ⟨gB,i,none⟩ u g hgne).trans h.2.2.1
  simp only[e];exact hR1
 have s3:=(Kd.R_seg (okp:=fun k=>True∧k≠gB) hR (j:Int) (by omega) (by omega) (j:=3) (seg:=[.bool b]) (x':={x with f3:=b}) hl hcc (by show 3+1≤5;omega) (k101_mkM _ _ _ {x with f3:=b}) (fun k hk=>hk)).1
 have s4:=(Kd.R_seg (okp:=fun k=>True∧k≠gB) hR (j:Int) (by omega) (by omega) (j:=4) (seg:=[.bool b]) (x':={x with f4:=b}) hl hcc (by show 4+1≤5;omega) (k101_mkM _ _ _ {x with f4:=b}) (fun k hk=>hk)).1
 rw[Int.toNat_natCast] at s3 s4
 exact⟨fin _ _ _ s3,fin _ _ _ s4⟩
end

/-! #### struct type 91 -/
structure S131 where
 f0:Int
 f1:Int
 f2:Int
 f3:Bool
 f4:Bool
def z131:S131:=⟨(0:Int),(0:Int),(0:Int),false,false⟩
def k131:Kd S131:=Kd.iso (Kd.pair (Kd.int .i64) (Kd.pair (Kd.int .i64) (Kd.pair (Kd.int .i64) (Kd.pair Kd.bool Kd.bool)))) (fun x:S131=>(x.f0,x.f1,x.f2,x.f3,x.f4))
theorem k131_open {w:World} {x:S131} {cs:List Value} (h:k131.K w x cs):cs=[.int .i64 x.f0,.int .i64 x.f1,.int .i64 x.f2,.bool x.f3,.bool x.f4]:=by
 obtain⟨_,_,rfl,rfl,⟨_,_,rfl,rfl,⟨_,_,rfl,rfl,⟨_,_,rfl,rfl,rfl⟩⟩⟩⟩:=h
 exact rfl
theorem k131_openM {w:World} {base:Nat} {ok:Nat→Prop} {x:S131} {cs:List Value} (h:k131.M w base ok x cs):cs=[.int .i64 x.f0,.int .i64 x.f1,.int .i64 x.f2,.bool x.f3,.bool x.f4]:=by
 obtain⟨_,_,rfl,rfl,⟨_,_,rfl,rfl,⟨_,_,rfl,rfl,⟨_,_,rfl,rfl,rfl⟩⟩⟩⟩:=h
 exact rfl
theorem k131_mk (w:World) (x:S131):k131.K w x [.int .i64 x.f0,.int .i64 x.f1,.int .i64 x.f2,.bool x.f3,.bool x.f4]:=⟨[.int .i64 x.f0],[.int .i64 x.f1,.int .i64 x.f2,.bool x.f3,.bool x.f4],rfl,rfl,⟨[.int .i64 x.f1],[.int .i64 x.f2,.bool x.f3,.bool x.f4],rfl,rfl,⟨[.int .i64 x.f2],[.bool x.f3,.bool x.f4],rfl,rfl,⟨[.bool x.f3],[.bool x.f4],rfl,rfl,rfl⟩⟩⟩⟩
theorem k131_mkM (w:World) (base:Nat) (ok:Nat→Prop) (x:S131):k131.M w base ok x [.int .i64 x.f0,.int .i64 x.f1,.int .i64 x.f2,.bool x.f3,.bool x.f4]:=⟨[.int .i64 x.f0],[.int .i64 x.f1,.int .i64 x.f2,.bool x.f3,.bool x.f4],rfl,rfl,⟨[.int .i64 x.f1],[.int .i64 x.f2,.bool x.f3,.bool x.f4],rfl,rfl,⟨[.int .i64 x.f2],[.bool x.f3,.bool x.f4],rfl,rfl,⟨[.bool x.f3],[.bool x.f4],rfl,rfl,rfl⟩⟩⟩⟩
def rd_T131 (xs:List S131) (i:Int):S131:=xs.getD i.toNat z131
theorem at_T131 {w:World} {A:Option Addr} {n:Nat} {xs:List S131} (h:Kd.C k131 w A n xs) (i:Int) (h0:0≤i) (h1:i<n):∃ ad,A=some ad∧w.cell? (ad.add (i.toNat*5))=some (.int .i64 (rd_T131 xs i).f0)∧w.cell? ⟨(ad.add (i.toNat*5)).block,(ad.add (i.toNat*5)).off+1,none⟩=some (.int .i64 (rd_T131 xs i).f1)∧w.cell? ⟨(ad.add (i.toNat*5)).block,(ad.add (i.toNat*5)).off+2,none⟩=some (.int .i64 (rd_T131 xs i).f2)∧w.cell? ⟨(ad.add (i.toNat*5)).block,(ad.add (i.toNat*5)).off+3,none⟩=some (.bool (rd_T131 xs i).f3)∧w.cell? ⟨(ad.add (i.toNat*5)).block,(ad.add (i.toNat*5)).off+4,none⟩=some (.bool (rd_T131 xs i).f4):=by
 obtain⟨ad,c,e,_,hK,hc0⟩:=Kd.C_get h z131 i h0 h1
 have hc:∀ j u,c[j]? =some u→w.cell? (ad.add (i.toNat*5+j))=some u:=hc0
 obtain rfl:=k131_open hK
 exact⟨ad,e,hc 0 _ rfl,by rw[←add_field _ _ 1 (by omega)];exact hc 1 _ rfl,by rw[←add_field _ _ 2 (by omega)];exact hc 2 _ rfl,by rw[←add_field _ _ 3 (by omega)];exact hc 3 _ rfl,by rw[←add_field _ _ 4 (by omega)];exact hc 4 _ rfl⟩
theorem info131:(Try.prog.info? 131).map (fun i=>(i.zero,i.size,i.bytes))=some (some (.agg #[(.int .i64 0),(.int .i64 0),(.int .i64 0),(.bool false),(.bool false)]),5,32):=by kernel_rfl

/-! The state Cs: a block of type 68. -/
def Cs (w0 w:World) (g:Nat) (q:Nat→Value) (c:CS S131) (A:Option Addr) (n1:Nat) (B:Option Addr) (n2:Nat):Prop:=
 w0.heap.size≤g∧Below w0.heap.size w0 w∧w.heap[g]? =some (.cells #[q 0,q 1,q 2,q 3,q 4,q 5,q 6,q 7,q 8,q 9,.slice A c.st.length n1,.slice B c.sp.length n2,.int .i64 c.fa,.int .i64 c.hi,q 14] 114 (0,0))∧Kd.R (Kd.int .i64) 3 w w0.heap.size (fun _=>True) (.slice A c.st.length n1) c.st∧Kd.R k131 131 w w0.heap.size (fun _=>True) (.slice B c.sp.length n2) c.sp
def CsE (w0 w:World) (g:Nat) (q:Nat→Value) (c:CS S131):Prop:=∃ A n1 B n2,Cs w0 w g q c A n1 B n2
section
variable {w0 w w1:World} {g:Nat} {q:Nat→Value} {c:CS S131} {A:Option Addr} {n1:Nat} {B:Option Addr} {n2:Nat}
theorem Cs.below (h:Cs w0 w g q c A n1 B n2) (hb:Below w.heap.size w w1):Cs w0 w1 g q c A n1 B n2:=
 ⟨h.1,below_weaken h.2.1 h.2.1.size hb,blk_below h.2.2.1 hb,Kd.R_below h.2.2.2.1 hb,Kd.R_below h.2.2.2.2 hb⟩
theorem CsE.below (h:CsE w0 w g q c) (hb:Below w.heap.size w w1):CsE w0 w1 g q c:=by
 obtain⟨A,n1,B,n2,h⟩:=h
 exact⟨A,n1,B,n2,h.below hb⟩
theorem Cs.cell0 (h:Cs w0 w g q c A n1 B n2):w.cell? ⟨g,0,none⟩=some (q 0):=(blk_cell h.2.2.1 0).trans rfl
theorem Cs.cell1 (h:Cs w0 w g q c A n1 B n2):w.cell? ⟨g,1,none⟩=some (q 1):=(blk_cell h.2.2.1 1).trans rfl
theorem Cs.cell2 (h:Cs w0 w g q c A n1 B n2):w.cell? ⟨g,2,none⟩=some (q 2):=(blk_cell h.2.2.1 2).trans rfl
theorem Cs.cell3 (h:Cs w0 w g q c A n1 B n2):w.cell? ⟨g,3,none⟩=some (q 3):=(blk_cell h.2.2.1 3).trans rfl
theorem Cs.cell4 (h:Cs w0 w g q c A n1 B n2):w.cell? ⟨g,4,none⟩=some (q 4):=(blk_cell h.2.2.1 4).trans rfl
theorem Cs.cell5 (h:Cs w0 w g q c A n1 B n2):w.cell? ⟨g,5,none⟩=some (q 5):=(blk_cell h.2.2.1 5).trans rfl
theorem Cs.cell6 (h:Cs w0 w g q c A n1 B n2):w.cell? ⟨g,6,none⟩=some (q 6):=(blk_cell h.2.2.1 6).trans rfl
theorem Cs.cell7 (h:Cs w0 w g q c A n1 B n2):w.cell? ⟨g,7,none⟩=some (q 7):=(blk_cell h.2.2.1 7).trans rfl
theorem Cs.cell8 (h:Cs w0 w g q c A n1 B n2):w.cell? ⟨g,8,none⟩=some (q 8):=(blk_cell h.2.2.1 8).trans rfl
theorem Cs.cell9 (h:Cs w0 w g q c A n1 B n2):w.cell? ⟨g,9,none⟩=some (q 9):=(blk_cell h.2.2.1 9).trans rfl
theorem Cs.cell10 (h:Cs w0 w g q c A n1 B n2):w.cell? ⟨g,10,none⟩=some (.slice A c.st.length n1):=(blk_cell h.2.2.1 10).trans rfl
theorem Cs.cell11 (h:Cs w0 w g q c A n1 B n2):w.cell? ⟨g,11,none⟩=some (.slice B c.sp.length n2):=(blk_cell h.2.2.1 11).trans rfl
theorem Cs.cell12 (h:Cs w0 w g q c A n1 B n2):w.cell? ⟨g,12,none⟩=some (.int .i64 c.fa):=(blk_cell h.2.2.1 12).trans rfl
theorem Cs.cell13 (h:Cs w0 w g q c A n1 B n2):w.cell? ⟨g,13,none⟩=some (.int .i64 c.hi):=(blk_cell h.2.2.1 13).trans rfl
theorem Cs.cell14 (h:Cs w0 w g q c A n1 B n2):w.cell? ⟨g,14,none⟩=some (q 14):=(blk_cell h.2.2.1 14).trans rfl
theorem Cs.frozen (h:Cs w0 w g q c A n1 B n2) (i:Nat):w.frozen? ⟨g,i,none⟩=false:=blk_frozen h.2.2.1 i
theorem Cs.setH (h:Cs w0 w g q c A n1 B n2) (x:Int):Cs w0 (w.setCell ⟨g,13,none⟩ (.int .i64 x)) g q {c with hi:=x} A n1 B n2:=
 ⟨h.1,below_set h.2.1 h.1,blk_put h.2.2.1 13 _ rfl,R_set1 h.2.2.2.1 rfl h.2.2.1 (by decide) _ _,R_set1 h.2.2.2.2 rfl h.2.2.1 (by decide) _ _⟩
theorem Cs.setF (h:Cs w0 w g q c A n1 B n2) (x:Int):Cs w0 (w.setCell ⟨g,12,none⟩ (.int .i64 x)) g q {c with fa:=x} A n1 B n2:=
 ⟨h.1,below_set h.2.1 h.1,blk_put h.2.2.1 12 _ rfl,R_set1 h.2.2.2.1 rfl h.2.2.1 (by decide) _ _,R_set1 h.2.2.2.2 rfl h.2.2.1 (by decide) _ _⟩
theorem Cs.cutS (h:Cs w0 w g q c A n1 B n2) (k:Nat) (hk:k≤c.st.length):Cs w0 (w.setCell ⟨g,10,none⟩ (.slice A k n1)) g q {c with st:=c.st.take k} A n1 B n2:=by
 have e:(c.st.take k).length=k:=by rw[List.length_take];omega
 have h1:=R_set1 (R_cut h.2.2.2.1 k hk) rfl h.2.2.1 (by decide) 10 (.slice A k n1)
 refine⟨h.1,below_set h.2.1 h.1,blk_put h.2.2.1 10 _ (by simp only[e];rfl),?_,R_set1 h.2.2.2.2 rfl h.2.2.1 (by decide) _ _⟩
 simp only[e];exact h1
theorem Cs.cutP (h:Cs w0 w g q c A n1 B n2) (k:Nat) (hk:k≤c.sp.length):Cs w0 (w.setCell ⟨g,11,none⟩ (.slice B k n2)) g q {c with sp:=c.sp.take k} A n1 B n2:=by
 have e:(c.sp.take k).length=k:=by rw[List.length_take];omega
 have h1:=R_set1 (R_cut h.2.2.2.2 k hk) rfl h.2.2.1 (by decide) 11 (.slice B k n2)
 refine⟨h.1,below_set h.2.1 h.1,blk_put h.2.2.1 11 _ (by simp only[e];rfl),R_set1 h.2.2.2.1 rfl h.2.2.1 (by decide) _ _,?_⟩
 simp only[e];exact h1
theorem Cs.fresh_ne (h:Cs w0 w g q c A n1 B n2) {gn:Nat} (hg:gn=w.heap.size):gn≠g∧(∀ a,A=some a→a.block≠gn)∧(∀ a,B=some a→a.block≠gn):=by
 subst hg
 refine⟨?_,?_,?_⟩
 ·
  have:=blk_lt h.2.2.1;omega
 ·
  rintro a rfl
  obtain⟨_,cells,hc⟩:=R_typed h.2.2.2.1 (g:=a.block) rfl
  have:=blk_lt hc;omega
 rintro a rfl
 obtain⟨_,cells,hc⟩:=R_typed h.2.2.2.2 (g:=a.block) rfl
 have:=blk_lt hc;omega
theorem Cs.other {gn:Nat} (h:Cs w0 w g q c A n1 B n2) (hge:w0.heap.size≤gn) (hn:gn≠g∧(∀ a,A=some a→a.block≠gn)∧(∀ a,B=some a→a.block≠gn)) (i:Nat) (u:Value):Cs w0 (w.setCell ⟨gn,i,none⟩ u) g q c A n1 B n2:=by
 have hA:some gn≠Value.ownBlock (.slice A c.st.length n1):=by
  intro e
  cases A with
  |none=>cases e
  |some a=>exact hn.2.1 a rfl (Option.some.inj e).symm
 have hB:some gn≠Value.ownBlock (.slice B c.sp.length n2):=by
  intro e
  cases B with
  |none=>cases e
  |some a=>exact hn.2.2 a rfl (Option.some.inj e).symm
 exact⟨h.1,below_set h.2.1 hge,(Below.heap_setCell w ⟨gn,i,none⟩ u g (fun e=>hn.1 e.symm)).trans h.2.2.1,
  Kd.R_mono (Kd.R_far (Kd.R_far1 h.2.2.2.1 rfl hA) (fun k hk=>hk.2) u) (fun _ _=>trivial),Kd.R_mono (Kd.R_far (Kd.R_far1 h.2.2.2.2 rfl hB) (fun k hk=>hk.2) u) (fun _ _=>trivial)⟩
theorem Cs.sets {gn:Nat} (h:Cs w0 w g q c A n1 B n2) (hge:w0.heap.size≤gn) (hn:gn≠g∧(∀ a,A=some a→a.block≠gn)∧(∀ a,B=some a→a.block≠gn)) (vs:List Value) (i:Nat):Cs w0 (sets w gn i vs) g q c A n1 B n2:=by
  induction vs generalizing w i with
  |nil=>exact h
  |cons v vs ih=>exact ih (h.other hge hn i v) (i+1)
/-- Behind an append to the stack: the block stands, and the spans. -/
theorem Cs.appS (h:Cs w0 w g q c A n1 B n2) {v1:Value} {x:Int} (hv:Kd.R (Kd.int .i64) 3 w1 w0.heap.size (fun _=>True) v1 (c.st++[x])) (hb:Below w0.heap.size w0 w1) (hg:w.grownBy w1 (Value.ownBlock (.slice A c.st.length n1))):
  w1.heap[g]? =some (.cells #[q 0,q 1,q 2,q 3,q 4,q 5,q 6,q 7,q 8,q 9,.slice A c.st.length n1,.slice B c.sp.length n2,.int .i64 c.fa,.int .i64 c.hi,q 14] 114 (0,0))∧∃ A' n',v1=.slice A' (c.st.length+1) n'∧Cs w0 (w1.setCell ⟨g,10,none⟩ v1) g q {c with st:=c.st++[x]} A' n' B n2:=by
 have hne:=Kd.R_ne h.2.2.2.1 h.2.2.1 (by decide)
 have hblk:=blk_grown h.2.2.1 hg hne
 have hsp:Kd.R k131 131 w1 w0.heap.size (fun _=>True) (.slice B c.sp.length n2) c.sp:=Kd.R_grown2 h.2.2.2.2 rfl hg (fun k hk=>by
  obtain⟨_,cells,hc⟩:=R_typed h.2.2.2.1 hk
  exact Kd.R_ne h.2.2.2.2 hc (by decide))
 obtain⟨A',n',e⟩:=Kd.R_slice hv
 subst e
 rw[List.length_append,List.length_singleton] at hv
 refine⟨hblk,A',n',by rw[List.length_append,List.length_singleton],?_⟩
 have e:(c.st++[x]).length=c.st.length+1:=by rw[List.length_append,List.length_singleton]
 have h1:=R_set1 hv rfl hblk (by decide) 10 (.slice A' (c.st++[x]).length n')
 refine⟨h.1,below_set hb h.1,blk_put hblk 10 _ rfl,?_,R_set1 hsp rfl hblk (by decide) _ _⟩
 simp only[e] at h1 ⊢;exact h1
theorem Cs.appP (h:Cs w0 w g q c A n1 B n2) {v1:Value} {x:S131} (hv:Kd.R k131 131 w1 w0.heap.size (fun _=>True) v1 (c.sp++[x])) (hb:Below w0.heap.size w0 w1) (hg:w.grownBy w1 (Value.ownBlock (.slice B c.sp.length n2))):
  w1.heap[g]? =some (.cells #[q 0,q 1,q 2,q 3,q 4,q 5,q 6,q 7,q 8,q 9,.slice A c.st.length n1,.slice B c.sp.length n2,.int .i64 c.fa,.int .i64 c.hi,q 14] 114 (0,0))∧∃ B' n',v1=.slice B' (c.sp.length+1) n'∧Cs w0 (w1.setCell ⟨g,11,none⟩ v1) g q {c with sp:=c.sp++[x]} A n1 B' n':=by
 have hne:=Kd.R_ne h.2.2.2.2 h.2.2.1 (by decide)
 have hblk:=blk_grown h.2.2.1 hg hne
 have hst:Kd.R (Kd.int .i64) 3 w1 w0.heap.size (fun _=>True) (.slice A c.st.length n1) c.st:=Kd.R_grown2 h.2.2.2.1 rfl hg (fun k hk=>by
  obtain⟨_,cells,hc⟩:=R_typed h.2.2.2.2 hk
  exact Kd.R_ne h.2.2.2.1 hc (by decide))
 obtain⟨B',n',e⟩:=Kd.R_slice hv
 subst e
 rw[List.length_append,List.length_singleton] at hv
 refine⟨hblk,B',n',by rw[List.length_append,List.length_singleton],?_⟩
 have e:(c.sp++[x]).length=c.sp.length+1:=by rw[List.length_append,List.length_singleton]
 have h1:=R_set1 hv rfl hblk (by decide) 11 (.slice B' (c.sp++[x]).length n')
 refine⟨h.1,below_set hb h.1,blk_put hblk 11 _ rfl,R_set1 hst rfl hblk (by decide) _ _,?_⟩
 simp only[e] at h1 ⊢;exact h1
theorem Cs.stk (h:Cs w0 w g q c A n1 B n2) (j:Nat) (x:Int) (hx:c.st[j]? =some x):∃ gA,A=some ⟨gA,0,none⟩∧w.cell? ⟨gA,j,none⟩=some (.int .i64 x):=by
 have hj:j<c.st.length:=(List.getElem?_eq_some_iff.1 hx).1
 obtain⟨gA,cap,e,gb,gl,cells,hc⟩:=Kd.R_form h.2.2.2.1 (by omega)
 injection e with eA e2 e3
 subst eA
 have h1:=(Kd.R_celln 0 h.2.2.2.1 (j:Int) (by omega) (by omega)).1
 rw[Int.toNat_natCast] at h1
 refine⟨gA,rfl,h1.trans ?_⟩
 unfold rdOf
 rw[Int.toNat_natCast,List.getD_eq_getElem?_getD,hx]
 rfl
theorem Cs.lenS (h:Cs w0 w g q c A n1 B n2):c.st.length≤9223372036854775807∧c.st.length≤n1:=⟨Kd.C_max (Kd.R_reads' h.2.2.2.1).2.2,(Kd.R_reads' h.2.2.2.1).2.1⟩
theorem Cs.lenP (h:Cs w0 w g q c A n1 B n2):c.sp.length≤9223372036854775807∧c.sp.length≤n2:=⟨Kd.C_max (Kd.R_reads' h.2.2.2.2).2.2,(Kd.R_reads' h.2.2.2.2).2.1⟩
theorem Cs.drewN (h:Cs w0 w g q c A n1 B n2) (n:Nat):Cs w0 (w.drewN n) g q c A n1 B n2:=h.below (pw_below_drewN (Below.refl _ _) n)
theorem Cs.drew (h:Cs w0 w g q c A n1 B n2):Cs w0 w.drew g q c A n1 B n2:=h.below (below_drew (Below.refl _ _))
/-- The j-th span. -/
theorem Cs.span (h:Cs w0 w g q c A n1 B n2) (j:Nat) (x:S131) (hx:c.sp[j]? =some x):∃ gB,B=some ⟨gB,0,none⟩∧w0.heap.size≤gB∧w.cell? ⟨gB,j*5,none⟩=some (.int .i64 x.f0)∧w.cell? ⟨gB,j*5+1,none⟩=some (.int .i64 x.f1)∧w.cell? ⟨gB,j*5+2,none⟩=some (.int .i64 x.f2)∧w.cell? ⟨gB,j*5+3,none⟩=some (.bool x.f3)∧w.cell? ⟨gB,j*5+4,none⟩=some (.bool x.f4)∧∀ i,w.frozen? ⟨gB,i,none⟩=false:=by
 have hj:j<c.sp.length:=(List.getElem?_eq_some_iff.1 hx).1
 obtain⟨gB,cap,e,gb,gl,cells,hc⟩:=Kd.R_form h.2.2.2.2 (by omega)
 injection e with eA e2 e3
 subst eA
 have hR:=h.2.2.2.2
 obtain⟨cs,hl,hM,hcc,_⟩:=Kd.R_elem hR z131 (j:Int) (by omega) (by omega)
 rw[Int.toNat_natCast,List.getD_eq_getElem?_getD,hx] at hM
 rw[Int.toNat_natCast] at hcc
 obtain rfl:=k131_openM hM
 have h5:∀ i u,[Value.int .i64 x.f0,.int .i64 x.f1,.int .i64 x.f2,.bool x.f3,.bool x.f4][i]? =some u→w.cell? ⟨gB,j*5+i,none⟩=some u:=hcc
 exact⟨gB,rfl,gb,h5 0 _ rfl,h5 1 _ rfl,h5 2 _ rfl,h5 3 _ rfl,h5 4 _ rfl,fun i=>blk_frozen hc i⟩
/-- A field of the j-th span is written. -/
theorem Cs.flag (gB:Nat) (h:Cs w0 w g q c A n1 (some ⟨gB,0,none⟩) n2) (j:Nat) (x:S131) (hx:c.sp[j]? =some x) (b:Bool):Cs w0 (w.setCell ⟨gB,j*5+3,none⟩ (.bool b)) g q {c with sp:=c.sp.set j {x with f3:=b}} A n1 (some ⟨gB,0,none⟩) n2∧Cs w0 (w.setCell ⟨gB,j*5+4,none⟩ (.bool b)) g q {c with sp:=c.sp.set j {x with f4:=b}} A n1 (some ⟨gB,0,none⟩) n2:=by
 have hj:j<c.sp.length:=(List.getElem?_eq_some_iff.1 hx).1
 have hR:=h.2.2.2.2
 obtain⟨gb,cells,hc⟩:=R_typed hR (g:=gB) rfl
 obtain⟨cs,hl,hM,hcc,_⟩:=Kd.R_elem hR z131 (j:Int) (by omega) (by omega)
 rw[Int.toNat_natCast,List.getD_eq_getElem?_getD,hx] at hM
 obtain rfl:=k131_openM hM
 have hgne:g≠gB:=by
  rintro rfl
  have h3:=h.2.2.1.symm.trans hc
  injection h3 with h3
  injection h3 with _ h3 _
  exact absurd h3 (by decide)
 have fin:∀ (i:Nat) (y:S131) (u:Value),Kd.R k131 131 (w.setCell ⟨gB,i,none⟩ u) w0.heap.size (fun _=>True) (.slice (some ⟨gB,0,none⟩) c.sp.length n2) (c.sp.set j y)→Cs w0 (w.setCell ⟨gB,i,none⟩ u) g q {c with sp:=c.sp.set j y} A n1 (some ⟨gB,0,none⟩) n2:=by
  intro i y u hR1
  have e:(c.sp.set j y).length=c.sp.length:=List.length_set
  refine⟨h.1,below_set h.2.1 gb,?_,R_set1 h.2.2.2.1 rfl hc (by decide) _ _,?_⟩
  ·
   simp only[e]
   exact(Below.heap_setCell w ⟨gB,i,none⟩ u g hgne).trans h.2.2.1
  simp only[e];exact hR1
 have s3:=(Kd.R_seg (okp:=fun k=>True∧k≠gB) hR (j:Int) (by omega) (by omega) (j:=3) (seg:=[.bool b]) (x':={x with f3:=b}) hl hcc (by show 3+1≤5;omega) (k131_mkM _ _ _ {x with f3:=b}) (fun k hk=>hk)).1
 have s4:=(Kd.R_seg (okp:=fun k=>True∧k≠gB) hR (j:Int) (by omega) (by omega) (j:=4) (seg:=[.bool b]) (x':={x with f4:=b}) hl hcc (by show 4+1≤5;omega) (k131_mkM _ _ _ {x with f4:=b}) (fun k hk=>hk)).1
 rw[Int.toNat_natCast] at s3 s4
 exact⟨fin _ _ _ s3,fin _ _ _ s4⟩
end

def pushS (c:CS S131) (op k:Int):Option (CS S131):=if c.sp.length<4000000000000 then some {c with sp:=c.sp++[⟨op,k,(c.st.length:Int),false,false⟩]} else none
def spec_l7begin.T0:Bool × List (List Nat × List Nat):=(true,[([],[]),([],[]),([1],[1]),([2],[2]),([3],[3]),([],[]),([],[]),([],[]),([7],[7]),([8],[8]),([9],[9]),([10],[10]),([5,6,11],[5,6,11]),([12],[12]),([4,13],[4,13]),([0,0,1,2,3,4,5,6,7,8,9,10,11,12,13,14],[0]),([15,0,1,2,3,4,5,6,7,8,9,10,11,12,13,14],[15]),([16,14,14,0,1,2,3,4,5,6,7,8,9,10,11,12,13,14],[14,16])])
def spec_l7begin.B0:List Nat:=[0,0,2,6,14,0,0,0,128,384,896,1920,4064,8160,16382,32767,65535,131071]
theorem spec_l7begin.tab0:rtab .any (opsOf Try.f56 0)=spec_l7begin.T0:=by kernel_rfl
theorem spec_l7begin.bits0:waitsOk spec_l7begin.T0.2 spec_l7begin.B0=true:=by kernel_rfl
theorem begin_any (op kd:Int) (w0 w:World) (g:Nat) (q:Nat→Value) (c c':CS S131) (A:Option Addr) (n1:Nat) (B:Option Addr) (n2:Nat) (h:Cs w0 w g q c A n1 B n2) (hr:pushS c op kd=some c'):
  Calls Try.prog 56 #[.pointer (some ⟨g,0,none⟩),.int .i64 op,.int .i64 kd] w fun e w'=>e=.returned (.tuple #[])∧CsE w0 w' g q c':=by
 have HO:=A_ h
 have HK:=A_ (KeepBut.refl w g none)
 have hu91:=Try.underlying131
 clear h
 unfold pushS at hr
 by_cases cl:c.sp.length<4000000000000
 ·
  rw[if_pos cl] at hr
  obtain rfl:=Option.some.inj hr
  have HLP:=A_ cl
  clear cl hr
  have c3:=HO.out.cell11;have c2:=HO.out.cell10
  go_enter Try.func56,Try.ntmps56
  go_upto_region 0 with (fail)
  refine sS 18 (fun w'=>w'.cell? ⟨g,11,none⟩=some (.slice B c.sp.length n2)∧w'.cell? ⟨g,10,none⟩=some (.slice A c.st.length n1)) [17] ⟨c3,c2⟩ spec_l7begin.tab0 spec_l7begin.bits0 (fun hHeld HT_ HW_=>?_)
  have m0:=A_ HO.out.drew;have m1:=A_ (keep_drew HK.out);have m2:=m0
  clear HO HK c2 c3
  generalize w.drew=wd at*
  have HO:=m0;have HK:=m1;clear m0 m1 m2
  refine pS HT_ 0 6 ?_
  refine pS HT_ 1 7 ?_
  refine pS HT_ 2 8 ?_
  refine pS HT_ 3 9 ?_
  refine pS HT_ 5 11 ?_
  refine pS HT_ 6 12 ?_
  refine pS HT_ 7 13 ?_
  refine pS HT_ 8 14 ?_
  refine pS HT_ 9 15 ?_
  refine tS HT_ HW_ 4 10 hHeld ?_
  refine tS HT_ HW_ 10 16 hHeld ?_
  refine pS HT_ 11 17 ?_
  refine pS HT_ 12 18 ?_
  refine oS HT_ 13 (some 19) (fun K hK=>?_)
  have hHeld2:Aside0 ((wd.alloc (.cells #[.int .i64 op,.int .i64 kd,.int .i64 (c.st.length:Int),.bool false,.bool false] 131 (0,0))).cell? ⟨g,11,none⟩=some (.slice B c.sp.length n2)∧(wd.alloc (.cells #[.int .i64 op,.int .i64 kd,.int .i64 (c.st.length:Int),.bool false,.bool false] 131 (0,0))).cell? ⟨g,10,none⟩=some (.slice A c.st.length n1)):=⟨by obtain⟨s0_,s1_⟩:=hHeld;exact⟨cl_ (below_alloc (Below.refl _ _) _) s0_,cl_ (below_alloc (Below.refl _ _) _) s1_⟩⟩
  refine value_ (w1:=(wd.alloc (.cells #[.int .i64 op,.int .i64 kd,.int .i64 (c.st.length:Int),.bool false,.bool false] 131 (0,0)))) (v:=.slice (some ⟨wd.heap.size,0,none⟩) 1 1) (by rfl) rfl (by first|(go_simp;done)|(go_simp;rfl)) ?_
  clear hHeld
  refine hK.out _ _ hHeld2.out (fun hHeld=>?_)
  clear hK K
  refine nS (some 19) ?_
  refine oS HT_ 14 (some 20) (fun K hK=>?_)
  refine Kd.R_append_step k131 w0.heap.size (by rfl) (.tmp 10) (.tmp 19) 112 131 (.agg #[.int .i64 0,.int .i64 0,.int .i64 0,.bool false,.bool false]) 32 rfl Try.underlying112 info131 rfl (by decide) (by omega) (.slice B c.sp.length n2) c.sp (⟨op,kd,(c.st.length:Int),false,false⟩:S131) [.int .i64 op,.int .i64 kd,.int .i64 (c.st.length:Int),.bool false,.bool false] (fun _=>True) (fun _=>False) rfl rfl ?aP (fun _ hk=>hk.elim) (fun _ _=>trivial) HO.out.2.2.2.2 HO.out.2.1 HO.out.2.1.size ?aL ?_;(case aP=>exact k131_mkM _ _ _ (⟨op,kd,(c.st.length:Int),false,false⟩:S131));(case aL=>have:=HLP.out;omega)
  intro v1 wa hv hb hg hat
  obtain⟨hblk,B',n',e_,hN⟩:=HO.out.appP hv hb hg;subst e_;have HB:=A_ hblk;have HN:=A_ hN
  have hblk0:=A_ hblk
  clear hv hb hg hat hblk hN hHeld hHeld2
  refine hK.out _ _ ⟨(blk_cell hblk0.out 11).trans rfl,(blk_cell hblk0.out 10).trans rfl⟩ (fun hHeld=>?_)
  clear hK K
  refine nS (some 20) ?_
  refine pS HT_ 15 21 ?_
  refine pS HT_ 16 22 ?_
  refine lS HT_ 17 (none) (fun K hK=>?_)
  have ff:=blk_frozen HB.out 11
  refine skip_ (w1:=(wa.setCell ⟨g,11,none⟩ (.slice B' (c.sp.length+1) n'))) (by rfl) rfl (by first|(obtain⟨s0_,s1_⟩:=hHeld;go_simp;done)|(obtain⟨s0_,s1_⟩:=hHeld;go_simp;rfl)) ?_
  clear hHeld ff
  refine hK.out _ _ ?_
  clear hK K
  refine dS HT_ ?_
  clear HO HK
  generalize (wa.setCell ⟨g,11,none⟩ (.slice B' (c.sp.length+1) n'))=wy at*
  have HO:=HN
  go_wp2
  first|go_end0|((try simp only[Exit.inBlock,Exit.then]);refine rt_ ?_)
  exact⟨rfl,_,_,_,_,HO.out⟩
 rw[if_neg cl] at hr;cases hr


/-! ### spec_l7S_die: function 73 (walked by hand) -/
def dieS (c:CS S131):Option (CS S131):=if c.fa≠0 then some c else (c.sp[c.sp.length - 1]?).bind fun b=>if 0≤b.f2∧b.f2≤(c.st.length:Int) then some {c with st:=c.st.take b.f2.toNat,sp:=c.sp.set (c.sp.length - 1) {b with f3:=true}} else none
theorem sdie_any (w0 w:World) (g:Nat) (q:Nat→Value) (c c':CS S131) (A:Option Addr) (n1:Nat) (B:Option Addr) (n2:Nat) (h:Cs w0 w g q c A n1 B n2) (hr:dieS c=some c'):
  Calls Try.prog 73 #[.pointer (some ⟨g,0,none⟩)] w fun e w'=>e=.returned (.tuple #[])∧CsE w0 w' g q c':=by
 have HO:=A_ h
 have HK:=A_ (KeepBut.refl w g none)
 unfold dieS at hr
 have c12f:=HO.out.cell12
 by_cases kf:c.fa≠0
 ·
  rw[if_pos kf] at hr
  obtain rfl:=Option.some.inj hr
  have cf:(c.fa !=0)=true:=bne_iff_ne.2 kf
  clear h kf
  go_enter Try.func73,Try.ntmps73
  go_wp2
  first|go_end0|((try simp only[Exit.inBlock,Exit.then]);refine rt_ ?_)
  exact⟨rfl,_,_,_,_,HO.out⟩
 rw[if_neg kf] at hr
 have cf:(c.fa !=0)=false:=bne_eq_false_iff_eq.2 (Classical.not_not.1 kf)
 obtain⟨b,hb,hr1⟩:=Option.bind_eq_some_iff.1 hr
 clear hr kf
 by_cases hz:0≤b.f2∧b.f2≤(c.st.length:Int)
 ·
  rw[if_pos hz] at hr1
  obtain rfl:=Option.some.inj hr1
  obtain⟨hh,hhe⟩:=Int.eq_ofNat_of_zero_le hz.1
  have HH:=A_ hhe
  have HC:=A_ (show hh≤c.st.length by omega)
  rw[show b.f2.toNat=hh by omega]
  have hp:0<c.sp.length:=by have:=(List.getElem?_eq_some_iff.1 hb).1;omega
  have HLT:=A_ (List.getElem?_eq_some_iff.1 hb).1
  obtain⟨gB,rfl,_,_,_,s2,_,_,_⟩:=h.span _ b hb
  rw[hhe] at s2
  have HBB:=A_ hb
  have hm:=h.lenP.1
  have e1:IntKind.i64.wrap ((c.sp.length:Int) - 1)=((c.sp.length - 1:Nat):Int):=by rw[show ((c.sp.length:Int) - 1)=((c.sp.length - 1:Nat):Int) by omega];exact IntWalk.i64_in _ (by omega)
  have q1:(0:Int)≤((c.sp.length - 1:Nat):Int):=by omega
  have q2:((c.sp.length - 1:Nat):Int)<(c.sp.length:Int):=by omega
  have hsh:=R_shape h.2.2.2.1
  have hcap:=h.lenS.2
  have c11f:=HO.out.cell11
  have c10f:=HO.out.cell10
  have u10:=HO.out.frozen 10
  clear hr1 hz hhe hp hm hb h
  rcases hsh with ⟨rfl,z1,z2⟩|⟨gA,rfl⟩
  ·
   have HZ:=A_ (And.intro z1 z2)
   obtain rfl:hh=0:=by have:=HC.out;omega
   rw[z1,z2] at c10f
   clear z1 z2 hcap
   go_enter Try.func73,Try.ntmps73
   go_upto_region 2 with (fail)
   go_still_tail 16,(by kernel_rfl)
   change wpList _ _ _ _ _ w.drew
   replace HO:=A_ (HO.out.drew);replace HK:=A_ (trivial);clear c10f c11f c12f u10 s2;generalize w.drew=wa at*
   have c10f:=HO.out.cell10;have u10:=HO.out.frozen 10
   rw[HZ.out.1,HZ.out.2] at c10f
   go_upto_region 3 with (fail)
   have h9:=HO.out.cutS 0 HC.out
   rw[HZ.out.2] at h9
   replace HO:=A_ (h9);replace HK:=A_ (trivial);clear c10f u10;generalize wa.setCell ⟨g,10,none⟩ (.slice none 0 0)=wb at*
   have c11f:=HO.out.cell11
   obtain⟨_,e_,_,_,_,_,s3,_,sf⟩:=HO.out.span (c.sp.length - 1) b HBB.out;cases e_;have u3:=sf ((c.sp.length - 1)*5+3);clear sf
   clear h9
   go_wp2
   first|go_end0|((try simp only[Exit.inBlock,Exit.then]);refine rt_ ?_)
   exact⟨rfl,_,_,_,_,(HO.out.flag gB (c.sp.length - 1) b HBB.out true).1⟩
  have q3:(0:Int)≤(hh:Int):=by omega
  have q4:(hh:Int)≤(n1:Int):=by have:=HC.out;omega
  clear hcap
  go_enter Try.func73,Try.ntmps73
  go_upto_region 2 with (fail)
  go_still_tail 16,(by kernel_rfl)
  change wpList _ _ _ _ _ w.drew
  replace HO:=A_ (HO.out.drew);replace HK:=A_ (trivial);clear c10f c11f c12f u10 s2;generalize w.drew=wa at*
  have c10f:=HO.out.cell10;have u10:=HO.out.frozen 10
  go_upto_region 3 with (fail)
  replace HO:=A_ (HO.out.cutS hh HC.out);replace HK:=A_ (trivial);clear c10f u10;generalize wa.setCell ⟨g,10,none⟩ (.slice (some ⟨gA,0,none⟩) hh n1)=wb at*
  have c11f:=HO.out.cell11
  obtain⟨_,e_,_,_,_,_,s3,_,sf⟩:=HO.out.span (c.sp.length - 1) b HBB.out;cases e_;have u3:=sf ((c.sp.length - 1)*5+3);clear sf
  go_wp2
  first|go_end0|((try simp only[Exit.inBlock,Exit.then]);refine rt_ ?_)
  exact⟨rfl,_,_,_,_,(HO.out.flag gB (c.sp.length - 1) b HBB.out true).1⟩
 rw[if_neg hz] at hr1;cases hr1


/-! ### spec_l7S_bad: function 77 (walked by hand) -/
theorem bad_any (w0 w:World) (g:Nat) (q:Nat→Value) (c:CS S131) (k:Int) (A:Option Addr) (n1:Nat) (B:Option Addr) (n2:Nat) (h:Cs w0 w g q c A n1 B n2):
  Calls Try.prog 77 #[.pointer (some ⟨g,0,none⟩),.int .i64 k] w fun e w'=>e=.returned (.tuple #[])∧Cs w0 w' g q (c.fail k) A n1 B n2∧KeepBut w w' g none:=by
 have HO:=A_ h
 have c5:=h.cell12
 have f5:=h.frozen 12
 clear h
 by_cases cf:c.fa=0
 ·
  have cb:(c.fa==0)=true:=beq_iff_eq.2 cf
  have e:c.fail k={c with fa:=k}:=by rw[CS.fail,if_pos cf]
  rw[e]
  clear cf e
  go_enter Try.func77,Try.ntmps77
  go_wp2
  go_end0
  exact⟨rfl,HO.out.setF k,(KeepBut.refl w g none).set_ 12 _⟩
 have cb:(c.fa==0)=false:=beq_eq_false_iff_ne.2 cf
 have e:c.fail k=c:=by rw[CS.fail,if_neg cf]
 rw[e]
 clear cf e
 go_enter Try.func77,Try.ntmps77
 go_wp2
 go_end0
 exact⟨rfl,HO.out,KeepBut.refl w g none⟩
theorem sput_any (k:Int) (w0 w:World) (g:Nat) (q:Nat→Value) (c c':CS S131) (A:Option Addr) (n1:Nat) (B:Option Addr) (n2:Nat) (h:Cs w0 w g q c A n1 B n2) (hr:c.put k=some c'):
  Calls Try.prog 75 #[.pointer (some ⟨g,0,none⟩),.int .i64 k] w fun e w'=>e=.returned (.tuple #[])∧CsE w0 w' g q c':=by
 have HO:=A_ h
 have HK:=A_ (KeepBut.refl w g none)
 have hm:=h.lenS
 clear h
 unfold CS.put at hr
 by_cases ck:k=64
 ·
  rw[if_pos ck] at hr
  obtain rfl:=Option.some.inj hr
  have cb:(k==64)=true:=beq_iff_eq.2 ck
  clear ck
  go_enter Try.func75,Try.ntmps75
  go_wp2
  first|go_end0|((try simp only[Exit.inBlock,Exit.then]);refine rt_ ?_)
  exact⟨rfl,_,_,_,_,HO.out⟩
 rw[if_neg ck] at hr
 by_cases cl:c.st.length<17592186044416
 ·
  rw[if_pos cl] at hr
  obtain rfl:=Option.some.inj hr
  have cb:(k==64)=false:=beq_eq_false_iff_ne.2 ck
  have HL:=A_ cl
  clear ck cl hr
  obtain⟨hx,hh⟩:∃ x,(if c.hi<(c.st.length:Int)+1 then (c.st.length:Int)+1 else c.hi)=x:=⟨_,rfl⟩
  rw[hh]
  have HH:=A_ hh
  clear hh
  have c2:=HO.out.cell10
  have f2:=HO.out.frozen 10
  go_enter Try.func75,Try.ntmps75
  go_wp2_with (first|((with_reducible refine gate_builtin (b:=.append) (xs:=#[.tmp 10,.tmp 12]) rfl ?_);at_builtin;refine Kd.R_append (Kd.int .i64) w0.heap.size rfl (.tmp 10) (.tmp 12) 81 3 (.int .i64 0) 8 rfl Try.underlying81 info3 rfl (by decide) (by omega) (.slice A c.st.length n1) c.st k [.int .i64 k] (fun _=>True) (fun _=>False) rfl rfl ?aP (fun _ hk=>hk.elim) (fun _ _=>trivial) ?aO HO.out.2.1 HO.out.2.1.size ?aL ?_;(case aP=>exact rfl);(case aO=>exact HO.out.2.2.2.1);(case aL=>have:=HL.out;omega);intro v1 wa hv hb hg hat;obtain⟨hblk,A',n',e_,hN⟩:=HO.out.appS hv hb hg;subst e_;have HB:=A_ hblk;have HN:=A_ hN;clear c2 f2 hv hb hg hat hblk hN;have c2:=blk_cell HB.out 10;have f2:=blk_frozen HB.out 10))
  replace HO:=A_ (HN.out);replace HK:=A_ (trivial);clear HB c2 f2;generalize wa.setCell ⟨g,10,none⟩ (.slice A' (c.st.length+1) n')=wb at*;clear HN
  have c2:wb.cell? ⟨g,10,none⟩=some (.slice A' (c.st.length+1) n'):=by have h9:=HO.out.cell10;rwa [List.length_append,List.length_singleton] at h9
  have c4:=HO.out.cell13
  by_cases cm:c.hi<(c.st.length:Int)+1
  ·
   have ee:=HH.out.symm.trans (if_pos cm)
   have cmb:=decide_eq_true cm
   have EE:=A_ ee
   clear cm ee
   go_quiet (fail)
   replace HO:=A_ (HO.out.drewN nq);replace HK:=A_ (trivial);clear c2 c4;generalize wb.drewN nq=wc at*
   have c2:wc.cell? ⟨g,10,none⟩=some (.slice A' (c.st.length+1) n'):=by have h9:=HO.out.cell10;rwa [List.length_append,List.length_singleton] at h9
   have c4:=HO.out.cell13;have f4:=HO.out.frozen 13
   go_wp2
   first|go_end0|((try simp only[Exit.inBlock,Exit.then]);refine rt_ ?_)
   exact⟨rfl,_,_,_,_,by rw[EE.out];exact HO.out.setH _⟩
  have ee:=HH.out.symm.trans (if_neg cm)
  have cmb:=decide_eq_false cm
  have EE:=A_ ee
  clear cm ee
  go_quiet (fail)
  replace HO:=A_ (HO.out.drewN nq);replace HK:=A_ (trivial);clear c2 c4;generalize wb.drewN nq=wc at*
  have c2:wc.cell? ⟨g,10,none⟩=some (.slice A' (c.st.length+1) n'):=by have h9:=HO.out.cell10;rwa [List.length_append,List.length_singleton] at h9
  go_wp2
  first|go_end0|((try simp only[Exit.inBlock,Exit.then]);refine rt_ ?_)
  exact⟨rfl,_,_,_,_,by rw[EE.out];exact HO.out⟩
 rw[if_neg cl] at hr;cases hr
end Go.Proofs.Ytanhbfhmgmjdgaa.Q

