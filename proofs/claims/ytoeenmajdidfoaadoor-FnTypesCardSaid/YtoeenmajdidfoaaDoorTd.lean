/- Drawn types: the drawing ends. -/
import Derived.Test.YtoeenmajdidfoaaDoorTk
import Derived.Test.YtoeenmajdidfoaaDoorCuq
import Derived.Test.YtoeenmajdidfoaaDoorQx2
import Derived.Test.YtoeenmajdidfoaaDoorQx1
import Derived.Test.YtoeenmajdidfoaaDoorQx3
namespace Go.Proofs.YtoeenmajdidfoaaDoor.Ty
open Go.RowKit Go.Proofs.YtoeenmajdidfoaaDoor.Q Go.Proofs.YtoeenmajdidfoaaDoorW.PrintWords Go.Proofs.YtoeenmajdidfoaaDoorW.PrintLast Go.Proofs.YtoeenmajdidfoaaDoorW.PrintMore Go.Proofs.YtoeenmajdidfoaaDoor.Mb Go.Proofs.YtoeenmajdidfoaaDoor.Cur
set_option linter.unusedSimpArgs false
set_option linter.unusedVariables false
set_option linter.unusedSectionVars false

/-- A drawn tree of m + 1 levels; the reader goes on from a to b at most. -/
def Dr (m:Nat) (a b:Int) (g:Nat→Option (Int × Int × List S43 × Int × Int)):Prop:=∃ (t:S43) (a' s':Int),Ev g (t.f0,t.f1,t.f2,a',s')∧fewB (m+1) t=true∧a≤a'∧a'≤b
section
variable {m:Nat} {a b a1 b1:Int} {f g:Nat→Option (Int × Int × List S43 × Int × Int)}
theorem Dr.step (h:∀ k,f (k+1)=g k) (hd:Dr m a b g):Dr m a b f:=by
  obtain⟨t,a',s',h1,h2⟩:=hd
  exact⟨t,a',s',Ev.step h h1,h2⟩
theorem Dr.congr (h:∀ k,f k=g k) (hd:Dr m a b g):Dr m a b f:=by
  obtain⟨t,a',s',h1,h2⟩:=hd
  exact⟨t,a',s',Ev.congr h h1,h2⟩
theorem Dr.bind {β:Type} {h:Nat→Option β} {v:β} {f:Nat→β→Option (Int × Int × List S43 × Int × Int)} (hh:Ev h v) (hd:Dr m a b (fun k=>f k v)):Dr m a b (fun k=>(h k).bind (f k)):=by
  obtain⟨t,a',s',h1,h2⟩:=hd
  exact⟨t,a',s',Ev.bind hh h1,h2⟩
theorem Dr.wider (hd:Dr m a1 b1 g) (h1:a≤a1) (h2:b1≤b):Dr m a b g:=by
  obtain⟨t,a',s',h,h3,h4,h5⟩:=hd
  exact⟨t,a',s',h,h3,by omega,by omega⟩
end
theorem sh_some:∀ x:Fin 22,(let s:=sh ((x.val:Nat):Int);0≤s.1∧s.1≤2∧s.2.1≤8∧0≤s.2.2.1∧s.2.2.1≤s.2.2.2∧s.2.2.2≤300∧(x.val≤12∨20≤x.val→s.1=0∧s.2.1=0)):=by decide+kernel
theorem sh_draw {x:Int} (h0:1≤x) (h1:x≤21):0≤(sh x).1∧(sh x).1≤2∧(sh x).2.1≤8∧0≤(sh x).2.2.1∧(sh x).2.2.1≤(sh x).2.2.2∧(sh x).2.2.2≤300∧(x≤12∨20≤x→(sh x).1=0∧(sh x).2.1=0):=by
  obtain⟨y,rfl⟩:=Int.eq_ofNat_of_zero_le (show 0≤x by omega)
  have:=sh_some ⟨y,by omega⟩
  simp only at this
  refine⟨this.1,this.2.1,this.2.2.1,this.2.2.2.1,this.2.2.2.2.1,this.2.2.2.2.2.1,fun h=>this.2.2.2.2.2.2 (by omega)⟩
section
variable {l:List Int} (hu:U8 l) (x1:Int) (x2:Bool)
include hu
/-- The parts of a node. C: what the reader needs for one of them. -/
theorem typeOf_l0 (m:Nat) (C:Nat) (y0 y1:Int) (d:Nat):(0<d→∀ a s:Int,0≤a→a+C≤4000000000000000000→∃ (t:S43) (a' s':Int),Ev (fun k=>spec_l1Cur_typeOf.f k l a s (wrap64 (x1 - 1)) x2) (t.f0,t.f1,t.f2,a',s')∧fewB m t=true∧a≤a'∧a'≤a+C)→
    ∀ (kids:List S43) (a s:Int),(∀ x∈kids,fewB m x=true)→kids.length+d≤8→0≤a→a+d*C≤4000000000000000000→Dr m a (a+d*C) (fun k=>spec_l1Cur_typeOf.l0 k x1 x2 (d:Int) l a s y0 y1 kids):=by
  induction d with
  |zero=>
    intro _ kids a s hk hl h0 h1
    refine⟨⟨y0,y1,kids⟩,a,s,Ev.step (f:=fun _=>some (y0,y1,kids,a,s)) (fun k=>?_) (Ev.now _),?_,Int.le_refl _,by simp⟩
    · simp only[spec_l1Cur_typeOf.l0]
      rw[if_neg (by omega)]
    · rw[fewB,Bool.and_eq_true]
      exact⟨decide_eq_true (by show kids.length≤8;omega),List.all_eq_true.2 hk⟩
  |succ d ih=>
    intro hr kids a s hk hl h0 h1
    have e:((d+1:Nat):Int)*(C:Int)=(d:Int)*C+C:=by rw[show ((d+1:Nat):Int)=(d:Int)+1 by omega,Int.add_mul,Int.one_mul]
    have hdC:0≤(d:Int)*(C:Int):=Int.mul_nonneg (by omega) (by omega)
    rw[e] at h1 ⊢
    obtain⟨t,a',s',ht,hf,ha,hb⟩:=hr (by omega) a s h0 (by omega)
    obtain⟨t2,a2,s2,ht2,hf2,ha2,hb2⟩:=ih (fun _=>hr (by omega)) (kids++[t]) a' s' (fun x hx=>by
      rcases List.mem_append.1 hx with h|h
      · exact hk x h
      · rw[List.mem_singleton.1 h];exact hf) (by rw[List.length_append,List.length_singleton];omega) (by omega) (by omega)
    refine⟨t2,a2,s2,?_,hf2,by omega,by omega⟩
    refine Ev.step (f:=fun k=>(spec_l1Cur_typeOf.f k l a s (wrap64 (x1 - 1)) x2).bind fun bt=>spec_l1Cur_typeOf.l0 k x1 x2 (d:Int) l bt.2.2.2.1 bt.2.2.2.2 y0 y1 (kids++[(⟨bt.1,bt.2.1,bt.2.2.1⟩:S43)])) (fun k=>?_) (Ev.bind ht ?_)
    · simp only[spec_l1Cur_typeOf.l0]
      have hlen:kids.length<3518437208883:=by omega
      rw[if_pos (by omega),w64 (n:=((d+1:Nat):Int) - 1) (by omega) (by omega),show ((d+1:Nat):Int) - 1=(d:Int) by omega]
      simp only[hlen,if_true]
    · cases t with
      |mk u0 u1 u2=>exact ht2
/-- From the count of parts on. -/
theorem typeOf_j4 (m:Nat) (C:Nat) (hC:C≤1000000000) (y0 y1 lo hi:Int) (h0:0≤lo) (h2:lo≤2) (h8:hi≤8)
    (ih:(0<lo∨0<hi)→∀ a s:Int,0≤a→a+C≤4000000000000000000→∃ (t:S43) (a' s':Int),Ev (fun k=>spec_l1Cur_typeOf.f k l a s (wrap64 (x1 - 1)) x2) (t.f0,t.f1,t.f2,a',s')∧fewB m t=true∧a≤a'∧a'≤a+C)
    (a s:Int) (ha:0≤a) (hb:a+(2+8*C)≤4000000000000000000):Dr m a (a+(2+8*C)) (fun k=>spec_l1Cur_typeOf.j4 k x1 x2 lo hi l a s y0 y1):=by
  have j5:∀ (d:Nat),d≤8→(0<d→(0<lo∨0<hi))→∀ a1 s1:Int,a≤a1→a1≤a+2→Dr m a (a+(2+8*C)) (fun k=>spec_l1Cur_typeOf.j5 k x1 x2 (d:Int) l a1 s1 y0 y1):=by
    intro d hd hdd a1 s1 ha1 ha2
    have hm:(d:Int)*C≤8*C:=Int.mul_le_mul_of_nonneg_right (by omega) (by omega)
    have:=typeOf_l0 hu x1 x2 m C y0 y1 d (fun h=>ih (hdd h)) [] a1 s1 (fun x hx=>by cases hx) (by simpa using hd) (by omega) (by omega)
    exact Dr.step (fun k=>by simp only[spec_l1Cur_typeOf.j5]) (this.wider ha1 (by omega))
  by_cases c:hi > lo
  · obtain⟨r,a',s',e,r0,r1,q0,q1⟩:=pick_ok hu ha (by omega) s 3 (by decide) (by decide)
    refine Dr.step (g:=fun k=>spec_l1Cur_typeOf.j5 k x1 x2 (wrap64 (lo+r)) l a' s' y0 y1) (fun k=>?_) ?_
    · simp only[spec_l1Cur_typeOf.j4]
      rw[if_pos c,e,Option.bind_some]
    · rw[w64 (n:=lo+r) (by omega) (by omega)]
      have:=j5 (lo+r).toNat (by omega) (fun _=>by omega) a' s' q0 q1
      rwa [Int.toNat_of_nonneg (by omega)] at this
  · refine Dr.step (g:=fun k=>spec_l1Cur_typeOf.j5 k x1 x2 lo l a s y0 y1) (fun k=>?_) ?_
    · simp only[spec_l1Cur_typeOf.j4]
      rw[if_neg c]
    · have:=j5 lo.toNat (by omega) (fun _=>by omega) a s (Int.le_refl _) (by omega)
      rwa [Int.toNat_of_nonneg (by omega)] at this
/-- From the kind on. -/
theorem typeOf_j3 (m:Nat) (C:Nat) (hC:C≤1000000000) (y0 y1:Int) (h0:1≤y0) (h1:y0≤21)
    (ih:(12<y0∧y0<20)→∀ a s:Int,0≤a→a+C≤4000000000000000000→∃ (t:S43) (a' s':Int),Ev (fun k=>spec_l1Cur_typeOf.f k l a s (wrap64 (x1 - 1)) x2) (t.f0,t.f1,t.f2,a',s')∧fewB m t=true∧a≤a'∧a'≤a+C)
    (a s:Int) (ha:0≤a) (hb:a+(8+8*C)≤4000000000000000000):Dr m a (a+(8+8*C)) (fun k=>spec_l1Cur_typeOf.j3 k x1 x2 l a s y0 y1):=by
  obtain⟨s0,s1,s2,s3,s4,s5,s6⟩:=sh_draw h0 h1
  have hsh:Ev (fun k=>spec_l11Shape.f k y0) (sh y0):=⟨5,fun k hk=>sh_ok (by omega) h1 hk⟩
  have ih2:(0<(sh y0).1∨0<(sh y0).2.1)→(12<y0∧y0<20):=by omega
  have j4:∀ y a1 z1:Int,a≤a1→a1≤a+6→Dr m a (a+(8+8*C)) (fun k=>spec_l1Cur_typeOf.j4 k x1 x2 (sh y0).1 (sh y0).2.1 l a1 z1 y0 y):=by
    intro y a1 z1 q0 q1
    exact(typeOf_j4 hu x1 x2 m C hC y0 y _ _ s0 s1 s2 (fun h=>ih (ih2 h)) a1 z1 (by omega) (by omega)).wider q0 (by omega)
  refine Dr.step (fun k=>by simp only[spec_l1Cur_typeOf.j3];rfl) (Dr.bind hsh ?_)
  generalize hsy:sh y0=q at s0 s1 s2 s3 s4 s5 s6 hsh j4
  by_cases c:q.2.2.2 > 0
  · refine Dr.congr (fun k=>if_pos c) ?_
    have e1:wrap64 (wrap64 (q.2.2.2 - q.2.2.1)+1)=q.2.2.2 - q.2.2.1+1:=by rw[w64 (n:=q.2.2.2 - q.2.2.1) (by omega) (by omega),w64 (by omega) (by omega)]
    obtain⟨r,a',s',e,r0,r1,q0,q1⟩:=pick_ok hu ha (by omega) s (q.2.2.2 - q.2.2.1+1) (by omega) (by omega)
    rw[e1]
    by_cases c19:y0=19
    · obtain⟨bo,a2,s2',e2,p0,p1⟩:=one_ok hu (a:=a') (by omega) (by omega) s' 4 (by decide) (by decide)
      cases bo with
      |true=>
        refine Dr.congr (fun k=>?_) (j4 (wrap64 (q.2.2.1+r)) a2 s2' (by omega) (by omega))
        rw[e,Option.bind_some,if_pos c19,e2,Option.bind_some,if_pos rfl]
      |false=>
        obtain⟨r3,a3,s3',e3,w0,w1,p2,p3⟩:=pick_ok hu (a:=a2) (by omega) (by omega) s2' 9 (by decide) (by decide)
        refine Dr.congr (fun k=>?_) (j4 (wrap64 (1+r3)) a3 s3' (by omega) (by omega))
        rw[e,Option.bind_some,if_pos c19,e2,Option.bind_some,if_neg Bool.false_ne_true,e3,Option.bind_some]
    · refine Dr.congr (fun k=>?_) (j4 (wrap64 (q.2.2.1+r)) a' s' (by omega) (by omega))
      rw[e,Option.bind_some,if_neg c19]
  · exact Dr.congr (fun k=>if_neg c) (j4 y1 a s (Int.le_refl _) (by omega))
/-- A node and what lies below it; deep as x1 asks. -/
theorem typeOf_ok (m:Nat):m≤5→∀ (x1:Int),x1≤m→-100≤x1→∀ (a s:Int),0≤a→a+(18*9 ^ m:Nat)≤4000000000000000000→Dr m a (a+(18*9 ^ m:Nat)) (fun k=>spec_l1Cur_typeOf.f k l a s x1 x2):=by
  have main:∀ (m C:Nat) (hC:C≤1000000000) (x1:Int),-100≤x1→x1≤100→(0<x1→∀ a s:Int,0≤a→a+C≤4000000000000000000→∃ (t:S43) (a' s':Int),Ev (fun k=>spec_l1Cur_typeOf.f k l a s (wrap64 (x1 - 1)) x2) (t.f0,t.f1,t.f2,a',s')∧fewB m t=true∧a≤a'∧a'≤a+C)→
      ∀ (a s:Int),0≤a→a+(18+8*C)≤4000000000000000000→Dr m a (a+(18+8*C)) (fun k=>spec_l1Cur_typeOf.f k l a s x1 x2):=by
    intro m C hC x1 hx0 hx1 ih a s ha hb
    have j3:∀ y0 y1 a1 z1:Int,1≤y0→y0≤21→((12<y0∧y0<20)→0<x1)→a≤a1→a1≤a+10→Dr m a (a+(18+8*C)) (fun k=>spec_l1Cur_typeOf.j3 k x1 x2 l a1 z1 y0 y1):=by
      intro y0 y1 a1 z1 h0 h1 hk q0 q1
      exact(typeOf_j3 hu x1 x2 m C hC y0 y1 h0 h1 (fun h=>ih (hk h)) a1 z1 (by omega) (by omega)).wider q0 (by omega)
    have j2:∀ (bb:Bool) (y0 y1 a1 z1:Int),1≤y0→y0≤21→((12<y0∧y0<20)→0<x1)→a≤a1→a1≤a+8→Dr m a (a+(18+8*C)) (fun k=>spec_l1Cur_typeOf.j2 k x1 x2 bb l a1 z1 y0 y1):=by
      intro bb y0 y1 a1 z1 h0 h1 hk q0 q1
      cases bb with
      |true=>
        obtain⟨r,a',s',e,r0,r1,p0,p1⟩:=pick_ok hu (a:=a1) (by omega) (by omega) z1 2 (by decide) (by decide)
        refine Dr.step (g:=fun k=>spec_l1Cur_typeOf.j3 k x1 x2 l a' s' (wrap64 (20+r)) y1) (fun k=>?_) ?_
        · simp only[spec_l1Cur_typeOf.j2,if_true,if_false,Bool.false_eq_true,e,Option.bind_some]
        · rw[w64 (n:=20+r) (by omega) (by omega)]
          exact j3 _ _ _ _ (by omega) (by omega) (fun h=>by omega) (by omega) (by omega)
      |false=>
        refine Dr.step (g:=fun k=>spec_l1Cur_typeOf.j3 k x1 x2 l a1 z1 y0 y1) (fun k=>?_) (j3 _ _ _ _ h0 h1 hk q0 (by omega))
        simp only[spec_l1Cur_typeOf.j2,if_true,if_false,Bool.false_eq_true]
    have j1:∀ (y0 y1 a1 z1:Int),1≤y0→y0≤21→((12<y0∧y0<20)→0<x1)→a≤a1→a1≤a+6→Dr m a (a+(18+8*C)) (fun k=>spec_l1Cur_typeOf.j1 k x1 x2 l a1 z1 y0 y1):=by
      intro y0 y1 a1 z1 h0 h1 hk q0 q1
      cases hx2:x2 with
      |true=>
        obtain⟨bo,a',s',e,p0,p1⟩:=one_ok hu (a:=a1) (by omega) (by omega) z1 8 (by decide) (by decide)
        rw[hx2] at j2
        refine Dr.step (g:=fun k=>spec_l1Cur_typeOf.j2 k x1 true bo l a' s' y0 y1) (fun k=>?_) (j2 _ _ _ _ _ h0 h1 hk (by omega) (by omega))
        simp only[spec_l1Cur_typeOf.j1,if_true,if_false,Bool.false_eq_true,e,Option.bind_some]
      |false=>
        rw[hx2] at j2
        refine Dr.step (g:=fun k=>spec_l1Cur_typeOf.j2 k x1 false false l a1 z1 y0 y1) (fun k=>?_) (j2 _ _ _ _ _ h0 h1 hk q0 (by omega))
        simp only[spec_l1Cur_typeOf.j1,if_true,if_false,Bool.false_eq_true]
    obtain⟨r,a',s',e,r0,r1,p0,p1⟩:=pick_ok hu ha (by omega) s 12 (by decide) (by decide)
    by_cases c:x1 > 0
    · obtain⟨bo,a2,s2,e2,p2,p3⟩:=one_ok hu (a:=a') (by omega) (by omega) s' 2 (by decide) (by decide)
      refine Dr.step (g:=fun k=>spec_l1Cur_typeOf.j0 k x1 x2 bo l a2 s2 (wrap64 (1+r)) 0) (fun k=>?_) ?_
      · simp only[spec_l1Cur_typeOf.f]
        rw[e,Option.bind_some,if_pos c,e2,Option.bind_some]
      · cases bo with
        |true=>
          obtain⟨r3,a3,s3,e3,w0,w1,p4,p5⟩:=pick_ok hu (a:=a2) (by omega) (by omega) s2 7 (by decide) (by decide)
          refine Dr.step (g:=fun k=>spec_l1Cur_typeOf.j1 k x1 x2 l a3 s3 (wrap64 (13+r3)) 0) (fun k=>?_) ?_
          · simp only[spec_l1Cur_typeOf.j0,if_true,if_false,Bool.false_eq_true,e3,Option.bind_some]
          · rw[w64 (n:=13+r3) (by omega) (by omega)]
            exact j1 _ _ _ _ (by omega) (by omega) (fun _=>c) (by omega) (by omega)
        |false=>
          refine Dr.step (g:=fun k=>spec_l1Cur_typeOf.j1 k x1 x2 l a2 s2 (wrap64 (1+r)) 0) (fun k=>?_) ?_
          · simp only[spec_l1Cur_typeOf.j0,if_true,if_false,Bool.false_eq_true]
          · rw[w64 (n:=1+r) (by omega) (by omega)]
            exact j1 _ _ _ _ (by omega) (by omega) (fun _=>c) (by omega) (by omega)
    · refine Dr.step (g:=fun k=>spec_l1Cur_typeOf.j0 k x1 x2 false l a' s' (wrap64 (1+r)) 0) (fun k=>?_) ?_
      · simp only[spec_l1Cur_typeOf.f]
        rw[e,Option.bind_some,if_neg c]
      · refine Dr.step (g:=fun k=>spec_l1Cur_typeOf.j1 k x1 x2 l a' s' (wrap64 (1+r)) 0) (fun k=>?_) ?_
        · simp only[spec_l1Cur_typeOf.j0,if_true,if_false,Bool.false_eq_true]
        · rw[w64 (n:=1+r) (by omega) (by omega)]
          exact j1 _ _ _ _ (by omega) (by omega) (fun h=>by omega) (by omega) (by omega)
  induction m with
  |zero=>
    intro _ x1 h0 h1 a s ha hb
    have:=main 0 0 (by decide) x1 h1 (by omega) (fun h=>by omega) a s ha (by simpa using hb)
    simpa using this
  |succ m ih=>
    intro hm x1 h0 h1 a s ha hb
    have h9:18*9 ^ m≤18*9 ^ 5:=Nat.mul_le_mul_left _ (Nat.pow_le_pow_right (by decide) (by omega))
    have hp:1≤9 ^ m:=Nat.one_le_pow _ _ (by decide)
    have e9:9 ^ (m+1)=9*9 ^ m:=by rw[Nat.pow_succ,Nat.mul_comm]
    have:=main (m+1) (18*9 ^ m) (by omega) x1 h1 (by omega) (fun h a s ha hb=>by
      obtain⟨t,a',s',k1,k2,k3,k4⟩:=ih (by omega) (x1 - 1) (by omega) (by omega) a s ha (by omega)
      exact⟨t,a',s',by rw[w64 (n:=x1 - 1) (by omega) (by omega)];exact k1,k2,k3,k4⟩) a s ha (by omega)
    exact this.wider (Int.le_refl _) (by omega)
end
/-- More levels may be asked. -/
theorem fewB_more:∀ (n:Nat) (t:S43),fewB n t=true→fewB (n+1) t=true
  |0,_,h=>by cases h
  |n+1,t,h=>by
    obtain⟨h1,h2⟩:=fewB_kids h
    rw[fewB,Bool.and_eq_true]
    exact⟨decide_eq_true h1,List.all_eq_true.2 fun x hx=>fewB_more n x (h2 x hx)⟩
theorem fold_nodes_grow (f:List S33→S43→List S33):∀ (xs:List S43) (s:List S33),(∀ x∈xs,∀ s,s.length≤(f s x).length)→s.length≤(xs.foldl f s).length
  |[],s,_=>Nat.le_refl _
  |x ::xs,s,h=>Nat.le_trans (h x List.mem_cons_self s) (fold_nodes_grow f xs _ (fun y hy=>h y (List.mem_cons_of_mem _ hy)))
theorem nodesN_grow:∀ (n:Nat) (l:List S33) (t:S43) (up:Int),l.length≤(nodesN n l t up).length
  |0,_,_,_=>Nat.le_refl _
  |n+1,l,t,up=>Nat.le_trans (by rw[List.length_append];omega) (fold_nodes_grow (fun s x=>nodesN n s x (l.length:Int)) t.f2 (l++[⟨t.f0,t.f1,up⟩]) (fun x _ s=>nodesN_grow n s x _))
theorem nodes_some (t:S43) (up:Int):1≤(nodesN 9 [] t up).length:=Nat.le_trans (by simp) (fold_nodes_grow (fun s x=>nodesN 8 s x ((([]:List S33).length:Nat):Int)) t.f2 ([]++[⟨t.f0,t.f1,up⟩]) (fun x _ s=>nodesN_grow 8 s x _))
/-- It ends. -/
def Ends {α:Type} (g:Nat→Option α):Prop:=∃ r,Ev g r
theorem Ends.bind {α β:Type} {h:Nat→Option β} {v:β} {f:Nat→β→Option α} (hh:Ev h v) (hd:Ends (fun k=>f k v)):Ends (fun k=>(h k).bind (f k)):=by
  obtain⟨r,h1⟩:=hd
  exact⟨r,Ev.bind hh h1⟩
theorem Ends.now {α:Type} (r:α):Ends (fun _=>some r):=⟨r,Ev.now r⟩
theorem nodes_ok {l:List Int} (hu:U8 l):Ends (fun k=>spec_l1Cur_typeNodes.f k l 0 0):=by
  obtain⟨p,a1,s1,e1,p0,p1,q0,q1⟩:=pick_ok hu (a:=0) (by decide) (by decide) 0 4 (by decide) (by decide)
  obtain⟨bo,a2,s2,e2,q2,q3⟩:=one_ok hu (a:=a1) (by omega) (by omega) s1 3 (by decide) (by decide)
  have hq:(18*9 ^ 3:Nat)=13122:=rfl
  obtain⟨t,a3,s3,ht,hf,q4,q5⟩:=typeOf_ok hu bo 3 (by decide) p (by omega) (by omega) a2 s2 (by omega) (by omega)
  have hf9:fewB 9 t=true:=fewB_more 8 t (fewB_more 7 t (fewB_more 6 t (fewB_more 5 t (fewB_more 4 t hf))))
  have e4:spec_l11Flat.f [] t.f0 t.f1 t.f2 (-1)=some (nodesN 9 [] t (-1)):=by
    cases t with
    |mk u0 u1 u2=>
      unfold spec_l11Flat.f
      rw[if_pos ⟨hf9,rfl⟩]
  have hlen:=nodesN_len 9 [] t (-1) hf9
  have hsome:=nodes_some t (-1)
  have h8:(8 ^ 9:Nat)=134217728:=rfl
  rw[h8,List.length_nil] at hlen
  obtain⟨r5,a5,s5,e5,r0,r1,q6,q7⟩:=pick_ok hu (a:=a3) (by omega) (by omega) s3 30 (by decide) (by decide)
  have hw:wrap64 (((nodesN 9 [] t (-1)).length:Int) - 1)=((nodesN 9 [] t (-1)).length:Int) - 1:=w64 (by omega) (by omega)
  have g1:(0:Int)≤((nodesN 9 [] t (-1)).length:Int) - 1:=by omega
  have g2:((nodesN 9 [] t (-1)).length:Int) - 1<((nodesN 9 [] t (-1)).length:Int):=by omega
  have g3:(nodesN 9 [] t (-1)).length<5864062014805:=by omega
  unfold spec_l1Cur_typeNodes.f
  simp only[e1,e2,Option.bind_some]
  refine Ends.bind ht ?_
  simp only[e4,e5,Option.bind_some,hw]
  by_cases c0:r5=0
  · obtain⟨r6,a6,s6,e6,_,q8,q9⟩:=among_ok hu (a:=a5) (by omega) (by omega) s5 [-1,301,33] (by decide) (by decide)
    simp only[if_pos c0,e6,Option.bind_some,if_pos g1,if_pos g2]
    exact Ends.now _
  simp only[if_neg c0]
  by_cases c1:r5=1
  · obtain⟨r6,a6,s6,e6,_,_,q8,q9⟩:=pick_ok hu (a:=a5) (by omega) (by omega) s5 4 (by decide) (by decide)
    simp only[if_pos c1,e6,Option.bind_some,if_pos g1,if_pos g2]
    exact Ends.now _
  simp only[if_neg c1]
  by_cases c2:r5=2
  · simp only[if_pos c2,if_pos g3]
    exact Ends.now _
  · simp only[if_neg c2]
    exact Ends.now _
theorem draw_type {l:List Int} (hu:U8 l):Ends (fun k=>spec_DrawGoodType.f k l):=by
  obtain⟨r,h⟩:=nodes_ok hu
  exact⟨r.1,Ev.congr (fun k=>rfl) (Ev.bind h (Ev.now r.1))⟩
end Go.Proofs.YtoeenmajdidfoaaDoor.Ty
