/- Modules of good shape: both texts agree, and what they then know. -/
import Derived.Test.YtanhbfhmgmjdgaaCv
import Derived.Test.YtanhbfhmgmjdgaaQx17
import Derived.Test.YtanhbfhmgmjdgaaQx4
namespace Go.Proofs.Ytanhbfhmgmjdgaa.Ck
open Go.RowKit Go.Proofs.Ytanhbfhmgmjdgaa.Q Go.Proofs.YtanhbfhmgmjdgaaW.PrintWords Go.Proofs.YtanhbfhmgmjdgaaW.PrintLast Go.Proofs.YtanhbfhmgmjdgaaW.PrintMore Go.Proofs.Ytanhbfhmgmjdgaa.Mb Go.Proofs.Ytanhbfhmgmjdgaa.Ins
set_option linter.unusedSimpArgs false
set_option linter.unusedVariables false
theorem Ev_one {α:Type} {g:Nat→Option α} {a b:α} (h:Ev g a) (h2:Ev g b):a=b:=by
  obtain⟨K,h⟩:=h
  obtain⟨L,h2⟩:=h2
  have e1:=h (K+L) (by omega)
  have e2:=h2 (K+L) (by omega)
  rw[e1] at e2
  exact Option.some.inj e2
/-- A body that has a depth nests well. -/
theorem deep_nest (l:List S103) (hl:l.length≤1000):∀ (k:Nat) (ar:List Int) (mo:Int) (j:Nat) (r:Int),impl_deepest.l0 k ar mo l (l.length:Int) (j:Int)=some r→r≠0→j≤l.length→ar.length≤j+1→Nest ar.length (l.drop j)
  |0,ar,mo,j,r,h,hr,hj,ha=>by cases h
  |k+1,ar,mo,j,r,h,hr,hj,ha=>by
    by_cases hlt:j<l.length
    · rw[List.drop_eq_getElem_cons hlt]
      have e1:wrap64 ((j:Int)+1)=((j+1:Nat):Int):=w64 (by omega) (by omega)
      rw[impl_deepest.l0,if_pos (by omega),if_pos (by omega),if_pos (by omega),rdO l j hlt,e1] at h
      by_cases h0:(ar.length:Int)=0
      · rw[if_pos h0] at h
        exact absurd (Option.some.inj h).symm hr
      rw[if_neg h0] at h
      obtain⟨t,ht⟩:∃ t,ar.length=t+1:=⟨ar.length - 1,by omega⟩
      rw[ht]
      have etop:wrap64 ((ar.length:Int) - 1)=(t:Int):=by rw[w64 (by omega) (by omega)];omega
      rw[opens_ok,Option.bind_some,etop] at h
      show Nest (nxt l[j].f0 t) (l.drop (j+1))
      generalize l[j].f0=x at*
      cases hop:isO x with
      |true=>
        rw[hop,if_pos rfl,if_pos (by omega),Option.bind_some] at h
        have h1:=deep_nest l hl k _ _ (j+1) r h hr (by omega) (by rw[List.length_append,List.length_singleton];omega)
        rw[List.length_append,List.length_singleton,ht] at h1
        have hn:nxt x t=t+1+1:=by
          unfold isO at hop
          simp only[Bool.or_eq_true,beq_iff_eq] at hop
          unfold nxt
          rw[if_pos (by omega)]
        rw[hn];exact h1
      |false=>
        have hno:¬(x=2∨x=3∨x=4):=by
          intro hx
          unfold isO at hop
          simp only[Bool.or_eq_false_iff,beq_eq_false_iff_ne] at hop
          omega
        rw[hop,if_neg (by decide)] at h
        by_cases c5:x=5
        · rw[if_pos c5,if_pos (by omega),if_pos (by omega)] at h
          by_cases c4:rd ar (t:Int)=4
          · rw[if_pos c4] at h
            have h1:=deep_nest l hl k _ _ (j+1) r h hr (by omega) (by rw[List.length_set];omega)
            rw[List.length_set,ht] at h1
            have hn:nxt x t=t+1:=by unfold nxt;rw[if_neg hno,if_neg (by omega)]
            rw[hn];exact h1
          · rw[if_neg c4] at h
            exact absurd (Option.some.inj h).symm hr
        · rw[if_neg c5] at h
          by_cases c11:x=11
          · rw[if_pos c11,if_pos (by omega),if_pos (by omega),Int.toNat_natCast] at h
            have h1:=deep_nest l hl k _ _ (j+1) r h hr (by omega) (by rw[List.length_take];omega)
            rw[List.length_take,ht,Nat.min_eq_left (by omega)] at h1
            have hn:nxt x t=t:=by unfold nxt;rw[if_neg hno,if_pos c11]
            rw[hn];exact h1
          · rw[if_neg c11] at h
            have h1:=deep_nest l hl k _ _ (j+1) r h hr (by omega) (by omega)
            rw[ht] at h1
            have hn:nxt x t=t+1:=by unfold nxt;rw[if_neg hno,if_neg c11]
            rw[hn];exact h1
    · rw[impl_deepest.l0,if_neg (by omega)] at h
      by_cases h0:(ar.length:Int) > 0
      · rw[if_pos h0] at h
        exact absurd (Option.some.inj h).symm hr
      · rw[List.drop_of_length_le (by omega)]
        show ar.length=0
        omega
/-- What is known of a good func. -/
structure FOk (f:S88):Prop where
  f0:∀ t∈f.f0,Ty t
  f2:∀ t∈f.f2,Ty t
  f1:f.f1=64∨Ty f.f1
  l0:f.f0.length≤6
  l2:f.f2.length≤20
  b:f.f3.all (fun x=>gi (fo x.f0) x.f1)=true
  l3:f.f3.length≤200
  n:Nest 1 f.f3
theorem ty_of {l:List Int} {m:Int} (h:tyB l m=true):(∀ t∈l,Ty t)∧(l.length:Int)≤m:=by
  unfold tyB at h
  rw[List.drop_zero,Bool.and_eq_true] at h
  exact⟨fun t ht=>of_decide_eq_true (p:=125≤t∧t≤127) ((List.all_eq_true.1 h.1) t ht),of_decide_eq_true h.2⟩
theorem deep_good (l:List S103) (hl:l.length≤2000000) {m:Int} (h:Ev (fun k=>impl_deepest.f k l) m) (hm:m≠0):l.all (fun x=>gi (fo x.f0) x.f1)=true∧l.length≤200∧Nest 1 l:=by
  have hg:Ev (fun k=>impl_goodCode.f k l) ((l.drop 0).all (fun x=>gi (fo x.f0) x.f1) && decide ((l.length:Int)≤200)):=by
    unfold impl_goodCode.f
    by_cases c:(l.length:Int) > 200
    · rw[decide_eq_false (by omega),Bool.and_false]
      exact Ev.congr (fun k=>if_pos c) (Ev.now _)
    · rw[decide_eq_true (by omega),Bool.and_true]
      exact Ev.congr (fun k=>if_neg c) (good_l0I l hl l.length 0 (by omega))
  rw[List.drop_zero] at hg
  obtain⟨K,hg⟩:=hg
  obtain⟨L,h⟩:=h
  have e1:impl_goodCode.f (K+L) l=_:=hg (K+L) (by omega)
  have e2:=h (K+L) (by omega)
  have e2:(impl_goodCode.f (K+L) l).bind _=some m:=e2
  rw[e1,Option.bind_some] at e2
  cases hb:(l.all (fun x=>gi (fo x.f0) x.f1) && decide ((l.length:Int)≤200)) with
  |false=>
    rw[hb,if_neg (by decide)] at e2
    exact absurd (Option.some.inj e2).symm hm
  |true=>
    rw[hb,if_pos rfl] at e2
    rw[Bool.and_eq_true] at hb
    have hl2:(l.length:Int)≤200:=of_decide_eq_true hb.2
    have h1:=deep_nest l (by omega) (K+L) [2] 1 0 m e2 hm (by omega) (by decide)
    exact⟨hb.1,by omega,h1⟩
theorem func_good (f:S88) (hP:f.f0.length≤2000000) (hL:f.f2.length≤2000000) (hB:f.f3.length≤2000000):∃ b:Bool,Ev (fun k=>impl_goodFunc.f k f.f0 f.f1 f.f2 f.f3) b∧Ev (fun k=>spec_l7Func.f k f.f0 f.f1 f.f2 f.f3) b∧(b=true→FOk f):=by
  obtain⟨b,h1,h2⟩:=func_same f.f0 f.f1 f.f2 f.f3 (by omega) (by omega) hB
  refine⟨b,h1,h2,fun e=>?_⟩
  rw[e] at h1
  obtain⟨m,o2,m2,bb,q1,_,_,q4⟩:=body_same f.f3 hB
  obtain⟨K1,h1⟩:=h1
  obtain⟨K2,t1⟩:=types_I f.f0 6 (by omega)
  obtain⟨K3,t2⟩:=types_I f.f2 20 (by omega)
  obtain⟨K4,q⟩:=q1
  have e1:=h1 (K1+K2+K3+K4) (by omega)
  have e2:=t1 (K1+K2+K3+K4) (by omega)
  have e3:=t2 (K1+K2+K3+K4) (by omega)
  have e4:=q (K1+K2+K3+K4) (by omega)
  generalize K1+K2+K3+K4=k at e1 e2 e3 e4
  have e1:impl_goodFunc.f k f.f0 f.f1 f.f2 f.f3=some true:=e1
  have e2:impl_goodTypes.f k f.f0 6=some (tyB f.f0 6):=e2
  have e3:impl_goodTypes.f k f.f2 20=some (tyB f.f2 20):=e3
  have e4:impl_deepest.f k f.f3=some m:=e4
  unfold impl_goodFunc.f at e1
  rw[e2,e3,good_type,e4] at e1
  simp only[Option.bind_some] at e1
  have hm:(m > 0∧(f.f1=64∨Ty f.f1))∧tyB f.f0 6=true∧tyB f.f2 20=true:=by
    cases hx:tyB f.f0 6 with
    |false=>rw[hx,if_neg (by decide)] at e1;exact absurd (Option.some.inj e1) (by decide)
    |true=>
      cases hy:tyB f.f2 20 with
      |false=>rw[hx,hy,if_pos rfl,if_neg (by decide)] at e1;exact absurd (Option.some.inj e1) (by decide)
      |true=>
        rw[hx,hy,if_pos rfl,if_pos rfl] at e1
        refine⟨?_,rfl,rfl⟩
        by_cases cr:125≤f.f1∧f.f1≤127
        · rw[if_pos (decide_eq_true cr)] at e1
          exact⟨of_decide_eq_true (Option.some.inj e1),.inr cr⟩
        · rw[if_neg (by rw[decide_eq_false cr];decide)] at e1
          by_cases c64:f.f1=64
          · rw[if_pos c64] at e1
            exact⟨of_decide_eq_true (Option.some.inj e1),.inl c64⟩
          · rw[if_neg c64] at e1
            exact absurd (Option.some.inj e1) (by decide)
  obtain⟨⟨hm,hr⟩,hp,hl⟩:=hm
  obtain⟨g1,g2,g3⟩:=deep_good f.f3 hB ⟨K4,q⟩ (by omega)
  obtain⟨p1,p2⟩:=ty_of hp
  obtain⟨p3,p4⟩:=ty_of hl
  exact⟨p1,p3,hr,by omega,by omega,g1,g2,g3⟩
/-! the shape -/
def stB (fs:List S88) (x:Int):Bool:=if x=-1 then true else if 0≤x∧x<(fs.length:Int) then (if (((rd_T88 fs x).f0).length:Int)=0 then (rd_T88 fs x).f1==64 else false) else false
theorem j3I (fs:List S88) (gs:List S75) (m:Bool) (a b c:Int) (x:Bool) (k:Nat):impl_GoodShape.j3 (k+1) x fs gs m a b c=some (if x=true then false else stB fs c)∧impl_GoodShape.j4 (k+1) x fs gs m a b c=some (if x=true then false else stB fs c):=by
  unfold stB
  rw[impl_GoodShape.j3,impl_GoodShape.j4]
  cases x with
  |true=>exact⟨rfl,rfl⟩
  |false=>
    simp only[Bool.false_eq_true,if_false]
    by_cases c1:c=-1
    · simp only[if_pos c1,and_self]
    · by_cases c2:0≤c
      · by_cases c3:c<(fs.length:Int)
        · have c4:0≤c∧c<(fs.length:Int):=⟨c2,c3⟩
          simp only[if_neg c1,if_pos c3,if_pos c4,if_pos c2,ge_iff_le]
          split<;>simp
        · have c4:¬(0≤c∧c<(fs.length:Int)):=fun h=>c3 h.2
          simp only[if_neg c1,if_neg c3,if_neg c4,if_pos c2,ge_iff_le,and_self]
      · have c4:¬(0≤c∧c<(fs.length:Int)):=fun h=>c2 h.1
        simp only[if_neg c1,if_neg c4,if_neg c2,ge_iff_le,and_self]
theorem j3S (fs:List S88) (hl:fs.length≤2000000) (gs:List S75) (m:Bool) (a b c:Int) (x:Bool) (k:Nat):spec_GoodShape.j3 (k+1) x fs gs m a b c=some (if x=true then false else stB fs c):=by
  unfold stB
  rw[spec_GoodShape.j3]
  cases x with
  |true=>rfl
  |false=>
    simp only[Bool.false_eq_true,if_false]
    by_cases c1:c=-1
    · simp only[if_pos c1]
    · have e:=w64 (n:=(fs.length:Int) - 1) (by omega) (by omega)
      simp only[if_neg c1,e,in_ok,Option.bind_some]
      by_cases c2:0≤c∧c≤(fs.length:Int) - 1
      · have c3:0≤c∧c<(fs.length:Int):=by omega
        simp only[decide_eq_true c2,if_true,if_pos c3.1,if_pos c3.2,if_pos c3]
        split<;>simp
      · have c3:¬(0≤c∧c<(fs.length:Int)):=by omega
        simp only[decide_eq_false c2,Bool.false_eq_true,if_false,if_neg c3]
def memB (m:Bool) (a b:Int):Bool:=if m=true then decide (0≤a∧a≤b∧b≤8) else (a==0 && b==0)
theorem l1_same (fs:List S88) (gs:List S75) (m:Bool) (a b c:Int) (hl:fs.length≤2000000) (hg:gs.length≤2000000) (d:Nat):∀ j:Nat,j+d=gs.length→
    ∃ r,Ev (fun k=>impl_GoodShape.l1 k gs (gs.length:Int) (j:Int) fs gs m a b c) r∧Ev (fun k=>spec_GoodShape.l1 k gs (gs.length:Int) (j:Int) fs gs m a b c) r∧(r=true→∀ g∈gs.drop j,Ty g.f0):=by
  induction d with
  |zero=>
    intro j hj
    refine⟨if memB m a b=true then stB fs c else false,?_,?_,fun _ g hx=>by rw[List.drop_of_length_le (by omega)] at hx;cases hx⟩
    · refine Ev.step (f:=fun k=>if m=true then (if a<0 then (impl_GoodShape.j3 k true fs gs m a b c) else (if a > b then (impl_GoodShape.j3 k true fs gs m a b c) else (impl_GoodShape.j3 k (decide (b > 8)) fs gs m a b c))) else (if a=0 then (impl_GoodShape.j4 k (b !=0) fs gs m a b c) else (impl_GoodShape.j4 k true fs gs m a b c))) (fun k=>?_) ?_
      · rw[impl_GoodShape.l1,if_neg (by omega)]
      · refine Ev.step (f:=fun _=>some (if memB m a b=true then stB fs c else false)) (fun k=>?_) (Ev.now _)
        unfold memB
        rw[(j3I fs gs m a b c true k).1,(j3I fs gs m a b c (decide (b > 8)) k).1,(j3I fs gs m a b c (b !=0) k).2,(j3I fs gs m a b c true k).2]
        cases m with
        |true=>
          by_cases cc:0≤a∧a≤b∧b≤8
          · have c1:¬a<0:=by omega
            have c2:¬a > b:=by omega
            have c3:¬b > 8:=by omega
            simp only[eq_self,if_true,if_neg c1,if_neg c2,decide_eq_false c3,decide_eq_true cc,Bool.false_eq_true,if_false]
          · simp only[eq_self,decide_eq_false cc,if_true,Bool.false_eq_true,if_false]
            by_cases c1:a<0
            · simp only[if_pos c1]
            · by_cases c2:a > b
              · simp only[if_neg c1,if_pos c2]
              · have c3:b > 8:=by omega
                simp only[if_neg c1,if_neg c2,decide_eq_true c3,if_true]
        |false=>
          by_cases c1:a=0
          · by_cases c2:b=0
            · simp[c1,c2]
            · simp[c1,c2]
          · simp[c1]
    · refine Ev.step (f:=fun k=>if m=true then ((spec_l1In.f b 0 8).bind fun t188=>(if t188=true then ((spec_l1In.f a 0 b).bind fun t189=>(if t189=true then (spec_GoodShape.j3 k false fs gs m a b c) else (spec_GoodShape.j3 k true fs gs m a b c))) else (spec_GoodShape.j3 k true fs gs m a b c))) else (if a=0 then (spec_GoodShape.j3 k (b !=0) fs gs m a b c) else (spec_GoodShape.j3 k true fs gs m a b c))) (fun k=>?_) ?_
      · rw[spec_GoodShape.l1,if_neg (by omega)]
      · refine Ev.step (f:=fun _=>some (if memB m a b=true then stB fs c else false)) (fun k=>?_) (Ev.now _)
        unfold memB
        rw[j3S fs hl gs m a b c true k,j3S fs hl gs m a b c false k,j3S fs hl gs m a b c (b !=0) k,in_ok,in_ok,Option.bind_some,Option.bind_some]
        cases m with
        |true=>
          by_cases cc:0≤a∧a≤b∧b≤8
          · have c1:0≤b∧b≤8:=by omega
            have c2:0≤a∧a≤b:=by omega
            simp only[eq_self,if_true,decide_eq_true c1,decide_eq_true c2,decide_eq_true cc,Bool.false_eq_true,if_false]
          · simp only[eq_self,decide_eq_false cc,if_true,Bool.false_eq_true,if_false]
            by_cases c1:0≤b∧b≤8
            · have c2:¬(0≤a∧a≤b):=by omega
              simp only[decide_eq_true c1,decide_eq_false c2,Bool.false_eq_true,if_true,if_false]
            · simp only[decide_eq_false c1,Bool.false_eq_true,if_false]
        |false=>
          by_cases c1:a=0
          · by_cases c2:b=0
            · simp[c1,c2]
            · simp[c1,c2]
          · simp[c1]
  |succ d ih=>
    intro j hj
    have hlt:j<gs.length:=by omega
    have er:rd_T75 gs (j:Int)=gs[j]:=by
      unfold rd_T75
      rw[Int.toNat_natCast,List.getD_eq_getElem?_getD,List.getElem?_eq_getElem hlt]
      rfl
    have e1:wrap64 ((j:Int)+1)=((j+1:Nat):Int):=w64 (by omega) (by omega)
    obtain⟨r,h1,h2,h3⟩:=ih (j+1) (by omega)
    have hI:∀ k,impl_GoodShape.l1 (k+1) gs (gs.length:Int) (j:Int) fs gs m a b c=(if (125≤gs[j].f0∧gs[j].f0≤127)∧(gs[j].f0=126∨gs[j].f2<4294967296) then impl_GoodShape.l1 k gs (gs.length:Int) ((j+1:Nat):Int) fs gs m a b c else some false):=by
      intro k
      rw[impl_GoodShape.l1,if_pos (by omega),if_pos (by omega),if_pos (by omega),er,e1]
      unfold impl_goodGlobal.f
      rw[good_type,Option.bind_some]
      by_cases c1:125≤gs[j].f0∧gs[j].f0≤127
      · rw[if_pos (decide_eq_true c1)]
        by_cases c2:gs[j].f0=126
        · rw[if_pos c2,Option.bind_some,if_pos rfl,if_pos ⟨c1,.inl c2⟩]
        · rw[if_neg c2,Option.bind_some]
          by_cases c3:gs[j].f2<4294967296
          · rw[if_pos (decide_eq_true c3),if_pos ⟨c1,.inr c3⟩]
          · rw[if_neg (by rw[decide_eq_false c3];decide),if_neg (fun h=>h.2.elim c2 c3)]
      · rw[if_neg (by rw[decide_eq_false c1];decide),Option.bind_some,if_neg (by decide),if_neg (fun h=>c1 h.1)]
    have hS:∀ k,spec_GoodShape.l1 (k+1) gs (gs.length:Int) (j:Int) fs gs m a b c=(if (125≤gs[j].f0∧gs[j].f0≤127)∧(gs[j].f0=126∨gs[j].f2<4294967296) then spec_GoodShape.l1 k gs (gs.length:Int) ((j+1:Nat):Int) fs gs m a b c else some false):=by
      intro k
      rw[spec_GoodShape.l1,if_pos (by omega),if_pos (by omega),if_pos (by omega),er,e1]
      unfold spec_l6Type.f
      rw[in_ok,Option.bind_some,Option.bind_some]
      by_cases c1:125≤gs[j].f0∧gs[j].f0≤127
      · rw[if_pos (decide_eq_true c1)]
        by_cases c2:gs[j].f0=126
        · rw[if_pos c2,if_pos ⟨c1,.inl c2⟩]
        · rw[if_neg c2]
          by_cases c3:gs[j].f2<4294967296
          · rw[if_neg (by omega),if_pos ⟨c1,.inr c3⟩]
          · rw[if_pos (by omega),if_neg (fun h=>h.2.elim c2 c3)]
      · rw[if_neg (by rw[decide_eq_false c1];decide),if_neg (fun h=>c1 h.1)]
    by_cases cc:(125≤gs[j].f0∧gs[j].f0≤127)∧(gs[j].f0=126∨gs[j].f2<4294967296)
    · refine⟨r,Ev.step (fun k=>by rw[hI k,if_pos cc]) h1,Ev.step (fun k=>by rw[hS k,if_pos cc]) h2,fun hr g hx=>?_⟩
      rw[List.drop_eq_getElem_cons hlt] at hx
      rcases List.mem_cons.1 hx with hx|hx
      · rw[hx];exact cc.1
      · exact h3 hr g hx
    · exact⟨false,Ev.step (f:=fun _=>some false) (fun k=>by rw[hI k,if_neg cc]) (Ev.now _),Ev.step (f:=fun _=>some false) (fun k=>by rw[hS k,if_neg cc]) (Ev.now _),fun h=>absurd h (by decide)⟩
theorem l0_same (fs:List S88) (gs:List S75) (m:Bool) (a b c:Int) (hl:fs.length≤2000000) (hg:gs.length≤2000000) (hf:∀ f∈fs,f.f0.length≤2000000∧f.f2.length≤2000000∧f.f3.length≤2000000) (d:Nat):∀ j:Nat,j+d=fs.length→
    ∃ r,Ev (fun k=>impl_GoodShape.l0 k fs (fs.length:Int) (j:Int) fs gs m a b c) r∧Ev (fun k=>spec_GoodShape.l0 k fs (fs.length:Int) (j:Int) fs gs m a b c) r∧(r=true→(∀ f∈fs.drop j,FOk f)∧∀ g∈gs,Ty g.f0):=by
  induction d with
  |zero=>
    intro j hj
    obtain⟨r,h1,h2,h3⟩:=l1_same fs gs m a b c hl hg gs.length 0 (by omega)
    rw[List.drop_zero] at h3
    refine⟨r,Ev.step (fun k=>?_) h1,Ev.step (fun k=>?_) h2,fun hr=>⟨fun f hx=>(by rw[List.drop_of_length_le (by omega)] at hx;cases hx),h3 hr⟩⟩
    · rw[impl_GoodShape.l0,if_neg (by omega)];rfl
    · rw[spec_GoodShape.l0,if_neg (by omega)];rfl
  |succ d ih=>
    intro j hj
    have hlt:j<fs.length:=by omega
    have er:rd_T88 fs (j:Int)=fs[j]:=by
      unfold rd_T88
      rw[Int.toNat_natCast,List.getD_eq_getElem?_getD,List.getElem?_eq_getElem hlt]
      rfl
    have e1:wrap64 ((j:Int)+1)=((j+1:Nat):Int):=w64 (by omega) (by omega)
    obtain⟨r,h1,h2,h3⟩:=ih (j+1) (by omega)
    obtain⟨q1,q2,q3⟩:=hf _ (List.getElem_mem hlt)
    obtain⟨bb,g1,g2,g3⟩:=func_good fs[j] q1 q2 q3
    have hI:∀ k,impl_GoodShape.l0 (k+1) fs (fs.length:Int) (j:Int) fs gs m a b c=((impl_goodFunc.f k fs[j].f0 fs[j].f1 fs[j].f2 fs[j].f3).bind fun t=>if t=true then impl_GoodShape.l0 k fs (fs.length:Int) ((j+1:Nat):Int) fs gs m a b c else some false):=by
      intro k
      rw[impl_GoodShape.l0,if_pos (by omega),if_pos (by omega),if_pos (by omega),er,e1]
    have hS:∀ k,spec_GoodShape.l0 (k+1) fs (fs.length:Int) (j:Int) fs gs m a b c=((spec_l7Func.f k fs[j].f0 fs[j].f1 fs[j].f2 fs[j].f3).bind fun t=>if t=true then spec_GoodShape.l0 k fs (fs.length:Int) ((j+1:Nat):Int) fs gs m a b c else some false):=by
      intro k
      rw[spec_GoodShape.l0,if_pos (by omega),if_pos (by omega),if_pos (by omega),er,e1]
    cases bb with
    |true=>
      refine⟨r,Ev.step hI (Ev.bind g1 (Ev.congr (fun k=>if_pos rfl) h1)),Ev.step hS (Ev.bind g2 (Ev.congr (fun k=>if_pos rfl) h2)),fun hr=>⟨fun f hx=>?_,(h3 hr).2⟩⟩
      rw[List.drop_eq_getElem_cons hlt] at hx
      rcases List.mem_cons.1 hx with hx|hx
      · rw[hx];exact g3 rfl
      · exact(h3 hr).1 f hx
    |false=>
      exact⟨false,Ev.step hI (Ev.bind g1 (Ev.congr (fun k=>if_neg (by decide)) (Ev.now _))),Ev.step hS (Ev.bind g2 (Ev.congr (fun k=>if_neg (by decide)) (Ev.now _))),fun h=>absurd h (by decide)⟩
/-- Both say alike whether a module is of good shape. -/
theorem shape_same (fs:List S88) (gs:List S75) (m:Bool) (a b c:Int) (hl:fs.length≤2000000) (hg:gs.length≤2000000) (hf:∀ f∈fs,f.f0.length≤2000000∧f.f2.length≤2000000∧f.f3.length≤2000000):
    ∃ r,Ev (fun k=>impl_GoodShape.f k fs gs m a b c) r∧Ev (fun k=>spec_GoodShape.f k fs gs m a b c) r∧(r=true→(∀ f∈fs,FOk f)∧∀ g∈gs,Ty g.f0):=by
  obtain⟨r,h1,h2,h3⟩:=l0_same fs gs m a b c hl hg hf fs.length 0 (by omega)
  rw[List.drop_zero] at h3
  unfold impl_GoodShape.f spec_GoodShape.f
  have tI:Ev (fun k=>impl_GoodShape.j0 k true fs gs m a b c) false:=Ev.step (f:=fun _=>some false) (fun k=>by rw[impl_GoodShape.j0,if_pos rfl]) (Ev.now _)
  have tS:Ev (fun k=>spec_GoodShape.j0 k true fs gs m a b c) false:=Ev.step (f:=fun _=>some false) (fun k=>by rw[spec_GoodShape.j0,if_pos rfl]) (Ev.now _)
  have no:false=true→(∀ f∈fs,FOk f)∧∀ g∈gs,Ty g.f0:=fun h=>absurd h (by decide)
  by_cases c1:(fs.length:Int) > 10
  · exact⟨false,Ev.congr (fun k=>if_pos c1) tI,Ev.congr (fun k=>if_pos c1) tS,no⟩
  · by_cases c2:(gs.length:Int) > 6
    · exact⟨false,Ev.congr (fun k=>by rw[if_neg c1,decide_eq_true c2]) tI,Ev.congr (fun k=>by rw[if_neg c1,decide_eq_true c2]) tS,no⟩
    · refine⟨r,Ev.congr (f:=fun k=>impl_GoodShape.j0 k false fs gs m a b c) (fun k=>by rw[if_neg c1,decide_eq_false c2]) (Ev.step (fun k=>?_) h1),Ev.congr (f:=fun k=>spec_GoodShape.j0 k false fs gs m a b c) (fun k=>by rw[if_neg c1,decide_eq_false c2]) (Ev.step (fun k=>?_) h2),h3⟩
      · rw[impl_GoodShape.j0,if_neg (by decide)];rfl
      · rw[spec_GoodShape.j0,if_neg (by decide)];rfl
end Go.Proofs.Ytanhbfhmgmjdgaa.Ck
