/- The other instructions, and whole bodies: both checkers tell the same. -/
import Derived.Test.YtanhbfhmgmjdgaaCu
import Derived.Test.YtanhbfhmgmjdgaaQx23
import Derived.Test.YtanhbfhmgmjdgaaQx11
namespace Go.Proofs.Ytanhbfhmgmjdgaa.Ck
open Go.RowKit Go.Proofs.Ytanhbfhmgmjdgaa.Q Go.Proofs.YtanhbfhmgmjdgaaW.PrintWords Go.Proofs.YtanhbfhmgmjdgaaW.PrintLast Go.Proofs.YtanhbfhmgmjdgaaW.PrintMore Go.Proofs.Ytanhbfhmgmjdgaa.Mb Go.Proofs.Ytanhbfhmgmjdgaa.Ins
set_option linter.unusedSimpArgs false
set_option linter.unusedVariables false
theorem gi2 {a:Int} (h:gi 2 a=true):a=64∨Ty a:=by
  unfold gi at h
  rw[if_neg (by decide),if_pos rfl,Bool.or_eq_true] at h
  rcases h with h|h
  · exact .inr (of_decide_eq_true (p:=125≤a∧a≤127) h)
  · exact .inl (beq_iff_eq.1 h)
theorem gi3 {a:Int} (h:gi 3 a=true):0≤a∧a≤1000:=by
  unfold gi at h
  rw[if_neg (by decide),if_neg (by decide),if_pos rfl] at h
  exact of_decide_eq_true (p:=0≤a∧a≤1000) h
theorem ty127:Ty 127:=⟨by decide,by decide⟩
/-- What a block's own check tells of a step. -/
theorem step_block {c c':CS S101} {k:Nat} {fs:List S88} {gs:List S75} {mem:Bool} {f:S88} {x:S103} (h:blockC c f.f1 x=some (c',true)):stepC k c fs gs mem f x=some c':=by
  unfold stepC;rw[h,Option.bind_some,if_pos rfl]
theorem step_place {c c':CS S101} {k:Nat} {fs:List S88} {gs:List S75} {mem:Bool} {f:S88} {x:S103} (hb:blockC c f.f1 x=some (c,false)) (h:placeC c fs gs f x=some (c',true)):stepC k c fs gs mem f x=some c':=by
  unfold stepC;rw[hb,Option.bind_some,if_neg (show ¬(c,false).2=true from Bool.false_ne_true),h,Option.bind_some,if_pos rfl]
theorem loc_same (f:S88) (a:Int) (h0:0≤a) (hl:f.f0.length≤6) (hl2:f.f2.length≤20):(a<(([]++f.f0++f.f2:List Int).length:Int)→localF f a=some (rd ([]++f.f0++f.f2) a,true))∧(¬a<(([]++f.f0++f.f2:List Int).length:Int)→localF f a=some (0,false)):=by
  have e:([]++f.f0++f.f2:List Int).length=f.f0.length+f.f2.length:=by rw[List.nil_append,List.length_append]
  rw[e]
  unfold localF
  rw[if_pos ⟨by omega,h0⟩]
  obtain⟨n,rfl⟩:=Int.eq_ofNat_of_zero_le h0
  constructor
  · intro h
    by_cases c:(n:Int)<(f.f0.length:Int)
    · rw[if_pos c]
      unfold rd
      rw[List.nil_append,Int.toNat_natCast,List.getD_eq_getElem?_getD,List.getD_eq_getElem?_getD,List.getElem?_append_left (by omega)]
    · rw[if_neg c,if_pos (by omega)]
      unfold rd
      rw[List.nil_append,Int.toNat_natCast,show ((n:Int) - (f.f0.length:Int)).toNat=n - f.f0.length by omega,List.getD_eq_getElem?_getD,List.getD_eq_getElem?_getD,List.getElem?_append_right (by omega)]
  · intro h
    rw[if_neg (by omega),if_neg (by omega)]
theorem step_spec {m n:Nat} {c:CS S101} {d:CS S131} (h:R (m+1) n c d) (fs:List S88) (gs:List S75) (mem:Bool) (f:S88) (he:Env fs gs f) {op a:Int} (hg:gi (fo op) a=true) (hs:special op=true) (hn:n<17592186044416) (hm:m<1000000) (k:Nat):
    ∃ c' d',stepC k c fs gs mem f ⟨op,a⟩=some c'∧insS d fs gs mem f.f1 ([]++f.f0++f.f2) ⟨op,a⟩=some d'∧R (nxt op m) (n+1) c' d':=by
  have hops:op=0∨op=2∨op=3∨op=4∨op=5∨op=11∨op=12∨op=13∨op=15∨op=16∨op=26∨op=27∨op=32∨op=33∨op=34∨op=35∨op=36:=by
    unfold special at hs
    simp only[Bool.or_eq_true,beq_iff_eq] at hs
    exact hs
  have r127:rho 127=127:=rfl
  have hT:0≤a→a<(([]++f.f0++f.f2:List Int).length:Int)→Ty (rd ([]++f.f0++f.f2) a):=fun h0 h1=>by
    have:=rd_mem h0 h1
    rw[List.nil_append] at this ⊢
    rcases List.mem_append.1 this with h|h
    · exact he.f0 _ h
    · exact he.f2 _ h
  have hL:=fun h0=>loc_same f a h0 he.l0 he.l2
  generalize ([]++f.f0++f.f2:List Int)=sl at*
  rcases hops with e|e|e|e|e|e|e|e|e|e|e|e|e|e|e|e|e<;>subst e
  · -- unreachable
    obtain⟨c1,d1,h1,h2,h3⟩:=die_R h
    exact⟨c1,d1,step_block (by simp[blockC,h1]),by simp[insS,h2],h3.up⟩
  · obtain⟨c1,d1,h1,h2,h3⟩:=push_R h 2 a (by omega) (gi2 hg)
    exact⟨c1,d1,step_block (by simp[blockC,h1]),by simp[insS,h2],h3.up⟩
  · obtain⟨c1,d1,h1,h2,h3⟩:=push_R h 3 a (by omega) (gi2 hg)
    exact⟨c1,d1,step_block (by simp[blockC,h1]),by simp[insS,h2],h3.up⟩
  · obtain⟨c1,t,d1,u,h1,h2,h3,_⟩:=take_R h 127 127 (fun _=>⟨.inr ty127,r127.symm⟩)
    obtain⟨c2,d2,h4,h5,h6⟩:=push_R h3 4 a (by omega) (gi2 hg)
    exact⟨c2,d2,step_block (by simp[blockC,h1,h4]),by simp[insS,h2,h5],h6.up⟩
  · obtain⟨c1,d1,h1,h2,h3⟩:=close_R h
    obtain⟨c2,d2,h4,h5,h6⟩:=else_R h3
    exact⟨c2,d2,step_block (by simp[blockC,h1,h4]),by simp[insS,h2,h5],h6.up⟩
  · obtain⟨c1,d1,h1,h2,h3⟩:=close_R h
    obtain⟨c2,d2,h4,h5,h6⟩:=end_R h3 hn
    exact⟨c2,d2,step_block (by simp[blockC,h1,h4]),by simp[insS,h2,h5],h6⟩
  · have ha:=gi3 hg
    obtain⟨c1,t,d1,u,h1,h2,h3,h3a⟩:=wants_R h a ha.1
    obtain⟨c2,d2,v,h4,h5,h6,_,_,h6a⟩:=takeK_R h3 t u (fun h0=>⟨(h3a h0).2.1,(h3a h0).2.2⟩)
    obtain⟨c3,d3,h7,h8,h9⟩:=die_R h6
    exact⟨c3,d3,step_block (by simp[blockC,h1,h4,h7]),by simp[insS,h2,h5,h8],h9.up⟩
  · have ha:=gi3 hg
    obtain⟨c1,t,d1,u,h1,h2,h3,h3a⟩:=wants_R h a ha.1
    obtain⟨c2,t2,d2,u2,h4,h5,h6,_,_,h6a⟩:=take_R h3 127 127 (fun _=>⟨.inr ty127,r127.symm⟩)
    obtain⟨c3,d3,v,h7,h8,h9,_,_,h9a⟩:=takeK_R h6 t u (fun h0=>⟨(h3a (h6a h0).1).2.1,(h3a (h6a h0).1).2.2⟩)
    obtain⟨c4,d4,h10,h11,h12⟩:=put_R h9 t u hn (fun h0=>by
      obtain⟨_,q,rfl⟩:=h3a (h6a (h9a h0)).1
      rcases q with q|q
      · exact .inl ⟨q,q⟩
      · exact .inr ⟨.inr q,(rho_ty q).symm⟩)
    exact⟨c4,d4,step_block (by simp[blockC,h1,h4,h7,h10]),by simp[insS,h2,h5,h8,h11],h12⟩
  · obtain⟨c2,d2,v,h4,h5,h6,_,_,h6a⟩:=takeK_R h f.f1 f.f1 (fun _=>⟨he.f1,rfl⟩)
    obtain⟨c3,d3,h7,h8,h9⟩:=die_R h6
    exact⟨c3,d3,step_block (by simp[blockC,h4,h7]),by simp[insS,h5,h8],h9.up⟩
  · have ha:=gi3 hg
    have hb:blockC c f.f1 ⟨16,a⟩=some (c,false):=by simp[blockC]
    by_cases cf:(fs.length:Int)≤a
    · have hB:=fail_R h 5 (by decide)
      exact⟨_,_,step_place hb (by simp[placeC,cf]),by simp[insS,otherS,cf],.inr (R.up (.inr hB) |>.resolve_left (fun g=>hB.ne g.f1))⟩
    · obtain⟨j,rfl⟩:=Int.eq_ofNat_of_zero_le ha.1
      obtain⟨q1,q2,q3⟩:=he.p _ (rd59 fs j (by omega))
      obtain⟨c1,d1,h1,h2,h3⟩:=rev_R _ q1 (rd_T88 fs (j:Int)).f0.length c d (Nat.le_refl _) h
      obtain⟨c2,d2,h4,h5,h6⟩:=put_R h3 (rd_T88 fs (j:Int)).f1 (rd_T88 fs (j:Int)).f1 hn (fun _=>by
        rcases q2 with q|q
        · exact .inl ⟨q,q⟩
        · exact .inr ⟨.inr q,(rho_ty q).symm⟩)
      exact⟨c2,d2,step_place hb (by simp[placeC,cf,h1,h4]),by simp[insS,otherS,cf,h2,h5],h6⟩
  · -- drop
    obtain⟨c1,t,d1,u,h1,h2,h3,_⟩:=take_R h 0 1 (fun _=>⟨.inl rfl,rfl⟩)
    exact⟨c1,d1,by simp[stepC,blockC,placeC,h1],by simp[insS,h2],h3.up⟩
  · -- select
    obtain⟨c1,t1,d1,u1,h1,h2,h3,h3a⟩:=take_R h 127 127 (fun _=>⟨.inr ty127,r127.symm⟩)
    obtain⟨c2,t2,d2,u2,h4,h5,h6,_,_,h6a⟩:=take_R h3 0 1 (fun _=>⟨.inl rfl,rfl⟩)
    have hu2:c2.fa=0→(t2=0∨Ty t2)∧u2=rho t2:=fun h0=>by
      obtain⟨_,q,e⟩:=h6a h0
      exact⟨q,e⟩
    obtain⟨c3,t3,d3,u3,h7,h8,h9,_,_,h9a⟩:=take_R h6 t2 u2 hu2
    obtain⟨c4,d4,h10,h11,h12⟩:=put_R h9 (if t3=0 then t2 else t3) u3 hn (fun h0=>by
      obtain⟨e0,q,e⟩:=h9a h0
      obtain⟨q2,e2⟩:=hu2 e0
      refine .inr ?_
      rw[e,e2]
      by_cases c0:t3=0
      · rw[if_pos c0,if_pos c0];exact⟨q2,rfl⟩
      · rw[if_neg c0,if_neg c0];exact⟨q,(if_neg c0).symm⟩)
    refine⟨c4,d4,?_,by simp[insS,h2,h5,h8,h11],h12⟩
    have e:stepC k c fs gs mem f ⟨27,a⟩=(if t3=0 then c3.put t2 else c3.put t3):=by simp[stepC,blockC,placeC,h1,h4,h7]
    rw[e,←h10]
    split<;>rfl
  · have ha:=gi3 hg
    have hb:blockC c f.f1 ⟨32,a⟩=some (c,false):=by simp[blockC]
    obtain⟨l1,l2⟩:=hL ha.1
    by_cases cf:a<(sl.length:Int)
    · have ht:=hT ha.1 cf
      have cn:¬(sl.length:Int)≤a:=by omega
      have a0:=ha.1
      obtain⟨c2,d2,h4,h5,h6⟩:=put_R h _ _ hn (fun _=>.inr ⟨.inr ht,(rho_ty ht).symm⟩)
      exact⟨c2,d2,step_place hb (by simp[placeC,l1 cf,h4]),by simp[insS,otherS,cn,a0,h5],h6⟩
    · have hB:=fail_R h 5 (by decide)
      have cn:(sl.length:Int)≤a:=by omega
      exact⟨_,_,step_place hb (by simp[placeC,l2 cf]),by simp[insS,otherS,cn],.inr (R.up (.inr hB) |>.resolve_left (fun g=>hB.ne g.f1))⟩
  · have ha:=gi3 hg
    have hb:blockC c f.f1 ⟨33,a⟩=some (c,false):=by simp[blockC]
    obtain⟨l1,l2⟩:=hL ha.1
    by_cases cf:a<(sl.length:Int)
    · have ht:=hT ha.1 cf
      have cn:¬(sl.length:Int)≤a:=by omega
      have a0:=ha.1
      obtain⟨c2,t2,d2,u2,h4,h5,h6,_⟩:=take_R h _ _ (fun _=>⟨.inr ht,(rho_ty ht).symm⟩)
      exact⟨c2,d2,step_place hb (by simp[placeC,l1 cf,h4]),by simp[insS,otherS,cn,a0,h5],h6.up⟩
    · have hB:=fail_R h 5 (by decide)
      have cn:(sl.length:Int)≤a:=by omega
      exact⟨_,_,step_place hb (by simp[placeC,l2 cf]),by simp[insS,otherS,cn],.inr (R.up (.inr hB) |>.resolve_left (fun g=>hB.ne g.f1))⟩
  · have ha:=gi3 hg
    have hb:blockC c f.f1 ⟨34,a⟩=some (c,false):=by simp[blockC]
    obtain⟨l1,l2⟩:=hL ha.1
    by_cases cf:a<(sl.length:Int)
    · have ht:=hT ha.1 cf
      have cn:¬(sl.length:Int)≤a:=by omega
      have a0:=ha.1
      obtain⟨c2,t2,d2,u2,h4,h5,h6,_⟩:=take_R h _ _ (fun _=>⟨.inr ht,(rho_ty ht).symm⟩)
      obtain⟨c3,d3,h7,h8,h9⟩:=put_R h6 _ _ hn (fun _=>.inr ⟨.inr ht,(rho_ty ht).symm⟩)
      exact⟨c3,d3,step_place hb (by simp[placeC,l1 cf,h4,h7]),by simp[insS,otherS,cn,a0,h5,h8],h9⟩
    · have hB:=fail_R h 5 (by decide)
      have cn:(sl.length:Int)≤a:=by omega
      exact⟨_,_,step_place hb (by simp[placeC,l2 cf]),by simp[insS,otherS,cn],.inr (R.up (.inr hB) |>.resolve_left (fun g=>hB.ne g.f1))⟩
  · have ha:=gi3 hg
    have hb:blockC c f.f1 ⟨35,a⟩=some (c,false):=by simp[blockC]
    by_cases cf:(gs.length:Int)≤a
    · have hB:=fail_R h 5 (by decide)
      exact⟨_,_,step_place hb (by simp[placeC,cf]),by simp[insS,otherS,cf],.inr (R.up (.inr hB) |>.resolve_left (fun g=>hB.ne g.f1))⟩
    · obtain⟨j,rfl⟩:=Int.eq_ofNat_of_zero_le ha.1
      have ht:=he.g _ (rd63 gs j (by omega))
      obtain⟨c2,d2,h4,h5,h6⟩:=put_R h _ _ hn (fun _=>.inr ⟨.inr ht,(rho_ty ht).symm⟩)
      exact⟨c2,d2,step_place hb (by simp[placeC,cf,h4]),by simp[insS,otherS,cf,h5],h6⟩
  · have ha:=gi3 hg
    have hb:blockC c f.f1 ⟨36,a⟩=some (c,false):=by simp[blockC]
    by_cases cf:(gs.length:Int)≤a
    · have hB:=fail_R h 5 (by decide)
      exact⟨_,_,step_place hb (by simp[placeC,cf]),by simp[insS,otherS,cf],.inr (R.up (.inr hB) |>.resolve_left (fun g=>hB.ne g.f1))⟩
    · obtain⟨j,rfl⟩:=Int.eq_ofNat_of_zero_le ha.1
      have ht:=he.g _ (rd63 gs j (by omega))
      have h2:R (m+1) n (if (rd_T75 gs (j:Int)).f1=true then c.fail 7 else c) (if (rd_T75 gs (j:Int)).f1=true then d.fail 7 else d):=by
        split
        · exact .inr (fail_R h 7 (by decide))
        · exact h
      obtain⟨c2,t2,d2,u2,h4,h5,h6,_⟩:=take_R h2 _ _ (fun _=>⟨.inr ht,(rho_ty ht).symm⟩)
      exact⟨c2,d2,step_place hb (by simp[placeC,cf,h4]),by simp[insS,otherS,cf,h5],h6.up⟩
theorem step_R {m n:Nat} {c:CS S101} {d:CS S131} (h:R (m+1) n c d) (fs:List S88) (gs:List S75) (mem:Bool) (f:S88) (he:Env fs gs f) (x:S103) (hg:gi (fo x.f0) x.f1=true) (hn:n<17592186044416) (hm:m<1000000) {k:Nat} (hk:12≤k):
    ∃ c' d',stepC k c fs gs mem f x=some c'∧insS d fs gs mem f.f1 ([]++f.f0++f.f2) x=some d'∧R (nxt x.f0 m) (n+1) c' d':=by
  obtain⟨op,a⟩:=x
  cases hs:special op with
  |true=>exact step_spec h fs gs mem f he hg hs hn hm k
  |false=>exact step_row h fs gs mem f _ hg hs hn hk
/-- Blocks nest well in what is left of a body, of which some are open. -/
def Nest:Nat→List S103→Prop
  |m,[]=>m=0
  |0,_ ::_=>False
  |m+1,x ::xs=>Nest (nxt x.f0 m) xs
theorem run_same (fs:List S88) (gs:List S75) (mem:Bool) (f:S88) (he:Env fs gs f) (hb:f.f3.all (fun x=>gi (fo x.f0) x.f1)=true) (hl:f.f3.length≤200) {k:Nat} (hk:12≤k):
    ∀ (n i m:Nat) (c:CS S101) (d:CS S131),i+n=f.f3.length→m≤i+1→Gd m i c d→Nest m (f.f3.drop i)→∃ r,runC k fs gs mem f n i c=some r∧runS fs gs mem f n i d=some r
  |0,i,m,c,d,hi,hm,g,hx=>⟨(0,0,c.hi),rfl,by rw[runS,g.hi]⟩
  |n+1,i,m,c,d,hi,hm,g,hx=>by
    have hlt:i<f.f3.length:=by omega
    have e:rd_T103 f.f3 (i:Int)=f.f3[i]:=by
      unfold rd_T103
      rw[Int.toNat_natCast,List.getD_eq_getElem?_getD,List.getElem?_eq_getElem hlt]
      rfl
    rw[List.drop_eq_getElem_cons hlt] at hx
    cases m with
    |zero=>exact hx.elim
    |succ m=>
      have hgi:gi (fo f.f3[i].f0) f.f3[i].f1=true:=(List.all_eq_true.1 hb) f.f3[i] (List.getElem_mem hlt)
      obtain⟨c',d',h1,h2,h3⟩:=step_R (.inl g) fs gs mem f he f.f3[i] hgi (by omega) (by omega) hk
      rw[runC,runS,e,h1,h2,Option.bind_some,Option.bind_some]
      by_cases c0:c'.fa=0
      · have g':=h3.good c0
        have hm':nxt f.f3[i].f0 m≤i+1+1:=by unfold nxt;split<;>(try split)<;>omega
        rw[if_pos c0,if_pos g'.f2]
        exact run_same fs gs mem f he hb hl hk n (i+1) (nxt f.f3[i].f0 m) c' d' (by omega) hm' g' hx
      · rw[if_neg c0,if_neg (by rw[←h3.fa];exact c0),h3.fa]
        exact⟨_,rfl,rfl⟩
/-- Checked alike. -/
theorem check_same (fs:List S88) (gs:List S75) (mem:Bool) (j:Nat) (hj:j<fs.length) (he:Env fs gs (rd_T88 fs (j:Int))) (hb:(rd_T88 fs (j:Int)).f3.all (fun x=>gi (fo x.f0) x.f1)=true) (hl:(rd_T88 fs (j:Int)).f3.length≤200) (hx:Nest 1 (rd_T88 fs (j:Int)).f3) {k:Nat} (hk:12≤k):
    ∃ r,checkC k fs gs mem (j:Int)=some r∧checkS fs gs mem (j:Int)=some r:=by
  unfold checkC checkS
  have h0:0≤(j:Int)∧(j:Int)<(fs.length:Int):=by omega
  have h1:=he.l0
  have h2:=he.l2
  rw[if_pos h0,if_pos h0,if_pos (by omega)]
  unfold pushS
  rw[if_pos (by decide),Option.bind_some]
  refine run_same fs gs mem _ he hb hl hk _ 0 1 _ _ (by omega) (by omega) ?_ hx
  refine⟨rfl,rfl,rfl,fun t ht=>(by cases ht),rfl,rfl,Nat.le_refl _,rfl,fun b hb=>?_,?_⟩
  · have hb:b∈[(⟨2,(rd_T88 fs (j:Int)).f1,0,false,false⟩:S101)]:=hb
    rw[List.mem_singleton] at hb
    rw[hb]
    exact⟨Int.le_refl _,Int.le_refl _,he.f1⟩
  · exact List.pairwise_singleton _ _
end Go.Proofs.Ytanhbfhmgmjdgaa.Ck
