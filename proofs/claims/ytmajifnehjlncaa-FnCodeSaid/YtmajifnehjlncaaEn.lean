/- What the reference's walk over a body writes: each instruction's end, as told from behind. -/
import Derived.Test.YtmajifnehjlncaaCf
namespace Go.Proofs.Ytmajifnehjlncaa.Ins
open Go.RowKit Go.Proofs.Ytmajifnehjlncaa.Q Go.Proofs.YtmajifnehjlncaaW.PrintWords Go.Proofs.YtmajifnehjlncaaW.PrintLast Go.Proofs.YtmajifnehjlncaaW.PrintMore Go.Proofs.Ytmajifnehjlncaa.Mb
set_option linter.unusedSimpArgs false
set_option linter.unusedVariables false
/-- The ends of the blocks that are open at an instruction, innermost first, told from behind. -/
def bkS:Nat→List S37→List Int
  |_,[]=>[]
  |i,x ::xs=>if isO x.f0=true then (if x.f0=11 then (i:Int) ::bkS (i+1) xs else bkS (i+1) xs).tail else (if x.f0=11 then (i:Int) ::bkS (i+1) xs else bkS (i+1) xs)
/-- The end of each instruction, told from behind. -/
def bkO:Nat→List S37→List Int
  |_,[]=>[]
  |i,x ::xs=>(if x.f0=11 then (i:Int) else (bkS (i+1) xs).headD 0) ::bkO (i+1) xs
/-- How many blocks are open behind an instruction; blocks nest well in what is left of a body. -/
def nxtL (op:Int) (m:Nat):Nat:=if op=2∨op=3∨op=4 then m+2 else if op=11 then m else m+1
def NestL:Nat→List S37→Prop
  |m,[]=>m=0
  |0,_ ::_=>False
  |m+1,x ::xs=>NestL (nxtL x.f0 m) xs
theorem bkO_len:∀ (i:Nat) (l:List S37),(bkO i l).length=l.length
  |_,[]=>rfl
  |i,x ::xs=>by rw[bkO,List.length_cons,List.length_cons,bkO_len (i+1) xs]
/-- Blocks' lists have nothing in common, and all in them stands ahead. -/
structure Ds (j:Nat) (ins:List (List Int)):Prop where
  lt:∀ x∈ins,∀ y∈x,0≤y∧y<(j:Int)
  pw:ins.Pairwise (fun a b=>∀ y∈a,y∉b)
theorem Ds.push {j:Nat} {ins:List (List Int)} (h:Ds j ins):Ds (j+1) (ins++[[(j:Int)]]):=by
  refine⟨fun x hx y hy=>?_,?_⟩
  · rcases List.mem_append.1 hx with hx|hx
    · have:=h.lt x hx y hy;omega
    · rw[List.mem_singleton] at hx;rw[hx,List.mem_singleton] at hy;omega
  · rw[List.pairwise_append]
    refine⟨h.pw,by simp,fun a ha b hb y hy=>?_⟩
    rw[List.mem_singleton] at hb
    rw[hb,List.mem_singleton]
    have:=h.lt a ha y hy;omega
theorem split_top (ins:List (List Int)) (t:Nat) (ht:ins.length=t+1):∃ pre top,ins=pre++[top]∧pre.length=t∧rd_L3 ins (t:Int)=top∧(∀ v,ins.set t v=pre++[v])∧(∀ v,(ins.set t v).take t=pre):=by
  have hne:ins≠[]:=by intro e;rw[e] at ht;cases ht
  have hs:ins=ins.dropLast++[ins.getLast hne]:=(List.dropLast_concat_getLast hne).symm
  have hl:ins.dropLast.length=t:=by rw[List.length_dropLast,ht];rfl
  refine⟨ins.dropLast,ins.getLast hne,hs,hl,?_,fun v=>?_,fun v=>?_⟩
  · rw[rdL2 ins t (by omega),List.getLast_eq_getElem]
    congr 1;omega
  · conv=>lhs;rw[hs]
    rw[List.set_append_right _ _ (by omega),hl,Nat.sub_self];rfl
  · have e:ins.set t v=ins.dropLast++[v]:=by
      conv=>lhs;rw[hs]
      rw[List.set_append_right _ _ (by omega),hl,Nat.sub_self];rfl
    rw[e,←hl,List.take_left]
theorem Ds.add {j:Nat} {ins:List (List Int)} (h:Ds j ins) (t:Nat) (ht:ins.length=t+1):Ds (j+1) (ins.set t (rd_L3 ins (t:Int)++[(j:Int)])):=by
  obtain⟨pre,top,e,hl,h1,h2,_⟩:=split_top ins t ht
  rw[h2,h1]
  have hp:=h.pw
  rw[e,List.pairwise_append] at hp
  refine⟨fun x hx y hy=>?_,?_⟩
  · rcases List.mem_append.1 hx with hx|hx
    · have:=h.lt x (by rw[e];simp[hx]) y hy;omega
    · rw[List.mem_singleton] at hx
      rw[hx] at hy
      rcases List.mem_append.1 hy with hy|hy
      · have:=h.lt top (by rw[e];simp) y hy;omega
      · rw[List.mem_singleton] at hy;omega
  · rw[List.pairwise_append]
    refine⟨hp.1,by simp,fun a ha b hb y hy=>?_⟩
    rw[List.mem_singleton] at hb
    rw[hb]
    intro hc
    rcases List.mem_append.1 hc with hc|hc
    · exact hp.2.2 a ha top (by simp) y hy hc
    · rw[List.mem_singleton] at hc
      have:=h.lt a (by rw[e];simp[ha]) y hy;omega
theorem Ds.close {j:Nat} {ins:List (List Int)} (h:Ds j ins) (t:Nat) (ht:ins.length=t+1):Ds (j+1) ((ins.set t (rd_L3 ins (t:Int)++[(j:Int)])).take t):=by
  have h1:=h.add t ht
  exact⟨fun x hx=>h1.lt x (List.mem_of_mem_take hx),h1.pw.sublist (List.take_sublist _ _)⟩
/-- What is written when the walk is over. -/
structure Fin (l:List S37) (j:Nat) (ins:List (List Int)) (out o2:List Int):Prop where
  c1:(bkS j (l.drop j)).length=ins.length
  c2:o2.length=l.length
  c3:∀ p,j≤p→p<l.length→o2[p]? =(bkO j (l.drop j))[p - j]?
  c4:∀ (q:Nat) (hq:q<ins.length),∀ y∈ins[q],o2[y.toNat]? =(bkS j (l.drop j))[ins.length - 1 - q]?
  c5:∀ p:Nat,p<j→(∀ x∈ins,(p:Int)∉x)→o2[p]? =out[p]?
theorem Fin.nil {l:List S37} {j:Nat} {ins:List (List Int)} {out:List Int} (hj:j=l.length) (hi:ins=[]) (ho:out.length=l.length):Fin l j ins out out:=by
  subst hi
  have e:l.drop j=[]:=List.drop_of_length_le (by omega)
  refine⟨by rw[e];rfl,ho,fun p h1 h2=>by omega,fun q hq=>(by cases hq),fun p _ _=>rfl⟩
theorem Fin.opened {l:List S37} {j:Nat} {ins:List (List Int)} {out o2:List Int} {x:Int} (hlt:j<l.length) (hx:l[j].f0=x) (ho:isO x=true) (hds:Ds j ins) (h:Fin l (j+1) (ins++[[(j:Int)]]) out o2):Fin l j ins out o2:=by
  have h11:¬l[j].f0=11:=by
    intro e
    rw[←hx,e] at ho
    exact absurd ho (by decide)
  have eS:bkS j (l.drop j)=(bkS (j+1) (l.drop (j+1))).tail:=by rw[List.drop_eq_getElem_cons hlt,bkS,hx,if_pos ho,←hx,if_neg h11]
  have eO:bkO j (l.drop j)=(bkS (j+1) (l.drop (j+1))).headD 0 ::bkO (j+1) (l.drop (j+1)):=by rw[List.drop_eq_getElem_cons hlt,bkO,if_neg h11]
  have hc1:=h.c1
  rw[List.length_append,List.length_singleton] at hc1
  refine⟨by rw[eS,List.length_tail,hc1];rfl,h.c2,fun p h1 h2=>?_,fun q hq y hy=>?_,fun p h1 h2=>?_⟩
  · rw[eO]
    by_cases c:p=j
    · subst c
      have h4:=h.c4 ins.length (by rw[List.length_append,List.length_singleton];omega) (p:Int) (by simp)
      rw[Int.toNat_natCast,List.length_append,List.length_singleton,Nat.add_sub_cancel,Nat.sub_self] at h4
      rw[h4,Nat.sub_self,List.getElem?_cons_zero]
      cases hb:bkS (p+1) (l.drop (p+1)) with
      |nil=>rw[hb] at hc1;cases hc1
      |cons a tl=>rfl
    · have h3:=h.c3 p (by omega) h2
      rw[h3,show p - j=(p - (j+1))+1 by omega,List.getElem?_cons_succ]
  · have h4:=h.c4 q (by rw[List.length_append,List.length_singleton];omega) y (by rw[List.getElem_append_left hq];exact hy)
    rw[h4,eS,List.getElem?_tail,List.length_append,List.length_singleton]
    congr 1;omega
  · refine h.c5 p (by omega) (fun a ha=>?_)
    rcases List.mem_append.1 ha with ha|ha
    · exact h2 a ha
    · rw[List.mem_singleton] at ha
      rw[ha,List.mem_singleton];omega
theorem Fin.kept {l:List S37} {j:Nat} {ins:List (List Int)} {out o2:List Int} {x:Int} (hlt:j<l.length) (hx:l[j].f0=x) (ho:isO x=false) (hne:x≠11) (t:Nat) (ht:ins.length=t+1) (h:Fin l (j+1) (ins.set t (rd_L3 ins (t:Int)++[(j:Int)])) out o2):Fin l j ins out o2:=by
  have h11:¬l[j].f0=11:=fun e=>hne (hx.symm.trans e)
  have eS:bkS j (l.drop j)=bkS (j+1) (l.drop (j+1)):=by rw[List.drop_eq_getElem_cons hlt,bkS,hx,if_neg (by rw[ho];decide),←hx,if_neg h11]
  have eO:bkO j (l.drop j)=(bkS (j+1) (l.drop (j+1))).headD 0 ::bkO (j+1) (l.drop (j+1)):=by rw[List.drop_eq_getElem_cons hlt,bkO,if_neg h11]
  obtain⟨pre,top,e,hl,h1,h2,_⟩:=split_top ins t ht
  rw[h2,h1] at h
  have hc1:=h.c1
  rw[List.length_append,List.length_singleton] at hc1
  subst e
  have hln:(pre++[top]).length=pre.length+1:=by rw[List.length_append,List.length_singleton]
  have hln2:(pre++[top++[(j:Int)]]).length=pre.length+1:=by rw[List.length_append,List.length_singleton]
  refine⟨by rw[eS,hc1,hln],h.c2,fun p h1 h2=>?_,fun q hq y hy=>?_,fun p h1 h2=>?_⟩
  · rw[eO]
    by_cases c:p=j
    · subst c
      have h4:=h.c4 pre.length (by omega) (p:Int) (by simp)
      rw[Int.toNat_natCast,hln2,Nat.add_sub_cancel,Nat.sub_self] at h4
      rw[h4,Nat.sub_self,List.getElem?_cons_zero]
      cases hb:bkS (p+1) (l.drop (p+1)) with
      |nil=>rw[hb] at hc1;cases hc1
      |cons a tl=>rfl
    · have h3:=h.c3 p (by omega) h2
      rw[h3,show p - j=(p - (j+1))+1 by omega,List.getElem?_cons_succ]
  · rw[eS,hln]
    by_cases c:q<pre.length
    · have h4:=h.c4 q (by omega) y (by rw[List.getElem_append_left c];rw[List.getElem_append_left c] at hy;exact hy)
      rw[h4,hln2]
    · have h4:=h.c4 q (by omega) y (by
        rw[List.getElem_append_right (by omega)]
        rw[List.getElem_append_right (by omega)] at hy
        simp only[show q - pre.length=0 by omega,List.getElem_cons_zero] at hy ⊢
        exact List.mem_append_left _ hy)
      rw[h4,hln2]
  · refine h.c5 p (by omega) (fun a ha=>?_)
    rcases List.mem_append.1 ha with ha|ha
    · exact h2 a (by simp[ha])
    · rw[List.mem_singleton] at ha
      rw[ha]
      intro hc
      rcases List.mem_append.1 hc with hc|hc
      · exact h2 top (by simp) hc
      · rw[List.mem_singleton] at hc;omega
theorem fold_get (v:Int):∀ (xs:List Int) (out:List Int) (p:Nat),(∀ y∈xs,0≤y)→((p:Int)∉xs→(xs.foldl (fun o y=>o.set y.toNat v) out)[p]? =out[p]?)∧((p:Int)∈xs→p<out.length→(xs.foldl (fun o y=>o.set y.toNat v) out)[p]? =some v)
  |[],out,p,h0=>⟨fun _=>rfl,fun h=>by cases h⟩
  |x ::xs,out,p,h0=>by
    have ih:=fold_get v xs (out.set x.toNat v) p (fun y hy=>h0 y (List.mem_cons_of_mem _ hy))
    have hx0:=h0 x (List.mem_cons_self ..)
    rw[List.foldl_cons]
    refine⟨fun h=>?_,fun h hp=>?_⟩
    · rw[List.mem_cons,not_or] at h
      rw[ih.1 h.2,List.getElem?_set_ne (by omega)]
    · by_cases c:(p:Int)∈xs
      · exact ih.2 c (by rw[List.length_set];exact hp)
      · have hpx:(p:Int)=x:=(List.mem_cons.1 h).resolve_right c
        rw[ih.1 c,←hpx,Int.toNat_natCast,List.getElem?_set_self hp]
theorem Fin.closed {l:List S37} {j:Nat} {ins:List (List Int)} {out o2:List Int} {x:Int} (hlt:j<l.length) (hx:l[j].f0=x) (ho:isO x=false) (h11:x=11) (t:Nat) (ht:ins.length=t+1) (hds:Ds j ins) (hout:out.length=l.length) (h:Fin l (j+1) ((ins.set t (rd_L3 ins (t:Int)++[(j:Int)])).take t) ((rd_L3 ins (t:Int)++[(j:Int)]).foldl (fun o y=>o.set y.toNat (j:Int)) out) o2):Fin l j ins out o2:=by
  have e11:l[j].f0=11:=hx.trans h11
  have eS:bkS j (l.drop j)=(j:Int) ::bkS (j+1) (l.drop (j+1)):=by rw[List.drop_eq_getElem_cons hlt,bkS,hx,if_neg (by rw[ho];decide),←hx,if_pos e11]
  have eO:bkO j (l.drop j)=(j:Int) ::bkO (j+1) (l.drop (j+1)):=by rw[List.drop_eq_getElem_cons hlt,bkO,if_pos e11]
  obtain⟨pre,top,e,hl,h1,h2,h3⟩:=split_top ins t ht
  rw[h3,h1] at h
  subst e
  have hln:(pre++[top]).length=pre.length+1:=by rw[List.length_append,List.length_singleton]
  have hpos:∀ y∈top++[(j:Int)],0≤y:=fun y hy=>by
    rcases List.mem_append.1 hy with hy|hy
    · exact(hds.lt top (by simp) y hy).1
    · rw[List.mem_singleton] at hy;omega
  have hpre:∀ p:Nat,(p:Int)∈top++[(j:Int)]→∀ a∈pre,(p:Int)∉a:=fun p hp a ha hc=>by
    have hpw:=hds.pw
    rw[List.pairwise_append] at hpw
    rcases List.mem_append.1 hp with hp|hp
    · exact hpw.2.2 a ha top (by simp) _ hc hp
    · rw[List.mem_singleton] at hp
      have:=hds.lt a (by simp[ha]) _ hc;omega
  have key:∀ p:Nat,(p:Int)∈top++[(j:Int)]→p<l.length→p≤j→o2[p]? =some (j:Int):=fun p hp hpl hpj=>by
    rw[h.c5 p (by omega) (hpre p hp)]
    exact(fold_get (j:Int) _ out p hpos).2 hp (by omega)
  refine⟨by rw[eS,List.length_cons,h.c1,hln],h.c2,fun p h1 h2=>?_,fun q hq y hy=>?_,fun p h1 h2=>?_⟩
  · rw[eO]
    by_cases c:p=j
    · subst c
      rw[key p (by simp) h2 (Nat.le_refl _),Nat.sub_self,List.getElem?_cons_zero]
    · have h3:=h.c3 p (by omega) h2
      rw[h3,show p - j=(p - (j+1))+1 by omega,List.getElem?_cons_succ]
  · rw[eS,hln]
    by_cases c:q<pre.length
    · rw[List.getElem_append_left c] at hy
      rw[h.c4 q c y hy,show pre.length+1 - 1 - q=(pre.length - 1 - q)+1 by omega,List.getElem?_cons_succ]
    · rw[List.getElem_append_right (by omega)] at hy
      simp only[show q - pre.length=0 by omega,List.getElem_cons_zero] at hy
      have hb:=hds.lt top (by simp) y hy
      obtain⟨p,rfl⟩:=Int.eq_ofNat_of_zero_le hb.1
      rw[Int.toNat_natCast,key p (List.mem_append_left _ hy) (by omega) (by omega),show pre.length+1 - 1 - q=0 by omega,List.getElem?_cons_zero]
  · rw[h.c5 p (by omega) (fun a ha=>h2 a (by simp[ha]))]
    refine(fold_get (j:Int) _ out p hpos).1 (fun hc=>?_)
    rcases List.mem_append.1 hc with hc|hc
    · exact h2 top (by simp) hc
    · rw[List.mem_singleton] at hc;omega
/-- The same, and what the reference then has written. -/
theorem ends_out (l:List S37) (hl:l.length≤1000) (d:Nat):∀ (j:Nat) (ar:List Int) (mo:Int) (op:List Int) (ins:List (List Int)) (out:List Int),
    j+d=l.length→op.length=ar.length→ins.length=ar.length→out.length=l.length→Ok l.length j ins→ar.length≤j+1→1≤mo→Ds j ins→
    ∃ (m:Int) (o2:List Int) (m2:Int) (b:Bool),Ev (fun k=>impl_deepest.l0 k ar mo l (l.length:Int) (j:Int)) m∧Ev (fun k=>spec_l6Ends.l0 k out mo op (ar.map (fun o=>o !=4)) ins l (l.length:Int) (j:Int)) (o2,m2,b)∧(b=true→m=m2∧1≤m)∧(b=false→m=0)∧(b=true→Fin l j ins out o2):=by
  induction d with
  |zero=>
    intro j ar mo op ins out hj ho hi hout hok har hmo hds
    refine⟨if (ar.length:Int) > 0 then 0 else mo,out,mo,(op.length:Int)==0,?_,?_,?_,?_,?_⟩
    · refine Ev.step (f:=fun _=>some (if (ar.length:Int) > 0 then 0 else mo)) (fun k=>?_) (Ev.now _)
      rw[impl_deepest.l0,if_neg (by omega)]
      split<;>rfl
    · refine Ev.step (f:=fun _=>some (out,mo,(op.length:Int)==0)) (fun k=>?_) (Ev.now _)
      rw[spec_l6Ends.l0,if_neg (by omega)]
    · intro hb
      have:=beq_iff_eq.1 hb
      rw[if_neg (by omega)]
      exact⟨rfl,hmo⟩
    · intro hb
      have:=beq_eq_false_iff_ne.1 hb
      rw[if_pos (by omega)]
    · intro hb
      have:=beq_iff_eq.1 hb
      exact Fin.nil (by omega) (List.length_eq_zero_iff.1 (by omega)) hout
  |succ d ih=>
    intro j ar mo op ins out hj ho hi hout hok har hmo hds
    have hlt:j<l.length:=by omega
    have e1:wrap64 ((j:Int)+1)=((j+1:Nat):Int):=w64 (by omega) (by omega)
    generalize hx:l[j].f0=x
    generalize hx1:l[j].f1=xa
    by_cases h0:ar.length=0
    · refine⟨0,[],0,false,?_,?_,fun h=>absurd h (by decide),fun _=>rfl,fun h=>absurd h (by decide)⟩
      · refine Ev.step (f:=fun _=>some 0) (fun k=>?_) (Ev.now _)
        rw[impl_deepest.l0,if_pos (by omega),if_pos (by omega),if_pos (by omega),if_pos (by omega)]
      · refine Ev.step (f:=fun _=>some ([],0,false)) (fun k=>?_) (Ev.now _)
        rw[spec_l6Ends.l0,if_pos (by omega),if_pos (by omega),if_pos (by omega),w64 (n:=(op.length:Int) - 1) (by omega) (by omega),if_pos (by omega)]
    · obtain⟨t,ht⟩:∃ t,ar.length=t+1:=⟨ar.length - 1,by omega⟩
      have etop:wrap64 ((op.length:Int) - 1)=(t:Int):=by rw[w64 (by omega) (by omega)];omega
      have etopA:wrap64 ((ar.length:Int) - 1)=(t:Int):=by rw[w64 (by omega) (by omega)];omega
      have hl0:∀ k,spec_l6Ends.l0 (k+1) out mo op (ar.map (fun o=>o !=4)) ins l (l.length:Int) (j:Int)=spec_l6Ends.j2 k out mo op (ar.map (fun o=>o !=4)) ins (j:Int) (t:Int) l (l.length:Int) (j:Int) x (isO x) x xa:=by
        intro k
        rw[spec_l6Ends.l0,if_pos (by omega),if_pos (by omega),if_pos (by omega),etop,if_neg (by omega),rdO l j hlt,hx,hx1]
        unfold isO
        by_cases c2:x=2
        · rw[if_pos c2,show (x==2)=true from beq_iff_eq.2 c2];rfl
        · rw[if_neg c2,show (x==2)=false from beq_eq_false_iff_ne.2 c2]
          by_cases c3:x=3
          · rw[if_pos c3,show (x==3)=true from beq_iff_eq.2 c3];rfl
          · rw[if_neg c3,show (x==3)=false from beq_eq_false_iff_ne.2 c3];rfl
      have hel:(ar.map (fun o=>o !=4)).length=t+1:=by rw[List.length_map,ht]
      have hin:(rd_L3 ins (t:Int)).length<17592186044416:=by
        rw[rdL2 ins t (by omega)]
        have:=(hok ins[t] (List.getElem_mem _)).1
        omega
      cases hop:isO x with
      |true=>
        rw[hop] at hl0
        obtain⟨m,o2,m2,b,h1,h2,h3,h4,h5⟩:=ih (j+1) (ar++[x]) (mx mo ((t+2:Nat):Int)) (op++[(j:Int)]) (ins++[[(j:Int)]]) out (by omega) (by simp;omega) (by simp;omega) hout ((hok.mono (Nat.le_succ j)).push j hlt (by omega)) (by simp;omega) (by unfold mx;split<;>omega) (hds.push)
        refine⟨m,o2,m2,b,?_,?_,h3,h4,fun hb=>Fin.opened hlt hx hop hds (h5 hb)⟩
        · refine Ev.step (fun k=>?_) h1
          rw[impl_deepest.l0,if_pos (by omega),if_pos (by omega),if_pos (by omega),if_neg (by omega),rdO l j hlt,hx,opens_ok,hop,Option.bind_some,if_pos rfl,if_pos (by omega),Option.bind_some,e1,List.length_append,List.length_singleton,ht]
        · have e2:(ar++[x]).map (fun o=>o !=4)=ar.map (fun o=>o !=4)++[(x !=4)]:=by rw[List.map_append];rfl
          rw[e2] at h2
          refine Ev.step hl0 (Ev.step (fun k=>?_) h2)
          rw[spec_l6Ends.j2,if_pos rfl,if_pos (by omega)]
          simp only[Option.bind_some]
          rw[if_pos (by rw[hel];omega),if_pos (by omega),e1,List.length_append,List.length_singleton,ho,ht]
          unfold mx
          by_cases c:((t+1+1:Nat):Int) > mo
          · rw[if_pos c,if_pos (show mo<((t+2:Nat):Int) from c)]
          · rw[if_neg c,if_neg (show ¬mo<((t+2:Nat):Int) from c)]
      |false=>
        rw[hop] at hl0
        have hI:∀ k,impl_deepest.l0 (k+1) ar mo l (l.length:Int) (j:Int)=(if x=5 then (if rd ar (t:Int)=4 then (impl_deepest.l0 k (ar.set t 5) mo l (l.length:Int) ((j+1:Nat):Int)) else (some 0)) else (if x=11 then (impl_deepest.l0 k (ar.take t) mo l (l.length:Int) ((j+1:Nat):Int)) else (impl_deepest.l0 k ar mo l (l.length:Int) ((j+1:Nat):Int)))):=by
          intro k
          rw[impl_deepest.l0,if_pos (by omega),if_pos (by omega),if_pos (by omega),if_neg (by omega),rdO l j hlt,hx,opens_ok,hop,Option.bind_some,if_neg (by decide),etopA,e1,Int.toNat_natCast]
          by_cases c5:x=5
          · rw[if_pos c5,if_pos c5,if_pos (by omega),if_pos (by omega)]
          · rw[if_neg c5,if_neg c5]
            by_cases c11:x=11
            · rw[if_pos c11,if_pos c11,if_pos (by omega),if_pos (by omega)]
            · rw[if_neg c11,if_neg c11]
        -- behind the block's own check
        have hj3:∀ (el:List Bool) (ar2:List Int),el=ar2.map (fun o=>o !=4)→ar2.length=ar.length→x≠11→
            ∃ (m:Int) (o2:List Int) (m2:Int) (b:Bool),Ev (fun k=>impl_deepest.l0 k ar2 mo l (l.length:Int) ((j+1:Nat):Int)) m∧Ev (fun k=>spec_l6Ends.j3 k out mo op el ins (j:Int) (t:Int) l (l.length:Int) (j:Int) x xa) (o2,m2,b)∧(b=true→m=m2∧1≤m)∧(b=false→m=0)∧(b=true→Fin l j ins out o2):=by
          intro el ar2 hel2 hlen hne
          obtain⟨m,o2,m2,b,h1,h2,h3,h4,h5⟩:=ih (j+1) ar2 mo op (ins.set t (rd_L3 ins (t:Int)++[(j:Int)])) out (by omega) (by omega) (by rw[List.length_set];omega) hout (hok.add t (by omega) j hlt) (by omega) hmo (hds.add t (by omega))
          refine⟨m,o2,m2,b,h1,?_,h3,h4,fun hb=>Fin.kept hlt hx hop hne t (by omega) (h5 hb)⟩
          rw[←hel2] at h2
          refine Ev.step (fun k=>?_) h2
          rw[spec_l6Ends.j3,if_pos (by omega),if_pos (by omega),if_pos hin]
          simp only[Option.bind_some]
          rw[if_neg hne,Int.toNat_natCast,e1]
        by_cases c5:x=5
        · by_cases c4:rd ar (t:Int)=4
          · have hset:(ar.map (fun o=>o !=4)).set t true=(ar.set t 5).map (fun o=>o !=4):=by rw[List.map_set];rfl
            obtain⟨m,o2,m2,b,h1,h2,h3,h4,h5⟩:=hj3 _ (ar.set t 5) hset (by rw[List.length_set]) (by omega)
            refine⟨m,o2,m2,b,Ev.step (fun k=>by rw[hI k,if_pos c5,if_pos c4]) h1,Ev.step hl0 (Ev.step (fun k=>?_) h2),h3,h4,h5⟩
            rw[spec_l6Ends.j2,if_neg (by decide),if_pos c5,if_pos (by omega),if_pos (by rw[hel];omega),rdB _ t (by omega),Int.toNat_natCast]
            rw[if_neg]
            rw[List.getElem_map,←rdN ar t (by omega),c4]
            decide
          · refine⟨0,[],0,false,Ev.step (f:=fun _=>some 0) (fun k=>by rw[hI k,if_pos c5,if_neg c4]) (Ev.now _),Ev.step hl0 (Ev.step (f:=fun _=>some ([],0,false)) (fun k=>?_) (Ev.now _)),fun h=>absurd h (by decide),fun _=>rfl,fun h=>absurd h (by decide)⟩
            rw[spec_l6Ends.j2,if_neg (by decide),if_pos c5,if_pos (by omega),if_pos (by rw[hel];omega),rdB _ t (by omega)]
            rw[if_pos]
            rw[List.getElem_map,←rdN ar t (by omega)]
            exact bne_iff_ne.2 c4
        · by_cases c11:x=11
          · obtain⟨m,o2,m2,b,h1,h2,h3,h4,h5⟩:=ih (j+1) (ar.take t) mo (op.take t) ((ins.set t (rd_L3 ins (t:Int)++[(j:Int)])).take t) ((rd_L3 ins (t:Int)++[(j:Int)]).foldl (fun o y=>o.set y.toNat (j:Int)) out) (by omega) (by rw[List.length_take,List.length_take];omega) (by rw[List.length_take,List.length_take,List.length_set];omega) (by rw[fold_len];exact hout) ((hok.add t (by omega) j hlt).take t) (by rw[List.length_take];omega) hmo (hds.close t (by omega))
            refine⟨m,o2,m2,b,Ev.step (fun k=>by rw[hI k,if_neg c5,if_pos c11]) h1,?_,h3,h4,fun hb=>Fin.closed hlt hx hop c11 t (by omega) hds hout (h5 hb)⟩
            rw[List.map_take] at h2
            have hokx:=(hok.add t (by omega) j hlt) (rd_L3 ins (t:Int)++[(j:Int)]) (List.mem_iff_getElem.2 ⟨t,by rw[List.length_set];omega,by rw[List.getElem_set_self]⟩)
            have hrun:=l1_run l l.length mo (j:Int) (t:Int) op (ar.map (fun o=>o !=4)) (ins.set t (rd_L3 ins (t:Int)++[(j:Int)])) (j:Int) (rd_L3 ins (t:Int)++[(j:Int)]) hokx.2 (by omega) (by omega) (by omega) (by rw[hel];omega) (by rw[List.length_set];omega) (o2,m2,b) _ 0 out (Nat.zero_add _) hout (by rw[List.drop_zero,Int.toNat_natCast,e1];exact h2)
            refine Ev.step hl0 (Ev.step (f:=fun k=>spec_l6Ends.j3 k out mo op (ar.map (fun o=>o !=4)) ins (j:Int) (t:Int) l (l.length:Int) (j:Int) x xa) (fun k=>by rw[spec_l6Ends.j2,if_neg (by decide),if_neg c5]) (Ev.step (fun k=>?_) hrun))
            rw[spec_l6Ends.j3,if_pos (by omega),if_pos (by omega),if_pos hin]
            simp only[Option.bind_some]
            rw[if_pos c11,Int.toNat_natCast,rdL2 (ins.set t _) t (by rw[List.length_set];omega),List.getElem_set_self]
            rfl
          · obtain⟨m,o2,m2,b,h1,h2,h3,h4,h5⟩:=hj3 _ ar rfl rfl c11
            refine⟨m,o2,m2,b,Ev.step (fun k=>by rw[hI k,if_neg c5,if_neg c11]) h1,Ev.step hl0 (Ev.step (fun k=>?_) h2),h3,h4,h5⟩
            rw[spec_l6Ends.j2,if_neg (by decide),if_neg c5]
theorem bkO_end:∀ (i:Nat) (l:List S37) (p:Nat),l[p]?.map (·.f0)=some 11→(bkO i l)[p]? =some ((i+p:Nat):Int)
  |_,[],p,h=>by cases p<;>cases h
  |i,x ::xs,0,h=>by
    have h:some x.f0=some 11:=h
    rw[bkO,if_pos (Option.some.inj h)];rfl
  |i,x ::xs,p+1,h=>by
    rw[List.getElem?_cons_succ] at h
    rw[bkO,List.getElem?_cons_succ,bkO_end (i+1) xs p h,show i+1+p=i+(p+1) by omega]
/-- Where blocks nest well, each instruction's end stands at or behind it, and is one. -/
theorem bk_props:∀ (l:List S37) (i m:Nat),NestL m l→(bkS i l).length=m∧(∀ s∈bkS i l,∃ e:Nat,s=((i+e:Nat):Int)∧l[e]?.map (·.f0)=some 11)∧∀ p,p<l.length→∃ e:Nat,(bkO i l)[p]? =some ((i+e:Nat):Int)∧p≤e∧l[e]?.map (·.f0)=some 11
  |[],i,m,h=>by
    have h:m=0:=h
    exact⟨h.symm,fun s hs=>(by cases hs),fun p hp=>(by cases hp)⟩
  |x ::xs,i,0,h=>h.elim
  |x ::xs,i,t+1,h=>by
    have h:NestL (nxtL x.f0 t) xs:=h
    obtain⟨h1,h2,h3⟩:=bk_props xs (i+1) _ h
    have sh:∀ s∈bkS (i+1) xs,∃ e:Nat,s=((i+e:Nat):Int)∧1≤e∧(x ::xs)[e]?.map (·.f0)=some 11:=fun s hs=>by
      obtain⟨e,e1,e2⟩:=h2 s hs
      exact⟨e+1,by rw[e1];omega,by omega,e2⟩
    have hrest:∀ p,p+1<(x ::xs).length→∃ e:Nat,(bkO i (x ::xs))[p+1]? =some ((i+e:Nat):Int)∧p+1≤e∧(x ::xs)[e]?.map (·.f0)=some 11:=fun p hp=>by
      obtain⟨e,e1,e2,e3⟩:=h3 p (by rw[List.length_cons] at hp;omega)
      exact⟨e+1,by rw[bkO,List.getElem?_cons_succ,e1];congr 1;omega,by omega,e3⟩
    unfold nxtL at h1
    by_cases ho:isO x.f0=true
    · have hop:x.f0=2∨x.f0=3∨x.f0=4:=by
        unfold isO at ho
        simp only[Bool.or_eq_true,beq_iff_eq] at ho
        exact ho
      have h11:¬x.f0=11:=by omega
      rw[if_pos hop] at h1
      have eS:bkS i (x ::xs)=(bkS (i+1) xs).tail:=by rw[bkS,if_pos ho,if_neg h11]
      refine⟨by rw[eS,List.length_tail,h1];rfl,fun s hs=>?_,fun p hp=>?_⟩
      · rw[eS] at hs
        obtain⟨e,e1,_,e2⟩:=sh s (List.mem_of_mem_tail hs)
        exact⟨e,e1,e2⟩
      · cases p with
        |succ p=>exact hrest p hp
        |zero=>
          cases hb:bkS (i+1) xs with
          |nil=>rw[hb] at h1;cases h1
          |cons s tl=>
            obtain⟨e,e1,_,e2⟩:=sh s (by rw[hb];exact List.mem_cons_self ..)
            exact⟨e,by rw[bkO,if_neg h11,hb,←e1];rfl,Nat.zero_le _,e2⟩
    · have hop:¬(x.f0=2∨x.f0=3∨x.f0=4):=by
        intro hc
        apply ho
        unfold isO
        simp only[Bool.or_eq_true,beq_iff_eq]
        exact hc
      rw[if_neg hop] at h1
      by_cases h11:x.f0=11
      · rw[if_pos h11] at h1
        have eS:bkS i (x ::xs)=(i:Int) ::bkS (i+1) xs:=by rw[bkS,if_neg ho,if_pos h11]
        have e0:(x ::xs)[0]?.map (·.f0)=some 11:=by rw[List.getElem?_cons_zero];exact congrArg some h11
        refine⟨by rw[eS,List.length_cons,h1],fun s hs=>?_,fun p hp=>?_⟩
        · rw[eS] at hs
          rcases List.mem_cons.1 hs with hs|hs
          · exact⟨0,by rw[hs];rfl,e0⟩
          · obtain⟨e,e1,_,e2⟩:=sh s hs
            exact⟨e,e1,e2⟩
        · cases p with
          |succ p=>exact hrest p hp
          |zero=>exact⟨0,by rw[bkO,if_pos h11];rfl,Nat.le_refl _,e0⟩
      · rw[if_neg h11] at h1
        have eS:bkS i (x ::xs)=bkS (i+1) xs:=by rw[bkS,if_neg ho,if_neg h11]
        refine⟨by rw[eS,h1],fun s hs=>?_,fun p hp=>?_⟩
        · rw[eS] at hs
          obtain⟨e,e1,_,e2⟩:=sh s hs
          exact⟨e,e1,e2⟩
        · cases p with
          |succ p=>exact hrest p hp
          |zero=>
            cases hb:bkS (i+1) xs with
            |nil=>rw[hb] at h1;cases h1
            |cons s tl=>
              obtain⟨e,e1,_,e2⟩:=sh s (by rw[hb];exact List.mem_cons_self ..)
              exact⟨e,by rw[bkO,if_neg h11,hb,←e1];rfl,Nat.zero_le _,e2⟩
end Go.Proofs.Ytmajifnehjlncaa.Ins
