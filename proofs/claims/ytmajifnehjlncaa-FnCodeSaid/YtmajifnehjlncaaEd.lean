/- The ends of a body: both texts tell the same ones, and how deep it is. -/
import Derived.Test.YtmajifnehjlncaaEn
import Derived.Test.YtmajifnehjlncaaQx7
namespace Go.Proofs.Ytmajifnehjlncaa.Ins
open Go.RowKit Go.Proofs.Ytmajifnehjlncaa.Q Go.Proofs.YtmajifnehjlncaaW.PrintWords Go.Proofs.YtmajifnehjlncaaW.PrintLast Go.Proofs.YtmajifnehjlncaaW.PrintMore Go.Proofs.Ytmajifnehjlncaa.Mb
set_option linter.unusedSimpArgs false
set_option linter.unusedVariables false
/-- How many blocks are open behind an instruction, and the most of all. -/
def opF (x o:Int):Int:=if x=2∨x=3∨x=4 then o+1 else if x=11 then o - 1 else o
def runO:List S37→Int→Int→Int × Int
  |[],o,m=>(o,m)
  |x ::xs,o,m=>runO xs (opF x.f0 o) (if opF x.f0 o > m then opF x.f0 o else m)
theorem deep_nestL (l:List S37) (hl:l.length≤1000):∀ (k:Nat) (ar:List Int) (mo:Int) (j:Nat) (r:Int),impl_deepest.l0 k ar mo l (l.length:Int) (j:Int)=some r→r≠0→j≤l.length→ar.length≤j+1→(ar.length:Int)≤mo→NestL ar.length (l.drop j)∧runO (l.drop j) (ar.length:Int) mo=(0,r)
  |0,ar,mo,j,r,h,hr,hj,ha,hmo=>by cases h
  |k+1,ar,mo,j,r,h,hr,hj,ha,hmo=>by
    by_cases hlt:j<l.length
    · rw[List.drop_eq_getElem_cons hlt]
      have e1:wrap64 ((j:Int)+1)=((j+1:Nat):Int):=w64 (by omega) (by omega)
      rw[impl_deepest.l0,if_pos (by omega),if_pos (by omega),if_pos (by omega),rdO l j hlt,e1] at h
      by_cases h0:(ar.length:Int)=0
      · rw[if_pos h0] at h
        exact absurd (Option.some.inj h).symm hr
      rw[if_neg h0] at h
      obtain⟨t,ht⟩:∃ t,ar.length=t+1:=⟨ar.length - 1,by omega⟩
      rw[ht]
      have etop:wrap64 ((ar.length:Int) - 1)=(t:Int):=by rw[w64 (by omega) (by omega)];omega
      rw[opens_ok,Option.bind_some,etop] at h
      show NestL (nxtL l[j].f0 t) (l.drop (j+1))∧runO (l.drop (j+1)) (opF l[j].f0 ((t+1:Nat):Int)) (if opF l[j].f0 ((t+1:Nat):Int) > mo then opF l[j].f0 ((t+1:Nat):Int) else mo)=(0,r)
      generalize l[j].f0=x at*
      cases hop:isO x with
      |true=>
        rw[hop,if_pos rfl,if_pos (by omega),Option.bind_some] at h
        have hx:x=2∨x=3∨x=4:=by
          unfold isO at hop
          simp only[Bool.or_eq_true,beq_iff_eq] at hop
          omega
        have hL:(ar++[x]).length=t+1+1:=by rw[List.length_append,List.length_singleton,ht]
        have hm:mx mo ((ar++[x]).length:Int)=if (((t+1:Nat):Int)+1) > mo then (((t+1:Nat):Int)+1) else mo:=by
          rw[hL];unfold mx
          by_cases c:(((t+1:Nat):Int)+1) > mo
          · rw[if_pos c];first|rw[if_pos (by omega)];omega|rw[if_neg (by omega)];omega|(split<;>omega)
          · rw[if_neg c];first|rw[if_pos (by omega)];omega|rw[if_neg (by omega)];omega|(split<;>omega)
        rw[hm] at h
        have h1:=deep_nestL l hl k _ _ (j+1) r h hr (by omega) (by omega) (by rw[hL];split<;>omega)
        rw[hL] at h1
        have hn:nxtL x t=t+1+1:=by unfold nxtL;rw[if_pos hx]
        have ho:opF x ((t+1:Nat):Int)=((t+1+1:Nat):Int):=by unfold opF;rw[if_pos hx];omega
        rw[hn,ho]
        refine⟨h1.1,?_⟩
        rw[←h1.2]
        congr 1
      |false=>
        have hno:¬(x=2∨x=3∨x=4):=by
          intro hx
          unfold isO at hop
          simp only[Bool.or_eq_false_iff,beq_eq_false_iff_ne] at hop
          omega
        rw[hop,if_neg (by decide)] at h
        by_cases c5:x=5
        · rw[if_pos c5,if_pos (by omega),if_pos (by omega)] at h
          by_cases c4:rd ar (t:Int)=4
          · rw[if_pos c4] at h
            have h1:=deep_nestL l hl k _ _ (j+1) r h hr (by omega) (by rw[List.length_set];omega) (by rw[List.length_set];omega)
            rw[List.length_set,ht] at h1
            have hn:nxtL x t=t+1:=by unfold nxtL;rw[if_neg hno,if_neg (by omega)]
            have ho:opF x ((t+1:Nat):Int)=((t+1:Nat):Int):=by unfold opF;rw[if_neg hno,if_neg (by omega)]
            rw[hn,ho,if_neg (by omega)];exact h1
          · rw[if_neg c4] at h
            exact absurd (Option.some.inj h).symm hr
        · rw[if_neg c5] at h
          by_cases c11:x=11
          · rw[if_pos c11,if_pos (by omega),if_pos (by omega),Int.toNat_natCast] at h
            have h1:=deep_nestL l hl k _ _ (j+1) r h hr (by omega) (by rw[List.length_take];omega) (by rw[List.length_take];omega)
            rw[List.length_take,ht,Nat.min_eq_left (by omega)] at h1
            have hn:nxtL x t=t:=by unfold nxtL;rw[if_neg hno,if_pos c11]
            have ho:opF x ((t+1:Nat):Int)=(t:Int):=by unfold opF;rw[if_neg hno,if_pos c11];omega
            rw[hn,ho,if_neg (by omega)];exact h1
          · rw[if_neg c11] at h
            have h1:=deep_nestL l hl k _ _ (j+1) r h hr (by omega) (by omega) hmo
            rw[ht] at h1
            have hn:nxtL x t=t+1:=by unfold nxtL;rw[if_neg hno,if_neg c11]
            have ho:opF x ((t+1:Nat):Int)=((t+1:Nat):Int):=by unfold opF;rw[if_neg hno,if_neg c11]
            rw[hn,ho,if_neg (by omega)];exact h1
    · rw[impl_deepest.l0,if_neg (by omega)] at h
      by_cases h0:(ar.length:Int) > 0
      · rw[if_pos h0] at h
        exact absurd (Option.some.inj h).symm hr
      · rw[if_neg h0] at h
        rw[List.drop_of_length_le (by omega)]
        have hz:ar.length=0:=by omega
        refine⟨hz,?_⟩
        show((ar.length:Int),mo)=(0,r)
        rw[hz,Option.some.inj h];rfl
theorem nest_drop:∀ (j:Nat) (l:List S37) (m:Nat),NestL m l→∃ m',NestL m' (l.drop j)
  |0,l,m,h=>⟨m,h⟩
  |j+1,[],m,h=>⟨m,h⟩
  |j+1,x ::xs,0,h=>h.elim
  |j+1,x ::xs,m+1,h=>nest_drop j xs _ h
theorem rd_last' (xs:List Int) (x:Int) {w:Int} (hw:w=(xs.length:Int)):rd (xs++[x]) w=x:=by
  subst hw
  rw[rdN _ _ (by rw[List.length_append,List.length_singleton];omega)]
  simp only[List.getElem_append_right (Nat.le_refl _),Nat.sub_self,List.getElem_cons_zero]
/-- The program's ends are those told from behind. -/
theorem ends_I (l:List S37) (hl:l.length≤1000) (hn:∀ j,j≤l.length→∃ m,NestL m (l.drop j)):∀ (i:Nat),i≤l.length→Ev (fun k=>impl_endsOf.l0 k l (List.replicate i 0++bkO i (l.drop i)) (bkS i (l.drop i)).reverse ((i:Int) - 1)) (bkO 0 l)
  |0,_=>by
    refine Ev.step (f:=fun _=>some (bkO 0 l)) (fun k=>by rw[impl_endsOf.l0,if_neg (by decide)];rfl) (Ev.now _)
  |i+1,hi=>by
    have hlt:i<l.length:=by omega
    have ih:=ends_I l hl hn i (by omega)
    have ed:l.drop i=l[i] ::l.drop (i+1):=List.drop_eq_getElem_cons hlt
    obtain⟨m,hm⟩:=hn i (by omega)
    rw[ed] at hm ih
    cases m with
    |zero=>exact hm.elim
    |succ t=>
      have hlen:=(bk_props (l.drop (i+1)) (i+1) _ hm).1
      have hbl:(bkS (i+1) (l.drop (i+1))).length≤2000:=by
        have:∀ (xs:List S37) (p:Nat),(bkS p xs).length≤xs.length:=by
          intro xs
          induction xs with
          |nil=>intro p;exact Nat.le_refl _
          |cons x xs ihx=>
            intro p
            have:=ihx (p+1)
            rw[bkS,List.length_cons]
            split<;>split<;>(try simp only[List.length_tail,List.length_cons])<;>omega
        have:=this (l.drop (i+1)) (i+1)
        rw[List.length_drop] at this;omega
      rw[bkS,bkO] at ih
      generalize hS:bkS (i+1) (l.drop (i+1))=S at*
      generalize hO:bkO (i+1) (l.drop (i+1))=O at*
      rw[show (((i+1:Nat):Int) - 1)=(i:Int) by omega]
      have ei:wrap64 ((i:Int) - 1)=(i:Int) - 1:=w64 (by omega) (by omega)
      have hset:∀ v:Int,(List.replicate (i+1) 0++O).set i v=List.replicate i 0++(v ::O):=fun v=>by
        rw[List.replicate_succ',List.append_assoc,List.set_append_right _ _ (by rw[List.length_replicate];exact Nat.le_refl _),List.length_replicate,Nat.sub_self];rfl
      have hol:i<(List.replicate (i+1) 0++O).length:=by rw[List.length_append,List.length_replicate];omega
      -- what is done once the top of the open ends is known
      have fin:∀ (A:List Int) (v:Int),(A++[v]).length≤3000→Ev (fun k=>impl_endsOf.l0 k l (List.replicate i 0++v ::O) (if isO l[i].f0=true then (v ::A.reverse).tail else v ::A.reverse).reverse ((i:Int) - 1)) (bkO 0 l)→
          Ev (fun k=>(some ((List.replicate (i+1) 0++O).set i (rd (A++[v]) (wrap64 (((A++[v]).length:Int) - 1))):List Int)).bind fun y=>(impl_opens.f l[i].f0).bind fun t=>if t=true then (if (wrap64 (((A++[v]).length:Int) - 1))≤((A++[v]).length:Int) then impl_endsOf.l0 k l y ((A++[v]).take ((wrap64 (((A++[v]).length:Int) - 1)):Int).toNat) (wrap64 ((i:Int) - 1)) else none) else impl_endsOf.l0 k l y (A++[v]) (wrap64 ((i:Int) - 1))) (bkO 0 l):=by
        intro A v hA h
        have hAl:(A++[v]).length=A.length+1:=by rw[List.length_append,List.length_singleton]
        have ew:wrap64 (((A++[v]).length:Int) - 1)=(A.length:Int):=by rw[w64 (by omega) (by omega)];omega
        rw[rd_last' A v ew,ew,hset,ei,opens_ok]
        simp only[Option.bind_some]
        cases ho:isO l[i].f0 with
        |true=>
          rw[ho,if_pos rfl,List.tail_cons,List.reverse_reverse] at h
          refine ev_yes rfl (ev_yes (by omega) ?_)
          rw[Int.toNat_natCast,List.take_left]
          exact h
        |false=>
          rw[ho,if_neg (by decide),List.reverse_cons,List.reverse_reverse] at h
          exact ev_no (by decide) h
      refine Ev.step (fun k=>by rw[impl_endsOf.l0,if_pos (by omega),if_pos (by omega),if_pos (by omega),rdO l i hlt]) ?_
      by_cases c11:l[i].f0=11
      · rw[if_pos c11,if_pos c11] at ih
        refine ev_yes c11 ?_
        have h:=fin S.reverse (i:Int) (by rw[List.length_append,List.length_singleton,List.length_reverse];omega) (by rw[List.reverse_reverse];exact ih)
        have hl2:(S.reverse++[(i:Int)]).length=S.length+1:=by rw[List.length_append,List.length_singleton,List.length_reverse]
        have ew:wrap64 (((S.reverse++[(i:Int)]).length:Int) - 1)=(S.length:Int):=by rw[w64 (by omega) (by omega)];omega
        refine Ev.congr (fun k=>?_) h
        rw[if_pos (by rw[List.length_reverse];omega),Option.bind_some,if_pos (by rw[ew];omega),if_pos (by rw[ew];omega),if_pos (by omega),Int.toNat_natCast]
      · rw[if_neg c11,if_neg c11] at ih
        refine ev_no c11 ?_
        cases hSc:S with
        |nil=>
          exfalso
          rw[hSc] at hlen
          unfold nxtL at hlen
          rw[if_neg c11] at hlen
          split at hlen<;>cases hlen
        |cons v T=>
          rw[hSc] at ih
          have hl3:S.length=T.length+1:=by rw[hSc,List.length_cons]
          have h:=fin T.reverse v (by rw[List.length_append,List.length_singleton,List.length_reverse];omega) (by rw[List.reverse_reverse];exact ih)
          rw[List.reverse_cons]
          have hl2:(T.reverse++[v]).length=T.length+1:=by rw[List.length_append,List.length_singleton,List.length_reverse]
          have ew:wrap64 (((T.reverse++[v]).length:Int) - 1)=(T.length:Int):=by rw[w64 (by omega) (by omega)];omega
          refine Ev.congr (fun k=>?_) h
          rw[if_pos (by rw[ew];omega),if_pos (by rw[ew];omega),if_pos (by omega),Int.toNat_natCast]
end Go.Proofs.Ytmajifnehjlncaa.Ins
