/- Code comes back from its bytes, both texts tell the same ends, and each instruction stands at or ahead of its end: for all code that is drawn. -/
import Derived.Test.YtmajifnehjlncaaGb
import Derived.Test.YtmajifnehjlncaaCb
import Derived.Test.YtmajifnehjlncaaEd
import Derived.Test.YtmajifnehjlncaaQx9
namespace Go.Proofs.Ytmajifnehjlncaa.Ins
open Go.RowKit Go.Proofs.Ytmajifnehjlncaa.Q Go.Proofs.YtmajifnehjlncaaW.PrintWords Go.Proofs.YtmajifnehjlncaaW.PrintLast Go.Proofs.YtmajifnehjlncaaW.PrintMore Go.Proofs.Ytmajifnehjlncaa.Mb Go.Proofs.Ytmajifnehjlncaa.Leb Go.Proofs.Ytmajifnehjlncaa.Ba
set_option linter.unusedSimpArgs false
set_option linter.unusedVariables false
def gB (l:List S37):Bool:=(l.drop 0).all (fun x=>gi (fo x.f0) x.f1) && decide ((l.length:Int)≤200)
theorem good_I (l:List S37) (hl:l.length≤2000000):Ev (fun k=>impl_goodCode.f k l) (gB l):=by
  unfold impl_goodCode.f gB
  by_cases c:(l.length:Int) > 200
  · rw[decide_eq_false (by omega),Bool.and_false]
    exact ev_yes c (Ev.now _)
  · rw[decide_eq_true (by omega),Bool.and_true]
    exact ev_no c (good_l0I l hl l.length 0 (by omega))
theorem good_S (l:List S37) (hl:l.length≤2000000):Ev (fun k=>spec_l6Good.f k l) (gB l):=good_l0S l hl l.length 0 (by omega)
theorem gB_all {l:List S37} (h:gB l=true) (hE:Gen.E l):(∀ x∈l,Gx x)∧l.length≤200:=by
  unfold gB at h
  rw[List.drop_zero,Bool.and_eq_true] at h
  have:=of_decide_eq_true h.2
  exact⟨fun x hx=>⟨(List.all_eq_true.1 h.1) x hx,(hE x hx).1,(hE x hx).2⟩,by omega⟩
theorem same_code (l:List S37) (hl:l.length≤1000000):Ev (fun k=>laws_sameCode.f k l l) true:=by
  have h:∀ (d j:Nat),j+d=l.length→Ev (fun k=>laws_sameCode.l0 k l l (l.length:Int) (j:Int)) true:=by
    intro d
    induction d with
    |zero=>
      intro j hj
      refine Ev.step (f:=fun _=>some true) (fun k=>by rw[laws_sameCode.l0,if_neg (by omega)]) (Ev.now _)
    |succ d ih=>
      intro j hj
      refine Ev.step (fun k=>by rw[laws_sameCode.l0,if_pos (by omega),if_pos (by omega),if_pos (by omega),if_pos (by omega),if_neg (by simp),show wrap64 ((j:Int)+1)=((j+1:Nat):Int) from w64 (by omega) (by omega)]) (ih (j+1) (by omega))
  unfold laws_sameCode.f
  exact ev_yes rfl (h l.length 0 (by omega))
theorem same_ints (l:List Int) (hl:l.length≤1000000):Ev (fun k=>laws_sameInts.f k l l) true:=by
  have h:∀ (d j:Nat),j+d=l.length→Ev (fun k=>laws_sameInts.l0 k l l (l.length:Int) (j:Int)) true:=by
    intro d
    induction d with
    |zero=>
      intro j hj
      refine Ev.step (f:=fun _=>some true) (fun k=>by rw[laws_sameInts.l0,if_neg (by omega)]) (Ev.now _)
    |succ d ih=>
      intro j hj
      refine Ev.step (fun k=>by rw[laws_sameInts.l0,if_pos (by omega),if_pos (by omega),if_pos (by omega),if_pos (by omega),if_pos rfl,show wrap64 ((j:Int)+1)=((j+1:Nat):Int) from w64 (by omega) (by omega)]) (ih (j+1) (by omega))
  unfold laws_sameInts.f
  exact ev_yes rfl (h l.length 0 (by omega))
/-- Both walks over a body. -/
theorem ends_full (l:List S37) (hl:l.length≤2000000):∃ (m:Int) (o2:List Int) (m2:Int) (b:Bool),Ev (fun k=>impl_deepest.f k l) m∧Ev (fun k=>spec_l6Ends.f k l) (o2,m2,b)∧(b=false→m=0)∧
    (b=true→m=m2∧1≤m∧l.length≤200∧o2=bkO 0 l∧NestL 1 l∧runO l 1 1=(0,m)∧Ev (fun k=>impl_endsOf.f k l) (bkO 0 l)):=by
  have h1:=good_I l hl
  have h2:=good_S l hl
  unfold impl_deepest.f spec_l6Ends.f
  have no:Ev (fun k=>spec_l6Ends.j0 k l true) ([],0,false):=Ev.step (f:=fun _=>some ([],0,false)) (fun k=>by rw[spec_l6Ends.j0,if_pos rfl]) (Ev.now _)
  cases hg:gB l with
  |false=>
    rw[hg] at h1 h2
    exact⟨0,[],0,false,Ev.bind h1 (ev_no (by decide) (Ev.now _)),Ev.bind h2 (ev_no (by decide) no),fun _=>rfl,fun h=>absurd h (by decide)⟩
  |true=>
    rw[hg] at h1 h2
    have hn:l.length≤200:=by
      unfold gB at hg
      rw[Bool.and_eq_true] at hg
      have:=of_decide_eq_true hg.2
      omega
    have hds:Ds 0 [([]:List Int)]:=⟨fun x hx y hy=>(by rw[List.mem_singleton] at hx;rw[hx] at hy;cases hy),by simp⟩
    obtain⟨m,o2,m2,b,e1,e2,e3,e4,e5⟩:=ends_out l (by omega) l.length 0 [2] 1 [(-1)] [[]] (List.replicate l.length 0) (by omega) rfl rfl (by simp) (fun x hx=>by rw[List.mem_singleton] at hx;subst hx;exact⟨Nat.le_refl _,fun y hy=>by cases hy⟩) (by simp) (by omega) hds
    by_cases c:l.length=0
    · refine⟨0,[],0,false,Ev.bind h1 (ev_yes rfl ?_),Ev.bind h2 (ev_yes rfl ?_),fun _=>rfl,fun h=>absurd h (by decide)⟩
      · refine Ev.step (f:=fun _=>some 0) (fun k=>?_) (Ev.now _)
        rw[impl_deepest.l0,if_neg (by omega),if_pos (by decide)]
      · rw[show ((l.length:Int)==0)=true from beq_iff_eq.2 (by omega)]
        exact no
    · refine⟨m,o2,m2,b,Ev.bind h1 (ev_yes rfl e1),Ev.bind h2 (ev_yes rfl ?_),e4,fun hb=>?_⟩
      · refine Ev.step (fun k=>?_) e2
        rw[show ((l.length:Int)==0)=false from beq_eq_false_iff_ne.2 (by omega),spec_l6Ends.j0,if_neg (by decide),if_pos (by omega),if_pos (by omega),if_pos (by decide),Int.toNat_natCast]
        rfl
      · obtain⟨hm,hm1⟩:=e3 hb
        have hf:=e5 hb
        have ho:o2=bkO 0 l:=by
          refine List.ext_getElem? fun p=>?_
          by_cases hp:p<l.length
          · have:=hf.c3 p (Nat.zero_le _) hp
            rw[List.drop_zero,Nat.sub_zero] at this
            exact this
          · rw[List.getElem?_eq_none (by rw[hf.c2];omega),List.getElem?_eq_none (by rw[bkO_len];omega)]
        obtain⟨K,hK⟩:=e1
        obtain⟨n1,n2⟩:=deep_nestL l (by omega) K [2] 1 0 m (hK K (Nat.le_refl _)) (by omega) (Nat.zero_le _) (by simp) (by simp)
        rw[List.drop_zero] at n1 n2
        refine⟨hm,hm1,hn,ho,n1,n2,?_⟩
        unfold impl_endsOf.f
        refine ev_yes (by omega) (ev_yes (by omega) ?_)
        have h:=ends_I l (by omega) (fun j _=>nest_drop j l 1 n1) l.length (Nat.le_refl _)
        rw[List.drop_length,bkO,bkS,List.append_nil,List.reverse_nil] at h
        rw[Int.toNat_natCast,show wrap64 ((l.length:Int) - 1)=(l.length:Int) - 1 from w64 (by omega) (by omega)]
        exact h
theorem fst_none (l:List S37) (c:List Int) (d a b:Int):Ev (fun k=>laws_FnCode.l0 k l c false d a b [] 0 0) true:=
  Ev.step (f:=fun _=>some true) (fun k=>by rw[laws_FnCode.l0,if_neg (by decide),if_neg (by decide)]) (Ev.now _)
/-- The law's last round. -/
theorem last_round (l:List S37) (hl:l.length≤200) (hn:NestL 1 l) (m:Int) (d:Nat):∀ (j:Nat) (o mo:Int),j+d=l.length→-1000+(d:Int)≤o→o≤1000 - (d:Int)→runO (l.drop j) o mo=(0,m)→Ev (fun k=>laws_FnCode.l0 k l (bkO 0 l) true m o mo (bkO 0 l) ((bkO 0 l).length:Int) (j:Int)) true:=by
  have hbl:=bkO_len 0 l
  induction d with
  |zero=>
    intro j o mo hj h0 h1 hr
    rw[List.drop_of_length_le (by omega),runO] at hr
    obtain⟨ho,hm⟩:=Prod.mk.inj hr
    refine Ev.step (f:=fun _=>some true) (fun k=>?_) (Ev.now _)
    rw[laws_FnCode.l0,if_neg (by omega),if_pos rfl,if_pos hm.symm,ho]
    rfl
  |succ d ih=>
    intro j o mo hj h0 h1 hr
    have hlt:j<l.length:=by omega
    rw[List.drop_eq_getElem_cons hlt,runO] at hr
    obtain⟨-,-,hp⟩:=bk_props l 0 1 hn
    obtain⟨e,he,hje,h11⟩:=hp j hlt
    rw[Nat.zero_add] at he
    have hel:e<l.length:=by
      rw[Option.map_eq_some_iff] at h11
      obtain⟨x,hx,-⟩:=h11
      exact(List.getElem?_eq_some_iff.1 hx).1
    have hle:l[e].f0=11:=by
      rw[List.getElem?_eq_getElem hel] at h11
      exact Option.some.inj h11
    have hrd:∀ (p:Nat) (v:Int),(bkO 0 l)[p]? =some v→rd (bkO 0 l) (p:Int)=v:=fun p v h=>by
      obtain⟨h1,h2⟩:=List.getElem?_eq_some_iff.1 h
      rw[rdN _ p h1,h2]
    have r1:=hrd j _ he
    have r2:=hrd e _ (by rw[bkO_end 0 l e h11,Nat.zero_add])
    have e1:wrap64 ((j:Int)+1)=((j+1:Nat):Int):=w64 (by omega) (by omega)
    refine Ev.step (fun k=>by
      rw[laws_FnCode.l0,if_pos (by omega),if_pos (by omega),if_pos (by omega),r1,if_neg (by omega),if_pos (by omega),if_pos (by omega),rdO l e hel,if_pos hle,if_pos (by omega),r2,bne_self_eq_false]) ?_
    refine Ev.step (fun k=>by rw[laws_FnCode.j4,if_neg (by decide),if_pos (by omega),if_pos (by omega),rdO l j hlt]) ?_
    generalize l[j].f0=x at*
    have hj5:∀ b:Bool,(b=true↔(x=2∨x=3∨x=4))→Ev (fun k=>laws_FnCode.j5 k l (bkO 0 l) true m o mo (bkO 0 l) ((bkO 0 l).length:Int) (j:Int) x b) true:=by
      intro b hb
      have up:opF x o=o+1∨opF x o=o - 1∨opF x o=o:=by unfold opF;split<;>first|omega|(split<;>omega)
      have hi:Ev (fun k=>laws_FnCode.l0 k l (bkO 0 l) true m (opF x o) (if opF x o > mo then opF x o else mo) (bkO 0 l) ((bkO 0 l).length:Int) ((j+1:Nat):Int)) true:=ih (j+1) _ _ (by omega) (by omega) (by omega) hr
      have wp:wrap64 (o+1)=o+1:=w64 (by omega) (by omega)
      have wm:wrap64 (o - 1)=o - 1:=w64 (by omega) (by omega)
      refine Ev.step (fun k=>?_) hi
      rw[laws_FnCode.j5,e1,wp,wm]
      unfold opF
      by_cases c:x=2∨x=3∨x=4
      · rw[if_pos (hb.2 c),if_pos c]
        by_cases c2:o+1 > mo
        · rw[if_pos c2,if_pos c2]
        · rw[if_neg c2,if_neg c2]
      · rw[if_neg (fun h=>c (hb.1 h)),if_neg c]
        by_cases c11:x=11
        · rw[if_pos c11,if_pos c11]
          by_cases c2:o - 1 > mo
          · rw[if_pos c2,if_pos c2]
          · rw[if_neg c2,if_neg c2]
        · rw[if_neg c11,if_neg c11]
          by_cases c2:o > mo
          · rw[if_pos c2,if_pos c2]
          · rw[if_neg c2,if_neg c2]
    by_cases x2:x=2
    · refine ev_yes x2 (hj5 _ ?_)
      rw[beq_iff_eq];omega
    · refine ev_no x2 ?_
      by_cases x3:x=3
      · refine ev_yes x3 (hj5 _ ?_)
        rw[beq_iff_eq];omega
      · refine ev_no x3 (hj5 _ ?_)
        rw[beq_iff_eq];omega
theorem law_j1 (l:List S37) (hl:l.length≤2000000):Ev (fun k=>laws_FnCode.j1 k l) true:=by
  obtain⟨m,o2,m2,b,h1,h2,h3,h4⟩:=ends_full l hl
  cases b with
  |false=>
    have hm:=h3 rfl
    subst hm
    refine Ev.step (fun k=>by rw[laws_FnCode.j1]) ?_
    have a1:Ev (fun k=>impl_EndsOf.f k l) ([],false):=by
      unfold impl_EndsOf.f
      exact Ev.bind h1 (ev_yes rfl (Ev.now _))
    have a2:Ev (fun k=>spec_EndsOf.f k l) ([],false):=by
      unfold spec_EndsOf.f
      exact Ev.bind h2 (ev_no (by simp) (Ev.now _))
    have a3:Ev (fun k=>impl_DeepestOf.f k l) (0,false):=by
      unfold impl_DeepestOf.f
      exact Ev.bind h1 (Ev.now _)
    refine Ev.bind a1 (Ev.bind a2 (Ev.bind a3 (ev_no (by simp) (ev_no (by simp) ?_))))
    refine Ev.bind (same_ints [] (by decide)) ?_
    refine Ev.step (fun k=>by rw[laws_FnCode.j2,if_neg (by decide)]) ?_
    exact fst_none _ _ _ _ _
  |true=>
    obtain⟨g1,g2,g3,g4,g5,g6,g7⟩:=h4 rfl
    refine Ev.step (fun k=>by rw[laws_FnCode.j1]) ?_
    have a1:Ev (fun k=>impl_EndsOf.f k l) (bkO 0 l,true):=by
      unfold impl_EndsOf.f
      exact Ev.bind h1 (ev_no (by omega) (Ev.bind g7 (Ev.now _)))
    have a2:Ev (fun k=>spec_EndsOf.f k l) (bkO 0 l,true):=by
      unfold spec_EndsOf.f
      refine Ev.bind h2 (ev_yes rfl ?_)
      rw[g4]
      exact Ev.now _
    have a3:Ev (fun k=>impl_DeepestOf.f k l) (m,true):=by
      unfold impl_DeepestOf.f
      refine Ev.bind h1 ?_
      rw[decide_eq_true (by omega)]
      exact Ev.now _
    refine Ev.bind a1 (Ev.bind a2 (Ev.bind a3 (ev_no (by simp) (ev_no (by simp) ?_))))
    refine Ev.bind (same_ints (bkO 0 l) (by rw[bkO_len];omega)) ?_
    refine Ev.step (fun k=>by rw[laws_FnCode.j2,if_neg (by decide)]) ?_
    exact last_round l g3 g5 m l.length 0 1 1 (by omega) (by omega) (by omega) (by rw[List.drop_zero];exact g6)
theorem law_all (l:List S37) (hE:Gen.E l) (hl:l.length≤2000000):Ev (fun k=>(impl_CodeBytes.f k l).bind fun bt830=>((spec_CodeBytes.f k l).bind fun bt832=>(if (bt830.2 !=bt832.2)=true then (laws_FnCode.j0 k l bt830.1 bt830.2 true) else (laws_FnCode.j0 k l bt830.1 bt830.2 (bt830.1.toList !=bt832.1.toList))))) true:=by
  have h1:=good_I l hl
  have h2:=good_S l hl
  have hj:=law_j1 l hl
  cases hg:gB l with
  |false=>
    rw[hg] at h1 h2
    have a1:Ev (fun k=>impl_CodeBytes.f k l) ((⟨#[]⟩:ByteArray),false):=by
      unfold impl_CodeBytes.f
      exact Ev.bind h1 (ev_no (by decide) (Ev.now _))
    have a2:Ev (fun k=>spec_CodeBytes.f k l) ((⟨#[]⟩:ByteArray),false):=by
      unfold spec_CodeBytes.f
      exact Ev.bind h2 (ev_no (by decide) (Ev.now _))
    refine Ev.bind a1 (Ev.bind a2 (ev_no (by simp) ?_))
    rw[bne_self_eq_false]
    exact Ev.step (fun k=>by rw[laws_FnCode.j0,if_neg (by decide),if_neg (by decide)]) hj
  |true=>
    rw[hg] at h1 h2
    obtain⟨hG,hn⟩:=gB_all hg hE
    have a1:Ev (fun k=>impl_CodeBytes.f k l) (strOfNums (codeB l),true):=by
      unfold impl_CodeBytes.f
      exact Ev.bind h1 (ev_yes rfl (code_I l hG hn l.length 0 [] (by omega) (Nat.zero_le _)))
    have a2:Ev (fun k=>spec_CodeBytes.f k l) (strOfNums (codeB l),true):=by
      unfold spec_CodeBytes.f
      refine Ev.bind h2 (ev_yes rfl ?_)
      refine Ev.bind (a:=strOfNums (codeB l)) ?_ (Ev.now _)
      exact code_S l hG hn l.length 0 [] (by omega) (Nat.zero_le _)
    refine Ev.bind a1 (Ev.bind a2 (ev_no (by simp) ?_))
    rw[bne_self_eq_false]
    refine Ev.step (fun k=>by rw[laws_FnCode.j0,if_neg (by decide),if_pos rfl]) ?_
    have a3:Ev (fun k=>impl_ReadCode.f k (strOfNums (codeB l))) (l,true):=read_back l [] hG (by rw[List.length_nil];omega)
    refine Ev.bind a3 (ev_yes rfl (Ev.bind (same_code l (by omega)) (ev_yes rfl hj)))
end Go.Proofs.Ytmajifnehjlncaa.Ins
namespace Go.Proofs.Ytmajifnehjlncaa.Pure
open Go.RowKit Go.Proofs.Ytmajifnehjlncaa.Q Go.Proofs.YtmajifnehjlncaaW.PrintWords Go.Proofs.YtmajifnehjlncaaW.PrintLast
theorem FnCode:laws_FnCode.Pure:=by
  intro l0 _ _ hw
  unfold laws_FnCode.f
  by_cases c:(l0.length:Int) > 1048576
  · exact⟨0,if_pos c⟩
  · obtain⟨r,h1,h2,h3⟩:=Gen.code_ok (Cur.u8_of hw)
    obtain⟨K,h⟩:=Ev.bind (f:=fun k t827=>(impl_CodeBytes.f k t827).bind fun bt830=>((spec_CodeBytes.f k t827).bind fun bt832=>(if (bt830.2 !=bt832.2)=true then (laws_FnCode.j0 k t827 bt830.1 bt830.2 true) else (laws_FnCode.j0 k t827 bt830.1 bt830.2 (bt830.1.toList !=bt832.1.toList))))) h1 (Ins.law_all r h2 (by omega))
    exact⟨K,(if_neg c).trans (h K (Nat.le_refl _))⟩
end Go.Proofs.Ytmajifnehjlncaa.Pure
