/- What the law of the types' texts asks of a good row: the text is short and plain, the row comes back, the handles are those of its nodes. -/
import Derived.Test.YtoeenmajdidfoaaDoorTv
import Derived.Test.YtoeenmajdidfoaaDoorQx9
import Derived.Test.YtoeenmajdidfoaaDoorQx6
import Derived.Test.YtoeenmajdidfoaaDoorQx8
namespace Go.Proofs.YtoeenmajdidfoaaDoor.Ty
open Go.RowKit Go.Proofs.YtoeenmajdidfoaaDoor.Q Go.Proofs.YtoeenmajdidfoaaDoorW.PrintWords Go.Proofs.YtoeenmajdidfoaaDoorW.PrintLast Go.Proofs.YtoeenmajdidfoaaDoorW.PrintMore Go.Proofs.YtoeenmajdidfoaaDoor.Mb
set_option linter.unusedSimpArgs false
set_option linter.unusedVariables false
set_option linter.unusedSectionVars false
theorem wd_plain:∀ x:Fin 22,(wd ((x.val:Nat):Int)).data.toList.all (fun b=>decide (b.toNat<128))=true∧(wd ((x.val:Nat):Int)).data.toList.length≤7:=by decide+kernel
theorem num_plain:∀ n:Fin 301,(numS ((n.val:Nat):Int)).data.toList.all (fun b=>decide (b.toNat<128))=true∧(numS ((n.val:Nat):Int)).data.toList.length≤18:=by decide+kernel
def PT (M:Nat) (t:S43):Prop:=∀ r,textT M t=some r→(∀ b∈r.data.toList,b.toNat<128)∧∀ (acc:List S33) (p:Int),r.data.toList.length+1+32*acc.length≤32*(nodesN M acc t p).length
theorem pt_kids (m:Nat) (i:Int):∀ (xs:List S43) (ps:List ByteArray),xs≠[]→xs.mapM (textT m)=some ps→(∀ x∈xs,PT m x)→
    (∀ b∈Jn ps,b.toNat<128)∧∀ (acc:List S33),(Jn ps).length+1+32*acc.length≤32*(xs.foldl (fun s x=>nodesN m s x i) acc).length:=by
  intro xs
  induction xs with
  |nil=>intro ps h;exact absurd rfl h
  |cons x xs ih=>
    intro ps _ hp hx
    simp only[List.mapM_cons,Option.bind_eq_bind,Option.bind_eq_some_iff,Option.pure_def,Option.some.injEq] at hp
    obtain⟨r,hr,ps',hp',rfl⟩:=hp
    obtain⟨h1,h2⟩:=hx x List.mem_cons_self r hr
    cases xs with
    |nil=>
      simp at hp'
      subst hp'
      rw[jn_one]
      exact⟨h1,fun acc=>h2 acc i⟩
    |cons x2 xs2=>
      obtain⟨g1,g2⟩:=ih ps' (by simp) hp' (fun y hy=>hx y (List.mem_cons_of_mem _ hy))
      have hp2:=hp'
      simp only[List.mapM_cons,Option.bind_eq_bind,Option.bind_eq_some_iff,Option.pure_def,Option.some.injEq] at hp2
      obtain⟨q,_,ps2,_,rfl⟩:=hp2
      rw[jn_more]
      refine⟨fun b hb=>?_,fun acc=>?_⟩
      · rcases List.mem_append.1 hb with hb|hb
        · exact h1 b hb
        · rcases List.mem_cons.1 hb with rfl|hb
          · decide
          · exact g1 b hb
      · have a1:=h2 acc i
        have a2:=g2 (nodesN m acc x i)
        rw[List.length_append,List.length_cons,List.foldl_cons]
        omega
theorem pt_step (m:Nat) (t:S43) (hok:ok t.f0 t.f1 (t.f2.length:Int)=true) (hx:∀ x∈t.f2,PT m x):PT (m+1) t:=by
  intro r hr
  obtain⟨hl8,k1,k21⟩:=ok_few hok
  have hw:(∀ b∈(wd t.f0).data.toList,b.toNat<128)∧(wd t.f0).data.toList.length≤7:=by
    obtain⟨u,hu⟩:=Int.eq_ofNat_of_zero_le (show 0≤t.f0 by omega)
    have:=wd_plain ⟨u,by omega⟩
    rw[hu]
    exact⟨fun b hb=>of_decide_eq_true (List.all_eq_true.1 this.1 b hb),this.2⟩
  have E:∀ (acc:List S33) p,nodesN (m+1) acc t p=t.f2.foldl (fun s x=>nodesN m s x (acc.length:Int)) (acc++[⟨t.f0,t.f1,p⟩]):=fun _ _=>rfl
  rw[textT,word_ok (by omega) (by omega),Option.bind_some,counted_ok,Option.bind_some] at hr
  change (if decide (t.f0=16∨19≤t.f0)=true then (if 0≤t.f1∧t.f1≤300 then some (((wd t.f0++(⟨#[60]⟩:ByteArray))++numS t.f1)++(⟨#[62]⟩:ByteArray)) else none)
    else if t.f2.length=0 then some (wd t.f0) else (t.f2.mapM (textT m)).bind fun ps=>some (((wd t.f0++(⟨#[60]⟩:ByteArray))++commas ps)++(⟨#[62]⟩:ByteArray)))=some r at hr
  by_cases hc:t.f0=16∨19≤t.f0
  · rw[if_pos (decide_eq_true hc)] at hr
    obtain⟨c0,n0,n1⟩:=ok_num hok (by omega) hc
    rw[if_pos ⟨n0,n1⟩] at hr
    obtain rfl:=Option.some.inj hr
    have h2:t.f2=[]:=List.length_eq_zero_iff.1 (by omega)
    have hn:(∀ b∈(numS t.f1).data.toList,b.toNat<128)∧(numS t.f1).data.toList.length≤18:=by
      obtain⟨u,hu⟩:=Int.eq_ofNat_of_zero_le n0
      have:=num_plain ⟨u,by omega⟩
      rw[hu]
      exact⟨fun b hb=>of_decide_eq_true (List.all_eq_true.1 this.1 b hb),this.2⟩
    have e1:(((wd t.f0++(⟨#[60]⟩:ByteArray))++numS t.f1)++(⟨#[62]⟩:ByteArray)).data.toList=(wd t.f0).data.toList++(60 ::((numS t.f1).data.toList++[62])):=by
      rw[bytes_app,bytes_app,bytes_app];simp
    rw[e1]
    refine⟨fun b hb=>?_,fun acc p=>?_⟩
    · rcases List.mem_append.1 hb with hb|hb
      · exact hw.1 b hb
      · rcases List.mem_cons.1 hb with rfl|hb
        · decide
        · rcases List.mem_append.1 hb with hb|hb
          · exact hn.1 b hb
          · obtain rfl:=List.mem_singleton.1 hb;decide
    · rw[E,h2]
      simp only[List.foldl_nil,List.length_append,List.length_cons,List.length_nil]
      omega
  · rw[if_neg (by simpa using hc)] at hr
    by_cases h2:t.f2.length=0
    · rw[if_pos h2] at hr
      obtain rfl:=Option.some.inj hr
      have h3:t.f2=[]:=List.length_eq_zero_iff.1 h2
      refine⟨hw.1,fun acc p=>?_⟩
      rw[E,h3]
      simp only[List.foldl_nil,List.length_append,List.length_cons,List.length_nil]
      omega
    · rw[if_neg h2] at hr
      obtain⟨ps,hps,hr⟩:=Option.bind_eq_some_iff.1 hr
      obtain rfl:=Option.some.inj hr
      obtain⟨g1,_⟩:=pt_kids m 0 t.f2 ps (fun h=>h2 (by rw[h];rfl)) hps hx
      have e1:(((wd t.f0++(⟨#[60]⟩:ByteArray))++commas ps)++(⟨#[62]⟩:ByteArray)).data.toList=(wd t.f0).data.toList++(60 ::(Jn ps++[62])):=by
        rw[bytes_app,bytes_app,bytes_app];simp[commas,Jn]
      rw[e1]
      refine⟨fun b hb=>?_,fun acc p=>?_⟩
      · rcases List.mem_append.1 hb with hb|hb
        · exact hw.1 b hb
        · rcases List.mem_cons.1 hb with rfl|hb
          · decide
          · rcases List.mem_append.1 hb with hb|hb
            · exact g1 b hb
            · obtain rfl:=List.mem_singleton.1 hb;decide
      · obtain⟨_,g2⟩:=pt_kids m (acc.length:Int) t.f2 ps (fun h=>h2 (by rw[h];rfl)) hps hx
        have g3:=g2 (acc++[⟨t.f0,t.f1,p⟩])
        rw[E]
        simp only[List.length_append,List.length_cons,List.length_nil] at g3 ⊢
        omega
theorem pt_all (m:Nat):∀ t,GT m t→PT (m+1) t:=by
  induction m with
  |zero=>intro t h;exact pt_step 0 t h.1 (fun x hx=>by rw[h.2] at hx;cases hx)
  |succ m ih=>intro t h;exact pt_step (m+1) t h.1 (fun x hx=>ih x (h.2 x hx))
/-- The row comes back from its text. -/
theorem read_back {l:List S33} (hg:good l=true) {r:ByteArray} (hr:textT 9 (tree l)=some r):readF 10 r [] (-1) 1=some (true,By [],l):=by
  have hl:=good_len l hg
  have ht:=nodes_tree hg
  obtain⟨h1,h2⟩:=pt_all 8 _ (tree_gt l hg) r hr
  have h3:=h2 [] (-1)
  rw[ht] at h3
  have h4:=rt_all 8 _ (tree_gt l hg) 7 (by omega) (tr_dp hg 7 8 0 (by omega) (by have:=deep_pos (l:=l) 0;omega)) r hr [] trivial (by rw[List.append_nil];exact⟨h1,by omega⟩) [] (-1) (by rw[ht];omega) 10 (by omega)
  rw[List.append_nil,by_of,ht] at h4
  exact h4
theorem any_fold (P:S33→Bool) (f:List S33→S43→List S33) (g:S43→Bool) (h:∀ s x,(f s x).any P=(s.any P ||g x)):∀ (xs:List S43) (s:List S33),(xs.foldl f s).any P=(s.any P ||xs.any g)
  |[],s=>by simp
  |x ::xs,s=>by rw[List.foldl_cons,any_fold P f g h xs,h,List.any_cons,Bool.or_assoc]
def hk (x:S33):Bool:=x.f0==20 ||x.f0==21
theorem handles_any_ (n:Nat):∀ (l:List S33) (t:S43) (p:Int),(nodesN n l t p).any hk=(l.any hk ||handlesT n t):=by
  induction n with
  |zero=>intro l t p;simp[nodesN,handlesT]
  |succ n ih=>
    intro l t p
    rw[nodesN,any_fold hk _ (handlesT n) (fun s x=>ih s x _),handlesT,List.any_append]
    simp[hk,Bool.or_assoc]
theorem handles_row {l:List S33} (hg:good l=true):handlesT 9 (tree l)=l.any hk:=by
  have:=handles_any_ 9 [] (tree l) (-1)
  rw[nodes_tree hg] at this
  simpa using this.symm
theorem same_l0 (l:List S33) (hl:l.length≤1048576) (d:Nat):∀ j:Nat,j+d=l.length→Ev (fun k=>laws_sameTypes.l0 k l l (l.length:Int) (j:Int)) true:=by
  induction d with
  |zero=>
    intro j hj
    refine Ev.step (f:=fun _=>some true) (fun k=>?_) (Ev.now _)
    simp only[laws_sameTypes.l0]
    rw[if_neg (by omega)]
  |succ d ih=>
    intro j hj
    refine Ev.step (fun k=>?_) (ih (j+1) (by omega))
    simp only[laws_sameTypes.l0]
    rw[if_pos (show(j:Int)<(l.length:Int) by omega),if_pos (show(0:Int)≤(j:Int) by omega),if_pos (show(j:Int)<(l.length:Int) by omega),if_pos (show(j:Int)<(l.length:Int) by omega),if_neg (by simp),w64 (n:=(j:Int)+1) (by omega) (by omega)]
    rfl
theorem same_ok (l:List S33) (hl:l.length≤1048576):Ev (fun k=>laws_sameTypes.f k l l) true:=by
  refine Ev.congr (fun k=>?_) (same_l0 l hl l.length 0 (by omega))
  unfold laws_sameTypes.f
  rw[if_pos rfl]
  rfl
theorem loop_ok (x10:Bool) (l:List S33) (hl:l.length≤1048576) (d:Nat):∀ (j:Nat) (b:Bool),j+d=l.length→Ev (fun k=>laws_FnTypes.l0 k x10 b l (l.length:Int) (j:Int)) (x10==(b ||(l.drop j).any hk)):=by
  induction d with
  |zero=>
    intro j b hj
    refine Ev.step (f:=fun _=>some (x10==(b ||(l.drop j).any hk))) (fun k=>?_) (Ev.now _)
    simp only[laws_FnTypes.l0]
    rw[if_neg (by omega),List.drop_eq_nil_of_le (by omega)]
    simp
  |succ d ih=>
    intro j b hj
    have hjl:j<l.length:=by omega
    have e1:rd_T33 l (j:Int)=l[j]:=by unfold rd_T33;rw[Int.toNat_natCast,List.getD_eq_getElem?_getD,List.getElem?_eq_getElem hjl];rfl
    have e2:l.drop j=l[j] ::l.drop (j+1):=List.drop_eq_getElem_cons hjl
    refine Ev.step (f:=fun k=>laws_FnTypes.l0 k x10 (b ||hk l[j]) l (l.length:Int) ((j:Int)+1)) (fun k=>?_) ?_
    · simp only[laws_FnTypes.l0]
      rw[if_pos (show(j:Int)<(l.length:Int) by omega),if_pos (show(0:Int)≤(j:Int) by omega),if_pos (show(j:Int)<(l.length:Int) by omega),w64 (n:=(j:Int)+1) (by omega) (by omega),e1]
      cases b with
      |true=>rw[if_pos rfl,Bool.true_or]
      |false=>
        rw[if_neg (by decide),Bool.false_or]
        unfold hk
        by_cases c:(l[j]).f0=20
        · rw[if_pos c,c];rfl
        · rw[if_neg c,show ((l[j]).f0==20)=false from beq_eq_false_iff_ne.2 c,Bool.false_or]
    · have:=ih (j+1) (b ||hk l[j]) (by omega)
      rw[e2,List.any_cons,←Bool.or_assoc]
      exact this
end Go.Proofs.YtoeenmajdidfoaaDoor.Ty
