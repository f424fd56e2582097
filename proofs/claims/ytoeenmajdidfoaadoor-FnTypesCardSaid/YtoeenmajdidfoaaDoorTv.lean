/- The text of a good type is read back. -/
import Derived.Test.YtoeenmajdidfoaaDoorTr
import Derived.Test.YtoeenmajdidfoaaDoorTd
namespace Go.Proofs.YtoeenmajdidfoaaDoor.Ty
open Go.RowKit Go.Proofs.YtoeenmajdidfoaaDoor.Q Go.Proofs.YtoeenmajdidfoaaDoorW.PrintWords Go.Proofs.YtoeenmajdidfoaaDoorW.PrintLast Go.Proofs.YtoeenmajdidfoaaDoorW.PrintMore Go.Proofs.YtoeenmajdidfoaaDoor.Mb
set_option linter.unusedSimpArgs false
set_option linter.unusedVariables false
set_option linter.unusedSectionVars false
/-- What stands behind a type's text: nothing, or the sign that ends it. -/
def sepe:List UInt8→Prop
  |[]=>True
  |b ::_=>b=62∨b=44
theorem sepe.sepd:∀ {xs:List UInt8},sepe xs→sepd xs
  |[],_=>trivial
  |b ::r,h=>by rcases (show b=62∨b=44 from h) with rfl|rfl<;>rfl
theorem sign_rest:∀ {xs:List UInt8},sepe xs→fine xs→signF (By xs) 60=some (false,By xs)
  |[],_,_=>sign_end 60
  |b ::r,h,hf=>sign_no 60 b r hf (by rcases (show b=62∨b=44 from h) with rfl|rfl<;>decide)
/-- A tree of at most k levels below its root. -/
def Dp:Nat→S43→Prop
  |0,t=>t.f2=[]
  |k+1,t=>∀ x∈t.f2,Dp k x
theorem tr_dp {l:List S33} (hg:good l=true) (k:Nat):∀ (m i:Nat),i<l.length→8≤deep l i+k→Dp k (tr l m (i:Int)):=by
  induction k with
  |zero=>
    intro m i hi hd
    cases m with
    |zero=>rfl
    |succ m=>show List.map _ _=[];rw[Int.toNat_natCast,no_parts l hg i hi (by omega)];rfl
  |succ k ih=>
    intro m i hi hd x hx
    cases m with
    |zero=>cases hx
    |succ m=>
      rw[tr,Int.toNat_natCast] at hx
      obtain⟨y,hy,rfl⟩:=List.mem_map.1 hx
      obtain⟨j,rfl,h1,h2,h3⟩:=part_at l hg i y hy
      exact ih m j h2 (by omega)
theorem read_head (n:Nat) (K p d:Int) (acc:List S33) (tl:List UInt8) (h0:1≤K) (h1:K≤21) (hs:sepd tl) (hf:fine ((wd K).data.toList++tl)) (hd:d≤8) (ha:acc.length<40):
    readF (n+1) (By ((wd K).data.toList++tl)) acc p d=(signF (By tl) 60).bind fun y=>if y.1=true then (impl_counted.f K).bind fun c=>if c=true then
          (wordF y.2).bind fun u=>(strconv_Atoi.f u.1).bind fun m=>if m.2=none then (signF u.2 62).bind fun v=>some (v.1,v.2,acc++[(⟨K,m.1,p⟩:S33)]) else none
        else kidsF (fun s' l'=>readF n s' l' (acc.length:Int) (d+1)) 64 y.2 (acc++[(⟨K,0,p⟩:S33)])
      else some (true,y.2,acc++[(⟨K,0,p⟩:S33)]):=by
  obtain⟨w1,w2⟩:=wd_ok h0 h1
  rw[readF,word_read _ _ w2 hs hf,Option.bind_some,by_of,w1,Option.bind_some,if_neg (by omega),if_neg (by omega),if_neg (by omega),if_pos ha]
def Jn (ps:List ByteArray):List UInt8:=Lib.join (ps.map (·.data.toList)) [44]
theorem jn_one (r:ByteArray):Jn [r]=r.data.toList:=Lib.join_one _ _
theorem jn_more (r q:ByteArray) (ps:List ByteArray):Jn (r ::q ::ps)=r.data.toList++44 ::Jn (q ::ps):=by
  unfold Jn
  rw[List.map_cons,Lib.join_cons,List.map_cons,Lib.join_cons]
  simp[Lib.joinTail]
theorem read_kids (m n:Nat) (i d:Int):∀ (xs:List S43) (ps:List ByteArray),xs≠[]→xs.mapM (textT m)=some ps→
    (∀ x∈xs,∀ r,textT m x=some r→∀ rest,sepe rest→fine (r.data.toList++rest)→∀ acc,(nodesN m acc x i).length≤40→readF n (By (r.data.toList++rest)) acc i d=some (true,By rest,nodesN m acc x i))→
    ∀ (rest:List UInt8) (acc:List S33) (fu:Nat),xs.length≤fu→fine (Jn ps++62 ::rest)→(xs.foldl (fun s x=>nodesN m s x i) acc).length≤40→
      kidsF (fun s' l'=>readF n s' l' i d) fu (By (Jn ps++62 ::rest)) acc=some (true,By rest,xs.foldl (fun s x=>nodesN m s x i) acc):=by
  intro xs
  induction xs with
  |nil=>intro ps h;exact absurd rfl h
  |cons x xs ih=>
    intro ps _ hp hx rest acc fu hfu hf hlen
    simp only[List.mapM_cons,Option.bind_eq_bind,Option.bind_eq_some_iff,Option.pure_def,Option.some.injEq] at hp
    obtain⟨r,hr,ps',hp',rfl⟩:=hp
    have hl1:(nodesN m acc x i).length≤40:=Nat.le_trans (fold_nodes_grow (fun s x=>nodesN m s x i) xs _ (fun y _ s=>nodesN_grow m s y _)) hlen
    cases fu with
    |zero=>simp at hfu
    |succ fu=>
      rw[List.length_cons] at hfu
      cases xs with
      |nil=>
        simp at hp'
        subst hp'
        rw[jn_one] at hf ⊢
        rw[kidsF,hx x List.mem_cons_self r hr (62 ::rest) (.inl rfl) hf acc hl1,Option.bind_some]
        simp only[if_true]
        rw[show (62:Int)=((62:UInt8).toNat:Int) from rfl,sign_yes 62 rest hf.right,Option.bind_some]
        simp only[if_true,List.foldl_cons,List.foldl_nil]
      |cons x2 xs2=>
        have hp2:=hp'
        simp only[List.mapM_cons,Option.bind_eq_bind,Option.bind_eq_some_iff,Option.pure_def,Option.some.injEq] at hp2
        obtain⟨q,_,ps2,_,rfl⟩:=hp2
        rw[jn_more,List.append_assoc,List.cons_append] at hf ⊢
        rw[kidsF,hx x List.mem_cons_self r hr (44 ::(Jn (q ::ps2)++62 ::rest)) (.inr rfl) hf acc hl1,Option.bind_some]
        simp only[if_true]
        rw[sign_no 62 44 _ hf.right (by decide),Option.bind_some]
        simp only[Bool.false_eq_true,if_false]
        rw[show (44:Int)=((44:UInt8).toNat:Int) from rfl,sign_yes 44 _ hf.right,Option.bind_some]
        simp only[if_true]
        have hf2:fine (Jn (q ::ps2)++62 ::rest):=hf.right.drop 1
        rw[ih _ (by simp) hp' (fun y hy=>hx y (List.mem_cons_of_mem _ hy)) rest _ fu (by omega) hf2 hlen]
        rfl
def RT (M:Nat) (t:S43):Prop:=∀ k,k≤8→Dp k t→∀ r,textT M t=some r→∀ rest,sepe rest→fine (r.data.toList++rest)→∀ (acc:List S33) (p:Int),(nodesN M acc t p).length≤40→∀ n,k<n→
  readF n (By (r.data.toList++rest)) acc p (8 - (k:Int))=some (true,By rest,nodesN M acc t p)
theorem rt_step (m:Nat) (t:S43) (hok:ok t.f0 t.f1 (t.f2.length:Int)=true) (hx:∀ x∈t.f2,RT m x):RT (m+1) t:=by
  intro k hk hD r hr rest hs hf acc p hlen n hn
  obtain⟨hl8,k1,k21⟩:=ok_few hok
  have E:nodesN (m+1) acc t p=t.f2.foldl (fun s x=>nodesN m s x (acc.length:Int)) (acc++[⟨t.f0,t.f1,p⟩]):=rfl
  have hacc:acc.length<40:=by
    have:=fold_nodes_grow (fun s x=>nodesN m s x (acc.length:Int)) t.f2 (acc++[⟨t.f0,t.f1,p⟩]) (fun x _ s=>nodesN_grow m s x _)
    rw[←E,List.length_append,List.length_singleton] at this
    omega
  cases n with
  |zero=>omega
  |succ n=>
  rw[textT,word_ok (by omega) (by omega),Option.bind_some,counted_ok,Option.bind_some] at hr
  change (if decide (t.f0=16∨19≤t.f0)=true then (if 0≤t.f1∧t.f1≤300 then some (((wd t.f0++(⟨#[60]⟩:ByteArray))++numS t.f1)++(⟨#[62]⟩:ByteArray)) else none)
    else if t.f2.length=0 then some (wd t.f0) else (t.f2.mapM (textT m)).bind fun ps=>some (((wd t.f0++(⟨#[60]⟩:ByteArray))++commas ps)++(⟨#[62]⟩:ByteArray)))=some r at hr
  by_cases hc:t.f0=16∨19≤t.f0
  · rw[if_pos (decide_eq_true hc)] at hr
    obtain⟨c0,n0,n1⟩:=ok_num hok (by omega) hc
    rw[if_pos ⟨n0,n1⟩] at hr
    obtain rfl:=Option.some.inj hr
    have h2:t.f2=[]:=List.length_eq_zero_iff.1 (by omega)
    have e1:(((wd t.f0++(⟨#[60]⟩:ByteArray))++numS t.f1)++(⟨#[62]⟩:ByteArray)).data.toList++rest=(wd t.f0).data.toList++(60 ::((numS t.f1).data.toList++(62 ::rest))):=by
      rw[bytes_app,bytes_app,bytes_app];simp
    rw[e1] at hf ⊢
    have f1:=hf.right
    have f2:fine ((numS t.f1).data.toList++(62 ::rest)):=f1.drop 1
    obtain⟨a1,a2⟩:=num_read n0 n1
    rw[read_head n t.f0 p _ acc _ k1 k21 (show sepd (60 ::_) from rfl) hf (by omega) hacc,show (60:Int)=((60:UInt8).toNat:Int) from rfl,sign_yes 60 _ f1,Option.bind_some]
    simp only[if_true]
    rw[counted_ok,Option.bind_some,if_pos (decide_eq_true hc),word_read _ _ a2 (show sepd (62 ::_) from rfl) f2,Option.bind_some,by_of]
    simp only
    rw[a1,Option.bind_some]
    simp only[if_true]
    rw[show (62:Int)=((62:UInt8).toNat:Int) from rfl,sign_yes 62 _ f2.right,Option.bind_some,E,h2]
    rfl
  · rw[if_neg (by simpa using hc)] at hr
    have hcf:impl_counted.f t.f0=some false:=by rw[counted_ok];simp[hc]
    have hn0:=plain_ok hok hcf
    by_cases h2:t.f2.length=0
    · rw[if_pos h2] at hr
      obtain rfl:=Option.some.inj hr
      have h3:t.f2=[]:=List.length_eq_zero_iff.1 h2
      rw[read_head n t.f0 p _ acc _ k1 k21 hs.sepd hf (by omega) hacc]
      rw[sign_rest hs hf.right,Option.bind_some,E,h3,hn0]
      rfl
    · rw[if_neg h2] at hr
      obtain⟨ps,hps,hr⟩:=Option.bind_eq_some_iff.1 hr
      obtain rfl:=Option.some.inj hr
      have e1:(((wd t.f0++(⟨#[60]⟩:ByteArray))++commas ps)++(⟨#[62]⟩:ByteArray)).data.toList++rest=(wd t.f0).data.toList++(60 ::(Jn ps++(62 ::rest))):=by
        rw[bytes_app,bytes_app,bytes_app];simp[commas,Jn]
      rw[e1] at hf ⊢
      have f1:=hf.right
      have f2:fine (Jn ps++(62 ::rest)):=f1.drop 1
      rw[read_head n t.f0 p _ acc _ k1 k21 (show sepd (60 ::_) from rfl) hf (by omega) hacc,show (60:Int)=((60:UInt8).toNat:Int) from rfl,sign_yes 60 _ f1,Option.bind_some]
      simp only[if_true]
      rw[hcf,Option.bind_some,if_neg (by decide)]
      have hne:t.f2≠[]:=fun h=>h2 (by rw[h];rfl)
      cases k with
      |zero=>exact absurd hD hne
      |succ k=>
        have hq:=read_kids m n (acc.length:Int) (8 - ((k+1:Nat):Int)+1) t.f2 ps hne hps (fun x hxm r hr rest hs hf acc' hl=>by
          have:=hx x hxm k (by omega) (hD x hxm) r hr rest hs hf acc' _ hl n (by omega)
          rwa [show 8 - (k:Int)=8 - ((k+1:Nat):Int)+1 by omega] at this) rest (acc++[(⟨t.f0,0,p⟩:S33)]) 64 (by omega) f2 (by rw[←hn0,←E];exact hlen)
        rw[hq,E,hn0]
theorem rt_all (m:Nat):∀ t,GT m t→RT (m+1) t:=by
  induction m with
  |zero=>intro t h;exact rt_step 0 t h.1 (fun x hx=>by rw[h.2] at hx;cases hx)
  |succ m ih=>intro t h;exact rt_step (m+1) t h.1 (fun x hx=>ih x (h.2 x hx))
end Go.Proofs.YtoeenmajdidfoaaDoor.Ty
