/- States of instances: both texts take the same ones as good; their size, turning, equality with themselves. (numbers of s4g) -/
import Derived.Test.YtanhbfhmgmjdgaaCp
import Derived.Test.YtanhbfhmgmjdgaaCz
import Derived.Test.YtanhbfhmgmjdgaaQx24
import Derived.Test.YtanhbfhmgmjdgaaQx12
import Derived.Test.YtanhbfhmgmjdgaaQx1
import Derived.Test.YtanhbfhmgmjdgaaQx15
import Derived.Test.YtanhbfhmgmjdgaaQx26
namespace Go.Proofs.Ytanhbfhmgmjdgaa.Mo
open Go.RowKit Go.Proofs.Ytanhbfhmgmjdgaa.Q Go.Proofs.YtanhbfhmgmjdgaaW.PrintWords Go.Proofs.YtanhbfhmgmjdgaaW.PrintLast Go.Proofs.YtanhbfhmgmjdgaaW.PrintMore Go.Proofs.Ytanhbfhmgmjdgaa.Mb Go.Proofs.Ytanhbfhmgmjdgaa.Ins Go.Proofs.Ytanhbfhmgmjdgaa.Ck
set_option linter.unusedSimpArgs false
set_option linter.unusedVariables false
def gw (a b:Int):Bool:=decide (125≤a∧a≤127) && (decide (a=126) ||decide (b≤4294967295))
theorem gw_I (a b:Int):impl_GoodWord.f a b=some (gw a b):=by
  unfold impl_GoodWord.f gw
  rw[good_type,Option.bind_some]
  by_cases h:125≤a∧a≤127
  · rw[decide_eq_true h,if_pos rfl,Bool.true_and]
    by_cases e:a=126
    · rw[if_pos e,decide_eq_true e];rfl
    · rw[if_neg e,decide_eq_false e,Bool.false_or]
      congr 2
      exact propext ⟨fun h=>by omega,fun h=>by omega⟩
  · rw[decide_eq_false h,if_neg (by decide)];rfl
theorem gw_S (a b:Int):spec_l8Word.f a b=some (gw a b):=by
  unfold spec_l8Word.f spec_l6Type.f gw
  rw[in_ok,Option.bind_some,Option.bind_some]
  by_cases h:125≤a∧a≤127
  · rw[decide_eq_true h,if_pos rfl,Bool.true_and]
    by_cases e:a=126
    · rw[if_pos e,decide_eq_true e];rfl
    · rw[if_neg e,decide_eq_false e,Bool.false_or]
  · rw[decide_eq_false h,if_neg (by decide)];rfl
def gm (m:Int) (d:ByteArray):Bool:=decide (0≤m∧m≤8∧(d.size:Int) % 256=0∧(d.size:Int)≤m*256)
theorem gm_S (m:Int) (d:ByteArray):spec_GoodMemory.f m d=some (gm m d):=by
  unfold spec_GoodMemory.f spec_l1In.f gm
  by_cases h:m≥0
  · by_cases h2:m≤8
    · rw[if_pos h]
      simp only[Option.bind_some,h2,decide_true,if_true]
      by_cases h3:(d.size:Int) % 256=0
      · rw[if_pos h3,w64 (by omega) (by omega)]
        simp[h,h2,h3]
      · rw[if_neg h3];simp[h3]
    · simp[h,h2]
  · simp[h]
theorem gm_I (m:Int) (d:ByteArray):impl_GoodMemory.f m d=some (gm m d):=by
  unfold impl_GoodMemory.f gm
  by_cases h:m≥0
  · by_cases h2:m≤8
    · rw[if_pos h,if_pos h2]
      by_cases h3:(d.size:Int) % 256=0
      · rw[if_pos h3,w64 (by omega) (by omega)]
        simp[h,h2,h3]
      · rw[if_neg h3];simp[h3]
    · simp[h,h2]
  · simp[h]
/-- The memory of a state beside its module's. -/
def mOk (m:Bool) (most x:Int) (d:ByteArray):Bool:=if m=true then gm x d && (x==most) else (x==0 && (d.toList==([]:List UInt8)))
def wAll (gs:List S75):List S72→Nat→Bool
  |[],_=>true
  |w ::ws,j=>gw w.f0 w.f1 && ((w.f0==(rd_T75 gs (j:Int)).f0) && wAll gs ws (j+1))
theorem rd72 (l:List S72) (j:Nat) (hlt:j<l.length):rd_T72 l (j:Int)=l[j]:=by
  unfold rd_T72
  rw[Int.toNat_natCast,List.getD_eq_getElem?_getD,List.getElem?_eq_getElem hlt]
  rfl
theorem words_I (fs:List S88) (gs:List S75) (m:Bool) (a b c:Int) (ws:List S72) (hl:ws.length≤2000000) (he:ws.length=gs.length) (d:Nat):∀ j:Nat,j+d=ws.length→Ev (fun k=>impl_GoodState.l0 k ws (ws.length:Int) (j:Int) fs gs m a b c) (wAll gs (ws.drop j) j):=by
  induction d with
  |zero=>
    intro j hj
    rw[List.drop_of_length_le (by omega)]
    exact Ev.step (f:=fun _=>some true) (fun k=>by rw[impl_GoodState.l0,if_neg (by omega)]) (Ev.now _)
  |succ d ih=>
    intro j hj
    have hlt:j<ws.length:=by omega
    have e1:wrap64 ((j:Int)+1)=((j+1:Nat):Int):=w64 (by omega) (by omega)
    rw[List.drop_eq_getElem_cons hlt,wAll]
    have hs:∀ k,impl_GoodState.l0 (k+1) ws (ws.length:Int) (j:Int) fs gs m a b c=(if gw ws[j].f0 ws[j].f1=true then (if ws[j].f0=(rd_T75 gs (j:Int)).f0 then impl_GoodState.l0 k ws (ws.length:Int) ((j+1:Nat):Int) fs gs m a b c else some false) else some false):=fun k=>by
      rw[impl_GoodState.l0,if_pos (by omega),if_pos (by omega),if_pos (by omega),rd72 ws j hlt,gw_I,Option.bind_some,if_pos (show(j:Int)<(gs.length:Int) by omega),e1]
    by_cases h1:gw ws[j].f0 ws[j].f1=true
    · by_cases h2:ws[j].f0=(rd_T75 gs (j:Int)).f0
      · rw[h1,beq_iff_eq.2 h2,Bool.true_and,Bool.true_and]
        exact Ev.step (fun k=>by rw[hs k,if_pos h1,if_pos h2]) (ih (j+1) (by omega))
      · rw[beq_eq_false_iff_ne.2 h2,Bool.false_and,Bool.and_false]
        exact Ev.step (f:=fun _=>some false) (fun k=>by rw[hs k,if_pos h1,if_neg h2]) (Ev.now _)
    · rw[Bool.eq_false_iff.2 h1,Bool.false_and]
      exact Ev.step (f:=fun _=>some false) (fun k=>by rw[hs k,if_neg h1]) (Ev.now _)
theorem words_S (fs:List S88) (gs:List S75) (m:Bool) (a b c x:Int) (dt:ByteArray) (ws:List S72) (hl:ws.length≤2000000) (he:ws.length=gs.length) (d:Nat):∀ j:Nat,j+d=ws.length→Ev (fun k=>spec_GoodState.l0 k ws (ws.length:Int) (j:Int) fs gs m a b c x dt ws) (wAll gs (ws.drop j) j && mOk m b x dt):=by
  induction d with
  |zero=>
    intro j hj
    rw[List.drop_of_length_le (by omega),wAll,Bool.true_and]
    refine Ev.step (f:=fun _=>some (mOk m b x dt)) (fun k=>?_) (Ev.now _)
    rw[spec_GoodState.l0,if_neg (by omega)]
    unfold mOk
    cases m
    · rw[if_neg (by decide),if_neg (by decide)]
    · rw[if_pos rfl,if_pos rfl,gm_S,Option.bind_some]
      cases gm x dt<;>rfl
  |succ d ih=>
    intro j hj
    have hlt:j<ws.length:=by omega
    have e1:wrap64 ((j:Int)+1)=((j+1:Nat):Int):=w64 (by omega) (by omega)
    rw[List.drop_eq_getElem_cons hlt,wAll]
    have hs:∀ k,spec_GoodState.l0 (k+1) ws (ws.length:Int) (j:Int) fs gs m a b c x dt ws=(if gw ws[j].f0 ws[j].f1=true then (if ws[j].f0=(rd_T75 gs (j:Int)).f0 then spec_GoodState.l0 k ws (ws.length:Int) ((j+1:Nat):Int) fs gs m a b c x dt ws else some false) else some false):=fun k=>by
      rw[spec_GoodState.l0,if_pos (by omega),if_pos (by omega),if_pos (by omega),rd72 ws j hlt,gw_S,Option.bind_some,if_pos (show(j:Int)<(gs.length:Int) by omega),e1]
    by_cases h1:gw ws[j].f0 ws[j].f1=true
    · by_cases h2:ws[j].f0=(rd_T75 gs (j:Int)).f0
      · rw[h1,beq_iff_eq.2 h2,Bool.true_and,Bool.true_and]
        exact Ev.step (fun k=>by rw[hs k,if_pos h1,if_pos h2]) (ih (j+1) (by omega))
      · rw[beq_eq_false_iff_ne.2 h2,Bool.false_and,Bool.and_false,Bool.false_and]
        exact Ev.step (f:=fun _=>some false) (fun k=>by rw[hs k,if_pos h1,if_neg h2]) (Ev.now _)
    · rw[Bool.eq_false_iff.2 h1,Bool.false_and,Bool.false_and]
      exact Ev.step (f:=fun _=>some false) (fun k=>by rw[hs k,if_neg h1]) (Ev.now _)
/-- Both texts tell the same of a state. -/
theorem state_same (fs:List S88) (gs:List S75) (m:Bool) (a b c x:Int) (dt:ByteArray) (ws:List S72) (hl:fs.length≤2000000) (hg:gs.length≤2000000) (hw:ws.length≤2000000) (hf:∀ f∈fs,f.f0.length≤2000000∧f.f2.length≤2000000∧f.f3.length≤2000000):
    ∃ r,Ev (fun k=>impl_GoodState.f k fs gs m a b c x dt ws) r∧Ev (fun k=>spec_GoodState.f k fs gs m a b c x dt ws) r:=by
  obtain⟨s,h1,h2,-⟩:=shape_same fs gs m a b c hl hg hf
  unfold impl_GoodState.f spec_GoodState.f
  have noI:Ev (fun k=>impl_GoodState.j0 k true fs gs m a b c x dt ws) false:=Ev.step (f:=fun _=>some false) (fun k=>by rw[impl_GoodState.j0,if_pos rfl]) (Ev.now _)
  have noS:Ev (fun k=>spec_GoodState.j0 k true fs gs m a b c x dt ws) false:=Ev.step (f:=fun _=>some false) (fun k=>by rw[spec_GoodState.j0,if_pos rfl]) (Ev.now _)
  cases s with
  |false=>exact⟨false,Ev.bind h1 (ev_no (by decide) noI),Ev.bind h2 (ev_no (by decide) noS)⟩
  |true=>
    by_cases he:(ws.length:Int)=(gs.length:Int)
    · refine⟨wAll gs ws 0 && mOk m b x dt,Ev.bind h1 (ev_yes rfl ?_),Ev.bind h2 (ev_yes rfl ?_)⟩
      · rw[bne_eq_false_iff_eq.2 he]
        have hj1:Ev (fun k=>impl_GoodState.j1 k fs gs m a b c x dt ws) (wAll gs ws 0):=Ev.step (fun k=>by rw[impl_GoodState.j1];rfl) (words_I fs gs m a b c ws hw (by omega) ws.length 0 (by omega))
        refine Ev.step (fun k=>by rw[impl_GoodState.j0,if_neg (by decide)]) ?_
        unfold mOk
        cases m
        · refine ev_no (by decide) ?_
          rw[if_neg (by decide)]
          by_cases hm:(x==0 && (dt.toList==([]:List UInt8)))=true
          · rw[hm,Bool.and_true]
            refine ev_no ?_ hj1
            rw[Bool.and_eq_true] at hm
            rw[hm.1,hm.2];decide
          · rw[Bool.eq_false_iff.2 hm,Bool.and_false]
            refine ev_yes ?_ (Ev.now _)
            rw[←Bool.not_and,Bool.eq_false_iff.2 hm];rfl
        · refine ev_yes rfl ?_
          rw[if_pos rfl,gm_I]
          refine Ev.bind (Ev.now _) ?_
          cases hm:gm x dt with
          |false=>rw[Bool.false_and,Bool.and_false];exact ev_no (by decide) (Ev.now _)
          |true=>
            refine ev_yes rfl ?_
            by_cases hx:x=b
            · rw[beq_iff_eq.2 hx,Bool.and_true,Bool.and_true];exact ev_yes hx hj1
            · rw[beq_eq_false_iff_ne.2 hx,Bool.and_false,Bool.and_false];exact ev_no hx (Ev.now _)
      · rw[bne_eq_false_iff_eq.2 he]
        refine Ev.step (fun k=>by rw[spec_GoodState.j0,if_neg (by decide)]) ?_
        exact words_S fs gs m a b c x dt ws hw (by omega) ws.length 0 (by omega)
    · refine⟨false,Ev.bind h1 (ev_yes rfl ?_),Ev.bind h2 (ev_yes rfl ?_)⟩
      · rw[bne_iff_ne.2 he];exact noI
      · rw[bne_iff_ne.2 he];exact noS
/-! size, turning, equality -/
def cW (x:S93):S72:=⟨x.f0,x.f1⟩
theorem toW_l0 (l:List S93) (hl:l.length≤2000000) (d:Nat):∀ j:Nat,j+d=l.length→Ev (fun k=>laws_toWordS.l0 k l ((l.take j).map cW++List.replicate d z72) (j:Int)) (l.map cW):=by
  induction d with
  |zero=>
    intro j hj
    refine Ev.step (f:=fun _=>some (l.map cW)) (fun k=>?_) (Ev.now _)
    rw[laws_toWordS.l0,if_neg (by omega),List.replicate_zero,List.append_nil,List.take_of_length_le (by omega)]
  |succ d ih=>
    intro j hj
    have hlt:j<l.length:=by omega
    have er:rd_T93 l (j:Int)=l[j]:=by
      unfold rd_T93
      rw[Int.toNat_natCast,List.getD_eq_getElem?_getD,List.getElem?_eq_getElem hlt]
      rfl
    have e:((l.take j).map cW++List.replicate (d+1) z72).set (j:Int).toNat (cW l[j])=(l.take (j+1)).map cW++List.replicate d z72:=by
      have h1:=set_next ((l.take j).map cW) d z72 (cW l[j])
      rw[List.length_map,List.length_take,Nat.min_eq_left (by omega)] at h1
      rw[Int.toNat_natCast,h1]
      congr 1
      rw[List.take_add_one,List.getElem?_eq_getElem hlt,List.map_append]
      rfl
    refine Ev.step (fun k=>?_) (ih (j+1) (by omega))
    have hlen:((l.take j).map cW++List.replicate (d+1) z72).length=l.length:=by rw[List.length_append,List.length_map,List.length_take,List.length_replicate];omega
    rw[laws_toWordS.l0,if_pos (by omega),if_pos (by omega),er]
    unfold laws_toWord.f
    rw[Option.bind_some,hlen,if_pos (by omega),w64 (n:=(j:Int)+1) (by omega) (by omega)]
    show laws_toWordS.l0 k l (((l.take j).map cW++List.replicate (d+1) z72).set (j:Int).toNat (cW l[j])) _=_
    rw[e]
    rfl
theorem toX_ok (l:List S84) (gs:List S91) (m:Bool) (a b c x:Int) (dt:ByteArray) (ws:List S93) (p:Bool) (n:Int) (hl:l.length≤2000000) (hg:gs.length≤2000000) (hw:ws.length≤2000000) (hf:∀ x∈l,Fits0 x):Ev (fun k=>laws_toInstance.f k l gs m a b c x dt ws p n) (l.map cF,gs.map cG,m,a,b,c,x,dt,ws.map cW,p,n):=by
  unfold laws_toInstance.f
  refine Ev.bind (toM_ok l gs m a b c hl hg hf) (Ev.bind (a:=(x,dt,ws.map cW)) ?_ (Ev.now _))
  unfold laws_toState.f laws_toMemory.f
  refine Ev.bind (Ev.now _) (Ev.bind (a:=ws.map cW) ?_ (Ev.now _))
  refine Ev.congr (fun k=>?_) (toW_l0 ws hw ws.length 0 (by omega))
  unfold laws_toWordS.f
  rw[if_pos (by omega),if_pos (by omega),Int.toNat_natCast]
  rfl
theorem szX_ok (l:List S84) (gs:List S91) (m:Bool) (a b c x:Int) (dt:ByteArray) (ws:List S93) (p:Bool) (n:Int) (hl:l.length≤maxLen) (hg:gs.length≤maxLen) (hd:dt.size≤maxLen) (hw:ws.length≤maxLen) (hf:∀ x∈l,x.f0.length≤maxLen∧x.f2.length≤maxLen∧x.f3.length≤maxLen):
    ∃ t,Ev (fun k=>laws_szInstance.f k l gs m a b c x dt ws p n 1048576) t∧(¬t<0→l.length≤1048576∧gs.length≤1048576∧ws.length≤1048576∧∀ x∈l,Fits0 x):=by
  obtain⟨t,h1,h1b,h2⟩:=szM_ok2 l gs m a b c hl hg hf
  rw[ml] at hd hw
  unfold laws_szInstance.f
  by_cases ct:t<0
  · exact⟨-1,Ev.bind h1 (ev_yes ct (Ev.now _)),fun h=>absurd (by decide) h⟩
  · obtain⟨g1,g2,g3⟩:=h2 ct
    unfold laws_szState.f laws_szMemory.f laws_szWordS.f
    have e1:wrap64 (t - (dt.size:Int))=t - (dt.size:Int):=w64 (by omega) (by omega)
    by_cases c1:t - (dt.size:Int)<0
    · refine⟨-1,Ev.bind h1 (ev_no ct ?_),fun h=>absurd (by decide) h⟩
      rw[e1,if_pos c1,Option.bind_some,if_pos (by decide),Option.bind_some,if_pos (by decide)]
      exact Ev.now _
    · by_cases c2:t - (dt.size:Int) - (ws.length:Int)<0
      · refine⟨-1,Ev.bind h1 (ev_no ct ?_),fun h=>absurd (by decide) h⟩
        rw[e1,if_neg c1,Option.bind_some,if_neg c1,w64 (n:=t - (dt.size:Int) - (ws.length:Int)) (by omega) (by omega),if_pos c2,Option.bind_some,if_pos (by decide),Option.bind_some,if_pos (by decide)]
        exact Ev.now _
      · refine⟨t - (dt.size:Int) - (ws.length:Int),Ev.bind h1 (ev_no ct ?_),fun _=>⟨g1,g2,by omega,g3⟩⟩
        rw[e1,if_neg c1,Option.bind_some,if_neg c1,w64 (n:=t - (dt.size:Int) - (ws.length:Int)) (by omega) (by omega),if_neg c2,Option.bind_some,if_neg c2,Option.bind_some,if_neg c2]
        exact Ev.now _
theorem eqW_l0 (l:List S72) (hl:l.length≤2000000) (d:Nat):∀ j:Nat,j+d=l.length→Ev (fun k=>laws_eqWordS.l0 k l l (j:Int)) true:=by
  have e:∀ a b:Int,laws_eqWord.f a b a b=some true:=by intro a b;unfold laws_eqWord.f;rw[if_pos rfl,if_pos rfl]
  induction d with
  |zero=>
    intro j hj
    refine Ev.step (f:=fun _=>some true) (fun k=>?_) (Ev.now _)
    rw[laws_eqWordS.l0,if_neg (by omega)]
  |succ d ih=>
    intro j hj
    refine Ev.step (fun k=>?_) (ih (j+1) (by omega))
    rw[laws_eqWordS.l0,if_pos (show(j:Int)<(l.length:Int) by omega),if_pos (show(0:Int)≤(j:Int) by omega),if_pos (show(j:Int)<(l.length:Int) by omega),e,Option.bind_some,if_pos rfl,w64 (n:=(j:Int)+1) (by omega) (by omega)]
    rfl
theorem eqX_ok (fs:List S88) (gs:List S75) (m:Bool) (a b c x:Int) (dt:ByteArray) (ws:List S72) (p:Bool) (n:Int) (h1:fs.length≤2000000) (h2:gs.length≤2000000) (h3:ws.length≤2000000) (hf:∀ f∈fs,Fits f):Ev (fun k=>laws_eqInstance.f k fs gs m a b c x dt ws p n fs gs m a b c x dt ws p n) true:=by
  unfold laws_eqInstance.f
  refine Ev.bind (eqM_ok fs gs m a b c h1 h2 hf) (ev_yes rfl (Ev.bind (a:=true) ?_ (ev_yes rfl ?_)))
  · unfold laws_eqState.f laws_eqMemory.f
    rw[if_pos rfl,if_pos rfl]
    refine Ev.bind (Ev.now _) (ev_yes rfl (Ev.bind (a:=true) ?_ (ev_yes rfl (Ev.now _))))
    refine Ev.congr (fun k=>?_) (eqW_l0 ws h3 ws.length 0 (by omega))
    unfold laws_eqWordS.f
    rw[if_pos rfl]
    rfl
  · rw[bne_self_eq_false,if_neg (by decide),if_pos rfl]
    exact Ev.now _
end Go.Proofs.Ytanhbfhmgmjdgaa.Mo
