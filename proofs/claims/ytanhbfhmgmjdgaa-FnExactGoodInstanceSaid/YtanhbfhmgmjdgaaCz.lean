/- Modules of the law: their size, their turning into the program's, and equality with themselves. -/
import Derived.Test.YtanhbfhmgmjdgaaMb
import Derived.Test.YtanhbfhmgmjdgaaQx1
import Derived.Test.YtanhbfhmgmjdgaaQx14
import Derived.Test.YtanhbfhmgmjdgaaQx26
namespace Go.Proofs.Ytanhbfhmgmjdgaa.Mo
open Go.RowKit Go.Proofs.Ytanhbfhmgmjdgaa.Q Go.Proofs.YtanhbfhmgmjdgaaW.PrintWords Go.Proofs.YtanhbfhmgmjdgaaW.PrintLast Go.Proofs.YtanhbfhmgmjdgaaW.PrintMore Go.Proofs.Ytanhbfhmgmjdgaa.Mb
set_option linter.unusedSimpArgs false
set_option linter.unusedVariables false
/-! equality -/
theorem eqI_l0 (l:List Int) (hl:l.length≤2000000) (d:Nat):∀ j:Nat,j+d=l.length→Ev (fun k=>laws_eqIntS.l0 k l l (j:Int)) true:=by
  induction d with
  |zero=>
    intro j hj
    refine Ev.step (f:=fun _=>some true) (fun k=>?_) (Ev.now _)
    simp only[laws_eqIntS.l0]
    rw[if_neg (by omega)]
  |succ d ih=>
    intro j hj
    refine Ev.step (fun k=>?_) (ih (j+1) (by omega))
    simp only[laws_eqIntS.l0,if_true]
    rw[if_pos (show(j:Int)<(l.length:Int) by omega),if_pos (show(0:Int)≤(j:Int) by omega),if_pos (show(j:Int)<(l.length:Int) by omega),w64 (n:=(j:Int)+1) (by omega) (by omega)]
    rfl
theorem eqI_ok (l:List Int) (hl:l.length≤2000000):Ev (fun k=>laws_eqIntS.f k l l) true:=by
  refine Ev.congr (fun k=>?_) (eqI_l0 l hl l.length 0 (by omega))
  unfold laws_eqIntS.f
  rw[if_pos rfl]
  rfl
theorem eqN_l0 (l:List S103) (hl:l.length≤2000000) (d:Nat):∀ j:Nat,j+d=l.length→Ev (fun k=>laws_eqInsS.l0 k l l (j:Int)) true:=by
  have e:∀ a b:Int,laws_eqIns.f a b a b=some true:=by intro a b;unfold laws_eqIns.f;rw[if_pos rfl,if_pos rfl]
  induction d with
  |zero=>
    intro j hj
    refine Ev.step (f:=fun _=>some true) (fun k=>?_) (Ev.now _)
    simp only[laws_eqInsS.l0]
    rw[if_neg (by omega)]
  |succ d ih=>
    intro j hj
    refine Ev.step (fun k=>?_) (ih (j+1) (by omega))
    simp only[laws_eqInsS.l0]
    rw[if_pos (show(j:Int)<(l.length:Int) by omega),if_pos (show(0:Int)≤(j:Int) by omega),if_pos (show(j:Int)<(l.length:Int) by omega),e,Option.bind_some,if_pos rfl,w64 (n:=(j:Int)+1) (by omega) (by omega)]
    rfl
theorem eqN_ok (l:List S103) (hl:l.length≤2000000):Ev (fun k=>laws_eqInsS.f k l l) true:=by
  refine Ev.congr (fun k=>?_) (eqN_l0 l hl l.length 0 (by omega))
  unfold laws_eqInsS.f
  rw[if_pos rfl]
  rfl
theorem eqF_ok (f:S88) (hP:f.f0.length≤2000000) (hL:f.f2.length≤2000000) (hB:f.f3.length≤2000000):Ev (fun k=>laws_eqFunc.f k f.f0 f.f1 f.f2 f.f3 f.f0 f.f1 f.f2 f.f3) true:=by
  unfold laws_eqFunc.f
  exact Ev.bind (eqI_ok _ hP) (Ev.congr (fun k=>by rw[if_pos rfl,if_pos rfl]) (Ev.bind (eqI_ok _ hL) (Ev.congr (fun k=>if_pos rfl) (Ev.bind (eqN_ok _ hB) (Ev.congr (fun k=>if_pos rfl) (Ev.now _))))))
def Fits (f:S88):Prop:=f.f0.length≤2000000∧f.f2.length≤2000000∧f.f3.length≤2000000
theorem rd59m (l:List S88) (j:Nat) (hlt:j<l.length):rd_T88 l (j:Int)∈l:=by
  unfold rd_T88
  rw[Int.toNat_natCast,List.getD_eq_getElem?_getD,List.getElem?_eq_getElem hlt]
  exact List.getElem_mem hlt
theorem eqFs_l0 (l:List S88) (hl:l.length≤2000000) (hf:∀ f∈l,Fits f) (d:Nat):∀ j:Nat,j+d=l.length→Ev (fun k=>laws_eqFuncS.l0 k l l (j:Int)) true:=by
  induction d with
  |zero=>
    intro j hj
    refine Ev.step (f:=fun _=>some true) (fun k=>?_) (Ev.now _)
    simp only[laws_eqFuncS.l0]
    rw[if_neg (by omega)]
  |succ d ih=>
    intro j hj
    obtain⟨h1,h2,h3⟩:=hf _ (rd59m l j (by omega))
    refine Ev.step (fun k=>?_) (Ev.bind (eqF_ok (rd_T88 l (j:Int)) h1 h2 h3) (f:=fun k t=>if t=true then laws_eqFuncS.l0 k l l ((j+1:Nat):Int) else some false) (Ev.congr (fun k=>if_pos rfl) (ih (j+1) (by omega))))
    simp only[laws_eqFuncS.l0]
    rw[if_pos (show(j:Int)<(l.length:Int) by omega),if_pos (show(0:Int)≤(j:Int) by omega),if_pos (show(j:Int)<(l.length:Int) by omega),w64 (n:=(j:Int)+1) (by omega) (by omega)]
    rfl
theorem eqG_l0 (l:List S75) (hl:l.length≤2000000) (d:Nat):∀ j:Nat,j+d=l.length→Ev (fun k=>laws_eqGlobalS.l0 k l l (j:Int)) true:=by
  have e:∀ (a:Int) (b:Bool) (c:Int),laws_eqGlobal.f a b c a b c=some true:=by intro a b c;unfold laws_eqGlobal.f;rw[if_pos rfl,bne_self_eq_false,if_neg (by decide),if_pos rfl]
  induction d with
  |zero=>
    intro j hj
    refine Ev.step (f:=fun _=>some true) (fun k=>?_) (Ev.now _)
    simp only[laws_eqGlobalS.l0]
    rw[if_neg (by omega)]
  |succ d ih=>
    intro j hj
    refine Ev.step (fun k=>?_) (ih (j+1) (by omega))
    simp only[laws_eqGlobalS.l0]
    rw[if_pos (show(j:Int)<(l.length:Int) by omega),if_pos (show(0:Int)≤(j:Int) by omega),if_pos (show(j:Int)<(l.length:Int) by omega),e,Option.bind_some,if_pos rfl,w64 (n:=(j:Int)+1) (by omega) (by omega)]
    rfl
theorem eqM_ok (fs:List S88) (gs:List S75) (m:Bool) (a b c:Int) (h1:fs.length≤2000000) (h2:gs.length≤2000000) (hf:∀ f∈fs,Fits f):Ev (fun k=>laws_eqModule.f k fs gs m a b c fs gs m a b c) true:=by
  unfold laws_eqModule.f
  refine Ev.bind (a:=true) ?_ (Ev.congr (fun k=>if_pos rfl) (Ev.bind (a:=true) ?_ (Ev.congr (fun k=>?_) (Ev.now true))))
  · refine Ev.congr (fun k=>?_) (eqFs_l0 fs h1 hf fs.length 0 (by omega))
    unfold laws_eqFuncS.f
    rw[if_pos rfl]
    rfl
  · refine Ev.congr (fun k=>?_) (eqG_l0 gs h2 gs.length 0 (by omega))
    unfold laws_eqGlobalS.f
    rw[if_pos rfl]
    rfl
  · rw[if_pos rfl,bne_self_eq_false,if_neg (by decide),if_pos rfl,if_pos rfl,if_pos rfl]
/-! turning -/
theorem set_next {α:Type} (ys:List α) (d:Nat) (z v:α):(ys++List.replicate (d+1) z).set ys.length v=ys++[v]++List.replicate d z:=by
  rw[List.set_append_right _ _ (Nat.le_refl _),Nat.sub_self,List.replicate_succ,List.set_cons_zero,List.append_assoc];rfl
theorem toI_l0 (l:List Int) (hl:l.length≤2000000) (d:Nat):∀ j:Nat,j+d=l.length→Ev (fun k=>laws_toIntS.l0 k l (l.take j++List.replicate d 0) (j:Int)) l:=by
  induction d with
  |zero=>
    intro j hj
    refine Ev.step (f:=fun _=>some l) (fun k=>?_) (Ev.now _)
    rw[laws_toIntS.l0,if_neg (by omega),List.replicate_zero,List.append_nil,List.take_of_length_le (by omega)]
  |succ d ih=>
    intro j hj
    have hlt:j<l.length:=by omega
    have e:(l.take j++List.replicate (d+1) 0).set (j:Int).toNat (rd l (j:Int))=l.take (j+1)++List.replicate d 0:=by
      have h1:=set_next (l.take j) d 0 (rd l (j:Int))
      rw[List.length_take,Nat.min_eq_left (by omega)] at h1
      rw[Int.toNat_natCast,h1]
      congr 1
      unfold rd
      rw[Int.toNat_natCast,List.getD_eq_getElem?_getD,List.getElem?_eq_getElem hlt,List.take_add_one,List.getElem?_eq_getElem hlt]
      rfl
    refine Ev.step (fun k=>?_) (ih (j+1) (by omega))
    have hlen:(l.take j++List.replicate (d+1) (0:Int)).length=l.length:=by rw[List.length_append,List.length_take,List.length_replicate];omega
    rw[laws_toIntS.l0,hlen,if_pos (by omega),if_pos (by omega),if_pos (by omega),e,w64 (n:=(j:Int)+1) (by omega) (by omega)]
    rfl
theorem toI_ok (l:List Int) (hl:l.length≤2000000):Ev (fun k=>laws_toIntS.f k l) l:=by
  have h:=toI_l0 l hl l.length 0 (by omega)
  refine Ev.congr (fun k=>?_) h
  unfold laws_toIntS.f
  rw[if_pos (by omega),if_pos (by omega),Int.toNat_natCast]
  rfl
def cI (x:S133):S103:=⟨x.f0,x.f1⟩
theorem toN_l0 (l:List S133) (hl:l.length≤2000000) (d:Nat):∀ j:Nat,j+d=l.length→Ev (fun k=>laws_toInsS.l0 k l ((l.take j).map cI++List.replicate d z103) (j:Int)) (l.map cI):=by
  induction d with
  |zero=>
    intro j hj
    refine Ev.step (f:=fun _=>some (l.map cI)) (fun k=>?_) (Ev.now _)
    rw[laws_toInsS.l0,if_neg (by omega),List.replicate_zero,List.append_nil,List.take_of_length_le (by omega)]
  |succ d ih=>
    intro j hj
    have hlt:j<l.length:=by omega
    have er:rd_T133 l (j:Int)=l[j]:=by
      unfold rd_T133
      rw[Int.toNat_natCast,List.getD_eq_getElem?_getD,List.getElem?_eq_getElem hlt]
      rfl
    have e:((l.take j).map cI++List.replicate (d+1) z103).set (j:Int).toNat (cI l[j])=(l.take (j+1)).map cI++List.replicate d z103:=by
      have h1:=set_next ((l.take j).map cI) d z103 (cI l[j])
      rw[List.length_map,List.length_take,Nat.min_eq_left (by omega)] at h1
      rw[Int.toNat_natCast,h1]
      congr 1
      rw[List.take_add_one,List.getElem?_eq_getElem hlt,List.map_append]
      rfl
    refine Ev.step (fun k=>?_) (ih (j+1) (by omega))
    have hlen:((l.take j).map cI++List.replicate (d+1) z103).length=l.length:=by rw[List.length_append,List.length_map,List.length_take,List.length_replicate];omega
    rw[laws_toInsS.l0,if_pos (by omega),if_pos (by omega),er]
    unfold laws_toIns.f
    rw[Option.bind_some,hlen,if_pos (by omega),w64 (n:=(j:Int)+1) (by omega) (by omega)]
    show laws_toInsS.l0 k l (((l.take j).map cI++List.replicate (d+1) z103).set (j:Int).toNat (cI l[j])) _=_
    rw[e]
    rfl
theorem toN_ok (l:List S133) (hl:l.length≤2000000):Ev (fun k=>laws_toInsS.f k l) (l.map cI):=by
  have h:=toN_l0 l hl l.length 0 (by omega)
  refine Ev.congr (fun k=>?_) h
  unfold laws_toInsS.f
  rw[if_pos (by omega),if_pos (by omega),Int.toNat_natCast]
  rfl
def cF (x:S84):S88:=⟨x.f0,x.f1,x.f2,x.f3.map cI⟩
def Fits0 (x:S84):Prop:=x.f0.length≤2000000∧x.f2.length≤2000000∧x.f3.length≤2000000
theorem toF_ok (x:S84) (h:Fits0 x):Ev (fun k=>laws_toFunc.f k x.f0 x.f1 x.f2 x.f3) (x.f0,x.f1,x.f2,x.f3.map cI):=by
  unfold laws_toFunc.f
  exact Ev.bind (toI_ok _ h.1) (Ev.bind (toI_ok _ h.2.1) (Ev.bind (toN_ok _ h.2.2) (Ev.now _)))
theorem toFs_l0 (l:List S84) (hl:l.length≤2000000) (hf:∀ x∈l,Fits0 x) (d:Nat):∀ j:Nat,j+d=l.length→Ev (fun k=>laws_toFuncS.l0 k l ((l.take j).map cF++List.replicate d z88) (j:Int)) (l.map cF):=by
  induction d with
  |zero=>
    intro j hj
    refine Ev.step (f:=fun _=>some (l.map cF)) (fun k=>?_) (Ev.now _)
    rw[laws_toFuncS.l0,if_neg (by omega),List.replicate_zero,List.append_nil,List.take_of_length_le (by omega)]
  |succ d ih=>
    intro j hj
    have hlt:j<l.length:=by omega
    have er:rd_T84 l (j:Int)=l[j]:=by
      unfold rd_T84
      rw[Int.toNat_natCast,List.getD_eq_getElem?_getD,List.getElem?_eq_getElem hlt]
      rfl
    have e:((l.take j).map cF++List.replicate (d+1) z88).set (j:Int).toNat (cF l[j])=(l.take (j+1)).map cF++List.replicate d z88:=by
      have h1:=set_next ((l.take j).map cF) d z88 (cF l[j])
      rw[List.length_map,List.length_take,Nat.min_eq_left (by omega)] at h1
      rw[Int.toNat_natCast,h1]
      congr 1
      rw[List.take_add_one,List.getElem?_eq_getElem hlt,List.map_append]
      rfl
    have hlen:((l.take j).map cF++List.replicate (d+1) z88).length=l.length:=by rw[List.length_append,List.length_map,List.length_take,List.length_replicate];omega
    refine Ev.step (fun k=>?_) (Ev.bind (toF_ok l[j] (hf _ (List.getElem_mem hlt))) (f:=fun k bt=>laws_toFuncS.l0 k l (((l.take j).map cF++List.replicate (d+1) z88).set (j:Int).toNat (⟨bt.1,bt.2.1,bt.2.2.1,bt.2.2.2⟩:S88)) ((j+1:Nat):Int)) ?_)
    · rw[laws_toFuncS.l0,if_pos (by omega),if_pos (by omega),er,hlen]
      congr 1
      funext bt
      rw[if_pos (by omega),w64 (n:=(j:Int)+1) (by omega) (by omega)]
      rfl
    · have h2:=ih (j+1) (by omega)
      rw[←e] at h2
      exact h2
theorem toFs_ok (l:List S84) (hl:l.length≤2000000) (hf:∀ x∈l,Fits0 x):Ev (fun k=>laws_toFuncS.f k l) (l.map cF):=by
  have h:=toFs_l0 l hl hf l.length 0 (by omega)
  refine Ev.congr (fun k=>?_) h
  unfold laws_toFuncS.f
  rw[if_pos (by omega),if_pos (by omega),Int.toNat_natCast]
  rfl
def cG (x:S91):S75:=⟨x.f0,x.f1,x.f2⟩
theorem toG_l0 (l:List S91) (hl:l.length≤2000000) (d:Nat):∀ j:Nat,j+d=l.length→Ev (fun k=>laws_toGlobalS.l0 k l ((l.take j).map cG++List.replicate d z75) (j:Int)) (l.map cG):=by
  induction d with
  |zero=>
    intro j hj
    refine Ev.step (f:=fun _=>some (l.map cG)) (fun k=>?_) (Ev.now _)
    rw[laws_toGlobalS.l0,if_neg (by omega),List.replicate_zero,List.append_nil,List.take_of_length_le (by omega)]
  |succ d ih=>
    intro j hj
    have hlt:j<l.length:=by omega
    have er:rd_T91 l (j:Int)=l[j]:=by
      unfold rd_T91
      rw[Int.toNat_natCast,List.getD_eq_getElem?_getD,List.getElem?_eq_getElem hlt]
      rfl
    have e:((l.take j).map cG++List.replicate (d+1) z75).set (j:Int).toNat (cG l[j])=(l.take (j+1)).map cG++List.replicate d z75:=by
      have h1:=set_next ((l.take j).map cG) d z75 (cG l[j])
      rw[List.length_map,List.length_take,Nat.min_eq_left (by omega)] at h1
      rw[Int.toNat_natCast,h1]
      congr 1
      rw[List.take_add_one,List.getElem?_eq_getElem hlt,List.map_append]
      rfl
    have hlen:((l.take j).map cG++List.replicate (d+1) z75).length=l.length:=by rw[List.length_append,List.length_map,List.length_take,List.length_replicate];omega
    refine Ev.step (fun k=>?_) (ih (j+1) (by omega))
    rw[laws_toGlobalS.l0,if_pos (by omega),if_pos (by omega),er]
    unfold laws_toGlobal.f
    rw[Option.bind_some,hlen,if_pos (by omega),w64 (n:=(j:Int)+1) (by omega) (by omega)]
    show laws_toGlobalS.l0 k l (((l.take j).map cG++List.replicate (d+1) z75).set (j:Int).toNat (cG l[j])) _=_
    rw[e]
    rfl
theorem toM_ok (l:List S84) (gs:List S91) (m:Bool) (a b c:Int) (hl:l.length≤2000000) (hg:gs.length≤2000000) (hf:∀ x∈l,Fits0 x):Ev (fun k=>laws_toModule.f k l gs m a b c) (l.map cF,gs.map cG,m,a,b,c):=by
  unfold laws_toModule.f
  refine Ev.bind (toFs_ok l hl hf) (Ev.bind (a:=gs.map cG) ?_ (Ev.now _))
  refine Ev.congr (fun k=>?_) (toG_l0 gs hg gs.length 0 (by omega))
  unfold laws_toGlobalS.f
  rw[if_pos (by omega),if_pos (by omega),Int.toNat_natCast]
  rfl
/-! size -/
theorem ml:maxLen=9223372036854775807:=rfl
theorem szI_ok (l:List Int) (a:Int) (h0:0≤a) (h1:a≤1048576) (hl:l.length≤maxLen):laws_szIntS.f l a=some (if a - (l.length:Int)<0 then -1 else a - (l.length:Int)):=by
  rw[ml] at hl
  unfold laws_szIntS.f
  rw[w64 (n:=a - (l.length:Int)) (by omega) (by omega)]
  split<;>rfl
theorem szN_ok (l:List S133) (a:Int) (h0:0≤a) (h1:a≤1048576) (hl:l.length≤maxLen):laws_szInsS.f l a=some (if a - (l.length:Int)<0 then -1 else a - (l.length:Int)):=by
  rw[ml] at hl
  unfold laws_szInsS.f
  rw[w64 (n:=a - (l.length:Int)) (by omega) (by omega)]
  split<;>rfl
theorem szF_ok (x:S84) (a:Int) (h0:0≤a) (h1:a≤1048576) (g0:x.f0.length≤maxLen) (g2:x.f2.length≤maxLen) (g3:x.f3.length≤maxLen):∃ t,laws_szFunc.f x.f0 x.f1 x.f2 x.f3 a=some t∧t≤1048576∧(0≤t→Fits0 x):=by
  unfold laws_szFunc.f
  rw[szI_ok _ a h0 h1 g0,Option.bind_some]
  by_cases c1:a - (x.f0.length:Int)<0
  · rw[if_pos c1,if_pos (by decide)];exact⟨-1,rfl,by decide,fun h=>absurd h (by decide)⟩
  · rw[if_neg c1,if_neg c1,szI_ok _ _ (by omega) (by omega) g2,Option.bind_some]
    by_cases c2:a - (x.f0.length:Int) - (x.f2.length:Int)<0
    · rw[if_pos c2,if_pos (by decide)];exact⟨-1,rfl,by decide,fun h=>absurd h (by decide)⟩
    · rw[if_neg c2,if_neg c2,szN_ok _ _ (by omega) (by omega) g3,Option.bind_some]
      by_cases c3:a - (x.f0.length:Int) - (x.f2.length:Int) - (x.f3.length:Int)<0
      · rw[if_pos c3,if_pos (by decide)];exact⟨-1,rfl,by decide,fun h=>absurd h (by decide)⟩
      · rw[if_neg c3,if_neg c3]
        exact⟨_,rfl,by omega,fun _=>⟨by omega,by omega,by omega⟩⟩
theorem szFs_l0 (l:List S84) (hl:l.length≤2000000) (hw:∀ x∈l,x.f0.length≤maxLen∧x.f2.length≤maxLen∧x.f3.length≤maxLen) (d:Nat):∀ (j:Nat) (a:Int),j+d=l.length→0≤a→a≤1048576→∃ t,Ev (fun k=>laws_szFuncS.l0 k l a (j:Int)) t∧t≤1048576∧(0≤t→∀ x∈l.drop j,Fits0 x):=by
  induction d with
  |zero=>
    intro j a hj h0 h1
    refine⟨a,Ev.step (f:=fun _=>some a) (fun k=>?_) (Ev.now _),h1,fun _ x hx=>?_⟩
    · rw[laws_szFuncS.l0,if_neg (by omega)]
    · rw[List.drop_of_length_le (by omega)] at hx;cases hx
  |succ d ih=>
    intro j a hj h0 h1
    have hlt:j<l.length:=by omega
    have er:rd_T84 l (j:Int)=l[j]:=by
      unfold rd_T84
      rw[Int.toNat_natCast,List.getD_eq_getElem?_getD,List.getElem?_eq_getElem hlt]
      rfl
    obtain⟨g0,g2,g3⟩:=hw _ (List.getElem_mem hlt)
    obtain⟨t,e,ht,hF⟩:=szF_ok l[j] a h0 h1 g0 g2 g3
    by_cases ct:t<0
    · refine⟨-1,Ev.step (f:=fun _=>some (-1)) (fun k=>?_) (Ev.now _),by decide,fun h=>absurd h (by decide)⟩
      rw[laws_szFuncS.l0,if_pos (by omega),if_pos (by omega),er,e,Option.bind_some,if_pos ct]
    · obtain⟨t2,h2,h3,h4⟩:=ih (j+1) t (by omega) (by omega) ht
      refine⟨t2,Ev.step (fun k=>?_) h2,h3,fun h x hx=>?_⟩
      · rw[laws_szFuncS.l0,if_pos (by omega),if_pos (by omega),er,e,Option.bind_some,if_neg ct,w64 (n:=(j:Int)+1) (by omega) (by omega)]
        rfl
      · rw[List.drop_eq_getElem_cons hlt] at hx
        rcases List.mem_cons.1 hx with hx|hx
        · rw[hx];exact hF (by omega)
        · exact h4 h x hx
theorem szM_ok2 (l:List S84) (gs:List S91) (m:Bool) (a b c:Int) (hl:l.length≤maxLen) (hg:gs.length≤maxLen) (hw:∀ x∈l,x.f0.length≤maxLen∧x.f2.length≤maxLen∧x.f3.length≤maxLen):
    ∃ t,Ev (fun k=>laws_szModule.f k l gs m a b c 1048576) t∧t≤1048576∧(¬t<0→l.length≤1048576∧gs.length≤1048576∧∀ x∈l,Fits0 x):=by
  rw[ml] at hl hg
  unfold laws_szModule.f laws_szFuncS.f
  rw[w64 (n:=1048576 - (l.length:Int)) (by omega) (by omega)]
  by_cases c1:1048576 - (l.length:Int)<0
  · refine⟨-1,Ev.congr (f:=fun _=>some (-1)) (fun k=>?_) (Ev.now _),by decide,fun h=>absurd (by decide) h⟩
    rw[if_pos c1,Option.bind_some,if_pos (by decide)]
  · obtain⟨t,h1,h2,h3⟩:=szFs_l0 l (by omega) hw l.length 0 (1048576 - (l.length:Int)) (by omega) (by omega) (by omega)
    by_cases ct:t<0
    · refine⟨-1,Ev.bind (a:=t) (Ev.congr (fun k=>if_neg c1) h1) (Ev.congr (fun k=>if_pos ct) (Ev.now _)),by decide,fun h=>absurd (by decide) h⟩
    · have e:laws_szGlobalS.f gs t=some (if t - (gs.length:Int)<0 then -1 else t - (gs.length:Int)):=by
        unfold laws_szGlobalS.f
        rw[w64 (n:=t - (gs.length:Int)) (by omega) (by omega)]
        split<;>rfl
      have h3:=h3 (by omega)
      rw[List.drop_zero] at h3
      by_cases cg:t - (gs.length:Int)<0
      · refine⟨-1,Ev.bind (a:=t) (Ev.congr (fun k=>if_neg c1) h1) (Ev.congr (fun k=>?_) (Ev.now _)),by decide,fun h=>absurd (by decide) h⟩
        rw[if_neg ct,e,Option.bind_some,if_pos cg,if_pos (by decide)]
      · refine⟨t - (gs.length:Int),Ev.bind (a:=t) (Ev.congr (fun k=>if_neg c1) h1) (Ev.congr (fun k=>?_) (Ev.now _)),by omega,fun _=>⟨by omega,by omega,h3⟩⟩
        rw[if_neg ct,e,Option.bind_some,if_neg cg,if_neg cg]
theorem szM_ok (l:List S84) (gs:List S91) (m:Bool) (a b c:Int) (hl:l.length≤maxLen) (hg:gs.length≤maxLen) (hw:∀ x∈l,x.f0.length≤maxLen∧x.f2.length≤maxLen∧x.f3.length≤maxLen):
    ∃ t,Ev (fun k=>laws_szModule.f k l gs m a b c 1048576) t∧(¬t<0→l.length≤1048576∧gs.length≤1048576∧∀ x∈l,Fits0 x):=
  let ⟨t,h,_,h2⟩:=szM_ok2 l gs m a b c hl hg hw;⟨t,h,h2⟩
theorem fits_of {l:List S84} (h:∀ x∈l,Fits0 x):∀ f∈l.map cF,Fits f:=fun f hf=>by
  obtain⟨x,hx,rfl⟩:=List.mem_map.1 hf
  obtain⟨h1,h2,h3⟩:=h x hx
  exact⟨h1,h2,by show(x.f3.map cI).length≤_;rw[List.length_map];exact h3⟩
end Go.Proofs.Ytanhbfhmgmjdgaa.Mo
