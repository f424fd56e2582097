/- The checkers' steps side by side: what both states tell is alike, or both have the same fault. -/
import Derived.Test.YtanhbfhmgmjdgaaCg
import Derived.Test.YtanhbfhmgmjdgaaQx23
import Derived.Test.YtanhbfhmgmjdgaaQx10
namespace Go.Proofs.Ytanhbfhmgmjdgaa.Ck
open Go.RowKit Go.Proofs.Ytanhbfhmgmjdgaa.Q Go.Proofs.YtanhbfhmgmjdgaaW.PrintWords Go.Proofs.YtanhbfhmgmjdgaaW.PrintLast Go.Proofs.YtanhbfhmgmjdgaaW.PrintMore Go.Proofs.Ytanhbfhmgmjdgaa.Mb Go.Proofs.Ytanhbfhmgmjdgaa.Ins
set_option linter.unusedSimpArgs false
set_option linter.unusedVariables false
def rho (t:Int):Int:=if t=0 then 1 else t
def cv (b:S101):S131:=⟨b.f0,b.f1,b.f2,b.f3,b.f4⟩
def Ty (t:Int):Prop:=125≤t∧t≤127
theorem rho_ty {t:Int} (h:Ty t):rho t=t:=if_neg (by unfold Ty at h;omega)
structure Gd (m n:Nat) (c:CS S101) (d:CS S131):Prop where
  f1:c.fa=0
  f2:d.fa=0
  st:d.st=c.st.map rho
  ty:∀ t∈c.st,t=0∨Ty t
  sp:d.sp=c.sp.map cv
  hi:c.hi=d.hi
  ln:c.st.length≤n
  lm:c.sp.length=m
  hs:∀ b∈c.sp,0≤b.f2∧b.f2≤(c.st.length:Int)∧(b.f1=64∨Ty b.f1)
  pw:c.sp.Pairwise (fun a b=>a.f2≤b.f2)
structure Bd (m n:Nat) (c:CS S101) (d:CS S131):Prop where
  ne:c.fa≠0
  eq:c.fa=d.fa
  l1:c.st.length≤n
  l2:d.st.length≤n
  m1:c.sp.length=m
  m2:d.sp.length=m
  hs:∀ b∈c.sp,0≤b.f2
def R (m n:Nat) (c:CS S101) (d:CS S131):Prop:=Gd m n c d∨Bd m n c d
theorem Bd.dne {m n:Nat} {c:CS S101} {d:CS S131} (h:Bd m n c d):d.fa≠0:=h.eq▸h.ne
theorem Gd.dl {m n:Nat} {c:CS S101} {d:CS S131} (h:Gd m n c d):d.st.length=c.st.length:=by rw[h.st,List.length_map]
theorem Gd.dm {m n:Nat} {c:CS S101} {d:CS S131} (h:Gd m n c d):d.sp.length=m:=by rw[h.sp,List.length_map,h.lm]
theorem R.m1 {m n:Nat} {c:CS S101} {d:CS S131} (h:R m n c d):c.sp.length=m:=h.elim (·.lm) (·.m1)
theorem R.m2 {m n:Nat} {c:CS S101} {d:CS S131} (h:R m n c d):d.sp.length=m:=h.elim (·.dm) (·.m2)
theorem R.good {m n:Nat} {c:CS S101} {d:CS S131} (h:R m n c d) (h0:c.fa=0):Gd m n c d:=h.elim id (fun b=>absurd h0 b.ne)
theorem R.fa {m n:Nat} {c:CS S101} {d:CS S131} (h:R m n c d):c.fa=d.fa:=h.elim (fun g=>g.f1.trans g.f2.symm) (·.eq)
theorem fail_of {β:Type} (c:CS β) (k:Int) (h:c.fa≠0):c.fail k=c:=if_neg h
theorem fail_no {β:Type} (c:CS β) (k:Int) (h:c.fa=0):(c.fail k).fa=k:=by unfold CS.fail;rw[if_pos h]
theorem fail_R {m n:Nat} {c:CS S101} {d:CS S131} (h:R m n c d) (k:Int) (hk:k≠0):Bd m n (c.fail k) (d.fail k):=by
  rcases h with g|b
  · refine⟨by rw[fail_no c k g.f1];exact hk,by rw[fail_no c k g.f1,fail_no d k g.f2],?_,?_,?_,?_,?_⟩
    · rw[(fail_st c k).1];exact g.ln
    · rw[(fail_st d k).1,g.dl];exact g.ln
    · rw[(fail_st c k).2];exact g.lm
    · rw[(fail_st d k).2];exact g.dm
    · rw[(fail_st c k).2];exact fun b hb=>(g.hs b hb).1
  · rw[fail_of c k b.ne,fail_of d k b.dne];exact b
/-- The uppermost one. -/
theorem top_of {α:Type} {m:Nat} (l:List α) (h:l.length=m+1):∃ xs b,l=xs++[b]∧xs.length=m:=by
  have hne:l≠[]:=by intro e;rw[e] at h;cases h
  refine⟨l.dropLast,l.getLast hne,(List.dropLast_concat_getLast hne).symm,?_⟩
  rw[List.length_dropLast,h];rfl
theorem top_get {α:Type} (xs:List α) (b:α):(xs++[b])[(xs++[b]).length - 1]? =some b:=by
  rw[List.length_append,List.length_singleton,Nat.add_sub_cancel,List.getElem?_append_right (Nat.le_refl _),Nat.sub_self];rfl
theorem top_set {α:Type} (xs:List α) (b u:α):(xs++[b]).set ((xs++[b]).length - 1) u=xs++[u]:=by
  rw[List.length_append,List.length_singleton,Nat.add_sub_cancel,List.set_append_right _ _ (Nat.le_refl _),Nat.sub_self];rfl
theorem top_take {α:Type} (xs:List α) (b:α):(xs++[b]).take ((xs++[b]).length - 1)=xs:=by
  rw[List.length_append,List.length_singleton,Nat.add_sub_cancel,List.take_left]
theorem take_R {m n:Nat} {c:CS S101} {d:CS S131} (h:R (m+1) n c d) (w w':Int) (hw:c.fa=0→(w=0∨Ty w)∧w'=rho w):
    ∃ c' t d' u,takeC c w=some (c',t)∧takeS d w'=some (d',u)∧R (m+1) n c' d'∧c'.sp=c.sp∧d'.sp=d.sp∧(c'.fa=0→c.fa=0∧(t=0∨Ty t)∧u=(if t=0 then w' else t)):=by
  rcases h with g|b
  · obtain⟨hw1,rfl⟩:=hw g.f1
    have hw64:¬rho w=64:=by unfold rho;unfold Ty at hw1;split<;>omega
    obtain⟨xs,b,hx,hxl⟩:=top_of c.sp g.lm
    have hb:=g.hs b (by rw[hx];simp)
    have hd:d.sp=xs.map cv++[cv b]:=by rw[g.sp,hx,List.map_append];rfl
    have gt:c.sp[c.sp.length - 1]? =some b:=by rw[hx];exact top_get xs b
    have gd:d.sp[d.sp.length - 1]? =some (cv b):=by rw[hd];exact top_get _ _
    unfold takeC takeS
    rw[if_neg hw64,if_neg (by rw[g.f2];decide),gt,gd,Option.bind_some,Option.bind_some,g.dl]
    have e2:(cv b).f2=b.f2:=rfl
    have e3:(cv b).f3=b.f3:=rfl
    rw[e2,e3]
    by_cases ce:(c.st.length:Int)≤b.f2
    · have ce2:(c.st.length:Int)=b.f2:=by omega
      rw[if_pos ce,if_pos ce2]
      by_cases c3:b.f3=true
      · rw[if_pos c3,if_pos c3]
        exact⟨c,0,d,_,rfl,rfl,.inl g,rfl,rfl,fun _=>⟨g.f1,.inl rfl,by rw[if_pos rfl]⟩⟩
      · rw[if_neg c3,if_neg c3]
        have hB:=fail_R (.inl g) 2 (by decide)
        exact⟨_,0,_,_,rfl,rfl,.inr hB,(fail_st c 2).2,(fail_st d 2).2,fun h0=>absurd h0 hB.ne⟩
    · have ce2:¬(c.st.length:Int)=b.f2:=by omega
      rw[if_neg ce,if_neg ce2]
      obtain⟨ys,t,hy,hyl⟩:=top_of (m:=c.st.length - 1) c.st (by omega)
      have ht:=g.ty t (by rw[hy];simp)
      have hds:d.st=ys.map rho++[rho t]:=by rw[g.st,hy,List.map_append];rfl
      have s1:c.st[c.st.length - 1]? =some t:=by rw[hy];exact top_get ys t
      have s2:d.st[c.st.length - 1]? =some (rho t):=by rw[←g.dl,hds];exact top_get _ _
      have s3:c.st.take (c.st.length - 1)=ys:=by rw[hy];exact top_take ys t
      have s4:d.st.take (c.st.length - 1)=ys.map rho:=by rw[←g.dl,hds];exact top_take _ _
      rw[s1,s2,Option.bind_some,Option.bind_some,s3,s4]
      have hG:Gd (m+1) n ({c with st:=ys}:CS S101) ({d with st:=ys.map rho}:CS S131):=by
        refine⟨g.f1,g.f2,rfl,fun x hx'=>g.ty x (by rw[hy];simp[hx']),g.sp,g.hi,?_,g.lm,fun b' hb'=>?_,g.pw⟩
        · have:=g.ln;show ys.length≤n;omega
        · have h1:=g.hs b' hb'
          refine⟨h1.1,?_,h1.2.2⟩
          show b'.f2≤(ys.length:Int)
          have hle:b'.f2≤b.f2:=by
            have hp:=g.pw
            rw[hx,List.pairwise_append] at hp
            rw[hx] at hb'
            rcases List.mem_append.1 hb' with h2|h2
            · exact hp.2.2 b' h2 b (by simp)
            · rw[List.mem_singleton] at h2;rw[h2];exact Int.le_refl _
          omega
      have hcond:(w≠0∧t≠0∧w≠t)↔(rho t≠rho w∧rho t≠1∧rho w≠1):=by
        unfold rho;unfold Ty at hw1 ht
        split<;>split<;>omega
      have hu:(if rho t=1 then rho w else rho t)=(if t=0 then rho w else t):=by
        unfold rho;unfold Ty at ht
        by_cases h0:t=0
        · simp[h0]
        · rw[if_neg h0,if_neg h0,if_neg (by omega)]
      by_cases cc:w≠0∧t≠0∧w≠t
      · rw[if_pos cc,if_pos (hcond.1 cc)]
        have hB:=fail_R (.inl hG) 3 (by decide)
        exact⟨_,_,_,_,rfl,rfl,.inr hB,(fail_st _ 3).2,(fail_st _ 3).2,fun h0=>absurd h0 hB.ne⟩
      · rw[if_neg cc,if_neg (fun h=>cc (hcond.2 h))]
        exact⟨_,_,_,_,rfl,rfl,.inl hG,rfl,rfl,fun _=>⟨g.f1,ht,hu⟩⟩
  · obtain⟨xs,b0,hx,hxl⟩:=top_of c.sp b.m1
    have gt:c.sp[c.sp.length - 1]? =some b0:=by rw[hx];exact top_get xs b0
    have h2:=b.hs b0 (by rw[hx];simp)
    have hS:takeS d w'=some (d,w'):=by
      unfold takeS
      by_cases h64:w'=64
      · rw[if_pos h64]
      · rw[if_neg h64,if_pos b.dne]
    have hC:∃ c' t,takeC c w=some (c',t)∧c'.fa=c.fa∧c'.st.length≤n∧c'.sp=c.sp:=by
      unfold takeC
      rw[gt,Option.bind_some]
      by_cases ce:(c.st.length:Int)≤b0.f2
      · rw[if_pos ce,fail_of c 2 b.ne]
        refine⟨_,_,rfl,?_,?_,?_⟩<;>split<;>first|rfl|exact b.l1
      · rw[if_neg ce]
        obtain⟨ys,t,hy,hyl⟩:=top_of (m:=c.st.length - 1) c.st (by omega)
        have s1:c.st[c.st.length - 1]? =some t:=by rw[hy];exact top_get ys t
        have s3:(c.st.take (c.st.length - 1)).length≤n:=by rw[List.length_take];have:=b.l1;omega
        rw[s1,Option.bind_some,fail_of _ 3 (show({c with st:=c.st.take (c.st.length - 1)}:CS S101).fa≠0 from b.ne)]
        by_cases cc:w≠0∧t≠0∧w≠t
        · rw[if_pos cc];exact⟨_,_,rfl,rfl,s3,rfl⟩
        · rw[if_neg cc];exact⟨_,_,rfl,rfl,s3,rfl⟩
    obtain⟨c',t,h1,h3,h4,h5⟩:=hC
    refine⟨c',t,d,w',h1,hS,.inr ⟨by rw[h3];exact b.ne,by rw[h3];exact b.eq,h4,b.l2,by rw[h5];exact b.m1,b.m2,by rw[h5];exact b.hs⟩,h5,rfl,fun h0=>absurd (h3▸h0) b.ne⟩
theorem takeK_R {m n:Nat} {c:CS S101} {d:CS S131} (h:R (m+1) n c d) (k k':Int) (hk:c.fa=0→(k=64∨Ty k)∧k'=k):
    ∃ c' d' u,takeKC c k=some c'∧takeS d k'=some (d',u)∧R (m+1) n c' d'∧c'.sp=c.sp∧d'.sp=d.sp∧(c'.fa=0→c.fa=0):=by
  unfold takeKC
  by_cases c64:k=64
  · rw[if_pos c64]
    refine⟨c,d,k',rfl,?_,h,rfl,rfl,fun h0=>h0⟩
    unfold takeS
    by_cases h0:c.fa=0
    · rw[if_pos ((hk h0).2.trans c64)]
    · by_cases h64:k'=64
      · rw[if_pos h64]
      · rw[if_neg h64,if_pos (by rw[←h.fa];exact h0)]
  · rw[if_neg c64]
    obtain⟨c',t,d',u,h1,h2,h3,h4,h5,h6⟩:=take_R h k k' (fun h0=>by
      obtain⟨h1,rfl⟩:=hk h0
      have h1:=h1.resolve_left c64
      exact⟨.inr h1,(rho_ty h1).symm⟩)
    exact⟨c',d',u,by rw[h1];rfl,h2,h3,h4,h5,fun h0=>(h6 h0).1⟩
theorem put_R {m n:Nat} {c:CS S101} {d:CS S131} (h:R m n c d) (t u:Int) (hn:n<17592186044416) (ht:c.fa=0→(t=64∧u=64)∨((t=0∨Ty t)∧u=rho t)):
    ∃ c' d',c.put t=some c'∧d.put u=some d'∧R m (n+1) c' d':=by
  rcases h with g|b
  · rcases ht g.f1 with ⟨rfl,rfl⟩|⟨ht1,rfl⟩
    · refine⟨c,d,if_pos rfl,if_pos rfl,.inl ⟨g.f1,g.f2,g.st,g.ty,g.sp,g.hi,Nat.le_succ_of_le g.ln,g.lm,g.hs,g.pw⟩⟩
    · have h64:¬t=64:=by unfold Ty at ht1;omega
      have h64':¬rho t=64:=by unfold rho;unfold Ty at ht1;split<;>omega
      have hl:=g.ln
      unfold CS.put
      have l1:c.st.length<17592186044416:=by omega
      have l2:d.st.length<17592186044416:=by rw[g.dl];omega
      rw[if_neg h64,if_neg h64',if_pos l1,if_pos l2]
      refine⟨_,_,rfl,rfl,.inl ⟨g.f1,g.f2,?_,?_,g.sp,?_,?_,g.lm,?_,g.pw⟩⟩
      · show d.st++[rho t]=(c.st++[t]).map rho
        rw[g.st,List.map_append];rfl
      · intro x hx
        rcases List.mem_append.1 hx with hx|hx
        · exact g.ty x hx
        · rw[List.mem_singleton] at hx;rw[hx];exact ht1
      · show(if c.hi<(c.st.length:Int)+1 then (c.st.length:Int)+1 else c.hi)=_
        rw[g.dl,g.hi]
      · show(c.st++[t]).length≤n+1
        rw[List.length_append,List.length_singleton];omega
      · intro b hb
        have h1:=g.hs b hb
        refine⟨h1.1,?_,h1.2.2⟩
        show b.f2≤((c.st++[t]).length:Int)
        rw[List.length_append,List.length_singleton];omega
  · have hp:∀ {β:Type} (x:CS β) (k:Int),x.st.length≤n→∃ x',x.put k=some x'∧x'.fa=x.fa∧x'.st.length≤n+1∧x'.sp=x.sp:=by
      intro β x k hx
      unfold CS.put
      by_cases h64:k=64
      · rw[if_pos h64];exact⟨x,rfl,rfl,by omega,rfl⟩
      · rw[if_neg h64,if_pos (by omega)]
        refine⟨_,rfl,rfl,?_,rfl⟩
        show(x.st++[k]).length≤n+1
        rw[List.length_append,List.length_singleton];omega
    obtain⟨c',h1,h2,h3,h4⟩:=hp c t b.l1
    obtain⟨d',h5,h6,h7,h8⟩:=hp d u b.l2
    exact⟨c',d',h1,h5,.inr ⟨by rw[h2];exact b.ne,by rw[h2,h6];exact b.eq,h3,h7,by rw[h4];exact b.m1,by rw[h8];exact b.m2,by rw[h4];exact b.hs⟩⟩
theorem die_R {m n:Nat} {c:CS S101} {d:CS S131} (h:R (m+1) n c d):∃ c' d',dieC c=some c'∧dieS d=some d'∧R (m+1) n c' d':=by
  have hxs:∃ xs b,c.sp=xs++[b]∧xs.length=m:=top_of c.sp h.m1
  obtain⟨xs,b,hx,hxl⟩:=hxs
  have gt:c.sp[c.sp.length - 1]? =some b:=by rw[hx];exact top_get xs b
  have gs:c.sp.set (c.sp.length - 1) {b with f3:=true}=xs++[{b with f3:=true}]:=by rw[hx];exact top_set xs b _
  unfold dieC
  rw[gt,Option.bind_some,gs]
  rcases h with g|bb
  · have hb:=g.hs b (by rw[hx];simp)
    have hd:d.sp=xs.map cv++[cv b]:=by rw[g.sp,hx,List.map_append];rfl
    have gd:d.sp[d.sp.length - 1]? =some (cv b):=by rw[hd];exact top_get _ _
    have gds:d.sp.set (d.sp.length - 1) {cv b with f3:=true}=xs.map cv++[{cv b with f3:=true}]:=by rw[hd];exact top_set _ _ _
    unfold dieS
    have q0:¬d.fa≠0:=fun h=>h g.f2
    have q1:0≤(cv b).f2∧(cv b).f2≤(d.st.length:Int):=⟨hb.1,by rw[g.dl];exact hb.2.1⟩
    rw[if_pos hb.1,if_neg q0,gd,Option.bind_some,gds,if_pos q1]
    have hk:(if b.f2.toNat<c.st.length then b.f2.toNat else c.st.length)=b.f2.toNat:=by split<;>omega
    rw[hk]
    refine⟨_,_,rfl,rfl,.inl ⟨g.f1,g.f2,?_,?_,?_,g.hi,?_,?_,?_,?_⟩⟩
    · show d.st.take b.f2.toNat=(c.st.take b.f2.toNat).map rho
      rw[g.st,List.map_take]
    · exact fun t ht=>g.ty t (List.mem_of_mem_take ht)
    · show xs.map cv++[{cv b with f3:=true}]=(xs++[{b with f3:=true}]).map cv
      rw[List.map_append];rfl
    · show(c.st.take b.f2.toNat).length≤n
      rw[List.length_take];have:=g.ln;omega
    · show(xs++[{b with f3:=true}]).length=m+1
      rw[List.length_append,List.length_singleton,hxl]
    · intro b' hb'
      have hl:((c.st.take b.f2.toNat).length:Int)=b.f2:=by rw[List.length_take];omega
      show 0≤b'.f2∧b'.f2≤((c.st.take b.f2.toNat).length:Int)∧_
      rw[hl]
      have hp:=g.pw
      rw[hx,List.pairwise_append] at hp
      rcases List.mem_append.1 hb' with h2|h2
      · have h3:=g.hs b' (by rw[hx];simp[h2])
        exact⟨h3.1,hp.2.2 b' h2 b (by simp),h3.2.2⟩
      · rw[List.mem_singleton] at h2;rw[h2];exact⟨hb.1,Int.le_refl _,hb.2.2⟩
    · have hp:=g.pw
      rw[hx,List.pairwise_append] at hp
      show(xs++[{b with f3:=true}]).Pairwise _
      rw[List.pairwise_append]
      refine⟨hp.1,by simp,fun x hx y hy=>?_⟩
      rw[List.mem_singleton] at hy;rw[hy]
      exact hp.2.2 x hx b (by simp)
  · have h2:=bb.hs b (by rw[hx];simp)
    rw[if_pos h2]
    unfold dieS
    rw[if_pos bb.dne]
    refine⟨_,_,rfl,rfl,.inr ⟨bb.ne,bb.eq,?_,bb.l2,?_,bb.m2,?_⟩⟩
    · show(c.st.take _).length≤n
      rw[List.length_take];have:=bb.l1;omega
    · show(xs++[{b with f3:=true}]).length=m+1
      rw[List.length_append,List.length_singleton,hxl]
    · intro b' hb'
      rcases List.mem_append.1 hb' with h3|h3
      · exact bb.hs b' (by rw[hx];simp[h3])
      · rw[List.mem_singleton] at h3;rw[h3];exact h2
theorem wants_R {m n:Nat} {c:CS S101} {d:CS S131} (h:R m n c d) (a:Int) (ha:0≤a):
    ∃ c' t d' u,wantsC c a=some (c',t)∧wantsS d a=some (d',u)∧R m n c' d'∧(c'.fa=0→c.fa=0∧(t=64∨Ty t)∧u=t):=by
  unfold wantsC wantsS
  rw[h.m1,h.m2]
  by_cases ca:(m:Int)≤a
  · rw[if_pos ca,if_pos ca]
    have hB:=fail_R h 4 (by decide)
    exact⟨_,_,_,_,rfl,rfl,.inr hB,fun h0=>absurd h0 hB.ne⟩
  · rw[if_neg ca,if_neg ca,if_pos ha,if_pos ha]
    have hlt:m - 1 - a.toNat<c.sp.length:=by rw[h.m1];omega
    have hlt2:m - 1 - a.toNat<d.sp.length:=by rw[h.m2];omega
    rw[List.getElem?_eq_getElem hlt,List.getElem?_eq_getElem hlt2,Option.bind_some,Option.bind_some]
    refine⟨_,_,_,_,rfl,rfl,h,fun h0=>⟨h0,?_⟩⟩
    have g:=h.good h0
    have e:d.sp[m - 1 - a.toNat]=cv c.sp[m - 1 - a.toNat]:=by simp only[g.sp,List.getElem_map]
    rw[e]
    have hb:=(g.hs c.sp[m - 1 - a.toNat] (List.getElem_mem hlt)).2.2
    show((if (c.sp[m - 1 - a.toNat]).f0=3 then (64:Int) else (c.sp[m - 1 - a.toNat]).f1)=64∨Ty (if (c.sp[m - 1 - a.toNat]).f0=3 then (64:Int) else (c.sp[m - 1 - a.toNat]).f1))∧(if (c.sp[m - 1 - a.toNat]).f0=3 then (64:Int) else (c.sp[m - 1 - a.toNat]).f1)=_
    refine⟨?_,rfl⟩
    split
    · exact .inl rfl
    · exact hb
theorem push_R {m n:Nat} {c:CS S101} {d:CS S131} (h:R m n c d) (op k:Int) (hm:m<4000000000000) (hk:k=64∨Ty k):
    ∃ c' d',pushC c op k=some c'∧pushS d op k=some d'∧R (m+1) n c' d':=by
  unfold pushC pushS
  rw[if_pos (by rw[h.m1];exact hm),if_pos (by rw[h.m2];exact hm)]
  refine⟨_,_,rfl,rfl,?_⟩
  rcases h with g|b
  · refine .inl ⟨g.f1,g.f2,g.st,g.ty,?_,g.hi,g.ln,?_,?_,?_⟩
    · show d.sp++[(⟨op,k,(d.st.length:Int),false,false⟩:S131)]=(c.sp++[(⟨op,k,(c.st.length:Int),false,false⟩:S101)]).map cv
      rw[g.sp,g.dl,List.map_append];rfl
    · show(c.sp++[_]).length=m+1
      rw[List.length_append,List.length_singleton,g.lm]
    · intro b' hb'
      rcases List.mem_append.1 hb' with h3|h3
      · exact g.hs b' h3
      · rw[List.mem_singleton] at h3;rw[h3];exact⟨Int.natCast_nonneg _,Int.le_refl _,hk⟩
    · show(c.sp++[_]).Pairwise _
      rw[List.pairwise_append]
      refine⟨g.pw,by simp,fun x hx y hy=>?_⟩
      rw[List.mem_singleton] at hy;rw[hy]
      exact(g.hs x hx).2.1
  · refine .inr ⟨b.ne,b.eq,b.l1,b.l2,?_,?_,?_⟩
    · show(c.sp++[_]).length=m+1
      rw[List.length_append,List.length_singleton,b.m1]
    · show(d.sp++[_]).length=m+1
      rw[List.length_append,List.length_singleton,b.m2]
    · intro b' hb'
      rcases List.mem_append.1 hb' with h3|h3
      · exact b.hs b' h3
      · rw[List.mem_singleton] at h3;rw[h3];exact Int.natCast_nonneg _
theorem close_R {m n:Nat} {c:CS S101} {d:CS S131} (h:R (m+1) n c d):∃ c' d',closeC c=some c'∧closeS d=some d'∧R (m+1) n c' d':=by
  obtain⟨xs,b,hx,hxl⟩:=top_of c.sp h.m1
  obtain⟨ys,b',hy,hyl⟩:=top_of d.sp h.m2
  have gt:c.sp[c.sp.length - 1]? =some b:=by rw[hx];exact top_get xs b
  have gd:d.sp[d.sp.length - 1]? =some b':=by rw[hy];exact top_get ys b'
  have hbb:c.fa=0→b'=cv b:=fun h0=>by
    have g:=(h.good h0).sp
    rw[hx,hy,List.map_append] at g
    exact List.singleton_inj.1 (List.append_inj' g rfl).2
  have hb0:0≤b.f2:=by
    rcases h with g|bb
    · exact(g.hs b (by rw[hx];simp)).1
    · exact bb.hs b (by rw[hx];simp)
  unfold closeC closeS
  rw[gt,gd,Option.bind_some,Option.bind_some]
  obtain⟨c1,d1,u,h1,h2,h3,h4,h5,h6⟩:=takeK_R h b.f1 b'.f1 (fun h0=>⟨((h.good h0).hs b (by rw[hx];simp)).2.2,by rw[hbb h0];rfl⟩)
  rw[h1,h2,Option.bind_some,Option.bind_some]
  rcases h3 with g|bb
  · have e:b'=cv b:=hbb (h6 g.f1)
    have hb:=g.hs b (by rw[h4,hx];simp)
    have e2:b'.f2=b.f2:=by rw[e];rfl
    rw[e2,g.f2,g.dl]
    by_cases cl:b.f2<(c1.st.length:Int)
    · rw[if_pos cl,if_pos hb0,if_pos ⟨rfl,by omega⟩]
      have hB:=fail_R (.inl g) 2 (by decide)
      refine⟨_,_,rfl,rfl,.inr ⟨hB.ne,hB.eq,?_,hB.l2,hB.m1,hB.m2,hB.hs⟩⟩
      show(c1.st.take _).length≤n
      rw[List.length_take];have:=g.ln;omega
    · rw[if_neg cl,if_neg (fun h=>h.2 (by omega))]
      exact⟨_,_,rfl,rfl,.inl g⟩
  · have hf:c1.fail 2=c1:=fail_of c1 2 bb.ne
    have q0:¬(d1.fa=0∧(d1.st.length:Int)≠b'.f2):=fun h=>bb.dne h.1
    simp only[hf,if_neg q0,if_pos hb0]
    by_cases cl:b.f2<(c1.st.length:Int)
    · rw[if_pos cl]
      refine⟨_,_,rfl,rfl,.inr ⟨bb.ne,bb.eq,?_,bb.l2,bb.m1,bb.m2,bb.hs⟩⟩
      show(c1.st.take _).length≤n
      rw[List.length_take];have:=bb.l1;omega
    · rw[if_neg cl]
      exact⟨_,_,rfl,rfl,.inr bb⟩
theorem else_R {m n:Nat} {c:CS S101} {d:CS S131} (h:R (m+1) n c d):∃ c' d',elseC c=some c'∧elseS d=some d'∧R (m+1) n c' d':=by
  obtain⟨xs,b,hx,hxl⟩:=top_of c.sp h.m1
  obtain⟨ys,b',hy,hyl⟩:=top_of d.sp h.m2
  have gt:c.sp[c.sp.length - 1]? =some b:=by rw[hx];exact top_get xs b
  have gd:d.sp[d.sp.length - 1]? =some b':=by rw[hy];exact top_get ys b'
  have gs:c.sp.set (c.sp.length - 1) {b with f3:=false,f4:=true}=xs++[{b with f3:=false,f4:=true}]:=by rw[hx];exact top_set xs b _
  have gds:d.sp.set (d.sp.length - 1) {b' with f3:=false,f4:=true}=ys++[{b' with f3:=false,f4:=true}]:=by rw[hy];exact top_set ys b' _
  unfold elseC elseS
  rw[gt,gd,Option.bind_some,Option.bind_some,gs,gds]
  refine⟨_,_,rfl,rfl,?_⟩
  rcases h with g|bb
  · have e:=g.sp
    rw[hx,hy,List.map_append] at e
    have e1:=(List.append_inj' e rfl).1
    have e2:b'=cv b:=List.singleton_inj.1 (List.append_inj' e rfl).2
    refine .inl ⟨g.f1,g.f2,g.st,g.ty,?_,g.hi,g.ln,?_,?_,?_⟩
    · show ys++[{b' with f3:=false,f4:=true}]=(xs++[{b with f3:=false,f4:=true}]).map cv
      rw[List.map_append,e1,e2];rfl
    · show(xs++[_]).length=m+1
      rw[List.length_append,List.length_singleton,hxl]
    · intro x hx'
      rcases List.mem_append.1 hx' with h3|h3
      · exact g.hs x (by rw[hx];simp[h3])
      · rw[List.mem_singleton] at h3;rw[h3];exact g.hs b (by rw[hx];simp)
    · have hp:=g.pw
      rw[hx,List.pairwise_append] at hp
      show(xs++[_]).Pairwise _
      rw[List.pairwise_append]
      refine⟨hp.1,by simp,fun x hx y hy=>?_⟩
      rw[List.mem_singleton] at hy;rw[hy]
      exact hp.2.2 x hx b (by simp)
  · refine .inr ⟨bb.ne,bb.eq,bb.l1,bb.l2,?_,?_,?_⟩
    · show(xs++[_]).length=m+1
      rw[List.length_append,List.length_singleton,hxl]
    · show(ys++[_]).length=m+1
      rw[List.length_append,List.length_singleton,hyl]
    · intro x hx'
      rcases List.mem_append.1 hx' with h3|h3
      · exact bb.hs x (by rw[hx];simp[h3])
      · rw[List.mem_singleton] at h3;rw[h3];exact bb.hs b (by rw[hx];simp)
theorem R.cut {m n:Nat} {c:CS S101} {d:CS S131} (h:R (m+1) n c d):R m n ({c with sp:=c.sp.take (c.sp.length - 1)}:CS S101) ({d with sp:=d.sp.take (d.sp.length - 1)}:CS S131):=by
  have l1:(c.sp.take (c.sp.length - 1)).length=m:=by rw[List.length_take,h.m1];omega
  have l2:(d.sp.take (d.sp.length - 1)).length=m:=by rw[List.length_take,h.m2];omega
  rcases h with g|bb
  · refine .inl ⟨g.f1,g.f2,g.st,g.ty,?_,g.hi,g.ln,l1,fun x hx=>g.hs x (List.mem_of_mem_take hx),g.pw.sublist (List.take_sublist _ _)⟩
    show d.sp.take (d.sp.length - 1)=(c.sp.take (c.sp.length - 1)).map cv
    rw[g.dm,g.lm,g.sp,List.map_take]
  · exact .inr ⟨bb.ne,bb.eq,bb.l1,bb.l2,l1,l2,fun x hx=>bb.hs x (List.mem_of_mem_take hx)⟩
theorem end_R {m n:Nat} {c:CS S101} {d:CS S131} (h:R (m+1) n c d) (hn:n<17592186044416):∃ c' d',endC c=some c'∧endS d=some d'∧R m (n+1) c' d':=by
  obtain⟨xs,b,hx,hxl⟩:=top_of c.sp h.m1
  obtain⟨ys,b',hy,hyl⟩:=top_of d.sp h.m2
  have gt:c.sp[c.sp.length - 1]? =some b:=by rw[hx];exact top_get xs b
  have gd:d.sp[d.sp.length - 1]? =some b':=by rw[hy];exact top_get ys b'
  have hbb:c.fa=0→b'=cv b:=fun h0=>by
    have g:=(h.good h0).sp
    rw[hx,hy,List.map_append] at g
    exact List.singleton_inj.1 (List.append_inj' g rfl).2
  unfold endC endS
  rw[gt,gd,Option.bind_some,Option.bind_some,h.m1,h.m2]
  have h2:∃ c2 d2,(if b.f0=4∧b.f4=false∧b.f1≠64 then c.fail 3 else c)=c2∧(if b'.f0=4∧b'.f4=false∧b'.f1≠64 then d.fail 3 else d)=d2∧R (m+1) n c2 d2∧(c2.fa=0→c.fa=0):=by
    refine⟨_,_,rfl,rfl,?_,?_⟩
    · rcases h with g|bb
      · have e:=hbb g.f1
        have e0:b'.f0=b.f0:=by rw[e];rfl
        have e1:b'.f1=b.f1:=by rw[e];rfl
        have e4:b'.f4=b.f4:=by rw[e];rfl
        rw[e0,e1,e4]
        by_cases cc:b.f0=4∧b.f4=false∧b.f1≠64
        · rw[if_pos cc,if_pos cc];exact .inr (fail_R (.inl g) 3 (by decide))
        · rw[if_neg cc,if_neg cc];exact .inl g
      · rw[fail_of c 3 bb.ne,fail_of d 3 bb.dne]
        simp only[ite_self]
        exact .inr bb
    · intro h0
      rcases h with g|bb
      · exact g.f1
      · rw[fail_of c 3 bb.ne] at h0
        simp only[ite_self] at h0
        exact h0
  obtain⟨c2,d2,e1,e2,h3,h4⟩:=h2
  simp only[e1,e2]
  have hc:=h3.cut
  by_cases hm:0<m+1 - 1
  · rw[if_pos hm,if_pos hm]
    exact put_R hc b.f1 b'.f1 hn (fun h0=>by
      have g:=h.good (h4 h0)
      have hk:=(g.hs b (by rw[hx];simp)).2.2
      have e:=hbb g.f1
      have e1:b'.f1=b.f1:=by rw[e];rfl
      rw[e1]
      rcases hk with hk|hk
      · exact .inl ⟨hk,hk⟩
      · exact .inr ⟨.inr hk,(rho_ty hk).symm⟩)
  · rw[if_neg hm,if_neg hm]
    refine⟨_,_,rfl,rfl,?_⟩
    rcases hc with g|bb
    · exact .inl ⟨g.f1,g.f2,g.st,g.ty,g.sp,g.hi,Nat.le_succ_of_le g.ln,g.lm,g.hs,g.pw⟩
    · exact .inr ⟨bb.ne,bb.eq,Nat.le_succ_of_le bb.l1,Nat.le_succ_of_le bb.l2,bb.m1,bb.m2,bb.hs⟩
theorem R.up {m n:Nat} {c:CS S101} {d:CS S131} (h:R m n c d):R m (n+1) c d:=by
  rcases h with g|bb
  · exact .inl ⟨g.f1,g.f2,g.st,g.ty,g.sp,g.hi,Nat.le_succ_of_le g.ln,g.lm,g.hs,g.pw⟩
  · exact .inr ⟨bb.ne,bb.eq,Nat.le_succ_of_le bb.l1,Nat.le_succ_of_le bb.l2,bb.m1,bb.m2,bb.hs⟩
theorem rev_R (l:List Int) (hl:∀ t∈l,Ty t) {m n:Nat}:∀ (j:Nat) (c:CS S101) (d:CS S131),j≤l.length→R (m+1) n c d→∃ c' d',takeRev l c j=some c'∧takeRevS l d j=some d'∧R (m+1) n c' d'
  |0,c,d,_,h=>⟨c,d,rfl,rfl,h⟩
  |j+1,c,d,hj,h=>by
    have ht:Ty (rd l (j:Int)):=hl _ (rd_mem (by omega) (by omega))
    obtain⟨c1,t,d1,u,h1,h2,h3,_⟩:=take_R h (rd l (j:Int)) (rd l (j:Int)) (fun _=>⟨.inr ht,(rho_ty ht).symm⟩)
    obtain⟨c',d',h4,h5,h6⟩:=rev_R l hl j c1 d1 (by omega) h3
    exact⟨c',d',by rw[takeRev,h1,Option.bind_some,h4],by rw[takeRevS,h2,Option.bind_some,h5],h6⟩
end Go.Proofs.Ytanhbfhmgmjdgaa.Ck
