/- One instruction checked by both texts: what both states tell stays alike, or both get the same fault. -/
import Derived.Test.YtanhbfhmgmjdgaaCt
import Derived.Test.YtanhbfhmgmjdgaaQx22
import Derived.Test.YtanhbfhmgmjdgaaQx21
namespace Go.Proofs.Ytanhbfhmgmjdgaa.Ck
open Go.RowKit Go.Proofs.Ytanhbfhmgmjdgaa.Q Go.Proofs.YtanhbfhmgmjdgaaW.PrintWords Go.Proofs.YtanhbfhmgmjdgaaW.PrintLast Go.Proofs.YtanhbfhmgmjdgaaW.PrintMore Go.Proofs.Ytanhbfhmgmjdgaa.Mb Go.Proofs.Ytanhbfhmgmjdgaa.Ins
set_option linter.unusedSimpArgs false
set_option linter.unusedVariables false
/-- What an instruction of a row takes and gives, as the reference tells it. -/
def srow (op:Int):Bool × List Int × Int:=
  if op=1 then (false,[],64) else if op=40 then (true,[127],127) else if op=41 then (true,[127],126) else if op=54 then (true,[127,127],64) else if op=55 then (true,[127,126],64) else if op=63 then (true,[],127) else if op=64 then (true,[127],127)
  else if op=65 then (false,[],127) else if op=66 then (false,[],126) else if op=67 then (false,[],125) else if op=176 then (false,[126],127) else if op=177 then (false,[127],126) else if op=178 then (false,[127],126) else if op=179 then (false,[127],125) else if op=180 then (false,[125],127)
  else if op > 160 then (false,if op - 160=6 then [125] else [125,125],if op - 160 > 6 then 127 else 125)
  else (false,if (if op > 128 then op - 128 else op - 96)≤21 then [if op > 128 then 126 else 127,if op > 128 then 126 else 127] else [if op > 128 then 126 else 127],
    if (16≤(if op > 128 then op - 128 else op - 96)∧(if op > 128 then op - 128 else op - 96)≤21)∨(if op > 128 then op - 128 else op - 96)=25 then 127 else (if op > 128 then 126 else 127))
def special (op:Int):Bool:=op==0 ||(op==2 ||(op==3 ||(op==4 ||(op==5 ||(op==11 ||(op==12 ||(op==13 ||(op==15 ||(op==16 ||(op==26 ||(op==27 ||(op==32 ||(op==33 ||(op==34 ||(op==35 ||op==36)))))))))))))))
theorem tab_all:∀ x:Fin 256,fo ((x.val:Nat):Int)≠0→special ((x.val:Nat):Int)=false→impl_row.f 12 ((x.val:Nat):Int)=some (srow ((x.val:Nat):Int)).2∧impl_usesMemory.f 12 ((x.val:Nat):Int)=some (srow ((x.val:Nat):Int)).1∧((srow ((x.val:Nat):Int)).2.1.all (fun t=>decide (125≤t∧t≤127)))=true∧((srow ((x.val:Nat):Int)).2.2==64 ||decide (125≤(srow ((x.val:Nat):Int)).2.2∧(srow ((x.val:Nat):Int)).2.2≤127))=true:=by decide+kernel
theorem byte_of {op a:Int} (h:gi (fo op) a=true):0≤op∧op≤255∧fo op≠0:=by
  have hf:fo op≠0:=by
    intro e
    rw[e] at h
    exact absurd h (by unfold gi;simp)
  by_cases c:0≤op∧op≤255
  · exact⟨c.1,c.2,hf⟩
  · have h1:=fo_out (show op<0∨255<op by omega)
    exact absurd (show fo op=0 by unfold fo;rw[h1.1];rfl) hf
theorem tab_ok {op a:Int} (h:gi (fo op) a=true) (hs:special op=false) {k:Nat} (hk:12≤k):impl_row.f k op=some (srow op).2∧impl_usesMemory.f k op=some (srow op).1∧(∀ t∈(srow op).2.1,Ty t)∧((srow op).2.2=64∨Ty (srow op).2.2):=by
  obtain⟨h0,h1,h2⟩:=byte_of h
  obtain⟨n,rfl⟩:=Int.eq_ofNat_of_zero_le h0
  obtain⟨a1,a2,a3,a4⟩:=tab_all ⟨n,by omega⟩ h2 hs
  refine⟨at_rounds (g:=fun k=>impl_row.f k (n:Int)) (fun k=>impl_row.mono _ k) hk a1,at_rounds (g:=fun k=>impl_usesMemory.f k (n:Int)) (fun k=>impl_usesMemory.mono _ k) hk a2,?_,?_⟩
  · intro t ht
    have h5:=(List.all_eq_true.1 a3) t ht
    exact of_decide_eq_true (p:=125≤t∧t≤127) h5
  · rw[Bool.or_eq_true] at a4
    rcases a4 with h|h
    · exact .inl (beq_iff_eq.1 h)
    · exact .inr (of_decide_eq_true (p:=125≤(srow (n:Int)).2.2∧(srow (n:Int)).2.2≤127) h)
def doS (d:CS S131) (l:List Int) (r:Int):Option (CS S131):=(takeRevS l d l.length).bind fun d2=>d2.put r
theorem do0 (d:CS S131) (r:Int):doS d [] r=d.put r:=rfl
theorem do1 (d:CS S131) (a r:Int):doS d [a] r=(takeS d a).bind fun x=>x.1.put r:=by
  unfold doS
  show((takeS d a).bind fun x=>some x.1).bind _=_
  rw[Option.bind_assoc];rfl
theorem do2 (d:CS S131) (a b r:Int):doS d [a,b] r=(takeS d b).bind fun x=>(takeS x.1 a).bind fun y=>y.1.put r:=by
  unfold doS
  show((takeS d b).bind fun x=>(takeS x.1 a).bind fun y=>some y.1).bind _=_
  rw[Option.bind_assoc]
  congr 1;funext x
  rw[Option.bind_assoc];rfl
theorem put64 {β:Type} (c:CS β):c.put 64=some c:=if_pos rfl
theorem num_row (d:CS S131) (op:Int) (h0:0≤op) (h1:op≤255) (hn:∀ j:Int,(j=1∨j=40∨j=41∨j=54∨j=55∨j=63∨j=64∨j=65∨j=66∨j=67∨j=176∨j=177∨j=178∨j=179∨j=180)→¬op=j):numS d op=doS d (srow op).2.1 (srow op).2.2:=by
  unfold numS srow
  rw[if_pos ⟨h0,by omega⟩]
  simp only[if_neg (hn 1 (by simp)),if_neg (hn 40 (by simp)),if_neg (hn 41 (by simp)),if_neg (hn 54 (by simp)),if_neg (hn 55 (by simp)),if_neg (hn 63 (by simp)),if_neg (hn 64 (by simp)),if_neg (hn 65 (by simp)),if_neg (hn 66 (by simp)),if_neg (hn 67 (by simp)),if_neg (hn 176 (by simp)),if_neg (hn 177 (by simp)),if_neg (hn 178 (by simp)),if_neg (hn 179 (by simp)),if_neg (hn 180 (by simp))]
  by_cases c:op > 160
  · simp only[if_pos c]
    by_cases c6:op - 160=6
    · simp only[if_pos c6,do1,Option.bind_some]
    · simp only[if_neg c6,do2,Option.bind_assoc,Option.bind_some]
  · simp only[if_neg c]
    by_cases c21:(if op > 128 then op - 128 else op - 96)≤21
    · simp only[if_pos c21,do2,Option.bind_assoc,Option.bind_some]
    · simp only[if_neg c21,do1,Option.bind_some]
theorem ins_row (d:CS S131) (fs:List S88) (gs:List S75) (mem:Bool) (res:Int) (sl:List Int) {op a:Int} (h:gi (fo op) a=true) (hs:special op=false):
    insS d fs gs mem res sl ⟨op,a⟩=if (srow op).1=true∧mem=false then some (d.fail 6) else doS d (srow op).2.1 (srow op).2.2:=by
  obtain⟨h0,h1,h2⟩:=byte_of h
  have hne:¬op=0∧¬op=2∧¬op=3∧¬op=4∧¬op=5∧¬op=11∧¬op=12∧¬op=13∧¬op=15∧¬op=16∧¬op=26∧¬op=27∧¬op=32∧¬op=33∧¬op=34∧¬op=35∧¬op=36:=by
    unfold special at hs
    simp only[Bool.or_eq_false_iff,beq_eq_false_iff_ne] at hs
    obtain⟨a1,a2,a3,a4,a5,a6,a7,a8,a9,b1,b2,b3,b4,b5,b6,b7,b8⟩:=hs
    exact⟨a1,a2,a3,a4,a5,a6,a7,a8,a9,b1,b2,b3,b4,b5,b6,b7,b8⟩
  obtain⟨n0,n2,n3,n4,n5,n11,n12,n13,n15,n16,n26,n27,n32,n33,n34,n35,n36⟩:=hne
  have hI:¬op=1→insS d fs gs mem res sl ⟨op,a⟩=otherS d fs gs mem sl ⟨op,a⟩:=fun n1=>by
    unfold insS
    simp only[n0,n1,n2,n3,n4,n5,n11,n12,n13,n15,n26,n27,if_false,or_self]
  have hO:otherS d fs gs mem sl ⟨op,a⟩=(if op=40∨op=41∨op=54∨op=55∨op=63∨op=64 then memS d mem op
      else if op=65 then d.put 127 else if op=66 then d.put 126 else if op=67 then d.put 125
      else if op=176 then turnS d 126 127 else if op=177 then turnS d 127 126 else if op=178 then turnS d 127 126 else if op=179 then turnS d 127 125 else if op=180 then turnS d 125 127
      else numS d op):=by
    unfold otherS
    simp only[n16,n32,n33,n34,n35,n36,if_false,or_self]
  by_cases c1:op=1
  · subst c1
    have:insS d fs gs mem res sl ⟨1,a⟩=some d:=by unfold insS;rw[if_pos rfl]
    rw[this,show srow 1=(false,[],64) from rfl,if_neg (fun h=>absurd h.1 (by decide)),do0,put64]
  rw[hI c1,hO]
  by_cases cm:op=40∨op=41∨op=54∨op=55∨op=63∨op=64
  · rw[if_pos cm]
    unfold memS
    cases mem with
    |false=>
      rw[if_pos rfl]
      rcases cm with e|e|e|e|e|e<;>subst e<;>rfl
    |true=>
      rw[if_neg (by decide)]
      rcases cm with e|e|e|e|e|e<;>subst e
      · exact(do1 d 127 127).symm
      · exact(do1 d 127 126).symm
      · show _=doS d [127,127] 64
        rw[do2];simp only[put64];rfl
      · show _=doS d [127,126] 64
        rw[do2];simp only[put64];rfl
      · exact(do0 d 127).symm
      · exact(do1 d 127 127).symm
  · rw[if_neg cm]
    by_cases c65:op=65
    · subst c65;rfl
    by_cases c66:op=66
    · subst c66;rfl
    by_cases c67:op=67
    · subst c67;rfl
    by_cases c176:op=176
    · subst c176;exact(do1 d 126 127).symm
    by_cases c177:op=177
    · subst c177;exact(do1 d 127 126).symm
    by_cases c178:op=178
    · subst c178;exact(do1 d 127 126).symm
    by_cases c179:op=179
    · subst c179;exact(do1 d 127 125).symm
    by_cases c180:op=180
    · subst c180;exact(do1 d 125 127).symm
    rw[if_neg c65,if_neg c66,if_neg c67,if_neg c176,if_neg c177,if_neg c178,if_neg c179,if_neg c180]
    have hz:(srow op).1=false:=by
      have c40:¬op=40:=fun e=>cm (.inl e)
      have c41:¬op=41:=fun e=>cm (.inr (.inl e))
      have c54:¬op=54:=fun e=>cm (.inr (.inr (.inl e)))
      have c55:¬op=55:=fun e=>cm (.inr (.inr (.inr (.inl e))))
      have c63:¬op=63:=fun e=>cm (.inr (.inr (.inr (.inr (.inl e)))))
      have c64:¬op=64:=fun e=>cm (.inr (.inr (.inr (.inr (.inr e)))))
      unfold srow
      rw[if_neg c1,if_neg c40,if_neg c41,if_neg c54,if_neg c55,if_neg c63,if_neg c64,if_neg c65,if_neg c66,if_neg c67,if_neg c176,if_neg c177,if_neg c178,if_neg c179,if_neg c180]
      split<;>rfl
    rw[hz,if_neg (fun h=>absurd h.1 (by decide))]
    refine num_row d op h0 h1 (fun j hj e=>?_)
    rcases hj with rfl|rfl|rfl|rfl|rfl|rfl|rfl|rfl|rfl|rfl|rfl|rfl|rfl|rfl|rfl<;>first|exact c1 e|exact c65 e|exact c66 e|exact c67 e|exact c176 e|exact c177 e|exact c178 e|exact c179 e|exact c180 e|exact cm (by simp[e])
/-! in a state with a fault -/
theorem takeS_bad (d:CS S131) (h:d.fa≠0) (w:Int):takeS d w=some (d,w):=by
  unfold takeS
  by_cases c:w=64
  · rw[if_pos c]
  · rw[if_neg c,if_pos h]
theorem revS_bad (l:List Int) (d:CS S131) (h:d.fa≠0):∀ j,takeRevS l d j=some d
  |0=>rfl
  |j+1=>by rw[takeRevS,takeS_bad d h,Option.bind_some,revS_bad l d h j]
theorem row_R {m n:Nat} {c:CS S101} {d:CS S131} (h:R (m+1) n c d) (l:List Int) (r:Int) (hl:∀ t∈l,Ty t) (hr:r=64∨Ty r) (hn:n<17592186044416):
    ∃ c2 c' d',takeRev l c l.length=some c2∧c2.put r=some c'∧doS d l r=some d'∧R (m+1) (n+1) c' d':=by
  obtain⟨c2,d2,h1,h2,h3⟩:=rev_R l hl l.length c d (Nat.le_refl _) h
  obtain⟨c',d',h4,h5,h6⟩:=put_R h3 r r hn (fun _=>by
    rcases hr with hr|hr
    · exact .inl ⟨hr,hr⟩
    · exact .inr ⟨.inr hr,(rho_ty hr).symm⟩)
  refine⟨c2,c',d',h1,h4,?_,h6⟩
  unfold doS
  rw[h2,Option.bind_some,h5]
theorem put_B {m n:Nat} {c:CS S101} {d:CS S131} (h:Bd m n c d) (hn:n<17592186044416) (t:Int):∃ c',c.put t=some c'∧Bd m (n+1) c' d:=by
  unfold CS.put
  by_cases c64:t=64
  · rw[if_pos c64];exact⟨c,rfl,h.ne,h.eq,Nat.le_succ_of_le h.l1,Nat.le_succ_of_le h.l2,h.m1,h.m2,h.hs⟩
  · have l1:=h.l1
    rw[if_neg c64,if_pos (by omega)]
    refine⟨_,rfl,h.ne,h.eq,?_,Nat.le_succ_of_le h.l2,h.m1,h.m2,h.hs⟩
    show(c.st++[t]).length≤n+1
    rw[List.length_append,List.length_singleton];omega
/-- What the checkers know of funcs and globals. -/
structure Env (fs:List S88) (gs:List S75) (f:S88):Prop where
  g:∀ g∈gs,Ty g.f0
  p:∀ g∈fs,(∀ t∈g.f0,Ty t)∧(g.f1=64∨Ty g.f1)∧g.f0.length≤6
  f0:∀ t∈f.f0,Ty t
  f2:∀ t∈f.f2,Ty t
  f1:f.f1=64∨Ty f.f1
  l0:f.f0.length≤6
  l2:f.f2.length≤20
/-- How many blocks are open behind an instruction. -/
def nxt (op:Int) (m:Nat):Nat:=if op=2∨op=3∨op=4 then m+2 else if op=11 then m else m+1
theorem rd63 (l:List S75) (j:Nat) (hlt:j<l.length):rd_T75 l (j:Int)∈l:=by
  unfold rd_T75
  rw[Int.toNat_natCast,List.getD_eq_getElem?_getD,List.getElem?_eq_getElem hlt]
  exact List.getElem_mem hlt
theorem rd59 (l:List S88) (j:Nat) (hlt:j<l.length):rd_T88 l (j:Int)∈l:=by
  unfold rd_T88
  rw[Int.toNat_natCast,List.getD_eq_getElem?_getD,List.getElem?_eq_getElem hlt]
  exact List.getElem_mem hlt
theorem step_row {m n:Nat} {c:CS S101} {d:CS S131} (h:R (m+1) n c d) (fs:List S88) (gs:List S75) (mem:Bool) (f:S88) (sl:List Int) {op a:Int} (hg:gi (fo op) a=true) (hs:special op=false) (hn:n<17592186044416) {k:Nat} (hk:12≤k):
    ∃ c' d',stepC k c fs gs mem f ⟨op,a⟩=some c'∧insS d fs gs mem f.f1 sl ⟨op,a⟩=some d'∧R (nxt op m) (n+1) c' d':=by
  obtain⟨t1,t2,t3,t4⟩:=tab_ok hg hs hk
  have hne:¬op=0∧¬op=2∧¬op=3∧¬op=4∧¬op=5∧¬op=11∧¬op=12∧¬op=13∧¬op=15∧¬op=16∧¬op=26∧¬op=27∧¬op=32∧¬op=33∧¬op=34∧¬op=35∧¬op=36:=by
    unfold special at hs
    simp only[Bool.or_eq_false_iff,beq_eq_false_iff_ne] at hs
    exact hs
  obtain⟨n0,n2,n3,n4,n5,n11,n12,n13,n15,n16,n26,n27,n32,n33,n34,n35,n36⟩:=hne
  have eB:blockC c f.f1 ⟨op,a⟩=some (c,false):=by
    unfold blockC
    simp only[n0,n2,n3,n4,n5,n11,n12,n13,n15,if_false,or_self]
  have eP:placeC c fs gs f ⟨op,a⟩=some (c,false):=by
    unfold placeC
    simp only[n16,n32,n33,n34,n35,n36,if_false,or_self]
  have eS:stepC k c fs gs mem f ⟨op,a⟩=(takeRev (srow op).2.1 (if (srow op).1=true∧mem=false then c.fail 6 else c) (srow op).2.1.length).bind fun c2=>c2.put (srow op).2.2:=by
    unfold stepC
    rw[eB,Option.bind_some,if_neg (show ¬(c,false).2=true from Bool.false_ne_true),eP,Option.bind_some,if_neg (show ¬(c,false).2=true from Bool.false_ne_true)]
    show(if op=26 then _ else if op=27 then _ else _)=_
    rw[if_neg n26,if_neg n27,t2,Option.bind_some,t1,Option.bind_some]
  have en:nxt op m=m+1:=by
    unfold nxt
    rw[if_neg (by simp only[n2,n3,n4,or_self,not_false_eq_true]),if_neg n11]
  rw[eS,ins_row d fs gs mem f.f1 sl hg hs,en]
  by_cases cm:(srow op).1=true∧mem=false
  · rw[if_pos cm,if_pos cm]
    have hB:=fail_R h 6 (by decide)
    obtain⟨c2,d2,h1,h2,h3⟩:=rev_R (srow op).2.1 t3 (srow op).2.1.length (c.fail 6) (d.fail 6) (Nat.le_refl _) (.inr hB)
    rw[revS_bad _ _ hB.dne] at h2
    obtain rfl:=Option.some.inj h2
    have hB2:Bd (m+1) n c2 (d.fail 6):=by
      rcases h3 with g|b
      · exact absurd g.f2 hB.dne
      · exact b
    obtain⟨c',h4,h5⟩:=put_B hB2 hn (srow op).2.2
    exact⟨c',_,by rw[h1,Option.bind_some,h4],rfl,.inr h5⟩
  · rw[if_neg cm,if_neg cm]
    obtain⟨c2,c',d',h1,h2,h3,h4⟩:=row_R h (srow op).2.1 (srow op).2.2 t3 t4 hn
    exact⟨c',d',by rw[h1,Option.bind_some,h2],h3,h4⟩
end Go.Proofs.Ytanhbfhmgmjdgaa.Ck
