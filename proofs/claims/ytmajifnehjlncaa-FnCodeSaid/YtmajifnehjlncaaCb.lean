/- Code's bytes: both texts write the same ones, and the code comes back from them. -/
import Derived.Test.YtmajifnehjlncaaBa
import Derived.Test.YtmajifnehjlncaaLc
import Derived.Test.YtmajifnehjlncaaCf
import Derived.Test.YtmajifnehjlncaaGn
import Derived.Test.YtmajifnehjlncaaQx5
import Derived.Test.YtmajifnehjlncaaQx6
import Derived.Test.YtmajifnehjlncaaQx7
namespace Go.Proofs.Ytmajifnehjlncaa.Ins
open Go.RowKit Go.Proofs.Ytmajifnehjlncaa.Q Go.Proofs.YtmajifnehjlncaaW.PrintWords Go.Proofs.YtmajifnehjlncaaW.PrintLast Go.Proofs.YtmajifnehjlncaaW.PrintMore Go.Proofs.Ytmajifnehjlncaa.Mb Go.Proofs.Ytmajifnehjlncaa.Leb Go.Proofs.Ytmajifnehjlncaa.Ba
set_option linter.unusedSimpArgs false
set_option linter.unusedVariables false
theorem byte_of {op a:Int} (h:gi (fo op) a=true):0≤op∧op≤255∧fo op≠0:=by
  have hf:fo op≠0:=by
    intro e
    rw[e] at h
    exact absurd h (by unfold gi;simp)
  by_cases c:0≤op∧op≤255
  · exact⟨c.1,c.2,hf⟩
  · have h1:=fo_out (show op<0∨255<op by omega)
    exact absurd (show fo op=0 by unfold fo;rw[h1.1];rfl) hf
/-- A good instruction with its number. -/
structure Gx (x:S37):Prop where
  good:gi (fo x.f0) x.f1=true
  lo:-9223372036854775808≤x.f1
  hi:x.f1≤9223372036854775807
/-- The bytes of four. -/
def four (x:Int):List Int:=[x % 256,x / 256 % 256,x / 65536 % 256,x / 16777216 % 256]
/-- The bytes of a number beside an instruction. -/
def numB (f a:Int):List Int:=if f=2 then [a % 256] else if f=3∨f=4 then U a else if f=5∨f=6 then S a else if f=7 then four a else []
def insB (x:S37):List Int:=(x.f0 % 256) ::numB (fo x.f0) x.f1
def codeB:List S37→List Int
  |[]=>[]
  |x ::xs=>insB x++codeB xs
theorem form_ev (op:Int):Ev (fun k=>impl_formOf.f k op) (fo op):=⟨9,fun k hk=>(fo_any op hk).1⟩
theorem shape_ev (op:Int):Ev (fun k=>spec_l6Shape.f k op) (fo op - 1):=⟨9,fun k hk=>(fo_any op hk).2.1⟩
theorem fo_le (op:Int):0≤fo op∧fo op≤7:=(fo_any op (Nat.le_refl 9)).2.2
theorem S_b8 (x:Int):B8 (S x):=sl_b8 9 x
theorem S_len {x:Int} (h0:-9223372036854775808≤x) (h1:x≤9223372036854775807):1≤(S x).length∧(S x).length≤10:=by
  have hb:=s_bounds h0 h1
  have:=sl_len 9 x hb.1 hb.2
  exact⟨this.1,this.2.1⟩
theorem gi_num {x:S37} (h:Gx x):(fo x.f0=1∧x.f1=0)∨(fo x.f0=2∧64≤x.f1∧x.f1≤127)∨((fo x.f0=3∨fo x.f0=4)∧0≤x.f1∧x.f1≤10000)∨(fo x.f0=5∧-2147483648≤x.f1∧x.f1≤2147483647)∨fo x.f0=6∨(fo x.f0=7∧0≤x.f1∧x.f1≤4294967295):=by
  have hg:=h.good
  have hr:=fo_le x.f0
  have h0:=(byte_of hg).2.2
  generalize fo x.f0=f at*
  generalize x.f1=a at*
  have hf:f=1∨f=2∨f=3∨f=4∨f=5∨f=6∨f=7:=by omega
  rcases hf with e|e|e|e|e|e|e<;>subst e<;>simp[gi] at hg ⊢<;>omega
theorem num_len {x:S37} (h:Gx x):(numB (fo x.f0) x.f1).length≤10:=by
  have hs:=S_len h.lo h.hi
  have hg:=gi_num h
  unfold numB
  split
  · simp
  · split
    · have:=U_len (n:=x.f1) (by omega) (by omega);omega
    · split
      · exact hs.2
      · split<;>simp[four]
/-! four bytes -/
theorem shr_4 (x:Int):shr .u64 x 0 % 256=x % 256∧shr .u64 x 8 % 256=x / 256 % 256∧shr .u64 x 16 % 256=x / 65536 % 256∧shr .u64 x 24 % 256=x / 16777216 % 256:=by
  rw[shr_u64 x 0 0 rfl (by decide),shr_u64 x 8 8 rfl (by decide),shr_u64 x 16 16 rfl (by decide),shr_u64 x 24 24 rfl (by decide)]
  rw[show (2:Int) ^ 0=1 by decide,show (2:Int) ^ 8=256 by decide,show (2:Int) ^ 16=65536 by decide,show (2:Int) ^ 24=16777216 by decide]
  exact⟨by rw[Int.ediv_one],rfl,rfl,rfl⟩
theorem four_I (x:Int) (k:Nat) (hk:5≤k):impl_inBytes.f k x 4=some (strOfNums (four x)):=by
  obtain⟨k,rfl⟩:∃ j,k=j+5:=⟨k - 5,by omega⟩
  obtain⟨a,b,c,d⟩:=shr_4 x
  have w:wrap64 (8*0)=0∧wrap64 (8*1)=8∧wrap64 (8*2)=16∧wrap64 (8*3)=24∧wrap64 (0+1)=1∧wrap64 (1+1)=2∧wrap64 (2+1)=3∧wrap64 (3+1)=4:=by decide+kernel
  obtain⟨w0,w1,w2,w3,v0,v1,v2,v3⟩:=w
  unfold impl_inBytes.f
  rw[if_pos (by decide),if_pos (by decide)]
  simp only[show (4:Int).toNat=4 from rfl,Option.bind_some,List.replicate,List.length_cons,List.length_nil]
  rw[impl_inBytes.l0,if_pos (by decide),w0,v0,if_pos (by decide),if_pos (by decide),if_pos (by simp),a]
  rw[impl_inBytes.l0,if_pos (by decide),w1,v1,if_pos (by decide),if_pos (by decide),if_pos (by simp),b]
  rw[impl_inBytes.l0,if_pos (by decide),w2,v2,if_pos (by decide),if_pos (by decide),if_pos (by simp),c]
  rw[impl_inBytes.l0,if_pos (by decide),w3,v3,if_pos (by decide),if_pos (by decide),if_pos (by simp),d]
  rw[impl_inBytes.l0,if_neg (by decide)]
  rfl
theorem four_S (x:Int) (k:Nat) (hk:5≤k):spec_l5Bytes.f k x 4=some (strOfNums (four x)):=by
  obtain⟨k,rfl⟩:∃ j,k=j+5:=⟨k - 5,by omega⟩
  obtain⟨a,b,c,d⟩:=shr_4 x
  have w:IntKind.u64.wrap (wrap64 (8*0))=0∧IntKind.u64.wrap (wrap64 (8*1))=8∧IntKind.u64.wrap (wrap64 (8*2))=16∧IntKind.u64.wrap (wrap64 (8*3))=24∧wrap64 (0+1)=1∧wrap64 (1+1)=2∧wrap64 (2+1)=3∧wrap64 (3+1)=4:=by decide+kernel
  obtain⟨w0,w1,w2,w3,v0,v1,v2,v3⟩:=w
  unfold spec_l5Bytes.f
  rw[if_pos (by decide),if_pos (by decide)]
  simp only[show (4:Int).toNat=4 from rfl,Option.bind_some,List.replicate,List.length_cons,List.length_nil]
  rw[spec_l5Bytes.l0,if_pos (by decide),w0,v0,if_pos (by decide),if_pos (by decide),if_pos (by simp),a]
  rw[spec_l5Bytes.l0,if_pos (by decide),w1,v1,if_pos (by decide),if_pos (by decide),if_pos (by simp),b]
  rw[spec_l5Bytes.l0,if_pos (by decide),w2,v2,if_pos (by decide),if_pos (by decide),if_pos (by simp),c]
  rw[spec_l5Bytes.l0,if_pos (by decide),w3,v3,if_pos (by decide),if_pos (by decide),if_pos (by simp),d]
  rw[spec_l5Bytes.l0,if_neg (by decide)]
  rfl
theorem four_b8 (x:Int):B8 (four x):=by
  intro y hy
  simp only[four,List.mem_cons,List.not_mem_nil,or_false] at hy
  omega
theorem U_bytes {n:Int} (h0:0≤n) (h1:n≤18446744073709551615):bytesOf (strOfNums (U n))=U n:=bytes_str (U_b8 n h0 h1)
theorem ins_one (x:S37) (f a:Int) (r:List Int):∀ acc:List Int,acc++[x.f0 % 256]++r=acc++((x.f0 % 256) ::r):=fun acc=>by rw[List.append_assoc];rfl
theorem code_drop (l:List S37) (j:Nat) (hlt:j<l.length):codeB (l.drop j)=insB l[j]++codeB (l.drop (j+1)):=by
  rw[List.drop_eq_getElem_cons hlt,codeB]
/-- The program's text writes them. -/
theorem code_I (l:List S37) (hg:∀ x∈l,Gx x) (hl:l.length≤200) (d:Nat):∀ (j:Nat) (acc:List Int),j+d=l.length→acc.length≤20*j→Ev (fun k=>impl_CodeBytes.l0 k acc l (l.length:Int) (j:Int)) (strOfNums (acc++codeB (l.drop j)),true):=by
  induction d with
  |zero=>
    intro j acc hj hacc
    refine Ev.step (f:=fun _=>some (strOfNums acc,true)) (fun k=>by rw[impl_CodeBytes.l0,if_neg (by omega)]) ?_
    rw[List.drop_of_length_le (by omega),codeB,List.append_nil]
    exact Ev.now _
  |succ d ih=>
    intro j acc hj hacc
    have hlt:j<l.length:=by omega
    have hx:=hg l[j] (List.getElem_mem hlt)
    have e1:wrap64 ((j:Int)+1)=((j+1:Nat):Int):=w64 (by omega) (by omega)
    have hn:=num_len hx
    have hi:=gi_num hx
    have hfin:∀ r:List Int,r=numB (fo l[j].f0) l[j].f1→Ev (fun k=>impl_CodeBytes.l0 k (acc++[l[j].f0 % 256]++r) l (l.length:Int) ((j+1:Nat):Int)) (strOfNums (acc++codeB (l.drop j)),true):=fun r hr=>by
      have h:=ih (j+1) (acc++[l[j].f0 % 256]++r) (by omega) (by rw[hr];simp only[List.length_append,List.length_singleton];omega)
      rw[code_drop l j hlt,insB,←hr,show acc++(l[j].f0 % 256 ::r++codeB (l.drop (j+1)))=acc++[l[j].f0 % 256]++r++codeB (l.drop (j+1)) by simp]
      exact h
    have hlen:(acc++[l[j].f0 % 256]).length=acc.length+1:=by rw[List.length_append,List.length_singleton]
    have hlo:=hx.lo
    have hhi:=hx.hi
    refine Ev.step (fun k=>by
      rw[impl_CodeBytes.l0,if_pos (show(j:Int)<(l.length:Int) by omega),if_pos (Int.natCast_nonneg j),if_pos (show(j:Int)<(l.length:Int) by omega),if_pos (show acc.length<140737488355328 by omega),Option.bind_some,rdO l j hlt,e1]) ?_
    refine Ev.bind (form_ev _) ?_
    generalize hf:fo l[j].f0=f at*
    generalize hya:l[j].f1=a at*
    rcases hi with ⟨rfl,h0⟩|⟨rfl,h0,h1⟩|⟨h,h0,h1⟩|⟨rfl,h0,h1⟩|rfl|⟨rfl,h0,h1⟩
    · refine ev_no (by decide) ?_
      refine ev_no (by decide) ?_
      refine Ev.step (fun k=>by rw[impl_CodeBytes.j1,if_neg (by decide),if_neg (by decide)]) (Ev.step (fun k=>by rw[impl_CodeBytes.j2,if_neg (by decide),if_neg (by decide),e1]) ?_)
      have h:=hfin [] (by simp[numB])
      rwa [List.append_nil] at h
    · refine ev_yes rfl ?_
      refine ev_yes (by omega) ?_
      exact hfin _ (by simp[numB])
    · refine ev_no (by omega) ?_
      have hU:=U_len (n:=a) (by omega) (by omega)
      have hj1:Ev (fun k=>impl_CodeBytes.j1 k (acc++[l[j].f0 % 256]) l (l.length:Int) (j:Int) f true l[j].f0 a) (strOfNums (acc++codeB (l.drop j)),true):=by
        refine Ev.step (fun k=>by rw[impl_CodeBytes.j1,if_pos rfl,wu64 (n:=a) (by omega) (by omega),e1]) ?_
        refine Ev.bind (a:=strOfNums (U a)) ⟨10,fun k hk=>impl_U k hk a (by omega) (by omega)⟩ ?_
        try dsimp only
        refine ev_yes (by rw[strOfNums_size];omega) ?_
        rw[U_bytes (by omega) (by omega)]
        exact hfin _ (by rcases h with rfl|rfl<;>simp[numB])
      rcases h with rfl|rfl
      · refine ev_yes rfl ?_
        exact hj1
      · refine ev_no (by decide) ?_
        exact hj1
    · refine ev_no (by decide) ?_
      refine ev_no (by decide) ?_
      have hS:=S_len hlo hhi
      refine Ev.step (fun k=>by rw[impl_CodeBytes.j1,if_neg (by decide),if_pos rfl]) (Ev.step (fun k=>by rw[impl_CodeBytes.j2,if_pos (by decide),e1]) ?_)
      refine Ev.bind (a:=strOfNums (S a)) ⟨10,fun k hk=>impl_S k hk a hlo hhi⟩ ?_
      try dsimp only
      refine ev_yes (by rw[strOfNums_size];omega) ?_
      rw[bytes_str (S_b8 a)]
      exact hfin _ (by simp[numB])
    · refine ev_no (by decide) ?_
      refine ev_no (by decide) ?_
      have hS:=S_len hlo hhi
      refine Ev.step (fun k=>by rw[impl_CodeBytes.j1,if_neg (by decide),if_neg (by decide)]) (Ev.step (fun k=>by rw[impl_CodeBytes.j2,if_pos (by decide),e1]) ?_)
      refine Ev.bind (a:=strOfNums (S a)) ⟨10,fun k hk=>impl_S k hk a hlo hhi⟩ ?_
      try dsimp only
      refine ev_yes (by rw[strOfNums_size];omega) ?_
      rw[bytes_str (S_b8 a)]
      exact hfin _ (by simp[numB])
    · refine ev_no (by decide) ?_
      refine ev_no (by decide) ?_
      refine Ev.step (fun k=>by rw[impl_CodeBytes.j1,if_neg (by decide),if_neg (by decide)]) (Ev.step (fun k=>by rw[impl_CodeBytes.j2,if_neg (by decide),if_pos rfl,wu64 (n:=a) (by omega) (by omega),e1]) ?_)
      refine Ev.bind (a:=strOfNums (four a)) ⟨5,fun k hk=>four_I a k hk⟩ ?_
      try dsimp only
      refine ev_yes (by rw[strOfNums_size];simp only[four,List.length_cons,List.length_nil];omega) ?_
      rw[bytes_str (four_b8 a)]
      exact hfin _ (by simp[numB])
/-- The reference's text writes the same ones. -/
theorem code_S (l:List S37) (hg:∀ x∈l,Gx x) (hl:l.length≤200) (d:Nat):∀ (j:Nat) (acc:List Int),j+d=l.length→acc.length≤20*j→Ev (fun k=>spec_l6Bytes.l0 k (strOfNums acc) l (l.length:Int) (j:Int)) (strOfNums (acc++codeB (l.drop j))):=by
  induction d with
  |zero=>
    intro j acc hj hacc
    refine Ev.step (f:=fun _=>some (strOfNums acc)) (fun k=>by rw[spec_l6Bytes.l0,if_neg (by omega)]) ?_
    rw[List.drop_of_length_le (by omega),codeB,List.append_nil]
    exact Ev.now _
  |succ d ih=>
    intro j acc hj hacc
    have hlt:j<l.length:=by omega
    have hx:=hg l[j] (List.getElem_mem hlt)
    have e1:wrap64 ((j:Int)+1)=((j+1:Nat):Int):=w64 (by omega) (by omega)
    have hn:=num_len hx
    have hi:=gi_num hx
    have hfin:∀ r:List Int,r=numB (fo l[j].f0) l[j].f1→Ev (fun k=>spec_l6Bytes.l0 k (strOfNums (acc++[l[j].f0 % 256])++strOfNums r) l (l.length:Int) ((j+1:Nat):Int)) (strOfNums (acc++codeB (l.drop j))):=fun r hr=>by
      have h:=ih (j+1) (acc++[l[j].f0 % 256]++r) (by omega) (by rw[hr];simp only[List.length_append,List.length_singleton];omega)
      rw[code_drop l j hlt,insB,←hr,←str_app,show acc++(l[j].f0 % 256 ::r++codeB (l.drop (j+1)))=acc++[l[j].f0 % 256]++r++codeB (l.drop (j+1)) by simp]
      exact h
    have hlen:(acc++[l[j].f0 % 256]).length=acc.length+1:=by rw[List.length_append,List.length_singleton]
    have hlo:=hx.lo
    have hhi:=hx.hi
    refine Ev.step (fun k=>by
      rw[spec_l6Bytes.l0,if_pos (show(j:Int)<(l.length:Int) by omega),if_pos (Int.natCast_nonneg j),if_pos (show(j:Int)<(l.length:Int) by omega),Option.bind_some,rdO l j hlt,if_pos (by rw[strOfNums_size,strOfNums_size,List.length_singleton];omega),e1,←str_app]) ?_
    refine Ev.bind (shape_ev _) ?_
    generalize hf:fo l[j].f0=f at*
    generalize hya:l[j].f1=a at*
    rcases hi with ⟨rfl,h0⟩|⟨rfl,h0,h1⟩|⟨h,h0,h1⟩|⟨rfl,h0,h1⟩|rfl|⟨rfl,h0,h1⟩
    · refine ev_no (by decide) ?_
      refine ev_no (by decide) ?_
      refine Ev.step (fun k=>by rw[spec_l6Bytes.j1,if_neg (by decide),if_neg (by decide)]) (Ev.step (fun k=>by rw[spec_l6Bytes.j2,if_neg (by decide),if_neg (by decide),e1]) ?_)
      have h:=hfin [] (by simp[numB])
      rwa [←str_app,List.append_nil] at h
    · refine ev_yes (by decide) ?_
      simp only[Option.bind_some]
      refine ev_yes (by rw[strOfNums_size,strOfNums_size,hlen,List.length_singleton];omega) ?_
      exact hfin _ (by simp[numB])
    · refine ev_no (by omega) ?_
      have hU:=U_len (n:=a) (by omega) (by omega)
      have hj1:Ev (fun k=>spec_l6Bytes.j1 k (strOfNums (acc++[l[j].f0 % 256])) l (l.length:Int) (j:Int) (f - 1) true l[j].f0 a) (strOfNums (acc++codeB (l.drop j))):=by
        refine Ev.step (fun k=>by rw[spec_l6Bytes.j1,if_pos rfl,wu64 (n:=a) (by omega) (by omega),e1]) ?_
        refine Ev.bind (a:=strOfNums (U a)) ⟨10,fun k hk=>spec_U k hk a (by omega) (by omega)⟩ ?_
        try dsimp only
        refine ev_yes (by rw[strOfNums_size,strOfNums_size,hlen];omega) ?_
        exact hfin _ (by rcases h with rfl|rfl<;>simp[numB])
      rcases h with rfl|rfl
      · refine ev_yes (by decide) ?_
        exact hj1
      · refine ev_no (by decide) ?_
        exact hj1
    · refine ev_no (by decide) ?_
      refine ev_no (by decide) ?_
      have hS:=S_len hlo hhi
      refine Ev.step (fun k=>by rw[spec_l6Bytes.j1,if_neg (by decide),if_pos (by decide)]) (Ev.step (fun k=>by rw[spec_l6Bytes.j2,if_pos (by decide),e1]) ?_)
      refine Ev.bind (a:=strOfNums (S a)) ⟨10,fun k hk=>(sleb_same k a []).trans (impl_S k hk a hlo hhi)⟩ ?_
      try dsimp only
      refine ev_yes (by rw[strOfNums_size,strOfNums_size,hlen];omega) ?_
      exact hfin _ (by simp[numB])
    · refine ev_no (by decide) ?_
      refine ev_no (by decide) ?_
      have hS:=S_len hlo hhi
      refine Ev.step (fun k=>by rw[spec_l6Bytes.j1,if_neg (by decide),if_neg (by decide)]) (Ev.step (fun k=>by rw[spec_l6Bytes.j2,if_pos (by decide),e1]) ?_)
      refine Ev.bind (a:=strOfNums (S a)) ⟨10,fun k hk=>(sleb_same k a []).trans (impl_S k hk a hlo hhi)⟩ ?_
      try dsimp only
      refine ev_yes (by rw[strOfNums_size,strOfNums_size,hlen];omega) ?_
      exact hfin _ (by simp[numB])
    · refine ev_no (by decide) ?_
      refine ev_no (by decide) ?_
      refine Ev.step (fun k=>by rw[spec_l6Bytes.j1,if_neg (by decide),if_neg (by decide)]) (Ev.step (fun k=>by rw[spec_l6Bytes.j2,if_neg (by decide),if_pos (by decide),wu64 (n:=a) (by omega) (by omega),e1]) ?_)
      refine Ev.bind (a:=strOfNums (four a)) ⟨5,fun k hk=>four_S a k hk⟩ ?_
      try dsimp only
      refine ev_yes (by rw[strOfNums_size,strOfNums_size,hlen];simp only[four,List.length_cons,List.length_nil];omega) ?_
      exact hfin _ (by simp[numB])
/-! the code comes back -/
theorem str_ne (a:Int) (r:List Int):¬(strOfNums (a ::r)).toList=([]:List UInt8):=by
  rw[empty_iff,strOfNums_size,List.length_cons];omega
theorem at_one (b:List Int) (more:List Int) (h:B8 b) (i:Nat) (hi:i<b.length):bt (strOfNums (b++more)) (i:Int)=b.getD i 0:=by
  rw[str_app,bt_append _ _ _ (by rw[strOfNums_size];exact hi)]
  have hm:b.getD i 0∈b:=by
    rw[List.getD_eq_getElem?_getD,List.getElem?_eq_getElem hi];exact List.getElem_mem hi
  exact bt_str b i hi (h _ hm).1 (h _ hm).2
/-- A number of four bytes is told again. -/
theorem number_4 (a:Int) (h0:0≤a) (h1:a≤4294967295) (k:Nat) (hk:5≤k):impl_number.f k (strOfNums (four a))=some a:=by
  obtain⟨k,rfl⟩:∃ j,k=j+5:=⟨k - 5,by omega⟩
  have hb:=four_b8 a
  have b0:=at_one (four a) [] hb 0 (by simp[four])
  have b1:=at_one (four a) [] hb 1 (by simp[four])
  have b2:=at_one (four a) [] hb 2 (by simp[four])
  have b3:=at_one (four a) [] hb 3 (by simp[four])
  rw[List.append_nil] at b0 b1 b2 b3
  change bt (strOfNums (four a)) 0=a % 256 at b0
  change bt (strOfNums (four a)) 1=a / 256 % 256 at b1
  change bt (strOfNums (four a)) 2=a / 65536 % 256 at b2
  change bt (strOfNums (four a)) 3=a / 16777216 % 256 at b3
  have hs:((strOfNums (four a)).size:Int)=4:=by rw[strOfNums_size];rfl
  have w:wrap64 (4 - 1)=3∧wrap64 (3 - 1)=2∧wrap64 (2 - 1)=1∧wrap64 (1 - 1)=0∧wrap64 (0 - 1)=-1:=by decide+kernel
  obtain⟨w4,w3,w2,w1,w0⟩:=w
  have j:∀ x y:Int,0≤x→x<16777216→0≤y→y≤255→Go.bits .or .u64 (IntKind.u64.wrap (x*256)) (IntKind.u64.wrap y)=x*256+y:=fun x y hx hx1 hy hy1=>by
    rw[wu64 (n:=x*256) (by omega) (by omega),wu64 (n:=y) hy (by omega),u64_join 8 _ _ (by omega) (by omega) (by omega) hy (by omega) (by omega)]
  unfold impl_number.f
  rw[hs,w4]
  rw[impl_number.l0,if_pos (by decide),if_pos (by decide),hs,if_pos (by decide),w3,b3,j _ _ (by decide) (by decide) (by omega) (by omega)]
  rw[impl_number.l0,if_pos (by decide),if_pos (by decide),hs,if_pos (by decide),w2,b2,j _ _ (by omega) (by omega) (by omega) (by omega)]
  rw[impl_number.l0,if_pos (by decide),if_pos (by decide),hs,if_pos (by decide),w1,b1,j _ _ (by omega) (by omega) (by omega) (by omega)]
  rw[impl_number.l0,if_pos (by decide),if_pos (by decide),hs,if_pos (by decide),w0,b0,j _ _ (by omega) (by omega) (by omega) (by omega)]
  rw[impl_number.l0,if_neg (by decide)]
  congr 1
  omega
/-- What stands beside an instruction is taken again. -/
theorem take_A (x:S37) (h:Gx x) (more:List Int) (hm:more.length≤1000000):Ev (fun k=>impl_takeA.f k (strOfNums (numB (fo x.f0) x.f1++more)) (fo x.f0)) (x.f1,((numB (fo x.f0) x.f1).length:Int),true):=by
  have hi:=gi_num h
  have hlo:=h.lo
  have hhi:=h.hi
  have hms:(strOfNums more).size≤1000000:=by rw[strOfNums_size];exact hm
  generalize fo x.f0=f at*
  generalize x.f1=a at*
  unfold impl_takeA.f
  rcases hi with ⟨rfl,h0⟩|⟨rfl,h0,h1⟩|⟨h,h0,h1⟩|⟨rfl,h0,h1⟩|rfl|⟨rfl,h0,h1⟩
  · refine ev_yes rfl ?_
    rw[h0]
    exact Ev.now _
  · refine ev_no (by decide) (ev_yes rfl ?_)
    have e:numB 2 a=[a % 256]:=by simp[numB]
    rw[e]
    refine ev_no (str_ne _ _) (ev_yes (by rw[strOfNums_size,List.length_append,List.length_singleton];omega) ?_)
    have hb:=at_one [a % 256] more (by intro y hy;rw[List.mem_singleton] at hy;omega) 0 (by simp)
    rw[show bt (strOfNums ([a % 256]++more)) 0=a % 256 from hb,w64 (by omega) (by omega),show a % 256=a by omega]
    exact Ev.now _
  · refine ev_no (by omega) (ev_no (by omega) ?_)
    have e:numB f a=U a:=by rcases h with rfl|rfl<;>simp[numB]
    have hU:=U_len (n:=a) (by omega) (by omega)
    rw[e]
    have hj:Ev (fun k=>impl_takeA.j0 k (strOfNums (U a++more)) f true) (a,((U a).length:Int),true):=by
      refine Ev.step (fun k=>by rw[impl_takeA.j0,if_pos rfl]) ?_
      refine Ev.bind (a:=(a,((U a).length:Int))) ⟨40,fun k hk=>by rw[str_app];exact take_U32 k hk a (by omega) (by omega) _ hms⟩ ?_
      try dsimp only
      rw[w64 (by omega) (by omega),decide_eq_true (by omega)]
      exact Ev.now _
    rcases h with rfl|rfl
    · exact ev_yes rfl hj
    · exact ev_no (by decide) hj
  · refine ev_no (by decide) (ev_no (by decide) (ev_no (by decide) ?_))
    have e:numB 5 a=S a:=by simp[numB]
    have hS:=S_len hlo hhi
    rw[e]
    refine Ev.step (fun k=>by rw[impl_takeA.j0,if_neg (by decide),if_pos rfl]) ?_
    refine Ev.bind (a:=(a,((S a).length:Int))) ⟨60,fun k hk=>by rw[str_app];exact take_S32 k hk a h0 h1 _ hms⟩ ?_
    try dsimp only
    rw[decide_eq_true (by omega)]
    exact Ev.now _
  · refine ev_no (by decide) (ev_no (by decide) (ev_no (by decide) ?_))
    have e:numB 6 a=S a:=by simp[numB]
    have hS:=S_len hlo hhi
    rw[e]
    refine Ev.step (fun k=>by rw[impl_takeA.j0,if_neg (by decide),if_neg (by decide),if_pos rfl]) ?_
    refine Ev.bind (a:=(a,((S a).length:Int))) ⟨60,fun k hk=>by rw[str_app];exact take_S64 k hk a hlo hhi _ hms⟩ ?_
    try dsimp only
    rw[decide_eq_true (by omega)]
    exact Ev.now _
  · refine ev_no (by decide) (ev_no (by decide) (ev_no (by decide) ?_))
    have e:numB 7 a=four a:=by simp[numB]
    have l4:(four a).length=4:=rfl
    rw[e]
    refine Ev.step (fun k=>by rw[impl_takeA.j0,if_neg (by decide),if_neg (by decide),if_neg (by decide),if_pos rfl,if_neg (by rw[strOfNums_size,List.length_append];omega),if_pos (by decide),if_pos (by rw[strOfNums_size,List.length_append];omega)]) ?_
    have hh:(strOfNums (four a++more)).extract 0 4=strOfNums (four a):=head_str (four a) more
    rw[hh]
    refine Ev.bind (a:=a) ⟨5,fun k hk=>number_4 a h0 h1 k hk⟩ ?_
    try dsimp only
    rw[w64 (by omega) (by omega)]
    exact Ev.now _
theorem codeB_len:∀ (l:List S37),(∀ x∈l,Gx x)→(codeB l).length≤11*l.length
  |[],_=>Nat.zero_le _
  |x ::xs,h=>by
    have h1:=num_len (h x (List.mem_cons_self ..))
    have h2:=codeB_len xs fun y hy=>h y (List.mem_cons_of_mem _ hy)
    rw[codeB,insB,List.length_append,List.length_cons,List.length_cons];omega
theorem read_back:∀ (l acc:List S37),(∀ x∈l,Gx x)→acc.length+l.length≤200→Ev (fun k=>impl_ReadCode.l0 k (strOfNums (codeB l)) acc) (acc++l,true)
  |[],acc,_,_=>by
    rw[List.append_nil]
    refine Ev.step (f:=fun _=>some (acc,true)) (fun k=>by rw[impl_ReadCode.l0,if_pos (show(strOfNums (codeB [])).toList=([]:List UInt8) from(empty_iff _).2 rfl)]) (Ev.now _)
  |x ::xs,acc,h,hl=>by
    have hx:=h x (List.mem_cons_self ..)
    have hxs:∀ y∈xs,Gx y:=fun y hy=>h y (List.mem_cons_of_mem _ hy)
    have hcl:=codeB_len xs hxs
    rw[List.length_cons] at hl
    have hby:=byte_of hx.good
    have hn:=num_len hx
    have ec:codeB (x ::xs)=(x.f0 % 256) ::(numB (fo x.f0) x.f1++codeB xs):=rfl
    have hb0:bt (strOfNums ((x.f0 % 256) ::(numB (fo x.f0) x.f1++codeB xs))) 0=x.f0:=by
      have:=at_one [x.f0 % 256] (numB (fo x.f0) x.f1++codeB xs) (by intro y hy;rw[List.mem_singleton] at hy;omega) 0 (by simp)
      rw[show bt (strOfNums ((x.f0 % 256) ::(numB (fo x.f0) x.f1++codeB xs))) 0=x.f0 % 256 from this]
      omega
    have hsz:(strOfNums ((x.f0 % 256) ::(numB (fo x.f0) x.f1++codeB xs))).size=1+(numB (fo x.f0) x.f1).length+(codeB xs).length:=by
      rw[strOfNums_size,List.length_cons,List.length_append];omega
    have c1:(strOfNums ((x.f0 % 256) ::(numB (fo x.f0) x.f1++codeB xs))).extract 1 (strOfNums ((x.f0 % 256) ::(numB (fo x.f0) x.f1++codeB xs))).size=strOfNums (numB (fo x.f0) x.f1++codeB xs):=cut_str [x.f0 % 256] _
    have c2:(strOfNums ((x.f0 % 256) ::(numB (fo x.f0) x.f1++codeB xs))).extract (1+(numB (fo x.f0) x.f1).length) (strOfNums ((x.f0 % 256) ::(numB (fo x.f0) x.f1++codeB xs))).size=strOfNums (codeB xs):=by
      have:=cut_str ((x.f0 % 256) ::numB (fo x.f0) x.f1) (codeB xs)
      rw[List.length_cons,Nat.add_comm] at this
      exact this
    rw[ec]
    refine Ev.step (fun k=>by rw[impl_ReadCode.l0,if_neg (str_ne _ _),if_pos (by rw[hsz];omega),if_pos (by rw[hsz];omega),c1,hb0,w64 (n:=x.f0) (by omega) (by omega)]) ?_
    refine Ev.bind (form_ev _) (Ev.bind (take_A x hx (codeB xs) (by omega)) ?_)
    refine ev_yes rfl ?_
    refine Ev.bind (a:=true) ⟨9,fun k hk=>(gi_impl x.f0 x.f1 hk).trans (by rw[hx.good])⟩ ?_
    refine ev_yes rfl (ev_no (by omega) (ev_yes (by omega) ?_))
    have ew:wrap64 (1+((numB (fo x.f0) x.f1).length:Int))=((1+(numB (fo x.f0) x.f1).length:Nat):Int):=by rw[w64 (by omega) (by omega)];omega
    try dsimp only
    rw[ew]
    refine ev_yes (by omega) (ev_yes (by rw[hsz];omega) ?_)
    rw[Int.toNat_natCast,c2]
    have ih:=read_back xs (acc++[x]) hxs (by rw[List.length_append,List.length_singleton];omega)
    rw[List.append_assoc] at ih
    exact ih
end Go.Proofs.Ytmajifnehjlncaa.Ins
