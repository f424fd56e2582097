/- Texts of good types: both texts write the same one. -/
import Derived.Test.YtoeenmajdidfoaaDoorTk
import Derived.Test.YtoeenmajdidfoaaDoorQx6
import Derived.Test.YtoeenmajdidfoaaDoorQx7
namespace Go.Proofs.YtoeenmajdidfoaaDoor.Ty
open Go.RowKit Go.Proofs.YtoeenmajdidfoaaDoor.Q Go.Proofs.YtoeenmajdidfoaaDoorW.PrintWords Go.Proofs.YtoeenmajdidfoaaDoorW.PrintLast Go.Proofs.YtoeenmajdidfoaaDoorW.PrintMore Go.Proofs.YtoeenmajdidfoaaDoor.Mb
set_option linter.unusedSimpArgs false
set_option linter.unusedVariables false
set_option linter.unusedSectionVars false

/-- A tree of good nodes. -/
def GT:Nat→S43→Prop
  |0,t=>ok t.f0 t.f1 (t.f2.length:Int)=true∧t.f2=[]
  |m+1,t=>ok t.f0 t.f1 (t.f2.length:Int)=true∧∀ x∈t.f2,GT m x
theorem GT.ok {m:Nat} {t:S43} (h:GT m t):ok t.f0 t.f1 (t.f2.length:Int)=true:=by cases m<;>exact h.1
theorem tr_gt (l:List S33) (hg:good l=true) (m:Nat):∀ i:Nat,i<l.length→8≤deep l i+m→GT m (tr l m (i:Int)):=by
  induction m with
  |zero=>
    intro i hi hd
    have h:=(good_node l hg i hi).2
    rw[no_parts l hg i hi (by omega)] at h
    rw[tr,Int.toNat_natCast]
    exact⟨h,rfl⟩
  |succ m ih=>
    intro i hi hd
    have h:=(good_node l hg i hi).2
    rw[tr,Int.toNat_natCast]
    refine⟨by show Ty.ok (K l i) (Nn l i) (((pre l l.length i).map (tr l m)).length:Int)=true;rw[List.length_map];exact h,fun x hx=>?_⟩
    obtain⟨y,hy,rfl⟩:=List.mem_map.1 hx
    obtain⟨j,rfl,h1,h2,h3⟩:=part_at l hg i y hy
    exact ih j h2 (by omega)
theorem tree_gt (l:List S33) (hg:good l=true):GT 8 (tree l):=tr_gt l hg 8 0 (by have:=good_len l hg;omega) (by omega)

theorem bytes_eq {a b:ByteArray} (h:a.data.toList=b.data.toList):a=b:=by
  cases a;cases b;congr 1;exact Array.toList_inj.1 h
theorem bytes_app (a b:ByteArray):(a++b).data.toList=a.data.toList++b.data.toList:=by
  rw[ByteArray.data_append,Array.toList_append]
/-! numbers -/
theorem dig_ok (k:Nat):∀ u:Nat,u<10 ^ k→u≤300→1≤k→spec_l1Num.f k (u:Int)=some ⟨(Lib.decDigits u).toArray⟩:=by
  induction k with
  |zero=>intro u _ _ h;omega
  |succ k ih=>
    intro u hu h3 _
    have hs:∀ v:Nat,v<10→strOfNums [(wrap64 (48+(v:Int))) % 256]=⟨#[UInt8.ofNat (48+v)]⟩:=by
      intro v hv
      rw[w64 (by omega) (by omega),show (48+(v:Int)) % 256=((48+v:Nat):Int) by omega]
      rfl
    simp only[spec_l1Num.f]
    rw[if_neg (by omega)]
    by_cases c:u<10
    · rw[if_pos (by omega),hs u c,Lib.decDigits,dif_pos c]
    · rw[if_neg (by omega),Lib.decDigits,dif_neg c]
      have e1:wrap64 (Int.tdiv (u:Int) 10)=((u / 10:Nat):Int):=by
        rw[show Int.tdiv (u:Int) 10=((u / 10:Nat):Int) from rfl];exact w64 (by omega) (by omega)
      have e2:Int.tmod (u:Int) 10=((u % 10:Nat):Int):=rfl
      rw[e1,e2]
      have hk:1≤k:=by
        rcases Nat.eq_zero_or_pos k with rfl|h
        · simp at hu;omega
        · exact h
      rw[ih (u / 10) (by rw[Nat.pow_succ] at hu;omega) (by omega) hk,Option.bind_some,Option.bind_some,hs (u % 10) (by omega)]
      have z1:(⟨(Lib.decDigits (u / 10)).toArray⟩:ByteArray).size≤3:=by
        have:(⟨(Lib.decDigits (u / 10)).toArray⟩:ByteArray).size=(Lib.decDigits (u / 10)).length:=by
          show((Lib.decDigits (u / 10)).toArray).size=_
          exact List.size_toArray
        rw[this]
        exact dig_len _ (by omega)
      have z2:(⟨#[UInt8.ofNat (48+u % 10)]⟩:ByteArray).size=1:=rfl
      rw[if_pos (by rw[z2];omega)]
      congr 1
theorem num_ok (n:Int) (h0:0≤n) (h1:n≤300):Ev (fun k=>spec_l1Num.f k n) (numS n):=by
  obtain⟨u,rfl⟩:=Int.eq_ofNat_of_zero_le h0
  refine Ev.of (fun k=>spec_l1Num.mono _ _) (k:=3) ?_
  rw[dig_ok 3 u (by omega) (by omega) (by omega),numS,Lib.itoa,if_neg (by omega),Int.toNat_natCast]
/-! commas -/
theorem commas_nil:commas []=nos:=by rw[commas,List.map_nil,Lib.join_nil];rfl
theorem commas_one (x:ByteArray):commas [x]=x:=by
  rw[commas,List.map_cons,List.map_nil,Lib.join_one]
theorem joinTail_snoc (sep:List UInt8) (r:List (List UInt8)) (y:List UInt8):Lib.joinTail sep (r++[y])=Lib.joinTail sep r++(sep++y):=by
  unfold Lib.joinTail
  rw[List.map_append,List.flatten_append]
  simp
theorem commas_snoc (l:List ByteArray) (x:ByteArray) (h:l≠[]):commas (l++[x])=(commas l++(⟨#[44]⟩:ByteArray))++x:=by
  cases l with
  |nil=>exact absurd rfl h
  |cons y r=>
    apply bytes_eq
    rw[bytes_app,bytes_app]
    show(Lib.join (((y ::r)++[x]).map (·.data.toList)) [44]).toArray.toList=(Lib.join ((y ::r).map (·.data.toList)) [44]).toArray.toList++[44]++x.data.toList
    rw[List.toList_toArray,List.toList_toArray,List.cons_append,List.map_cons,List.map_append,List.map_cons,List.map_nil,List.map_cons,Lib.join_cons,Lib.join_cons,joinTail_snoc]
    simp
theorem app_nos (a:ByteArray):a++nos=a:=by
  apply bytes_eq
  rw[bytes_app]
  show a.data.toList++[]=_
  rw[List.append_nil]
theorem app_assoc (a b c:ByteArray):a++b++c=a++(b++c):=by
  apply bytes_eq
  rw[bytes_app,bytes_app,bytes_app,bytes_app,List.append_assoc]
theorem rd52x (xs:List S43) (j:Nat) (h:j<xs.length):rd_T43 xs (j:Int)=xs[j]:=by
  unfold rd_T43
  rw[Int.toNat_natCast,List.getD_eq_getElem?_getD,List.getElem?_eq_getElem h]
  rfl
theorem text_l0 (kids:List S43) (hk:kids.length≤8) (ps:List ByteArray) (hl:ps.length=kids.length) (B:Nat) (hB:B≤1000000000000000) (hb:∀ x∈ps,x.size≤B)
    (hr:∀ j (hj:j<kids.length),Ev (fun k=>spec_l11Text.f k kids[j].f0 kids[j].f1 kids[j].f2) (ps.getD j nos)) (s0:ByteArray) (hs:s0.size≤100) (d:Nat):∀ j:Nat,j+d=kids.length→
    Ev (fun k=>spec_l11Text.l0 k (s0++commas (ps.take j)) kids (kids.length:Int) (j:Int)) ((s0++commas ps)++(⟨#[62]⟩:ByteArray)):=by
  have size_at:∀ j,j≤kids.length→(s0++commas (ps.take j)).size≤100+8*(B+1):=by
    intro j hj
    rw[ByteArray.size_append]
    have h1:=commas_size B (ps.take j) (fun x hx=>hb x (List.mem_of_mem_take hx))
    have h2:(ps.take j).length*(B+1)≤8*(B+1):=Nat.mul_le_mul_right _ (by rw[List.length_take];omega)
    omega
  induction d with
  |zero=>
    intro j hj
    obtain rfl:j=kids.length:=by omega
    have hz:=size_at kids.length (Nat.le_refl _)
    rw[List.take_of_length_le (by omega)] at hz ⊢
    refine Ev.step (f:=fun _=>some ((s0++commas ps)++(⟨#[62]⟩:ByteArray))) (fun k=>?_) (Ev.now _)
    simp only[spec_l11Text.l0]
    rw[if_neg (by omega),if_pos (by omega)]
  |succ d ih=>
    intro j hj
    have hlt:j<kids.length:=by omega
    have hlp:j<ps.length:=by omega
    have he:=hr j hlt
    have hz:=size_at j (by omega)
    have hpj:(ps.getD j nos).size≤B:=by
      rw[List.getD_eq_getElem?_getD,List.getElem?_eq_getElem hlp]
      exact hb _ (List.getElem_mem hlp)
    have ht:ps.take (j+1)=ps.take j++[ps.getD j nos]:=by
      rw[List.take_succ_eq_append_getElem hlp,List.getD_eq_getElem?_getD,List.getElem?_eq_getElem hlp];rfl
    have z44:(⟨#[44]⟩:ByteArray).size=1:=rfl
    have ihj:=ih (j+1) (by omega)
    by_cases c:j=0
    · subst c
      refine Ev.step (f:=fun k=>(spec_l11Text.f k kids[0].f0 kids[0].f1 kids[0].f2).bind fun t140=>(if (s0++commas (ps.take 0)).size+t140.size≤9223372036854775807 then (spec_l11Text.l0 k ((s0++commas (ps.take 0))++t140) kids (kids.length:Int) ((0+1:Nat):Int)) else (none))) (fun k=>?_) (Ev.bind he ?_)
      · simp only[spec_l11Text.l0]
        rw[if_pos (show((0:Nat):Int)<(kids.length:Int) by omega),if_pos (show(0:Int)≤((0:Nat):Int) by omega),if_pos (show((0:Nat):Int)<(kids.length:Int) by omega),if_neg (show ¬((0:Nat):Int) > 0 by omega),rd52x kids 0 hlt,w64 (n:=((0:Nat):Int)+1) (by omega) (by omega)]
        rfl
      · have e:s0++commas (ps.take (0+1))=(s0++commas (ps.take 0))++ps.getD 0 nos:=by
          rw[ht,List.take_zero,List.nil_append,commas_one,commas_nil,app_nos]
        rw[e] at ihj
        refine Ev.congr (fun k=>?_) ihj
        rw[if_pos (by omega)]
    · refine Ev.step (f:=fun k=>(spec_l11Text.f k kids[j].f0 kids[j].f1 kids[j].f2).bind fun t139=>(if ((s0++commas (ps.take j))++(⟨#[44]⟩:ByteArray)).size+t139.size≤9223372036854775807 then (spec_l11Text.l0 k (((s0++commas (ps.take j))++(⟨#[44]⟩:ByteArray))++t139) kids (kids.length:Int) ((j+1:Nat):Int)) else (none))) (fun k=>?_) (Ev.bind he ?_)
      · simp only[spec_l11Text.l0]
        rw[if_pos (show(j:Int)<(kids.length:Int) by omega),if_pos (show(0:Int)≤(j:Int) by omega),if_pos (show(j:Int)<(kids.length:Int) by omega),if_pos (show(j:Int) > 0 by omega),if_pos (show(s0++commas (ps.take j)).size+1≤9223372036854775807 by omega),rd52x kids j hlt,w64 (n:=(j:Int)+1) (by omega) (by omega)]
        rfl
      · have e:s0++commas (ps.take (j+1))=((s0++commas (ps.take j))++(⟨#[44]⟩:ByteArray))++ps.getD j nos:=by
          have hne:ps.take j≠[]:=by
            intro h0
            have h3:min j ps.length=0:=by rw[←List.length_take,h0];rfl
            omega
          rw[ht,commas_snoc _ _ hne,app_assoc s0,app_assoc s0,app_assoc (commas _)]
        rw[e] at ihj
        refine Ev.congr (fun k=>?_) ihj
        have hz2:((s0++commas (ps.take j))++(⟨#[44]⟩:ByteArray)).size=(s0++commas (ps.take j)).size+1:=by rw[ByteArray.size_append];rfl
        rw[if_pos (by omega)]
/-! words -/
def Wn:List ByteArray:=spec_l11Names.f.getD []
theorem wn_ok:spec_l11Names.f=some Wn:=rfl
theorem wn_len:Wn.length=22:=by decide+kernel
theorem word_ok {a:Int} (h0:0≤a) (h1:a<22):impl_kindWord.f a=some (rdOf ByteArray.empty Wn a):=by
  have e:impl_kindWord.f a=(some Wn).bind fun y=>(if 0≤a then (if a<(y.length:Int) then (some (rdOf ByteArray.empty y a)) else (none)) else (none)):=rfl
  rw[e,Option.bind_some,if_pos h0,if_pos (by rw[wn_len];omega)]
theorem sh_num:∀ x:Fin 22,(x.val=16∨19≤x.val)→(sh ((x.val:Nat):Int)).2.1=0∧0≤(sh ((x.val:Nat):Int)).2.2.1∧(sh ((x.val:Nat):Int)).2.2.2≤300:=by decide+kernel
theorem ok_num {x n c:Int} (h:ok x n c=true) (hc:0≤c) (hx:x=16∨19≤x):c=0∧0≤n∧n≤300:=by
  have h1:=of_decide_eq_true h
  obtain⟨u,rfl⟩:=Int.eq_ofNat_of_zero_le (show 0≤x by omega)
  have h2:=sh_num ⟨u,by omega⟩ (by simp only;omega)
  simp only at h2
  omega
theorem text_spec (m:Nat):m≤8→∀ t:S43,GT m t→∃ r,textT (m+1) t=some r∧r.size≤64*16 ^ (m+1)∧Ev (fun k=>spec_l11Text.f k t.f0 t.f1 t.f2) r:=by
  have main:∀ (m:Nat),m≤8→∀ t:S43,ok t.f0 t.f1 (t.f2.length:Int)=true→(∀ x∈t.f2,∃ r,textT m x=some r∧r.size≤64*16 ^ m∧Ev (fun k=>spec_l11Text.f k x.f0 x.f1 x.f2) r)→
      ∃ r,textT (m+1) t=some r∧r.size≤64*16 ^ (m+1)∧Ev (fun k=>spec_l11Text.f k t.f0 t.f1 t.f2) r:=by
    intro m hm t hok hx
    obtain⟨hl8,k1,k21⟩:=ok_few hok
    have hw:=word_ok (a:=t.f0) (by omega) (by omega)
    have hws:=word_size hw
    have hp:16 ^ (m+1)=16*16 ^ m:=by rw[Nat.pow_succ,Nat.mul_comm]
    have hpos:0<16 ^ m:=Nat.pow_pos (by decide)
    have hp8:16 ^ m≤16 ^ 8:=Nat.pow_le_pow_right (by decide) hm
    have h16:(16:Nat) ^ 8=4294967296:=by decide
    have z60:(⟨#[60]⟩:ByteArray).size=1:=rfl
    have z62:(⟨#[62]⟩:ByteArray).size=1:=rfl
    have hf:∀ k,spec_l11Text.f (k+1) t.f0 t.f1 t.f2=(if (t.f2.length:Int) > 0 then (spec_l11Text.l0 k ((rdOf ByteArray.empty Wn t.f0)++(⟨#[60]⟩:ByteArray)) t.f2 (t.f2.length:Int) 0) else (if 19≤t.f0∨t.f0=16 then ((spec_l1Num.f k t.f1).bind fun t142=>(if ((rdOf ByteArray.empty Wn t.f0)++(⟨#[60]⟩:ByteArray)).size+t142.size≤9223372036854775807 then (if (((rdOf ByteArray.empty Wn t.f0)++(⟨#[60]⟩:ByteArray))++t142).size+1≤9223372036854775807 then (some ((((rdOf ByteArray.empty Wn t.f0)++(⟨#[60]⟩:ByteArray))++t142)++(⟨#[62]⟩:ByteArray))) else (none)) else (none))) else (some (rdOf ByteArray.empty Wn t.f0)))):=by
      intro k
      simp only[spec_l11Text.f]
      rw[wn_ok,Option.bind_some,if_pos (by omega),if_pos (by rw[wn_len];omega),in_ok,Option.bind_some]
      by_cases c0:(t.f2.length:Int) > 0
      · rw[if_pos c0,if_pos c0,if_pos (by omega)]
      · rw[if_neg c0,if_neg c0]
        by_cases c1:19≤t.f0
        · rw[if_pos (by simp;omega),if_pos (show 19≤t.f0∨t.f0=16 from .inl c1),if_pos (by omega)]
        · rw[if_neg (by simp;omega)]
          by_cases c2:t.f0=16
          · rw[if_pos c2,if_pos (show 19≤t.f0∨t.f0=16 from .inr c2),if_pos (by omega)]
          · rw[if_neg c2,if_neg (by rintro (h|h)<;>omega)]
    by_cases cn:t.f0=16∨19≤t.f0
    · obtain⟨hc0,n0,n3⟩:=ok_num hok (by omega) cn
      have hcount:impl_counted.f t.f0=some true:=by
        unfold impl_counted.f
        by_cases c:t.f0=16
        · rw[if_pos c]
        · rw[if_neg c,decide_eq_true (by omega)]
      have hns:=numS_size t.f1 n0 n3
      refine⟨(((rdOf ByteArray.empty Wn t.f0)++(⟨#[60]⟩:ByteArray))++numS t.f1)++(⟨#[62]⟩:ByteArray),?_,?_,?_⟩
      · rw[textT,hw,Option.bind_some,hcount,Option.bind_some,if_pos rfl,if_pos ⟨n0,n3⟩]
      · rw[ByteArray.size_append,ByteArray.size_append,ByteArray.size_append,hp,z60,z62]
        omega
      · refine Ev.step (f:=fun k=>(spec_l1Num.f k t.f1).bind fun t142=>(if ((rdOf ByteArray.empty Wn t.f0)++(⟨#[60]⟩:ByteArray)).size+t142.size≤9223372036854775807 then (if (((rdOf ByteArray.empty Wn t.f0)++(⟨#[60]⟩:ByteArray))++t142).size+1≤9223372036854775807 then (some ((((rdOf ByteArray.empty Wn t.f0)++(⟨#[60]⟩:ByteArray))++t142)++(⟨#[62]⟩:ByteArray))) else (none)) else (none))) (fun k=>?_) (Ev.bind (num_ok t.f1 n0 n3) ?_)
        · rw[hf k,if_neg (by omega),if_pos (by omega)]
        · refine Ev.congr (fun k=>?_) (Ev.now _)
          rw[if_pos (by rw[ByteArray.size_append,z60];omega),if_pos (by rw[ByteArray.size_append,ByteArray.size_append,z60];omega)]
    · have hcount:impl_counted.f t.f0=some false:=by
        unfold impl_counted.f
        rw[if_neg (by omega),decide_eq_false (by omega)]
      by_cases c0:t.f2.length=0
      · refine⟨rdOf ByteArray.empty Wn t.f0,?_,by rw[hp];omega,?_⟩
        · rw[textT,hw,Option.bind_some,hcount,Option.bind_some,if_neg (by decide),if_pos c0]
        · refine Ev.step (f:=fun _=>some (rdOf ByteArray.empty Wn t.f0)) (fun k=>?_) (Ev.now _)
          rw[hf k,if_neg (by omega),if_neg (by omega)]
      · have hps:∃ ps,t.f2.mapM (textT m)=some ps∧∀ j (hj:j<t.f2.length),(ps.getD j nos).size≤64*16 ^ m∧Ev (fun k=>spec_l11Text.f k t.f2[j].f0 t.f2[j].f1 t.f2[j].f2) (ps.getD j nos):=by
          have:∀ kids:List S43,(∀ x∈kids,∃ r,textT m x=some r∧r.size≤64*16 ^ m∧Ev (fun k=>spec_l11Text.f k x.f0 x.f1 x.f2) r)→∃ ps,kids.mapM (textT m)=some ps:=by
            intro kids
            induction kids with
            |nil=>intro _;exact⟨[],rfl⟩
            |cons x kids ih=>
              intro h
              obtain⟨r,hr,_⟩:=h x (by simp)
              obtain⟨ps,hps⟩:=ih (fun y hy=>h y (List.mem_cons_of_mem _ hy))
              exact⟨r ::ps,by simp[List.mapM_cons,hr,hps]⟩
          obtain⟨ps,hps⟩:=this t.f2 hx
          refine⟨ps,hps,fun j hj=>?_⟩
          have e:=mapM_get nos hps j hj
          obtain⟨r,hr,hz,he⟩:=hx t.f2[j] (List.getElem_mem hj)
          obtain rfl:=Option.some.inj (hr.symm.trans e)
          exact⟨hz,he⟩
        obtain⟨ps,hps,hall⟩:=hps
        have hlen:=mapM_len hps
        have hb:∀ x∈ps,x.size≤64*16 ^ m:=by
          intro x hx
          obtain⟨j,hj,rfl⟩:=List.getElem_of_mem hx
          have e:=(hall j (by omega)).1
          rwa [List.getD_eq_getElem?_getD,List.getElem?_eq_getElem hj] at e
        have hcs:=commas_size _ ps hb
        have hm8:ps.length*(64*16 ^ m+1)≤8*(64*16 ^ m+1):=Nat.mul_le_mul_right _ (by omega)
        refine⟨(((rdOf ByteArray.empty Wn t.f0)++(⟨#[60]⟩:ByteArray))++commas ps)++(⟨#[62]⟩:ByteArray),?_,?_,?_⟩
        · rw[textT,hw,Option.bind_some,hcount,Option.bind_some,if_neg (by decide),if_neg c0,hps,Option.bind_some]
        · rw[ByteArray.size_append,ByteArray.size_append,ByteArray.size_append,hp,z60,z62]
          omega
        · have h0:=text_l0 t.f2 (by omega) ps hlen (64*16 ^ m) (by omega) hb (fun j hj=>(hall j hj).2) ((rdOf ByteArray.empty Wn t.f0)++(⟨#[60]⟩:ByteArray)) (by rw[ByteArray.size_append,z60];omega) t.f2.length 0 (by omega)
          rw[List.take_zero,commas_nil,app_nos] at h0
          refine Ev.step (fun k=>?_) h0
          rw[hf k,if_pos (by omega)]
          rfl
  induction m with
  |zero=>intro _ t h;exact main 0 (by omega) t h.1 (fun x hx=>by rw[h.2] at hx;cases hx)
  |succ m ih=>intro hm t h;exact main (m+1) hm t h.1 (fun x hx=>ih (by omega) x (h.2 x hx))
end Go.Proofs.YtoeenmajdidfoaaDoor.Ty
