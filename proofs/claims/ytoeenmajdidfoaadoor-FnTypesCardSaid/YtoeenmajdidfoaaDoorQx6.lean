-- Written by a program of this session; it walks the functions that the law reaches.
import Derived.Test.YtoeenmajdidfoaaDoorQx0
import Derived.Test.YtoeenmajdidfoaaDoorQx1
import Derived.Test.YtoeenmajdidfoaaDoorQx5
namespace Go.Proofs.YtoeenmajdidfoaaDoor.Q
open Go.RowKit Go.Proofs.YtoeenmajdidfoaaDoorW.PrintWords Go.Proofs.YtoeenmajdidfoaaDoorW.PrintLast Go.Proofs.YtoeenmajdidfoaaDoorW.PrintMore
attribute [local go_sem] max2_int min2_int max_two min_two max_three min_three max_four min_four   -- for this text's walks alone
set_option linter.unusedVariables false
set_option linter.unusedSimpArgs false
set_option maxRecDepth 100000
set_option maxHeartbeats 8000000

/-! ### impl_kindWord: function 21 -/
def impl_kindWord.f (a0:Int):Option (ByteArray):=(some (([(⟨#[]⟩:ByteArray),(⟨#[98,111,111,108]⟩:ByteArray),(⟨#[117,56]⟩:ByteArray),(⟨#[115,56]⟩:ByteArray),(⟨#[117,49,54]⟩:ByteArray),(⟨#[115,49,54]⟩:ByteArray),(⟨#[117,51,50]⟩:ByteArray),(⟨#[115,51,50]⟩:ByteArray),(⟨#[117,54,52]⟩:ByteArray),(⟨#[115,54,52]⟩:ByteArray),(⟨#[102,51,50]⟩:ByteArray),(⟨#[99,104,97,114]⟩:ByteArray),(⟨#[115,116,114,105,110,103]⟩:ByteArray),(⟨#[108,105,115,116]⟩:ByteArray),(⟨#[114,101,99,111,114,100]⟩:ByteArray),(⟨#[118,97,114,105,97,110,116]⟩:ByteArray),(⟨#[102,108,97,103,115]⟩:ByteArray),(⟨#[111,112,116,105,111,110]⟩:ByteArray),(⟨#[114,101,115,117,108,116]⟩:ByteArray),(⟨#[101,110,117,109]⟩:ByteArray),(⟨#[111,119,110]⟩:ByteArray),(⟨#[98,111,114,114,111,119]⟩:ByteArray)]:List ByteArray):List ByteArray)).bind fun y216=>(if 0≤a0 then (if a0<(y216.length:Int) then (some (rdOf ByteArray.empty y216 a0)) else (none)) else (none))
theorem impl_kindWord.calls (a0:Int) (r:ByteArray) (w:World) (h:impl_kindWord.f a0=some r):
  Calls Tryd.prog 21 #[.int .i64 a0] w fun e w'=>e=.returned (.string r)∧Below w.heap.size w w':=by
 have HB:=A_ (Below.refl w.heap.size w)
 have H:((some (([(⟨#[]⟩:ByteArray),(⟨#[98,111,111,108]⟩:ByteArray),(⟨#[117,56]⟩:ByteArray),(⟨#[115,56]⟩:ByteArray),(⟨#[117,49,54]⟩:ByteArray),(⟨#[115,49,54]⟩:ByteArray),(⟨#[117,51,50]⟩:ByteArray),(⟨#[115,51,50]⟩:ByteArray),(⟨#[117,54,52]⟩:ByteArray),(⟨#[115,54,52]⟩:ByteArray),(⟨#[102,51,50]⟩:ByteArray),(⟨#[99,104,97,114]⟩:ByteArray),(⟨#[115,116,114,105,110,103]⟩:ByteArray),(⟨#[108,105,115,116]⟩:ByteArray),(⟨#[114,101,99,111,114,100]⟩:ByteArray),(⟨#[118,97,114,105,97,110,116]⟩:ByteArray),(⟨#[102,108,97,103,115]⟩:ByteArray),(⟨#[111,112,116,105,111,110]⟩:ByteArray),(⟨#[114,101,115,117,108,116]⟩:ByteArray),(⟨#[101,110,117,109]⟩:ByteArray),(⟨#[111,119,110]⟩:ByteArray),(⟨#[98,111,114,114,111,119]⟩:ByteArray)]:List ByteArray):List ByteArray)).bind fun y216=>(if 0≤a0 then (if a0<(y216.length:Int) then (some (rdOf ByteArray.empty y216 a0)) else (none)) else (none)))=some r:=h
 clear h
 replace H:=nm_ H
 obtain⟨y216,Ny216,H⟩:=H
 try dsimp only at H
 replace H:=id_ H
 obtain⟨c2b0,H⟩:=H
 replace H:=id_ H
 obtain⟨c3b0,H⟩:=H
 obtain rfl:=Option.some.inj H
 clear H
 go_enter Tryd.func21,Tryd.ntmps21
 go_wp2_with (first|((with_reducible refine gd_ 4 rfl ?_);refine Kd.R_lit Kd.string _ 9 ?hg (N:=4) ?hd (xs:=([(⟨#[]⟩:ByteArray),(⟨#[98,111,111,108]⟩:ByteArray),(⟨#[117,56]⟩:ByteArray),(⟨#[115,56]⟩:ByteArray),(⟨#[117,49,54]⟩:ByteArray),(⟨#[115,49,54]⟩:ByteArray),(⟨#[117,51,50]⟩:ByteArray),(⟨#[115,51,50]⟩:ByteArray),(⟨#[117,54,52]⟩:ByteArray),(⟨#[115,54,52]⟩:ByteArray),(⟨#[102,51,50]⟩:ByteArray),(⟨#[99,104,97,114]⟩:ByteArray),(⟨#[115,116,114,105,110,103]⟩:ByteArray),(⟨#[108,105,115,116]⟩:ByteArray),(⟨#[114,101,99,111,114,100]⟩:ByteArray),(⟨#[118,97,114,105,97,110,116]⟩:ByteArray),(⟨#[102,108,97,103,115]⟩:ByteArray),(⟨#[111,112,116,105,111,110]⟩:ByteArray),(⟨#[114,101,115,117,108,116]⟩:ByteArray),(⟨#[101,110,117,109]⟩:ByteArray),(⟨#[111,119,110]⟩:ByteArray),(⟨#[98,111,114,114,111,119]⟩:ByteArray)]:List ByteArray)) (inner:=[.string (⟨#[]⟩:ByteArray),.string (⟨#[98,111,111,108]⟩:ByteArray),.string (⟨#[117,56]⟩:ByteArray),.string (⟨#[115,56]⟩:ByteArray),.string (⟨#[117,49,54]⟩:ByteArray),.string (⟨#[115,49,54]⟩:ByteArray),.string (⟨#[117,51,50]⟩:ByteArray),.string (⟨#[115,51,50]⟩:ByteArray),.string (⟨#[117,54,52]⟩:ByteArray),.string (⟨#[115,54,52]⟩:ByteArray),.string (⟨#[102,51,50]⟩:ByteArray),.string (⟨#[99,104,97,114]⟩:ByteArray),.string (⟨#[115,116,114,105,110,103]⟩:ByteArray),.string (⟨#[108,105,115,116]⟩:ByteArray),.string (⟨#[114,101,99,111,114,100]⟩:ByteArray),.string (⟨#[118,97,114,105,97,110,116]⟩:ByteArray),.string (⟨#[102,108,97,103,115]⟩:ByteArray),.string (⟨#[111,112,116,105,111,110]⟩:ByteArray),.string (⟨#[114,101,115,117,108,116]⟩:ByteArray),.string (⟨#[101,110,117,109]⟩:ByteArray),.string (⟨#[111,119,110]⟩:ByteArray),.string (⟨#[98,111,114,114,111,119]⟩:ByteArray)]) (ok:=fun _=>True) (okp:=fun _=>True) ?hr ?hp (fun _ hk=>hk) trivial (Below.refl _ _) (Nat.le_refl _) (by simp) ?_;(case hd=>rfl);(case hg=>rfl);(case hr=>first|(go_simp;done)|(go_simp;rfl));(case hp=>exact(Reps.one (show Kd.M Kd.string _ _ _ (⟨#[]⟩:ByteArray) [.string (⟨#[]⟩:ByteArray)] from rfl) (Reps.one (show Kd.M Kd.string _ _ _ (⟨#[98,111,111,108]⟩:ByteArray) [.string (⟨#[98,111,111,108]⟩:ByteArray)] from rfl) (Reps.one (show Kd.M Kd.string _ _ _ (⟨#[117,56]⟩:ByteArray) [.string (⟨#[117,56]⟩:ByteArray)] from rfl) (Reps.one (show Kd.M Kd.string _ _ _ (⟨#[115,56]⟩:ByteArray) [.string (⟨#[115,56]⟩:ByteArray)] from rfl) (Reps.one (show Kd.M Kd.string _ _ _ (⟨#[117,49,54]⟩:ByteArray) [.string (⟨#[117,49,54]⟩:ByteArray)] from rfl) (Reps.one (show Kd.M Kd.string _ _ _ (⟨#[115,49,54]⟩:ByteArray) [.string (⟨#[115,49,54]⟩:ByteArray)] from rfl) (Reps.one (show Kd.M Kd.string _ _ _ (⟨#[117,51,50]⟩:ByteArray) [.string (⟨#[117,51,50]⟩:ByteArray)] from rfl) (Reps.one (show Kd.M Kd.string _ _ _ (⟨#[115,51,50]⟩:ByteArray) [.string (⟨#[115,51,50]⟩:ByteArray)] from rfl) (Reps.one (show Kd.M Kd.string _ _ _ (⟨#[117,54,52]⟩:ByteArray) [.string (⟨#[117,54,52]⟩:ByteArray)] from rfl) (Reps.one (show Kd.M Kd.string _ _ _ (⟨#[115,54,52]⟩:ByteArray) [.string (⟨#[115,54,52]⟩:ByteArray)] from rfl) (Reps.one (show Kd.M Kd.string _ _ _ (⟨#[102,51,50]⟩:ByteArray) [.string (⟨#[102,51,50]⟩:ByteArray)] from rfl) (Reps.one (show Kd.M Kd.string _ _ _ (⟨#[99,104,97,114]⟩:ByteArray) [.string (⟨#[99,104,97,114]⟩:ByteArray)] from rfl) (Reps.one (show Kd.M Kd.string _ _ _ (⟨#[115,116,114,105,110,103]⟩:ByteArray) [.string (⟨#[115,116,114,105,110,103]⟩:ByteArray)] from rfl) (Reps.one (show Kd.M Kd.string _ _ _ (⟨#[108,105,115,116]⟩:ByteArray) [.string (⟨#[108,105,115,116]⟩:ByteArray)] from rfl) (Reps.one (show Kd.M Kd.string _ _ _ (⟨#[114,101,99,111,114,100]⟩:ByteArray) [.string (⟨#[114,101,99,111,114,100]⟩:ByteArray)] from rfl) (Reps.one (show Kd.M Kd.string _ _ _ (⟨#[118,97,114,105,97,110,116]⟩:ByteArray) [.string (⟨#[118,97,114,105,97,110,116]⟩:ByteArray)] from rfl) (Reps.one (show Kd.M Kd.string _ _ _ (⟨#[102,108,97,103,115]⟩:ByteArray) [.string (⟨#[102,108,97,103,115]⟩:ByteArray)] from rfl) (Reps.one (show Kd.M Kd.string _ _ _ (⟨#[111,112,116,105,111,110]⟩:ByteArray) [.string (⟨#[111,112,116,105,111,110]⟩:ByteArray)] from rfl) (Reps.one (show Kd.M Kd.string _ _ _ (⟨#[114,101,115,117,108,116]⟩:ByteArray) [.string (⟨#[114,101,115,117,108,116]⟩:ByteArray)] from rfl) (Reps.one (show Kd.M Kd.string _ _ _ (⟨#[101,110,117,109]⟩:ByteArray) [.string (⟨#[101,110,117,109]⟩:ByteArray)] from rfl) (Reps.one (show Kd.M Kd.string _ _ _ (⟨#[111,119,110]⟩:ByteArray) [.string (⟨#[111,119,110]⟩:ByteArray)] from rfl) (Reps.one (show Kd.M Kd.string _ _ _ (⟨#[98,111,114,114,111,119]⟩:ByteArray) [.string (⟨#[98,111,114,114,111,119]⟩:ByteArray)] from rfl) (Reps.none _ _))))))))))))))))))))))));intro v217 w4 ho5 hb hg_ hnew_;clear hg_ hnew_;(first|rw[←Ny216.out] at ho5|(simp only[Int.reduceToNat] at ho5;rw[←Ny216.out] at ho5));have HO218:=A_ (Kd.R_lower ho5 (below_size (bw HB.out)));replace HB:=bs_ HB hb;clear hb ho5;obtain⟨Ao6,co6,eo6⟩:=Kd.R_slice HO218.out;subst eo6;have p219:0≤(a0:Int):=od_;have q219:a0<(y216.length:Int):=od_;obtain⟨ad219,e219,hx219_0⟩:=Kd.at_string (Kd.R_reads' HO218.out).2.2 a0 p219 q219;cases e219;replace p219:=eq_true p219;replace q219:=eq_true q219))
 go_ret
 exact⟨rr_,bw HB.out⟩

/-! ### impl_counted: function 22 -/
def impl_counted.f (a0:Int):Option (Bool):=if a0=16 then (some true) else (some (decide (a0≥19)))
theorem impl_counted.calls (a0:Int) (r:Bool) (w:World) (h:impl_counted.f a0=some r):
  Calls Tryd.prog 22 #[.int .i64 a0] w fun e w'=>e=.returned (.bool r)∧Drawn0 w w':=by
 have H:(if a0=16 then (some true) else (some (decide (a0≥19))))=some r:=h
 clear h
 revert H
 refine iE_ (fun c2b0 c2b1 H=>?_) (fun c2 c2b0 c2b1 H=>?_)
 ·
  obtain rfl:=Option.some.inj H
  clear H
  go_enter Tryd.func22,Tryd.ntmps22
  go_wp2
  go_ret
  exact⟨rs_,dr_⟩
 obtain rfl:=Option.some.inj H
 clear H
 go_enter Tryd.func22,Tryd.ntmps22
 go_wp2
 go_ret
 exact⟨rs_,dr_⟩


/-! ### impl_shape_text: function 12 (walked by hand) -/

/-! Texts of types. -/
def Tab (w : World) : Prop := Lib.TabIs Tryd.prog w "internal/strconv.uint64pow10" .u64 Lib.pow10Tab
theorem tab_below {w w':World} (h:Tab w) (hb:Below w.heap.size w w'):Tab w':=by
 unfold Tab Lib.TabIs World.var? at h ⊢
 obtain⟨g,e1,e2⟩:=Option.bind_eq_some_iff.1 h
 rw[e1,Option.bind_some]
 have hlt:g<w.heap.size:=by
  rcases Nat.lt_or_ge g w.heap.size with hl|hl
  ·
   exact hl
  rw[Array.getElem?_eq_none hl] at e2;cases e2
 rw[hb.block g hlt]
 exact e2
def rowG {α:Type} (z:α) (f:Nat→α) (len j:Nat):List α:=(List.range j).map f++List.replicate (len - j) z
theorem rowG_len {α:Type} (z:α) (f:Nat→α) (len j:Nat) (h:j≤len):(rowG z f len j).length=len:=by
 unfold rowG;rw[List.length_append,List.length_map,List.length_range,List.length_replicate];omega
theorem rowG_set {α:Type} (z:α) (f:Nat→α) (len j:Nat) (h:j<len):(rowG z f len j).set j (f j)=rowG z f len (j+1):=by
 unfold rowG
 have e:len - j=(len - (j+1))+1:=by omega
 rw[e,List.replicate_succ,List.range_succ,List.map_append,List.set_append,List.length_map,List.length_range,if_neg (by omega),Nat.sub_self,List.set_cons_zero]
 simp
theorem rowG_full {α:Type} (z:α) (f:Nat→α) (len:Nat):rowG z f len len=(List.range len).map f:=by unfold rowG;simp
def nos:ByteArray:=⟨#[]⟩
theorem range_all (ps:List ByteArray):(List.range ps.length).map (fun j=>ps.getD j nos)=ps:=by
 apply List.ext_getElem?
 intro i
 by_cases h:i<ps.length
 ·
  rw[List.getElem?_map,List.getElem?_range h,Option.map_some,List.getD_eq_getElem?_getD,List.getElem?_eq_getElem h];rfl
 rw[List.getElem?_eq_none (by simpa using h),List.getElem?_eq_none (by omega)]
theorem mapM_len {α β:Type} {f:α→Option β}:∀ {l:List α} {r:List β},l.mapM f=some r→r.length=l.length
 |[],r,h=>by simp at h;rw[h];rfl
 |x ::l,r,h=>by
  simp only[List.mapM_cons,Option.bind_eq_bind,Option.bind_eq_some_iff,Option.pure_def,Option.some.injEq] at h
  obtain⟨b,_,r',hr',rfl⟩:=h
  simp[mapM_len hr']
theorem mapM_get {α β:Type} {f:α→Option β} (z:β):∀ {l:List α} {r:List β},l.mapM f=some r→∀ (i:Nat) (hi:i<l.length),f l[i]=some (r.getD i z)
 |[],r,h,i,hi=>by simp at hi
 |x ::l,r,h,i,hi=>by
  simp only[List.mapM_cons,Option.bind_eq_bind,Option.bind_eq_some_iff,Option.pure_def,Option.some.injEq] at h
  obtain⟨b,hb,r',hr',rfl⟩:=h
  cases i with
  |zero=>exact hb
  |succ i=>simpa using mapM_get z hr' i (by simpa using hi)
def commas (ps:List ByteArray):ByteArray:=⟨(Lib.join (ps.map (·.data.toList)) [44]).toArray⟩
def numS (n:Int):ByteArray:=⟨(Lib.itoa n).toArray⟩
def textT:Nat→S43→Option ByteArray
 |0,_=>none
 |n+1,t=>(impl_kindWord.f t.f0).bind fun wd=>(impl_counted.f t.f0).bind fun c=>
  if c=true then (if 0≤t.f1∧t.f1≤300 then some (((wd++(⟨#[60]⟩:ByteArray))++numS t.f1)++(⟨#[62]⟩:ByteArray)) else none)
  else if t.f2.length=0 then some wd
  else (t.f2.mapM (textT n)).bind fun ps=>some (((wd++(⟨#[60]⟩:ByteArray))++commas ps)++(⟨#[62]⟩:ByteArray))
theorem word_size {a:Int} {r:ByteArray} (h:impl_kindWord.f a=some r):r.size≤7:=by
 unfold impl_kindWord.f at h
 obtain⟨y,e,h⟩:=Option.bind_eq_some_iff.1 h
 have hy:∀ x∈y,x.size≤7:=by
  obtain rfl:=Option.some.inj e
  decide
 split at h
 ·
  split at h
  ·
   next h0 h1=>
   obtain rfl:=Option.some.inj h
   unfold rdOf
   rw[List.getD_eq_getElem?_getD,List.getElem?_eq_getElem (by omega)]
   exact hy _ (List.getElem_mem _)
  cases h
 cases h
theorem dig_len (u:Nat) (h:u<1000):(Lib.decDigits u).length≤3:=by
 rw[Lib.decDigits]
 split
 ·
  simp
 rw[Lib.decDigits]
 split
 ·
  simp
 rw[Lib.decDigits]
 split
 ·
  simp
 omega
theorem numS_size (n:Int) (h0:0≤n) (h1:n≤300):(numS n).size≤3:=by
 have:(numS n).size=(Lib.itoa n).length:=by
  show((Lib.itoa n).toArray).size=_
  exact List.size_toArray
 rw[this,Lib.itoa,if_neg (by omega)]
 exact dig_len _ (by omega)
theorem join_size (B:Nat):∀ (ps:List ByteArray),(∀ x∈ps,x.size≤B)→(Lib.join (ps.map (·.data.toList)) [44]).length≤ps.length*(B+1)
 |[],_=>by rw[List.map_nil,Lib.join_nil];simp
 |[x],h=>by
  rw[List.map_cons,List.map_nil,Lib.join_one]
  have h1:x.size≤B:=h x (by simp)
  have h2:x.data.toList.length=x.size:=Array.length_toList
  rw[h2];simp;omega
 |x ::y ::r,h=>by
  have ih:=join_size B (y ::r) (fun z hz=>h z (List.mem_cons_of_mem _ hz))
  have h1:x.size≤B:=h x (by simp)
  have h2:x.data.toList.length=x.size:=Array.length_toList
  rw[List.map_cons,Lib.join_cons]
  rw[List.map_cons,Lib.join_cons,List.length_append] at ih
  rw[List.length_append,List.map_cons,Lib.joinTail,List.map_cons,List.flatten_cons,List.length_append,List.length_append,←Lib.joinTail,h2]
  rw[show ([44]:List UInt8).length=1 from rfl]
  rw[show (x ::y ::r).length*(B+1)=(y ::r).length*(B+1)+(B+1) by rw[List.length_cons (a:=x),Nat.succ_mul]]
  omega
theorem commas_size (B:Nat) (ps:List ByteArray) (h:∀ x∈ps,x.size≤B):(commas ps).size≤ps.length*(B+1):=by
 have:(commas ps).size=(Lib.join (ps.map (·.data.toList)) [44]).length:=by
  show((Lib.join (ps.map (·.data.toList)) [44]).toArray).size=_
  exact List.size_toArray
 rw[this]
 exact join_size B ps h
theorem text_size {w:World}:∀ (n:Nat) {b o:Nat} {t:S43} {r:ByteArray},TreeAt w n b o t→textT n t=some r→r.size≤64*16 ^ n
 |0,_,_,_,_,h,_=>h.elim
 |n+1,b,o,t,r,⟨_,_,hl,A,c,_,_,hk⟩,h=>by
  unfold textT at h
  obtain⟨wd,hw,h⟩:=Option.bind_eq_some_iff.1 h
  obtain⟨cb,hc,h⟩:=Option.bind_eq_some_iff.1 h
  have hws:=word_size hw
  have hp:16 ^ (n+1)=16*16 ^ n:=by rw[Nat.pow_succ,Nat.mul_comm]
  have hpos:0<16 ^ n:=Nat.pow_pos (by decide)
  have h1:(⟨#[60]⟩:ByteArray).size=1:=rfl
  have h2:(⟨#[62]⟩:ByteArray).size=1:=rfl
  split at h
  ·
   split at h
   ·
    next hn=>
    have hs:=numS_size t.f1 hn.1 hn.2
    obtain rfl:=Option.some.inj h
    rw[ByteArray.size_append,ByteArray.size_append,ByteArray.size_append,hp,h1,h2]
    omega
   cases h
  split at h
  ·
   obtain rfl:=Option.some.inj h
   rw[hp];omega
  obtain⟨ps,hps,h⟩:=Option.bind_eq_some_iff.1 h
  obtain rfl:=Option.some.inj h
  have hlen:=mapM_len hps
  have hall:∀ x∈ps,x.size≤64*16 ^ n:=by
   intro x hx
   obtain⟨j,hj,rfl⟩:=List.getElem_of_mem hx
   have hj':j<t.f2.length:=by omega
   have e:=mapM_get nos hps j hj'
   rw[List.getD_eq_getElem?_getD,List.getElem?_eq_getElem hj] at e
   obtain⟨ad,pb,po,_,_,hT⟩:=hk j t.f2[j] (List.getElem?_eq_getElem hj')
   exact text_size n hT e
  have hcs:=commas_size _ ps hall
  have hm:ps.length*(64*16 ^ n+1)≤8*(64*16 ^ n+1):=Nat.mul_le_mul_right _ (by omega)
  rw[ByteArray.size_append,ByteArray.size_append,ByteArray.size_append,hp,h1,h2]
  omega

theorem itoa_any (n:Int) (s:ByteArray) (h0:0≤n) (h1:n≤300) (hs:numS n=s) (w:World) (ht:Tab w):
  Calls Tryd.prog 23 #[.int .i64 n] w fun e w'=>e=.returned (.string s)∧Below w.heap.size w w':=by
 refine(Tryd.strconv_Itoa n (by omega) (by omega) w ht).mono ?_
 rintro e w' ⟨rfl,k,os,rfl⟩
 refine⟨by rw[←hs];rfl,⟨rfl,rfl,rfl,?_,fun i hi=>?_⟩⟩
 ·
  show w.heap.size≤(w.heap++os).size
  rw[Array.size_append];omega
 show(w.heap++os)[i]? =w.heap[i]?
 rw[Array.getElem?_append_left hi]
theorem join_any (v:Value) (xs:List ByteArray) (s:ByteArray) (w:World) {base:Nat} {ok:Nat→Prop} (hR:Kd.R Kd.string 9 w base ok v xs) (hx:0<xs.length) (hm:xs.length≤8) (hlen:(commas xs).size≤140737488355328) (hs:commas xs=s):
  Calls Tryd.prog 24 #[v,.string ⟨#[44]⟩] w fun e w'=>e=.returned (.string s)∧Below w.heap.size w w':=by
 obtain⟨g,cap,rfl,gb,gl,cl,hg⟩:=Kd.R_form hR hx
 have hcells:∀ (j:Nat) x,xs[j]? =some x→w.cell? ⟨g,0+j,none⟩=some (.string x):=by
  intro j x hj
  have hjl:j<xs.length:=(List.getElem?_eq_some_iff.1 hj).1
  have h:=(Kd.R_celln nos hR (j:Int) (by omega) (by omega)).1
  rw[Int.toNat_natCast] at h
  rw[Nat.zero_add,h]
  unfold rdOf
  rw[Int.toNat_natCast,List.getD_eq_getElem?_getD,hj]
  rfl
 have hcap:xs.length≤cap:=(Kd.R_reads' hR).2.1
 have hlen':(Lib.join (xs.map (·.data.toList)) (⟨#[44]⟩:ByteArray).data.toList).length≤140737488355328:=by
  have:(commas xs).size=(Lib.join (xs.map (·.data.toList)) [44]).length:=by
   show((Lib.join (xs.map (·.data.toList)) [44]).toArray).size=_
   exact List.size_toArray
  rw[←this];exact hlen
 refine(Tryd.strings_Join g 0 cap xs ⟨#[44]⟩ w hcells gl (by omega) hcap hlen').mono ?_
 rintro e w' ⟨rfl,hb⟩
 exact⟨by rw[←hs];rfl,hb⟩
theorem text_any (n:Nat):∀ (t:S43) (b o:Nat) (r:ByteArray) (w:World),n≤9→Tab w→TreeAt w n b o t→textT n t=some r→
  Calls Tryd.prog 12 #[.pointer (some ⟨b,o,none⟩)] w fun e w'=>e=.returned (.string r)∧Below w.heap.size w w':=by
 induction n with
 |zero=>intro t b o r w _ _ h;exact h.elim
 |succ n ih=>
  intro t b o r w hn9 htab h hr
  have HSZ:=A_ (text_size (n+1) h hr)
  have HTAB:=A_ htab
  clear htab
  obtain⟨h0,h1,hl,A,c,h2,hc,hk⟩:=h
  unfold textT at hr
  obtain⟨wd,hw,hr1⟩:=Option.bind_eq_some_iff.1 hr
  obtain⟨cb,hcb,hr2⟩:=Option.bind_eq_some_iff.1 hr1
  clear hr hr1
  have hr:=hr2
  clear hr2
  have HW:=A_ hw
  have HCB:=A_ hcb
  have hws:=word_size hw
  clear hw hcb
  have b1:wd.size+1≤9223372036854775807:=by omega
  have z1:(wd++(⟨#[60]⟩:ByteArray)).size=wd.size+1:=by rw[ByteArray.size_append];rfl
  by_cases ccb:cb=true
  ·
   subst ccb
   rw[if_pos rfl] at hr
   split at hr
   ·
    next hn=>
    obtain⟨n0,n1⟩:=hn
    have HN:=numS_size t.f1 n0 n1
    obtain⟨s,hs⟩:∃ s,numS t.f1=s:=⟨_,rfl⟩
    rw[hs] at hr HN
    have HS:=A_ hs
    obtain rfl:=Option.some.inj hr
    have b2:wd.size+1+s.size≤9223372036854775807:=by omega
    have b3:wd.size+1+s.size+1≤9223372036854775807:=by omega
    clear hs hr hk HSZ HN z1 hws
    go_enter Tryd.func12,Tryd.ntmps12
    go_wp2_with (first
     |(go_at_call 21;refine(impl_kindWord.calls t.f0 wd _ HW.out).mono ?_;rintro e w1 ⟨rfl,hb⟩;have HB:=A_ hb;have g0:=cl_ hb h0;have g1:=cl_ hb h1;clear hb)
     |(go_at_call 22;refine(impl_counted.calls t.f0 true _ HCB.out).mono ?_;rintro e w2 ⟨rfl,⟨nd,rfl⟩⟩)
     |(go_at_call 23;refine(itoa_any t.f1 s n0 n1 HS.out _ (tab_below HTAB.out (pw_below_drewN HB.out _))).mono ?_;rintro e w3 ⟨rfl,hb⟩;have n0_:=A_ (below_step (pw_below_drewN HB.out _) hb);clear HB hb;have HB:=n0_;clear n0_))
    go_ret
    exact⟨rfl,HB.out⟩
   cases hr
  have hcf:cb=false:=by simpa using ccb
  subst hcf
  rw[if_neg (by decide)] at hr
  by_cases c0:t.f2.length=0
  ·
   rw[if_pos c0] at hr
   obtain rfl:=Option.some.inj hr
   have c0i:((t.f2.length:Int)==0)=true:=by rw[beq_iff_eq];omega
   clear hr hk HSZ z1 hws
   go_enter Tryd.func12,Tryd.ntmps12
   go_wp2_with (first
    |(go_at_call 21;refine(impl_kindWord.calls t.f0 wd _ HW.out).mono ?_;rintro e w1 ⟨rfl,hb⟩;have HB:=A_ hb;have g0:=cl_ hb h0;have g2:=cl_ hb h2;clear hb)
    |(go_at_call 22;refine(impl_counted.calls t.f0 false _ HCB.out).mono ?_;rintro e w2 ⟨rfl,⟨nd,rfl⟩⟩))
   go_ret
   exact⟨rfl,pw_below_drewN HB.out _⟩
  rw[if_neg c0] at hr
  obtain⟨ps,hps,hr1⟩:=Option.bind_eq_some_iff.1 hr
  clear hr
  have hr:=hr1
  clear hr1
  have hlen:=mapM_len hps
  have HALL:=A_ (fun j hj=>mapM_get nos hps j hj)
  obtain⟨s,hs⟩:∃ s,commas ps=s:=⟨_,rfl⟩
  rw[hs] at hr
  have HS:=A_ hs
  obtain rfl:=Option.some.inj hr
  have hZ:=HSZ.out
  have hp9:16 ^ (n+1)≤16 ^ 9:=Nat.pow_le_pow_right (by decide) hn9
  rw[ByteArray.size_append,ByteArray.size_append,z1,show (⟨#[62]⟩:ByteArray).size=1 from rfl] at hZ
  have h16:(16:Nat) ^ 9=68719476736:=by decide
  have hsz:s.size≤140737488355328:=by omega
  have b2:wd.size+1+s.size≤9223372036854775807:=by omega
  have b3:wd.size+1+s.size+1≤9223372036854775807:=by omega
  have c0i:((t.f2.length:Int)==0)=false:=by rw[beq_eq_false_iff_ne];omega
  clear hs hr HSZ z1 hws hps hZ hp9 h16 ccb
  go_enter Tryd.func12,Tryd.ntmps12
  go_wp2_with (first
   |(go_at_call 21;refine(impl_kindWord.calls t.f0 wd _ HW.out).mono ?_;rintro e w1 ⟨rfl,hb⟩;have HB:=A_ hb;have g0:=cl_ hb h0;have g2:=cl_ hb h2;clear hb)
   |(go_at_call 22;refine(impl_counted.calls t.f0 false _ HCB.out).mono ?_;rintro e w2 ⟨rfl,⟨nd,rfl⟩⟩;have n0_:=A_ (pw_below_drewN HB.out nd);clear HB;have HB:=n0_;clear n0_)
   |((with_reducible refine gate_dst (N:=38) rfl ?_);refine Kd.R_make Kd.string w.heap.size 9 rfl (N:=38) rfl 65 _ _ rfl (t.f2.length:Int) rfl rfl Tryd.underlying65 (.string ⟨#[]⟩) 16 info9 rfl (by decide) (by omega) nos (ok:=fun _=>True) (okp:=fun _=>True) rfl (fun _ hk=>hk) trivial (by omega) (by omega) HB.out HB.out.size ?_;intro v1 w3 ho hb hg_ hnew_;clear hg_ hnew_;rw[Int.toNat_natCast] at ho;have HO:=A_ ho;clear HB;have HB:=A_ hb;clear ho hb;have g3:=cl_ HB.out h2))
  go_loopg [44] t.f2.length (fun kq v44 w'=>∃ j:Nat,j+kq=t.f2.length∧v44=.int .i64 j∧Aside0 (Kd.R Kd.string 9 w' w.heap.size (fun _=>True) v1 (rowG nos (fun j=>ps.getD j nos) t.f2.length j))∧Aside0 (Below w.heap.size w w'))
  case atStart=>exact⟨0,by omega,rfl,⟨HO.out⟩,⟨HB.out⟩⟩
  case round=>
   clear g0 g2 g3 HO HB
   obtain⟨j,hj,rfl,HO,HB⟩:=hrel
   by_cases hlt:j<t.f2.length
   ·
    obtain⟨ad,pb,po,hA,hp,hT⟩:=hk j t.f2[j] (List.getElem?_eq_getElem hlt)
    subst hA
    have gp:=cl_ HB.out hp
    have HT:=A_ (treeAt_below HB.out hT)
    have HTB:=A_ (tab_below HTAB.out HB.out)
    have HE:=A_ (HALL.out j hlt)
    clear hp hT hk h0 h1 h2 HALL
    have HNL:=rowG_len nos (fun j=>ps.getD j nos) t.f2.length j (by omega)
    obtain⟨g,cap,e1,gb,gl,cl,HG⟩:=Kd.R_form HO.out (by omega)
    rw[HNL] at e1
    subst e1
    have GB:=A_ gb
    have GL:=A_ gl
    clear gb gl HG cl HNL
    go_wp2_with (first
     |(go_at_call 12;refine(ih t.f2[j] pb po (ps.getD j nos) _ (by omega) HTB.out HT.out HE.out).mono ?_;rintro e w5 ⟨rfl,hb⟩;have n0_:=A_ (Kd.R_below HO.out hb);have n1_:=A_ (below_step HB.out hb);clear HO HB hb HTB HT HE;have HO:=n0_;have HB:=n1_;clear n0_ n1_;obtain⟨hy,hf⟩:=Kd.R_celln nos HO.out (j:Int) (by omega) (by omega);have HP:=A_ (Kd.R_putg HO.out (j:Int) (ps.getD j nos));rw[Int.toNat_natCast] at hy hf HP;rw[rowG_set nos (fun j=>ps.getD j nos) t.f2.length j hlt] at HP;generalize rdOf nos (rowG nos (fun j=>ps.getD j nos) t.f2.length j) (j:Int)=x at hy;generalize ps.getD j nos=pj at HP)
     |((with_reducible refine gate_store (t:=9) (p:=53) rfl ?_);refine store_event (t:=9) (p:=53) (v:=?vo) (w1:=(w5.setCell ⟨g,j,none⟩ (.string pj))) ?hg ?ho ?hn ?hr ?_;(case ho=>rfl);(case hg=>rfl);(case hn=>rfl);(case hr=>first|(go_simp;done)|(go_simp;rfl));intro w6 hw;have n0_:=A_ (show Kd.R Kd.string 9 w6 w.heap.size _ _ _ from by rw[hw];exact HP.out.1);have n3_:=A_ (show Below w.heap.size w w6 from by rw[hw];exact below_set HB.out GB.out);clear HO HB HP hw;have HO:=n0_;have HB:=n3_;clear n0_ n3_))
    go_roundg (t.f2.length - (j+1))
    case measure=>omega
    case rel=>exact⟨j+1,by omega,by go_num,⟨HO.out⟩,⟨HB.out⟩⟩
   obtain rfl:j=t.f2.length:=by omega
   clear hk h0 h1 h2 HALL
   have n0_:=A_ (show Kd.R Kd.string 9 wr w.heap.size (fun _=>True) v1 ps by have h9:=HO.out;rwa [rowG_full,←hlen,range_all] at h9)
   clear HO
   have HO:=n0_
   clear n0_
   go_wp2_with (first
    |(go_at_call 24;refine(join_any v1 ps s _ HO.out (by omega) (by omega) (by rw[HS.out];exact hsz) HS.out).mono ?_;rintro e w7 ⟨rfl,hb⟩;have n1_:=A_ (below_step HB.out hb);clear HO HB hb;have HB:=n1_;clear n1_))
   go_ret
   exact⟨rfl,HB.out⟩


/-! ### impl_TypeText: function 5 (walked by hand) -/
def impl_TypeText.f (k:Nat) (l0:List S33):Option (ByteArray × Bool):=(shapeF k l0).bind fun r=>match r with|none=>some (nos,false)|some t=>(textT 9 t).bind fun s=>some (s,true)
set_option maxHeartbeats 4000000 in
theorem impl_TypeText.calls (k:Nat) (A0:Option Addr) (c0:Nat) (l0:List (S33)) (r1:ByteArray) (r2:Bool) (w:World) (hr0:Kd.C k33 w A0 l0.length l0) (hc0:l0.length≤c0) (HTab:Tab w) (h:impl_TypeText.f k l0=some (r1,r2)):
  Calls Tryd.prog 5 #[.slice A0 l0.length c0] w fun e w'=>e=.returned (.tuple #[.string r1,.bool r2])∧Below w.heap.size w w':=by
 have HTB:=A_ HTab
 clear HTab
 obtain⟨r,hs,h⟩:=Option.bind_eq_some_iff.1 h
 cases r with
 |none=>
  obtain⟨rfl,rfl⟩:=Prod.mk.inj (Option.some.inj h)
  clear h
  go_enter Tryd.func5,Tryd.ntmps5
  go_wp2_with (first|(go_at_call 11;refine(shape_no k A0 c0 l0 _ hr0 hc0 hs).mono ?_;rintro e w' ⟨rfl,hb⟩;have HB:=A_ hb;clear hb))
  go_ret2
  exact⟨rfl,HB.out⟩
 |some t=>
  obtain⟨s,ht,h⟩:=Option.bind_eq_some_iff.1 h
  obtain⟨rfl,rfl⟩:=Prod.mk.inj (Option.some.inj h)
  clear h
  have HTT:=A_ ht
  clear ht
  go_enter Tryd.func5,Tryd.ntmps5
  go_wp2_with (first|(go_at_call 11;refine(shape_yes k A0 c0 l0 t _ hr0 hc0 hs).mono ?_;rintro e w' ⟨g,rfl,ht,hb⟩;have HT:=A_ ht;have HB:=A_ hb;clear ht hb)|(go_at_call 12;refine(text_any 9 t g 0 s _ (by omega) (tab_below HTB.out HB.out) HT.out HTT.out).mono ?_;rintro e w2 ⟨rfl,hb⟩;replace HB:=A_ (below_step HB.out hb);clear HT hb))
  go_ret2
  exact⟨rfl,HB.out⟩

/-! ### spec_l1In: function 25 -/
def spec_l1In.f (a0:Int) (a1:Int) (a2:Int):Option (Bool):=if a0≥a1 then (some (decide (a0≤a2))) else (some false)
theorem spec_l1In.calls (a0:Int) (a1:Int) (a2:Int) (r:Bool) (w:World) (h:spec_l1In.f a0 a1 a2=some r):
  Calls Tryd.prog 25 #[.int .i64 a0,.int .i64 a1,.int .i64 a2] w fun e w'=>e=.returned (.bool r)∧Drawn0 w w':=by
 have H:(if a0≥a1 then (some (decide (a0≤a2))) else (some false))=some r:=h
 clear h
 revert H
 refine iL_ (fun c4b0 H=>?_) (fun c4b0 H=>?_)
 ·
  obtain rfl:=Option.some.inj H
  clear H
  go_enter Tryd.func25,Tryd.ntmps25
  go_wp2
  go_ret
  exact⟨rs_,dr_⟩
 obtain rfl:=Option.some.inj H
 clear H
 go_enter Tryd.func25,Tryd.ntmps25
 go_wp2
 go_ret
 exact⟨rs_,dr_⟩

/-! ### spec_l11Parts: function 27 -/
def spec_l11Parts.l0:Nat→List (S33)→Int→List Int→Int→Option (List Int)
 |0,_,_,_,_=>none
 |k+1,x0,x1,x5,x6=>if x6<(x0.length:Int) then (if 0≤x6 then (if ((rd_T33 x0 x6).f2)=x1 then (if x5.length<17592186044416 then (spec_l11Parts.l0 k x0 x1 (x5++[x6]) (wrap64 (x6+1))) else (none)) else (spec_l11Parts.l0 k x0 x1 x5 (wrap64 (x6+1)))) else (none)) else (some x5)
def spec_l11Parts.f (k:Nat) (l0:List (S33)) (a1:Int):Option (List Int):=spec_l11Parts.l0 k l0 a1 ([]:List Int) (wrap64 (a1+1))
theorem spec_l11Parts.calls (k:Nat) (A0:Option Addr) (c0:Nat) (l0:List (S33)) (a1:Int) (r:List Int) (w:World) (hr0:Kd.C k33 w A0 l0.length l0) (hc0:l0.length≤c0) (h:spec_l11Parts.f k l0 a1=some r):
  Calls Tryd.prog 27 #[.slice A0 l0.length c0,.int .i64 a1] w fun e w'=>∃ v0_:Value,e=.returned (v0_)∧Kd.R (Kd.int .i64) 3 w' w.heap.size (fun _=>True) v0_ r∧Below w.heap.size w w':=by
 have HR0:=A_ hr0
 have HC0:=A_ hc0
 clear hr0 hc0
 have HB:=A_ (Below.refl w.heap.size w)
 have H:(spec_l11Parts.l0 k l0 a1 ([]:List Int) (wrap64 (a1+1)))=some r:=h
 clear h
 have H':=A_ H
 clear H
 go_enter Tryd.func27,Tryd.ntmps27
 go_wp2
 (try simp only[Act.put,List.setIfInBounds_toArray,List.set_cons_zero,List.set_cons_succ])
 go_loopg [5,6] k (fun kq v5 v6 w'=>∃ (x5_1:List Int) (x6_1:Int),v6=.int .i64 x6_1∧Aside0 (spec_l11Parts.l0 kq l0 a1 x5_1 x6_1=some r)∧Aside0 (kq≤k)∧Aside0 (Kd.R (Kd.int .i64) 3 w' w.heap.size (fun _=>True) v5 x5_1)∧Aside0 (Below w.heap.size w w'))
 case atStart=>exact⟨(([]:List Int)),(wrap64 (a1+1)),rs_,H',⟨Nat.le_refl _⟩,⟨by first|exact Kd.R_nil _ _ _ _ _|exact Kd.N_nil _ _ _ _ _|exact Kd.V_nil _ _ _ _ _|exact Kd.Q_nil _ _ _ _ _|exact Kd.S_nil _ _ _ _ _⟩,⟨bw HB.out⟩⟩
 case round=>
  clear H'
  obtain⟨x5_1,x6_1,rfl,HA,HK1,HO_5,HB⟩:=hrel
  cases gk with
  |zero=>exact absurd HA.out (by simp[spec_l11Parts.l0])
  |succ k1=>
   have H:=HA.out
   clear HA
   simp only[spec_l11Parts.l0] at H
   revert H
   refine iL_ (fun c3b0 H=>?_) (fun c3b0 H=>?_)
   ·
    replace H:=id_ H
    obtain⟨c4b0,H⟩:=H
    revert H
    refine iE_ (fun c5b0 c5b1 H=>?_) (fun c5 c5b0 c5b1 H=>?_)
    ·
     replace H:=im_ H
     obtain⟨LMc6,H⟩:=H
     obtain⟨y242,hy242⟩:∃ y_:List Int,y_=(x5_1++[x6_1]):=⟨_,rfl⟩
     rw[←hy242] at H
     have Ny242:=A_ hy242
     clear hy242
     have H':=A_ H
     clear H
     have p241:0≤(x6_1:Int):=od_
     have q241:x6_1<(l0.length:Int):=od_
     obtain⟨ad241,e241,hx241_0,hx241_1,hx241_2⟩:=at_T33 HR0.out x6_1 p241 q241
     cases e241
     replace hx241_0:=cl_ HB.out hx241_0
     replace hx241_1:=cl_ HB.out hx241_1
     replace hx241_2:=cl_ HB.out hx241_2
     replace p241:=eq_true p241
     replace q241:=eq_true q241
     go_wp2_with (first|((with_reducible refine gate_builtin (b:=.append) (xs:=#[.tmp 22,.tmp 24]) rfl ?_);at_builtin;refine Kd.R_append (Kd.int .i64) (w0:=w) w.heap.size rfl (.tmp 22) (.tmp 24) 54 3 (.int .i64 0) 8 rfl Tryd.underlying54 info3 rfl (by decide) (by omega) u5 x5_1 x6_1 [.int .i64 x6_1] (fun _=>True) (fun _=>False) rfl rfl ?aP (fun _ hk=>hk.elim) ?aF ?aO ?aB ?aS ?aL ?_;(case aP=>exact rfl);(case aB=>exact(bw HB.out));(case aF=>exact(fun _ _=>trivial));(case aO=>exact(kr_ HO_5.out));(case aS=>exact(below_size (bw HB.out)));(case aL=>have:=LMc6.out;omega);intro v243 w7 ho hb hg hat;rw[←Ny242.out] at ho;have HO244:=A_ (ho);replace HB:=A_ (hb);clear HO_5;clear ho hb hg hat))
     go_roundg k1
     case measure=>have:=HK1.out;omega
     case rel=>exact⟨(y242),(wrap64 (x6_1+1)),rs_,H',⟨by have:=HK1.out;omega⟩,⟨kr_ HO244.out⟩,⟨bw HB.out⟩⟩
    have H':=A_ H
    clear H
    have p241:0≤(x6_1:Int):=od_
    have q241:x6_1<(l0.length:Int):=od_
    obtain⟨ad241,e241,hx241_0,hx241_1,hx241_2⟩:=at_T33 HR0.out x6_1 p241 q241
    cases e241
    replace hx241_0:=cl_ HB.out hx241_0
    replace hx241_1:=cl_ HB.out hx241_1
    replace hx241_2:=cl_ HB.out hx241_2
    replace p241:=eq_true p241
    replace q241:=eq_true q241
    go_wp2
    go_roundg k1
    case measure=>have:=HK1.out;omega
    case rel=>exact⟨(x5_1),(wrap64 (x6_1+1)),rs_,H',⟨by have:=HK1.out;omega⟩,⟨kr_ HO_5.out⟩,⟨bw HB.out⟩⟩
   obtain rfl:=Option.some.inj H
   clear H
   go_wp2
   go_ret
   exact⟨_,rr_,kr_ HO_5.out,bw HB.out⟩

/-! ### spec_GoodType: function 13 -/
mutual
def spec_GoodType.l0:Nat→List (S33)→List (S33)→Int→Int→Option (Bool)
 |0,_,_,_,_=>none
 |k+1,x0,x17,x18,x19=>if x19<x18 then (if 0≤x19 then (if x19<(x17.length:Int) then (if ((x19==0) !=(((rd_T33 x17 x19).f2)==(-1)))=true then (spec_GoodType.j1 k x0 x19 x17 x18 x19 true ((rd_T33 x17 x19).f0) ((rd_T33 x17 x19).f1) ((rd_T33 x17 x19).f2)) else ((spec_l1In.f ((rd_T33 x17 x19).f2) (-1) (wrap64 (x19 - 1))).bind fun t248=>(if t248=true then ((spec_l1In.f ((rd_T33 x17 x19).f0) 1 21).bind fun t249=>(spec_GoodType.j1 k x0 x19 x17 x18 x19 (!t249) ((rd_T33 x17 x19).f0) ((rd_T33 x17 x19).f1) ((rd_T33 x17 x19).f2))) else (spec_GoodType.j1 k x0 x19 x17 x18 x19 true ((rd_T33 x17 x19).f0) ((rd_T33 x17 x19).f1) ((rd_T33 x17 x19).f2))))) else (none)) else (none)) else (some true)
def spec_GoodType.j1:Nat→List (S33)→Int→List (S33)→Int→Int→Bool→Int→Int→Int→Option (Bool)
 |0,_,_,_,_,_,_,_,_,_=>none
 |k+1,x0,x3,x17,x18,x19,x43,x248000,x248001,x248002=>if x43=true then (some false) else (spec_GoodType.l1 k x0 x3 (x3==0) (wrap64 (x3 - 1)) x17 x18 x19 x248000 x248001 x248002)
def spec_GoodType.j3:Nat→List (S33)→Int→Bool→List (S33)→Int→Int→Int→Int→Int→Option (Bool)
 |0,_,_,_,_,_,_,_,_,_=>none
 |k+1,x0,x3,x5,x17,x18,x19,x248000,x248001,x248002=>spec_GoodType.l2 k x0 x3 x5 0 x3 x17 x18 x19 x248000 x248001 x248002
def spec_GoodType.l2:Nat→List (S33)→Int→Bool→Int→Int→List (S33)→Int→Int→Int→Int→Int→Option (Bool)
 |0,_,_,_,_,_,_,_,_,_,_,_=>none
 |k+1,x0,x3,x5,x7,x8,x17,x18,x19,x248000,x248001,x248002=>if x8≥0 then (if 0≤x8 then (if x8<(x0.length:Int) then (spec_GoodType.l2 k x0 x3 x5 (wrap64 (x7+1)) ((rd_T33 x0 x8).f2) x17 x18 x19 x248000 x248001 x248002) else (none)) else (none)) else ((spec_l11Shape.f k x248000).bind fun bt252=>(if x5=true then (if x7 > 8 then (some false) else ((spec_l11Parts.f k x0 x3).bind fun t256=>((spec_l1In.f (t256.length:Int) bt252.1 bt252.2.1).bind fun t259=>(if t259=true then ((spec_l1In.f x248001 bt252.2.2.1 bt252.2.2.2).bind fun t260=>(if t260=true then (spec_GoodType.l0 k x0 x17 x18 (wrap64 (x19+1))) else (some false))) else (some false))))) else (some false)))
def spec_GoodType.l1:Nat→List (S33)→Int→Bool→Int→List (S33)→Int→Int→Int→Int→Int→Option (Bool)
 |0,_,_,_,_,_,_,_,_,_,_=>none
 |k+1,x0,x3,x5,x6,x17,x18,x19,x248000,x248001,x248002=>if x6≥0 then (if x5=true then (spec_GoodType.j3 k x0 x3 x5 x17 x18 x19 x248000 x248001 x248002) else (if 0≤x6 then (if x6<(x0.length:Int) then (spec_GoodType.l1 k x0 x3 (x6==x248002) ((rd_T33 x0 x6).f2) x17 x18 x19 x248000 x248001 x248002) else (none)) else (none))) else (spec_GoodType.j3 k x0 x3 x5 x17 x18 x19 x248000 x248001 x248002)
end
def spec_GoodType.f (k:Nat) (l0:List (S33)):Option (Bool):=(spec_l1In.f (l0.length:Int) 1 40).bind fun t245=>(if t245=true then (spec_GoodType.l0 k l0 l0 (l0.length:Int) 0) else (some false))
theorem spec_GoodType.calls (k:Nat) (A0:Option Addr) (c0:Nat) (l0:List (S33)) (r:Bool) (w:World) (hr0:Kd.C k33 w A0 l0.length l0) (hc0:l0.length≤c0) (h:spec_GoodType.f k l0=some r):
  Calls Tryd.prog 13 #[.slice A0 l0.length c0] w fun e w'=>e=.returned (.bool r)∧Below w.heap.size w w':=by
 have hu33:=Tryd.underlying33
 have HR0:=A_ hr0
 have HC0:=A_ hc0
 clear hr0 hc0
 have HB:=A_ (Below.refl w.heap.size w)
 have H:((spec_l1In.f (l0.length:Int) 1 40).bind fun t245=>(if t245=true then (spec_GoodType.l0 k l0 l0 (l0.length:Int) 0) else (some false)))=some r:=h
 clear h
 replace H:=bA_ H
 obtain⟨t245,A2,H⟩:=H
 revert H
 refine iB_ (fun c3 H=>?_) (fun c3 H=>?_)<;>subst c3
 ·
  have H':=A_ H
  clear H
  go_enter Tryd.func13,Tryd.ntmps13
  go_wp2_with (first|((with_reducible refine gc_ 25 rfl ?_);refine gn_ (some 15) Tryd.func25 (spec_l1In.calls (l0.length:Int) 1 40 true _ A2.out) ?_;intro nd))
  (try simp only[Act.put,List.setIfInBounds_toArray,List.set_cons_zero,List.set_cons_succ])
  go_loopg [19] k (fun kq v19 w'=>∃ (x19_1:Int),v19=.int .i64 x19_1∧Aside0 (spec_GoodType.l0 kq l0 l0 (l0.length:Int) x19_1=some r)∧Aside0 (kq≤k)∧Aside0 (Below w.heap.size w w'))
  case atStart=>exact⟨(0),rs_,H',⟨Nat.le_refl _⟩,⟨bw HB.out⟩⟩
  case round=>
   clear H'
   try clear c3
   obtain⟨x19_1,rfl,HA,HK1,HB⟩:=hrel
   cases gk with
   |zero=>exact absurd HA.out (by simp[spec_GoodType.l0])
   |succ k1=>
    have H:=HA.out
    clear HA
    simp only[spec_GoodType.l0] at H
    revert H
    refine iL_ (fun c4b0 H=>?_) (fun c4b0 H=>?_)
    ·
     replace H:=id_ H
     obtain⟨c5b0,H⟩:=H
     replace H:=id_ H
     obtain⟨c6b0,H⟩:=H
     have HC7:=A_ H
     clear H
     have p246:0≤(x19_1:Int):=od_
     have q246:x19_1<(l0.length:Int):=od_
     obtain⟨ad246,e246,hx246_0,hx246_1,hx246_2⟩:=at_T33 HR0.out x19_1 p246 q246
     cases e246
     replace hx246_0:=cl_ HB.out hx246_0
     replace hx246_1:=cl_ HB.out hx246_1
     replace hx246_2:=cl_ HB.out hx246_2
     replace p246:=eq_true p246
     replace q246:=eq_true q246
     go_upto_region 6 with (first|((with_reducible refine gd_ 4 rfl ?_);(try (refine gate_guard (by rfl) ?_;dsimp only));refine bx_ #[.int .i64 0,.int .i64 0,.int .i64 0] 33 ?_;intro gb247 hg w8 hbox hb;have BK247:=A_ hbox;have GW247:=gw_ hg HB;have GE247:=GW247;replace HB:=bs_ HB hb;clear hb hbox hg;obtain⟨hcz9_0,hcz9_1,hcz9_2⟩:=cs3_ BK247.out;obtain⟨hfz9_0,hfz9_1,hfz9_2⟩:=fz3_ BK247.out))
     (try simp only[Act.put,List.setIfInBounds_toArray,List.set_cons_zero,List.set_cons_succ])
     go_cut [43] (fun v43 wc=>∃ (kq:Nat) (x43_6:Bool),v43=.bool x43_6∧Aside0 (spec_GoodType.j1 kq l0 x19_1 l0 (l0.length:Int) x19_1 x43_6 ((rd_T33 l0 x19_1).f0) ((rd_T33 l0 x19_1).f1) ((rd_T33 l0 x19_1).f2)=some r)∧Aside0 (kq≤k1)∧Aside0 (wc.heap[gb247]? =some (.cells #[.int .i64 ((rd_T33 l0 x19_1).f0),.int .i64 ((rd_T33 l0 x19_1).f1),.int .i64 ((rd_T33 l0 x19_1).f2)] 33 (0,0)))∧Aside0 (Below w.heap.size w wc))
     case first=>
      have H:=HC7.out
      clear HC7
      refine ic_ (((x19_1==0) !=(((rd_T33 l0 x19_1).f2)==(-1)))=true) (fun c10=>?pc10) (fun c10=>?nc10)
      case' pc10=>
       rw[if_pos c10] at H
       have c10b0:((x19_1==0) !=(((rd_T33 l0 x19_1).f2)==(-1)))=true:=c10
       (try (have c10b1:decide ((x19_1==0)=(((rd_T33 l0 x19_1).f2)==(-1)))=false:=by simpa using c10))
       (try (have c10b2:((x19_1==0)==(((rd_T33 l0 x19_1).f2)==(-1)))=false:=by simpa using c10))
       (try (have c10b3:¬((x19_1==0)=(((rd_T33 l0 x19_1).f2)==(-1))):=by simpa using c10))
       clear c10
       (first|rw[c10b0]|(simp only[i64_w,i32_w];rw[c10b0])|skip)
       have H':=A_ H
       clear H
       obtain⟨hcz11_0,hcz11_1,hcz11_2⟩:=cs3_ BK247.out
       obtain⟨hfz11_0,hfz11_1,hfz11_2⟩:=fz3_ BK247.out
      case' nc10=>
       rw[if_neg c10] at H
       have c10b0:((x19_1==0) !=(((rd_T33 l0 x19_1).f2)==(-1)))=false:=by simpa using c10
       (try (have c10b1:decide ((x19_1==0)=(((rd_T33 l0 x19_1).f2)==(-1)))=true:=by simpa using c10))
       (try (have c10b2:((x19_1==0)==(((rd_T33 l0 x19_1).f2)==(-1)))=true:=by simpa using c10))
       clear c10
       (first|rw[c10b0]|(simp only[i64_w,i32_w];rw[c10b0])|skip)
       replace H:=bA_ H
       obtain⟨t248,A12,H⟩:=H
       by_cases c13:t248=true
       case neg=>
        replace c13:=Bool.eq_false_iff.mpr c13
        subst c13
        replace H:=iF_ H
        have H':=A_ H
        clear H
        obtain⟨hcz16_0,hcz16_1,hcz16_2⟩:=cs3_ BK247.out
        obtain⟨hfz16_0,hfz16_1,hfz16_2⟩:=fz3_ BK247.out
        go_wp2_with (first|(go_at_call 25;(with_reducible refine(spec_l1In.calls ((rd_T33 l0 x19_1).f2) (-1) (wrap64 (x19_1 - 1)) false _ A12.out).mono ?_);rintro e w' ⟨rfl,⟨nd,rfl⟩⟩))
        go_meet
        case rel=>exact⟨_,(true),rs_,H',⟨by have:=HK1.out;first|omega|exact Nat.le_refl _⟩,⟨by refine blk_put (cs:=#[.int .i64 ((rd_T33 l0 x19_1).f0),.int .i64 ((rd_T33 l0 x19_1).f1),.int .i64 0]) ?_ 2 _ rfl;refine blk_put (cs:=#[.int .i64 ((rd_T33 l0 x19_1).f0),.int .i64 0,.int .i64 0]) ?_ 1 _ rfl;refine blk_put (cs:=#[.int .i64 0,.int .i64 0,.int .i64 0]) ?_ 0 _ rfl;(with_reducible repeat (first|refine blk_drewN ?_ _|refine blk_drew ?_|refine blk_alloc ?_ _));exact BK247.out⟩,⟨bw HB.out⟩⟩
       subst c13
       replace H:=iT_ H
       replace H:=bA_ H
       obtain⟨t249,A14,H⟩:=H
       have H':=A_ H
       clear H
       obtain⟨hcz15_0,hcz15_1,hcz15_2⟩:=cs3_ BK247.out
       obtain⟨hfz15_0,hfz15_1,hfz15_2⟩:=fz3_ BK247.out
      all_goals
       go_wp2_with (first|(go_at_call 25;(with_reducible refine(spec_l1In.calls ((rd_T33 l0 x19_1).f2) (-1) (wrap64 (x19_1 - 1)) true _ A12.out).mono ?_);rintro e w' ⟨rfl,⟨nd,rfl⟩⟩)|(go_at_call 25;(with_reducible refine(spec_l1In.calls ((rd_T33 l0 x19_1).f0) 1 21 t249 _ A14.out).mono ?_);rintro e w' ⟨rfl,⟨nd,rfl⟩⟩))
       go_meet
       case rel=>exact⟨_,_,rs_,H',⟨by have:=HK1.out;first|omega|exact Nat.le_refl _⟩,⟨by refine blk_put (cs:=#[.int .i64 ((rd_T33 l0 x19_1).f0),.int .i64 ((rd_T33 l0 x19_1).f1),.int .i64 0]) ?_ 2 _ rfl;refine blk_put (cs:=#[.int .i64 ((rd_T33 l0 x19_1).f0),.int .i64 0,.int .i64 0]) ?_ 1 _ rfl;refine blk_put (cs:=#[.int .i64 0,.int .i64 0,.int .i64 0]) ?_ 0 _ rfl;(with_reducible repeat (first|refine blk_drewN ?_ _|refine blk_drew ?_|refine blk_alloc ?_ _));exact BK247.out⟩,⟨bw HB.out⟩⟩
     case rest=>
      clear HC7
      try clear c3 c4 c4b0 c5 c5b0 c6 c6b0 hcz9_0 hcz9_1 hcz9_2 hfz9_0 hfz9_1 hfz9_2 hx246_0 hx246_1 hx246_2 p246 q246
      obtain⟨kq,x43_6,rfl,HA,HJ6,BK247,HB⟩:=hcut
      cases kq with
      |zero=>exact absurd HA.out (by simp[spec_GoodType.j1])
      |succ kj6=>
       have H:=HA.out
       clear HA
       simp only[spec_GoodType.j1] at H
       revert H
       refine iB_ (fun c17 H=>?_) (fun c17 H=>?_)<;>subst c17
       ·
        obtain rfl:=Option.some.inj H
        clear H
        go_wp2
        go_ret
        exact⟨rr_,bw HB.out⟩
       have HC18:=A_ H
       clear H
       go_upto_block 2 with (fail)
       go_cut [5] (fun v5 wc=>∃ (kq:Nat) (x5_17:Bool),v5=.bool x5_17∧Aside0 (spec_GoodType.j3 kq l0 x19_1 x5_17 l0 (l0.length:Int) x19_1 ((rd_T33 l0 x19_1).f0) ((rd_T33 l0 x19_1).f1) ((rd_T33 l0 x19_1).f2)=some r)∧Aside0 (kq≤kj6)∧Aside0 (wc.heap[gb247]? =some (.cells #[.int .i64 ((rd_T33 l0 x19_1).f0),.int .i64 ((rd_T33 l0 x19_1).f1),.int .i64 ((rd_T33 l0 x19_1).f2)] 33 (0,0)))∧Aside0 (Below w.heap.size w wc))
       case first=>
        have H:=HC18.out
        clear HC18
        have H':=A_ H
        clear H
        go_wp2
        (try simp only[Act.put,List.setIfInBounds_toArray,List.set_cons_zero,List.set_cons_succ])
        go_loopg [5,6] kj6 (fun kq v5 v6 w'=>∃ (x5_3:Bool) (x6_3:Int),v5=.bool x5_3∧v6=.int .i64 x6_3∧Aside0 (spec_GoodType.l1 kq l0 x19_1 x5_3 x6_3 l0 (l0.length:Int) x19_1 ((rd_T33 l0 x19_1).f0) ((rd_T33 l0 x19_1).f1) ((rd_T33 l0 x19_1).f2)=some r)∧Aside0 (kq≤kj6)∧Aside0 (w'.heap[gb247]? =some (.cells #[.int .i64 ((rd_T33 l0 x19_1).f0),.int .i64 ((rd_T33 l0 x19_1).f1),.int .i64 ((rd_T33 l0 x19_1).f2)] 33 (0,0)))∧Aside0 (Below w.heap.size w w'))
        case atStart=>exact⟨((x19_1==0)),(wrap64 (x19_1 - 1)),rs_,rs_,H',⟨Nat.le_refl _⟩,⟨bk BK247.out⟩,⟨bw HB.out⟩⟩
        case round=>
         clear H'
         try clear c3 c4 c4b0 c5 c5b0 c6 c6b0 c17 hcz9_0 hcz9_1 hcz9_2 hfz9_0 hfz9_1 hfz9_2 hx246_0 hx246_1 hx246_2 p246 q246
         obtain⟨x5_3,x6_3,rfl,rfl,HA,HK3,BK247,HB⟩:=hrel
         cases gk with
         |zero=>exact absurd HA.out (by simp[spec_GoodType.l1])
         |succ k3=>
          have H:=HA.out
          clear HA
          simp only[spec_GoodType.l1] at H
          revert H
          refine iL_ (fun c19b0 H=>?_) (fun c19b0 H=>?_)
          ·
           (first|rw[c19b0]|(simp only[i64_w,i32_w];rw[c19b0])|skip)
           revert H
           refine iB_ (fun c20 H=>?_) (fun c20 H=>?_)<;>subst c20
           ·
            have H':=A_ H
            clear H
            go_wp2
            go_meet
            case rel=>exact⟨_,(true),rs_,H',⟨by have:=HK1.out;have:=HJ6.out;have:=HK3.out;first|omega|exact Nat.le_refl _⟩,⟨bk BK247.out⟩,⟨bw HB.out⟩⟩
           replace H:=id_ H
           obtain⟨c21b0,H⟩:=H
           replace H:=id_ H
           obtain⟨c22b0,H⟩:=H
           have H':=A_ H
           clear H
           obtain⟨hcz23_0,hcz23_1,hcz23_2⟩:=cs3_ BK247.out
           obtain⟨hfz23_0,hfz23_1,hfz23_2⟩:=fz3_ BK247.out
           have p250:0≤(x6_3:Int):=od_
           have q250:x6_3<(l0.length:Int):=od_
           obtain⟨ad250,e250,hx250_0,hx250_1,hx250_2⟩:=at_T33 HR0.out x6_3 p250 q250
           obtain rfl:ad246=ad250:=(by injection e250)
           replace hx250_0:=cl_ HB.out hx250_0
           replace hx250_1:=cl_ HB.out hx250_1
           replace hx250_2:=cl_ HB.out hx250_2
           replace p250:=eq_true p250
           replace q250:=eq_true q250
           go_wp2
           go_roundg k3
           case measure=>have:=HK1.out;have:=HJ6.out;have:=HK3.out;omega
           case rel=>exact⟨((x6_3==((rd_T33 l0 x19_1).f2))),((rd_T33 l0 x6_3).f2),rs_,rs_,H',⟨by have:=HK1.out;have:=HJ6.out;have:=HK3.out;omega⟩,⟨bk BK247.out⟩,⟨bw HB.out⟩⟩
          (first|rw[c19b0]|(simp only[i64_w,i32_w];rw[c19b0])|skip)
          have H':=A_ H
          clear H
          go_wp2
          go_meet
          case rel=>exact⟨_,(x5_3),rs_,H',⟨by have:=HK1.out;have:=HJ6.out;have:=HK3.out;first|omega|exact Nat.le_refl _⟩,⟨bk BK247.out⟩,⟨bw HB.out⟩⟩
       case rest=>
        clear HC18
        try clear c3 c4 c4b0 c5 c5b0 c6 c6b0 c17 hcz9_0 hcz9_1 hcz9_2 hfz9_0 hfz9_1 hfz9_2 hx246_0 hx246_1 hx246_2 p246 q246
        obtain⟨kq,x5_17,rfl,HA,HJ17,BK247,HB⟩:=hcut
        cases kq with
        |zero=>exact absurd HA.out (by simp[spec_GoodType.j3])
        |succ kj17=>
         have H:=HA.out
         clear HA
         simp only[spec_GoodType.j3] at H
         have H':=A_ H
         clear H
         go_wp2
         (try simp only[Act.put,List.setIfInBounds_toArray,List.set_cons_zero,List.set_cons_succ])
         go_loopg [7,8] kj17 (fun kq v7 v8 w'=>∃ (x7_4:Int) (x8_4:Int),v7=.int .i64 x7_4∧v8=.int .i64 x8_4∧Aside0 (spec_GoodType.l2 kq l0 x19_1 x5_17 x7_4 x8_4 l0 (l0.length:Int) x19_1 ((rd_T33 l0 x19_1).f0) ((rd_T33 l0 x19_1).f1) ((rd_T33 l0 x19_1).f2)=some r)∧Aside0 (kq≤kj17)∧Aside0 (w'.heap[gb247]? =some (.cells #[.int .i64 ((rd_T33 l0 x19_1).f0),.int .i64 ((rd_T33 l0 x19_1).f1),.int .i64 ((rd_T33 l0 x19_1).f2)] 33 (0,0)))∧Aside0 (Below w.heap.size w w'))
         case atStart=>exact⟨(0),(x19_1),rs_,rs_,H',⟨Nat.le_refl _⟩,⟨bk BK247.out⟩,⟨bw HB.out⟩⟩
         case round=>
          clear H'
          try clear c3 c4 c4b0 c5 c5b0 c6 c6b0 c17 hcz9_0 hcz9_1 hcz9_2 hfz9_0 hfz9_1 hfz9_2 hx246_0 hx246_1 hx246_2 p246 q246
          obtain⟨x7_4,x8_4,rfl,rfl,HA,HK4,BK247,HB⟩:=hrel
          cases gk with
          |zero=>exact absurd HA.out (by simp[spec_GoodType.l2])
          |succ k4=>
           have H:=HA.out
           clear HA
           simp only[spec_GoodType.l2] at H
           revert H
           refine iL_ (fun c24b0 H=>?_) (fun c24b0 H=>?_)
           ·
            replace H:=id_ H
            obtain⟨c25b0,H⟩:=H
            replace H:=id_ H
            obtain⟨c26b0,H⟩:=H
            have H':=A_ H
            clear H
            have p251:0≤(x8_4:Int):=od_
            have q251:x8_4<(l0.length:Int):=od_
            obtain⟨ad251,e251,hx251_0,hx251_1,hx251_2⟩:=at_T33 HR0.out x8_4 p251 q251
            obtain rfl:ad246=ad251:=(by injection e251)
            replace hx251_0:=cl_ HB.out hx251_0
            replace hx251_1:=cl_ HB.out hx251_1
            replace hx251_2:=cl_ HB.out hx251_2
            replace p251:=eq_true p251
            replace q251:=eq_true q251
            go_wp2
            go_roundg k4
            case measure=>have:=HK1.out;have:=HJ6.out;have:=HJ17.out;have:=HK4.out;omega
            case rel=>exact⟨(wrap64 (x7_4+1)),((rd_T33 l0 x8_4).f2),rs_,rs_,H',⟨by have:=HK1.out;have:=HJ6.out;have:=HJ17.out;have:=HK4.out;omega⟩,⟨bk BK247.out⟩,⟨bw HB.out⟩⟩
           replace H:=Option.bind_eq_some_iff.mp H
           obtain⟨⟨t252,t253,t254,t255⟩,A270,H⟩:=H
           try dsimp only at H
           have A27:=A_ A270
           clear A270
           revert H
           refine iB_ (fun c28 H=>?pc28) (fun c28 H=>?nc28)<;>subst c28
           case' pc28=>
            revert H
            refine iL_ (fun c29b0 H=>?pc29) (fun c29b0 H=>?nc29)
            case' pc29=>
             obtain rfl:=Option.some.inj H
             clear H
             obtain⟨hcz30_0,hcz30_1,hcz30_2⟩:=cs3_ BK247.out
             obtain⟨hfz30_0,hfz30_1,hfz30_2⟩:=fz3_ BK247.out
            case' nc29=>
             replace H:=bA_ H
             obtain⟨t256,A31,H⟩:=H
             replace H:=bA_ H
             obtain⟨t259,A32,H⟩:=H
             by_cases c33:t259=true
             case neg=>
              replace c33:=Bool.eq_false_iff.mpr c33
              subst c33
              replace H:=iF_ H
              obtain rfl:=Option.some.inj H
              clear H
              obtain⟨hcz44_0,hcz44_1,hcz44_2⟩:=cs3_ BK247.out
              obtain⟨hfz44_0,hfz44_1,hfz44_2⟩:=fz3_ BK247.out
              go_wp2_with (first|((with_reducible refine gc_ 26 rfl ?_);refine gn_ (some 76) Tryd.func26 (spec_l11Shape.calls k4 ((rd_T33 l0 x19_1).f0) t252 t253 t254 t255 _ A27.out) ?_;intro nd)|(go_at_call 27;(with_reducible refine(spec_l11Parts.calls k4 _ _ l0 x19_1 t256 _ ?side1 ?side2 A31.out).mono ?_);(case side1=>exact cb_ HR0 HB);(case side2=>exact HC0.out);rintro e w45 ⟨v257,rfl,ho0,hb⟩;have HO258:=A_ (Kd.R_lower ho0 (below_size (bw HB.out)));replace BK247:=kb_ BK247 hb;replace HB:=bs_ HB hb;(try clear hb);(try clear hb2);(try clear hk);(try clear hi);(try clear ho0);obtain⟨Ao46,co46,eo46⟩:=Kd.R_slice HO258.out;subst eo46)|(go_at_call 25;(with_reducible refine(spec_l1In.calls (t256.length:Int) t252 t253 false _ A32.out).mono ?_);rintro e w' ⟨rfl,⟨nd,rfl⟩⟩))
              go_ret
              exact⟨rr_,bw HB.out⟩
             subst c33
             replace H:=iT_ H
             replace H:=bA_ H
             obtain⟨t260,A34,H⟩:=H
             revert H
             refine iB_ (fun c35 H=>?_) (fun c35 H=>?_)<;>subst c35
             ·
              have H':=A_ H
              clear H
              obtain⟨hcz36_0,hcz36_1,hcz36_2⟩:=cs3_ BK247.out
              obtain⟨hfz36_0,hfz36_1,hfz36_2⟩:=fz3_ BK247.out
              go_wp2_with (first|((with_reducible refine gc_ 26 rfl ?_);refine gn_ (some 76) Tryd.func26 (spec_l11Shape.calls k4 ((rd_T33 l0 x19_1).f0) t252 t253 t254 t255 _ A27.out) ?_;intro nd)|(go_at_call 27;(with_reducible refine(spec_l11Parts.calls k4 _ _ l0 x19_1 t256 _ ?side1 ?side2 A31.out).mono ?_);(case side1=>exact cb_ HR0 HB);(case side2=>exact HC0.out);rintro e w37 ⟨v257,rfl,ho0,hb⟩;have HO258:=A_ (Kd.R_lower ho0 (below_size (bw HB.out)));replace BK247:=kb_ BK247 hb;replace HB:=bs_ HB hb;(try clear hb);(try clear hb2);(try clear hk);(try clear hi);(try clear ho0);obtain⟨Ao38,co38,eo38⟩:=Kd.R_slice HO258.out;subst eo38)|(go_at_call 25;(with_reducible refine(spec_l1In.calls (t256.length:Int) t252 t253 true _ A32.out).mono ?_);rintro e w' ⟨rfl,⟨nd,rfl⟩⟩;obtain⟨hcz39_0,hcz39_1,hcz39_2⟩:=cs3_ BK247.out;obtain⟨hfz39_0,hfz39_1,hfz39_2⟩:=fz3_ BK247.out)|(go_at_call 25;(with_reducible refine(spec_l1In.calls ((rd_T33 l0 x19_1).f1) t254 t255 true _ A34.out).mono ?_);rintro e w' ⟨rfl,⟨nd,rfl⟩⟩))
              go_roundg k4
              case measure=>have:=HK1.out;have:=HJ6.out;have:=HJ17.out;have:=HK4.out;omega
              case rel=>exact⟨(wrap64 (x19_1+1)),rs_,H',⟨by have:=HK1.out;have:=HJ6.out;have:=HJ17.out;have:=HK4.out;omega⟩,⟨bw HB.out⟩⟩
             obtain rfl:=Option.some.inj H
             clear H
             obtain⟨hcz40_0,hcz40_1,hcz40_2⟩:=cs3_ BK247.out
             obtain⟨hfz40_0,hfz40_1,hfz40_2⟩:=fz3_ BK247.out
           case' nc28=>
            obtain rfl:=Option.some.inj H
            clear H
            obtain⟨hcz47_0,hcz47_1,hcz47_2⟩:=cs3_ BK247.out
            obtain⟨hfz47_0,hfz47_1,hfz47_2⟩:=fz3_ BK247.out
           all_goals
            go_wp2_with (first|((with_reducible refine gc_ 26 rfl ?_);refine gn_ (some 76) Tryd.func26 (spec_l11Shape.calls k4 ((rd_T33 l0 x19_1).f0) t252 t253 t254 t255 _ A27.out) ?_;intro nd)|(go_at_call 27;(with_reducible refine(spec_l11Parts.calls k4 _ _ l0 x19_1 t256 _ ?side1 ?side2 A31.out).mono ?_);(case side1=>exact cb_ HR0 HB);(case side2=>exact HC0.out);rintro e w41 ⟨v257,rfl,ho0,hb⟩;have HO258:=A_ (Kd.R_lower ho0 (below_size (bw HB.out)));replace BK247:=kb_ BK247 hb;replace HB:=bs_ HB hb;(try clear hb);(try clear hb2);(try clear hk);(try clear hi);(try clear ho0);obtain⟨Ao42,co42,eo42⟩:=Kd.R_slice HO258.out;subst eo42)|(go_at_call 25;(with_reducible refine(spec_l1In.calls (t256.length:Int) t252 t253 true _ A32.out).mono ?_);rintro e w' ⟨rfl,⟨nd,rfl⟩⟩;obtain⟨hcz43_0,hcz43_1,hcz43_2⟩:=cs3_ BK247.out;obtain⟨hfz43_0,hfz43_1,hfz43_2⟩:=fz3_ BK247.out)|(go_at_call 25;(with_reducible refine(spec_l1In.calls ((rd_T33 l0 x19_1).f1) t254 t255 false _ A34.out).mono ?_);rintro e w' ⟨rfl,⟨nd,rfl⟩⟩))
            go_ret
            exact⟨rr_,bw HB.out⟩
    obtain rfl:=Option.some.inj H
    clear H
    go_wp2
    go_ret
    exact⟨rr_,bw HB.out⟩
 obtain rfl:=Option.some.inj H
 clear H
 go_enter Tryd.func13,Tryd.ntmps13
 go_wp2_with (first|((with_reducible refine gc_ 25 rfl ?_);refine gn_ (some 15) Tryd.func25 (spec_l1In.calls (l0.length:Int) 1 40 false _ A2.out) ?_;intro nd))
 go_ret
 exact⟨rr_,bw HB.out⟩

/-! ### spec_l11Names: function 28 -/
def spec_l11Names.f:Option (List ByteArray):=some (([(⟨#[]⟩:ByteArray),(⟨#[98,111,111,108]⟩:ByteArray),(⟨#[117,56]⟩:ByteArray),(⟨#[115,56]⟩:ByteArray),(⟨#[117,49,54]⟩:ByteArray),(⟨#[115,49,54]⟩:ByteArray),(⟨#[117,51,50]⟩:ByteArray),(⟨#[115,51,50]⟩:ByteArray),(⟨#[117,54,52]⟩:ByteArray),(⟨#[115,54,52]⟩:ByteArray),(⟨#[102,51,50]⟩:ByteArray),(⟨#[99,104,97,114]⟩:ByteArray),(⟨#[115,116,114,105,110,103]⟩:ByteArray),(⟨#[108,105,115,116]⟩:ByteArray),(⟨#[114,101,99,111,114,100]⟩:ByteArray),(⟨#[118,97,114,105,97,110,116]⟩:ByteArray),(⟨#[102,108,97,103,115]⟩:ByteArray),(⟨#[111,112,116,105,111,110]⟩:ByteArray),(⟨#[114,101,115,117,108,116]⟩:ByteArray),(⟨#[101,110,117,109]⟩:ByteArray),(⟨#[111,119,110]⟩:ByteArray),(⟨#[98,111,114,114,111,119]⟩:ByteArray)]:List ByteArray))
theorem spec_l11Names.calls (r:List ByteArray) (w:World) (h:spec_l11Names.f=some r):
  Calls Tryd.prog 28 #[] w fun e w'=>∃ v0_:Value,e=.returned (v0_)∧Kd.R Kd.string 9 w' w.heap.size (fun _=>True) v0_ r∧Below w.heap.size w w':=by
 have HB:=A_ (Below.refl w.heap.size w)
 have H:(some (([(⟨#[]⟩:ByteArray),(⟨#[98,111,111,108]⟩:ByteArray),(⟨#[117,56]⟩:ByteArray),(⟨#[115,56]⟩:ByteArray),(⟨#[117,49,54]⟩:ByteArray),(⟨#[115,49,54]⟩:ByteArray),(⟨#[117,51,50]⟩:ByteArray),(⟨#[115,51,50]⟩:ByteArray),(⟨#[117,54,52]⟩:ByteArray),(⟨#[115,54,52]⟩:ByteArray),(⟨#[102,51,50]⟩:ByteArray),(⟨#[99,104,97,114]⟩:ByteArray),(⟨#[115,116,114,105,110,103]⟩:ByteArray),(⟨#[108,105,115,116]⟩:ByteArray),(⟨#[114,101,99,111,114,100]⟩:ByteArray),(⟨#[118,97,114,105,97,110,116]⟩:ByteArray),(⟨#[102,108,97,103,115]⟩:ByteArray),(⟨#[111,112,116,105,111,110]⟩:ByteArray),(⟨#[114,101,115,117,108,116]⟩:ByteArray),(⟨#[101,110,117,109]⟩:ByteArray),(⟨#[111,119,110]⟩:ByteArray),(⟨#[98,111,114,114,111,119]⟩:ByteArray)]:List ByteArray)))=some r:=h
 clear h
 obtain⟨y261,hy261⟩:∃ y_:List ByteArray,y_=(([(⟨#[]⟩:ByteArray),(⟨#[98,111,111,108]⟩:ByteArray),(⟨#[117,56]⟩:ByteArray),(⟨#[115,56]⟩:ByteArray),(⟨#[117,49,54]⟩:ByteArray),(⟨#[115,49,54]⟩:ByteArray),(⟨#[117,51,50]⟩:ByteArray),(⟨#[115,51,50]⟩:ByteArray),(⟨#[117,54,52]⟩:ByteArray),(⟨#[115,54,52]⟩:ByteArray),(⟨#[102,51,50]⟩:ByteArray),(⟨#[99,104,97,114]⟩:ByteArray),(⟨#[115,116,114,105,110,103]⟩:ByteArray),(⟨#[108,105,115,116]⟩:ByteArray),(⟨#[114,101,99,111,114,100]⟩:ByteArray),(⟨#[118,97,114,105,97,110,116]⟩:ByteArray),(⟨#[102,108,97,103,115]⟩:ByteArray),(⟨#[111,112,116,105,111,110]⟩:ByteArray),(⟨#[114,101,115,117,108,116]⟩:ByteArray),(⟨#[101,110,117,109]⟩:ByteArray),(⟨#[111,119,110]⟩:ByteArray),(⟨#[98,111,114,114,111,119]⟩:ByteArray)]:List ByteArray)):=⟨_,rfl⟩
 rw[←hy261] at H
 have Ny261:=A_ hy261
 clear hy261
 obtain rfl:=Option.some.inj H
 clear H
 go_enter Tryd.func28,Tryd.ntmps28
 go_wp2_with (first|((with_reducible refine gd_ 1 rfl ?_);refine Kd.R_lit Kd.string _ 9 ?hg (N:=1) ?hd (xs:=([(⟨#[]⟩:ByteArray),(⟨#[98,111,111,108]⟩:ByteArray),(⟨#[117,56]⟩:ByteArray),(⟨#[115,56]⟩:ByteArray),(⟨#[117,49,54]⟩:ByteArray),(⟨#[115,49,54]⟩:ByteArray),(⟨#[117,51,50]⟩:ByteArray),(⟨#[115,51,50]⟩:ByteArray),(⟨#[117,54,52]⟩:ByteArray),(⟨#[115,54,52]⟩:ByteArray),(⟨#[102,51,50]⟩:ByteArray),(⟨#[99,104,97,114]⟩:ByteArray),(⟨#[115,116,114,105,110,103]⟩:ByteArray),(⟨#[108,105,115,116]⟩:ByteArray),(⟨#[114,101,99,111,114,100]⟩:ByteArray),(⟨#[118,97,114,105,97,110,116]⟩:ByteArray),(⟨#[102,108,97,103,115]⟩:ByteArray),(⟨#[111,112,116,105,111,110]⟩:ByteArray),(⟨#[114,101,115,117,108,116]⟩:ByteArray),(⟨#[101,110,117,109]⟩:ByteArray),(⟨#[111,119,110]⟩:ByteArray),(⟨#[98,111,114,114,111,119]⟩:ByteArray)]:List ByteArray)) (inner:=[.string (⟨#[]⟩:ByteArray),.string (⟨#[98,111,111,108]⟩:ByteArray),.string (⟨#[117,56]⟩:ByteArray),.string (⟨#[115,56]⟩:ByteArray),.string (⟨#[117,49,54]⟩:ByteArray),.string (⟨#[115,49,54]⟩:ByteArray),.string (⟨#[117,51,50]⟩:ByteArray),.string (⟨#[115,51,50]⟩:ByteArray),.string (⟨#[117,54,52]⟩:ByteArray),.string (⟨#[115,54,52]⟩:ByteArray),.string (⟨#[102,51,50]⟩:ByteArray),.string (⟨#[99,104,97,114]⟩:ByteArray),.string (⟨#[115,116,114,105,110,103]⟩:ByteArray),.string (⟨#[108,105,115,116]⟩:ByteArray),.string (⟨#[114,101,99,111,114,100]⟩:ByteArray),.string (⟨#[118,97,114,105,97,110,116]⟩:ByteArray),.string (⟨#[102,108,97,103,115]⟩:ByteArray),.string (⟨#[111,112,116,105,111,110]⟩:ByteArray),.string (⟨#[114,101,115,117,108,116]⟩:ByteArray),.string (⟨#[101,110,117,109]⟩:ByteArray),.string (⟨#[111,119,110]⟩:ByteArray),.string (⟨#[98,111,114,114,111,119]⟩:ByteArray)]) (ok:=fun _=>True) (okp:=fun _=>True) ?hr ?hp (fun _ hk=>hk) trivial (Below.refl _ _) (Nat.le_refl _) (by simp) ?_;(case hd=>rfl);(case hg=>rfl);(case hr=>first|(go_simp;done)|(go_simp;rfl));(case hp=>exact(Reps.one (show Kd.M Kd.string _ _ _ (⟨#[]⟩:ByteArray) [.string (⟨#[]⟩:ByteArray)] from rfl) (Reps.one (show Kd.M Kd.string _ _ _ (⟨#[98,111,111,108]⟩:ByteArray) [.string (⟨#[98,111,111,108]⟩:ByteArray)] from rfl) (Reps.one (show Kd.M Kd.string _ _ _ (⟨#[117,56]⟩:ByteArray) [.string (⟨#[117,56]⟩:ByteArray)] from rfl) (Reps.one (show Kd.M Kd.string _ _ _ (⟨#[115,56]⟩:ByteArray) [.string (⟨#[115,56]⟩:ByteArray)] from rfl) (Reps.one (show Kd.M Kd.string _ _ _ (⟨#[117,49,54]⟩:ByteArray) [.string (⟨#[117,49,54]⟩:ByteArray)] from rfl) (Reps.one (show Kd.M Kd.string _ _ _ (⟨#[115,49,54]⟩:ByteArray) [.string (⟨#[115,49,54]⟩:ByteArray)] from rfl) (Reps.one (show Kd.M Kd.string _ _ _ (⟨#[117,51,50]⟩:ByteArray) [.string (⟨#[117,51,50]⟩:ByteArray)] from rfl) (Reps.one (show Kd.M Kd.string _ _ _ (⟨#[115,51,50]⟩:ByteArray) [.string (⟨#[115,51,50]⟩:ByteArray)] from rfl) (Reps.one (show Kd.M Kd.string _ _ _ (⟨#[117,54,52]⟩:ByteArray) [.string (⟨#[117,54,52]⟩:ByteArray)] from rfl) (Reps.one (show Kd.M Kd.string _ _ _ (⟨#[115,54,52]⟩:ByteArray) [.string (⟨#[115,54,52]⟩:ByteArray)] from rfl) (Reps.one (show Kd.M Kd.string _ _ _ (⟨#[102,51,50]⟩:ByteArray) [.string (⟨#[102,51,50]⟩:ByteArray)] from rfl) (Reps.one (show Kd.M Kd.string _ _ _ (⟨#[99,104,97,114]⟩:ByteArray) [.string (⟨#[99,104,97,114]⟩:ByteArray)] from rfl) (Reps.one (show Kd.M Kd.string _ _ _ (⟨#[115,116,114,105,110,103]⟩:ByteArray) [.string (⟨#[115,116,114,105,110,103]⟩:ByteArray)] from rfl) (Reps.one (show Kd.M Kd.string _ _ _ (⟨#[108,105,115,116]⟩:ByteArray) [.string (⟨#[108,105,115,116]⟩:ByteArray)] from rfl) (Reps.one (show Kd.M Kd.string _ _ _ (⟨#[114,101,99,111,114,100]⟩:ByteArray) [.string (⟨#[114,101,99,111,114,100]⟩:ByteArray)] from rfl) (Reps.one (show Kd.M Kd.string _ _ _ (⟨#[118,97,114,105,97,110,116]⟩:ByteArray) [.string (⟨#[118,97,114,105,97,110,116]⟩:ByteArray)] from rfl) (Reps.one (show Kd.M Kd.string _ _ _ (⟨#[102,108,97,103,115]⟩:ByteArray) [.string (⟨#[102,108,97,103,115]⟩:ByteArray)] from rfl) (Reps.one (show Kd.M Kd.string _ _ _ (⟨#[111,112,116,105,111,110]⟩:ByteArray) [.string (⟨#[111,112,116,105,111,110]⟩:ByteArray)] from rfl) (Reps.one (show Kd.M Kd.string _ _ _ (⟨#[114,101,115,117,108,116]⟩:ByteArray) [.string (⟨#[114,101,115,117,108,116]⟩:ByteArray)] from rfl) (Reps.one (show Kd.M Kd.string _ _ _ (⟨#[101,110,117,109]⟩:ByteArray) [.string (⟨#[101,110,117,109]⟩:ByteArray)] from rfl) (Reps.one (show Kd.M Kd.string _ _ _ (⟨#[111,119,110]⟩:ByteArray) [.string (⟨#[111,119,110]⟩:ByteArray)] from rfl) (Reps.one (show Kd.M Kd.string _ _ _ (⟨#[98,111,114,114,111,119]⟩:ByteArray) [.string (⟨#[98,111,114,114,111,119]⟩:ByteArray)] from rfl) (Reps.none _ _))))))))))))))))))))))));intro v262 w1 ho2 hb hg_ hnew_;clear hg_ hnew_;(first|rw[←Ny261.out] at ho2|(simp only[Int.reduceToNat] at ho2;rw[←Ny261.out] at ho2));have HO263:=A_ (Kd.R_lower ho2 (below_size (bw HB.out)));replace HB:=bs_ HB hb;clear hb ho2))
 go_ret
 exact⟨_,rr_,kr_ HO263.out,bw HB.out⟩
end Go.Proofs.YtoeenmajdidfoaaDoor.Q

