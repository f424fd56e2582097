/- Texts of types are read back. -/
import Derived.Test.YtoeenmajdidfoaaDoorTn
import Derived.Test.YtoeenmajdidfoaaDoorTx
import Derived.Test.YtoeenmajdidfoaaDoorQx8
import Derived.Test.YtoeenmajdidfoaaDoorQx6
namespace Go.Proofs.YtoeenmajdidfoaaDoor.Ty
open Go.RowKit Go.Proofs.YtoeenmajdidfoaaDoor.Q Go.Proofs.YtoeenmajdidfoaaDoorW.PrintWords Go.Proofs.YtoeenmajdidfoaaDoorW.PrintLast Go.Proofs.YtoeenmajdidfoaaDoorW.PrintMore Go.Proofs.YtoeenmajdidfoaaDoor.Mb
set_option linter.unusedSimpArgs false
set_option linter.unusedVariables false
set_option linter.unusedSectionVars false
def By (xs:List UInt8):ByteArray:=⟨xs.toArray⟩
theorem by_list (xs:List UInt8):(By xs).data.toList=xs:=rfl
theorem by_size (xs:List UInt8):(By xs).size=xs.length:=rfl
theorem by_of (r:ByteArray):By r.data.toList=r:=bytes_eq (by rw[by_list])
theorem by_toList (xs:List UInt8):(By xs).toList=xs:=(ByteArray.toList_eq _).trans (by_list xs)
theorem by_extract (xs:List UInt8) (a b:Nat):(By xs).extract a b=By ((xs.drop a).take (b - a)):=bytes_eq (by
  rw[by_list,ByteArray.data_extract,Array.toList_extract,by_list,List.extract_eq_take_drop])
/-- The signs that end a word. -/
def stop (b:UInt8):Bool:=b==60 ||b==62 ||b==44
def sepd:List UInt8→Prop
  |[]=>True
  |b ::_=>stop b=true
def fine (xs:List UInt8):Prop:=(∀ b∈xs,b.toNat<128)∧xs.length≤4000000000
theorem fine.drop {xs:List UInt8} (h:fine xs) (n:Nat):fine (xs.drop n):=⟨fun b hb=>h.1 b (List.mem_of_mem_drop hb),Nat.le_trans (by rw[List.length_drop];omega) h.2⟩
theorem fine.right {xs ys:List UInt8} (h:fine (xs++ys)):fine ys:=by have:=h.drop xs.length;rwa [List.drop_left] at this
theorem stop_in (b:UInt8):([60,62,44]:List UInt8).contains b=stop b:=by
  unfold stop
  rw[Bool.eq_iff_iff]
  simp[or_assoc]
theorem index_word:∀ (w rest:List UInt8),(∀ b∈w,stop b=false)→sepd rest→Lib.indexAny (w++rest) [60,62,44]=if rest=[] then -1 else (w.length:Int)
  |[],[],_,_=>rfl
  |[],b ::r,_,h=>by
    show Lib.indexAny (b ::r) _=_
    rw[Lib.indexAny,stop_in,show stop b=true from h,if_pos rfl,if_neg (by simp)]
    rfl
  |x ::w,rest,hw,h=>by
    have ih:=index_word w rest (fun b hb=>hw b (List.mem_cons_of_mem _ hb)) h
    show Lib.indexAny (x ::(w++rest)) _=_
    rw[Lib.indexAny,stop_in,hw x List.mem_cons_self,if_neg (by simp),ih]
    by_cases hr:rest=[]
    · rw[if_pos hr,if_pos hr];rfl
    · rw[if_neg hr,if_neg hr,if_neg (by have h0:(0:Int)≤(w.length:Int):=Int.natCast_nonneg _;simp only[beq_iff_eq];omega),List.length_cons];omega
theorem word_read (w rest:List UInt8) (hw:∀ b∈w,stop b=false) (h:sepd rest) (hf:fine (w++rest)):wordF (By (w++rest))=some (By w,By rest):=by
  unfold wordF strings_IndexAny.f
  have ha:ascii (By (w++rest))=true:=List.all_eq_true.2 (fun b hb=>decide_eq_true (hf.1 b hb))
  have hl:=hf.2
  rw[if_pos ⟨by rw[ha];decide,by rw[by_size];omega,by decide⟩,Option.bind_some,by_list]
  rw[show (⟨#[60,62,44]⟩:ByteArray).data.toList=[60,62,44] from rfl,index_word w rest hw h]
  by_cases hr:rest=[]
  · subst hr
    rw[if_pos rfl,if_pos (by decide),if_pos (by rw[by_size];omega),List.append_nil]
    rfl
  · rw[List.length_append] at hl
    rw[if_neg hr,if_neg (by omega),if_pos ⟨by rw[by_size,List.length_append];omega,by rw[by_size,List.length_append];omega⟩,Int.toNat_natCast,by_extract,by_extract,List.drop_zero,Nat.sub_zero,List.take_left,List.drop_left,by_size,List.length_append,Nat.add_sub_cancel_left,List.take_length]
theorem sign_yes (c:UInt8) (xs:List UInt8) (hf:fine (c ::xs)):signF (By (c ::xs)) (c.toNat:Int)=some (true,By xs):=by
  have hl:=hf.2
  unfold signF
  rw[if_neg (by rw[by_toList];simp),if_pos ⟨by rw[by_size,List.length_cons];omega,by rw[by_size];omega⟩,if_pos (by unfold bt;rw[dif_pos (by rw[by_size,List.length_cons];exact Nat.succ_pos _)];rfl),by_extract,by_size]
  simp
theorem sign_no (c:Int) (b:UInt8) (xs:List UInt8) (hf:fine (b ::xs)) (hb:(b.toNat:Int)≠c):signF (By (b ::xs)) c=some (false,By (b ::xs)):=by
  have hl:=hf.2
  unfold signF
  rw[if_neg (by rw[by_toList];simp),if_pos ⟨by rw[by_size,List.length_cons];omega,by rw[by_size];omega⟩,if_neg (by unfold bt;rw[dif_pos (by rw[by_size,List.length_cons];exact Nat.succ_pos _)];exact hb)]
theorem sign_end (c:Int):signF (By []) c=some (false,By []):=by
  unfold signF
  rw[if_pos (by rw[by_toList])]
/-! words and numbers -/
def wd (x:Int):ByteArray:=rdOf ByteArray.empty Wn x
theorem wd_all:∀ x:Fin 22,1≤x.val→(findK (wd ((x.val:Nat):Int)) 23 1=some ((x.val:Nat):Int)∧(wd ((x.val:Nat):Int)).data.toList.all (fun b=>!stop b)=true):=by decide+kernel
theorem wd_ok {x:Int} (h0:1≤x) (h1:x≤21):findK (wd x) 23 1=some x∧∀ b∈(wd x).data.toList,stop b=false:=by
  obtain⟨u,rfl⟩:=Int.eq_ofNat_of_zero_le (show 0≤x by omega)
  have h:=wd_all ⟨u,by omega⟩ (by simp only;omega)
  exact⟨h.1,fun b hb=>by have:=List.all_eq_true.1 h.2 b hb;simpa using this⟩
theorem num_all:∀ n:Fin 301,(Lib.atoi (numS ((n.val:Nat):Int)).data.toList=some ((n.val:Nat):Int)∧(numS ((n.val:Nat):Int)).data.toList.all (fun b=>!stop b)=true∧(numS ((n.val:Nat):Int)).size≤18):=by decide+kernel
theorem num_read {n:Int} (h0:0≤n) (h1:n≤300):strconv_Atoi.f (numS n)=some (n,none)∧∀ b∈(numS n).data.toList,stop b=false:=by
  obtain⟨u,rfl⟩:=Int.eq_ofNat_of_zero_le h0
  have h:=num_all ⟨u,by omega⟩
  refine⟨?_,fun b hb=>by have:=List.all_eq_true.1 h.2.1 b hb;simpa using this⟩
  unfold strconv_Atoi.f
  rw[if_pos h.2.2,h.1]
  rfl
theorem plain_all:∀ x:Fin 22,1≤x.val→impl_counted.f ((x.val:Nat):Int)=some false→(sh ((x.val:Nat):Int)).2.2.1=0∧(sh ((x.val:Nat):Int)).2.2.2=0:=by decide+kernel
theorem plain_ok {x n c:Int} (h:ok x n c=true) (hc:impl_counted.f x=some false):n=0:=by
  have h1:=of_decide_eq_true h
  obtain⟨u,rfl⟩:=Int.eq_ofNat_of_zero_le (show 0≤x by omega)
  have h2:=plain_all ⟨u,by omega⟩ (by simp only;omega) hc
  simp only at h2
  omega
theorem counted_ok (x:Int):impl_counted.f x=some (decide (x=16∨19≤x)):=by
  unfold impl_counted.f
  by_cases h:x=16
  · rw[if_pos h];simp[h]
  · rw[if_neg h];simp[h]
end Go.Proofs.YtoeenmajdidfoaaDoor.Ty
