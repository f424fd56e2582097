/- How an argument of any kind that came in is read by its kind: integers, bools, strings, slices of these, structs of these, one within the other. -/
import Derived.Test.YtanhbfhmgmjdgaaWWords
import Derived.WalkKit
import Derived.ProofKit
import Derived.OpenShut
import Derived.ShutString
import Derived.ChangeOld
import Derived.Below
import Derived.SizedLaws
import Derived.Deep.Slices
namespace Go.Proofs.Ytanhbfhmgmjdgaa.Op
open Go.ChangeShapes Go.WideShapes Go.ChangeAt Go.RowKit Go.Deep Go.Proofs.YtanhbfhmgmjdgaaW.PrintWords
set_option linter.unusedVariables false

/-- Whatever is read at type t is of the kind d, and within B. -/
def RdK {H:Type} (enc:TypeId × Value→H) (P:Program) (w:World) (t:TypeId) {α:Type} (d:Kd α) (B:α→Prop):Prop:=
  ∀ (fuel:Nat) (cs:List Value) (y:DataW H × List MemPlace),DataW.trod enc P w 0 (fun _=>true) true fuel t cs=some y→∃ x,d.K w x cs∧B x

section
variable {H:Type} {enc:TypeId × Value→H} {P:Program} {w:World}

theorem rd_int {t:TypeId} {k:IntKind} (ht:P.underlying t=some (.int k)):RdK enc P w t (Kd.int k) (fun x=>(Lit.int k x).wf=true):=by
  intro fuel cs y h
  obtain⟨n,rfl,_,hw⟩:=DataW.trod_int ht h
  exact⟨n,rfl,hw⟩

theorem rd_bool {t:TypeId} (ht:P.underlying t=some .bool):RdK enc P w t Kd.bool (fun _=>True):=by
  intro fuel cs y h
  obtain⟨b,rfl,_⟩:=DataW.trod_bool ht h
  exact⟨b,rfl,trivial⟩

theorem rd_string {t:TypeId} (ht:P.underlying t=some .string):RdK enc P w t Kd.string (fun s=>s.size≤maxLen):=by
  intro fuel cs y h
  obtain⟨s,rfl,_,hs⟩:=DataW.trod_string ht h
  exact⟨s,rfl,hs⟩

theorem choose_list {α:Type} {n:Nat} {p:Nat→α→Prop} (h:∀ i,i<n→∃ x,p i x):∃ l:List α,l.length=n∧∀ i x,l[i]? =some x→p i x:=by
  induction n with
  |zero=>exact⟨[],rfl,fun i x hx=>by simp at hx⟩
  |succ n ih=>
    obtain⟨l,hl,hp⟩:=ih (fun i hi=>h i (Nat.lt_succ_of_lt hi))
    obtain⟨x,hx⟩:=h n (Nat.lt_succ_self n)
    refine⟨l++[x],by simp[hl],fun i y hy=>?_⟩
    rcases Nat.lt_or_ge i l.length with hi|hi
    · rw[List.getElem?_append_left hi] at hy
      exact hp i y hy
    · have hi2:i<(l++[x]).length:=(List.getElem?_eq_some_iff.1 hy).1
      have hi3:i=l.length:=by rw[List.length_append,List.length_singleton] at hi2;omega
      subst hi3
      rw[List.getElem?_append_right (Nat.le_refl _),Nat.sub_self] at hy
      obtain rfl:x=y:=by simpa using hy
      rw[hl];exact hx

theorem cells_get {base:Nat} {a:Addr} {n:Nat} {cs:List Value} (h:w.cells? base a n=some cs):cs.length=n∧∀ (i:Nat) u,cs[i]? =some u→w.cell? (a.add i)=some u:=by
  obtain⟨_,hl,hc⟩:=World.cells?_some h
  refine⟨hl,fun i u hu=>?_⟩
  have hi:i<cs.length:=(List.getElem?_eq_some_iff.1 hu).1
  rw[←hu]
  exact hc i (by omega)

theorem rd_slice {t e:TypeId} {α:Type} {d:Kd α} {B:α→Prop} (ht:P.underlying t=some (.slice e)) (hs:P.cellsOf e=d.sz) (he:RdK enc P w e d B):
    RdK enc P w t (Kd.slice e d) (fun l=>l.length≤maxLen∧∀ x∈l,B x):=by
  intro fuel cs y h
  rcases open_slice ht h with ⟨rfl,_⟩|⟨a,len,cap,m,n,D,Pl,rfl,_,hlc,hcm,hm,_,hall⟩
  · refine⟨[],⟨none,0,rfl,Nat.le_refl _,⟨rfl,Nat.zero_le _,fun h0=>absurd h0 (by simp)⟩⟩,Nat.zero_le _,fun x hx=>by cases hx⟩
  · have hm':m=cap:=by simpa using hm
    have hex:∀ i,i<len→∃ x:α,B x∧∃ c:List Value,c.length=d.sz∧d.K w x c∧∀ (j:Nat) u,c[j]? =some u→w.cell? (a.add (i*d.sz+j))=some u:=by
      intro i hi
      obtain⟨c,hc,htr⟩:=hall i (by omega)
      obtain⟨x,hK,hB⟩:=he n c _ htr
      obtain⟨hcl,hcc⟩:=cells_get hc
      refine⟨x,hB,c,by rw[hcl,hs],hK,fun j u hu=>?_⟩
      have:=hcc j u hu
      rw[Go.Deep.add_add,hs] at this
      exact this
    obtain⟨l,hl,hp⟩:=choose_list hex
    subst hl
    refine⟨l,⟨some a,cap,rfl,hlc,⟨rfl,by unfold maxLen at hcm;omega,fun _=>⟨a,rfl,fun j p hj=>?_⟩⟩⟩,by omega,fun x hx=>?_⟩
    · obtain⟨_,c,h1,h2,h3⟩:=hp j p hj
      exact⟨c,h1,h2,h3⟩
    · obtain⟨i,hi,rfl⟩:=List.getElem_of_mem hx
      exact(hp i _ (List.getElem?_eq_getElem hi)).1

/-- The fields of a struct from a place on. -/
def RdF {H:Type} (enc:TypeId × Value→H) (P:Program) (w:World) (o:Nat) (fs:List Field) {α:Type} (d:Kd α) (B:α→Prop):Prop:=
  ∀ (n:Nat) (cs:List Value) (ys:List (DataW H × List MemPlace)),ys.length=fs.length→
    (∀ (i:Nat) f,fs[i]? =some f→DataW.trod enc P w 0 (fun _=>true) true n f.type ((cs.drop f.offset).take (P.cellsOf f.type))=ys[i]?)→cs.length=o+d.sz→∃ x,d.K w x (cs.drop o)∧B x

theorem rdf_one {o:Nat} {f:Field} {α:Type} {d:Kd α} {B:α→Prop} (ho:f.offset=o) (hs:P.cellsOf f.type=d.sz) (h:RdK enc P w f.type d B):RdF enc P w o [f] d B:=by
  intro n cs ys hy hall hl
  obtain⟨y,rfl⟩:∃ y,ys=[y]:=by
    match ys,hy with
    |[y],_=>exact⟨y,rfl⟩
  have h0:=hall 0 f rfl
  rw[ho,hs,List.take_of_length_le (by rw[List.length_drop];omega)] at h0
  exact h n _ y h0

theorem rdf_cons {o:Nat} {f:Field} {fs:List Field} {α β:Type} {d:Kd α} {d2:Kd β} {B:α→Prop} {B2:β→Prop} (ho:f.offset=o) (hs:P.cellsOf f.type=d.sz) (h:RdK enc P w f.type d B) (h2:RdF enc P w (o+d.sz) fs d2 B2):
    RdF enc P w o (f ::fs) (Kd.pair d d2) (fun x=>B x.1∧B2 x.2):=by
  intro n cs ys hy hall hl
  obtain⟨y,ys',rfl⟩:∃ y ys',ys=y ::ys':=by
    match ys,hy with
    |y ::ys',_=>exact⟨y,ys',rfl⟩
  have h0:=hall 0 f rfl
  rw[ho,hs] at h0
  have hl':cs.length=o+(d.sz+d2.sz):=hl
  obtain⟨x,hx,hb⟩:=h n _ y h0
  obtain⟨x2,hx2,hb2⟩:=h2 n cs ys' (by simpa using hy) (fun i f' hf=>hall (i+1) f' hf) (by omega)
  refine⟨(x,x2),⟨(cs.drop o).take d.sz,cs.drop (o+d.sz),?_,hx,hx2⟩,hb,hb2⟩
  rw[←List.drop_drop,List.take_append_drop]

theorem rd_struct {t:TypeId} {fs:Array Field} {α:Type} {d:Kd α} {B:α→Prop} (ht:P.underlying t=some (.struct fs)) (hs:P.cellsOf t=d.sz) (h:RdF enc P w 0 fs.toList d B):RdK enc P w t d B:=by
  intro fuel cs y hy
  obtain⟨xs,n,_,rfl,hl,hlen,hf⟩:=DataW.trod_struct ht hy
  exact h n cs xs (by simpa using hlen) (fun i f hi=>hf i f (by simpa using hi)) (by omega)

theorem rd_iso {t:TypeId} {α β:Type} {d:Kd α} {B:α→Prop} (f:β→α) (g:α→β) (hg:∀ a,f (g a)=a) (h:RdK enc P w t d B):RdK enc P w t (Kd.iso d f) (fun x=>B (f x)):=by
  intro fuel cs y hy
  obtain⟨x,hx,hb⟩:=h fuel cs y hy
  exact⟨g x,(show d.K w (f (g x)) cs by rw[hg];exact hx),by show B (f (g x));rw[hg];exact hb⟩

/-- The value of an argument, and what its cells read as. -/
theorem rd_value {t:TypeId} {α:Type} {d:Kd α} {B:α→Prop} {v:Value} {x:DataW H} {ps:List MemPlace} (h:RdK enc P w t d B) (hv:DataW.Trod enc P w 0 (fun _=>true) true t v x ps):∃ a,d.K w a v.cells.toList∧B a:=by
  obtain⟨fuel,hf⟩:=hv
  exact h fuel _ _ hf
end
end Go.Proofs.Ytanhbfhmgmjdgaa.Op
