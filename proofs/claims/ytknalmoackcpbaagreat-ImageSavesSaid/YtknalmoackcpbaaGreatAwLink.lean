/- A layer of abstract values over the model's machine: own work for this claim, part AwLink. -/
import Derived.ProofKit
import Derived.OpenShut
import Derived.Carry
import Derived.Deep.Slices
import Derived.Deep.DeepHandedRow
import Derived.Test.YtknalmoackcpbaaGreatAwOrder
set_option linter.all false
open Go Go.RowKit
namespace Go.AW
open Go.Deep
def isAgg (P:Program) (t:TypeId):Bool:=match P.underlying t with|some (.struct _)=>true| _ =>false
def jY (P:Program) (t:TypeId) (cs:List AV):AV:=if isAgg P t then .agg cs else cs.headD .any
def dh (P:Program):Nat→TypeId→List AV→Prop
 |0,_,_ =>False
 |k+1,t,cs=>match P.underlying t with
  |some .bool=> ∃b,cs= [.sc (.bool b)]
  |some (.int j)=> ∃n,cs= [.sc (.int j n)]∧(Lit.int j n).wf=true
  |some .string=> ∃s:ByteArray,cs= [.sc (.string s)]∧s.size≤reachBytes
  |some (.pointer e)=>cs= [.sc (.pointer none)]∨ ∃cs',cs= [.g0 cs']∧cs'.length=P.cellsOf e∧dh P k e cs'
  |some (.slice e)=>cs= [.ah e [] .aJ true]∨ ∃es:List (List AV),cs= [.ah e (es.map (jY P e)) .aJ false]∧es.length*P.bytesOf e≤reachBytes∧ ∀c∈es,dh P k e c
  |some (.struct fs)=>cs.length=P.cellsOf t∧ ∀f∈fs.toList,dh P k f.type ((cs.drop f.offset).take (P.cellsOf f.type))
  | _ =>False
def tiled (P:Program):List Field→Nat→Nat→Bool
 |[],o,n=>o==n
 |f::r,o,n=>f.offset==o&&tiled P r (o+P.cellsOf f.type) n
def served (P:Program):Nat→TypeId→Bool
 |0,_ =>false
 |k+1,t=>match P.underlying t with
  |some .bool|some (.int _)|some .string=>P.cellsOf t==1
  |some (.pointer e)|some (.slice e)=>P.cellsOf t==1&&P.cellsOf e !=0&&served P k e
  |some (.struct fs)=>tiled P fs.toList 0 (P.cellsOf t)&&fs.toList.all fun f=>served P k f.type
  | _ =>false
def qO (W:World):Gh where
 W0:=W
 B:=W.heap.size
 mem b o:=match W.cell? ⟨b,o,none⟩ with|some v=>if v.oneCell' then some v else none|none=>none
 inj _ :=none
 own _ :=none
 top:=0
def M8:AS:=fun _ =>none
theorem H6 (P:Program) (W:World):Inv P (qO W) M8 W where
 below:=Below.refl _ _
 base:=Nat.le_refl _
 mem b o v h:=by
  simp only[qO]at h;split at h
  ·rename_i x l;split at h
   ·rename_i h1;cases h;exact⟨l,h1⟩
   ·cases h
  ·cases h
 top i _ :=⟨rfl,rfl⟩
 dj i b h:=by cases h
 eZ i j b h:=by cases h
 cells i ty cs h:=by cases h
 maps i es h:=by cases h
 dQ i s p h:=by cases h
 tok i n h:=by cases h
 own t r h:=by cases h
theorem Ay {W:World}{b o:Nat}{v:Value}(h:W.cell? ⟨b,o,none⟩=some v) (h1:v.oneCell'=true):(qO W).mem b o=some v:=by simp[qO,h,h1]
def nI (P:Program) (G:Gh) (cs:List AV) (vs:List Value):Prop:=cs.length=vs.length∧ ∀i,i<cs.length→aU P G (cs.getD i .any) (vs.getD i undef)∧(vs.getD i undef).oneCell'=true
theorem nI.one {P:Program}{G:Gh}{c:AV}{v:Value}(h:aU P G c v) (h1:v.oneCell'=true):nI P G [c] [v]:=by
 refine⟨rfl,fun i j=> ?_⟩;have:i=0:=by simpa using j
 subst this;exact⟨h,h1⟩
theorem dh.len {P:Program}{k:Nat}{t:TypeId}{cs:List AV}(j:served P k t=true) (h:dh P k t cs):cs.length=P.cellsOf t:=by
 cases k with
 |zero=>simp[served]at j
 |succ k=>
  simp only[served]at j;simp only[dh]at h;split at j<;>rename_i hu<;>simp only[hu]at h
  ·obtain⟨b,rfl⟩:=h;rw[beq_iff_eq.1 j];rfl
  ·obtain⟨b,rfl,_⟩:=h;rw[beq_iff_eq.1 j];rfl
  ·obtain⟨b,rfl,_⟩:=h;rw[beq_iff_eq.1 j];rfl
  ·simp only[Bool.and_eq_true,beq_iff_eq]at j;rcases h with rfl|⟨_,rfl,_⟩<;>simp[j.1.1]
  ·simp only[Bool.and_eq_true,beq_iff_eq]at j;rcases h with rfl|⟨_,rfl,_⟩<;>simp[j.1.1]
  ·exact h.1
theorem AE {P:Program}{G:Gh}{k:Nat}{cs:List Value}(n:Nat) (hn:cs.length=n):∀(fs:List Field) (o:Nat),tiled P fs o n=true→o≤n→
 (∀f∈fs,∃c,dh P k f.type c∧c.length=P.cellsOf f.type∧nI P G c ((cs.drop f.offset).take (P.cellsOf f.type)))→
 ∃v:List AV,nI P G v (cs.drop o)∧ ∀f∈fs,o≤f.offset∧dh P k f.type ((v.drop (f.offset-o)).take (P.cellsOf f.type)):=by
 intro fs;induction fs with
 |nil=>intro o h F _;simp only[tiled,beq_iff_eq]at h;subst h;refine⟨[],⟨by simp;omega,by simp⟩,by simp⟩
 |cons f r E=>
  intro o h F hf;simp only[tiled,Bool.and_eq_true,beq_iff_eq]at h;obtain⟨h1,J⟩:=h;subst h1;obtain⟨c,L,A,y⟩:=hf f (by simp);have hle:f.offset+P.cellsOf f.type≤n:=by have e:=y.1;rw[A,List.length_take,List.length_drop,hn]at e;omega
  obtain⟨v,D,O⟩:=E _ J hle (fun g q=>hf g (by simp[q]));have u:c.length=((cs.drop f.offset).take (P.cellsOf f.type)).length:=y.1;have j:cs.drop f.offset=(cs.drop f.offset).take (P.cellsOf f.type)++cs.drop (f.offset+P.cellsOf f.type):=by rw[←List.drop_drop,List.take_append_drop]
  refine⟨c++v,⟨?_,fun i I=> ?_⟩,fun g q=> ?_⟩
  ·rw[j,List.length_append,List.length_append,u,D.1]
  ·rw[j];simp only[List.getD_eq_getElem?_getD];by_cases l:i<c.length
   ·rw[List.getElem?_append_left l,List.getElem?_append_left (by omega)];simpa[List.getD_eq_getElem?_getD]using y.2 i l
   ·rw[List.getElem?_append_right (by omega),List.getElem?_append_right (by omega),←u];simpa[List.getD_eq_getElem?_getD]using D.2 (i-c.length) (by simp at I;omega)
  ·rcases List.mem_cons.1 q with rfl|q
   ·refine⟨Nat.le_refl _,?_⟩;simp[A.symm ▸ List.take_left' rfl];exact L
   ·obtain⟨S,M⟩:=O g q;refine⟨by omega,?_⟩;rw[List.drop_append,List.drop_of_length_le (by omega),List.nil_append,A];rw[show g.offset-f.offset-P.cellsOf f.type=g.offset-(f.offset+P.cellsOf f.type) by omega];exact M
variable {H:Type} {enc:TypeId×Value→H} {P:Program}
theorem nI.pk {G:Gh}{t:TypeId}{c:List AV}{vs:List Value}(h:nI P G c vs) (l:isAgg P t=false→c.length=1):(jY P t c).cells=c:=by
 unfold jY;split
 ·rfl
 ·rename_i ha;have:=l (by simpa using ha)
  match c,this with
  |[x],_ =>have h0:=h.2 0 (by simp);have e:vs.getD 0 undef=vs.getD 0 undef:=rfl;simp only[List.getD_cons_zero]at h0;show x.cells= [x];obtain⟨h1,j⟩:=h0;generalize vs.getD 0 undef=v at h1 j;cases h1<;>first|rfl|(simp[Value.oneCell']at j)
theorem BN {k:Nat}{t:TypeId}(j:served P k t=true) (ha:isAgg P t=false):P.cellsOf t=1:=by
 cases k with
 |zero=>simp[served]at j
 |succ k=>simp only[served]at j;unfold isAgg at ha;split at j<;>simp_all
theorem uo {e:TypeId}{l:List (DataW H)}{d:DataW H}{n:Nat}(j:d∈l) (hn:n∈d.weights P e):n∈DataW.weightsAll P e l:=by
 induction l with
 |nil=>cases j
 |cons x r o=>
  simp only[DataW.weightsAll,List.mem_append];rcases List.mem_cons.1 j with rfl|h
  ·exact .inl hn
  ·exact .inr (o h)
theorem ny {n:Nat} :∀ {ts:List TypeId}{l:List (DataW H)}{i:Nat}{t:TypeId}{d:DataW H},ts[i]? =some t→l[i]? =some d→n∈d.weights P t→n∈DataW.weightsEach P ts l
 |[],_,i,_,_,h,_,_ =>by simp at h
 | _ :: _,[],i,_,_,_,h,_ =>by simp at h
 |u::ts,x::l,i,t,d,h1,j,hn=>by
  simp only[DataW.weightsEach,List.mem_append];cases i with
  |zero=>simp at h1 j;subst h1 j;exact .inl hn
  |succ i=>exact .inr (ny (by simpa using h1) (by simpa using j) hn)
theorem Hc {W:World}{base:Nat}{spare:Nat→Bool}{held:Bool} :∀(k:Nat) (t:TypeId) (fuel:Nat) (vs:List Value) (x:DataW H×List MemPlace),
 served P k t=true→(∀n∈x.1.weights P t,n≤reachBytes)→DataW.trod enc P W base spare held fuel t vs=some x→ ∃cs,dh P k t cs∧cs.length=P.cellsOf t∧nI P (qO W) cs vs:=by
 intro k;induction k with
 |zero=>intro t fuel vs x u;simp[served]at u
 |succ k Y=>
  intro t fuel vs x u v h
  suffices ∃cs,dh P (k+1) t cs∧nI P (qO W) cs vs by obtain⟨cs,J,T⟩:=this;exact⟨cs,J,J.len u,T⟩
  have ax:=u;simp only[served]at u;split at u
  ·rename_i hu;obtain⟨b,rfl,_⟩:=DataW.trod_bool hu h;exact⟨[.sc (.bool b)],by simp[dh,hu],nI.one (.sc _) rfl⟩
  ·rename_i ik hu;obtain⟨n,rfl,_,hw⟩:=DataW.trod_int hu h;exact⟨[.sc (.int ik n)],by simp[dh,hu,hw],nI.one (.sc _) rfl⟩
  ·rename_i hu;obtain⟨s,rfl,rfl,hw⟩:=DataW.trod_string hu h;have hw:s.size≤reachBytes:=v s.data.toList.length (by simp[DataW.weights]);exact⟨[.sc (.string s)],by simp[dh,hu,hw],nI.one (.sc _) rfl⟩
  ·rename_i e hu;simp only[Bool.and_eq_true,beq_iff_eq,bne_iff_ne]at u;obtain⟨⟨s1,s2⟩,s3⟩:=u;rcases DataW.trod_pointer hu h with⟨rfl,_⟩|⟨a,cs',y,n,_,rfl,rfl,hc,hy⟩
   ·exact⟨[.sc (.pointer none)],by simp[dh,hu],nI.one (.sc _) rfl⟩
   ·obtain⟨c,J,T,X⟩:=Y e n cs' y s3 (fun m hm=>v m (by simpa[DataW.weights,hu]using hm)) hy;obtain⟨_,hl,o⟩:=World.cells?_some hc;obtain⟨b,off,spot⟩:=a;have F:spot=none:=by have:=o 0 (by omega);rw[List.getElem?_eq_getElem (by omega)]at this;simpa[Addr.add]using World.cell?_spot this
    subst F;refine⟨[.g0 c],by simp only[dh,hu];exact .inr ⟨c,rfl,T,J⟩,nI.one (.g0 (fun i=>cs'.getD i undef) (fun i l=> ?_) (fun i l=>(X.2 i l).1)) rfl⟩;refine Ay ?_ (X.2 i l).2;have:=o i (by omega);rw[Addr.add_lit]at this;rw[this,List.getD_eq_getElem?_getD,List.getElem?_eq_getElem (by omega)];rfl
  ·rename_i e hu;simp only[Bool.and_eq_true,beq_iff_eq,bne_iff_ne]at u;obtain⟨⟨s1,s2⟩,s3⟩:=u;rcases open_slice hu h with⟨rfl,_⟩|⟨a,len,cap,m,n,D,Pl,rfl,_,hlen,af,hm,rfl,hx⟩
   ·exact⟨[.ah e [] .aJ true],by simp[dh,hu],nI.one (.jw trivial) rfl⟩
   ·have ay:len≤m:=by rw[hm];split<;>omega
    obtain⟨V,E⟩:=choose_lt (α:=List Value×List AV) (p:=fun i q=>W.cells? base (a.add (i*P.cellsOf e)) (P.cellsOf e)=some q.1∧dh P k e q.2∧q.2.length=P.cellsOf e∧nI P (qO W) q.2 q.1) (n:=len) (fun i l=>by obtain⟨cs',h1,h2⟩:=hx i (by omega);obtain⟨c,J,T,X⟩:=Y e n cs' _ s3 (fun q L=>v q (by simp only[DataW.weights,hu,List.mem_cons,List.mem_append];exact .inr (.inl (uo (List.mem_map.2 ⟨i,by simpa using l,rfl⟩) L)))) h2;exact⟨(cs',c),h1,J,T,X⟩);by_cases h0:len=0
    ·subst h0;exact⟨[.ah e [] .aJ false],by simp only[dh,hu];exact .inr ⟨[],rfl,by simp,by simp⟩,nI.one .mZ rfl⟩
    ·obtain⟨b,off,spot⟩:=a;have F:spot=none:=by obtain⟨h1,_⟩:=E 0 (by omega);obtain⟨_,hl,o⟩:=World.cells?_some h1;have:=o 0 (by omega);rw[List.getElem?_eq_getElem (by omega)]at this;simpa[Addr.add]using World.cell?_spot this
     subst F;have A:∀i,i<len→(((List.range len).map fun i=>(V i).2).map (jY P e)).getD i AV.any=jY P e (V i).2:=by intro i l;simp[List.getD_eq_getElem?_getD,l]
     have S:∀i,i<len→(jY P e (V i).2).cells=(V i).2:=fun i l=>(E i l).2.2.2.pk (fun ha=>by rw[(E i l).2.2.1];exact BN s3 ha);refine⟨[.ah e (((List.range len).map fun i=>(V i).2).map (jY P e)) .aJ false],?_,?_⟩
     ·simp only[dh,hu];refine .inr ⟨_,rfl,?_,fun c hc=> ?_⟩
      ·have h9:=v _ (by simp only[DataW.weights,hu];exact List.mem_cons_self);simp only[List.length_map,List.length_range]at h9⊢;exact Nat.le_trans (Nat.mul_le_mul_right _ (Nat.le_add_right _ _)) h9
      obtain⟨i,l,rfl⟩:=List.mem_map.1 hc;exact(E i (by simpa using l)).2.1
     ·refine nI.one ?_ rfl;have I:(((List.range len).map fun i=>(V i).2).map (jY P e)).length=len:=by simp
      refine aU.te (P:=P) (fun q=>((V (q/P.cellsOf e)).1).getD (q%P.cellsOf e) undef) I (fun i l=> ?_) (fun q L=> ?_) (fun i j l M=> ?_) hlen trivial
      ·have l:i<len:=by simpa using l
       rw[A i l,S i l];exact(E i l).2.2.1
      ·have U:0<P.cellsOf e:=by omega
       have l:q/P.cellsOf e<len:=by rw[Nat.div_lt_iff_lt_mul U];exact L
       have M:q%P.cellsOf e<P.cellsOf e:=Nat.mod_lt _ U;obtain⟨h1,h2,h3,h4⟩:=E _ l;obtain⟨_,hl,o⟩:=World.cells?_some h1;refine Ay ?_ (h4.2 _ (by omega)).2;have:=o _ M;rw[add_add,Addr.add_lit,show q/P.cellsOf e*P.cellsOf e+q%P.cellsOf e=q by rw[Nat.mul_comm];exact Nat.div_add_mod q _]at this;rw[this,List.getD_eq_getElem?_getD,List.getElem?_eq_getElem (by omega)];rfl
      ·have l:i<len:=by simpa using l
       have U:0<P.cellsOf e:=by omega
       have e1:(i*P.cellsOf e+j)/P.cellsOf e=i:=by rw[Nat.add_comm,Nat.add_mul_div_right _ _ U,Nat.div_eq_of_lt M,Nat.zero_add]
       have e2:(i*P.cellsOf e+j)%P.cellsOf e=j:=by rw[Nat.add_comm,Nat.add_mul_mod_self_right,Nat.mod_eq_of_lt M]
       rw[A i l,S i l,e1,e2];exact((E i l).2.2.2.2 j (by rw[(E i l).2.2.1];exact M)).1
  ·rename_i fs hu;simp only[Bool.and_eq_true,List.all_eq_true]at u;obtain⟨s1,s2⟩:=u;obtain⟨xs,n,_,rfl,hl,ap,hf⟩:=DataW.trod_struct hu h;obtain⟨av,a1,a2⟩:=AE (P:=P) (G:=qO W) (k:=k) (cs:=vs) (P.cellsOf t) hl fs.toList 0 s1 (Nat.zero_le _) (fun f Z=>by
    obtain⟨i,l,rfl⟩:=List.mem_iff_getElem.1 Z;have O:i<fs.size:=by simpa using l
    have:=hf i _ (by simp[O]:fs[i]? =some fs.toList[i]);rw[List.getElem?_eq_getElem (by omega)]at this;exact Y _ _ _ _ (s2 _ (by simp)) (fun q L=>v q (by simp only[DataW.weights,hu];exact ny (i:=i) (by simp[O]) (by rw[List.getElem?_map,List.getElem?_eq_getElem (by omega)];rfl) L)) this)
   rw[List.drop_zero]at a1;refine⟨av,?_,a1⟩;simp only[dh,hu];exact⟨by rw[a1.1,hl],fun f hf=>by simpa using(a2 f hf).2⟩
  ·cases u
end Go.AW
namespace Go.AW
open Go.Deep Go.ChangeShapes Go.WideShapes Go.ChangeAt
variable {H:Type} {enc:TypeId×Value→H} {P:Program}
def sZ (P:Program) (k:Nat):List TypeId→List AV→Prop
 |[],[]=>True
 |t::ts,a::as=>(∃cs,a=jY P t cs∧dh P k t cs)∧sZ P k ts as
 | _,_ =>False
theorem sZ.inv {P:Program}{k:Nat}{t:TypeId}{ts:List TypeId}{vs:List AV}(h:sZ P k (t::ts) vs):∃cs r,vs=jY P t cs::r∧dh P k t cs∧sZ P k ts r:=by
 cases vs with
 |nil=>exact h.elim
 |cons a r=>obtain⟨⟨cs,rfl,h1⟩,j⟩:=h;exact⟨cs,r,rfl,h1,j⟩
theorem sZ.Sx {P:Program}{k:Nat}{vs:List AV}(h:sZ P k [] vs):vs= []:=by
 cases vs with
 |nil=>rfl
 |cons a r=>exact h.elim
theorem D7 {P:Program}{k:Nat}{t:TypeId}{j:IntKind}{cs:List AV}(ht:P.underlying t=some (.int j)) (h:dh P (k+1) t cs):∃n,jY P t cs= .sc (.int j n)∧(Lit.int j n).wf=true:=by simp only[dh,ht]at h;obtain⟨n,rfl,hw⟩:=h;exact⟨n,by simp[jY,isAgg,ht],hw⟩
theorem arg_str {P:Program}{k:Nat}{t:TypeId}{cs:List AV}(ht:P.underlying t=some .string) (h:dh P (k+1) t cs):∃s:ByteArray,jY P t cs= .sc (.string s)∧s.size≤reachBytes:=by simp only[dh,ht]at h;obtain⟨n,rfl,hw⟩:=h;exact⟨n,by simp[jY,isAgg,ht],hw⟩
theorem IP {P:Program}{k:Nat}{t:TypeId}{cs:List AV}(ht:P.underlying t=some .bool) (h:dh P (k+1) t cs):∃b,jY P t cs= .sc (.bool b):=by simp only[dh,ht]at h;obtain⟨n,rfl⟩:=h;exact⟨n,by simp[jY,isAgg,ht]⟩
theorem jA {P:Program}{k:Nat}{t e:TypeId}{cs:List AV}{α:Type}(f:α→AV) (ht:P.underlying t=some (.slice e)) (hf:∀c,dh P k e c→ ∃x,jY P e c=f x) (h:dh P (k+1) t cs):
 ∃(l:List α) (nl:Bool),jY P t cs= .ah e (l.map f) .aJ nl∧(nl=true→l= [])∧l.length*P.bytesOf e≤reachBytes:=by
 simp only[dh,ht]at h;rcases h with rfl|⟨es,rfl,h1,j⟩
 ·exact⟨[],true,by simp[jY,isAgg,ht],fun _ =>rfl,by simp⟩
 ·have:∃l:List α,l.length=es.length∧es.map (jY P e)=l.map f:=by
   clear h1;induction es with
   |nil=>exact⟨[],rfl,rfl⟩
   |cons c r o=>obtain⟨x,q⟩:=hf c (j c (by simp));obtain⟨l,hl,hm⟩:=o (fun d u=>j d (by simp[u]));exact⟨x::l,by simp[hl],by simp[q,hm]⟩
  obtain⟨l,hl,hm⟩:=this;exact⟨l,false,by simp[jY,isAgg,ht,hm],(fun h=>by cases h),(by rw[hl];exact h1)⟩
theorem yf {W w:World}{k:Nat}{t:TypeId}{v:Value}{cs:List AV}{base:Nat}(o:served P k t=true) (j:Value.okWide P w .any base t v) (h:nI P (qO W) cs v.cells.toList):
 aU P (qO W) (jY P t cs) v:=by
 cases k with
 |zero=>simp[served]at o
 |succ k=>
  unfold jY isAgg;unfold Value.okWide at j;simp only[served]at o;have single:(∀c,v≠ .agg c)→aU P (qO W) (cs.headD .any) v:=by
   intro q;have e:v.cells= #[v]:=by cases v<;>first|rfl|exact absurd rfl (q _)
   rw[e]at h;obtain⟨h1,y⟩:=h
   match cs,h1 with
   |[c],_ =>simpa using(y 0 (by simp)).1
  split at o<;>rename_i hu<;>simp only[hu]at j⊢
  ·exact single fun c l=>by subst l;simp[Cell.okWide,Cell.ok,hu]at j
  ·exact single fun c l=>by subst l;simp[Cell.okWide,Cell.ok,hu]at j
  ·exact single fun c l=>by subst l;simp[Cell.okWide,Cell.ok,hu]at j
  ·exact single fun c l=>by subst l;simp[Cell.okWide,Cell.ok,hu]at j
  ·exact single fun c l=>by subst l;simp[Cell.okWide,Cell.ok,hu]at j
  ·obtain⟨c,rfl,_,_⟩:=j;simp only[Value.cells]at h;have:c=c.toList.toArray:=by simp
   rw[this];simp only[if_true];exact .agg c.toList h.1.symm fun i u=>(h.2 i u).1
  ·cases o
theorem FP {W:World}{base k:Nat} :∀(ts:List TypeId) (vs:List Value) (ds:List (DataW H)) (ps:List MemPlace),(∀t∈ts,served P k t=true)→
 (∀n∈DataW.weightsEach P ts ds,n≤reachBytes)→(∀(j:Nat) t v,ts[j]? =some t→vs[j]? =some v→Value.okWide P W .any base t v)→
 DataW.TrodAll enc P W 0 (fun _ =>true) true ts vs ds ps→
 ∃as,sZ P k ts as∧vs.length=as.length∧ds.length=ts.length∧ ∀i,i<as.length→aU P (qO W) (as.getD i .any) (vs.getD i undef):=by
 intro ts;induction ts with
 |nil=>intro vs ds ps _ _ _ h;obtain⟨rfl,rfl,_⟩:=trodAll_nil h;exact⟨[],trivial,rfl,rfl,fun i o=>by simp at o⟩
 |cons t ts y=>
  intro vs ds ps l hw u h;obtain⟨v,vs,d,ds,p,q,rfl,rfl,rfl,h1,A⟩:=trodAll_cons h;obtain⟨as,O,M,L,J⟩:=y vs ds q (fun t ht=>l t (by simp[ht])) (fun n hn=>hw n (by simp[DataW.weightsEach,hn])) (fun j t v E D=>u (j+1) t v (by simpa using E) (by simpa using D)) A;obtain⟨fuel,h1⟩:=h1;obtain⟨cs,I,S,F⟩:=Hc k t fuel _ _ (l t (by simp)) (fun n hn=>hw n (by simp[DataW.weightsEach,hn])) h1;refine⟨jY P t cs::as,⟨⟨cs,rfl,I⟩,O⟩,by simp[M],by simp[L],fun i o=> ?_⟩;cases i with
  |zero=>simpa using yf (l t (by simp)) (u 0 t v rfl rfl) F
  |succ i=>simpa using J i (by simpa using o)
theorem FO (hl:laidOutB P=true) {W u:World} :∀(ts:List TypeId) (vs:List Value) (ds:List (DataW H)) (ps:List MemPlace),(∀t∈ts,P.readableRec t=true∧t<P.types.size)→
 Below W.heap.size W u→(∀x∈ps,x.block<W.heap.size)→DataW.TrodAll enc P W 0 (fun _ =>true) true ts vs ds ps→DataW.TrodAll enc P u 0 (fun b=>decide (b<W.heap.size)) true ts vs ds ps:=by
 intro ts;induction ts with
 |nil=>intro vs ds ps _ _ _ h;obtain⟨rfl,rfl,rfl⟩:=trodAll_nil h;exact rfl
 |cons t ts y=>intro vs ds ps ht o j h;obtain⟨v,vs,d,ds,p,q,rfl,rfl,rfl,h1,A⟩:=trodAll_cons h;exact⟨p,q,Below.trod hl (ht t (by simp)).1 (ht t (by simp)).2 h1 o (fun x l=>j x (by simp[l])),y _ _ _ (fun t h=>ht t (by simp[h])) o (fun x l=>j x (by simp[l])) A,rfl⟩
def zg (r:AV) (_ :AS):Prop:=r= .sc (.bool true)
theorem Cg {σ:AS}{b:Bool}(h:b=true):Ends P zg σ (.sc (.bool b)):=⟨_,σ,Wk.refl _,AS.le_refl _,by rw[h];rfl⟩
@[simp] theorem Ng {σ:AS}{b:Bool} :Ends P zg σ (.sc (.bool b))↔b=true:=by refine⟨fun⟨j,σ',h1,o,l⟩=> ?_,Cg⟩;have:j= .sc (.bool true):=l;subst this;have:=h1 (qO default) (.bool b) (.sc _);cases this;rfl
theorem yB (k:Nat) {f:FuncId}{fn:Func}{s:ChangeSpec}{ts:List TypeId}{tb:TypeId}(D:laidOutB P=true) (y:fn.params.toList=ts) (o:ts.all (served P k)=true)
 (A:ts.all (fun t=>P.readableRec t&&decide (t<P.types.size))=true) (L:fn.resultTypes= #[tb]) (hb:P.underlying tb=some .bool) (l:s.vars= [])
 (hs:∀ds:List (DataW H),ds.length=ts.length→s.fn H ds= { results:= [.lit (.bool true)],args:=ds })
 (F:∀as,sZ P k ts as→ad P f as M8 zg No)
 {W:World} {base:Nat} {args:Array Value} {ds gs:List (DataW H)} {before:List MemPlace}
 (J:∀(j:Nat) t v,fn.params[j]? =some t→args[j]? =some v→Value.okWide P W .any base t v)
 (V:DataW.Whole enc P fn.params.toList s.vars false W args.toList ds gs before)
 (u:(DataW.weightsEach P (fn.params.toList++s.plain.varTypes P) (ds++gs)).all (· ≤reachBytes)=true):
 Calls P f args W fun e U=> ∃v,e= .returned v∧s.post enc P fn false true false false W args v U:=by
 have I:=V;obtain⟨p,q,T,X,rfl,_,_⟩:=V;rw[l]at X;obtain⟨rfl,rfl⟩:=trodVars_none X;have O:s.plain.varTypes P= []:=by simp[ChangeSpec.plain,DataSpec.varTypes,l]
 rw[O,List.append_nil,List.append_nil]at u;rw[y]at T u;obtain⟨as,a1,a2,a3,a4⟩:=FP (k:=k) ts args.toList ds p (fun t ht=>List.all_eq_true.1 o t ht) (fun n hn=>by simpa using List.all_eq_true.1 u n hn) (fun j t v Y e2=>J j t v (by rw[←y]at Y;simpa using Y) (by simpa using e2)) T;refine((F as a1).run (qO W) W args (H6 P W) ⟨by simpa using a2,fun i hi=>by simpa using a4 i hi⟩).mono fun e U he=> ?_;unfold jC at he;split at he
 ·rename_i v;obtain⟨G',σ',r,g1,g2,g3,rfl⟩:=he;cases g3;have M:Below W.heap.size W U:=by have:=g2.below;rw[g1.B,g1.W0]at this;exact this
  simp only[List.append_nil]at I;have S:∀x∈p,x.block<W.heap.size:=fun x Z=>I.lt x Z;have E:=hs ds a3;refine⟨_,rfl,ds,[],p,[],p,[],I,?_,?_,?_,M.frame _,fun h=>by cases h⟩
  ·rw[List.append_nil,E,L];exact trodAll_mk1 (shut_bool hb _)
  ·rw[List.append_nil,E,y];exact FO D ts _ _ _ (fun t ht=>by simpa using List.all_eq_true.1 A t ht) M S T
  ·rw[l,List.append_nil,E];rfl
 ·obtain⟨_,_,_,_,_,_,_,_,h⟩:=he;exact h.elim
 ·exact he.elim
end Go.AW
namespace Go.AW
variable {P:Program} {n:Nat} {ds:List Deferred} {Q:AQ} {s:Fr} {σ:AS}
theorem Wk.of {a b:AV}(h:a=b):AV.Wk P a b:=h ▸ Wk.refl _
theorem aP.nil:aP P s (gD []):=fun _ _ _ _ => .any _
theorem aP.cons {j:Nat}{v:AV}{r:List (Nat×AV)}(h:AV.Wk P (s j) v) (l:aP P s (gD r)):aP P s (gD ((j,v)::r)):=by
 intro i;simp only[Ae];split
 ·rename_i e;subst e;exact h
 ·exact l i
def aH (P:Program) {α:Type}(m:α→Nat) (I:α→Prop) (c:List (Nat×AV)) (v:α→List (Nat×AV)) (st:α→AS) (a:α) (l:Fr) (σ':AS):Prop:=
 ∃j,m j<m a∧I j∧aP P l (gD (c++v j))∧AS.le (st j) σ'
theorem aH.mk {α:Type}{m:α→Nat}{I:α→Prop}{c:List (Nat×AV)}{v:α→List (Nat×AV)}{st:α→AS}{a:α}{l:Fr}{σ':AS}(j:α)
 (h1:m j<m a) (u:aP P l (gD (c++v j))) (q:AS.le (st j) σ') (o:I j):aH P m I c v st a l σ':=⟨j,h1,o,u,q⟩
theorem aA.aY {α:Type}{body:Code}(l:α) (m:α→Nat) (I:α→Prop) (c:List (Nat×AV)) (v:α→List (Nat×AV)) (st:α→AS)
 (u:aP P s (gD (c++v l))) (o:AS.le (st l) σ) (h0:I l)
 (y:∀a,I a→aA P n ds body (fD (aH P m I c v st a) Q) (gD (c++v a)) (st a)):aA P n ds (.loop body) Q s σ:=by
 refine aA.loop (fun k s σ=> ∃a,k=m a∧I a∧s=gD (c++v a)∧σ=st a) ⟨l,rfl,h0,rfl,rfl⟩ u o ?_;rintro k s σ ⟨a,rfl,ha,rfl,rfl⟩;refine(y a ha).mono fun e F σ' j=> ?_;cases e with
 |normal=>obtain⟨q,h1,E,D,A⟩:=j;exact⟨m q,_,_,h1,D,A,q,rfl,E,rfl,rfl⟩
 |exit i=>exact j
 |ret=>exact j
 |panic x=>exact j
theorem aj.KD {f:FuncId}{first cap args:List AV}{j:AS}{v:AV}{K q:AV→AS→Prop}(h:ad P f (first++args++cap) σ (aq v j) No) (l:K v j):aj P (.fn (.func f) first cap) args σ K q:=
 ⟨_,_,h,fun r σ' ⟨h1,o⟩=>by subst h1;subst o;exact l,fun _ _ h=>h.elim⟩
def nJ (P:Program) (σ:AS) (j:AV) (args:List AV) (g:AV):Prop:= ∀K l:AV→AS→Prop,K g σ→aj P j args σ K l
theorem nJ.use {j:AV}{args:List AV}{g:AV}(h:nJ P σ j args g) {K l:AV→AS→Prop}(o:K g σ):aj P j args σ K l:=h K l o
theorem nJ.fn {f:FuncId}{first cap args:List AV}{g:AV}(h:ad P f (first++args++cap) σ (aq g σ) No):nJ P σ (.fn (.func f) first cap) args g:=fun _ _ j=>aj.KD h j
theorem nJ.func {f:FuncId}{args:List AV}{g:AV}(h:ad P f args σ (aq g σ) No):nJ P σ (.sc (.func (.func f) #[] #[])) args g:=fun _ _ j=>aj.aL h j
theorem L9 (p:Prop):(p=True)∨(p=False):=by by_cases h:p;exact .inl (eq_true h);exact .inr (eq_false h)
theorem ae (a b:Nat):((a:Int)<(b:Int))=(a<b):=by simp only[eq_iff_iff];omega
theorem au (a b:Nat):((a:Int)≤(b:Int))=(a≤b):=by simp only[eq_iff_iff];omega
theorem bh {i:Nat}(h:i<4000000000000000000):IntKind.i64.wrap ((i:Int)+1)=((i+1:Nat):Int):=dv h
end Go.AW
namespace Go.AW
variable {P:Program} {n:Nat} {ds:List Deferred} {Q:AQ} {s:Fr} {σ:AS} {G:Gh} {w:World} {K Pn:AV→AS→Prop}
theorem eU {m:Nat}{l:List AV}(h:∀v∈l,v.cells.length=m):(aR l).length=l.length*m:=(jl l h).1
theorem jm (a b:List AV):aR (a++b)=aR a++aR b:=by simp[aR]
theorem AB {m:Nat}{l:List AV}(h:∀v∈l,v.cells.length=m) {i:Nat}(o:i<l.length):
 aR l=aR (l.take i)++(l[i].cells++aR (l.drop (i+1)))∧(aR (l.take i)).length=i*m:=by
 have h1:l=l.take i++l[i]::l.drop (i+1):=by
  conv=>lhs;rw[←List.take_append_drop i l,List.drop_eq_getElem_cons o]
 refine⟨?_,?_⟩
 ·conv=>lhs;rw[h1]
  rw[jm,fZ]
 ·rw[eU (m:=m) (fun v j=>h v (List.mem_of_mem_take j)),List.length_take,Nat.min_eq_left (by omega)]
theorem Fg {m:Nat}{l:List AV}(h:∀v∈l,v.cells.length=m) {i:Nat}(j:i<l.length) {v:AV}(q:v.cells.length=m):
 (aR l).take (i*m)++(v.cells++(aR l).drop (i*m+m))=aR (l.set i v):=by
 obtain⟨h1,y⟩:=AB h j;have u:=h l[i] (List.getElem_mem j);have o:l.set i v=l.take i++v::l.drop (i+1):=by rw[List.set_eq_take_append_cons_drop,if_pos j]
 rw[o,jm,fZ,h1,List.take_append_of_le_length (by omega),List.take_of_length_le (by omega)];congr 1;rw[←List.append_assoc,List.drop_append_of_le_length (by simp;omega),List.drop_eq_nil_of_le (by simp;omega),List.nil_append]
theorem qQ {l:List AV}{m:Nat}(hm:0<m) (h:∀v∈l,v.cells.length=m) {vs:Nat→Value}{p:Value→Prop}
 (A:∀i j,i<l.length→j<m→aU P G ((l.getD i .any).cells.getD j .any) (vs (i*m+j))∧p (vs (i*m+j))):∀k,k<(aR l).length→aU P G ((aR l).getD k .any) (vs k)∧p (vs k):=by
 intro k q;obtain⟨f1,f2⟩:=jl l h;rw[f1]at q;have k1:k/m<l.length:=Nat.div_lt_of_lt_mul (by rw[Nat.mul_comm];exact q);have o:k%m<m:=Nat.mod_lt _ hm;have y:(k/m)*m+k%m=k:=by rw[Nat.mul_comm];exact Nat.div_add_mod k _
 have h1:=f2 _ _ k1 o;have u:=A _ _ k1 o;rw[y]at h1 u;rw[h1];exact u
theorem Fe {l:List AV}{m:Nat}(h:∀v∈l,v.cells.length=m) {vs:Nat→Value}{p:Value→Prop}
 (u:∀k,k<(aR l).length→aU P G ((aR l).getD k .any) (vs k)∧p (vs k)):∀i j,i<l.length→j<m→aU P G ((l.getD i .any).cells.getD j .any) (vs (i*m+j))∧p (vs (i*m+j)):=by
 intro i j q o;obtain⟨f1,f2⟩:=jl l h;rw[←f2 i j q o];exact u _ (by rw[f1];exact jK q o)
def GV (P:Program) (e:TypeId) (es:List AV) (v:AV) (S τ:AS):Prop:=
 (es= []∧v= .aC∧τ=S)∨ ∃(id cap:Nat) (j:List AV),S id=none∧v= .dg id 0 es.length cap∧τ=S.set id (.cells e (aR (es++j)))∧(∀x∈es++j,x.cells.length=P.cellsOf e)∧es.length+j.length=cap
theorem GV.nil {e:TypeId}{S:AS} :GV P e [] .aC S S:= .inl ⟨rfl,rfl,rfl⟩
theorem sU (hi:Inv P G σ w) {t tx ty e:TypeId}{es xs:List AV}{S:AS}{v x:AV}{vs vx:Value}(he:bC P t=some e) (db:P.cellsOf e≠0) (ap:(az P e).laid=true) (am:(az P e).cells.length=P.cellsOf e)
 (hs:aU P G v vs) (hG:GV P e es v S σ) (o:aU P G x vx) (a3:cy P e tx x=some xs) (L:∀x∈xs,x.cells.length=P.cellsOf e)
 (av:(es.length+xs.length)*P.bytesOf e≤fF (P.bytesOf e)) (c0:es.length+xs.length≤140737488355328) (h:∀v' ay,GV P e (es++xs) v' S ay→K v' ay):
 Out P G K Pn (((do pure (Next.value (←Builtin.append_ #[t,tx] ty #[vs,vx]))):Sem Next).run P w):=by
 have hu:=dA he;obtain⟨it,z,M,hz,b0⟩:=cR ap;have I:it.size=P.cellsOf e:=by simp[Program.cellsOf,M]
 have ac:it.bytes=P.bytesOf e:=by simp[Program.bytesOf,M]
 have b3:aU P G (az P e) z:=by rw[b0];exact fq z
 obtain⟨z1,z2⟩:=fx b3 ap;rw[am]at z1 z2;obtain⟨news,s1,s2⟩:=xV hi ap am o a3;have ai:0<P.cellsOf e:=by omega
 have E:news.length=xs.length*P.cellsOf e:=s2.len;have U:∀old,old<es.length+xs.length→Builtin.nextslicecap (es.length+xs.length) old*it.bytes≤281474976710656:=by intro old ho;rw[ac];exact qq ho av
 have A:∀i,i<news.length→(news.getD i undef).oneCell'=true:=fun i q=>by rw[List.getD_eq_getElem?_getD,List.getElem?_eq_getElem q];exact s1.one _ (List.getElem_mem _)
 have grow:∀(base:Option Addr) (cap:Nat) (olds:List Value),vs= .slice base es.length cap→(∀x∈es,x.cells.length=P.cellsOf e)→olds.length=es.length*P.cellsOf e→cap<es.length+xs.length→
  (Builtin.firstCells it.size es.length (.slice base es.length cap)).run P w.drew= .ok olds.toArray w.drew→
  (∀i j,i<es.length→j<P.cellsOf e→aU P G ((es.getD i .any).cells.getD j .any) (olds.getD (i*P.cellsOf e+j) undef)∧(olds.getD (i*P.cellsOf e+j) undef).oneCell'=true)→Inv P G S w→
  Out P G K Pn (((do pure (Next.value (←Builtin.append_ #[t,tx] ty #[vs,vx]))):Sem Next).run P w):=by
  intro base cap olds b2 cb Y Z hold b4 a7;have D:=rh (P:=P) w t tx ty e it z hu M hz base es.length cap olds hold vx xs.length news s1 Z (by omega) (U cap Z);have ab:=grownCap_ge w (es.length+xs.length) cap e;generalize grownCap w (es.length+xs.length) cap e=J at D ab;have y:∀x∈es++xs++List.replicate (J-(es.length+xs.length)) (az P e),x.cells.length=P.cellsOf e:=by
   intro x o;rcases List.mem_append.1 o with o|o
   ·rcases List.mem_append.1 o with o|o
    ·exact cb x o
    ·exact L x o
   ·rw[(List.mem_replicate.1 o).2];exact am
  have af:(olds++news).toArray++Builtin.zeroCells z.cells (J-(es.length+xs.length))=(olds++news++(Builtin.zeroCells z.cells (J-(es.length+xs.length))).toList).toArray:=by apply Array.ext';simp
  have b1:((Builtin.zeroCells z.cells (J-(es.length+xs.length))).toList).length=(J-(es.length+xs.length))*P.cellsOf e:=by simp[Builtin.zeroCells,z1]
  obtain⟨G',g1,g2,g3⟩:=a7.drew.jr e ((olds++news).toArray++Builtin.zeroCells z.cells (J-(es.length+xs.length))) (aR (es++xs++List.replicate (J-(es.length+xs.length)) (az P e)))
   (by rw[af,eU y];simp[Y,E,b1,Nat.add_mul]) (by
    refine qQ (P:=P) (G:=G) ai y (vs:=fun k=>((olds++news).toArray++Builtin.zeroCells z.cells (J-(es.length+xs.length))).getD k undef) (p:=fun v=>v.oneCell'=true) ?_;intro i j q F;have hg:∀k,((olds++news).toArray++Builtin.zeroCells z.cells (J-(es.length+xs.length))).getD k undef=(olds++news++(Builtin.zeroCells z.cells (J-(es.length+xs.length))).toList).getD k undef:=by intro k;rw[af];simp[List.getD_eq_getElem?_getD]
    simp only[hg];simp only[List.length_append,List.length_replicate]at q;by_cases c1:i<es.length
    ·have e1:=jK c1 F;rw[aQ _ _ _ (by simp;omega),aQ _ _ _ c1,aQ _ _ _ (by simp;omega),aQ _ _ _ (by omega)];exact b4 i j c1 F
    ·by_cases c2:i<es.length+xs.length
     ·have e1:=jK (n:=es.length+xs.length) c2 F;have e2:=yE (sz:=P.cellsOf e) (j:=j) (show es.length≤i by omega);rw[Nat.add_mul]at e1;have e4:es.length*P.cellsOf e≤i*P.cellsOf e:=Nat.mul_le_mul_right _ (by omega);have e3:i*P.cellsOf e+j-olds.length=(i-es.length)*P.cellsOf e+j:=by rw[Y,Nat.sub_mul];omega
      have a5:=s2.rep (i-es.length) j (by omega) F;have a6:=A ((i-es.length)*P.cellsOf e+j) (by rw[E];exact jK (by omega) F);rw[aQ _ _ _ (by simp;omega),bk _ _ _ (by omega),aQ _ _ _ (by simp;omega),bk _ _ _ (by omega),e3];exact⟨a5,a6⟩
     ·have e2:=yE (sz:=P.cellsOf e) (j:=j) (show es.length+xs.length≤i by omega);rw[Nat.add_mul]at e2;have e4:(es.length+xs.length)*P.cellsOf e≤i*P.cellsOf e:=Nat.mul_le_mul_right _ (by omega);rw[Nat.add_mul]at e4;have e3:i*P.cellsOf e+j-(olds++news).length=(i-(es.length+xs.length))*P.cellsOf e+j:=by rw[List.length_append,Y,E,Nat.sub_mul,Nat.add_mul];omega
      rw[bk _ _ _ (by simp;omega),bk _ _ _ (by simp[Y,E];omega),e3];rw[lX z1 (J-(es.length+xs.length)) (i-(es.length+xs.length)) j (by omega) F];have ca:(List.replicate (J-(es.length+xs.length)) (az P e)).getD (i-(es++xs).length) .any=az P e:=by rw[List.getD_eq_getElem?_getD,List.getElem?_replicate,if_pos (by simp;omega)];rfl
      rw[ca];exact z2 j F)
  rw[b2];refine Out.value D g1 g3 (.dg g2) (h _ _ (.inr ⟨G.top,J,List.replicate (J-(es.length+xs.length)) (az P e),a7.fresh,by simp,rfl,y,by simp;omega⟩))
 rcases hG with⟨rfl,rfl,rfl⟩|⟨id,cap,l,h0,rfl,rfl,y,a9⟩
 ·cases hs;by_cases a2:xs= []
  ·subst a2;have b5:news= []:=by simpa using E
   subst b5;exact Out.value (vN hu M s1) (.refl G) hi .aC (h _ _ GV.nil)
  ·have:0<xs.length:=List.length_pos_iff.2 a2;exact grow none 0 [] rfl (by simp) (by simp) (by simp;omega) (by simp[Builtin.firstCells]) (fun i j q=>by simp at q) hi
 ·cases hs with
  |dg hb=>
   rename_i b;obtain⟨b',cur,k1,k2,k3,k4⟩:=hi.cells id e (aR (es++l)) (by simp);rw[hb]at k1;obtain rfl:=Option.some.inj k1;have a8:=eU y;have O:∀x∈es,x.cells.length=P.cellsOf e:=fun x o=>y x (by simp[o]);have X:=Fe (P:=P) (G:=G) y (vs:=fun k=>cur.getD k undef) (p:=fun v=>v.oneCell'=true) k4;by_cases al:es.length+xs.length≤cap
   ·have T:cur.size=cap*P.cellsOf e:=by rw[k3,a8,List.length_append,a9]
    have ak:(es.length+xs.length)*P.cellsOf e≤cap*P.cellsOf e:=Nat.mul_le_mul_right _ al;rw[Nat.add_mul]at ak;have D:=vO (P:=P) w t tx ty e it hu M b 0 es.length cap vx xs.length news s1 al
     (fun j F=>by
      rw[I];simp only[World.cell?,k2];have:es.length*P.cellsOf e+j<cur.size:=by rw[T];omega
      simp[this]) (fun j F=>by
      simp only[World.frozen?,k2];simp)
    rw[I,Nat.zero_add]at D;have ar:=hi.store (i:=id) (ty:=e) (cs:=aR (es++l)) (by simp) (es.length*P.cellsOf e) news (aR xs) (by rw[E,eU L]) (by rw[E,←k3,T];exact ak)
     (qQ (P:=P) (G:=G) ai L (vs:=fun k=>news.getD k undef) (p:=fun v=>v.oneCell'=true) (fun i j q F=>⟨s2.rep i j q F,A _ (by rw[E];exact jK q F)⟩)) b hb
    have cc:(aR (es++l)).take (es.length*P.cellsOf e)++aR xs++(aR (es++l)).drop (es.length*P.cellsOf e+(aR xs).length)=aR (es++xs++l.drop xs.length):=by
     have b6:=eU O;have a4:∀x∈l,x.cells.length=P.cellsOf e:=fun x o=>y x (by simp[o]);have hd:(aR l).drop (xs.length*P.cellsOf e)=aR (l.drop xs.length):=by
      have e1:l=l.take xs.length++l.drop xs.length:=(List.take_append_drop _ _).symm;have e2:(aR (l.take xs.length)).length=xs.length*P.cellsOf e:=by rw[eU (m:=P.cellsOf e) (fun x o=>a4 x (List.mem_of_mem_take o)),List.length_take,Nat.min_eq_left (by omega)]
      conv=>lhs;rw[e1]
      rw[jm,←e2,List.drop_left]
     rw[jm es l,jm (es++xs),jm es xs,←b6,List.take_left,←List.drop_drop,List.drop_left,eU L,hd]
    rw[cc]at ar;rw[AS.set_set]at ar;refine Out.value D (.refl G) ar (.dg hb) (h _ _ (.inr ⟨id,cap,l.drop xs.length,h0,by simp,rfl,fun x o=> ?_,by simp;omega⟩));rcases List.mem_append.1 o with o|o
    ·rcases List.mem_append.1 o with o|o
     ·exact O x o
     ·exact L x o
    ·exact y x (by simp[List.mem_of_mem_drop o])
   ·have c3:es.length*P.cellsOf e≤cur.size:=by rw[k3,a8];exact Nat.mul_le_mul_right _ (by simp)
    refine grow (some ⟨b,0,none⟩) cap (cur.toList.take (es.length*P.cellsOf e)) rfl O (by simp;omega) (by omega) ?_ ?_ (hi.weaken (aw h0 (AS.le_refl _)))
    ·refine run_firstCells_some (P:=P) w.drew it.size es.length ⟨b,0,none⟩ es.length cap _ (by rw[I];simp;omega) (fun j u V=> ?_);have F:j<es.length*P.cellsOf e:=by
      rcases Nat.lt_or_ge j (es.length*P.cellsOf e)with h1|h1
      ·exact h1
      ·rw[List.getElem?_eq_none (by simp;omega)]at V;cases V
     rw[List.getElem?_take_of_lt F]at V;rw[Addr.add_lit,Nat.zero_add];show w.cell? ⟨b,j,none⟩=some u;simp only[World.cell?,k2];simpa using V
    ·intro i j q F;have hr:=X i j (by simp;omega) F;have Z:=jK q F;rw[aQ _ _ _ q]at hr;have eg:(cur.toList.take (es.length*P.cellsOf e)).getD (i*P.cellsOf e+j) undef=cur.getD (i*P.cellsOf e+j) undef:=by rw[List.getD_eq_getElem?_getD,List.getElem?_take_of_lt Z];simp
     rw[eg];exact hr
theorem iD.lC {d:Nat}{t q:TypeId}{a b:Operand}{ty:TypeId}{pos:String}{M:Array Edge}{g:Option (Nat×Bool)}{K:Fr→AS→Prop}(J:d<n) (e:TypeId) (es xs:List AV) (S:AS) (he:bC P t=some e) (D:P.cellsOf e≠0)
 (v:(az P e).laid=true) (u:(az P e).cells.length=P.cellsOf e) (I:GV P e es (ev s a) S σ) (F:cy P e q (ev s b)=some xs) (y:∀x∈xs,x.cells.length=P.cellsOf e)
 (j:(es.length+xs.length)*P.bytesOf e≤fF (P.bytesOf e)) (o:es.length+xs.length≤140737488355328)
 (h:∀E l,GV P e (es++xs) E S l→K (s.put (some d) E) l):iD P n ds Q ⟨some d,.call ⟨.builtin .append,#[a,b],#[t,q]⟩,ty,pos,M,g⟩ s σ K:=
 iD.lM J fun G act w A=>by
  show Out P G _ _ ((do let d ←resolve act.eval ⟨.builtin .append,#[a,b],#[t,q]⟩ ty;invoke d.target d.args:Sem Next).run P w);simp only[resolve,Sem.run_bind,Sem.run_pure,Result.andThen_ok,invoke];have L:(#[a,b]:Array Operand).map act.eval= #[act.eval a,act.eval b]:=by simp
  rw[L];exact sU (ty:=ty) A.inv he D v u (A.ev a) I (A.ev b) F y j o h
theorem AS.eR {σ:AS}{i:Nat}{x:cL}(h:σ i=some x):σ.set i x=σ:=AS.uB _ _ _ h
theorem Inv.yJ {id:Nat}{e:TypeId}{u:List AV}(A:Inv P G (σ.set id (.cells e (aR u))) w) (h0:σ id=none) (hl:∀v∈u,v.cells.length=P.cellsOf e):
 ∃G',G.Le G'∧Inv P G' σ w∧ ∀o m cap y,o+m≤u.length→m≤cap→aU P G (.dg id (o*P.cellsOf e) m cap) y→aU P G' (.ah e ((u.drop o).take m) .aJ false) y:=by
 obtain⟨b,vs,k1,k2,k3,k4⟩:=A.cells id e (aR u) (by simp[AS.set]);obtain⟨f1,f2⟩:=jl (m:=P.cellsOf e) u hl;have F:∀o,G.mem b o=none:=(A.dj id b k1).2.2 e (aR u) (by simp[AS.set]);have hle:G.Le (G.jk b 0 (aR u).length (fun k=>vs.getD k undef)):=by
  refine⟨rfl,rfl,fun b' o v em=> ?_,fun _ _ e=>e,fun t r e=>⟨r,e,rfl,.inl rfl⟩⟩;rw[Gh.eT]
  ·exact em
  ·rintro⟨rfl,_⟩;rw[F o]at em;cases em
 have old:∀j x,σ j=some x→j≠id∧(σ.set id (.cells e (aR u))) j=some x:=by
  intro j x D;have:j≠id:=by intro e';subst e';rw[h0]at D;cases D
  exact⟨this,by simp[AS.set,this,D]⟩
 refine⟨_,hle,⟨A.below,A.base,?_,A.top,?_,A.eZ,?_,?_,?_,?_,?_⟩,?_⟩
 ·intro b' o v em;by_cases hc:b'=b∧0≤o∧o<0+(aR u).length
  ·obtain⟨rfl,h3,h4⟩:=hc;rw[Gh.ka h3 h4]at em;obtain rfl:=Option.some.inj em;have ho:o<vs.size:=by omega
   refine⟨?_,(k4 o (by omega)).2⟩;simp[World.cell?,k2,ho]
  ·rw[Gh.eT hc]at em;exact A.mem b' o v em
 ·intro j c D;have:=A.dj j c D;refine⟨this.1,this.2.1,fun ty cs' hn o=> ?_⟩;obtain⟨Z,M⟩:=old j _ hn;have ak:c≠b:=fun e'=>Z (A.eZ j id b (e' ▸ D) k1);rw[Gh.eT (fun hh=>ak hh.1)];exact this.2.2 ty cs' M o
 ·intro j ty cs' D;obtain⟨c,T,L,J,I,S⟩:=A.cells j ty cs' (old j _ D).2;exact⟨c,T,L,J,I,fun k O=>⟨(S k O).1.mono hle,(S k O).2⟩⟩
 ·intro j al D;obtain⟨c,ms,cl,L,J,I,S⟩:=A.maps j al (old j _ D).2;refine⟨c,ms,cl,L,J,I,fun k O=> ?_⟩;obtain⟨q,X,V,U⟩:=S k O;exact⟨q,X,V.mono hle,U.mono hle⟩
 ·intro j s' p D;exact A.dQ j s' p (old j _ D).2
 ·intro j m D;exact A.tok j m (old j _ D).2
 ·intro t r et;obtain⟨L,J,I⟩:=A.own t r et;refine⟨L,J,fun c o ea k af ac=> ?_⟩;obtain⟨X,V,U,q4,q5,q6,q7⟩:=I c o ea k af ac;refine⟨X,V,?_,q4,q5,q6,q7⟩;rw[Gh.eT (fun hh=>q4 id (by rw[k1,hh.1]))];exact U
 ·intro o m cap y Y ab hy;cases hy with
  |dg hb=>
   rw[k1]at hb;obtain rfl:=Option.some.inj hb;have hlen:((u.drop o).take m).length=m:=by simp;omega
   have E:∀i,i<m→((u.drop o).take m).getD i .any=u.getD (o+i) .any:=fun i l=>by rw[List.getD_eq_getElem?_getD,List.getElem?_take_of_lt l,List.getElem?_drop,List.getD_eq_getElem?_getD]
   refine aU.te (fun k=>vs.getD (o*P.cellsOf e+k) undef) hlen (fun i l=> ?_) (fun k O=> ?_) (fun i j l hj=> ?_) ab trivial
   ·rw[hlen]at l;rw[E i l,List.getD_eq_getElem?_getD,List.getElem?_eq_getElem (by omega)];exact hl _ (List.getElem_mem _)
   ·have h1:(o+m)*P.cellsOf e≤u.length*P.cellsOf e:=Nat.mul_le_mul_right _ Y;rw[Nat.add_mul]at h1;rw[Gh.ka (by omega) (by omega)];simp
   ·rw[hlen]at l;have h1:(o+i)*P.cellsOf e+j<u.length*P.cellsOf e:=jK (by omega) hj;have:=(k4 ((o+i)*P.cellsOf e+j) (by rw[f1];exact h1)).1;rw[f2 (o+i) j (by omega) hj,Nat.add_mul,Nat.add_assoc]at this;rw[E i l];exact this.mono hle
theorem aA.yJ {c:Code}(i:Nat) {e:TypeId}{es:List AV}{S:AS}(E:GV P e es (s i) S σ) (h:∀nl,(nl=true→es= [])→aA P n ds c Q (s.put (some i) (.ah e es .aJ nl)) S):aA P n ds c Q s σ:=by
 intro G0 G a w h1 l;rcases E with⟨rfl,q,rfl⟩|⟨id,cap,D,h0,q,rfl,y,A⟩
 ·refine h true (fun _ =>rfl) G0 G a w h1 ⟨l.inv,l.size,l.ds,fun j=> ?_⟩;by_cases o:j=i
  ·subst o;have:=l.rep j;rw[q]at this;simp only[k8,if_true];generalize a.tmps.getD j undef=v at this⊢;cases this;exact .jw trivial
  ·simp only[k8,o,if_false];exact l.rep j
 ·obtain⟨G',hle,u,conv⟩:=l.inv.yJ h0 y;refine h false (fun F=>by cases F) G0 G' a w (h1.trans hle) ⟨u,l.size,l.ds,fun j=> ?_⟩;by_cases o:j=i
  ·subst o;have:=l.rep j;rw[q]at this;simp only[k8,if_true];have:=conv 0 es.length cap _ (by simp) (by omega) (by rw[Nat.zero_mul];exact this)
   simpa using this
  ·simp only[k8,o,if_false];exact(l.rep j).mono hle
end Go.AW
namespace Go.AW
variable {P:Program} {n:Nat} {ds:List Deferred} {Q:AQ} {s:Fr} {σ:AS} {G:Gh} {w:World} {K Pn:AV→AS→Prop}
theorem A3 (hi:Inv P G σ w) {t tx ty e:TypeId}{xs:List AV}{nl:Bool}{x:AV}{vs vx:Value}(he:bC P t=some e) (a9:P.cellsOf e≠0) (I:(az P e).laid=true) (F:(az P e).cells.length=P.cellsOf e)
 (hs:aU P G (.ah e [] .full nl) vs) (J:aU P G x vx) (V:cy P e tx x=some xs) (am:∀x∈xs,x.cells.length=P.cellsOf e) (h0:0<xs.length)
 (L:xs.length*P.bytesOf e≤fF (P.bytesOf e)) (a4:xs.length≤140737488355328) (h:∀v' U,GV P e xs v' σ U→K v' U):
 Out P G K Pn (((do pure (Next.value (←Builtin.append_ #[t,tx] ty #[vs,vx]))):Sem Next).run P w):=by
 have ap:∃base,vs= .slice base 0 0:=by
  cases hs with
  |jw ho=>exact⟨none,rfl⟩
  |ah a5 hl hm hr hc ho=>obtain⟨a,ha⟩:=ho;exact⟨a,ha⟩
 obtain⟨base,rfl⟩:=ap;have hu:=dA he;obtain⟨it,z,O,hz,ak⟩:=cR I;have av:it.size=P.cellsOf e:=by simp[Program.cellsOf,O]
 have D:it.bytes=P.bytesOf e:=by simp[Program.bytesOf,O]
 have ax:aU P G (az P e) z:=by rw[ak];exact fq z
 obtain⟨z1,z2⟩:=fx ax I;rw[F]at z1 z2;obtain⟨news,s1,s2⟩:=xV hi I F J V;have Y:0<P.cellsOf e:=by omega
 have M:news.length=xs.length*P.cellsOf e:=s2.len;have q:∀i,i<news.length→(news.getD i undef).oneCell'=true:=fun i S=>by rw[List.getD_eq_getElem?_getD,List.getElem?_eq_getElem S];exact s1.one _ (List.getElem_mem _)
 have A:Builtin.nextslicecap (0+xs.length) 0*it.bytes≤281474976710656:=by rw[D,Nat.zero_add];exact qq h0 L
 have y:=rh (P:=P) w t tx ty e it z hu O hz base 0 0 [] (by
  cases base with
  |none=>simp[Builtin.firstCells]
  |some a=>exact run_firstCells_some (P:=P) w.drew it.size 0 a 0 0 [] (by simp) (fun j u ar=>by simp at ar)) vx xs.length news s1 (by omega) (by omega) A
 have o:=grownCap_ge w (0+xs.length) 0 e;generalize grownCap w (0+xs.length) 0 e=l at y o;simp only[Nat.zero_add]at y o;have T:∀x∈xs++List.replicate (l-xs.length) (az P e),x.cells.length=P.cellsOf e:=by
  intro x J;rcases List.mem_append.1 J with J|J
  ·exact am x J
  ·rw[(List.mem_replicate.1 J).2];exact F
 have E:([]++news).toArray++Builtin.zeroCells z.cells (l-xs.length)=(news++(Builtin.zeroCells z.cells (l-xs.length)).toList).toArray:=by apply Array.ext';simp
 have al:((Builtin.zeroCells z.cells (l-xs.length)).toList).length=(l-xs.length)*P.cellsOf e:=by simp[Builtin.zeroCells,z1]
 obtain⟨G',g1,g2,g3⟩:=hi.drew.jr e (([]++news).toArray++Builtin.zeroCells z.cells (l-xs.length)) (aR (xs++List.replicate (l-xs.length) (az P e)))
  (by rw[E,eU T];simp only[List.size_toArray,List.length_append,M,al,List.length_replicate,Nat.add_mul]) (by
   refine qQ (P:=P) (G:=G) Y T (vs:=fun k=>(([]++news).toArray++Builtin.zeroCells z.cells (l-xs.length)).getD k undef) (p:=fun v=>v.oneCell'=true) ?_;intro i j S hj;have hg:∀k,(([]++news).toArray++Builtin.zeroCells z.cells (l-xs.length)).getD k undef=(news++(Builtin.zeroCells z.cells (l-xs.length)).toList).getD k undef:=by intro k;rw[E];simp[List.getD_eq_getElem?_getD]
   simp only[hg];simp only[List.length_append,List.length_replicate]at S;by_cases c2:i<xs.length
   ·have e1:=jK (n:=xs.length) c2 hj;have X:=s2.rep i j (by omega) hj;have Z:=q (i*P.cellsOf e+j) (by rw[M];exact jK (by omega) hj);rw[aQ _ _ _ (by omega),aQ _ _ _ (by omega)];exact⟨X,Z⟩
   ·have e2:=yE (sz:=P.cellsOf e) (j:=j) (show xs.length≤i by omega);have e4:xs.length*P.cellsOf e≤i*P.cellsOf e:=Nat.mul_le_mul_right _ (by omega);have e3:i*P.cellsOf e+j-news.length=(i-xs.length)*P.cellsOf e+j:=by rw[M,Nat.sub_mul];omega
    rw[bk _ _ _ (by omega),bk _ _ _ (by omega),e3];rw[lX z1 (l-xs.length) (i-xs.length) j (by omega) hj];have a0:(List.replicate (l-xs.length) (az P e)).getD (i-xs.length) .any=az P e:=by rw[List.getD_eq_getElem?_getD,List.getElem?_replicate,if_pos (by omega)];rfl
    rw[a0];exact z2 j hj)
 refine Out.value y g1 (by simpa using g3) (.dg g2) (h _ _ (.inr ⟨G.top,l,List.replicate (l-xs.length) (az P e),hi.fresh,rfl,rfl,T,by simp;omega⟩))
theorem iD.K5 {d:Nat}{t q:TypeId}{a b:Operand}{ty:TypeId}{pos:String}{M:Array Edge}{g:Option (Nat×Bool)}{K:Fr→AS→Prop}(J:d<n) (e:TypeId) (xs:List AV) {nl:Bool}(he:bC P t=some e) (D:P.cellsOf e≠0)
 (v:(az P e).laid=true) (u:(az P e).cells.length=P.cellsOf e) (I:ev s a= .ah e [] .full nl) (F:cy P e q (ev s b)=some xs) (y:∀x∈xs,x.cells.length=P.cellsOf e) (h0:0<xs.length)
 (j:xs.length*P.bytesOf e≤fF (P.bytesOf e)) (o:xs.length≤140737488355328)
 (h:∀E l,GV P e xs E σ l→K (s.put (some d) E) l):iD P n ds Q ⟨some d,.call ⟨.builtin .append,#[a,b],#[t,q]⟩,ty,pos,M,g⟩ s σ K:=
 iD.lM J fun G act w A=>by
  show Out P G _ _ ((do let d ←resolve act.eval ⟨.builtin .append,#[a,b],#[t,q]⟩ ty;invoke d.target d.args:Sem Next).run P w);simp only[resolve,Sem.run_bind,Sem.run_pure,Result.andThen_ok,invoke];have L:(#[a,b]:Array Operand).map act.eval= #[act.eval a,act.eval b]:=by simp
  rw[L];exact A3 (ty:=ty) A.inv he D v u (I ▸ A.ev a) (A.ev b) F y h0 j o h
theorem FG {t m:Nat}{ps:List (Nat×AV)}{K:AV→AS→Prop}{p:Prop}(h:bF P σ t m ps K):bF P σ t m ps (fun v σ'=>(p→AS.le σ σ')∧K v σ'):=by
 unfold bF at h⊢;split at h
 ·exact⟨h.1,h.2.1,h.2.2.1,h.2.2.2.1,h.2.2.2.2.1,h.2.2.2.2.2.1,fun id j=>⟨fun _ =>AS.ao (AS.le_refl _) j,h.2.2.2.2.2.2 id j⟩⟩
 ·exact h.elim
theorem pG.kI {d t m:Nat}{ps:Array (Nat×Operand)}{ty:TypeId}{pos:String}{j:Array Edge}{K:Fr→AS→Prop}(u:d<n)
 (h:bF P σ t m (ps.toList.map fun p=>(p.1,ev s p.2)) (fun v σ'=>K (s.put (some d) v) σ')):pG P n ⟨some d,.buildSlice t m ps,ty,pos,j,none⟩ s σ K Q:=by
 refine⟨u,rfl,fun G ρ w q l=> ?_⟩;have e:(ps.toList.map fun p=>(p.1,ev s p.2))=ps.toList.map fun p=>(p.1,ev (HR ⟨some d,.buildSlice t m ps,ty,pos,j,none⟩ s) p.2):=by refine List.map_congr_left fun p o=> ?_;rw[Cu];simp[Op.operands];exact⟨p.1,by simpa using o⟩
 rw[e]at h;refine js q l (FG h)
theorem pG.lC {d:Nat}{t v:TypeId}{a b:Operand}{ty:TypeId}{pos:String}{U:Array Edge}{K:Fr→AS→Prop}(M:d<n) (e:TypeId) (es xs:List AV) (S:AS) (he:bC P t=some e) (E:P.cellsOf e≠0)
 (A:(az P e).laid=true) (y:(az P e).cells.length=P.cellsOf e) (J:GV P e es (ev s a) S σ) (I:cy P e v (ev s b)=some xs) (D:∀x∈xs,x.cells.length=P.cellsOf e)
 (l:(es.length+xs.length)*P.bytesOf e≤fF (P.bytesOf e)) (o:es.length+xs.length≤140737488355328)
 (h:∀q j,GV P e (es++xs) q S j→K (s.put (some d) q) j):pG P n ⟨some d,.call ⟨.builtin .append,#[a,b],#[t,v]⟩,ty,pos,U,none⟩ s σ K Q:=by
 refine⟨M,rfl,fun G ρ w L u=> ?_⟩;have ha:=u a;have F:=u b;rw[Cu _ _ _ (by simp[Op.operands,Call.operands])]at ha;rw[Cu _ _ _ (by simp[Op.operands,Call.operands])]at F;show Out P G _ _ ((do let d ←resolve ρ ⟨.builtin .append,#[a,b],#[t,v]⟩ ty;invoke d.target d.args:Sem Next).run P w);simp only[resolve,Sem.run_bind,Sem.run_pure,Result.andThen_ok,invoke];have T:(#[a,b]:Array Operand).map ρ= #[ρ a,ρ b]:=by simp
 rw[T];exact sU (ty:=ty) L he E A y ha J F I D l o fun q j O=>⟨fun u=>by simp[qM,gB]at u,h q j O⟩
end Go.AW
namespace Go.AW
variable {P:Program} {n:Nat} {ds:List Deferred} {Q:AQ} {s:Fr} {σ:AS}
structure I4 (p:Prop):Prop where
 out:p
def cu (P:Program) (L:List (Nat×dW)) (S:List Nat):Prop:=P.follows .mixedOrders=true
def L0 (id:Nat):List (Nat×dW)→Option dW
 |[]=>none
 |(k,t)::r=>if k=id then some t else L0 id r
theorem aA.Is {L:List (Nat×dW)}{S:List Nat}(d:cu P L S) {id:Nat}{l:List Oper}{t:dW}(ht:L0 id L=some t) (u:S.contains id=false)
 (j:dy l.toArray false true (Array.replicate l.length false) t=true) (o:decide (t.depth≤l.length)=true)
 (q:cr Q) (h:bH P n l.toArray false Q t s σ):aA P n ds (.region id l.toArray true) Q s σ:=aA.nD d t j o q h
theorem aA.yh {L:List (Nat×dW)}{S:List Nat}(d:cu P L S) {id:Nat}{l:List Oper}(j:S.contains id=false) (h:jq P n l.toArray Q l s σ):aA P n ds (.region id l.toArray false) Q s σ:=aA.region h
theorem aj.SA {f:FuncId}{args:List AV}{σ j:AS}{v:AV}{K l:AV→AS→Prop}(h:ad P f args σ No (aq v j)) (o:l v j):aj P (.sc (.func (.func f) #[] #[])) args σ K l:=
 .of h (fun _ _ h=>h.elim) (fun r σ' h=>by obtain⟨rfl,rfl⟩:=h;exact o)
theorem aj.Mv {f:FuncId}{args:List AV}{σ:AS}{j K l:AV→AS→Prop}(h:ad P f args σ No j) (o:∀r σ',j r σ'→l r σ'):aj P (.sc (.func (.func f) #[] #[])) args σ K l:= .of h (fun _ _ h=>h.elim) o
theorem j2 {l j:Prop}(h0:l) (h1:j):l∧j:=⟨h0,h1⟩
theorem j3 {o l j:Prop}(h0:o) (h1:l) (q:j):o∧l∧j:=⟨h0,h1,q⟩
theorem j4 {o l j p3:Prop}(h0:o) (h1:l) (u:j) (q:p3):o∧l∧j∧p3:=⟨h0,h1,u,q⟩
theorem j5 {q o l p3 j:Prop}(h0:q) (h1:o) (y:l) (v:p3) (u:j):q∧o∧l∧p3∧j:=⟨h0,h1,y,v,u⟩
theorem j6 {q o l p3 j p5:Prop}(h0:q) (h1:o) (A:l) (y:p3) (v:j) (u:p5):q∧o∧l∧p3∧j∧p5:=⟨h0,h1,A,y,v,u⟩
theorem j7 {u q o p3 l p5 j:Prop}(h0:u) (h1:q) (E:o) (D:p3) (A:l) (y:p5) (v:j):u∧q∧o∧p3∧l∧p5∧j:=⟨h0,h1,E,D,A,y,v⟩
theorem j8 {v u q p3 o p5 l j:Prop}(h0:v) (h1:u) (I:q) (F:p3) (E:o) (D:p5) (A:l) (y:j):v∧u∧q∧p3∧o∧p5∧l∧j:=⟨h0,h1,I,F,E,D,A,y⟩
theorem pk {C F G:Prop}(c:C) (f:F) (h:C→F→G:=by
 intro c f;first
  |exact c .. |(apply c<;>simp-implicitDefEqProofs [f];done)
  |exact c.1 .. |(apply c.1<;>simp-implicitDefEqProofs [f];done)
  |exact c.2 .. |(apply c.2<;>simp-implicitDefEqProofs [f];done)
  |exact c.2.1 .. |(apply c.2.1<;>simp-implicitDefEqProofs [f];done)
  |exact c.2.2 .. |(apply c.2.2<;>simp-implicitDefEqProofs [f];done)
  |exact c.2.2.1 .. |(apply c.2.2.1<;>simp-implicitDefEqProofs [f];done)
  |exact c.2.2.2 .. |(apply c.2.2.2<;>simp-implicitDefEqProofs [f];done)
  |exact c.2.2.2.1 .. |(apply c.2.2.2.1<;>simp-implicitDefEqProofs [f];done)
  |exact c.2.2.2.2 .. |(apply c.2.2.2.2<;>simp-implicitDefEqProofs [f];done)
  |exact c.2.2.2.2.1 .. |(apply c.2.2.2.2.1<;>simp-implicitDefEqProofs [f];done)
  |exact c.2.2.2.2.2 .. |(apply c.2.2.2.2.2<;>simp-implicitDefEqProofs [f];done)
  |exact c.2.2.2.2.2.1 .. |(apply c.2.2.2.2.2.1<;>simp-implicitDefEqProofs [f];done)
  |exact c.2.2.2.2.2.2 .. |(apply c.2.2.2.2.2.2<;>simp-implicitDefEqProofs [f];done)):G:=h c f
theorem gE {L:List (Nat×dW)}{F j C G:Prop}[y:Sy F j] (d:∀S,cu P L S) (f:F) (c:C) (S:List Nat:= []) (h:cu P L S→F∧j→C→G:=by
 intro d f c;repeat (first
  |(with_reducible first|apply aA.seq|apply aA.block|refine And.intro (by first|omega|assumption|decide) ?_)
  |((first
     |(with_reducible apply aA.fork)
     |((with_reducible apply aA.yh d);rfl)
     |(with_reducible first|show dd _ _ _ |show bT _ _ _ _ _ _ _ _ _)
     |((with_reducible apply aA.Is d);rfl;rfl;kernel_rfl;kernel_rfl;(repeat (with_reducible first|apply cr.then|apply cr.block|apply cr.body|apply cr.no)))
     |((with_reducible apply aj.id);first|refine aj.aL (pk c f) ?_ |refine aj.py (pk c f) ?_ |refine aj.SA (pk c f) ?_ |refine aj.Mv (pk c f) ?_)
     |((with_reducible apply aM.id);refine aM.aL (fun _ =>pk c f) ?_)
     );simp-implicitDefEqProofs [f])
  |((with_reducible first|apply aA.ret|apply aA.skip|apply aA.exit);try simp-implicitDefEqProofs [f]))
 all_goals fail):G:=h (d S) ⟨f,y.out f⟩ c
theorem gO {L:List (Nat×dW)}{F j C G R:Prop}[y:Sy F j] (d:∀S,cu P L S) (f:F) (c:C) (k:R) (S:List Nat:= []) (h:cu P L S→F∧j→C→I4 R→G:=by
 intro d f c k;repeat (first
  |(with_reducible first|apply aA.seq|apply aA.block|refine And.intro (by first|omega|assumption|decide) ?_)
  |((first
     |(with_reducible apply aA.fork)
     |((with_reducible apply aA.yh d);rfl)
     |(with_reducible first|show dd _ _ _ |show bT _ _ _ _ _ _ _ _ _)
     |((with_reducible apply aA.Is d);rfl;rfl;kernel_rfl;kernel_rfl;(repeat (with_reducible first|apply cr.then|apply cr.block|apply cr.body|apply cr.no)))
     |((with_reducible apply aj.id);first|refine aj.aL (pk c f) ?_ |refine aj.py (pk c f) ?_ |refine aj.SA (pk c f) ?_ |refine aj.Mv (pk c f) ?_)
     |((with_reducible apply aM.id);refine aM.aL (fun _ =>pk c f) ?_)
     );simp-implicitDefEqProofs [f])
  |((with_reducible first|apply aA.ret|apply aA.skip|apply aA.exit);try simp-implicitDefEqProofs [f]))
 exact k.out):G:=h (d S) ⟨f,y.out f⟩ c ⟨k⟩
theorem Od {L:List (Nat×dW)}{S:List Nat}{W j F l C G R:Prop}[z:Sy W j] [y:Sy F l] (d:cu P L S) (w:W) (f:F) (c:C) (h:cu P L S→W∧j→F∧l→C→I4 R→G:=by
 intro d w f c k;repeat (first
  |(with_reducible first|apply aA.seq|apply aA.block|refine And.intro (by first|omega|assumption|decide) ?_)
  |((first
     |(with_reducible apply aA.fork)
     |((with_reducible apply aA.yh d);rfl)
     |(with_reducible first|show dd _ _ _ |show bT _ _ _ _ _ _ _ _ _)
     |((with_reducible apply aA.Is d);rfl;rfl;kernel_rfl;kernel_rfl;(repeat (with_reducible first|apply cr.then|apply cr.block|apply cr.body|apply cr.no)))
     |((with_reducible apply aj.id);first|refine aj.aL (pk c f) ?_ |refine aj.py (pk c f) ?_ |refine aj.SA (pk c f) ?_ |refine aj.Mv (pk c f) ?_)
     |((with_reducible apply aM.id);refine aM.aL (fun _ =>pk c f) ?_)
     );simp-implicitDefEqProofs [↓w,f])
  |((with_reducible first|apply aA.ret|apply aA.skip|apply aA.exit);try simp-implicitDefEqProofs [↓w,f]))
 all_goals exact k.out) (k:R):G:=h d ⟨w,z.out w⟩ ⟨f,y.out f⟩ c ⟨k⟩
theorem gF {F G:Prop}(f:F) (h:F→G:=by
 intro f
 (try dsimp only);(try simp only[List.cons_append,List.nil_append]);repeat (first|exact aP.nil|refine aP.cons (by first|(simp-implicitDefEqProofs [f];done)|exact Wk.of (by(try simp-implicitDefEqProofs [f])<;>rfl)) ?_)):G:=h f
theorem gT {G:Prop}(h:G:=by
 (try dsimp only);first|exact AS.le_refl _ |assumption|(repeat (first|exact AS.le_refl _ |assumption|refine aw (by simp[*]) ?_))):G:=h
theorem gL {F G:Prop}(f:F) (h:F→G:=by
 intro f;first
  |exact AS.le_refl _
  |((repeat (first|exact AS.le_refl _ |assumption|refine aw (by simp[*]) ?_));done)
  |(refine du ?_;simp_all [iH];done)
  |(refine Bv ?_;rw[Bool.eq_iff_iff];simp[*];omega)
  |(refine du ?_;simp[*];omega)
  |(refine du ?_;split<;>simp_all [iH];done)
  |(exfalso;omega)):G:=h f
theorem ba {α:Sort _}{a b:α}(h:¬a=b):¬b=a:=fun e=>h e.symm
theorem nq {σ τ:AS}{a b c d:Nat}{x y:Option cL}(A:σ c=x) (B:τ d=y) (h:σ c=x→τ d=y→ ¬a=b:=by intro zzA zzB;rintro rfl;rw[zzA]at zzB;cases zzB):¬a=b:=h A B
theorem gK {F G:Prop}(f:F) (j y:Nat) (k:¬j=y→G) (h:F→j=y→G:=by intro zzf zze;subst zze;intro zzh;simp[AS.set,zzf]at zzh⊢;(try first|exact zzh|(cases zzh;done))):G:=(Decidable.em (j=y)).elim (h f) k
theorem ad.ob {f:FuncId}{fn:Func}{c:Code}{args:List AV}{R j:AV→AS→Prop}(hf:P.funcs[f]? =some fn) (h:aA P fn.ntmps [] c (sT P fn.results.toList R j) (p8 args) σ)
 (l:fn.body=some c:=by rfl) (hn:(fn.name== "runtime.NumGoroutine")=false:=by rfl) (ha:Nat.ble args.length fn.ntmps=true:=by rfl):ad P f args σ R j:= .qD hf l hn (Nat.le_of_ble_eq_true ha) h
theorem zQ (S:AS) {i:Nat}(x:cL) (q:S i=none):∃B:AS,S.set i x=B∧B i=some x∧(∀j,j≠i→B j=S j)∧(∀o:AS,(∀j,j≠i→ ∀y,B j=some y→o j=some y)→AS.le S o):=by
 refine⟨_,rfl,by simp,fun j e=>by simp[AS.set,e],fun o h j x l=> ?_⟩;have e:j≠i:=by rintro rfl;rw[q]at l;cases l
 exact h j e x (by simp[AS.set,e,l])
theorem Dr (S:AS) {i k:Nat}(x z:cL) (v:S i=none) (u:S k=none) (n:¬i=k):∃B:AS,(S.set i x).set k z=B∧B i=some x∧B k=some z∧(∀j,j≠i→j≠k→B j=S j)∧(∀q:AS,(∀j,j≠i→j≠k→ ∀y,B j=some y→q j=some y)→AS.le S q):=by
 refine⟨_,rfl,by simp[n],by simp,fun j e o=>by simp[AS.set,e,o],fun q h j x l=> ?_⟩;have e:j≠i:=by rintro rfl;rw[v]at l;cases l
 have o:j≠k:=by rintro rfl;rw[u]at l;cases l
 exact h j e o x (by simp[AS.set,e,o,l])
theorem O8 (S:AS) {i k l:Nat}(x z w:cL) (D:S i=none) (A:S k=none) (hl:S l=none) (n:¬i=k) (n1:¬i=l) (n2:¬k=l):∃B:AS,((S.set i x).set k z).set l w=B∧B i=some x∧B k=some z∧B l=some w∧(∀j,j≠i→j≠k→j≠l→B j=S j)∧(∀v:AS,(∀j,j≠i→j≠k→j≠l→ ∀y,B j=some y→v j=some y)→AS.le S v):=by
 refine⟨_,rfl,by simp[n,n1],by simp[n2],by simp,fun j e u q=>by simp[AS.set,e,u,q],fun v h j x o=> ?_⟩;have e:j≠i:=by rintro rfl;rw[D]at o;cases o
 have u:j≠k:=by rintro rfl;rw[A]at o;cases o
 have q:j≠l:=by rintro rfl;rw[hl]at o;cases o
 exact h j e u q x (by simp[AS.set,e,u,q,o])
theorem tI:True:=trivial
theorem lR (σ:AS):AS.le σ σ:=AS.le_refl σ
theorem fm {α:Type} :(∀(a:α) (l m:List α),a::l++m=a::(l++m))∧ ∀l:List α,[]++l=l:=⟨fun _ _ _ =>rfl,fun _ =>rfl⟩
theorem g1 {G R:Prop}(k:R) (h:I4 R→G:=by
 intro k
 (with_reducible first|apply aA.seq|apply aA.block|refine And.intro (by first|omega|assumption|decide) ?_)
 exact k.out):G:=h ⟨k⟩
theorem g2 {G R:Prop}(k:R) (h:I4 R→G:=by
 intro k
 (with_reducible first|apply aA.fork|apply aA.region|show dd _ _ _ |show bT _ _ _ _ _ _ _ _ _)
 exact k.out):G:=h ⟨k⟩
theorem g3 {G R:Prop}(k:R) (h:I4 R→G:=by
 intro k
 (with_reducible first|apply aA.ret|apply aA.skip|apply aA.exit)
 exact k.out):G:=h ⟨k⟩
def Mm (P:Program) (n:Nat) (ds:List Deferred) (id:Nat) (l:List Oper) (t:dW) (Q:AQ) (s:Fr) (σ:AS):Prop:=aA P n ds (.region id l.toArray true) Q s σ
theorem dX (id:Nat) (t:dW) {l:List Oper}(h:Mm P n ds id l t Q s σ):aA P n ds (.region id l.toArray true) Q s σ:=h
theorem dY {id:Nat}{l:List Oper}{t:dW}(hm:P.follows .mixedOrders=true) (h:bH P n l.toArray false Q t s σ)
 (q:cr Q:=by repeat (with_reducible first|apply cr.then|apply cr.block|apply cr.body|apply cr.no))
 (j:dy l.toArray false true (Array.replicate l.length false) t=true:=by kernel_rfl) (o:decide (t.depth≤l.length)=true:=by kernel_rfl):Mm P n ds id l t Q s σ:=aA.nD hm t j o q h
theorem gJ {F G:Prop}(f:F) (h:F→G:=by
 intro f
 repeat' (with_reducible apply And.intro)
 all_goals exact gL f):G:=h f
end Go.AW
namespace Go.AW
variable {P:Program} {n:Nat} {ds:List Deferred} {Q:AQ} {s:Fr} {σ:AS}
def dz (j:List (Int×AV)):List (AV×AV):=j.map fun p=>(.sc (.int .i64 p.1),p.2)
def jU (k:Int):List (Int×AV)→Option AV
 |[]=>none
 |(k',v)::r=>if k=k' then some v else jU k r
def v9 (k:Int) (v:AV):List (Int×AV)→List (Int×AV)
 |[]=> [(k,v)]
 |(k',j)::r=>if k=k' then(k,v)::r else(k',j)::v9 k v r
theorem Rh (k:Int):(k==k)=true:=by simp
theorem Mf {a b:Int}(h:a≠b):(a==b)=false:=by simpa using h
theorem sQ (k:Int) (v:AV):∀(l:List (Int×AV)) (ms:List MapEntry) (i:Nat),ms.length=l.length→(∀(j:Nat) (m:MapEntry),ms[j]? =some m→ ∃p:Int×AV,l[j]? =some p∧m.key= .int .i64 p.1)→
 (jU k l=none∧Instr.findNow (.int .i64) (.int .i64 k) ms i=some none∧v9 k v l=l++ [(k,v)])∨
 (∃(j:Nat) (p:Int×AV) (m:MapEntry),l[j]? =some p∧ms[j]? =some m∧p.1=k∧jU k l=some p.2∧Instr.findNow (.int .i64) (.int .i64 k) ms i=some (some (i+j,m.val))∧v9 k v l=l.set j (k,v)):=by
 intro l;induction l with
 |nil=>intro ms i hl _;have:ms= []:=List.length_eq_zero_iff.1 (by simpa using hl);subst this;exact .inl ⟨rfl,rfl,rfl⟩
 |cons p r I=>
  intro ms i hl E;cases ms with
  |nil=>simp at hl
  |cons m ms=>
   obtain⟨F,y,o⟩:=E 0 m rfl;obtain rfl:p=F:=by simpa using y
   by_cases he:k=p.1
   ·right;refine⟨0,p,m,rfl,rfl,he.symm,by simp[jU,he],?_,by simp[v9,he]⟩;simp[Instr.findNow,o,Instr.sameNow,he]
   ·rcases I ms (i+1) (by simpa using hl) (fun j u hm=>E (j+1) u (by simpa using hm))with⟨h1,D,A⟩|⟨j,q,u,h1,D,A,M,L,J⟩
    ·left;refine⟨by simp[jU,he,h1],?_,by simp[v9,he,A]⟩;have:(k==p.1)=false:=Mf he;simp[Instr.findNow,o,Instr.sameNow,this,D]
    ·right;refine⟨j+1,q,u,by simpa using h1,by simpa using D,A,by simp[jU,he,M],?_,by simp[v9,he,J]⟩;have:(k==p.1)=false:=Mf he;simp[Instr.findNow,o,Instr.sameNow,this,L];omega
theorem gk {t:TypeId}{w:World}{b:Bool}{k:Int}(ht:P.underlying t=some (.int .i64)):(Instr.checkKey b 10000 t (.int .i64 k)).run P w= .ok () w:=by
 have:∀m:Nat,(Instr.checkKey b (m+1) t (.int .i64 k)).run P w= .ok () w:=fun m=>by simp[Instr.checkKey,run_underlying ht,Sem.run_bind,Result.andThen]
 exact this 9999
theorem ij {t:TypeId}{w:World}{k:Int}{ms:List MapEntry}{r:Option (Nat×Value)}(ht:P.underlying t=some (.int .i64)) (h:Instr.findNow (.int .i64) (.int .i64 k) ms 0=some r):
 (Instr.findKey t (.int .i64 k) ms).run P w= .ok r w:=by
 simp[Instr.findKey,run_underlying ht,Sem.run_bind,Result.andThen,h]
theorem xk {G:Gh}{w:World}{id:Nat}{l:List (Int×AV)}(y:Inv P G σ w) (o:σ id=some (.map (dz l))):
 ∃(b:Nat) (ms:Array MapEntry) (clock:Nat),G.inj id=some b∧w.heap[b]? =some (.map ms clock)∧(ms.size=l.length∧nu ms clock)∧(∀(j:Nat) (m:MapEntry),ms.toList[j]? =some m→ ∃p:Int×AV,l[j]? =some p∧m.key= .int .i64 p.1∧aU P G p.2 m.val):=by
 obtain⟨b,ms,clock,h1,D,⟨E,q⟩,A⟩:=y.maps id _ o;have hlen:(dz l).length=l.length:=by simp[dz]
 refine⟨b,ms,clock,h1,D,⟨by omega,q⟩,fun j m hm=> ?_⟩;have u:j<l.length:=by have:=(List.getElem?_eq_some_iff.1 hm).1;simp at this;omega
 obtain⟨v,g1,g2,g3⟩:=A j (by omega);rw[Array.getElem?_toList,g1]at hm;obtain rfl:=Option.some.inj hm;refine⟨l[j],List.getElem?_eq_getElem u,?_,?_⟩
 ·have e:((dz l).getD j (.any,.any)).1= .sc (.int .i64 l[j].1):=by simp[dz,u]
  rw[e]at g2;generalize v.key=x at g2;cases g2;rfl
 ·have e:((dz l).getD j (.any,.any)).2=l[j].2:=by simp[dz,u]
  rwa [e]at g3
theorem sJ {G:Gh}{w:World}{K Pn:AV→AS→Prop}(y:Inv P G σ w) {t S L:TypeId}{x T:Value}{ok:Bool}{id:Nat}{k:Int}{q:List (Int×AV)}
 (hm:P.underlying t=some (.map S L)) (A:P.underlying S=some (.int .i64)) (Y:(az P L).laid=true) (Z:aU P G (.mp id) x) (I:aU P G (.sc (.int .i64 k)) T) (E:σ id=some (.map (dz q)))
 (h:K (kA P L (jU k q) ok) σ):Out P G K Pn (((do pure (Next.value (←Instr.lookup t x T ok))):Sem Next).run P w):=by
 obtain⟨b,ms,clock,h1,X,⟨h3,ab⟩,V⟩:=xk y E;cases I;cases Z with
 |mp U=>
  rw[h1]at U;obtain rfl:=Option.some.inj U;obtain⟨it,z,J,F,u⟩:=cR Y;have o:∀(a:AV) (v:Value) (D:Bool),aU P G a v→aU P G (.cp [a,.sc (.bool D)]) (.tuple #[v,.bool D]):=by
   intro a v D ha;refine .cp [v,.bool D] rfl fun i y=> ?_
   match i,y with
   |0,_ =>exact ha
   |1,_ =>exact .sc _
  rcases sQ k .any q ms.toList 0 (by simpa using h3) (fun j m hm=>let ⟨p,a,b,_⟩:=V j m hm;⟨p,a,b⟩)with⟨g1,g2,_⟩|⟨j,p,m,g1,g2,g3,g4,g5,_⟩
  ·have l:(Instr.lookup t (.map (some b)) (.int .i64 k) ok).run P w= .ok (if ok then .tuple #[z,.bool false]else z) w:=by simp only[Instr.lookup,Sem.run_bind,run_underlying hm,Result.andThen_ok,MapKept.run_getObj_map X,Sem.run_pure,gk A,ij A g2,zeroValue,run_typeInfo w J,F]
   refine Out.value l (.refl G) y ?_ h;rw[g1];unfold kA;cases ok
   ·rw[Option.getD_none,u];exact fq z
   ·exact o _ _ _ (by rw[Option.getD_none,u];exact fq z)
  ·have l:(Instr.lookup t (.map (some b)) (.int .i64 k) ok).run P w= .ok (if ok then .tuple #[m.val,.bool true]else m.val) w:=by simp only[Instr.lookup,Sem.run_bind,run_underlying hm,Result.andThen_ok,MapKept.run_getObj_map X,Sem.run_pure,gk A,ij A g5]
   refine Out.value l (.refl G) y ?_ h;obtain⟨p',O,_,M⟩:=V j m g2;rw[g1]at O;obtain rfl:=Option.some.inj O;rw[g4];unfold kA;cases ok
   ·exact M
   ·exact o _ _ _ M
theorem iD.Kh {d t A y:Nat}{x l:Operand}{ok:Bool}{ty:TypeId}{pos:String}{J:Array Edge}{g:Option (Nat×Bool)}{K:Fr→AS→Prop}(I:d<n) (id:Nat) (k:Int) (j:List (Int×AV))
 (hm:P.underlying t=some (.map A y)) (F:P.underlying A=some (.int .i64)) (D:(az P y).laid=true) (E:ev s x= .mp id) (u:ev s l= .sc (.int .i64 k)) (o:σ id=some (.map (dz j)))
 (h:K (s.put (some d) (kA P y (jU k j) ok)) σ):iD P n ds Q ⟨some d,.lookup t x l ok,ty,pos,J,g⟩ s σ K:=
 iD.lM I fun G a w q=>sJ (K:=fun v σ'=>K (s.put (some d) v) σ') q.inv hm F D (E ▸ q.ev x) (u ▸ q.ev l) o h
theorem uY {G:Gh}{w:World}{K Pn:AV→AS→Prop}(Z:Inv P G σ w) {t kt et:TypeId}{x ix E:Value}{v:AV}{id:Nat}{k:Int}{o:List (Int×AV)}
 (hm:P.underlying t=some (.map kt et)) (O:P.underlying kt=some (.int .i64)) (hx:aU P G (.mp id) x) (Y:aU P G (.sc (.int .i64 k)) ix) (hv:aU P G v E) (V:σ id=some (.map (dz o)))
 (h:K .any (σ.set id (.map (dz (v9 k v o))))):Out P G K Pn (((do Instr.mapUpdate t x ix E;pure Next.skip):Sem Next).run P w):=by
 obtain⟨b,ms,clock,h1,I,⟨T,J⟩,S⟩:=xk Z V;cases Y;cases hx with
 |mp hb=>
  rw[h1]at hb;obtain rfl:=Option.some.inj hb;have yG:∀(l:List (Int×AV)) (j:Nat) (p:Int×AV),l[j]? =some p→(dz l).getD j (.any,.any)=(.sc (.int .i64 p.1),p.2):=by intro l j p hp;simp[dz,hp]
  have D:∀l,(dz l).length=l.length:=by intro l;simp[dz]
  rcases sQ k v o ms.toList 0 (by simpa using T) (fun j m hm=>let ⟨p,a,b,_⟩:=S j m hm;⟨p,a,b⟩)with⟨g1,g2,g6⟩|⟨j,p,m,g1,g2,g3,g4,g5,g6⟩
  ·have y:(Instr.mapUpdate t (.map (some b)) (.int .i64 k) E).run P w= .ok () { w with heap:=w.heap.setIfInBounds b (.map (ms.push { key:= .int .i64 k,val:=E,born:=clock }) (clock+1)) } :=by simp only[Instr.mapUpdate,Sem.run_bind,run_underlying hm,Result.andThen_ok,MapKept.run_getObj_map I,gk O,ij O g2,MapKept.run_setObj_map _ I]
   rw[g6]at h;refine Out.unit y (.refl G) (Z.xZ h1 I _ _ (dz (o++ [(k,v)])) (by simp[D,T]) (sy J) (xr ms clock _ rfl) (fun i u=> ?_)) (.any _) h;rw[D]at u;simp at u;by_cases X:i<o.length
   ·have A:i<ms.size:=by omega
    obtain⟨p,M,U,q3⟩:=S i ms[i] (by simp[A]);refine⟨ms[i],by simp[Array.getElem?_push,A];omega,?_⟩;rw[yG _ i p (by rw[List.getElem?_append_left X];exact M),U];exact⟨.sc _,q3⟩
   ·have he:i=o.length:=by omega
    subst he;refine⟨{ key:= .int .i64 k,val:=E,born:=clock },by rw[←T];simp,?_⟩;rw[yG _ o.length (k,v) (by simp)];exact⟨.sc _,hv⟩
  ·have a0:j<ms.size:=by have:=(List.getElem?_eq_some_iff.1 g2).1;simpa using this
   have hold:ms[j]? =some m:=by rw[←Array.getElem?_toList];exact g2
   obtain⟨p',M,U,q3⟩:=S j m g2;rw[g1]at M;obtain rfl:=Option.some.inj M;have L:(Instr.keyThatStays m.key (.int .i64 k)).run P w= .ok (.int .i64 k) w:=by
    have:∀q:Nat,Instr.sameBits q (.int .i64 k) (.int .i64 k)=true:=fun q=>by simp[Instr.sameBits]
    rw[U,g3];simp[Instr.keyThatStays,this]
   have y:(Instr.mapUpdate t (.map (some b)) (.int .i64 k) E).run P w= .ok () { w with heap:=w.heap.setIfInBounds b (.map (ms.modify j fun e=> { e with key:= .int .i64 k,val:=E }) clock) } :=by simp only[Instr.mapUpdate,Sem.run_bind,run_underlying hm,Result.andThen_ok,MapKept.run_getObj_map I,gk O,ij O g5,Nat.zero_add,hold,Option.map_some,Option.getD_some,L,MapKept.run_setObj_map _ I]
   rw[g6]at h;refine Out.unit y (.refl G) (Z.xZ h1 I _ _ (dz (o.set j (k,v))) (by simp[D,T]) (pE J j _ (fun _ =>rfl)) (sN ms clock j _ (fun _ =>rfl)) (fun i u=> ?_)) (.any _) h;rw[D]at u;simp at u;have A:i<ms.size:=by omega
   by_cases F:i=j
   ·subst F;refine⟨{ m with key:= .int .i64 k,val:=E },by simp[Array.getElem?_modify,hold],?_⟩;rw[yG _ i (k,v) (by simp[u])];exact⟨.sc _,hv⟩
   ·obtain⟨p2,r1,r2,r3⟩:=S i ms[i] (by simp[A]);refine⟨ms[i],by rw[Array.getElem?_modify,if_neg (fun e=>F e.symm)];exact Array.getElem?_eq_getElem A,?_⟩;rw[yG _ i p2 (by rw[List.getElem?_set_ne (fun e=>F e.symm)];exact r1),r2];exact⟨.sc _,r3⟩
end Go.AW
namespace Go.AW.Ev
inductive D8 where
 |d0|d1|d2|d3|d4|d5|d6|d7
structure N8 (α:Type) where
 a:α
 b:α
 c:α
 d:α
 e:α
 f:α
 g:α
 h:α
def D8.TE {α:Type}(d:D8) (a b c e f g h i:α):α:=D8.casesOn (motive:=fun _ =>α) d a b c e f g h i
def N8.get {α:Type}(d:D8) (x:N8 α):α:=N8.casesOn (motive:=fun _ =>α) x fun a b c e f g h i=>d.TE a b c e f g h i
def N8.set {α:Type}(d:D8) (v:α) (x:N8 α):N8 α:=
 N8.casesOn (motive:=fun _ =>N8 α) x fun a b c e f g h i=>d.TE ⟨v,b,c,e,f,g,h,i⟩ ⟨a,v,c,e,f,g,h,i⟩ ⟨a,b,v,e,f,g,h,i⟩ ⟨a,b,c,v,f,g,h,i⟩ ⟨a,b,c,e,v,g,h,i⟩ ⟨a,b,c,e,f,v,h,i⟩ ⟨a,b,c,e,f,g,v,i⟩ ⟨a,b,c,e,f,g,h,v⟩
def N8.all {α:Type}(v:α):N8 α:=⟨v,v,v,v,v,v,v,v⟩
def bit (n:Nat):Bool:=Nat.beq (Nat.mod n 2) 1
def Ga (n:Nat):D8:=
 bif bit n then(bif bit (Nat.div n 2)then(bif bit (Nat.div n 4)then .d7 else .d3)else(bif bit (Nat.div n 4)then .d5 else .d1))
 else(bif bit (Nat.div n 2)then(bif bit (Nat.div n 4)then .d6 else .d2)else(bif bit (Nat.div n 4)then .d4 else .d0))
structure P3 where
 a:D8
 b:D8
 c:D8
def p3 (n:Nat):P3:=⟨Ga (Nat.div n 64),Ga (Nat.div n 8),Ga n⟩
structure P5 where
 a:D8
 b:D8
 c:D8
 d:D8
 e:D8
def p5 (n:Nat):P5:=⟨Ga (Nat.div n 4096),Ga (Nat.div n 512),Ga (Nat.div n 64),Ga (Nat.div n 8),Ga n⟩
abbrev T3 (α:Type):=N8 (N8 (N8 α))
abbrev T5 (α:Type):=N8 (N8 (N8 (N8 (N8 α))))
def T3.get {α:Type}(p:P3) (x:T3 α):α:=((N8.get p.a x).get p.b).get p.c
def T3.set {α:Type}(p:P3) (v:α) (x:T3 α):T3 α:=N8.set p.a (N8.set p.b (N8.set p.c v ((N8.get p.a x).get p.b)) (N8.get p.a x)) x
def T5.get {α:Type}(p:P5) (x:T5 α):α:=T3.get ⟨p.c,p.d,p.e⟩ ((N8.get p.a x).get p.b)
def T5.set {α:Type}(p:P5) (v:α) (x:T5 α):T5 α:=N8.set p.a (N8.set p.b (T3.set ⟨p.c,p.d,p.e⟩ v ((N8.get p.a x).get p.b)) (N8.get p.a x)) x
def T3.all {α:Type}(v:α):T3 α:=N8.all (N8.all (N8.all v))
def T5.all {α:Type}(v:α):T5 α:=N8.all (N8.all (T3.all v))
inductive Mn where
 |kn (c:Nat)
 |rest (d:Nat)
inductive EV where
 |any
 |int (k:IntKind) (n:Int)
 |bool (b:Bool)
 |sc (v:Value)
 |aC
 |ptr (i off:Nat)
 |sl (i off len:Nat) (cap:Mn)
 |ah (e:TypeId) (es:List EV) (full:Bool)
 |mp (i:Nat)
 |fn (f:FuncId) (first cap:List EV)
 |lq (t:TypeId) (v:EV)
 |agg (cs:List EV)
 |cp (vs:List EV)
inductive v7 where
 |z8
 |cells (ty:TypeId) (cs:List EV) (full:Bool)
 |map (es:List (EV×EV))
 |gA (s:ByteArray) (pos:Nat)
structure Hp where
 t:T5 v7
 c:Nat
abbrev Fr:=T3 EV
def L6:Fr:=T3.all .any
def Ia:Hp:=⟨T5.all .z8,0⟩
def Hp.get (H:Hp) (i:Nat):v7:=T5.get (p5 i) H.t
def Hp.set (H:Hp) (i:Nat) (b:v7):Hp:=⟨T5.set (p5 i) b H.t,H.c⟩
def Hp.new (H:Hp) (b:v7):Hp:=⟨T5.set (p5 H.c) b H.t,Nat.succ H.c⟩
inductive lW where
 |fail (why:Nat)
 |ok (v:EV) (H:Hp)
def iq:IntKind→Nat
 |.i8=>127
 |.i16=>32767
 |.i32=>2147483647
 |.i64=>9223372036854775807
 |.u8=>255
 |.u16=>65535
 |.u32=>4294967295
 |.u64=>18446744073709551615
def su (k:IntKind) (n:Int):Int:=
 match n with
 |.ofNat x=>bif Nat.ble x (iq k)then .ofNat x else k.wrap (.ofNat x)
 |.negSucc x=>bif k.signed&&Nat.ble x (iq k)then .negSucc x else k.wrap (.negSucc x)
def LY (a b:Int):Bool:=
 match a,b with
 |.ofNat x,.ofNat y=>Nat.blt x y
 |.ofNat _,.negSucc _ =>false
 |.negSucc _,.ofNat _ =>true
 |.negSucc x,.negSucc y=>Nat.blt y x
def F9 (a b:Int):Bool:=
 match a,b with
 |.ofNat x,.ofNat y=>Nat.beq x y
 |.negSucc x,.negSucc y=>Nat.beq x y
 | _,_ =>false
def kN:IntKind→Nat
 |.i8=>0|.i16=>1|.i32=>2|.i64=>3|.u8=>4|.u16=>5|.u32=>6|.u64=>7
def PG (a b:IntKind):Bool:=Nat.beq (kN a) (kN b)
def Cp {α:Type _}(n:Int) (r:α):α:=match n with
 |.ofNat x=>bif Nat.beq x x then r else r
 |.negSucc x=>bif Nat.beq x x then r else r
def yr:Value→EV
 |.int k n=> .int k n
 |.bool b=> .bool b
 |.slice none 0 0=> .aC
 |v=> .sc v
def LV:Value→EV
 |.int k n=> .int k n
 |.bool b=> .bool b
 |.slice none 0 0=> .aC
 |.agg cs=> .agg (cs.toList.map yr)
 |v=> .sc v
structure EX where
 get:Fr→EV
def eK:Operand→EX
 |.tmp t=>bif Nat.blt t 512 then(let p:=p3 t;⟨fun F=>T3.get p F⟩)else⟨fun _ => .any⟩
 |.const v=>(let x:=LV v;⟨fun _ =>x⟩)
 |.global _ =>⟨fun _ => .any⟩
 |.func f=>⟨fun _ => .fn f [] []⟩
def EV.cells:EV→List EV
 |.agg cs=>cs
 |v=> [v]
def EV.one:EV→Bool
 |.any|.cp _ |.agg _ =>false
 |.sc (.agg _)|.sc (.tuple _)=>false
 | _ =>true
def iy:List EV→Bool
 |[]=>true
 |v::r=>v.one&&iy r
def EV.laid (v:EV):Bool:=
 match v with
 |.agg cs=>iy cs
 |v=>v.one
def jI {α:Type _} :List α→Nat→Bool
 |[],n=>Nat.beq n 0
 | _ ::r,n=>match n with
  |0=>false
  |.succ m=>jI r m
def Az:List EV→Nat→EV
 |[],_ => .any
 |v::r,n=>match n with
  |0=>v
  |.succ m=>Az r m
def iG:List EV→Nat→Option (List EV)
 |r,0=>some []
 |[],.succ _ =>none
 |v::r,.succ m=>(iG r m).map (v:: ·)
def kG:List EV→Nat→List EV
 |r,0=>r
 |[],.succ _ => []
 | _ ::r,.succ m=>kG r m
def sG:List EV→Nat→Nat→Option (List EV)
 |r,0,n=>iG r n
 |[],.succ _,_ =>none
 | _ ::r,.succ m,n=>sG r m n
def uT:List EV→List EV→Option (List EV)
 |cs,[]=>some cs
 |[],_ :: _ =>none
 | _ ::cs,v::vs=>(uT cs vs).map (v:: ·)
def rG:List EV→Nat→List EV→Option (List EV)
 |cs,0,vs=>uT cs vs
 |[],.succ _,_ =>none
 |c::cs,.succ m,vs=>(rG cs m vs).map (c:: ·)
def zeroV (P:Program) (t:TypeId):EV:=match (P.info? t).bind (·.zero)with|some v=>LV v|none=> .any
def kB (j:LK) (cs:List EV) (off:Nat):EV:=
 match j with
 |.one=>Az cs off
 |.agg n=>match n with
  |0=> .any
  |n=>match iG (kG cs off) n with|some l=> .agg l|none=> .any
 |.bad=> .any
def isAny:EV→Bool|.any=>true| _ =>false
def sR (j:LK) (x:EV) (H:Hp):EV:=
 match x with
 |.ptr i off=>match H.get i with
  |.cells _ cs _ =>kB j cs off
  | _ => .any
 | _ => .any
def vz (n:Nat) (x v:EV) (H:Hp):lW:=
 match x with
 |.ptr i off=>match H.get i with
  |.cells ty cs full=>bif v.laid&&jI v.cells n&& !Nat.beq n 0 then(match rG cs off v.cells with
   |some cs'=> .ok .any (H.set i (.cells ty cs' full))
   |none=> .fail 1)else .fail 2
  | _ => .fail 3
 | _ => .fail 4
def iS (op:BinOp) (k:IntKind) (a b:Int):EV:=
 match op with
 |.add=> .int k (su k (Int.add a b))
 |.sub=> .int k (su k (Int.sub a b))
 |.mul=> .int k (su k (Int.mul a b))
 |.quo=>bif F9 b (.ofNat 0)then .any else .int k (su k (a.tdiv b))
 |.rem=>bif F9 b (.ofNat 0)then .any else .int k (a.tmod b)
 |.and=>match a,b with
  |.ofNat x,.ofNat y=> .int k (bif Nat.ble x (iq k)&&Nat.ble y (iq k)then .ofNat (Nat.land x y)else k.wrap (BitVec.ofInt k.bits (.ofNat x)&&& BitVec.ofInt k.bits (.ofNat y)).toNat)
  |a,b=> .int k (k.wrap (BitVec.ofInt k.bits a&&& BitVec.ofInt k.bits b).toNat)
 |.or=>match a,b with
  |.ofNat x,.ofNat y=> .int k (bif Nat.ble x (iq k)&&Nat.ble y (iq k)then .ofNat (Nat.lor x y)else k.wrap (BitVec.ofInt k.bits (.ofNat x)|||BitVec.ofInt k.bits (.ofNat y)).toNat)
  |a,b=> .int k (k.wrap (BitVec.ofInt k.bits a|||BitVec.ofInt k.bits b).toNat)
 |.xor=>match a,b with
  |.ofNat x,.ofNat y=> .int k (bif Nat.ble x (iq k)&&Nat.ble y (iq k)then .ofNat (Nat.xor x y)else k.wrap (BitVec.ofInt k.bits (.ofNat x)^^^BitVec.ofInt k.bits (.ofNat y)).toNat)
  |a,b=> .int k (k.wrap (BitVec.ofInt k.bits a^^^BitVec.ofInt k.bits b).toNat)
 |.andNot=> .int k (k.wrap (BitVec.ofInt k.bits a&&& ~~~(BitVec.ofInt k.bits b)).toNat)
 |.eql=> .bool (F9 a b)
 |.neq=> .bool (!F9 a b)
 |.lss=> .bool (LY a b)
 |.leq=> .bool (!LY b a)
 |.gtr=> .bool (LY b a)
 |.geq=> .bool (!LY a b)
 | _ => .any
def KY (op:BinOp) (k:IntKind) (a b:Int):EV:=
 match op,b with
 |.shl,.ofNat n=> .int k (k.wrap (a*2^(min n k.bits)))
 |.shr,.ofNat n=>(match a with
  |.ofNat x=> .int k (.ofNat (Nat.shiftRight x (Nat.min n k.bits)))
  |a=> .int k (a.fdiv (2^(min n k.bits))))
 | _,_ => .any
def KK (a b:ByteArray):Bool:=decide (a.data.toList=b.data.toList)
def gN (a b:Bool):Bool:=match a with|true=>b|false=> !b
def AH (P:Program) (eq:TypeId→EV→EV→Option Bool):List Field→List EV→List EV→Option Bool
 |[],_,_ =>some true
 |f::fs,xs,j=>if f.name= "_" then none else
  match fC P f.type with
  |.one=>match eq f.type (Az xs f.offset) (Az j f.offset),AH P eq fs xs j with
   |some r,some o=>some (r&&o)
   | _,_ =>none
  |.agg n=>match kB (.agg n) xs f.offset,kB (.agg n) j f.offset with
   |.agg l,.agg q=>(match eq f.type (.agg l) (.agg q),AH P eq fs xs j with
    |some r,some o=>some (r&&o)
    | _,_ =>none)
   | _,_ =>none
  |.bad=>none
def Bp (P:Program):Nat→TypeId→EV→EV→Option Bool
 |0,_,_,_ =>none
 |d+1,t,x,y=>match x,y with
  |.int k a,.int k' b=>match P.underlying t with|some (.int _)=>if PG k k' then some (F9 a b)else none| _ =>none
  |.bool a,.bool b=>match P.underlying t with|some .bool=>some (gN a b)| _ =>none
  |.sc (.string a),.sc (.string b)=>match P.underlying t with|some .string=>some (KK a b)| _ =>none
  |.agg xs,.agg j=>match P.underlying t with|some (.struct fs)=>if P.stoodInHeld t then none else AH P (Bp P d) fs.toList xs j| _ =>none
  | _,_ =>none
def rQ (P:Program) (t:TypeId):EV→Option Bool
 |.aC=>match P.underlying t with|some (.slice _)=>some true| _ =>none
 |.sl _ _ _ _ |.ah _ _ _ =>match P.underlying t with|some (.slice _)=>some false| _ =>none
 |.ptr _ _ =>match P.underlying t with|some (.pointer _)=>some false| _ =>none
 |.sc (.pointer none)=>match P.underlying t with|some (.pointer _)=>some true| _ =>none
 |.mp _ =>match P.underlying t with|some (.map _ _)=>some false| _ =>none
 |.sc (.map none)=>match P.underlying t with|some (.map _ _)=>some true| _ =>none
 |.lq _ _ =>match P.underlying t with|some (.interface _)=>some false| _ =>none
 |.fn _ _ _ =>match P.underlying t with|some (.func _ _ _)=>some false| _ =>none
 |.sc .nilFunc=>match P.underlying t with|some (.func _ _ _)=>some true| _ =>none
 | _ =>none
def yC (P:Program) (t:TypeId):EV→Bool
 |.aC=>match P.underlying t with|some (.slice _)=>true| _ =>false
 |.sc (.pointer none)=>match P.underlying t with|some (.pointer _)=>true| _ =>false
 |.sc (.map none)=>match P.underlying t with|some (.map _ _)=>true| _ =>false
 |.sc .nilIface=>match P.underlying t with|some (.interface _)=>true| _ =>false
 |.sc .nilFunc=>match P.underlying t with|some (.func _ _ _)=>true| _ =>false
 | _ =>false
def kc (P:Program) (op:BinOp) (t:TypeId) (x y:EV):EV:=
 if yC P t y then match rQ P t x,op with
  |some r,.eql=> .bool r
  |some r,.neq=> .bool (!r)
  | _,_ => .any
 else .any
def GC (op:BinOp) (a b:ByteArray):EV:=
 match op with
 |.eql=> .bool (KK a b)
 |.neq=> .bool (!KK a b)
 |.add=>bif Nat.ble (Nat.add a.size b.size) 9223372036854775807 then .sc (.string (a++b))else .any
 | _ => .any
def tm (P:Program) (op:BinOp) (l:Bool) (t:TypeId) (x y:EV):EV:=
 match x with
 |.int k a=>match y with
  |.int k' b=>bif l then KY op k a b else bif PG k k' then iS op k a b else .any
  | _ => .any
 |.bool a=>match y with
  |.bool b=>match P.underlying t,op with
   |some .bool,.eql=> .bool (gN a b)
   |some .bool,.neq=> .bool (!gN a b)
   | _,_ => .any
  | _ => .any
 |.agg xs=>match y with
  |.agg j=>match Bp P 8 t (.agg xs) (.agg j),op with
   |some r,.eql=>bif P.eqGuardType P.depth t then .any else .bool r
   |some r,.neq=>bif P.eqGuardType P.depth t then .any else .bool (!r)
   | _,_ => .any
  | _ => .any
 |.sc v=>match v with
  |.string a=>match y with
   |.sc (.string b)=>GC op a b
   | _ => .any
  |v=>kc P op t (.sc v) y
 |x=>kc P op t x y
def Q1 (op:UnOp) (x:EV):EV:=
 match op,x with
 |.not,.bool b=> .bool (!b)
 |.neg,.int k n=> .int k (su k (Int.neg n))
 |.xor,.int k n=> .int k (k.wrap (BitVec.ofInt k.bits (if k.signed then-1 else k.max)^^^BitVec.ofInt k.bits n).toNat)
 | _,_ => .any
def qa (P:Program) (t:TypeId):List EV→List (Nat×EV)→EV
 |cs,[]=> .agg cs
 |cs,(i,v)::r=>match aB P t i with
  |some (off,n)=>bif v.laid&&jI v.cells n&& !Nat.beq n 0 then(match rG cs off v.cells with
   |some cs'=>qa P t cs' r
   |none=> .any)else .any
  |none=> .any
def flat (n:Nat):Nat→List (Nat×EV)→Option (List EV)
 | _,[]=>some []
 |k,(i,v)::r=>bif Nat.beq i k&&v.laid&&jI v.cells n then(flat n (Nat.succ k) r).map (v.cells++ ·)else none
def EF (n:Nat) (l:List EV):List EV:=match n with
 |0=> []
 |.succ m=>l++EF m l
def kF (pl:Option (Nat×Nat)) (x:EV):EV:=
 match x,pl with
 |.ptr i off,some (o,n)=>bif Nat.beq n 0 then .any else .ptr i (Nat.add off o)
 | _,_ => .any
def nh (l:Nat) (x i:EV):EV:=
 match i with
 |.int _ (.ofNat n)=>(match x with
  |.sl j off len _ =>bif Nat.blt n len then .ptr j (Nat.add off (Nat.mul n l))else .any
  | _ => .any)
 | _ => .any
def pj (m l:Nat) (x i:EV):EV:=
 match i with
 |.int _ (.ofNat n)=>(match x with
  |.ptr j off=>bif Nat.blt n m then .ptr j (Nat.add off (Nat.mul n l))else .any
  | _ => .any)
 | _ => .any
def cQ (x:Option EV) (d:Nat):Option Nat:=match x with
 |none=>some d
 |some (.int _ (.ofNat h))=>some h
 | _ =>none
def tZ (x:EV) (lo j:Option EV):EV:=
 match x with
 |.sc (.string s)=>(match cQ j s.size,cQ lo 0 with
  |some h,some l=>bif Nat.ble h s.size&&Nat.ble l h then .sc (.string (s.extract l h))else .any
  | _,_ => .any)
 | _ => .any
def vA (e:TypeId) (j:Nat) (x:EV) (lo o:Option EV):EV:=
 match x with
 |.sl i off len cap=>(match cQ o len,cQ lo 0 with
  |some h,some l=>bif Nat.ble l h then(match cap with
   |.kn c=>bif Nat.ble h c then(bif Nat.beq l c then .ah e [] false else .sl i (Nat.add off (Nat.mul l j)) (Nat.sub h l) (.kn (Nat.sub c l)))else .any
   |.rest d=>bif Nat.ble h len then(bif Nat.blt l len then .sl i (Nat.add off (Nat.mul l j)) (Nat.sub h l) (.rest (Nat.add d l))else .ah e [] false)else .any)else .any
  | _,_ => .any)
 | _ => .any
def OC:zY→List EV
 |[]=> []
 |b::r=> .int .u8 (.ofNat b.toNat)::OC r
def sv:List EV→Option (zY)
 |[]=>some []
 |v::r=>match v with
  |.int .u8 (.ofNat n)=>bif Nat.blt n 256 then(sv r).map (UInt8.ofNat n:: ·)else none
  | _ =>none
def Eo (e:TypeId) (j:Nat) (x:EV) (H:Hp):Option (Nat×List EV):=
 match x with
 |.aC=>some (0,[])
 |.sl i off len _ =>(match H.get i with
  |.cells _ cs _ =>(match iG (kG cs off) (Nat.mul len j)with
   |some l=>some (len,l)
   |none=>none)
  | _ =>none)
 |.ah o es _ =>bif Nat.beq o e&&Nat.beq j 1&&iy es then some (es.length,es)else none
 | _ =>none
def GI (e:TypeId) (j:Nat) (x:EV) (H:Hp):Option (Nat×List EV):=
 match x with
 |.sl i off len _ =>(match H.get i with
  |.cells _ cs _ =>(match sG cs off (Nat.mul len j)with
   |some l=>some (len,l)
   |none=>none)
  | _ =>none)
 |.ah o es _ =>bif Nat.beq o e&&Nat.beq j 1&&iy es then some (es.length,es)else none
 | _ =>none
def Js (x:EV):Option (Nat×List EV):=
 match x with
 |.sc (.string s)=>some (s.size,OC s.data.toList)
 | _ =>none
def Jt (z:List EV) (x:EV):Option (Nat×List EV):=
 match x with
 |.int _ (.ofNat n)=>bif Nat.ble n 1000000 then some (n,EF n z)else none
 | _ =>none
def Kl (x:EV):EV:=
 match x with
 |.aC=> .int .i64 (.ofNat 0)
 |.sl _ _ n _ => .int .i64 (.ofNat n)
 |.ah _ es _ => .int .i64 (.ofNat es.length)
 | _ => .any
def Nb (x:EV):EV:=
 match x with
 |.sc (.string s)=> .int .i64 (.ofNat s.size)
 | _ => .any
def Kn (x:EV) (H:Hp):EV:=
 match x with
 |.mp i=>(match H.get i with
  |.map es=> .int .i64 (.ofNat es.length)
  | _ => .any)
 |.sc (.map none)=> .int .i64 (.ofNat 0)
 | _ => .any
def rP (P:Program) (t:TypeId):Bool:=match P.underlying t with|some (.int .i64)=>true| _ =>false
def wz (P:Program) (t:TypeId):Bool:=match P.underlying t with|some .string|some (.int .i64)=>true| _ =>false
def o6 (P:Program) (t:TypeId):Bool:=match P.underlying t with|some (.interface _)|none=>false| _ =>true
def qp (be n:Nat):Bool:=Nat.ble (Nat.mul n be) 1000000000&&Nat.ble n 1000000000
def A6 (e j be:Nat) (src:Option (Nat×List EV)) (s:EV) (H:Hp):lW:=
 match src with
 |none=> .fail 20
 |some (n,xs)=>match s with
  |.aC=>bif Nat.beq n 0 then .ok .aC H else bif qp be n&&Nat.blt H.c 32768 then .ok (.sl H.c 0 n (.rest 0)) (H.new (.cells e xs false))else .fail 19
  |.sl i off len cap=>(match H.get i with
   |.cells ty cs full=>(match iG (kG cs off) (Nat.mul len j)with
    |none=> .fail 21
    |some old=>bif qp be (Nat.add len n)&&Nat.blt H.c 32768&&Nat.beq ty e then(match cap with
     |.rest d=>bif Nat.beq d 0&&Nat.beq off 0&& !full then .ok (.sl H.c 0 (Nat.add len n) (.rest 0)) ((H.set i .z8).new (.cells e (old++xs) false))else .fail 16
     |.kn c=>bif Nat.ble (Nat.add len n) c then(match rG cs (Nat.add off (Nat.mul len j)) xs with
      |some cs'=> .ok (.sl i off (Nat.add len n) (.kn c)) (H.set i (.cells ty cs' full))
      |none=> .fail 22)
      else .ok (.sl H.c 0 (Nat.add len n) (.rest 0)) (H.new (.cells e (old++xs) false)))else .fail 18)
   | _ => .fail 23)
  |.ah l es true=>bif qp be (Nat.add es.length n)&&Nat.blt H.c 32768&&Nat.beq l e&&Nat.beq j 1&&iy es&&Nat.blt 0 n then .ok (.sl H.c 0 (Nat.add es.length n) (.rest 0)) (H.new (.cells e (es++xs) false))else .fail 17
  | _ => .fail 24
def AM (e j:Nat) (src:Option (Nat×List EV)) (x:EV) (H:Hp):lW:=
 match x with
 |.sl i off len _ =>(match src,H.get i with
  |some (n,xs),.cells ty cs full=>(match iG xs (Nat.mul (Nat.min n len) j)with
   |some l=>(match sG cs off (Nat.mul len j),rG cs off l with
    |some _,some cs'=> .ok (.int .i64 (.ofNat (Nat.min n len))) (H.set i (.cells ty cs' full))
    | _,_ => .fail 25)
   |none=> .fail 26)
  | _,_ => .fail 27)
 | _ => .fail 28
def oE (k:EV):List (EV×EV)→Option (Option EV)
 |[]=>some none
 |(k',v)::r=>match k,k' with
  |.int .i64 a,.int .i64 b=>bif F9 a b then some (some v)else oE k r
  |.sc (.string a),.sc (.string b)=>bif KK a b then some (some v)else oE k r
  | _,_ =>none
def wa (k v:EV):List (EV×EV)→Option (List (EV×EV))
 |[]=>some [(k,v)]
 |(k',j)::r=>match k,k' with
  |.int .i64 a,.int .i64 b=>bif F9 a b then some ((k',v)::r)else(wa k v r).map ((k',j):: ·)
  |.sc (.string a),.sc (.string b)=>bif KK a b then some ((k',v)::r)else(wa k v r).map ((k',j):: ·)
  | _,_ =>none
abbrev Call:=FuncId→List EV→Hp→lW
inductive EO where
 |nK (f:Fr→EV)
 |val (f:Fr→Hp→EV)
 |new (f:Fr→Option (v7×(Nat→EV)))
 |wE (f:Call→Fr→Hp→lW)
 |bad (w:Nat)
def mW (xs:List Operand) (F:Fr):List EV:=match xs with
 |[]=> []
 |x::r=>(eK x).get F::mW r F
def parts (xs:List (Nat×Operand)) (F:Fr):List (Nat×EV):=match xs with
 |[]=> []
 |x::r=>(x.1,(eK x.2).get F)::parts r F
def Ir (call:Call) (f:EV) (args:List EV) (H:Hp):lW:=
 match f with
 |.fn f first cap=>call f (first++args++cap) H
 | _ => .fail 30
def TX (P:Program) (t:TypeId):Option (TypeId×Nat):=match P.underlying t with
 |some (.slice e)=>some (e,P.cellsOf e)
 |some (.array _ e)=>some (e,P.cellsOf e)
 | _ =>none
def isStr (P:Program) (t:TypeId):Bool:=match P.underlying t with|some .string=>true| _ =>false
def zo (P:Program) (e:TypeId):Bool:=match P.underlying e with|some (.int .u8)=>Nat.beq (P.cellsOf e) 1| _ =>false
def vF (P:Program) (x:EV) (H:Hp):EV:=match x with
 |.aC=> .sc (.string .empty)
 |.sl i off len _ =>(match H.get i with
  |.cells _ cs _ =>(match iG (kG cs off) len with
   |some l=>(match sv l with|some j=> .sc (.string ⟨j.toArray⟩)|none=> .any)
   |none=> .any)
  | _ => .any)
 |.ah e l _ =>bif Nat.beq (P.cellsOf e) 1 then(match sv l with|some j=> .sc (.string ⟨j.toArray⟩)|none=> .any)else .any
 | _ => .any
def yR (e:TypeId) (x:EV):EV:=match x with
 |.sc (.string s)=>bif Nat.ble s.size 140737488355328 then .ah e (OC s.data.toList) false else .any
 | _ => .any
def yS (e:TypeId) (j:Nat) (x:EV) (H:Hp):lW:=match x with
 |.sl i 0 len (.kn c)=>(match H.get i with
  |.cells ty cs true=>bif Nat.beq ty e&&Nat.beq len c&&Nat.beq j 1&&jI cs len&&iy cs then .ok (.ah ty cs true) (H.set i .z8)else .fail 47
  | _ => .fail 48)
 | _ => .fail 49
def Iz (x:EV):EV:=match x with
 |.sc (.string s)=> .sc (.string s)
 | _ => .any
def DT (k:IntKind) (x:EV):EV:=match x with
 |.int _ n=> .int k (su k n)
 | _ => .any
def AU (P:Program) (src dst:TypeId) (x:EX):EO:=
 match P.underlying src,P.underlying dst with
 |some (.slice e),some .string=>bif zo P e then .val fun F H=>vF P (x.get F) H else .bad 40
 |some .string,some (.slice e)=>bif zo P e then .nK fun F=>yR e (x.get F)else .bad 41
 |some (.slice e),some (.slice _)=>let j:=P.cellsOf e;bif Nat.beq src dst&&zo P e then .wE fun _ F H=>yS e j (x.get F) H else .bad 42
 |some .string,some .string=> .nK fun F=>Iz (x.get F)
 |some (.int _),some (.int k)=> .nK fun F=>DT k (x.get F)
 | _,_ => .bad 46
def rY (x:EV):EV:=match x with
 |.ptr i o=> .ptr i o
 |.fn f a b=> .fn f a b
 |.mp i=> .mp i
 |.lq t v=> .lq t v
 | _ => .any
def yO (l:Option (Nat×LK)) (x:EV):EV:=match l,x with
 |some (o,j),.agg cs=>kB j cs o
 | _,_ => .any
def yN (n:Nat) (l:LK) (j:Nat) (x i:EV):EV:=match x,i with
 |.agg cs,.int _ (.ofNat k)=>bif Nat.blt k n then kB l cs (Nat.mul k j)else .any
 | _,_ => .any
def uc (x i:EV):EV:=match x,i with
 |.sc (.string s),.int _ (.ofNat n)=>bif Nat.blt n s.size then .int .u8 (.ofNat (s.data.toList.getD n 0).toNat)else .any
 | _,_ => .any
def qV (x:EV) (i:Nat):EV:=match x with
 |.cp vs=>Az vs i
 | _ => .any
def AJ (z x:EV):EV:=match x with
 |.sc .nilIface=> .cp [z,.bool false]
 | _ => .any
def kA (ok:Bool) (z:EV) (r:Option EV):EV:=match r with
 |some v=>bif ok then .cp [v,.bool true]else v
 |none=>bif ok then .cp [z,.bool false]else z
def H4 (v:EV):Bool:=match v with|.int .i64 _ =>true| _ =>false
def I8 (v:EV):Bool:=match v with|.sc (.string _)=>true| _ =>false
def ub (ok l:Bool) (z x k:EV) (H:Hp):EV:=match x with
 |.mp j=>(match H.get j with
  |.map es=>bif gN l (H4 k)&&(H4 k||I8 k)then(match oE k es with
   |some r=>kA ok z r
   |none=> .any)else .any
  | _ => .any)
 | _ => .any
def jo (o:Bool) (x k v:EV) (H:Hp):lW:=match x with
 |.mp j=>(match H.get j with
  |.map es=>bif gN o (H4 k)&&(H4 k||I8 k)then(match wa k v es with
   |some l=> .ok .any (H.set j (.map l))
   |none=> .fail 67)else .fail 67
  | _ => .fail 68)
 | _ => .fail 69
def DN (x:EV):Option (v7×(Nat→EV)):=match x with
 |.sc (.string s)=>some (.gA s 0,fun c=> .ptr c 0)
 | _ =>none
def vB (x:EV) (H:Hp):lW:=match x with
 |.ptr i 0=>(match H.get i with
  |.gA b pos=>bif Nat.blt pos b.size then .ok (.cp [.bool true,.int .i64 (.ofNat pos),.int .i32 (.ofNat (Utf8.decode b pos).1)]) (H.set i (.gA b (Nat.add pos (Utf8.decode b pos).2)))else .ok (.cp [.bool false]) H
  | _ => .fail 71)
 | _ => .fail 72
def vC (e:TypeId) (z:List EV) (j:Nat) (l c:EV):Option (v7×(Nat→EV)):=match l,c with
 |.int _ (.ofNat n),.int _ (.ofNat m)=>bif Nat.beq n m&&Nat.ble n 1000000&&Nat.ble (Nat.mul j n) 8000000 then some (.cells e (EF n z) true,fun c=> .sl c 0 n (.kn n))else none
 | _,_ =>none
def sS (e:TypeId) (j len:Nat) (ps:List (Nat×EV)):Option (v7×(Nat→EV)):=
 bif jI ps len&&Nat.ble (Nat.mul len j) 16777216 then(match flat j 0 ps with
  |some cs=>some (.cells e cs true,fun c=> .sl c 0 len (.kn len))
  |none=>none)else none
def ua (mx:Bool) (x y:EV):EV:=match x,y with
 |.int k a,.int _ b=> .int k (bif (bif mx then LY a b else LY b a)then b else a)
 | _,_ => .any
def od (o:Option EX) (F:Fr):Option EV:=match o with
 |none=>none
 |some x=>some (x.get F)
def oJ (P:Program) (c:Go.Call):EO:=
 match c.callee with
 |.value f=>let f:=eK f;let as:=c.args.toList;.wE fun call F H=>Ir call (f.get F) (mW as F) H
 |.builtin b=>(match b,c.args.toList,c.argTypes.toList with
  |.len,[x],[t]=>let x:=eK x;(match P.underlying t with
   |some (.slice _)=> .nK fun F=>Kl (x.get F)
   |some .string=> .nK fun F=>Nb (x.get F)
   |some (.array n _)=> .nK fun _ => .int .i64 (.ofNat n)
   |some (.map _ _)=> .val fun F H=>Kn (x.get F) H
   | _ => .bad 90)
  |.append,[s,x],[t,l]=>let s:=eK s;let x:=eK x;(match bC P t with
   |some e=>let j:=P.cellsOf e;let z:=(zeroV P e).cells;let be:=P.bytesOf e;bif !Nat.beq j 0&&(zeroV P e).laid&&jI z j then(match P.underlying l with
    |some (.slice _)=> .wE fun _ F H=>A6 e j be (Eo e j (x.get F) H) (s.get F) H
    |some .string=>bif zo P e then .wE fun _ F H=>A6 e j be (Js (x.get F)) (s.get F) H else .bad 91
    |some (.int _)=>bif Nat.ble be 1000 then .wE fun _ F H=>A6 e j be (Jt z (x.get F)) (s.get F) H else .bad 91
    | _ => .bad 91)else .bad 91
   |none=> .bad 91)
  |.copy,[s,x],[t,_]=>let s:=eK s;let x:=eK x;(match bC P t with
   |some e=>let j:=P.cellsOf e;bif Nat.beq j 0 then .bad 92 else .wE fun _ F H=>AM e j (GI e j (x.get F) H) (s.get F) H
   |none=> .bad 92)
  |.min,[x,y],_ =>let x:=eK x;let y:=eK y;.nK fun F=>ua false (x.get F) (y.get F)
  |.max,[x,y],_ =>let x:=eK x;let y:=eK y;.nK fun F=>ua true (x.get F) (y.get F)
  | _,_,_ => .bad 95)
 | _ => .bad 96
def aZ (P:Program) (op:Op):EO:=
 match op with
 |.move x=>let x:=eK x;.nK fun F=>x.get F
 |.assign x=>let x:=eK x;.nK fun F=>x.get F
 |.pick c a b=>let c:=eK c;let a:=eK a;let b:=eK b;.nK fun F=>match c.get F with|.bool t=>bif t then a.get F else b.get F| _ => .any
 |.alloc e=>let z:=(zeroV P e).cells;bif (zeroV P e).laid then .new fun _ =>some (.cells e z true,fun c=> .ptr c 0)else .bad 51
 |.box e x=>let x:=eK x;.new fun F=>bif (x.get F).laid then some (.cells e (x.get F).cells true,fun c=> .ptr c 0)else none
 |.build t ps=>let ps:=ps.toList;let z:=(zeroV P t).cells;bif cE P t&&(zeroV P t).laid then .nK fun F=>qa P t z (parts ps F)else .bad 54
 |.buildSlice t n ps=>let ps:=ps.toList;(match bC P t with
  |some e=>let j:=P.cellsOf e;bif Nat.beq j 0|| !(zeroV P e).laid|| !jI (zeroV P e).cells j then .bad 57 else .new fun F=>sS e j n (parts ps F)
  |none=> .bad 57)
 |.load t a=>let D:=fC P t;let a:=eK a;.val fun F H=>sR D (a.get F) H
 |.store t a v=>let n:=P.cellsOf t;let a:=eK a;let v:=eK v;.wE fun _ F H=>vz n (a.get F) (v.get F) H
 |.nilCheck x=>let x:=eK x;.nK fun F=>rY (x.get F)
 |.binOp o t x y _ =>let I:=gm o;let x:=eK x;let y:=eK y;.nK fun F=>tm P o I t (x.get F) (y.get F)
 |.unOp o _ x=>let x:=eK x;.nK fun F=>Q1 o (x.get F)
 |.convert s d x=>AU P s d (eK x)
 |.makeInterface t x=>let x:=eK x;bif P.concrete t then .nK fun F=> .lq t (x.get F)else .bad 61
 |.makeFunc f first cap=>let a:=first.toList;let b:=cap.toList;(match f with
  |.func f=> .nK fun F=> .fn f (mW a F) (mW b F)
  | _ => .bad 62)
 |.makeMap _ r=>(match r with
  |none=> .new fun _ =>some (.map [],fun c=> .mp c)
  |some _ => .bad 63)
 |.lookup t x i ok=>let x:=eK x;let i:=eK i;(match P.underlying t with
  |some (.map q L)=>let z:=zeroV P L;let E:=rP P q;bif wz P q&&z.laid then .val fun F H=>ub ok E z (x.get F) (i.get F) H else .bad 66
  | _ => .bad 66)
 |.mapUpdate t x i v=>let x:=eK x;let i:=eK i;let v:=eK v;(match P.underlying t with
  |some (.map q _)=>let E:=rP P q;bif wz P q then .wE fun _ F H=>jo E (x.get F) (i.get F) (v.get F) H else .bad 67
  | _ => .bad 67)
 |.range t x=>let x:=eK x;bif isStr P t then .new fun F=>DN (x.get F)else .bad 70
 |.next it str=>let it:=eK it;bif str then .wE fun _ F H=>vB (it.get F) H else .bad 73
 |.makeSlice t l c=>let l:=eK l;let c:=eK c;(match bC P t with
  |some e=>let z:=(zeroV P e).cells;let b:=P.bytesOf e;bif Nat.beq (P.cellsOf e) 0|| !(zeroV P e).laid|| !jI z (P.cellsOf e)then .bad 75 else .new fun F=>vC e z b (l.get F) (c.get F)
  |none=> .bad 75)
 |.slice t x lo A mx=>let x:=eK x;let lo:=lo.map eK;let A:=A.map eK;(match mx with
  |some _ => .bad 76
  |none=>(match P.underlying t with
   |some .string=> .nK fun F=>tZ (x.get F) (od lo F) (od A F)
   |some (.slice e)=>let j:=P.cellsOf e;bif Nat.beq j 0 then .bad 76 else .nK fun F=>vA e j (x.get F) (od lo F) (od A F)
   | _ => .bad 76))
 |.fieldAddr t x f=>let x:=eK x;(match P.underlying t with
  |some (.struct _)=>let pl:=aB P t f;.nK fun F=>kF pl (x.get F)
  | _ => .bad 78)
 |.field t x f=>let J:=p9 P t f;let x:=eK x;.nK fun F=>yO J (x.get F)
 |.indexAddr t x i=>let x:=eK x;let i:=eK i;(match P.underlying t with
  |some (.slice e)=>let j:=P.cellsOf e;bif Nat.beq j 0 then .bad 81 else .nK fun F=>nh j (x.get F) (i.get F)
  |some (.array n e)=>let j:=P.cellsOf e;bif Nat.beq j 0 then .bad 81 else .nK fun F=>pj n j (x.get F) (i.get F)
  | _ => .bad 81)
 |.index t x i=>let x:=eK x;let i:=eK i;(match P.underlying t with
  |some (.array n e)=>let D:=fC P e;let j:=P.cellsOf e;.nK fun F=>yN n D j (x.get F) (i.get F)
  |some .string=> .nK fun F=>uc (x.get F) (i.get F)
  | _ => .bad 82)
 |.extract x i=>let x:=eK x;.nK fun F=>qV (x.get F) i
 |.typeAssert x _ u ok=>let x:=eK x;let z:=zeroV P u;bif ok&&z.laid&&o6 P u then .nK fun F=>AJ z (x.get F)else .bad 88
 |.call c=>oJ P c
 | _ => .bad 97
inductive CR where
 |fail (why:Nat)
 |norm (F:Fr) (H:Hp)
 |exit (id:Nat) (F:Fr) (H:Hp)
 |ret (F:Fr) (H:Hp)
def force (v:EV) (r:CR):CR:=match v with
 |.int _ n=>Cp n r
 |.bool b=>bif b then r else r
 |.ptr _ o=>bif Nat.beq o o then r else r
 |.sl _ o l _ =>bif Nat.beq o l then r else r
 | _ =>r
def gS (d:Option Nat) (v:EV) (F:Fr):Fr:=match d with
 |none=>F
 |some d=>T3.set (p3 d) v F
def HE (n:Nat) (d:Option Nat):Bool:=match d with
 |none=>true
 |some d=>Nat.blt d n
def gd (ops:Array Oper) (j:Nat):EX:=match (ops[j]?).bind (·.dst)with|some d=>eK (.tmp d)|none=>⟨fun _ => .any⟩
def wh (f r w:Nat):Nat:=bif Nat.blt w 1000 then f*1000000+r*1000+w else w
def EO.step (e:EO) (j:Nat→Nat) (call:Call) (F:Fr) (V H:Hp) (k:EV→Hp→CR):CR:=
 match e with
 |.nK f=>(match f F with
  |.any=> .fail (j 1)
  |v=>force v (k v H))
 |.val f=>(match f F V with
  |.any=> .fail (j 2)
  |v=>force v (k v H))
 |.new f=>(match f F with
  |some (b,mk)=>bif Nat.blt H.c 32768 then k (mk H.c) (H.new b)else .fail (j 3)
  |none=> .fail (j 4))
 |.wE f=>(match f call F H with
  |.ok v l=>force v (k v l)
  |.fail w=> .fail (j w))
 |.bad w=> .fail (j w)
structure U7 where
 run:Call→Fr→Hp→Hp→(Fr→Hp→EV→CR)→CR
def pH:EV:= .sc undef
def g8 (P:Program) (l bj n:Nat) (ops:Array Oper) (o:Oper):U7:=
 let e:=aZ P o.op
 let d:=o.dst
 bif HE n d then(match o.guard with
 |none=>⟨fun call F V H k=>e.step (wh l bj) call F V H fun v q=>k (gS d v F) q v⟩
 |some (j,want)=>let g:=gd ops j;⟨fun call F V H k=>match g.get F with
  |.bool b=>bif gN b want then e.step (wh l bj) call F V H (fun v q=>k (gS d v F) q v)else k (gS d pH F) H pH
  |.sc (.tuple _)=>k (gS d pH F) H pH
  | _ => .fail (wh l bj 100)⟩)else⟨fun _ _ _ _ _ => .fail (wh l bj 101)⟩
def rC (P:Program) (j bj n:Nat) (call:Call) (ops:Array Oper):List Oper→Fr→Hp→CR
 |[],F,H=> .norm F H
 |o::r,F,H=>(g8 P j bj n ops o).run call F H H (fun F H _ =>rC P j bj n call ops r F H)
def ti (c:Nat):Nat→EV→Bool
 |0,_ =>false
 |f+1,v=>match v with
  |.any|.int _ _ |.bool _ |.sc _ |.aC=>true
  |.ptr i _ |.mp i|.sl i _ _ _ =>Nat.blt i c
  |.ah _ l _ |.agg l|.cp l=>l.all (ti c f)
  |.fn _ a b=>a.all (ti c f)&&b.all (ti c f)
  |.lq _ v=>ti c f v
def Il (a b:Mn):Bool:=match a,b with
 |.kn x,.kn y=>Nat.beq x y
 |.rest x,.rest y=>Nat.beq x y
 | _,_ =>false
def Nv (a b:Value):Bool:=match a,b with
 |.string x,.string y=>KK x y
 |.pointer none,.pointer none=>true
 |.map none,.map none=>true
 |.nilFunc,.nilFunc=>true
 |.nilIface,.nilIface=>true
 | _,_ =>false
def AG (eq:EV→EV→Bool):List EV→List EV→Bool
 |[],[]=>true
 |a::as,b::j=>eq a b&&AG eq as j
 | _,_ =>false
def eqv:Nat→EV→EV→Bool
 |0,_,_ =>false
 |d+1,a,b=>match a,b with
  |.int k x,.int k' y=>PG k k'&&F9 x y
  |.bool x,.bool y=>gN x y
  |.sc x,.sc y=>Nv x y
  |.aC,.aC=>true
  |.ptr i o,.ptr j p=>Nat.beq i j&&Nat.beq o p
  |.sl i o l c,.sl j p m F=>Nat.beq i j&&Nat.beq o p&&Nat.beq l m&&Il c F
  |.ah e l f,.ah E q u=>Nat.beq e E&&AG (eqv d) l q&&gN f u
  |.mp i,.mp j=>Nat.beq i j
  |.fn f a b,.fn u J I=>Nat.beq f u&&AG (eqv d) a J&&AG (eqv d) b I
  |.lq t v,.lq D A=>Nat.beq t D&&eqv d v A
  |.agg l,.agg q=>AG (eqv d) l q
  |.cp l,.cp q=>AG (eqv d) l q
  | _,_ =>false
def nj (m j:Nat):Bool:=Nat.beq (Nat.mod (Nat.shiftRight m j) 2) 1
def mv (acc:List Nat):List Edge→Nat
 |[]=>0
 |e::r=>bif Region.binds .any e then Nat.lor (Nat.lor (Nat.shiftLeft 1 e.on) (acc.getD e.on 0)) (mv acc r)else mv acc r
def kK:List Oper→List Nat→List Nat
 |[],acc=>acc
 |o::r,acc=>kK r (acc++ [mv acc o.after.toList])
def HU:EO→Nat
 |.nK _ =>0
 |.val _ =>1
 |.new _ =>2
 |.wE _ =>3
 |.bad _ =>4
def kinds (P:Program) (ops:List Oper):List Nat:=ops.map fun o=>HU (aZ P o.op)
def Mh:Nat→(Nat→Bool)→Bool
 |0,_ =>true
 |n+1,f=>f n&&Mh n f
def jy (ops:List Oper) (i:Nat):Option Nat:=match ops[i]? with|some o=>o.dst|none=>none
def pX (ops:List Oper) (i:Nat):List Nat:=match ops[i]? with|some o=>o.looksAt ops.toArray|none=> []
def E5 (t:Nat):List Nat→Bool
 |[]=>false
 |x::r=>Nat.beq x t||E5 t r
def n9 (ops:List Oper) (B l:List Nat) (j i:Nat):Bool:=
 (match jy ops j with
  |some t=>(match jy ops i with|some u=> !Nat.beq t u|none=>true)&&(!E5 t (pX ops i)||nj (B.getD i 0) j)
  |none=>true)&&
 (match jy ops i with
  |some u=> !E5 u (pX ops j)||nj (B.getD i 0) j
  |none=>true)&&
 (!Nat.beq (l.getD i 0) 3|| !(Nat.beq (l.getD j 0) 3||Nat.beq (l.getD j 0) 2)||nj (B.getD i 0) j)
def tY (i:Nat):List Edge→Bool
 |[]=>true
 |e::r=>(!Region.binds .any e||Nat.blt e.on i)&&tY i r
def B9 (ops:List Oper) (B l:List Nat):Bool:=
 Mh ops.length fun i=>(match ops[i]? with|some o=>tY i o.after.toList|none=>true)&&Mh i fun j=>n9 ops B l j i
def allowed (j B:List Nat) (i p:Nat):Bool:=
 Mh j.length fun e=> !Nat.beq (j.getD e 0) 3||((!nj (B.getD i 0) e||Nat.blt e p)&&(!Nat.blt e p||Nat.blt e i|| !nj (B.getD e 0) i))
def vm:CR→Bool|.norm _ _ =>true| _ =>false
structure Tn where
 i:Nat
 f:Hp→Bool
def CD (l B:List Nat) (j:List (Nat×Hp)) (c:Tn):Bool:=j.all fun p=> !allowed l B c.i p.1||c.f p.2
def pM (P:Program) (j bj n:Nat) (call:Call) (ops:List Oper) (q B:List Nat):Nat→List Oper→Fr→Hp→Hp→List (Nat×Hp)→List Tn→CR
 | _,[],F,V,H,l,cs=>bif cs.all (CD q B l)then .norm F H else .fail (wh j bj 110)
 |i,o::r,F,V,H,l,cs=>
  let e:=g8 P j bj n ops.toArray o
  let k:=q.getD i 0
  e.run call F V H fun D u v=>
   bif Nat.beq k 3 then pM P j bj n call ops q B (Nat.succ i) r D u u (l++ [(Nat.succ i,u)]) cs
   else bif Nat.beq k 1 then(bif ti H.c 8 v then
    pM P j bj n call ops q B (Nat.succ i) r D V u l (⟨i,fun h=>vm (e.run call F h H fun A y w=>bif eqv 8 v w then .norm A y else .fail 0)⟩::cs)else .fail (wh j bj 111))
   else pM P j bj n call ops q B (Nat.succ i) r D V u l cs
def tE (P:Program) (j bj n:Nat) (call:Call) (ops:List Oper) (F:Fr) (H:Hp):CR:=
 let l:=kinds P ops
 let B:=kK ops []
 bif B9 ops B l then pM P j bj n call ops l B 0 ops F H H [(0,H)] []else .fail (wh j bj 112)
def Aq:Code→Option (FuncId×Array Operand×Nat)
 |.region _ ops draw=>bif draw then none else(match ops.toList with
  |[⟨some d,.makeFunc (.func f) first cap,_,_,_,none⟩,⟨none,.defer ⟨.value (.tmp j),args,_⟩,_,_,_,none⟩]=>bif Nat.beq d j&&first.isEmpty&&args.isEmpty then some (f,cap,d)else none
  | _ =>none)
 | _ =>none
def jX:List EV→Nat→Fr→Fr
 |[],_,F=>F
 |v::r,k,F=>jX r (Nat.succ k) (T3.set (p3 k) v F)
def fW (rs:List ResultVar) (P:Program) (F:Fr) (H:Hp):Option (List EV):=match rs with
 |[]=>some []
 |.tmp t::r=>(fW r P F H).map ((eK (.tmp t)).get F:: ·)
 |.cell a t::r=>match sR (fC P t) ((eK (.tmp a)).get F) H with
  |.any=>none
  |v=>(fW r P F H).map (v:: ·)
def LR:List EV→EV
 |[v]=>v
 |vs=> .cp vs
abbrev Qb:=FuncId→Option (List EV→Hp→lW)
def jh (P:Program) (l md:Nat) (call:Call):Nat→Code→Fr→Hp→CR
 |0,_,_,_ => .fail (wh l 0 200)
 |n+1,c,F,H=>match c with
  |.skip=> .norm F H
  |.label _ => .norm F H
  |.ret=> .ret F H
  |.exit id=> .exit id F H
  |.region id ops draw=>bif draw then tE P l id md call ops.toList F H else rC P l id md call ops ops.toList F H
  |.seq a b=>match jh P l md call n a F H with
   |.norm F H=>jh P l md call n b F H
   |r=>r
  |.cond c a b=>match (eK c).get F with
   |.bool t=>bif t then jh P l md call n a F H else jh P l md call n b F H
   | _ => .fail (wh l 0 201)
  |.block id b=>match jh P l md call n b F H with
   |.exit j F H=>bif Nat.beq j id then .norm F H else .exit j F H
   |r=>r
  |.loop b=>match jh P l md call n b F H with
   |.norm F H=>jh P l md call n (.loop b) F H
   |r=>r
  | _ => .fail (wh l 0 202)
def yd (rs:List ResultVar) (P:Program) (F:Fr) (H:Hp) (w:Nat):lW:=match fW rs P F H with
 |some vs=> .ok (LR vs) H
 |none=> .fail w
def qF:List Oper→Bool
 |[]=>true
 |o::r=>(match o.guard with|none=>true|some _ =>false)&&qF r
def rD (P:Program) (call:Call) (n:Nat) (g:FuncId) (j:List EV) (H:Hp):Option Hp:=
 match P.funcs[g]? with
 |some o=>(match o.body with
  |some (.seq (.region bj ops draw) y)=>(match ops.toList with
   |⟨some d,.call ⟨.builtin .recover,as,_⟩,_,_,_,none⟩::l=>bif !draw&&as.isEmpty&&o.results.isEmpty&&Nat.blt d o.ntmps&&Nat.ble o.ntmps 512&&Nat.ble j.length o.ntmps&&qF l&&im P g then
    (match rC P g bj o.ntmps call ops l (T3.set (p3 d) (.sc .nilIface) (jX j 0 L6)) H with
     |.norm F H=>(match jh P g o.ntmps call n y F H with
      |.norm _ H=>some H
      |.ret _ H=>some H
      | _ =>none)
     | _ =>none)else none
   | _ =>none)
  | _ =>none)
 |none=>none
def JJ (P:Program) (j md:Nat) (call:Call) (rs:List ResultVar):Nat→Code→Fr→Hp→lW
 |0,_,_,_ => .fail 300
 |n+1,c,F,H=>match c with
  |.seq a b=>(match Aq a with
   |some (f,cap,d)=>bif Nat.blt d md&&im P f then(match jh P j md call n b (T3.set (p3 d) (.fn f [] (mW cap.toList F)) F) H with
    |.norm q o=>(match rD P call n f (mW cap.toList F) o with
     |some l=>yd rs P q l 301
     |none=> .fail 302)
    |.ret q o=>(match rD P call n f (mW cap.toList F) o with
     |some l=>yd rs P q l 303
     |none=> .fail 304)
    |.fail w=> .fail w
    | _ => .fail 305)else .fail 309
   |none=>(match jh P j md call n a F H with
    |.norm F H=>JJ P j md call rs n b F H
    |.ret q o=>yd rs P q o 306
    |.fail w=> .fail w
    | _ => .fail 307))
  | _ => .fail 308
def Cm:Code→Bool
 |.seq a b=>(Aq a).isSome||Cm b
 | _ =>false
def BT (P:Program) (zT:Qb):Nat→FuncId→List EV→Hp→lW
 |0,f,_,_ => .fail 400
 |n+1,f,args,H=>match zT f with
  |some o=>o args H
  |none=>(match P.funcs[f]? with
   |some fn=>(match fn.body with
    |some c=>bif Nat.ble fn.ntmps 512&&Nat.ble args.length fn.ntmps&&im P f then
     (bif Cm c then JJ P f fn.ntmps (BT P zT n) fn.results.toList n c (jX args 0 L6) H
     else(match jh P f fn.ntmps (BT P zT n) n c (jX args 0 L6) H with
      |.norm l j=>yd fn.results.toList P l j 401
      |.ret l j=>yd fn.results.toList P l j 402
      |.fail w=> .fail w
      | _ => .fail 403))else .fail 406
    |none=> .fail (405000+f))
   |none=> .fail 404)
end Go.AW.Ev
