/- A layer of abstract values over the model's machine: own work for this claim, part AwOps4. -/
import Derived.Laws.StructEq
import Derived.Laws.IdiomStrings
import Derived.MapKept
import Derived.Test.YtknalmoackcpbaaGreatAwCore
set_option linter.all false
namespace Go.AW
open Go Go.RowKit
variable {P:Program} {G:Gh} {σ:AS} {w:World} {K Pn:AV→AS→Prop}
def fP (P:Program) (t:TypeId) (x:AV) (f:Nat) (K:AV→Prop):Prop:=
 match au P t f,P.underlying t with
 |some (o,n),some (.struct _)=>n≠0∧(match x with
  |.ptr id off=>K (.ptr id (off+o))
  |.iC cells=>K (.iC (cells.drop o))
  | _ =>False)
 | _,_ =>False
theorem xE (u:Inv P G σ w) {t:TypeId}{x:AV}{v:Value}{f:Nat}(q:ba P G x v) (h:fP P t x f fun v=>K v σ):
 Out P G K Pn (((do pure (Next.value (←Instr.fieldAt t v f))):Sem Next).run P w):=by
 unfold fP at h;split at h
 ·rename_i o n fs d hu;obtain⟨D,h⟩:=h;simp only[au,hu]at d;cases hf:fs[f]? with
  |none=>rw[hf]at d;cases d
  |some fl=>
   rw[hf]at d;simp only[Option.map_some,Option.some.injEq,Prod.mk.injEq]at d;obtain⟨rfl,rfl⟩:=d;obtain⟨i,g,y,_⟩:=bR (P:=P) (t:=fl.type) D;have j:i.size≠0:=by omega
   have run:∀b off:Nat,(Instr.fieldAt t (.pointer (some ⟨b,off,none⟩)) f).run P w= .ok (.pointer (some ⟨b,off+fl.offset,none⟩)) w:=fun b off=>by simp[Instr.fieldAt,run_underlying hu,hf,Instr.sureAddr,fieldPlace,sizeOf,run_typeInfo w g,j,Addr.add_lit]
   split at h
   ·cases q with
    |ptr E=>exact Out.pure u (run _ _) (.ptr E) h
   ·rename_i cells;cases q with
    |iC vs hm A=>
     refine Out.pure u (run _ _) (.iC (fun k=>vs (fl.offset+k)) (fun k l=> ?_) (fun k l=> ?_)) h
     ·rw[Nat.add_assoc];exact hm _ (by simp at l;omega)
     ·have:=A (fl.offset+k) (by simp at l;omega);simpa[List.getD_eq_getElem?_getD]using this
   ·exact h.elim
 ·exact h.elim
def oT (P:Program) (t:TypeId) (x:AV) (f:Nat) (K:AV→Prop):Prop:=
 match D6 P t f,x with
 |some (o,.one),.agg cells=>o<cells.length∧K (cells.getD o .any)
 |some (o,.agg n),.agg cells=>n≠0∧o+n≤cells.length∧K (.agg ((cells.drop o).take n))
 | _,_ =>False
theorem Ep (A:Inv P G σ w) {t:TypeId}{x:AV}{v:Value}{f:Nat}(y:ba P G x v) (h:oT P t x f fun v=>K v σ):
 Out P G K Pn (((do pure (Next.value (←Instr.field t v f))):Sem Next).run P w):=by
 unfold oT at h;have get:∀ {o:Nat} {l:LK},D6 P t f=some (o,l)→ ∃fs fl,P.underlying t=some (.struct fs)∧fs[f]? =some fl∧fl.offset=o∧gi P fl.type=l:=by
  intro o l hf;unfold D6 at hf;split at hf
  ·rename_i fs hu;cases d:fs[f]? with
   |none=>rw[d]at hf;cases hf
   |some fl=>rw[d]at hf;simp only[Option.map_some,Option.some.injEq,Prod.mk.injEq]at hf;exact⟨fs,fl,hu,d,hf.1,hf.2⟩
  ·cases hf
 split at h
 ·rename_i o cells hf;obtain⟨fs,fl,hu,d,rfl,hl⟩:=get hf;cases y with
  |agg vs l q=>
   have:=q fl.offset h.1;have u:fl.offset<vs.length:=by omega
   refine Out.pure A (v:=vs.getD fl.offset undef) ?_ this h.2;simp[Instr.field,run_underlying hu,d,part,(vC (w:=w) hl).1,asAgg,u]
 ·rename_i o n cells hf;obtain⟨fs,fl,hu,d,rfl,hl⟩:=get hf;cases y with
  |agg vs l q=>
   obtain⟨k1,H⟩:=vD (w:=w) hl;obtain⟨i,j,D,_⟩:=bR (P:=P) (t:=fl.type) (by omega);refine Out.pure A (v:= .agg ((vs.drop fl.offset).take n).toArray) ?_ (.agg _ (by simp;omega) (fun k E=> ?_)) h.2.2
   ·have F:vs.toArray.extract fl.offset (fl.offset+i.size)=((vs.drop fl.offset).take n).toArray:=by
     have:fl.offset+i.size-fl.offset=n:=by omega
     simp[this]
    simp[Instr.field,run_underlying hu,d,part,k1,asAgg,sizeOf,run_typeInfo w j];simpa using F
   ·have g:k<n:=by simp at E;omega
    have:=q (fl.offset+k) (by omega);simp only[List.getD_eq_getElem?_getD]at this⊢;rw[List.getElem?_take_of_lt g,List.getElem?_take_of_lt g,List.getElem?_drop,List.getElem?_drop];exact this
 ·exact h.elim
def rU (P:Program) (t:TypeId):Option (Nat×TypeId):=match P.underlying t with|some (.array n e)=>some (n,e)| _ =>none
theorem Ay {t e:TypeId}{n:Nat}(h:rU P t=some (n,e)):P.underlying t=some (.array n e):=by
 unfold rU at h;split at h
 ·cases h;assumption
 ·cases h
def eV (P:Program) (t:TypeId) (x i:AV) (K:AV→Prop):Prop:=
 match i with
 |.sc (.int _ i)=>match x with
  |.an e elems _ _ =>ct P t=some e∧P.cellsOf e≠0∧0≤i∧i<elems.length∧K (.iC (elems.getD i.toNat .any).cells)
  |.fT id off len _ =>match ct P t with
   |some e=>P.cellsOf e≠0∧0≤i∧i<len∧K (.ptr id (off+i.toNat*P.cellsOf e))
   |none=>False
  |.ptr id off=>match rU P t with
   |some (n,e)=>P.cellsOf e≠0∧0≤i∧i<n∧K (.ptr id (off+i.toNat*P.cellsOf e))
   |none=>False
  |.iC cells=>match rU P t with
   |some (n,e)=>P.cellsOf e≠0∧0≤i∧i<n∧K (.iC (cells.drop (i.toNat*P.cellsOf e)))
   |none=>False
  | _ =>False
 | _ =>False
theorem xD (D:Inv P G σ w) {t:TypeId}{x J:AV}{v I:Value}(y:ba P G x v) (F:ba P G J I) (h:eV P t x J fun v=>K v σ):
 Out P G K Pn (((do pure (Next.value (←Instr.indexAt t v I))):Sem Next).run P w):=by
 unfold eV at h;split at h
 ·rename_i k i;cases F;split at h
  ·rename_i e elems own nil;obtain⟨h1,u,q,l,o⟩:=h;have hu:=fj h1;obtain⟨inf,d,g,_⟩:=bR (P:=P) (t:=e) u;cases y with
   |jd L=>simp at l;omega
   |pR=>simp at l;omega
   |an vs hl hm E M L=>
    rename_i b off cap;have A:i.toNat<elems.length:=by omega
    refine Out.pure D (v:= .pointer (some ⟨b,off+i.toNat*P.cellsOf e,none⟩)) ?_ (.iC (fun k=>vs (i.toNat*P.cellsOf e+k)) (fun k j=> ?_) (fun k j=> ?_)) o
    ·simp[Instr.indexAt,asIntOf,run_underlying hu,q,l,sizeOf,run_typeInfo w d,g,Addr.add_lit]
    ·rw[hl _ A]at j;rw[Nat.add_assoc];exact hm _ (kc A j)
    ·rw[hl _ A]at j;exact E _ _ A j
  ·rename_i id off len cap;split at h
   ·rename_i e he;obtain⟨u,q,l,o⟩:=h;have hu:=fj he;obtain⟨inf,d,g,_⟩:=bR (P:=P) (t:=e) u;cases y with
    |fT H=>refine Out.pure D ?_ (.ptr H) o;simp[Instr.indexAt,asIntOf,run_underlying hu,q,l,sizeOf,run_typeInfo w d,g,Addr.add_lit]
   ·exact h.elim
  ·rename_i id off;split at h
   ·rename_i n e he;obtain⟨u,q,l,o⟩:=h;have hu:=Ay he;obtain⟨inf,d,g,_⟩:=bR (P:=P) (t:=e) u;cases y with
    |ptr H=>refine Out.pure D ?_ (.ptr H) o;simp[Instr.indexAt,asIntOf,run_underlying hu,q,l,sizeOf,run_typeInfo w d,g,Addr.add_lit,Instr.sureAddr]
   ·exact h.elim
  ·rename_i cells;split at h
   ·rename_i n e he;obtain⟨u,q,l,o⟩:=h;have hu:=Ay he;obtain⟨inf,d,g,_⟩:=bR (P:=P) (t:=e) u;cases y with
    |iC vs hm E=>
     rename_i b off;refine Out.pure D (v:= .pointer (some ⟨b,off+i.toNat*P.cellsOf e,none⟩)) ?_ (.iC (fun k=>vs (i.toNat*P.cellsOf e+k)) (fun k j=> ?_) (fun k j=> ?_)) o
     ·simp[Instr.indexAt,asIntOf,run_underlying hu,q,l,sizeOf,run_typeInfo w d,g,Addr.add_lit,Instr.sureAddr]
     ·rw[Nat.add_assoc];exact hm _ (by simp at j;omega)
     ·have:=E (i.toNat*P.cellsOf e+k) (by simp at j;omega);simpa[List.getD_eq_getElem?_getD]using this
   ·exact h.elim
  ·exact h.elim
 ·exact h.elim
def oS (P:Program) (t:TypeId) (x i:AV) (K:AV→Prop):Prop:=
 match i,x with
 |.sc (.int _ i),.sc (.string s)=>P.underlying t=some .string∧0≤i∧i<s.size∧K (.sc (.int .u8 (s.data.toList.getD i.toNat 0).toNat))
 |.sc (.int _ i),.agg cells=>match rU P t with
  |some (n,e)=>match gi P e with
   |.one=>0≤i∧i<n∧i<cells.length∧K (cells.getD i.toNat .any)
   |.agg m=>m≠0∧0≤i∧i<n∧i.toNat*m+m≤cells.length∧K (.agg ((cells.drop (i.toNat*m)).take m))
   |.bad=>False
  |none=>False
 | _,_ =>False
theorem Eo (F:Inv P G σ w) {t:TypeId}{x L:AV}{v J:Value}(D:ba P G x v) (u:ba P G L J) (h:oS P t x L fun v=>K v σ):
 Out P G K Pn (((do pure (Next.value (←Instr.index t v J))):Sem Next).run P w):=by
 unfold oS at h;split at h
 ·rename_i k i s;cases u;cases D;obtain⟨hu,h1,y,I⟩:=h;have g:i.toNat<s.size:=by omega
  refine Out.pure F (v:= .int .u8 (s.data.toList.getD i.toNat 0).toNat) ?_ (.sc _) I;have O:s[i.toNat]? =some (s.data.toList.getD i.toNat 0):=by
   have:s[i.toNat]? =some s[i.toNat]:=getElem?_pos s i.toNat g;rw[this];congr 1;have o:i.toNat<s.data.size:=g;have Q:s.data.toList.getD i.toNat 0=s.data[i.toNat]:=by rw[List.getD_eq_getElem?_getD,List.getElem?_eq_getElem (by simpa using o)];simp
   rw[Q];rfl
  simp[Instr.index,asIntOf,run_underlying hu,h1,O]
 ·rename_i k i cells;cases u;split at h
  ·rename_i n e he;have hu:=Ay he;split at h
   ·rename_i hl;obtain⟨h1,y,I,H⟩:=h;obtain⟨k1,A⟩:=vC (w:=w) hl;obtain⟨inf,d,j,_⟩:=bR (P:=P) (t:=e) (by omega);cases D with
    |agg vs l E=>
     have g:i.toNat<vs.length:=by omega
     refine Out.pure F (v:=vs.getD i.toNat undef) ?_ (E _ (by omega)) H;simp[Instr.index,asIntOf,run_underlying hu,h1,y,part,k1,sizeOf,run_typeInfo w d,j,A,g]
   ·rename_i m hl;obtain⟨h0,h1,y,I,H⟩:=h;obtain⟨k1,A⟩:=vD (w:=w) hl;obtain⟨inf,d,j,_⟩:=bR (P:=P) (t:=e) (by omega);cases D with
    |agg vs l E=>
     refine Out.pure F (v:= .agg ((vs.drop (i.toNat*m)).take m).toArray) ?_ (.agg _ (by simp;omega) (fun k M=> ?_)) H
     ·have S:vs.toArray.extract (i.toNat*m) (i.toNat*m+m)=((vs.drop (i.toNat*m)).take m).toArray:=by
       have:i.toNat*m+m-i.toNat*m=m:=by omega
       simp[this]
      simp[Instr.index,asIntOf,run_underlying hu,h1,y,part,k1,sizeOf,run_typeInfo w d,j,A];try simpa using S
     ·have q:k<m:=by simp at M;omega
      have:=E (i.toNat*m+k) (by omega);simp only[List.getD_eq_getElem?_getD]at this⊢;rw[List.getElem?_take_of_lt q,List.getElem?_take_of_lt q,List.getElem?_drop,List.getElem?_drop];exact this
   ·exact h.elim
  ·exact h.elim
 ·exact h.elim
def kv (x:Option AV) (d:Nat) (K:Nat→Prop):Prop:=
 match x with
 |none=>K d
 |some (.sc (.int _ n))=>0≤n∧K n.toNat
 | _ =>False
def gx (P:Program) (t:TypeId) (x:AV) (lo d mx:Option AV) (K:AV→Prop):Prop:=
 match mx with
 |some _ =>False
 |none=>match x with
  |.sc (.string s)=>P.underlying t=some .string∧kv d s.size fun h=>h≤s.size∧kv lo 0 fun l=>l≤h∧K (.sc (.string (s.extract l h)))
  |.an e elems _ nil=>ct P t=some e∧P.cellsOf e≠0∧kv d elems.length fun h=>h≤elems.length∧kv lo 0 fun l=>l≤h∧K (.an e ((elems.take h).drop l) .aE nil)
  |.fT id off len cap=>match ct P t with
   |some e=>P.cellsOf e≠0∧kv d len fun h=>h≤cap∧kv lo 0 fun l=>l≤h∧l<cap∧K (.fT id (off+l*P.cellsOf e) (h-l) (cap-l))
   |none=>False
  | _ =>False
theorem Em (hinv:Inv P G σ w) {t:TypeId}{x:AV}{v:Value}{lo hi mx:Option AV}{A D F:Option Value}(hx:ba P G x v)
 (U:(lo=none∧A=none)∨ ∃a b,lo=some a∧A=some b∧ba P G a b) (V:(hi=none∧D=none)∨ ∃a b,hi=some a∧D=some b∧ba P G a b)
 (a1:(mx=none∧F=none)∨ ∃a b,mx=some a∧F=some b∧ba P G a b)
 (h:gx P t x lo hi mx fun v=>K v σ):
 Out P G K Pn (((do pure (Next.value (←Instr.sliceAt t v A D F))):Sem Next).run P w):=by
 unfold gx at h;cases mx with
 |some m=>exact h.elim
 |none=>
  obtain⟨_,rfl⟩: _ ∧F=none:=by
   rcases a1 with h|⟨a,b,h,_⟩
   ·exact h
   ·cases h
  have bound:∀(o:Option AV) (Z:Option Value) (d:Nat) (Q:Nat→Prop),((o=none∧Z=none)∨ ∃a b,o=some a∧Z=some b∧ba P G a b)→kv o d Q→
   ∃k,Q k∧((o=none∧Z=none∧k=d)∨ ∃kd n,Z=some (.int kd n)∧0≤n∧k=n.toNat):=by
   intro o Z d Q h1 Y;rcases h1 with⟨rfl,rfl⟩|⟨a,b,rfl,rfl,T⟩
   ·exact⟨d,Y,.inl ⟨rfl,rfl,rfl⟩⟩
   ·unfold kv at Y;split at Y
    ·rename_i h;cases h
    ·rename_i kd n he;cases he;cases T;exact⟨n.toNat,Y.2,.inr ⟨kd,n,rfl,Y.1,rfl⟩⟩
    ·exact Y.elim
  have q:∀(ac:Bool) (len cap h l:Nat),h≤cap→l≤h→((hi=none∧D=none∧h=len)∨ ∃kd n,D=some (.int kd n)∧0≤n∧h=n.toNat)→
   ((lo=none∧A=none∧l=0)∨ ∃kd n,A=some (.int kd n)∧0≤n∧l=n.toNat)→
   (Instr.sliceBounds ac len cap A D none).run P w= .ok (l,h,cap) w:=by
   intro ac len cap h l hc hl hh a2;have sb:∀(kd:IntKind) (n:Int) (y:Nat) (code:BoundsCode),0≤n→n.toNat≤y→(Instr.sliceBound (.int kd n) y code).run P w= .ok n.toNat w:=by intro kd n y code h0 h1;have:0≤n∧n≤(y:Int):=⟨h0,by omega⟩;simp[Instr.sliceBound,asIntOf,this]
   rcases hh with⟨_,rfl,rfl⟩|⟨kd,n,rfl,al,rfl⟩<;>rcases a2 with⟨_,rfl,rfl⟩|⟨ab,n2,rfl,af,rfl⟩
   ·simp[Instr.sliceBounds]
   ·simp[Instr.sliceBounds,sb ab n2 _ _ af hl]
   ·simp[Instr.sliceBounds,sb kd n _ _ al hc]
   ·simp[Instr.sliceBounds,sb kd n _ _ al hc,sb ab n2 _ _ af hl]
  simp only at h;split at h
  ·rename_i s;obtain⟨hu,h⟩:=h;obtain⟨h1,⟨M,h⟩,k1⟩:=bound _ _ _ _ V h;obtain⟨l1,⟨L,h⟩,O⟩:=bound _ _ _ _ U h;cases hx;refine Out.pure hinv (v:= .string (s.extract l1 h1)) ?_ (.sc _) h;simp[Instr.sliceAt,Instr.slice,run_underlying hu,q false s.size s.size h1 l1 M L k1 O]
  ·rename_i e elems own nil;obtain⟨he,S,hA⟩:=h;have hu:=fj he;obtain⟨inf,g,E,_⟩:=bR (P:=P) (t:=e) S;obtain⟨h1,⟨M,hB⟩,k1⟩:=bound _ _ _ _ V hA;clear hA;obtain⟨l1,⟨L,X⟩,O⟩:=bound _ _ _ _ U hB;clear hB;cases hx with
   |jd ho=>
    simp only[List.length_nil]at M;have T:=q true 0 0 h1 l1 (by omega) L k1 O;have e1:h1=0:=by omega
    have e2:l1=0:=by omega
    subst e1 e2;refine Out.pure hinv (v:= .slice none 0 0) ?_ ?_ X
    ·simp[Instr.sliceAt,Instr.slice,run_underlying hu,T,sizeOf,run_typeInfo w g]
    ·simpa using ba.jd (P:=P) (G:=G) (e:=e) (own:= .aE) trivial
   |pR=>
    rename_i a cap;have T:=q true 0 cap h1 l1 (by simp at M;omega) L k1 O;have e1:h1=0:=by simp at M;omega
    have e2:l1=0:=by omega
    subst e1 e2;refine Out.pure hinv (v:= .slice (some a) 0 cap) ?_ ?_ X
    ·simp[Instr.sliceAt,Instr.slice,run_underlying hu,T,sizeOf,run_typeInfo w g,Addr.add]
    ·simpa using ba.pR (P:=P) (G:=G) (e:=e)
   |an vs hl hm T hc ho=>
    rename_i b off cap;have u:=q true elems.length cap h1 l1 (by omega) L k1 O;have hlen:((elems.take h1).drop l1).length=h1-l1:=by simp;omega
    have J:∀i,i<h1-l1→((elems.take h1).drop l1).getD i .any=elems.getD (l1+i) .any:=by intro i H;simp only[List.getD_eq_getElem?_getD];rw[List.getElem?_drop,List.getElem?_take_of_lt (by omega)]
    by_cases I:cap=l1
    ·subst I;refine Out.pure hinv (v:= .slice (some ⟨b,off,none⟩) (h1-cap) (cap-cap)) ?_ ?_ X
     ·simp[Instr.sliceAt,Instr.slice,run_underlying hu,u,sizeOf,run_typeInfo w g]
     ·exact ba.DJ vs hlen (fun i H=>by omega) (fun k hk=>by rw[show h1-cap=0 by omega]at hk;omega) (fun i j H _ =>by omega) (by omega) trivial
    ·refine Out.pure hinv (v:= .slice (some ⟨b,off+l1*P.cellsOf e,none⟩) (h1-l1) (cap-l1)) ?_ ?_ X
     ·simp[Instr.sliceAt,Instr.slice,run_underlying hu,u,sizeOf,run_typeInfo w g,I,E,Addr.add_lit]
     ·refine ba.DJ (fun k=>vs (l1*P.cellsOf e+k)) hlen (fun i H=> ?_) (fun k hk=> ?_) (fun i j H hj=> ?_) (by omega) trivial
      ·rw[J i (by omega)];exact hl _ (by omega)
      ·rw[Nat.add_assoc];refine hm _ ?_;have:(l1+(h1-l1))*P.cellsOf e≤elems.length*P.cellsOf e:=Nat.mul_le_mul_right _ (by omega);rw[Nat.add_mul]at this;omega
      ·rw[J i (by omega)];have:=T (l1+i) j (by omega) hj;rw[Nat.add_mul]at this;simpa[Nat.add_assoc]using this
  ·rename_i id off len cap;split at h
   ·rename_i e he;obtain⟨S,hA⟩:=h;have hu:=fj he;obtain⟨inf,g,E,_⟩:=bR (P:=P) (t:=e) S;obtain⟨h1,⟨M,hB⟩,k1⟩:=bound _ _ _ _ V hA;clear hA;obtain⟨l1,⟨L,q3,X⟩,O⟩:=bound _ _ _ _ U hB;clear hB;cases hx with
    |fT hb=>
     rename_i b;have u:=q true len cap h1 l1 M L k1 O;have I:¬cap=l1:=by omega
     refine Out.pure hinv (v:= .slice (some ⟨b,off+l1*P.cellsOf e,none⟩) (h1-l1) (cap-l1)) ?_ (.fT hb) X;simp[Instr.sliceAt,Instr.slice,run_underlying hu,u,sizeOf,run_typeInfo w g,I,E,Addr.add_lit]
   ·exact h.elim
  ·exact h.elim
end Go.AW
namespace Go.AW
open Go Go.RowKit
variable {P:Program} {G:Gh} {σ:AS} {w:World} {K Pn:AV→AS→Prop}
theorem Kr {α:Type}[BEq α] [LawfulBEq α] [DecidableEq α] (a b:α):(a==b)=decide (a=b):=by
 by_cases h:a=b
 ·simp[h]
 ·simp[h]
def fF (op:BinOp) (k:IntKind) (a b:Int) (K:Value→Prop):Prop:=
 match op with
 |.add=>K (.int k (k.wrap (a+b)))
 |.sub=>K (.int k (k.wrap (a-b)))
 |.mul=>K (.int k (k.wrap (a*b)))
 |.quo=>b≠0∧K (.int k (k.wrap (a.tdiv b)))
 |.rem=>b≠0∧K (.int k (a.tmod b))
 |.and=>K (.int k (k.wrap (BitVec.ofInt k.bits a&&& BitVec.ofInt k.bits b).toNat))
 |.or=>K (.int k (k.wrap (BitVec.ofInt k.bits a|||BitVec.ofInt k.bits b).toNat))
 |.xor=>K (.int k (k.wrap (BitVec.ofInt k.bits a^^^BitVec.ofInt k.bits b).toNat))
 |.andNot=>K (.int k (k.wrap (BitVec.ofInt k.bits a&&& ~~~(BitVec.ofInt k.bits b)).toNat))
 |.eql=>K (.bool (decide (a=b)))
 |.neq=>K (.bool (decide (a≠b)))
 |.lss=>K (.bool (a<b))
 |.leq=>K (.bool (a≤b))
 |.gtr=>K (.bool (b<a))
 |.geq=>K (.bool (b≤a))
 | _ =>False
def xS (op:BinOp) (k:IntKind) (a b:Int) (K:Value→Prop):Prop:=
 match op with
 |.shl=>0≤b∧K (.int k (k.wrap (a*2^(min b.toNat k.bits))))
 |.shr=>0≤b∧K (.int k (a.fdiv (2^(min b.toNat k.bits))))
 | _ =>False
def sr:BinOp→Bool|.shl|.shr=>true| _ =>false
def uB (op:BinOp) (a b:ByteArray) (K:Value→Prop):Prop:=
 match op with
 |.eql=>K (.bool (decide (a.data.toList=b.data.toList)))
 |.neq=>K (.bool (decide (a.data.toList≠b.data.toList)))
 |.add=>a.size+b.size≤9223372036854775807∧K (.string (a++b))
 | _ =>False
mutual
def kg (P:Program):Nat→TypeId→AV→AV→Option Bool
 |0,_,_,_ =>none
 |d+1,t,x,y=>match x,y with
  |.sc (.int k a),.sc (.int k' b)=>match P.underlying t with|some (.int _)=>if k=k' then some (decide (a=b))else none| _ =>none
  |.sc (.bool a),.sc (.bool b)=>match P.underlying t with|some .bool=>some (a==b)| _ =>none
  |.sc (.string a),.sc (.string b)=>match P.underlying t with|some .string=>some (decide (a.data.toList=b.data.toList))| _ =>none
  |.agg xs,.agg g=>match P.underlying t with|some (.struct fs)=>if P.stoodInHeld t then none else pY P d fs.toList xs g| _ =>none
  | _,_ =>none
def pY (P:Program):Nat→List Field→List AV→List AV→Option Bool
 | _,[],_,_ =>some true
 |d,f::fs,xs,g=>if f.name= "_" then none else
  match gi P f.type with
  |.one=>if f.offset<xs.length∧f.offset<g.length then
   match kg P d f.type (xs.getD f.offset .any) (g.getD f.offset .any),pY P d fs xs g with
   |some r,some h=>some (r&&h)
   | _,_ =>none
   else none
  |.agg n=>if n≠0∧f.offset+n≤xs.length∧f.offset+n≤g.length then
   match kg P d f.type (.agg ((xs.drop f.offset).take n)) (.agg ((g.drop f.offset).take n)),pY P d fs xs g with
   |some r,some h=>some (r&&h)
   | _,_ =>none
   else none
  |.bad=>none
end
theorem vw {t:TypeId}{xs:List AV}{vs:Array Value}{off:Nat}(h:gy P G xs vs):
 (gi P t= .one→off<xs.length→(part t vs off).run P w= .ok (vs.getD off undef) w∧ba P G (xs.getD off .any) (vs.getD off undef))∧
 (∀n,gi P t= .agg n→n≠0→off+n≤xs.length→ ∃v,(part t vs off).run P w= .ok v w∧ba P G (.agg ((xs.drop off).take n)) v):=by
 constructor
 ·intro hl j;obtain⟨k1,o⟩:=vC (w:=w) hl;have l:off<vs.size:=by rw[h.1];exact j
  refine⟨?_,h.2 off j⟩;simp[part,k1,l]
 ·intro n hl A j;obtain⟨k1,o⟩:=vD (w:=w) hl;obtain⟨i,g,q,_⟩:=bR (P:=P) (t:=t) (by omega);have h1:=h.1;refine⟨.agg ((vs.toList.drop off).take n).toArray,?_,.agg _ (by simp;omega) (fun k u=> ?_)⟩
  ·have y:vs.extract off (off+i.size)=((vs.toList.drop off).take n).toArray:=by
    have:off+i.size-off=n:=by omega
    apply Array.ext';simp[this]
   simp[part,k1,sizeOf,run_typeInfo w g,y]
  ·have d:k<n:=by simp at u;omega
   have:=h.2 (off+k) (by omega);simp only[List.getD_eq_getElem?_getD]at this⊢;rw[List.getElem?_take_of_lt d,List.getElem?_take_of_lt d,List.getElem?_drop,List.getElem?_drop];simpa using this
theorem NB:∀(d:Nat),(∀(t:TypeId) (x y:AV) (r:Bool) (i g:Value) (D:Nat),d≤D→kg P d t x y=some r→ba P G x i→ba P G y g→(Op.equalIn D t i g).run P w= .ok r w)∧
 (∀(fs:List Field) (xs l:List AV) (r:Bool) (i g:Array Value) (D:Nat),d≤D→pY P d fs xs l=some r→gy P G xs i→gy P G l g→(Op.eqFields D i g fs).run P w= .ok r w):=by
 intro d;induction d with
 |zero=>
  refine⟨fun t x y r i g D _ h _ _ =>by simp[kg]at h,fun fs=> ?_⟩;induction fs with
  |nil=>intro xs l r i g D _ h _ _;simp[pY]at h;subst h;simp[Op.eqFields]
  |cons f fs X=>
   intro xs l r i g D _ h _ _;simp only[pY]at h;split at h
   ·cases h
   ·split at h<;>(try (split at h))<;>(try cases h)<;>(split at h<;>first|(rename_i h1 Y;simp[kg]at h1)|cases h)
 |succ d X=>
  have S:∀(t:TypeId) (x y:AV) (r:Bool) (i g:Value) (D:Nat),d+1≤D→kg P (d+1) t x y=some r→ba P G x i→ba P G y g→(Op.equalIn D t i g).run P w= .ok r w:=by
   intro t x y r i g D H h A v;obtain⟨E,rfl⟩:∃E,D=E+1:=⟨D-1,by omega⟩;unfold kg at h;split at h
   ·cases A;cases v;split at h
    ·rename_i k1 a k2 b q hu;split at h
     ·rename_i F;subst F;cases h;rw[run_equalIn_int w E t _ _ _ _ hu,Kr]
     ·cases h
    ·cases h
   ·cases A;cases v;split at h
    ·rename_i hu;cases h;exact run_equalIn_bool' w E t _ _ hu
    ·cases h
   ·cases A;cases v;split at h
    ·rename_i hu;cases h;rw[run_equalIn_string w E t _ _ hu,ByteArray.toList_eq,ByteArray.toList_eq,Kr]
    ·cases h
   ·cases A with
    |agg ab l1 h1=>
     cases v with
     |agg Z l2 Y=>
      split at h
      ·rename_i fs hu;split at h
       ·cases h
       ·rename_i Q;have hf:P.fieldsOf t=fs:=by simp[Program.fieldsOf,hu]
        rw[run_equalIn_agg w E t _ _ (by rw[hf];exact hu) (by simpa using Q),hf];exact X.2 fs.toList _ _ r _ _ E (by omega) h ⟨by simpa using l1,fun k F=>by have:=h1 k F;simpa[List.getD_eq_getElem?_getD]using this⟩
         ⟨by simpa using l2,fun k F=>by have:=Y k F;simpa[List.getD_eq_getElem?_getD]using this⟩
      ·cases h
   ·cases h
  refine⟨S,fun fs=> ?_⟩;induction fs with
  |nil=>intro xs l r i g D _ h _ _;simp[pY]at h;subst h;simp[Op.eqFields]
  |cons f fs O=>
   intro xs l r i g D H h A v;simp only[pY]at h;split at h
   ·cases h
   ·rename_i hn;have fin:∀(u o:Bool) (a b:Value),(part f.type i f.offset).run P w= .ok a w→(part f.type g f.offset).run P w= .ok b w→(Op.equalIn D f.type a b).run P w= .ok u w→pY P (d+1) fs xs l=some o→r=(u&&o)→
     (Op.eqFields D i g (f::fs)).run P w= .ok r w:=by
     intro u o a b p1 p2 p3 p4 V;have p6:=O xs l o i g D H p4 A v;simp only[Op.eqFields,ne_eq,hn,not_false_eq_true,if_true,Sem.run_bind,p1,p2,p3,Result.andThen_ok];cases u
     ·simp[V]
     ·simp[V,p6]
    split at h
    ·rename_i hl;split at h
     ·rename_i j;split at h
      ·rename_i u o U T;cases h;obtain⟨M,L⟩:=(vw (w:=w) A).1 hl j.1;obtain⟨J,I⟩:=(vw (w:=w) v).1 hl j.2;exact fin u o _ _ M J (S _ _ _ _ _ _ D H U L I) T rfl
      ·cases h
     ·cases h
    ·rename_i n hl;split at h
     ·rename_i j;split at h
      ·rename_i u o U T;cases h;obtain⟨v1,M,L⟩:=(vw (w:=w) A).2 n hl j.1 j.2.1;obtain⟨v2,J,I⟩:=(vw (w:=w) v).2 n hl j.1 j.2.2;exact fin u o _ _ M J (S _ _ _ _ _ _ D H U L I) T rfl
      ·cases h
     ·cases h
    ·cases h
end Go.AW
namespace Go.AW
open Go Go.RowKit
variable {P:Program} {G:Gh} {σ:AS} {w:World} {K Pn:AV→AS→Prop}
def isNil (P:Program) (t:TypeId):AV→Option Bool
 |.ai=>match P.underlying t with|some (.slice _)=>some true| _ =>none
 |.an _ _ _ nil=>match P.underlying t with|some (.slice _)=>some nil| _ =>none
 |.fT _ _ _ _ =>match P.underlying t with|some (.slice _)=>some false| _ =>none
 |.ptr _ _ |.iC _ =>match P.underlying t with|some (.pointer _)=>some false| _ =>none
 |.sc (.pointer none)=>match P.underlying t with|some (.pointer _)=>some true| _ =>none
 |.mp _ =>match P.underlying t with|some (.map _ _)=>some false| _ =>none
 |.sc (.map none)=>match P.underlying t with|some (.map _ _)=>some true| _ =>none
 |.rX _ _ =>match P.underlying t with|some (.interface _)=>some false| _ =>none
 |.fn _ _ _ =>match P.underlying t with|some (.func _ _ _)=>some false| _ =>none
 |.sc (.func _ _ _)=>match P.underlying t with|some (.func _ _ _)=>some false| _ =>none
 |.sc .nilFunc=>match P.underlying t with|some (.func _ _ _)=>some true| _ =>none
 | _ =>none
def ss (P:Program) (t:TypeId):AV→Bool
 |.ai=>match P.underlying t with|some (.slice _)=>true| _ =>false
 |.sc (.pointer none)=>match P.underlying t with|some (.pointer _)=>true| _ =>false
 |.sc (.map none)=>match P.underlying t with|some (.map _ _)=>true| _ =>false
 |.sc .nilIface=>match P.underlying t with|some (.interface _)=>true| _ =>false
 |.sc .nilFunc=>match P.underlying t with|some (.func _ _ _)=>true| _ =>false
 | _ =>false
def dO (P:Program) (op:BinOp) (t:TypeId) (x y:AV) (K:AV→Prop):Prop:=
 if ss P t y then match isNil P t x,op with
  |some r,.eql=>K (.sc (.bool r))
  |some r,.neq=>K (.sc (.bool (!r)))
  | _,_ =>False
  else False
def ij (P:Program) (op:BinOp) (t:TypeId) (x y:AV) (K:AV→Prop):Prop:=
 match x,y with
 |.sc (.int k a),.sc (.int k' b)=>if sr op then xS op k a b (fun v=>K (.sc v))else k=k'∧fF op k a b (fun v=>K (.sc v))
 |.sc (.string a),.sc (.string b)=>uB op a b (fun v=>K (.sc v))
 |.agg xs,.agg d=>match kg P 8 t (.agg xs) (.agg d),op with
  |some r,.eql=>P.eqGuardType P.depth t=false∧K (.sc (.bool r))
  |some r,.neq=>P.eqGuardType P.depth t=false∧K (.sc (.bool (!r)))
  | _,_ =>False
 |.sc (.bool a),.sc (.bool b)=>match P.underlying t,op with
  |some .bool,.eql=>K (.sc (.bool (a==b)))
  |some .bool,.neq=>K (.sc (.bool (!(a==b))))
  | _,_ =>False
 |x,y=>dO P op t x y K
theorem D8 (t:TypeId) (x y:Value):Op.equal t x y=Op.equalIn (9999+1) t x y:=rfl
theorem binOp_eql {t:TypeId}{x y:Value}(h1:∀k n,x≠ .int k n) (i:∀k n,x≠ .float k n) (g:∀k a b,x≠ .complex k a b) (d:∀s,x≠ .string s) {r:Bool}
 (h:(Op.equalIn (9999+1) t x y).run P w= .ok r w):(binOp .eql t x y).run P w= .ok (.bool r) w∧(binOp .neq t x y).run P w= .ok (.bool (!r)) w:=by
 have l:binOp .eql t x y=(do pure (Value.bool (←Op.equal t x y))):=by cases x<;>first|rfl|(exfalso;first|exact h1 _ _ rfl|exact i _ _ rfl|exact g _ _ _ rfl|exact d _ rfl)
 have j:binOp .neq t x y=(do pure (Value.bool (!(←Op.equal t x y)))):=by cases x<;>first|rfl|(exfalso;first|exact h1 _ _ rfl|exact i _ _ rfl|exact g _ _ _ rfl|exact d _ rfl)
 rw[l,j,D8];generalize Op.equalIn (9999+1) t x y=q at h⊢;constructor
 ·rw[Sem.run_bind,h];rfl
 ·rw[Sem.run_bind,h];rfl
theorem dV {op:BinOp}{t:TypeId}{g d:Operand}{a b:Value}(h1:∀c,a≠ .agg c) (h:a≠ .nilIface∨b≠ .nilIface):(eqGuard op t g d a b).run P w= .ok () w:=by unfold eqGuard;cases op<;>simp<;>(cases a<;>cases b<;>simp at h1 h⊢)
theorem JK {op:BinOp}{t:TypeId}{k:IntKind}{a b:Int}{Q:Value→Prop}(d:sr op=false) (h:fF op k a b Q):∃v,(binOp op t (.int k a) (.int k b)).run P w= .ok v w∧Q v:=by
 cases op<;>first|(simp[sr]at d;done)|skip
 all_goals (simp only[fF]at h)
 all_goals first
  |exact h.elim
  |(refine⟨_,?_,h⟩;simp[binOp,Op.intArith,Op.intBits,Op.intCmp,Kr,bne];done)
  |(refine⟨_,?_,h.2⟩;simp[binOp,Op.intDiv,h.1];done)
  |skip
theorem Lo {op:BinOp}{t:TypeId}{k k':IntKind}{a b:Int}{Q:Value→Prop}(h:xS op k a b Q):∃v,(binOp op t (.int k a) (.int k' b)).run P w= .ok v w∧Q v:=by cases op<;>simp only[xS]at h;all_goals (refine⟨_,?_,h.2⟩;have d:=h.1;simp[binOp,Op.shift,show ¬b<0 by omega])
theorem Ik {op:BinOp}{t:TypeId}{a b:ByteArray}{Q:Value→Prop}(h:uB op a b Q):∃v,(binOp op t (.string a) (.string b)).run P w= .ok v w∧Q v:=by
 cases op<;>simp only[uB]at h
 case add=>
  refine⟨_,?_,h.2⟩;have h1:=h.1;have e:¬(IntKind.i64.max<((a.size+b.size:Nat):Int)):=by have:IntKind.i64.max=9223372036854775807:=rfl;rw[this];omega
  simp only[binOp,Op.stringOp];rw[if_neg (by simpa using e)];rfl
 case eql=>refine⟨_,?_,h⟩;simp[binOp,Op.stringOp,ByteArray.toList_eq,Kr]
 case neq=>refine⟨_,?_,h⟩;simp[binOp,Op.stringOp,ByteArray.toList_eq,Kr]
theorem L4 {t:TypeId}{x y:AV}{i D:Value}(j:ba P G x i) (q:ba P G y D) (g:ss P t y=true) {r:Bool}(h:isNil P t x=some r):
 (Op.equalIn (9999+1) t i D).run P w= .ok r w∧(∀c,i≠ .agg c)∧i≠ .nilIface∧(∀k n,i≠ .int k n)∧(∀s,i≠ .string s)∧(∀k n,i≠ .float k n)∧(∀k n m,i≠ .complex k n m):=by
 generalize 9999=d;have o:∀(e:TypeId) (a:Option Addr) (n c:Nat),P.underlying t=some (.slice e)→(Op.equalIn (d+1) t (.slice a n c) (.slice none 0 0)).run P w= .ok a.isNone w:=by intro e a n c hu;cases a<;>simp[Op.equalIn,run_underlying hu]
 have E:∀(e:TypeId) (a:Option Addr),P.underlying t=some (.pointer e)→(Op.equalIn (d+1) t (.pointer a) (.pointer none)).run P w= .ok a.isNone w:=by intro e a hu;cases a<;>simp[Op.equalIn,run_underlying hu]
 have mp:∀(k e:TypeId) (a:Option Nat),P.underlying t=some (.map k e)→(Op.equalIn (d+1) t (.map a) (.map none)).run P w= .ok a.isNone w:=by intro k e a hu;cases a<;>simp[Op.equalIn,run_underlying hu]
 have rX:∀(ms:Array (String×TypeId)) (u:TypeId) (v:Value),P.underlying t=some (.interface ms)→(Op.equalIn (d+1) t (.iface u v) .nilIface).run P w= .ok false w:=by intro ms u v hu;simp[Op.equalIn,run_underlying hu]
 have fn:∀(ps rs:Array TypeId) (l:Bool) (f:Fn) (a b:Array Value),P.underlying t=some (.func ps rs l)→(Op.equalIn (d+1) t (.func f a b) .nilFunc).run P w= .ok false w:=by intro ps rs l f a b hu;simp[Op.equalIn,run_underlying hu]
 have A:∀(ps rs:Array TypeId) (l:Bool),P.underlying t=some (.func ps rs l)→(Op.equalIn (d+1) t .nilFunc .nilFunc).run P w= .ok true w:=by intro ps rs l hu;simp[Op.equalIn,run_underlying hu]
 unfold ss at g;split at g
 ·cases q;split at g
  ·rename_i e hu;unfold isNil at h;split at h<;>(try simp only[hu]at h)<;>first|(cases h;done)|skip
   ·cases h;cases j;exact⟨o _ _ _ _ hu,by simp⟩
   ·cases h;cases j
    ·exact⟨o _ _ _ _ hu,by simp⟩
    ·exact⟨o _ _ _ _ hu,by simp⟩
    ·exact⟨o _ _ _ _ hu,by simp⟩
   ·cases h;cases j;exact⟨o _ _ _ _ hu,by simp⟩
  ·cases g
 ·cases q;split at g
  ·rename_i e hu;unfold isNil at h;split at h<;>(try simp only[hu]at h)<;>first|(cases h;done)|skip
   all_goals (cases h;cases j;exact⟨E _ _ hu,by simp⟩)
  ·cases g
 ·cases q;split at g
  ·rename_i k e hu;unfold isNil at h;split at h<;>(try simp only[hu]at h)<;>first|(cases h;done)|skip
   all_goals (cases h;cases j;exact⟨mp _ _ _ hu,by simp⟩)
  ·cases g
 ·cases q;split at g
  ·rename_i ms hu;unfold isNil at h;split at h<;>(try simp only[hu]at h)<;>first|(cases h;done)|skip
   all_goals (cases h;cases j;exact⟨rX _ _ _ hu,by simp⟩)
  ·cases g
 ·cases q;split at g
  ·rename_i ps rs l hu;unfold isNil at h;split at h<;>(try simp only[hu]at h)<;>first|(cases h;done)|skip
   all_goals (cases h;cases j;first|exact⟨fn _ _ _ _ _ _ hu,by simp⟩|exact⟨A _ _ _ hu,by simp⟩)
  ·cases g
 ·cases g
theorem KJ (T:Inv P G σ w) {op:BinOp}{t:TypeId}{A u:Operand}{x y:AV}{d g:Value}(l:ba P G x d) (j:ba P G y g) (h:ij P op t x y fun v=>K v σ):
 Out P G K Pn (((do pure (Next.value (←(do eqGuard op t A u d g;binOp op t d g)))):Sem Next).run P w):=by
 have fin:∀(v:Value) (L:AV),(eqGuard op t A u d g).run P w= .ok () w→(binOp op t d g).run P w= .ok v w→ba P G L v→K L σ→
  Out P G K Pn (((do pure (Next.value (←(do eqGuard op t A u d g;binOp op t d g)))):Sem Next).run P w):=
  fun v L h1 i V U=>Out.pure T (by rw[Sem.run_bind,h1];exact i) V U
 unfold ij at h;split at h
 ·rename_i k a k' b;cases l;cases j;split at h
  ·obtain⟨v,h1,i⟩:=Lo (P:=P) (w:=w) (t:=t) (k':=k') h;exact fin v _ (dV (by simp) (by simp)) h1 (.sc _) i
  ·rename_i Q;obtain⟨rfl,h⟩:=h;obtain⟨v,h1,i⟩:=JK (P:=P) (w:=w) (t:=t) (by simpa using Q) h;exact fin v _ (dV (by simp) (by simp)) h1 (.sc _) i
 ·cases l;cases j;obtain⟨v,h1,i⟩:=Ik (P:=P) (w:=w) (t:=t) h;exact fin v _ (dV (by simp) (by simp)) h1 (.sc _) i
 ·rename_i xs X;have q:=l;have o:=j;cases l with
  |agg O Z h1=>
   cases j with
   |agg M Y i=>
    split at h
    ·rename_i r he;have:=(NB (P:=P) (G:=G) (w:=w) 8).1 t _ _ r _ _ 10000 (by omega) he q o;exact fin (.bool r) _ (run_eqGuard_agg w _ t _ _ _ _ h.1) (by rw[run_eql_struct,this];rfl) (.sc _) h.2
    ·rename_i r he;have:=(NB (P:=P) (G:=G) (w:=w) 8).1 t _ _ r _ _ 10000 (by omega) he q o;exact fin (.bool (!r)) _ (run_eqGuard_agg w _ t _ _ _ _ h.1) (by rw[run_neq_struct,this];rfl) (.sc _) h.2
    ·exact h.elim
 ·rename_i a b;cases l;cases j;split at h
  ·rename_i hu;exact fin _ _ (dV (by simp) (by simp)) (binOp_eql (by simp) (by simp) (by simp) (by simp) (run_equalIn_bool' w 9999 t a b hu)).1 (.sc _) h
  ·rename_i hu;exact fin _ _ (dV (by simp) (by simp)) (binOp_eql (by simp) (by simp) (by simp) (by simp) (run_equalIn_bool' w 9999 t a b hu)).2 (.sc _) h
  ·exact h.elim
 ·unfold dO at h;split at h
  ·rename_i J;have key:∀r,isNil P t x=some r→(Op.equalIn (9999+1) t d g).run P w= .ok r w∧(∀c,d≠ .agg c)∧d≠ .nilIface∧(∀k n,d≠ .int k n)∧(∀s,d≠ .string s)∧(∀k n,d≠ .float k n)∧(∀k n m,d≠ .complex k n m):=by intro r S;exact L4 l j J S
   split at h
   ·rename_i r he;obtain⟨k1,I,H,k4,F,E,D⟩:=key r he;exact fin _ _ (dV I (.inl H)) (binOp_eql k4 E D F k1).1 (.sc _) h
   ·rename_i r he;obtain⟨k1,I,H,k4,F,E,D⟩:=key r he;exact fin _ _ (dV I (.inl H)) (binOp_eql k4 E D F k1).2 (.sc _) h
   ·exact h.elim
  ·exact h.elim
end Go.AW
namespace Go.AW
open Go Go.RowKit
variable {P:Program} {G:Gh} {σ:AS} {w:World} {K Pn:AV→AS→Prop}
def PC (op:UnOp) (x:AV) (K:AV→Prop):Prop:=
 match op,x with
 |.not,.sc (.bool b)=>K (.sc (.bool (!b)))
 |.neg,.sc (.int k n)=>K (.sc (.int k (k.wrap (0-n))))
 |.xor,.sc (.int k n)=>K (.sc (.int k (k.wrap (BitVec.ofInt k.bits (if k.signed then-1 else k.max)^^^BitVec.ofInt k.bits n).toNat)))
 | _,_ =>False
theorem M3 (g:Inv P G σ w) {op:UnOp}{x:AV}{v:Value}(d:ba P G x v) (h:PC op x fun v=>K v σ):
 Out P G K Pn (((do pure (Next.value (←Op.unary op v))):Sem Next).run P w):=by
 unfold PC at h;split at h
 ·cases d;exact Out.pure g rfl (.sc _) h
 ·cases d;exact Out.pure g rfl (.sc _) h
 ·cases d;exact Out.pure g rfl (.sc _) h
 ·exact h.elim
def mr (x:AV) (i:Nat) (K:AV→Prop):Prop:=
 match x with
 |.bQ vs=>i<vs.length∧K (vs.getD i .any)
 | _ =>False
theorem AD (n:Inv P G σ w) {x:AV}{v:Value}{i:Nat}(g:ba P G x v) (h:mr x i fun v=>K v σ):
 Out P G K Pn (((do pure (Next.value (←Instr.extract v i))):Sem Next).run P w):=by
 unfold mr at h;split at h
 ·cases g with
  |bQ vs l j=>
   have d:i<vs.length:=by omega
   refine Out.pure n (v:=vs.getD i undef) ?_ (j i h.1) h.2;simp[Instr.extract,d]
 ·exact h.elim
def iX (x:AV) (K:AV→Prop):Prop:=
 match x with
 |.ptr _ _ |.iC _ |.fn (.func _) _ _ |.mp _ =>K x
 |.sc (.func (.func _) _ _)=>K x
 |.rX _ _ =>K x
 | _ =>False
theorem yj (j:Inv P G σ w) {x:Operand}{ρ:Operand→Value}{d:AV}{o:Oper}(i:o.op= .nilCheck x) (g:ba P G d (ρ x)) (h:iX d fun v=>K v σ):
 Out P G K Pn ((execOp ρ o).run P w):=by
 have key:(execOp ρ o).run P w= .ok (.value (ρ x)) w:=by unfold execOp;simp only[i];unfold iX at h;split at h<;>first|exact h.elim|(generalize ρ x=v at g;cases g;simp)
 rw[key];refine⟨G,σ,d,.refl G,j,g,?_⟩;unfold iX at h;split at h<;>first|exact h|exact h.elim
def u8 (b:UInt8):AV:= .sc (.int .u8 b.toNat)
def Gb:AV→Option UInt8
 |.sc (.int .u8 n)=>if 0≤n∧n<256 then some (UInt8.ofNat n.toNat)else none
 | _ =>none
def xB (l:List AV):Option (List UInt8):=l.mapM Gb
theorem qS (l:List UInt8):xB (l.map u8)=some l:=by
 induction l with
 |nil=>rfl
 |cons b l d=>
  have h1:Gb (u8 b)=some b:=by have:=b.toNat_lt;simp only[Gb,u8];rw[if_pos ⟨by omega,by omega⟩];simp
  simp only[xB,List.map_cons,List.mapM_cons,h1]at d⊢;rw[d];rfl
theorem Ek {l:List AV}{d:List UInt8}(h:xB l=some d):l.length=d.length∧ ∀i,i<l.length→l.getD i .any=u8 (d.getD i 0):=by
 induction l generalizing d with
 |nil=>simp[xB]at h;subst h;simp
 |cons a l g=>
  simp only[xB,List.mapM_cons,Option.bind_eq_bind,Option.pure_def]at h;cases ha:Gb a with
  |none=>simp[ha]at h
  |some b=>
   cases hl:l.mapM Gb with
   |none=>simp[ha,hl]at h
   |some r=>
    simp[ha,hl]at h;subst h;obtain⟨h1,o⟩:=g hl;refine⟨by simp[h1],fun i j=> ?_⟩;cases i with
    |zero=>
     simp;unfold Gb at ha;split at ha
     ·rename_i n;split at ha
      ·rename_i q;cases ha;simp only[u8];congr 2;rw[UInt8.toNat_ofNat'];omega
      ·cases ha
     ·cases ha
    |succ i=>simpa using o i (by simpa using j)
def fX (P:Program) (src dst:TypeId) (x:AV) (K:AV→Prop):Prop:=
 match P.underlying src,P.underlying dst,x with
 |some _,some (.int k),.sc (.int _ n)=>K (.sc (.int k (k.wrap n)))
 |some _,some .string,.sc (.string s)=>K (.sc (.string s))
 |some (.slice e),some .string,.ai=>P.underlying e=some (.int .u8)∧K (.sc (.string .empty))
 |some (.slice e),some .string,.an d elems _ _ =>P.underlying e=some (.int .u8)∧P.cellsOf d=1∧(match xB elems with|some g=>K (.sc (.string ⟨g.toArray⟩))|none=>False)
 |some .string,some (.slice e),.sc (.string s)=>P.underlying e=some (.int .u8)∧P.cellsOf e=1∧s.size≤140737488355328∧K (.an e (s.data.toList.map u8) .aE false)
 | _,_,_ =>False
theorem AE (u:Inv P G σ w) {src dst:TypeId}{x:AV}{v:Value}(D:ba P G x v) (h:fX P src dst x fun v=>K v σ):
 Out P G K Pn (((do pure (Next.value (←convert src dst v))):Sem Next).run P w):=by
 unfold fX at h;split at h
 ·rename_i d k kk n l hd;cases D;refine Out.pure u (v:= .int k (k.wrap n)) ?_ (.sc _) h;unfold convert;rw[Sem.run_bind,run_underlying l,Result.andThen_ok,Sem.run_bind,run_underlying hd,Result.andThen_ok];cases d<;>rfl
 ·rename_i d s l hd;cases D;refine Out.pure u (v:= .string s) ?_ (.sc _) h;unfold convert;rw[Sem.run_bind,run_underlying l,Result.andThen_ok,Sem.run_bind,run_underlying hd,Result.andThen_ok];cases d<;>rfl
 ·rename_i e l hd;obtain⟨he,h⟩:=h;cases D;refine Out.pure u (v:= .string .empty) ?_ (.sc _) h;rw[run_convert_bytes_string w src dst e none 0 0 l he hd];simp[Conv.bytesToString]
 ·rename_i e e' elems own nil l hd;obtain⟨he,g,h⟩:=h;split at h
  ·rename_i A L;obtain⟨M,Y⟩:=Ek L;cases D with
   |jd U=>have:A= []:=List.length_eq_zero_iff.1 (by simpa using M.symm);subst this;refine Out.pure u (v:= .string .empty) ?_ (.sc _) h;rw[run_convert_bytes_string w src dst e none 0 0 l he hd];simp[Conv.bytesToString]
   |pR=>have:A= []:=List.length_eq_zero_iff.1 (by simpa using M.symm);subst this;refine Out.pure u (v:= .string .empty) ?_ (.sc _) h;rw[run_convert_bytes_string w src dst e _ 0 _ l he hd];simp[Conv.bytesToString,loadCells,loadCellsFrom]
   |an vs hl hm T hc U=>
    rename_i b off cap;refine Out.pure u (v:= .string ⟨A.toArray⟩) ?_ (.sc _) h;rw[M];refine run_convert_bytes_back w src dst e ⟨b,off,none⟩ cap A l he hd (fun j Q=> ?_);have y:j<elems.length:=by omega
    have h1:=T j 0 y (by omega);rw[Y j y]at h1;simp only[g,Nat.mul_one,Nat.add_zero]at h1;have V:=(u.mem _ _ _ (hm j (by rw[g,Nat.mul_one];exact y))).1;rw[Addr.add_lit,V];have X:(u8 (A.getD j 0)).cells.getD 0 AV.any= .sc (.int .u8 (A.getD j 0).toNat):=rfl;rw[X]at h1;generalize S:vs j=Z at h1;cases h1;simp[List.getD_eq_getElem?_getD,List.getElem?_eq_getElem Q]
  ·exact h.elim
 ·rename_i e s l hd;obtain⟨he,g,O,h⟩:=h;cases D;have E:=run_bytes_of_string (P:=P) w src dst e s l hd he;have q:=grownCap_ge w s.size 0 e;have F:∀k,k<s.size→(bytesRow s (grownCap w s.size 0 e))[k]? =some (.int .u8 (s.data.toList.getD k 0).toNat):=by intro k I;have H:k<s.data.size:=I;unfold bytesRow;rw[Array.getElem?_append_left (by simpa using H)];simp[Array.getElem?_eq_getElem H]
  have J:s.size≤(bytesRow s (grownCap w s.size 0 e)).size:=by
   unfold bytesRow;rw[Array.size_append];have:(s.data.map fun b=>Value.int .u8 b.toNat).size=s.size:=by rw[Array.size_map];rfl
   omega
  obtain⟨hle,hinv⟩:G.Le (G.ka w.heap.size 0 s.size fun k=> .int .u8 (s.data.toList.getD k 0).toNat)∧Inv P (G.ka w.heap.size 0 s.size fun k=> .int .u8 (s.data.toList.getD k 0).toNat) σ _ :=
   u.drew.B2 e (bytesRow s (grownCap w s.size 0 e)) ((bytesRow s (grownCap w s.size 0 e)).size,(bytesRow s (grownCap w s.size 0 e)).size+1) s.size (fun k=> .int .u8 (s.data.toList.getD k 0).toNat) J (fun k I=>⟨F k I,rfl⟩)
  refine Out.value E hle hinv ?_ h;refine ba.DJ (fun k=> .int .u8 (s.data.toList.getD k 0).toNat) (by rw[List.length_map,Array.length_toList];rfl) (fun i o=> ?_) (fun k I=> ?_) (fun i j o Q=> ?_) q trivial
  ·simp only[List.length_map]at o;simp only[List.getD_eq_getElem?_getD,List.getElem?_map,List.getElem?_eq_getElem o];rw[g];rfl
  ·rw[g,Nat.mul_one]at I;rw[Gh.lx (by omega) (by omega)];simp
  ·simp only[List.length_map]at o;have:j=0:=by omega
   subst this;rw[g,Nat.mul_one,Nat.add_zero];simp only[List.getD_eq_getElem?_getD,List.getElem?_map,List.getElem?_eq_getElem o];exact .sc _
 ·exact h.elim
end Go.AW
namespace Go.AW
open Go Go.RowKit
variable {P:Program} {G:Gh} {σ:AS} {w:World} {K Pn:AV→AS→Prop}
def jL (P:Program) (σ:AS) (t:TypeId) (x:AV) (K:AV→Prop):Prop:=
 match P.underlying t,x with
 |some (.slice _),.an _ elems _ _ =>K (.sc (.int .i64 elems.length))
 |some (.slice _),.ai=>K (.sc (.int .i64 0))
 |some (.slice _),.fT _ _ n _ =>K (.sc (.int .i64 n))
 |some .string,.sc (.string s)=>K (.sc (.int .i64 s.data.toList.length))
 |some (.array n _),_ =>K (.sc (.int .i64 n))
 |some (.map _ _),.mp id=>match σ id with|some (.map es)=>K (.sc (.int .i64 es.length))| _ =>False
 |some (.map _ _),.sc (.map none)=>K (.sc (.int .i64 0))
 | _,_ =>False
theorem KG (d:Inv P G σ w) {t ty:TypeId}{x:AV}{v:Value}(g:ba P G x v) (h:jL P σ t x fun v=>K v σ):
 Out P G K Pn (((do pure (Next.value (←Builtin.len_ #[t] ty #[v]))):Sem Next).run P w):=by
 unfold jL at h;split at h
 ·rename_i e q elems own nil hu;have:∃a c,v= .slice a elems.length c:=by cases g<;>exact⟨_,_,rfl⟩
  obtain⟨a,c,rfl⟩:=this;exact Out.pure d (by simp[Builtin.len_,run_underlying hu,goInt]) (.sc _) h
 ·rename_i e hu;cases g;exact Out.pure d (by simp[Builtin.len_,run_underlying hu,goInt]) (.sc _) h
 ·rename_i e id off n c hu;cases g;exact Out.pure d (by simp[Builtin.len_,run_underlying hu,goInt]) (.sc _) h
 ·rename_i s hu;cases g;refine Out.pure d (v:= .int .i64 s.data.toList.length) (by simp[Builtin.len_,run_underlying hu,goInt]) (.sc _) h
 ·rename_i n e hu;exact Out.pure d (by simp[Builtin.len_,run_underlying hu,goInt]) (.sc _) h
 ·rename_i k e id hu;split at h
  ·rename_i es l;obtain⟨b,ms,c,k1,j,i,k4⟩:=d.maps _ _ l;cases g with
   |mp o=>rw[o]at k1;obtain rfl:=Option.some.inj k1;refine Out.pure d (v:= .int .i64 es.length) ?_ (.sc _) h;simp[Builtin.len_,run_underlying hu,getObj,Sem.run,j,goInt,i]
  ·exact h.elim
 ·rename_i k e hu;cases g;exact Out.pure d (by simp[Builtin.len_,run_underlying hu,goInt]) (.sc _) h
 ·exact h.elim
def fR (P:Program) (e d:TypeId) (x:AV):Option (List AV):=
 match P.underlying d,x with
 |some (.slice _),.an g xs _ _ =>if g=e then some xs else none
 |some (.slice _),.ai=>some []
 |some .string,.sc (.string s)=>if P.cellsOf e=1 then some (s.data.toList.map u8)else none
 |some (.int _),.sc (.int _ n)=>if 0≤n∧n≤1000000∧P.bytesOf e≤1000 then some (List.replicate n.toNat (aw P e))else none
 | _,_ =>none
theorem qv {z:Value}{m:Nat}(h:z.cells.size=m) (n:Nat) (i j:Nat) (o:i<n) (l:j<m):((Builtin.zeroCells z.cells n).toList).getD (i*m+j) undef=z.cells.getD j undef:=by
 have d:i*m+j<n*m:=by have:(i+1)*m≤n*m:=Nat.mul_le_mul_right m o;rw[Nat.add_mul]at this;omega
 have u:(i*m+j)%m=j:=by rw[Nat.add_comm,Nat.add_mul_mod_self_right,Nat.mod_eq_of_lt l]
 have g:j<z.cells.size:=by omega
 have q:z.cells[j]! =z.cells[j]:=by simp[g]
 simp[Builtin.zeroCells,h,d,u,q,Array.getD];omega
theorem Df (hi:Inv P G σ w) {e M:TypeId}{x:AV}{L:Value}{xs:List AV}(D:(aw P e).laid=true) (A:(aw P e).cells.length=P.cellsOf e) (O:ba P G x L) (h:fR P e M x=some xs):
 ∃news,Ex P e M L xs.length news w∧CS P G e xs news:=by
 suffices F:(∃news,Src P (P.cellsOf e) M L xs.length news w∧CS P G e xs news)∨ ∃news i,P.info? e=some i∧Sp P i M L xs.length news∧CS P G e xs news by
  rcases F with⟨news,h1,Y⟩|⟨news,i,h1,Y,h3⟩
  ·exact⟨news,.inl h1,Y⟩
  ·exact⟨news,.inr ⟨i,h1,Y⟩,h3⟩
 unfold fR at h;split at h
 ·rename_i e1 Z ys own nil hu;split at h
  ·rename_i he;subst he;cases h;cases O with
   |jd ho=>exact .inl ⟨[],Src.ofNil w hu 0,by simp,by simp,by simp⟩
   |pR=>exact .inl ⟨[],Src.ofSlice w hu _ 0 _ [] (by simp) (by simp) (by simp),by simp,by simp,by simp⟩
   |an vs hl hm hr hc ho=>
    rename_i b off cap;refine .inl ⟨(List.range (xs.length*P.cellsOf Z)).map vs,Src.ofSlice w hu ⟨b,off,none⟩ xs.length cap _ (by simp) (fun j u g=> ?_) (fun u g=> ?_),by simp,hl,fun i j d l=> ?_⟩
    ·have l:j<xs.length*P.cellsOf Z:=by
      rcases Nat.lt_or_ge j (xs.length*P.cellsOf Z)with h|h
      ·exact h
      ·rw[List.getElem?_eq_none (by simpa using h)]at g;cases g
     simp[l]at g;subst g;rw[Addr.add_lit];exact(hi.mem _ _ _ (hm j l)).1
    ·simp at g;obtain⟨j,l,rfl⟩:=g;exact(hi.mem _ _ _ (hm j l)).2
    ·have:=hr i j d l;have X:=kc d l;simpa[List.getD_eq_getElem?_getD,X]using this
  ·cases h
 ·rename_i e1 hu;cases h;cases O;exact .inl ⟨[],Src.ofNil w hu 0,by simp,by simp,by simp⟩
 ·rename_i s hu;split at h
  ·rename_i o;cases h;cases O;have hlen:(s.data.toList.map u8).length=s.size:=by rw[List.length_map,Array.length_toList];rfl
   refine .inl ⟨byteCells s,?_,?_,fun i d=> ?_,fun i j d l=> ?_⟩
   ·rw[o,hlen];exact Src.ofString w hu s
   ·rw[byteCells_length,hlen,o,Nat.mul_one]
   ·simp only[List.length_map]at d;simp only[List.getD_eq_getElem?_getD,List.getElem?_map,List.getElem?_eq_getElem d];rw[o];rfl
   ·simp only[List.length_map]at d;have:j=0:=by omega
    subst this;rw[o,Nat.mul_one,Nat.add_zero];simp only[byteCells,List.getD_eq_getElem?_getD,List.getElem?_map,List.getElem?_eq_getElem d];exact .sc _
  ·cases h
 ·rename_i k k' n hu;split at h
  ·rename_i hc;cases h;cases O;obtain⟨ar,o,ap⟩:=hc;obtain⟨it,z,v,hz,y⟩:=dD D;have E:it.size=P.cellsOf e:=by simp[Program.cellsOf,v]
   have av:it.bytes=P.bytesOf e:=by simp[Program.bytesOf,v]
   obtain⟨J,T⟩:=gr (gD (P:=P) (G:=G) z) (by rw[←y];exact D);rw[←y,A]at J T;obtain⟨N,rfl⟩:∃N:Nat,n=N:=⟨n.toNat,by omega⟩;simp only[Int.toNat_natCast,List.length_replicate];have hlen:((Builtin.zeroCells z.cells N).toList).length=N*P.cellsOf e:=by simp[Builtin.zeroCells,J]
   have q:(if N*it.size=0 then []else(Builtin.zeroCells z.cells N).toList)=(Builtin.zeroCells z.cells N).toList:=by
    by_cases h0:N*it.size=0
    ·rw[if_pos h0];rw[E]at h0;rw[h0]at hlen;exact(List.length_eq_zero_iff.1 hlen).symm
    ·rw[if_neg h0]
   refine .inr ⟨(Builtin.zeroCells z.cells N).toList,it,v,⟨⟨k,hu⟩,⟨k',rfl⟩,⟨by omega,by omega⟩,⟨z,hz,q.symm⟩,by rw[hlen,E],fun u g=> ?_⟩,by simp[hlen],fun i d=> ?_,fun i j d l=> ?_⟩
   ·obtain⟨p,Q,rfl⟩:=List.getElem_of_mem g;rw[hlen]at Q;have H:0<P.cellsOf e:=by
     rcases Nat.eq_zero_or_pos (P.cellsOf e)with h|h
     ·rw[h]at Q;omega
     ·exact h
    have I:p%P.cellsOf e<P.cellsOf e:=Nat.mod_lt _ H;have V:p/P.cellsOf e<N:=Nat.div_lt_of_lt_mul (by rw[Nat.mul_comm];exact Q);have U:(p/P.cellsOf e)*P.cellsOf e+p%P.cellsOf e=p:=by rw[Nat.mul_comm];exact Nat.div_add_mod p _
    have S:=qv J N _ _ V I;rw[U]at S;have he:(Builtin.zeroCells z.cells N).toList[p]=(Builtin.zeroCells z.cells N).toList.getD p undef:=by rw[List.getD_eq_getElem?_getD,List.getElem?_eq_getElem (by rw[hlen];exact Q)];rfl
    rw[he,S];exact(T _ I).2
   ·simp only[List.length_replicate]at d;rw[List.getD_eq_getElem?_getD,List.getElem?_replicate,if_pos d];exact A
   ·simp only[List.length_replicate]at d;rw[qv J N i j d l];have S:(List.replicate N (aw P e)).getD i .any=aw P e:=by rw[List.getD_eq_getElem?_getD,List.getElem?_replicate,if_pos d];rfl
    rw[S];exact(T j l).1
  ·cases h
 ·cases h
def mU (P:Program) (σ:AS) (t h:TypeId) (s x:AV) (K:AV→AS→Prop):Prop:=
 match ct P t with
 |some e=>P.cellsOf e≠0∧(aw P e).laid=true∧(aw P e).cells.length=P.cellsOf e∧(match fR P e h x with
  |some xs=>match s with
   |.ai=>xs.length*P.bytesOf e≤kH (P.bytesOf e)∧xs.length≤140737488355328∧ ∀d,σ d=none→K (.an e xs (.tok d) xs.isEmpty) (σ.set d (.tok xs.length))
   |.an g elems .full nil=>g=e∧(elems.length+xs.length)*P.bytesOf e≤kH (P.bytesOf e)∧elems.length+xs.length≤140737488355328∧
    ∀d,σ d=none→K (.an e (elems++xs) (.tok d) (nil&&xs.isEmpty)) (σ.set d (.tok (elems.length+xs.length)))
   |.an g elems (.tok d) nil=>g=e∧(elems.length+xs.length)*P.bytesOf e≤kH (P.bytesOf e)∧elems.length+xs.length≤140737488355328∧σ d=some (.tok elems.length)∧
    K (.an e (elems++xs) (.tok d) (nil&&xs.isEmpty)) (σ.set d (.tok (elems.length+xs.length)))
   | _ =>False
  |none=>False)
 |none=>False
theorem ba.fM (l:Inv P G σ w) {e:TypeId}{elems:List AV}{nil:Bool}{v:Value}(h:ba P G (.an e elems .full nil) v):
 ∃r,G.Le (G.fM r)∧Inv P (G.fM r) (σ.set G.top (.tok elems.length)) w∧ba P (G.fM r) (.an e elems (.tok G.top) nil) v:=by
 cases h with
 |jd g=>obtain⟨h1,d⟩:=l.fM none 0 e (fun _ =>rfl);exact⟨_,h1,d,.jd ⟨⟨none,0,0,e⟩,by simp[Gh.fM],rfl,Nat.le_refl _,fun _ =>rfl⟩⟩
 |an vs hl hm n q g=>rename_i b off cap;obtain⟨a,ha⟩:=g;simp only[Value.slice.injEq]at ha;obtain⟨_,_,rfl⟩:=ha;obtain⟨h1,d⟩:=l.fM (some (b,off)) elems.length e (fun o=>by cases o);refine⟨_,h1,d,.an vs hl hm (fun i j a b=>(n i j a b).mono h1) q ⟨⟨some (b,off),elems.length,elems.length,e⟩,by simp[Gh.fM],rfl,Nat.le_refl _,fun _ =>rfl⟩⟩
theorem CP (q:Inv P G σ w) {t A ty:TypeId}{s x:AV}{vs u:Value}(n:ba P G s vs) (E:ba P G x u) (h:mU P σ t A s x K):
 Out P G K Pn (((do pure (Next.value (←Builtin.append_ #[t,A] ty #[vs,u]))):Sem Next).run P w):=by
 unfold mU at h;split at h
 ·rename_i e he;obtain⟨Y,l,v,h⟩:=h;have hu:=fj he;obtain⟨it,z,S,X,L⟩:=dD l;have Q:ba P G (aw P e) z:=by rw[L];exact gD z
  have J:z.cells.size=P.cellsOf e:=by rw[←v];exact(gr Q l).1
  split at h
  ·rename_i xs M;have d:∀(G:Gh) (σ:AS) (elems:List AV) (i:Nat) (nil:Bool),Inv P G σ w→ba P G x u→ba P G (.an e elems (.tok i) nil) vs→σ i=some (.tok elems.length)→
    (elems.length+xs.length)*P.bytesOf e≤kH (P.bytesOf e)→elems.length+xs.length≤140737488355328→
    ∃y w' G',(Builtin.append_ #[t,A] ty #[vs,u]).run P w= .ok y w'∧G.Le G'∧Inv P G' (σ.set i (.tok (elems.length+xs.length))) w'∧ba P G' (.an e (elems++xs) (.tok i) (nil&&xs.isEmpty)) y:=by
    intro G σ elems i nil q E n O h1 j;obtain⟨news,s1,s2⟩:=Df q l v E M;exact q.append hu S X J (by omega) n O s1 s2 h1 j
   have g:∀(elems:List AV) (nil:Bool),ba P G (.an e elems .full nil) vs→(elems.length+xs.length)*P.bytesOf e≤kH (P.bytesOf e)→elems.length+xs.length≤140737488355328→
    (∀i,σ i=none→K (.an e (elems++xs) (.tok i) (nil&&xs.isEmpty)) (σ.set i (.tok (elems.length+xs.length))))→
    Out P G K Pn (((do pure (Next.value (←Builtin.append_ #[t,A] ty #[vs,u]))):Sem Next).run P w):=by
    intro elems nil n h1 j o;obtain⟨r,T,V,U⟩:=n.fM q;obtain⟨y,w',G',I,H,D,F⟩:=d (G.fM r) _ elems G.top nil V (E.mono T) U (by simp) h1 j;rw[AS.set_set]at D;exact Out.value I (T.trans H) D F (o _ q.fresh)
   split at h
   ·obtain⟨h1,j,o⟩:=h;cases n;have:=g [] true (.jd ⟨none,rfl⟩) (by simpa using h1) (by simpa using j);simp only[List.nil_append,List.length_nil,Nat.zero_add,Bool.true_and]at this;exact this o
   ·rename_i e' elems nil;obtain⟨rfl,h1,j,o⟩:=h;exact g elems nil n h1 j o
   ·rename_i e' elems i nil;obtain⟨rfl,h1,j,o,Z⟩:=h;obtain⟨y,w',G',I,H,D,F⟩:=d G σ elems i nil q E n o h1 j;exact Out.value I H D F Z
   ·exact h.elim
  ·exact h.elim
 ·exact h.elim
def cA (P:Program) (σ:AS) (e:TypeId) (x:AV):Option (Nat×List AV):=
 match x with
 |.fT id off len _ =>match σ id with
  |some (.cells _ cs)=>if off+len*P.cellsOf e≤cs.length then some (len,(cs.drop off).take (len*P.cellsOf e))else none
  | _ =>none
 |.an d xs _ _ =>if d=e∧P.cellsOf e=1∧xs.all AV.one=true then some (xs.length,xs)else none
 | _ =>none
def gZ (P:Program) (σ:AS) (t:TypeId) (x y:AV) (K:AV→AS→Prop):Prop:=
 match ct P t with
 |some e=>match x with
  |.fT id off len _ =>match σ id with
   |some (.cells ty cs)=>P.cellsOf e≠0∧off+len*P.cellsOf e≤cs.length∧(match cA P σ e y with
    |some (m,d)=>K (.sc (.int .i64 (Nat.min m len:Nat))) (σ.set id (.cells ty (cs.take off++d.take (Nat.min m len*P.cellsOf e)++cs.drop (off+(d.take (Nat.min m len*P.cellsOf e)).length))))
    |none=>False)
   | _ =>False
  | _ =>False
 |none=>False
theorem GG {v:AV}(h:v.one=true):v.cells= [v]:=by cases v<;>first|rfl|(simp[AV.one]at h)
theorem Eb (F:Inv P G σ w) {e:TypeId}{y:AV}{o:Value}{m:Nat}{l:List AV}(D:ba P G y o) (h:cA P σ e y=some (m,l)):
 (Builtin.lenOf o).run P w= .ok m w∧l.length=m*P.cellsOf e∧ ∀n,n≤m→ ∃vs:List Value,vs.length=n*P.cellsOf e∧(Builtin.firstCells (P.cellsOf e) n o).run P w= .ok vs.toArray w∧
  ∀k,k<n*P.cellsOf e→ba P G (l.getD k .any) (vs.getD k undef)∧(vs.getD k undef).oneCell'=true:=by
 have mk:∀(a:Addr) (f:Nat→Value) (n:Nat),(∀k,k<n*P.cellsOf e→w.cell? (a.add k)=some (f k)∧ba P G (l.getD k .any) (f k)∧(f k).oneCell'=true)→
  ∃vs:List Value,vs.length=n*P.cellsOf e∧(loadCells a (n*P.cellsOf e)).run P w= .ok vs.toArray w∧ ∀k,k<n*P.cellsOf e→ba P G (l.getD k .any) (vs.getD k undef)∧(vs.getD k undef).oneCell'=true:=by
  intro a f n hf;refine⟨(List.range (n*P.cellsOf e)).map f,by simp,run_loadCells w a _ f (fun j T=>(hf j T).1),fun k g=> ?_⟩;have:((List.range (n*P.cellsOf e)).map f).getD k undef=f k:=by simp[List.getD_eq_getElem?_getD,g]
  rw[this];exact(hf k g).2
 unfold cA at h;split at h
 ·rename_i id off len cap;split at h
  ·rename_i ty cs M;split at h
   ·rename_i H;cases h;obtain⟨b,cur,k1,J,k3,k4⟩:=F.cells _ _ _ M;cases D with
    |fT V=>
     rw[V]at k1;obtain rfl:=Option.some.inj k1;refine⟨by simp[Builtin.lenOf],by simp;omega,fun n d=> ?_⟩;have hle:n*P.cellsOf e≤m*P.cellsOf e:=Nat.mul_le_mul_right _ d;obtain⟨vs,A,v,u⟩:=mk ⟨_,off,none⟩ (fun k=>cur.getD (off+k) undef) n (fun k g=>by
      rw[Addr.add_lit];refine⟨jy J (by omega),?_,(k4 _ (by omega)).2⟩;have Z:((cs.drop off).take (m*P.cellsOf e)).getD k .any=cs.getD (off+k) .any:=by simp only[List.getD_eq_getElem?_getD];rw[List.getElem?_take_of_lt (by omega),List.getElem?_drop]
      rw[Z];exact(k4 _ (by omega)).1)
     exact⟨vs,A,by simpa[Builtin.firstCells]using v,u⟩
   ·cases h
  ·cases h
 ·rename_i e' xs own nil;split at h
  ·rename_i U;obtain⟨rfl,i,S⟩:=U;cases h;cases D with
   |jd Q=>exact⟨by simp[Builtin.lenOf],by simp,fun n d=>⟨[],by simp at d;simp[d],by simp[Builtin.firstCells],fun k g=>by simp at d;simp[d]at g⟩⟩
   |pR=>refine⟨by simp[Builtin.lenOf],by simp,fun n d=>⟨[],by simp at d;simp[d],?_,fun k g=>by simp at d;simp[d]at g⟩⟩;simp at d;subst d;simp[Builtin.firstCells,loadCells,loadCellsFrom]
   |an vs hl hm O I E=>
    rename_i b off cap;refine⟨by simp[Builtin.lenOf],by simp[i],fun n d=> ?_⟩;obtain⟨q,A,v,u⟩:=mk ⟨b,off,none⟩ vs n (fun k g=>by
     rw[Addr.add_lit];rw[i,Nat.mul_one]at g;have L:(l.getD k .any).one=true:=by rw[List.getD_eq_getElem?_getD,List.getElem?_eq_getElem (by omega)];exact List.all_eq_true.1 S _ (List.getElem_mem _)
     have:=O k 0 (by omega) (by omega);rw[GG L,i,Nat.mul_one,Nat.add_zero]at this;obtain⟨Y,X⟩:=F.mem _ _ _ (hm k (by rw[i,Nat.mul_one];omega));exact⟨Y,by simpa using this,X⟩)
    exact⟨q,A,by simpa[Builtin.firstCells]using v,u⟩
  ·cases h
 ·cases h
theorem HG (D:Inv P G σ w) {t U ty:TypeId}{x y:AV}{I H:Value}(X:ba P G x I) (V:ba P G y H) (h:gZ P σ t x y K):
 Out P G K Pn (((do pure (Next.value (←Builtin.copy_ #[t,U] ty #[I,H]))):Sem Next).run P w):=by
 unfold gZ at h;split at h
 ·rename_i e he;split at h
  ·rename_i id off len cap;split at h
   ·rename_i T cs O;obtain⟨E,Q,h⟩:=h;split at h
    ·rename_i m F i;have hu:=fj he;obtain⟨inf,n,q,_⟩:=bR (P:=P) (t:=e) E;obtain⟨hlen,ac,d⟩:=Eb D V i;obtain⟨vs,q1,L,J⟩:=d (Nat.min m len) (Nat.min_le_left _ _);have Z:Nat.min m len*P.cellsOf e≤len*P.cellsOf e:=Nat.mul_le_mul_right _ (Nat.min_le_right _ _);have Y:Nat.min m len*P.cellsOf e≤m*P.cellsOf e:=Nat.mul_le_mul_right _ (Nat.min_le_left _ _);cases X with
     |fT S=>
      rename_i b;obtain⟨b',cur,k1,M,k3,k4⟩:=D.cells _ _ _ O;rw[S]at k1;obtain rfl:=Option.some.inj k1;have g:=run_storeCells_cells (P:=P) b off vs 0 w
       (fun j hj=>by rw[Nat.add_zero,jy M (by omega)];rfl)
       (fun j hj=>by simp[World.frozen?,M])
       (fun u o=>by obtain⟨k,A,rfl⟩:=List.getElem_of_mem o;have:=(J k (by omega)).2;simpa[List.getD_eq_getElem?_getD,A]using this)
      simp only[Nat.add_zero]at g;refine Out.value (v:=goInt (Nat.min m len:Nat)) (w':=w.setCells b off vs) ?_ (.refl G) (D.store O off vs (F.take (Nat.min m len*P.cellsOf e)) (by simp;omega) (by omega) (fun k A=> ?_) b S) (.sc _) h
      ·rw[←q]at L;simp[Builtin.copy_,run_underlying hu,hlen,sizeOf,run_typeInfo w n,L,g]
      ·simp only[List.length_take]at A;have l:k<Nat.min m len*P.cellsOf e:=by omega
       have e1:(F.take (Nat.min m len*P.cellsOf e)).getD k .any=F.getD k .any:=by simp only[List.getD_eq_getElem?_getD];rw[List.getElem?_take_of_lt l]
       rw[e1];exact J k l
    ·exact h.elim
   ·exact h.elim
  ·exact h.elim
 ·exact h.elim
def bG (P:Program) (σ:AS) (b:Builtin) (ts:List TypeId) (args:List AV) (K:AV→AS→Prop):Prop:=
 match b,ts,args with
 |.len,[t],[x]=>jL P σ t x fun v=>K v σ
 |.append,[t,d],[s,x]=>mU P σ t d s x K
 |.copy,[t,_],[x,y]=>gZ P σ t x y K
 |.min,_,[.sc (.int k a),.sc (.int k' b)]=>K (.sc (.int k (if b<a then b else a))) σ
 |.max,_,[.sc (.int k a),.sc (.int k' b)]=>K (.sc (.int k (if a<b then b else a))) σ
 | _,_,_ =>False
theorem vT {α:Type}{a:Array α}{x y:α}(h:a.toList= [x,y]):a= #[x,y]:=by apply Array.ext';rw[h]
theorem DD {α:Type}{a:Array α}{x:α}(h:a.toList= [x]):a= #[x]:=by apply Array.ext';rw[h]
theorem AG (n:Inv P G σ w) {b:Builtin}{ts:Array TypeId}{ty:TypeId}{cs:Array Bool}{args:Array Operand}{s:Fr}{ρ:Operand→Value}(j:∀x,ba P G (ev s x) (ρ x))
 (h:bG P σ b ts.toList (args.toList.map (ev s)) K):Out P G K Pn ((builtin b ts ty cs (args.map ρ)).run P w):=by
 unfold bG at h;split at h
 ·rename_i t x h1 d;obtain rfl:=DD h1;obtain⟨o,rfl⟩:∃o,args= #[o]:=by
   cases hl:args.toList with
   |nil=>rw[hl]at d;simp at d
   |cons o r=>rw[hl]at d;simp at d;obtain⟨_,rfl⟩:=d;exact⟨o,DD hl⟩
  simp at d;subst d;have e:(#[o]:Array Operand).map ρ= #[ρ o]:=by simp
  rw[e];exact KG (ty:=ty) n (j o) h
 ·rename_i t y a x h1 d;obtain rfl:=vT h1;obtain⟨i,g,rfl⟩:∃i g,args= #[i,g]:=by
   cases hl:args.toList with
   |nil=>rw[hl]at d;simp at d
   |cons o r=>
    cases r with
    |nil=>rw[hl]at d;simp at d
    |cons l r=>rw[hl]at d;simp at d;obtain⟨_,_,rfl⟩:=d;exact⟨o,l,vT hl⟩
  simp at d;obtain⟨rfl,rfl⟩:=d;have e:(#[i,g]:Array Operand).map ρ= #[ρ i,ρ g]:=by simp
  rw[e];exact CP (ty:=ty) n (j i) (j g) h
 ·rename_i t y a x h1 d;obtain rfl:=vT h1;obtain⟨i,g,rfl⟩:∃i g,args= #[i,g]:=by
   cases hl:args.toList with
   |nil=>rw[hl]at d;simp at d
   |cons o r=>
    cases r with
    |nil=>rw[hl]at d;simp at d
    |cons l r=>rw[hl]at d;simp at d;obtain⟨_,_,rfl⟩:=d;exact⟨o,l,vT hl⟩
  simp at d;obtain⟨rfl,rfl⟩:=d;have e:(#[i,g]:Array Operand).map ρ= #[ρ i,ρ g]:=by simp
  rw[e];exact HG (ty:=ty) n (j i) (j g) h
 all_goals first|exact h.elim|skip
 all_goals
  rename_i k a k' v d;obtain⟨i,g,rfl⟩:∃i g,args= #[i,g]:=by
   cases hl:args.toList with
   |nil=>rw[hl]at d;simp at d
   |cons o r=>
    cases r with
    |nil=>rw[hl]at d;simp at d
    |cons l r=>rw[hl]at d;simp at d;obtain⟨_,_,rfl⟩:=d;exact⟨o,l,vT hl⟩
  simp at d;obtain⟨D,A⟩:=d;have u:=j i;have q:=j g;rw[D]at u;rw[A]at q;have e:(#[i,g]:Array Operand).map ρ= #[ρ i,ρ g]:=by simp
  rw[e];generalize ρ i=v1 at u⊢;generalize ρ g=v2 at q⊢;cases u;cases q
 ·exact Out.pure n (s:=Builtin.min_ ts ty #[.int k a,.int k' v]) (by simp[Builtin.min_,Builtin.min2]) (.sc _) h
 ·exact Out.pure n (s:=Builtin.max_ ts ty #[.int k a,.int k' v]) (by simp[Builtin.max_,Builtin.max2]) (.sc _) h
end Go.AW
namespace Go.AW
open Go Go.RowKit
variable {P:Program} {G:Gh} {σ:AS} {w:World} {K Pn:AV→AS→Prop}
theorem Inv.FW (h:Inv P G σ w) (o:Obj) (l:bN) (g:l.DT=true) (q:HI (G.bind w.heap.size) (w.alloc o) l w.heap.size):
 ∃G',G.Le G'∧G'.inj G.top=some w.heap.size∧Inv P G' (σ.set G.top l) (w.alloc o):=by
 have hle:=G.sN w.heap.size (h.top _ (Nat.le_refl _)).1;have j:=h.bind o;refine⟨_,hle,by simp[Gh.bind],j.below,j.base,j.mem,j.top,(fun i b e=>⟨(j.dA i b e).1,(j.dA i b e).2.1,fun ty cs u=>(j.dA i b e).2.2 ty cs (by
  by_cases d:i=G.top
  ·subst d;simp[AS.set]at u;subst u;cases g
  ·simpa[AS.set,d]using u)⟩),j.fN,?_,?_,?_,?_,j.own⟩
 ·intro i ty cs e;by_cases d:i=G.top
  ·simp[AS.set,d]at e;subst e;cases g
  ·simp[AS.set,d]at e;exact j.cells i ty cs e
 ·intro i es e;by_cases d:i=G.top
  ·simp[AS.set,d]at e;subst e;cases g
  ·simp[AS.set,d]at e;exact j.maps i es e
 ·intro i s p e;by_cases d:i=G.top
  ·subst d;simp[AS.set]at e;subst e;exact⟨w.heap.size,by simp[Gh.bind],q⟩
  ·simp[AS.set,d]at e;exact j.dY i s p e
 ·intro i n e;by_cases d:i=G.top
  ·simp[AS.set,d]at e;subst e;cases g
  ·simp[AS.set,d]at e;exact j.tok i n e
theorem Inv.Nm (h:Inv P G σ w) {id b:Nat}{H:Obj}(D:G.inj id=some b) (hw:w.heap[b]? =some H) (Z:∀c e f,H≠ .cells c e f) (S:∀ms I,H≠ .map ms I) (o:Obj) (A:bN) (q:A.DT=true)
 (O:HI G { w with heap:=w.heap.setIfInBounds b o } A b):
 Inv P G (σ.set id A) { w with heap:=w.heap.setIfInBounds b o } :=by
 have T:=dX hw;have hB:=h.dA id b D;have other:∀k,k≠b→(w.heap.setIfInBounds b o)[k]? =w.heap[k]? :=fun k Y=>Array.getElem?_setIfInBounds_ne (fun e=>Y e.symm);have same:(w.heap.setIfInBounds b o)[b]? =some o:=by simp[T]
 have F:∀o,G.mem b o=none:=by
  intro o';cases hm:G.mem b o' with
  |none=>rfl
  |some v=>
   have:=(h.mem b o' v hm).1;simp only[World.cell?,hw]at this;cases H with
   |cells c e f=>exact absurd rfl (Z c e f)
   | _ =>simp at this
 refine⟨⟨h.below.os,h.below.tape,h.below.output,by simpa using h.below.size,fun k Y=>by
  have U:k≠b:=by have:=hB.1;omega
  rw[show({ w with heap:=w.heap.setIfInBounds b o } :World).heap[k]? =(w.heap.setIfInBounds b o)[k]? from rfl,other k U];exact h.below.block k Y⟩,h.base,?_,h.top,?_,h.fN,?_,?_,?_,?_,?_⟩
 ·intro J o v em;have d:J≠b:=by intro i;subst i;rw[F o]at em;cases em
  exact⟨by rw[World.cell?_of_block (w:=w) (other J d)];exact(h.mem J o v em).1,(h.mem J o v em).2⟩
 ·intro j c g;have:=h.dA j c g;refine⟨this.1,by simpa using this.2.1,fun u cs' Q=> ?_⟩;by_cases l:j=id
  ·subst l;simp[AS.set]at Q;subst Q;cases q
  ·exact this.2.2 u cs' (by simpa[AS.set,l]using Q)
 ·intro j u cs' g;have l:j≠id:=by intro i;subst i;simp[AS.set]at g;subst g;cases q
  simp[AS.set,l]at g;obtain⟨c,L,k1,y,E⟩:=h.cells j u cs' g;have d:c≠b:=fun i=>l (h.fN j id b (i ▸ k1) D);exact⟨c,L,k1,by rw[other c d];exact y,E⟩
 ·intro j ab g;have l:j≠id:=by intro i;subst i;simp[AS.set]at g;subst g;cases q
  simp[AS.set,l]at g;obtain⟨c,M,I,k1,y,E⟩:=h.maps j ab g;have d:c≠b:=fun i=>l (h.fN j id b (i ▸ k1) D);exact⟨c,M,I,k1,by rw[other c d];exact y,E⟩
 ·intro j s p g;by_cases l:j=id
  ·subst l;simp[AS.set]at g;subst g;exact⟨b,D,O⟩
  ·simp[AS.set,l]at g;obtain⟨c,k1,y⟩:=h.dY j s p g;have d:c≠b:=fun i=>l (h.fN j id b (i ▸ k1) D);exact⟨c,k1,y.ka (fun _ _ h=>h) (fun o ho=>by rw[other c d];exact ho) (fun m ms I hm=>by rw[other m (fun e=>by subst e;rw[hw]at hm;exact S _ _ (Option.some.inj hm))];exact hm)⟩
 ·intro j n g;have l:j≠id:=by intro i;subst i;simp[AS.set]at g;subst g;cases q
  simp[AS.set,l]at g;exact h.tok j n g
 ·intro t r et;obtain⟨k1,y,E⟩:=h.own t r et;refine⟨k1,y,fun c o ea k X V=> ?_⟩;obtain⟨m1,m2,m3,m4,m5,m6,m7⟩:=E c o ea k X V;have d:c≠b:=fun i=>m4 id (i ▸ D);refine⟨?_,?_,m3,m4,m5,by simpa using m6,m7⟩
  ·rw[World.cell?_of_block (w:=w) (other c d)];exact m1
  ·rw[World.frozen?_of_block (w:=w) (other c d)];exact m2
def nE (P:Program) (σ:AS) (t:TypeId) (x:AV) (K:AV→AS→Prop):Prop:=
 match x with
 |.sc (.string b)=>P.underlying t=some .string∧ ∀id,σ id=none→K (.ptr id 0) (σ.set id (.lT b 0))
 |.mp bh=>(match P.underlying t,σ bh with
  |some (.map _ _),some (.map es)=> ∀id,σ id=none→K (.ptr id 0) (σ.set id (.jN bh es.length []))
  | _,_ =>False)
 | _ =>False
def Fl (id:Nat) (b:ByteArray) (pos:Nat) (σ:AS) (K:AV→AS→Prop):Prop:=
 if pos<b.size then K (.bQ [.sc (.bool true),.sc (.int .i64 pos),.sc (.int .i32 (Utf8.decode b pos).1)]) (σ.set id (.lT b (pos+(Utf8.decode b pos).2)))else K (.bQ [.sc (.bool false)]) σ
def BJ (id bh d:Nat) (done:List Nat) (σ:AS) (K:AV→AS→Prop):Prop:=
 match σ bh with
 |some (.map es)=>es.length=d∧((∀k,k<d→k∈done)→K (.bQ [.sc (.bool false)]) σ)∧
  ∀k,k<d→k ∉ done→K (.bQ [.sc (.bool true),(es.getD k (.any,.any)).1,(es.getD k (.any,.any)).2]) (σ.set id (.jN bh d (k::done)))
 | _ =>False
def zf (σ:AS) (x:AV) (str:Bool) (K:AV→AS→Prop):Prop:=
 match x,str with
 |.ptr id off,false=>off=0∧(match σ id with
  |some (.jN bh d done)=>BJ id bh d done σ K
  | _ =>False)
 |.ptr id off,true=>off=0∧(match σ id with
  |some (.lT b pos)=>Fl id b pos σ K
  | _ =>False)
 | _,_ =>False
theorem En (d:Inv P G σ w) {t:TypeId}{x:AV}{v:Value}(q:ba P G x v) (h:nE P σ t x K):
 Out P G K Pn (((do pure (Next.value (←Instr.range t v))):Sem Next).run P w):=by
 unfold nE at h;split at h
 ·rename_i b;cases q;obtain⟨G',o,n,l⟩:=d.FW (.stringIter b 0) (.lT b 0) rfl (heap_alloc_new w _);refine Out.value (v:= .pointer (some ⟨w.heap.size,0,none⟩)) ?_ o l (.ptr n) (h.2 _ d.fresh);simp[Instr.range,run_underlying h.1,Sem.run_bind,Result.andThen]
 ·rename_i bh;split at h
  ·rename_i D H es hu A;obtain⟨m,ms,clock,h1,j,⟨F,y⟩,E⟩:=d.maps bh es A;cases q with
   |mp u=>
    rw[h1]at u;obtain rfl:=Option.some.inj u;have g:=dX j;obtain⟨G',o,n,l⟩:=d.FW (.mapIter (some m) clock #[] clock) (.jN bh es.length []) rfl
     ⟨m,clock,#[],clock,ms,clock,heap_alloc_new w _,(G.sN w.heap.size (d.top _ (Nat.le_refl _)).1).inj _ _ h1,by rw[eT w _ g];exact j,
      by omega,Nat.le_refl _,Nat.le_refl _,y,fun k e i=>⟨fun _ =>y.1 k e i,fun _ =>by have:=(Array.getElem?_eq_some_iff.1 i).1;omega⟩,fun k e i _ =>by simp,by simp,by simp,by omega,by simp⟩
    refine Out.value (v:= .pointer (some ⟨w.heap.size,0,none⟩)) ?_ o l (.ptr n) (h _ d.fresh);simp[Instr.range,run_underlying hu,Sem.run_bind,Result.andThen,MapKept.run_getObj_map j]
  ·exact h.elim
 ·exact h.elim
theorem wa {n:Nat}(d:0<n):∃i w',(choose (.mapNext n)).run P w= .ok i w'∧i<n∧(w'=w∨w'=w.drew):=by
 by_cases h1:n≤1
 ·exact⟨0,w,by simp[choose,Sem.run,Question.forced,h1],d,.inl rfl⟩
 ·exact⟨_,w.drew,by simp[choose,Sem.run,Question.forced,h1];rfl,by simp[Question.cut];exact Nat.mod_lt _ d,.inr rfl⟩
theorem Cy {ms:Array MapEntry}{seen:Array Nat}{since:Nat}(d:∀e,e∈ms→e.born<since):
 (ms.filter fun e=> !seen.contains e.born).filter (fun e=>decide (e.born<since))=(ms.filter fun e=> !seen.contains e.born)∧
 (ms.filter fun e=> !seen.contains e.born).filter (fun e=>decide (e.born≥since))= #[]:=by
 constructor
 ·rw[Array.filter_eq_self];intro e he;have:=d e (Array.mem_filter.1 he).1;simpa using this
 ·rw[Array.filter_eq_empty_iff];intro e he;have:=d e (Array.mem_filter.1 he).1;simp;omega
theorem xX {t:TypeId}{c m since last clock:Nat}{seen:Array Nat}{ms:Array MapEntry}(n:w.heap[c]? =some (.mapIter (some m) since seen last)) (l:w.heap[m]? =some (.map ms clock))
 (d:(!seen.isEmpty&& !ms.isEmpty&&ms.all fun e=>decide (e.born≥last))=false) (h:∀e,e∈ms→e.born<since) (j:(ms.filter fun e=> !seen.contains e.born).isEmpty=true):
 (Instr.next (.pointer (some ⟨c,0,none⟩)) false t).run P w= .ok (.tuple #[.bool false]) w:=by
 have g:(getObj c).run P w= .ok (.mapIter (some m) since seen last) w:=by simp[getObj,Sem.run,n]
 have i:(getObj m).run P w= .ok (.map ms clock) w:=MapKept.run_getObj_map l;obtain⟨q,o⟩:=Cy (seen:=seen) h;rw[Array.isEmpty_iff]at j;have hf:(Question.mapNext 1).forced=true:=rfl;simp only[Instr.next,Sem.run_bind,g,Result.andThen_ok,i];rw[d];simp only[j];simp[hf,Sem.run_bind,Result.andThen]
theorem xW {t:TypeId}{c m since last clock:Nat}{seen:Array Nat}{ms:Array MapEntry}(E:w.heap[c]? =some (.mapIter (some m) since seen last)) (H:w.heap[m]? =some (.map ms clock))
 (d:(!seen.isEmpty&& !ms.isEmpty&&ms.all fun e=>decide (e.born≥last))=false) (v:∀e,e∈ms→e.born<since) (D:(ms.filter fun e=> !seen.contains e.born).isEmpty=false):
 ∃e w',(w'=w∨w'=w.drew)∧e∈(ms.filter fun e=> !seen.contains e.born)∧
  (Instr.next (.pointer (some ⟨c,0,none⟩)) false t).run P w= .ok (.tuple #[.bool true,e.key,e.val]) { w' with heap:=w'.heap.setIfInBounds c (.mapIter (some m) since (seen.push e.born) clock) } :=by
 have q:(getObj c).run P w= .ok (.mapIter (some m) since seen last) w:=by simp[getObj,Sem.run,E]
 have y:(getObj m).run P w= .ok (.map ms clock) w:=MapKept.run_getObj_map H;obtain⟨J,I⟩:=Cy (seen:=seen) v;generalize hl:(ms.filter fun e=> !seen.contains e.born)=left at*;have l:0<left.size:=by
  rcases Nat.eq_zero_or_pos left.size with h|h
  ·rw[Array.size_eq_zero_iff]at h;subst h;simp at D
  ·exact h
 obtain⟨i,w',A,n,g⟩:=wa (P:=P) (w:=w) l;have F:w'.heap=w.heap:=by rcases g with rfl|rfl<;>rfl
 refine⟨left[i],w',g,Array.getElem_mem n,?_⟩;have j:∀o,(setObj c o).run P w'= .ok () { w' with heap:=w'.heap.setIfInBounds c o } :=fun o=>by simp[setObj,Sem.run,F,E]
 simp only[Instr.next,Sem.run_bind,q,Result.andThen_ok,y];rw[d];simp only[hl,J,I,D];have u:(if (Question.mapNext left.size).forced=true then Result.ok 0 w else Result.ok ((Question.mapNext left.size).cut (w.tape w.drawn (Question.mapNext left.size))) w.drew:Result Nat)=Result.ok i w':=by rw[←A];simp[choose,Sem.run]
 simp[Sem.run_bind,Result.andThen];rw[u];simp[n,Result.andThen,j]
theorem HD (D:Inv P G σ w) {x:AV}{v:Value}{str:Bool}{t:TypeId}(H:ba P G x v) (h:zf σ x str K):
 Out P G K Pn (((do pure (Next.value (←Instr.next v str t))):Sem Next).run P w):=by
 unfold zf at h;split at h
 ·rename_i id off;obtain⟨rfl,h⟩:=h;split at h
  ·rename_i bh n0 done hσ;obtain⟨c,h1,m,since,seen,last,ms,clock,n,h3,I,h5,h6,h7,h8,h9,F,ar,ap,bv,bs⟩:=D.dY id _ rfl hσ;cases H with
   |ptr V=>
    rw[h1]at V;obtain rfl:=Option.some.inj V;unfold BJ at h;split at h
    ·rename_i es Z;obtain⟨hn,k1,k2⟩:=h;obtain⟨m',a9,Y,q1,q2,⟨q3,q4⟩,q5⟩:=D.maps bh es Z;rw[h3]at q1;obtain rfl:=Option.some.inj q1;rw[I]at q2;cases q2;have l:∀e,e∈ms→e.born<since:=by intro e he;obtain⟨k,U,rfl⟩:=Array.getElem_of_mem he;have y:ms[k]? =some ms[k]:=Array.getElem?_eq_getElem U;exact(h9 k _ y).1 (by omega)
     have j:(!seen.isEmpty&& !ms.isEmpty&&ms.all fun e=>decide (e.born≥last))=false:=by
      cases ac:seen.isEmpty with
      |true=>simp
      |false=>
       have M:=ap ac;have h0:0<ms.size:=by omega
       have u:=l ms[0] (Array.getElem_mem h0);rw[Bool.and_eq_false_iff];right;rw[Bool.eq_false_iff];intro hc;have:=(Array.all_eq_true.1 hc) 0 h0;simp at this;omega
     by_cases X:(ms.filter fun e=> !seen.contains e.born).isEmpty=true
     ·have q:=xX (P:=P) (t:=t) n I j l X;refine Out.value q (.refl G) D ?_ (k1 fun k U=> ?_)
      ·refine .bQ [.bool false] rfl fun i g=> ?_
       match i,g with
       |0,_ =>exact .sc _
      ·have d:k<ms.size:=by omega
       have y:ms[k]? =some ms[k]:=Array.getElem?_eq_getElem d;refine(F k _ y U).1 ?_;rw[Array.isEmpty_iff]at X;have:=Array.filter_eq_empty_iff.1 X ms[k] (Array.getElem_mem d);simpa using this
     ·obtain⟨e,w',J,A,q⟩:=xW (P:=P) (t:=t) n I j l (by simpa using X);rw[Array.mem_filter]at A;obtain⟨Q,O⟩:=A;obtain⟨k,U,rfl⟩:=Array.getElem_of_mem Q;have y:ms[k]? =some ms[k]:=Array.getElem?_eq_getElem U;have T:k<n0:=by omega
      have af:k ∉ done:=fun hd=>by have:=(F k _ y T).2 hd;rw[this]at O;simp at O
      have hh:w'.heap=w.heap:=by rcases J with rfl|rfl<;>rfl
      have g:Inv P G σ w':=by
       rcases J with rfl|rfl
       ·exact D
       ·exact D.drew
      have u:=dX n;have am:m≠c:=by rintro rfl;rw[n]at I;cases I
      obtain⟨me,r1,r2,r3⟩:=q5 k (by omega);rw[y]at r1;obtain rfl:=Option.some.inj r1;refine Out.value q (.refl G) (g.Nm h1 (by rw[hh];exact n) (by simp) (by simp) _ (.jN bh n0 (k::done)) rfl ?_) ?_ (k2 k T af)
      ·refine⟨m,since,seen.push ms[k].born,clock,ms,clock,?_,h3,?_,h5,by omega,Nat.le_refl _,h8,h9,?_,?_,(fun _ =>by omega),by omega,?_⟩
       ·show(w'.heap.setIfInBounds c _)[c]? = _;rw[hh];simp[u]
       ·show(w'.heap.setIfInBounds c _)[m]? = _;rw[hh,Array.getElem?_setIfInBounds_ne (fun e=>am e.symm)];exact I
       ·intro k' e' d S;rw[Array.contains_iff_mem,Array.mem_push,List.mem_cons,←Array.contains_iff_mem,F k' e' d S];constructor
        ·rintro(h|h)
         ·exact .inr h
         ·exact .inl (h8.2 _ _ _ _ d y h)
        ·rintro(rfl|h)
         ·rw[y]at d;cases d;exact .inr rfl
         ·exact .inl h
       ·intro x H;rcases Array.mem_push.1 H with H|rfl
        ·exact ar x H
        ·exact l _ Q
       ·intro k' d;simp at d;subst d;exact⟨ms[k],y,by simp⟩
      ·refine .bQ [.bool true,ms[k].key,ms[k].val] rfl fun i g=> ?_
       match i,g with
       |0,_ =>exact .sc _
       |1,_ =>exact r2
       |2,_ =>exact r3
    ·exact h.elim
  ·exact h.elim
 ·rename_i id off;obtain⟨rfl,h⟩:=h;split at h
  ·rename_i b pos hσ;obtain⟨c,h1,n⟩:=D.dY id _ rfl hσ;have n:w.heap[c]? =some (.stringIter b pos):=n;cases H with
   |ptr V=>
    rw[h1]at V;obtain rfl:=Option.some.inj V;unfold Fl at h;have E:(getObj c).run P w= .ok (.stringIter b pos) w:=by simp[getObj,Sem.run,n]
    by_cases M:pos<b.size
    ·rw[if_pos M]at h;have L:∀o,(setObj c o).run P w= .ok () { w with heap:=w.heap.setIfInBounds c o } :=fun o=>by simp[setObj,Sem.run,n]
     have u:=dX n;refine Out.value (v:= .tuple #[.bool true,.int .i64 pos,.int .i32 (Utf8.decode b pos).1]) (G':=G) ?_ (.refl G) (D.Nm h1 n (by simp) (by simp) (.stringIter b (pos+(Utf8.decode b pos).2)) (.lT b (pos+(Utf8.decode b pos).2)) rfl (by show({ w with heap:=w.heap.setIfInBounds c (.stringIter b (pos+(Utf8.decode b pos).2)) } :World).heap[c]? = _;simp[u])) ?_ h
     ·simp[Instr.next,Sem.run_bind,E,Result.andThen,M,L,goInt]
     ·refine .bQ [.bool true,.int .i64 pos,.int .i32 (Utf8.decode b pos).1] rfl fun i g=> ?_
      match i,g with
      |0,_ =>exact .sc _
      |1,_ =>exact .sc _
      |2,_ =>exact .sc _
    ·rw[if_neg M]at h;refine Out.value (v:= .tuple #[.bool false]) (G':=G) ?_ (.refl G) D ?_ h
     ·simp[Instr.next,Sem.run_bind,E,Result.andThen,M]
     ·refine .bQ [.bool false] rfl fun i g=> ?_
      match i,g with
      |0,_ =>exact .sc _
  ·exact h.elim
 ·exact h.elim
def uy (σ:AS) (x:AV) (K:AV→Prop):Prop:=
 match x with
 |.ptr id off=>off=0∧(match σ id with
  |some (.jN bh d (k:: _))=>(match σ bh with
   |some (.map es)=>es.length=d∧K (.bQ [(es.getD k (.any,.any)).1,(es.getD k (.any,.any)).2])
   | _ =>False)
  | _ =>False)
 | _ =>False
theorem Er (D:Inv P G σ w) {x:AV}{v:Value}(Y:ba P G x v) (h:uy σ x fun v=>K v σ):
 Out P G K Pn (((do pure (Next.value (←Instr.entry v))):Sem Next).run P w):=by
 unfold uy at h;split at h
 ·rename_i id off;obtain⟨rfl,h⟩:=h;split at h
  ·rename_i bh n0 k rest X;obtain⟨c,h1,m,since,seen,last,ms,clock,h2,h3,Q,h5,h6,h7,h8,h9,a1,a0,av,ar,I⟩:=D.dY id _ rfl X;cases Y with
   |ptr O=>
    rw[h1]at O;obtain rfl:=Option.some.inj O;split at h
    ·rename_i es q;obtain⟨hn,hk⟩:=h;obtain⟨m',V,o,M,L,⟨q3,q4⟩,U⟩:=D.maps bh es q;rw[h3]at M;obtain rfl:=Option.some.inj M;rw[Q]at L;cases L;obtain⟨e,n,g2⟩:=I k rfl;have ab:k<ms.size:=(Array.getElem?_eq_some_iff.1 n).1;have H:clock=last:=by omega
     obtain⟨me,J,T,S⟩:=U k (by omega);rw[n]at J;obtain rfl:=Option.some.inj J;have l:(getObj c).run P w= .ok (.mapIter (some m) since seen last) w:=by simp[getObj,Sem.run,h2]
     have E:(getObj m).run P w= .ok (.map ms clock) w:=MapKept.run_getObj_map Q;have d:ms.find? (fun x=>x.born==e.born)=some e:=by
      cases hf:ms.find? (fun x=>x.born==e.born)with
      |none=>have:=Array.find?_eq_none.1 hf e (Array.mem_of_getElem? n);simp at this
      |some y=>
       have Z:=Array.find?_some hf;have g:=Array.mem_of_find?_eq_some hf;obtain⟨j,hj,u⟩:=Array.getElem_of_mem g;have F:ms[j]? =some y:=by rw[Array.getElem?_eq_getElem hj,u]
       have:=h8.2 j k y e F n (by simpa using Z);subst this;rw[n]at F;exact F.symm ▸ rfl
     refine Out.value (v:= .tuple #[e.key,e.val]) (G':=G) ?_ (.refl G) D ?_ hk
     ·simp[Instr.entry,Sem.run_bind,l,Result.andThen,g2,E,H,d]
     ·refine .bQ [e.key,e.val] rfl fun i A=> ?_
      match i,A with
      |0,_ =>exact T
      |1,_ =>exact S
    ·exact h.elim
  ·exact h.elim
 ·exact h.elim
def jv (n:Nat) (v:AV):List AV:=(List.replicate n v).flatMap (·.cells)
theorem yW {v:AV} :∀(n:Nat),(jv n v).length=n*v.cells.length∧ ∀i j,i<n→j<v.cells.length→(jv n v).getD (i*v.cells.length+j) .any=v.cells.getD j .any:=by
 intro n;induction n with
 |zero=>exact⟨by simp[jv],fun i j h _ =>by omega⟩
 |succ n d=>
  have e:jv (n+1) v=v.cells++jv n v:=by simp[jv,List.replicate_succ]
  rw[e];refine⟨by rw[List.length_append,d.1,Nat.add_mul];omega,fun i j h g=> ?_⟩;cases i with
  |zero=>rw[Nat.zero_mul,Nat.zero_add,aO _ _ _ g]
  |succ i=>
   have:(i+1)*v.cells.length+j=v.cells.length+(i*v.cells.length+j):=by rw[Nat.add_mul];omega
   rw[this,aX _ _ _ (by omega)];have l:v.cells.length+(i*v.cells.length+j)-v.cells.length=i*v.cells.length+j:=by omega
   rw[l];exact d.2 i j (by omega) g
def ku (P:Program) (σ:AS) (t:TypeId) (len cap:AV) (K:AV→AS→Prop):Prop:=
 match ct P t,len,cap with
 |some e,.sc (.int _ n),.sc (.int _ c)=>n=c∧0≤n∧n≤1000000∧P.cellsOf e≠0∧(P.bytesOf e:Int)*n≤8000000∧(aw P e).laid=true∧(aw P e).cells.length=P.cellsOf e∧
  ∀id,σ id=none→K (.fT id 0 n.toNat n.toNat) (σ.set id (.cells e (jv n.toNat (aw P e))))
 | _,_,_ =>False
theorem vO {n:Int}(h0:0≤n) (h1:n≤1000000):IntKind.i64.wrap n=n:=by simp[IntKind.wrap,IntKind.bits,IntKind.signed];split<;>omega
theorem HT {z:Value}{e:TypeId}{m:Nat}(h:z.cells.size=m) (n:Nat) {zero:Array Value}(hzero:zero=if n*m=0 then #[]else z.cells) (i j:Nat) (o:i<n) (l:j<m):
 (((Array.range (n*m)).map (zero[· %zero.size]!))).getD (i*m+j) undef=z.cells.getD j undef:=by
 have g:i*m+j<n*m:=by have:(i+1)*m≤n*m:=Nat.mul_le_mul_right m o;rw[Nat.add_mul]at this;omega
 have h0:¬n*m=0:=by omega
 rw[if_neg h0]at hzero;subst hzero;have q:(i*m+j)%z.cells.size=j:=by rw[h,Nat.add_comm,Nat.add_mul_mod_self_right,Nat.mod_eq_of_lt l]
 have d:j<z.cells.size:=by omega
 have u:z.cells[j]! =z.cells[j]:=by simp[d]
 simp[Array.getD,g,q,d]
theorem xC (Q:Inv P G σ w) {t:TypeId}{len cap:AV}{L M:Value}(hl:ba P G len L) (Z:ba P G cap M) (h:ku P σ t len cap K):
 Out P G K Pn (((do pure (Next.value (←Instr.makeSlice t L M))):Sem Next).run P w):=by
 unfold ku at h;split at h
 ·rename_i e k1 n j c he;obtain⟨rfl,h0,h1,h2,h3,X,E,V⟩:=h;cases hl;cases Z;have hu:=fj he;obtain⟨it,z,d,Y,l⟩:=dD X;have F:it.size=P.cellsOf e:=by simp[Program.cellsOf,d]
  have H:it.bytes=P.bytesOf e:=by simp[Program.bytesOf,d]
  have hw:IntKind.i64.wrap n=n:=vO h0 h1;obtain⟨J,I⟩:=gr (gD (P:=P) (G:=G) z) (by rw[←l];exact X);rw[←l,E]at J I;obtain⟨N,rfl⟩:∃N:Nat,n=N:=⟨n.toNat,by omega⟩;simp only[Int.toNat_natCast]at V;have b1:(N:Int)*P.bytesOf e≤8000000:=by rw[Int.mul_comm];exact h3
  have b2:((N*P.bytesOf e:Nat):Int)≤8000000:=by rw[Int.natCast_mul];exact b1
  have g:¬(N*P.bytesOf e>roomBytes):=by unfold roomBytes;omega
  have S:¬((2:Int)^48<(P.bytesOf e:Int)*N):=by omega
  have q:¬((N:Int)<0):=by omega
  let zero:Array Value:=if N*P.cellsOf e=0 then #[]else z.cells
  let init:Array Value:=(Array.range (N*P.cellsOf e)).map (zero[· %zero.size]!)
  have o:(Instr.makeSlice t (.int k1 N) (.int j N)).run P w= .ok (.slice (some ⟨w.heap.size,0,none⟩) N N) (w.alloc (.cells init e)):=by
   simp only[Instr.makeSlice,Sem.run_bind,run_underlying hu,Result.andThen_ok,asInt,asIntOf,Sem.run_pure,run_typeInfo w d,hw,H];simp only[askRoom,Int.toNat_natCast,g,if_false,sizeOf];have i:¬((281474976710656:Int)<(P.bytesOf e:Int)*N):=by omega
   simp[q,i,Sem.run_bind,Result.andThen,run_typeInfo w d,F];by_cases u:N*P.cellsOf e=0
   ·simp[u,zero,init,newRow,Result.andThen]
   ·simp[u,zero,init,zeroValue,run_typeInfo w d,Y,newRow,Sem.run_bind,Result.andThen]
  have A:∀k,k<N*P.cellsOf e→k/P.cellsOf e<N∧k%P.cellsOf e<P.cellsOf e∧(k/P.cellsOf e)*P.cellsOf e+k%P.cellsOf e=k:=fun k D=>
   ⟨Nat.div_lt_of_lt_mul (by rw[Nat.mul_comm];exact D),Nat.mod_lt _ (by omega),by rw[Nat.mul_comm];exact Nat.div_add_mod k _⟩
  have f1:=(yW (v:=aw P e) N).1;rw[E]at f1;obtain⟨G',hle,y,hinv⟩:=Q.mq e init (jv N (aw P e)) (by rw[f1];simp[init]) (fun k D=>by rw[f1]at D;obtain⟨k1,j,O⟩:=A k D;have U:=(yW (v:=aw P e) N).2 _ _ k1 (by rw[E];exact j);rw[E,O]at U;rw[U];have T:=HT (z:=z) (e:=e) J N (zero:=zero) rfl _ _ k1 j;rw[O]at T;rw[show init.getD k undef= _ from T];exact I _ j);exact Out.value o hle hinv (.fT y) (V _ Q.fresh)
 ·exact h.elim
end Go.AW
