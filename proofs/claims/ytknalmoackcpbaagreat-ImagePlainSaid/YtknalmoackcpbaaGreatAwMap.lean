/- A layer of abstract values over the model's machine: own work for this claim, part AwMap. -/
import Derived.Recover
import Derived.ProofKit
import Derived.OpenShut
import Derived.Carry
import Derived.Deep.Slices
import Derived.Deep.DeepHandedRow
import Derived.Test.YtknalmoackcpbaaGreatAwPure
set_option linter.all false
open Go Go.RowKit List
namespace Go.AW
variable {P:Program} {n:Nat} {ds:List Deferred} {Q:AQ} {s:Fr} {σ:AS}
def eA (d:List (ByteArray×AV)):List (AV×AV):=d.map fun p=>(.sc (.string p.1),p.2)
def iq (k:ByteArray):List (ByteArray×AV)→Option AV
 |[]=>none
 |(k',v)::r=>if k=k' then some v else iq k r
def kJ (k:ByteArray) (v:AV):List (ByteArray×AV)→List (ByteArray×AV)
 |[]=> [(k,v)]
 |(k',d)::r=>if k=k' then(k,v)::r else(k',d)::kJ k v r
def Gx (k:ByteArray):(k==k)=true:=(MapKept.bytes_beq k k).2 rfl
def OY {a b:ByteArray}(h:a≠b):(a==b)=false:=Bool.eq_false_iff.2 fun e=>h ((MapKept.bytes_beq a b).1 e)
def uM (k:ByteArray) (v:AV):∀(d:List (ByteArray×AV)) (ms:List MapEntry) (i:Nat),ms.length=d.length→(∀(j:Nat) (m:MapEntry),ms[j]? =some m→ ∃p:ByteArray×AV,d[j]? =some p∧m.key= .string p.1)→
 (iq k d=none∧Instr.findNow .string (.string k) ms i=some none∧kJ k v d=d++ [(k,v)])∨
 (∃(j:Nat) (p:ByteArray×AV) (m:MapEntry),d[j]? =some p∧ms[j]? =some m∧p.1=k∧iq k d=some p.2∧Instr.findNow .string (.string k) ms i=some (some (i+j,m.val))∧kJ k v d=d.set j (k,v)):=by
 intro d;induction d with
 |nil=>intro ms i hl _;have:ms= []:=length_eq_zero_iff.1 (by simpa using hl);subst this;exact .inl ⟨rfl,rfl,rfl⟩
 |cons p r F=>
  intro ms i hl y;cases ms with
  |nil=>simp at hl
  |cons m ms=>
   obtain⟨E,l,g⟩:=y 0 m rfl;obtain rfl:p=E:=by simpa using l
   by_cases he:k=p.1
   ·right;refine⟨0,p,m,rfl,rfl,he.symm,by simp[iq,he],?_,by simp[kJ,he]⟩;simp[Instr.findNow,g,Instr.sameNow,he,Gx]
   ·rcases F ms (i+1) (by simpa using hl) (fun j h hm=>y (j+1) h (by simpa using hm))with⟨h1,u,o⟩|⟨j,q,h,h1,u,o,L,J,I⟩
    ·left;refine⟨by simp[iq,he,h1],?_,by simp[kJ,he,o]⟩;have:(k==p.1)=false:=OY he;simp[Instr.findNow,g,Instr.sameNow,this,u]
    ·right;refine⟨j+1,q,h,by simpa using h1,by simpa using u,o,by simp[iq,he,L],?_,by simp[kJ,he,I]⟩;have:(k==p.1)=false:=OY he;simp[Instr.findNow,g,Instr.sameNow,this,J];omega
def gl {t:TypeId}{w:World}{b:Bool}{k:ByteArray}(ht:P.underlying t=some .string):(Instr.checkKey b 10000 t (.string k)).run P w= .ok () w:=by
 have:∀m:Nat,(Instr.checkKey b (m+1) t (.string k)).run P w= .ok () w:=fun m=>by simp[Instr.checkKey,run_underlying ht,Sem.run_bind,Result.andThen]
 exact this 9999
def iz {t:TypeId}{w:World}{k:ByteArray}{ms:List MapEntry}{r:Option (Nat×Value)}(ht:P.underlying t=some .string) (h:Instr.findNow .string (.string k) ms 0=some r):
 (Instr.findKey t (.string k) ms).run P w= .ok r w:=by
 simp[Instr.findKey,run_underlying ht,Sem.run_bind,Result.andThen,h]
theorem Cq {G:Gh}{w:World}{id:Nat}{d:List (ByteArray×AV)}(o:Inv P G σ w) (l:σ id=some (.map (eA d))):
 ∃(b:Nat) (ms:Array MapEntry) (clock:Nat),G.inj id=some b∧w.heap[b]? =some (.map ms clock)∧(ms.size=d.length∧oR ms clock)∧(∀(j:Nat) (m:MapEntry),ms.toList[j]? =some m→ ∃p:ByteArray×AV,d[j]? =some p∧m.key= .string p.1∧aV P G p.2 m.val):=by
 obtain⟨b,ms,clock,h1,u,⟨v,g⟩,q⟩:=o.maps id _ l;have hlen:(eA d).length=d.length:=by simp[eA]
 refine⟨b,ms,clock,h1,u,⟨by omega,g⟩,fun j m hm=> ?_⟩;have h:j<d.length:=by have:=(List.getElem?_eq_some_iff.1 hm).1;simp at this;omega
 obtain⟨i,g1,g2,g3⟩:=q j (by omega);rw[Array.getElem?_toList,g1]at hm;obtain rfl:=Option.some.inj hm;refine⟨d[j],List.getElem?_eq_getElem h,?_,?_⟩
 ·have e:((eA d).getD j (.any,.any)).1= .sc (.string d[j].1):=by simp[eA,h]
  rw[e]at g2;generalize i.key=x at g2;cases g2;rfl
 ·have e:((eA d).getD j (.any,.any)).2=d[j].2:=by simp[eA,h]
  rwa [e]at g3
def pM (P:Program) (d:TypeId) (r:Option AV) (ok:Bool):AV:=if ok then .bI [r.getD (ax P d),.sc (.bool r.isSome)]else r.getD (ax P d)
def Ej {G:Gh}{w:World}{K Pn:AV→AS→Prop}(q:Inv P G σ w) {t O J:TypeId}{x T:Value}{ok:Bool}{id:Nat}{k:ByteArray}{l:List (ByteArray×AV)}
 (hm:P.underlying t=some (.map O J)) (u:P.underlying O=some .string) (hz:(ax P J).laid=true) (hx:aV P G (.mp id) x) (F:aV P G (.sc (.string k)) T) (hσ:σ id=some (.map (eA l)))
 (h:K (pM P J (iq k l) ok) σ):Out P G K Pn (((do pure (Next.value (←Instr.lookup t x T ok))):Sem Next).run P w):=by
 obtain⟨b,ms,clock,h1,Y,⟨h3,al⟩,X⟩:=Cq q hσ;cases F;cases hx with
 |mp V=>
  rw[h1]at V;obtain rfl:=Option.some.inj V;obtain⟨it,z,I,E,o⟩:=dq hz;have g:∀(a:AV) (v:Value) (y:Bool),aV P G a v→aV P G (.bI [a,.sc (.bool y)]) (.tuple #[v,.bool y]):=by
   intro a v y ha;refine .bI [v,.bool y] rfl fun i q=> ?_
   match i,q with
   |0,_ =>exact ha
   |1,_ =>exact .sc _
  rcases uM k .any l ms.toList 0 (by simpa using h3) (fun j m hm=>let ⟨p,a,b,_⟩:=X j m hm;⟨p,a,b⟩)with⟨g1,g2,_⟩|⟨j,p,m,g1,g2,g3,g4,g5,_⟩
  ·have d:(Instr.lookup t (.map (some b)) (.string k) ok).run P w= .ok (if ok then .tuple #[z,.bool false]else z) w:=by simp only[Instr.lookup,Sem.run_bind,run_underlying hm,Result.andThen_ok,MapKept.run_getObj_map Y,Sem.run_pure,gl u,iz u g2,zeroValue,run_typeInfo w I,E]
   refine Out.value d (.refl G) q ?_ h;rw[g1];unfold pM;cases ok
   ·rw[Option.getD_none,o];exact gn z
   ·exact g _ _ _ (by rw[Option.getD_none,o];exact gn z)
  ·have d:(Instr.lookup t (.map (some b)) (.string k) ok).run P w= .ok (if ok then .tuple #[m.val,.bool true]else m.val) w:=by simp only[Instr.lookup,Sem.run_bind,run_underlying hm,Result.andThen_ok,MapKept.run_getObj_map Y,Sem.run_pure,gl u,iz u g5]
   refine Out.value d (.refl G) q ?_ h;obtain⟨p',M,_,L⟩:=X j m g2;rw[g1]at M;obtain rfl:=Option.some.inj M;rw[g4];unfold pM;cases ok
   ·exact L
   ·exact g _ _ _ L
def ia.lookup {d t u q:Nat}{x j:Operand}{ok:Bool}{ty:TypeId}{pos:String}{L:Array Edge}{g:Option (Nat×Bool)}{K:Fr→AS→Prop}(hd:d<n) (id:Nat) (k:ByteArray) (i:List (ByteArray×AV))
 (hm:P.underlying t=some (.map u q)) (J:P.underlying u=some .string) (F:(ax P q).laid=true) (I:ev s x= .mp id) (o:ev s j= .sc (.string k)) (E:σ id=some (.map (eA i)))
 (h:K (s.put (some d) (pM P q (iq k i) ok)) σ):ia P n ds Q ⟨some d,.lookup t x j ok,ty,pos,L,g⟩ s σ K:=
 ia.mZ hd fun G a w l=>Ej (K:=fun v y=>K (s.put (some d) v) y) l.inv hm J F (I ▸ l.ev x) (o ▸ l.ev j) E h
def Inv.z5 {G:Gh}{w:World}(h:Inv P G σ w) {id b:Nat}{ms:Array MapEntry}{clock:Nat}(M:G.inj id=some b) (hw:w.heap[b]? =some (.map ms clock)) (g:Array MapEntry) (d:Nat) (es:List (AV×AV)) (a1:g.size=es.length) (Y:oR g d)
 (i:(∀(k:Nat) (e:MapEntry),ms[k]? =some e→ ∃l,g[k]? =some l∧l.born=e.born)∧(∀(k:Nat) (l:MapEntry),g[k]? =some l→ms[k]? =none→clock≤l.born)∧clock≤d∧g.size+clock=ms.size+d)
 (hr:∀k,k<es.length→ ∃m,g[k]? =some m∧aV P G (es.getD k (.any,.any)).1 m.key∧aV P G (es.getD k (.any,.any)).2 m.val):
 Inv P G (σ.set id (.map es)) { w with heap:=w.heap.setIfInBounds b (.map g d) } :=by
 have ac:=dP hw;have hB:=h.dm id b M;have other:∀k,k≠b→(w.heap.setIfInBounds b (.map g d))[k]? =w.heap[k]? :=fun k E=>Array.getElem?_setIfInBounds_ne (fun e=>E e.symm);have same:(w.heap.setIfInBounds b (.map g d))[b]? =some (.map g d):=by simp[ac]
 have ab:∀o,G.mem b o=none:=by
  intro o;cases hm:G.mem b o with
  |none=>rfl
  |some v=>have:=(h.mem b o v hm).1;simp[World.cell?,hw]at this
 refine⟨⟨h.below.os,h.below.tape,h.below.output,by simpa using h.below.size,fun k E=>by
  have a3:k≠b:=by have:=hB.1;omega
  rw[show({ w with heap:=w.heap.setIfInBounds b (.map g d) } :World).heap[k]? =(w.heap.setIfInBounds b (.map g d))[k]? from rfl,other k a3];exact h.below.block k E⟩,h.base,?_,h.top,?_,h.fA,?_,?_,?_,?_,?_⟩
 ·intro b' o v em;have q:b'≠b:=by intro l;subst l;rw[ab o]at em;cases em
  exact⟨by rw[World.cell?_of_block (w:=w) (other b' q)];exact(h.mem b' o v em).1,(h.mem b' o v em).2⟩
 ·intro j c u;have:=h.dm j c u;refine⟨this.1,by simpa using this.2.1,fun L cs' hn=> ?_⟩;by_cases y:j=id
  ·subst y;simp[AS.set]at hn
  ·exact this.2.2 L cs' (by simpa[AS.set,y]using hn)
 ·intro j L cs' u;have y:j≠id:=by intro l;subst l;simp[AS.set]at u
  simp[AS.set,y]at u;obtain⟨c,al,k1,J,X⟩:=h.cells j L cs' u;have q:c≠b:=fun l=>y (h.fA j id b (l ▸ k1) M);exact⟨c,al,k1,by rw[other c q];exact J,X⟩
 ·intro j a7 u;by_cases y:j=id
  ·subst y;simp[AS.set]at u;subst u;exact⟨b,g,d,M,same,⟨a1,Y⟩,hr⟩
  ·simp[AS.set,y]at u;obtain⟨c,ar,cl,k1,J,X⟩:=h.maps j a7 u;have q:c≠b:=fun l=>y (h.fA j id b (l ▸ k1) M);exact⟨c,ar,cl,k1,by rw[other c q];exact J,X⟩
 ·intro j s p u;have y:j≠id:=by intro l;subst l;simp[AS.set]at u;subst u;cases p
  simp[AS.set,y]at u;obtain⟨c,k1,J⟩:=h.dQ j s p u;have q:c≠b:=fun l=>y (h.fA j id b (l ▸ k1) M);refine⟨c,k1,?_⟩;cases s with
  |lF s pos=>have a0:w.heap[c]? =some (.stringIter s pos):=J;show(w.heap.setIfInBounds b (.map g d))[c]? = _;rw[other c q];exact a0
  |jD ba n0 done=>
   obtain⟨m,since,seen,last,av,I,q1,q2,q3,q4,q5,q6,q7,q8,q9,V,T,ap,O⟩:=J;by_cases hm:m=b
   ·subst hm;rw[hw]at q3;cases q3;refine⟨m,since,seen,last,g,d,by rw[←q1];exact other c q,q2,same,?_,q5,by have:=i.2.2.1;omega,Y,?_,?_,V,T,by have:=i.2.2.2;omega,?_⟩
    ·rcases Nat.lt_or_ge g.size n0 with ac|a6
     ·have F:ms[g.size]? =some ms[g.size]:=Array.getElem?_eq_getElem (by omega);obtain⟨l,g1,_⟩:=i.1 _ _ F;simp at g1
     ·exact a6
    ·intro k e E;cases F:ms[k]? with
     |some e0=>obtain⟨l,g1,g2⟩:=i.1 k e0 F;rw[E]at g1;cases g1;rw[q8 k e0 F,g2]
     |none=>
      have g1:=i.2.1 k e E F;have g2:ms.size≤k:=by simpa using F
      constructor<;>intro<;>omega
    ·intro k e E a2;have F:ms[k]? =some ms[k]:=Array.getElem?_eq_getElem (by omega);obtain⟨l,g1,g2⟩:=i.1 k _ F;rw[E]at g1;cases g1;rw[g2];exact q9 k _ F a2
    ·intro k E;obtain⟨e,g1,g2⟩:=O k E;obtain⟨l,g3,g4⟩:=i.1 k e g1;exact⟨l,g3,by rw[g2,g4]⟩
   ·exact⟨m,since,seen,last,av,I,by rw[←q1];exact other c q,q2,by rw[←q3];exact other m hm,q4,q5,q6,q7,q8,q9,V,T,ap,O⟩
  |cells ty cs=>trivial
  |tok n=>trivial
  |map es=>trivial
 ·intro j n u;have y:j≠id:=by intro l;subst l;simp[AS.set]at u
  simp[AS.set,y]at u;exact h.tok j n u
 ·intro t r et;obtain⟨k1,J,X⟩:=h.own t r et;refine⟨k1,J,fun c o ea k a5 a4=> ?_⟩;obtain⟨m1,m2,m3,m4,m5,m6,m7⟩:=X c o ea k a5 a4;have q:c≠b:=fun l=>m4 id (l ▸ M);refine⟨?_,?_,m3,m4,m5,by simpa using m6,m7⟩
  ·rw[World.cell?_of_block (w:=w) (other c q)];exact m1
  ·rw[World.frozen?_of_block (w:=w) (other c q)];exact m2
def uv {ms:Array MapEntry}{clock:Nat}(h:oR ms clock) {key val:Value} :oR (ms.push { key,val,born:=clock }) (clock+1):=by
 constructor
 ·intro k e g;rw[Array.getElem?_push]at g;split at g
  ·cases g;simp
  ·have:=h.1 k e g;omega
 ·intro k k' e i g d he;rw[Array.getElem?_push]at g d;split at g<;>split at d
  ·omega
  ·cases g;have:=h.1 k' i d;simp at he;omega
  ·cases d;have:=h.1 k e g;simp at he;omega
  ·exact h.2 k k' e i g d he
def za (ms:Array MapEntry) (clock:Nat) (x:MapEntry) (i:x.born=clock):
 (∀(k:Nat) (e:MapEntry),ms[k]? =some e→ ∃g,(ms.push x)[k]? =some g∧g.born=e.born)∧(∀(k:Nat) (g:MapEntry),(ms.push x)[k]? =some g→ms[k]? =none→clock≤g.born)∧clock≤clock+1∧(ms.push x).size+clock=ms.size+(clock+1):=by
 refine⟨fun k e d=>⟨e,?_,rfl⟩,fun k g d h=> ?_,by omega,by simp;omega⟩
 ·have:=(Array.getElem?_eq_some_iff.1 d).1;rw[Array.getElem?_push,if_neg (by omega)];exact d
 ·rw[Array.getElem?_push]at d;split at d
  ·cases d;omega
  ·rw[h]at d;cases d
def qZ {ms:Array MapEntry}{clock:Nat}(h:oR ms clock) (j:Nat) (f:MapEntry→MapEntry) (hf:∀e,(f e).born=e.born):oR (ms.modify j f) clock:=by
 have back:∀(k:Nat) (e:MapEntry),(ms.modify j f)[k]? =some e→ ∃g,ms[k]? =some g∧e.born=g.born:=by
  intro k e d;rw[Array.getElem?_modify]at d;split at d
  ·cases l:ms[k]? with
   |none=>rw[l]at d;cases d
   |some g=>rw[l]at d;cases d;exact⟨g,rfl,hf g⟩
  ·exact⟨e,d,rfl⟩
 constructor
 ·intro k e d;obtain⟨g,h1,o⟩:=back k e d;rw[o];exact h.1 k g h1
 ·intro k k' e v d i he;obtain⟨g,h1,o⟩:=back k e d;obtain⟨u,q,y⟩:=back k' v i;exact h.2 k k' g u h1 q (by omega)
def uJ (ms:Array MapEntry) (clock:Nat) (j:Nat) (f:MapEntry→MapEntry) (hf:∀e,(f e).born=e.born):
 (∀(k:Nat) (e:MapEntry),ms[k]? =some e→ ∃g,(ms.modify j f)[k]? =some g∧g.born=e.born)∧(∀(k:Nat) (g:MapEntry),(ms.modify j f)[k]? =some g→ms[k]? =none→clock≤g.born)∧clock≤clock∧(ms.modify j f).size+clock=ms.size+clock:=by
 refine⟨fun k e d=> ?_,fun k g d h=> ?_,by omega,by simp⟩
 ·rw[Array.getElem?_modify];split
  ·exact⟨f e,by rw[d];rfl,hf e⟩
  ·exact⟨e,d,rfl⟩
 ·rw[Array.getElem?_modify,h]at d;split at d<;>cases d
theorem yr {G:Gh}{w:World}{K Pn:AV→AS→Prop}(hi:Inv P G σ w) {t kt et:TypeId}{x ix E:Value}{v:AV}{id:Nat}{k:ByteArray}{d:List (ByteArray×AV)}
 (hm:P.underlying t=some (.map kt et)) (O:P.underlying kt=some .string) (hx:aV P G (.mp id) x) (ab:aV P G (.sc (.string k)) ix) (hv:aV P G v E) (hσ:σ id=some (.map (eA d)))
 (h:K .any (σ.set id (.map (eA (kJ k v d))))):Out P G K Pn (((do Instr.mapUpdate t x ix E;pure Next.skip):Sem Next).run P w):=by
 obtain⟨b,ms,clock,h1,I,⟨V,J⟩,T⟩:=Cq hi hσ;cases ab;cases hx with
 |mp hb=>
  rw[h1]at hb;obtain rfl:=Option.some.inj hb;have eT:∀(l:List (ByteArray×AV)) (j:Nat) (p:ByteArray×AV),l[j]? =some p→(eA l).getD j (.any,.any)=(.sc (.string p.1),p.2):=by intro l j p hp;simp[eA,hp]
  have y:∀l,(eA l).length=l.length:=by intro l;simp[eA]
  rcases uM k v d ms.toList 0 (by simpa using V) (fun j m hm=>let ⟨p,a,b,_⟩:=T j m hm;⟨p,a,b⟩)with⟨g1,g2,g6⟩|⟨j,p,m,g1,g2,g3,g4,g5,g6⟩
  ·have o:(Instr.mapUpdate t (.map (some b)) (.string k) E).run P w= .ok () { w with heap:=w.heap.setIfInBounds b (.map (ms.push { key:= .string k,val:=E,born:=clock }) (clock+1)) } :=by simp only[Instr.mapUpdate,Sem.run_bind,run_underlying hm,Result.andThen_ok,MapKept.run_getObj_map I,gl O,iz O g2,MapKept.run_setObj_map _ I]
   rw[g6]at h;refine Out.unit o (.refl G) (hi.z5 h1 I _ _ (eA (d++ [(k,v)])) (by simp[y,V]) (uv J) (za ms clock _ rfl) (fun i g=> ?_)) (.any _) h;rw[y]at g;simp at g;by_cases Y:i<d.length
   ·have u:i<ms.size:=by omega
    obtain⟨p,M,X,q3⟩:=T i ms[i] (by simp[u]);refine⟨ms[i],by simp[Array.getElem?_push,u];omega,?_⟩;rw[eT _ i p (by rw[List.getElem?_append_left Y];exact M),X];exact⟨.sc _,q3⟩
   ·have he:i=d.length:=by omega
    subst he;refine⟨{ key:= .string k,val:=E,born:=clock },by rw[←V];simp,?_⟩;rw[eT _ d.length (k,v) (by simp)];exact⟨.sc _,hv⟩
  ·have a7:j<ms.size:=by have:=(List.getElem?_eq_some_iff.1 g2).1;simpa using this
   have hold:ms[j]? =some m:=by rw[←Array.getElem?_toList];exact g2
   obtain⟨p',M,X,q3⟩:=T j m g2;rw[g1]at M;obtain rfl:=Option.some.inj M;have L:(Instr.keyThatStays m.key (.string k)).run P w= .ok (.string k) w:=by
    have:∀q:Nat,Instr.sameBits q (.string k) (.string k)=true:=fun q=>by simp[Instr.sameBits,Gx]
    rw[X,g3];simp[Instr.keyThatStays,this]
   have o:(Instr.mapUpdate t (.map (some b)) (.string k) E).run P w= .ok () { w with heap:=w.heap.setIfInBounds b (.map (ms.modify j fun e=> { e with key:= .string k,val:=E }) clock) } :=by simp only[Instr.mapUpdate,Sem.run_bind,run_underlying hm,Result.andThen_ok,MapKept.run_getObj_map I,gl O,iz O g5,Nat.zero_add,hold,Option.map_some,Option.getD_some,L,MapKept.run_setObj_map _ I]
   rw[g6]at h;refine Out.unit o (.refl G) (hi.z5 h1 I _ _ (eA (d.set j (k,v))) (by simp[y,V]) (qZ J j _ (fun _ =>rfl)) (uJ ms clock j _ (fun _ =>rfl)) (fun i g=> ?_)) (.any _) h;rw[y]at g;simp at g;have u:i<ms.size:=by omega
   by_cases F:i=j
   ·subst F;refine⟨{ m with key:= .string k,val:=E },by simp[Array.getElem?_modify,hold],?_⟩;rw[eT _ i (k,v) (by simp[g])];exact⟨.sc _,hv⟩
   ·obtain⟨p2,r1,r2,r3⟩:=T i ms[i] (by simp[u]);refine⟨ms[i],by rw[Array.getElem?_modify,if_neg (fun e=>F e.symm)];exact Array.getElem?_eq_getElem u,?_⟩;rw[eT _ i p2 (by rw[List.getElem?_set_ne (fun e=>F e.symm)];exact r1),r2];exact⟨.sc _,r3⟩
def ia.mapUpdate {t o F:Nat}{m x j:Operand}{ty:TypeId}{pos:String}{I:Array Edge}{g:Option (Nat×Bool)}{K:Fr→AS→Prop}(id:Nat) (k:ByteArray) (d:List (ByteArray×AV))
 (hm:P.underlying t=some (.map o F)) (E:P.underlying o=some .string) (y:ev s m= .mp id) (l:ev s j= .sc (.string k)) (u:σ id=some (.map (eA d)))
 (h:K s (σ.set id (.map (eA (kJ k (ev s x) d))))):ia P n ds Q ⟨none,.mapUpdate t m j x,ty,pos,I,g⟩ s σ K:=
 ia.mZ trivial fun G a w i=>yr (K:=fun v q=>K (s.put none v) q) i.inv hm E (y ▸ i.ev m) (l ▸ i.ev j) (i.ev x) u h
end Go.AW
namespace Go.AW
variable {P:Program} {n:Nat} {ds:List Deferred} {Q:AQ} {s:Fr} {σ:AS}
def O7 {o:Oper}{a:Act}{next:Act→World→Prop}{T h:Exit→Act→World→Prop}{r:Result Next}(g:∀e a w,T e a w→h e a w) (d:o.upon P a next T r):o.upon P a next h r:=by
 cases r with
 |ok j w'=>
  cases j<;>simp only[Oper.upon]at d⊢ <;>
   first
    |exact d
    |exact Calls.mono d (fun e i he=>by
     cases e<;>first
      |exact he
      |exact g _ _ _ he
      |(obtain⟨l,w0,h0⟩:=he;exact⟨l,w0,g _ _ _ h0⟩))
 |halt x w'=>cases x<;>simp only[Oper.upon]at d⊢ <;>first|exact g _ _ _ d|exact d
def LQ.ne {K:Fr→AS→Prop}{G:Gh}{e:Exit}{a:Act}{w:World}(he:e≠ .normal) (h:LQ P n ds (dF K Q) G e a w):LQ P n ds Q G e a w:=by
 cases e with
 |normal=>exact absurd rfl he
 |panic d=>
  match d,h with
  |[x],h=>exact h
  |[],h=>exact h.elim
  | _ :: _ :: _,h=>exact h.elim
 |exit i=>exact h
 |ret=>exact h
 |goto i=>exact h.elim
 |outgrown=>exact h.elim
def Pv {ops:Array Oper}{G0:Gh}{cs:List Frame}{i:Exit→Act→List Frame→World→Prop}(M:∀e a w,LQ P n ds Q G0 e a w→i e a cs w):
 ∀(r:List Oper) (k:Nat),(∀j,r[j]? =ops[k+j]?)→ ∀(G:Gh) (s:Fr) (σ:AS) (a:Act) (w:World),bq P n ds ops Q r s σ→G0.Le G→oS P G n ds s σ a w→
  wpOpsS P ops i (List.range' k r.length) a cs w:=by
 intro r;induction r with
 |nil=>intro k _ G s σ a w h hle q;exact M _ _ _ ⟨G,s,σ,hle,q,h⟩
 |cons o r J=>
  intro k L G s σ a w h hle q;have h0:ops[k]? =some o:=by simpa using(L 0).symm
  have l:∀j,r[j]? =ops[k+1+j]? :=fun j=>by have:=L (j+1);simpa[Nat.add_assoc,Nat.add_comm 1 j]using this
  rw[length_cons,List.range'_succ];simp only[wpOpsS,h0];have conv:∀next:Act→World→Prop,(∀a w,next a w→wpOpsS P ops i (List.range' (k+1) r.length) a cs w)→o.wp P a w next (LQ P n ds Q G0)→
   (match (execOp a.eval o).run P w with
   |.ok .recover w'=>
    match recoverD cs with
    |some (v,cs')=>wpOpsS P ops i (List.range' (k+1) r.length) (a.put o.dst v) cs' w'
    |none=>wpOpsS P ops i (List.range' (k+1) r.length) (a.put o.dst .nilIface) cs w'
   |E=>o.upon P a (fun g w'=>wpOpsS P ops i (List.range' (k+1) r.length) g cs w') (fun e g w'=>i e g cs w') E):=by
   intro next T hw
   unfold Oper.wp at hw;have d:=GM T (O7 M hw);generalize (execOp a.eval o).run P w=E at d;cases E with
   |ok O w'=>cases O<;>first|exact d|(simp only[Oper.upon]at d;done)
   |halt x w'=>exact d
  rcases h with⟨V,h⟩|h
  ·have hw:Region.wanted o (yielded ops a.tmps)=true:=by simp[Region.wanted,V]
   rw[if_pos hw];exact conv _ (fun _ _ h=>h) (h G0 G a w hle q _ (fun G' y u g w' h1 I F=>J (k+1) l G' y u g w' F h1 I))
  ·have:=oG o h hle q (next:=fun g w'=>wpOpsS P ops i (List.range' (k+1) r.length) g cs w') (fun G' y u g w' h1 I F=>J (k+1) l G' y u g w' F h1 I);by_cases hw:Region.wanted o (yielded ops a.tmps)=true
   ·rw[if_pos hw]at this⊢;exact conv _ (fun _ _ h=>h) this
   ·rw[if_neg hw]at this⊢;exact this
def bX (P:Program) (f:FuncId) (d:List AV) (σ:AS) (i:Option AV) (K:AS→Prop):Prop:=
 ∀(G:Gh) (w:World) (vals:Array Value) (u:FrameMode),Inv P G σ w→yB P G d vals→
  (match i with|none=>u= .returning|some a=> ∃e:PanicEntry,e.recovered=false∧e.goexit=false∧aV P G a e.v∧u= .panicking [e])→
  CallsD P f vals u w fun e h w'=>(∃x,e= .returned x)∧settle h= .returning∧ ∃G' g,G.Le G'∧Inv P G' g w'∧K g
def CS (K:AS→Prop):AQ
 |.normal,_,σ=>K σ
 |.ret,_,σ=>K σ
 | _,_,_ =>False
@[simp] def Wg (K:AS→Prop) (s:Fr) (σ:AS):CS K .normal s σ=K σ:=rfl
@[simp] def We (K:AS→Prop) (s:Fr) (σ:AS):CS K .ret s σ=K σ:=rfl
def recV (d:Option AV):AV:=d.getD (.sc .nilIface)
def bX.of {f:FuncId}{fn:Func}{d id:Nat}{l:List Oper}{y:Code}{q:Array TypeId}{ty:TypeId}{pos:String}{L:Array Edge}{o:List AV}{pv:Option AV}{K:AS→Prop}
 (hf:P.funcs[f]? =some fn) (hb:fn.body=some (.seq (.region id ((⟨some d,.call ⟨.builtin .recover,#[],q⟩,ty,pos,L,none⟩:Oper)::l).toArray false) y)) (Y:fn.results.toList= []) (ha:o.length≤fn.ntmps) (hd:d<fn.ntmps)
 (h:bq P fn.ntmps [] ((⟨some d,.call ⟨.builtin .recover,#[],q⟩,ty,pos,L,none⟩:Oper)::l).toArray (dF (aq P fn.ntmps [] y (CS K)) (CS K)) l ((ss o).put (some d) (recV pv)) σ):bX P f o σ pv K:=by
 intro G w vals u hi hr hu;refine callsD_of_wpS hf hb fun F cs hc=>wpS_seq (wpS_region ?_);have M:oS P G fn.ntmps [] (ss o) σ { tmps:=vals++Array.replicate (fn.ntmps-vals.size) undef,defers:= [] } w:=by
  refine⟨hi,by simp[hr.1];omega,rfl,fun i=> ?_⟩;by_cases T:i<o.length
  ·have e1:(vals++Array.replicate (fn.ntmps-vals.size) undef).getD i undef=vals.getD i undef:=by rw[Array.getD_eq_getD_getElem?,Array.getElem?_append_left (by rw[hr.1];exact T),←Array.getD_eq_getD_getElem?]
   simp only[e1];exact hr.2 i T
  ·have:ss o i= .any:=by simp[ss,getD_eq_getElem?_getD,getElem?_eq_none (Nat.le_of_not_lt T)]
   rw[this];exact .any _
 generalize ({ tmps:=vals++Array.replicate (fn.ntmps-vals.size) undef,defers:= [] } :Act)=a at M⊢;have rest:∀(I:FrameMode) (v:Value),settle I= .returning→aV P G (recV pv) v→
  wpOpsS P ((⟨some d,.call ⟨.builtin .recover,#[],q⟩,ty,pos,L,none⟩:Oper)::l).toArray
   (Exit.thenS (y.wpS P (bodyPostS P fn F cs fun e I w'=>(∃x,e= .returned x)∧settle I= .returning∧ ∃G' g,G.Le G'∧Inv P G' g w'∧K g)) (bodyPostS P fn F cs fun e I w'=>(∃x,e= .returned x)∧settle I= .returning∧ ∃G' g,G.Le G'∧Inv P G' g w'∧K g))
   (List.range' 1 l.length) (a.put (some d) v) ({ F with mode:=I } ::cs) w:=by
  intro I v ap hv;have fin:∀(e:Exit) (O:Act) (w':World),LQ P fn.ntmps [] (CS K) G e O w'→
   bodyPostS P fn F cs (fun e I w'=>(∃x,e= .returned x)∧settle I= .returning∧ ∃G' g,G.Le G'∧Inv P G' g w'∧K g) e O ({ F with mode:=I } ::cs) w':=by
   intro e O w' E;have done:∀(G':Gh) (J:Fr) (g:AS),G.Le G'→oS P G' fn.ntmps [] J g O w'→K g→
    O.defers= []∧ ∃V,({ F with mode:=I } ::cs:List Frame)= { F with mode:=V } ::cs∧ ∃v,(results fn O.tmps).run P w'= .ok v w'∧((∃x,Ending.returned v= .returned x)∧settle V= .returning∧ ∃G' g,G.Le G'∧Inv P G' g w'∧K g):=by
    intro G' J g g1 g2 g3;obtain⟨v,vs,k1,_,_⟩:=oo g2 fn (fun _ =>True) (by rw[Y];trivial);exact⟨g2.ds,I,rfl,v,k1,⟨v,rfl⟩,ap,G',g,g1,g2.inv,g3⟩
   unfold LQ at E;split at E
   ·obtain⟨G',J,g,g1,g2,g3⟩:=E;exact done G' J g g1 g2 g3
   ·obtain⟨G',J,g,g1,g2,g3⟩:=E;exact g3.elim
   ·obtain⟨G',J,g,g1,g2,g3⟩:=E;exact done G' J g g1 g2 g3
   ·obtain⟨_,_,G',J,g,v,g1,g2,g3,g4⟩:=E;exact g4.elim
   ·exact E.elim
  refine Pv (G0:=G) (Q:=dF (aq P fn.ntmps [] y (CS K)) (CS K)) ?_ l 1 (fun j=>by simp[Nat.add_comm 1 j]) G _ σ _ w h (.refl G) (M.put (.refl G) hi (some d) (fun t ht=>by cases ht;exact hd) hv);intro e O w' E;cases e with
  |normal=>obtain⟨G',J,g,g1,g2,g3⟩:=E;exact wpS_of_wp (wp_mono (g3 G G' O w' g1 g2) fun e a1 am E=>fin e a1 am E)
  |exit i=>obtain⟨G',J,g,g1,g2,g3⟩:=E;exact g3.elim
  |ret=>exact fin _ _ _ (LQ.ne (by simp) E)
  |panic ch=>exact fin _ _ _ (LQ.ne (by simp) E)
  |goto i=>exact E.elim
  |outgrown=>exact E.elim
 have ar:((⟨some d,.call ⟨.builtin .recover,#[],q⟩,ty,pos,L,none⟩:Oper)::l).toArray.size=l.length+1:=by simp
 rw[ar,range_eq_range',List.range'_succ];have h0:((⟨some d,.call ⟨.builtin .recover,#[],q⟩,ty,pos,L,none⟩:Oper)::l).toArray[0]? =some ⟨some d,.call ⟨.builtin .recover,#[],q⟩,ty,pos,L,none⟩:=by simp
 have X:(execOp a.eval ⟨some d,.call ⟨.builtin .recover,#[],q⟩,ty,pos,L,none⟩).run P w= .ok .recover w:=by rfl
 have hw:Region.wanted (⟨some d,.call ⟨.builtin .recover,#[],q⟩,ty,pos,L,none⟩:Oper) (yielded ((⟨some d,.call ⟨.builtin .recover,#[],q⟩,ty,pos,L,none⟩:Oper)::l).toArray a.tmps)=true:=by simp[Region.wanted]
 simp only[wpOpsS,h0,hw,if_true,X];cases pv with
 |none=>
  simp only at hu;subst hu;have hm:recoverD (F::cs)=none:=by simp[recoverD,hc]
  rw[hm];have e:F= { F with mode:= .returning } :=by cases F;simp at hc;subst hc;rfl
  have:=rest .returning .nilIface rfl (.sc _);rw[←e]at this;exact this
 |some av=>
  obtain⟨e,e1,e2,e3,rfl⟩:=hu;obtain⟨v,rc,ge⟩:=e;simp only at e1 e2 e3;subst e1 e2;have hm:recoverD (F::cs)=some (v,{ F with mode:= .panicking [{ v:=v,recovered:=true }] } ::cs):=by simp[recoverD,hc]
  rw[hm];exact rest _ v rfl e3
def ia.oL {d t u:Nat}{x:Operand}{ty:TypeId}{pos:String}{J:Array Edge}{g:Option (Nat×Bool)}{K:Fr→AS→Prop}(hd:d<n) {v:AV}{td:TypeDesc}(hu:P.underlying u=some td) (o:match td with|.interface _ =>False| _ =>True)
 (E:ev s x= .rM u v) (h:K (s.put (some d) (.bI [v,.sc (.bool true)])) σ):ia P n ds Q ⟨some d,.typeAssert x t u true,ty,pos,J,g⟩ s σ K:=by
 refine ia.mZ hd fun G a w q=> ?_;have l:=q.ev x;rw[E]at l;show Out P G _ _ ((do pure (Next.value (←Instr.typeAssert (a.eval x) t u true)):Sem Next).run P w);generalize a.eval x=L at l;cases l with
 |rM F=>
  rename_i y;have j:(Instr.typeAssert (.iface u y) t u true).run P w= .ok (.tuple #[y,.bool true]) w:=by cases td<;>first|exact o.elim|simp[Instr.typeAssert,Sem.run_bind,run_underlying hu,Result.andThen]
  refine Out.value j (.refl G) q.inv ?_ h;refine .bI [y,.bool true] rfl fun i I=> ?_
  match i,I with
  |0,_ =>exact F
  |1,_ =>exact .sc _
def ia.mH {d t u:Nat}{x:Operand}{ty:TypeId}{pos:String}{L:Array Edge}{g:Option (Nat×Bool)}{K:Fr→AS→Prop}(hd:d<n) {td:TypeDesc}(hu:P.underlying u=some td) (v:match td with|.interface _ =>False| _ =>True) (F:(ax P u).laid=true)
 (I:ev s x= .sc .nilIface) (h:K (s.put (some d) (.bI [ax P u,.sc (.bool false)])) σ):ia P n ds Q ⟨some d,.typeAssert x t u true,ty,pos,L,g⟩ s σ K:=by
 refine ia.mZ hd fun G a w E=> ?_;have q:=E.ev x;rw[I]at q;show Out P G _ _ ((do pure (Next.value (←Instr.typeAssert (a.eval x) t u true)):Sem Next).run P w);generalize a.eval x=M at q;cases q;obtain⟨it,z,y,l,o⟩:=dq F;have j:(Instr.typeAssert .nilIface t u true).run P w= .ok (.tuple #[z,.bool false]) w:=by cases td<;>first|exact v.elim|simp[Instr.typeAssert,Sem.run_bind,run_underlying hu,Result.andThen,zeroValue,run_typeInfo w y,l]
 refine Out.value j (.refl G) E.inv ?_ h;refine .bI [z,.bool false] rfl fun i J=> ?_
 match i,J with
 |0,_ =>rw[show([ax P u,AV.sc (.bool false)]).getD 0 .any=ax P u from rfl,o];exact gn z
 |1,_ =>exact .sc _
def kS (P:Program) (fn:Func) (c:Code) (R g:AV→AS→Prop) (d:Gh) (s:Fr) (σ:AS):Prop:=
 ∀(G:Gh) (a:Act) (w:World),d.Le G→oS P G fn.ntmps [] s σ a w→c.wp P (bodyPostD P fn (kE P d R g)) a w
def zr {fn:Func}{R E:AV→AS→Prop}{q:Gh}{e:Exit}{a:Act}{w:World}(h:LQ P fn.ntmps [] (uR P fn.results.toList R E) q e a w):bodyPostD P fn (kE P q R E) e a w:=by
 have fin:∀(i:Fr) (g:AS) (G':Gh),q.Le G'→oS P G' fn.ntmps [] i g a w→(dV fn.results.toList P i g fun vs=> ∃u d,AV.Wk P (eE vs) u∧AS.le d g∧R u d)→
  Leaves P fn a.tmps (kE P q R E) a.defers .returning w:=by
  intro i g G' h1 F M;obtain⟨v,vs,k1,L,u,d,J,k4,I⟩:=oo F fn _ M;rw[F.ds];exact⟨v,k1,G',d,u,h1,F.inv.weaken k4,J _ _ L,I⟩
 unfold LQ at h;split at h
 ·obtain⟨G',i,g,o,l,j⟩:=h;exact fin i g G' o l j
 ·obtain⟨G',i,g,o,l,j⟩:=h;exact j.elim
 ·obtain⟨G',i,g,o,l,j⟩:=h;exact fin i g G' o l j
 ·obtain⟨x,y,G',i,g,v,o,l,j,d,T,O⟩:=h;show Leaves P fn a.tmps (kE P q R E) a.defers (.panicking _) w;rw[l.ds];exact⟨x,y,G',d,v,o,l.inv.weaken T,j,O⟩
 ·exact h.elim
def kS.seq {fn:Func}{x y:Code}{R g:AV→AS→Prop}{j:Gh}(h:aq P fn.ntmps [] x (dF (fun s σ=>kS P fn y R g j s σ) (uR P fn.results.toList R g)) s σ):kS P fn (.seq x y) R g j s σ:=by
 intro G a w h1 q;refine wp_seq (wp_mono (h j G a w h1 q) fun e u w' d=> ?_);cases e with
 |normal=>obtain⟨G',o,l,g1,g2,g3⟩:=d;exact g3 G' u w' g1 g2
 |exit i=>obtain⟨G',o,l,g1,g2,g3⟩:=d;exact g3.elim
 |ret=>exact zr (LQ.ne (by simp) d)
 |panic v=>exact zr (LQ.ne (by simp) d)
 |goto i=>exact d.elim
 |outgrown=>exact d.elim
def xI (P:Program) (rs:List ResultVar) (f:FuncId) (d:List AV) (R h:AV→AS→Prop):AQ
 |.normal,s,σ=>bX P f d σ none fun g=>dV rs P s g fun vs=>Ends P R g (eE vs)
 |.ret,s,σ=>bX P f d σ none fun g=>dV rs P s g fun vs=>Ends P R g (eE vs)
 |.panic v,s,σ=>bX P f d σ (some v) fun g=>dV rs P s g fun vs=>Ends P R g (eE vs)
 | _,_,_ =>False
@[simp] def Tx (rs:List ResultVar) (f:FuncId) (d:List AV) (R h:AV→AS→Prop) (s:Fr) (σ:AS):xI P rs f d R h .ret s σ=bX P f d σ none fun g=>dV rs P s g fun vs=>Ends P R g (eE vs):=rfl
@[simp] def Tz (rs:List ResultVar) (f:FuncId) (d:List AV) (R h:AV→AS→Prop) (s:Fr) (σ:AS):xI P rs f d R h .normal s σ=bX P f d σ none fun g=>dV rs P s g fun vs=>Ends P R g (eE vs):=rfl
@[simp] def Lc (rs:List ResultVar) (f:FuncId) (d:List AV) (R h:AV→AS→Prop) (v:AV) (s:Fr) (σ:AS):xI P rs f d R h (.panic v) s σ=bX P f d σ (some v) fun g=>dV rs P s g fun vs=>Ends P R g (eE vs):=rfl
def kS.defer {fn:Func}{id d f:Nat}{g:Array Operand}{rest:Code}{R Rp:AV→AS→Prop}{G1:Gh}{q o:TypeId}{O M:String}{V T:Array Edge}{y:Array TypeId}
 (hd:d<fn.ntmps) (L:lk P f=true)
 (h:∀D,aq P fn.ntmps [D] rest (xI P fn.results.toList f (g.toList.map (ev s)) R Rp) (s.put (some d) (.fn (.func f) [] (g.toList.map (ev s)))) σ):
 kS P fn (.seq (.region id [(⟨some d,.makeFunc (.func f) #[] g,q,O,V,none⟩:Oper),⟨none,.defer ⟨.value (.tmp d),#[],y⟩,o,M,T,none⟩].toArray false) rest) R Rp G1 s σ:=by
 intro G a w h1 hs;refine wp_seq (wp_region_lit ?_);have av:Region.wanted (⟨some d,.makeFunc (.func f) #[] g,q,O,V,none⟩:Oper) (yielded [(⟨some d,.makeFunc (.func f) #[] g,q,O,V,none⟩:Oper),⟨none,.defer ⟨.value (.tmp d),#[],y⟩,o,M,T,none⟩].toArray a.tmps)=true:=by simp[Region.wanted]
 unfold wpList;rw[if_pos av];refine .inl ?_;have a4:(execOp a.eval ⟨some d,.makeFunc (.func f) #[] g,q,O,V,none⟩).run P w= .ok (.value (.func (.func f) #[] (g.map a.eval))) w:=by simp[execOp,Instr.makeFunc]
 show Oper.upon P _ a _ _ ((execOp a.eval ⟨some d,.makeFunc (.func f) #[] g,q,O,V,none⟩).run P w);rw[a4,Oper.upon_value];have j:yB P G (g.toList.map (ev s)) (g.map a.eval):=⟨by simp,fun i J=>by simp at J;simp[getD_eq_getElem?_getD,J];exact hs.ev _⟩;have a6:aV P G (.fn (.func f) [] (g.toList.map (ev s))) (.func (.func f) #[] (g.map a.eval)):=by
  have:=aV.fn (P:=P) (G:=G) (f:= .func f) (first:= []) (captured:=g.toList.map (ev s)) [] (g.map a.eval).toList rfl (by simp) (fun i J=>by simp at J) (fun i J=>by
   have h1:=j.2 i J;have e:(g.map a.eval).toList.getD i undef=(g.map a.eval).getD i undef:=by simp[getD_eq_getElem?_getD]
   rw[e];exact h1)
  rw[Array.toArray_toList]at this;exact this
 have F:=hs.put (.refl G) hs.inv (some d) (fun t ht=>by cases ht;exact hd) a6;unfold wpList;have a7:(a.put (some d) (.func (.func f) #[] (g.map a.eval))).eval (.tmp d)= .func (.func f) #[] (g.map a.eval):=by
  have a9:d<a.tmps.size:=by rw[hs.size];exact hd
  simp[Act.put,Act.eval,a9]
 have ar:Region.wanted (⟨none,.defer ⟨.value (.tmp d),#[],y⟩,o,M,T,none⟩:Oper) (yielded [(⟨some d,.makeFunc (.func f) #[] g,q,O,V,none⟩:Oper),⟨none,.defer ⟨.value (.tmp d),#[],y⟩,o,M,T,none⟩].toArray (a.put (some d) (.func (.func f) #[] (g.map a.eval))).tmps)=true:=by simp[Region.wanted]
 rw[if_pos ar];refine .inl ?_;have a3:(execOp (a.put (some d) (.func (.func f) #[] (g.map a.eval))).eval ⟨none,.defer ⟨.value (.tmp d),#[],y⟩,o,M,T,none⟩).run P w= .ok (.defer { target:= .fn (.func f) (g.map a.eval),args:= #[] }) w:=by simp only[execOp,resolve,a7,Deferred.ofValue];simp
 show Oper.upon P _ _ _ _ ((execOp (a.put (some d) (.func (.func f) #[] (g.map a.eval))).eval ⟨none,.defer ⟨.value (.tmp d),#[],y⟩,o,M,T,none⟩).run P w);rw[a3,Oper.upon_defer];generalize hD:({ target:= .fn (.func f) (g.map a.eval),args:= #[] } :Deferred)=D;have a8:(a.put (some d) (.func (.func f) #[] (g.map a.eval))).defers= []:=F.ds;have a0:oS P G fn.ntmps [D] (s.put (some d) (.fn (.func f) [] (g.toList.map (ev s)))) σ ({ a.put (some d) (.func (.func f) #[] (g.map a.eval))with defers:=D::(a.put (some d) (.func (.func f) #[] (g.map a.eval))).defers }.put none undef) w:=
  ⟨F.inv,F.size,by show D:: _ = [D];rw[a8],F.rep⟩
 show(Exit.then _ _) .normal _ w;refine wp_mono (h D G G _ w (.refl G) a0) fun e a' w' I=> ?_;have inv:(invoke (.fn (.func f) (g.map a.eval)) #[]).run P w'= .ok (.enter f (g.map a.eval)) w':=by have:=pP (w:=w') L (g.map a.eval);simpa[invoke]using this
 have fin:∀(u:FrameMode) (G':Gh) (E:Fr) (l:AS) (pv:Option AV),G.Le G'→oS P G' fn.ntmps [D] E l a' w'→u≠ .run→
  (match pv with|none=>u= .returning|some a=> ∃e:PanicEntry,e.recovered=false∧e.goexit=false∧aV P G' a e.v∧u= .panicking [e])→
  (bX P f (g.toList.map (ev s)) l pv fun l=>dV fn.results.toList P E l fun vs=>Ends P R l (eE vs))→
  Leaves P fn a'.tmps (kE P G1 R Rp) a'.defers u w':=by
  intro u G' E l pv g1 g2 hu a5 hd;rw[g2.ds,←hD];refine leaves_cons hu inv ((hd G' w' _ u g2.inv ⟨j.1,fun i J=>(j.2 i J).mono g1⟩ a5).mono fun e u' X I=> ?_);obtain⟨⟨x,rfl⟩,Y,ac,am,k1,k2,k3⟩:=I;show Leaves P fn a'.tmps (kE P G1 R Rp) [] (settle u') X;rw[Y];have g3:oS P ac fn.ntmps [D] E am a' X:=⟨k2,g2.size,g2.ds,fun i=>(g2.rep i).mono k1⟩;obtain⟨v,vs,m1,m2,r',σ3,m3,m4,m5⟩:=oo g3 fn _ k3;exact⟨v,m1,ac,σ3,r',h1.trans (g1.trans k1),k2.weaken m4,m3 _ _ m2,m5⟩
 unfold LQ at I;split at I
 ·obtain⟨G',E,l,g1,g2,g3⟩:=I;exact fin .returning G' E l none g1 g2 (by simp) rfl g3
 ·obtain⟨G',E,l,g1,g2,g3⟩:=I;exact g3.elim
 ·obtain⟨G',E,l,g1,g2,g3⟩:=I;exact fin .returning G' E l none g1 g2 (by simp) rfl g3
 ·obtain⟨x1,x2,G',E,l,v,g1,g2,g3,g4⟩:=I;exact fin _ G' E l (some v) g1 g2 (by simp) ⟨_,x1,x2,g3,rfl⟩ g4
 ·exact I.elim
def ad.iZ {f:FuncId}{fn:Func}{c:Code}{args:List AV}{R o:AV→AS→Prop}(hf:P.funcs[f]? =some fn) (l:fn.body=some c) (q:(fn.name== "runtime.NumGoroutine")=false)
 (ha:args.length≤fn.ntmps) (h:∀y,kS P fn c R o y (ss args) σ):ad P f args σ R o:=by
 refine⟨by simp[lk,hf,l,q],fun G w vals u j=>calls_of_wp_defers hf l ?_⟩;have g:oS P G fn.ntmps [] (ss args) σ { tmps:=vals++Array.replicate (fn.ntmps-vals.size) undef,defers:= [] } w:=by
  refine⟨u,by simp[j.1];omega,rfl,fun i=> ?_⟩;by_cases d:i<args.length
  ·have v:(vals++Array.replicate (fn.ntmps-vals.size) undef).getD i undef=vals.getD i undef:=by rw[Array.getD_eq_getD_getElem?,Array.getElem?_append_left (by rw[j.1];exact d),←Array.getD_eq_getD_getElem?]
   simp only[v];exact j.2 i d
  ·have:ss args i= .any:=by simp[ss,getD_eq_getElem?_getD,getElem?_eq_none (Nat.le_of_not_lt d)]
   rw[this];exact .any _
 exact h G G _ w (.refl G) g
end Go.AW
namespace Go.AW
open Go.Deep
def isAgg (P:Program) (t:TypeId):Bool:=match P.underlying t with|some (.struct _)=>true| _ =>false
def yn (P:Program) (t:TypeId) (cs:List AV):AV:=if isAgg P t then .agg cs else cs.headD .any
def jA (P:Program):Nat→TypeId→List AV→Prop
 |0,_,_ =>False
 |k+1,t,cs=>match P.underlying t with
  |some .bool=> ∃b,cs= [.sc (.bool b)]
  |some (.int d)=> ∃n,cs= [.sc (.int d n)]∧(Lit.int d n).wf=true
  |some .string=> ∃s:ByteArray,cs= [.sc (.string s)]∧s.size≤reachBytes
  |some (.pointer e)=>cs= [.sc (.pointer none)]∨ ∃cs',cs= [.iv cs']∧cs'.length=P.cellsOf e∧jA P k e cs'
  |some (.slice e)=>cs= [.ao e [] .aI true]∨ ∃es:List (List AV),cs= [.ao e (es.map (yn P e)) .aI false]∧es.length*P.bytesOf e≤reachBytes∧ ∀c∈es,jA P k e c
  |some (.struct fs)=>cs.length=P.cellsOf t∧ ∀f∈fs.toList,jA P k f.type ((cs.drop f.offset).take (P.cellsOf f.type))
  | _ =>False
def tiled (P:Program):List Field→Nat→Nat→Bool
 |[],o,n=>o==n
 |f::r,o,n=>f.offset==o&&tiled P r (o+P.cellsOf f.type) n
def served (P:Program):Nat→TypeId→Bool
 |0,_ =>false
 |k+1,t=>match P.underlying t with
  |some .bool|some (.int _)|some .string=>P.cellsOf t==1
  |some (.pointer e)|some (.slice e)=>P.cellsOf t==1&&P.cellsOf e !=0&&served P k e
  |some (.struct fs)=>tiled P fs.toList 0 (P.cellsOf t)&&fs.toList.all fun f=>served P k f.type
  | _ =>false
def so (W:World):Gh where
 W0:=W
 B:=W.heap.size
 mem b o:=match W.cell? ⟨b,o,none⟩ with|some v=>if v.oneCell' then some v else none|none=>none
 inj _ :=none
 own _ :=none
 top:=0
def P4:AS:=fun _ =>none
def Kz (P:Program) (W:World):Inv P (so W) P4 W where
 below:=Below.refl _ _
 base:=Nat.le_refl _
 mem b o v h:=by
  simp only[so]at h;split at h
  ·rename_i x d;split at h
   ·rename_i h1;cases h;exact⟨d,h1⟩
   ·cases h
  ·cases h
 top i _ :=⟨rfl,rfl⟩
 dm i b h:=by cases h
 fA i j b h:=by cases h
 cells i ty cs h:=by cases h
 maps i es h:=by cases h
 dQ i s p h:=by cases h
 tok i n h:=by cases h
 own t r h:=by cases h
def CG {W:World}{b o:Nat}{v:Value}(h:W.cell? ⟨b,o,none⟩=some v) (h1:v.oneCell'=true):(so W).mem b o=some v:=by simp[so,h,h1]
def po (P:Program) (G:Gh) (cs:List AV) (vs:List Value):Prop:=cs.length=vs.length∧ ∀i,i<cs.length→aV P G (cs.getD i .any) (vs.getD i undef)∧(vs.getD i undef).oneCell'=true
def po.one {P:Program}{G:Gh}{c:AV}{v:Value}(h:aV P G c v) (h1:v.oneCell'=true):po P G [c] [v]:=by
 refine⟨rfl,fun i d=> ?_⟩;have:i=0:=by simpa using d
 subst this;exact⟨h,h1⟩
def jA.len {P:Program}{k:Nat}{t:TypeId}{cs:List AV}(d:served P k t=true) (h:jA P k t cs):cs.length=P.cellsOf t:=by
 cases k with
 |zero=>simp[served]at d
 |succ k=>
  simp only[served]at d;simp only[jA]at h;split at d<;>rename_i hu<;>simp only[hu]at h
  ·obtain⟨b,rfl⟩:=h;rw[beq_iff_eq.1 d];rfl
  ·obtain⟨b,rfl,_⟩:=h;rw[beq_iff_eq.1 d];rfl
  ·obtain⟨b,rfl,_⟩:=h;rw[beq_iff_eq.1 d];rfl
  ·simp only[Bool.and_eq_true,beq_iff_eq]at d;rcases h with rfl|⟨_,rfl,_⟩<;>simp[d.1.1]
  ·simp only[Bool.and_eq_true,beq_iff_eq]at d;rcases h with rfl|⟨_,rfl,_⟩<;>simp[d.1.1]
  ·exact h.1
def CM {P:Program}{G:Gh}{k:Nat}{cs:List Value}(n:Nat) (J:cs.length=n):∀(fs:List Field) (o:Nat),tiled P fs o n=true→o≤n→
 (∀f∈fs,∃c,jA P k f.type c∧c.length=P.cellsOf f.type∧po P G c ((cs.drop f.offset).take (P.cellsOf f.type)))→
 ∃u:List AV,po P G u (cs.drop o)∧ ∀f∈fs,o≤f.offset∧jA P k f.type ((u.drop (f.offset-o)).take (P.cellsOf f.type)):=by
 intro fs;induction fs with
 |nil=>intro o h I _;simp only[tiled,beq_iff_eq]at h;subst h;refine⟨[],⟨by simp;omega,by simp⟩,by simp⟩
 |cons f r F=>
  intro o h I hf;simp only[tiled,Bool.and_eq_true,beq_iff_eq]at h;obtain⟨h1,M⟩:=h;subst h1;obtain⟨c,O,y,v⟩:=hf f (by simp);have hle:f.offset+P.cellsOf f.type≤n:=by have e:=v.1;rw[y,length_take,length_drop,J]at e;omega
  obtain⟨u,E,V⟩:=F _ M hle (fun g l=>hf g (by simp[l]));have q:c.length=((cs.drop f.offset).take (P.cellsOf f.type)).length:=v.1;have d:cs.drop f.offset=(cs.drop f.offset).take (P.cellsOf f.type)++cs.drop (f.offset+P.cellsOf f.type):=by rw[←drop_drop,take_append_drop]
  refine⟨c++u,⟨?_,fun i L=> ?_⟩,fun g l=> ?_⟩
  ·rw[d,length_append,length_append,q,E.1]
  ·rw[d];simp only[getD_eq_getElem?_getD];by_cases j:i<c.length
   ·rw[getElem?_append_left j,getElem?_append_left (by omega)];simpa[getD_eq_getElem?_getD]using v.2 i j
   ·rw[getElem?_append_right (by omega),getElem?_append_right (by omega),←q];simpa[getD_eq_getElem?_getD]using E.2 (i-c.length) (by simp at L;omega)
  ·rcases mem_cons.1 l with rfl|l
   ·refine⟨Nat.le_refl _,?_⟩;simp[y.symm ▸ take_left' rfl];exact O
   ·obtain⟨X,T⟩:=V g l;refine⟨by omega,?_⟩;rw[drop_append,drop_of_length_le (by omega),nil_append,y];rw[show g.offset-f.offset-P.cellsOf f.type=g.offset-(f.offset+P.cellsOf f.type) by omega];exact T
variable {H:Type} {enc:TypeId×Value→H} {P:Program}
def po.pk {G:Gh}{t:TypeId}{c:List AV}{vs:List Value}(h:po P G c vs) (g:isAgg P t=false→c.length=1):(yn P t c).cells=c:=by
 unfold yn;split
 ·rfl
 ·rename_i ha;have:=g (by simpa using ha)
  match c,this with
  |[x],_ =>have h0:=h.2 0 (by simp);have e:vs.getD 0 undef=vs.getD 0 undef:=rfl;simp only[getD_cons_zero]at h0;show x.cells= [x];obtain⟨h1,d⟩:=h0;generalize vs.getD 0 undef=v at h1 d;cases h1<;>first|rfl|(simp[Value.oneCell']at d)
def DR {k:Nat}{t:TypeId}(d:served P k t=true) (ha:isAgg P t=false):P.cellsOf t=1:=by
 cases k with
 |zero=>simp[served]at d
 |succ k=>simp only[served]at d;unfold isAgg at ha;split at d<;>simp_all
def vP {e:TypeId}{l:List (DataW H)}{d:DataW H}{n:Nat}(hd:d∈l) (i:n∈d.weights P e):n∈DataW.weightsAll P e l:=by
 induction l with
 |nil=>cases hd
 |cons x r g=>
  simp only[DataW.weightsAll,mem_append];rcases mem_cons.1 hd with rfl|h
  ·exact .inl i
  ·exact .inr (g h)
def oU {n:Nat} :∀ {ts:List TypeId}{l:List (DataW H)}{i:Nat}{t:TypeId}{d:DataW H},ts[i]? =some t→l[i]? =some d→n∈d.weights P t→n∈DataW.weightsEach P ts l
 |[],_,i,_,_,h,_,_ =>by simp at h
 | _ :: _,[],i,_,_,_,h,_ =>by simp at h
 |u::ts,x::l,i,t,d,h1,g,j=>by
  simp only[DataW.weightsEach,mem_append];cases i with
  |zero=>simp at h1 g;subst h1 g;exact .inl j
  |succ i=>exact .inr (oU (by simpa using h1) (by simpa using g) j)
def Jo {W:World}{base:Nat}{spare:Nat→Bool}{held:Bool} :∀(k:Nat) (t:TypeId) (fuel:Nat) (vs:List Value) (x:DataW H×List MemPlace),
 served P k t=true→(∀n∈x.1.weights P t,n≤reachBytes)→DataW.trod enc P W base spare held fuel t vs=some x→ ∃cs,jA P k t cs∧cs.length=P.cellsOf t∧po P (so W) cs vs:=by
 intro k;induction k with
 |zero=>intro t fuel vs x l;simp[served]at l
 |succ k ih=>
  intro t fuel vs x l o h
  suffices ∃cs,jA P (k+1) t cs∧po P (so W) cs vs by obtain⟨cs,I,T⟩:=this;exact⟨cs,I,I.len l,T⟩
  have a6:=l;simp only[served]at l;split at l
  ·rename_i hu;obtain⟨b,rfl,_⟩:=DataW.trod_bool hu h;exact⟨[.sc (.bool b)],by simp[jA,hu],po.one (.sc _) rfl⟩
  ·rename_i ik hu;obtain⟨n,rfl,_,hw⟩:=DataW.trod_int hu h;exact⟨[.sc (.int ik n)],by simp[jA,hu,hw],po.one (.sc _) rfl⟩
  ·rename_i hu;obtain⟨s,rfl,rfl,hw⟩:=DataW.trod_string hu h;have hw:s.size≤reachBytes:=o s.data.toList.length (by simp[DataW.weights]);exact⟨[.sc (.string s)],by simp[jA,hu,hw],po.one (.sc _) rfl⟩
  ·rename_i e hu;simp only[Bool.and_eq_true,beq_iff_eq,bne_iff_ne]at l;obtain⟨⟨s1,s2⟩,s3⟩:=l;rcases DataW.trod_pointer hu h with⟨rfl,_⟩|⟨a,cs',y,n,_,rfl,rfl,hc,hy⟩
   ·exact⟨[.sc (.pointer none)],by simp[jA,hu],po.one (.sc _) rfl⟩
   ·obtain⟨c,I,T,Y⟩:=ih e n cs' y s3 (fun m hm=>o m (by simpa[DataW.weights,hu]using hm)) hy;obtain⟨_,hl,g⟩:=World.cells?_some hc;obtain⟨b,off,spot⟩:=a;have E:spot=none:=by have:=g 0 (by omega);rw[getElem?_eq_getElem (by omega)]at this;simpa[Addr.add]using World.cell?_spot this
    subst E;refine⟨[.iv c],by simp only[jA,hu];exact .inr ⟨c,rfl,T,I⟩,po.one (.iv (fun i=>cs'.getD i undef) (fun i d=> ?_) (fun i d=>(Y.2 i d).1)) rfl⟩;refine CG ?_ (Y.2 i d).2;have:=g i (by omega);rw[Addr.add_lit]at this;rw[this,getD_eq_getElem?_getD,getElem?_eq_getElem (by omega)];rfl
  ·rename_i e hu;simp only[Bool.and_eq_true,beq_iff_eq,bne_iff_ne]at l;obtain⟨⟨s1,s2⟩,s3⟩:=l;rcases open_slice hu h with⟨rfl,_⟩|⟨a,len,cap,m,n,D,Pl,rfl,_,hlen,am,hm,rfl,hx⟩
   ·exact⟨[.ao e [] .aI true],by simp[jA,hu],po.one (.iP trivial) rfl⟩
   ·have a7:len≤m:=by rw[hm];split<;>omega
    obtain⟨V,v⟩:=choose_lt (α:=List Value×List AV) (p:=fun i q=>W.cells? base (a.add (i*P.cellsOf e)) (P.cellsOf e)=some q.1∧jA P k e q.2∧q.2.length=P.cellsOf e∧po P (so W) q.2 q.1) (n:=len) (fun i d=>by obtain⟨cs',h1,h2⟩:=hx i (by omega);obtain⟨c,I,T,Y⟩:=ih e n cs' _ s3 (fun q J=>o q (by simp only[DataW.weights,hu,mem_cons,mem_append];exact .inr (.inl (vP (mem_map.2 ⟨i,by simpa using d,rfl⟩) J)))) h2;exact⟨(cs',c),h1,I,T,Y⟩);by_cases h0:len=0
    ·subst h0;exact⟨[.ao e [] .aI false],by simp only[jA,hu];exact .inr ⟨[],rfl,by simp,by simp⟩,po.one .pL rfl⟩
    ·obtain⟨b,off,spot⟩:=a;have E:spot=none:=by obtain⟨h1,_⟩:=v 0 (by omega);obtain⟨_,hl,g⟩:=World.cells?_some h1;have:=g 0 (by omega);rw[getElem?_eq_getElem (by omega)]at this;simpa[Addr.add]using World.cell?_spot this
     subst E;have u:∀i,i<len→(((List.range len).map fun i=>(V i).2).map (yn P e)).getD i AV.any=yn P e (V i).2:=by intro i d;simp[getD_eq_getElem?_getD,d]
     have O:∀i,i<len→(yn P e (V i).2).cells=(V i).2:=fun i d=>(v i d).2.2.2.pk (fun ha=>by rw[(v i d).2.2.1];exact DR s3 ha);refine⟨[.ao e (((List.range len).map fun i=>(V i).2).map (yn P e)) .aI false],?_,?_⟩
     ·simp only[jA,hu];refine .inr ⟨_,rfl,?_,fun c hc=> ?_⟩
      ·have h9:=o _ (by simp only[DataW.weights,hu];exact mem_cons_self);simp only[length_map,length_range]at h9⊢;exact Nat.le_trans (Nat.mul_le_mul_right _ (Nat.le_add_right _ _)) h9
      obtain⟨i,d,rfl⟩:=mem_map.1 hc;exact(v i (by simpa using d)).2.1
     ·refine po.one ?_ rfl;have F:(((List.range len).map fun i=>(V i).2).map (yn P e)).length=len:=by simp
      refine aV.Eg (P:=P) (fun q=>((V (q/P.cellsOf e)).1).getD (q%P.cellsOf e) undef) F (fun i d=> ?_) (fun q J=> ?_) (fun i j d L=> ?_) hlen trivial
      ·have d:i<len:=by simpa using d
       rw[u i d,O i d];exact(v i d).2.2.1
      ·have X:0<P.cellsOf e:=by omega
       have d:q/P.cellsOf e<len:=by rw[Nat.div_lt_iff_lt_mul X];exact J
       have L:q%P.cellsOf e<P.cellsOf e:=Nat.mod_lt _ X;obtain⟨h1,h2,h3,h4⟩:=v _ d;obtain⟨_,hl,g⟩:=World.cells?_some h1;refine CG ?_ (h4.2 _ (by omega)).2;have:=g _ L;rw[add_add,Addr.add_lit,show q/P.cellsOf e*P.cellsOf e+q%P.cellsOf e=q by rw[Nat.mul_comm];exact Nat.div_add_mod q _]at this;rw[this,getD_eq_getElem?_getD,getElem?_eq_getElem (by omega)];rfl
      ·have d:i<len:=by simpa using d
       have X:0<P.cellsOf e:=by omega
       have e1:(i*P.cellsOf e+j)/P.cellsOf e=i:=by rw[Nat.add_comm,Nat.add_mul_div_right _ _ X,Nat.div_eq_of_lt L,Nat.zero_add]
       have e2:(i*P.cellsOf e+j)%P.cellsOf e=j:=by rw[Nat.add_comm,Nat.add_mul_mod_self_right,Nat.mod_eq_of_lt L]
       rw[u i d,O i d,e1,e2];exact((v i d).2.2.2.2 j (by rw[(v i d).2.2.1];exact L)).1
  ·rename_i fs hu;simp only[Bool.and_eq_true,all_eq_true]at l;obtain⟨s1,s2⟩:=l;obtain⟨xs,n,_,rfl,hl,a4,hf⟩:=DataW.trod_struct hu h;obtain⟨av,a1,a2⟩:=CM (P:=P) (G:=so W) (k:=k) (cs:=vs) (P.cellsOf t) hl fs.toList 0 s1 (Nat.zero_le _) (fun f ac=>by
    obtain⟨i,d,rfl⟩:=mem_iff_getElem.1 ac;have M:i<fs.size:=by simpa using d
    have:=hf i _ (by simp[M]:fs[i]? =some fs.toList[i]);rw[getElem?_eq_getElem (by omega)]at this;exact ih _ _ _ _ (s2 _ (by simp)) (fun q J=>o q (by simp only[DataW.weights,hu];exact oU (i:=i) (by simp[M]) (by rw[getElem?_map,getElem?_eq_getElem (by omega)];rfl) J)) this)
   rw[drop_zero]at a1;refine⟨av,?_,a1⟩;simp only[jA,hu];exact⟨by rw[a1.1,hl],fun f hf=>by simpa using(a2 f hf).2⟩
  ·cases l
end Go.AW
namespace Go.AW
open Go.Deep Go.ChangeShapes Go.WideShapes Go.ChangeAt
variable {H:Type} {enc:TypeId×Value→H} {P:Program}
def uU (P:Program) (k:Nat):List TypeId→List AV→Prop
 |[],[]=>True
 |t::ts,a::as=>(∃cs,a=yn P t cs∧jA P k t cs)∧uU P k ts as
 | _,_ =>False
def uU.inv {P:Program}{k:Nat}{t:TypeId}{ts:List TypeId}{vs:List AV}(h:uU P k (t::ts) vs):∃cs r,vs=yn P t cs::r∧jA P k t cs∧uU P k ts r:=by
 cases vs with
 |nil=>exact h.elim
 |cons a r=>obtain⟨⟨cs,rfl,h1⟩,d⟩:=h;exact⟨cs,r,rfl,h1,d⟩
def uU.V6 {P:Program}{k:Nat}{vs:List AV}(h:uU P k [] vs):vs= []:=by
 cases vs with
 |nil=>rfl
 |cons a r=>exact h.elim
def N5 {P:Program}{k:Nat}{t:TypeId}{d:IntKind}{cs:List AV}(ht:P.underlying t=some (.int d)) (h:jA P (k+1) t cs):∃n,yn P t cs= .sc (.int d n)∧(Lit.int d n).wf=true:=by simp only[jA,ht]at h;obtain⟨n,rfl,hw⟩:=h;exact⟨n,by simp[yn,isAgg,ht],hw⟩
def Lr {P:Program}{k:Nat}{t e:TypeId}{cs:List AV}{α:Type}(f:α→AV) (ht:P.underlying t=some (.slice e)) (hf:∀c,jA P k e c→ ∃x,yn P e c=f x) (h:jA P (k+1) t cs):
 ∃(l:List α) (nl:Bool),yn P t cs= .ao e (l.map f) .aI nl∧(nl=true→l= [])∧l.length*P.bytesOf e≤reachBytes:=by
 simp only[jA,ht]at h;rcases h with rfl|⟨es,rfl,h1,g⟩
 ·exact⟨[],true,by simp[yn,isAgg,ht],fun _ =>rfl,by simp⟩
 ·have:∃l:List α,l.length=es.length∧es.map (yn P e)=l.map f:=by
   clear h1;induction es with
   |nil=>exact⟨[],rfl,rfl⟩
   |cons c r i=>obtain⟨x,j⟩:=hf c (g c (by simp));obtain⟨l,hl,hm⟩:=i (fun d hd=>g d (by simp[hd]));exact⟨x::l,by simp[hl],by simp[j,hm]⟩
  obtain⟨l,hl,hm⟩:=this;exact⟨l,false,by simp[yn,isAgg,ht,hm],(fun h=>by cases h),(by rw[hl];exact h1)⟩
def Ie {P:Program}{k:Nat}{t e:TypeId}{cs:List AV}(ht:P.underlying t=some (.slice e)) (he:P.underlying e=some (.int .u8)) (h:jA P (k+2) t cs):
 ∃(l:List UInt8) (nl:Bool),yn P t cs= .ao e (l.map u8) .aI nl∧(nl=true→l= [])∧l.length*P.bytesOf e≤reachBytes:=by
 refine Lr u8 ht (fun c g=> ?_) h;obtain⟨n,h1,d⟩:=N5 he g;refine⟨UInt8.ofNat n.toNat,?_⟩;simp only[Lit.wf,IntKind.min,IntKind.max,IntKind.signed,IntKind.bits,Bool.and_eq_true,decide_eq_true_eq]at d;rw[h1];simp;simp at d;omega
def Ab {W w:World}{k:Nat}{t:TypeId}{v:Value}{cs:List AV}{base:Nat}(j:served P k t=true) (d:Value.okWide P w .any base t v) (h:po P (so W) cs v.cells.toList):
 aV P (so W) (yn P t cs) v:=by
 cases k with
 |zero=>simp[served]at j
 |succ k=>
  unfold yn isAgg;unfold Value.okWide at d;simp only[served]at j;have single:(∀c,v≠ .agg c)→aV P (so W) (cs.headD .any) v:=by
   intro l;have e:v.cells= #[v]:=by cases v<;>first|rfl|exact absurd rfl (l _)
   rw[e]at h;obtain⟨h1,q⟩:=h
   match cs,h1 with
   |[c],_ =>simpa using(q 0 (by simp)).1
  split at j<;>rename_i hu<;>simp only[hu]at d⊢
  ·exact single fun c g=>by subst g;simp[Cell.okWide,Cell.ok,hu]at d
  ·exact single fun c g=>by subst g;simp[Cell.okWide,Cell.ok,hu]at d
  ·exact single fun c g=>by subst g;simp[Cell.okWide,Cell.ok,hu]at d
  ·exact single fun c g=>by subst g;simp[Cell.okWide,Cell.ok,hu]at d
  ·exact single fun c g=>by subst g;simp[Cell.okWide,Cell.ok,hu]at d
  ·obtain⟨c,rfl,_,_⟩:=d;simp only[Value.cells]at h;have:c=c.toList.toArray:=by simp
   rw[this];simp only[if_true];exact .agg c.toList h.1.symm fun i o=>(h.2 i o).1
  ·cases j
def Ic {W:World}{base k:Nat} :∀(ts:List TypeId) (vs:List Value) (ds:List (DataW H)) (ps:List MemPlace),(∀t∈ts,served P k t=true)→
 (∀n∈DataW.weightsEach P ts ds,n≤reachBytes)→(∀(j:Nat) t v,ts[j]? =some t→vs[j]? =some v→Value.okWide P W .any base t v)→
 DataW.TrodAll enc P W 0 (fun _ =>true) true ts vs ds ps→
 ∃as,uU P k ts as∧vs.length=as.length∧ds.length=ts.length∧ ∀i,i<as.length→aV P (so W) (as.getD i .any) (vs.getD i undef):=by
 intro ts;induction ts with
 |nil=>intro vs ds ps _ _ _ h;obtain⟨rfl,rfl,_⟩:=trodAll_nil h;exact⟨[],trivial,rfl,rfl,fun i o=>by simp at o⟩
 |cons t ts y=>
  intro vs ds ps g hw u h;obtain⟨v,vs,d,ds,p,q,rfl,rfl,rfl,h1,E⟩:=trodAll_cons h;obtain⟨as,V,T,O,M⟩:=y vs ds q (fun t ht=>g t (by simp[ht])) (fun n l=>hw n (by simp[DataW.weightsEach,l])) (fun j t v I F=>u (j+1) t v (by simpa using I) (by simpa using F)) E;obtain⟨fuel,h1⟩:=h1;obtain⟨cs,L,X,J⟩:=Jo k t fuel _ _ (g t (by simp)) (fun n l=>hw n (by simp[DataW.weightsEach,l])) h1;refine⟨yn P t cs::as,⟨⟨cs,rfl,L⟩,V⟩,by simp[T],by simp[O],fun i o=> ?_⟩;cases i with
  |zero=>simpa using Ab (g t (by simp)) (u 0 t v rfl rfl) J
  |succ i=>simpa using M i (by simpa using o)
def Ib (hl:laidOutB P=true) {W l:World} :∀(ts:List TypeId) (vs:List Value) (ds:List (DataW H)) (ps:List MemPlace),(∀t∈ts,P.readableRec t=true∧t<P.types.size)→
 Below W.heap.size W l→(∀x∈ps,x.block<W.heap.size)→DataW.TrodAll enc P W 0 (fun _ =>true) true ts vs ds ps→DataW.TrodAll enc P l 0 (fun b=>decide (b<W.heap.size)) true ts vs ds ps:=by
 intro ts;induction ts with
 |nil=>intro vs ds ps _ _ _ h;obtain⟨rfl,rfl,rfl⟩:=trodAll_nil h;exact rfl
 |cons t ts o=>intro vs ds ps ht j g h;obtain⟨v,vs,d,ds,p,q,rfl,rfl,rfl,h1,u⟩:=trodAll_cons h;exact⟨p,q,Below.trod hl (ht t (by simp)).1 (ht t (by simp)).2 h1 j (fun x i=>g x (by simp[i])),o _ _ _ (fun t h=>ht t (by simp[h])) j (fun x i=>g x (by simp[i])) u,rfl⟩
def Bo (r:AV) (_ :AS):Prop:=r= .sc (.bool true)
def Ep {σ:AS}{b:Bool}(h:b=true):Ends P Bo σ (.sc (.bool b)):=⟨_,σ,Wk.refl _,AS.le_refl _,by rw[h];rfl⟩
@[simp] def Qi {σ:AS}{b:Bool} :Ends P Bo σ (.sc (.bool b))↔b=true:=by refine⟨fun⟨d,h,h1,i,g⟩=> ?_,Ep⟩;have:d= .sc (.bool true):=g;subst this;have:=h1 (so default) (.bool b) (.sc _);cases this;rfl
def Ax (k:Nat) {f:FuncId}{fn:Func}{s:ChangeSpec}{ts:List TypeId}{tb:TypeId}(y:laidOutB P=true) (o:fn.params.toList=ts) (g:ts.all (served P k)=true)
 (u:ts.all (fun t=>P.readableRec t&&decide (t<P.types.size))=true) (L:fn.resultTypes= #[tb]) (hb:P.underlying tb=some .bool) (d:s.vars= [])
 (hs:∀ds:List (DataW H),ds.length=ts.length→s.fn H ds= { results:= [.lit (.bool true)],args:=ds })
 (F:∀as,uU P k ts as→ad P f as P4 Bo No)
 {W:World} {base:Nat} {args:Array Value} {ds gs:List (DataW H)} {before:List MemPlace}
 (J:∀(j:Nat) t v,fn.params[j]? =some t→args[j]? =some v→Value.okWide P W .any base t v)
 (Y:DataW.Whole enc P fn.params.toList s.vars false W args.toList ds gs before)
 (l:(DataW.weightsEach P (fn.params.toList++s.plain.varTypes P) (ds++gs)).all (· ≤reachBytes)=true):
 Calls P f args W fun e X=> ∃v,e= .returned v∧s.post enc P fn false true false false W args v X:=by
 have I:=Y;obtain⟨p,q,V,hV,rfl,_,_⟩:=Y;rw[d]at hV;obtain⟨rfl,rfl⟩:=trodVars_none hV;have O:s.plain.varTypes P= []:=by simp[ChangeSpec.plain,DataSpec.varTypes,d]
 rw[O,append_nil,append_nil]at l;rw[o]at V l;obtain⟨as,a1,a2,a3,a4⟩:=Ic (k:=k) ts args.toList ds p (fun t ht=>all_eq_true.1 g t ht) (fun n hn=>by simpa using all_eq_true.1 l n hn) (fun j t v e1 e2=>J j t v (by rw[←o]at e1;simpa using e1) (by simpa using e2)) V;refine((F as a1).run (so W) W args (Kz P W) ⟨by simpa using a2,fun i hi=>by simpa using a4 i hi⟩).mono fun e X he=> ?_;unfold kE at he;split at he
 ·rename_i v;obtain⟨G',σ',r,g1,g2,g3,rfl⟩:=he;cases g3;have M:Below W.heap.size W X:=by have:=g2.below;rw[g1.B,g1.W0]at this;exact this
  simp only[append_nil]at I;have T:∀x∈p,x.block<W.heap.size:=fun x hx=>I.lt x hx;have E:=hs ds a3;refine⟨_,rfl,ds,[],p,[],p,[],I,?_,?_,?_,M.frame _,fun h=>by cases h⟩
  ·rw[append_nil,E,L];exact trodAll_mk1 (shut_bool hb _)
  ·rw[append_nil,E,o];exact Ib y ts _ _ _ (fun t ht=>by simpa using all_eq_true.1 u t ht) M T V
  ·rw[d,append_nil,E];rfl
 ·obtain⟨_,_,_,_,_,_,_,_,h⟩:=he;exact h.elim
 ·exact he.elim
end Go.AW
namespace Go.AW
variable {P:Program} {n:Nat} {ds:List Deferred} {Q:AQ} {s:Fr} {σ:AS}
def Wk.of {a b:AV}(h:a=b):AV.Wk P a b:=h ▸ Wk.refl _
def aN.nil:aN P s (iO []):=fun _ _ _ _ => .any _
def aN.cons {j:Nat}{v:AV}{r:List (Nat×AV)}(h:AV.Wk P (s j) v) (d:aN P s (iO r)):aN P s (iO ((j,v)::r)):=by
 intro i;simp only[Cn];split
 ·rename_i e;subst e;exact h
 ·exact d i
def jC (P:Program) {α:Type}(m:α→Nat) (I:α→Prop) (c:List (Nat×AV)) (v:α→List (Nat×AV)) (st:α→AS) (a:α) (h:Fr) (g:AS):Prop:=
 ∃d,m d<m a∧I d∧aN P h (iO (c++v d))∧AS.le (st d) g
def jC.mk {α:Type}{m:α→Nat}{I:α→Prop}{c:List (Nat×AV)}{v:α→List (Nat×AV)}{st:α→AS}{a:α}{h:Fr}{g:AS}(d:α)
 (h1:m d<m a) (l:aN P h (iO (c++v d))) (j:AS.le (st d) g) (i:I d):jC P m I c v st a h g:=⟨d,h1,i,l,j⟩
def aq.aQ {α:Type}{body:Code}(g:α) (m:α→Nat) (I:α→Prop) (c:List (Nat×AV)) (v:α→List (Nat×AV)) (st:α→AS)
 (l:aN P s (iO (c++v g))) (j:AS.le (st g) σ) (h0:I g)
 (o:∀a,I a→aq P n ds body (dF (jC P m I c v st a) Q) (iO (c++v a)) (st a)):aq P n ds (.loop body) Q s σ:=by
 refine aq.loop (fun k s σ=> ∃a,k=m a∧I a∧s=iO (c++v a)∧σ=st a) ⟨g,rfl,h0,rfl,rfl⟩ l j ?_;rintro k s σ ⟨a,rfl,ha,rfl,rfl⟩;refine(o a ha).mono fun e F E d=> ?_;cases e with
 |normal=>obtain⟨h,h1,y,u,q⟩:=d;exact⟨m h,_,_,h1,u,q,h,rfl,y,rfl,rfl⟩
 |exit i=>exact d
 |ret=>exact d
 |panic x=>exact d
def ag.Nu {f:FuncId}{first cap args:List AV}{d:AS}{v:AV}{K j:AV→AS→Prop}(h:ad P f (first++args++cap) σ (ah v d) No) (g:K v d):ag P (.fn (.func f) first cap) args σ K j:=
 ⟨_,_,h,fun r l ⟨h1,i⟩=>by subst h1;subst i;exact g,fun _ _ h=>h.elim⟩
def mM (P:Program) (σ:AS) (d:AV) (args:List AV) (g:AV):Prop:= ∀K h:AV→AS→Prop,K g σ→ag P d args σ K h
def mM.use {d:AV}{args:List AV}{g:AV}(h:mM P σ d args g) {K i:AV→AS→Prop}(j:K g σ):ag P d args σ K i:=h K i j
def mM.fn {f:FuncId}{first cap args:List AV}{g:AV}(h:ad P f (first++args++cap) σ (ah g σ) No):mM P σ (.fn (.func f) first cap) args g:=fun _ _ d=>ag.Nu h d
def mM.func {f:FuncId}{args:List AV}{g:AV}(h:ad P f args σ (ah g σ) No):mM P σ (.sc (.func (.func f) #[] #[])) args g:=fun _ _ d=>ag.ay h d
def OS (p:Prop):(p=True)∨(p=False):=by by_cases h:p;exact .inl (eq_true h);exact .inr (eq_false h)
def aH (a b:Nat):((a:Int)<(b:Int))=(a<b):=by simp only[eq_iff_iff];omega
def lW (a b:Nat):((a:Int)≤(b:Int))=(a≤b):=by simp only[eq_iff_iff];omega
def bQ {i:Nat}(h:i<4000000000000000000):IntKind.i64.wrap ((i:Int)+1)=((i+1:Nat):Int):=gW h
end Go.AW
namespace Go.AW
variable {P:Program} {n:Nat} {ds:List Deferred} {Q:AQ} {s:Fr} {σ:AS} {G:Gh} {w:World} {K Pn:AV→AS→Prop}
def dI {m:Nat}{l:List AV}(h:∀v∈l,v.cells.length=m):(aB l).length=l.length*m:=(gx l h).1
def ly (a b:List AV):aB (a++b)=aB a++aB b:=by simp[aB]
def uL {m:Nat}{l:List AV}(h:∀v∈l,v.cells.length=m) {i:Nat}(g:i<l.length):
 aB l=aB (l.take i)++(l[i].cells++aB (l.drop (i+1)))∧(aB (l.take i)).length=i*m:=by
 have h1:l=l.take i++l[i]::l.drop (i+1):=by
  conv=>lhs;rw[←take_append_drop i l,drop_eq_getElem_cons g]
 refine⟨?_,?_⟩
 ·conv=>lhs;rw[h1]
  rw[ly,jU]
 ·rw[dI (m:=m) (fun v d=>h v (mem_of_mem_take d)),length_take,Nat.min_eq_left (by omega)]
def tY {m:Nat}{l:List AV}(h:∀v∈l,v.cells.length=m) {i:Nat}(d:i<l.length) {v:AV}(j:v.cells.length=m):
 (aB l).take (i*m)++(v.cells++(aB l).drop (i*m+m))=aB (l.set i v):=by
 obtain⟨h1,q⟩:=uL h d;have o:=h l[i] (getElem_mem d);have g:l.set i v=l.take i++v::l.drop (i+1):=by rw[set_eq_take_append_cons_drop,if_pos d]
 rw[g,ly,jU,h1,take_append_of_le_length (by omega),take_of_length_le (by omega)];congr 1;rw[←append_assoc,drop_append_of_le_length (by simp;omega),drop_eq_nil_of_le (by simp;omega),nil_append]
def xj {d:List AV}{m:Nat}(hm:0<m) (h:∀v∈d,v.cells.length=m) {vs:Nat→Value}{p:Value→Prop}
 (u:∀i j,i<d.length→j<m→aV P G ((d.getD i .any).cells.getD j .any) (vs (i*m+j))∧p (vs (i*m+j))):∀k,k<(aB d).length→aV P G ((aB d).getD k .any) (vs k)∧p (vs k):=by
 intro k l;obtain⟨f1,f2⟩:=gx d h;rw[f1]at l;have k1:k/m<d.length:=Nat.div_lt_of_lt_mul (by rw[Nat.mul_comm];exact l);have g:k%m<m:=Nat.mod_lt _ hm;have q:(k/m)*m+k%m=k:=by rw[Nat.mul_comm];exact Nat.div_add_mod k _
 have h1:=f2 _ _ k1 g;have o:=u _ _ k1 g;rw[q]at h1 o;rw[h1];exact o
def HI {d:List AV}{m:Nat}(h:∀v∈d,v.cells.length=m) {vs:Nat→Value}{p:Value→Prop}
 (o:∀k,k<(aB d).length→aV P G ((aB d).getD k .any) (vs k)∧p (vs k)):∀i j,i<d.length→j<m→aV P G ((d.getD i .any).cells.getD j .any) (vs (i*m+j))∧p (vs (i*m+j)):=by
 intro i j l g;obtain⟨f1,f2⟩:=gx d h;rw[←f2 i j l g];exact o _ (by rw[f1];exact jS l g)
def GV (P:Program) (e:TypeId) (es:List AV) (v:AV) (S τ:AS):Prop:=
 (es= []∧v= .ai∧τ=S)∨ ∃(id cap:Nat) (d:List AV),S id=none∧v= .fH id 0 es.length cap∧τ=S.set id (.cells e (aB (es++d)))∧(∀x∈es++d,x.cells.length=P.cellsOf e)∧es.length+d.length=cap
def GV.nil {e:TypeId}{S:AS} :GV P e [] .ai S S:= .inl ⟨rfl,rfl,rfl⟩
def GV.le {e:TypeId}{es:List AV}{v:AV}{S τ:AS}(h:GV P e es v S τ):AS.le S τ:=by
 rcases h with⟨_,_,rfl⟩|⟨id,cap,d,h0,_,rfl,_⟩
 ·exact AS.le_refl _
 ·exact an h0 (AS.le_refl _)
def GV.set {e:TypeId}{es:List AV}{v:AV}{S τ:AS}(h:GV P e es v S τ) {j:Nat}{b:bP}(i:τ j=none):GV P e es v (S.set j b) (τ.set j b):=by
 rcases h with⟨h1,q,rfl⟩|⟨id,cap,g,h0,h1,rfl,o⟩
 ·exact .inl ⟨h1,q,rfl⟩
 ·have d:j≠id:=by rintro rfl;simp at i
  exact .inr ⟨id,cap,g,by have l:¬id=j:=fun e=>d e.symm;simp[l,h0],h1,(AS.set_comm d.symm).symm ▸ rfl,o⟩
def GV.Vb {e:TypeId}{es:List AV}{v:AV}{S i g:AS}(h:GV P e es v i g) (hle:AS.le S i):∃τ,GV P e es v S τ∧AS.le τ g:=by
 rcases h with⟨h1,q,rfl⟩|⟨id,cap,d,h0,h1,rfl,o⟩
 ·exact⟨S,.inl ⟨h1,q,rfl⟩,hle⟩
 ·have l:S id=none:=by
   cases j:S id with
   |none=>rfl
   |some b=>have:=hle id b j;rw[h0]at this;cases this
  exact⟨_,.inr ⟨id,cap,d,l,h1,rfl,o⟩,Av hle⟩
def GV.fresh {e:TypeId}{es:List AV}{v:AV}{S τ:AS}(h:GV P e es v S τ) {j:Nat}(g:τ j=none):S j=none:=by
 cases d:S j with
 |none=>rfl
 |some b=>have:=h.le j b d;rw[g]at this;cases this
def uS (hi:Inv P G σ w) {t tx ty e:TypeId}{es xs:List AV}{S:AS}{v x:AV}{vs vx:Value}(he:cr P t=some e) (dp:P.cellsOf e≠0) (a2:(ax P e).laid=true) (a1:(ax P e).cells.length=P.cellsOf e)
 (hs:aV P G v vs) (hG:GV P e es v S σ) (g:aV P G x vx) (a9:fE P e tx x=some xs) (L:∀x∈xs,x.cells.length=P.cellsOf e)
 (a4:(es.length+xs.length)*P.bytesOf e≤kr (P.bytesOf e)) (c8:es.length+xs.length≤140737488355328) (h:∀v' τ',GV P e (es++xs) v' S τ'→K v' τ'):
 Out P G K Pn (((do pure (Next.value (←Builtin.append_ #[t,tx] ty #[vs,vx]))):Sem Next).run P w):=by
 have hu:=eP he;obtain⟨it,z,M,hz,b5⟩:=dq a2;have I:it.size=P.cellsOf e:=by simp[Program.cellsOf,M]
 have al:it.bytes=P.bytesOf e:=by simp[Program.bytesOf,M]
 have cb:aV P G (ax P e) z:=by rw[b5];exact gn z
 obtain⟨z1,z2⟩:=gf cb a2;rw[a1]at z1 z2;obtain⟨news,s1,s2⟩:=DK hi a2 a1 g a9;have ap:0<P.cellsOf e:=by omega
 have E:news.length=xs.length*P.cellsOf e:=s2.len;have V:∀a0,a0<es.length+xs.length→Builtin.nextslicecap (es.length+xs.length) a0*it.bytes≤281474976710656:=by intro a0 ho;rw[al];exact wu ho a4
 have q:∀i,i<news.length→(news.getD i undef).oneCell'=true:=fun i l=>by rw[getD_eq_getElem?_getD,getElem?_eq_getElem l];exact s1.one _ (getElem_mem _)
 have grow:∀(base:Option Addr) (cap:Nat) (olds:List Value),vs= .slice base es.length cap→(∀x∈es,x.cells.length=P.cellsOf e)→olds.length=es.length*P.cellsOf e→cap<es.length+xs.length→
  (Builtin.firstCells it.size es.length (.slice base es.length cap)).run P w.drew= .ok olds.toArray w.drew→
  (∀i j,i<es.length→j<P.cellsOf e→aV P G ((es.getD i .any).cells.getD j .any) (olds.getD (i*P.cellsOf e+j) undef)∧(olds.getD (i*P.cellsOf e+j) undef).oneCell'=true)→Inv P G S w→
  Out P G K Pn (((do pure (Next.value (←Builtin.append_ #[t,tx] ty #[vs,vx]))):Sem Next).run P w):=by
  intro base cap olds ca ci ab ac hold cc bf;have y:=xP (P:=P) w t tx ty e it z hu M hz base es.length cap olds hold vx xs.length news s1 ac (by omega) (V cap ac);have af:=grownCap_ge w (es.length+xs.length) cap e;generalize grownCap w (es.length+xs.length) cap e=J at y af;have o:∀x∈es++xs++List.replicate (J-(es.length+xs.length)) (ax P e),x.cells.length=P.cellsOf e:=by
   intro x g;rcases mem_append.1 g with g|g
   ·rcases mem_append.1 g with g|g
    ·exact ci x g
    ·exact L x g
   ·rw[(mem_replicate.1 g).2];exact a1
  have am:(olds++news).toArray++Builtin.zeroCells z.cells (J-(es.length+xs.length))=(olds++news++(Builtin.zeroCells z.cells (J-(es.length+xs.length))).toList).toArray:=by apply Array.ext';simp
  have b6:((Builtin.zeroCells z.cells (J-(es.length+xs.length))).toList).length=(J-(es.length+xs.length))*P.cellsOf e:=by simp[Builtin.zeroCells,z1]
  obtain⟨G',g1,g2,g3⟩:=bf.drew.lZ e ((olds++news).toArray++Builtin.zeroCells z.cells (J-(es.length+xs.length))) (aB (es++xs++List.replicate (J-(es.length+xs.length)) (ax P e)))
   (by rw[am,dI o];simp[ab,E,b6,Nat.add_mul]) (by
    refine xj (P:=P) (G:=G) ap o (vs:=fun k=>((olds++news).toArray++Builtin.zeroCells z.cells (J-(es.length+xs.length))).getD k undef) (p:=fun v=>v.oneCell'=true) ?_;intro i j l F;have hg:∀k,((olds++news).toArray++Builtin.zeroCells z.cells (J-(es.length+xs.length))).getD k undef=(olds++news++(Builtin.zeroCells z.cells (J-(es.length+xs.length))).toList).getD k undef:=by intro k;rw[am];simp[getD_eq_getElem?_getD]
    simp only[hg];simp only[length_append,length_replicate]at l;by_cases c1:i<es.length
    ·have e1:=jS c1 F;rw[aM _ _ _ (by simp;omega),aM _ _ _ c1,aM _ _ _ (by simp;omega),aM _ _ _ (by omega)];exact cc i j c1 F
    ·by_cases c2:i<es.length+xs.length
     ·have e1:=jS (n:=es.length+xs.length) c2 F;have e2:=AD (sz:=P.cellsOf e) (j:=j) (show es.length≤i by omega);rw[Nat.add_mul]at e1;have e4:es.length*P.cellsOf e≤i*P.cellsOf e:=Nat.mul_le_mul_right _ (by omega);have e3:i*P.cellsOf e+j-olds.length=(i-es.length)*P.cellsOf e+j:=by rw[ab,Nat.sub_mul];omega
      have bc:=s2.rep (i-es.length) j (by omega) F;have be:=q ((i-es.length)*P.cellsOf e+j) (by rw[E];exact jS (by omega) F);rw[aM _ _ _ (by simp;omega),aU _ _ _ (by omega),aM _ _ _ (by simp;omega),aU _ _ _ (by omega),e3];exact⟨bc,be⟩
     ·have e2:=AD (sz:=P.cellsOf e) (j:=j) (show es.length+xs.length≤i by omega);rw[Nat.add_mul]at e2;have e4:(es.length+xs.length)*P.cellsOf e≤i*P.cellsOf e:=Nat.mul_le_mul_right _ (by omega);rw[Nat.add_mul]at e4;have e3:i*P.cellsOf e+j-(olds++news).length=(i-(es.length+xs.length))*P.cellsOf e+j:=by rw[length_append,ab,E,Nat.sub_mul,Nat.add_mul];omega
      rw[aU _ _ _ (by simp;omega),aU _ _ _ (by simp[ab,E];omega),e3];rw[qm z1 (J-(es.length+xs.length)) (i-(es.length+xs.length)) j (by omega) F];have ch:(List.replicate (J-(es.length+xs.length)) (ax P e)).getD (i-(es++xs).length) .any=ax P e:=by rw[getD_eq_getElem?_getD,getElem?_replicate,if_pos (by simp;omega)];rfl
      rw[ch];exact z2 j F)
  rw[ca];refine Out.value y g1 g3 (.fH g2) (h _ _ (.inr ⟨G.top,J,List.replicate (J-(es.length+xs.length)) (ax P e),bf.fresh,by simp,rfl,o,by simp;omega⟩))
 rcases hG with⟨rfl,rfl,rfl⟩|⟨id,cap,d,h0,rfl,rfl,o,bv⟩
 ·cases hs;by_cases a8:xs= []
  ·subst a8;have cd:news= []:=by simpa using E
   subst cd;exact Out.value (Dh hu M s1) (.refl G) hi .ai (h _ _ GV.nil)
  ·have:0<xs.length:=length_pos_iff.2 a8;exact grow none 0 [] rfl (by simp) (by simp) (by simp;omega) (by simp[Builtin.firstCells]) (fun i j l=>by simp at l) hi
 ·cases hs with
  |fH hb=>
   rename_i b;obtain⟨b',cur,k1,k2,k3,k4⟩:=hi.cells id e (aB (es++d)) (by simp);rw[hb]at k1;obtain rfl:=Option.some.inj k1;have bs:=dI o;have O:∀x∈es,x.cells.length=P.cellsOf e:=fun x g=>o x (by simp[g]);have Y:=HI (P:=P) (G:=G) o (vs:=fun k=>cur.getD k undef) (p:=fun v=>v.oneCell'=true) k4;by_cases av:es.length+xs.length≤cap
   ·have T:cur.size=cap*P.cellsOf e:=by rw[k3,bs,length_append,bv]
    have ar:(es.length+xs.length)*P.cellsOf e≤cap*P.cellsOf e:=Nat.mul_le_mul_right _ av;rw[Nat.add_mul]at ar;have y:=Di (P:=P) w t tx ty e it hu M b 0 es.length cap vx xs.length news s1 av
     (fun j F=>by
      rw[I];simp only[World.cell?,k2];have:es.length*P.cellsOf e+j<cur.size:=by rw[T];omega
      simp[this]) (fun j F=>by
      simp only[World.frozen?,k2];simp)
    rw[I,Nat.zero_add]at y;have a3:=hi.store (i:=id) (ty:=e) (cs:=aB (es++d)) (by simp) (es.length*P.cellsOf e) news (aB xs) (by rw[E,dI L]) (by rw[E,←k3,T];exact ar)
     (xj (P:=P) (G:=G) ap L (vs:=fun k=>news.getD k undef) (p:=fun v=>v.oneCell'=true) (fun i j l F=>⟨s2.rep i j l F,q _ (by rw[E];exact jS l F)⟩)) b hb
    have cj:(aB (es++d)).take (es.length*P.cellsOf e)++aB xs++(aB (es++d)).drop (es.length*P.cellsOf e+(aB xs).length)=aB (es++xs++d.drop xs.length):=by
     have ce:=dI O;have bb:∀x∈d,x.cells.length=P.cellsOf e:=fun x g=>o x (by simp[g]);have hd:(aB d).drop (xs.length*P.cellsOf e)=aB (d.drop xs.length):=by
      have e1:d=d.take xs.length++d.drop xs.length:=(take_append_drop _ _).symm;have e2:(aB (d.take xs.length)).length=xs.length*P.cellsOf e:=by rw[dI (m:=P.cellsOf e) (fun x g=>bb x (mem_of_mem_take g)),length_take,Nat.min_eq_left (by omega)]
      conv=>lhs;rw[e1]
      rw[ly,←e2,drop_left]
     rw[ly es d,ly (es++xs),ly es xs,←ce,take_left,←drop_drop,drop_left,dI L,hd]
    rw[cj]at a3;rw[AS.set_set]at a3;refine Out.value y (.refl G) a3 (.fH hb) (h _ _ (.inr ⟨id,cap,d.drop xs.length,h0,by simp,rfl,fun x g=> ?_,by simp;omega⟩));rcases mem_append.1 g with g|g
    ·rcases mem_append.1 g with g|g
     ·exact O x g
     ·exact L x g
    ·exact o x (by simp[mem_of_mem_drop g])
   ·have c9:es.length*P.cellsOf e≤cur.size:=by rw[k3,bs];exact Nat.mul_le_mul_right _ (by simp)
    refine grow (some ⟨b,0,none⟩) cap (cur.toList.take (es.length*P.cellsOf e)) rfl O (by simp;omega) (by omega) ?_ ?_ (hi.weaken (an h0 (AS.le_refl _)))
    ·refine run_firstCells_some (P:=P) w.drew it.size es.length ⟨b,0,none⟩ es.length cap _ (by rw[I];simp;omega) (fun j u X=> ?_);have F:j<es.length*P.cellsOf e:=by
      rcases Nat.lt_or_ge j (es.length*P.cellsOf e)with h1|h1
      ·exact h1
      ·rw[getElem?_eq_none (by simp;omega)]at X;cases X
     rw[getElem?_take_of_lt F]at X;rw[Addr.add_lit,Nat.zero_add];show w.cell? ⟨b,j,none⟩=some u;simp only[World.cell?,k2];simpa using X
    ·intro i j l F;have hr:=Y i j (by simp;omega) F;have ac:=jS l F;rw[aM _ _ _ l]at hr;have eg:(cur.toList.take (es.length*P.cellsOf e)).getD (i*P.cellsOf e+j) undef=cur.getD (i*P.cellsOf e+j) undef:=by rw[getD_eq_getElem?_getD,getElem?_take_of_lt ac];simp
     rw[eg];exact hr
def ia.A9 {d:Nat}{t l:TypeId}{a b:Operand}{ty:TypeId}{pos:String}{M:Array Edge}{g:Option (Nat×Bool)}{K:Fr→AS→Prop}(hd:d<n) (e:TypeId) (es xs:List AV) (S:AS) (he:cr P t=some e) (y:P.cellsOf e≠0)
 (q:(ax P e).laid=true) (o:(ax P e).cells.length=P.cellsOf e) (J:GV P e es (ev s a) S σ) (I:fE P e l (ev s b)=some xs) (u:∀x∈xs,x.cells.length=P.cellsOf e)
 (i:(es.length+xs.length)*P.bytesOf e≤kr (P.bytesOf e)) (j:es.length+xs.length≤140737488355328)
 (h:∀F E,GV P e (es++xs) F S E→K (s.put (some d) F) E):ia P n ds Q ⟨some d,.call ⟨.builtin .append,#[a,b],#[t,l]⟩,ty,pos,M,g⟩ s σ K:=
 ia.mZ hd fun G act w v=>by
  show Out P G _ _ ((do let d ←resolve act.eval ⟨.builtin .append,#[a,b],#[t,l]⟩ ty;invoke d.target d.args:Sem Next).run P w);simp only[resolve,Sem.run_bind,Sem.run_pure,Result.andThen_ok,invoke];have L:(#[a,b]:Array Operand).map act.eval= #[act.eval a,act.eval b]:=by simp
  rw[L];exact uS (ty:=ty) v.inv he y q o (v.ev a) J (v.ev b) I u i j h
def AS.qu {σ:AS}{i:Nat}{x:bP}(h:σ i=some x):σ.set i x=σ:=AS.DP _ _ _ h
def Inv.sr {id:Nat}{e:TypeId}{g:List AV}(h:Inv P G (σ.set id (.cells e (aB g))) w) (h0:σ id=none) (hl:∀v∈g,v.cells.length=P.cellsOf e):
 ∃G',G.Le G'∧Inv P G' σ w∧ ∀o m cap y,o+m≤g.length→m≤cap→aV P G (.fH id (o*P.cellsOf e) m cap) y→aV P G' (.ao e ((g.drop o).take m) .aI false) y:=by
 obtain⟨b,vs,k1,k2,k3,k4⟩:=h.cells id e (aB g) (by simp[AS.set]);obtain⟨f1,f2⟩:=gx (m:=P.cellsOf e) g hl;have F:∀o,G.mem b o=none:=(h.dm id b k1).2.2 e (aB g) (by simp[AS.set]);have hle:G.Le (G.jQ b 0 (aB g).length (fun k=>vs.getD k undef)):=by
  refine⟨rfl,rfl,fun b' o v em=> ?_,fun _ _ e=>e,fun t r e=>⟨r,e,rfl,.inl rfl⟩⟩;rw[Gh.eS]
  ·exact em
  ·rintro⟨rfl,_⟩;rw[F o]at em;cases em
 have u:∀j x,σ j=some x→j≠id∧(σ.set id (.cells e (aB g))) j=some x:=by
  intro j x l;have:j≠id:=by intro e';subst e';rw[h0]at l;cases l
  exact⟨this,by simp[AS.set,this,l]⟩
 refine⟨_,hle,⟨h.below,h.base,?_,h.top,?_,h.fA,?_,?_,?_,?_,?_⟩,?_⟩
 ·intro b' o v em;by_cases hc:b'=b∧0≤o∧o<0+(aB g).length
  ·obtain⟨rfl,h3,h4⟩:=hc;rw[Gh.lh h3 h4]at em;obtain rfl:=Option.some.inj em;have ho:o<vs.size:=by omega
   refine⟨?_,(k4 o (by omega)).2⟩;simp[World.cell?,k2,ho]
  ·rw[Gh.eS hc]at em;exact h.mem b' o v em
 ·intro j c l;have:=h.dm j c l;refine⟨this.1,this.2.1,fun ty cs' hn o=> ?_⟩;obtain⟨af,M⟩:=u j _ hn;have av:c≠b:=fun e'=>af (h.fA j id b (e' ▸ l) k1);rw[Gh.eS (fun hh=>av hh.1)];exact this.2.2 ty cs' M o
 ·intro j ty cs' l;obtain⟨c,V,L,J,I,T⟩:=h.cells j ty cs' (u j _ l).2;exact⟨c,V,L,J,I,fun k O=>⟨(T k O).1.mono hle,(T k O).2⟩⟩
 ·intro j a0 l;obtain⟨c,ms,cl,L,J,I,T⟩:=h.maps j a0 (u j _ l).2;refine⟨c,ms,cl,L,J,I,fun k O=> ?_⟩;obtain⟨q,q1,Y,X⟩:=T k O;exact⟨q,q1,Y.mono hle,X.mono hle⟩
 ·intro j s' p l;exact h.dQ j s' p (u j _ l).2
 ·intro j m l;exact h.tok j m (u j _ l).2
 ·intro t r et;obtain⟨L,J,I⟩:=h.own t r et;refine⟨L,J,fun c o ea k ap am=> ?_⟩;obtain⟨q1,Y,X,q4,q5,q6,q7⟩:=I c o ea k ap am;refine⟨q1,Y,?_,q4,q5,q6,q7⟩;rw[Gh.eS (fun hh=>q4 id (by rw[k1,hh.1]))];exact X
 ·intro o m cap y ac al hy;cases hy with
  |fH hb=>
   rw[k1]at hb;obtain rfl:=Option.some.inj hb;have hlen:((g.drop o).take m).length=m:=by simp;omega
   have E:∀i,i<m→((g.drop o).take m).getD i .any=g.getD (o+i) .any:=fun i d=>by rw[getD_eq_getElem?_getD,getElem?_take_of_lt d,getElem?_drop,getD_eq_getElem?_getD]
   refine aV.Eg (fun k=>vs.getD (o*P.cellsOf e+k) undef) hlen (fun i d=> ?_) (fun k O=> ?_) (fun i j d hj=> ?_) al trivial
   ·rw[hlen]at d;rw[E i d,getD_eq_getElem?_getD,getElem?_eq_getElem (by omega)];exact hl _ (getElem_mem _)
   ·have h1:(o+m)*P.cellsOf e≤g.length*P.cellsOf e:=Nat.mul_le_mul_right _ ac;rw[Nat.add_mul]at h1;rw[Gh.lh (by omega) (by omega)];simp
   ·rw[hlen]at d;have h1:(o+i)*P.cellsOf e+j<g.length*P.cellsOf e:=jS (by omega) hj;have:=(k4 ((o+i)*P.cellsOf e+j) (by rw[f1];exact h1)).1;rw[f2 (o+i) j (by omega) hj,Nat.add_mul,Nat.add_assoc]at this;rw[E i d];exact this.mono hle
def aq.sr {c:Code}(i:Nat) {e:TypeId}{es:List AV}{S:AS}(E:GV P e es (s i) S σ) (h:∀nl,(nl=true→es= [])→aq P n ds c Q (s.put (some i) (.ao e es .aI nl)) S):aq P n ds c Q s σ:=by
 intro G0 G a w h1 d;rcases E with⟨rfl,l,rfl⟩|⟨id,cap,y,h0,l,rfl,q,u⟩
 ·refine h true (fun _ =>rfl) G0 G a w h1 ⟨d.inv,d.size,d.ds,fun j=> ?_⟩;by_cases g:j=i
  ·subst g;have:=d.rep j;rw[l]at this;simp only[mz,if_true];generalize a.tmps.getD j undef=v at this⊢;cases this;exact .iP trivial
  ·simp only[mz,g,if_false];exact d.rep j
 ·obtain⟨G',hle,o,conv⟩:=d.inv.sr h0 q;refine h false (fun F=>by cases F) G0 G' a w (h1.trans hle) ⟨o,d.size,d.ds,fun j=> ?_⟩;by_cases g:j=i
  ·subst g;have:=d.rep j;rw[l]at this;simp only[mz,if_true];have:=conv 0 es.length cap _ (by simp) (by omega) (by rw[Nat.zero_mul];exact this)
   simpa using this
  ·simp only[mz,g,if_false];exact(d.rep j).mono hle
end Go.AW
namespace Go.AW
variable {P:Program} {n:Nat} {ds:List Deferred} {Q:AQ} {s:Fr} {σ:AS} {G:Gh} {w:World} {K Pn:AV→AS→Prop}
def Dg (hi:Inv P G σ w) {t tx ty e:TypeId}{xs:List AV}{nl:Bool}{x:AV}{vs vx:Value}(he:cr P t=some e) (b0:P.cellsOf e≠0) (I:(ax P e).laid=true) (F:(ax P e).cells.length=P.cellsOf e)
 (hs:aV P G (.ao e [] .full nl) vs) (J:aV P G x vx) (X:fE P e tx x=some xs) (a0:∀x∈xs,x.cells.length=P.cellsOf e) (h0:0<xs.length)
 (L:xs.length*P.bytesOf e≤kr (P.bytesOf e)) (bc:xs.length≤140737488355328) (h:∀v' τ',GV P e xs v' σ τ'→K v' τ'):
 Out P G K Pn (((do pure (Next.value (←Builtin.append_ #[t,tx] ty #[vs,vx]))):Sem Next).run P w):=by
 have a1:∃base,vs= .slice base 0 0:=by
  cases hs with
  |iP ho=>exact⟨none,rfl⟩
  |ao be hl hm hr hc ho=>obtain⟨a,ha⟩:=ho;exact⟨a,ha⟩
 obtain⟨base,rfl⟩:=a1;have hu:=eP he;obtain⟨it,z,O,hz,ar⟩:=dq I;have a3:it.size=P.cellsOf e:=by simp[Program.cellsOf,O]
 have y:it.bytes=P.bytesOf e:=by simp[Program.bytesOf,O]
 have a4:aV P G (ax P e) z:=by rw[ar];exact gn z
 obtain⟨z1,z2⟩:=gf a4 I;rw[F]at z1 z2;obtain⟨news,s1,s2⟩:=DK hi I F J X;have ab:0<P.cellsOf e:=by omega
 have M:news.length=xs.length*P.cellsOf e:=s2.len;have l:∀i,i<news.length→(news.getD i undef).oneCell'=true:=fun i T=>by rw[getD_eq_getElem?_getD,getElem?_eq_getElem T];exact s1.one _ (getElem_mem _)
 have q:Builtin.nextslicecap (0+xs.length) 0*it.bytes≤281474976710656:=by rw[y,Nat.zero_add];exact wu h0 L
 have o:=xP (P:=P) w t tx ty e it z hu O hz base 0 0 [] (by
  cases base with
  |none=>simp[Builtin.firstCells]
  |some a=>exact run_firstCells_some (P:=P) w.drew it.size 0 a 0 0 [] (by simp) (fun j u a2=>by simp at a2)) vx xs.length news s1 (by omega) (by omega) q
 have g:=grownCap_ge w (0+xs.length) 0 e;generalize grownCap w (0+xs.length) 0 e=d at o g;simp only[Nat.zero_add]at o g;have V:∀x∈xs++List.replicate (d-xs.length) (ax P e),x.cells.length=P.cellsOf e:=by
  intro x J;rcases mem_append.1 J with J|J
  ·exact a0 x J
  ·rw[(mem_replicate.1 J).2];exact F
 have E:([]++news).toArray++Builtin.zeroCells z.cells (d-xs.length)=(news++(Builtin.zeroCells z.cells (d-xs.length)).toList).toArray:=by apply Array.ext';simp
 have av:((Builtin.zeroCells z.cells (d-xs.length)).toList).length=(d-xs.length)*P.cellsOf e:=by simp[Builtin.zeroCells,z1]
 obtain⟨G',g1,g2,g3⟩:=hi.drew.lZ e (([]++news).toArray++Builtin.zeroCells z.cells (d-xs.length)) (aB (xs++List.replicate (d-xs.length) (ax P e)))
  (by rw[E,dI V];simp only[size_toArray,length_append,M,av,length_replicate,Nat.add_mul]) (by
   refine xj (P:=P) (G:=G) ab V (vs:=fun k=>(([]++news).toArray++Builtin.zeroCells z.cells (d-xs.length)).getD k undef) (p:=fun v=>v.oneCell'=true) ?_;intro i j T hj;have hg:∀k,(([]++news).toArray++Builtin.zeroCells z.cells (d-xs.length)).getD k undef=(news++(Builtin.zeroCells z.cells (d-xs.length)).toList).getD k undef:=by intro k;rw[E];simp[getD_eq_getElem?_getD]
   simp only[hg];simp only[length_append,length_replicate]at T;by_cases c2:i<xs.length
   ·have e1:=jS (n:=xs.length) c2 hj;have Y:=s2.rep i j (by omega) hj;have ac:=l (i*P.cellsOf e+j) (by rw[M];exact jS (by omega) hj);rw[aM _ _ _ (by omega),aM _ _ _ (by omega)];exact⟨Y,ac⟩
   ·have e2:=AD (sz:=P.cellsOf e) (j:=j) (show xs.length≤i by omega);have e4:xs.length*P.cellsOf e≤i*P.cellsOf e:=Nat.mul_le_mul_right _ (by omega);have e3:i*P.cellsOf e+j-news.length=(i-xs.length)*P.cellsOf e+j:=by rw[M,Nat.sub_mul];omega
    rw[aU _ _ _ (by omega),aU _ _ _ (by omega),e3];rw[qm z1 (d-xs.length) (i-xs.length) j (by omega) hj];have a6:(List.replicate (d-xs.length) (ax P e)).getD (i-xs.length) .any=ax P e:=by rw[getD_eq_getElem?_getD,getElem?_replicate,if_pos (by omega)];rfl
    rw[a6];exact z2 j hj)
 refine Out.value o g1 (by simpa using g3) (.fH g2) (h _ _ (.inr ⟨G.top,d,List.replicate (d-xs.length) (ax P e),hi.fresh,rfl,rfl,V,by simp;omega⟩))
def ia.N6 {d:Nat}{t l:TypeId}{a b:Operand}{ty:TypeId}{pos:String}{M:Array Edge}{g:Option (Nat×Bool)}{K:Fr→AS→Prop}(hd:d<n) (e:TypeId) (xs:List AV) {nl:Bool}(he:cr P t=some e) (y:P.cellsOf e≠0)
 (q:(ax P e).laid=true) (o:(ax P e).cells.length=P.cellsOf e) (J:ev s a= .ao e [] .full nl) (I:fE P e l (ev s b)=some xs) (u:∀x∈xs,x.cells.length=P.cellsOf e) (h0:0<xs.length)
 (i:xs.length*P.bytesOf e≤kr (P.bytesOf e)) (j:xs.length≤140737488355328)
 (h:∀F E,GV P e xs F σ E→K (s.put (some d) F) E):ia P n ds Q ⟨some d,.call ⟨.builtin .append,#[a,b],#[t,l]⟩,ty,pos,M,g⟩ s σ K:=
 ia.mZ hd fun G act w v=>by
  show Out P G _ _ ((do let d ←resolve act.eval ⟨.builtin .append,#[a,b],#[t,l]⟩ ty;invoke d.target d.args:Sem Next).run P w);simp only[resolve,Sem.run_bind,Sem.run_pure,Result.andThen_ok,invoke];have L:(#[a,b]:Array Operand).map act.eval= #[act.eval a,act.eval b]:=by simp
  rw[L];exact Dg (ty:=ty) v.inv he y q o (J ▸ v.ev a) (v.ev b) I u h0 i j h
def H3 {t m:Nat}{ps:List (Nat×AV)}{K:AV→AS→Prop}{p:Prop}(h:bF P σ t m ps K):bF P σ t m ps (fun v g=>(p→AS.le σ g)∧K v g):=by
 unfold bF at h⊢;split at h
 ·exact⟨h.1,h.2.1,h.2.2.1,h.2.2.2.1,h.2.2.2.2.1,h.2.2.2.2.2.1,fun id d=>⟨fun _ =>AS.aj (AS.le_refl _) d,h.2.2.2.2.2.2 id d⟩⟩
 ·exact h.elim
def ri.lX {d t m:Nat}{ps:Array (Nat×Operand)}{ty:TypeId}{pos:String}{g:Array Edge}{K:Fr→AS→Prop}(hd:d<n)
 (h:bF P σ t m (ps.toList.map fun p=>(p.1,ev s p.2)) (fun v i=>K (s.put (some d) v) i)):ri P n ⟨some d,.buildSlice t m ps,ty,pos,g,none⟩ s σ K Q:=by
 refine⟨hd,rfl,fun G ρ w o j=> ?_⟩;have e:(ps.toList.map fun p=>(p.1,ev s p.2))=ps.toList.map fun p=>(p.1,ev (Ki ⟨some d,.buildSlice t m ps,ty,pos,g,none⟩ s) p.2):=by refine map_congr_left fun p l=> ?_;rw[EF];simp[Op.operands];exact⟨p.1,by simpa using l⟩
 rw[e]at h;refine nS o j (H3 h)
def ri.A9 {d:Nat}{t q:TypeId}{a b:Operand}{ty:TypeId}{pos:String}{T:Array Edge}{K:Fr→AS→Prop}(hd:d<n) (e:TypeId) (es xs:List AV) (S:AS) (he:cr P t=some e) (E:P.cellsOf e≠0)
 (v:(ax P e).laid=true) (u:(ax P e).cells.length=P.cellsOf e) (J:GV P e es (ev s a) S σ) (I:fE P e q (ev s b)=some xs) (y:∀x∈xs,x.cells.length=P.cellsOf e)
 (g:(es.length+xs.length)*P.bytesOf e≤kr (P.bytesOf e)) (i:es.length+xs.length≤140737488355328)
 (h:∀l j,GV P e (es++xs) l S j→K (s.put (some d) l) j):ri P n ⟨some d,.call ⟨.builtin .append,#[a,b],#[t,q]⟩,ty,pos,T,none⟩ s σ K Q:=by
 refine⟨hd,rfl,fun G ρ w L o=> ?_⟩;have ha:=o a;have F:=o b;rw[EF _ _ _ (by simp[Op.operands,Call.operands])]at ha;rw[EF _ _ _ (by simp[Op.operands,Call.operands])]at F;show Out P G _ _ ((do let d ←resolve ρ ⟨.builtin .append,#[a,b],#[t,q]⟩ ty;invoke d.target d.args:Sem Next).run P w);simp only[resolve,Sem.run_bind,Sem.run_pure,Result.andThen_ok,invoke];have O:(#[a,b]:Array Operand).map ρ= #[ρ a,ρ b]:=by simp
 rw[O];exact uS (ty:=ty) L he E v u ha J F I y g i fun l j M=>⟨fun o=>by simp[ku]at o,h l j M⟩
end Go.AW
namespace Go.AW
variable {P:Program} {n:Nat} {ds:List Deferred} {Q:AQ} {s:Fr} {σ:AS}
structure LG (p:Prop):Prop where
 out:p
def bH (P:Program) (L:List (Nat×bW)) (S:List Nat):Prop:=P.follows .mixedOrders=true
def OK (id:Nat):List (Nat×bW)→Option bW
 |[]=>none
 |(k,t)::r=>if k=id then some t else OK id r
theorem aq.K3 {L:List (Nat×bW)}{S:List Nat}(d:bH P L S) {id:Nat}{l:List Oper}{t:bW}(ht:OK id L=some t) (j:S.contains id=false)
 (g:dh l.toArray false true (Array.replicate l.length false) t=true) (hd:decide (t.depth≤l.length)=true)
 (i:bo Q) (h:bu P n l.toArray false Q t s σ):aq P n ds (.region id l.toArray true) Q s σ:=aq.iL d t g hd i h
theorem aq.Ac {L:List (Nat×bW)}{S:List Nat}(d:bH P L S) {id:Nat}{l:List Oper}(g:S.contains id=false) (h:jZ P n l.toArray Q l s σ):aq P n ds (.region id l.toArray false) Q s σ:=aq.region h
theorem ag.V7 {f:FuncId}{args:List AV}{σ d:AS}{v:AV}{K g:AV→AS→Prop}(h:ad P f args σ No (ah v d)) (i:g v d):ag P (.sc (.func (.func f) #[] #[])) args σ K g:=
 .of h (fun _ _ h=>h.elim) (fun r j h=>by obtain⟨rfl,rfl⟩:=h;exact i)
theorem ag.O9 {f:FuncId}{args:List AV}{σ:AS}{g K i:AV→AS→Prop}(h:ad P f args σ No g) (j:∀r d,g r d→i r d):ag P (.sc (.func (.func f) #[] #[])) args σ K i:= .of h (fun _ _ h=>h.elim) j
theorem j2 {g d:Prop}(h0:g) (h1:d):g∧d:=⟨h0,h1⟩
theorem j3 {h g d:Prop}(h0:h) (h1:g) (i:d):h∧g∧d:=⟨h0,h1,i⟩
theorem j4 {i h g d:Prop}(h0:i) (h1:h) (l:g) (j:d):i∧h∧g∧d:=⟨h0,h1,l,j⟩
theorem j5 {j i h g d:Prop}(h0:j) (h1:i) (q:h) (o:g) (l:d):j∧i∧h∧g∧d:=⟨h0,h1,q,o,l⟩
theorem j6 {l j i h g d:Prop}(h0:l) (h1:j) (v:i) (u:h) (q:g) (o:d):l∧j∧i∧h∧g∧d:=⟨h0,h1,v,u,q,o⟩
theorem j7 {o l j i h g d:Prop}(h0:o) (h1:l) (E:j) (y:i) (v:h) (u:g) (q:d):o∧l∧j∧i∧h∧g∧d:=⟨h0,h1,E,y,v,u,q⟩
theorem j8 {q o l j i h g d:Prop}(h0:q) (h1:o) (I:l) (F:j) (E:i) (y:h) (v:g) (u:d):q∧o∧l∧j∧i∧h∧g∧d:=⟨h0,h1,I,F,E,y,v,u⟩
theorem pk {C F G:Prop}(c:C) (f:F) (h:C→F→G:=by
 intro c f;first
  |exact c .. |(apply c<;>simp-implicitDefEqProofs [f];done)
  |exact c.1 .. |(apply c.1<;>simp-implicitDefEqProofs [f];done)
  |exact c.2 .. |(apply c.2<;>simp-implicitDefEqProofs [f];done)
  |exact c.2.1 .. |(apply c.2.1<;>simp-implicitDefEqProofs [f];done)
  |exact c.2.2 .. |(apply c.2.2<;>simp-implicitDefEqProofs [f];done)
  |exact c.2.2.1 .. |(apply c.2.2.1<;>simp-implicitDefEqProofs [f];done)
  |exact c.2.2.2 .. |(apply c.2.2.2<;>simp-implicitDefEqProofs [f];done)
  |exact c.2.2.2.1 .. |(apply c.2.2.2.1<;>simp-implicitDefEqProofs [f];done)
  |exact c.2.2.2.2 .. |(apply c.2.2.2.2<;>simp-implicitDefEqProofs [f];done)
  |exact c.2.2.2.2.1 .. |(apply c.2.2.2.2.1<;>simp-implicitDefEqProofs [f];done)
  |exact c.2.2.2.2.2 .. |(apply c.2.2.2.2.2<;>simp-implicitDefEqProofs [f];done)
  |exact c.2.2.2.2.2.1 .. |(apply c.2.2.2.2.2.1<;>simp-implicitDefEqProofs [f];done)
  |exact c.2.2.2.2.2.2 .. |(apply c.2.2.2.2.2.2<;>simp-implicitDefEqProofs [f];done)):G:=h c f
theorem gE {L:List (Nat×bW)}{F g C G:Prop}[y:Sy F g] (d:∀S,bH P L S) (f:F) (c:C) (S:List Nat:= []) (h:bH P L S→F∧g→C→G:=by
 intro d f c;repeat (first
  |(with_reducible first|apply aq.seq|apply aq.block|refine And.intro (by first|omega|assumption|decide) ?_)
  |((first
     |(with_reducible apply aq.fork)
     |((with_reducible apply aq.Ac d);rfl)
     |(with_reducible first|show cJ _ _ _ |show bx _ _ _ _ _ _ _ _ _)
     |((with_reducible apply aq.K3 d);rfl;rfl;kernel_rfl;kernel_rfl;(repeat (with_reducible first|apply bo.then|apply bo.block|apply bo.body|apply bo.no)))
     |((with_reducible apply ag.id);first|refine ag.ay (pk c f) ?_ |refine ag.yo (pk c f) ?_ |refine ag.V7 (pk c f) ?_ |refine ag.O9 (pk c f) ?_)
     |((with_reducible apply aD.id);refine aD.ay (fun _ =>pk c f) ?_)
     );simp-implicitDefEqProofs [f])
  |((with_reducible first|apply aq.ret|apply aq.skip|apply aq.exit);try simp-implicitDefEqProofs [f]))
 all_goals fail):G:=h (d S) ⟨f,y.out f⟩ c
theorem gO {L:List (Nat×bW)}{F g C G R:Prop}[y:Sy F g] (d:∀S,bH P L S) (f:F) (c:C) (k:R) (S:List Nat:= []) (h:bH P L S→F∧g→C→LG R→G:=by
 intro d f c k;repeat (first
  |(with_reducible first|apply aq.seq|apply aq.block|refine And.intro (by first|omega|assumption|decide) ?_)
  |((first
     |(with_reducible apply aq.fork)
     |((with_reducible apply aq.Ac d);rfl)
     |(with_reducible first|show cJ _ _ _ |show bx _ _ _ _ _ _ _ _ _)
     |((with_reducible apply aq.K3 d);rfl;rfl;kernel_rfl;kernel_rfl;(repeat (with_reducible first|apply bo.then|apply bo.block|apply bo.body|apply bo.no)))
     |((with_reducible apply ag.id);first|refine ag.ay (pk c f) ?_ |refine ag.yo (pk c f) ?_ |refine ag.V7 (pk c f) ?_ |refine ag.O9 (pk c f) ?_)
     |((with_reducible apply aD.id);refine aD.ay (fun _ =>pk c f) ?_)
     );simp-implicitDefEqProofs [f])
  |((with_reducible first|apply aq.ret|apply aq.skip|apply aq.exit);try simp-implicitDefEqProofs [f]))
 exact k.out):G:=h (d S) ⟨f,y.out f⟩ c ⟨k⟩
theorem uK {L:List (Nat×bW)}{S:List Nat}{W g F i C G R:Prop}[z:Sy W g] [y:Sy F i] (d:bH P L S) (w:W) (f:F) (c:C) (h:bH P L S→W∧g→F∧i→C→LG R→G:=by
 intro d w f c k;repeat (first
  |(with_reducible first|apply aq.seq|apply aq.block|refine And.intro (by first|omega|assumption|decide) ?_)
  |((first
     |(with_reducible apply aq.fork)
     |((with_reducible apply aq.Ac d);rfl)
     |(with_reducible first|show cJ _ _ _ |show bx _ _ _ _ _ _ _ _ _)
     |((with_reducible apply aq.K3 d);rfl;rfl;kernel_rfl;kernel_rfl;(repeat (with_reducible first|apply bo.then|apply bo.block|apply bo.body|apply bo.no)))
     |((with_reducible apply ag.id);first|refine ag.ay (pk c f) ?_ |refine ag.yo (pk c f) ?_ |refine ag.V7 (pk c f) ?_ |refine ag.O9 (pk c f) ?_)
     |((with_reducible apply aD.id);refine aD.ay (fun _ =>pk c f) ?_)
     );simp-implicitDefEqProofs [↓w,f])
  |((with_reducible first|apply aq.ret|apply aq.skip|apply aq.exit);try simp-implicitDefEqProofs [↓w,f]))
 all_goals exact k.out) (k:R):G:=h d ⟨w,z.out w⟩ ⟨f,y.out f⟩ c ⟨k⟩
theorem gF {F G:Prop}(f:F) (h:F→G:=by
 intro f
 (try dsimp only);(try simp only[cons_append,nil_append]);repeat (first|exact aN.nil|refine aN.cons (by first|(simp-implicitDefEqProofs [f];done)|exact Wk.of (by(try simp-implicitDefEqProofs [f])<;>rfl)) ?_)):G:=h f
theorem gT {G:Prop}(h:G:=by
 (try dsimp only);first|exact AS.le_refl _ |assumption|(repeat (first|exact AS.le_refl _ |assumption|refine an (by simp[*]) ?_))):G:=h
theorem gL {F G:Prop}(f:F) (h:F→G:=by
 intro f;first
  |exact AS.le_refl _
  |((repeat (first|exact AS.le_refl _ |assumption|refine an (by simp[*]) ?_));done)
  |(refine ff ?_;simp_all [kT];done)
  |(refine DD ?_;rw[Bool.eq_iff_iff];simp[*];omega)
  |(refine ff ?_;simp[*];omega)
  |(refine ff ?_;split<;>simp_all [kT];done)
  |(exfalso;omega)):G:=h f
theorem aK {α:Sort _}{a b:α}(h:¬a=b):¬b=a:=fun e=>h e.symm
theorem nq {σ τ:AS}{a b c d:Nat}{x y:Option bP}(A:σ c=x) (B:τ d=y) (h:σ c=x→τ d=y→ ¬a=b:=by intro zzA zzB;rintro rfl;rw[zzA]at zzB;cases zzB):¬a=b:=h A B
theorem gK {F G:Prop}(f:F) (j y:Nat) (k:¬j=y→G) (h:F→j=y→G:=by intro zzf zze;subst zze;intro zzh;simp[AS.set,zzf]at zzh⊢;(try first|exact zzh|(cases zzh;done))):G:=(Decidable.em (j=y)).elim (h f) k
theorem ad.ob {f:FuncId}{fn:Func}{c:Code}{args:List AV}{R d:AV→AS→Prop}(hf:P.funcs[f]? =some fn) (h:aq P fn.ntmps [] c (uR P fn.results.toList R d) (ss args) σ)
 (i:fn.body=some c:=by rfl) (g:(fn.name== "runtime.NumGoroutine")=false:=by rfl) (ha:Nat.ble args.length fn.ntmps=true:=by rfl):ad P f args σ R d:= .vt hf i g (Nat.le_of_ble_eq_true ha) h
theorem JM (S:AS) {i:Nat}(x:bP) (l:S i=none):∃B:AS,S.set i x=B∧B i=some x∧(∀j,j≠i→B j=S j)∧(∀g:AS,(∀j,j≠i→ ∀y,B j=some y→g j=some y)→AS.le S g):=by
 refine⟨_,rfl,by simp,fun j e=>by simp[AS.set,e],fun g h j x d=> ?_⟩;have e:j≠i:=by rintro rfl;rw[l]at d;cases d
 exact h j e x (by simp[AS.set,e,d])
theorem FP (S:AS) {i k:Nat}(x z:bP) (q:S i=none) (o:S k=none) (n:¬i=k):∃B:AS,(S.set i x).set k z=B∧B i=some x∧B k=some z∧(∀j,j≠i→j≠k→B j=S j)∧(∀l:AS,(∀j,j≠i→j≠k→ ∀y,B j=some y→l j=some y)→AS.le S l):=by
 refine⟨_,rfl,by simp[n],by simp,fun j e g=>by simp[AS.set,e,g],fun l h j x d=> ?_⟩;have e:j≠i:=by rintro rfl;rw[q]at d;cases d
 have g:j≠k:=by rintro rfl;rw[o]at d;cases d
 exact h j e g x (by simp[AS.set,e,g,d])
theorem OG (S:AS) {i k l:Nat}(x z w:bP) (v:S i=none) (u:S k=none) (hl:S l=none) (n:¬i=k) (n1:¬i=l) (n2:¬k=l):∃B:AS,((S.set i x).set k z).set l w=B∧B i=some x∧B k=some z∧B l=some w∧(∀j,j≠i→j≠k→j≠l→B j=S j)∧(∀q:AS,(∀j,j≠i→j≠k→j≠l→ ∀y,B j=some y→q j=some y)→AS.le S q):=by
 refine⟨_,rfl,by simp[n,n1],by simp[n2],by simp,fun j e o g=>by simp[AS.set,e,o,g],fun q h j x d=> ?_⟩;have e:j≠i:=by rintro rfl;rw[v]at d;cases d
 have o:j≠k:=by rintro rfl;rw[u]at d;cases d
 have g:j≠l:=by rintro rfl;rw[hl]at d;cases d
 exact h j e o g x (by simp[AS.set,e,o,g,d])
theorem tI:True:=trivial
theorem lR (σ:AS):AS.le σ σ:=AS.le_refl σ
theorem eZ {α:Type} :(∀(a:α) (l m:List α),a::l++m=a::(l++m))∧ ∀l:List α,[]++l=l:=⟨fun _ _ _ =>rfl,fun _ =>rfl⟩
theorem g1 {G R:Prop}(k:R) (h:LG R→G:=by
 intro k
 (with_reducible first|apply aq.seq|apply aq.block|refine And.intro (by first|omega|assumption|decide) ?_)
 exact k.out):G:=h ⟨k⟩
theorem g2 {G R:Prop}(k:R) (h:LG R→G:=by
 intro k
 (with_reducible first|apply aq.fork|apply aq.region|show cJ _ _ _ |show bx _ _ _ _ _ _ _ _ _)
 exact k.out):G:=h ⟨k⟩
theorem g3 {G R:Prop}(k:R) (h:LG R→G:=by
 intro k
 (with_reducible first|apply aq.ret|apply aq.skip|apply aq.exit)
 exact k.out):G:=h ⟨k⟩
def O5 (P:Program) (n:Nat) (ds:List Deferred) (id:Nat) (l:List Oper) (t:bW) (Q:AQ) (s:Fr) (σ:AS):Prop:=aq P n ds (.region id l.toArray true) Q s σ
theorem dX (id:Nat) (t:bW) {l:List Oper}(h:O5 P n ds id l t Q s σ):aq P n ds (.region id l.toArray true) Q s σ:=h
theorem dY {id:Nat}{l:List Oper}{t:bW}(hm:P.follows .mixedOrders=true) (h:bu P n l.toArray false Q t s σ)
 (g:bo Q:=by repeat (with_reducible first|apply bo.then|apply bo.block|apply bo.body|apply bo.no))
 (d:dh l.toArray false true (Array.replicate l.length false) t=true:=by kernel_rfl) (hd:decide (t.depth≤l.length)=true:=by kernel_rfl):O5 P n ds id l t Q s σ:=aq.iL hm t d hd g h
theorem gJ {F G:Prop}(f:F) (h:F→G:=by
 intro f
 repeat' (with_reducible apply And.intro)
 all_goals exact gL f):G:=h f
theorem gM {G:Prop}(h:G:=by(try dsimp only);omega):G:=h
theorem gB {P:Program}{α:Type}{m:α→Nat}{I:α→Prop}{c:List (Nat×AV)}{v:α→List (Nat×AV)}{st:α→AS}{a:α}{h:Fr}{g:AS}(d:α)
 (j:AS.le (st d) g) (i:I d) (h1:m d<m a:=by(try dsimp only);omega) (l:aN P h (iO (c++v d)):=by exact gF trivial):jC P m I c v st a h g:=⟨d,h1,i,l,j⟩
end Go.AW
namespace Go.AW
variable {P:Program}
def kc (D:List Nat) (Q:AQ):Prop:= ∀d∈D,∀p s v σ,Q (.panic p) (s.put (some d) v) σ→Q (.panic p) s σ
def kc.then {D:List Nat}{K:Fr→AS→Prop}{Q:AQ}(h:kc D Q):kc D (dF K Q):=h
def kc.block {D:List Nat}{i:Nat}{Q:AQ}(h:kc D Q):kc D (kz i Q):=h
def yK:ResultVar→Nat
 |.tmp t=>t
 |.cell a _ =>a
def s9 {d:Nat}{v:AV}{s:Fr}{σ:AS} :∀ {rs:List ResultVar}{K:List AV→Prop},(rs.all fun r=>yK r !=d)=true→(dV rs P (s.put (some d) v) σ K↔dV rs P s σ K)
 |[],K,_ =>Iff.rfl
 |.tmp t::r,K,h=>by
  obtain⟨h1,i⟩:t≠d∧(r.all fun r=>yK r !=d)=true:=by simpa[yK]using h
  simp only[dV];rw[s9 i];simp[Fr.put,h1]
 |.cell a t::r,K,h=>by
  obtain⟨h1,i⟩:a≠d∧(r.all fun r=>yK r !=d)=true:=by simpa[yK]using h
  simp only[dV];have j:(s.put (some d) v) a=s a:=by simp[Fr.put,h1]
  rw[j];have:(fun g=>dV r P (s.put (some d) v) σ fun vs=>K (g::vs))=fun g=>dV r P s σ fun vs=>K (g::vs):=by funext g;exact propext (s9 i)
  rw[this]
def kc.zs {D:List Nat}{rs:List ResultVar}{f:FuncId}{i:List AV}{R o:AV→AS→Prop}(h:(D.all fun d=>rs.all fun r=>yK r !=d)=true):kc D (xI P rs f i R o):=by
 intro d hd p s v σ j;have l:=all_eq_true.1 h d hd;have:(fun g=>dV rs P (s.put (some d) v) g fun vs=>Ends P R g (eE vs))=fun g=>dV rs P s g fun vs=>Ends P R g (eE vs):=by funext g;exact propext (s9 l)
 simp only[Lc]at j⊢;rwa [this]at j
def To (l:List Oper):List Nat:=l.filterMap (·.dst)
def aq.ub {n:Nat}{ds:List Deferred}{id:Nat}{l:List Oper}{Q:AQ}{s:Fr}{σ:AS}(hm:P.follows .mixedOrders=true) (t:bW)
 (j:dh l.toArray false true (Array.replicate l.length false) t=true) (hd:decide (t.depth≤l.length)=true)
 (u:kc (To l) Q) (h:bu P n l.toArray false Q t s σ):aq P n ds (.region id l.toArray true) Q s σ:=
 aq.OT hm false t (by simp) j hd (fun o q p s v σ i=>by
  cases g:o.dst with
  |none=>rw[g]at i;exact i
  |some d=>rw[g]at i;exact u d (mem_filterMap.2 ⟨o,q,g⟩) p s v σ i) h
end Go.AW
namespace Go.AW
variable {P:Program} {n:Nat} {ds:List Deferred} {Q:AQ} {s:Fr} {σ:AS}
def iG (d:List (Int×AV)):List (AV×AV):=d.map fun p=>(.sc (.int .i64 p.1),p.2)
def pc (k:Int):List (Int×AV)→Option AV
 |[]=>none
 |(k',v)::r=>if k=k' then some v else pc k r
def yf (k:Int) (v:AV):List (Int×AV)→List (Int×AV)
 |[]=> [(k,v)]
 |(k',d)::r=>if k=k' then(k,v)::r else(k',d)::yf k v r
def U2 (k:Int):(k==k)=true:=by simp
def OZ {a b:Int}(h:a≠b):(a==b)=false:=by simpa using h
def uN (k:Int) (v:AV):∀(d:List (Int×AV)) (ms:List MapEntry) (i:Nat),ms.length=d.length→(∀(j:Nat) (m:MapEntry),ms[j]? =some m→ ∃p:Int×AV,d[j]? =some p∧m.key= .int .i64 p.1)→
 (pc k d=none∧Instr.findNow (.int .i64) (.int .i64 k) ms i=some none∧yf k v d=d++ [(k,v)])∨
 (∃(j:Nat) (p:Int×AV) (m:MapEntry),d[j]? =some p∧ms[j]? =some m∧p.1=k∧pc k d=some p.2∧Instr.findNow (.int .i64) (.int .i64 k) ms i=some (some (i+j,m.val))∧yf k v d=d.set j (k,v)):=by
 intro d;induction d with
 |nil=>intro ms i hl _;have:ms= []:=length_eq_zero_iff.1 (by simpa using hl);subst this;exact .inl ⟨rfl,rfl,rfl⟩
 |cons p r F=>
  intro ms i hl y;cases ms with
  |nil=>simp at hl
  |cons m ms=>
   obtain⟨E,l,g⟩:=y 0 m rfl;obtain rfl:p=E:=by simpa using l
   by_cases he:k=p.1
   ·right;refine⟨0,p,m,rfl,rfl,he.symm,by simp[pc,he],?_,by simp[yf,he]⟩;simp[Instr.findNow,g,Instr.sameNow,he]
   ·rcases F ms (i+1) (by simpa using hl) (fun j h hm=>y (j+1) h (by simpa using hm))with⟨h1,u,o⟩|⟨j,q,h,h1,u,o,L,J,I⟩
    ·left;refine⟨by simp[pc,he,h1],?_,by simp[yf,he,o]⟩;have:(k==p.1)=false:=OZ he;simp[Instr.findNow,g,Instr.sameNow,this,u]
    ·right;refine⟨j+1,q,h,by simpa using h1,by simpa using u,o,by simp[pc,he,L],?_,by simp[yf,he,I]⟩;have:(k==p.1)=false:=OZ he;simp[Instr.findNow,g,Instr.sameNow,this,J];omega
def gm {t:TypeId}{w:World}{b:Bool}{k:Int}(ht:P.underlying t=some (.int .i64)):(Instr.checkKey b 10000 t (.int .i64 k)).run P w= .ok () w:=by
 have:∀m:Nat,(Instr.checkKey b (m+1) t (.int .i64 k)).run P w= .ok () w:=fun m=>by simp[Instr.checkKey,run_underlying ht,Sem.run_bind,Result.andThen]
 exact this 9999
def iA {t:TypeId}{w:World}{k:Int}{ms:List MapEntry}{r:Option (Nat×Value)}(ht:P.underlying t=some (.int .i64)) (h:Instr.findNow (.int .i64) (.int .i64 k) ms 0=some r):
 (Instr.findKey t (.int .i64 k) ms).run P w= .ok r w:=by
 simp[Instr.findKey,run_underlying ht,Sem.run_bind,Result.andThen,h]
theorem y4 {G:Gh}{w:World}{id:Nat}{d:List (Int×AV)}(o:Inv P G σ w) (l:σ id=some (.map (iG d))):
 ∃(b:Nat) (ms:Array MapEntry) (clock:Nat),G.inj id=some b∧w.heap[b]? =some (.map ms clock)∧(ms.size=d.length∧oR ms clock)∧(∀(j:Nat) (m:MapEntry),ms.toList[j]? =some m→ ∃p:Int×AV,d[j]? =some p∧m.key= .int .i64 p.1∧aV P G p.2 m.val):=by
 obtain⟨b,ms,clock,h1,u,⟨v,g⟩,q⟩:=o.maps id _ l;have hlen:(iG d).length=d.length:=by simp[iG]
 refine⟨b,ms,clock,h1,u,⟨by omega,g⟩,fun j m hm=> ?_⟩;have h:j<d.length:=by have:=(List.getElem?_eq_some_iff.1 hm).1;simp at this;omega
 obtain⟨i,g1,g2,g3⟩:=q j (by omega);rw[Array.getElem?_toList,g1]at hm;obtain rfl:=Option.some.inj hm;refine⟨d[j],List.getElem?_eq_getElem h,?_,?_⟩
 ·have e:((iG d).getD j (.any,.any)).1= .sc (.int .i64 d[j].1):=by simp[iG,h]
  rw[e]at g2;generalize i.key=x at g2;cases g2;rfl
 ·have e:((iG d).getD j (.any,.any)).2=d[j].2:=by simp[iG,h]
  rwa [e]at g3
def Cu {G:Gh}{w:World}{K Pn:AV→AS→Prop}(q:Inv P G σ w) {t O J:TypeId}{x T:Value}{ok:Bool}{id:Nat}{k:Int}{l:List (Int×AV)}
 (hm:P.underlying t=some (.map O J)) (u:P.underlying O=some (.int .i64)) (hz:(ax P J).laid=true) (hx:aV P G (.mp id) x) (F:aV P G (.sc (.int .i64 k)) T) (hσ:σ id=some (.map (iG l)))
 (h:K (pM P J (pc k l) ok) σ):Out P G K Pn (((do pure (Next.value (←Instr.lookup t x T ok))):Sem Next).run P w):=by
 obtain⟨b,ms,clock,h1,Y,⟨h3,al⟩,X⟩:=y4 q hσ;cases F;cases hx with
 |mp V=>
  rw[h1]at V;obtain rfl:=Option.some.inj V;obtain⟨it,z,I,E,o⟩:=dq hz;have g:∀(a:AV) (v:Value) (y:Bool),aV P G a v→aV P G (.bI [a,.sc (.bool y)]) (.tuple #[v,.bool y]):=by
   intro a v y ha;refine .bI [v,.bool y] rfl fun i q=> ?_
   match i,q with
   |0,_ =>exact ha
   |1,_ =>exact .sc _
  rcases uN k .any l ms.toList 0 (by simpa using h3) (fun j m hm=>let ⟨p,a,b,_⟩:=X j m hm;⟨p,a,b⟩)with⟨g1,g2,_⟩|⟨j,p,m,g1,g2,g3,g4,g5,_⟩
  ·have d:(Instr.lookup t (.map (some b)) (.int .i64 k) ok).run P w= .ok (if ok then .tuple #[z,.bool false]else z) w:=by simp only[Instr.lookup,Sem.run_bind,run_underlying hm,Result.andThen_ok,MapKept.run_getObj_map Y,Sem.run_pure,gm u,iA u g2,zeroValue,run_typeInfo w I,E]
   refine Out.value d (.refl G) q ?_ h;rw[g1];unfold pM;cases ok
   ·rw[Option.getD_none,o];exact gn z
   ·exact g _ _ _ (by rw[Option.getD_none,o];exact gn z)
  ·have d:(Instr.lookup t (.map (some b)) (.int .i64 k) ok).run P w= .ok (if ok then .tuple #[m.val,.bool true]else m.val) w:=by simp only[Instr.lookup,Sem.run_bind,run_underlying hm,Result.andThen_ok,MapKept.run_getObj_map Y,Sem.run_pure,gm u,iA u g5]
   refine Out.value d (.refl G) q ?_ h;obtain⟨p',M,_,L⟩:=X j m g2;rw[g1]at M;obtain rfl:=Option.some.inj M;rw[g4];unfold pM;cases ok
   ·exact L
   ·exact g _ _ _ L
def ia.Nb {d t u q:Nat}{x j:Operand}{ok:Bool}{ty:TypeId}{pos:String}{L:Array Edge}{g:Option (Nat×Bool)}{K:Fr→AS→Prop}(hd:d<n) (id:Nat) (k:Int) (i:List (Int×AV))
 (hm:P.underlying t=some (.map u q)) (J:P.underlying u=some (.int .i64)) (F:(ax P q).laid=true) (I:ev s x= .mp id) (o:ev s j= .sc (.int .i64 k)) (E:σ id=some (.map (iG i)))
 (h:K (s.put (some d) (pM P q (pc k i) ok)) σ):ia P n ds Q ⟨some d,.lookup t x j ok,ty,pos,L,g⟩ s σ K:=
 ia.mZ hd fun G a w l=>Cu (K:=fun v y=>K (s.put (some d) v) y) l.inv hm J F (I ▸ l.ev x) (o ▸ l.ev j) E h
theorem wU {G:Gh}{w:World}{K Pn:AV→AS→Prop}(hi:Inv P G σ w) {t kt et:TypeId}{x ix E:Value}{v:AV}{id:Nat}{k:Int}{d:List (Int×AV)}
 (hm:P.underlying t=some (.map kt et)) (O:P.underlying kt=some (.int .i64)) (hx:aV P G (.mp id) x) (ab:aV P G (.sc (.int .i64 k)) ix) (hv:aV P G v E) (hσ:σ id=some (.map (iG d)))
 (h:K .any (σ.set id (.map (iG (yf k v d))))):Out P G K Pn (((do Instr.mapUpdate t x ix E;pure Next.skip):Sem Next).run P w):=by
 obtain⟨b,ms,clock,h1,I,⟨V,J⟩,T⟩:=y4 hi hσ;cases ab;cases hx with
 |mp hb=>
  rw[h1]at hb;obtain rfl:=Option.some.inj hb;have eT:∀(l:List (Int×AV)) (j:Nat) (p:Int×AV),l[j]? =some p→(iG l).getD j (.any,.any)=(.sc (.int .i64 p.1),p.2):=by intro l j p hp;simp[iG,hp]
  have y:∀l,(iG l).length=l.length:=by intro l;simp[iG]
  rcases uN k v d ms.toList 0 (by simpa using V) (fun j m hm=>let ⟨p,a,b,_⟩:=T j m hm;⟨p,a,b⟩)with⟨g1,g2,g6⟩|⟨j,p,m,g1,g2,g3,g4,g5,g6⟩
  ·have o:(Instr.mapUpdate t (.map (some b)) (.int .i64 k) E).run P w= .ok () { w with heap:=w.heap.setIfInBounds b (.map (ms.push { key:= .int .i64 k,val:=E,born:=clock }) (clock+1)) } :=by simp only[Instr.mapUpdate,Sem.run_bind,run_underlying hm,Result.andThen_ok,MapKept.run_getObj_map I,gm O,iA O g2,MapKept.run_setObj_map _ I]
   rw[g6]at h;refine Out.unit o (.refl G) (hi.z5 h1 I _ _ (iG (d++ [(k,v)])) (by simp[y,V]) (uv J) (za ms clock _ rfl) (fun i g=> ?_)) (.any _) h;rw[y]at g;simp at g;by_cases Y:i<d.length
   ·have u:i<ms.size:=by omega
    obtain⟨p,M,X,q3⟩:=T i ms[i] (by simp[u]);refine⟨ms[i],by simp[Array.getElem?_push,u];omega,?_⟩;rw[eT _ i p (by rw[List.getElem?_append_left Y];exact M),X];exact⟨.sc _,q3⟩
   ·have he:i=d.length:=by omega
    subst he;refine⟨{ key:= .int .i64 k,val:=E,born:=clock },by rw[←V];simp,?_⟩;rw[eT _ d.length (k,v) (by simp)];exact⟨.sc _,hv⟩
  ·have a7:j<ms.size:=by have:=(List.getElem?_eq_some_iff.1 g2).1;simpa using this
   have hold:ms[j]? =some m:=by rw[←Array.getElem?_toList];exact g2
   obtain⟨p',M,X,q3⟩:=T j m g2;rw[g1]at M;obtain rfl:=Option.some.inj M;have L:(Instr.keyThatStays m.key (.int .i64 k)).run P w= .ok (.int .i64 k) w:=by
    have:∀q:Nat,Instr.sameBits q (.int .i64 k) (.int .i64 k)=true:=fun q=>by simp[Instr.sameBits]
    rw[X,g3];simp[Instr.keyThatStays,this]
   have o:(Instr.mapUpdate t (.map (some b)) (.int .i64 k) E).run P w= .ok () { w with heap:=w.heap.setIfInBounds b (.map (ms.modify j fun e=> { e with key:= .int .i64 k,val:=E }) clock) } :=by simp only[Instr.mapUpdate,Sem.run_bind,run_underlying hm,Result.andThen_ok,MapKept.run_getObj_map I,gm O,iA O g5,Nat.zero_add,hold,Option.map_some,Option.getD_some,L,MapKept.run_setObj_map _ I]
   rw[g6]at h;refine Out.unit o (.refl G) (hi.z5 h1 I _ _ (iG (d.set j (k,v))) (by simp[y,V]) (qZ J j _ (fun _ =>rfl)) (uJ ms clock j _ (fun _ =>rfl)) (fun i g=> ?_)) (.any _) h;rw[y]at g;simp at g;have u:i<ms.size:=by omega
   by_cases F:i=j
   ·subst F;refine⟨{ m with key:= .int .i64 k,val:=E },by simp[Array.getElem?_modify,hold],?_⟩;rw[eT _ i (k,v) (by simp[g])];exact⟨.sc _,hv⟩
   ·obtain⟨p2,r1,r2,r3⟩:=T i ms[i] (by simp[u]);refine⟨ms[i],by rw[Array.getElem?_modify,if_neg (fun e=>F e.symm)];exact Array.getElem?_eq_getElem u,?_⟩;rw[eT _ i p2 (by rw[List.getElem?_set_ne (fun e=>F e.symm)];exact r1),r2];exact⟨.sc _,r3⟩
def ia.Ef {t o F:Nat}{m x j:Operand}{ty:TypeId}{pos:String}{I:Array Edge}{g:Option (Nat×Bool)}{K:Fr→AS→Prop}(id:Nat) (k:Int) (d:List (Int×AV))
 (hm:P.underlying t=some (.map o F)) (E:P.underlying o=some (.int .i64)) (y:ev s m= .mp id) (l:ev s j= .sc (.int .i64 k)) (u:σ id=some (.map (iG d)))
 (h:K s (σ.set id (.map (iG (yf k (ev s x) d))))):ia P n ds Q ⟨none,.mapUpdate t m j x,ty,pos,I,g⟩ s σ K:=
 ia.mZ trivial fun G a w i=>wU (K:=fun v q=>K (s.put none v) q) i.inv hm E (y ▸ i.ev m) (l ▸ i.ev j) (i.ev x) u h
end Go.AW
