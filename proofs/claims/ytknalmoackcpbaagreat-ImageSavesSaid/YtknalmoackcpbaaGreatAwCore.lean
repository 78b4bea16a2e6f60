/- A layer of abstract values over the model's machine: own work for this claim, part AwCore. -/
import Derived.WalkKit
import Derived.Deep.AppendSrc
import Derived.Defers
import Derived.Laws.StructEq
set_option linter.all false
open Go Go.RowKit
namespace Go.AW
inductive cA where
 |aJ|full|tok (t:Nat)
inductive AV where
 |any
 |sc (v:Value)
 |ptr (id off:Nat)
 |g0 (cells:List AV)
 |aC
 |ah (e:TypeId) (elems:List AV) (own:cA) (nil:Bool)
 |dg (id off len cap:Nat)
 |mp (id:Nat)
 |fn (f:Fn) (first captured:List AV)
 |lq (t:TypeId) (v:AV)
 |agg (cells:List AV)
 |cp (vs:List AV)
def AV.cells:AV→List AV
 |.agg cs=>cs
 |v=> [v]
def AV.Dv:AV→Bool
 |.any|.cp _ =>false
 |.sc (.agg _)|.sc (.tuple _)=>false
 | _ =>true
def AV.one:AV→Bool
 |.any|.cp _ |.agg _ =>false
 |.sc (.agg _)|.sc (.tuple _)=>false
 | _ =>true
inductive cL where
 |cells (ty:TypeId) (cs:List AV)
 |tok (len:Nat)
 |map (es:List (AV×AV))
 |gA (s:ByteArray) (pos:Nat)
 |jd (b9 n0:Nat) (done:List Nat)
def cL.Ch:cL→Bool
 |.gA _ _ |.jd _ _ _ =>true
 | _ =>false
abbrev AS:=Nat→Option cL
def AS.set (σ:AS) (i:Nat) (b:cL):AS:=fun j=>if j=i then some b else σ j
def AS.le (σ0 σ:AS):Prop:= ∀i b,σ0 i=some b→σ i=some b
theorem AS.le_refl (σ:AS):AS.le σ σ:=fun _ _ h=>h
theorem AS.le_trans {a b c:AS}(h:AS.le a b) (k:AS.le b c):AS.le a c:=fun i x e=>k i x (h i x e)
theorem AS.ao {σ0 σ:AS}{i:Nat}{b:cL}(h:AS.le σ0 σ) (n:σ0 i=none):AS.le σ0 (σ.set i b):=by
 intro j x e;by_cases l:j=i
 ·subst l;rw[n]at e;cases e
 ·simp only[AS.set,l,if_false];exact h j x e
@[simp] theorem AS.aD (σ:AS) (i:Nat) (b:cL):(σ.set i b) i=some b:=by simp[AS.set]
theorem AS.ag (σ:AS) {i j:Nat}(b:cL) (h:j≠i):(σ.set i b) j=σ j:=by simp[AS.set,h]
@[simp] theorem AS.set_set (σ:AS) (i:Nat) (b c:cL):(σ.set i b).set i c=σ.set i c:=by funext j;by_cases h:j=i<;>simp[AS.set,h]
theorem AS.uB (σ:AS) (i:Nat) (b:cL) (h:σ i=some b):σ.set i b=σ:=by
 funext j;by_cases e:j=i
 ·subst e;simp[AS.set,h]
 ·simp[AS.set,e]
structure OR where
 a:Option (Nat×Nat)
 len:Nat
 cap:Nat
 iv:TypeId
def OR.val (r:OR):Value:= .slice (r.a.map fun p=>⟨p.1,p.2,none⟩) r.len r.cap
structure Gh where
 W0:World
 B:Nat
 mem:Nat→Nat→Option Value
 inj:Nat→Option Nat
 own:Nat→Option OR
 top:Nat
structure Gh.Le (G G':Gh):Prop where
 W0:G'.W0=G.W0
 B:G'.B=G.B
 mem:∀b o v,G.mem b o=some v→G'.mem b o=some v
 inj:∀i b,G.inj i=some b→G'.inj i=some b
 own:∀t r,G.own t=some r→ ∃r',G'.own t=some r'∧r'.iv=r.iv∧(r'=r∨r.len<r'.len)
theorem Gh.Le.refl (G:Gh):G.Le G:=⟨rfl,rfl,fun _ _ _ h=>h,fun _ _ h=>h,fun _ r h=>⟨r,h,rfl,.inl rfl⟩⟩
theorem Gh.Le.trans {A B C:Gh}(h:A.Le B) (k:B.Le C):A.Le C where
 W0:=k.W0.trans h.W0
 B:=k.B.trans h.B
 mem b o v e:=k.mem b o v (h.mem b o v e)
 inj i b e:=k.inj i b (h.inj i b e)
 own t r e:=by
  obtain⟨q,h1,y,l⟩:=h.own t r e;obtain⟨n,k1,u,j⟩:=k.own t q h1;refine⟨n,k1,u.trans y,?_⟩;rcases l with rfl|l
  ·exact j
  ·rcases j with rfl|j
   ·exact .inr l
   ·exact .inr (Nat.lt_trans l j)
def vV (G:Gh) (own:cA) (e:TypeId) (n:Nat) (v:Value):Prop:=
 match own with
 |.aJ=>True
 |.full=> ∃a,v= .slice a n n
 |.tok t=> ∃r,G.own t=some r∧r.iv=e∧n≤r.len∧(n=r.len→r.val=v)
theorem vV.mono {G G':Gh}(hle:G.Le G') {own:cA}{e:TypeId}{n:Nat}{v:Value}(h:vV G own e n v):vV G' own e n v:=by
 cases own with
 |aJ=>trivial
 |full=>exact h
 |tok t=>
  obtain⟨r,h1,o,y,u⟩:=h;obtain⟨j,k1,q,l⟩:=hle.own t r h1;rcases l with rfl|l
  ·exact⟨j,k1,o,y,u⟩
  ·exact⟨j,k1,q.trans o,by omega,by omega⟩
inductive aU (P:Program) (G:Gh):AV→Value→Prop
 |any (v:Value):aU P G .any v
 |sc (v:Value):aU P G (.sc v) v
 |ptr {id off b:Nat} (h:G.inj id=some b):aU P G (.ptr id off) (.pointer (some ⟨b,off,none⟩))
 |g0 {cells:List AV} {b off:Nat} (vs:Nat→Value) (hm:∀i,i<cells.length→G.mem b (off+i)=some (vs i))
  (hr:∀i,i<cells.length→aU P G (cells.getD i .any) (vs i)):aU P G (.g0 cells) (.pointer (some ⟨b,off,none⟩))
 |aC:aU P G .aC (.slice none 0 0)
 |jw {e:TypeId} {own:cA} (ho:vV G own e 0 (.slice none 0 0)):aU P G (.ah e [] own true) (.slice none 0 0)
 |ah {e:TypeId} {elems:List AV} {own:cA} {b off cap:Nat} (vs:Nat→Value)
  (hl:∀i,i<elems.length→(elems.getD i .any).cells.length=P.cellsOf e)
  (hm:∀k,k<elems.length*P.cellsOf e→G.mem b (off+k)=some (vs k))
  (hr:∀i j,i<elems.length→j<P.cellsOf e→aU P G ((elems.getD i .any).cells.getD j .any) (vs (i*P.cellsOf e+j)))
  (hc:elems.length≤cap)
  (ho:vV G own e elems.length (.slice (some ⟨b,off,none⟩) elems.length cap)):
  aU P G (.ah e elems own false) (.slice (some ⟨b,off,none⟩) elems.length cap)
 |mZ {e:TypeId} {a:Addr} {cap:Nat} :aU P G (.ah e [] .aJ false) (.slice (some a) 0 cap)
 |dg {id off len cap b:Nat} (h:G.inj id=some b):aU P G (.dg id off len cap) (.slice (some ⟨b,off,none⟩) len cap)
 |mp {id b:Nat} (h:G.inj id=some b):aU P G (.mp id) (.map (some b))
 |fn {f:Fn} {first captured:List AV} (vf vc:List Value) (lf:vf.length=first.length) (lc:vc.length=captured.length)
  (hf:∀i,i<first.length→aU P G (first.getD i .any) (vf.getD i undef)) (hc:∀i,i<captured.length→aU P G (captured.getD i .any) (vc.getD i undef)):
  aU P G (.fn f first captured) (.func f vf.toArray vc.toArray)
 |lq {t:TypeId} {v:AV} {x:Value} (h:aU P G v x):aU P G (.lq t v) (.iface t x)
 |agg {cells:List AV} (vs:List Value) (l:vs.length=cells.length) (h:∀i,i<cells.length→aU P G (cells.getD i .any) (vs.getD i undef)):aU P G (.agg cells) (.agg vs.toArray)
 |cp {cells:List AV} (vs:List Value) (l:vs.length=cells.length) (h:∀i,i<cells.length→aU P G (cells.getD i .any) (vs.getD i undef)):aU P G (.cp cells) (.tuple vs.toArray)
theorem aU.mono {P:Program}{G G':Gh}(hle:G.Le G') {a:AV}{v:Value}(h:aU P G a v):aU P G' a v:=by
 induction h with
 |any v=>exact .any v
 |sc v=>exact .sc v
 |ptr h=>exact .ptr (hle.inj _ _ h)
 |g0 vs hm _ j=>exact .g0 vs (fun i A=>hle.mem _ _ _ (hm i A)) j
 |aC=>exact .aC
 |jw n=>exact .jw (n.mono hle)
 |ah vs hl hm _ D n j=>exact .ah vs hl (fun k y=>hle.mem _ _ _ (hm k y)) j D (n.mono hle)
 |mZ=>exact .mZ
 |dg h=>exact .dg (hle.inj _ _ h)
 |mp h=>exact .mp (hle.inj _ _ h)
 |fn o q u lc _ _ i1 i2=>exact .fn o q u lc i1 i2
 |lq _ j=>exact .lq j
 |agg vs l _ j=>exact .agg vs l j
 |cp vs l _ j=>exact .cp vs l j
def nu (ms:Array MapEntry) (clock:Nat):Prop:=
 (∀(k:Nat) (e:MapEntry),ms[k]? =some e→e.born<clock)∧(∀(k k':Nat) (e j:MapEntry),ms[k]? =some e→ms[k']? =some j→e.born=j.born→k=k')
def F3 (G:Gh) (w:World):cL→Nat→Prop
 |.gA s pos,b=>w.heap[b]? =some (.stringIter s pos)
 |.jd b9 j done,b=> ∃(m since:Nat) (seen:Array Nat) (last:Nat) (ms:Array MapEntry) (clock:Nat),w.heap[b]? =some (.mapIter (some m) since seen last)∧G.inj b9=some m∧w.heap[m]? =some (.map ms clock)∧
  j≤ms.size∧since≤last∧last≤clock∧nu ms clock∧(∀(k:Nat) (e:MapEntry),ms[k]? =some e→(k<j↔e.born<since))∧
  (∀(k:Nat) (e:MapEntry),ms[k]? =some e→k<j→(seen.contains e.born=true↔k∈done))∧(∀x∈seen,x<since)∧(seen.isEmpty=false→0<j)∧ms.size+last=j+clock∧
  (∀k,done.head?=some k→ ∃e:MapEntry,ms[k]? =some e∧seen.back?=some e.born)
 | _,_ =>True
theorem F3.jk {G G':Gh}{w w':World}{s:cL}{b:Nat}(h:F3 G w s b) (l:∀i b,G.inj i=some b→G'.inj i=some b) (j:∀o,w.heap[b]? =some o→w'.heap[b]? =some o)
 (hm:∀(m:Nat) (ms:Array MapEntry) (cl:Nat),w.heap[m]? =some (.map ms cl)→w'.heap[m]? =some (.map ms cl)):F3 G' w' s b:=by
 cases s with
 |gA s pos=>exact j _ h
 |jd b9 y done=>obtain⟨m,since,seen,last,ms,clock,h1,v,u,q⟩:=h;exact⟨m,since,seen,last,ms,clock,j _ h1,l _ _ v,hm _ _ _ u,q⟩
 |cells ty cs=>trivial
 |tok n=>trivial
 |map es=>trivial
structure Inv (P:Program) (G:Gh) (σ:AS) (w:World):Prop where
 below:Below G.B G.W0 w
 base:G.B≤G.W0.heap.size
 mem:∀b o v,G.mem b o=some v→w.cell? ⟨b,o,none⟩=some v∧v.oneCell'=true
 top:∀i,G.top≤i→G.inj i=none∧G.own i=none
 dj:∀i b,G.inj i=some b→G.B≤b∧b<w.heap.size∧(∀ty cs,σ i=some (.cells ty cs)→ ∀o,G.mem b o=none)
 eZ:∀i j b,G.inj i=some b→G.inj j=some b→i=j
 cells:∀i ty cs,σ i=some (.cells ty cs)→ ∃b vs,G.inj i=some b∧w.heap[b]? =some (.cells vs ty (0,0))∧vs.size=cs.length∧
  ∀k,k<cs.length→aU P G (cs.getD k .any) (vs.getD k undef)∧(vs.getD k undef).oneCell'=true
 maps:∀i es,σ i=some (.map es)→ ∃b ms clock,G.inj i=some b∧w.heap[b]? =some (.map ms clock)∧(ms.size=es.length∧nu ms clock)∧
  ∀k,k<es.length→ ∃m,ms[k]? =some m∧aU P G (es.getD k (.any,.any)).1 m.key∧aU P G (es.getD k (.any,.any)).2 m.val
 dQ:∀i (s:cL),s.Ch=true→σ i=some s→ ∃b,G.inj i=some b∧F3 G w s b
 tok:∀i n,σ i=some (.tok n)→ ∃r,G.own i=some r∧r.len=n
 own:∀t r,G.own t=some r→r.len≤r.cap∧(r.a=none→r.cap=0)∧ ∀b o,r.a=some (b,o)→ ∀k,r.len*P.cellsOf r.iv≤k→k<r.cap*P.cellsOf r.iv→
  (w.cell? ⟨b,o+k,none⟩).isSome=true∧w.frozen? ⟨b,o+k,none⟩=false∧G.mem b (o+k)=none∧(∀i,G.inj i≠some b)∧G.B≤b∧b<w.heap.size∧
  (∀t' r' o',t'≠t→G.own t'=some r'→r'.a=some (b,o')→r'.cap*P.cellsOf r'.iv≤r'.len*P.cellsOf r'.iv)
theorem Inv.weaken {P:Program}{G:Gh}{σ σ0:AS}{w:World}(h:Inv P G σ w) (hle:AS.le σ0 σ):Inv P G σ0 w where
 below:=h.below
 base:=h.base
 mem:=h.mem
 top:=h.top
 dj i b e:=⟨(h.dj i b e).1,(h.dj i b e).2.1,fun ty cs hn=>(h.dj i b e).2.2 ty cs (hle _ _ hn)⟩
 eZ:=h.eZ
 cells i ty cs e:=h.cells i ty cs (hle _ _ e)
 maps i es e:=h.maps i es (hle _ _ e)
 dQ i s p e:=h.dQ i s p (hle _ _ e)
 tok i n e:=h.tok i n (hle _ _ e)
 own:=h.own
theorem aU.cells {P:Program}{G:Gh}{a:AV}{v:Value}(h:aU P G a v) (o:a.Dv=true):
 v.cells.size=a.cells.length∧ ∀k,k<a.cells.length→aU P G (a.cells.getD k .any) (v.cells.getD k undef):=by
 have single:∀(a:AV) (v:Value),a.cells= [a]→v.cells= #[v]→aU P G a v→
  v.cells.size=a.cells.length∧ ∀k,k<a.cells.length→aU P G (a.cells.getD k .any) (v.cells.getD k undef):=by
  intro a v h1 F E;rw[h1,F];refine⟨rfl,fun k j=> ?_⟩;have:k=0:=by simp at j;exact j
  subst this;simpa using E
 cases h with
 |any v=>simp[AV.Dv]at o
 |sc v=>refine single _ _ rfl ?_ (.sc v);cases v<;>first|rfl|simp[AV.Dv]at o
 |agg vs l h=>refine⟨by simp[Value.cells,AV.cells,l],fun k j=> ?_⟩;have:=h k j;simpa[Value.cells,AV.cells]using this
 |cp vs l h=>simp[AV.Dv]at o
 |ptr h=>exact single _ _ rfl rfl (.ptr h)
 |g0 vs hm n=>exact single _ _ rfl rfl (.g0 vs hm n)
 |aC=>exact single _ _ rfl rfl .aC
 |jw h=>exact single _ _ rfl rfl (.jw h)
 |ah vs hl hm n q D=>exact single _ _ rfl rfl (.ah vs hl hm n q D)
 |mZ=>exact single _ _ rfl rfl .mZ
 |dg h=>exact single _ _ rfl rfl (.dg h)
 |mp h=>exact single _ _ rfl rfl (.mp h)
 |fn u y A lc hf q=>exact single _ _ rfl rfl (.fn u y A lc hf q)
 |lq h=>exact single _ _ rfl rfl (.lq h)
theorem aU.one {P:Program}{G:Gh}{a:AV}{v:Value}(h:aU P G a v) (j:a.one=true):v.oneCell'=true:=by
 cases h<;>first|rfl|(simp[AV.one]at j;done)|skip
 case sc=>cases v<;>first|rfl|simp[AV.one]at j
abbrev zI (x:Int):AV:= .sc (.int .i64 x)
abbrev zB (x:Bool):AV:= .sc (.bool x)
abbrev zS (x:List UInt8):AV:= .sc (.string ⟨x.toArray⟩)
abbrev zY:=List UInt8
abbrev zW (x:Int):Int:=IntKind.i64.wrap x
class Sy (p:Prop) (q:outParam Prop):Prop where
 out:p→q
instance (priority:=low) (p:Prop):Sy p True:=⟨fun _ =>trivial⟩
instance (a b:Nat):Sy (¬a=b) (¬b=a):=⟨fun h e=>h e.symm⟩
instance (p q l j:Prop) [x:Sy p l] [y:Sy q j]:Sy (p∧q) (l∧j):=⟨fun h=>⟨x.out h.1,y.out h.2⟩⟩
end Go.AW
namespace Go.AW
variable {P:Program} {G:Gh} {σ:AS} {w:World}
theorem Inv.fresh (h:Inv P G σ w):σ G.top=none:=by
 have ht:=h.top G.top (Nat.le_refl _);cases e:σ G.top with
 |none=>rfl
 |some b=>
  cases b with
  |cells ty cs=>obtain⟨b,_,h1,_⟩:=h.cells _ _ _ e;rw[ht.1]at h1;cases h1
  |map es=>obtain⟨b,_,_,h1,_⟩:=h.maps _ _ e;rw[ht.1]at h1;cases h1
  |gA s p=>obtain⟨b,h1,_⟩:=h.dQ _ _ rfl e;rw[ht.1]at h1;cases h1
  |jd m n d=>obtain⟨b,h1,_⟩:=h.dQ _ _ rfl e;rw[ht.1]at h1;cases h1
  |tok n=>obtain⟨r,h1,_⟩:=h.tok _ _ e;rw[ht.2]at h1;cases h1
theorem Inv.I6 (h:Inv P G σ w):G.B≤w.heap.size:=Nat.le_trans h.base h.below.size
theorem Inv.Af (h:Inv P G σ w) {b o:Nat}{v:Value}(e:G.mem b o=some v):b<w.heap.size:=by
 have h1:=(h.mem b o v e).1;rcases Nat.lt_or_ge b w.heap.size with j|j
 ·exact j
 ·simp[World.cell?,Array.getElem?_eq_none j]at h1
theorem Inv.drew (h:Inv P G σ w):Inv P G σ w.drew where
 below:=h.below.drew
 base:=h.base
 mem:=h.mem
 top:=h.top
 dj:=h.dj
 eZ:=h.eZ
 cells:=h.cells
 maps:=h.maps
 dQ:=h.dQ
 tok:=h.tok
 own:=h.own
theorem eI (w:World) (o:Obj) {k:Nat}(h:k<w.heap.size):(w.alloc o).heap[k]? =w.heap[k]? :=Below.heap_alloc w o k h
theorem heap_alloc_new (w:World) (o:Obj):(w.alloc o).heap[w.heap.size]? =some o:=by show(w.heap.push o)[w.heap.size]? = _;simp
theorem dD {w:World}{b:Nat}{o:Obj}(h:w.heap[b]? =some o):b<w.heap.size:=by
 rcases Nat.lt_or_ge b w.heap.size with h1|h1
 ·exact h1
 ·rw[Array.getElem?_eq_none h1]at h;cases h
theorem vK {w:World}{a:Addr}(o:Obj) (h:a.block<w.heap.size):(w.alloc o).cell? a=w.cell? a:=
 World.cell?_of_block (eI w o h)
theorem yI {w:World}{a:Addr}(o:Obj) (h:a.block<w.heap.size):(w.alloc o).frozen? a=w.frozen? a:=
 World.frozen?_of_block (eI w o h)
theorem Inv.alloc (h:Inv P G σ w) (o:Obj):Inv P G σ (w.alloc o) where
 below:=h.below.alloc h.I6 o
 base:=h.base
 mem b of v e:=⟨by rw[vK o (h.Af e)];exact(h.mem b of v e).1,(h.mem b of v e).2⟩
 top:=h.top
 dj i b e:=⟨(h.dj i b e).1,by have:=(h.dj i b e).2.1;simp;omega,(h.dj i b e).2.2⟩
 eZ:=h.eZ
 cells i ty cs e:=by obtain⟨b,vs,h1,j,n⟩:=h.cells i ty cs e;exact⟨b,vs,h1,by rw[eI w o (dD j)];exact j,n⟩
 maps i es e:=by obtain⟨b,ms,c,h1,j,n⟩:=h.maps i es e;exact⟨b,ms,c,h1,by rw[eI w o (dD j)];exact j,n⟩
 dQ i s p e:=by obtain⟨b,h1,j⟩:=h.dQ i s p e;exact⟨b,h1,j.jk (fun _ _ h=>h) (fun _ l=>by rw[eI w o (dD l)];exact l) (fun _ _ _ l=>by rw[eI w o (dD l)];exact l)⟩
 tok:=h.tok
 own t r e:=by
  obtain⟨h1,j,n⟩:=h.own t r e;refine⟨h1,j,fun b of H k u q=> ?_⟩;obtain⟨k1,F,E,k4,D,y,A⟩:=n b of H k u q;refine⟨?_,?_,E,k4,D,by simp;omega,A⟩
  ·rw[vK o y];exact k1
  ·rw[yI o y];exact F
def Gh.bind (G:Gh) (b:Nat):Gh:= { G with inj:=fun j=>if j=G.top then some b else G.inj j,top:=G.top+1 }
theorem Gh.ra (G:Gh) (b:Nat) (ht:G.inj G.top=none):G.Le (G.bind b) where
 W0:=rfl
 B:=rfl
 mem _ _ _ h:=h
 inj i c h:=by
  have:i≠G.top:=by intro e;subst e;rw[ht]at h;cases h
  simp[Gh.bind,this,h]
 own t r h:=⟨r,h,rfl,.inl rfl⟩
theorem Inv.bind (h:Inv P G σ w) (o:Obj):Inv P (G.bind w.heap.size) σ (w.alloc o):=by
 have n:=h.alloc o;have hle:=G.ra w.heap.size (h.top _ (Nat.le_refl _)).1;refine⟨n.below,n.base,n.mem,?_,?_,?_,?_,?_,?_,n.tok,?_⟩
 ·intro i l;have:i≠G.top:=by simp[Gh.bind]at l;omega
  have:=h.top i (by simp[Gh.bind]at l;omega);simp[Gh.bind, *]
 ·intro i b e;by_cases l:i=G.top
  ·simp[Gh.bind,l]at e;subst e;refine⟨h.I6,by simp,fun _ _ _ of=> ?_⟩;cases hm:G.mem w.heap.size of with
   |none=>exact hm
   |some v=>have:=h.Af hm;omega
  ·simp[Gh.bind,l]at e;exact n.dj i b e
 ·intro i j b E D;by_cases l:i=G.top<;>by_cases L:j=G.top
  ·omega
  ·simp[Gh.bind,l,L]at E D;have:=(h.dj j b D).2.1;omega
  ·simp[Gh.bind,l,L]at E D;have:=(h.dj i b E).2.1;omega
  ·simp[Gh.bind,l,L]at E D;exact h.eZ i j b E D
 ·intro i ty cs e;obtain⟨b,vs,h1,q,A,H⟩:=n.cells i ty cs e;exact⟨b,vs,hle.inj _ _ h1,q,A,fun k F=>⟨(H k F).1.mono hle,(H k F).2⟩⟩
 ·intro i es e;obtain⟨b,ms,c,h1,q,A,H⟩:=n.maps i es e;refine⟨b,ms,c,hle.inj _ _ h1,q,A,fun k F=> ?_⟩;obtain⟨m,k1,J,I⟩:=H k F;exact⟨m,k1,J.mono hle,I.mono hle⟩
 ·intro i s p e;obtain⟨b,h1,q⟩:=n.dQ i s p e;exact⟨b,hle.inj _ _ h1,q.jk hle.inj (fun _ h=>h) (fun _ _ _ h=>h)⟩
 ·intro t r e;obtain⟨h1,q,A⟩:=n.own t r e;refine⟨h1,q,fun b of M k y u=> ?_⟩;obtain⟨k1,J,I,k4,T,S,O⟩:=A b of M k y u;have Q:=((h.own t r e).2.2 b of M k y u).2.2.2.2.2.1;refine⟨k1,J,I,fun i=> ?_,T,S,O⟩;by_cases l:i=G.top
  ·simp[Gh.bind,l];omega
  ·simp[Gh.bind,l];exact k4 i
theorem Inv.jr (h:Inv P G σ w) (ty:TypeId) (vs:Array Value) (cs:List AV) (hl:vs.size=cs.length)
 (q:∀k,k<cs.length→aU P G (cs.getD k .any) (vs.getD k undef)∧(vs.getD k undef).oneCell'=true):
 ∃G',G.Le G'∧G'.inj G.top=some w.heap.size∧Inv P G' (σ.set G.top (.cells ty cs)) (w.alloc (.cells vs ty)):=by
 have hle:=G.ra w.heap.size (h.top _ (Nat.le_refl _)).1;have l:=h.bind (.cells vs ty);refine⟨_,hle,by simp[Gh.bind],?_⟩;refine⟨l.below,l.base,l.mem,l.top,?_,l.eZ,?_,?_,?_,?_,l.own⟩
 ·intro i b e;have h1:=l.dj i b e;refine⟨h1.1,h1.2.1,fun o cs' hn=> ?_⟩;by_cases j:i=G.top
  ·subst j;simp[Gh.bind]at e;subst e;intro of;cases hm:G.mem w.heap.size of with
   |none=>exact hm
   |some v=>have:=h.Af hm;omega
  ·exact h1.2.2 o cs' (by simpa[AS.set,j]using hn)
 ·intro i o cs' e;by_cases j:i=G.top
  ·subst j;simp[AS.set]at e;obtain⟨rfl,rfl⟩:=e;exact⟨w.heap.size,vs,by simp[Gh.bind],heap_alloc_new w _,hl,fun k u=>⟨(q k u).1.mono hle,(q k u).2⟩⟩
  ·simp[AS.set,j]at e;exact l.cells i o cs' e
 ·intro i es e;by_cases j:i=G.top
  ·simp[AS.set,j]at e
  ·simp[AS.set,j]at e;exact l.maps i es e
 ·intro i s p e;by_cases j:i=G.top
  ·simp[AS.set,j]at e;subst e;cases p
  ·simp[AS.set,j]at e;exact l.dQ i s p e
 ·intro i n e;by_cases j:i=G.top
  ·simp[AS.set,j]at e
  ·simp[AS.set,j]at e;exact l.tok i n e
def Gh.jk (G:Gh) (b off n:Nat) (vs:Nat→Value):Gh:=
 { G with mem:=fun j o=>if j=b∧off≤o∧o<off+n then some (vs (o-off))else G.mem j o }
theorem Gh.ka {b off n o:Nat}{vs:Nat→Value}(h1:off≤o) (j:o<off+n):(G.jk b off n vs).mem b o=some (vs (o-off)):=if_pos ⟨rfl,h1,j⟩
theorem Gh.eT {b off n j o:Nat}{vs:Nat→Value}(h:¬(j=b∧off≤o∧o<off+n)):(G.jk b off n vs).mem j o=G.mem j o:=if_neg h
theorem Inv.Ao (h:Inv P G σ w) (ty:TypeId) (cur:Array Value) (L:Nat×Nat) (n:Nat) (vs:Nat→Value) (_hn:n≤cur.size) (U:∀k,k<n→cur[k]? =some (vs k)∧(vs k).oneCell'=true):
 G.Le (G.jk w.heap.size 0 n vs)∧Inv P (G.jk w.heap.size 0 n vs) σ (w.alloc (.cells cur ty L)):=by
 have hle:G.Le (G.jk w.heap.size 0 n vs):=by refine⟨rfl,rfl,fun b o v e=> ?_,fun _ _ e=>e,fun t r e=>⟨r,e,rfl,.inl rfl⟩⟩;have:=h.Af e;simp only[Gh.jk];rw[if_neg (by omega)];exact e
 have j:=h.alloc (.cells cur ty L);refine⟨hle,j.below,j.base,?_,h.top,?_,h.eZ,?_,?_,j.dQ,j.tok,?_⟩
 ·intro b o v e;by_cases J:b=w.heap.size∧0≤o∧o<0+n
  ·simp only[Gh.jk]at e;rw[if_pos J]at e;obtain⟨rfl,_,X⟩:=J;simp at e;subst e;have:=U o (by omega);refine⟨?_,this.2⟩;simp only[World.cell?,heap_alloc_new];simpa using this.1
  ·simp only[Gh.jk]at e;rw[if_neg J]at e;exact j.mem b o v e
 ·intro i b e;have h1:=h.dj i b e;refine⟨h1.1,by simp;omega,fun l cs' V o=> ?_⟩;simp only[Gh.jk];rw[if_neg (by omega)];exact h1.2.2 l cs' V o
 ·intro i l cs e;obtain⟨b,F,h1,A,y,E⟩:=j.cells i l cs e;exact⟨b,F,h1,A,y,fun k D=>⟨(E k D).1.mono hle,(E k D).2⟩⟩
 ·intro i es e;obtain⟨b,ms,c,h1,A,y,E⟩:=j.maps i es e;refine⟨b,ms,c,h1,A,y,fun k D=> ?_⟩;obtain⟨m,k1,I,H⟩:=E k D;exact⟨m,k1,I.mono hle,H.mono hle⟩
 ·intro t r e;obtain⟨h1,A,y⟩:=j.own t r e;refine⟨h1,A,fun b of M k u q=> ?_⟩;obtain⟨k1,I,H,k4,T,S,O⟩:=y b of M k u q;have Q:=((h.own t r e).2.2 b of M k u q).2.2.2.2.2.1;refine⟨k1,I,?_,k4,T,S,O⟩;simp only[Gh.jk];rw[if_neg (by omega)];exact H
theorem Inv.DE (h:Inv P G σ w) (ty:TypeId) (cur:Array Value) (n:Nat) (vs:Nat→Value) (hn:n≤cur.size) (j:∀k,k<n→cur[k]? =some (vs k)∧(vs k).oneCell'=true):
 G.Le (G.jk w.heap.size 0 n vs)∧Inv P (G.jk w.heap.size 0 n vs) σ (w.alloc (.cells cur ty)):=h.Ao ty cur (0,0) n vs hn j
def ry (cur:Array Value):Nat→List Value→Array Value
 | _,[]=>cur
 |o,v::r=>ry (cur.setIfInBounds o v) (o+1) r
theorem oY (vs:List Value):∀(cur:Array Value) (o:Nat),(ry cur o vs).size=cur.size:=by
 induction vs with
 |nil=>intro cur o;rfl
 |cons v r j=>intro cur o;simp[ry,j]
theorem uq (vs:List Value):∀(cur:Array Value) (o k:Nat),o+vs.length≤cur.size→
 (ry cur o vs).getD k undef=if o≤k∧k<o+vs.length then vs.getD (k-o) undef else cur.getD k undef:=by
 induction vs with
 |nil=>intro cur o k _;rw[if_neg (by simp only[List.length_nil];omega)];rfl
 |cons v r l=>
  intro cur o k h;simp only[List.length_cons]at h;simp only[ry];rw[l _ _ _ (by simp;omega)];by_cases h1:o+1≤k∧k<o+1+r.length
  ·rw[if_pos h1,if_pos (by simp only[List.length_cons];omega)];have:k-o=(k-(o+1))+1:=by omega
   rw[this];simp
  ·rw[if_neg h1];by_cases j:k=o
   ·subst j;rw[if_pos (by simp only[List.length_cons];omega)];have:k<cur.size:=by omega
    simp[this]
   ·rw[if_neg (by simp only[List.length_cons];omega)];simp[Array.getElem?_setIfInBounds_ne (fun e=>j e.symm)]
theorem wC (b:Nat) (vs:List Value):∀(w:World) (o:Nat) (cur:Array Value) (ty:TypeId) (j:Nat×Nat),w.heap[b]? =some (.cells cur ty j)→
 (w.setCells b o vs).heap[b]? =some (.cells (ry cur o vs) ty j):=by
 induction vs with
 |nil=>intro w o cur ty j h;exact h
 |cons v r l=>intro w o cur ty j h;refine l _ _ _ _ _ ?_;simp only[World.setCell,Array.getElem?_modify,h,if_true,Option.map_some];rfl
theorem jS (b:Nat) (vs:List Value):∀(w:World) (o:Nat) (k:Nat),k≠b→(w.setCells b o vs).heap[k]? =w.heap[k]? :=by
 induction vs with
 |nil=>intro w o k h;rfl
 |cons v r j=>intro w o k h;rw[show w.setCells b o (v::r)=(w.setCell ⟨b,o,none⟩ v).setCells b (o+1) r from rfl,j _ _ _ h];exact Below.heap_setCell w _ v k h
theorem gQ (b:Nat) (vs:List Value):∀(w:World) (o:Nat),(w.setCells b o vs).heap.size=w.heap.size:=by
 induction vs with
 |nil=>intro w o;rfl
 |cons v r j=>intro w o;rw[show w.setCells b o (v::r)=(w.setCell ⟨b,o,none⟩ v).setCells b (o+1) r from rfl,j];simp
theorem oM {B:Nat}{a:World}(b:Nat) (vs:List Value):∀(w:World) (o:Nat),Below B a w→B≤b→Below B a (w.setCells b o vs):=by
 induction vs with
 |nil=>intro w o h _;exact h
 |cons v r l=>intro w o h j;exact l _ _ (h.setCell (p:=⟨b,o,none⟩) j v) j
theorem Inv.store (h:Inv P G σ w) {i:Nat}{ty:TypeId}{cs:List AV}(e:σ i=some (.cells ty cs)) (off:Nat) (vs:List Value) (A:List AV)
 (hl:vs.length=A.length) (U:off+vs.length≤cs.length) (hr:∀k,k<A.length→aU P G (A.getD k .any) (vs.getD k undef)∧(vs.getD k undef).oneCell'=true)
 (b:Nat) (F:G.inj i=some b):
 Inv P G (σ.set i (.cells ty (cs.take off++A++cs.drop (off+A.length)))) (w.setCells b off vs):=by
 obtain⟨I,cur,h1,Y,h3,h4⟩:=h.cells i ty cs e;rw[F]at h1;obtain rfl:=Option.some.inj h1;have X:=h.dj i b F;have other:∀k,k≠b→(w.setCells b off vs).heap[k]? =w.heap[k]? :=jS b vs w off;have hlen:(cs.take off++A++cs.drop (off+A.length)).length=cs.length:=by simp;omega
 refine⟨oM b vs w off h.below X.1,h.base,?_,h.top,?_,h.eZ,?_,?_,?_,?_,?_⟩
 ·intro I o v em;have l:I≠b:=by intro u;subst u;rw[X.2.2 _ _ e o]at em;cases em
  exact⟨by rw[World.cell?_of_block (w:=w) (other I l)];exact(h.mem I o v em).1,(h.mem I o v em).2⟩
 ·intro j c q;have:=h.dj j c q;refine⟨this.1,by rw[gQ];exact this.2.1,fun D cs' hn=> ?_⟩;by_cases y:j=i
  ·subst y;exact this.2.2 _ _ e
  ·exact this.2.2 D cs' (by simpa[AS.set,y]using hn)
 ·intro j D cs' q;by_cases y:j=i
  ·subst y;simp[AS.set]at q;obtain⟨rfl,rfl⟩:=q;refine⟨b,_,F,wC b vs w off cur _ _ Y,?_,?_⟩
   ·rw[oY,h3];simp;omega
   ·intro k hk;rw[uq _ _ _ _ (by omega)];have Q:k<cs.length:=by simp at hk;omega
    by_cases V:off≤k∧k<off+vs.length
    ·rw[if_pos V];have:=hr (k-off) (by omega);have S:(cs.take off++(A++cs.drop (off+A.length))).getD k .any=A.getD (k-off) .any:=by
      have t:(cs.take off).length=off:=by simp;omega
      simp only[List.getD_eq_getElem?_getD];rw[List.getElem?_append_right (by omega),t,List.getElem?_append_left (by omega)]
     rw[S];exact this
    ·rw[if_neg V];have:=h4 k Q;have S:(cs.take off++(A++cs.drop (off+A.length))).getD k .any=cs.getD k .any:=by
      have t:(cs.take off).length=off:=by simp;omega
      simp only[List.getD_eq_getElem?_getD];by_cases L:k<off
      ·rw[List.getElem?_append_left (by omega),List.getElem?_take_of_lt L]
      ·rw[List.getElem?_append_right (by omega),t,List.getElem?_append_right (by omega),List.getElem?_drop];congr 2;omega
     rw[S];exact this
  ·simp[AS.set,y]at q;obtain⟨c,J,k1,E,H⟩:=h.cells j D cs' q;have l:c≠b:=fun u=>y (h.eZ j i b (u ▸ k1) F);exact⟨c,J,k1,by rw[other c l];exact E,H⟩
 ·intro j es q;have y:j≠i:=by intro u;subst u;simp[AS.set]at q
  simp[AS.set,y]at q;obtain⟨c,ms,cl,k1,E,H⟩:=h.maps j es q;have l:c≠b:=fun u=>y (h.eZ j i b (u ▸ k1) F);exact⟨c,ms,cl,k1,by rw[other c l];exact E,H⟩
 ·intro j s p q;have y:j≠i:=by intro u;subst u;simp[AS.set]at q;subst q;cases p
  simp[AS.set,y]at q;obtain⟨c,k1,E⟩:=h.dQ j s p q;have l:c≠b:=fun u=>y (h.eZ j i b (u ▸ k1) F);exact⟨c,k1,E.jk (fun _ _ h=>h) (fun o ho=>by rw[other c l];exact ho) (fun m ms cl hm=>by rw[other m (fun e=>by subst e;rw[Y]at hm;cases hm)];exact hm)⟩
 ·intro j n q;have y:j≠i:=by intro u;subst u;simp[AS.set]at q
  simp[AS.set,y]at q;exact h.tok j n q
 ·intro t r et;obtain⟨k1,E,H⟩:=h.own t r et;refine⟨k1,E,fun c o ea k O M=> ?_⟩;obtain⟨m1,m2,m3,T,m5,m6,Z⟩:=H c o ea k O M;have l:c≠b:=fun u=>T i (u ▸ F);refine⟨?_,?_,m3,T,m5,by rw[gQ];exact m6,Z⟩
  ·rw[World.cell?_of_block (w:=w) (other c l)];exact m1
  ·rw[World.frozen?_of_block (w:=w) (other c l)];exact m2
end Go.AW
namespace Go.AW
variable {P:Program} {G:Gh} {σ:AS} {w:World}
def Gh.fG (G:Gh) (r:OR):Gh:= { G with own:=fun j=>if j=G.top then some r else G.own j,top:=G.top+1 }
theorem Gh.Ke (G:Gh) (r:OR) (ht:G.own G.top=none):G.Le (G.fG r) where
 W0:=rfl
 B:=rfl
 mem _ _ _ h:=h
 inj _ _ h:=h
 own t j h:=by
  have:t≠G.top:=by intro e;subst e;rw[ht]at h;cases h
  exact⟨j,by simp[Gh.fG,this,h],rfl,.inl rfl⟩
theorem Inv.fG (h:Inv P G σ w) (a:Option (Nat×Nat)) (n:Nat) (e:TypeId) (ha:a=none→n=0):
 G.Le (G.fG ⟨a,n,n,e⟩)∧Inv P (G.fG ⟨a,n,n,e⟩) (σ.set G.top (.tok n)) w:=by
 have ht:=h.top _ (Nat.le_refl _);have hle:=G.Ke ⟨a,n,n,e⟩ ht.2;refine⟨hle,h.below,h.base,h.mem,?_,fun i b e=>⟨(h.dj i b e).1,(h.dj i b e).2.1,fun ty cs hn=>(h.dj i b e).2.2 ty cs (by
  by_cases j:i=G.top
  ·subst j;simp[AS.set]at hn
  ·simpa[AS.set,j]using hn)⟩,h.eZ,?_,?_,?_,?_,?_⟩
 ·intro i j;have:i≠G.top:=by simp[Gh.fG]at j;omega
  have:=h.top i (by simp[Gh.fG]at j;omega);simp[Gh.fG, *]
 ·intro i ty cs l;have j:i≠G.top:=by intro E;subst E;simp[AS.set]at l
  simp[AS.set,j]at l;obtain⟨b,vs,h1,y,D,H⟩:=h.cells i ty cs l;exact⟨b,vs,h1,y,D,fun k F=>⟨(H k F).1.mono hle,(H k F).2⟩⟩
 ·intro i es l;have j:i≠G.top:=by intro E;subst E;simp[AS.set]at l
  simp[AS.set,j]at l;obtain⟨b,ms,c,h1,y,D,H⟩:=h.maps i es l;refine⟨b,ms,c,h1,y,D,fun k F=> ?_⟩;obtain⟨m,k1,L,J⟩:=H k F;exact⟨m,k1,L.mono hle,J.mono hle⟩
 ·intro i s p l;have j:i≠G.top:=by intro E;subst E;simp[AS.set]at l;subst l;cases p
  simp[AS.set,j]at l;exact h.dQ i s p l
 ·intro i m l;by_cases j:i=G.top
  ·simp[AS.set,j]at l;subst l;exact⟨⟨a,n,n,e⟩,by simp[Gh.fG,j],rfl⟩
  ·simp[AS.set,j]at l;obtain⟨r,h1,y⟩:=h.tok i m l;exact⟨r,by simp[Gh.fG,j,h1],y⟩
 ·intro t r I;by_cases j:t=G.top
  ·simp[Gh.fG,j]at I;subst I;refine⟨Nat.le_refl _,ha,fun b o _ k v u=> ?_⟩;simp at v u;omega
  ·simp[Gh.fG,j]at I;obtain⟨h1,y,D⟩:=h.own t r I;refine⟨h1,y,fun b o Y k v u=> ?_⟩;obtain⟨k1,L,J,k4,X,V,U⟩:=D b o Y k v u;refine⟨k1,L,J,k4,X,V,fun Q S T M q O=> ?_⟩;by_cases A:Q=G.top
   ·simp[Gh.fG,A]at q;subst q;exact Nat.le_refl _
   ·simp[Gh.fG,A]at q;exact U Q S T M q O
def Gh.grow (G:Gh) (t:Nat) (r:OR) (b off n:Nat) (vs:Nat→Value):Gh:=
 { G.jk b off n vs with own:=fun j=>if j=t then some r else G.own j }
def Gh.gH (G:Gh) (t:Nat) (r:OR):Gh:= { G with own:=fun j=>if j=t then some r else G.own j }
theorem Inv.gH (h:Inv P G σ w) (v:Nat) (j r:OR) (hr:G.own v=some r) (S:j.iv=r.iv) (hlen:j=r∨r.len<j.len) (ai:j.len≤j.cap) (hn:j.a=none→j.cap=0)
 (O:∀b o,j.a=some (b,o)→ ∀k,j.len*P.cellsOf j.iv≤k→k<j.cap*P.cellsOf j.iv→
  (w.cell? ⟨b,o+k,none⟩).isSome=true∧w.frozen? ⟨b,o+k,none⟩=false∧G.mem b (o+k)=none∧(∀i,G.inj i≠some b)∧G.B≤b∧b<w.heap.size∧
  (∀t2 l I,t2≠v→G.own t2=some l→l.a=some (b,I)→l.cap*P.cellsOf l.iv≤l.len*P.cellsOf l.iv))
 (Q:∀t2 l b o,t2≠v→G.own t2=some l→l.a=some (b,o)→ ∀k,l.len*P.cellsOf l.iv≤k→k<l.cap*P.cellsOf l.iv→ ∀o',j.a=some (b,o')→j.cap*P.cellsOf j.iv≤j.len*P.cellsOf j.iv):
 G.Le (G.gH v j)∧Inv P (G.gH v j) (σ.set v (.tok j.len)) w:=by
 have hle:G.Le (G.gH v j):=by
  refine⟨rfl,rfl,fun _ _ _ e=>e,fun _ _ e=>e,fun t q e=> ?_⟩;by_cases ht:t=v
  ·subst ht;rw[hr]at e;obtain rfl:=Option.some.inj e;exact⟨j,by simp[Gh.gH],S,hlen⟩
  ·exact⟨q,by simp[Gh.gH,ht,e],rfl,.inl rfl⟩
 refine⟨hle,h.below,h.base,h.mem,?_,fun i b e=>⟨(h.dj i b e).1,(h.dj i b e).2.1,fun ty cs hn=>(h.dj i b e).2.2 ty cs (by
  by_cases n:i=v
  ·subst n;simp[AS.set]at hn
  ·simpa[AS.set,n]using hn)⟩,h.eZ,?_,?_,?_,?_,?_⟩
 ·intro i n;have:=h.top i n;have y:i≠v:=by intro H;subst H;rw[hr]at this;cases this.2
  exact⟨this.1,by simp[Gh.gH,y,this.2]⟩
 ·intro i ty cs u;have n:i≠v:=by intro H;subst H;simp[AS.set]at u
  simp[AS.set,n]at u;obtain⟨b,vs,h1,F,T,Y⟩:=h.cells i ty cs u;exact⟨b,vs,h1,F,T,fun k X=>⟨(Y k X).1.mono hle,(Y k X).2⟩⟩
 ·intro i es u;have n:i≠v:=by intro H;subst H;simp[AS.set]at u
  simp[AS.set,n]at u;obtain⟨b,ms,c,h1,F,T,Y⟩:=h.maps i es u;refine⟨b,ms,c,h1,F,T,fun k X=> ?_⟩;obtain⟨m,k1,L,J⟩:=Y k X;exact⟨m,k1,L.mono hle,J.mono hle⟩
 ·intro i s p u;have n:i≠v:=by intro H;subst H;simp[AS.set]at u;subst u;cases p
  simp[AS.set,n]at u;exact h.dQ i s p u
 ·intro i m u;by_cases n:i=v
  ·subst n;simp[AS.set]at u;exact⟨j,by simp[Gh.gH],u⟩
  ·simp[AS.set,n]at u;obtain⟨q,h1,F⟩:=h.tok i m u;exact⟨q,by simp[Gh.gH,n,h1],F⟩
 ·intro t q U;by_cases n:t=v
  ·subst n;have:q=j:=by simp[Gh.gH]at U;exact U.symm
   subst this;refine⟨ai,hn,fun b o Z k D A=> ?_⟩;obtain⟨k1,L,J,k4,k5,k6,k7⟩:=O b o Z k D A;exact⟨k1,L,J,k4,k5,k6,fun t2 l I y V E=>k7 t2 l I y (by simpa[Gh.gH,y]using V) E⟩
  ·simp[Gh.gH,n]at U;obtain⟨h1,F,T⟩:=h.own t q U;refine⟨h1,F,fun b o Z k D A=> ?_⟩;obtain⟨k1,L,J,k4,k5,k6,k7⟩:=T b o Z k D A;refine⟨k1,L,J,k4,k5,k6,fun t2 l I y V E=> ?_⟩;by_cases M:t2=v
   ·subst M;have:l=j:=by simp[Gh.gH]at V;exact V.symm
    subst this;exact Q t q b o n U Z k D A I E
   ·exact k7 t2 l I y (by simpa[Gh.gH,M]using V) E
theorem jK {i n j sz:Nat}(l:i<n) (o:j<sz):i*sz+j<n*sz:=by have:(i+1)*sz≤n*sz:=Nat.mul_le_mul_right _ l;rw[Nat.add_mul]at this;omega
theorem yE {i n j sz:Nat}(l:n≤i):n*sz≤i*sz+j:=by have:n*sz≤i*sz:=Nat.mul_le_mul_right _ l;omega
theorem aQ {α:Type}(l r:List α) (d:α) {i:Nat}(h:i<l.length):(l++r).getD i d=l.getD i d:=by simp only[List.getD_eq_getElem?_getD,List.getElem?_append_left h]
theorem bk {α:Type}(l r:List α) (d:α) {i:Nat}(h:l.length≤i):(l++r).getD i d=r.getD (i-l.length) d:=by simp only[List.getD_eq_getElem?_getD,List.getElem?_append_right h]
theorem rL {j old:Nat}(h:old<j):Builtin.nextslicecap j old≤512∨4*Builtin.nextslicecap j old≤5*j+768:=by
 have l:∀(r c:Nat),c≤j→4*Builtin.growBy j r c≤5*j+768:=by
  intro r;induction r with
  |zero=>intro c o;simp[Builtin.growBy];omega
  |succ r n=>
   intro c o;simp only[Builtin.growBy];split
   ·omega
   ·by_cases q:c+(c+768)/4≤j
    ·exact n _ q
    ·cases r with
     |zero=>simp[Builtin.growBy];omega
     |succ r=>simp only[Builtin.growBy];rw[if_pos (by omega)];omega
 unfold Builtin.nextslicecap;split
 ·right;omega
 ·split
  ·left;omega
  ·right;exact l 4 old (by omega)
theorem nextslicecap_le {j old:Nat}(h:old<j):Builtin.nextslicecap j old≤2*j:=by
 have v:∀(r c:Nat),c≤j→Builtin.growBy j r c≤2*j+192:=by
  intro r;induction r with
  |zero=>intro c o;simp[Builtin.growBy];omega
  |succ r l=>
   intro c o;simp only[Builtin.growBy];split
   ·omega
   ·rename_i h1;by_cases q:c+(c+768)/4≤j
    ·exact l _ q
    ·cases r with
     |zero=>simp[Builtin.growBy];omega
     |succ r=>simp only[Builtin.growBy];rw[if_pos (by omega)];omega
 unfold Builtin.nextslicecap;split
 ·omega
 ·split
  ·omega
  ·rename_i h1 q;have n:∀(r c:Nat),256≤c→c≤j→Builtin.growBy j r c≤2*j:=by
    intro r;induction r with
    |zero=>intro c _ o;simp[Builtin.growBy];omega
    |succ r l=>
     intro c y o;simp only[Builtin.growBy];split
     ·omega
     ·by_cases u:c+(c+768)/4≤j
      ·exact l _ (by omega) u
      ·cases r with
       |zero=>simp[Builtin.growBy];omega
       |succ r=>simp only[Builtin.growBy];rw[if_pos (by omega)];omega
   exact n 4 old (by omega) (by omega)
def fF (b:Nat):Nat:=if b=1 then 140737488355328 else if b≤100000 then 220000000000000 else 140737488355328
theorem qq {j old b:Nat}(h:old<j) (l:j*b≤fF b):Builtin.nextslicecap j old*b≤281474976710656:=by
 have two:j*b≤140737488355328→Builtin.nextslicecap j old*b≤281474976710656:=by intro o;have n:Builtin.nextslicecap j old*b≤(2*j)*b:=Nat.mul_le_mul_right _ (nextslicecap_le h);rw[Nat.mul_assoc]at n;omega
 unfold fF at l;split at l
 ·exact two l
 ·split at l
  ·rename_i q;rcases rL h with h1|h1
   ·have n:Builtin.nextslicecap j old*b≤512*b:=Nat.mul_le_mul_right _ h1;omega
   ·have n:4*Builtin.nextslicecap j old*b≤(5*j+768)*b:=Nat.mul_le_mul_right _ h1;rw[Nat.add_mul,Nat.mul_assoc,Nat.mul_assoc]at n;omega
  ·exact two l
structure Bk (P:Program) (G:Gh) (e:TypeId) (xs:List AV) (news:List Value):Prop where
 len:news.length=xs.length*P.cellsOf e
 el:∀i,i<xs.length→(xs.getD i .any).cells.length=P.cellsOf e
 rep:∀i j,i<xs.length→j<P.cellsOf e→aU P G ((xs.getD i .any).cells.getD j .any) (news.getD (i*P.cellsOf e+j) undef)
theorem Bk.mono {G G':Gh}{e:TypeId}{xs:List AV}{news:List Value}(h:Bk P G e xs news) (hle:G.Le G'):Bk P G' e xs news:=
 ⟨h.len,h.el,fun i j n l=>(h.rep i j n l).mono hle⟩
theorem zG {G:Gh}{e:TypeId}{elems xs:List AV}{news:List Value}(vs:Nat→Value)
 (hl:∀i,i<elems.length→(elems.getD i .any).cells.length=P.cellsOf e)
 (o:∀i j,i<elems.length→j<P.cellsOf e→aU P G ((elems.getD i .any).cells.getD j .any) (vs (i*P.cellsOf e+j)))
 (hn:Bk P G e xs news):
 (∀i,i<(elems++xs).length→((elems++xs).getD i .any).cells.length=P.cellsOf e)∧
 (∀i j,i<(elems++xs).length→j<P.cellsOf e→aU P G (((elems++xs).getD i .any).cells.getD j .any)
  ((fun k=>if k<elems.length*P.cellsOf e then vs k else news.getD (k-elems.length*P.cellsOf e) undef) (i*P.cellsOf e+j))):=by
 constructor
 ·intro i n;by_cases h:i<elems.length
  ·rw[aQ _ _ _ h];exact hl i h
  ·rw[bk _ _ _ (by omega)];exact hn.el _ (by simp at n;omega)
 ·intro i j n l;by_cases h:i<elems.length
  ·rw[aQ _ _ _ h];simp only;rw[if_pos (jK h l)];exact o i j h l
  ·rw[bk _ _ _ (by omega)];simp only;rw[if_neg (by have:=yE (j:=j) (sz:=P.cellsOf e) (Nat.le_of_not_lt h);omega)];have:=hn.rep (i-elems.length) j (by simp at n;omega) l;have q:i*P.cellsOf e+j-elems.length*P.cellsOf e=(i-elems.length)*P.cellsOf e+j:=by have u:elems.length*P.cellsOf e≤i*P.cellsOf e:=Nat.mul_le_mul_right _ (by omega);rw[Nat.sub_mul];omega
   rw[q];exact this
theorem aU.te {G:Gh}{e:TypeId}{elems:List AV}{own:cA}{b off cap n:Nat}(vs:Nat→Value) (hn:elems.length=n)
 (hl:∀i,i<elems.length→(elems.getD i .any).cells.length=P.cellsOf e)
 (hm:∀k,k<n*P.cellsOf e→G.mem b (off+k)=some (vs k))
 (l:∀i j,i<elems.length→j<P.cellsOf e→aU P G ((elems.getD i .any).cells.getD j .any) (vs (i*P.cellsOf e+j)))
 (q:n≤cap) (o:vV G own e n (.slice (some ⟨b,off,none⟩) n cap)):aU P G (.ah e elems own false) (.slice (some ⟨b,off,none⟩) n cap):=by
 subst hn;exact .ah vs hl hm l q o
structure Qa (P:Program) (i:TypeInfo) (tx:TypeId) (x:Value) (n:Nat) (news:List Value):Prop where
 kind:∃k,P.underlying tx=some (.int k)
 val:∃k,x= .int k n
 small:n≤1000000∧i.bytes≤1000
 zero:∃z,i.zero=some z∧news=(if n*i.size=0 then []else(Builtin.zeroCells z.cells n).toList)
 newsLen:news.length=n*i.size
 one:∀u∈news,u.oneCell'=true
def wI (P:Program) (e:TypeId) (j:TypeId) (x:Value) (n:Nat) (news:List Value) (w:World):Prop:=
 Src P (P.cellsOf e) j x n news w∨ ∃i,P.info? e=some i∧Qa P i j x n news
theorem wI.one {e j:TypeId}{x:Value}{n:Nat}{news:List Value}(h:wI P e j x n news w):∀u∈news,u.oneCell'=true:=by
 rcases h with h|⟨_,_,h⟩
 ·exact h.one
 ·exact h.one
theorem wrap_small {n:Nat}(h:n≤1000000):IntKind.i64.wrap (n:Int)=n:=by simp[IntKind.wrap,IntKind.bits,IntKind.signed];split<;>omega
theorem vN {t y ty e:TypeId}{i:TypeInfo}(ht:P.underlying t=some (.slice e)) (q:P.info? e=some i) {x:Value}(h:wI P e y x 0 [] w):
 (Builtin.append_ #[t,y] ty #[.slice none 0 0,x]).run P w= .ok (.slice none 0 0) w:=by
 rcases h with h|⟨i',l,h⟩
 ·have j:i.size=P.cellsOf e:=by simp[Program.cellsOf,q]
  rw[←j]at h;have u:∀w',(Builtin.lenOf x).run P w'= .ok 0 w':=h.len;have v:(Builtin.firstCells i.size 0 x).run P w= .ok #[] w:=h.cells;rcases h.kind with⟨A,o⟩|o<;>simp[Builtin.append_,run_underlying ht,run_underlying o,sizeOf,typeInfo,q,u,v]
 ·rw[q]at l;obtain rfl:=Option.some.inj l;obtain⟨k,o⟩:=h.kind;obtain⟨k',rfl⟩:=h.val;have hw:=wrap_small (n:=0) (by omega);simp only[Int.natCast_zero]at hw;simp[Builtin.append_,run_underlying ht,run_underlying o,sizeOf,typeInfo,q,asInt,asIntOf,hw]
theorem vO (w:World) (t I ty e:TypeId) (i:TypeInfo) (ht:P.underlying t=some (.slice e)) (H:P.info? e=some i) (b off l u:Nat) (x:Value) (n:Nat) (news:List Value) (v:wI P e I x n news w)
 (q:l+n≤u) (L:∀j,j<news.length→(w.cell? ⟨b,off+l*i.size+j,none⟩).isSome=true) (hf:∀j,j<news.length→w.frozen? ⟨b,off+l*i.size+j,none⟩=false):
 (Builtin.append_ #[t,I] ty #[.slice (some ⟨b,off,none⟩) l u,x]).run P w= .ok (.slice (some ⟨b,off,none⟩) (l+n) u) (w.setCells b (off+l*i.size) news):=by
 rcases v with v|⟨i',F,v⟩
 ·have E:i.size=P.cellsOf e:=by simp[Program.cellsOf,H]
  rw[←E]at v;exact run_append_room_src w t I ty e i ht H b off l u x n news v q L hf
 ·rw[H]at F;obtain rfl:=Option.some.inj F;have D:=run_storeCells_cells (P:=P) b (off+l*i.size) news 0 w (by simpa using L) (by simpa using hf) v.one;simp only[Nat.add_zero]at D;obtain⟨k,J⟩:=v.kind;obtain⟨k',rfl⟩:=v.val;obtain⟨z,M,o⟩:=v.zero;have hw:=wrap_small v.small.1;have y:¬((n:Int)<0):=by omega
  have A:¬((281474976710656:Int)<(n:Int)*(i.bytes:Int)):=by
   have h1:n*i.bytes≤1000000*1000:=Nat.mul_le_mul v.small.1 v.small.2;have O:((n:Int)*(i.bytes:Int))=((n*i.bytes:Nat):Int):=by push_cast;rfl
   omega
  by_cases h0:n*i.size=0
  ·rw[if_pos h0]at o;subst o;simp[Builtin.append_,run_underlying ht,run_underlying J,sizeOf,typeInfo,H,asInt,asIntOf,hw,y,A,q,h0,Addr.add_lit,D]
  ·rw[if_neg h0]at o;subst o;simp[Builtin.append_,run_underlying ht,run_underlying J,sizeOf,typeInfo,zeroValue,M,H,asInt,asIntOf,hw,y,A,q,h0,Addr.add_lit,D]
theorem rh (w:World) (t L ty e:TypeId) (i:TypeInfo) (z:Value) (ht:P.underlying t=some (.slice e)) (H:P.info? e=some i) (J:i.zero=some z) (base:Option Addr) (j l:Nat) (olds:List Value)
 (hold:(Builtin.firstCells i.size j (.slice base j l)).run P w.drew= .ok olds.toArray w.drew) (x:Value) (n:Nat) (news:List Value) (q:wI P e L x n news w)
 (Q:l<j+n) (M:((j+n:Nat):Int)≤9223372036854775807) (I:Builtin.nextslicecap (j+n) l*i.bytes≤281474976710656):
 (Builtin.append_ #[t,L] ty #[.slice base j l,x]).run P w=
  .ok (.slice (some ⟨w.heap.size,0,none⟩) (j+n) (grownCap w (j+n) l e))
   (w.drew.alloc (.cells ((olds++news).toArray++Builtin.zeroCells z.cells (grownCap w (j+n) l e-(j+n))) e)):=by
 rcases q with q|⟨i',F,q⟩
 ·have D:i.size=P.cellsOf e:=by simp[Program.cellsOf,H]
  rw[←D]at q;exact run_append_grow_src w t L ty e i z ht H J base j l olds hold x n news q Q M I
 ·rw[H]at F;obtain rfl:=Option.some.inj F;obtain⟨k,O⟩:=q.kind;obtain⟨k',rfl⟩:=q.val;obtain⟨S,E,o⟩:=q.zero;rw[J]at E;obtain rfl:=Option.some.inj E;have hw:=wrap_small q.small.1;have u:¬((n:Int)<0):=by omega
  have v:¬((281474976710656:Int)<(n:Int)*(i.bytes:Int)):=by
   have h1:n*i.bytes≤1000000*1000:=Nat.mul_le_mul q.small.1 q.small.2;have T:((n:Int)*(i.bytes:Int))=((n*i.bytes:Nat):Int):=by push_cast;rfl
   omega
  have hn:¬(j+n≤l):=by omega
  have y:¬(9223372036854775807<((j:Int)+(n:Int))):=by omega
  have A:¬(281474976710656<Builtin.nextslicecap (j+n) l*i.bytes):=by omega
  by_cases h0:n*i.size=0
  ·rw[if_pos h0]at o;subst o;simp[Builtin.append_,run_underlying ht,run_underlying O,sizeOf,typeInfo,zeroValue,H,J,asInt,asIntOf,hw,u,v,hn,y,A,h0,Question.forced,hold,newRow,grownCap]
  ·rw[if_neg h0]at o;subst o;simp[Builtin.append_,run_underlying ht,run_underlying O,sizeOf,typeInfo,zeroValue,H,J,asInt,asIntOf,hw,u,v,hn,y,A,h0,Question.forced,hold,newRow,grownCap];congr 2;apply Array.ext';simp[List.append_assoc]
theorem Inv.append (h:Inv P G σ w) {t tx ty e:TypeId}{i:TypeInfo}{z:Value}(ht:P.underlying t=some (.slice e)) (hi:P.info? e=some i) (hz:i.zero=some z) (e5:z.cells.size=P.cellsOf e) (e7:0<P.cellsOf e)
 {H:Nat} {elems:List AV} {nil:Bool} {v x:Value} (hv:aU P G (.ah e elems (.tok H) nil) v) (ca:σ H=some (.tok elems.length))
 {xs:List AV} {news:List Value} (T:wI P e tx x xs.length news w) (hn:Bk P G e xs news)
 (cc:(elems.length+xs.length)*P.bytesOf e≤fF (P.bytesOf e)) (f3:elems.length+xs.length≤140737488355328):
 ∃v' w' G',(Builtin.append_ #[t,tx] ty #[v,x]).run P w= .ok v' w'∧G.Le G'∧Inv P G' (σ.set H (.tok (elems.length+xs.length))) w'∧
  aU P G' (.ah e (elems++xs) (.tok H) (nil&&xs.isEmpty)) v':=by
 have L:i.size=P.cellsOf e:=by simp[Program.cellsOf,hi]
 have b0:i.bytes=P.bytesOf e:=by simp[Program.bytesOf,hi]
 have fz:((elems.length+xs.length:Nat):Int)≤9223372036854775807:=by omega
 have be:∀old,old<elems.length+xs.length→Builtin.nextslicecap (elems.length+xs.length) old*i.bytes≤281474976710656:=by intro old ho;rw[b0];exact qq ho cc
 have db:∃(a:Option (Nat×Nat)) (cap:Nat) (vs:Nat→Value),v= .slice (a.map fun p=>⟨p.1,p.2,none⟩) elems.length cap∧(a=none→elems= []∧cap=0)∧(nil=true↔a=none)∧
  (∀i,i<elems.length→(elems.getD i .any).cells.length=P.cellsOf e)∧
  (∀b off,a=some (b,off)→ ∀k,k<elems.length*P.cellsOf e→G.mem b (off+k)=some (vs k))∧
  (∀i j,i<elems.length→j<P.cellsOf e→aU P G ((elems.getD i .any).cells.getD j .any) (vs (i*P.cellsOf e+j)))∧
  elems.length≤cap∧vV G (.tok H) e elems.length v:=by
  cases hv with
  |jw ho=>exact⟨none,0,fun _ =>undef,rfl,fun _ =>⟨rfl,rfl⟩,(by simp),(fun i hi=>(by simp at hi)),(fun _ _ hh=>(by cases hh)),(fun i j hi=>(by simp at hi)),Nat.le_refl _,ho⟩
  |ah vs hl hm hr hc ho=>exact⟨some (_,_),_,vs,rfl,(fun hh=>(by cases hh)),(by simp),hl,(fun b off hh k hk=>(by cases hh;exact hm k hk)),hr,hc,ho⟩
 obtain⟨a,cap,vs,rfl,Z,b3,hl,hm,hr,hc,r,U,ax,gc,e8⟩:=db;obtain⟨r',dn,cd⟩:=h.tok H _ ca;rw[U]at dn;obtain rfl:=Option.some.inj dn;have a7:=e8 cd.symm;have ak:r.a=a∧r.cap=cap:=by
  simp only[OR.val,Value.slice.injEq]at a7;refine⟨?_,a7.2.2⟩;have:=a7.1;cases ha:r.a<;>cases hb:a<;>simp[ha,hb]at this
  ·rfl
  ·rename_i p q;obtain⟨e1,e2⟩:=this;congr 1;exact Prod.ext e1 e2
 obtain⟨fa,e9,l⟩:=h.own H r U;rw[ak.1,ak.2,cd,ax]at l;by_cases am:elems.length+xs.length≤cap
 ·cases ha:a with
  |none=>
   obtain⟨h1,h2⟩:=Z ha;have a6:xs= []:=by(have:xs.length=0:=by omega);exact List.length_eq_zero_iff.1 this
   subst h1 h2 a6;have cj:news= []:=by have:=hn.len;simp at this;exact this
   subst cj;have D:(Builtin.append_ #[t,tx] ty #[.slice none 0 0,x]).run P w= .ok (.slice none 0 0) w:=vN ht hi T;refine⟨_,_,G,D,.refl G,?_,?_⟩
   ·have:σ.set H (.tok 0)=σ:=AS.uB _ _ _ (by simpa using ca);simpa[this]using h
   ·have:nil=true:=b3.2 ha;subst this;exact .jw ⟨r,U,ax,by omega,fun _ =>by rw[a7];simp[ha]⟩
  |some p=>
   obtain⟨b,off⟩:=p;subst ha;have ab:news.length=xs.length*P.cellsOf e:=hn.len;have E:∀j,j<news.length→elems.length*P.cellsOf e+j<cap*P.cellsOf e:=by intro j J;have:(elems.length+xs.length)*P.cellsOf e≤cap*P.cellsOf e:=Nat.mul_le_mul_right _ am;rw[Nat.add_mul]at this;omega
   have D:=vO (P:=P) w t tx ty e i ht hi b off elems.length cap x xs.length news T am
    (fun j J=>by have:=(l b off rfl (elems.length*P.cellsOf e+j) (by omega) (E j J)).1;rw[L,Nat.add_assoc];exact this)
    (fun j J=>by have:=(l b off rfl (elems.length*P.cellsOf e+j) (by omega) (E j J)).2.1;rw[L,Nat.add_assoc];exact this)
   rw[L]at D;have ch:nil=false:=by
    cases nil with
    |false=>rfl
    |true=>have:=b3.1 rfl;cases this
   subst ch;by_cases a6:xs= []
   ·subst a6;have cj:news= []:=by have:=hn.len;simp at this;exact this
    subst cj;refine⟨_,_,G,D,.refl G,?_,?_⟩
    ·have:σ.set H (.tok (elems.length+0))=σ:=AS.uB _ _ _ (by simpa using ca);show Inv P G (σ.set H (.tok (elems.length+0))) w;rw[this];exact h
    ·simp only[List.append_nil,List.length_nil,Nat.add_zero,Bool.false_and];exact .ah vs hl (hm b off rfl) hr hc ⟨r,U,ax,by omega,fun _ =>a7⟩
   ·have a5:0<xs.length:=List.length_pos_iff.2 a6;have Y:0<news.length:=by rw[ab];exact Nat.mul_pos a5 e7
    obtain⟨_,_,_,Q,fw,ge,e6⟩:=l b off rfl (elems.length*P.cellsOf e) (Nat.le_refl _) (by have:=E 0 Y;omega)
    let G':=G.grow H ⟨some (b,off),elems.length+xs.length,cap,e⟩ b (off+elems.length*P.cellsOf e) news.length (fun k=>news.getD k undef)
    have ay:∀k,elems.length*P.cellsOf e≤k→k<cap*P.cellsOf e→G.mem b (off+k)=none:=fun k h1 h2=>(l b off rfl k h1 h2).2.2.1;have hle:G.Le G':=by
     refine⟨rfl,rfl,fun b' o v em=> ?_,fun _ _ hh=>hh,fun t' r' et=> ?_⟩
     ·show(if b'=b∧off+elems.length*P.cellsOf e≤o∧o<off+elems.length*P.cellsOf e+news.length then _ else G.mem b' o)=some v;rw[if_neg]
      ·exact em
      ·rintro⟨rfl,h1,h2⟩;have:=ay (o-off) (by omega) (by have:=E (o-off-elems.length*P.cellsOf e) (by omega);omega);rw[show off+(o-off)=o by omega,em]at this;cases this
     ·by_cases av:t'=H
      ·subst av;rw[U]at et;obtain rfl:=Option.some.inj et;exact⟨⟨some (b,off),elems.length+xs.length,cap,e⟩,by simp[G',Gh.grow],ax.symm,.inr (by simp;omega)⟩
      ·exact⟨r',by simp[G',Gh.grow,av,et],rfl,.inl rfl⟩
    have A:=jS b news w (off+elems.length*P.cellsOf e);have y:∀c o,(c=b→o<off+elems.length*P.cellsOf e∨off+elems.length*P.cellsOf e+news.length≤o)→(w.setCells b (off+elems.length*P.cellsOf e) news).cell? ⟨c,o,none⟩=w.cell? ⟨c,o,none⟩:=
     fun c o ft=>World.cell?_setCells_out b news _ w ⟨c,o,none⟩ (fun hb _ =>ft hb)
    refine⟨_,_,G',D,hle,?_,?_⟩
    ·refine⟨oM b news w _ h.below fw,h.base,?_,?_,?_,h.eZ,?_,?_,?_,?_,?_⟩
     ·intro b' o v em;by_cases c0:b'=b∧off+elems.length*P.cellsOf e≤o∧o<off+elems.length*P.cellsOf e+news.length
      ·have b1:some (news.getD (o-(off+elems.length*P.cellsOf e)) undef)=some v:=by have:G'.mem b' o=some (news.getD (o-(off+elems.length*P.cellsOf e)) undef):=if_pos c0;rw[←this];exact em
       obtain rfl:=Option.some.inj b1;obtain⟨rfl,h1,h2⟩:=c0;have eb:=World.cell?_setCells_in b' news (off+elems.length*P.cellsOf e) w (fun j J=>by have:=(l b' off rfl (elems.length*P.cellsOf e+j) (by omega) (E j J)).1;rw[Nat.add_assoc];exact this) (o-(off+elems.length*P.cellsOf e)) (by omega);rw[show off+elems.length*P.cellsOf e+(o-(off+elems.length*P.cellsOf e))=o by omega]at eb;have eg:news.getD (o-(off+elems.length*P.cellsOf e)) undef=news[o-(off+elems.length*P.cellsOf e)]'(by omega):=by simp[List.getD_eq_getElem?_getD,List.getElem?_eq_getElem (show o-(off+elems.length*P.cellsOf e)<news.length by omega)]
       rw[eg];exact⟨eb,T.one _ (List.getElem_mem _)⟩
      ·have b1:G.mem b' o=some v:=by have:G'.mem b' o=G.mem b' o:=if_neg c0;rw[←this];exact em
       refine⟨?_,(h.mem b' o v b1).2⟩;rw[y b' o (fun hb=>by subst hb;omega)];exact(h.mem b' o v b1).1
     ·intro j J;have:=h.top j J;have ci:j≠H:=by intro X;subst X;rw[U]at this;cases this.2
      exact⟨this.1,by simp[G',Gh.grow,ci,this.2]⟩
     ·intro j c I;have:=h.dj j c I;refine⟨this.1,by rw[gQ];exact this.2.1,fun b5 cs' hn o=> ?_⟩;have F:c≠b:=fun X=>Q j (X ▸ I);show(if c=b∧ _ then _ else G.mem c o)=none;rw[if_neg (fun hh=>F hh.1)];exact this.2.2 b5 cs' (by
       by_cases J:j=H
       ·subst J;simp[AS.set]at hn
       ·simpa[AS.set,J]using hn) o
     ·intro j b5 cs I;have O:j≠H:=by intro X;subst X;simp[AS.set]at I
      simp[AS.set,O]at I;obtain⟨c,eo,k1,k2,k3,k4⟩:=h.cells j b5 cs I;have F:c≠b:=fun X=>Q j (X ▸ k1);exact⟨c,eo,k1,by rw[A c F];exact k2,k3,fun k hk=>⟨(k4 k hk).1.mono hle,(k4 k hk).2⟩⟩
     ·intro j es I;have O:j≠H:=by intro X;subst X;simp[AS.set]at I
      simp[AS.set,O]at I;obtain⟨c,ms,cl,k1,k2,k3,k4⟩:=h.maps j es I;have F:c≠b:=fun X=>Q j (X ▸ k1);refine⟨c,ms,cl,k1,by rw[A c F];exact k2,k3,fun k hk=> ?_⟩;obtain⟨m,m1,m2,m3⟩:=k4 k hk;exact⟨m,m1,m2.mono hle,m3.mono hle⟩
     ·intro j s p I;have O:j≠H:=by intro X;subst X;simp[AS.set]at I;subst I;cases p
      simp[AS.set,O]at I;obtain⟨c,k1,k2⟩:=h.dQ j s p I;have F:c≠b:=fun X=>Q j (X ▸ k1);exact⟨c,k1,k2.jk (fun _ _ h=>h) (fun o ho=>by rw[A c F];exact ho) (fun m ms cl d9=>by rw[A m (fun e=>by subst e;have q:=(l _ off rfl (elems.length*P.cellsOf _ +0) (by omega) (E 0 Y)).1;simp[World.cell?,d9]at q)];exact d9)⟩
     ·intro j m I;by_cases O:j=H
      ·subst O;simp[AS.set]at I;exact⟨⟨some (b,off),elems.length+xs.length,cap,e⟩,by simp[G',Gh.grow],I⟩
      ·simp[AS.set,O]at I;obtain⟨r',k1,k2⟩:=h.tok j m I;exact⟨r',by simp[G',Gh.grow,O,k1],k2⟩
     ·intro t' r' et;by_cases av:t'=H
      ·subst av;have:r'=⟨some (b,off),elems.length+xs.length,cap,e⟩:=by simp[G',Gh.grow]at et;exact et.symm
       subst this;refine⟨am,fun hh=>(by cases hh),fun c o ea k V n=> ?_⟩;cases ea;simp only at V n;have f4:elems.length*P.cellsOf e+news.length≤k:=by rw[ab,←Nat.add_mul];exact V
       obtain⟨q1,q2,q3,q4,q5,q6,q7⟩:=l b off rfl k (by omega) n;refine⟨?_,?_,?_,q4,q5,by rw[gQ];exact q6,fun t2 r2 o2 al ai S=> ?_⟩
       ·rw[y b _ (fun _ =>by omega)];exact q1
       ·rw[World.frozen?_setCells];exact q2
       ·show(if b=b∧ _ then _ else G.mem b (off+k))=none;rw[if_neg (by omega)];exact q3
       ·simp[G',Gh.grow,al]at ai;exact q7 t2 r2 o2 al ai S
      ·simp[G',Gh.grow,av]at et;obtain⟨k1,k2,k3⟩:=h.own t' r' et;refine⟨k1,k2,fun c o ea k V n=> ?_⟩;obtain⟨q1,q2,q3,q4,q5,q6,q7⟩:=k3 c o ea k V n;have F:c≠b:=by intro X;subst X;have:=q7 H r off (fun h=>av h.symm) U (by rw[ak.1]);rw[ak.2,cd,ax]at this;have:=E 0 Y;omega
       refine⟨?_,?_,?_,q4,q5,by rw[gQ];exact q6,fun t2 r2 o2 al ai S=> ?_⟩
       ·rw[y c _ (fun hb=>absurd hb F)];exact q1
       ·rw[World.frozen?_setCells];exact q2
       ·show(if c=b∧ _ then _ else G.mem c (o+k))=none;rw[if_neg (fun hh=>F hh.1)];exact q3
       ·by_cases dl:t2=H
        ·subst dl;simp[G',Gh.grow]at ai;subst ai;simp only[Option.some.injEq,Prod.mk.injEq]at S;exact absurd S.1.symm F
        ·simp[G',Gh.grow,dl]at ai;exact q7 t2 r2 o2 al ai S
    ·have J:=zG (P:=P) (G:=G') (e:=e) vs hl (fun i j h1 h2=>(hr i j h1 h2).mono hle) (hn.mono hle);have b6:xs.isEmpty=false:=by simp[a6]
     rw[Bool.false_and];have M:(elems++xs).length=elems.length+xs.length:=List.length_append;rw[←M];refine .ah (fun k=>if k<elems.length*P.cellsOf e then vs k else news.getD (k-elems.length*P.cellsOf e) undef) J.1 (fun k hk=> ?_) J.2 (by omega) ⟨⟨some (b,off),elems.length+xs.length,cap,e⟩,by simp[G',Gh.grow],rfl,by simp,fun _ =>by simp[OR.val]⟩;rw[M,Nat.add_mul,←ab]at hk;show(if b=b∧ _ then _ else G.mem b (off+k))= _;by_cases n:k<elems.length*P.cellsOf e
     ·rw[if_neg (by omega),if_pos n];exact hm b off rfl k n
     ·rw[if_pos (by omega),if_neg n];congr 2;omega
 ·have b6:xs.isEmpty=false:=by
   cases xs with
   |nil=>simp at am;omega
   |cons _ _ =>rfl
  let olds:=(List.range (elems.length*P.cellsOf e)).map vs
  have a0:olds.length=elems.length*P.cellsOf e:=by simp[olds]
  have hold:(Builtin.firstCells i.size elems.length (.slice (a.map fun p=>⟨p.1,p.2,none⟩) elems.length cap)).run P w.drew= .ok olds.toArray w.drew:=by
   cases ha:a with
   |none=>obtain⟨h1,h2⟩:=Z ha;subst h1 h2;simp[olds,Builtin.firstCells]
   |some p=>
    obtain⟨b,off⟩:=p;subst ha;refine run_firstCells_some (P:=P) w.drew i.size elems.length ⟨b,off,none⟩ elems.length cap olds (by rw[L];exact a0) (fun j u hu=> ?_);have J:j<elems.length*P.cellsOf e:=by
     rcases Nat.lt_or_ge j (elems.length*P.cellsOf e)with h1|h1
     ·exact h1
     ·rw[List.getElem?_eq_none (by rw[a0];exact h1)]at hu;cases hu
    have:u=vs j:=by
     have:olds[j]? =some (vs j):=by simp[olds,J]
     rw[this]at hu;exact(Option.some.inj hu).symm
    subst this;rw[Addr.add_lit];exact(h.mem b (off+j) (vs j) (hm b off rfl j J)).1
  have D:=rh (P:=P) w t tx ty e i z ht hi hz (a.map fun p=>⟨p.1,p.2,none⟩) elems.length cap olds hold x xs.length news T (by omega) fz (be cap (by omega));have ap:=grownCap_ge w (elems.length+xs.length) cap e
  let nv:Nat→Value:=fun k=>if k<elems.length*P.cellsOf e then vs k else news.getD (k-elems.length*P.cellsOf e) undef
  let nc:=grownCap w (elems.length+xs.length) cap e
  let row:Array Value:=(olds++news).toArray++Builtin.zeroCells z.cells (nc-(elems.length+xs.length))
  have a9:(olds++news).length=(elems.length+xs.length)*P.cellsOf e:=by rw[List.length_append,a0,hn.len,Nat.add_mul]
  have fb:∀k,k<(elems.length+xs.length)*P.cellsOf e→(olds++news)[k]? =some (nv k):=by
   intro k hk;by_cases h1:k<elems.length*P.cellsOf e
   ·rw[List.getElem?_append_left (by rw[a0];exact h1)];simp[olds,nv,h1]
   ·rw[List.getElem?_append_right (by rw[a0];omega),a0];have:k-elems.length*P.cellsOf e<news.length:=by rw[hn.len];rw[Nat.add_mul]at hk;omega
    simp[nv,h1,List.getD_eq_getElem?_getD,List.getElem?_eq_getElem this]
  have a8:∀k,k<(elems.length+xs.length)*P.cellsOf e→row[k]? =some (nv k)∧(nv k).oneCell'=true:=by
   intro k hk;constructor
   ·show((olds++news).toArray++ _)[k]? = _;rw[Array.getElem?_append_left (by rw[List.size_toArray,a9];exact hk),List.getElem?_toArray];exact fb k hk
   ·by_cases h1:k<elems.length*P.cellsOf e
    ·simp only[nv,if_pos h1];cases ha:a with
     |none=>obtain⟨h2,_⟩:=Z ha;subst h2;simp at h1
     |some p=>obtain⟨b,off⟩:=p;exact(h.mem b (off+k) (vs k) (hm b off ha k h1)).2
    ·simp only[nv,if_neg h1];have:k-elems.length*P.cellsOf e<news.length:=by rw[hn.len];rw[Nat.add_mul]at hk;omega
     rw[List.getD_eq_getElem?_getD,List.getElem?_eq_getElem this];exact T.one _ (List.getElem_mem _)
  have cb:(elems.length+xs.length)*P.cellsOf e≤row.size:=by show _ ≤(((olds++news).toArray++ _ :Array Value)).size;rw[Array.size_append,List.size_toArray,a9];omega
  have bs:row.size=nc*P.cellsOf e:=by show(((olds++news).toArray++ _ :Array Value)).size= _;rw[Array.size_append,List.size_toArray,a9,size_zeroCells,e5,←Nat.add_mul];congr 1;show _ +(grownCap w (elems.length+xs.length) cap e- _)=grownCap w (elems.length+xs.length) cap e;omega
  obtain⟨b4,cv⟩:G.Le (G.jk w.heap.size 0 ((elems.length+xs.length)*P.cellsOf e) nv)∧Inv P (G.jk w.heap.size 0 ((elems.length+xs.length)*P.cellsOf e) nv) σ (w.drew.alloc (.cells row e)):=
   h.drew.DE e row ((elems.length+xs.length)*P.cellsOf e) nv cb a8
  have a5:0<xs.length:=by
   cases xs with
   |nil=>simp at b6
   |cons _ _ =>simp
  obtain⟨bb,ck⟩:=cv.gH H ⟨some (w.heap.size,0),elems.length+xs.length,nc,e⟩ r U ax.symm (.inr (by simp;omega)) ap (fun hh=>by cases hh)
   (fun b o ea k V n=>by
    cases ea;simp only[Nat.zero_add]at V n⊢;have fi:k<row.size:=by rw[bs];exact n
    refine⟨?_,?_,?_,?_,h.I6,by simp,?_⟩
    ·simp only[World.cell?,show w.heap.size=w.drew.heap.size from rfl,heap_alloc_new];simp[fi]
    ·simp only[World.frozen?,show w.heap.size=w.drew.heap.size from rfl,heap_alloc_new];simp
    ·rw[Gh.eT (by omega)];cases fd:G.mem w.heap.size k with
     |none=>rfl
     |some v=>have:=h.Af fd;omega
    ·intro j I;have:=(h.dj j _ I).2.1;omega
    ·intro t' r' o' ci et S;obtain⟨q1,q2,q3⟩:=h.own t' r' et;rcases Nat.lt_or_ge (r'.len*P.cellsOf r'.iv) (r'.cap*P.cellsOf r'.iv)with fe|fk
     ·have:=(q3 _ _ S _ (Nat.le_refl _) fe).2.2.2.2.2.1;omega
     ·exact fk)
   (fun t2 r2 b2 o2 ci et ea k V n o' S=>by cases S;have:=((h.own t2 r2 et).2.2 _ _ ea k V n).2.2.2.2.2.1;omega)
  refine⟨_,_,_,D,b4.trans bb,ck,?_⟩;have hle:=b4.trans bb;have J:=zG (P:=P) (G:= _) (e:=e) vs hl (fun i j h1 h2=>(hr i j h1 h2).mono hle) (hn.mono hle);rw[b6,Bool.and_false];have M:(elems++xs).length=elems.length+xs.length:=List.length_append;refine aU.te nv M J.1 (fun k hk=> ?_) J.2 ap
   ⟨⟨some (w.heap.size,0),elems.length+xs.length,nc,e⟩,by simp[Gh.gH],rfl,by simp,fun _ =>by simp[OR.val,nc]⟩
  refine bb.mem _ _ _ ?_;rw[Gh.ka (by omega) (by omega)];simp
end Go.AW
namespace Go.AW
variable {P:Program} {G:Gh} {σ:AS} {w:World}
abbrev Fr:=Nat→AV
def Fr.put (s:Fr) (d:Option Nat) (v:AV):Fr:=match d with|none=>s|some d=>fun i=>if i=d then v else s i
def z5:Value→AV
 |.slice none 0 0=> .aC
 |v=> .sc v
def z6:Value→AV
 |.slice none 0 0=> .aC
 |.agg cs=> .agg (cs.toList.map z5)
 |v=> .sc v
theorem Ha (v:Value):aU P G (z5 v) v:=by
 unfold z5;split
 ·exact .aC
 ·exact .sc _
theorem fq (v:Value):aU P G (z6 v) v:=by
 unfold z6;split
 ·exact .aC
 ·rename_i cs;have:=aU.agg (P:=P) (G:=G) (cells:=cs.toList.map z5) cs.toList (by simp) (fun i j=>by simp at j;simp[j];exact Ha _);simpa using this
 ·exact .sc _
def ev (s:Fr):Operand→AV
 |.tmp t=>s t
 |.const v=>z6 v
 |.global _ => .any
 |.func f=> .sc (.func (.func f) #[] #[])
structure kO (P:Program) (G:Gh) (n:Nat) (ds:List Deferred) (s:Fr) (σ:AS) (a:Act) (w:World):Prop where
 inv:Inv P G σ w
 size:a.tmps.size=n
 ds:a.defers=ds
 rep:∀i,aU P G (s i) (a.tmps.getD i undef)
theorem kO.ev {n:Nat}{ds:List Deferred}{s:Fr}{a:Act}(h:kO P G n ds s σ a w) (x:Operand):aU P G (ev s x) (a.eval x):=by
 cases x with
 |tmp t=>exact h.rep t
 |const v=>exact fq v
 |global g=>exact .any _
 |func f=>exact .sc _
theorem kO.put {n:Nat}{ds:List Deferred}{s:Fr}{a:Act}{G':Gh}{σ':AS}{w':World}(h:kO P G n ds s σ a w) (hle:G.Le G') (l:Inv P G' σ' w') (d:Option Nat) (q:∀t,d=some t→t<n)
 {v:AV} {x:Value} (o:aU P G' v x):kO P G' n ds (s.put d v) σ' (a.put d x) w':=by
 cases d with
 |none=>exact⟨l,h.size,h.ds,fun i=>(h.rep i).mono hle⟩
 |some t=>
  have ht:=q t rfl;refine⟨l,by simp[Act.put,h.size],h.ds,fun i=> ?_⟩;by_cases j:i=t
  ·subst j;have:i<a.tmps.size:=by rw[h.size];exact ht
   simp[Fr.put,Act.put,this];exact o
  ·simp only[Fr.put,Act.put,j,if_false];have:(a.tmps.setIfInBounds t x).getD i undef=a.tmps.getD i undef:=by simp[Array.getElem?_setIfInBounds_ne (fun e=>j e.symm)]
   rw[this];exact(h.rep i).mono hle
def Out (P:Program) (G:Gh) (K Pn:AV→AS→Prop):Result Next→Prop
 |.ok (.value v) w'=> ∃G' σ' j,G.Le G'∧Inv P G' σ' w'∧aU P G' j v∧K j σ'
 |.ok .skip w'=> ∃G' σ' j,G.Le G'∧Inv P G' σ' w'∧aU P G' j undef∧K j σ'
 |.halt (.panic v) w'=> ∃G' σ' j,G.Le G'∧Inv P G' σ' w'∧aU P G' j v∧Pn j σ'
 | _ =>False
theorem OU {s:Sem Value}{v:Value}{w':World}(h:s.run P w= .ok v w'):((do pure (Next.value (←s))):Sem Next).run P w= .ok (.value v) w':=by simp[h]
theorem OV {s:Sem Unit}{w':World}(h:s.run P w= .ok () w'):((do s;pure Next.skip):Sem Next).run P w= .ok .skip w':=by simp[h]
variable {K Pn:AV→AS→Prop}
theorem Out.value {s:Sem Value}{v:Value}{w':World}{G':Gh}{σ':AS}{j:AV}(h:s.run P w= .ok v w') (hle:G.Le G') (o:Inv P G' σ' w') (l:aU P G' j v) (n:K j σ'):
 Out P G K Pn (((do pure (Next.value (←s))):Sem Next).run P w):=by
 rw[OU h];exact⟨G',σ',j,hle,o,l,n⟩
theorem Out.unit {s:Sem Unit}{w':World}{G':Gh}{σ':AS}{j:AV}(h:s.run P w= .ok () w') (hle:G.Le G') (o:Inv P G' σ' w') (l:aU P G' j undef) (n:K j σ'):
 Out P G K Pn (((do s;pure Next.skip):Sem Next).run P w):=by
 rw[OV h];exact⟨G',σ',j,hle,o,l,n⟩
theorem Out.pure {s:Sem Value}{v:Value}{j:AV}(o:Inv P G σ w) (h:s.run P w= .ok v w) (l:aU P G j v) (n:K j σ):
 Out P G K Pn (((do pure (Next.value (←s))):Sem Next).run P w):=Out.value h (.refl G) o l n
inductive LK where
 |agg (n:Nat)|one|bad
def fC (P:Program) (t:TypeId):LK:=
 match P.underlying t with
 |some (.struct _)|some (.array _ _)=> .agg (P.cellsOf t)
 |some _ =>if P.cellsOf t=1 then .one else .bad
 |none=> .bad
theorem bz {t:TypeId}(h:P.cellsOf t≠0):∃i,P.info? t=some i∧i.size=P.cellsOf t∧i.bytes=P.bytesOf t:=by
 cases j:P.info? t with
 |none=>simp[Program.cellsOf,j]at h
 |some i=>exact⟨i,rfl,by simp[Program.cellsOf,j],by simp[Program.bytesOf,j]⟩
theorem qI {t:TypeId}(h:fC P t= .one):(isAgg t).run P w= .ok false w∧P.cellsOf t=1:=by
 unfold fC at h;split at h
 ·cases h
 ·cases h
 ·rename_i d l ha hu;have h1:P.cellsOf t=1:=by
   by_cases j:P.cellsOf t=1
   ·exact j
   ·rw[if_neg j]at h;cases h
  refine⟨?_,h1⟩;simp only[isAgg,Sem.run_bind,run_underlying hu,Result.andThen];cases d<;>first|rfl|(exfalso;simp at l ha;done)|skip
 ·cases h
theorem qJ {t:TypeId}{n:Nat}(h:fC P t= .agg n):(isAgg t).run P w= .ok true w∧P.cellsOf t=n:=by
 unfold fC at h;split at h
 ·rename_i hu;cases h;exact⟨by simp[isAgg,Sem.run_bind,run_underlying hu,Result.andThen],rfl⟩
 ·rename_i hu;cases h;exact⟨by simp[isAgg,Sem.run_bind,run_underlying hu,Result.andThen],rfl⟩
 ·split at h<;>cases h
 ·cases h
def Reads (w:World) (b off:Nat) (vs:Nat→Value) (n:Nat):Prop:= ∀k,k<n→w.cell? ⟨b,off+k,none⟩=some (vs k)
theorem nB {t:TypeId}(h:fC P t= .one) {b off:Nat}{vs:Nat→Value}(j:Reads w b off vs 1):(loadVar t ⟨b,off,none⟩).run P w= .ok (vs 0) w:=by have:=j 0 (by omega);simp only[Nat.add_zero]at this;simp[loadVar,Sem.run_bind,(qI (w:=w) h).1,load,Sem.run,this]
theorem nC {t:TypeId}{n:Nat}(h:fC P t= .agg n) {b off:Nat}{vs:Nat→Value}(hn:n≠0) (y:Reads w b off vs n):
 (loadVar t ⟨b,off,none⟩).run P w= .ok (.agg ((List.range n).map vs).toArray) w:=by
 obtain⟨h1,D⟩:=qJ (w:=w) h;obtain⟨i,A,o,_⟩:=bz (P:=P) (t:=t) (by omega);have u:=run_loadCells_list (P:=P) w ⟨b,off,none⟩ ((List.range n).map vs) (fun j v l=>by
  have q:j<n:=by
   rcases Nat.lt_or_ge j n with h|h
   ·exact h
   ·rw[List.getElem?_eq_none (by simpa using h)]at l;cases l
  rw[Addr.add_lit,y j q];simpa[q]using l)
 simp only[List.length_map,List.length_range]at u;simp[loadVar,Sem.run_bind,h1,sizeOf,run_typeInfo w A,o,D,u]
def ew (P:Program) (σ:AS) (t:TypeId) (x:AV) (K:AV→Prop):Prop:=
 match x,fC P t with
 |.ptr id off,.one=>match σ id with|some (.cells _ cs)=>off<cs.length∧K (cs.getD off .any)| _ =>False
 |.ptr id off,.agg n=>match σ id with|some (.cells _ cs)=>n≠0∧off+n≤cs.length∧K (.agg ((cs.drop off).take n))| _ =>False
 |.g0 cells,.one=>0<cells.length∧K (cells.getD 0 .any)
 |.g0 cells,.agg n=>n≠0∧n≤cells.length∧K (.agg (cells.take n))
 | _,_ =>False
theorem gv {b off:Nat}{vs:Array Value}{ty:TypeId}{l:Nat×Nat}(h:w.heap[b]? =some (.cells vs ty l)) (j:off<vs.size):w.cell? ⟨b,off,none⟩=some (vs.getD off undef):=by simp[World.cell?,h,j]
theorem xH {K:AV→Prop}(q:Inv P G σ w) {t:TypeId}{x:AV}{v:Value}(o:aU P G x v) (h:ew P σ t x K):
 ∃a y H,v= .pointer (some a)∧(loadVar t a).run P w= .ok y w∧aU P G H y∧K H:=by
 unfold ew at h;split at h
 ·rename_i id off hl;split at h
  ·rename_i ty cs A;cases o with
   |ptr F=>obtain⟨J,vs,k1,u,I,k4⟩:=q.cells _ _ _ A;rw[F]at k1;obtain rfl:=Option.some.inj k1;exact⟨_,vs.getD off undef,_,rfl,nB (vs:=fun k=>vs.getD (off+k) undef) hl (fun k E=>gv u (by omega)),(k4 off h.1).1,h.2⟩
  ·exact h.elim
 ·rename_i id off n hl;split at h
  ·rename_i ty cs A;cases o with
   |ptr F=>
    obtain⟨J,vs,k1,u,I,k4⟩:=q.cells _ _ _ A;rw[F]at k1;obtain rfl:=Option.some.inj k1;refine⟨_,.agg ((List.range n).map fun k=>vs.getD (off+k) undef).toArray,_,rfl,nC (vs:=fun k=>vs.getD (off+k) undef) hl h.1 (fun k E=>gv u (by omega)),.agg _ ?_ ?_,h.2.2⟩
    ·simp;omega
    ·intro i l;have j:i<n:=by simp at l;omega
     have:=(k4 (off+i) (by omega)).1;simp only[List.getD_eq_getElem?_getD]at this⊢;rw[List.getElem?_take_of_lt j,List.getElem?_drop];simpa[j]using this
  ·exact h.elim
 ·rename_i cells hl;cases o with
  |g0 vs hm D=>exact⟨_,vs 0,_,rfl,nB hl (fun k E=>(q.mem _ _ _ (hm k (by omega))).1),D 0 h.1,h.2⟩
 ·rename_i cells n hl;cases o with
  |g0 vs hm D=>
   refine⟨_,.agg ((List.range n).map vs).toArray,_,rfl,nC hl h.1 (fun k E=>(q.mem _ _ _ (hm k (by omega))).1),.agg _ ?_ ?_,h.2.2⟩
   ·simp;omega
   ·intro i l;have j:i<n:=by simp at l;omega
    have:=D i (by omega);simp only[List.getD_eq_getElem?_getD]at this⊢;rw[List.getElem?_take_of_lt j];simpa[j]using this
 ·exact h.elim
theorem FX (j:Inv P G σ w) {t:TypeId}{x:AV}{v:Value}(l:aU P G x v) (h:ew P σ t x fun v=>K v σ):
 Out P G K Pn (((do pure (Next.value (←Instr.loadAt t v))):Sem Next).run P w):=by
 obtain⟨a,y,q,rfl,h1,o,n⟩:=xH j l h;refine Out.pure j (v:=y) ?_ o n;simpa only[Instr.loadAt,Instr.sureAddr,Sem.run_bind,Sem.run_pure,Result.andThen]using h1
def oR (P:Program) (σ:AS) (t:TypeId) (x v:AV) (K:AS→Prop):Prop:=
 match x with
 |.ptr id off=>match σ id with
  |some (.cells ty cs)=>v.Dv=true∧v.cells.all AV.one=true∧v.cells.length=P.cellsOf t∧P.cellsOf t≠0∧off+v.cells.length≤cs.length∧
   K (σ.set id (.cells ty (cs.take off++v.cells++cs.drop (off+v.cells.length))))
  | _ =>False
 | _ =>False
theorem CK (I:Inv P G σ w) {t:TypeId}{x v:AV}{D n:Value}(O:aU P G x D) (Q:aU P G v n) (h:oR P σ t x v fun σ'=>K .any σ'):
 Out P G K Pn (((do Instr.storeAt t D n;pure Next.skip):Sem Next).run P w):=by
 unfold oR at h;split at h
 ·rename_i id off;split at h
  ·rename_i ty cs F;obtain⟨h1,V,U,T,Z,S⟩:=h;cases O with
   |ptr J=>
    rename_i b;obtain⟨b',cur,k1,E,Y,k4⟩:=I.cells _ _ _ F;rw[J]at k1;obtain rfl:=Option.some.inj k1;obtain⟨M,L⟩:=Q.cells h1;obtain⟨i,y,A,_⟩:=bz (P:=P) (t:=t) T;have o:∀k,k<v.cells.length→(n.cells.getD k undef).oneCell'=true:=fun k l=>by refine(L k l).one ?_;have:=List.all_eq_true.1 V (v.cells.getD k .any) (by rw[List.getD_eq_getElem?_getD,List.getElem?_eq_getElem l];exact List.getElem_mem _);exact this
    have q:=run_storeCells_cells (P:=P) b off n.cells.toList 0 w
     (fun j H=>by rw[Nat.add_zero,gv E (by simp at H;omega)];rfl)
     (fun j H=>by simp[World.frozen?,E])
     (fun u hu=>by obtain⟨k,l,rfl⟩:=List.getElem_of_mem hu;have:=o k (by simp at l;omega);simp at l;simpa[l]using this)
    simp only[Nat.add_zero]at q;refine Out.unit (w':=w.setCells b off n.cells.toList) ?_ (.refl G) (I.store F off n.cells.toList v.cells (by simpa using M) (by simp;omega) (fun k l=> ?_) b J) (.any _) S
    ·simp only[Instr.storeAt,Instr.sureAddr,Sem.run_bind,Sem.run_pure,Result.andThen];simp only[storeVar,Sem.run_bind,sizeOf,run_typeInfo w y,Result.andThen,Sem.run_pure,M,U,A];simp[q]
    ·have X:n.cells.toList.getD k undef=n.cells.getD k undef:=by simp[List.getD_eq_getElem?_getD]
     rw[X];exact⟨L k l,o k l⟩
  ·exact h.elim
 ·exact h.elim
end Go.AW
namespace Go.AW
variable {P:Program} {G:Gh} {σ:AS} {w:World} {K Pn:AV→AS→Prop}
def AV.laid (v:AV):Bool:=v.Dv&&v.cells.all AV.one
theorem fx {v:AV}{x:Value}(h:aU P G v x) (hl:v.laid=true):
 x.cells.size=v.cells.length∧ ∀k,k<v.cells.length→aU P G (v.cells.getD k .any) (x.cells.getD k undef)∧(x.cells.getD k undef).oneCell'=true:=by
 simp only[AV.laid,Bool.and_eq_true]at hl;obtain⟨n,l⟩:=h.cells hl.1;refine⟨n,fun k j=>⟨l k j,(l k j).one ?_⟩⟩;exact List.all_eq_true.1 hl.2 (v.cells.getD k .any) (by rw[List.getD_eq_getElem?_getD,List.getElem?_eq_getElem j];exact List.getElem_mem _)
def az (P:Program) (t:TypeId):AV:=match (P.info? t).bind (·.zero)with|some v=>z6 v|none=> .any
theorem Bt {t:TypeId}(h:(az P t).laid=true):∃z,(zeroValue t).run P w= .ok z w∧aU P G (az P t) z:=by
 unfold az at h⊢;cases l:P.info? t with
 |none=>simp[l,AV.laid,AV.Dv]at h
 |some i=>
  cases j:i.zero with
  |none=>simp[l,j,AV.laid,AV.Dv]at h
  |some z=>simp only[j,Option.bind_some];exact⟨z,by simp[zeroValue,Sem.run_bind,run_typeInfo w l,j],fq z⟩
theorem uX (j:Inv P G σ w) (e:TypeId) {v:AV}{x:Value}(l:aU P G v x) (hl:v.laid=true) (h:∀id,σ id=none→K (.ptr id 0) (σ.set id (.cells e v.cells))):
 ∃G' σ',(newVar e x).run P w= .ok ⟨w.heap.size,0,none⟩ (w.alloc (.cells x.cells e))∧G.Le G'∧Inv P G' σ' (w.alloc (.cells x.cells e))∧
  aU P G' (.ptr G.top 0) (.pointer (some ⟨w.heap.size,0,none⟩))∧K (.ptr G.top 0) σ':=by
 obtain⟨o,n⟩:=fx l hl;obtain⟨G',g1,g2,g3⟩:=j.jr e x.cells v.cells o n;exact⟨G',_,by simp[newVar,newRow,Result.andThen],g1,g3,.ptr g2,h _ j.fresh⟩
def qg (P:Program) (σ:AS) (e:TypeId) (K:AV→AS→Prop):Prop:=
 (az P e).laid=true∧ ∀id,σ id=none→K (.ptr id 0) (σ.set id (.cells e (az P e).cells))
theorem CX (u:Inv P G σ w) {e:TypeId}(h:qg P σ e K):Out P G K Pn (((do pure (Next.value (←Instr.alloc e true (.tuple #[])))):Sem Next).run P w):=by obtain⟨h1,y⟩:=h;obtain⟨z,o,q⟩:=Bt (P:=P) (G:=G) (w:=w) h1;obtain⟨G',σ',k1,n,l,k4,j⟩:=uX u e q h1 y;refine Out.value (v:= .pointer (some ⟨w.heap.size,0,none⟩)) ?_ n l k4 j;simp[Instr.alloc,Sem.run_bind,o,k1]
def Lh (P:Program) (σ:AS) (e:TypeId) (v:AV) (K:AV→AS→Prop):Prop:=
 v.laid=true∧ ∀id,σ id=none→K (.ptr id 0) (σ.set id (.cells e v.cells))
theorem IZ (q:Inv P G σ w) {e:TypeId}{v:AV}{x:Value}(o:aU P G v x) (h:Lh P σ e v K):Out P G K Pn (((do pure (Next.value (←Instr.box e x))):Sem Next).run P w):=by obtain⟨G',σ',k1,n,l,k4,j⟩:=uX q e o h.1 h.2;refine Out.value (v:= .pointer (some ⟨w.heap.size,0,none⟩)) ?_ n l k4 j;simp[Instr.box,k1]
def aB (P:Program) (t:TypeId) (i:Nat):Option (Nat×Nat):=
 match P.underlying t with
 |some (.struct fs)=>(fs[i]?).map fun f=>(f.offset,P.cellsOf f.type)
 |some (.array _ e)=>some (i*P.cellsOf e,P.cellsOf e)
 | _ =>none
def p9 (P:Program) (t:TypeId) (i:Nat):Option (Nat×LK):=
 match P.underlying t with
 |some (.struct fs)=>(fs[i]?).map fun f=>(f.offset,fC P f.type)
 | _ =>none
def lG (cs:List AV) (off:Nat) (vs:List AV):List AV:=cs.take off++vs++cs.drop (off+vs.length)
def jO (P:Program) (t:TypeId):List AV→List (Nat×AV)→(List AV→Prop)→Prop
 |cs,[],K=>K cs
 |cs,(i,v)::r,K=>match aB P t i with
  |some (off,n)=>v.Dv=true∧v.cells.length=n∧n≠0∧off+n≤cs.length∧jO P t (lG cs off v.cells) r K
  |none=>False
theorem qP (l:List Value):∀(cs:Array Value) (off j:Nat),off+j+l.length≤cs.size→
 (l.zipIdx j).foldl (fun cs (p:Value×Nat)=>cs.setIfInBounds (off+p.2) p.1) cs=ry cs (off+j) l:=by
 induction l with
 |nil=>intro cs off j _;rfl
 |cons v r n=>intro cs off j h;simp only[List.zipIdx_cons,List.foldl_cons,ry];rw[n _ _ _ (by simp at h⊢;omega)];rfl
theorem pF {cs vs:List AV}{off:Nat}(h:off+vs.length≤cs.length):(lG cs off vs).length=cs.length:=by simp[lG];omega
theorem BG {cs vs:List AV}{off k:Nat}(h:off+vs.length≤cs.length):(lG cs off vs).getD k .any=if off≤k∧k<off+vs.length then vs.getD (k-off) .any else cs.getD k .any:=by
 have t:(cs.take off).length=off:=by simp;omega
 unfold lG;simp only[List.getD_eq_getElem?_getD];by_cases l:off≤k∧k<off+vs.length
 ·rw[if_pos l,List.append_assoc,List.getElem?_append_right (by omega),t,List.getElem?_append_left (by omega)]
 ·rw[if_neg l];by_cases j:k<off
  ·rw[List.append_assoc,List.getElem?_append_left (by omega),List.getElem?_take_of_lt j]
  ·rw[List.append_assoc,List.getElem?_append_right (by omega),t,List.getElem?_append_right (by omega),List.getElem?_drop];congr 2;omega
def gf (P:Program) (G:Gh) (cs:List AV) (vs:Array Value):Prop:=vs.size=cs.length∧ ∀k,k<cs.length→aU P G (cs.getD k .any) (vs.getD k undef)
theorem gf.lG {cs vs:List AV}{a:Array Value}{l:List Value}(h:gf P G cs a) {off:Nat}(j:off+vs.length≤cs.length) (hl:l.length=vs.length)
 (o:∀k,k<vs.length→aU P G (vs.getD k .any) (l.getD k undef)):gf P G (lG cs off vs) (ry a off l):=by
 refine⟨by rw[oY,h.1,pF j],fun k n=> ?_⟩;rw[pF j]at n;rw[BG j,uq _ _ _ _ (by rw[h.1];omega),hl];split
 ·rename_i q;exact o _ (by omega)
 ·exact h.2 k n
theorem KH {t:TypeId}(place:Nat→Option (Nat×Nat)) (O:∀i,aB P t i=place i∨aB P t i=none):∀(parts:List (Nat×AV)) (j:List (Nat×Value)) (cs:List AV) (a:Array Value) (K:List AV→Prop),
 j.length=parts.length→(∀i,i<parts.length→(j.getD i (0,undef)).1=(parts.getD i (0,.any)).1∧aU P G (parts.getD i (0,.any)).2 (j.getD i (0,undef)).2)→
 gf P G cs a→jO P t cs parts K→ ∃E cs',Instr.fill place a j=some E∧gf P G cs' E∧K cs':=by
 intro parts;induction parts with
 |nil=>intro j cs a K hl _ D h;have:j= []:=List.length_eq_zero_iff.1 (by simpa using hl);subst this;exact⟨a,cs,rfl,D,h⟩
 |cons p r L=>
  intro j cs a K hl o D h;obtain⟨i,v⟩:=p;cases j with
  |nil=>simp at hl
  |cons q J=>
   obtain⟨i',x⟩:=q;have h0:=o 0 (by simp);simp at h0;obtain⟨rfl,M⟩:=h0;simp only[jO]at h;split at h
   ·rename_i off n u;obtain⟨h1,X,V,U,Q⟩:=h;obtain⟨T,S⟩:=M.cells h1;have y:place i'=some (off,n):=by
     rcases O i' with h|h
     ·rw[←h,u]
     ·rw[h]at u;cases u
    have F:x.cells.size=n:=by omega
    have A:¬(off+n>a.size):=by rw[D.1];omega
    have hf:Array.foldl (fun cs (p:Value×Nat)=>cs.setIfInBounds (off+p.2) p.1) a x.cells.zipIdx=ry a off x.cells.toList:=by have:=qP x.cells.toList a off 0 (by rw[Nat.add_zero,Array.length_toList,D.1];omega);rw[Nat.add_zero]at this;rw[←this,←Array.foldl_toList];simp
    have I:=D.lG (off:=off) (vs:=v.cells) (l:=x.cells.toList) (by omega) (by simpa using T) (fun k H=>by have:=S k H;simpa[List.getD_eq_getElem?_getD]using this);obtain⟨E,cs',g1,g2,g3⟩:=L J _ _ K (by simpa using hl) (fun k H=>by have:=o (k+1) (by simpa using H);simpa using this) I Q;refine⟨E,cs',?_,g2,g3⟩;simp only[Instr.fill,y,F,ne_eq,not_true_eq_false,decide_false,Bool.false_or,A];rw[←g1];simp only[Bool.false_eq_true,if_false];rw[hf]
   ·exact h.elim
end Go.AW
namespace Go.AW
variable {P:Program} {G:Gh} {σ:AS} {w:World} {K Pn:AV→AS→Prop}
def cE (P:Program) (t:TypeId):Bool:=
 match P.underlying t with
 |some (.struct fs)=>(fs.toList.mapM (fun f=>(P.info? f.type).map fun i=>(f.offset,i.size))).isSome
 |some (.array _ e)=>(P.info? e).isSome
 | _ =>false
theorem Aj {fs:List Field}{j:List (Nat×Nat)}(h:fs.mapM (fun f=>(P.info? f.type).map fun i=>(f.offset,i.size))=some j):
 j=fs.map fun f=>(f.offset,P.cellsOf f.type):=by
 induction fs generalizing j with
 |nil=>simp at h;subst h;rfl
 |cons f fs o=>
  simp only[List.mapM_cons,Option.bind_eq_bind,Option.pure_def]at h;cases l:P.info? f.type with
  |none=>simp[l]at h
  |some i=>
   cases n:fs.mapM (fun f=>(P.info? f.type).map fun i=>(f.offset,i.size))with
   |none=>simp[l,n]at h
   |some rest=>simp[l,n]at h;subst h;rw[o n];simp[Program.cellsOf,l]
def oS (P:Program) (t:TypeId) (parts:List (Nat×AV)) (K:AV→Prop):Prop:=
 cE P t=true∧(az P t).laid=true∧jO P t (az P t).cells parts fun cs=>K (.agg cs)
theorem cR {t:TypeId}(h:(az P t).laid=true):∃i z,P.info? t=some i∧i.zero=some z∧az P t=z6 z:=by
 unfold az at h⊢;cases l:P.info? t with
 |none=>simp[l,AV.laid,AV.Dv]at h
 |some i=>
  cases j:i.zero with
  |none=>simp[l,j,AV.laid,AV.Dv]at h
  |some z=>exact⟨i,z,rfl,j,by simp[j]⟩
theorem CW (u:Inv P G σ w) {t:TypeId}{parts:Array (Nat×Operand)}{s:Fr}{ρ:Operand→Value}(D:∀x,aU P G (ev s x) (ρ x))
 (h:oS P t (parts.toList.map fun p=>(p.1,ev s p.2)) fun v=>K v σ):
 Out P G K Pn (((do pure (Next.value (←Instr.build t (parts.map fun(i,x)=>(i,ρ x))))):Sem Next).run P w):=by
 obtain⟨h1,T,V⟩:=h;obtain⟨it,z,A,O,E⟩:=cR T;have H:aU P G (az P t) z:=by rw[E];exact fq z
 have S:=fx H T;have I:gf P G (az P t).cells z.cells:=⟨S.1,fun k L=>(S.2 k L).1⟩;have F:(parts.map fun(i,x)=>(i,ρ x)).toList=parts.toList.map fun p=>(p.1,ρ p.2):=by simp
 have j:∀(place:Nat→Option (Nat×Nat)),(∀i,aB P t i=place i∨aB P t i=none)→
  ∃l cs',Instr.fill place z.cells (parts.map fun(i,x)=>(i,ρ x)).toList=some l∧gf P G cs' l∧K (.agg cs') σ:=by
  intro place y;rw[F];refine KH (K:=fun cs=>K (.agg cs) σ) place y _ _ _ _ (by simp) (fun i u=> ?_) I V;simp at u;simp[List.getD_eq_getElem?_getD,u];exact D _
 have fin:∀l cs',P.built t (parts.map fun(i,x)=>(i,ρ x)).toList=some l→gf P G cs' l→K (.agg cs') σ→
  Out P G K Pn (((do pure (Next.value (←Instr.build t (parts.map fun(i,x)=>(i,ρ x))))):Sem Next).run P w):=by
  intro l cs' U Q L;refine Out.pure u (run_build w t _ l U) ?_ L;have:=aU.agg (P:=P) (G:=G) (cells:=cs') l.toList (by simpa using Q.1) (fun i u=>by have:=Q.2 i u;simpa[List.getD_eq_getElem?_getD]using this);simpa using this
 unfold cE at h1;split at h1
 ·rename_i fs hu;cases y:fs.toList.mapM (fun f=>(P.info? f.type).map fun i=>(f.offset,i.size))with
  |none=>rw[y]at h1;cases h1
  |some o=>have J:=Aj y;obtain⟨l,cs',g1,g2,g3⟩:=j (o.toArray[·]?) (fun i=>by left;simp[aB,hu,J]);exact fin l cs' (by simp[Program.built,A,hu,O,y]at g1⊢;exact g1) g2 g3
 ·rename_i n e hu;cases q:P.info? e with
  |none=>rw[q]at h1;cases h1
  |some M=>obtain⟨l,cs',g1,g2,g3⟩:=j (fun i=>some (i*M.size,M.size)) (fun i=>by left;simp[aB,hu,Program.cellsOf,q]);exact fin l cs' (by simp[Program.built,A,hu,O,q]at g1⊢;exact g1) g2 g3
 ·cases h1
def bC (P:Program) (t:TypeId):Option TypeId:=match P.underlying t with|some (.slice e)=>some e| _ =>none
theorem dA {t e:TypeId}(h:bC P t=some e):P.underlying t=some (.slice e):=by
 unfold bC at h;split at h
 ·cases h;assumption
 ·cases h
def fR (n:Nat):Nat→List (Nat×AV)→Bool
 |k,[]=>true
 |k,(i,v)::r=>i==k&&v.laid&&v.cells.length==n&&fR n (k+1) r
def ey (P:Program) (σ:AS) (t:TypeId) (len:Nat) (parts:List (Nat×AV)) (K:AV→AS→Prop):Prop:=
 match bC P t with
 |some e=>parts.length=len∧P.cellsOf e≠0∧len*P.cellsOf e≤2^24∧(az P e).laid=true∧(az P e).cells.length=P.cellsOf e∧fR (P.cellsOf e) 0 parts=true∧
  K (.ah e (parts.map (·.2)) .full false) σ
 |none=>False
theorem vt {e:TypeId} :∀(parts:List (Nat×AV)) (l:List (Nat×Value)) (k m:Nat) (a:Array Value),
 l.length=parts.length→(∀i,i<parts.length→(l.getD i (0,undef)).1=(parts.getD i (0,.any)).1∧aU P G (parts.getD i (0,.any)).2 (l.getD i (0,undef)).2)→
 fR m k parts=true→(k+parts.length)*m=a.size→
 (∀c,c<k*m→(a.getD c undef).oneCell'=true)→
 ∃A,Instr.fill (fun i=>some (i*m,m)) a l=some A∧A.size=a.size∧(∀c,c<k*m→A.getD c undef=a.getD c undef)∧
  (∀i j,i<parts.length→j<m→aU P G ((parts.getD i (0,.any)).2.cells.getD j .any) (A.getD ((k+i)*m+j) undef)∧(A.getD ((k+i)*m+j) undef).oneCell'=true):=by
 intro parts;induction parts with
 |nil=>intro l k m a hl _ _ _ _;have:l= []:=List.length_eq_zero_iff.1 (by simpa using hl);subst this;exact⟨a,rfl,rfl,fun _ _ =>rfl,fun i j H=>by simp at H⟩
 |cons p r M=>
  intro l k m a hl u o D F;obtain⟨i,v⟩:=p;cases l with
  |nil=>simp at hl
  |cons q L=>
   obtain⟨i',x⟩:=q;have h0:=u 0 (by simp);simp at h0;obtain⟨rfl,O⟩:=h0;simp only[fR,Bool.and_eq_true,beq_iff_eq]at o;obtain⟨⟨⟨rfl,y⟩,hlen⟩,o⟩:=o;obtain⟨Y,J⟩:=fx O y;have E:x.cells.size=m:=by omega
   have I:i'*m+m≤a.size:=by rw[←D];have:(i'+1)*m≤(i'+(((i',v)::r).length))*m:=Nat.mul_le_mul_right _ (by simp);rw[Nat.add_mul]at this;omega
   have hf:Array.foldl (fun cs (p:Value×Nat)=>cs.setIfInBounds (i'*m+p.2) p.1) a x.cells.zipIdx=ry a (i'*m) x.cells.toList:=by have:=qP x.cells.toList a (i'*m) 0 (by rw[Nat.add_zero,Array.length_toList];omega);rw[Nat.add_zero]at this;rw[←this,←Array.foldl_toList];simp
   have n:∀c,(ry a (i'*m) x.cells.toList).getD c undef=if i'*m≤c∧c<i'*m+m then x.cells.getD (c-i'*m) undef else a.getD c undef:=by
    intro c;rw[uq _ _ _ _ (by simp;omega)];simp only[Array.length_toList,E];split
    ·simp[List.getD_eq_getElem?_getD]
    ·rfl
   have Q:(i'+1)*m=i'*m+m:=by rw[Nat.add_mul];omega
   obtain⟨A,g1,g2,g3,X⟩:=M L (i'+1) m (ry a (i'*m) x.cells.toList) (by simpa using hl) (fun k S=>by
    have:=u (k+1) (by simpa using S);simpa using this) o (by rw[oY,←D];congr 1;simp;omega) (fun c V=>by
     rw[n];split
     ·rename_i U;exact(J (c-i'*m) (by omega)).2
     ·exact F c (by omega))
   refine⟨A,?_,by rw[g2,oY],fun c V=> ?_,fun i j H T=> ?_⟩
   ·simp only[Instr.fill,E,ne_eq,not_true_eq_false,decide_false,Bool.false_or,show ¬(i'*m+m>a.size) by omega,if_false,Bool.false_eq_true];rw[←g1,hf]
   ·rw[g3 c (by omega),n,if_neg (by omega)]
   ·cases i with
    |zero=>
     simp only[Nat.add_zero];rw[g3 _ (by omega),n,if_pos (by omega)];have:i'*m+j-i'*m=j:=by omega
     rw[this];exact J j (by omega)
    |succ i=>have:=X i j (by simpa using H) T;rw[show i'+1+i=i'+(i+1) by omega]at this;simpa using this
theorem tr (y:Inv P G σ w) {t:TypeId}{len:Nat}{parts:Array (Nat×Operand)}{s:Fr}{ρ:Operand→Value}(O:∀x,aU P G (ev s x) (ρ x))
 (h:ey P σ t len (parts.toList.map fun p=>(p.1,ev s p.2)) K):
 Out P G K Pn (((do pure (Next.value (←Instr.buildSlice t len (parts.map fun(i,x)=>(i,ρ x))))):Sem Next).run P w):=by
 unfold ey at h;split at h
 ·rename_i e he;obtain⟨h1,h2,h3,h4,h5,T,h7⟩:=h;have hu:=dA he;obtain⟨it,z,D,hz,Z⟩:=cR h4;have S:it.size=P.cellsOf e:=by simp[Program.cellsOf,D]
  have Q:(parts.map fun(i,x)=>(i,ρ x)).toList=parts.toList.map fun p=>(p.1,ρ p.2):=by simp
  have hlen:parts.toList.length=len:=by simpa using h1
  let zero:Array Value:=if len*P.cellsOf e=0 then #[]else z.cells
  let init:Array Value:=(Array.range (len*P.cellsOf e)).map (zero[· %zero.size]!)
  obtain⟨M,g1,g2,_,U⟩:=vt (P:=P) (G:=G) (e:=e) (parts.toList.map fun p=>(p.1,ev s p.2)) (parts.toList.map fun p=>(p.1,ρ p.2)) 0 (P.cellsOf e) init (by simp) (fun i y=>by simp at y;simp[List.getD_eq_getElem?_getD,y];exact O _) T (by simp at hlen;simp[init,hlen]) (fun c hc=>by omega);have A:M.size=len*P.cellsOf e:=by rw[g2];simp[init]
  have F:(Instr.buildSlice t len (parts.map fun(i,x)=>(i,ρ x))).run P w= .ok (.slice (some ⟨w.heap.size,0,none⟩) len len) (w.alloc (.cells M e)):=by
   have E:¬(len*P.cellsOf e>2^24):=by omega
   have o:Instr.fill (fun i=>some (i*P.cellsOf e,P.cellsOf e)) ((Array.range (len*P.cellsOf e)).map (zero[· %zero.size]!)) (parts.map fun(i,x)=>(i,ρ x)).toList=some M:=by rw[Q];exact g1
   simp only[Instr.buildSlice,Sem.run_bind,run_underlying hu,Result.andThen,sizeOf,run_typeInfo w D,Sem.run_pure,S,E,if_false];by_cases h0:len*P.cellsOf e=0
   ·simp only[zero,h0,if_true]at o;simp[h0,newRow];simp at o;simp[o,Result.andThen]
   ·simp only[zero,h0,if_false]at o;simp only[h0,if_false,Sem.run_bind,zeroValue,run_typeInfo w D,hz,Result.andThen,Sem.run_pure];rw[o];simp[newRow,Result.andThen]
  let vs:Nat→Value:=fun k=>M.getD k undef
  have I:∀k,k<len*P.cellsOf e→k/P.cellsOf e<len∧k%P.cellsOf e<P.cellsOf e∧(k/P.cellsOf e)*P.cellsOf e+k%P.cellsOf e=k:=fun k u=>
   ⟨Nat.div_lt_of_lt_mul (by rw[Nat.mul_comm];exact u),Nat.mod_lt _ (by omega),by rw[Nat.mul_comm];exact Nat.div_add_mod k _⟩
  obtain⟨hle,hinv⟩:=y.DE e M (len*P.cellsOf e) vs (by omega) (fun k u=>by obtain⟨k1,X,V⟩:=I k u;have:=(U (k/P.cellsOf e) (k%P.cellsOf e) (by simp at hlen⊢;omega) X).2;rw[Nat.zero_add,V]at this;exact⟨by simp[vs,A,u],this⟩);refine Out.value F hle hinv ?_ h7;have H:((parts.toList.map fun p=>(p.1,ev s p.2)).map (·.2)).length=len:=by simpa using h1
  have L:∀i,i<len→((((parts.toList.map fun(p:Nat×Operand)=>(p.1,ev s p.2)).map (fun(q:Nat×AV)=>q.2)).getD i AV.any).cells.length=P.cellsOf e)∧
   ((parts.toList.map fun(p:Nat×Operand)=>(p.1,ev s p.2)).map (fun(q:Nat×AV)=>q.2)).getD i AV.any=((parts.toList.map fun(p:Nat×Operand)=>(p.1,ev s p.2)).getD i (0,AV.any)).2:=by
   intro i J;have n:i<(parts.toList.map fun p=>(p.1,ev s p.2)).length:=by simp at hlen⊢;omega
   refine⟨?_,by simp only[List.getD_eq_getElem?_getD,List.getElem?_map,List.getElem?_eq_getElem n,Option.map_some,Option.getD_some]⟩;have key:∀(l:List (Nat×AV)) (k:Nat),fR (P.cellsOf e) k l=true→ ∀i,i<l.length→((l.map (fun(q:Nat×AV)=>q.2)).getD i AV.any).cells.length=P.cellsOf e:=by
    intro l;induction l with
    |nil=>intro k _ i y;simp at y
    |cons p r Y=>
     intro k u i y;obtain⟨q,v⟩:=p;simp only[fR,Bool.and_eq_true,beq_iff_eq]at u;cases i with
     |zero=>simpa using u.1.2
     |succ i=>simpa using Y (k+1) u.2 i (by simpa using y)
   exact key _ 0 T i n
  refine aU.te vs H (fun i J=>(L i (by omega)).1) (fun k u=> ?_) (fun i j J hj=> ?_) (Nat.le_refl _) ⟨_,rfl⟩
  ·rw[Gh.ka (by omega) (by omega)];simp
  ·rw[(L i (by omega)).2];have:=(U i j (by simp at hlen⊢;omega) hj).1;rw[Nat.zero_add]at this;exact this.mono hle
 ·exact h.elim
end Go.AW
namespace Go.AW
variable {P:Program} {G:Gh} {σ:AS} {w:World} {K Pn:AV→AS→Prop}
def dR (P:Program) (t:TypeId) (x:AV) (f:Nat) (K:AV→Prop):Prop:=
 match aB P t f,P.underlying t with
 |some (o,n),some (.struct _)=>n≠0∧(match x with
  |.ptr id off=>K (.ptr id (off+o))
  |.g0 cells=>K (.g0 (cells.drop o))
  | _ =>False)
 | _,_ =>False
theorem vS (A:Inv P G σ w) {t:TypeId}{x:AV}{v:Value}{f:Nat}(y:aU P G x v) (h:dR P t x f fun v=>K v σ):
 Out P G K Pn (((do pure (Next.value (←Instr.fieldAt t v f))):Sem Next).run P w):=by
 unfold dR at h;split at h
 ·rename_i o n fs j hu;obtain⟨hn,h⟩:=h;simp only[aB,hu]at j;cases hf:fs[f]? with
  |none=>rw[hf]at j;cases j
  |some fl=>
   rw[hf]at j;simp only[Option.map_some,Option.some.injEq,Prod.mk.injEq]at j;obtain⟨rfl,rfl⟩:=j;obtain⟨i,l,D,_⟩:=bz (P:=P) (t:=fl.type) hn;have q:i.size≠0:=by omega
   have run:∀b off:Nat,(Instr.fieldAt t (.pointer (some ⟨b,off,none⟩)) f).run P w= .ok (.pointer (some ⟨b,off+fl.offset,none⟩)) w:=fun b off=>by simp[Instr.fieldAt,run_underlying hu,hf,Instr.sureAddr,fieldPlace,sizeOf,run_typeInfo w l,q,Addr.add_lit]
   split at h
   ·cases y with
    |ptr F=>exact Out.pure A (run _ _) (.ptr F) h
   ·rename_i cells;cases y with
    |g0 vs hm E=>
     refine Out.pure A (run _ _) (.g0 (fun k=>vs (fl.offset+k)) (fun k u=> ?_) (fun k u=> ?_)) h
     ·rw[Nat.add_assoc];exact hm _ (by simp at u;omega)
     ·have:=E (fl.offset+k) (by simp at u;omega);simpa[List.getD_eq_getElem?_getD]using this
   ·exact h.elim
 ·exact h.elim
def kM (P:Program) (t:TypeId) (x:AV) (f:Nat) (K:AV→Prop):Prop:=
 match p9 P t f,x with
 |some (o,.one),.agg cells=>o<cells.length∧K (cells.getD o .any)
 |some (o,.agg n),.agg cells=>n≠0∧o+n≤cells.length∧K (.agg ((cells.drop o).take n))
 | _,_ =>False
theorem CQ (E:Inv P G σ w) {t:TypeId}{x:AV}{v:Value}{f:Nat}(D:aU P G x v) (h:kM P t x f fun v=>K v σ):
 Out P G K Pn (((do pure (Next.value (←Instr.field t v f))):Sem Next).run P w):=by
 unfold kM at h;have get:∀ {o:Nat} {l:LK},p9 P t f=some (o,l)→ ∃fs fl,P.underlying t=some (.struct fs)∧fs[f]? =some fl∧fl.offset=o∧fC P fl.type=l:=by
  intro o l hf;unfold p9 at hf;split at hf
  ·rename_i fs hu;cases j:fs[f]? with
   |none=>rw[j]at hf;cases hf
   |some fl=>rw[j]at hf;simp only[Option.map_some,Option.some.injEq,Prod.mk.injEq]at hf;exact⟨fs,fl,hu,j,hf.1,hf.2⟩
  ·cases hf
 split at h
 ·rename_i o cells hf;obtain⟨fs,fl,hu,j,rfl,hl⟩:=get hf;cases D with
  |agg vs l y=>
   have:=y fl.offset h.1;have A:fl.offset<vs.length:=by omega
   refine Out.pure E (v:=vs.getD fl.offset undef) ?_ this h.2;simp[Instr.field,run_underlying hu,j,part,(qI (w:=w) hl).1,asAgg,A]
 ·rename_i o n cells hf;obtain⟨fs,fl,hu,j,rfl,hl⟩:=get hf;cases D with
  |agg vs l y=>
   obtain⟨k1,J⟩:=qJ (w:=w) hl;obtain⟨i,u,F,_⟩:=bz (P:=P) (t:=fl.type) (by omega);refine Out.pure E (v:= .agg ((vs.drop fl.offset).take n).toArray) ?_ (.agg _ (by simp;omega) (fun k H=> ?_)) h.2.2
   ·have I:vs.toArray.extract fl.offset (fl.offset+i.size)=((vs.drop fl.offset).take n).toArray:=by
     have:fl.offset+i.size-fl.offset=n:=by omega
     simp[this]
    simp[Instr.field,run_underlying hu,j,part,k1,asAgg,sizeOf,run_typeInfo w u];simpa using I
   ·have q:k<n:=by simp at H;omega
    have:=y (fl.offset+k) (by omega);simp only[List.getD_eq_getElem?_getD]at this⊢;rw[List.getElem?_take_of_lt q,List.getElem?_take_of_lt q,List.getElem?_drop,List.getElem?_drop];exact this
 ·exact h.elim
def oP (P:Program) (t:TypeId):Option (Nat×TypeId):=match P.underlying t with|some (.array n e)=>some (n,e)| _ =>none
theorem yX {t e:TypeId}{n:Nat}(h:oP P t=some (n,e)):P.underlying t=some (.array n e):=by
 unfold oP at h;split at h
 ·cases h;assumption
 ·cases h
def cM (P:Program) (t:TypeId) (x i:AV) (K:AV→Prop):Prop:=
 match i with
 |.sc (.int _ i)=>match x with
  |.ah e elems _ _ =>bC P t=some e∧P.cellsOf e≠0∧0≤i∧i<elems.length∧K (.g0 (elems.getD i.toNat .any).cells)
  |.dg id off len _ =>match bC P t with
   |some e=>P.cellsOf e≠0∧0≤i∧i<len∧K (.ptr id (off+i.toNat*P.cellsOf e))
   |none=>False
  |.ptr id off=>match oP P t with
   |some (n,e)=>P.cellsOf e≠0∧0≤i∧i<n∧K (.ptr id (off+i.toNat*P.cellsOf e))
   |none=>False
  |.g0 cells=>match oP P t with
   |some (n,e)=>P.cellsOf e≠0∧0≤i∧i<n∧K (.g0 (cells.drop (i.toNat*P.cellsOf e)))
   |none=>False
  | _ =>False
 | _ =>False
theorem vR (E:Inv P G σ w) {t:TypeId}{x L:AV}{v J:Value}(D:aU P G x v) (H:aU P G L J) (h:cM P t x L fun v=>K v σ):
 Out P G K Pn (((do pure (Next.value (←Instr.indexAt t v J))):Sem Next).run P w):=by
 unfold cM at h;split at h
 ·rename_i k i;cases H;split at h
  ·rename_i e elems own nil;obtain⟨h1,A,y,q,u⟩:=h;have hu:=dA h1;obtain⟨inf,j,l,_⟩:=bz (P:=P) (t:=e) A;cases D with
   |jw M=>simp at q;omega
   |mZ=>simp at q;omega
   |ah vs hl hm F O M=>
    rename_i b off cap;have hn:i.toNat<elems.length:=by omega
    refine Out.pure E (v:= .pointer (some ⟨b,off+i.toNat*P.cellsOf e,none⟩)) ?_ (.g0 (fun k=>vs (i.toNat*P.cellsOf e+k)) (fun k o=> ?_) (fun k o=> ?_)) u
    ·simp[Instr.indexAt,asIntOf,run_underlying hu,y,q,sizeOf,run_typeInfo w j,l,Addr.add_lit]
    ·rw[hl _ hn]at o;rw[Nat.add_assoc];exact hm _ (jK hn o)
    ·rw[hl _ hn]at o;exact F _ _ hn o
  ·rename_i id off len cap;split at h
   ·rename_i e he;obtain⟨A,y,q,u⟩:=h;have hu:=dA he;obtain⟨inf,j,l,_⟩:=bz (P:=P) (t:=e) A;cases D with
    |dg I=>refine Out.pure E ?_ (.ptr I) u;simp[Instr.indexAt,asIntOf,run_underlying hu,y,q,sizeOf,run_typeInfo w j,l,Addr.add_lit]
   ·exact h.elim
  ·rename_i id off;split at h
   ·rename_i n e he;obtain⟨A,y,q,u⟩:=h;have hu:=yX he;obtain⟨inf,j,l,_⟩:=bz (P:=P) (t:=e) A;cases D with
    |ptr I=>refine Out.pure E ?_ (.ptr I) u;simp[Instr.indexAt,asIntOf,run_underlying hu,y,q,sizeOf,run_typeInfo w j,l,Addr.add_lit,Instr.sureAddr]
   ·exact h.elim
  ·rename_i cells;split at h
   ·rename_i n e he;obtain⟨A,y,q,u⟩:=h;have hu:=yX he;obtain⟨inf,j,l,_⟩:=bz (P:=P) (t:=e) A;cases D with
    |g0 vs hm F=>
     rename_i b off;refine Out.pure E (v:= .pointer (some ⟨b,off+i.toNat*P.cellsOf e,none⟩)) ?_ (.g0 (fun k=>vs (i.toNat*P.cellsOf e+k)) (fun k o=> ?_) (fun k o=> ?_)) u
     ·simp[Instr.indexAt,asIntOf,run_underlying hu,y,q,sizeOf,run_typeInfo w j,l,Addr.add_lit,Instr.sureAddr]
     ·rw[Nat.add_assoc];exact hm _ (by simp at o;omega)
     ·have:=F (i.toNat*P.cellsOf e+k) (by simp at o;omega);simpa[List.getD_eq_getElem?_getD]using this
   ·exact h.elim
  ·exact h.elim
 ·exact h.elim
def jP (P:Program) (t:TypeId) (x i:AV) (K:AV→Prop):Prop:=
 match i,x with
 |.sc (.int _ i),.sc (.string s)=>P.underlying t=some .string∧0≤i∧i<s.size∧K (.sc (.int .u8 (s.data.toList.getD i.toNat 0).toNat))
 |.sc (.int _ i),.agg cells=>match oP P t with
  |some (n,e)=>match fC P e with
   |.one=>0≤i∧i<n∧i<cells.length∧K (cells.getD i.toNat .any)
   |.agg m=>m≠0∧0≤i∧i<n∧i.toNat*m+m≤cells.length∧K (.agg ((cells.drop (i.toNat*m)).take m))
   |.bad=>False
  |none=>False
 | _,_ =>False
theorem CP (I:Inv P G σ w) {t:TypeId}{x O:AV}{v M:Value}(F:aU P G x v) (A:aU P G O M) (h:jP P t x O fun v=>K v σ):
 Out P G K Pn (((do pure (Next.value (←Instr.index t v M))):Sem Next).run P w):=by
 unfold jP at h;split at h
 ·rename_i k i s;cases A;cases F;obtain⟨hu,h1,D,L⟩:=h;have o:i.toNat<s.size:=by omega
  refine Out.pure I (v:= .int .u8 (s.data.toList.getD i.toNat 0).toNat) ?_ (.sc _) L;have S:s[i.toNat]? =some (s.data.toList.getD i.toNat 0):=by
   have:s[i.toNat]? =some s[i.toNat]:=getElem?_pos s i.toNat o;rw[this];congr 1;have u:i.toNat<s.data.size:=o;have T:s.data.toList.getD i.toNat 0=s.data[i.toNat]:=by rw[List.getD_eq_getElem?_getD,List.getElem?_eq_getElem (by simpa using u)];simp
   rw[T];rfl
  simp[Instr.index,asIntOf,run_underlying hu,h1,S]
 ·rename_i k i cells;cases A;split at h
  ·rename_i n e he;have hu:=yX he;split at h
   ·rename_i hl;obtain⟨h1,D,L,J⟩:=h;obtain⟨k1,E⟩:=qI (w:=w) hl;obtain⟨inf,j,q,_⟩:=bz (P:=P) (t:=e) (by omega);cases F with
    |agg vs l H=>
     have o:i.toNat<vs.length:=by omega
     refine Out.pure I (v:=vs.getD i.toNat undef) ?_ (H _ (by omega)) J;simp[Instr.index,asIntOf,run_underlying hu,h1,D,part,k1,sizeOf,run_typeInfo w j,q,E,o]
   ·rename_i m hl;obtain⟨h0,h1,D,L,J⟩:=h;obtain⟨k1,E⟩:=qJ (w:=w) hl;obtain⟨inf,j,q,_⟩:=bz (P:=P) (t:=e) (by omega);cases F with
    |agg vs l H=>
     refine Out.pure I (v:= .agg ((vs.drop (i.toNat*m)).take m).toArray) ?_ (.agg _ (by simp;omega) (fun k Q=> ?_)) J
     ·have U:vs.toArray.extract (i.toNat*m) (i.toNat*m+m)=((vs.drop (i.toNat*m)).take m).toArray:=by
       have:i.toNat*m+m-i.toNat*m=m:=by omega
       simp[this]
      simp[Instr.index,asIntOf,run_underlying hu,h1,D,part,k1,sizeOf,run_typeInfo w j,q,E];try simpa using U
     ·have y:k<m:=by simp at Q;omega
      have:=H (i.toNat*m+k) (by omega);simp only[List.getD_eq_getElem?_getD]at this⊢;rw[List.getElem?_take_of_lt y,List.getElem?_take_of_lt y,List.getElem?_drop,List.getElem?_drop];exact this
   ·exact h.elim
  ·exact h.elim
 ·exact h.elim
def iX (x:Option AV) (d:Nat) (K:Nat→Prop):Prop:=
 match x with
 |none=>K d
 |some (.sc (.int _ n))=>0≤n∧K n.toNat
 | _ =>False
def fQ (P:Program) (t:TypeId) (x:AV) (lo j mx:Option AV) (K:AV→Prop):Prop:=
 match mx with
 |some _ =>False
 |none=>match x with
  |.sc (.string s)=>P.underlying t=some .string∧iX j s.size fun h=>h≤s.size∧iX lo 0 fun l=>l≤h∧K (.sc (.string (s.extract l h)))
  |.ah e elems _ nil=>bC P t=some e∧P.cellsOf e≠0∧iX j elems.length fun h=>h≤elems.length∧iX lo 0 fun l=>l≤h∧K (.ah e ((elems.take h).drop l) .aJ nil)
  |.dg id off len cap=>match bC P t with
   |some e=>P.cellsOf e≠0∧iX j len fun h=>h≤cap∧iX lo 0 fun l=>l≤h∧l<cap∧K (.dg id (off+l*P.cellsOf e) (h-l) (cap-l))
   |none=>False
  | _ =>False
theorem CM (hinv:Inv P G σ w) {t:TypeId}{x:AV}{v:Value}{lo hi mx:Option AV}{D E H:Option Value}(hx:aU P G x v)
 (V:(lo=none∧D=none)∨ ∃a b,lo=some a∧D=some b∧aU P G a b) (X:(hi=none∧E=none)∨ ∃a b,hi=some a∧E=some b∧aU P G a b)
 (av:(mx=none∧H=none)∨ ∃a b,mx=some a∧H=some b∧aU P G a b)
 (h:fQ P t x lo hi mx fun v=>K v σ):
 Out P G K Pn (((do pure (Next.value (←Instr.sliceAt t v D E H))):Sem Next).run P w):=by
 unfold fQ at h;cases mx with
 |some m=>exact h.elim
 |none=>
  obtain⟨_,rfl⟩: _ ∧H=none:=by
   rcases av with h|⟨a,b,h,_⟩
   ·exact h
   ·cases h
  have bound:∀(o:Option AV) (vo:Option Value) (d:Nat) (Q:Nat→Prop),((o=none∧vo=none)∨ ∃a b,o=some a∧vo=some b∧aU P G a b)→iX o d Q→
   ∃k,Q k∧((o=none∧vo=none∧k=d)∨ ∃kd n,vo=some (.int kd n)∧0≤n∧k=n.toNat):=by
   intro o vo d Q h1 Z;rcases h1 with⟨rfl,rfl⟩|⟨a,b,rfl,rfl,U⟩
   ·exact⟨d,Z,.inl ⟨rfl,rfl,rfl⟩⟩
   ·unfold iX at Z;split at Z
    ·rename_i h;cases h
    ·rename_i kd n he;cases he;cases U;exact⟨n.toNat,Z.2,.inr ⟨kd,n,rfl,Z.1,rfl⟩⟩
    ·exact Z.elim
  have u:∀(I8:Bool) (len cap h l:Nat),h≤cap→l≤h→((hi=none∧E=none∧h=len)∨ ∃kd n,E=some (.int kd n)∧0≤n∧h=n.toNat)→
   ((lo=none∧D=none∧l=0)∨ ∃kd n,D=some (.int kd n)∧0≤n∧l=n.toNat)→
   (Instr.sliceBounds I8 len cap D E none).run P w= .ok (l,h,cap) w:=by
   intro I8 len cap h l hc hl hh ax;have sb:∀(kd:IntKind) (n:Int) (y:Nat) (code:BoundsCode),0≤n→n.toNat≤y→(Instr.sliceBound (.int kd n) y code).run P w= .ok n.toNat w:=by intro kd n y code h0 h1;have:0≤n∧n≤(y:Int):=⟨h0,by omega⟩;simp[Instr.sliceBound,asIntOf,this]
   rcases hh with⟨_,rfl,rfl⟩|⟨kd,n,rfl,ai,rfl⟩<;>rcases ax with⟨_,rfl,rfl⟩|⟨ac,n2,rfl,af,rfl⟩
   ·simp[Instr.sliceBounds]
   ·simp[Instr.sliceBounds,sb ac n2 _ _ af hl]
   ·simp[Instr.sliceBounds,sb kd n _ _ ai hc]
   ·simp[Instr.sliceBounds,sb kd n _ _ ai hc,sb ac n2 _ _ af hl]
  simp only at h;split at h
  ·rename_i s;obtain⟨hu,h⟩:=h;obtain⟨h1,⟨O,h⟩,k1⟩:=bound _ _ _ _ X h;obtain⟨l1,⟨M,h⟩,S⟩:=bound _ _ _ _ V h;cases hx;refine Out.pure hinv (v:= .string (s.extract l1 h1)) ?_ (.sc _) h;simp[Instr.sliceAt,Instr.slice,run_underlying hu,u false s.size s.size h1 l1 O M k1 S]
  ·rename_i e elems own nil;obtain⟨he,T,hA⟩:=h;have hu:=dA he;obtain⟨inf,q,F,_⟩:=bz (P:=P) (t:=e) T;obtain⟨h1,⟨O,hB⟩,k1⟩:=bound _ _ _ _ X hA;clear hA;obtain⟨l1,⟨M,Y⟩,S⟩:=bound _ _ _ _ V hB;clear hB;cases hx with
   |jw ho=>
    simp only[List.length_nil]at O;have U:=u true 0 0 h1 l1 (by omega) M k1 S;have e1:h1=0:=by omega
    have e2:l1=0:=by omega
    subst e1 e2;refine Out.pure hinv (v:= .slice none 0 0) ?_ ?_ Y
    ·simp[Instr.sliceAt,Instr.slice,run_underlying hu,U,sizeOf,run_typeInfo w q]
    ·simpa using aU.jw (P:=P) (G:=G) (e:=e) (own:= .aJ) trivial
   |mZ=>
    rename_i a cap;have U:=u true 0 cap h1 l1 (by simp at O;omega) M k1 S;have e1:h1=0:=by simp at O;omega
    have e2:l1=0:=by omega
    subst e1 e2;refine Out.pure hinv (v:= .slice (some a) 0 cap) ?_ ?_ Y
    ·simp[Instr.sliceAt,Instr.slice,run_underlying hu,U,sizeOf,run_typeInfo w q,Addr.add]
    ·simpa using aU.mZ (P:=P) (G:=G) (e:=e)
   |ah vs hl hm U hc ho=>
    rename_i b off cap;have A:=u true elems.length cap h1 l1 (by omega) M k1 S;have hlen:((elems.take h1).drop l1).length=h1-l1:=by simp;omega
    have L:∀i,i<h1-l1→((elems.take h1).drop l1).getD i .any=elems.getD (l1+i) .any:=by intro i I;simp only[List.getD_eq_getElem?_getD];rw[List.getElem?_drop,List.getElem?_take_of_lt (by omega)]
    by_cases J:cap=l1
    ·subst J;refine Out.pure hinv (v:= .slice (some ⟨b,off,none⟩) (h1-cap) (cap-cap)) ?_ ?_ Y
     ·simp[Instr.sliceAt,Instr.slice,run_underlying hu,A,sizeOf,run_typeInfo w q]
     ·exact aU.te vs hlen (fun i I=>by omega) (fun k hk=>by rw[show h1-cap=0 by omega]at hk;omega) (fun i j I _ =>by omega) (by omega) trivial
    ·refine Out.pure hinv (v:= .slice (some ⟨b,off+l1*P.cellsOf e,none⟩) (h1-l1) (cap-l1)) ?_ ?_ Y
     ·simp[Instr.sliceAt,Instr.slice,run_underlying hu,A,sizeOf,run_typeInfo w q,J,F,Addr.add_lit]
     ·refine aU.te (fun k=>vs (l1*P.cellsOf e+k)) hlen (fun i I=> ?_) (fun k hk=> ?_) (fun i j I hj=> ?_) (by omega) trivial
      ·rw[L i (by omega)];exact hl _ (by omega)
      ·rw[Nat.add_assoc];refine hm _ ?_;have:(l1+(h1-l1))*P.cellsOf e≤elems.length*P.cellsOf e:=Nat.mul_le_mul_right _ (by omega);rw[Nat.add_mul]at this;omega
      ·rw[L i (by omega)];have:=U (l1+i) j (by omega) hj;rw[Nat.add_mul]at this;simpa[Nat.add_assoc]using this
  ·rename_i id off len cap;split at h
   ·rename_i e he;obtain⟨T,hA⟩:=h;have hu:=dA he;obtain⟨inf,q,F,_⟩:=bz (P:=P) (t:=e) T;obtain⟨h1,⟨O,hB⟩,k1⟩:=bound _ _ _ _ X hA;clear hA;obtain⟨l1,⟨M,q3,Y⟩,S⟩:=bound _ _ _ _ V hB;clear hB;cases hx with
    |dg hb=>
     rename_i b;have A:=u true len cap h1 l1 O M k1 S;have J:¬cap=l1:=by omega
     refine Out.pure hinv (v:= .slice (some ⟨b,off+l1*P.cellsOf e,none⟩) (h1-l1) (cap-l1)) ?_ (.dg hb) Y;simp[Instr.sliceAt,Instr.slice,run_underlying hu,A,sizeOf,run_typeInfo w q,J,F,Addr.add_lit]
   ·exact h.elim
  ·exact h.elim
end Go.AW
namespace Go.AW
variable {P:Program} {G:Gh} {σ:AS} {w:World} {K Pn:AV→AS→Prop}
theorem IL {α:Type}[BEq α] [LawfulBEq α] [DecidableEq α] (a b:α):(a==b)=decide (a=b):=by
 by_cases h:a=b
 ·simp[h]
 ·simp[h]
def eL (op:BinOp) (k:IntKind) (a b:Int) (K:Value→Prop):Prop:=
 match op with
 |.add=>K (.int k (k.wrap (a+b)))
 |.sub=>K (.int k (k.wrap (a-b)))
 |.mul=>K (.int k (k.wrap (a*b)))
 |.quo=>b≠0∧K (.int k (k.wrap (a.tdiv b)))
 |.rem=>b≠0∧K (.int k (a.tmod b))
 |.and=>K (.int k (k.wrap (BitVec.ofInt k.bits a&&& BitVec.ofInt k.bits b).toNat))
 |.or=>K (.int k (k.wrap (BitVec.ofInt k.bits a|||BitVec.ofInt k.bits b).toNat))
 |.xor=>K (.int k (k.wrap (BitVec.ofInt k.bits a^^^BitVec.ofInt k.bits b).toNat))
 |.andNot=>K (.int k (k.wrap (BitVec.ofInt k.bits a&&& ~~~(BitVec.ofInt k.bits b)).toNat))
 |.eql=>K (.bool (decide (a=b)))
 |.neq=>K (.bool (decide (a≠b)))
 |.lss=>K (.bool (a<b))
 |.leq=>K (.bool (a≤b))
 |.gtr=>K (.bool (b<a))
 |.geq=>K (.bool (b≤a))
 | _ =>False
def s7 (op:BinOp) (k:IntKind) (a b:Int) (K:Value→Prop):Prop:=
 match op with
 |.shl=>0≤b∧K (.int k (k.wrap (a*2^(min b.toNat k.bits))))
 |.shr=>0≤b∧K (.int k (a.fdiv (2^(min b.toNat k.bits))))
 | _ =>False
def gm:BinOp→Bool|.shl|.shr=>true| _ =>false
def pD (op:BinOp) (a b:ByteArray) (K:Value→Prop):Prop:=
 match op with
 |.eql=>K (.bool (decide (a.data.toList=b.data.toList)))
 |.neq=>K (.bool (decide (a.data.toList≠b.data.toList)))
 |.add=>a.size+b.size≤9223372036854775807∧K (.string (a++b))
 | _ =>False
mutual
def gP (P:Program):Nat→TypeId→AV→AV→Option Bool
 |0,_,_,_ =>none
 |d+1,t,x,y=>match x,y with
  |.sc (.int k a),.sc (.int k' b)=>match P.underlying t with|some (.int _)=>if k=k' then some (decide (a=b))else none| _ =>none
  |.sc (.bool a),.sc (.bool b)=>match P.underlying t with|some .bool=>some (a==b)| _ =>none
  |.sc (.string a),.sc (.string b)=>match P.underlying t with|some .string=>some (decide (a.data.toList=b.data.toList))| _ =>none
  |.agg xs,.agg j=>match P.underlying t with|some (.struct fs)=>if P.stoodInHeld t then none else ng P d fs.toList xs j| _ =>none
  | _,_ =>none
def ng (P:Program):Nat→List Field→List AV→List AV→Option Bool
 | _,[],_,_ =>some true
 |d,f::fs,xs,j=>if f.name= "_" then none else
  match fC P f.type with
  |.one=>if f.offset<xs.length∧f.offset<j.length then
   match gP P d f.type (xs.getD f.offset .any) (j.getD f.offset .any),ng P d fs xs j with
   |some r,some l=>some (r&&l)
   | _,_ =>none
   else none
  |.agg n=>if n≠0∧f.offset+n≤xs.length∧f.offset+n≤j.length then
   match gP P d f.type (.agg ((xs.drop f.offset).take n)) (.agg ((j.drop f.offset).take n)),ng P d fs xs j with
   |some r,some l=>some (r&&l)
   | _,_ =>none
   else none
  |.bad=>none
end
theorem tJ {t:TypeId}{xs:List AV}{vs:Array Value}{off:Nat}(h:gf P G xs vs):
 (fC P t= .one→off<xs.length→(part t vs off).run P w= .ok (vs.getD off undef) w∧aU P G (xs.getD off .any) (vs.getD off undef))∧
 (∀n,fC P t= .agg n→n≠0→off+n≤xs.length→ ∃v,(part t vs off).run P w= .ok v w∧aU P G (.agg ((xs.drop off).take n)) v):=by
 constructor
 ·intro hl o;obtain⟨k1,u⟩:=qI (w:=w) hl;have q:off<vs.size:=by rw[h.1];exact o
  refine⟨?_,h.2 off o⟩;simp[part,k1,q]
 ·intro n hl hn o;obtain⟨k1,u⟩:=qJ (w:=w) hl;obtain⟨i,l,y,_⟩:=bz (P:=P) (t:=t) (by omega);have h1:=h.1;refine⟨.agg ((vs.toList.drop off).take n).toArray,?_,.agg _ (by simp;omega) (fun k A=> ?_)⟩
  ·have D:vs.extract off (off+i.size)=((vs.toList.drop off).take n).toArray:=by
    have:off+i.size-off=n:=by omega
    apply Array.ext';simp[this]
   simp[part,k1,sizeOf,run_typeInfo w l,D]
  ·have j:k<n:=by simp at A;omega
   have:=h.2 (off+k) (by omega);simp only[List.getD_eq_getElem?_getD]at this⊢;rw[List.getElem?_take_of_lt j,List.getElem?_take_of_lt j,List.getElem?_drop,List.getElem?_drop];simpa using this
theorem L8:∀(d:Nat),(∀(t:TypeId) (x y:AV) (r:Bool) (l j:Value) (D:Nat),d≤D→gP P d t x y=some r→aU P G x l→aU P G y j→(Op.equalIn D t l j).run P w= .ok r w)∧
 (∀(fs:List Field) (xs u:List AV) (r:Bool) (l j:Array Value) (D:Nat),d≤D→ng P d fs xs u=some r→gf P G xs l→gf P G u j→(Op.eqFields D l j fs).run P w= .ok r w):=by
 intro d;induction d with
 |zero=>
  refine⟨fun t x y r l j D _ h _ _ =>by simp[gP]at h,fun fs=> ?_⟩;induction fs with
  |nil=>intro xs u r l j D _ h _ _;simp[ng]at h;subst h;simp[Op.eqFields]
  |cons f fs Y=>
   intro xs u r l j D _ h _ _;simp only[ng]at h;split at h
   ·cases h
   ·split at h<;>(try (split at h))<;>(try cases h)<;>(split at h<;>first|(rename_i h1 Z;simp[gP]at h1)|cases h)
 |succ d Y=>
  have U:∀(t:TypeId) (x y:AV) (r:Bool) (l j:Value) (D:Nat),d+1≤D→gP P (d+1) t x y=some r→aU P G x l→aU P G y j→(Op.equalIn D t l j).run P w= .ok r w:=by
   intro t x y r l j D J h F E;obtain⟨H,rfl⟩:∃H,D=H+1:=⟨D-1,by omega⟩;unfold gP at h;split at h
   ·cases F;cases E;split at h
    ·rename_i k1 a k2 b q hu;split at h
     ·rename_i I;subst I;cases h;rw[run_equalIn_int w H t _ _ _ _ hu,IL]
     ·cases h
    ·cases h
   ·cases F;cases E;split at h
    ·rename_i hu;cases h;exact run_equalIn_bool' w H t _ _ hu
    ·cases h
   ·cases F;cases E;split at h
    ·rename_i hu;cases h;rw[run_equalIn_string w H t _ _ hu,ByteArray.toList_eq,ByteArray.toList_eq,IL]
    ·cases h
   ·cases F with
    |agg ac l1 h1=>
     cases E with
     |agg ab l2 Z=>
      split at h
      ·rename_i fs hu;split at h
       ·cases h
       ·rename_i T;have hf:P.fieldsOf t=fs:=by simp[Program.fieldsOf,hu]
        rw[run_equalIn_agg w H t _ _ (by rw[hf];exact hu) (by simpa using T),hf];exact Y.2 fs.toList _ _ r _ _ H (by omega) h ⟨by simpa using l1,fun k I=>by have:=h1 k I;simpa[List.getD_eq_getElem?_getD]using this⟩
         ⟨by simpa using l2,fun k I=>by have:=Z k I;simpa[List.getD_eq_getElem?_getD]using this⟩
      ·cases h
   ·cases h
  refine⟨U,fun fs=> ?_⟩;induction fs with
  |nil=>intro xs u r l j D _ h _ _;simp[ng]at h;subst h;simp[Op.eqFields]
  |cons f fs S=>
   intro xs u r l j D J h F E;simp only[ng]at h;split at h
   ·cases h
   ·rename_i hn;have fin:∀(A v:Bool) (a b:Value),(part f.type l f.offset).run P w= .ok a w→(part f.type j f.offset).run P w= .ok b w→(Op.equalIn D f.type a b).run P w= .ok A w→ng P (d+1) fs xs u=some v→r=(A&&v)→
     (Op.eqFields D l j (f::fs)).run P w= .ok r w:=by
     intro A v a b p1 p2 p3 p4 p5;have p6:=S xs u v l j D J p4 F E;simp only[Op.eqFields,ne_eq,hn,not_false_eq_true,if_true,Sem.run_bind,p1,p2,p3,Result.andThen_ok];cases A
     ·simp[p5]
     ·simp[p5,p6]
    split at h
    ·rename_i hl;split at h
     ·rename_i o;split at h
      ·rename_i A v X V;cases h;obtain⟨Q,O⟩:=(tJ (w:=w) F).1 hl o.1;obtain⟨M,L⟩:=(tJ (w:=w) E).1 hl o.2;exact fin A v _ _ Q M (U _ _ _ _ _ _ D J X O L) V rfl
      ·cases h
     ·cases h
    ·rename_i n hl;split at h
     ·rename_i o;split at h
      ·rename_i A v X V;cases h;obtain⟨v1,Q,O⟩:=(tJ (w:=w) F).2 n hl o.1 o.2.1;obtain⟨v2,M,L⟩:=(tJ (w:=w) E).2 n hl o.1 o.2.2;exact fin A v _ _ Q M (U _ _ _ _ _ _ D J X O L) V rfl
      ·cases h
     ·cases h
    ·cases h
end Go.AW
namespace Go.AW
variable {P:Program} {G:Gh} {σ:AS} {w:World} {K Pn:AV→AS→Prop}
def isNil (P:Program) (t:TypeId):AV→Option Bool
 |.aC=>match P.underlying t with|some (.slice _)=>some true| _ =>none
 |.ah _ _ _ nil=>match P.underlying t with|some (.slice _)=>some nil| _ =>none
 |.dg _ _ _ _ =>match P.underlying t with|some (.slice _)=>some false| _ =>none
 |.ptr _ _ |.g0 _ =>match P.underlying t with|some (.pointer _)=>some false| _ =>none
 |.sc (.pointer none)=>match P.underlying t with|some (.pointer _)=>some true| _ =>none
 |.mp _ =>match P.underlying t with|some (.map _ _)=>some false| _ =>none
 |.sc (.map none)=>match P.underlying t with|some (.map _ _)=>some true| _ =>none
 |.lq _ _ =>match P.underlying t with|some (.interface _)=>some false| _ =>none
 |.fn _ _ _ =>match P.underlying t with|some (.func _ _ _)=>some false| _ =>none
 |.sc (.func _ _ _)=>match P.underlying t with|some (.func _ _ _)=>some false| _ =>none
 |.sc .nilFunc=>match P.underlying t with|some (.func _ _ _)=>some true| _ =>none
 | _ =>none
def oz (P:Program) (t:TypeId):AV→Bool
 |.aC=>match P.underlying t with|some (.slice _)=>true| _ =>false
 |.sc (.pointer none)=>match P.underlying t with|some (.pointer _)=>true| _ =>false
 |.sc (.map none)=>match P.underlying t with|some (.map _ _)=>true| _ =>false
 |.sc .nilIface=>match P.underlying t with|some (.interface _)=>true| _ =>false
 |.sc .nilFunc=>match P.underlying t with|some (.func _ _ _)=>true| _ =>false
 | _ =>false
def cZ (P:Program) (op:BinOp) (t:TypeId) (x y:AV) (K:AV→Prop):Prop:=
 if oz P t y then match isNil P t x,op with
  |some r,.eql=>K (.sc (.bool r))
  |some r,.neq=>K (.sc (.bool (!r)))
  | _,_ =>False
  else False
def eX (P:Program) (op:BinOp) (t:TypeId) (x y:AV) (K:AV→Prop):Prop:=
 match x,y with
 |.sc (.int k a),.sc (.int k' b)=>if gm op then s7 op k a b (fun v=>K (.sc v))else k=k'∧eL op k a b (fun v=>K (.sc v))
 |.sc (.string a),.sc (.string b)=>pD op a b (fun v=>K (.sc v))
 |.agg xs,.agg j=>match gP P 8 t (.agg xs) (.agg j),op with
  |some r,.eql=>P.eqGuardType P.depth t=false∧K (.sc (.bool r))
  |some r,.neq=>P.eqGuardType P.depth t=false∧K (.sc (.bool (!r)))
  | _,_ =>False
 |.sc (.bool a),.sc (.bool b)=>match P.underlying t,op with
  |some .bool,.eql=>K (.sc (.bool (a==b)))
  |some .bool,.neq=>K (.sc (.bool (!(a==b))))
  | _,_ =>False
 |x,y=>cZ P op t x y K
theorem Cv (t:TypeId) (x y:Value):Op.equal t x y=Op.equalIn (9999+1) t x y:=rfl
theorem binOp_eql {t:TypeId}{x y:Value}(h1:∀k n,x≠ .int k n) (o:∀k n,x≠ .float k n) (l:∀k a b,x≠ .complex k a b) (j:∀s,x≠ .string s) {r:Bool}
 (h:(Op.equalIn (9999+1) t x y).run P w= .ok r w):(binOp .eql t x y).run P w= .ok (.bool r) w∧(binOp .neq t x y).run P w= .ok (.bool (!r)) w:=by
 have v:binOp .eql t x y=(do pure (Value.bool (←Op.equal t x y))):=by cases x<;>first|rfl|(exfalso;first|exact h1 _ _ rfl|exact o _ _ rfl|exact l _ _ _ rfl|exact j _ rfl)
 have u:binOp .neq t x y=(do pure (Value.bool (!(←Op.equal t x y)))):=by cases x<;>first|rfl|(exfalso;first|exact h1 _ _ rfl|exact o _ _ rfl|exact l _ _ _ rfl|exact j _ rfl)
 rw[v,u,Cv];generalize Op.equalIn (9999+1) t x y=q at h⊢;constructor
 ·rw[Sem.run_bind,h];rfl
 ·rw[Sem.run_bind,h];rfl
theorem dO {op:BinOp}{t:TypeId}{l j:Operand}{a b:Value}(h1:∀c,a≠ .agg c) (n:a≠ .nilIface∨b≠ .nilIface):(eqGuard op t l j a b).run P w= .ok () w:=by unfold eqGuard;cases op<;>simp<;>(cases a<;>cases b<;>simp at h1 n⊢)
theorem H7 {op:BinOp}{t:TypeId}{k:IntKind}{a b:Int}{Q:Value→Prop}(j:gm op=false) (h:eL op k a b Q):∃v,(binOp op t (.int k a) (.int k b)).run P w= .ok v w∧Q v:=by
 cases op<;>first|(simp[gm]at j;done)|skip
 all_goals (simp only[eL]at h)
 all_goals first
  |exact h.elim
  |(refine⟨_,?_,h⟩;simp[binOp,Op.intArith,Op.intBits,Op.intCmp,IL,bne];done)
  |(refine⟨_,?_,h.2⟩;simp[binOp,Op.intDiv,h.1];done)
  |skip
theorem Jy {op:BinOp}{t:TypeId}{k k':IntKind}{a b:Int}{Q:Value→Prop}(h:s7 op k a b Q):∃v,(binOp op t (.int k a) (.int k' b)).run P w= .ok v w∧Q v:=by cases op<;>simp only[s7]at h;all_goals (refine⟨_,?_,h.2⟩;have j:=h.1;simp[binOp,Op.shift,show ¬b<0 by omega])
theorem GB {op:BinOp}{t:TypeId}{a b:ByteArray}{Q:Value→Prop}(h:pD op a b Q):∃v,(binOp op t (.string a) (.string b)).run P w= .ok v w∧Q v:=by
 cases op<;>simp only[pD]at h
 case add=>
  refine⟨_,?_,h.2⟩;have h1:=h.1;have e:¬(IntKind.i64.max<((a.size+b.size:Nat):Int)):=by have:IntKind.i64.max=9223372036854775807:=rfl;rw[this];omega
  simp only[binOp,Op.stringOp];rw[if_neg (by simpa using e)];rfl
 case eql=>refine⟨_,?_,h⟩;simp[binOp,Op.stringOp,ByteArray.toList_eq,IL]
 case neq=>refine⟨_,?_,h⟩;simp[binOp,Op.stringOp,ByteArray.toList_eq,IL]
theorem J9 {t:TypeId}{x y:AV}{o E:Value}(q:aU P G x o) (D:aU P G y E) (j:oz P t y=true) {r:Bool}(l:isNil P t x=some r):
 (Op.equalIn (9999+1) t o E).run P w= .ok r w∧(∀c,o≠ .agg c)∧o≠ .nilIface∧(∀k n,o≠ .int k n)∧(∀s,o≠ .string s)∧(∀k n,o≠ .float k n)∧(∀k n m,o≠ .complex k n m):=by
 generalize 9999=d;have sl:∀(e:TypeId) (a:Option Addr) (n c:Nat),P.underlying t=some (.slice e)→(Op.equalIn (d+1) t (.slice a n c) (.slice none 0 0)).run P w= .ok a.isNone w:=by intro e a n c hu;cases a<;>simp[Op.equalIn,run_underlying hu]
 have F:∀(e:TypeId) (a:Option Addr),P.underlying t=some (.pointer e)→(Op.equalIn (d+1) t (.pointer a) (.pointer none)).run P w= .ok a.isNone w:=by intro e a hu;cases a<;>simp[Op.equalIn,run_underlying hu]
 have mp:∀(k e:TypeId) (a:Option Nat),P.underlying t=some (.map k e)→(Op.equalIn (d+1) t (.map a) (.map none)).run P w= .ok a.isNone w:=by intro k e a hu;cases a<;>simp[Op.equalIn,run_underlying hu]
 have lq:∀(ms:Array (String×TypeId)) (u:TypeId) (v:Value),P.underlying t=some (.interface ms)→(Op.equalIn (d+1) t (.iface u v) .nilIface).run P w= .ok false w:=by intro ms u v hu;simp[Op.equalIn,run_underlying hu]
 have fn:∀(ps rs:Array TypeId) (A:Bool) (f:Fn) (a b:Array Value),P.underlying t=some (.func ps rs A)→(Op.equalIn (d+1) t (.func f a b) .nilFunc).run P w= .ok false w:=by intro ps rs A f a b hu;simp[Op.equalIn,run_underlying hu]
 have Cq:∀(ps rs:Array TypeId) (A:Bool),P.underlying t=some (.func ps rs A)→(Op.equalIn (d+1) t .nilFunc .nilFunc).run P w= .ok true w:=by intro ps rs A hu;simp[Op.equalIn,run_underlying hu]
 unfold oz at j;split at j
 ·cases D;split at j
  ·rename_i e hu;unfold isNil at l;split at l<;>(try simp only[hu]at l)<;>first|(cases l;done)|skip
   ·cases l;cases q;exact⟨sl _ _ _ _ hu,by simp⟩
   ·cases l;cases q
    ·exact⟨sl _ _ _ _ hu,by simp⟩
    ·exact⟨sl _ _ _ _ hu,by simp⟩
    ·exact⟨sl _ _ _ _ hu,by simp⟩
   ·cases l;cases q;exact⟨sl _ _ _ _ hu,by simp⟩
  ·cases j
 ·cases D;split at j
  ·rename_i e hu;unfold isNil at l;split at l<;>(try simp only[hu]at l)<;>first|(cases l;done)|skip
   all_goals (cases l;cases q;exact⟨F _ _ hu,by simp⟩)
  ·cases j
 ·cases D;split at j
  ·rename_i k e hu;unfold isNil at l;split at l<;>(try simp only[hu]at l)<;>first|(cases l;done)|skip
   all_goals (cases l;cases q;exact⟨mp _ _ _ hu,by simp⟩)
  ·cases j
 ·cases D;split at j
  ·rename_i ms hu;unfold isNil at l;split at l<;>(try simp only[hu]at l)<;>first|(cases l;done)|skip
   all_goals (cases l;cases q;exact⟨lq _ _ _ hu,by simp⟩)
  ·cases j
 ·cases D;split at j
  ·rename_i ps rs A hu;unfold isNil at l;split at l<;>(try simp only[hu]at l)<;>first|(cases l;done)|skip
   all_goals (cases l;cases q;first|exact⟨fn _ _ _ _ _ _ hu,by simp⟩|exact⟨Cq _ _ _ hu,by simp⟩)
  ·cases j
 ·cases j
theorem I0 (X:Inv P G σ w) {op:BinOp}{t:TypeId}{F E:Operand}{x y:AV}{j l:Value}(u:aU P G x j) (q:aU P G y l) (h:eX P op t x y fun v=>K v σ):
 Out P G K Pn (((do pure (Next.value (←(do eqGuard op t F E j l;binOp op t j l)))):Sem Next).run P w):=by
 have fin:∀(v:Value) (Q:AV),(eqGuard op t F E j l).run P w= .ok () w→(binOp op t j l).run P w= .ok v w→aU P G Q v→K Q σ→
  Out P G K Pn (((do pure (Next.value (←(do eqGuard op t F E j l;binOp op t j l)))):Sem Next).run P w):=
  fun v Q h1 o Z Y=>Out.pure X (by rw[Sem.run_bind,h1];exact o) Z Y
 unfold eX at h;split at h
 ·rename_i k a k' b;cases u;cases q;split at h
  ·obtain⟨v,h1,o⟩:=Jy (P:=P) (w:=w) (t:=t) (k':=k') h;exact fin v _ (dO (by simp) (by simp)) h1 (.sc _) o
  ·rename_i U;obtain⟨rfl,h⟩:=h;obtain⟨v,h1,o⟩:=H7 (P:=P) (w:=w) (t:=t) (by simpa using U) h;exact fin v _ (dO (by simp) (by simp)) h1 (.sc _) o
 ·cases u;cases q;obtain⟨v,h1,o⟩:=GB (P:=P) (w:=w) (t:=t) h;exact fin v _ (dO (by simp) (by simp)) h1 (.sc _) o
 ·rename_i xs ys;have D:=u;have A:=q;cases u with
  |agg T l1 h1=>
   cases q with
   |agg S l2 o=>
    split at h
    ·rename_i r he;have:=(L8 (P:=P) (G:=G) (w:=w) 8).1 t _ _ r _ _ 10000 (by omega) he D A;exact fin (.bool r) _ (run_eqGuard_agg w _ t _ _ _ _ h.1) (by rw[run_eql_struct,this];rfl) (.sc _) h.2
    ·rename_i r he;have:=(L8 (P:=P) (G:=G) (w:=w) 8).1 t _ _ r _ _ 10000 (by omega) he D A;exact fin (.bool (!r)) _ (run_eqGuard_agg w _ t _ _ _ _ h.1) (by rw[run_neq_struct,this];rfl) (.sc _) h.2
    ·exact h.elim
 ·rename_i a b;cases u;cases q;split at h
  ·rename_i hu;exact fin _ _ (dO (by simp) (by simp)) (binOp_eql (by simp) (by simp) (by simp) (by simp) (run_equalIn_bool' w 9999 t a b hu)).1 (.sc _) h
  ·rename_i hu;exact fin _ _ (dO (by simp) (by simp)) (binOp_eql (by simp) (by simp) (by simp) (by simp) (run_equalIn_bool' w 9999 t a b hu)).2 (.sc _) h
  ·exact h.elim
 ·unfold cZ at h;split at h
  ·rename_i O;have key:∀r,isNil P t x=some r→(Op.equalIn (9999+1) t j l).run P w= .ok r w∧(∀c,j≠ .agg c)∧j≠ .nilIface∧(∀k n,j≠ .int k n)∧(∀s,j≠ .string s)∧(∀k n,j≠ .float k n)∧(∀k n m,j≠ .complex k n m):=by intro r V;exact J9 u q O V
   split at h
   ·rename_i r he;obtain⟨k1,M,L,k4,J,I,H⟩:=key r he;exact fin _ _ (dO M (.inl L)) (binOp_eql k4 I H J k1).1 (.sc _) h
   ·rename_i r he;obtain⟨k1,M,L,k4,J,I,H⟩:=key r he;exact fin _ _ (dO M (.inl L)) (binOp_eql k4 I H J k1).2 (.sc _) h
   ·exact h.elim
  ·exact h.elim
end Go.AW
