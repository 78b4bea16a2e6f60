/- A layer of abstract values over the model's machine: own work for this claim, part AwCore. -/
import Derived.WalkKit
import Derived.Deep.AppendSrc
import Derived.Defers
set_option linter.all false
namespace Go.AW
open Go Go.RowKit
inductive cL where
 |aE|full|tok (t:Nat)
inductive AV where
 |any
 |sc (v:Value)
 |ptr (id off:Nat)
 |iC (cells:List AV)
 |ai
 |an (e:TypeId) (elems:List AV) (own:cL) (nil:Bool)
 |fT (id off len cap:Nat)
 |mp (id:Nat)
 |fn (f:Fn) (first captured:List AV)
 |rX (t:TypeId) (v:AV)
 |agg (cells:List AV)
 |bQ (vs:List AV)
def AV.cells:AV→List AV
 |.agg cs=>cs
 |v=> [v]
def AV.HN:AV→Bool
 |.any|.bQ _ =>false
 |.sc (.agg _)|.sc (.tuple _)=>false
 | _ =>true
def AV.one:AV→Bool
 |.any|.bQ _ |.agg _ =>false
 |.sc (.agg _)|.sc (.tuple _)=>false
 | _ =>true
inductive bN where
 |cells (ty:TypeId) (cs:List AV)
 |tok (len:Nat)
 |map (es:List (AV×AV))
 |lT (s:ByteArray) (pos:Nat)
 |jN (bh n0:Nat) (done:List Nat)
def bN.DT:bN→Bool
 |.lT _ _ |.jN _ _ _ =>true
 | _ =>false
abbrev AS:=Nat→Option bN
def AS.set (σ:AS) (i:Nat) (b:bN):AS:=fun j=>if j=i then some b else σ j
def AS.le (d σ:AS):Prop:= ∀i b,d i=some b→σ i=some b
theorem AS.le_refl (σ:AS):AS.le σ σ:=fun _ _ h=>h
theorem AS.le_trans {a b c:AS}(h:AS.le a b) (k:AS.le b c):AS.le a c:=fun i x e=>k i x (h i x e)
theorem AS.ah {d σ:AS}{i:Nat}{b:bN}(h:AS.le d σ) (l:d i=none):AS.le d (σ.set i b):=by
 intro j x e;by_cases g:j=i
 ·subst g;rw[l]at e;cases e
 ·simp only[AS.set,g,if_false];exact h j x e
@[simp] theorem AS.aj (σ:AS) (i:Nat) (b:bN):(σ.set i b) i=some b:=by simp[AS.set]
theorem AS.ad (σ:AS) {i j:Nat}(b:bN) (h:j≠i):(σ.set i b) j=σ j:=by simp[AS.set,h]
@[simp] theorem AS.set_set (σ:AS) (i:Nat) (b c:bN):(σ.set i b).set i c=σ.set i c:=by funext j;by_cases h:j=i<;>simp[AS.set,h]
theorem AS.Dm (σ:AS) (i:Nat) (b:bN) (h:σ i=some b):σ.set i b=σ:=by
 funext j;by_cases e:j=i
 ·subst e;simp[AS.set,h]
 ·simp[AS.set,e]
structure OR where
 a:Option (Nat×Nat)
 len:Nat
 cap:Nat
 xN:TypeId
def OR.val (r:OR):Value:= .slice (r.a.map fun p=>⟨p.1,p.2,none⟩) r.len r.cap
structure Gh where
 W0:World
 B:Nat
 mem:Nat→Nat→Option Value
 inj:Nat→Option Nat
 own:Nat→Option OR
 top:Nat
structure Gh.Le (G G':Gh):Prop where
 W0:G'.W0=G.W0
 B:G'.B=G.B
 mem:∀b o v,G.mem b o=some v→G'.mem b o=some v
 inj:∀i b,G.inj i=some b→G'.inj i=some b
 own:∀t r,G.own t=some r→ ∃r',G'.own t=some r'∧r'.xN=r.xN∧(r'=r∨r.len<r'.len)
theorem Gh.Le.refl (G:Gh):G.Le G:=⟨rfl,rfl,fun _ _ _ h=>h,fun _ _ h=>h,fun _ r h=>⟨r,h,rfl,.inl rfl⟩⟩
theorem Gh.Le.trans {A B C:Gh}(h:A.Le B) (k:B.Le C):A.Le C where
 W0:=k.W0.trans h.W0
 B:=k.B.trans h.B
 mem b o v e:=k.mem b o v (h.mem b o v e)
 inj i b e:=k.inj i b (h.inj i b e)
 own t r e:=by
  obtain⟨l,h1,q,g⟩:=h.own t r e;obtain⟨j,k1,n,d⟩:=k.own t l h1;refine⟨j,k1,n.trans q,?_⟩;rcases g with rfl|g
  ·exact d
  ·rcases d with rfl|d
   ·exact .inr g
   ·exact .inr (Nat.lt_trans g d)
def xG (G:Gh) (own:cL) (e:TypeId) (n:Nat) (v:Value):Prop:=
 match own with
 |.aE=>True
 |.full=> ∃a,v= .slice a n n
 |.tok t=> ∃r,G.own t=some r∧r.xN=e∧n≤r.len∧(n=r.len→r.val=v)
theorem xG.mono {G G':Gh}(hle:G.Le G') {own:cL}{e:TypeId}{n:Nat}{v:Value}(h:xG G own e n v):xG G' own e n v:=by
 cases own with
 |aE=>trivial
 |full=>exact h
 |tok t=>
  obtain⟨r,h1,i,o,l⟩:=h;obtain⟨d,k1,j,g⟩:=hle.own t r h1;rcases g with rfl|g
  ·exact⟨d,k1,i,o,l⟩
  ·exact⟨d,k1,j.trans i,by omega,by omega⟩
inductive ba (P:Program) (G:Gh):AV→Value→Prop
 |any (v:Value):ba P G .any v
 |sc (v:Value):ba P G (.sc v) v
 |ptr {id off b:Nat} (h:G.inj id=some b):ba P G (.ptr id off) (.pointer (some ⟨b,off,none⟩))
 |iC {cells:List AV} {b off:Nat} (vs:Nat→Value) (hm:∀i,i<cells.length→G.mem b (off+i)=some (vs i))
  (hr:∀i,i<cells.length→ba P G (cells.getD i .any) (vs i)):ba P G (.iC cells) (.pointer (some ⟨b,off,none⟩))
 |ai:ba P G .ai (.slice none 0 0)
 |jd {e:TypeId} {own:cL} (ho:xG G own e 0 (.slice none 0 0)):ba P G (.an e [] own true) (.slice none 0 0)
 |an {e:TypeId} {elems:List AV} {own:cL} {b off cap:Nat} (vs:Nat→Value)
  (hl:∀i,i<elems.length→(elems.getD i .any).cells.length=P.cellsOf e)
  (hm:∀k,k<elems.length*P.cellsOf e→G.mem b (off+k)=some (vs k))
  (hr:∀i j,i<elems.length→j<P.cellsOf e→ba P G ((elems.getD i .any).cells.getD j .any) (vs (i*P.cellsOf e+j)))
  (hc:elems.length≤cap)
  (ho:xG G own e elems.length (.slice (some ⟨b,off,none⟩) elems.length cap)):
  ba P G (.an e elems own false) (.slice (some ⟨b,off,none⟩) elems.length cap)
 |pR {e:TypeId} {a:Addr} {cap:Nat} :ba P G (.an e [] .aE false) (.slice (some a) 0 cap)
 |fT {id off len cap b:Nat} (h:G.inj id=some b):ba P G (.fT id off len cap) (.slice (some ⟨b,off,none⟩) len cap)
 |mp {id b:Nat} (h:G.inj id=some b):ba P G (.mp id) (.map (some b))
 |fn {f:Fn} {first captured:List AV} (vf vc:List Value) (lf:vf.length=first.length) (lc:vc.length=captured.length)
  (hf:∀i,i<first.length→ba P G (first.getD i .any) (vf.getD i undef)) (hc:∀i,i<captured.length→ba P G (captured.getD i .any) (vc.getD i undef)):
  ba P G (.fn f first captured) (.func f vf.toArray vc.toArray)
 |rX {t:TypeId} {v:AV} {x:Value} (h:ba P G v x):ba P G (.rX t v) (.iface t x)
 |agg {cells:List AV} (vs:List Value) (l:vs.length=cells.length) (h:∀i,i<cells.length→ba P G (cells.getD i .any) (vs.getD i undef)):ba P G (.agg cells) (.agg vs.toArray)
 |bQ {cells:List AV} (vs:List Value) (l:vs.length=cells.length) (h:∀i,i<cells.length→ba P G (cells.getD i .any) (vs.getD i undef)):ba P G (.bQ cells) (.tuple vs.toArray)
theorem ba.mono {P:Program}{G G':Gh}(hle:G.Le G') {a:AV}{v:Value}(h:ba P G a v):ba P G' a v:=by
 induction h with
 |any v=>exact .any v
 |sc v=>exact .sc v
 |ptr h=>exact .ptr (hle.inj _ _ h)
 |iC vs hm _ d=>exact .iC vs (fun i u=>hle.mem _ _ _ (hm i u)) d
 |ai=>exact .ai
 |jd g=>exact .jd (g.mono hle)
 |an vs hl hm _ y g d=>exact .an vs hl (fun k q=>hle.mem _ _ _ (hm k q)) d y (g.mono hle)
 |pR=>exact .pR
 |fT h=>exact .fT (hle.inj _ _ h)
 |mp h=>exact .mp (hle.inj _ _ h)
 |fn j n o lc _ _ i1 i2=>exact .fn j n o lc i1 i2
 |rX _ d=>exact .rX d
 |agg vs l _ d=>exact .agg vs l d
 |bQ vs l _ d=>exact .bQ vs l d
def oV (ms:Array MapEntry) (clock:Nat):Prop:=
 (∀(k:Nat) (e:MapEntry),ms[k]? =some e→e.born<clock)∧(∀(k k':Nat) (e d:MapEntry),ms[k]? =some e→ms[k']? =some d→e.born=d.born→k=k')
def HI (G:Gh) (w:World):bN→Nat→Prop
 |.lT s pos,b=>w.heap[b]? =some (.stringIter s pos)
 |.jN bh d done,b=> ∃(m since:Nat) (seen:Array Nat) (last:Nat) (ms:Array MapEntry) (clock:Nat),w.heap[b]? =some (.mapIter (some m) since seen last)∧G.inj bh=some m∧w.heap[m]? =some (.map ms clock)∧
  d≤ms.size∧since≤last∧last≤clock∧oV ms clock∧(∀(k:Nat) (e:MapEntry),ms[k]? =some e→(k<d↔e.born<since))∧
  (∀(k:Nat) (e:MapEntry),ms[k]? =some e→k<d→(seen.contains e.born=true↔k∈done))∧(∀x∈seen,x<since)∧(seen.isEmpty=false→0<d)∧ms.size+last=d+clock∧
  (∀k,done.head?=some k→ ∃e:MapEntry,ms[k]? =some e∧seen.back?=some e.born)
 | _,_ =>True
theorem HI.ka {G G':Gh}{w w':World}{s:bN}{b:Nat}(h:HI G w s b) (j:∀i b,G.inj i=some b→G'.inj i=some b) (d:∀o,w.heap[b]? =some o→w'.heap[b]? =some o)
 (hm:∀(m:Nat) (ms:Array MapEntry) (g:Nat),w.heap[m]? =some (.map ms g)→w'.heap[m]? =some (.map ms g)):HI G' w' s b:=by
 cases s with
 |lT s pos=>exact d _ h
 |jN bh v done=>obtain⟨m,since,seen,last,ms,clock,h1,u,q,l⟩:=h;exact⟨m,since,seen,last,ms,clock,d _ h1,j _ _ u,hm _ _ _ q,l⟩
 |cells ty cs=>trivial
 |tok n=>trivial
 |map es=>trivial
structure Inv (P:Program) (G:Gh) (σ:AS) (w:World):Prop where
 below:Below G.B G.W0 w
 base:G.B≤G.W0.heap.size
 mem:∀b o v,G.mem b o=some v→w.cell? ⟨b,o,none⟩=some v∧v.oneCell'=true
 top:∀i,G.top≤i→G.inj i=none∧G.own i=none
 dA:∀i b,G.inj i=some b→G.B≤b∧b<w.heap.size∧(∀ty cs,σ i=some (.cells ty cs)→ ∀o,G.mem b o=none)
 fN:∀i j b,G.inj i=some b→G.inj j=some b→i=j
 cells:∀i ty cs,σ i=some (.cells ty cs)→ ∃b vs,G.inj i=some b∧w.heap[b]? =some (.cells vs ty (0,0))∧vs.size=cs.length∧
  ∀k,k<cs.length→ba P G (cs.getD k .any) (vs.getD k undef)∧(vs.getD k undef).oneCell'=true
 maps:∀i es,σ i=some (.map es)→ ∃b ms clock,G.inj i=some b∧w.heap[b]? =some (.map ms clock)∧(ms.size=es.length∧oV ms clock)∧
  ∀k,k<es.length→ ∃m,ms[k]? =some m∧ba P G (es.getD k (.any,.any)).1 m.key∧ba P G (es.getD k (.any,.any)).2 m.val
 dY:∀i (s:bN),s.DT=true→σ i=some s→ ∃b,G.inj i=some b∧HI G w s b
 tok:∀i n,σ i=some (.tok n)→ ∃r,G.own i=some r∧r.len=n
 own:∀t r,G.own t=some r→r.len≤r.cap∧(r.a=none→r.cap=0)∧ ∀b o,r.a=some (b,o)→ ∀k,r.len*P.cellsOf r.xN≤k→k<r.cap*P.cellsOf r.xN→
  (w.cell? ⟨b,o+k,none⟩).isSome=true∧w.frozen? ⟨b,o+k,none⟩=false∧G.mem b (o+k)=none∧(∀i,G.inj i≠some b)∧G.B≤b∧b<w.heap.size∧
  (∀t' r' o',t'≠t→G.own t'=some r'→r'.a=some (b,o')→r'.cap*P.cellsOf r'.xN≤r'.len*P.cellsOf r'.xN)
theorem Inv.weaken {P:Program}{G:Gh}{σ d:AS}{w:World}(h:Inv P G σ w) (hle:AS.le d σ):Inv P G d w where
 below:=h.below
 base:=h.base
 mem:=h.mem
 top:=h.top
 dA i b e:=⟨(h.dA i b e).1,(h.dA i b e).2.1,fun ty cs g=>(h.dA i b e).2.2 ty cs (hle _ _ g)⟩
 fN:=h.fN
 cells i ty cs e:=h.cells i ty cs (hle _ _ e)
 maps i es e:=h.maps i es (hle _ _ e)
 dY i s p e:=h.dY i s p (hle _ _ e)
 tok i n e:=h.tok i n (hle _ _ e)
 own:=h.own
theorem ba.cells {P:Program}{G:Gh}{a:AV}{v:Value}(h:ba P G a v) (i:a.HN=true):
 v.cells.size=a.cells.length∧ ∀k,k<a.cells.length→ba P G (a.cells.getD k .any) (v.cells.getD k undef):=by
 have single:∀(a:AV) (v:Value),a.cells= [a]→v.cells= #[v]→ba P G a v→
  v.cells.size=a.cells.length∧ ∀k,k<a.cells.length→ba P G (a.cells.getD k .any) (v.cells.getD k undef):=by
  intro a v h1 A y;rw[h1,A];refine⟨rfl,fun k d=> ?_⟩;have:k=0:=by simp at d;exact d
  subst this;simpa using y
 cases h with
 |any v=>simp[AV.HN]at i
 |sc v=>refine single _ _ rfl ?_ (.sc v);cases v<;>first|rfl|simp[AV.HN]at i
 |agg vs l h=>refine⟨by simp[Value.cells,AV.cells,l],fun k d=> ?_⟩;have:=h k d;simpa[Value.cells,AV.cells]using this
 |bQ vs l h=>simp[AV.HN]at i
 |ptr h=>exact single _ _ rfl rfl (.ptr h)
 |iC vs hm g=>exact single _ _ rfl rfl (.iC vs hm g)
 |ai=>exact single _ _ rfl rfl .ai
 |jd h=>exact single _ _ rfl rfl (.jd h)
 |an vs hl hm g j u=>exact single _ _ rfl rfl (.an vs hl hm g j u)
 |pR=>exact single _ _ rfl rfl .pR
 |fT h=>exact single _ _ rfl rfl (.fT h)
 |mp h=>exact single _ _ rfl rfl (.mp h)
 |fn n o q lc hf j=>exact single _ _ rfl rfl (.fn n o q lc hf j)
 |rX h=>exact single _ _ rfl rfl (.rX h)
theorem ba.one {P:Program}{G:Gh}{a:AV}{v:Value}(h:ba P G a v) (d:a.one=true):v.oneCell'=true:=by
 cases h<;>first|rfl|(simp[AV.one]at d;done)|skip
 case sc=>cases v<;>first|rfl|simp[AV.one]at d
end Go.AW
namespace Go.AW
open Go Go.RowKit
variable {P:Program} {G:Gh} {σ:AS} {w:World}
theorem Inv.fresh (h:Inv P G σ w):σ G.top=none:=by
 have ht:=h.top G.top (Nat.le_refl _);cases e:σ G.top with
 |none=>rfl
 |some b=>
  cases b with
  |cells ty cs=>obtain⟨b,_,h1,_⟩:=h.cells _ _ _ e;rw[ht.1]at h1;cases h1
  |map es=>obtain⟨b,_,_,h1,_⟩:=h.maps _ _ e;rw[ht.1]at h1;cases h1
  |lT s p=>obtain⟨b,h1,_⟩:=h.dY _ _ rfl e;rw[ht.1]at h1;cases h1
  |jN m n d=>obtain⟨b,h1,_⟩:=h.dY _ _ rfl e;rw[ht.1]at h1;cases h1
  |tok n=>obtain⟨r,h1,_⟩:=h.tok _ _ e;rw[ht.2]at h1;cases h1
theorem Inv.KP (h:Inv P G σ w):G.B≤w.heap.size:=Nat.le_trans h.base h.below.size
theorem Inv.BP (h:Inv P G σ w) {b o:Nat}{v:Value}(e:G.mem b o=some v):b<w.heap.size:=by
 have h1:=(h.mem b o v e).1;rcases Nat.lt_or_ge b w.heap.size with d|d
 ·exact d
 ·simp[World.cell?,Array.getElem?_eq_none d]at h1
theorem Inv.drew (h:Inv P G σ w):Inv P G σ w.drew where
 below:=h.below.drew
 base:=h.base
 mem:=h.mem
 top:=h.top
 dA:=h.dA
 fN:=h.fN
 cells:=h.cells
 maps:=h.maps
 dY:=h.dY
 tok:=h.tok
 own:=h.own
theorem eT (w:World) (o:Obj) {k:Nat}(h:k<w.heap.size):(w.alloc o).heap[k]? =w.heap[k]? :=Below.heap_alloc w o k h
theorem heap_alloc_new (w:World) (o:Obj):(w.alloc o).heap[w.heap.size]? =some o:=by show(w.heap.push o)[w.heap.size]? = _;simp
theorem dX {w:World}{b:Nat}{o:Obj}(h:w.heap[b]? =some o):b<w.heap.size:=by
 rcases Nat.lt_or_ge b w.heap.size with h1|h1
 ·exact h1
 ·rw[Array.getElem?_eq_none h1]at h;cases h
theorem xq {w:World}{a:Addr}(o:Obj) (h:a.block<w.heap.size):(w.alloc o).cell? a=w.cell? a:=
 World.cell?_of_block (eT w o h)
theorem Ai {w:World}{a:Addr}(o:Obj) (h:a.block<w.heap.size):(w.alloc o).frozen? a=w.frozen? a:=
 World.frozen?_of_block (eT w o h)
theorem Inv.alloc (h:Inv P G σ w) (o:Obj):Inv P G σ (w.alloc o) where
 below:=h.below.alloc h.KP o
 base:=h.base
 mem b of v e:=⟨by rw[xq o (h.BP e)];exact(h.mem b of v e).1,(h.mem b of v e).2⟩
 top:=h.top
 dA i b e:=⟨(h.dA i b e).1,by have:=(h.dA i b e).2.1;simp;omega,(h.dA i b e).2.2⟩
 fN:=h.fN
 cells i ty cs e:=by obtain⟨b,vs,h1,d,j⟩:=h.cells i ty cs e;exact⟨b,vs,h1,by rw[eT w o (dX d)];exact d,j⟩
 maps i es e:=by obtain⟨b,ms,c,h1,d,j⟩:=h.maps i es e;exact⟨b,ms,c,h1,by rw[eT w o (dX d)];exact d,j⟩
 dY i s p e:=by obtain⟨b,h1,d⟩:=h.dY i s p e;exact⟨b,h1,d.ka (fun _ _ h=>h) (fun _ g=>by rw[eT w o (dX g)];exact g) (fun _ _ _ g=>by rw[eT w o (dX g)];exact g)⟩
 tok:=h.tok
 own t r e:=by
  obtain⟨h1,d,j⟩:=h.own t r e;refine⟨h1,d,fun b of E k n l=> ?_⟩;obtain⟨k1,D,A,k4,y,q,u⟩:=j b of E k n l;refine⟨?_,?_,A,k4,y,by simp;omega,u⟩
  ·rw[xq o q];exact k1
  ·rw[Ai o q];exact D
def Gh.bind (G:Gh) (b:Nat):Gh:= { G with inj:=fun j=>if j=G.top then some b else G.inj j,top:=G.top+1 }
theorem Gh.sN (G:Gh) (b:Nat) (ht:G.inj G.top=none):G.Le (G.bind b) where
 W0:=rfl
 B:=rfl
 mem _ _ _ h:=h
 inj i c h:=by
  have:i≠G.top:=by intro e;subst e;rw[ht]at h;cases h
  simp[Gh.bind,this,h]
 own t r h:=⟨r,h,rfl,.inl rfl⟩
theorem Inv.bind (h:Inv P G σ w) (o:Obj):Inv P (G.bind w.heap.size) σ (w.alloc o):=by
 have g:=h.alloc o;have hle:=G.sN w.heap.size (h.top _ (Nat.le_refl _)).1;refine⟨g.below,g.base,g.mem,?_,?_,?_,?_,?_,?_,g.tok,?_⟩
 ·intro i d;have:i≠G.top:=by simp[Gh.bind]at d;omega
  have:=h.top i (by simp[Gh.bind]at d;omega);simp[Gh.bind, *]
 ·intro i b e;by_cases d:i=G.top
  ·simp[Gh.bind,d]at e;subst e;refine⟨h.KP,by simp,fun _ _ _ of=> ?_⟩;cases hm:G.mem w.heap.size of with
   |none=>exact hm
   |some v=>have:=h.BP hm;omega
  ·simp[Gh.bind,d]at e;exact g.dA i b e
 ·intro i j b A y;by_cases d:i=G.top<;>by_cases I:j=G.top
  ·omega
  ·simp[Gh.bind,d,I]at A y;have:=(h.dA j b y).2.1;omega
  ·simp[Gh.bind,d,I]at A y;have:=(h.dA i b A).2.1;omega
  ·simp[Gh.bind,d,I]at A y;exact h.fN i j b A y
 ·intro i ty cs e;obtain⟨b,vs,h1,l,u,E⟩:=g.cells i ty cs e;exact⟨b,vs,hle.inj _ _ h1,l,u,fun k D=>⟨(E k D).1.mono hle,(E k D).2⟩⟩
 ·intro i es e;obtain⟨b,ms,c,h1,l,u,E⟩:=g.maps i es e;refine⟨b,ms,c,hle.inj _ _ h1,l,u,fun k D=> ?_⟩;obtain⟨m,k1,H,F⟩:=E k D;exact⟨m,k1,H.mono hle,F.mono hle⟩
 ·intro i s p e;obtain⟨b,h1,l⟩:=g.dY i s p e;exact⟨b,hle.inj _ _ h1,l.ka hle.inj (fun _ h=>h) (fun _ _ _ h=>h)⟩
 ·intro t r e;obtain⟨h1,l,u⟩:=g.own t r e;refine⟨h1,l,fun b of J k q n=> ?_⟩;obtain⟨k1,H,F,k4,Q,O,L⟩:=u b of J k q n;have M:=((h.own t r e).2.2 b of J k q n).2.2.2.2.2.1;refine⟨k1,H,F,fun i=> ?_,Q,O,L⟩;by_cases d:i=G.top
  ·simp[Gh.bind,d];omega
  ·simp[Gh.bind,d];exact k4 i
theorem Inv.mq (h:Inv P G σ w) (ty:TypeId) (vs:Array Value) (cs:List AV) (hl:vs.size=cs.length)
 (l:∀k,k<cs.length→ba P G (cs.getD k .any) (vs.getD k undef)∧(vs.getD k undef).oneCell'=true):
 ∃G',G.Le G'∧G'.inj G.top=some w.heap.size∧Inv P G' (σ.set G.top (.cells ty cs)) (w.alloc (.cells vs ty)):=by
 have hle:=G.sN w.heap.size (h.top _ (Nat.le_refl _)).1;have g:=h.bind (.cells vs ty);refine⟨_,hle,by simp[Gh.bind],?_⟩;refine⟨g.below,g.base,g.mem,g.top,?_,g.fN,?_,?_,?_,?_,g.own⟩
 ·intro i b e;have h1:=g.dA i b e;refine⟨h1.1,h1.2.1,fun j cs' q=> ?_⟩;by_cases d:i=G.top
  ·subst d;simp[Gh.bind]at e;subst e;intro of;cases hm:G.mem w.heap.size of with
   |none=>exact hm
   |some v=>have:=h.BP hm;omega
  ·exact h1.2.2 j cs' (by simpa[AS.set,d]using q)
 ·intro i j cs' e;by_cases d:i=G.top
  ·subst d;simp[AS.set]at e;obtain⟨rfl,rfl⟩:=e;exact⟨w.heap.size,vs,by simp[Gh.bind],heap_alloc_new w _,hl,fun k o=>⟨(l k o).1.mono hle,(l k o).2⟩⟩
  ·simp[AS.set,d]at e;exact g.cells i j cs' e
 ·intro i es e;by_cases d:i=G.top
  ·simp[AS.set,d]at e
  ·simp[AS.set,d]at e;exact g.maps i es e
 ·intro i s p e;by_cases d:i=G.top
  ·simp[AS.set,d]at e;subst e;cases p
  ·simp[AS.set,d]at e;exact g.dY i s p e
 ·intro i n e;by_cases d:i=G.top
  ·simp[AS.set,d]at e
  ·simp[AS.set,d]at e;exact g.tok i n e
def Gh.ka (G:Gh) (b off n:Nat) (vs:Nat→Value):Gh:=
 { G with mem:=fun d o=>if d=b∧off≤o∧o<off+n then some (vs (o-off))else G.mem d o }
theorem Gh.lx {b off n o:Nat}{vs:Nat→Value}(h1:off≤o) (d:o<off+n):(G.ka b off n vs).mem b o=some (vs (o-off)):=if_pos ⟨rfl,h1,d⟩
theorem Gh.fp {b off n d o:Nat}{vs:Nat→Value}(h:¬(d=b∧off≤o∧o<off+n)):(G.ka b off n vs).mem d o=G.mem d o:=if_neg h
theorem Inv.B2 (h:Inv P G σ w) (ty:TypeId) (cur:Array Value) (I:Nat×Nat) (n:Nat) (vs:Nat→Value) (_hn:n≤cur.size) (S:∀k,k<n→cur[k]? =some (vs k)∧(vs k).oneCell'=true):
 G.Le (G.ka w.heap.size 0 n vs)∧Inv P (G.ka w.heap.size 0 n vs) σ (w.alloc (.cells cur ty I)):=by
 have hle:G.Le (G.ka w.heap.size 0 n vs):=by refine⟨rfl,rfl,fun b o v e=> ?_,fun _ _ e=>e,fun t r e=>⟨r,e,rfl,.inl rfl⟩⟩;have:=h.BP e;simp only[Gh.ka];rw[if_neg (by omega)];exact e
 have d:=h.alloc (.cells cur ty I);refine⟨hle,d.below,d.base,?_,h.top,?_,h.fN,?_,?_,d.dY,d.tok,?_⟩
 ·intro b o v e;by_cases H:b=w.heap.size∧0≤o∧o<0+n
  ·simp only[Gh.ka]at e;rw[if_pos H]at e;obtain⟨rfl,_,U⟩:=H;simp at e;subst e;have:=S o (by omega);refine⟨?_,this.2⟩;simp only[World.cell?,heap_alloc_new];simpa using this.1
  ·simp only[Gh.ka]at e;rw[if_neg H]at e;exact d.mem b o v e
 ·intro i b e;have h1:=h.dA i b e;refine⟨h1.1,by simp;omega,fun g cs' T o=> ?_⟩;simp only[Gh.ka];rw[if_neg (by omega)];exact h1.2.2 g cs' T o
 ·intro i g cs e;obtain⟨b,D,h1,u,q,A⟩:=d.cells i g cs e;exact⟨b,D,h1,u,q,fun k y=>⟨(A k y).1.mono hle,(A k y).2⟩⟩
 ·intro i es e;obtain⟨b,ms,c,h1,u,q,A⟩:=d.maps i es e;refine⟨b,ms,c,h1,u,q,fun k y=> ?_⟩;obtain⟨m,k1,F,E⟩:=A k y;exact⟨m,k1,F.mono hle,E.mono hle⟩
 ·intro t r e;obtain⟨h1,u,q⟩:=d.own t r e;refine⟨h1,u,fun b of J k l j=> ?_⟩;obtain⟨k1,F,E,k4,Q,O,L⟩:=q b of J k l j;have M:=((h.own t r e).2.2 b of J k l j).2.2.2.2.2.1;refine⟨k1,F,?_,k4,Q,O,L⟩;simp only[Gh.ka];rw[if_neg (by omega)];exact E
theorem Inv.Fv (h:Inv P G σ w) (ty:TypeId) (cur:Array Value) (n:Nat) (vs:Nat→Value) (g:n≤cur.size) (d:∀k,k<n→cur[k]? =some (vs k)∧(vs k).oneCell'=true):
 G.Le (G.ka w.heap.size 0 n vs)∧Inv P (G.ka w.heap.size 0 n vs) σ (w.alloc (.cells cur ty)):=h.B2 ty cur (0,0) n vs g d
def te (cur:Array Value):Nat→List Value→Array Value
 | _,[]=>cur
 |o,v::r=>te (cur.setIfInBounds o v) (o+1) r
theorem qx (vs:List Value):∀(cur:Array Value) (o:Nat),(te cur o vs).size=cur.size:=by
 induction vs with
 |nil=>intro cur o;rfl
 |cons v r d=>intro cur o;simp[te,d]
theorem vR (vs:List Value):∀(cur:Array Value) (o k:Nat),o+vs.length≤cur.size→
 (te cur o vs).getD k undef=if o≤k∧k<o+vs.length then vs.getD (k-o) undef else cur.getD k undef:=by
 induction vs with
 |nil=>intro cur o k _;rw[if_neg (by simp only[List.length_nil];omega)];rfl
 |cons v r g=>
  intro cur o k h;simp only[List.length_cons]at h;simp only[te];rw[g _ _ _ (by simp;omega)];by_cases h1:o+1≤k∧k<o+1+r.length
  ·rw[if_pos h1,if_pos (by simp only[List.length_cons];omega)];have:k-o=(k-(o+1))+1:=by omega
   rw[this];simp
  ·rw[if_neg h1];by_cases d:k=o
   ·subst d;rw[if_pos (by simp only[List.length_cons];omega)];have:k<cur.size:=by omega
    simp[this]
   ·rw[if_neg (by simp only[List.length_cons];omega)];simp[Array.getElem?_setIfInBounds_ne (fun e=>d e.symm)]
theorem yd (b:Nat) (vs:List Value):∀(w:World) (o:Nat) (cur:Array Value) (ty:TypeId) (d:Nat×Nat),w.heap[b]? =some (.cells cur ty d)→
 (w.setCells b o vs).heap[b]? =some (.cells (te cur o vs) ty d):=by
 induction vs with
 |nil=>intro w o cur ty d h;exact h
 |cons v r g=>intro w o cur ty d h;refine g _ _ _ _ _ ?_;simp only[World.setCell,Array.getElem?_modify,h,if_true,Option.map_some];rfl
theorem lh (b:Nat) (vs:List Value):∀(w:World) (o:Nat) (k:Nat),k≠b→(w.setCells b o vs).heap[k]? =w.heap[k]? :=by
 induction vs with
 |nil=>intro w o k h;rfl
 |cons v r d=>intro w o k h;rw[show w.setCells b o (v::r)=(w.setCell ⟨b,o,none⟩ v).setCells b (o+1) r from rfl,d _ _ _ h];exact Below.heap_setCell w _ v k h
theorem iq (b:Nat) (vs:List Value):∀(w:World) (o:Nat),(w.setCells b o vs).heap.size=w.heap.size:=by
 induction vs with
 |nil=>intro w o;rfl
 |cons v r d=>intro w o;rw[show w.setCells b o (v::r)=(w.setCell ⟨b,o,none⟩ v).setCells b (o+1) r from rfl,d];simp
theorem qi {B:Nat}{a:World}(b:Nat) (vs:List Value):∀(w:World) (o:Nat),Below B a w→B≤b→Below B a (w.setCells b o vs):=by
 induction vs with
 |nil=>intro w o h _;exact h
 |cons v r g=>intro w o h d;exact g _ _ (h.setCell (p:=⟨b,o,none⟩) d v) d
theorem Inv.store (h:Inv P G σ w) {i:Nat}{ty:TypeId}{cs:List AV}(e:σ i=some (.cells ty cs)) (off:Nat) (vs:List Value) (u:List AV)
 (hl:vs.length=u.length) (S:off+vs.length≤cs.length) (hr:∀k,k<u.length→ba P G (u.getD k .any) (vs.getD k undef)∧(vs.getD k undef).oneCell'=true)
 (b:Nat) (D:G.inj i=some b):
 Inv P G (σ.set i (.cells ty (cs.take off++u++cs.drop (off+u.length)))) (w.setCells b off vs):=by
 obtain⟨F,cur,h1,V,h3,h4⟩:=h.cells i ty cs e;rw[D]at h1;obtain rfl:=Option.some.inj h1;have U:=h.dA i b D;have other:∀k,k≠b→(w.setCells b off vs).heap[k]? =w.heap[k]? :=lh b vs w off;have hlen:(cs.take off++u++cs.drop (off+u.length)).length=cs.length:=by simp;omega
 refine⟨qi b vs w off h.below U.1,h.base,?_,h.top,?_,h.fN,?_,?_,?_,?_,?_⟩
 ·intro F o v em;have d:F≠b:=by intro l;subst l;rw[U.2.2 _ _ e o]at em;cases em
  exact⟨by rw[World.cell?_of_block (w:=w) (other F d)];exact(h.mem F o v em).1,(h.mem F o v em).2⟩
 ·intro j c g;have:=h.dA j c g;refine⟨this.1,by rw[iq];exact this.2.1,fun y cs' hn=> ?_⟩;by_cases q:j=i
  ·subst q;exact this.2.2 _ _ e
  ·exact this.2.2 y cs' (by simpa[AS.set,q]using hn)
 ·intro j y cs' g;by_cases q:j=i
  ·subst q;simp[AS.set]at g;obtain⟨rfl,rfl⟩:=g;refine⟨b,_,D,yd b vs w off cur _ _ V,?_,?_⟩
   ·rw[qx,h3];simp;omega
   ·intro k hk;rw[vR _ _ _ _ (by omega)];have M:k<cs.length:=by simp at hk;omega
    by_cases T:off≤k∧k<off+vs.length
    ·rw[if_pos T];have:=hr (k-off) (by omega);have O:(cs.take off++(u++cs.drop (off+u.length))).getD k .any=u.getD (k-off) .any:=by
      have t:(cs.take off).length=off:=by simp;omega
      simp only[List.getD_eq_getElem?_getD];rw[List.getElem?_append_right (by omega),t,List.getElem?_append_left (by omega)]
     rw[O];exact this
    ·rw[if_neg T];have:=h4 k M;have O:(cs.take off++(u++cs.drop (off+u.length))).getD k .any=cs.getD k .any:=by
      have t:(cs.take off).length=off:=by simp;omega
      simp only[List.getD_eq_getElem?_getD];by_cases I:k<off
      ·rw[List.getElem?_append_left (by omega),List.getElem?_take_of_lt I]
      ·rw[List.getElem?_append_right (by omega),t,List.getElem?_append_right (by omega),List.getElem?_drop];congr 2;omega
     rw[O];exact this
  ·simp[AS.set,q]at g;obtain⟨c,H,k1,A,E⟩:=h.cells j y cs' g;have d:c≠b:=fun l=>q (h.fN j i b (l ▸ k1) D);exact⟨c,H,k1,by rw[other c d];exact A,E⟩
 ·intro j es g;have q:j≠i:=by intro l;subst l;simp[AS.set]at g
  simp[AS.set,q]at g;obtain⟨c,ms,X,k1,A,E⟩:=h.maps j es g;have d:c≠b:=fun l=>q (h.fN j i b (l ▸ k1) D);exact⟨c,ms,X,k1,by rw[other c d];exact A,E⟩
 ·intro j s p g;have q:j≠i:=by intro l;subst l;simp[AS.set]at g;subst g;cases p
  simp[AS.set,q]at g;obtain⟨c,k1,A⟩:=h.dY j s p g;have d:c≠b:=fun l=>q (h.fN j i b (l ▸ k1) D);exact⟨c,k1,A.ka (fun _ _ h=>h) (fun o ho=>by rw[other c d];exact ho) (fun m ms X hm=>by rw[other m (fun e=>by subst e;rw[V]at hm;cases hm)];exact hm)⟩
 ·intro j n g;have q:j≠i:=by intro l;subst l;simp[AS.set]at g
  simp[AS.set,q]at g;exact h.tok j n g
 ·intro t r et;obtain⟨k1,A,E⟩:=h.own t r et;refine⟨k1,A,fun c o ea k L J=> ?_⟩;obtain⟨m1,m2,m3,Q,m5,Z,Y⟩:=E c o ea k L J;have d:c≠b:=fun l=>Q i (l ▸ D);refine⟨?_,?_,m3,Q,m5,by rw[iq];exact Z,Y⟩
  ·rw[World.cell?_of_block (w:=w) (other c d)];exact m1
  ·rw[World.frozen?_of_block (w:=w) (other c d)];exact m2
end Go.AW
namespace Go.AW
open Go Go.RowKit
variable {P:Program} {G:Gh} {σ:AS} {w:World}
def Gh.fM (G:Gh) (r:OR):Gh:= { G with own:=fun j=>if j=G.top then some r else G.own j,top:=G.top+1 }
theorem Gh.L7 (G:Gh) (r:OR) (ht:G.own G.top=none):G.Le (G.fM r) where
 W0:=rfl
 B:=rfl
 mem _ _ _ h:=h
 inj _ _ h:=h
 own t d h:=by
  have:t≠G.top:=by intro e;subst e;rw[ht]at h;cases h
  exact⟨d,by simp[Gh.fM,this,h],rfl,.inl rfl⟩
theorem Inv.fM (h:Inv P G σ w) (a:Option (Nat×Nat)) (n:Nat) (e:TypeId) (ha:a=none→n=0):
 G.Le (G.fM ⟨a,n,n,e⟩)∧Inv P (G.fM ⟨a,n,n,e⟩) (σ.set G.top (.tok n)) w:=by
 have ht:=h.top _ (Nat.le_refl _);have hle:=G.L7 ⟨a,n,n,e⟩ ht.2;refine⟨hle,h.below,h.base,h.mem,?_,fun i b e=>⟨(h.dA i b e).1,(h.dA i b e).2.1,fun ty cs O=>(h.dA i b e).2.2 ty cs (by
  by_cases d:i=G.top
  ·subst d;simp[AS.set]at O
  ·simpa[AS.set,d]using O)⟩,h.fN,?_,?_,?_,?_,?_⟩
 ·intro i d;have:i≠G.top:=by simp[Gh.fM]at d;omega
  have:=h.top i (by simp[Gh.fM]at d;omega);simp[Gh.fM, *]
 ·intro i ty cs g;have d:i≠G.top:=by intro A;subst A;simp[AS.set]at g
  simp[AS.set,d]at g;obtain⟨b,vs,h1,u,y,E⟩:=h.cells i ty cs g;exact⟨b,vs,h1,u,y,fun k D=>⟨(E k D).1.mono hle,(E k D).2⟩⟩
 ·intro i es g;have d:i≠G.top:=by intro A;subst A;simp[AS.set]at g
  simp[AS.set,d]at g;obtain⟨b,ms,c,h1,u,y,E⟩:=h.maps i es g;refine⟨b,ms,c,h1,u,y,fun k D=> ?_⟩;obtain⟨m,k1,I,H⟩:=E k D;exact⟨m,k1,I.mono hle,H.mono hle⟩
 ·intro i s p g;have d:i≠G.top:=by intro A;subst A;simp[AS.set]at g;subst g;cases p
  simp[AS.set,d]at g;exact h.dY i s p g
 ·intro i m g;by_cases d:i=G.top
  ·simp[AS.set,d]at g;subst g;exact⟨⟨a,n,n,e⟩,by simp[Gh.fM,d],rfl⟩
  ·simp[AS.set,d]at g;obtain⟨r,h1,u⟩:=h.tok i m g;exact⟨r,by simp[Gh.fM,d,h1],u⟩
 ·intro t r F;by_cases d:t=G.top
  ·simp[Gh.fM,d]at F;subst F;refine⟨Nat.le_refl _,ha,fun b o _ k q l=> ?_⟩;simp at q l;omega
  ·simp[Gh.fM,d]at F;obtain⟨h1,u,y⟩:=h.own t r F;refine⟨h1,u,fun b o X k q l=> ?_⟩;obtain⟨k1,I,H,k4,V,U,T⟩:=y b o X k q l;refine⟨k1,I,H,k4,V,U,fun M Q S J j L=> ?_⟩;by_cases v:M=G.top
   ·simp[Gh.fM,v]at j;subst j;exact Nat.le_refl _
   ·simp[Gh.fM,v]at j;exact T M Q S J j L
def Gh.grow (G:Gh) (t:Nat) (r:OR) (b off n:Nat) (vs:Nat→Value):Gh:=
 { G.ka b off n vs with own:=fun j=>if j=t then some r else G.own j }
def Gh.g9 (G:Gh) (t:Nat) (r:OR):Gh:= { G with own:=fun j=>if j=t then some r else G.own j }
theorem Inv.g9 (h:Inv P G σ w) (n:Nat) (d r:OR) (hr:G.own n=some r) (O:d.xN=r.xN) (hlen:d=r∨r.len<d.len) (af:d.len≤d.cap) (U:d.a=none→d.cap=0)
 (L:∀b o,d.a=some (b,o)→ ∀k,d.len*P.cellsOf d.xN≤k→k<d.cap*P.cellsOf d.xN→
  (w.cell? ⟨b,o+k,none⟩).isSome=true∧w.frozen? ⟨b,o+k,none⟩=false∧G.mem b (o+k)=none∧(∀i,G.inj i≠some b)∧G.B≤b∧b<w.heap.size∧
  (∀t2 g F,t2≠n→G.own t2=some g→g.a=some (b,F)→g.cap*P.cellsOf g.xN≤g.len*P.cellsOf g.xN))
 (M:∀t2 g b o,t2≠n→G.own t2=some g→g.a=some (b,o)→ ∀k,g.len*P.cellsOf g.xN≤k→k<g.cap*P.cellsOf g.xN→ ∀o',d.a=some (b,o')→d.cap*P.cellsOf d.xN≤d.len*P.cellsOf d.xN):
 G.Le (G.g9 n d)∧Inv P (G.g9 n d) (σ.set n (.tok d.len)) w:=by
 have hle:G.Le (G.g9 n d):=by
  refine⟨rfl,rfl,fun _ _ _ e=>e,fun _ _ e=>e,fun t q e=> ?_⟩;by_cases ht:t=n
  ·subst ht;rw[hr]at e;obtain rfl:=Option.some.inj e;exact⟨d,by simp[Gh.g9],O,hlen⟩
  ·exact⟨q,by simp[Gh.g9,ht,e],rfl,.inl rfl⟩
 refine⟨hle,h.below,h.base,h.mem,?_,fun i b e=>⟨(h.dA i b e).1,(h.dA i b e).2.1,fun ty cs U=>(h.dA i b e).2.2 ty cs (by
  by_cases j:i=n
  ·subst j;simp[AS.set]at U
  ·simpa[AS.set,j]using U)⟩,h.fN,?_,?_,?_,?_,?_⟩
 ·intro i j;have:=h.top i j;have u:i≠n:=by intro E;subst E;rw[hr]at this;cases this.2
  exact⟨this.1,by simp[Gh.g9,u,this.2]⟩
 ·intro i ty cs l;have j:i≠n:=by intro E;subst E;simp[AS.set]at l
  simp[AS.set,j]at l;obtain⟨b,vs,h1,D,Q,X⟩:=h.cells i ty cs l;exact⟨b,vs,h1,D,Q,fun k V=>⟨(X k V).1.mono hle,(X k V).2⟩⟩
 ·intro i es l;have j:i≠n:=by intro E;subst E;simp[AS.set]at l
  simp[AS.set,j]at l;obtain⟨b,ms,c,h1,D,Q,X⟩:=h.maps i es l;refine⟨b,ms,c,h1,D,Q,fun k V=> ?_⟩;obtain⟨m,k1,I,H⟩:=X k V;exact⟨m,k1,I.mono hle,H.mono hle⟩
 ·intro i s p l;have j:i≠n:=by intro E;subst E;simp[AS.set]at l;subst l;cases p
  simp[AS.set,j]at l;exact h.dY i s p l
 ·intro i m l;by_cases j:i=n
  ·subst j;simp[AS.set]at l;exact⟨d,by simp[Gh.g9],l⟩
  ·simp[AS.set,j]at l;obtain⟨q,h1,D⟩:=h.tok i m l;exact⟨q,by simp[Gh.g9,j,h1],D⟩
 ·intro t q S;by_cases j:t=n
  ·subst j;have:q=d:=by simp[Gh.g9]at S;exact S.symm
   subst this;refine⟨af,U,fun b o Y k y v=> ?_⟩;obtain⟨k1,I,H,k4,k5,k6,Z⟩:=L b o Y k y v;exact⟨k1,I,H,k4,k5,k6,fun t2 g F u T A=>Z t2 g F u (by simpa[Gh.g9,u]using T) A⟩
  ·simp[Gh.g9,j]at S;obtain⟨h1,D,Q⟩:=h.own t q S;refine⟨h1,D,fun b o Y k y v=> ?_⟩;obtain⟨k1,I,H,k4,k5,k6,Z⟩:=Q b o Y k y v;refine⟨k1,I,H,k4,k5,k6,fun t2 g F u T A=> ?_⟩;by_cases J:t2=n
   ·subst J;have:g=d:=by simp[Gh.g9]at T;exact T.symm
    subst this;exact M t q b o j S Y k y v F A
   ·exact Z t2 g F u (by simpa[Gh.g9,J]using T) A
theorem kc {i n j sz:Nat}(d:i<n) (g:j<sz):i*sz+j<n*sz:=by have:(i+1)*sz≤n*sz:=Nat.mul_le_mul_right _ d;rw[Nat.add_mul]at this;omega
theorem Ab {i n j sz:Nat}(d:n≤i):n*sz≤i*sz+j:=by have:n*sz≤i*sz:=Nat.mul_le_mul_right _ d;omega
theorem aO {α:Type}(l r:List α) (d:α) {i:Nat}(h:i<l.length):(l++r).getD i d=l.getD i d:=by simp only[List.getD_eq_getElem?_getD,List.getElem?_append_left h]
theorem aX {α:Type}(l r:List α) (d:α) {i:Nat}(h:l.length≤i):(l++r).getD i d=r.getD (i-l.length) d:=by simp only[List.getD_eq_getElem?_getD,List.getElem?_append_right h]
theorem tQ {d g:Nat}(h:g<d):Builtin.nextslicecap d g≤512∨4*Builtin.nextslicecap d g≤5*d+768:=by
 have i:∀(r c:Nat),c≤d→4*Builtin.growBy d r c≤5*d+768:=by
  intro r;induction r with
  |zero=>intro c l;simp[Builtin.growBy];omega
  |succ r j=>
   intro c l;simp only[Builtin.growBy];split
   ·omega
   ·by_cases n:c+(c+768)/4≤d
    ·exact j _ n
    ·cases r with
     |zero=>simp[Builtin.growBy];omega
     |succ r=>simp only[Builtin.growBy];rw[if_pos (by omega)];omega
 unfold Builtin.nextslicecap;split
 ·right;omega
 ·split
  ·left;omega
  ·right;exact i 4 g (by omega)
theorem nextslicecap_le {d g:Nat}(h:g<d):Builtin.nextslicecap d g≤2*d:=by
 have q:∀(r c:Nat),c≤d→Builtin.growBy d r c≤2*d+192:=by
  intro r;induction r with
  |zero=>intro c l;simp[Builtin.growBy];omega
  |succ r i=>
   intro c l;simp only[Builtin.growBy];split
   ·omega
   ·rename_i h1;by_cases n:c+(c+768)/4≤d
    ·exact i _ n
    ·cases r with
     |zero=>simp[Builtin.growBy];omega
     |succ r=>simp only[Builtin.growBy];rw[if_pos (by omega)];omega
 unfold Builtin.nextslicecap;split
 ·omega
 ·split
  ·omega
  ·rename_i h1 n;have j:∀(r c:Nat),256≤c→c≤d→Builtin.growBy d r c≤2*d:=by
    intro r;induction r with
    |zero=>intro c _ l;simp[Builtin.growBy];omega
    |succ r i=>
     intro c u l;simp only[Builtin.growBy];split
     ·omega
     ·by_cases o:c+(c+768)/4≤d
      ·exact i _ (by omega) o
      ·cases r with
       |zero=>simp[Builtin.growBy];omega
       |succ r=>simp only[Builtin.growBy];rw[if_pos (by omega)];omega
   exact j 4 g (by omega) (by omega)
def kH (b:Nat):Nat:=if b=1 then 140737488355328 else if b≤100000 then 220000000000000 else 140737488355328
theorem wh {d g b:Nat}(h:g<d) (i:d*b≤kH b):Builtin.nextslicecap d g*b≤281474976710656:=by
 have two:d*b≤140737488355328→Builtin.nextslicecap d g*b≤281474976710656:=by intro l;have j:Builtin.nextslicecap d g*b≤(2*d)*b:=Nat.mul_le_mul_right _ (nextslicecap_le h);rw[Nat.mul_assoc]at j;omega
 unfold kH at i;split at i
 ·exact two i
 ·split at i
  ·rename_i n;rcases tQ h with h1|h1
   ·have j:Builtin.nextslicecap d g*b≤512*b:=Nat.mul_le_mul_right _ h1;omega
   ·have j:4*Builtin.nextslicecap d g*b≤(5*d+768)*b:=Nat.mul_le_mul_right _ h1;rw[Nat.add_mul,Nat.mul_assoc,Nat.mul_assoc]at j;omega
  ·exact two i
structure CS (P:Program) (G:Gh) (e:TypeId) (xs:List AV) (news:List Value):Prop where
 len:news.length=xs.length*P.cellsOf e
 el:∀i,i<xs.length→(xs.getD i .any).cells.length=P.cellsOf e
 rep:∀i j,i<xs.length→j<P.cellsOf e→ba P G ((xs.getD i .any).cells.getD j .any) (news.getD (i*P.cellsOf e+j) undef)
theorem CS.mono {G G':Gh}{e:TypeId}{xs:List AV}{news:List Value}(h:CS P G e xs news) (hle:G.Le G'):CS P G' e xs news:=
 ⟨h.len,h.el,fun i j g d=>(h.rep i j g d).mono hle⟩
theorem Bt {G:Gh}{e:TypeId}{elems xs:List AV}{news:List Value}(vs:Nat→Value)
 (hl:∀i,i<elems.length→(elems.getD i .any).cells.length=P.cellsOf e)
 (n:∀i j,i<elems.length→j<P.cellsOf e→ba P G ((elems.getD i .any).cells.getD j .any) (vs (i*P.cellsOf e+j)))
 (l:CS P G e xs news):
 (∀i,i<(elems++xs).length→((elems++xs).getD i .any).cells.length=P.cellsOf e)∧
 (∀i j,i<(elems++xs).length→j<P.cellsOf e→ba P G (((elems++xs).getD i .any).cells.getD j .any)
  ((fun k=>if k<elems.length*P.cellsOf e then vs k else news.getD (k-elems.length*P.cellsOf e) undef) (i*P.cellsOf e+j))):=by
 constructor
 ·intro i g;by_cases h:i<elems.length
  ·rw[aO _ _ _ h];exact hl i h
  ·rw[aX _ _ _ (by omega)];exact l.el _ (by simp at g;omega)
 ·intro i j g d;by_cases h:i<elems.length
  ·rw[aO _ _ _ h];simp only;rw[if_pos (kc h d)];exact n i j h d
  ·rw[aX _ _ _ (by omega)];simp only;rw[if_neg (by have:=Ab (j:=j) (sz:=P.cellsOf e) (Nat.le_of_not_lt h);omega)];have:=l.rep (i-elems.length) j (by simp at g;omega) d;have o:i*P.cellsOf e+j-elems.length*P.cellsOf e=(i-elems.length)*P.cellsOf e+j:=by have q:elems.length*P.cellsOf e≤i*P.cellsOf e:=Nat.mul_le_mul_right _ (by omega);rw[Nat.sub_mul];omega
   rw[o];exact this
theorem ba.DJ {G:Gh}{e:TypeId}{elems:List AV}{own:cL}{b off cap n:Nat}(vs:Nat→Value) (h:elems.length=n)
 (hl:∀i,i<elems.length→(elems.getD i .any).cells.length=P.cellsOf e)
 (hm:∀k,k<n*P.cellsOf e→G.mem b (off+k)=some (vs k))
 (d:∀i j,i<elems.length→j<P.cellsOf e→ba P G ((elems.getD i .any).cells.getD j .any) (vs (i*P.cellsOf e+j)))
 (l:n≤cap) (g:xG G own e n (.slice (some ⟨b,off,none⟩) n cap)):ba P G (.an e elems own false) (.slice (some ⟨b,off,none⟩) n cap):=by
 subst h;exact .an vs hl hm d l g
structure Sp (P:Program) (i:TypeInfo) (tx:TypeId) (x:Value) (n:Nat) (news:List Value):Prop where
 kind:∃k,P.underlying tx=some (.int k)
 val:∃k,x= .int k n
 small:n≤1000000∧i.bytes≤1000
 zero:∃z,i.zero=some z∧news=(if n*i.size=0 then []else(Builtin.zeroCells z.cells n).toList)
 newsLen:news.length=n*i.size
 one:∀u∈news,u.oneCell'=true
def Ex (P:Program) (e:TypeId) (d:TypeId) (x:Value) (n:Nat) (news:List Value) (w:World):Prop:=
 Src P (P.cellsOf e) d x n news w∨ ∃i,P.info? e=some i∧Sp P i d x n news
theorem Ex.one {e d:TypeId}{x:Value}{n:Nat}{news:List Value}(h:Ex P e d x n news w):∀u∈news,u.oneCell'=true:=by
 rcases h with h|⟨_,_,h⟩
 ·exact h.one
 ·exact h.one
theorem wrap_small {n:Nat}(h:n≤1000000):IntKind.i64.wrap (n:Int)=n:=by simp[IntKind.wrap,IntKind.bits,IntKind.signed];split<;>omega
theorem CE {t u ty e:TypeId}{i:TypeInfo}(ht:P.underlying t=some (.slice e)) (l:P.info? e=some i) {x:Value}(h:Ex P e u x 0 [] w):
 (Builtin.append_ #[t,u] ty #[.slice none 0 0,x]).run P w= .ok (.slice none 0 0) w:=by
 rcases h with h|⟨v,g,h⟩
 ·have d:i.size=P.cellsOf e:=by simp[Program.cellsOf,l]
  rw[←d]at h;have o:∀w',(Builtin.lenOf x).run P w'= .ok 0 w':=h.len;have q:(Builtin.firstCells i.size 0 x).run P w= .ok #[] w:=h.cells;rcases h.kind with⟨y,j⟩|j<;>simp[Builtin.append_,run_underlying ht,run_underlying j,sizeOf,typeInfo,l,o,q]
 ·rw[l]at g;obtain rfl:=Option.some.inj g;obtain⟨k,j⟩:=h.kind;obtain⟨k',rfl⟩:=h.val;have hw:=wrap_small (n:=0) (by omega);simp only[Int.natCast_zero]at hw;simp[Builtin.append_,run_underlying ht,run_underlying j,sizeOf,typeInfo,l,asInt,asIntOf,hw]
theorem CF (w:World) (t E ty e:TypeId) (i:TypeInfo) (ht:P.underlying t=some (.slice e)) (D:P.info? e=some i) (b off d l:Nat) (x:Value) (n:Nat) (news:List Value) (o:Ex P e E x n news w)
 (h:d+n≤l) (H:∀j,j<news.length→(w.cell? ⟨b,off+d*i.size+j,none⟩).isSome=true) (hf:∀j,j<news.length→w.frozen? ⟨b,off+d*i.size+j,none⟩=false):
 (Builtin.append_ #[t,E] ty #[.slice (some ⟨b,off,none⟩) d l,x]).run P w= .ok (.slice (some ⟨b,off,none⟩) (d+n) l) (w.setCells b (off+d*i.size) news):=by
 rcases o with o|⟨J,A,o⟩
 ·have y:i.size=P.cellsOf e:=by simp[Program.cellsOf,D]
  rw[←y]at o;exact run_append_room_src w t E ty e i ht D b off d l x n news o h H hf
 ·rw[D]at A;obtain rfl:=Option.some.inj A;have v:=run_storeCells_cells (P:=P) b (off+d*i.size) news 0 w (by simpa using H) (by simpa using hf) o.one;simp only[Nat.add_zero]at v;obtain⟨k,F⟩:=o.kind;obtain⟨k',rfl⟩:=o.val;obtain⟨z,I,g⟩:=o.zero;have hw:=wrap_small o.small.1;have q:¬((n:Int)<0):=by omega
  have u:¬((281474976710656:Int)<(n:Int)*(i.bytes:Int)):=by
   have h1:n*i.bytes≤1000000*1000:=Nat.mul_le_mul o.small.1 o.small.2;have L:((n:Int)*(i.bytes:Int))=((n*i.bytes:Nat):Int):=by push_cast;rfl
   omega
  by_cases h0:n*i.size=0
  ·rw[if_pos h0]at g;subst g;simp[Builtin.append_,run_underlying ht,run_underlying F,sizeOf,typeInfo,D,asInt,asIntOf,hw,q,u,h,h0,Addr.add_lit,v]
  ·rw[if_neg h0]at g;subst g;simp[Builtin.append_,run_underlying ht,run_underlying F,sizeOf,typeInfo,zeroValue,I,D,asInt,asIntOf,hw,q,u,h,h0,Addr.add_lit,v]
theorem xA (w:World) (t I ty e:TypeId) (i:TypeInfo) (z:Value) (ht:P.underlying t=some (.slice e)) (E:P.info? e=some i) (H:i.zero=some z) (base:Option Addr) (d g:Nat) (j:List Value)
 (hold:(Builtin.firstCells i.size d (.slice base d g)).run P w.drew= .ok j.toArray w.drew) (x:Value) (n:Nat) (news:List Value) (l:Ex P e I x n news w)
 (O:g<d+n) (J:((d+n:Nat):Int)≤9223372036854775807) (F:Builtin.nextslicecap (d+n) g*i.bytes≤281474976710656):
 (Builtin.append_ #[t,I] ty #[.slice base d g,x]).run P w=
  .ok (.slice (some ⟨w.heap.size,0,none⟩) (d+n) (grownCap w (d+n) g e))
   (w.drew.alloc (.cells ((j++news).toArray++Builtin.zeroCells z.cells (grownCap w (d+n) g e-(d+n))) e)):=by
 rcases l with l|⟨S,D,l⟩
 ·have y:i.size=P.cellsOf e:=by simp[Program.cellsOf,E]
  rw[←y]at l;exact run_append_grow_src w t I ty e i z ht E H base d g j hold x n news l O J F
 ·rw[E]at D;obtain rfl:=Option.some.inj D;obtain⟨k,M⟩:=l.kind;obtain⟨k',rfl⟩:=l.val;obtain⟨Q,A,h⟩:=l.zero;rw[H]at A;obtain rfl:=Option.some.inj A;have hw:=wrap_small l.small.1;have o:¬((n:Int)<0):=by omega
  have q:¬((281474976710656:Int)<(n:Int)*(i.bytes:Int)):=by
   have h1:n*i.bytes≤1000000*1000:=Nat.mul_le_mul l.small.1 l.small.2;have T:((n:Int)*(i.bytes:Int))=((n*i.bytes:Nat):Int):=by push_cast;rfl
   omega
  have L:¬(d+n≤g):=by omega
  have u:¬(9223372036854775807<((d:Int)+(n:Int))):=by omega
  have v:¬(281474976710656<Builtin.nextslicecap (d+n) g*i.bytes):=by omega
  by_cases h0:n*i.size=0
  ·rw[if_pos h0]at h;subst h;simp[Builtin.append_,run_underlying ht,run_underlying M,sizeOf,typeInfo,zeroValue,E,H,asInt,asIntOf,hw,o,q,L,u,v,h0,Question.forced,hold,newRow,grownCap]
  ·rw[if_neg h0]at h;subst h;simp[Builtin.append_,run_underlying ht,run_underlying M,sizeOf,typeInfo,zeroValue,E,H,asInt,asIntOf,hw,o,q,L,u,v,h0,Question.forced,hold,newRow,grownCap];congr 2;apply Array.ext';simp[List.append_assoc]
theorem Inv.append (h:Inv P G σ w) {t tx ty e:TypeId}{i:TypeInfo}{z:Value}(ht:P.underlying t=some (.slice e)) (hi:P.info? e=some i) (hz:i.zero=some z) (e0:z.cells.size=P.cellsOf e) (e4:0<P.cellsOf e)
 {F:Nat} {elems:List AV} {nil:Bool} {v x:Value} (hv:ba P G (.an e elems (.tok F) nil) v) (ch:σ F=some (.tok elems.length))
 {xs:List AV} {news:List Value} (S:Ex P e tx x xs.length news w) (hn:CS P G e xs news)
 (cj:(elems.length+xs.length)*P.bytesOf e≤kH (P.bytesOf e)) (fw:elems.length+xs.length≤140737488355328):
 ∃v' w' G',(Builtin.append_ #[t,tx] ty #[v,x]).run P w= .ok v' w'∧G.Le G'∧Inv P G' (σ.set F (.tok (elems.length+xs.length))) w'∧
  ba P G' (.an e (elems++xs) (.tok F) (nil&&xs.isEmpty)) v':=by
 have J:i.size=P.cellsOf e:=by simp[Program.cellsOf,hi]
 have b5:i.bytes=P.bytesOf e:=by simp[Program.bytesOf,hi]
 have ft:((elems.length+xs.length:Nat):Int)≤9223372036854775807:=by omega
 have b0:∀cd,cd<elems.length+xs.length→Builtin.nextslicecap (elems.length+xs.length) cd*i.bytes≤281474976710656:=by intro cd ho;rw[b5];exact wh ho cj
 have d4:∃(a:Option (Nat×Nat)) (cap:Nat) (vs:Nat→Value),v= .slice (a.map fun p=>⟨p.1,p.2,none⟩) elems.length cap∧(a=none→elems= []∧cap=0)∧(nil=true↔a=none)∧
  (∀i,i<elems.length→(elems.getD i .any).cells.length=P.cellsOf e)∧
  (∀b off,a=some (b,off)→ ∀k,k<elems.length*P.cellsOf e→G.mem b (off+k)=some (vs k))∧
  (∀i j,i<elems.length→j<P.cellsOf e→ba P G ((elems.getD i .any).cells.getD j .any) (vs (i*P.cellsOf e+j)))∧
  elems.length≤cap∧xG G (.tok F) e elems.length v:=by
  cases hv with
  |jd ho=>exact⟨none,0,fun _ =>undef,rfl,fun _ =>⟨rfl,rfl⟩,(by simp),(fun i hi=>(by simp at hi)),(fun _ _ hh=>(by cases hh)),(fun i j hi=>(by simp at hi)),Nat.le_refl _,ho⟩
  |an vs hl hm hr hc ho=>exact⟨some (_,_),_,vs,rfl,(fun hh=>(by cases hh)),(by simp),hl,(fun b off hh k hk=>(by cases hh;exact hm k hk)),hr,hc,ho⟩
 obtain⟨a,cap,vs,rfl,Y,ca,hl,hm,hr,hc,r,T,a1,f9,e5⟩:=d4;obtain⟨r',d6,ck⟩:=h.tok F _ ch;rw[T]at d6;obtain rfl:=Option.some.inj d6;have bb:=e5 ck.symm;have al:r.a=a∧r.cap=cap:=by
  simp only[OR.val,Value.slice.injEq]at bb;refine⟨?_,bb.2.2⟩;have:=bb.1;cases ha:r.a<;>cases hb:a<;>simp[ha,hb]at this
  ·rfl
  ·rename_i p q;obtain⟨e1,e2⟩:=this;congr 1;exact Prod.ext e1 e2
 obtain⟨e7,e6,g⟩:=h.own F r T;rw[al.1,al.2,ck,a1]at g;by_cases ap:elems.length+xs.length≤cap
 ·cases ha:a with
  |none=>
   obtain⟨h1,h2⟩:=Y ha;have a9:xs= []:=by(have:xs.length=0:=by omega);exact List.length_eq_zero_iff.1 this
   subst h1 h2 a9;have c3:news= []:=by have:=hn.len;simp at this;exact this
   subst c3;have A:(Builtin.append_ #[t,tx] ty #[.slice none 0 0,x]).run P w= .ok (.slice none 0 0) w:=CE ht hi S;refine⟨_,_,G,A,.refl G,?_,?_⟩
   ·have:σ.set F (.tok 0)=σ:=AS.Dm _ _ _ (by simpa using ch);simpa[this]using h
   ·have:nil=true:=ca.2 ha;subst this;exact .jd ⟨r,T,a1,by omega,fun _ =>by rw[bb];simp[ha]⟩
  |some p=>
   obtain⟨b,off⟩:=p;subst ha;have Z:news.length=xs.length*P.cellsOf e:=hn.len;have D:∀j,j<news.length→elems.length*P.cellsOf e+j<cap*P.cellsOf e:=by intro j I;have:(elems.length+xs.length)*P.cellsOf e≤cap*P.cellsOf e:=Nat.mul_le_mul_right _ ap;rw[Nat.add_mul]at this;omega
   have A:=CF (P:=P) w t tx ty e i ht hi b off elems.length cap x xs.length news S ap
    (fun j I=>by have:=(g b off rfl (elems.length*P.cellsOf e+j) (by omega) (D j I)).1;rw[J,Nat.add_assoc];exact this)
    (fun j I=>by have:=(g b off rfl (elems.length*P.cellsOf e+j) (by omega) (D j I)).2.1;rw[J,Nat.add_assoc];exact this)
   rw[J]at A;have c1:nil=false:=by
    cases nil with
    |false=>rfl
    |true=>have:=ca.1 rfl;cases this
   subst c1;by_cases a9:xs= []
   ·subst a9;have c3:news= []:=by have:=hn.len;simp at this;exact this
    subst c3;refine⟨_,_,G,A,.refl G,?_,?_⟩
    ·have:σ.set F (.tok (elems.length+0))=σ:=AS.Dm _ _ _ (by simpa using ch);show Inv P G (σ.set F (.tok (elems.length+0))) w;rw[this];exact h
    ·simp only[List.append_nil,List.length_nil,Nat.add_zero,Bool.false_and];exact .an vs hl (hm b off rfl) hr hc ⟨r,T,a1,by omega,fun _ =>bb⟩
   ·have a8:0<xs.length:=List.length_pos_iff.2 a9;have X:0<news.length:=by rw[Z];exact Nat.mul_pos a8 e4
    obtain⟨_,_,_,O,fk,gc,e3⟩:=g b off rfl (elems.length*P.cellsOf e) (Nat.le_refl _) (by have:=D 0 X;omega)
    let G':=G.grow F ⟨some (b,off),elems.length+xs.length,cap,e⟩ b (off+elems.length*P.cellsOf e) news.length (fun k=>news.getD k undef)
    have a2:∀k,elems.length*P.cellsOf e≤k→k<cap*P.cellsOf e→G.mem b (off+k)=none:=fun k h1 h2=>(g b off rfl k h1 h2).2.2.1;have hle:G.Le G':=by
     refine⟨rfl,rfl,fun b' o v em=> ?_,fun _ _ hh=>hh,fun t' r' et=> ?_⟩
     ·show(if b'=b∧off+elems.length*P.cellsOf e≤o∧o<off+elems.length*P.cellsOf e+news.length then _ else G.mem b' o)=some v;rw[if_neg]
      ·exact em
      ·rintro⟨rfl,h1,h2⟩;have:=a2 (o-off) (by omega) (by have:=D (o-off-elems.length*P.cellsOf e) (by omega);omega);rw[show off+(o-off)=o by omega,em]at this;cases this
     ·by_cases a0:t'=F
      ·subst a0;rw[T]at et;obtain rfl:=Option.some.inj et;exact⟨⟨some (b,off),elems.length+xs.length,cap,e⟩,by simp[G',Gh.grow],a1.symm,.inr (by simp;omega)⟩
      ·exact⟨r',by simp[G',Gh.grow,a0,et],rfl,.inl rfl⟩
    have y:=lh b news w (off+elems.length*P.cellsOf e);have n:∀c o,(c=b→o<off+elems.length*P.cellsOf e∨off+elems.length*P.cellsOf e+news.length≤o)→(w.setCells b (off+elems.length*P.cellsOf e) news).cell? ⟨c,o,none⟩=w.cell? ⟨c,o,none⟩:=
     fun c o fe=>World.cell?_setCells_out b news _ w ⟨c,o,none⟩ (fun hb _ =>fe hb)
    refine⟨_,_,G',A,hle,?_,?_⟩
    ·refine⟨qi b news w _ h.below fk,h.base,?_,?_,?_,h.fN,?_,?_,?_,?_,?_⟩
     ·intro b' o v em;by_cases c6:b'=b∧off+elems.length*P.cellsOf e≤o∧o<off+elems.length*P.cellsOf e+news.length
      ·have b6:some (news.getD (o-(off+elems.length*P.cellsOf e)) undef)=some v:=by have:G'.mem b' o=some (news.getD (o-(off+elems.length*P.cellsOf e)) undef):=if_pos c6;rw[←this];exact em
       obtain rfl:=Option.some.inj b6;obtain⟨rfl,h1,h2⟩:=c6;have d9:=World.cell?_setCells_in b' news (off+elems.length*P.cellsOf e) w (fun j I=>by have:=(g b' off rfl (elems.length*P.cellsOf e+j) (by omega) (D j I)).1;rw[Nat.add_assoc];exact this) (o-(off+elems.length*P.cellsOf e)) (by omega);rw[show off+elems.length*P.cellsOf e+(o-(off+elems.length*P.cellsOf e))=o by omega]at d9;have eg:news.getD (o-(off+elems.length*P.cellsOf e)) undef=news[o-(off+elems.length*P.cellsOf e)]'(by omega):=by simp[List.getD_eq_getElem?_getD,List.getElem?_eq_getElem (show o-(off+elems.length*P.cellsOf e)<news.length by omega)]
       rw[eg];exact⟨d9,S.one _ (List.getElem_mem _)⟩
      ·have b6:G.mem b' o=some v:=by have:G'.mem b' o=G.mem b' o:=if_neg c6;rw[←this];exact em
       refine⟨?_,(h.mem b' o v b6).2⟩;rw[n b' o (fun hb=>by subst hb;omega)];exact(h.mem b' o v b6).1
     ·intro j I;have:=h.top j I;have c2:j≠F:=by intro V;subst V;rw[T]at this;cases this.2
      exact⟨this.1,by simp[G',Gh.grow,c2,this.2]⟩
     ·intro j c H;have:=h.dA j c H;refine⟨this.1,by rw[iq];exact this.2.1,fun cc cs' hn o=> ?_⟩;have E:c≠b:=fun V=>O j (V ▸ H);show(if c=b∧ _ then _ else G.mem c o)=none;rw[if_neg (fun hh=>E hh.1)];exact this.2.2 cc cs' (by
       by_cases I:j=F
       ·subst I;simp[AS.set]at hn
       ·simpa[AS.set,I]using hn) o
     ·intro j cc cs H;have M:j≠F:=by intro V;subst V;simp[AS.set]at H
      simp[AS.set,M]at H;obtain⟨c,ek,k1,k2,k3,k4⟩:=h.cells j cc cs H;have E:c≠b:=fun V=>O j (V ▸ k1);exact⟨c,ek,k1,by rw[y c E];exact k2,k3,fun k hk=>⟨(k4 k hk).1.mono hle,(k4 k hk).2⟩⟩
     ·intro j es H;have M:j≠F:=by intro V;subst V;simp[AS.set]at H
      simp[AS.set,M]at H;obtain⟨c,ms,cl,k1,k2,k3,k4⟩:=h.maps j es H;have E:c≠b:=fun V=>O j (V ▸ k1);refine⟨c,ms,cl,k1,by rw[y c E];exact k2,k3,fun k hk=> ?_⟩;obtain⟨m,m1,m2,m3⟩:=k4 k hk;exact⟨m,m1,m2.mono hle,m3.mono hle⟩
     ·intro j s p H;have M:j≠F:=by intro V;subst V;simp[AS.set]at H;subst H;cases p
      simp[AS.set,M]at H;obtain⟨c,k1,k2⟩:=h.dY j s p H;have E:c≠b:=fun V=>O j (V ▸ k1);exact⟨c,k1,k2.ka (fun _ _ h=>h) (fun o ho=>by rw[y c E];exact ho) (fun m ms cl d8=>by rw[y m (fun e=>by subst e;have q:=(g _ off rfl (elems.length*P.cellsOf _ +0) (by omega) (D 0 X)).1;simp[World.cell?,d8]at q)];exact d8)⟩
     ·intro j m H;by_cases M:j=F
      ·subst M;simp[AS.set]at H;exact⟨⟨some (b,off),elems.length+xs.length,cap,e⟩,by simp[G',Gh.grow],H⟩
      ·simp[AS.set,M]at H;obtain⟨r',k1,k2⟩:=h.tok j m H;exact⟨r',by simp[G',Gh.grow,M,k1],k2⟩
     ·intro t' r' et;by_cases a0:t'=F
      ·subst a0;have:r'=⟨some (b,off),elems.length+xs.length,cap,e⟩:=by simp[G',Gh.grow]at et;exact et.symm
       subst this;refine⟨ap,fun hh=>(by cases hh),fun c o ea k U l=> ?_⟩;cases ea;simp only at U l;have fz:elems.length*P.cellsOf e+news.length≤k:=by rw[Z,←Nat.add_mul];exact U
       obtain⟨q1,q2,q3,q4,q5,q6,q7⟩:=g b off rfl k (by omega) l;refine⟨?_,?_,?_,q4,q5,by rw[iq];exact q6,fun t2 r2 o2 am af Q=> ?_⟩
       ·rw[n b _ (fun _ =>by omega)];exact q1
       ·rw[World.frozen?_setCells];exact q2
       ·show(if b=b∧ _ then _ else G.mem b (off+k))=none;rw[if_neg (by omega)];exact q3
       ·simp[G',Gh.grow,am]at af;exact q7 t2 r2 o2 am af Q
      ·simp[G',Gh.grow,a0]at et;obtain⟨k1,k2,k3⟩:=h.own t' r' et;refine⟨k1,k2,fun c o ea k U l=> ?_⟩;obtain⟨q1,q2,q3,q4,q5,q6,q7⟩:=k3 c o ea k U l;have E:c≠b:=by intro V;subst V;have:=q7 F r off (fun h=>a0 h.symm) T (by rw[al.1]);rw[al.2,ck,a1]at this;have:=D 0 X;omega
       refine⟨?_,?_,?_,q4,q5,by rw[iq];exact q6,fun t2 r2 o2 am af Q=> ?_⟩
       ·rw[n c _ (fun hb=>absurd hb E)];exact q1
       ·rw[World.frozen?_setCells];exact q2
       ·show(if c=b∧ _ then _ else G.mem c (o+k))=none;rw[if_neg (fun hh=>E hh.1)];exact q3
       ·by_cases d5:t2=F
        ·subst d5;simp[G',Gh.grow]at af;subst af;simp only[Option.some.injEq,Prod.mk.injEq]at Q;exact absurd Q.1.symm E
        ·simp[G',Gh.grow,d5]at af;exact q7 t2 r2 o2 am af Q
    ·have I:=Bt (P:=P) (G:=G') (e:=e) vs hl (fun i j h1 h2=>(hr i j h1 h2).mono hle) (hn.mono hle);have ce:xs.isEmpty=false:=by simp[a9]
     rw[Bool.false_and];have L:(elems++xs).length=elems.length+xs.length:=List.length_append;rw[←L];refine .an (fun k=>if k<elems.length*P.cellsOf e then vs k else news.getD (k-elems.length*P.cellsOf e) undef) I.1 (fun k hk=> ?_) I.2 (by omega) ⟨⟨some (b,off),elems.length+xs.length,cap,e⟩,by simp[G',Gh.grow],rfl,by simp,fun _ =>by simp[OR.val]⟩;rw[L,Nat.add_mul,←Z]at hk;show(if b=b∧ _ then _ else G.mem b (off+k))= _;by_cases l:k<elems.length*P.cellsOf e
     ·rw[if_neg (by omega),if_pos l];exact hm b off rfl k l
     ·rw[if_pos (by omega),if_neg l];congr 2;omega
 ·have ce:xs.isEmpty=false:=by
   cases xs with
   |nil=>simp at ap;omega
   |cons _ _ =>rfl
  let d:=(List.range (elems.length*P.cellsOf e)).map vs
  have a3:d.length=elems.length*P.cellsOf e:=by simp[d]
  have hold:(Builtin.firstCells i.size elems.length (.slice (a.map fun p=>⟨p.1,p.2,none⟩) elems.length cap)).run P w.drew= .ok d.toArray w.drew:=by
   cases ha:a with
   |none=>obtain⟨h1,h2⟩:=Y ha;subst h1 h2;simp[d,Builtin.firstCells]
   |some p=>
    obtain⟨b,off⟩:=p;subst ha;refine run_firstCells_some (P:=P) w.drew i.size elems.length ⟨b,off,none⟩ elems.length cap d (by rw[J];exact a3) (fun j u hu=> ?_);have I:j<elems.length*P.cellsOf e:=by
     rcases Nat.lt_or_ge j (elems.length*P.cellsOf e)with h1|h1
     ·exact h1
     ·rw[List.getElem?_eq_none (by rw[a3];exact h1)]at hu;cases hu
    have:u=vs j:=by
     have:d[j]? =some (vs j):=by simp[d,I]
     rw[this]at hu;exact(Option.some.inj hu).symm
    subst this;rw[Addr.add_lit];exact(h.mem b (off+j) (vs j) (hm b off rfl j I)).1
  have A:=xA (P:=P) w t tx ty e i z ht hi hz (a.map fun p=>⟨p.1,p.2,none⟩) elems.length cap d hold x xs.length news S (by omega) ft (b0 cap (by omega));have ar:=grownCap_ge w (elems.length+xs.length) cap e
  let nv:Nat→Value:=fun k=>if k<elems.length*P.cellsOf e then vs k else news.getD (k-elems.length*P.cellsOf e) undef
  let nc:=grownCap w (elems.length+xs.length) cap e
  let row:Array Value:=(d++news).toArray++Builtin.zeroCells z.cells (nc-(elems.length+xs.length))
  have bs:(d++news).length=(elems.length+xs.length)*P.cellsOf e:=by rw[List.length_append,a3,hn.len,Nat.add_mul]
  have e8:∀k,k<(elems.length+xs.length)*P.cellsOf e→(d++news)[k]? =some (nv k):=by
   intro k hk;by_cases h1:k<elems.length*P.cellsOf e
   ·rw[List.getElem?_append_left (by rw[a3];exact h1)];simp[d,nv,h1]
   ·rw[List.getElem?_append_right (by rw[a3];omega),a3];have:k-elems.length*P.cellsOf e<news.length:=by rw[hn.len];rw[Nat.add_mul]at hk;omega
    simp[nv,h1,List.getD_eq_getElem?_getD,List.getElem?_eq_getElem this]
  have bc:∀k,k<(elems.length+xs.length)*P.cellsOf e→row[k]? =some (nv k)∧(nv k).oneCell'=true:=by
   intro k hk;constructor
   ·show((d++news).toArray++ _)[k]? = _;rw[Array.getElem?_append_left (by rw[List.size_toArray,bs];exact hk),List.getElem?_toArray];exact e8 k hk
   ·by_cases h1:k<elems.length*P.cellsOf e
    ·simp only[nv,if_pos h1];cases ha:a with
     |none=>obtain⟨h2,_⟩:=Y ha;subst h2;simp at h1
     |some p=>obtain⟨b,off⟩:=p;exact(h.mem b (off+k) (vs k) (hm b off ha k h1)).2
    ·simp only[nv,if_neg h1];have:k-elems.length*P.cellsOf e<news.length:=by rw[hn.len];rw[Nat.add_mul]at hk;omega
     rw[List.getD_eq_getElem?_getD,List.getElem?_eq_getElem this];exact S.one _ (List.getElem_mem _)
  have ci:(elems.length+xs.length)*P.cellsOf e≤row.size:=by show _ ≤(((d++news).toArray++ _ :Array Value)).size;rw[Array.size_append,List.size_toArray,bs];omega
  have b3:row.size=nc*P.cellsOf e:=by show(((d++news).toArray++ _ :Array Value)).size= _;rw[Array.size_append,List.size_toArray,bs,size_zeroCells,e0,←Nat.add_mul];congr 1;show _ +(grownCap w (elems.length+xs.length) cap e- _)=grownCap w (elems.length+xs.length) cap e;omega
  obtain⟨cb,c5⟩:G.Le (G.ka w.heap.size 0 ((elems.length+xs.length)*P.cellsOf e) nv)∧Inv P (G.ka w.heap.size 0 ((elems.length+xs.length)*P.cellsOf e) nv) σ (w.drew.alloc (.cells row e)):=
   h.drew.Fv e row ((elems.length+xs.length)*P.cellsOf e) nv ci bc
  have a8:0<xs.length:=by
   cases xs with
   |nil=>simp at ce
   |cons _ _ =>simp
  obtain⟨bv,c4⟩:=c5.g9 F ⟨some (w.heap.size,0),elems.length+xs.length,nc,e⟩ r T a1.symm (.inr (by simp;omega)) ar (fun hh=>by cases hh)
   (fun b o ea k U l=>by
    cases ea;simp only[Nat.zero_add]at U l⊢;have fb:k<row.size:=by rw[b3];exact l
    refine⟨?_,?_,?_,?_,h.KP,by simp,?_⟩
    ·simp only[World.cell?,show w.heap.size=w.drew.heap.size from rfl,heap_alloc_new];simp[fb]
    ·simp only[World.frozen?,show w.heap.size=w.drew.heap.size from rfl,heap_alloc_new];simp
    ·rw[Gh.fp (by omega)];cases e9:G.mem w.heap.size k with
     |none=>rfl
     |some v=>have:=h.BP e9;omega
    ·intro j H;have:=(h.dA j _ H).2.1;omega
    ·intro t' r' o' c2 et Q;obtain⟨q1,q2,q3⟩:=h.own t' r' et;rcases Nat.lt_or_ge (r'.len*P.cellsOf r'.xN) (r'.cap*P.cellsOf r'.xN)with fa|fd
     ·have:=(q3 _ _ Q _ (Nat.le_refl _) fa).2.2.2.2.2.1;omega
     ·exact fd)
   (fun t2 r2 b2 o2 c2 et ea k U l o' Q=>by cases Q;have:=((h.own t2 r2 et).2.2 _ _ ea k U l).2.2.2.2.2.1;omega)
  refine⟨_,_,_,A,cb.trans bv,c4,?_⟩;have hle:=cb.trans bv;have I:=Bt (P:=P) (G:= _) (e:=e) vs hl (fun i j h1 h2=>(hr i j h1 h2).mono hle) (hn.mono hle);rw[ce,Bool.and_false];have L:(elems++xs).length=elems.length+xs.length:=List.length_append;refine ba.DJ nv L I.1 (fun k hk=> ?_) I.2 ar
   ⟨⟨some (w.heap.size,0),elems.length+xs.length,nc,e⟩,by simp[Gh.g9],rfl,by simp,fun _ =>by simp[OR.val,nc]⟩
  refine bv.mem _ _ _ ?_;rw[Gh.lx (by omega) (by omega)];simp
end Go.AW
namespace Go.AW
open Go Go.RowKit
variable {P:Program} {G:Gh} {σ:AS} {w:World}
abbrev Fr:=Nat→AV
def Fr.put (s:Fr) (d:Option Nat) (v:AV):Fr:=match d with|none=>s|some d=>fun i=>if i=d then v else s i
def L3:Value→AV
 |.slice none 0 0=> .ai
 |v=> .sc v
def Fj:Value→AV
 |.slice none 0 0=> .ai
 |.agg cs=> .agg (cs.toList.map L3)
 |v=> .sc v
theorem IG (v:Value):ba P G (L3 v) v:=by
 unfold L3;split
 ·exact .ai
 ·exact .sc _
theorem gD (v:Value):ba P G (Fj v) v:=by
 unfold Fj;split
 ·exact .ai
 ·rename_i cs;have:=ba.agg (P:=P) (G:=G) (cells:=cs.toList.map L3) cs.toList (by simp) (fun i d=>by simp at d;simp[d];exact IG _);simpa using this
 ·exact .sc _
def ev (s:Fr):Operand→AV
 |.tmp t=>s t
 |.const v=>Fj v
 |.global _ => .any
 |.func f=> .sc (.func (.func f) #[] #[])
structure oW (P:Program) (G:Gh) (n:Nat) (ds:List Deferred) (s:Fr) (σ:AS) (a:Act) (w:World):Prop where
 inv:Inv P G σ w
 size:a.tmps.size=n
 ds:a.defers=ds
 rep:∀i,ba P G (s i) (a.tmps.getD i undef)
theorem oW.ev {n:Nat}{ds:List Deferred}{s:Fr}{a:Act}(h:oW P G n ds s σ a w) (x:Operand):ba P G (ev s x) (a.eval x):=by
 cases x with
 |tmp t=>exact h.rep t
 |const v=>exact gD v
 |global g=>exact .any _
 |func f=>exact .sc _
theorem oW.put {n:Nat}{ds:List Deferred}{s:Fr}{a:Act}{G':Gh}{σ':AS}{w':World}(h:oW P G n ds s σ a w) (hle:G.Le G') (j:Inv P G' σ' w') (d:Option Nat) (hd:∀t,d=some t→t<n)
 {v:AV} {x:Value} (l:ba P G' v x):oW P G' n ds (s.put d v) σ' (a.put d x) w':=by
 cases d with
 |none=>exact⟨j,h.size,h.ds,fun i=>(h.rep i).mono hle⟩
 |some t=>
  have ht:=hd t rfl;refine⟨j,by simp[Act.put,h.size],h.ds,fun i=> ?_⟩;by_cases g:i=t
  ·subst g;have:i<a.tmps.size:=by rw[h.size];exact ht
   simp[Fr.put,Act.put,this];exact l
  ·simp only[Fr.put,Act.put,g,if_false];have:(a.tmps.setIfInBounds t x).getD i undef=a.tmps.getD i undef:=by simp[Array.getElem?_setIfInBounds_ne (fun e=>g e.symm)]
   rw[this];exact(h.rep i).mono hle
def Out (P:Program) (G:Gh) (K Pn:AV→AS→Prop):Result Next→Prop
 |.ok (.value v) w'=> ∃G' σ' d,G.Le G'∧Inv P G' σ' w'∧ba P G' d v∧K d σ'
 |.ok .skip w'=> ∃G' σ' d,G.Le G'∧Inv P G' σ' w'∧ba P G' d undef∧K d σ'
 |.halt (.panic v) w'=> ∃G' σ' d,G.Le G'∧Inv P G' σ' w'∧ba P G' d v∧Pn d σ'
 | _ =>False
theorem QQ {s:Sem Value}{v:Value}{w':World}(h:s.run P w= .ok v w'):((do pure (Next.value (←s))):Sem Next).run P w= .ok (.value v) w':=by simp[h]
theorem QR {s:Sem Unit}{w':World}(h:s.run P w= .ok () w'):((do s;pure Next.skip):Sem Next).run P w= .ok .skip w':=by simp[h]
variable {K Pn:AV→AS→Prop}
theorem Out.value {s:Sem Value}{v:Value}{w':World}{G':Gh}{σ':AS}{d:AV}(h:s.run P w= .ok v w') (hle:G.Le G') (j:Inv P G' σ' w') (g:ba P G' d v) (i:K d σ'):
 Out P G K Pn (((do pure (Next.value (←s))):Sem Next).run P w):=by
 rw[QQ h];exact⟨G',σ',d,hle,j,g,i⟩
theorem Out.unit {s:Sem Unit}{w':World}{G':Gh}{σ':AS}{d:AV}(h:s.run P w= .ok () w') (hle:G.Le G') (j:Inv P G' σ' w') (g:ba P G' d undef) (i:K d σ'):
 Out P G K Pn (((do s;pure Next.skip):Sem Next).run P w):=by
 rw[QR h];exact⟨G',σ',d,hle,j,g,i⟩
theorem Out.pure {s:Sem Value}{v:Value}{d:AV}(j:Inv P G σ w) (h:s.run P w= .ok v w) (g:ba P G d v) (i:K d σ):
 Out P G K Pn (((do pure (Next.value (←s))):Sem Next).run P w):=Out.value h (.refl G) j g i
inductive LK where
 |agg (n:Nat)|one|bad
def gi (P:Program) (t:TypeId):LK:=
 match P.underlying t with
 |some (.struct _)|some (.array _ _)=> .agg (P.cellsOf t)
 |some _ =>if P.cellsOf t=1 then .one else .bad
 |none=> .bad
theorem bR {t:TypeId}(h:P.cellsOf t≠0):∃i,P.info? t=some i∧i.size=P.cellsOf t∧i.bytes=P.bytesOf t:=by
 cases d:P.info? t with
 |none=>simp[Program.cellsOf,d]at h
 |some i=>exact⟨i,rfl,by simp[Program.cellsOf,d],by simp[Program.bytesOf,d]⟩
theorem vC {t:TypeId}(h:gi P t= .one):(isAgg t).run P w= .ok false w∧P.cellsOf t=1:=by
 unfold gi at h;split at h
 ·cases h
 ·cases h
 ·rename_i d i ha hu;have h1:P.cellsOf t=1:=by
   by_cases g:P.cellsOf t=1
   ·exact g
   ·rw[if_neg g]at h;cases h
  refine⟨?_,h1⟩;simp only[isAgg,Sem.run_bind,run_underlying hu,Result.andThen];cases d<;>first|rfl|(exfalso;simp at i ha;done)|skip
 ·cases h
theorem vD {t:TypeId}{n:Nat}(h:gi P t= .agg n):(isAgg t).run P w= .ok true w∧P.cellsOf t=n:=by
 unfold gi at h;split at h
 ·rename_i hu;cases h;exact⟨by simp[isAgg,Sem.run_bind,run_underlying hu,Result.andThen],rfl⟩
 ·rename_i hu;cases h;exact⟨by simp[isAgg,Sem.run_bind,run_underlying hu,Result.andThen],rfl⟩
 ·split at h<;>cases h
 ·cases h
def Reads (w:World) (b off:Nat) (vs:Nat→Value) (n:Nat):Prop:= ∀k,k<n→w.cell? ⟨b,off+k,none⟩=some (vs k)
theorem ph {t:TypeId}(h:gi P t= .one) {b off:Nat}{vs:Nat→Value}(d:Reads w b off vs 1):(loadVar t ⟨b,off,none⟩).run P w= .ok (vs 0) w:=by have:=d 0 (by omega);simp only[Nat.add_zero]at this;simp[loadVar,Sem.run_bind,(vC (w:=w) h).1,load,Sem.run,this]
theorem pj {t:TypeId}{n:Nat}(h:gi P t= .agg n) {b off:Nat}{vs:Nat→Value}(A:n≠0) (q:Reads w b off vs n):
 (loadVar t ⟨b,off,none⟩).run P w= .ok (.agg ((List.range n).map vs).toArray) w:=by
 obtain⟨h1,y⟩:=vD (w:=w) h;obtain⟨i,u,g,_⟩:=bR (P:=P) (t:=t) (by omega);have o:=run_loadCells_list (P:=P) w ⟨b,off,none⟩ ((List.range n).map vs) (fun j v d=>by
  have l:j<n:=by
   rcases Nat.lt_or_ge j n with h|h
   ·exact h
   ·rw[List.getElem?_eq_none (by simpa using h)]at d;cases d
  rw[Addr.add_lit,q j l];simpa[l]using d)
 simp only[List.length_map,List.length_range]at o;simp[loadVar,Sem.run_bind,h1,sizeOf,run_typeInfo w u,g,y,o]
def fx (P:Program) (σ:AS) (t:TypeId) (x:AV) (K:AV→Prop):Prop:=
 match x,gi P t with
 |.ptr id off,.one=>match σ id with|some (.cells _ cs)=>off<cs.length∧K (cs.getD off .any)| _ =>False
 |.ptr id off,.agg n=>match σ id with|some (.cells _ cs)=>n≠0∧off+n≤cs.length∧K (.agg ((cs.drop off).take n))| _ =>False
 |.iC cells,.one=>0<cells.length∧K (cells.getD 0 .any)
 |.iC cells,.agg n=>n≠0∧n≤cells.length∧K (.agg (cells.take n))
 | _,_ =>False
theorem jy {b off:Nat}{vs:Array Value}{ty:TypeId}{g:Nat×Nat}(h:w.heap[b]? =some (.cells vs ty g)) (d:off<vs.size):w.cell? ⟨b,off,none⟩=some (vs.getD off undef):=by simp[World.cell?,h,d]
theorem zg {K:AV→Prop}(l:Inv P G σ w) {t:TypeId}{x:AV}{v:Value}(j:ba P G x v) (h:fx P σ t x K):
 ∃a y E,v= .pointer (some a)∧(loadVar t a).run P w= .ok y w∧ba P G E y∧K E:=by
 unfold fx at h;split at h
 ·rename_i id off hl;split at h
  ·rename_i ty cs q;cases j with
   |ptr D=>obtain⟨H,vs,k1,o,F,k4⟩:=l.cells _ _ _ q;rw[D]at k1;obtain rfl:=Option.some.inj k1;exact⟨_,vs.getD off undef,_,rfl,ph (vs:=fun k=>vs.getD (off+k) undef) hl (fun k A=>jy o (by omega)),(k4 off h.1).1,h.2⟩
  ·exact h.elim
 ·rename_i id off n hl;split at h
  ·rename_i ty cs q;cases j with
   |ptr D=>
    obtain⟨H,vs,k1,o,F,k4⟩:=l.cells _ _ _ q;rw[D]at k1;obtain rfl:=Option.some.inj k1;refine⟨_,.agg ((List.range n).map fun k=>vs.getD (off+k) undef).toArray,_,rfl,pj (vs:=fun k=>vs.getD (off+k) undef) hl h.1 (fun k A=>jy o (by omega)),.agg _ ?_ ?_,h.2.2⟩
    ·simp;omega
    ·intro i g;have d:i<n:=by simp at g;omega
     have:=(k4 (off+i) (by omega)).1;simp only[List.getD_eq_getElem?_getD]at this⊢;rw[List.getElem?_take_of_lt d,List.getElem?_drop];simpa[d]using this
  ·exact h.elim
 ·rename_i cells hl;cases j with
  |iC vs hm u=>exact⟨_,vs 0,_,rfl,ph hl (fun k A=>(l.mem _ _ _ (hm k (by omega))).1),u 0 h.1,h.2⟩
 ·rename_i cells n hl;cases j with
  |iC vs hm u=>
   refine⟨_,.agg ((List.range n).map vs).toArray,_,rfl,pj hl h.1 (fun k A=>(l.mem _ _ _ (hm k (by omega))).1),.agg _ ?_ ?_,h.2.2⟩
   ·simp;omega
   ·intro i g;have d:i<n:=by simp at g;omega
    have:=u i (by omega);simp only[List.getD_eq_getElem?_getD]at this⊢;rw[List.getElem?_take_of_lt d];simpa[d]using this
 ·exact h.elim
theorem HF (d:Inv P G σ w) {t:TypeId}{x:AV}{v:Value}(g:ba P G x v) (h:fx P σ t x fun v=>K v σ):
 Out P G K Pn (((do pure (Next.value (←Instr.loadAt t v))):Sem Next).run P w):=by
 obtain⟨a,y,l,rfl,h1,j,i⟩:=zg d g h;refine Out.pure d (v:=y) ?_ j i;simpa only[Instr.loadAt,Instr.sureAddr,Sem.run_bind,Sem.run_pure,Result.andThen]using h1
def ux (P:Program) (σ:AS) (t:TypeId) (x v:AV) (K:AS→Prop):Prop:=
 match x with
 |.ptr id off=>match σ id with
  |some (.cells ty cs)=>v.HN=true∧v.cells.all AV.one=true∧v.cells.length=P.cellsOf t∧P.cellsOf t≠0∧off+v.cells.length≤cs.length∧
   K (σ.set id (.cells ty (cs.take off++v.cells++cs.drop (off+v.cells.length))))
  | _ =>False
 | _ =>False
theorem El (F:Inv P G σ w) {t:TypeId}{x v:AV}{y g:Value}(L:ba P G x y) (M:ba P G v g) (h:ux P σ t x v fun σ'=>K .any σ'):
 Out P G K Pn (((do Instr.storeAt t y g;pure Next.skip):Sem Next).run P w):=by
 unfold ux at h;split at h
 ·rename_i id off;split at h
  ·rename_i ty cs D;obtain⟨h1,T,S,Q,X,O⟩:=h;cases L with
   |ptr H=>
    rename_i b;obtain⟨Y,cur,k1,A,V,k4⟩:=F.cells _ _ _ D;rw[H]at k1;obtain rfl:=Option.some.inj k1;obtain⟨J,I⟩:=M.cells h1;obtain⟨i,o,q,_⟩:=bR (P:=P) (t:=t) Q;have l:∀k,k<v.cells.length→(g.cells.getD k undef).oneCell'=true:=fun k d=>by refine(I k d).one ?_;have:=List.all_eq_true.1 T (v.cells.getD k .any) (by rw[List.getD_eq_getElem?_getD,List.getElem?_eq_getElem d];exact List.getElem_mem _);exact this
    have n:=run_storeCells_cells (P:=P) b off g.cells.toList 0 w
     (fun j E=>by rw[Nat.add_zero,jy A (by simp at E;omega)];rfl)
     (fun j E=>by simp[World.frozen?,A])
     (fun u hu=>by obtain⟨k,d,rfl⟩:=List.getElem_of_mem hu;have:=l k (by simp at d;omega);simp at d;simpa[d]using this)
    simp only[Nat.add_zero]at n;refine Out.unit (w':=w.setCells b off g.cells.toList) ?_ (.refl G) (F.store D off g.cells.toList v.cells (by simpa using J) (by simp;omega) (fun k d=> ?_) b H) (.any _) O
    ·simp only[Instr.storeAt,Instr.sureAddr,Sem.run_bind,Sem.run_pure,Result.andThen];simp only[storeVar,Sem.run_bind,sizeOf,run_typeInfo w o,Result.andThen,Sem.run_pure,J,S,q];simp[n]
    ·have U:g.cells.toList.getD k undef=g.cells.getD k undef:=by simp[List.getD_eq_getElem?_getD]
     rw[U];exact⟨I k d,l k d⟩
  ·exact h.elim
 ·exact h.elim
end Go.AW
namespace Go.AW
open Go Go.RowKit
variable {P:Program} {G:Gh} {σ:AS} {w:World} {K Pn:AV→AS→Prop}
def AV.laid (v:AV):Bool:=v.HN&&v.cells.all AV.one
theorem gr {v:AV}{x:Value}(h:ba P G v x) (hl:v.laid=true):
 x.cells.size=v.cells.length∧ ∀k,k<v.cells.length→ba P G (v.cells.getD k .any) (x.cells.getD k undef)∧(x.cells.getD k undef).oneCell'=true:=by
 simp only[AV.laid,Bool.and_eq_true]at hl;obtain⟨i,g⟩:=h.cells hl.1;refine⟨i,fun k d=>⟨g k d,(g k d).one ?_⟩⟩;exact List.all_eq_true.1 hl.2 (v.cells.getD k .any) (by rw[List.getD_eq_getElem?_getD,List.getElem?_eq_getElem d];exact List.getElem_mem _)
def aw (P:Program) (t:TypeId):AV:=match (P.info? t).bind (·.zero)with|some v=>Fj v|none=> .any
theorem C6 {t:TypeId}(h:(aw P t).laid=true):∃z,(zeroValue t).run P w= .ok z w∧ba P G (aw P t) z:=by
 unfold aw at h⊢;cases g:P.info? t with
 |none=>simp[g,AV.laid,AV.HN]at h
 |some i=>
  cases d:i.zero with
  |none=>simp[g,d,AV.laid,AV.HN]at h
  |some z=>simp only[d,Option.bind_some];exact⟨z,by simp[zeroValue,Sem.run_bind,run_typeInfo w g,d],gD z⟩
theorem wN (d:Inv P G σ w) (e:TypeId) {v:AV}{x:Value}(g:ba P G v x) (hl:v.laid=true) (h:∀id,σ id=none→K (.ptr id 0) (σ.set id (.cells e v.cells))):
 ∃G' σ',(newVar e x).run P w= .ok ⟨w.heap.size,0,none⟩ (w.alloc (.cells x.cells e))∧G.Le G'∧Inv P G' σ' (w.alloc (.cells x.cells e))∧
  ba P G' (.ptr G.top 0) (.pointer (some ⟨w.heap.size,0,none⟩))∧K (.ptr G.top 0) σ':=by
 obtain⟨o,n⟩:=gr g hl;obtain⟨G',l,j,i⟩:=d.mq e x.cells v.cells o n;exact⟨G',_,by simp[newVar,newRow,Result.andThen],l,i,.ptr j,h _ d.fresh⟩
def AJ (P:Program) (σ:AS) (e:TypeId) (K:AV→AS→Prop):Prop:=
 (aw P e).laid=true∧ ∀id,σ id=none→K (.ptr id 0) (σ.set id (.cells e (aw P e).cells))
theorem Ew (n:Inv P G σ w) {e:TypeId}(h:AJ P σ e K):Out P G K Pn (((do pure (Next.value (←Instr.alloc e true (.tuple #[])))):Sem Next).run P w):=by obtain⟨h1,o⟩:=h;obtain⟨z,j,l⟩:=C6 (P:=P) (G:=G) (w:=w) h1;obtain⟨G',σ',k1,i,g,k4,d⟩:=wN n e l h1 o;refine Out.value (v:= .pointer (some ⟨w.heap.size,0,none⟩)) ?_ i g k4 d;simp[Instr.alloc,Sem.run_bind,j,k1]
def M7 (P:Program) (σ:AS) (e:TypeId) (v:AV) (K:AV→AS→Prop):Prop:=
 v.laid=true∧ ∀id,σ id=none→K (.ptr id 0) (σ.set id (.cells e v.cells))
theorem KI (l:Inv P G σ w) {e:TypeId}{v:AV}{x:Value}(j:ba P G v x) (h:M7 P σ e v K):Out P G K Pn (((do pure (Next.value (←Instr.box e x))):Sem Next).run P w):=by obtain⟨G',σ',k1,i,g,k4,d⟩:=wN l e j h.1 h.2;refine Out.value (v:= .pointer (some ⟨w.heap.size,0,none⟩)) ?_ i g k4 d;simp[Instr.box,k1]
def au (P:Program) (t:TypeId) (i:Nat):Option (Nat×Nat):=
 match P.underlying t with
 |some (.struct fs)=>(fs[i]?).map fun f=>(f.offset,P.cellsOf f.type)
 |some (.array _ e)=>some (i*P.cellsOf e,P.cellsOf e)
 | _ =>none
def D6 (P:Program) (t:TypeId) (i:Nat):Option (Nat×LK):=
 match P.underlying t with
 |some (.struct fs)=>(fs[i]?).map fun f=>(f.offset,gi P f.type)
 | _ =>none
def og (cs:List AV) (off:Nat) (vs:List AV):List AV:=cs.take off++vs++cs.drop (off+vs.length)
def nF (P:Program) (t:TypeId):List AV→List (Nat×AV)→(List AV→Prop)→Prop
 |cs,[],K=>K cs
 |cs,(i,v)::r,K=>match au P t i with
  |some (off,n)=>v.HN=true∧v.cells.length=n∧n≠0∧off+n≤cs.length∧nF P t (og cs off v.cells) r K
  |none=>False
theorem sB (l:List Value):∀(cs:Array Value) (off j:Nat),off+j+l.length≤cs.size→
 (l.zipIdx j).foldl (fun cs (p:Value×Nat)=>cs.setIfInBounds (off+p.2) p.1) cs=te cs (off+j) l:=by
 induction l with
 |nil=>intro cs off j _;rfl
 |cons v r d=>intro cs off j h;simp only[List.zipIdx_cons,List.foldl_cons,te];rw[d _ _ _ (by simp at h⊢;omega)];rfl
theorem ry {cs vs:List AV}{off:Nat}(h:off+vs.length≤cs.length):(og cs off vs).length=cs.length:=by simp[og];omega
theorem Dk {cs vs:List AV}{off k:Nat}(h:off+vs.length≤cs.length):(og cs off vs).getD k .any=if off≤k∧k<off+vs.length then vs.getD (k-off) .any else cs.getD k .any:=by
 have t:(cs.take off).length=off:=by simp;omega
 unfold og;simp only[List.getD_eq_getElem?_getD];by_cases g:off≤k∧k<off+vs.length
 ·rw[if_pos g,List.append_assoc,List.getElem?_append_right (by omega),t,List.getElem?_append_left (by omega)]
 ·rw[if_neg g];by_cases d:k<off
  ·rw[List.append_assoc,List.getElem?_append_left (by omega),List.getElem?_take_of_lt d]
  ·rw[List.append_assoc,List.getElem?_append_right (by omega),t,List.getElem?_append_right (by omega),List.getElem?_drop];congr 2;omega
def gy (P:Program) (G:Gh) (cs:List AV) (vs:Array Value):Prop:=vs.size=cs.length∧ ∀k,k<cs.length→ba P G (cs.getD k .any) (vs.getD k undef)
theorem gy.og {cs vs:List AV}{a:Array Value}{l:List Value}(h:gy P G cs a) {off:Nat}(d:off+vs.length≤cs.length) (hl:l.length=vs.length)
 (i:∀k,k<vs.length→ba P G (vs.getD k .any) (l.getD k undef)):gy P G (og cs off vs) (te a off l):=by
 refine⟨by rw[qx,h.1,ry d],fun k g=> ?_⟩;rw[ry d]at g;rw[Dk d,vR _ _ _ _ (by rw[h.1];omega),hl];split
 ·rename_i j;exact i _ (by omega)
 ·exact h.2 k g
theorem My {t:TypeId}(place:Nat→Option (Nat×Nat)) (M:∀i,au P t i=place i∨au P t i=none):∀(parts:List (Nat×AV)) (d:List (Nat×Value)) (cs:List AV) (a:Array Value) (K:List AV→Prop),
 d.length=parts.length→(∀i,i<parts.length→(d.getD i (0,undef)).1=(parts.getD i (0,.any)).1∧ba P G (parts.getD i (0,.any)).2 (d.getD i (0,undef)).2)→
 gy P G cs a→nF P t cs parts K→ ∃A cs',Instr.fill place a d=some A∧gy P G cs' A∧K cs':=by
 intro parts;induction parts with
 |nil=>intro d cs a K hl _ y h;have:d= []:=List.length_eq_zero_iff.1 (by simpa using hl);subst this;exact⟨a,cs,rfl,y,h⟩
 |cons p r J=>
  intro d cs a K hl g y h;obtain⟨i,v⟩:=p;cases d with
  |nil=>simp at hl
  |cons q I=>
   obtain⟨H,x⟩:=q;have h0:=g 0 (by simp);simp at h0;obtain⟨rfl,L⟩:=h0;simp only[nF]at h;split at h
   ·rename_i off n j;obtain⟨h1,Z,Y,X,O⟩:=h;obtain⟨V,U⟩:=L.cells h1;have o:place H=some (off,n):=by
     rcases M H with h|h
     ·rw[←h,j]
     ·rw[h]at j;cases j
    have D:x.cells.size=n:=by omega
    have u:¬(off+n>a.size):=by rw[y.1];omega
    have hf:Array.foldl (fun cs (p:Value×Nat)=>cs.setIfInBounds (off+p.2) p.1) a x.cells.zipIdx=te a off x.cells.toList:=by have:=sB x.cells.toList a off 0 (by rw[Nat.add_zero,Array.length_toList,y.1];omega);rw[Nat.add_zero]at this;rw[←this,←Array.foldl_toList];simp
    have F:=y.og (off:=off) (vs:=v.cells) (l:=x.cells.toList) (by omega) (by simpa using V) (fun k E=>by have:=U k E;simpa[List.getD_eq_getElem?_getD]using this);obtain⟨A,cs',T,S,Q⟩:=J I _ _ K (by simpa using hl) (fun k E=>by have:=g (k+1) (by simpa using E);simpa using this) F O;refine⟨A,cs',?_,S,Q⟩;simp only[Instr.fill,o,D,ne_eq,not_true_eq_false,decide_false,Bool.false_or,u];rw[←T];simp only[Bool.false_eq_true,if_false];rw[hf]
   ·exact h.elim
end Go.AW
namespace Go.AW
open Go Go.RowKit
variable {P:Program} {G:Gh} {σ:AS} {w:World} {K Pn:AV→AS→Prop}
def bM (P:Program) (t:TypeId):Bool:=
 match P.underlying t with
 |some (.struct fs)=>(fs.toList.mapM (fun f=>(P.info? f.type).map fun i=>(f.offset,i.size))).isSome
 |some (.array _ e)=>(P.info? e).isSome
 | _ =>false
theorem BR {fs:List Field}{d:List (Nat×Nat)}(h:fs.mapM (fun f=>(P.info? f.type).map fun i=>(f.offset,i.size))=some d):
 d=fs.map fun f=>(f.offset,P.cellsOf f.type):=by
 induction fs generalizing d with
 |nil=>simp at h;subst h;rfl
 |cons f fs l=>
  simp only[List.mapM_cons,Option.bind_eq_bind,Option.pure_def]at h;cases g:P.info? f.type with
  |none=>simp[g]at h
  |some i=>
   cases j:fs.mapM (fun f=>(P.info? f.type).map fun i=>(f.offset,i.size))with
   |none=>simp[g,j]at h
   |some rest=>simp[g,j]at h;subst h;rw[l j];simp[Program.cellsOf,g]
def rV (P:Program) (t:TypeId) (parts:List (Nat×AV)) (K:AV→Prop):Prop:=
 bM P t=true∧(aw P t).laid=true∧nF P t (aw P t).cells parts fun cs=>K (.agg cs)
theorem dD {t:TypeId}(h:(aw P t).laid=true):∃i z,P.info? t=some i∧i.zero=some z∧aw P t=Fj z:=by
 unfold aw at h⊢;cases g:P.info? t with
 |none=>simp[g,AV.laid,AV.HN]at h
 |some i=>
  cases d:i.zero with
  |none=>simp[g,d,AV.laid,AV.HN]at h
  |some z=>exact⟨i,z,rfl,d,by simp[d]⟩
theorem Ev (o:Inv P G σ w) {t:TypeId}{parts:Array (Nat×Operand)}{s:Fr}{ρ:Operand→Value}(U:∀x,ba P G (ev s x) (ρ x))
 (h:rV P t (parts.toList.map fun p=>(p.1,ev s p.2)) fun v=>K v σ):
 Out P G K Pn (((do pure (Next.value (←Instr.build t (parts.map fun(i,x)=>(i,ρ x))))):Sem Next).run P w):=by
 obtain⟨h1,T,X⟩:=h;obtain⟨it,z,u,O,A⟩:=dD T;have E:ba P G (aw P t) z:=by rw[A];exact gD z
 have S:=gr E T;have F:gy P G (aw P t).cells z.cells:=⟨S.1,fun k I=>(S.2 k I).1⟩;have D:(parts.map fun(i,x)=>(i,ρ x)).toList=parts.toList.map fun p=>(p.1,ρ p.2):=by simp
 have d:∀(place:Nat→Option (Nat×Nat)),(∀i,au P t i=place i∨au P t i=none)→
  ∃g cs',Instr.fill place z.cells (parts.map fun(i,x)=>(i,ρ x)).toList=some g∧gy P G cs' g∧K (.agg cs') σ:=by
  intro place q;rw[D];refine My (K:=fun cs=>K (.agg cs) σ) place q _ _ _ _ (by simp) (fun i o=> ?_) F X;simp at o;simp[List.getD_eq_getElem?_getD,o];exact U _
 have fin:∀g cs',P.built t (parts.map fun(i,x)=>(i,ρ x)).toList=some g→gy P G cs' g→K (.agg cs') σ→
  Out P G K Pn (((do pure (Next.value (←Instr.build t (parts.map fun(i,x)=>(i,ρ x))))):Sem Next).run P w):=by
  intro g cs' V Q I;refine Out.pure o (run_build w t _ g V) ?_ I;have:=ba.agg (P:=P) (G:=G) (cells:=cs') g.toList (by simpa using Q.1) (fun i o=>by have:=Q.2 i o;simpa[List.getD_eq_getElem?_getD]using this);simpa using this
 unfold bM at h1;split at h1
 ·rename_i fs hu;cases q:fs.toList.mapM (fun f=>(P.info? f.type).map fun i=>(f.offset,i.size))with
  |none=>rw[q]at h1;cases h1
  |some j=>have H:=BR q;obtain⟨g,cs',y,L,J⟩:=d (j.toArray[·]?) (fun i=>by left;simp[au,hu,H]);exact fin g cs' (by simp[Program.built,u,hu,O,q]at y⊢;exact y) L J
 ·rename_i n e hu;cases l:P.info? e with
  |none=>rw[l]at h1;cases h1
  |some M=>obtain⟨g,cs',y,L,J⟩:=d (fun i=>some (i*M.size,M.size)) (fun i=>by left;simp[au,hu,Program.cellsOf,l]);exact fin g cs' (by simp[Program.built,u,hu,O,l]at y⊢;exact y) L J
 ·cases h1
def ct (P:Program) (t:TypeId):Option TypeId:=match P.underlying t with|some (.slice e)=>some e| _ =>none
theorem fj {t e:TypeId}(h:ct P t=some e):P.underlying t=some (.slice e):=by
 unfold ct at h;split at h
 ·cases h;assumption
 ·cases h
def ig (n:Nat):Nat→List (Nat×AV)→Bool
 |k,[]=>true
 |k,(i,v)::r=>i==k&&v.laid&&v.cells.length==n&&ig n (k+1) r
def eK (P:Program) (σ:AS) (t:TypeId) (len:Nat) (parts:List (Nat×AV)) (K:AV→AS→Prop):Prop:=
 match ct P t with
 |some e=>parts.length=len∧P.cellsOf e≠0∧len*P.cellsOf e≤2^24∧(aw P e).laid=true∧(aw P e).cells.length=P.cellsOf e∧ig (P.cellsOf e) 0 parts=true∧
  K (.an e (parts.map (·.2)) .full false) σ
 |none=>False
theorem xf {e:TypeId} :∀(parts:List (Nat×AV)) (d:List (Nat×Value)) (k m:Nat) (a:Array Value),
 d.length=parts.length→(∀i,i<parts.length→(d.getD i (0,undef)).1=(parts.getD i (0,.any)).1∧ba P G (parts.getD i (0,.any)).2 (d.getD i (0,undef)).2)→
 ig m k parts=true→(k+parts.length)*m=a.size→
 (∀c,c<k*m→(a.getD c undef).oneCell'=true)→
 ∃o,Instr.fill (fun i=>some (i*m,m)) a d=some o∧o.size=a.size∧(∀c,c<k*m→o.getD c undef=a.getD c undef)∧
  (∀i j,i<parts.length→j<m→ba P G ((parts.getD i (0,.any)).2.cells.getD j .any) (o.getD ((k+i)*m+j) undef)∧(o.getD ((k+i)*m+j) undef).oneCell'=true):=by
 intro parts;induction parts with
 |nil=>intro d k m a hl _ _ _ _;have:d= []:=List.length_eq_zero_iff.1 (by simpa using hl);subst this;exact⟨a,rfl,rfl,fun _ _ =>rfl,fun i j D=>by simp at D⟩
 |cons p r J=>
  intro d k m a hl l h u A;obtain⟨i,v⟩:=p;cases d with
  |nil=>simp at hl
  |cons q I=>
   obtain⟨i',x⟩:=q;have h0:=l 0 (by simp);simp at h0;obtain⟨rfl,L⟩:=h0;simp only[ig,Bool.and_eq_true,beq_iff_eq]at h;obtain⟨⟨⟨rfl,n⟩,hlen⟩,h⟩:=h;obtain⟨Y,H⟩:=gr L n;have y:x.cells.size=m:=by omega
   have E:i'*m+m≤a.size:=by rw[←u];have:(i'+1)*m≤(i'+(((i',v)::r).length))*m:=Nat.mul_le_mul_right _ (by simp);rw[Nat.add_mul]at this;omega
   have hf:Array.foldl (fun cs (p:Value×Nat)=>cs.setIfInBounds (i'*m+p.2) p.1) a x.cells.zipIdx=te a (i'*m) x.cells.toList:=by have:=sB x.cells.toList a (i'*m) 0 (by rw[Nat.add_zero,Array.length_toList];omega);rw[Nat.add_zero]at this;rw[←this,←Array.foldl_toList];simp
   have g:∀c,(te a (i'*m) x.cells.toList).getD c undef=if i'*m≤c∧c<i'*m+m then x.cells.getD (c-i'*m) undef else a.getD c undef:=by
    intro c;rw[vR _ _ _ _ (by simp;omega)];simp only[Array.length_toList,y];split
    ·simp[List.getD_eq_getElem?_getD]
    ·rfl
   have M:(i'+1)*m=i'*m+m:=by rw[Nat.add_mul];omega
   obtain⟨o,X,V,F,U⟩:=J I (i'+1) m (te a (i'*m) x.cells.toList) (by simpa using hl) (fun k O=>by
    have:=l (k+1) (by simpa using O);simpa using this) h (by rw[qx,←u];congr 1;simp;omega) (fun c T=>by
     rw[g];split
     ·rename_i S;exact(H (c-i'*m) (by omega)).2
     ·exact A c (by omega))
   refine⟨o,?_,by rw[V,qx],fun c T=> ?_,fun i j D Q=> ?_⟩
   ·simp only[Instr.fill,y,ne_eq,not_true_eq_false,decide_false,Bool.false_or,show ¬(i'*m+m>a.size) by omega,if_false,Bool.false_eq_true];rw[←X,hf]
   ·rw[F c (by omega),g,if_neg (by omega)]
   ·cases i with
    |zero=>
     simp only[Nat.add_zero];rw[F _ (by omega),g,if_pos (by omega)];have:i'*m+j-i'*m=j:=by omega
     rw[this];exact H j (by omega)
    |succ i=>have:=U i j (by simpa using D) Q;rw[show i'+1+i=i'+(i+1) by omega]at this;simpa using this
theorem vk (o:Inv P G σ w) {t:TypeId}{len:Nat}{parts:Array (Nat×Operand)}{s:Fr}{ρ:Operand→Value}(V:∀x,ba P G (ev s x) (ρ x))
 (h:eK P σ t len (parts.toList.map fun p=>(p.1,ev s p.2)) K):
 Out P G K Pn (((do pure (Next.value (←Instr.buildSlice t len (parts.map fun(i,x)=>(i,ρ x))))):Sem Next).run P w):=by
 unfold eK at h;split at h
 ·rename_i e he;obtain⟨h1,h2,h3,h4,h5,O,h7⟩:=h;have hu:=fj he;obtain⟨it,z,y,Y,X⟩:=dD h4;have M:it.size=P.cellsOf e:=by simp[Program.cellsOf,y]
  have L:(parts.map fun(i,x)=>(i,ρ x)).toList=parts.toList.map fun p=>(p.1,ρ p.2):=by simp
  have hlen:parts.toList.length=len:=by simpa using h1
  let zero:Array Value:=if len*P.cellsOf e=0 then #[]else z.cells
  let init:Array Value:=(Array.range (len*P.cellsOf e)).map (zero[· %zero.size]!)
  obtain⟨J,g1,g2,_,Q⟩:=xf (P:=P) (G:=G) (e:=e) (parts.toList.map fun p=>(p.1,ev s p.2)) (parts.toList.map fun p=>(p.1,ρ p.2)) 0 (P.cellsOf e) init (by simp) (fun i o=>by simp at o;simp[List.getD_eq_getElem?_getD,o];exact V _) O (by simp at hlen;simp[init,hlen]) (fun c hc=>by omega);have u:J.size=len*P.cellsOf e:=by rw[g2];simp[init]
  have D:(Instr.buildSlice t len (parts.map fun(i,x)=>(i,ρ x))).run P w= .ok (.slice (some ⟨w.heap.size,0,none⟩) len len) (w.alloc (.cells J e)):=by
   have A:¬(len*P.cellsOf e>2^24):=by omega
   have g:Instr.fill (fun i=>some (i*P.cellsOf e,P.cellsOf e)) ((Array.range (len*P.cellsOf e)).map (zero[· %zero.size]!)) (parts.map fun(i,x)=>(i,ρ x)).toList=some J:=by rw[L];exact g1
   simp only[Instr.buildSlice,Sem.run_bind,run_underlying hu,Result.andThen,sizeOf,run_typeInfo w y,Sem.run_pure,M,A,if_false];by_cases h0:len*P.cellsOf e=0
   ·simp only[zero,h0,if_true]at g;simp[h0,newRow];simp at g;simp[g,Result.andThen]
   ·simp only[zero,h0,if_false]at g;simp only[h0,if_false,Sem.run_bind,zeroValue,run_typeInfo w y,Y,Result.andThen,Sem.run_pure];rw[g];simp[newRow,Result.andThen]
  let vs:Nat→Value:=fun k=>J.getD k undef
  have F:∀k,k<len*P.cellsOf e→k/P.cellsOf e<len∧k%P.cellsOf e<P.cellsOf e∧(k/P.cellsOf e)*P.cellsOf e+k%P.cellsOf e=k:=fun k n=>
   ⟨Nat.div_lt_of_lt_mul (by rw[Nat.mul_comm];exact n),Nat.mod_lt _ (by omega),by rw[Nat.mul_comm];exact Nat.div_add_mod k _⟩
  obtain⟨hle,hinv⟩:=o.Fv e J (len*P.cellsOf e) vs (by omega) (fun k n=>by obtain⟨k1,T,S⟩:=F k n;have:=(Q (k/P.cellsOf e) (k%P.cellsOf e) (by simp at hlen⊢;omega) T).2;rw[Nat.zero_add,S]at this;exact⟨by simp[vs,u,n],this⟩);refine Out.value D hle hinv ?_ h7;have E:((parts.toList.map fun p=>(p.1,ev s p.2)).map (·.2)).length=len:=by simpa using h1
  have I:∀i,i<len→((((parts.toList.map fun(p:Nat×Operand)=>(p.1,ev s p.2)).map (fun(q:Nat×AV)=>q.2)).getD i AV.any).cells.length=P.cellsOf e)∧
   ((parts.toList.map fun(p:Nat×Operand)=>(p.1,ev s p.2)).map (fun(q:Nat×AV)=>q.2)).getD i AV.any=((parts.toList.map fun(p:Nat×Operand)=>(p.1,ev s p.2)).getD i (0,AV.any)).2:=by
   intro i H;have d:i<(parts.toList.map fun p=>(p.1,ev s p.2)).length:=by simp at hlen⊢;omega
   refine⟨?_,by simp only[List.getD_eq_getElem?_getD,List.getElem?_map,List.getElem?_eq_getElem d,Option.map_some,Option.getD_some]⟩;have key:∀(l:List (Nat×AV)) (k:Nat),ig (P.cellsOf e) k l=true→ ∀i,i<l.length→((l.map (fun(q:Nat×AV)=>q.2)).getD i AV.any).cells.length=P.cellsOf e:=by
    intro l;induction l with
    |nil=>intro k _ i o;simp at o
    |cons p r U=>
     intro k n i o;obtain⟨q,v⟩:=p;simp only[ig,Bool.and_eq_true,beq_iff_eq]at n;cases i with
     |zero=>simpa using n.1.2
     |succ i=>simpa using U (k+1) n.2 i (by simpa using o)
   exact key _ 0 O i d
  refine ba.DJ vs E (fun i H=>(I i (by omega)).1) (fun k n=> ?_) (fun i j H Z=> ?_) (Nat.le_refl _) ⟨_,rfl⟩
  ·rw[Gh.lx (by omega) (by omega)];simp
  ·rw[(I i (by omega)).2];have:=(Q i j (by simp at hlen⊢;omega) Z).1;rw[Nat.zero_add]at this;exact this.mono hle
 ·exact h.elim
end Go.AW
