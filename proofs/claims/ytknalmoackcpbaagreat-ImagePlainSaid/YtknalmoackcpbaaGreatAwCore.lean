/- A layer of abstract values over the model's machine: own work for this claim, part AwCore. -/
import Derived.WalkKit
import Derived.Deep.AppendSrc
import Derived.Defers
set_option linter.all false
open Go Go.RowKit List
namespace Go.AW
inductive cC where
 |aI|full|tok (t:Nat)
inductive AV where
 |any
 |sc (v:Value)
 |ptr (id off:Nat)
 |iv (cells:List AV)
 |ai
 |ao (e:TypeId) (elems:List AV) (own:cC) (nil:Bool)
 |fH (id off len cap:Nat)
 |mp (id:Nat)
 |fn (f:Fn) (first captured:List AV)
 |rM (t:TypeId) (v:AV)
 |agg (cells:List AV)
 |bI (vs:List AV)
def AV.cells:AV→List AV
 |.agg cs=>cs
 |v=> [v]
def AV.Iu:AV→Bool
 |.any|.bI _ =>false
 |.sc (.agg _)|.sc (.tuple _)=>false
 | _ =>true
def AV.one:AV→Bool
 |.any|.bI _ |.agg _ =>false
 |.sc (.agg _)|.sc (.tuple _)=>false
 | _ =>true
inductive bP where
 |cells (ty:TypeId) (cs:List AV)
 |tok (len:Nat)
 |map (es:List (AV×AV))
 |lF (s:ByteArray) (pos:Nat)
 |jD (ba n0:Nat) (done:List Nat)
def bP.Er:bP→Bool
 |.lF _ _ |.jD _ _ _ =>true
 | _ =>false
abbrev AS:=Nat→Option bP
def AS.set (σ:AS) (i:Nat) (b:bP):AS:=fun j=>if j=i then some b else σ j
def AS.le (d σ:AS):Prop:= ∀i b,d i=some b→σ i=some b
def AS.le_refl (σ:AS):AS.le σ σ:=fun _ _ h=>h
def AS.le_trans {a b c:AS}(h:AS.le a b) (k:AS.le b c):AS.le a c:=fun i x e=>k i x (h i x e)
def AS.aj {d σ:AS}{i:Nat}{b:bP}(h:AS.le d σ) (l:d i=none):AS.le d (σ.set i b):=by
 intro j x e;by_cases g:j=i
 ·subst g;rw[l]at e;cases e
 ·simp only[AS.set,g,if_false];exact h j x e
@[simp] def AS.ak (σ:AS) (i:Nat) (b:bP):(σ.set i b) i=some b:=by simp[AS.set]
def AS.ae (σ:AS) {i j:Nat}(b:bP) (h:j≠i):(σ.set i b) j=σ j:=by simp[AS.set,h]
@[simp] def AS.set_set (σ:AS) (i:Nat) (b c:bP):(σ.set i b).set i c=σ.set i c:=by funext j;by_cases h:j=i<;>simp[AS.set,h]
def AS.DP (σ:AS) (i:Nat) (b:bP) (h:σ i=some b):σ.set i b=σ:=by
 funext j;by_cases e:j=i
 ·subst e;simp[AS.set,h]
 ·simp[AS.set,e]
structure OR where
 a:Option (Nat×Nat)
 len:Nat
 cap:Nat
 yc:TypeId
def OR.val (r:OR):Value:= .slice (r.a.map fun p=>⟨p.1,p.2,none⟩) r.len r.cap
structure Gh where
 W0:World
 B:Nat
 mem:Nat→Nat→Option Value
 inj:Nat→Option Nat
 own:Nat→Option OR
 top:Nat
structure Gh.Le (G G':Gh):Prop where
 W0:G'.W0=G.W0
 B:G'.B=G.B
 mem:∀b o v,G.mem b o=some v→G'.mem b o=some v
 inj:∀i b,G.inj i=some b→G'.inj i=some b
 own:∀t r,G.own t=some r→ ∃r',G'.own t=some r'∧r'.yc=r.yc∧(r'=r∨r.len<r'.len)
def Gh.Le.refl (G:Gh):G.Le G:=⟨rfl,rfl,fun _ _ _ h=>h,fun _ _ h=>h,fun _ r h=>⟨r,h,rfl,.inl rfl⟩⟩
def Gh.Le.trans {A B C:Gh}(h:A.Le B) (k:B.Le C):A.Le C where
 W0:=k.W0.trans h.W0
 B:=k.B.trans h.B
 mem b o v e:=k.mem b o v (h.mem b o v e)
 inj i b e:=k.inj i b (h.inj i b e)
 own t r e:=by
  obtain⟨l,h1,q,g⟩:=h.own t r e;obtain⟨j,k1,n,d⟩:=k.own t l h1;refine⟨j,k1,n.trans q,?_⟩;rcases g with rfl|g
  ·exact d
  ·rcases d with rfl|d
   ·exact .inr g
   ·exact .inr (Nat.lt_trans g d)
def xW (G:Gh) (own:cC) (e:TypeId) (n:Nat) (v:Value):Prop:=
 match own with
 |.aI=>True
 |.full=> ∃a,v= .slice a n n
 |.tok t=> ∃r,G.own t=some r∧r.yc=e∧n≤r.len∧(n=r.len→r.val=v)
def xW.mono {G G':Gh}(hle:G.Le G') {own:cC}{e:TypeId}{n:Nat}{v:Value}(h:xW G own e n v):xW G' own e n v:=by
 cases own with
 |aI=>trivial
 |full=>exact h
 |tok t=>
  obtain⟨r,h1,i,o,l⟩:=h;obtain⟨d,k1,j,g⟩:=hle.own t r h1;rcases g with rfl|g
  ·exact⟨d,k1,i,o,l⟩
  ·exact⟨d,k1,j.trans i,by omega,by omega⟩
inductive aV (P:Program) (G:Gh):AV→Value→Prop
 |any (v:Value):aV P G .any v
 |sc (v:Value):aV P G (.sc v) v
 |ptr {id off b:Nat} (h:G.inj id=some b):aV P G (.ptr id off) (.pointer (some ⟨b,off,none⟩))
 |iv {cells:List AV} {b off:Nat} (vs:Nat→Value) (hm:∀i,i<cells.length→G.mem b (off+i)=some (vs i))
  (hr:∀i,i<cells.length→aV P G (cells.getD i .any) (vs i)):aV P G (.iv cells) (.pointer (some ⟨b,off,none⟩))
 |ai:aV P G .ai (.slice none 0 0)
 |iP {e:TypeId} {own:cC} (ho:xW G own e 0 (.slice none 0 0)):aV P G (.ao e [] own true) (.slice none 0 0)
 |ao {e:TypeId} {elems:List AV} {own:cC} {b off cap:Nat} (vs:Nat→Value)
  (hl:∀i,i<elems.length→(elems.getD i .any).cells.length=P.cellsOf e)
  (hm:∀k,k<elems.length*P.cellsOf e→G.mem b (off+k)=some (vs k))
  (hr:∀i j,i<elems.length→j<P.cellsOf e→aV P G ((elems.getD i .any).cells.getD j .any) (vs (i*P.cellsOf e+j)))
  (hc:elems.length≤cap)
  (ho:xW G own e elems.length (.slice (some ⟨b,off,none⟩) elems.length cap)):
  aV P G (.ao e elems own false) (.slice (some ⟨b,off,none⟩) elems.length cap)
 |pL {e:TypeId} {a:Addr} {cap:Nat} :aV P G (.ao e [] .aI false) (.slice (some a) 0 cap)
 |fH {id off len cap b:Nat} (h:G.inj id=some b):aV P G (.fH id off len cap) (.slice (some ⟨b,off,none⟩) len cap)
 |mp {id b:Nat} (h:G.inj id=some b):aV P G (.mp id) (.map (some b))
 |fn {f:Fn} {first captured:List AV} (vf vc:List Value) (lf:vf.length=first.length) (lc:vc.length=captured.length)
  (hf:∀i,i<first.length→aV P G (first.getD i .any) (vf.getD i undef)) (hc:∀i,i<captured.length→aV P G (captured.getD i .any) (vc.getD i undef)):
  aV P G (.fn f first captured) (.func f vf.toArray vc.toArray)
 |rM {t:TypeId} {v:AV} {x:Value} (h:aV P G v x):aV P G (.rM t v) (.iface t x)
 |agg {cells:List AV} (vs:List Value) (l:vs.length=cells.length) (h:∀i,i<cells.length→aV P G (cells.getD i .any) (vs.getD i undef)):aV P G (.agg cells) (.agg vs.toArray)
 |bI {cells:List AV} (vs:List Value) (l:vs.length=cells.length) (h:∀i,i<cells.length→aV P G (cells.getD i .any) (vs.getD i undef)):aV P G (.bI cells) (.tuple vs.toArray)
def aV.mono {P:Program}{G G':Gh}(hle:G.Le G') {a:AV}{v:Value}(h:aV P G a v):aV P G' a v:=by
 induction h with
 |any v=>exact .any v
 |sc v=>exact .sc v
 |ptr h=>exact .ptr (hle.inj _ _ h)
 |iv vs hm _ d=>exact .iv vs (fun i u=>hle.mem _ _ _ (hm i u)) d
 |ai=>exact .ai
 |iP g=>exact .iP (g.mono hle)
 |ao vs hl hm _ y g d=>exact .ao vs hl (fun k q=>hle.mem _ _ _ (hm k q)) d y (g.mono hle)
 |pL=>exact .pL
 |fH h=>exact .fH (hle.inj _ _ h)
 |mp h=>exact .mp (hle.inj _ _ h)
 |fn j n o lc _ _ i1 i2=>exact .fn j n o lc i1 i2
 |rM _ d=>exact .rM d
 |agg vs l _ d=>exact .agg vs l d
 |bI vs l _ d=>exact .bI vs l d
def oR (ms:Array MapEntry) (clock:Nat):Prop:=
 (∀(k:Nat) (e:MapEntry),ms[k]? =some e→e.born<clock)∧(∀(k k':Nat) (e d:MapEntry),ms[k]? =some e→ms[k']? =some d→e.born=d.born→k=k')
def Io (G:Gh) (w:World):bP→Nat→Prop
 |.lF s pos,b=>w.heap[b]? =some (.stringIter s pos)
 |.jD ba d done,b=> ∃(m since:Nat) (seen:Array Nat) (last:Nat) (ms:Array MapEntry) (clock:Nat),w.heap[b]? =some (.mapIter (some m) since seen last)∧G.inj ba=some m∧w.heap[m]? =some (.map ms clock)∧
  d≤ms.size∧since≤last∧last≤clock∧oR ms clock∧(∀(k:Nat) (e:MapEntry),ms[k]? =some e→(k<d↔e.born<since))∧
  (∀(k:Nat) (e:MapEntry),ms[k]? =some e→k<d→(seen.contains e.born=true↔k∈done))∧(∀x∈seen,x<since)∧(seen.isEmpty=false→0<d)∧ms.size+last=d+clock∧
  (∀k,done.head?=some k→ ∃e:MapEntry,ms[k]? =some e∧seen.back?=some e.born)
 | _,_ =>True
def Io.jQ {G G':Gh}{w w':World}{s:bP}{b:Nat}(h:Io G w s b) (j:∀i b,G.inj i=some b→G'.inj i=some b) (d:∀o,w.heap[b]? =some o→w'.heap[b]? =some o)
 (hm:∀(m:Nat) (ms:Array MapEntry) (g:Nat),w.heap[m]? =some (.map ms g)→w'.heap[m]? =some (.map ms g)):Io G' w' s b:=by
 cases s with
 |lF s pos=>exact d _ h
 |jD ba v done=>obtain⟨m,since,seen,last,ms,clock,h1,u,q,l⟩:=h;exact⟨m,since,seen,last,ms,clock,d _ h1,j _ _ u,hm _ _ _ q,l⟩
 |cells ty cs=>trivial
 |tok n=>trivial
 |map es=>trivial
structure Inv (P:Program) (G:Gh) (σ:AS) (w:World):Prop where
 below:Below G.B G.W0 w
 base:G.B≤G.W0.heap.size
 mem:∀b o v,G.mem b o=some v→w.cell? ⟨b,o,none⟩=some v∧v.oneCell'=true
 top:∀i,G.top≤i→G.inj i=none∧G.own i=none
 dm:∀i b,G.inj i=some b→G.B≤b∧b<w.heap.size∧(∀ty cs,σ i=some (.cells ty cs)→ ∀o,G.mem b o=none)
 fA:∀i j b,G.inj i=some b→G.inj j=some b→i=j
 cells:∀i ty cs,σ i=some (.cells ty cs)→ ∃b vs,G.inj i=some b∧w.heap[b]? =some (.cells vs ty (0,0))∧vs.size=cs.length∧
  ∀k,k<cs.length→aV P G (cs.getD k .any) (vs.getD k undef)∧(vs.getD k undef).oneCell'=true
 maps:∀i es,σ i=some (.map es)→ ∃b ms clock,G.inj i=some b∧w.heap[b]? =some (.map ms clock)∧(ms.size=es.length∧oR ms clock)∧
  ∀k,k<es.length→ ∃m,ms[k]? =some m∧aV P G (es.getD k (.any,.any)).1 m.key∧aV P G (es.getD k (.any,.any)).2 m.val
 dQ:∀i (s:bP),s.Er=true→σ i=some s→ ∃b,G.inj i=some b∧Io G w s b
 tok:∀i n,σ i=some (.tok n)→ ∃r,G.own i=some r∧r.len=n
 own:∀t r,G.own t=some r→r.len≤r.cap∧(r.a=none→r.cap=0)∧ ∀b o,r.a=some (b,o)→ ∀k,r.len*P.cellsOf r.yc≤k→k<r.cap*P.cellsOf r.yc→
  (w.cell? ⟨b,o+k,none⟩).isSome=true∧w.frozen? ⟨b,o+k,none⟩=false∧G.mem b (o+k)=none∧(∀i,G.inj i≠some b)∧G.B≤b∧b<w.heap.size∧
  (∀t' r' o',t'≠t→G.own t'=some r'→r'.a=some (b,o')→r'.cap*P.cellsOf r'.yc≤r'.len*P.cellsOf r'.yc)
def Inv.weaken {P:Program}{G:Gh}{σ d:AS}{w:World}(h:Inv P G σ w) (hle:AS.le d σ):Inv P G d w where
 below:=h.below
 base:=h.base
 mem:=h.mem
 top:=h.top
 dm i b e:=⟨(h.dm i b e).1,(h.dm i b e).2.1,fun ty cs g=>(h.dm i b e).2.2 ty cs (hle _ _ g)⟩
 fA:=h.fA
 cells i ty cs e:=h.cells i ty cs (hle _ _ e)
 maps i es e:=h.maps i es (hle _ _ e)
 dQ i s p e:=h.dQ i s p (hle _ _ e)
 tok i n e:=h.tok i n (hle _ _ e)
 own:=h.own
def aV.cells {P:Program}{G:Gh}{a:AV}{v:Value}(h:aV P G a v) (i:a.Iu=true):
 v.cells.size=a.cells.length∧ ∀k,k<a.cells.length→aV P G (a.cells.getD k .any) (v.cells.getD k undef):=by
 have single:∀(a:AV) (v:Value),a.cells= [a]→v.cells= #[v]→aV P G a v→
  v.cells.size=a.cells.length∧ ∀k,k<a.cells.length→aV P G (a.cells.getD k .any) (v.cells.getD k undef):=by
  intro a v h1 E y;rw[h1,E];refine⟨rfl,fun k d=> ?_⟩;have:k=0:=by simp at d;exact d
  subst this;simpa using y
 cases h with
 |any v=>simp[AV.Iu]at i
 |sc v=>refine single _ _ rfl ?_ (.sc v);cases v<;>first|rfl|simp[AV.Iu]at i
 |agg vs l h=>refine⟨by simp[Value.cells,AV.cells,l],fun k d=> ?_⟩;have:=h k d;simpa[Value.cells,AV.cells]using this
 |bI vs l h=>simp[AV.Iu]at i
 |ptr h=>exact single _ _ rfl rfl (.ptr h)
 |iv vs hm g=>exact single _ _ rfl rfl (.iv vs hm g)
 |ai=>exact single _ _ rfl rfl .ai
 |iP h=>exact single _ _ rfl rfl (.iP h)
 |ao vs hl hm g j u=>exact single _ _ rfl rfl (.ao vs hl hm g j u)
 |pL=>exact single _ _ rfl rfl .pL
 |fH h=>exact single _ _ rfl rfl (.fH h)
 |mp h=>exact single _ _ rfl rfl (.mp h)
 |fn n o q lc hf j=>exact single _ _ rfl rfl (.fn n o q lc hf j)
 |rM h=>exact single _ _ rfl rfl (.rM h)
def aV.one {P:Program}{G:Gh}{a:AV}{v:Value}(h:aV P G a v) (d:a.one=true):v.oneCell'=true:=by
 cases h<;>first|rfl|(simp[AV.one]at d;done)|skip
 case sc=>cases v<;>first|rfl|simp[AV.one]at d
abbrev zI (x:Int):AV:= .sc (.int .i64 x)
abbrev zB (x:Bool):AV:= .sc (.bool x)
abbrev zS (x:List UInt8):AV:= .sc (.string ⟨x.toArray⟩)
abbrev zY:=List UInt8
abbrev zW (x:Int):Int:=IntKind.i64.wrap x
class Sy (p:Prop) (q:outParam Prop):Prop where
 out:p→q
instance (priority:=low) (p:Prop):Sy p True:=⟨fun _ =>trivial⟩
instance (a b:Nat):Sy (¬a=b) (¬b=a):=⟨fun h e=>h e.symm⟩
instance (p q g d:Prop) [x:Sy p g] [y:Sy q d]:Sy (p∧q) (g∧d):=⟨fun h=>⟨x.out h.1,y.out h.2⟩⟩
end Go.AW
namespace Go.AW
variable {P:Program} {G:Gh} {σ:AS} {w:World}
def Inv.fresh (h:Inv P G σ w):σ G.top=none:=by
 have ht:=h.top G.top (Nat.le_refl _);cases e:σ G.top with
 |none=>rfl
 |some b=>
  cases b with
  |cells ty cs=>obtain⟨b,_,h1,_⟩:=h.cells _ _ _ e;rw[ht.1]at h1;cases h1
  |map es=>obtain⟨b,_,_,h1,_⟩:=h.maps _ _ e;rw[ht.1]at h1;cases h1
  |lF s p=>obtain⟨b,h1,_⟩:=h.dQ _ _ rfl e;rw[ht.1]at h1;cases h1
  |jD m n d=>obtain⟨b,h1,_⟩:=h.dQ _ _ rfl e;rw[ht.1]at h1;cases h1
  |tok n=>obtain⟨r,h1,_⟩:=h.tok _ _ e;rw[ht.2]at h1;cases h1
def Inv.LL (h:Inv P G σ w):G.B≤w.heap.size:=Nat.le_trans h.base h.below.size
def Inv.Co (h:Inv P G σ w) {b o:Nat}{v:Value}(e:G.mem b o=some v):b<w.heap.size:=by
 have h1:=(h.mem b o v e).1;rcases Nat.lt_or_ge b w.heap.size with d|d
 ·exact d
 ·simp[World.cell?,Array.getElem?_eq_none d]at h1
def Inv.drew (h:Inv P G σ w):Inv P G σ w.drew where
 below:=h.below.drew
 base:=h.base
 mem:=h.mem
 top:=h.top
 dm:=h.dm
 fA:=h.fA
 cells:=h.cells
 maps:=h.maps
 dQ:=h.dQ
 tok:=h.tok
 own:=h.own
def eF (w:World) (o:Obj) {k:Nat}(h:k<w.heap.size):(w.alloc o).heap[k]? =w.heap[k]? :=Below.heap_alloc w o k h
def heap_alloc_new (w:World) (o:Obj):(w.alloc o).heap[w.heap.size]? =some o:=by show(w.heap.push o)[w.heap.size]? = _;simp
def dP {w:World}{b:Nat}{o:Obj}(h:w.heap[b]? =some o):b<w.heap.size:=by
 rcases Nat.lt_or_ge b w.heap.size with h1|h1
 ·exact h1
 ·rw[Array.getElem?_eq_none h1]at h;cases h
def xH {w:World}{a:Addr}(o:Obj) (h:a.block<w.heap.size):(w.alloc o).cell? a=w.cell? a:=
 World.cell?_of_block (eF w o h)
def AK {w:World}{a:Addr}(o:Obj) (h:a.block<w.heap.size):(w.alloc o).frozen? a=w.frozen? a:=
 World.frozen?_of_block (eF w o h)
def Inv.alloc (h:Inv P G σ w) (o:Obj):Inv P G σ (w.alloc o) where
 below:=h.below.alloc h.LL o
 base:=h.base
 mem b of v e:=⟨by rw[xH o (h.Co e)];exact(h.mem b of v e).1,(h.mem b of v e).2⟩
 top:=h.top
 dm i b e:=⟨(h.dm i b e).1,by have:=(h.dm i b e).2.1;simp;omega,(h.dm i b e).2.2⟩
 fA:=h.fA
 cells i ty cs e:=by obtain⟨b,vs,h1,d,j⟩:=h.cells i ty cs e;exact⟨b,vs,h1,by rw[eF w o (dP d)];exact d,j⟩
 maps i es e:=by obtain⟨b,ms,c,h1,d,j⟩:=h.maps i es e;exact⟨b,ms,c,h1,by rw[eF w o (dP d)];exact d,j⟩
 dQ i s p e:=by obtain⟨b,h1,d⟩:=h.dQ i s p e;exact⟨b,h1,d.jQ (fun _ _ h=>h) (fun _ g=>by rw[eF w o (dP g)];exact g) (fun _ _ _ g=>by rw[eF w o (dP g)];exact g)⟩
 tok:=h.tok
 own t r e:=by
  obtain⟨h1,d,j⟩:=h.own t r e;refine⟨h1,d,fun b of H k n l=> ?_⟩;obtain⟨k1,F,E,k4,y,q,u⟩:=j b of H k n l;refine⟨?_,?_,E,k4,y,by simp;omega,u⟩
  ·rw[xH o q];exact k1
  ·rw[AK o q];exact F
def Gh.bind (G:Gh) (b:Nat):Gh:= { G with inj:=fun j=>if j=G.top then some b else G.inj j,top:=G.top+1 }
def Gh.sG (G:Gh) (b:Nat) (ht:G.inj G.top=none):G.Le (G.bind b) where
 W0:=rfl
 B:=rfl
 mem _ _ _ h:=h
 inj i c h:=by
  have:i≠G.top:=by intro e;subst e;rw[ht]at h;cases h
  simp[Gh.bind,this,h]
 own t r h:=⟨r,h,rfl,.inl rfl⟩
def Inv.bind (h:Inv P G σ w) (o:Obj):Inv P (G.bind w.heap.size) σ (w.alloc o):=by
 have g:=h.alloc o;have hle:=G.sG w.heap.size (h.top _ (Nat.le_refl _)).1;refine⟨g.below,g.base,g.mem,?_,?_,?_,?_,?_,?_,g.tok,?_⟩
 ·intro i d;have:i≠G.top:=by simp[Gh.bind]at d;omega
  have:=h.top i (by simp[Gh.bind]at d;omega);simp[Gh.bind, *]
 ·intro i b e;by_cases d:i=G.top
  ·simp[Gh.bind,d]at e;subst e;refine⟨h.LL,by simp,fun _ _ _ of=> ?_⟩;cases hm:G.mem w.heap.size of with
   |none=>exact hm
   |some v=>have:=h.Co hm;omega
  ·simp[Gh.bind,d]at e;exact g.dm i b e
 ·intro i j b E y;by_cases d:i=G.top<;>by_cases L:j=G.top
  ·omega
  ·simp[Gh.bind,d,L]at E y;have:=(h.dm j b y).2.1;omega
  ·simp[Gh.bind,d,L]at E y;have:=(h.dm i b E).2.1;omega
  ·simp[Gh.bind,d,L]at E y;exact h.fA i j b E y
 ·intro i ty cs e;obtain⟨b,vs,h1,l,u,H⟩:=g.cells i ty cs e;exact⟨b,vs,hle.inj _ _ h1,l,u,fun k F=>⟨(H k F).1.mono hle,(H k F).2⟩⟩
 ·intro i es e;obtain⟨b,ms,c,h1,l,u,H⟩:=g.maps i es e;refine⟨b,ms,c,hle.inj _ _ h1,l,u,fun k F=> ?_⟩;obtain⟨m,k1,J,I⟩:=H k F;exact⟨m,k1,J.mono hle,I.mono hle⟩
 ·intro i s p e;obtain⟨b,h1,l⟩:=g.dQ i s p e;exact⟨b,hle.inj _ _ h1,l.jQ hle.inj (fun _ h=>h) (fun _ _ _ h=>h)⟩
 ·intro t r e;obtain⟨h1,l,u⟩:=g.own t r e;refine⟨h1,l,fun b of M k q n=> ?_⟩;obtain⟨k1,J,I,k4,V,T,O⟩:=u b of M k q n;have Q:=((h.own t r e).2.2 b of M k q n).2.2.2.2.2.1;refine⟨k1,J,I,fun i=> ?_,V,T,O⟩;by_cases d:i=G.top
  ·simp[Gh.bind,d];omega
  ·simp[Gh.bind,d];exact k4 i
def Inv.lZ (h:Inv P G σ w) (ty:TypeId) (vs:Array Value) (cs:List AV) (hl:vs.size=cs.length)
 (l:∀k,k<cs.length→aV P G (cs.getD k .any) (vs.getD k undef)∧(vs.getD k undef).oneCell'=true):
 ∃G',G.Le G'∧G'.inj G.top=some w.heap.size∧Inv P G' (σ.set G.top (.cells ty cs)) (w.alloc (.cells vs ty)):=by
 have hle:=G.sG w.heap.size (h.top _ (Nat.le_refl _)).1;have g:=h.bind (.cells vs ty);refine⟨_,hle,by simp[Gh.bind],?_⟩;refine⟨g.below,g.base,g.mem,g.top,?_,g.fA,?_,?_,?_,?_,g.own⟩
 ·intro i b e;have h1:=g.dm i b e;refine⟨h1.1,h1.2.1,fun j cs' q=> ?_⟩;by_cases d:i=G.top
  ·subst d;simp[Gh.bind]at e;subst e;intro of;cases hm:G.mem w.heap.size of with
   |none=>exact hm
   |some v=>have:=h.Co hm;omega
  ·exact h1.2.2 j cs' (by simpa[AS.set,d]using q)
 ·intro i j cs' e;by_cases d:i=G.top
  ·subst d;simp[AS.set]at e;obtain⟨rfl,rfl⟩:=e;exact⟨w.heap.size,vs,by simp[Gh.bind],heap_alloc_new w _,hl,fun k o=>⟨(l k o).1.mono hle,(l k o).2⟩⟩
  ·simp[AS.set,d]at e;exact g.cells i j cs' e
 ·intro i es e;by_cases d:i=G.top
  ·simp[AS.set,d]at e
  ·simp[AS.set,d]at e;exact g.maps i es e
 ·intro i s p e;by_cases d:i=G.top
  ·simp[AS.set,d]at e;subst e;cases p
  ·simp[AS.set,d]at e;exact g.dQ i s p e
 ·intro i n e;by_cases d:i=G.top
  ·simp[AS.set,d]at e
  ·simp[AS.set,d]at e;exact g.tok i n e
def Gh.jQ (G:Gh) (b off n:Nat) (vs:Nat→Value):Gh:=
 { G with mem:=fun d o=>if d=b∧off≤o∧o<off+n then some (vs (o-off))else G.mem d o }
def Gh.lh {b off n o:Nat}{vs:Nat→Value}(h1:off≤o) (d:o<off+n):(G.jQ b off n vs).mem b o=some (vs (o-off)):=if_pos ⟨rfl,h1,d⟩
def Gh.eS {b off n d o:Nat}{vs:Nat→Value}(h:¬(d=b∧off≤o∧o<off+n)):(G.jQ b off n vs).mem d o=G.mem d o:=if_neg h
def Inv.CB (h:Inv P G σ w) (ty:TypeId) (cur:Array Value) (L:Nat×Nat) (n:Nat) (vs:Nat→Value) (_hn:n≤cur.size) (X:∀k,k<n→cur[k]? =some (vs k)∧(vs k).oneCell'=true):
 G.Le (G.jQ w.heap.size 0 n vs)∧Inv P (G.jQ w.heap.size 0 n vs) σ (w.alloc (.cells cur ty L)):=by
 have hle:G.Le (G.jQ w.heap.size 0 n vs):=by refine⟨rfl,rfl,fun b o v e=> ?_,fun _ _ e=>e,fun t r e=>⟨r,e,rfl,.inl rfl⟩⟩;have:=h.Co e;simp only[Gh.jQ];rw[if_neg (by omega)];exact e
 have d:=h.alloc (.cells cur ty L);refine⟨hle,d.below,d.base,?_,h.top,?_,h.fA,?_,?_,d.dQ,d.tok,?_⟩
 ·intro b o v e;by_cases J:b=w.heap.size∧0≤o∧o<0+n
  ·simp only[Gh.jQ]at e;rw[if_pos J]at e;obtain⟨rfl,_,ho⟩:=J;simp at e;subst e;have:=X o (by omega);refine⟨?_,this.2⟩;simp only[World.cell?,heap_alloc_new];simpa using this.1
  ·simp only[Gh.jQ]at e;rw[if_neg J]at e;exact d.mem b o v e
 ·intro i b e;have h1:=h.dm i b e;refine⟨h1.1,by simp;omega,fun g cs' Y o=> ?_⟩;simp only[Gh.jQ];rw[if_neg (by omega)];exact h1.2.2 g cs' Y o
 ·intro i g cs e;obtain⟨b,F,h1,u,q,E⟩:=d.cells i g cs e;exact⟨b,F,h1,u,q,fun k y=>⟨(E k y).1.mono hle,(E k y).2⟩⟩
 ·intro i es e;obtain⟨b,ms,c,h1,u,q,E⟩:=d.maps i es e;refine⟨b,ms,c,h1,u,q,fun k y=> ?_⟩;obtain⟨m,k1,I,H⟩:=E k y;exact⟨m,k1,I.mono hle,H.mono hle⟩
 ·intro t r e;obtain⟨h1,u,q⟩:=d.own t r e;refine⟨h1,u,fun b of M k l j=> ?_⟩;obtain⟨k1,I,H,k4,V,T,O⟩:=q b of M k l j;have Q:=((h.own t r e).2.2 b of M k l j).2.2.2.2.2.1;refine⟨k1,I,?_,k4,V,T,O⟩;simp only[Gh.jQ];rw[if_neg (by omega)];exact H
def Inv.Gd (h:Inv P G σ w) (ty:TypeId) (cur:Array Value) (n:Nat) (vs:Nat→Value) (g:n≤cur.size) (d:∀k,k<n→cur[k]? =some (vs k)∧(vs k).oneCell'=true):
 G.Le (G.jQ w.heap.size 0 n vs)∧Inv P (G.jQ w.heap.size 0 n vs) σ (w.alloc (.cells cur ty)):=h.CB ty cur (0,0) n vs g d
def sT (cur:Array Value):Nat→List Value→Array Value
 | _,[]=>cur
 |o,v::r=>sT (cur.setIfInBounds o v) (o+1) r
def qn (vs:List Value):∀(cur:Array Value) (o:Nat),(sT cur o vs).size=cur.size:=by
 induction vs with
 |nil=>intro cur o;rfl
 |cons v r d=>intro cur o;simp[sT,d]
def vQ (vs:List Value):∀(cur:Array Value) (o k:Nat),o+vs.length≤cur.size→
 (sT cur o vs).getD k undef=if o≤k∧k<o+vs.length then vs.getD (k-o) undef else cur.getD k undef:=by
 induction vs with
 |nil=>intro cur o k _;rw[if_neg (by simp only[length_nil];omega)];rfl
 |cons v r g=>
  intro cur o k h;simp only[length_cons]at h;simp only[sT];rw[g _ _ _ (by simp;omega)];by_cases h1:o+1≤k∧k<o+1+r.length
  ·rw[if_pos h1,if_pos (by simp only[length_cons];omega)];have:k-o=(k-(o+1))+1:=by omega
   rw[this];simp
  ·rw[if_neg h1];by_cases d:k=o
   ·subst d;rw[if_pos (by simp only[length_cons];omega)];have:k<cur.size:=by omega
    simp[this]
   ·rw[if_neg (by simp only[length_cons];omega)];simp[Array.getElem?_setIfInBounds_ne (fun e=>d e.symm)]
def yv (b:Nat) (vs:List Value):∀(w:World) (o:Nat) (cur:Array Value) (ty:TypeId) (d:Nat×Nat),w.heap[b]? =some (.cells cur ty d)→
 (w.setCells b o vs).heap[b]? =some (.cells (sT cur o vs) ty d):=by
 induction vs with
 |nil=>intro w o cur ty d h;exact h
 |cons v r g=>intro w o cur ty d h;refine g _ _ _ _ _ ?_;simp only[World.setCell,Array.getElem?_modify,h,if_true,Option.map_some];rfl
def kV (b:Nat) (vs:List Value):∀(w:World) (o:Nat) (k:Nat),k≠b→(w.setCells b o vs).heap[k]? =w.heap[k]? :=by
 induction vs with
 |nil=>intro w o k h;rfl
 |cons v r d=>intro w o k h;rw[show w.setCells b o (v::r)=(w.setCell ⟨b,o,none⟩ v).setCells b (o+1) r from rfl,d _ _ _ h];exact Below.heap_setCell w _ v k h
def ic (b:Nat) (vs:List Value):∀(w:World) (o:Nat),(w.setCells b o vs).heap.size=w.heap.size:=by
 induction vs with
 |nil=>intro w o;rfl
 |cons v r d=>intro w o;rw[show w.setCells b o (v::r)=(w.setCell ⟨b,o,none⟩ v).setCells b (o+1) r from rfl,d];simp
def qe {B:Nat}{a:World}(b:Nat) (vs:List Value):∀(w:World) (o:Nat),Below B a w→B≤b→Below B a (w.setCells b o vs):=by
 induction vs with
 |nil=>intro w o h _;exact h
 |cons v r g=>intro w o h d;exact g _ _ (h.setCell (p:=⟨b,o,none⟩) d v) d
def Inv.store (h:Inv P G σ w) {i:Nat}{ty:TypeId}{cs:List AV}(e:σ i=some (.cells ty cs)) (off:Nat) (vs:List Value) (u:List AV)
 (hl:vs.length=u.length) (X:off+vs.length≤cs.length) (hr:∀k,k<u.length→aV P G (u.getD k .any) (vs.getD k undef)∧(vs.getD k undef).oneCell'=true)
 (b:Nat) (F:G.inj i=some b):
 Inv P G (σ.set i (.cells ty (cs.take off++u++cs.drop (off+u.length)))) (w.setCells b off vs):=by
 obtain⟨I,cur,h1,h2,h3,h4⟩:=h.cells i ty cs e;rw[F]at h1;obtain rfl:=Option.some.inj h1;have hB:=h.dm i b F;have other:∀k,k≠b→(w.setCells b off vs).heap[k]? =w.heap[k]? :=kV b vs w off;have hlen:(cs.take off++u++cs.drop (off+u.length)).length=cs.length:=by simp;omega
 refine⟨qe b vs w off h.below hB.1,h.base,?_,h.top,?_,h.fA,?_,?_,?_,?_,?_⟩
 ·intro I o v em;have d:I≠b:=by intro l;subst l;rw[hB.2.2 _ _ e o]at em;cases em
  exact⟨by rw[World.cell?_of_block (w:=w) (other I d)];exact(h.mem I o v em).1,(h.mem I o v em).2⟩
 ·intro j c g;have:=h.dm j c g;refine⟨this.1,by rw[ic];exact this.2.1,fun y cs' hn=> ?_⟩;by_cases q:j=i
  ·subst q;exact this.2.2 _ _ e
  ·exact this.2.2 y cs' (by simpa[AS.set,q]using hn)
 ·intro j y cs' g;by_cases q:j=i
  ·subst q;simp[AS.set]at g;obtain⟨rfl,rfl⟩:=g;refine⟨b,_,F,yv b vs w off cur _ _ h2,?_,?_⟩
   ·rw[qn,h3];simp;omega
   ·intro k hk;rw[vQ _ _ _ _ (by omega)];have Q:k<cs.length:=by simp at hk;omega
    by_cases Y:off≤k∧k<off+vs.length
    ·rw[if_pos Y];have:=hr (k-off) (by omega);have T:(cs.take off++(u++cs.drop (off+u.length))).getD k .any=u.getD (k-off) .any:=by
      have t:(cs.take off).length=off:=by simp;omega
      simp only[getD_eq_getElem?_getD];rw[getElem?_append_right (by omega),t,getElem?_append_left (by omega)]
     rw[T];exact this
    ·rw[if_neg Y];have:=h4 k Q;have T:(cs.take off++(u++cs.drop (off+u.length))).getD k .any=cs.getD k .any:=by
      have t:(cs.take off).length=off:=by simp;omega
      simp only[getD_eq_getElem?_getD];by_cases L:k<off
      ·rw[getElem?_append_left (by omega),getElem?_take_of_lt L]
      ·rw[getElem?_append_right (by omega),t,getElem?_append_right (by omega),getElem?_drop];congr 2;omega
     rw[T];exact this
  ·simp[AS.set,q]at g;obtain⟨c,J,k1,E,H⟩:=h.cells j y cs' g;have d:c≠b:=fun l=>q (h.fA j i b (l ▸ k1) F);exact⟨c,J,k1,by rw[other c d];exact E,H⟩
 ·intro j es g;have q:j≠i:=by intro l;subst l;simp[AS.set]at g
  simp[AS.set,q]at g;obtain⟨c,ms,cl,k1,E,H⟩:=h.maps j es g;have d:c≠b:=fun l=>q (h.fA j i b (l ▸ k1) F);exact⟨c,ms,cl,k1,by rw[other c d];exact E,H⟩
 ·intro j s p g;have q:j≠i:=by intro l;subst l;simp[AS.set]at g;subst g;cases p
  simp[AS.set,q]at g;obtain⟨c,k1,E⟩:=h.dQ j s p g;have d:c≠b:=fun l=>q (h.fA j i b (l ▸ k1) F);exact⟨c,k1,E.jQ (fun _ _ h=>h) (fun o ho=>by rw[other c d];exact ho) (fun m ms cl hm=>by rw[other m (fun e=>by subst e;rw[h2]at hm;cases hm)];exact hm)⟩
 ·intro j n g;have q:j≠i:=by intro l;subst l;simp[AS.set]at g
  simp[AS.set,q]at g;exact h.tok j n g
 ·intro t r et;obtain⟨k1,E,H⟩:=h.own t r et;refine⟨k1,E,fun c o ea k O M=> ?_⟩;obtain⟨m1,m2,m3,V,m5,m6,m7⟩:=H c o ea k O M;have d:c≠b:=fun l=>V i (l ▸ F);refine⟨?_,?_,m3,V,m5,by rw[ic];exact m6,m7⟩
  ·rw[World.cell?_of_block (w:=w) (other c d)];exact m1
  ·rw[World.frozen?_of_block (w:=w) (other c d)];exact m2
end Go.AW
namespace Go.AW
variable {P:Program} {G:Gh} {σ:AS} {w:World}
def Gh.fy (G:Gh) (r:OR):Gh:= { G with own:=fun j=>if j=G.top then some r else G.own j,top:=G.top+1 }
def Gh.M9 (G:Gh) (r:OR) (ht:G.own G.top=none):G.Le (G.fy r) where
 W0:=rfl
 B:=rfl
 mem _ _ _ h:=h
 inj _ _ h:=h
 own t d h:=by
  have:t≠G.top:=by intro e;subst e;rw[ht]at h;cases h
  exact⟨d,by simp[Gh.fy,this,h],rfl,.inl rfl⟩
def Inv.fy (h:Inv P G σ w) (a:Option (Nat×Nat)) (n:Nat) (e:TypeId) (ha:a=none→n=0):
 G.Le (G.fy ⟨a,n,n,e⟩)∧Inv P (G.fy ⟨a,n,n,e⟩) (σ.set G.top (.tok n)) w:=by
 have ht:=h.top _ (Nat.le_refl _);have hle:=G.M9 ⟨a,n,n,e⟩ ht.2;refine⟨hle,h.below,h.base,h.mem,?_,fun i b e=>⟨(h.dm i b e).1,(h.dm i b e).2.1,fun ty cs T=>(h.dm i b e).2.2 ty cs (by
  by_cases d:i=G.top
  ·subst d;simp[AS.set]at T
  ·simpa[AS.set,d]using T)⟩,h.fA,?_,?_,?_,?_,?_⟩
 ·intro i d;have:i≠G.top:=by simp[Gh.fy]at d;omega
  have:=h.top i (by simp[Gh.fy]at d;omega);simp[Gh.fy, *]
 ·intro i ty cs g;have d:i≠G.top:=by intro E;subst E;simp[AS.set]at g
  simp[AS.set,d]at g;obtain⟨b,vs,h1,u,y,H⟩:=h.cells i ty cs g;exact⟨b,vs,h1,u,y,fun k F=>⟨(H k F).1.mono hle,(H k F).2⟩⟩
 ·intro i es g;have d:i≠G.top:=by intro E;subst E;simp[AS.set]at g
  simp[AS.set,d]at g;obtain⟨b,ms,c,h1,u,y,H⟩:=h.maps i es g;refine⟨b,ms,c,h1,u,y,fun k F=> ?_⟩;obtain⟨m,k1,L,J⟩:=H k F;exact⟨m,k1,L.mono hle,J.mono hle⟩
 ·intro i s p g;have d:i≠G.top:=by intro E;subst E;simp[AS.set]at g;subst g;cases p
  simp[AS.set,d]at g;exact h.dQ i s p g
 ·intro i m g;by_cases d:i=G.top
  ·simp[AS.set,d]at g;subst g;exact⟨⟨a,n,n,e⟩,by simp[Gh.fy,d],rfl⟩
  ·simp[AS.set,d]at g;obtain⟨r,h1,u⟩:=h.tok i m g;exact⟨r,by simp[Gh.fy,d,h1],u⟩
 ·intro t r I;by_cases d:t=G.top
  ·simp[Gh.fy,d]at I;subst I;refine⟨Nat.le_refl _,ha,fun b o _ k q l=> ?_⟩;simp at q l;omega
  ·simp[Gh.fy,d]at I;obtain⟨h1,u,y⟩:=h.own t r I;refine⟨h1,u,fun b o ea k q l=> ?_⟩;obtain⟨k1,L,J,k4,k5,k6,Y⟩:=y b o ea k q l;refine⟨k1,L,J,k4,k5,k6,fun Q V X M j O=> ?_⟩;by_cases v:Q=G.top
   ·simp[Gh.fy,v]at j;subst j;exact Nat.le_refl _
   ·simp[Gh.fy,v]at j;exact Y Q V X M j O
def Gh.grow (G:Gh) (t:Nat) (r:OR) (b off n:Nat) (vs:Nat→Value):Gh:=
 { G.jQ b off n vs with own:=fun j=>if j=t then some r else G.own j }
def Gh.gX (G:Gh) (t:Nat) (r:OR):Gh:= { G with own:=fun j=>if j=t then some r else G.own j }
def Inv.gX (h:Inv P G σ w) (n:Nat) (d r:OR) (hr:G.own n=some r) (T:d.yc=r.yc) (hlen:d=r∨r.len<d.len) (av:d.len≤d.cap) (hn:d.a=none→d.cap=0)
 (O:∀b o,d.a=some (b,o)→ ∀k,d.len*P.cellsOf d.yc≤k→k<d.cap*P.cellsOf d.yc→
  (w.cell? ⟨b,o+k,none⟩).isSome=true∧w.frozen? ⟨b,o+k,none⟩=false∧G.mem b (o+k)=none∧(∀i,G.inj i≠some b)∧G.B≤b∧b<w.heap.size∧
  (∀t2 g I,t2≠n→G.own t2=some g→g.a=some (b,I)→g.cap*P.cellsOf g.yc≤g.len*P.cellsOf g.yc))
 (Q:∀t2 g b o,t2≠n→G.own t2=some g→g.a=some (b,o)→ ∀k,g.len*P.cellsOf g.yc≤k→k<g.cap*P.cellsOf g.yc→ ∀o',d.a=some (b,o')→d.cap*P.cellsOf d.yc≤d.len*P.cellsOf d.yc):
 G.Le (G.gX n d)∧Inv P (G.gX n d) (σ.set n (.tok d.len)) w:=by
 have hle:G.Le (G.gX n d):=by
  refine⟨rfl,rfl,fun _ _ _ e=>e,fun _ _ e=>e,fun t q e=> ?_⟩;by_cases ht:t=n
  ·subst ht;rw[hr]at e;obtain rfl:=Option.some.inj e;exact⟨d,by simp[Gh.gX],T,hlen⟩
  ·exact⟨q,by simp[Gh.gX,ht,e],rfl,.inl rfl⟩
 refine⟨hle,h.below,h.base,h.mem,?_,fun i b e=>⟨(h.dm i b e).1,(h.dm i b e).2.1,fun ty cs hn=>(h.dm i b e).2.2 ty cs (by
  by_cases j:i=n
  ·subst j;simp[AS.set]at hn
  ·simpa[AS.set,j]using hn)⟩,h.fA,?_,?_,?_,?_,?_⟩
 ·intro i j;have:=h.top i j;have u:i≠n:=by intro H;subst H;rw[hr]at this;cases this.2
  exact⟨this.1,by simp[Gh.gX,u,this.2]⟩
 ·intro i ty cs l;have j:i≠n:=by intro H;subst H;simp[AS.set]at l
  simp[AS.set,j]at l;obtain⟨b,vs,h1,F,V,h4⟩:=h.cells i ty cs l;exact⟨b,vs,h1,F,V,fun k hk=>⟨(h4 k hk).1.mono hle,(h4 k hk).2⟩⟩
 ·intro i es l;have j:i≠n:=by intro H;subst H;simp[AS.set]at l
  simp[AS.set,j]at l;obtain⟨b,ms,c,h1,F,V,h4⟩:=h.maps i es l;refine⟨b,ms,c,h1,F,V,fun k hk=> ?_⟩;obtain⟨m,k1,L,J⟩:=h4 k hk;exact⟨m,k1,L.mono hle,J.mono hle⟩
 ·intro i s p l;have j:i≠n:=by intro H;subst H;simp[AS.set]at l;subst l;cases p
  simp[AS.set,j]at l;exact h.dQ i s p l
 ·intro i m l;by_cases j:i=n
  ·subst j;simp[AS.set]at l;exact⟨d,by simp[Gh.gX],l⟩
  ·simp[AS.set,j]at l;obtain⟨q,h1,F⟩:=h.tok i m l;exact⟨q,by simp[Gh.gX,j,h1],F⟩
 ·intro t q X;by_cases j:t=n
  ·subst j;have:q=d:=by simp[Gh.gX]at X;exact X.symm
   subst this;refine⟨av,hn,fun b o ea k y v=> ?_⟩;obtain⟨k1,L,J,k4,k5,k6,k7⟩:=O b o ea k y v;exact⟨k1,L,J,k4,k5,k6,fun t2 g I u Y E=>k7 t2 g I u (by simpa[Gh.gX,u]using Y) E⟩
  ·simp[Gh.gX,j]at X;obtain⟨h1,F,V⟩:=h.own t q X;refine⟨h1,F,fun b o ea k y v=> ?_⟩;obtain⟨k1,L,J,k4,k5,k6,k7⟩:=V b o ea k y v;refine⟨k1,L,J,k4,k5,k6,fun t2 g I u Y E=> ?_⟩;by_cases M:t2=n
   ·subst M;have:g=d:=by simp[Gh.gX]at Y;exact Y.symm
    subst this;exact Q t q b o j X ea k y v I E
   ·exact k7 t2 g I u (by simpa[Gh.gX,M]using Y) E
def jS {i n j sz:Nat}(d:i<n) (g:j<sz):i*sz+j<n*sz:=by have:(i+1)*sz≤n*sz:=Nat.mul_le_mul_right _ d;rw[Nat.add_mul]at this;omega
def AD {i n j sz:Nat}(d:n≤i):n*sz≤i*sz+j:=by have:n*sz≤i*sz:=Nat.mul_le_mul_right _ d;omega
def aM {α:Type}(l r:List α) (d:α) {i:Nat}(h:i<l.length):(l++r).getD i d=l.getD i d:=by simp only[getD_eq_getElem?_getD,getElem?_append_left h]
def aU {α:Type}(l r:List α) (d:α) {i:Nat}(h:l.length≤i):(l++r).getD i d=r.getD (i-l.length) d:=by simp only[getD_eq_getElem?_getD,getElem?_append_right h]
def tE {d g:Nat}(h:g<d):Builtin.nextslicecap d g≤512∨4*Builtin.nextslicecap d g≤5*d+768:=by
 have i:∀(r c:Nat),c≤d→4*Builtin.growBy d r c≤5*d+768:=by
  intro r;induction r with
  |zero=>intro c l;simp[Builtin.growBy];omega
  |succ r j=>
   intro c l;simp only[Builtin.growBy];split
   ·omega
   ·by_cases n:c+(c+768)/4≤d
    ·exact j _ n
    ·cases r with
     |zero=>simp[Builtin.growBy];omega
     |succ r=>simp only[Builtin.growBy];rw[if_pos (by omega)];omega
 unfold Builtin.nextslicecap;split
 ·right;omega
 ·split
  ·left;omega
  ·right;exact i 4 g (by omega)
def nextslicecap_le {d g:Nat}(h:g<d):Builtin.nextslicecap d g≤2*d:=by
 have q:∀(r c:Nat),c≤d→Builtin.growBy d r c≤2*d+192:=by
  intro r;induction r with
  |zero=>intro c l;simp[Builtin.growBy];omega
  |succ r i=>
   intro c l;simp only[Builtin.growBy];split
   ·omega
   ·rename_i h1;by_cases n:c+(c+768)/4≤d
    ·exact i _ n
    ·cases r with
     |zero=>simp[Builtin.growBy];omega
     |succ r=>simp only[Builtin.growBy];rw[if_pos (by omega)];omega
 unfold Builtin.nextslicecap;split
 ·omega
 ·split
  ·omega
  ·rename_i h1 n;have j:∀(r c:Nat),256≤c→c≤d→Builtin.growBy d r c≤2*d:=by
    intro r;induction r with
    |zero=>intro c _ l;simp[Builtin.growBy];omega
    |succ r i=>
     intro c u l;simp only[Builtin.growBy];split
     ·omega
     ·by_cases o:c+(c+768)/4≤d
      ·exact i _ (by omega) o
      ·cases r with
       |zero=>simp[Builtin.growBy];omega
       |succ r=>simp only[Builtin.growBy];rw[if_pos (by omega)];omega
   exact j 4 g (by omega) (by omega)
def kr (b:Nat):Nat:=if b=1 then 140737488355328 else if b≤100000 then 220000000000000 else 140737488355328
def wu {d g b:Nat}(h:g<d) (i:d*b≤kr b):Builtin.nextslicecap d g*b≤281474976710656:=by
 have two:d*b≤140737488355328→Builtin.nextslicecap d g*b≤281474976710656:=by intro l;have j:Builtin.nextslicecap d g*b≤(2*d)*b:=Nat.mul_le_mul_right _ (nextslicecap_le h);rw[Nat.mul_assoc]at j;omega
 unfold kr at i;split at i
 ·exact two i
 ·split at i
  ·rename_i n;rcases tE h with h1|h1
   ·have j:Builtin.nextslicecap d g*b≤512*b:=Nat.mul_le_mul_right _ h1;omega
   ·have j:4*Builtin.nextslicecap d g*b≤(5*d+768)*b:=Nat.mul_le_mul_right _ h1;rw[Nat.add_mul,Nat.mul_assoc,Nat.mul_assoc]at j;omega
  ·exact two i
structure Dr (P:Program) (G:Gh) (e:TypeId) (xs:List AV) (news:List Value):Prop where
 len:news.length=xs.length*P.cellsOf e
 el:∀i,i<xs.length→(xs.getD i .any).cells.length=P.cellsOf e
 rep:∀i j,i<xs.length→j<P.cellsOf e→aV P G ((xs.getD i .any).cells.getD j .any) (news.getD (i*P.cellsOf e+j) undef)
def Dr.mono {G G':Gh}{e:TypeId}{xs:List AV}{news:List Value}(h:Dr P G e xs news) (hle:G.Le G'):Dr P G' e xs news:=
 ⟨h.len,h.el,fun i j g d=>(h.rep i j g d).mono hle⟩
def BW {G:Gh}{e:TypeId}{elems xs:List AV}{news:List Value}(vs:Nat→Value)
 (hl:∀i,i<elems.length→(elems.getD i .any).cells.length=P.cellsOf e)
 (n:∀i j,i<elems.length→j<P.cellsOf e→aV P G ((elems.getD i .any).cells.getD j .any) (vs (i*P.cellsOf e+j)))
 (l:Dr P G e xs news):
 (∀i,i<(elems++xs).length→((elems++xs).getD i .any).cells.length=P.cellsOf e)∧
 (∀i j,i<(elems++xs).length→j<P.cellsOf e→aV P G (((elems++xs).getD i .any).cells.getD j .any)
  ((fun k=>if k<elems.length*P.cellsOf e then vs k else news.getD (k-elems.length*P.cellsOf e) undef) (i*P.cellsOf e+j))):=by
 constructor
 ·intro i g;by_cases h:i<elems.length
  ·rw[aM _ _ _ h];exact hl i h
  ·rw[aU _ _ _ (by omega)];exact l.el _ (by simp at g;omega)
 ·intro i j g d;by_cases h:i<elems.length
  ·rw[aM _ _ _ h];simp only;rw[if_pos (jS h d)];exact n i j h d
  ·rw[aU _ _ _ (by omega)];simp only;rw[if_neg (by have:=AD (j:=j) (sz:=P.cellsOf e) (Nat.le_of_not_lt h);omega)];have:=l.rep (i-elems.length) j (by simp at g;omega) d;have o:i*P.cellsOf e+j-elems.length*P.cellsOf e=(i-elems.length)*P.cellsOf e+j:=by have q:elems.length*P.cellsOf e≤i*P.cellsOf e:=Nat.mul_le_mul_right _ (by omega);rw[Nat.sub_mul];omega
   rw[o];exact this
def aV.Eg {G:Gh}{e:TypeId}{elems:List AV}{own:cC}{b off cap n:Nat}(vs:Nat→Value) (h:elems.length=n)
 (hl:∀i,i<elems.length→(elems.getD i .any).cells.length=P.cellsOf e)
 (hm:∀k,k<n*P.cellsOf e→G.mem b (off+k)=some (vs k))
 (d:∀i j,i<elems.length→j<P.cellsOf e→aV P G ((elems.getD i .any).cells.getD j .any) (vs (i*P.cellsOf e+j)))
 (l:n≤cap) (g:xW G own e n (.slice (some ⟨b,off,none⟩) n cap)):aV P G (.ao e elems own false) (.slice (some ⟨b,off,none⟩) n cap):=by
 subst h;exact .ao vs hl hm d l g
structure TU (P:Program) (i:TypeInfo) (tx:TypeId) (x:Value) (n:Nat) (news:List Value):Prop where
 kind:∃k,P.underlying tx=some (.int k)
 val:∃k,x= .int k n
 small:n≤1000000∧i.bytes≤1000
 zero:∃z,i.zero=some z∧news=(if n*i.size=0 then []else(Builtin.zeroCells z.cells n).toList)
 newsLen:news.length=n*i.size
 one:∀u∈news,u.oneCell'=true
def Fa (P:Program) (e:TypeId) (d:TypeId) (x:Value) (n:Nat) (news:List Value) (w:World):Prop:=
 Src P (P.cellsOf e) d x n news w∨ ∃i,P.info? e=some i∧TU P i d x n news
def Fa.one {e d:TypeId}{x:Value}{n:Nat}{news:List Value}(h:Fa P e d x n news w):∀u∈news,u.oneCell'=true:=by
 rcases h with h|⟨_,_,h⟩
 ·exact h.one
 ·exact h.one
def wrap_small {n:Nat}(h:n≤1000000):IntKind.i64.wrap (n:Int)=n:=by simp[IntKind.wrap,IntKind.bits,IntKind.signed];split<;>omega
def Dh {t u ty e:TypeId}{i:TypeInfo}(ht:P.underlying t=some (.slice e)) (l:P.info? e=some i) {x:Value}(h:Fa P e u x 0 [] w):
 (Builtin.append_ #[t,u] ty #[.slice none 0 0,x]).run P w= .ok (.slice none 0 0) w:=by
 rcases h with h|⟨v,g,h⟩
 ·have d:i.size=P.cellsOf e:=by simp[Program.cellsOf,l]
  rw[←d]at h;have o:∀w',(Builtin.lenOf x).run P w'= .ok 0 w':=h.len;have q:(Builtin.firstCells i.size 0 x).run P w= .ok #[] w:=h.cells;rcases h.kind with⟨y,j⟩|j<;>simp[Builtin.append_,run_underlying ht,run_underlying j,sizeOf,typeInfo,l,o,q]
 ·rw[l]at g;obtain rfl:=Option.some.inj g;obtain⟨k,j⟩:=h.kind;obtain⟨k',rfl⟩:=h.val;have hw:=wrap_small (n:=0) (by omega);simp only[Int.natCast_zero]at hw;simp[Builtin.append_,run_underlying ht,run_underlying j,sizeOf,typeInfo,l,asInt,asIntOf,hw]
def Di (w:World) (t H ty e:TypeId) (i:TypeInfo) (ht:P.underlying t=some (.slice e)) (F:P.info? e=some i) (b off d l:Nat) (x:Value) (n:Nat) (news:List Value) (o:Fa P e H x n news w)
 (h:d+n≤l) (J:∀j,j<news.length→(w.cell? ⟨b,off+d*i.size+j,none⟩).isSome=true) (hf:∀j,j<news.length→w.frozen? ⟨b,off+d*i.size+j,none⟩=false):
 (Builtin.append_ #[t,H] ty #[.slice (some ⟨b,off,none⟩) d l,x]).run P w= .ok (.slice (some ⟨b,off,none⟩) (d+n) l) (w.setCells b (off+d*i.size) news):=by
 rcases o with o|⟨M,E,o⟩
 ·have y:i.size=P.cellsOf e:=by simp[Program.cellsOf,F]
  rw[←y]at o;exact run_append_room_src w t H ty e i ht F b off d l x n news o h J hf
 ·rw[F]at E;obtain rfl:=Option.some.inj E;have v:=run_storeCells_cells (P:=P) b (off+d*i.size) news 0 w (by simpa using J) (by simpa using hf) o.one;simp only[Nat.add_zero]at v;obtain⟨k,I⟩:=o.kind;obtain⟨k',rfl⟩:=o.val;obtain⟨z,L,g⟩:=o.zero;have hw:=wrap_small o.small.1;have q:¬((n:Int)<0):=by omega
  have u:¬((281474976710656:Int)<(n:Int)*(i.bytes:Int)):=by
   have h1:n*i.bytes≤1000000*1000:=Nat.mul_le_mul o.small.1 o.small.2;have O:((n:Int)*(i.bytes:Int))=((n*i.bytes:Nat):Int):=by push_cast;rfl
   omega
  by_cases h0:n*i.size=0
  ·rw[if_pos h0]at g;subst g;simp[Builtin.append_,run_underlying ht,run_underlying I,sizeOf,typeInfo,F,asInt,asIntOf,hw,q,u,h,h0,Addr.add_lit,v]
  ·rw[if_neg h0]at g;subst g;simp[Builtin.append_,run_underlying ht,run_underlying I,sizeOf,typeInfo,zeroValue,L,F,asInt,asIntOf,hw,q,u,h,h0,Addr.add_lit,v]
def xP (w:World) (t L ty e:TypeId) (i:TypeInfo) (z:Value) (ht:P.underlying t=some (.slice e)) (H:P.info? e=some i) (J:i.zero=some z) (base:Option Addr) (d g:Nat) (j:List Value)
 (hold:(Builtin.firstCells i.size d (.slice base d g)).run P w.drew= .ok j.toArray w.drew) (x:Value) (n:Nat) (news:List Value) (l:Fa P e L x n news w)
 (T:g<d+n) (M:((d+n:Nat):Int)≤9223372036854775807) (I:Builtin.nextslicecap (d+n) g*i.bytes≤281474976710656):
 (Builtin.append_ #[t,L] ty #[.slice base d g,x]).run P w=
  .ok (.slice (some ⟨w.heap.size,0,none⟩) (d+n) (grownCap w (d+n) g e))
   (w.drew.alloc (.cells ((j++news).toArray++Builtin.zeroCells z.cells (grownCap w (d+n) g e-(d+n))) e)):=by
 rcases l with l|⟨X,F,l⟩
 ·have y:i.size=P.cellsOf e:=by simp[Program.cellsOf,H]
  rw[←y]at l;exact run_append_grow_src w t L ty e i z ht H J base d g j hold x n news l T M I
 ·rw[H]at F;obtain rfl:=Option.some.inj F;obtain⟨k,Q⟩:=l.kind;obtain⟨k',rfl⟩:=l.val;obtain⟨V,E,h⟩:=l.zero;rw[J]at E;obtain rfl:=Option.some.inj E;have hw:=wrap_small l.small.1;have o:¬((n:Int)<0):=by omega
  have q:¬((281474976710656:Int)<(n:Int)*(i.bytes:Int)):=by
   have h1:n*i.bytes≤1000000*1000:=Nat.mul_le_mul l.small.1 l.small.2;have Y:((n:Int)*(i.bytes:Int))=((n*i.bytes:Nat):Int):=by push_cast;rfl
   omega
  have O:¬(d+n≤g):=by omega
  have u:¬(9223372036854775807<((d:Int)+(n:Int))):=by omega
  have v:¬(281474976710656<Builtin.nextslicecap (d+n) g*i.bytes):=by omega
  by_cases h0:n*i.size=0
  ·rw[if_pos h0]at h;subst h;simp[Builtin.append_,run_underlying ht,run_underlying Q,sizeOf,typeInfo,zeroValue,H,J,asInt,asIntOf,hw,o,q,O,u,v,h0,Question.forced,hold,newRow,grownCap]
  ·rw[if_neg h0]at h;subst h;simp[Builtin.append_,run_underlying ht,run_underlying Q,sizeOf,typeInfo,zeroValue,H,J,asInt,asIntOf,hw,o,q,O,u,v,h0,Question.forced,hold,newRow,grownCap];congr 2;apply Array.ext';simp[append_assoc]
def Inv.append (h:Inv P G σ w) {t tx ty e:TypeId}{i:TypeInfo}{z:Value}(ht:P.underlying t=some (.slice e)) (hi:P.info? e=some i) (hz:i.zero=some z) (e7:z.cells.size=P.cellsOf e) (e9:0<P.cellsOf e)
 {I:Nat} {elems:List AV} {nil:Bool} {v x:Value} (hv:aV P G (.ao e elems (.tok I) nil) v) (c0:σ I=some (.tok elems.length))
 {xs:List AV} {news:List Value} (X:Fa P e tx x xs.length news w) (hn:Dr P G e xs news)
 (c2:(elems.length+xs.length)*P.bytesOf e≤kr (P.bytesOf e)) (f5:elems.length+xs.length≤140737488355328):
 ∃v' w' G',(Builtin.append_ #[t,tx] ty #[v,x]).run P w= .ok v' w'∧G.Le G'∧Inv P G' (σ.set I (.tok (elems.length+xs.length))) w'∧
  aV P G' (.ao e (elems++xs) (.tok I) (nil&&xs.isEmpty)) v':=by
 have M:i.size=P.cellsOf e:=by simp[Program.cellsOf,hi]
 have cc:i.bytes=P.bytesOf e:=by simp[Program.bytesOf,hi]
 have f3:((elems.length+xs.length:Nat):Int)≤9223372036854775807:=by omega
 have b5:∀cj,cj<elems.length+xs.length→Builtin.nextslicecap (elems.length+xs.length) cj*i.bytes≤281474976710656:=by intro cj ho;rw[cc];exact wu ho c2
 have d7:∃(a:Option (Nat×Nat)) (cap:Nat) (vs:Nat→Value),v= .slice (a.map fun p=>⟨p.1,p.2,none⟩) elems.length cap∧(a=none→elems= []∧cap=0)∧(nil=true↔a=none)∧
  (∀i,i<elems.length→(elems.getD i .any).cells.length=P.cellsOf e)∧
  (∀b off,a=some (b,off)→ ∀k,k<elems.length*P.cellsOf e→G.mem b (off+k)=some (vs k))∧
  (∀i j,i<elems.length→j<P.cellsOf e→aV P G ((elems.getD i .any).cells.getD j .any) (vs (i*P.cellsOf e+j)))∧
  elems.length≤cap∧xW G (.tok I) e elems.length v:=by
  cases hv with
  |iP ho=>exact⟨none,0,fun _ =>undef,rfl,fun _ =>⟨rfl,rfl⟩,(by simp),(fun i hi=>(by simp at hi)),(fun _ _ hh=>(by cases hh)),(fun i j hi=>(by simp at hi)),Nat.le_refl _,ho⟩
  |ao vs hl hm hr hc ho=>exact⟨some (_,_),_,vs,rfl,(fun hh=>(by cases hh)),(by simp),hl,(fun b off hh k hk=>(by cases hh;exact hm k hk)),hr,hc,ho⟩
 obtain⟨a,cap,vs,rfl,al,ce,hl,hm,hr,hc,r,Y,a6,gI,fa⟩:=d7;obtain⟨r',d9,c3⟩:=h.tok I _ c0;rw[Y]at d9;obtain rfl:=Option.some.inj d9;have bv:=fa c3.symm;have a0:r.a=a∧r.cap=cap:=by
  simp only[OR.val,Value.slice.injEq]at bv;refine⟨?_,bv.2.2⟩;have:=bv.1;cases ha:r.a<;>cases hb:a<;>simp[ha,hb]at this
  ·rfl
  ·rename_i p q;obtain⟨e1,e2⟩:=this;congr 1;exact Prod.ext e1 e2
 obtain⟨fd,fb,g⟩:=h.own I r Y;rw[a0.1,a0.2,c3,a6]at g;by_cases a2:elems.length+xs.length≤cap
 ·cases ha:a with
  |none=>
   obtain⟨h1,h2⟩:=al ha;have bs:xs= []:=by(have:xs.length=0:=by omega);exact length_eq_zero_iff.1 this
   subst h1 h2 bs;have c7:news= []:=by have:=hn.len;simp at this;exact this
   subst c7;have E:(Builtin.append_ #[t,tx] ty #[.slice none 0 0,x]).run P w= .ok (.slice none 0 0) w:=Dh ht hi X;refine⟨_,_,G,E,.refl G,?_,?_⟩
   ·have:σ.set I (.tok 0)=σ:=AS.DP _ _ _ (by simpa using c0);simpa[this]using h
   ·have:nil=true:=ce.2 ha;subst this;exact .iP ⟨r,Y,a6,by omega,fun _ =>by rw[bv];simp[ha]⟩
  |some p=>
   obtain⟨b,off⟩:=p;subst ha;have am:news.length=xs.length*P.cellsOf e:=hn.len;have F:∀j,j<news.length→elems.length*P.cellsOf e+j<cap*P.cellsOf e:=by intro j L;have:(elems.length+xs.length)*P.cellsOf e≤cap*P.cellsOf e:=Nat.mul_le_mul_right _ a2;rw[Nat.add_mul]at this;omega
   have E:=Di (P:=P) w t tx ty e i ht hi b off elems.length cap x xs.length news X a2
    (fun j L=>by have:=(g b off rfl (elems.length*P.cellsOf e+j) (by omega) (F j L)).1;rw[M,Nat.add_assoc];exact this)
    (fun j L=>by have:=(g b off rfl (elems.length*P.cellsOf e+j) (by omega) (F j L)).2.1;rw[M,Nat.add_assoc];exact this)
   rw[M]at E;have c5:nil=false:=by
    cases nil with
    |false=>rfl
    |true=>have:=ce.1 rfl;cases this
   subst c5;by_cases bs:xs= []
   ·subst bs;have c7:news= []:=by have:=hn.len;simp at this;exact this
    subst c7;refine⟨_,_,G,E,.refl G,?_,?_⟩
    ·have:σ.set I (.tok (elems.length+0))=σ:=AS.DP _ _ _ (by simpa using c0);show Inv P G (σ.set I (.tok (elems.length+0))) w;rw[this];exact h
    ·simp only[append_nil,length_nil,Nat.add_zero,Bool.false_and];exact .ao vs hl (hm b off rfl) hr hc ⟨r,Y,a6,by omega,fun _ =>bv⟩
   ·have bf:0<xs.length:=length_pos_iff.2 bs;have af:0<news.length:=by rw[am];exact Nat.mul_pos bf e9
    obtain⟨_,_,_,T,f0,gS,e8⟩:=g b off rfl (elems.length*P.cellsOf e) (Nat.le_refl _) (by have:=F 0 af;omega)
    let G':=G.grow I ⟨some (b,off),elems.length+xs.length,cap,e⟩ b (off+elems.length*P.cellsOf e) news.length (fun k=>news.getD k undef)
    have a7:∀k,elems.length*P.cellsOf e≤k→k<cap*P.cellsOf e→G.mem b (off+k)=none:=fun k h1 h2=>(g b off rfl k h1 h2).2.2.1;have hle:G.Le G':=by
     refine⟨rfl,rfl,fun b' o v em=> ?_,fun _ _ hh=>hh,fun t' r' et=> ?_⟩
     ·show(if b'=b∧off+elems.length*P.cellsOf e≤o∧o<off+elems.length*P.cellsOf e+news.length then _ else G.mem b' o)=some v;rw[if_neg]
      ·exact em
      ·rintro⟨rfl,h1,h2⟩;have:=a7 (o-off) (by omega) (by have:=F (o-off-elems.length*P.cellsOf e) (by omega);omega);rw[show off+(o-off)=o by omega,em]at this;cases this
     ·by_cases a5:t'=I
      ·subst a5;rw[Y]at et;obtain rfl:=Option.some.inj et;exact⟨⟨some (b,off),elems.length+xs.length,cap,e⟩,by simp[G',Gh.grow],a6.symm,.inr (by simp;omega)⟩
      ·exact⟨r',by simp[G',Gh.grow,a5,et],rfl,.inl rfl⟩
    have y:=kV b news w (off+elems.length*P.cellsOf e);have n:∀c o,(c=b→o<off+elems.length*P.cellsOf e∨off+elems.length*P.cellsOf e+news.length≤o)→(w.setCells b (off+elems.length*P.cellsOf e) news).cell? ⟨c,o,none⟩=w.cell? ⟨c,o,none⟩:=
     fun c o fw=>World.cell?_setCells_out b news _ w ⟨c,o,none⟩ (fun hb _ =>fw hb)
    refine⟨_,_,G',E,hle,?_,?_⟩
    ·refine⟨qe b news w _ h.below f0,h.base,?_,?_,?_,h.fA,?_,?_,?_,?_,?_⟩
     ·intro b' o v em;by_cases db:b'=b∧off+elems.length*P.cellsOf e≤o∧o<off+elems.length*P.cellsOf e+news.length
      ·have cd:some (news.getD (o-(off+elems.length*P.cellsOf e)) undef)=some v:=by have:G'.mem b' o=some (news.getD (o-(off+elems.length*P.cellsOf e)) undef):=if_pos db;rw[←this];exact em
       obtain rfl:=Option.some.inj cd;obtain⟨rfl,h1,h2⟩:=db;have ei:=World.cell?_setCells_in b' news (off+elems.length*P.cellsOf e) w (fun j L=>by have:=(g b' off rfl (elems.length*P.cellsOf e+j) (by omega) (F j L)).1;rw[Nat.add_assoc];exact this) (o-(off+elems.length*P.cellsOf e)) (by omega);rw[show off+elems.length*P.cellsOf e+(o-(off+elems.length*P.cellsOf e))=o by omega]at ei;have eg:news.getD (o-(off+elems.length*P.cellsOf e)) undef=news[o-(off+elems.length*P.cellsOf e)]'(by omega):=by simp[getD_eq_getElem?_getD,getElem?_eq_getElem (show o-(off+elems.length*P.cellsOf e)<news.length by omega)]
       rw[eg];exact⟨ei,X.one _ (getElem_mem _)⟩
      ·have cd:G.mem b' o=some v:=by have:G'.mem b' o=G.mem b' o:=if_neg db;rw[←this];exact em
       refine⟨?_,(h.mem b' o v cd).2⟩;rw[n b' o (fun hb=>by subst hb;omega)];exact(h.mem b' o v cd).1
     ·intro j L;have:=h.top j L;have c6:j≠I:=by intro e';subst e';rw[Y]at this;cases this.2
      exact⟨this.1,by simp[G',Gh.grow,c6,this.2]⟩
     ·intro j c J;have:=h.dm j c J;refine⟨this.1,by rw[ic];exact this.2.1,fun ci cs' hn o=> ?_⟩;have H:c≠b:=fun e'=>T j (e' ▸ J);show(if c=b∧ _ then _ else G.mem c o)=none;rw[if_neg (fun hh=>H hh.1)];exact this.2.2 ci cs' (by
       by_cases L:j=I
       ·subst L;simp[AS.set]at hn
       ·simpa[AS.set,L]using hn) o
     ·intro j ci cs J;have Q:j≠I:=by intro e';subst e';simp[AS.set]at J
      simp[AS.set,Q]at J;obtain⟨c,e3,k1,k2,k3,k4⟩:=h.cells j ci cs J;have H:c≠b:=fun e'=>T j (e' ▸ k1);exact⟨c,e3,k1,by rw[y c H];exact k2,k3,fun k hk=>⟨(k4 k hk).1.mono hle,(k4 k hk).2⟩⟩
     ·intro j es J;have Q:j≠I:=by intro e';subst e';simp[AS.set]at J
      simp[AS.set,Q]at J;obtain⟨c,ms,cl,k1,k2,k3,k4⟩:=h.maps j es J;have H:c≠b:=fun e'=>T j (e' ▸ k1);refine⟨c,ms,cl,k1,by rw[y c H];exact k2,k3,fun k hk=> ?_⟩;obtain⟨m,m1,m2,m3⟩:=k4 k hk;exact⟨m,m1,m2.mono hle,m3.mono hle⟩
     ·intro j s p J;have Q:j≠I:=by intro e';subst e';simp[AS.set]at J;subst J;cases p
      simp[AS.set,Q]at J;obtain⟨c,k1,k2⟩:=h.dQ j s p J;have H:c≠b:=fun e'=>T j (e' ▸ k1);exact⟨c,k1,k2.jQ (fun _ _ h=>h) (fun o ho=>by rw[y c H];exact ho) (fun m ms cl ec=>by rw[y m (fun e=>by subst e;have q:=(g _ off rfl (elems.length*P.cellsOf _ +0) (by omega) (F 0 af)).1;simp[World.cell?,ec]at q)];exact ec)⟩
     ·intro j m J;by_cases Q:j=I
      ·subst Q;simp[AS.set]at J;exact⟨⟨some (b,off),elems.length+xs.length,cap,e⟩,by simp[G',Gh.grow],J⟩
      ·simp[AS.set,Q]at J;obtain⟨r',k1,k2⟩:=h.tok j m J;exact⟨r',by simp[G',Gh.grow,Q,k1],k2⟩
     ·intro t' r' et;by_cases a5:t'=I
      ·subst a5;have:r'=⟨some (b,off),elems.length+xs.length,cap,e⟩:=by simp[G',Gh.grow]at et;exact et.symm
       subst this;refine⟨a2,fun hh=>(by cases hh),fun c o ea k ab l=> ?_⟩;cases ea;simp only at ab l;have f6:elems.length*P.cellsOf e+news.length≤k:=by rw[am,←Nat.add_mul];exact ab
       obtain⟨q1,q2,q3,q4,q5,q6,q7⟩:=g b off rfl k (by omega) l;refine⟨?_,?_,?_,q4,q5,by rw[ic];exact q6,fun t2 r2 o2 a1 av V=> ?_⟩
       ·rw[n b _ (fun _ =>by omega)];exact q1
       ·rw[World.frozen?_setCells];exact q2
       ·show(if b=b∧ _ then _ else G.mem b (off+k))=none;rw[if_neg (by omega)];exact q3
       ·simp[G',Gh.grow,a1]at av;exact q7 t2 r2 o2 a1 av V
      ·simp[G',Gh.grow,a5]at et;obtain⟨k1,k2,k3⟩:=h.own t' r' et;refine⟨k1,k2,fun c o ea k ab l=> ?_⟩;obtain⟨q1,q2,q3,q4,q5,q6,q7⟩:=k3 c o ea k ab l;have H:c≠b:=by intro e';subst e';have:=q7 I r off (fun h=>a5 h.symm) Y (by rw[a0.1]);rw[a0.2,c3,a6]at this;have:=F 0 af;omega
       refine⟨?_,?_,?_,q4,q5,by rw[ic];exact q6,fun t2 r2 o2 a1 av V=> ?_⟩
       ·rw[n c _ (fun hb=>absurd hb H)];exact q1
       ·rw[World.frozen?_setCells];exact q2
       ·show(if c=b∧ _ then _ else G.mem c (o+k))=none;rw[if_neg (fun hh=>H hh.1)];exact q3
       ·by_cases d8:t2=I
        ·subst d8;simp[G',Gh.grow]at av;subst av;simp only[Option.some.injEq,Prod.mk.injEq]at V;exact absurd V.1.symm H
        ·simp[G',Gh.grow,d8]at av;exact q7 t2 r2 o2 a1 av V
    ·have L:=BW (P:=P) (G:=G') (e:=e) vs hl (fun i j h1 h2=>(hr i j h1 h2).mono hle) (hn.mono hle);have ck:xs.isEmpty=false:=by simp[bs]
     rw[Bool.false_and];have O:(elems++xs).length=elems.length+xs.length:=length_append;rw[←O];refine .ao (fun k=>if k<elems.length*P.cellsOf e then vs k else news.getD (k-elems.length*P.cellsOf e) undef) L.1 (fun k hk=> ?_) L.2 (by omega) ⟨⟨some (b,off),elems.length+xs.length,cap,e⟩,by simp[G',Gh.grow],rfl,by simp,fun _ =>by simp[OR.val]⟩;rw[O,Nat.add_mul,←am]at hk;show(if b=b∧ _ then _ else G.mem b (off+k))= _;by_cases l:k<elems.length*P.cellsOf e
     ·rw[if_neg (by omega),if_pos l];exact hm b off rfl k l
     ·rw[if_pos (by omega),if_neg l];congr 2;omega
 ·have ck:xs.isEmpty=false:=by
   cases xs with
   |nil=>simp at a2;omega
   |cons _ _ =>rfl
  let d:=(List.range (elems.length*P.cellsOf e)).map vs
  have a8:d.length=elems.length*P.cellsOf e:=by simp[d]
  have hold:(Builtin.firstCells i.size elems.length (.slice (a.map fun p=>⟨p.1,p.2,none⟩) elems.length cap)).run P w.drew= .ok d.toArray w.drew:=by
   cases ha:a with
   |none=>obtain⟨h1,h2⟩:=al ha;subst h1 h2;simp[d,Builtin.firstCells]
   |some p=>
    obtain⟨b,off⟩:=p;subst ha;refine run_firstCells_some (P:=P) w.drew i.size elems.length ⟨b,off,none⟩ elems.length cap d (by rw[M];exact a8) (fun j u hu=> ?_);have L:j<elems.length*P.cellsOf e:=by
     rcases Nat.lt_or_ge j (elems.length*P.cellsOf e)with h1|h1
     ·exact h1
     ·rw[getElem?_eq_none (by rw[a8];exact h1)]at hu;cases hu
    have:u=vs j:=by
     have:d[j]? =some (vs j):=by simp[d,L]
     rw[this]at hu;exact(Option.some.inj hu).symm
    subst this;rw[Addr.add_lit];exact(h.mem b (off+j) (vs j) (hm b off rfl j L)).1
  have E:=xP (P:=P) w t tx ty e i z ht hi hz (a.map fun p=>⟨p.1,p.2,none⟩) elems.length cap d hold x xs.length news X (by omega) f3 (b5 cap (by omega));have a3:=grownCap_ge w (elems.length+xs.length) cap e
  let nv:Nat→Value:=fun k=>if k<elems.length*P.cellsOf e then vs k else news.getD (k-elems.length*P.cellsOf e) undef
  let nc:=grownCap w (elems.length+xs.length) cap e
  let row:Array Value:=(d++news).toArray++Builtin.zeroCells z.cells (nc-(elems.length+xs.length))
  have b3:(d++news).length=(elems.length+xs.length)*P.cellsOf e:=by rw[length_append,a8,hn.len,Nat.add_mul]
  have fe:∀k,k<(elems.length+xs.length)*P.cellsOf e→(d++news)[k]? =some (nv k):=by
   intro k hk;by_cases h1:k<elems.length*P.cellsOf e
   ·rw[getElem?_append_left (by rw[a8];exact h1)];simp[d,nv,h1]
   ·rw[getElem?_append_right (by rw[a8];omega),a8];have:k-elems.length*P.cellsOf e<news.length:=by rw[hn.len];rw[Nat.add_mul]at hk;omega
    simp[nv,h1,getD_eq_getElem?_getD,getElem?_eq_getElem this]
  have b0:∀k,k<(elems.length+xs.length)*P.cellsOf e→row[k]? =some (nv k)∧(nv k).oneCell'=true:=by
   intro k hk;constructor
   ·show((d++news).toArray++ _)[k]? = _;rw[Array.getElem?_append_left (by rw[size_toArray,b3];exact hk),getElem?_toArray];exact fe k hk
   ·by_cases h1:k<elems.length*P.cellsOf e
    ·simp only[nv,if_pos h1];cases ha:a with
     |none=>obtain⟨h2,_⟩:=al ha;subst h2;simp at h1
     |some p=>obtain⟨b,off⟩:=p;exact(h.mem b (off+k) (vs k) (hm b off ha k h1)).2
    ·simp only[nv,if_neg h1];have:k-elems.length*P.cellsOf e<news.length:=by rw[hn.len];rw[Nat.add_mul]at hk;omega
     rw[getD_eq_getElem?_getD,getElem?_eq_getElem this];exact X.one _ (getElem_mem _)
  have c1:(elems.length+xs.length)*P.cellsOf e≤row.size:=by show _ ≤(((d++news).toArray++ _ :Array Value)).size;rw[Array.size_append,size_toArray,b3];omega
  have ca:row.size=nc*P.cellsOf e:=by show(((d++news).toArray++ _ :Array Value)).size= _;rw[Array.size_append,size_toArray,b3,size_zeroCells,e7,←Nat.add_mul];congr 1;show _ +(grownCap w (elems.length+xs.length) cap e- _)=grownCap w (elems.length+xs.length) cap e;omega
  obtain⟨ch,c9⟩:G.Le (G.jQ w.heap.size 0 ((elems.length+xs.length)*P.cellsOf e) nv)∧Inv P (G.jQ w.heap.size 0 ((elems.length+xs.length)*P.cellsOf e) nv) σ (w.drew.alloc (.cells row e)):=
   h.drew.Gd e row ((elems.length+xs.length)*P.cellsOf e) nv c1 b0
  have bf:0<xs.length:=by
   cases xs with
   |nil=>simp at ck
   |cons _ _ =>simp
  obtain⟨b4,c8⟩:=c9.gX I ⟨some (w.heap.size,0),elems.length+xs.length,nc,e⟩ r Y a6.symm (.inr (by simp;omega)) a3 (fun hh=>by cases hh)
   (fun b o ea k ab l=>by
    cases ea;simp only[Nat.zero_add]at ab l⊢;have ft:k<row.size:=by rw[ca];exact l
    refine⟨?_,?_,?_,?_,h.LL,by simp,?_⟩
    ·simp only[World.cell?,show w.heap.size=w.drew.heap.size from rfl,heap_alloc_new];simp[ft]
    ·simp only[World.frozen?,show w.heap.size=w.drew.heap.size from rfl,heap_alloc_new];simp
    ·rw[Gh.eS (by omega)];cases fi:G.mem w.heap.size k with
     |none=>rfl
     |some v=>have:=h.Co fi;omega
    ·intro j J;have:=(h.dm j _ J).2.1;omega
    ·intro t' r' o' c6 et V;obtain⟨q1,q2,q3⟩:=h.own t' r' et;rcases Nat.lt_or_ge (r'.len*P.cellsOf r'.yc) (r'.cap*P.cellsOf r'.yc)with fk|fv
     ·have:=(q3 _ _ V _ (Nat.le_refl _) fk).2.2.2.2.2.1;omega
     ·exact fv)
   (fun t2 r2 b2 o2 c6 et ea k ab l o' V=>by cases V;have:=((h.own t2 r2 et).2.2 _ _ ea k ab l).2.2.2.2.2.1;omega)
  refine⟨_,_,_,E,ch.trans b4,c8,?_⟩;have hle:=ch.trans b4;have L:=BW (P:=P) (G:= _) (e:=e) vs hl (fun i j h1 h2=>(hr i j h1 h2).mono hle) (hn.mono hle);rw[ck,Bool.and_false];have O:(elems++xs).length=elems.length+xs.length:=length_append;refine aV.Eg nv O L.1 (fun k hk=> ?_) L.2 a3
   ⟨⟨some (w.heap.size,0),elems.length+xs.length,nc,e⟩,by simp[Gh.gX],rfl,by simp,fun _ =>by simp[OR.val,nc]⟩
  refine b4.mem _ _ _ ?_;rw[Gh.lh (by omega) (by omega)];simp
end Go.AW
namespace Go.AW
variable {P:Program} {G:Gh} {σ:AS} {w:World}
abbrev Fr:=Nat→AV
def Fr.put (s:Fr) (d:Option Nat) (v:AV):Fr:=match d with|none=>s|some d=>fun i=>if i=d then v else s i
def MY:Value→AV
 |.slice none 0 0=> .ai
 |v=> .sc v
def FW:Value→AV
 |.slice none 0 0=> .ai
 |.agg cs=> .agg (cs.toList.map MY)
 |v=> .sc v
def Jm (v:Value):aV P G (MY v) v:=by
 unfold MY;split
 ·exact .ai
 ·exact .sc _
def gn (v:Value):aV P G (FW v) v:=by
 unfold FW;split
 ·exact .ai
 ·rename_i cs;have:=aV.agg (P:=P) (G:=G) (cells:=cs.toList.map MY) cs.toList (by simp) (fun i d=>by simp at d;simp[d];exact Jm _);simpa using this
 ·exact .sc _
def ev (s:Fr):Operand→AV
 |.tmp t=>s t
 |.const v=>FW v
 |.global _ => .any
 |.func f=> .sc (.func (.func f) #[] #[])
structure oS (P:Program) (G:Gh) (n:Nat) (ds:List Deferred) (s:Fr) (σ:AS) (a:Act) (w:World):Prop where
 inv:Inv P G σ w
 size:a.tmps.size=n
 ds:a.defers=ds
 rep:∀i,aV P G (s i) (a.tmps.getD i undef)
def oS.ev {n:Nat}{ds:List Deferred}{s:Fr}{a:Act}(h:oS P G n ds s σ a w) (x:Operand):aV P G (ev s x) (a.eval x):=by
 cases x with
 |tmp t=>exact h.rep t
 |const v=>exact gn v
 |global g=>exact .any _
 |func f=>exact .sc _
def oS.put {n:Nat}{ds:List Deferred}{s:Fr}{a:Act}{G':Gh}{j:AS}{w':World}(h:oS P G n ds s σ a w) (hle:G.Le G') (l:Inv P G' j w') (d:Option Nat) (hd:∀t,d=some t→t<n)
 {v:AV} {x:Value} (o:aV P G' v x):oS P G' n ds (s.put d v) j (a.put d x) w':=by
 cases d with
 |none=>exact⟨l,h.size,h.ds,fun i=>(h.rep i).mono hle⟩
 |some t=>
  have ht:=hd t rfl;refine⟨l,by simp[Act.put,h.size],h.ds,fun i=> ?_⟩;by_cases g:i=t
  ·subst g;have:i<a.tmps.size:=by rw[h.size];exact ht
   simp[Fr.put,Act.put,this];exact o
  ·simp only[Fr.put,Act.put,g,if_false];have:(a.tmps.setIfInBounds t x).getD i undef=a.tmps.getD i undef:=by simp[Array.getElem?_setIfInBounds_ne (fun e=>g e.symm)]
   rw[this];exact(h.rep i).mono hle
def Out (P:Program) (G:Gh) (K Pn:AV→AS→Prop):Result Next→Prop
 |.ok (.value v) w'=> ∃G' d g,G.Le G'∧Inv P G' d w'∧aV P G' g v∧K g d
 |.ok .skip w'=> ∃G' d g,G.Le G'∧Inv P G' d w'∧aV P G' g undef∧K g d
 |.halt (.panic v) w'=> ∃G' d g,G.Le G'∧Inv P G' d w'∧aV P G' g v∧Pn g d
 | _ =>False
def Sd {s:Sem Value}{v:Value}{w':World}(h:s.run P w= .ok v w'):((do pure (Next.value (←s))):Sem Next).run P w= .ok (.value v) w':=by simp[h]
def Se {s:Sem Unit}{w':World}(h:s.run P w= .ok () w'):((do s;pure Next.skip):Sem Next).run P w= .ok .skip w':=by simp[h]
variable {K Pn:AV→AS→Prop}
def Out.value {s:Sem Value}{v:Value}{w':World}{G':Gh}{d:AS}{g:AV}(h:s.run P w= .ok v w') (hle:G.Le G') (l:Inv P G' d w') (i:aV P G' g v) (j:K g d):
 Out P G K Pn (((do pure (Next.value (←s))):Sem Next).run P w):=by
 rw[Sd h];exact⟨G',d,g,hle,l,i,j⟩
def Out.unit {s:Sem Unit}{w':World}{G':Gh}{d:AS}{g:AV}(h:s.run P w= .ok () w') (hle:G.Le G') (l:Inv P G' d w') (i:aV P G' g undef) (j:K g d):
 Out P G K Pn (((do s;pure Next.skip):Sem Next).run P w):=by
 rw[Se h];exact⟨G',d,g,hle,l,i,j⟩
def Out.pure {s:Sem Value}{v:Value}{d:AV}(j:Inv P G σ w) (h:s.run P w= .ok v w) (g:aV P G d v) (i:K d σ):
 Out P G K Pn (((do pure (Next.value (←s))):Sem Next).run P w):=Out.value h (.refl G) j g i
inductive LK where
 |agg (n:Nat)|one|bad
def fX (P:Program) (t:TypeId):LK:=
 match P.underlying t with
 |some (.struct _)|some (.array _ _)=> .agg (P.cellsOf t)
 |some _ =>if P.cellsOf t=1 then .one else .bad
 |none=> .bad
def bS {t:TypeId}(h:P.cellsOf t≠0):∃i,P.info? t=some i∧i.size=P.cellsOf t∧i.bytes=P.bytesOf t:=by
 cases d:P.info? t with
 |none=>simp[Program.cellsOf,d]at h
 |some i=>exact⟨i,rfl,by simp[Program.cellsOf,d],by simp[Program.bytesOf,d]⟩
def vD {t:TypeId}(h:fX P t= .one):(isAgg t).run P w= .ok false w∧P.cellsOf t=1:=by
 unfold fX at h;split at h
 ·cases h
 ·cases h
 ·rename_i d i ha hu;have h1:P.cellsOf t=1:=by
   by_cases g:P.cellsOf t=1
   ·exact g
   ·rw[if_neg g]at h;cases h
  refine⟨?_,h1⟩;simp only[isAgg,Sem.run_bind,run_underlying hu,Result.andThen];cases d<;>first|rfl|(exfalso;simp at i ha;done)|skip
 ·cases h
def vE {t:TypeId}{n:Nat}(h:fX P t= .agg n):(isAgg t).run P w= .ok true w∧P.cellsOf t=n:=by
 unfold fX at h;split at h
 ·rename_i hu;cases h;exact⟨by simp[isAgg,Sem.run_bind,run_underlying hu,Result.andThen],rfl⟩
 ·rename_i hu;cases h;exact⟨by simp[isAgg,Sem.run_bind,run_underlying hu,Result.andThen],rfl⟩
 ·split at h<;>cases h
 ·cases h
def Reads (w:World) (b off:Nat) (vs:Nat→Value) (n:Nat):Prop:= ∀k,k<n→w.cell? ⟨b,off+k,none⟩=some (vs k)
def oZ {t:TypeId}(h:fX P t= .one) {b off:Nat}{vs:Nat→Value}(d:Reads w b off vs 1):(loadVar t ⟨b,off,none⟩).run P w= .ok (vs 0) w:=by have:=d 0 (by omega);simp only[Nat.add_zero]at this;simp[loadVar,Sem.run_bind,(vD (w:=w) h).1,load,Sem.run,this]
def o8 {t:TypeId}{n:Nat}(h:fX P t= .agg n) {b off:Nat}{vs:Nat→Value}(E:n≠0) (q:Reads w b off vs n):
 (loadVar t ⟨b,off,none⟩).run P w= .ok (.agg ((List.range n).map vs).toArray) w:=by
 obtain⟨h1,y⟩:=vE (w:=w) h;obtain⟨i,u,g,_⟩:=bS (P:=P) (t:=t) (by omega);have o:=run_loadCells_list (P:=P) w ⟨b,off,none⟩ ((List.range n).map vs) (fun j v d=>by
  have l:j<n:=by
   rcases Nat.lt_or_ge j n with h|h
   ·exact h
   ·rw[getElem?_eq_none (by simpa using h)]at d;cases d
  rw[Addr.add_lit,q j l];simpa[l]using d)
 simp only[length_map,length_range]at o;simp[loadVar,Sem.run_bind,h1,sizeOf,run_typeInfo w u,g,y,o]
def eX (P:Program) (σ:AS) (t:TypeId) (x:AV) (K:AV→Prop):Prop:=
 match x,fX P t with
 |.ptr id off,.one=>match σ id with|some (.cells _ cs)=>off<cs.length∧K (cs.getD off .any)| _ =>False
 |.ptr id off,.agg n=>match σ id with|some (.cells _ cs)=>n≠0∧off+n≤cs.length∧K (.agg ((cs.drop off).take n))| _ =>False
 |.iv cells,.one=>0<cells.length∧K (cells.getD 0 .any)
 |.iv cells,.agg n=>n≠0∧n≤cells.length∧K (.agg (cells.take n))
 | _,_ =>False
def jq {b off:Nat}{vs:Array Value}{ty:TypeId}{g:Nat×Nat}(h:w.heap[b]? =some (.cells vs ty g)) (d:off<vs.size):w.cell? ⟨b,off,none⟩=some (vs.getD off undef):=by simp[World.cell?,h,d]
def zx {K:AV→Prop}(l:Inv P G σ w) {t:TypeId}{x:AV}{v:Value}(j:aV P G x v) (h:eX P σ t x K):
 ∃a y H,v= .pointer (some a)∧(loadVar t a).run P w= .ok y w∧aV P G H y∧K H:=by
 unfold eX at h;split at h
 ·rename_i id off hl;split at h
  ·rename_i ty cs q;cases j with
   |ptr F=>obtain⟨J,vs,k1,o,I,k4⟩:=l.cells _ _ _ q;rw[F]at k1;obtain rfl:=Option.some.inj k1;exact⟨_,vs.getD off undef,_,rfl,oZ (vs:=fun k=>vs.getD (off+k) undef) hl (fun k E=>jq o (by omega)),(k4 off h.1).1,h.2⟩
  ·exact h.elim
 ·rename_i id off n hl;split at h
  ·rename_i ty cs q;cases j with
   |ptr F=>
    obtain⟨J,vs,k1,o,I,k4⟩:=l.cells _ _ _ q;rw[F]at k1;obtain rfl:=Option.some.inj k1;refine⟨_,.agg ((List.range n).map fun k=>vs.getD (off+k) undef).toArray,_,rfl,o8 (vs:=fun k=>vs.getD (off+k) undef) hl h.1 (fun k E=>jq o (by omega)),.agg _ ?_ ?_,h.2.2⟩
    ·simp;omega
    ·intro i g;have d:i<n:=by simp at g;omega
     have:=(k4 (off+i) (by omega)).1;simp only[getD_eq_getElem?_getD]at this⊢;rw[getElem?_take_of_lt d,getElem?_drop];simpa[d]using this
  ·exact h.elim
 ·rename_i cells hl;cases j with
  |iv vs hm u=>exact⟨_,vs 0,_,rfl,oZ hl (fun k E=>(l.mem _ _ _ (hm k (by omega))).1),u 0 h.1,h.2⟩
 ·rename_i cells n hl;cases j with
  |iv vs hm u=>
   refine⟨_,.agg ((List.range n).map vs).toArray,_,rfl,o8 hl h.1 (fun k E=>(l.mem _ _ _ (hm k (by omega))).1),.agg _ ?_ ?_,h.2.2⟩
   ·simp;omega
   ·intro i g;have d:i<n:=by simp at g;omega
    have:=u i (by omega);simp only[getD_eq_getElem?_getD]at this⊢;rw[getElem?_take_of_lt d];simpa[d]using this
 ·exact h.elim
def Ij (d:Inv P G σ w) {t:TypeId}{x:AV}{v:Value}(g:aV P G x v) (h:eX P σ t x fun v=>K v σ):
 Out P G K Pn (((do pure (Next.value (←Instr.loadAt t v))):Sem Next).run P w):=by
 obtain⟨a,y,l,rfl,h1,j,i⟩:=zx d g h;refine Out.pure d (v:=y) ?_ j i;simpa only[Instr.loadAt,Instr.sureAddr,Sem.run_bind,Sem.run_pure,Result.andThen]using h1
def um (P:Program) (σ:AS) (t:TypeId) (x v:AV) (K:AS→Prop):Prop:=
 match x with
 |.ptr id off=>match σ id with
  |some (.cells ty cs)=>v.Iu=true∧v.cells.all AV.one=true∧v.cells.length=P.cellsOf t∧P.cellsOf t≠0∧off+v.cells.length≤cs.length∧
   K (σ.set id (.cells ty (cs.take off++v.cells++cs.drop (off+v.cells.length))))
  | _ =>False
 | _ =>False
def EX (I:Inv P G σ w) {t:TypeId}{x v:AV}{y g:Value}(Q:aV P G x y) (T:aV P G v g) (h:um P σ t x v fun O=>K .any O):
 Out P G K Pn (((do Instr.storeAt t y g;pure Next.skip):Sem Next).run P w):=by
 unfold um at h;split at h
 ·rename_i id off;split at h
  ·rename_i ty cs F;obtain⟨h1,h2,Y,X,h5,V⟩:=h;cases Q with
   |ptr J=>
    rename_i b;obtain⟨b',cur,k1,E,k3,k4⟩:=I.cells _ _ _ F;rw[J]at k1;obtain rfl:=Option.some.inj k1;obtain⟨M,L⟩:=T.cells h1;obtain⟨i,o,q,_⟩:=bS (P:=P) (t:=t) X;have l:∀k,k<v.cells.length→(g.cells.getD k undef).oneCell'=true:=fun k d=>by refine(L k d).one ?_;have:=all_eq_true.1 h2 (v.cells.getD k .any) (by rw[getD_eq_getElem?_getD,getElem?_eq_getElem d];exact getElem_mem _);exact this
    have n:=run_storeCells_cells (P:=P) b off g.cells.toList 0 w
     (fun j H=>by rw[Nat.add_zero,jq E (by simp at H;omega)];rfl)
     (fun j H=>by simp[World.frozen?,E])
     (fun u hu=>by obtain⟨k,d,rfl⟩:=getElem_of_mem hu;have:=l k (by simp at d;omega);simp at d;simpa[d]using this)
    simp only[Nat.add_zero]at n;refine Out.unit (w':=w.setCells b off g.cells.toList) ?_ (.refl G) (I.store F off g.cells.toList v.cells (by simpa using M) (by simp;omega) (fun k d=> ?_) b J) (.any _) V
    ·simp only[Instr.storeAt,Instr.sureAddr,Sem.run_bind,Sem.run_pure,Result.andThen];simp only[storeVar,Sem.run_bind,sizeOf,run_typeInfo w o,Result.andThen,Sem.run_pure,M,Y,q];simp[n]
    ·have e1:g.cells.toList.getD k undef=g.cells.getD k undef:=by simp[getD_eq_getElem?_getD]
     rw[e1];exact⟨L k d,l k d⟩
  ·exact h.elim
 ·exact h.elim
end Go.AW
namespace Go.AW
variable {P:Program} {G:Gh} {σ:AS} {w:World} {K Pn:AV→AS→Prop}
def AV.laid (v:AV):Bool:=v.Iu&&v.cells.all AV.one
def gf {v:AV}{x:Value}(h:aV P G v x) (hl:v.laid=true):
 x.cells.size=v.cells.length∧ ∀k,k<v.cells.length→aV P G (v.cells.getD k .any) (x.cells.getD k undef)∧(x.cells.getD k undef).oneCell'=true:=by
 simp only[AV.laid,Bool.and_eq_true]at hl;obtain⟨i,g⟩:=h.cells hl.1;refine⟨i,fun k d=>⟨g k d,(g k d).one ?_⟩⟩;exact all_eq_true.1 hl.2 (v.cells.getD k .any) (by rw[getD_eq_getElem?_getD,getElem?_eq_getElem d];exact getElem_mem _)
def ax (P:Program) (t:TypeId):AV:=match (P.info? t).bind (·.zero)with|some v=>FW v|none=> .any
def DB {t:TypeId}(h:(ax P t).laid=true):∃z,(zeroValue t).run P w= .ok z w∧aV P G (ax P t) z:=by
 unfold ax at h⊢;cases g:P.info? t with
 |none=>simp[g,AV.laid,AV.Iu]at h
 |some i=>
  cases d:i.zero with
  |none=>simp[g,d,AV.laid,AV.Iu]at h
  |some z=>simp only[d,Option.bind_some];exact⟨z,by simp[zeroValue,Sem.run_bind,run_typeInfo w g,d],gn z⟩
def wS (g:Inv P G σ w) (e:TypeId) {v:AV}{x:Value}(i:aV P G v x) (hl:v.laid=true) (h:∀id,σ id=none→K (.ptr id 0) (σ.set id (.cells e v.cells))):
 ∃G' d,(newVar e x).run P w= .ok ⟨w.heap.size,0,none⟩ (w.alloc (.cells x.cells e))∧G.Le G'∧Inv P G' d (w.alloc (.cells x.cells e))∧
  aV P G' (.ptr G.top 0) (.pointer (some ⟨w.heap.size,0,none⟩))∧K (.ptr G.top 0) d:=by
 obtain⟨l,j⟩:=gf i hl;obtain⟨G',g1,g2,g3⟩:=g.lZ e x.cells v.cells l j;exact⟨G',_,by simp[newVar,newRow,Result.andThen],g1,g3,.ptr g2,h _ g.fresh⟩
def Bi (P:Program) (σ:AS) (e:TypeId) (K:AV→AS→Prop):Prop:=
 (ax P e).laid=true∧ ∀id,σ id=none→K (.ptr id 0) (σ.set id (.cells e (ax P e).cells))
def E9 (n:Inv P G σ w) {e:TypeId}(h:Bi P σ e K):Out P G K Pn (((do pure (Next.value (←Instr.alloc e true (.tuple #[])))):Sem Next).run P w):=by obtain⟨h1,o⟩:=h;obtain⟨z,j,l⟩:=DB (P:=P) (G:=G) (w:=w) h1;obtain⟨G',q,k1,i,g,k4,d⟩:=wS n e l h1 o;refine Out.value (v:= .pointer (some ⟨w.heap.size,0,none⟩)) ?_ i g k4 d;simp[Instr.alloc,Sem.run_bind,j,k1]
def Of (P:Program) (σ:AS) (e:TypeId) (v:AV) (K:AV→AS→Prop):Prop:=
 v.laid=true∧ ∀id,σ id=none→K (.ptr id 0) (σ.set id (.cells e v.cells))
def Ly (l:Inv P G σ w) {e:TypeId}{v:AV}{x:Value}(j:aV P G v x) (h:Of P σ e v K):Out P G K Pn (((do pure (Next.value (←Instr.box e x))):Sem Next).run P w):=by obtain⟨G',n,k1,i,g,k4,d⟩:=wS l e j h.1 h.2;refine Out.value (v:= .pointer (some ⟨w.heap.size,0,none⟩)) ?_ i g k4 d;simp[Instr.box,k1]
def au (P:Program) (t:TypeId) (i:Nat):Option (Nat×Nat):=
 match P.underlying t with
 |some (.struct fs)=>(fs[i]?).map fun f=>(f.offset,P.cellsOf f.type)
 |some (.array _ e)=>some (i*P.cellsOf e,P.cellsOf e)
 | _ =>none
def ED (P:Program) (t:TypeId) (i:Nat):Option (Nat×LK):=
 match P.underlying t with
 |some (.struct fs)=>(fs[i]?).map fun f=>(f.offset,fX P f.type)
 | _ =>none
def oa (cs:List AV) (off:Nat) (vs:List AV):List AV:=cs.take off++vs++cs.drop (off+vs.length)
def nz (P:Program) (t:TypeId):List AV→List (Nat×AV)→(List AV→Prop)→Prop
 |cs,[],K=>K cs
 |cs,(i,v)::r,K=>match au P t i with
  |some (off,n)=>v.Iu=true∧v.cells.length=n∧n≠0∧off+n≤cs.length∧nz P t (oa cs off v.cells) r K
  |none=>False
def su (l:List Value):∀(cs:Array Value) (off j:Nat),off+j+l.length≤cs.size→
 (l.zipIdx j).foldl (fun cs (p:Value×Nat)=>cs.setIfInBounds (off+p.2) p.1) cs=sT cs (off+j) l:=by
 induction l with
 |nil=>intro cs off j _;rfl
 |cons v r d=>intro cs off j h;simp only[zipIdx_cons,foldl_cons,sT];rw[d _ _ _ (by simp at h⊢;omega)];rfl
def rh {cs vs:List AV}{off:Nat}(h:off+vs.length≤cs.length):(oa cs off vs).length=cs.length:=by simp[oa];omega
def DN {cs vs:List AV}{off k:Nat}(h:off+vs.length≤cs.length):(oa cs off vs).getD k .any=if off≤k∧k<off+vs.length then vs.getD (k-off) .any else cs.getD k .any:=by
 have t:(cs.take off).length=off:=by simp;omega
 unfold oa;simp only[getD_eq_getElem?_getD];by_cases g:off≤k∧k<off+vs.length
 ·rw[if_pos g,append_assoc,getElem?_append_right (by omega),t,getElem?_append_left (by omega)]
 ·rw[if_neg g];by_cases d:k<off
  ·rw[append_assoc,getElem?_append_left (by omega),getElem?_take_of_lt d]
  ·rw[append_assoc,getElem?_append_right (by omega),t,getElem?_append_right (by omega),getElem?_drop];congr 2;omega
def gi (P:Program) (G:Gh) (cs:List AV) (vs:Array Value):Prop:=vs.size=cs.length∧ ∀k,k<cs.length→aV P G (cs.getD k .any) (vs.getD k undef)
def gi.oa {cs vs:List AV}{a:Array Value}{l:List Value}(h:gi P G cs a) {off:Nat}(d:off+vs.length≤cs.length) (hl:l.length=vs.length)
 (i:∀k,k<vs.length→aV P G (vs.getD k .any) (l.getD k undef)):gi P G (oa cs off vs) (sT a off l):=by
 refine⟨by rw[qn,h.1,rh d],fun k g=> ?_⟩;rw[rh d]at g;rw[DN d,vQ _ _ _ _ (by rw[h.1];omega),hl];split
 ·rename_i j;exact i _ (by omega)
 ·exact h.2 k g
def NB {t:TypeId}(place:Nat→Option (Nat×Nat)) (Q:∀i,au P t i=place i∨au P t i=none):∀(parts:List (Nat×AV)) (d:List (Nat×Value)) (cs:List AV) (a:Array Value) (K:List AV→Prop),
 d.length=parts.length→(∀i,i<parts.length→(d.getD i (0,undef)).1=(parts.getD i (0,.any)).1∧aV P G (parts.getD i (0,.any)).2 (d.getD i (0,undef)).2)→
 gi P G cs a→nz P t cs parts K→ ∃E cs',Instr.fill place a d=some E∧gi P G cs' E∧K cs':=by
 intro parts;induction parts with
 |nil=>intro d cs a K hl _ y h;have:d= []:=length_eq_zero_iff.1 (by simpa using hl);subst this;exact⟨a,cs,rfl,y,h⟩
 |cons p r M=>
  intro d cs a K hl g y h;obtain⟨i,v⟩:=p;cases d with
  |nil=>simp at hl
  |cons q L=>
   obtain⟨J,x⟩:=q;have h0:=g 0 (by simp);simp at h0;obtain⟨rfl,O⟩:=h0;simp only[nz]at h;split at h
   ·rename_i off n j;obtain⟨h1,h2,h3,Y,T⟩:=h;obtain⟨X,V⟩:=O.cells h1;have o:place J=some (off,n):=by
     rcases Q J with h|h
     ·rw[←h,j]
     ·rw[h]at j;cases j
    have F:x.cells.size=n:=by omega
    have u:¬(off+n>a.size):=by rw[y.1];omega
    have hf:Array.foldl (fun cs (p:Value×Nat)=>cs.setIfInBounds (off+p.2) p.1) a x.cells.zipIdx=sT a off x.cells.toList:=by have:=su x.cells.toList a off 0 (by rw[Nat.add_zero,Array.length_toList,y.1];omega);rw[Nat.add_zero]at this;rw[←this,←Array.foldl_toList];simp
    have I:=y.oa (off:=off) (vs:=v.cells) (l:=x.cells.toList) (by omega) (by simpa using X) (fun k H=>by have:=V k H;simpa[getD_eq_getElem?_getD]using this);obtain⟨E,cs',g1,g2,g3⟩:=M L _ _ K (by simpa using hl) (fun k H=>by have:=g (k+1) (by simpa using H);simpa using this) I T;refine⟨E,cs',?_,g2,g3⟩;simp only[Instr.fill,o,F,ne_eq,not_true_eq_false,decide_false,Bool.false_or,u];rw[←g1];simp only[Bool.false_eq_true,if_false];rw[hf]
   ·exact h.elim
end Go.AW
namespace Go.AW
variable {P:Program} {G:Gh} {σ:AS} {w:World} {K Pn:AV→AS→Prop}
def bN (P:Program) (t:TypeId):Bool:=
 match P.underlying t with
 |some (.struct fs)=>(fs.toList.mapM (fun f=>(P.info? f.type).map fun i=>(f.offset,i.size))).isSome
 |some (.array _ e)=>(P.info? e).isSome
 | _ =>false
def Cr {fs:List Field}{d:List (Nat×Nat)}(h:fs.mapM (fun f=>(P.info? f.type).map fun i=>(f.offset,i.size))=some d):
 d=fs.map fun f=>(f.offset,P.cellsOf f.type):=by
 induction fs generalizing d with
 |nil=>simp at h;subst h;rfl
 |cons f fs l=>
  simp only[mapM_cons,Option.bind_eq_bind,Option.pure_def]at h;cases g:P.info? f.type with
  |none=>simp[g]at h
  |some i=>
   cases j:fs.mapM (fun f=>(P.info? f.type).map fun i=>(f.offset,i.size))with
   |none=>simp[g,j]at h
   |some rest=>simp[g,j]at h;subst h;rw[l j];simp[Program.cellsOf,g]
def rL (P:Program) (t:TypeId) (parts:List (Nat×AV)) (K:AV→Prop):Prop:=
 bN P t=true∧(ax P t).laid=true∧nz P t (ax P t).cells parts fun cs=>K (.agg cs)
def dq {t:TypeId}(h:(ax P t).laid=true):∃i z,P.info? t=some i∧i.zero=some z∧ax P t=FW z:=by
 unfold ax at h⊢;cases g:P.info? t with
 |none=>simp[g,AV.laid,AV.Iu]at h
 |some i=>
  cases d:i.zero with
  |none=>simp[g,d,AV.laid,AV.Iu]at h
  |some z=>exact⟨i,z,rfl,d,by simp[d]⟩
def E8 (o:Inv P G σ w) {t:TypeId}{parts:Array (Nat×Operand)}{s:Fr}{ρ:Operand→Value}(V:∀x,aV P G (ev s x) (ρ x))
 (h:rL P t (parts.toList.map fun p=>(p.1,ev s p.2)) fun v=>K v σ):
 Out P G K Pn (((do pure (Next.value (←Instr.build t (parts.map fun(i,x)=>(i,ρ x))))):Sem Next).run P w):=by
 obtain⟨h1,T,Y⟩:=h;obtain⟨it,z,u,M,y⟩:=dq T;have F:aV P G (ax P t) z:=by rw[y];exact gn z
 have Q:=gf F T;have H:gi P G (ax P t).cells z.cells:=⟨Q.1,fun k J=>(Q.2 k J).1⟩;have E:(parts.map fun(i,x)=>(i,ρ x)).toList=parts.toList.map fun p=>(p.1,ρ p.2):=by simp
 have d:∀(place:Nat→Option (Nat×Nat)),(∀i,au P t i=place i∨au P t i=none)→
  ∃g cs',Instr.fill place z.cells (parts.map fun(i,x)=>(i,ρ x)).toList=some g∧gi P G cs' g∧K (.agg cs') σ:=by
  intro place q;rw[E];refine NB (K:=fun cs=>K (.agg cs) σ) place q _ _ _ _ (by simp) (fun i o=> ?_) H Y;simp at o;simp[getD_eq_getElem?_getD,o];exact V _
 have fin:∀g cs',P.built t (parts.map fun(i,x)=>(i,ρ x)).toList=some g→gi P G cs' g→K (.agg cs') σ→
  Out P G K Pn (((do pure (Next.value (←Instr.build t (parts.map fun(i,x)=>(i,ρ x))))):Sem Next).run P w):=by
  intro g cs' X O J;refine Out.pure o (run_build w t _ g X) ?_ J;have:=aV.agg (P:=P) (G:=G) (cells:=cs') g.toList (by simpa using O.1) (fun i o=>by have:=O.2 i o;simpa[getD_eq_getElem?_getD]using this);simpa using this
 unfold bN at h1;split at h1
 ·rename_i fs hu;cases q:fs.toList.mapM (fun f=>(P.info? f.type).map fun i=>(f.offset,i.size))with
  |none=>rw[q]at h1;cases h1
  |some j=>have I:=Cr q;obtain⟨g,cs',g1,g2,g3⟩:=d (j.toArray[·]?) (fun i=>by left;simp[au,hu,I]);exact fin g cs' (by simp[Program.built,u,hu,M,q]at g1⊢;exact g1) g2 g3
 ·rename_i n e hu;cases l:P.info? e with
  |none=>rw[l]at h1;cases h1
  |some L=>obtain⟨g,cs',g1,g2,g3⟩:=d (fun i=>some (i*L.size,L.size)) (fun i=>by left;simp[au,hu,Program.cellsOf,l]);exact fin g cs' (by simp[Program.built,u,hu,M,l]at g1⊢;exact g1) g2 g3
 ·cases h1
def cr (P:Program) (t:TypeId):Option TypeId:=match P.underlying t with|some (.slice e)=>some e| _ =>none
def eP {t e:TypeId}(h:cr P t=some e):P.underlying t=some (.slice e):=by
 unfold cr at h;split at h
 ·cases h;assumption
 ·cases h
def g8 (n:Nat):Nat→List (Nat×AV)→Bool
 |k,[]=>true
 |k,(i,v)::r=>i==k&&v.laid&&v.cells.length==n&&g8 n (k+1) r
def ez (P:Program) (σ:AS) (t:TypeId) (len:Nat) (parts:List (Nat×AV)) (K:AV→AS→Prop):Prop:=
 match cr P t with
 |some e=>parts.length=len∧P.cellsOf e≠0∧len*P.cellsOf e≤2^24∧(ax P e).laid=true∧(ax P e).cells.length=P.cellsOf e∧g8 (P.cellsOf e) 0 parts=true∧
  K (.ao e (parts.map (·.2)) .full false) σ
 |none=>False
def xp {e:TypeId} :∀(parts:List (Nat×AV)) (d:List (Nat×Value)) (k m:Nat) (a:Array Value),
 d.length=parts.length→(∀i,i<parts.length→(d.getD i (0,undef)).1=(parts.getD i (0,.any)).1∧aV P G (parts.getD i (0,.any)).2 (d.getD i (0,undef)).2)→
 g8 m k parts=true→(k+parts.length)*m=a.size→
 (∀c,c<k*m→(a.getD c undef).oneCell'=true)→
 ∃o,Instr.fill (fun i=>some (i*m,m)) a d=some o∧o.size=a.size∧(∀c,c<k*m→o.getD c undef=a.getD c undef)∧
  (∀i j,i<parts.length→j<m→aV P G ((parts.getD i (0,.any)).2.cells.getD j .any) (o.getD ((k+i)*m+j) undef)∧(o.getD ((k+i)*m+j) undef).oneCell'=true):=by
 intro parts;induction parts with
 |nil=>intro d k m a hl _ _ _ _;have:d= []:=length_eq_zero_iff.1 (by simpa using hl);subst this;exact⟨a,rfl,rfl,fun _ _ =>rfl,fun i j F=>by simp at F⟩
 |cons p r L=>
  intro d k m a hl l h u E;obtain⟨i,v⟩:=p;cases d with
  |nil=>simp at hl
  |cons q J=>
   obtain⟨i',x⟩:=q;have h0:=l 0 (by simp);simp at h0;obtain⟨rfl,M⟩:=h0;simp only[g8,Bool.and_eq_true,beq_iff_eq]at h;obtain⟨⟨⟨rfl,n⟩,hlen⟩,h⟩:=h;obtain⟨c1,I⟩:=gf M n;have y:x.cells.size=m:=by omega
   have H:i'*m+m≤a.size:=by rw[←u];have:(i'+1)*m≤(i'+(((i',v)::r).length))*m:=Nat.mul_le_mul_right _ (by simp);rw[Nat.add_mul]at this;omega
   have hf:Array.foldl (fun cs (p:Value×Nat)=>cs.setIfInBounds (i'*m+p.2) p.1) a x.cells.zipIdx=sT a (i'*m) x.cells.toList:=by have:=su x.cells.toList a (i'*m) 0 (by rw[Nat.add_zero,Array.length_toList];omega);rw[Nat.add_zero]at this;rw[←this,←Array.foldl_toList];simp
   have g:∀c,(sT a (i'*m) x.cells.toList).getD c undef=if i'*m≤c∧c<i'*m+m then x.cells.getD (c-i'*m) undef else a.getD c undef:=by
    intro c;rw[vQ _ _ _ _ (by simp;omega)];simp only[Array.length_toList,y];split
    ·simp[getD_eq_getElem?_getD]
    ·rfl
   have O:(i'+1)*m=i'*m+m:=by rw[Nat.add_mul];omega
   obtain⟨o,g1,g2,g3,Y⟩:=L J (i'+1) m (sT a (i'*m) x.cells.toList) (by simpa using hl) (fun k Q=>by
    have:=l (k+1) (by simpa using Q);simpa using this) h (by rw[qn,←u];congr 1;simp;omega) (fun c X=>by
     rw[g];split
     ·rename_i V;exact(I (c-i'*m) (by omega)).2
     ·exact E c (by omega))
   refine⟨o,?_,by rw[g2,qn],fun c X=> ?_,fun i j F T=> ?_⟩
   ·simp only[Instr.fill,y,ne_eq,not_true_eq_false,decide_false,Bool.false_or,show ¬(i'*m+m>a.size) by omega,if_false,Bool.false_eq_true];rw[←g1,hf]
   ·rw[g3 c (by omega),g,if_neg (by omega)]
   ·cases i with
    |zero=>
     simp only[Nat.add_zero];rw[g3 _ (by omega),g,if_pos (by omega)];have:i'*m+j-i'*m=j:=by omega
     rw[this];exact I j (by omega)
    |succ i=>have:=Y i j (by simpa using F) T;rw[show i'+1+i=i'+(i+1) by omega]at this;simpa using this
def vd (o:Inv P G σ w) {t:TypeId}{len:Nat}{parts:Array (Nat×Operand)}{s:Fr}{ρ:Operand→Value}(hρ:∀x,aV P G (ev s x) (ρ x))
 (h:ez P σ t len (parts.toList.map fun p=>(p.1,ev s p.2)) K):
 Out P G K Pn (((do pure (Next.value (←Instr.buildSlice t len (parts.map fun(i,x)=>(i,ρ x))))):Sem Next).run P w):=by
 unfold ez at h;split at h
 ·rename_i e he;obtain⟨h1,h2,h3,h4,h5,T,h7⟩:=h;have hu:=eP he;obtain⟨it,z,y,hz,af⟩:=dq h4;have Q:it.size=P.cellsOf e:=by simp[Program.cellsOf,y]
  have O:(parts.map fun(i,x)=>(i,ρ x)).toList=parts.toList.map fun p=>(p.1,ρ p.2):=by simp
  have hlen:parts.toList.length=len:=by simpa using h1
  let zero:Array Value:=if len*P.cellsOf e=0 then #[]else z.cells
  let init:Array Value:=(Array.range (len*P.cellsOf e)).map (zero[· %zero.size]!)
  obtain⟨M,g1,g2,_,V⟩:=xp (P:=P) (G:=G) (e:=e) (parts.toList.map fun p=>(p.1,ev s p.2)) (parts.toList.map fun p=>(p.1,ρ p.2)) 0 (P.cellsOf e) init (by simp) (fun i o=>by simp at o;simp[getD_eq_getElem?_getD,o];exact hρ _) T (by simp at hlen;simp[init,hlen]) (fun c hc=>by omega);have u:M.size=len*P.cellsOf e:=by rw[g2];simp[init]
  have F:(Instr.buildSlice t len (parts.map fun(i,x)=>(i,ρ x))).run P w= .ok (.slice (some ⟨w.heap.size,0,none⟩) len len) (w.alloc (.cells M e)):=by
   have E:¬(len*P.cellsOf e>2^24):=by omega
   have g:Instr.fill (fun i=>some (i*P.cellsOf e,P.cellsOf e)) ((Array.range (len*P.cellsOf e)).map (zero[· %zero.size]!)) (parts.map fun(i,x)=>(i,ρ x)).toList=some M:=by rw[O];exact g1
   simp only[Instr.buildSlice,Sem.run_bind,run_underlying hu,Result.andThen,sizeOf,run_typeInfo w y,Sem.run_pure,Q,E,if_false];by_cases h0:len*P.cellsOf e=0
   ·simp only[zero,h0,if_true]at g;simp[h0,newRow];simp at g;simp[g,Result.andThen]
   ·simp only[zero,h0,if_false]at g;simp only[h0,if_false,Sem.run_bind,zeroValue,run_typeInfo w y,hz,Result.andThen,Sem.run_pure];rw[g];simp[newRow,Result.andThen]
  let vs:Nat→Value:=fun k=>M.getD k undef
  have I:∀k,k<len*P.cellsOf e→k/P.cellsOf e<len∧k%P.cellsOf e<P.cellsOf e∧(k/P.cellsOf e)*P.cellsOf e+k%P.cellsOf e=k:=fun k n=>
   ⟨Nat.div_lt_of_lt_mul (by rw[Nat.mul_comm];exact n),Nat.mod_lt _ (by omega),by rw[Nat.mul_comm];exact Nat.div_add_mod k _⟩
  obtain⟨hle,hinv⟩:=o.Gd e M (len*P.cellsOf e) vs (by omega) (fun k n=>by obtain⟨k1,Y,X⟩:=I k n;have:=(V (k/P.cellsOf e) (k%P.cellsOf e) (by simp at hlen⊢;omega) Y).2;rw[Nat.zero_add,X]at this;exact⟨by simp[vs,u,n],this⟩);refine Out.value F hle hinv ?_ h7;have H:((parts.toList.map fun p=>(p.1,ev s p.2)).map (·.2)).length=len:=by simpa using h1
  have L:∀i,i<len→((((parts.toList.map fun(p:Nat×Operand)=>(p.1,ev s p.2)).map (fun(q:Nat×AV)=>q.2)).getD i AV.any).cells.length=P.cellsOf e)∧
   ((parts.toList.map fun(p:Nat×Operand)=>(p.1,ev s p.2)).map (fun(q:Nat×AV)=>q.2)).getD i AV.any=((parts.toList.map fun(p:Nat×Operand)=>(p.1,ev s p.2)).getD i (0,AV.any)).2:=by
   intro i J;have d:i<(parts.toList.map fun p=>(p.1,ev s p.2)).length:=by simp at hlen⊢;omega
   refine⟨?_,by simp only[getD_eq_getElem?_getD,getElem?_map,getElem?_eq_getElem d,Option.map_some,Option.getD_some]⟩;have key:∀(l:List (Nat×AV)) (k:Nat),g8 (P.cellsOf e) k l=true→ ∀i,i<l.length→((l.map (fun(q:Nat×AV)=>q.2)).getD i AV.any).cells.length=P.cellsOf e:=by
    intro l;induction l with
    |nil=>intro k _ i o;simp at o
    |cons p r ih=>
     intro k n i o;obtain⟨q,v⟩:=p;simp only[g8,Bool.and_eq_true,beq_iff_eq]at n;cases i with
     |zero=>simpa using n.1.2
     |succ i=>simpa using ih (k+1) n.2 i (by simpa using o)
   exact key _ 0 T i d
  refine aV.Eg vs H (fun i J=>(L i (by omega)).1) (fun k n=> ?_) (fun i j J hj=> ?_) (Nat.le_refl _) ⟨_,rfl⟩
  ·rw[Gh.lh (by omega) (by omega)];simp
  ·rw[(L i (by omega)).2];have:=(V i j (by simp at hlen⊢;omega) hj).1;rw[Nat.zero_add]at this;exact this.mono hle
 ·exact h.elim
end Go.AW
namespace Go.AW
variable {P:Program} {G:Gh} {σ:AS} {w:World} {K Pn:AV→AS→Prop}
def fC (P:Program) (t:TypeId) (x:AV) (f:Nat) (K:AV→Prop):Prop:=
 match au P t f,P.underlying t with
 |some (o,n),some (.struct _)=>n≠0∧(match x with
  |.ptr id off=>K (.ptr id (off+o))
  |.iv cells=>K (.iv (cells.drop o))
  | _ =>False)
 | _,_ =>False
def xU (u:Inv P G σ w) {t:TypeId}{x:AV}{v:Value}{f:Nat}(q:aV P G x v) (h:fC P t x f fun v=>K v σ):
 Out P G K Pn (((do pure (Next.value (←Instr.fieldAt t v f))):Sem Next).run P w):=by
 unfold fC at h;split at h
 ·rename_i o n fs d hu;obtain⟨F,h⟩:=h;simp only[au,hu]at d;cases hf:fs[f]? with
  |none=>rw[hf]at d;cases d
  |some fl=>
   rw[hf]at d;simp only[Option.map_some,Option.some.injEq,Prod.mk.injEq]at d;obtain⟨rfl,rfl⟩:=d;obtain⟨i,g,y,_⟩:=bS (P:=P) (t:=fl.type) F;have j:i.size≠0:=by omega
   have run:∀b off:Nat,(Instr.fieldAt t (.pointer (some ⟨b,off,none⟩)) f).run P w= .ok (.pointer (some ⟨b,off+fl.offset,none⟩)) w:=fun b off=>by simp[Instr.fieldAt,run_underlying hu,hf,Instr.sureAddr,fieldPlace,sizeOf,run_typeInfo w g,j,Addr.add_lit]
   split at h
   ·cases q with
    |ptr H=>exact Out.pure u (run _ _) (.ptr H) h
   ·rename_i cells;cases q with
    |iv vs hm E=>
     refine Out.pure u (run _ _) (.iv (fun k=>vs (fl.offset+k)) (fun k l=> ?_) (fun k l=> ?_)) h
     ·rw[Nat.add_assoc];exact hm _ (by simp at l;omega)
     ·have:=E (fl.offset+k) (by simp at l;omega);simpa[getD_eq_getElem?_getD]using this
   ·exact h.elim
 ·exact h.elim
def oP (P:Program) (t:TypeId) (x:AV) (f:Nat) (K:AV→Prop):Prop:=
 match ED P t f,x with
 |some (o,.one),.agg cells=>o<cells.length∧K (cells.getD o .any)
 |some (o,.agg n),.agg cells=>n≠0∧o+n≤cells.length∧K (.agg ((cells.drop o).take n))
 | _,_ =>False
def E1 (E:Inv P G σ w) {t:TypeId}{x:AV}{v:Value}{f:Nat}(y:aV P G x v) (h:oP P t x f fun v=>K v σ):
 Out P G K Pn (((do pure (Next.value (←Instr.field t v f))):Sem Next).run P w):=by
 unfold oP at h;have get:∀ {o:Nat} {l:LK},ED P t f=some (o,l)→ ∃fs fl,P.underlying t=some (.struct fs)∧fs[f]? =some fl∧fl.offset=o∧fX P fl.type=l:=by
  intro o l hf;unfold ED at hf;split at hf
  ·rename_i fs hu;cases d:fs[f]? with
   |none=>rw[d]at hf;cases hf
   |some fl=>rw[d]at hf;simp only[Option.map_some,Option.some.injEq,Prod.mk.injEq]at hf;exact⟨fs,fl,hu,d,hf.1,hf.2⟩
  ·cases hf
 split at h
 ·rename_i o cells hf;obtain⟨fs,fl,hu,d,rfl,hl⟩:=get hf;cases y with
  |agg vs l q=>
   have:=q fl.offset h.1;have u:fl.offset<vs.length:=by omega
   refine Out.pure E (v:=vs.getD fl.offset undef) ?_ this h.2;simp[Instr.field,run_underlying hu,d,part,(vD (w:=w) hl).1,asAgg,u]
 ·rename_i o n cells hf;obtain⟨fs,fl,hu,d,rfl,hl⟩:=get hf;cases y with
  |agg vs l q=>
   obtain⟨k1,J⟩:=vE (w:=w) hl;obtain⟨i,j,F,_⟩:=bS (P:=P) (t:=fl.type) (by omega);refine Out.pure E (v:= .agg ((vs.drop fl.offset).take n).toArray) ?_ (.agg _ (by simp;omega) (fun k H=> ?_)) h.2.2
   ·have I:vs.toArray.extract fl.offset (fl.offset+i.size)=((vs.drop fl.offset).take n).toArray:=by
     have:fl.offset+i.size-fl.offset=n:=by omega
     simp[this]
    simp[Instr.field,run_underlying hu,d,part,k1,asAgg,sizeOf,run_typeInfo w j];simpa using I
   ·have g:k<n:=by simp at H;omega
    have:=q (fl.offset+k) (by omega);simp only[getD_eq_getElem?_getD]at this⊢;rw[getElem?_take_of_lt g,getElem?_take_of_lt g,getElem?_drop,getElem?_drop];exact this
 ·exact h.elim
def rK (P:Program) (t:TypeId):Option (Nat×TypeId):=match P.underlying t with|some (.array n e)=>some (n,e)| _ =>none
def A8 {t e:TypeId}{n:Nat}(h:rK P t=some (n,e)):P.underlying t=some (.array n e):=by
 unfold rK at h;split at h
 ·cases h;assumption
 ·cases h
def eG (P:Program) (t:TypeId) (x i:AV) (K:AV→Prop):Prop:=
 match i with
 |.sc (.int _ i)=>match x with
  |.ao e elems _ _ =>cr P t=some e∧P.cellsOf e≠0∧0≤i∧i<elems.length∧K (.iv (elems.getD i.toNat .any).cells)
  |.fH id off len _ =>match cr P t with
   |some e=>P.cellsOf e≠0∧0≤i∧i<len∧K (.ptr id (off+i.toNat*P.cellsOf e))
   |none=>False
  |.ptr id off=>match rK P t with
   |some (n,e)=>P.cellsOf e≠0∧0≤i∧i<n∧K (.ptr id (off+i.toNat*P.cellsOf e))
   |none=>False
  |.iv cells=>match rK P t with
   |some (n,e)=>P.cellsOf e≠0∧0≤i∧i<n∧K (.iv (cells.drop (i.toNat*P.cellsOf e)))
   |none=>False
  | _ =>False
 | _ =>False
def xT (F:Inv P G σ w) {t:TypeId}{x M:AV}{v L:Value}(y:aV P G x v) (I:aV P G M L) (h:eG P t x M fun v=>K v σ):
 Out P G K Pn (((do pure (Next.value (←Instr.indexAt t v L))):Sem Next).run P w):=by
 unfold eG at h;split at h
 ·rename_i k i;cases I;split at h
  ·rename_i e elems own O;obtain⟨h1,u,q,l,o⟩:=h;have hu:=eP h1;obtain⟨inf,d,g,_⟩:=bS (P:=P) (t:=e) u;cases y with
   |iP Q=>simp at l;omega
   |pL=>simp at l;omega
   |ao vs hl hm H T Q=>
    rename_i b off cap;have E:i.toNat<elems.length:=by omega
    refine Out.pure F (v:= .pointer (some ⟨b,off+i.toNat*P.cellsOf e,none⟩)) ?_ (.iv (fun k=>vs (i.toNat*P.cellsOf e+k)) (fun k j=> ?_) (fun k j=> ?_)) o
    ·simp[Instr.indexAt,asIntOf,run_underlying hu,q,l,sizeOf,run_typeInfo w d,g,Addr.add_lit]
    ·rw[hl _ E]at j;rw[Nat.add_assoc];exact hm _ (jS E j)
    ·rw[hl _ E]at j;exact H _ _ E j
  ·rename_i id off len cap;split at h
   ·rename_i e he;obtain⟨u,q,l,o⟩:=h;have hu:=eP he;obtain⟨inf,d,g,_⟩:=bS (P:=P) (t:=e) u;cases y with
    |fH J=>refine Out.pure F ?_ (.ptr J) o;simp[Instr.indexAt,asIntOf,run_underlying hu,q,l,sizeOf,run_typeInfo w d,g,Addr.add_lit]
   ·exact h.elim
  ·rename_i id off;split at h
   ·rename_i n e he;obtain⟨u,q,l,o⟩:=h;have hu:=A8 he;obtain⟨inf,d,g,_⟩:=bS (P:=P) (t:=e) u;cases y with
    |ptr J=>refine Out.pure F ?_ (.ptr J) o;simp[Instr.indexAt,asIntOf,run_underlying hu,q,l,sizeOf,run_typeInfo w d,g,Addr.add_lit,Instr.sureAddr]
   ·exact h.elim
  ·rename_i cells;split at h
   ·rename_i n e he;obtain⟨u,q,l,o⟩:=h;have hu:=A8 he;obtain⟨inf,d,g,_⟩:=bS (P:=P) (t:=e) u;cases y with
    |iv vs hm H=>
     rename_i b off;refine Out.pure F (v:= .pointer (some ⟨b,off+i.toNat*P.cellsOf e,none⟩)) ?_ (.iv (fun k=>vs (i.toNat*P.cellsOf e+k)) (fun k j=> ?_) (fun k j=> ?_)) o
     ·simp[Instr.indexAt,asIntOf,run_underlying hu,q,l,sizeOf,run_typeInfo w d,g,Addr.add_lit,Instr.sureAddr]
     ·rw[Nat.add_assoc];exact hm _ (by simp at j;omega)
     ·have:=H (i.toNat*P.cellsOf e+k) (by simp at j;omega);simpa[getD_eq_getElem?_getD]using this
   ·exact h.elim
  ·exact h.elim
 ·exact h.elim
def oN (P:Program) (t:TypeId) (x i:AV) (K:AV→Prop):Prop:=
 match i,x with
 |.sc (.int _ i),.sc (.string s)=>P.underlying t=some .string∧0≤i∧i<s.size∧K (.sc (.int .u8 (s.data.toList.getD i.toNat 0).toNat))
 |.sc (.int _ i),.agg cells=>match rK P t with
  |some (n,e)=>match fX P e with
   |.one=>0≤i∧i<n∧i<cells.length∧K (cells.getD i.toNat .any)
   |.agg m=>m≠0∧0≤i∧i<n∧i.toNat*m+m≤cells.length∧K (.agg ((cells.drop (i.toNat*m)).take m))
   |.bad=>False
  |none=>False
 | _,_ =>False
def E0 (I:Inv P G σ w) {t:TypeId}{x O:AV}{v M:Value}(F:aV P G x v) (u:aV P G O M) (h:oN P t x O fun v=>K v σ):
 Out P G K Pn (((do pure (Next.value (←Instr.index t v M))):Sem Next).run P w):=by
 unfold oN at h;split at h
 ·rename_i k i s;cases u;cases F;obtain⟨hu,h1,y,L⟩:=h;have g:i.toNat<s.size:=by omega
  refine Out.pure I (v:= .int .u8 (s.data.toList.getD i.toNat 0).toNat) ?_ (.sc _) L;have T:s[i.toNat]? =some (s.data.toList.getD i.toNat 0):=by
   have:s[i.toNat]? =some s[i.toNat]:=getElem?_pos s i.toNat g;rw[this];congr 1;have o:i.toNat<s.data.size:=g;have V:s.data.toList.getD i.toNat 0=s.data[i.toNat]:=by rw[getD_eq_getElem?_getD,getElem?_eq_getElem (by simpa using o)];simp
   rw[V];rfl
  simp[Instr.index,asIntOf,run_underlying hu,h1,T]
 ·rename_i k i cells;cases u;split at h
  ·rename_i n e he;have hu:=A8 he;split at h
   ·rename_i hl;obtain⟨h1,y,L,J⟩:=h;obtain⟨k1,E⟩:=vD (w:=w) hl;obtain⟨inf,d,j,_⟩:=bS (P:=P) (t:=e) (by omega);cases F with
    |agg vs l H=>
     have g:i.toNat<vs.length:=by omega
     refine Out.pure I (v:=vs.getD i.toNat undef) ?_ (H _ (by omega)) J;simp[Instr.index,asIntOf,run_underlying hu,h1,y,part,k1,sizeOf,run_typeInfo w d,j,E,g]
   ·rename_i m hl;obtain⟨h0,h1,y,L,J⟩:=h;obtain⟨k1,E⟩:=vE (w:=w) hl;obtain⟨inf,d,j,_⟩:=bS (P:=P) (t:=e) (by omega);cases F with
    |agg vs l H=>
     refine Out.pure I (v:= .agg ((vs.drop (i.toNat*m)).take m).toArray) ?_ (.agg _ (by simp;omega) (fun k Q=> ?_)) J
     ·have X:vs.toArray.extract (i.toNat*m) (i.toNat*m+m)=((vs.drop (i.toNat*m)).take m).toArray:=by
       have:i.toNat*m+m-i.toNat*m=m:=by omega
       simp[this]
      simp[Instr.index,asIntOf,run_underlying hu,h1,y,part,k1,sizeOf,run_typeInfo w d,j,E];try simpa using X
     ·have q:k<m:=by simp at Q;omega
      have:=H (i.toNat*m+k) (by omega);simp only[getD_eq_getElem?_getD]at this⊢;rw[getElem?_take_of_lt q,getElem?_take_of_lt q,getElem?_drop,getElem?_drop];exact this
   ·exact h.elim
  ·exact h.elim
 ·exact h.elim
def ka (x:Option AV) (d:Nat) (K:Nat→Prop):Prop:=
 match x with
 |none=>K d
 |some (.sc (.int _ n))=>0≤n∧K n.toNat
 | _ =>False
def gh (P:Program) (t:TypeId) (x:AV) (lo g mx:Option AV) (K:AV→Prop):Prop:=
 match mx with
 |some _ =>False
 |none=>match x with
  |.sc (.string s)=>P.underlying t=some .string∧ka g s.size fun h=>h≤s.size∧ka lo 0 fun l=>l≤h∧K (.sc (.string (s.extract l h)))
  |.ao e elems _ d=>cr P t=some e∧P.cellsOf e≠0∧ka g elems.length fun h=>h≤elems.length∧ka lo 0 fun l=>l≤h∧K (.ao e ((elems.take h).drop l) .aI d)
  |.fH id off len cap=>match cr P t with
   |some e=>P.cellsOf e≠0∧ka g len fun h=>h≤cap∧ka lo 0 fun l=>l≤h∧l<cap∧K (.fH id (off+l*P.cellsOf e) (h-l) (cap-l))
   |none=>False
  | _ =>False
def EY (hinv:Inv P G σ w) {t:TypeId}{x:AV}{v:Value}{lo hi mx:Option AV}{E F I:Option Value}(hx:aV P G x v)
 (ab:(lo=none∧E=none)∨ ∃a b,lo=some a∧E=some b∧aV P G a b) (ac:(hi=none∧F=none)∨ ∃a b,hi=some a∧F=some b∧aV P G a b)
 (a6:(mx=none∧I=none)∨ ∃a b,mx=some a∧I=some b∧aV P G a b)
 (h:gh P t x lo hi mx fun v=>K v σ):
 Out P G K Pn (((do pure (Next.value (←Instr.sliceAt t v E F I))):Sem Next).run P w):=by
 unfold gh at h;cases mx with
 |some m=>exact h.elim
 |none=>
  obtain⟨_,rfl⟩: _ ∧I=none:=by
   rcases a6 with h|⟨a,b,h,_⟩
   ·exact h
   ·cases h
  have bound:∀(o:Option AV) (vo:Option Value) (d:Nat) (Q:Nat→Prop),((o=none∧vo=none)∨ ∃a b,o=some a∧vo=some b∧aV P G a b)→ka o d Q→
   ∃k,Q k∧((o=none∧vo=none∧k=d)∨ ∃kd n,vo=some (.int kd n)∧0≤n∧k=n.toNat):=by
   intro o vo d Q h1 h2;rcases h1 with⟨rfl,rfl⟩|⟨a,b,rfl,rfl,Y⟩
   ·exact⟨d,h2,.inl ⟨rfl,rfl,rfl⟩⟩
   ·unfold ka at h2;split at h2
    ·rename_i h;cases h
    ·rename_i kd n he;cases he;cases Y;exact⟨n.toNat,h2.2,.inr ⟨kd,n,rfl,h2.1,rfl⟩⟩
    ·exact h2.elim
  have q:∀(ar:Bool) (len cap h l:Nat),h≤cap→l≤h→((hi=none∧F=none∧h=len)∨ ∃kd n,F=some (.int kd n)∧0≤n∧h=n.toNat)→
   ((lo=none∧E=none∧l=0)∨ ∃kd n,E=some (.int kd n)∧0≤n∧l=n.toNat)→
   (Instr.sliceBounds ar len cap E F none).run P w= .ok (l,h,cap) w:=by
   intro ar len cap h l hc hl hh a7;have sb:∀(kd:IntKind) (n:Int) (y:Nat) (code:BoundsCode),0≤n→n.toNat≤y→(Instr.sliceBound (.int kd n) y code).run P w= .ok n.toNat w:=by intro kd n y code h0 h1;have:0≤n∧n≤(y:Int):=⟨h0,by omega⟩;simp[Instr.sliceBound,asIntOf,this]
   rcases hh with⟨_,rfl,rfl⟩|⟨kd,n,rfl,a0,rfl⟩<;>rcases a7 with⟨_,rfl,rfl⟩|⟨ap,n2,rfl,av,rfl⟩
   ·simp[Instr.sliceBounds]
   ·simp[Instr.sliceBounds,sb ap n2 _ _ av hl]
   ·simp[Instr.sliceBounds,sb kd n _ _ a0 hc]
   ·simp[Instr.sliceBounds,sb kd n _ _ a0 hc,sb ap n2 _ _ av hl]
  simp only at h;split at h
  ·rename_i s;obtain⟨hu,h⟩:=h;obtain⟨h1,⟨T,h⟩,k1⟩:=bound _ _ _ _ ac h;obtain⟨l1,⟨O,h⟩,V⟩:=bound _ _ _ _ ab h;cases hx;refine Out.pure hinv (v:= .string (s.extract l1 h1)) ?_ (.sc _) h;simp[Instr.sliceAt,Instr.slice,run_underlying hu,q false s.size s.size h1 l1 T O k1 V]
  ·rename_i e elems own be;obtain⟨he,X,hA⟩:=h;have hu:=eP he;obtain⟨inf,g,H,_⟩:=bS (P:=P) (t:=e) X;obtain⟨h1,⟨T,hB⟩,k1⟩:=bound _ _ _ _ ac hA;clear hA;obtain⟨l1,⟨O,hC⟩,V⟩:=bound _ _ _ _ ab hB;clear hB;cases hx with
   |iP ho=>
    simp only[length_nil]at T;have Y:=q true 0 0 h1 l1 (by omega) O k1 V;have e1:h1=0:=by omega
    have e2:l1=0:=by omega
    subst e1 e2;refine Out.pure hinv (v:= .slice none 0 0) ?_ ?_ hC
    ·simp[Instr.sliceAt,Instr.slice,run_underlying hu,Y,sizeOf,run_typeInfo w g]
    ·simpa using aV.iP (P:=P) (G:=G) (e:=e) (own:= .aI) trivial
   |pL=>
    rename_i a cap;have Y:=q true 0 cap h1 l1 (by simp at T;omega) O k1 V;have e1:h1=0:=by simp at T;omega
    have e2:l1=0:=by omega
    subst e1 e2;refine Out.pure hinv (v:= .slice (some a) 0 cap) ?_ ?_ hC
    ·simp[Instr.sliceAt,Instr.slice,run_underlying hu,Y,sizeOf,run_typeInfo w g,Addr.add]
    ·simpa using aV.pL (P:=P) (G:=G) (e:=e)
   |ao vs hl hm Y hc ho=>
    rename_i b off cap;have u:=q true elems.length cap h1 l1 (by omega) O k1 V;have hlen:((elems.take h1).drop l1).length=h1-l1:=by simp;omega
    have M:∀i,i<h1-l1→((elems.take h1).drop l1).getD i .any=elems.getD (l1+i) .any:=by intro i J;simp only[getD_eq_getElem?_getD];rw[getElem?_drop,getElem?_take_of_lt (by omega)]
    by_cases L:cap=l1
    ·subst L;refine Out.pure hinv (v:= .slice (some ⟨b,off,none⟩) (h1-cap) (cap-cap)) ?_ ?_ hC
     ·simp[Instr.sliceAt,Instr.slice,run_underlying hu,u,sizeOf,run_typeInfo w g]
     ·exact aV.Eg vs hlen (fun i J=>by omega) (fun k hk=>by rw[show h1-cap=0 by omega]at hk;omega) (fun i j J _ =>by omega) (by omega) trivial
    ·refine Out.pure hinv (v:= .slice (some ⟨b,off+l1*P.cellsOf e,none⟩) (h1-l1) (cap-l1)) ?_ ?_ hC
     ·simp[Instr.sliceAt,Instr.slice,run_underlying hu,u,sizeOf,run_typeInfo w g,L,H,Addr.add_lit]
     ·refine aV.Eg (fun k=>vs (l1*P.cellsOf e+k)) hlen (fun i J=> ?_) (fun k hk=> ?_) (fun i j J hj=> ?_) (by omega) trivial
      ·rw[M i (by omega)];exact hl _ (by omega)
      ·rw[Nat.add_assoc];refine hm _ ?_;have:(l1+(h1-l1))*P.cellsOf e≤elems.length*P.cellsOf e:=Nat.mul_le_mul_right _ (by omega);rw[Nat.add_mul]at this;omega
      ·rw[M i (by omega)];have:=Y (l1+i) j (by omega) hj;rw[Nat.add_mul]at this;simpa[Nat.add_assoc]using this
  ·rename_i id off len cap;split at h
   ·rename_i e he;obtain⟨X,hA⟩:=h;have hu:=eP he;obtain⟨inf,g,H,_⟩:=bS (P:=P) (t:=e) X;obtain⟨h1,⟨T,hB⟩,k1⟩:=bound _ _ _ _ ac hA;clear hA;obtain⟨l1,⟨O,q3,hC⟩,V⟩:=bound _ _ _ _ ab hB;clear hB;cases hx with
    |fH hb=>
     rename_i b;have u:=q true len cap h1 l1 T O k1 V;have L:¬cap=l1:=by omega
     refine Out.pure hinv (v:= .slice (some ⟨b,off+l1*P.cellsOf e,none⟩) (h1-l1) (cap-l1)) ?_ (.fH hb) hC;simp[Instr.sliceAt,Instr.slice,run_underlying hu,u,sizeOf,run_typeInfo w g,L,H,Addr.add_lit]
   ·exact h.elim
  ·exact h.elim
end Go.AW
