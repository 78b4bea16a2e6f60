/- A layer of abstract values over the model's machine: own work for this claim, part AwCode. -/
import Derived.Orders
import Derived.Still
import Derived.Test.YtknalmoackcpbaaGreatAwOps4
set_option linter.all false
namespace Go.AW
open Go Go.RowKit
variable {P:Program} {G:Gh} {σ:AS} {w:World} {K Pn:AV→AS→Prop}
def lB (P:Program) (f:FuncId):Bool:=
 match P.funcs[f]? with
 |some fn=>fn.body.isSome&& !(fn.name== "runtime.NumGoroutine")
 |none=>false
theorem pW {f:FuncId}(h:lB P f=true) (args:Array Value):(callFunc f args).run P w= .ok (.enter f args) w:=by
 unfold lB at h;split at h
 ·rename_i fn hf;simp only[Bool.and_eq_true,Bool.not_eq_true']at h;have g:fn.body.isNone=false:=by
   cases i:fn.body with
   |none=>rw[i]at h;simp at h
   |some c=>rfl
  have j:¬fn.name= "runtime.NumGoroutine" :=by simpa using h.2
  have d:¬fn.body=none:=by intro e;rw[e]at g;simp at g
  simp[callFunc,hf,j,d]
 ·cases h
def yl (P:Program) (G:Gh) (as:List AV) (vs:Array Value):Prop:=vs.size=as.length∧ ∀i,i<as.length→ba P G (as.getD i .any) (vs.getD i undef)
theorem yl.mono {G':Gh}(hle:G.Le G') {as:List AV}{vs:Array Value}(h:yl P G as vs):yl P G' as vs:=⟨h.1,fun i d=>(h.2 i d).mono hle⟩
def kS (P:Program) (G:Gh) (R d:AV→AS→Prop):Ending→World→Prop
 |.returned v,w'=> ∃G' σ' r,G.Le G'∧Inv P G' σ' w'∧ba P G' r v∧R r σ'
 |.panicked [e],w'=>e.recovered=false∧e.goexit=false∧ ∃G' σ' r,G.Le G'∧Inv P G' σ' w'∧ba P G' r e.v∧d r σ'
 | _,_ =>False
structure aa (P:Program) (f:FuncId) (args:List AV) (σ:AS) (R Rp:AV→AS→Prop):Prop where
 body:lB P f=true
 run:∀(G:Gh) (w:World) (vals:Array Value),Inv P G σ w→yl P G args vals→Calls P f vals w (kS P G R Rp)
theorem aa.mono {f:FuncId}{args:List AV}{R i j g:AV→AS→Prop}(h:aa P f args σ R i) (h1:∀r σ',R r σ'→j r σ') (q:∀r σ',i r σ'→g r σ'):aa P f args σ j g:=
 ⟨h.body,fun G w vals o l=>(h.run G w vals o l).mono fun e w' he=>by
  unfold kS at he⊢;split at he
  ·obtain⟨G',σ',r,a,b,c,d⟩:=he;exact⟨G',σ',r,a,b,c,h1 _ _ d⟩
  ·obtain⟨x,y,G',σ',r,a,b,c,d⟩:=he;exact⟨x,y,G',σ',r,a,b,c,q _ _ d⟩
  ·exact he.elim⟩
def AY (P:Program) (s:Fr) (σ:AS) (K Pn:AV→AS→Prop):Op→Prop
 |.move x=>K (ev s x) σ
 |.assign x=>K (ev s x) σ
 |.pick c a b=>match ev s c with|.sc (.bool t)=>K (if t then ev s a else ev s b) σ| _ =>False
 |.alloc e=>AJ P σ e K
 |.box e x=>M7 P σ e (ev s x) K
 |.build t parts=>rV P t (parts.toList.map fun p=>(p.1,ev s p.2)) fun v=>K v σ
 |.buildSlice t n parts=>eK P σ t n (parts.toList.map fun p=>(p.1,ev s p.2)) K
 |.load t a=>fx P σ t (ev s a) fun v=>K v σ
 |.store t a x=>ux P σ t (ev s a) (ev s x) fun σ'=>K .any σ'
 |.nilCheck x=>iX (ev s x) fun v=>K v σ
 |.binOp op t x y _ =>ij P op t (ev s x) (ev s y) fun v=>K v σ
 |.unOp op _ x=>PC op (ev s x) fun v=>K v σ
 |.convert src dst x=>fX P src dst (ev s x) fun v=>K v σ
 |.makeInterface t x=>P.concrete t=true∧K (.rX t (ev s x)) σ
 |.makeFunc f first cap=>K (.fn f (first.toList.map (ev s)) (cap.toList.map (ev s))) σ
 |.makeMap _ r=>r.isNone=true∧ ∀id,σ id=none→K (.mp id) (σ.set id (.map []))
 |.range t x=>nE P σ t (ev s x) K
 |.next it str=>zf σ (ev s it) str K
 |.entry it=>uy σ (ev s it) fun v=>K v σ
 |.makeSlice t l c=>ku P σ t (ev s l) (ev s c) K
 |.slice t x lo d mx=>gx P t (ev s x) (lo.map (ev s)) (d.map (ev s)) (mx.map (ev s)) fun v=>K v σ
 |.fieldAddr t x f=>fP P t (ev s x) f fun v=>K v σ
 |.field t x f=>oT P t (ev s x) f fun v=>K v σ
 |.indexAddr t x i=>eV P t (ev s x) (ev s i) fun v=>K v σ
 |.index t x i=>oS P t (ev s x) (ev s i) fun v=>K v σ
 |.extract x i=>mr (ev s x) i fun v=>K v σ
 |.panic x=>match ev s x with|.rX t v=>Pn (.rX t v) σ| _ =>False
 |.call c=>match c.callee with
  |.builtin b=>bG P σ b c.argTypes.toList (c.args.toList.map (ev s)) K
  | _ =>False
 | _ =>False
theorem Inv.allocMap (h:Inv P G σ w):∃G',G.Le G'∧G'.inj G.top=some w.heap.size∧Inv P G' (σ.set G.top (.map [])) (w.alloc (.map #[] 0)):=by
 have hle:=G.sN w.heap.size (h.top _ (Nat.le_refl _)).1;have g:=h.bind (.map #[] 0);refine⟨_,hle,by simp[Gh.bind],g.below,g.base,g.mem,g.top,(fun i b e=>⟨(g.dA i b e).1,(g.dA i b e).2.1,fun ty cs j=>(g.dA i b e).2.2 ty cs (by
  by_cases d:i=G.top
  ·subst d;simp[AS.set]at j
  ·simpa[AS.set,d]using j)⟩),g.fN,?_,?_,?_,?_,g.own⟩
 ·intro i ty cs e;by_cases d:i=G.top
  ·simp[AS.set,d]at e
  ·simp[AS.set,d]at e;exact g.cells i ty cs e
 ·intro i es e;by_cases d:i=G.top
  ·subst d;simp[AS.set]at e;subst e;exact⟨w.heap.size,#[],0,by simp[Gh.bind],heap_alloc_new w _,⟨rfl,by constructor<;>simp⟩,fun k l=>by simp at l⟩
  ·simp[AS.set,d]at e;exact g.maps i es e
 ·intro i s p e;by_cases d:i=G.top
  ·simp[AS.set,d]at e;subst e;cases p
  ·simp[AS.set,d]at e;exact g.dY i s p e
 ·intro i n e;by_cases d:i=G.top
  ·simp[AS.set,d]at e
  ·simp[AS.set,d]at e;exact g.tok i n e
theorem DC {s:Fr}{ρ:Operand→Value}(d:∀x,ba P G (ev s x) (ρ x)) (o:Option Operand):(o.map (ev s)=none∧o.map ρ=none)∨ ∃a b,o.map (ev s)=some a∧o.map ρ=some b∧ba P G a b:=by
 cases o with
 |none=>exact .inl ⟨rfl,rfl⟩
 |some x=>exact .inr ⟨_,_,rfl,rfl,d x⟩
theorem MY (j:Inv P G σ w) {s:Fr}{ρ:Operand→Value}(g:∀x,ba P G (ev s x) (ρ x)) (o:Oper) (h:AY P s σ K Pn o.op):Out P G K Pn ((execOp ρ o).run P w):=by
 obtain⟨dst,op,ty,pos,after,guard⟩:=o;cases op<;>simp only[AY]at h
 case move x=>exact⟨G,σ,_,.refl G,j,g x,h⟩
 case assign x=>exact⟨G,σ,_,.refl G,j,g x,h⟩
 case pick c a b=>
  split at h
  ·rename_i t I;have A:=g c;rw[I]at A;generalize E:ρ c=v at A;cases A;have u:(execOp ρ ⟨dst,.pick c a b,ty,pos,after,guard⟩).run P w= .ok (.value (if t then ρ a else ρ b)) w:=by simp[execOp,E,asBool]
   rw[u];refine⟨G,σ,_,.refl G,j,?_,h⟩;cases t
   ·exact g b
   ·exact g a
  ·exact h.elim
 case alloc e=>exact Ew j h
 case box e x=>exact KI j (g x) h
 case build t parts=>exact Ev j g h
 case buildSlice t n parts=>exact vk j g h
 case load t a=>exact HF j (g a) h
 case store t a x=>exact El j (g a) (g x) h
 case nilCheck x=>exact yj (o:=⟨dst,.nilCheck x,ty,pos,after,guard⟩) j rfl (g x) h
 case binOp op t x y O=>exact KJ j (g x) (g y) h
 case unOp op t x=>exact M3 j (g x) h
 case convert src dst x=>exact AE j (g x) h
 case makeInterface t x=>exact Out.pure j (run_makeInterface w t (ρ x) h.1) (.rX (g x)) h.2
 case makeFunc f first cap=>
  refine Out.pure j (v:= .func f (first.map ρ) (cap.map ρ)) rfl ?_ h;have:=ba.fn (P:=P) (G:=G) (f:=f) (first:=first.toList.map (ev s)) (captured:=cap.toList.map (ev s)) (first.toList.map ρ) (cap.toList.map ρ) (by simp) (by simp)
   (fun i q=>by simp at q;simp[List.getD_eq_getElem?_getD,q];exact g _) (fun i q=>by simp at q;simp[List.getD_eq_getElem?_getD,q];exact g _)
  have e:∀a:Array Operand,(a.toList.map ρ).toArray=a.map ρ:=fun a=>by apply Array.ext';simp
  rw[e,e]at this;exact this
 case makeMap t r=>
  cases r with
  |none=>obtain⟨G',M,L,J⟩:=j.allocMap;refine Out.value (v:= .map (some w.heap.size)) ?_ M J (.mp L) (h.2 _ j.fresh);simp[Instr.makeMap]
  |some x=>simp at h
 case range t x=>exact En j (g x) h
 case next it str=>exact HD j (g it) h
 case entry it=>exact Er j (g it) h
 case makeSlice t l c=>exact xC j (g l) (g c) h
 case slice t x lo q mx=>exact Em j (g x) (DC g lo) (DC g q) (DC g mx) h
 case fieldAddr t x f=>exact xE j (g x) h
 case field t x f=>exact Ep j (g x) h
 case indexAddr t x i=>exact xD j (g x) (g i) h
 case index t x i=>exact Eo j (g x) (g i) h
 case extract x i=>exact AD j (g x) h
 case panic x=>
  split at h
  ·rename_i t v H;have A:=g x;rw[H]at A;have D:=A;generalize E:ρ x=S at A D;cases A with
   |rX h1=>
    rename_i y;have u:(execOp ρ ⟨dst,.panic x,ty,pos,after,guard⟩).run P w= .halt (.panic (.iface t y)) w:=by show(do pure (Next.value (←Instr.panic (ρ x))):Sem Next).run P w= _;rw[E];rfl
    rw[u];exact⟨G,σ,_,.refl G,j,D,h⟩
  ·exact h.elim
 case call c=>
  obtain⟨callee,args,F⟩:=c;cases callee with
  |builtin b=>show Out P G K Pn ((do let d ←resolve ρ ⟨.builtin b,args,F⟩ ty;invoke d.target d.args:Sem Next).run P w);simp only[resolve,Sem.run_bind,Sem.run_pure,Result.andThen_ok,invoke];exact AG j g h
  |value f=>exact h.elim
  |invoke r m=>exact h.elim
 all_goals exact h.elim
end Go.AW
namespace Go.AW
open Go Go.RowKit
variable {P:Program} {G:Gh} {σ:AS} {w:World}
inductive Sx where
 |normal|exit (id:Nat)|ret|panic (v:AV)
abbrev AQ:=Sx→Fr→AS→Prop
def LQ (P:Program) (n:Nat) (ds:List Deferred) (Q:AQ) (G0:Gh):Exit→Act→World→Prop
 |.normal,a,w=> ∃G s σ,G0.Le G∧oW P G n ds s σ a w∧Q .normal s σ
 |.exit id,a,w=> ∃G s σ,G0.Le G∧oW P G n ds s σ a w∧Q (.exit id) s σ
 |.ret,a,w=> ∃G s σ,G0.Le G∧oW P G n ds s σ a w∧Q .ret s σ
 |.panic [e],a,w=>e.recovered=false∧e.goexit=false∧ ∃G s σ v,G0.Le G∧oW P G n ds s σ a w∧ba P G v e.v∧Q (.panic v) s σ
 | _,_,_ =>False
def ae (P:Program) (n:Nat) (ds:List Deferred) (c:Code) (Q:AQ) (s:Fr) (σ:AS):Prop:=
 ∀(G0 G:Gh) (a:Act) (w:World),G0.Le G→oW P G n ds s σ a w→c.wp P (LQ P n ds Q G0) a w
def ag (P:Program) (h:AV) (args:List AV) (σ:AS) (K g:AV→AS→Prop):Prop:=
 match h with
 |.sc (.func (.func f) a b)=>a.size=0∧b.size=0∧ ∃R d,aa P f args σ R d∧(∀r σ',R r σ'→K r σ')∧(∀r σ',d r σ'→g r σ')
 |.fn (.func f) first cap=> ∃R d,aa P f (first++args++cap) σ R d∧(∀r σ',R r σ'→K r σ')∧(∀r σ',d r σ'→g r σ')
 | _ =>False
theorem CM {g:AV}{args:List AV}{K i:AV→AS→Prop}(h:ag P g args σ K i):
 (∃f,g= .sc (.func (.func f) #[] #[])∧ ∃R d,aa P f args σ R d∧(∀r σ',R r σ'→K r σ')∧(∀r σ',d r σ'→i r σ'))∨
 (∃f first cap,g= .fn (.func f) first cap∧ ∃R d,aa P f (first++args++cap) σ R d∧(∀r σ',R r σ'→K r σ')∧(∀r σ',d r σ'→i r σ')):=by
 unfold ag at h;split at h
 ·rename_i f a b;obtain⟨h1,o,l⟩:=h;have ha:a= #[]:=Array.size_eq_zero_iff.1 h1;have j:b= #[]:=Array.size_eq_zero_iff.1 o;subst ha j;exact .inl ⟨f,rfl,l⟩
 ·exact .inr ⟨_,_,_,rfl,h⟩
 ·exact h.elim
def bY (P:Program) (op:Op) (s:Fr) (σ:AS) (d g:AV→AS→Prop):Prop:=
 match op with
 |.call ⟨.value f,args,_⟩=>ag P (ev s f) (args.toList.map (ev s)) σ d g
 |op=>AY P s σ d g op
def lS (P:Program) (n:Nat) (o:Oper) (s:Fr) (σ:AS) (K:Fr→AS→Prop) (Q:AQ):Prop:=
 (match o.dst with|none=>True|some d=>d<n)∧bY P o.op s σ (fun v σ'=>K (s.put o.dst v) σ') (fun v σ'=>Q (.panic v) s σ')
def ju (ops:Array Oper) (s:Fr) (j:Nat):AV:=match (ops[j]?).bind (·.dst)with|some d=>s d|none=> .any
abbrev mG:AV:= .sc undef
def ye:AV→Bool→Bool
 |.sc (.bool b),w=>b==w
 | _,_ =>false
def O1:AV→Bool→Bool
 |.sc (.bool b),w=>b !=w
 |.sc (.tuple _),_ =>true
 | _,_ =>false
def iJ (g:AV) (want:Bool) (A B:Prop):Prop:=(ye g want=true∧A)∨(O1 g want=true∧B)
theorem uE {g:AV}{want:Bool}{A B d B':Prop}(h:iJ g want A B) (h1:A→d) (i:B→B'):iJ g want d B':=
 h.imp (fun h=>⟨h.1,h1 h.2⟩) (fun h=>⟨h.1,i h.2⟩)
def eZ (P:Program) (n:Nat) (ops:Array Oper) (o:Oper) (s:Fr) (σ:AS) (K:Fr→AS→Prop) (Q:AQ):Prop:=
 match o.guard with
 |none=>lS P n o s σ K Q
 |some (j,want)=>iJ (ju ops s j) want (lS P n o s σ K Q) ((match o.dst with|none=>True|some d=>d<n)∧K (s.put o.dst mG) σ)
def kr (P:Program) (n:Nat) (ops:Array Oper) (Q:AQ):List Oper→Fr→AS→Prop
 |[],s,σ=>Q .normal s σ
 |o::rest,s,σ=>eZ P n ops o s σ (kr P n ops Q rest) Q
theorem Ga {o:Oper}{a:Act}{next next':Act→World→Prop}{Q:Exit→Act→World→Prop}{r:Result Next}(h:∀a w,next a w→next' a w) (d:o.upon P a next Q r):o.upon P a next' Q r:=by
 cases r with
 |ok n w'=>
  cases n<;>simp only[Oper.upon]at d⊢ <;>
   first
    |exact h _ _ d
    |exact Calls.mono d (fun e g he=>by cases e<;>first|exact h _ _ he|exact he)
    |exact Rows.mono d (fun _ _ he=>h _ _ he)
 |halt x w'=>cases x<;>simp only[Oper.upon]at d⊢ <;>exact d
theorem yu {n:Nat}{ds:List Deferred}{G0:Gh}(o:Oper) {s:Fr}{K:Fr→AS→Prop}{Q:AQ}(h:lS P n o s σ K Q) (hle:G0.Le G) {a:Act}(u:oW P G n ds s σ a w)
 {next:Act→World→Prop} (Z:∀G' s' σ' a' w',G0.Le G'→oW P G' n ds s' σ' a' w'→K s' σ'→next a' w'):o.wp P a w next (LQ P n ds Q G0):=by
 obtain⟨hd,h⟩:=h;have J:∀t,o.dst=some t→t<n:=by intro t ht;rw[ht]at hd;exact hd
 have A:=u.ev;have plain:AY P s σ (fun v σ'=>K (s.put o.dst v) σ') (fun v σ'=>Q (.panic v) s σ') o.op→o.wp P a w next (LQ P n ds Q G0):=by
  intro h;have:=MY u.inv A o h;unfold Oper.wp;generalize (execOp a.eval o).run P w=r at this⊢;cases r with
  |ok nx w'=>
   cases nx<;>simp only[Out]at this<;>first|exact this.elim|skip
   ·obtain⟨G',σ',av,l,H,F,E⟩:=this;exact Z G' _ _ _ _ (hle.trans l) (u.put l H o.dst J F) E
   ·obtain⟨G',σ',av,l,H,F,E⟩:=this;exact Z G' _ _ _ _ (hle.trans l) (u.put l H o.dst J F) E
  |halt x w'=>
   cases x<;>simp only[Out]at this<;>first|exact this.elim|skip
   obtain⟨G',σ',av,l,H,F,E⟩:=this;exact⟨rfl,rfl,G',s,σ',av,hle.trans l,⟨H,u.size,u.ds,fun i=>(u.rep i).mono l⟩,F,E⟩
 obtain⟨dst,op,ty,pos,after,guard⟩:=o;have q:∀(f:Operand) (args:Array Operand) (g:Array TypeId),op= .call ⟨.value f,args,g⟩→
  ag P (ev s f) (args.toList.map (ev s)) σ (fun v σ'=>K (s.put dst v) σ') (fun v σ'=>Q (.panic v) s σ')→Oper.wp P ⟨dst,op,ty,pos,after,guard⟩ a w next (LQ P n ds Q G0):=by
  intro f args g Y h;subst Y;have hf:=A f;have fin:∀(j:FuncId) (as:List AV) (vals:Array Value) (R M:AV→AS→Prop),aa P j as σ R M→yl P G as vals→(∀r σ',R r σ'→K (s.put dst r) σ')→(∀r σ',M r σ'→Q (.panic r) s σ')→
   (execOp a.eval ⟨dst,.call ⟨.value f,args,g⟩,ty,pos,after,guard⟩).run P w= .ok (.enter j vals) w→Oper.wp P ⟨dst,.call ⟨.value f,args,g⟩,ty,pos,after,guard⟩ a w next (LQ P n ds Q G0):=by
   intro j as vals R M L hr h1 U T;unfold Oper.wp;rw[T,Oper.upon_enter];refine(L.run G w vals u.inv hr).mono fun e w' he=> ?_;unfold kS at he;split at he
   ·obtain⟨G',σ',r,l,H,F,E⟩:=he;exact Z G' _ _ _ _ (hle.trans l) (u.put l H dst J F) (h1 _ _ E)
   ·obtain⟨x,y,G',σ',r,l,H,F,E⟩:=he;exact⟨x,y,G',s,σ',r,hle.trans l,⟨H,u.size,u.ds,fun i=>(u.rep i).mono l⟩,F,U _ _ E⟩
   ·exact he.elim
  have D:yl P G (args.toList.map (ev s)) (args.map a.eval):=⟨by simp,fun i V=>by simp at V;simp[List.getD_eq_getElem?_getD,V];exact A _⟩;rcases CM h with⟨j,I,R,M,L,h1,U⟩|⟨j,first,cap,I,R,M,L,h1,U⟩
  ·rw[I]at hf;generalize X:a.eval f=v at hf;cases hf;refine fin j _ _ R M L D h1 U ?_;show(do let d ←resolve a.eval ⟨.value f,args,g⟩ ty;invoke d.target d.args:Sem Next).run P w= _;simp only[resolve,X,Deferred.ofValue,Sem.run_bind,Sem.run_pure,Result.andThen_ok,invoke];have:=pW (w:=w) L.body (args.map a.eval);simpa using this
  ·rw[I]at hf;generalize X:a.eval f=v at hf;cases hf with
   |fn O S lf lc ab ac=>
    refine fin j _ (O.toArray++args.map a.eval++S.toArray) R M L ?_ h1 U ?_
    ·refine⟨by simp[lf,lc],fun i V=> ?_⟩;simp only[List.length_append,List.length_map,Array.length_toList]at V;have e1:(O.toArray++args.map a.eval++S.toArray).getD i undef=(O++(args.toList.map a.eval)++S).getD i undef:=by
      have:O.toArray++args.map a.eval++S.toArray=(O++(args.toList.map a.eval)++S).toArray:=by apply Array.ext';simp
      rw[this];simp[List.getD_eq_getElem?_getD]
     rw[e1];by_cases h3:i<first.length
     ·rw[aO _ _ _ (by simp;omega),aO _ _ _ h3,aO _ _ _ (by simp;omega),aO _ _ _ (by omega)];exact ab i h3
     ·by_cases h4:i<first.length+args.size
      ·rw[aO _ _ _ (by simp;omega),aX _ _ _ (by omega),aO _ _ _ (by simp;omega),aX _ _ _ (by omega),lf];have:=D.2 (i-first.length) (by simp;omega);have e2:(args.map a.eval).getD (i-first.length) undef=(args.toList.map a.eval).getD (i-first.length) undef:=by
        have:args.map a.eval=(args.toList.map a.eval).toArray:=by apply Array.ext';simp
        rw[this];simp[List.getD_eq_getElem?_getD]
       rw[e2]at this;exact this
      ·rw[aX _ _ _ (by simp;omega),aX _ _ _ (by simp;omega)];have e3:i-(first++List.map (ev s) args.toList).length=i-first.length-args.size:=by have e0:args.toList.length=args.size:=Array.length_toList;rw[List.length_append,List.length_map,e0];omega
       have e4:i-(O++List.map a.eval args.toList).length=i-first.length-args.size:=by have e0:args.toList.length=args.size:=Array.length_toList;rw[List.length_append,List.length_map,e0];omega
       rw[e3,e4];exact ac _ (by omega)
    ·show(do let d ←resolve a.eval ⟨.value f,args,g⟩ ty;invoke d.target d.args:Sem Next).run P w= _;simp only[resolve,X,Deferred.ofValue,Sem.run_bind,Sem.run_pure,Result.andThen_ok,invoke];exact pW (w:=w) L.body _
 simp only at h plain;unfold bY at h;cases op
 case call c=>
  obtain⟨callee,args,g⟩:=c;cases callee
  case value f=>exact q f args g rfl h
  all_goals exact plain h
 all_goals exact plain h
theorem oM {n:Nat}{ds:List Deferred}{G0:Gh}{ops:Array Oper}(o:Oper) {s:Fr}{K:Fr→AS→Prop}{Q:AQ}(h:eZ P n ops o s σ K Q) (hle:G0.Le G) {a:Act}(A:oW P G n ds s σ a w)
 {next:Act→World→Prop} (F:∀G' I σ' L w',G0.Le G'→oW P G' n ds I σ' L w'→K I σ'→next L w'):
 if Region.wanted o (yielded ops a.tmps)then o.wp P a w next (LQ P n ds Q G0)else next (a.put o.dst undef) w:=by
 unfold eZ at h;split at h
 ·rename_i D;rw[if_pos (by simp[Region.wanted,D])];exact yu o h hle A F
 ·rename_i j want D;have read:∀v,ju ops s j= .sc v→yielded ops a.tmps j=(match v with|.bool b=>some b| _ =>none):=by
   intro v i;unfold ju at i;split at i
   ·rename_i d hd;have E:=A.rep d;rw[i]at E;generalize l:a.tmps.getD d undef=u at E;cases E;simp only[yielded,hd,Option.bind_some];rw[Array.getD_eq_getD_getElem?]at l;cases J:a.tmps[d]? with
    |none=>rw[J]at l;simp only[Option.getD_none]at l;subst l;rfl
    |some y=>rw[J]at l;simp only[Option.getD_some]at l;subst l;cases y<;>rfl
   ·cases i
  rcases h with⟨g,h⟩|⟨g,h⟩
  ·unfold ye at g;split at g
   ·rename_i b _ i;have q:=read _ i;rw[if_pos (by simp only[Region.wanted,D,q];simpa using g)];exact yu o h hle A F
   ·cases g
  ·have H:∀t,o.dst=some t→t<n:=by intro t ht;have:=h.1;rw[ht]at this;exact this
   have fin:¬(Region.wanted o (yielded ops a.tmps)=true):=by
    unfold O1 at g;split at g
    ·rename_i b _ i;have q:=read _ i;simp only[Region.wanted,D,q];simpa using g
    ·rename_i vs _ i;have q:=read _ i;simp only[Region.wanted,D,q];simp
    ·cases g
   rw[if_neg fin];exact F G _ _ _ _ hle (A.put (.refl G) A.inv o.dst H (.sc _)) h.2
theorem Hx {n:Nat}{ds:List Deferred}{G0:Gh}{ops:Array Oper}{Q:AQ} :∀(l:List Oper) (G:Gh) (s:Fr) (σ:AS) (a:Act) (w:World),kr P n ops Q l s σ→G0.Le G→oW P G n ds s σ a w→
 wpList P ops (LQ P n ds Q G0) l a w:=by
 intro l;induction l with
 |nil=>intro G s σ a w h hle d;exact⟨G,s,σ,hle,d,h⟩
 |cons o rest i=>
  intro G s σ a w h hle d;have:=oM o h hle d (next:=wpList P ops (LQ P n ds Q G0) rest) (fun G' g σ' u w' h1 q j=>i G' g σ' u w' j h1 q);unfold wpList;by_cases hw:Region.wanted o (yielded ops a.tmps)=true
  ·rw[if_pos hw]at this⊢;exact .inl this
  ·rw[if_neg hw]at this⊢;exact this
section rules
variable {n:Nat} {ds:List Deferred} {Q:AQ} {s:Fr}
def dP (K:Fr→AS→Prop) (Q:AQ):AQ
 |.normal,s,σ=>K s σ
 |e,s,σ=>Q e s σ
def kN (id:Nat) (Q:AQ):AQ
 |.exit d,s,σ=>if d=id then Q .normal s σ else Q (.exit d) s σ
 |e,s,σ=>Q e s σ
theorem LQ.mono {Q l:AQ}{G0:Gh}(h:∀e s σ,Q e s σ→l e s σ) {e:Exit}{a:Act}{w:World}(d:LQ P n ds Q G0 e a w):LQ P n ds l G0 e a w:=by
 unfold LQ at d⊢;split at d
 ·obtain⟨G,s,σ,j,i,g⟩:=d;exact⟨G,s,σ,j,i,h _ _ _ g⟩
 ·obtain⟨G,s,σ,j,i,g⟩:=d;exact⟨G,s,σ,j,i,h _ _ _ g⟩
 ·obtain⟨G,s,σ,j,i,g⟩:=d;exact⟨G,s,σ,j,i,h _ _ _ g⟩
 ·obtain⟨x,y,G,s,σ,v,j,i,g,o⟩:=d;exact⟨x,y,G,s,σ,v,j,i,g,h _ _ _ o⟩
 ·exact d.elim
theorem ae.mono {c:Code}{d:AQ}(g:ae P n ds c Q s σ) (h:∀e s σ,Q e s σ→d e s σ):ae P n ds c d s σ:=
 fun G0 G a w h1 i=>wp_mono (g G0 G a w h1 i) fun _ _ _ =>LQ.mono h
theorem ae.seq {x y:Code}(h:ae P n ds x (dP (ae P n ds y Q) Q) s σ):ae P n ds (.seq x y) Q s σ:=by
 intro G0 G a w h1 o;refine wp_seq (wp_mono (h G0 G a w h1 o) fun e u w' d=> ?_);unfold LQ at d;split at d
 ·obtain⟨G',l,σ',j,i,g⟩:=d;exact g G0 G' _ _ j i
 ·obtain⟨G',l,σ',j,i,g⟩:=d;exact⟨G',l,σ',j,i,g⟩
 ·obtain⟨G',l,σ',j,i,g⟩:=d;exact⟨G',l,σ',j,i,g⟩
 ·obtain⟨x,y,G',l,σ',v,j,i,g,q⟩:=d;exact⟨x,y,G',l,σ',v,j,i,g,q⟩
 ·exact d.elim
theorem ae.skip (h:Q .normal s σ):ae P n ds .skip Q s σ:=fun G0 G a w h1 d=>wp_skip ⟨G,s,σ,h1,d,h⟩
theorem ae.exit {id:Nat}(h:Q (.exit id) s σ):ae P n ds (.exit id) Q s σ:=fun G0 G a w h1 d=>wp_exit ⟨G,s,σ,h1,d,h⟩
theorem ae.ret (h:Q .ret s σ):ae P n ds .ret Q s σ:=fun G0 G a w h1 d=>wp_ret ⟨G,s,σ,h1,d,h⟩
theorem ae.cond {c:Operand}{x y:Code}{t:Bool}(h:ev s c= .sc (.bool t)) (ht:t=true→ae P n ds x Q s σ) (hf:t=false→ae P n ds y Q s σ):ae P n ds (.cond c x y) Q s σ:=by
 intro G0 G a w h1 g;have d:=g.ev c;rw[h]at d;have he:a.eval c= .bool t:=by generalize a.eval c=v at d;cases d;rfl
 exact wp_cond_split he (fun e=>ht e G0 G a w h1 g) (fun e=>hf e G0 G a w h1 g)
theorem ae.block {id:Nat}{c:Code}(h:ae P n ds c (kN id Q) s σ):ae P n ds (.block id c) Q s σ:=by
 intro G0 G a w h1 u;refine wp_block (wp_mono (h G0 G a w h1 u) fun e D w' l=> ?_);unfold LQ at l;split at l
 ·obtain⟨G',g,σ',j,i,d⟩:=l;exact⟨G',g,σ',j,i,d⟩
 ·rename_i q;obtain⟨G',g,σ',j,i,d⟩:=l;simp only[Exit.inBlock,kN]at d⊢;split
  ·rename_i o;rw[if_pos o]at d;exact⟨G',g,σ',j,i,d⟩
  ·rename_i o;rw[if_neg o]at d;exact⟨G',g,σ',j,i,d⟩
 ·obtain⟨G',g,σ',j,i,d⟩:=l;exact⟨G',g,σ',j,i,d⟩
 ·obtain⟨x,y,G',g,σ',v,j,i,d,A⟩:=l;exact⟨x,y,G',g,σ',v,j,i,d,A⟩
 ·exact l.elim
theorem ae.region {id:Nat}{l:List Oper}(h:kr P n l.toArray Q l s σ):ae P n ds (.region id l.toArray false) Q s σ:=
 fun G0 G a w h1 d=>wp_region_lit (Hx l G s σ a w h h1 d)
def AV.Wk (P:Program) (v d:AV):Prop:= ∀G x,ba P G v x→ba P G d x
def aS (P:Program) (s d:Fr):Prop:= ∀i,AV.Wk P (s i) (d i)
theorem oW.weaken {d:Fr}{σ':AS}{a:Act}(h:oW P G n ds s σ a w) (h1:aS P s d) (g:AS.le σ' σ):oW P G n ds d σ' a w:=
 ⟨h.inv.weaken g,h.size,h.ds,fun i=>h1 i _ _ (h.rep i)⟩
theorem ae.weaken {c:Code}{d:Fr}{σ':AS}(h:ae P n ds c Q d σ') (h1:aS P s d) (g:AS.le σ' σ):ae P n ds c Q s σ:=
 fun G0 G a w j i=>h G0 G a w j (i.weaken h1 g)
theorem ae.loop {c:Code}(I:Nat→Fr→AS→Prop) {k0:Nat}{D:Fr}{A:AS}(h0:I k0 D A) (X:aS P s D) (V:AS.le A σ)
 (Y:∀k s σ,I k s σ→ae P n ds c (dP (fun d σ'=> ∃k' s1 u,k'<k∧aS P d s1∧AS.le u σ'∧I k' s1 u) Q) s σ):ae P n ds (.loop c) Q s σ:=by
 intro G0 G a w h1 h2
 let J:Nat→Act→World→Prop:=fun k a w=> ∃G s σ,G0.Le G∧oW P G n ds s σ a w∧I k s σ
 have an:∀(a:Act) (w:World),(∃k,J k a w)→ ∃k,J k a w∧ ∀j,J j a w→k≤j:=by
  intro a w h;obtain⟨k,Z⟩:=h;induction k using Nat.strongRecOn with
  | _ k U=>
   by_cases hex:∃j,j<k∧J j a w
   ·obtain⟨j,F,H⟩:=hex;exact U j F H
   ·exact⟨k,Z,fun j F=>Nat.le_of_not_lt fun E=>hex ⟨j,E,F⟩⟩
 let μ:Act→World→Nat:=fun a w=> @dite _ (∃k,J k a w) (Classical.propDecidable _) (fun h=>Classical.choose (an a w h)) (fun _ =>0)
 have M:∀a w (h:∃k,J k a w),J (μ a w) a w∧ ∀j,J j a w→μ a w≤j:=by intro a w h;have e:μ a w=Classical.choose (an a w h):=dif_pos h;rw[e];exact Classical.choose_spec (an a w h)
 refine wp_loop (fun a w=> ∃k,J k a w) μ ⟨k0,G,D,A,h1,h2.weaken X V,h0⟩ fun a w H=> ?_;obtain⟨⟨G1,s1,u,g1,g2,g3⟩,O⟩:=M a w H;refine wp_mono (Y _ _ _ g3 G0 G1 a w g1 g2) fun e S w' g=> ?_;unfold LQ at g;split at g
 ·obtain⟨G',d,σ',q,o,k',s2,T,l,L,a5,a6⟩:=g;have i:J k' S w':=⟨G',s2,T,q,o.weaken L a5,a6⟩;exact⟨⟨k',i⟩,Nat.lt_of_le_of_lt ((M S w' ⟨k',i⟩).2 k' i) l⟩
 ·obtain⟨G',d,σ',q,o,l⟩:=g;exact⟨G',d,σ',q,o,l⟩
 ·obtain⟨G',d,σ',q,o,l⟩:=g;exact⟨G',d,σ',q,o,l⟩
 ·obtain⟨x,y,G',d,σ',v,q,o,l,L⟩:=g;exact⟨x,y,G',d,σ',v,q,o,l,L⟩
 ·exact g.elim
end rules
def sA (args:List AV):Fr:=fun i=>args.getD i .any
def eA (rs:List ResultVar) (P:Program) (s:Fr) (σ:AS) (K:List AV→Prop):Prop:=
 match rs with
 |[]=>K []
 |.tmp t::r=>eA r P s σ fun vs=>K (s t::vs)
 |.cell a t::r=>fx P σ t (s a) fun v=>eA r P s σ fun vs=>K (v::vs)
def eS:List AV→AV
 |[v]=>v
 |vs=> .bQ vs
def uU (P:Program) (rs:List ResultVar) (R g:AV→AS→Prop):AQ
 |.normal,s,σ=>eA rs P s σ fun vs=> ∃d σ',AV.Wk P (eS vs) d∧AS.le σ' σ∧R d σ'
 |.ret,s,σ=>eA rs P s σ fun vs=> ∃d σ',AV.Wk P (eS vs) d∧AS.le σ' σ∧R d σ'
 |.panic v,s,σ=> ∃σ',AS.le σ' σ∧g v σ'
 | _,_,_ =>False
theorem HE {t:TypeId}{x:AV}{v:Value}{K:AV→Prop}(i:Inv P G σ w) (g:ba P G x v) (h:fx P σ t x K):
 ∃y d,(do let a ←asAddr v;loadVar t a:Sem Value).run P w= .ok y w∧ba P G d y∧K d:=by
 obtain⟨a,y,d,rfl,h1,l,j⟩:=zg i g h;exact⟨y,d,by simpa[asAddr]using h1,l,j⟩
def wq (tmps:Array Value):ResultVar→Sem Value
 |.tmp t=>pure (tmps.getD t undef)
 |.cell p t=>do loadVar t (←asAddr (tmps.getD p undef))
theorem Dt (fn:Func) (tmps:Array Value):results fn tmps=(do
 let vs ←fn.results.mapM (wq tmps)
 pure (if h:vs.size=1 then vs[0]else Value.tuple vs)):=by
 unfold results;congr 1
theorem Ds {n:Nat}{ds:List Deferred}{s:Fr}{a:Act}(g:oW P G n ds s σ a w):∀(rs:List ResultVar) (K:List AV→Prop),eA rs P s σ K→
 ∃d vs,(rs.mapM (wq a.tmps)).run P w= .ok d w∧d.length=vs.length∧(∀i,i<vs.length→ba P G (vs.getD i .any) (d.getD i undef))∧K vs:=by
 intro rs;induction rs with
 |nil=>intro K h;exact⟨[],[],by simp,rfl,by simp,h⟩
 |cons r rs u=>
  intro K h;cases r with
  |tmp t=>
   obtain⟨d,vs,h1,q,o,l⟩:=u _ h;refine⟨a.tmps.getD t undef::d,s t::vs,?_,by simp[q],fun i j=> ?_,l⟩
   ·simp only[List.mapM_cons,Sem.run_bind,wq,Sem.run_pure,Result.andThen_ok,h1]
   ·cases i with
    |zero=>simpa using g.rep t
    |succ i=>simpa using o i (by simpa using j)
  |cell p t=>
   obtain⟨y,D,k1,A,v⟩:=HE g.inv (g.rep p) h;obtain⟨d,vs,h1,q,o,l⟩:=u _ v;refine⟨y::d,D::vs,?_,by simp[q],fun i j=> ?_,l⟩
   ·simp only[List.mapM_cons,Sem.run_bind,wq]at k1⊢;rw[k1];simp only[Sem.run_pure,Result.andThen_ok,h1]
   ·cases i with
    |zero=>simpa using A
    |succ i=>simpa using o i (by simpa using j)
theorem ou {n:Nat}{ds:List Deferred}{s:Fr}{a:Act}(o:oW P G n ds s σ a w) (fn:Func) (K:List AV→Prop) (h:eA fn.results.toList P s σ K):
 ∃v vs,(results fn a.tmps).run P w= .ok v w∧ba P G (eS vs) v∧K vs:=by
 obtain⟨d,vs,h1,i,l,q⟩:=Ds o fn.results.toList K h;refine⟨if h:d.toArray.size=1 then d.toArray[0]else .tuple d.toArray,vs,?_,?_,q⟩
 ·have j:(fn.results.mapM (wq a.tmps)).run P w= .ok d.toArray w:=by rw[Array.mapM_eq_mapM_toList];simp only[Sem.run_map,h1];rfl
  rw[Dt,Sem.run_bind,j];rfl
 ·unfold eS;split
  ·rename_i v;have hl:d.length=1:=by simpa using i
   have:=l 0 (by simp);rw[dif_pos (by simpa using hl)];have e:d.toArray[0]'(by simp[hl])=d.getD 0 undef:=by simp[List.getD_eq_getElem?_getD,hl]
   rw[e];simpa using this
  ·rename_i g;have hl:d.length≠1:=by
    intro e;rw[i]at e
    match vs,e with
    |[v],_ =>exact g v rfl
   rw[dif_neg (by simpa using hl)];exact .bQ d i l
theorem aa.L0 {f:FuncId}{fn:Func}{c:Code}{args:List AV}{R I:AV→AS→Prop}(hf:P.funcs[f]? =some fn) (J:fn.body=some c) (S:(fn.name== "runtime.NumGoroutine")=false)
 (ha:args.length≤fn.ntmps) (h:ae P fn.ntmps [] c (uU P fn.results.toList R I) (sA args) σ):aa P f args σ R I:=by
 refine⟨by simp[lB,hf,J,S],fun G w vals T E=>calls_of_wp hf J ?_⟩;have A:oW P G fn.ntmps [] (sA args) σ { tmps:=vals++Array.replicate (fn.ntmps-vals.size) undef,defers:= [] } w:=by
  refine⟨T,by simp[E.1];omega,rfl,fun i=> ?_⟩;by_cases l:i<args.length
  ·have V:(vals++Array.replicate (fn.ntmps-vals.size) undef).getD i undef=vals.getD i undef:=by rw[Array.getD_eq_getD_getElem?,Array.getElem?_append_left (by rw[E.1];exact l),←Array.getD_eq_getD_getElem?]
   simp only[V];exact E.2 i l
  ·have:sA args i= .any:=by simp[sA,List.getD_eq_getElem?_getD,List.getElem?_eq_none (Nat.le_of_not_lt l)]
   rw[this];exact .any _
 refine wp_mono (h G G _ w (.refl G) A) fun e H w' j=> ?_;have fin:∀(g:Fr) (σ':AS) (G':Gh),G.Le G'→oW P G' fn.ntmps [] g σ' H w'→(eA fn.results.toList P g σ' fun vs=> ∃D d,AV.Wk P (eS vs) D∧AS.le d σ'∧R D d)→
  H.defers= []∧ ∃v,(results fn H.tmps).run P w'= .ok v w'∧kS P G R I (.returned v) w':=by
  intro g σ' G' h1 F U;obtain⟨v,vs,k1,O,D,d,M,k4,L⟩:=ou F fn _ U;exact⟨F.ds,v,k1,G',d,D,h1,F.inv.weaken k4,M _ _ O,L⟩
 unfold LQ at j;split at j
 ·obtain⟨G',g,σ',u,q,o⟩:=j;exact fin g σ' G' u q o
 ·obtain⟨G',g,σ',u,q,o⟩:=j;exact o.elim
 ·obtain⟨G',g,σ',u,q,o⟩:=j;exact fin g σ' G' u q o
 ·obtain⟨x,y,G',g,σ',v,u,q,o,d,Y,X⟩:=j;exact⟨q.ds,x,y,G',d,v,u,q.inv.weaken Y,o,X⟩
 ·exact j.elim
end Go.AW
namespace Go.AW
open Go Go.RowKit
variable {P:Program} {G:Gh} {σ:AS} {w:World}
def FA (P:Program) (ops:Array Oper) (n:Nat) (o:Oper) (s:Fr) (σ:AS) (g h:AV→AS→Prop):Prop:=
 (match o.dst with|none=>True|some d=>d<n)∧
 match o.guard with
 |none=>bY P o.op s σ g h
 |some (j,want)=>iJ (ju ops s j) want (bY P o.op s σ g h) (g mG σ)
theorem mg (n:Nat) (ops:Array Oper) (o:Oper) (s:Fr) (K:Fr→AS→Prop) (Q:AQ):
 eZ P n ops o s σ K Q↔FA P ops n o s σ (fun v σ'=>K (s.put o.dst v) σ') (fun v σ'=>Q (.panic v) s σ'):=by
 unfold eZ FA;cases g:o.guard with
 |none=>exact Iff.rfl
 |some p=>
  obtain⟨j,want⟩:=p;simp only;constructor
  ·rintro(⟨d,h⟩|⟨d,h⟩)
   ·exact⟨h.1,.inl ⟨d,h.2⟩⟩
   ·exact⟨h.1,.inr ⟨d,h.2⟩⟩
  ·intro h;exact uE h.2 (fun x=>⟨h.1,x⟩) (fun x=>⟨h.1,x⟩)
theorem ze {s d:Fr}{K Pn:AV→AS→Prop}(op:Op) (h:∀x∈op.operands,ev s x=ev d x):AY P s σ K Pn op=AY P d σ K Pn op:=by
 have mp:∀(parts:Array (Nat×Operand)),(∀x∈((parts.toList.map (·.2)).toArray:Array Operand),ev s x=ev d x)→
  (parts.toList.map fun p=>(p.1,ev s p.2))=(parts.toList.map fun p=>(p.1,ev d p.2)):=by
  intro parts q;refine List.map_congr_left fun p hm=> ?_;rw[q p.2 (by simp;exact⟨p.1,by simpa using hm⟩)]
 have v:∀(xs:Array Operand),(∀x∈xs,ev s x=ev d x)→xs.toList.map (ev s)=xs.toList.map (ev d):=by intro xs q;exact List.map_congr_left fun x hm=>q x (by simpa using hm)
 have mo:∀(o:Option Operand),(∀x∈o.toArray,ev s x=ev d x)→o.map (ev s)=o.map (ev d):=by
  intro o q;cases o with
  |none=>rfl
  |some x=>simp;exact q x (by simp)
 cases op<;>simp only[AY]
 case move x=>rw[h x (by simp[Op.operands])]
 case assign x=>rw[h x (by simp[Op.operands])]
 case pick c a b=>rw[h c (by simp[Op.operands]),h a (by simp[Op.operands]),h b (by simp[Op.operands])]
 case box e x=>rw[h x (by simp[Op.operands])]
 case build t parts=>rw[mp parts (by simpa[Op.operands]using h)]
 case buildSlice t n parts=>rw[mp parts (by simpa[Op.operands]using h)]
 case load t a=>rw[h a (by simp[Op.operands])]
 case store t a x=>rw[h a (by simp[Op.operands]),h x (by simp[Op.operands])]
 case nilCheck x=>rw[h x (by simp[Op.operands])]
 case binOp op t x y D=>rw[h x (by simp[Op.operands]),h y (by simp[Op.operands])]
 case unOp op t x=>rw[h x (by simp[Op.operands])]
 case convert a b x=>rw[h x (by simp[Op.operands])]
 case makeInterface t x=>rw[h x (by simp[Op.operands])]
 case makeFunc f first cap=>rw[v first (fun x j=>h x (by simp[Op.operands,j])),v cap (fun x j=>h x (by simp[Op.operands,j]))]
 case slice t x lo A mx=>
  rw[h x (by simp[Op.operands]),mo lo (fun y g=>h y (by simp[Op.operands];simp at g;simp[g])),mo A (fun y g=>h y (by simp[Op.operands];simp at g;simp[g])),
   mo mx (fun y g=>h y (by simp[Op.operands];simp at g;simp[g]))]
 case range t x=>rw[h x (by simp[Op.operands])]
 case next it str=>rw[h it (by simp[Op.operands])]
 case entry it=>rw[h it (by simp[Op.operands])]
 case makeSlice t l c=>rw[h l (by simp[Op.operands]),h c (by simp[Op.operands])]
 case fieldAddr t x f=>rw[h x (by simp[Op.operands])]
 case field t x f=>rw[h x (by simp[Op.operands])]
 case indexAddr t x i=>rw[h x (by simp[Op.operands]),h i (by simp[Op.operands])]
 case index t x i=>rw[h x (by simp[Op.operands]),h i (by simp[Op.operands])]
 case extract x i=>rw[h x (by simp[Op.operands])]
 case panic x=>rw[h x (by simp[Op.operands])]
 case call c=>
  obtain⟨callee,args,u⟩:=c;cases callee
  case builtin b=>show bG P σ b u.toList (args.toList.map (ev s)) K=bG P σ b u.toList (args.toList.map (ev d)) K;rw[v args (fun x j=>h x (by simp[Op.operands,Call.operands,j]))]
  all_goals rfl
theorem yR {ops:Array Oper}{n:Nat}{o:Oper}{s l:Fr}{q u:AV→AS→Prop}(h:∀t∈o.looksAt ops,s t=l t):FA P ops n o s σ q u=FA P ops n o l σ q u:=by
 have g:∀x∈o.op.operands,ev s x=ev l x:=by
  intro x A;cases x with
  |tmp t=>refine h t ?_;unfold Oper.looksAt;refine List.mem_append.2 (.inl ?_);rw[List.mem_filterMap];exact⟨.tmp t,by simpa using A,rfl⟩
  | _ =>rfl
 have y:∀j want,o.guard=some (j,want)→ju ops s j=ju ops l j:=by
  intro j want y;unfold ju;cases hd:(ops[j]?).bind (·.dst)with
  |none=>rfl
  |some d=>simp only;refine h d ?_;unfold Oper.looksAt;refine List.mem_append.2 (.inr ?_);rw[y];simp[hd]
 have i:bY P o.op s σ q u=bY P o.op l σ q u:=by
  obtain⟨dst,op,ty,pos,after,guard⟩:=o;simp only at g⊢;unfold bY;cases op
  case call c=>
   obtain⟨callee,args,D⟩:=c;cases callee
   case value f=>simp only;rw[g f (by simp[Op.operands,Call.operands])];congr 1;exact List.map_congr_left fun x hm=>g x (by simp[Op.operands,Call.operands];right;simpa using hm)
   all_goals exact ze _ g
  all_goals exact ze _ g
 unfold FA;rw[i];cases v:o.guard with
 |none=>rfl
 |some p=>obtain⟨j,want⟩:=p;simp only[y j want v]
end Go.AW
namespace Go.AW
open Go Go.RowKit
variable {P:Program} {σ:AS}
def C5 (X:(AV→Prop)→Prop):Prop:= ∀K,X K→ ∃v,K v∧ ∀d,d v→X d
theorem xj (t:TypeId) (x:AV):C5 (fx P σ t x):=by
 intro K h;unfold fx at h;split at h
 ·rename_i hl;split at h
  ·rename_i g;exact⟨_,h.2,fun i d=>by simp only[fx,hl,g];exact⟨h.1,d⟩⟩
  ·exact h.elim
 ·rename_i hl;split at h
  ·rename_i g;exact⟨_,h.2.2,fun i d=>by simp only[fx,hl,g];exact⟨h.1,h.2.1,d⟩⟩
  ·exact h.elim
 ·rename_i hl;exact⟨_,h.2,fun i d=>by simp only[fx,hl];exact⟨h.1,d⟩⟩
 ·rename_i hl;exact⟨_,h.2.2,fun i d=>by simp only[fx,hl];exact⟨h.1,h.2.1,d⟩⟩
 ·exact h.elim
theorem Hg {t:TypeId} :∀(parts:List (Nat×AV)) (cs:List AV) (K:List AV→Prop),nF P t cs parts K→ ∃v,K v∧ ∀d,d v→nF P t cs parts d:=by
 intro parts;induction parts with
 |nil=>intro cs K h;exact⟨cs,h,fun d g=>g⟩
 |cons p r l=>
  intro cs K h;obtain⟨i,v⟩:=p;simp only[nF]at h;split at h
  ·rename_i off n o;obtain⟨j,h1,q⟩:=l _ _ h.2.2.2.2;exact⟨j,h1,fun d g=>by simp only[nF,o];exact⟨h.1,h.2.1,h.2.2.1,h.2.2.2.1,q d g⟩⟩
  ·exact h.elim
theorem um (t:TypeId) (parts:List (Nat×AV)):C5 (rV P t parts):=by intro K h;obtain⟨h1,j,i⟩:=h;obtain⟨v,k1,d⟩:=Hg _ _ _ i;exact⟨_,k1,fun l g=>⟨h1,j,d (fun cs=>l (.agg cs)) g⟩⟩
theorem mi (t:TypeId) (n:Nat) (parts:List (Nat×AV)) (K:AV→AS→Prop) (h:eK P σ t n parts K):∃v,K v σ∧ ∀(σ':AS) (d:AV→AS→Prop),d v σ'→eK P σ' t n parts d:=by
 unfold eK at h;split at h
 ·rename_i e he;obtain⟨h1,u,q,o,l,j,i⟩:=h;exact⟨_,i,fun σ' d g=>by simp only[eK,he];exact⟨h1,u,q,o,l,j,g⟩⟩
 ·exact h.elim
theorem oP (x:AV):C5 (iX x):=by intro K h;unfold iX at h;split at h<;>first|exact h.elim|exact⟨_,h,fun g d=>d⟩
theorem Hh {op:BinOp}{k:IntKind}{a b:Int}{Q:Value→Prop}(h:fF op k a b Q):∃v,Q v∧ ∀g,g v→fF op k a b g:=by cases op<;>simp only[fF]at h⊢ <;>first|exact h.elim|exact⟨_,h,fun _ d=>d⟩|exact⟨_,h.2,fun _ d=>⟨h.1,d⟩⟩
theorem J9 {op:BinOp}{k:IntKind}{a b:Int}{Q:Value→Prop}(h:xS op k a b Q):∃v,Q v∧ ∀d,d v→xS op k a b d:=by cases op<;>simp only[xS]at h⊢ <;>first|exact h.elim|exact⟨_,h.2,fun _ g=>⟨h.1,g⟩⟩
theorem Hf {op:BinOp}{a b:ByteArray}{Q:Value→Prop}(h:uB op a b Q):∃v,Q v∧ ∀g,g v→uB op a b g:=by cases op<;>simp only[uB]at h⊢ <;>first|exact h.elim|exact⟨_,h,fun _ d=>d⟩|exact⟨_,h.2,fun _ d=>⟨h.1,d⟩⟩
theorem Ar (op:BinOp) (t:TypeId) (x y:AV):C5 (ij P op t x y):=by
 intro K h;unfold ij at h;split at h
 ·rename_i k a k' b;split at h
  ·rename_i l;obtain⟨v,h1,i⟩:=J9 h;exact⟨_,h1,fun g d=>by simp only[ij,l,if_true];exact i (fun v=>g (.sc v)) d⟩
  ·rename_i l;obtain⟨v,h1,i⟩:=Hh h.2;exact⟨_,h1,fun g d=>by simp only[ij,l];exact⟨h.1,i (fun v=>g (.sc v)) d⟩⟩
 ·obtain⟨v,h1,i⟩:=Hf h;exact⟨_,h1,fun g d=>by simp only[ij];exact i (fun v=>g (.sc v)) d⟩
 ·split at h
  ·rename_i r he;exact⟨_,h.2,fun g d=>by simp only[ij,he];exact⟨h.1,d⟩⟩
  ·rename_i r he;exact⟨_,h.2,fun g d=>by simp only[ij,he];exact⟨h.1,d⟩⟩
  ·exact h.elim
 ·split at h
  ·rename_i hu;exact⟨_,h,fun g d=>by simp only[ij,hu];exact d⟩
  ·rename_i hu;exact⟨_,h,fun g d=>by simp only[ij,hu];exact d⟩
  ·exact h.elim
 ·rename_i h1 i u q;have j:∀g,dO P op t x y g→ij P op t x y g:=by
   intro g d;unfold ij;split
   ·exact(h1 _ _ _ _ rfl rfl).elim
   ·exact(i _ _ rfl rfl).elim
   ·exact(u _ _ rfl rfl).elim
   ·exact(q _ _ rfl rfl).elim
   ·exact d
  unfold dO at h;split at h
  ·rename_i o;split at h
   ·rename_i r he;exact⟨_,h,fun g d=>j g (by simp only[dO,o,if_true,he];exact d)⟩
   ·rename_i r he;exact⟨_,h,fun g d=>j g (by simp only[dO,o,if_true,he];exact d)⟩
   ·exact h.elim
  ·exact h.elim
theorem Ea (op:UnOp) (x:AV):C5 (PC op x):=by intro K h;unfold PC at h;split at h<;>first|exact h.elim|exact⟨_,h,fun g d=>d⟩
theorem qe (a b:TypeId) (x:AV):C5 (fX P a b x):=by
 intro K h;unfold fX at h;split at h
 ·rename_i g hd;exact⟨_,h,fun j i=>by simp only[fX,g,hd];exact i⟩
 ·rename_i d s g hd;exact⟨_,h,fun j i=>by cases d<;>simp only[fX,g,hd]<;>exact i⟩
 ·rename_i g hd;exact⟨_,h.2,fun j i=>by simp only[fX,g,hd];exact⟨h.1,i⟩⟩
 ·rename_i g hd;obtain⟨h1,q,l⟩:=h;split at l
  ·rename_i u o;exact⟨_,l,fun j i=>by simp only[fX,g,hd,o];exact⟨h1,q,i⟩⟩
  ·exact l.elim
 ·rename_i g hd;exact⟨_,h.2.2.2,fun j i=>by simp only[fX,g,hd];exact⟨h.1,h.2.1,h.2.2.1,i⟩⟩
 ·exact h.elim
theorem lN {x:Option AV}{d:Nat}{K:Nat→Prop}(h:kv x d K):∃k,K k∧ ∀g,g k→kv x d g:=by
 unfold kv at h;split at h
 ·exact⟨_,h,fun g i=>i⟩
 ·exact⟨_,h.2,fun g i=>⟨h.1,i⟩⟩
 ·exact h.elim
theorem ui (t:TypeId) (x:AV) (lo D mx:Option AV):C5 (gx P t x lo D mx):=by
 intro K h;unfold gx at h;split at h
 ·exact h.elim
 ·split at h
  ·rename_i s;obtain⟨h1,v⟩:=h;obtain⟨k,⟨q,o⟩,j⟩:=lN v;obtain⟨l,⟨i,g⟩,d⟩:=lN o;exact⟨_,g,fun A u=>by simp only[gx];exact⟨h1,j _ ⟨q,d _ ⟨i,u⟩⟩⟩⟩
  ·rename_i e elems own nil;obtain⟨h1,h0,v⟩:=h;obtain⟨k,⟨q,o⟩,j⟩:=lN v;obtain⟨l,⟨i,g⟩,d⟩:=lN o;exact⟨_,g,fun A u=>by simp only[gx];exact⟨h1,h0,j _ ⟨q,d _ ⟨i,u⟩⟩⟩⟩
  ·rename_i id off len cap;split at h
   ·rename_i e he;obtain⟨h0,v⟩:=h;obtain⟨k,⟨q,o⟩,j⟩:=lN v;obtain⟨l,⟨i,y,g⟩,d⟩:=lN o;exact⟨_,g,fun A u=>by simp only[gx,he];exact⟨h0,j _ ⟨q,d _ ⟨i,y,u⟩⟩⟩⟩
   ·exact h.elim
  ·exact h.elim
theorem nA (t:TypeId) (x:AV) (f:Nat):C5 (fP P t x f):=by
 intro K h;unfold fP at h;split at h
 ·rename_i g hu;obtain⟨i,h⟩:=h;split at h
  ·exact⟨_,h,fun j d=>by simp only[fP,g,hu];exact⟨i,d⟩⟩
  ·exact⟨_,h,fun j d=>by simp only[fP,g,hu];exact⟨i,d⟩⟩
  ·exact h.elim
 ·exact h.elim
theorem uk (t:TypeId) (x:AV) (f:Nat):C5 (oT P t x f):=by
 intro K h;unfold oT at h;split at h
 ·rename_i hf;exact⟨_,h.2,fun g d=>by simp only[oT,hf];exact⟨h.1,d⟩⟩
 ·rename_i hf;exact⟨_,h.2.2,fun g d=>by simp only[oT,hf];exact⟨h.1,h.2.1,d⟩⟩
 ·exact h.elim
theorem nz (t:TypeId) (x i:AV):C5 (eV P t x i):=by
 intro K h;unfold eV at h;split at h
 ·split at h
  ·obtain⟨h1,o,l,j,g⟩:=h;exact⟨_,g,fun q d=>⟨h1,o,l,j,d⟩⟩
  ·split at h
   ·rename_i he;obtain⟨o,l,j,g⟩:=h;exact⟨_,g,fun q d=>by simp only[eV,he];exact⟨o,l,j,d⟩⟩
   ·exact h.elim
  ·split at h
   ·rename_i he;obtain⟨o,l,j,g⟩:=h;exact⟨_,g,fun q d=>by simp only[eV,he];exact⟨o,l,j,d⟩⟩
   ·exact h.elim
  ·split at h
   ·rename_i he;obtain⟨o,l,j,g⟩:=h;exact⟨_,g,fun q d=>by simp only[eV,he];exact⟨o,l,j,d⟩⟩
   ·exact h.elim
  ·exact h.elim
 ·exact h.elim
theorem uj (t:TypeId) (x i:AV):C5 (oS P t x i):=by
 intro K h;unfold oS at h;split at h
 ·obtain⟨h1,l,j,g⟩:=h;exact⟨_,g,fun q d=>⟨h1,l,j,d⟩⟩
 ·split at h
  ·rename_i he;split at h
   ·rename_i hl;obtain⟨l,j,g,o⟩:=h;exact⟨_,o,fun q d=>by simp only[oS,he,hl];exact⟨l,j,g,d⟩⟩
   ·rename_i hl;obtain⟨h1,l,j,g,o⟩:=h;exact⟨_,o,fun q d=>by simp only[oS,he,hl];exact⟨h1,l,j,g,d⟩⟩
   ·exact h.elim
  ·exact h.elim
 ·exact h.elim
theorem qd (x:AV) (i:Nat):C5 (mr x i):=by
 intro K h;unfold mr at h;split at h
 ·exact⟨_,h.2,fun g d=>⟨h.1,d⟩⟩
 ·exact h.elim
theorem Aq (t:TypeId) (x:AV):C5 (jL P σ t x):=by
 intro K h;unfold jL at h;split at h
 ·rename_i hu;exact⟨_,h,fun g d=>by simp only[jL,hu];exact d⟩
 ·rename_i hu;exact⟨_,h,fun g d=>by simp only[jL,hu];exact d⟩
 ·rename_i hu;exact⟨_,h,fun g d=>by simp only[jL,hu];exact d⟩
 ·rename_i hu;exact⟨_,h,fun g d=>by simp only[jL,hu];exact d⟩
 ·rename_i hu;exact⟨_,h,fun g d=>by simp only[jL,hu];exact d⟩
 ·rename_i hu;split at h
  ·rename_i i;exact⟨_,h,fun g d=>by simp only[jL,hu,i];exact d⟩
  ·exact h.elim
 ·rename_i hu;exact⟨_,h,fun g d=>by simp only[jL,hu];exact d⟩
 ·exact h.elim
end Go.AW
namespace Go.AW
open Go Go.RowKit
variable {P:Program} {σ:AS}
theorem fu {X:(AV→Prop)→Prop}(hd:C5 X) {K d:AV→Prop}(h:X K) (g:∀v,K v→d v):X d:=by obtain⟨v,h1,i⟩:=hd K h;exact i d (g v h1)
theorem AH {t o:TypeId}{s x:AV}{K q:AV→AS→Prop}(l:∀v σ,K v σ→q v σ) (h:mU P σ t o s x K):mU P σ t o s x q:=by
 unfold mU at h⊢;split
 ·rename_i e he;simp only[he]at h;obtain⟨h1,y,u,d⟩:=h;refine⟨h1,y,u,?_⟩;split
  ·rename_i xs j;simp only[j]at d;split
   ·simp only at d;exact⟨d.1,d.2.1,fun i g=>l _ _ (d.2.2 i g)⟩
   ·simp only at d;exact⟨d.1,d.2.1,d.2.2.1,fun i g=>l _ _ (d.2.2.2 i g)⟩
   ·simp only at d;exact⟨d.1,d.2.1,d.2.2.1,d.2.2.2.1,l _ _ d.2.2.2.2⟩
   ·rename_i a b c;split at d
    ·exact(a rfl).elim
    ·exact(b _ _ _ rfl).elim
    ·exact(c _ _ _ _ rfl).elim
    ·exact d.elim
  ·rename_i j;simp only[j]at d
 ·rename_i he;simp only[he]at h
theorem Et {t:TypeId}{x y:AV}{K l:AV→AS→Prop}(o:∀v σ,K v σ→l v σ) (h:gZ P σ t x y K):gZ P σ t x y l:=by
 unfold gZ at h⊢;cases he:ct P t with
 |none=>simp only[he]at h
 |some e=>
  simp only[he]at h⊢;split at h
  ·rename_i id off len cap;cases i:σ id with
   |none=>simp only[i]at h
   |some g=>
    cases g<;>simp only[i]at h⊢;refine⟨h.1,h.2.1,?_⟩;have d:=h.2.2;cases j:cA P σ e y with
    |none=>simp only[j]at d
    |some r=>simp only[j]at d⊢;exact o _ _ d
  ·exact h.elim
theorem yk {b:Builtin}{ts:List TypeId}{args:List AV}{K g:AV→AS→Prop}(d:∀v σ,K v σ→g v σ) (h:bG P σ b ts args K):bG P σ b ts args g:=by
 unfold bG at h;split at h
 ·exact fu (Aq _ _) h (fun v i=>d _ _ i)
 ·exact AH d h
 ·exact Et d h
 ·exact d _ _ h
 ·exact d _ _ h
 ·exact h.elim
theorem CG {s:Fr}{K D Pn q:AV→AS→Prop}(d:∀v σ,K v σ→D v σ) (u:∀v σ,Pn v σ→q v σ) (op:Op) (h:AY P s σ K Pn op):AY P s σ D q op:=by
 cases op<;>simp only[AY]at h⊢
 case move x=>exact d _ _ h
 case assign x=>exact d _ _ h
 case pick c a b=>
  split at h
  ·exact d _ _ h
  ·exact h.elim
 case alloc e=>exact⟨h.1,fun id j=>d _ _ (h.2 id j)⟩
 case box e x=>exact⟨h.1,fun id j=>d _ _ (h.2 id j)⟩
 case build t parts=>exact fu (um _ _) h (fun v=>d v σ)
 case buildSlice t n parts=>obtain⟨v,h1,g⟩:=mi _ _ _ _ h;exact g _ _ (d _ _ h1)
 case load t a=>exact fu (xj _ _) h (fun v=>d v σ)
 case store t a x=>
  unfold ux at h⊢;split at h
  ·split at h
   ·exact⟨h.1,h.2.1,h.2.2.1,h.2.2.2.1,h.2.2.2.2.1,d _ _ h.2.2.2.2.2⟩
   ·exact h.elim
  ·exact h.elim
 case nilCheck x=>exact fu (oP _) h (fun v=>d v σ)
 case binOp op t x y L=>exact fu (Ar _ _ _ _) h (fun v=>d v σ)
 case unOp op t x=>exact fu (Ea _ _) h (fun v=>d v σ)
 case convert a b x=>exact fu (qe _ _ _) h (fun v=>d v σ)
 case makeInterface t x=>exact⟨h.1,d _ _ h.2⟩
 case makeFunc f first cap=>exact d _ _ h
 case makeMap t r=>exact⟨h.1,fun id j=>d _ _ (h.2 id j)⟩
 case range t x=>
  unfold nE at h⊢;split at h
  ·exact⟨h.1,fun id j=>d _ _ (h.2 id j)⟩
  ·split at h
   ·exact fun id j=>d _ _ (h id j)
   ·exact h.elim
  ·exact h.elim
 case next it str=>
  unfold zf at h⊢;split at h
  ·refine⟨h.1,?_⟩;have g:=h.2;split at g
   ·unfold BJ at g⊢;split at g
    ·exact⟨g.1,fun o=>d _ _ (g.2.1 o),fun k o A=>d _ _ (g.2.2 k o A)⟩
    ·exact g.elim
   ·exact g.elim
  ·refine⟨h.1,?_⟩;have g:=h.2;split at g
   ·rename_i b pos _;unfold Fl at g⊢;by_cases u:pos<b.size
    ·rw[if_pos u]at g⊢;exact d _ _ g
    ·rw[if_neg u]at g⊢;exact d _ _ g
   ·exact g.elim
  ·exact h.elim
 case entry it=>
  unfold uy at h⊢;split at h
  ·refine⟨h.1,?_⟩;have g:=h.2;split at g
   ·split at g
    ·exact⟨g.1,d _ _ g.2⟩
    ·exact g.elim
   ·exact g.elim
  ·exact h.elim
 case makeSlice t l c=>
  unfold ku at h⊢;split at h
  ·obtain⟨h1,g,o,A,I,H,F,E⟩:=h;exact⟨h1,g,o,A,I,H,F,fun id j=>d _ _ (E id j)⟩
  ·exact h.elim
 case slice t x lo M mx=>exact fu (ui _ _ _ _ _) h (fun v=>d v σ)
 case fieldAddr t x f=>exact fu (nA _ _ _) h (fun v=>d v σ)
 case field t x f=>exact fu (uk _ _ _) h (fun v=>d v σ)
 case indexAddr t x i=>exact fu (nz _ _ _) h (fun v=>d v σ)
 case index t x i=>exact fu (uj _ _ _) h (fun v=>d v σ)
 case extract x i=>exact fu (qd _ _) h (fun v=>d v σ)
 case panic x=>
  split at h
  ·exact u _ _ h
  ·exact h.elim
 case call c=>
  obtain⟨callee,args,J⟩:=c;cases callee
  case builtin b=>exact yk d h
  all_goals exact h.elim
theorem Eu {y:AV}{args:List AV}{K A D g:AV→AS→Prop}(u:∀v σ,K v σ→D v σ) (q:∀v σ,A v σ→g v σ) (h:ag P y args σ K A):ag P y args σ D g:=by
 unfold ag at h⊢;split at h
 ·obtain⟨h1,E,R,o,l,j,i⟩:=h;exact⟨h1,E,R,o,l,fun r σ' d=>u _ _ (j r σ' d),fun r σ' d=>q _ _ (i r σ' d)⟩
 ·obtain⟨R,o,l,j,i⟩:=h;exact⟨R,o,l,fun r σ' d=>u _ _ (j r σ' d),fun r σ' d=>q _ _ (i r σ' d)⟩
 ·exact h.elim
theorem we {op:Op}{s:Fr}{K j l d:AV→AS→Prop}(i:∀v σ,K v σ→l v σ) (g:∀v σ,j v σ→d v σ) (h:bY P op s σ K j):bY P op s σ l d:=by
 unfold bY at h⊢;cases op
 case call c=>
  obtain⟨callee,args,o⟩:=c;cases callee
  case value f=>exact Eu i g h
  all_goals exact CG i g _ h
 all_goals exact CG i g _ h
theorem sv {ops:Array Oper}{n:Nat}{o:Oper}{s:Fr}{K u y d:AV→AS→Prop}(i:∀v σ,K v σ→y v σ) (q:∀v σ,u v σ→d v σ) (h:FA P ops n o s σ K u):FA P ops n o s σ y d:=by
 unfold FA at h⊢;refine⟨h.1,?_⟩;have g:=h.2;split
 ·rename_i l;simp only[l]at g;exact we i q g
 ·rename_i j want l;simp only[l]at g;exact uE g (we i q) (i _ _)
def sm:List AV→Bool
 |[.an ..]|[.ai]|[.fT ..]|[.sc _]=>true
 | _ =>false
def oD (s:Fr) (op:Op):Bool:=
 match op with
 |.move _ |.assign _ |.pick .. |.build .. |.buildSlice .. |.nilCheck _ |.binOp .. |.unOp .. |.convert .. |.makeInterface .. |.makeFunc .. |.slice ..
 |.fieldAddr .. |.field .. |.indexAddr .. |.index .. |.extract .. =>true
 |.load _ a=>match ev s a with|.iC _ =>true| _ =>false
 |.call c=>match c.callee with
  |.builtin .len=>sm (c.args.toList.map (ev s))
  |.builtin .min=>true
  |.builtin .max=>true
  | _ =>false
 | _ =>false
def kJ (op:Op):Bool:=
 match op with
 |.move _ |.assign _ |.pick .. |.build .. |.buildSlice .. |.nilCheck _ |.binOp .. |.unOp .. |.convert .. |.makeInterface .. |.makeFunc .. |.slice ..
 |.fieldAddr .. |.field .. |.indexAddr .. |.index .. |.extract .. |.load .. =>true
 |.call c=>match c.callee with
  |.builtin .len=>true
  |.builtin .min=>true
  |.builtin .max=>true
  | _ =>false
 | _ =>false
theorem IH {op:Op}{s:Fr}{u F:AV→AS→Prop}(A:kJ op=true) (h:bY P op s σ u F):∃v,u v σ∧ ∀d g:AV→AS→Prop,d v σ→bY P op s σ d g:=by
 have lift:∀ {X:(AV→Prop)→Prop},C5 X→X (fun v=>u v σ)→(∀(d g:AV→AS→Prop),X (fun v=>d v σ)→bY P op s σ d g)→ ∃v,u v σ∧ ∀d g:AV→AS→Prop,d v σ→bY P op s σ d g:=by intro X hd j I;obtain⟨v,h1,D⟩:=hd _ j;exact⟨v,h1,fun d g l=>I d g (D (fun v=>d v σ) l)⟩
 cases op<;>(try simp only[kJ]at A)<;>first|(cases A;done)|skip
 case move x=>exact⟨_,h,fun _ _ l=>l⟩
 case assign x=>exact⟨_,h,fun _ _ l=>l⟩
 case pick c a b=>
  have o:AY P s σ u F (.pick c a b):=h;simp only[AY]at o;split at o
  ·rename_i t H;exact⟨_,o,fun d g l=>by show AY P s σ d g (.pick c a b);simp only[AY,H];exact l⟩
  ·exact o.elim
 case build t parts=>exact lift (um _ _) h (fun _ _ j=>j)
 case buildSlice t n parts=>obtain⟨v,h1,D⟩:=mi _ _ _ _ h;exact⟨v,h1,fun d g l=>D σ d l⟩
 case load t a=>exact lift (xj _ _) h (fun _ _ j=>j)
 case nilCheck x=>exact lift (oP _) h (fun _ _ j=>j)
 case binOp op t x y M=>exact lift (Ar _ _ _ _) h (fun _ _ j=>j)
 case unOp op t x=>exact lift (Ea _ _) h (fun _ _ j=>j)
 case convert a b x=>exact lift (qe _ _ _) h (fun _ _ j=>j)
 case makeInterface t x=>exact⟨_,h.2,fun _ _ l=>⟨h.1,l⟩⟩
 case makeFunc f first cap=>exact⟨_,h,fun _ _ l=>l⟩
 case slice t x lo O mx=>exact lift (ui _ _ _ _ _) h (fun _ _ j=>j)
 case fieldAddr t x f=>exact lift (nA _ _ _) h (fun _ _ j=>j)
 case field t x f=>exact lift (uk _ _ _) h (fun _ _ j=>j)
 case indexAddr t x i=>exact lift (nz _ _ _) h (fun _ _ j=>j)
 case index t x i=>exact lift (uj _ _ _) h (fun _ _ j=>j)
 case extract x i=>exact lift (qd _ _) h (fun _ _ j=>j)
 case call c=>
  obtain⟨callee,args,q⟩:=c;cases callee
  case builtin b=>
   have o:bG P σ b q.toList (args.toList.map (ev s)) u:=h;unfold bG at o;split at o
   ·rename_i t x J E;obtain⟨v,h1,D⟩:=Aq _ _ _ o;refine⟨v,h1,fun d g l=> ?_⟩;show bG P σ .len q.toList (args.toList.map (ev s)) d;rw[J,E];exact D (fun v=>d v σ) l
   ·simp at A
   ·simp at A
   ·rename_i k a k' L E;refine⟨_,o,fun d g l=> ?_⟩;show bG P σ .min q.toList (args.toList.map (ev s)) d;rw[E];exact l
   ·rename_i k a k' L E;refine⟨_,o,fun d g l=> ?_⟩;show bG P σ .max q.toList (args.toList.map (ev s)) d;rw[E];exact l
   ·exact o.elim
  all_goals simp at A
theorem BA {op:Op}{s:Fr}{F I:AV→AS→Prop}(D:oD s op=true) (h:bY P op s σ F I):∃v,F v σ∧ ∀(σ':AS) (d g:AV→AS→Prop),d v σ'→bY P op s σ' d g:=by
 have lift:∀ {X:(AV→Prop)→Prop},C5 X→X (fun v=>F v σ)→(∀(σ':AS) (d g:AV→AS→Prop),X (fun v=>d v σ')→bY P op s σ' d g)→ ∃v,F v σ∧ ∀(σ':AS) (d g:AV→AS→Prop),d v σ'→bY P op s σ' d g:=by intro X hd j M;obtain⟨v,h1,E⟩:=hd _ j;exact⟨v,h1,fun σ' d g l=>M σ' d g (E (fun v=>d v σ') l)⟩
 cases op<;>(try simp only[oD]at D)<;>first|(cases D;done)|skip
 case move x=>exact⟨_,h,fun _ _ _ l=>l⟩
 case assign x=>exact⟨_,h,fun _ _ _ l=>l⟩
 case pick c a b=>
  have q:AY P s σ F I (.pick c a b):=h;simp only[AY]at q;split at q
  ·rename_i t L;exact⟨_,q,fun σ' d g l=>by show AY P s σ' d g (.pick c a b);simp only[AY,L];exact l⟩
  ·exact q.elim
 case build t parts=>exact lift (um _ _) h (fun _ _ _ j=>j)
 case buildSlice t n parts=>obtain⟨v,h1,E⟩:=mi _ _ _ _ h;exact⟨v,h1,fun σ' d g l=>E σ' d l⟩
 case load t a=>
  have q:fx P σ t (ev s a) (fun v=>F v σ):=h;cases j:ev s a<;>(try simp only[j]at D)<;>first|(cases D;done)|skip
  rename_i cells;have ind:∀(σ':AS) (K:AV→Prop),fx P σ t (.iC cells) K→fx P σ' t (.iC cells) K:=by intro σ' K H;unfold fx at H⊢;cases hl:gi P t<;>simp only[hl]at H⊢ <;>exact H
  rw[j]at q;obtain⟨v,h1,E⟩:=xj _ _ _ q;exact⟨v,h1,fun σ' d g l=>by show fx P σ' t (ev s a) (fun v=>d v σ');rw[j];exact ind σ' _ (E (fun v=>d v σ') l)⟩
 case nilCheck x=>exact lift (oP _) h (fun _ _ _ j=>j)
 case binOp op t x y U=>exact lift (Ar _ _ _ _) h (fun _ _ _ j=>j)
 case unOp op t x=>exact lift (Ea _ _) h (fun _ _ _ j=>j)
 case convert a b x=>exact lift (qe _ _ _) h (fun _ _ _ j=>j)
 case makeInterface t x=>exact⟨_,h.2,fun _ _ _ l=>⟨h.1,l⟩⟩
 case makeFunc f first cap=>exact⟨_,h,fun _ _ _ l=>l⟩
 case slice t x lo V mx=>exact lift (ui _ _ _ _ _) h (fun _ _ _ j=>j)
 case fieldAddr t x f=>exact lift (nA _ _ _) h (fun _ _ _ j=>j)
 case field t x f=>exact lift (uk _ _ _) h (fun _ _ _ j=>j)
 case indexAddr t x i=>exact lift (nz _ _ _) h (fun _ _ _ j=>j)
 case index t x i=>exact lift (uj _ _ _) h (fun _ _ _ j=>j)
 case extract x i=>exact lift (qd _ _) h (fun _ _ _ j=>j)
 case call c=>
  obtain⟨callee,args,A⟩:=c;cases callee
  case builtin b=>
   have q:bG P σ b A.toList (args.toList.map (ev s)) F:=h;unfold bG at q;split at q
   ·rename_i t x S u;obtain⟨o,rfl⟩:∃o,args= #[o]:=by
     cases hl:args.toList with
     |nil=>rw[hl]at u;simp at u
     |cons o r=>rw[hl]at u;simp at u;obtain⟨_,rfl⟩:=u;exact⟨o,DD hl⟩
    have O:ev s o=x:=by simpa using u
    have J:sm [x]=true:=by have:sm ((#[o]:Array Operand).toList.map (ev s))=true:=D;simpa[O]using this
    have ind:∀(σ':AS) (K:AV→Prop),jL P σ t x K→jL P σ' t x K:=by intro σ' K H;unfold jL at H⊢;split at H<;>simp_all [sm]
    obtain⟨v,h1,E⟩:=Aq _ _ _ q;refine⟨v,h1,fun σ' d g l=> ?_⟩;show bG P σ' .len A.toList ((#[o]:Array Operand).toList.map (ev s)) d;rw[S,u];exact ind σ' _ (E (fun v=>d v σ') l)
   ·simp at D
   ·simp at D
   ·rename_i k a k' T u;refine⟨_,q,fun σ' d g l=> ?_⟩;show bG P σ' .min A.toList (args.toList.map (ev s)) d;rw[u];exact l
   ·rename_i k a k' T u;refine⟨_,q,fun σ' d g l=> ?_⟩;show bG P σ' .max A.toList (args.toList.map (ev s)) d;rw[u];exact l
   ·exact q.elim
  all_goals simp at D
theorem Mf {σ':AS}{t:TypeId}{x:AV}{K:AV→Prop}(hle:AS.le σ σ') (h:fx P σ t x K):∃v,K v∧ ∀g:AV→Prop,g v→fx P σ' t x g:=by
 unfold fx at h;split at h
 ·rename_i hl;split at h
  ·rename_i i;exact⟨_,h.2,fun g d=>by simp only[fx,hl,hle _ _ i];exact⟨h.1,d⟩⟩
  ·exact h.elim
 ·rename_i hl;split at h
  ·rename_i i;exact⟨_,h.2.2,fun g d=>by simp only[fx,hl,hle _ _ i];exact⟨h.1,h.2.1,d⟩⟩
  ·exact h.elim
 ·rename_i hl;exact⟨_,h.2,fun g d=>by simp only[fx,hl];exact⟨h.1,d⟩⟩
 ·rename_i hl;exact⟨_,h.2.2,fun g d=>by simp only[fx,hl];exact⟨h.1,h.2.1,d⟩⟩
 ·exact h.elim
theorem OU {σ':AS}{t:TypeId}{x:AV}{K:AV→Prop}(hle:AS.le σ σ') (h:jL P σ t x K):∃v,K v∧ ∀d:AV→Prop,d v→jL P σ' t x d:=by
 unfold jL at h;split at h;all_goals first
  |exact h.elim
  |(rename_i hu;exact⟨_,h,fun d g=>by simp only[jL,hu];exact g⟩)
  |(rename_i hu;split at h
    ·rename_i i;exact⟨_,h,fun d g=>by simp only[jL,hu,hle _ _ i];exact g⟩
    ·exact h.elim)
theorem Lx {op:Op}{s:Fr}{E I:AV→AS→Prop}(i:kJ op=true) (h:bY P op s σ E I):∃v,E v σ∧ ∀σ',AS.le σ σ'→ ∀d g:AV→AS→Prop,d v σ'→bY P op s σ' d g:=by
 by_cases l:oD s op=true
 ·obtain⟨v,h1,q⟩:=BA l h;exact⟨v,h1,fun σ' _ d g o=>q σ' d g o⟩
 ·obtain⟨v,h1,q⟩:=IH i h;refine⟨v,h1,fun σ' hle d g o=> ?_⟩;cases op<;>(try simp only[kJ]at i)<;>(try simp[oD]at l)<;>first|(cases i;done)|skip
  case load t a=>obtain⟨u,D,A⟩:=Mf (K:=fun x=>x=v) hle (q (fun x _ =>x=v) (fun _ _ =>True) rfl);exact A (fun x=>d x σ') (D ▸ o)
  case call c=>
   obtain⟨callee,args,j⟩:=c;cases callee
   case builtin b=>
    have y:bG P σ b j.toList (args.toList.map (ev s)) (fun x _ =>x=v):=q (fun x _ =>x=v) (fun _ _ =>True) rfl;unfold bG at y;split at y
    ·rename_i t x H F;obtain⟨u,D,A⟩:=OU (K:=fun x=>x=v) hle y;show bG P σ' .len j.toList (args.toList.map (ev s)) d;rw[H,F];exact A (fun x=>d x σ') (D ▸ o)
    ·simp at i
    ·simp at i
    ·simp at l
    ·simp at l
    ·exact y.elim
   all_goals simp at i
end Go.AW
namespace Go.AW
open Go Go.RowKit
variable {P:Program}
inductive b7 where
 |done
 |step (i:Nat) (t:b7)
 |read (i:Nat) (t:b7)
 |alt (i:Nat) (t r:b7)
 |spec (i:Nat) (t r:b7)
 |pure (i:Nat) (t:b7)
 |none
def b7.idxs:b7→List Nat
 |.alt i _ r=>i::r.idxs
 |.spec i _ r=>i::r.idxs
 | _ => []
def dS (ops:Array Oper) (i:Nat):Nat→Array Bool→Array Bool
 |0,m=>m
 |f+1,m=>dS ops i f ((List.range ops.size).foldl (fun m j=>if j !=i&&(match ops[j]? with|some o=>o.after.all fun e=> !Region.binds .any e||m.getD e.on false|none=>false)then m.setIfInBounds j true else m) m)
def yA (ops:Array Oper) (i:Nat) (d:Array Bool):Bool:=
 let M:=dS ops i 2 d
 (List.range ops.size).all (fun j=> !d.getD j false||M.getD j false)&& !M.getD i false&&d.size==ops.size&&M.size==ops.size&&
 (List.range ops.size).all fun j=>match ops[j]? with
  |some o=>(j==i||M.getD j false||o.after.any fun e=>Region.binds .any e&& !M.getD e.on false)&&(!M.getD j false||d.getD j true||kJ o.op)
  |none=>true
def dE (ops:Array Oper) (ro:Bool):Bool→Array Bool→b7→Bool
 |true,d,.done=>(Region.ready .any ops d).isEmpty
 |true,d,.step i t=>(Region.ready .any ops d).contains i&&Region.free .any ops d i&&(!ro||((ops[i]?).map (kJ ·.op)).getD false)&&dE ops ro true (d.setIfInBounds i true) t
 |true,d,.read i t=>(Region.ready .any ops d).contains i&&Region.free .any ops d i&&((ops[i]?).map (kJ ·.op)).getD false&&yA ops i d&&dE ops ro true (d.setIfInBounds i true) t
 |true,d,.pure i t=>(Region.ready .any ops d).contains i&&Region.free .any ops d i&& !ro&&dE ops ro true (d.setIfInBounds i true) t
 |top,d,.alt i t r=>(!top||(Region.ready .any ops d).all fun j=>(b7.alt i t r).idxs.contains j)&&(!top|| !(Region.ready .any ops d).isEmpty)&&dE ops ro true (d.setIfInBounds i true) t&&dE ops ro false d r
 |top,d,.spec i t r=>(!top||(Region.ready .any ops d).all fun j=>(b7.spec i t r).idxs.contains j)&&(!top|| !(Region.ready .any ops d).isEmpty)&&dE ops ro true (d.setIfInBounds i true) t&&dE ops ro false d r
 |false,_,.none=>true
 | _,_,_ =>false
def aF (P:Program) (g:AV) (args:List AV) (K:AV→Prop):Prop:= ∃v,(∀σ' (d h:AV→AS→Prop),d v σ'→ag P g args σ' d h)∧K v
def tD (P:Program) (n:Nat) (ops:Array Oper) (o:Oper) (s:Fr) (K:AV→Prop):Prop:=
 (match o.dst with|none=>True|some d=>d<n)∧
 match o.op,o.guard with
 |.call ⟨.value f,args,_⟩,none=>aF P (ev s f) (args.toList.map (ev s)) K
 |.call ⟨.value f,args,_⟩,some (j,want)=>iJ (ju ops s j) want (aF P (ev s f) (args.toList.map (ev s)) K) (K mG)
 | _,_ =>False
def Jc (K:Fr→AS→Prop) (s:Fr) (d:Option Nat) (σ:AS):AV→Prop:=fun v=>K (s.put d v) σ
def Jr (o:Oper) (s:Fr):Fr:=fun t=>if t∈({ o with guard:=none } :Oper).looksAt #[]then s t else .any
theorem OT (o:Oper) (s:Fr) {G:Gh}{v:Value}(x:Operand) (h:ba P G (ev s x) v):ba P G (ev (Jr o s) x) v:=by
 cases x with
 |tmp t=>
  show ba P G (Jr o s t) v;unfold Jr;split
  ·exact h
  ·exact .any _
 | _ =>exact h
theorem D7 (o:Oper) (s:Fr) (x:Operand) (h:x∈o.op.operands):ev (Jr o s) x=ev s x:=by
 cases x with
 |tmp t=>show Jr o s t=s t;unfold Jr;refine if_pos ?_;unfold Oper.looksAt;refine List.mem_append.2 (.inl ?_);rw[List.mem_filterMap];exact⟨.tmp t,by simpa using h,rfl⟩
 | _ =>rfl
def V1 (P:Program) (o:Oper) (s:Fr) (σ:AS) (d g:AV→AS→Prop):Prop:=
 ∀(G:Gh) (ρ:Operand→Value) (w:World),Inv P G σ w→(∀x,ba P G (ev (Jr o s) x) (ρ x))→Out P G d g ((execOp ρ o).run P w)
def zj (P:Program) (n:Nat) (o:Oper) (s:Fr) (σ:AS) (g h:AV→AS→Prop):Prop:=
 (match o.dst with|none=>True|some d=>d<n)∧o.guard=none∧V1 P o s σ (fun v σ'=>(kJ o.op=true→AS.le σ σ')∧g v σ') h
variable (P) in
def bB (n:Nat) (ops:Array Oper) (ro:Bool) (Q:AQ):b7→Fr→AS→Prop
 |.done,s,σ=>Q .normal s σ
 |.step i t,s,σ=>match ops[i]? with
  |some o=>(ro=true∨oD s o.op=true)∧eZ P n ops o s σ (bB n ops ro Q t) Q
  |none=>False
 |.read i t,s,σ=>match ops[i]? with
  |some o=>eZ P n ops o s σ (bB n ops ro Q t) Q
  |none=>False
 |.alt i t r,s,σ=>(match ops[i]? with
  |some o=>eZ P n ops o s σ (bB n ops ro Q t) Q
  |none=>False)∧bB n ops ro Q r s σ
 |.spec i t r,s,σ=>(match ops[i]? with
  |some o=>zj P n o s σ (fun v σ'=>bB n ops ro Q t (s.put o.dst v) σ') (fun p σ'=>Q (.panic p) s σ')
  |none=>False)∧bB n ops ro Q r s σ
 |.pure i t,s,σ=>match ops[i]? with
  |some o=>tD P n ops o s (Jc (bB n ops ro Q t) s o.dst σ)
  |none=>False
 |.none,_,_ =>True
theorem Out.mono {G:Gh}{K l Pn i:AV→AS→Prop}{r:Result Next}(j:∀v σ,K v σ→l v σ) (o:∀v σ,Pn v σ→i v σ) (h:Out P G K Pn r):Out P G l i r:=by
 unfold Out at h⊢;split at h
 ·obtain⟨G',σ',g,a,b,c,d⟩:=h;exact⟨G',σ',g,a,b,c,j _ _ d⟩
 ·obtain⟨G',σ',g,a,b,c,d⟩:=h;exact⟨G',σ',g,a,b,c,j _ _ d⟩
 ·obtain⟨G',σ',g,a,b,c,d⟩:=h;exact⟨G',σ',g,a,b,c,o _ _ d⟩
 ·exact h.elim
def xb (P:Program) (ops:Array Oper) (n:Nat) (o:Oper) (s:Fr) (σ:AS) (d g:AV→AS→Prop):Prop:=FA P ops n o s σ d g∨zj P n o s σ d g
theorem yS {ops:Array Oper}{n:Nat}{o:Oper}{s:Fr}{σ:AS}{K l q g:AV→AS→Prop}(j:∀v σ,K v σ→q v σ) (i:∀v σ,l v σ→g v σ) (h:xb P ops n o s σ K l):xb P ops n o s σ q g:=
 h.imp (sv j i) fun⟨a,b,d⟩=>⟨a,b,fun G ρ w y u=>(d G ρ w y u).mono (fun v σ h=>⟨h.1,j v σ h.2⟩) i⟩
theorem D1 {ops:Array Oper}{n:Nat}{o:Oper}{s d:Fr}{σ:AS}{g i:AV→AS→Prop}(h:∀t∈o.looksAt ops,s t=d t):xb P ops n o s σ g i=xb P ops n o d σ g i:=by
 have hl:Jr o s=Jr o d:=by
  funext t;unfold Jr;split
  ·rename_i ht;refine h t ?_;unfold Oper.looksAt at ht⊢;rcases List.mem_append.1 ht with ht|ht
   ·exact List.mem_append.2 (.inl ht)
   ·simp at ht
  ·rfl
 have j:zj P n o s σ g i=zj P n o d σ g i:=by unfold zj V1;rw[hl]
 unfold xb;rw[yR h,j]
def sQ (P:Program) (n:Nat) (ops:Array Oper) (Q:AQ):Nat→Array Bool→Fr→AS→Prop
 |0,d,s,σ=>Region.ready .any ops d= []∧Q .normal s σ
 |f+1,d,s,σ=>(Region.ready .any ops d= []→Q .normal s σ)∧ ∀i∈Region.ready .any ops d,∃o,ops[i]? =some o∧xb P ops n o s σ (fun v σ'=>sQ P n ops Q f (d.setIfInBounds i true) (s.put o.dst v) σ') (fun p σ'=>Q (.panic p) s σ')
def AM (P:Program) (n:Nat) (ops:Array Oper) (ro:Bool) (o:Oper) (s:Fr) (σ:AS) (v:AV):Prop:=
 ∀σ',(ro=true→AS.le σ σ')→ ∀d g:AV→AS→Prop,d v σ'→FA P ops n o s σ' d g
theorem tr {n:Nat}{ops:Array Oper}{ro:Bool}{o:Oper}{s:Fr}{σ:AS}{u A:AV→AS→Prop}(F:(ro=true∧kJ o.op=true)∨oD s o.op=true) (h:FA P ops n o s σ u A):
 ∃v,AM P n ops ro o s σ v∧u v σ:=by
 have key:∀(u A:AV→AS→Prop),bY P o.op s σ u A→ ∃v,u v σ∧ ∀σ',(ro=true→AS.le σ σ')→ ∀d g:AV→AS→Prop,d v σ'→bY P o.op s σ' d g:=by
  intro u A h;rcases F with⟨h1,E⟩|E
  ·obtain⟨v,k1,l⟩:=Lx E h;exact⟨v,k1,fun σ' q d g i=>l σ' (q h1) d g i⟩
  ·obtain⟨v,k1,l⟩:=BA E h;exact⟨v,k1,fun σ' _ d g i=>l σ' d g i⟩
 unfold FA at h;obtain⟨hd,h⟩:=h;cases y:o.guard with
 |none=>simp only[y]at h;obtain⟨v,k1,l⟩:=key _ _ h;exact⟨v,fun σ' q d g i=>⟨hd,by simp only[y];exact l σ' q d g i⟩,k1⟩
 |some p=>
  obtain⟨j,want⟩:=p;simp only[y]at h;rcases h with⟨D,h⟩|⟨D,h⟩
  ·obtain⟨v,k1,l⟩:=key _ _ h;exact⟨v,fun σ' q d g i=>⟨hd,by simp only[y];exact .inl ⟨D,l σ' q d g i⟩⟩,k1⟩
  ·exact⟨mG,fun σ' q d g i=>⟨hd,by simp only[y];exact .inr ⟨D,i⟩⟩,h⟩
theorem Bp {n:Nat}{ops:Array Oper}{ro:Bool}{o:Oper}{s:Fr}{σ:AS}{K:AV→Prop}(h:tD P n ops o s K):∃v,AM P n ops ro o s σ v∧K v:=by
 obtain⟨dst,op,ty,pos,q,guard⟩:=o;unfold tD at h;obtain⟨hd,h⟩:=h;simp only at h hd;split at h
 ·obtain⟨v,h1,g⟩:=h;exact⟨v,fun σ' _ i j d=>⟨hd,h1 σ' i j d⟩,g⟩
 ·rcases h with⟨l,v,h1,g⟩|⟨l,g⟩
  ·exact⟨v,fun σ' _ i j d=>⟨hd,.inl ⟨l,h1 σ' i j d⟩⟩,g⟩
  ·exact⟨mG,fun σ' _ i j d=>⟨hd,.inr ⟨l,d⟩⟩,g⟩
 ·exact h.elim
theorem JP {n:Nat}{ops:Array Oper}{o:Oper}{s:Fr}{σ:AS}{d g:AV→AS→Prop}(i:kJ o.op=true) (h:FA P ops n o s σ d g):FA P ops n o s σ (fun v σ'=>σ'=σ∧d v σ') g:=by obtain⟨v,h1,j⟩:=tr (ro:=true) (.inl ⟨rfl,i⟩) h;exact h1 σ (fun _ =>AS.le_refl _) _ _ ⟨rfl,j⟩
theorem put_comm (s:Fr) {x y:Option Nat}(v u:AV) (h:∀d,x=some d→y≠some d):(s.put x v).put y u=(s.put y u).put x v:=by
 cases x with
 |none=>rfl
 |some d=>
  cases y with
  |none=>rfl
  |some e=>have g:d≠e:=fun he=>h d rfl (he ▸ rfl);funext i;simp only[Fr.put];by_cases h1:i=d<;>by_cases j:i=e<;>simp[h1,j]<;>omega
theorem yC (s:Fr) (x:Option Nat) (v:AV) (l:List Nat) (h:∀d,x=some d→d ∉ l):∀t∈l,s.put x v t=s t:=by
 intro t ht;cases x with
 |none=>rfl
 |some d=>have:t≠d:=fun e=>h d rfl (e ▸ ht);simp[Fr.put,this]
theorem ql {n i:Nat}{ops:Array Oper}{ro:Bool}{E:Oper}{v:AV}{Q:AQ}(hi:ops[i]? =some E) (hQ:∀p s v σ,Q (.panic p) (s.put E.dst v) σ→Q (.panic p) s σ)
 (M:Nat→Bool) (bv:M i=false) (bb:∀j g,ops[j]? =some g→j≠i→(∀e∈g.after,Region.binds .any e=true→M e.on=true)→M j=true):
 ∀(f:Nat) (d:Array Bool) (s:Fr) (σ:AS),
  (∀j,d.getD j false=true→M j=true)→(ro=true→ ∀j g,ops[j]? =some g→M j=true→d.getD j true=false→kJ g.op=true)→
  (∀j g,ops[j]? =some g→j≠i→d.getD j true=false→(∀e∈g.after,Region.binds .any e=true→e.on≠i)→E.apart ops g=true)→
  i∈Region.ready .any ops d→AM P n ops ro E s σ v→
  sQ P n ops Q f (d.setIfInBounds i true) (s.put E.dst v) σ→sQ P n ops Q (f+1) d s σ:=by
 intro f;induction f with
 |zero=>
  intro d s σ X L y U hy H;refine⟨fun h=>(by rw[h]at U;cases U),fun j hj=> ?_⟩;by_cases l:j=i
  ·subst l;exact⟨E,hi,.inl (hy σ (fun _ =>AS.le_refl _) _ _ H)⟩
  ·have:=ready_mono hj l;rw[H.1]at this;cases this
 |succ f ih=>
  intro d s σ X L y U hy H;refine⟨fun h=>(by rw[h]at U;cases U),fun j hj=> ?_⟩;by_cases l:j=i
  ·subst l;exact⟨E,hi,.inl (hy σ (fun _ =>AS.le_refl _) _ _ H)⟩
  ·obtain⟨g,D,h1⟩:=H.2 j (ready_mono hj l);refine⟨g,D,?_⟩;obtain⟨o,be,O,S⟩:=mem_ready.1 hj;rw[D]at O;obtain rfl:=Option.some.inj O;have I:=(mem_ready.1 U).1;have ab:∀e∈g.after,Region.binds .any e=true→e.on≠i:=by
    intro e he hb heq;have:=S e he hb;rw[heq]at this;rcases Nat.lt_or_ge i d.size with h'|h'
    ·simp[h']at I this;rw[I]at this;cases this
    ·simp[Array.getElem?_eq_none h']at I
   have V:M j=true:=bb j g D l fun e he hb=>X _ (by have:=S e he hb;simpa[Array.getD_eq_getD_getElem?]using this);obtain⟨a1,a2,a3⟩:=Oper.apart_spec (y j g D l o ab);rw[D1 (yC s E.dst v (g.looksAt ops) a1)]at h1;have J:∀k ok,ops[k]? =some ok→k≠i→(d.setIfInBounds j true).getD k true=false→
    (∀e∈ok.after,Region.binds .any e=true→e.on≠i)→E.apart ops ok=true:=fun k ok Y a6 F a5=>by
    refine y k ok Y a6 ?_ a5;by_cases q:j=k
    ·subst q;exact o
    ·rw[getD_set_ne true q]at F;exact F
   have Z:∀u σ',(ro=true→AS.le σ σ')→AM P n ops ro E (s.put g.dst u) σ' v:=by intro u σ' hσ am ap Kv Kp Y;rw[yR (yC s g.dst u (E.looksAt ops) a3)];exact hy am (fun h=>AS.le_trans (hσ h) (ap h)) Kv Kp Y
   have fin:∀u σ',(ro=true→AS.le σ σ')→sQ P n ops Q f ((d.setIfInBounds i true).setIfInBounds j true) ((s.put E.dst v).put g.dst u) σ'→sQ P n ops Q (f+1) (d.setIfInBounds j true) (s.put g.dst u) σ':=by
    intro u σ' hσ h3;refine ih (d.setIfInBounds j true) (s.put g.dst u) σ' (fun k Y=> ?_) (fun av k ok a4 a9 F=>L av k ok a4 a9 ?_) J (ready_mono U (Ne.symm l)) (Z u σ' hσ) ?_
    ·by_cases q:j=k
     ·subst q;exact V
     ·rw[getD_set_ne false q]at Y;exact X k Y
    ·by_cases q:j=k
     ·subst q;exact o
     ·rw[getD_set_ne true q]at F;exact F
    rw[Array.setIfInBounds_comm _ _ l,←put_comm s v u a2];exact h3
   cases T:ro with
   |true=>
    rcases h1 with h1|h1
    ·have h4:=JP (L T j g D V o) h1;exact .inl (sv (fun u σ' (A:σ'=σ∧ _)=>fin u σ' (fun _ =>by rw[A.1];exact AS.le_refl _) A.2) (fun p σ' A=>hQ p _ _ σ' A) h4)
    ·have h6:=L T j g D V o;obtain⟨d1,d2,d3⟩:=h1;exact .inr ⟨d1,d2,fun G ρ w hi a0=>(d3 G ρ w hi a0).mono (fun u σ' A=>⟨A.1,fin u σ' (fun _ =>A.1 h6) A.2⟩) (fun p σ' A=>hQ p _ _ σ' A)⟩
   |false=>exact yS (fun u σ' A=>fin u σ' (fun h=>by rw[T]at h;cases h) A) (fun p σ' A=>hQ p _ _ σ' A) h1
def b7.depth:b7→Nat
 |.done=>0
 |.step _ t=>t.depth+1
 |.read _ t=>t.depth+1
 |.alt _ t r=>max (t.depth+1) r.depth
 |.spec _ t r=>max (t.depth+1) r.depth
 |.pure _ t=>t.depth+1
 |.none=>0
theorem AI {n:Nat}{ops:Array Oper}{ro:Bool}{Q:AQ}(hQ:∀(j:Nat) (o:Oper),ops[j]? =some o→ ∀p s v σ,Q (.panic p) (s.put o.dst v) σ→Q (.panic p) s σ) (X:ro=true→ ∀(j:Nat) (o:Oper),ops[j]? =some o→kJ o.op=true):
 ∀(t:b7),(∀(d:Array Bool) (s:Fr) (σ:AS) (f:Nat),dE ops ro true d t=true→t.depth≤f→bB P n ops ro Q t s σ→sQ P n ops Q f d s σ)∧
  (∀(d:Array Bool) (s:Fr) (σ:AS) (f:Nat),dE ops ro false d t=true→t.depth≤f+1→bB P n ops ro Q t s σ→ ∀i∈t.idxs,∃o,ops[i]? =some o∧xb P ops n o s σ (fun v σ'=>sQ P n ops Q f (d.setIfInBounds i true) (s.put o.dst v) σ') (fun p σ'=>Q (.panic p) s σ')):=by
 have U:∀(i:Nat) (t r:b7) (d:Array Bool) (s:Fr) (σ:AS) (f:Nat),(∀(d:Array Bool) (s:Fr) (σ:AS) (f:Nat),dE ops ro true d t=true→t.depth≤f→bB P n ops ro Q t s σ→sQ P n ops Q f d s σ)→
  (∀(d:Array Bool) (s:Fr) (σ:AS) (f:Nat),dE ops ro false d r=true→r.depth≤f+1→bB P n ops ro Q r s σ→ ∀i∈r.idxs,∃o,ops[i]? =some o∧xb P ops n o s σ (fun v σ'=>sQ P n ops Q f (d.setIfInBounds i true) (s.put o.dst v) σ') (fun p σ'=>Q (.panic p) s σ'))→
  dE ops ro true (d.setIfInBounds i true) t=true→dE ops ro false d r=true→(b7.alt i t r).depth≤f+1→bB P n ops ro Q (.alt i t r) s σ→
  ∀j∈(b7.alt i t r).idxs,∃o,ops[j]? =some o∧xb P ops n o s σ (fun v σ'=>sQ P n ops Q f (d.setIfInBounds j true) (s.put o.dst v) σ') (fun p σ'=>Q (.panic p) s σ'):=by
  intro i t r d s σ f E F h1 D l H j q;simp only[b7.depth]at l;simp only[bB]at H;simp only[b7.idxs,List.mem_cons]at q;rcases q with rfl|q
  ·cases u:ops[j]? with
   |none=>simp only[u]at H;exact H.1.elim
   |some o=>simp only[u]at H;refine⟨o,rfl,?_⟩;have:=H.1;rw[mg]at this;exact .inl (sv (fun v σ' h5=>E _ _ _ f h1 (by omega) h5) (fun _ _ h=>h) this)
  ·exact F d s σ f D (by omega) H.2 j q
 have T:∀(i:Nat) (t r:b7) (d:Array Bool) (s:Fr) (σ:AS) (f:Nat),(∀(d:Array Bool) (s:Fr) (σ:AS) (f:Nat),dE ops ro true d t=true→t.depth≤f→bB P n ops ro Q t s σ→sQ P n ops Q f d s σ)→
  (∀(d:Array Bool) (s:Fr) (σ:AS) (f:Nat),dE ops ro false d r=true→r.depth≤f+1→bB P n ops ro Q r s σ→ ∀i∈r.idxs,∃o,ops[i]? =some o∧xb P ops n o s σ (fun v σ'=>sQ P n ops Q f (d.setIfInBounds i true) (s.put o.dst v) σ') (fun p σ'=>Q (.panic p) s σ'))→
  dE ops ro true (d.setIfInBounds i true) t=true→dE ops ro false d r=true→(b7.spec i t r).depth≤f+1→bB P n ops ro Q (.spec i t r) s σ→
  ∀j∈(b7.spec i t r).idxs,∃o,ops[j]? =some o∧xb P ops n o s σ (fun v σ'=>sQ P n ops Q f (d.setIfInBounds j true) (s.put o.dst v) σ') (fun p σ'=>Q (.panic p) s σ'):=by
  intro i t r d s σ f E F h1 D l H j q;simp only[b7.depth]at l;simp only[bB]at H;simp only[b7.idxs,List.mem_cons]at q;rcases q with rfl|q
  ·cases u:ops[j]? with
   |none=>simp only[u]at H;exact H.1.elim
   |some o=>simp only[u]at H;exact⟨o,rfl,yS (fun v σ' h5=>E _ _ _ f h1 (by omega) h5) (fun _ _ h=>h) (.inr H.1)⟩
  ·exact F d s σ f D (by omega) H.2 j q
 intro t;induction t with
 |done=>
  constructor
  ·intro d s σ f h1 D l;have al:Region.ready .any ops d= []:=by simpa[dE]using h1
   cases f with
   |zero=>exact⟨al,l⟩
   |succ f=>exact⟨fun _ =>l,fun i hi=>by rw[al]at hi;cases hi⟩
  ·intro d s σ f h1;simp[dE]at h1
 |none=>
  constructor
  ·intro d s σ f h1;simp[dE]at h1
  ·intro d s σ f _ _ _ i hi;simp[b7.idxs]at hi
 |step i t ih=>
  constructor
  ·intro d s σ f h1 D l;simp only[dE,Bool.and_eq_true]at h1;obtain⟨⟨⟨S,L⟩,V⟩,O⟩:=h1;simp only[bB]at l;simp only[b7.depth]at D;obtain⟨f,rfl⟩:∃g,f=g+1:=⟨f-1,by omega⟩;cases u:ops[i]? with
   |none=>simp only[u]at l
   |some o=>
    simp only[u]at l;obtain⟨l,H⟩:=l;rw[mg]at H;have a1:(ro=true∧kJ o.op=true)∨oD s o.op=true:=by
     rcases l with l|l
     ·exact .inl ⟨l,X l i o u⟩
     ·exact .inr l
    obtain⟨v,r1,Z⟩:=tr a1 H;have I:i∈Region.ready .any ops d:=by simpa using S
    have y:=(mem_ready.1 I).1;exact ql u (hQ i o u) (fun j=>decide (j≠i)) (by simp) (fun j _ _ A _ =>by simpa using A) f d s σ (fun j q=>by
     by_cases A:j=i
     ·subst A;rw[Array.getD_eq_getD_getElem?]at q y;cases hg:d[j]? <;>simp[hg]at q y;rw[q]at y;cases y
     ·simpa using A) (fun hr j oj J _ _ =>X hr j oj J) (Region.free_spec u L) I r1 (ih.1 _ _ _ f O (by omega) Z)
  ·intro d s σ f h1;simp[dE]at h1
 |read i t ih=>
  constructor
  ·intro d s σ f h1 D l;simp only[dE,Bool.and_eq_true]at h1;obtain⟨⟨⟨⟨S,L⟩,V⟩,q5⟩,O⟩:=h1;simp only[bB]at l;simp only[b7.depth]at D;obtain⟨f,rfl⟩:∃g,f=g+1:=⟨f-1,by omega⟩;cases u:ops[i]? with
   |none=>simp only[u]at l
   |some o=>
    simp only[u]at l;rw[mg]at l;have ar:kJ o.op=true:=by simpa[u]using V
    obtain⟨v,r1,Z⟩:=tr (ro:=true) (.inl ⟨rfl,ar⟩) l;have I:i∈Region.ready .any ops d:=by simpa using S
    simp only[yA,Bool.and_eq_true,List.all_eq_true,List.mem_range,Bool.or_eq_true,Bool.not_eq_true',beq_iff_eq]at q5;obtain⟨⟨⟨⟨m1,m2⟩,m3⟩,m4⟩,m5⟩:=q5;refine ql u (hQ i o u) (fun j=>(dS ops i 2 d).getD j false) m2 (fun j oj q A am=> ?_) f d s σ (fun j q=> ?_) (fun _ j oj J a3 y=> ?_) (Region.free_spec u L) I r1 (ih.1 _ _ _ f O (by omega) Z)
    ·have M:j<ops.size:=(Array.getElem?_eq_some_iff.1 q).1;have:=m5 j M;simp only[q,Bool.and_eq_true,Bool.or_eq_true]at this;rcases this.1 with(h|h)|h
     ·exact absurd (by simpa using h) A
     ·exact h
     ·rw[Array.any_eq_true']at h;obtain⟨e,he,h⟩:=h;simp only[Bool.and_eq_true,Bool.not_eq_true']at h;rw[am e he h.1]at h;cases h.2
    ·have M:j<ops.size:=by
      rcases Nat.lt_or_ge j ops.size with h|h
      ·exact h
      ·rw[Array.getD_eq_getD_getElem?,Array.getElem?_eq_none (by omega)]at q;cases q
     rcases m1 j M with h|h
     ·rw[q]at h;cases h
     ·exact h
    ·have M:j<ops.size:=(Array.getElem?_eq_some_iff.1 J).1;have:=m5 j M;simp only[J,Bool.and_eq_true,Bool.or_eq_true,Bool.not_eq_true']at this;rcases this.2 with(h|h)|h
     ·rw[a3]at h;cases h
     ·rw[y]at h;cases h
     ·exact h
  ·intro d s σ f h1;simp[dE]at h1
 |pure i t ih=>
  constructor
  ·intro d s σ f h1 D l;simp only[dE,Bool.and_eq_true]at h1;obtain⟨⟨⟨S,L⟩,V⟩,O⟩:=h1;simp only[bB]at l;simp only[b7.depth]at D;obtain⟨f,rfl⟩:∃g,f=g+1:=⟨f-1,by omega⟩;cases u:ops[i]? with
   |none=>simp only[u]at l
   |some o=>
    simp only[u]at l;obtain⟨v,r1,Z⟩:=Bp (ro:=ro) (σ:=σ) l;have I:i∈Region.ready .any ops d:=by simpa using S
    have y:=(mem_ready.1 I).1;exact ql u (hQ i o u) (fun j=>decide (j≠i)) (by simp) (fun j _ _ A _ =>by simpa using A) f d s σ (fun j q=>by
     by_cases A:j=i
     ·subst A;rw[Array.getD_eq_getD_getElem?]at q y;cases hg:d[j]? <;>simp[hg]at q y;rw[q]at y;cases y
     ·simpa using A) (fun hr j oj J _ _ =>X hr j oj J) (Region.free_spec u L) I r1 (ih.1 _ _ _ f O (by omega) Z)
  ·intro d s σ f h1;simp[dE]at h1
 |alt i t r E F=>
  constructor
  ·intro d s σ f h1 D l;simp only[dE,Bool.and_eq_true,Bool.not_true,Bool.false_or]at h1;obtain⟨⟨⟨S,L⟩,V⟩,O⟩:=h1;have Y:=D;simp only[b7.depth]at D;obtain⟨f,rfl⟩:∃g,f=g+1:=⟨f-1,by omega⟩;have:=U i t r d s σ f E.1 F.2 V O Y l;refine⟨fun h=>by rw[h]at L;simp at L,fun j q=>this j ?_⟩;have:=List.all_eq_true.1 S j q;simpa using this
  ·intro d s σ f h1 D l;simp only[dE,Bool.and_eq_true,Bool.not_false,Bool.true_or,true_and]at h1;exact U i t r d s σ f E.1 F.2 h1.1 h1.2 D l
 |spec i t r E F=>
  constructor
  ·intro d s σ f h1 D l;simp only[dE,Bool.and_eq_true,Bool.not_true,Bool.false_or]at h1;obtain⟨⟨⟨S,L⟩,V⟩,O⟩:=h1;have Y:=D;simp only[b7.depth]at D;obtain⟨f,rfl⟩:∃g,f=g+1:=⟨f-1,by omega⟩;have:=T i t r d s σ f E.1 F.2 V O Y l;refine⟨fun h=>by rw[h]at L;simp at L,fun j q=>this j ?_⟩;have:=List.all_eq_true.1 S j q;simpa using this
  ·intro d s σ f h1 D l;simp only[dE,Bool.and_eq_true,Bool.not_false,Bool.true_or,true_and]at h1;exact T i t r d s σ f E.1 F.2 h1.1 h1.2 D l
theorem xP {n:Nat}{ds:List Deferred}{G0:Gh}{ops:Array Oper}{Q:AQ} :∀(f:Nat) (d:Array Bool) (G:Gh) (s:Fr) (σ:AS) (a:Act) (w:World),sQ P n ops Q f d s σ→G0.Le G→oW P G n ds s σ a w→
 wpAny P .any ops (LQ P n ds Q G0) f d a w:=by
 intro f;induction f with
 |zero=>intro d G s σ a w h hle g;exact⟨h.1,G,s,σ,hle,g,h.2⟩
 |succ f A=>
  intro d G s σ a w h hle g;refine⟨fun he=>⟨G,s,σ,hle,g,h.1 he⟩,fun i L=> ?_⟩;obtain⟨o,F,y⟩:=h.2 i L;rcases y with y|⟨hd,D,J⟩;rotate_left
  ·have l:∀t,o.dst=some t→t<n:=by intro t ht;rw[ht]at hd;exact hd
   unfold wpOp;simp only[F];have hw:Region.wanted o (yielded ops a.tmps)=true:=by simp[Region.wanted,D]
   rw[if_pos hw];refine .inl ?_;have:=J G a.eval w g.inv (fun x=>OT o s x (g.ev x));unfold Oper.wp;generalize (execOp a.eval o).run P w=r at this⊢;cases r with
   |ok I w'=>
    cases I<;>simp only[Out]at this<;>first|exact this.elim|skip
    ·obtain⟨G',σ',E,j,v,u,q⟩:=this;exact A _ G' _ _ _ _ q.2 (hle.trans j) (g.put j v o.dst l u)
    ·obtain⟨G',σ',E,j,v,u,q⟩:=this;exact A _ G' _ _ _ _ q.2 (hle.trans j) (g.put j v o.dst l u)
   |halt x w'=>
    cases x<;>simp only[Out]at this<;>first|exact this.elim|skip
    obtain⟨G',σ',E,j,v,u,q⟩:=this;exact⟨rfl,rfl,G',s,σ',E,hle.trans j,⟨v,g.size,g.ds,fun i=>(g.rep i).mono j⟩,u,q⟩
  rw[←mg]at y;have:=oM o y hle g (next:=wpAny P .any ops (LQ P n ds Q G0) f (d.setIfInBounds i true)) (fun G' H σ' S w' h1 O M=>A _ G' H σ' S w' M h1 O);unfold wpOp;simp only[F];by_cases hw:Region.wanted o (yielded ops a.tmps)=true
  ·rw[if_pos hw]at this⊢;exact .inl this
  ·rw[if_neg hw]at this⊢;exact this
theorem ae.NF {n:Nat}{ds:List Deferred}{id:Nat}{l:List Oper}{Q:AQ}{s:Fr}{σ:AS}(hm:P.follows .mixedOrders=true) (ro:Bool) (t:b7)
 (d:(!ro||l.all fun o=>kJ o.op)=true) (q:dE l.toArray ro true (Array.replicate l.length false) t=true) (hd:decide (t.depth≤l.length)=true)
 (A:∀o∈l,∀p s v σ,Q (.panic p) (s.put o.dst v) σ→Q (.panic p) s σ) (h:bB P n l.toArray ro Q t s σ):ae P n ds (.region id l.toArray true) Q s σ:=by
 intro G0 G a w h1 i;have u:oW P G n ds s σ a { w with drawn:=w.drawn+1 } :=⟨i.inv.drew,i.size,i.ds,i.rep⟩;refine wp_region_any hm ?_;have:=(AI (P:=P) (n:=n) (fun j o g=>A o (by rw[List.getElem?_toArray]at g;exact List.mem_of_getElem? g)) (fun y j o g=>by rw[y]at d;simp only[Bool.not_true,Bool.false_or,List.all_eq_true]at d;refine d o ?_;rw[List.getElem?_toArray]at g;exact List.mem_of_getElem? g) t).1 _ s σ l.length q (by simpa using hd) h;have:=xP (ds:=ds) l.length _ G s σ a _ this h1 u;simpa using this
theorem ae.draw {n:Nat}{ds:List Deferred}{id:Nat}{l:List Oper}{Q:AQ}{s:Fr}{σ:AS}(hm:P.follows .mixedOrders=true) (ro:Bool) (t:b7)
 (d:(!ro||l.all fun o=>kJ o.op)=true) (g:dE l.toArray ro true (Array.replicate l.length false) t=true) (hd:decide (t.depth≤l.length)=true)
 (q:∀p s i σ,Q (.panic p) s σ→Q (.panic p) i σ) (h:bB P n l.toArray ro Q t s σ):ae P n ds (.region id l.toArray true) Q s σ:=
 ae.NF hm ro t d g hd (fun _ _ p _ _ σ j=>q p _ _ σ j) h
end Go.AW
