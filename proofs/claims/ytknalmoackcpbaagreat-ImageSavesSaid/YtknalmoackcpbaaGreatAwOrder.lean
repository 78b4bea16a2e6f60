/- A layer of abstract values over the model's machine: own work for this claim, part AwOrder. -/
import Derived.Recover
import Derived.Test.YtknalmoackcpbaaGreatAwOps7
set_option linter.all false
open Go Go.RowKit
namespace Go.AW
variable {P:Program}
inductive dW where
 |D
 |S (i:Nat) (t:dW)
 |R (i:Nat) (t:dW)
 |A (i:Nat) (t r:dW)
 |W (i:Nat) (t r:dW)
 |U (i:Nat) (t:dW)
 |Z
def dW.idxs:dW→List Nat
 |.A i _ r=>i::r.idxs
 |.W i _ r=>i::r.idxs
 | _ => []
def Mp (ops:Array Oper) (i:Nat):Nat→Array Bool→Array Bool
 |0,m=>m
 |f+1,m=>Mp ops i f ((List.range ops.size).foldl (fun m j=>if j !=i&&(match ops[j]? with|some o=>o.after.all fun e=> !Region.binds .any e||m.getD e.on false|none=>false)then m.setIfInBounds j true else m) m)
def wV (ops:Array Oper) (i:Nat) (l:Array Bool):Bool:=
 let M:=Mp ops i 2 l
 (List.range ops.size).all (fun j=> !l.getD j false||M.getD j false)&& !M.getD i false&&l.size==ops.size&&M.size==ops.size&&
 (List.range ops.size).all fun j=>match ops[j]? with
  |some o=>(j==i||M.getD j false||o.after.any fun e=>Region.binds .any e&& !M.getD e.on false)&&(!M.getD j false||l.getD j true||qM o.op)
  |none=>true
def dy (ops:Array Oper) (ro:Bool):Bool→Array Bool→dW→Bool
 |true,l,.D=>(Region.ready .any ops l).isEmpty
 |true,l,.S i t=>(Region.ready .any ops l).contains i&&Region.free .any ops l i&&(!ro||((ops[i]?).map (gB ·.op)).getD false)&&dy ops ro true (l.setIfInBounds i true) t
 |true,l,.R i t=>(Region.ready .any ops l).contains i&&Region.free .any ops l i&&((ops[i]?).map (gB ·.op)).getD false&&wV ops i l&&dy ops ro true (l.setIfInBounds i true) t
 |true,l,.U i t=>(Region.ready .any ops l).contains i&&Region.free .any ops l i&& !ro&&dy ops ro true (l.setIfInBounds i true) t
 |top,l,.A i t r=>(!top||(Region.ready .any ops l).all fun j=>(dW.A i t r).idxs.contains j)&&(!top|| !(Region.ready .any ops l).isEmpty)&&dy ops ro true (l.setIfInBounds i true) t&&dy ops ro false l r
 |top,l,.W i t r=>(!top||(Region.ready .any ops l).all fun j=>(dW.W i t r).idxs.contains j)&&(!top|| !(Region.ready .any ops l).isEmpty)&&dy ops ro true (l.setIfInBounds i true) t&&dy ops ro false l r
 |false,_,.Z=>true
 | _,_,_ =>false
def aM (P:Program) (j:AV) (args:List AV) (K:AV→Prop):Prop:= ∃v,(∀σ' (Kv l:AV→AS→Prop),Kv v σ'→aj P j args σ' Kv l)∧K v
def rH (P:Program) (n:Nat) (ops:Array Oper) (o:Oper) (s:Fr) (K:AV→Prop):Prop:=
 (match o.dst with|none=>True|some d=>d<n)∧
 match o.op,o.guard with
 |.call ⟨.value f,args,_⟩,none=>aM P (ev s f) (args.toList.map (ev s)) K
 |.call ⟨.value f,args,_⟩,some (j,want)=>iL (fy ops s j) want (aM P (ev s f) (args.toList.map (ev s)) K) (K iH)
 | _,_ =>False
def HJ (K:Fr→AS→Prop) (s:Fr) (d:Option Nat) (σ:AS):AV→Prop:=fun v=>K (s.put d v) σ
def HR (o:Oper) (s:Fr):Fr:=fun t=>if t∈({ o with guard:=none } :Oper).looksAt #[]then s t else .any
theorem Na (o:Oper) (s:Fr) {G:Gh}{v:Value}(x:Operand) (h:aU P G (ev s x) v):aU P G (ev (HR o s) x) v:=by
 cases x with
 |tmp t=>
  show aU P G (HR o s t) v;unfold HR;split
  ·exact h
  ·exact .any _
 | _ =>exact h
theorem Cu (o:Oper) (s:Fr) (x:Operand) (h:x∈o.op.operands):ev (HR o s) x=ev s x:=by
 cases x with
 |tmp t=>show HR o s t=s t;unfold HR;refine if_pos ?_;unfold Oper.looksAt;refine List.mem_append.2 (.inl ?_);rw[List.mem_filterMap];exact⟨.tmp t,by simpa using h,rfl⟩
 | _ =>rfl
def Ua (P:Program) (o:Oper) (s:Fr) (σ:AS) (Kv j:AV→AS→Prop):Prop:=
 ∀(G:Gh) (ρ:Operand→Value) (w:World),Inv P G σ w→(∀x,aU P G (ev (HR o s) x) (ρ x))→Out P G Kv j ((execOp ρ o).run P w)
def xI (P:Program) (n:Nat) (o:Oper) (s:Fr) (σ:AS) (Kv j:AV→AS→Prop):Prop:=
 (match o.dst with|none=>True|some d=>d<n)∧o.guard=none∧Ua P o s σ (fun v σ'=>(qM o.op=true→AS.le σ σ')∧Kv v σ') j
variable (P) in
def bH (n:Nat) (ops:Array Oper) (ro:Bool) (Q:AQ):dW→Fr→AS→Prop
 |.D,s,σ=>Q .normal s σ
 |.S i t,s,σ=>match ops[i]? with
  |some o=>(ro=true∨jH s o.op=true)∧eP P n ops o s σ (bH n ops ro Q t) Q
  |none=>False
 |.R i t,s,σ=>match ops[i]? with
  |some o=>eP P n ops o s σ (bH n ops ro Q t) Q
  |none=>False
 |.A i t r,s,σ=>(match ops[i]? with
  |some o=>eP P n ops o s σ (bH n ops ro Q t) Q
  |none=>False)∧bH n ops ro Q r s σ
 |.W i t r,s,σ=>(match ops[i]? with
  |some o=>xI P n o s σ (fun v σ'=>bH n ops ro Q t (s.put o.dst v) σ') (fun p σ'=>Q (.panic p) s σ')
  |none=>False)∧bH n ops ro Q r s σ
 |.U i t,s,σ=>match ops[i]? with
  |some o=>rH P n ops o s (HJ (bH n ops ro Q t) s o.dst σ)
  |none=>False
 |.Z,_,_ =>True
theorem Out.mono {G:Gh}{K u Pn l:AV→AS→Prop}{r:Result Next}(q:∀v σ,K v σ→u v σ) (w:∀v σ,Pn v σ→l v σ) (h:Out P G K Pn r):Out P G u l r:=by
 unfold Out at h⊢;split at h
 ·obtain⟨G',σ',j,a,b,c,d⟩:=h;exact⟨G',σ',j,a,b,c,q _ _ d⟩
 ·obtain⟨G',σ',j,a,b,c,d⟩:=h;exact⟨G',σ',j,a,b,c,q _ _ d⟩
 ·obtain⟨G',σ',j,a,b,c,d⟩:=h;exact⟨G',σ',j,a,b,c,w _ _ d⟩
 ·exact h.elim
def vp (P:Program) (ops:Array Oper) (n:Nat) (o:Oper) (s:Fr) (σ:AS) (Kv j:AV→AS→Prop):Prop:=Co P ops n o s σ Kv j∨xI P n o s σ Kv j
theorem xu {ops:Array Oper}{n:Nat}{o:Oper}{s:Fr}{σ:AS}{K u A j:AV→AS→Prop}(q:∀v σ,K v σ→A v σ) (l:∀v σ,u v σ→j v σ) (h:vp P ops n o s σ K u):vp P ops n o s σ A j:=
 h.imp (qN q l) fun⟨a,b,d⟩=>⟨a,b,fun G ρ w E D=>(d G ρ w E D).mono (fun v σ h=>⟨h.1,q v σ h.2⟩) l⟩
theorem Cn {ops:Array Oper}{n:Nat}{o:Oper}{s j:Fr}{σ:AS}{Kv l:AV→AS→Prop}(h:∀t∈o.looksAt ops,s t=j t):vp P ops n o s σ Kv l=vp P ops n o j σ Kv l:=by
 have hl:HR o s=HR o j:=by
  funext t;unfold HR;split
  ·rename_i ht;refine h t ?_;unfold Oper.looksAt at ht⊢;rcases List.mem_append.1 ht with ht|ht
   ·exact List.mem_append.2 (.inl ht)
   ·simp at ht
  ·rfl
 have q:xI P n o s σ Kv l=xI P n o j σ Kv l:=by unfold xI Ua;rw[hl]
 unfold vp;rw[xt h,q]
def rj (P:Program) (n:Nat) (ops:Array Oper) (Q:AQ):Nat→Array Bool→Fr→AS→Prop
 |0,j,s,σ=>Region.ready .any ops j= []∧Q .normal s σ
 |f+1,j,s,σ=>(Region.ready .any ops j= []→Q .normal s σ)∧ ∀i∈Region.ready .any ops j,∃o,ops[i]? =some o∧vp P ops n o s σ (fun v σ'=>rj P n ops Q f (j.setIfInBounds i true) (s.put o.dst v) σ') (fun p σ'=>Q (.panic p) s σ')
def zd (P:Program) (n:Nat) (ops:Array Oper) (ro:Bool) (o:Oper) (s:Fr) (σ:AS) (v:AV):Prop:=
 ∀σ',(ro=true→AS.le σ σ')→ ∀Kv j:AV→AS→Prop,Kv v σ'→Co P ops n o s σ' Kv j
theorem wU {n:Nat}{ops:Array Oper}{ro:Bool}{o:Oper}{s:Fr}{σ:AS}{Kv E:AV→AS→Prop}(I:(ro=true∧gB o.op=true)∨jH s o.op=true) (h:Co P ops n o s σ Kv E):
 ∃v,zd P n ops ro o s σ v∧Kv v σ:=by
 have key:∀(Kv E:AV→AS→Prop),bX P o.op s σ Kv E→ ∃v,Kv v σ∧ ∀σ',(ro=true→AS.le σ σ')→ ∀l q:AV→AS→Prop,l v σ'→bX P o.op s σ' l q:=by
  intro Kv E h;rcases I with⟨h1,H⟩|H
  ·obtain⟨v,k1,A⟩:=Dg H h;exact⟨v,k1,fun σ' u l q w=>A σ' (u h1) l q w⟩
  ·obtain⟨v,k1,A⟩:=zL H h;exact⟨v,k1,fun σ' _ l q w=>A σ' l q w⟩
 unfold Co at h;obtain⟨F,h⟩:=h;cases D:o.guard with
 |none=>simp only[D]at h;obtain⟨v,k1,A⟩:=key _ _ h;exact⟨v,fun σ' u l q w=>⟨F,by simp only[D];exact A σ' u l q w⟩,k1⟩
 |some p=>
  obtain⟨j,want⟩:=p;simp only[D]at h;rcases h with⟨G,h⟩|⟨G,h⟩
  ·obtain⟨v,k1,A⟩:=key _ _ h;exact⟨v,fun σ' u l q w=>⟨F,by simp only[D];exact .inl ⟨G,A σ' u l q w⟩⟩,k1⟩
  ·exact⟨iH,fun σ' u l q w=>⟨F,by simp only[D];exact .inr ⟨G,w⟩⟩,h⟩
theorem zE {n:Nat}{ops:Array Oper}{ro:Bool}{o:Oper}{s:Fr}{σ:AS}{K:AV→Prop}(h:rH P n ops o s K):∃v,zd P n ops ro o s σ v∧K v:=by
 obtain⟨dst,op,ty,pos,af,guard⟩:=o;unfold rH at h;obtain⟨q,h⟩:=h;simp only at h q;split at h
 ·obtain⟨v,h1,l⟩:=h;exact⟨v,fun σ' _ Kv u j=>⟨q,h1 σ' Kv u j⟩,l⟩
 ·rcases h with⟨w,v,h1,l⟩|⟨w,l⟩
  ·exact⟨v,fun σ' _ Kv u j=>⟨q,.inl ⟨w,h1 σ' Kv u j⟩⟩,l⟩
  ·exact⟨iH,fun σ' _ Kv u j=>⟨q,.inr ⟨w,j⟩⟩,l⟩
 ·exact h.elim
theorem Ib {n:Nat}{ops:Array Oper}{o:Oper}{s:Fr}{σ:AS}{Kv w:AV→AS→Prop}(u:qM o.op=true) (h:Co P ops n o s σ Kv w):Co P ops n o s σ (fun v σ'=>AS.le σ σ'∧Kv v σ') w:=by
 unfold Co at h⊢;refine⟨h.1,?_⟩;have l:=h.2;split
 ·rename_i q;simp only[q]at l;exact zz u l
 ·rename_i j want q;simp only[q]at l;exact og l (zz u) (fun h=>⟨AS.le_refl _,h⟩)
theorem put_comm (s:Fr) {x y:Option Nat}(v u:AV) (h:∀d,x=some d→y≠some d):(s.put x v).put y u=(s.put y u).put x v:=by
 cases x with
 |none=>rfl
 |some d=>
  cases y with
  |none=>rfl
  |some e=>have j:d≠e:=fun he=>h d rfl (he ▸ rfl);funext i;simp only[Fr.put];by_cases h1:i=d<;>by_cases l:i=e<;>simp[h1,l]<;>omega
theorem wX (s:Fr) (x:Option Nat) (v:AV) (l:List Nat) (h:∀d,x=some d→d ∉ l):∀t∈l,s.put x v t=s t:=by
 intro t ht;cases x with
 |none=>rfl
 |some d=>have:t≠d:=fun e=>h d rfl (e ▸ ht);simp[Fr.put,this]
theorem oT {n i:Nat}{ops:Array Oper}{ro:Bool}{L:Oper}{v:AV}{Q:AQ}(hi:ops[i]? =some L) (hQ:∀p s v σ,Q (.panic p) (s.put L.dst v) σ→Q (.panic p) s σ)
 (M:Nat→Bool) (b0:M i=false) (be:∀j q,ops[j]? =some q→j≠i→(∀e∈q.after,Region.binds .any e=true→M e.on=true)→M j=true):
 ∀(f:Nat) (l:Array Bool) (s:Fr) (σ:AS),
  (∀j,l.getD j false=true→M j=true)→(ro=true→ ∀j q,ops[j]? =some q→M j=true→l.getD j true=false→qM q.op=true)→
  (∀j q,ops[j]? =some q→j≠i→l.getD j true=false→(∀e∈q.after,Region.binds .any e=true→e.on≠i)→L.apart ops q=true)→
  i∈Region.ready .any ops l→zd P n ops ro L s σ v→
  rj P n ops Q f (l.setIfInBounds i true) (s.put L.dst v) σ→rj P n ops Q (f+1) l s σ:=by
 intro f;induction f with
 |zero=>
  intro l s σ ai U F hr hy H;refine⟨fun h=>(by rw[h]at hr;cases hr),fun j hj=> ?_⟩;by_cases A:j=i
  ·subst A;exact⟨L,hi,.inl (hy σ (fun _ =>AS.le_refl _) _ _ H)⟩
  ·have:=ready_mono hj A;rw[H.1]at this;cases this
 |succ f ih=>
  intro l s σ ai U F hr hy H;refine⟨fun h=>(by rw[h]at hr;cases hr),fun j hj=> ?_⟩;by_cases A:j=i
  ·subst A;exact⟨L,hi,.inl (hy σ (fun _ =>AS.le_refl _) _ _ H)⟩
  ·obtain⟨q,J,h1⟩:=H.2 j (ready_mono hj A);refine⟨q,J,?_⟩;obtain⟨D,bs,V,X⟩:=mem_ready.1 hj;rw[J]at V;obtain rfl:=Option.some.inj V;have S:=(mem_ready.1 hr).1;have ar:∀e∈q.after,Region.binds .any e=true→e.on≠i:=by
    intro e he hb heq;have:=X e he hb;rw[heq]at this;rcases Nat.lt_or_ge i l.size with h'|h'
    ·simp[h']at S this;rw[S]at this;cases this
    ·simp[Array.getElem?_eq_none h']at S
   have ac:M j=true:=be j q J A fun e he hb=>ai _ (by have:=X e he hb;simpa[Array.getD_eq_getD_getElem?]using this);obtain⟨a1,a2,a3⟩:=Oper.apart_spec (F j q J A D ar);rw[Cn (wX s L.dst v (q.looksAt ops) a1)]at h1;have T:∀k ok,ops[k]? =some ok→k≠i→(l.setIfInBounds j true).getD k true=false→
    (∀e∈ok.after,Region.binds .any e=true→e.on≠i)→L.apart ops ok=true:=fun k ok hk a7 O a6=>by
    refine F k ok hk a7 ?_ a6;by_cases E:j=k
    ·subst E;exact D
    ·rw[getD_set_ne true E]at O;exact O
   have ap:∀u σ',(ro=true→AS.le σ σ')→zd P n ops ro L (s.put q.dst u) σ' v:=by intro u σ' Y al am Kv Kp hk;rw[xt (wX s q.dst u (L.looksAt ops) a3)];exact hy al (fun h=>AS.le_trans (Y h) (am h)) Kv Kp hk
   have fin:∀u σ',(ro=true→AS.le σ σ')→rj P n ops Q f ((l.setIfInBounds i true).setIfInBounds j true) ((s.put L.dst v).put q.dst u) σ'→rj P n ops Q (f+1) (l.setIfInBounds j true) (s.put q.dst u) σ':=by
    intro u σ' Y h3;refine ih (l.setIfInBounds j true) (s.put q.dst u) σ' (fun k hk=> ?_) (fun a0 k ok a5 bb O=>U a0 k ok a5 bb ?_) T (ready_mono hr (Ne.symm A)) (ap u σ' Y) ?_
    ·by_cases E:j=k
     ·subst E;exact ac
     ·rw[getD_set_ne false E]at hk;exact ai k hk
    ·by_cases E:j=k
     ·subst E;exact D
     ·rw[getD_set_ne true E]at O;exact O
    rw[Array.setIfInBounds_comm _ _ A,←put_comm s v u a2];exact h3
   cases Z:ro with
   |true=>
    rcases h1 with h1|h1
    ·have h4:=Ib (U Z j q J ac D) h1;exact .inl (qN (fun u σ' (I:AS.le σ σ'∧ _)=>fin u σ' (fun _ =>I.1) I.2) (fun p σ' I=>hQ p _ _ σ' I) h4)
    ·have h6:=U Z j q J ac D;obtain⟨d1,d2,d3⟩:=h1;exact .inr ⟨d1,d2,fun G ρ w hi a4=>(d3 G ρ w hi a4).mono (fun u σ' I=>⟨I.1,fin u σ' (fun _ =>I.1 h6) I.2⟩) (fun p σ' I=>hQ p _ _ σ' I)⟩
   |false=>exact xu (fun u σ' I=>fin u σ' (fun h=>by rw[Z]at h;cases h) I) (fun p σ' I=>hQ p _ _ σ' I) h1
def dW.depth:dW→Nat
 |.D=>0
 |.S _ t=>t.depth+1
 |.R _ t=>t.depth+1
 |.A _ t r=>max (t.depth+1) r.depth
 |.W _ t r=>max (t.depth+1) r.depth
 |.U _ t=>t.depth+1
 |.Z=>0
theorem zb {n:Nat}{ops:Array Oper}{ro:Bool}{Q:AQ}(hQ:∀(j:Nat) (o:Oper),ops[j]? =some o→ ∀p s v σ,Q (.panic p) (s.put o.dst v) σ→Q (.panic p) s σ) (ai:ro=true→ ∀(j:Nat) (o:Oper),ops[j]? =some o→gB o.op=true):
 ∀(t:dW),(∀(l:Array Bool) (s:Fr) (σ:AS) (f:Nat),dy ops ro true l t=true→t.depth≤f→bH P n ops ro Q t s σ→rj P n ops Q f l s σ)∧
  (∀(l:Array Bool) (s:Fr) (σ:AS) (f:Nat),dy ops ro false l t=true→t.depth≤f+1→bH P n ops ro Q t s σ→ ∀i∈t.idxs,∃o,ops[i]? =some o∧vp P ops n o s σ (fun v σ'=>rj P n ops Q f (l.setIfInBounds i true) (s.put o.dst v) σ') (fun p σ'=>Q (.panic p) s σ')):=by
 have ab:∀(i:Nat) (t r:dW) (l:Array Bool) (s:Fr) (σ:AS) (f:Nat),(∀(l:Array Bool) (s:Fr) (σ:AS) (f:Nat),dy ops ro true l t=true→t.depth≤f→bH P n ops ro Q t s σ→rj P n ops Q f l s σ)→
  (∀(l:Array Bool) (s:Fr) (σ:AS) (f:Nat),dy ops ro false l r=true→r.depth≤f+1→bH P n ops ro Q r s σ→ ∀i∈r.idxs,∃o,ops[i]? =some o∧vp P ops n o s σ (fun v σ'=>rj P n ops Q f (l.setIfInBounds i true) (s.put o.dst v) σ') (fun p σ'=>Q (.panic p) s σ'))→
  dy ops ro true (l.setIfInBounds i true) t=true→dy ops ro false l r=true→(dW.A i t r).depth≤f+1→bH P n ops ro Q (.A i t r) s σ→
  ∀j∈(dW.A i t r).idxs,∃o,ops[j]? =some o∧vp P ops n o s σ (fun v σ'=>rj P n ops Q f (l.setIfInBounds j true) (s.put o.dst v) σ') (fun p σ'=>Q (.panic p) s σ'):=by
  intro i t r l s σ f H I h1 G q J j u;simp only[dW.depth]at q;simp only[bH]at J;simp only[dW.idxs,List.mem_cons]at u;rcases u with rfl|u
  ·cases w:ops[j]? with
   |none=>simp only[w]at J;exact J.1.elim
   |some o=>simp only[w]at J;refine⟨o,rfl,?_⟩;have:=J.1;rw[kD]at this;exact .inl (qN (fun v σ' h5=>H _ _ _ f h1 (by omega) h5) (fun _ _ h=>h) this)
  ·exact I l s σ f G (by omega) J.2 j u
 have Y:∀(i:Nat) (t r:dW) (l:Array Bool) (s:Fr) (σ:AS) (f:Nat),(∀(l:Array Bool) (s:Fr) (σ:AS) (f:Nat),dy ops ro true l t=true→t.depth≤f→bH P n ops ro Q t s σ→rj P n ops Q f l s σ)→
  (∀(l:Array Bool) (s:Fr) (σ:AS) (f:Nat),dy ops ro false l r=true→r.depth≤f+1→bH P n ops ro Q r s σ→ ∀i∈r.idxs,∃o,ops[i]? =some o∧vp P ops n o s σ (fun v σ'=>rj P n ops Q f (l.setIfInBounds i true) (s.put o.dst v) σ') (fun p σ'=>Q (.panic p) s σ'))→
  dy ops ro true (l.setIfInBounds i true) t=true→dy ops ro false l r=true→(dW.W i t r).depth≤f+1→bH P n ops ro Q (.W i t r) s σ→
  ∀j∈(dW.W i t r).idxs,∃o,ops[j]? =some o∧vp P ops n o s σ (fun v σ'=>rj P n ops Q f (l.setIfInBounds j true) (s.put o.dst v) σ') (fun p σ'=>Q (.panic p) s σ'):=by
  intro i t r l s σ f H I h1 G q J j u;simp only[dW.depth]at q;simp only[bH]at J;simp only[dW.idxs,List.mem_cons]at u;rcases u with rfl|u
  ·cases w:ops[j]? with
   |none=>simp only[w]at J;exact J.1.elim
   |some o=>simp only[w]at J;exact⟨o,rfl,xu (fun v σ' h5=>H _ _ _ f h1 (by omega) h5) (fun _ _ h=>h) (.inr J.1)⟩
  ·exact I l s σ f G (by omega) J.2 j u
 intro t;induction t with
 |D=>
  constructor
  ·intro l s σ f h1 G q;have av:Region.ready .any ops l= []:=by simpa[dy]using h1
   cases f with
   |zero=>exact⟨av,q⟩
   |succ f=>exact⟨fun _ =>q,fun i hi=>by rw[av]at hi;cases hi⟩
  ·intro l s σ f h1;simp[dy]at h1
 |Z=>
  constructor
  ·intro l s σ f h1;simp[dy]at h1
  ·intro l s σ f _ _ _ i hi;simp[dW.idxs]at hi
 |S i t ih=>
  constructor
  ·intro l s σ f h1 G q;simp only[dy,Bool.and_eq_true]at h1;obtain⟨⟨⟨X,O⟩,q3⟩,V⟩:=h1;simp only[bH]at q;simp only[dW.depth]at G;obtain⟨f,rfl⟩:∃g,f=g+1:=⟨f-1,by omega⟩;cases w:ops[i]? with
   |none=>simp only[w]at q
   |some o=>
    simp only[w]at q;obtain⟨q,J⟩:=q;rw[kD]at J;have a3:(ro=true∧gB o.op=true)∨jH s o.op=true:=by
     rcases q with q|q
     ·exact .inl ⟨q,ai q i o w⟩
     ·exact .inr q
    obtain⟨v,r1,r2⟩:=wU a3 J;have L:i∈Region.ready .any ops l:=by simpa using X
    have E:=(mem_ready.1 L).1;exact oT w (hQ i o w) (fun j=>decide (j≠i)) (by simp) (fun j _ _ F _ =>by simpa using F) f l s σ (fun j u=>by
     by_cases F:j=i
     ·subst F;rw[Array.getD_eq_getD_getElem?]at u E;cases hg:l[j]? <;>simp[hg]at u E;rw[u]at E;cases E
     ·simpa using F) (fun hr j oj M _ _ =>Ax (ai hr j oj M)) (Region.free_spec w O) L r1 (ih.1 _ _ _ f V (by omega) r2)
  ·intro l s σ f h1;simp[dy]at h1
 |R i t ih=>
  constructor
  ·intro l s σ f h1 G q;simp only[dy,Bool.and_eq_true]at h1;obtain⟨⟨⟨⟨X,O⟩,q3⟩,q5⟩,V⟩:=h1;simp only[bH]at q;simp only[dW.depth]at G;obtain⟨f,rfl⟩:∃g,f=g+1:=⟨f-1,by omega⟩;cases w:ops[i]? with
   |none=>simp only[w]at q
   |some o=>
    simp only[w]at q;rw[kD]at q;have a0:gB o.op=true:=by simpa[w]using q3
    obtain⟨v,r1,r2⟩:=wU (ro:=true) (.inl ⟨rfl,a0⟩) q;have L:i∈Region.ready .any ops l:=by simpa using X
    simp only[wV,Bool.and_eq_true,List.all_eq_true,List.mem_range,Bool.or_eq_true,Bool.not_eq_true',beq_iff_eq]at q5;obtain⟨⟨⟨⟨m1,m2⟩,m3⟩,m4⟩,m5⟩:=q5;refine oT w (hQ i o w) (fun j=>(Mp ops i 2 l).getD j false) m2 (fun j oj u F ax=> ?_) f l s σ (fun j u=> ?_) (fun _ j oj M a5 E=> ?_) (Region.free_spec w O) L r1 (ih.1 _ _ _ f V (by omega) r2)
    ·have T:j<ops.size:=(Array.getElem?_eq_some_iff.1 u).1;have:=m5 j T;simp only[u,Bool.and_eq_true,Bool.or_eq_true]at this;rcases this.1 with(h|h)|h
     ·exact absurd (by simpa using h) F
     ·exact h
     ·rw[Array.any_eq_true']at h;obtain⟨e,he,h⟩:=h;simp only[Bool.and_eq_true,Bool.not_eq_true']at h;rw[ax e he h.1]at h;cases h.2
    ·have T:j<ops.size:=by
      rcases Nat.lt_or_ge j ops.size with h|h
      ·exact h
      ·rw[Array.getD_eq_getD_getElem?,Array.getElem?_eq_none (by omega)]at u;cases u
     rcases m1 j T with h|h
     ·rw[u]at h;cases h
     ·exact h
    ·have T:j<ops.size:=(Array.getElem?_eq_some_iff.1 M).1;have:=m5 j T;simp only[M,Bool.and_eq_true,Bool.or_eq_true,Bool.not_eq_true']at this;rcases this.2 with(h|h)|h
     ·rw[a5]at h;cases h
     ·rw[E]at h;cases h
     ·exact h
  ·intro l s σ f h1;simp[dy]at h1
 |U i t ih=>
  constructor
  ·intro l s σ f h1 G q;simp only[dy,Bool.and_eq_true]at h1;obtain⟨⟨⟨X,O⟩,q3⟩,V⟩:=h1;simp only[bH]at q;simp only[dW.depth]at G;obtain⟨f,rfl⟩:∃g,f=g+1:=⟨f-1,by omega⟩;cases w:ops[i]? with
   |none=>simp only[w]at q
   |some o=>
    simp only[w]at q;obtain⟨v,r1,r2⟩:=zE (ro:=ro) (σ:=σ) q;have L:i∈Region.ready .any ops l:=by simpa using X
    have E:=(mem_ready.1 L).1;exact oT w (hQ i o w) (fun j=>decide (j≠i)) (by simp) (fun j _ _ F _ =>by simpa using F) f l s σ (fun j u=>by
     by_cases F:j=i
     ·subst F;rw[Array.getD_eq_getD_getElem?]at u E;cases hg:l[j]? <;>simp[hg]at u E;rw[u]at E;cases E
     ·simpa using F) (fun hr j oj M _ _ =>Ax (ai hr j oj M)) (Region.free_spec w O) L r1 (ih.1 _ _ _ f V (by omega) r2)
  ·intro l s σ f h1;simp[dy]at h1
 |A i t r H I=>
  constructor
  ·intro l s σ f h1 G q;simp only[dy,Bool.and_eq_true,Bool.not_true,Bool.false_or]at h1;obtain⟨⟨⟨X,O⟩,q3⟩,V⟩:=h1;have ak:=G;simp only[dW.depth]at G;obtain⟨f,rfl⟩:∃g,f=g+1:=⟨f-1,by omega⟩;have:=ab i t r l s σ f H.1 I.2 q3 V ak q;refine⟨fun h=>by rw[h]at O;simp at O,fun j u=>this j ?_⟩;have:=List.all_eq_true.1 X j u;simpa using this
  ·intro l s σ f h1 G q;simp only[dy,Bool.and_eq_true,Bool.not_false,Bool.true_or,true_and]at h1;exact ab i t r l s σ f H.1 I.2 h1.1 h1.2 G q
 |W i t r H I=>
  constructor
  ·intro l s σ f h1 G q;simp only[dy,Bool.and_eq_true,Bool.not_true,Bool.false_or]at h1;obtain⟨⟨⟨X,O⟩,q3⟩,V⟩:=h1;have ak:=G;simp only[dW.depth]at G;obtain⟨f,rfl⟩:∃g,f=g+1:=⟨f-1,by omega⟩;have:=Y i t r l s σ f H.1 I.2 q3 V ak q;refine⟨fun h=>by rw[h]at O;simp at O,fun j u=>this j ?_⟩;have:=List.all_eq_true.1 X j u;simpa using this
  ·intro l s σ f h1 G q;simp only[dy,Bool.and_eq_true,Bool.not_false,Bool.true_or,true_and]at h1;exact Y i t r l s σ f H.1 I.2 h1.1 h1.2 G q
theorem v8 {n:Nat}{ds:List Deferred}{G0:Gh}{ops:Array Oper}{Q:AQ} :∀(f:Nat) (j:Array Bool) (G:Gh) (s:Fr) (σ:AS) (a:Act) (w:World),rj P n ops Q f j s σ→G0.Le G→kO P G n ds s σ a w→
 wpAny P .any ops (LQ P n ds Q G0) f j a w:=by
 intro f;induction f with
 |zero=>intro j G s σ a w h hle l;exact⟨h.1,G,s,σ,hle,l,h.2⟩
 |succ f A=>
  intro j G s σ a w h hle l;refine⟨fun he=>⟨G,s,σ,hle,l,h.1 he⟩,fun i M=> ?_⟩;obtain⟨o,F,v⟩:=h.2 i M;rcases v with v|⟨H,D,L⟩;rotate_left
  ·have q:∀t,o.dst=some t→t<n:=by intro t ht;rw[ht]at H;exact H
   unfold wpOp;simp only[F];have hw:Region.wanted o (yielded ops a.tmps)=true:=by simp[Region.wanted,D]
   rw[if_pos hw];refine .inl ?_;have:=L G a.eval w l.inv (fun x=>Na o s x (l.ev x));unfold Oper.wp;generalize (execOp a.eval o).run P w=r at this⊢;cases r with
   |ok J w'=>
    cases J<;>simp only[Out]at this<;>first|exact this.elim|skip
    ·obtain⟨G',σ',E,g1,g2,g3,u⟩:=this;exact A _ G' _ _ _ _ u.2 (hle.trans g1) (l.put g1 g2 o.dst q g3)
    ·obtain⟨G',σ',E,g1,g2,g3,u⟩:=this;exact A _ G' _ _ _ _ u.2 (hle.trans g1) (l.put g1 g2 o.dst q g3)
   |halt x w'=>
    cases x<;>simp only[Out]at this<;>first|exact this.elim|skip
    obtain⟨G',σ',E,g1,g2,g3,u⟩:=this;exact⟨rfl,rfl,G',s,σ',E,hle.trans g1,⟨g2,l.size,l.ds,fun i=>(l.rep i).mono g1⟩,g3,u⟩
  rw[←kD]at v;have:=m8 o v hle l (next:=wpAny P .any ops (LQ P n ds Q G0) f (j.setIfInBounds i true)) (fun G' I σ' T w' h1 S O=>A _ G' I σ' T w' O h1 S);unfold wpOp;simp only[F];by_cases hw:Region.wanted o (yielded ops a.tmps)=true
  ·rw[if_pos hw]at this⊢;exact .inl this
  ·rw[if_neg hw]at this⊢;exact this
theorem aA.PJ {n:Nat}{ds:List Deferred}{id:Nat}{l:List Oper}{Q:AQ}{s:Fr}{σ:AS}(hm:P.follows .mixedOrders=true) (ro:Bool) (t:dW)
 (q:(!ro||l.all fun o=>gB o.op)=true) (D:dy l.toArray ro true (Array.replicate l.length false) t=true) (H:decide (t.depth≤l.length)=true)
 (I:∀o∈l,∀p s v σ,Q (.panic p) (s.put o.dst v) σ→Q (.panic p) s σ) (h:bH P n l.toArray ro Q t s σ):aA P n ds (.region id l.toArray true) Q s σ:=by
 intro G0 G a w h1 A;have E:kO P G n ds s σ a { w with drawn:=w.drawn+1 } :=⟨A.inv.drew,A.size,A.ds,A.rep⟩;refine wp_region_any hm ?_;have:=(zb (P:=P) (n:=n) (fun j o u=>I o (by rw[List.getElem?_toArray]at u;exact List.mem_of_getElem? u)) (fun F j o u=>by rw[F]at q;simp only[Bool.not_true,Bool.false_or,List.all_eq_true]at q;refine q o ?_;rw[List.getElem?_toArray]at u;exact List.mem_of_getElem? u) t).1 _ s σ l.length D (by simpa using H) h;have:=v8 (ds:=ds) l.length _ G s σ a _ this h1 E;simpa using this
theorem aA.draw {n:Nat}{ds:List Deferred}{id:Nat}{l:List Oper}{Q:AQ}{s:Fr}{σ:AS}(hm:P.follows .mixedOrders=true) (ro:Bool) (t:dW)
 (j:(!ro||l.all fun o=>gB o.op)=true) (q:dy l.toArray ro true (Array.replicate l.length false) t=true) (w:decide (t.depth≤l.length)=true)
 (A:∀p s u σ,Q (.panic p) s σ→Q (.panic p) u σ) (h:bH P n l.toArray ro Q t s σ):aA P n ds (.region id l.toArray true) Q s σ:=
 aA.PJ hm ro t j q w (fun _ _ p _ _ σ v=>A p _ _ σ v) h
end Go.AW
namespace Go.AW
@[simp] theorem k8 (s:Fr) (d i:Nat) (v:AV):(s.put (some d) v) i=if i=d then v else s i:=rfl
@[simp] theorem O5 (s:Fr) (v:AV):s.put none v=s:=rfl
@[simp] theorem SG (s:Fr) (t:Nat):ev s (.tmp t)=s t:=rfl
@[simp] theorem PF (s:Fr) (v:Value):ev s (.const v)=z6 v:=rfl
@[simp] theorem Q0 (s:Fr) (f:Nat):ev s (.func f)= .sc (.func (.func f) #[] #[]):=rfl
@[simp] theorem QE:z6 (.slice none 0 0)= .aC:=rfl
@[simp] theorem QG (k:IntKind) (n:Int):z6 (.int k n)= .sc (.int k n):=rfl
@[simp] theorem Pa (b:Bool):z6 (.bool b)= .sc (.bool b):=rfl
@[simp] theorem QC (b:ByteArray):z6 (.string b)= .sc (.string b):=rfl
@[simp] theorem QD:z6 (.pointer none)= .sc (.pointer none):=rfl
@[simp] theorem QF:z6 (.map none)= .sc (.map none):=rfl
@[simp] theorem RM:z6 .nilFunc= .sc .nilFunc:=rfl
@[simp] theorem RK:z6 .nilIface= .sc .nilIface:=rfl
@[simp] theorem PC (l:List AV) (i:Nat):p8 l i=l.getD i .any:=rfl
@[simp] theorem Ji (K:Fr→AS→Prop) (Q:AQ) (s:Fr) (σ:AS):fD K Q .normal s σ=K s σ:=rfl
@[simp] theorem Jj (K:Fr→AS→Prop) (Q:AQ) (i:Nat) (s:Fr) (σ:AS):fD K Q (.exit i) s σ=Q (.exit i) s σ:=rfl
@[simp] theorem Jg (K:Fr→AS→Prop) (Q:AQ) (s:Fr) (σ:AS):fD K Q .ret s σ=Q .ret s σ:=rfl
@[simp] theorem Jh (K:Fr→AS→Prop) (Q:AQ) (v:AV) (s:Fr) (σ:AS):fD K Q (.panic v) s σ=Q (.panic v) s σ:=rfl
@[simp] theorem Ck (i:Nat) (Q:AQ) (s:Fr) (σ:AS):kC i Q .normal s σ=Q .normal s σ:=rfl
@[simp] theorem pY (i j:Nat) (Q:AQ) (s:Fr) (σ:AS):kC i Q (.exit j) s σ=if j=i then Q .normal s σ else Q (.exit j) s σ:=rfl
@[simp] theorem Ci (i:Nat) (Q:AQ) (s:Fr) (σ:AS):kC i Q .ret s σ=Q .ret s σ:=rfl
@[simp] theorem Cj (i:Nat) (Q:AQ) (v:AV) (s:Fr) (σ:AS):kC i Q (.panic v) s σ=Q (.panic v) s σ:=rfl
def Ends (P:Program) (R:AV→AS→Prop) (σ:AS) (x:AV):Prop:= ∃j σ',AV.Wk P x j∧AS.le σ' σ∧R j σ'
@[simp] theorem Q5 (P:Program) (rs:List ResultVar) (R j:AV→AS→Prop) (s:Fr) (σ:AS):sT P rs R j .ret s σ=er rs P s σ fun vs=>Ends P R σ (dF vs):=rfl
@[simp] theorem Q7 (P:Program) (rs:List ResultVar) (R j:AV→AS→Prop) (s:Fr) (σ:AS):sT P rs R j .normal s σ=er rs P s σ fun vs=>Ends P R σ (dF vs):=rfl
@[simp] theorem Q6 (P:Program) (rs:List ResultVar) (R j:AV→AS→Prop) (v:AV) (s:Fr) (σ:AS):sT P rs R j (.panic v) s σ= ∃σ',AS.le σ' σ∧j v σ':=rfl
def gD:List (Nat×AV)→Fr
 |[],_ => .any
 |(j,v)::r,i=>if i=j then v else gD r i
@[simp] theorem QI (i:Nat):gD [] i= .any:=rfl
@[simp] theorem Ae (j:Nat) (v:AV) (r:List (Nat×AV)) (i:Nat):gD ((j,v)::r) i=if i=j then v else gD r i:=rfl
theorem aP.mk {P:Program}{s:Fr}{l:List (Nat×AV)}(h:∀p∈l,AV.Wk P (s p.1) p.2):aP P s (gD l):=by
 intro i;induction l with
 |nil=>exact fun _ _ _ => .any _
 |cons p r w=>
  obtain⟨j,v⟩:=p;simp only[Ae];split
  ·rename_i u;subst u;exact h (i,v) (by simp)
  ·exact w fun q A=>h q (by simp[A])
theorem Wk.refl {P:Program}(v:AV):AV.Wk P v v:=fun _ _ h=>h
@[simp] theorem Rl {P:Program}(v:AV):AV.Wk P v v↔True:=⟨fun _ =>trivial,fun _ =>Wk.refl v⟩
@[simp] theorem NR {P:Program}(v:AV):AV.Wk P v .any↔True:=⟨fun _ =>trivial,fun _ _ _ _ => .any _⟩
@[simp] theorem CY {P:Program}(e:TypeId) (es:List AV) (o:cA) (nil:Bool):AV.Wk P (.ah e es o nil) (.ah e es .aJ nil)↔True:=⟨fun _ =>trivial,fun _ G x h=>by
 cases h with
 |jw l=>exact .jw trivial
 |mZ=>exact .mZ
 |ah vs hl hm j q l=>exact .ah vs hl hm j q trivial⟩
@[simp] theorem Rm {P:Program}(e:TypeId):AV.Wk P .aC (.ah e [] .aJ true)↔True:=⟨fun _ =>trivial,fun _ G x h=>by cases h;exact .jw trivial⟩
@[simp] theorem dt {P:Program}{a b u q:AV}(h1:AV.Wk P a u) (v:AV.Wk P b q):AV.Wk P (.cp [a,b]) (.cp [u,q]):=by
 intro G x h;cases h with
 |cp vs l h=>
  refine .cp vs l fun i j=> ?_;have:=h i j
  match i,j with
  |0,_ =>exact h1 _ _ this
  |1,_ =>exact v _ _ this
@[simp] theorem ui {P:Program}{a b c v u q:AV}(h1:AV.Wk P a v) (A:AV.Wk P b u) (w:AV.Wk P c q):AV.Wk P (.cp [a,b,c]) (.cp [v,u,q]):=by
 intro G x h;cases h with
 |cp vs l h=>
  refine .cp vs l fun i j=> ?_;have:=h i j
  match i,j with
  |0,_ =>exact h1 _ _ this
  |1,_ =>exact A _ _ this
  |2,_ =>exact w _ _ this
def aq (v:AV) (σ:AS) (r:AV) (σ':AS):Prop:=r=v∧σ=σ'
def No (_ :AV) (_ :AS):Prop:=False
def gy (f:Nat→AV) (n:Nat) (σ:AS) (r:AV) (σ':AS):Prop:= ∃j,σ j=none∧r=f j∧σ'=σ.set j (.tok n)
@[simp] theorem Oc {P:Program}{x v:AV}{σ σ0:AS} :Ends P (aq v σ0) σ x↔AV.Wk P x v∧AS.le σ0 σ:=
 ⟨fun⟨u,σ',h1,j,q,l⟩=>by subst q;subst l;exact⟨h1,j⟩,fun⟨h1,j⟩=>⟨v,σ0,h1,j,rfl,rfl⟩⟩
theorem aW {P:Program}{x:AV}{f:Nat→AV}{n:Nat}{σ σ0:AS}(j:Nat) (h0:σ0 j=none) (h1:AV.Wk P x (f j)) (l:AS.le (σ0.set j (.tok n)) σ):Ends P (gy f n σ0) σ x:=
 ⟨f j,_,h1,l,j,h0,rfl,rfl⟩
@[simp] theorem Ph (σ:AS):AS.le σ σ↔True:=⟨fun _ =>trivial,fun _ =>AS.le_refl σ⟩
@[simp] theorem iM {σ0 σ:AS}{i:Nat}{b:cL}(j:σ0 i=none) (h:AS.le σ0 σ):AS.le σ0 (σ.set i b):=AS.ao h j
theorem yz {σ0 σ:AS}{i:Nat}{b:cL}(h:AS.le σ0 σ):AS.le (σ0.set i b) (σ.set i b):=by
 intro j x e;by_cases l:j=i
 ·subst l;simp[AS.set]at e⊢;exact e
 ·simp[AS.set,l]at e⊢;exact h j x e
@[simp] theorem AS.Qp (σ:AS) (i j:Nat) (b:cL):(σ.set i b) j=if j=i then some b else σ j:=rfl
@[simp] theorem Kw {α:Type}{c:Prop}[Decidable c] {a:α}{x:Option α} :((if c then some a else x)=none)↔(¬c∧x=none):=by by_cases h:c<;>simp[h]
theorem AS.set_comm {τ:AS}{i j:Nat}{a b:cL}(h:j≠i):(τ.set j b).set i a=(τ.set i a).set j b:=by funext k;by_cases h1:k=i<;>by_cases l:k=j<;>simp[AS.set,h1,l]<;>omega
@[simp] theorem AS.s2 {τ:AS}{i j:Nat}{a b c:cL}(h:j≠i):((τ.set i a).set j b).set i c=(τ.set i c).set j b:=by rw[AS.set_comm h,AS.set_set]
@[simp] theorem AS.s3 {τ:AS}{i j k:Nat}{a b c d:cL}(h:j≠i) (l:k≠i):(((τ.set i a).set j b).set k d).set i c=((τ.set i c).set j b).set k d:=by rw[AS.set_comm l,AS.s2 h]
@[simp] theorem AS.s4 {τ:AS}{i j k l:Nat}{a b c d e:cL}(h:j≠i) (u:k≠i) (q:l≠i):((((τ.set i a).set j b).set k d).set l e).set i c=(((τ.set i c).set j b).set k d).set l e:=by rw[AS.set_comm q,AS.s3 h u]
theorem aw {σ0 σ:AS}{i:Nat}{b:cL}(q:σ i=none) (h:AS.le σ0 σ):AS.le σ0 (σ.set i b):=by
 intro j x e;have:=h j x e;have l:j≠i:=by intro u;subst u;rw[q]at this;cases this
 simpa[AS.set,l]using this
@[simp] theorem QA (v:AV):dF [v]=v:=rfl
@[simp] theorem Qz (a b:AV):dF [a,b]= .cp [a,b]:=rfl
@[simp] theorem Qy (a b c:AV):dF [a,b,c]= .cp [a,b,c]:=rfl
@[simp] theorem QB:dF []= .cp []:=rfl
@[simp] theorem N3 {P:Program}{s:Fr}{σ:AS}{K:List AV→Prop} :er [] P s σ K=K []:=rfl
@[simp] theorem N2 {P:Program}{s:Fr}{σ:AS}{K:List AV→Prop}{t:Nat}{r:List ResultVar} :er (.tmp t::r) P s σ K=er r P s σ fun vs=>K (s t::vs):=rfl
@[simp] theorem MH {P:Program}{s:Fr}{σ:AS}{K:List AV→Prop}{a t:Nat}{r:List ResultVar} :er (.cell a t::r) P s σ K=ew P σ t (s a) fun v=>er r P s σ fun vs=>K (v::vs):=rfl
theorem aA.fG {P:Program}{n:Nat}{ds:List Deferred}{c:Code}{Q:AQ}{s:Fr}{σ:AS}(i:Nat) (e:TypeId) (es:List AV) (nil:Bool) (J:i<n) (u:s i= .ah e es .full nil∨(s i= .aC∧es= []∧nil=true))
 (h:∀A,σ A=none→aA P n ds c Q (s.put (some i) (.ah e es (.tok A) nil)) (σ.set A (.tok es.length))):aA P n ds c Q s σ:=by
 intro G0 G a w h1 l;have I:aU P G (.ah e es .full nil) (a.tmps.getD i undef):=by
  have:=l.rep i;rcases u with u|⟨u,rfl,rfl⟩
  ·rw[u]at this;exact this
  ·rw[u]at this;generalize a.tmps.getD i undef=v at this⊢;cases this;exact .jw ⟨none,rfl⟩
 obtain⟨r,D,H,F⟩:=I.fG l.inv;have q:kO P (G.fG r) n ds (s.put (some i) (.ah e es (.tok G.top) nil)) (σ.set G.top (.tok es.length)) a w:=by
  refine⟨H,l.size,l.ds,fun j=> ?_⟩;by_cases E:j=i
  ·subst E;simpa[k8]using F
  ·simp only[k8,E,if_false];exact(l.rep j).mono D
 exact h G.top l.inv.fresh G0 _ a w (h1.trans D) q
variable {P:Program} {n:Nat} {ds:List Deferred} {g:Option (Nat×Bool)}
@[congr] theorem Oo {c:Code}{Q:AQ}{s j:Fr}{σ σ':AS}(h1:s=j) (l:σ=σ'):aA P n ds c Q s σ=aA P n ds c Q j σ':=by subst h1 l;rfl
@[congr] theorem K0 {ops:Array Oper}{Q:AQ}{l:List Oper}{s j:Fr}{σ σ':AS}(h1:s=j) (q:σ=σ'):jq P n ops Q l s σ=jq P n ops Q l j σ':=by subst h1 q;rfl
@[congr] theorem JG {ops:Array Oper}{ro:Bool}{Q:AQ}{t:dW}{s j:Fr}{σ σ':AS}(h1:s=j) (l:σ=σ'):bH P n ops ro Q t s σ=bH P n ops ro Q t j σ':=by subst h1 l;rfl
@[congr] theorem Lg {t:TypeId}{ps j:List (Nat×AV)}{K:AV→Prop}(h1:ps=j):oS P t ps K=oS P t j K:=by subst h1;rfl
@[congr] theorem Lf {σ σ':AS}{t:TypeId}{x j:AV}{K:AV→AS→Prop}(h1:x=j) (l:σ=σ'):lU P σ t x K=lU P σ' t j K:=by subst h1 l;rfl
@[congr] theorem NQ {op:BinOp}{t:TypeId}{x l y j:AV}{K:AV→Prop}(h1:x=l) (q:y=j):eX P op t x y K=eX P op t l j K:=by subst h1 q;rfl
@[congr] theorem Ld {t:TypeId}{x u:AV}{lo l v q mx j:Option AV}{K:AV→Prop}(h1:x=u) (D:lo=l) (A:v=q) (w:mx=j):fQ P t x lo v mx K=fQ P t u l q j K:=by subst h1 D A w;rfl
@[congr] theorem IY {σ σ':AS}{b:Builtin}{ts j:List TypeId}{as l:List AV}{K:AV→AS→Prop}(h1:as=l) (u:σ=σ') (q:ts=j):bA P σ b ts as K=bA P σ' b j l K:=by subst h1 u q;rfl
@[congr] theorem Hi {f l:AV}{as j:List AV}{K:AV→Prop}(h1:as=j) (q:f=l):aM P f as K=aM P l j K:=by subst h1 q;rfl
@[congr] theorem Mi {σ σ':AS}{f l:AV}{as j:List AV}{K q:AV→AS→Prop}(h1:as=j) (v:σ=σ') (u:f=l):aj P f as σ K q=aj P l j σ' K q:=by subst h1 v u;rfl
def JU (K:Fr→AS→Prop) (s:Fr) (d:Option Nat) (v:AV) (σ:AS):Prop:=K (s.put d v) σ
def J0 (Q:AQ) (s:Fr) (v:AV) (σ:AS):Prop:=Q (.panic v) s σ
def CH (K:AV→AS→Prop) (σ:AS) (v:AV):Prop:=K v σ
def P7 (K:AV→AS→Prop) (σ:AS):Prop:=K .any σ
def P8 (K:AV→Prop) (cs:List AV):Prop:=K (.agg cs)
def Qr (K:AV→Prop) (v:Value):Prop:=K (.sc v)
@[simp ↓] theorem RE (K:Fr→AS→Prop) (s:Fr) (d:Option Nat) (v:AV) (σ:AS):JU K s d v σ=K (s.put d v) σ:=rfl
@[simp ↓] theorem RG (Q:AQ) (s:Fr) (v:AV) (σ:AS):J0 Q s v σ=Q (.panic v) s σ:=rfl
@[simp ↓] theorem T9 (K:AV→AS→Prop) (σ:AS) (v:AV):CH K σ v=K v σ:=rfl
@[simp ↓] theorem S5 (K:AV→AS→Prop) (σ:AS):P7 K σ=K .any σ:=rfl
@[simp ↓] theorem S8 (K:AV→Prop) (cs:List AV):P8 K cs=K (.agg cs):=rfl
@[simp ↓] theorem TF (K:AV→Prop) (v:Value):Qr K v=K (.sc v):=rfl
section steps
variable {ops:Array Oper} {Q:AQ} {s:Fr} {σ:AS} {K:Fr→AS→Prop} {Kv Pn:AV→AS→Prop} {KA:AV→Prop} {rest:List Oper} {o:Oper}
 {d:Option Nat} {op:Op} {ty:TypeId} {pos:String} {af:Array Edge}
def bT (P:Program) (n:Nat) (o:Oper) (s:Fr) (σ:AS) (K:Fr→AS→Prop) (Q:AQ) (g:AV) (want:Bool):Prop:=
 iL g want (jG P n o s σ K Q) ((match o.dst with|none=>True|some d=>d<n)∧K (s.put o.dst iH) σ)
def qB (x:Option Oper) (A:Oper→Prop):Prop:=match x with|some o=>A o|none=>False
@[congr] theorem M1 {x j:Option Oper}{A:Oper→Prop}(h:x=j):qB x A=qB j A:=by rw[h]
@[simp ↓] theorem N5 {A:Oper→Prop} :qB (some o) A=A o:=rfl
@[simp] theorem M0 {A:Oper→Prop} :qB (some o) A=A o:=rfl
@[simp ↓] theorem OS {ro:Bool} :bH P n ops ro Q .D s σ=Q .normal s σ:=rfl
@[simp ↓] theorem OQ {ro:Bool} :bH P n ops ro Q .Z s σ=True:=rfl
@[simp ↓] theorem OM {ro:Bool}{i:Nat}{t:dW} :bH P n ops ro Q (.S i t) s σ=qB ops[i]? (fun o=>(ro=true∨jH s o.op=true)∧eP P n ops o s σ (bH P n ops ro Q t) Q):=by cases h:ops[i]? <;>simp only[bH,qB,h]
@[simp ↓] theorem OO {ro:Bool}{i:Nat}{t:dW} :bH P n ops ro Q (.R i t) s σ=qB ops[i]? (fun o=>eP P n ops o s σ (bH P n ops ro Q t) Q):=by cases h:ops[i]? <;>simp only[bH,qB,h]
@[simp ↓] theorem Qq {ro:Bool}{i:Nat}{t r:dW} :bH P n ops ro Q (.A i t r) s σ=(qB ops[i]? (fun o=>eP P n ops o s σ (bH P n ops ro Q t) Q)∧bH P n ops ro Q r s σ):=by cases h:ops[i]? <;>simp only[bH,qB,h]
def pG (P:Program) (n:Nat) (o:Oper) (s:Fr) (σ:AS) (K:Fr→AS→Prop) (Q:AQ):Prop:=xI P n o s σ (fun v σ'=>K (s.put o.dst v) σ') (fun p σ'=>Q (.panic p) s σ')
@[congr] theorem Ly {K:Fr→AS→Prop}{o:Oper}{s j:Fr}{σ σ':AS}(h1:s=j) (l:σ=σ'):pG P n o s σ K Q=pG P n o j σ' K Q:=by subst h1 l;rfl
@[simp ↓] theorem ON {ro:Bool}{i:Nat}{t r:dW} :bH P n ops ro Q (.W i t r) s σ=(qB ops[i]? (fun o=>pG P n o s σ (bH P n ops ro Q t) Q)∧bH P n ops ro Q r s σ):=by cases h:ops[i]? <;>simp only[bH,qB,h]<;>rfl
@[simp ↓] theorem OP {ro:Bool}{i:Nat}{t:dW} :bH P n ops ro Q (.U i t) s σ=qB ops[i]? (fun o=>rH P n ops o s (HJ (bH P n ops ro Q t) s o.dst σ)):=by cases h:ops[i]? <;>simp only[bH,qB,h]
@[simp ↓] theorem NI:jq P n ops Q [] s σ=Q .normal s σ:=rfl
@[simp ↓] theorem Mg:jq P n ops Q (o::rest) s σ=eP P n ops o s σ (jq P n ops Q rest) Q:=rfl
@[simp ↓] theorem Ky:eP P n ops ⟨d,op,ty,pos,af,none⟩ s σ K Q=jG P n ⟨d,op,ty,pos,af,none⟩ s σ K Q:=rfl
@[simp ↓] theorem Kx {j:Nat}{want:Bool} :eP P n ops ⟨d,op,ty,pos,af,some (j,want)⟩ s σ K Q=bT P n ⟨d,op,ty,pos,af,some (j,want)⟩ s σ K Q (fy ops s j) want:=rfl
@[simp] theorem N6:bT P n o s σ K Q (.sc (.bool true)) true=jG P n o s σ K Q:=by simp[bT,iL,yH,Oe]
@[simp] theorem Ob:bT P n o s σ K Q (.sc (.bool false)) false=jG P n o s σ K Q:=by simp[bT,iL,yH,Oe]
@[simp] theorem N7:bT P n ⟨d,op,ty,pos,af,g⟩ s σ K Q (.sc (.bool true)) false=((match d with|none=>True|some d=>d<n)∧K (s.put d iH) σ):=propext ⟨fun h=>by rcases h with⟨h,_⟩|⟨_,h⟩;(· simp[yH]at h);exact h,fun h=> .inr ⟨rfl,h⟩⟩
@[simp] theorem Oa:bT P n ⟨d,op,ty,pos,af,g⟩ s σ K Q (.sc (.bool false)) true=((match d with|none=>True|some d=>d<n)∧K (s.put d iH) σ):=propext ⟨fun h=>by rcases h with⟨h,_⟩|⟨_,h⟩;(· simp[yH]at h);exact h,fun h=> .inr ⟨rfl,h⟩⟩
@[simp] theorem N9 {want:Bool} :bT P n ⟨d,op,ty,pos,af,g⟩ s σ K Q (.sc undef) want=((match d with|none=>True|some d=>d<n)∧K (s.put d iH) σ):=propext ⟨fun h=>by rcases h with⟨h,_⟩|⟨_,h⟩;(· simp[yH,undef]at h);exact h,fun h=> .inr ⟨rfl,h⟩⟩
@[simp ↓] theorem Lx {f:Operand}{args:Array Operand}{j:Array TypeId}{g:Option (Nat×Bool)} :jG P n ⟨d,.call ⟨.value f,args,j⟩,ty,pos,af,g⟩ s σ K Q=
 ((match d with|none=>True|some d=>d<n)∧aj P (ev s f) (args.toList.map (ev s)) σ (JU K s d) (J0 Q s)):=rfl
@[simp ↓] theorem Lv {t:Nat}{g:Option (Nat×Bool)} :jG P n ⟨some t,op,ty,pos,af,g⟩ s σ K Q=(t<n∧bX P op s σ (JU K s (some t)) (J0 Q s)):=rfl
@[simp ↓] theorem Lw {g:Option (Nat×Bool)} :jG P n ⟨none,op,ty,pos,af,g⟩ s σ K Q=(True∧bX P op s σ (JU K s none) (J0 Q s)):=rfl
@[simp ↓] theorem QH (K:Fr→AS→Prop) (s:Fr) (d:Option Nat) (σ:AS) (v:AV):HJ K s d σ v=K (s.put d v) σ:=rfl
def fS (P:Program) (j:AV) (args:List AV) (K:AV→Prop) (g:AV) (want:Bool):Prop:=iL g want (aM P j args K) (K iH)
@[simp ↓] theorem LL {f:Operand}{args:Array Operand}{j:Array TypeId}{K:AV→Prop} :rH P n ops ⟨d,.call ⟨.value f,args,j⟩,ty,pos,af,none⟩ s K=
 ((match d with|none=>True|some d=>d<n)∧aM P (ev s f) (args.toList.map (ev s)) K):=rfl
@[simp ↓] theorem LJ {f:Operand}{args:Array Operand}{l:Array TypeId}{K:AV→Prop}{j:Nat}{want:Bool} :rH P n ops ⟨d,.call ⟨.value f,args,l⟩,ty,pos,af,some (j,want)⟩ s K=
 ((match d with|none=>True|some d=>d<n)∧fS P (ev s f) (args.toList.map (ev s)) K (fy ops s j) want):=rfl
variable {x y c a b f:Operand}
@[simp ↓] theorem Qu:bX P (.move x) s σ Kv Pn=Kv (ev s x) σ:=rfl
@[simp ↓] theorem N1:bX P (.assign x) s σ Kv Pn=Kv (ev s x) σ:=rfl
def LP (c a b:AV) (K:AV→AS→Prop) (σ:AS):Prop:=match c with|.sc (.bool t)=>K (if t then a else b) σ| _ =>False
@[simp ↓] theorem Qs:bX P (.pick c a b) s σ Kv Pn=LP (ev s c) (ev s a) (ev s b) Kv σ:=rfl
@[simp] theorem Qx {t:Bool}{a b:AV} :LP (.sc (.bool t)) a b Kv σ=Kv (if t then a else b) σ:=rfl
@[simp ↓] theorem O2 {e:TypeId} :bX P (.alloc e) s σ Kv Pn=qg P σ e Kv:=rfl
@[simp ↓] theorem Ru {e:TypeId} :bX P (.box e x) s σ Kv Pn=Lh P σ e (ev s x) Kv:=rfl
@[simp ↓] theorem O1 {t:TypeId}{ps:Array (Nat×Operand)} :bX P (.build t ps) s σ Kv Pn=oS P t (ps.toList.map fun p=>(p.1,ev s p.2)) (CH Kv σ):=rfl
@[simp ↓] theorem I7 {t m:Nat}{ps:Array (Nat×Operand)} :bX P (.buildSlice t m ps) s σ Kv Pn=ey P σ t m (ps.toList.map fun p=>(p.1,ev s p.2)) Kv:=rfl
@[simp ↓] theorem Qv {t:TypeId} :bX P (.load t a) s σ Kv Pn=ew P σ t (ev s a) (CH Kv σ):=rfl
@[simp ↓] theorem OX {t:TypeId} :bX P (.store t a x) s σ Kv Pn=oR P σ t (ev s a) (ev s x) (P7 Kv):=rfl
@[simp ↓] theorem LF:bX P (.nilCheck x) s σ Kv Pn=gw (ev s x) (CH Kv σ):=rfl
@[simp ↓] theorem Rv {op:BinOp}{t u:TypeId} :bX P (.binOp op t x y u) s σ Kv Pn=eX P op t (ev s x) (ev s y) (CH Kv σ):=rfl
@[simp ↓] theorem TG {op:UnOp}{t:TypeId} :bX P (.unOp op t x) s σ Kv Pn=Lc op (ev s x) (CH Kv σ):=rfl
@[simp ↓] theorem Qw {t u:TypeId} :bX P (.convert t u x) s σ Kv Pn=cU P t u (ev s x) (CH Kv σ):=rfl
@[simp ↓] theorem TI {t:TypeId} :bX P (.makeInterface t x) s σ Kv Pn=(P.concrete t=true∧Kv (.lq t (ev s x)) σ):=rfl
@[simp ↓] theorem TJ {f:Fn}{j l:Array Operand} :bX P (.makeFunc f j l) s σ Kv Pn=Kv (.fn f (j.toList.map (ev s)) (l.toList.map (ev s))) σ:=rfl
def Pe (K:AV→AS→Prop) (σ:AS):Prop:= ∀id,σ id=none→K (.mp id) (σ.set id (.map []))
@[simp ↓] theorem TH {t:TypeId}{r:Option Operand} :bX P (.makeMap t r) s σ Kv Pn=(r.isNone=true∧Pe Kv σ):=rfl
@[simp ↓] theorem OZ {t:TypeId} :bX P (.range t x) s σ Kv Pn=lU P σ t (ev s x) Kv:=rfl
@[simp ↓] theorem Qt {b:Bool} :bX P (.next x b) s σ Kv Pn=ri σ (ev s x) b Kv:=rfl
@[simp ↓] theorem O0:bX P (.entry x) s σ Kv Pn=so σ (ev s x) (CH Kv σ):=rfl
@[simp ↓] theorem JM {t:TypeId} :bX P (.makeSlice t x y) s σ Kv Pn=iz P σ t (ev s x) (ev s y) Kv:=rfl
@[simp ↓] theorem OY {t:TypeId}{lo j mx:Option Operand} :bX P (.slice t x lo j mx) s σ Kv Pn=fQ P t (ev s x) (lo.map (ev s)) (j.map (ev s)) (mx.map (ev s)) (CH Kv σ):=rfl
@[simp ↓] theorem TM {t i:Nat} :bX P (.fieldAddr t x i) s σ Kv Pn=dR P t (ev s x) i (CH Kv σ):=rfl
@[simp ↓] theorem Ut {t i:Nat} :bX P (.field t x i) s σ Kv Pn=kM P t (ev s x) i (CH Kv σ):=rfl
@[simp ↓] theorem TK {t:TypeId} :bX P (.indexAddr t x y) s σ Kv Pn=cM P t (ev s x) (ev s y) (CH Kv σ):=rfl
@[simp ↓] theorem Us {t:TypeId} :bX P (.index t x y) s σ Kv Pn=jP P t (ev s x) (ev s y) (CH Kv σ):=rfl
@[simp ↓] theorem TN {i:Nat} :bX P (.extract x i) s σ Kv Pn=jB (ev s x) i (CH Kv σ):=rfl
@[simp ↓] theorem TO {b:Builtin}{args:Array Operand}{j:Array TypeId} :bX P (.call ⟨.builtin b,args,j⟩) s σ Kv Pn=bA P σ b j.toList (args.toList.map (ev s)) Kv:=rfl
@[simp] theorem S4 {t:TypeId}{x:AV} :bA P σ .len [t] [x] Kv=iE P σ t x (CH Kv σ):=rfl
@[simp] theorem On {t u:TypeId}{x y:AV} :bA P σ .append [t,u] [x,y] Kv=lE P σ t u x y Kv:=rfl
@[simp] theorem Ri {t u:TypeId}{x y:AV} :bA P σ .copy [t,u] [x,y] Kv=fK P σ t x y Kv:=rfl
@[simp] theorem S2 {ts:List TypeId}{k k':IntKind}{a b:Int} :bA P σ .min ts [.sc (.int k a),.sc (.int k' b)] Kv=Kv (.sc (.int k (if b<a then b else a))) σ:=rfl
@[simp] theorem S3 {ts:List TypeId}{k k':IntKind}{a b:Int} :bA P σ .max ts [.sc (.int k a),.sc (.int k' b)] Kv=Kv (.sc (.int k (if a<b then b else a))) σ:=rfl
end steps
section values
variable {K:AV→Prop} {op:BinOp} {t:TypeId} {σ:AS}
@[simp] theorem Re {k k':IntKind}{a b:Int} :eX P op t (.sc (.int k a)) (.sc (.int k' b)) K=if gm op then s7 op k a b (Qr K)else k=k'∧eL op k a b (Qr K):=rfl
@[simp] theorem Ra {a b:ByteArray} :eX P op t (.sc (.string a)) (.sc (.string b)) K=pD op a b (Qr K):=rfl
@[simp] theorem Rf {xs j:List AV} :eX P op t (.agg xs) (.agg j) K=(match gP P 8 t (.agg xs) (.agg j),op with
 |some r,.eql=>P.eqGuardType P.depth t=false∧K (.sc (.bool r))
 |some r,.neq=>P.eqGuardType P.depth t=false∧K (.sc (.bool (!r)))
 | _,_ =>False):=rfl
@[simp] theorem P4 {a b:Bool} :eX P op t (.sc (.bool a)) (.sc (.bool b)) K=(match P.underlying t,op with
 |some .bool,.eql=>K (.sc (.bool (a==b)))
 |some .bool,.neq=>K (.sc (.bool (!(a==b))))
 | _,_ =>False):=rfl
@[simp] theorem S1 {e:TypeId}{es:List AV}{o:cA}{nl:Bool} :eX P op t (.ah e es o nl) .aC K=cZ P op t (.ah e es o nl) .aC K:=rfl
@[simp] theorem SZ:eX P op t .aC .aC K=cZ P op t .aC .aC K:=rfl
@[simp] theorem SY {i a b c:Nat} :eX P op t (.dg i a b c) .aC K=cZ P op t (.dg i a b c) .aC K:=rfl
@[simp] theorem SX {i a:Nat} :eX P op t (.ptr i a) (.sc (.pointer none)) K=cZ P op t (.ptr i a) (.sc (.pointer none)) K:=rfl
@[simp] theorem SW {cs:List AV} :eX P op t (.g0 cs) (.sc (.pointer none)) K=cZ P op t (.g0 cs) (.sc (.pointer none)) K:=rfl
@[simp] theorem SV:eX P op t (.sc (.pointer none)) (.sc (.pointer none)) K=cZ P op t (.sc (.pointer none)) (.sc (.pointer none)) K:=rfl
@[simp] theorem SU {u:TypeId}{v:AV} :eX P op t (.lq u v) (.sc .nilIface) K=cZ P op t (.lq u v) (.sc .nilIface) K:=rfl
@[simp] theorem SS {f:Fn}{a b:List AV} :eX P op t (.fn f a b) (.sc .nilFunc) K=cZ P op t (.fn f a b) (.sc .nilFunc) K:=rfl
@[simp] theorem SQ {f:Fn}{a b:Array Value} :eX P op t (.sc (.func f a b)) (.sc .nilFunc) K=cZ P op t (.sc (.func f a b)) (.sc .nilFunc) K:=rfl
@[simp] theorem Rd:eX P op t (.sc .nilFunc) (.sc .nilFunc) K=cZ P op t (.sc .nilFunc) (.sc .nilFunc) K:=rfl
@[simp] theorem Rc {i:Nat} :eX P op t (.mp i) (.sc (.map none)) K=cZ P op t (.mp i) (.sc (.map none)) K:=rfl
@[simp] theorem Rb:eX P op t (.sc (.map none)) (.sc (.map none)) K=cZ P op t (.sc (.map none)) (.sc (.map none)) K:=rfl
@[simp] theorem N4 {b:ByteArray}{K:AV→AS→Prop} :lU P σ t (.sc (.string b)) K=(P.underlying t=some .string∧ ∀id,σ id=none→K (.ptr id 0) (σ.set id (.gA b 0))):=rfl
@[simp] theorem Q4 {ps:List (Nat×AV)} :oS P t ps K=(cE P t=true∧(az P t).laid=true∧jO P t (az P t).cells ps (P8 K)):=rfl
def KZ:Option AV→Prop
 |none=>True
 |some (.sc (.int _ n))=>0≤n
 | _ =>False
def lS:Option AV→Nat→Nat
 |some (.sc (.int _ n)),_ =>n.toNat
 | _,d=>d
theorem sq {x:Option AV}{d:Nat}{K:Nat→Prop} :iX x d K=(KZ x∧K (lS x d)):=by unfold iX KZ lS;split<;>simp_all
@[simp] theorem NY {e:TypeId}{es:List AV}{o:cA}{nl:Bool}{lo j:Option AV} :fQ P t (.ah e es o nl) lo j none K=
 (bC P t=some e∧P.cellsOf e≠0∧KZ j∧lS j es.length≤es.length∧KZ lo∧lS lo 0≤lS j es.length∧K (.ah e ((es.take (lS j es.length)).drop (lS lo 0)) .aJ nl)):=by
 simp only[fQ,sq]
@[simp] theorem NW {s:ByteArray}{lo j:Option AV} :fQ P t (.sc (.string s)) lo j none K=
 (P.underlying t=some .string∧KZ j∧lS j s.size≤s.size∧KZ lo∧lS lo 0≤lS j s.size∧K (.sc (.string (s.extract (lS lo 0) (lS j s.size))))):=by
 simp only[fQ,sq]
@[simp] theorem NX {id off len cap:Nat}{lo j:Option AV} :fQ P t (.dg id off len cap) lo j none K=
 (match bC P t with
  |some e=>P.cellsOf e≠0∧KZ j∧lS j len≤cap∧KZ lo∧lS lo 0≤lS j len∧lS lo 0<cap∧K (.dg id (off+lS lo 0*P.cellsOf e) (lS j len-lS lo 0) (cap-lS lo 0))
  |none=>False):=by
 simp only[fQ,sq];cases bC P t<;>rfl
end values
def xl (P:Program) (I:Nat→Fr→AS→Prop) (k:Nat) (l:Fr) (σ':AS):Prop:= ∃k' s1 j,k'<k∧aP P l s1∧AS.le j σ'∧I k' s1 j
theorem aA.cz {c:Code}{Q:AQ}{s:Fr}{σ:AS}(I:Nat→Fr→AS→Prop) {k0:Nat}{l:Fr}{σ0:AS}(h0:I k0 l σ0) (q:aP P s l) (j:AS.le σ0 σ)
 (u:∀k s σ,I k s σ→aA P n ds c (fD (xl P I k) Q) s σ):aA P n ds (.loop c) Q s σ:=aA.loop I h0 q j u
@[simp] theorem bq {cs:List AV} :(AV.agg cs).cells=cs:=rfl
@[simp] theorem PN {v:Value} :(AV.sc v).cells= [.sc v]:=rfl
@[simp] theorem Oj {i o:Nat} :(AV.ptr i o).cells= [.ptr i o]:=rfl
@[simp] theorem NC {cs:List AV} :(AV.g0 cs).cells= [.g0 cs]:=rfl
@[simp] theorem NB:AV.aC.cells= [.aC]:=rfl
@[simp] theorem Ol {e:TypeId}{es:List AV}{o:cA}{nl:Bool} :(AV.ah e es o nl).cells= [.ah e es o nl]:=rfl
@[simp] theorem Ok {a b c d:Nat} :(AV.dg a b c d).cells= [.dg a b c d]:=rfl
@[simp] theorem PO {i:Nat} :(AV.mp i).cells= [.mp i]:=rfl
@[simp] theorem PQ {f:Fn}{a b:List AV} :(AV.fn f a b).cells= [.fn f a b]:=rfl
@[simp] theorem Om {t:TypeId}{v:AV} :(AV.lq t v).cells= [.lq t v]:=rfl
@[simp] theorem uu (b:UInt8):u8 b= .sc (.int .u8 b.toNat):=rfl
@[simp] theorem cast_eq (a b:Nat):((a:Int)=(b:Int))=(a=b):=by simp only[eq_iff_iff];omega
attribute [simp] so ri xh iz jH qK fy pD gm Lc jB gw cU dR kM cM jP KZ lS ew oR qg Lh jO ey fR iE lE fF cy cZ isNil oz AV.laid AV.Dv AV.one lG Ji Jj Jg Jh Ck pY Ci Cj
@[simp] theorem Tt {k:IntKind}{a b:Int}{K:Value→Prop} :s7 .shr k a b K=(0≤b∧K (.int k (a/2^(min b.toNat k.bits)))):=by simp[s7,Int.fdiv_eq_ediv_of_nonneg _ (Int.le_of_lt (Int.pow_pos (show(0:Int)<2 by decide)))]
@[simp] theorem Tu {k:IntKind}{a b:Int}{K:Value→Prop} :s7 .shl k a b K=(0≤b∧K (.int k (k.wrap (a*2^(min b.toNat k.bits))))):=rfl
def oN (w:Nat) (a b:Int):Int:=((BitVec.ofInt w a&&& BitVec.ofInt w b).toNat:Int)
def D5 (w:Nat) (a b:Int):Int:=((BitVec.ofInt w a|||BitVec.ofInt w b).toNat:Int)
section
variable {k:IntKind} {a b:Int} {K:Value→Prop}
@[simp] theorem Sw:eL .add k a b K=K (.int k (k.wrap (a+b))):=rfl
@[simp] theorem Si:eL .sub k a b K=K (.int k (k.wrap (a-b))):=rfl
@[simp] theorem Sm:eL .mul k a b K=K (.int k (k.wrap (a*b))):=rfl
@[simp] theorem Su:eL .and k a b K=K (.int k (k.wrap (oN k.bits a b))):=rfl
@[simp] theorem TU:eL .or k a b K=K (.int k (k.wrap (D5 k.bits a b))):=rfl
@[simp] theorem Sk:eL .quo k a b K=(b≠0∧K (.int k (k.wrap (a.tdiv b)))):=rfl
@[simp] theorem Sj:eL .rem k a b K=(b≠0∧K (.int k (a.tmod b))):=rfl
@[simp] theorem Ss:eL .eql k a b K=K (.bool (decide (a=b))):=by simp[eL]
@[simp] theorem Sl:eL .neq k a b K=K (.bool (!decide (a=b))):=by simp[eL]
@[simp] theorem So:eL .lss k a b K=K (.bool (decide (a<b))):=by simp[eL]
@[simp] theorem Sp:eL .leq k a b K=K (.bool (decide (a≤b))):=by simp[eL]
@[simp] theorem Sq:eL .gtr k a b K=K (.bool (decide (b<a))):=by simp[eL]
@[simp] theorem Sr:eL .geq k a b K=K (.bool (decide (b≤a))):=by simp[eL]
end
theorem aj.of {f:FuncId}{args:List AV}{σ:AS}{R j K l:AV→AS→Prop}(h:ad P f args σ R j) (u:∀r σ',R r σ'→K r σ') (q:∀r σ',j r σ'→l r σ'):aj P (.sc (.func (.func f) #[] #[])) args σ K l:=⟨rfl,rfl,R,j,h,u,q⟩
theorem aj.aL {f:FuncId}{args:List AV}{σ j:AS}{v:AV}{K u:AV→AS→Prop}(h:ad P f args σ (aq v j) No) (l:K v j):aj P (.sc (.func (.func f) #[] #[])) args σ K u:=
 .of h (fun r σ' ⟨h1,q⟩=>by subst h1;subst q;exact l) (fun _ _ h=>h.elim)
theorem aj.py {f:FuncId}{args:List AV}{σ:AS}{v:Nat→AV}{m:Nat}{K w:AV→AS→Prop}(h:ad P f args σ (gy v m σ) No) (l:∀j,σ j=none→K (v j) (σ.set j (.tok m))):aj P (.sc (.func (.func f) #[] #[])) args σ K w:=
 .of h (fun r σ' ⟨j,h1,u,q⟩=>by subst u;subst q;exact l j h1) (fun _ _ h=>h.elim)
theorem aM.aL {f:FuncId}{args:List AV}{v:AV}{K:AV→Prop}(h:∀σ',ad P f args σ' (aq v σ') No) (l:K v):aM P (.sc (.func (.func f) #[] #[])) args K:=
 ⟨v,fun σ' _ _ j=> .aL (h σ') j,l⟩
theorem ad.wk {f:FuncId}{as:List AV}(j:List AV) {σ:AS}{R u:AV→AS→Prop}(h:ad P f j σ R u) (hl:as.length=j.length) (hw:∀i,i<j.length→AV.Wk P (as.getD i .any) (j.getD i .any)):ad P f as σ R u:=
 ⟨h.body,fun G w vals v q=>h.run G w vals v ⟨q.1.trans hl,fun i l=>hw i l _ _ (q.2 i (by omega))⟩⟩
def cr (Q:AQ):Prop:= ∀p s j σ,Q (.panic p) s σ→Q (.panic p) j σ
theorem cr.then {K:Fr→AS→Prop}{Q:AQ}(h:cr Q):cr (fD K Q):=h
theorem cr.block {i:Nat}{Q:AQ}(h:cr Q):cr (kC i Q):=h
theorem cr.body {P:Program}{rs:List ResultVar}{R j:AV→AS→Prop} :cr (sT P rs R j):=fun _ _ _ _ h=>h
theorem aA.nD {id:Nat}{l:List Oper}{Q:AQ}{s:Fr}{σ:AS}(hm:P.follows .mixedOrders=true) (t:dW)
 (j:dy l.toArray false true (Array.replicate l.length false) t=true) (q:decide (t.depth≤l.length)=true)
 (u:cr Q) (h:bH P n l.toArray false Q t s σ):aA P n ds (.region id l.toArray true) Q s σ:=
 aA.draw hm false t (by simp) j q u h
end Go.AW
namespace Go.AW
@[simp] theorem P0:IntKind.i64.bits=64:=rfl
@[simp] theorem PX:IntKind.u64.bits=64:=rfl
@[simp] theorem P1:IntKind.i32.bits=32:=rfl
@[simp] theorem PY:IntKind.u32.bits=32:=rfl
@[simp] theorem P2:IntKind.i16.bits=16:=rfl
@[simp] theorem PZ:IntKind.u16.bits=16:=rfl
@[simp] theorem Q9:IntKind.i8.bits=8:=rfl
@[simp] theorem Q8:IntKind.u8.bits=8:=rfl
theorem Gk (n:Int):IntKind.u64.wrap n=n%18446744073709551616:=by simp[IntKind.wrap,IntKind.bits,IntKind.signed]
theorem Lq (n:Int):IntKind.u32.wrap n=n%4294967296:=by simp[IntKind.wrap,IntKind.bits,IntKind.signed]
theorem nO (n:Int):IntKind.u8.wrap n=n%256:=by simp[IntKind.wrap,IntKind.bits,IntKind.signed]
theorem C7 (n:Int):IntKind.i64.wrap n=(n+9223372036854775808)%18446744073709551616-9223372036854775808:=by simp[IntKind.wrap,IntKind.bits,IntKind.signed];split<;>omega
@[simp] theorem OA:IntKind.i64.wrap 0=0:=by decide
@[simp] theorem Oz:IntKind.i64.wrap 1=1:=by decide
@[simp] theorem Oy:IntKind.i64.wrap 2=2:=by decide
@[simp] theorem Ox:IntKind.i64.wrap 3=3:=by decide
@[simp] theorem Ow:IntKind.i64.wrap 4=4:=by decide
@[simp] theorem Ov:IntKind.i64.wrap 8=8:=by decide
@[simp] theorem Qn:IntKind.u8.wrap 0=0:=by decide
@[simp] theorem Qm:IntKind.u8.wrap 1=1:=by decide
@[simp] theorem Ql:IntKind.u8.wrap 2=2:=by decide
@[simp] theorem Qk:IntKind.u8.wrap 4=4:=by decide
@[simp] theorem Qj:IntKind.u8.wrap 8=8:=by decide
@[simp] theorem Ou:IntKind.u64.wrap 0=0:=by decide
@[simp] theorem Ot:IntKind.u64.wrap 2=2:=by decide
@[simp] theorem Oq:IntKind.u64.wrap 3=3:=by decide
theorem aI {n:Int}(h1: -9223372036854775808≤n) (j:n<9223372036854775808):IntKind.i64.wrap n=n:=by rw[C7];omega
theorem gM {n:Int}(h1:0≤n) (j:n<18446744073709551616):IntKind.u64.wrap n=n:=by rw[Gk];omega
theorem L5 {n:Int}(h1:0≤n) (j:n<256):IntKind.u8.wrap n=n:=by rw[nO];omega
theorem pV {w:Nat}{a b:Int}(i:Nat) (j:0≤b) (E:b<2^i) {c:Int}(D:0≤c) (ha:a=2^i*c) (hw:a+b<2^w):D5 w a b=a+b:=by
 unfold D5;obtain⟨v,rfl⟩:=Int.eq_ofNat_of_zero_le j;obtain⟨u,rfl⟩:=Int.eq_ofNat_of_zero_le D;have q:a=((2^i*u:Nat):Int):=by rw[ha];push_cast;rfl
 have l:v<2^i:=by exact_mod_cast E
 have A:2^i*u+v<2^w:=by rw[q]at hw;exact_mod_cast hw
 rw[q,BitVec.ofInt_natCast,BitVec.ofInt_natCast,BitVec.toNat_or,BitVec.toNat_ofNat,BitVec.toNat_ofNat,Nat.mod_eq_of_lt (by omega),Nat.mod_eq_of_lt (by omega),←Nat.two_pow_add_eq_or_of_lt l]
 push_cast
 rfl
theorem A9 {w:Nat}{a:Int}(i:Nat) (ha:0≤a) (hw:a<2^w) (q:i≤w):oN w a (2^i-1)=a%2^i:=by
 unfold oN;obtain⟨v,rfl⟩:=Int.eq_ofNat_of_zero_le ha;have l:0<2^i:=Nat.two_pow_pos i;have hle:2^i≤2^w:=Nat.pow_le_pow_right (by omega) q;have u:(2:Int)^i-1=((2^i-1:Nat):Int):=by rw[Int.natCast_sub l];push_cast;rfl
 have j:v<2^w:=by exact_mod_cast hw
 rw[u,BitVec.ofInt_natCast,BitVec.ofInt_natCast,BitVec.toNat_and,BitVec.toNat_ofNat,BitVec.toNat_ofNat,Nat.mod_eq_of_lt j,Nat.mod_eq_of_lt (by omega),Nat.and_two_pow_sub_one_eq_mod]
 push_cast
 rfl
theorem re (w:Nat) (a b:Int):D5 w a b=D5 w b a:=by simp[D5,BitVec.or_comm]
end Go.AW
namespace Go.AW
variable {P:Program} {n:Nat} {ds:List Deferred} {Q:AQ} {s:Fr} {σ:AS}
theorem aj.id {j:AV}{args:List AV}{K l:AV→AS→Prop}(h:aj P j args σ K l):aj P j args σ K l:=h
theorem aM.id {j:AV}{args:List AV}{K:AV→Prop}(h:aM P j args K):aM P j args K:=h
def dd (v:AV) (A B:Prop):Prop:=match v with|.sc (.bool true)=>A|.sc (.bool false)=>B| _ =>False
@[simp ↓] theorem Q2 {A B:Prop} :dd (.sc (.bool true)) A B=A:=rfl
@[simp ↓] theorem Q3 {A B:Prop} :dd (.sc (.bool false)) A B=B:=rfl
@[congr] theorem Mb {v j:AV}{A B:Prop}(h:v=j):dd v A B=dd j A B:=by rw[h]
theorem aA.fork {c:Operand}{x y:Code}(h:dd (ev s c) (aA P n ds x Q s σ) (aA P n ds y Q s σ)):aA P n ds (.cond c x y) Q s σ:=by
 unfold dd at h;split at h
 ·rename_i j;exact aA.cond j (fun _ =>h) (fun e=>by cases e)
 ·rename_i j;exact aA.cond j (fun e=>by cases e) (fun _ =>h)
 ·exact h.elim
theorem dd.split {b:Bool}{A B:Prop}(h1:b=true→A) (j:b=false→B):dd (.sc (.bool b)) A B:=by
 cases b
 ·exact j rfl
 ·exact h1 rfl
theorem bT.split {o:Oper}{K:Fr→AS→Prop}{b want:Bool}(h1:b=want→jG P n o s σ K Q) (j:b= !want→(match o.dst with|none=>True|some d=>d<n)∧K (s.put o.dst iH) σ):
 bT P n o s σ K Q (.sc (.bool b)) want:=by
 unfold bT iL yH Oe;by_cases h:b=want
 ·exact .inl ⟨by simp[h],h1 h⟩
 ·exact .inr ⟨by simp[h],j (by cases b<;>cases want<;>simp_all)⟩
theorem fS.split {f:AV}{as:List AV}{K:AV→Prop}{b want:Bool}(h1:b=want→aM P f as K) (j:b= !want→K iH):
 fS P f as K (.sc (.bool b)) want:=by
 unfold fS iL yH Oe;by_cases h:b=want
 ·exact .inl ⟨by simp[h],h1 h⟩
 ·exact .inr ⟨by simp[h],j (by cases b<;>cases want<;>simp_all)⟩
theorem Bv {a b:Bool}(h:a=b):AV.Wk P (.sc (.bool a)) (.sc (.bool b)):=h ▸ Wk.refl _
theorem Rq {k:IntKind}{a b:Int}(h:a=b):AV.Wk P (.sc (.int k a)) (.sc (.int k b)):=h ▸ Wk.refl _
theorem du {a b:AV}(h:a=b):AV.Wk P a b:=h ▸ Wk.refl _
theorem dP {σ0 σ:AS}{j n m:Nat}(h:AS.le σ0 σ) (e:n=m):AS.le (σ0.set j (.tok n)) (σ.set j (.tok m)):=by subst e;exact yz h
theorem ad.told {f:FuncId}{as:List AV}{σ j:AS}{v l:AV}(h:ad P f as σ (aq v j) No) (hw:AV.Wk P v l):ad P f as σ (aq l j) No:=
 ⟨h.body,fun G w vals u q=>(h.run G w vals u q).mono fun e w' he=>by
  unfold jC at he⊢;split at he
  ·obtain⟨G',σ',r,g1,g2,g3,rfl,rfl⟩:=he;exact⟨G',_,l,g1,g2,hw _ _ g3,rfl,rfl⟩
  ·exact he
  ·exact he⟩
@[simp] theorem U5 (l:List UInt8):(⟨l.toArray⟩:ByteArray).size=l.length:=by simp[ByteArray.size]
theorem dK {α:Type}(l:List α) {i:Nat}(h:i<l.length):∃r,l[i]? =some r∧l.drop i=r::l.drop (i+1)∧r∈l∧l.take (i+1)=l.take i++ [r]:=
 ⟨l[i],List.getElem?_eq_getElem h,List.drop_eq_getElem_cons h,List.getElem_mem h,List.take_succ_eq_append_getElem h⟩
def bg (n:Int):AV:= .sc (.int .i64 n)
theorem aG (n:Int):bg n= .sc (.int .i64 n):=rfl
theorem dv {i:Nat}(h:i<4000000000000000000):IntKind.i64.wrap ((i:Int)+1)=((i+1:Nat):Int):=by rw[aI (by omega) (by omega)];simp
end Go.AW
namespace Go.AW
variable {P:Program} {n:Nat} {ds:List Deferred} {Q:AQ} {s:Fr} {σ:AS}
def iD (P:Program) (n:Nat) (ds:List Deferred) (Q:AQ) (o:Oper) (s:Fr) (σ:AS) (K:Fr→AS→Prop):Prop:=
 ∀(G0 G:Gh) (a:Act) (w:World),G0.Le G→kO P G n ds s σ a w→ ∀next:Act→World→Prop,
  (∀G' j σ' l w',G0.Le G'→kO P G' n ds j σ' l w'→K j σ'→next l w')→o.wp P a w next (LQ P n ds Q G0)
theorem iD.step {o:Oper}{K:Fr→AS→Prop}(h:jG P n o s σ K Q):iD P n ds Q o s σ K:=
 fun _ _ _ _ hle j _ hn=>rB o h hle j hn
theorem iD.lM {o:Oper}{K:Fr→AS→Prop}(A:match o.dst with|none=>True|some d=>d<n)
 (h:∀(G:Gh) (a:Act) (w:World),kO P G n ds s σ a w→Out P G (fun v σ'=>K (s.put o.dst v) σ') (fun v σ'=>Q (.panic v) s σ') ((execOp a.eval o).run P w)):iD P n ds Q o s σ K:=by
 intro G0 G a w hle j next hn
 have l:∀t,o.dst=some t→t<n:=by intro t ht;rw[ht]at A;exact A
 have:=h G a w j;unfold Oper.wp;generalize (execOp a.eval o).run P w=r at this⊢;cases r with
 |ok D w'=>
  cases D<;>simp only[Out]at this<;>first|exact this.elim|skip
  ·obtain⟨G',σ',u,g1,g2,g3,q⟩:=this;exact hn G' _ _ _ _ (hle.trans g1) (j.put g1 g2 o.dst l g3) q
  ·obtain⟨G',σ',u,g1,g2,g3,q⟩:=this;exact hn G' _ _ _ _ (hle.trans g1) (j.put g1 g2 o.dst l g3) q
 |halt x w'=>
  cases x<;>simp only[Out]at this<;>first|exact this.elim|skip
  obtain⟨G',σ',u,g1,g2,g3,q⟩:=this;exact⟨rfl,rfl,G',s,σ',u,hle.trans g1,⟨g2,j.size,j.ds,fun i=>(j.rep i).mono g1⟩,g3,q⟩
def bQ (P:Program) (n:Nat) (ds:List Deferred) (ops:Array Oper) (Q:AQ):List Oper→Fr→AS→Prop
 |[],s,σ=>Q .normal s σ
 |o::r,s,σ=>(o.guard=none∧iD P n ds Q o s σ (bQ P n ds ops Q r))∨eP P n ops o s σ (bQ P n ds ops Q r) Q
theorem bQ.sp {ops:Array Oper}{o:Oper}{r:List Oper}(j:o.guard=none) (h:iD P n ds Q o s σ (bQ P n ds ops Q r)):bQ P n ds ops Q (o::r) s σ:= .inl ⟨j,h⟩
theorem bQ.pre {ops:Array Oper} :∀(l r:List Oper) (s:Fr) (σ:AS),jq P n ops (fD (bQ P n ds ops Q r) Q) l s σ→bQ P n ds ops Q (l++r) s σ:=by
 intro l;induction l with
 |nil=>intro r s σ h;exact h
 |cons o l q=>intro r s σ h;refine .inr ?_;have j:eP P n ops o s σ (jq P n ops (fD (bQ P n ds ops Q r) Q) l) (fD (bQ P n ds ops Q r) Q):=h;rw[kD]at j⊢;exact qN (fun v σ' u=>q r _ _ u) (fun _ _ h=>h) j
theorem bQ.rest {ops:Array Oper}{r:List Oper}(h:jq P n ops Q r s σ):bQ P n ds ops Q r s σ:=by
 have e:fD (bQ P n ds ops Q []) Q=Q:=by funext e s σ;cases e<;>rfl
 have:=bQ.pre (ds:=ds) (Q:=Q) (ops:=ops) r [] s σ (by rw[e];exact h);simpa using this
theorem bQ.first {ops:Array Oper}{l:List Oper}(k:Nat) (h:jq P n ops (fD (bQ P n ds ops Q (l.drop k)) Q) (l.take k) s σ):bQ P n ds ops Q l s σ:=by have:=bQ.pre (ds:=ds) (Q:=Q) (ops:=ops) (l.take k) (l.drop k) s σ h;rwa [List.take_append_drop]at this
theorem JE {ops:Array Oper}{G0:Gh} :∀(l:List Oper) (G:Gh) (s:Fr) (σ:AS) (a:Act) (w:World),bQ P n ds ops Q l s σ→G0.Le G→kO P G n ds s σ a w→
 wpList P ops (LQ P n ds Q G0) l a w:=by
 intro l;induction l with
 |nil=>intro G s σ a w h hle j;exact⟨G,s,σ,hle,j,h⟩
 |cons o rest D=>
  intro G s σ a w h hle j;unfold wpList;rcases h with⟨E,h⟩|h
  ·have hw:Region.wanted o (yielded ops a.tmps)=true:=by simp[Region.wanted,E]
   rw[if_pos hw];exact .inl (h G0 G a w hle j _ (fun G' q σ' A w' h1 v u=>D G' q σ' A w' u h1 v))
  ·have:=m8 o h hle j (next:=wpList P ops (LQ P n ds Q G0) rest) (fun G' q σ' A w' h1 v u=>D G' q σ' A w' u h1 v);by_cases hw:Region.wanted o (yielded ops a.tmps)=true
   ·rw[if_pos hw]at this⊢;exact .inl this
   ·rw[if_neg hw]at this⊢;exact this
theorem aA.dB {id:Nat}{l:List Oper}(h:bQ P n ds l.toArray Q l s σ):aA P n ds (.region id l.toArray false) Q s σ:=
 fun G0 G a w h1 j=>wp_region_lit (JE l G s σ a w h h1 j)
@[congr] theorem MD {ops:Array Oper}{l:List Oper}{s j:Fr}{σ σ':AS}(h1:s=j) (q:σ=σ'):bQ P n ds ops Q l s σ=bQ P n ds ops Q l j σ':=by subst h1 q;rfl
def aR (l:List AV):List AV:=l.flatMap (·.cells)
@[simp] theorem Oh:aR []= []:=rfl
@[simp] theorem fZ (v:AV) (r:List AV):aR (v::r)=v.cells++aR r:=rfl
theorem jl {m:Nat} :∀(l:List AV),(∀v∈l,v.cells.length=m)→(aR l).length=l.length*m∧ ∀i j,i<l.length→j<m→(aR l).getD (i*m+j) .any=(l.getD i .any).cells.getD j .any:=by
 intro l;induction l with
 |nil=>intro _;exact⟨by simp,fun i j q=>by simp at q⟩
 |cons v r u=>
  intro h;obtain⟨h1,D⟩:=u fun v w=>h v (by simp[w]);have h0:=h v (by simp);refine⟨by simp[h1,h0,Nat.add_mul];omega,fun i j q A=> ?_⟩;cases i with
  |zero=>simp only[fZ];rw[aQ _ _ _ (by omega)];simp
  |succ i=>
   simp only[fZ];have:(i+1)*m+j=v.cells.length+(i*m+j):=by rw[h0,Nat.add_mul];omega
   rw[this,bk _ _ _ (by omega)];have e:v.cells.length+(i*m+j)-v.cells.length=i*m+j:=by omega
   rw[e,D i j (by simpa using q) A];simp
def bF (P:Program) (σ:AS) (t:TypeId) (len:Nat) (parts:List (Nat×AV)) (K:AV→AS→Prop):Prop:=
 match bC P t with
 |some e=>parts.length=len∧P.cellsOf e≠0∧len*P.cellsOf e≤2^24∧(az P e).laid=true∧(az P e).cells.length=P.cellsOf e∧fR (P.cellsOf e) 0 parts=true∧
  ∀id,σ id=none→K (.dg id 0 len len) (σ.set id (.cells e (aR (parts.map (·.2)))))
 |none=>False
theorem CT {m:Nat} :∀(l:List (Nat×AV)) (k:Nat),fR m k l=true→ ∀v∈l.map (·.2),v.cells.length=m:=by
 intro l;induction l with
 |nil=>intro k _ v j;simp at j
 |cons p r w=>
  intro k u v j;obtain⟨q,x⟩:=p;simp only[fR,Bool.and_eq_true,beq_iff_eq]at u;simp only[List.map_cons,List.mem_cons]at j;rcases j with rfl|j
  ·exact u.1.2
  ·exact w (k+1) u.2 v j
theorem js {G:Gh}{w:World}{K Pn:AV→AS→Prop}(E:Inv P G σ w) {t:TypeId}{len:Nat}{parts:Array (Nat×Operand)}{s:Fr}{ρ:Operand→Value}(I:∀x,aU P G (ev s x) (ρ x))
 (h:bF P σ t len (parts.toList.map fun p=>(p.1,ev s p.2)) K):
 Out P G K Pn (((do pure (Next.value (←Instr.buildSlice t len (parts.map fun(i,x)=>(i,ρ x))))):Sem Next).run P w):=by
 unfold bF at h;split at h
 ·rename_i e he;obtain⟨h1,h2,h3,h4,h5,V,h7⟩:=h;have hu:=dA he;obtain⟨it,z,q,Y,X⟩:=cR h4;have L:it.size=P.cellsOf e:=by simp[Program.cellsOf,q]
  have J:(parts.map fun(i,x)=>(i,ρ x)).toList=parts.toList.map fun p=>(p.1,ρ p.2):=by simp
  have hlen:parts.toList.length=len:=by simpa using h1
  let zero:Array Value:=if len*P.cellsOf e=0 then #[]else z.cells
  let init:Array Value:=(Array.range (len*P.cellsOf e)).map (zero[· %zero.size]!)
  obtain⟨H,g1,g2,_,g4⟩:=vt (P:=P) (G:=G) (e:=e) (parts.toList.map fun p=>(p.1,ev s p.2)) (parts.toList.map fun p=>(p.1,ρ p.2)) 0 (P.cellsOf e) init (by simp) (fun i E=>by simp at E;simp[List.getD_eq_getElem?_getD,E];exact I _) V (by simp at hlen;simp[init,hlen]) (fun c hc=>by omega);have l:H.size=len*P.cellsOf e:=by rw[g2];simp[init]
  have v:(Instr.buildSlice t len (parts.map fun(i,x)=>(i,ρ x))).run P w= .ok (.slice (some ⟨w.heap.size,0,none⟩) len len) (w.alloc (.cells H e)):=by
   have u:¬(len*P.cellsOf e>2^24):=by omega
   have j:Instr.fill (fun i=>some (i*P.cellsOf e,P.cellsOf e)) ((Array.range (len*P.cellsOf e)).map (zero[· %zero.size]!)) (parts.map fun(i,x)=>(i,ρ x)).toList=some H:=by rw[J];exact g1
   simp only[Instr.buildSlice,Sem.run_bind,run_underlying hu,Result.andThen,sizeOf,run_typeInfo w q,Sem.run_pure,L,u,if_false];by_cases h0:len*P.cellsOf e=0
   ·simp only[zero,h0,if_true]at j;simp[h0,newRow];simp at j;simp[j,Result.andThen]
   ·simp only[zero,h0,if_false]at j;simp only[h0,if_false,Sem.run_bind,zeroValue,run_typeInfo w q,Y,Result.andThen,Sem.run_pure];rw[j];simp[newRow,Result.andThen]
  have D:∀k,k<len*P.cellsOf e→k/P.cellsOf e<len∧k%P.cellsOf e<P.cellsOf e∧(k/P.cellsOf e)*P.cellsOf e+k%P.cellsOf e=k:=fun k F=>
   ⟨Nat.div_lt_of_lt_mul (by rw[Nat.mul_comm];exact F),Nat.mod_lt _ (by omega),by rw[Nat.mul_comm];exact Nat.div_add_mod k _⟩
  obtain⟨f1,f2⟩:=jl (m:=P.cellsOf e) ((parts.toList.map fun p=>(p.1,ev s p.2)).map (·.2)) (CT _ 0 V);have M:((parts.toList.map fun p=>(p.1,ev s p.2)).map (·.2)).length=len:=by simpa using h1
  rw[M]at f1 f2;obtain⟨G',hle,A,hinv⟩:=E.jr e H (aR ((parts.toList.map fun p=>(p.1,ev s p.2)).map (·.2))) (by rw[l,f1]) (fun k F=>by
   rw[f1]at F;obtain⟨k1,T,S⟩:=D k F;have U:=f2 _ _ k1 T;rw[S]at U;rw[U];have:=g4 (k/P.cellsOf e) (k%P.cellsOf e) (by simp at hlen⊢;omega) T;rw[Nat.zero_add,S]at this;refine⟨?_,this.2⟩;have Z:=this.1;have O:k/P.cellsOf e<(parts.toList.map fun p=>(p.1,ev s p.2)).length:=by simp at hlen⊢;omega
   have e9:((parts.toList.map fun p=>(p.1,ev s p.2)).map (·.2)).getD (k/P.cellsOf e) AV.any=((parts.toList.map fun p=>(p.1,ev s p.2)).getD (k/P.cellsOf e) (0,AV.any)).2:=by simp only[List.getD_eq_getElem?_getD,List.getElem?_map,List.getElem?_eq_getElem O,Option.map_some,Option.getD_some]
   rw[e9];exact Z)
  exact Out.value v hle hinv (.dg A) (h7 _ E.fresh)
 ·exact h.elim
theorem iD.kI {d t m:Nat}{ps:Array (Nat×Operand)}{ty:TypeId}{pos:String}{af:Array Edge}{g:Option (Nat×Bool)}{K:Fr→AS→Prop}(l:d<n)
 (h:bF P σ t m (ps.toList.map fun p=>(p.1,ev s p.2)) (fun v σ'=>K (s.put (some d) v) σ')):iD P n ds Q ⟨some d,.buildSlice t m ps,ty,pos,af,g⟩ s σ K:=
 iD.lM l fun G a w j=>js j.inv j.ev h
theorem aA.freeze {c:Code}(i id:Nat) {e:TypeId}{m:Nat}(es:List AV) {cs:List AV}(hs:s i= .dg id 0 m m) (h0:σ id=none) (hm:es.length=m) (hl:∀v∈es,v.cells.length=P.cellsOf e) (S:cs=aR es)
 (h:aA P n ds c Q (s.put (some i) (.ah e es .full false)) σ):aA P n ds c Q s (σ.set id (.cells e cs)):=by
 subst S hm;intro G0 G a w h1 L;have l:=L.inv;have A:=L.rep i;rw[hs]at A;obtain⟨b,vs,k1,k2,k3,k4⟩:=l.cells id e (aR es) (by simp[AS.set]);generalize hv:a.tmps.getD i undef=v at A;cases A with
 |dg hb=>
  rename_i T;rw[k1]at hb;obtain rfl:=Option.some.inj hb;obtain⟨f1,f2⟩:=jl (m:=P.cellsOf e) es hl;have D:∀o,G.mem b o=none:=(l.dj id b k1).2.2 e (aR es) (by simp[AS.set]);have hle:G.Le (G.jk b 0 (aR es).length (fun k=>vs.getD k undef)):=by
   refine⟨rfl,rfl,fun T o v em=> ?_,fun _ _ e=>e,fun t r e=>⟨r,e,rfl,.inl rfl⟩⟩;rw[Gh.eT]
   ·exact em
   ·rintro⟨rfl,_⟩;rw[D o]at em;cases em
  have old:∀j x,σ j=some x→j≠id∧(σ.set id (.cells e (aR es))) j=some x:=by
   intro j x u;have:j≠id:=by intro e';subst e';rw[h0]at u;cases u
   exact⟨this,by simp[AS.set,this,u]⟩
  refine h G0 _ a w (h1.trans hle) ⟨?_,L.size,L.ds,fun j=> ?_⟩
  ·refine⟨l.below,l.base,?_,l.top,?_,l.eZ,?_,?_,?_,?_,?_⟩
   ·intro T o v em;by_cases S:T=b∧0≤o∧o<0+(aR es).length
    ·obtain⟨rfl,h3,h4⟩:=S;rw[Gh.ka h3 h4]at em;obtain rfl:=Option.some.inj em;have ho:o<vs.size:=by omega
     refine⟨?_,(k4 o (by omega)).2⟩;simp[World.cell?,k2,ho]
    ·rw[Gh.eT S]at em;exact l.mem T o v em
   ·intro j c u;have:=l.dj j c u;refine⟨this.1,this.2.1,fun ty cs' hn o=> ?_⟩;obtain⟨Z,I⟩:=old j _ hn;have ak:c≠b:=fun e'=>Z (l.eZ j id b (e' ▸ u) k1);rw[Gh.eT (fun hh=>ak hh.1)];exact this.2.2 ty cs' I o
   ·intro j ty cs' u;obtain⟨c,U,H,F,E,M⟩:=l.cells j ty cs' (old j _ u).2;exact⟨c,U,H,F,E,fun k J=>⟨(M k J).1.mono hle,(M k J).2⟩⟩
   ·intro j al u;obtain⟨c,ms,cl,H,F,E,M⟩:=l.maps j al (old j _ u).2;refine⟨c,ms,cl,H,F,E,fun k J=> ?_⟩;obtain⟨q,Y,X,V⟩:=M k J;exact⟨q,Y,X.mono hle,V.mono hle⟩
   ·intro j s' p u;exact l.dQ j s' p (old j _ u).2
   ·intro j m u;exact l.tok j m (old j _ u).2
   ·intro t r et;obtain⟨H,F,E⟩:=l.own t r et;refine⟨H,F,fun c o ea k ac ab=> ?_⟩;obtain⟨Y,X,V,q4,q5,q6,q7⟩:=E c o ea k ac ab;refine⟨Y,X,?_,q4,q5,q6,q7⟩;rw[Gh.eT (fun hh=>q4 id (by rw[k1,hh.1]))];exact V
  ·by_cases O:j=i
   ·subst O;rw[k8,if_pos rfl,hv];have hlen:(aR es).length=es.length*P.cellsOf e:=f1;refine aU.ah (fun k=>vs.getD k undef) (fun i l=>hl _ ?_) (fun k J=> ?_) (fun i j l O=> ?_) (Nat.le_refl _) ⟨_,rfl⟩
    ·rw[List.getD_eq_getElem?_getD,List.getElem?_eq_getElem l];exact List.getElem_mem l
    ·rw[Gh.ka (by omega) (by omega)];simp
    ·have:=(k4 (i*P.cellsOf e+j) (by
      rw[hlen]
      calc i*P.cellsOf e+j<i*P.cellsOf e+P.cellsOf e:=by omega
       _ =(i+1)*P.cellsOf e:=by rw[Nat.add_mul];omega
       _ ≤es.length*P.cellsOf e:=Nat.mul_le_mul_right _ l)).1
     rw[f2 i j l O]at this;exact this.mono hle
   ·rw[k8,if_neg O];exact(L.rep j).mono hle
theorem Inv.G8 {G:Gh}{w:World}(q:Inv P G σ w) {id b:Nat}{ty:TypeId}{cs cs':List AV}{vs:Array Value}(A:σ id=some (.cells ty cs)) (E:G.inj id=some b) (hw:w.heap[b]? =some (.cells vs ty (0,0)))
 (hl:cs'.length=cs.length) (H:∀k,k<cs'.length→aU P G (cs'.getD k .any) (vs.getD k undef)):Inv P G (σ.set id (.cells ty cs')) w:=by
 have other:∀j,j≠id→(σ.set id (.cells ty cs')) j=σ j:=fun j l=>by simp[AS.set,l]
 refine { below:=q.below,base:=q.base,mem:=q.mem,top:=q.top,dj:=fun i b e=>⟨(q.dj i b e).1,(q.dj i b e).2.1,fun u v hn=>by
  by_cases l:i=id
  ·subst l;exact(q.dj i b e).2.2 ty cs A
  ·exact(q.dj i b e).2.2 u v (by rw[←other i l];exact hn)⟩,eZ:=q.eZ,own:=q.own,cells:= ?_,maps:= ?_,dQ:= ?_,tok:= ?_ }
 ·intro j u v e;by_cases l:j=id
  ·subst l;simp only[AS.set,if_true]at e;cases e;obtain⟨J,F,g1,g2,g3,I⟩:=q.cells j ty cs A;rw[E]at g1;cases g1;rw[hw]at g2;cases g2;exact⟨b,vs,E,hw,by omega,fun k D=>⟨H k D,(I k (by omega)).2⟩⟩
  ·exact q.cells j u v (by rw[←other j l];exact e)
 ·intro j es e;by_cases l:j=id
  ·subst l;simp[AS.set]at e
  ·exact q.maps j es (by rw[←other j l];exact e)
 ·intro j es p e;by_cases l:j=id
  ·subst l;simp[AS.set]at e;subst e;cases p
  ·exact q.dQ j es p (by rw[←other j l];exact e)
 ·intro j m e;by_cases l:j=id
  ·subst l;simp[AS.set]at e
  ·exact q.tok j m (by rw[←other j l];exact e)
theorem aA.sI {c:Code}(id k:Nat) {ty:TypeId}{cs:List AV}(e:TypeId) (es:List AV) (nil:Bool) (l:σ id=some (.cells ty cs)) (L:k<cs.length)
 (u:cs.getD k .any= .ah e es .full nil∨(cs.getD k .any= .aC∧es= []∧nil=true))
 (h:∀J,σ J=none→aA P n ds c Q s ((σ.set id (.cells ty (cs.set k (.ah e es (.tok J) nil)))).set J (.tok es.length))):aA P n ds c Q s σ:=by
 intro G0 G a w h1 I;have H:=I.inv;obtain⟨b,vs,g1,g2,g3,O⟩:=H.cells id ty cs l;have U:aU P G (.ah e es .full nil) (vs.getD k undef):=by
  have:=(O k L).1;rcases u with u|⟨u,rfl,rfl⟩
  ·rw[u]at this;exact this
  ·rw[u]at this;generalize vs.getD k undef=v at this⊢;cases this;exact .jw ⟨none,rfl⟩
 obtain⟨r,F,T,S⟩:=U.fG H;have D:id≠G.top:=by intro V;subst V;rw[H.fresh]at l;cases l
 have q:(σ.set G.top (.tok es.length)) id=some (.cells ty cs):=by simp[AS.set,D,l]
 have A:=T.G8 (cs':=cs.set k (.ah e es (.tok G.top) nil)) q (F.inj _ _ g1) g2 (by simp) (fun j M=>by
  simp at M;by_cases E:j=k
  ·subst E;rw[List.getD_eq_getElem?_getD,List.getElem?_set_self L];exact S
  ·rw[List.getD_eq_getElem?_getD,List.getElem?_set_ne (fun e=>E e.symm),←List.getD_eq_getElem?_getD];exact((O j M).1).mono F)
 rw[AS.set_comm (fun e=>D e.symm)]at A;exact h G.top H.fresh G0 _ a w (h1.trans F) ⟨A,I.size,I.ds,fun j=>(I.rep j).mono F⟩
theorem Inv.freeze {G:Gh}{w:World}{id:Nat}{e:TypeId}{m:Nat}{es:List AV}(l:Inv P G (σ.set id (.cells e (aR es))) w) (h0:σ id=none) (hm:es.length=m) (hl:∀v∈es,v.cells.length=P.cellsOf e):
 ∃G',G.Le G'∧Inv P G' σ w∧ ∀y,aU P G (.dg id 0 m m) y→aU P G' (.ah e es .full false) y:=by
 subst hm;obtain⟨b,vs,k1,k2,k3,k4⟩:=l.cells id e (aR es) (by simp[AS.set]);obtain⟨f1,f2⟩:=jl (m:=P.cellsOf e) es hl;have A:∀o,G.mem b o=none:=(l.dj id b k1).2.2 e (aR es) (by simp[AS.set]);have hle:G.Le (G.jk b 0 (aR es).length (fun k=>vs.getD k undef)):=by
  refine⟨rfl,rfl,fun b' o v em=> ?_,fun _ _ e=>e,fun t r e=>⟨r,e,rfl,.inl rfl⟩⟩;rw[Gh.eT]
  ·exact em
  ·rintro⟨rfl,_⟩;rw[A o]at em;cases em
 have old:∀j x,σ j=some x→j≠id∧(σ.set id (.cells e (aR es))) j=some x:=by
  intro j x u;have:j≠id:=by intro e';subst e';rw[h0]at u;cases u
  exact⟨this,by simp[AS.set,this,u]⟩
 refine⟨_,hle,⟨l.below,l.base,?_,l.top,?_,l.eZ,?_,?_,?_,?_,?_⟩,?_⟩
 ·intro b' o v em;by_cases hc:b'=b∧0≤o∧o<0+(aR es).length
  ·obtain⟨rfl,h3,h4⟩:=hc;rw[Gh.ka h3 h4]at em;obtain rfl:=Option.some.inj em;have ho:o<vs.size:=by omega
   refine⟨?_,(k4 o (by omega)).2⟩;simp[World.cell?,k2,ho]
  ·rw[Gh.eT hc]at em;exact l.mem b' o v em
 ·intro j c u;have:=l.dj j c u;refine⟨this.1,this.2.1,fun ty cs' hn o=> ?_⟩;obtain⟨T,H⟩:=old j _ hn;have Y:c≠b:=fun e'=>T (l.eZ j id b (e' ▸ u) k1);rw[Gh.eT (fun X=>Y X.1)];exact this.2.2 ty cs' H o
 ·intro j ty cs' u;obtain⟨c,L,F,E,D,J⟩:=l.cells j ty cs' (old j _ u).2;exact⟨c,L,F,E,D,fun k I=>⟨(J k I).1.mono hle,(J k I).2⟩⟩
 ·intro j Z u;obtain⟨c,ms,cl,F,E,D,J⟩:=l.maps j Z (old j _ u).2;refine⟨c,ms,cl,F,E,D,fun k I=> ?_⟩;obtain⟨q,S,O,M⟩:=J k I;exact⟨q,S,O.mono hle,M.mono hle⟩
 ·intro j s' p u;exact l.dQ j s' p (old j _ u).2
 ·intro j m u;exact l.tok j m (old j _ u).2
 ·intro t r et;obtain⟨F,E,D⟩:=l.own t r et;refine⟨F,E,fun c o ea k V U=> ?_⟩;obtain⟨S,O,M,q4,q5,q6,q7⟩:=D c o ea k V U;refine⟨S,O,?_,q4,q5,q6,q7⟩;rw[Gh.eT (fun X=>q4 id (by rw[k1,X.1]))];exact M
 ·intro y hy;cases hy with
  |dg hb=>
   rw[k1]at hb;obtain rfl:=Option.some.inj hb;have hlen:(aR es).length=es.length*P.cellsOf e:=f1;refine aU.ah (fun k=>vs.getD k undef) (fun i l=>hl _ ?_) (fun k I=> ?_) (fun i j l hj=> ?_) (Nat.le_refl _) ⟨_,rfl⟩
   ·rw[List.getD_eq_getElem?_getD,List.getElem?_eq_getElem l];exact List.getElem_mem l
   ·rw[Gh.ka (by omega) (by omega)];simp
   ·have:=(k4 (i*P.cellsOf e+j) (by
     rw[hlen]
     calc i*P.cellsOf e+j<i*P.cellsOf e+P.cellsOf e:=by omega
      _ =(i+1)*P.cellsOf e:=by rw[Nat.add_mul];omega
      _ ≤es.length*P.cellsOf e:=Nat.mul_le_mul_right _ l)).1
    rw[f2 i j l hj]at this;exact this.mono hle
theorem aA.Tq {c:Code}(id:Nat) {ty:TypeId}{cs:List AV}(cs':List AV) (j:σ id=some (.cells ty cs)) (hl:cs'.length=cs.length) (u:∀k,k<cs'.length→AV.Wk P (cs.getD k .any) (cs'.getD k .any))
 (h:aA P n ds c Q s (σ.set id (.cells ty cs'))):aA P n ds c Q s σ:=by
 intro G0 G a w h1 l;obtain⟨b,vs,g1,g2,g3,v⟩:=l.inv.cells id ty cs j;exact h G0 G a w h1 ⟨l.inv.G8 j g1 g2 hl (fun k q=>u k q _ _ (v k (by omega)).1),l.size,l.ds,l.rep⟩
theorem Inv.marked {G:Gh}{w:World}{b n:Nat}{vs:Array Value}{e:TypeId}(h:Inv P G σ w) (hw:w.heap[b]? =some (.cells vs e (0,0))) (hB:G.B≤b) (M:∀i ty cs,σ i=some (.cells ty cs)→G.inj i≠some b)
 (F:∀t r c o,G.own t=some r→r.a=some (c,o)→r.len*P.cellsOf r.iv<r.cap*P.cellsOf r.iv→c≠b):
 Inv P G σ { w with heap:=w.heap.setIfInBounds b (.cells vs e (n,n+1)) } :=by
 have O:=dD hw;have other:∀k,k≠b→(w.heap.setIfInBounds b (.cells vs e (n,n+1)))[k]? =w.heap[k]? :=fun k V=>Array.getElem?_setIfInBounds_ne (fun e=>V e.symm);have same:(w.heap.setIfInBounds b (.cells vs e (n,n+1)))[b]? =some (.cells vs e (n,n+1)):=by simp[O]
 refine⟨⟨h.below.os,h.below.tape,h.below.output,by simpa using h.below.size,fun k V=>by
  have S:k≠b:=by omega
  rw[show({ w with heap:=w.heap.setIfInBounds b (.cells vs e (n,n+1)) } :World).heap[k]? =(w.heap.setIfInBounds b (.cells vs e (n,n+1)))[k]? from rfl,other k S];exact h.below.block k V⟩,h.base,?_,h.top,?_,h.eZ,?_,?_,?_,h.tok,?_⟩
 ·intro I o v em;refine⟨?_,(h.mem I o v em).2⟩;have h1:=(h.mem I o v em).1;by_cases H:I=b
  ·subst H;simp only[World.cell?,hw]at h1;simp only[World.cell?,same];exact h1
  ·rw[World.cell?_of_block (w:=w) (other I H)];exact h1
 ·intro j c A;have:=h.dj j c A;exact⟨this.1,by simpa using this.2.1,this.2.2⟩
 ·intro j D cs' A;obtain⟨c,J,k1,u,E⟩:=h.cells j D cs' A;have l:c≠b:=fun e'=>M j D cs' A (e' ▸ k1);exact⟨c,J,k1,by rw[other c l];exact u,E⟩
 ·intro j X A;obtain⟨c,L,cl,k1,u,E⟩:=h.maps j X A;have l:c≠b:=by rintro rfl;rw[hw]at u;cases u
  exact⟨c,L,cl,k1,by rw[other c l];exact u,E⟩
 ·intro j s p A;obtain⟨c,k1,u⟩:=h.dQ j s p A;refine⟨c,k1,u.jk (fun _ _ h=>h) (fun o ho=> ?_) (fun m ms cl hm=>by rw[other m (fun e=>by subst e;rw[hw]at hm;cases hm)];exact hm)⟩;by_cases H:c=b
  ·subst H;exfalso;cases s with
   |gA q z=>have:w.heap[c]? =some (.stringIter q z):=u;rw[hw]at this;cases this
   |jd q z d=>obtain⟨m,since,seen,last,ms,clock,Y,_⟩:=u;rw[hw]at Y;cases Y
   |cells _ _ =>cases p
   |tok _ =>cases p
   |map _ =>cases p
  ·rw[other c H];exact ho
 ·intro t r Z;obtain⟨k1,u,E⟩:=h.own t r Z;refine⟨k1,u,fun c o ea k U T=> ?_⟩;obtain⟨m1,m2,m3,m4,m5,m6,m7⟩:=E c o ea k U T;have l:c≠b:=F t r c o Z ea (by omega);refine⟨?_,?_,m3,m4,m5,by simpa using m6,m7⟩
  ·rw[World.cell?_of_block (w:=w) (other c l)];exact m1
  ·rw[World.frozen?_of_block (w:=w) (other c l)];exact m2
theorem iD.PM {d src dst:Nat}{x:Operand}{ty:TypeId}{pos:String}{af:Array Edge}{g:Option (Nat×Bool)}{K:Fr→AS→Prop}(hd:d<n) (id:Nat) {e:TypeId}{m:Nat}(es:List AV) {cs:List AV}(h0:σ id=none)
 (Z:P.underlying src=some (.slice e)) (J:src=dst) (he:P.underlying e=some (.int .u8)) (Y:ev s x= .dg id 0 m m) (hm:es.length=m) (hl:∀v∈es,v.cells.length=P.cellsOf e) (hc:cs=aR es)
 (h:K (s.put (some d) (.ah e es .full false)) σ):iD P n ds Q ⟨some d,.convert src dst x,ty,pos,af,g⟩ s (σ.set id (.cells e cs)) K:=by
 subst hc J;refine iD.lM hd fun G a w u=> ?_;have l:=u.ev x;rw[Y]at l;have V:=u.inv;obtain⟨b,vs,k1,F,k3,k4⟩:=V.cells id e (aR es) (by simp[AS.set]);obtain⟨G',hle,q,conv⟩:=V.freeze h0 hm hl;have U:=conv _ l
 generalize H:a.eval x=xv at l U;cases l with
 |dg X=>
  rw[k1]at X;obtain rfl:=Option.some.inj X;have j:=hle.inj _ _ k1;have M:=dD F;have L:Inv P G' σ { w with heap:=w.heap.setIfInBounds b (.cells vs e (vs.size,vs.size+1)) } :=by
   refine q.marked F (q.dj id b j).1 (fun i ty cs D T=> ?_) (fun t r c o et ea hr S=> ?_)
   ·have:=q.eZ i id b T j;subst this;rw[h0]at D;cases D
   ·subst S;have:=(q.own t r et).2.2 c o ea (r.len*P.cellsOf r.iv) (Nat.le_refl _) hr;exact this.2.2.2.1 id j
  have E:(convert src src (.slice (some ⟨b,0,none⟩) m m)).run P w= .ok (.slice (some ⟨b,0,none⟩) m m) { w with heap:=w.heap.setIfInBounds b (.cells vs e (vs.size,vs.size+1)) } :=by
   have I:w.shape? b=some (e,vs.size):=by simp[World.shape?,F]
   have O:w.freeze ⟨b,vs.size,none⟩ 1= { w with heap:=w.heap.setIfInBounds b (.cells vs e (vs.size,vs.size+1)) } :=by
    unfold World.freeze;rw[if_neg (by decide)];have hg:w.heap[b]= .cells vs e (0,0):=by have:=F;rw[Array.getElem?_eq_getElem M]at this;exact Option.some.inj this
    congr 1;apply Array.ext
    ·simp
    ·intro i h1 h2;by_cases A:b=i
     ·subst A;simp[Array.getElem_modify,hg]
     ·rw[Array.getElem_modify,if_neg A];exact(Array.getElem_setIfInBounds_ne (by simpa using h1) A).symm
   simp[convert,run_underlying Z,run_underlying he,markStringish,shape,freeze,Sem.run_bind,Result.andThen,Sem.run,I,O]
  show Out P G _ _ (((do pure (Next.value (←convert src src (a.eval x)))):Sem Next).run P w);rw[H];exact Out.value E hle L U h
end Go.AW
namespace Go.AW
variable {P:Program} {n:Nat} {ds:List Deferred} {Q:AQ} {s:Fr} {σ:AS}
def cx (j:List (ByteArray×AV)):List (AV×AV):=j.map fun p=>(.sc (.string p.1),p.2)
def fH (k:ByteArray):List (ByteArray×AV)→Option AV
 |[]=>none
 |(k',v)::r=>if k=k' then some v else fH k r
def ja (k:ByteArray) (v:AV):List (ByteArray×AV)→List (ByteArray×AV)
 |[]=> [(k,v)]
 |(k',j)::r=>if k=k' then(k,v)::r else(k',j)::ja k v r
theorem DZ (k:ByteArray):(k==k)=true:=(MapKept.bytes_beq k k).2 rfl
theorem Me {a b:ByteArray}(h:a≠b):(a==b)=false:=Bool.eq_false_iff.2 fun e=>h ((MapKept.bytes_beq a b).1 e)
theorem sP (k:ByteArray) (v:AV):∀(l:List (ByteArray×AV)) (ms:List MapEntry) (i:Nat),ms.length=l.length→(∀(j:Nat) (m:MapEntry),ms[j]? =some m→ ∃p:ByteArray×AV,l[j]? =some p∧m.key= .string p.1)→
 (fH k l=none∧Instr.findNow .string (.string k) ms i=some none∧ja k v l=l++ [(k,v)])∨
 (∃(j:Nat) (p:ByteArray×AV) (m:MapEntry),l[j]? =some p∧ms[j]? =some m∧p.1=k∧fH k l=some p.2∧Instr.findNow .string (.string k) ms i=some (some (i+j,m.val))∧ja k v l=l.set j (k,v)):=by
 intro l;induction l with
 |nil=>intro ms i hl _;have:ms= []:=List.length_eq_zero_iff.1 (by simpa using hl);subst this;exact .inl ⟨rfl,rfl,rfl⟩
 |cons p r H=>
  intro ms i hl F;cases ms with
  |nil=>simp at hl
  |cons m ms=>
   obtain⟨G,A,u⟩:=F 0 m rfl;obtain rfl:p=G:=by simpa using A
   by_cases he:k=p.1
   ·right;refine⟨0,p,m,rfl,rfl,he.symm,by simp[fH,he],?_,by simp[ja,he]⟩;simp[Instr.findNow,u,Instr.sameNow,he,DZ]
   ·rcases H ms (i+1) (by simpa using hl) (fun j w hm=>F (j+1) w (by simpa using hm))with⟨h1,E,D⟩|⟨j,q,w,h1,E,D,L,J,I⟩
    ·left;refine⟨by simp[fH,he,h1],?_,by simp[ja,he,D]⟩;have:(k==p.1)=false:=Me he;simp[Instr.findNow,u,Instr.sameNow,this,E]
    ·right;refine⟨j+1,q,w,by simpa using h1,by simpa using E,D,by simp[fH,he,L],?_,by simp[ja,he,I]⟩;have:(k==p.1)=false:=Me he;simp[Instr.findNow,u,Instr.sameNow,this,J];omega
theorem gj {t:TypeId}{w:World}{b:Bool}{k:ByteArray}(ht:P.underlying t=some .string):(Instr.checkKey b 10000 t (.string k)).run P w= .ok () w:=by
 have:∀m:Nat,(Instr.checkKey b (m+1) t (.string k)).run P w= .ok () w:=fun m=>by simp[Instr.checkKey,run_underlying ht,Sem.run_bind,Result.andThen]
 exact this 9999
theorem ig {t:TypeId}{w:World}{k:ByteArray}{ms:List MapEntry}{r:Option (Nat×Value)}(ht:P.underlying t=some .string) (h:Instr.findNow .string (.string k) ms 0=some r):
 (Instr.findKey t (.string k) ms).run P w= .ok r w:=by
 simp[Instr.findKey,run_underlying ht,Sem.run_bind,Result.andThen,h]
theorem Ai {G:Gh}{w:World}{id:Nat}{l:List (ByteArray×AV)}(D:Inv P G σ w) (q:σ id=some (.map (cx l))):
 ∃(b:Nat) (ms:Array MapEntry) (clock:Nat),G.inj id=some b∧w.heap[b]? =some (.map ms clock)∧(ms.size=l.length∧nu ms clock)∧(∀(j:Nat) (m:MapEntry),ms.toList[j]? =some m→ ∃p:ByteArray×AV,l[j]? =some p∧m.key= .string p.1∧aU P G p.2 m.val):=by
 obtain⟨b,ms,clock,h1,F,⟨H,u⟩,E⟩:=D.maps id _ q;have hlen:(cx l).length=l.length:=by simp[cx]
 refine⟨b,ms,clock,h1,F,⟨by omega,u⟩,fun j m hm=> ?_⟩;have v:j<l.length:=by have:=(List.getElem?_eq_some_iff.1 hm).1;simp at this;omega
 obtain⟨A,g1,g2,g3⟩:=E j (by omega);rw[Array.getElem?_toList,g1]at hm;obtain rfl:=Option.some.inj hm;refine⟨l[j],List.getElem?_eq_getElem v,?_,?_⟩
 ·have e:((cx l).getD j (.any,.any)).1= .sc (.string l[j].1):=by simp[cx,v]
  rw[e]at g2;generalize A.key=x at g2;cases g2;rfl
 ·have e:((cx l).getD j (.any,.any)).2=l[j].2:=by simp[cx,v]
  rwa [e]at g3
def kA (P:Program) (j:TypeId) (r:Option AV) (ok:Bool):AV:=if ok then .cp [r.getD (az P j),.sc (.bool r.isSome)]else r.getD (az P j)
theorem uZ {G:Gh}{w:World}{K Pn:AV→AS→Prop}(D:Inv P G σ w) {t T M:TypeId}{x U:Value}{ok:Bool}{id:Nat}{k:ByteArray}{u:List (ByteArray×AV)}
 (hm:P.underlying t=some (.map T M)) (E:P.underlying T=some .string) (Z:(az P M).laid=true) (hx:aU P G (.mp id) x) (J:aU P G (.sc (.string k)) U) (H:σ id=some (.map (cx u)))
 (h:K (kA P M (fH k u) ok) σ):Out P G K Pn (((do pure (Next.value (←Instr.lookup t x U ok))):Sem Next).run P w):=by
 obtain⟨b,ms,clock,h1,Y,⟨h3,ac⟩,X⟩:=Ai D H;cases J;cases hx with
 |mp V=>
  rw[h1]at V;obtain rfl:=Option.some.inj V;obtain⟨it,z,L,I,A⟩:=cR Z;have q:∀(a:AV) (v:Value) (F:Bool),aU P G a v→aU P G (.cp [a,.sc (.bool F)]) (.tuple #[v,.bool F]):=by
   intro a v F ha;refine .cp [v,.bool F] rfl fun i D=> ?_
   match i,D with
   |0,_ =>exact ha
   |1,_ =>exact .sc _
  rcases sP k .any u ms.toList 0 (by simpa using h3) (fun j m hm=>let ⟨p,a,b,_⟩:=X j m hm;⟨p,a,b⟩)with⟨g1,g2,_⟩|⟨j,p,m,g1,g2,g3,g4,g5,_⟩
  ·have l:(Instr.lookup t (.map (some b)) (.string k) ok).run P w= .ok (if ok then .tuple #[z,.bool false]else z) w:=by simp only[Instr.lookup,Sem.run_bind,run_underlying hm,Result.andThen_ok,MapKept.run_getObj_map Y,Sem.run_pure,gj E,ig E g2,zeroValue,run_typeInfo w L,I]
   refine Out.value l (.refl G) D ?_ h;rw[g1];unfold kA;cases ok
   ·rw[Option.getD_none,A];exact fq z
   ·exact q _ _ _ (by rw[Option.getD_none,A];exact fq z)
  ·have l:(Instr.lookup t (.map (some b)) (.string k) ok).run P w= .ok (if ok then .tuple #[m.val,.bool true]else m.val) w:=by simp only[Instr.lookup,Sem.run_bind,run_underlying hm,Result.andThen_ok,MapKept.run_getObj_map Y,Sem.run_pure,gj E,ig E g5]
   refine Out.value l (.refl G) D ?_ h;obtain⟨p',S,_,O⟩:=X j m g2;rw[g1]at S;obtain rfl:=Option.some.inj S;rw[g4];unfold kA;cases ok
   ·exact O
   ·exact q _ _ _ O
theorem iD.lookup {d t E D:Nat}{x l:Operand}{ok:Bool}{ty:TypeId}{pos:String}{af:Array Edge}{g:Option (Nat×Bool)}{K:Fr→AS→Prop}(J:d<n) (id:Nat) (k:ByteArray) (j:List (ByteArray×AV))
 (hm:P.underlying t=some (.map E D)) (I:P.underlying E=some .string) (F:(az P D).laid=true) (H:ev s x= .mp id) (A:ev s l= .sc (.string k)) (q:σ id=some (.map (cx j)))
 (h:K (s.put (some d) (kA P D (fH k j) ok)) σ):iD P n ds Q ⟨some d,.lookup t x l ok,ty,pos,af,g⟩ s σ K:=
 iD.lM J fun G a w u=>uZ (K:=fun v σ'=>K (s.put (some d) v) σ') u.inv hm I F (H ▸ u.ev x) (A ▸ u.ev l) q h
theorem Inv.xZ {G:Gh}{w:World}(h:Inv P G σ w) {id b:Nat}{ms:Array MapEntry}{clock:Nat}(O:G.inj id=some b) (hw:w.heap[b]? =some (.map ms clock)) (q:Array MapEntry) (l:Nat) (es:List (AV×AV)) (ar:q.size=es.length) (X:nu q l)
 (u:(∀(k:Nat) (e:MapEntry),ms[k]? =some e→ ∃A,q[k]? =some A∧A.born=e.born)∧(∀(k:Nat) (A:MapEntry),q[k]? =some A→ms[k]? =none→clock≤A.born)∧clock≤l∧q.size+clock=ms.size+l)
 (hr:∀k,k<es.length→ ∃m,q[k]? =some m∧aU P G (es.getD k (.any,.any)).1 m.key∧aU P G (es.getD k (.any,.any)).2 m.val):
 Inv P G (σ.set id (.map es)) { w with heap:=w.heap.setIfInBounds b (.map q l) } :=by
 have Z:=dD hw;have hB:=h.dj id b O;have other:∀k,k≠b→(w.heap.setIfInBounds b (.map q l))[k]? =w.heap[k]? :=fun k H=>Array.getElem?_setIfInBounds_ne (fun e=>H e.symm);have same:(w.heap.setIfInBounds b (.map q l))[b]? =some (.map q l):=by simp[Z]
 have Y:∀o,G.mem b o=none:=by
  intro o;cases hm:G.mem b o with
  |none=>rfl
  |some v=>have:=(h.mem b o v hm).1;simp[World.cell?,hw]at this
 refine⟨⟨h.below.os,h.below.tape,h.below.output,by simpa using h.below.size,fun k H=>by
  have ax:k≠b:=by have:=hB.1;omega
  rw[show({ w with heap:=w.heap.setIfInBounds b (.map q l) } :World).heap[k]? =(w.heap.setIfInBounds b (.map q l))[k]? from rfl,other k ax];exact h.below.block k H⟩,h.base,?_,h.top,?_,h.eZ,?_,?_,?_,?_,?_⟩
 ·intro b' o v em;have D:b'≠b:=by intro A;subst A;rw[Y o]at em;cases em
  exact⟨by rw[World.cell?_of_block (w:=w) (other b' D)];exact(h.mem b' o v em).1,(h.mem b' o v em).2⟩
 ·intro j c E;have:=h.dj j c E;refine⟨this.1,by simpa using this.2.1,fun M cs' hn=> ?_⟩;by_cases F:j=id
  ·subst F;simp[AS.set]at hn
  ·exact this.2.2 M cs' (by simpa[AS.set,F]using hn)
 ·intro j M cs' E;have F:j≠id:=by intro A;subst A;simp[AS.set]at E
  simp[AS.set,F]at E;obtain⟨c,ac,k1,L,V⟩:=h.cells j M cs' E;have D:c≠b:=fun A=>F (h.eZ j id b (A ▸ k1) O);exact⟨c,ac,k1,by rw[other c D];exact L,V⟩
 ·intro j a2 E;by_cases F:j=id
  ·subst F;simp[AS.set]at E;subst E;exact⟨b,q,l,O,same,⟨ar,X⟩,hr⟩
  ·simp[AS.set,F]at E;obtain⟨c,al,cl,k1,L,V⟩:=h.maps j a2 E;have D:c≠b:=fun A=>F (h.eZ j id b (A ▸ k1) O);exact⟨c,al,cl,k1,by rw[other c D];exact L,V⟩
 ·intro j s p E;have F:j≠id:=by intro A;subst A;simp[AS.set]at E;subst E;cases p
  simp[AS.set,F]at E;obtain⟨c,k1,L⟩:=h.dQ j s p E;have D:c≠b:=fun A=>F (h.eZ j id b (A ▸ k1) O);refine⟨c,k1,?_⟩;cases s with
  |gA s pos=>have ap:w.heap[c]? =some (.stringIter s pos):=L;show(w.heap.setIfInBounds b (.map q l))[c]? = _;rw[other c D];exact ap
  |jd b9 n0 done=>
   obtain⟨m,since,seen,last,am,J,q1,q2,q3,q4,q5,q6,q7,q8,q9,U,T,ak,S⟩:=L;by_cases hm:m=b
   ·subst hm;rw[hw]at q3;cases q3;refine⟨m,since,seen,last,q,l,by rw[←q1];exact other c D,q2,same,?_,q5,by have:=u.2.2.1;omega,X,?_,?_,U,T,by have:=u.2.2.2;omega,?_⟩
    ·rcases Nat.lt_or_ge q.size n0 with Z|a1
     ·have I:ms[q.size]? =some ms[q.size]:=Array.getElem?_eq_getElem (by omega);obtain⟨A,g1,_⟩:=u.1 _ _ I;simp at g1
     ·exact a1
    ·intro k e H;cases I:ms[k]? with
     |some e0=>obtain⟨A,g1,g2⟩:=u.1 k e0 I;rw[H]at g1;cases g1;rw[q8 k e0 I,g2]
     |none=>
      have g1:=u.2.1 k e H I;have g2:ms.size≤k:=by simpa using I
      constructor<;>intro<;>omega
    ·intro k e H av;have I:ms[k]? =some ms[k]:=Array.getElem?_eq_getElem (by omega);obtain⟨A,g1,g2⟩:=u.1 k _ I;rw[H]at g1;cases g1;rw[g2];exact q9 k _ I av
    ·intro k H;obtain⟨e,g1,g2⟩:=S k H;obtain⟨A,g3,g4⟩:=u.1 k e g1;exact⟨A,g3,by rw[g2,g4]⟩
   ·exact⟨m,since,seen,last,am,J,by rw[←q1];exact other c D,q2,by rw[←q3];exact other m hm,q4,q5,q6,q7,q8,q9,U,T,ak,S⟩
  |cells ty cs=>trivial
  |tok n=>trivial
  |map es=>trivial
 ·intro j n E;have F:j≠id:=by intro A;subst A;simp[AS.set]at E
  simp[AS.set,F]at E;exact h.tok j n E
 ·intro t r et;obtain⟨k1,L,V⟩:=h.own t r et;refine⟨k1,L,fun c o ea k a0 ay=> ?_⟩;obtain⟨m1,m2,m3,m4,m5,m6,m7⟩:=V c o ea k a0 ay;have D:c≠b:=fun A=>m4 id (A ▸ O);refine⟨?_,?_,m3,m4,m5,by simpa using m6,m7⟩
  ·rw[World.cell?_of_block (w:=w) (other c D)];exact m1
  ·rw[World.frozen?_of_block (w:=w) (other c D)];exact m2
theorem sy {ms:Array MapEntry}{clock:Nat}(h:nu ms clock) {key val:Value} :nu (ms.push { key,val,born:=clock }) (clock+1):=by
 constructor
 ·intro k e l;rw[Array.getElem?_push]at l;split at l
  ·cases l;simp
  ·have:=h.1 k e l;omega
 ·intro k k' e q l j he;rw[Array.getElem?_push]at l j;split at l<;>split at j
  ·omega
  ·cases l;have:=h.1 k' q j;simp at he;omega
  ·cases j;have:=h.1 k e l;simp at he;omega
  ·exact h.2 k k' e q l j he
theorem xr (ms:Array MapEntry) (clock:Nat) (x:MapEntry) (q:x.born=clock):
 (∀(k:Nat) (e:MapEntry),ms[k]? =some e→ ∃l,(ms.push x)[k]? =some l∧l.born=e.born)∧(∀(k:Nat) (l:MapEntry),(ms.push x)[k]? =some l→ms[k]? =none→clock≤l.born)∧clock≤clock+1∧(ms.push x).size+clock=ms.size+(clock+1):=by
 refine⟨fun k e j=>⟨e,?_,rfl⟩,fun k l j hn=> ?_,by omega,by simp;omega⟩
 ·have:=(Array.getElem?_eq_some_iff.1 j).1;rw[Array.getElem?_push,if_neg (by omega)];exact j
 ·rw[Array.getElem?_push]at j;split at j
  ·cases j;omega
  ·rw[hn]at j;cases j
theorem pE {ms:Array MapEntry}{clock:Nat}(h:nu ms clock) (j:Nat) (f:MapEntry→MapEntry) (hf:∀e,(f e).born=e.born):nu (ms.modify j f) clock:=by
 have back:∀(k:Nat) (e:MapEntry),(ms.modify j f)[k]? =some e→ ∃q,ms[k]? =some q∧e.born=q.born:=by
  intro k e l;rw[Array.getElem?_modify]at l;split at l
  ·cases v:ms[k]? with
   |none=>rw[v]at l;cases l
   |some q=>rw[v]at l;cases l;exact⟨q,rfl,hf q⟩
  ·exact⟨e,l,rfl⟩
 constructor
 ·intro k e l;obtain⟨q,h1,w⟩:=back k e l;rw[w];exact h.1 k q h1
 ·intro k k' e E l u he;obtain⟨q,h1,w⟩:=back k e l;obtain⟨D,A,F⟩:=back k' E u;exact h.2 k k' q D h1 A (by omega)
theorem sN (ms:Array MapEntry) (clock:Nat) (j:Nat) (f:MapEntry→MapEntry) (hf:∀e,(f e).born=e.born):
 (∀(k:Nat) (e:MapEntry),ms[k]? =some e→ ∃q,(ms.modify j f)[k]? =some q∧q.born=e.born)∧(∀(k:Nat) (q:MapEntry),(ms.modify j f)[k]? =some q→ms[k]? =none→clock≤q.born)∧clock≤clock∧(ms.modify j f).size+clock=ms.size+clock:=by
 refine⟨fun k e l=> ?_,fun k q l hn=> ?_,by omega,by simp⟩
 ·rw[Array.getElem?_modify];split
  ·exact⟨f e,by rw[l];rfl,hf e⟩
  ·exact⟨e,l,rfl⟩
 ·rw[Array.getElem?_modify,hn]at l;split at l<;>cases l
theorem pO {G:Gh}{w:World}{K Pn:AV→AS→Prop}(hi:Inv P G σ w) {t kt et:TypeId}{x ix H:Value}{v:AV}{id:Nat}{k:ByteArray}{u:List (ByteArray×AV)}
 (hm:P.underlying t=some (.map kt et)) (S:P.underlying kt=some .string) (hx:aU P G (.mp id) x) (Z:aU P G (.sc (.string k)) ix) (hv:aU P G v H) (X:σ id=some (.map (cx u)))
 (h:K .any (σ.set id (.map (cx (ja k v u))))):Out P G K Pn (((do Instr.mapUpdate t x ix H;pure Next.skip):Sem Next).run P w):=by
 obtain⟨b,ms,clock,h1,J,⟨U,L⟩,T⟩:=Ai hi X;cases Z;cases hx with
 |mp hb=>
  rw[h1]at hb;obtain rfl:=Option.some.inj hb;have yG:∀(l:List (ByteArray×AV)) (j:Nat) (p:ByteArray×AV),l[j]? =some p→(cx l).getD j (.any,.any)=(.sc (.string p.1),p.2):=by intro l j p hp;simp[cx,hp]
  have F:∀l,(cx l).length=l.length:=by intro l;simp[cx]
  rcases sP k v u ms.toList 0 (by simpa using U) (fun j m hm=>let ⟨p,a,b,_⟩:=T j m hm;⟨p,a,b⟩)with⟨g1,g2,g6⟩|⟨j,p,m,g1,g2,g3,g4,g5,g6⟩
  ·have D:(Instr.mapUpdate t (.map (some b)) (.string k) H).run P w= .ok () { w with heap:=w.heap.setIfInBounds b (.map (ms.push { key:= .string k,val:=H,born:=clock }) (clock+1)) } :=by simp only[Instr.mapUpdate,Sem.run_bind,run_underlying hm,Result.andThen_ok,MapKept.run_getObj_map J,gj S,ig S g2,MapKept.run_setObj_map _ J]
   rw[g6]at h;refine Out.unit D (.refl G) (hi.xZ h1 J _ _ (cx (u++ [(k,v)])) (by simp[F,U]) (sy L) (xr ms clock _ rfl) (fun i A=> ?_)) (.any _) h;rw[F]at A;simp at A;by_cases Y:i<u.length
   ·have E:i<ms.size:=by omega
    obtain⟨p,O,V,q3⟩:=T i ms[i] (by simp[E]);refine⟨ms[i],by simp[Array.getElem?_push,E];omega,?_⟩;rw[yG _ i p (by rw[List.getElem?_append_left Y];exact O),V];exact⟨.sc _,q3⟩
   ·have he:i=u.length:=by omega
    subst he;refine⟨{ key:= .string k,val:=H,born:=clock },by rw[←U];simp,?_⟩;rw[yG _ u.length (k,v) (by simp)];exact⟨.sc _,hv⟩
  ·have a2:j<ms.size:=by have:=(List.getElem?_eq_some_iff.1 g2).1;simpa using this
   have hold:ms[j]? =some m:=by rw[←Array.getElem?_toList];exact g2
   obtain⟨p',O,V,q3⟩:=T j m g2;rw[g1]at O;obtain rfl:=Option.some.inj O;have M:(Instr.keyThatStays m.key (.string k)).run P w= .ok (.string k) w:=by
    have:∀q:Nat,Instr.sameBits q (.string k) (.string k)=true:=fun q=>by simp[Instr.sameBits,DZ]
    rw[V,g3];simp[Instr.keyThatStays,this]
   have D:(Instr.mapUpdate t (.map (some b)) (.string k) H).run P w= .ok () { w with heap:=w.heap.setIfInBounds b (.map (ms.modify j fun e=> { e with key:= .string k,val:=H }) clock) } :=by simp only[Instr.mapUpdate,Sem.run_bind,run_underlying hm,Result.andThen_ok,MapKept.run_getObj_map J,gj S,ig S g5,Nat.zero_add,hold,Option.map_some,Option.getD_some,M,MapKept.run_setObj_map _ J]
   rw[g6]at h;refine Out.unit D (.refl G) (hi.xZ h1 J _ _ (cx (u.set j (k,v))) (by simp[F,U]) (pE L j _ (fun _ =>rfl)) (sN ms clock j _ (fun _ =>rfl)) (fun i A=> ?_)) (.any _) h;rw[F]at A;simp at A;have E:i<ms.size:=by omega
   by_cases I:i=j
   ·subst I;refine⟨{ m with key:= .string k,val:=H },by simp[Array.getElem?_modify,hold],?_⟩;rw[yG _ i (k,v) (by simp[A])];exact⟨.sc _,hv⟩
   ·obtain⟨p2,r1,r2,r3⟩:=T i ms[i] (by simp[E]);refine⟨ms[i],by rw[Array.getElem?_modify,if_neg (fun e=>I e.symm)];exact Array.getElem?_eq_getElem E,?_⟩;rw[yG _ i p2 (by rw[List.getElem?_set_ne (fun e=>I e.symm)];exact r1),r2];exact⟨.sc _,r3⟩
theorem iD.mapUpdate {t D H:Nat}{m x q:Operand}{ty:TypeId}{pos:String}{af:Array Edge}{g:Option (Nat×Bool)}{K:Fr→AS→Prop}(id:Nat) (k:ByteArray) (j:List (ByteArray×AV))
 (hm:P.underlying t=some (.map D H)) (F:P.underlying D=some .string) (E:ev s m= .mp id) (A:ev s q= .sc (.string k)) (u:σ id=some (.map (cx j)))
 (h:K s (σ.set id (.map (cx (ja k (ev s x) j))))):iD P n ds Q ⟨none,.mapUpdate t m q x,ty,pos,af,g⟩ s σ K:=
 iD.lM trivial fun G a w l=>pO (K:=fun v σ'=>K (s.put none v) σ') l.inv hm F (E ▸ l.ev m) (A ▸ l.ev q) (l.ev x) u h
end Go.AW
namespace Go.AW
variable {P:Program} {n:Nat} {ds:List Deferred} {Q:AQ} {s:Fr} {σ:AS}
theorem Mo {o:Oper}{a:Act}{next:Act→World→Prop}{T q:Exit→Act→World→Prop}{r:Result Next}(l:∀e a w,T e a w→q e a w) (j:o.upon P a next T r):o.upon P a next q r:=by
 cases r with
 |ok A w'=>
  cases A<;>simp only[Oper.upon]at j⊢ <;>
   first
    |exact j
    |exact Calls.mono j (fun e v he=>by
     cases e<;>first
      |exact he
      |exact l _ _ _ he
      |(obtain⟨D,u,h0⟩:=he;exact⟨D,u,l _ _ _ h0⟩))
 |halt x w'=>cases x<;>simp only[Oper.upon]at j⊢ <;>first|exact l _ _ _ j|exact j
theorem LQ.ne {K:Fr→AS→Prop}{G:Gh}{e:Exit}{a:Act}{w:World}(he:e≠ .normal) (h:LQ P n ds (fD K Q) G e a w):LQ P n ds Q G e a w:=by
 cases e with
 |normal=>exact absurd rfl he
 |panic j=>
  match j,h with
  |[x],h=>exact h
  |[],h=>exact h.elim
  | _ :: _ :: _,h=>exact h.elim
 |exit i=>exact h
 |ret=>exact h
 |goto i=>exact h.elim
 |outgrown=>exact h.elim
theorem ME {ops:Array Oper}{G0:Gh}{cs:List Frame}{u:Exit→Act→List Frame→World→Prop}(M:∀e a w,LQ P n ds Q G0 e a w→u e a cs w):
 ∀(r:List Oper) (k:Nat),(∀j,r[j]? =ops[k+j]?)→ ∀(G:Gh) (s:Fr) (σ:AS) (a:Act) (w:World),bQ P n ds ops Q r s σ→G0.Le G→kO P G n ds s σ a w→
  wpOpsS P ops u (List.range' k r.length) a cs w:=by
 intro r;induction r with
 |nil=>intro k _ G s σ a w h hle D;exact M _ _ _ ⟨G,s,σ,hle,D,h⟩
 |cons o r J=>
  intro k L G s σ a w h hle D;have h0:ops[k]? =some o:=by simpa using(L 0).symm
  have A:∀j,r[j]? =ops[k+1+j]? :=fun j=>by have:=L (j+1);simpa[Nat.add_assoc,Nat.add_comm 1 j]using this
  rw[List.length_cons,List.range'_succ];simp only[wpOpsS,h0];have conv:∀next:Act→World→Prop,(∀a w,next a w→wpOpsS P ops u (List.range' (k+1) r.length) a cs w)→o.wp P a w next (LQ P n ds Q G0)→
   (match (execOp a.eval o).run P w with
   |.ok .recover w'=>
    match recoverD cs with
    |some (v,cs')=>wpOpsS P ops u (List.range' (k+1) r.length) (a.put o.dst v) cs' w'
    |none=>wpOpsS P ops u (List.range' (k+1) r.length) (a.put o.dst .nilIface) cs w'
   |F=>o.upon P a (fun q w'=>wpOpsS P ops u (List.range' (k+1) r.length) q cs w') (fun e q w'=>u e q cs w') F):=by
   intro next hn hw
   unfold Oper.wp at hw;have l:=El hn (Mo M hw);generalize (execOp a.eval o).run P w=F at l;cases F with
   |ok O w'=>cases O<;>first|exact l|(simp only[Oper.upon]at l;done)
   |halt x w'=>exact l
  rcases h with⟨S,h⟩|h
  ·have hw:Region.wanted o (yielded ops a.tmps)=true:=by simp[Region.wanted,S]
   rw[if_pos hw];exact conv _ (fun _ _ h=>h) (h G0 G a w hle D _ (fun G' E σ' q w' h1 I H=>J (k+1) A G' E σ' q w' H h1 I))
  ·have:=m8 o h hle D (next:=fun q w'=>wpOpsS P ops u (List.range' (k+1) r.length) q cs w') (fun G' E σ' q w' h1 I H=>J (k+1) A G' E σ' q w' H h1 I);by_cases hw:Region.wanted o (yielded ops a.tmps)=true
   ·rw[if_pos hw]at this⊢;exact conv _ (fun _ _ h=>h) this
   ·rw[if_neg hw]at this⊢;exact this
def iA (P:Program) (f:FuncId) (j:List AV) (σ:AS) (q:Option AV) (K:AS→Prop):Prop:=
 ∀(G:Gh) (w:World) (vals:Array Value) (u:FrameMode),Inv P G σ w→wJ P G j vals→
  (match q with|none=>u= .returning|some a=> ∃e:PanicEntry,e.recovered=false∧e.goexit=false∧aU P G a e.v∧u= .panicking [e])→
  CallsD P f vals u w fun e l w'=>(∃x,e= .returned x)∧settle l= .returning∧ ∃G' σ',G.Le G'∧Inv P G' σ' w'∧K σ'
def wD (K:AS→Prop):AQ
 |.normal,_,σ=>K σ
 |.ret,_,σ=>K σ
 | _,_,_ =>False
@[simp] theorem SL (K:AS→Prop) (s:Fr) (σ:AS):wD K .normal s σ=K σ:=rfl
@[simp] theorem SH (K:AS→Prop) (s:Fr) (σ:AS):wD K .ret s σ=K σ:=rfl
def recV (j:Option AV):AV:=j.getD (.sc .nilIface)
theorem iA.of {f:FuncId}{fn:Func}{d id:Nat}{l:List Oper}{y:Code}{D:Array TypeId}{ty:TypeId}{pos:String}{af:Array Edge}{A:List AV}{T:Option AV}{K:AS→Prop}
 (hf:P.funcs[f]? =some fn) (hb:fn.body=some (.seq (.region id ((⟨some d,.call ⟨.builtin .recover,#[],D⟩,ty,pos,af,none⟩:Oper)::l).toArray false) y)) (S:fn.results.toList= []) (ha:A.length≤fn.ntmps) (hd:d<fn.ntmps)
 (h:bQ P fn.ntmps [] ((⟨some d,.call ⟨.builtin .recover,#[],D⟩,ty,pos,af,none⟩:Oper)::l).toArray (fD (aA P fn.ntmps [] y (wD K)) (wD K)) l ((p8 A).put (some d) (recV T)) σ):iA P f A σ T K:=by
 intro G w vals u hi hr hu;refine callsD_of_wpS hf hb fun q cs U=>wpS_seq (wpS_region ?_);have I:kO P G fn.ntmps [] (p8 A) σ { tmps:=vals++Array.replicate (fn.ntmps-vals.size) undef,defers:= [] } w:=by
  refine⟨hi,by simp[hr.1];omega,rfl,fun i=> ?_⟩;by_cases L:i<A.length
  ·have V:(vals++Array.replicate (fn.ntmps-vals.size) undef).getD i undef=vals.getD i undef:=by rw[Array.getD_eq_getD_getElem?,Array.getElem?_append_left (by rw[hr.1];exact L),←Array.getD_eq_getD_getElem?]
   simp only[V];exact hr.2 i L
  ·have:p8 A i= .any:=by simp[p8,List.getD_eq_getElem?_getD,List.getElem?_eq_none (Nat.le_of_not_lt L)]
   rw[this];exact .any _
 generalize ({ tmps:=vals++Array.replicate (fn.ntmps-vals.size) undef,defers:= [] } :Act)=a at I⊢;have rest:∀(F:FrameMode) (v:Value),settle F= .returning→aU P G (recV T) v→
  wpOpsS P ((⟨some d,.call ⟨.builtin .recover,#[],D⟩,ty,pos,af,none⟩:Oper)::l).toArray
   (Exit.thenS (y.wpS P (bodyPostS P fn q cs fun e F w'=>(∃x,e= .returned x)∧settle F= .returning∧ ∃G' σ',G.Le G'∧Inv P G' σ' w'∧K σ')) (bodyPostS P fn q cs fun e F w'=>(∃x,e= .returned x)∧settle F= .returning∧ ∃G' σ',G.Le G'∧Inv P G' σ' w'∧K σ'))
   (List.range' 1 l.length) (a.put (some d) v) ({ q with mode:=F } ::cs) w:=by
  intro F v Y hv;have fin:∀(e:Exit) (J:Act) (w':World),LQ P fn.ntmps [] (wD K) G e J w'→
   bodyPostS P fn q cs (fun e F w'=>(∃x,e= .returned x)∧settle F= .returning∧ ∃G' σ',G.Le G'∧Inv P G' σ' w'∧K σ') e J ({ q with mode:=F } ::cs) w':=by
   intro e J w' E;have done:∀(G':Gh) (H:Fr) (σ':AS),G.Le G'→kO P G' fn.ntmps [] H σ' J w'→K σ'→
    J.defers= []∧ ∃M,({ q with mode:=F } ::cs:List Frame)= { q with mode:=M } ::cs∧ ∃v,(results fn J.tmps).run P w'= .ok v w'∧((∃x,Ending.returned v= .returned x)∧settle M= .returning∧ ∃G' σ',G.Le G'∧Inv P G' σ' w'∧K σ'):=by
    intro G' H σ' g1 g2 g3;obtain⟨v,vs,k1,_,_⟩:=mQ g2 fn (fun _ =>True) (by rw[S];trivial);exact⟨g2.ds,F,rfl,v,k1,⟨v,rfl⟩,Y,G',σ',g1,g2.inv,g3⟩
   unfold LQ at E;split at E
   ·obtain⟨G',H,σ',g1,g2,g3⟩:=E;exact done G' H σ' g1 g2 g3
   ·obtain⟨G',H,σ',g1,g2,g3⟩:=E;exact g3.elim
   ·obtain⟨G',H,σ',g1,g2,g3⟩:=E;exact done G' H σ' g1 g2 g3
   ·obtain⟨_,_,G',H,σ',v,g1,g2,g3,g4⟩:=E;exact g4.elim
   ·exact E.elim
  refine ME (G0:=G) (Q:=fD (aA P fn.ntmps [] y (wD K)) (wD K)) ?_ l 1 (fun j=>by simp[Nat.add_comm 1 j]) G _ σ _ w h (.refl G) (I.put (.refl G) hi (some d) (fun t ht=>by cases ht;exact hd) hv);intro e J w' E;cases e with
  |normal=>obtain⟨G',H,σ',g1,g2,g3⟩:=E;exact wpS_of_wp (wp_mono (g3 G G' J w' g1 g2) fun e ac X E=>fin e ac X E)
  |exit i=>obtain⟨G',H,σ',g1,g2,g3⟩:=E;exact g3.elim
  |ret=>exact fin _ _ _ (LQ.ne (by simp) E)
  |panic ch=>exact fin _ _ _ (LQ.ne (by simp) E)
  |goto i=>exact E.elim
  |outgrown=>exact E.elim
 have Z:((⟨some d,.call ⟨.builtin .recover,#[],D⟩,ty,pos,af,none⟩:Oper)::l).toArray.size=l.length+1:=by simp
 rw[Z,List.range_eq_range',List.range'_succ];have h0:((⟨some d,.call ⟨.builtin .recover,#[],D⟩,ty,pos,af,none⟩:Oper)::l).toArray[0]? =some ⟨some d,.call ⟨.builtin .recover,#[],D⟩,ty,pos,af,none⟩:=by simp
 have O:(execOp a.eval ⟨some d,.call ⟨.builtin .recover,#[],D⟩,ty,pos,af,none⟩).run P w= .ok .recover w:=by rfl
 have hw:Region.wanted (⟨some d,.call ⟨.builtin .recover,#[],D⟩,ty,pos,af,none⟩:Oper) (yielded ((⟨some d,.call ⟨.builtin .recover,#[],D⟩,ty,pos,af,none⟩:Oper)::l).toArray a.tmps)=true:=by simp[Region.wanted]
 simp only[wpOpsS,h0,hw,if_true,O];cases T with
 |none=>
  simp only at hu;subst hu;have hm:recoverD (q::cs)=none:=by simp[recoverD,U]
  rw[hm];have e:q= { q with mode:= .returning } :=by cases q;simp at U;subst U;rfl
  have:=rest .returning .nilIface rfl (.sc _);rw[←e]at this;exact this
 |some av=>
  obtain⟨e,V,e2,e3,rfl⟩:=hu;obtain⟨v,rc,ge⟩:=e;simp only at V e2 e3;subst V e2;have hm:recoverD (q::cs)=some (v,{ q with mode:= .panicking [{ v:=v,recovered:=true }] } ::cs):=by simp[recoverD,U]
  rw[hm];exact rest _ v rfl e3
theorem iD.Rj {d t u:Nat}{x:Operand}{ty:TypeId}{pos:String}{af:Array Edge}{g:Option (Nat×Bool)}{K:Fr→AS→Prop}(H:d<n) {v:AV}{td:TypeDesc}(hu:P.underlying u=some td) (q:match td with|.interface _ =>False| _ =>True)
 (D:ev s x= .lq u v) (h:K (s.put (some d) (.cp [v,.sc (.bool true)])) σ):iD P n ds Q ⟨some d,.typeAssert x t u true,ty,pos,af,g⟩ s σ K:=by
 refine iD.lM H fun G a w A=> ?_;have l:=A.ev x;rw[D]at l;show Out P G _ _ ((do pure (Next.value (←Instr.typeAssert (a.eval x) t u true)):Sem Next).run P w);generalize a.eval x=I at l;cases l with
 |lq E=>
  rename_i y;have j:(Instr.typeAssert (.iface u y) t u true).run P w= .ok (.tuple #[y,.bool true]) w:=by cases td<;>first|exact q.elim|simp[Instr.typeAssert,Sem.run_bind,run_underlying hu,Result.andThen]
  refine Out.value j (.refl G) A.inv ?_ h;refine .cp [y,.bool true] rfl fun i F=> ?_
  match i,F with
  |0,_ =>exact E
  |1,_ =>exact .sc _
theorem iD.K1 {d t u:Nat}{x:Operand}{ty:TypeId}{pos:String}{af:Array Edge}{g:Option (Nat×Bool)}{K:Fr→AS→Prop}(J:d<n) {td:TypeDesc}(hu:P.underlying u=some td) (A:match td with|.interface _ =>False| _ =>True) (F:(az P u).laid=true)
 (H:ev s x= .sc .nilIface) (h:K (s.put (some d) (.cp [az P u,.sc (.bool false)])) σ):iD P n ds Q ⟨some d,.typeAssert x t u true,ty,pos,af,g⟩ s σ K:=by
 refine iD.lM J fun G a w E=> ?_;have v:=E.ev x;rw[H]at v;show Out P G _ _ ((do pure (Next.value (←Instr.typeAssert (a.eval x) t u true)):Sem Next).run P w);generalize a.eval x=L at v;cases v;obtain⟨it,z,D,l,q⟩:=cR F;have j:(Instr.typeAssert .nilIface t u true).run P w= .ok (.tuple #[z,.bool false]) w:=by cases td<;>first|exact A.elim|simp[Instr.typeAssert,Sem.run_bind,run_underlying hu,Result.andThen,zeroValue,run_typeInfo w D,l]
 refine Out.value j (.refl G) E.inv ?_ h;refine .cp [z,.bool false] rfl fun i I=> ?_
 match i,I with
 |0,_ =>rw[show([az P u,AV.sc (.bool false)]).getD 0 .any=az P u from rfl,q];exact fq z
 |1,_ =>exact .sc _
def ss (P:Program) (fn:Func) (c:Code) (R l:AV→AS→Prop) (j:Gh) (s:Fr) (σ:AS):Prop:=
 ∀(G:Gh) (a:Act) (w:World),j.Le G→kO P G fn.ntmps [] s σ a w→c.wp P (bodyPostD P fn (jC P j R l)) a w
theorem xC {fn:Func}{R F:AV→AS→Prop}{D:Gh}{e:Exit}{a:Act}{w:World}(h:LQ P fn.ntmps [] (sT P fn.results.toList R F) D e a w):bodyPostD P fn (jC P D R F) e a w:=by
 have fin:∀(l:Fr) (σ':AS) (G':Gh),D.Le G'→kO P G' fn.ntmps [] l σ' a w→(er fn.results.toList P l σ' fun vs=> ∃E j,AV.Wk P (dF vs) E∧AS.le j σ'∧R E j)→
  Leaves P fn a.tmps (jC P D R F) a.defers .returning w:=by
  intro l σ' G' h1 G L;obtain⟨v,vs,k1,J,E,j,I,k4,H⟩:=mQ G fn _ L;rw[G.ds];exact⟨v,k1,G',j,E,h1,G.inv.weaken k4,I _ _ J,H⟩
 unfold LQ at h;split at h
 ·obtain⟨G',l,σ',A,u,q⟩:=h;exact fin l σ' G' A u q
 ·obtain⟨G',l,σ',A,u,q⟩:=h;exact q.elim
 ·obtain⟨G',l,σ',A,u,q⟩:=h;exact fin l σ' G' A u q
 ·obtain⟨x,y,G',l,σ',v,A,u,q,j,O,M⟩:=h;show Leaves P fn a.tmps (jC P D R F) a.defers (.panicking _) w;rw[u.ds];exact⟨x,y,G',j,v,A,u.inv.weaken O,q,M⟩
 ·exact h.elim
theorem ss.seq {fn:Func}{x y:Code}{R l:AV→AS→Prop}{q:Gh}(h:aA P fn.ntmps [] x (fD (fun s σ=>ss P fn y R l q s σ) (sT P fn.results.toList R l)) s σ):ss P fn (.seq x y) R l q s σ:=by
 intro G a w h1 v;refine wp_seq (wp_mono (h q G a w h1 v) fun e A w' j=> ?_);cases e with
 |normal=>obtain⟨G',u,σ',g1,g2,g3⟩:=j;exact g3 G' A w' g1 g2
 |exit i=>obtain⟨G',u,σ',g1,g2,g3⟩:=j;exact g3.elim
 |ret=>exact xC (LQ.ne (by simp) j)
 |panic D=>exact xC (LQ.ne (by simp) j)
 |goto i=>exact j.elim
 |outgrown=>exact j.elim
def yT (P:Program) (rs:List ResultVar) (f:FuncId) (j:List AV) (R l:AV→AS→Prop):AQ
 |.normal,s,σ=>iA P f j σ none fun σ'=>er rs P s σ' fun vs=>Ends P R σ' (dF vs)
 |.ret,s,σ=>iA P f j σ none fun σ'=>er rs P s σ' fun vs=>Ends P R σ' (dF vs)
 |.panic v,s,σ=>iA P f j σ (some v) fun σ'=>er rs P s σ' fun vs=>Ends P R σ' (dF vs)
 | _,_,_ =>False
@[simp] theorem PT (rs:List ResultVar) (f:FuncId) (j:List AV) (R l:AV→AS→Prop) (s:Fr) (σ:AS):yT P rs f j R l .ret s σ=iA P f j σ none fun σ'=>er rs P s σ' fun vs=>Ends P R σ' (dF vs):=rfl
@[simp] theorem PV (rs:List ResultVar) (f:FuncId) (j:List AV) (R l:AV→AS→Prop) (s:Fr) (σ:AS):yT P rs f j R l .normal s σ=iA P f j σ none fun σ'=>er rs P s σ' fun vs=>Ends P R σ' (dF vs):=rfl
@[simp] theorem PU (rs:List ResultVar) (f:FuncId) (j:List AV) (R l:AV→AS→Prop) (v:AV) (s:Fr) (σ:AS):yT P rs f j R l (.panic v) s σ=iA P f j σ (some v) fun σ'=>er rs P s σ' fun vs=>Ends P R σ' (dF vs):=rfl
theorem ss.defer {fn:Func}{id d f:Nat}{j:Array Operand}{rest:Code}{R Rp:AV→AS→Prop}{G1:Gh}{A q:TypeId}{O M:String}{T S:Array Edge}{E:Array TypeId}
 (hd:d<fn.ntmps) (L:im P f=true)
 (h:∀D,aA P fn.ntmps [D] rest (yT P fn.results.toList f (j.toList.map (ev s)) R Rp) (s.put (some d) (.fn (.func f) [] (j.toList.map (ev s)))) σ):
 ss P fn (.seq (.region id [(⟨some d,.makeFunc (.func f) #[] j,A,O,T,none⟩:Oper),⟨none,.defer ⟨.value (.tmp d),#[],E⟩,q,M,S,none⟩].toArray false) rest) R Rp G1 s σ:=by
 intro G a w h1 hs;refine wp_seq (wp_region_lit ?_);have ap:Region.wanted (⟨some d,.makeFunc (.func f) #[] j,A,O,T,none⟩:Oper) (yielded [(⟨some d,.makeFunc (.func f) #[] j,A,O,T,none⟩:Oper),⟨none,.defer ⟨.value (.tmp d),#[],E⟩,q,M,S,none⟩].toArray a.tmps)=true:=by simp[Region.wanted]
 unfold wpList;rw[if_pos ap];refine .inl ?_;have ax:(execOp a.eval ⟨some d,.makeFunc (.func f) #[] j,A,O,T,none⟩).run P w= .ok (.value (.func (.func f) #[] (j.map a.eval))) w:=by simp[execOp,Instr.makeFunc]
 show Oper.upon P _ a _ _ ((execOp a.eval ⟨some d,.makeFunc (.func f) #[] j,A,O,T,none⟩).run P w);rw[ax,Oper.upon_value];have l:wJ P G (j.toList.map (ev s)) (j.map a.eval):=⟨by simp,fun i J=>by simp at J;simp[List.getD_eq_getElem?_getD,J];exact hs.ev _⟩;have a0:aU P G (.fn (.func f) [] (j.toList.map (ev s))) (.func (.func f) #[] (j.map a.eval)):=by
  have:=aU.fn (P:=P) (G:=G) (f:= .func f) (first:= []) (captured:=j.toList.map (ev s)) [] (j.map a.eval).toList rfl (by simp) (fun i J=>by simp at J) (fun i J=>by
   have h1:=l.2 i J;have e:(j.map a.eval).toList.getD i undef=(j.map a.eval).getD i undef:=by simp[List.getD_eq_getElem?_getD]
   rw[e];exact h1)
  rw[Array.toArray_toList]at this;exact this
 have H:=hs.put (.refl G) hs.inv (some d) (fun t ht=>by cases ht;exact hd) a0;unfold wpList;have a3:(a.put (some d) (.func (.func f) #[] (j.map a.eval))).eval (.tmp d)= .func (.func f) #[] (j.map a.eval):=by
  have a5:d<a.tmps.size:=by rw[hs.size];exact hd
  simp[Act.put,Act.eval,a5]
 have am:Region.wanted (⟨none,.defer ⟨.value (.tmp d),#[],E⟩,q,M,S,none⟩:Oper) (yielded [(⟨some d,.makeFunc (.func f) #[] j,A,O,T,none⟩:Oper),⟨none,.defer ⟨.value (.tmp d),#[],E⟩,q,M,S,none⟩].toArray (a.put (some d) (.func (.func f) #[] (j.map a.eval))).tmps)=true:=by simp[Region.wanted]
 rw[if_pos am];refine .inl ?_;have av:(execOp (a.put (some d) (.func (.func f) #[] (j.map a.eval))).eval ⟨none,.defer ⟨.value (.tmp d),#[],E⟩,q,M,S,none⟩).run P w= .ok (.defer { target:= .fn (.func f) (j.map a.eval),args:= #[] }) w:=by simp only[execOp,resolve,a3,Deferred.ofValue];simp
 show Oper.upon P _ _ _ _ ((execOp (a.put (some d) (.func (.func f) #[] (j.map a.eval))).eval ⟨none,.defer ⟨.value (.tmp d),#[],E⟩,q,M,S,none⟩).run P w);rw[av,Oper.upon_defer];generalize hD:({ target:= .fn (.func f) (j.map a.eval),args:= #[] } :Deferred)=D;have a4:(a.put (some d) (.func (.func f) #[] (j.map a.eval))).defers= []:=H.ds;have ar:kO P G fn.ntmps [D] (s.put (some d) (.fn (.func f) [] (j.toList.map (ev s)))) σ ({ a.put (some d) (.func (.func f) #[] (j.map a.eval))with defers:=D::(a.put (some d) (.func (.func f) #[] (j.map a.eval))).defers }.put none undef) w:=
  ⟨H.inv,H.size,by show D:: _ = [D];rw[a4],H.rep⟩
 show(Exit.then _ _) .normal _ w;refine wp_mono (h D G G _ w (.refl G) ar) fun e Y w' I=> ?_;have inv:(invoke (.fn (.func f) (j.map a.eval)) #[]).run P w'= .ok (.enter f (j.map a.eval)) w':=by have:=oB (w:=w') L (j.map a.eval);simpa[invoke]using this
 have fin:∀(u:FrameMode) (G':Gh) (F:Fr) (σ':AS) (pv:Option AV),G.Le G'→kO P G' fn.ntmps [D] F σ' Y w'→u≠ .run→
  (match pv with|none=>u= .returning|some a=> ∃e:PanicEntry,e.recovered=false∧e.goexit=false∧aU P G' a e.v∧u= .panicking [e])→
  (iA P f (j.toList.map (ev s)) σ' pv fun σ'=>er fn.results.toList P F σ' fun vs=>Ends P R σ' (dF vs))→
  Leaves P fn Y.tmps (jC P G1 R Rp) Y.defers u w':=by
  intro u G' F σ' pv g1 g2 hu ay hd;rw[g2.ds,←hD];refine leaves_cons hu inv ((hd G' w' _ u g2.inv ⟨l.1,fun i J=>(l.2 i J).mono g1⟩ ay).mono fun e u' V I=> ?_);obtain⟨⟨x,rfl⟩,X,Z,U,k1,k2,k3⟩:=I;show Leaves P fn Y.tmps (jC P G1 R Rp) [] (settle u') V;rw[X];have g3:kO P Z fn.ntmps [D] F U Y V:=⟨k2,g2.size,g2.ds,fun i=>(g2.rep i).mono k1⟩;obtain⟨v,vs,m1,m2,r',ak,m3,m4,m5⟩:=mQ g3 fn _ k3;exact⟨v,m1,Z,ak,r',h1.trans (g1.trans k1),k2.weaken m4,m3 _ _ m2,m5⟩
 unfold LQ at I;split at I
 ·obtain⟨G',F,σ',g1,g2,g3⟩:=I;exact fin .returning G' F σ' none g1 g2 (by simp) rfl g3
 ·obtain⟨G',F,σ',g1,g2,g3⟩:=I;exact g3.elim
 ·obtain⟨G',F,σ',g1,g2,g3⟩:=I;exact fin .returning G' F σ' none g1 g2 (by simp) rfl g3
 ·obtain⟨x1,x2,G',F,σ',v,g1,g2,g3,g4⟩:=I;exact fin _ G' F σ' (some v) g1 g2 (by simp) ⟨_,x1,x2,g3,rfl⟩ g4
 ·exact I.elim
theorem ad.z3 {f:FuncId}{fn:Func}{c:Code}{args:List AV}{R v:AV→AS→Prop}(hf:P.funcs[f]? =some fn) (u:fn.body=some c) (hn:(fn.name== "runtime.NumGoroutine")=false)
 (ha:args.length≤fn.ntmps) (h:∀E,ss P fn c R v E (p8 args) σ):ad P f args σ R v:=by
 refine⟨by simp[im,hf,u,hn],fun G w vals A q=>calls_of_wp_defers hf u ?_⟩;have l:kO P G fn.ntmps [] (p8 args) σ { tmps:=vals++Array.replicate (fn.ntmps-vals.size) undef,defers:= [] } w:=by
  refine⟨A,by simp[q.1];omega,rfl,fun i=> ?_⟩;by_cases j:i<args.length
  ·have D:(vals++Array.replicate (fn.ntmps-vals.size) undef).getD i undef=vals.getD i undef:=by rw[Array.getD_eq_getD_getElem?,Array.getElem?_append_left (by rw[q.1];exact j),←Array.getD_eq_getD_getElem?]
   simp only[D];exact q.2 i j
  ·have:p8 args i= .any:=by simp[p8,List.getD_eq_getElem?_getD,List.getElem?_eq_none (Nat.le_of_not_lt j)]
   rw[this];exact .any _
 exact h G G _ w (.refl G) l
end Go.AW
