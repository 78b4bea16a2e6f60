/- A layer of abstract values over the model's machine: own work for this claim, part EvOp. -/
import Derived.Test.YtknalmoackcpbaaGreatEvRel
set_option linter.all false
open Go Go.RowKit
namespace Go.AW.Ev
variable {P:Program} {n:Nat} {ds:List Deferred} {Q:AQ}
def jQ (P:Program) (call:Call):Prop:=
 ∀f args H v o,call f args H= .ok v o→H.c≤o.c∧ ∀ρ σ0 σ l,R P ρ σ0 H σ→VL ρ args l→
  ad P f l σ (fun r σ'=> ∃j,br.le ρ j∧VR j v r∧R P j σ0 o σ') No
def sK (o:Oper) (s:AW.Fr) (K:AV→AS→Prop) (l:AW.Fr) (σ':AS):Prop:= ∃j,l=s.put o.dst j∧K j σ'
def mK (P:Program) (n:Nat) (ds:List Deferred) (Q:AQ) (o:Oper):EO→Prop
 |.nK f=> ∀(ρ:br) (F:Fr) (s:AW.Fr) (σ:AS),(∀x∈o.op.operands,XR ρ F s x)→f F≠ .any→ ∀K q:AV→AS→Prop,(∀j,VR ρ (f F) j→K j σ)→XO P o s σ K q
 |.val f=> ∀(ρ:br) (F:Fr) (s:AW.Fr) (σ:AS) (H:Hp),(∀x∈o.op.operands,XR ρ F s x)→RB P ρ H σ→f F H≠ .any→ ∀K q:AV→AS→Prop,(∀j,VR ρ (f F H) j→K j σ)→XO P o s σ K q
 |.new f=> ∀(ρ:br) (F:Fr) (s:AW.Fr) (σ:AS) (b:v7) (mk:Nat→EV) (c:Nat),(∀x∈o.op.operands,XR ρ F s x)→f F=some (b,mk)→ρ c=none→b.live=true∧ ∀K q:AV→AS→Prop,
  (∀x N w j,σ x=none→BR P (ρ.ext c (x,N)) N b w→VR (ρ.ext c (x,N)) (mk c) j→K j (σ.set x w))→XO P o s σ K q
 |.wE f=> ∀call,jQ P call→ ∀(ρ:br) (F:Fr) (s:AW.Fr) (σ0 σ:AS) (H:Hp) (v:EV) (u:Hp),(∀x∈o.op.operands,XR ρ F s x)→R P ρ σ0 H σ→f call F H= .ok v u→H.c≤u.c∧ ∀K:AV→AS→Prop,
  (∀l j σ',br.le ρ l→VR l v j→R P l σ0 u σ'→K j σ')→HE n o.dst=true→iD P n ds Q o s σ (sK o s K)
 |.bad _ =>True
theorem HD {d:Option Nat} :HE n d=true→(match d with|none=>True|some d=>d<n):=by
 cases d with
 |none=>intro _;trivial
 |some d=>intro h;unfold HE at h;simp only[dr,decide_eq_true_eq]at h;exact h
theorem XO.MB {o:Oper}{s:AW.Fr}{σ:AS}{K:AV→AS→Prop}(h:∀u,XO P o s σ K u) (q:HE n o.dst=true):iD P n ds Q o s σ (sK o s K):=
 iD.lM (HD q) fun G a w j=>(h (fun v σ'=>Q (.panic v) s σ') G a.eval w j.inv j.ev).mono (fun v σ' l=>⟨v,rfl,l⟩) (fun _ _ h=>h)
theorem CA {G:Gh}{σ:AS}{w:World}{K Pn:AV→AS→Prop}{src:TypeId}{id:Nat}{e:TypeId}{m:Nat}{es cs:List AV}{O:Value}(S:Inv P G (σ.set id (.cells e cs)) w) (h0:σ id=none)
 (V:P.underlying src=some (.slice e)) (he:P.underlying e=some (.int .u8)) (y:aU P G (.dg id 0 m m) O) (hm:es.length=m) (hl:∀v∈es,v.cells.length=P.cellsOf e) (Z:cs=aR es)
 (h:K (.ah e es .full false) σ):Out P G K Pn (((do pure (Next.value (←convert src src O))):Sem Next).run P w):=by
 subst Z;obtain⟨b,vs,k1,D,k3,k4⟩:=S.cells id e (aR es) (by simp[AS.set]);obtain⟨G',hle,l,conv⟩:=S.freeze h0 hm hl;have U:=conv _ y
 cases y with
 |dg T=>
  rw[k1]at T;obtain rfl:=Option.some.inj T;have j:=hle.inj _ _ k1;have H:=dD D;have F:Inv P G' σ { w with heap:=w.heap.setIfInBounds b (.cells vs e (vs.size,vs.size+1)) } :=by
   refine l.marked D (l.dj id b j).1 (fun i ty cs u M=> ?_) (fun t r c o et ea X J=> ?_)
   ·have:=l.eZ i id b M j;subst this;rw[h0]at u;cases u
   ·subst J;have:=(l.own t r et).2.2 c o ea (r.len*P.cellsOf r.iv) (Nat.le_refl _) X;exact this.2.2.2.1 id j
  have A:(convert src src (.slice (some ⟨b,0,none⟩) m m)).run P w= .ok (.slice (some ⟨b,0,none⟩) m m) { w with heap:=w.heap.setIfInBounds b (.cells vs e (vs.size,vs.size+1)) } :=by
   have E:w.shape? b=some (e,vs.size):=by simp[World.shape?,D]
   have I:w.freeze ⟨b,vs.size,none⟩ 1= { w with heap:=w.heap.setIfInBounds b (.cells vs e (vs.size,vs.size+1)) } :=by
    unfold World.freeze;rw[if_neg (by decide)];have Y:w.heap[b]= .cells vs e (0,0):=by have:=D;rw[Array.getElem?_eq_getElem H]at this;exact Option.some.inj this
    congr 1;apply Array.ext
    ·simp
    ·intro i h1 h2;by_cases q:b=i
     ·subst q;simp[Array.getElem_modify,Y]
     ·rw[Array.getElem_modify,if_neg q];exact(Array.getElem_setIfInBounds_ne (by simpa using h1) q).symm
   simp[convert,run_underlying V,run_underlying he,markStringish,shape,freeze,Sem.run_bind,Result.andThen,Sem.run,E,I]
  exact Out.value A hle F U h
section
variable {d:Option Nat} {ty:TypeId} {pos:String} {af:Array Edge} {g:Option (Nat×Bool)}
theorem rX {o:Oper}{f:Call→Fr→Hp→lW}(h:∀call (ρ:br) (F:Fr) (s:AW.Fr) (σ0 σ:AS) (H:Hp) (v:EV) (l:Hp),(∀x∈o.op.operands,XR ρ F s x)→R P ρ σ0 H σ→f call F H= .ok v l→H.c≤l.c∧ ∀K q:AV→AS→Prop,
 (∀j u σ',br.le ρ j→VR j v u→R P j σ0 l σ'→K u σ')→XO P o s σ K q):mK P n ds Q o (.wE f):=by
 intro call _ ρ F s σ0 σ H v l w D he;obtain⟨h1,E⟩:=h call ρ F s σ0 σ H v l w D he;exact⟨h1,fun K y A=>XO.MB (fun q=>E K q y) A⟩
theorem J5 {x:Operand} :mK P n ds Q ⟨d,.move x,ty,pos,af,g⟩ (aZ P (.move x)):=fun ρ F s σ j h0 K l h=>XO.iT (h _ (j x (by simp[Op.operands])))
theorem EY {x:Operand} :mK P n ds Q ⟨d,.assign x,ty,pos,af,g⟩ (aZ P (.assign x)):=fun ρ F s σ j h0 K l h=>XO.iT (h _ (j x (by simp[Op.operands])))
theorem J3 {c a b:Operand} :mK P n ds Q ⟨d,.pick c a b,ty,pos,af,g⟩ (aZ P (.pick c a b)):=by
 intro ρ F s σ l h0 K u h;have j:XR ρ F s c:=l c (by simp[Op.operands]);have ha:XR ρ F s a:=l a (by simp[Op.operands]);have o:XR ρ F s b:=l b (by simp[Op.operands]);refine XO.iT ?_;simp only[AW.iT];simp only at h h0;unfold XR at j;generalize (eK c).get F=q at j h h0;generalize ev s c=ac at j;cases j with
 |bool t=>cases t with
  |false=>exact h _ o
  |true=>exact h _ ha
 | _ =>exact absurd rfl h0
theorem HC {e:TypeId} :mK P n ds Q ⟨d,.alloc e,ty,pos,af,g⟩ (aZ P (.alloc e)):=by
 show mK P n ds Q _ (bif (zeroV P e).laid then _ else _);cases l:(zeroV P e).laid with
 |false=>trivial
 |true=>intro ρ F s σ b mk c q he o;simp only[Option.some.injEq,Prod.mk.injEq]at he;obtain⟨rfl,rfl⟩:=he;refine⟨rfl,fun K u h=>XO.iT ⟨lh (VR.zero (P:=P) ρ e) l,fun id j=> ?_⟩⟩;refine h id 0 _ _ j ⟨(az P e).cells,[],by simp,(((VR.zero ρ e).cells l).1).mono (br.ou o _),fun _ =>rfl,fun h=>by cases h⟩ (.ptr 0 (br.fI _ _ _))
theorem M5 {e:TypeId}{x:Operand} :mK P n ds Q ⟨d,.box e x,ty,pos,af,g⟩ (aZ P (.box e x)):=by
 intro ρ F s σ b mk c o he q;have l:XR ρ F s x:=o x (by simp[Op.operands]);simp only at he;cases hl:((eK x).get F).laid with
 |false=>rw[hl]at he;cases he
 |true=>rw[hl]at he;simp only[cond_true,Option.some.injEq,Prod.mk.injEq]at he;obtain⟨rfl,rfl⟩:=he;refine⟨rfl,fun K u h=>XO.iT ⟨lh l hl,fun id j=> ?_⟩⟩;exact h id 0 _ _ j ⟨(ev s x).cells,[],by simp,((VR.cells l hl).1).mono (br.ou q _),fun _ =>rfl,fun h=>by cases h⟩ (.ptr 0 (br.fI _ _ _))
theorem HA {t:TypeId}{ps:Array (Nat×Operand)} :mK P n ds Q ⟨d,.build t ps,ty,pos,af,g⟩ (aZ P (.build t ps)):=by
 show mK P n ds Q _ (bif cE P t&&(zeroV P t).laid then _ else _);cases j:(cE P t&&(zeroV P t).laid)with
 |false=>trivial
 |true=>simp only[Bool.and_eq_true]at j;intro ρ F s σ l h0 K q h;exact XO.iT (IF (PI.of fun p o=>l p.2 (by simp only[Op.operands,List.mem_toArray,List.mem_map];exact⟨p,o,rfl⟩)) j.1 j.2 h0 h)
theorem DL {ρ:br}{m:Nat} :∀ {ps:List (Nat×EV)}{q:List (Nat×AV)}{k:Nat}{cs:List EV},PI ρ ps q→flat m k ps=some cs→VL ρ cs (aR (q.map (·.2)))∧fR m k q=true
 |[],[],k,cs,_,h=>by simp only[flat,Option.some.injEq]at h;subst h;exact⟨.nil,rfl⟩
 |[],_ :: _,_,_,l,_ =>l.elim
 | _ :: _,[],_,_,l,_ =>l.elim
 |(i,v)::ps,(j,a)::q,k,cs,l,h=>by
  obtain⟨rfl,w,l⟩:=l;simp only[flat]at h;cases u:(Nat.beq i k&&v.laid&&jI v.cells m)with
  |false=>rw[u]at h;cases h
  |true=>rw[u]at h;simp only[cond_true,Option.map_eq_some_iff]at h;obtain⟨r,h1,rfl⟩:=h;simp only[Bool.and_eq_true,bW,decide_eq_true_eq,m0]at u;obtain⟨⟨rfl,y⟩,A⟩:=u;obtain⟨g1,g2⟩:=DL l h1;have o:=(w.cells y).1;have hlen:=o.len;refine⟨by rw[List.map_cons,fZ];exact o.app g1,?_⟩;simp only[fR,Bool.and_eq_true,beq_iff_eq];exact⟨⟨⟨trivial,lh w y⟩,by rw[←hlen];exact A⟩,g2⟩
theorem PI.len {ρ:br} :∀ {ps:List (Nat×EV)}{l:List (Nat×AV)},PI ρ ps l→ps.length=l.length
 |[],[],_ =>rfl
 |[],_ :: _,j=>j.elim
 | _ :: _,[],j=>j.elim
 | _ :: _,_ :: _,j=>by simp[PI.len j.2.2]
theorem xN {e:TypeId}(j:(zeroV P e).laid=true) (hl:jI (zeroV P e).cells (P.cellsOf e)=true):(az P e).laid=true∧(az P e).cells.length=P.cellsOf e:=by have h1:=VR.zero (P:=P) (fun _ =>none) e;refine⟨lh h1 j,?_⟩;rw[←(h1.cells j).1.len];exact(m0 _ _).1 hl
theorem wy {t:TypeId}{m:Nat}{ps:Array (Nat×Operand)} :mK P n ds Q ⟨d,.buildSlice t m ps,ty,pos,af,g⟩ (aZ P (.buildSlice t m ps)):=by
 simp only[aZ];cases D:bC P t with
 |none=>trivial
 |some e=>
  simp only;cases u:(Nat.beq (P.cellsOf e) 0|| !(zeroV P e).laid|| !jI (zeroV P e).cells (P.cellsOf e))with
  |true=>trivial
  |false=>
   simp only[Bool.or_eq_false_iff,Bool.not_eq_false',bW,decide_eq_false_iff_not]at u;obtain⟨⟨M,J⟩,I⟩:=u;obtain⟨y,v⟩:=xN J I;intro ρ F s σ b mk c A he q;have l:PI ρ (parts ps.toList F) (ps.toList.map fun p=>(p.1,ev s p.2)):=PI.of fun p l=>A p.2 (by simp only[Op.operands,List.mem_toArray,List.mem_map];exact⟨p,l,rfl⟩);simp only[sS]at he;cases j:(jI (parts ps.toList F) m&&Nat.ble (Nat.mul m (P.cellsOf e)) 16777216)with
   |false=>rw[j]at he;cases he
   |true=>
    rw[j]at he;simp only[Bool.and_eq_true,m0,iR,decide_eq_true_eq]at j;obtain⟨d1,d2⟩:=j;simp only[cond_true]at he;cases hf:flat (P.cellsOf e) 0 (parts ps.toList F)with
    |none=>rw[hf]at he;cases he
    |some cs=>rw[hf]at he;simp only[Option.some.injEq,Prod.mk.injEq]at he;obtain⟨rfl,rfl⟩:=he;obtain⟨f1,f2⟩:=DL l hf;refine⟨rfl,fun K O h G r w H E=> ?_⟩;refine js H E ?_;unfold bF;rw[D];refine⟨by rw[←l.len];exact d1,M,d2,y,v,f2,fun id o=> ?_⟩;exact h id 0 _ _ o ⟨_,[],by simp,f1.mono (br.ou q _),fun _ =>rfl,fun h=>by cases h⟩ (.we 0 m m (br.fI _ _ _))
theorem J6 {t:TypeId}{a:Operand} :mK P n ds Q ⟨d,.load t a,ty,pos,af,g⟩ (aZ P (.load t a)):=fun ρ F s σ H j l h0 K o h=>XO.iT (DB (j a (by simp[Op.operands])) l h0 h)
theorem Hv {t:TypeId}{a v:Operand} :mK P n ds Q ⟨d,.store t a v,ty,pos,af,g⟩ (aZ P (.store t a v)):=by refine rX fun call ρ F s σ0 σ H w A l u he=> ?_;have key:=fun K h=>GD (K:=K) (l a (by simp[Op.operands])) (l v (by simp[Op.operands])) u he h;obtain⟨_,q,o⟩:=key (fun _ =>True) (fun _ _ =>trivial);refine⟨by rw[o];exact Nat.le_refl _,fun K y h=>XO.iT ?_⟩;refine(key (fun σ'=>K .any σ') (fun σ' j=>h ρ _ _ (.refl ρ) ?_ j)).1;rw[q];exact .any _
theorem zU {x:Operand} :mK P n ds Q ⟨d,.nilCheck x,ty,pos,af,g⟩ (aZ P (.nilCheck x)):=fun ρ F s σ j h0 K l h=>XO.iT (Aa (j x (by simp[Op.operands])) h0 h)
theorem HB {o:BinOp}{t j:TypeId}{x y:Operand} :mK P n ds Q ⟨d,.binOp o t x y j,ty,pos,af,g⟩ (aZ P (.binOp o t x y j)):=fun ρ F s σ l h0 K q h=>XO.iT (NG (l x (by simp[Op.operands])) (l y (by simp[Op.operands])) h0 h)
theorem J2 {o:UnOp}{t:TypeId}{x:Operand} :mK P n ds Q ⟨d,.unOp o t x,ty,pos,af,g⟩ (aZ P (.unOp o t x)):=fun ρ F s σ j h0 K l h=>XO.iT (OB (j x (by simp[Op.operands])) h0 h)
theorem B8 {src dst:TypeId}{x:Operand} :mK P n ds Q ⟨d,.convert src dst x,ty,pos,af,g⟩ (aZ P (.convert src dst x)):=by
 show mK P n ds Q _ (AU P src dst (eK x));unfold AU;have o:x∈(Op.convert src dst x).operands:=by simp[Op.operands]
 split
 ·rename_i e y D;cases he:zo P e with
  |false=>trivial
  |true=>exact fun ρ F s σ H u hb h0 K T h G r w O V=>Fx O hb y D he (u x o) (V x) h0 h
 ·rename_i e y D;cases he:zo P e with
  |false=>trivial
  |true=>exact fun ρ F s σ u h0 K T h=>XO.iT (Fy y D he (u x o) h0 h)
 ·rename_i e e2 y D;cases hc:(Nat.beq src dst&&zo P e)with
  |false=>trivial
  |true=>
   simp only[Bool.and_eq_true,bW,decide_eq_true_eq]at hc;obtain⟨rfl,he⟩:=hc;obtain⟨e1,ac⟩:=xP he;refine rX fun call ρ F s σ0 σ H v H' u hR l=> ?_;have q:XR ρ F s x:=u x o;simp only[yS]at l;cases I:(eK x).get F<;>rw[I]at l<;>(try simp only at l)<;>first|(cases l;done)|skip
   rename_i i off len cap;cases off<;>cases cap<;>(try simp only at l)<;>first|(cases l;done)|skip
   rename_i c;cases S:H.get i with
   |cells E cs full=>
    rw[S]at l;cases full with
    |false=>cases l
    |true=>
     simp only at l;cases A:(Nat.beq E e&&Nat.beq len c&&Nat.beq (P.cellsOf e) 1&&jI cs len&&iy cs)with
     |false=>rw[A]at l;cases l
     |true=>
      rw[A]at l;simp only[cond_true,lW.ok.injEq]at l;obtain⟨rfl,rfl⟩:=l;simp only[Bool.and_eq_true,bW,decide_eq_true_eq,m0]at A;obtain⟨⟨⟨⟨rfl,rfl⟩,d3⟩,d4⟩,d5⟩:=A;refine⟨Nat.le_refl _,fun K T h=> ?_⟩;unfold XR at q;rw[I]at q;generalize X:ev s x=ax at q;cases q with
      |we _ _ _ hp=>
       rename_i a N;have M:(H.get i).live=true:=by rw[S];rfl
       obtain⟨ab,h1,h2⟩:=hR.rb.at hp M;rw[S]at h2;obtain⟨as,ar,rfl,Z,h4,h5⟩:=h2;obtain rfl:=h4 rfl;rw[List.append_nil]at h1;obtain⟨o1,o2⟩:=Z.kh d5;have U:σ=AS.set (fun j=>if j=a then none else σ j) a (.cells E as):=by rw[BK,AS.uB _ _ _ h1]
       have Y:=hR.dropped hp M;intro G r w O V;have J:=V x;rw[X]at J;rw[U]at O;exact CA O (by simp) y e1 J (by rw[←Z.len];exact d4) (fun v hv=>by rw[o1 v hv,ac];rfl) (Fh o1).symm (h ρ _ _ (.refl ρ) (VR.te true Z) Y)
   | _ =>rw[S]at l;cases l
 ·rename_i y D;exact fun ρ F s σ u h0 K T h=>XO.iT (Iy y D (u x o) h0 h)
 ·rename_i k0 k y D;exact fun ρ F s σ u h0 K T h=>XO.iT (IA y D (u x o) h0 h)
 ·trivial
theorem rI {t:TypeId}{x:Operand} :mK P n ds Q ⟨d,.makeInterface t x,ty,pos,af,g⟩ (aZ P (.makeInterface t x)):=by
 show mK P n ds Q _ (bif P.concrete t then _ else _);cases l:P.concrete t with
 |false=>trivial
 |true=>exact fun ρ F s σ j h0 K o h=>XO.iT ⟨l,h _ (.lq t (j x (by simp[Op.operands])))⟩
theorem zV {f:Fn}{first cap:Array Operand} :mK P n ds Q ⟨d,.makeFunc f first cap,ty,pos,af,g⟩ (aZ P (.makeFunc f first cap)):=by
 simp only[aZ];cases f with
 |func f=>exact fun ρ F s σ j h0 K l h=>XO.iT (h _ (VR.L7 (VL.mW fun x hm=>j x (by simp[Op.operands];exact .inl (by simpa using hm))) (VL.mW fun x hm=>j x (by simp[Op.operands];exact .inr (by simpa using hm)))))
 | _ =>trivial
theorem B6 {t:TypeId}{r:Option Operand} :mK P n ds Q ⟨d,.makeMap t r,ty,pos,af,g⟩ (aZ P (.makeMap t r)):=by
 cases r with
 |some x=>trivial
 |none=>intro ρ F s σ b mk c l he o;simp only[Option.some.injEq,Prod.mk.injEq]at he;obtain⟨rfl,rfl⟩:=he;exact⟨rfl,fun K q h=>XO.iT ⟨rfl,fun id j=>h id 0 _ _ j ⟨[],rfl,trivial,.inl ⟨[],rfl⟩⟩ (.mp (br.fI _ _ _))⟩⟩
theorem EW {t:TypeId}{x i:Operand}{ok:Bool} :mK P n ds Q ⟨d,.lookup t x i ok,ty,pos,af,g⟩ (aZ P (.lookup t x i ok)):=by
 simp only[aZ];split
 ·rename_i q y hu;cases j:(wz P q&&(zeroV P y).laid)with
  |false=>trivial
  |true=>simp only[Bool.and_eq_true]at j;exact fun ρ F s σ H l v h0 K A h G r w u o=>E6 u v hu j.1 j.2 (l x (by simp[Op.operands])) (l i (by simp[Op.operands])) (o x) (o i) h0 h
 ·trivial
theorem yn {t:TypeId}{x i v:Operand} :mK P n ds Q ⟨d,.mapUpdate t x i v,ty,pos,af,g⟩ (aZ P (.mapUpdate t x i v)):=by
 simp only[aZ];split
 ·rename_i q O hu;cases y:wz P q with
  |false=>trivial
  |true=>
   refine rX fun call ρ F s σ0 σ H J T l A he=> ?_;have I:XR ρ F s x:=l x (by simp[Op.operands]);have E:XR ρ F s i:=l i (by simp[Op.operands]);have D:XR ρ F s v:=l v (by simp[Op.operands]);refine⟨?_,fun K S h G r w u o=>(Em u A hu y I E D (o x) (o i) (o v) he).2 h⟩;simp only[jo]at he;split at he
   ·split at he
    ·rename_i es M;cases j:(gN (rP P q) (H4 ((eK i).get F))&&(H4 ((eK i).get F)||I8 ((eK i).get F)))with
     |false=>rw[j]at he;cases he
     |true=>
      rw[j]at he;simp only[cond_true]at he;split at he
      ·simp only[lW.ok.injEq]at he;rw[←he.2];exact Nat.le_refl _
      ·cases he
    ·cases he
   ·cases he
 ·trivial
theorem Hw {t:TypeId}{x:Operand} :mK P n ds Q ⟨d,.range t x,ty,pos,af,g⟩ (aZ P (.range t x)):=by
 show mK P n ds Q _ (bif isStr P t then _ else _);cases l:isStr P t with
 |false=>trivial
 |true=>
  have hu:P.underlying t=some .string:=by
   unfold isStr at l;split at l
   ·assumption
   ·cases l
  intro ρ F s σ b mk c q he v;have j:XR ρ F s x:=q x (by simp[Op.operands]);simp only[DN]at he;split at he
  ·rename_i w u;simp only[Option.some.injEq,Prod.mk.injEq]at he;obtain⟨rfl,rfl⟩:=he;refine⟨rfl,fun K A h=>XO.iT ?_⟩;simp only[AW.iT];unfold XR at j;rw[u]at j;generalize ev s x=y at j;cases j;exact⟨hu,fun id o=>h id 0 _ _ o rfl (.ptr 0 (br.fI _ _ _))⟩
  ·cases he
theorem J4 {it:Operand}{str:Bool} :mK P n ds Q ⟨d,.next it str,ty,pos,af,g⟩ (aZ P (.next it str)):=by
 cases str with
 |false=>trivial
 |true=>refine rX fun call ρ F s σ0 σ H q v o j he=> ?_;have l:XR ρ F s it:=o it (by simp[Op.operands]);have key:=fun K h=>Dx (K:=K) j l he|>.2 h;exact⟨(Dx (K:=fun _ _ =>True) j l he).1,fun K u h=>XO.iT (key K h)⟩
theorem yo {t:TypeId}{l c:Operand} :mK P n ds Q ⟨d,.makeSlice t l c,ty,pos,af,g⟩ (aZ P (.makeSlice t l c)):=by
 simp only[aZ];cases M:bC P t with
 |none=>trivial
 |some e=>
  simp only;cases y:(Nat.beq (P.cellsOf e) 0|| !(zeroV P e).laid|| !jI (zeroV P e).cells (P.cellsOf e))with
  |true=>trivial
  |false=>
   simp only[Bool.or_eq_false_iff,Bool.not_eq_false',bW,decide_eq_false_iff_not]at y;obtain⟨⟨T,D⟩,S⟩:=y;obtain⟨G,E⟩:=xN D S;intro ρ F s σ b mk X w he u;have hl:XR ρ F s l:=w l (by simp[Op.operands]);have j:XR ρ F s c:=w c (by simp[Op.operands]);simp only[vC]at he;unfold XR at hl j;generalize (eK l).get F=I at hl he;generalize (eK c).get F=O at j he;cases I<;>first|(cases he;done)|skip
   rename_i k1 J;cases J<;>first|(cases he;done)|skip
   rename_i m;cases O<;>first|(cases he;done)|skip
   rename_i V U;cases U<;>first|(cases he;done)|skip
   rename_i H;simp only at he;cases o:(Nat.beq m H&&Nat.ble m 1000000&&Nat.ble (Nat.mul (P.bytesOf e) m) 8000000)with
   |false=>rw[o]at he;cases he
   |true=>rw[o]at he;simp only[cond_true,Option.some.injEq,Prod.mk.injEq]at he;obtain⟨rfl,rfl⟩:=he;simp only[Bool.and_eq_true,bW,iR,decide_eq_true_eq]at o;obtain⟨⟨rfl,d2⟩,d3⟩:=o;refine⟨rfl,fun K Z h=>XO.iT ?_⟩;simp only[AW.iT];generalize ev s l=Y at hl;generalize ev s c=ac at j;cases hl;cases j;unfold iz;rw[M];have v:P.bytesOf e*m≤8000000:=d3;refine⟨rfl,by show(0:Int)≤(m:Int);omega,by show(m:Int)≤1000000;omega,T,by have A:((P.bytesOf e*m:Nat):Int)≤((8000000:Nat):Int):=Int.ofNat_le.2 v;rw[Int.natCast_mul]at A;exact A,G,E,fun id q=> ?_⟩;exact h id 0 _ _ q ⟨_,[],by simp,((yg ((VR.zero ρ e).cells D).1 m).mono (br.ou u _)),fun _ =>rfl,fun h=>by cases h⟩ (.we 0 m m (br.fI _ _ _))
theorem Ds {ρ:br}{F:Fr}{s:AW.Fr}{o:Option Operand}(h:∀x∈o,XR ρ F s x):(od (o.map eK) F=none∧o.map (ev s)=none)∨ ∃v a,od (o.map eK) F=some v∧o.map (ev s)=some a∧VR ρ v a:=by
 cases o with
 |none=>exact .inl ⟨rfl,rfl⟩
 |some x=>exact .inr ⟨_,_,rfl,rfl,h x rfl⟩
theorem ok_slice {t:TypeId}{x:Operand}{lo q mx:Option Operand} :mK P n ds Q ⟨d,.slice t x lo q mx,ty,pos,af,g⟩ (aZ P (.slice t x lo q mx)):=by
 simp only[aZ];cases mx with
 |some m=>trivial
 |none=>
  simp only;split
  ·rename_i hu;exact fun ρ F s σ l h0 K H h=>XO.iT (Er hu (l x (by simp[Op.operands])) (Ds fun y j=>l y (by simp[Op.operands];simp at j;simp[j])) (Ds fun y j=>l y (by simp[Op.operands];simp at j;simp[j])) h0 h)
  ·rename_i e hu;cases A:Nat.beq (P.cellsOf e) 0 with
   |true=>trivial
   |false=>
    rw[bW]at A;simp only[decide_eq_false_iff_not]at A;intro ρ F s σ l h0 K H h G r w u D;have rel:∀o:Option Operand,(∀y∈o,y∈(Op.slice t x lo q none).operands)→(od (o.map eK) F=none∧o.map (ev s)=none∧o.map r=none)∨ ∃v a b,od (o.map eK) F=some v∧o.map (ev s)=some a∧o.map r=some b∧VR ρ v a∧aU P G a b:=by
     intro o E;cases o with
     |none=>exact .inl ⟨rfl,rfl,rfl⟩
     |some y=>exact .inr ⟨_,_,_,rfl,rfl,rfl,l y (E y rfl),D y⟩
    exact Ep u hu A (l x (by simp[Op.operands])) (D x) (rel lo fun y j=>by simp[Op.operands];simp at j;simp[j]) (rel q fun y j=>by simp[Op.operands];simp at j;simp[j]) h0 h
  ·trivial
theorem yq {t f:Nat}{x:Operand} :mK P n ds Q ⟨d,.fieldAddr t x f,ty,pos,af,g⟩ (aZ P (.fieldAddr t x f)):=by
 simp only[aZ];split
 ·rename_i fs hu;exact fun ρ F s σ j h0 K l h=>XO.iT (yK hu (j x (by simp[Op.operands])) h0 h)
 ·trivial
theorem Hy {t f:Nat}{x:Operand} :mK P n ds Q ⟨d,.field t x f,ty,pos,af,g⟩ (aZ P (.field t x f)):=fun ρ F s σ j h0 K l h=>XO.iT (qS (j x (by simp[Op.operands])) h0 h)
theorem yp {t:Nat}{x i:Operand} :mK P n ds Q ⟨d,.indexAddr t x i,ty,pos,af,g⟩ (aZ P (.indexAddr t x i)):=by
 simp only[aZ];split
 ·rename_i e hu;cases j:Nat.beq (P.cellsOf e) 0 with
  |true=>trivial
  |false=>rw[bW]at j;simp only[decide_eq_false_iff_not]at j;exact fun ρ F s σ l h0 K o h=>XO.iT (yD hu j (l x (by simp[Op.operands])) (l i (by simp[Op.operands])) h0 h)
 ·rename_i m e hu;cases j:Nat.beq (P.cellsOf e) 0 with
  |true=>trivial
  |false=>rw[bW]at j;simp only[decide_eq_false_iff_not]at j;exact fun ρ F s σ l h0 K o h=>XO.iT (Ar hu j (l x (by simp[Op.operands])) (l i (by simp[Op.operands])) h0 h)
 ·trivial
theorem Hx {t:Nat}{x i:Operand} :mK P n ds Q ⟨d,.index t x i,ty,pos,af,g⟩ (aZ P (.index t x i)):=by
 simp only[aZ];split
 ·rename_i m e hu;exact fun ρ F s σ j h0 K l h=>XO.iT (vn hu (j x (by simp[Op.operands])) (j i (by simp[Op.operands])) h0 h)
 ·rename_i hu;exact fun ρ F s σ j h0 K l h=>XO.iT (E9 hu (j x (by simp[Op.operands])) (j i (by simp[Op.operands])) h0 h)
 ·trivial
theorem B7 {x:Operand}{i:Nat} :mK P n ds Q ⟨d,.extract x i,ty,pos,af,g⟩ (aZ P (.extract x i)):=fun ρ F s σ j h0 K l h=>XO.iT (Cs (j x (by simp[Op.operands])) h0 h)
theorem wv {x:Operand}{t u:TypeId}{ok:Bool} :mK P n ds Q ⟨d,.typeAssert x t u ok,ty,pos,af,g⟩ (aZ P (.typeAssert x t u ok)):=by
 show mK P n ds Q _ (bif ok&&(zeroV P u).laid&&o6 P u then _ else _);cases E:(ok&&(zeroV P u).laid&&o6 P u)with
 |false=>trivial
 |true=>
  simp only[Bool.and_eq_true]at E;obtain⟨⟨rfl,H⟩,hn⟩:=E;intro ρ F s σ I h0 K T h G r w D J;have j:XR ρ F s x:=I x (by simp[Op.operands]);have l:=J x;simp only[AJ]at h h0;unfold XR at j;generalize (eK x).get F=M at j h h0;generalize ev s x=S at j l;cases j with
  |sc v=>
   cases v<;>first|exact absurd rfl h0|skip
   case nilIface=>
    show Out P G _ _ ((do pure (Next.value (←Instr.typeAssert (r x) t u true)):Sem Next).run P w);generalize r x=O at l;cases l;obtain⟨it,z,A,q,y⟩:=cR (lh (VR.zero (P:=P) ρ u) H);cases hu:P.underlying u with
    |none=>simp[o6,hu]at hn
    |some td=>
     have o:(Instr.typeAssert .nilIface t u true).run P w= .ok (.tuple #[z,.bool false]) w:=by cases td<;>first|(simp[o6,hu]at hn;done)|simp[Instr.typeAssert,Sem.run_bind,run_underlying hu,Result.andThen,zeroValue,run_typeInfo w A,q]
     refine Out.value o (.refl G) D ?_ (h _ (VR.By (.cons (VR.zero ρ u) (.cons (.bool false) .nil))));refine .cp [z,.bool false] rfl fun i D=> ?_
     match i,D with
     |0,_ =>rw[show([az P u,AV.sc (.bool false)]).getD 0 .any=az P u from rfl,y];exact fq z
     |1,_ =>exact .sc _
  | _ =>exact absurd rfl h0
end
end Go.AW.Ev
namespace Go.AW.Ev
variable {P:Program} {n:Nat} {ds:List Deferred} {Q:AQ}
theorem nk {b:Bool}{x:lW}{w:Nat}{v:EV}{H:Hp}(h:(bif b then x else .fail w)= .ok v H):b=true∧x= .ok v H:=by
 cases b with
 |false=>cases h
 |true=>exact⟨rfl,h⟩
theorem yZ {e l be:Nat}{src:Option (Nat×List EV)}{s v:EV}{H j:Hp}(h:A6 e l be src s H= .ok v j):H.c≤j.c:=by
 have new:∀ {H1:Hp} {b:v7} {x:EV},lW.ok x (H1.new b)= .ok v j→j.c=H1.c+1:=by intro H1 b x h;simp only[lW.ok.injEq]at h;rw[←h.2];rfl
 unfold A6 at h;cases src with
 |none=>cases h
 |some p=>
  obtain⟨m,xs⟩:=p;simp only at h;cases s<;>(try simp only at h)<;>first|(cases h;done)|skip
  case aC=>
   cases hn:Nat.beq m 0 with
   |true=>rw[hn]at h;simp only[cond_true,lW.ok.injEq]at h;rw[←h.2];exact Nat.le_refl _
   |false=>rw[hn]at h;obtain⟨_,h⟩:=nk h;rw[new h];omega
  case sl i off len cap=>
   split at h
   ·split at h
    ·cases h
    ·obtain⟨_,h⟩:=nk h;cases cap with
     |rest d=>obtain⟨_,h⟩:=nk h;rw[new h];exact Nat.le_succ _
     |kn c=>
      simp only at h;cases hl:Nat.ble (Nat.add len m) c with
      |true=>
       rw[hl]at h;simp only[cond_true]at h;split at h
       ·simp only[lW.ok.injEq]at h;rw[←h.2];exact Nat.le_refl _
       ·cases h
      |false=>rw[hl]at h;simp only[cond_false]at h;rw[new h];omega
   ·cases h
  case ah o es full=>
   cases full with
   |false=>cases h
   |true=>obtain⟨_,h⟩:=nk h;rw[new h];omega
section
variable {d:Option Nat} {ty:TypeId} {pos:String} {af:Array Edge} {g:Option (Nat×Bool)}
theorem Hz {f:Operand}{args:Array Operand}{l:Array TypeId} :mK P n ds Q ⟨d,.call ⟨.value f,args,l⟩,ty,pos,af,g⟩ (aZ P (.call ⟨.value f,args,l⟩)):=by
 intro call dJ ρ F s σ0 σ H v M y A he;have hf:XR ρ F s f:=y f (by simp[Op.operands,Go.Call.operands]);have ha:VL ρ (mW args.toList F) (args.toList.map (ev s)):=VL.mW fun x hm=>y x (by simp[Op.operands,Go.Call.operands];exact .inr (by simpa using hm));simp only[Ir]at he;split at he
 ·rename_i S first cap u
  obtain⟨I,w⟩:=dJ _ _ _ _ _ he;refine⟨I,fun K h G=>iD.step ⟨HD G,?_⟩⟩;show aj P (ev s f) (args.toList.map (ev s)) σ _ _;unfold XR at hf;rw[u]at hf;generalize ev s f=O at hf;have fin:∀r σ',(∃j,br.le ρ j∧VR j v r∧R P j σ0 M σ')→sK ⟨d,.call ⟨.value f,args,l⟩,ty,pos,af,g⟩ s K (s.put d r) σ':=by rintro r σ' ⟨j,g1,g2,g3⟩;exact⟨r,rfl,h j r σ' g1 g2 g3⟩
  cases hf with
  |Cq _ =>simp only[List.nil_append,List.append_nil]at w;exact aj.of (w ρ σ0 σ _ A ha) fin (fun _ _ h=>h.elim)
  |fn E q D o=>rename_i as J;have:=w ρ σ0 σ (as++args.toList.map (ev s)++J) A (((VL.of E q).app ha).app (VL.of D o));exact⟨_,_,this,fin,fun _ _ h=>h.elim⟩
 ·cases he
theorem C8 {α:Type}{a:Array α}{x y:α}(h:a.toList= [x,y]):a= #[x,y]:=by apply Array.ext';simpa using h
theorem qf {b:Builtin}{args:Array Operand}{j:Array TypeId}{s:AW.Fr}{σ:AS}{K l:AV→AS→Prop}(h:bA P σ b j.toList (args.toList.map (ev s)) K):AW.iT P s σ K l (.call ⟨.builtin b,args,j⟩):=h
theorem rJ {t q:TypeId}{a b:Operand}{args:Array Operand}{o:Array TypeId}(h1:args.toList= [a,b]) (S:o.toList= [t,q]) {e:TypeId}(he:bC P t=some e) (y:P.cellsOf e≠0) (v:(az P e).laid=true) (u:(az P e).cells.length=P.cellsOf e)
 {src:Fr→Hp→Option (Nat×List EV)} (j:∀(ρ:br) (F:Fr) (s:AW.Fr) (σ:AS) (H:Hp) (G:Gh) (w:World) (A:Value),Inv P G σ w→RB P ρ H σ→XR ρ F s b→aU P G (ev s b) A→ ∀m xs,src F H=some (m,xs)→CZ P ρ G w e q A m xs):
 mK P n ds Q ⟨d,.call ⟨.builtin .append,args,o⟩,ty,pos,af,g⟩ (.wE fun _ F H=>A6 e (P.cellsOf e) (P.bytesOf e) (src F H) ((eK a).get F) H):=by
 obtain rfl:=C8 h1;obtain rfl:=C8 S;refine rX fun call ρ F s σ0 σ H U X D J l=>⟨yZ l,fun K V h G r w I E=> ?_⟩;have ha:XR ρ F s a:=D a (by simp[Op.operands,Go.Call.operands]);have O:XR ρ F s b:=D b (by simp[Op.operands,Go.Call.operands]);show Out P G _ _ ((do let d ←resolve r ⟨.builtin .append,#[a,b],#[t,q]⟩ ty;invoke d.target d.args:Sem Next).run P w);simp only[resolve,Sem.run_bind,Sem.run_pure,Result.andThen_ok,invoke];have T:(#[a,b]:Array Operand).map r= #[r a,r b]:=by simp
 rw[T];exact(NO I J he y v u ha (E a) (fun m xs M=>j ρ F s σ H G w (r b) I J.rb O (E b) m xs M) l).2 h
theorem DS {e l:Nat}{src:Option (Nat×List EV)}{s v:EV}{H j:Hp}(h:AM e l src s H= .ok v j):H.c≤j.c:=by
 unfold AM at h;split at h
 ·split at h
  ·split at h
   ·split at h
    ·simp only[lW.ok.injEq]at h;rw[←h.2];exact Nat.le_refl _
    ·cases h
   ·cases h
  ·cases h
 ·cases h
theorem O9 {b:Builtin}{args:Array Operand}{E:Array TypeId} :mK P n ds Q ⟨d,.call ⟨.builtin b,args,E⟩,ty,pos,af,g⟩ (aZ P (.call ⟨.builtin b,args,E⟩)):=by
 show mK P n ds Q _ (oJ P ⟨.builtin b,args,E⟩);simp only[oJ];split
 ·rename_i x t h1 u;have I:x∈(Op.call ⟨.builtin .len,args,E⟩).operands:=by
   simp only[Op.operands,Go.Call.operands];have:x∈args.toList:=by rw[h1];simp
   simpa using this
  split
  ·rename_i e hu;exact fun ρ F s σ j h0 K M h=>XO.iT (qf (by rw[h1,u];exact Kk hu (j x I) h0 h))
  ·rename_i hu;exact fun ρ F s σ j h0 K M h=>XO.iT (qf (by rw[h1,u];exact Kj hu (j x I) h0 h))
  ·rename_i m e hu;exact fun ρ F s σ j h0 K M h=>XO.iT (qf (by rw[h1,u];show iE P σ t (ev s x) (fun v=>K v σ);unfold iE;rw[hu];exact h _ (.int _ _)))
  ·rename_i k v hu;exact fun ρ F s σ H j X h0 K M h=>XO.iT (qf (by rw[h1,u];exact Km hu (j x I) X h0 h))
  ·trivial
 ·rename_i a x t tx h1 u;split
  ·rename_i e he;cases J:(!Nat.beq (P.cellsOf e) 0&&(zeroV P e).laid&&jI (zeroV P e).cells (P.cellsOf e))with
   |false=>trivial
   |true=>
    simp only[Bool.and_eq_true,Bool.not_eq_true',bW,decide_eq_false_iff_not]at J;obtain⟨⟨Z,c2⟩,c3⟩:=J;obtain⟨Y,O⟩:=xN c2 c3;simp only[cond_true];split
    ·rename_i A hu;exact rJ (src:=fun F H=>Eo e (P.cellsOf e) ((eK x).get F) H) h1 u he Z Y O fun ρ F s σ H G w vx U X j T m xs S=>Ms U X hu j T S
    ·rename_i hu;cases ab:zo P e with
     |false=>trivial
     |true=>exact rJ (src:=fun F H=>Js ((eK x).get F)) h1 u he Z Y O fun ρ F s σ H G w vx U X j T m xs S=>Mr U Y O hu ab j T S
    ·rename_i k0 hu;cases ac:Nat.ble (P.bytesOf e) 1000 with
     |false=>trivial
     |true=>exact rJ (src:=fun F H=>Jt (zeroV P e).cells ((eK x).get F)) h1 u he Z Y O fun ρ F s σ H G w vx U X j T m xs S=>Mu U Z c2 O hu (Nat.le_of_ble_eq_true ac) j T S
    ·trivial
  ·trivial
 ·rename_i a x t t2 h1 u;split
  ·rename_i e he;cases J:Nat.beq (P.cellsOf e) 0 with
   |true=>trivial
   |false=>
    rw[bW]at J;simp only[decide_eq_false_iff_not]at J;have q:a∈args.toList:=by rw[h1];simp
    have o:x∈args.toList:=by rw[h1];simp
    refine rX fun call ρ F s σ0 σ H v' H' j hR V=>⟨DS V,fun K M h=>XO.iT (qf ?_)⟩;rw[h1,u];exact(KQ hR he J (j a (by simp only[Op.operands,Go.Call.operands];simpa using q)) (j x (by simp only[Op.operands,Go.Call.operands];simpa using o)) V).2 h
  ·trivial
 ·rename_i x y h1;have q:x∈args.toList:=by rw[h1];simp
  have o:y∈args.toList:=by rw[h1];simp
  intro ρ F s σ j h0 K M h;have A:XR ρ F s x:=j x (by simp only[Op.operands,Go.Call.operands];simpa using q);have D:XR ρ F s y:=j y (by simp only[Op.operands,Go.Call.operands];simpa using o);refine XO.iT (qf ?_);rw[h1];show bA P σ .min _ [ev s x,ev s y] K;simp only[ua]at h h0;unfold XR at A D;generalize (eK x).get F=xv at A h h0;generalize (eK y).get F=yv at D h h0;generalize ev s x=ax at A;generalize ev s y=ay at D;cases A<;>first|exact absurd rfl h0|skip
  cases D<;>first|exact absurd rfl h0|skip
  rename_i k a k' b;show K (.sc (.int k (if b<a then b else a))) σ;have:=h _ (.int _ _);simp only[rN]at this;by_cases l:b<a
  ·simpa[l]using this
  ·simpa[l]using this
 ·rename_i x y h1;have q:x∈args.toList:=by rw[h1];simp
  have o:y∈args.toList:=by rw[h1];simp
  intro ρ F s σ j h0 K M h;have A:XR ρ F s x:=j x (by simp only[Op.operands,Go.Call.operands];simpa using q);have D:XR ρ F s y:=j y (by simp only[Op.operands,Go.Call.operands];simpa using o);refine XO.iT (qf ?_);rw[h1];show bA P σ .max _ [ev s x,ev s y] K;simp only[ua]at h h0;unfold XR at A D;generalize (eK x).get F=xv at A h h0;generalize (eK y).get F=yv at D h h0;generalize ev s x=ax at A;generalize ev s y=ay at D;cases A<;>first|exact absurd rfl h0|skip
  cases D<;>first|exact absurd rfl h0|skip
  rename_i k a k' b;show K (.sc (.int k (if a<b then b else a))) σ;have:=h _ (.int _ _);simp only[rN]at this;by_cases l:a<b
  ·simpa[l]using this
  ·simpa[l]using this
 ·trivial
theorem LS (o:Oper):mK P n ds Q o (aZ P o.op):=by
 obtain⟨d,op,ty,pos,af,g⟩:=o;cases op<;>first|exact trivial|skip
 case move=>exact J5
 case assign=>exact EY
 case pick=>exact J3
 case alloc=>exact HC
 case box=>exact M5
 case build=>exact HA
 case buildSlice=>exact wy
 case load=>exact J6
 case store=>exact Hv
 case nilCheck=>exact zU
 case binOp=>exact HB
 case unOp=>exact J2
 case convert=>exact B8
 case makeInterface=>exact rI
 case makeFunc=>exact zV
 case makeMap=>exact B6
 case lookup=>exact EW
 case mapUpdate=>exact yn
 case range=>exact Hw
 case next=>exact J4
 case makeSlice=>exact yo
 case slice=>exact ok_slice
 case fieldAddr=>exact yq
 case field=>exact Hy
 case indexAddr=>exact yp
 case index=>exact Hx
 case extract=>exact B7
 case typeAssert=>exact wv
 case call c=>
  obtain⟨callee,args,j⟩:=c;cases callee with
  |value f=>exact Hz
  |builtin b=>exact O9
  |invoke r m=>exact trivial
end
end Go.AW.Ev
namespace Go.AW.Ev
variable {P:Program} {n:Nat} {ds:List Deferred} {Q:AQ}
def I5 (e:EO) (call:Call) (F:Fr) (V H:Hp) (v:EV) (j:Hp):Prop:=
 match e with
 |.nK f=>f F=v∧v≠ .any∧j=H
 |.val f=>f F V=v∧v≠ .any∧j=H
 |.new f=> ∃b mk,f F=some (b,mk)∧H.c<32768∧v=mk H.c∧j=H.new b
 |.wE f=>f call F H= .ok v j
 |.bad _ =>False
def nE (P:Program) (call:Call) (o:Oper) (F:Fr) (V H:Hp) (v:EV) (j:Hp):Prop:=I5 (aZ P o.op) call F V H v j
def Bl (ops:Array Oper) (o:Oper) (F:Fr):Option Bool:=
 match o.guard with
 |none=>some true
 |some (j,want)=>match (gd ops j).get F with
  |.bool b=>some (gN b want)
  |.sc (.tuple _)=>some false
  | _ =>none
theorem Fc {α:Type}(n:Int) (r:α):Cp n r=r:=by cases n<;>simp only[Cp]<;>(cases Nat.beq _ _ <;>rfl)
theorem force_eq (v:EV) (r:CR):force v r=r:=by cases v<;>simp only[force]<;>first|rfl|exact Fc _ _ |(cases Nat.beq _ _ <;>rfl)|(rename_i b;cases b<;>rfl)
theorem zw {e:EO}{u:Nat→Nat}{call:Call}{F:Fr}{V H:Hp}{k:EV→Hp→CR}{r:CR}(h:e.step u call F V H k=r) (j:∀w,r≠ .fail w):
 ∃v l,r=k v l∧I5 e call F V H v l:=by
 cases e with
 |nK f=>
  simp only[EO.step]at h;split at h
  ·exact absurd h.symm (j _)
  ·rename_i o;rw[force_eq]at h;exact⟨f F,H,h.symm,rfl,o,rfl⟩
 |val f=>
  simp only[EO.step]at h;split at h
  ·exact absurd h.symm (j _)
  ·rename_i o;rw[force_eq]at h;exact⟨f F V,H,h.symm,rfl,o,rfl⟩
 |new f=>
  simp only[EO.step]at h;split at h
  ·rename_i b mk hf;rw[dr]at h;by_cases q:H.c<32768
   ·simp only[q,decide_true,cond_true]at h;exact⟨mk H.c,H.new b,h.symm,b,mk,hf,q,rfl,rfl⟩
   ·simp only[q,decide_false,cond_false]at h;exact absurd h.symm (j _)
  ·exact absurd h.symm (j _)
 |wE f=>
  simp only[EO.step]at h;split at h
  ·rename_i v l hf;rw[force_eq]at h;exact⟨v,l,h.symm,hf⟩
  ·exact absurd h.symm (j _)
 |bad w=>exact absurd h.symm (j _)
theorem qC {fid bj:Nat}{ops:Array Oper}{o:Oper}{call:Call}{F:Fr}{V H:Hp}{k:Fr→Hp→EV→CR}{r:CR}(h:(g8 P fid bj n ops o).run call F V H k=r) (y:∀w,r≠ .fail w):
 HE n o.dst=true∧ ∃b,Bl ops o F=some b∧(b=true→ ∃v l,nE P call o F V H v l∧r=k (gS o.dst v F) l v)∧(b=false→r=k (gS o.dst pH F) H pH):=by
 unfold g8 at h;simp only at h;cases E:HE n o.dst with
 |false=>rw[E]at h;exact absurd h.symm (y _)
 |true=>
  rw[E]at h;simp only[cond_true]at h;refine⟨rfl,?_⟩;cases u:o.guard with
  |none=>rw[u]at h;simp only at h;obtain⟨v,l,h1,D⟩:=zw h y;exact⟨true,by simp[Bl,u],fun _ =>⟨v,l,D,h1⟩,fun h=>by cases h⟩
  |some q=>
   obtain⟨j,want⟩:=q;rw[u]at h;simp only at h;split at h
   ·rename_i b A;refine⟨gN b want,by simp[Bl,u,A],fun e=> ?_,fun e=> ?_⟩
    ·rw[e]at h;simp only[cond_true]at h;obtain⟨v,l,h1,D⟩:=zw h y;exact⟨v,l,D,h1⟩
    ·rw[e]at h;exact h.symm
   ·rename_i vs A;exact⟨false,by simp[Bl,u,A],(fun e=>by cases e),fun _ =>h.symm⟩
   ·exact absurd h.symm (y _)
theorem nU {o:Oper}{s:AW.Fr}{σ:AS}{K l:AW.Fr→AS→Prop}(h:iD P n ds Q o s σ K) (u:∀j σ',K j σ'→l j σ'):iD P n ds Q o s σ l:=
 fun G0 G a w hle q next hn=>h G0 G a w hle q next fun G' j σ' A w' h1 y v=>hn G' j σ' A w' h1 y (u _ _ v)
theorem Ip {m:Nat}{x v r:EV}{H j:Hp}(h:vz m x v H= .ok r j):H.c≤j.c:=by
 unfold vz at h;split at h
 ·split at h
  ·obtain⟨_,h⟩:=nk h;split at h
   ·simp only[lW.ok.injEq]at h;rw[←h.2];exact Nat.le_refl _
   ·cases h
  ·cases h
 ·cases h
theorem IB {e:TypeId}{l:Nat}{x r:EV}{H j:Hp}(h:yS e l x H= .ok r j):H.c≤j.c:=by
 unfold yS at h;split at h
 ·split at h
  ·obtain⟨_,h⟩:=nk h;simp only[lW.ok.injEq]at h;rw[←h.2];exact Nat.le_refl _
  ·cases h
 ·cases h
theorem yM {l:Bool}{x k v r:EV}{H j:Hp}(h:jo l x k v H= .ok r j):H.c≤j.c:=by
 unfold jo at h;split at h
 ·split at h
  ·obtain⟨_,h⟩:=nk h;split at h
   ·simp only[lW.ok.injEq]at h;rw[←h.2];exact Nat.le_refl _
   ·cases h
  ·cases h
 ·cases h
theorem Iq {x r:EV}{H l:Hp}(h:vB x H= .ok r l):H.c≤l.c:=by
 unfold vB at h;split at h
 ·split at h
  ·rename_i b pos _;cases j:Nat.blt pos b.size with
   |true=>rw[j]at h;simp only[cond_true,lW.ok.injEq]at h;rw[←h.2];exact Nat.le_refl _
   |false=>rw[j]at h;simp only[cond_false,lW.ok.injEq]at h;rw[←h.2];exact Nat.le_refl _
  ·cases h
 ·cases h
def Bm (P:Program):EO→Prop
 |.wE f=> ∀call,jQ P call→ ∀F H v j,f call F H= .ok v j→H.c≤j.c
 | _ =>True
theorem RH (op:Op):Bm P (aZ P op):=by
 cases op<;>first|exact trivial|skip
 case alloc e=>show Bm P (bif _ then _ else _);cases (zeroV P e).laid<;>exact trivial
 case build t ps=>show Bm P (bif _ then _ else _);cases (cE P t&&(zeroV P t).laid)<;>exact trivial
 case buildSlice t m ps=>
  simp only[aZ];split
  ·cases (Nat.beq (P.cellsOf _) 0|| !(zeroV P _).laid|| !jI (zeroV P _).cells (P.cellsOf _))<;>exact trivial
  ·trivial
 case store t a v=>exact fun call _ F H v j h=>Ip h
 case convert src dst x=>
  show Bm P (AU P src dst (eK x));unfold AU;split
  ·cases zo P _ <;>exact trivial
  ·cases zo P _ <;>exact trivial
  ·rename_i e A q y;cases (Nat.beq src dst&&zo P e)with
   |false=>trivial
   |true=>exact fun call _ F H v j h=>IB h
  ·trivial
  ·trivial
  ·trivial
 case makeInterface t x=>show Bm P (bif _ then _ else _);cases P.concrete t<;>exact trivial
 case makeFunc f a b=>simp only[aZ];cases f<;>exact trivial
 case makeMap t r=>cases r<;>exact trivial
 case lookup t x i ok=>
  simp only[aZ];split
  ·cases (wz P _ &&(zeroV P _).laid)<;>exact trivial
  ·trivial
 case mapUpdate t x i v=>
  simp only[aZ];split
  ·cases wz P _ with
   |false=>trivial
   |true=>exact fun call _ F H v j h=>yM h
  ·trivial
 case range t x=>show Bm P (bif _ then _ else _);cases isStr P t<;>exact trivial
 case next it str=>
  cases str with
  |false=>trivial
  |true=>exact fun call _ F H v j h=>Iq h
 case makeSlice t l c=>
  simp only[aZ];split
  ·cases (Nat.beq (P.cellsOf _) 0|| !(zeroV P _).laid|| !jI (zeroV P _).cells (P.cellsOf _))<;>exact trivial
  ·trivial
 case slice t x lo w mx=>
  simp only[aZ];split
  ·trivial
  ·split
   ·trivial
   ·cases Nat.beq (P.cellsOf _) 0<;>exact trivial
   ·trivial
 case fieldAddr t x f=>simp only[aZ];split<;>exact trivial
 case indexAddr t x i=>
  simp only[aZ];split
  ·cases Nat.beq (P.cellsOf _) 0<;>exact trivial
  ·cases Nat.beq (P.cellsOf _) 0<;>exact trivial
  ·trivial
 case index t x i=>simp only[aZ];split<;>exact trivial
 case typeAssert x t u ok=>show Bm P (bif _ then _ else _);cases (ok&&(zeroV P u).laid&&o6 P u)<;>exact trivial
 case call c=>
  obtain⟨callee,args,o⟩:=c;cases callee with
  |invoke r m=>exact trivial
  |value f=>
   intro call dJ F H v j h;simp only[Ir]at h;split at h
   ·exact(dJ _ _ _ _ _ h).1
   ·cases h
  |builtin b=>
   show Bm P (oJ P ⟨.builtin b,args,o⟩);simp only[oJ];split
   ·split<;>exact trivial
   ·split
    ·rename_i e he;cases (!Nat.beq (P.cellsOf e) 0&&(zeroV P e).laid&&jI (zeroV P e).cells (P.cellsOf e))with
     |false=>trivial
     |true=>
      simp only[cond_true];split
      ·exact fun call _ F H v j h=>yZ h
      ·cases zo P e with
       |false=>trivial
       |true=>exact fun call _ F H v j h=>yZ h
      ·cases Nat.ble (P.bytesOf e) 1000 with
       |false=>trivial
       |true=>exact fun call _ F H v j h=>yZ h
      ·trivial
    ·trivial
   ·split
    ·rename_i e he;cases Nat.beq (P.cellsOf e) 0 with
     |true=>trivial
     |false=>exact fun call _ F H v j h=>DS h
    ·trivial
   ·trivial
   ·trivial
   ·trivial
theorem yL {call:Call}(dJ:jQ P call) {o:Oper}{F:Fr}{V H:Hp}{v:EV}{j:Hp}(h:nE P call o F V H v j):H.c≤j.c:=by
 have l:=RH (P:=P) o.op;unfold nE at h;generalize aZ P o.op=e at h l;cases e with
 |nK f=>rw[h.2.2];exact Nat.le_refl _
 |val f=>rw[h.2.2];exact Nat.le_refl _
 |new f=>obtain⟨b,mk,_,_,_,rfl⟩:=h;exact Nat.le_succ _
 |wE f=>exact l call dJ F H v j h
 |bad w=>exact h.elim
theorem vu {call:Call}(dJ:jQ P call) {o:Oper}{F:Fr}{H:Hp}{v:EV}{u:Hp}(h:nE P call o F H H v u) {ρ:br}{σ0:AS}{s:AW.Fr}{σ:AS}(J:∀x∈o.op.operands,XR ρ F s x) (A:R P ρ σ0 H σ) (I:HE n o.dst=true):
 H.c≤u.c∧iD P n ds Q o s σ (fun D σ'=> ∃j l,br.le ρ j∧D=s.put o.dst l∧VR j v l∧R P j σ0 u σ'):=by
 have q:=LS (P:=P) (n:=n) (ds:=ds) (Q:=Q) o;unfold nE at h;generalize aZ P o.op=e at h q;cases e with
 |nK f=>obtain⟨rfl,h0,rfl⟩:=h;refine⟨Nat.le_refl _,nU (XO.MB (fun G=>q ρ F s σ J h0 (fun l σ'=>VR ρ (f F) l∧R P ρ σ0 u σ') G fun l E=>⟨E,A⟩) I) fun D σ' ⟨l,e,h1,y⟩=>⟨ρ,l,.refl ρ,e,h1,y⟩⟩
 |val f=>obtain⟨rfl,h0,rfl⟩:=h;refine⟨Nat.le_refl _,nU (XO.MB (fun G=>q ρ F s σ u J A.rb h0 (fun l σ'=>VR ρ (f F u) l∧R P ρ σ0 u σ') G fun l E=>⟨E,A⟩) I) fun D σ' ⟨l,e,h1,y⟩=>⟨ρ,l,.refl ρ,e,h1,y⟩⟩
 |new f=>obtain⟨b,mk,h1,y,rfl,rfl⟩:=h;obtain⟨_,O⟩:=q ρ F s σ b mk H.c J h1 (A.fresh _ (Nat.le_refl _));refine⟨Nat.le_succ _,nU (XO.MB (K:=fun l σ'=> ∃j,br.le ρ j∧VR j (mk H.c) l∧R P j σ0 (H.new b) σ') (fun G=>O _ G fun x N T l M S E=> ?_) I) fun D σ' ⟨l,e,j,g1,g2,g3⟩=>⟨j,l,g1,e,g2,g3⟩⟩;obtain⟨g1,g2⟩:=A.new y M S;exact⟨_,g1,E,g2⟩
 |wE f=>obtain⟨h1,y⟩:=q call dJ ρ F s σ0 σ H v u J A h;exact⟨h1,nU (y (fun l σ'=> ∃j,br.le ρ j∧VR j v l∧R P j σ0 u σ') (fun j l σ' g1 g2 g3=>⟨j,g1,g2,g3⟩) I) fun D σ' ⟨l,e,j,g1,g2,g3⟩=>⟨j,l,g1,e,g2,g3⟩⟩
 |bad w=>exact h.elim
theorem zj {G:Gh}{s:AW.Fr}{σ:AS}{a:Act}{w:World}(D:kO P G n ds s σ a w) {ops:Array Oper}{j:Nat}{v:Value}(o:fy ops s j= .sc v):yielded ops a.tmps j=(match v with|.bool b=>some b| _ =>none):=by
 unfold fy at o;split at o
 ·rename_i d E;have q:=D.rep d;rw[o]at q;generalize l:a.tmps.getD d undef=u at q;cases q;simp only[yielded,E,Option.bind_some];rw[Array.getD_eq_getD_getElem?]at l;cases A:a.tmps[d]? with
  |none=>rw[A]at l;simp only[Option.getD_none]at l;subst l;rfl
  |some y=>rw[A]at l;simp only[Option.getD_some]at l;subst l;cases y<;>rfl
 ·cases o
def GX (ρ:br) (ops:Array Oper) (F:Fr) (s:AW.Fr) (o:Oper):Prop:= ∀j want d,o.guard=some (j,want)→(ops[j]?).bind (·.dst)=some d→VR ρ ((eK (.tmp d)).get F) (s d)
theorem rv {ρ:br}{ops:Array Oper}{o:Oper}{F:Fr}{G:Gh}{s:AW.Fr}{σ:AS}{a:Act}{w:World}(I:kO P G n ds s σ a w) (M:GX ρ ops F s o) {b:Bool}(h:Bl ops o F=some b):Region.wanted o (yielded ops a.tmps)=b:=by
 unfold Bl at h;cases l:o.guard with
 |none=>rw[l]at h;simp only[Option.some.injEq]at h;subst h;simp[Region.wanted,l]
 |some q=>
  obtain⟨j,want⟩:=q;rw[l]at h;simp only at h;unfold gd at h;cases D:(ops[j]?).bind (·.dst)with
  |none=>rw[D]at h;cases h
  |some d=>
   rw[D]at h;simp only at h;have y:=M j want d l D;have A:fy ops s j=s d:=by simp[fy,D]
   split at h
   ·rename_i J H;simp only[Option.some.injEq]at h;subst h;rw[H]at y;generalize u:s d=K at y;cases y;have E:=zj I (ops:=ops) (j:=j) (v:= .bool J) (by rw[A,u]);simp only[Region.wanted,l,E];rw[jn];cases J<;>cases want<;>rfl
   ·rename_i vs H;simp only[Option.some.injEq]at h;subst h;rw[H]at y;generalize u:s d=K at y;cases y;have E:=zj I (ops:=ops) (j:=j) (v:= .tuple vs) (by rw[A,u]);simp[Region.wanted,l,E]
   ·cases h
theorem xX {ρ:br} :VR ρ pH iH:= .sc _
theorem KO {d:Option Nat}(h:HE n d=true):∀t,d=some t→t<n:=by intro t e;subst e;simp only[HE,dr,decide_eq_true_eq]at h;exact h
theorem wT (hn:n≤512) {fid bj:Nat}{call:Call}(dJ:jQ P call) {ops:Array Oper} :∀(l:List Oper) (F:Fr) (H:Hp) (r:CR),rC P fid bj n call ops l F H=r→(∀w,r≠ .fail w)→
 ∃E D,r= .norm E D∧H.c≤D.c∧ ∀(ρ:br) (σ0:AS) (G0 G:Gh) (s:AW.Fr) (σ:AS) (a:Act) (w:World),FR ρ F s→R P ρ σ0 H σ→G0.Le G→kO P G n ds s σ a w→
  (∀q T σ',br.le ρ q→FR q E T→R P q σ0 D σ'→Q .normal T σ')→wpList P ops (LQ P n ds Q G0) l a w:=by
 intro l;induction l with
 |nil=>intro F H r h O;exact⟨F,H,h.symm,Nat.le_refl _,fun ρ σ0 G0 G s σ a w y M hle u K=>⟨G,s,σ,hle,u,K ρ s σ (.refl ρ) y M⟩⟩
 |cons o l Z=>
  intro F H r h O;obtain⟨hd,b,hg,h1,h2⟩:=qC (show(g8 P fid bj n ops o).run call F H H _ =r from h) O;have A:=KO hd;cases b with
  |true=>obtain⟨v,H1,he,U⟩:=h1 rfl;obtain⟨E,D,Y,X,V⟩:=Z _ _ r U.symm O;have hc:=yL dJ he;refine⟨E,D,Y,Nat.le_trans hc X,fun ρ σ0 G0 G s σ a w y M hle u K=> ?_⟩;have hw:=rv u (ρ:=ρ) (F:=F) (fun j want d _ _ =>y.op (.tmp d)) hg;unfold wpList;rw[if_pos hw];refine .inl ?_;refine(vu dJ he (fun x _ =>y.op x) M hd).2 G0 G a w hle u _ fun G' T σ' a' w' k1 k2 k3=> ?_;obtain⟨q,av,g1,rfl,g2,g3⟩:=k3;exact V q σ0 G0 G' _ σ' a' w' ((y.mono g1).put g2 o.dst fun t ht=>Nat.lt_of_lt_of_le (A t ht) hn) g3 k1 k2 fun J S I q1 q2 q3=>K J S I (g1.trans q1) q2 q3
  |false=>have U:=h2 rfl;obtain⟨E,D,Y,X,V⟩:=Z _ _ r U.symm O;refine⟨E,D,Y,X,fun ρ σ0 G0 G s σ a w y M hle u K=> ?_⟩;have hw:=rv u (ρ:=ρ) (F:=F) (fun j want d _ _ =>y.op (.tmp d)) hg;unfold wpList;rw[if_neg (by rw[hw];simp)];exact V ρ σ0 G0 G _ σ _ w (y.put xX o.dst fun t ht=>Nat.lt_of_lt_of_le (A t ht) hn) M hle (u.put (.refl G) u.inv o.dst A (.sc _)) K
end Go.AW.Ev
namespace Go.AW.Ev
variable {P:Program} {n:Nat} {ds:List Deferred} {Q:AQ}
theorem Ik {a b:Mn}(h:Il a b=true):a=b:=by cases a<;>cases b<;>simp only[Il,bW,decide_eq_true_eq]at h<;>first|(subst h;rfl)|cases h
theorem KI {a b:Value}(h:Nv a b=true):a=b:=by
 cases a with
 |pointer x=>cases x<;>cases b<;>first|(cases h;done)|(rename_i y;cases y<;>first|rfl|cases h)
 |map x=>cases x<;>cases b<;>first|(cases h;done)|(rename_i y;cases y<;>first|rfl|cases h)
 |nilFunc=>cases b<;>first|rfl|cases h
 |nilIface=>cases b<;>first|rfl|cases h
 |string x=>
  cases b with
  |string y=>simp only[Nv,CE,decide_eq_true_eq]at h;rw[h]
  | _ =>cases h
 | _ =>cases b<;>cases h
theorem ph {eq:EV→EV→Bool}(he:∀a b,eq a b=true→a=b):∀ {l j:List EV},AG eq l j=true→l=j
 |[],[],_ =>rfl
 |[],_ :: _,h=>by cases h
 | _ :: _,[],h=>by cases h
 |a::l,b::j,h=>by simp only[AG,Bool.and_eq_true]at h;rw[he a b h.1,ph he h.2]
theorem Nr:∀(d:Nat) (a b:EV),eqv d a b=true→a=b:=by
 intro d;induction d with
 |zero=>intro a b h;cases h
 |succ d j=>
  intro a b h;cases a<;>cases b<;>simp only[eqv,Bool.and_eq_true,bW,decide_eq_true_eq]at h<;>first|(cases h;done)|skip
  ·rw[Cw h.1];rw[oF,decide_eq_true_eq]at h;rw[h.2]
  ·rw[jn]at h;simp at h;rw[h]
  ·rw[KI h]
  ·rfl
  ·rw[h.1,h.2]
  ·rw[h.1.1.1,h.1.1.2,h.1.2,Ik h.2]
  ·rw[h.1.1,ph j h.1.2];have:=h.2;rw[jn]at this;simp at this;rw[this]
  ·rw[h]
  ·rw[h.1.1,ph j h.1.2,ph j h.2]
  ·rw[h.1,j _ _ h.2]
  ·rw[ph j h]
  ·rw[ph j h]
def br.cut (ρ:br) (c:Nat):br:=fun i=>if i<c then ρ i else none
theorem Iw (ρ:br) (c:Nat):br.le (ρ.cut c) ρ:=by
 intro i p h;unfold br.cut at h;split at h
 ·exact h
 ·cases h
theorem qW (ρ:br) {c d:Nat}(h:c≤d):br.le (ρ.cut c) (ρ.cut d):=by
 intro i p j;unfold br.cut at j⊢;split at j
 ·rw[if_pos (by omega)];exact j
 ·cases j
theorem ue {ρ j:br}(h:br.le ρ j) (c:Nat):br.le (ρ.cut c) (j.cut c):=by
 intro i p l;unfold br.cut at l⊢;split at l
 ·rename_i o;rw[if_pos o];exact h i p l
 ·cases l
theorem Fu {ρ:br}{c:Nat}(h:∀i,c≤i→ρ i=none):ρ.cut c=ρ:=by
 funext i;unfold br.cut;split
 ·rfl
 ·exact(h i (by omega)).symm
theorem DP {ρ:br}{c:Nat}{q:Nat×Nat}(h:ρ c=some q):ρ.cut (c+1)=(ρ.cut c).ext c q:=by
 funext i;show(if i<c+1 then ρ i else none)=(if i=c then some q else if i<c then ρ i else none);by_cases h1:i=c
 ·subst h1;simp[h]
 ·by_cases j:i<c
  ·rw[if_pos (by omega),if_neg h1,if_pos j]
  ·rw[if_neg (by omega),if_neg h1,if_neg j]
theorem VR.cut {ρ:br}{c:Nat} :∀(f:Nat) {v:EV}{a:AV},ti c f v=true→VR ρ v a→VR (ρ.cut c) v a:=by
 intro f;induction f with
 |zero=>intro v a h;cases h
 |succ f w=>
  intro v a h q;have j:∀ {i:Nat} {p:Nat×Nat},Nat.blt i c=true→ρ i=some p→(ρ.cut c) i=some p:=by intro i p h1 u;rw[dr,decide_eq_true_eq]at h1;unfold br.cut;rw[if_pos h1];exact u
  have all:∀ {l:List EV} {as:List AV},l.all (ti c f)=true→(∀i,i<l.length→VR ρ (l.getD i .any) (as.getD i .any))→ ∀i,i<l.length→VR (ρ.cut c) (l.getD i .any) (as.getD i .any):=by intro l as h1 u i y;refine w ?_ (u i y);rw[List.all_eq_true]at h1;exact h1 _ (by rw[List.getD_eq_getElem?_getD,List.getElem?_eq_getElem y];exact List.getElem_mem _)
  cases q with
  |any a=>exact .any a
  |int k n=>exact .int k n
  |bool b=>exact .bool b
  |sc v=>exact .sc v
  |aC=>exact .aC
  |ptr off o=>exact .ptr off (j h o)
  |we off len k o=>exact .we off len k (j h o)
  |xW off len d o hl=>exact .xW off len d (j h o) hl
  |ah full l hl=>exact .ah full l (all h hl)
  |mp o=>exact .mp (j h o)
  |Cq f=>exact .Cq f
  |fn D ha A E=>simp only[ti,Bool.and_eq_true]at h;exact .fn D (all h.1 ha) A (all h.2 E)
  |lq t q=>exact .lq t (w h q)
  |agg l hl=>exact .agg l (all h hl)
  |cp l hl=>exact .cp l (all h hl)
theorem ug (m j:Nat):nj m j=m.testBit j:=by unfold nj;rw[bW,Nat.testBit_eq_decide_div_mod_eq];congr 1;rw[show Nat.shiftRight m j=m/2^j from Nat.shiftRight_eq_div_pow m j];rfl
theorem rM {acc:List Nat}{j:Nat} :∀ {es:List Edge},nj (mv acc es) j=true→ ∃e∈es,Region.binds .any e=true∧(e.on=j∨nj (acc.getD e.on 0) j=true)
 |[],h=>by rw[ug]at h;simp[mv]at h
 |e::es,h=>by
  simp only[mv]at h;cases l:Region.binds .any e with
  |false=>rw[l]at h;obtain⟨q,h1,o⟩:=rM h;exact⟨q,by simp[h1],o⟩
  |true=>
   rw[l]at h;simp only[cond_true]at h;rw[ug,show Nat.lor (Nat.lor (Nat.shiftLeft 1 e.on) (acc.getD e.on 0)) (mv acc es)=((1<<<e.on)|||(acc.getD e.on 0))|||(mv acc es) from rfl,Nat.testBit_or,Nat.testBit_or,Bool.or_eq_true,Bool.or_eq_true]at h;rcases h with(h|h)|h
   ·refine⟨e,by simp,l,.inl ?_⟩;rw[Nat.one_shiftLeft,Nat.testBit_two_pow]at h;simpa using h
   ·exact⟨e,by simp,l,.inr (by rw[ug];exact h)⟩
   ·obtain⟨q,h1,o⟩:=rM (es:=es) (acc:=acc) (j:=j) (by rw[ug];exact h);exact⟨q,by simp[h1],o⟩
theorem A2:∀(l:List Oper) (acc:List Nat),∃r,kK l acc=acc++r∧r.length=l.length
 |[],acc=>⟨[],by simp[kK],rfl⟩
 |o::l,acc=>by obtain⟨r,h1,j⟩:=A2 l (acc++ [mv acc o.after.toList]);exact⟨mv acc o.after.toList::r,by simp[kK,h1],by simp[j]⟩
theorem D4:∀(l:List Oper) (acc:List Nat) (k:Nat) (o:Oper),l[k]? =some o→(kK l acc).getD (acc.length+k) 0=mv ((kK l acc).take (acc.length+k)) o.after.toList
 |[],acc,k,o,h=>by simp at h
 |j::l,acc,0,o,h=>by simp at h;subst h;obtain⟨r,h1,q⟩:=A2 l (acc++ [mv acc j.after.toList]);simp only[kK,h1,Nat.add_zero];rw[List.append_assoc,List.take_left,List.getD_eq_getElem?_getD,List.getElem?_append_right (Nat.le_refl _)];simp
 |j::l,acc,k+1,o,h=>by have:=D4 l (acc++ [mv acc j.after.toList]) k o (by simpa using h);simp only[List.length_append,List.length_cons,List.length_nil]at this;simp only[kK];rw[show acc.length+(k+1)=acc.length+(0+1)+k from by omega];exact this
theorem NH {ops:List Oper}{L:Nat→Prop}(J:∀i o,ops[i]? =some o→ ∀e∈o.after.toList,Region.binds .any e=true→e.on<i) (A:∀i,L i→ ∀o,ops[i]? =some o→ ∀e∈o.after.toList,Region.binds .any e=true→L e.on):
 ∀i o,ops[i]? =some o→(∀e∈o.after.toList,Region.binds .any e=true→L e.on)→ ∀j,nj ((kK ops []).getD i 0) j=true→L j:=by
 intro i;induction i using Nat.strongRecOn with
 | _ i I=>
  intro o w H j G;have:=D4 ops [] i o w;simp only[List.length_nil,Nat.zero_add]at this;rw[this]at G;obtain⟨e,h1,E,u⟩:=rM G;have q:=J i o w e h1 E;rcases u with rfl|u
  ·exact H e h1 E
  ·have v:=H e h1 E;cases l:ops[e.on]? with
   |none=>exfalso;have hlen:i<ops.length:=(List.getElem?_eq_some_iff.1 w).1;rw[List.getElem?_eq_none_iff]at l;omega
   |some F=>
    have K:((kK ops []).take i).getD e.on 0=(kK ops []).getD e.on 0:=by rw[List.getD_eq_getElem?_getD,List.getElem?_take_of_lt q,←List.getD_eq_getElem?_getD]
    rw[K]at u;exact I e.on q F l (fun M y D=>A e.on v F l M y D) j u
theorem y6 {f:Nat→Bool} :∀ {m:Nat},Mh m f=true→ ∀i,i<m→f i=true
 |0,_,i,j=>by omega
 |m+1,h,i,j=>by
  simp only[Mh,Bool.and_eq_true]at h;by_cases e:i=m
  ·subst e;exact h.1
  ·exact y6 h.2 i (by omega)
theorem yx {t:Nat} :∀ {l:List Nat},E5 t l=true↔t∈l
 |[]=>by simp[E5]
 |x::r=>by
  simp only[E5,Bool.or_eq_true,bW,decide_eq_true_eq,yx (l:=r),List.mem_cons];constructor
  ·rintro(h|h)
   ·exact .inl h.symm
   ·exact .inr h
  ·rintro(h|h)
   ·exact .inl h.symm
   ·exact .inr h
theorem vw {i:Nat} :∀ {es:List Edge},tY i es=true→ ∀e∈es,Region.binds .any e=true→e.on<i
 |[],_,e,he,_ =>by cases he
 |x::r,h,e,he,j=>by
  simp only[tY,Bool.and_eq_true,Bool.or_eq_true,Bool.not_eq_true',dr,decide_eq_true_eq]at h;rcases List.mem_cons.1 he with rfl|he
  ·rcases h.1 with h1|h1
   ·rw[j]at h1;cases h1
   ·exact h1
  ·exact vw h.2 e he j
def TS (P:Program) (fid bj n:Nat) (call:Call) (ops:List Oper) (j B:List Nat) (Fs:Nat→Fr) (Hs Vs:Nat→Hp) (vs:Nat→EV) (hes:List (Nat×Hp)) (k:Nat):Prop:=
 ∃o b,ops[k]? =some o∧HE n o.dst=true∧Bl ops.toArray o (Fs k)=some b∧(b=true→nE P call o (Fs k) (Vs k) (Hs k) (vs k) (Hs (k+1)))∧(b=false→vs k=pH∧Hs (k+1)=Hs k)∧
  Fs (k+1)=gS o.dst (vs k) (Fs k)∧(j.getD k 0=3→(k+1,Hs (k+1))∈hes)∧
  (j.getD k 0=1→ti (Hs k).c 8 (vs k)=true∧ ∀p∈hes,allowed j B k p.1=true→vm ((g8 P fid bj n ops.toArray o).run call (Fs k) p.2 (Hs k) fun q l w=>bif eqv 8 (vs k) w then .norm q l else .fail 0)=true)
theorem Ew {fid bj:Nat}{call:Call}{ops:List Oper}{q B:List Nat} :∀(l:List Oper) (i:Nat) (F:Fr) (V H:Hp) (hes:List (Nat×Hp)) (cs:List Tn) (r:CR),l=ops.drop i→i≤ops.length→
 pM P fid bj n call ops q B i l F V H hes cs=r→(∀w,r≠ .fail w)→ ∃(Fs:Nat→Fr) (Hs Vs:Nat→Hp) (vs:Nat→EV) (j:List (Nat×Hp)),Fs i=F∧Hs i=H∧Vs i=V∧r= .norm (Fs ops.length) (Hs ops.length)∧(∀x∈hes,x∈j)∧
  (∀c∈cs,CD q B j c=true)∧ ∀k,i≤k→k<ops.length→TS P fid bj n call ops q B Fs Hs Vs vs j k:=by
 intro l;induction l with
 |nil=>
  intro i F V H hes cs r hl hi h E;have hlen:ops.length=i:=by have:=congrArg List.length hl;simp at this;omega
  simp only[pM]at h;cases X:cs.all (CD q B hes)with
  |false=>rw[X]at h;exact absurd h.symm (E _)
  |true=>rw[X]at h;refine⟨fun _ =>F,fun _ =>H,fun _ =>V,fun _ => .any,hes,rfl,rfl,rfl,h.symm,fun x hx=>hx,fun c ak=>(List.all_eq_true.1 X) c ak,fun k h1 h2=>by omega⟩
 |cons o l ih=>
  intro i F V H hes cs r hl hi h E;have G:i<ops.length:=by
   rcases Nat.lt_or_ge i ops.length with h1|h1
   ·exact h1
   ·rw[List.drop_eq_nil_of_le h1]at hl;cases hl
  have ho:ops[i]? =some o:=by rw[List.getElem?_eq_getElem G];have:=List.drop_eq_getElem_cons G;rw[←hl]at this;injection this with h1 h2;rw[h1]
  have I:l=ops.drop (i+1):=by have:=List.drop_eq_getElem_cons G;rw[←hl]at this;injection this
  simp only[pM]at h;obtain⟨hd,b,hg,h1,h2⟩:=qC h E;have go:∀(v:EV) (u:Hp),(b=true→nE P call o F V H v u)→(b=false→v=pH∧u=H)→
   (bif Nat.beq (q.getD i 0) 3 then pM P fid bj n call ops q B (Nat.succ i) l (gS o.dst v F) u u (hes++ [(Nat.succ i,u)]) cs
    else bif Nat.beq (q.getD i 0) 1 then(bif ti H.c 8 v then
     pM P fid bj n call ops q B (Nat.succ i) l (gS o.dst v F) V u hes (⟨i,fun h=>vm ((g8 P fid bj n ops.toArray o).run call F h H fun U T w=>bif eqv 8 v w then .norm U T else .fail 0)⟩::cs)else .fail (wh fid bj 111))
    else pM P fid bj n call ops q B (Nat.succ i) l (gS o.dst v F) V u hes cs)=r→
   ∃(Fs:Nat→Fr) (Hs Vs:Nat→Hp) (vs:Nat→EV) (j:List (Nat×Hp)),Fs i=F∧Hs i=H∧Vs i=V∧r= .norm (Fs ops.length) (Hs ops.length)∧(∀x∈hes,x∈j)∧
    (∀c∈cs,CD q B j c=true)∧ ∀k,i≤k→k<ops.length→TS P fid bj n call ops q B Fs Hs Vs vs j k:=by
   intro v u s1 s2 h;have fin:∀(Fs:Nat→Fr) (Hs Vs:Nat→Hp) (vs:Nat→EV) (j:List (Nat×Hp)),Fs (i+1)=gS o.dst v F→Hs (i+1)=u→r= .norm (Fs ops.length) (Hs ops.length)→(∀x∈hes,x∈j)→(∀c∈cs,CD q B j c=true)→
    (∀k,i+1≤k→k<ops.length→TS P fid bj n call ops q B Fs Hs Vs vs j k)→(q.getD i 0=3→(i+1,u)∈j)→
    (q.getD i 0=1→ti H.c 8 v=true∧ ∀p∈j,allowed q B i p.1=true→vm ((g8 P fid bj n ops.toArray o).run call F p.2 H fun U T w=>bif eqv 8 v w then .norm U T else .fail 0)=true)→
    ∃(Fs:Nat→Fr) (Hs Vs:Nat→Hp) (vs:Nat→EV) (j:List (Nat×Hp)),Fs i=F∧Hs i=H∧Vs i=V∧r= .norm (Fs ops.length) (Hs ops.length)∧(∀x∈hes,x∈j)∧
    (∀c∈cs,CD q B j c=true)∧ ∀k,i≤k→k<ops.length→TS P fid bj n call ops q B Fs Hs Vs vs j k:=by
    intro Fs Hs Vs vs j S y O D A M e7 e8;refine⟨fun k=>if k=i then F else Fs k,fun k=>if k=i then H else Hs k,fun k=>if k=i then V else Vs k,fun k=>if k=i then v else vs k,j,if_pos rfl,if_pos rfl,if_pos rfl,?_,D,A,fun k k1 k2=> ?_⟩
    ·simp only[show ¬ops.length=i from by omega,if_false];exact O
    ·by_cases hk:k=i
     ·subst hk;refine⟨o,b,ho,hd,?_,?_,?_,?_,?_,?_⟩
      ·simpa using hg
      ·simpa[y]using s1
      ·simpa[y]using s2
      ·simpa using S
      ·simpa[y]using e7
      ·simpa using e8
     ·have:=M k (by omega) k2;unfold TS at this⊢;have h1:¬k+1=i:=by omega
      simpa only[hk,h1,if_false]using this
   by_cases Y:q.getD i 0=3
   ·rw[Y]at h;simp only[show Nat.beq 3 3=true from rfl,cond_true]at h;obtain⟨Fs,Hs,Vs,vs,j,S,y,_,O,D,A,M⟩:=ih (i+1) _ _ _ _ _ r I (by omega) h E;exact fin Fs Hs Vs vs j S y O (fun x hx=>D x (by simp[hx])) A M (fun _ =>D _ (by simp)) (fun h1=>by rw[Y]at h1;cases h1)
   ·have al:Nat.beq (q.getD i 0) 3=false:=by rw[bW];simpa using Y
    rw[al]at h;simp only[cond_false]at h;by_cases K:q.getD i 0=1
    ·rw[K]at h;simp only[show Nat.beq 1 1=true from rfl,cond_true]at h;cases J:ti H.c 8 v with
     |false=>rw[J]at h;exact absurd h.symm (E _)
     |true=>rw[J]at h;simp only[cond_true]at h;obtain⟨Fs,Hs,Vs,vs,j,S,y,_,O,D,A,M⟩:=ih (i+1) _ _ _ _ _ r I (by omega) h E;refine fin Fs Hs Vs vs j S y O D (fun c X=>A c (by simp[X])) M (fun h=>absurd h Y) (fun _ =>⟨J,fun p hp ha=> ?_⟩);have:=A _ List.mem_cons_self;simp only[CD,List.all_eq_true]at this;have:=this p hp;rw[ha]at this;simpa using this
    ·have Z:Nat.beq (q.getD i 0) 1=false:=by rw[bW];simpa using K
     rw[Z]at h;simp only[cond_false]at h;obtain⟨Fs,Hs,Vs,vs,j,S,y,_,O,D,A,M⟩:=ih (i+1) _ _ _ _ _ r I (by omega) h E;exact fin Fs Hs Vs vs j S y O D A M (fun h=>absurd h Y) (fun h=>absurd h K)
  cases b with
  |true=>obtain⟨v,u,he,hk⟩:=h1 rfl;exact go v u (fun _ =>he) (fun h=>by cases h) hk.symm
  |false=>exact go pH H (fun h=>by cases h) (fun _ =>⟨rfl,rfl⟩) (h2 rfl).symm
end Go.AW.Ev
namespace Go.AW.Ev
variable {P:Program} {n:Nat} {ds:List Deferred} {Q:AQ}
theorem R.P9 {ρ:br}{σ0 σ:AS}{H:Hp}(h:R P ρ σ0 H σ) (F:H.c<32768) {x N:Nat}{b:v7}{q:cL}(w:σ0 x=some q) (G:BR P (ρ.ext H.c (x,N)) N b q):
 R P (ρ.ext H.c (x,N)) (fun j=>if j=x then none else σ0 j) (H.new b) σ:=by
 have u:σ x=some q:=h.le x q w;have h1:R P ρ (fun j=>if j=x then none else σ0 j) H (fun j=>if j=x then none else σ j):=by
  refine⟨⟨h.rb.lt,fun j l o=> ?_⟩,h.inj,fun j b l=> ?_,fun i y M hl E=> ?_,h.fresh,h.dead⟩
  ·obtain⟨y,M,v,k1,D,A⟩:=h.rb.zi j l o;have:y≠x:=by rintro rfl;have:=h.out j _ M o k1;rw[w]at this;cases this
   exact⟨y,M,v,k1,by simp only[this,if_false];exact D,A⟩
  ·by_cases e:j=x
   ·simp only[e,if_true]at l;cases l
   ·simp only[e,if_false]at l⊢;exact h.le j b l
  ·by_cases e:y=x
   ·simp[e]
   ·simp only[e,if_false];exact h.out i y M hl E
 obtain⟨_,g⟩:=h1.new F (by simp) G;rwa [BK,AS.uB _ _ _ u]at g
theorem R.more {ρ:br}{σ0 σ:AS}{H:Hp}(h:R P ρ σ0 H σ) {x:Nat}(v:cL) (D:σ x=none):R P ρ (σ0.set x v) H (σ.set x v):=by
 have ne:∀ {j y M},(H.get j).live=true→ρ j=some (y,M)→y≠x:=by rintro j y M hl q rfl;obtain⟨o,k1,_⟩:=h.rb.at q hl;rw[D]at k1;cases k1
 refine⟨⟨h.rb.lt,fun j q l=> ?_⟩,h.inj,yz h.le,fun i y M hl u=> ?_,h.fresh,h.dead⟩
 ·obtain⟨y,M,o,k1,A,w⟩:=h.rb.zi j q l;exact⟨y,M,o,k1,by rw[AS.ag _ _ (ne l k1)];exact A,w⟩
 ·rw[AS.ag _ _ (ne hl u)];exact h.out i y M hl u
theorem R.base {ρ:br}{σ0 j σ:AS}{H:Hp}(h:R P ρ j H σ) (hle:AS.le σ0 j):R P ρ σ0 H σ:=by
 refine⟨h.rb,h.inj,AS.le_trans hle h.le,fun i y M hl q=> ?_,h.fresh,h.dead⟩;have:=h.out i y M hl q;cases o:σ0 y with
 |none=>rfl
 |some b=>have l:=hle y b o;rw[this]at l;cases l
theorem RB.mono {ρ j:br}{H:Hp}{σ:AS}(h:RB P ρ H σ) (hle:br.le ρ j) (l:∀i p,j i=some p→i<32768):RB P j H σ:=
 ⟨l,fun i o hl=>by obtain⟨x,N,v,h1,u,q⟩:=h.zi i o hl;exact⟨x,N,v,hle _ _ h1,u,q.mono hle⟩⟩
structure DD (P:Program) (fid bj n:Nat) (call:Call) (ops:List Oper) (Fs:Nat→Fr) (Hs Vs:Nat→Hp) (vs:Nat→EV) (hes:List (Nat×Hp)):Prop where
 hn:n≤512
 dJ:jQ P call
 ok:B9 ops (kK ops []) (kinds P ops)=true
 ts:∀k,k<ops.length→TS P fid bj n call ops (kinds P ops) (kK ops []) Fs Hs Vs vs hes k
 zero:(0,Hs 0)∈hes
section
variable {fid bj:Nat} {call:Call} {ops:List Oper} {Fs:Nat→Fr} {Hs Vs:Nat→Hp} {vs:Nat→EV} {hes:List (Nat×Hp)}
theorem DD.pair (D:DD P fid bj n call ops Fs Hs Vs vs hes) {j i:Nat}(l:j<i) (o:i<ops.length):n9 ops (kK ops []) (kinds P ops) j i=true:=by have:=y6 D.ok i o;simp only[Bool.and_eq_true]at this;exact y6 this.2 j l
theorem DD.PH (D:DD P fid bj n call ops Fs Hs Vs vs hes) (i:Nat) (o:Oper) (j:ops[i]? =some o) (e:Edge) (he:e∈o.after.toList) (q:Region.binds .any e=true):e.on<i:=by have l:=(List.getElem?_eq_some_iff.1 j).1;have:=y6 D.ok i l;simp only[Bool.and_eq_true,j]at this;exact vw this.1 e he q
theorem DC {i:Nat}{o:Oper}(j:ops[i]? =some o):(kinds P ops).getD i 0=HU (aZ P o.op):=by simp[kinds,List.getD_eq_getElem?_getD,j]
theorem DD.Ma (D:DD P fid bj n call ops Fs Hs Vs vs hes) {k:Nat}(j:k<ops.length):(Hs k).c≤(Hs (k+1)).c:=by
 obtain⟨o,b,h1,v,u,q,l,_⟩:=D.ts k j;cases b with
 |true=>exact yL D.dJ (q rfl)
 |false=>rw[(l rfl).2];exact Nat.le_refl _
theorem DD.jz (D:DD P fid bj n call ops Fs Hs Vs vs hes) {i:Nat} :∀ {j:Nat},i≤j→j≤ops.length→(Hs i).c≤(Hs j).c:=by
 intro j;induction j with
 |zero=>intro h _;rw[show i=0 from by omega];exact Nat.le_refl _
 |succ j l=>
  intro h1 o;by_cases e:i=j+1
  ·rw[e];exact Nat.le_refl _
  ·exact Nat.le_trans (l (by omega) (by omega)) (D.Ma (by omega))
theorem DD.calm (D:DD P fid bj n call ops Fs Hs Vs vs hes) {k:Nat}(u:k<ops.length) (j:(kinds P ops).getD k 0≠3):
 Hs (k+1)=Hs k∨ ∃b,Hs (k+1)=(Hs k).new b∧(Hs k).c<32768∧(kinds P ops).getD k 0=2:=by
 obtain⟨o,b,h1,A,_,y,v,_⟩:=D.ts k u;rw[DC h1]at j⊢;cases b with
 |false=>exact .inl (v rfl).2
 |true=>
  have he:=y rfl;unfold nE at he;generalize aZ P o.op=e at he j;cases e with
  |nK f=>exact .inl he.2.2
  |val f=>exact .inl he.2.2
  |new f=>obtain⟨b,mk,_,q,_,l⟩:=he;exact .inr ⟨b,l,q,rfl⟩
  |wE f=>exact absurd rfl j
  |bad w=>exact he.elim
theorem Ac {H j:Hp}{b:v7}(h:j=H.new b):j.c=H.c+1:=by rw[h];rfl
theorem DD.slot (D:DD P fid bj n call ops Fs Hs Vs vs hes):∀ {i:Nat},i≤ops.length→ ∀ {t:Nat},t<512→
 (∃j,j<i∧jy ops j=some t∧T3.get (p3 t) (Fs i)=vs j)∨((∀j,j<i→jy ops j≠some t)∧T3.get (p3 t) (Fs i)=T3.get (p3 t) (Fs 0)):=by
 intro i;induction i with
 |zero=>intro _ t _;exact .inr ⟨fun j A=>by omega,rfl⟩
 |succ i y=>
  intro I t ht;obtain⟨o,b,h1,G,_,_,_,F,_⟩:=D.ts i (by omega);have l:jy ops i=o.dst:=by simp[jy,h1]
  rw[F];cases u:o.dst with
  |none=>
   rcases y (by omega) ht with⟨j,k1,q,v⟩|⟨k1,q⟩
   ·exact .inl ⟨j,by omega,q,v⟩
   ·refine .inr ⟨fun j A=> ?_,q⟩;by_cases e:j=i
    ·rw[e,l,u];simp
    ·exact k1 j (by omega)
  |some d=>
   have w:d<512:=Nat.lt_of_lt_of_le (KO G d u) D.hn;by_cases e:t=d
   ·subst e;refine .inl ⟨i,by omega,by rw[l,u],?_⟩;show T3.get (p3 t) (T3.set (p3 t) (vs i) (Fs i))=vs i;rw[tW ht ht,if_pos rfl]
   ·have E:T3.get (p3 t) (gS (some d) (vs i) (Fs i))=T3.get (p3 t) (Fs i):=by show T3.get (p3 t) (T3.set (p3 d) (vs i) (Fs i))= _;rw[tW ht w,if_neg e]
    rw[E];rcases y (by omega) ht with⟨j,k1,q,v⟩|⟨k1,q⟩
    ·exact .inl ⟨j,by omega,q,v⟩
    ·refine .inr ⟨fun j A=> ?_,q⟩;by_cases H:j=i
     ·rw[H,l,u];intro h;injection h with h;exact e h.symm
     ·exact k1 j (by omega)
structure DI (P:Program) (ops:List Oper) (Fs:Nat→Fr) (Hs:Nat→Hp) (vs:Nat→EV) (ρ0:br) (σ0:AS) (L:Nat→Prop) (s:AW.Fr) (σ:AS) (p:Nat) (ρ:br) (σp:AS):Prop where
 cl:∀i,L i→ ∀o,ops[i]? =some o→ ∀e∈o.after.toList,Region.binds .any e=true→L e.on
 lm:∀i,L i→i<ops.length
 pe:∀e,e<ops.length→(kinds P ops).getD e 0=3→(L e↔e<p)
 pb:p=0∨ ∃e,p=e+1∧(kinds P ops).getD e 0=3∧e<ops.length
 Nx:∀j q,ρ j=some q→j<(Hs p).c∨ ∃a,L a∧p≤a∧(Hs a).c<(Hs (a+1)).c∧j=(Hs a).c
 lt:∀j q,ρ j=some q→j<32768
 TR:br.le ρ0 ρ
 sl:∀i o t,L i→ops[i]? =some o→o.dst=some t→VR (ρ.cut (Hs (i+1)).c) (vs i) (s t)
 Sz:∀t,t<512→(∀i,L i→jy ops i≠some t)→VR (ρ.cut (Hs 0).c) (T3.get (p3 t) (Fs 0)) (s t)
 r:R P (ρ.cut (Hs p).c) σp (Hs p) σ
 le:AS.le σ0 σp
 zP:∀a b,L a→p≤a→Hs (a+1)=(Hs a).new b→(Hs a).c<32768→(kinds P ops).getD a 0=2→ ∃x N ab,ρ (Hs a).c=some (x,N)∧σp x=some ab∧σ0 x=none∧BR P (ρ.cut ((Hs a).c+1)) N b ab
 B2:∀a a' x N N',L a→L a'→p≤a→p≤a'→(Hs a).c<(Hs (a+1)).c→(Hs a').c<(Hs (a'+1)).c→ρ (Hs a).c=some (x,N)→ρ (Hs a').c=some (x,N')→a=a'
variable {ρ0:br} {σ0:AS} {L:Nat→Prop} {s:AW.Fr} {σ σp:AS} {p:Nat} {ρ:br}
theorem DI.pm (I:DI P ops Fs Hs vs ρ0 σ0 L s σ p ρ σp):p≤ops.length:=by rcases I.pb with h|⟨e,h1,_,j⟩<;>omega
theorem DI.advance (D:DD P fid bj n call ops Fs Hs Vs vs hes) (I:DI P ops Fs Hs vs ρ0 σ0 L s σ p ρ σp):∀ {q:Nat},p≤q→q≤ops.length→(∀k,p≤k→k<q→(kinds P ops).getD k 0≠3∧((kinds P ops).getD k 0=2→L k))→
 ∃l,R P (ρ.cut (Hs q).c) l (Hs q) σ∧AS.le σ0 l∧ ∀x b,σp x=some b→(∀a,L a→p≤a→a<q→(Hs a).c<(Hs (a+1)).c→ ∀N,ρ (Hs a).c≠some (x,N))→l x=some b:=by
 intro q;induction q with
 |zero=>
  intro h1 _ _;have:p=0:=by omega
  subst this;exact⟨σp,I.r,I.le,fun x b v _ =>v⟩
 |succ q ih=>
  intro h1 h2 S;by_cases e:p=q+1
  ·subst e;exact⟨σp,I.r,I.le,fun x b v _ =>v⟩
  ·obtain⟨l,g1,g2,g3⟩:=ih (by omega) (by omega) (fun k k1 K=>S k k1 (by omega));obtain⟨Z,K⟩:=S q (by omega) (by omega);rcases D.calm (by omega) Z with he|⟨b,he,O,M⟩
   ·refine⟨l,by rw[he];exact g1,g2,fun x b v hn=>g3 x b v fun a A w U=>hn a A w (by omega)⟩
   ·have H:=K M;obtain⟨x,N,T,E,Y,X,V⟩:=I.zP q b H (by omega) he O M;have G:=Ac he;have u:l x=some T:=by refine g3 x T Y fun a A w U a3 N' ha=> ?_;have:=I.B2 a q x N' N A H w (by omega) a3 (by omega) ha E;omega
    have o:ρ.cut ((Hs q).c+1)=(ρ.cut (Hs q).c).ext (Hs q).c (x,N):=DP E;have:=g1.P9 O u (by rw[←o];exact V);refine⟨_,by rw[G,o,he];exact this,fun j J F=> ?_,fun y J hy hn=> ?_⟩
    ·have:j≠x:=by rintro rfl;rw[X]at F;cases F
     simp only[this,if_false];exact g2 j J F
    ·have:y≠x:=by rintro rfl;exact hn q H (by omega) (by omega) (by omega) N E
     simp only[this,if_false];exact g3 y J hy fun a A w U=>hn a A w (by omega)
theorem DI.before (D:DD P fid bj n call ops Fs Hs Vs vs hes) (I:DI P ops Fs Hs vs ρ0 σ0 L s σ p ρ σp) {i:Nat}{o:Oper}(l:ops[i]? =some o) (u:∀e∈o.after.toList,Region.binds .any e=true→L e.on) {j:Nat}(q:nj ((kK ops []).getD i 0) j=true):L j:=
 NH D.PH I.cl i o l u j q
theorem DI.uh (D:DD P fid bj n call ops Fs Hs Vs vs hes) (I:DI P ops Fs Hs vs ρ0 σ0 L s σ p ρ σp) {i j:Nat}(q:L i) (u:nj ((kK ops []).getD i 0) j=true):L j:=by have l:=I.lm i q;have o:ops[i]? =some ops[i]:=List.getElem?_eq_getElem l;exact I.before D o (I.cl i q _ o) u
theorem uS {ops:List Oper}{B o:List Nat}{j i t:Nat}(h:n9 ops B o j i=true) (q:jy ops j=some t):jy ops i≠some t∧(t∈pX ops i→nj (B.getD i 0) j=true):=by
 simp only[n9,q,Bool.and_eq_true,Bool.or_eq_true,Bool.not_eq_true']at h;obtain⟨⟨⟨h1,l⟩,_⟩,_⟩:=h;constructor
 ·intro u;rw[u]at h1;simp at h1
 ·intro ht;rcases l with l|l
  ·rw[yx.2 ht]at l;cases l
  ·exact l
theorem ET {ops:List Oper}{B o:List Nat}{j i u:Nat}(h:n9 ops B o j i=true) (q:jy ops i=some u) (hu:u∈pX ops j):nj (B.getD i 0) j=true:=by
 simp only[n9,q,Bool.and_eq_true,Bool.or_eq_true,Bool.not_eq_true']at h;rcases h.1.2 with l|l
 ·rw[yx.2 hu]at l;cases l
 ·exact l
theorem uR {ops:List Oper}{B o:List Nat}{j i:Nat}(h:n9 ops B o j i=true) (q:o.getD i 0=3) (l:o.getD j 0=3∨o.getD j 0=2):nj (B.getD i 0) j=true:=by
 simp only[n9,Bool.and_eq_true,Bool.or_eq_true,Bool.not_eq_true',bW,decide_eq_false_iff_not,Bool.or_eq_false_iff]at h;rcases h.2 with(h|h)|h
 ·exact absurd q h
 ·rcases l with l|l
  ·exact absurd l h.1
  ·exact absurd l h.2
 ·exact h
theorem DI.look (D:DD P fid bj n call ops Fs Hs Vs vs hes) (I:DI P ops Fs Hs vs ρ0 σ0 L s σ p ρ σp) {i:Nat}{o:Oper}(A:ops[i]? =some o) (E:¬L i) (J:∀e∈o.after.toList,Region.binds .any e=true→L e.on) {t:Nat}(ht:t∈pX ops i):
 VR (ρ.cut (Hs i).c) ((eK (.tmp t)).get (Fs i)) (s t):=by
 have w:i<ops.length:=(List.getElem?_eq_some_iff.1 A).1;by_cases v:t<512
 ·rw[Dt v];rcases D.slot (by omega:i≤ops.length) v with⟨j,k1,u,G⟩|⟨k1,u⟩
  ·rw[G];have H:=(uS (D.pair k1 w) u).2 ht;have q:=I.before D A J H;have l:ops[j]? =some ops[j]:=List.getElem?_eq_getElem (by omega);have y:ops[j].dst=some t:=by simpa[jy,l]using u
   exact(I.sl j _ t q l y).mono (qW ρ (D.jz (by omega) (by omega)))
  ·rw[u];refine(I.Sz t v fun j q F=> ?_).mono (qW ρ (D.jz (by omega) (by omega)));rcases Nat.lt_trichotomy j i with h|h|h
   ·exact k1 j h F
   ·subst h;exact E q
   ·exact E (I.uh D q (ET (D.pair h (I.lm j q)) F ht))
 ·have:Nat.blt t 512=false:=by rw[dr];simpa using v
  have e:(eK (.tmp t)).get (Fs i)= .any:=by simp[eK,this]
  rw[e];exact .any _
theorem DI.put (D:DD P fid bj n call ops Fs Hs Vs vs hes) (I:DI P ops Fs Hs vs ρ0 σ0 L s σ p ρ σp) {i:Nat}{o:Oper}(K:ops[i]? =some o) (X:¬L i) (Y:∀e∈o.after.toList,Region.binds .any e=true→L e.on)
 {J:AV} {σ' v:AS} {w:Nat} {l:br} (hle:br.le ρ l) (U:VR (l.cut (Hs (i+1)).c) (vs i) J)
 (pe:∀e,e<ops.length→(kinds P ops).getD e 0=3→((L e∨e=i)↔e<w)) (pb:w=0∨ ∃e,w=e+1∧(kinds P ops).getD e 0=3∧e<ops.length)
 (Nx:∀j q,l j=some q→j<(Hs w).c∨ ∃a,(L a∨a=i)∧w≤a∧(Hs a).c<(Hs (a+1)).c∧j=(Hs a).c) (lt:∀j q,l j=some q→j<32768)
 (r:R P (l.cut (Hs w).c) v (Hs w) σ') (le:AS.le σ0 v)
 (zP:∀a b,(L a∨a=i)→w≤a→Hs (a+1)=(Hs a).new b→(Hs a).c<32768→(kinds P ops).getD a 0=2→ ∃x N T,l (Hs a).c=some (x,N)∧v x=some T∧σ0 x=none∧BR P (l.cut ((Hs a).c+1)) N b T)
 (B2:∀a E x N Z,(L a∨a=i)→(L E∨E=i)→w≤a→w≤E→(Hs a).c<(Hs (a+1)).c→(Hs E).c<(Hs (E+1)).c→l (Hs a).c=some (x,N)→l (Hs E).c=some (x,Z)→a=E):
 DI P ops Fs Hs vs ρ0 σ0 (fun k=>L k∨k=i) (s.put o.dst J) σ' w l v:=by
 have F:i<ops.length:=(List.getElem?_eq_some_iff.1 K).1;have H:jy ops i=o.dst:=by simp[jy,K]
 have other:∀t,(∀d,o.dst=some d→t≠d)→(s.put o.dst J) t=s t:=by
  intro t h;cases A:o.dst with
  |none=>rfl
  |some d=>simp[AW.Fr.put,h d A]
 refine⟨?_,?_,pe,pb,Nx,lt,I.TR.trans hle,?_,?_,r,le,zP,B2⟩
 ·rintro k (y|rfl) M u e he S
  ·exact .inl (I.cl k y M u e he S)
  ·rw[K]at u;cases u;exact .inl (Y e he S)
 ·rintro k (y|rfl)
  ·exact I.lm k y
  ·exact F
 ·rintro k M t (y|rfl) u ht
  ·have O:=I.lm k y;have G:jy ops k=some t:=by simp[jy,u,ht]
   have V:k≠i:=by rintro rfl;exact X y
   have:∀d,o.dst=some d→t≠d:=by
    rintro d A rfl;rw[←H]at A;rcases Nat.lt_or_ge k i with h|h
    ·exact(uS (D.pair h F) G).1 A
    ·exact(uS (D.pair (by omega) O) A).1 G
   rw[other t this];exact(I.sl k M t y u ht).mono (ue hle _)
  ·rw[K]at u;cases u;have:(s.put o.dst J) t=J:=by simp[AW.Fr.put,ht]
   rw[this];exact U
 ·intro t ht hn;rw[other t (fun d A e=>hn i (.inr rfl) (by rw[H,A,e]))];exact(I.Sz t ht fun k y=>hn k (.inl y)).mono (ue hle _)
end
end Go.AW.Ev
namespace Go.AW.Ev
variable {P:Program} {n:Nat} {ds:List Deferred} {Q:AQ}
section
variable {fid bj:Nat} {call:Call} {ops:List Oper} {Fs:Nat→Fr} {Hs Vs:Nat→Hp} {vs:Nat→EV} {hes:List (Nat×Hp)}
variable {ρ0:br} {σ0:AS} {L:Nat→Prop} {s:AW.Fr} {σ σp:AS} {p:Nat} {ρ:br}
def Bj (P:Program) (ops:List Oper) (Fs:Nat→Fr) (Hs:Nat→Hp) (vs:Nat→EV) (ρ0:br) (σ0:AS) (L:Nat→Prop) (i:Nat) (o:AW.Fr) (σ':AS):Prop:=
 ∃q l j,DI P ops Fs Hs vs ρ0 σ0 (fun k=>L k∨k=i) o σ' q l j
theorem DI.HV (D:DD P fid bj n call ops Fs Hs Vs vs hes) (I:DI P ops Fs Hs vs ρ0 σ0 L s σ p ρ σp) {i:Nat}{o:Oper}(y:ops[i]? =some o) (E:¬L i) (G:∀e∈o.after.toList,Region.binds .any e=true→L e.on) (A:(kinds P ops).getD i 0=3):
 p≤i∧(∀e,e<ops.length→(kinds P ops).getD e 0=3→((L e∨e=i)↔e<i+1))∧ ∀k,p≤k→k<i→(kinds P ops).getD k 0≠3∧((kinds P ops).getD k 0=2→L k):=by
 have v:i<ops.length:=(List.getElem?_eq_some_iff.1 y).1;have le:∀e,e<ops.length→(kinds P ops).getD e 0=3→L e→e<i:=by
  intro e he j l;rcases Nat.lt_trichotomy e i with h|h|h
  ·exact h
  ·subst h;exact absurd l E
  ·exact absurd (I.uh D l (uR (D.pair h he) j (.inl A))) E
 have ge:∀e,e<i→((kinds P ops).getD e 0=3∨(kinds P ops).getD e 0=2)→L e:=fun e he j=>I.before D y G (uR (D.pair he v) A j);have F:p≤i:=by
  rcases I.pb with h|⟨e,h1,u,q⟩
  ·omega
  ·have:=le e q u ((I.pe e q u).2 (by omega));omega
 refine⟨F,fun e he j=>⟨?_,fun h=> ?_⟩,fun k k1 w=>⟨fun q=> ?_,fun u=>ge k w (.inr u)⟩⟩
 ·rintro(h|rfl)
  ·have:=le e he j h;omega
  ·omega
 ·by_cases H:e=i
  ·exact .inr H
  ·exact .inl (ge e (by omega) (.inl j))
 ·have:=(I.pe k (by omega) q).1 (ge k w (.inl q));omega
theorem DI.behind (D:DD P fid bj n call ops Fs Hs Vs vs hes) (I:DI P ops Fs Hs vs ρ0 σ0 L s σ p ρ σp) {i:Nat}{o:Oper}(T:ops[i]? =some o) (V:¬L i) (hL:∀e∈o.after.toList,Region.binds .any e=true→L e.on) (hk:(kinds P ops).getD i 0=3)
 {y:AS} (g2:AS.le σ0 y) (g3:∀x b,σp x=some b→(∀a,L a→p≤a→a<i→(Hs a).c<(Hs (a+1)).c→ ∀N,ρ (Hs a).c≠some (x,N))→y x=some b)
 {l:br} {av:AV} {σ':AS} (q1:br.le (ρ.cut (Hs i).c) l) (q2:VR l (vs i) av) (O:R P l y (Hs (i+1)) σ'):Bj P ops Fs Hs vs ρ0 σ0 L i (s.put o.dst av) σ':=by
 have J:i<ops.length:=(List.getElem?_eq_some_iff.1 T).1;obtain⟨hp,S,be⟩:=I.HV D T V hL hk;have a8:(Hs p).c≤(Hs i).c:=D.jz hp (by omega);have a9:=D.Ma J
 let v:br:=fun j=>if j<(Hs (i+1)).c then l j else ρ j
 have F:∀ {j},j<(Hs (i+1)).c→v j=l j:=fun h=>if_pos h;have u:∀ {j},(Hs (i+1)).c≤j→v j=ρ j:=fun h=>if_neg (by omega);have early:∀ {a},L a→a<i→(Hs (a+1)).c≤(Hs i).c:=fun _ h=>D.jz (by omega) (by omega);have late:∀ {a},L a→ ¬a<i→i+1≤a:=fun Y h=>by
  have: ‹Nat› ≠i:=by rintro rfl;exact V Y
  omega
 have hle:br.le ρ v:=by
  intro j q w;by_cases h:j<(Hs (i+1)).c
  ·rw[F h];refine q1 j q ?_;have:j<(Hs i).c:=by
    rcases I.Nx j q w with h1|⟨a,G,a1,a2,rfl⟩
    ·omega
    ·by_cases ha:a<i
     ·have:=early G ha;omega
     ·have:=D.jz (late G ha) (Nat.le_of_lt (I.lm a G));omega
   unfold br.cut;rw[if_pos this];exact w
  ·rw[u (by omega)];exact w
 have A:v.cut (Hs (i+1)).c=l:=by
  funext j;unfold br.cut;by_cases h:j<(Hs (i+1)).c
  ·rw[if_pos h,F h]
  ·rw[if_neg h];exact(O.fresh j (by omega)).symm
 refine⟨i+1,v,y,I.put D T V hL hle (by rw[A];exact q2) S (.inr ⟨i,rfl,hk,J⟩) ?_ ?_ (by rw[A];exact O) g2 ?_ ?_⟩
 ·intro j q w;by_cases h:j<(Hs (i+1)).c
  ·exact .inl h
  ·rw[u (by omega)]at w;rcases I.Nx j q w with h1|⟨a,G,a1,a2,rfl⟩
   ·omega
   ·refine .inr ⟨a,.inl G,?_,a2,rfl⟩;by_cases ha:a<i
    ·have:=early G ha;omega
    ·exact late G ha
 ·intro j q w;by_cases h:j<(Hs (i+1)).c
  ·rw[F h]at w;exact O.rb.lt j q w
  ·rw[u (by omega)]at w;exact I.lt j q w
 ·rintro a b (ha|rfl) E hn hc U
  ·obtain⟨x,N,ab,k1,k2,k3,k4⟩:=I.zP a b ha (by omega) hn hc U;have X:(Hs (i+1)).c≤(Hs a).c:=D.jz E (Nat.le_of_lt (I.lm a ha));refine⟨x,N,ab,by rw[u X];exact k1,g3 x ab k2 fun M b0 Z b2 b3 N' hb=> ?_,k3,k4.mono (ue hle _)⟩;have:=I.B2 M a x N' N b0 ha Z (by omega) b3 (by rw[Ac hn];omega) hb k1;omega
  ·omega
 ·rintro a M x N N' (ha|rfl) (K|rfl) E H Z b2 e1 e2
  ·rw[u (D.jz E (Nat.le_of_lt (I.lm a ha)))]at e1;rw[u (D.jz H (Nat.le_of_lt (I.lm M K)))]at e2;exact I.B2 a M x N N' ha K (by omega) (by omega) Z b2 e1 e2
  ·omega
  ·omega
  ·rfl
theorem DI.calm (D:DD P fid bj n call ops Fs Hs Vs vs hes) (I:DI P ops Fs Hs vs ρ0 σ0 L s σ p ρ σp) {i:Nat}{o:Oper}(J:ops[i]? =some o) (O:¬L i) (T:∀e∈o.after.toList,Region.binds .any e=true→L e.on) (K:(kinds P ops).getD i 0≠3)
 (w:Hs (i+1)=Hs i) {G:AV} (H:VR (ρ.cut (Hs i).c) (vs i) G):Bj P ops Fs Hs vs ρ0 σ0 L i (s.put o.dst G) σ:=by
 refine⟨p,ρ,σp,I.put D J O T (.refl ρ) (by rw[w];exact H) (fun e he v=> ?_) I.pb (fun j q M=> ?_) I.lt I.r I.le ?_ ?_⟩
 ·rw[←I.pe e he v];constructor
  ·rintro(h|rfl)
   ·exact h
   ·exact absurd v K
  ·exact .inl
 ·rcases I.Nx j q M with h|⟨a,a0,Z,Y,X⟩
  ·exact .inl h
  ·exact .inr ⟨a,.inl a0,Z,Y,X⟩
 ·rintro a b (ha|rfl) l hn S y
  ·exact I.zP a b ha l hn S y
  ·have:=Ac hn;rw[w]at this;omega
 ·rintro a a' x N N' (ha|rfl) (A|rfl) l u F E V U
  ·exact I.B2 a a' x N N' ha A l u F E V U
  ·rw[w]at E;omega
  ·rw[w]at F;omega
  ·rfl
theorem DI.made (D:DD P fid bj n call ops Fs Hs Vs vs hes) (I:DI P ops Fs Hs vs ρ0 σ0 L s σ p ρ σp) {i:Nat}{o:Oper}(ho:ops[i]? =some o) (hi:¬L i) (hL:∀e∈o.after.toList,Region.binds .any e=true→L e.on) (X:(kinds P ops).getD i 0=2)
 {b:v7} (hH:Hs (i+1)=(Hs i).new b) (hc:(Hs i).c<32768) {x N:Nat} {Z:cL} {av:AV} (hx:σ x=none) (hb:BR P ((ρ.cut (Hs i).c).ext (Hs i).c (x,N)) N b Z) (hv:VR ((ρ.cut (Hs i).c).ext (Hs i).c (x,N)) (vs i) av):
 Bj P ops Fs Hs vs ρ0 σ0 L i (s.put o.dst av) (σ.set x Z):=by
 have cb:i<ops.length:=(List.getElem?_eq_some_iff.1 ho).1;have a6:=Ac hH;have hp:p≤i:=by
  rcases I.pb with h|⟨e,h1,H,v⟩
  ·omega
  ·have a7:=(I.pe e v H).2 (by omega);rcases Nat.lt_trichotomy e i with h|h|h
   ·omega
   ·subst h;rw[H]at X;cases X
   ·exact absurd (I.uh D a7 (uR (D.pair h v) H (.inr X))) hi
 have a4:(Hs p).c≤(Hs i).c:=D.jz hp (by omega);have free:ρ (Hs i).c=none:=by
  cases hq:ρ (Hs i).c with
  |none=>rfl
  |some q=>
   exfalso;rcases I.Nx _ q hq with h|⟨a,T,a1,a2,a3⟩
   ·omega
   ·rcases Nat.lt_trichotomy a i with h|h|h
    ·have:=D.jz (show a+1≤i by omega) (by omega);omega
    ·subst h;exact hi T
    ·have:=D.jz (show i+1≤a by omega) (Nat.le_of_lt (I.lm a T));omega
 have hle:=br.ou free (x,N);have u:∀c,c≤(Hs i).c→(ρ.ext (Hs i).c (x,N)).cut c=ρ.cut c:=by
  intro c h;funext j;unfold br.cut br.ext;by_cases h1:j<c
  ·rw[if_pos h1,if_pos h1,if_neg (by omega)]
  ·rw[if_neg h1,if_neg h1]
 have G:(ρ.ext (Hs i).c (x,N)).cut ((Hs i).c+1)=(ρ.cut (Hs i).c).ext (Hs i).c (x,N):=by rw[DP (br.fI _ _ _),u _ (Nat.le_refl _)]
 have other:∀ {j},j≠(Hs i).c→(ρ.ext (Hs i).c (x,N)) j=ρ j:=fun h=>if_neg h;have A:σp x=none:=by
  cases hs:σp x with
  |none=>rfl
  |some O=>have:=I.r.le x O hs;rw[hx]at this;cases this
 have U:σ0 x=none:=by
  cases hs:σ0 x with
  |none=>rfl
  |some O=>have:=I.le x O hs;rw[A]at this;cases this
 have apart:∀ {a},L a→(Hs a).c<(Hs (a+1)).c→(Hs a).c≠(Hs i).c:=by
  intro a T a2 e;rcases Nat.lt_trichotomy a i with h|h|h
  ·have:=D.jz (show a+1≤i by omega) (by omega);omega
  ·subst h;exact hi T
  ·have:=D.jz (show i+1≤a by omega) (Nat.le_of_lt (I.lm a T));omega
 refine⟨p,ρ.ext (Hs i).c (x,N),σp.set x Z,I.put D ho hi hL hle (by rw[a6,G];exact hv) (fun e he V=> ?_) I.pb (fun j q Y=> ?_) (fun j q Y=> ?_) (by rw[u _ a4];exact I.r.more Z hx) (AS.ao I.le U) ?_ ?_⟩
 ·rw[←I.pe e he V];constructor
  ·rintro(h|rfl)
   ·exact h
   ·rw[V]at X;cases X
  ·exact .inl
 ·by_cases e:j=(Hs i).c
  ·exact .inr ⟨i,.inr rfl,hp,by omega,e⟩
  ·rw[other e]at Y;rcases I.Nx j q Y with h|⟨a,T,a1,a2,a3⟩
   ·exact .inl h
   ·exact .inr ⟨a,.inl T,a1,a2,a3⟩
 ·by_cases e:j=(Hs i).c
  ·omega
  ·rw[other e]at Y;exact I.lt j q Y
 ·rintro a O (ha|rfl) E hn a5 ay
  ·obtain⟨y,M,S,k1,w,k3,k4⟩:=I.zP a O ha E hn a5 ay;have ax:=apart ha (by rw[Ac hn];omega);have ap:y≠x:=by rintro rfl;rw[A]at w;cases w
   exact⟨y,M,S,by rw[other ax];exact k1,by rw[AS.ag _ _ ap];exact w,k3,k4.mono (ue hle _)⟩
  ·have:O=b:=by
    rw[hH]at hn;have h1:(((Hs a).new b).get (Hs a).c)=(((Hs a).new O).get (Hs a).c):=by rw[hn]
    rw[Hp.o9 hc hc,Hp.o9 hc hc,if_pos rfl,if_pos rfl]at h1;exact h1.symm
   subst this;exact⟨x,N,Z,br.fI _ _ _,by simp,U,by rw[G];exact hb⟩
 ·rintro a a' y M M' (ha|rfl) (l|rfl) E F b1 b2 K J
  ·rw[other (apart ha b1)]at K;rw[other (apart l b2)]at J;exact I.B2 a a' y M M' ha l E F b1 b2 K J
  ·exfalso;rw[other (apart ha b1)]at K;rw[br.fI]at J;simp only[Option.some.injEq,Prod.mk.injEq]at J;obtain⟨rfl,_⟩:=J;rcases D.calm (I.lm a ha) (fun v=>by have:=(I.pe a (I.lm a ha) v).1 ha;omega)with h|⟨b0,h1,H,v⟩
   ·rw[h]at b1;omega
   ·obtain⟨y',M2,S,k1,w,_,_⟩:=I.zP a b0 ha E h1 H v;rw[K]at k1;simp only[Option.some.injEq,Prod.mk.injEq]at k1;rw[←k1.1,A]at w;cases w
  ·exfalso;rw[other (apart l b2)]at J;rw[br.fI]at K;simp only[Option.some.injEq,Prod.mk.injEq]at K;obtain⟨rfl,_⟩:=K;rcases D.calm (I.lm a' l) (fun v=>by have:=(I.pe a' (I.lm a' l) v).1 l;omega)with h|⟨b0,h1,H,v⟩
   ·rw[h]at b2;omega
   ·obtain⟨y',M2,S,k1,w,_,_⟩:=I.zP a' b0 l F h1 H v;rw[J]at k1;simp only[Option.some.injEq,Prod.mk.injEq]at k1;rw[←k1.1,A]at w;cases w
  ·rfl
theorem DI.go (D:DD P fid bj n call ops Fs Hs Vs vs hes) (I:DI P ops Fs Hs vs ρ0 σ0 L s σ p ρ σp) {i:Nat}{o:Oper}(u:ops[i]? =some o) (J:¬L i) (K:∀e∈o.after.toList,Region.binds .any e=true→L e.on)
 {G0 G:Gh} {a:Act} {w:World} (hle:G0.Le G) (V:kO P G n ds s σ a w) {next:Act→World→Prop} (hn:∀G' M σ' O w',G0.Le G'→kO P G' n ds M σ' O w'→Bj P ops Fs Hs vs ρ0 σ0 L i M σ'→next O w'):
 if Region.wanted o (yielded ops.toArray a.tmps)then o.wp P a w next (LQ P n ds Q G0)else next (a.put o.dst undef) w:=by
 have bv:i<ops.length:=(List.getElem?_eq_some_iff.1 u).1;obtain⟨o',b,h1,h2,h3,h4,h5,h6,h7,h8⟩:=D.ts i bv;rw[u]at h1;cases h1;have H:pX ops i=o.looksAt ops.toArray:=by simp[pX,u]
 have hX:∀x∈o.op.operands,XR (ρ.cut (Hs i).c) (Fs i) s x:=by
  intro x hx;cases x with
  |tmp t=>refine I.look D u J K ?_;rw[H];unfold Oper.looksAt;refine List.mem_append.2 (.inl ?_);rw[List.mem_filterMap];exact⟨.tmp t,by simpa using hx,rfl⟩
  |const v=>exact VR.LV _ v
  |global g=>exact .any _
  |func f=>exact .Cq f
 have hG:GX (ρ.cut (Hs i).c) ops.toArray (Fs i) s o:=by intro j want d hg hd;refine I.look D u J K ?_;rw[H];unfold Oper.looksAt;refine List.mem_append.2 (.inr ?_);rw[hg];rw[List.getElem?_toArray]at hd;simp[hd]
 have hw:=rv V hG h3;rw[hw];have X:=DC (P:=P) u;have b5:=KO h2;cases b with
 |false=>
  obtain⟨e1,e2⟩:=h5 rfl;simp only[Bool.false_eq_true,if_false];refine hn G _ σ _ w hle (V.put (.refl G) V.inv o.dst b5 (.sc _)) ?_;by_cases y:(kinds P ops).getD i 0=3
  ·obtain⟨hp,_,Z⟩:=I.HV D u J K y;obtain⟨a6,g1,g2,g3⟩:=I.advance D hp (by omega) Z;exact I.behind D u J K y g2 g3 (.refl _) (by rw[e1];exact xX) (by rw[e2];exact g1)
  ·exact I.calm D u J K y e2 (by rw[e1];exact xX)
 |true=>
  simp only[if_true];have he:=h4 rfl;have A:=LS (P:=P) (n:=n) (ds:=ds) (Q:=Q) o;unfold nE at he;cases l:aZ P o.op with
  |nK f=>rw[l]at he A X;obtain⟨S,q2,q3⟩:=he;have:=XO.MB (n:=n) (ds:=ds) (Q:=Q) (fun Pn=>A _ _ s σ hX (by rw[S];exact q2) (fun E σ'=>σ'=σ∧VR (ρ.cut (Hs i).c) (vs i) E) Pn fun E F=>⟨rfl,by rw[←S];exact F⟩) h2;refine this G0 G a w hle V _ fun G' M σ' O w' k1 U T=>hn G' M σ' O w' k1 U ?_;obtain⟨E,rfl,rfl,F⟩:=T;exact I.calm D u J K (by rw[X];simp[HU]) q3 F
  |val f=>
   rw[l]at he A X;have ax:(kinds P ops).getD i 0=1:=X;obtain⟨b4,ca⟩:=h8 ax;have bf:(p,Hs p)∈hes:=by
    rcases I.pb with h|⟨e,e1,e2,e3⟩
    ·rw[h];exact D.zero
    ·rw[e1];obtain⟨_,_,_,_,_,_,_,_,q,_⟩:=D.ts e e3;exact q e2
   have cc:allowed (kinds P ops) (kK ops []) i p=true:=by
    unfold allowed;have key:∀m,m≤ops.length→Mh m (fun e=> !Nat.beq ((kinds P ops).getD e 0) 3||((!nj ((kK ops []).getD i 0) e||Nat.blt e p)&&(!Nat.blt e p||Nat.blt e i|| !nj ((kK ops []).getD e 0) i)))=true:=by
     intro m;induction m with
     |zero=>intro _;rfl
     |succ m ih=>
      intro hm;show(_ &&Mh m _)=true;rw[Bool.and_eq_true];refine⟨?_,ih (by omega)⟩;simp only[Bool.and_eq_true,Bool.or_eq_true,Bool.not_eq_true',bW,dr,decide_eq_false_iff_not,decide_eq_true_eq];by_cases y:(kinds P ops).getD m 0=3
      ·refine .inr ⟨?_,?_⟩
       ·cases hb:nj ((kK ops []).getD i 0) m with
        |false=>exact .inl rfl
        |true=>exact .inr ((I.pe m (by omega) y).1 (I.before D u K hb))
       ·by_cases ap:m<p
        ·cases hb:nj ((kK ops []).getD m 0) i with
         |false=>exact .inr rfl
         |true=>exact absurd (I.uh D ((I.pe m (by omega) y).2 ap) hb) J
        ·exact .inl (.inl ap)
      ·exact .inl y
    have b1:(kinds P ops).length=ops.length:=by simp[kinds]
    rw[b1];exact key _ (Nat.le_refl _)
   have hc:=ca (p,Hs p) bf cc;have b6:∀w',(g8 P fid bj n ops.toArray o).run call (Fs i) (Hs p) (Hs i) (fun ce ac w=>bif eqv 8 (vs i) w then .norm ce ac else .fail 0)≠ .fail w':=by intro w' e;rw[e]at hc;cases hc
   obtain⟨_,b',r1,r2,_⟩:=qC rfl b6;rw[h3]at r1;simp only[Option.some.injEq]at r1;obtain⟨v',ac,r3,r4⟩:=r2 r1.symm;have bb:vs i=v':=by
    have:vm (bif eqv 8 (vs i) v' then CR.norm (gS o.dst v' (Fs i)) ac else .fail 0)=true:=by rw[←r4];exact hc
    cases ay:eqv 8 (vs i) v' with
    |true=>exact Nr _ _ _ ay
    |false=>rw[ay]at this;cases this
   unfold nE at r3;rw[l]at r3;obtain⟨S,q2,_⟩:=r3;have hH:Hs (i+1)=Hs i:=he.2.2;have be:RB P ρ (Hs p) σ:=I.r.rb.mono (Iw ρ _) I.lt;have:=XO.MB (n:=n) (ds:=ds) (Q:=Q) (fun Pn=>A ρ (Fs i) s σ (Hs p) (fun x hx=>(hX x hx).mono (Iw ρ _)) be (by rw[S];exact q2) (fun E σ'=>σ'=σ∧VR ρ (vs i) E) Pn fun E F=>⟨rfl,by rw[bb,←S];exact F⟩) h2;refine this G0 G a w hle V _ fun G' M σ' O w' k1 U T=>hn G' M σ' O w' k1 U ?_;obtain⟨E,rfl,rfl,F⟩:=T;exact I.calm D u J K (by rw[ax];simp) hH (VR.cut 8 b4 F)
  |new f=>
   rw[l]at he A X;have b2:(kinds P ops).getD i 0=2:=X;obtain⟨b0,mk,S,q2,q3,q4⟩:=he;have Y:(ρ.cut (Hs i).c) (Hs i).c=none:=by unfold br.cut;rw[if_neg (by omega)]
   have b3:=(A _ _ s σ b0 mk (Hs i).c hX S Y).2;have:=XO.MB (n:=n) (ds:=ds) (Q:=Q) (fun Pn=>b3 (fun E σ'=>Bj P ops Fs Hs vs ρ0 σ0 L i (s.put o.dst E) σ') Pn fun x N ab E hx hb F=>I.made D u J K b2 q4 q2 hx hb (by rw[q3];exact F)) h2;refine this G0 G a w hle V _ fun G' M σ' O w' k1 U T=>hn G' M σ' O w' k1 U ?_;obtain⟨E,rfl,F⟩:=T;exact F
  |wE f=>
   have ar:(kinds P ops).getD i 0=3:=by rw[X,l];rfl
   obtain⟨hp,_,Z⟩:=I.HV D u J K ar;obtain⟨a6,g1,g2,g3⟩:=I.advance D hp (by omega) Z;have a0:nE P call o (Fs i) (Hs i) (Hs i) (vs i) (Hs (i+1)):=by unfold nE;rw[l];rw[l]at he;exact he
   have:=(vu (n:=n) (ds:=ds) (Q:=Q) D.dJ a0 hX g1 h2).2;refine this G0 G a w hle V _ fun G' M σ' O w' k1 U T=>hn G' M σ' O w' k1 U ?_;obtain⟨ch,E,e1,rfl,e2,e3⟩:=T;exact I.behind D u J K ar g2 g3 e1 e2 e3
  |bad w'=>rw[l]at he;exact he.elim
end
end Go.AW.Ev
namespace Go.AW.Ev
variable {P:Program} {n:Nat} {ds:List Deferred} {Q:AQ}
theorem count_set:∀ {l:List Bool}{i:Nat},l[i]? =some false→(l.set i true).count false+1=l.count false
 |[],i,h=>by simp at h
 |b::l,0,h=>by simp at h;subst h;simp
 |b::l,i+1,h=>by have:=count_set (l:=l) (i:=i) (by simpa using h);simp only[List.set_cons_succ,List.count_cons];omega
theorem vE:∀ {l:List Bool},l.count false=0→ ∀i,i<l.length→l[i]? =some true
 |[],_,i,j=>by simp at j
 |b::l,h,i,j=>by
  simp only[List.count_cons]at h;cases b with
  |false=>simp at h
  |true=>
   cases i with
   |zero=>rfl
   |succ i=>simpa using vE (l:=l) (by simpa using h) i (by simpa using j)
section
variable {fid bj:Nat} {call:Call} {ops:List Oper} {Fs:Nat→Fr} {Hs Vs:Nat→Hp} {vs:Nat→EV} {hes:List (Nat×Hp)}
variable {ρ0:br} {σ0:AS}
theorem DI.fin (D:DD P fid bj n call ops Fs Hs Vs vs hes) {L:Nat→Prop}{s:AW.Fr}{σ σp:AS}{p:Nat}{ρ:br}(I:DI P ops Fs Hs vs ρ0 σ0 L s σ p ρ σp) (h0:∀j,(Hs 0).c≤j→ρ0 j=none) (l:∀i,i<ops.length→L i):
 ∃o,br.le ρ0 o∧FR o (Fs ops.length) s∧R P o σ0 (Hs ops.length) σ:=by
 obtain⟨A,g1,g2,_⟩:=I.advance D I.pm (Nat.le_refl _) (fun k k1 u=>⟨fun G=>by have:=(I.pe k u G).1 (l k u);omega,fun _ =>l k u⟩);refine⟨ρ.cut (Hs ops.length).c,fun j q w=> ?_,fun t ht=> ?_,g1.base g2⟩
 ·have h1:j<(Hs 0).c:=by
   rcases Nat.lt_or_ge j (Hs 0).c with h|h
   ·exact h
   ·rw[h0 j h]at w;cases w
  have:=D.jz (Nat.zero_le ops.length) (Nat.le_refl _);unfold br.cut;rw[if_pos (by omega)];exact I.TR j q w
 ·rcases D.slot (Nat.le_refl ops.length) ht with⟨j,k1,u,E⟩|⟨k1,u⟩
  ·rw[E];have v:ops[j]? =some ops[j]:=List.getElem?_eq_getElem (by omega);have y:ops[j].dst=some t:=by simpa[jy,v]using u
   exact(I.sl j _ t (l j k1) v y).mono (qW ρ (D.jz (by omega) (Nat.le_refl _)))
  ·rw[u];exact(I.Sz t ht fun i F=>k1 i (I.lm i F)).mono (qW ρ (D.jz (Nat.zero_le _) (Nat.le_refl _)))
theorem NP (D:DD P fid bj n call ops Fs Hs Vs vs hes) (h0:∀j,(Hs 0).c≤j→ρ0 j=none) {G0:Gh}(hq:∀o U σ',br.le ρ0 o→FR o (Fs ops.length) U→R P o σ0 (Hs ops.length) σ'→Q .normal U σ'):
 ∀(f:Nat) (l:Array Bool) (G:Gh) (s:AW.Fr) (σ:AS) (a:Act) (w:World),l.size=ops.length→l.toList.count false≤f→
  (∃p ρ σp,DI P ops Fs Hs vs ρ0 σ0 (fun k=>l.getD k false=true) s σ p ρ σp)→G0.Le G→kO P G n ds s σ a w→wpAny P .any ops.toArray (LQ P n ds Q G0) f l a w:=by
 have fin:∀(l:Array Bool) (G:Gh) (s:AW.Fr) (σ:AS) (a:Act) (w:World),(∃p ρ σp,DI P ops Fs Hs vs ρ0 σ0 (fun k=>l.getD k false=true) s σ p ρ σp)→G0.Le G→kO P G n ds s σ a w→(∀i,i<ops.length→l.getD i false=true)→LQ P n ds Q G0 .normal a w:=by rintro l G s σ a w ⟨p,ρ,σp,I⟩ hle H u;obtain⟨o,k1,Z,Y⟩:=I.fin D h0 u;exact⟨G,s,σ,hle,H,hq o s σ k1 Z Y⟩
 have ready:∀ {l:Array Bool},l.size=ops.length→Region.ready .any ops.toArray l= []→ ∀i,i<ops.length→l.getD i false=true:=by
  intro l v hr i;induction i using Nat.strongRecOn with
  | _ i ih=>
   intro q;cases O:l.getD i false with
   |true=>rfl
   |false=>
    exfalso;have:i∈Region.ready .any ops.toArray l:=by
     unfold Region.ready;rw[List.mem_filter];refine⟨by simpa using q,?_⟩;have V:ops.toArray[i]? =some ops[i]:=by rw[List.getElem?_toArray];exact List.getElem?_eq_getElem q
     rw[V];have h1:l.getD i true=false:=by rw[Array.getD_eq_getD_getElem?,Array.getElem?_eq_getElem (by omega)]at O⊢;simpa using O
     rw[h1];simp only[Bool.not_false,Option.map_some,Option.getD_some,Bool.true_and];rw[Array.all_eq_true'];intro e he;rw[Bool.or_eq_true];cases hb:Region.binds .any e with
     |false=>exact .inl rfl
     |true=>have ai:=D.PH i ops[i] (List.getElem?_eq_getElem q) e (by simpa using he) hb;exact .inr (ih e.on ai (by omega))
    rw[hr]at this;cases this
 intro f;induction f with
 |zero=>
  intro l G s σ a w v hc X hle H;have u:∀i,i<ops.length→l.getD i false=true:=by intro i q;have:=vE (by omega:l.toList.count false=0) i (by simpa[v]using q);rw[Array.getElem?_toList]at this;rw[Array.getD_eq_getD_getElem?,this];rfl
  refine⟨?_,fin l G s σ a w X hle H u⟩;cases hr:Region.ready .any ops.toArray l with
  |nil=>rfl
  |cons i r=>
   exfalso;have q:i∈Region.ready .any ops.toArray l:=by rw[hr];simp
   unfold Region.ready at q;rw[List.mem_filter]at q;have y:i<ops.length:=by simpa using q.1
   have h1:=u i y;have h2:l.getD i true=true:=by rw[Array.getD_eq_getD_getElem?,Array.getElem?_eq_getElem (by omega)]at h1⊢;simpa using h1
   rw[h2]at q;simp at q
 |succ f ih=>
  intro l G s σ a w v hc X hle H;refine⟨fun he=>fin l G s σ a w X hle H (ready v he),fun i q=> ?_⟩;unfold Region.ready at q;rw[List.mem_filter]at q;obtain⟨al,F⟩:=q;have y:i<ops.length:=by simpa using al
  have V:ops[i]? =some ops[i]:=List.getElem?_eq_getElem y;have K:ops.toArray[i]? =some ops[i]:=by rw[List.getElem?_toArray];exact V
  rw[K]at F;simp only[Option.map_some,Option.getD_some,Bool.and_eq_true,Bool.not_eq_true']at F;obtain⟨M,T⟩:=F;have A:l.toList[i]? =some false:=by rw[Array.getD_eq_getD_getElem?,Array.getElem?_eq_getElem (by omega)]at M;rw[Array.getElem?_toList,Array.getElem?_eq_getElem (by omega)];simpa using M
  have E:¬(l.getD i false=true):=by rw[Array.getD_eq_getD_getElem?,←Array.getElem?_toList,A];simp
  have S:∀e∈ops[i].after.toList,Region.binds .any e=true→l.getD e.on false=true:=by intro e he hb;rw[Array.all_eq_true']at T;have:=T e (by simpa using he);rw[hb]at this;simpa using this
  obtain⟨p,ρ,σp,I⟩:=X;have:=I.go (Q:=Q) D V E S hle H (next:=wpAny P .any ops.toArray (LQ P n ds Q G0) f (l.setIfInBounds i true)) (fun G' U σ' a' w' k1 Z Y=>by
   refine ih _ G' U σ' a' w' (by simpa using v) ?_ ?_ k1 Z
   ·have av:=count_set A;rw[Array.toList_setIfInBounds];omega
   ·obtain⟨p',o,J,I'⟩:=Y;refine⟨p',o,J,?_⟩;have e:(fun k=>(l.setIfInBounds i true).getD k false=true)=(fun k=>l.getD k false=true∨k=i):=by
     funext k;apply propext;by_cases hk:k=i
     ·subst hk;simp[Array.getD_eq_getD_getElem?,v,y]
     ·have:(l.setIfInBounds i true).getD k false=l.getD k false:=by rw[Array.getD_eq_getD_getElem?,Array.getD_eq_getD_getElem?,Array.getElem?_setIfInBounds_ne (Ne.symm hk)]
      rw[this];simp[hk]
    rw[e];exact I')
  unfold wpOp;simp only[K];by_cases hw:Region.wanted ops[i] (yielded ops.toArray a.tmps)=true
  ·rw[if_pos hw]at this⊢;exact .inl this
  ·rw[if_neg hw]at this⊢;exact this
end
theorem uF (hn:n≤512) (hm:P.follows .mixedOrders=true) {fid bj:Nat}{call:Call}(dJ:jQ P call) {ops:List Oper}{F:Fr}{H:Hp}{r:CR}(h:tE P fid bj n call ops F H=r) (U:∀w,r≠ .fail w):
 ∃X S,r= .norm X S∧H.c≤S.c∧ ∀(ρ:br) (σ0:AS) (s:AW.Fr) (σ:AS),FR ρ F s→R P ρ σ0 H σ→(∀u T σ',br.le ρ u→FR u X T→R P u σ0 S σ'→Q .normal T σ')→aA P n ds (.region bj ops.toArray true) Q s σ:=by
 unfold tE at h;simp only at h;cases v:B9 ops (kK ops []) (kinds P ops)with
 |false=>rw[v]at h;exact absurd h.symm (U _)
 |true=>
  rw[v]at h;simp only[cond_true]at h;obtain⟨Fs,Hs,Vs,vs,E,e1,K,_,e3,e4,_,e6⟩:=Ew ops 0 F H H [(0,H)] [] r (by simp) (Nat.zero_le _) h U;have D:DD P fid bj n call ops Fs Hs Vs vs E:=⟨hn,dJ,v,fun k y=>e6 k (Nat.zero_le _) y,by rw[K];exact e4 _ (by simp)⟩;have I:=D.jz (Nat.zero_le ops.length) (Nat.le_refl _);rw[K]at I;refine⟨_,_,e3,I,fun ρ σ0 s σ Z O Y=>fun G0 G a w h1 J=>wp_region_any hm ?_⟩;have h0:∀j,(Hs 0).c≤j→ρ j=none:=by rw[K];exact O.fresh
  have M:kO P G n ds s σ a { w with drawn:=w.drawn+1 } :=⟨J.inv.drew,J.size,J.ds,J.rep⟩;refine NP (ρ0:=ρ) (σ0:=σ0) D h0 Y _ _ G s σ a _ (by simp) (by simp) ⟨0,ρ,σ0,?_⟩ h1 M;have l:ρ.cut (Hs 0).c=ρ:=Fu h0;have none:∀ {k:Nat},¬((Array.replicate ops.toArray.size false).getD k false=true):=by
   intro k;rw[Array.getD_eq_getD_getElem?];by_cases y:k<ops.toArray.size
   ·rw[Array.getElem?_replicate,if_pos y];simp
   ·rw[Array.getElem?_replicate,if_neg y];simp
  refine⟨fun i A=>absurd A none,fun i A=>absurd A none,fun e he y=>⟨fun h=>absurd h none,fun h=>by omega⟩,.inl rfl,fun j q V=> .inl ?_,O.rb.lt,.refl ρ,fun i o t A=>absurd A none,fun t ht _ => ?_,?_,AS.le_refl _,fun a b ha=>absurd ha none,fun a a' x N N' ha=>absurd ha none⟩
  ·rcases Nat.lt_or_ge j (Hs 0).c with h|h
   ·exact h
   ·rw[h0 j h]at V;cases V
  ·rw[l,e1];exact Z t ht
  ·rw[l,K];exact O
end Go.AW.Ev
namespace Go.AW.Ev
variable {P:Program} {n:Nat}
def Va (H:Hp):CR→Prop
 |.fail _ =>False
 |.norm _ j=>H.c≤j.c
 |.exit _ _ j=>H.c≤j.c
 |.ret _ j=>H.c≤j.c
def NT (P:Program) (ρ:br) (σ0:AS) (r:CR) (Q:AQ):Prop:=
 match r with
 |.fail _ =>False
 |.norm F H=> ∀j s σ,br.le ρ j→FR j F s→R P j σ0 H σ→Q .normal s σ
 |.exit id F H=> ∀j s σ,br.le ρ j→FR j F s→R P j σ0 H σ→Q (.exit id) s σ
 |.ret F H=> ∀j s σ,br.le ρ j→FR j F s→R P j σ0 H σ→Q .ret s σ
theorem NT.mono {ρ l:br}{σ0:AS}{r:CR}{Q:AQ}(h:NT P ρ σ0 r Q) (hle:br.le ρ l):NT P l σ0 r Q:=by
 cases r with
 |fail w=>exact h
 |norm F H=>exact fun j s σ h1 q o=>h j s σ (hle.trans h1) q o
 |exit id F H=>exact fun j s σ h1 q o=>h j s σ (hle.trans h1) q o
 |ret F H=>exact fun j s σ h1 q o=>h j s σ (hle.trans h1) q o
theorem NT.Ts {ρ:br}{σ0:AS}{r:CR}{K:AW.Fr→AS→Prop}{Q:AQ}(h:NT P ρ σ0 r Q) (hn:∀F H,r≠ .norm F H):NT P ρ σ0 r (fD K Q):=by
 cases r with
 |fail w=>exact h
 |norm F H=>exact absurd rfl (hn F H)
 |exit id F H=>exact h
 |ret F H=>exact h
theorem aP.LG (s:AW.Fr):aP P s s:=fun _ _ _ h=>h
theorem uC {j r:CR}{k:Fr→Hp→CR}(h:(match j with|.norm F H=>k F H|r=>r)=r) (l:∀w,r≠ .fail w):(∃F H,j= .norm F H∧k F H=r)∨(j=r∧ ∀F H,r≠ .norm F H):=by
 cases j with
 |norm F H=>exact .inl ⟨F,H,rfl,h⟩
 |fail w=>exact absurd h.symm (l w)
 |exit id F H=>exact .inr ⟨h,fun q o e=>by rw[←h]at e;cases e⟩
 |ret F H=>exact .inr ⟨h,fun q o e=>by rw[←h]at e;cases e⟩
theorem ql (hn:n≤512) (hm:P.follows .mixedOrders=true) {fid:Nat}{call:Call}(dJ:jQ P call):∀(fuel:Nat) (c:Code) (F:Fr) (H:Hp) (r:CR),jh P fid n call fuel c F H=r→(∀w,r≠ .fail w)→
 Va H r∧ ∀(ρ:br) (σ0:AS) (s:AW.Fr) (σ:AS) (ds:List Deferred) (Q:AQ),FR ρ F s→R P ρ σ0 H σ→NT P ρ σ0 r Q→aA P n ds c Q s σ:=by
 intro fuel;induction fuel using Nat.strongRecOn with
 | _ fuel V=>
  intro c F H r h D;cases fuel with
  |zero=>exact absurd h.symm (D _)
  |succ m=>
   cases c with
   |skip=>have q:CR.norm F H=r:=h;subst q;exact⟨Nat.le_refl _,fun ρ σ0 s σ ds Q u A v=>aA.skip (v ρ s σ (.refl ρ) u A)⟩
   |label l=>have q:CR.norm F H=r:=h;subst q;exact⟨Nat.le_refl _,fun ρ σ0 s σ ds Q u A v=>aA.label (v ρ s σ (.refl ρ) u A)⟩
   |ret=>have q:CR.ret F H=r:=h;subst q;exact⟨Nat.le_refl _,fun ρ σ0 s σ ds Q u A v=>aA.ret (v ρ s σ (.refl ρ) u A)⟩
   |exit id=>have q:CR.exit id F H=r:=h;subst q;exact⟨Nat.le_refl _,fun ρ σ0 s σ ds Q u A v=>aA.exit (v ρ s σ (.refl ρ) u A)⟩
   |region id ops draw=>
    cases draw with
    |true=>have q:tE P fid id n call ops.toList F H=r:=h;obtain⟨U,T,M,O,e3⟩:=uF (ds:= []) (Q:=fun _ _ _ =>True) hn hm dJ q D;subst M;refine⟨O,fun ρ σ0 s σ ds Q u A v=> ?_⟩;obtain⟨ax,av,f1,_,f3⟩:=uF (ds:=ds) (Q:=Q) hn hm dJ q D;cases f1;have:=f3 ρ σ0 s σ u A (fun o E σ' h1 K X=>v o E σ' h1 K X);rwa [Array.toArray_toList]at this
    |false=>have q:rC P fid id n call ops ops.toList F H=r:=h;obtain⟨U,T,M,O,e3⟩:=wT (ds:= []) (Q:=fun _ _ _ =>True) hn dJ (ops:=ops) ops.toList F H r q D;subst M;refine⟨O,fun ρ σ0 s σ ds Q u A v=>fun G0 G a w h1 K=> ?_⟩;obtain⟨ax,av,f1,_,f3⟩:=wT (ds:=ds) (Q:=Q) hn dJ (ops:=ops) ops.toList F H _ q D;cases f1;have:=f3 ρ σ0 G0 G s σ a w u A h1 K (fun o E σ' h1 K X=>v o E σ' h1 K X);have h4:=wp_region_lit (P:=P) (Q:=LQ P n ds Q G0) (id:=id) (l:=ops.toList) (a:=a) (w:=w) (by rw[Array.toArray_toList];exact this);rwa [Array.toArray_toList]at h4
   |seq x y=>
    have q:(match jh P fid n call m x F H with|.norm F H=>jh P fid n call m y F H|r=>r)=r:=h;rcases uC q D with⟨Z,H1,M,O⟩|⟨M,O⟩
    ·obtain⟨J,S⟩:=V m (by omega) x F H _ M (by simp);obtain⟨b1,b2⟩:=V m (by omega) y Z H1 r O D;refine⟨?_,fun ρ σ0 s σ ds Q u A v=>aA.seq (S ρ σ0 s σ ds _ u A fun o E σ' h1 K X=>b2 o σ0 E σ' ds Q K X (v.mono h1))⟩;have ak:H.c≤H1.c:=J;cases r with
     |fail w=>exact absurd rfl (D w)
     |norm U T=>exact Nat.le_trans ak b1
     |exit id U T=>exact Nat.le_trans ak b1
     |ret U T=>exact Nat.le_trans ak b1
    ·obtain⟨J,S⟩:=V m (by omega) x F H r M D;exact⟨J,fun ρ σ0 s σ ds Q u A v=>aA.seq (S ρ σ0 s σ ds _ u A (v.Ts O))⟩
   |cond c x y=>
    have q:(match (eK c).get F with|.bool t=>bif t then jh P fid n call m x F H else jh P fid n call m y F H| _ => .fail (wh fid 0 201))=r:=h;split at q
    ·rename_i t hv;have ap:∀ {ρ:br} {s:AW.Fr},FR ρ F s→ev s c=zB t:=by intro ρ s u;have:=u.op c;unfold XR at this;rw[hv]at this;generalize ev s c=ac at this;cases this;rfl
     cases t with
     |true=>obtain⟨J,S⟩:=V m (by omega) x F H r q D;exact⟨J,fun ρ σ0 s σ ds Q u A v=>aA.cond (ap u) (fun _ =>S ρ σ0 s σ ds Q u A v) (fun e=>by cases e)⟩
     |false=>obtain⟨J,S⟩:=V m (by omega) y F H r q D;exact⟨J,fun ρ σ0 s σ ds Q u A v=>aA.cond (ap u) (fun e=>by cases e) (fun _ =>S ρ σ0 s σ ds Q u A v)⟩
    ·exact absurd q.symm (D _)
   |block id x=>
    have q:(match jh P fid n call m x F H with|.exit j F H=>bif Nat.beq j id then .norm F H else .exit j F H|r=>r)=r:=h;cases hx:jh P fid n call m x F H with
    |fail w=>rw[hx]at q;exact absurd q.symm (D _)
    |norm Z H1=>rw[hx]at q;simp only at q;subst q;obtain⟨J,S⟩:=V m (by omega) x F H _ hx (by simp);exact⟨J,fun ρ σ0 s σ ds Q u A v=>aA.block (S ρ σ0 s σ ds _ u A fun o E σ' h1 K X=>v o E σ' h1 K X)⟩
    |ret Z H1=>rw[hx]at q;simp only at q;subst q;obtain⟨J,S⟩:=V m (by omega) x F H _ hx (by simp);exact⟨J,fun ρ σ0 s σ ds Q u A v=>aA.block (S ρ σ0 s σ ds _ u A fun o E σ' h1 K X=>v o E σ' h1 K X)⟩
    |exit j Z H1=>
     rw[hx]at q;simp only[bW]at q;obtain⟨J,S⟩:=V m (by omega) x F H _ hx (by simp);by_cases hj:j=id
     ·simp only[hj,decide_true,cond_true]at q;subst q;exact⟨J,fun ρ σ0 s σ ds Q u A v=>aA.block (S ρ σ0 s σ ds _ u A fun o E σ' h1 K X=>by simp only[pY,if_pos hj];exact v o E σ' h1 K X)⟩
     ·simp only[hj,decide_false,cond_false]at q;subst q;exact⟨J,fun ρ σ0 s σ ds Q u A v=>aA.block (S ρ σ0 s σ ds _ u A fun o E σ' h1 K X=>by simp only[pY,if_neg hj];exact v o E σ' h1 K X)⟩
   |loop x=>
    refine⟨?_,fun ρ σ0 s σ ds Q u A v=> ?_⟩
    ·have q:(match jh P fid n call m x F H with|.norm F H=>jh P fid n call m (.loop x) F H|r=>r)=r:=h;rcases uC q D with⟨Z,H1,M,O⟩|⟨M,O⟩
     ·have J:H.c≤H1.c:=(V m (by omega) x F H _ M (by simp)).1;have b1:=(V m (by omega) (.loop x) Z H1 r O D).1;cases r with
      |fail w=>exact absurd rfl (D w)
      |norm U T=>exact Nat.le_trans J b1
      |exit id U T=>exact Nat.le_trans J b1
      |ret U T=>exact Nat.le_trans J b1
     ·exact(V m (by omega) x F H r M D).1
    ·refine aA.loop (I:=fun k E σ'=>k≤m+1∧ ∃U T o,br.le ρ o∧FR o U E∧R P o σ0 T σ'∧jh P fid n call k (.loop x) U T=r) (k0:=m+1) ⟨Nat.le_refl _,F,H,ρ,.refl ρ,u,A,h⟩ (aP.LG s) (AS.le_refl σ) ?_;rintro k E σ' ⟨hk,U,T,o,q1,q2,q3,q4⟩;cases k with
     |zero=>exact absurd q4.symm (D _)
     |succ k=>
      have q:(match jh P fid n call k x U T with|.norm F H=>jh P fid n call k (.loop x) F H|r=>r)=r:=q4;rcases uC q D with⟨Z,H1,M,O⟩|⟨M,O⟩
      ·exact(V k (by omega) x U T _ M (by simp)).2 o σ0 E σ' ds _ q2 q3 fun al am Y g1 g2 g3=>⟨k,am,Y,Nat.lt_succ_self k,aP.LG am,AS.le_refl Y,by omega,Z,H1,al,q1.trans g1,g2,g3,O⟩
      ·exact(V k (by omega) x U T r M D).2 o σ0 E σ' ds _ q2 q3 ((v.mono q1).Ts O)
   | _ =>exact absurd h.symm (D _)
theorem sE:∀(args:List EV) (k:Nat) (F:Fr) (t:Nat),k+args.length≤512→t<512→T3.get (p3 t) (jX args k F)=if k≤t∧t<k+args.length then args.getD (t-k) .any else T3.get (p3 t) F
 |[],k,F,t,_,_ =>by simp only[jX,List.length_nil];rw[if_neg (by omega)]
 |v::r,k,F,t,h,ht=>by
  simp only[List.length_cons]at h⊢;show T3.get (p3 t) (jX r (k+1) (T3.set (p3 k) v F))= _;rw[sE r (k+1) _ t (by omega) ht,tW ht (by omega)];by_cases h1:k+1≤t∧t<k+1+r.length
  ·rw[if_pos h1,if_pos (by omega),show t-k=(t-(k+1))+1 from by omega];rfl
  ·rw[if_neg h1];by_cases j:t=k
   ·subst j;rw[if_pos rfl,if_pos (by omega)];simp
   ·rw[if_neg j,if_neg (by omega)]
theorem KB (t:Nat):T3.get (p3 t) L6= .any:=by unfold L6 T3.all T3.get;rw[N8.lr,N8.lr,N8.lr]
theorem yY {ρ:br}{args:List EV}{j:List AV}(h:VL ρ args j) (hl:args.length≤512):FR ρ (jX args 0 L6) (p8 j):=by
 intro t ht;rw[sE args 0 L6 t (by omega) ht];by_cases h1:0≤t∧t<0+args.length
 ·rw[if_pos h1];exact h.get t
 ·rw[if_neg h1,KB];exact .any _
theorem ye {ρ:br}{F:Fr}{H:Hp}{s:AW.Fr}{σ:AS}(o:FR ρ F s) (w:RB P ρ H σ):∀ {rs:List ResultVar}{vs:List EV}{K:List AV→Prop},fW rs P F H=some vs→(∀j,VL ρ vs j→K j)→er rs P s σ K
 |[],vs,K,h,l=>by simp only[fW,Option.some.injEq]at h;subst h;exact l [] .nil
 |.tmp t::rs,vs,K,h,l=>by simp only[fW,Option.map_eq_some_iff]at h;obtain⟨q,h1,rfl⟩:=h;show er rs P s σ fun vs=>K (s t::vs);exact ye o w h1 fun j ha=>l _ (.cons (o.op (.tmp t)) ha)
 |.cell a t::rs,vs,K,h,l=>by
  simp only[fW]at h;have hl:sR (fC P t) ((eK (.tmp a)).get F) H≠ .any:=by intro e;rw[e]at h;cases h
  have y:(fW rs P F H).map (sR (fC P t) ((eK (.tmp a)).get F) H:: ·)=some vs:=by cases u:sR (fC P t) ((eK (.tmp a)).get F) H<;>rw[u]at h hl<;>first|exact absurd rfl hl|exact h
  rw[Option.map_eq_some_iff]at y;obtain⟨q,h1,rfl⟩:=y;exact DB (K:=fun v=>er rs P s σ fun vs=>K (v::vs)) (o.op (.tmp a)) w hl fun A u=>ye o w h1 fun j ha=>l _ (.cons u ha)
theorem mT {ρ:br}{vs:List EV}{j:List AV}(h:VL ρ vs j):VR ρ (LR vs) (dF j):=by
 cases h with
 |nil=>exact VR.By .nil
 |cons h t=>
  cases t with
  |nil=>exact h
  |cons l t2=>exact VR.By (.cons h (.cons l t2))
theorem yc {rs:List ResultVar}{F:Fr}{H o:Hp}{w:Nat}{v:EV}(h:yd rs P F H w= .ok v o):o=H∧ ∀ {ρ:br}{s:AW.Fr}{σ:AS}{K:AV→Prop},FR ρ F s→RB P ρ H σ→(∀l,VR ρ v l→K l)→er rs P s σ fun vs=>K (dF vs):=by
 unfold yd at h;cases j:fW rs P F H with
 |none=>rw[j]at h;cases h
 |some vs=>rw[j]at h;simp only[lW.ok.injEq]at h;obtain⟨rfl,rfl⟩:=h;exact⟨rfl,fun y u q=>ye y u j fun A ha=>q _ (mT ha)⟩
def I2 (P:Program) (zT:Qb):Prop:= ∀f o,zT f=some o→ ∀args H v q,o args H= .ok v q→H.c≤q.c∧ ∀ρ σ0 σ l,R P ρ σ0 H σ→VL ρ args l→
 ad P f l σ (fun r σ'=> ∃j,br.le ρ j∧VR j v r∧R P j σ0 q σ') No
theorem Aw {f:FuncId}{fn:Func}(h:im P f=true) (hf:P.funcs[f]? =some fn):(fn.name== "runtime.NumGoroutine")=false:=by unfold im at h;rw[hf]at h;simp only[Bool.and_eq_true,Bool.not_eq_true']at h;exact h.2
def RQ (P:Program) (ρ:br) (σ0:AS) (v:EV) (l:Hp) (r:AV) (σ':AS):Prop:= ∃j,br.le ρ j∧VR j v r∧R P j σ0 l σ'
theorem zA (hn:n≤512) {ds:List Deferred}{Q:AQ}{fid bj:Nat}{call:Call}(dJ:jQ P call) {ops:Array Oper} :∀(l:List Oper) (F:Fr) (H:Hp) (r:CR),qF l=true→rC P fid bj n call ops l F H=r→(∀w,r≠ .fail w)→
 ∃J E,r= .norm J E∧H.c≤E.c∧ ∀(ρ:br) (σ0:AS) (s:AW.Fr) (σ:AS),FR ρ F s→R P ρ σ0 H σ→(∀j M σ',br.le ρ j→FR j J M→R P j σ0 E σ'→Q .normal M σ')→bQ P n ds ops Q l s σ:=by
 intro l;induction l with
 |nil=>intro F H r _ h O;exact⟨F,H,h.symm,Nat.le_refl _,fun ρ σ0 s σ I U S=>S ρ s σ (.refl ρ) I U⟩
 |cons o l ih=>
  intro F H r G h O;simp only[qF,Bool.and_eq_true]at G;have D:o.guard=none:=by
   cases T:o.guard with
   |none=>rfl
   |some q=>rw[T]at G;cases G.1
  obtain⟨V,b,u,h1,h2⟩:=qC (show(g8 P fid bj n ops o).run call F H H _ =r from h) O;have hb:b=true:=by unfold Bl at u;rw[D]at u;simpa using u.symm
  obtain⟨v,H1,he,hk⟩:=h1 hb;obtain⟨J,E,e1,e2,e3⟩:=ih _ _ r G.2 hk.symm O;refine⟨J,E,e1,Nat.le_trans (yL dJ he) e2,fun ρ σ0 s σ I U S=> .inl ⟨D,?_⟩⟩;refine nU (vu dJ he (fun x _ =>I.op x) U V).2 fun M σ' ⟨j,av,g1,e,g2,g3⟩=> ?_;subst e;exact e3 j σ0 _ σ' ((I.mono g1).put g2 o.dst fun t ht=>Nat.lt_of_lt_of_le (KO V t ht) hn) g3 fun A K y Z Y X=>S A K y (g1.trans Z) Y X
theorem A1 {α:Type}{b:Bool}{x:Option α}{v:α}(h:(bif b then x else none)=some v):b=true∧x=some v:=by
 cases b with
 |false=>cases h
 |true=>exact⟨rfl,h⟩
theorem Ex (hm:P.follows .mixedOrders=true) {call:Call}(dJ:jQ P call) {m:Nat}{g:FuncId}{E:List EV}{H F:Hp}(h:rD P call m g E H=some F):
 H.c≤F.c∧ ∀(ρ:br) (σ0 σ:AS) (o:List AV) (K:AS→Prop),VL ρ E o→R P ρ σ0 H σ→(∀j σ',br.le ρ j→R P j σ0 F σ'→K σ')→iA P g o σ none K:=by
 unfold rD at h;split at h
 ·rename_i O X;split at h
  ·rename_i bj ops draw y hb;split at h
   ·rename_i d as Z ty pos af l M;have hh:=A1 h;clear h;obtain⟨hc,h⟩:=hh;simp only[Bool.and_eq_true,Bool.not_eq_true',dr,iR,decide_eq_true_eq]at hc;obtain⟨⟨⟨⟨⟨⟨⟨c1,c2⟩,c3⟩,c4⟩,Y⟩,c6⟩,c7⟩,c8⟩:=hc;have has:as= #[]:=by simpa using c2
    subst has c1;have D:ops=((⟨some d,.call ⟨.builtin .recover,#[],Z⟩,ty,pos,af,none⟩:Oper)::l).toArray:=by rw[←M,Array.toArray_toList]
    split at h
    ·rename_i F1 H1 J;obtain⟨bs,bf,e1,e2,e3⟩:=zA (n:=O.ntmps) (ds:= []) (Q:=fun _ _ _ =>True) Y dJ (ops:=ops) l _ H _ c7 J (by simp);cases e1;have key:∀ {r:CR},jh P g O.ntmps call m y F1 H1=r→(∀w,r≠ .fail w)→ ∀G,(r= .norm G F∨r= .ret G F)→
      H.c≤F.c∧ ∀(ρ:br) (σ0 σ:AS) (o:List AV) (K:AS→Prop),VL ρ E o→R P ρ σ0 H σ→(∀j σ',br.le ρ j→R P j σ0 F σ'→K σ')→iA P g o σ none K:=by
      intro r A V G I;obtain⟨a1,a2⟩:=ql Y hm dJ m y F1 H1 r A V;refine⟨?_,fun ρ σ0 σ o K hv hR hk=> ?_⟩
      ·rcases I with rfl|rfl
       ·exact Nat.le_trans e2 a1
       ·exact Nat.le_trans e2 a1
      ·refine iA.of X (by rw[hb,D]) (by simpa using c3) (by rw[←hv.len];exact c6) c4 ?_;obtain⟨ap,am,f1,_,f3⟩:=zA (n:=O.ntmps) (ds:= []) (Q:=fD (aA P O.ntmps [] y (wD K)) (wD K)) Y dJ (ops:=ops) l _ H _ c7 J (by simp);cases f1;rw[←D];refine f3 ρ σ0 _ σ ?_ hR fun j s' σ' g1 g2 g3=> ?_
       ·have:=(yY hv (by omega)).put (v:= .sc .nilIface) (a:= .sc .nilIface) (.sc _) (some d) (fun t ht=>by cases ht;omega);exact this
       ·refine a2 j σ0 s' σ' [] (wD K) g2 g3 ?_;rcases I with rfl|rfl
        ·exact fun u S q U q2 T=>hk u q (g1.trans U) T
        ·exact fun u S q U q2 T=>hk u q (g1.trans U) T
     split at h
     ·rename_i G H2 A;cases h;exact key A (by simp) G (.inl rfl)
     ·rename_i G H2 A;cases h;exact key A (by simp) G (.inr rfl)
     ·cases h
    ·cases h
   ·cases h
  ·cases h
 ·cases h
theorem E7 {c:Code}{f:FuncId}{cap:Array Operand}{d:Nat}(h:Aq c=some (f,cap,d)):∃id l v y o j u w,c= .region id [(⟨some d,.makeFunc (.func f) #[] cap,l,v,y,none⟩:Oper),⟨none,.defer ⟨.value (.tmp d),#[],o⟩,j,u,w,none⟩].toArray false:=by
 cases c<;>first|(cases h;done)|skip
 rename_i id ops draw;simp only[Aq]at h;cases draw with
 |true=>cases h
 |false=>
  simp only[cond_false]at h;split at h
  ·rename_i d1 f1 first D l v y d2 args o j u w q
   obtain⟨A,h⟩:=A1 h;simp only[Option.some.injEq,Prod.mk.injEq]at h;obtain⟨rfl,rfl,rfl⟩:=h;simp only[Bool.and_eq_true,bW,decide_eq_true_eq]at A;obtain⟨⟨rfl,H⟩,G⟩:=A;have F:first= #[]:=by simpa using H
   have E:args= #[]:=by simpa using G
   subst F E;exact⟨id,l,v,y,o,j,u,w,by rw[←q,Array.toArray_toList]⟩
  ·cases h
theorem JI (hm:P.follows .mixedOrders=true) {fn:Func}(hn:fn.ntmps≤512) {fid:Nat}{call:Call}(dJ:jQ P call):∀(fuel:Nat) (c:Code) (F:Fr) (H:Hp) (v:EV) (u:Hp),JJ P fid fn.ntmps call fn.results.toList fuel c F H= .ok v u→
 H.c≤u.c∧ ∀(ρ0 ρ:br) (σ0:AS) (s:AW.Fr) (σ:AS) (O:Gh),br.le ρ0 ρ→FR ρ F s→R P ρ σ0 H σ→ss P fn c (RQ P ρ0 σ0 v u) No O s σ:=by
 intro fuel;induction fuel with
 |zero=>intro c F H v u h;cases h
 |succ m ih=>
  intro c F H v u h;cases c<;>first|(cases h;done)|skip
  rename_i a b;simp only[JJ]at h;cases J:Aq a with
  |some q=>
   obtain⟨f,cap,d⟩:=q;rw[J]at h;simp only at h;obtain⟨hc,h⟩:=nk h;simp only[Bool.and_eq_true,dr,decide_eq_true_eq]at hc;obtain⟨c1,c2⟩:=hc;obtain⟨id,ac,p1,a1,am,ab,p2,a2,rfl⟩:=E7 J;have key:∀ {r:CR} {E:Fr} {H1:Hp} {w1 w2:Nat},jh P fid fn.ntmps call m b (T3.set (p3 d) (.fn f [] (mW cap.toList F)) F) H=r→(r= .norm E H1∨r= .ret E H1)→
    (match rD P call m f (mW cap.toList F) H1 with|some ap=>yd fn.results.toList P E ap w1|none=>lW.fail w2)= .ok v u→
    H.c≤u.c∧ ∀(ρ0 ρ:br) (σ0:AS) (s:AW.Fr) (σ:AS) (O:Gh),br.le ρ0 ρ→FR ρ F s→R P ρ σ0 H σ→ss P fn (.seq (.region id [(⟨some d,.makeFunc (.func f) #[] cap,ac,p1,a1,none⟩:Oper),⟨none,.defer ⟨.value (.tmp d),#[],am⟩,ab,p2,a2,none⟩].toArray false) b) (RQ P ρ0 σ0 v u) No O s σ:=by
    intro r E H1 w1 w2 Y G o;have ak:∀w,r≠ .fail w:=by rcases G with rfl|rfl<;>simp
    obtain⟨k1,X⟩:=ql hn hm dJ m b _ H r Y ak;cases I:rD P call m f (mW cap.toList F) H1 with
    |none=>rw[I]at o;cases o
    |some H2=>
     rw[I]at o;simp only at o;obtain⟨d1,d2⟩:=Ex hm dJ I;obtain⟨rfl,r2⟩:=yc o;refine⟨?_,fun ρ0 ρ σ0 s σ O hle T Z=>ss.defer c1 c2 fun D=> ?_⟩
     ·rcases G with rfl|rfl
      ·exact Nat.le_trans k1 d1
      ·exact Nat.le_trans k1 d1
     ·have A:VL ρ (mW cap.toList F) (cap.toList.map (ev s)):=VL.mW fun x _ =>T.op x;have fin:∀l y σ',br.le ρ l→FR l E y→R P l σ0 H1 σ'→iA P f (cap.toList.map (ev s)) σ' none fun j=>er fn.results.toList P y j fun vs=>Ends P (RQ P ρ0 σ0 v u) j (dF vs):=by intro l y σ' g1 g2 g3;refine d2 l σ0 σ' _ _ (A.mono g1) g3 fun U j q1 q2=> ?_;exact r2 (g2.mono q1) q2.rb fun av M=>⟨av,j,Wk.refl _,AS.le_refl _,U,hle.trans (g1.trans q1),M,q2⟩
      refine X ρ σ0 _ σ [D] _ ?_ Z ?_
      ·exact T.put (VR.L7 .nil A) (some d) (fun t ht=>by cases ht;omega)
      ·rcases G with rfl|rfl
       ·exact fun l y σ' g1 g2 g3=>fin l y σ' g1 g2 g3
       ·exact fun l y σ' g1 g2 g3=>fin l y σ' g1 g2 g3
   split at h
   ·rename_i E H1 Y;exact key Y (.inl rfl) h
   ·rename_i E H1 Y;exact key Y (.inr rfl) h
   ·cases h
   ·cases h
  |none=>
   rw[J]at h;simp only at h;cases S:jh P fid fn.ntmps call m a F H with
   |fail w=>rw[S]at h;cases h
   |exit id E H1=>rw[S]at h;cases h
   |norm E H1=>rw[S]at h;simp only at h;obtain⟨k1,X⟩:=ql hn hm dJ m a F H _ S (by simp);obtain⟨j1,j2⟩:=ih b E H1 v u h;refine⟨Nat.le_trans k1 j1,fun ρ0 ρ σ0 s σ O hle T Z=>ss.seq (X ρ σ0 s σ [] _ T Z fun l y σ' g1 g2 g3=>j2 ρ0 l σ0 y σ' O (hle.trans g1) g2 g3)⟩
   |ret E H1=>rw[S]at h;simp only at h;obtain⟨k1,X⟩:=ql hn hm dJ m a F H _ S (by simp);obtain⟨rfl,r2⟩:=yc h;refine⟨k1,fun ρ0 ρ σ0 s σ O hle T Z=>ss.seq (X ρ σ0 s σ [] _ T Z fun l y σ' g1 g2 g3=> ?_)⟩;show er fn.results.toList P y σ' fun vs=> ∃V j,AV.Wk P (dF vs) V∧AS.le j σ'∧RQ P ρ0 σ0 v u V j;exact r2 (K:=fun x=> ∃V j,AV.Wk P x V∧AS.le j σ'∧RQ P ρ0 σ0 v u V j) g2 g3.rb fun av M=>⟨av,σ',Wk.refl _,AS.le_refl _,l,hle.trans g1,M,g3⟩
theorem JH (hm:P.follows .mixedOrders=true) {zT:Qb}(S:I2 P zT):∀fuel,jQ P (BT P zT fuel):=by
 intro fuel;induction fuel with
 |zero=>intro f args H v A h;cases h
 |succ m Z=>
  intro f args H v A h;simp only[BT]at h;cases V:zT f with
  |some o=>rw[V]at h;exact S f o V args H v A h
  |none=>
   rw[V]at h;simp only at h;split at h
   ·rename_i fn F;split at h
    ·rename_i c hb;obtain⟨hc,h⟩:=nk h;simp only[Bool.and_eq_true,iR,decide_eq_true_eq]at hc;obtain⟨⟨c1,c2⟩,c3⟩:=hc;have u:=Aw c3 F;cases hd:Cm c with
     |true=>rw[hd]at h;simp only[cond_true]at h;obtain⟨k1,T⟩:=JI hm c1 Z m c _ H v A h;exact⟨k1,fun ρ σ0 σ y Y J=>ad.z3 F hb u (by rw[←J.len];exact c2) fun G1=>T ρ ρ σ0 _ σ G1 (.refl ρ) (yY J (by omega)) Y⟩
     |false=>
      rw[hd]at h;simp only[cond_false]at h;have key:∀ {r:CR} {G:Fr} {H1:Hp} {w:Nat},jh P f fn.ntmps (BT P zT m) m c (jX args 0 L6) H=r→(r= .norm G H1∨r= .ret G H1)→yd fn.results.toList P G H1 w= .ok v A→
       H.c≤A.c∧ ∀ρ σ0 σ y,R P ρ σ0 H σ→VL ρ args y→ad P f y σ (fun r σ'=> ∃j,br.le ρ j∧VR j v r∧R P j σ0 A σ') No:=by
       intro r G H1 w O E M;have U:∀w,r≠ .fail w:=by rcases E with rfl|rfl<;>simp
       obtain⟨k1,T⟩:=ql c1 hm Z m c _ H r O U;obtain⟨rfl,r2⟩:=yc M;refine⟨by rcases E with rfl|rfl<;>exact k1,fun ρ σ0 σ y Y J=>ad.qD F hb u (by rw[←J.len];exact c2) (T ρ σ0 _ σ [] _ (yY J (by omega)) Y ?_)⟩;have fin:∀j D σ',br.le ρ j→FR j G D→R P j σ0 A σ'→er fn.results.toList P D σ' fun vs=> ∃I q,AV.Wk P (dF vs) I∧AS.le q σ'∧ ∃l,br.le ρ l∧VR l v I∧R P l σ0 A q:=
        fun j D σ' g1 g2 g3=>r2 (K:=fun x=> ∃I q,AV.Wk P x I∧AS.le q σ'∧ ∃l,br.le ρ l∧VR l v I∧R P l σ0 A q) g2 g3.rb fun av X=>⟨av,σ',Wk.refl _,AS.le_refl _,j,g1,X,g3⟩
       rcases E with rfl|rfl
       ·exact fun j D σ' g1 g2 g3=>fin j D σ' g1 g2 g3
       ·exact fun j D σ' g1 g2 g3=>fin j D σ' g1 g2 g3
      split at h
      ·rename_i G H1 O;exact key O (.inl rfl) h
      ·rename_i G H1 O;exact key O (.inr rfl) h
      ·cases h
      ·cases h
    ·cases h
   ·cases h
theorem closed (hm:P.follows .mixedOrders=true) {zT:Qb}(l:I2 P zT) {fuel:Nat}{f:FuncId}{b:Bool}{q:Hp}(h:BT P zT fuel f [] Ia= .ok (.bool b) q) (σ:AS):ad P f [] σ (fun r σ'=>r=zB b∧AS.le σ σ') No:=by
 have h0:∀i,Ia.get i= .z8:=by intro i;show T5.get (p5 i) (T5.all v7.z8)= .z8;unfold T5.all T5.get T3.all T3.get;rw[N8.lr,N8.lr,N8.lr,N8.lr,N8.lr]
 have w:R P (fun _ =>none) σ Ia σ:=by
  refine⟨⟨(fun i p h=>by cases h),fun i y hl=> ?_⟩,fun i j x N M hl=> ?_,AS.le_refl _,fun i x N hl=> ?_,fun i _ =>rfl,fun i _ _ =>by rw[h0];rfl⟩
  ·rw[h0]at hl;cases hl
  ·rw[h0]at hl;cases hl
  ·rw[h0]at hl;cases hl
 refine((JH hm l fuel f [] Ia _ q h).2 _ σ σ [] w .nil).mono ?_ (fun _ _ h=>h);rintro r σ' ⟨u,_,v,o⟩;cases v;exact⟨rfl,o.le⟩
end Go.AW.Ev
