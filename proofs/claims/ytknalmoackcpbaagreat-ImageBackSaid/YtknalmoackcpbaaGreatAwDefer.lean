/- A layer of abstract values over the model's machine: own work for this claim, part AwDefer. -/
import Derived.Recover
import Derived.ProofKit
import Derived.OpenShut
import Derived.Carry
import Derived.Deep.Slices
import Derived.Deep.DeepHandedRow
import Derived.Test.YtknalmoackcpbaaGreatAwSimp
set_option linter.all false
namespace Go.AW
open Go Go.RowKit
variable {P:Program} {n:Nat} {ds:List Deferred} {Q:AQ} {s:Fr} {σ:AS}
theorem NS {o:Oper}{a:Act}{next:Act→World→Prop}{T h:Exit→Act→World→Prop}{r:Result Next}(g:∀e a w,T e a w→h e a w) (d:o.upon P a next T r):o.upon P a next h r:=by
 cases r with
 |ok j w'=>
  cases j<;>simp only[Oper.upon]at d⊢ <;>
   first
    |exact d
    |exact Calls.mono d (fun e i he=>by
     cases e<;>first
      |exact he
      |exact g _ _ _ he
      |(obtain⟨l,w0,h0⟩:=he;exact⟨l,w0,g _ _ _ h0⟩))
 |halt x w'=>cases x<;>simp only[Oper.upon]at d⊢ <;>first|exact g _ _ _ d|exact d
theorem LQ.ne {K:Fr→AS→Prop}{G:Gh}{e:Exit}{a:Act}{w:World}(he:e≠ .normal) (h:LQ P n ds (dP K Q) G e a w):LQ P n ds Q G e a w:=by
 cases e with
 |normal=>exact absurd rfl he
 |panic d=>
  match d,h with
  |[x],h=>exact h
  |[],h=>exact h.elim
  | _ :: _ :: _,h=>exact h.elim
 |exit i=>exact h
 |ret=>exact h
 |goto i=>exact h.elim
 |outgrown=>exact h.elim
theorem Od {ops:Array Oper}{G0:Gh}{cs:List Frame}{i:Exit→Act→List Frame→World→Prop}(I:∀e a w,LQ P n ds Q G0 e a w→i e a cs w):
 ∀(r:List Oper) (k:Nat),(∀j,r[j]? =ops[k+j]?)→ ∀(G:Gh) (s:Fr) (σ:AS) (a:Act) (w:World),br P n ds ops Q r s σ→G0.Le G→oW P G n ds s σ a w→
  wpOpsS P ops i (List.range' k r.length) a cs w:=by
 intro r;induction r with
 |nil=>intro k _ G s σ a w h hle q;exact I _ _ _ ⟨G,s,σ,hle,q,h⟩
 |cons o r E=>
  intro k F G s σ a w h hle q;have h0:ops[k]? =some o:=by simpa using(F 0).symm
  have l:∀j,r[j]? =ops[k+1+j]? :=fun j=>by have:=F (j+1);simpa[Nat.add_assoc,Nat.add_comm 1 j]using this
  rw[List.length_cons,List.range'_succ];simp only[wpOpsS,h0];have conv:∀next:Act→World→Prop,(∀a w,next a w→wpOpsS P ops i (List.range' (k+1) r.length) a cs w)→o.wp P a w next (LQ P n ds Q G0)→
   (match (execOp a.eval o).run P w with
   |.ok .recover w'=>
    match recoverD cs with
    |some (v,cs')=>wpOpsS P ops i (List.range' (k+1) r.length) (a.put o.dst v) cs' w'
    |none=>wpOpsS P ops i (List.range' (k+1) r.length) (a.put o.dst .nilIface) cs w'
   |y=>o.upon P a (fun g w'=>wpOpsS P ops i (List.range' (k+1) r.length) g cs w') (fun e g w'=>i e g cs w') y):=by
   intro next L hw
   unfold Oper.wp at hw;have d:=Ga L (NS I hw);generalize (execOp a.eval o).run P w=y at d;cases y with
   |ok J w'=>cases J<;>first|exact d|(simp only[Oper.upon]at d;done)
   |halt x w'=>exact d
  rcases h with⟨M,h⟩|h
  ·have hw:Region.wanted o (yielded ops a.tmps)=true:=by simp[Region.wanted,M]
   rw[if_pos hw];exact conv _ (fun _ _ h=>h) (h G0 G a w hle q _ (fun G' u σ' g w' h1 D A=>E (k+1) l G' u σ' g w' A h1 D))
  ·have:=oM o h hle q (next:=fun g w'=>wpOpsS P ops i (List.range' (k+1) r.length) g cs w') (fun G' u σ' g w' h1 D A=>E (k+1) l G' u σ' g w' A h1 D);by_cases hw:Region.wanted o (yielded ops a.tmps)=true
   ·rw[if_pos hw]at this⊢;exact conv _ (fun _ _ h=>h) this
   ·rw[if_neg hw]at this⊢;exact this
def bS (P:Program) (f:FuncId) (d:List AV) (σ:AS) (h:Option AV) (K:AS→Prop):Prop:=
 ∀(G:Gh) (w:World) (vals:Array Value) (u:FrameMode),Inv P G σ w→yl P G d vals→
  (match h with|none=>u= .returning|some a=> ∃e:PanicEntry,e.recovered=false∧e.goexit=false∧ba P G a e.v∧u= .panicking [e])→
  CallsD P f vals u w fun e g w'=>(∃x,e= .returned x)∧settle g= .returning∧ ∃G' σ',G.Le G'∧Inv P G' σ' w'∧K σ'
def Ch (K:AS→Prop):AQ
 |.normal,_,σ=>K σ
 |.ret,_,σ=>K σ
 | _,_,_ =>False
@[simp] theorem UU (K:AS→Prop) (s:Fr) (σ:AS):Ch K .normal s σ=K σ:=rfl
@[simp] theorem UT (K:AS→Prop) (s:Fr) (σ:AS):Ch K .ret s σ=K σ:=rfl
def recV (d:Option AV):AV:=d.getD (.sc .nilIface)
theorem bS.of {f:FuncId}{fn:Func}{d id:Nat}{l:List Oper}{y:Code}{o:Array TypeId}{ty:TypeId}{pos:String}{L:Array Edge}{g:List AV}{X:Option AV}{K:AS→Prop}
 (hf:P.funcs[f]? =some fn) (hb:fn.body=some (.seq (.region id ((⟨some d,.call ⟨.builtin .recover,#[],o⟩,ty,pos,L,none⟩:Oper)::l).toArray false) y)) (V:fn.results.toList= []) (ha:g.length≤fn.ntmps) (hd:d<fn.ntmps)
 (h:br P fn.ntmps [] ((⟨some d,.call ⟨.builtin .recover,#[],o⟩,ty,pos,L,none⟩:Oper)::l).toArray (dP (ae P fn.ntmps [] y (Ch K)) (Ch K)) l ((sA g).put (some d) (recV X)) σ):bS P f g σ X K:=by
 intro G w vals u hi hr hu;refine callsD_of_wpS hf hb fun A cs Y=>wpS_seq (wpS_region ?_);have M:oW P G fn.ntmps [] (sA g) σ { tmps:=vals++Array.replicate (fn.ntmps-vals.size) undef,defers:= [] } w:=by
  refine⟨hi,by simp[hr.1];omega,rfl,fun i=> ?_⟩;by_cases S:i<g.length
  ·have Z:(vals++Array.replicate (fn.ntmps-vals.size) undef).getD i undef=vals.getD i undef:=by rw[Array.getD_eq_getD_getElem?,Array.getElem?_append_left (by rw[hr.1];exact S),←Array.getD_eq_getD_getElem?]
   simp only[Z];exact hr.2 i S
  ·have:sA g i= .any:=by simp[sA,List.getD_eq_getElem?_getD,List.getElem?_eq_none (Nat.le_of_not_lt S)]
   rw[this];exact .any _
 generalize ({ tmps:=vals++Array.replicate (fn.ntmps-vals.size) undef,defers:= [] } :Act)=a at M⊢;have rest:∀(D:FrameMode) (v:Value),settle D= .returning→ba P G (recV X) v→
  wpOpsS P ((⟨some d,.call ⟨.builtin .recover,#[],o⟩,ty,pos,L,none⟩:Oper)::l).toArray
   (Exit.thenS (y.wpS P (bodyPostS P fn A cs fun e D w'=>(∃x,e= .returned x)∧settle D= .returning∧ ∃G' σ',G.Le G'∧Inv P G' σ' w'∧K σ')) (bodyPostS P fn A cs fun e D w'=>(∃x,e= .returned x)∧settle D= .returning∧ ∃G' σ',G.Le G'∧Inv P G' σ' w'∧K σ'))
   (List.range' 1 l.length) (a.put (some d) v) ({ A with mode:=D } ::cs) w:=by
  intro D v ac hv;have fin:∀(e:Exit) (O:Act) (w':World),LQ P fn.ntmps [] (Ch K) G e O w'→
   bodyPostS P fn A cs (fun e D w'=>(∃x,e= .returned x)∧settle D= .returning∧ ∃G' σ',G.Le G'∧Inv P G' σ' w'∧K σ') e O ({ A with mode:=D } ::cs) w':=by
   intro e O w' q;have done:∀(G':Gh) (I:Fr) (σ':AS),G.Le G'→oW P G' fn.ntmps [] I σ' O w'→K σ'→
    O.defers= []∧ ∃T,({ A with mode:=D } ::cs:List Frame)= { A with mode:=T } ::cs∧ ∃v,(results fn O.tmps).run P w'= .ok v w'∧((∃x,Ending.returned v= .returned x)∧settle T= .returning∧ ∃G' σ',G.Le G'∧Inv P G' σ' w'∧K σ'):=by
    intro G' I σ' J F E;obtain⟨v,vs,k1,_,_⟩:=ou F fn (fun _ =>True) (by rw[V];trivial);exact⟨F.ds,D,rfl,v,k1,⟨v,rfl⟩,ac,G',σ',J,F.inv,E⟩
   unfold LQ at q;split at q
   ·obtain⟨G',I,σ',J,F,E⟩:=q;exact done G' I σ' J F E
   ·obtain⟨G',I,σ',J,F,E⟩:=q;exact E.elim
   ·obtain⟨G',I,σ',J,F,E⟩:=q;exact done G' I σ' J F E
   ·obtain⟨_,_,G',I,σ',v,J,F,E,g4⟩:=q;exact g4.elim
   ·exact q.elim
  refine Od (G0:=G) (Q:=dP (ae P fn.ntmps [] y (Ch K)) (Ch K)) ?_ l 1 (fun j=>by simp[Nat.add_comm 1 j]) G _ σ _ w h (.refl G) (M.put (.refl G) hi (some d) (fun t ht=>by cases ht;exact hd) hv);intro e O w' q;cases e with
  |normal=>obtain⟨G',I,σ',J,F,E⟩:=q;exact wpS_of_wp (wp_mono (E G G' O w' J F) fun e ap ab q=>fin e ap ab q)
  |exit i=>obtain⟨G',I,σ',J,F,E⟩:=q;exact E.elim
  |ret=>exact fin _ _ _ (LQ.ne (by simp) q)
  |panic ch=>exact fin _ _ _ (LQ.ne (by simp) q)
  |goto i=>exact q.elim
  |outgrown=>exact q.elim
 have al:((⟨some d,.call ⟨.builtin .recover,#[],o⟩,ty,pos,L,none⟩:Oper)::l).toArray.size=l.length+1:=by simp
 rw[al,List.range_eq_range',List.range'_succ];have h0:((⟨some d,.call ⟨.builtin .recover,#[],o⟩,ty,pos,L,none⟩:Oper)::l).toArray[0]? =some ⟨some d,.call ⟨.builtin .recover,#[],o⟩,ty,pos,L,none⟩:=by simp
 have U:(execOp a.eval ⟨some d,.call ⟨.builtin .recover,#[],o⟩,ty,pos,L,none⟩).run P w= .ok .recover w:=by rfl
 have hw:Region.wanted (⟨some d,.call ⟨.builtin .recover,#[],o⟩,ty,pos,L,none⟩:Oper) (yielded ((⟨some d,.call ⟨.builtin .recover,#[],o⟩,ty,pos,L,none⟩:Oper)::l).toArray a.tmps)=true:=by simp[Region.wanted]
 simp only[wpOpsS,h0,hw,if_true,U];cases X with
 |none=>
  simp only at hu;subst hu;have hm:recoverD (A::cs)=none:=by simp[recoverD,Y]
  rw[hm];have e:A= { A with mode:= .returning } :=by cases A;simp at Y;subst Y;rfl
  have:=rest .returning .nilIface rfl (.sc _);rw[←e]at this;exact this
 |some av=>
  obtain⟨e,Z,e2,e3,rfl⟩:=hu;obtain⟨v,rc,ge⟩:=e;simp only at Z e2 e3;subst Z e2;have hm:recoverD (A::cs)=some (v,{ A with mode:= .panicking [{ v:=v,recovered:=true }] } ::cs):=by simp[recoverD,Y]
  rw[hm];exact rest _ v rfl e3
theorem il.oR {d t u:Nat}{x:Operand}{ty:TypeId}{pos:String}{F:Array Edge}{g:Option (Nat×Bool)}{K:Fr→AS→Prop}(hd:d<n) {v:AV}{td:TypeDesc}(hu:P.underlying u=some td) (o:match td with|.interface _ =>False| _ =>True)
 (A:ev s x= .rX u v) (h:K (s.put (some d) (.bQ [v,.sc (.bool true)])) σ):il P n ds Q ⟨some d,.typeAssert x t u true,ty,pos,F,g⟩ s σ K:=by
 refine il.ni hd fun G a w q=> ?_;have l:=q.ev x;rw[A]at l;show Out P G _ _ ((do pure (Next.value (←Instr.typeAssert (a.eval x) t u true)):Sem Next).run P w);generalize a.eval x=I at l;cases l with
 |rX D=>
  rename_i y;have j:(Instr.typeAssert (.iface u y) t u true).run P w= .ok (.tuple #[y,.bool true]) w:=by cases td<;>first|exact o.elim|simp[Instr.typeAssert,Sem.run_bind,run_underlying hu,Result.andThen]
  refine Out.value j (.refl G) q.inv ?_ h;refine .bQ [y,.bool true] rfl fun i E=> ?_
  match i,E with
  |0,_ =>exact D
  |1,_ =>exact .sc _
theorem il.mS {d t u:Nat}{x:Operand}{ty:TypeId}{pos:String}{I:Array Edge}{g:Option (Nat×Bool)}{K:Fr→AS→Prop}(hd:d<n) {td:TypeDesc}(hu:P.underlying u=some td) (v:match td with|.interface _ =>False| _ =>True) (D:(aw P u).laid=true)
 (E:ev s x= .sc .nilIface) (h:K (s.put (some d) (.bQ [aw P u,.sc (.bool false)])) σ):il P n ds Q ⟨some d,.typeAssert x t u true,ty,pos,I,g⟩ s σ K:=by
 refine il.ni hd fun G a w A=> ?_;have q:=A.ev x;rw[E]at q;show Out P G _ _ ((do pure (Next.value (←Instr.typeAssert (a.eval x) t u true)):Sem Next).run P w);generalize a.eval x=J at q;cases q;obtain⟨it,z,y,l,o⟩:=dD D;have j:(Instr.typeAssert .nilIface t u true).run P w= .ok (.tuple #[z,.bool false]) w:=by cases td<;>first|exact v.elim|simp[Instr.typeAssert,Sem.run_bind,run_underlying hu,Result.andThen,zeroValue,run_typeInfo w y,l]
 refine Out.value j (.refl G) A.inv ?_ h;refine .bQ [z,.bool false] rfl fun i F=> ?_
 match i,F with
 |0,_ =>rw[show([aw P u,AV.sc (.bool false)]).getD 0 .any=aw P u from rfl,o];exact gD z
 |1,_ =>exact .sc _
def lg (P:Program) (fn:Func) (c:Code) (R g:AV→AS→Prop) (d:Gh) (s:Fr) (σ:AS):Prop:=
 ∀(G:Gh) (a:Act) (w:World),d.Le G→oW P G fn.ntmps [] s σ a w→c.wp P (bodyPostD P fn (kS P d R g)) a w
theorem zb {fn:Func}{R u:AV→AS→Prop}{o:Gh}{e:Exit}{a:Act}{w:World}(h:LQ P fn.ntmps [] (uU P fn.results.toList R u) o e a w):bodyPostD P fn (kS P o R u) e a w:=by
 have fin:∀(g:Fr) (σ':AS) (G':Gh),o.Le G'→oW P G' fn.ntmps [] g σ' a w→(eA fn.results.toList P g σ' fun vs=> ∃q d,AV.Wk P (eS vs) q∧AS.le d σ'∧R q d)→
  Leaves P fn a.tmps (kS P o R u) a.defers .returning w:=by
  intro g σ' G' h1 A I;obtain⟨v,vs,k1,F,q,d,E,k4,D⟩:=ou A fn _ I;rw[A.ds];exact⟨v,k1,G',d,q,h1,A.inv.weaken k4,E _ _ F,D⟩
 unfold LQ at h;split at h
 ·obtain⟨G',g,σ',l,j,i⟩:=h;exact fin g σ' G' l j i
 ·obtain⟨G',g,σ',l,j,i⟩:=h;exact i.elim
 ·obtain⟨G',g,σ',l,j,i⟩:=h;exact fin g σ' G' l j i
 ·obtain⟨x,y,G',g,σ',v,l,j,i,d,L,J⟩:=h;show Leaves P fn a.tmps (kS P o R u) a.defers (.panicking _) w;rw[j.ds];exact⟨x,y,G',d,v,l,j.inv.weaken L,i,J⟩
 ·exact h.elim
theorem lg.seq {fn:Func}{x y:Code}{R j:AV→AS→Prop}{l:Gh}(h:ae P fn.ntmps [] x (dP (fun s σ=>lg P fn y R j l s σ) (uU P fn.results.toList R j)) s σ):lg P fn (.seq x y) R j l s σ:=by
 intro G a w h1 v;refine wp_seq (wp_mono (h l G a w h1 v) fun e A w' d=> ?_);cases e with
 |normal=>obtain⟨G',u,σ',q,o,g⟩:=d;exact g G' A w' q o
 |exit i=>obtain⟨G',u,σ',q,o,g⟩:=d;exact g.elim
 |ret=>exact zb (LQ.ne (by simp) d)
 |panic D=>exact zb (LQ.ne (by simp) d)
 |goto i=>exact d.elim
 |outgrown=>exact d.elim
def xr (P:Program) (rs:List ResultVar) (f:FuncId) (d:List AV) (R g:AV→AS→Prop):AQ
 |.normal,s,σ=>bS P f d σ none fun σ'=>eA rs P s σ' fun vs=>Ends P R σ' (eS vs)
 |.ret,s,σ=>bS P f d σ none fun σ'=>eA rs P s σ' fun vs=>Ends P R σ' (eS vs)
 |.panic v,s,σ=>bS P f d σ (some v) fun σ'=>eA rs P s σ' fun vs=>Ends P R σ' (eS vs)
 | _,_,_ =>False
@[simp] theorem R3 (rs:List ResultVar) (f:FuncId) (d:List AV) (R g:AV→AS→Prop) (s:Fr) (σ:AS):xr P rs f d R g .ret s σ=bS P f d σ none fun σ'=>eA rs P s σ' fun vs=>Ends P R σ' (eS vs):=rfl
@[simp] theorem R4 (rs:List ResultVar) (f:FuncId) (d:List AV) (R g:AV→AS→Prop) (s:Fr) (σ:AS):xr P rs f d R g .normal s σ=bS P f d σ none fun σ'=>eA rs P s σ' fun vs=>Ends P R σ' (eS vs):=rfl
@[simp] theorem Kj (rs:List ResultVar) (f:FuncId) (d:List AV) (R g:AV→AS→Prop) (v:AV) (s:Fr) (σ:AS):xr P rs f d R g (.panic v) s σ=bS P f d σ (some v) fun σ'=>eA rs P s σ' fun vs=>Ends P R σ' (eS vs):=rfl
theorem lg.defer {fn:Func}{id d f:Nat}{g:Array Operand}{rest:Code}{R Rp:AV→AS→Prop}{G1:Gh}{o l:TypeId}{S O:String}{U T:Array Edge}{q:Array TypeId}
 (hd:d<fn.ntmps) (M:lB P f=true)
 (h:∀D,ae P fn.ntmps [D] rest (xr P fn.results.toList f (g.toList.map (ev s)) R Rp) (s.put (some d) (.fn (.func f) [] (g.toList.map (ev s)))) σ):
 lg P fn (.seq (.region id [(⟨some d,.makeFunc (.func f) #[] g,o,S,U,none⟩:Oper),⟨none,.defer ⟨.value (.tmp d),#[],q⟩,l,O,T,none⟩].toArray false) rest) R Rp G1 s σ:=by
 intro G a w h1 hs;refine wp_seq (wp_region_lit ?_);have ap:Region.wanted (⟨some d,.makeFunc (.func f) #[] g,o,S,U,none⟩:Oper) (yielded [(⟨some d,.makeFunc (.func f) #[] g,o,S,U,none⟩:Oper),⟨none,.defer ⟨.value (.tmp d),#[],q⟩,l,O,T,none⟩].toArray a.tmps)=true:=by simp[Region.wanted]
 unfold wpList;rw[if_pos ap];refine .inl ?_;have a0:(execOp a.eval ⟨some d,.makeFunc (.func f) #[] g,o,S,U,none⟩).run P w= .ok (.value (.func (.func f) #[] (g.map a.eval))) w:=by simp[execOp,Instr.makeFunc]
 show Oper.upon P _ a _ _ ((execOp a.eval ⟨some d,.makeFunc (.func f) #[] g,o,S,U,none⟩).run P w);rw[a0,Oper.upon_value];have j:yl P G (g.toList.map (ev s)) (g.map a.eval):=⟨by simp,fun i L=>by simp at L;simp[List.getD_eq_getElem?_getD,L];exact hs.ev _⟩;have a4:ba P G (.fn (.func f) [] (g.toList.map (ev s))) (.func (.func f) #[] (g.map a.eval)):=by
  have:=ba.fn (P:=P) (G:=G) (f:= .func f) (first:= []) (captured:=g.toList.map (ev s)) [] (g.map a.eval).toList rfl (by simp) (fun i L=>by simp at L) (fun i L=>by
   have h1:=j.2 i L;have e:(g.map a.eval).toList.getD i undef=(g.map a.eval).getD i undef:=by simp[List.getD_eq_getElem?_getD]
   rw[e];exact h1)
  rw[Array.toArray_toList]at this;exact this
 have E:=hs.put (.refl G) hs.inv (some d) (fun t ht=>by cases ht;exact hd) a4;unfold wpList;have a5:(a.put (some d) (.func (.func f) #[] (g.map a.eval))).eval (.tmp d)= .func (.func f) #[] (g.map a.eval):=by
  have a7:d<a.tmps.size:=by rw[hs.size];exact hd
  simp[Act.put,Act.eval,a7]
 have am:Region.wanted (⟨none,.defer ⟨.value (.tmp d),#[],q⟩,l,O,T,none⟩:Oper) (yielded [(⟨some d,.makeFunc (.func f) #[] g,o,S,U,none⟩:Oper),⟨none,.defer ⟨.value (.tmp d),#[],q⟩,l,O,T,none⟩].toArray (a.put (some d) (.func (.func f) #[] (g.map a.eval))).tmps)=true:=by simp[Region.wanted]
 rw[if_pos am];refine .inl ?_;have av:(execOp (a.put (some d) (.func (.func f) #[] (g.map a.eval))).eval ⟨none,.defer ⟨.value (.tmp d),#[],q⟩,l,O,T,none⟩).run P w= .ok (.defer { target:= .fn (.func f) (g.map a.eval),args:= #[] }) w:=by simp only[execOp,resolve,a5,Deferred.ofValue];simp
 show Oper.upon P _ _ _ _ ((execOp (a.put (some d) (.func (.func f) #[] (g.map a.eval))).eval ⟨none,.defer ⟨.value (.tmp d),#[],q⟩,l,O,T,none⟩).run P w);rw[av,Oper.upon_defer];generalize hD:({ target:= .fn (.func f) (g.map a.eval),args:= #[] } :Deferred)=D;have a6:(a.put (some d) (.func (.func f) #[] (g.map a.eval))).defers= []:=E.ds;have ar:oW P G fn.ntmps [D] (s.put (some d) (.fn (.func f) [] (g.toList.map (ev s)))) σ ({ a.put (some d) (.func (.func f) #[] (g.map a.eval))with defers:=D::(a.put (some d) (.func (.func f) #[] (g.map a.eval))).defers }.put none undef) w:=
  ⟨E.inv,E.size,by show D:: _ = [D];rw[a6],E.rep⟩
 show(Exit.then _ _) .normal _ w;refine wp_mono (h D G G _ w (.refl G) ar) fun e Y w' F=> ?_;have inv:(invoke (.fn (.func f) (g.map a.eval)) #[]).run P w'= .ok (.enter f (g.map a.eval)) w':=by have:=pW (w:=w') M (g.map a.eval);simpa[invoke]using this
 have fin:∀(u:FrameMode) (G':Gh) (A:Fr) (σ':AS) (pv:Option AV),G.Le G'→oW P G' fn.ntmps [D] A σ' Y w'→u≠ .run→
  (match pv with|none=>u= .returning|some a=> ∃e:PanicEntry,e.recovered=false∧e.goexit=false∧ba P G' a e.v∧u= .panicking [e])→
  (bS P f (g.toList.map (ev s)) σ' pv fun σ'=>eA fn.results.toList P A σ' fun vs=>Ends P R σ' (eS vs))→
  Leaves P fn Y.tmps (kS P G1 R Rp) Y.defers u w':=by
  intro u G' A σ' pv J y hu a3 hd;rw[y.ds,←hD];refine leaves_cons hu inv ((hd G' w' _ u y.inv ⟨j.1,fun i L=>(j.2 i L).mono J⟩ a3).mono fun e u' V F=> ?_);obtain⟨⟨x,rfl⟩,X,Z,af,k1,k2,k3⟩:=F;show Leaves P fn Y.tmps (kS P G1 R Rp) [] (settle u') V;rw[X];have I:oW P Z fn.ntmps [D] A af Y V:=⟨k2,y.size,y.ds,fun i=>(y.rep i).mono k1⟩;obtain⟨v,vs,m1,m2,r',σ3,m3,m4,m5⟩:=ou I fn _ k3;exact⟨v,m1,Z,σ3,r',h1.trans (J.trans k1),k2.weaken m4,m3 _ _ m2,m5⟩
 unfold LQ at F;split at F
 ·obtain⟨G',A,σ',J,y,I⟩:=F;exact fin .returning G' A σ' none J y (by simp) rfl I
 ·obtain⟨G',A,σ',J,y,I⟩:=F;exact I.elim
 ·obtain⟨G',A,σ',J,y,I⟩:=F;exact fin .returning G' A σ' none J y (by simp) rfl I
 ·obtain⟨x1,x2,G',A,σ',v,J,y,I,g4⟩:=F;exact fin _ G' A σ' (some v) J y (by simp) ⟨_,x1,x2,I,rfl⟩ g4
 ·exact F.elim
theorem aa.jj {f:FuncId}{fn:Func}{c:Code}{args:List AV}{R o:AV→AS→Prop}(hf:P.funcs[f]? =some fn) (l:fn.body=some c) (q:(fn.name== "runtime.NumGoroutine")=false)
 (ha:args.length≤fn.ntmps) (h:∀y,lg P fn c R o y (sA args) σ):aa P f args σ R o:=by
 refine⟨by simp[lB,hf,l,q],fun G w vals u j=>calls_of_wp_defers hf l ?_⟩;have g:oW P G fn.ntmps [] (sA args) σ { tmps:=vals++Array.replicate (fn.ntmps-vals.size) undef,defers:= [] } w:=by
  refine⟨u,by simp[j.1];omega,rfl,fun i=> ?_⟩;by_cases d:i<args.length
  ·have v:(vals++Array.replicate (fn.ntmps-vals.size) undef).getD i undef=vals.getD i undef:=by rw[Array.getD_eq_getD_getElem?,Array.getElem?_append_left (by rw[j.1];exact d),←Array.getD_eq_getD_getElem?]
   simp only[v];exact j.2 i d
  ·have:sA args i= .any:=by simp[sA,List.getD_eq_getElem?_getD,List.getElem?_eq_none (Nat.le_of_not_lt d)]
   rw[this];exact .any _
 exact h G G _ w (.refl G) g
end Go.AW
namespace Go.AW
open Go Go.RowKit Go.Deep
def isAgg (P:Program) (t:TypeId):Bool:=match P.underlying t with|some (.struct _)=>true| _ =>false
def lr (P:Program) (t:TypeId) (cs:List AV):AV:=if isAgg P t then .agg cs else cs.headD .any
def dq (P:Program):Nat→TypeId→List AV→Prop
 |0,_,_ =>False
 |k+1,t,cs=>match P.underlying t with
  |some .bool=> ∃b,cs= [.sc (.bool b)]
  |some (.int d)=> ∃n,cs= [.sc (.int d n)]∧(Lit.int d n).wf=true
  |some .string=> ∃s:ByteArray,cs= [.sc (.string s)]∧s.size≤reachBytes
  |some (.pointer e)=>cs= [.sc (.pointer none)]∨ ∃cs',cs= [.iC cs']∧cs'.length=P.cellsOf e∧dq P k e cs'
  |some (.slice e)=>cs= [.an e [] .aE true]∨ ∃es:List (List AV),cs= [.an e (es.map (lr P e)) .aE false]∧es.length*P.bytesOf e≤reachBytes∧ ∀c∈es,dq P k e c
  |some (.struct fs)=>cs.length=P.cellsOf t∧ ∀f∈fs.toList,dq P k f.type ((cs.drop f.offset).take (P.cellsOf f.type))
  | _ =>False
def tiled (P:Program):List Field→Nat→Nat→Bool
 |[],o,n=>o==n
 |f::r,o,n=>f.offset==o&&tiled P r (o+P.cellsOf f.type) n
def served (P:Program):Nat→TypeId→Bool
 |0,_ =>false
 |k+1,t=>match P.underlying t with
  |some .bool|some (.int _)|some .string=>P.cellsOf t==1
  |some (.pointer e)|some (.slice e)=>P.cellsOf t==1&&P.cellsOf e !=0&&served P k e
  |some (.struct fs)=>tiled P fs.toList 0 (P.cellsOf t)&&fs.toList.all fun f=>served P k f.type
  | _ =>false
def sw (W:World):Gh where
 W0:=W
 B:=W.heap.size
 mem b o:=match W.cell? ⟨b,o,none⟩ with|some v=>if v.oneCell' then some v else none|none=>none
 inj _ :=none
 own _ :=none
 top:=0
def OL:AS:=fun _ =>none
theorem JJ (P:Program) (W:World):Inv P (sw W) OL W where
 below:=Below.refl _ _
 base:=Nat.le_refl _
 mem b o v h:=by
  simp only[sw]at h;split at h
  ·rename_i x d;split at h
   ·rename_i h1;cases h;exact⟨d,h1⟩
   ·cases h
  ·cases h
 top i _ :=⟨rfl,rfl⟩
 dA i b h:=by cases h
 fN i j b h:=by cases h
 cells i ty cs h:=by cases h
 maps i es h:=by cases h
 dY i s p h:=by cases h
 tok i n h:=by cases h
 own t r h:=by cases h
theorem B7 {W:World}{b o:Nat}{v:Value}(h:W.cell? ⟨b,o,none⟩=some v) (h1:v.oneCell'=true):(sw W).mem b o=some v:=by simp[sw,h,h1]
def pC (P:Program) (G:Gh) (cs:List AV) (vs:List Value):Prop:=cs.length=vs.length∧ ∀i,i<cs.length→ba P G (cs.getD i .any) (vs.getD i undef)∧(vs.getD i undef).oneCell'=true
theorem pC.one {P:Program}{G:Gh}{c:AV}{v:Value}(h:ba P G c v) (h1:v.oneCell'=true):pC P G [c] [v]:=by
 refine⟨rfl,fun i d=> ?_⟩;have:i=0:=by simpa using d
 subst this;exact⟨h,h1⟩
theorem dq.len {P:Program}{k:Nat}{t:TypeId}{cs:List AV}(d:served P k t=true) (h:dq P k t cs):cs.length=P.cellsOf t:=by
 cases k with
 |zero=>simp[served]at d
 |succ k=>
  simp only[served]at d;simp only[dq]at h;split at d<;>rename_i hu<;>simp only[hu]at h
  ·obtain⟨b,rfl⟩:=h;rw[beq_iff_eq.1 d];rfl
  ·obtain⟨b,rfl,_⟩:=h;rw[beq_iff_eq.1 d];rfl
  ·obtain⟨b,rfl,_⟩:=h;rw[beq_iff_eq.1 d];rfl
  ·simp only[Bool.and_eq_true,beq_iff_eq]at d;rcases h with rfl|⟨_,rfl,_⟩<;>simp[d.1.1]
  ·simp only[Bool.and_eq_true,beq_iff_eq]at d;rcases h with rfl|⟨_,rfl,_⟩<;>simp[d.1.1]
  ·exact h.1
theorem Ce {P:Program}{G:Gh}{k:Nat}{cs:List Value}(n:Nat) (F:cs.length=n):∀(fs:List Field) (o:Nat),tiled P fs o n=true→o≤n→
 (∀f∈fs,∃c,dq P k f.type c∧c.length=P.cellsOf f.type∧pC P G c ((cs.drop f.offset).take (P.cellsOf f.type)))→
 ∃u:List AV,pC P G u (cs.drop o)∧ ∀f∈fs,o≤f.offset∧dq P k f.type ((u.drop (f.offset-o)).take (P.cellsOf f.type)):=by
 intro fs;induction fs with
 |nil=>intro o h E _;simp only[tiled,beq_iff_eq]at h;subst h;refine⟨[],⟨by simp;omega,by simp⟩,by simp⟩
 |cons f r D=>
  intro o h E hf;simp only[tiled,Bool.and_eq_true,beq_iff_eq]at h;obtain⟨h1,J⟩:=h;subst h1;obtain⟨c,L,y,v⟩:=hf f (by simp);have hle:f.offset+P.cellsOf f.type≤n:=by have e:=v.1;rw[y,List.length_take,List.length_drop,F]at e;omega
  obtain⟨u,A,O⟩:=D _ J hle (fun g l=>hf g (by simp[l]));have q:c.length=((cs.drop f.offset).take (P.cellsOf f.type)).length:=v.1;have d:cs.drop f.offset=(cs.drop f.offset).take (P.cellsOf f.type)++cs.drop (f.offset+P.cellsOf f.type):=by rw[←List.drop_drop,List.take_append_drop]
  refine⟨c++u,⟨?_,fun i I=> ?_⟩,fun g l=> ?_⟩
  ·rw[d,List.length_append,List.length_append,q,A.1]
  ·rw[d];simp only[List.getD_eq_getElem?_getD];by_cases j:i<c.length
   ·rw[List.getElem?_append_left j,List.getElem?_append_left (by omega)];simpa[List.getD_eq_getElem?_getD]using v.2 i j
   ·rw[List.getElem?_append_right (by omega),List.getElem?_append_right (by omega),←q];simpa[List.getD_eq_getElem?_getD]using A.2 (i-c.length) (by simp at I;omega)
  ·rcases List.mem_cons.1 l with rfl|l
   ·refine⟨Nat.le_refl _,?_⟩;simp[y.symm ▸ List.take_left' rfl];exact L
   ·obtain⟨S,M⟩:=O g l;refine⟨by omega,?_⟩;rw[List.drop_append,List.drop_of_length_le (by omega),List.nil_append,y];rw[show g.offset-f.offset-P.cellsOf f.type=g.offset-(f.offset+P.cellsOf f.type) by omega];exact M
variable {H:Type} {enc:TypeId×Value→H} {P:Program}
theorem pC.pk {G:Gh}{t:TypeId}{c:List AV}{vs:List Value}(h:pC P G c vs) (g:isAgg P t=false→c.length=1):(lr P t c).cells=c:=by
 unfold lr;split
 ·rfl
 ·rename_i ha;have:=g (by simpa using ha)
  match c,this with
  |[x],_ =>have h0:=h.2 0 (by simp);have e:vs.getD 0 undef=vs.getD 0 undef:=rfl;simp only[List.getD_cons_zero]at h0;show x.cells= [x];obtain⟨h1,d⟩:=h0;generalize vs.getD 0 undef=v at h1 d;cases h1<;>first|rfl|(simp[Value.oneCell']at d)
theorem Dp {k:Nat}{t:TypeId}(d:served P k t=true) (ha:isAgg P t=false):P.cellsOf t=1:=by
 cases k with
 |zero=>simp[served]at d
 |succ k=>simp only[served]at d;unfold isAgg at ha;split at d<;>simp_all
theorem vQ {e:TypeId}{l:List (DataW H)}{d:DataW H}{n:Nat}(hd:d∈l) (i:n∈d.weights P e):n∈DataW.weightsAll P e l:=by
 induction l with
 |nil=>cases hd
 |cons x r g=>
  simp only[DataW.weightsAll,List.mem_append];rcases List.mem_cons.1 hd with rfl|h
  ·exact .inl i
  ·exact .inr (g h)
theorem o9 {n:Nat} :∀ {ts:List TypeId}{l:List (DataW H)}{i:Nat}{t:TypeId}{d:DataW H},ts[i]? =some t→l[i]? =some d→n∈d.weights P t→n∈DataW.weightsEach P ts l
 |[],_,i,_,_,h,_,_ =>by simp at h
 | _ :: _,[],i,_,_,_,h,_ =>by simp at h
 |u::ts,x::l,i,t,d,h1,g,j=>by
  simp only[DataW.weightsEach,List.mem_append];cases i with
  |zero=>simp at h1 g;subst h1 g;exact .inl j
  |succ i=>exact .inr (o9 (by simpa using h1) (by simpa using g) j)
theorem II {W:World}{base:Nat}{spare:Nat→Bool}{held:Bool} :∀(k:Nat) (t:TypeId) (fuel:Nat) (vs:List Value) (x:DataW H×List MemPlace),
 served P k t=true→(∀n∈x.1.weights P t,n≤reachBytes)→DataW.trod enc P W base spare held fuel t vs=some x→ ∃cs,dq P k t cs∧cs.length=P.cellsOf t∧pC P (sw W) cs vs:=by
 intro k;induction k with
 |zero=>intro t fuel vs x l;simp[served]at l
 |succ k U=>
  intro t fuel vs x l o h
  suffices ∃cs,dq P (k+1) t cs∧pC P (sw W) cs vs by obtain⟨cs,F,O⟩:=this;exact⟨cs,F,F.len l,O⟩
  have a0:=l;simp only[served]at l;split at l
  ·rename_i hu;obtain⟨b,rfl,_⟩:=DataW.trod_bool hu h;exact⟨[.sc (.bool b)],by simp[dq,hu],pC.one (.sc _) rfl⟩
  ·rename_i ik hu;obtain⟨n,rfl,_,hw⟩:=DataW.trod_int hu h;exact⟨[.sc (.int ik n)],by simp[dq,hu,hw],pC.one (.sc _) rfl⟩
  ·rename_i hu;obtain⟨s,rfl,rfl,hw⟩:=DataW.trod_string hu h;have hw:s.size≤reachBytes:=o s.data.toList.length (by simp[DataW.weights]);exact⟨[.sc (.string s)],by simp[dq,hu,hw],pC.one (.sc _) rfl⟩
  ·rename_i e hu;simp only[Bool.and_eq_true,beq_iff_eq,bne_iff_ne]at l;obtain⟨⟨s1,s2⟩,s3⟩:=l;rcases DataW.trod_pointer hu h with⟨rfl,_⟩|⟨a,cs',y,n,_,rfl,rfl,Y,hy⟩
   ·exact⟨[.sc (.pointer none)],by simp[dq,hu],pC.one (.sc _) rfl⟩
   ·obtain⟨c,F,O,T⟩:=U e n cs' y s3 (fun m hm=>o m (by simpa[DataW.weights,hu]using hm)) hy;obtain⟨_,hl,g⟩:=World.cells?_some Y;obtain⟨b,off,spot⟩:=a;have A:spot=none:=by have:=g 0 (by omega);rw[List.getElem?_eq_getElem (by omega)]at this;simpa[Addr.add]using World.cell?_spot this
    subst A;refine⟨[.iC c],by simp only[dq,hu];exact .inr ⟨c,rfl,O,F⟩,pC.one (.iC (fun i=>cs'.getD i undef) (fun i d=> ?_) (fun i d=>(T.2 i d).1)) rfl⟩;refine B7 ?_ (T.2 i d).2;have:=g i (by omega);rw[Addr.add_lit]at this;rw[this,List.getD_eq_getElem?_getD,List.getElem?_eq_getElem (by omega)];rfl
  ·rename_i e hu;simp only[Bool.and_eq_true,beq_iff_eq,bne_iff_ne]at l;obtain⟨⟨s1,s2⟩,s3⟩:=l;rcases open_slice hu h with⟨rfl,_⟩|⟨a,len,cap,m,n,D,Pl,rfl,_,hlen,ab,hm,rfl,hx⟩
   ·exact⟨[.an e [] .aE true],by simp[dq,hu],pC.one (.jd trivial) rfl⟩
   ·have a3:len≤m:=by rw[hm];split<;>omega
    obtain⟨V,v⟩:=choose_lt (α:=List Value×List AV) (p:=fun i q=>W.cells? base (a.add (i*P.cellsOf e)) (P.cellsOf e)=some q.1∧dq P k e q.2∧q.2.length=P.cellsOf e∧pC P (sw W) q.2 q.1) (n:=len) (fun i d=>by obtain⟨cs',h1,h2⟩:=hx i (by omega);obtain⟨c,F,O,T⟩:=U e n cs' _ s3 (fun q I=>o q (by simp only[DataW.weights,hu,List.mem_cons,List.mem_append];exact .inr (.inl (vQ (List.mem_map.2 ⟨i,by simpa using d,rfl⟩) I)))) h2;exact⟨(cs',c),h1,F,O,T⟩);by_cases h0:len=0
    ·subst h0;exact⟨[.an e [] .aE false],by simp only[dq,hu];exact .inr ⟨[],rfl,by simp,by simp⟩,pC.one .pR rfl⟩
    ·obtain⟨b,off,spot⟩:=a;have A:spot=none:=by obtain⟨h1,_⟩:=v 0 (by omega);obtain⟨_,hl,g⟩:=World.cells?_some h1;have:=g 0 (by omega);rw[List.getElem?_eq_getElem (by omega)]at this;simpa[Addr.add]using World.cell?_spot this
     subst A;have u:∀i,i<len→(((List.range len).map fun i=>(V i).2).map (lr P e)).getD i AV.any=lr P e (V i).2:=by intro i d;simp[List.getD_eq_getElem?_getD,d]
     have M:∀i,i<len→(lr P e (V i).2).cells=(V i).2:=fun i d=>(v i d).2.2.2.pk (fun ha=>by rw[(v i d).2.2.1];exact Dp s3 ha);refine⟨[.an e (((List.range len).map fun i=>(V i).2).map (lr P e)) .aE false],?_,?_⟩
     ·simp only[dq,hu];refine .inr ⟨_,rfl,?_,fun c Y=> ?_⟩
      ·have h9:=o _ (by simp only[DataW.weights,hu];exact List.mem_cons_self);simp only[List.length_map,List.length_range]at h9⊢;exact Nat.le_trans (Nat.mul_le_mul_right _ (Nat.le_add_right _ _)) h9
      obtain⟨i,d,rfl⟩:=List.mem_map.1 Y;exact(v i (by simpa using d)).2.1
     ·refine pC.one ?_ rfl;have E:(((List.range len).map fun i=>(V i).2).map (lr P e)).length=len:=by simp
      refine ba.DJ (P:=P) (fun q=>((V (q/P.cellsOf e)).1).getD (q%P.cellsOf e) undef) E (fun i d=> ?_) (fun q I=> ?_) (fun i j d J=> ?_) hlen trivial
      ·have d:i<len:=by simpa using d
       rw[u i d,M i d];exact(v i d).2.2.1
      ·have S:0<P.cellsOf e:=by omega
       have d:q/P.cellsOf e<len:=by rw[Nat.div_lt_iff_lt_mul S];exact I
       have J:q%P.cellsOf e<P.cellsOf e:=Nat.mod_lt _ S;obtain⟨h1,h2,h3,h4⟩:=v _ d;obtain⟨_,hl,g⟩:=World.cells?_some h1;refine B7 ?_ (h4.2 _ (by omega)).2;have:=g _ J;rw[add_add,Addr.add_lit,show q/P.cellsOf e*P.cellsOf e+q%P.cellsOf e=q by rw[Nat.mul_comm];exact Nat.div_add_mod q _]at this;rw[this,List.getD_eq_getElem?_getD,List.getElem?_eq_getElem (by omega)];rfl
      ·have d:i<len:=by simpa using d
       have S:0<P.cellsOf e:=by omega
       have e1:(i*P.cellsOf e+j)/P.cellsOf e=i:=by rw[Nat.add_comm,Nat.add_mul_div_right _ _ S,Nat.div_eq_of_lt J,Nat.zero_add]
       have e2:(i*P.cellsOf e+j)%P.cellsOf e=j:=by rw[Nat.add_comm,Nat.add_mul_mod_self_right,Nat.mod_eq_of_lt J]
       rw[u i d,M i d,e1,e2];exact((v i d).2.2.2.2 j (by rw[(v i d).2.2.1];exact J)).1
  ·rename_i fs hu;simp only[Bool.and_eq_true,List.all_eq_true]at l;obtain⟨s1,s2⟩:=l;obtain⟨xs,n,_,rfl,hl,ap,hf⟩:=DataW.trod_struct hu h;obtain⟨av,Z,a2⟩:=Ce (P:=P) (G:=sw W) (k:=k) (cs:=vs) (P.cellsOf t) hl fs.toList 0 s1 (Nat.zero_le _) (fun f X=>by
    obtain⟨i,d,rfl⟩:=List.mem_iff_getElem.1 X;have L:i<fs.size:=by simpa using d
    have:=hf i _ (by simp[L]:fs[i]? =some fs.toList[i]);rw[List.getElem?_eq_getElem (by omega)]at this;exact U _ _ _ _ (s2 _ (by simp)) (fun q I=>o q (by simp only[DataW.weights,hu];exact o9 (i:=i) (by simp[L]) (by rw[List.getElem?_map,List.getElem?_eq_getElem (by omega)];rfl) I)) this)
   rw[List.drop_zero]at Z;refine⟨av,?_,Z⟩;simp only[dq,hu];exact⟨by rw[Z.1,hl],fun f hf=>by simpa using(a2 f hf).2⟩
  ·cases l
end Go.AW
namespace Go.AW
open Go Go.RowKit Go.Deep Go.ChangeShapes Go.WideShapes Go.ChangeAt
variable {H:Type} {enc:TypeId×Value→H} {P:Program}
def uX (P:Program) (k:Nat):List TypeId→List AV→Prop
 |[],[]=>True
 |t::ts,a::as=>(∃cs,a=lr P t cs∧dq P k t cs)∧uX P k ts as
 | _,_ =>False
theorem uX.inv {P:Program}{k:Nat}{t:TypeId}{ts:List TypeId}{vs:List AV}(h:uX P k (t::ts) vs):∃cs r,vs=lr P t cs::r∧dq P k t cs∧uX P k ts r:=by
 cases vs with
 |nil=>exact h.elim
 |cons a r=>obtain⟨⟨cs,rfl,h1⟩,d⟩:=h;exact⟨cs,r,rfl,h1,d⟩
theorem uX.UM {P:Program}{k:Nat}{vs:List AV}(h:uX P k [] vs):vs= []:=by
 cases vs with
 |nil=>rfl
 |cons a r=>exact h.elim
theorem FU {P:Program}{k:Nat}{t:TypeId}{d:IntKind}{cs:List AV}(ht:P.underlying t=some (.int d)) (h:dq P (k+1) t cs):∃n,lr P t cs= .sc (.int d n)∧(Lit.int d n).wf=true:=by simp only[dq,ht]at h;obtain⟨n,rfl,hw⟩:=h;exact⟨n,by simp[lr,isAgg,ht],hw⟩
theorem arg_str {P:Program}{k:Nat}{t:TypeId}{cs:List AV}(ht:P.underlying t=some .string) (h:dq P (k+1) t cs):∃s:ByteArray,lr P t cs= .sc (.string s)∧s.size≤reachBytes:=by simp only[dq,ht]at h;obtain⟨n,rfl,hw⟩:=h;exact⟨n,by simp[lr,isAgg,ht],hw⟩
theorem KC {P:Program}{k:Nat}{t:TypeId}{cs:List AV}(ht:P.underlying t=some .bool) (h:dq P (k+1) t cs):∃b,lr P t cs= .sc (.bool b):=by simp only[dq,ht]at h;obtain⟨n,rfl⟩:=h;exact⟨n,by simp[lr,isAgg,ht]⟩
theorem kQ {P:Program}{k:Nat}{t e:TypeId}{cs:List AV}{α:Type}(f:α→AV) (ht:P.underlying t=some (.slice e)) (hf:∀c,dq P k e c→ ∃x,lr P e c=f x) (h:dq P (k+1) t cs):
 ∃(l:List α) (nl:Bool),lr P t cs= .an e (l.map f) .aE nl∧(nl=true→l= [])∧l.length*P.bytesOf e≤reachBytes:=by
 simp only[dq,ht]at h;rcases h with rfl|⟨es,rfl,h1,g⟩
 ·exact⟨[],true,by simp[lr,isAgg,ht],fun _ =>rfl,by simp⟩
 ·have:∃l:List α,l.length=es.length∧es.map (lr P e)=l.map f:=by
   clear h1;induction es with
   |nil=>exact⟨[],rfl,rfl⟩
   |cons c r i=>obtain⟨x,j⟩:=hf c (g c (by simp));obtain⟨l,hl,hm⟩:=i (fun d hd=>g d (by simp[hd]));exact⟨x::l,by simp[hl],by simp[j,hm]⟩
  obtain⟨l,hl,hm⟩:=this;exact⟨l,false,by simp[lr,isAgg,ht,hm],(fun h=>by cases h),(by rw[hl];exact h1)⟩
theorem zJ {W w:World}{k:Nat}{t:TypeId}{v:Value}{cs:List AV}{base:Nat}(j:served P k t=true) (d:Value.okWide P w .any base t v) (h:pC P (sw W) cs v.cells.toList):
 ba P (sw W) (lr P t cs) v:=by
 cases k with
 |zero=>simp[served]at j
 |succ k=>
  unfold lr isAgg;unfold Value.okWide at d;simp only[served]at j;have single:(∀c,v≠ .agg c)→ba P (sw W) (cs.headD .any) v:=by
   intro l;have e:v.cells= #[v]:=by cases v<;>first|rfl|exact absurd rfl (l _)
   rw[e]at h;obtain⟨h1,q⟩:=h
   match cs,h1 with
   |[c],_ =>simpa using(q 0 (by simp)).1
  split at j<;>rename_i hu<;>simp only[hu]at d⊢
  ·exact single fun c g=>by subst g;simp[Cell.okWide,Cell.ok,hu]at d
  ·exact single fun c g=>by subst g;simp[Cell.okWide,Cell.ok,hu]at d
  ·exact single fun c g=>by subst g;simp[Cell.okWide,Cell.ok,hu]at d
  ·exact single fun c g=>by subst g;simp[Cell.okWide,Cell.ok,hu]at d
  ·exact single fun c g=>by subst g;simp[Cell.okWide,Cell.ok,hu]at d
  ·obtain⟨c,rfl,_,_⟩:=d;simp only[Value.cells]at h;have:c=c.toList.toArray:=by simp
   rw[this];simp only[if_true];exact .agg c.toList h.1.symm fun i o=>(h.2 i o).1
  ·cases j
theorem Hz {W:World}{base k:Nat} :∀(ts:List TypeId) (vs:List Value) (ds:List (DataW H)) (ps:List MemPlace),(∀t∈ts,served P k t=true)→
 (∀n∈DataW.weightsEach P ts ds,n≤reachBytes)→(∀(j:Nat) t v,ts[j]? =some t→vs[j]? =some v→Value.okWide P W .any base t v)→
 DataW.TrodAll enc P W 0 (fun _ =>true) true ts vs ds ps→
 ∃as,uX P k ts as∧vs.length=as.length∧ds.length=ts.length∧ ∀i,i<as.length→ba P (sw W) (as.getD i .any) (vs.getD i undef):=by
 intro ts;induction ts with
 |nil=>intro vs ds ps _ _ _ h;obtain⟨rfl,rfl,_⟩:=trodAll_nil h;exact⟨[],trivial,rfl,rfl,fun i o=>by simp at o⟩
 |cons t ts y=>
  intro vs ds ps g hw u h;obtain⟨v,vs,d,ds,p,q,rfl,rfl,rfl,h1,A⟩:=trodAll_cons h;obtain⟨as,O,M,L,J⟩:=y vs ds q (fun t ht=>g t (by simp[ht])) (fun n l=>hw n (by simp[DataW.weightsEach,l])) (fun j t v E D=>u (j+1) t v (by simpa using E) (by simpa using D)) A;obtain⟨fuel,h1⟩:=h1;obtain⟨cs,I,S,F⟩:=II k t fuel _ _ (g t (by simp)) (fun n l=>hw n (by simp[DataW.weightsEach,l])) h1;refine⟨lr P t cs::as,⟨⟨cs,rfl,I⟩,O⟩,by simp[M],by simp[L],fun i o=> ?_⟩;cases i with
  |zero=>simpa using zJ (g t (by simp)) (u 0 t v rfl rfl) F
  |succ i=>simpa using J i (by simpa using o)
theorem Hy (hl:laidOutB P=true) {W l:World} :∀(ts:List TypeId) (vs:List Value) (ds:List (DataW H)) (ps:List MemPlace),(∀t∈ts,P.readableRec t=true∧t<P.types.size)→
 Below W.heap.size W l→(∀x∈ps,x.block<W.heap.size)→DataW.TrodAll enc P W 0 (fun _ =>true) true ts vs ds ps→DataW.TrodAll enc P l 0 (fun b=>decide (b<W.heap.size)) true ts vs ds ps:=by
 intro ts;induction ts with
 |nil=>intro vs ds ps _ _ _ h;obtain⟨rfl,rfl,rfl⟩:=trodAll_nil h;exact rfl
 |cons t ts o=>intro vs ds ps ht j g h;obtain⟨v,vs,d,ds,p,q,rfl,rfl,rfl,h1,u⟩:=trodAll_cons h;exact⟨p,q,Below.trod hl (ht t (by simp)).1 (ht t (by simp)).2 h1 j (fun x i=>g x (by simp[i])),o _ _ _ (fun t h=>ht t (by simp[h])) j (fun x i=>g x (by simp[i])) u,rfl⟩
def AO (r:AV) (_ :AS):Prop:=r= .sc (.bool true)
theorem DS {σ:AS}{b:Bool}(h:b=true):Ends P AO σ (.sc (.bool b)):=⟨_,σ,Wk.refl _,AS.le_refl _,by rw[h];rfl⟩
@[simp] theorem OX {σ:AS}{b:Bool} :Ends P AO σ (.sc (.bool b))↔b=true:=by refine⟨fun⟨d,σ',h1,h,g⟩=> ?_,DS⟩;have:d= .sc (.bool true):=g;subst this;have:=h1 (sw default) (.bool b) (.sc _);cases this;rfl
theorem z5 (k:Nat) {f:FuncId}{fn:Func}{s:ChangeSpec}{ts:List TypeId}{tb:TypeId}(y:laidOutB P=true) (o:fn.params.toList=ts) (g:ts.all (served P k)=true)
 (u:ts.all (fun t=>P.readableRec t&&decide (t<P.types.size))=true) (I:fn.resultTypes= #[tb]) (hb:P.underlying tb=some .bool) (d:s.vars= [])
 (Z:∀ds:List (DataW H),ds.length=ts.length→s.fn H ds= { results:= [.lit (.bool true)],args:=ds })
 (D:∀as,uX P k ts as→aa P f as OL AO No)
 {W:World} {base:Nat} {args:Array Value} {ds gs:List (DataW H)} {before:List MemPlace}
 (F:∀(j:Nat) t v,fn.params[j]? =some t→args[j]? =some v→Value.okWide P W .any base t v)
 (T:DataW.Whole enc P fn.params.toList s.vars false W args.toList ds gs before)
 (l:(DataW.weightsEach P (fn.params.toList++s.plain.varTypes P) (ds++gs)).all (· ≤reachBytes)=true):
 Calls P f args W fun e S=> ∃v,e= .returned v∧s.post enc P fn false true false false W args v S:=by
 have E:=T;obtain⟨p,q,O,U,rfl,_,_⟩:=T;rw[d]at U;obtain⟨rfl,rfl⟩:=trodVars_none U;have L:s.plain.varTypes P= []:=by simp[ChangeSpec.plain,DataSpec.varTypes,d]
 rw[L,List.append_nil,List.append_nil]at l;rw[o]at O l;obtain⟨as,a1,a2,a3,a4⟩:=Hz (k:=k) ts args.toList ds p (fun t ht=>List.all_eq_true.1 g t ht) (fun n hn=>by simpa using List.all_eq_true.1 l n hn) (fun j t v X e2=>F j t v (by rw[←o]at X;simpa using X) (by simpa using e2)) O;refine((D as a1).run (sw W) W args (JJ P W) ⟨by simpa using a2,fun i hi=>by simpa using a4 i hi⟩).mono fun e S he=> ?_;unfold kS at he;split at he
 ·rename_i v;obtain⟨G',σ',r,V,g2,g3,rfl⟩:=he;cases g3;have J:Below W.heap.size W S:=by have:=g2.below;rw[V.B,V.W0]at this;exact this
  simp only[List.append_nil]at E;have M:∀x∈p,x.block<W.heap.size:=fun x Y=>E.lt x Y;have A:=Z ds a3;refine⟨_,rfl,ds,[],p,[],p,[],E,?_,?_,?_,J.frame _,fun h=>by cases h⟩
  ·rw[List.append_nil,A,I];exact trodAll_mk1 (shut_bool hb _)
  ·rw[List.append_nil,A,o];exact Hy y ts _ _ _ (fun t ht=>by simpa using List.all_eq_true.1 u t ht) J M O
  ·rw[d,List.append_nil,A];rfl
 ·obtain⟨_,_,_,_,_,_,_,_,h⟩:=he;exact h.elim
 ·exact he.elim
end Go.AW
namespace Go.AW
open Go Go.RowKit
variable {P:Program} {n:Nat} {ds:List Deferred} {Q:AQ} {s:Fr} {σ:AS}
theorem Wk.of {a b:AV}(h:a=b):AV.Wk P a b:=h ▸ Wk.refl _
theorem aS.nil:aS P s (jJ []):=fun _ _ _ _ => .any _
theorem aS.cons {j:Nat}{v:AV}{r:List (Nat×AV)}(h:AV.Wk P (s j) v) (d:aS P s (jJ r)):aS P s (jJ ((j,v)::r)):=by
 intro i;simp only[BO];split
 ·rename_i e;subst e;exact h
 ·exact d i
def aP (P:Program) {α:Type}(m:α→Nat) (I:α→Prop) (c:List (Nat×AV)) (v:α→List (Nat×AV)) (st:α→AS) (a:α) (g:Fr) (σ':AS):Prop:=
 ∃d,m d<m a∧I d∧aS P g (jJ (c++v d))∧AS.le (st d) σ'
theorem aP.mk {α:Type}{m:α→Nat}{I:α→Prop}{c:List (Nat×AV)}{v:α→List (Nat×AV)}{st:α→AS}{a:α}{g:Fr}{σ':AS}(d:α)
 (h1:m d<m a) (j:aS P g (jJ (c++v d))) (i:AS.le (st d) σ') (h:I d):aP P m I c v st a g σ':=⟨d,h1,h,j,i⟩
theorem ae.bp {α:Type}{body:Code}(g:α) (m:α→Nat) (I:α→Prop) (c:List (Nat×AV)) (v:α→List (Nat×AV)) (st:α→AS)
 (l:aS P s (jJ (c++v g))) (j:AS.le (st g) σ) (h0:I g)
 (o:∀a,I a→ae P n ds body (dP (aP P m I c v st a) Q) (jJ (c++v a)) (st a)):ae P n ds (.loop body) Q s σ:=by
 refine ae.loop (fun k s σ=> ∃a,k=m a∧I a∧s=jJ (c++v a)∧σ=st a) ⟨g,rfl,h0,rfl,rfl⟩ l j ?_;rintro k s σ ⟨a,rfl,ha,rfl,rfl⟩;refine(o a ha).mono fun e A σ' d=> ?_;cases e with
 |normal=>obtain⟨h,h1,y,u,q⟩:=d;exact⟨m h,_,_,h1,u,q,h,rfl,y,rfl,rfl⟩
 |exit i=>exact d
 |ret=>exact d
 |panic x=>exact d
theorem ag.Mr {f:FuncId}{first cap args:List AV}{d:AS}{v:AV}{K j:AV→AS→Prop}(h:aa P f (first++args++cap) σ (ao v d) No) (g:K v d):ag P (.fn (.func f) first cap) args σ K j:=
 ⟨_,_,h,fun r σ' ⟨h1,i⟩=>by subst h1;subst i;exact g,fun _ _ h=>h.elim⟩
def mX (P:Program) (σ:AS) (d:AV) (args:List AV) (g:AV):Prop:= ∀K h:AV→AS→Prop,K g σ→ag P d args σ K h
theorem mX.use {d:AV}{args:List AV}{g:AV}(h:mX P σ d args g) {K i:AV→AS→Prop}(j:K g σ):ag P d args σ K i:=h K i j
theorem mX.fn {f:FuncId}{first cap args:List AV}{g:AV}(h:aa P f (first++args++cap) σ (ao g σ) No):mX P σ (.fn (.func f) first cap) args g:=fun _ _ d=>ag.Mr h d
theorem mX.func {f:FuncId}{args:List AV}{g:AV}(h:aa P f args σ (ao g σ) No):mX P σ (.sc (.func (.func f) #[] #[])) args g:=fun _ _ d=>ag.aC h d
theorem aI (a b:Nat):((a:Int)<(b:Int))=(a<b):=by simp only[eq_iff_iff];omega
theorem mj (a b:Nat):((a:Int)≤(b:Int))=(a≤b):=by simp only[eq_iff_iff];omega
theorem cv {i:Nat}(h:i<4000000000000000000):IntKind.i64.wrap ((i:Int)+1)=((i+1:Nat):Int):=g8 h
end Go.AW
namespace Go.AW
open Go Go.RowKit
variable {P:Program} {n:Nat} {ds:List Deferred} {Q:AQ} {s:Fr} {σ:AS} {G:Gh} {w:World} {K Pn:AV→AS→Prop}
theorem dR {m:Nat}{l:List AV}(h:∀v∈l,v.cells.length=m):(az l).length=l.length*m:=(gN l h).1
theorem lM (a b:List AV):az (a++b)=az a++az b:=by simp[az]
theorem uN {m:Nat}{l:List AV}(h:∀v∈l,v.cells.length=m) {i:Nat}(g:i<l.length):
 az l=az (l.take i)++(l[i].cells++az (l.drop (i+1)))∧(az (l.take i)).length=i*m:=by
 have h1:l=l.take i++l[i]::l.drop (i+1):=by
  conv=>lhs;rw[←List.take_append_drop i l,List.drop_eq_getElem_cons g]
 refine⟨?_,?_⟩
 ·conv=>lhs;rw[h1]
  rw[lM,kf]
 ·rw[dR (m:=m) (fun v d=>h v (List.mem_of_mem_take d)),List.length_take,Nat.min_eq_left (by omega)]
theorem ue {m:Nat}{l:List AV}(h:∀v∈l,v.cells.length=m) {i:Nat}(d:i<l.length) {v:AV}(j:v.cells.length=m):
 (az l).take (i*m)++(v.cells++(az l).drop (i*m+m))=az (l.set i v):=by
 obtain⟨h1,q⟩:=uN h d;have o:=h l[i] (List.getElem_mem d);have g:l.set i v=l.take i++v::l.drop (i+1):=by rw[List.set_eq_take_append_cons_drop,if_pos d]
 rw[g,lM,kf,h1,List.take_append_of_le_length (by omega),List.take_of_length_le (by omega)];congr 1;rw[←List.append_assoc,List.drop_append_of_le_length (by simp;omega),List.drop_eq_nil_of_le (by simp;omega),List.nil_append]
theorem xc {d:List AV}{m:Nat}(hm:0<m) (h:∀v∈d,v.cells.length=m) {vs:Nat→Value}{p:Value→Prop}
 (u:∀i j,i<d.length→j<m→ba P G ((d.getD i .any).cells.getD j .any) (vs (i*m+j))∧p (vs (i*m+j))):∀k,k<(az d).length→ba P G ((az d).getD k .any) (vs k)∧p (vs k):=by
 intro k l;obtain⟨f1,f2⟩:=gN d h;rw[f1]at l;have k1:k/m<d.length:=Nat.div_lt_of_lt_mul (by rw[Nat.mul_comm];exact l);have g:k%m<m:=Nat.mod_lt _ hm;have q:(k/m)*m+k%m=k:=by rw[Nat.mul_comm];exact Nat.div_add_mod k _
 have h1:=f2 _ _ k1 g;have o:=u _ _ k1 g;rw[q]at h1 o;rw[h1];exact o
theorem G4 {d:List AV}{m:Nat}(h:∀v∈d,v.cells.length=m) {vs:Nat→Value}{p:Value→Prop}
 (o:∀k,k<(az d).length→ba P G ((az d).getD k .any) (vs k)∧p (vs k)):∀i j,i<d.length→j<m→ba P G ((d.getD i .any).cells.getD j .any) (vs (i*m+j))∧p (vs (i*m+j)):=by
 intro i j l g;obtain⟨f1,f2⟩:=gN d h;rw[←f2 i j l g];exact o _ (by rw[f1];exact kc l g)
def GV (P:Program) (e:TypeId) (es:List AV) (v:AV) (S τ:AS):Prop:=
 (es= []∧v= .ai∧τ=S)∨ ∃(id cap:Nat) (d:List AV),S id=none∧v= .fT id 0 es.length cap∧τ=S.set id (.cells e (az (es++d)))∧(∀x∈es++d,x.cells.length=P.cellsOf e)∧es.length+d.length=cap
theorem GV.nil {e:TypeId}{S:AS} :GV P e [] .ai S S:= .inl ⟨rfl,rfl,rfl⟩
theorem GV.le {e:TypeId}{es:List AV}{v:AV}{S τ:AS}(h:GV P e es v S τ):AS.le S τ:=by
 rcases h with⟨_,_,rfl⟩|⟨id,cap,d,h0,_,rfl,_⟩
 ·exact AS.le_refl _
 ·exact aq h0 (AS.le_refl _)
theorem GV.set {e:TypeId}{es:List AV}{v:AV}{S τ:AS}(h:GV P e es v S τ) {j:Nat}{b:bN}(i:τ j=none):GV P e es v (S.set j b) (τ.set j b):=by
 rcases h with⟨h1,q,rfl⟩|⟨id,cap,g,h0,h1,rfl,o⟩
 ·exact .inl ⟨h1,q,rfl⟩
 ·have d:j≠id:=by rintro rfl;simp at i
  exact .inr ⟨id,cap,g,by have l:¬id=j:=fun e=>d e.symm;simp[l,h0],h1,(AS.set_comm d.symm).symm ▸ rfl,o⟩
theorem GV.TM {e:TypeId}{es:List AV}{v:AV}{S i g:AS}(h:GV P e es v i g) (hle:AS.le S i):∃τ,GV P e es v S τ∧AS.le τ g:=by
 rcases h with⟨h1,q,rfl⟩|⟨id,cap,d,h0,h1,rfl,o⟩
 ·exact⟨S,.inl ⟨h1,q,rfl⟩,hle⟩
 ·have l:S id=none:=by
   cases j:S id with
   |none=>rfl
   |some b=>have:=hle id b j;rw[h0]at this;cases this
  exact⟨_,.inr ⟨id,cap,d,l,h1,rfl,o⟩,zX hle⟩
theorem GV.fresh {e:TypeId}{es:List AV}{v:AV}{S τ:AS}(h:GV P e es v S τ) {j:Nat}(g:τ j=none):S j=none:=by
 cases d:S j with
 |none=>rfl
 |some b=>have:=h.le j b d;rw[g]at this;cases this
theorem uV (hi:Inv P G σ w) {t tx ty e:TypeId}{es xs:List AV}{S:AS}{v x:AV}{vs vx:Value}(he:ct P t=some e) (dl:P.cellsOf e≠0) (ar:(aw P e).laid=true) (ap:(aw P e).cells.length=P.cellsOf e)
 (hs:ba P G v vs) (hG:GV P e es v S σ) (g:ba P G x vx) (a5:fR P e tx x=some xs) (I:∀x∈xs,x.cells.length=P.cellsOf e)
 (a0:(es.length+xs.length)*P.bytesOf e≤kH (P.bytesOf e)) (c5:es.length+xs.length≤140737488355328) (h:∀v' τ',GV P e (es++xs) v' S τ'→K v' τ'):
 Out P G K Pn (((do pure (Next.value (←Builtin.append_ #[t,tx] ty #[vs,vx]))):Sem Next).run P w):=by
 have hu:=fj he;obtain⟨it,z,J,hz,b2⟩:=dD ar;have E:it.size=P.cellsOf e:=by simp[Program.cellsOf,J]
 have Z:it.bytes=P.bytesOf e:=by simp[Program.bytesOf,J]
 have b5:ba P G (aw P e) z:=by rw[b2];exact gD z
 obtain⟨z1,z2⟩:=gr b5 ar;rw[ap]at z1 z2;obtain⟨news,s1,s2⟩:=Df hi ar ap g a5;have ac:0<P.cellsOf e:=by omega
 have A:news.length=xs.length*P.cellsOf e:=s2.len;have O:∀am,am<es.length+xs.length→Builtin.nextslicecap (es.length+xs.length) am*it.bytes≤281474976710656:=by intro am ho;rw[Z];exact wh ho a0
 have q:∀i,i<news.length→(news.getD i undef).oneCell'=true:=fun i l=>by rw[List.getD_eq_getElem?_getD,List.getElem?_eq_getElem l];exact s1.one _ (List.getElem_mem _)
 have grow:∀(base:Option Addr) (cap:Nat) (olds:List Value),vs= .slice base es.length cap→(∀x∈es,x.cells.length=P.cellsOf e)→olds.length=es.length*P.cellsOf e→cap<es.length+xs.length→
  (Builtin.firstCells it.size es.length (.slice base es.length cap)).run P w.drew= .ok olds.toArray w.drew→
  (∀i j,i<es.length→j<P.cellsOf e→ba P G ((es.getD i .any).cells.getD j .any) (olds.getD (i*P.cellsOf e+j) undef)∧(olds.getD (i*P.cellsOf e+j) undef).oneCell'=true)→Inv P G S w→
  Out P G K Pn (((do pure (Next.value (←Builtin.append_ #[t,tx] ty #[vs,vx]))):Sem Next).run P w):=by
  intro base cap olds b4 cd V X hold b6 a9;have y:=xA (P:=P) w t tx ty e it z hu J hz base es.length cap olds hold vx xs.length news s1 X (by omega) (O cap X);have Y:=grownCap_ge w (es.length+xs.length) cap e;generalize grownCap w (es.length+xs.length) cap e=F at y Y;have o:∀x∈es++xs++List.replicate (F-(es.length+xs.length)) (aw P e),x.cells.length=P.cellsOf e:=by
   intro x g;rcases List.mem_append.1 g with g|g
   ·rcases List.mem_append.1 g with g|g
    ·exact cd x g
    ·exact I x g
   ·rw[(List.mem_replicate.1 g).2];exact ap
  have ab:(olds++news).toArray++Builtin.zeroCells z.cells (F-(es.length+xs.length))=(olds++news++(Builtin.zeroCells z.cells (F-(es.length+xs.length))).toList).toArray:=by apply Array.ext';simp
  have b3:((Builtin.zeroCells z.cells (F-(es.length+xs.length))).toList).length=(F-(es.length+xs.length))*P.cellsOf e:=by simp[Builtin.zeroCells,z1]
  obtain⟨G',g1,g2,g3⟩:=a9.drew.mq e ((olds++news).toArray++Builtin.zeroCells z.cells (F-(es.length+xs.length))) (az (es++xs++List.replicate (F-(es.length+xs.length)) (aw P e)))
   (by rw[ab,dR o];simp[V,A,b3,Nat.add_mul]) (by
    refine xc (P:=P) (G:=G) ac o (vs:=fun k=>((olds++news).toArray++Builtin.zeroCells z.cells (F-(es.length+xs.length))).getD k undef) (p:=fun v=>v.oneCell'=true) ?_;intro i j l D;have hg:∀k,((olds++news).toArray++Builtin.zeroCells z.cells (F-(es.length+xs.length))).getD k undef=(olds++news++(Builtin.zeroCells z.cells (F-(es.length+xs.length))).toList).getD k undef:=by intro k;rw[ab];simp[List.getD_eq_getElem?_getD]
    simp only[hg];simp only[List.length_append,List.length_replicate]at l;by_cases c1:i<es.length
    ·have e1:=kc c1 D;rw[aO _ _ _ (by simp;omega),aO _ _ _ c1,aO _ _ _ (by simp;omega),aO _ _ _ (by omega)];exact b6 i j c1 D
    ·by_cases c2:i<es.length+xs.length
     ·have e1:=kc (n:=es.length+xs.length) c2 D;have e2:=Ab (sz:=P.cellsOf e) (j:=j) (show es.length≤i by omega);rw[Nat.add_mul]at e1;have e4:es.length*P.cellsOf e≤i*P.cellsOf e:=Nat.mul_le_mul_right _ (by omega);have e3:i*P.cellsOf e+j-olds.length=(i-es.length)*P.cellsOf e+j:=by rw[V,Nat.sub_mul];omega
      have a7:=s2.rep (i-es.length) j (by omega) D;have a8:=q ((i-es.length)*P.cellsOf e+j) (by rw[A];exact kc (by omega) D);rw[aO _ _ _ (by simp;omega),aX _ _ _ (by omega),aO _ _ _ (by simp;omega),aX _ _ _ (by omega),e3];exact⟨a7,a8⟩
     ·have e2:=Ab (sz:=P.cellsOf e) (j:=j) (show es.length+xs.length≤i by omega);rw[Nat.add_mul]at e2;have e4:(es.length+xs.length)*P.cellsOf e≤i*P.cellsOf e:=Nat.mul_le_mul_right _ (by omega);rw[Nat.add_mul]at e4;have e3:i*P.cellsOf e+j-(olds++news).length=(i-(es.length+xs.length))*P.cellsOf e+j:=by rw[List.length_append,V,A,Nat.sub_mul,Nat.add_mul];omega
      rw[aX _ _ _ (by simp;omega),aX _ _ _ (by simp[V,A];omega),e3];rw[qv z1 (F-(es.length+xs.length)) (i-(es.length+xs.length)) j (by omega) D];have cc:(List.replicate (F-(es.length+xs.length)) (aw P e)).getD (i-(es++xs).length) .any=aw P e:=by rw[List.getD_eq_getElem?_getD,List.getElem?_replicate,if_pos (by simp;omega)];rfl
      rw[cc];exact z2 j D)
  rw[b4];refine Out.value y g1 g3 (.fT g2) (h _ _ (.inr ⟨G.top,F,List.replicate (F-(es.length+xs.length)) (aw P e),a9.fresh,by simp,rfl,o,by simp;omega⟩))
 rcases hG with⟨rfl,rfl,rfl⟩|⟨id,cap,d,h0,rfl,rfl,o,bc⟩
 ·cases hs;by_cases a4:xs= []
  ·subst a4;have ca:news= []:=by simpa using A
   subst ca;exact Out.value (CE hu J s1) (.refl G) hi .ai (h _ _ GV.nil)
  ·have:0<xs.length:=List.length_pos_iff.2 a4;exact grow none 0 [] rfl (by simp) (by simp) (by simp;omega) (by simp[Builtin.firstCells]) (fun i j l=>by simp at l) hi
 ·cases hs with
  |fT hb=>
   rename_i b;obtain⟨b',cur,k1,k2,k3,k4⟩:=hi.cells id e (az (es++d)) (by simp);rw[hb]at k1;obtain rfl:=Option.some.inj k1;have bb:=dR o;have L:∀x∈es,x.cells.length=P.cellsOf e:=fun x g=>o x (by simp[g]);have U:=G4 (P:=P) (G:=G) o (vs:=fun k=>cur.getD k undef) (p:=fun v=>v.oneCell'=true) k4;by_cases al:es.length+xs.length≤cap
   ·have M:cur.size=cap*P.cellsOf e:=by rw[k3,bb,List.length_append,bc]
    have af:(es.length+xs.length)*P.cellsOf e≤cap*P.cellsOf e:=Nat.mul_le_mul_right _ al;rw[Nat.add_mul]at af;have y:=CF (P:=P) w t tx ty e it hu J b 0 es.length cap vx xs.length news s1 al
     (fun j D=>by
      rw[E];simp only[World.cell?,k2];have:es.length*P.cellsOf e+j<cur.size:=by rw[M];omega
      simp[this]) (fun j D=>by
      simp only[World.frozen?,k2];simp)
    rw[E,Nat.zero_add]at y;have av:=hi.store (i:=id) (ty:=e) (cs:=az (es++d)) (by simp) (es.length*P.cellsOf e) news (az xs) (by rw[A,dR I]) (by rw[A,←k3,M];exact af)
     (xc (P:=P) (G:=G) ac I (vs:=fun k=>news.getD k undef) (p:=fun v=>v.oneCell'=true) (fun i j l D=>⟨s2.rep i j l D,q _ (by rw[A];exact kc l D)⟩)) b hb
    have ce:(az (es++d)).take (es.length*P.cellsOf e)++az xs++(az (es++d)).drop (es.length*P.cellsOf e+(az xs).length)=az (es++xs++d.drop xs.length):=by
     have cb:=dR L;have a6:∀x∈d,x.cells.length=P.cellsOf e:=fun x g=>o x (by simp[g]);have hd:(az d).drop (xs.length*P.cellsOf e)=az (d.drop xs.length):=by
      have e1:d=d.take xs.length++d.drop xs.length:=(List.take_append_drop _ _).symm;have e2:(az (d.take xs.length)).length=xs.length*P.cellsOf e:=by rw[dR (m:=P.cellsOf e) (fun x g=>a6 x (List.mem_of_mem_take g)),List.length_take,Nat.min_eq_left (by omega)]
      conv=>lhs;rw[e1]
      rw[lM,←e2,List.drop_left]
     rw[lM es d,lM (es++xs),lM es xs,←cb,List.take_left,←List.drop_drop,List.drop_left,dR I,hd]
    rw[ce]at av;rw[AS.set_set]at av;refine Out.value y (.refl G) av (.fT hb) (h _ _ (.inr ⟨id,cap,d.drop xs.length,h0,by simp,rfl,fun x g=> ?_,by simp;omega⟩));rcases List.mem_append.1 g with g|g
    ·rcases List.mem_append.1 g with g|g
     ·exact L x g
     ·exact I x g
    ·exact o x (by simp[List.mem_of_mem_drop g])
   ·have c6:es.length*P.cellsOf e≤cur.size:=by rw[k3,bb];exact Nat.mul_le_mul_right _ (by simp)
    refine grow (some ⟨b,0,none⟩) cap (cur.toList.take (es.length*P.cellsOf e)) rfl L (by simp;omega) (by omega) ?_ ?_ (hi.weaken (aq h0 (AS.le_refl _)))
    ·refine run_firstCells_some (P:=P) w.drew it.size es.length ⟨b,0,none⟩ es.length cap _ (by rw[E];simp;omega) (fun j u T=> ?_);have D:j<es.length*P.cellsOf e:=by
      rcases Nat.lt_or_ge j (es.length*P.cellsOf e)with h1|h1
      ·exact h1
      ·rw[List.getElem?_eq_none (by simp;omega)]at T;cases T
     rw[List.getElem?_take_of_lt D]at T;rw[Addr.add_lit,Nat.zero_add];show w.cell? ⟨b,j,none⟩=some u;simp only[World.cell?,k2];simpa using T
    ·intro i j l D;have hr:=U i j (by simp;omega) D;have X:=kc l D;rw[aO _ _ _ l]at hr;have eg:(cur.toList.take (es.length*P.cellsOf e)).getD (i*P.cellsOf e+j) undef=cur.getD (i*P.cellsOf e+j) undef:=by rw[List.getD_eq_getElem?_getD,List.getElem?_take_of_lt X];simp
     rw[eg];exact hr
theorem il.Az {d:Nat}{t l:TypeId}{a b:Operand}{ty:TypeId}{pos:String}{J:Array Edge}{g:Option (Nat×Bool)}{K:Fr→AS→Prop}(hd:d<n) (e:TypeId) (es xs:List AV) (S:AS) (he:ct P t=some e) (y:P.cellsOf e≠0)
 (q:(aw P e).laid=true) (o:(aw P e).cells.length=P.cellsOf e) (F:GV P e es (ev s a) S σ) (E:fR P e l (ev s b)=some xs) (u:∀x∈xs,x.cells.length=P.cellsOf e)
 (i:(es.length+xs.length)*P.bytesOf e≤kH (P.bytesOf e)) (j:es.length+xs.length≤140737488355328)
 (h:∀D A,GV P e (es++xs) D S A→K (s.put (some d) D) A):il P n ds Q ⟨some d,.call ⟨.builtin .append,#[a,b],#[t,l]⟩,ty,pos,J,g⟩ s σ K:=
 il.ni hd fun G act w v=>by
  show Out P G _ _ ((do let d ←resolve act.eval ⟨.builtin .append,#[a,b],#[t,l]⟩ ty;invoke d.target d.args:Sem Next).run P w);simp only[resolve,Sem.run_bind,Sem.run_pure,Result.andThen_ok,invoke];have I:(#[a,b]:Array Operand).map act.eval= #[act.eval a,act.eval b]:=by simp
  rw[I];exact uV (ty:=ty) v.inv he y q o (v.ev a) F (v.ev b) E u i j h
theorem AS.qC {σ:AS}{i:Nat}{x:bN}(h:σ i=some x):σ.set i x=σ:=AS.Dm _ _ _ h
theorem Inv.sy {id:Nat}{e:TypeId}{g:List AV}(h:Inv P G (σ.set id (.cells e (az g))) w) (h0:σ id=none) (hl:∀v∈g,v.cells.length=P.cellsOf e):
 ∃G',G.Le G'∧Inv P G' σ w∧ ∀o m cap y,o+m≤g.length→m≤cap→ba P G (.fT id (o*P.cellsOf e) m cap) y→ba P G' (.an e ((g.drop o).take m) .aE false) y:=by
 obtain⟨b,vs,k1,k2,k3,k4⟩:=h.cells id e (az g) (by simp[AS.set]);obtain⟨f1,f2⟩:=gN (m:=P.cellsOf e) g hl;have D:∀o,G.mem b o=none:=(h.dA id b k1).2.2 e (az g) (by simp[AS.set]);have hle:G.Le (G.ka b 0 (az g).length (fun k=>vs.getD k undef)):=by
  refine⟨rfl,rfl,fun b' o v em=> ?_,fun _ _ e=>e,fun t r e=>⟨r,e,rfl,.inl rfl⟩⟩;rw[Gh.fp]
  ·exact em
  ·rintro⟨rfl,_⟩;rw[D o]at em;cases em
 have u:∀j x,σ j=some x→j≠id∧(σ.set id (.cells e (az g))) j=some x:=by
  intro j x l;have:j≠id:=by intro e';subst e';rw[h0]at l;cases l
  exact⟨this,by simp[AS.set,this,l]⟩
 refine⟨_,hle,⟨h.below,h.base,?_,h.top,?_,h.fN,?_,?_,?_,?_,?_⟩,?_⟩
 ·intro b' o v em;by_cases hc:b'=b∧0≤o∧o<0+(az g).length
  ·obtain⟨rfl,h3,h4⟩:=hc;rw[Gh.lx h3 h4]at em;obtain rfl:=Option.some.inj em;have ho:o<vs.size:=by omega
   refine⟨?_,(k4 o (by omega)).2⟩;simp[World.cell?,k2,ho]
  ·rw[Gh.fp hc]at em;exact h.mem b' o v em
 ·intro j c l;have:=h.dA j c l;refine⟨this.1,this.2.1,fun ty cs' hn o=> ?_⟩;obtain⟨X,J⟩:=u j _ hn;have af:c≠b:=fun e'=>X (h.fN j id b (e' ▸ l) k1);rw[Gh.fp (fun hh=>af hh.1)];exact this.2.2 ty cs' J o
 ·intro j ty cs' l;obtain⟨c,O,I,F,E,M⟩:=h.cells j ty cs' (u j _ l).2;exact⟨c,O,I,F,E,fun k L=>⟨(M k L).1.mono hle,(M k L).2⟩⟩
 ·intro j al l;obtain⟨c,ms,cl,I,F,E,M⟩:=h.maps j al (u j _ l).2;refine⟨c,ms,cl,I,F,E,fun k L=> ?_⟩;obtain⟨q,U,T,S⟩:=M k L;exact⟨q,U,T.mono hle,S.mono hle⟩
 ·intro j s' p l;exact h.dY j s' p (u j _ l).2
 ·intro j m l;exact h.tok j m (u j _ l).2
 ·intro t r et;obtain⟨I,F,E⟩:=h.own t r et;refine⟨I,F,fun c o ea k ab Z=> ?_⟩;obtain⟨U,T,S,q4,q5,q6,q7⟩:=E c o ea k ab Z;refine⟨U,T,?_,q4,q5,q6,q7⟩;rw[Gh.fp (fun hh=>q4 id (by rw[k1,hh.1]))];exact S
 ·intro o m cap y V Y hy;cases hy with
  |fT hb=>
   rw[k1]at hb;obtain rfl:=Option.some.inj hb;have hlen:((g.drop o).take m).length=m:=by simp;omega
   have A:∀i,i<m→((g.drop o).take m).getD i .any=g.getD (o+i) .any:=fun i d=>by rw[List.getD_eq_getElem?_getD,List.getElem?_take_of_lt d,List.getElem?_drop,List.getD_eq_getElem?_getD]
   refine ba.DJ (fun k=>vs.getD (o*P.cellsOf e+k) undef) hlen (fun i d=> ?_) (fun k L=> ?_) (fun i j d hj=> ?_) Y trivial
   ·rw[hlen]at d;rw[A i d,List.getD_eq_getElem?_getD,List.getElem?_eq_getElem (by omega)];exact hl _ (List.getElem_mem _)
   ·have h1:(o+m)*P.cellsOf e≤g.length*P.cellsOf e:=Nat.mul_le_mul_right _ V;rw[Nat.add_mul]at h1;rw[Gh.lx (by omega) (by omega)];simp
   ·rw[hlen]at d;have h1:(o+i)*P.cellsOf e+j<g.length*P.cellsOf e:=kc (by omega) hj;have:=(k4 ((o+i)*P.cellsOf e+j) (by rw[f1];exact h1)).1;rw[f2 (o+i) j (by omega) hj,Nat.add_mul,Nat.add_assoc]at this;rw[A i d];exact this.mono hle
theorem ae.sy {c:Code}(i:Nat) {e:TypeId}{es:List AV}{S:AS}(A:GV P e es (s i) S σ) (h:∀nl,(nl=true→es= [])→ae P n ds c Q (s.put (some i) (.an e es .aE nl)) S):ae P n ds c Q s σ:=by
 intro G0 G a w h1 d;rcases A with⟨rfl,l,rfl⟩|⟨id,cap,y,h0,l,rfl,q,u⟩
 ·refine h true (fun _ =>rfl) G0 G a w h1 ⟨d.inv,d.size,d.ds,fun j=> ?_⟩;by_cases g:j=i
  ·subst g;have:=d.rep j;rw[l]at this;simp only[mJ,if_true];generalize a.tmps.getD j undef=v at this⊢;cases this;exact .jd trivial
  ·simp only[mJ,g,if_false];exact d.rep j
 ·obtain⟨G',hle,o,conv⟩:=d.inv.sy h0 q;refine h false (fun D=>by cases D) G0 G' a w (h1.trans hle) ⟨o,d.size,d.ds,fun j=> ?_⟩;by_cases g:j=i
  ·subst g;have:=d.rep j;rw[l]at this;simp only[mJ,if_true];have:=conv 0 es.length cap _ (by simp) (by omega) (by rw[Nat.zero_mul];exact this)
   simpa using this
  ·simp only[mJ,g,if_false];exact(d.rep j).mono hle
end Go.AW
namespace Go.AW
open Go Go.RowKit
variable {P:Program} {n:Nat} {ds:List Deferred} {Q:AQ} {s:Fr} {σ:AS} {G:Gh} {w:World} {K Pn:AV→AS→Prop}
theorem CD (hi:Inv P G σ w) {t tx ty e:TypeId}{xs:List AV}{nl:Bool}{x:AV}{vs Z:Value}(he:ct P t=some e) (bc:P.cellsOf e≠0) (E:(aw P e).laid=true) (D:(aw P e).cells.length=P.cellsOf e)
 (hs:ba P G (.an e [] .full nl) vs) (F:ba P G x Z) (S:fR P e tx x=some xs) (al:∀x∈xs,x.cells.length=P.cellsOf e) (h0:0<xs.length)
 (I:xs.length*P.bytesOf e≤kH (P.bytesOf e)) (a6:xs.length≤140737488355328) (h:∀v' τ',GV P e xs v' σ τ'→K v' τ'):
 Out P G K Pn (((do pure (Next.value (←Builtin.append_ #[t,tx] ty #[vs,Z]))):Sem Next).run P w):=by
 have am:∃base,vs= .slice base 0 0:=by
  cases hs with
  |jd ho=>exact⟨none,rfl⟩
  |an a7 hl hm hr hc ho=>obtain⟨a,ha⟩:=ho;exact⟨a,ha⟩
 obtain⟨base,rfl⟩:=am;have hu:=fj he;obtain⟨it,z,L,hz,ac⟩:=dD E;have ar:it.size=P.cellsOf e:=by simp[Program.cellsOf,L]
 have y:it.bytes=P.bytesOf e:=by simp[Program.bytesOf,L]
 have av:ba P G (aw P e) z:=by rw[ac];exact gD z
 obtain⟨Y,z2⟩:=gr av E;rw[D]at Y z2;obtain⟨news,s1,s2⟩:=Df hi E D F S;have U:0<P.cellsOf e:=by omega
 have J:news.length=xs.length*P.cellsOf e:=s2.len;have l:∀i,i<news.length→(news.getD i undef).oneCell'=true:=fun i M=>by rw[List.getD_eq_getElem?_getD,List.getElem?_eq_getElem M];exact s1.one _ (List.getElem_mem _)
 have q:Builtin.nextslicecap (0+xs.length) 0*it.bytes≤281474976710656:=by rw[y,Nat.zero_add];exact wh h0 I
 have o:=xA (P:=P) w t tx ty e it z hu L hz base 0 0 [] (by
  cases base with
  |none=>simp[Builtin.firstCells]
  |some a=>exact run_firstCells_some (P:=P) w.drew it.size 0 a 0 0 [] (by simp) (fun j u ap=>by simp at ap)) Z xs.length news s1 (by omega) (by omega) q
 have g:=grownCap_ge w (0+xs.length) 0 e;generalize grownCap w (0+xs.length) 0 e=d at o g;simp only[Nat.zero_add]at o g;have O:∀x∈xs++List.replicate (d-xs.length) (aw P e),x.cells.length=P.cellsOf e:=by
  intro x F;rcases List.mem_append.1 F with F|F
  ·exact al x F
  ·rw[(List.mem_replicate.1 F).2];exact D
 have A:([]++news).toArray++Builtin.zeroCells z.cells (d-xs.length)=(news++(Builtin.zeroCells z.cells (d-xs.length)).toList).toArray:=by apply Array.ext';simp
 have af:((Builtin.zeroCells z.cells (d-xs.length)).toList).length=(d-xs.length)*P.cellsOf e:=by simp[Builtin.zeroCells,Y]
 obtain⟨G',g1,g2,g3⟩:=hi.drew.mq e (([]++news).toArray++Builtin.zeroCells z.cells (d-xs.length)) (az (xs++List.replicate (d-xs.length) (aw P e)))
  (by rw[A,dR O];simp only[List.size_toArray,List.length_append,J,af,List.length_replicate,Nat.add_mul]) (by
   refine xc (P:=P) (G:=G) U O (vs:=fun k=>(([]++news).toArray++Builtin.zeroCells z.cells (d-xs.length)).getD k undef) (p:=fun v=>v.oneCell'=true) ?_;intro i j M X;have hg:∀k,(([]++news).toArray++Builtin.zeroCells z.cells (d-xs.length)).getD k undef=(news++(Builtin.zeroCells z.cells (d-xs.length)).toList).getD k undef:=by intro k;rw[A];simp[List.getD_eq_getElem?_getD]
   simp only[hg];simp only[List.length_append,List.length_replicate]at M;by_cases c2:i<xs.length
   ·have e1:=kc (n:=xs.length) c2 X;have T:=s2.rep i j (by omega) X;have V:=l (i*P.cellsOf e+j) (by rw[J];exact kc (by omega) X);rw[aO _ _ _ (by omega),aO _ _ _ (by omega)];exact⟨T,V⟩
   ·have e2:=Ab (sz:=P.cellsOf e) (j:=j) (show xs.length≤i by omega);have e4:xs.length*P.cellsOf e≤i*P.cellsOf e:=Nat.mul_le_mul_right _ (by omega);have e3:i*P.cellsOf e+j-news.length=(i-xs.length)*P.cellsOf e+j:=by rw[J,Nat.sub_mul];omega
    rw[aX _ _ _ (by omega),aX _ _ _ (by omega),e3];rw[qv Y (d-xs.length) (i-xs.length) j (by omega) X];have a1:(List.replicate (d-xs.length) (aw P e)).getD (i-xs.length) .any=aw P e:=by rw[List.getD_eq_getElem?_getD,List.getElem?_replicate,if_pos (by omega)];rfl
    rw[a1];exact z2 j X)
 refine Out.value o g1 (by simpa using g3) (.fT g2) (h _ _ (.inr ⟨G.top,d,List.replicate (d-xs.length) (aw P e),hi.fresh,rfl,rfl,O,by simp;omega⟩))
theorem il.MX {d:Nat}{t l:TypeId}{a b:Operand}{ty:TypeId}{pos:String}{J:Array Edge}{g:Option (Nat×Bool)}{K:Fr→AS→Prop}(hd:d<n) (e:TypeId) (xs:List AV) {nl:Bool}(he:ct P t=some e) (y:P.cellsOf e≠0)
 (q:(aw P e).laid=true) (o:(aw P e).cells.length=P.cellsOf e) (F:ev s a= .an e [] .full nl) (E:fR P e l (ev s b)=some xs) (u:∀x∈xs,x.cells.length=P.cellsOf e) (h0:0<xs.length)
 (i:xs.length*P.bytesOf e≤kH (P.bytesOf e)) (j:xs.length≤140737488355328)
 (h:∀D A,GV P e xs D σ A→K (s.put (some d) D) A):il P n ds Q ⟨some d,.call ⟨.builtin .append,#[a,b],#[t,l]⟩,ty,pos,J,g⟩ s σ K:=
 il.ni hd fun G act w v=>by
  show Out P G _ _ ((do let d ←resolve act.eval ⟨.builtin .append,#[a,b],#[t,l]⟩ ty;invoke d.target d.args:Sem Next).run P w);simp only[resolve,Sem.run_bind,Sem.run_pure,Result.andThen_ok,invoke];have I:(#[a,b]:Array Operand).map act.eval= #[act.eval a,act.eval b]:=by simp
  rw[I];exact CD (ty:=ty) v.inv he y q o (F ▸ v.ev a) (v.ev b) E u h0 i j h
theorem Hq {t m:Nat}{ps:List (Nat×AV)}{K:AV→AS→Prop}{p:Prop}(h:bH P σ t m ps K):bH P σ t m ps (fun v σ'=>(p→AS.le σ σ')∧K v σ'):=by
 unfold bH at h⊢;split at h
 ·exact⟨h.1,h.2.1,h.2.2.1,h.2.2.2.1,h.2.2.2.2.1,h.2.2.2.2.2.1,fun id d=>⟨fun _ =>AS.ah (AS.le_refl _) d,h.2.2.2.2.2.2 id d⟩⟩
 ·exact h.elim
theorem rz.ml {d t m:Nat}{ps:Array (Nat×Operand)}{ty:TypeId}{pos:String}{g:Array Edge}{K:Fr→AS→Prop}(hd:d<n)
 (h:bH P σ t m (ps.toList.map fun p=>(p.1,ev s p.2)) (fun v σ'=>K (s.put (some d) v) σ')):rz P n ⟨some d,.buildSlice t m ps,ty,pos,g,none⟩ s σ K Q:=by
 refine⟨hd,rfl,fun G ρ w l i=> ?_⟩;have e:(ps.toList.map fun p=>(p.1,ev s p.2))=ps.toList.map fun p=>(p.1,ev (Jr ⟨some d,.buildSlice t m ps,ty,pos,g,none⟩ s) p.2):=by refine List.map_congr_left fun p j=> ?_;rw[D7];simp[Op.operands];exact⟨p.1,by simpa using j⟩
 rw[e]at h;refine nP l i (Hq h)
theorem rz.Az {d:Nat}{t q:TypeId}{a b:Operand}{ty:TypeId}{pos:String}{M:Array Edge}{K:Fr→AS→Prop}(hd:d<n) (e:TypeId) (es xs:List AV) (S:AS) (he:ct P t=some e) (A:P.cellsOf e≠0)
 (v:(aw P e).laid=true) (u:(aw P e).cells.length=P.cellsOf e) (F:GV P e es (ev s a) S σ) (E:fR P e q (ev s b)=some xs) (y:∀x∈xs,x.cells.length=P.cellsOf e)
 (g:(es.length+xs.length)*P.bytesOf e≤kH (P.bytesOf e)) (i:es.length+xs.length≤140737488355328)
 (h:∀l j,GV P e (es++xs) l S j→K (s.put (some d) l) j):rz P n ⟨some d,.call ⟨.builtin .append,#[a,b],#[t,q]⟩,ty,pos,M,none⟩ s σ K Q:=by
 refine⟨hd,rfl,fun G ρ w I o=> ?_⟩;have ha:=o a;have D:=o b;rw[D7 _ _ _ (by simp[Op.operands,Call.operands])]at ha;rw[D7 _ _ _ (by simp[Op.operands,Call.operands])]at D;show Out P G _ _ ((do let d ←resolve ρ ⟨.builtin .append,#[a,b],#[t,q]⟩ ty;invoke d.target d.args:Sem Next).run P w);simp only[resolve,Sem.run_bind,Sem.run_pure,Result.andThen_ok,invoke];have L:(#[a,b]:Array Operand).map ρ= #[ρ a,ρ b]:=by simp
 rw[L];exact uV (ty:=ty) I he A v u ha F D E y g i fun l j J=>⟨fun o=>by simp[kJ]at o,h l j J⟩
end Go.AW
namespace Go.AW
open Go Go.RowKit
variable {P:Program} {n:Nat} {ds:List Deferred} {Q:AQ} {s:Fr} {σ:AS}
structure Su (p:Prop):Prop where
 out:p
def aH (P:Program) (L:List (Nat×b7)) (S:List Nat):Prop:=P.follows .mixedOrders=true
def Nw (id:Nat):List (Nat×b7)→Option b7
 |[]=>none
 |(k,t)::r=>if k=id then some t else Nw id r
theorem ae.J8 {L:List (Nat×b7)}{S:List Nat}(d:aH P L S) {id:Nat}{l:List Oper}{t:b7}(ht:Nw id L=some t) (j:S.contains id=false)
 (g:dE l.toArray false true (Array.replicate l.length false) t=true) (hd:decide (t.depth≤l.length)=true)
 (i:ak Q) (h:bB P n l.toArray false Q t s σ):ae P n ds (.region id l.toArray true) Q s σ:=ae.aR d t g hd i h
theorem ae.zK {L:List (Nat×b7)}{S:List Nat}(d:aH P L S) {id:Nat}{l:List Oper}(g:S.contains id=false) (h:kr P n l.toArray Q l s σ):ae P n ds (.region id l.toArray false) Q s σ:=ae.region h
theorem ag.UN {f:FuncId}{args:List AV}{σ d:AS}{v:AV}{K g:AV→AS→Prop}(h:aa P f args σ No (ao v d)) (i:g v d):ag P (.sc (.func (.func f) #[] #[])) args σ K g:=
 .of h (fun _ _ h=>h.elim) (fun r σ' h=>by obtain⟨rfl,rfl⟩:=h;exact i)
theorem ag.NU {f:FuncId}{args:List AV}{σ:AS}{d K g:AV→AS→Prop}(h:aa P f args σ No d) (i:∀r σ',d r σ'→g r σ'):ag P (.sc (.func (.func f) #[] #[])) args σ K g:= .of h (fun _ _ h=>h.elim) i
theorem j2 {g d:Prop}(h0:g) (h1:d):g∧d:=⟨h0,h1⟩
theorem j3 {h g d:Prop}(h0:h) (h1:g) (i:d):h∧g∧d:=⟨h0,h1,i⟩
theorem j4 {i h g d:Prop}(h0:i) (h1:h) (l:g) (j:d):i∧h∧g∧d:=⟨h0,h1,l,j⟩
theorem j5 {j i h g d:Prop}(h0:j) (h1:i) (q:h) (o:g) (l:d):j∧i∧h∧g∧d:=⟨h0,h1,q,o,l⟩
theorem j6 {l j i h g d:Prop}(h0:l) (h1:j) (v:i) (u:h) (q:g) (o:d):l∧j∧i∧h∧g∧d:=⟨h0,h1,v,u,q,o⟩
theorem j7 {o l j i h g d:Prop}(h0:o) (h1:l) (A:j) (y:i) (v:h) (u:g) (q:d):o∧l∧j∧i∧h∧g∧d:=⟨h0,h1,A,y,v,u,q⟩
theorem j8 {q o l j i h g d:Prop}(h0:q) (h1:o) (E:l) (D:j) (A:i) (y:h) (v:g) (u:d):q∧o∧l∧j∧i∧h∧g∧d:=⟨h0,h1,E,D,A,y,v,u⟩
theorem pk {C F G:Prop}(c:C) (f:F) (h:C→F→G:=by
 intro c f;first
  |exact c .. |(apply c<;>simp-implicitDefEqProofs [f];done)
  |exact c.1 .. |(apply c.1<;>simp-implicitDefEqProofs [f];done)
  |exact c.2 .. |(apply c.2<;>simp-implicitDefEqProofs [f];done)
  |exact c.2.1 .. |(apply c.2.1<;>simp-implicitDefEqProofs [f];done)
  |exact c.2.2 .. |(apply c.2.2<;>simp-implicitDefEqProofs [f];done)
  |exact c.2.2.1 .. |(apply c.2.2.1<;>simp-implicitDefEqProofs [f];done)
  |exact c.2.2.2 .. |(apply c.2.2.2<;>simp-implicitDefEqProofs [f];done)
  |exact c.2.2.2.1 .. |(apply c.2.2.2.1<;>simp-implicitDefEqProofs [f];done)
  |exact c.2.2.2.2 .. |(apply c.2.2.2.2<;>simp-implicitDefEqProofs [f];done)
  |exact c.2.2.2.2.1 .. |(apply c.2.2.2.2.1<;>simp-implicitDefEqProofs [f];done)
  |exact c.2.2.2.2.2 .. |(apply c.2.2.2.2.2<;>simp-implicitDefEqProofs [f];done)
  |exact c.2.2.2.2.2.1 .. |(apply c.2.2.2.2.2.1<;>simp-implicitDefEqProofs [f];done)
  |exact c.2.2.2.2.2.2 .. |(apply c.2.2.2.2.2.2<;>simp-implicitDefEqProofs [f];done)):G:=h c f
theorem gE {L:List (Nat×b7)}{F C G:Prop}(d:∀S,aH P L S) (f:F) (c:C) (S:List Nat:= []) (h:aH P L S→F→C→G:=by
 intro d f c;repeat (first
  |(with_reducible first|apply ae.seq|apply ae.block|refine And.intro (by first|omega|assumption|decide) ?_)
  |((first
     |(with_reducible apply ae.fork)
     |((with_reducible apply ae.zK d);rfl)
     |(with_reducible first|show aN _ _ _ |show aB _ _ _ _ _ _ _ _ _)
     |((with_reducible apply ae.J8 d);rfl;rfl;kernel_rfl;kernel_rfl;(repeat (with_reducible first|apply ak.then|apply ak.block|apply ak.body|apply ak.no)))
     |((with_reducible apply ag.id);first|refine ag.aC (pk c f) ?_ |refine ag.xY (pk c f) ?_ |refine ag.UN (pk c f) ?_ |refine ag.NU (pk c f) ?_)
     |((with_reducible apply aF.id);refine aF.aC (fun _ =>pk c f) ?_)
     );simp-implicitDefEqProofs [f])
  |((with_reducible first|apply ae.ret|apply ae.skip|apply ae.exit);try simp-implicitDefEqProofs [f]))
 all_goals fail):G:=h (d S) f c
theorem gO {L:List (Nat×b7)}{F C G R:Prop}(d:∀S,aH P L S) (f:F) (c:C) (k:R) (S:List Nat:= []) (h:aH P L S→F→C→Su R→G:=by
 intro d f c k;repeat (first
  |(with_reducible first|apply ae.seq|apply ae.block|refine And.intro (by first|omega|assumption|decide) ?_)
  |((first
     |(with_reducible apply ae.fork)
     |((with_reducible apply ae.zK d);rfl)
     |(with_reducible first|show aN _ _ _ |show aB _ _ _ _ _ _ _ _ _)
     |((with_reducible apply ae.J8 d);rfl;rfl;kernel_rfl;kernel_rfl;(repeat (with_reducible first|apply ak.then|apply ak.block|apply ak.body|apply ak.no)))
     |((with_reducible apply ag.id);first|refine ag.aC (pk c f) ?_ |refine ag.xY (pk c f) ?_ |refine ag.UN (pk c f) ?_ |refine ag.NU (pk c f) ?_)
     |((with_reducible apply aF.id);refine aF.aC (fun _ =>pk c f) ?_)
     );simp-implicitDefEqProofs [f])
  |((with_reducible first|apply ae.ret|apply ae.skip|apply ae.exit);try simp-implicitDefEqProofs [f]))
 exact k.out):G:=h (d S) f c ⟨k⟩
theorem xM {L:List (Nat×b7)}{S:List Nat}{W F C G R:Prop}(d:aH P L S) (w:W) (f:F) (c:C) (h:aH P L S→W→F→C→Su R→G:=by
 intro d w f c k;repeat (first
  |(with_reducible first|apply ae.seq|apply ae.block|refine And.intro (by first|omega|assumption|decide) ?_)
  |((first
     |(with_reducible apply ae.fork)
     |((with_reducible apply ae.zK d);rfl)
     |(with_reducible first|show aN _ _ _ |show aB _ _ _ _ _ _ _ _ _)
     |((with_reducible apply ae.J8 d);rfl;rfl;kernel_rfl;kernel_rfl;(repeat (with_reducible first|apply ak.then|apply ak.block|apply ak.body|apply ak.no)))
     |((with_reducible apply ag.id);first|refine ag.aC (pk c f) ?_ |refine ag.xY (pk c f) ?_ |refine ag.UN (pk c f) ?_ |refine ag.NU (pk c f) ?_)
     |((with_reducible apply aF.id);refine aF.aC (fun _ =>pk c f) ?_)
     );simp-implicitDefEqProofs [↓w,f])
  |((with_reducible first|apply ae.ret|apply ae.skip|apply ae.exit);try simp-implicitDefEqProofs [↓w,f]))
 all_goals exact k.out) (k:R):G:=h d w f c ⟨k⟩
theorem gF {F G:Prop}(f:F) (h:F→G:=by
 intro f
 (try dsimp only);(try simp only[List.cons_append,List.nil_append]);repeat (first|exact aS.nil|refine aS.cons (by first|(simp-implicitDefEqProofs [f];done)|exact Wk.of (by(try simp-implicitDefEqProofs [f])<;>rfl)) ?_)):G:=h f
theorem gT {G:Prop}(h:G:=by
 (try dsimp only);first|exact AS.le_refl _ |assumption|(repeat (first|exact AS.le_refl _ |assumption|refine aq (by simp[*]) ?_))):G:=h
theorem gL {F G:Prop}(f:F) (h:F→G:=by
 intro f;first
  |exact AS.le_refl _
  |((repeat (first|exact AS.le_refl _ |assumption|refine aq (by simp[*]) ?_));done)
  |(refine iR ?_;simp_all [mG];done)
  |(refine KX ?_;rw[Bool.eq_iff_iff];simp[*];omega)
  |(refine iR ?_;simp[*];omega)
  |(refine iR ?_;split<;>simp_all [mG];done)
  |(exfalso;omega)):G:=h f
theorem aA {α:Sort _}{a b:α}(h:¬a=b):¬b=a:=fun e=>h e.symm
theorem nq {σ τ:AS}{a b c d:Nat}{x y:Option bN}(A:σ c=x) (B:τ d=y) (h:σ c=x→τ d=y→ ¬a=b:=by intro zzA zzB;rintro rfl;rw[zzA]at zzB;cases zzB):¬a=b:=h A B
theorem gK {F G:Prop}(f:F) (j y:Nat) (k:¬j=y→G) (h:F→j=y→G:=by intro zzf zze;subst zze;intro zzh;simp[AS.set,zzf]at zzh⊢;(try first|exact zzh|(cases zzh;done))):G:=(Decidable.em (j=y)).elim (h f) k
theorem aa.ob {f:FuncId}{fn:Func}{c:Code}{args:List AV}{R d:AV→AS→Prop}(hf:P.funcs[f]? =some fn) (h:ae P fn.ntmps [] c (uU P fn.results.toList R d) (sA args) σ)
 (i:fn.body=some c:=by rfl) (g:(fn.name== "runtime.NumGoroutine")=false:=by rfl) (ha:Nat.ble args.length fn.ntmps=true:=by rfl):aa P f args σ R d:= .L0 hf i g (Nat.le_of_ble_eq_true ha) h
theorem I2 (S:AS) {i:Nat}(x:bN) (l:S i=none):∃B:AS,S.set i x=B∧B i=some x∧(∀j,j≠i→B j=S j)∧(∀g:AS,(∀j,j≠i→ ∀y,B j=some y→g j=some y)→AS.le S g):=by
 refine⟨_,rfl,by simp,fun j e=>by simp[AS.set,e],fun g h j x d=> ?_⟩;have e:j≠i:=by rintro rfl;rw[l]at d;cases d
 exact h j e x (by simp[AS.set,e,d])
theorem Fa (S:AS) {i k:Nat}(x z:bN) (q:S i=none) (o:S k=none) (n:¬i=k):∃B:AS,(S.set i x).set k z=B∧B i=some x∧B k=some z∧(∀j,j≠i→j≠k→B j=S j)∧(∀l:AS,(∀j,j≠i→j≠k→ ∀y,B j=some y→l j=some y)→AS.le S l):=by
 refine⟨_,rfl,by simp[n],by simp,fun j e g=>by simp[AS.set,e,g],fun l h j x d=> ?_⟩;have e:j≠i:=by rintro rfl;rw[q]at d;cases d
 have g:j≠k:=by rintro rfl;rw[o]at d;cases d
 exact h j e g x (by simp[AS.set,e,g,d])
theorem Nt (S:AS) {i k l:Nat}(x z w:bN) (v:S i=none) (u:S k=none) (hl:S l=none) (n:¬i=k) (n1:¬i=l) (n2:¬k=l):∃B:AS,((S.set i x).set k z).set l w=B∧B i=some x∧B k=some z∧B l=some w∧(∀j,j≠i→j≠k→j≠l→B j=S j)∧(∀q:AS,(∀j,j≠i→j≠k→j≠l→ ∀y,B j=some y→q j=some y)→AS.le S q):=by
 refine⟨_,rfl,by simp[n,n1],by simp[n2],by simp,fun j e o g=>by simp[AS.set,e,o,g],fun q h j x d=> ?_⟩;have e:j≠i:=by rintro rfl;rw[v]at d;cases d
 have o:j≠k:=by rintro rfl;rw[u]at d;cases d
 have g:j≠l:=by rintro rfl;rw[hl]at d;cases d
 exact h j e o g x (by simp[AS.set,e,o,g,d])
theorem tI:True:=trivial
theorem lR (σ:AS):AS.le σ σ:=AS.le_refl σ
theorem gj {α:Type} :(∀(a:α) (l m:List α),a::l++m=a::(l++m))∧ ∀l:List α,[]++l=l:=⟨fun _ _ _ =>rfl,fun _ =>rfl⟩
end Go.AW
namespace Go.AW
open Go Go.RowKit
variable {P:Program}
def kx (D:List Nat) (Q:AQ):Prop:= ∀d∈D,∀p s v σ,Q (.panic p) (s.put (some d) v) σ→Q (.panic p) s σ
theorem kx.then {D:List Nat}{K:Fr→AS→Prop}{Q:AQ}(h:kx D Q):kx D (dP K Q):=h
theorem kx.block {D:List Nat}{i:Nat}{Q:AQ}(h:kx D Q):kx D (kN i Q):=h
def yv:ResultVar→Nat
 |.tmp t=>t
 |.cell a _ =>a
theorem tz {d:Nat}{v:AV}{s:Fr}{σ:AS} :∀ {rs:List ResultVar}{K:List AV→Prop},(rs.all fun r=>yv r !=d)=true→(eA rs P (s.put (some d) v) σ K↔eA rs P s σ K)
 |[],K,_ =>Iff.rfl
 |.tmp t::r,K,h=>by
  obtain⟨h1,i⟩:t≠d∧(r.all fun r=>yv r !=d)=true:=by simpa[yv]using h
  simp only[eA];rw[tz i];simp[Fr.put,h1]
 |.cell a t::r,K,h=>by
  obtain⟨h1,i⟩:a≠d∧(r.all fun r=>yv r !=d)=true:=by simpa[yv]using h
  simp only[eA];have j:(s.put (some d) v) a=s a:=by simp[Fr.put,h1]
  rw[j];have:(fun g=>eA r P (s.put (some d) v) σ fun vs=>K (g::vs))=fun g=>eA r P s σ fun vs=>K (g::vs):=by funext g;exact propext (tz i)
  rw[this]
theorem kx.zc {D:List Nat}{rs:List ResultVar}{f:FuncId}{g:List AV}{R l:AV→AS→Prop}(h:(D.all fun d=>rs.all fun r=>yv r !=d)=true):kx D (xr P rs f g R l):=by
 intro d hd p s v σ i;have j:=List.all_eq_true.1 h d hd;have:(fun σ'=>eA rs P (s.put (some d) v) σ' fun vs=>Ends P R σ' (eS vs))=fun σ'=>eA rs P s σ' fun vs=>Ends P R σ' (eS vs):=by funext σ';exact propext (tz j)
 simp only[Kj]at i⊢;rwa [this]at i
def RR (l:List Oper):List Nat:=l.filterMap (·.dst)
theorem ae.uh {n:Nat}{ds:List Deferred}{id:Nat}{l:List Oper}{Q:AQ}{s:Fr}{σ:AS}(hm:P.follows .mixedOrders=true) (t:b7)
 (j:dE l.toArray false true (Array.replicate l.length false) t=true) (hd:decide (t.depth≤l.length)=true)
 (u:kx (RR l) Q) (h:bB P n l.toArray false Q t s σ):ae P n ds (.region id l.toArray true) Q s σ:=
 ae.NF hm false t (by simp) j hd (fun o q p s v σ i=>by
  cases g:o.dst with
  |none=>rw[g]at i;exact i
  |some d=>rw[g]at i;exact u d (List.mem_filterMap.2 ⟨o,q,g⟩) p s v σ i) h
end Go.AW
namespace Go.AW
open Go Go.RowKit
variable {P:Program} {n:Nat} {ds:List Deferred} {Q:AQ} {s:Fr} {σ:AS}
def iQ (d:List (Int×AV)):List (AV×AV):=d.map fun p=>(.sc (.int .i64 p.1),p.2)
def pw (k:Int):List (Int×AV)→Option AV
 |[]=>none
 |(k',v)::r=>if k=k' then some v else pw k r
def xQ (k:Int) (v:AV):List (Int×AV)→List (Int×AV)
 |[]=> [(k,v)]
 |(k',d)::r=>if k=k' then(k,v)::r else(k',d)::xQ k v r
theorem TC (k:Int):(k==k)=true:=by simp
theorem NK {a b:Int}(h:a≠b):(a==b)=false:=by simpa using h
theorem uQ (k:Int) (v:AV):∀(d:List (Int×AV)) (ms:List MapEntry) (i:Nat),ms.length=d.length→(∀(j:Nat) (m:MapEntry),ms[j]? =some m→ ∃p:Int×AV,d[j]? =some p∧m.key= .int .i64 p.1)→
 (pw k d=none∧Instr.findNow (.int .i64) (.int .i64 k) ms i=some none∧xQ k v d=d++ [(k,v)])∨
 (∃(j:Nat) (p:Int×AV) (m:MapEntry),d[j]? =some p∧ms[j]? =some m∧p.1=k∧pw k d=some p.2∧Instr.findNow (.int .i64) (.int .i64 k) ms i=some (some (i+j,m.val))∧xQ k v d=d.set j (k,v)):=by
 intro d;induction d with
 |nil=>intro ms i hl _;have:ms= []:=List.length_eq_zero_iff.1 (by simpa using hl);subst this;exact .inl ⟨rfl,rfl,rfl⟩
 |cons p r D=>
  intro ms i hl y;cases ms with
  |nil=>simp at hl
  |cons m ms=>
   obtain⟨A,l,g⟩:=y 0 m rfl;obtain rfl:p=A:=by simpa using l
   by_cases he:k=p.1
   ·right;refine⟨0,p,m,rfl,rfl,he.symm,by simp[pw,he],?_,by simp[xQ,he]⟩;simp[Instr.findNow,g,Instr.sameNow,he]
   ·rcases D ms (i+1) (by simpa using hl) (fun j h hm=>y (j+1) h (by simpa using hm))with⟨h1,u,o⟩|⟨j,q,h,h1,u,o,I,F,E⟩
    ·left;refine⟨by simp[pw,he,h1],?_,by simp[xQ,he,o]⟩;have:(k==p.1)=false:=NK he;simp[Instr.findNow,g,Instr.sameNow,this,u]
    ·right;refine⟨j+1,q,h,by simpa using h1,by simpa using u,o,by simp[pw,he,I],?_,by simp[xQ,he,E]⟩;have:(k==p.1)=false:=NK he;simp[Instr.findNow,g,Instr.sameNow,this,F];omega
theorem gB {t:TypeId}{w:World}{b:Bool}{k:Int}(ht:P.underlying t=some (.int .i64)):(Instr.checkKey b 10000 t (.int .i64 k)).run P w= .ok () w:=by
 have:∀m:Nat,(Instr.checkKey b (m+1) t (.int .i64 k)).run P w= .ok () w:=fun m=>by simp[Instr.checkKey,run_underlying ht,Sem.run_bind,Result.andThen]
 exact this 9999
theorem iI {t:TypeId}{w:World}{k:Int}{ms:List MapEntry}{r:Option (Nat×Value)}(ht:P.underlying t=some (.int .i64)) (h:Instr.findNow (.int .i64) (.int .i64 k) ms 0=some r):
 (Instr.findKey t (.int .i64 k) ms).run P w= .ok r w:=by
 simp[Instr.findKey,run_underlying ht,Sem.run_bind,Result.andThen,h]
theorem yL {G:Gh}{w:World}{id:Nat}{d:List (Int×AV)}(q:Inv P G σ w) (o:σ id=some (.map (iQ d))):
 ∃(b:Nat) (ms:Array MapEntry) (clock:Nat),G.inj id=some b∧w.heap[b]? =some (.map ms clock)∧(ms.size=d.length∧oV ms clock)∧(∀(j:Nat) (m:MapEntry),ms.toList[j]? =some m→ ∃p:Int×AV,d[j]? =some p∧m.key= .int .i64 p.1∧ba P G p.2 m.val):=by
 obtain⟨b,ms,clock,h1,v,⟨D,g⟩,u⟩:=q.maps id _ o;have hlen:(iQ d).length=d.length:=by simp[iQ]
 refine⟨b,ms,clock,h1,v,⟨by omega,g⟩,fun j m hm=> ?_⟩;have h:j<d.length:=by have:=(List.getElem?_eq_some_iff.1 hm).1;simp at this;omega
 obtain⟨l,A,i,y⟩:=u j (by omega);rw[Array.getElem?_toList,A]at hm;obtain rfl:=Option.some.inj hm;refine⟨d[j],List.getElem?_eq_getElem h,?_,?_⟩
 ·have e:((iQ d).getD j (.any,.any)).1= .sc (.int .i64 d[j].1):=by simp[iQ,h]
  rw[e]at i;generalize l.key=x at i;cases i;rfl
 ·have e:((iQ d).getD j (.any,.any)).2=d[j].2:=by simp[iQ,h]
  rwa [e]at y
theorem BU {G:Gh}{w:World}{K Pn:AV→AS→Prop}(q:Inv P G σ w) {t O J:TypeId}{x S:Value}{ok:Bool}{id:Nat}{k:Int}{l:List (Int×AV)}
 (hm:P.underlying t=some (.map O J)) (u:P.underlying O=some (.int .i64)) (Y:(aw P J).laid=true) (Z:ba P G (.mp id) x) (D:ba P G (.sc (.int .i64 k)) S) (X:σ id=some (.map (iQ l)))
 (h:K (pS P J (pw k l) ok) σ):Out P G K Pn (((do pure (Next.value (←Instr.lookup t x S ok))):Sem Next).run P w):=by
 obtain⟨b,ms,clock,h1,V,⟨h3,ab⟩,U⟩:=yL q X;cases D;cases Z with
 |mp T=>
  rw[h1]at T;obtain rfl:=Option.some.inj T;obtain⟨it,z,E,A,o⟩:=dD Y;have g:∀(a:AV) (v:Value) (y:Bool),ba P G a v→ba P G (.bQ [a,.sc (.bool y)]) (.tuple #[v,.bool y]):=by
   intro a v y ha;refine .bQ [v,.bool y] rfl fun i q=> ?_
   match i,q with
   |0,_ =>exact ha
   |1,_ =>exact .sc _
  rcases uQ k .any l ms.toList 0 (by simpa using h3) (fun j m hm=>let ⟨p,a,b,_⟩:=U j m hm;⟨p,a,b⟩)with⟨I,F,_⟩|⟨j,p,m,I,F,g3,g4,g5,_⟩
  ·have d:(Instr.lookup t (.map (some b)) (.int .i64 k) ok).run P w= .ok (if ok then .tuple #[z,.bool false]else z) w:=by simp only[Instr.lookup,Sem.run_bind,run_underlying hm,Result.andThen_ok,MapKept.run_getObj_map V,Sem.run_pure,gB u,iI u F,zeroValue,run_typeInfo w E,A]
   refine Out.value d (.refl G) q ?_ h;rw[I];unfold pS;cases ok
   ·rw[Option.getD_none,o];exact gD z
   ·exact g _ _ _ (by rw[Option.getD_none,o];exact gD z)
  ·have d:(Instr.lookup t (.map (some b)) (.int .i64 k) ok).run P w= .ok (if ok then .tuple #[m.val,.bool true]else m.val) w:=by simp only[Instr.lookup,Sem.run_bind,run_underlying hm,Result.andThen_ok,MapKept.run_getObj_map V,Sem.run_pure,gB u,iI u g5]
   refine Out.value d (.refl G) q ?_ h;obtain⟨p',M,_,L⟩:=U j m F;rw[I]at M;obtain rfl:=Option.some.inj M;rw[g4];unfold pS;cases ok
   ·exact L
   ·exact g _ _ _ L
theorem il.L9 {d t u q:Nat}{x j:Operand}{ok:Bool}{ty:TypeId}{pos:String}{F:Array Edge}{g:Option (Nat×Bool)}{K:Fr→AS→Prop}(hd:d<n) (id:Nat) (k:Int) (i:List (Int×AV))
 (hm:P.underlying t=some (.map u q)) (E:P.underlying u=some (.int .i64)) (A:(aw P q).laid=true) (D:ev s x= .mp id) (o:ev s j= .sc (.int .i64 k)) (y:σ id=some (.map (iQ i)))
 (h:K (s.put (some d) (pS P q (pw k i) ok)) σ):il P n ds Q ⟨some d,.lookup t x j ok,ty,pos,F,g⟩ s σ K:=
 il.ni hd fun G a w l=>BU (K:=fun v σ'=>K (s.put (some d) v) σ') l.inv hm E A (D ▸ l.ev x) (o ▸ l.ev j) y h
theorem wQ {G:Gh}{w:World}{K Pn:AV→AS→Prop}(X:Inv P G σ w) {t kt et:TypeId}{x ix A:Value}{v:AV}{id:Nat}{k:Int}{d:List (Int×AV)}
 (hm:P.underlying t=some (.map kt et)) (M:P.underlying kt=some (.int .i64)) (hx:ba P G (.mp id) x) (V:ba P G (.sc (.int .i64 k)) ix) (hv:ba P G v A) (hσ:σ id=some (.map (iQ d)))
 (h:K .any (σ.set id (.map (iQ (xQ k v d))))):Out P G K Pn (((do Instr.mapUpdate t x ix A;pure Next.skip):Sem Next).run P w):=by
 obtain⟨b,ms,clock,h1,E,⟨S,F⟩,O⟩:=yL X hσ;cases V;cases hx with
 |mp hb=>
  rw[h1]at hb;obtain rfl:=Option.some.inj hb;have jf:∀(l:List (Int×AV)) (j:Nat) (p:Int×AV),l[j]? =some p→(iQ l).getD j (.any,.any)=(.sc (.int .i64 p.1),p.2):=by intro l j p hp;simp[iQ,hp]
  have y:∀l,(iQ l).length=l.length:=by intro l;simp[iQ]
  rcases uQ k v d ms.toList 0 (by simpa using S) (fun j m hm=>let ⟨p,a,b,_⟩:=O j m hm;⟨p,a,b⟩)with⟨g1,J,Y⟩|⟨j,p,m,g1,J,g3,g4,g5,Y⟩
  ·have o:(Instr.mapUpdate t (.map (some b)) (.int .i64 k) A).run P w= .ok () { w with heap:=w.heap.setIfInBounds b (.map (ms.push { key:= .int .i64 k,val:=A,born:=clock }) (clock+1)) } :=by simp only[Instr.mapUpdate,Sem.run_bind,run_underlying hm,Result.andThen_ok,MapKept.run_getObj_map E,gB M,iI M J,MapKept.run_setObj_map _ E]
   rw[Y]at h;refine Out.unit o (.refl G) (X.zF h1 E _ _ (iQ (d++ [(k,v)])) (by simp[y,S]) (uC F) (yQ ms clock _ rfl) (fun i g=> ?_)) (.any _) h;rw[y]at g;simp at g;by_cases U:i<d.length
   ·have u:i<ms.size:=by omega
    obtain⟨p,L,T,Z⟩:=O i ms[i] (by simp[u]);refine⟨ms[i],by simp[Array.getElem?_push,u];omega,?_⟩;rw[jf _ i p (by rw[List.getElem?_append_left U];exact L),T];exact⟨.sc _,Z⟩
   ·have he:i=d.length:=by omega
    subst he;refine⟨{ key:= .int .i64 k,val:=A,born:=clock },by rw[←S];simp,?_⟩;rw[jf _ d.length (k,v) (by simp)];exact⟨.sc _,hv⟩
  ·have a4:j<ms.size:=by have:=(List.getElem?_eq_some_iff.1 J).1;simpa using this
   have hold:ms[j]? =some m:=by rw[←Array.getElem?_toList];exact J
   obtain⟨p',L,T,Z⟩:=O j m J;rw[g1]at L;obtain rfl:=Option.some.inj L;have I:(Instr.keyThatStays m.key (.int .i64 k)).run P w= .ok (.int .i64 k) w:=by
    have:∀q:Nat,Instr.sameBits q (.int .i64 k) (.int .i64 k)=true:=fun q=>by simp[Instr.sameBits]
    rw[T,g3];simp[Instr.keyThatStays,this]
   have o:(Instr.mapUpdate t (.map (some b)) (.int .i64 k) A).run P w= .ok () { w with heap:=w.heap.setIfInBounds b (.map (ms.modify j fun e=> { e with key:= .int .i64 k,val:=A }) clock) } :=by simp only[Instr.mapUpdate,Sem.run_bind,run_underlying hm,Result.andThen_ok,MapKept.run_getObj_map E,gB M,iI M g5,Nat.zero_add,hold,Option.map_some,Option.getD_some,I,MapKept.run_setObj_map _ E]
   rw[Y]at h;refine Out.unit o (.refl G) (X.zF h1 E _ _ (iQ (d.set j (k,v))) (by simp[y,S]) (rv F j _ (fun _ =>rfl)) (uM ms clock j _ (fun _ =>rfl)) (fun i g=> ?_)) (.any _) h;rw[y]at g;simp at g;have u:i<ms.size:=by omega
   by_cases D:i=j
   ·subst D;refine⟨{ m with key:= .int .i64 k,val:=A },by simp[Array.getElem?_modify,hold],?_⟩;rw[jf _ i (k,v) (by simp[g])];exact⟨.sc _,hv⟩
   ·obtain⟨p2,r1,r2,r3⟩:=O i ms[i] (by simp[u]);refine⟨ms[i],by rw[Array.getElem?_modify,if_neg (fun e=>D e.symm)];exact Array.getElem?_eq_getElem u,?_⟩;rw[jf _ i p2 (by rw[List.getElem?_set_ne (fun e=>D e.symm)];exact r1),r2];exact⟨.sc _,r3⟩
theorem il.DI {t o A:Nat}{m x j:Operand}{ty:TypeId}{pos:String}{D:Array Edge}{g:Option (Nat×Bool)}{K:Fr→AS→Prop}(id:Nat) (k:Int) (d:List (Int×AV))
 (hm:P.underlying t=some (.map o A)) (y:P.underlying o=some (.int .i64)) (u:ev s m= .mp id) (l:ev s j= .sc (.int .i64 k)) (q:σ id=some (.map (iQ d)))
 (h:K s (σ.set id (.map (iQ (xQ k (ev s x) d))))):il P n ds Q ⟨none,.mapUpdate t m j x,ty,pos,D,g⟩ s σ K:=
 il.ni trivial fun G a w i=>wQ (K:=fun v σ'=>K (s.put none v) σ') i.inv hm y (u ▸ i.ev m) (l ▸ i.ev j) (i.ev x) q h
end Go.AW
