/- A layer of abstract values over the model's machine: own work for this claim, part AwSimp. -/
import Derived.Test.YtknalmoackcpbaaGreatAwCode
set_option linter.all false
namespace Go.AW
open Go Go.RowKit
@[simp] theorem mJ (s:Fr) (d i:Nat) (v:AV):(s.put (some d) v) i=if i=d then v else s i:=rfl
@[simp] theorem Q6 (s:Fr) (v:AV):s.put none v=s:=rfl
@[simp] theorem US (s:Fr) (t:Nat):ev s (.tmp t)=s t:=rfl
@[simp] theorem RP (s:Fr) (v:Value):ev s (.const v)=Fj v:=rfl
@[simp] theorem Tk (s:Fr) (f:Nat):ev s (.func f)= .sc (.func (.func f) #[] #[]):=rfl
@[simp] theorem SY:Fj (.slice none 0 0)= .ai:=rfl
@[simp] theorem S1 (k:IntKind) (n:Int):Fj (.int k n)= .sc (.int k n):=rfl
@[simp] theorem Re (b:Bool):Fj (.bool b)= .sc (.bool b):=rfl
@[simp] theorem SW (b:ByteArray):Fj (.string b)= .sc (.string b):=rfl
@[simp] theorem SX:Fj (.pointer none)= .sc (.pointer none):=rfl
@[simp] theorem SZ:Fj (.map none)= .sc (.map none):=rfl
@[simp] theorem T9:Fj .nilFunc= .sc .nilFunc:=rfl
@[simp] theorem T8:Fj .nilIface= .sc .nilIface:=rfl
@[simp] theorem RO (l:List AV) (i:Nat):sA l i=l.getD i .any:=rfl
@[simp] theorem K8 (K:Fr→AS→Prop) (Q:AQ) (s:Fr) (σ:AS):dP K Q .normal s σ=K s σ:=rfl
@[simp] theorem K9 (K:Fr→AS→Prop) (Q:AQ) (i:Nat) (s:Fr) (σ:AS):dP K Q (.exit i) s σ=Q (.exit i) s σ:=rfl
@[simp] theorem K6 (K:Fr→AS→Prop) (Q:AQ) (s:Fr) (σ:AS):dP K Q .ret s σ=Q .ret s σ:=rfl
@[simp] theorem K7 (K:Fr→AS→Prop) (Q:AQ) (v:AV) (s:Fr) (σ:AS):dP K Q (.panic v) s σ=Q (.panic v) s σ:=rfl
@[simp] theorem DW (i:Nat) (Q:AQ) (s:Fr) (σ:AS):kN i Q .normal s σ=Q .normal s σ:=rfl
@[simp] theorem DX (i j:Nat) (Q:AQ) (s:Fr) (σ:AS):kN i Q (.exit j) s σ=if j=i then Q .normal s σ else Q (.exit j) s σ:=rfl
@[simp] theorem DU (i:Nat) (Q:AQ) (s:Fr) (σ:AS):kN i Q .ret s σ=Q .ret s σ:=rfl
@[simp] theorem DV (i:Nat) (Q:AQ) (v:AV) (s:Fr) (σ:AS):kN i Q (.panic v) s σ=Q (.panic v) s σ:=rfl
def Ends (P:Program) (R:AV→AS→Prop) (σ:AS) (x:AV):Prop:= ∃h σ',AV.Wk P x h∧AS.le σ' σ∧R h σ'
@[simp] theorem To (P:Program) (rs:List ResultVar) (R h:AV→AS→Prop) (s:Fr) (σ:AS):uU P rs R h .ret s σ=eA rs P s σ fun vs=>Ends P R σ (eS vs):=rfl
@[simp] theorem Tq (P:Program) (rs:List ResultVar) (R h:AV→AS→Prop) (s:Fr) (σ:AS):uU P rs R h .normal s σ=eA rs P s σ fun vs=>Ends P R σ (eS vs):=rfl
@[simp] theorem Tp (P:Program) (rs:List ResultVar) (R h:AV→AS→Prop) (v:AV) (s:Fr) (σ:AS):uU P rs R h (.panic v) s σ= ∃σ',AS.le σ' σ∧h v σ':=rfl
def jJ:List (Nat×AV)→Fr
 |[],_ => .any
 |(j,v)::r,i=>if i=j then v else jJ r i
@[simp] theorem S5 (i:Nat):jJ [] i= .any:=rfl
@[simp] theorem BO (j:Nat) (v:AV) (r:List (Nat×AV)) (i:Nat):jJ ((j,v)::r) i=if i=j then v else jJ r i:=rfl
theorem aS.mk {P:Program}{s:Fr}{l:List (Nat×AV)}(h:∀p∈l,AV.Wk P (s p.1) p.2):aS P s (jJ l):=by
 intro i;induction l with
 |nil=>exact fun _ _ _ => .any _
 |cons p r w=>
  obtain⟨j,v⟩:=p;simp only[BO];split
  ·rename_i u;subst u;exact h (i,v) (by simp)
  ·exact w fun q A=>h q (by simp[A])
theorem Wk.refl {P:Program}(v:AV):AV.Wk P v v:=fun _ _ h=>h
@[simp] theorem TG {P:Program}(v:AV):AV.Wk P v v↔True:=⟨fun _ =>trivial,fun _ =>Wk.refl v⟩
@[simp] theorem qm {P:Program}(e:TypeId) (es:List AV) (o:cL) (nil:Bool):AV.Wk P (.an e es o nil) (.an e es .aE nil)↔True:=⟨fun _ =>trivial,fun _ G x h=>by
 cases h with
 |jd j=>exact .jd trivial
 |pR=>exact .pR
 |an vs hl hm i l j=>exact .an vs hl hm i l trivial⟩
@[simp] theorem mW {P:Program}(e:TypeId):AV.Wk P .ai (.an e [] .aE true)↔True:=⟨fun _ =>trivial,fun _ G x h=>by cases h;exact .jd trivial⟩
@[simp] theorem cq {P:Program}{a b u q:AV}(h1:AV.Wk P a u) (v:AV.Wk P b q):AV.Wk P (.bQ [a,b]) (.bQ [u,q]):=by
 intro G x h;cases h with
 |bQ vs l h=>
  refine .bQ vs l fun i j=> ?_;have:=h i j
  match i,j with
  |0,_ =>exact h1 _ _ this
  |1,_ =>exact v _ _ this
@[simp] theorem jB {P:Program}{a b c v u q:AV}(h1:AV.Wk P a v) (A:AV.Wk P b u) (w:AV.Wk P c q):AV.Wk P (.bQ [a,b,c]) (.bQ [v,u,q]):=by
 intro G x h;cases h with
 |bQ vs l h=>
  refine .bQ vs l fun i j=> ?_;have:=h i j
  match i,j with
  |0,_ =>exact h1 _ _ this
  |1,_ =>exact A _ _ this
  |2,_ =>exact w _ _ this
def ao (v:AV) (σ:AS) (r:AV) (σ':AS):Prop:=r=v∧σ=σ'
def No (_ :AV) (_ :AS):Prop:=False
def la (f:Nat→AV) (n:Nat) (σ:AS) (r:AV) (σ':AS):Prop:= ∃h,σ h=none∧r=f h∧σ'=σ.set h (.tok n)
@[simp] theorem P5 {P:Program}{x v:AV}{σ h:AS} :Ends P (ao v h) σ x↔AV.Wk P x v∧AS.le h σ:=
 ⟨fun⟨q,σ',h1,i,l,j⟩=>by subst l;subst j;exact⟨h1,i⟩,fun⟨h1,i⟩=>⟨v,h,h1,i,rfl,rfl⟩⟩
theorem bJ {P:Program}{x:AV}{f:Nat→AV}{n:Nat}{σ i:AS}(h:Nat) (h0:i h=none) (h1:AV.Wk P x (f h)) (j:AS.le (i.set h (.tok n)) σ):Ends P (la f n i) σ x:=
 ⟨f h,_,h1,j,h,h0,rfl,rfl⟩
@[simp] theorem Rm (σ:AS):AS.le σ σ↔True:=⟨fun _ =>trivial,fun _ =>AS.le_refl σ⟩
@[simp] theorem kC {j σ:AS}{i:Nat}{b:bN}(l:j i=none) (h:AS.le j σ):AS.le j (σ.set i b):=AS.ah h l
theorem zX {l σ:AS}{i:Nat}{b:bN}(h:AS.le l σ):AS.le (l.set i b) (σ.set i b):=by
 intro j x e;by_cases q:j=i
 ·subst q;simp[AS.set]at e⊢;exact e
 ·simp[AS.set,q]at e⊢;exact h j x e
@[simp] theorem AS.SE (σ:AS) (i j:Nat) (b:bN):(σ.set i b) j=if j=i then some b else σ j:=rfl
@[simp] theorem Mj {α:Type}{c:Prop}[Decidable c] {a:α}{x:Option α} :((if c then some a else x)=none)↔(¬c∧x=none):=by by_cases h:c<;>simp[h]
theorem AS.set_comm {τ:AS}{i j:Nat}{a b:bN}(h:j≠i):(τ.set j b).set i a=(τ.set i a).set j b:=by funext k;by_cases h1:k=i<;>by_cases l:k=j<;>simp[AS.set,h1,l]<;>omega
@[simp] theorem AS.s2 {τ:AS}{i j:Nat}{a b c:bN}(h:j≠i):((τ.set i a).set j b).set i c=(τ.set i c).set j b:=by rw[AS.set_comm h,AS.set_set]
@[simp] theorem AS.s3 {τ:AS}{i j k:Nat}{a b c d:bN}(h:j≠i) (l:k≠i):(((τ.set i a).set j b).set k d).set i c=((τ.set i c).set j b).set k d:=by rw[AS.set_comm l,AS.s2 h]
@[simp] theorem AS.s4 {τ:AS}{i j k l:Nat}{a b c d e:bN}(h:j≠i) (u:k≠i) (q:l≠i):((((τ.set i a).set j b).set k d).set l e).set i c=(((τ.set i c).set j b).set k d).set l e:=by rw[AS.set_comm q,AS.s3 h u]
@[simp] theorem AS.s5 {τ:AS}{i j k l m:Nat}{a b c d e f:bN}(h:j≠i) (v:k≠i) (u:l≠i) (q:m≠i):
 (((((τ.set i a).set j b).set k d).set l e).set m f).set i c=((((τ.set i c).set j b).set k d).set l e).set m f:=by
 rw[AS.set_comm q,AS.s4 h v u]
theorem aq {q σ:AS}{i:Nat}{b:bN}(u:σ i=none) (h:AS.le q σ):AS.le q (σ.set i b):=by
 intro j x e;have:=h j x e;have l:j≠i:=by intro v;subst v;rw[u]at this;cases this
 simpa[AS.set,l]using this
@[simp] theorem SU (v:AV):eS [v]=v:=rfl
@[simp] theorem SS (a b:AV):eS [a,b]= .bQ [a,b]:=rfl
@[simp] theorem SQ (a b c:AV):eS [a,b,c]= .bQ [a,b,c]:=rfl
@[simp] theorem SV:eS []= .bQ []:=rfl
@[simp] theorem PU {P:Program}{s:Fr}{σ:AS}{K:List AV→Prop} :eA [] P s σ K=K []:=rfl
@[simp] theorem PT {P:Program}{s:Fr}{σ:AS}{K:List AV→Prop}{t:Nat}{r:List ResultVar} :eA (.tmp t::r) P s σ K=eA r P s σ fun vs=>K (s t::vs):=rfl
@[simp] theorem Oi {P:Program}{s:Fr}{σ:AS}{K:List AV→Prop}{a t:Nat}{r:List ResultVar} :eA (.cell a t::r) P s σ K=fx P σ t (s a) fun v=>eA r P s σ fun vs=>K (v::vs):=rfl
theorem ae.fM {P:Program}{n:Nat}{ds:List Deferred}{c:Code}{Q:AQ}{s:Fr}{σ:AS}(i:Nat) (e:TypeId) (es:List AV) (nil:Bool) (J:i<n) (u:s i= .an e es .full nil∨(s i= .ai∧es= []∧nil=true))
 (h:∀A,σ A=none→ae P n ds c Q (s.put (some i) (.an e es (.tok A) nil)) (σ.set A (.tok es.length))):ae P n ds c Q s σ:=by
 intro G0 G a w h1 l;have I:ba P G (.an e es .full nil) (a.tmps.getD i undef):=by
  have:=l.rep i;rcases u with u|⟨u,rfl,rfl⟩
  ·rw[u]at this;exact this
  ·rw[u]at this;generalize a.tmps.getD i undef=v at this⊢;cases this;exact .jd ⟨none,rfl⟩
 obtain⟨r,D,H,F⟩:=I.fM l.inv;have q:oW P (G.fM r) n ds (s.put (some i) (.an e es (.tok G.top) nil)) (σ.set G.top (.tok es.length)) a w:=by
  refine⟨H,l.size,l.ds,fun j=> ?_⟩;by_cases E:j=i
  ·subst E;simpa[mJ]using F
  ·simp only[mJ,E,if_false];exact(l.rep j).mono D
 exact h G.top l.inv.fresh G0 _ a w (h1.trans D) q
variable {P:Program} {n:Nat} {ds:List Deferred} {g:Option (Nat×Bool)}
@[congr] theorem Qh {c:Code}{Q:AQ}{s h:Fr}{σ σ':AS}(h1:s=h) (i:σ=σ'):ae P n ds c Q s σ=ae P n ds c Q h σ':=by subst h1 i;rfl
@[congr] theorem MS {ops:Array Oper}{Q:AQ}{l:List Oper}{s h:Fr}{σ σ':AS}(h1:s=h) (i:σ=σ'):kr P n ops Q l s σ=kr P n ops Q l h σ':=by subst h1 i;rfl
@[congr] theorem Lu {ops:Array Oper}{ro:Bool}{Q:AQ}{t:b7}{s h:Fr}{σ σ':AS}(h1:s=h) (i:σ=σ'):bB P n ops ro Q t s σ=bB P n ops ro Q t h σ':=by subst h1 i;rfl
@[congr] theorem M6 {t:TypeId}{ps h:List (Nat×AV)}{K:AV→Prop}(h1:ps=h):rV P t ps K=rV P t h K:=by subst h1;rfl
@[congr] theorem M5 {σ σ':AS}{t:TypeId}{x h:AV}{K:AV→AS→Prop}(h1:x=h) (i:σ=σ'):nE P σ t x K=nE P σ' t h K:=by subst h1 i;rfl
@[congr] theorem PD {op:BinOp}{t:TypeId}{x i y h:AV}{K:AV→Prop}(h1:x=i) (j:y=h):ij P op t x y K=ij P op t i h K:=by subst h1 j;rfl
@[congr] theorem M4 {t:TypeId}{x l:AV}{lo i q j mx h:Option AV}{K:AV→Prop}(h1:x=l) (w:lo=i) (v:q=j) (u:mx=h):gx P t x lo q mx K=gx P t l i j h K:=by subst h1 w v u;rfl
@[congr] theorem KH {σ σ':AS}{b:Builtin}{ts h:List TypeId}{as i:List AV}{K:AV→AS→Prop}(h1:as=i) (l:σ=σ') (j:ts=h):bG P σ b ts as K=bG P σ' b h i K:=by subst h1 l j;rfl
@[congr] theorem IS {f i:AV}{as h:List AV}{K:AV→Prop}(h1:as=h) (j:f=i):aF P f as K=aF P i h K:=by subst h1 j;rfl
@[congr] theorem NQ {σ σ':AS}{f i:AV}{as h:List AV}{K j:AV→AS→Prop}(h1:as=h) (q:σ=σ') (l:f=i):ag P f as σ K j=ag P i h σ' K j:=by subst h1 q l;rfl
def LJ (K:Fr→AS→Prop) (s:Fr) (d:Option Nat) (v:AV) (σ:AS):Prop:=K (s.put d v) σ
def LV (Q:AQ) (s:Fr) (v:AV) (σ:AS):Prop:=Q (.panic v) s σ
def Eg (K:AV→AS→Prop) (σ:AS) (v:AV):Prop:=K v σ
def Sm (K:AV→AS→Prop) (σ:AS):Prop:=K .any σ
def So (K:AV→Prop) (cs:List AV):Prop:=K (.agg cs)
def SG (K:AV→Prop) (v:Value):Prop:=K (.sc v)
@[simp ↓] theorem T3 (K:Fr→AS→Prop) (s:Fr) (d:Option Nat) (v:AV) (σ:AS):LJ K s d v σ=K (s.put d v) σ:=rfl
@[simp ↓] theorem T7 (Q:AQ) (s:Fr) (v:AV) (σ:AS):LV Q s v σ=Q (.panic v) s σ:=rfl
@[simp ↓] theorem V0 (K:AV→AS→Prop) (σ:AS) (v:AV):Eg K σ v=K v σ:=rfl
@[simp ↓] theorem Vd (K:AV→AS→Prop) (σ:AS):Sm K σ=K .any σ:=rfl
@[simp ↓] theorem Vg (K:AV→Prop) (cs:List AV):So K cs=K (.agg cs):=rfl
@[simp ↓] theorem VD (K:AV→Prop) (v:Value):SG K v=K (.sc v):=rfl
section steps
variable {ops:Array Oper} {Q:AQ} {s:Fr} {σ:AS} {K:Fr→AS→Prop} {Kv Pn:AV→AS→Prop} {KA:AV→Prop} {rest:List Oper} {o:Oper}
 {d:Option Nat} {op:Op} {ty:TypeId} {pos:String} {af:Array Edge}
def aB (P:Program) (n:Nat) (o:Oper) (s:Fr) (σ:AS) (K:Fr→AS→Prop) (Q:AQ) (g:AV) (want:Bool):Prop:=
 iJ g want (lS P n o s σ K Q) ((match o.dst with|none=>True|some d=>d<n)∧K (s.put o.dst mG) σ)
def si (x:Option Oper) (A:Oper→Prop):Prop:=match x with|some o=>A o|none=>False
@[congr] theorem OH {x i:Option Oper}{A:Oper→Prop}(h:x=i):si x A=si i A:=by rw[h]
@[simp ↓] theorem PW {A:Oper→Prop} :si (some o) A=A o:=rfl
@[simp] theorem OG {A:Oper→Prop} :si (some o) A=A o:=rfl
@[simp ↓] theorem QO {ro:Bool} :bB P n ops ro Q .done s σ=Q .normal s σ:=rfl
@[simp ↓] theorem QN {ro:Bool} :bB P n ops ro Q .none s σ=True:=rfl
@[simp ↓] theorem QJ {ro:Bool}{i:Nat}{t:b7} :bB P n ops ro Q (.step i t) s σ=si ops[i]? (fun o=>(ro=true∨oD s o.op=true)∧eZ P n ops o s σ (bB P n ops ro Q t) Q):=by cases h:ops[i]? <;>simp only[bB,si,h]
@[simp ↓] theorem QL {ro:Bool}{i:Nat}{t:b7} :bB P n ops ro Q (.read i t) s σ=si ops[i]? (fun o=>eZ P n ops o s σ (bB P n ops ro Q t) Q):=by cases h:ops[i]? <;>simp only[bB,si,h]
@[simp ↓] theorem SF {ro:Bool}{i:Nat}{t r:b7} :bB P n ops ro Q (.alt i t r) s σ=(si ops[i]? (fun o=>eZ P n ops o s σ (bB P n ops ro Q t) Q)∧bB P n ops ro Q r s σ):=by cases h:ops[i]? <;>simp only[bB,si,h]
def rz (P:Program) (n:Nat) (o:Oper) (s:Fr) (σ:AS) (K:Fr→AS→Prop) (Q:AQ):Prop:=zj P n o s σ (fun v σ'=>K (s.put o.dst v) σ') (fun p σ'=>Q (.panic p) s σ')
@[congr] theorem Nk {K:Fr→AS→Prop}{o:Oper}{s h:Fr}{σ σ':AS}(h1:s=h) (i:σ=σ'):rz P n o s σ K Q=rz P n o h σ' K Q:=by subst h1 i;rfl
@[simp ↓] theorem QK {ro:Bool}{i:Nat}{t r:b7} :bB P n ops ro Q (.spec i t r) s σ=(si ops[i]? (fun o=>rz P n o s σ (bB P n ops ro Q t) Q)∧bB P n ops ro Q r s σ):=by cases h:ops[i]? <;>simp only[bB,si,h]<;>rfl
@[simp ↓] theorem QM {ro:Bool}{i:Nat}{t:b7} :bB P n ops ro Q (.pure i t) s σ=si ops[i]? (fun o=>tD P n ops o s (Jc (bB P n ops ro Q t) s o.dst σ)):=by cases h:ops[i]? <;>simp only[bB,si,h]
@[simp ↓] theorem Px:kr P n ops Q [] s σ=Q .normal s σ:=rfl
@[simp ↓] theorem NL:kr P n ops Q (o::rest) s σ=eZ P n ops o s σ (kr P n ops Q rest) Q:=rfl
@[simp ↓] theorem Mn:eZ P n ops ⟨d,op,ty,pos,af,none⟩ s σ K Q=lS P n ⟨d,op,ty,pos,af,none⟩ s σ K Q:=rfl
@[simp ↓] theorem Mm {j:Nat}{want:Bool} :eZ P n ops ⟨d,op,ty,pos,af,some (j,want)⟩ s σ K Q=aB P n ⟨d,op,ty,pos,af,some (j,want)⟩ s σ K Q (ju ops s j) want:=rfl
@[simp] theorem P0:aB P n o s σ K Q (.sc (.bool true)) true=lS P n o s σ K Q:=by simp[aB,iJ,ye,O1]
@[simp] theorem P4:aB P n o s σ K Q (.sc (.bool false)) false=lS P n o s σ K Q:=by simp[aB,iJ,ye,O1]
@[simp] theorem P1:aB P n ⟨d,op,ty,pos,af,g⟩ s σ K Q (.sc (.bool true)) false=((match d with|none=>True|some d=>d<n)∧K (s.put d mG) σ):=propext ⟨fun h=>by rcases h with⟨h,_⟩|⟨_,h⟩;(· simp[ye]at h);exact h,fun h=> .inr ⟨rfl,h⟩⟩
@[simp] theorem P3:aB P n ⟨d,op,ty,pos,af,g⟩ s σ K Q (.sc (.bool false)) true=((match d with|none=>True|some d=>d<n)∧K (s.put d mG) σ):=propext ⟨fun h=>by rcases h with⟨h,_⟩|⟨_,h⟩;(· simp[ye]at h);exact h,fun h=> .inr ⟨rfl,h⟩⟩
@[simp] theorem P2 {want:Bool} :aB P n ⟨d,op,ty,pos,af,g⟩ s σ K Q (.sc undef) want=((match d with|none=>True|some d=>d<n)∧K (s.put d mG) σ):=propext ⟨fun h=>by rcases h with⟨h,_⟩|⟨_,h⟩;(· simp[ye,undef]at h);exact h,fun h=> .inr ⟨rfl,h⟩⟩
@[simp ↓] theorem Nj {f:Operand}{args:Array Operand}{h:Array TypeId}{g:Option (Nat×Bool)} :lS P n ⟨d,.call ⟨.value f,args,h⟩,ty,pos,af,g⟩ s σ K Q=
 ((match d with|none=>True|some d=>d<n)∧ag P (ev s f) (args.toList.map (ev s)) σ (LJ K s d) (LV Q s)):=rfl
@[simp ↓] theorem Nh {t:Nat}{g:Option (Nat×Bool)} :lS P n ⟨some t,op,ty,pos,af,g⟩ s σ K Q=(t<n∧bY P op s σ (LJ K s (some t)) (LV Q s)):=rfl
@[simp ↓] theorem Ni {g:Option (Nat×Bool)} :lS P n ⟨none,op,ty,pos,af,g⟩ s σ K Q=(True∧bY P op s σ (LJ K s none) (LV Q s)):=rfl
@[simp ↓] theorem S4 (K:Fr→AS→Prop) (s:Fr) (d:Option Nat) (σ:AS) (v:AV):Jc K s d σ v=K (s.put d v) σ:=rfl
def kK (P:Program) (h:AV) (args:List AV) (K:AV→Prop) (g:AV) (want:Bool):Prop:=iJ g want (aF P h args K) (K mG)
@[simp ↓] theorem Nr {f:Operand}{args:Array Operand}{h:Array TypeId}{K:AV→Prop} :tD P n ops ⟨d,.call ⟨.value f,args,h⟩,ty,pos,af,none⟩ s K=
 ((match d with|none=>True|some d=>d<n)∧aF P (ev s f) (args.toList.map (ev s)) K):=rfl
@[simp ↓] theorem Nq {f:Operand}{args:Array Operand}{h:Array TypeId}{K:AV→Prop}{j:Nat}{want:Bool} :tD P n ops ⟨d,.call ⟨.value f,args,h⟩,ty,pos,af,some (j,want)⟩ s K=
 ((match d with|none=>True|some d=>d<n)∧kK P (ev s f) (args.toList.map (ev s)) K (ju ops s j) want):=rfl
@[simp] theorem Q7 {f:AV}{as:List AV}{K:AV→Prop} :kK P f as K (.sc (.bool true)) true=aF P f as K:=by simp[kK,iJ,ye,O1]
variable {x y c a b f:Operand}
@[simp ↓] theorem SM:bY P (.move x) s σ Kv Pn=Kv (ev s x) σ:=rfl
@[simp ↓] theorem PR:bY P (.assign x) s σ Kv Pn=Kv (ev s x) σ:=rfl
def Ns (c a b:AV) (K:AV→AS→Prop) (σ:AS):Prop:=match c with|.sc (.bool t)=>K (if t then a else b) σ| _ =>False
@[simp ↓] theorem SH:bY P (.pick c a b) s σ Kv Pn=Ns (ev s c) (ev s a) (ev s b) Kv σ:=rfl
@[simp] theorem SP {t:Bool}{a b:AV} :Ns (.sc (.bool t)) a b Kv σ=Kv (if t then a else b) σ:=rfl
@[simp ↓] theorem Q4 {e:TypeId} :bY P (.alloc e) s σ Kv Pn=AJ P σ e Kv:=rfl
@[simp ↓] theorem TZ {e:TypeId} :bY P (.box e x) s σ Kv Pn=M7 P σ e (ev s x) Kv:=rfl
@[simp ↓] theorem Q0 {t:TypeId}{ps:Array (Nat×Operand)} :bY P (.build t ps) s σ Kv Pn=rV P t (ps.toList.map fun p=>(p.1,ev s p.2)) (Eg Kv σ):=rfl
@[simp ↓] theorem KS {t m:Nat}{ps:Array (Nat×Operand)} :bY P (.buildSlice t m ps) s σ Kv Pn=eK P σ t m (ps.toList.map fun p=>(p.1,ev s p.2)) Kv:=rfl
@[simp ↓] theorem SN {t:TypeId} :bY P (.load t a) s σ Kv Pn=fx P σ t (ev s a) (Eg Kv σ):=rfl
@[simp ↓] theorem QV {t:TypeId} :bY P (.store t a x) s σ Kv Pn=ux P σ t (ev s a) (ev s x) (Sm Kv):=rfl
@[simp ↓] theorem Nn:bY P (.nilCheck x) s σ Kv Pn=iX (ev s x) (Eg Kv σ):=rfl
@[simp ↓] theorem T0 {op:BinOp}{t u:TypeId} :bY P (.binOp op t x y u) s σ Kv Pn=ij P op t (ev s x) (ev s y) (Eg Kv σ):=rfl
@[simp ↓] theorem VE {op:UnOp}{t:TypeId} :bY P (.unOp op t x) s σ Kv Pn=PC op (ev s x) (Eg Kv σ):=rfl
@[simp ↓] theorem SO {t u:TypeId} :bY P (.convert t u x) s σ Kv Pn=fX P t u (ev s x) (Eg Kv σ):=rfl
@[simp ↓] theorem VG {t:TypeId} :bY P (.makeInterface t x) s σ Kv Pn=(P.concrete t=true∧Kv (.rX t (ev s x)) σ):=rfl
@[simp ↓] theorem VH {f:Fn}{h i:Array Operand} :bY P (.makeFunc f h i) s σ Kv Pn=Kv (.fn f (h.toList.map (ev s)) (i.toList.map (ev s))) σ:=rfl
def Rj (K:AV→AS→Prop) (σ:AS):Prop:= ∀id,σ id=none→K (.mp id) (σ.set id (.map []))
@[simp ↓] theorem VF {t:TypeId}{r:Option Operand} :bY P (.makeMap t r) s σ Kv Pn=(r.isNone=true∧Rj Kv σ):=rfl
@[simp ↓] theorem QX {t:TypeId} :bY P (.range t x) s σ Kv Pn=nE P σ t (ev s x) Kv:=rfl
@[simp ↓] theorem SL {b:Bool} :bY P (.next x b) s σ Kv Pn=zf σ (ev s x) b Kv:=rfl
@[simp ↓] theorem QZ:bY P (.entry x) s σ Kv Pn=uy σ (ev s x) (Eg Kv σ):=rfl
@[simp ↓] theorem Lw {t:TypeId} :bY P (.makeSlice t x y) s σ Kv Pn=ku P σ t (ev s x) (ev s y) Kv:=rfl
@[simp ↓] theorem QW {t:TypeId}{lo h mx:Option Operand} :bY P (.slice t x lo h mx) s σ Kv Pn=gx P t (ev s x) (lo.map (ev s)) (h.map (ev s)) (mx.map (ev s)) (Eg Kv σ):=rfl
@[simp ↓] theorem VJ {t i:Nat} :bY P (.fieldAddr t x i) s σ Kv Pn=fP P t (ev s x) i (Eg Kv σ):=rfl
@[simp ↓] theorem Wq {t i:Nat} :bY P (.field t x i) s σ Kv Pn=oT P t (ev s x) i (Eg Kv σ):=rfl
@[simp ↓] theorem VI {t:TypeId} :bY P (.indexAddr t x y) s σ Kv Pn=eV P t (ev s x) (ev s y) (Eg Kv σ):=rfl
@[simp ↓] theorem Wp {t:TypeId} :bY P (.index t x y) s σ Kv Pn=oS P t (ev s x) (ev s y) (Eg Kv σ):=rfl
@[simp ↓] theorem VK {i:Nat} :bY P (.extract x i) s σ Kv Pn=mr (ev s x) i (Eg Kv σ):=rfl
def I0 (x:AV) (Pn:AV→AS→Prop) (σ:AS):Prop:=match x with|.rX t v=>Pn (.rX t v) σ| _ =>False
@[simp ↓] theorem QY:bY P (.panic x) s σ Kv Pn=I0 (ev s x) Pn σ:=rfl
@[simp] theorem Rc {t:TypeId}{v:AV} :I0 (.rX t v) Pn σ=Pn (.rX t v) σ:=rfl
@[simp ↓] theorem VL {b:Builtin}{args:Array Operand}{h:Array TypeId} :bY P (.call ⟨.builtin b,args,h⟩) s σ Kv Pn=bG P σ b h.toList (args.toList.map (ev s)) Kv:=rfl
@[simp] theorem Vc {t:TypeId}{x:AV} :bG P σ .len [t] [x] Kv=jL P σ t x (Eg Kv σ):=rfl
@[simp] theorem Qf {t u:TypeId}{x y:AV} :bG P σ .append [t,u] [x,y] Kv=mU P σ t u x y Kv:=rfl
@[simp] theorem TE {t u:TypeId}{x y:AV} :bG P σ .copy [t,u] [x,y] Kv=gZ P σ t x y Kv:=rfl
@[simp] theorem Va {ts:List TypeId}{k k':IntKind}{a b:Int} :bG P σ .min ts [.sc (.int k a),.sc (.int k' b)] Kv=Kv (.sc (.int k (if b<a then b else a))) σ:=rfl
@[simp] theorem Vb {ts:List TypeId}{k k':IntKind}{a b:Int} :bG P σ .max ts [.sc (.int k a),.sc (.int k' b)] Kv=Kv (.sc (.int k (if a<b then b else a))) σ:=rfl
end steps
section values
variable {K:AV→Prop} {op:BinOp} {t:TypeId} {σ:AS}
@[simp] theorem Tx {k k':IntKind}{a b:Int} :ij P op t (.sc (.int k a)) (.sc (.int k' b)) K=if sr op then xS op k a b (SG K)else k=k'∧fF op k a b (SG K):=rfl
@[simp] theorem Tt {a b:ByteArray} :ij P op t (.sc (.string a)) (.sc (.string b)) K=uB op a b (SG K):=rfl
@[simp] theorem Tz {xs h:List AV} :ij P op t (.agg xs) (.agg h) K=(match kg P 8 t (.agg xs) (.agg h),op with
 |some r,.eql=>P.eqGuardType P.depth t=false∧K (.sc (.bool r))
 |some r,.neq=>P.eqGuardType P.depth t=false∧K (.sc (.bool (!r)))
 | _,_ =>False):=rfl
@[simp] theorem Sk {a b:Bool} :ij P op t (.sc (.bool a)) (.sc (.bool b)) K=(match P.underlying t,op with
 |some .bool,.eql=>K (.sc (.bool (a==b)))
 |some .bool,.neq=>K (.sc (.bool (!(a==b))))
 | _,_ =>False):=rfl
@[simp] theorem U9 {e:TypeId}{es:List AV}{o:cL}{nl:Bool} :ij P op t (.an e es o nl) .ai K=dO P op t (.an e es o nl) .ai K:=rfl
@[simp] theorem U8:ij P op t .ai .ai K=dO P op t .ai .ai K:=rfl
@[simp] theorem U7 {i a b c:Nat} :ij P op t (.fT i a b c) .ai K=dO P op t (.fT i a b c) .ai K:=rfl
@[simp] theorem U6 {i a:Nat} :ij P op t (.ptr i a) (.sc (.pointer none)) K=dO P op t (.ptr i a) (.sc (.pointer none)) K:=rfl
@[simp] theorem U5 {cs:List AV} :ij P op t (.iC cs) (.sc (.pointer none)) K=dO P op t (.iC cs) (.sc (.pointer none)) K:=rfl
@[simp] theorem U4:ij P op t (.sc (.pointer none)) (.sc (.pointer none)) K=dO P op t (.sc (.pointer none)) (.sc (.pointer none)) K:=rfl
@[simp] theorem U3 {u:TypeId}{v:AV} :ij P op t (.rX u v) (.sc .nilIface) K=dO P op t (.rX u v) (.sc .nilIface) K:=rfl
@[simp] theorem U2 {f:Fn}{a b:List AV} :ij P op t (.fn f a b) (.sc .nilFunc) K=dO P op t (.fn f a b) (.sc .nilFunc) K:=rfl
@[simp] theorem U1 {f:Fn}{a b:Array Value} :ij P op t (.sc (.func f a b)) (.sc .nilFunc) K=dO P op t (.sc (.func f a b)) (.sc .nilFunc) K:=rfl
@[simp] theorem Tw:ij P op t (.sc .nilFunc) (.sc .nilFunc) K=dO P op t (.sc .nilFunc) (.sc .nilFunc) K:=rfl
@[simp] theorem Tv {i:Nat} :ij P op t (.mp i) (.sc (.map none)) K=dO P op t (.mp i) (.sc (.map none)) K:=rfl
@[simp] theorem Tu:ij P op t (.sc (.map none)) (.sc (.map none)) K=dO P op t (.sc (.map none)) (.sc (.map none)) K:=rfl
@[simp] theorem PV {b:ByteArray}{K:AV→AS→Prop} :nE P σ t (.sc (.string b)) K=(P.underlying t=some .string∧ ∀id,σ id=none→K (.ptr id 0) (σ.set id (.lT b 0))):=rfl
@[simp] theorem Tn {ps:List (Nat×AV)} :rV P t ps K=(bM P t=true∧(aw P t).laid=true∧nF P t (aw P t).cells ps (So K)):=rfl
def MR:Option AV→Prop
 |none=>True
 |some (.sc (.int _ n))=>0≤n
 | _ =>False
def nB:Option AV→Nat→Nat
 |some (.sc (.int _ n)),_ =>n.toNat
 | _,d=>d
theorem uz {x:Option AV}{d:Nat}{K:Nat→Prop} :kv x d K=(MR x∧K (nB x d)):=by unfold kv MR nB;split<;>simp_all
@[simp] theorem PQ {e:TypeId}{es:List AV}{o:cL}{nl:Bool}{lo h:Option AV} :gx P t (.an e es o nl) lo h none K=
 (ct P t=some e∧P.cellsOf e≠0∧MR h∧nB h es.length≤es.length∧MR lo∧nB lo 0≤nB h es.length∧K (.an e ((es.take (nB h es.length)).drop (nB lo 0)) .aE nl)):=by
 simp only[gx,uz]
@[simp] theorem PN {s:ByteArray}{lo h:Option AV} :gx P t (.sc (.string s)) lo h none K=
 (P.underlying t=some .string∧MR h∧nB h s.size≤s.size∧MR lo∧nB lo 0≤nB h s.size∧K (.sc (.string (s.extract (nB lo 0) (nB h s.size))))):=by
 simp only[gx,uz]
@[simp] theorem PO {id off len cap:Nat}{lo h:Option AV} :gx P t (.fT id off len cap) lo h none K=
 (match ct P t with
  |some e=>P.cellsOf e≠0∧MR h∧nB h len≤cap∧MR lo∧nB lo 0≤nB h len∧nB lo 0<cap∧K (.fT id (off+nB lo 0*P.cellsOf e) (nB h len-nB lo 0) (cap-nB lo 0))
  |none=>False):=by
 simp only[gx,uz];cases ct P t<;>rfl
end values
def Jo (P:Program) (I:Nat→Fr→AS→Prop) (k:Nat) (i:Fr) (σ':AS):Prop:= ∃k' s1 h,k'<k∧aS P i s1∧AS.le h σ'∧I k' s1 h
theorem ae.dx {c:Code}{Q:AQ}{s:Fr}{σ:AS}(I:Nat→Fr→AS→Prop) {k0:Nat}{i:Fr}{h:AS}(h0:I k0 i h) (l:aS P s i) (j:AS.le h σ)
 (q:∀k s σ,I k s σ→ae P n ds c (dP (Jo P I k) Q) s σ):ae P n ds (.loop c) Q s σ:=ae.loop I h0 l j q
@[simp] theorem aQ {cs:List AV} :(AV.agg cs).cells=cs:=rfl
@[simp] theorem RX {v:Value} :(AV.sc v).cells= [.sc v]:=rfl
@[simp] theorem Qb {i o:Nat} :(AV.ptr i o).cells= [.ptr i o]:=rfl
@[simp] theorem Pr {cs:List AV} :(AV.iC cs).cells= [.iC cs]:=rfl
@[simp] theorem Pp:AV.ai.cells= [.ai]:=rfl
@[simp] theorem Qd {e:TypeId}{es:List AV}{o:cL}{nl:Bool} :(AV.an e es o nl).cells= [.an e es o nl]:=rfl
@[simp] theorem Qc {a b c d:Nat} :(AV.fT a b c d).cells= [.fT a b c d]:=rfl
@[simp] theorem RY {i:Nat} :(AV.mp i).cells= [.mp i]:=rfl
@[simp] theorem RZ {f:Fn}{a b:List AV} :(AV.fn f a b).cells= [.fn f a b]:=rfl
@[simp] theorem Qe {t:TypeId}{v:AV} :(AV.rX t v).cells= [.rX t v]:=rfl
@[simp] theorem H0 (b:UInt8):u8 b= .sc (.int .u8 b.toNat):=rfl
@[simp] theorem cast_eq (a b:Nat):((a:Int)=(b:Int))=(a=b):=by simp only[eq_iff_iff];omega
attribute [simp] uy zf Fl ku oD sm ju uB sr PC mr iX fX fP oT eV oS MR nB fx ux AJ M7 nF eK ig jL mU kH fR dO isNil ss AV.laid AV.HN AV.one og K8 K9 K6 K7 DW DX DU DV
@[simp] theorem Vv {k:IntKind}{a b:Int}{K:Value→Prop} :xS .shr k a b K=(0≤b∧K (.int k (a/2^(min b.toNat k.bits)))):=by simp[xS,Int.fdiv_eq_ediv_of_nonneg _ (Int.le_of_lt (Int.pow_pos (show(0:Int)<2 by decide)))]
@[simp] theorem Vw {k:IntKind}{a b:Int}{K:Value→Prop} :xS .shl k a b K=(0≤b∧K (.int k (k.wrap (a*2^(min b.toNat k.bits))))):=rfl
theorem ae.KY {c:Code}{Q:AQ}{s:Fr}{σ:AS}(id:Nat) {ty:TypeId}{cs:List AV}(cs':List AV) (hl:cs.length=cs'.length) (H:∀k,k<cs'.length→AV.Wk P (cs.getD k .any) (cs'.getD k .any))
 (h:ae P n ds c Q s (σ.set id (.cells ty cs'))):ae P n ds c Q s (σ.set id (.cells ty cs)):=by
 intro G0 G a w h1 A;refine h G0 G a w h1 ⟨?_,A.size,A.ds,A.rep⟩;have q:=A.inv;have other:∀j,j≠id→(σ.set id (.cells ty cs')) j=(σ.set id (.cells ty cs)) j:=fun j l=>by simp[AS.set,l]
 refine { below:=q.below,base:=q.base,mem:=q.mem,top:=q.top,dA:=fun i b e=>⟨(q.dA i b e).1,(q.dA i b e).2.1,fun u v F=>by
  by_cases l:i=id
  ·subst l;exact(q.dA i b e).2.2 ty cs (by simp[AS.set])
  ·exact(q.dA i b e).2.2 u v (by rw[←other i l];exact F)⟩,fN:=q.fN,own:=q.own,cells:= ?_,maps:= ?_,dY:= ?_,tok:= ?_ }
 ·intro j u v e;by_cases l:j=id
  ·subst l;simp only[AS.set,if_true]at e;cases e;obtain⟨b,vs,J,I,L,E⟩:=q.cells j ty cs (by simp[AS.set]);exact⟨b,vs,J,I,by omega,fun k D=>⟨H k D _ _ (E k (by omega)).1,(E k (by omega)).2⟩⟩
  ·exact q.cells j u v (by rw[←other j l];exact e)
 ·intro j es e;by_cases l:j=id
  ·subst l;simp[AS.set]at e
  ·exact q.maps j es (by rw[←other j l];exact e)
 ·intro j es p e;by_cases l:j=id
  ·subst l;simp[AS.set]at e;subst e;cases p
  ·exact q.dY j es p (by rw[←other j l];exact e)
 ·intro j m e;by_cases l:j=id
  ·subst l;simp[AS.set]at e
  ·exact q.tok j m (by rw[←other j l];exact e)
def lF (w:Nat) (a b:Int):Int:=((BitVec.ofInt w a&&& BitVec.ofInt w b).toNat:Int)
def C4 (w:Nat) (a b:Int):Int:=((BitVec.ofInt w a|||BitVec.ofInt w b).toNat:Int)
section
variable {k:IntKind} {a b:Int} {K:Value→Prop}
@[simp] theorem UL:fF .add k a b K=K (.int k (k.wrap (a+b))):=rfl
@[simp] theorem UA:fF .sub k a b K=K (.int k (k.wrap (a-b))):=rfl
@[simp] theorem UE:fF .mul k a b K=K (.int k (k.wrap (a*b))):=rfl
@[simp] theorem UK:fF .and k a b K=K (.int k (k.wrap (lF k.bits a b))):=rfl
@[simp] theorem VN:fF .or k a b K=K (.int k (k.wrap (C4 k.bits a b))):=rfl
@[simp] theorem UC:fF .quo k a b K=(b≠0∧K (.int k (k.wrap (a.tdiv b)))):=rfl
@[simp] theorem UB:fF .rem k a b K=(b≠0∧K (.int k (a.tmod b))):=rfl
@[simp] theorem UJ:fF .eql k a b K=K (.bool (decide (a=b))):=by simp[fF]
@[simp] theorem UD:fF .neq k a b K=K (.bool (!decide (a=b))):=by simp[fF]
@[simp] theorem UF:fF .lss k a b K=K (.bool (decide (a<b))):=by simp[fF]
@[simp] theorem UG:fF .leq k a b K=K (.bool (decide (a≤b))):=by simp[fF]
@[simp] theorem UH:fF .gtr k a b K=K (.bool (decide (b<a))):=by simp[fF]
@[simp] theorem UI:fF .geq k a b K=K (.bool (decide (b≤a))):=by simp[fF]
end
theorem ag.of {f:FuncId}{args:List AV}{σ:AS}{R i K j:AV→AS→Prop}(h:aa P f args σ R i) (q:∀r σ',R r σ'→K r σ') (l:∀r σ',i r σ'→j r σ'):ag P (.sc (.func (.func f) #[] #[])) args σ K j:=⟨rfl,rfl,R,i,h,q,l⟩
theorem ag.aC {f:FuncId}{args:List AV}{σ i:AS}{v:AV}{K q:AV→AS→Prop}(h:aa P f args σ (ao v i) No) (j:K v i):ag P (.sc (.func (.func f) #[] #[])) args σ K q:=
 .of h (fun r σ' ⟨h1,l⟩=>by subst h1;subst l;exact j) (fun _ _ h=>h.elim)
theorem ag.xY {f:FuncId}{args:List AV}{σ:AS}{v:Nat→AV}{m:Nat}{K u:AV→AS→Prop}(h:aa P f args σ (la v m σ) No) (j:∀i,σ i=none→K (v i) (σ.set i (.tok m))):ag P (.sc (.func (.func f) #[] #[])) args σ K u:=
 .of h (fun r σ' ⟨i,h1,q,l⟩=>by subst q;subst l;exact j i h1) (fun _ _ h=>h.elim)
theorem aF.aC {f:FuncId}{args:List AV}{v:AV}{K:AV→Prop}(h:∀σ',aa P f args σ' (ao v σ') No) (j:K v):aF P (.sc (.func (.func f) #[] #[])) args K:=
 ⟨v,fun σ' _ _ i=> .aC (h σ') i,j⟩
theorem aa.wk {f:FuncId}{as:List AV}(j:List AV) {σ:AS}{R u:AV→AS→Prop}(h:aa P f j σ R u) (hl:as.length=j.length) (hw:∀i,i<j.length→AV.Wk P (as.getD i .any) (j.getD i .any)):aa P f as σ R u:=
 ⟨h.body,fun G w vals v q=>h.run G w vals v ⟨q.1.trans hl,fun i l=>hw i l _ _ (q.2 i (by omega))⟩⟩
def ak (Q:AQ):Prop:= ∀p s h σ,Q (.panic p) s σ→Q (.panic p) h σ
theorem ak.then {K:Fr→AS→Prop}{Q:AQ}(h:ak Q):ak (dP K Q):=h
theorem ak.block {i:Nat}{Q:AQ}(h:ak Q):ak (kN i Q):=h
theorem ak.body {P:Program}{rs:List ResultVar}{R i:AV→AS→Prop} :ak (uU P rs R i):=fun _ _ _ _ h=>h
theorem ae.aR {id:Nat}{l:List Oper}{Q:AQ}{s:Fr}{σ:AS}(hm:P.follows .mixedOrders=true) (t:b7)
 (i:dE l.toArray false true (Array.replicate l.length false) t=true) (hd:decide (t.depth≤l.length)=true)
 (j:ak Q) (h:bB P n l.toArray false Q t s σ):ae P n ds (.region id l.toArray true) Q s σ:=
 ae.draw hm false t (by simp) i hd j h
end Go.AW
namespace Go.AW
open Go
@[simp] theorem Sf:IntKind.i64.bits=64:=rfl
@[simp] theorem Sc:IntKind.u64.bits=64:=rfl
@[simp] theorem Si:IntKind.i32.bits=32:=rfl
@[simp] theorem Sd:IntKind.u32.bits=32:=rfl
@[simp] theorem Sj:IntKind.i16.bits=16:=rfl
@[simp] theorem Se:IntKind.u16.bits=16:=rfl
@[simp] theorem Ts:IntKind.i8.bits=8:=rfl
@[simp] theorem Tr:IntKind.u8.bits=8:=rfl
theorem HX (n:Int):IntKind.u64.wrap n=n%18446744073709551616:=by simp[IntKind.wrap,IntKind.bits,IntKind.signed]
theorem Nd (n:Int):IntKind.u32.wrap n=n%4294967296:=by simp[IntKind.wrap,IntKind.bits,IntKind.signed]
theorem A6 (n:Int):IntKind.u8.wrap n=n%256:=by simp[IntKind.wrap,IntKind.bits,IntKind.signed]
theorem HZ (n:Int):IntKind.i64.wrap n=(n+9223372036854775808)%18446744073709551616-9223372036854775808:=by simp[IntKind.wrap,IntKind.bits,IntKind.signed];split<;>omega
@[simp] theorem Qt:IntKind.i64.wrap 0=0:=by decide
@[simp] theorem Qs:IntKind.i64.wrap 1=1:=by decide
@[simp] theorem Qr:IntKind.i64.wrap 2=2:=by decide
@[simp] theorem Qq:IntKind.i64.wrap 3=3:=by decide
@[simp] theorem Qp:IntKind.i64.wrap 4=4:=by decide
@[simp] theorem Qo:IntKind.i64.wrap 5=5:=by decide
@[simp] theorem Qn:IntKind.i64.wrap 6=6:=by decide
@[simp] theorem Qm:IntKind.i64.wrap 8=8:=by decide
@[simp] theorem PK:IntKind.i64.wrap 12=12:=by decide
@[simp] theorem PJ:IntKind.i64.wrap 16=16:=by decide
@[simp] theorem PI:IntKind.i64.wrap 32=32:=by decide
@[simp] theorem PH:IntKind.i64.wrap 64=64:=by decide
@[simp] theorem Ql:IntKind.u64.wrap 0=0:=by decide
@[simp] theorem Qk:IntKind.u64.wrap 2=2:=by decide
@[simp] theorem Qj:IntKind.u64.wrap 3=3:=by decide
theorem ay {n:Int}(h1: -9223372036854775808≤n) (h:n<9223372036854775808):IntKind.i64.wrap n=n:=by rw[HZ];omega
theorem nw {n:Int}(h1:0≤n) (h:n<18446744073709551616):IntKind.u64.wrap n=n:=by rw[HX];omega
theorem Nz {l:List UInt8}{i:Nat}(h:i<l.length):(l.map u8).getD i .any= .sc (.int .u8 (l.getD i 0).toNat):=by simp[List.getD_eq_getElem?_getD,h]
theorem oG {w:Nat}{a b:Int}(i:Nat) (h:0≤b) (D:b<2^i) {c:Int}(A:0≤c) (ha:a=2^i*c) (hw:a+b<2^w):C4 w a b=a+b:=by
 unfold C4;obtain⟨u,rfl⟩:=Int.eq_ofNat_of_zero_le h;obtain⟨q,rfl⟩:=Int.eq_ofNat_of_zero_le A;have l:a=((2^i*q:Nat):Int):=by rw[ha];push_cast;rfl
 have j:u<2^i:=by exact_mod_cast D
 have v:2^i*q+u<2^w:=by rw[l]at hw;exact_mod_cast hw
 rw[l,BitVec.ofInt_natCast,BitVec.ofInt_natCast,BitVec.toNat_or,BitVec.toNat_ofNat,BitVec.toNat_ofNat,Nat.mod_eq_of_lt (by omega),Nat.mod_eq_of_lt (by omega),←Nat.two_pow_add_eq_or_of_lt j]
 push_cast
 rfl
theorem jA {w:Nat}{a:Int}(i:Nat) (ha:0≤a) (hw:a<2^w) (l:i≤w):lF w a (2^i-1)=a%2^i:=by
 unfold lF;obtain⟨u,rfl⟩:=Int.eq_ofNat_of_zero_le ha;have j:0<2^i:=Nat.two_pow_pos i;have hle:2^i≤2^w:=Nat.pow_le_pow_right (by omega) l;have q:(2:Int)^i-1=((2^i-1:Nat):Int):=by rw[Int.natCast_sub j];push_cast;rfl
 have h:u<2^w:=by exact_mod_cast hw
 rw[q,BitVec.ofInt_natCast,BitVec.ofInt_natCast,BitVec.toNat_and,BitVec.toNat_ofNat,BitVec.toNat_ofNat,Nat.mod_eq_of_lt h,Nat.mod_eq_of_lt (by omega),Nat.and_two_pow_sub_one_eq_mod]
 push_cast
 rfl
theorem qj (w:Nat) (a b:Int):C4 w a b=C4 w b a:=by simp[C4,BitVec.or_comm]
end Go.AW
namespace Go.AW
open Go Go.RowKit
variable {P:Program} {n:Nat} {ds:List Deferred} {Q:AQ} {s:Fr} {σ:AS}
theorem ag.id {i:AV}{args:List AV}{K j:AV→AS→Prop}(h:ag P i args σ K j):ag P i args σ K j:=h
theorem aF.id {i:AV}{args:List AV}{K:AV→Prop}(h:aF P i args K):aF P i args K:=h
def aN (v:AV) (A B:Prop):Prop:=match v with|.sc (.bool true)=>A|.sc (.bool false)=>B| _ =>False
@[simp ↓] theorem Tl {A B:Prop} :aN (.sc (.bool true)) A B=A:=rfl
@[simp ↓] theorem Tm {A B:Prop} :aN (.sc (.bool false)) A B=B:=rfl
@[congr] theorem NH {v i:AV}{A B:Prop}(h:v=i):aN v A B=aN i A B:=by rw[h]
theorem ae.fork {c:Operand}{x y:Code}(h:aN (ev s c) (ae P n ds x Q s σ) (ae P n ds y Q s σ)):ae P n ds (.cond c x y) Q s σ:=by
 unfold aN at h;split at h
 ·rename_i i;exact ae.cond i (fun _ =>h) (fun e=>by cases e)
 ·rename_i i;exact ae.cond i (fun e=>by cases e) (fun _ =>h)
 ·exact h.elim
theorem aN.split {b:Bool}{A B:Prop}(h1:b=true→A) (h:b=false→B):aN (.sc (.bool b)) A B:=by
 cases b
 ·exact h rfl
 ·exact h1 rfl
theorem aB.split {o:Oper}{K:Fr→AS→Prop}{b want:Bool}(h1:b=want→lS P n o s σ K Q) (i:b= !want→(match o.dst with|none=>True|some d=>d<n)∧K (s.put o.dst mG) σ):
 aB P n o s σ K Q (.sc (.bool b)) want:=by
 unfold aB iJ ye O1;by_cases h:b=want
 ·exact .inl ⟨by simp[h],h1 h⟩
 ·exact .inr ⟨by simp[h],i (by cases b<;>cases want<;>simp_all)⟩
theorem kK.split {f:AV}{as:List AV}{K:AV→Prop}{b want:Bool}(h1:b=want→aF P f as K) (i:b= !want→K mG):
 kK P f as K (.sc (.bool b)) want:=by
 unfold kK iJ ye O1;by_cases h:b=want
 ·exact .inl ⟨by simp[h],h1 h⟩
 ·exact .inr ⟨by simp[h],i (by cases b<;>cases want<;>simp_all)⟩
theorem KX {a b:Bool}(h:a=b):AV.Wk P (.sc (.bool a)) (.sc (.bool b)):=h ▸ Wk.refl _
theorem Qu {k:IntKind}{a b:Int}(h:a=b):AV.Wk P (.sc (.int k a)) (.sc (.int k b)):=h ▸ Wk.refl _
theorem iR {a b:AV}(h:a=b):AV.Wk P a b:=h ▸ Wk.refl _
theorem jn {i σ:AS}{j n m:Nat}(h:AS.le i σ) (e:n=m):AS.le (i.set j (.tok n)) (σ.set j (.tok m)):=by subst e;exact zX h
theorem lH {a b u q:AV}(h1:AV.Wk P a u) (v:AV.Wk P b q):AV.Wk P (.agg [a,b]) (.agg [u,q]):=by
 intro G x h;cases h with
 |agg vs l h=>
  refine .agg vs l fun i j=> ?_;have:=h i j
  match i,j with
  |0,_ =>exact h1 _ _ this
  |1,_ =>exact v _ _ this
theorem aa.told {f:FuncId}{as:List AV}{σ j:AS}{v i:AV}(h:aa P f as σ (ao v j) No) (hw:AV.Wk P v i):aa P f as σ (ao i j) No:=
 ⟨h.body,fun G w vals q l=>(h.run G w vals q l).mono fun e w' he=>by
  unfold kS at he⊢;split at he
  ·obtain⟨G',σ',r,D,A,u,rfl,rfl⟩:=he;exact⟨G',_,i,D,A,hw _ _ u,rfl,rfl⟩
  ·exact he
  ·exact he⟩
@[simp] theorem UZ (l:List UInt8):(⟨l.toArray⟩:ByteArray).size=l.length:=by simp[ByteArray.size]
theorem iF {α:Type}(l:List α) {i:Nat}(h:i<l.length):∃r,l[i]? =some r∧l.drop i=r::l.drop (i+1)∧r∈l∧l.take (i+1)=l.take i++ [r]:=
 ⟨l[i],List.getElem?_eq_getElem h,List.drop_eq_getElem_cons h,List.getElem_mem h,List.take_succ_eq_append_getElem h⟩
def aV (n:Int):AV:= .sc (.int .i64 n)
theorem aG (n:Int):aV n= .sc (.int .i64 n):=rfl
theorem g8 {i:Nat}(h:i<4000000000000000000):IntKind.i64.wrap ((i:Int)+1)=((i+1:Nat):Int):=by rw[ay (by omega) (by omega)];simp
end Go.AW
namespace Go.AW
open Go Go.RowKit
variable {P:Program} {n:Nat} {ds:List Deferred} {Q:AQ} {s:Fr} {σ:AS}
def il (P:Program) (n:Nat) (ds:List Deferred) (Q:AQ) (o:Oper) (s:Fr) (σ:AS) (K:Fr→AS→Prop):Prop:=
 ∀(G0 G:Gh) (a:Act) (w:World),G0.Le G→oW P G n ds s σ a w→ ∀next:Act→World→Prop,
  (∀G' h σ' i w',G0.Le G'→oW P G' n ds h σ' i w'→K h σ'→next i w')→o.wp P a w next (LQ P n ds Q G0)
theorem il.ni {o:Oper}{K:Fr→AS→Prop}(hd:match o.dst with|none=>True|some d=>d<n)
 (h:∀(G:Gh) (a:Act) (w:World),oW P G n ds s σ a w→Out P G (fun v σ'=>K (s.put o.dst v) σ') (fun v σ'=>Q (.panic v) s σ') ((execOp a.eval o).run P w)):il P n ds Q o s σ K:=by
 intro G0 G a w hle l next F
 have q:∀t,o.dst=some t→t<n:=by intro t ht;rw[ht]at hd;exact hd
 have:=h G a w l;unfold Oper.wp;generalize (execOp a.eval o).run P w=r at this⊢;cases r with
 |ok H w'=>
  cases H<;>simp only[Out]at this<;>first|exact this.elim|skip
  ·obtain⟨G',σ',E,j,D,A,u⟩:=this;exact F G' _ _ _ _ (hle.trans j) (l.put j D o.dst q A) u
  ·obtain⟨G',σ',E,j,D,A,u⟩:=this;exact F G' _ _ _ _ (hle.trans j) (l.put j D o.dst q A) u
 |halt x w'=>
  cases x<;>simp only[Out]at this<;>first|exact this.elim|skip
  obtain⟨G',σ',E,j,D,A,u⟩:=this;exact⟨rfl,rfl,G',s,σ',E,hle.trans j,⟨D,l.size,l.ds,fun i=>(l.rep i).mono j⟩,A,u⟩
def br (P:Program) (n:Nat) (ds:List Deferred) (ops:Array Oper) (Q:AQ):List Oper→Fr→AS→Prop
 |[],s,σ=>Q .normal s σ
 |o::r,s,σ=>(o.guard=none∧il P n ds Q o s σ (br P n ds ops Q r))∨eZ P n ops o s σ (br P n ds ops Q r) Q
theorem br.sp {ops:Array Oper}{o:Oper}{r:List Oper}(i:o.guard=none) (h:il P n ds Q o s σ (br P n ds ops Q r)):br P n ds ops Q (o::r) s σ:= .inl ⟨i,h⟩
theorem br.pre {ops:Array Oper} :∀(l r:List Oper) (s:Fr) (σ:AS),kr P n ops (dP (br P n ds ops Q r) Q) l s σ→br P n ds ops Q (l++r) s σ:=by
 intro l;induction l with
 |nil=>intro r s σ h;exact h
 |cons o l j=>intro r s σ h;refine .inr ?_;have i:eZ P n ops o s σ (kr P n ops (dP (br P n ds ops Q r) Q) l) (dP (br P n ds ops Q r) Q):=h;rw[mg]at i⊢;exact sv (fun v σ' q=>j r _ _ q) (fun _ _ h=>h) i
theorem br.rest {ops:Array Oper}{r:List Oper}(h:kr P n ops Q r s σ):br P n ds ops Q r s σ:=by
 have e:dP (br P n ds ops Q []) Q=Q:=by funext e s σ;cases e<;>rfl
 have:=br.pre (ds:=ds) (Q:=Q) (ops:=ops) r [] s σ (by rw[e];exact h);simpa using this
theorem br.first {ops:Array Oper}{l:List Oper}(k:Nat) (h:kr P n ops (dP (br P n ds ops Q (l.drop k)) Q) (l.take k) s σ):br P n ds ops Q l s σ:=by have:=br.pre (ds:=ds) (Q:=Q) (ops:=ops) (l.take k) (l.drop k) s σ h;rwa [List.take_append_drop]at this
theorem Ls {ops:Array Oper}{G0:Gh} :∀(l:List Oper) (G:Gh) (s:Fr) (σ:AS) (a:Act) (w:World),br P n ds ops Q l s σ→G0.Le G→oW P G n ds s σ a w→
 wpList P ops (LQ P n ds Q G0) l a w:=by
 intro l;induction l with
 |nil=>intro G s σ a w h hle i;exact⟨G,s,σ,hle,i,h⟩
 |cons o rest A=>
  intro G s σ a w h hle i;unfold wpList;rcases h with⟨D,h⟩|h
  ·have hw:Region.wanted o (yielded ops a.tmps)=true:=by simp[Region.wanted,D]
   rw[if_pos hw];exact .inl (h G0 G a w hle i _ (fun G' j σ' v w' h1 u q=>A G' j σ' v w' q h1 u))
  ·have:=oM o h hle i (next:=wpList P ops (LQ P n ds Q G0) rest) (fun G' j σ' v w' h1 u q=>A G' j σ' v w' q h1 u);by_cases hw:Region.wanted o (yielded ops a.tmps)=true
   ·rw[if_pos hw]at this⊢;exact .inl this
   ·rw[if_neg hw]at this⊢;exact this
theorem ae.eX {id:Nat}{l:List Oper}(h:br P n ds l.toArray Q l s σ):ae P n ds (.region id l.toArray false) Q s σ:=
 fun G0 G a w h1 i=>wp_region_lit (Ls l G s σ a w h h1 i)
@[congr] theorem Oc {ops:Array Oper}{l:List Oper}{s h:Fr}{σ σ':AS}(h1:s=h) (i:σ=σ'):br P n ds ops Q l s σ=br P n ds ops Q l h σ':=by subst h1 i;rfl
def az (l:List AV):List AV:=l.flatMap (·.cells)
@[simp] theorem Qa:az []= []:=rfl
@[simp] theorem kf (v:AV) (r:List AV):az (v::r)=v.cells++az r:=rfl
theorem gN {m:Nat} :∀(l:List AV),(∀v∈l,v.cells.length=m)→(az l).length=l.length*m∧ ∀i j,i<l.length→j<m→(az l).getD (i*m+j) .any=(l.getD i .any).cells.getD j .any:=by
 intro l;induction l with
 |nil=>intro _;exact⟨by simp,fun i j q=>by simp at q⟩
 |cons v r u=>
  intro h;obtain⟨h1,D⟩:=u fun v w=>h v (by simp[w]);have h0:=h v (by simp);refine⟨by simp[h1,h0,Nat.add_mul];omega,fun i j q A=> ?_⟩;cases i with
  |zero=>simp only[kf];rw[aO _ _ _ (by omega)];simp
  |succ i=>
   simp only[kf];have:(i+1)*m+j=v.cells.length+(i*m+j):=by rw[h0,Nat.add_mul];omega
   rw[this,aX _ _ _ (by omega)];have e:v.cells.length+(i*m+j)-v.cells.length=i*m+j:=by omega
   rw[e,D i j (by simpa using q) A];simp
def bH (P:Program) (σ:AS) (t:TypeId) (len:Nat) (parts:List (Nat×AV)) (K:AV→AS→Prop):Prop:=
 match ct P t with
 |some e=>parts.length=len∧P.cellsOf e≠0∧len*P.cellsOf e≤2^24∧(aw P e).laid=true∧(aw P e).cells.length=P.cellsOf e∧ig (P.cellsOf e) 0 parts=true∧
  ∀id,σ id=none→K (.fT id 0 len len) (σ.set id (.cells e (az (parts.map (·.2)))))
 |none=>False
theorem Es {m:Nat} :∀(l:List (Nat×AV)) (k:Nat),ig m k l=true→ ∀v∈l.map (·.2),v.cells.length=m:=by
 intro l;induction l with
 |nil=>intro k _ v h;simp at h
 |cons p r j=>
  intro k i v h;obtain⟨q,x⟩:=p;simp only[ig,Bool.and_eq_true,beq_iff_eq]at i;simp only[List.map_cons,List.mem_cons]at h;rcases h with rfl|h
  ·exact i.1.2
  ·exact j (k+1) i.2 v h
theorem nP {G:Gh}{w:World}{K Pn:AV→AS→Prop}(E:Inv P G σ w) {t:TypeId}{len:Nat}{parts:Array (Nat×Operand)}{s:Fr}{ρ:Operand→Value}(V:∀x,ba P G (ev s x) (ρ x))
 (h:bH P σ t len (parts.toList.map fun p=>(p.1,ev s p.2)) K):
 Out P G K Pn (((do pure (Next.value (←Instr.buildSlice t len (parts.map fun(i,x)=>(i,ρ x))))):Sem Next).run P w):=by
 unfold bH at h;split at h
 ·rename_i e he;obtain⟨h1,h2,h3,h4,h5,U,h7⟩:=h;have hu:=fj he;obtain⟨it,z,q,Y,X⟩:=dD h4;have J:it.size=P.cellsOf e:=by simp[Program.cellsOf,q]
  have I:(parts.map fun(i,x)=>(i,ρ x)).toList=parts.toList.map fun p=>(p.1,ρ p.2):=by simp
  have hlen:parts.toList.length=len:=by simpa using h1
  let zero:Array Value:=if len*P.cellsOf e=0 then #[]else z.cells
  let init:Array Value:=(Array.range (len*P.cellsOf e)).map (zero[· %zero.size]!)
  obtain⟨H,g1,g2,_,g4⟩:=xf (P:=P) (G:=G) (e:=e) (parts.toList.map fun p=>(p.1,ev s p.2)) (parts.toList.map fun p=>(p.1,ρ p.2)) 0 (P.cellsOf e) init (by simp) (fun i E=>by simp at E;simp[List.getD_eq_getElem?_getD,E];exact V _) U (by simp at hlen;simp[init,hlen]) (fun c hc=>by omega);have l:H.size=len*P.cellsOf e:=by rw[g2];simp[init]
  have v:(Instr.buildSlice t len (parts.map fun(i,x)=>(i,ρ x))).run P w= .ok (.slice (some ⟨w.heap.size,0,none⟩) len len) (w.alloc (.cells H e)):=by
   have u:¬(len*P.cellsOf e>2^24):=by omega
   have j:Instr.fill (fun i=>some (i*P.cellsOf e,P.cellsOf e)) ((Array.range (len*P.cellsOf e)).map (zero[· %zero.size]!)) (parts.map fun(i,x)=>(i,ρ x)).toList=some H:=by rw[I];exact g1
   simp only[Instr.buildSlice,Sem.run_bind,run_underlying hu,Result.andThen,sizeOf,run_typeInfo w q,Sem.run_pure,J,u,if_false];by_cases h0:len*P.cellsOf e=0
   ·simp only[zero,h0,if_true]at j;simp[h0,newRow];simp at j;simp[j,Result.andThen]
   ·simp only[zero,h0,if_false]at j;simp only[h0,if_false,Sem.run_bind,zeroValue,run_typeInfo w q,Y,Result.andThen,Sem.run_pure];rw[j];simp[newRow,Result.andThen]
  have D:∀k,k<len*P.cellsOf e→k/P.cellsOf e<len∧k%P.cellsOf e<P.cellsOf e∧(k/P.cellsOf e)*P.cellsOf e+k%P.cellsOf e=k:=fun k F=>
   ⟨Nat.div_lt_of_lt_mul (by rw[Nat.mul_comm];exact F),Nat.mod_lt _ (by omega),by rw[Nat.mul_comm];exact Nat.div_add_mod k _⟩
  obtain⟨f1,f2⟩:=gN (m:=P.cellsOf e) ((parts.toList.map fun p=>(p.1,ev s p.2)).map (·.2)) (Es _ 0 U);have L:((parts.toList.map fun p=>(p.1,ev s p.2)).map (·.2)).length=len:=by simpa using h1
  rw[L]at f1 f2;obtain⟨G',hle,A,hinv⟩:=E.mq e H (az ((parts.toList.map fun p=>(p.1,ev s p.2)).map (·.2))) (by rw[l,f1]) (fun k F=>by
   rw[f1]at F;obtain⟨k1,S,O⟩:=D k F;have T:=f2 _ _ k1 S;rw[O]at T;rw[T];have:=g4 (k/P.cellsOf e) (k%P.cellsOf e) (by simp at hlen⊢;omega) S;rw[Nat.zero_add,O]at this;refine⟨?_,this.2⟩;have Z:=this.1;have M:k/P.cellsOf e<(parts.toList.map fun p=>(p.1,ev s p.2)).length:=by simp at hlen⊢;omega
   have e9:((parts.toList.map fun p=>(p.1,ev s p.2)).map (·.2)).getD (k/P.cellsOf e) AV.any=((parts.toList.map fun p=>(p.1,ev s p.2)).getD (k/P.cellsOf e) (0,AV.any)).2:=by simp only[List.getD_eq_getElem?_getD,List.getElem?_map,List.getElem?_eq_getElem M,Option.map_some,Option.getD_some]
   rw[e9];exact Z)
  exact Out.value v hle hinv (.fT A) (h7 _ E.fresh)
 ·exact h.elim
theorem il.ml {d t m:Nat}{ps:Array (Nat×Operand)}{ty:TypeId}{pos:String}{af:Array Edge}{g:Option (Nat×Bool)}{K:Fr→AS→Prop}(hd:d<n)
 (h:bH P σ t m (ps.toList.map fun p=>(p.1,ev s p.2)) (fun v σ'=>K (s.put (some d) v) σ')):il P n ds Q ⟨some d,.buildSlice t m ps,ty,pos,af,g⟩ s σ K:=
 il.ni hd fun G a w i=>nP i.inv i.ev h
theorem ae.freeze {c:Code}(i id:Nat) {e:TypeId}{m:Nat}(es:List AV) {cs:List AV}(hs:s i= .fT id 0 m m) (h0:σ id=none) (hm:es.length=m) (hl:∀v∈es,v.cells.length=P.cellsOf e) (T:cs=az es)
 (h:ae P n ds c Q (s.put (some i) (.an e es .full false)) σ):ae P n ds c Q s (σ.set id (.cells e cs)):=by
 subst T hm;intro G0 G a w h1 M;have l:=M.inv;have D:=M.rep i;rw[hs]at D;obtain⟨b,vs,k1,k2,k3,k4⟩:=l.cells id e (az es) (by simp[AS.set]);generalize hv:a.tmps.getD i undef=v at D;cases D with
 |fT hb=>
  rename_i U;rw[k1]at hb;obtain rfl:=Option.some.inj hb;obtain⟨f1,f2⟩:=gN (m:=P.cellsOf e) es hl;have E:∀o,G.mem b o=none:=(l.dA id b k1).2.2 e (az es) (by simp[AS.set]);have hle:G.Le (G.ka b 0 (az es).length (fun k=>vs.getD k undef)):=by
   refine⟨rfl,rfl,fun U o v em=> ?_,fun _ _ e=>e,fun t r e=>⟨r,e,rfl,.inl rfl⟩⟩;rw[Gh.fp]
   ·exact em
   ·rintro⟨rfl,_⟩;rw[E o]at em;cases em
  have A:∀j x,σ j=some x→j≠id∧(σ.set id (.cells e (az es))) j=some x:=by
   intro j x u;have:j≠id:=by intro e';subst e';rw[h0]at u;cases u
   exact⟨this,by simp[AS.set,this,u]⟩
  refine h G0 _ a w (h1.trans hle) ⟨?_,M.size,M.ds,fun j=> ?_⟩
  ·refine⟨l.below,l.base,?_,l.top,?_,l.fN,?_,?_,?_,?_,?_⟩
   ·intro U o v em;by_cases T:U=b∧0≤o∧o<0+(az es).length
    ·obtain⟨rfl,h3,h4⟩:=T;rw[Gh.lx h3 h4]at em;obtain rfl:=Option.some.inj em;have ho:o<vs.size:=by omega
     refine⟨?_,(k4 o (by omega)).2⟩;simp[World.cell?,k2,ho]
    ·rw[Gh.fp T]at em;exact l.mem U o v em
   ·intro j c u;have:=l.dA j c u;refine⟨this.1,this.2.1,fun ty cs' hn o=> ?_⟩;obtain⟨ab,J⟩:=A j _ hn;have ap:c≠b:=fun e'=>ab (l.fN j id b (e' ▸ u) k1);rw[Gh.fp (fun hh=>ap hh.1)];exact this.2.2 ty cs' J o
   ·intro j ty cs' u;obtain⟨c,V,I,H,F,O⟩:=l.cells j ty cs' (A j _ u).2;exact⟨c,V,I,H,F,fun k L=>⟨(O k L).1.mono hle,(O k L).2⟩⟩
   ·intro j ar u;obtain⟨c,ms,cl,I,H,F,O⟩:=l.maps j ar (A j _ u).2;refine⟨c,ms,cl,I,H,F,fun k L=> ?_⟩;obtain⟨q,Z,Y,X⟩:=O k L;exact⟨q,Z,Y.mono hle,X.mono hle⟩
   ·intro j s' p u;exact l.dY j s' p (A j _ u).2
   ·intro j m u;exact l.tok j m (A j _ u).2
   ·intro t r et;obtain⟨I,H,F⟩:=l.own t r et;refine⟨I,H,fun c o ea k al ac=> ?_⟩;obtain⟨Z,Y,X,q4,q5,q6,q7⟩:=F c o ea k al ac;refine⟨Z,Y,?_,q4,q5,q6,q7⟩;rw[Gh.fp (fun hh=>q4 id (by rw[k1,hh.1]))];exact X
  ·by_cases S:j=i
   ·subst S;rw[mJ,if_pos rfl,hv];have hlen:(az es).length=es.length*P.cellsOf e:=f1;refine ba.an (fun k=>vs.getD k undef) (fun i l=>hl _ ?_) (fun k L=> ?_) (fun i j l S=> ?_) (Nat.le_refl _) ⟨_,rfl⟩
    ·rw[List.getD_eq_getElem?_getD,List.getElem?_eq_getElem l];exact List.getElem_mem l
    ·rw[Gh.lx (by omega) (by omega)];simp
    ·have:=(k4 (i*P.cellsOf e+j) (by
      rw[hlen]
      calc i*P.cellsOf e+j<i*P.cellsOf e+P.cellsOf e:=by omega
       _ =(i+1)*P.cellsOf e:=by rw[Nat.add_mul];omega
       _ ≤es.length*P.cellsOf e:=Nat.mul_le_mul_right _ l)).1
     rw[f2 i j l S]at this;exact this.mono hle
   ·rw[mJ,if_neg S];exact(M.rep j).mono hle
theorem Inv.tu {G:Gh}{w:World}(l:Inv P G σ w) {id b:Nat}{ty:TypeId}{cs cs':List AV}{vs:Array Value}(A:σ id=some (.cells ty cs)) (D:G.inj id=some b) (hw:w.heap[b]? =some (.cells vs ty (0,0)))
 (hl:cs'.length=cs.length) (J:∀k,k<cs'.length→ba P G (cs'.getD k .any) (vs.getD k undef)):Inv P G (σ.set id (.cells ty cs')) w:=by
 have other:∀j,j≠id→(σ.set id (.cells ty cs')) j=σ j:=fun j h=>by simp[AS.set,h]
 refine { below:=l.below,base:=l.base,mem:=l.mem,top:=l.top,dA:=fun i b e=>⟨(l.dA i b e).1,(l.dA i b e).2.1,fun q u I=>by
  by_cases h:i=id
  ·subst h;exact(l.dA i b e).2.2 ty cs A
  ·exact(l.dA i b e).2.2 q u (by rw[←other i h];exact I)⟩,fN:=l.fN,own:=l.own,cells:= ?_,maps:= ?_,dY:= ?_,tok:= ?_ }
 ·intro j q u e;by_cases h:j=id
  ·subst h;simp only[AS.set,if_true]at e;cases e;obtain⟨O,H,F,E,M,L⟩:=l.cells j ty cs A;rw[D]at F;cases F;rw[hw]at E;cases E;exact⟨b,vs,D,hw,by omega,fun k v=>⟨J k v,(L k (by omega)).2⟩⟩
  ·exact l.cells j q u (by rw[←other j h];exact e)
 ·intro j es e;by_cases h:j=id
  ·subst h;simp[AS.set]at e
  ·exact l.maps j es (by rw[←other j h];exact e)
 ·intro j es p e;by_cases h:j=id
  ·subst h;simp[AS.set]at e;subst e;cases p
  ·exact l.dY j es p (by rw[←other j h];exact e)
 ·intro j m e;by_cases h:j=id
  ·subst h;simp[AS.set]at e
  ·exact l.tok j m (by rw[←other j h];exact e)
theorem ae.pO {c:Code}(id k:Nat) {ty:TypeId}{cs:List AV}(e:TypeId) (es:List AV) (nil:Bool) (D:σ id=some (.cells ty cs)) (J:k<cs.length)
 (i:cs.getD k .any= .an e es .full nil∨(cs.getD k .any= .ai∧es= []∧nil=true))
 (h:∀H,σ H=none→ae P n ds c Q s ((σ.set id (.cells ty (cs.set k (.an e es (.tok H) nil)))).set H (.tok es.length))):ae P n ds c Q s σ:=by
 intro G0 G a w h1 F;have E:=F.inv;obtain⟨b,vs,V,U,Y,M⟩:=E.cells id ty cs D;have T:ba P G (.an e es .full nil) (vs.getD k undef):=by
  have:=(M k J).1;rcases i with i|⟨i,rfl,rfl⟩
  ·rw[i]at this;exact this
  ·rw[i]at this;generalize vs.getD k undef=v at this⊢;cases this;exact .jd ⟨none,rfl⟩
 obtain⟨r,A,S,O⟩:=T.fM E;have q:id≠G.top:=by intro X;subst X;rw[E.fresh]at D;cases D
 have I:(σ.set G.top (.tok es.length)) id=some (.cells ty cs):=by simp[AS.set,q,D]
 have l:=S.tu (cs':=cs.set k (.an e es (.tok G.top) nil)) I (A.inj _ _ V) U (by simp) (fun j L=>by
  simp at L;by_cases u:j=k
  ·subst u;rw[List.getD_eq_getElem?_getD,List.getElem?_set_self J];exact O
  ·rw[List.getD_eq_getElem?_getD,List.getElem?_set_ne (fun e=>u e.symm),←List.getD_eq_getElem?_getD];exact((M j L).1).mono A)
 rw[AS.set_comm (fun e=>q e.symm)]at l;exact h G.top E.fresh G0 _ a w (h1.trans A) ⟨l,F.size,F.ds,fun j=>(F.rep j).mono A⟩
theorem Inv.freeze {G:Gh}{w:World}{id:Nat}{e:TypeId}{m:Nat}{es:List AV}(h:Inv P G (σ.set id (.cells e (az es))) w) (h0:σ id=none) (hm:es.length=m) (hl:∀v∈es,v.cells.length=P.cellsOf e):
 ∃G',G.Le G'∧Inv P G' σ w∧ ∀y,ba P G (.fT id 0 m m) y→ba P G' (.an e es .full false) y:=by
 subst hm;obtain⟨b,vs,k1,k2,k3,k4⟩:=h.cells id e (az es) (by simp[AS.set]);obtain⟨f1,f2⟩:=gN (m:=P.cellsOf e) es hl;have A:∀o,G.mem b o=none:=(h.dA id b k1).2.2 e (az es) (by simp[AS.set]);have hle:G.Le (G.ka b 0 (az es).length (fun k=>vs.getD k undef)):=by
  refine⟨rfl,rfl,fun b' o v em=> ?_,fun _ _ e=>e,fun t r e=>⟨r,e,rfl,.inl rfl⟩⟩;rw[Gh.fp]
  ·exact em
  ·rintro⟨rfl,_⟩;rw[A o]at em;cases em
 have u:∀j x,σ j=some x→j≠id∧(σ.set id (.cells e (az es))) j=some x:=by
  intro j x l;have:j≠id:=by intro e';subst e';rw[h0]at l;cases l
  exact⟨this,by simp[AS.set,this,l]⟩
 refine⟨_,hle,⟨h.below,h.base,?_,h.top,?_,h.fN,?_,?_,?_,?_,?_⟩,?_⟩
 ·intro b' o v em;by_cases hc:b'=b∧0≤o∧o<0+(az es).length
  ·obtain⟨rfl,h3,h4⟩:=hc;rw[Gh.lx h3 h4]at em;obtain rfl:=Option.some.inj em;have ho:o<vs.size:=by omega
   refine⟨?_,(k4 o (by omega)).2⟩;simp[World.cell?,k2,ho]
  ·rw[Gh.fp hc]at em;exact h.mem b' o v em
 ·intro j c l;have:=h.dA j c l;refine⟨this.1,this.2.1,fun ty cs' hn o=> ?_⟩;obtain⟨T,H⟩:=u j _ hn;have Y:c≠b:=fun e'=>T (h.fN j id b (e' ▸ l) k1);rw[Gh.fp (fun X=>Y X.1)];exact this.2.2 ty cs' H o
 ·intro j ty cs' l;obtain⟨c,L,F,E,D,J⟩:=h.cells j ty cs' (u j _ l).2;exact⟨c,L,F,E,D,fun k I=>⟨(J k I).1.mono hle,(J k I).2⟩⟩
 ·intro j Z l;obtain⟨c,ms,cl,F,E,D,J⟩:=h.maps j Z (u j _ l).2;refine⟨c,ms,cl,F,E,D,fun k I=> ?_⟩;obtain⟨q,S,O,M⟩:=J k I;exact⟨q,S,O.mono hle,M.mono hle⟩
 ·intro j s' p l;exact h.dY j s' p (u j _ l).2
 ·intro j m l;exact h.tok j m (u j _ l).2
 ·intro t r et;obtain⟨F,E,D⟩:=h.own t r et;refine⟨F,E,fun c o ea k V U=> ?_⟩;obtain⟨S,O,M,q4,q5,q6,q7⟩:=D c o ea k V U;refine⟨S,O,?_,q4,q5,q6,q7⟩;rw[Gh.fp (fun X=>q4 id (by rw[k1,X.1]))];exact M
 ·intro y hy;cases hy with
  |fT hb=>
   rw[k1]at hb;obtain rfl:=Option.some.inj hb;have hlen:(az es).length=es.length*P.cellsOf e:=f1;refine ba.an (fun k=>vs.getD k undef) (fun i h=>hl _ ?_) (fun k I=> ?_) (fun i j h hj=> ?_) (Nat.le_refl _) ⟨_,rfl⟩
   ·rw[List.getD_eq_getElem?_getD,List.getElem?_eq_getElem h];exact List.getElem_mem h
   ·rw[Gh.lx (by omega) (by omega)];simp
   ·have:=(k4 (i*P.cellsOf e+j) (by
     rw[hlen]
     calc i*P.cellsOf e+j<i*P.cellsOf e+P.cellsOf e:=by omega
      _ =(i+1)*P.cellsOf e:=by rw[Nat.add_mul];omega
      _ ≤es.length*P.cellsOf e:=Nat.mul_le_mul_right _ h)).1
    rw[f2 i j h hj]at this;exact this.mono hle
theorem ae.KQ {c:Code}(id:Nat) {ty:TypeId}{cs:List AV}(cs':List AV) (l:σ id=some (.cells ty cs)) (hl:cs'.length=cs.length) (q:∀k,k<cs'.length→AV.Wk P (cs.getD k .any) (cs'.getD k .any))
 (h:ae P n ds c Q s (σ.set id (.cells ty cs'))):ae P n ds c Q s σ:=by
 intro G0 G a w h1 i;obtain⟨b,vs,A,v,D,u⟩:=i.inv.cells id ty cs l;exact h G0 G a w h1 ⟨i.inv.tu l A v hl (fun k j=>q k j _ _ (u k (by omega)).1),i.size,i.ds,i.rep⟩
theorem Inv.marked {G:Gh}{w:World}{b n:Nat}{vs:Array Value}{e:TypeId}(h:Inv P G σ w) (hw:w.heap[b]? =some (.cells vs e (0,0))) (hB:G.B≤b) (hσ:∀i ty cs,σ i=some (.cells ty cs)→G.inj i≠some b)
 (F:∀t r c o,G.own t=some r→r.a=some (c,o)→r.len*P.cellsOf r.xN<r.cap*P.cellsOf r.xN→c≠b):
 Inv P G σ { w with heap:=w.heap.setIfInBounds b (.cells vs e (n,n+1)) } :=by
 have M:=dX hw;have other:∀k,k≠b→(w.heap.setIfInBounds b (.cells vs e (n,n+1)))[k]? =w.heap[k]? :=fun k U=>Array.getElem?_setIfInBounds_ne (fun e=>U e.symm);have same:(w.heap.setIfInBounds b (.cells vs e (n,n+1)))[b]? =some (.cells vs e (n,n+1)):=by simp[M]
 refine⟨⟨h.below.os,h.below.tape,h.below.output,by simpa using h.below.size,fun k U=>by
  have O:k≠b:=by omega
  rw[show({ w with heap:=w.heap.setIfInBounds b (.cells vs e (n,n+1)) } :World).heap[k]? =(w.heap.setIfInBounds b (.cells vs e (n,n+1)))[k]? from rfl,other k O];exact h.below.block k U⟩,h.base,?_,h.top,?_,h.fN,?_,?_,?_,h.tok,?_⟩
 ·intro I o v em;refine⟨?_,(h.mem I o v em).2⟩;have h1:=(h.mem I o v em).1;by_cases H:I=b
  ·subst H;simp only[World.cell?,hw]at h1;simp only[World.cell?,same];exact h1
  ·rw[World.cell?_of_block (w:=w) (other I H)];exact h1
 ·intro j c A;have:=h.dA j c A;exact⟨this.1,by simpa using this.2.1,this.2.2⟩
 ·intro j D cs' A;obtain⟨c,J,k1,u,E⟩:=h.cells j D cs' A;have l:c≠b:=fun e'=>hσ j D cs' A (e' ▸ k1);exact⟨c,J,k1,by rw[other c l];exact u,E⟩
 ·intro j V A;obtain⟨c,L,cl,k1,u,E⟩:=h.maps j V A;have l:c≠b:=by rintro rfl;rw[hw]at u;cases u
  exact⟨c,L,cl,k1,by rw[other c l];exact u,E⟩
 ·intro j s p A;obtain⟨c,k1,u⟩:=h.dY j s p A;refine⟨c,k1,u.ka (fun _ _ h=>h) (fun o ho=> ?_) (fun m ms cl hm=>by rw[other m (fun e=>by subst e;rw[hw]at hm;cases hm)];exact hm)⟩;by_cases H:c=b
  ·subst H;exfalso;cases s with
   |lT q z=>have:w.heap[c]? =some (.stringIter q z):=u;rw[hw]at this;cases this
   |jN q z d=>obtain⟨m,since,seen,last,ms,clock,X,_⟩:=u;rw[hw]at X;cases X
   |cells _ _ =>cases p
   |tok _ =>cases p
   |map _ =>cases p
  ·rw[other c H];exact ho
 ·intro t r Y;obtain⟨k1,u,E⟩:=h.own t r Y;refine⟨k1,u,fun c o Z k T S=> ?_⟩;obtain⟨m1,m2,m3,m4,m5,m6,m7⟩:=E c o Z k T S;have l:c≠b:=F t r c o Y Z (by omega);refine⟨?_,?_,m3,m4,m5,by simpa using m6,m7⟩
  ·rw[World.cell?_of_block (w:=w) (other c l)];exact m1
  ·rw[World.frozen?_of_block (w:=w) (other c l)];exact m2
theorem il.RT {d src dst:Nat}{x:Operand}{ty:TypeId}{pos:String}{af:Array Edge}{g:Option (Nat×Bool)}{K:Fr→AS→Prop}(hd:d<n) (id:Nat) {e:TypeId}{m:Nat}(es:List AV) {cs:List AV}(h0:σ id=none)
 (Z:P.underlying src=some (.slice e)) (J:src=dst) (he:P.underlying e=some (.int .u8)) (Y:ev s x= .fT id 0 m m) (hm:es.length=m) (hl:∀v∈es,v.cells.length=P.cellsOf e) (hc:cs=az es)
 (h:K (s.put (some d) (.an e es .full false)) σ):il P n ds Q ⟨some d,.convert src dst x,ty,pos,af,g⟩ s (σ.set id (.cells e cs)) K:=by
 subst hc J;refine il.ni hd fun G a w u=> ?_;have l:=u.ev x;rw[Y]at l;have V:=u.inv;obtain⟨b,vs,k1,F,k3,k4⟩:=V.cells id e (az es) (by simp[AS.set]);obtain⟨G',hle,q,conv⟩:=V.freeze h0 hm hl;have U:=conv _ l
 generalize H:a.eval x=xv at l U;cases l with
 |fT X=>
  rw[k1]at X;obtain rfl:=Option.some.inj X;have j:=hle.inj _ _ k1;have M:=dX F;have L:Inv P G' σ { w with heap:=w.heap.setIfInBounds b (.cells vs e (vs.size,vs.size+1)) } :=by
   refine q.marked F (q.dA id b j).1 (fun i ty cs D T=> ?_) (fun t r c o et ea hr S=> ?_)
   ·have:=q.fN i id b T j;subst this;rw[h0]at D;cases D
   ·subst S;have:=(q.own t r et).2.2 c o ea (r.len*P.cellsOf r.xN) (Nat.le_refl _) hr;exact this.2.2.2.1 id j
  have E:(convert src src (.slice (some ⟨b,0,none⟩) m m)).run P w= .ok (.slice (some ⟨b,0,none⟩) m m) { w with heap:=w.heap.setIfInBounds b (.cells vs e (vs.size,vs.size+1)) } :=by
   have I:w.shape? b=some (e,vs.size):=by simp[World.shape?,F]
   have O:w.freeze ⟨b,vs.size,none⟩ 1= { w with heap:=w.heap.setIfInBounds b (.cells vs e (vs.size,vs.size+1)) } :=by
    unfold World.freeze;rw[if_neg (by decide)];have hg:w.heap[b]= .cells vs e (0,0):=by have:=F;rw[Array.getElem?_eq_getElem M]at this;exact Option.some.inj this
    congr 1;apply Array.ext
    ·simp
    ·intro i h1 h2;by_cases A:b=i
     ·subst A;simp[Array.getElem_modify,hg]
     ·rw[Array.getElem_modify,if_neg A];exact(Array.getElem_setIfInBounds_ne (by simpa using h1) A).symm
   simp[convert,run_underlying Z,run_underlying he,markStringish,shape,freeze,Sem.run_bind,Result.andThen,Sem.run,I,O]
  show Out P G _ _ (((do pure (Next.value (←convert src src (a.eval x)))):Sem Next).run P w);rw[H];exact Out.value E hle L U h
end Go.AW
namespace Go.AW
open Go Go.RowKit
variable {P:Program} {n:Nat} {ds:List Deferred} {Q:AQ} {s:Fr} {σ:AS}
def eO (h:List (ByteArray×AV)):List (AV×AV):=h.map fun p=>(.sc (.string p.1),p.2)
def iz (k:ByteArray):List (ByteArray×AV)→Option AV
 |[]=>none
 |(k',v)::r=>if k=k' then some v else iz k r
def kV (k:ByteArray) (v:AV):List (ByteArray×AV)→List (ByteArray×AV)
 |[]=> [(k,v)]
 |(k',h)::r=>if k=k' then(k,v)::r else(k',h)::kV k v r
theorem FP (k:ByteArray):(k==k)=true:=(MapKept.bytes_beq k k).2 rfl
theorem NJ {a b:ByteArray}(h:a≠b):(a==b)=false:=Bool.eq_false_iff.2 fun e=>h ((MapKept.bytes_beq a b).1 e)
theorem uP (k:ByteArray) (v:AV):∀(h:List (ByteArray×AV)) (ms:List MapEntry) (i:Nat),ms.length=h.length→(∀(j:Nat) (m:MapEntry),ms[j]? =some m→ ∃p:ByteArray×AV,h[j]? =some p∧m.key= .string p.1)→
 (iz k h=none∧Instr.findNow .string (.string k) ms i=some none∧kV k v h=h++ [(k,v)])∨
 (∃(j:Nat) (p:ByteArray×AV) (m:MapEntry),h[j]? =some p∧ms[j]? =some m∧p.1=k∧iz k h=some p.2∧Instr.findNow .string (.string k) ms i=some (some (i+j,m.val))∧kV k v h=h.set j (k,v)):=by
 intro h;induction h with
 |nil=>intro ms i hl _;have:ms= []:=List.length_eq_zero_iff.1 (by simpa using hl);subst this;exact .inl ⟨rfl,rfl,rfl⟩
 |cons p r G=>
  intro ms i hl E;cases ms with
  |nil=>simp at hl
  |cons m ms=>
   obtain⟨F,w,l⟩:=E 0 m rfl;obtain rfl:p=F:=by simpa using w
   by_cases he:k=p.1
   ·right;refine⟨0,p,m,rfl,rfl,he.symm,by simp[iz,he],?_,by simp[kV,he]⟩;simp[Instr.findNow,l,Instr.sameNow,he,FP]
   ·rcases G ms (i+1) (by simpa using hl) (fun j u hm=>E (j+1) u (by simpa using hm))with⟨h1,D,A⟩|⟨j,q,u,h1,D,A,J,I,H⟩
    ·left;refine⟨by simp[iz,he,h1],?_,by simp[kV,he,A]⟩;have:(k==p.1)=false:=NJ he;simp[Instr.findNow,l,Instr.sameNow,this,D]
    ·right;refine⟨j+1,q,u,by simpa using h1,by simpa using D,A,by simp[iz,he,J],?_,by simp[kV,he,H]⟩;have:(k==p.1)=false:=NJ he;simp[Instr.findNow,l,Instr.sameNow,this,I];omega
theorem gA {t:TypeId}{w:World}{b:Bool}{k:ByteArray}(ht:P.underlying t=some .string):(Instr.checkKey b 10000 t (.string k)).run P w= .ok () w:=by
 have:∀m:Nat,(Instr.checkKey b (m+1) t (.string k)).run P w= .ok () w:=fun m=>by simp[Instr.checkKey,run_underlying ht,Sem.run_bind,Result.andThen]
 exact this 9999
theorem iH {t:TypeId}{w:World}{k:ByteArray}{ms:List MapEntry}{r:Option (Nat×Value)}(ht:P.underlying t=some .string) (h:Instr.findNow .string (.string k) ms 0=some r):
 (Instr.findKey t (.string k) ms).run P w= .ok r w:=by
 simp[Instr.findKey,run_underlying ht,Sem.run_bind,Result.andThen,h]
theorem BQ {G:Gh}{w:World}{id:Nat}{h:List (ByteArray×AV)}(A:Inv P G σ w) (v:σ id=some (.map (eO h))):
 ∃(b:Nat) (ms:Array MapEntry) (clock:Nat),G.inj id=some b∧w.heap[b]? =some (.map ms clock)∧(ms.size=h.length∧oV ms clock)∧(∀(j:Nat) (m:MapEntry),ms.toList[j]? =some m→ ∃p:ByteArray×AV,h[j]? =some p∧m.key= .string p.1∧ba P G p.2 m.val):=by
 obtain⟨b,ms,clock,h1,E,⟨I,i⟩,D⟩:=A.maps id _ v;have hlen:(eO h).length=h.length:=by simp[eO]
 refine⟨b,ms,clock,h1,E,⟨by omega,i⟩,fun j m hm=> ?_⟩;have l:j<h.length:=by have:=(List.getElem?_eq_some_iff.1 hm).1;simp at this;omega
 obtain⟨u,H,q,F⟩:=D j (by omega);rw[Array.getElem?_toList,H]at hm;obtain rfl:=Option.some.inj hm;refine⟨h[j],List.getElem?_eq_getElem l,?_,?_⟩
 ·have e:((eO h).getD j (.any,.any)).1= .sc (.string h[j].1):=by simp[eO,l]
  rw[e]at q;generalize u.key=x at q;cases q;rfl
 ·have e:((eO h).getD j (.any,.any)).2=h[j].2:=by simp[eO,l]
  rwa [e]at F
def pS (P:Program) (h:TypeId) (r:Option AV) (ok:Bool):AV:=if ok then .bQ [r.getD (aw P h),.sc (.bool r.isSome)]else r.getD (aw P h)
theorem DM {G:Gh}{w:World}{K Pn:AV→AS→Prop}(D:Inv P G σ w) {t U O:TypeId}{x V:Value}{ok:Bool}{id:Nat}{k:ByteArray}{u:List (ByteArray×AV)}
 (hm:P.underlying t=some (.map U O)) (E:P.underlying U=some .string) (hz:(aw P O).laid=true) (hx:ba P G (.mp id) x) (I:ba P G (.sc (.string k)) V) (hσ:σ id=some (.map (eO u)))
 (h:K (pS P O (iz k u) ok) σ):Out P G K Pn (((do pure (Next.value (←Instr.lookup t x V ok))):Sem Next).run P w):=by
 obtain⟨b,ms,clock,h1,Z,⟨h3,am⟩,Y⟩:=BQ D hσ;cases I;cases hx with
 |mp X=>
  rw[h1]at X;obtain rfl:=Option.some.inj X;obtain⟨it,z,J,H,A⟩:=dD hz;have q:∀(a:AV) (v:Value) (F:Bool),ba P G a v→ba P G (.bQ [a,.sc (.bool F)]) (.tuple #[v,.bool F]):=by
   intro a v F ha;refine .bQ [v,.bool F] rfl fun i D=> ?_
   match i,D with
   |0,_ =>exact ha
   |1,_ =>exact .sc _
  rcases uP k .any u ms.toList 0 (by simpa using h3) (fun j m hm=>let ⟨p,a,b,_⟩:=Y j m hm;⟨p,a,b⟩)with⟨M,L,_⟩|⟨j,p,m,M,L,g3,g4,g5,_⟩
  ·have l:(Instr.lookup t (.map (some b)) (.string k) ok).run P w= .ok (if ok then .tuple #[z,.bool false]else z) w:=by simp only[Instr.lookup,Sem.run_bind,run_underlying hm,Result.andThen_ok,MapKept.run_getObj_map Z,Sem.run_pure,gA E,iH E L,zeroValue,run_typeInfo w J,H]
   refine Out.value l (.refl G) D ?_ h;rw[M];unfold pS;cases ok
   ·rw[Option.getD_none,A];exact gD z
   ·exact q _ _ _ (by rw[Option.getD_none,A];exact gD z)
  ·have l:(Instr.lookup t (.map (some b)) (.string k) ok).run P w= .ok (if ok then .tuple #[m.val,.bool true]else m.val) w:=by simp only[Instr.lookup,Sem.run_bind,run_underlying hm,Result.andThen_ok,MapKept.run_getObj_map Z,Sem.run_pure,gA E,iH E g5]
   refine Out.value l (.refl G) D ?_ h;obtain⟨p',T,_,S⟩:=Y j m L;rw[M]at T;obtain rfl:=Option.some.inj T;rw[g4];unfold pS;cases ok
   ·exact S
   ·exact q _ _ _ S
theorem il.lookup {d t A u:Nat}{x j:Operand}{ok:Bool}{ty:TypeId}{pos:String}{af:Array Edge}{g:Option (Nat×Bool)}{K:Fr→AS→Prop}(hd:d<n) (id:Nat) (k:ByteArray) (i:List (ByteArray×AV))
 (hm:P.underlying t=some (.map A u)) (H:P.underlying A=some .string) (E:(aw P u).laid=true) (F:ev s x= .mp id) (q:ev s j= .sc (.string k)) (D:σ id=some (.map (eO i)))
 (h:K (s.put (some d) (pS P u (iz k i) ok)) σ):il P n ds Q ⟨some d,.lookup t x j ok,ty,pos,af,g⟩ s σ K:=
 il.ni hd fun G a w l=>DM (K:=fun v σ'=>K (s.put (some d) v) σ') l.inv hm H E (F ▸ l.ev x) (q ▸ l.ev j) D h
theorem Inv.zF {G:Gh}{w:World}(h:Inv P G σ w) {id b:Nat}{ms:Array MapEntry}{clock:Nat}(O:G.inj id=some b) (hw:w.heap[b]? =some (.map ms clock)) (l:Array MapEntry) (i:Nat) (es:List (AV×AV)) (a1:l.size=es.length) (Y:oV l i)
 (q:(∀(k:Nat) (e:MapEntry),ms[k]? =some e→ ∃u,l[k]? =some u∧u.born=e.born)∧(∀(k:Nat) (u:MapEntry),l[k]? =some u→ms[k]? =none→clock≤u.born)∧clock≤i∧l.size+clock=ms.size+i)
 (hr:∀k,k<es.length→ ∃m,l[k]? =some m∧ba P G (es.getD k (.any,.any)).1 m.key∧ba P G (es.getD k (.any,.any)).2 m.val):
 Inv P G (σ.set id (.map es)) { w with heap:=w.heap.setIfInBounds b (.map l i) } :=by
 have ab:=dX hw;have hB:=h.dA id b O;have other:∀k,k≠b→(w.heap.setIfInBounds b (.map l i))[k]? =w.heap[k]? :=fun k F=>Array.getElem?_setIfInBounds_ne (fun e=>F e.symm);have same:(w.heap.setIfInBounds b (.map l i))[b]? =some (.map l i):=by simp[ab]
 have Z:∀o,G.mem b o=none:=by
  intro o;cases hm:G.mem b o with
  |none=>rfl
  |some v=>have:=(h.mem b o v hm).1;simp[World.cell?,hw]at this
 refine⟨⟨h.below.os,h.below.tape,h.below.output,by simpa using h.below.size,fun k F=>by
  have a3:k≠b:=by have:=hB.1;omega
  rw[show({ w with heap:=w.heap.setIfInBounds b (.map l i) } :World).heap[k]? =(w.heap.setIfInBounds b (.map l i))[k]? from rfl,other k a3];exact h.below.block k F⟩,h.base,?_,h.top,?_,h.fN,?_,?_,?_,?_,?_⟩
 ·intro b' o v em;have A:b'≠b:=by intro u;subst u;rw[Z o]at em;cases em
  exact⟨by rw[World.cell?_of_block (w:=w) (other b' A)];exact(h.mem b' o v em).1,(h.mem b' o v em).2⟩
 ·intro j c D;have:=h.dA j c D;refine⟨this.1,by simpa using this.2.1,fun M cs' hn=> ?_⟩;by_cases E:j=id
  ·subst E;simp[AS.set]at hn
  ·exact this.2.2 M cs' (by simpa[AS.set,E]using hn)
 ·intro j M cs' D;have E:j≠id:=by intro u;subst u;simp[AS.set]at D
  simp[AS.set,E]at D;obtain⟨c,al,k1,L,X⟩:=h.cells j M cs' D;have A:c≠b:=fun u=>E (h.fN j id b (u ▸ k1) O);exact⟨c,al,k1,by rw[other c A];exact L,X⟩
 ·intro j a7 D;by_cases E:j=id
  ·subst E;simp[AS.set]at D;subst D;exact⟨b,l,i,O,same,⟨a1,Y⟩,hr⟩
  ·simp[AS.set,E]at D;obtain⟨c,ar,cl,k1,L,X⟩:=h.maps j a7 D;have A:c≠b:=fun u=>E (h.fN j id b (u ▸ k1) O);exact⟨c,ar,cl,k1,by rw[other c A];exact L,X⟩
 ·intro j s p D;have E:j≠id:=by intro u;subst u;simp[AS.set]at D;subst D;cases p
  simp[AS.set,E]at D;obtain⟨c,k1,L⟩:=h.dY j s p D;have A:c≠b:=fun u=>E (h.fN j id b (u ▸ k1) O);refine⟨c,k1,?_⟩;cases s with
  |lT s pos=>have a0:w.heap[c]? =some (.stringIter s pos):=L;show(w.heap.setIfInBounds b (.map l i))[c]? = _;rw[other c A];exact a0
  |jN bh n0 done=>
   obtain⟨m,since,seen,last,av,J,q1,q2,q3,q4,q5,q6,q7,q8,q9,V,U,ap,T⟩:=L;by_cases hm:m=b
   ·subst hm;rw[hw]at q3;cases q3;refine⟨m,since,seen,last,l,i,by rw[←q1];exact other c A,q2,same,?_,q5,by have:=q.2.2.1;omega,Y,?_,?_,V,U,by have:=q.2.2.2;omega,?_⟩
    ·rcases Nat.lt_or_ge l.size n0 with ab|a6
     ·have I:ms[l.size]? =some ms[l.size]:=Array.getElem?_eq_getElem (by omega);obtain⟨u,H,_⟩:=q.1 _ _ I;simp at H
     ·exact a6
    ·intro k e F;cases I:ms[k]? with
     |some e0=>obtain⟨u,H,S⟩:=q.1 k e0 I;rw[F]at H;cases H;rw[q8 k e0 I,S]
     |none=>
      have H:=q.2.1 k e F I;have S:ms.size≤k:=by simpa using I
      constructor<;>intro<;>omega
    ·intro k e F a2;have I:ms[k]? =some ms[k]:=Array.getElem?_eq_getElem (by omega);obtain⟨u,H,S⟩:=q.1 k _ I;rw[F]at H;cases H;rw[S];exact q9 k _ I a2
    ·intro k F;obtain⟨e,H,S⟩:=T k F;obtain⟨u,g3,g4⟩:=q.1 k e H;exact⟨u,g3,by rw[S,g4]⟩
   ·exact⟨m,since,seen,last,av,J,by rw[←q1];exact other c A,q2,by rw[←q3];exact other m hm,q4,q5,q6,q7,q8,q9,V,U,ap,T⟩
  |cells ty cs=>trivial
  |tok n=>trivial
  |map es=>trivial
 ·intro j n D;have E:j≠id:=by intro u;subst u;simp[AS.set]at D
  simp[AS.set,E]at D;exact h.tok j n D
 ·intro t r et;obtain⟨k1,L,X⟩:=h.own t r et;refine⟨k1,L,fun c o ea k a5 a4=> ?_⟩;obtain⟨m1,m2,m3,m4,m5,m6,m7⟩:=X c o ea k a5 a4;have A:c≠b:=fun u=>m4 id (u ▸ O);refine⟨?_,?_,m3,m4,m5,by simpa using m6,m7⟩
  ·rw[World.cell?_of_block (w:=w) (other c A)];exact m1
  ·rw[World.frozen?_of_block (w:=w) (other c A)];exact m2
theorem uC {ms:Array MapEntry}{clock:Nat}(h:oV ms clock) {key val:Value} :oV (ms.push { key,val,born:=clock }) (clock+1):=by
 constructor
 ·intro k e j;rw[Array.getElem?_push]at j;split at j
  ·cases j;simp
  ·have:=h.1 k e j;omega
 ·intro k k' e l j i he;rw[Array.getElem?_push]at j i;split at j<;>split at i
  ·omega
  ·cases j;have:=h.1 k' l i;simp at he;omega
  ·cases i;have:=h.1 k e j;simp at he;omega
  ·exact h.2 k k' e l j i he
theorem yQ (ms:Array MapEntry) (clock:Nat) (x:MapEntry) (l:x.born=clock):
 (∀(k:Nat) (e:MapEntry),ms[k]? =some e→ ∃i,(ms.push x)[k]? =some i∧i.born=e.born)∧(∀(k:Nat) (i:MapEntry),(ms.push x)[k]? =some i→ms[k]? =none→clock≤i.born)∧clock≤clock+1∧(ms.push x).size+clock=ms.size+(clock+1):=by
 refine⟨fun k e h=>⟨e,?_,rfl⟩,fun k i h j=> ?_,by omega,by simp;omega⟩
 ·have:=(Array.getElem?_eq_some_iff.1 h).1;rw[Array.getElem?_push,if_neg (by omega)];exact h
 ·rw[Array.getElem?_push]at h;split at h
  ·cases h;omega
  ·rw[j]at h;cases h
theorem rv {ms:Array MapEntry}{clock:Nat}(h:oV ms clock) (j:Nat) (f:MapEntry→MapEntry) (hf:∀e,(f e).born=e.born):oV (ms.modify j f) clock:=by
 have back:∀(k:Nat) (e:MapEntry),(ms.modify j f)[k]? =some e→ ∃l,ms[k]? =some l∧e.born=l.born:=by
  intro k e i;rw[Array.getElem?_modify]at i;split at i
  ·cases u:ms[k]? with
   |none=>rw[u]at i;cases i
   |some l=>rw[u]at i;cases i;exact⟨l,rfl,hf l⟩
  ·exact⟨e,i,rfl⟩
 constructor
 ·intro k e i;obtain⟨l,h1,v⟩:=back k e i;rw[v];exact h.1 k l h1
 ·intro k k' e D i q he;obtain⟨l,h1,v⟩:=back k e i;obtain⟨A,w,E⟩:=back k' D q;exact h.2 k k' l A h1 w (by omega)
theorem uM (ms:Array MapEntry) (clock:Nat) (j:Nat) (f:MapEntry→MapEntry) (hf:∀e,(f e).born=e.born):
 (∀(k:Nat) (e:MapEntry),ms[k]? =some e→ ∃i,(ms.modify j f)[k]? =some i∧i.born=e.born)∧(∀(k:Nat) (i:MapEntry),(ms.modify j f)[k]? =some i→ms[k]? =none→clock≤i.born)∧clock≤clock∧(ms.modify j f).size+clock=ms.size+clock:=by
 refine⟨fun k e h=> ?_,fun k i h l=> ?_,by omega,by simp⟩
 ·rw[Array.getElem?_modify];split
  ·exact⟨f e,by rw[h];rfl,hf e⟩
  ·exact⟨e,h,rfl⟩
 ·rw[Array.getElem?_modify,l]at h;split at h<;>cases h
theorem yc {G:Gh}{w:World}{K Pn:AV→AS→Prop}(hi:Inv P G σ w) {t kt et:TypeId}{x ix H:Value}{v:AV}{id:Nat}{k:ByteArray}{u:List (ByteArray×AV)}
 (hm:P.underlying t=some (.map kt et)) (T:P.underlying kt=some .string) (hx:ba P G (.mp id) x) (Z:ba P G (.sc (.string k)) ix) (hv:ba P G v H) (hσ:σ id=some (.map (eO u)))
 (h:K .any (σ.set id (.map (eO (kV k v u))))):Out P G K Pn (((do Instr.mapUpdate t x ix H;pure Next.skip):Sem Next).run P w):=by
 obtain⟨b,ms,clock,h1,J,⟨V,L⟩,U⟩:=BQ hi hσ;cases Z;cases hx with
 |mp hb=>
  rw[h1]at hb;obtain rfl:=Option.some.inj hb;have jf:∀(l:List (ByteArray×AV)) (j:Nat) (p:ByteArray×AV),l[j]? =some p→(eO l).getD j (.any,.any)=(.sc (.string p.1),p.2):=by intro l j p hp;simp[eO,hp]
  have F:∀l,(eO l).length=l.length:=by intro l;simp[eO]
  rcases uP k v u ms.toList 0 (by simpa using V) (fun j m hm=>let ⟨p,a,b,_⟩:=U j m hm;⟨p,a,b⟩)with⟨g1,O,g6⟩|⟨j,p,m,g1,O,g3,g4,g5,g6⟩
  ·have D:(Instr.mapUpdate t (.map (some b)) (.string k) H).run P w= .ok () { w with heap:=w.heap.setIfInBounds b (.map (ms.push { key:= .string k,val:=H,born:=clock }) (clock+1)) } :=by simp only[Instr.mapUpdate,Sem.run_bind,run_underlying hm,Result.andThen_ok,MapKept.run_getObj_map J,gA T,iH T O,MapKept.run_setObj_map _ J]
   rw[g6]at h;refine Out.unit D (.refl G) (hi.zF h1 J _ _ (eO (u++ [(k,v)])) (by simp[F,V]) (uC L) (yQ ms clock _ rfl) (fun i A=> ?_)) (.any _) h;rw[F]at A;simp at A;by_cases Y:i<u.length
   ·have E:i<ms.size:=by omega
    obtain⟨p,S,X,q3⟩:=U i ms[i] (by simp[E]);refine⟨ms[i],by simp[Array.getElem?_push,E];omega,?_⟩;rw[jf _ i p (by rw[List.getElem?_append_left Y];exact S),X];exact⟨.sc _,q3⟩
   ·have he:i=u.length:=by omega
    subst he;refine⟨{ key:= .string k,val:=H,born:=clock },by rw[←V];simp,?_⟩;rw[jf _ u.length (k,v) (by simp)];exact⟨.sc _,hv⟩
  ·have a8:j<ms.size:=by have:=(List.getElem?_eq_some_iff.1 O).1;simpa using this
   have hold:ms[j]? =some m:=by rw[←Array.getElem?_toList];exact O
   obtain⟨p',S,X,q3⟩:=U j m O;rw[g1]at S;obtain rfl:=Option.some.inj S;have M:(Instr.keyThatStays m.key (.string k)).run P w= .ok (.string k) w:=by
    have:∀q:Nat,Instr.sameBits q (.string k) (.string k)=true:=fun q=>by simp[Instr.sameBits,FP]
    rw[X,g3];simp[Instr.keyThatStays,this]
   have D:(Instr.mapUpdate t (.map (some b)) (.string k) H).run P w= .ok () { w with heap:=w.heap.setIfInBounds b (.map (ms.modify j fun e=> { e with key:= .string k,val:=H }) clock) } :=by simp only[Instr.mapUpdate,Sem.run_bind,run_underlying hm,Result.andThen_ok,MapKept.run_getObj_map J,gA T,iH T g5,Nat.zero_add,hold,Option.map_some,Option.getD_some,M,MapKept.run_setObj_map _ J]
   rw[g6]at h;refine Out.unit D (.refl G) (hi.zF h1 J _ _ (eO (u.set j (k,v))) (by simp[F,V]) (rv L j _ (fun _ =>rfl)) (uM ms clock j _ (fun _ =>rfl)) (fun i A=> ?_)) (.any _) h;rw[F]at A;simp at A;have E:i<ms.size:=by omega
   by_cases I:i=j
   ·subst I;refine⟨{ m with key:= .string k,val:=H },by simp[Array.getElem?_modify,hold],?_⟩;rw[jf _ i (k,v) (by simp[A])];exact⟨.sc _,hv⟩
   ·obtain⟨p2,r1,r2,r3⟩:=U i ms[i] (by simp[E]);refine⟨ms[i],by rw[Array.getElem?_modify,if_neg (fun e=>I e.symm)];exact Array.getElem?_eq_getElem E,?_⟩;rw[jf _ i p2 (by rw[List.getElem?_set_ne (fun e=>I e.symm)];exact r1),r2];exact⟨.sc _,r3⟩
theorem il.mapUpdate {t u F:Nat}{m x l:Operand}{ty:TypeId}{pos:String}{af:Array Edge}{g:Option (Nat×Bool)}{K:Fr→AS→Prop}(id:Nat) (k:ByteArray) (i:List (ByteArray×AV))
 (hm:P.underlying t=some (.map u F)) (E:P.underlying u=some .string) (D:ev s m= .mp id) (q:ev s l= .sc (.string k)) (A:σ id=some (.map (eO i)))
 (h:K s (σ.set id (.map (eO (kV k (ev s x) i))))):il P n ds Q ⟨none,.mapUpdate t m l x,ty,pos,af,g⟩ s σ K:=
 il.ni trivial fun G a w j=>yc (K:=fun v σ'=>K (s.put none v) σ') j.inv hm E (D ▸ j.ev m) (q ▸ j.ev l) (j.ev x) A h
end Go.AW
