/- A layer of abstract values over the model's machine: own work for this claim, part EvRel. -/
import Derived.Test.YtknalmoackcpbaaGreatAwLink
set_option linter.all false
open Go Go.RowKit
namespace Go.AW.Ev
variable {P:Program}
instance:DecidableEq D8:=fun a b=>by cases a<;>cases b<;>first|exact isTrue rfl|exact isFalse (fun h=>by cases h)
instance:DecidableEq P3:=fun a b=>if h:a.a=b.a∧a.b=b.b∧a.c=b.c then isTrue (by cases a;cases b;simp at h;simp[h])else isFalse (fun e=>h (by subst e;simp))
instance:DecidableEq P5:=fun a b=>if h:a.a=b.a∧a.b=b.b∧a.c=b.c∧a.d=b.d∧a.e=b.e then isTrue (by cases a;cases b;simp at h;simp[h])else isFalse (fun e=>h (by subst e;simp))
theorem N8.df {α:Type}(d j:D8) (v:α) (x:N8 α):N8.get j (N8.set d v x)=if j=d then v else N8.get j x:=by cases x;cases d<;>cases j<;>rfl
theorem N8.lr {α:Type}(d:D8) (v:α):N8.get d (N8.all v)=v:=by cases d<;>rfl
theorem T3.df {α:Type}(p q:P3) (v:α) (x:T3 α):T3.get q (T3.set p v x)=if q=p then v else T3.get q x:=by
 obtain⟨a,b,c⟩:=p;obtain⟨u,o,n⟩:=q;simp only[T3.get,T3.set,N8.df];by_cases h1:u=a
 ·subst h1;by_cases j:o=b
  ·subst j;by_cases l:n=c<;>simp[N8.df,l]
  ·simp[N8.df,j]
 ·simp[N8.df,h1]
theorem T5.df {α:Type}(p q:P5) (v:α) (x:T5 α):T5.get q (T5.set p v x)=if q=p then v else T5.get q x:=by
 obtain⟨a,b,c,d,e⟩:=p;obtain⟨n,l,y,u,o⟩:=q;simp only[T5.get,T5.set,N8.df];by_cases h1:n=a
 ·subst h1;by_cases j:l=b
  ·subst j;simp only[N8.df,if_true,T3.df,P5.mk.injEq,P3.mk.injEq,true_and]
  ·simp[N8.df,j]
 ·simp[N8.df,h1]
def Lr:D8→Nat
 |.d0=>0|.d1=>1|.d2=>2|.d3=>3|.d4=>4|.d5=>5|.d6=>6|.d7=>7
theorem NF (n:Nat):bit n=decide (n%2=1):=by unfold bit;rw[show Nat.mod n 2=n%2 from rfl];rcases Nat.mod_two_eq_zero_or_one n with h|h<;>rw[h]<;>rfl
theorem wO (n:Nat):Lr (Ga n)=n%8:=by have l:Nat.div n 2=n/2:=rfl;have j:Nat.div n 4=n/4:=rfl;unfold Ga;simp only[NF,l,j];rcases Nat.mod_two_eq_zero_or_one n with a|a<;>rcases Nat.mod_two_eq_zero_or_one (n/2)with b|b<;>rcases Nat.mod_two_eq_zero_or_one (n/4)with c|c<;>simp[a,b,c,Lr]<;>omega
theorem lz {a b:Nat}(h:Ga a=Ga b):a%8=b%8:=by rw[←wO,←wO,h]
theorem MV {a b:Nat}(ha:a<512) (l:b<512) (h:p3 a=p3 b):a=b:=by simp only[p3,P3.mk.injEq]at h;have h1:=lz h.1;have j:=lz h.2.1;have n:=lz h.2.2;rw[show Nat.div a 64=a/64 from rfl,show Nat.div b 64=b/64 from rfl]at h1;rw[show Nat.div a 8=a/8 from rfl,show Nat.div b 8=b/8 from rfl]at j;omega
theorem MU {a b:Nat}(ha:a<32768) (o:b<32768) (h:p5 a=p5 b):a=b:=by simp only[p5,P5.mk.injEq]at h;have h1:=lz h.1;have n:=lz h.2.1;have l:=lz h.2.2.1;have j:=lz h.2.2.2.1;have q:=lz h.2.2.2.2;rw[show Nat.div a 4096=a/4096 from rfl,show Nat.div b 4096=b/4096 from rfl]at h1;rw[show Nat.div a 512=a/512 from rfl,show Nat.div b 512=b/512 from rfl]at n;rw[show Nat.div a 64=a/64 from rfl,show Nat.div b 64=b/64 from rfl]at l;rw[show Nat.div a 8=a/8 from rfl,show Nat.div b 8=b/8 from rfl]at j;omega
theorem tW {t d:Nat}(ht:t<512) (j:d<512) (v:EV) (F:Fr):T3.get (p3 t) (T3.set (p3 d) v F)=if t=d then v else T3.get (p3 t) F:=by
 rw[T3.df];by_cases h:t=d
 ·subst h;simp
 ·rw[if_neg h,if_neg (fun e=>h (MV ht j e))]
theorem Hp.df {i j:Nat}(n:i<32768) (l:j<32768) (b:v7) (H:Hp):(H.set i b).get j=if j=i then b else H.get j:=by
 unfold Hp.get Hp.set;rw[T5.df];by_cases h:j=i
 ·subst h;simp
 ·rw[if_neg h,if_neg (fun e=>h (MU l n e))]
theorem Hp.o9 {j:Nat}{H:Hp}(n:H.c<32768) (l:j<32768) (b:v7):(H.new b).get j=if j=H.c then b else H.get j:=Hp.df n l b H
abbrev br:=Nat→Option (Nat×Nat)
def br.le (ρ j:br):Prop:= ∀i p,ρ i=some p→j i=some p
theorem br.le.refl (ρ:br):br.le ρ ρ:=fun _ _ h=>h
theorem br.le.trans {a b c:br}(h:br.le a b) (k:br.le b c):br.le a c:=fun i p e=>k i p (h i p e)
def br.ext (ρ:br) (c:Nat) (p:Nat×Nat):br:=fun i=>if i=c then some p else ρ i
theorem br.ou {ρ:br}{c:Nat}(h:ρ c=none) (p:Nat×Nat):br.le ρ (ρ.ext c p):=by
 intro i q e;unfold br.ext;rw[if_neg]
 ·exact e
 ·rintro rfl;rw[h]at e;cases e
@[simp] theorem br.fI (ρ:br) (c:Nat) (p:Nat×Nat):ρ.ext c p c=some p:=if_pos rfl
inductive VR (ρ:br):EV→AV→Prop
 |any (a:AV):VR ρ .any a
 |int (k:IntKind) (n:Int):VR ρ (.int k n) (.sc (.int k n))
 |bool (b:Bool):VR ρ (.bool b) (zB b)
 |sc (v:Value):VR ρ (.sc v) (.sc v)
 |aC:VR ρ .aC .aC
 |ptr {i x K:Nat} (off:Nat) (h:ρ i=some (x,K)):VR ρ (.ptr i off) (.ptr x off)
 |we {i x K:Nat} (off len c:Nat) (h:ρ i=some (x,K)):VR ρ (.sl i off len (.kn c)) (.dg x off len c)
 |xW {i x K:Nat} (off len d:Nat) (h:ρ i=some (x,K)) (hl:len≤K-d):VR ρ (.sl i off len (.rest d)) (.dg x off len (K-d))
 |ah {e:TypeId} {es:List EV} {as:List AV} (full:Bool) (l:es.length=as.length) (h:∀i,i<es.length→VR ρ (es.getD i .any) (as.getD i .any)):VR ρ (.ah e es full) (.ah e as (if full then .full else .aJ) false)
 |mp {i x K:Nat} (h:ρ i=some (x,K)):VR ρ (.mp i) (.mp x)
 |Cq (f:FuncId):VR ρ (.fn f [] []) (.sc (.func (.func f) #[] #[]))
 |fn {f:FuncId} {a b:List EV} {as bs:List AV} (la:a.length=as.length) (ha:∀i,i<a.length→VR ρ (a.getD i .any) (as.getD i .any)) (lb:b.length=bs.length)
  (hb:∀i,i<b.length→VR ρ (b.getD i .any) (bs.getD i .any)):VR ρ (.fn f a b) (.fn (.func f) as bs)
 |lq {v:EV} {a:AV} (t:TypeId) (h:VR ρ v a):VR ρ (.lq t v) (.lq t a)
 |agg {cs:List EV} {as:List AV} (l:cs.length=as.length) (h:∀i,i<cs.length→VR ρ (cs.getD i .any) (as.getD i .any)):VR ρ (.agg cs) (.agg as)
 |cp {cs:List EV} {as:List AV} (l:cs.length=as.length) (h:∀i,i<cs.length→VR ρ (cs.getD i .any) (as.getD i .any)):VR ρ (.cp cs) (.cp as)
theorem VR.mono {ρ o:br}(hle:br.le ρ o) {v:EV}{a:AV}(h:VR ρ v a):VR o v a:=by
 induction h with
 |any a=>exact .any a
 |int k n=>exact .int k n
 |bool b=>exact .bool b
 |sc v=>exact .sc v
 |aC=>exact .aC
 |ptr off h=>exact .ptr off (hle _ _ h)
 |we off len c h=>exact .we off len c (hle _ _ h)
 |xW off len d h hl=>exact .xW off len d (hle _ _ h) hl
 |ah full l _ j=>exact .ah full l j
 |mp h=>exact .mp (hle _ _ h)
 |Cq f=>exact .Cq f
 |fn u _ q _ A y=>exact .fn u A q y
 |lq t _ j=>exact .lq t j
 |agg l _ j=>exact .agg l j
 |cp l _ j=>exact .cp l j
inductive VL (ρ:br):List EV→List AV→Prop
 |nil:VL ρ [] []
 |cons {v:EV} {a:AV} {vs:List EV} {as:List AV} (h:VR ρ v a) (t:VL ρ vs as):VL ρ (v::vs) (a::as)
theorem VL.mono {ρ j:br}(hle:br.le ρ j) {vs:List EV}{as:List AV}(h:VL ρ vs as):VL j vs as:=by
 induction h with
 |nil=>exact .nil
 |cons h _ l=>exact .cons (h.mono hle) l
theorem VL.len {ρ:br}{vs:List EV}{as:List AV}(h:VL ρ vs as):vs.length=as.length:=by
 induction h with
 |nil=>rfl
 |cons _ _ j=>simp[j]
theorem VL.get {ρ:br}{vs:List EV}{as:List AV}(h:VL ρ vs as) (i:Nat):VR ρ (vs.getD i .any) (as.getD i .any):=by
 induction h generalizing i with
 |nil=>simp;exact .any _
 |cons h _ j=>
  cases i with
  |zero=>simpa using h
  |succ i=>simpa using j i
theorem VL.of {ρ:br} :∀ {vs:List EV}{as:List AV},vs.length=as.length→(∀i,i<vs.length→VR ρ (vs.getD i .any) (as.getD i .any))→VL ρ vs as
 |[],[],_,_ => .nil
 |[],_ :: _,l,_ =>by simp at l
 | _ :: _,[],l,_ =>by simp at l
 |v::vs,a::as,l,h=> .cons (by simpa using h 0 (by simp)) (VL.of (by simpa using l) fun i j=>by simpa using h (i+1) (by simpa using j))
theorem VL.app {ρ:br}{vs ws:List EV}{as j:List AV}(h:VL ρ vs as) (k:VL ρ ws j):VL ρ (vs++ws) (as++j):=by
 induction h with
 |nil=>exact k
 |cons h _ l=>exact .cons h l
theorem VR.y7 {ρ:br}{cs:List EV}{as:List AV}(h:VL ρ cs as):VR ρ (.agg cs) (.agg as):= .agg h.len fun i _ =>h.get i
theorem VR.By {ρ:br}{cs:List EV}{as:List AV}(h:VL ρ cs as):VR ρ (.cp cs) (.cp as):= .cp h.len fun i _ =>h.get i
theorem VR.te {ρ:br}{e:TypeId}{cs:List EV}{as:List AV}(full:Bool) (h:VL ρ cs as):VR ρ (.ah e cs full) (.ah e as (if full then .full else .aJ) false):= .ah full h.len fun i _ =>h.get i
theorem VR.L7 {ρ:br}{f:FuncId}{a b:List EV}{as j:List AV}(h:VL ρ a as) (k:VL ρ b j):VR ρ (.fn f a b) (.fn (.func f) as j):= .fn h.len (fun i _ =>h.get i) k.len (fun i _ =>k.get i)
theorem VR.Ec {ρ:br}{cs:List EV}{a:AV}(h:VR ρ (.agg cs) a):∃as,a= .agg as∧VL ρ cs as:=by
 cases h with
 |agg l h=>exact⟨_,rfl,VL.of l h⟩
theorem VR.cells {ρ:br}{v:EV}{a:AV}(h:VR ρ v a) (hl:v.laid=true):VL ρ v.cells a.cells∧a.Dv=true∧a.cells.all AV.one=true:=by
 have one:∀ {v:EV} {a:AV},VR ρ v a→v.one=true→a.one=true:=by
  intro v a h q;cases h<;>first|rfl|(simp[EV.one]at q;done)|skip
  case sc v=>cases v<;>first|rfl|simp[EV.one]at q
 cases h with
 |any=>simp[EV.laid,EV.one]at hl
 |cp=>simp[EV.laid,EV.one]at hl
 |agg l h=>
  rename_i cs as;have o:=VL.of l h;refine⟨o,rfl,?_⟩;have j:∀ {cs:List EV} {as:List AV},VL ρ cs as→iy cs=true→as.all AV.one=true:=by
   intro cs as o;induction o with
   |nil=>intro _;rfl
   |cons h _ A=>intro ha;simp only[iy,Bool.and_eq_true]at ha;rw[List.all_cons,one h ha.1,A ha.2];rfl
  exact j o (by simpa[EV.laid]using hl)
 |sc v=>have:AV.one (.sc v)=true:=one (.sc v) (by simpa[EV.laid]using hl);refine⟨.cons (.sc v) .nil,?_,by show(AV.one (.sc v)&&true)=true;rw[this];rfl⟩;cases v<;>first|rfl|simp[AV.one]at this
 |int k n=>exact⟨.cons (.int k n) .nil,rfl,rfl⟩
 |bool b=>exact⟨.cons (.bool b) .nil,rfl,rfl⟩
 |aC=>exact⟨.cons .aC .nil,rfl,rfl⟩
 |ptr off h=>exact⟨.cons (.ptr off h) .nil,rfl,rfl⟩
 |we off len c h=>exact⟨.cons (.we off len c h) .nil,rfl,rfl⟩
 |xW off len d h D=>exact⟨.cons (.xW off len d h D) .nil,rfl,rfl⟩
 |ah full l h=>exact⟨.cons (.ah full l h) .nil,rfl,rfl⟩
 |mp h=>exact⟨.cons (.mp h) .nil,rfl,rfl⟩
 |Cq f=>exact⟨.cons (.Cq f) .nil,rfl,rfl⟩
 |fn y ha u E=>exact⟨.cons (.fn y ha u E) .nil,rfl,rfl⟩
 |lq t h=>exact⟨.cons (.lq t h) .nil,rfl,rfl⟩
theorem VR.one {ρ:br}{v:EV}{a:AV}(h:VR ρ v a) (j:v.one=true):a.one=true:=by
 have hl:v.laid=true:=by cases v<;>first|exact j|simp[EV.one]at j
 obtain⟨h1,n,l⟩:=h.cells hl;have:v.cells= [v]:=by cases v<;>first|rfl|simp[EV.one]at j
 cases h<;>first|rfl|(simp[EV.one]at j;done)|skip
 case sc v=>cases v<;>first|rfl|simp[EV.one]at j
theorem m0 {α:Type} :∀(l:List α) (n:Nat),jI l n=true↔l.length=n
 |[],n=>by cases n<;>simp[jI]
 | _ ::r,n=>by
  cases n with
  |zero=>simp[jI]
  |succ m=>simp[jI,m0 r m]
theorem pa:∀(l:List EV) (n:Nat),Az l n=l.getD n .any
 |[],n=>by simp[Az]
 |v::r,n=>by
  cases n with
  |zero=>rfl
  |succ m=>simp[Az,pa r m]
theorem ju:∀(l:List EV) (n:Nat) (r:List EV),iG l n=some r→n≤l.length∧r=l.take n
 |l,0,r,h=>by
  have:iG l 0=some []:=by cases l<;>rfl
  rw[this]at h;cases h;simp
 |[],n+1,r,h=>by simp[iG]at h
 |v::l,n+1,r,h=>by simp only[iG,Option.map_eq_some_iff]at h;obtain⟨j,h1,rfl⟩:=h;obtain⟨k1,rfl⟩:=ju l n j h1;exact⟨by simpa using k1,by simp⟩
theorem ga:∀(l:List EV) (n:Nat),kG l n=l.drop n
 |l,0=>by cases l<;>rfl
 |[],n+1=>rfl
 | _ ::l,n+1=>by simp[kG,ga l n]
theorem uQ:∀(l:List EV) (k n:Nat) (r:List EV),sG l k n=some r→k+n≤l.length∧r=(l.drop k).take n
 |l,0,n,r,h=>by
  have:sG l 0 n=iG l n:=by cases l<;>rfl
  rw[this]at h;simpa using ju l n r h
 |[],k+1,n,r,h=>by simp[sG]at h
 |v::l,k+1,n,r,h=>by obtain⟨h1,j⟩:=uQ l k n r h;exact⟨by simp;omega,by simpa using j⟩
theorem zR:∀(cs vs r:List EV),uT cs vs=some r→vs.length≤cs.length∧r=vs++cs.drop vs.length
 |cs,[],r,h=>by
  have:uT cs []=some cs:=by cases cs<;>rfl
  rw[this]at h;cases h;simp
 |[],_ :: _,r,h=>by simp[uT]at h
 |c::cs,v::vs,r,h=>by simp only[uT,Option.map_eq_some_iff]at h;obtain⟨j,h1,rfl⟩:=h;obtain⟨k1,rfl⟩:=zR cs vs j h1;exact⟨by simpa using k1,by simp⟩
theorem qy:∀(cs:List EV) (n:Nat) (vs r:List EV),rG cs n vs=some r→n+vs.length≤cs.length∧r=cs.take n++vs++cs.drop (n+vs.length)
 |cs,0,vs,r,h=>by
  have:rG cs 0 vs=uT cs vs:=by cases cs<;>rfl
  rw[this]at h;obtain⟨h1,rfl⟩:=zR cs vs r h;exact⟨by omega,by simp⟩
 |[],n+1,vs,r,h=>by simp[rG]at h
 |c::cs,n+1,vs,r,h=>by simp only[rG,Option.map_eq_some_iff]at h;obtain⟨j,h1,rfl⟩:=h;obtain⟨k1,rfl⟩:=qy cs n vs j h1;refine⟨by simp;omega,?_⟩;rw[show n+1+vs.length=(n+vs.length)+1 from by omega];simp
theorem VL.take {ρ:br}{vs:List EV}{as:List AV}(h:VL ρ vs as) (n:Nat):VL ρ (vs.take n) (as.take n):=by
 induction h generalizing n with
 |nil=>simp;exact .nil
 |cons h _ j=>cases n with
  |zero=>simp;exact .nil
  |succ n=>simp;exact .cons h (j n)
theorem VL.drop {ρ:br}{vs:List EV}{as:List AV}(h:VL ρ vs as) (n:Nat):VL ρ (vs.drop n) (as.drop n):=by
 induction h generalizing n with
 |nil=>simp;exact .nil
 |cons h t j=>cases n with
  |zero=>simp;exact .cons h t
  |succ n=>simp;exact j n
theorem VR.yr (ρ:br) (v:Value):VR ρ (yr v) (z5 v):=by
 unfold Ev.yr;split
 ·exact .int _ _
 ·exact .bool _
 ·exact .aC
 ·rename_i h1 l j;have:z5 v= .sc v:=by
   unfold z5;split
   ·exact absurd rfl j
   ·rfl
  rw[this];exact .sc _
theorem VL.yr (ρ:br):∀(l:List Value),VL ρ (l.map Ev.yr) (l.map z5)
 |[]=> .nil
 |v::r=> .cons (VR.yr ρ v) (VL.yr ρ r)
theorem VR.LV (ρ:br) (v:Value):VR ρ (LV v) (z6 v):=by
 unfold Ev.LV;split
 ·exact .int _ _
 ·exact .bool _
 ·exact .aC
 ·exact VR.y7 (VL.yr ρ _)
 ·rename_i h1 n l j;have:z6 v= .sc v:=by
   unfold z6;split
   ·exact absurd rfl l
   ·exact absurd rfl (j _)
   ·rfl
  rw[this];exact .sc _
theorem VR.zero (ρ:br) (t:TypeId):VR ρ (zeroV P t) (az P t):=by
 unfold zeroV az;cases (P.info? t).bind (·.zero)with
 |none=>exact .any _
 |some v=>exact VR.LV ρ v
def XR (ρ:br) (F:Fr) (s:AW.Fr) (x:Operand):Prop:=VR ρ ((eK x).get F) (ev s x)
def FR (ρ:br) (F:Fr) (s:AW.Fr):Prop:= ∀t,t<512→VR ρ (T3.get (p3 t) F) (s t)
theorem Dt {t:Nat}(h:t<512) (F:Fr):(eK (.tmp t)).get F=T3.get (p3 t) F:=by
 have:Nat.blt t 512=true:=by rw[Nat.blt_eq];exact h
 simp[eK,this]
theorem FR.op {ρ:br}{F:Fr}{s:AW.Fr}(h:FR ρ F s) (x:Operand):XR ρ F s x:=by
 unfold XR;cases x with
 |tmp t=>
  by_cases ht:t<512
  ·rw[Dt ht];exact h t ht
  ·have:Nat.blt t 512=false:=by cases j:Nat.blt t 512 with|false=>rfl|true=>rw[Nat.blt_eq]at j;exact absurd j ht
   simp[eK,this];exact .any _
 |const v=>exact VR.LV ρ v
 |global g=>exact .any _
 |func f=>exact .Cq f
theorem FR.mono {ρ j:br}(hle:br.le ρ j) {F:Fr}{s:AW.Fr}(h:FR ρ F s):FR j F s:=fun t ht=>(h t ht).mono hle
theorem FR.put {ρ:br}{F:Fr}{s:AW.Fr}(h:FR ρ F s) {v:EV}{a:AV}(j:VR ρ v a) (d:Option Nat) (l:∀t,d=some t→t<512):FR ρ (gS d v F) (s.put d a):=by
 cases d with
 |none=>exact h
 |some d=>
  intro t ht;show VR ρ (T3.get (p3 t) (T3.set (p3 d) v F)) (if t=d then a else s t);rw[tW ht (l d rfl)];split
  ·exact j
  ·exact h t ht
def PL (ρ:br):List (EV×EV)→List (AV×AV)→Prop
 |[],[]=>True
 |p::ps,q::j=>VR ρ p.1 q.1∧VR ρ p.2 q.2∧PL ρ ps j
 | _,_ =>False
def BR (P:Program) (ρ:br) (N:Nat):v7→cL→Prop
 |.z8,_ =>True
 |.cells ty cs full,n=> ∃as j,n= .cells ty (as++j)∧VL ρ cs as∧(full=true→j= [])∧(full=false→as.length+j.length=N*P.cellsOf ty)
 |.map es,n=> ∃as,n= .map as∧PL ρ es as∧((∃l,as=cx l)∨ ∃l,as=dz l)
 |.gA s p,n=>n= .gA s p
theorem PL.mono {ρ j:br}(hle:br.le ρ j):∀ {es:List (EV×EV)}{as:List (AV×AV)},PL ρ es as→PL j es as
 |[],[],_ =>trivial
 | _ :: _,_ :: _,h=>⟨h.1.mono hle,h.2.1.mono hle,PL.mono hle h.2.2⟩
 |[],_ :: _,h=>h.elim
 | _ :: _,[],h=>h.elim
theorem BR.mono {ρ j:br}(hle:br.le ρ j) {N:Nat}{b:v7}{q:cL}(h:BR P ρ N b q):BR P j N b q:=by
 cases b with
 |z8=>trivial
 |cells ty cs full=>obtain⟨as,l,h1,o,n⟩:=h;exact⟨as,l,h1,o.mono hle,n⟩
 |map es=>obtain⟨as,h1,o,n⟩:=h;exact⟨as,h1,o.mono hle,n⟩
 |gA s p=>exact h
def v7.live:v7→Bool|.z8=>false| _ =>true
structure RB (P:Program) (ρ:br) (H:Hp) (σ:AS):Prop where
 lt:∀i p,ρ i=some p→i<32768
 zi:∀i,i<32768→(H.get i).live=true→ ∃x N ab,ρ i=some (x,N)∧σ x=some ab∧BR P ρ N (H.get i) ab
structure R (P:Program) (ρ:br) (σ0:AS) (H:Hp) (σ:AS):Prop where
 rb:RB P ρ H σ
 inj:∀i j x N M,(H.get i).live=true→(H.get j).live=true→ρ i=some (x,N)→ρ j=some (x,M)→i=j
 le:AS.le σ0 σ
 out:∀i x N,(H.get i).live=true→ρ i=some (x,N)→σ0 x=none
 fresh:∀i,H.c≤i→ρ i=none
 dead:∀i,H.c≤i→i<32768→(H.get i).live=false
theorem RB.at {ρ:br}{H:Hp}{σ:AS}(h:RB P ρ H σ) {i x N:Nat}(l:ρ i=some (x,N)) (hl:(H.get i).live=true):∃j,σ x=some j∧BR P ρ N (H.get i) j:=by obtain⟨q,u,j,h1,o,n⟩:=h.zi i (h.lt _ _ l) hl;rw[l]at h1;cases h1;exact⟨j,o,n⟩
theorem R.set {ρ:br}{σ0:AS}{H:Hp}{σ:AS}(h:R P ρ σ0 H σ) {i x N:Nat}(q:ρ i=some (x,N)) (hl:(H.get i).live=true) {b:v7}{E:cL}(O:BR P ρ N b E):R P ρ σ0 (H.set i b) (σ.set x E):=by
 have o:=h.rb.lt _ _ q;have live:∀ {j},j<32768→((H.set i b).get j).live=true→(H.get j).live=true:=by
  intro j n l;rw[Hp.df o n]at l;split at l
  ·rename_i e;subst e;exact hl
  ·exact l
 have lt:∀ {j},((H.set i b).get j).live=true→ρ j≠none→j<32768:=by
  intro j _ hn;cases n:ρ j with
  |none=>exact absurd n hn
  |some p=>exact h.rb.lt _ _ n
 refine⟨⟨h.rb.lt,fun j n l=> ?_⟩,?_,?_,?_,h.fresh,?_⟩
 ·rw[Hp.df o n]at l⊢;by_cases e:j=i
  ·subst e;rw[if_pos rfl];exact⟨x,N,E,q,by simp,O⟩
  ·rw[if_neg e]at l⊢;obtain⟨y,M,D,k1,J,I⟩:=h.rb.zi j n l;have:y≠x:=by rintro rfl;exact e (h.inj j i _ _ _ l hl k1 q)
   exact⟨y,M,D,k1,by rw[AS.ag _ _ this];exact J,I⟩
 ·intro j k y M S n L v F;exact h.inj j k y M S (live (h.rb.lt _ _ v) n) (live (h.rb.lt _ _ F) L) v F
 ·intro y Q A;have:y≠x:=by rintro rfl;rw[h.out i _ N hl q]at A;cases A
  rw[AS.ag _ _ this];exact h.le y Q A
 ·intro j y M n v;exact h.out j y M (live (h.rb.lt _ _ v) n) v
 ·intro j n u;rw[Hp.df o u];split
  ·rename_i e;subst e;rw[h.fresh j n]at q;cases q
  ·exact h.dead j n u
theorem R.drop {ρ:br}{σ0:AS}{H:Hp}{σ:AS}(h:R P ρ σ0 H σ) {i:Nat}(o:i<32768):R P ρ σ0 (H.set i .z8) σ:=by
 have live:∀ {j},j<32768→((H.set i .z8).get j).live=true→j≠i∧(H.get j).live=true:=by
  intro j n l;rw[Hp.df o n]at l;split at l
  ·cases l
  ·rename_i e;exact⟨e,l⟩
 refine⟨⟨h.rb.lt,fun j n l=> ?_⟩,?_,h.le,?_,h.fresh,?_⟩
 ·obtain⟨e,hl⟩:=live n l;rw[Hp.df o n,if_neg e];exact h.rb.zi j n hl
 ·intro j k y M D n A u v;exact h.inj j k y M D (live (h.rb.lt _ _ u) n).2 (live (h.rb.lt _ _ v) A).2 u v
 ·intro j y M n u;exact h.out j y M (live (h.rb.lt _ _ u) n).2 u
 ·intro j n q;rw[Hp.df o q];split
  ·rfl
  ·exact h.dead j n q
theorem R.P6 {ρ:br}{σ0:AS}{H:Hp}{σ σ':AS}(h:R P ρ σ0 H σ) (hle:AS.le σ0 σ') (u:∀i x N,(H.get i).live=true→ρ i=some (x,N)→σ' x=σ x):R P ρ σ0 H σ':=by refine⟨⟨h.rb.lt,fun j v l=> ?_⟩,h.inj,hle,h.out,h.fresh,h.dead⟩;obtain⟨y,M,n,k1,q,o⟩:=h.rb.zi j v l;exact⟨y,M,n,k1,by rw[u j y M l k1];exact q,o⟩
theorem R.new {ρ:br}{σ0:AS}{H:Hp}{σ:AS}(h:R P ρ σ0 H σ) (F:H.c<32768) {x N:Nat}(I:σ x=none) {b:v7}{T:cL}(Y:BR P (ρ.ext H.c (x,N)) N b T):
 br.le ρ (ρ.ext H.c (x,N))∧R P (ρ.ext H.c (x,N)) σ0 (H.new b) (σ.set x T):=by
 have hf:=h.fresh H.c (Nat.le_refl _);have hle:=br.ou hf (x,N);have old:∀ {j p},j≠H.c→(ρ.ext H.c (x,N)) j=some p→ρ j=some p:=by intro j p e l;unfold br.ext at l;rwa [if_neg e]at l
 have n:∀ {j p},(ρ.ext H.c (x,N)) j=some p→j<32768:=by
  intro j p l;by_cases e:j=H.c
  ·omega
  ·exact h.rb.lt _ _ (old e l)
 have live:∀ {j},j≠H.c→j<32768→((H.new b).get j).live=true→(H.get j).live=true:=by intro j e l q;rw[Hp.o9 F l,if_neg e]at q;exact q
 have apart:∀ {j y M},(H.get j).live=true→ρ j=some (y,M)→y≠x:=by rintro j y M hl o rfl;obtain⟨E,k1,_⟩:=h.rb.at o hl;rw[I]at k1;cases k1
 refine⟨hle,⟨fun i p e=>n e,fun j l q=> ?_⟩,?_,?_,?_,?_,?_⟩
 ·by_cases e:j=H.c
  ·subst e;rw[Hp.o9 F l,if_pos rfl];exact⟨x,N,T,by simp,by simp,Y⟩
  ·have hl:=live e l q;rw[Hp.o9 F l,if_neg e];obtain⟨y,M,E,k1,X,V⟩:=h.rb.zi j l hl;exact⟨y,M,E,hle _ _ k1,by rw[AS.ag _ _ (apart hl k1)];exact X,V.mono hle⟩
 ·intro j k y M Z l U o A;by_cases v:j=H.c<;>by_cases u:k=H.c
  ·rw[v,u]
  ·subst v;have O:=old u A;simp at o;exact absurd o.1.symm (apart (live u (n A) U) O)
  ·subst u;have Q:=old v o;simp at A;exact absurd A.1.symm (apart (live v (n o) l) Q)
  ·exact h.inj j k y M Z (live v (n o) l) (live u (n A) U) (old v o) (old u A)
 ·exact AS.ao h.le (by
  cases J:σ0 x with
  |none=>rfl
  |some S=>have:=h.le x S J;rw[I]at this;cases this)
 ·intro j y M l o;by_cases e:j=H.c
  ·subst e;simp at o;obtain⟨rfl,_⟩:=o;cases J:σ0 x with
   |none=>rfl
   |some S=>have:=h.le x S J;rw[I]at this;cases this
  ·exact h.out j y M (live e (n o) l) (old e o)
 ·intro j l;have L:H.c+1≤j:=l;unfold br.ext;rw[if_neg (by omega)];exact h.fresh j (by omega)
 ·intro j l D;have L:H.c+1≤j:=l;rw[Hp.o9 F D,if_neg (by omega)];exact h.dead j (by omega) D
end Go.AW.Ev
namespace Go.AW.Ev
variable {P:Program}
theorem kq (k:IntKind) (n:Int):su k n=k.wrap n:=by
 unfold su;cases n with
 |ofNat x=>
  simp only;cases j:Nat.ble x (iq k)with
  |false=>rfl
  |true=>have l:x≤iq k:=Nat.le_of_ble_eq_true j;simp only[cond_true];rw[show(Int.ofNat x)=(x:Int) from rfl];cases k<;>simp only[IntKind.wrap,IntKind.bits,IntKind.signed,iq]at* <;>(try simp only[Bool.true_and,Bool.false_and])<;>(try split)<;>rename_i h<;>(try simp at h)<;>omega
 |negSucc x=>
  simp only;cases j:(k.signed&&Nat.ble x (iq k))with
  |false=>rfl
  |true=>simp only[Bool.and_eq_true]at j;have l:x≤iq k:=Nat.le_of_ble_eq_true j.2;have o:=j.1;simp only[cond_true];cases k<;>simp only[IntKind.wrap,IntKind.bits,IntKind.signed,iq,Bool.false_eq_true]at* <;>(try simp only[Bool.true_and,Bool.false_and])<;>(try split)<;>rename_i h<;>(try simp at h)<;>omega
theorem oF (a b:Int):F9 a b=decide (a=b):=by
 cases a<;>cases b<;>simp only[F9]
 ·rename_i x y;by_cases h:x=y
  ·subst h;simp
  ·have:Nat.beq x y=false:=by cases j:Nat.beq x y with|false=>rfl|true=>exact absurd (Nat.eq_of_beq_eq_true j) h
   rw[this];symm;simp;omega
 ·symm;simp
 ·symm;simp
 ·rename_i x y;by_cases h:x=y
  ·subst h;simp
  ·have:Nat.beq x y=false:=by cases j:Nat.beq x y with|false=>rfl|true=>exact absurd (Nat.eq_of_beq_eq_true j) h
   rw[this];symm;simp;omega
theorem dr (x y:Nat):Nat.blt x y=decide (x<y):=by
 cases j:Nat.blt x y with
 |true=>rw[Nat.blt_eq]at j;simp[j]
 |false=>
  have:¬x<y:=fun h=>by rw[←Nat.blt_eq,j]at h;cases h
  simp[this]
theorem rN (a b:Int):LY a b=decide (a<b):=by
 have nn:∀x y:Nat,¬(Int.ofNat x<Int.negSucc y):=fun x y h=>by rw[show(Int.ofNat x)=(x:Int) from rfl,Int.negSucc_eq]at h;omega
 have np:∀x y:Nat,Int.negSucc x<Int.ofNat y:=fun x y=>by rw[show(Int.ofNat y)=(y:Int) from rfl,Int.negSucc_eq];omega
 have pp:∀x y:Nat,(Int.ofNat x<Int.ofNat y)↔x<y:=fun x y=>by rw[show(Int.ofNat x)=(x:Int) from rfl,show(Int.ofNat y)=(y:Int) from rfl];omega
 have j:∀x y:Nat,(Int.negSucc x<Int.negSucc y)↔y<x:=fun x y=>by rw[Int.negSucc_eq,Int.negSucc_eq];omega
 cases a<;>cases b<;>simp only[LY,dr,nn,np,pp,j,decide_false,decide_true]
theorem iR (x y:Nat):Nat.ble x y=decide (x≤y):=by
 cases j:Nat.ble x y with
 |true=>simp[Nat.le_of_ble_eq_true j]
 |false=>
  have:¬x≤y:=fun h=>by rw[Nat.ble_eq_true_of_le h]at j;cases j
  simp[this]
theorem bW (x y:Nat):Nat.beq x y=decide (x=y):=by
 by_cases h:x=y
 ·subst h;simp
 ·have:Nat.beq x y=false:=by cases j:Nat.beq x y with|false=>rfl|true=>exact absurd (Nat.eq_of_beq_eq_true j) h
  simp[this,h]
theorem Cw {a b:IntKind}(h:PG a b=true):a=b:=by cases a<;>cases b<;>first|rfl|cases h
theorem jn (a b:Bool):gN a b=(a==b):=by cases a<;>cases b<;>rfl
theorem Kf (k:IntKind):iq k<2^k.bits:=by cases k<;>decide
theorem kj {k:IntKind}{x:Nat}(h:x≤iq k):(BitVec.ofInt k.bits (Int.ofNat x)).toNat=x:=by have:=Kf k;rw[show(Int.ofNat x)=((x:Nat):Int) from rfl,BitVec.ofInt_natCast,BitVec.toNat_ofNat,Nat.mod_eq_of_lt (by omega)]
theorem Ah (k:IntKind):∃m,iq k+1=2^m:=by cases k<;>first|exact⟨7,rfl⟩|exact⟨15,rfl⟩|exact⟨31,rfl⟩|exact⟨63,rfl⟩|exact⟨8,rfl⟩|exact⟨16,rfl⟩|exact⟨32,rfl⟩|exact⟨64,rfl⟩
theorem uk {k:IntKind}{x:Nat}(h:x≤iq k):k.wrap (x:Int)=Int.ofNat x:=by rw[←kq];show(bif Nat.ble x (iq k)then Int.ofNat x else _)= _;rw[Nat.ble_eq_true_of_le h];rfl
theorem K6 {k:IntKind}{x y:Nat}(j:x≤iq k) (l:y≤iq k):k.wrap (BitVec.ofInt k.bits (Int.ofNat x)&&& BitVec.ofInt k.bits (Int.ofNat y)).toNat=Int.ofNat (Nat.land x y):=by rw[BitVec.toNat_and,kj j,kj l];exact uk (Nat.le_trans Nat.and_le_left j)
theorem MY {k:IntKind}{x y:Nat}(l:x≤iq k) (j:y≤iq k):k.wrap (BitVec.ofInt k.bits (Int.ofNat x)|||BitVec.ofInt k.bits (Int.ofNat y)).toNat=Int.ofNat (Nat.lor x y):=by rw[BitVec.toNat_or,kj l,kj j];obtain⟨m,hm⟩:=Ah k;have:=Nat.or_lt_two_pow (x:=x) (y:=y) (n:=m) (by omega) (by omega);exact uk (by show x|||y≤ _;omega)
theorem Ja {k:IntKind}{x y:Nat}(l:x≤iq k) (j:y≤iq k):k.wrap (BitVec.ofInt k.bits (Int.ofNat x)^^^BitVec.ofInt k.bits (Int.ofNat y)).toNat=Int.ofNat (Nat.xor x y):=by rw[BitVec.toNat_xor,kj l,kj j];obtain⟨m,hm⟩:=Ah k;have:=Nat.xor_lt_two_pow (x:=x) (y:=y) (n:=m) (by omega) (by omega);exact uk (by show x^^^y≤ _;omega)
section arith
variable {ρ:br} {K:AV→Prop}
theorem Nh {op:BinOp}{k:IntKind}{a b:Int}(h0:iS op k a b≠ .any) (h:∀u,VR ρ (iS op k a b) u→K u):eL op k a b fun v=>K (.sc v):=by
 have j:∀ {n:Int},iS op k a b= .int k n→K (.sc (.int k n)):=fun e=>h _ (by rw[e];exact .int _ _);have q:∀ {n:Bool},iS op k a b= .bool n→K (zB n):=fun e=>h _ (by rw[e];exact .bool _);cases op<;>simp only[eL]<;>first|(exact absurd rfl h0)|skip
 case add=>exact j (by simp only[iS,kq];rfl)
 case sub=>exact j (by simp only[iS,kq];rfl)
 case mul=>exact j (by simp only[iS,kq];rfl)
 case quo=>
  by_cases o:b=0
  ·subst o;exact absurd rfl h0
  ·have:F9 b (.ofNat 0)=false:=by rw[oF];simpa using o
   exact⟨o,j (by simp only[iS,this,cond_false,kq])⟩
 case rem=>
  by_cases o:b=0
  ·subst o;exact absurd rfl h0
  ·have:F9 b (.ofNat 0)=false:=by rw[oF];simpa using o
   exact⟨o,j (by simp only[iS,this,cond_false])⟩
 case and=>
  cases a with
  |negSucc x=>exact j rfl
  |ofNat x=>cases b with
   |negSucc y=>exact j rfl
   |ofNat y=>
    refine j ?_;simp only[iS];cases l:(Nat.ble x (iq k)&&Nat.ble y (iq k))with
    |false=>rfl
    |true=>simp only[Bool.and_eq_true]at l;rw[K6 (Nat.le_of_ble_eq_true l.1) (Nat.le_of_ble_eq_true l.2)];rfl
 case or=>
  cases a with
  |negSucc x=>exact j rfl
  |ofNat x=>cases b with
   |negSucc y=>exact j rfl
   |ofNat y=>
    refine j ?_;simp only[iS];cases l:(Nat.ble x (iq k)&&Nat.ble y (iq k))with
    |false=>rfl
    |true=>simp only[Bool.and_eq_true]at l;rw[MY (Nat.le_of_ble_eq_true l.1) (Nat.le_of_ble_eq_true l.2)];rfl
 case xor=>
  cases a with
  |negSucc x=>exact j rfl
  |ofNat x=>cases b with
   |negSucc y=>exact j rfl
   |ofNat y=>
    refine j ?_;simp only[iS];cases l:(Nat.ble x (iq k)&&Nat.ble y (iq k))with
    |false=>rfl
    |true=>simp only[Bool.and_eq_true]at l;rw[Ja (Nat.le_of_ble_eq_true l.1) (Nat.le_of_ble_eq_true l.2)];rfl
 case andNot=>exact j rfl
 case eql=>exact q (by simp only[iS,oF])
 case neq=>exact q (by simp only[iS,oF];simp)
 case lss=>exact q (by simp only[iS,rN])
 case leq=>exact q (by simp only[iS,rN];congr 1;rw[←decide_not];congr 1;simp only[eq_iff_iff];omega)
 case gtr=>exact q (by simp only[iS,rN])
 case geq=>exact q (by simp only[iS,rN];congr 1;rw[←decide_not];congr 1;simp only[eq_iff_iff];omega)
theorem Jx (x m:Nat):(Int.ofNat x).fdiv (2^m)=Int.ofNat (Nat.shiftRight x m):=by
 have h1:Nat.shiftRight x m=x/2^m:=Nat.shiftRight_eq_div_pow x m;rw[h1];have j:((2:Int)^m)=((2^m:Nat):Int):=by push_cast;rfl
 rw[j];show Int.fdiv ((x:Nat):Int) ((2^m:Nat):Int)= _;rw[Int.fdiv_eq_ediv_of_nonneg _ (Int.natCast_nonneg _)];rfl
theorem OJ {op:BinOp}{k:IntKind}{a b:Int}(h0:KY op k a b≠ .any) (h:∀l,VR ρ (KY op k a b) l→K l):s7 op k a b fun v=>K (.sc v):=by
 have j:∀ {n:Int},KY op k a b= .int k n→K (.sc (.int k n)):=fun e=>h _ (by rw[e];exact .int _ _);cases b with
 |negSucc n=>cases op<;>exact absurd rfl h0
 |ofNat n=>
  cases op<;>simp only[s7]<;>first|(exact absurd rfl h0)|skip
  case shl=>exact⟨by simp,j rfl⟩
  case shr=>
   refine⟨by simp,j ?_⟩;cases a with
   |negSucc x=>rfl
   |ofNat x=>show EV.int k (.ofNat (Nat.shiftRight x (Nat.min n k.bits)))= _;rw[←Jx];rfl
theorem My {op:BinOp}{a b:ByteArray}(h0:GC op a b≠ .any) (h:∀l,VR ρ (GC op a b) l→K l):pD op a b fun v=>K (.sc v):=by
 cases op<;>simp only[pD]<;>first|(exact absurd rfl h0)|skip
 case add=>
  simp only[GC]at h h0;cases j:Nat.ble (Nat.add a.size b.size) 9223372036854775807 with
  |false=>rw[j]at h0;exact absurd rfl h0
  |true=>rw[j]at h;exact⟨Nat.le_of_ble_eq_true j,h _ (.sc _)⟩
 case eql=>exact h _ (.bool _)
 case neq=>exact h _ (by simp only[GC,KK];rw[show(decide (a.data.toList≠b.data.toList))= !decide (a.data.toList=b.data.toList) from by simp];exact .bool _)
theorem Kb {t:TypeId}{x:EV}{j:AV}{r:Bool}(l:VR ρ x j) (h:rQ P t x=some r):isNil P t j=some r:=by
 cases l<;>simp only[rQ]at h<;>first|(cases h;done)|skip
 all_goals first|exact h|(simp only[isNil];exact h)|skip
 case sc v=>
  cases v<;>first|(cases h;done)|skip
  case pointer a=>cases a<;>first|(cases h;done)|exact h
  case map a=>cases a<;>first|(cases h;done)|exact h
  case nilFunc=>exact h
theorem Ka {t:TypeId}{x:EV}{j:AV}(l:VR ρ x j) (h:yC P t x=true):oz P t j=true:=by
 cases l<;>simp only[yC]at h<;>first|(cases h;done)|exact h|skip
 case sc v=>
  cases v<;>first|(cases h;done)|exact h|skip
  case pointer a=>cases a<;>first|(cases h;done)|exact h
  case map a=>cases a<;>first|(cases h;done)|exact h
theorem FB {op:BinOp}{t:TypeId}{x y:EV}{n l:AV}(u:VR ρ x n) (q:VR ρ y l) (h0:kc P op t x y≠ .any) (h:∀o,VR ρ (kc P op t x y) o→K o):cZ P op t n l K:=by
 unfold kc at h h0;unfold cZ;by_cases h1:yC P t y=true
 ·rw[if_pos h1]at h h0;rw[if_pos (Ka q h1)];cases j:rQ P t x with
  |none=>rw[j]at h0;exact absurd rfl h0
  |some r=>rw[j]at h h0;rw[Kb u j];cases op<;>simp only at h h0⊢ <;>first|exact absurd rfl h0|exact h _ (.bool _)
 ·rw[if_neg h1]at h0;exact absurd rfl h0
theorem mw {n off:Nat}{cs l:List EV}(h:kB (.agg n) cs off= .agg l):n≠0∧off+n≤cs.length∧l=(cs.drop off).take n:=by
 unfold kB at h;cases n with
 |zero=>cases h
 |succ m=>
  simp only at h;cases ht:iG (kG cs off) (m+1)with
  |none=>rw[ht]at h;cases h
  |some o=>rw[ht]at h;cases h;obtain⟨h1,j⟩:=ju _ _ _ ht;rw[ga]at h1 j;rw[List.length_drop]at h1;exact⟨by omega,by omega,j⟩
theorem kl {n off:Nat}{cs:List EV}(h:kB (.agg n) cs off≠ .any):∃l,kB (.agg n) cs off= .agg l:=by
 unfold kB at h⊢;cases n with
 |zero=>exact absurd rfl h
 |succ m=>
  simp only at h⊢;cases ht:iG (kG cs off) (m+1)with
  |none=>rw[ht]at h;exact absurd rfl h
  |some j=>exact⟨j,rfl⟩
theorem pc {cs:List EV}{n:Nat}(h:cs.getD n .any≠ .any):n<cs.length:=by
 rcases Nat.lt_or_ge n cs.length with h1|h1
 ·exact h1
 ·rw[List.getD_eq_getElem?_getD,List.getElem?_eq_none h1]at h;exact absurd rfl h
theorem KJ (d:Nat) (t:TypeId) (y:EV):Bp P d t .any y=none:=by cases d<;>rfl
theorem Ij (d:Nat) (t:TypeId) (x:EV):Bp P d t x .any=none:=by
 cases d with
 |zero=>rfl
 |succ d=>cases x<;>first|rfl|(rename_i v;cases v<;>rfl)
theorem Nw:∀(d:Nat) (t:TypeId) {x y:EV}{M L:AV}{r:Bool},VR ρ x M→VR ρ y L→Bp P d t x y=some r→gP P d t M L=some r:=by
 intro d;induction d with
 |zero=>intro t x y M L r _ _ h;cases h
 |succ d U=>
  intro t x y M L r hx F h;have D:∀(fs:List Field) {xs u:List EV} {as J:List AV} {r:Bool},VL ρ xs as→VL ρ u J→AH P (Bp P d) fs xs u=some r→ng P d fs as J=some r:=by
   intro fs;induction fs with
   |nil=>intro xs u as J r _ _ h;simpa[AH,ng]using h
   |cons f fs E=>
    intro xs u as J r o j h;unfold AH at h;unfold ng;by_cases hn:f.name= "_"
    ·rw[if_pos hn]at h;cases h
    ·rw[if_neg hn]at h⊢;cases hl:fC P f.type with
     |bad=>rw[hl]at h;cases h
     |one=>
      rw[hl]at h;simp only[pa]at h;simp only;cases h1:Bp P d f.type (xs.getD f.offset .any) (u.getD f.offset .any)with
      |none=>rw[h1]at h;cases h
      |some q=>
       cases A:AH P (Bp P d) fs xs u with
       |none=>rw[h1,A]at h;cases h
       |some Z=>rw[h1,A]at h;have l1:f.offset<xs.length:=pc (fun e=>by rw[e,KJ]at h1;cases h1);have l2:f.offset<u.length:=pc (fun e=>by rw[e,Ij]at h1;cases h1);rw[if_pos ⟨by rw[←o.len];exact l1,by rw[←j.len];exact l2⟩,U _ (o.get _) (j.get _) h1,E o j A];exact h
     |agg n=>
      rw[hl]at h;simp only at h⊢;by_cases S:kB (.agg n) xs f.offset= .any
      ·rw[S]at h;cases h
      by_cases V:kB (.agg n) u f.offset= .any
      ·obtain⟨l,I⟩:=kl S;rw[I,V]at h;cases h
      obtain⟨l,I⟩:=kl S;obtain⟨T,X⟩:=kl V;rw[I,X]at h;simp only at h;obtain⟨a1,a2,rfl⟩:=mw I;obtain⟨b1,b2,rfl⟩:=mw X;cases h1:Bp P d f.type (.agg ((xs.drop f.offset).take n)) (.agg ((u.drop f.offset).take n))with
      |none=>rw[h1]at h;cases h
      |some q=>
       cases A:AH P (Bp P d) fs xs u with
       |none=>rw[h1,A]at h;cases h
       |some Z=>rw[h1,A]at h;rw[if_pos ⟨a1,by rw[←o.len];exact a2,by rw[←j.len];exact b2⟩,U _ (.y7 ((o.drop _).take _)) (.y7 ((j.drop _).take _)) h1,E o j A];exact h
  cases hx with
  |int k a=>
   cases F<;>simp only[Bp]at h<;>first|(cases h;done)|skip
   case int k' b=>
    simp only[gP];split at h
    ·rename_i k0 hu;rw[hu];simp only;split at h
     ·rename_i hk;have:=Cw hk;subst this;rw[if_pos rfl,←oF];exact h
     ·cases h
    ·cases h
  |bool a=>
   cases F<;>simp only[Bp]at h<;>first|(cases h;done)|skip
   case bool b=>
    simp only[gP];split at h
    ·rename_i hu;rw[hu];rw[jn]at h;exact h
    ·cases h
  |sc v=>
   cases v<;>first|(cases h;done)|skip
   case string a=>
    cases F<;>first|(cases h;done)|skip
    case sc Y=>
     cases Y<;>first|(cases h;done)|skip
     case string b=>
      simp only[Bp]at h;simp only[gP];split at h
      ·rename_i hu;rw[hu];exact h
      ·cases h
  |agg l hl=>
   have o:=VL.of l hl;cases F<;>simp only[Bp]at h<;>first|(cases h;done)|skip
   case agg T Q=>
    have j:=VL.of T Q;simp only[gP];split at h
    ·rename_i fs hu;rw[hu];simp only;split at h
     ·cases h
     ·rename_i O;rw[if_neg O];exact D _ o j h
    ·cases h
  | _ =>simp only[Bp]at h;cases h
theorem NG {op:BinOp}{t:TypeId}{x y:EV}{A u:AV}(J:VR ρ x A) (D:VR ρ y u) (h0:tm P op (gm op) t x y≠ .any) (h:∀E,VR ρ (tm P op (gm op) t x y) E→K E):eX P op t A u K:=by
 have nil:∀ {x:EV},VR ρ x A→tm P op (gm op) t x y=kc P op t x y→(cZ P op t A u K→eX P op t A u K)→tm P op (gm op) t x y≠ .any→(∀E,VR ρ (tm P op (gm op) t x y) E→K E)→eX P op t A u K:=by intro x J e L h0 h;rw[e]at h h0;exact L (FB J D h0 h)
 cases J with
 |int k a=>
  cases D<;>simp only[tm]at h h0<;>first|exact absurd rfl h0|skip
  case int k' b=>
   simp only[eX];cases Q:gm op with
   |true=>rw[Q]at h h0;exact OJ h0 h
   |false=>
    rw[Q]at h h0;cases q:PG k k' with
    |false=>rw[q]at h0;exact absurd rfl h0
    |true=>rw[q]at h h0;exact⟨Cw q,Nh h0 h⟩
 |bool a=>
  cases D<;>simp only[tm]at h h0<;>first|exact absurd rfl h0|skip
  case bool b=>
   simp only[eX];split at h
   ·rename_i hu;rw[hu];simp only;rw[jn]at h;exact h _ (.bool _)
   ·rename_i hu;rw[hu];simp only;rw[jn]at h;exact h _ (.bool _)
   ·rename_i h1 Z;split at h0
    ·rename_i hu;exact(h1 hu rfl).elim
    ·rename_i hu;exact(Z hu rfl).elim
    ·exact absurd rfl h0
 |agg l hl=>
  have I:=VL.of l hl;cases D<;>simp only[tm]at h h0<;>first|exact absurd rfl h0|skip
  case agg V M=>
   have F:=VL.of V M;simp only[eX];rename_i cs as cs' ab;cases he:Bp P 8 t (.agg cs) (.agg cs')with
   |none=>rw[he]at h0;exact absurd rfl h0
   |some r=>
    rw[he]at h h0;rw[Nw 8 t (.y7 I) (.y7 F) he];cases O:P.eqGuardType P.depth t with
    |true=>rw[O]at h0;cases op<;>exact absurd rfl h0
    |false=>rw[O]at h h0;cases op<;>simp only at h h0⊢ <;>first|exact absurd rfl h0|exact⟨O,h _ (.bool _)⟩|exact⟨trivial,h _ (.bool _)⟩|exact⟨rfl,h _ (.bool _)⟩
 |sc v=>
  by_cases n:∃a,v= .string a
  ·obtain⟨a,rfl⟩:=n;cases D<;>simp only[tm]at h h0<;>first|exact absurd rfl h0|skip
   case sc S=>
    cases S<;>simp only at h h0<;>first|exact absurd rfl h0|skip
    case string b=>simp only[eX];exact My h0 h
  ·have e:tm P op (gm op) t (.sc v) y=kc P op t (.sc v) y:=by cases v<;>first|rfl|exact absurd ⟨_,rfl⟩ n
   have key:rQ P t (.sc v)=none∨(cZ P op t (.sc v) u K→eX P op t (.sc v) u K):=by cases v<;>first|exact .inl rfl|exact .inr (fun j=>j)|exact absurd ⟨_,rfl⟩ n
   rcases key with q|q
   ·rw[e]at h0;exfalso;apply h0;unfold kc;rw[q];split<;>rfl
   ·exact nil (.sc v) e q h0 h
 |any a=>exact absurd (by simp only[tm,kc,rQ];split<;>rfl) h0
 |aC=>exact nil .aC rfl (fun j=>j) h0 h
 |ptr off o=>exact nil (.ptr off o) rfl (fun j=>j) h0 h
 |we off len c o=>exact nil (.we off len c o) rfl (fun j=>j) h0 h
 |xW off len c o hl=>exact nil (.xW off len c o hl) rfl (fun j=>j) h0 h
 |ah full l hl=>exact nil (.ah full l hl) rfl (fun j=>j) h0 h
 |mp o=>exact nil (.mp o) rfl (fun j=>j) h0 h
 |Cq f=>exact nil (.Cq f) rfl (fun j=>j) h0 h
 |fn U ha T Y=>exact nil (.fn U ha T Y) rfl (fun j=>j) h0 h
 |lq t X=>exact nil (.lq t X) rfl (fun j=>j) h0 h
 |cp l hl=>exact nil (.cp l hl) rfl (fun j=>j) h0 h
theorem OB {op:UnOp}{x:EV}{j:AV}(o:VR ρ x j) (h0:Q1 op x≠ .any) (h:∀l,VR ρ (Q1 op x) l→K l):Lc op j K:=by
 cases o<;>cases op<;>simp only[Q1]at h h0<;>first|exact absurd rfl h0|skip
 ·rename_i k n;simp only[Lc];refine h _ ?_;rw[kq,show(0-n)=Int.neg n from by show 0-n= -n;omega];exact .int _ _
 ·exact h _ (.int _ _)
 ·exact h _ (.bool _)
end arith
end Go.AW.Ev
namespace Go.AW.Ev
variable {P:Program}
section mem
variable {ρ:br} {K:AV→Prop} {σ:AS} {H:Hp}
theorem oQ {as j:List AV}{n:Nat}(h:n<as.length):(as++j).getD n .any=as.getD n .any:=by rw[List.getD_eq_getElem?_getD,List.getElem?_append_left h,←List.getD_eq_getElem?_getD]
theorem A4 {as j:List AV}{off n:Nat}(h:off+n≤as.length):((as++j).drop off).take n=(as.drop off).take n:=by rw[List.drop_append_of_le_length (by omega),List.take_append_of_le_length (by rw[List.length_drop];omega)]
theorem DB {t:TypeId}{x:EV}{y:AV}(F:VR ρ x y) (J:RB P ρ H σ) (h0:sR (fC P t) x H≠ .any) (h:∀A,VR ρ (sR (fC P t) x H) A→K A):ew P σ t y K:=by
 cases F with
 |ptr off I=>
  rename_i i a N;simp only[sR]at h h0;cases q:H.get i with
  |cells ty cs full=>
   rw[q]at h h0;obtain⟨L,h1,v⟩:=J.at I (by rw[q];rfl);rw[q]at v;obtain⟨as,D,rfl,j,_⟩:=v;unfold ew;cases hl:fC P t with
   |bad=>rw[hl]at h0;exact absurd rfl h0
   |one=>rw[hl]at h h0;simp only[kB,pa]at h h0;have u:=pc h0;simp only[h1];refine⟨by rw[List.length_append,←j.len];omega,?_⟩;rw[oQ (by rw[←j.len];exact u)];exact h _ (j.get off)
   |agg n=>rw[hl]at h h0;simp only at h h0;obtain⟨l,o⟩:=kl h0;obtain⟨k1,E,rfl⟩:=mw o;rw[o]at h;simp only[h1];refine⟨k1,by rw[List.length_append,←j.len];omega,?_⟩;rw[A4 (by rw[←j.len];exact E)];exact h _ (.y7 ((j.drop _).take _))
  | _ =>rw[q]at h0;exact absurd rfl h0
 | _ =>exact absurd rfl h0
theorem GD {σ0:AS}{t:TypeId}{x v r:EV}{E o:AV}{H':Hp}{K:AS→Prop}(J:VR ρ x E) (L:VR ρ v o) (A:R P ρ σ0 H σ) (h0:vz (P.cellsOf t) x v H= .ok r H') (h:∀σ',R P ρ σ0 H' σ'→K σ'):
 oR P σ t E o K∧r= .any∧H'.c=H.c:=by
 cases J with
 |ptr off y=>
  rename_i i a N;simp only[vz]at h0;cases l:H.get i with
  |cells ty cs full=>
   rw[l]at h0;simp only at h0;cases n:(v.laid&&jI v.cells (P.cellsOf t)&& !Nat.beq (P.cellsOf t) 0)with
   |false=>rw[n]at h0;cases h0
   |true=>
    rw[n]at h0;simp only[cond_true]at h0;simp only[Bool.and_eq_true,Bool.not_eq_true',m0,bW,decide_eq_false_iff_not]at n;obtain⟨⟨S,V⟩,Q⟩:=n;cases j:rG cs off v.cells with
    |none=>rw[j]at h0;cases h0
    |some cs'=>
     rw[j]at h0;simp only[lW.ok.injEq]at h0;obtain⟨rfl,rfl⟩:=h0;obtain⟨T,rfl⟩:=qy _ _ _ _ j;obtain⟨X,h1,D⟩:=A.rb.at y (by rw[l];rfl);rw[l]at D;obtain⟨as,q,rfl,u,O,M⟩:=D;obtain⟨v1,v2,F⟩:=L.cells S;have I:=v1.len;have U:=u.len;refine⟨?_,rfl,rfl⟩;unfold oR;simp only[h1];refine⟨v2,F,by omega,Q,by rw[List.length_append];omega,h _ (A.set y (by rw[l];rfl) ?_)⟩;refine⟨as.take off++o.cells++as.drop (off+o.cells.length),q,?_,?_,O,fun hf=> ?_⟩
     ·rw[List.take_append_of_le_length (by omega),List.drop_append_of_le_length (by omega)];simp only[List.append_assoc]
     ·rw[←I];exact((u.take _).app v1).app (u.drop _)
     ·rw[←M hf];simp;omega
  | _ =>rw[l]at h0;cases h0
 | _ =>cases h0
def PI (ρ:br):List (Nat×EV)→List (Nat×AV)→Prop
 |[],[]=>True
 |p::ps,q::j=>p.1=q.1∧VR ρ p.2 q.2∧PI ρ ps j
 | _,_ =>False
theorem PI.of {F:Fr}{s:AW.Fr} :∀ {l:List (Nat×Operand)},(∀p∈l,XR ρ F s p.2)→PI ρ (parts l F) (l.map fun p=>(p.1,ev s p.2))
 |[],_ =>trivial
 |p::r,h=>⟨rfl,h p (by simp),PI.of fun q j=>h q (by simp[j])⟩
theorem VL.mW {F:Fr}{s:AW.Fr} :∀ {l:List Operand},(∀x∈l,XR ρ F s x)→VL ρ (mW l F) (l.map (ev s))
 |[],_ => .nil
 |x::r,h=> .cons (h x (by simp)) (VL.mW fun q j=>h q (by simp[j]))
theorem ml {t:TypeId} :∀ {ps:List (Nat×EV)}{D:List (Nat×AV)}{cs:List EV}{as:List AV},PI ρ ps D→VL ρ cs as→qa P t cs ps≠ .any→(∀I,VR ρ (qa P t cs ps) I→K I)→jO P t as D fun cs=>K (.agg cs)
 |[],[],cs,as,_,A,_,h=>h _ (.y7 A)
 |[],_ :: _,_,_,u,_,_,_ =>u.elim
 | _ :: _,[],_,_,u,_,_,_ =>u.elim
 |(i,v)::ps,(j,a)::D,cs,as,u,A,h0,h=>by
  obtain⟨rfl,M,u⟩:=u;simp only[qa]at h h0;simp only[jO];cases y:aB P t i with
  |none=>rw[y]at h0;exact absurd rfl h0
  |some q=>
   obtain⟨off,n⟩:=q;rw[y]at h h0;simp only at h h0⊢;cases o:(v.laid&&jI v.cells n&& !Nat.beq n 0)with
   |false=>rw[o]at h0;exact absurd rfl h0
   |true=>
    rw[o]at h h0;simp only[Bool.and_eq_true,Bool.not_eq_true',m0,bW,decide_eq_false_iff_not]at o;obtain⟨⟨Q,F⟩,O⟩:=o;simp only[cond_true]at h h0;cases l:rG cs off v.cells with
    |none=>rw[l]at h0;exact absurd rfl h0
    |some cs'=>rw[l]at h h0;simp only at h h0;obtain⟨J,rfl⟩:=qy _ _ _ _ l;obtain⟨v1,v2,S⟩:=M.cells Q;have E:=v1.len;have L:=A.len;refine⟨v2,by rw[←E];exact F,O,by rw[←L,←F];exact J,ml u ?_ h0 h⟩;unfold lG;rw[←E];exact((A.take _).app v1).app (A.drop _)
theorem lh {v:EV}{a:AV}(h:VR ρ v a) (hl:v.laid=true):a.laid=true:=by obtain⟨_,l,j⟩:=h.cells hl;show(a.Dv&&a.cells.all AV.one)=true;rw[l,j];rfl
theorem IF {t:TypeId}{ps:List (Nat×EV)}{j:List (Nat×AV)}(o:PI ρ ps j) (q:cE P t=true) (l:(zeroV P t).laid=true) (h0:qa P t (zeroV P t).cells ps≠ .any) (h:∀n,VR ρ (qa P t (zeroV P t).cells ps) n→K n):oS P t j K:=
 ⟨q,lh (VR.zero ρ t) l,ml o ((VR.zero ρ t).cells l).1 h0 h⟩
theorem yK {t f:Nat}{x:EV}{l:AV}{fs:Array Field}(hu:P.underlying t=some (.struct fs)) (v:VR ρ x l) (h0:kF (aB P t f) x≠ .any) (h:∀u,VR ρ (kF (aB P t f) x) u→K u):dR P t l f K:=by
 cases v with
 |ptr off y=>
  simp only[kF]at h h0;unfold dR;cases j:aB P t f with
  |none=>rw[j]at h0;exact absurd rfl h0
  |some q=>
   obtain⟨o,n⟩:=q;rw[j]at h h0;simp only[bW]at h h0;rw[hu];by_cases hn:n=0
   ·rw[hn]at h0;exact absurd rfl h0
   ·simp only[hn,decide_false,cond_false]at h;exact⟨hn,h _ (.ptr _ y)⟩
 | _ =>exact absurd (by unfold kF;split<;>first|rfl|simp_all) h0
theorem qS {t f:Nat}{x:EV}{v:AV}(E:VR ρ x v) (h0:yO (p9 P t f) x≠ .any) (h:∀y,VR ρ (yO (p9 P t f) x) y→K y):kM P t v f K:=by
 unfold yO at h h0;unfold kM;cases hf:p9 P t f with
 |none=>rw[hf]at h0;exact absurd rfl h0
 |some q=>
  obtain⟨o,A⟩:=q;rw[hf]at h h0;cases E with
  |agg l hl=>
   have u:=VL.of l hl;simp only at h h0⊢;cases A with
   |bad=>exact absurd rfl h0
   |one=>simp only[kB,pa]at h h0;exact⟨by rw[←u.len];exact pc h0,h _ (u.get o)⟩
   |agg n=>obtain⟨F,j⟩:=kl h0;obtain⟨k1,D,rfl⟩:=mw j;rw[j]at h;exact⟨k1,by rw[←u.len];exact D,h _ (.y7 ((u.drop _).take _))⟩
  | _ =>exact absurd rfl h0
theorem yD {t:Nat}{e:TypeId}{x i:EV}{o u:AV}(hu:P.underlying t=some (.slice e)) (D:P.cellsOf e≠0) (v:VR ρ x o) (A:VR ρ i u) (h0:nh (P.cellsOf e) x i≠ .any) (h:∀q,VR ρ (nh (P.cellsOf e) x i) q→K q):cM P t o u K:=by
 have y:bC P t=some e:=by simp[bC,hu]
 cases A with
 |int k n=>
  cases n with
  |negSucc n=>exact absurd rfl h0
  |ofNat n=>
   have go:∀ {j off len cap: _},x= .sl j off len cap→ ∀ {a N c:Nat},ρ j=some (a,N)→o= .dg a off len c→cM P t o (.sc (.int k (Int.ofNat n))) K:=by
    rintro j off len cap rfl a N c l rfl;simp only[nh,dr]at h h0;by_cases hl:n<len
    ·simp only[hl,decide_true,cond_true]at h;unfold cM;simp only[y];exact⟨D,by simp,by simpa using hl,h _ (.ptr _ l)⟩
    ·simp only[hl,decide_false]at h0;exact absurd rfl h0
   cases v with
   |we off len c l=>exact go rfl l rfl
   |xW off len d l hl=>exact go rfl l rfl
   | _ =>exact absurd rfl h0
 | _ =>exact absurd rfl h0
theorem Ar {t m:Nat}{e:TypeId}{x i:EV}{j o:AV}(hu:P.underlying t=some (.array m e)) (A:P.cellsOf e≠0) (q:VR ρ x j) (y:VR ρ i o) (h0:pj m (P.cellsOf e) x i≠ .any) (h:∀l,VR ρ (pj m (P.cellsOf e) x i) l→K l):cM P t j o K:=by
 have u:oP P t=some (m,e):=by simp[oP,hu]
 cases y with
 |int k n=>
  cases n with
  |negSucc n=>exact absurd rfl h0
  |ofNat n=>
   cases q with
   |ptr off v=>
    simp only[pj,dr]at h h0;by_cases hl:n<m
    ·simp only[hl,decide_true,cond_true]at h;unfold cM;simp only[u];exact⟨A,by simp,by simpa using hl,h _ (.ptr _ v)⟩
    ·simp only[hl,decide_false]at h0;exact absurd rfl h0
   | _ =>exact absurd rfl h0
 | _ =>exact absurd rfl h0
theorem vn {t m:Nat}{e:TypeId}{x i:EV}{y D:AV}(hu:P.underlying t=some (.array m e)) (F:VR ρ x y) (J:VR ρ i D) (h0:yN m (fC P e) (P.cellsOf e) x i≠ .any) (h:∀A,VR ρ (yN m (fC P e) (P.cellsOf e) x i) A→K A):jP P t y D K:=by
 have I:oP P t=some (m,e):=by simp[oP,hu]
 unfold yN at h h0;cases F with
 |agg l hl=>
  have v:=VL.of l hl;cases J with
  |int k n=>
   cases n with
   |negSucc n=>exact absurd rfl h0
   |ofNat n=>
    simp only[dr]at h h0;by_cases o:n<m
    ·simp only[o,decide_true,cond_true]at h h0;unfold jP;simp only[I];have hmul:Nat.mul n (P.cellsOf e)=n*P.cellsOf e:=rfl;rw[hmul]at h h0;cases j:fC P e with
     |bad=>rw[j]at h0;exact absurd rfl h0
     |one=>have h1:P.cellsOf e=1:=(qI (w:=default) j).2;rw[j,h1,Nat.mul_one]at h h0;simp only[kB,pa]at h h0;exact⟨by simp,by simpa using o,by simpa[←v.len]using pc h0,by simpa using h _ (v.get n)⟩
     |agg q=>have h1:P.cellsOf e=q:=(qJ (w:=default) j).2;rw[j,h1]at h h0;obtain⟨L,u⟩:=kl h0;obtain⟨k1,E,rfl⟩:=mw u;rw[u]at h;exact⟨k1,by simp,by simpa using o,by simpa[←v.len]using E,by simpa using h _ (.y7 ((v.drop _).take _))⟩
    ·simp only[o,decide_false]at h0;exact absurd rfl h0
  | _ =>exact absurd rfl h0
 | _ =>exact absurd rfl h0
theorem E9 {t:Nat}{x i:EV}{l q:AV}(hu:P.underlying t=some .string) (u:VR ρ x l) (y:VR ρ i q) (h0:uc x i≠ .any) (h:∀o,VR ρ (uc x i) o→K o):jP P t l q K:=by
 cases u with
 |sc v=>
  cases v<;>first|exact absurd rfl h0|skip
  case string s=>
   cases y with
   |int k n=>
    cases n with
    |negSucc n=>exact absurd rfl h0
    |ofNat n=>
     simp only[uc,dr]at h h0;by_cases j:n<s.size
     ·simp only[j,decide_true,cond_true]at h;exact⟨hu,by simp,by simpa using j,h _ (.int _ _)⟩
     ·simp only[j,decide_false]at h0;exact absurd rfl h0
   | _ =>exact absurd rfl h0
 | _ =>exact absurd rfl h0
theorem Cs {x:EV}{n:AV}{i:Nat}(q:VR ρ x n) (h0:qV x i≠ .any) (h:∀o,VR ρ (qV x i) o→K o):jB n i K:=by
 cases q with
 |cp l hl=>have j:=VL.of l hl;simp only[qV,pa]at h h0;exact⟨by rw[←j.len];exact pc h0,h _ (j.get i)⟩
 | _ =>exact absurd rfl h0
theorem Aa {x:EV}{l:AV}(u:VR ρ x l) (h0:rY x≠ .any) (h:∀n,VR ρ (rY x) n→K n):gw l K:=by
 cases u with
 |ptr off j=>exact h _ (.ptr off j)
 |mp j=>exact h _ (.mp j)
 |Cq f=>exact h _ (.Cq f)
 |fn q ha o y=>exact h _ (.fn q ha o y)
 |lq t v=>exact h _ (.lq t v)
 | _ =>exact absurd rfl h0
theorem IA {src dst:TypeId}{k0 k:IntKind}{x:EV}{j:AV}(q:P.underlying src=some (.int k0)) (u:P.underlying dst=some (.int k)) (o:VR ρ x j) (h0:DT k x≠ .any) (h:∀l,VR ρ (DT k x) l→K l):cU P src dst j K:=by
 cases o with
 |int k' n=>simp only[cU,q,u];refine h _ ?_;simp only[DT,kq];exact .int _ _
 | _ =>exact absurd rfl h0
theorem Iy {src dst:TypeId}{x:EV}{j:AV}(o:P.underlying src=some .string) (q:P.underlying dst=some .string) (n:VR ρ x j) (h0:Iz x≠ .any) (h:∀l,VR ρ (Iz x) l→K l):cU P src dst j K:=by
 cases n with
 |sc v=>
  cases v<;>first|exact absurd rfl h0|skip
  case string s=>simp only[cU,o,q];exact h _ (.sc _)
 | _ =>exact absurd rfl h0
theorem Bw:∀(l:zY),VL ρ (OC l) (l.map u8)
 |[]=> .nil
 |b::r=> .cons (.int _ _) (Bw r)
theorem xP {e:TypeId}(h:zo P e=true):P.underlying e=some (.int .u8)∧P.cellsOf e=1:=by
 unfold zo at h;split at h
 ·rename_i hu;exact⟨hu,Nat.eq_of_beq_eq_true h⟩
 ·cases h
theorem Fy {src dst e:TypeId}{x:EV}{j:AV}(o:P.underlying src=some .string) (q:P.underlying dst=some (.slice e)) (he:zo P e=true) (n:VR ρ x j) (h0:yR e x≠ .any) (h:∀l,VR ρ (yR e x) l→K l):cU P src dst j K:=by
 cases n with
 |sc v=>
  cases v<;>first|exact absurd rfl h0|skip
  case string s=>
   simp only[yR,iR]at h h0;by_cases hl:s.size≤140737488355328
   ·simp only[hl,decide_true,cond_true]at h;obtain⟨y,u⟩:=xP he;simp only[cU,o,q];exact⟨y,u,hl,h _ (VR.te false (Bw _))⟩
   ·simp only[hl,decide_false]at h0;exact absurd rfl h0
 | _ =>exact absurd rfl h0
theorem Kk {t e:TypeId}{x:EV}{j:AV}(hu:P.underlying t=some (.slice e)) (o:VR ρ x j) (h0:Kl x≠ .any) (h:∀n,VR ρ (Kl x) n→K n):iE P σ t j K:=by
 unfold iE;rw[hu];cases o with
 |aC=>exact h _ (.int _ _)
 |we off len c q=>exact h _ (.int _ _)
 |xW off len d q hl=>exact h _ (.int _ _)
 |ah full l hl=>refine h _ ?_;simp only[Kl,l];exact .int _ _
 | _ =>exact absurd rfl h0
theorem Kj {t:TypeId}{x:EV}{j:AV}(hu:P.underlying t=some .string) (n:VR ρ x j) (h0:Nb x≠ .any) (h:∀l,VR ρ (Nb x) l→K l):iE P σ t j K:=by
 unfold iE;rw[hu];cases n with
 |sc v=>
  cases v<;>first|exact absurd rfl h0|skip
  case string s=>exact h _ (.int _ _)
 | _ =>exact absurd rfl h0
theorem PL.len:∀ {es:List (EV×EV)}{as:List (AV×AV)},PL ρ es as→es.length=as.length
 |[],[],_ =>rfl
 | _ :: _,_ :: _,h=>by simp[PL.len h.2.2]
 |[],_ :: _,h=>h.elim
 | _ :: _,[],h=>h.elim
theorem RB.map {j a N:Nat}{es:List (EV×EV)}(u:RB P ρ H σ) (q:ρ j=some (a,N)) (n:H.get j= .map es):∃as,σ a=some (.map as)∧PL ρ es as∧((∃l,as=cx l)∨ ∃l,as=dz l):=by obtain⟨A,h1,o⟩:=u.at q (by rw[n];rfl);rw[n]at o;obtain⟨as,rfl,y,v⟩:=o;exact⟨as,h1,y,v⟩
theorem Km {t k v:TypeId}{x:EV}{l:AV}(hu:P.underlying t=some (.map k v)) (o:VR ρ x l) (u:RB P ρ H σ) (h0:Kn x H≠ .any) (h:∀n,VR ρ (Kn x H) n→K n):iE P σ t l K:=by
 unfold iE;rw[hu];cases o with
 |mp q=>
  rename_i i a N;simp only[Kn]at h h0;cases j:H.get i with
  |map es=>rw[j]at h;obtain⟨as,h1,y,_⟩:=u.map q j;simp only[h1];refine h _ ?_;simp only[y.len];exact .int _ _
  | _ =>rw[j]at h0;exact absurd rfl h0
 |sc v=>
  cases v<;>first|exact absurd rfl h0|skip
  case map r=>
   cases r with
   |none=>exact h _ (.int _ _)
   |some r=>exact absurd rfl h0
 | _ =>exact absurd rfl h0
theorem II {x:Option EV}{j:Option AV}(o:(x=none∧j=none)∨ ∃v a,x=some v∧j=some a∧VR ρ v a) {d k:Nat}(h:cQ x d=some k) {Q:Nat→Prop}(l:Q k):iX j d Q:=by
 rcases o with⟨rfl,rfl⟩|⟨v,a,rfl,rfl,q⟩
 ·simp only[cQ,Option.some.injEq]at h;subst h;exact l
 ·cases q with
  |int k' n=>
   cases n with
   |negSucc n=>cases h
   |ofNat n=>simp only[cQ,Option.some.injEq]at h;subst h;exact⟨by simp,l⟩
  | _ =>cases h
theorem Er {t:TypeId}{x:EV}{D:AV}{lo o:Option EV}{j n:Option AV}(hu:P.underlying t=some .string) (F:VR ρ x D) (q:(lo=none∧j=none)∨ ∃v a,lo=some v∧j=some a∧VR ρ v a)
 (u:(o=none∧n=none)∨ ∃v a,o=some v∧n=some a∧VR ρ v a) (h0:tZ x lo o≠ .any) (h:∀E,VR ρ (tZ x lo o) E→K E):fQ P t D j n none K:=by
 cases F with
 |sc v=>
  cases v<;>first|exact absurd rfl h0|skip
  case string s=>
   simp only[tZ]at h h0;cases h1:cQ o s.size with
   |none=>rw[h1]at h0;exact absurd rfl h0
   |some b=>
    cases A:cQ lo 0 with
    |none=>rw[h1,A]at h0;exact absurd rfl h0
    |some l=>
     rw[h1,A]at h h0;simp only[iR]at h h0;by_cases y:b≤s.size
     ·by_cases hl:l≤b
      ·simp only[y,hl,decide_true,Bool.and_self,cond_true]at h;exact⟨hu,II u h1 ⟨y,II q A ⟨hl,h _ (.sc _)⟩⟩⟩
      ·simp only[hl,decide_false,Bool.and_false]at h0;exact absurd rfl h0
     ·simp only[y,decide_false,Bool.false_and]at h0;exact absurd rfl h0
 | _ =>exact absurd rfl h0
end mem
def XO (P:Program) (o:Oper) (s:AW.Fr) (σ:AS) (K Pn:AV→AS→Prop):Prop:=
 ∀(G:Gh) (r:Operand→Value) (w:World),Inv P G σ w→(∀x,aU P G (ev s x) (r x))→Out P G K Pn ((execOp r o).run P w)
theorem XO.iT {o:Oper}{s:AW.Fr}{σ:AS}{K Pn:AV→AS→Prop}(h:AW.iT P s σ K Pn o.op):XO P o s σ K Pn:=fun G r w l j=>D9 l j o h
theorem Ep {G:Gh}{σ:AS}{w:World}{K Pn:AV→AS→Prop}{ρ:br}(hinv:Inv P G σ w) {t e:TypeId}{x:EV}{ax:AV}{vx:Value}{lo S:Option EV}{ai ak:Option AV}{q u:Option Value}(hu:P.underlying t=some (.slice e)) (ay:P.cellsOf e≠0)
 (hx:VR ρ x ax) (Y:aU P G ax vx) (Z:(lo=none∧ai=none∧q=none)∨ ∃v a b,lo=some v∧ai=some a∧q=some b∧VR ρ v a∧aU P G a b)
 (ac:(S=none∧ak=none∧u=none)∨ ∃v a b,S=some v∧ak=some a∧u=some b∧VR ρ v a∧aU P G a b)
 (h0:vA e (P.cellsOf e) x lo S≠ .any) (h:∀av,VR ρ (vA e (P.cellsOf e) x lo S) av→K av σ):Out P G K Pn (((do pure (Next.value (←Instr.sliceAt t vx q u none))):Sem Next).run P w):=by
 obtain⟨inf,I,F,_⟩:=bz (P:=P) (t:=e) ay;have J:∀(kd:IntKind) (m y:Nat) (code:BoundsCode),m≤y→(Instr.sliceBound (.int kd m) y code).run P w= .ok m w:=by intro kd m y code hm;have:(0:Int)≤m∧(m:Int)≤(y:Int):=⟨by omega,by omega⟩;simp[Instr.sliceBound,asIntOf,hm]
 have core:∀ {i a off len cap N:Nat} {ec:Mn},x= .sl i off len ec→ρ i=some (a,N)→ax= .dg a off len cap→(∀l h,l≤h→h≤cap→cQ S len=some h→cQ lo 0=some l→
  (l<cap→K (.dg a (off+l*P.cellsOf e) (h-l) (cap-l)) σ)→(l=cap→K (.ah e [] .aJ false) σ)→Out P G K Pn (((do pure (Next.value (←Instr.sliceAt t vx q u none))):Sem Next).run P w)):=by
  intro i a off len cap N ec a6 U a0 l E hl hh o A k1 k2;subst a0;cases Y with
  |dg hb=>
   rename_i b;have vl:(q=none∧l=0)∨ ∃k,q=some (.int k l):=by
    rcases Z with⟨rfl,_,rfl⟩|⟨v,a',bv,rfl,_,rfl,M,L⟩
    ·simp only[cQ,Option.some.injEq]at A;exact .inl ⟨rfl,A.symm⟩
    ·cases M with
     |int k n=>
      cases n with
      |negSucc n=>cases A
      |ofNat n=>simp only[cQ,Option.some.injEq]at A;subst A;cases L;exact .inr ⟨k,rfl⟩
     | _ =>cases A
   have vh:(u=none∧E=len)∨ ∃k,u=some (.int k E):=by
    rcases ac with⟨rfl,_,rfl⟩|⟨v,a',bv,rfl,_,rfl,M,L⟩
    ·simp only[cQ,Option.some.injEq]at o;exact .inl ⟨rfl,o.symm⟩
    ·cases M with
     |int k n=>
      cases n with
      |negSucc n=>cases o
      |ofNat n=>simp only[cQ,Option.some.injEq]at o;subst o;cases L;exact .inr ⟨k,rfl⟩
     | _ =>cases o
   have j:(Instr.sliceBounds true len cap q u none).run P w= .ok (l,E,cap) w:=by
    rcases vl with⟨rfl,rfl⟩|⟨k,rfl⟩<;>rcases vh with⟨rfl,rfl⟩|⟨k2,rfl⟩
    ·simp[Instr.sliceBounds]
    ·simp[Instr.sliceBounds,J _ _ _ _ hh]
    ·simp[Instr.sliceBounds,J _ _ _ _ hl]
    ·simp[Instr.sliceBounds,J _ _ _ _ hh,J _ _ _ _ hl]
   rcases Nat.lt_or_ge l cap with ab|ab
   ·have D:¬cap=l:=by omega
    refine Out.pure hinv (v:= .slice (some ⟨b,off+l*P.cellsOf e,none⟩) (E-l) (cap-l)) ?_ (.dg hb) (k1 ab);simp[Instr.sliceAt,Instr.slice,run_underlying hu,j,sizeOf,run_typeInfo w I,D,F,Addr.add_lit]
   ·have D:cap=l:=by omega
    refine Out.pure hinv (v:= .slice (some ⟨b,off,none⟩) 0 0) ?_ .mZ (k2 D.symm);have:E=l:=by omega
    rw[D,this]at j;simp[Instr.sliceAt,Instr.slice,run_underlying hu,j,sizeOf,run_typeInfo w I,D,F,this]
 cases hx with
 |we off len c U=>
  simp only[vA]at h h0;cases o:cQ S len with
  |none=>rw[o]at h0;exact absurd rfl h0
  |some E=>
   cases A:cQ lo 0 with
   |none=>rw[o,A]at h0;exact absurd rfl h0
   |some l=>
    rw[o,A]at h h0;simp only[iR,bW]at h h0;by_cases hl:l≤E
    ·simp only[hl,decide_true,cond_true]at h h0;by_cases V:E≤c
     ·simp only[V,decide_true,cond_true]at h h0;refine core rfl U rfl l E hl V o A (fun Q=> ?_) (fun he=> ?_)
      ·have:¬l=c:=by omega
       simp only[this,decide_false,cond_false]at h;exact h _ (.we _ _ _ U)
      ·subst he;simp only[decide_true,cond_true]at h;exact h _ (VR.te false .nil)
     ·simp only[V,decide_false]at h0;exact absurd rfl h0
    ·simp only[hl,decide_false]at h0;exact absurd rfl h0
 |xW off len d U hlen=>
  rename_i i a N;simp only[vA]at h h0;cases o:cQ S len with
  |none=>rw[o]at h0;exact absurd rfl h0
  |some E=>
   cases A:cQ lo 0 with
   |none=>rw[o,A]at h0;exact absurd rfl h0
   |some l=>
    rw[o,A]at h h0;simp only[iR,dr]at h h0;by_cases hl:l≤E
    ·simp only[hl,decide_true,cond_true]at h h0;by_cases V:E≤len
     ·simp only[V,decide_true,cond_true]at h h0;by_cases Q:l<len
      ·simp only[Q,decide_true,cond_true]at h;refine core rfl U rfl l E hl (by omega) o A (fun _ => ?_) (fun he=>by omega);have e1:N-d-l=N-Nat.add d l:=by show N-d-l=N-(d+l);omega
       rw[e1];exact h _ (.xW _ _ _ U (by show E-l≤N-(d+l);omega))
      ·have a8:l=len:=by omega
       have T:E=l:=by omega
       simp only[Q,decide_false,cond_false]at h;cases Y with
       |dg hb=>
        rename_i b;have key:=h _ (VR.te false .nil);have vl:(q=none∧l=0)∨ ∃k,q=some (.int k l):=by
         rcases Z with⟨rfl,_,rfl⟩|⟨v,a',bv,rfl,_,rfl,M,L⟩
         ·simp only[cQ,Option.some.injEq]at A;exact .inl ⟨rfl,A.symm⟩
         ·cases M with
          |int k n=>
           cases n with
           |negSucc n=>cases A
           |ofNat n=>simp only[cQ,Option.some.injEq]at A;subst A;cases L;exact .inr ⟨k,rfl⟩
          | _ =>cases A
        have vh:(u=none∧E=len)∨ ∃k,u=some (.int k E):=by
         rcases ac with⟨rfl,_,rfl⟩|⟨v,a',bv,rfl,_,rfl,M,L⟩
         ·simp only[cQ,Option.some.injEq]at o;exact .inl ⟨rfl,o.symm⟩
         ·cases M with
          |int k n=>
           cases n with
           |negSucc n=>cases o
           |ofNat n=>simp only[cQ,Option.some.injEq]at o;subst o;cases L;exact .inr ⟨k,rfl⟩
          | _ =>cases o
        have hh:E≤N-d:=by omega
        have j:(Instr.sliceBounds true len (N-d) q u none).run P w= .ok (l,E,N-d) w:=by
         rcases vl with⟨rfl,X⟩|⟨k,rfl⟩<;>rcases vh with⟨rfl,O⟩|⟨k2,rfl⟩
         ·simp[Instr.sliceBounds,X,O]
         ·simp[Instr.sliceBounds,J _ _ _ _ hh,X]
         ·simp[Instr.sliceBounds,J _ _ _ _ hl,O];rw[←O];simp[J _ _ _ _ hl]
         ·simp[Instr.sliceBounds,J _ _ _ _ hh,J _ _ _ _ hl]
        rw[T]at j;by_cases D:N-d=l
        ·rw[D]at j;refine Out.pure hinv (v:= .slice (some ⟨b,off,none⟩) 0 0) ?_ .mZ key;simp[Instr.sliceAt,Instr.slice,run_underlying hu,j,sizeOf,run_typeInfo w I,D,F,T]
        ·refine Out.pure hinv (v:= .slice (some ⟨b,off+l*P.cellsOf e,none⟩) 0 (N-d-l)) ?_ .mZ key;simp[Instr.sliceAt,Instr.slice,run_underlying hu,j,sizeOf,run_typeInfo w I,D,F,T,Addr.add_lit]
     ·simp only[V,decide_false]at h0;exact absurd rfl h0
    ·simp only[hl,decide_false]at h0;exact absurd rfl h0
 | _ =>exact absurd rfl h0
end Go.AW.Ev
namespace Go.AW.Ev
variable {P:Program}
theorem iu {α:Type}{a b:List α}{k:Nat}{d:α}(h:k<a.length):(a++b).getD k d=a.getD k d:=by simp[List.getD_eq_getElem?_getD,List.getElem?_append_left h]
theorem kE {α:Type}{a b:List α}{k:Nat}{d:α}(h:a.length≤k):(a++b).getD k d=b.getD (k-a.length) d:=by simp[List.getD_eq_getElem?_getD,List.getElem?_append_right h]
theorem Ff {n:Nat}{v:AV} :(eM n v).length=n*v.cells.length:=by
 unfold eM;induction n with
 |zero=>simp
 |succ n j=>rw[List.replicate_succ,List.flatMap_cons,List.length_append,j,Nat.succ_mul,Nat.add_comm]
theorem pf {v:AV}{m:Nat}(hm:v.cells.length=m):∀ {n i j:Nat},i<n→j<m→(eM n v).getD (i*m+j) .any=v.cells.getD j .any:=by
 intro n;induction n with
 |zero=>intro i j h;omega
 |succ n l=>
  intro i j q o;unfold eM;rw[List.replicate_succ,List.flatMap_cons];cases i with
  |zero=>rw[Nat.zero_mul,Nat.zero_add,iu (by omega)]
  |succ i=>
   have:m≤(i+1)*m+j:=by rw[Nat.succ_mul];omega
   rw[kE (by omega),hm,show(i+1)*m+j-m=i*m+j from by rw[Nat.succ_mul];omega];exact l (by omega) o
theorem oC {G:Gh}{σ:AS}{w:World}{K Pn:AV→AS→Prop}(hi:Inv P G σ w) {t Y ty e:TypeId}{base:Option Addr}{len cap n:Nat}{oc v:List AV}{olds news:List Value}{X:Value}
 (he:bC P t=some e) (a8:P.cellsOf e≠0) (Q:(az P e).laid=true) (I:(az P e).cells.length=P.cellsOf e)
 (A:wI P e Y X n news w) (a6:news.length=n*P.cellsOf e) (S:v.length=news.length) (af:∀k,k<v.length→aU P G (v.getD k .any) (news.getD k undef))
 (a5:olds.length=len*P.cellsOf e) (u:oc.length=olds.length) (ak:∀k,k<oc.length→aU P G (oc.getD k .any) (olds.getD k undef)∧(olds.getD k undef).oneCell'=true)
 (hold:(Builtin.firstCells (P.cellsOf e) len (.slice base len cap)).run P w.drew= .ok olds.toArray w.drew)
 (U:cap<len+n) (L:(len+n)*P.bytesOf e≤fF (P.bytesOf e)) (ax:len+n≤140737488355328)
 (h:∀id j zs,σ id=none→len+n≤j→zs.length=(j-(len+n))*P.cellsOf e→K (.dg id 0 (len+n) j) (σ.set id (.cells e (oc++v++zs)))):
 Out P G K Pn (((do pure (Next.value (←Builtin.append_ #[t,Y] ty #[.slice base len cap,X]))):Sem Next).run P w):=by
 have hu:=dA he;obtain⟨it,z,M,hz,ab⟩:=cR Q;have J:it.size=P.cellsOf e:=by simp[Program.cellsOf,M]
 have y:it.bytes=P.bytesOf e:=by simp[Program.bytesOf,M]
 have ai:aU P G (az P e) z:=by rw[ab];exact fq z
 obtain⟨V,z2⟩:=fx ai Q;rw[I]at V z2;have T:0<P.cellsOf e:=by omega
 have o:∀i,i<news.length→(news.getD i undef).oneCell'=true:=fun i al=>by rw[List.getD_eq_getElem?_getD,List.getElem?_eq_getElem al];exact A.one _ (List.getElem_mem _)
 have D:=rh (P:=P) w t Y ty e it z hu M hz base len cap olds (by rw[J];exact hold) X n news A U (by omega) (by rw[y];exact qq U L);have l:=grownCap_ge w (len+n) cap e;generalize grownCap w (len+n) cap e=j at D l;have E:(olds++news).toArray++Builtin.zeroCells z.cells (j-(len+n))=(olds++news++(Builtin.zeroCells z.cells (j-(len+n))).toList).toArray:=by apply Array.ext';simp
 have ac:((Builtin.zeroCells z.cells (j-(len+n))).toList).length=(j-(len+n))*P.cellsOf e:=by simp[Builtin.zeroCells,V]
 have O:(eM (j-(len+n)) (az P e)).length=(j-(len+n))*P.cellsOf e:=by rw[Ff,I]
 obtain⟨G',g1,g2,g3⟩:=hi.drew.jr e ((olds++news).toArray++Builtin.zeroCells z.cells (j-(len+n))) (oc++v++eM (j-(len+n)) (az P e))
  (by rw[E];simp[u,S,ac,O]) (by
   have hg:∀k,((olds++news).toArray++Builtin.zeroCells z.cells (j-(len+n))).getD k undef=(olds++news++(Builtin.zeroCells z.cells (j-(len+n))).toList).getD k undef:=by intro k;rw[E];simp[List.getD_eq_getElem?_getD]
   intro k hk;rw[hg];simp only[List.length_append]at hk;by_cases c1:k<oc.length
   ·rw[iu (by simp;omega),iu c1,iu (by simp;omega),iu (by omega)];exact ak k c1
   ·by_cases c2:k<oc.length+v.length
    ·rw[iu (by simp;omega),kE (by omega),iu (by simp;omega),kE (by omega),←u];exact⟨af _ (by omega),o _ (by omega)⟩
    ·have e1:(oc++v).length=(olds++news).length:=by simp[u,S]
     rw[kE (by simp;omega),kE (by rw[←e1];simp;omega),←e1];have F:k-(oc++v).length<(j-(len+n))*P.cellsOf e:=by rw[O]at hk;simp;omega
     generalize k-(oc++v).length=q at F;have q1:q/P.cellsOf e<j-(len+n):=Nat.div_lt_of_lt_mul (by rw[Nat.mul_comm];exact F);have Z:q%P.cellsOf e<P.cellsOf e:=Nat.mod_lt _ T;have q3:(q/P.cellsOf e)*P.cellsOf e+q%P.cellsOf e=q:=by rw[Nat.mul_comm];exact Nat.div_add_mod q _
     have:=pf I (n:=j-(len+n)) q1 Z;rw[q3]at this;rw[this];have h2:=lX V (j-(len+n)) (q/P.cellsOf e) (q%P.cellsOf e) q1 Z;rw[q3]at h2;rw[h2];exact z2 _ Z)
 exact Out.value D g1 g3 (.dg g2) (h _ j _ hi.fresh l O)
theorem zD {G:Gh}{σ:AS}{w:World}{K Pn:AV→AS→Prop}(T:Inv P G σ w) {t E ty e iv:TypeId}{a off len cap n:Nat}{cs v:List AV}{news:List Value}{vs D:Value}
 (he:bC P t=some e) (O:P.cellsOf e≠0) (U:aU P G (.dg a off len cap) vs) (y:σ a=some (.cells iv cs))
 (q:wI P e E D n news w) (V:news.length=n*P.cellsOf e) (I:v.length=news.length) (F:∀k,k<v.length→aU P G (v.getD k .any) (news.getD k undef))
 (A:len+n≤cap) (Z:off+len*P.cellsOf e+v.length≤cs.length)
 (h:K (.dg a off (len+n) cap) (σ.set a (.cells iv (cs.take (off+len*P.cellsOf e)++v++cs.drop (off+len*P.cellsOf e+v.length))))):
 Out P G K Pn (((do pure (Next.value (←Builtin.append_ #[t,E] ty #[vs,D]))):Sem Next).run P w):=by
 have hu:=dA he;obtain⟨it,L,o,_⟩:=bz (P:=P) (t:=e) O;have l:∀i,i<news.length→(news.getD i undef).oneCell'=true:=fun i M=>by rw[List.getD_eq_getElem?_getD,List.getElem?_eq_getElem M];exact q.one _ (List.getElem_mem _)
 cases U with
 |dg Q=>
  rename_i b;obtain⟨b',cur,k1,S,k3,k4⟩:=T.cells a iv cs y;rw[Q]at k1;obtain rfl:=Option.some.inj k1;have u:=vO (P:=P) w t E ty e it hu L b off len cap D n news q A
   (fun j Y=>by
    rw[o];simp only[World.cell?,S];have:off+len*P.cellsOf e+j<cur.size:=by omega
    simp[this]) (fun j Y=>by
    simp only[World.frozen?,S];simp)
  rw[o]at u;have J:=T.store (i:=a) (ty:=iv) (cs:=cs) y (off+len*P.cellsOf e) news v I.symm (by omega)
   (fun k X=>⟨F k X,l k (by omega)⟩) b Q
  exact Out.value u (.refl G) J (.dg Q) h
end Go.AW.Ev
namespace Go.AW.Ev
variable {P:Program}
def CZ (P:Program) (ρ:br) (G:Gh) (w:World) (e o:TypeId) (l:Value) (n:Nat) (xs:List EV):Prop:=
 ∃(news:List Value) (j:List AV),wI P e o l n news w∧news.length=n*P.cellsOf e∧j.length=news.length∧VL ρ xs j∧ ∀k,k<j.length→aU P G (j.getD k .any) (news.getD k undef)
theorem yg {ρ:br}{z:List EV}{a:AV}(h:VL ρ z a.cells):∀n,VL ρ (EF n z) (eM n a)
 |0=> .nil
 |n+1=>by show VL ρ (z++EF n z) _;unfold eM;rw[List.replicate_succ,List.flatMap_cons];exact h.app (yg h n)
theorem VL.kh {ρ:br} :∀ {es:List EV}{as:List AV},VL ρ es as→iy es=true→(∀v∈as,v.cells= [v])∧as.all AV.one=true:=by
 intro es as h;induction h with
 |nil=>intro _;exact⟨by simp,rfl⟩
 |cons h t n=>
  intro ha;simp only[iy,Bool.and_eq_true]at ha;obtain⟨i1,i2⟩:=n ha.2;have l:=h.one ha.1;refine⟨fun v j=> ?_,by rw[List.all_cons,l,i2];rfl⟩;rcases List.mem_cons.1 j with rfl|j
  ·cases v<;>first|rfl|simp[AV.one]at l
  ·exact i1 v j
theorem Ms {ρ:br}{G:Gh}{σ:AS}{w:World}{H:Hp}(U:Inv P G σ w) (hb:RB P ρ H σ) {e O e1:TypeId}(hu:P.underlying O=some (.slice e1)) {x:EV}{X:AV}{M:Value}(hx:VR ρ x X) (F:aU P G X M)
 {n:Nat} {xs:List EV} (h:Eo e (P.cellsOf e) x H=some (n,xs)):CZ P ρ G w e O M n xs:=by
 have dg:∀ {i a off len cap N:Nat} {ec:Mn},x= .sl i off len ec→ρ i=some (a,N)→X= .dg a off len cap→CZ P ρ G w e O M n xs:=by
  rintro i a off len cap N ec rfl A rfl;simp only[Eo]at h;cases I:H.get i with
  |cells ty cs full=>
   rw[I]at h;simp only at h;cases ht:iG (kG cs off) (Nat.mul len (P.cellsOf e))with
   |none=>rw[ht]at h;cases h
   |some l=>
    rw[ht]at h;simp only[Option.some.injEq,Prod.mk.injEq]at h;obtain⟨rfl,rfl⟩:=h;obtain⟨t1,rfl⟩:=ju _ _ _ ht;rw[ga,List.length_drop]at t1;rw[show Nat.mul len (P.cellsOf e)=len*P.cellsOf e from rfl]at t1⊢;obtain⟨ab,h1,L⟩:=hb.at A (by rw[I];rfl);rw[I]at L;obtain⟨as,Q,rfl,h3,_⟩:=L;have hlen:=h3.len;cases F with
    |dg V=>
     rename_i b;obtain⟨b',cur,k1,k2,k3,k4⟩:=U.cells a ty (as++Q) h1;rw[V]at k1;obtain rfl:=Option.some.inj k1;rw[List.length_append]at k3 k4;by_cases v:len*P.cellsOf e=0
     ·refine⟨[],[],?_,by simp[v],rfl,?_,by simp⟩
      ·exact .inl (Src.ofSlice w hu _ len _ [] (by simp[v]) (by simp) (by simp))
      ·rw[v,List.take_zero];exact .nil
     ·have Z:off+len*P.cellsOf e≤as.length:=by omega
      refine⟨(cur.toList.drop off).take (len*P.cellsOf e),(as.drop off).take (len*P.cellsOf e),.inl (Src.ofSlice w hu ⟨b,off,none⟩ len _ _ ?_ (fun j u q=> ?_) (fun u o=> ?_)),?_,?_,?_,fun k E=> ?_⟩
      ·simp;omega
      ·have S:j<len*P.cellsOf e:=by
        rcases Nat.lt_or_ge j (len*P.cellsOf e)with h|h
        ·exact h
        ·rw[List.getElem?_eq_none (by simp;omega)]at q;cases q
       rw[List.getElem?_take_of_lt S,List.getElem?_drop]at q;rw[Addr.add_lit];show w.cell? ⟨b,off+j,none⟩=some u;simp only[World.cell?,k2];simpa using q
      ·have hm:=List.mem_of_mem_take o;obtain⟨j,q,rfl⟩:=List.mem_iff_getElem.1 hm;have T:off+j<cur.size:=by simp at q;omega
       have:=(k4 (off+j) (by omega)).2;rw[Array.getD_eq_getD_getElem?,Array.getElem?_eq_getElem T]at this;simpa using this
      ·simp;omega
      ·simp;omega
      ·rw[ga];exact(h3.drop _).take _
      ·simp only[List.length_take,List.length_drop]at E;have:=(k4 (off+k) (by omega)).1;rw[oQ (by omega)]at this;rw[List.getD_eq_getElem?_getD,List.getElem?_take_of_lt (by omega),List.getElem?_drop,←List.getD_eq_getElem?_getD,List.getD_eq_getElem?_getD (l:=(cur.toList.drop off).take _),List.getElem?_take_of_lt (by omega),List.getElem?_drop];rw[Array.getD_eq_getD_getElem?]at this;simpa using this
  | _ =>rw[I]at h;cases h
 cases hx with
 |aC=>simp only[Eo,Option.some.injEq,Prod.mk.injEq]at h;obtain⟨rfl,rfl⟩:=h;cases F;exact⟨[],[],.inl (Src.ofNil w hu 0),by simp,rfl,.nil,by simp⟩
 |we off len c A=>exact dg rfl A rfl
 |xW off len d A hl=>exact dg rfl A rfl
 |ah full l hl=>
  rename_i e' es as;have Y:=VL.of l hl;simp only[Eo]at h;cases J:(Nat.beq e' e&&Nat.beq (P.cellsOf e) 1&&iy es)with
  |false=>rw[J]at h;cases h
  |true=>
   rw[J]at h;simp only[cond_true,Option.some.injEq,Prod.mk.injEq]at h;obtain⟨rfl,rfl⟩:=h;simp only[Bool.and_eq_true,bW,decide_eq_true_eq]at J;obtain⟨⟨rfl,h1⟩,L⟩:=J;obtain⟨o1,o2⟩:=Y.kh L;generalize (if full then cA.full else cA.aJ)=own at F;cases F with
   |mZ=>have:es= []:=List.length_eq_zero_iff.1 (by simpa using l);subst this;exact⟨[],[],.inl (Src.ofSlice w hu _ 0 _ [] (by simp) (by simp) (by simp)),by simp,rfl,.nil,by simp⟩
   |ah vs ap hm y ar ho=>
    rename_i b off cap;rw[h1,Nat.mul_one]at hm;simp only[h1]at y;refine⟨(List.range as.length).map vs,as,.inl ?_,by simp[h1,l],by simp,Y,fun k E=> ?_⟩
    ·rw[l];refine Src.ofSlice w hu ⟨b,off,none⟩ as.length cap _ (by simp[h1]) (fun j u o=> ?_) (fun u o=> ?_)
     ·have q:j<as.length:=by
       rcases Nat.lt_or_ge j as.length with h|h
       ·exact h
       ·rw[List.getElem?_eq_none (by simpa using h)]at o;cases o
      simp[q]at o;subst o;rw[Addr.add_lit];exact(U.mem _ _ _ (hm j q)).1
     ·simp at o;obtain⟨j,q,rfl⟩:=o;exact(U.mem _ _ _ (hm j q)).2
    ·have:=y k 0 E (by omega);have D:as.getD k .any∈as:=by rw[List.getD_eq_getElem?_getD,List.getElem?_eq_getElem E];exact List.getElem_mem _
     rw[o1 _ D]at this;simpa[List.getD_eq_getElem?_getD,E]using this
 | _ =>cases h
theorem sw {ρ:br}{G:Gh}{σ:AS}{w:World}(M:Inv P G σ w) {e D:TypeId}(O:P.cellsOf e≠0) (o:(az P e).laid=true) (n:(az P e).cells.length=P.cellsOf e) {E:AV}{A:Value}(I:aU P G E A) {es:List AV}(h:cy P e D E=some es)
 (l:∀v∈es,v.cells.length=P.cellsOf e) {xs:List EV} (F:VL ρ xs (aR es)):CZ P ρ G w e D A es.length xs:=by
 obtain⟨news,h1,y⟩:=xV M o n I h;have u:=eU l;refine⟨news,aR es,h1,y.len,by rw[u,y.len],F,fun k J=> ?_⟩;exact(qQ (P:=P) (G:=G) (by omega:0<P.cellsOf e) l (vs:=fun k=>news.getD k undef) (p:=fun _ =>True) (fun i j q L=>⟨y.rep i j q L,trivial⟩) k J).1
theorem Mr {ρ:br}{G:Gh}{σ:AS}{w:World}(M:Inv P G σ w) {e j:TypeId}(q:(az P e).laid=true) (o:(az P e).cells.length=P.cellsOf e) (hu:P.underlying j=some .string) (he:zo P e=true) {x:EV}{D:AV}{y:Value}(F:VR ρ x D) (L:aU P G D y)
 {n:Nat} {xs:List EV} (h:Js x=some (n,xs)):CZ P ρ G w e j y n xs:=by
 obtain⟨O,A⟩:=xP he;cases F with
 |sc v=>
  cases v<;>first|(cases h;done)|skip
  case string s=>
   simp only[Js,Option.some.injEq,Prod.mk.injEq]at h;obtain⟨rfl,rfl⟩:=h;have J:cy P e j (.sc (.string s))=some (s.data.toList.map u8):=by simp[cy,hu,A]
   have u:∀v∈s.data.toList.map u8,v.cells.length=P.cellsOf e:=by intro v I;obtain⟨b,_,rfl⟩:=List.mem_map.1 I;rw[A];rfl
   have hf:aR (s.data.toList.map u8)=s.data.toList.map u8:=by
    generalize s.data.toList=l;induction l with
    |nil=>rfl
    |cons b r E=>rw[List.map_cons,fZ,E];rfl
   have:=sw (ρ:=ρ) M (by omega) q o L J u (xs:=OC s.data.toList) (by rw[hf];exact Bw _);rw[List.length_map]at this;exact this
 | _ =>cases h
theorem Mu {ρ:br}{G:Gh}{σ:AS}{w:World}(J:Inv P G σ w) {e l:TypeId}{k0:IntKind}(q:P.cellsOf e≠0) (y:(zeroV P e).laid=true) (j:(az P e).cells.length=P.cellsOf e) (hu:P.underlying l=some (.int k0)) (L:P.bytesOf e≤1000) {x:EV}{A:AV}{u:Value}(D:VR ρ x A) (I:aU P G A u)
 {n:Nat} {xs:List EV} (h:Jt (zeroV P e).cells x=some (n,xs)):CZ P ρ G w e l u n xs:=by
 have o:=lh (VR.zero (P:=P) ρ e) y;cases D with
 |int k m=>
  cases m with
  |negSucc m=>cases h
  |ofNat m=>
   simp only[Jt,iR]at h;by_cases hm:m≤1000000
   ·simp only[hm,decide_true,cond_true,Option.some.injEq,Prod.mk.injEq]at h;obtain⟨rfl,rfl⟩:=h;have F:cy P e l (.sc (.int k (Int.ofNat m)))=some (List.replicate m (az P e)):=by simp only[cy,hu];rw[if_pos ⟨by show(0:Int)≤(m:Int);omega,by show(m:Int)≤1000000;omega,L⟩];rfl
    have:=sw (ρ:=ρ) J q o j I F (fun v E=>by rw[(List.mem_replicate.1 E).2];exact j) (xs:=EF m (zeroV P e).cells) (yg ((VR.zero ρ e).cells y).1 m);rwa [List.length_replicate]at this
   ·simp only[hm,decide_false,cond_false]at h;cases h
 | _ =>cases h
theorem qo {be n:Nat}(h:qp be n=true):n*be≤fF be∧n≤140737488355328:=by
 simp only[qp,Bool.and_eq_true,iR,decide_eq_true_eq]at h;obtain⟨h1,l⟩:=h;have j:n*be≤1000000000:=h1;refine⟨?_,by omega⟩;unfold fF;split
 ·omega
 ·split<;>omega
theorem R.dropped {ρ:br}{σ0 σ:AS}{H:Hp}(h:R P ρ σ0 H σ) {i a N:Nat}(o:ρ i=some (a,N)) (hl:(H.get i).live=true):R P ρ σ0 (H.set i .z8) (fun j=>if j=a then none else σ j):=by
 refine(h.drop (h.rb.lt _ _ o)).P6 (fun j b n=> ?_) (fun j x M l n=> ?_)
 ·have:j≠a:=by rintro rfl;rw[h.out i _ N hl o]at n;cases n
  simp only[this,if_false];exact h.le j b n
 ·have u:=h.rb.lt _ _ n;rw[Hp.df (h.rb.lt _ _ o) u]at l;split at l
  ·cases l
  ·rename_i q;have:x≠a:=by rintro rfl;exact q (h.inj j i _ _ _ l hl n o)
   simp only[this,if_false]
theorem BK (σ:AS) (a:Nat) (b:cL):AS.set (fun j=>if j=a then none else σ j) a b=σ.set a b:=by funext j;by_cases h:j=a<;>simp[AS.set,h]
section
variable {ρ:br} {G:Gh} {σ σ0:AS} {w:World} {H H':Hp} {K Pn:AV→AS→Prop}
theorem NO (U:Inv P G σ w) (hR:R P ρ σ0 H σ) {t tx ty e:TypeId}(he:bC P t=some e) (J:P.cellsOf e≠0) (X:(az P e).laid=true) (V:(az P e).cells.length=P.cellsOf e)
 {s:EV} {cc:AV} {vs vx:Value} (hs:VR ρ s cc) (T:aU P G cc vs) {src:Option (Nat×List EV)} (a9:∀n xs,src=some (n,xs)→CZ P ρ G w e tx vx n xs) {v:EV}
 (h0:A6 e (P.cellsOf e) (P.bytesOf e) src s H= .ok v H'):H.c≤H'.c∧((∀Q av σ',br.le ρ Q→VR Q v av→R P Q σ0 H' σ'→K av σ')→
 Out P G K Pn (((do pure (Next.value (←Builtin.append_ #[t,tx] ty #[vs,vx]))):Sem Next).run P w)):=by
 have hu:=dA he;unfold A6 at h0;cases src with
 |none=>cases h0
 |some p=>
  obtain⟨n,xs⟩:=p;obtain⟨news,xc,t1,t2,t3,t4,t5⟩:=a9 n xs rfl;have cj:=t4.len;simp only at h0;have fresh:∀ {H1:Hp} {O:AS} {len:Nat} {old:List EV} {oc:List AV},R P ρ σ0 H1 O→H1.c<32768→old.length=len*P.cellsOf e→VL ρ old oc→(∀j,O j=σ j∨O j=none)→v= .sl H1.c 0 (len+n) (.rest 0)→H'=H1.new (.cells e (old++xs) false)→
   (∀Q av σ',br.le ρ Q→VR Q v av→R P Q σ0 H' σ'→K av σ')→ ∀id F L,σ id=none→len+n≤F→L.length=(F-(len+n))*P.cellsOf e→(∀j,j=id∨O j=none∨(σ.set id (.cells e (oc++xc++L))) j=O j)→K (.dg id 0 (len+n) F) (σ.set id (.cells e (oc++xc++L))):=by
   intro H1 O len old oc al d8 ck bs a8 hv ea y id F L D E A Y;have ax:O id=none:=by rcases a8 id with h|h;rw[h];exact D;exact h
   have a2:BR P (ρ.ext H1.c (id,F)) F (.cells e (old++xs) false) (.cells e (oc++xc++L)):=by have hle:=br.ou (al.fresh _ (Nat.le_refl _)) (id,F);refine⟨oc++xc,L,rfl,(bs.app t4).mono hle,(fun h=>by cases h),fun _ => ?_⟩;have l1:=bs.len;rw[A,List.length_append,←l1,ck,t3,t2,←Nat.add_mul,←Nat.add_mul];congr 1;omega
   obtain⟨g1,g2⟩:=al.new d8 ax a2;subst hv ea;refine y _ _ _ g1 ?_ (g2.P6 ?_ ?_)
   ·have:=VR.xW (ρ:=ρ.ext H1.c (id,F)) (i:=H1.c) 0 (len+n) 0 (br.fI ρ H1.c (id,F)) (by omega:len+n≤F-0);exact this
   ·intro j b o;by_cases b0:j=id
    ·subst b0;have:=al.le j b o;rw[ax]at this;cases this
    ·have h1:=al.le j b o;rcases Y j with h|h|h
     ·exact absurd h b0
     ·rw[h]at h1;cases h1
     ·rw[h];exact h1
   ·intro j x M c3 o;by_cases hx:x=id
    ·subst hx;simp
    ·rw[AS.ag _ _ hx];obtain⟨ab,q1,_⟩:=g2.rb.at o c3;rw[AS.ag _ _ hx]at q1;rcases Y x with h|h|h
     ·exact absurd h hx
     ·rw[h]at q1;cases q1
     ·rw[AS.ag _ _ hx]at h;rw[AS.ag _ _ hx];exact h
  cases hs with
  |aC=>
   simp only[bW]at h0;cases T;by_cases hn:n=0
   ·subst hn;simp only[decide_true,cond_true,lW.ok.injEq]at h0;obtain⟨rfl,rfl⟩:=h0;refine⟨Nat.le_refl _,fun y=> ?_⟩;have cv:news= []:=by simpa using t2
    subst cv;obtain⟨it,dl,_⟩:=bz (P:=P) (t:=e) J;exact Out.value (vN hu dl t1) (.refl G) U .aC (y ρ _ _ (.refl ρ) .aC hR)
   ·simp only[hn,decide_false,cond_false]at h0;cases I:(qp (P.bytesOf e) n&&Nat.blt H.c 32768)with
    |false=>rw[I]at h0;cases h0
    |true=>
     rw[I]at h0;simp only[cond_true,lW.ok.injEq]at h0;obtain⟨rfl,rfl⟩:=h0;simp only[Bool.and_eq_true,dr,decide_eq_true_eq]at I;obtain⟨r1,r2⟩:=qo I.1;refine⟨Nat.le_succ _,fun y=> ?_⟩;refine oC (len:=0) (cap:=0) (n:=n) (oc:= []) (olds:= []) U he J X V t1 t2 t3 t5 (by simp) rfl (by simp) (by simp[Builtin.firstCells]) (by omega) (by simpa using r1) (by simpa using r2) ?_;intro id F L D E A;exact fresh (old:= []) (oc:= []) hR I.2 (by simp) .nil (fun j=> .inl rfl) (by simp) (by simp) y id F L D E A (fun j=>by
      by_cases o:j=id
      ·exact .inl o
      ·exact .inr (.inr (AS.ag _ _ o)))
  |we off len c hp=>
   rename_i i a N;simp only at h0;cases hg:H.get i with
   |cells iv cs full=>
    rw[hg]at h0;simp only at h0;cases ht:iG (kG cs off) (Nat.mul len (P.cellsOf e))with
    |none=>rw[ht]at h0;cases h0
    |some old=>
     rw[ht]at h0;simp only at h0;obtain⟨k1,rfl⟩:=ju _ _ _ ht;rw[ga,List.length_drop]at k1;rw[show Nat.mul len (P.cellsOf e)=len*P.cellsOf e from rfl]at k1 h0;cases I:(qp (P.bytesOf e) (Nat.add len n)&&Nat.blt H.c 32768&&Nat.beq iv e)with
     |false=>rw[I]at h0;cases h0
     |true=>
      rw[I]at h0;simp only[Bool.and_eq_true,dr,bW,decide_eq_true_eq]at I;obtain⟨⟨c1,c2⟩,rfl⟩:=I;obtain⟨r1,r2⟩:=qo c1;simp only[cond_true,iR]at h0;obtain⟨ab,h1,h2⟩:=hR.rb.at hp (by rw[hg];rfl);rw[hg]at h2;obtain⟨as,S,rfl,h3,h4,h5⟩:=h2;have hlen:=h3.len;by_cases q:Nat.add len n≤c
      ·simp only[q,decide_true,cond_true]at h0;cases Z:rG cs (Nat.add off (len*P.cellsOf iv)) xs with
       |none=>rw[Z]at h0;cases h0
       |some cs'=>
        rw[Z]at h0;simp only[lW.ok.injEq]at h0;obtain⟨rfl,rfl⟩:=h0;obtain⟨p1,rfl⟩:=qy _ _ _ _ Z;rw[show Nat.add off (len*P.cellsOf iv)=off+len*P.cellsOf iv from rfl]at p1⊢;refine⟨Nat.le_refl _,fun y=> ?_⟩;refine zD U he J T h1 t1 t2 t3 t5 q (by rw[List.length_append];omega) (y ρ _ _ (.refl ρ) (.we _ _ _ hp) (hR.set hp (by rw[hg];rfl) ?_));refine⟨as.take (off+len*P.cellsOf iv)++xc++as.drop (off+len*P.cellsOf iv+xc.length),S,?_,?_,h4,fun hf=> ?_⟩
        ·rw[List.take_append_of_le_length (by omega),List.drop_append_of_le_length (by omega)];simp only[List.append_assoc]
        ·rw[←cj];exact((h3.take _).app t4).app (h3.drop _)
        ·rw[←h5 hf];simp;omega
      ·simp only[q,decide_false,cond_false,lW.ok.injEq]at h0;obtain⟨rfl,rfl⟩:=h0;refine⟨Nat.le_succ _,fun y=> ?_⟩;cases T with
       |dg hb=>
        rename_i b;obtain⟨b',cur,q1,q2,q3,q4⟩:=U.cells a iv (as++S) h1;rw[hb]at q1;obtain rfl:=Option.some.inj q1;rw[List.length_append]at q3 q4;by_cases db:len*P.cellsOf iv=0
        ·have c0:len=0:=by rcases Nat.mul_eq_zero.1 db with h|h;exact h;exact absurd h J
         subst c0;refine oC (len:=0) (cap:=c) (n:=n) (oc:= []) (olds:= []) U he J X V t1 t2 t3 t5 (by simp) rfl (by simp) (run_firstCells_some (P:=P) w.drew _ 0 ⟨b,off,none⟩ 0 c [] (by simp) (by simp)) (by rw[show Nat.add 0 n=0+n from rfl]at q;omega) (by simpa using r1) (by simpa using r2) ?_;intro id F L D E A;exact fresh (len:=0) (old:= []) (oc:= []) hR c2 (by simp) .nil (fun j=> .inl rfl) (by simp) (by simp) y id F L D E A (fun j=>by
          by_cases o:j=id
          ·exact .inl o
          ·exact .inr (.inr (AS.ag _ _ o)))
        ·have b3:off+len*P.cellsOf iv≤as.length:=by omega
         refine oC (len:=len) (cap:=c) (n:=n) (oc:=(as.drop off).take (len*P.cellsOf iv)) (olds:=(cur.toList.drop off).take (len*P.cellsOf iv)) U he J X V t1 t2 t3 t5 (by simp;omega) (by simp;omega) (fun k y=> ?_)
          (run_firstCells_some (P:=P) w.drew _ len ⟨b,off,none⟩ len c _ (by simp;omega) (fun j u o=> ?_)) (by rw[show Nat.add len n=len+n from rfl]at q;omega) r1 r2 ?_
         ·simp only[List.length_take,List.length_drop]at y;have:=q4 (off+k) (by omega);rw[oQ (by omega)]at this;rw[List.getD_eq_getElem?_getD,List.getElem?_take_of_lt (by omega),List.getElem?_drop,←List.getD_eq_getElem?_getD,List.getD_eq_getElem?_getD (l:=(cur.toList.drop off).take _),List.getElem?_take_of_lt (by omega),List.getElem?_drop];rw[Array.getD_eq_getD_getElem?]at this;simpa using this
         ·have a1:j<len*P.cellsOf iv:=by
           rcases Nat.lt_or_ge j (len*P.cellsOf iv)with h|h
           ·exact h
           ·rw[List.getElem?_eq_none (by simp;omega)]at o;cases o
          rw[List.getElem?_take_of_lt a1,List.getElem?_drop]at o;rw[Addr.add_lit];show w.cell? ⟨b,off+j,none⟩=some u;simp only[World.cell?,q2];simpa using o
         ·intro id F L D E A;exact fresh (len:=len) (old:=(kG cs off).take (len*P.cellsOf iv)) (oc:=(as.drop off).take (len*P.cellsOf iv)) hR c2 (by rw[ga];simp;omega) (by rw[ga];exact(h3.drop _).take _) (fun j=> .inl rfl) rfl rfl y id F L D E A (fun j=>by
           by_cases o:j=id
           ·exact .inl o
           ·exact .inr (.inr (AS.ag _ _ o)))
   | _ =>rw[hg]at h0;cases h0
  |xW off len d hp hlen=>
   rename_i i a N;simp only at h0;cases hg:H.get i with
   |cells iv cs full=>
    rw[hg]at h0;simp only at h0;cases ht:iG (kG cs off) (Nat.mul len (P.cellsOf e))with
    |none=>rw[ht]at h0;cases h0
    |some old=>
     rw[ht]at h0;simp only at h0;obtain⟨k1,rfl⟩:=ju _ _ _ ht;rw[ga,List.length_drop]at k1;rw[show Nat.mul len (P.cellsOf e)=len*P.cellsOf e from rfl]at k1 h0;cases I:(qp (P.bytesOf e) (Nat.add len n)&&Nat.blt H.c 32768&&Nat.beq iv e)with
     |false=>rw[I]at h0;cases h0
     |true=>
      rw[I]at h0;simp only[Bool.and_eq_true,dr,bW,decide_eq_true_eq]at I;obtain⟨⟨c1,c2⟩,rfl⟩:=I;obtain⟨r1,r2⟩:=qo c1;simp only[cond_true]at h0;cases af:(Nat.beq d 0&&Nat.beq off 0&& !full)with
      |false=>rw[af]at h0;cases h0
      |true=>
       rw[af]at h0;simp only[Bool.and_eq_true,bW,decide_eq_true_eq,Bool.not_eq_true']at af;obtain⟨⟨rfl,rfl⟩,rfl⟩:=af;have dn:kG cs 0=cs:=by rw[ga,List.drop_zero]
       rw[dn]at ht h0;simp only[cond_true,lW.ok.injEq]at h0;obtain⟨rfl,rfl⟩:=h0;obtain⟨ab,h1,h2⟩:=hR.rb.at hp (by rw[hg];rfl);rw[hg]at h2;obtain⟨as,S,rfl,h3,h4,h5⟩:=h2;have c9:=h3.len;have eg:=h5 rfl;have c8:(H.get i).live=true:=by rw[hg];rfl
       have b4:(H.set i .z8).c<32768:=c2;refine⟨Nat.le_succ _,fun y=> ?_⟩;have b3:len*P.cellsOf iv≤as.length:=by omega
       have a3:=hR.dropped hp c8;by_cases q:len+n≤N-0
       ·have hN:(len+n)*P.cellsOf iv≤N*P.cellsOf iv:=Nat.mul_le_mul_right _ (by omega);rw[Nat.add_mul]at hN;refine zD U he J T h1 t1 t2 t3 t5 q (by rw[List.length_append];omega) ?_;have a2:BR P (ρ.ext (H.set i .z8).c (a,N)) N (.cells iv (cs.take (len*P.cellsOf iv)++xs) false) (.cells iv ((as++S).take (0+len*P.cellsOf iv)++xc++(as++S).drop (0+len*P.cellsOf iv+xc.length))):=by
         have hle:=br.ou (a3.fresh _ (Nat.le_refl _)) (a,N);refine⟨as.take (len*P.cellsOf iv)++xc,(as++S).drop (len*P.cellsOf iv+xc.length),?_,((h3.take _).app t4).mono hle,(fun h=>by cases h),fun _ => ?_⟩
         ·rw[Nat.zero_add,List.take_append_of_le_length (by omega)]
         ·simp;omega
        obtain⟨g1,g2⟩:=a3.new b4 (by simp) a2;rw[BK]at g2;refine y _ _ _ g1 ?_ g2;exact VR.xW (ρ:=ρ.ext (H.set i .z8).c (a,N)) (i:=(H.set i .z8).c) 0 (len+n) 0 (br.fI ρ (H.set i .z8).c (a,N)) q
       ·cases T with
        |dg hb=>
         rename_i b;obtain⟨b',cur,q1,q2,q3,q4⟩:=U.cells a iv (as++S) h1;rw[hb]at q1;obtain rfl:=Option.some.inj q1;rw[List.length_append]at q3 q4;refine oC (len:=len) (cap:=N-0) (n:=n) (oc:=as.take (len*P.cellsOf iv)) (olds:=cur.toList.take (len*P.cellsOf iv)) U he J X V t1 t2 t3 t5 (by simp;omega) (by simp;omega) (fun k y=> ?_)
          (run_firstCells_some (P:=P) w.drew _ len ⟨b,0,none⟩ len (N-0) _ (by simp;omega) (fun j u o=> ?_)) (by omega) r1 r2 ?_
         ·simp only[List.length_take]at y;have:=q4 k (by omega);rw[oQ (by omega)]at this;rw[List.getD_eq_getElem?_getD,List.getElem?_take_of_lt (by omega),←List.getD_eq_getElem?_getD,List.getD_eq_getElem?_getD (l:=cur.toList.take _),List.getElem?_take_of_lt (by omega)];rw[Array.getD_eq_getD_getElem?]at this;simpa using this
         ·have a1:j<len*P.cellsOf iv:=by
           rcases Nat.lt_or_ge j (len*P.cellsOf iv)with h|h
           ·exact h
           ·rw[List.getElem?_eq_none (by simp;omega)]at o;cases o
          rw[List.getElem?_take_of_lt a1]at o;rw[Addr.add_lit,Nat.zero_add];show w.cell? ⟨b,j,none⟩=some u;simp only[World.cell?,q2];simpa using o
         ·intro id F L D E A;refine fresh (len:=len) (old:=cs.take (len*P.cellsOf iv)) (oc:=as.take (len*P.cellsOf iv)) a3 b4 (by simp;omega) (h3.take _) (fun j=> ?_) rfl rfl y id F L D E A (fun j=> ?_)
          ·by_cases o:j=a
           ·exact .inr (by simp[o])
           ·exact .inl (by simp[o])
          ·by_cases o:j=id
           ·exact .inl o
           ·by_cases b1:j=a
            ·exact .inr (.inl (by simp[b1]))
            ·exact .inr (.inr (by rw[AS.ag _ _ o];simp[b1]))
   | _ =>rw[hg]at h0;cases h0
  |ah full l hl=>
   rename_i e' es as;have hv:=VL.of l hl;cases full with
   |false=>cases h0
   |true=>
    simp only at h0;cases I:(qp (P.bytesOf e) (Nat.add es.length n)&&Nat.blt H.c 32768&&Nat.beq e' e&&Nat.beq (P.cellsOf e) 1&&iy es&&Nat.blt 0 n)with
    |false=>rw[I]at h0;cases h0
    |true=>
     rw[I]at h0;simp only[cond_true,lW.ok.injEq]at h0;obtain⟨rfl,rfl⟩:=h0;simp only[Bool.and_eq_true,dr,bW,decide_eq_true_eq]at I;obtain⟨⟨⟨⟨⟨c1,c2⟩,rfl⟩,c4⟩,c5⟩,c6⟩:=I;obtain⟨r1,r2⟩:=qo c1;obtain⟨o1,o2⟩:=hv.kh c5;refine⟨Nat.le_succ _,fun y=> ?_⟩;have bb:aU P G (.ah e' as .full false) vs:=T;cases bb with
     |ah ce e4 hm be af ho=>
      rename_i b off cap;rw[c4,Nat.mul_one]at hm;simp only[c4]at be;obtain⟨a0,bf⟩:=ho;have ei:cap=as.length:=by injection bf
      refine oC (len:=as.length) (cap:=cap) (n:=n) (oc:=as) (olds:=(List.range as.length).map ce) U he J X V t1 t2 t3 t5 (by simp[c4]) (by simp) (fun k y=> ?_)
       (run_firstCells_some (P:=P) w.drew _ as.length ⟨b,off,none⟩ as.length cap _ (by simp[c4]) (fun j u o=> ?_)) (by omega) (by rw[←l];exact r1) (by rw[←l];exact r2) ?_
      ·have h6:=be k 0 y (by omega);have bv:as.getD k .any∈as:=by rw[List.getD_eq_getElem?_getD,List.getElem?_eq_getElem y];exact List.getElem_mem _
       rw[o1 _ bv]at h6;have h7:=(U.mem _ _ _ (hm k y)).2;refine⟨by simpa[List.getD_eq_getElem?_getD,y]using h6,by simpa[List.getD_eq_getElem?_getD,y]using h7⟩
      ·have b2:j<as.length:=by
        rcases Nat.lt_or_ge j as.length with h|h
        ·exact h
        ·rw[List.getElem?_eq_none (by simpa using h)]at o;cases o
       simp[b2]at o;subst o;rw[Addr.add_lit];exact(U.mem _ _ _ (hm j b2)).1
      ·intro id F L D E A;exact fresh (len:=as.length) (old:=es) (oc:=as) hR c2 (by rw[c4,l,Nat.mul_one]) hv (fun j=> .inl rfl) (by rw[←l];rfl) rfl y id F L D E A (fun j=>by
        by_cases o:j=id
        ·exact .inl o
        ·exact .inr (.inr (AS.ag _ _ o)))
  | _ =>cases h0
end
end Go.AW.Ev
namespace Go.AW.Ev
variable {P:Program}
section
variable {ρ:br} {G:Gh} {σ σ0:AS} {w:World} {H H':Hp} {K Pn:AV→AS→Prop}
theorem VL.K7 {es:List EV}{as:List AV}(h:VL ρ es as) (ha:iy es=true):as.all AV.one=true:=(h.kh ha).2
theorem KQ (hR:R P ρ σ0 H σ) {t e:TypeId}(he:bC P t=some e) (ac:P.cellsOf e≠0) {x y:EV}{X T:AV}(hx:VR ρ x X) (hy:VR ρ y T) {v:EV}
 (h0:AM e (P.cellsOf e) (GI e (P.cellsOf e) y H) x H= .ok v H'):H.c≤H'.c∧((∀u q σ',br.le ρ u→VR u v q→R P u σ0 H' σ'→K q σ')→fK P σ t X T K):=by
 have main:∀ {i a off len cap N:Nat} {V:Mn},x= .sl i off len V→ρ i=some (a,N)→X= .dg a off len cap→H.c≤H'.c∧((∀u q σ',br.le ρ u→VR u v q→R P u σ0 H' σ'→K q σ')→fK P σ t X T K):=by
  rintro i a off len cap N V rfl S rfl;simp only[AM]at h0;cases o:GI e (P.cellsOf e) y H with
  |none=>rw[o]at h0;cases h0
  |some p=>
   obtain⟨n,xs⟩:=p;rw[o]at h0;cases U:H.get i with
   |cells ty cs full=>
    rw[U]at h0;simp only at h0;cases ht:iG xs (Nat.mul (Nat.min n len) (P.cellsOf e))with
    |none=>rw[ht]at h0;cases h0
    |some ys=>
     rw[ht]at h0;simp only at h0;cases F:sG cs off (Nat.mul len (P.cellsOf e))with
     |none=>rw[F]at h0;cases h0
     |some zs=>
      cases D:rG cs off ys with
      |none=>rw[F,D]at h0;cases h0
      |some cs'=>
       rw[F,D]at h0;simp only[lW.ok.injEq]at h0;obtain⟨rfl,rfl⟩:=h0;obtain⟨p1,rfl⟩:=qy _ _ _ _ D;obtain⟨q1,rfl⟩:=ju _ _ _ ht;obtain⟨r1,_⟩:=uQ _ _ _ _ F;rw[show Nat.mul (Nat.min n len) (P.cellsOf e)=Nat.min n len*P.cellsOf e from rfl]at p1 q1⊢;rw[show Nat.mul len (P.cellsOf e)=len*P.cellsOf e from rfl]at r1;obtain⟨ab,h1,h2⟩:=hR.rb.at S (by rw[U];rfl);rw[U]at h2;obtain⟨as,Y,rfl,h3,h4,h5⟩:=h2;have hlen:=h3.len;have src:∃q,bU P σ e T=some (n,q)∧VL ρ xs q:=by
        have dg:∀ {j b A n2 L M:Nat} {V:Mn},y= .sl j A n2 V→ρ j=some (b,M)→T= .dg b A n2 L→ ∃q,bU P σ e T=some (n,q)∧VL ρ xs q:=by
         rintro j b A n2 L M V rfl E rfl;simp only[GI]at o;cases I:H.get j with
         |cells a2 al ak=>
          rw[I]at o;simp only at o;cases O:sG al A (Nat.mul n2 (P.cellsOf e))with
          |none=>rw[O]at o;cases o
          |some l=>rw[O]at o;simp only[Option.some.injEq,Prod.mk.injEq]at o;obtain⟨rfl,rfl⟩:=o;obtain⟨t1,rfl⟩:=uQ _ _ _ _ O;rw[show Nat.mul n2 (P.cellsOf e)=n2*P.cellsOf e from rfl]at t1⊢;obtain⟨bv,g1,g2⟩:=hR.rb.at E (by rw[I];rfl);rw[I]at g2;obtain⟨Q,am,rfl,g3,_⟩:=g2;have gl:=g3.len;refine⟨(Q.drop A).take (n2*P.cellsOf e),?_,(g3.drop _).take _⟩;simp only[bU,g1];rw[if_pos (by rw[List.length_append];omega),A4 (by omega)]
         | _ =>rw[I]at o;cases o
        cases hy with
        |aC=>cases o
        |we A n2 c2 E=>exact dg rfl E rfl
        |xW A n2 d2 E hl=>exact dg rfl E rfl
        |ah fl l hl=>
         rename_i e' es Q;have hv:=VL.of l hl;simp only[GI]at o;cases J:(Nat.beq e' e&&Nat.beq (P.cellsOf e) 1&&iy es)with
         |false=>rw[J]at o;cases o
         |true=>rw[J]at o;simp only[cond_true,Option.some.injEq,Prod.mk.injEq]at o;obtain⟨rfl,rfl⟩:=o;simp only[Bool.and_eq_true,bW,decide_eq_true_eq]at J;obtain⟨⟨rfl,c4⟩,c5⟩:=J;refine⟨Q,?_,hv⟩;simp only[bU];rw[if_pos ⟨trivial,c4,hv.K7 c5⟩,l]
        | _ =>cases o
       obtain⟨q,s1,s2⟩:=src;have s3:=s2.len;refine⟨Nat.le_refl _,fun hk=> ?_⟩;unfold fK;simp only[he,h1,s1];have ar:Nat.min n len*P.cellsOf e≤q.length:=by omega
       refine⟨ac,?_,?_⟩
       ·rw[List.length_append];omega
       ·have Z:(q.take (Nat.min n len*P.cellsOf e)).length=(xs.take (Nat.min n len*P.cellsOf e)).length:=by simp;omega
        refine hk ρ _ _ (.refl ρ) (.int _ _) (hR.set S (by rw[U];rfl) ?_);refine⟨as.take off++q.take (Nat.min n len*P.cellsOf e)++as.drop (off+(q.take (Nat.min n len*P.cellsOf e)).length),Y,?_,?_,h4,fun hf=> ?_⟩
        ·rw[List.take_append_of_le_length (by omega),List.drop_append_of_le_length (by omega)];simp only[List.append_assoc]
        ·rw[Z];exact((h3.take _).app (s2.take _)).app (h3.drop _)
        ·rw[←h5 hf];rw[List.length_append,List.length_append,List.length_take,List.length_drop];omega
   | _ =>rw[U]at h0;cases h0
 cases hx with
 |we off len c S=>exact main rfl S rfl
 |xW off len d S hl=>exact main rfl S rfl
 | _ =>cases h0
theorem CE {a b:ByteArray} :KK a b=decide (a=b):=by
 unfold KK;congr 1;simp only[eq_iff_iff];constructor
 ·intro h;cases a;cases b;simp only at h;rw[Array.toList_inj.1 h]
 ·rintro rfl;rfl
theorem Fk {k:ByteArray} :∀ {es:List (EV×EV)}{as:List (AV×AV)}{r:Option EV},PL ρ es as→((∃j,as=cx j)∨ ∃j,as=dz j)→oE (.sc (.string k)) es=some r→
 (∀j,as=cx j→match r with|some v=> ∃a,fH k j=some a∧VR ρ v a|none=>fH k j=none)∧ ∃j,as=cx j:=by
 intro es;induction es with
 |nil=>
  intro as r D A h;cases as with
  |cons _ _ =>exact D.elim
  |nil=>
   simp only[oE,Option.some.injEq]at h;subst h;refine⟨fun j o=> ?_,[],rfl⟩;cases j with
   |nil=>rfl
   |cons _ _ =>simp[cx]at o
 |cons p es L=>
  intro as r D A h;obtain⟨k',v⟩:=p;cases as with
  |nil=>exact D.elim
  |cons q as=>
   obtain⟨S,E⟩:=q;obtain⟨h1,Q,O⟩:=D;simp only[oE]at h;cases h1<;>(try simp only at h)<;>first|(cases h;done)|skip
   rename_i J;cases J<;>(try simp only at h)<;>first|(cases h;done)|skip
   rename_i b;have M:∃j,(AV.sc (.string b),E)::as=cx j:=by
    rcases A with A|⟨j,A⟩
    ·exact A
    ·cases j with
     |nil=>simp[dz]at A
     |cons _ _ =>simp[dz]at A
   obtain⟨n,y⟩:=M;cases n with
   |nil=>simp[cx]at y
   |cons I n=>
    obtain⟨b0,v0⟩:=I;simp only[cx,List.map_cons,List.cons.injEq,Prod.mk.injEq,AV.sc.injEq,Value.string.injEq]at y;obtain⟨⟨rfl,rfl⟩,u⟩:=y;refine⟨fun j o=> ?_,(b,E)::n,by simp[cx,u]⟩;cases j with
    |nil=>simp[cx]at o
    |cons F j=>
     obtain⟨T,v1⟩:=F;simp only[cx,List.map_cons,List.cons.injEq,Prod.mk.injEq,AV.sc.injEq,Value.string.injEq]at o;obtain⟨⟨rfl,rfl⟩,l⟩:=o;rw[CE]at h;by_cases he:k=b
     ·simp only[he,decide_true,cond_true,Option.some.injEq]at h;subst h;exact⟨_,by simp[fH,he],Q⟩
     ·simp only[he,decide_false,cond_false]at h;have:=(L O (.inl ⟨j,l⟩) h).1 j l;simpa only[fH,if_neg he]using this
theorem Fl {k:Int} :∀ {es:List (EV×EV)}{as:List (AV×AV)}{r:Option EV},PL ρ es as→((∃j,as=cx j)∨ ∃j,as=dz j)→oE (.int .i64 k) es=some r→
 (∀j,as=dz j→match r with|some v=> ∃a,jU k j=some a∧VR ρ v a|none=>jU k j=none)∧ ∃j,as=dz j:=by
 intro es;induction es with
 |nil=>
  intro as r D A h;cases as with
  |cons _ _ =>exact D.elim
  |nil=>
   simp only[oE,Option.some.injEq]at h;subst h;refine⟨fun j o=> ?_,[],rfl⟩;cases j with
   |nil=>rfl
   |cons _ _ =>simp[dz]at o
 |cons p es J=>
  intro as r D A h;obtain⟨k',v⟩:=p;cases as with
  |nil=>exact D.elim
  |cons q as=>
   obtain⟨Q,E⟩:=q;obtain⟨h1,O,M⟩:=D;simp only[oE]at h;cases h1<;>(try simp only at h)<;>first|(cases h;done)|skip
   rename_i kd b;cases kd<;>(try simp only at h)<;>first|(cases h;done)|skip
   have L:∃j,(AV.sc (.int .i64 b),E)::as=dz j:=by
    rcases A with⟨j,A⟩|A
    ·cases j with
     |nil=>simp[cx]at A
     |cons _ _ =>simp[cx]at A
    ·exact A
   obtain⟨n,y⟩:=L;cases n with
   |nil=>simp[dz]at y
   |cons I n=>
    obtain⟨b0,v0⟩:=I;simp only[dz,List.map_cons,List.cons.injEq,Prod.mk.injEq,AV.sc.injEq,Value.int.injEq,true_and]at y;obtain⟨⟨rfl,rfl⟩,u⟩:=y;refine⟨fun j o=> ?_,(b,E)::n,by simp[dz,u]⟩;cases j with
    |nil=>simp[dz]at o
    |cons F j=>
     obtain⟨S,v1⟩:=F;simp only[dz,List.map_cons,List.cons.injEq,Prod.mk.injEq,AV.sc.injEq,Value.int.injEq,true_and]at o;obtain⟨⟨rfl,rfl⟩,l⟩:=o;rw[oF]at h;by_cases he:k=b
     ·simp only[he,decide_true,cond_true,Option.some.injEq]at h;subst h;exact⟨_,by simp[jU,he],O⟩
     ·simp only[he,decide_false,cond_false]at h;have:=(J M (.inr ⟨j,l⟩) h).1 j l;simpa only[jU,if_neg he]using this
theorem Al {j:TypeId}{ok:Bool}{r:Option EV}{q:Option AV}(h:match r with|some v=> ∃a,q=some a∧VR ρ v a|none=>q=none):VR ρ (kA ok (zeroV P j) r) (AW.kA P j q ok):=by
 cases r with
 |some v=>
  obtain⟨a,rfl,l⟩:=h;cases ok
  ·exact l
  ·exact VR.By (.cons l (.cons (.bool true) .nil))
 |none=>
  simp only at h;subst h;cases ok
  ·exact VR.zero ρ j
  ·exact VR.By (.cons (VR.zero ρ j) (.cons (.bool false) .nil))
theorem E6 (Q:Inv P G σ w) (hb:RB P ρ H σ) {t o F:TypeId}(hm:P.underlying t=some (.map o F)) (y:wz P o=true) (Y:(zeroV P F).laid=true) {ok:Bool}{x k:EV}{U X:AV}{L M:Value}
 (Z:VR ρ x U) (O:VR ρ k X) (D:aU P G U L) (E:aU P G X M) (h0:ub ok (rP P o) (zeroV P F) x k H≠ .any) (h:∀V,VR ρ (ub ok (rP P o) (zeroV P F) x k H) V→K V σ):
 Out P G K Pn (((do pure (Next.value (←Instr.lookup t L M ok))):Sem Next).run P w):=by
 have A:=lh (VR.zero (P:=P) ρ F) Y;cases Z with
 |mp hp=>
  rename_i i a N;simp only[ub]at h h0;cases J:H.get i with
  |map es=>
   rw[J]at h h0;simp only at h h0;obtain⟨as,h1,T,S⟩:=hb.map hp J;cases l:H4 k with
   |true=>
    cases O with
    |int kd n=>
     cases kd<;>first|(cases l;done)|skip
     cases j:rP P o with
     |false=>rw[j]at h0;exact absurd rfl h0
     |true=>
      rw[j]at h h0;simp only[H4,gN,cond_true]at h h0;cases hf:oE (.int .i64 n) es with
      |none=>rw[hf]at h0;exact absurd rfl h0
      |some r=>
       rw[hf]at h;obtain⟨f1,q,rfl⟩:=Fl T S hf;have u:P.underlying o=some (.int .i64):=by
        unfold rP at j;split at j
        ·assumption
        ·cases j
       exact sJ Q hm u A D E h1 (h _ (Al (f1 q rfl)))
    | _ =>cases l
   |false=>
    cases j:rP P o with
    |true=>rw[j]at h0;simp only[l,gN]at h0;exact absurd rfl h0
    |false=>
     rw[j]at h h0;simp only[l,gN,Bool.not_false,cond_true]at h h0;cases hf:oE k es with
     |none=>rw[hf]at h0;cases I:I8 k<;>rw[I]at h0<;>exact absurd rfl h0
     |some r=>
      rw[hf]at h;have u:P.underlying o=some .string:=by
       unfold wz at y;unfold rP at j;split at y
       ·assumption
       ·rename_i hu;rw[hu]at j;cases j
       ·cases y
      cases O with
      |sc v=>
       cases v with
       |string s=>obtain⟨f1,q,rfl⟩:=Fk T S hf;exact uZ Q hm u A D E h1 (h _ (Al (f1 q rfl)))
       | _ =>simp only[I8]at h0;exact absurd rfl h0
      | _ =>simp only[I8]at h0;exact absurd rfl h0
  | _ =>rw[J]at h0;exact absurd rfl h0
 | _ =>exact absurd rfl h0
end
end Go.AW.Ev
namespace Go.AW.Ev
variable {P:Program}
section
variable {ρ:br} {G:Gh} {σ σ0:AS} {w:World} {H H':Hp} {K Pn:AV→AS→Prop}
theorem Gm {k:ByteArray}{v:EV}{I:AV}(E:VR ρ v I):∀ {es o:List (EV×EV)}{as:List (AV×AV)},PL ρ es as→((∃j,as=cx j)∨ ∃j,as=dz j)→wa (.sc (.string k)) v es=some o→
 ∃j,as=cx j∧PL ρ o (cx (ja k I j)):=by
 intro es;induction es with
 |nil=>
  intro o as A y h;cases as with
  |cons _ _ =>exact A.elim
  |nil=>simp only[wa,Option.some.injEq]at h;subst h;exact⟨[],rfl,.sc _,E,trivial⟩
 |cons p es M=>
  intro o as A y h;obtain⟨k',T⟩:=p;cases as with
  |nil=>exact A.elim
  |cons q as=>
   obtain⟨U,D⟩:=q;obtain⟨h1,Q,F⟩:=A;simp only[wa]at h;cases h1<;>(try simp only at h)<;>first|(cases h;done)|skip
   rename_i L;cases L<;>(try simp only at h)<;>first|(cases h;done)|skip
   rename_i b;have O:∃j,(AV.sc (.string b),D)::as=cx j:=by
    rcases y with y|⟨j,y⟩
    ·exact y
    ·cases j with
     |nil=>simp[dz]at y
     |cons _ _ =>simp[dz]at y
   obtain⟨l,u⟩:=O;cases l with
   |nil=>simp[cx]at u
   |cons J l=>
    obtain⟨b0,v0⟩:=J;simp only[cx,List.map_cons,List.cons.injEq,Prod.mk.injEq,AV.sc.injEq,Value.string.injEq]at u;obtain⟨⟨rfl,rfl⟩,n⟩:=u;rw[CE]at h;by_cases he:k=b
    ·simp only[he,decide_true,cond_true,Option.some.injEq]at h;subst h;refine⟨(b,D)::l,by simp[cx,n],?_⟩;simp only[ja,he,if_true];exact⟨.sc _,E,by rw[show List.map _ l=as from n.symm];exact F⟩
    ·simp only[he,decide_false,cond_false,Option.map_eq_some_iff]at h;obtain⟨S,g1,rfl⟩:=h;obtain⟨j,g2,g3⟩:=M F (.inl ⟨l,n⟩) g1;refine⟨(b,D)::j,by simp[cx,g2],?_⟩;simp only[ja,if_neg he];exact⟨.sc _,Q,g3⟩
theorem Gn {k:Int}{v:EV}{I:AV}(E:VR ρ v I):∀ {es o:List (EV×EV)}{as:List (AV×AV)},PL ρ es as→((∃j,as=cx j)∨ ∃j,as=dz j)→wa (.int .i64 k) v es=some o→
 ∃j,as=dz j∧PL ρ o (dz (v9 k I j)):=by
 intro es;induction es with
 |nil=>
  intro o as A y h;cases as with
  |cons _ _ =>exact A.elim
  |nil=>simp only[wa,Option.some.injEq]at h;subst h;exact⟨[],rfl,.int _ _,E,trivial⟩
 |cons p es L=>
  intro o as A y h;obtain⟨k',S⟩:=p;cases as with
  |nil=>exact A.elim
  |cons q as=>
   obtain⟨T,D⟩:=q;obtain⟨h1,O,F⟩:=A;simp only[wa]at h;cases h1<;>(try simp only at h)<;>first|(cases h;done)|skip
   rename_i kd b;cases kd<;>(try simp only at h)<;>first|(cases h;done)|skip
   have M:∃j,(AV.sc (.int .i64 b),D)::as=dz j:=by
    rcases y with⟨j,y⟩|y
    ·cases j with
     |nil=>simp[cx]at y
     |cons _ _ =>simp[cx]at y
    ·exact y
   obtain⟨l,u⟩:=M;cases l with
   |nil=>simp[dz]at u
   |cons J l=>
    obtain⟨b0,v0⟩:=J;simp only[dz,List.map_cons,List.cons.injEq,Prod.mk.injEq,AV.sc.injEq,Value.int.injEq,true_and]at u;obtain⟨⟨rfl,rfl⟩,n⟩:=u;rw[oF]at h;by_cases he:k=b
    ·simp only[he,decide_true,cond_true,Option.some.injEq]at h;subst h;refine⟨(b,D)::l,by simp[dz,n],?_⟩;simp only[v9,he,if_true];exact⟨.int _ _,E,by rw[show List.map _ l=as from n.symm];exact F⟩
    ·simp only[he,decide_false,cond_false,Option.map_eq_some_iff]at h;obtain⟨Q,g1,rfl⟩:=h;obtain⟨j,g2,g3⟩:=L F (.inr ⟨l,n⟩) g1;refine⟨(b,D)::j,by simp[dz,g2],?_⟩;simp only[v9,if_neg he];exact⟨.int _ _,O,g3⟩
theorem Em (Z:Inv P G σ w) (Q:R P ρ σ0 H σ) {t A et:TypeId}(hm:P.underlying t=some (.map A et)) (y:wz P A=true) {x k v r:EV}{ax ak J:AV}{T V U:Value}
 (hx:VR ρ x ax) (Y:VR ρ k ak) (X:VR ρ v J) (D:aU P G ax T) (F:aU P G ak V) (E:aU P G J U) (h0:jo (rP P A) x k v H= .ok r H'):
 H.c≤H'.c∧((∀q J σ',br.le ρ q→VR q r J→R P q σ0 H' σ'→K J σ')→Out P G K Pn (((do Instr.mapUpdate t T V U;pure Next.skip):Sem Next).run P w)):=by
 cases hx with
 |mp O=>
  rename_i i a N;simp only[jo]at h0;cases I:H.get i with
  |map es=>
   rw[I]at h0;simp only at h0;obtain⟨as,h1,h2,h3⟩:=Q.rb.map O I;cases l:(gN (rP P A) (H4 k)&&(H4 k||I8 k))with
   |false=>rw[l]at h0;cases h0
   |true=>
    rw[l]at h0;simp only[cond_true]at h0;simp only[Bool.and_eq_true,jn,beq_iff_eq]at l;obtain⟨o,S⟩:=l;cases hu:wa k v es with
    |none=>rw[hu]at h0;cases h0
    |some ar=>
     rw[hu]at h0;simp only[lW.ok.injEq]at h0;obtain⟨rfl,rfl⟩:=h0;refine⟨Nat.le_refl _,fun hK=> ?_⟩;cases j:H4 k with
     |true=>
      rw[j]at o;cases Y with
      |int kd n=>
       cases kd<;>first|(cases j;done)|skip
       obtain⟨M,rfl,g2⟩:=Gn X h2 h3 hu;have u:P.underlying A=some (.int .i64):=by
        unfold rP at o;split at o
        ·assumption
        ·cases o
       exact uY Z hm u D F E h1 (hK ρ _ _ (.refl ρ) (.any _) (Q.set O (by rw[I];rfl) ⟨_,rfl,g2,.inr ⟨_,rfl⟩⟩))
      | _ =>cases j
     |false=>
      rw[j]at o S;have u:P.underlying A=some .string:=by
       unfold wz at y;unfold rP at o;split at y
       ·assumption
       ·rename_i hu;rw[hu]at o;cases o
       ·cases y
      cases Y with
      |sc L=>
       cases L with
       |string s=>obtain⟨M,rfl,g2⟩:=Gm X h2 h3 hu;exact pO Z hm u D F E h1 (hK ρ _ _ (.refl ρ) (.any _) (Q.set O (by rw[I];rfl) ⟨_,rfl,g2,.inl ⟨_,rfl⟩⟩))
       | _ =>cases S
      | _ =>cases S
  | _ =>rw[I]at h0;cases h0
 | _ =>cases h0
theorem Dx (u:R P ρ σ0 H σ) {x r:EV}{D:AV}(F:VR ρ x D) (h0:vB x H= .ok r H'):H.c≤H'.c∧((∀l E σ',br.le ρ l→VR l r E→R P l σ0 H' σ'→K E σ')→ri σ D true K):=by
 cases F with
 |ptr off y=>
  rename_i i a N;cases off with
  |succ o=>cases h0
  |zero=>
   simp only[vB]at h0;cases n:H.get i with
   |gA b pos=>
    rw[n]at h0;simp only[dr]at h0;obtain⟨I,h1,A⟩:=u.rb.at y (by rw[n];rfl);rw[n]at A;have v:I= .gA b pos:=A;subst v;by_cases j:pos<b.size
    ·simp only[j,decide_true,cond_true,lW.ok.injEq]at h0;obtain⟨rfl,rfl⟩:=h0;refine⟨Nat.le_refl _,fun q=> ?_⟩;unfold ri;simp only[h1];refine⟨trivial,?_⟩;unfold xh;rw[if_pos j];exact q ρ _ _ (.refl ρ) (VR.By (.cons (.bool true) (.cons (.int _ _) (.cons (.int _ _) .nil)))) (u.set y (by rw[n];rfl) rfl)
    ·simp only[j,decide_false,cond_false,lW.ok.injEq]at h0;obtain⟨rfl,rfl⟩:=h0;refine⟨Nat.le_refl _,fun q=> ?_⟩;unfold ri;simp only[h1];refine⟨trivial,?_⟩;unfold xh;rw[if_neg j];exact q ρ _ _ (.refl ρ) (VR.By (.cons (.bool false) .nil)) u
   | _ =>rw[n]at h0;cases h0
 | _ =>cases h0
theorem zm:∀ {l:List EV}{as:List AV}{j:zY},VL ρ l as→sv l=some j→sW as=some j:=by
 intro l as j h;induction h generalizing j with
 |nil=>intro h;simp only[sv,Option.some.injEq]at h;subst h;rfl
 |cons u _ q=>
  intro h;simp only[sv]at h;cases u<;>(try simp only at h)<;>first|(cases h;done)|skip
  rename_i k n;cases k<;>(try simp only at h)<;>first|(cases h;done)|skip
  cases n<;>(try simp only at h)<;>first|(cases h;done)|skip
  rename_i m;rw[dr]at h;by_cases hm:m<256
  ·simp only[hm,decide_true,cond_true,Option.map_eq_some_iff]at h;obtain⟨r,h1,rfl⟩:=h;have o:=q h1;unfold sW at o⊢;rw[List.mapM_cons,o];have:zn (.sc (.int .u8 (Int.ofNat m)))=some (UInt8.ofNat m):=by simp only[zn];rw[if_pos ⟨by simp,by show(m:Int)<256;omega⟩];rfl
   rw[this];rfl
  ·simp only[hm,decide_false,cond_false]at h;cases h
theorem Fx (y:Inv P G σ w) (hb:RB P ρ H σ) {src dst e:TypeId}(J:P.underlying src=some (.slice e)) (M:P.underlying dst=some .string) (he:zo P e=true) {x:EV}{U:AV}{F:Value}(hx:VR ρ x U) (n:aU P G U F)
 (h0:vF P x H≠ .any) (h:∀av,VR ρ (vF P x H) av→K av σ):Out P G K Pn (((do pure (Next.value (←convert src dst F))):Sem Next).run P w):=by
 obtain⟨T,e2⟩:=xP he;have dg:∀ {i a off len cap N:Nat} {Z:Mn},x= .sl i off len Z→ρ i=some (a,N)→U= .dg a off len cap→Out P G K Pn (((do pure (Next.value (←convert src dst F))):Sem Next).run P w):=by
  rintro i a off len cap N Z rfl o rfl;simp only[vF]at h h0;cases A:H.get i with
  |cells ty cs full=>
   rw[A]at h h0;simp only at h h0;cases ht:iG (kG cs off) len with
   |none=>rw[ht]at h0;exact absurd rfl h0
   |some l=>
    rw[ht]at h h0;simp only at h h0;cases hu:sv l with
    |none=>rw[hu]at h0;exact absurd rfl h0
    |some E=>
     rw[hu]at h;obtain⟨t1,rfl⟩:=ju _ _ _ ht;rw[ga,List.length_drop]at t1;obtain⟨ab,h1,Y⟩:=hb.at o (by rw[A];rfl);rw[A]at Y;obtain⟨as,I,rfl,X,_⟩:=Y;have hlen:=X.len;rw[ga]at hu;have q:=zm ((X.drop off).take len) hu;obtain⟨b1,b2⟩:=vP q;cases n with
     |dg S=>
      rename_i b;obtain⟨b',cur,k1,k2,k3,k4⟩:=y.cells a ty (as++I) h1;rw[S]at k1;obtain rfl:=Option.some.inj k1;rw[List.length_append]at k3 k4;have Q:E.length=len:=by
       have:((as.drop off).take len).length=len:=by simp;omega
       omega
      refine Out.pure y (v:= .string ⟨E.toArray⟩) ?_ (.sc _) (h _ (.sc _));have:=run_convert_bytes_back (P:=P) w src dst e ⟨b,off,none⟩ cap E J T M (fun j hj=> ?_)
      ·rw[Q]at this;exact this
      ·have L:off+j<as.length:=by omega
       have D:=(k4 (off+j) (by omega)).1;rw[oQ L]at D;have V:=b2 j (by simp;omega);rw[List.getD_eq_getElem?_getD,List.getElem?_take_of_lt (by omega),List.getElem?_drop,←List.getD_eq_getElem?_getD]at V;rw[V]at D;rw[Addr.add_lit];show w.cell? ⟨b,off+j,none⟩= _;rw[gv k2 (by omega)];generalize cur.getD (off+j) undef=u at D;cases D;simp[List.getD_eq_getElem?_getD,List.getElem?_eq_getElem hj]
  | _ =>rw[A]at h0;exact absurd rfl h0
 cases hx with
 |aC=>exact ns y n (by simp only[cU,J,M];exact⟨T,h _ (.sc _)⟩)
 |we off len c o=>exact dg rfl o rfl
 |xW off len d o hl=>exact dg rfl o rfl
 |ah full l hl=>
  rename_i e' es as;have hv:=VL.of l hl;simp only[vF]at h h0;cases O:(Nat.beq (P.cellsOf e') 1)with
  |false=>rw[O]at h0;exact absurd rfl h0
  |true=>
   rw[O]at h h0;simp only[cond_true]at h h0;cases hu:sv es with
   |none=>rw[hu]at h0;exact absurd rfl h0
   |some E=>rw[hu]at h;refine ns y n ?_;simp only[cU,J,M,zm hv hu];exact⟨T,Nat.eq_of_beq_eq_true O,h _ (.sc _)⟩
 | _ =>exact absurd rfl h0
theorem Fh {as:List AV}(h:∀v∈as,v.cells= [v]):aR as=as:=by
 induction as with
 |nil=>rfl
 |cons a r j=>rw[fZ,h a (by simp),j (fun v l=>h v (by simp[l]))];rfl
end
end Go.AW.Ev
