/- A layer of abstract values over the model's machine: own work for this claim, part AwOps5. -/
import Derived.Laws.StructEq
import Derived.Laws.IdiomStrings
import Derived.MapKept
import Derived.Orders
import Derived.Still
import Derived.Test.YtknalmoackcpbaaGreatAwCore
set_option linter.all false
open Go Go.RowKit List
namespace Go.AW
variable {P:Program} {G:Gh} {σ:AS} {w:World} {K Pn:AV→AS→Prop}
def Lk {α:Type}[BEq α] [LawfulBEq α] [DecidableEq α] (a b:α):(a==b)=decide (a=b):=by
 by_cases h:a=b
 ·simp[h]
 ·simp[h]
def fj (op:BinOp) (k:IntKind) (a b:Int) (K:Value→Prop):Prop:=
 match op with
 |.add=>K (.int k (k.wrap (a+b)))
 |.sub=>K (.int k (k.wrap (a-b)))
 |.mul=>K (.int k (k.wrap (a*b)))
 |.quo=>b≠0∧K (.int k (k.wrap (a.tdiv b)))
 |.rem=>b≠0∧K (.int k (a.tmod b))
 |.and=>K (.int k (k.wrap (BitVec.ofInt k.bits a&&& BitVec.ofInt k.bits b).toNat))
 |.or=>K (.int k (k.wrap (BitVec.ofInt k.bits a|||BitVec.ofInt k.bits b).toNat))
 |.xor=>K (.int k (k.wrap (BitVec.ofInt k.bits a^^^BitVec.ofInt k.bits b).toNat))
 |.andNot=>K (.int k (k.wrap (BitVec.ofInt k.bits a&&& ~~~(BitVec.ofInt k.bits b)).toNat))
 |.eql=>K (.bool (decide (a=b)))
 |.neq=>K (.bool (decide (a≠b)))
 |.lss=>K (.bool (a<b))
 |.leq=>K (.bool (a≤b))
 |.gtr=>K (.bool (b<a))
 |.geq=>K (.bool (b≤a))
 | _ =>False
def yh (op:BinOp) (k:IntKind) (a b:Int) (K:Value→Prop):Prop:=
 match op with
 |.shl=>0≤b∧K (.int k (k.wrap (a*2^(min b.toNat k.bits))))
 |.shr=>0≤b∧K (.int k (a.fdiv (2^(min b.toNat k.bits))))
 | _ =>False
def sh:BinOp→Bool|.shl|.shr=>true| _ =>false
def uu (op:BinOp) (a b:ByteArray) (K:Value→Prop):Prop:=
 match op with
 |.eql=>K (.bool (decide (a.data.toList=b.data.toList)))
 |.neq=>K (.bool (decide (a.data.toList≠b.data.toList)))
 |.add=>a.size+b.size≤9223372036854775807∧K (.string (a++b))
 | _ =>False
mutual
def jm (P:Program):Nat→TypeId→AV→AV→Option Bool
 |0,_,_,_ =>none
 |d+1,t,x,y=>match x,y with
  |.sc (.int k a),.sc (.int k' b)=>match P.underlying t with|some (.int _)=>if k=k' then some (decide (a=b))else none| _ =>none
  |.sc (.bool a),.sc (.bool b)=>match P.underlying t with|some .bool=>some (a==b)| _ =>none
  |.sc (.string a),.sc (.string b)=>match P.underlying t with|some .string=>some (decide (a.data.toList=b.data.toList))| _ =>none
  |.agg xs,.agg g=>match P.underlying t with|some (.struct fs)=>if P.stoodInHeld t then none else pS P d fs.toList xs g| _ =>none
  | _,_ =>none
def pS (P:Program):Nat→List Field→List AV→List AV→Option Bool
 | _,[],_,_ =>some true
 |d,f::fs,xs,g=>if f.name= "_" then none else
  match fX P f.type with
  |.one=>if f.offset<xs.length∧f.offset<g.length then
   match jm P d f.type (xs.getD f.offset .any) (g.getD f.offset .any),pS P d fs xs g with
   |some r,some h=>some (r&&h)
   | _,_ =>none
   else none
  |.agg n=>if n≠0∧f.offset+n≤xs.length∧f.offset+n≤g.length then
   match jm P d f.type (.agg ((xs.drop f.offset).take n)) (.agg ((g.drop f.offset).take n)),pS P d fs xs g with
   |some r,some h=>some (r&&h)
   | _,_ =>none
   else none
  |.bad=>none
end
def vq {t:TypeId}{xs:List AV}{vs:Array Value}{off:Nat}(h:gi P G xs vs):
 (fX P t= .one→off<xs.length→(part t vs off).run P w= .ok (vs.getD off undef) w∧aV P G (xs.getD off .any) (vs.getD off undef))∧
 (∀n,fX P t= .agg n→n≠0→off+n≤xs.length→ ∃v,(part t vs off).run P w= .ok v w∧aV P G (.agg ((xs.drop off).take n)) v):=by
 constructor
 ·intro hl j;obtain⟨k1,o⟩:=vD (w:=w) hl;have l:off<vs.size:=by rw[h.1];exact j
  refine⟨?_,h.2 off j⟩;simp[part,k1,l]
 ·intro n hl E j;obtain⟨k1,o⟩:=vE (w:=w) hl;obtain⟨i,g,q,_⟩:=bS (P:=P) (t:=t) (by omega);have h1:=h.1;refine⟨.agg ((vs.toList.drop off).take n).toArray,?_,.agg _ (by simp;omega) (fun k u=> ?_)⟩
  ·have y:vs.extract off (off+i.size)=((vs.toList.drop off).take n).toArray:=by
    have:off+i.size-off=n:=by omega
    apply Array.ext';simp[this]
   simp[part,k1,sizeOf,run_typeInfo w g,y]
  ·have d:k<n:=by simp at u;omega
   have:=h.2 (off+k) (by omega);simp only[getD_eq_getElem?_getD]at this⊢;rw[getElem?_take_of_lt d,getElem?_take_of_lt d,getElem?_drop,getElem?_drop];simpa using this
def OP:∀(d:Nat),(∀(t:TypeId) (x y:AV) (r:Bool) (i g:Value) (D:Nat),d≤D→jm P d t x y=some r→aV P G x i→aV P G y g→(Op.equalIn D t i g).run P w= .ok r w)∧
 (∀(fs:List Field) (xs l:List AV) (r:Bool) (i g:Array Value) (D:Nat),d≤D→pS P d fs xs l=some r→gi P G xs i→gi P G l g→(Op.eqFields D i g fs).run P w= .ok r w):=by
 intro d;induction d with
 |zero=>
  refine⟨fun t x y r i g D _ h _ _ =>by simp[jm]at h,fun fs=> ?_⟩;induction fs with
  |nil=>intro xs l r i g D _ h _ _;simp[pS]at h;subst h;simp[Op.eqFields]
  |cons f fs ih=>
   intro xs l r i g D _ h _ _;simp only[pS]at h;split at h
   ·cases h
   ·split at h<;>(try (split at h))<;>(try cases h)<;>(split at h<;>first|(rename_i h1 h2;simp[jm]at h1)|cases h)
 |succ d ih=>
  have X:∀(t:TypeId) (x y:AV) (r:Bool) (i g:Value) (D:Nat),d+1≤D→jm P (d+1) t x y=some r→aV P G x i→aV P G y g→(Op.equalIn D t i g).run P w= .ok r w:=by
   intro t x y r i g D I h E v;obtain⟨F,rfl⟩:∃F,D=F+1:=⟨D-1,by omega⟩;unfold jm at h;split at h
   ·cases E;cases v;split at h
    ·rename_i k1 a k2 b q hu;split at h
     ·rename_i H;subst H;cases h;rw[run_equalIn_int w F t _ _ _ _ hu,Lk]
     ·cases h
    ·cases h
   ·cases E;cases v;split at h
    ·rename_i hu;cases h;exact run_equalIn_bool' w F t _ _ hu
    ·cases h
   ·cases E;cases v;split at h
    ·rename_i hu;cases h;rw[run_equalIn_string w F t _ _ hu,ByteArray.toList_eq,ByteArray.toList_eq,Lk]
    ·cases h
   ·cases E with
    |agg ap l1 h1=>
     cases v with
     |agg am l2 h2=>
      split at h
      ·rename_i fs hu;split at h
       ·cases h
       ·rename_i V;have hf:P.fieldsOf t=fs:=by simp[Program.fieldsOf,hu]
        rw[run_equalIn_agg w F t _ _ (by rw[hf];exact hu) (by simpa using V),hf];exact ih.2 fs.toList _ _ r _ _ F (by omega) h ⟨by simpa using l1,fun k H=>by have:=h1 k H;simpa[getD_eq_getElem?_getD]using this⟩
         ⟨by simpa using l2,fun k H=>by have:=h2 k H;simpa[getD_eq_getElem?_getD]using this⟩
      ·cases h
   ·cases h
  refine⟨X,fun fs=> ?_⟩;induction fs with
  |nil=>intro xs l r i g D _ h _ _;simp[pS]at h;subst h;simp[Op.eqFields]
  |cons f fs T=>
   intro xs l r i g D I h E v;simp only[pS]at h;split at h
   ·cases h
   ·rename_i hn;have fin:∀(u o:Bool) (a b:Value),(part f.type i f.offset).run P w= .ok a w→(part f.type g f.offset).run P w= .ok b w→(Op.equalIn D f.type a b).run P w= .ok u w→pS P (d+1) fs xs l=some o→r=(u&&o)→
     (Op.eqFields D i g (f::fs)).run P w= .ok r w:=by
     intro u o a b p1 p2 p3 p4 p5;have p6:=T xs l o i g D I p4 E v;simp only[Op.eqFields,ne_eq,hn,not_false_eq_true,if_true,Sem.run_bind,p1,p2,p3,Result.andThen_ok];cases u
     ·simp[p5]
     ·simp[p5,p6]
    split at h
    ·rename_i hl;split at h
     ·rename_i j;split at h
      ·rename_i u o e1 Y;cases h;obtain⟨O,M⟩:=(vq (w:=w) E).1 hl j.1;obtain⟨L,J⟩:=(vq (w:=w) v).1 hl j.2;exact fin u o _ _ O L (X _ _ _ _ _ _ D I e1 M J) Y rfl
      ·cases h
     ·cases h
    ·rename_i n hl;split at h
     ·rename_i j;split at h
      ·rename_i u o e1 Y;cases h;obtain⟨v1,O,M⟩:=(vq (w:=w) E).2 n hl j.1 j.2.1;obtain⟨v2,L,J⟩:=(vq (w:=w) v).2 n hl j.1 j.2.2;exact fin u o _ _ O L (X _ _ _ _ _ _ D I e1 M J) Y rfl
      ·cases h
     ·cases h
    ·cases h
end Go.AW
namespace Go.AW
variable {P:Program} {G:Gh} {σ:AS} {w:World} {K Pn:AV→AS→Prop}
def isNil (P:Program) (t:TypeId):AV→Option Bool
 |.ai=>match P.underlying t with|some (.slice _)=>some true| _ =>none
 |.ao _ _ _ d=>match P.underlying t with|some (.slice _)=>some d| _ =>none
 |.fH _ _ _ _ =>match P.underlying t with|some (.slice _)=>some false| _ =>none
 |.ptr _ _ |.iv _ =>match P.underlying t with|some (.pointer _)=>some false| _ =>none
 |.sc (.pointer none)=>match P.underlying t with|some (.pointer _)=>some true| _ =>none
 |.mp _ =>match P.underlying t with|some (.map _ _)=>some false| _ =>none
 |.sc (.map none)=>match P.underlying t with|some (.map _ _)=>some true| _ =>none
 |.rM _ _ =>match P.underlying t with|some (.interface _)=>some false| _ =>none
 |.fn _ _ _ =>match P.underlying t with|some (.func _ _ _)=>some false| _ =>none
 |.sc (.func _ _ _)=>match P.underlying t with|some (.func _ _ _)=>some false| _ =>none
 |.sc .nilFunc=>match P.underlying t with|some (.func _ _ _)=>some true| _ =>none
 | _ =>none
def si (P:Program) (t:TypeId):AV→Bool
 |.ai=>match P.underlying t with|some (.slice _)=>true| _ =>false
 |.sc (.pointer none)=>match P.underlying t with|some (.pointer _)=>true| _ =>false
 |.sc (.map none)=>match P.underlying t with|some (.map _ _)=>true| _ =>false
 |.sc .nilIface=>match P.underlying t with|some (.interface _)=>true| _ =>false
 |.sc .nilFunc=>match P.underlying t with|some (.func _ _ _)=>true| _ =>false
 | _ =>false
def dE (P:Program) (op:BinOp) (t:TypeId) (x y:AV) (K:AV→Prop):Prop:=
 if si P t y then match isNil P t x,op with
  |some r,.eql=>K (.sc (.bool r))
  |some r,.neq=>K (.sc (.bool (!r)))
  | _,_ =>False
  else False
def g9 (P:Program) (op:BinOp) (t:TypeId) (x y:AV) (K:AV→Prop):Prop:=
 match x,y with
 |.sc (.int k a),.sc (.int k' b)=>if sh op then yh op k a b (fun v=>K (.sc v))else k=k'∧fj op k a b (fun v=>K (.sc v))
 |.sc (.string a),.sc (.string b)=>uu op a b (fun v=>K (.sc v))
 |.agg xs,.agg d=>match jm P 8 t (.agg xs) (.agg d),op with
  |some r,.eql=>P.eqGuardType P.depth t=false∧K (.sc (.bool r))
  |some r,.neq=>P.eqGuardType P.depth t=false∧K (.sc (.bool (!r)))
  | _,_ =>False
 |.sc (.bool a),.sc (.bool b)=>match P.underlying t,op with
  |some .bool,.eql=>K (.sc (.bool (a==b)))
  |some .bool,.neq=>K (.sc (.bool (!(a==b))))
  | _,_ =>False
 |x,y=>dE P op t x y K
def EG (t:TypeId) (x y:Value):Op.equal t x y=Op.equalIn (9999+1) t x y:=rfl
def binOp_eql {t:TypeId}{x y:Value}(h1:∀k n,x≠ .int k n) (i:∀k n,x≠ .float k n) (g:∀k a b,x≠ .complex k a b) (d:∀s,x≠ .string s) {r:Bool}
 (h:(Op.equalIn (9999+1) t x y).run P w= .ok r w):(binOp .eql t x y).run P w= .ok (.bool r) w∧(binOp .neq t x y).run P w= .ok (.bool (!r)) w:=by
 have l:binOp .eql t x y=(do pure (Value.bool (←Op.equal t x y))):=by cases x<;>first|rfl|(exfalso;first|exact h1 _ _ rfl|exact i _ _ rfl|exact g _ _ _ rfl|exact d _ rfl)
 have j:binOp .neq t x y=(do pure (Value.bool (!(←Op.equal t x y)))):=by cases x<;>first|rfl|(exfalso;first|exact h1 _ _ rfl|exact i _ _ rfl|exact g _ _ _ rfl|exact d _ rfl)
 rw[l,j,EG];generalize Op.equalIn (9999+1) t x y=q at h⊢;constructor
 ·rw[Sem.run_bind,h];rfl
 ·rw[Sem.run_bind,h];rfl
def dM {op:BinOp}{t:TypeId}{g d:Operand}{a b:Value}(h1:∀c,a≠ .agg c) (h:a≠ .nilIface∨b≠ .nilIface):(eqGuard op t g d a b).run P w= .ok () w:=by unfold eqGuard;cases op<;>simp<;>(cases a<;>cases b<;>simp at h1 h⊢)
def KB {op:BinOp}{t:TypeId}{k:IntKind}{a b:Int}{Q:Value→Prop}(d:sh op=false) (h:fj op k a b Q):∃v,(binOp op t (.int k a) (.int k b)).run P w= .ok v w∧Q v:=by
 cases op<;>first|(simp[sh]at d;done)|skip
 all_goals (simp only[fj]at h)
 all_goals first
  |exact h.elim
  |(refine⟨_,?_,h⟩;simp[binOp,Op.intArith,Op.intBits,Op.intCmp,Lk,bne];done)
  |(refine⟨_,?_,h.2⟩;simp[binOp,Op.intDiv,h.1];done)
  |skip
def Mk {op:BinOp}{t:TypeId}{k k':IntKind}{a b:Int}{Q:Value→Prop}(h:yh op k a b Q):∃v,(binOp op t (.int k a) (.int k' b)).run P w= .ok v w∧Q v:=by cases op<;>simp only[yh]at h;all_goals (refine⟨_,?_,h.2⟩;have d:=h.1;simp[binOp,Op.shift,show ¬b<0 by omega])
def IZ {op:BinOp}{t:TypeId}{a b:ByteArray}{Q:Value→Prop}(h:uu op a b Q):∃v,(binOp op t (.string a) (.string b)).run P w= .ok v w∧Q v:=by
 cases op<;>simp only[uu]at h
 case add=>
  refine⟨_,?_,h.2⟩;have h1:=h.1;have e:¬(IntKind.i64.max<((a.size+b.size:Nat):Int)):=by have:IntKind.i64.max=9223372036854775807:=rfl;rw[this];omega
  simp only[binOp,Op.stringOp];rw[if_neg (by simpa using e)];rfl
 case eql=>refine⟨_,?_,h⟩;simp[binOp,Op.stringOp,ByteArray.toList_eq,Lk]
 case neq=>refine⟨_,?_,h⟩;simp[binOp,Op.stringOp,ByteArray.toList_eq,Lk]
def M3 {t:TypeId}{x y:AV}{i F:Value}(j:aV P G x i) (q:aV P G y F) (g:si P t y=true) {r:Bool}(h:isNil P t x=some r):
 (Op.equalIn (9999+1) t i F).run P w= .ok r w∧(∀c,i≠ .agg c)∧i≠ .nilIface∧(∀k n,i≠ .int k n)∧(∀s,i≠ .string s)∧(∀k n,i≠ .float k n)∧(∀k n m,i≠ .complex k n m):=by
 generalize 9999=d;have o:∀(e:TypeId) (a:Option Addr) (n c:Nat),P.underlying t=some (.slice e)→(Op.equalIn (d+1) t (.slice a n c) (.slice none 0 0)).run P w= .ok a.isNone w:=by intro e a n c hu;cases a<;>simp[Op.equalIn,run_underlying hu]
 have H:∀(e:TypeId) (a:Option Addr),P.underlying t=some (.pointer e)→(Op.equalIn (d+1) t (.pointer a) (.pointer none)).run P w= .ok a.isNone w:=by intro e a hu;cases a<;>simp[Op.equalIn,run_underlying hu]
 have mp:∀(k e:TypeId) (a:Option Nat),P.underlying t=some (.map k e)→(Op.equalIn (d+1) t (.map a) (.map none)).run P w= .ok a.isNone w:=by intro k e a hu;cases a<;>simp[Op.equalIn,run_underlying hu]
 have rM:∀(ms:Array (String×TypeId)) (u:TypeId) (v:Value),P.underlying t=some (.interface ms)→(Op.equalIn (d+1) t (.iface u v) .nilIface).run P w= .ok false w:=by intro ms u v hu;simp[Op.equalIn,run_underlying hu]
 have fn:∀(ps rs:Array TypeId) (l:Bool) (f:Fn) (a b:Array Value),P.underlying t=some (.func ps rs l)→(Op.equalIn (d+1) t (.func f a b) .nilFunc).run P w= .ok false w:=by intro ps rs l f a b hu;simp[Op.equalIn,run_underlying hu]
 have E:∀(ps rs:Array TypeId) (l:Bool),P.underlying t=some (.func ps rs l)→(Op.equalIn (d+1) t .nilFunc .nilFunc).run P w= .ok true w:=by intro ps rs l hu;simp[Op.equalIn,run_underlying hu]
 unfold si at g;split at g
 ·cases q;split at g
  ·rename_i e hu;unfold isNil at h;split at h<;>(try simp only[hu]at h)<;>first|(cases h;done)|skip
   ·cases h;cases j;exact⟨o _ _ _ _ hu,by simp⟩
   ·cases h;cases j
    ·exact⟨o _ _ _ _ hu,by simp⟩
    ·exact⟨o _ _ _ _ hu,by simp⟩
    ·exact⟨o _ _ _ _ hu,by simp⟩
   ·cases h;cases j;exact⟨o _ _ _ _ hu,by simp⟩
  ·cases g
 ·cases q;split at g
  ·rename_i e hu;unfold isNil at h;split at h<;>(try simp only[hu]at h)<;>first|(cases h;done)|skip
   all_goals (cases h;cases j;exact⟨H _ _ hu,by simp⟩)
  ·cases g
 ·cases q;split at g
  ·rename_i k e hu;unfold isNil at h;split at h<;>(try simp only[hu]at h)<;>first|(cases h;done)|skip
   all_goals (cases h;cases j;exact⟨mp _ _ _ hu,by simp⟩)
  ·cases g
 ·cases q;split at g
  ·rename_i ms hu;unfold isNil at h;split at h<;>(try simp only[hu]at h)<;>first|(cases h;done)|skip
   all_goals (cases h;cases j;exact⟨rM _ _ _ hu,by simp⟩)
  ·cases g
 ·cases q;split at g
  ·rename_i ps rs l hu;unfold isNil at h;split at h<;>(try simp only[hu]at h)<;>first|(cases h;done)|skip
   all_goals (cases h;cases j;first|exact⟨fn _ _ _ _ _ _ hu,by simp⟩|exact⟨E _ _ _ hu,by simp⟩)
  ·cases g
 ·cases g
def Lz (hi:Inv P G σ w) {op:BinOp}{t:TypeId}{E u:Operand}{x y:AV}{d g:Value}(l:aV P G x d) (j:aV P G y g) (h:g9 P op t x y fun v=>K v σ):
 Out P G K Pn (((do pure (Next.value (←(do eqGuard op t E u d g;binOp op t d g)))):Sem Next).run P w):=by
 have fin:∀(v:Value) (O:AV),(eqGuard op t E u d g).run P w= .ok () w→(binOp op t d g).run P w= .ok v w→aV P G O v→K O σ→
  Out P G K Pn (((do pure (Next.value (←(do eqGuard op t E u d g;binOp op t d g)))):Sem Next).run P w):=
  fun v O h1 i h3 h4=>Out.pure hi (by rw[Sem.run_bind,h1];exact i) h3 h4
 unfold g9 at h;split at h
 ·rename_i k a k' b;cases l;cases j;split at h
  ·obtain⟨v,h1,i⟩:=Mk (P:=P) (w:=w) (t:=t) (k':=k') h;exact fin v _ (dM (by simp) (by simp)) h1 (.sc _) i
  ·rename_i X;obtain⟨rfl,h⟩:=h;obtain⟨v,h1,i⟩:=KB (P:=P) (w:=w) (t:=t) (by simpa using X) h;exact fin v _ (dM (by simp) (by simp)) h1 (.sc _) i
 ·cases l;cases j;obtain⟨v,h1,i⟩:=IZ (P:=P) (w:=w) (t:=t) h;exact fin v _ (dM (by simp) (by simp)) h1 (.sc _) i
 ·rename_i xs ys;have q:=l;have o:=j;cases l with
  |agg V l1 h1=>
   cases j with
   |agg T l2 i=>
    split at h
    ·rename_i r he;have:=(OP (P:=P) (G:=G) (w:=w) 8).1 t _ _ r _ _ 10000 (by omega) he q o;exact fin (.bool r) _ (run_eqGuard_agg w _ t _ _ _ _ h.1) (by rw[run_eql_struct,this];rfl) (.sc _) h.2
    ·rename_i r he;have:=(OP (P:=P) (G:=G) (w:=w) 8).1 t _ _ r _ _ 10000 (by omega) he q o;exact fin (.bool (!r)) _ (run_eqGuard_agg w _ t _ _ _ _ h.1) (by rw[run_neq_struct,this];rfl) (.sc _) h.2
    ·exact h.elim
 ·rename_i a b;cases l;cases j;split at h
  ·rename_i hu;exact fin _ _ (dM (by simp) (by simp)) (binOp_eql (by simp) (by simp) (by simp) (by simp) (run_equalIn_bool' w 9999 t a b hu)).1 (.sc _) h
  ·rename_i hu;exact fin _ _ (dM (by simp) (by simp)) (binOp_eql (by simp) (by simp) (by simp) (by simp) (run_equalIn_bool' w 9999 t a b hu)).2 (.sc _) h
  ·exact h.elim
 ·unfold dE at h;split at h
  ·rename_i M;have key:∀r,isNil P t x=some r→(Op.equalIn (9999+1) t d g).run P w= .ok r w∧(∀c,d≠ .agg c)∧d≠ .nilIface∧(∀k n,d≠ .int k n)∧(∀s,d≠ .string s)∧(∀k n,d≠ .float k n)∧(∀k n m,d≠ .complex k n m):=by intro r Y;exact M3 l j M Y
   split at h
   ·rename_i r he;obtain⟨k1,L,J,k4,I,H,F⟩:=key r he;exact fin _ _ (dM L (.inl J)) (binOp_eql k4 H F I k1).1 (.sc _) h
   ·rename_i r he;obtain⟨k1,L,J,k4,I,H,F⟩:=key r he;exact fin _ _ (dM L (.inl J)) (binOp_eql k4 H F I k1).2 (.sc _) h
   ·exact h.elim
  ·exact h.elim
end Go.AW
namespace Go.AW
variable {P:Program} {G:Gh} {σ:AS} {w:World} {K Pn:AV→AS→Prop}
def QR (op:UnOp) (x:AV) (K:AV→Prop):Prop:=
 match op,x with
 |.not,.sc (.bool b)=>K (.sc (.bool (!b)))
 |.neg,.sc (.int k n)=>K (.sc (.int k (k.wrap (0-n))))
 |.xor,.sc (.int k n)=>K (.sc (.int k (k.wrap (BitVec.ofInt k.bits (if k.signed then-1 else k.max)^^^BitVec.ofInt k.bits n).toNat)))
 | _,_ =>False
def Ob (g:Inv P G σ w) {op:UnOp}{x:AV}{v:Value}(d:aV P G x v) (h:QR op x fun v=>K v σ):
 Out P G K Pn (((do pure (Next.value (←Op.unary op v))):Sem Next).run P w):=by
 unfold QR at h;split at h
 ·cases d;exact Out.pure g rfl (.sc _) h
 ·cases d;exact Out.pure g rfl (.sc _) h
 ·cases d;exact Out.pure g rfl (.sc _) h
 ·exact h.elim
def l0 (x:AV) (i:Nat) (K:AV→Prop):Prop:=
 match x with
 |.bI vs=>i<vs.length∧K (vs.getD i .any)
 | _ =>False
def Bc (o:Inv P G σ w) {x:AV}{v:Value}{i:Nat}(g:aV P G x v) (h:l0 x i fun v=>K v σ):
 Out P G K Pn (((do pure (Next.value (←Instr.extract v i))):Sem Next).run P w):=by
 unfold l0 at h;split at h
 ·cases g with
  |bI vs l j=>
   have d:i<vs.length:=by omega
   refine Out.pure o (v:=vs.getD i undef) ?_ (j i h.1) h.2;simp[Instr.extract,d]
 ·exact h.elim
def iM (x:AV) (K:AV→Prop):Prop:=
 match x with
 |.ptr _ _ |.iv _ |.fn (.func _) _ _ |.mp _ =>K x
 |.sc (.func (.func _) _ _)=>K x
 |.rM _ _ =>K x
 | _ =>False
def yz (j:Inv P G σ w) {x:Operand}{ρ:Operand→Value}{d:AV}{o:Oper}(i:o.op= .nilCheck x) (g:aV P G d (ρ x)) (h:iM d fun v=>K v σ):
 Out P G K Pn ((execOp ρ o).run P w):=by
 have key:(execOp ρ o).run P w= .ok (.value (ρ x)) w:=by unfold execOp;simp only[i];unfold iM at h;split at h<;>first|exact h.elim|(generalize ρ x=v at g;cases g;simp)
 rw[key];refine⟨G,σ,d,.refl G,j,g,?_⟩;unfold iM at h;split at h<;>first|exact h|exact h.elim
def u8 (b:UInt8):AV:= .sc (.int .u8 b.toNat)
def GN:AV→Option UInt8
 |.sc (.int .u8 n)=>if 0≤n∧n<256 then some (UInt8.ofNat n.toNat)else none
 | _ =>none
def xR (l:List AV):Option (List UInt8):=l.mapM GN
def qL (l:List UInt8):xR (l.map u8)=some l:=by
 induction l with
 |nil=>rfl
 |cons b l d=>
  have h1:GN (u8 b)=some b:=by have:=b.toNat_lt;simp only[GN,u8];rw[if_pos ⟨by omega,by omega⟩];simp
  simp only[xR,map_cons,mapM_cons,h1]at d⊢;rw[d];rfl
def EW {l:List AV}{d:List UInt8}(h:xR l=some d):l.length=d.length∧ ∀i,i<l.length→l.getD i .any=u8 (d.getD i 0):=by
 induction l generalizing d with
 |nil=>simp[xR]at h;subst h;simp
 |cons a l g=>
  simp only[xR,mapM_cons,Option.bind_eq_bind,Option.pure_def]at h;cases ha:GN a with
  |none=>simp[ha]at h
  |some b=>
   cases hl:l.mapM GN with
   |none=>simp[ha,hl]at h
   |some r=>
    simp[ha,hl]at h;subst h;obtain⟨h1,o⟩:=g hl;refine⟨by simp[h1],fun i j=> ?_⟩;cases i with
    |zero=>
     simp;unfold GN at ha;split at ha
     ·rename_i n;split at ha
      ·rename_i q;cases ha;simp only[u8];congr 2;rw[UInt8.toNat_ofNat'];omega
      ·cases ha
     ·cases ha
    |succ i=>simpa using o i (by simpa using j)
def fM (P:Program) (src dst:TypeId) (x:AV) (K:AV→Prop):Prop:=
 match P.underlying src,P.underlying dst,x with
 |some _,some (.int k),.sc (.int _ n)=>K (.sc (.int k (k.wrap n)))
 |some _,some .string,.sc (.string s)=>K (.sc (.string s))
 |some (.slice e),some .string,.ai=>P.underlying e=some (.int .u8)∧K (.sc (.string .empty))
 |some (.slice e),some .string,.ao d elems _ _ =>P.underlying e=some (.int .u8)∧P.cellsOf d=1∧(match xR elems with|some g=>K (.sc (.string ⟨g.toArray⟩))|none=>False)
 |some .string,some (.slice e),.sc (.string s)=>P.underlying e=some (.int .u8)∧P.cellsOf e=1∧s.size≤140737488355328∧K (.ao e (s.data.toList.map u8) .aI false)
 | _,_,_ =>False
def Be (u:Inv P G σ w) {src dst:TypeId}{x:AV}{v:Value}(F:aV P G x v) (h:fM P src dst x fun v=>K v σ):
 Out P G K Pn (((do pure (Next.value (←convert src dst v))):Sem Next).run P w):=by
 unfold fM at h;split at h
 ·rename_i d k kk n l hd;cases F;refine Out.pure u (v:= .int k (k.wrap n)) ?_ (.sc _) h;unfold convert;rw[Sem.run_bind,run_underlying l,Result.andThen_ok,Sem.run_bind,run_underlying hd,Result.andThen_ok];cases d<;>rfl
 ·rename_i d s l hd;cases F;refine Out.pure u (v:= .string s) ?_ (.sc _) h;unfold convert;rw[Sem.run_bind,run_underlying l,Result.andThen_ok,Sem.run_bind,run_underlying hd,Result.andThen_ok];cases d<;>rfl
 ·rename_i e l hd;obtain⟨he,h⟩:=h;cases F;refine Out.pure u (v:= .string .empty) ?_ (.sc _) h;rw[run_convert_bytes_string w src dst e none 0 0 l he hd];simp[Conv.bytesToString]
 ·rename_i e e' elems own nil l hd;obtain⟨he,g,h⟩:=h;split at h
  ·rename_i E O;obtain⟨T,b2⟩:=EW O;cases F with
   |iP ho=>have:E= []:=length_eq_zero_iff.1 (by simpa using T.symm);subst this;refine Out.pure u (v:= .string .empty) ?_ (.sc _) h;rw[run_convert_bytes_string w src dst e none 0 0 l he hd];simp[Conv.bytesToString]
   |pL=>have:E= []:=length_eq_zero_iff.1 (by simpa using T.symm);subst this;refine Out.pure u (v:= .string .empty) ?_ (.sc _) h;rw[run_convert_bytes_string w src dst e _ 0 _ l he hd];simp[Conv.bytesToString,loadCells,loadCellsFrom]
   |ao vs hl hm hr hc ho=>
    rename_i b off cap;refine Out.pure u (v:= .string ⟨E.toArray⟩) ?_ (.sc _) h;rw[T];refine run_convert_bytes_back w src dst e ⟨b,off,none⟩ cap E l he hd (fun j X=> ?_);have y:j<elems.length:=by omega
    have h1:=hr j 0 y (by omega);rw[b2 j y]at h1;simp only[g,Nat.mul_one,Nat.add_zero]at h1;have h2:=(u.mem _ _ _ (hm j (by rw[g,Nat.mul_one];exact y))).1;rw[Addr.add_lit,h2];have e1:(u8 (E.getD j 0)).cells.getD 0 AV.any= .sc (.int .u8 (E.getD j 0).toNat):=rfl;rw[e1]at h1;generalize Y:vs j=vj at h1;cases h1;simp[getD_eq_getElem?_getD,getElem?_eq_getElem X]
  ·exact h.elim
 ·rename_i e s l hd;obtain⟨he,g,V,h⟩:=h;cases F;have H:=run_bytes_of_string (P:=P) w src dst e s l hd he;have q:=grownCap_ge w s.size 0 e;have I:∀k,k<s.size→(bytesRow s (grownCap w s.size 0 e))[k]? =some (.int .u8 (s.data.toList.getD k 0).toNat):=by intro k L;have J:k<s.data.size:=L;unfold bytesRow;rw[Array.getElem?_append_left (by simpa using J)];simp[Array.getElem?_eq_getElem J]
  have M:s.size≤(bytesRow s (grownCap w s.size 0 e)).size:=by
   unfold bytesRow;rw[Array.size_append];have:(s.data.map fun b=>Value.int .u8 b.toNat).size=s.size:=by rw[Array.size_map];rfl
   omega
  obtain⟨hle,hinv⟩:G.Le (G.jQ w.heap.size 0 s.size fun k=> .int .u8 (s.data.toList.getD k 0).toNat)∧Inv P (G.jQ w.heap.size 0 s.size fun k=> .int .u8 (s.data.toList.getD k 0).toNat) σ _ :=
   u.drew.CB e (bytesRow s (grownCap w s.size 0 e)) ((bytesRow s (grownCap w s.size 0 e)).size,(bytesRow s (grownCap w s.size 0 e)).size+1) s.size (fun k=> .int .u8 (s.data.toList.getD k 0).toNat) M (fun k L=>⟨I k L,rfl⟩)
  refine Out.value H hle hinv ?_ h;refine aV.Eg (fun k=> .int .u8 (s.data.toList.getD k 0).toNat) (by rw[length_map,Array.length_toList];rfl) (fun i o=> ?_) (fun k L=> ?_) (fun i j o X=> ?_) q trivial
  ·simp only[length_map]at o;simp only[getD_eq_getElem?_getD,getElem?_map,getElem?_eq_getElem o];rw[g];rfl
  ·rw[g,Nat.mul_one]at L;rw[Gh.lh (by omega) (by omega)];simp
  ·simp only[length_map]at o;have:j=0:=by omega
   subst this;rw[g,Nat.mul_one,Nat.add_zero];simp only[getD_eq_getElem?_getD,getElem?_map,getElem?_eq_getElem o];exact .sc _
 ·exact h.elim
end Go.AW
namespace Go.AW
variable {P:Program} {G:Gh} {σ:AS} {w:World} {K Pn:AV→AS→Prop}
def jz (P:Program) (σ:AS) (t:TypeId) (x:AV) (K:AV→Prop):Prop:=
 match P.underlying t,x with
 |some (.slice _),.ao _ elems _ _ =>K (.sc (.int .i64 elems.length))
 |some (.slice _),.ai=>K (.sc (.int .i64 0))
 |some (.slice _),.fH _ _ n _ =>K (.sc (.int .i64 n))
 |some .string,.sc (.string s)=>K (.sc (.int .i64 s.data.toList.length))
 |some (.array n _),_ =>K (.sc (.int .i64 n))
 |some (.map _ _),.mp id=>match σ id with|some (.map es)=>K (.sc (.int .i64 es.length))| _ =>False
 |some (.map _ _),.sc (.map none)=>K (.sc (.int .i64 0))
 | _,_ =>False
def Lw (d:Inv P G σ w) {t ty:TypeId}{x:AV}{v:Value}(g:aV P G x v) (h:jz P σ t x fun v=>K v σ):
 Out P G K Pn (((do pure (Next.value (←Builtin.len_ #[t] ty #[v]))):Sem Next).run P w):=by
 unfold jz at h;split at h
 ·rename_i e u elems own i hu;have:∃a c,v= .slice a elems.length c:=by cases g<;>exact⟨_,_,rfl⟩
  obtain⟨a,c,rfl⟩:=this;exact Out.pure d (by simp[Builtin.len_,run_underlying hu,goInt]) (.sc _) h
 ·rename_i e hu;cases g;exact Out.pure d (by simp[Builtin.len_,run_underlying hu,goInt]) (.sc _) h
 ·rename_i e id off n c hu;cases g;exact Out.pure d (by simp[Builtin.len_,run_underlying hu,goInt]) (.sc _) h
 ·rename_i s hu;cases g;refine Out.pure d (v:= .int .i64 s.data.toList.length) (by simp[Builtin.len_,run_underlying hu,goInt]) (.sc _) h
 ·rename_i n e hu;exact Out.pure d (by simp[Builtin.len_,run_underlying hu,goInt]) (.sc _) h
 ·rename_i k e id hu;split at h
  ·rename_i es o;obtain⟨b,ms,c,k1,l,j,k4⟩:=d.maps _ _ o;cases g with
   |mp q=>rw[q]at k1;obtain rfl:=Option.some.inj k1;refine Out.pure d (v:= .int .i64 es.length) ?_ (.sc _) h;simp[Builtin.len_,run_underlying hu,getObj,Sem.run,l,goInt,j]
  ·exact h.elim
 ·rename_i k e hu;cases g;exact Out.pure d (by simp[Builtin.len_,run_underlying hu,goInt]) (.sc _) h
 ·exact h.elim
def fE (P:Program) (e d:TypeId) (x:AV):Option (List AV):=
 match P.underlying d,x with
 |some (.slice _),.ao g xs _ _ =>if g=e then some xs else none
 |some (.slice _),.ai=>some []
 |some .string,.sc (.string s)=>if P.cellsOf e=1 then some (s.data.toList.map u8)else none
 |some (.int _),.sc (.int _ n)=>if 0≤n∧n≤1000000∧P.bytesOf e≤1000 then some (List.replicate n.toNat (ax P e))else none
 | _,_ =>none
def qm {z:Value}{m:Nat}(h:z.cells.size=m) (n:Nat) (i j:Nat) (o:i<n) (l:j<m):((Builtin.zeroCells z.cells n).toList).getD (i*m+j) undef=z.cells.getD j undef:=by
 have d:i*m+j<n*m:=by have:(i+1)*m≤n*m:=Nat.mul_le_mul_right m o;rw[Nat.add_mul]at this;omega
 have u:(i*m+j)%m=j:=by rw[Nat.add_comm,Nat.add_mul_mod_self_right,Nat.mod_eq_of_lt l]
 have g:j<z.cells.size:=by omega
 have q:z.cells[j]! =z.cells[j]:=by simp[g]
 simp[Builtin.zeroCells,h,d,u,q,Array.getD];omega
def DK (hi:Inv P G σ w) {e T:TypeId}{x:AV}{O:Value}{xs:List AV}(F:(ax P e).laid=true) (E:(ax P e).cells.length=P.cellsOf e) (V:aV P G x O) (h:fE P e T x=some xs):
 ∃news,Fa P e T O xs.length news w∧Dr P G e xs news:=by
 suffices I:(∃news,Src P (P.cellsOf e) T O xs.length news w∧Dr P G e xs news)∨ ∃news i,P.info? e=some i∧TU P i T O xs.length news∧Dr P G e xs news by
  rcases I with⟨news,h1,h2⟩|⟨news,i,h1,h2,h3⟩
  ·exact⟨news,.inl h1,h2⟩
  ·exact⟨news,.inr ⟨i,h1,h2⟩,h3⟩
 unfold fE at h;split at h
 ·rename_i e1 e' ys own a0 hu;split at h
  ·rename_i he;subst he;cases h;cases V with
   |iP ho=>exact .inl ⟨[],Src.ofNil w hu 0,by simp,by simp,by simp⟩
   |pL=>exact .inl ⟨[],Src.ofSlice w hu _ 0 _ [] (by simp) (by simp) (by simp),by simp,by simp,by simp⟩
   |ao vs hl hm hr hc ho=>
    rename_i b off cap;refine .inl ⟨(List.range (xs.length*P.cellsOf e')).map vs,Src.ofSlice w hu ⟨b,off,none⟩ xs.length cap _ (by simp) (fun j u g=> ?_) (fun u g=> ?_),by simp,hl,fun i j d l=> ?_⟩
    ·have l:j<xs.length*P.cellsOf e':=by
      rcases Nat.lt_or_ge j (xs.length*P.cellsOf e')with h|h
      ·exact h
      ·rw[getElem?_eq_none (by simpa using h)]at g;cases g
     simp[l]at g;subst g;rw[Addr.add_lit];exact(hi.mem _ _ _ (hm j l)).1
    ·simp at g;obtain⟨j,l,rfl⟩:=g;exact(hi.mem _ _ _ (hm j l)).2
    ·have:=hr i j d l;have al:=jS d l;simpa[getD_eq_getElem?_getD,al]using this
  ·cases h
 ·rename_i e1 hu;cases h;cases V;exact .inl ⟨[],Src.ofNil w hu 0,by simp,by simp,by simp⟩
 ·rename_i s hu;split at h
  ·rename_i o;cases h;cases V;have hlen:(s.data.toList.map u8).length=s.size:=by rw[length_map,Array.length_toList];rfl
   refine .inl ⟨byteCells s,?_,?_,fun i d=> ?_,fun i j d l=> ?_⟩
   ·rw[o,hlen];exact Src.ofString w hu s
   ·rw[byteCells_length,hlen,o,Nat.mul_one]
   ·simp only[length_map]at d;simp only[getD_eq_getElem?_getD,getElem?_map,getElem?_eq_getElem d];rw[o];rfl
   ·simp only[length_map]at d;have:j=0:=by omega
    subst this;rw[o,Nat.mul_one,Nat.add_zero];simp only[byteCells,getD_eq_getElem?_getD,getElem?_map,getElem?_eq_getElem d];exact .sc _
  ·cases h
 ·rename_i k k' n hu;split at h
  ·rename_i hc;cases h;cases V;obtain⟨a5,o,a4⟩:=hc;obtain⟨it,z,v,hz,y⟩:=dq F;have H:it.size=P.cellsOf e:=by simp[Program.cellsOf,v]
   have a6:it.bytes=P.bytesOf e:=by simp[Program.bytesOf,v]
   obtain⟨M,z2⟩:=gf (gn (P:=P) (G:=G) z) (by rw[←y];exact F);rw[←y,E]at M z2;obtain⟨N,rfl⟩:∃N:Nat,n=N:=⟨n.toNat,by omega⟩;simp only[Int.toNat_natCast,length_replicate];have hlen:((Builtin.zeroCells z.cells N).toList).length=N*P.cellsOf e:=by simp[Builtin.zeroCells,M]
   have q:(if N*it.size=0 then []else(Builtin.zeroCells z.cells N).toList)=(Builtin.zeroCells z.cells N).toList:=by
    by_cases h0:N*it.size=0
    ·rw[if_pos h0];rw[H]at h0;rw[h0]at hlen;exact(length_eq_zero_iff.1 hlen).symm
    ·rw[if_neg h0]
   refine .inr ⟨(Builtin.zeroCells z.cells N).toList,it,v,⟨⟨k,hu⟩,⟨k',rfl⟩,⟨by omega,by omega⟩,⟨z,hz,q.symm⟩,by rw[hlen,H],fun u g=> ?_⟩,by simp[hlen],fun i d=> ?_,fun i j d l=> ?_⟩
   ·obtain⟨p,X,rfl⟩:=getElem_of_mem g;rw[hlen]at X;have J:0<P.cellsOf e:=by
     rcases Nat.eq_zero_or_pos (P.cellsOf e)with h|h
     ·rw[h]at X;omega
     ·exact h
    have L:p%P.cellsOf e<P.cellsOf e:=Nat.mod_lt _ J;have af:p/P.cellsOf e<N:=Nat.div_lt_of_lt_mul (by rw[Nat.mul_comm];exact X);have ac:(p/P.cellsOf e)*P.cellsOf e+p%P.cellsOf e=p:=by rw[Nat.mul_comm];exact Nat.div_add_mod p _
    have Y:=qm M N _ _ af L;rw[ac]at Y;have he:(Builtin.zeroCells z.cells N).toList[p]=(Builtin.zeroCells z.cells N).toList.getD p undef:=by rw[getD_eq_getElem?_getD,getElem?_eq_getElem (by rw[hlen];exact X)];rfl
    rw[he,Y];exact(z2 _ L).2
   ·simp only[length_replicate]at d;rw[getD_eq_getElem?_getD,getElem?_replicate,if_pos d];exact E
   ·simp only[length_replicate]at d;rw[qm M N i j d l];have Y:(List.replicate N (ax P e)).getD i .any=ax P e:=by rw[getD_eq_getElem?_getD,getElem?_replicate,if_pos d];rfl
    rw[Y];exact(z2 j l).1
  ·cases h
 ·cases h
def mK (P:Program) (σ:AS) (t i:TypeId) (s x:AV) (K:AV→AS→Prop):Prop:=
 match cr P t with
 |some e=>P.cellsOf e≠0∧(ax P e).laid=true∧(ax P e).cells.length=P.cellsOf e∧(match fE P e i x with
  |some xs=>match s with
   |.ai=>xs.length*P.bytesOf e≤kr (P.bytesOf e)∧xs.length≤140737488355328∧ ∀d,σ d=none→K (.ao e xs (.tok d) xs.isEmpty) (σ.set d (.tok xs.length))
   |.ao h elems .full g=>h=e∧(elems.length+xs.length)*P.bytesOf e≤kr (P.bytesOf e)∧elems.length+xs.length≤140737488355328∧
    ∀d,σ d=none→K (.ao e (elems++xs) (.tok d) (g&&xs.isEmpty)) (σ.set d (.tok (elems.length+xs.length)))
   |.ao h elems (.tok d) g=>h=e∧(elems.length+xs.length)*P.bytesOf e≤kr (P.bytesOf e)∧elems.length+xs.length≤140737488355328∧σ d=some (.tok elems.length)∧
    K (.ao e (elems++xs) (.tok d) (g&&xs.isEmpty)) (σ.set d (.tok (elems.length+xs.length)))
   | _ =>False
  |none=>False)
 |none=>False
def aV.fy (o:Inv P G σ w) {e:TypeId}{elems:List AV}{d:Bool}{v:Value}(h:aV P G (.ao e elems .full d) v):
 ∃r,G.Le (G.fy r)∧Inv P (G.fy r) (σ.set G.top (.tok elems.length)) w∧aV P (G.fy r) (.ao e elems (.tok G.top) d) v:=by
 cases h with
 |iP l=>obtain⟨h1,g⟩:=o.fy none 0 e (fun _ =>rfl);exact⟨_,h1,g,.iP ⟨⟨none,0,0,e⟩,by simp[Gh.fy],rfl,Nat.le_refl _,fun _ =>rfl⟩⟩
 |ao vs hl hm q y l=>rename_i b off cap;obtain⟨a,ha⟩:=l;simp only[Value.slice.injEq]at ha;obtain⟨_,_,rfl⟩:=ha;obtain⟨h1,g⟩:=o.fy (some (b,off)) elems.length e (fun u=>by cases u);refine⟨_,h1,g,.ao vs hl hm (fun i j a b=>(q i j a b).mono h1) y ⟨⟨some (b,off),elems.length,elems.length,e⟩,by simp[Gh.fy],rfl,Nat.le_refl _,fun _ =>rfl⟩⟩
def Dn (v:Inv P G σ w) {t H ty:TypeId}{s x:AV}{vs y:Value}(q:aV P G s vs) (J:aV P G x y) (h:mK P σ t H s x K):
 Out P G K Pn (((do pure (Next.value (←Builtin.append_ #[t,H] ty #[vs,y]))):Sem Next).run P w):=by
 unfold mK at h;split at h
 ·rename_i e he;obtain⟨ar,o,E,h⟩:=h;have hu:=eP he;obtain⟨it,z,ac,hz,V⟩:=dq o;have ab:aV P G (ax P e) z:=by rw[V];exact gn z
  have T:z.cells.size=P.cellsOf e:=by rw[←E];exact(gf ab o).1
  split at h
  ·rename_i xs X;have g:∀(G:Gh) (σ:AS) (elems:List AV) (j:Nat) (d:Bool),Inv P G σ w→aV P G x y→aV P G (.ao e elems (.tok j) d) vs→σ j=some (.tok elems.length)→
    (elems.length+xs.length)*P.bytesOf e≤kr (P.bytesOf e)→elems.length+xs.length≤140737488355328→
    ∃F w' G',(Builtin.append_ #[t,H] ty #[vs,y]).run P w= .ok F w'∧G.Le G'∧Inv P G' (σ.set j (.tok (elems.length+xs.length))) w'∧aV P G' (.ao e (elems++xs) (.tok j) (d&&xs.isEmpty)) F:=by
    intro G σ elems j d v J q Y h1 l;obtain⟨news,s1,s2⟩:=DK v o E J X;exact v.append hu ac hz T (by omega) q Y s1 s2 h1 l
   have i:∀(elems:List AV) (d:Bool),aV P G (.ao e elems .full d) vs→(elems.length+xs.length)*P.bytesOf e≤kr (P.bytesOf e)→elems.length+xs.length≤140737488355328→
    (∀j,σ j=none→K (.ao e (elems++xs) (.tok j) (d&&xs.isEmpty)) (σ.set j (.tok (elems.length+xs.length))))→
    Out P G K Pn (((do pure (Next.value (←Builtin.append_ #[t,H] ty #[vs,y]))):Sem Next).run P w):=by
    intro elems d q h1 l u;obtain⟨r,m1,m2,m3⟩:=q.fy v;obtain⟨F,w',G',O,M,I,L⟩:=g (G.fy r) _ elems G.top d m2 (J.mono m1) m3 (by simp) h1 l;rw[AS.set_set]at I;exact Out.value O (m1.trans M) I L (u _ v.fresh)
   split at h
   ·obtain⟨h1,l,u⟩:=h;cases q;have:=i [] true (.iP ⟨none,rfl⟩) (by simpa using h1) (by simpa using l);simp only[nil_append,length_nil,Nat.zero_add,Bool.true_and]at this;exact this u
   ·rename_i e' elems d;obtain⟨rfl,h1,l,u⟩:=h;exact i elems d q h1 l u
   ·rename_i e' elems j d;obtain⟨rfl,h1,l,u,h4⟩:=h;obtain⟨F,w',G',O,M,I,L⟩:=g G σ elems j d v J q u h1 l;exact Out.value O M I L h4
   ·exact h.elim
  ·exact h.elim
 ·exact h.elim
def cw (P:Program) (σ:AS) (e:TypeId) (x:AV):Option (Nat×List AV):=
 match x with
 |.fH id off len _ =>match σ id with
  |some (.cells _ cs)=>if off+len*P.cellsOf e≤cs.length then some (len,(cs.drop off).take (len*P.cellsOf e))else none
  | _ =>none
 |.ao d xs _ _ =>if d=e∧P.cellsOf e=1∧xs.all AV.one=true then some (xs.length,xs)else none
 | _ =>none
def gU (P:Program) (σ:AS) (t:TypeId) (x y:AV) (K:AV→AS→Prop):Prop:=
 match cr P t with
 |some e=>match x with
  |.fH id off len _ =>match σ id with
   |some (.cells ty cs)=>P.cellsOf e≠0∧off+len*P.cellsOf e≤cs.length∧(match cw P σ e y with
    |some (m,d)=>K (.sc (.int .i64 (Nat.min m len:Nat))) (σ.set id (.cells ty (cs.take off++d.take (Nat.min m len*P.cellsOf e)++cs.drop (off+(d.take (Nat.min m len*P.cellsOf e)).length))))
    |none=>False)
   | _ =>False
  | _ =>False
 |none=>False
def Hm {v:AV}(h:v.one=true):v.cells= [v]:=by cases v<;>first|rfl|(simp[AV.one]at h)
def EK (I:Inv P G σ w) {e:TypeId}{y:AV}{o:Value}{m:Nat}{l:List AV}(F:aV P G y o) (h:cw P σ e y=some (m,l)):
 (Builtin.lenOf o).run P w= .ok m w∧l.length=m*P.cellsOf e∧ ∀n,n≤m→ ∃vs:List Value,vs.length=n*P.cellsOf e∧(Builtin.firstCells (P.cellsOf e) n o).run P w= .ok vs.toArray w∧
  ∀k,k<n*P.cellsOf e→aV P G (l.getD k .any) (vs.getD k undef)∧(vs.getD k undef).oneCell'=true:=by
 have mk:∀(a:Addr) (f:Nat→Value) (n:Nat),(∀k,k<n*P.cellsOf e→w.cell? (a.add k)=some (f k)∧aV P G (l.getD k .any) (f k)∧(f k).oneCell'=true)→
  ∃vs:List Value,vs.length=n*P.cellsOf e∧(loadCells a (n*P.cellsOf e)).run P w= .ok vs.toArray w∧ ∀k,k<n*P.cellsOf e→aV P G (l.getD k .any) (vs.getD k undef)∧(vs.getD k undef).oneCell'=true:=by
  intro a f n hf;refine⟨(List.range (n*P.cellsOf e)).map f,by simp,run_loadCells w a _ f (fun j hj=>(hf j hj).1),fun k g=> ?_⟩;have:((List.range (n*P.cellsOf e)).map f).getD k undef=f k:=by simp[getD_eq_getElem?_getD,g]
  rw[this];exact(hf k g).2
 unfold cw at h;split at h
 ·rename_i id off len cap;split at h
  ·rename_i ty cs V;split at h
   ·rename_i J;cases h;obtain⟨b,cur,k1,O,k3,k4⟩:=I.cells _ _ _ V;cases F with
    |fH hb=>
     rw[hb]at k1;obtain rfl:=Option.some.inj k1;refine⟨by simp[Builtin.lenOf],by simp;omega,fun n d=> ?_⟩;have hle:n*P.cellsOf e≤m*P.cellsOf e:=Nat.mul_le_mul_right _ d;obtain⟨vs,E,v,u⟩:=mk ⟨_,off,none⟩ (fun k=>cur.getD (off+k) undef) n (fun k g=>by
      rw[Addr.add_lit];refine⟨jq O (by omega),?_,(k4 _ (by omega)).2⟩;have e1:((cs.drop off).take (m*P.cellsOf e)).getD k .any=cs.getD (off+k) .any:=by simp only[getD_eq_getElem?_getD];rw[getElem?_take_of_lt (by omega),getElem?_drop]
      rw[e1];exact(k4 _ (by omega)).1)
     exact⟨vs,E,by simpa[Builtin.firstCells]using v,u⟩
   ·cases h
  ·cases h
 ·rename_i e' xs own M;split at h
  ·rename_i hc;obtain⟨rfl,i,ho⟩:=hc;cases h;cases F with
   |iP Y=>exact⟨by simp[Builtin.lenOf],by simp,fun n d=>⟨[],by simp at d;simp[d],by simp[Builtin.firstCells],fun k g=>by simp at d;simp[d]at g⟩⟩
   |pL=>refine⟨by simp[Builtin.lenOf],by simp,fun n d=>⟨[],by simp at d;simp[d],?_,fun k g=>by simp at d;simp[d]at g⟩⟩;simp at d;subst d;simp[Builtin.firstCells,loadCells,loadCellsFrom]
   |ao vs hl hm X L H=>
    rename_i b off cap;refine⟨by simp[Builtin.lenOf],by simp[i],fun n d=> ?_⟩;obtain⟨q,E,v,u⟩:=mk ⟨b,off,none⟩ vs n (fun k g=>by
     rw[Addr.add_lit];rw[i,Nat.mul_one]at g;have T:(l.getD k .any).one=true:=by rw[getD_eq_getElem?_getD,getElem?_eq_getElem (by omega)];exact all_eq_true.1 ho _ (getElem_mem _)
     have:=X k 0 (by omega) (by omega);rw[Hm T,i,Nat.mul_one,Nat.add_zero]at this;obtain⟨g1,g2⟩:=I.mem _ _ _ (hm k (by rw[i,Nat.mul_one];omega));exact⟨g1,by simpa using this,g2⟩)
    exact⟨q,E,by simpa[Builtin.firstCells]using v,u⟩
  ·cases h
 ·cases h
def Ik (H:Inv P G σ w) {t tx ty:TypeId}{x y:AV}{M L:Value}(hx:aV P G x M) (hy:aV P G y L) (h:gU P σ t x y K):
 Out P G K Pn (((do pure (Next.value (←Builtin.copy_ #[t,tx] ty #[M,L]))):Sem Next).run P w):=by
 unfold gU at h;split at h
 ·rename_i e he;split at h
  ·rename_i id off len cap;split at h
   ·rename_i ac cs X;obtain⟨I,Y,h⟩:=h;split at h
    ·rename_i m J i;have hu:=eP he;obtain⟨inf,o,E,_⟩:=bS (P:=P) (t:=e) I;obtain⟨hlen,a1,d⟩:=EK H hy i;obtain⟨vs,q1,T,O⟩:=d (Nat.min m len) (Nat.min_le_left _ _);have ar:Nat.min m len*P.cellsOf e≤len*P.cellsOf e:=Nat.mul_le_mul_right _ (Nat.min_le_right _ _);have ap:Nat.min m len*P.cellsOf e≤m*P.cellsOf e:=Nat.mul_le_mul_right _ (Nat.min_le_left _ _);cases hx with
     |fH hb=>
      rename_i b;obtain⟨b',cur,k1,V,k3,k4⟩:=H.cells _ _ _ X;rw[hb]at k1;obtain rfl:=Option.some.inj k1;have g:=run_storeCells_cells (P:=P) b off vs 0 w
       (fun j hj=>by rw[Nat.add_zero,jq V (by omega)];rfl)
       (fun j hj=>by simp[World.frozen?,V])
       (fun u q=>by obtain⟨k,F,rfl⟩:=getElem_of_mem q;have:=(O k (by omega)).2;simpa[getD_eq_getElem?_getD,F]using this)
      simp only[Nat.add_zero]at g;refine Out.value (v:=goInt (Nat.min m len:Nat)) (w':=w.setCells b off vs) ?_ (.refl G) (H.store X off vs (J.take (Nat.min m len*P.cellsOf e)) (by simp;omega) (by omega) (fun k F=> ?_) b hb) (.sc _) h
      ·rw[←E]at T;simp[Builtin.copy_,run_underlying hu,hlen,sizeOf,run_typeInfo w o,T,g]
      ·simp only[length_take]at F;have l:k<Nat.min m len*P.cellsOf e:=by omega
       have e1:(J.take (Nat.min m len*P.cellsOf e)).getD k .any=J.getD k .any:=by simp only[getD_eq_getElem?_getD];rw[getElem?_take_of_lt l]
       rw[e1];exact O k l
    ·exact h.elim
   ·exact h.elim
  ·exact h.elim
 ·exact h.elim
def bE (P:Program) (σ:AS) (b:Builtin) (ts:List TypeId) (args:List AV) (K:AV→AS→Prop):Prop:=
 match b,ts,args with
 |.len,[t],[x]=>jz P σ t x fun v=>K v σ
 |.append,[t,d],[s,x]=>mK P σ t d s x K
 |.copy,[t,_],[x,y]=>gU P σ t x y K
 |.min,_,[.sc (.int k a),.sc (.int k' b)]=>K (.sc (.int k (if b<a then b else a))) σ
 |.max,_,[.sc (.int k a),.sc (.int k' b)]=>K (.sc (.int k (if a<b then b else a))) σ
 | _,_,_ =>False
def vS {α:Type}{a:Array α}{x y:α}(h:a.toList= [x,y]):a= #[x,y]:=by apply Array.ext';rw[h]
def D9 {α:Type}{a:Array α}{x:α}(h:a.toList= [x]):a= #[x]:=by apply Array.ext';rw[h]
def Bf (q:Inv P G σ w) {b:Builtin}{ts:Array TypeId}{ty:TypeId}{cs:Array Bool}{args:Array Operand}{s:Fr}{ρ:Operand→Value}(j:∀x,aV P G (ev s x) (ρ x))
 (h:bE P σ b ts.toList (args.toList.map (ev s)) K):Out P G K Pn ((builtin b ts ty cs (args.map ρ)).run P w):=by
 unfold bE at h;split at h
 ·rename_i t x h1 d;obtain rfl:=D9 h1;obtain⟨o,rfl⟩:∃o,args= #[o]:=by
   cases hl:args.toList with
   |nil=>rw[hl]at d;simp at d
   |cons o r=>rw[hl]at d;simp at d;obtain⟨_,rfl⟩:=d;exact⟨o,D9 hl⟩
  simp at d;subst d;have e:(#[o]:Array Operand).map ρ= #[ρ o]:=by simp
  rw[e];exact Lw (ty:=ty) q (j o) h
 ·rename_i t E a x h1 d;obtain rfl:=vS h1;obtain⟨i,g,rfl⟩:∃i g,args= #[i,g]:=by
   cases hl:args.toList with
   |nil=>rw[hl]at d;simp at d
   |cons o r=>
    cases r with
    |nil=>rw[hl]at d;simp at d
    |cons l r=>rw[hl]at d;simp at d;obtain⟨_,_,rfl⟩:=d;exact⟨o,l,vS hl⟩
  simp at d;obtain⟨rfl,rfl⟩:=d;have e:(#[i,g]:Array Operand).map ρ= #[ρ i,ρ g]:=by simp
  rw[e];exact Dn (ty:=ty) q (j i) (j g) h
 ·rename_i t E a x h1 d;obtain rfl:=vS h1;obtain⟨i,g,rfl⟩:∃i g,args= #[i,g]:=by
   cases hl:args.toList with
   |nil=>rw[hl]at d;simp at d
   |cons o r=>
    cases r with
    |nil=>rw[hl]at d;simp at d
    |cons l r=>rw[hl]at d;simp at d;obtain⟨_,_,rfl⟩:=d;exact⟨o,l,vS hl⟩
  simp at d;obtain⟨rfl,rfl⟩:=d;have e:(#[i,g]:Array Operand).map ρ= #[ρ i,ρ g]:=by simp
  rw[e];exact Ik (ty:=ty) q (j i) (j g) h
 all_goals first|exact h.elim|skip
 all_goals
  rename_i k a k' y d;obtain⟨i,g,rfl⟩:∃i g,args= #[i,g]:=by
   cases hl:args.toList with
   |nil=>rw[hl]at d;simp at d
   |cons o r=>
    cases r with
    |nil=>rw[hl]at d;simp at d
    |cons l r=>rw[hl]at d;simp at d;obtain⟨_,_,rfl⟩:=d;exact⟨o,l,vS hl⟩
  simp at d;obtain⟨H,F⟩:=d;have v:=j i;have u:=j g;rw[H]at v;rw[F]at u;have e:(#[i,g]:Array Operand).map ρ= #[ρ i,ρ g]:=by simp
  rw[e];generalize ρ i=v1 at v⊢;generalize ρ g=v2 at u⊢;cases v;cases u
 ·exact Out.pure q (s:=Builtin.min_ ts ty #[.int k a,.int k' y]) (by simp[Builtin.min_,Builtin.min2]) (.sc _) h
 ·exact Out.pure q (s:=Builtin.max_ ts ty #[.int k a,.int k' y]) (by simp[Builtin.max_,Builtin.max2]) (.sc _) h
end Go.AW
namespace Go.AW
variable {P:Program} {G:Gh} {σ:AS} {w:World} {K Pn:AV→AS→Prop}
def Inv.GA (h:Inv P G σ w) (o:Obj) (l:bP) (g:l.Er=true) (q:Io (G.bind w.heap.size) (w.alloc o) l w.heap.size):
 ∃G',G.Le G'∧G'.inj G.top=some w.heap.size∧Inv P G' (σ.set G.top l) (w.alloc o):=by
 have hle:=G.sG w.heap.size (h.top _ (Nat.le_refl _)).1;have j:=h.bind o;refine⟨_,hle,by simp[Gh.bind],j.below,j.base,j.mem,j.top,(fun i b e=>⟨(j.dm i b e).1,(j.dm i b e).2.1,fun ty cs u=>(j.dm i b e).2.2 ty cs (by
  by_cases d:i=G.top
  ·subst d;simp[AS.set]at u;subst u;cases g
  ·simpa[AS.set,d]using u)⟩),j.fA,?_,?_,?_,?_,j.own⟩
 ·intro i ty cs e;by_cases d:i=G.top
  ·simp[AS.set,d]at e;subst e;cases g
  ·simp[AS.set,d]at e;exact j.cells i ty cs e
 ·intro i es e;by_cases d:i=G.top
  ·simp[AS.set,d]at e;subst e;cases g
  ·simp[AS.set,d]at e;exact j.maps i es e
 ·intro i s p e;by_cases d:i=G.top
  ·subst d;simp[AS.set]at e;subst e;exact⟨w.heap.size,by simp[Gh.bind],q⟩
  ·simp[AS.set,d]at e;exact j.dQ i s p e
 ·intro i n e;by_cases d:i=G.top
  ·simp[AS.set,d]at e;subst e;cases g
  ·simp[AS.set,d]at e;exact j.tok i n e
def Inv.Oz (h:Inv P G σ w) {id b:Nat}{J:Obj}(F:G.inj id=some b) (hw:w.heap[b]? =some J) (ap:∀c e f,J≠ .cells c e f) (Y:∀ms L,J≠ .map ms L) (o:Obj) (E:bP) (q:E.Er=true)
 (V:Io G { w with heap:=w.heap.setIfInBounds b o } E b):
 Inv P G (σ.set id E) { w with heap:=w.heap.setIfInBounds b o } :=by
 have ab:=dP hw;have hB:=h.dm id b F;have other:∀k,k≠b→(w.heap.setIfInBounds b o)[k]? =w.heap[k]? :=fun k hk=>Array.getElem?_setIfInBounds_ne (fun e=>hk e.symm);have same:(w.heap.setIfInBounds b o)[b]? =some o:=by simp[ab]
 have I:∀o,G.mem b o=none:=by
  intro o';cases hm:G.mem b o' with
  |none=>rfl
  |some v=>
   have:=(h.mem b o' v hm).1;simp only[World.cell?,hw]at this;cases J with
   |cells c e f=>exact absurd rfl (ap c e f)
   | _ =>simp at this
 refine⟨⟨h.below.os,h.below.tape,h.below.output,by simpa using h.below.size,fun k hk=>by
  have ac:k≠b:=by have:=hB.1;omega
  rw[show({ w with heap:=w.heap.setIfInBounds b o } :World).heap[k]? =(w.heap.setIfInBounds b o)[k]? from rfl,other k ac];exact h.below.block k hk⟩,h.base,?_,h.top,?_,h.fA,?_,?_,?_,?_,?_⟩
 ·intro M o v em;have d:M≠b:=by intro i;subst i;rw[I o]at em;cases em
  exact⟨by rw[World.cell?_of_block (w:=w) (other M d)];exact(h.mem M o v em).1,(h.mem M o v em).2⟩
 ·intro j c g;have:=h.dm j c g;refine⟨this.1,by simpa using this.2.1,fun u cs' X=> ?_⟩;by_cases l:j=id
  ·subst l;simp[AS.set]at X;subst X;cases q
  ·exact this.2.2 u cs' (by simpa[AS.set,l]using X)
 ·intro j u cs' g;have l:j≠id:=by intro i;subst i;simp[AS.set]at g;subst g;cases q
  simp[AS.set,l]at g;obtain⟨c,O,k1,y,H⟩:=h.cells j u cs' g;have d:c≠b:=fun i=>l (h.fA j id b (i ▸ k1) F);exact⟨c,O,k1,by rw[other c d];exact y,H⟩
 ·intro j ar g;have l:j≠id:=by intro i;subst i;simp[AS.set]at g;subst g;cases q
  simp[AS.set,l]at g;obtain⟨c,T,L,k1,y,H⟩:=h.maps j ar g;have d:c≠b:=fun i=>l (h.fA j id b (i ▸ k1) F);exact⟨c,T,L,k1,by rw[other c d];exact y,H⟩
 ·intro j s p g;by_cases l:j=id
  ·subst l;simp[AS.set]at g;subst g;exact⟨b,F,V⟩
  ·simp[AS.set,l]at g;obtain⟨c,k1,y⟩:=h.dQ j s p g;have d:c≠b:=fun i=>l (h.fA j id b (i ▸ k1) F);exact⟨c,k1,y.jQ (fun _ _ h=>h) (fun o ho=>by rw[other c d];exact ho) (fun m ms L hm=>by rw[other m (fun e=>by subst e;rw[hw]at hm;exact Y _ _ (Option.some.inj hm))];exact hm)⟩
 ·intro j n g;have l:j≠id:=by intro i;subst i;simp[AS.set]at g;subst g;cases q
  simp[AS.set,l]at g;exact h.tok j n g
 ·intro t r et;obtain⟨k1,y,H⟩:=h.own t r et;refine⟨k1,y,fun c o ea k al af=> ?_⟩;obtain⟨m1,m2,m3,m4,m5,m6,m7⟩:=H c o ea k al af;have d:c≠b:=fun i=>m4 id (i ▸ F);refine⟨?_,?_,m3,m4,m5,by simpa using m6,m7⟩
  ·rw[World.cell?_of_block (w:=w) (other c d)];exact m1
  ·rw[World.frozen?_of_block (w:=w) (other c d)];exact m2
def ny (P:Program) (σ:AS) (t:TypeId) (x:AV) (K:AV→AS→Prop):Prop:=
 match x with
 |.sc (.string b)=>P.underlying t=some .string∧ ∀id,σ id=none→K (.ptr id 0) (σ.set id (.lF b 0))
 |.mp ba=>(match P.underlying t,σ ba with
  |some (.map _ _),some (.map es)=> ∀id,σ id=none→K (.ptr id 0) (σ.set id (.jD ba es.length []))
  | _,_ =>False)
 | _ =>False
def F4 (id:Nat) (b:ByteArray) (pos:Nat) (σ:AS) (K:AV→AS→Prop):Prop:=
 if pos<b.size then K (.bI [.sc (.bool true),.sc (.int .i64 pos),.sc (.int .i32 (Utf8.decode b pos).1)]) (σ.set id (.lF b (pos+(Utf8.decode b pos).2)))else K (.bI [.sc (.bool false)]) σ
def Ci (id ba d:Nat) (done:List Nat) (σ:AS) (K:AV→AS→Prop):Prop:=
 match σ ba with
 |some (.map es)=>es.length=d∧((∀k,k<d→k∈done)→K (.bI [.sc (.bool false)]) σ)∧
  ∀k,k<d→k ∉ done→K (.bI [.sc (.bool true),(es.getD k (.any,.any)).1,(es.getD k (.any,.any)).2]) (σ.set id (.jD ba d (k::done)))
 | _ =>False
def zw (σ:AS) (x:AV) (str:Bool) (K:AV→AS→Prop):Prop:=
 match x,str with
 |.ptr id off,false=>off=0∧(match σ id with
  |some (.jD ba d done)=>Ci id ba d done σ K
  | _ =>False)
 |.ptr id off,true=>off=0∧(match σ id with
  |some (.lF b pos)=>F4 id b pos σ K
  | _ =>False)
 | _,_ =>False
def EZ (d:Inv P G σ w) {t:TypeId}{x:AV}{v:Value}(l:aV P G x v) (h:ny P σ t x K):
 Out P G K Pn (((do pure (Next.value (←Instr.range t v))):Sem Next).run P w):=by
 unfold ny at h;split at h
 ·rename_i b;cases l;obtain⟨G',g1,g2,g3⟩:=d.GA (.stringIter b 0) (.lF b 0) rfl (heap_alloc_new w _);refine Out.value (v:= .pointer (some ⟨w.heap.size,0,none⟩)) ?_ g1 g3 (.ptr g2) (h.2 _ d.fresh);simp[Instr.range,run_underlying h.1,Sem.run_bind,Result.andThen]
 ·rename_i ba;split at h
  ·rename_i y H es hu u;obtain⟨m,ms,clock,h1,j,⟨F,q⟩,E⟩:=d.maps ba es u;cases l with
   |mp o=>
    rw[h1]at o;obtain rfl:=Option.some.inj o;have g:=dP j;obtain⟨G',g1,g2,g3⟩:=d.GA (.mapIter (some m) clock #[] clock) (.jD ba es.length []) rfl
     ⟨m,clock,#[],clock,ms,clock,heap_alloc_new w _,(G.sG w.heap.size (d.top _ (Nat.le_refl _)).1).inj _ _ h1,by rw[eF w _ g];exact j,
      by omega,Nat.le_refl _,Nat.le_refl _,q,fun k e i=>⟨fun _ =>q.1 k e i,fun _ =>by have:=(Array.getElem?_eq_some_iff.1 i).1;omega⟩,fun k e i _ =>by simp,by simp,by simp,by omega,by simp⟩
    refine Out.value (v:= .pointer (some ⟨w.heap.size,0,none⟩)) ?_ g1 g3 (.ptr g2) (h _ d.fresh);simp[Instr.range,run_underlying hu,Sem.run_bind,Result.andThen,MapKept.run_getObj_map j]
  ·exact h.elim
 ·exact h.elim
def wg {n:Nat}(d:0<n):∃i w',(choose (.mapNext n)).run P w= .ok i w'∧i<n∧(w'=w∨w'=w.drew):=by
 by_cases h1:n≤1
 ·exact⟨0,w,by simp[choose,Sem.run,Question.forced,h1],d,.inl rfl⟩
 ·exact⟨_,w.drew,by simp[choose,Sem.run,Question.forced,h1];rfl,by simp[Question.cut];exact Nat.mod_lt _ d,.inr rfl⟩
def C9 {ms:Array MapEntry}{seen:Array Nat}{since:Nat}(d:∀e,e∈ms→e.born<since):
 (ms.filter fun e=> !seen.contains e.born).filter (fun e=>decide (e.born<since))=(ms.filter fun e=> !seen.contains e.born)∧
 (ms.filter fun e=> !seen.contains e.born).filter (fun e=>decide (e.born≥since))= #[]:=by
 constructor
 ·rw[Array.filter_eq_self];intro e he;have:=d e (Array.mem_filter.1 he).1;simpa using this
 ·rw[Array.filter_eq_empty_iff];intro e he;have:=d e (Array.mem_filter.1 he).1;simp;omega
def ym {t:TypeId}{c m since last clock:Nat}{seen:Array Nat}{ms:Array MapEntry}(o:w.heap[c]? =some (.mapIter (some m) since seen last)) (l:w.heap[m]? =some (.map ms clock))
 (d:(!seen.isEmpty&& !ms.isEmpty&&ms.all fun e=>decide (e.born≥last))=false) (h:∀e,e∈ms→e.born<since) (j:(ms.filter fun e=> !seen.contains e.born).isEmpty=true):
 (Instr.next (.pointer (some ⟨c,0,none⟩)) false t).run P w= .ok (.tuple #[.bool false]) w:=by
 have g:(getObj c).run P w= .ok (.mapIter (some m) since seen last) w:=by simp[getObj,Sem.run,o]
 have i:(getObj m).run P w= .ok (.map ms clock) w:=MapKept.run_getObj_map l;obtain⟨u,q⟩:=C9 (seen:=seen) h;rw[Array.isEmpty_iff]at j;have hf:(Question.mapNext 1).forced=true:=rfl;simp only[Instr.next,Sem.run_bind,g,Result.andThen_ok,i];rw[d];simp only[j];simp[hf,Sem.run_bind,Result.andThen]
def yl {t:TypeId}{c m since last clock:Nat}{seen:Array Nat}{ms:Array MapEntry}(I:w.heap[c]? =some (.mapIter (some m) since seen last)) (L:w.heap[m]? =some (.map ms clock))
 (d:(!seen.isEmpty&& !ms.isEmpty&&ms.all fun e=>decide (e.born≥last))=false) (y:∀e,e∈ms→e.born<since) (H:(ms.filter fun e=> !seen.contains e.born).isEmpty=false):
 ∃e w',(w'=w∨w'=w.drew)∧e∈(ms.filter fun e=> !seen.contains e.born)∧
  (Instr.next (.pointer (some ⟨c,0,none⟩)) false t).run P w= .ok (.tuple #[.bool true,e.key,e.val]) { w' with heap:=w'.heap.setIfInBounds c (.mapIter (some m) since (seen.push e.born) clock) } :=by
 have u:(getObj c).run P w= .ok (.mapIter (some m) since seen last) w:=by simp[getObj,Sem.run,I]
 have E:(getObj m).run P w= .ok (.map ms clock) w:=MapKept.run_getObj_map L;obtain⟨O,M⟩:=C9 (seen:=seen) y;generalize hl:(ms.filter fun e=> !seen.contains e.born)=left at*;have l:0<left.size:=by
  rcases Nat.eq_zero_or_pos left.size with h|h
  ·rw[Array.size_eq_zero_iff]at h;subst h;simp at H
  ·exact h
 obtain⟨i,w',F,q,g⟩:=wg (P:=P) (w:=w) l;have J:w'.heap=w.heap:=by rcases g with rfl|rfl<;>rfl
 refine⟨left[i],w',g,Array.getElem_mem q,?_⟩;have j:∀o,(setObj c o).run P w'= .ok () { w' with heap:=w'.heap.setIfInBounds c o } :=fun o=>by simp[setObj,Sem.run,J,I]
 simp only[Instr.next,Sem.run_bind,u,Result.andThen_ok,E];rw[d];simp only[hl,O,M,H];have v:(if (Question.mapNext left.size).forced=true then Result.ok 0 w else Result.ok ((Question.mapNext left.size).cut (w.tape w.drawn (Question.mapNext left.size))) w.drew:Result Nat)=Result.ok i w':=by rw[←F];simp[choose,Sem.run]
 simp[Sem.run_bind,Result.andThen];rw[v];simp[q,Result.andThen,j]
def Ih (H:Inv P G σ w) {x:AV}{v:Value}{str:Bool}{t:TypeId}(L:aV P G x v) (h:zw σ x str K):
 Out P G K Pn (((do pure (Next.value (←Instr.next v str t))):Sem Next).run P w):=by
 unfold zw at h;split at h
 ·rename_i id off;obtain⟨rfl,h⟩:=h;split at h
  ·rename_i ba n0 done hσ;obtain⟨c,h1,m,since,seen,last,ms,clock,q,h3,M,h5,h6,h7,h8,h9,J,a5,a4,b5,b4⟩:=H.dQ id _ rfl hσ;cases L with
   |ptr hb=>
    rw[h1]at hb;obtain rfl:=Option.some.inj hb;unfold Ci at h;split at h
    ·rename_i es ar;obtain⟨hn,k1,k2⟩:=h;obtain⟨m',b0,ap,q1,q2,⟨q3,q4⟩,q5⟩:=H.maps ba es ar;rw[h3]at q1;obtain rfl:=Option.some.inj q1;rw[M]at q2;cases q2;have l:∀e,e∈ms→e.born<since:=by intro e he;obtain⟨k,hk,rfl⟩:=Array.getElem_of_mem he;have E:ms[k]? =some ms[k]:=Array.getElem?_eq_getElem hk;exact(h9 k _ E).1 (by omega)
     have j:(!seen.isEmpty&& !ms.isEmpty&&ms.all fun e=>decide (e.born≥last))=false:=by
      cases a0:seen.isEmpty with
      |true=>simp
      |false=>
       have V:=a4 a0;have h0:0<ms.size:=by omega
       have y:=l ms[0] (Array.getElem_mem h0);rw[Bool.and_eq_false_iff];right;rw[Bool.eq_false_iff];intro hc;have:=(Array.all_eq_true.1 hc) 0 h0;simp at this;omega
     by_cases hL:(ms.filter fun e=> !seen.contains e.born).isEmpty=true
     ·have u:=ym (P:=P) (t:=t) q M j l hL;refine Out.value u (.refl G) H ?_ (k1 fun k hk=> ?_)
      ·refine .bI [.bool false] rfl fun i g=> ?_
       match i,g with
       |0,_ =>exact .sc _
      ·have d:k<ms.size:=by omega
       have E:ms[k]? =some ms[k]:=Array.getElem?_eq_getElem d;refine(J k _ E hk).1 ?_;rw[Array.isEmpty_iff]at hL;have:=Array.filter_eq_empty_iff.1 hL ms[k] (Array.getElem_mem d);simpa using this
     ·obtain⟨e,w',O,F,u⟩:=yl (P:=P) (t:=t) q M j l (by simpa using hL);rw[Array.mem_filter]at F;obtain⟨Y,X⟩:=F;obtain⟨k,hk,rfl⟩:=Array.getElem_of_mem Y;have E:ms[k]? =some ms[k]:=Array.getElem?_eq_getElem hk;have ac:k<n0:=by omega
      have a1:k ∉ done:=fun hd=>by have:=(J k _ E ac).2 hd;rw[this]at X;simp at X
      have hh:w'.heap=w.heap:=by rcases O with rfl|rfl<;>rfl
      have g:Inv P G σ w':=by
       rcases O with rfl|rfl
       ·exact H
       ·exact H.drew
      have y:=dP q;have a3:m≠c:=by rintro rfl;rw[q]at M;cases M
      obtain⟨me,r1,r2,r3⟩:=q5 k (by omega);rw[E]at r1;obtain rfl:=Option.some.inj r1;refine Out.value u (.refl G) (g.Oz h1 (by rw[hh];exact q) (by simp) (by simp) _ (.jD ba n0 (k::done)) rfl ?_) ?_ (k2 k ac a1)
      ·refine⟨m,since,seen.push ms[k].born,clock,ms,clock,?_,h3,?_,h5,by omega,Nat.le_refl _,h8,h9,?_,?_,(fun _ =>by omega),by omega,?_⟩
       ·show(w'.heap.setIfInBounds c _)[c]? = _;rw[hh];simp[y]
       ·show(w'.heap.setIfInBounds c _)[m]? = _;rw[hh,Array.getElem?_setIfInBounds_ne (fun e=>a3 e.symm)];exact M
       ·intro k' e' d ab;rw[Array.contains_iff_mem,Array.mem_push,mem_cons,←Array.contains_iff_mem,J k' e' d ab];constructor
        ·rintro(h|h)
         ·exact .inr h
         ·exact .inl (h8.2 _ _ _ _ d E h)
        ·rintro(rfl|h)
         ·rw[E]at d;cases d;exact .inr rfl
         ·exact .inl h
       ·intro x L;rcases Array.mem_push.1 L with L|rfl
        ·exact a5 x L
        ·exact l _ Y
       ·intro k' d;simp at d;subst d;exact⟨ms[k],E,by simp⟩
      ·refine .bI [.bool true,ms[k].key,ms[k].val] rfl fun i g=> ?_
       match i,g with
       |0,_ =>exact .sc _
       |1,_ =>exact r2
       |2,_ =>exact r3
    ·exact h.elim
  ·exact h.elim
 ·rename_i id off;obtain⟨rfl,h⟩:=h;split at h
  ·rename_i b pos hσ;obtain⟨c,h1,q⟩:=H.dQ id _ rfl hσ;have q:w.heap[c]? =some (.stringIter b pos):=q;cases L with
   |ptr hb=>
    rw[h1]at hb;obtain rfl:=Option.some.inj hb;unfold F4 at h;have I:(getObj c).run P w= .ok (.stringIter b pos) w:=by simp[getObj,Sem.run,q]
    by_cases V:pos<b.size
    ·rw[if_pos V]at h;have T:∀o,(setObj c o).run P w= .ok () { w with heap:=w.heap.setIfInBounds c o } :=fun o=>by simp[setObj,Sem.run,q]
     have y:=dP q;refine Out.value (v:= .tuple #[.bool true,.int .i64 pos,.int .i32 (Utf8.decode b pos).1]) (G':=G) ?_ (.refl G) (H.Oz h1 q (by simp) (by simp) (.stringIter b (pos+(Utf8.decode b pos).2)) (.lF b (pos+(Utf8.decode b pos).2)) rfl (by show({ w with heap:=w.heap.setIfInBounds c (.stringIter b (pos+(Utf8.decode b pos).2)) } :World).heap[c]? = _;simp[y])) ?_ h
     ·simp[Instr.next,Sem.run_bind,I,Result.andThen,V,T,goInt]
     ·refine .bI [.bool true,.int .i64 pos,.int .i32 (Utf8.decode b pos).1] rfl fun i g=> ?_
      match i,g with
      |0,_ =>exact .sc _
      |1,_ =>exact .sc _
      |2,_ =>exact .sc _
    ·rw[if_neg V]at h;refine Out.value (v:= .tuple #[.bool false]) (G':=G) ?_ (.refl G) H ?_ h
     ·simp[Instr.next,Sem.run_bind,I,Result.andThen,V]
     ·refine .bI [.bool false] rfl fun i g=> ?_
      match i,g with
      |0,_ =>exact .sc _
  ·exact h.elim
 ·exact h.elim
def uo (σ:AS) (x:AV) (K:AV→Prop):Prop:=
 match x with
 |.ptr id off=>off=0∧(match σ id with
  |some (.jD ba d (k:: _))=>(match σ ba with
   |some (.map es)=>es.length=d∧K (.bI [(es.getD k (.any,.any)).1,(es.getD k (.any,.any)).2])
   | _ =>False)
  | _ =>False)
 | _ =>False
def E2 (F:Inv P G σ w) {x:AV}{v:Value}(hx:aV P G x v) (h:uo σ x fun v=>K v σ):
 Out P G K Pn (((do pure (Next.value (←Instr.entry v))):Sem Next).run P w):=by
 unfold uo at h;split at h
 ·rename_i id off;obtain⟨rfl,h⟩:=h;split at h
  ·rename_i ba n0 k rest hσ;obtain⟨c,h1,m,since,seen,last,ms,clock,h2,h3,X,h5,h6,h7,h8,h9,a7,a6,a5,a4,L⟩:=F.dQ id _ rfl hσ;cases hx with
   |ptr V=>
    rw[h1]at V;obtain rfl:=Option.some.inj V;split at h
    ·rename_i es q;obtain⟨hn,hk⟩:=h;obtain⟨m',af,o,T,O,⟨q3,q4⟩,q5⟩:=F.maps ba es q;rw[h3]at T;obtain rfl:=Option.some.inj T;rw[X]at O;cases O;obtain⟨e,g1,g2⟩:=L k rfl;have ar:k<ms.size:=(Array.getElem?_eq_some_iff.1 g1).1;have J:clock=last:=by omega
     obtain⟨me,M,r2,Y⟩:=q5 k (by omega);rw[g1]at M;obtain rfl:=Option.some.inj M;have l:(getObj c).run P w= .ok (.mapIter (some m) since seen last) w:=by simp[getObj,Sem.run,h2]
     have H:(getObj m).run P w= .ok (.map ms clock) w:=MapKept.run_getObj_map X;have d:ms.find? (fun x=>x.born==e.born)=some e:=by
      cases hf:ms.find? (fun x=>x.born==e.born)with
      |none=>have:=Array.find?_eq_none.1 hf e (Array.mem_of_getElem? g1);simp at this
      |some y=>
       have hp:=Array.find?_some hf;have g:=Array.mem_of_find?_eq_some hf;obtain⟨j,hj,u⟩:=Array.getElem_of_mem g;have I:ms[j]? =some y:=by rw[Array.getElem?_eq_getElem hj,u]
       have:=h8.2 j k y e I g1 (by simpa using hp);subst this;rw[g1]at I;exact I.symm ▸ rfl
     refine Out.value (v:= .tuple #[e.key,e.val]) (G':=G) ?_ (.refl G) F ?_ hk
     ·simp[Instr.entry,Sem.run_bind,l,Result.andThen,g2,H,J,d]
     ·refine .bI [e.key,e.val] rfl fun i E=> ?_
      match i,E with
      |0,_ =>exact r2
      |1,_ =>exact Y
    ·exact h.elim
  ·exact h.elim
 ·exact h.elim
def jl (n:Nat) (v:AV):List AV:=(List.replicate n v).flatMap (·.cells)
def zg {v:AV} :∀(n:Nat),(jl n v).length=n*v.cells.length∧ ∀i j,i<n→j<v.cells.length→(jl n v).getD (i*v.cells.length+j) .any=v.cells.getD j .any:=by
 intro n;induction n with
 |zero=>exact⟨by simp[jl],fun i j h _ =>by omega⟩
 |succ n d=>
  have e:jl (n+1) v=v.cells++jl n v:=by simp[jl,replicate_succ]
  rw[e];refine⟨by rw[length_append,d.1,Nat.add_mul];omega,fun i j h g=> ?_⟩;cases i with
  |zero=>rw[Nat.zero_mul,Nat.zero_add,aM _ _ _ g]
  |succ i=>
   have:(i+1)*v.cells.length+j=v.cells.length+(i*v.cells.length+j):=by rw[Nat.add_mul];omega
   rw[this,aU _ _ _ (by omega)];have l:v.cells.length+(i*v.cells.length+j)-v.cells.length=i*v.cells.length+j:=by omega
   rw[l];exact d.2 i j (by omega) g
def j9 (P:Program) (σ:AS) (t:TypeId) (len cap:AV) (K:AV→AS→Prop):Prop:=
 match cr P t,len,cap with
 |some e,.sc (.int _ n),.sc (.int _ c)=>n=c∧0≤n∧n≤1000000∧P.cellsOf e≠0∧(P.bytesOf e:Int)*n≤8000000∧(ax P e).laid=true∧(ax P e).cells.length=P.cellsOf e∧
  ∀id,σ id=none→K (.fH id 0 n.toNat n.toNat) (σ.set id (.cells e (jl n.toNat (ax P e))))
 | _,_,_ =>False
def vN {n:Int}(h0:0≤n) (h1:n≤1000000):IntKind.i64.wrap n=n:=by simp[IntKind.wrap,IntKind.bits,IntKind.signed];split<;>omega
def IA {z:Value}{e:TypeId}{m:Nat}(h:z.cells.size=m) (n:Nat) {zero:Array Value}(hzero:zero=if n*m=0 then #[]else z.cells) (i j:Nat) (o:i<n) (l:j<m):
 (((Array.range (n*m)).map (zero[· %zero.size]!))).getD (i*m+j) undef=z.cells.getD j undef:=by
 have g:i*m+j<n*m:=by have:(i+1)*m≤n*m:=Nat.mul_le_mul_right m o;rw[Nat.add_mul]at this;omega
 have h0:¬n*m=0:=by omega
 rw[if_neg h0]at hzero;subst hzero;have q:(i*m+j)%z.cells.size=j:=by rw[h,Nat.add_comm,Nat.add_mul_mod_self_right,Nat.mod_eq_of_lt l]
 have d:j<z.cells.size:=by omega
 have u:z.cells[j]! =z.cells[j]:=by simp[d]
 simp[Array.getD,g,q,d]
def xS (X:Inv P G σ w) {t:TypeId}{len cap:AV}{O T:Value}(hl:aV P G len O) (hc:aV P G cap T) (h:j9 P σ t len cap K):
 Out P G K Pn (((do pure (Next.value (←Instr.makeSlice t O T))):Sem Next).run P w):=by
 unfold j9 at h;split at h
 ·rename_i e k1 n j c he;obtain⟨rfl,h0,h1,h2,h3,h4,H,h7⟩:=h;cases hl;cases hc;have hu:=eP he;obtain⟨it,z,d,hz,l⟩:=dq h4;have I:it.size=P.cellsOf e:=by simp[Program.cellsOf,d]
  have J:it.bytes=P.bytesOf e:=by simp[Program.bytesOf,d]
  have hw:IntKind.i64.wrap n=n:=vN h0 h1;obtain⟨M,L⟩:=gf (gn (P:=P) (G:=G) z) (by rw[←l];exact h4);rw[←l,H]at M L;obtain⟨N,rfl⟩:∃N:Nat,n=N:=⟨n.toNat,by omega⟩;simp only[Int.toNat_natCast]at h7;have b1:(N:Int)*P.bytesOf e≤8000000:=by rw[Int.mul_comm];exact h3
  have b2:((N*P.bytesOf e:Nat):Int)≤8000000:=by rw[Int.natCast_mul];exact b1
  have g:¬(N*P.bytesOf e>roomBytes):=by unfold roomBytes;omega
  have Y:¬((2:Int)^48<(P.bytesOf e:Int)*N):=by omega
  have q:¬((N:Int)<0):=by omega
  let zero:Array Value:=if N*P.cellsOf e=0 then #[]else z.cells
  let init:Array Value:=(Array.range (N*P.cellsOf e)).map (zero[· %zero.size]!)
  have o:(Instr.makeSlice t (.int k1 N) (.int j N)).run P w= .ok (.slice (some ⟨w.heap.size,0,none⟩) N N) (w.alloc (.cells init e)):=by
   simp only[Instr.makeSlice,Sem.run_bind,run_underlying hu,Result.andThen_ok,asInt,asIntOf,Sem.run_pure,run_typeInfo w d,hw,J];simp only[askRoom,Int.toNat_natCast,g,if_false,sizeOf];have i:¬((281474976710656:Int)<(P.bytesOf e:Int)*N):=by omega
   simp[q,i,Sem.run_bind,Result.andThen,run_typeInfo w d,I];by_cases u:N*P.cellsOf e=0
   ·simp[u,zero,init,newRow,Result.andThen]
   ·simp[u,zero,init,zeroValue,run_typeInfo w d,hz,newRow,Sem.run_bind,Result.andThen]
  have E:∀k,k<N*P.cellsOf e→k/P.cellsOf e<N∧k%P.cellsOf e<P.cellsOf e∧(k/P.cellsOf e)*P.cellsOf e+k%P.cellsOf e=k:=fun k F=>
   ⟨Nat.div_lt_of_lt_mul (by rw[Nat.mul_comm];exact F),Nat.mod_lt _ (by omega),by rw[Nat.mul_comm];exact Nat.div_add_mod k _⟩
  have f1:=(zg (v:=ax P e) N).1;rw[H]at f1;obtain⟨G',hle,y,hinv⟩:=X.lZ e init (jl N (ax P e)) (by rw[f1];simp[init]) (fun k F=>by rw[f1]at F;obtain⟨k1,j,V⟩:=E k F;have h8:=(zg (v:=ax P e) N).2 _ _ k1 (by rw[H];exact j);rw[H,V]at h8;rw[h8];have h9:=IA (z:=z) (e:=e) M N (zero:=zero) rfl _ _ k1 j;rw[V]at h9;rw[show init.getD k undef= _ from h9];exact L _ j);exact Out.value o hle hinv (.fH y) (h7 _ X.fresh)
 ·exact h.elim
end Go.AW
namespace Go.AW
variable {P:Program} {G:Gh} {σ:AS} {w:World} {K Pn:AV→AS→Prop}
def lk (P:Program) (f:FuncId):Bool:=
 match P.funcs[f]? with
 |some fn=>fn.body.isSome&& !(fn.name== "runtime.NumGoroutine")
 |none=>false
def pP {f:FuncId}(h:lk P f=true) (args:Array Value):(callFunc f args).run P w= .ok (.enter f args) w:=by
 unfold lk at h;split at h
 ·rename_i fn hf;simp only[Bool.and_eq_true,Bool.not_eq_true']at h;have g:fn.body.isNone=false:=by
   cases i:fn.body with
   |none=>rw[i]at h;simp at h
   |some c=>rfl
  have j:¬fn.name= "runtime.NumGoroutine" :=by simpa using h.2
  have d:¬fn.body=none:=by intro e;rw[e]at g;simp at g
  simp[callFunc,hf,j,d]
 ·cases h
def yB (P:Program) (G:Gh) (as:List AV) (vs:Array Value):Prop:=vs.size=as.length∧ ∀i,i<as.length→aV P G (as.getD i .any) (vs.getD i undef)
def yB.mono {G':Gh}(hle:G.Le G') {as:List AV}{vs:Array Value}(h:yB P G as vs):yB P G' as vs:=⟨h.1,fun i d=>(h.2 i d).mono hle⟩
def kE (P:Program) (G:Gh) (R g:AV→AS→Prop):Ending→World→Prop
 |.returned v,w'=> ∃G' d r,G.Le G'∧Inv P G' d w'∧aV P G' r v∧R r d
 |.panicked [e],w'=>e.recovered=false∧e.goexit=false∧ ∃G' d r,G.Le G'∧Inv P G' d w'∧aV P G' r e.v∧g r d
 | _,_ =>False
structure ad (P:Program) (f:FuncId) (args:List AV) (σ:AS) (R Rp:AV→AS→Prop):Prop where
 body:lk P f=true
 run:∀(G:Gh) (w:World) (vals:Array Value),Inv P G σ w→yB P G args vals→Calls P f vals w (kE P G R Rp)
def ad.mono {f:FuncId}{args:List AV}{R j l i:AV→AS→Prop}(h:ad P f args σ R j) (h1:∀r g,R r g→l r g) (u:∀r g,j r g→i r g):ad P f args σ l i:=
 ⟨h.body,fun G w vals q o=>(h.run G w vals q o).mono fun e w' he=>by
  unfold kE at he⊢;split at he
  ·obtain⟨G',g,r,a,b,c,d⟩:=he;exact⟨G',g,r,a,b,c,h1 _ _ d⟩
  ·obtain⟨x,y,G',g,r,a,b,c,d⟩:=he;exact⟨x,y,G',g,r,a,b,c,u _ _ d⟩
  ·exact he.elim⟩
def Bt (P:Program) (s:Fr) (σ:AS) (K Pn:AV→AS→Prop):Op→Prop
 |.move x=>K (ev s x) σ
 |.assign x=>K (ev s x) σ
 |.pick c a b=>match ev s c with|.sc (.bool t)=>K (if t then ev s a else ev s b) σ| _ =>False
 |.alloc e=>Bi P σ e K
 |.box e x=>Of P σ e (ev s x) K
 |.build t parts=>rL P t (parts.toList.map fun p=>(p.1,ev s p.2)) fun v=>K v σ
 |.buildSlice t n parts=>ez P σ t n (parts.toList.map fun p=>(p.1,ev s p.2)) K
 |.load t a=>eX P σ t (ev s a) fun v=>K v σ
 |.store t a x=>um P σ t (ev s a) (ev s x) fun d=>K .any d
 |.nilCheck x=>iM (ev s x) fun v=>K v σ
 |.binOp op t x y _ =>g9 P op t (ev s x) (ev s y) fun v=>K v σ
 |.unOp op _ x=>QR op (ev s x) fun v=>K v σ
 |.convert src dst x=>fM P src dst (ev s x) fun v=>K v σ
 |.makeInterface t x=>P.concrete t=true∧K (.rM t (ev s x)) σ
 |.makeFunc f first cap=>K (.fn f (first.toList.map (ev s)) (cap.toList.map (ev s))) σ
 |.makeMap _ r=>r.isNone=true∧ ∀id,σ id=none→K (.mp id) (σ.set id (.map []))
 |.range t x=>ny P σ t (ev s x) K
 |.next it str=>zw σ (ev s it) str K
 |.entry it=>uo σ (ev s it) fun v=>K v σ
 |.makeSlice t l c=>j9 P σ t (ev s l) (ev s c) K
 |.slice t x lo g mx=>gh P t (ev s x) (lo.map (ev s)) (g.map (ev s)) (mx.map (ev s)) fun v=>K v σ
 |.fieldAddr t x f=>fC P t (ev s x) f fun v=>K v σ
 |.field t x f=>oP P t (ev s x) f fun v=>K v σ
 |.indexAddr t x i=>eG P t (ev s x) (ev s i) fun v=>K v σ
 |.index t x i=>oN P t (ev s x) (ev s i) fun v=>K v σ
 |.extract x i=>l0 (ev s x) i fun v=>K v σ
 |.panic x=>match ev s x with|.rM t v=>Pn (.rM t v) σ| _ =>False
 |.call c=>match c.callee with
  |.builtin b=>bE P σ b c.argTypes.toList (c.args.toList.map (ev s)) K
  | _ =>False
 | _ =>False
def Inv.allocMap (h:Inv P G σ w):∃G',G.Le G'∧G'.inj G.top=some w.heap.size∧Inv P G' (σ.set G.top (.map [])) (w.alloc (.map #[] 0)):=by
 have hle:=G.sG w.heap.size (h.top _ (Nat.le_refl _)).1;have g:=h.bind (.map #[] 0);refine⟨_,hle,by simp[Gh.bind],g.below,g.base,g.mem,g.top,(fun i b e=>⟨(g.dm i b e).1,(g.dm i b e).2.1,fun ty cs j=>(g.dm i b e).2.2 ty cs (by
  by_cases d:i=G.top
  ·subst d;simp[AS.set]at j
  ·simpa[AS.set,d]using j)⟩),g.fA,?_,?_,?_,?_,g.own⟩
 ·intro i ty cs e;by_cases d:i=G.top
  ·simp[AS.set,d]at e
  ·simp[AS.set,d]at e;exact g.cells i ty cs e
 ·intro i es e;by_cases d:i=G.top
  ·subst d;simp[AS.set]at e;subst e;exact⟨w.heap.size,#[],0,by simp[Gh.bind],heap_alloc_new w _,⟨rfl,by constructor<;>simp⟩,fun k l=>by simp at l⟩
  ·simp[AS.set,d]at e;exact g.maps i es e
 ·intro i s p e;by_cases d:i=G.top
  ·simp[AS.set,d]at e;subst e;cases p
  ·simp[AS.set,d]at e;exact g.dQ i s p e
 ·intro i n e;by_cases d:i=G.top
  ·simp[AS.set,d]at e
  ·simp[AS.set,d]at e;exact g.tok i n e
def D8 {s:Fr}{ρ:Operand→Value}(d:∀x,aV P G (ev s x) (ρ x)) (o:Option Operand):(o.map (ev s)=none∧o.map ρ=none)∨ ∃a b,o.map (ev s)=some a∧o.map ρ=some b∧aV P G a b:=by
 cases o with
 |none=>exact .inl ⟨rfl,rfl⟩
 |some x=>exact .inr ⟨_,_,rfl,rfl,d x⟩
def N7 (j:Inv P G σ w) {s:Fr}{ρ:Operand→Value}(g:∀x,aV P G (ev s x) (ρ x)) (o:Oper) (h:Bt P s σ K Pn o.op):Out P G K Pn ((execOp ρ o).run P w):=by
 obtain⟨dst,op,ty,pos,after,guard⟩:=o;cases op<;>simp only[Bt]at h
 case move x=>exact⟨G,σ,_,.refl G,j,g x,h⟩
 case assign x=>exact⟨G,σ,_,.refl G,j,g x,h⟩
 case pick c a b=>
  split at h
  ·rename_i t L;have E:=g c;rw[L]at E;generalize H:ρ c=v at E;cases E;have u:(execOp ρ ⟨dst,.pick c a b,ty,pos,after,guard⟩).run P w= .ok (.value (if t then ρ a else ρ b)) w:=by simp[execOp,H,asBool]
   rw[u];refine⟨G,σ,_,.refl G,j,?_,h⟩;cases t
   ·exact g b
   ·exact g a
  ·exact h.elim
 case alloc e=>exact E9 j h
 case box e x=>exact Ly j (g x) h
 case build t parts=>exact E8 j g h
 case buildSlice t n parts=>exact vd j g h
 case load t a=>exact Ij j (g a) h
 case store t a x=>exact EX j (g a) (g x) h
 case nilCheck x=>exact yz (o:=⟨dst,.nilCheck x,ty,pos,after,guard⟩) j rfl (g x) h
 case binOp op t x y M=>exact Lz j (g x) (g y) h
 case unOp op t x=>exact Ob j (g x) h
 case convert src dst x=>exact Be j (g x) h
 case makeInterface t x=>exact Out.pure j (run_makeInterface w t (ρ x) h.1) (.rM (g x)) h.2
 case makeFunc f first cap=>
  refine Out.pure j (v:= .func f (first.map ρ) (cap.map ρ)) rfl ?_ h;have:=aV.fn (P:=P) (G:=G) (f:=f) (first:=first.toList.map (ev s)) (captured:=cap.toList.map (ev s)) (first.toList.map ρ) (cap.toList.map ρ) (by simp) (by simp)
   (fun i q=>by simp at q;simp[getD_eq_getElem?_getD,q];exact g _) (fun i q=>by simp at q;simp[getD_eq_getElem?_getD,q];exact g _)
  have e:∀a:Array Operand,(a.toList.map ρ).toArray=a.map ρ:=fun a=>by apply Array.ext';simp
  rw[e,e]at this;exact this
 case makeMap t r=>
  cases r with
  |none=>obtain⟨G',g1,g2,g3⟩:=j.allocMap;refine Out.value (v:= .map (some w.heap.size)) ?_ g1 g3 (.mp g2) (h.2 _ j.fresh);simp[Instr.makeMap]
  |some x=>simp at h
 case range t x=>exact EZ j (g x) h
 case next it str=>exact Ih j (g it) h
 case entry it=>exact E2 j (g it) h
 case makeSlice t l c=>exact xS j (g l) (g c) h
 case slice t x lo q mx=>exact EY j (g x) (D8 g lo) (D8 g q) (D8 g mx) h
 case fieldAddr t x f=>exact xU j (g x) h
 case field t x f=>exact E1 j (g x) h
 case indexAddr t x i=>exact xT j (g x) (g i) h
 case index t x i=>exact E0 j (g x) (g i) h
 case extract x i=>exact Bc j (g x) h
 case panic x=>
  split at h
  ·rename_i t v J;have E:=g x;rw[J]at E;have F:=E;generalize H:ρ x=O at E F;cases E with
   |rM h1=>
    rename_i y;have u:(execOp ρ ⟨dst,.panic x,ty,pos,after,guard⟩).run P w= .halt (.panic (.iface t y)) w:=by show(do pure (Next.value (←Instr.panic (ρ x))):Sem Next).run P w= _;rw[H];rfl
    rw[u];exact⟨G,σ,_,.refl G,j,F,h⟩
  ·exact h.elim
 case call c=>
  obtain⟨callee,args,I⟩:=c;cases callee with
  |builtin b=>show Out P G K Pn ((do let d ←resolve ρ ⟨.builtin b,args,I⟩ ty;invoke d.target d.args:Sem Next).run P w);simp only[resolve,Sem.run_bind,Sem.run_pure,Result.andThen_ok,invoke];exact Bf j g h
  |value f=>exact h.elim
  |invoke r m=>exact h.elim
 all_goals exact h.elim
end Go.AW
namespace Go.AW
variable {P:Program} {G:Gh} {σ:AS} {w:World}
inductive T6 where
 |normal|exit (id:Nat)|ret|panic (v:AV)
abbrev AQ:=T6→Fr→AS→Prop
def LQ (P:Program) (n:Nat) (ds:List Deferred) (Q:AQ) (G0:Gh):Exit→Act→World→Prop
 |.normal,a,w=> ∃G s σ,G0.Le G∧oS P G n ds s σ a w∧Q .normal s σ
 |.exit id,a,w=> ∃G s σ,G0.Le G∧oS P G n ds s σ a w∧Q (.exit id) s σ
 |.ret,a,w=> ∃G s σ,G0.Le G∧oS P G n ds s σ a w∧Q .ret s σ
 |.panic [e],a,w=>e.recovered=false∧e.goexit=false∧ ∃G s σ v,G0.Le G∧oS P G n ds s σ a w∧aV P G v e.v∧Q (.panic v) s σ
 | _,_,_ =>False
def aq (P:Program) (n:Nat) (ds:List Deferred) (c:Code) (Q:AQ) (s:Fr) (σ:AS):Prop:=
 ∀(G0 G:Gh) (a:Act) (w:World),G0.Le G→oS P G n ds s σ a w→c.wp P (LQ P n ds Q G0) a w
def ag (P:Program) (i:AV) (args:List AV) (σ:AS) (K h:AV→AS→Prop):Prop:=
 match i with
 |.sc (.func (.func f) a b)=>a.size=0∧b.size=0∧ ∃R g,ad P f args σ R g∧(∀r d,R r d→K r d)∧(∀r d,g r d→h r d)
 |.fn (.func f) first cap=> ∃R g,ad P f (first++args++cap) σ R g∧(∀r d,R r d→K r d)∧(∀r d,g r d→h r d)
 | _ =>False
def Dm {i:AV}{args:List AV}{K j:AV→AS→Prop}(h:ag P i args σ K j):
 (∃f,i= .sc (.func (.func f) #[] #[])∧ ∃R g,ad P f args σ R g∧(∀r d,R r d→K r d)∧(∀r d,g r d→j r d))∨
 (∃f first cap,i= .fn (.func f) first cap∧ ∃R g,ad P f (first++args++cap) σ R g∧(∀r d,R r d→K r d)∧(∀r d,g r d→j r d)):=by
 unfold ag at h;split at h
 ·rename_i f a b;obtain⟨h1,q,o⟩:=h;have ha:a= #[]:=Array.size_eq_zero_iff.1 h1;have l:b= #[]:=Array.size_eq_zero_iff.1 q;subst ha l;exact .inl ⟨f,rfl,o⟩
 ·exact .inr ⟨_,_,_,rfl,h⟩
 ·exact h.elim
def b8 (P:Program) (op:Op) (s:Fr) (σ:AS) (d g:AV→AS→Prop):Prop:=
 match op with
 |.call ⟨.value f,args,_⟩=>ag P (ev s f) (args.toList.map (ev s)) σ d g
 |op=>Bt P s σ d g op
def lE (P:Program) (n:Nat) (o:Oper) (s:Fr) (σ:AS) (K:Fr→AS→Prop) (Q:AQ):Prop:=
 (match o.dst with|none=>True|some d=>d<n)∧b8 P o.op s σ (fun v g=>K (s.put o.dst v) g) (fun v g=>Q (.panic v) s g)
def jk (ops:Array Oper) (s:Fr) (j:Nat):AV:=match (ops[j]?).bind (·.dst)with|some d=>s d|none=> .any
abbrev kT:AV:= .sc undef
def yw:AV→Bool→Bool
 |.sc (.bool b),w=>b==w
 | _,_ =>false
def Qm:AV→Bool→Bool
 |.sc (.bool b),w=>b !=w
 |.sc (.tuple _),_ =>true
 | _,_ =>false
def iB (g:AV) (want:Bool) (A B:Prop):Prop:=(yw g want=true∧A)∨(Qm g want=true∧B)
def uA {g:AV}{want:Bool}{A B d B':Prop}(h:iB g want A B) (h1:A→d) (i:B→B'):iB g want d B':=
 h.imp (fun h=>⟨h.1,h1 h.2⟩) (fun h=>⟨h.1,i h.2⟩)
def eL (P:Program) (n:Nat) (ops:Array Oper) (o:Oper) (s:Fr) (σ:AS) (K:Fr→AS→Prop) (Q:AQ):Prop:=
 match o.guard with
 |none=>lE P n o s σ K Q
 |some (j,want)=>iB (jk ops s j) want (lE P n o s σ K Q) ((match o.dst with|none=>True|some d=>d<n)∧K (s.put o.dst kT) σ)
def jZ (P:Program) (n:Nat) (ops:Array Oper) (Q:AQ):List Oper→Fr→AS→Prop
 |[],s,σ=>Q .normal s σ
 |o::rest,s,σ=>eL P n ops o s σ (jZ P n ops Q rest) Q
def GM {o:Oper}{a:Act}{next next':Act→World→Prop}{Q:Exit→Act→World→Prop}{r:Result Next}(h:∀a w,next a w→next' a w) (d:o.upon P a next Q r):o.upon P a next' Q r:=by
 cases r with
 |ok n w'=>
  cases n<;>simp only[Oper.upon]at d⊢ <;>
   first
    |exact h _ _ d
    |exact Calls.mono d (fun e g he=>by cases e<;>first|exact h _ _ he|exact he)
    |exact Rows.mono d (fun _ _ he=>h _ _ he)
 |halt x w'=>cases x<;>simp only[Oper.upon]at d⊢ <;>exact d
def yI {n:Nat}{ds:List Deferred}{G0:Gh}(o:Oper) {s:Fr}{K:Fr→AS→Prop}{Q:AQ}(h:lE P n o s σ K Q) (hle:G0.Le G) {a:Act}(u:oS P G n ds s σ a w)
 {next:Act→World→Prop} (hn:∀G' s' g a' w',G0.Le G'→oS P G' n ds s' g a' w'→K s' g→next a' w'):o.wp P a w next (LQ P n ds Q G0):=by
 obtain⟨hd,h⟩:=h;have J:∀t,o.dst=some t→t<n:=by intro t ht;rw[ht]at hd;exact hd
 have E:=u.ev;have plain:Bt P s σ (fun v g=>K (s.put o.dst v) g) (fun v g=>Q (.panic v) s g) o.op→o.wp P a w next (LQ P n ds Q G0):=by
  intro h;have:=N7 u.inv E o h;unfold Oper.wp;generalize (execOp a.eval o).run P w=r at this⊢;cases r with
  |ok nx w'=>
   cases nx<;>simp only[Out]at this<;>first|exact this.elim|skip
   ·obtain⟨G',g,av,g1,g2,g3,H⟩:=this;exact hn G' _ _ _ _ (hle.trans g1) (u.put g1 g2 o.dst J g3) H
   ·obtain⟨G',g,av,g1,g2,g3,H⟩:=this;exact hn G' _ _ _ _ (hle.trans g1) (u.put g1 g2 o.dst J g3) H
  |halt x w'=>
   cases x<;>simp only[Out]at this<;>first|exact this.elim|skip
   obtain⟨G',g,av,g1,g2,g3,H⟩:=this;exact⟨rfl,rfl,G',s,g,av,hle.trans g1,⟨g2,u.size,u.ds,fun i=>(u.rep i).mono g1⟩,g3,H⟩
 obtain⟨dst,op,ty,pos,after,guard⟩:=o;have q:∀(f:Operand) (args:Array Operand) (j:Array TypeId),op= .call ⟨.value f,args,j⟩→
  ag P (ev s f) (args.toList.map (ev s)) σ (fun v g=>K (s.put dst v) g) (fun v g=>Q (.panic v) s g)→Oper.wp P ⟨dst,op,ty,pos,after,guard⟩ a w next (LQ P n ds Q G0):=by
  intro f args j ac h;subst ac;have hf:=E f;have fin:∀(l:FuncId) (as:List AV) (vals:Array Value) (R M:AV→AS→Prop),ad P l as σ R M→yB P G as vals→(∀r g,R r g→K (s.put dst r) g)→(∀r g,M r g→Q (.panic r) s g)→
   (execOp a.eval ⟨dst,.call ⟨.value f,args,j⟩,ty,pos,after,guard⟩).run P w= .ok (.enter l vals) w→Oper.wp P ⟨dst,.call ⟨.value f,args,j⟩,ty,pos,after,guard⟩ a w next (LQ P n ds Q G0):=by
   intro l as vals R M L hr h1 X V;unfold Oper.wp;rw[V,Oper.upon_enter];refine(L.run G w vals u.inv hr).mono fun e w' he=> ?_;unfold kE at he;split at he
   ·obtain⟨G',g,r,g1,g2,g3,H⟩:=he;exact hn G' _ _ _ _ (hle.trans g1) (u.put g1 g2 dst J g3) (h1 _ _ H)
   ·obtain⟨x,y,G',g,r,g1,g2,g3,H⟩:=he;exact⟨x,y,G',s,g,r,hle.trans g1,⟨g2,u.size,u.ds,fun i=>(u.rep i).mono g1⟩,g3,X _ _ H⟩
   ·exact he.elim
  have F:yB P G (args.toList.map (ev s)) (args.map a.eval):=⟨by simp,fun i Y=>by simp at Y;simp[getD_eq_getElem?_getD,Y];exact E _⟩;rcases Dm h with⟨l,I,R,M,L,h1,X⟩|⟨l,first,cap,I,R,M,L,h1,X⟩
  ·rw[I]at hf;generalize hv:a.eval f=v at hf;cases hf;refine fin l _ _ R M L F h1 X ?_;show(do let d ←resolve a.eval ⟨.value f,args,j⟩ ty;invoke d.target d.args:Sem Next).run P w= _;simp only[resolve,hv,Deferred.ofValue,Sem.run_bind,Sem.run_pure,Result.andThen_ok,invoke];have:=pP (w:=w) L.body (args.map a.eval);simpa using this
  ·rw[I]at hf;generalize hv:a.eval f=v at hf;cases hf with
   |fn O T lf lc al am=>
    refine fin l _ (O.toArray++args.map a.eval++T.toArray) R M L ?_ h1 X ?_
    ·refine⟨by simp[lf,lc],fun i Y=> ?_⟩;simp only[length_append,length_map,Array.length_toList]at Y;have e1:(O.toArray++args.map a.eval++T.toArray).getD i undef=(O++(args.toList.map a.eval)++T).getD i undef:=by
      have:O.toArray++args.map a.eval++T.toArray=(O++(args.toList.map a.eval)++T).toArray:=by apply Array.ext';simp
      rw[this];simp[getD_eq_getElem?_getD]
     rw[e1];by_cases h3:i<first.length
     ·rw[aM _ _ _ (by simp;omega),aM _ _ _ h3,aM _ _ _ (by simp;omega),aM _ _ _ (by omega)];exact al i h3
     ·by_cases h4:i<first.length+args.size
      ·rw[aM _ _ _ (by simp;omega),aU _ _ _ (by omega),aM _ _ _ (by simp;omega),aU _ _ _ (by omega),lf];have:=F.2 (i-first.length) (by simp;omega);have e2:(args.map a.eval).getD (i-first.length) undef=(args.toList.map a.eval).getD (i-first.length) undef:=by
        have:args.map a.eval=(args.toList.map a.eval).toArray:=by apply Array.ext';simp
        rw[this];simp[getD_eq_getElem?_getD]
       rw[e2]at this;exact this
      ·rw[aU _ _ _ (by simp;omega),aU _ _ _ (by simp;omega)];have e3:i-(first++List.map (ev s) args.toList).length=i-first.length-args.size:=by have e0:args.toList.length=args.size:=Array.length_toList;rw[length_append,length_map,e0];omega
       have e4:i-(O++List.map a.eval args.toList).length=i-first.length-args.size:=by have e0:args.toList.length=args.size:=Array.length_toList;rw[length_append,length_map,e0];omega
       rw[e3,e4];exact am _ (by omega)
    ·show(do let d ←resolve a.eval ⟨.value f,args,j⟩ ty;invoke d.target d.args:Sem Next).run P w= _;simp only[resolve,hv,Deferred.ofValue,Sem.run_bind,Sem.run_pure,Result.andThen_ok,invoke];exact pP (w:=w) L.body _
 simp only at h plain;unfold b8 at h;cases op
 case call c=>
  obtain⟨callee,args,j⟩:=c;cases callee
  case value f=>exact q f args j rfl h
  all_goals exact plain h
 all_goals exact plain h
def oG {n:Nat}{ds:List Deferred}{G0:Gh}{ops:Array Oper}(o:Oper) {s:Fr}{K:Fr→AS→Prop}{Q:AQ}(h:eL P n ops o s σ K Q) (hle:G0.Le G) {a:Act}(E:oS P G n ds s σ a w)
 {next:Act→World→Prop} (I:∀G' M L T w',G0.Le G'→oS P G' n ds M L T w'→K M L→next T w'):
 if Region.wanted o (yielded ops a.tmps)then o.wp P a w next (LQ P n ds Q G0)else next (a.put o.dst undef) w:=by
 unfold eL at h;split at h
 ·rename_i F;rw[if_pos (by simp[Region.wanted,F])];exact yI o h hle E I
 ·rename_i j want F;have read:∀v,jk ops s j= .sc v→yielded ops a.tmps j=(match v with|.bool b=>some b| _ =>none):=by
   intro v i;unfold jk at i;split at i
   ·rename_i d hd;have H:=E.rep d;rw[i]at H;generalize l:a.tmps.getD d undef=u at H;cases H;simp only[yielded,hd,Option.bind_some];rw[Array.getD_eq_getD_getElem?]at l;cases O:a.tmps[d]? with
    |none=>rw[O]at l;simp only[Option.getD_none]at l;subst l;rfl
    |some y=>rw[O]at l;simp only[Option.getD_some]at l;subst l;cases y<;>rfl
   ·cases i
  rcases h with⟨g,h⟩|⟨g,h⟩
  ·unfold yw at g;split at g
   ·rename_i b _ i;have q:=read _ i;rw[if_pos (by simp only[Region.wanted,F,q];simpa using g)];exact yI o h hle E I
   ·cases g
  ·have J:∀t,o.dst=some t→t<n:=by intro t ht;have:=h.1;rw[ht]at this;exact this
   have fin:¬(Region.wanted o (yielded ops a.tmps)=true):=by
    unfold Qm at g;split at g
    ·rename_i b _ i;have q:=read _ i;simp only[Region.wanted,F,q];simpa using g
    ·rename_i vs _ i;have q:=read _ i;simp only[Region.wanted,F,q];simp
    ·cases g
   rw[if_neg fin];exact I G _ _ _ _ hle (E.put (.refl G) E.inv o.dst J (.sc _)) h.2
def Ia {n:Nat}{ds:List Deferred}{G0:Gh}{ops:Array Oper}{Q:AQ} :∀(l:List Oper) (G:Gh) (s:Fr) (σ:AS) (a:Act) (w:World),jZ P n ops Q l s σ→G0.Le G→oS P G n ds s σ a w→
 wpList P ops (LQ P n ds Q G0) l a w:=by
 intro l;induction l with
 |nil=>intro G s σ a w h hle d;exact⟨G,s,σ,hle,d,h⟩
 |cons o rest j=>
  intro G s σ a w h hle d;have:=oG o h hle d (next:=wpList P ops (LQ P n ds Q G0) rest) (fun G' i g v w' h1 u q=>j G' i g v w' q h1 u);unfold wpList;by_cases hw:Region.wanted o (yielded ops a.tmps)=true
  ·rw[if_pos hw]at this⊢;exact .inl this
  ·rw[if_neg hw]at this⊢;exact this
section rules
variable {n:Nat} {ds:List Deferred} {Q:AQ} {s:Fr}
def dF (K:Fr→AS→Prop) (Q:AQ):AQ
 |.normal,s,σ=>K s σ
 |e,s,σ=>Q e s σ
def kz (id:Nat) (Q:AQ):AQ
 |.exit d,s,σ=>if d=id then Q .normal s σ else Q (.exit d) s σ
 |e,s,σ=>Q e s σ
def LQ.mono {Q l:AQ}{G0:Gh}(h:∀e s σ,Q e s σ→l e s σ) {e:Exit}{a:Act}{w:World}(d:LQ P n ds Q G0 e a w):LQ P n ds l G0 e a w:=by
 unfold LQ at d⊢;split at d
 ·obtain⟨G,s,σ,j,i,g⟩:=d;exact⟨G,s,σ,j,i,h _ _ _ g⟩
 ·obtain⟨G,s,σ,j,i,g⟩:=d;exact⟨G,s,σ,j,i,h _ _ _ g⟩
 ·obtain⟨G,s,σ,j,i,g⟩:=d;exact⟨G,s,σ,j,i,h _ _ _ g⟩
 ·obtain⟨x,y,G,s,σ,v,j,i,g,o⟩:=d;exact⟨x,y,G,s,σ,v,j,i,g,h _ _ _ o⟩
 ·exact d.elim
def aq.mono {c:Code}{d:AQ}(g:aq P n ds c Q s σ) (h:∀e s σ,Q e s σ→d e s σ):aq P n ds c d s σ:=
 fun G0 G a w h1 i=>wp_mono (g G0 G a w h1 i) fun _ _ _ =>LQ.mono h
def aq.seq {x y:Code}(h:aq P n ds x (dF (aq P n ds y Q) Q) s σ):aq P n ds (.seq x y) Q s σ:=by
 intro G0 G a w h1 q;refine wp_seq (wp_mono (h G0 G a w h1 q) fun e E w' d=> ?_);unfold LQ at d;split at d
 ·obtain⟨G',o,l,j,i,g⟩:=d;exact g G0 G' _ _ j i
 ·obtain⟨G',o,l,j,i,g⟩:=d;exact⟨G',o,l,j,i,g⟩
 ·obtain⟨G',o,l,j,i,g⟩:=d;exact⟨G',o,l,j,i,g⟩
 ·obtain⟨x,y,G',o,l,v,j,i,g,u⟩:=d;exact⟨x,y,G',o,l,v,j,i,g,u⟩
 ·exact d.elim
def aq.skip (h:Q .normal s σ):aq P n ds .skip Q s σ:=fun G0 G a w h1 d=>wp_skip ⟨G,s,σ,h1,d,h⟩
def aq.exit {id:Nat}(h:Q (.exit id) s σ):aq P n ds (.exit id) Q s σ:=fun G0 G a w h1 d=>wp_exit ⟨G,s,σ,h1,d,h⟩
def aq.ret (h:Q .ret s σ):aq P n ds .ret Q s σ:=fun G0 G a w h1 d=>wp_ret ⟨G,s,σ,h1,d,h⟩
def aq.cond {c:Operand}{x y:Code}{t:Bool}(h:ev s c= .sc (.bool t)) (ht:t=true→aq P n ds x Q s σ) (hf:t=false→aq P n ds y Q s σ):aq P n ds (.cond c x y) Q s σ:=by
 intro G0 G a w h1 g;have d:=g.ev c;rw[h]at d;have he:a.eval c= .bool t:=by generalize a.eval c=v at d;cases d;rfl
 exact wp_cond_split he (fun e=>ht e G0 G a w h1 g) (fun e=>hf e G0 G a w h1 g)
def aq.block {id:Nat}{c:Code}(h:aq P n ds c (kz id Q) s σ):aq P n ds (.block id c) Q s σ:=by
 intro G0 G a w h1 E;refine wp_block (wp_mono (h G0 G a w h1 E) fun e H w' o=> ?_);unfold LQ at o;split at o
 ·obtain⟨G',i,g,l,j,d⟩:=o;exact⟨G',i,g,l,j,d⟩
 ·rename_i u;obtain⟨G',i,g,l,j,d⟩:=o;simp only[Exit.inBlock,kz]at d⊢;split
  ·rename_i q;rw[if_pos q]at d;exact⟨G',i,g,l,j,d⟩
  ·rename_i q;rw[if_neg q]at d;exact⟨G',i,g,l,j,d⟩
 ·obtain⟨G',i,g,l,j,d⟩:=o;exact⟨G',i,g,l,j,d⟩
 ·obtain⟨x,y,G',i,g,v,l,j,d,F⟩:=o;exact⟨x,y,G',i,g,v,l,j,d,F⟩
 ·exact o.elim
def aq.region {id:Nat}{l:List Oper}(h:jZ P n l.toArray Q l s σ):aq P n ds (.region id l.toArray false) Q s σ:=
 fun G0 G a w h1 d=>wp_region_lit (Ia l G s σ a w h h1 d)
def AV.Wk (P:Program) (v d:AV):Prop:= ∀G x,aV P G v x→aV P G d x
def aN (P:Program) (s d:Fr):Prop:= ∀i,AV.Wk P (s i) (d i)
def oS.weaken {g:Fr}{d:AS}{a:Act}(h:oS P G n ds s σ a w) (h1:aN P s g) (j:AS.le d σ):oS P G n ds g d a w:=
 ⟨h.inv.weaken j,h.size,h.ds,fun i=>h1 i _ _ (h.rep i)⟩
def aq.weaken {c:Code}{g:Fr}{d:AS}(h:aq P n ds c Q g d) (h1:aN P s g) (i:AS.le d σ):aq P n ds c Q s σ:=
 fun G0 G a w g1 g2=>h G0 G a w g1 (g2.weaken h1 i)
def aq.loop {c:Code}(I:Nat→Fr→AS→Prop) {k0:Nat}{H:Fr}{F:AS}(h0:I k0 H F) (hs:aN P s H) (hσ:AS.le F σ)
 (hr:∀k s σ,I k s σ→aq P n ds c (dF (fun g d=> ∃k' s1 E,k'<k∧aN P g s1∧AS.le E d∧I k' s1 E) Q) s σ):aq P n ds (.loop c) Q s σ:=by
 intro G0 G a w h1 h2
 let J:Nat→Act→World→Prop:=fun k a w=> ∃G s σ,G0.Le G∧oS P G n ds s σ a w∧I k s σ
 have ao:∀(a:Act) (w:World),(∃k,J k a w)→ ∃k,J k a w∧ ∀j,J j a w→k≤j:=by
  intro a w h;obtain⟨k,hk⟩:=h;induction k using Nat.strongRecOn with
  | _ k ih=>
   by_cases hex:∃j,j<k∧J j a w
   ·obtain⟨j,M,O⟩:=hex;exact ih j M O
   ·exact⟨k,hk,fun j M=>Nat.le_of_not_lt fun L=>hex ⟨j,L,M⟩⟩
 let μ:Act→World→Nat:=fun a w=> @dite _ (∃k,J k a w) (Classical.propDecidable _) (fun h=>Classical.choose (ao a w h)) (fun _ =>0)
 have V:∀a w (h:∃k,J k a w),J (μ a w) a w∧ ∀j,J j a w→μ a w≤j:=by intro a w h;have e:μ a w=Classical.choose (ao a w h):=dif_pos h;rw[e];exact Classical.choose_spec (ao a w h)
 refine wp_loop (fun a w=> ∃k,J k a w) μ ⟨k0,G,H,F,h1,h2.weaken hs hσ,h0⟩ fun a w O=> ?_;obtain⟨⟨G1,s1,E,g1,g2,g3⟩,X⟩:=V a w O;refine wp_mono (hr _ _ _ g3 G0 G1 a w g1 g2) fun e Y w' i=> ?_;unfold LQ at i;split at i
 ·obtain⟨G',g,d,u,q,k',s2,σ2,o,T,a5,a6⟩:=i;have l:J k' Y w':=⟨G',s2,σ2,u,q.weaken T a5,a6⟩;exact⟨⟨k',l⟩,Nat.lt_of_le_of_lt ((V Y w' ⟨k',l⟩).2 k' l) o⟩
 ·obtain⟨G',g,d,u,q,o⟩:=i;exact⟨G',g,d,u,q,o⟩
 ·obtain⟨G',g,d,u,q,o⟩:=i;exact⟨G',g,d,u,q,o⟩
 ·obtain⟨x,y,G',g,d,v,u,q,o,T⟩:=i;exact⟨x,y,G',g,d,v,u,q,o,T⟩
 ·exact i.elim
end rules
def ss (args:List AV):Fr:=fun i=>args.getD i .any
def dV (rs:List ResultVar) (P:Program) (s:Fr) (σ:AS) (K:List AV→Prop):Prop:=
 match rs with
 |[]=>K []
 |.tmp t::r=>dV r P s σ fun vs=>K (s t::vs)
 |.cell a t::r=>eX P σ t (s a) fun v=>dV r P s σ fun vs=>K (v::vs)
def eE:List AV→AV
 |[v]=>v
 |vs=> .bI vs
def uR (P:Program) (rs:List ResultVar) (R h:AV→AS→Prop):AQ
 |.normal,s,σ=>dV rs P s σ fun vs=> ∃g d,AV.Wk P (eE vs) g∧AS.le d σ∧R g d
 |.ret,s,σ=>dV rs P s σ fun vs=> ∃g d,AV.Wk P (eE vs) g∧AS.le d σ∧R g d
 |.panic v,s,σ=> ∃d,AS.le d σ∧h v d
 | _,_,_ =>False
def Ii {t:TypeId}{x:AV}{v:Value}{K:AV→Prop}(i:Inv P G σ w) (g:aV P G x v) (h:eX P σ t x K):
 ∃y d,(do let a ←asAddr v;loadVar t a:Sem Value).run P w= .ok y w∧aV P G d y∧K d:=by
 obtain⟨a,y,d,rfl,h1,l,j⟩:=zx i g h;exact⟨y,d,by simpa[asAddr]using h1,l,j⟩
def wz (tmps:Array Value):ResultVar→Sem Value
 |.tmp t=>pure (tmps.getD t undef)
 |.cell p t=>do loadVar t (←asAddr (tmps.getD p undef))
def DZ (fn:Func) (tmps:Array Value):results fn tmps=(do
 let vs ←fn.results.mapM (wz tmps)
 pure (if h:vs.size=1 then vs[0]else Value.tuple vs)):=by
 unfold results;congr 1
def DY {n:Nat}{ds:List Deferred}{s:Fr}{a:Act}(g:oS P G n ds s σ a w):∀(rs:List ResultVar) (K:List AV→Prop),dV rs P s σ K→
 ∃d vs,(rs.mapM (wz a.tmps)).run P w= .ok d w∧d.length=vs.length∧(∀i,i<vs.length→aV P G (vs.getD i .any) (d.getD i undef))∧K vs:=by
 intro rs;induction rs with
 |nil=>intro K h;exact⟨[],[],by simp,rfl,by simp,h⟩
 |cons r rs u=>
  intro K h;cases r with
  |tmp t=>
   obtain⟨d,vs,h1,q,o,l⟩:=u _ h;refine⟨a.tmps.getD t undef::d,s t::vs,?_,by simp[q],fun i j=> ?_,l⟩
   ·simp only[mapM_cons,Sem.run_bind,wz,Sem.run_pure,Result.andThen_ok,h1]
   ·cases i with
    |zero=>simpa using g.rep t
    |succ i=>simpa using o i (by simpa using j)
  |cell p t=>
   obtain⟨y,F,k1,E,v⟩:=Ii g.inv (g.rep p) h;obtain⟨d,vs,h1,q,o,l⟩:=u _ v;refine⟨y::d,F::vs,?_,by simp[q],fun i j=> ?_,l⟩
   ·simp only[mapM_cons,Sem.run_bind,wz]at k1⊢;rw[k1];simp only[Sem.run_pure,Result.andThen_ok,h1]
   ·cases i with
    |zero=>simpa using E
    |succ i=>simpa using o i (by simpa using j)
def oo {n:Nat}{ds:List Deferred}{s:Fr}{a:Act}(o:oS P G n ds s σ a w) (fn:Func) (K:List AV→Prop) (h:dV fn.results.toList P s σ K):
 ∃v vs,(results fn a.tmps).run P w= .ok v w∧aV P G (eE vs) v∧K vs:=by
 obtain⟨d,vs,h1,i,l,q⟩:=DY o fn.results.toList K h;refine⟨if h:d.toArray.size=1 then d.toArray[0]else .tuple d.toArray,vs,?_,?_,q⟩
 ·have j:(fn.results.mapM (wz a.tmps)).run P w= .ok d.toArray w:=by rw[Array.mapM_eq_mapM_toList];simp only[Sem.run_map,h1];rfl
  rw[DZ,Sem.run_bind,j];rfl
 ·unfold eE;split
  ·rename_i v;have hl:d.length=1:=by simpa using i
   have:=l 0 (by simp);rw[dif_pos (by simpa using hl)];have e:d.toArray[0]'(by simp[hl])=d.getD 0 undef:=by simp[getD_eq_getElem?_getD,hl]
   rw[e];simpa using this
  ·rename_i g;have hl:d.length≠1:=by
    intro e;rw[i]at e
    match vs,e with
    |[v],_ =>exact g v rfl
   rw[dif_neg (by simpa using hl)];exact .bI d i l
def ad.vt {f:FuncId}{fn:Func}{c:Code}{args:List AV}{R M:AV→AS→Prop}(hf:P.funcs[f]? =some fn) (O:fn.body=some c) (Y:(fn.name== "runtime.NumGoroutine")=false)
 (ha:args.length≤fn.ntmps) (h:aq P fn.ntmps [] c (uR P fn.results.toList R M) (ss args) σ):ad P f args σ R M:=by
 refine⟨by simp[lk,hf,O,Y],fun G w vals hi I=>calls_of_wp hf O ?_⟩;have F:oS P G fn.ntmps [] (ss args) σ { tmps:=vals++Array.replicate (fn.ntmps-vals.size) undef,defers:= [] } w:=by
  refine⟨hi,by simp[I.1];omega,rfl,fun i=> ?_⟩;by_cases o:i<args.length
  ·have e1:(vals++Array.replicate (fn.ntmps-vals.size) undef).getD i undef=vals.getD i undef:=by rw[Array.getD_eq_getD_getElem?,Array.getElem?_append_left (by rw[I.1];exact o),←Array.getD_eq_getD_getElem?]
   simp only[e1];exact I.2 i o
  ·have:ss args i= .any:=by simp[ss,getD_eq_getElem?_getD,getElem?_eq_none (Nat.le_of_not_lt o)]
   rw[this];exact .any _
 refine wp_mono (h G G _ w (.refl G) F) fun e L w' l=> ?_;have fin:∀(j:Fr) (g:AS) (G':Gh),G.Le G'→oS P G' fn.ntmps [] j g L w'→(dV fn.results.toList P j g fun vs=> ∃H d,AV.Wk P (eE vs) H∧AS.le d g∧R H d)→
  L.defers= []∧ ∃v,(results fn L.tmps).run P w'= .ok v w'∧kE P G R M (.returned v) w':=by
  intro j g G' h1 J h3;obtain⟨v,vs,k1,X,H,d,V,k4,T⟩:=oo J fn _ h3;exact⟨J.ds,v,k1,G',d,H,h1,J.inv.weaken k4,V _ _ X,T⟩
 unfold LQ at l;split at l
 ·obtain⟨G',j,g,E,u,q⟩:=l;exact fin j g G' E u q
 ·obtain⟨G',j,g,E,u,q⟩:=l;exact q.elim
 ·obtain⟨G',j,g,E,u,q⟩:=l;exact fin j g G' E u q
 ·obtain⟨x,y,G',j,g,v,E,u,q,d,a4,a5⟩:=l;exact⟨u.ds,x,y,G',d,v,E,u.inv.weaken a4,q,a5⟩
 ·exact l.elim
end Go.AW
namespace Go.AW
variable {P:Program} {G:Gh} {σ:AS} {w:World}
def Gj (P:Program) (ops:Array Oper) (n:Nat) (o:Oper) (s:Fr) (σ:AS) (g h:AV→AS→Prop):Prop:=
 (match o.dst with|none=>True|some d=>d<n)∧
 match o.guard with
 |none=>b8 P o.op s σ g h
 |some (j,want)=>iB (jk ops s j) want (b8 P o.op s σ g h) (g kT σ)
def lS (n:Nat) (ops:Array Oper) (o:Oper) (s:Fr) (K:Fr→AS→Prop) (Q:AQ):
 eL P n ops o s σ K Q↔Gj P ops n o s σ (fun v d=>K (s.put o.dst v) d) (fun v d=>Q (.panic v) s d):=by
 unfold eL Gj;cases i:o.guard with
 |none=>exact Iff.rfl
 |some p=>
  obtain⟨j,want⟩:=p;simp only;constructor
  ·rintro(⟨g,h⟩|⟨g,h⟩)
   ·exact⟨h.1,.inl ⟨g,h.2⟩⟩
   ·exact⟨h.1,.inr ⟨g,h.2⟩⟩
  ·intro h;exact uA h.2 (fun x=>⟨h.1,x⟩) (fun x=>⟨h.1,x⟩)
def zv {s d:Fr}{K Pn:AV→AS→Prop}(op:Op) (h:∀x∈op.operands,ev s x=ev d x):Bt P s σ K Pn op=Bt P d σ K Pn op:=by
 have mp:∀(parts:Array (Nat×Operand)),(∀x∈((parts.toList.map (·.2)).toArray:Array Operand),ev s x=ev d x)→
  (parts.toList.map fun p=>(p.1,ev s p.2))=(parts.toList.map fun p=>(p.1,ev d p.2)):=by
  intro parts q;refine map_congr_left fun p hm=> ?_;rw[q p.2 (by simp;exact⟨p.1,by simpa using hm⟩)]
 have v:∀(xs:Array Operand),(∀x∈xs,ev s x=ev d x)→xs.toList.map (ev s)=xs.toList.map (ev d):=by intro xs q;exact map_congr_left fun x hm=>q x (by simpa using hm)
 have mo:∀(o:Option Operand),(∀x∈o.toArray,ev s x=ev d x)→o.map (ev s)=o.map (ev d):=by
  intro o q;cases o with
  |none=>rfl
  |some x=>simp;exact q x (by simp)
 cases op<;>simp only[Bt]
 case move x=>rw[h x (by simp[Op.operands])]
 case assign x=>rw[h x (by simp[Op.operands])]
 case pick c a b=>rw[h c (by simp[Op.operands]),h a (by simp[Op.operands]),h b (by simp[Op.operands])]
 case box e x=>rw[h x (by simp[Op.operands])]
 case build t parts=>rw[mp parts (by simpa[Op.operands]using h)]
 case buildSlice t n parts=>rw[mp parts (by simpa[Op.operands]using h)]
 case load t a=>rw[h a (by simp[Op.operands])]
 case store t a x=>rw[h a (by simp[Op.operands]),h x (by simp[Op.operands])]
 case nilCheck x=>rw[h x (by simp[Op.operands])]
 case binOp op t x y F=>rw[h x (by simp[Op.operands]),h y (by simp[Op.operands])]
 case unOp op t x=>rw[h x (by simp[Op.operands])]
 case convert a b x=>rw[h x (by simp[Op.operands])]
 case makeInterface t x=>rw[h x (by simp[Op.operands])]
 case makeFunc f first cap=>rw[v first (fun x j=>h x (by simp[Op.operands,j])),v cap (fun x j=>h x (by simp[Op.operands,j]))]
 case slice t x lo E mx=>
  rw[h x (by simp[Op.operands]),mo lo (fun y g=>h y (by simp[Op.operands];simp at g;simp[g])),mo E (fun y g=>h y (by simp[Op.operands];simp at g;simp[g])),
   mo mx (fun y g=>h y (by simp[Op.operands];simp at g;simp[g]))]
 case range t x=>rw[h x (by simp[Op.operands])]
 case next it str=>rw[h it (by simp[Op.operands])]
 case entry it=>rw[h it (by simp[Op.operands])]
 case makeSlice t l c=>rw[h l (by simp[Op.operands]),h c (by simp[Op.operands])]
 case fieldAddr t x f=>rw[h x (by simp[Op.operands])]
 case field t x f=>rw[h x (by simp[Op.operands])]
 case indexAddr t x i=>rw[h x (by simp[Op.operands]),h i (by simp[Op.operands])]
 case index t x i=>rw[h x (by simp[Op.operands]),h i (by simp[Op.operands])]
 case extract x i=>rw[h x (by simp[Op.operands])]
 case panic x=>rw[h x (by simp[Op.operands])]
 case call c=>
  obtain⟨callee,args,u⟩:=c;cases callee
  case builtin b=>show bE P σ b u.toList (args.toList.map (ev s)) K=bE P σ b u.toList (args.toList.map (ev d)) K;rw[v args (fun x j=>h x (by simp[Op.operands,Call.operands,j]))]
  all_goals rfl
def zb {ops:Array Oper}{n:Nat}{o:Oper}{s l:Fr}{q u:AV→AS→Prop}(h:∀t∈o.looksAt ops,s t=l t):Gj P ops n o s σ q u=Gj P ops n o l σ q u:=by
 have g:∀x∈o.op.operands,ev s x=ev l x:=by
  intro x E;cases x with
  |tmp t=>refine h t ?_;unfold Oper.looksAt;refine mem_append.2 (.inl ?_);rw[mem_filterMap];exact⟨.tmp t,by simpa using E,rfl⟩
  | _ =>rfl
 have y:∀j want,o.guard=some (j,want)→jk ops s j=jk ops l j:=by
  intro j want y;unfold jk;cases hd:(ops[j]?).bind (·.dst)with
  |none=>rfl
  |some d=>simp only;refine h d ?_;unfold Oper.looksAt;refine mem_append.2 (.inr ?_);rw[y];simp[hd]
 have i:b8 P o.op s σ q u=b8 P o.op l σ q u:=by
  obtain⟨dst,op,ty,pos,after,guard⟩:=o;simp only at g⊢;unfold b8;cases op
  case call c=>
   obtain⟨callee,args,F⟩:=c;cases callee
   case value f=>simp only;rw[g f (by simp[Op.operands,Call.operands])];congr 1;exact map_congr_left fun x hm=>g x (by simp[Op.operands,Call.operands];right;simpa using hm)
   all_goals exact zv _ g
  all_goals exact zv _ g
 unfold Gj;rw[i];cases v:o.guard with
 |none=>rfl
 |some p=>obtain⟨j,want⟩:=p;simp only[y j want v]
end Go.AW
