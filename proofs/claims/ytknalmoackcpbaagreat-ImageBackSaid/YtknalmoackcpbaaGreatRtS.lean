/- Own. -/
import Derived.Test.YtknalmoackcpbaaGreatBodyE
set_option maxRecDepth 100000
set_option maxHeartbeats 3200000
set_option linter.all false
namespace Go.Proofs.YtknalmoackcpbaaGreat
namespace Im
open Go Go.AW Tryz
open Rg (Cl ed cG gw ly)
open Cd (oO eW)
open Bd (dd)
structure TJ (m:Mt) (nt nf nm:Int):Prop where
 name:da m.name=true
 fl:0≤m.flags∧m.flags≤31
 mx:0≤m.max∧m.max≤12
 ps:m.ps.length≤6
 ls:m.ls.length≤12
 code:m.code.length≤160
 ret:HC m.ret nt=true
 pA:∀t∈m.ps,ri t nt=true
 lA:∀t∈m.ls,ri t nt=true
 ins:∀x∈m.code,dZ x nt nf nm m.code.length=true
 cls:∀c∈m.cls,FN c nt=true
 RW:(ed (cG m.code.length) gw m.cls).2=0
theorem Fp {m:Mt}{nt nf nm:Int} :PX m nt nf nm=true↔TJ m nt nf nm:=by
 unfold PX;simp only[Bool.and_eq_true,decide_eq_true_eq,List.all_eq_true];constructor
 ·rintro⟨h1,⟨A,y,w,v,u,q,o⟩,n,l,j,i,h,g⟩;exact⟨h1,⟨A,y⟩,⟨w,v⟩,u,q,o,n,l,j,i,h,g⟩
 ·rintro⟨h1,⟨A,y⟩,⟨w,v⟩,u,q,o,n,l,j,i,h,g⟩;exact⟨h1,⟨A,y,w,v,u,q,o⟩,n,l,j,i,h,g⟩
theorem Fo {nt nf nm:Int} :∀ {l:List Mt}{last:Int},wO nt nf nm last l=true↔(∀m∈l,last≤m.owner∧m.owner<nt∧TJ m nt nf nm)∧(l.map (·.owner)).Pairwise (· ≤ ·)
 |[],last=>by simp[wO]
 |m::r,last=>by
  have j:=Fo (nt:=nt) (nf:=nf) (nm:=nm) (l:=r) (last:=m.owner);simp only[wO];constructor
  ·intro h;split at h
   ·rename_i h0;obtain⟨h1,i⟩:=j.1 h;refine⟨fun x g=> ?_,?_⟩
    ·rcases List.mem_cons.1 g with rfl|g
     ·exact⟨h0.1,h0.2.1,Fp.1 h0.2.2⟩
     ·have:=h1 x g;exact⟨by omega,this.2⟩
    ·rw[List.map_cons,List.pairwise_cons];refine⟨fun y n=> ?_,i⟩;obtain⟨x,g,rfl⟩:=List.mem_map.1 n;exact(h1 x g).1
   ·cases h
  ·rintro⟨h1,i⟩;rw[List.map_cons,List.pairwise_cons]at i;have h0:=h1 m (List.mem_cons_self ..);rw[if_pos ⟨h0.1,h0.2.1,Fp.2 h0.2.2⟩];exact j.2 ⟨fun x g=>⟨i.1 _ (List.mem_map.2 ⟨x,g,rfl⟩),(h1 x (List.mem_cons_of_mem _ g)).2⟩,i.2⟩
theorem FD {nt:Int} :∀ {l:List Fd}{last:Int},rP nt last l=true↔(∀m∈l,last≤m.owner∧m.owner<nt∧da m.name=true∧ud m.ty nt=true)∧(l.map (·.owner)).Pairwise (· ≤ ·)
 |[],last=>by simp[rP]
 |m::r,last=>by
  have j:=FD (nt:=nt) (l:=r) (last:=m.owner);simp only[rP];constructor
  ·intro h;split at h
   ·rename_i h0;obtain⟨h1,i⟩:=j.1 h;refine⟨fun x g=> ?_,?_⟩
    ·rcases List.mem_cons.1 g with rfl|g
     ·exact⟨h0.2.1,h0.2.2.1,h0.1,h0.2.2.2⟩
     ·have:=h1 x g;exact⟨by omega,this.2⟩
    ·rw[List.map_cons,List.pairwise_cons];refine⟨fun y n=> ?_,i⟩;obtain⟨x,g,rfl⟩:=List.mem_map.1 n;exact(h1 x g).1
   ·cases h
  ·rintro⟨h1,i⟩;rw[List.map_cons,List.pairwise_cons]at i;have h0:=h1 m (List.mem_cons_self ..);rw[if_pos ⟨h0.2.2.1,h0.1,h0.2.1,h0.2.2.2⟩];exact j.2 ⟨fun x g=>⟨i.1 _ (List.mem_map.2 ⟨x,g,rfl⟩),(h1 x (List.mem_cons_of_mem _ g)).2⟩,i.2⟩
structure V2 (t:TD) (n:Int):Prop where
 name:da t.name=true
 fl:0≤t.flags∧t.flags≤31
 ext: -1≤t.ext∧t.ext<n
 VO:t.aZ.length≤4
 fc:∀x∈t.aZ,0≤x∧x<n
theorem La {t:TD}{n:Int} :NW t n=true↔V2 t n:=by
 unfold NW;simp only[Bool.and_eq_true,decide_eq_true_eq,Bool.not_eq_true',List.any_eq_false,yY];constructor
 ·rintro⟨h1,⟨o,l,j,i,q⟩,h⟩;exact⟨h1,⟨o,l⟩,⟨j,i⟩,by omega,fun x g=>by have:=h x g;omega⟩
 ·rintro⟨h1,⟨o,l⟩,⟨j,i⟩,q,h⟩;exact⟨h1,⟨o,l,j,i,by omega⟩,fun x g=>by have:=h x g;omega⟩
structure HJ (g:bZ):Prop where
 ts:g.ts.length≤32
 fs:g.fs.length≤64
 ms:g.ms.length≤64
 t:∀t∈g.ts,V2 t g.ts.length
 f:∀f∈g.fs,0≤f.owner∧f.owner<g.ts.length∧da f.name=true∧ud f.ty g.ts.length=true
 fo:(g.fs.map (·.owner)).Pairwise (· ≤ ·)
 m:∀m∈g.ms,0≤m.owner∧m.owner<g.ts.length∧TJ m g.ts.length g.fs.length g.ms.length
 mo:(g.ms.map (·.owner)).Pairwise (· ≤ ·)
 en: -1≤g.entry∧g.entry<g.ms.length
theorem vE {g:bZ} :DY g=true↔HJ g:=by
 unfold DY H5;simp only[Bool.and_eq_true,decide_eq_true_eq,List.all_eq_true,FD,Fo,La];constructor
 ·rintro⟨⟨h1,o⟩,⟨⟨n,l⟩,u⟩,⟨⟨j,i⟩,q⟩,h⟩;exact⟨by omega,by omega,by omega,o,n,l,j,i,h⟩
 ·rintro⟨h1,u,q,o,n,l,j,i,h⟩;exact⟨⟨by omega,o⟩,⟨⟨n,l⟩,by omega⟩,⟨⟨j,i⟩,by omega⟩,h⟩
structure vm (a b:Sv):Prop where
 sp:a.sp<+:b.sp
 lo:a.lo<+:b.lo
 co:a.co<+:b.co
theorem vm.refl (a:Sv):vm a a:=⟨List.prefix_rfl,List.prefix_rfl,List.prefix_rfl⟩
theorem vm.trans {a b c:Sv}(h1:vm a b) (g:vm b c):vm a c:=⟨h1.sp.trans g.sp,h1.lo.trans g.lo,h1.co.trans g.co⟩
theorem I1 (co w:By):co<+:qZ co w:=by
 unfold qZ;split
 ·exact List.prefix_append _ _
 ·exact List.prefix_rfl
theorem Ig (sp:List Ty) (m:Mt):sp<+:zy sp m:=(pM m.code sp).trans (l0 _ m.cls _)
theorem N4 (s:Sv) (m:Mt):vm s (qB s m).1:=by
 unfold qB;refine⟨?_,?_,?_⟩
 ·simp only[v7];split
  ·exact List.prefix_rfl
  ·exact Ig _ _
 ·simp only[CX];split
  ·exact List.prefix_rfl
  ·exact z6 _ _
 ·simp only[v7];split
  ·exact List.prefix_rfl
  ·exact(I1 _ _).trans (List.prefix_append _ _)
theorem EJ:∀(l:List Mt) (s:Sv),vm s (dM s l).1
 |[],s=>vm.refl _
 |m::r,s=>(N4 s m).trans (EJ r _)
def tm (g:bZ) (i:Nat):Sv:=(dM od (g.ms.take i)).1
theorem Lg {g:bZ}{i:Nat}(h:i<g.ms.length):(dM od g.ms).2[i]? =some (qB (tm g i) g.ms[i]).2∧vm (qB (tm g i) g.ms[i]).1 (dJ g):=by
 have e:g.ms=g.ms.take i++g.ms[i]::g.ms.drop (i+1):=by
  conv=>lhs;rw[←List.take_append_drop i g.ms,List.drop_eq_getElem_cons h]
 have ha:=rZ (g.ms.take i) (g.ms[i]::g.ms.drop (i+1)) od;have hl:=dT (g.ms.take i) od;rw[List.length_take,Nat.min_eq_left (by omega)]at hl;unfold dJ;generalize hm:g.ms[i]=m at*;rw[show dM od g.ms=dM od (g.ms.take i++m::g.ms.drop (i+1)) by rw[←e],ha];simp only[dM];refine⟨?_,EJ _ _⟩;rw[List.getElem?_append_right (by omega),hl];simp[tm]
theorem wv {p:Ty→Prop} :∀(l:List db) (sp:List Ty),(∀t∈sp,p t)→(∀x∈l,oO x.op=8→p x.t)→ ∀t∈(di sp l).1,p t
 |[],sp,h,_ =>h
 |x::r,sp,h,g=>by
  have i:∀y∈r,oO y.op=8→p y.t:=fun y j=>g y (List.mem_cons_of_mem _ j);simp only[di];split
  ·rename_i n;refine wv r _ (fun t ht=> ?_) i;unfold nG at ht;split at ht
   ·exact h t ht
   ·rcases List.mem_append.1 ht with ht|ht
    ·exact h t ht
    ·rw[List.mem_singleton.1 ht];exact g x (List.mem_cons_self ..) n
  ·exact wv r sp h i
theorem wz {p:Ty→Prop}(P:List Int):∀(l:List Cl) (sp:List Ty),(∀t∈sp,p t)→(∀c∈l,c.k=1→p (vH c))→ ∀t∈(iO P sp l).1,p t
 |[],sp,h,_ =>h
 |x::r,sp,h,g=>by
  have i:∀y∈r,y.k=1→p (vH y):=fun y j=>g y (List.mem_cons_of_mem _ j);simp only[iO];split
  ·rename_i n;refine wz P r _ (fun t ht=> ?_) i;unfold nG at ht;split at ht
   ·exact h t ht
   ·rcases List.mem_append.1 ht with ht|ht
    ·exact h t ht
    ·rw[List.mem_singleton.1 ht];exact g x (List.mem_cons_self ..) n
  ·exact wz P r sp h i
theorem Bc {p:Ty→Prop}{q:List Ty→Prop} :∀(l:List Mt) (s:Sv),(∀t∈s.sp,p t)→(∀t∈s.lo,q t)→(∀m∈l,(∀x∈m.code,oO x.op=8→p x.t)∧(∀c∈m.cls,c.k=1→p (vH c))∧q m.ls)→
 (∀t∈(dM s l).1.sp,p t)∧ ∀t∈(dM s l).1.lo,q t
 |[],s,h1,g,_ =>⟨h1,g⟩
 |m::r,s,h1,g,h=>by
  have hm:=h m (List.mem_cons_self ..);refine Bc r (qB s m).1 ?_ ?_ fun y i=>h y (List.mem_cons_of_mem _ i)
  ·simp only[qB,v7];split
   ·exact h1
   ·exact wz _ _ _ (wv _ _ h1 hm.1) hm.2.1
  ·simp only[qB,CX];split
   ·exact g
   ·intro t ht;simp only[nG]at ht;split at ht
    ·exact g t ht
    ·rcases List.mem_append.1 ht with ht|ht
     ·exact g t ht
     ·rw[List.mem_singleton.1 ht];exact hm.2.2
theorem EK:∀(l:List Mt) (s:Sv),(∀m∈l,m.code.length≤160∧m.cls.length≤6)→(dM s l).1.sp.length≤s.sp.length+166*l.length∧(dM s l).1.lo.length≤s.lo.length+l.length
 |[],s,_ =>by simp[dM]
 |m::r,s,h=>by
  have hm:=h m (List.mem_cons_self ..);have i:=EK r (qB s m).1 fun y g=>h y (List.mem_cons_of_mem _ g);have h1:=(pN m.code s.sp).2;have q:=(sd (AT s.sp m) m.cls (di s.sp m.code).1).2;have o:=(sq s.lo m.ls).2;have n:(qB s m).1.sp.length≤s.sp.length+166:=by
   simp only[qB,v7];split
   ·simp only;omega
   ·simp only[zy];omega
  have j:(qB s m).1.lo.length≤s.lo.length+1:=by simp only[qB,CX];split<;>simp only<;>omega
  simp only[dM,List.length_cons];omega
theorem Ij (g:bZ):tm g 0=od:=by simp[tm,dM]
theorem vY {g:bZ}(h:HJ g) (i:Nat):(tm g i).sp.length≤10624∧(tm g i).lo.length≤64:=by
 have hm:∀m∈g.ms.take i,m.code.length≤160∧m.cls.length≤6:=fun m hm=>by have:=(h.m m (List.mem_of_mem_take hm)).2.2;exact⟨this.code,(nO this.RW).1⟩
 have:=EK (g.ms.take i) od hm;have h1:(g.ms.take i).length≤64:=by have:=h.ms;simp;omega
 simp only[od,List.length_nil]at this;unfold tm;simp only[od];omega
theorem EI (g:bZ):dJ g=tm g g.ms.length:=by simp[dJ,tm]
theorem zA {g:bZ}(h:HJ g) (i:Nat):(∀t∈(tm g i).sp,ud t g.ts.length=true)∧ ∀l∈(tm g i).lo,l.length≤12∧ ∀t∈l,ri t g.ts.length=true:=by
 refine Bc (p:=fun t=>ud t g.ts.length=true) (q:=fun l=>l.length≤12∧ ∀t∈l,ri t g.ts.length=true) (g.ms.take i) od (by simp[od]) (by simp[od]) fun m hm=> ?_;have j:=(h.m m (List.mem_of_mem_take hm)).2.2;refine⟨fun x n u=> ?_,fun c o h1=> ?_,j.ls,j.lA⟩
 ·have:=Fw (j.ins x n) u;unfold ud;rw[this.2.1,this.2.2];rfl
 ·have:=j.cls c o;unfold FN at this;rw[if_pos h1]at this;exact this
theorem Ii {s Z:Sv}{m:Mt}{nt nf nm:Int}(hle:vm (qB s m).1 Z) (v:Z.sp.length<16384) (l:TJ m nt nf nm) (w:∀x∈m.code,Cd.fY x) (i:Nat):
 tW Z.co Z.sp nm nf (qB s m).2.1 i= .ok (m.code,m.cls):=by
 by_cases j:m.code= []
 ·have o:m.cls= []:=by
   have h1:=(nO l.RW).2;rw[j]at h1;cases n:m.cls with
   |nil=>rfl
   |cons c r=>have:=(qR (h1 c (by rw[n];simp))).2.1;simp at this;omega
  simp only[qB,v7,if_pos j,tW];rw[if_neg (by omega),j,o]
 ·have h:=hle.co;have g:=hle.sp;simp only[qB,v7,if_neg j]at h g⊢;obtain⟨r,u⟩:=h;have y:At Z.co (qZ s.co (xR s.sp m)).length (xR s.sp m):=by rw[←u];exact At.bh _ _ _
  have A:((xR s.sp m).headD 0).toNat%4=3→(qZ s.co (xR s.sp m)).length%4=0:=fun e=>by unfold qZ;rw[if_pos e];simp only[List.length_append,List.length_replicate];omega
  have D:=GS (i:=i) g v j l.code (fun x q=>⟨l.ins x q,w x q⟩) l.cls l.RW y A;unfold tW;rw[if_pos (by omega),show((qZ s.co (xR s.sp m)).length:Int)+1-1=(qZ s.co (xR s.sp m)).length by omega];exact D
theorem Ih {s Z:Sv}{m:Mt}(hle:vm (qB s m).1 Z):BZ Z.lo (qB s m).2.2=m.ls∧0≤(qB s m).2.2∧(qB s m).2.2≤Z.lo.length:=by
 have g:=hle.lo;by_cases hl:m.ls= []
 ·simp only[qB,CX,if_pos hl,BZ];rw[if_neg (by omega),hl];exact⟨rfl,by omega,by omega⟩
 ·simp only[qB,CX,if_neg hl]at g⊢;have h1:=B4 g;have h:=(List.getElem?_eq_some_iff.1 h1).1;unfold BZ rF;rw[if_pos (by omega),show((z8 s.lo m.ls:Int)+1-1).toNat=z8 s.lo m.ls by omega,List.getD_eq_getElem?_getD,h1];exact⟨rfl,by omega,by omega⟩
open Rg (Cl ed cG gw)
open Sg (eN xL lL cN mC lp dW hU)
theorem zt {t:Ty}(h:bo t=true):(eN t).length≤9:=by
 obtain⟨h0,h1,l,j⟩:=Sg.kL h;have i:(lL t).length≤5:=by
  have g:∀n:Int,0≤n→n≤1000→(aY n).length≤4:=fun n a b=>(Pl.gH n a (by omega)).2;unfold lL;split
  ·simp
  split
  ·simp
  split
  ·simp
  split
  ·simp
  split
  ·have:=g (4*(t.index+1)) (by omega) (by omega);simp only[List.length_cons];omega
  split
  ·have:=g (4*(t.index+1)) (by omega) (by omega);simp only[List.length_cons];omega
  ·have:=g t.index (by omega) (by omega);simp only[List.length_cons];omega
 unfold eN;rw[List.length_append,List.length_append,List.length_replicate];split<;>simp only[List.length_cons,List.length_nil]<;>omega
theorem DL:∀(l:List Ty),(∀t∈l,bo t=true)→(xL l).length≤9*l.length
 |[],_ =>by simp[xL]
 |t::r,h=>by have h1:=zt (h t (List.mem_cons_self ..));have i:=DL r fun y g=>h y (List.mem_cons_of_mem _ g);simp only[xL,List.flatMap_cons,List.length_append,List.length_cons]at i⊢;omega
theorem LH (t:Ty):(cN (mC t)).length≤9:=by
 unfold mC;split
 ·exact zt (by assumption)
 ·simp[cN]
theorem LL (t:Ty):(cN (lp t)).length≤10:=by
 unfold lp;split
 ·rename_i h;have:bo t=true:=Sg.mL (by unfold dm at h;rw[Bool.and_eq_true]at h;exact h.1);have:=zt this;simp only[cN,List.length_cons];omega
 ·simp[cN]
theorem Gr (l:List Ty):(cN (dW l)).length≤200:=by
 unfold dW;split
 ·simp[cN]
 split
 ·rename_i h1 h;have:=DL l fun t ht=>Sg.mL (by rw[List.all_eq_true]at h;exact h t ht);simp only[cN,Sg.HO,List.length_cons];omega
 ·simp[cN]
theorem Gq (s:Sg.Sg):(cN (hU s)).length≤200:=by
 unfold hU;split
 ·simp[cN]
 split
 ·rename_i h1 h;rw[Bool.and_eq_true,List.all_eq_true]at h;have i:=DL s.ps fun t ht=>Sg.mL (h.1 t ht);have g:=zt (Sg.sP h.2);simp only[cN,Sg.ER,List.length_cons,List.length_append];omega
 ·simp[cN]
theorem Aw (g:bZ):∀b∈eJ g,b.length≤300:=by
 intro b h;simp only[eJ,Ee,HQ,HP,List.mem_append,List.mem_map]at h;rcases h with(((⟨x,_,rfl⟩|⟨x,_,rfl⟩)|⟨x,_,rfl⟩)|⟨x,_,rfl⟩)
 ·have:=LL x.ty;omega
 ·have:=Gq (CY x);omega
 ·have:=LH x;omega
 ·have:=Gr x;omega
theorem Be {g:bZ}{i:Nat}(h:i<g.ms.length):tm g (i+1)=(qB (tm g i) g.ms[i]).1:=yr h
theorem vX {g:bZ}(h:HJ g) (u:∀m∈g.ms,∀x∈m.code,Cd.fY x) {i:Nat}(j:i<g.ms.length) (o:g.ms[i].code≠ []):Sw (tm g i).sp g.ms[i]:=by have l:=(h.m _ (List.getElem_mem j)).2.2;have q:=(vY h (i+1)).1;rw[Be j]at q;simp only[qB,v7,if_neg o]at q;exact FQ (by omega) o l.code (fun x n=>⟨l.ins x n,u _ (List.getElem_mem j) x n⟩) l.RW
theorem Dd {g:bZ}(h:HJ g) (j:∀m∈g.ms,∀x∈m.code,Cd.fY x):∀i,i≤g.ms.length→(tm g i).co.length≤100003*i
 |0,_ =>by rw[Ij];simp[od]
 |i+1,u=>by
  have o:=Dd h j i (by omega);rw[Be (show i<g.ms.length by omega)];simp only[qB,v7];split
  ·simp only;omega
  ·rename_i l;have n:=vX h j (show i<g.ms.length by omega) l;have hw:(xR (tm g i).sp (g.ms[i]'(by omega))).length≤100000:=yn n.right;simp only[List.length_append];have q:(qZ (tm g i).co (xR (tm g i).sp (g.ms[i]'(by omega)))).length≤(tm g i).co.length+3:=by
    unfold qZ;split
    ·simp only[List.length_append,List.length_replicate];omega
    ·omega
   omega
theorem Aa {g:bZ}(h:HJ g) (n:∀m∈g.ms,∀x∈m.code,Cd.fY x) (y:∀m∈g.ms,(m.cn=true→m.code= [])∧(m.ln=true→m.ls= [])):rW g:=by
 have q:∀i,¬i<g.ms.length→tm g i=tm g g.ms.length:=fun i j=>by unfold tm;rw[List.take_of_length_le (by omega),List.take_of_length_le (by omega)]
 refine⟨h.ts,h.fs,h.ms,fun t ht=> ?_,fun i j=> ?_,fun i=>by have:=(vY h i).1;unfold tm at this;omega,fun i=>(vY h i).2,fun i x o=>by have:=((zA h i).2 x o).1;omega,fun i=> ?_,by have:=h.en;have:=h.ms;omega⟩
 ·have w:=h.t t ht;have:=h.ts;have:=w.ext;exact⟨by omega,w.VO,fun x o=>by have:=w.fc x o;omega⟩
 ·have hm:=List.getElem_mem j;have l:=(h.m _ hm).2.2;have A:=(nO l.RW);refine⟨l.code,by omega,(y _ hm).1,(y _ hm).2,fun v c u=>MJ (vX h n j v).VM (A.2 c u),fun v=>(vX h n j v).right,l.fl,by have:=l.ps;omega,by have:=l.ls;omega⟩
 ·have hm:=h.ms;by_cases j:i<g.ms.length
  ·have:=Dd h n i (by omega);unfold tm at this;omega
  ·have h1:=q i j;have:=Dd h n g.ms.length (Nat.le_refl _);rw[←h1]at this;unfold tm at this;omega
theorem OM {g:bZ}{i:Nat}(h:i<g.ts.length):(nX g)[i]? =some g.ts[i].name:=by simp only[nX,C1,List.append_assoc];rw[List.getElem?_append_left (by simpa using h)];simp[h]
theorem OP {g:bZ}{i:Nat}(h:i<g.fs.length):(nX g)[g.ts.length+i]? =some g.fs[i].name:=by simp only[nX,C1,List.append_assoc];rw[List.getElem?_append_right (by simp),List.getElem?_append_left (by simpa using h)];simp[h]
theorem ON {g:bZ}{i:Nat}(h:i<g.ms.length):(nX g)[g.ts.length+g.fs.length+i]? =some g.ms[i].name:=by simp only[nX,C1];rw[List.getElem?_append_right (by simp)];simp[h]
theorem Sb {g:bZ}{i:Nat}(h:i<g.fs.length):(eJ g)[i]? =some (cN (lp g.fs[i].ty)):=by simp only[eJ,Ee,HQ,HP,List.append_assoc];rw[List.getElem?_append_left (by simpa using h)];simp[h]
theorem R9 {g:bZ}{i:Nat}(h:i<g.ms.length):(eJ g)[g.fs.length+i]? =some (cN (hU (CY g.ms[i]))):=by simp only[eJ,Ee,HQ,HP,List.append_assoc];rw[List.getElem?_append_right (by simp),List.getElem?_append_left (by simpa using h)];simp[h]
theorem R8 {g:bZ}{i:Nat}(h:i<(dJ g).sp.length):(eJ g)[g.fs.length+g.ms.length+i]? =some (cN (mC (dJ g).sp[i])):=by have hl:=qQ g;simp only[eJ,Ee];rw[List.getElem?_append_left (by simp[hl];omega),List.getElem?_append_right (by omega),hl];simp[h]
theorem Sa {g:bZ}{i:Nat}(h:i<(dJ g).lo.length):(eJ g)[g.fs.length+g.ms.length+(dJ g).sp.length+i]? =some (cN (dW (dJ g).lo[i])):=by have hl:=qQ g;simp only[eJ,Ee];rw[List.getElem?_append_right (by simp[hl])];simp[hl,h]
theorem ns {α:Type}(e t r:Int) (x:Except iY α):dj true e t r x=x:=rfl
theorem lK {α β:Type}{step:Nat→β→Except iY α}{F:List α→Nat→List β→Except iY (List α)}(h0:∀acc i,F acc i []= .ok acc)
 (h1:∀acc i r rs,F acc i (r::rs)=cM (step i r) fun m=>F (acc++ [m]) (i+1) rs):
 ∀(rows:List β) (out acc:List α) (i:Nat),rows.length=out.length→(∀j (a:j<rows.length) (b:j<out.length),step (i+j) rows[j]= .ok out[j])→F acc i rows= .ok (acc++out)
 |[],[],acc,i,_,_ =>by rw[h0];simp
 |[],_ :: _,_,_,h,_ =>by simp at h
 | _ :: _,[],_,_,h,_ =>by simp at h
 |r::rs,o::os,acc,i,h,g=>by
  have l:=g 0 (by simp) (by simp);simp only[Nat.add_zero,List.getElem_cons_zero]at l;rw[h1,l];simp only[cM];rw[lK h0 h1 rs os (acc++ [o]) (i+1) (by simpa using h) fun j a b=> ?_]
  ·simp
  ·have:=g (j+1) (by simp;omega) (by simp;omega);simp only[List.getElem_cons_succ]at this;rw[←this,show i+(j+1)=i+1+j by omega]
def dS (l:List Int) (k:Int):List Int:=l.takeWhile (fun o=>decide (o<k))
theorem G6 (l:List Int) (k:Int):fq l k=((dS l k).length:Int)+1:=rfl
theorem vS {l:List Int}{k:Int}(h:∀x∈l,k≤x):dS l k= []:=by
 cases l with
 |nil=>rfl
 |cons x r=>have:=h x (List.mem_cons_self ..);simp[dS,List.takeWhile_cons];omega
theorem A9:∀ {l:List Int}{k:Int},(∀x∈l,x<k)→dS l k=l
 |[],_,_ =>rfl
 |x::r,k,h=>by have h1:=h x (List.mem_cons_self ..);have g:=A9 (l:=r) (k:=k) fun y i=>h y (List.mem_cons_of_mem _ i);unfold dS at g⊢;rw[List.takeWhile_cons,if_pos (by simpa using h1),g]
theorem ti:∀ {l:List Int},l.Pairwise (· ≤ ·)→ ∀k,dS l k=dS l (k-1)++List.replicate ((dS l k).length-(dS l (k-1)).length) (k-1)∧(dS l (k-1)).length≤(dS l k).length
 |[],_,k=>by simp[dS]
 |x::r,h,k=>by
  rw[List.pairwise_cons]at h;have n:=ti h.2 k;by_cases h1:x<k-1
  ·have i:dS (x::r) (k-1)=x::dS r (k-1):=by simp[dS,h1]
   have g:dS (x::r) k=x::dS r k:=by simp[dS,show x<k by omega]
   rw[i,g];simp only[List.length_cons,List.cons_append,Nat.add_sub_add_right];exact⟨by rw[←n.1],by omega⟩
  ·have i:dS (x::r) (k-1)= []:=by simp[dS,h1]
   by_cases o:x<k
   ·have g:dS (x::r) k=x::dS r k:=by simp[dS,o]
    have u:dS r (k-1)= []:=vS fun y q=>by have:=h.1 y q;omega
    have j:=n.1;rw[u]at j;simp only[List.nil_append,List.length_nil,Nat.sub_zero]at j;rw[i,g];simp only[List.nil_append,List.length_nil,Nat.sub_zero,List.length_cons,List.replicate_succ];exact⟨by rw[←j,show x=k-1 by omega],by omega⟩
   ·have g:dS (x::r) k= []:=by simp[dS,o]
    rw[i,g];simp
theorem K3 (l:List Int) (k:Int):(dS l k).length≤l.length:=by
 induction l with
 |nil=>simp[dS]
 |cons x r g=>unfold dS at g⊢;rw[List.takeWhile_cons];split<;>simp<;>omega
theorem wU {c:Nat}{g:List Int}{nt:Nat}(l:g.Pairwise (· ≤ ·)) (o:∀x∈g,0≤x∧x<(nt:Int)):
 ∀(rs:List (List Int)) (k:Nat),k+rs.length=nt→(∀j (h:j<rs.length),ia rs[j] c=fq g ((k+j:Nat):Int))→
  fU c g.length nt (dS g ((k:Int)-1)) (((dS g ((k:Int)-1)).length:Int)+1) k rs= .ok g
 |[],k,n,_ =>by
  obtain rfl:k=nt:=by simpa using n
  have h1:=(ti l (k:Int)).1;rw[A9 (fun x i=>(o x i).2)]at h1;simp only[fU];rw[show((g.length:Int)+1-(((dS g ((k:Int)-1)).length:Int)+1)).toNat=g.length-(dS g ((k:Int)-1)).length by omega,←h1]
 |r::rs,k,n,u=>by
  have h0:=u 0 (by simp);simp only[List.getElem_cons_zero,Nat.add_zero,G6]at h0;obtain⟨h1,y⟩:=ti l (k:Int);have w:=K3 g (k:Int);simp only[fU];rw[h0,show((dS g (k:Int)).length:Int)+1-(((dS g ((k:Int)-1)).length:Int)+1)=(((dS g (k:Int)).length-(dS g ((k:Int)-1)).length:Nat):Int) by omega,Int.toNat_natCast,←h1];have v:0<k∨((dS g (k:Int)).length:Int)+1=1:=by
   cases k with
   |zero=>right;rw[vS (k:=((0:Nat):Int)) (fun x i=>(o x i).1)];rfl
   |succ k=>left;omega
  have hd:decide (((dS g ((k:Int)-1)).length:Int)+1≤((dS g (k:Int)).length:Int)+1∧((dS g (k:Int)).length:Int)+1≤(g.length:Int)+1∧(0<k∨((dS g (k:Int)).length:Int)+1=1))=true:=by rw[decide_eq_true_eq];exact⟨by omega,by omega,v⟩
  rw[hd,ns];have q:=wU (c:=c) l o rs (k+1) (by simp at n;omega) fun j h=>by have:=u (j+1) (by simp;omega);simp only[List.getElem_cons_succ]at this;rw[this,show k+(j+1)=k+1+j by omega]
  rw[show(((k+1:Nat):Int)-1)=(k:Int) by omega]at q;exact q
def zu (t:TD) (f:List Int):TD:= { t with aZ:=f,fn:=decide (f= []) }
theorem uG {n:Int}(rest:List (List Int)) (done us:List TD) (t:TD):∀(fs pre:List Int) (i:Nat),pre.length+fs.length≤4→(∀x∈fs,0≤x∧x<n)→(done.length:Int)<n→
 eY n (done++zu t pre::us) i (fs.map (fun x=> [(done.length:Int)+1,x+1])++rest)=eY n (done++zu t (pre++fs)::us) (i+fs.length) rest
 |[],pre,i,_,_,_ =>by simp
 |x::fs,pre,i,h,g,o=>by
  have h0:=g x (List.mem_cons_self ..);simp only[List.length_cons]at h;have j:=uG rest done us t fs (pre++ [x]) (i+1) (by simp;omega) (fun y l=>g y (List.mem_cons_of_mem _ l)) o;have w:((done.length:Int)+1-1).toNat=done.length:=by omega
  have v:py (zu t pre) (x+1-1)=zu t (pre++ [x]):=by simp[py,zu,show x+1-1=x by omega]
  have u:(done++zu t pre::us)[done.length]? =some (zu t pre):=by simp
  have q:(done++zu t pre::us).set done.length (zu t (pre++ [x]))=done++zu t (pre++ [x])::us:=by rw[List.set_append_right _ _ (by omega)];simp
  simp only[List.map_cons,List.cons_append,eY,ia,List.getD_cons_zero,List.getD_cons_succ];rw[w,u];simp only;rw[v,q];have d1:decide (1≤(done.length:Int)+1∧(done.length:Int)+1≤n∧1≤x+1∧x+1≤n)=true:=by rw[decide_eq_true_eq];omega
  have d2:decide ((zu t pre).aZ.length<4)=true:=by rw[decide_eq_true_eq];simp only[zu];omega
  rw[d1,d2,ns,ns,j];simp only[List.append_assoc,List.singleton_append,List.length_cons,show i+1+fs.length=i+(fs.length+1) by omega]
theorem uI {n:Int} :∀(us done:List TD) (i:Nat),((done.length+us.length:Nat):Int)≤n→(∀t∈us,t.aZ.length≤4∧ ∀x∈t.aZ,0≤x∧x<n)→
 eY n (done++us.map (fun t=>zu t [])) i ((us.mapIdx fun j t=>gg (done.length+j) t).flatten)= .ok (done++us.map (fun t=>zu t t.aZ))
 |[],done,i,_,_ =>by simp[eY]
 |t::us,done,i,o,h=>by
  have h0:=h t (List.mem_cons_self ..);simp only[List.length_cons]at o;have h1:=uG (n:=n) ((us.mapIdx fun j t=>gg (done.length+(j+1)) t).flatten) done (us.map fun t=>zu t []) t t.aZ [] i (by simpa using h0.1) h0.2 (by omega);have g:=uI us (done++ [zu t t.aZ]) (i+t.aZ.length) (by simp;omega) fun y l=>h y (List.mem_cons_of_mem _ l);simp only[List.mapIdx_cons,List.flatten_cons,List.map_cons,Nat.add_zero];have u:gg done.length t=t.aZ.map fun x=> [(done.length:Int)+1,x+1]:=rfl;rw[u,h1];simp only[List.length_append,List.length_cons,List.length_nil,List.append_assoc,List.singleton_append,List.nil_append]at g⊢;have q:(us.mapIdx fun j t=>gg (done.length+(j+1)) t)=us.mapIdx fun j t=>gg (done.length+(0+1)+j) t:=by congr 1;funext j t;congr 1;omega
  rw[q,g]
end Im
namespace Pl
open Go Go.AW Tryz
theorem Kn (pre post s:By) (o:s.length≤536870911):jz (pre++(lC s++post)) pre.length=(s,0):=by
 have j:=EE (aY s.length) (s++post) _ _ (A8 s.length (by omega) (by omega));have n:=gH s.length (by omega) (by omega);have g:(aY s.length).length=(ez s.length).toNat:=by rw[aY,kj]
 have hd:(pre++(lC s++post)).drop ((pre.length:Nat):Int).toNat=aY s.length++(s++post):=by simp[lC]
 have i:0≤ez s.length:=by rcases fC s.length (by omega) (by omega)with⟨_,h⟩|⟨_,_,h⟩|⟨_,_,h⟩<;>rw[h]<;>decide
 have hlen:(pre++(lC s++post)).length=pre.length+((aY s.length).length+s.length+post.length):=by simp[lC];omega
 unfold jz;rw[hd,j,hlen];rw[if_neg (by omega),if_neg (by simp),if_neg (by simp only;omega)];generalize aY s.length=p at g;have l:(ez s.length+s.length).toNat=(p++s).length:=by simp;omega
 simp only;rw[l,←List.append_assoc,List.take_left,←g];simp
theorem Jg (pre post s:By) (h1:1≤pre.length) (hf:da s=true):jM (pre++(s++0::post)) pre.length=(s,0):=by
 have j:∀t:By,t.all vh=true→rN 0 (t++0::post)=some t.length:=by
  intro t;induction t with
  |nil=>intro _;simp[rN]
  |cons c r g=>
   intro h;simp only[List.all_cons,Bool.and_eq_true]at h;have l:¬c=0:=by rintro rfl;simp[vh]at h
   simp[rN,l,g h.2]
 have i:=j s (by simp[da]at hf;simp;exact hf.2.2);have hd:(pre++(s++0::post)).drop ((pre.length:Nat):Int).toNat=s++0::post:=by simp
 unfold jM;rw[hd,i,if_neg (by simp;omega)];simp[hf]
def PZ (p:By) (q:By×Nat):Prop:= ∃pre post,p=pre++(lC q.1++post)∧pre.length=q.2
def Rq (p:By) (q:By×Nat):Prop:= ∃pre post,p=pre++(q.1++0::post)∧pre.length=q.2∧1≤q.2
theorem PZ.app {p:By}{q:By×Nat}(r:By) (h:PZ p q):PZ (p++r) q:=by obtain⟨a,b,rfl,h⟩:=h;exact⟨a,b++r,by simp,h⟩
theorem Rq.app {p:By}{q:By×Nat}(r:By) (h:Rq p q):Rq (p++r) q:=by obtain⟨a,b,rfl,h⟩:=h;exact⟨a,b++r,by simp,h⟩
theorem yM {s:By}{a:Nat} :∀ {d:List (By×Nat)},gW s d=some a→(s,a)∈d:=by
 intro d;induction d with
 |nil=>intro h;simp[gW]at h
 |cons q r g=>
  obtain⟨k,x⟩:=q;intro h;simp only[gW]at h;split at h
  ·rename_i e;cases h;subst e;simp
  ·exact List.mem_cons_of_mem _ (g h)
theorem Ps:∀(l:List (By)) (p:By) (d:List (By×Nat)),PZ p ([],0)→(∀q∈d,PZ p q)→
 (∀q∈(ur l p d).2,PZ (ur l p d).1 q)∧(ur l p d).2.map (·.1)=d.map (·.1)++l:=by
 intro l;induction l with
 |nil=>intro p d _ h;simpa[ur]using h
 |cons s r i=>
  intro p d h0 h;simp only[ur];split
  ·rename_i a ha;have:=i p (d++ [(s,a)]) h0 (by
    intro q g;rcases List.mem_append.1 g with g|g
    ·exact h q g
    ·obtain rfl:q=(s,a):=by simpa using g
     rcases List.mem_cons.1 (yM ha)with e|e
     ·rw[e];exact h0
     ·exact h _ e)
   simpa using this
  ·have:=i (p++lC s) (d++ [(s,p.length)]) (h0.app _) (by
    intro q g;rcases List.mem_append.1 g with g|g
    ·exact(h q g).app _
    ·obtain rfl:q=(s,p.length):=by simpa using g
     exact⟨p,[],by simp,rfl⟩)
   simpa using this
theorem OQ:∀(l:List (By)) (p:By) (d:List (By×Nat)),1≤p.length→(∀q∈d,Rq p q)→
 (∀q∈(tK l p d).2,Rq (tK l p d).1 q)∧(tK l p d).2.map (·.1)=d.map (·.1)++l:=by
 intro l;induction l with
 |nil=>intro p d _ h;simpa[tK]using h
 |cons s r i=>
  intro p d h0 h;simp only[tK];split
  ·rename_i a ha;have:=i p (d++ [(s,a)]) h0 (by
    intro q g;rcases List.mem_append.1 g with g|g
    ·exact h q g
    ·obtain rfl:q=(s,a):=by simpa using g
     exact h _ (yM ha))
   simpa using this
  ·have:=i (p++s++ [0]) (d++ [(s,p.length)]) (by simp;omega) (by
    intro q g;rcases List.mem_append.1 g with g|g
    ·exact((h q g).app _).app _
    ·obtain rfl:q=(s,p.length):=by simpa using g
     exact⟨p,[],by simp,rfl,h0⟩)
   simpa using this
theorem Ky {l:List (By)}{D:List (By×Nat)}(h:D.map (·.1)=l) {i:Nat}{s:By}(g:l[i]? =some s):∃a,D[i]? =some (s,a)∧(s,a)∈D:=by
 subst h;rw[List.getElem?_map]at g;cases hd:D[i]? with
 |none=>rw[hd]at g;simp at g
 |some q=>rw[hd]at g;obtain⟨k,a⟩:=q;simp at g;subst g;exact⟨a,rfl,List.mem_of_getElem? hd⟩
theorem getD_map {D:List (By×Nat)}{i:Nat}{s:By}{a:Nat}(h:D[i]? =some (s,a)):(D.map (fun p=>(p.2:Int))).getD i 0=a:=by simp[List.getD_eq_getElem?_getD,h]
theorem Jf {l:List (By)}(h:(bX l).2.2=0) {i:Nat}{s:By}(j:l[i]? =some s):jM (bX l).1 ((bX l).2.1.getD i 0)=(s,0)∧da s=true:=by
 unfold bX at h⊢;split at h
 ·simp at h
 rename_i hf;split at h
 ·simp at h
 rename_i q;rw[if_neg hf,if_neg q];have g:∀x∈l,da x=true:=by simpa using hf
 obtain⟨h1,u⟩:=OQ l [0] [] (by simp) (by simp);obtain⟨a,ha,hm⟩:=Ky (by simpa using u) j;obtain⟨pre,post,o,n,v⟩:=h1 _ hm;simp only at o n v⊢;rw[getD_map ha,o,←n];exact⟨Jg pre post s (by omega) (g s (List.mem_of_getElem? j)),g s (List.mem_of_getElem? j)⟩
theorem Kl {l:List (By)}(h:(cg l).2.2=0) {i:Nat}{s:By}(o:l[i]? =some s) (n:s.length≤536870911):jz (cg l).1 ((cg l).2.1.getD i 0)=(s,0):=by
 unfold cg at h⊢;split at h
 ·simp at h
 rename_i q;rw[if_neg q];obtain⟨h1,u⟩:=Ps l [0] [] ⟨[],[],by decide+kernel,rfl⟩ (by simp);obtain⟨a,ha,hm⟩:=Ky (by simpa using u) o;obtain⟨pre,post,j,g⟩:=h1 _ hm;simp only at j g⊢;rw[getD_map ha,j,←g];exact Kn pre post s n
end Pl
namespace Sg
open Go Go.AW Tryz
theorem iG (S:List Nat):aH prog [] S:=mixed
def TI (x:Except Int (List Ty×Nat)) (b:By) (nl:Bool) (id:Nat) (σ:AS) (r:AV) (σ':AS):Prop:= ∃v a g,x= .ok (v,a)∧σ g=none∧r= .an 49 (v.map cr) (.tok g) (decide (v= []))∧σ'=(σ.set g (.tok v.length)).set id (bC b (a:Nat) nl)
theorem Jq (n:Nat) (hn:n≤100) (id:Nat) (b:By) (a:Nat) (nl:Bool) (σ:AS) (h:σ id=some (bC b a nl)) (ha:a≤b.length) (S:nl=true→b= []) (hb:b.length≤100000):
 aa prog 209 [jH id,.sc (.int .i64 n)] σ (TI (eList b n a) b nl id σ) (TD (eList b n a) b nl id σ):=by
 have hm:=fun x σ h Z=>zW bE (.sc (.func (.func 183) #[] #[])) (fun σ t=>mX.func (qI t σ)) id b x nl σ h Z S hb;refine aa.ob func209 ?_;simp only[jH]at hm⊢;refine gO iG tI tI ?_;intro D u;have j:¬id=D:=nq h u;have o:=aA j;refine gO iG tI tI ?_;refine ae.fM 5 49 [] true (by simp) (.inr ⟨by simp,rfl,rfl⟩) ?_;simp-implicitDefEqProofs;intro G v A;have l:=aA v;have g:¬id=G:=nq h A;have w:=aA g;refine ae.bp (α:=(Nat)×(List Ty)×(Nat)) ((0,[],a)) (fun⟨i,d,q⟩=>n-i) (fun⟨i,d,q⟩=>i≤n∧d.length=i∧zM d (eList b (n-i) q)=eList b n a∧q≤b.length) [(2,?_),(4,?_),(6,?_)] (fun⟨i,d,q⟩=> [(7,.sc (.int .i64 i)),(5,.an 49 (d.map cr) (.tok G) (decide (d= [])))]) (fun⟨i,d,q⟩=>((σ.set D (.cells 275 [.ptr id 0])).set G (.tok d.length)).set id (bC b q nl)) ?_ ?_ ?_ ?_;rotate_left 3
 ·exact gF tI
 ·(try dsimp only);(simp;rw[fS (by simp[j,g,h])];exact lR _)
 ·exact⟨by omega,rfl,by simp;cases eList b n a<;>simp[zM],ha⟩
 intro X M;obtain⟨i,d,q⟩:=X;try dsimp only at M⊢
 obtain⟨hi,hd,I,V⟩:=M;simp only[gj];have O:∀(K J y:bN),AS.le (σ.set id y) (((σ.set D K).set G J).set id y):=fun K J y=>ah (AS.ah (AS.ah (lR _) u) A);have H:∀(K J y:bN),AS.le ((σ.set G J).set id y) (((σ.set D K).set G J).set id y):=fun K J y=>ah (ah (AS.ah (lR _) u));by_cases F:i<n
 ·have L:IntKind.i64.wrap ((i:Int)+1)=((i+1:Nat):Int):=cv (by omega);obtain⟨k,hk⟩:∃k,n-i=k+1:=⟨n-i-1,by omega⟩;rw[hk,yE]at I;cases P:lE bE b q with
  |error e=>
   rw[P]at I;have E:=fun σ h=>RD.bad (hm q σ h V) P;repeat (first
    |(with_reducible first|apply ae.seq|apply ae.block|refine j2 (by first|omega|assumption|decide) ?_)
    |((first|(with_reducible first|apply ae.fork|apply ae.region|show aN _ _ _ |show aB _ _ _ _ _ _ _ _ _)|((with_reducible apply ag.id);first|apply (TQ (E _ (by simp)))));simp-implicitDefEqProofs [F,o,l])
    |((with_reducible first|apply ae.ret|apply ae.skip|apply ae.exit);try simp-implicitDefEqProofs))
   intro x;exact⟨_,O _ _ _,e,I.symm,rfl,x,rfl⟩
  |ok y=>
   obtain⟨t,Y⟩:=y;rw[P]at I;have E:=fun σ h=>RD.ok (hm q σ h V) P;have Q:=vG P;simp only[aD]at E;have ac:d.length≤100:=by omega
   refine gO iG (j7 F @aI o w g l @L) @E ?_;refine aP.mk ((i+1,d++ [t],Y)) (by(try dsimp only);omega) (gF @aD) (by(try dsimp only);(simp;done)) ?_;try dsimp only
   exact⟨F,by simp[hd],by rw[←I,show n-(i+1)=k by omega],Q⟩
 ·have T:n-i=0:=by omega
  rw[T]at I;have U:eList b n a= .ok (d,q):=by rw[←I];simp[eList,zM]
  refine gO iG (j2 F @aI) tI ?_;exact⟨_,_,Wk.refl _,H _ _ _,d,q,G,U,A,rfl,rfl⟩
theorem Ln {b:By}{s:Sg}(h:eP b= .ok s):∃c o n j t i l u,eB b 0= .ok (c,o)∧(c=0∨c=32)∧yg b o= .ok (n,j)∧n≤6∧lE dB b j= .ok (t,i)∧eList b n.toNat i= .ok (l,u)∧ ¬u<b.length∧s=⟨decide (c=32),l,t⟩:=by
 unfold eP qa at h;split at h
 ·cases h
 ·rename_i v a g;split at h
  ·cases h
  ·rename_i q;cases h;unfold rp at g;split at g
   ·cases g
   ·rename_i c o A;split at g
    ·rename_i w;split at g
     ·cases g
     ·rename_i n j y;split at g
      ·rename_i F;split at g
       ·cases g
       ·rename_i t i D;split at g
        ·cases g
        ·rename_i l u E;cases g;exact⟨c,o,n,j,t,i,l,a,A,w,y,F,D,E,q,rfl⟩
      ·cases g
    ·cases g
theorem TI.ok {f:FuncId}{args:List AV}{x:Except Int (List Ty×Nat)}{b:By}{nl:Bool}{id:Nat}{σ:AS}{v:List Ty}{a:Nat}(h:aa prog f args σ (TI x b nl id σ) (TD x b nl id σ)) (i:x= .ok (v,a)):
 aa prog f args σ (fun r σ'=> ∃g,σ g=none∧r= .an 49 (v.map cr) (.tok g) (decide (v= []))∧σ'=(σ.set g (.tok v.length)).set id (bC b a nl)) No:=
 h.mono (fun r σ' j=>by obtain⟨u,w,g,h1,q,o,n⟩:=j;rw[i]at h1;cases h1;exact⟨g,q,o,n⟩) (fun p σ' l=>by obtain⟨e,h1,_⟩:=l;rw[i]at h1;cases h1)
def SC (s:Sg) (g:Nat):AV:= .agg [.sc (.bool s.this),.an 49 (s.ps.map cr) (.tok g) (decide (s.ps= [])),.sc (.int .i64 s.ret.kind),.sc (.int .i64 s.ret.index),.sc (.int .i64 s.ret.bt),.sc (.bool s.ret.ref)]
theorem D2 (b:By) (s:Sg) (hs:eP b= .ok s) (o:cL) (nl:Bool) (J:nl=true→b= []) (hl:b.length≤100000) (σ:AS):
 aa prog 170 [.an 5 (b.map u8) o nl] σ (fun r σ'=> ∃M,σ M=none∧r= .bQ [SC s M,.sc (.int .i64 0)]∧σ'=σ.set M (.tok s.ps.length)) No:=by
 refine aa.jj func170 rfl rfl (by simp[ntmps170]) (fun G1=> ?_);apply lg.seq;have T:f170.ntmps=38:=rfl;simp-implicitDefEqProofs only[T];refine gO iG tI tI ?_;intro al a9;refine gO iG tI tI ?_;intro id3 i a8;have u:=aA i;apply lg.defer (by simp) (by decide+kernel);intro D;simp-implicitDefEqProofs only[T];refine gO iG tI tI ?_;refine ag.of (oH b o nl J (by omega) _) ?_ (fun _ _ h=>h.elim);rintro r σ1 ⟨id,X,rfl,rfl⟩;simp at X;obtain⟨G,v,bv⟩:=X;have H:=aA G;have w:=aA v;simp-implicitDefEqProofs;refine gO iG tI tI ?_;intro id5 A E g a7;have y:=aA A;have F:=aA E;have j:=aA g;have L:=fun e σ=>cH e σ;have ho:=fun σ h=>zR id b 0 nl σ h (by omega) hl;have hp:=fun x P σ h=>mb id b x nl σ h P J hl;have hm:=fun x P σ h=>zW dB (.sc (.func (.func 191) #[] #[])) (fun σ t=>mX.func (oL t σ)) id b x nl σ h P J hl;have V:=fun n hn x P σ h=>Jq n hn id b x nl σ h P J hl;simp only[jH]at ho hp V hm;obtain⟨c,a1,n,a2,t,a3,l,a4,hO,hc,hP,h6,hM,hL,cb,rfl⟩:=Ln hs;have S:=fun σ h=>RD.ok (ho σ h) hO;have a6:=y6 hO;simp only[sL]at S;have z0:=lP (c:=c) (n:=0) (by omega);have b3:=lP (c:=c) (n:=32) (by omega);have av:∃(p q th:Bool),(c.toNat=0)=(p=true)∧((c.toNat:Int)=32)=(q=true)∧(p||q)=true∧decide (c=32)=th∧th= !p:=by
  rcases hc with rfl|rfl
  ·exact⟨true,false,false,by simp,by simp,rfl,by decide,rfl⟩
  ·exact⟨false,true,true,by simp,by simp,rfl,by decide,rfl⟩
 obtain⟨p,q,th,y0,Z,ap,am,rfl⟩:=av;have Q:=fun σ h=>RD.ok (hp a1 a6 σ h) hP;have a5:=D9 hP;have b6:=(rT hP).1;simp only[JG]at Q;obtain⟨m,rfl⟩:∃m:Nat,n=m:=⟨n.toNat,by omega⟩;have Y:=vG hM;have U:=fun σ h=>RD.ok (hm a2 a5 σ h) hM;simp only[aD]at U;simp only[Int.toNat_natCast]at hL;have a0:=xi Y hL;have ar:=fun σ h=>TI.ok (V m (by omega) a3 Y σ h) hL;have he:=fun σ h=>Ak id b a4 nl σ h a0 hl (by omega);simp only[jH]at he;cases p<;>cases q<;>first|(cases ap;done)|skip
 all_goals
  refine gO iG (j2 (j7 @y0 @Z @h6 i u v w) (j4 A y g j)) (j4 @S @L @Q @U) ?_;refine ag.of (ar _ (by simp[y])) ?_ (fun _ _ h=>h.elim);rintro r σ1 ⟨M,I,rfl,rfl⟩;simp at I;obtain⟨t5,t0,t3,t2,I⟩:=I;have ac:=aA t5;have af:=aA t0;have O:=aA t3;have K:=aA t2;simp-implicitDefEqProofs [t0,t2,K,i,u,v,w,A,g,j];refine gO iG (j2 (j7 @t3 @t2 @ac @af @O @K i) (j2 (j7 u G v H w y E) (j3 F g j))) @he ?_;refine sx al id3 _ _ ?_;simp-implicitDefEqProofs [w,H,j,F,u,O,K];refine⟨_,σ.set M (.tok l.length),Wk.refl _,ah ?_,M,I,by simp[SC,am],rfl⟩;repeat (first|exact lR _ |refine AS.ah ?_ (by assumption))
end Sg
namespace Im
open Go Go.AW Tryz
abbrev iv:b7:=(.step 0 (.step 1 (.step 2 (.step 3 (.step 5 (.step 6 (.step 7 (.step 8 (.step 9 (.step 10 (.step 11 (.step 12 (.step 13 (.step 14 (.alt 4 (.step 15 (.alt 16 (.alt 17 .done .none) .none)) (.alt 16 (.alt 4 (.step 15 (.alt 17 .done .none)) .none) .none))))))))))))))))
abbrev jg:b7:=(.step 0 (.step 2 (.read 1 (.step 4 (.alt 3 (.alt 5 (.step 6 (.alt 7 .done .none)) .none) (.alt 5 (.read 3 (.step 6 (.alt 7 .done .none))) .none))))))
abbrev lZ:b7:=(.step 0 (.step 1 (.step 3 (.step 4 (.step 5 (.step 9 (.read 2 (.read 6 (.read 7 (.step 8 (.alt 10 .done .none)))))))))))
abbrev lY:b7:=(.step 0 (.step 1 (.step 2 (.step 4 (.step 5 (.read 3 (.read 6 (.step 7 (.step 8 (.read 9 (.alt 10 (.step 11 (.alt 12 .done .none)) .none)))))))))))
abbrev lX:b7:=(.step 0 (.step 1 (.step 2 (.step 3 (.step 4 (.read 5 (.read 6 (.step 7 (.alt 8 (.step 9 (.step 10 (.step 11 (.alt 12 .done .none)))) .none)))))))))
theorem bm (S:List Nat):aH prog [(7,iv),(16,jg),(17,lZ),(19,lY),(22,lX)] S:=mixed
open Rg (Cl ic aW ed cG gw)
open Sg (lk cD eP SC)
variable {k:LK} {e:LE} {d:LD} {B τ:AS}
theorem LI.Vj (h:LI k e d B τ) (t:Mt):LI k e { d with ms:=d.ms++ [t] } B ((τ.set k.tM (.tok (d.ms.length+1))).set k.id (.cells 108 (C2 k e { d with ms:=d.ms++ [t] } 0))):=by
 obtain⟨n1,n2,o,n,w,v,l,u,i,g⟩:=h.ne;refine h.mk' (AS.aj _ _ _) ?_ ?_ ?_ ?_ fun j q j2 j3 j4 j5=> ?_
 ·rw[AS.ad _ _ n1.symm,AS.ad _ _ l];exact h.tP
 ·rw[AS.ad _ _ n2.symm,AS.ad _ _ i];exact h.tO
 ·rw[AS.ad _ _ o.symm,AS.ad _ _ g];exact h.tF
 ·rw[AS.ad _ _ n.symm,AS.aj];simp
 ·rw[AS.ad _ _ q,AS.ad _ _ j5]
theorem TW {l:List (List Int)}(h:oc 6 l) {i:Nat}(j:i<l.length):∃a b c x y z,l[i]? =some [a,b,c,x,y,z]∧l.drop i= [a,b,c,x,y,z]::l.drop (i+1)∧(0≤a∧a<4294967296)∧(0≤b∧b<4294967296)∧(0≤c∧c<4294967296)∧(0≤x∧x<4294967296)∧(0≤y∧y<4294967296)∧(0≤z∧z<4294967296):=by
 obtain⟨h1,g⟩:=h.2 l[i] (List.getElem_mem j)
 match n:l[i],h1,g with
 |[a,b,c,x,y,z],_,g=>exact⟨a,b,c,x,y,z,by rw[List.getElem?_eq_getElem j,n],by rw[List.drop_eq_getElem_cons j,n],g a (by simp),g b (by simp),g c (by simp),g x (by simp),g y (by simp),g z (by simp)⟩
theorem mA (a b c x y z:Int):uZ [a,b,c,x,y,z]= .an 3 [.sc (.int .i64 a),.sc (.int .i64 b),.sc (.int .i64 c),.sc (.int .i64 x),.sc (.int .i64 y),.sc (.int .i64 z)] .aE false:=rfl
theorem It {b:By}(h:cD (eP b)=0):∃x,eP b= .ok x:=by
 cases g:eP b with
 |ok x=>exact⟨x,rfl⟩
 |error e=>exfalso;rw[g]at h;exact Sg.Iv g h
theorem UY {P:Program}{n:Nat}{ds:List Deferred}{o l j:AQ}{s:Fr}{σ:AS}{α:Type}{r g y:Code}(I:α→Prop) (fr:α→List (Nat×AV)) (st:α→AS)
 (h1:ae P n ds r (dP (ae P n ds g (dP (Sg.fV P I fr st) l)) j) s σ) (u:∀v,I v→ae P n ds y o (jJ (fr v)) (st v)):ae P n ds r (dP (ae P n ds g (dP (ae P n ds y o) l)) j) s σ:=by
 refine h1.mono fun e q σ' h=> ?_;cases e with
 |normal=>
  refine ae.mono h fun e q σ' h=> ?_;cases e with
  |normal=>obtain⟨v,i1,i2,i3⟩:=h;exact(u v i1).weaken i2 i3
  |exit i=>exact h
  |ret=>exact h
  |panic x=>exact h
 |exit i=>exact h
 |ret=>exact h
 |panic x=>exact h
def nr (nm:By) (o b:Int) (s:Sg.Sg) (c:Int) (l h g:AV):List AV:= [.sc (.string ⟨nm.toArray⟩),.sc (.int .i64 o),.sc (.int .i64 b),.an 49 (s.ps.map cr) .aE (decide (s.ps= [])),.sc (.int .i64 s.ret.kind),.sc (.int .i64 s.ret.index),.sc (.int .i64 s.ret.bt),.sc (.bool s.ret.ref),l,.sc (.int .i64 c),h,g]
theorem BN (nm:By) (o b:Int) (s:Sg.Sg) (c:Int) (l h g:AV):nr nm o b s c l h g= [.sc (.string ⟨nm.toArray⟩),.sc (.int .i64 o),.sc (.int .i64 b),.an 49 (s.ps.map cr) .aE (decide (s.ps= [])),.sc (.int .i64 s.ret.kind),.sc (.int .i64 s.ret.index),.sc (.int .i64 s.ret.bt),.sc (.bool s.ret.ref),l,.sc (.int .i64 c),h,g]:=rfl
def Vn (k:LK) (e:LE) (d:LD) (B:AS) (v:List Mt) (r:AV) (g:AS):Prop:=r= .bQ []∧LI k e { d with ms:=v } B g
theorem LI.methods (h:LI k e d B τ) (hs:d.ms= []) (f8:d.sp.length≤100000) (hZ:d.lo.length≤70000) (e1:∀x∈d.lo,x.length≤12) (nt:Nat) (f9:e.t0.length=nt) (em:∀σ K,jL prog σ 22 d.ty K=K (.sc (.int .i64 nt))):
 aa prog 111 [.ptr k.id 0] τ (RL (jZ e d.sp d.lo) (Vn k e d B)) (TL (jZ e d.sp d.lo) B):=by
 have hm:=fun a t r σ=>lu a t r σ;obtain⟨X,g⟩:∃X,jZ e d.sp d.lo=X:=⟨_,rfl⟩;rw[g];unfold jZ at g;have af:=h.id;rw[b8]at af;simp only[cx]at af;have im:∀ {f τ'},X= .error f→AS.le B τ'→ ∃σ',AS.le σ' τ'∧TL X B (pX f) σ':=fun {f τ'} hx hle=>⟨τ',lR _,_,hx,rfl,hle⟩;have h1:=h.e.t2;have eB:=h.e.B;have fb:=fun σ=>eG 5 2 0 (by omega) (by omega) (by omega) (by omega) σ;have cj:=h.I4 4 (by omega) e.t2.length h1.1;have hc:(e.t2= []∧True)∨(¬e.t2= []∧(0<nt)=True)∨(¬e.t2= []∧ ¬0<nt):=by
  by_cases G:e.t2= []
  ·exact .inl ⟨G,trivial⟩
  ·by_cases c2:0<nt
   ·exact .inr (.inl ⟨G,eq_true c2⟩)
   ·exact .inr (.inr ⟨G,c2⟩)
 rw[f9]at g cj;refine aa.ob func111 ?_;refine gO (S:= [1]) bm @af tI ?_;try apply ae.seq
 refine Sg.xk (α:=Unit) (fun _ =>cM (fU 4 e.t2.length nt [] 1 0 e.t0) (fun E=>mN e d.sp d.lo E [] 0 e.t2)=X) (fun _ => [(0,.ptr k.id 0),(2,.an 44 (e.t2.map uZ) .aE (decide (e.t2= [])))]) (fun _ =>τ) ?_ ?_
 ·rcases hc with⟨G,c2⟩|⟨G,c2⟩|⟨G,c2⟩
  ·have al:cM (fU 4 e.t2.length nt [] 1 0 e.t0) (fun E=>mN e d.sp d.lo E [] 0 e.t2)=X:=by rw[←g];simp[dj,G]
   obtain⟨P,hP⟩:∃P,cM (fU 4 e.t2.length nt [] 1 0 e.t0) (fun E=>mN e d.sp d.lo E [] 0 e.t2)=P:=⟨_,rfl⟩;rw[hP]at al⊢;generalize e.t2=T1 at af G⊢;subst G;refine gO bm tI @hm ?_;refine fV.mk (()) (gF tI) (by(try dsimp only);exact lR _) ?_;try dsimp only
   exact al
  ·have al:cM (fU 4 e.t2.length nt [] 1 0 e.t0) (fun E=>mN e d.sp d.lo E [] 0 e.t2)=X:=by rw[←g];simp[dj,G,of_eq_true c2]
   generalize hP:cM (fU 4 e.t2.length nt [] 1 0 e.t0) (fun E=>mN e d.sp d.lo E [] 0 e.t2)=P at*;refine xM (bm []) @em (j3 @af @G @c2) @hm (k:= ?_);refine fV.mk (()) (gF tI) (by(try dsimp only);exact lR _) ?_;try dsimp only
   exact al
  ·have al:X= .error (mF 5 2 0):=by rw[←g];simp[dj,G,c2]
   refine xM (bm []) @em (j3 @af @G @c2) @fb (k:= ?_);exact im al h.le
 ·intro _ g;rcases bD g with⟨E,hO,g⟩|⟨f,hO,g⟩
  ·have a0:=RL.ok cj hO;have hS:=tR hO (by simp) (by omega);refine gO bm tI @a0 ?_;obtain⟨Y,hY⟩:∃Y,mN e d.sp d.lo E [] 0 e.t2=Y:=⟨_,rfl⟩;rw[hY]at g;refine ae.bp (α:=(Nat)×(List Mt)×(AS)) ((0,[],τ)) (fun⟨i,ms,τ1⟩=>e.t2.length-i) (fun⟨i,ms,τ1⟩=>i≤e.t2.length∧ms.length=i∧mN e d.sp d.lo E ms i (e.t2.drop i)=Y∧LI k e { d with ms:=ms } B τ1) [(0,?_),(3,?_),(35,?_),(36,?_)] (fun⟨i,ms,τ1⟩=> [(37,.sc (.int .i64 i))]) (fun⟨i,ms,τ1⟩=>τ1) ?_ ?_ ?_ ?_;rotate_left 4
   ·exact gF tI
   ·exact gT
   ·exact⟨by omega,rfl,hY,by rw[←hs];exact h⟩
   intro x_ av;obtain⟨i,ms,τ1⟩:=x_;try dsimp only at av⊢
   obtain⟨hi,gc,l,h2⟩:=av;simp only[gj];by_cases ge:i<e.t2.length
   ·obtain⟨a,b,c,x,y,z,L,gt,ha,hb,ih,ac,hM,hL⟩:=TW h1 ge;have ip:=h1.1;rw[gt]at l;simp only[mN,GR,ia,List.getD_cons_zero,List.getD_cons_succ,iT,iS,dc]at l;have hI:((i:Int)<e.t2.length)=True:=by simp;omega
    have a4:i<E.length:=by omega
    have M:E[i]? =some E[i]:=List.getElem?_eq_getElem a4;have gI:E.getD i 0=E[i]:=by rw[List.getD_eq_getElem?_getD,M];rfl
    rw[gI]at l;obtain⟨o,a2⟩:∃o,E[i]=o:=⟨_,rfl⟩;rw[a2]at M l;have bad:=fun a σ=>eG a 2 i (by omega) (by omega) (by omega) (by omega) σ;have wi:IntKind.i64.wrap ((i:Int)+1)=i+1:=ay (by omega) (by omega);have et:=h2.name x ac.1 ac.2;rcases aK l with⟨c0,l⟩|⟨c0,l⟩
    ·have G:b≤31:=by simp at c0;exact c0.1
     have c2:c≤12:=by simp at c0;exact c0.2
     rcases bD l with⟨nm,hN,l⟩|⟨f,hN,l⟩
     ·have Q:=RL.ok et hN;have O:=fun j x' (hj:τ1 j=none)=>RL.ok ((h2.own (b:=x') hj).name x ac.1 ac.2) hN;refine gO (S:= [7]) bm (j5 hI @L @mA @G @c2) @hm ?_;try apply ae.seq
      refine Hi (α:=Nat) (fun v=>τ1 v=none) (fun v=> [(0,.ptr k.id 0),(3,.an 3 (E.map aV) .aE (decide (E= []))),(4,.sc (.int .i64 i)),(5,uZ [a,b,c,x,y,z]),(6,.ptr v 0),(35,.an 44 (e.t2.map uZ) .aE (decide (e.t2= []))),(36,.sc (.int .i64 e.t2.length)),(37,.sc (.int .i64 i))])
       (fun v=>τ1.set v (.cells 53 [.sc (.string ⟨nm.toArray⟩),.sc (.int .i64 o),.sc (.int .i64 b),.ai,.sc (.int .i64 0),.sc (.int .i64 0),.sc (.int .i64 0),.sc (.bool false),.ai,.sc (.int .i64 c),.ai,.ai])) (fun _ _ =>rfl) ?_ ?_
      ·(((with_reducible apply ae.aR (id:=7) (t:=iv));(exact mixed);kernel_rfl;kernel_rfl;(repeat (with_reducible first|apply ak.then|apply ak.block|apply ak.body|apply ak.no)));simp-implicitDefEqProofs [a4,a2,mA,aG])
       repeat' (first
        |(with_reducible apply j2)
        |(intro id6 U;try simp-implicitDefEqProofs [M,a4,a2,mA,aG])
        |(refine ag.aC Q ?_;try simp-implicitDefEqProofs)
        |(refine ag.aC (O _ _ (by assumption)) ?_;try simp-implicitDefEqProofs))
       all_goals
        refine fV.mk (id6) (gF @mA) (by(try dsimp only);exact lR _) ?_;try dsimp only
        exact(by assumption)
      ·intro id6 U;have h3:=h2.own (b:= .cells 53 [.sc (.string ⟨nm.toArray⟩),.sc (.int .i64 o),.sc (.int .i64 b),.ai,.sc (.int .i64 0),.sc (.int .i64 0),.sc (.int .i64 0),.sc (.bool false),.ai,.sc (.int .i64 c),.ai,.ai]) U;have dn:B id6=none:=h2.mP U;have I:AS.le B (B.set id6 (.cells 53 [.sc (.string ⟨nm.toArray⟩),.sc (.int .i64 o),.sc (.int .i64 b),.ai,.sc (.int .i64 0),.sc (.int .i64 0),.sc (.int .i64 0),.sc (.bool false),.ai,.sc (.int .i64 c),.ai,.ai])):=AS.ah (lR _) dn;have k6:(B.set id6 (.cells 53 [.sc (.string ⟨nm.toArray⟩),.sc (.int .i64 o),.sc (.int .i64 b),.ai,.sc (.int .i64 0),.sc (.int .i64 0),.sc (.int .i64 0),.sc (.bool false),.ai,.sc (.int .i64 c),.ai,.ai])) id6=some (.cells 53 [.sc (.string ⟨nm.toArray⟩),.sc (.int .i64 o),.sc (.int .i64 b),.ai,.sc (.int .i64 0),.sc (.int .i64 0),.sc (.int .i64 0),.sc (.bool false),.ai,.sc (.int .i64 c),.ai,.ai]):=AS.aj _ _ _;have ik:∀v,AS.le (B.set id6 v) ((B.set id6 (.cells 53 [.sc (.string ⟨nm.toArray⟩),.sc (.int .i64 o),.sc (.int .i64 b),.ai,.sc (.int .i64 0),.sc (.int .i64 0),.sc (.int .i64 0),.sc (.bool false),.ai,.sc (.int .i64 c),.ai,.ai])).set id6 v):=fun v=>le_eq (by rw[AS.set_set]);generalize io:(B.set id6 (.cells 53 [.sc (.string ⟨nm.toArray⟩),.sc (.int .i64 o),.sc (.int .i64 b),.ai,.sc (.int .i64 0),.sc (.int .i64 0),.sc (.int .i64 0),.sc (.bool false),.ai,.sc (.int .i64 c),.ai,.ai]))=A at*;generalize (τ1.set id6 (.cells 53 [.sc (.string ⟨nm.toArray⟩),.sc (.int .i64 o),.sc (.int .i64 b),.ai,.sc (.int .i64 0),.sc (.int .i64 0),.sc (.int .i64 0),.sc (.bool false),.ai,.sc (.int .i64 c),.ai,.ai]))=τ2 at*;have e7:=h3.yi y;rcases bD l with⟨bb,b1,l⟩|⟨f,b1,l⟩
       ·have a5:=RL.ok e7 b1;have hA:=qH b1;have b0:=fun σ=>Sg.GY bb .aE false (by simp) (by omega) σ;rcases aK l with⟨c5,l⟩|⟨c5,l⟩
        ·have c5:cD (eP bb)=0:=by simpa using c5
         obtain⟨sg,er⟩:=It c5;have hg:=fun σ=>Sg.D2 bb sg er .aE false (by simp) (by omega) σ;have es:=Iu bb;rw[er]at l es;simp only[lk]at l es;refine gO (S:= [10]) bm @mA @a5 ?_;refine ag.of (hg _) ?_ (fun _ _ h=>h.elim);rintro r3 τ3 ⟨u,eo,rfl,rfl⟩;simp only[SC];simp-implicitDefEqProofs;refine gO (S:= [10]) bm tI tI ?_;intro D bs T;have h4:=h3.own (b:= .tok sg.ps.length) eo;have c3:(τ2.set u (.tok sg.ps.length)) D=none:=by rw[AS.ad _ _ bs];exact T
         have h5:=h4.own (b:= .cells 149 [.sc (.bool sg.this),.an 49 (sg.ps.map cr) (.tok u) (decide (sg.ps= [])),.sc (.int .i64 sg.ret.kind),.sc (.int .i64 sg.ret.index),.sc (.int .i64 sg.ret.bt),.sc (.bool sg.ret.ref)]) c3;have dp:A u=none:=h3.mP eo;have e9:A D=none:=h3.mP T;have fw:¬u=D:=fun e'=>bs e'.symm;have eg:id6≠u:=nq dp k6;have ej:id6≠D:=nq e9 k6;have e3:((A.set u (.tok sg.ps.length)).set D (.cells 149 [.sc (.bool sg.this),.an 49 (sg.ps.map cr) (.tok u) (decide (sg.ps= [])),.sc (.int .i64 sg.ret.kind),.sc (.int .i64 sg.ret.index),.sc (.int .i64 sg.ret.bt),.sc (.bool sg.ret.ref)])) D=some (.cells 149 [.sc (.bool sg.this),.an 49 (sg.ps.map cr) (.tok u) (decide (sg.ps= [])),.sc (.int .i64 sg.ret.kind),.sc (.int .i64 sg.ret.index),.sc (.int .i64 sg.ret.bt),.sc (.bool sg.ret.ref)]):=AS.aj _ _ _;have e2:((A.set u (.tok sg.ps.length)).set D (.cells 149 [.sc (.bool sg.this),.an 49 (sg.ps.map cr) (.tok u) (decide (sg.ps= [])),.sc (.int .i64 sg.ret.kind),.sc (.int .i64 sg.ret.index),.sc (.int .i64 sg.ret.bt),.sc (.bool sg.ret.ref)])) u=some (.tok sg.ps.length):=by rw[AS.ad _ _ fw,AS.aj]
         have e4:((A.set u (.tok sg.ps.length)).set D (.cells 149 [.sc (.bool sg.this),.an 49 (sg.ps.map cr) (.tok u) (decide (sg.ps= [])),.sc (.int .i64 sg.ret.kind),.sc (.int .i64 sg.ret.index),.sc (.int .i64 sg.ret.bt),.sc (.bool sg.ret.ref)])) id6=some (.cells 53 [.sc (.string ⟨nm.toArray⟩),.sc (.int .i64 o),.sc (.int .i64 b),.ai,.sc (.int .i64 0),.sc (.int .i64 0),.sc (.int .i64 0),.sc (.bool false),.ai,.sc (.int .i64 c),.ai,.ai]):=by rw[AS.ad _ _ ej,AS.ad _ _ eg];exact k6
         have cb:AS.le A ((A.set u (.tok sg.ps.length)).set D (.cells 149 [.sc (.bool sg.this),.an 49 (sg.ps.map cr) (.tok u) (decide (sg.ps= [])),.sc (.int .i64 sg.ret.kind),.sc (.int .i64 sg.ret.index),.sc (.int .i64 sg.ret.bt),.sc (.bool sg.ret.ref)])):=AS.ah (AS.ah (lR _) dp) e9;generalize ((A.set u (.tok sg.ps.length)).set D (.cells 149 [.sc (.bool sg.this),.an 49 (sg.ps.map cr) (.tok u) (decide (sg.ps= [])),.sc (.int .i64 sg.ret.kind),.sc (.int .i64 sg.ret.index),.sc (.int .i64 sg.ret.bt),.sc (.bool sg.ret.ref)]))=A4 at*;generalize ((τ2.set u (.tok sg.ps.length)).set D (.cells 149 [.sc (.bool sg.this),.an 49 (sg.ps.map cr) (.tok u) (decide (sg.ps= [])),.sc (.int .i64 sg.ret.kind),.sc (.int .i64 sg.ret.index),.sc (.int .i64 sg.ret.bt),.sc (.bool sg.ret.ref)]))=τ4 at*;have t7:=h5.le _ _ e3;have tt:=h5.le _ _ e2;have t6:=h5.le _ _ e4;have ca:AS.le B τ4:=AS.le_trans I (AS.le_trans cb h5.le);have hand:IntKind.i64.wrap (lF 64 b 1)=b%2:=by have fa:=jA (w:=64) (a:=b) 1 (by omega) (by omega) (by omega);rw[show((2:Int)^1-1)=1 from rfl,show((2:Int)^1)=2 from rfl]at fa;rw[fa];exact ay (by omega) (by omega)
         rcases aK l with⟨c6,l⟩|⟨c6,l⟩
         ·clear c5;refine gO (S:= [11]) bm (j4 @t7 @t6 @hand @c6) @hm ?_;have hr:sg.ps.length≤70000:=by omega
          have hJ:¬D=u:=bs;have h6:=h5.wr (b:= .tok (sg.ps.length+1)) e2;have b5:(A4.set u (.tok (sg.ps.length+1))) D=some (.cells 149 [.sc (.bool sg.this),.an 49 (sg.ps.map cr) (.tok u) (decide (sg.ps= [])),.sc (.int .i64 sg.ret.kind),.sc (.int .i64 sg.ret.index),.sc (.int .i64 sg.ret.bt),.sc (.bool sg.ret.ref)]):=by rw[AS.ad _ _ bs];exact e3
          have a3:(A4.set u (.tok (sg.ps.length+1))) id6=some (.cells 53 [.sc (.string ⟨nm.toArray⟩),.sc (.int .i64 o),.sc (.int .i64 b),.ai,.sc (.int .i64 0),.sc (.int .i64 0),.sc (.int .i64 0),.sc (.bool false),.ai,.sc (.int .i64 c),.ai,.ai]):=by rw[AS.ad _ _ eg];exact e4
          have g0:B u=none:=by
           cases f7:B u with
           |none=>rfl
           |some yy=>have:=I _ _ f7;rw[dp]at this;cases this
          have a8:AS.le B (A4.set u (.tok (sg.ps.length+1))):=AS.ah (AS.le_trans I cb) g0;refine gO (S:= [16]) bm (j2 @t7 @tt) tI ?_;generalize (A4.set u (.tok (sg.ps.length+1)))=A5 at*;generalize (τ4.set u (.tok (sg.ps.length+1)))=τ5 at*;obtain⟨H,cs⟩:∃H,sg.ps++ [sg.ret]=H:=⟨_,rfl⟩;have b3:sg.ps.map cr++ [.agg [.sc (.int .i64 sg.ret.kind),.sc (.int .i64 sg.ret.index),.sc (.int .i64 sg.ret.bt),.sc (.bool sg.ret.ref)]]=H.map cr:=by rw[←cs];simp[Sg.aD]
          have hu:sg.ps.length+1=H.length:=by rw[←cs];simp
          have b4:(sg.ps.length:Int)+1=H.length:=by omega
          rw[b3,b4];rw[cs]at l;have hv:H.length≤7:=by omega
          obtain⟨W,hW⟩:∃W,oJ e.t0.length i H=W:=⟨_,rfl⟩;rw[hW]at l;clear b3 b4 hg b0 a5 Q O h3 h4 t7 t6 tt;refine ae.bp (α:=(Nat)×(AS)) ((0,τ5)) (fun⟨q,τ6⟩=>H.length-q) (fun⟨q,τ6⟩=>q≤H.length∧oJ e.t0.length i (H.drop q)=W∧LI k e { d with ms:=ms } A5 τ6) [(0,?_),(3,?_),(4,?_),(5,?_),(6,?_),(7,?_),(35,?_),(36,?_),(37,?_),(98,?_),(99,?_)] (fun⟨q,τ6⟩=> [(100,.sc (.int .i64 q))]) (fun⟨q,τ6⟩=>τ6) ?_ ?_ ?_ ?_;rotate_left 11
          ·exact gF tI
          ·exact gT
          ·exact⟨Nat.zero_le _,hW,h6⟩
          intro x_ av;obtain⟨q,τ6⟩:=x_;try dsimp only at av⊢
          obtain⟨hq,hV,h7⟩:=av;simp only[gj];by_cases ew:q<H.length
          ·have e5:H[q]? =some H[q]:=List.getElem?_eq_getElem ew;rw[List.drop_eq_getElem_cons ew]at hV;have ci:((q:Int)<H.length)=True:=by simp;omega
           generalize H[q]=t at hV e5;simp only[oJ]at hV;have wy:IntKind.i64.wrap ((q:Int)+1)=q+1:=ay (by omega) (by omega);refine gO (S:= [16]) bm (j3 @ci @e5 @Sg.aD) tI ?_;intro i11 b6;have h8:=h7.own (b:= .cells 49 (cr t).cells) b6;have b2:AS.le A5 (A5.set i11 (.cells 49 (cr t).cells)):=aq (h7.mP b6) (lR _);have ck:=h8.LX t 2 i (by omega) (by omega) (by omega);simp only[Sg.aD,aQ]at h8 b2 ck;have k4:(τ6.set i11 (.cells 49 [.sc (.int .i64 t.kind),.sc (.int .i64 t.index),.sc (.int .i64 t.bt),.sc (.bool t.ref)])) i11=some (.cells 49 [.sc (.int .i64 t.kind),.sc (.int .i64 t.index),.sc (.int .i64 t.bt),.sc (.bool t.ref)]):=AS.aj _ _ _;generalize (τ6.set i11 (.cells 49 [.sc (.int .i64 t.kind),.sc (.int .i64 t.index),.sc (.int .i64 t.bt),.sc (.bool t.ref)]))=τ8 at*;have h9:=h8.drop b2;rcases aK hV with⟨g5,hV⟩|⟨g5,hV⟩
           ·have a1:=RL.ok ck (v:=()) (by simp[dj,g5]);refine gO (S:= [16]) bm (j2 @k4 @wy) @a1 ?_;refine aP.mk ((q+1,τ8)) (by(try dsimp only);omega) (gF tI) gT ?_;try dsimp only
            exact⟨by omega,hV,h9⟩
           ·have a1:=RL.bad ck (e:=mF 5 2 i) (by simp[dj,g5]);rw[hV]at l;rw[←l]at g;refine gO (S:= [16]) bm (j2 @k4 @wy) @a1 ?_;refine eD ?_;intro τ9 n;exact im g.symm (AS.le_trans (AS.le_trans a8 h9.le) n)
          ·have ci:((q:Int)<H.length)=False:=by simp;omega
           have c8:H.drop q= []:=List.drop_eq_nil_iff.2 (by omega);rw[c8]at hV;simp only[oJ]at hV;rw[←hV]at l;simp only[dc]at l;have ec:=h7.le _ _ b5;have ee:=h7.le _ _ a3;have f0:=ej.symm;refine gO (S:= [16]) bm @ci tI ?_;try apply ae.seq
           refine Hi (α:=Unit) (fun _ =>True) (fun _ => [(0,.ptr k.id 0),(3,.an 3 (E.map aV) .aE (decide (E= []))),(4,.sc (.int .i64 i)),(5,uZ [a,b,c,x,y,z]),(6,.ptr id6 0),(35,.an 44 (e.t2.map uZ) .aE (decide (e.t2= []))),(36,.sc (.int .i64 e.t2.length)),(37,.sc (.int .i64 i))])
            (fun _ =>τ6.set id6 (.cells 53 [.sc (.string ⟨nm.toArray⟩),.sc (.int .i64 o),.sc (.int .i64 b),.an 49 (sg.ps.map cr) (.tok u) (decide (sg.ps= [])),.sc (.int .i64 sg.ret.kind),.sc (.int .i64 sg.ret.index),.sc (.int .i64 sg.ret.bt),.sc (.bool sg.ret.ref),.ai,.sc (.int .i64 c),.ai,.ai])) (fun _ _ =>rfl) ?_ ?_
           ·(((with_reducible apply ae.aR (id:=16) (t:=jg));(exact mixed);kernel_rfl;kernel_rfl;(repeat (with_reducible first|apply ak.then|apply ak.block|apply ak.body|apply ak.no)));simp-implicitDefEqProofs [ec,ee,f0])
            all_goals
             refine fV.mk (()) (gF @mA) (by(try dsimp only);exact lR _) ?_;try dsimp only
           ·intro _ _;refine ae.KQ id6 (nr nm o b sg c .ai .ai .ai) (AS.aj _ _ _) rfl (fun j hj=> ?_) ?_
            ·match j with
             |0=>exact Wk.refl _
             |1=>exact Wk.refl _
             |2=>exact Wk.refl _
             |3=>simp[nr]
             |j+4=>exact Wk.refl _
            rw[AS.set_set];have h8:=(h7.wr (b:= .cells 53 (nr nm o b sg c .ai .ai .ai)) a3).drop (kC a8);have dl:∀v,AS.le B (B.set id6 v):=fun v=>aq dn (lR _);have J:(B.set id6 (.cells 53 (nr nm o b sg c .ai .ai .ai))) id6=some (.cells 53 (nr nm o b sg c .ai .ai .ai)):=AS.aj _ _ _;generalize (τ6.set id6 (.cells 53 (nr nm o b sg c .ai .ai .ai)))=τ7 at h8⊢;clear b5 a3 ec ee h7 h6 a8 ca;have t6:=h8.le _ _ J;rw[BN]at t6;have F:=h8.id;rw[b8]at F;simp only[cx]at F;rcases aK l with⟨c7,l⟩|⟨c7,l⟩;rotate_left
            ·have c7:¬z≤d.lo.length:=by simpa using c7
             rw[l]at g;refine gO bm (j3 @mA @F @c7) @bad ?_;exact im g.symm (AS.le_trans (dl _) h8.le)
            have c7:z≤d.lo.length:=by simpa using c7
            refine gO (S:= [18]) bm (j3 @mA @F @c7) @hm ?_;have e0:∃ls,BZ d.lo z=ls:=⟨_,rfl⟩;obtain⟨ls,cl⟩:=e0;rw[cl]at l;refine UY (α:=Unit) (fun _ =>True) (fun _ => [(0,.ptr k.id 0),(3,.an 3 (E.map aV) .aE (decide (E= []))),(4,.sc (.int .i64 i)),(5,uZ [a,b,c,x,y,z]),(6,.ptr id6 0),(35,.an 44 (e.t2.map uZ) .aE (decide (e.t2= []))),(36,.sc (.int .i64 e.t2.length)),(37,.sc (.int .i64 i))])
             (fun _ =>τ7.set id6 (.cells 53 (nr nm o b sg c (Sg.qy ls) .ai .ai))) ?_ ?_
            ·by_cases hz:0<z
             ·obtain⟨j,ib⟩:∃j:Nat,z=(j+1:Nat):=⟨(z-1).toNat,by omega⟩;have hw:IntKind.i64.wrap (z-1)=j:=by rw[show z-1=j by omega];exact ay (by omega) (by omega)
              have bv:j<d.lo.length:=by omega
              have hg:d.lo[j]? =some d.lo[j]:=List.getElem?_eq_getElem bv;have c4:d.lo[j]=ls:=by rw[←cl];unfold BZ;rw[if_pos hz,show(z-1).toNat=j by omega,List.getD_eq_getElem?_getD,hg];rfl
              have hy:=e1 _ (List.getElem_mem bv);have c9:=fun σ=>Hm d.lo[j] (by omega) σ;rw[c4]at c9 hg;simp only[Sg.qy]at c9;have ei:¬id6=k.id:=fun e'=>by have:=h8.fr k.id (by simp);rw[←e']at this;simp at this
              have fz:¬k.id=id6:=fun e'=>ei e'.symm;repeat (first
               |(with_reducible first|apply ae.seq|apply ae.block|refine j2 (by first|omega|assumption|decide) ?_)
               |((first|(with_reducible first|apply ae.fork|apply ae.region|show aN _ _ _ |show aB _ _ _ _ _ _ _ _ _)|((with_reducible apply ae.aR (id:=7) (t:=iv));(exact mixed);kernel_rfl;kernel_rfl;(repeat (with_reducible first|apply ak.then|apply ak.block|apply ak.body|apply ak.no)))|((with_reducible apply ae.aR (id:=16) (t:=jg));(exact mixed);kernel_rfl;kernel_rfl;(repeat (with_reducible first|apply ak.then|apply ak.block|apply ak.body|apply ak.no)))|((with_reducible apply ae.aR (id:=17) (t:=lZ));(exact mixed);kernel_rfl;kernel_rfl;(repeat (with_reducible first|apply ak.then|apply ak.block|apply ak.body|apply ak.no)))|((with_reducible apply ae.aR (id:=19) (t:=lY));(exact mixed);kernel_rfl;kernel_rfl;(repeat (with_reducible first|apply ak.then|apply ak.block|apply ak.body|apply ak.no)))|((with_reducible apply ae.aR (id:=22) (t:=lX));(exact mixed);kernel_rfl;kernel_rfl;(repeat (with_reducible first|apply ak.then|apply ak.block|apply ak.body|apply ak.no)))|((with_reducible apply ag.id);first|apply ag.aC (c9 _)));simp-implicitDefEqProofs [mA,F,hz,hw,c4,bv,t6,Sg.qy])
               |((with_reducible first|apply ae.ret|apply ae.skip|apply ae.exit);try simp-implicitDefEqProofs [mA,F,hz,hw,hg,c4,bv,t6,ei,fz,Sg.qy]))
              refine fV.mk (()) (gF @mA) (by(try dsimp only);exact le_eq (by simp[nr])) ?_;try dsimp only
             ·have gs:ls= []:=by rw[←cl];unfold BZ;rw[if_neg hz]
              refine ae.KQ id6 (nr nm o b sg c (Sg.qy ls) .ai .ai) t6 rfl (fun j hj=> ?_) ?_
              ·match j with
               |0=>exact Wk.refl _
               |1=>exact Wk.refl _
               |2=>exact Wk.refl _
               |3=>exact Wk.refl _
               |4=>exact Wk.refl _
               |5=>exact Wk.refl _
               |6=>exact Wk.refl _
               |7=>exact Wk.refl _
               |8=>simp[nr,Sg.qy,gs]
               |j+9=>exact Wk.refl _
              refine gO bm (j2 @mA @hz) tI ?_;refine fV.mk (()) (gF @mA) (by(try dsimp only);exact lR _) ?_;try dsimp only
            ·intro _ _;have h9:=h8.wr (b:= .cells 53 (nr nm o b sg c (Sg.qy ls) .ai .ai)) J;rw[AS.set_set]at h9;generalize (τ7.set id6 (.cells 53 (nr nm o b sg c (Sg.qy ls) .ai .ai)))=τ8 at h9⊢;clear J t6 F h8;have J:(B.set id6 (.cells 53 (nr nm o b sg c (Sg.qy ls) .ai .ai))) id6=some (.cells 53 (nr nm o b sg c (Sg.qy ls) .ai .ai)):=AS.aj _ _ _;have t6:=h9.le _ _ J;refine ae.seq ?_;refine Sg.xk (α:=(List db×List Cl)×AS) (fun v=>mN e d.sp d.lo E (ms++ [⟨nm,o,b,sg.ps,decide (sg.ps= []),sg.ret,ls,decide (ls= []),c,v.1.1,decide (v.1.1= []),v.1.2,decide (v.1.2= [])⟩]) (i+1) (e.t2.drop (i+1))=Y∧
              LI k e { d with ms:=ms } (B.set id6 (.cells 53 (nr nm o b sg c (Sg.qy ls) (.an 110 (v.1.1.map aJ) .aE (decide (v.1.1= []))) (.an 158 (v.1.2.map ic) .aE (decide (v.1.2= [])))))) v.2)
              (fun _ => [(0,.ptr k.id 0),(3,.an 3 (E.map aV) .aE (decide (E= []))),(6,.ptr id6 0),(35,.an 44 (e.t2.map uZ) .aE (decide (e.t2= []))),(36,.sc (.int .i64 e.t2.length)),(37,.sc (.int .i64 i))]) (fun v=>v.2) ?_ ?_
             ·by_cases a6:0<a
              ·have hw:IntKind.i64.wrap (a-1)=a-1:=ay (by omega) (by omega);have e6:=h9.code (a-1) i id6 (by omega) f8 _ _ _ _ _ _ _ _ _ _ J B (dl _) dn;unfold tW at l;rw[if_pos a6]at l;rcases bD l with⟨Z,hC,l⟩|⟨f,hC,l⟩
               ·have de:=RL.ok e6 hC;refine gO bm (j3 @mA @a6 @hw) tI ?_;refine ag.of de ?_ (fun _ _ h=>h.elim);rintro r τ9 ⟨rfl,n⟩;rw[AS.set_set]at n;simp-implicitDefEqProofs;refine fV.mk ((Z,τ9)) (gF tI) (by(try dsimp only);exact lR _) ?_;try dsimp only
                exact⟨l,n⟩
               ·have de:=RL.bad e6 hC;rw[l]at g;refine gO bm (j3 @mA @a6 @hw) @de ?_;refine eD ?_;intro τ9 l9;exact im g.symm l9
              ·unfold tW at l;rw[if_neg a6]at l;simp only[dc]at l;refine ae.KQ id6 (nr nm o b sg c (Sg.qy ls) (.an 110 (([]:List db).map aJ) .aE (decide (([]:List db)= []))) (.an 158 (([]:List Cl).map ic) .aE (decide (([]:List Cl)= [])))) t6 rfl (fun j hj=> ?_) ?_
               ·match j with
                |0=>exact Wk.refl _
                |1=>exact Wk.refl _
                |2=>exact Wk.refl _
                |3=>exact Wk.refl _
                |4=>exact Wk.refl _
                |5=>exact Wk.refl _
                |6=>exact Wk.refl _
                |7=>exact Wk.refl _
                |8=>exact Wk.refl _
                |9=>exact Wk.refl _
                |10=>simp[nr]
                |11=>simp[nr]
                |j+12=>exact Wk.refl _
               have n:=h9.wr (b:= .cells 53 (nr nm o b sg c (Sg.qy ls) (.an 110 (([]:List db).map aJ) .aE (decide (([]:List db)= []))) (.an 158 (([]:List Cl).map ic) .aE (decide (([]:List Cl)= []))))) J;rw[AS.set_set]at n;refine gO bm (j2 @mA @a6) tI ?_;refine fV.mk ((([],[]),τ8.set id6 (.cells 53 (nr nm o b sg c (Sg.qy ls) (.an 110 (([]:List db).map aJ) .aE (decide (([]:List db)= []))) (.an 158 (([]:List Cl).map ic) .aE (decide (([]:List Cl)= []))))))) (gF tI) (by(try dsimp only);exact lR _) ?_;try dsimp only
               exact⟨l,n⟩
             ·rintro⟨Z,τ9⟩ ⟨l,n⟩;simp only at l n⊢;have t6:=n.le _ _ (AS.aj _ _ _);have g1:=n.Vj ⟨nm,o,b,sg.ps,decide (sg.ps= []),sg.ret,ls,decide (ls= []),c,Z.1,decide (Z.1= []),Z.2,decide (Z.2= [])⟩;have V:=n.id;have hF:=n.tM;have ch:=n.ne.2.2.2.1;have f3:=ch.symm;have m0:¬id6=k.id:=fun e'=>by have:=n.fr k.id (by simp);rw[←e']at this;simp at this
              have m4:¬id6=k.tM:=fun e'=>by have:=n.fr k.tM (by simp);rw[←e']at this;simp at this
              have f5:¬k.id=id6:=fun e'=>m0 e'.symm;have f4:¬k.tM=id6:=fun e'=>m4 e'.symm;have hT:ms.length≤70000:=by omega
              rw[b8]at V;rw[BN]at t6;simp only[cx]at V hF;repeat (first
               |(with_reducible first|apply ae.seq|apply ae.block|refine j2 (by first|omega|assumption|decide) ?_)
               |((first|(with_reducible first|apply ae.fork|apply ae.region|show aN _ _ _ |show aB _ _ _ _ _ _ _ _ _)|((with_reducible apply ae.aR (id:=7) (t:=iv));(exact mixed);kernel_rfl;kernel_rfl;(repeat (with_reducible first|apply ak.then|apply ak.block|apply ak.body|apply ak.no)))|((with_reducible apply ae.aR (id:=16) (t:=jg));(exact mixed);kernel_rfl;kernel_rfl;(repeat (with_reducible first|apply ak.then|apply ak.block|apply ak.body|apply ak.no)))|((with_reducible apply ae.aR (id:=17) (t:=lZ));(exact mixed);kernel_rfl;kernel_rfl;(repeat (with_reducible first|apply ak.then|apply ak.block|apply ak.body|apply ak.no)))|((with_reducible apply ae.aR (id:=19) (t:=lY));(exact mixed);kernel_rfl;kernel_rfl;(repeat (with_reducible first|apply ak.then|apply ak.block|apply ak.body|apply ak.no)))|((with_reducible apply ae.aR (id:=22) (t:=lX));(exact mixed);kernel_rfl;kernel_rfl;(repeat (with_reducible first|apply ak.then|apply ak.block|apply ak.body|apply ak.no))));simp-implicitDefEqProofs [t6,V,hF,ch,wi,Sg.qy])
               |((with_reducible first|apply ae.ret|apply ae.skip|apply ae.exit);try simp-implicitDefEqProofs [t6,V,hF,ch,f3,m0,f5,m4,f4,wi,Sg.qy]))
              refine aP.mk ((i+1,ms++ [⟨nm,o,b,sg.ps,decide (sg.ps= []),sg.ret,ls,decide (ls= []),c,Z.1,decide (Z.1= []),Z.2,decide (Z.2= [])⟩],(τ9.set k.tM (.tok (ms.length+1))).set k.id (.cells 108 (C2 k e { d with ms:=ms++ [⟨nm,o,b,sg.ps,decide (sg.ps= []),sg.ret,ls,decide (ls= []),c,Z.1,decide (Z.1= []),Z.2,decide (Z.2= [])⟩] } 0)))) (by(try dsimp only);omega) (gF tI) (by(try dsimp only);exact le_eq (by rw[b8];simp[cY,cx])) ?_;try dsimp only
              exact⟨by omega,by simp[gc],l,g1.drop (dl _)⟩
         ·rw[l]at g;refine gO bm (j4 @t7 @t6 @hand @c6) (j2 @hm @bad) ?_;exact im g.symm ca
        ·have c5:¬cD (eP bb)=0:=by simpa using c5
         rw[l]at g;generalize lk (eP bb)=sg at b0;simp only[Sg.KR,Sg.qy]at b0;refine gO bm @mA (j2 @a5 @b0) ?_;intro D T;refine gO bm @c5 @bad ?_;exact im g.symm (AS.le_trans (AS.le_trans I h3.le) (aq T (lR _)))
       ·have a5:=RL.bad e7 b1;rw[l]at g;refine gO bm @mA @a5 ?_;refine eD ?_;intro τ5 h5;exact im g.symm (AS.le_trans (AS.le_trans I h3.le) h5)
     ·have Q:=RL.bad et hN;rw[l]at g;refine gO (S:= [7]) bm (j5 hI @L @mA @G @c2) @hm ?_;try apply ae.seq
      have O:=fun j x' (hj:τ1 j=none)=>RL.bad ((h2.own (b:=x') hj).name x ac.1 ac.2) hN
      (((with_reducible apply ae.aR (id:=7) (t:=iv));(exact mixed);kernel_rfl;kernel_rfl;(repeat (with_reducible first|apply ak.then|apply ak.block|apply ak.body|apply ak.no)));simp-implicitDefEqProofs [a4,a2,aG])
      repeat' (first
       |(with_reducible apply j2)
       |(intro id6 U;try simp-implicitDefEqProofs [M,a4,a2,mA,aG])
       |(refine ag.Db Q ?_;intro τ2 h3;try simp-implicitDefEqProofs)
       |(refine ag.Db (O _ _ (by assumption)) ?_;intro τ2 h3;try simp-implicitDefEqProofs))
      all_goals first
       |exact im g.symm (AS.le_trans h2.le h3)
       |exact im g.symm (AS.le_trans (AS.le_trans h2.le (aq (by assumption) (lR _))) h3)
    ·rw[l]at g;by_cases G:b≤31
     ·have c2:¬c≤12:=by intro hh;simp[G,hh]at c0
      refine gO bm (j5 hI @L @mA @G @c2) @bad ?_;exact im g.symm h2.le
     ·refine gO bm (j4 hI @L @mA @G) @bad ?_;exact im g.symm h2.le
   ·have hI:((i:Int)<e.t2.length)=False:=by simp;omega
    have c8:e.t2.drop i= []:=List.drop_eq_nil_iff.2 (by omega);rw[c8]at l;simp only[mN]at l;rw[←l]at g;refine gO bm hI tI ?_;exact⟨.bQ [],τ1,Wk.refl _,lR _,ms,g.symm,rfl,h2⟩
  ·have a0:=RL.bad cj hO;refine gO bm tI @a0 ?_;refine eD ?_;intro τ2 h2;exact im g (AS.le_trans h.le h2)
end Im
end Go.Proofs.YtknalmoackcpbaaGreat
