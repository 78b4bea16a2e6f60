/- Chapter 05: what the program's own functions give, told without owners; the examples hold. -/
import Derived.Test.YtknalmoackcpbaaGreatSv6
set_option maxRecDepth 100000
set_option maxHeartbeats 3200000
set_option linter.all false
namespace Go.Proofs.YtknalmoackcpbaaGreat
namespace Sg
open Go Go.AW
theorem yq {P:Program}{f:FuncId}{args:List AV}{σ:AS}{g:Nat→AV}{n:Nat}{v:AV}(h:aa P f args σ (la g n σ) No) (hw:∀i,AV.Wk P (g i) v):aa P f args σ (ao v σ) No:=
 ⟨h.body,fun G w vals l j=>(h.run G w vals l j).mono fun e w' he=>by
  unfold kS at he⊢;split at he
  ·obtain⟨G',σ',r,a,b,c,i,h0,rfl,rfl⟩:=he;exact⟨G',σ,v,a,b.weaken (AS.ah (AS.le_refl _) h0),hw i _ _ c,rfl,rfl⟩
  ·obtain⟨x,y,G',σ',r,a,b,c,d⟩:=he;exact d.elim
  ·exact he.elim⟩
theorem AK (b:List UInt8) (i:b≠ []) (h:Nat):AV.Wk Tryz.prog (.bQ [.an 5 (b.map u8) (.tok h) false,.sc (.int .i64 0)]) (.bQ [bL b,.sc (.int .i64 0)]):=cq (M8 _ _ _ (by simp[i])) (Wk.refl _)
def mC (t:Ty):Except Int (List UInt8):=if bo t=true then .ok (eN t)else .error 17
def lp (t:Ty):Except Int (List UInt8):=if dm t=true then .ok (6::eN t)else .error 17
theorem NT (t:Ty):eN t≠ []:=by
 unfold eN lL;intro h;have i:=(List.append_eq_nil_iff.1 (List.append_eq_nil_iff.1 h).2).2;revert i
 repeat' split
 all_goals simp
theorem KL (t:Ty) (σ:AS):aa Tryz.prog 64 [cr t] σ (ao (.bQ [bL (cN (mC t)),.sc (.int .i64 (cD (mC t)))]) σ) No:=by
 unfold mC;by_cases h:bo t=true
 ·rw[if_pos h];exact yq (PF t h σ) fun i=>AK _ (NT t) i
 ·rw[if_neg h];exact(Na t (by simpa using h) σ).told (cq qT (Wk.refl _))
theorem mu (t:Ty) (σ:AS):aa Tryz.prog 62 [cr t] σ (ao (.bQ [bL (cN (lp t)),.sc (.int .i64 (cD (lp t)))]) σ) No:=by
 unfold lp;by_cases h:dm t=true
 ·rw[if_pos h];exact yq (qo t h σ) fun i=>AK _ (by simp) i
 ·rw[if_neg h];exact(oX t (by simpa using h) σ).told (cq qT (Wk.refl _))
theorem qn (l:List Ty) (o:cL) (nl:Bool) (hl:l.length≤100000) (σ:AS):aa Tryz.prog 65 [.an 49 (l.map cr) o nl] σ
 (ao (.bQ [bL (cN (dW l)),.sc (.int .i64 (cD (dW l)))]) σ) No:=by
 unfold dW;by_cases h:12<l.length
 ·rw[if_pos h];exact(xF l o nl h (by omega) σ).told (cq qT (Wk.refl _))
 ·rw[if_neg h];by_cases i:l.all bE=true
  ·rw[if_pos i];exact yq (AN l o nl (by omega) i σ) fun j=>AK _ (by simp[HO]) j
  ·rw[if_neg i];exact(ym l o nl (by omega) (by simpa using i) σ).told (cq qT (Wk.refl _))
theorem CR (i:Bool) (l:List Ty) (r:Ty) (o:cL) (nl:Bool) (hl:l.length≤100000) (σ:AS):
 aa Tryz.prog 137 [.agg [.sc (.bool i),.an 49 (l.map cr) o nl,.sc (.int .i64 r.kind),.sc (.int .i64 r.index),.sc (.int .i64 r.bt),.sc (.bool r.ref)]] σ
 (ao (.bQ [bL (cN (hU ⟨i,l,r⟩)),.sc (.int .i64 (cD (hU ⟨i,l,r⟩)))]) σ) No:=by
 unfold hU;by_cases h:6<l.length
 ·rw[if_pos h];exact(CQ i l r o nl h (by omega) σ).told (cq qT (Wk.refl _))
 ·rw[if_neg h];by_cases j:(l.all bE&&dB r)=true
  ·rw[if_pos j];exact yq (HH i l r o nl (by omega) j σ) fun q=>AK _ (by simp[ER]) q
  ·rw[if_neg j];exact(Ey i l r o nl (by omega) (by simpa using j) σ).told (cq qT (Wk.refl _))
end Sg
namespace Im
open Go Go.AW
theorem mv (S:List Nat):aH Tryz.prog [(6,(.step 0 (.step 1 (.step 2 (.step 3 (.read 4 (.alt 5 (.step 6 .done) .none)))))))] S:=mixed
open Sg (aD bL CR cN cD hU)
open Pl (sV)
open Rg (Cl ic aW)
open Cd (oO eW rj cz eH)
open Bd (R6 dz cm dd)
def v7 (sp:List Ty) (co:List UInt8) (m:Mt):List Ty×List UInt8×Int:=
 if m.code= []then(sp,co,0)else(zy sp m,qZ co (xR sp m)++xR sp m,(qZ co (xR sp m)).length+1)
def CX (lo:List (List Ty)) (m:Mt):List (List Ty)×Int:=if m.ls= []then(lo,0)else(nG lo m.ls,rF lo m.ls)
def CY (m:Mt):Sg.Sg:=⟨decide (m.flags%2=0),m.ps,m.ret⟩
structure PG (sp:List Ty) (m:Mt):Prop where
 code:m.code.length≤160
 cls:m.cls.length≤100
 cn:m.cn=true→m.code= []
 ln:m.ln=true→m.ls= []
 C:m.code≠ []→ ∀c∈m.cls,Nc (AT sp m) c
 W:m.code≠ []→dd (EL sp m) (N3 sp m)=true
 fl:0≤m.flags∧m.flags≤31
 ps:m.ps.length≤100000
 ls:m.ls.length≤1000
variable {k:SK} {g:bZ} {d:SD} {T:SR} {B τ:AS}
theorem SI.body (h:SI k g d T B τ) (m:Mt) (hm:PG d.sp m) (hd:d.sp.length≤80000) (j:d.co.length≤100000000):
 aa Tryz.prog 136 [.ptr k.aT 0,jK m] τ (fun r l=>r= .sc (.int .i64 (v7 d.sp d.co m).2.2)∧SI k g { d with sp:=(v7 d.sp d.co m).1,co:=(v7 d.sp d.co m).2.1 } T B l) No:=by
 by_cases i:m.code= []
 ·have:=h.R7 m i;simp only[v7,i,if_true];exact this
 ·have:=h.R5 m (List.length_pos_iff.2 i) hm.code hm.cls hm.cn (hm.C i) (hm.W i) hd j;simp only[v7,if_neg i];exact this
def W9 (k:SK) (g:bZ) (d:SD) (T:SR) (B:AS) (m:Mt) (r:AV) (i:AS):Prop:=
 r= .bQ []∧ ∃h,SI k g ⟨(v7 d.sp d.co m).1,(CX d.lo m).1,d.nm++ [m.name],d.bl++ [cN (hU (CY m))],(v7 d.sp d.co m).2.1⟩ h B i∧
  cJ h=(cJ T).modify 2 (· ++ [[(v7 d.sp d.co m).2.2,m.flags,m.max,(d.nm.length:Int),(d.bl.length:Int),(CX d.lo m).2]])
theorem SI.method (h:SI k g d T B τ) (m:Mt) (hm:PG d.sp m) (hd:d.sp.length≤80000) (J:d.co.length≤100000000) (am:d.nm.length≤90000) (a1:d.bl.length≤90000) (ap:d.lo.length≤90000) (u:∀x∈d.lo,x.length≤1000000) (hT:∀y∈cJ T,y.length≤90000):
 aa Tryz.prog 63 [.ptr k.aT 0,jK m] τ (W9 k g d T B m) No:=by
 have av:=hm.fl;have hand:IntKind.i64.wrap (lF 64 m.flags 1)=m.flags%2:=by have h1:=jA (w:=64) (a:=m.flags) 1 (by omega) (by omega) (by omega);rw[show((2:Int)^1-1)=1 from rfl,show((2:Int)^1)=2 from rfl]at h1;rw[h1];exact ay (by omega) (by omega)
 have H:=fun σ=>CR (decide (m.flags%2=0)) m.ps m.ret .aE m.pn hm.ps σ;refine aa.ob Tryz.func63 ?_;simp only[cY];refine gO mv tI tI ?_;intro id3 j;have Y:=h.own (b:= .cells 53 (jK m).cells) j;simp only[cY,aQ]at Y;have o:=AS.ah (b:= .cells 53 (jK m).cells) (lR B) (h.mP j);have q:(B.set id3 (.cells 53 (jK m).cells)) id3=some (.cells 53 (jK m).cells):=AS.aj _ _ _;simp only[cY,aQ]at q o;generalize (B.set id3 (.cells 53 [.sc (.string ⟨m.name.toArray⟩),.sc (.int .i64 m.owner),.sc (.int .i64 m.flags),.an 49 (m.ps.map cr) .aE m.pn,.sc (.int .i64 m.ret.kind),.sc (.int .i64 m.ret.index),.sc (.int .i64 m.ret.bt),.sc (.bool m.ret.ref),.an 49 (m.ls.map cr) .aE m.ln,.sc (.int .i64 m.max),.an 110 (m.code.map aJ) .aE m.cn,.an 158 (m.cls.map ic) .aE m.xn]))=A at*;have U:=Y.body m hm hd J;simp only[cY]at U;refine gO mv tI tI ?_;refine ag.of U ?_ (fun _ _ h=>h.elim);rintro r τ1 ⟨rfl,X⟩;have r3:=X.le _ _ q;simp-implicitDefEqProofs;refine gO mv @r3 tI ?_;refine ag.of (X.name m.name (by simp only;omega)) ?_ (fun _ _ h=>h.elim);rintro r τ2 ⟨rfl,V⟩;have r4:=V.le _ _ q;simp-implicitDefEqProofs;refine gO mv (j2 @r4 @hand) @H ?_;refine ag.of (V.yi (cN (hU (CY m))) _ (by simp only;omega)) ?_ (fun _ _ h=>h.elim);rintro r τ3 ⟨rfl,K⟩;have F:=K.le _ _ q;simp-implicitDefEqProofs;refine gO (S:= [5]) mv tI tI ?_;have ar:((0:Int)<m.ls.length)=(m.ls≠ []):=by rw[←List.length_pos_iff];simp
 (with_reducible apply ae.region);simp-implicitDefEqProofs [F]
 repeat (with_reducible refine j2 (by first|omega|assumption|decide) ?_)
 try (with_reducible apply ae.seq)
 refine Sg.xk (α:=AS) (fun v=>SI k g ⟨(v7 d.sp d.co m).1,(CX d.lo m).1,d.nm++ [m.name],d.bl++ [cN (hU (CY m))],(v7 d.sp d.co m).2.1⟩ T A v) (fun v=> [(0,.ptr k.aT 0),(3,.ptr id3 0),(4,.sc (.int .i64 (v7 d.sp d.co m).2.2)),(5,.sc (.int .i64 d.nm.length)),(6,.sc (.int .i64 d.bl.length)),(7,.sc (.int .i64 (CX d.lo m).2))]) (fun v=>v) ?_ ?_
 ·by_cases i:m.ls= []
  ·have G:CX d.lo m=(d.lo,0):=by simp[CX,i]
   rw[G];have O:¬(0<m.ls.length):=by rw[i];simp
   refine gO mv @i tI ?_;refine fV.mk (τ3) (gF tI) (by(try dsimp only);exact lR _) ?_;try dsimp only
   exact K
  ·have G:CX d.lo m=(nG d.lo m.ls,rF d.lo m.ls):=by simp[CX,i]
   rw[G];have D:m.ln=false:=by
    cases hc:m.ln with
    |false=>rfl
    |true=>exact absurd (hm.ln hc) i
   have O:0<m.ls.length:=List.length_pos_iff.2 i;have l:=K.Uc m.ls (by have:=hm.ls;omega) u (by simp only;omega);simp only[jl,i,decide_false]at l;rw[D]at F;refine gO mv (j3 @F @O @D) tI ?_;refine ag.of l ?_ (fun _ _ h=>h.elim);rintro r L ⟨rfl,E⟩;simp-implicitDefEqProofs;refine fV.mk (L) (gF tI) (by(try dsimp only);exact lR _) ?_;try dsimp only
   exact E
 ·intro L E;have r6:=E.le _ _ q
  with_reducible apply ae.eX
  refine br.first 9 ?_;simp-implicitDefEqProofs [r6];refine br.sp rfl (il.ml ?_ ?_)
  ·decide
  simp-implicitDefEqProofs [bH,ig,az];intro id I;have M:=E.uw (t:=2) (vals:= [(v7 d.sp d.co m).2.2,m.flags,m.max,(d.nm.length:Int),(d.bl.length:Int),(CX d.lo m).2]) (by omega) I (qA fun y hy=>Nat.le_trans (hT y hy) (by omega));simp only[List.map_cons,List.map_nil,aG,List.length_cons,List.length_nil,Nat.reduceAdd,Int.cast_ofNat_Int]at M;refine br.rest ?_;simp-implicitDefEqProofs;refine ag.of M ?_ (fun _ _ h=>h.elim);rintro r Z ⟨rfl,h8⟩;simp-implicitDefEqProofs;refine⟨_,Z,Wk.refl _,lR _,rfl,_,h8.drop o,lJ _ _ _⟩
end Im
end Go.Proofs.YtknalmoackcpbaaGreat
namespace Go.Proofs.YtknalmoackcpbaaGreat
namespace Im
open Go Go.AW
open Sg (aD bL cN cD lp mC dW KL mu qn)
open Pl (sV)
structure Sv where
 sp:List Ty
 lo:List (List Ty)
 co:List UInt8
def od:Sv:=⟨[],[],[]⟩
def qB (s:Sv) (m:Mt):Sv×Int×Int:=(⟨(v7 s.sp s.co m).1,(CX s.lo m).1,(v7 s.sp s.co m).2.1⟩,(v7 s.sp s.co m).2.2,(CX s.lo m).2)
def dM:Sv→List Mt→Sv×List (Int×Int)
 |s,[]=>(s,[])
 |s,m::r=>((dM (qB s m).1 r).1,(qB s m).2::(dM (qB s m).1 r).2)
theorem rZ:∀(l r:List Mt) (s:Sv),dM s (l++r)=((dM (dM s l).1 r).1,(dM s l).2++(dM (dM s l).1 r).2)
 |[],r,s=>rfl
 |m::l,r,s=>by simp[dM,rZ l r]
theorem dT:∀(l:List Mt) (s:Sv),(dM s l).2.length=l.length
 |[],s=>rfl
 |m::l,s=>by simp[dM,dT l]
def ru (g:bZ) (nm:Nat→Int) (k:Nat) (t:TD):List Int:= [t.flags,nm k,4*(t.ext+1),fq (g.fs.map (·.owner)) k,fq (g.ms.map (·.owner)) k]
def uR (g:bZ) (nm bl:Nat→Int) (i:Nat) (f:Fd):List Int:= [if f.stat=true then 1 else 0,nm (g.ts.length+i),bl i]
def sk (g:bZ) (nm bl:Nat→Int) (i:Nat) (x:Mt×Int×Int):List Int:= [x.2.1,x.1.flags,x.1.max,nm (g.ts.length+g.fs.length+i),bl (g.fs.length+i),x.2.2]
def qh (b:Nat) (bl:Nat→Int) (i:Nat):List Int:= [bl (b+i)]
def cI (g:bZ) (nm:Nat→Int):List (List Int):=g.ts.mapIdx (ru g nm)
def du (g:bZ):List (List (List Int)):=g.ts.mapIdx gg
def cF (g:bZ) (nm bl:Nat→Int):List (List Int):=g.fs.mapIdx (uR g nm bl)
def cK (g:bZ) (nm bl:Nat→Int):List (List Int):=(g.ms.zip (dM od g.ms).2).mapIdx (sk g nm bl)
def dI (i:Nat):Int:=i
variable {k:SK} {g:bZ} {d:SD} {T:SR} {B τ:AS}
def zp (k:SK) (g:bZ) (B:AS) (i:Nat) (j:AS):Prop:= ∃h,SI k g ⟨[],[],(g.ts.take i).map (·.name),[],[]⟩ h B j∧cJ h= [(cI g dI).take i,[],[],((du g).take i).flatten,[],[]]
def zo (k:SK) (g:bZ) (B:AS) (i:Nat) (j:AS):Prop:= ∃h,SI k g ⟨[],[],g.ts.map (·.name)++(g.fs.take i).map (·.name),(g.fs.take i).map (fun f=>cN (lp f.ty)),[]⟩ h B j∧cJ h= [cI g dI,(cF g dI dI).take i,[],(du g).flatten,[],[]]
def C1 (g:bZ) (i:Nat):List (List UInt8):=g.ts.map (·.name)++g.fs.map (·.name)++(g.ms.take i).map (·.name)
def HP (g:bZ) (i:Nat):List (List UInt8):=g.fs.map (fun f=>cN (lp f.ty))++(g.ms.take i).map (fun m=>cN (Sg.hU (CY m)))
def uY (k:SK) (g:bZ) (B:AS) (i:Nat) (j:AS):Prop:= ∃h,SI k g ⟨(dM od (g.ms.take i)).1.sp,(dM od (g.ms.take i)).1.lo,C1 g i,HP g i,(dM od (g.ms.take i)).1.co⟩ h B j∧
 cJ h= [cI g dI,cF g dI dI,(cK g dI dI).take i,(du g).flatten,[],[]]
def dJ (g:bZ):Sv:=(dM od g.ms).1
def HQ (g:bZ):List (List UInt8):=HP g g.ms.length
def dN (g:bZ) (bl:Nat→Int):List (List Int):=(List.range (dJ g).sp.length).map (qh (g.fs.length+g.ms.length) bl)
def eC (g:bZ) (bl:Nat→Int):List (List Int):=(List.range (dJ g).lo.length).map (qh (g.fs.length+g.ms.length+(dJ g).sp.length) bl)
def CW (k:SK) (g:bZ) (B:AS) (i:Nat) (j:AS):Prop:= ∃h,SI k g ⟨(dJ g).sp,(dJ g).lo,C1 g g.ms.length,HQ g++((dJ g).sp.take i).map (fun t=>cN (mC t)),(dJ g).co⟩ h B j∧
 cJ h= [cI g dI,cF g dI dI,cK g dI dI,(du g).flatten,(dN g dI).take i,[]]
def Ee (g:bZ):List (List UInt8):=HQ g++(dJ g).sp.map (fun t=>cN (mC t))
def F1 (k:SK) (g:bZ) (B:AS) (i:Nat) (j:AS):Prop:= ∃h,SI k g ⟨(dJ g).sp,(dJ g).lo,C1 g g.ms.length,Ee g++((dJ g).lo.take i).map (fun t=>cN (dW t)),(dJ g).co⟩ h B j∧
 cJ h= [cI g dI,cF g dI dI,cK g dI dI,(du g).flatten,dN g dI,(eC g dI).take i]
structure rW (g:bZ):Prop where
 ts:g.ts.length≤32
 fs:g.fs.length≤64
 ms:g.ms.length≤64
 t:∀t∈g.ts,(-1≤t.ext∧t.ext≤32)∧t.aZ.length≤4∧ ∀x∈t.aZ,0≤x∧x≤32
 m:∀i (h:i<g.ms.length),PG (dM od (g.ms.take i)).1.sp g.ms[i]
 sp:∀i,(dM od (g.ms.take i)).1.sp.length≤20000
 lo:∀i,(dM od (g.ms.take i)).1.lo.length≤64
 lA:∀i,∀x∈(dM od (g.ms.take i)).1.lo,x.length≤1000
 co:∀i,(dM od (g.ms.take i)).1.co.length≤100000000
 en: -1≤g.entry∧g.entry≤64
theorem kF {α β:Type}(f:Nat→α→β) (l:List α) {i:Nat}(h:i<l.length):(l.mapIdx f).take (i+1)=(l.mapIdx f).take i++ [f i l[i]]:=by rw[List.take_succ_eq_append_getElem (by simpa using h)];simp
theorem uf {g:bZ}(h:rW g) (i:Nat):(((du g).take i).flatten).length≤4*i:=by
 induction i with
 |zero=>simp
 |succ i l=>
  by_cases j:i<g.ts.length
  ·have:=kF gg g.ts j;have q:=(h.t g.ts[i] (List.getElem_mem j)).2.1;unfold du at l⊢;rw[this,List.flatten_append,List.length_append];have o:([gg i g.ts[i]].flatten).length=g.ts[i].aZ.length:=by simp[gg]
   omega
  ·have e:(du g).take (i+1)=(du g).take i:=by
    have:(du g).length=g.ts.length:=by simp[du]
    rw[List.take_of_length_le (by omega),List.take_of_length_le (by omega)]
   rw[e];omega
theorem SI.Vf (l:rW g) (i:Nat) (j:i<g.ts.length) (h:zp k g B i τ):aa Tryz.prog 58 [.ptr k.aT 0,.sc (.int .i64 i),kE g.ts[i]] τ (fun r q=>r= .bQ []∧zp k g B (i+1) q) No:=by
 obtain⟨H,E,v⟩:=h;have ht:=l.t g.ts[i] (List.getElem_mem j);have A:=l.ts;have D:=uf l i;refine(E.Wa i g.ts[i] (by omega) (by omega) (by omega) (fun x w=>by have:=ht.2.2 x w;omega) (by simp;omega) ?_ (by have:=l.fs;omega) (by have:=l.ms;omega)).mono ?_ (fun _ _ h=>h)
 ·rw[v];intro y u;simp only[List.mem_cons,List.not_mem_nil,or_false]at u;rcases u with rfl|rfl|rfl|rfl|rfl|rfl
  ·simp[cI];omega
  ·simp
  ·simp
  ·omega
  ·simp
  ·simp
 ·rintro r q ⟨rfl,G,F,o⟩;refine⟨rfl,G,?_,?_⟩
  ·rw[List.take_succ_eq_append_getElem j,List.map_append];exact F
  ·rw[o,v];unfold cI du;rw[kF _ _ j,kF _ _ j,List.flatten_append];simp[ru,dI,Nat.min_eq_left (Nat.le_of_lt j)]
end Im
end Go.Proofs.YtknalmoackcpbaaGreat
namespace Go.Proofs.YtknalmoackcpbaaGreat
namespace Im
open Go Go.AW
abbrev kz:b7:=(.step 0 (.step 1 (.step 2 (.step 3 (.step 6 (.step 7 (.read 4 (.alt 5 (.read 8 (.alt 9 (.step 10 (.step 11 (.alt 12 (.spec 13 (.alt 14 .done .none) .none) .none))) .none)) (.alt 8 (.alt 5 (.alt 9 (.step 10 (.step 11 (.alt 12 (.spec 13 (.alt 14 .done .none) .none) .none))) .none) .none) .none)))))))))
theorem cS (S:List Nat):aH Tryz.prog [(11,kz)] S:=mixed
open Sg (aD bL cN cD lp mC dW KL mu qn)
open Pl (sV)
variable {k:SK} {g:bZ} {d:SD} {T:SR} {B τ:AS}
def De (g:bZ):SD:=⟨(dJ g).sp,(dJ g).lo,C1 g g.ms.length,Ee g++(dJ g).lo.map (fun t=>cN (dW t)),(dJ g).co⟩
def Vu (k:SK) (g:bZ) (B:AS) (r:AV) (j:AS):Prop:=
 r= .bQ []∧ ∃i h,SI k g (De g) i B h∧cJ i= [cI g dI,cF g dI dI,cK g dI dI,(du g).flatten,dN g dI,eC g dI]∧j=h.set k.aT (.cells 74 (vZ k g (De g) (g.entry+1)))
theorem zo.z (h:zp k g B g.ts.length τ):zo k g B 0 τ:=by obtain⟨l,j,i⟩:=h;refine⟨l,by simpa using j,?_⟩;rw[i,List.take_of_length_le (by simp[cI]),List.take_of_length_le (by simp[du])];simp
theorem Hi {P:Program}{n:Nat}{ds:List Deferred}{Q R:AQ}{s:Fr}{σ:AS}{α:Type}{x y:Code}(I:α→Prop) (fr:α→List (Nat×AV)) (st:α→AS) (j:∀s σ,R .normal s σ=ae P n ds y Q s σ) (h1:ae P n ds x (dP (Sg.fV P I fr st) R) s σ)
 (l:∀v,I v→ae P n ds y Q (jJ (fr v)) (st v)):ae P n ds x R s σ:=by
 refine h1.mono fun e o σ' h=> ?_;cases e with
 |normal=>obtain⟨v,i1,i2,i3⟩:=h;rw[j];exact(l v i1).weaken i2 i3
 |exit i=>exact h
 |ret=>exact h
 |panic p=>exact h
theorem uY.z (h:zo k g B g.fs.length τ):uY k g B 0 τ:=by obtain⟨l,j,i⟩:=h;refine⟨l,by simpa[dM,od,C1,HP]using j,?_⟩;rw[i,List.take_of_length_le (by simp[cF])];simp
theorem CW.z (h:uY k g B g.ms.length τ):CW k g B 0 τ:=by obtain⟨l,j,i⟩:=h;refine⟨l,by simpa[dJ,HQ]using j,?_⟩;rw[i,List.take_of_length_le (by simp[cK,dT])];simp
theorem F1.z (h:CW k g B (dJ g).sp.length τ):F1 k g B 0 τ:=by obtain⟨l,j,i⟩:=h;refine⟨l,by simpa[Ee]using j,?_⟩;rw[i,List.take_of_length_le (by simp[dN])];simp
theorem BM {g:bZ}{i:Nat}(h:i<g.ms.length):(cK g dI dI).take (i+1)=(cK g dI dI).take i++ [sk g dI dI i (g.ms[i],(qB (dM od (g.ms.take i)).1 g.ms[i]).2)]:=by
 have l:i<(g.ms.zip (dM od g.ms).2).length:=by simp[dT,h]
 have:=kF (sk g dI dI) (g.ms.zip (dM od g.ms).2) l;unfold cK;rw[this];congr 2;have hm:(dM od g.ms).2[i]'(by rw[dT];exact h)=(qB (dM od (g.ms.take i)).1 g.ms[i]).2:=by
  have h1:g.ms=g.ms.take i++g.ms[i]::g.ms.drop (i+1):=by
   conv=>lhs;rw[←List.take_append_drop i g.ms,List.drop_eq_getElem_cons h]
  have j:=rZ (g.ms.take i) (g.ms[i]::g.ms.drop (i+1)) od;rw[←h1]at j;have hl:(dM od (g.ms.take i)).2.length=i:=by rw[dT];simp;omega
  have o:(dM od g.ms).2[i]? =some (qB (dM od (g.ms.take i)).1 g.ms[i]).2:=by rw[j];simp only;rw[List.getElem?_append_right (by omega),hl];simp[dM]
  exact(List.getElem?_eq_some_iff.1 o).2
 rw[List.getElem_zip,hm]
theorem yr {g:bZ}{i:Nat}(h:i<g.ms.length):(dM od (g.ms.take (i+1))).1=(qB (dM od (g.ms.take i)).1 g.ms[i]).1:=by rw[List.take_succ_eq_append_getElem h,rZ];rfl
theorem SI.Ve (j:rW g) (i:Nat) (l:i<g.ms.length) (h:uY k g B i τ):aa Tryz.prog 63 [.ptr k.aT 0,jK g.ms[i]] τ (fun r w=>r= .bQ []∧uY k g B (i+1) w) No:=by
 obtain⟨O,I,D⟩:=h;have F:=j.ts;have H:=j.fs;have G:=j.ms;have q:=uf j g.ts.length;rw[List.take_of_length_le (by simp[du])]at q;have o:(C1 g i).length=g.ts.length+g.fs.length+i:=by simp[C1];omega
 have u:(HP g i).length=g.fs.length+i:=by simp[HP];omega
 refine(I.method g.ms[i] (j.m i l) (by have:=j.sp i;simp only;omega) (by have:=j.co i;simp only;omega) (by simp only;omega) (by simp only;omega) (by have:=j.lo i;simp only;omega) (fun x E=>by have:=j.lA i x E;omega) ?_).mono ?_ (fun _ _ h=>h)
 ·rw[D];intro y A;simp only[List.mem_cons,List.not_mem_nil,or_false]at A;rcases A with rfl|rfl|rfl|rfl|rfl|rfl
  ·simp[cI];omega
  ·simp[cF];omega
  ·simp;omega
  ·omega
  ·simp
  ·simp
 ·rintro r w ⟨rfl,M,J,v⟩;refine⟨rfl,M,?_,?_⟩
  ·rw[yr l];have L:C1 g (i+1)=C1 g i++ [g.ms[i].name]:=by unfold C1;rw[List.take_succ_eq_append_getElem l,List.map_append,←List.append_assoc];rfl
   have K:HP g (i+1)=HP g i++ [cN (Sg.hU (CY g.ms[i]))]:=by unfold HP;rw[List.take_succ_eq_append_getElem l,List.map_append,←List.append_assoc];rfl
   rw[L,K];exact J
  ·rw[v,D,BM l];simp only[o,u];simp[sk,dI,qB]
theorem qQ (g:bZ):(HQ g).length=g.fs.length+g.ms.length:=by simp[HQ,HP]
theorem MP {g:bZ}{i:Nat}(h:i≤(dJ g).sp.length):(HQ g++((dJ g).sp.take i).map (fun t=>cN (mC t))).length=g.fs.length+g.ms.length+i:=by rw[List.length_append,qQ];simp;omega
theorem Kq {g:bZ}{i:Nat}(h:i<(dJ g).sp.length):HQ g++((dJ g).sp.take (i+1)).map (fun t=>cN (mC t))=HQ g++((dJ g).sp.take i).map (fun t=>cN (mC t))++ [cN (mC (dJ g).sp[i])]:=by rw[List.take_succ_eq_append_getElem h,List.map_append,←List.append_assoc];rfl
theorem MO {g:bZ}{i:Nat}(h:i≤(dJ g).lo.length):(Ee g++((dJ g).lo.take i).map (fun t=>cN (dW t))).length=g.fs.length+g.ms.length+(dJ g).sp.length+i:=by rw[List.length_append,Ee,List.length_append,qQ];simp;omega
theorem Ko {g:bZ}{i:Nat}(h:i<(dJ g).lo.length):Ee g++((dJ g).lo.take (i+1)).map (fun t=>cN (dW t))=Ee g++((dJ g).lo.take i).map (fun t=>cN (dW t))++ [cN (dW (dJ g).lo[i])]:=by rw[List.take_succ_eq_append_getElem h,List.map_append,←List.append_assoc];rfl
theorem wA {n i:Nat}(f:Nat→List Int) (h:i<n):((List.range n).map f).take (i+1)=((List.range n).map f).take i++ [f i]:=by rw[List.take_succ_eq_append_getElem (by simpa using h)];simp
theorem Bi {g:bZ}{i:Nat}(h:i<(dJ g).sp.length):(dN g dI).take (i+1)=(dN g dI).take i++ [qh (g.fs.length+g.ms.length) dI i]:=wA _ h
theorem BX {g:bZ}{i:Nat}(h:i<(dJ g).lo.length):(eC g dI).take (i+1)=(eC g dI).take i++ [qh (g.fs.length+g.ms.length+(dJ g).sp.length) dI i]:=wA _ h
theorem CJ {g:bZ}(h:rW g) {T:SR}{i j:Nat}(D:cJ T= [cI g dI,cF g dI dI,cK g dI dI,(du g).flatten,(dN g dI).take i,(eC g dI).take j]):∀y∈cJ T,y.length≤30000:=by
 rw[D];have v:=h.ts;have A:=h.fs;have w:=h.ms;have l:=uf h g.ts.length;rw[List.take_of_length_le (by simp[du])]at l;have q:(dJ g).sp.length≤20000:=by have:=h.sp g.ms.length;rwa [List.take_length]at this
 have u:(dJ g).lo.length≤64:=by have:=h.lo g.ms.length;rwa [List.take_length]at this
 intro y o;simp only[List.mem_cons,List.not_mem_nil,or_false]at o;rcases o with rfl|rfl|rfl|rfl|rfl|rfl
 ·simp[cI];omega
 ·simp[cF];omega
 ·simp[cK,dT];omega
 ·omega
 ·simp[dN];omega
 ·simp[eC];omega
theorem Oq (t:Ty) (σ:AS):aa Tryz.prog 62 [cr t] σ (ao (.bQ [bL (cN (lp t)),.sc (.int .i64 (cD (lp t)))]) σ) No:=mu t σ
theorem SI.all (G:rW g) (h:zp k g B 0 τ):aa Tryz.prog 28 [.ptr k.aT 0] τ (Vu k g B) No:=by
 have c4:=G.ts;have c8:=G.fs;have c7:=G.ms;have de:∀ {σ:AS} {i:Nat},AS.le B σ→σ i=none→B i=none:=fun h1 Y=>qG h1 Y;refine aa.ob Tryz.func28 ?_;have a3:=h.choose_spec.1.aT;simp only[eE]at a3;refine gO cS (j2 @a3 @aI) tI ?_;refine ae.bp (α:=(Nat)×(AS)) ((0,τ)) (fun⟨i,τ'⟩=>g.ts.length-i) (fun⟨i,τ'⟩=>i≤g.ts.length∧zp k g B i τ') [(0,?_),(17,?_),(18,?_)] (fun⟨i,τ'⟩=> [(19,.sc (.int .i64 i))]) (fun⟨i,τ'⟩=>τ') ?_ ?_ ?_ ?_;rotate_left 3
 ·exact gF tI
 ·(try dsimp only);exact lR _
 ·exact⟨by omega,h⟩
 intro x_ q;obtain⟨i,τ'⟩:=x_;try dsimp only at q⊢
 obtain⟨hi,w⟩:=q;simp only[gj];by_cases l:i<g.ts.length
 ·have o:IntKind.i64.wrap ((i:Int)+1)=((i+1:Nat):Int):=cv (by omega);repeat (first
   |(with_reducible first|apply ae.seq|apply ae.block|refine j2 (by first|omega|assumption|decide) ?_)
   |((first|(with_reducible first|apply ae.fork|apply ae.region|show aN _ _ _ |show aB _ _ _ _ _ _ _ _ _)|((with_reducible apply ae.aR (id:=11) (t:=kz));(exact mixed);kernel_rfl;kernel_rfl;(repeat (with_reducible first|apply ak.then|apply ak.block|apply ak.body|apply ak.no))));simp-implicitDefEqProofs [l,eu])
   |((with_reducible first|apply ae.ret|apply ae.skip|apply ae.exit);try simp-implicitDefEqProofs))
  intro id3 u;obtain⟨H,E,D⟩:=w;have bc:zp k g (B.set id3 (.cells 46 (kE g.ts[i]).cells)) i (τ'.set id3 (.cells 46 (kE g.ts[i]).cells)):=⟨H,E.own u,D⟩;have O:=E.mP u;have hc:=SI.Vf G i l bc;simp only[eu,aQ]at hc;refine gO cS @o tI ?_;refine ag.of hc ?_ (fun _ _ h=>h.elim);rintro r X ⟨rfl,T2,M,L⟩;simp-implicitDefEqProofs;refine gO cS @o tI ?_;refine aP.mk ((i+1,X)) (by(try dsimp only);omega) (gF tI) (by(try dsimp only);exact lR _) ?_;try dsimp only
  exact⟨l,T2,M.drop (AS.ah (lR _) O),L⟩
 obtain rfl:i=g.ts.length:=by omega
 have bb:=zo.z w;have a2:=bb.choose_spec.1.aT;simp only[eE]at a2;clear w h a3 hi l;refine gO cS (j2 @a2 @aI) tI ?_;refine ae.bp (α:=(Nat)×(AS)) ((0,τ')) (fun⟨i,X⟩=>g.fs.length-i) (fun⟨i,X⟩=>i≤g.fs.length∧zo k g B i X) [(0,?_),(33,?_),(34,?_)] (fun⟨i,X⟩=> [(35,.sc (.int .i64 i))]) (fun⟨i,X⟩=>X) ?_ ?_ ?_ ?_;rotate_left 3
 ·exact gF tI
 ·(try dsimp only);exact lR _
 ·exact⟨by omega,bb⟩
 intro x_ q;obtain⟨i,X⟩:=x_;try dsimp only at q⊢
 obtain⟨hi,w⟩:=q;simp only[gj];by_cases l:i<g.fs.length
 ·have o:IntKind.i64.wrap ((i:Int)+1)=((i+1:Nat):Int):=cv (by omega);obtain⟨H,E,D⟩:=w;have K:∀y∈cJ H,y.length≤1000:=by
   rw[D];have cb:=uf G g.ts.length;rw[List.take_of_length_le (by simp[du])]at cb;intro y hy;simp only[List.mem_cons,List.not_mem_nil,or_false]at hy;rcases hy with rfl|rfl|rfl|rfl|rfl|rfl
   ·simp[cI];omega
   ·simp;omega
   ·simp
   ·omega
   ·simp
   ·simp
  have cc:(cF g dI dI).take (i+1)=(cF g dI dI).take i++ [uR g dI dI i g.fs[i]]:=kF _ _ l;have b6:(g.fs.take (i+1)).map (·.name)=(g.fs.take i).map (·.name)++ [g.fs[i].name]:=by rw[List.take_succ_eq_append_getElem l,List.map_append];rfl
  have ca:(g.fs.take (i+1)).map (fun f=>cN (lp f.ty))=(g.fs.take i).map (fun f=>cN (lp f.ty))++ [cN (lp g.fs[i].ty)]:=by rw[List.take_succ_eq_append_getElem l,List.map_append];rfl
  generalize hf:g.fs[i]=f at*;have cd:(g.ts.map (·.name)++(g.fs.take i).map (·.name)).length=g.ts.length+i:=by simp;omega
  have ch:((g.fs.take i).map (fun f=>cN (lp f.ty))).length=i:=by simp;omega
  have ce:g.ts.map (·.name)++(g.fs.take (i+1)).map (·.name)=(g.ts.map (·.name)++(g.fs.take i).map (·.name))++ [f.name]:=by rw[b6];simp
  generalize g.ts.map (·.name)++(g.fs.take i).map (·.name)=N at*;generalize (g.fs.take i).map (fun f=>cN (lp f.ty))=BL at*;refine gO cS (j4 l @kD @hf @aI) tI ?_;intro id5 J;have ci:=E.mP J;have Y:=E.own (b:= .cells 56 (ny f).cells) J;simp only[kD,aQ]at Y;have k5:(B.set id5 (.cells 56 (ny f).cells)) id5=some (.cells 56 (ny f).cells):=AS.aj _ _ _;simp only[kD,aQ]at k5;have ar:AS.le B (B.set id5 (.cells 56 (ny f).cells)):=AS.ah (lR _) ci;simp only[kD,aQ]at ar;generalize (B.set id5 (.cells 56 [.sc (.string ⟨f.name.toArray⟩),.sc (.int .i64 f.owner),.sc (.int .i64 f.ty.kind),.sc (.int .i64 f.ty.index),.sc (.int .i64 f.ty.bt),.sc (.bool f.ty.ref),.sc (.bool f.stat)]))=A at*;have q5:=Y.le _ _ k5;generalize (X.set id5 (.cells 56 [.sc (.string ⟨f.name.toArray⟩),.sc (.int .i64 f.owner),.sc (.int .i64 f.ty.kind),.sc (.int .i64 f.ty.index),.sc (.int .i64 f.ty.bt),.sc (.bool f.ty.ref),.sc (.bool f.stat)]))=S at*;refine gO (S:= [9]) cS @o tI ?_
  (with_reducible apply ae.region);simp-implicitDefEqProofs [q5]
  repeat (with_reducible refine j2 (by first|omega|assumption|decide) ?_)
  try (with_reducible apply ae.seq)
  refine Sg.xk (α:=Unit) (fun _ =>True) (fun _ => [(0,.ptr k.aT 0),(5,.ptr id5 0),(6,.sc (.int .i64 (if f.stat=true then 1 else 0))),(33,.an 56 (g.fs.map ny) .aE g.fn),(34,.sc (.int .i64 g.fs.length)),(35,.sc (.int .i64 i))]) (fun _ =>S) ?_ ?_
  ·cases c5:f.stat
   ·refine gO cS tI tI ?_;refine fV.mk (()) (gF tI) (by(try dsimp only);exact lR _) ?_;try dsimp only
   ·refine gO cS tI tI ?_;refine fV.mk (()) (gF tI) (by(try dsimp only);exact lR _) ?_;try dsimp only
  rintro _ _;have bv:=fun σ=>Oq f.ty σ;simp only[aD]at bv;refine Hi (α:=AS) (fun v=>zo k g A (i+1) v) (fun _ => [(0,.ptr k.aT 0),(33,.an 56 (g.fs.map ny) .aE g.fn),(34,.sc (.int .i64 g.fs.length)),(35,.sc (.int .i64 i))]) (fun v=>v) (fun _ _ =>rfl) ?_ ?_
  ·(((with_reducible apply ae.aR (id:=11) (t:=kz));(exact mixed);kernel_rfl;kernel_rfl;(repeat (with_reducible first|apply ak.then|apply ak.block|apply ak.body|apply ak.no)));simp-implicitDefEqProofs [q5])
   repeat' (with_reducible apply j2)
   all_goals
    refine ag.of (Y.name f.name (by simp only;omega)) ?_ (fun _ _ h=>h.elim);rintro r Z ⟨rfl,h3⟩;have r5:=h3.le _ _ k5;simp-implicitDefEqProofs [r5,cd]
    repeat' (with_reducible apply j2)
    all_goals
     refine ag.aC (bv _) ?_;simp-implicitDefEqProofs;refine ag.of (h3.yi (cN (lp f.ty)) _ (by simp only;omega)) ?_ (fun _ _ h=>h.elim);rintro r V ⟨rfl,h4⟩;have r6:=h4.le _ _ k5;simp-implicitDefEqProofs [ch];refine rz.ml ?_ ?_
     ·decide
     simp-implicitDefEqProofs [bH,ig,az];intro id I;have hr:=h4.uw (t:=1) (vals:= [(if f.stat=true then 1 else 0),((g.ts.length:Int)+i),(i:Int)]) (by omega) I (qA fun y hy=>Nat.le_trans (K y hy) (by omega));simp only[List.map_cons,List.map_nil,aG,List.length_cons,List.length_nil,Nat.reduceAdd,Int.cast_ofNat_Int]at hr;refine ag.of hr ?_ (fun _ _ h=>h.elim);rintro r U ⟨rfl,h5⟩;simp-implicitDefEqProofs;refine fV.mk (U) (gF tI) (by(try dsimp only);exact lR _) ?_;try dsimp only
     refine⟨nD H 1 (id,[(if f.stat=true then 1 else 0),((g.ts.length:Int)+i),(i:Int)]),?_,?_⟩
     ·rw[ce,ca];exact h5
     ·rw[lJ,D,cc];simp[uR,dI]
  ·rintro τ6 ⟨T2,M,L⟩;refine gO cS @o tI ?_;refine aP.mk ((i+1,τ6)) (by(try dsimp only);omega) (gF tI) (by(try dsimp only);exact lR _) ?_;try dsimp only
   exact⟨l,T2,M.drop ar,L⟩
 obtain rfl:i=g.fs.length:=by omega
 have a9:=uY.z w;have a1:=a9.choose_spec.1.aT;simp only[eE]at a1;clear w bb a2 hi l;refine gO cS (j2 @a1 @aI) tI ?_;refine ae.bp (α:=(Nat)×(AS)) ((0,X)) (fun⟨i,Z⟩=>g.ms.length-i) (fun⟨i,Z⟩=>i≤g.ms.length∧uY k g B i Z) [(0,?_),(61,?_),(62,?_)] (fun⟨i,Z⟩=> [(63,.sc (.int .i64 i))]) (fun⟨i,Z⟩=>Z) ?_ ?_ ?_ ?_;rotate_left 3
 ·exact gF tI
 ·(try dsimp only);exact lR _
 ·exact⟨by omega,a9⟩
 intro x_ q;obtain⟨i,Z⟩:=x_;try dsimp only at q⊢
 obtain⟨hi,w⟩:=q;simp only[gj];by_cases l:i<g.ms.length
 ·have o:IntKind.i64.wrap ((i:Int)+1)=((i+1:Nat):Int):=cv (by omega);repeat (first
   |(with_reducible first|apply ae.seq|apply ae.block|refine j2 (by first|omega|assumption|decide) ?_)
   |((first|(with_reducible first|apply ae.fork|apply ae.region|show aN _ _ _ |show aB _ _ _ _ _ _ _ _ _)|((with_reducible apply ae.aR (id:=11) (t:=kz));(exact mixed);kernel_rfl;kernel_rfl;(repeat (with_reducible first|apply ak.then|apply ak.block|apply ak.body|apply ak.no))));simp-implicitDefEqProofs [l,cY])
   |((with_reducible first|apply ae.ret|apply ae.skip|apply ae.exit);try simp-implicitDefEqProofs))
  intro id3 u;obtain⟨H,E,D⟩:=w;have bc:uY k g (B.set id3 (.cells 53 (jK g.ms[i]).cells)) i (Z.set id3 (.cells 53 (jK g.ms[i]).cells)):=⟨H,E.own u,D⟩;have O:=E.mP u;have hc:=SI.Ve G i l bc;simp only[cY,aQ]at hc;refine gO cS @o tI ?_;refine ag.of hc ?_ (fun _ _ h=>h.elim);rintro r V ⟨rfl,T2,M,L⟩;simp-implicitDefEqProofs;refine gO cS @o tI ?_;refine aP.mk ((i+1,V)) (by(try dsimp only);omega) (gF tI) (by(try dsimp only);exact lR _) ?_;try dsimp only
  exact⟨l,T2,M.drop (AS.ah (lR _) O),L⟩
 obtain rfl:i=g.ms.length:=by omega
 have a8:=CW.z w;have a0:=a8.choose_spec.1.aT;simp only[eE]at a0;clear w a9 a1 hi l;have cl:(dJ g).sp.length≤20000:=by have:=G.sp g.ms.length;rwa [List.take_length]at this
 have cs:(dJ g).lo.length≤64:=by have:=G.lo g.ms.length;rwa [List.take_length]at this
 have b0:∀x∈(dJ g).lo,x.length≤1000:=by have:=G.lA g.ms.length;rwa [List.take_length]at this
 have c6:=qQ g;refine gO cS (j2 @a0 @aI) tI ?_;refine ae.bp (α:=(Nat)×(AS)) ((0,Z)) (fun⟨i,V⟩=>(dJ g).sp.length-i) (fun⟨i,V⟩=>i≤(dJ g).sp.length∧CW k g B i V) [(0,?_),(75,?_),(76,?_)] (fun⟨i,V⟩=> [(77,.sc (.int .i64 i))]) (fun⟨i,V⟩=>V) ?_ ?_ ?_ ?_;rotate_left 3
 ·exact gF tI
 ·(try dsimp only);exact lR _
 ·exact⟨by omega,a8⟩
 intro x_ q;obtain⟨i,V⟩:=x_;try dsimp only at q⊢
 obtain⟨hi,w⟩:=q;simp only[gj];by_cases l:i<(dJ g).sp.length
 ·have o:IntKind.i64.wrap ((i:Int)+1)=((i+1:Nat):Int):=cv (by omega);obtain⟨H,E,D⟩:=w;have K:=CJ (i:=i) (j:=0) G D;have a5:=MP (g:=g) (i:=i) (by omega);have a6:=Kq (g:=g) l;have a4:=Bi (g:=g) l;generalize ht:(dJ g).sp[i]=t at*;generalize HQ g++((dJ g).sp.take i).map (fun t=>cN (mC t))=BL at*;have ac:=fun σ=>KL t σ;simp only[aD]at ac;refine gO (S:= [21]) cS (j4 l @aD @ht @aI) tI ?_;intro ck F;have O:=E.mP F;have Y:=E.own (b:= .cells 49 (cr t).cells) F;simp only[aD,aQ]at Y;refine gO (S:= [21]) cS @o tI ?_
  with_reducible apply ae.eX
  refine br.first 7 ?_;simp-implicitDefEqProofs;refine ag.aC (ac _) ?_;simp-implicitDefEqProofs;refine ag.of (Y.yi (cN (mC t)) _ (by simp only;omega)) ?_ (fun _ _ h=>h.elim);rintro r U ⟨rfl,h4⟩;simp-implicitDefEqProofs [a5];refine br.sp rfl (il.ml ?_ ?_)
  ·decide
  simp-implicitDefEqProofs [bH,ig,az];intro id I;have hr:=h4.uw (t:=4) (vals:= [(g.fs.length:Int)+g.ms.length+i]) (by omega) I (qA fun y hy=>Nat.le_trans (K y hy) (by omega));simp only[List.map_cons,List.map_nil,aG,List.length_cons,List.length_nil,Nat.reduceAdd,Int.cast_ofNat_Int]at hr;refine br.rest ?_;simp-implicitDefEqProofs;refine ag.of hr ?_ (fun _ _ h=>h.elim);rintro r τ6 ⟨rfl,h5⟩;simp-implicitDefEqProofs;refine gO cS @o tI ?_;refine aP.mk ((i+1,τ6)) (by(try dsimp only);omega) (gF tI) (by(try dsimp only);exact lR _) ?_;try dsimp only
  refine⟨l,nD H 4 (id,[(g.fs.length:Int)+g.ms.length+i]),?_,?_⟩
  ·rw[a6];exact h5.drop (AS.ah (lR _) O)
  ·rw[lJ,D,a4];simp[qh,dI]
 obtain rfl:i=(dJ g).sp.length:=by omega
 have a7:=F1.z w;have av:=a7.choose_spec.1.aT;simp only[eE]at av;clear w a8 a0 hi l;refine gO cS (j2 @av @aI) tI ?_;refine ae.bp (α:=(Nat)×(AS)) ((0,V)) (fun⟨i,U⟩=>(dJ g).lo.length-i) (fun⟨i,U⟩=>i≤(dJ g).lo.length∧F1 k g B i U) [(0,?_),(95,?_),(96,?_)] (fun⟨i,U⟩=> [(97,.sc (.int .i64 i))]) (fun⟨i,U⟩=>U) ?_ ?_ ?_ ?_;rotate_left 3
 ·exact gF tI
 ·(try dsimp only);exact lR _
 ·exact⟨by omega,a7⟩
 intro x_ q;obtain⟨i,U⟩:=x_;try dsimp only at q⊢
 obtain⟨hi,w⟩:=q;simp only[gj];by_cases l:i<(dJ g).lo.length
 ·have o:IntKind.i64.wrap ((i:Int)+1)=((i+1:Nat):Int):=cv (by omega);obtain⟨H,Y,D⟩:=w;have K:=CJ (i:=(dJ g).sp.length) (j:=i) G (by rw[List.take_of_length_le (by simp[dN])];exact D);have a5:=MO (g:=g) (i:=i) (by omega);have a6:=Ko (g:=g) l;have a4:=BX (g:=g) l;have ac:=fun σ=>qn (dJ g).lo[i] .aE (decide ((dJ g).lo[i]= [])) (by have:=b0 _ (List.getElem_mem l);omega) σ;generalize ht:(dJ g).lo[i]=t at*;generalize Ee g++((dJ g).lo.take i).map (fun t=>cN (dW t))=BL at*;refine gO (S:= [26]) cS (j4 l @jl @ht @aI) tI ?_
  with_reducible apply ae.eX
  refine br.first 7 ?_;simp-implicitDefEqProofs;refine ag.aC (ac _) ?_;simp-implicitDefEqProofs;refine ag.of (Y.yi (cN (dW t)) _ (by simp only;omega)) ?_ (fun _ _ h=>h.elim);rintro r τ6 ⟨rfl,h4⟩;simp-implicitDefEqProofs [a5];refine br.sp rfl (il.ml ?_ ?_)
  ·decide
  simp-implicitDefEqProofs [bH,ig,az];intro id I;have hr:=h4.uw (t:=5) (vals:= [(g.fs.length:Int)+g.ms.length+(dJ g).sp.length+i]) (by omega) I (qA fun y hy=>Nat.le_trans (K y hy) (by omega));simp only[List.map_cons,List.map_nil,aG,List.length_cons,List.length_nil,Nat.reduceAdd,Int.cast_ofNat_Int]at hr;refine br.rest ?_;simp-implicitDefEqProofs;refine ag.of hr ?_ (fun _ _ h=>h.elim);rintro r τ7 ⟨rfl,h5⟩;simp-implicitDefEqProofs;refine gO cS @o tI ?_;refine aP.mk ((i+1,τ7)) (by(try dsimp only);omega) (gF tI) (by(try dsimp only);exact lR _) ?_;try dsimp only
  refine⟨l,nD H 5 (id,[(g.fs.length:Int)+g.ms.length+(dJ g).sp.length+i]),?_,?_⟩
  ·rw[a6];exact h5
  ·rw[lJ,D,a4];simp[qh,dI]
 obtain rfl:i=(dJ g).lo.length:=by omega
 obtain⟨H,E,D⟩:=w;rw[List.take_of_length_le (by omega)]at E;rw[List.take_of_length_le (by simp[eC])]at D;have bs:=E.aT;simp only[eE]at bs;have c9:=G.en;have hw:IntKind.i64.wrap (g.entry+1)=g.entry+1:=ay (by omega) (by omega);clear a7 av hi l;refine gO cS (j3 @bs @hw @aI) tI ?_;refine⟨_,_,Wk.refl _,?_,rfl,H,U,E,D,rfl⟩;exact le_eq (by simp[eE,De])
end Im
end Go.Proofs.YtknalmoackcpbaaGreat
namespace Go.Proofs.YtknalmoackcpbaaGreat
namespace Im
open Go Go.AW Go.RowKit
variable {P:Program} {n:Nat} {ds:List Deferred} {Q:AQ} {s:Fr} {c:Code}
def Bj:List AV→List (Nat×TypeId)→List Nat→List AV
 |cs,(k,e)::i,t::h=>Bj (cs.set k (.an e [] (.tok t) true)) i h
 |cs,_,_ =>cs
theorem ae.Ji (id:Nat) {ty:TypeId} :∀(l:List (Nat×TypeId)) {σ:AS}{cs:List AV},σ id=some (.cells ty cs)→(∀p∈l,p.1<cs.length∧cs.getD p.1 .any= .ai)→(l.map (·.1)).Nodup→
 (∀(i:List Nat) (σ':AS),i.length=l.length→i.Nodup→(∀t∈i,σ t=none)→σ' id=some (.cells ty (Bj cs l i))→(∀t∈i,σ' t=some (.tok 0))→(∀j,j≠id→j ∉ i→σ' j=σ j)→ae P n ds c Q s σ')→ae P n ds c Q s σ:=by
 intro l;induction l with
 |nil=>intro σ cs h1 _ _ h;exact h [] σ rfl List.nodup_nil (fun t ht=>by cases ht) h1 (fun t ht=>by cases ht) (fun _ _ _ =>rfl)
 |cons p l H=>
  intro σ cs h1 F A h;obtain⟨k,e⟩:=p;obtain⟨J,I⟩:=F (k,e) (by simp);simp only[List.map_cons,List.nodup_cons]at A;refine ae.pO id k e [] true h1 J (.inr ⟨I,rfl,rfl⟩) fun u v=> ?_;have w:id≠u:=nq v h1;refine H (cs:=cs.set k (.an e [] (.tok u) true)) (by rw[AS.ad _ _ w,AS.aj]) (fun q E=> ?_) A.2 fun i σ' X V U S O G=> ?_
  ·obtain⟨M,L⟩:=F q (by simp[E]);have y:k≠q.1:=fun K=>A.1 (List.mem_map.2 ⟨q,E,K.symm⟩);exact⟨by simpa using M,by rw[List.getD_eq_getElem?_getD,List.getElem?_set_ne y,←List.getD_eq_getElem?_getD];exact L⟩
  ·have o:∀t∈i,t≠u∧t≠id∧σ t=none:=fun t ht=>by
    have:=U t ht;have t1:t≠u:=by rintro rfl;simp at this
    have t2:t≠id:=by rintro rfl;rw[AS.ad _ _ t1]at this;simp at this
    exact⟨t1,t2,by rw[AS.ad _ _ t1,AS.ad _ _ t2]at this;exact this⟩
   refine h (u::i) σ' (by simp[X]) (List.nodup_cons.2 ⟨fun hm=>(o u hm).1 rfl,V⟩) (fun t ht=> ?_) S (fun t ht=> ?_) fun j D j2=> ?_
   ·rcases List.mem_cons.1 ht with rfl|ht
    ·exact v
    ·exact(o t ht).2.2
   ·rcases List.mem_cons.1 ht with rfl|ht
    ·rw[G _ w.symm (fun hm=>(o _ hm).1 rfl),AS.aj];rfl
    ·exact O t ht
   ·simp only[List.mem_cons,not_or]at j2;rw[G j D j2.2,AS.ad _ _ j2.1,AS.ad _ _ D]
abbrev Fz:=Nat×TypeId×List AV
def wI:List Fz→AS→AS
 |[],σ=>σ
 |p::r,σ=>(wI r σ).set p.1 (.cells p.2.1 (az p.2.2))
theorem BH {j:Nat} :∀ {L:List Fz}{σ:AS},(∀p∈L,p.1≠j)→wI L σ j=σ j
 |[],_,_ =>rfl
 |p::r,σ,h=>by rw[wI,AS.ad _ _ (fun e=>h p (by simp) e.symm)];exact BH fun q i=>h q (by simp[i])
def V4 (P:Program) (G:Gh) (p:Fz):Prop:= ∀y,ba P G (.fT p.1 0 p.2.2.length p.2.2.length) y→ba P G (.an p.2.1 p.2.2 .full false) y
theorem Inv.Mp {w:World} :∀ {L:List Fz}{σ:AS}{G:Gh},Inv P G (wI L σ) w→(∀p∈L,σ p.1=none)→(L.map (·.1)).Nodup→(∀p∈L,∀v∈p.2.2,v.cells.length=P.cellsOf p.2.1)→
 ∃G',G.Le G'∧Inv P G' σ w∧ ∀p∈L,V4 P G' p:=by
 intro L;induction L with
 |nil=>intro σ G j _ _ _;exact⟨G,.refl G,j,fun p J=>by cases J⟩
 |cons p L H=>
  intro σ G j h1 o A;simp only[List.map_cons,List.nodup_cons]at o;have h0:wI L σ p.1=none:=by rw[BH fun q h e=>o.1 (List.mem_map.2 ⟨q,h,e⟩)];exact h1 p (by simp)
  obtain⟨b,_,u,_⟩:=j.cells p.1 p.2.1 (az p.2.2) (by simp[wI]);obtain⟨S,D,M,K⟩:=Inv.freeze j h0 rfl (A p (by simp));obtain⟨O,k1,F,E⟩:=H M (fun q h=>h1 q (by simp[h])) o.2 (fun q h=>A q (by simp[h]));refine⟨O,D.trans k1,F,fun q h=> ?_⟩;rcases List.mem_cons.1 h with rfl|h
  ·intro y I;refine(K y ?_).mono k1;have l:=(D.trans k1).inj _ _ u;cases I with
   |fT i=>rw[l]at i;cases i;exact .fT u
  ·exact E q h
theorem aa.le {f:FuncId}{i:List AV}{σ τ:AS}{R j:AV→AS→Prop}(h:aa P f i σ R j) (hle:AS.le σ τ):aa P f i τ R j:=
 ⟨h.body,fun G w vals o l=>h.run G w vals (o.weaken hle) l⟩
theorem aa.UR {f:FuncId}{D i:List AV}{R E:AV→AS→Prop}{σ:AS}(L:List Fz) (h:aa P f i σ R E) (h1:∀p∈L,σ p.1=none) (K:(L.map (·.1)).Nodup) (J:∀p∈L,∀v∈p.2.2,v.cells.length=P.cellsOf p.2.1)
 (F:∀(G:Gh) (xs:Array Value),(∀p∈L,V4 P G p)→yl P G D xs→yl P G i xs):aa P f D (wI L σ) R E:=by
 refine⟨h.body,fun G w vals I H=> ?_⟩;obtain⟨G',hle,j,conv⟩:=Inv.Mp I h1 K J;refine(h.run G' w vals j (F _ _ conv (H.mono hle))).mono fun e w' he=> ?_;unfold kS at he⊢;split at he
 ·obtain⟨A,σ',r,u,q,o,l⟩:=he;exact⟨A,σ',r,hle.trans u,q,o,l⟩
 ·obtain⟨x,y,A,σ',r,u,q,o,l⟩:=he;exact⟨x,y,A,σ',r,hle.trans u,q,o,l⟩
 ·exact he.elim
theorem BS {G:Gh}{e:TypeId}{es l:List AV}{o:cL}{nl:Bool}{y:Value}(he:P.cellsOf e=1) (hl:l.length=es.length) (h1:∀i (h:i<es.length),es[i].cells= [es[i]]∧(l[i]'(by omega)).cells= [l[i]'(by omega)])
 (h:∀i (u:i<es.length) y,ba P G es[i] y→ba P G (l[i]'(by omega)) y) (A:ba P G (.an e es o nl) y):ba P G (.an e l .aE nl) y:=by
 have E:∀i (u:i<es.length),es.getD i .any=es[i]:=fun i u=>by rw[List.getD_eq_getElem?_getD,List.getElem?_eq_getElem u];rfl
 have w:∀i (u:i<es.length),l.getD i .any=l[i]'(by omega):=fun i u=>by rw[List.getD_eq_getElem?_getD,List.getElem?_eq_getElem (by omega)];rfl
 cases A with
 |jd I=>have:l= []:=List.length_eq_zero_iff.1 (by simpa using hl);subst this;exact .jd trivial
 |an vs L H F K J=>
  rename_i b off cap;have:= @ba.an P G e l .aE b off cap vs (fun i u=>by rw[w i (by omega),(h1 i (by omega)).2,he];rfl) (fun k v=>H k (by rw[hl]at v;exact v)) (fun i j u D=>by
   rw[he]at D;obtain rfl:j=0:=by omega
   have q:i<es.length:=by omega
   have:=F i 0 q (by omega);rw[E i q,(h1 i q).1]at this;rw[w i q,(h1 i q).2];exact h i q _ this) (by omega) trivial
  rw[hl]at this;exact this
 |pR=>have:l= []:=List.length_eq_zero_iff.1 (by simpa using hl);subst this;exact .pR
end Im
end Go.Proofs.YtknalmoackcpbaaGreat
namespace Go.Proofs.YtknalmoackcpbaaGreat
namespace Im
open Go Go.AW
open Sg (aD bL cN cD lp mC dW)
open Pl (sV)
variable {k:SK} {g:bZ} {d:SD} {T:SR} {B τ:AS}
theorem yx {j:Nat}{b:bN} :∀ {X:List (Nat×List Int)}{σ:AS},(∀p∈X,p.1≠j)→oh X (σ.set j b)=(oh X σ).set j b
 |[],_,_ =>rfl
 |p::r,σ,h=>by rw[oh,oh,←yx fun q i=>h q (by simp[i]),AS.set_comm (h p (by simp)).symm]
theorem EU:∀ {X:List (Nat×List Int)}{σ:AS},(X.map (·.1)).Nodup→ ∀p∈X,oh X σ p.1=some (Oe p)
 |[],_,_,p,i=>by cases i
 |q::r,σ,h,p,i=>by
  simp only[List.map_cons,List.nodup_cons]at h;rw[oh];rcases List.mem_cons.1 i with rfl|i
  ·rw[eF fun x j e=>h.1 (List.mem_map.2 ⟨x,j,e⟩),AS.aj]
  ·exact EU h.2 p i
def DB (T:SR) (t c:Nat) (P:List Int):SR:=T.modify t fun x=>(x.1,x.2.map (yI c P))
def KT (c:Nat) (P:List Int) (r:List Int):List Int:=r.set c (P.getD (r.getD c 0).toNat 0)
theorem Ia (T:SR) (t c:Nat) (P:List Int):cJ (DB T t c P)=(cJ T).modify t (·.map (KT c P)):=by
 unfold cJ DB;induction T generalizing t with
 |nil=>cases t<;>rfl
 |cons x r h=>
  cases t with
  |zero=>simp[yI,KT,Function.comp_def]
  |succ t=>simpa using h t
theorem LU (T:SR) (t c:Nat) (P:List Int):(DB T t c P).map (·.1)=T.map (·.1):=by
 unfold DB;induction T generalizing t with
 |nil=>cases t<;>rfl
 |cons x r h=>cases t with
  |zero=>simp
  |succ t=>simpa using h t
theorem LS (T:SR) (t c:Nat) (P:List Int):((DB T t c P).flatMap fun x=>x.2.map (·.1))=T.flatMap fun x=>x.2.map (·.1):=by
 unfold DB;induction T generalizing t with
 |nil=>cases t<;>rfl
 |cons x r h=>cases t with
  |zero=>simp[yI,Function.comp_def]
  |succ t=>simpa using h t
theorem Oz (T:SR) (t c:Nat) (P:List Int):(DB T t c P).map Ba=T.map Ba:=by
 unfold DB;induction T generalizing t with
 |nil=>cases t<;>rfl
 |cons x r h=>cases t with
  |zero=>simp[Ba,yI,HL,Function.comp_def]
  |succ t=>simpa using h t
theorem E7 {T:SR}{t c:Nat}{P:List Int}{y:Nat×List (Nat×List Int)}(i:y∈DB T t c P):(∃j,j≠t∧T[j]? =some y)∨ ∃x,T[t]? =some x∧y=(x.1,x.2.map (yI c P)):=by
 obtain⟨j,h,rfl⟩:=List.getElem_of_mem i;simp only[DB,List.length_modify]at h;simp only[DB,List.getElem_modify];split
 ·rename_i e;subst e;exact .inr ⟨T[t],by simp[h],rfl⟩
 ·rename_i e;exact .inl ⟨j,fun l=>e l.symm,by simp[h]⟩
theorem GX:∀ {T:SR},(T.flatMap fun x=>x.2.map (·.1)).Nodup→ ∀ {i j:Nat}{x y:Nat×List (Nat×List Int)},T[i]? =some x→T[j]? =some y→i≠j→ ∀p∈x.2,∀q∈y.2,p.1≠q.1:=by
 intro T;induction T with
 |nil=>intro _ i j x y h;simp at h
 |cons z r D=>
  intro h i j x y l o w p u q v;simp only[List.flatMap_cons]at h;obtain⟨h1,E,A⟩:=List.nodup_append.1 h;have mem:∀ {i:Nat} {x:Nat×List (Nat×List Int)} {p:Nat×List Int},r[i]? =some x→p∈x.2→p.1∈r.flatMap fun x=>x.2.map (·.1):=fun l u=>List.mem_flatMap.2 ⟨_,List.mem_of_getElem? l,List.mem_map.2 ⟨_,u,rfl⟩⟩;cases i with
  |zero=>
   simp only[List.getElem?_cons_zero,Option.some.injEq]at l;subst l;cases j with
   |zero=>exact absurd rfl w
   |succ j=>simp only[List.getElem?_cons_succ]at o;exact A p.1 (List.mem_map.2 ⟨p,u,rfl⟩) q.1 (mem o v)
  |succ i=>
   simp only[List.getElem?_cons_succ]at l;cases j with
   |zero=>simp only[List.getElem?_cons_zero,Option.some.injEq]at o;subst o;exact fun e=>A q.1 (List.mem_map.2 ⟨q,v,rfl⟩) p.1 (mem l u) e.symm
   |succ j=>simp only[List.getElem?_cons_succ]at o;exact D E l o (by omega) p u q v
theorem SI.pl (h:SI k g d T B τ) {t c:Nat}{P:List Int}{x:Nat×List (Nat×List Int)}(ht:T[t]? =some x):SI k g d (DB T t c P) B (oh (x.2.map (yI c P)) τ)∧(x.2.map (·.1)).Nodup∧(∀p∈x.2.map (yI c P),p.1≠k.aT):=by
 have l:x∈T:=List.mem_of_getElem? ht;have A:=List.nodup_append.1 h.kG;have I:(x.2.map (·.1)).Nodup:=by have:=A.2.1;exact List.Nodup.sublist (List.sublist_flatten_of_mem (List.mem_map.2 ⟨x,l,rfl⟩):(x.2.map (·.1)).Sublist _) (by simpa[List.flatMap]using this)
 have G:((x.2.map (yI c P)).map (·.1)).Nodup:=by simpa[yI,Function.comp_def]using I
 have out:∀p∈x.2.map (yI c P),p.1≠k.aT∧p.1≠k.bq∧p.1≠k.tS∧p.1≠k.tL∧p.1≠k.tN∧p.1≠k.tB∧p.1≠k.tC:=by intro p i;obtain⟨q,w,rfl⟩:=List.mem_map.1 i;exact h.Dr l (p:=q) w
 have v:∀y∈T,∀p∈x.2.map (yI c P),p.1≠y.1:=by intro y F p i;obtain⟨q,w,rfl⟩:=List.mem_map.1 i;exact fun e=>A.2.2 y.1 (List.mem_map.2 ⟨y,F,rfl⟩) q.1 (List.mem_flatMap.2 ⟨x,l,List.mem_map.2 ⟨q,w,rfl⟩⟩) e.symm
 have H:keys k (DB T t c P)=keys k T:=by unfold keys;rw[LU,LS]
 refine⟨⟨?_,?_,?_,?_,?_,?_,?_,fun y F=> ?_,fun y F p i=> ?_,fun j b D=> ?_,by simpa[DB]using h.EO,by rw[H];exact h.nd,by rw[H];exact h.fr⟩,I,fun p i=>(out p i).1⟩
 ·rw[eF fun p i=>(out p i).1];exact h.aT
 ·rw[eF fun p i=>(out p i).2.1,Oz];exact h.bq
 ·rw[eF fun p i=>(out p i).2.2.1];exact h.tS
 ·rw[eF fun p i=>(out p i).2.2.2.1];exact h.tL
 ·rw[eF fun p i=>(out p i).2.2.2.2.1];exact h.tN
 ·rw[eF fun p i=>(out p i).2.2.2.2.2.1];exact h.tB
 ·rw[eF fun p i=>(out p i).2.2.2.2.2.2];exact h.tC
 ·rcases E7 F with⟨j,D,u⟩|⟨J,o,rfl⟩
  ·have E:=List.mem_of_getElem? u;rw[eF (v y E)];exact h.Ib y E
  ·rw[ht]at o;cases o;rw[eF (v x l)];simpa using h.Ib x l
 ·rcases E7 F with⟨j,D,u⟩|⟨J,o,rfl⟩
  ·rw[eF fun q w=> ?_]
   ·exact h.row y (List.mem_of_getElem? u) p i
   ·obtain⟨z,K,rfl⟩:=List.mem_map.1 w;exact GX A.2.1 ht u (Ne.symm D) z K p i
  ·rw[ht]at o;cases o;exact EU G p i
 ·rw[eF fun p i e=> ?_]
  ·exact h.le j b D
  ·obtain⟨q,w,rfl⟩:=List.mem_map.1 i;have:=h.fr q.1 (by simp only[keys,List.mem_cons,List.mem_append,List.mem_flatMap,List.mem_map];exact .inr (.inr (.inr (.inr (.inr (.inr (.inr (.inr ⟨x,l,q,w,rfl⟩))))))));have L:q.1=j:=e;rw[←L,this]at D;cases D
def SJ (k:SK) (g:bZ) (d:SD) (T:SR) (B:AS) (en:Int) (τ:AS):Prop:= ∃h,SI k g d T B h∧τ=h.set k.aT (.cells 74 (vZ k g d en))
theorem SJ.aT {en:Int}(h:SJ k g d T B en τ):τ k.aT=some (.cells 74 (vZ k g d en)):=by obtain⟨i,_,rfl⟩:=h;exact AS.aj _ _ _
theorem SJ.place {en:Int}(h:SJ k g d T B en τ) {t c:Nat}{P:List Int}{op:cL}{np:Bool}{x:Nat×List (Nat×List Int)}(ht:T[t]? =some x) (A:x.2.length≤100000) (E:P.length≤100000)
 (D:∀p∈x.2,c<p.2.length∧0≤p.2.getD c 0∧(p.2.getD c 0).toNat<P.length∧p.2.length≤1000):
 aa Tryz.prog 31 [.ptr k.aT 0,.sc (.int .i64 t),.sc (.int .i64 c),.an 3 (P.map aV) op np] τ (fun r q=>r= .bQ []∧SJ k g d (DB T t c P) B en q) No:=by
 have j:=h.aT;obtain⟨F,h0,rfl⟩:=h;obtain⟨w,v,u⟩:=h0.pl (c:=c) (P:=P) ht;have i:x∈T:=List.mem_of_getElem? ht;have o:=h0.ne.1;refine(IY t c x.2 P (T.map Ba) k.aT k.bq (.tok x.1) (decide (x.2= [])) op np _ _ _ _ _ _ _ _ _ _ _ _ A (by simpa using h0.EO) E _ j (by rw[AS.ad _ _ (Ne.symm o)];exact h0.bq) (by rw[List.getElem?_map,ht];rfl) (fun p l=> ?_) v).mono (fun r q y=> ?_) (fun _ _ h=>h)
 ·refine⟨?_,D p l⟩;rw[AS.ad _ _ (h0.Dr i l).1];exact h0.row x i p l
 ·obtain⟨rfl,rfl⟩:=y;exact⟨rfl,_,w,yx u⟩
end Im
end Go.Proofs.YtknalmoackcpbaaGreat
namespace Go.Proofs.YtknalmoackcpbaaGreat
namespace St
open Go Go.AW
theorem aU (S:List Nat):aH Tryz.prog [] S:=mixed
def tg:Nat→List UInt8
 |0=> [82,79,87,83]
 |1=> [78,65,77,69]
 |2=> [66,76,79,66]
 | _ => [67,79,68,69]
def oa (t:List UInt8):Int:=if t=tg 0 then 0 else if t=tg 1 then 1 else if t=tg 2 then 2 else if t=tg 3 then 3 else-1
def TR (t:List UInt8) (σ:AS) (m:Nat) (s:Fr) (σ':AS):Prop:=
 ∃k:Nat,m=4-k∧k≤4∧(∀j,j<k→t≠tg j)∧σ'=σ∧s=jJ [(0,.sc (.string ⟨t.toArray⟩)),(4,.sc (.int .i64 k))]
theorem Ge (t:List UInt8) (σ:AS):aa Tryz.prog 157 [.sc (.string ⟨t.toArray⟩)] σ (ao (.sc (.int .i64 (oa t))) σ) No:=by
 refine aa.ob Tryz.func157 ?_;refine gO aU tI tI ?_;refine ae.dx (TR t σ) (k0:=4) ⟨0,rfl,by omega,by omega,rfl,rfl⟩ (aS.mk (by simp)) (lR _) ?_;rintro m s σ' ⟨k,hm,v,i,rfl,rfl⟩;have q:∀j,t≠tg j→(tg j=t)=False:=fun j h=>by simp;exact fun e=>h e.symm
 match k,v with
 |0,_ =>
  by_cases h:t=tg 0
  ·have l:([82,79,87,83]=t)=True:=by simp[h,tg]
   refine gO aU @l tI ?_;simp[oa,h]
  ·have l:([82,79,87,83]=t)=False:=q 0 h;refine gO aU @l tI ?_;refine⟨m-1,_,_,by omega,aS.mk (by simp),lR _,1,by omega,by omega,fun j o=> ?_,rfl,rfl⟩
   match j,o with
   |0,_ =>exact h
 |1,_ =>
  have h0:=i 0 (by omega);by_cases h:t=tg 1
  ·have l:([78,65,77,69]=t)=True:=by simp[h,tg]
   refine gO aU @l tI ?_;rw[oa,if_neg h0,if_pos h];exact Wk.refl _
  ·have l:([78,65,77,69]=t)=False:=q 1 h;refine gO aU @l tI ?_;refine⟨m-1,_,_,by omega,aS.mk (by simp),lR _,2,by omega,by omega,fun j o=> ?_,rfl,rfl⟩
   match j,o with
   |0,_ =>exact h0
   |1,_ =>exact h
 |2,_ =>
  have h0:=i 0 (by omega);have h1:=i 1 (by omega);by_cases h:t=tg 2
  ·have l:([66,76,79,66]=t)=True:=by simp[h,tg]
   refine gO aU @l tI ?_;rw[oa,if_neg h0,if_neg h1,if_pos h];exact Wk.refl _
  ·have l:([66,76,79,66]=t)=False:=q 2 h;refine gO aU @l tI ?_;refine⟨m-1,_,_,by omega,aS.mk (by simp),lR _,3,by omega,by omega,fun j o=> ?_,rfl,rfl⟩
   match j,o with
   |0,_ =>exact h0
   |1,_ =>exact h1
   |2,_ =>exact h
 |3,_ =>
  have h0:=i 0 (by omega);have h1:=i 1 (by omega);have u:=i 2 (by omega);by_cases h:t=tg 3
  ·have l:([67,79,68,69]=t)=True:=by simp[h,tg]
   refine gO aU @l tI ?_;rw[oa,if_neg h0,if_neg h1,if_neg u,if_pos h];exact Wk.refl _
  ·have l:([67,79,68,69]=t)=False:=q 3 h;refine gO aU @l tI ?_;refine⟨m-1,_,_,by omega,aS.mk (by simp),lR _,4,by omega,by omega,fun j o=> ?_,rfl,rfl⟩
   match j,o with
   |0,_ =>exact h0
   |1,_ =>exact h1
   |2,_ =>exact u
   |3,_ =>exact h
 |4,_ =>refine gO aU tI tI ?_;rw[oa,if_neg (i 0 (by omega)),if_neg (i 1 (by omega)),if_neg (i 2 (by omega)),if_neg (i 3 (by omega))];exact Wk.refl _
def Dl (a e:Int):AV:= .agg [.sc (.int .i64 a),.sc (.int .i64 e)]
theorem JY (id:Nat) (b:List UInt8) (a:Int) (nl:Bool) (σ:AS) (K:nl=true→b= []) (h:σ id=some (bC b a nl)) (ha:0≤a) (hb:a+12≤b.length) (hl:b.length≤140737488355328):
 aa Tryz.prog 101 [.ptr id 0] σ (ao (.bQ [.sc (.int .i64 (oa (cy b (a+8) 4))),Dl (bj (cy b a 4)) (bj (cy b a 4)+bj (cy b (a+4) 4))]) (σ.set id (bC b (a+12) nl))) No:=by
 have L:(256:Int)^4=4294967296:=by decide
 have X:=jk (cy b a 4);have V:=jk (cy b (a+4) 4);have l1:=eQ b a 4 ha (by omega) (by omega);have l2:=eQ b (a+4) 4 (by omega) (by omega) (by omega);rw[show(cy b a 4).length=4 by omega,L]at X;rw[show(cy b (a+4) 4).length=4 by omega,L]at V;have p1:=cu (cy b a 4);have p2:=cu (cy b (a+4) 4);have u:=fun σ h=>mc id b a 4 nl σ h ha (by omega) hl rfl (by omega);have n2:=fun σ h=>mc id b (a+4) 4 nl σ h (by omega) (by omega) hl rfl (by omega);have I:=fun σ h=>zw id b (a+8) 4 nl σ K h (by omega) (by omega) hl (by omega) (by omega);have tt:=fun σ=>Ge (cy b (a+8) 4) σ;rw[show a+4+4=a+8 by omega]at n2;rw[show a+8+4=a+12 by omega]at I;generalize bj (cy b a 4)=x at*;generalize bj (cy b (a+4) 4)=y at*;generalize cy b (a+8) 4=t at*;have w1:IntKind.i64.wrap x=x:=ay (by omega) (by omega);have U:IntKind.i64.wrap y=y:=ay (by omega) (by omega);have S:IntKind.i64.wrap (x+y)=x+y:=ay (by omega) (by omega);refine aa.ob Tryz.func101 ?_;refine gO aU tI tI ?_;intro o i;have n1:¬id=o:=nq h i;have j:=aA n1;refine gO aU tI tI ?_;refine ag.aC (u _ (by simp[n1,h])) ?_;simp-implicitDefEqProofs;refine gO aU tI tI ?_;refine ag.aC (n2 _ (by simp)) ?_;simp-implicitDefEqProofs;refine gO aU tI tI ?_;refine ag.of (I _ (by simp)) ?_ (fun _ _ h=>h.elim);rintro r Y ⟨E,l,rfl,rfl⟩;have H:¬id=E:=by rintro rfl;simp at l
 have F:¬o=E:=by rintro rfl;simp[j]at l
 simp-implicitDefEqProofs [n1,j,H,F];refine gO aU (j7 @j @F @w1 @U @S @qS @Dl.eq_1) @tt ?_;have O:=aA H;have M:=aA F;have w:σ E=none:=by simpa[AS.set,O,M]using l
 clear l u n2 I tt;have G:=(j8 i w @n1 @j @H @F @O @M);intro J Z;refine gK G J id fun D=>gK G J o fun q=>gK G J E fun A=> ?_;intro v;simp[AS.set,G,D,q,A]at v⊢;try exact v
def ov (a e:Int) (x:Int×Int×Int):Bool:=decide (a<x.2.2∧x.2.1<e∧a<e∧x.2.1<x.2.2)
def nZ (len:Int) (M:List (Int×Int×Int)) (k a e:Int):Int:=
 if k<0∨M.any (fun x=>x.1==k)=true then 2 else if a<56∨a%4≠0 then 3 else if len<e then 1 else if M.any (ov a e)=true then 2 else 0
def mV (M:List (Int×Int×Int)):List (Int×AV):=M.map fun x=>(x.1,Dl x.2.1 x.2.2)
theorem JW (k:Int) (M:List (Int×Int×Int)):(pw k (mV M)).isSome=M.any (fun x=>x.1==k):=by
 induction M with
 |nil=>rfl
 |cons x M i=>
  simp only[mV,List.map_cons,pw,List.any_cons]at i⊢;by_cases h:k=x.1
  ·simp[h]
  ·have j:(x.1==k)=false:=by simpa using fun e:x.1=k=>h e.symm
   rw[if_neg h,j,Bool.false_or];exact i
theorem G7 (k:Int) (M:List (Int×Int×Int)):∃a e:Int,(pw k (mV M)).getD (Dl 0 0)=Dl a e:=by
 induction M with
 |nil=>exact⟨0,0,rfl⟩
 |cons x M i=>
  simp only[mV,List.map_cons,pw]at i⊢;by_cases h:k=x.1
  ·rw[if_pos h];exact⟨_,_,rfl⟩
  ·rw[if_neg h];exact i
theorem IM {P:Program}{σ:AS}{t i l bh:Nat}{es:List (AV×AV)}{K:AV→AS→Prop}(hu:P.underlying t=some (.map i l)) (j:σ bh=some (.map es))
 (h:∀id,σ id=none→K (.ptr id 0) (σ.set id (.jN bh es.length []))):nE P σ t (.mp bh) K:=by
 simp only[nE,hu,j];exact h
theorem L5 {σ:AS}{id bh h:Nat}{done:List Nat}{es:List (AV×AV)}{K:AV→AS→Prop}(l:σ bh=some (.map es)) (i:es.length=h)
 (hf:(∀k,k<h→k∈done)→K (.bQ [.sc (.bool false)]) σ)
 (j:∀k,k<h→k ∉ done→K (.bQ [.sc (.bool true),(es.getD k (.any,.any)).1,(es.getD k (.any,.any)).2]) (σ.set id (.jN bh h (k::done)))):BJ id bh h done σ K:=by
 simp only[BJ,l];exact⟨i,hf,j⟩
theorem Md {n k:Nat}{done:List Nat}(j:k<n) (hd:k ∉ done):((List.range n).filter (fun i=>decide (i ∉ k::done))).length<((List.range n).filter (fun i=>decide (i ∉ done))).length:=by
 have e:(List.range n).filter (fun i=>decide (i ∉ k::done))=((List.range n).filter (fun i=>decide (i ∉ done))).filter (fun i=>decide (i≠k)):=by rw[List.filter_filter];congr 1;funext i;simp
 rw[e];refine Nat.lt_of_le_of_ne (List.length_filter_le _ _) fun h=> ?_;have l:=List.length_filter_eq_length_iff.1 h k (by simp[j,hd]);simp at l
def TK (bh id5 h:Nat) (a e:Int) (M:List (Int×Int×Int)) (B:AS) (m:Nat) (f:Fr) (σ':AS):Prop:=
 ∃done:List Nat,m=((List.range M.length).filter (fun i=>decide (i ∉ done))).length∧(∀i x,i∈done→M[i]? =some x→ov a e x=false)∧
  σ'=B.set h (.jN bh M.length done)∧f=jJ [(5,.ptr id5 0),(41,.ptr h 0)]
theorem HU (bh:Nat) (k a e len:Int) (M:List (Int×Int×Int)) (σ:AS) (ha:0≤a) (h:σ bh=some (.map (iQ (mV M)))):
 aa Tryz.prog 102 [.sc (.int .i64 k),Dl a e,.sc (.int .i64 len),.mp bh] σ (ao (.sc (.int .i64 (nZ len M k a e))) σ) No:=by
 have hz:aw Tryz.prog 169=Dl 0 0:=by simp[Dl]
 have G:a.tmod 4=a%4:=Int.tmod_eq_emod_of_nonneg ha;have hf:=JW k M;obtain⟨fa,fe,a0⟩:=G7 k M;refine aa.ob Tryz.func102 ?_;simp only[Dl];refine gO (S:= [1]) aU tI tI ?_;intro id5 J;refine gO (S:= [1]) aU tI tI ?_
 with_reducible apply ae.eX
 refine br.first 2 ?_;simp-implicitDefEqProofs;have nm:¬bh=id5:=nq h J;simp only[Dl]at hz a0;refine br.sp rfl (il.L9 (by decide) bh k (mV M) Tryz.underlying167 Tryz.underlying3 (by simp) (by simp) (by simp) (by simp[nm,h]) ?_);refine br.rest ?_;simp-implicitDefEqProofs [pS,hz,a0,hf];intro O E I;have q:=aA E;have am:¬bh=O:=nq h I;have hle:AS.le σ ((σ.set id5 (bN.cells 169 [AV.sc (Value.int IntKind.i64 a),AV.sc (Value.int IntKind.i64 e)])).set O (bN.cells 169 [AV.sc (Value.int IntKind.i64 fa),AV.sc (Value.int IntKind.i64 fe)])):=aq (by simp[I,E]) (aq J (lR _));simp only[nZ];by_cases Z:k<0
 ·refine gO aU @Z tI ?_;exact hle
 by_cases hT:(M.any fun x=>x.1==k)=true
 ·refine gO aU (j2 @Z @hT) tI ?_;exact hle
 rw[Bool.not_eq_true]at hT;by_cases h1:a<56
 ·refine gO aU (j4 @Z @hT @h1 q) tI ?_;exact hle
 by_cases h2:a%4=0
 ·by_cases h3:len<e
  ·refine gO aU (j7 @Z @hT @h1 @h2 @h3 @G q) tI ?_;exact hle
  refine gO aU (j7 @Z @hT @h1 @h2 @h3 @G q) tI ?_;refine IM (es:=iQ (mV M)) Tryz.underlying167 (by simp[nm,am,h]) ?_;generalize hB:(σ.set id5 (bN.cells 169 [AV.sc (Value.int IntKind.i64 a),AV.sc (Value.int IntKind.i64 e)])).set O (bN.cells 169 [AV.sc (Value.int IntKind.i64 fa),AV.sc (Value.int IntKind.i64 fe)])=B at*;have a3:B id5=some (.cells 169 [.sc (.int .i64 a),.sc (.int .i64 e)]):=by rw[←hB];simp[AS.set,q]
  have a2:B bh=some (.map (iQ (mV M))):=by rw[←hB];simp[nm,am,h]
  have hlen:(iQ (mV M)).length=M.length:=by simp[iQ,mV]
  intro D A;have l:¬id5=D:=nq a3 A;have u:¬bh=D:=nq a2 A;rw[hlen];simp-implicitDefEqProofs;refine gO aU tI tI ?_;refine ae.dx (TK bh id5 D a e M B) (k0:=((List.range M.length).filter (fun i=>decide (i ∉ ([]:List Nat)))).length) ⟨[],rfl,fun i x X=>(by cases X),rfl,rfl⟩ (aS.mk (by simp)) (lR _) ?_;rintro m f σ' ⟨done,hm,av,hσ,rfl⟩;have F:σ' id5=some (.cells 169 [.sc (.int .i64 a),.sc (.int .i64 e)]):=by rw[hσ];simp[l,a3]
  have a1:σ' bh=some (.map (iQ (mV M))):=by rw[hσ];simp[u,a2]
  have a9:σ' D=some (.jN bh M.length done):=by rw[hσ];simp
  refine gO aU @a9 tI ?_;refine L5 a1 hlen (fun hd=> ?_) (fun i X a8=> ?_)
  ·simp-implicitDefEqProofs;refine gO aU tI tI ?_;have a7:M.any (ov a e)=false:=by rw[List.any_eq_false];intro x hx;obtain⟨i,X,rfl⟩:=List.getElem_of_mem hx;rw[av i _ (hd i X) (List.getElem?_eq_getElem X)];simp
   rw[a7];exact⟨Wk.refl _,by rw[hσ];exact aq A hle⟩
  ·obtain⟨⟨k',a',e'⟩,hx⟩:∃x,M[i]? =some x:=⟨_,List.getElem?_eq_getElem X⟩;have hg:(iQ (mV M))[i]? =some (.sc (.int .i64 k'),.agg [.sc (.int .i64 a'),.sc (.int .i64 e')]):=by simp[iQ,mV,hx,Dl]
   have H:=Md X a8;rw[←hm]at H;rw[show(iQ (mV M)).getD i (.any,.any)=(.sc (.int .i64 k'),.agg [.sc (.int .i64 a'),.sc (.int .i64 e')]) by rw[List.getD_eq_getElem?_getD,hg];rfl];simp-implicitDefEqProofs;refine gO aU (j4 @a1 @hg @hlen u) tI ?_;intro K bc L;have o:¬id5=K:=nq F L;have w:ov a e (k',a',e')=false→ ∀i' x,i'∈i::done→M[i']? =some x→ov a e x=false:=by
    intro h i' x V U;rcases List.mem_cons.1 V with rfl|V
    ·rw[hx]at U;cases U;exact h
    ·exact av i' x V U
   have v:AS.le (B.set D (.jN bh M.length (i::done))) ((σ'.set D (.jN bh M.length (i::done))).set K (.cells 169 [.sc (.int .i64 a'),.sc (.int .i64 e')])):=by
    refine aq (by simp[AS.set,bc,L]) ?_;rw[hσ];intro j y hj;by_cases ej:j=D
    ·simpa[AS.set,ej]using hj
    ·simpa[AS.set,ej]using hj
   by_cases Y:a<e'
   ·by_cases c2:a'<e
    ·by_cases c3:a<e
     ·by_cases c4:a'<e'
      ·refine gO aU (j7 @Y @c2 @c3 @c4 l o @F) tI ?_;have:M.any (ov a e)=true:=List.any_eq_true.2 ⟨_,List.mem_of_getElem? hx,by simp[ov,Y,c2,c3,c4]⟩;rw[this];refine⟨Wk.refl _,?_⟩;exact AS.le_trans (aq A hle) v
      ·refine gO aU (j7 @Y @c2 @c3 @c4 l o @F) tI ?_;exact⟨_,_,_,H,aS.mk (by simp),v,i::done,rfl,w (by simp[ov,c4]),rfl,rfl⟩
     ·refine gO aU (j6 @Y @c2 @c3 l o @F) tI ?_;exact⟨_,_,_,H,aS.mk (by simp),v,i::done,rfl,w (by simp[ov,c3]),rfl,rfl⟩
    ·refine gO aU (j5 @Y @c2 l o @F) tI ?_;exact⟨_,_,_,H,aS.mk (by simp),v,i::done,rfl,w (by simp[ov,c2]),rfl,rfl⟩
   ·refine gO aU (j4 @Y l o @F) tI ?_;exact⟨_,_,_,H,aS.mk (by simp),v,i::done,rfl,w (by simp[ov,Y]),rfl,rfl⟩
 ·refine gO aU (j6 @Z @hT @h1 @h2 @G q) tI ?_;exact hle
theorem IT (id:Nat) (σ:AS):aa Tryz.prog 145 [.ptr id 0] σ (ao (.ptr id 0) σ) No:=by refine aa.ob Tryz.func145 ?_;exact gE aU tI tI
theorem Gy (id:Nat) (σ:AS):aa Tryz.prog 146 [.ptr id 0] σ (ao (.ptr id 1) σ) No:=by refine aa.ob Tryz.func146 ?_;exact gE aU tI tI
theorem Gz (id:Nat) (σ:AS):aa Tryz.prog 147 [.ptr id 0] σ (ao (.ptr id 2) σ) No:=by refine aa.ob Tryz.func147 ?_;exact gE aU tI tI
theorem IZ (id:Nat) (σ:AS):aa Tryz.prog 148 [.ptr id 0] σ (ao (.ptr id 3) σ) No:=by refine aa.ob Tryz.func148 ?_;exact gE aU tI tI
theorem vu (id:Nat) (k:Nat) (o:k<4) (σ:AS):aa Tryz.prog 80 [.ptr id 0,.sc (.int .i64 k)] σ (ao (.ptr id k) σ) No:=by
 have l:=IT id σ;have j:=Gy id σ;have i:=Gz id σ;have h:=IZ id σ
 match k,o with
 |0,_ =>refine aa.ob Tryz.func80 ?_;exact gE aU tI @l
 |1,_ =>refine aa.ob Tryz.func80 ?_;exact gE aU tI @j
 |2,_ =>refine aa.ob Tryz.func80 ?_;exact gE aU tI @i
 |3,_ =>refine aa.ob Tryz.func80 ?_;exact gE aU tI @h
end St
end Go.Proofs.YtknalmoackcpbaaGreat
