/- Chapter 05: what the program's own functions give, told without owners; the examples hold. -/
import Derived.Test.YtknalmoackcpbaaGreatBody3
set_option maxRecDepth 100000
set_option maxHeartbeats 3200000
set_option linter.all false
open Go Go.AW
namespace Go.Proofs.YtknalmoackcpbaaGreat
namespace Sg
open Tryz
theorem ur {P:Program}{f:FuncId}{args:List AV}{σ:AS}{g:Nat→AV}{n:Nat}{v:AV}(h:ad P f args σ (gy g n σ) No) (hw:∀j,AV.Wk P (g j) v):ad P f args σ (aq v σ) No:=
 ⟨h.body,fun G w vals o l=>(h.run G w vals o l).mono fun e w' he=>by
  unfold jC at he⊢;split at he
  ·obtain⟨G',σ',r,a,b,c,j,h0,rfl,rfl⟩:=he;exact⟨G',σ,v,a,b.weaken (AS.ao (AS.le_refl _) h0),hw j _ _ c,rfl,rfl⟩
  ·obtain⟨x,y,G',σ',r,a,b,c,d⟩:=he;exact d.elim
  ·exact he.elim⟩
theorem zc (b:zY) (l:b≠ []) (j:Nat):AV.Wk prog (.cp [.ah 5 (b.map u8) (.tok j) false,zI 0]) (.cp [bL b,zI 0]):=dt (po _ _ _ (by simp[l])) (Wk.refl _)
def iJ (t:Ty):Except Int (zY):=if aV t=true then .ok (dN t)else .error 17
def fX (t:Ty):Except Int (zY):=if cq t=true then .ok (6::dN t)else .error 17
theorem Gq (t:Ty):dN t≠ []:=by
 unfold dN wA;intro h;have j:=(List.append_eq_nil_iff.1 (List.append_eq_nil_iff.1 h).2).2;revert j
 repeat' split
 all_goals simp
theorem I1 (t:Ty) (σ:AS):ad prog 64 [cB t] σ (aq (.cp [bL (bI (iJ t)),zI (fW (iJ t))]) σ) No:=by
 unfold iJ;by_cases h:aV t=true
 ·rw[if_pos h];exact ur (NS t h σ) fun j=>zc _ (Gq t) j
 ·rw[if_neg h];exact(Lj t (by simpa using h) σ).told (dt gx (Wk.refl _))
theorem kP (t:Ty) (σ:AS):ad prog 62 [cB t] σ (aq (.cp [bL (bI (fX t)),zI (fW (fX t))]) σ) No:=by
 unfold fX;by_cases h:cq t=true
 ·rw[if_pos h];exact ur (oV t h σ) fun j=>zc _ (by simp) j
 ·rw[if_neg h];exact(nw t (by simpa using h) σ).told (dt gx (Wk.refl _))
theorem oU (l:List Ty) (o:cA) (nl:Bool) (hl:l.length≤100000) (σ:AS):ad prog 65 [.ah 49 (l.map cB) o nl] σ
 (aq (.cp [bL (bI (cD l)),zI (fW (cD l))]) σ) No:=by
 unfold cD;by_cases h:12<l.length
 ·rw[if_pos h];exact(vU l o nl h (by omega) σ).told (dt gx (Wk.refl _))
 ·rw[if_neg h];by_cases j:l.all aX=true
  ·rw[if_pos j];exact ur (ze l o nl (by omega) j σ) fun n=>zc _ (by simp[L3]) n
  ·rw[if_neg j];exact(wL l o nl (by omega) (by simpa using j) σ).told (dt gx (Wk.refl _))
theorem Bi (j:Bool) (l:List Ty) (r:Ty) (o:cA) (nl:Bool) (hl:l.length≤100000) (σ:AS):
 ad prog 137 [.agg [zB j,.ah 49 (l.map cB) o nl,zI r.kind,zI r.index,zI r.cT,.sc (.bool r.ref)]] σ
 (aq (.cp [bL (bI (eS ⟨j,l,r⟩)),zI (fW (eS ⟨j,l,r⟩))]) σ) No:=by
 unfold eS;by_cases h:6<l.length
 ·rw[if_pos h];exact(Bh j l r o nl h (by omega) σ).told (dt gx (Wk.refl _))
 ·rw[if_neg h];by_cases n:(l.all aX&&cG r)=true
  ·rw[if_pos n];exact ur (FZ j l r o nl (by omega) n σ) fun q=>zc _ (by simp[LB]) q
  ·rw[if_neg n];exact(C1 j l r o nl (by omega) (by simpa using n) σ).told (dt gx (Wk.refl _))
theorem G6 (t:Ty) (h:aV t=true) (σ:AS):ad prog 82 [cB t] σ (aq (bL (dN t)) σ) No:=
 ur (eN t h σ) fun j=>po _ _ _ (by simp[Gq])
end Sg
namespace Im
open Tryz
theorem kQ (S:List Nat):cu prog [(6,(.S 0 (.S 1 (.S 2 (.S 3 (.R 4 (.A 5 (.S 6 .D) .Z)))))))] S:=mixed
open Sg (aE bL Bi bI fW eS)
open Pl (sV)
open Rg (Cl jg bw)
open Cd (oO kS kV bE cW)
open Bd (R6 dx b8 bP)
def sx (sp:List Ty) (co:zY) (m:Mt):List Ty×zY×Int:=
 if m.code= []then(sp,co,0)else(xS sp m,qz co (xR sp m)++xR sp m,(qz co (xR sp m)).length+1)
def xU (lo:List (List Ty)) (m:Mt):List (List Ty)×Int:=if m.ls= []then(lo,0)else(jJ lo m.ls,kU lo m.ls)
def Lz (m:Mt):Sg.Sg:=⟨decide (m.flags%2=0),m.ps,m.ret⟩
structure I3 (sp:List Ty) (m:Mt):Prop where
 code:m.code.length≤160
 cls:m.cls.length≤100
 cn:m.cn=true→m.code= []
 ln:m.ln=true→m.ls= []
 C:m.code≠ []→ ∀c∈m.cls,F5 (tz sp m) c
 W:m.code≠ []→bP (wP sp m) (Lt sp m)=true
 fl:0≤m.flags∧m.flags≤31
 ps:m.ps.length≤100000
 ls:m.ls.length≤1000
variable {k:SK} {g:bZ} {d:SD} {T:SR} {B τ:AS}
theorem SI.body (h:SI k g d T B τ) (m:Mt) (hm:I3 d.sp m) (o:d.sp.length≤80000) (n:d.co.length≤100000000):
 ad prog 136 [.ptr k.aF 0,fM m] τ (fun r l=>r=zI ((sx d.sp d.co m).2.2)∧SI k g { d with sp:=(sx d.sp d.co m).1,co:=(sx d.sp d.co m).2.1 } T B l) No:=by
 by_cases j:m.code= []
 ·have:=h.IH m j;simp only[sx,j,if_true];exact this
 ·have:=h.IG m (List.length_pos_iff.2 j) hm.code hm.cls hm.cn (hm.C j) (hm.W j) o n;simp only[sx,if_neg j];exact this
def U6 (k:SK) (g:bZ) (d:SD) (T:SR) (B:AS) (m:Mt) (r:AV) (j:AS):Prop:=
 r= .cp []∧ ∃l,SI k g ⟨(sx d.sp d.co m).1,(xU d.lo m).1,d.nm++ [m.name],d.bl++ [bI (eS (Lz m))],(sx d.sp d.co m).2.1⟩ l B j∧
  cH l=(cH T).modify 2 (· ++ [[(sx d.sp d.co m).2.2,m.flags,m.max,(d.nm.length:Int),(d.bl.length:Int),(xU d.lo m).2]])
theorem SI.method (h:SI k g d T B τ) (m:Mt) (hm:I3 d.sp m) (hd:d.sp.length≤80000) (O:d.co.length≤100000000) (al:d.nm.length≤90000) (ay:d.bl.length≤90000) (am:d.lo.length≤90000) (E:∀x∈d.lo,x.length≤1000000) (hT:∀y∈cH T,y.length≤90000):
 ad prog 63 [.ptr k.aF 0,fM m] τ (U6 k g d T B m) No:=by
 have ar:=hm.fl;have hand:zW (oN 64 m.flags 1)=m.flags%2:=by have h1:=A9 (w:=64) (a:=m.flags) 1 (by omega) (by omega) (by omega);rw[show((2:Int)^1-1)=1 from rfl,show((2:Int)^1)=2 from rfl]at h1;rw[h1];exact aI (by omega) (by omega)
 have L:=fun σ=>Bi (decide (m.flags%2=0)) m.ps m.ret .aJ m.pn hm.ps σ;refine ad.ob func63 ?_;simp only[aT];refine gO kQ tI tI ?_;intro n l;have Z:=h.own (b:= .cells 53 (fM m).cells) l;simp only[aT,bq]at Z;have q:=AS.ao (b:= .cells 53 (fM m).cells) (lR B) (h.my l);have D:(B.set n (.cells 53 (fM m).cells)) n=some (.cells 53 (fM m).cells):=AS.aD _ _ _;simp only[aT,bq]at D q;generalize (B.set n (.cells 53 [zS m.name,zI m.owner,zI m.flags,.ah 49 (m.ps.map cB) .aJ m.pn,zI m.ret.kind,zI m.ret.index,zI m.ret.cT,.sc (.bool m.ret.ref),.ah 49 (m.ls.map cB) .aJ m.ln,zI m.max,.ah 110 (m.code.map bJ) .aJ m.cn,.ah 158 (m.cls.map jg) .aJ m.xn]))=A at*;have V:=Z.body m hm hd O;simp only[aT]at V;refine gO kQ tI tI ?_;refine aj.of V ?_ (fun _ _ h=>h.elim);rintro r ac ⟨rfl,Y⟩;have r3:=Y.le _ _ D;simp-implicitDefEqProofs;refine gO kQ @r3 tI ?_;refine aj.of (Y.name m.name (by simp only;omega)) ?_ (fun _ _ h=>h.elim);rintro r ab ⟨rfl,X⟩;have r4:=X.le _ _ D;simp-implicitDefEqProofs;refine gO kQ (j2 @r4 @hand) @L ?_;refine aj.of (X.yU (bI (eS (Lz m))) _ (by simp only;omega)) ?_ (fun _ _ h=>h.elim);rintro r I ⟨rfl,P⟩;have J:=P.le _ _ D;simp-implicitDefEqProofs;refine gO (S:= [5]) kQ tI tI ?_;have ap:((0:Int)<m.ls.length)=(m.ls≠ []):=by rw[←List.length_pos_iff];simp
 (with_reducible apply aA.region);simp-implicitDefEqProofs [J]
 repeat (with_reducible refine j2 (by first|omega|assumption|decide) ?_)
 try (with_reducible apply aA.seq)
 refine Sg.Fv (α:=AS) (fun v=>SI k g ⟨(sx d.sp d.co m).1,(xU d.lo m).1,d.nm++ [m.name],d.bl++ [bI (eS (Lz m))],(sx d.sp d.co m).2.1⟩ T A v) (fun v=> [(0,.ptr k.aF 0),(3,.ptr n 0),(4,zI ((sx d.sp d.co m).2.2)),(5,zI d.nm.length),(6,zI d.bl.length),(7,zI ((xU d.lo m).2))]) (fun v=>v) ?_ ?_
 ·by_cases j:m.ls= []
  ·have K:xU d.lo m=(d.lo,0):=by simp[xU,j]
   rw[K];have U:¬(0<m.ls.length):=by rw[j];simp
   refine gO kQ @j tI ?_;refine oI.mk (I) (gF tI) gT ?_;try dsimp only
   exact P
  ·have K:xU d.lo m=(jJ d.lo m.ls,kU d.lo m.ls):=by simp[xU,j]
   rw[K];have F:m.ln=false:=by
    cases hc:m.ln with
    |false=>rfl
    |true=>exact absurd (hm.ln hc) j
   have U:0<m.ls.length:=List.length_pos_iff.2 j;have o:=P.RO m.ls (by have:=hm.ls;omega) E (by simp only;omega);simp only[eO,j,decide_false]at o;rw[F]at J;refine gO kQ (j3 @J @U @F) tI ?_;refine aj.of o ?_ (fun _ _ h=>h.elim);rintro r u ⟨rfl,G⟩;simp-implicitDefEqProofs;refine oI.mk (u) (gF tI) gT ?_;try dsimp only
   exact G
 ·intro u G;have r6:=G.le _ _ D
  with_reducible apply aA.dB
  refine bQ.first 9 ?_;simp-implicitDefEqProofs [r6];refine bQ.sp rfl (iD.kI ?_ ?_)
  ·decide
  simp-implicitDefEqProofs [bF,fR,aR];intro id M;have Q:=G.iW (t:=2) (vals:= [(sx d.sp d.co m).2.2,m.flags,m.max,(d.nm.length:Int),(d.bl.length:Int),(xU d.lo m).2]) (by omega) M (oZ fun y hy=>Nat.le_trans (hT y hy) (by omega));simp only[List.map_cons,List.map_nil,aG,List.length_cons,List.length_nil,Nat.reduceAdd,Int.cast_ofNat_Int]at Q;refine bQ.rest ?_;simp-implicitDefEqProofs;refine aj.of Q ?_ (fun _ _ h=>h.elim);rintro r H ⟨rfl,h8⟩;simp-implicitDefEqProofs;refine⟨_,H,Wk.refl _,lR _,rfl,_,h8.drop q,kf _ _ _⟩
open Tryz
open Sg (aE bL bI fW fX iJ cD I1 kP oU)
open Pl (sV)
structure Sv where
 sp:List Ty
 lo:List (List Ty)
 co:zY
def mI:Sv:=⟨[],[],[]⟩
def vY (s:Sv) (m:Mt):Sv×Int×Int:=(⟨(sx s.sp s.co m).1,(xU s.lo m).1,(sx s.sp s.co m).2.1⟩,(sx s.sp s.co m).2.2,(xU s.lo m).2)
def dw:Sv→List Mt→Sv×List (Int×Int)
 |s,[]=>(s,[])
 |s,m::r=>((dw (vY s m).1 r).1,(vY s m).2::(dw (vY s m).1 r).2)
theorem uw:∀(l r:List Mt) (s:Sv),dw s (l++r)=((dw (dw s l).1 r).1,(dw s l).2++(dw (dw s l).1 r).2)
 |[],r,s=>rfl
 |m::l,r,s=>by simp[dw,uw l r]
theorem ef:∀(l:List Mt) (s:Sv),(dw s l).2.length=l.length
 |[],s=>rfl
 |m::l,s=>by simp[dw,ef l]
def qi (g:bZ) (nm:Nat→Int) (k:Nat) (t:TD):List Int:= [t.flags,nm k,4*(t.ext+1),dk (g.fs.map (·.owner)) k,dk (g.ms.map (·.owner)) k]
def lx (g:bZ) (nm bl:Nat→Int) (i:Nat) (f:Fd):List Int:= [if f.stat=true then 1 else 0,nm (g.ts.length+i),bl i]
def oh (g:bZ) (nm bl:Nat→Int) (i:Nat) (x:Mt×Int×Int):List Int:= [x.2.1,x.1.flags,x.1.max,nm (g.ts.length+g.fs.length+i),bl (g.fs.length+i),x.2.2]
def kJ (b:Nat) (bl:Nat→Int) (i:Nat):List Int:= [bl (b+i)]
def bt (g:bZ) (nm:Nat→Int):List (List Int):=g.ts.mapIdx (qi g nm)
def bK (g:bZ):List (List (List Int)):=g.ts.mapIdx eJ
def bu (g:bZ) (nm bl:Nat→Int):List (List Int):=g.fs.mapIdx (lx g nm bl)
def bM (g:bZ) (nm bl:Nat→Int):List (List Int):=(g.ms.zip (dw mI g.ms).2).mapIdx (oh g nm bl)
def bp (i:Nat):Int:=i
variable {k:SK} {g:bZ} {d:SD} {T:SR} {B τ:AS}
def xM (k:SK) (g:bZ) (B:AS) (i:Nat) (j:AS):Prop:= ∃l,SI k g ⟨[],[],(g.ts.take i).map (·.name),[],[]⟩ l B j∧cH l= [(bt g bp).take i,[],[],((bK g).take i).flatten,[],[]]
def xL (k:SK) (g:bZ) (B:AS) (i:Nat) (j:AS):Prop:= ∃l,SI k g ⟨[],[],g.ts.map (·.name)++(g.fs.take i).map (·.name),(g.fs.take i).map (fun f=>bI (fX f.ty)),[]⟩ l B j∧cH l= [bt g bp,(bu g bp bp).take i,[],(bK g).flatten,[],[]]
def rq (g:bZ) (i:Nat):List (zY):=g.ts.map (·.name)++g.fs.map (·.name)++(g.ms.take i).map (·.name)
def xE (g:bZ) (i:Nat):List (zY):=g.fs.map (fun f=>bI (fX f.ty))++(g.ms.take i).map (fun m=>bI (Sg.eS (Lz m)))
def s6 (k:SK) (g:bZ) (B:AS) (i:Nat) (j:AS):Prop:= ∃l,SI k g ⟨(dw mI (g.ms.take i)).1.sp,(dw mI (g.ms.take i)).1.lo,rq g i,xE g i,(dw mI (g.ms.take i)).1.co⟩ l B j∧
 cH l= [bt g bp,bu g bp bp,(bM g bp bp).take i,(bK g).flatten,[],[]]
def cI (g:bZ):Sv:=(dw mI g.ms).1
def CG (g:bZ):List (zY):=xE g g.ms.length
def cw (g:bZ) (bl:Nat→Int):List (List Int):=(List.range (cI g).sp.length).map (kJ (g.fs.length+g.ms.length) bl)
def cY (g:bZ) (bl:Nat→Int):List (List Int):=(List.range (cI g).lo.length).map (kJ (g.fs.length+g.ms.length+(cI g).sp.length) bl)
def Bn (k:SK) (g:bZ) (B:AS) (i:Nat) (j:AS):Prop:= ∃l,SI k g ⟨(cI g).sp,(cI g).lo,rq g g.ms.length,CG g++((cI g).sp.take i).map (fun t=>bI (iJ t)),(cI g).co⟩ l B j∧
 cH l= [bt g bp,bu g bp bp,bM g bp bp,(bK g).flatten,(cw g bp).take i,[]]
def Bq (g:bZ):List (zY):=CG g++(cI g).sp.map (fun t=>bI (iJ t))
def Ee (k:SK) (g:bZ) (B:AS) (i:Nat) (j:AS):Prop:= ∃l,SI k g ⟨(cI g).sp,(cI g).lo,rq g g.ms.length,Bq g++((cI g).lo.take i).map (fun t=>bI (cD t)),(cI g).co⟩ l B j∧
 cH l= [bt g bp,bu g bp bp,bM g bp bp,(bK g).flatten,cw g bp,(cY g bp).take i]
structure tu (g:bZ):Prop where
 ts:g.ts.length≤32
 fs:g.fs.length≤64
 ms:g.ms.length≤64
 t:∀t∈g.ts,(-1≤t.ext∧t.ext≤32)∧t.bO.length≤4∧ ∀x∈t.bO,0≤x∧x≤32
 m:∀i (h:i<g.ms.length),I3 (dw mI (g.ms.take i)).1.sp g.ms[i]
 sp:∀i,(dw mI (g.ms.take i)).1.sp.length≤20000
 lo:∀i,(dw mI (g.ms.take i)).1.lo.length≤64
 lA:∀i,∀x∈(dw mI (g.ms.take i)).1.lo,x.length≤1000
 co:∀i,(dw mI (g.ms.take i)).1.co.length≤100000000
 en: -1≤g.entry∧g.entry≤64
theorem ff {α β:Type}(f:Nat→α→β) (l:List α) {i:Nat}(h:i<l.length):(l.mapIdx f).take (i+1)=(l.mapIdx f).take i++ [f i l[i]]:=by rw[List.take_succ_eq_append_getElem (by simpa using h)];simp
theorem na {g:bZ}(h:tu g) (i:Nat):(((bK g).take i).flatten).length≤4*i:=by
 induction i with
 |zero=>simp
 |succ i l=>
  by_cases j:i<g.ts.length
  ·have:=ff eJ g.ts j;have o:=(h.t g.ts[i] (List.getElem_mem j)).2.1;unfold bK at l⊢;rw[this,List.flatten_append,List.length_append];have n:([eJ i g.ts[i]].flatten).length=g.ts[i].bO.length:=by simp[eJ]
   omega
  ·have e:(bK g).take (i+1)=(bK g).take i:=by
    have:(bK g).length=g.ts.length:=by simp[bK]
    rw[List.take_of_length_le (by omega),List.take_of_length_le (by omega)]
   rw[e];omega
theorem SI.S7 (n:tu g) (i:Nat) (l:i<g.ts.length) (h:xM k g B i τ):ad prog 58 [.ptr k.aF 0,zI i,jD g.ts[i]] τ (fun r j=>r= .cp []∧xM k g B (i+1) j) No:=by
 obtain⟨G,D,u⟩:=h;have ht:=n.t g.ts[i] (List.getElem_mem l);have w:=n.ts;have A:=na n i;refine(D.Ui i g.ts[i] (by omega) (by omega) (by omega) (fun x v=>by have:=ht.2.2 x v;omega) (by simp;omega) ?_ (by have:=n.fs;omega) (by have:=n.ms;omega)).mono ?_ (fun _ _ h=>h)
 ·rw[u];intro y q;simp only[List.mem_cons,List.not_mem_nil,or_false]at q;rcases q with rfl|rfl|rfl|rfl|rfl|rfl
  ·simp[bt];omega
  ·simp
  ·simp
  ·omega
  ·simp
  ·simp
 ·rintro r j ⟨rfl,F,E,o⟩;refine⟨rfl,F,?_,?_⟩
  ·rw[List.take_succ_eq_append_getElem l,List.map_append];exact E
  ·rw[o,u];unfold bt bK;rw[ff _ _ l,ff _ _ l,List.flatten_append];simp[qi,bp,Nat.min_eq_left (Nat.le_of_lt l)]
open Tryz
abbrev fL:dW:=(.S 0 (.S 1 (.S 3 (.S 7 (.S 8 (.S 10 (.S 16 (.S 17 (.R 2 (.S 4 (.S 5 (.R 6 (.R 9 (.S 11 (.S 12 (.R 13 (.S 14 (.S 15 (.S 18 (.W 19 (.S 20 .D) .Z))))))))))))))))))))
abbrev gV:dW:=(.S 0 (.S 1 (.S 2 (.S 3 (.S 5 (.S 6 (.S 7 (.S 8 (.S 12 (.S 13 (.R 9 (.S 10 (.R 11 (.A 4 (.A 14 (.S 15 (.A 16 .D .Z)) .Z) (.A 14 (.R 4 (.S 15 (.A 16 .D .Z))) .Z)))))))))))))))
abbrev eA:dW:=(.S 0 (.S 1 (.S 2 (.S 3 (.S 5 (.S 6 (.S 7 (.S 8 (.S 12 (.S 13 (.R 9 (.S 10 (.R 11 (.A 4 (.A 14 (.S 15 (.A 16 .D .Z)) .Z) (.A 14 (.R 4 (.S 15 (.A 16 .D .Z))) .Z)))))))))))))))
theorem hU (S:List Nat):cu prog [(18,fL),(19,eA),(25,eA)] S:=mixed
open Sg (aE bL)
open Pl (sV)
def cO (l:List Int) (k:Int):Int:=((l.filter (fun o=>decide (o<k))).length:Int)+1
theorem DY {l:List Int}{k:Int}{j:Nat}(h:j<l.length):cO (l.take (j+1)) k=if l[j]<k then cO (l.take j) k+1 else cO (l.take j) k:=by unfold cO;rw[List.take_succ_eq_append_getElem h,List.filter_append];by_cases c:l[j]<k<;>simp[c]<;>omega
theorem Md (l:List Int) (k:Int):1≤cO l k∧cO l k≤l.length+1:=by unfold cO;have:=List.length_filter_le (fun o=>decide (o<k)) l;omega
theorem vL:∀ {l:List Int}{k:Int},l.Pairwise (· ≤ ·)→cO l k=dk l k
 |[],k,_ =>by simp[cO,dk]
 |a::r,k,h=>by
  obtain⟨h1,n⟩:=List.pairwise_cons.1 h;by_cases c:a<k
  ·have:=vL (k:=k) n;simp only[cO,dk]at this⊢;simp only[List.filter_cons,List.takeWhile_cons,c,decide_true,if_true,List.length_cons];omega
  ·have hf:r.filter (fun o=>decide (o<k))= []:=by rw[List.filter_eq_nil_iff];intro x j;have:=h1 x j;simp;omega
   simp[cO,dk,List.filter_cons,List.takeWhile_cons,c,hf]
theorem Fi (l:List Int):aR (l.map bg)=l.map bg:=by
 induction l with
 |nil=>rfl
 |cons a r j=>simp only[List.map_cons,aR,List.flatMap_cons]at j⊢;rw[j];rfl
theorem pZ {vals:List Int}{v:AV}{S τ:AS}(h0:vals≠ []) (h:GV prog 3 (vals.map bg) v S τ):
 ∃p:DW,p.2.1=vals∧v=ud p∧S p.1=none∧τ=S.set p.1 (mJ p):=by
 rcases h with⟨h1,_⟩|⟨id,cap,n,w,o,ht,u,j⟩
 ·simp[h0]at h1
 ·have fl:∀ {l:List AV},(∀x∈l,x.cells.length=Program.cellsOf prog 3)→(aR l).length=l.length:=fun {l} hl=>by rw[eU (m:=1) (fun v o=>by rw[hl v o];rfl)];omega
  have y:=Fi vals;refine⟨(id,vals,aR n),rfl,?_,w,?_⟩
  ·rw[o,eQ];simp only[List.length_map];rw[fl (fun x q=>u x (List.mem_append_right _ q)),←j];simp
  ·rw[ht,mJ,jm,y]
variable {k:SK} {en:Int} {g:bZ} {d:SD} {T:DR} {B τ:AS}
theorem DI.BA (h:DI k en d T B τ) {t:Nat}(ht:t<6):∃x,T[t]? =some x∧(T.map pB)[t]? =some (.ah 44 (x.2.map ud) (.tok x.1) (decide (x.2= [])))∧τ x.1=some (.tok x.2.length)∧ ¬k.bj=x.1∧ ¬x.1=k.bj∧ ¬k.aF=x.1∧ ¬x.1=k.aF∧(T.map pB).length=6∧ ¬k.aF=k.bj∧ ¬k.bj=k.aF∧x∈T:=by have l:T[t]? =some (T[t]'(by rw[h.qj];exact ht)):=List.getElem?_eq_getElem _;have j:T[t]'(by rw[h.qj];exact ht)∈T:=List.getElem_mem _;generalize T[t]'(by rw[h.qj];exact ht)=x at l j;obtain⟨o,n,_⟩:=h.zr j;have hn:=h.ne.1;exact⟨x,l,by rw[List.getElem?_map,l];rfl,h.vX x j,fun e=>n e.symm,n,fun e=>o e.symm,o,by simpa using h.qj,hn,fun e=>hn e.symm,j⟩
theorem lZ {R:List AV}{t:Nat}{v:AV}(h:t<R.length):R.take t++v::R.drop (t+1)=R.set t v:=by rw[List.set_eq_take_append_cons_drop,if_pos h]
theorem set_tail {R:List AV}{v:AV}(h:0<R.length):v::R.tail=R.set 0 v:=by cases R with|nil=>simp at h|cons a r=>rfl
theorem ku {T:DR}{n:Nat}(h:∀y∈ed T,y.length≤n):∀x∈T,x.2.length≤n:=fun x j=>by have:=h _ (List.mem_map.2 ⟨x,j,rfl⟩);simpa using this
def Tm (k:SK) (en:Int) (g:bZ) (B:AS) (i:Nat) (j:AS):Prop:= ∃l,DI k en ⟨[],[],(g.ts.take i).map (·.name),[],[]⟩ l B j∧ed l= [(bt g bp).take i,[],[],((bK g).take i).flatten,[],[]]
theorem DI.types (hO:tu g) (cb:(g.fs.map (·.owner)).Pairwise (· ≤ ·)) (ca:(g.ms.map (·.owner)).Pairwise (· ≤ ·)) (h:Tm k en g B 0 τ):
 ad prog 34 [.ptr k.aF 0,lp g] τ (fun r D=>r= .cp []∧Tm k en g B g.ts.length D) No:=by
 have c9:=hO.ts;have d9:=hO.fs;have dl:=hO.ms;obtain⟨T0,h0,cv⟩:=h;refine ad.ob func34 ?_;simp only[aN];refine gO hU tI tI ?_;intro G K;have h1:=h0.own (b:= .cells 26 (lp g).cells) K;have hB:AS.le B (B.set G (.cells 26 (lp g).cells)):=AS.ao (lR _) (iN h0.le K);have k3:(B.set G (.cells 26 (lp g).cells)) G=some (.cells 26 (lp g).cells):=by simp
 generalize (B.set G (.cells 26 (lp g).cells))=A at h1 hB k3;simp only[aN,bq]at h1 k3;generalize (τ.set G (.cells 26 [.ah 46 (g.ts.map jD) .aJ g.tn,.ah 56 (g.fs.map lu) .aJ g.fn,.ah 53 (g.ms.map fM) .aJ g.mn,zI g.entry]))=bb at h1⊢;clear K;refine gO hU tI tI ?_;refine aA.aY (α:=(Nat)×(DR)×(AS)) ((0,T0,bb)) (fun⟨i,Q,D⟩=>g.ts.length-i) (fun⟨i,Q,D⟩=>i≤g.ts.length∧DI k en ⟨[],[],(g.ts.take i).map (·.name),[],[]⟩ Q A D∧ed Q= [(bt g bp).take i,[],[],((bK g).take i).flatten,[],[]]) [(0,?_),(3,?_)] (fun⟨i,Q,D⟩=> [(4,zI i)]) (fun⟨i,Q,D⟩=>D) ?_ ?_ ?_ ?_;rotate_left 2
 ·exact gF tI
 ·(try dsimp only);exact lR _
 ·exact⟨by omega,h1,cv⟩
 intro x_ w;obtain⟨i,Q,D⟩:=x_;try dsimp only at w⊢
 obtain⟨hi,hS,hT⟩:=w;simp only[fm];have U:=hS.le G _ k3;by_cases E:i<g.ts.length
 ·have n:zW ((i:Int)+1)=((i+1:Nat):Int):=bh (by omega);refine gO hU (j3 E @U @ae) tI ?_;refine aA.aY (α:=(Nat)) (0) (fun j=>g.fs.length-j) (fun j=>j≤g.fs.length) [(0,?_),(3,?_),(4,?_)] (fun j=> [(6,zI j),(5,zI (cO ((g.fs.map (·.owner)).take j) i))]) (fun j=>D) ?_ ?_ ?_ ?_;rotate_left 3
  ·exact gF tI
  ·(try dsimp only);exact lR _
  ·exact Nat.zero_le _
  intro j w;try dsimp only at w⊢
  obtain hj:=w;simp only[fm];by_cases o:j<g.fs.length
  ·have u:zW ((j:Int)+1)=((j+1:Nat):Int):=bh (by omega);have V:=DY (l:=g.fs.map (·.owner)) (k:=i) (j:=j) (by simpa using o);rw[List.getElem_map]at V;have hb:=Md ((g.fs.map (·.owner)).take j) i;rw[List.length_take,List.length_map]at hb;generalize cj:cO ((g.fs.map (·.owner)).take j) i=c at*;have H:zW (c+1)=c+1:=aI (by omega) (by omega);by_cases v:g.fs[j].owner<i
   ·rw[if_pos v]at V;repeat (first
     |refine g1 ?_
     |((first|refine g2 ?_ |((with_reducible apply dX 18 fL);refine dY mixed ?_)|((with_reducible apply dX 19 gV);refine dY mixed ?_)|((with_reducible apply dX 25 eA);refine dY mixed ?_));simp-implicitDefEqProofs [o,U,dq,v,H,ae,au,n,u])
     |(refine g3 ?_;try simp-implicitDefEqProofs [o,U,dq,v,H,ae,au,n,u]))
    refine aH.mk (j+1) (by(try dsimp only);omega) (gF @V) gT ?_;try dsimp only
    exact o
   ·rw[if_neg v]at V;repeat (first
     |refine g1 ?_
     |((first|refine g2 ?_ |((with_reducible apply dX 18 fL);refine dY mixed ?_)|((with_reducible apply dX 19 gV);refine dY mixed ?_)|((with_reducible apply dX 25 eA);refine dY mixed ?_));simp-implicitDefEqProofs [o,U,dq,v,H,ae,au,n,u])
     |(refine g3 ?_;try simp-implicitDefEqProofs [o,U,dq,v,H,ae,au,n,u]))
    refine aH.mk (j+1) (by(try dsimp only);omega) (gF @V) gT ?_;try dsimp only
    exact o
  obtain rfl:j=g.fs.length:=by omega
  rw[List.take_of_length_le (by simp),vL cb];refine gO hU (j3 @o @U @ae) tI ?_;clear w o;refine aA.aY (α:=(Nat)) (0) (fun j=>g.ms.length-j) (fun j=>j≤g.ms.length) [(0,?_),(3,?_),(4,?_),(5,?_)] (fun j=> [(8,zI j),(7,zI (cO ((g.ms.map (·.owner)).take j) i))]) (fun j=>D) ?_ ?_ ?_ ?_;rotate_left 4
  ·exact gF tI
  ·(try dsimp only);exact lR _
  ·exact Nat.zero_le _
  intro j w;try dsimp only at w⊢
  obtain hj:=w;simp only[fm];by_cases o:j<g.ms.length
  ·have u:zW ((j:Int)+1)=((j+1:Nat):Int):=bh (by omega);have V:=DY (l:=g.ms.map (·.owner)) (k:=i) (j:=j) (by simpa using o);rw[List.getElem_map]at V;have hb:=Md ((g.ms.map (·.owner)).take j) i;rw[List.length_take,List.length_map]at hb;generalize cj:cO ((g.ms.map (·.owner)).take j) i=c at*;have H:zW (c+1)=c+1:=aI (by omega) (by omega);by_cases v:g.ms[j].owner<i
   ·rw[if_pos v]at V;repeat (first
     |refine g1 ?_
     |((first|refine g2 ?_ |((with_reducible apply dX 18 fL);refine dY mixed ?_)|((with_reducible apply dX 19 gV);refine dY mixed ?_)|((with_reducible apply dX 25 eA);refine dY mixed ?_));simp-implicitDefEqProofs [o,U,aT,v,H,ae,au,n,u])
     |(refine g3 ?_;try simp-implicitDefEqProofs [o,U,aT,v,H,ae,au,n,u]))
    refine aH.mk (j+1) (by(try dsimp only);omega) (gF @V) gT ?_;try dsimp only
    exact o
   ·rw[if_neg v]at V;repeat (first
     |refine g1 ?_
     |((first|refine g2 ?_ |((with_reducible apply dX 18 fL);refine dY mixed ?_)|((with_reducible apply dX 19 gV);refine dY mixed ?_)|((with_reducible apply dX 25 eA);refine dY mixed ?_));simp-implicitDefEqProofs [o,U,aT,v,H,ae,au,n,u])
     |(refine g3 ?_;try simp-implicitDefEqProofs [o,U,aT,v,H,ae,au,n,u]))
    refine aH.mk (j+1) (by(try dsimp only);omega) (gF @V) gT ?_;try dsimp only
    exact o
  obtain rfl:j=g.ms.length:=by omega
  rw[List.take_of_length_le (by simp),vL ca];have cs:=hO.t g.ts[i] (List.getElem_mem E);generalize J:g.ts[i]=t at*;generalize ch:dk (g.fs.map (·.owner)) i=nf at*;generalize cd:dk (g.ms.map (·.owner)) i=nm at*;refine gO (S:= [18]) hU (j6 @o @U E @J @cK @ae) tI ?_;refine aj.of (hS.name t.name (by simp;omega)) ?_ (fun _ _ h=>h.elim);rintro r a1 ⟨rfl,av⟩;have ce:((g.ts.take i).map (·.name)).length=i:=by simp;omega
  simp only[ce];have bs:=av.le G _ k3;simp-implicitDefEqProofs;have b4:zW (t.ext+1)=t.ext+1:=aI (by omega) (by omega);have b3:zW (4*(t.ext+1))=4*(t.ext+1):=aI (by omega) (by omega)
  with_reducible apply aA.seq
  (((with_reducible apply dX 18 fL);refine dY mixed ?_);simp-implicitDefEqProofs [bs,E,J,cK,b4,b3,ae,au,n])
  refine pG.lC (by decide) 3 [] ([t.flags,(i:Int),4*(t.ext+1),nf,nm].map bg) a1 (by simp) (by simp) (by simp) (by simp) (by simpa using GV.nil) (by simp[cy,underlying44,bg]) (by simp[bg]) (by simp[fF]) (by simp) ?_;intro v' c6 hG;obtain⟨p,af,rfl,M,rfl⟩:=pZ (vals:= [t.flags,(i:Int),4*(t.ext+1),nf,nm]) (by simp) (by simpa using hG);simp-implicitDefEqProofs;have ea:=na hO i;have X:∀y∈ed Q,y.length≤90000:=by
   rw[hT];intro y hy;simp only[List.mem_cons,List.not_mem_nil,or_false]at hy;rcases hy with rfl|rfl|rfl|rfl|rfl|rfl
   ·simp[bt];omega
   ·simp
   ·simp
   ·omega
   ·simp
   ·simp
  have h3:=av.own (b:=mJ p) M;have qs:=h3.aF;have qr:=h3.bj;rw[dG]at qs;obtain⟨x,hx,hR,ab,n1,n2,n3,n4,ar,n5,n6,ap⟩:=h3.BA (t:=0) (by omega);have hA:=av.iW (t:=0) (by omega) M hx;have ac:=ku X x ap;generalize Q.map pB=R at*;generalize a6:a1.set p.1 (mJ p)=S at*;rw[eQ]at hA;obtain⟨O,ak⟩:=List.getElem?_eq_some_iff.1 hR;obtain⟨I,P⟩:∃I,((S.set k.bj (.cells 94 (R.set 0 (.ah 44 (x.2.map ud++ [.dg p.1 0 p.2.1.length (p.2.1.length+p.2.2.length)]) (.tok x.1) false)))).set x.1 (.tok (x.2.length+1)))=I:=⟨_,rfl⟩;rw[P]at hA
  with_reducible apply aA.seq
  refine Sg.Fv (α:=Unit) (fun _ =>True) (fun _ => [(0,.ptr k.aF 0),(3,.ptr G 0),(4,zI i)]) (fun _ =>I) ?_ ?_
  ·(((with_reducible apply dX 19 gV);refine dY mixed ?_);simp-implicitDefEqProofs [eQ,qs,qr,hR,ak,O,ar,ab,n1,n2,n3,n4,n5,n6,ac,ae,au,n])
   repeat' (with_reducible apply j2)
   all_goals first|omega|skip
   all_goals
    refine oI.mk (()) (gF tI) (by(try dsimp only);exact le_eq (by rw[←P,set_tail O,AS.set_comm n2])) ?_;try dsimp only
  rintro _ _;clear h3 qs qr ab hR ak O a6 P;have a5:ed (jN Q 0 p)=(ed Q).modify 0 (· ++ [[t.flags,(i:Int),4*(t.ext+1),nf,nm]]):=by rw[kx,af]
  have a4:∀y∈ed (jN Q 0 p),y.length≤90001:=by rw[a5];exact mX X (by simp)
  generalize jN Q 0 p=T1 at*;clear M af hx ac X;refine gO hU tI tI ?_;refine aA.aY (α:=(Nat)×(DR)×(AS)) ((0,T1,I)) (fun⟨q,Z,F⟩=>t.bO.length-q) (fun⟨q,Z,F⟩=>q≤t.bO.length∧DI k en ⟨[],[],(g.ts.take i).map (·.name)++ [t.name],[],[]⟩ Z A F∧ed Z=(ed T1).modify 3 (· ++(eJ i t).take q)) [(0,?_),(3,?_),(4,?_)] (fun⟨q,Z,F⟩=> [(11,zI q)]) (fun⟨q,Z,F⟩=>F) ?_ ?_ ?_ ?_;rotate_left 3
  ·exact gF tI
  ·(try dsimp only);exact lR _
  ·exact⟨by omega,hA,by simp[modify_id]⟩
  intro x_ w;obtain⟨q,Z,F⟩:=x_;try dsimp only at w⊢
  obtain⟨hq,ai,Y⟩:=w;simp only[fm];have r5:=ai.le G _ k3;by_cases L:q<t.bO.length
  ·have al:zW ((q:Int)+1)=((q+1:Nat):Int):=bh (by omega);have d8:=cs.2.2 t.bO[q] (List.getElem_mem L);have ci:(eJ i t).take (q+1)=(eJ i t).take q++ [[(i:Int)+1,t.bO[q]+1]]:=by rw[List.take_succ_eq_append_getElem (by simpa[eJ]using L)];simp[eJ]
   have a3:∀y∈ed Z,y.length≤100000:=by rw[Y];exact mX a4 (by simp[eJ];omega)
   have b6:zW ((i:Int)+1)=(i:Int)+1:=aI (by omega) (by omega);have b5:zW (t.bO[q]+1)=t.bO[q]+1:=aI (by omega) (by omega);have db:∃y,t.bO[q]=y:=⟨_,rfl⟩;refine gO (S:= [24]) hU (j6 @L @r5 E @J @cK @ae) tI ?_
   with_reducible apply aA.dB
   refine bQ.first 14 ?_;simp-implicitDefEqProofs [b6,b5,L,r5,E,J,cK,iV];refine bQ.sp rfl (iD.lC (by decide) 3 [] ([(i:Int)+1,t.bO[q]+1].map bg) F (by simp) (by simp) (by simp) (by simp) (by simpa using GV.nil) (by simp[cy,underlying44,bg]) (by simp[bg]) (by simp[fF]) (by simp) ?_);intro v' c5 hG;obtain⟨p,af,rfl,M,rfl⟩:=pZ (vals:= [(i:Int)+1,t.bO[q]+1]) (by simp) (by simpa using hG);refine bQ.rest ?_;simp-implicitDefEqProofs;have X:=a3;have h3:=ai.own (b:=mJ p) M;have qs:=h3.aF;have qr:=h3.bj;rw[dG]at qs;obtain⟨x,hx,hR,ab,n1,n2,n3,n4,ar,n5,n6,ap⟩:=h3.BA (t:=3) (by omega);have hA:=ai.iW (t:=3) (by omega) M hx;have ac:=ku X x ap;generalize Z.map pB=R at*;generalize a6:F.set p.1 (mJ p)=S at*;rw[eQ]at hA;obtain⟨O,ak⟩:=List.getElem?_eq_some_iff.1 hR;obtain⟨I,P⟩:∃I,((S.set k.bj (.cells 94 (R.set 3 (.ah 44 (x.2.map ud++ [.dg p.1 0 p.2.1.length (p.2.1.length+p.2.2.length)]) (.tok x.1) false)))).set x.1 (.tok (x.2.length+1)))=I:=⟨_,rfl⟩;rw[P]at hA
   (((with_reducible apply dX 25 eA);refine dY mixed ?_);simp-implicitDefEqProofs [eQ,qs,qr,hR,ak,O,ar,ab,n1,n2,n3,n4,n5,n6,ac,ae,au,n,al])
   repeat' (with_reducible apply j2)
   all_goals first|omega|skip
   all_goals
    refine gO hU @al tI ?_;refine aH.mk ((q+1,jN Z 3 p,I)) (by(try dsimp only);omega) (gF tI) (by(try dsimp only);exact le_eq (by rw[←P,AS.set_comm n2];simp[lZ O])) ?_;try dsimp only
    refine⟨L,by rw[←List.map_take];exact hA,?_⟩;rw[kx,Y,pN,ci,af];simp
  ·have cc:q=t.bO.length:=by omega
   subst cc;refine gO hU (j7 @L @r5 E @J @cK @ae @n) tI ?_;refine aH.mk ((i+1,Z,F)) (by(try dsimp only);omega) (gF tI) gT ?_;try dsimp only
   refine⟨E,?_,?_⟩
   ·rw[List.take_succ_eq_append_getElem (by simpa using E)];simp only[List.getElem_map,J];rw[←List.map_take];exact ai
   ·simp only[bt,bK]at hT⊢;rw[Y,a5,hT,ff _ _ E,ff _ _ E,List.take_of_length_le (show(eJ i t).length≤t.bO.length by simp[eJ])];simp[qi,J,bp,ch,cd]
 ·obtain rfl:i=g.ts.length:=by omega
  refine gO hU (j2 @U @ae) tI ?_;exact⟨_,D,Wk.refl _,lR _,rfl,Q,hS.drop hB,hT⟩
open Tryz
theorem mG (S:List Nat):cu prog [(3,(.S 0 (.S 1 (.S 2 (.S 3 (.S 4 (.S 8 (.S 9 (.R 5 (.S 6 (.R 7 (.R 10 (.S 11 (.R 12 (.S 13 (.S 14 (.S 15 (.S 16 (.S 17 (.S 21 (.S 22 (.R 18 (.S 19 (.R 20 (.R 23 (.S 24 (.R 25 (.S 26 (.S 27 .D))))))))))))))))))))))))))))),(5,(.S 0 (.S 2 (.S 3 (.S 7 (.S 8 (.S 12 (.S 13 (.S 18 (.S 19 (.S 23 (.S 24 (.S 28 (.S 29 (.R 1 (.R 4 (.S 5 (.R 6 (.R 9 (.S 10 (.R 11 (.R 14 (.S 15 (.R 16 (.S 17 (.R 20 (.S 21 (.R 22 (.R 25 (.S 26 (.R 27 (.R 30 (.S 31 (.R 32 (.S 33 (.S 34 (.A 35 (.A 36 .D .Z) .Z)))))))))))))))))))))))))))))))))))))] S:=mixed
open Rg (Cl jg bw)
open Bd (R6 dx)
theorem m9 {P:List Int}{n:Nat}(h:n<P.length):P[n]? =some (P.getD n 0):=by rw[List.getD_eq_getElem?_getD,List.getElem?_eq_getElem h];rfl
theorem G5 (P:List Int) (o:cA) (nl:Bool) (c:Cl) (h:F5 P c) (hl:P.length≤1000000) (σ:AS):
 ad prog 152 [.ah 3 (P.map bg) o nl,jg c] σ (aq (.cp [dx (cC P c),zI 0]) σ) No:=by
 obtain⟨J,h1,y,h3,h4,hf,t1,t2,bd⟩:=h;obtain⟨k,tf,tt,A,ht,fl,a,b,cc,r⟩:=c;simp only at J h1 y h3 h4 hf t1 t2;obtain⟨n1,rfl⟩:∃n:Nat,tf=n:=⟨tf.toNat,by omega⟩;obtain⟨n2,rfl⟩:∃n:Nat,tt=n:=⟨tt.toNat,by omega⟩;obtain⟨H,rfl⟩:∃n:Nat,A=n:=⟨A.toNat,by omega⟩;obtain⟨G,rfl⟩:∃n:Nat,ht=n:=⟨ht.toNat,by omega⟩;have g1:=m9 (P:=P) (n:=n1) (by omega);have g2:=m9 (P:=P) (n:=n2) (by omega);have g3:=m9 (P:=P) (n:=H) (by omega);have g4:=m9 (P:=P) (n:=G) (by omega);have b1:=bd n1;have b2:=bd n2;have b3:=bd H;have b4:=bd G;simp only[Int.toNat_natCast]at t1 t2;simp only[bw,dx,cC,Int.toNat_natCast];generalize P.getD n1 0=p1 at*;generalize P.getD n2 0=F at*;generalize P.getD H 0=p3 at*;generalize P.getD G 0=E at*;obtain⟨Y,v1⟩:=List.getElem?_eq_some_iff.1 g1;obtain⟨X,v2⟩:=List.getElem?_eq_some_iff.1 g2;obtain⟨V,Q⟩:=List.getElem?_eq_some_iff.1 g3;obtain⟨U,v4⟩:=List.getElem?_eq_some_iff.1 g4;have k1:(1≤k)=True:=eq_true J.1;have k4:(k≤4)=True:=eq_true J.2;have c1:(F≤p1)=False:=eq_false (by omega);have c2:(E≤p3)=False:=eq_false (by omega);have M:zW (F-p1)=F-p1:=aI (by omega) (by omega);have L:zW (E-p3)=E-p3:=aI (by omega) (by omega);have w3:zW ((P.length:Int)-1)=(P.length:Int)-1:=aI (by omega) (by omega);refine ad.ob func152 ?_;refine gO mG tI tI ?_;intro id Z;intro ai q K;by_cases y:k=2
 ·have ak:=hf y;obtain⟨D,rfl⟩:∃n:Nat,fl=n:=⟨fl.toNat,by omega⟩;have g5:=m9 (P:=P) (n:=D) (by omega);simp only[Int.toNat_natCast];generalize P.getD D 0=p5 at*;obtain⟨S,O⟩:=List.getElem?_eq_some_iff.1 g5;have f0:((D:Int)<0)=False:=eq_false (by omega);have f1:(((P.length:Int)-1)≤D)=False:=eq_false (by omega);refine gO mG (And.intro (j7 @y @S @O @c1 @c2 @M @L) (And.intro (j7 @Y @X @V @U @v1 @v2 @Q) (j3 @v4 @aG q))) tI ?_;intro I j l w;have u:=ba j;have v:=ba l;refine gO mG (And.intro (j7 @f0 @f1 @S @O @w3 @aG q) (j2 j l)) tI ?_;all_goals (repeat (first|exact lR _ |refine aw (by simp[*]) ?_))
 ·refine gO mG (And.intro (j7 @y @k1 @k4 @c1 @c2 @M @L) (And.intro (j7 @Y @X @V @U @v1 @v2 @Q) (j3 @v4 @aG q))) tI ?_;intro I j l w;have u:=ba j;have v:=ba l;refine gO mG (j4 @y q j l) tI ?_;all_goals (repeat (first|exact lR _ |refine aw (by simp[*]) ?_))
end Im
namespace Cd
open Tryz
theorem JL (x:dM) (u:ez x) (σ:AS):ad prog 196 [bJ x] σ (aq (.sc (.bool (dV x))) σ) No:=by
 have q:=fun σ=>rF x.op σ;have hf:=fun σ=>zJ x u.1 u.2 σ;by_cases h:x.op<1∨75<x.op
 ·have A:dV x=false:=by simp[dV,h]
  have F:uV x.op=3:=by simp[uV,h]
  rw[A];rw[F]at q;clear hf u;obtain⟨op,arg,k,w,d,r⟩:=x;simp only[bJ,fO]at q⊢;refine ad.ob func196 ?_;refine gO aa tI tI ?_;intro id v;refine gO aa tI @q ?_;intro y j n;have l:=ba j;refine gO aa tI tI ?_;all_goals exact gJ tI
 ·have F:uV x.op=0:=by simp[uV,h]
  rw[F]at q;clear u;by_cases E:oO x.op=8
  ·have A:dV x=(nL x.t&&(decide (0<x.arg)&&decide (x.arg<16384))):=by unfold dV;rw[if_neg h,if_pos E]
   have H:(decide (0<x.arg)&&decide (x.arg<16384))=(decide (1≤x.arg)&&decide (x.arg≤16383)):=by rw[Bool.eq_iff_iff];simp;omega
   rw[A,H];have o:(gZ x.op).2.1=8:=E;obtain⟨op,arg,k,w,d,r⟩:=x;have D:gP prog 8 49 (.agg [zI k,zI w,zI d,zB r]) (.agg [zI 0,zI 0,zI 0,zB false])=some (nL ⟨k,w,d,r⟩):=by simp[nL]
   simp only[bJ,fO]at q o D⊢;rw[o]at q;clear hf;generalize nL ⟨k,w,d,r⟩=nt at*;refine ad.ob func196 ?_;refine gO aa tI tI ?_;intro id v;refine gO aa tI @q ?_;intro y j n;have l:=ba j
   repeat' (first
    |refine g1 ?_
    |((first|refine g2 ?_ |((with_reducible apply aj.id);first|apply aj.aL (q _)));simp-implicitDefEqProofs [-qT,D,j,l])
    |trivial
    |(with_reducible apply j2)
    |((with_reducible first|apply aA.ret|apply aA.skip|apply aA.exit);try simp-implicitDefEqProofs [-qT,D,j,l])
    |((with_reducible first|apply dd.split|apply bT.split|apply fS.split)<;>(intro G;(try simp-implicitDefEqProofs only[G]);(try simp at G))<;>try simp-implicitDefEqProofs [-qT,D,j,l]))
   all_goals exact gJ tI
  ·have A:=xy h E;rw[A]at hf;have o:¬(gZ x.op).2.1=8:=E;generalize dV x=rb at*;generalize gZ x.op=it at*;obtain⟨op,arg,k,w,d,r⟩:=x;obtain⟨i1,i2,i3⟩:=it;simp only[bJ,fO]at q hf o⊢;cases rb;all_goals
    simp at hf;refine ad.ob func196 ?_;refine gO aa tI tI ?_;intro id v;refine gO aa tI @q ?_;intro y j n;have l:=ba j;refine gO aa (j2 @o j) @hf ?_;all_goals exact gJ tI
theorem o4 (op:Int) (h:¬(op<1∨75<op)) (σ:AS):ad prog 197 [zI op] σ (aq (zI (eY (oO op))) σ) No:=by
 have j:=fun σ=>rF op σ;have u:uV op=0:=by simp[uV,h]
 have l:=mr op;rw[u]at j;have q:oO op=(gZ op).2.1:=rfl;rw[q]at l⊢;generalize gZ op=it at*;obtain⟨i1,o,i3⟩:=it;simp only[fO]at j l⊢;have:o=0∨o=1∨o=2∨o=3∨o=4∨o=5∨o=6∨o=7∨o=8:=by omega
 rcases this with rfl|rfl|rfl|rfl|rfl|rfl|rfl|rfl|rfl;all_goals
  refine ad.ob func197 ?_;refine gO aa tI @j ?_;intro id n;refine gO aa (j3 @underlying3 @underlying5 @eY.eq_1) tI ?_;all_goals exact gJ tI
theorem kY (x n:Int) (h1:0<n) (q:n≤8) (σ:AS):
 ad prog 198 [zI x,zI n] σ (gy (fun j=> .ah 5 ((aS (m64 x) n.toNat).map u8) (.tok j) false) n.toNat σ) No:=by
 have o:=fun σ=>eN (m64 x) n (pW x) (by unfold m64;omega) h1 q σ;have hw:IntKind.u64.wrap x=m64 x:=by rw[Gk];rfl
 refine ad.ob func198 ?_;refine gO aa (j3 @underlying2 @underlying137 @hw) @o ?_;intro j l;refine gO aa tI tI ?_;exact aW j l (by simp) (by simp)
theorem uH (l:List dM) (o:cA) (nl:Bool) (I:∀x∈l,ez x) (hl:l.length≤140737488355328) (σ:AS):
 ad prog 150 [kV l o nl] σ (aq (fg (bE l)) σ) No:=by
 have F:=fun x h σ=>JL x h σ;have E:=fun op h σ=>o4 op h σ;simp only[kV,fg];by_cases M:160<l.length
 ·have e:bE l=([],4):=by simp[bE,M]
  rw[e];refine ad.ob func150 ?_;have w:(160<(l.length:Int))=True:=eq_true (by omega);exact gE aa @w tI
 ·have w:(160<(l.length:Int))=False:=eq_false (by omega);have e:bE l=if l.all dV then(aK l 0,0)else([],17):=by simp only[bE];rw[if_neg M]
  refine ad.ob func150 ?_;refine gO (S:= [5]) aa @w tI ?_;refine aA.fG 4 3 [] true (by simp[ntmps150]) (.inr ⟨by simp,rfl,rfl⟩) ?_;simp-implicitDefEqProofs [ae,au];intro J L;refine gO aa tI tI ?_;refine aA.aY (α:=(Nat)×(List Int)×(Int)) ((0,[],0)) (fun⟨i,ds,a⟩=>l.length-i) (fun⟨i,ds,a⟩=>i≤l.length∧ds.length=i∧l.all dV=(l.drop i).all dV∧ds++aK (l.drop i) a=aK l 0∧0≤a∧a≤9*i) [(0,?_)] (fun⟨i,ds,a⟩=> [(6,zI i),(4,.ah 3 (ds.map bg++ [zI a]) (.tok J) false),(5,zI a)]) (fun⟨i,ds,a⟩=>σ.set J (.tok (ds.length+1))) ?_ ?_ ?_ ?_;rotate_left 1
  ·exact gF tI
  ·exact gT
  ·exact⟨by omega,rfl,rfl,rfl,by omega,by omega⟩
  intro O D;obtain⟨i,ds,a⟩:=O;try dsimp only at D⊢
  obtain⟨hi,Y,q,v,ab,Z⟩:=D;simp only[fm];by_cases n:i<l.length
  ·have A:zW ((i:Int)+1)=((i+1:Nat):Int):=bh (by omega);rw[List.drop_eq_getElem_cons n]at q v;have j:=F l[i] (I _ (List.getElem_mem n));have G:=kr (oO l[i].op);have u:dV l[i]=true→ _ :=fun e σ=>E l[i].op (by have:=kZ e;omega) σ;generalize K:l[i]=x at*;simp only[List.all_cons,aK]at q v;obtain⟨op,arg,k,U,d,r⟩:=x;simp only at u G v;generalize V:oO op=y at*;cases H:dV ⟨op,arg,k,U,d,r⟩
   ·rw[H]at q j;simp only[Bool.false_and]at q;rw[e,q];simp only[bJ]at j;refine gO aa (j4 n @K @bJ.eq_1 @ae) @j ?_;all_goals exact gJ tI
   ·have u:=u H;rw[H]at q j;simp only[Bool.true_and]at q;have Q:zW (1+eY y)=1+eY y:=aI (by omega) (by omega);have P:zW (a+(1+eY y))=a+(1+eY y):=aI (by omega) (by omega);simp only[bJ]at j;have X:ds.length≤160:=by omega
    refine gO aa (j7 n @K @bJ.eq_1 @Q @P @ae @A) (j2 @j @u) ?_;refine aH.mk ((i+1,ds++ [a],a+(1+eY y))) (by(try dsimp only);omega) (gF @aG) (by(try dsimp only);(simp)) ?_;try dsimp only
    exact⟨by omega,by simp[Y],q,by rw[←v];simp[Int.add_assoc],by omega,by omega⟩
  ·rw[List.drop_eq_nil_of_le (by omega)]at v q;rw[e,q];simp only[aK]at v;repeat (first
    |refine g1 ?_
    |((first|refine g2 ?_);simp-implicitDefEqProofs [n,←v,aG,ae,au])
    |(refine g3 ?_;try simp-implicitDefEqProofs [n,←v,aG,ae,au]))
   all_goals exact gJ tI
end Cd
end Go.Proofs.YtknalmoackcpbaaGreat
