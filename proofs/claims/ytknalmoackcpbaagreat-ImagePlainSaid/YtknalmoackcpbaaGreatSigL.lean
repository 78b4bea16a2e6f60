/- Chapter 05: what the program's own functions give, told without owners; the examples hold. -/
import Derived.Test.YtknalmoackcpbaaGreatSv4
set_option maxRecDepth 100000
set_option maxHeartbeats 3200000
set_option linter.all false
open Go Go.AW Go.Proofs.Tryz Go.RowKit List
namespace Go.Proofs.YtknalmoackcpbaaGreat
namespace Sg
def yG {P:Program}{f:FuncId}{args:List AV}{σ:AS}{g:Nat→AV}{n:Nat}{v:AV}(h:ad P f args σ (kQ g n σ) No) (hw:∀i,AV.Wk P (g i) v):ad P f args σ (ah v σ) No:=
 ⟨h.body,fun G w vals o l=>(h.run G w vals o l).mono fun e w' he=>by
  unfold kE at he⊢;split at he
  ·obtain⟨G',j,r,a,b,c,i,h0,rfl,rfl⟩:=he;exact⟨G',σ,v,a,b.weaken (AS.aj (AS.le_refl _) h0),hw i _ _ c,rfl,rfl⟩
  ·obtain⟨x,y,G',j,r,a,b,c,d⟩:=he;exact d.elim
  ·exact he.elim⟩
def Bj (b:zY) (i:b≠ []) (h:Nat):AV.Wk prog (.bI [.ao 5 (b.map u8) (.tok h) false,zI 0]) (.bI [bL b,zI 0]):=cq (Og _ _ _ (by simp[i])) (Wk.refl _)
def mj (t:Ty):Except Int (zY):=if aP t=true then .ok (hU t)else .error 17
def kZ (t:Ty):Except Int (zY):=if bO t=true then .ok (6::hU t)else .error 17
def O8 (t:Ty):hU t≠ []:=by
 unfold hU pq;intro h;have i:=(append_eq_nil_iff.1 (append_eq_nil_iff.1 h).2).2;revert i
 repeat' split
 all_goals simp
def LC (t:Ty) (σ:AS):ad prog 64 [cF t] σ (ah (.bI [bL (cM (mj t)),zI (b9 (mj t))]) σ) No:=by
 unfold mj;by_cases h:aP t=true
 ·rw[if_pos h];exact yG (QW t h σ) fun i=>Bj _ (O8 t) i
 ·rw[if_neg h];exact(Oi t (by simpa using h) σ).told (cq qM (Wk.refl _))
def l8 (t:Ty) (σ:AS):ad prog 62 [cF t] σ (ah (.bI [bL (cM (kZ t)),zI (b9 (kZ t))]) σ) No:=by
 unfold kZ;by_cases h:bO t=true
 ·rw[if_pos h];exact yG (qj t h σ) fun i=>Bj _ (by simp) i
 ·rw[if_neg h];exact(oT t (by simpa using h) σ).told (cq qM (Wk.refl _))
def qi (l:List Ty) (o:cC) (nl:Bool) (hl:l.length≤100000) (σ:AS):ad prog 65 [.ao 49 (l.map cF) o nl] σ
 (ah (.bI [bL (cM (dO l)),zI (b9 (dO l))]) σ) No:=by
 unfold dO;by_cases h:12<l.length
 ·rw[if_pos h];exact(xV l o nl h (by omega) σ).told (cq qM (Wk.refl _))
 ·rw[if_neg h];by_cases i:l.all aZ=true
  ·rw[if_pos i];exact yG (Bm l o nl (by omega) i σ) fun j=>Bj _ (by simp[Gb]) j
  ·rw[if_neg i];exact(yC l o nl (by omega) (by simpa using i) σ).told (cq qM (Wk.refl _))
def Dq (i:Bool) (l:List Ty) (r:Ty) (o:cC) (nl:Bool) (hl:l.length≤100000) (σ:AS):
 ad prog 137 [.agg [zB i,.ao 49 (l.map cF) o nl,zI r.kind,zI r.index,zI r.bT,.sc (.bool r.ref)]] σ
 (ah (.bI [bL (cM (gY ⟨i,l,r⟩)),zI (b9 (gY ⟨i,l,r⟩))]) σ) No:=by
 unfold gY;by_cases h:6<l.length
 ·rw[if_pos h];exact(Dp i l r o nl h (by omega) σ).told (cq qM (Wk.refl _))
 ·rw[if_neg h];by_cases j:(l.all aZ&&cx r)=true
  ·rw[if_pos j];exact yG (Il i l r o nl (by omega) j σ) fun q=>Bj _ (by simp[Dw]) q
  ·rw[if_neg j];exact(Fb i l r o nl (by omega) (by simpa using j) σ).told (cq qM (Wk.refl _))
end Sg
end Go.Proofs.YtknalmoackcpbaaGreat
namespace Go.Proofs.YtknalmoackcpbaaGreat
namespace Im
def mb (S:List Nat):bH prog [(6,(.S 0 (.S 1 (.S 2 (.S 3 (.R 4 (.A 5 (.S 6 .D) .Z)))))))] S:=mixed
open Sg (aC bL Dq cM b9 gY)
open Pl (sV)
open Rg (Cl fY aL)
open Cd (oO dz qT bZ cV)
open Bd (R6 dj cp cU)
def vZ (sp:List Ty) (co:zY) (m:Mt):List Ty×zY×Int:=
 if m.code= []then(sp,co,0)else(zQ sp m,qQ co (yg sp m)++yg sp m,(qQ co (yg sp m)).length+1)
def Du (lo:List (List Ty)) (m:Mt):List (List Ty)×Int:=if m.ls= []then(lo,0)else(nB lo m.ls,rr lo m.ls)
def Dv (m:Mt):Sg.Sg:=⟨decide (m.flags%2=0),m.ps,m.ret⟩
structure QX (sp:List Ty) (m:Mt):Prop where
 code:m.code.length≤160
 cls:m.cls.length≤100
 cn:m.cn=true→m.code= []
 ln:m.ln=true→m.ls= []
 C:m.code≠ []→ ∀c∈m.cls,Ol (Bq sp m) c
 W:m.code≠ []→cU (Fs sp m) (Pf sp m)=true
 fl:0≤m.flags∧m.flags≤31
 ps:m.ps.length≤100000
 ls:m.ls.length≤1000
variable {k:SK} {g:bY} {d:SD} {T:SR} {B τ:AS}
def SI.body (h:SI k g d T B τ) (m:Mt) (hm:QX d.sp m) (hd:d.sp.length≤80000) (j:d.co.length≤100000000):
 ad prog 136 [.ptr k.aO 0,kH m] τ (fun r l=>r=zI ((vZ d.sp d.co m).2.2)∧SI k g { d with sp:=(vZ d.sp d.co m).1,co:=(vZ d.sp d.co m).2.1 } T B l) No:=by
 by_cases i:m.code= []
 ·have:=h.TE m i;simp only[vZ,i,if_true];exact this
 ·have:=h.TC m (length_pos_iff.2 i) hm.code hm.cls hm.cn (hm.C i) (hm.W i) hd j;simp only[vZ,if_neg i];exact this
def Yz (k:SK) (g:bY) (d:SD) (T:SR) (B:AS) (m:Mt) (r:AV) (i:AS):Prop:=
 r= .bI []∧ ∃h,SI k g ⟨(vZ d.sp d.co m).1,(Du d.lo m).1,d.nm++ [m.name],d.bl++ [cM (gY (Dv m))],(vZ d.sp d.co m).2.1⟩ h B i∧
  cH h=(cH T).modify 2 (· ++ [[(vZ d.sp d.co m).2.2,m.flags,m.max,(d.nm.length:Int),(d.bl.length:Int),(Du d.lo m).2]])
def SI.method (h:SI k g d T B τ) (m:Mt) (hm:QX d.sp m) (hd:d.sp.length≤80000) (K:d.co.length≤100000000) (av:d.nm.length≤90000) (a4:d.bl.length≤90000) (a0:d.lo.length≤90000) (u:∀x∈d.lo,x.length≤1000000) (hT:∀y∈cH T,y.length≤90000):
 ad prog 63 [.ptr k.aO 0,kH m] τ (Yz k g d T B m) No:=by
 have a2:=hm.fl;have hand:zW (lr 64 m.flags 1)=m.flags%2:=by have h1:=js (w:=64) (a:=m.flags) 1 (by omega) (by omega) (by omega);rw[show((2:Int)^1-1)=1 from rfl,show((2:Int)^1)=2 from rfl]at h1;rw[h1];exact az (by omega) (by omega)
 have I:=fun σ=>Dq (decide (m.flags%2=0)) m.ps m.ret .aI m.pn hm.ps σ;refine ad.ob func63 ?_;simp only[bw];refine gO mb tI tI ?_;intro id3 j;have h3:=h.own (b:= .cells 53 (kH m).cells) j;simp only[bw,aR]at h3;have o:=AS.aj (b:= .cells 53 (kH m).cells) (lR B) (h.mD j);have q:(B.set id3 (.cells 53 (kH m).cells)) id3=some (.cells 53 (kH m).cells):=AS.ak _ _ _;simp only[bw,aR]at q o;generalize (B.set id3 (.cells 53 [zS m.name,zI m.owner,zI m.flags,.ao 49 (m.ps.map cF) .aI m.pn,zI m.ret.kind,zI m.ret.index,zI m.ret.bT,.sc (.bool m.ret.ref),.ao 49 (m.ls.map cF) .aI m.ln,zI m.max,.ao 110 (m.code.map aJ) .aI m.cn,.ao 158 (m.cls.map fY) .aI m.xn]))=A at*;have X:=h3.body m hm hd K;simp only[bw]at X;refine gO mb tI tI ?_;refine ag.of X ?_ (fun _ _ h=>h.elim);rintro r τ1 ⟨rfl,h4⟩;have r3:=h4.le _ _ q;simp-implicitDefEqProofs;refine gO mb @r3 tI ?_;refine ag.of (h4.name m.name (by simp only;omega)) ?_ (fun _ _ h=>h.elim);rintro r τ2 ⟨rfl,Y⟩;have r4:=Y.le _ _ q;simp-implicitDefEqProofs;refine gO mb (j2 @r4 @hand) @I ?_;refine ag.of (Y.yx (cM (gY (Dv m))) _ (by simp only;omega)) ?_ (fun _ _ h=>h.elim);rintro r τ3 ⟨rfl,L⟩;have G:=L.le _ _ q;simp-implicitDefEqProofs;refine gO (S:= [5]) mb tI tI ?_;have a1:((0:Int)<m.ls.length)=(m.ls≠ []):=by rw[←length_pos_iff];simp
 (with_reducible apply aq.region);simp-implicitDefEqProofs [G]
 repeat (with_reducible refine j2 (by first|omega|assumption|decide) ?_)
 try (with_reducible apply aq.seq)
 refine Sg.xC (α:=AS) (fun v=>SI k g ⟨(vZ d.sp d.co m).1,(Du d.lo m).1,d.nm++ [m.name],d.bl++ [cM (gY (Dv m))],(vZ d.sp d.co m).2.1⟩ T A v) (fun v=> [(0,.ptr k.aO 0),(3,.ptr id3 0),(4,zI ((vZ d.sp d.co m).2.2)),(5,zI d.nm.length),(6,zI d.bl.length),(7,zI ((Du d.lo m).2))]) (fun v=>v) ?_ ?_
 ·by_cases i:m.ls= []
  ·have H:Du d.lo m=(d.lo,0):=by simp[Du,i]
   rw[H];have V:¬(0<m.ls.length):=by rw[i];simp
   refine gO mb @i tI ?_;refine fK.mk (τ3) (gF tI) gT ?_;try dsimp only
   exact L
  ·have H:Du d.lo m=(nB d.lo m.ls,rr d.lo m.ls):=by simp[Du,i]
   rw[H];have E:m.ln=false:=by
    cases hc:m.ln with
    |false=>rfl
    |true=>exact absurd (hm.ln hc) i
   have V:0<m.ls.length:=length_pos_iff.2 i;have l:=L.Vx m.ls (by have:=hm.ls;omega) u (by simp only;omega);simp only[jd,i,decide_false]at l;rw[E]at G;refine gO mb (j3 @G @V @E) tI ?_;refine ag.of l ?_ (fun _ _ h=>h.elim);rintro r M ⟨rfl,F⟩;simp-implicitDefEqProofs;refine fK.mk (M) (gF tI) gT ?_;try dsimp only
   exact F
 ·intro M F;have r6:=F.le _ _ q
  with_reducible apply aq.eJ
  refine bq.first 9 ?_;simp-implicitDefEqProofs [r6];refine bq.sp rfl (ia.lX ?_ ?_)
  ·decide
  simp-implicitDefEqProofs [bF,g8,aB];intro id J;have O:=F.uk (t:=2) (vals:= [(vZ d.sp d.co m).2.2,m.flags,m.max,(d.nm.length:Int),(d.bl.length:Int),(Du d.lo m).2]) (by omega) J (qq fun y hy=>Nat.le_trans (hT y hy) (by omega));simp only[map_cons,map_nil,aF,length_cons,length_nil,Nat.reduceAdd,Int.cast_ofNat_Int]at O;refine bq.rest ?_;simp-implicitDefEqProofs;refine ag.of O ?_ (fun _ _ h=>h.elim);rintro r τ5 ⟨rfl,h8⟩;simp-implicitDefEqProofs;refine⟨_,τ5,Wk.refl _,lR _,rfl,_,h8.drop o,lv _ _ _⟩
open Sg (aC bL cM b9 kZ mj dO LC l8 qi)
open Pl (sV)
structure Sv where
 sp:List Ty
 lo:List (List Ty)
 co:zY
def nZ:Sv:=⟨[],[],[]⟩
def qs (s:Sv) (m:Mt):Sv×Int×Int:=(⟨(vZ s.sp s.co m).1,(Du s.lo m).1,(vZ s.sp s.co m).2.1⟩,(vZ s.sp s.co m).2.2,(Du s.lo m).2)
def dC:Sv→List Mt→Sv×List (Int×Int)
 |s,[]=>(s,[])
 |s,m::r=>((dC (qs s m).1 r).1,(qs s m).2::(dC (qs s m).1 r).2)
def rO:∀(l r:List Mt) (s:Sv),dC s (l++r)=((dC (dC s l).1 r).1,(dC s l).2++(dC (dC s l).1 r).2)
 |[],r,s=>rfl
 |m::l,r,s=>by simp[dC,rO l r]
def dK:∀(l:List Mt) (s:Sv),(dC s l).2.length=l.length
 |[],s=>rfl
 |m::l,s=>by simp[dC,dK l]
def qY (g:bY) (nm:Nat→Int) (k:Nat) (t:TD):List Int:= [t.flags,nm k,4*(t.ext+1),eU (g.fs.map (·.owner)) k,eU (g.ms.map (·.owner)) k]
def uO (g:bY) (nm bl:Nat→Int) (i:Nat) (f:Fd):List Int:= [if f.stat=true then 1 else 0,nm (g.ts.length+i),bl i]
def rZ (g:bY) (nm bl:Nat→Int) (i:Nat) (x:Mt×Int×Int):List Int:= [x.2.1,x.1.flags,x.1.max,nm (g.ts.length+g.fs.length+i),bl (g.fs.length+i),x.2.2]
def qd (b:Nat) (bl:Nat→Int) (i:Nat):List Int:= [bl (b+i)]
def cG (g:bY) (nm:Nat→Int):List (List Int):=g.ts.mapIdx (qY g nm)
def df (g:bY):List (List (List Int)):=g.ts.mapIdx fS
def cB (g:bY) (nm bl:Nat→Int):List (List Int):=g.fs.mapIdx (uO g nm bl)
def cI (g:bY) (nm bl:Nat→Int):List (List Int):=(g.ms.zip (dC nZ g.ms).2).mapIdx (rZ g nm bl)
def dv (i:Nat):Int:=i
variable {k:SK} {g:bY} {d:SD} {T:SR} {B τ:AS}
def zH (k:SK) (g:bY) (B:AS) (i:Nat) (j:AS):Prop:= ∃h,SI k g ⟨[],[],(g.ts.take i).map (·.name),[],[]⟩ h B j∧cH h= [(cG g dv).take i,[],[],((df g).take i).flatten,[],[]]
def zG (k:SK) (g:bY) (B:AS) (i:Nat) (j:AS):Prop:= ∃h,SI k g ⟨[],[],g.ts.map (·.name)++(g.fs.take i).map (·.name),(g.fs.take i).map (fun f=>cM (kZ f.ty)),[]⟩ h B j∧cH h= [cG g dv,(cB g dv dv).take i,[],(df g).flatten,[],[]]
def Ch (g:bY) (i:Nat):List (zY):=g.ts.map (·.name)++g.fs.map (·.name)++(g.ms.take i).map (·.name)
def Iw (g:bY) (i:Nat):List (zY):=g.fs.map (fun f=>cM (kZ f.ty))++(g.ms.take i).map (fun m=>cM (Sg.gY (Dv m)))
def uV (k:SK) (g:bY) (B:AS) (i:Nat) (j:AS):Prop:= ∃h,SI k g ⟨(dC nZ (g.ms.take i)).1.sp,(dC nZ (g.ms.take i)).1.lo,Ch g i,Iw g i,(dC nZ (g.ms.take i)).1.co⟩ h B j∧
 cH h= [cG g dv,cB g dv dv,(cI g dv dv).take i,(df g).flatten,[],[]]
def dx (g:bY):Sv:=(dC nZ g.ms).1
def Ix (g:bY):List (zY):=Iw g g.ms.length
def dD (g:bY) (bl:Nat→Int):List (List Int):=(List.range (dx g).sp.length).map (qd (g.fs.length+g.ms.length) bl)
def dW (g:bY) (bl:Nat→Int):List (List Int):=(List.range (dx g).lo.length).map (qd (g.fs.length+g.ms.length+(dx g).sp.length) bl)
def Dt (k:SK) (g:bY) (B:AS) (i:Nat) (j:AS):Prop:= ∃h,SI k g ⟨(dx g).sp,(dx g).lo,Ch g g.ms.length,Ix g++((dx g).sp.take i).map (fun t=>cM (mj t)),(dx g).co⟩ h B j∧
 cH h= [cG g dv,cB g dv dv,cI g dv dv,(df g).flatten,(dD g dv).take i,[]]
def EO (g:bY):List (zY):=Ix g++(dx g).sp.map (fun t=>cM (mj t))
def GC (k:SK) (g:bY) (B:AS) (i:Nat) (j:AS):Prop:= ∃h,SI k g ⟨(dx g).sp,(dx g).lo,Ch g g.ms.length,EO g++((dx g).lo.take i).map (fun t=>cM (dO t)),(dx g).co⟩ h B j∧
 cH h= [cG g dv,cB g dv dv,cI g dv dv,(df g).flatten,dD g dv,(dW g dv).take i]
structure sM (g:bY):Prop where
 ts:g.ts.length≤32
 fs:g.fs.length≤64
 ms:g.ms.length≤64
 t:∀t∈g.ts,(-1≤t.ext∧t.ext≤32)∧t.bg.length≤4∧ ∀x∈t.bg,0≤x∧x≤32
 m:∀i (h:i<g.ms.length),QX (dC nZ (g.ms.take i)).1.sp g.ms[i]
 sp:∀i,(dC nZ (g.ms.take i)).1.sp.length≤20000
 lo:∀i,(dC nZ (g.ms.take i)).1.lo.length≤64
 lA:∀i,∀x∈(dC nZ (g.ms.take i)).1.lo,x.length≤1000
 co:∀i,(dC nZ (g.ms.take i)).1.co.length≤100000000
 en: -1≤g.entry∧g.entry≤64
def kj {α β:Type}(f:Nat→α→β) (l:List α) {i:Nat}(h:i<l.length):(l.mapIdx f).take (i+1)=(l.mapIdx f).take i++ [f i l[i]]:=by rw[take_succ_eq_append_getElem (by simpa using h)];simp
def tZ {g:bY}(h:sM g) (i:Nat):(((df g).take i).flatten).length≤4*i:=by
 induction i with
 |zero=>simp
 |succ i l=>
  by_cases j:i<g.ts.length
  ·have:=kj fS g.ts j;have q:=(h.t g.ts[i] (getElem_mem j)).2.1;unfold df at l⊢;rw[this,flatten_append,length_append];have o:([fS i g.ts[i]].flatten).length=g.ts[i].bg.length:=by simp[fS]
   omega
  ·have e:(df g).take (i+1)=(df g).take i:=by
    have:(df g).length=g.ts.length:=by simp[df]
    rw[take_of_length_le (by omega),take_of_length_le (by omega)]
   rw[e];omega
def SI.WB (l:sM g) (i:Nat) (j:i<g.ts.length) (h:zH k g B i τ):ad prog 58 [.ptr k.aO 0,zI i,nA g.ts[i]] τ (fun r q=>r= .bI []∧zH k g B (i+1) q) No:=by
 obtain⟨J,G,v⟩:=h;have ht:=l.t g.ts[i] (getElem_mem j);have E:=l.ts;have F:=tZ l i;refine(G.XD i g.ts[i] (by omega) (by omega) (by omega) (fun x w=>by have:=ht.2.2 x w;omega) (by simp;omega) ?_ (by have:=l.fs;omega) (by have:=l.ms;omega)).mono ?_ (fun _ _ h=>h)
 ·rw[v];intro y u;simp only[mem_cons,not_mem_nil,or_false]at u;rcases u with rfl|rfl|rfl|rfl|rfl|rfl
  ·simp[cG];omega
  ·simp
  ·simp
  ·omega
  ·simp
  ·simp
 ·rintro r q ⟨rfl,I,H,o⟩;refine⟨rfl,I,?_,?_⟩
  ·rw[take_succ_eq_append_getElem j,map_append];exact H
  ·rw[o,v];unfold cG df;rw[kj _ _ j,kj _ _ j,flatten_append];simp[qY,dv,Nat.min_eq_left (Nat.le_of_lt j)]
abbrev kf:bW:=(.S 0 (.S 1 (.S 2 (.S 3 (.S 6 (.S 7 (.R 4 (.A 5 (.R 8 (.A 9 (.S 10 (.S 11 (.A 12 (.W 13 (.A 14 .D .Z) .Z) .Z))) .Z)) (.A 8 (.A 5 (.A 9 (.S 10 (.S 11 (.A 12 (.W 13 (.A 14 .D .Z) .Z) .Z))) .Z) .Z) .Z)))))))))
def cQ (S:List Nat):bH prog [(11,kf)] S:=mixed
open Sg (aC bL cM b9 kZ mj dO LC l8 qi)
open Pl (sV)
variable {k:SK} {g:bY} {d:SD} {T:SR} {B τ:AS}
def DJ (g:bY):SD:=⟨(dx g).sp,(dx g).lo,Ch g g.ms.length,EO g++(dx g).lo.map (fun t=>cM (dO t)),(dx g).co⟩
def WZ (k:SK) (g:bY) (B:AS) (r:AV) (j:AS):Prop:=
 r= .bI []∧ ∃i h,SI k g (DJ g) i B h∧cH i= [cG g dv,cB g dv dv,cI g dv dv,(df g).flatten,dD g dv,dW g dv]∧j=h.set k.aO (.cells 74 (vY k g (DJ g) (g.entry+1)))
def zG.z (h:zH k g B g.ts.length τ):zG k g B 0 τ:=by obtain⟨l,j,i⟩:=h;refine⟨l,by simpa using j,?_⟩;rw[i,take_of_length_le (by simp[cG]),take_of_length_le (by simp[df])];simp
def HV {P:Program}{n:Nat}{ds:List Deferred}{Q R:AQ}{s:Fr}{σ:AS}{α:Type}{x y:Code}(I:α→Prop) (fr:α→List (Nat×AV)) (st:α→AS) (j:∀s σ,R .normal s σ=aq P n ds y Q s σ) (h1:aq P n ds x (dF (Sg.fK P I fr st) R) s σ)
 (l:∀v,I v→aq P n ds y Q (iO (fr v)) (st v)):aq P n ds x R s σ:=by
 refine h1.mono fun e q o h=> ?_;cases e with
 |normal=>obtain⟨v,i1,i2,i3⟩:=h;rw[j];exact(l v i1).weaken i2 i3
 |exit i=>exact h
 |ret=>exact h
 |panic p=>exact h
def uV.z (h:zG k g B g.fs.length τ):uV k g B 0 τ:=by obtain⟨l,j,i⟩:=h;refine⟨l,by simpa[dC,nZ,Ch,Iw]using j,?_⟩;rw[i,take_of_length_le (by simp[cB])];simp
def Dt.z (h:uV k g B g.ms.length τ):Dt k g B 0 τ:=by obtain⟨l,j,i⟩:=h;refine⟨l,by simpa[dx,Ix]using j,?_⟩;rw[i,take_of_length_le (by simp[cI,dK])];simp
def GC.z (h:Dt k g B (dx g).sp.length τ):GC k g B 0 τ:=by obtain⟨l,j,i⟩:=h;refine⟨l,by simpa[EO]using j,?_⟩;rw[i,take_of_length_le (by simp[dD])];simp
theorem Ck {g:bY}{i:Nat}(h:i<g.ms.length):(cI g dv dv).take (i+1)=(cI g dv dv).take i++ [rZ g dv dv i (g.ms[i],(qs (dC nZ (g.ms.take i)).1 g.ms[i]).2)]:=by
 have l:i<(g.ms.zip (dC nZ g.ms).2).length:=by simp[dK,h]
 have:=kj (rZ g dv dv) (g.ms.zip (dC nZ g.ms).2) l;unfold cI;rw[this];congr 2;have hm:(dC nZ g.ms).2[i]'(by rw[dK];exact h)=(qs (dC nZ (g.ms.take i)).1 g.ms[i]).2:=by
  have h1:g.ms=g.ms.take i++g.ms[i]::g.ms.drop (i+1):=by
   conv=>lhs;rw[←List.take_append_drop i g.ms,List.drop_eq_getElem_cons h]
  have j:=rO (g.ms.take i) (g.ms[i]::g.ms.drop (i+1)) nZ;rw[←h1]at j;have hl:(dC nZ (g.ms.take i)).2.length=i:=by rw[dK];simp;omega
  have o:(dC nZ g.ms).2[i]? =some (qs (dC nZ (g.ms.take i)).1 g.ms[i]).2:=by rw[j];simp only;rw[List.getElem?_append_right (by omega),hl];simp[dC]
  exact(List.getElem?_eq_some_iff.1 o).2
 rw[List.getElem_zip,hm]
def yH {g:bY}{i:Nat}(h:i<g.ms.length):(dC nZ (g.ms.take (i+1))).1=(qs (dC nZ (g.ms.take i)).1 g.ms[i]).1:=by rw[take_succ_eq_append_getElem h,rO];rfl
def SI.WA (j:sM g) (i:Nat) (l:i<g.ms.length) (h:uV k g B i τ):ad prog 63 [.ptr k.aO 0,kH g.ms[i]] τ (fun r w=>r= .bI []∧uV k g B (i+1) w) No:=by
 obtain⟨X,K,F⟩:=h;have H:=j.ts;have J:=j.fs;have I:=j.ms;have q:=tZ j g.ts.length;rw[take_of_length_le (by simp[df])]at q;have o:(Ch g i).length=g.ts.length+g.fs.length+i:=by simp[Ch];omega
 have u:(Iw g i).length=g.fs.length+i:=by simp[Iw];omega
 refine(K.method g.ms[i] (j.m i l) (by have:=j.sp i;simp only;omega) (by have:=j.co i;simp only;omega) (by simp only;omega) (by simp only;omega) (by have:=j.lo i;simp only;omega) (fun x G=>by have:=j.lA i x G;omega) ?_).mono ?_ (fun _ _ h=>h)
 ·rw[F];intro y E;simp only[mem_cons,not_mem_nil,or_false]at E;rcases E with rfl|rfl|rfl|rfl|rfl|rfl
  ·simp[cG];omega
  ·simp[cB];omega
  ·simp;omega
  ·omega
  ·simp
  ·simp
 ·rintro r w ⟨rfl,V,L,v⟩;refine⟨rfl,V,?_,?_⟩
  ·rw[yH l];have O:Ch g (i+1)=Ch g i++ [g.ms[i].name]:=by unfold Ch;rw[take_succ_eq_append_getElem l,map_append,←append_assoc];rfl
   have M:Iw g (i+1)=Iw g i++ [cM (Sg.gY (Dv g.ms[i]))]:=by unfold Iw;rw[take_succ_eq_append_getElem l,map_append,←append_assoc];rfl
   rw[O,M];exact L
  ·rw[v,F,Ck l];simp only[o,u];simp[rZ,dv,qs]
def qJ (g:bY):(Ix g).length=g.fs.length+g.ms.length:=by simp[Ix,Iw]
def NX {g:bY}{i:Nat}(h:i≤(dx g).sp.length):(Ix g++((dx g).sp.take i).map (fun t=>cM (mj t))).length=g.fs.length+g.ms.length+i:=by rw[length_append,qJ];simp;omega
def Lj {g:bY}{i:Nat}(h:i<(dx g).sp.length):Ix g++((dx g).sp.take (i+1)).map (fun t=>cM (mj t))=Ix g++((dx g).sp.take i).map (fun t=>cM (mj t))++ [cM (mj (dx g).sp[i])]:=by rw[take_succ_eq_append_getElem h,map_append,←append_assoc];rfl
def NW {g:bY}{i:Nat}(h:i≤(dx g).lo.length):(EO g++((dx g).lo.take i).map (fun t=>cM (dO t))).length=g.fs.length+g.ms.length+(dx g).sp.length+i:=by rw[length_append,EO,length_append,qJ];simp;omega
def Li {g:bY}{i:Nat}(h:i<(dx g).lo.length):EO g++((dx g).lo.take (i+1)).map (fun t=>cM (dO t))=EO g++((dx g).lo.take i).map (fun t=>cM (dO t))++ [cM (dO (dx g).lo[i])]:=by rw[take_succ_eq_append_getElem h,map_append,←append_assoc];rfl
def wF {n i:Nat}(f:Nat→List Int) (h:i<n):((List.range n).map f).take (i+1)=((List.range n).map f).take i++ [f i]:=by rw[take_succ_eq_append_getElem (by simpa using h)];simp
def BK {g:bY}{i:Nat}(h:i<(dx g).sp.length):(dD g dv).take (i+1)=(dD g dv).take i++ [qd (g.fs.length+g.ms.length) dv i]:=wF _ h
def Cx {g:bY}{i:Nat}(h:i<(dx g).lo.length):(dW g dv).take (i+1)=(dW g dv).take i++ [qd (g.fs.length+g.ms.length+(dx g).sp.length) dv i]:=wF _ h
def Dk {g:bY}(h:sM g) {T:SR}{i j:Nat}(F:cH T= [cG g dv,cB g dv dv,cI g dv dv,(df g).flatten,(dD g dv).take i,(dW g dv).take j]):∀y∈cH T,y.length≤30000:=by
 rw[F];have v:=h.ts;have E:=h.fs;have w:=h.ms;have l:=tZ h g.ts.length;rw[take_of_length_le (by simp[df])]at l;have q:(dx g).sp.length≤20000:=by have:=h.sp g.ms.length;rwa [take_length]at this
 have u:(dx g).lo.length≤64:=by have:=h.lo g.ms.length;rwa [take_length]at this
 intro y o;simp only[mem_cons,not_mem_nil,or_false]at o;rcases o with rfl|rfl|rfl|rfl|rfl|rfl
 ·simp[cG];omega
 ·simp[cB];omega
 ·simp[cI,dK];omega
 ·omega
 ·simp[dD];omega
 ·simp[dW];omega
def PI (t:Ty) (σ:AS):ad prog 62 [cF t] σ (ah (.bI [bL (cM (kZ t)),zI (b9 (kZ t))]) σ) No:=l8 t σ
def SI.all (H:sM g) (h:zH k g B 0 τ):ad prog 28 [.ptr k.aO 0] τ (WZ k g B) No:=by
 have c6:=H.ts;have db:=H.fs;have c9:=H.ms;have dl:∀ {σ:AS} {i:Nat},AS.le B σ→σ i=none→B i=none:=fun h1 h2=>qy h1 h2;refine ad.ob func28 ?_;have a6:=h.choose_spec.1.aO;simp only[ee]at a6;refine gO cQ (j2 @a6 @aH) tI ?_;refine aq.aQ (α:=(Nat)×(AS)) ((0,τ)) (fun⟨i,τ'⟩=>g.ts.length-i) (fun⟨i,τ'⟩=>i≤g.ts.length∧zH k g B i τ') [(0,?_),(17,?_),(18,?_)] (fun⟨i,τ'⟩=> [(19,zI i)]) (fun⟨i,τ'⟩=>τ') ?_ ?_ ?_ ?_;rotate_left 3
 ·exact gF tI
 ·(try dsimp only);exact lR _
 ·exact⟨by omega,h⟩
 intro x_ q;obtain⟨i,τ'⟩:=x_;try dsimp only at q⊢
 obtain⟨hi,w⟩:=q;simp only[eZ];by_cases l:i<g.ts.length
 ·have o:zW ((i:Int)+1)=((i+1:Nat):Int):=bQ (by omega);repeat (first
   |refine g1 ?_
   |((first|refine g2 ?_ |((with_reducible apply dX 11 kf);refine dY mixed ?_));simp-implicitDefEqProofs [l,eI])
   |(refine g3 ?_;try simp-implicitDefEqProofs))
  intro id3 u;obtain⟨I,F,E⟩:=w;have bs:zH k g (B.set id3 (.cells 46 (nA g.ts[i]).cells)) i (τ'.set id3 (.cells 46 (nA g.ts[i]).cells)):=⟨I,F.own u,E⟩;have V:=F.mD u;have hc:=SI.WB H i l bs;simp only[eI,aR]at hc;refine gO cQ @o tI ?_;refine ag.of hc ?_ (fun _ _ h=>h.elim);rintro r τ2 ⟨rfl,T2,O,M⟩;simp-implicitDefEqProofs;refine gO cQ @o tI ?_;refine gB ((i+1,τ2)) gT ?_;try dsimp only
  exact⟨l,T2,O.drop (AS.aj (lR _) V),M⟩
 obtain rfl:i=g.ts.length:=by omega
 have bf:=zG.z w;have a5:=bf.choose_spec.1.aO;simp only[ee]at a5;clear w h a6 hi l;refine gO cQ (j2 @a5 @aH) tI ?_;refine aq.aQ (α:=(Nat)×(AS)) ((0,τ')) (fun⟨i,τ2⟩=>g.fs.length-i) (fun⟨i,τ2⟩=>i≤g.fs.length∧zG k g B i τ2) [(0,?_),(33,?_),(34,?_)] (fun⟨i,τ2⟩=> [(35,zI i)]) (fun⟨i,τ2⟩=>τ2) ?_ ?_ ?_ ?_;rotate_left 3
 ·exact gF tI
 ·(try dsimp only);exact lR _
 ·exact⟨by omega,bf⟩
 intro x_ q;obtain⟨i,τ2⟩:=x_;try dsimp only at q⊢
 obtain⟨hi,w⟩:=q;simp only[eZ];by_cases l:i<g.fs.length
 ·have o:zW ((i:Int)+1)=((i+1:Nat):Int):=bQ (by omega);obtain⟨I,F,E⟩:=w;have L:∀y∈cH I,y.length≤1000:=by
   rw[E];have cd:=tZ H g.ts.length;rw[take_of_length_le (by simp[df])]at cd;intro y hy;simp only[mem_cons,not_mem_nil,or_false]at hy;rcases hy with rfl|rfl|rfl|rfl|rfl|rfl
   ·simp[cG];omega
   ·simp;omega
   ·simp
   ·omega
   ·simp
   ·simp
  have ce:(cB g dv dv).take (i+1)=(cB g dv dv).take i++ [uO g dv dv i g.fs[i]]:=kj _ _ l;have cb:(g.fs.take (i+1)).map (·.name)=(g.fs.take i).map (·.name)++ [g.fs[i].name]:=by rw[take_succ_eq_append_getElem l,map_append];rfl
  have cc:(g.fs.take (i+1)).map (fun f=>cM (kZ f.ty))=(g.fs.take i).map (fun f=>cM (kZ f.ty))++ [cM (kZ g.fs[i].ty)]:=by rw[take_succ_eq_append_getElem l,map_append];rfl
  generalize hf:g.fs[i]=f at*;have ch:(g.ts.map (·.name)++(g.fs.take i).map (·.name)).length=g.ts.length+i:=by simp;omega
  have cj:((g.fs.take i).map (fun f=>cM (kZ f.ty))).length=i:=by simp;omega
  have ci:g.ts.map (·.name)++(g.fs.take (i+1)).map (·.name)=(g.ts.map (·.name)++(g.fs.take i).map (·.name))++ [f.name]:=by rw[cb];simp
  generalize g.ts.map (·.name)++(g.fs.take i).map (·.name)=N at*;generalize (g.fs.take i).map (fun f=>cM (kZ f.ty))=BL at*;refine gO cQ (j4 l @gy @hf @aH) tI ?_;intro id5 K;have ck:=F.mD K;have h2:=F.own (b:= .cells 56 (pR f).cells) K;simp only[gy,aR]at h2;have k5:(B.set id5 (.cells 56 (pR f).cells)) id5=some (.cells 56 (pR f).cells):=AS.ak _ _ _;simp only[gy,aR]at k5;have a1:AS.le B (B.set id5 (.cells 56 (pR f).cells)):=AS.aj (lR _) ck;simp only[gy,aR]at a1;generalize (B.set id5 (.cells 56 [zS f.name,zI f.owner,zI f.ty.kind,zI f.ty.index,zI f.ty.bT,.sc (.bool f.ty.ref),.sc (.bool f.stat)]))=A at*;have q5:=h2.le _ _ k5;generalize (τ2.set id5 (.cells 56 [zS f.name,zI f.owner,zI f.ty.kind,zI f.ty.index,zI f.ty.bT,.sc (.bool f.ty.ref),.sc (.bool f.stat)]))=S at*;refine gO (S:= [9]) cQ @o tI ?_
  (with_reducible apply aq.region);simp-implicitDefEqProofs [q5]
  repeat (with_reducible refine j2 (by first|omega|assumption|decide) ?_)
  try (with_reducible apply aq.seq)
  refine Sg.xC (α:=Unit) (fun _ =>True) (fun _ => [(0,.ptr k.aO 0),(5,.ptr id5 0),(6,zI (if f.stat=true then 1 else 0)),(33,.ao 56 (g.fs.map pR) .aI g.fn),(34,zI g.fs.length),(35,zI i)]) (fun _ =>S) ?_ ?_
  ·cases c7:f.stat
   ·refine gO cQ tI tI ?_;refine fK.mk (()) (gF tI) gT ?_;try dsimp only
   ·refine gO cQ tI tI ?_;refine fK.mk (()) (gF tI) gT ?_;try dsimp only
  rintro _ _;have b1:=fun σ=>PI f.ty σ;simp only[aC]at b1;refine HV (α:=AS) (fun v=>zG k g A (i+1) v) (fun _ => [(0,.ptr k.aO 0),(33,.ao 56 (g.fs.map pR) .aI g.fn),(34,zI g.fs.length),(35,zI i)]) (fun v=>v) (fun _ _ =>rfl) ?_ ?_
  ·(((with_reducible apply dX 11 kf);refine dY mixed ?_);simp-implicitDefEqProofs [q5])
   repeat' (with_reducible apply j2)
   all_goals
    refine ag.of (h2.name f.name (by simp only;omega)) ?_ (fun _ _ h=>h.elim);rintro r τ3 ⟨rfl,h3⟩;have r5:=h3.le _ _ k5;simp-implicitDefEqProofs [r5,ch]
    repeat' (with_reducible apply j2)
    all_goals
     refine ag.ay (b1 _) ?_;simp-implicitDefEqProofs;refine ag.of (h3.yx (cM (kZ f.ty)) _ (by simp only;omega)) ?_ (fun _ _ h=>h.elim);rintro r Y ⟨rfl,h4⟩;have r6:=h4.le _ _ k5;simp-implicitDefEqProofs [cj];refine ri.lX ?_ ?_
     ·decide
     simp-implicitDefEqProofs [bF,g8,aB];intro id J;have hr:=h4.uk (t:=1) (vals:= [(if f.stat=true then 1 else 0),((g.ts.length:Int)+i),(i:Int)]) (by omega) J (qq fun y hy=>Nat.le_trans (L y hy) (by omega));simp only[map_cons,map_nil,aF,length_cons,length_nil,Nat.reduceAdd,Int.cast_ofNat_Int]at hr;refine ag.of hr ?_ (fun _ _ h=>h.elim);rintro r X ⟨rfl,h5⟩;simp-implicitDefEqProofs;refine fK.mk (X) (gF tI) gT ?_;try dsimp only
     refine⟨nw I 1 (id,[(if f.stat=true then 1 else 0),((g.ts.length:Int)+i),(i:Int)]),?_,?_⟩
     ·rw[ci,cc];exact h5
     ·rw[lv,E,ce];simp[uO,dv]
  ·rintro τ6 ⟨T2,O,M⟩;refine gO cQ @o tI ?_;refine gB ((i+1,τ6)) gT ?_;try dsimp only
   exact⟨l,T2,O.drop a1,M⟩
 obtain rfl:i=g.fs.length:=by omega
 have be:=uV.z w;have a4:=be.choose_spec.1.aO;simp only[ee]at a4;clear w bf a5 hi l;refine gO cQ (j2 @a4 @aH) tI ?_;refine aq.aQ (α:=(Nat)×(AS)) ((0,τ2)) (fun⟨i,τ3⟩=>g.ms.length-i) (fun⟨i,τ3⟩=>i≤g.ms.length∧uV k g B i τ3) [(0,?_),(61,?_),(62,?_)] (fun⟨i,τ3⟩=> [(63,zI i)]) (fun⟨i,τ3⟩=>τ3) ?_ ?_ ?_ ?_;rotate_left 3
 ·exact gF tI
 ·(try dsimp only);exact lR _
 ·exact⟨by omega,be⟩
 intro x_ q;obtain⟨i,τ3⟩:=x_;try dsimp only at q⊢
 obtain⟨hi,w⟩:=q;simp only[eZ];by_cases l:i<g.ms.length
 ·have o:zW ((i:Int)+1)=((i+1:Nat):Int):=bQ (by omega);repeat (first
   |refine g1 ?_
   |((first|refine g2 ?_ |((with_reducible apply dX 11 kf);refine dY mixed ?_));simp-implicitDefEqProofs [l,bw])
   |(refine g3 ?_;try simp-implicitDefEqProofs))
  intro id3 u;obtain⟨I,F,E⟩:=w;have bs:uV k g (B.set id3 (.cells 53 (kH g.ms[i]).cells)) i (τ3.set id3 (.cells 53 (kH g.ms[i]).cells)):=⟨I,F.own u,E⟩;have V:=F.mD u;have hc:=SI.WA H i l bs;simp only[bw,aR]at hc;refine gO cQ @o tI ?_;refine ag.of hc ?_ (fun _ _ h=>h.elim);rintro r Y ⟨rfl,T2,O,M⟩;simp-implicitDefEqProofs;refine gO cQ @o tI ?_;refine gB ((i+1,Y)) gT ?_;try dsimp only
  exact⟨l,T2,O.drop (AS.aj (lR _) V),M⟩
 obtain rfl:i=g.ms.length:=by omega
 have bc:=Dt.z w;have a3:=bc.choose_spec.1.aO;simp only[ee]at a3;clear w be a4 hi l;have c0:(dx g).sp.length≤20000:=by have:=H.sp g.ms.length;rwa [take_length]at this
 have c1:(dx g).lo.length≤64:=by have:=H.lo g.ms.length;rwa [take_length]at this
 have b2:∀x∈(dx g).lo,x.length≤1000:=by have:=H.lA g.ms.length;rwa [take_length]at this
 have c8:=qJ g;refine gO cQ (j2 @a3 @aH) tI ?_;refine aq.aQ (α:=(Nat)×(AS)) ((0,τ3)) (fun⟨i,Y⟩=>(dx g).sp.length-i) (fun⟨i,Y⟩=>i≤(dx g).sp.length∧Dt k g B i Y) [(0,?_),(75,?_),(76,?_)] (fun⟨i,Y⟩=> [(77,zI i)]) (fun⟨i,Y⟩=>Y) ?_ ?_ ?_ ?_;rotate_left 3
 ·exact gF tI
 ·(try dsimp only);exact lR _
 ·exact⟨by omega,bc⟩
 intro x_ q;obtain⟨i,Y⟩:=x_;try dsimp only at q⊢
 obtain⟨hi,w⟩:=q;simp only[eZ];by_cases l:i<(dx g).sp.length
 ·have o:zW ((i:Int)+1)=((i+1:Nat):Int):=bQ (by omega);obtain⟨I,F,E⟩:=w;have L:=Dk (i:=i) (j:=0) H E;have a8:=NX (g:=g) (i:=i) (by omega);have a9:=Lj (g:=g) l;have a7:=BK (g:=g) l;generalize ht:(dx g).sp[i]=t at*;generalize Ix g++((dx g).sp.take i).map (fun t=>cM (mj t))=BL at*;have am:=fun σ=>LC t σ;simp only[aC]at am;refine gO (S:= [21]) cQ (j4 l @aC @ht @aH) tI ?_;intro cs G;have V:=F.mD G;have h2:=F.own (b:= .cells 49 (cF t).cells) G;simp only[aC,aR]at h2;refine gO (S:= [21]) cQ @o tI ?_
  with_reducible apply aq.eJ
  refine bq.first 7 ?_;simp-implicitDefEqProofs;refine ag.ay (am _) ?_;simp-implicitDefEqProofs;refine ag.of (h2.yx (cM (mj t)) _ (by simp only;omega)) ?_ (fun _ _ h=>h.elim);rintro r X ⟨rfl,h4⟩;simp-implicitDefEqProofs [a8];refine bq.sp rfl (ia.lX ?_ ?_)
  ·decide
  simp-implicitDefEqProofs [bF,g8,aB];intro id J;have hr:=h4.uk (t:=4) (vals:= [(g.fs.length:Int)+g.ms.length+i]) (by omega) J (qq fun y hy=>Nat.le_trans (L y hy) (by omega));simp only[map_cons,map_nil,aF,length_cons,length_nil,Nat.reduceAdd,Int.cast_ofNat_Int]at hr;refine bq.rest ?_;simp-implicitDefEqProofs;refine ag.of hr ?_ (fun _ _ h=>h.elim);rintro r τ6 ⟨rfl,h5⟩;simp-implicitDefEqProofs;refine gO cQ @o tI ?_;refine gB ((i+1,τ6)) gT ?_;try dsimp only
  refine⟨l,nw I 4 (id,[(g.fs.length:Int)+g.ms.length+i]),?_,?_⟩
  ·rw[a9];exact h5.drop (AS.aj (lR _) V)
  ·rw[lv,E,a7];simp[qd,dv]
 obtain rfl:i=(dx g).sp.length:=by omega
 have bb:=GC.z w;have a2:=bb.choose_spec.1.aO;simp only[ee]at a2;clear w bc a3 hi l;refine gO cQ (j2 @a2 @aH) tI ?_;refine aq.aQ (α:=(Nat)×(AS)) ((0,Y)) (fun⟨i,X⟩=>(dx g).lo.length-i) (fun⟨i,X⟩=>i≤(dx g).lo.length∧GC k g B i X) [(0,?_),(95,?_),(96,?_)] (fun⟨i,X⟩=> [(97,zI i)]) (fun⟨i,X⟩=>X) ?_ ?_ ?_ ?_;rotate_left 3
 ·exact gF tI
 ·(try dsimp only);exact lR _
 ·exact⟨by omega,bb⟩
 intro x_ q;obtain⟨i,X⟩:=x_;try dsimp only at q⊢
 obtain⟨hi,w⟩:=q;simp only[eZ];by_cases l:i<(dx g).lo.length
 ·have o:zW ((i:Int)+1)=((i+1:Nat):Int):=bQ (by omega);obtain⟨I,h2,E⟩:=w;have L:=Dk (i:=(dx g).sp.length) (j:=i) H (by rw[take_of_length_le (by simp[dD])];exact E);have a8:=NW (g:=g) (i:=i) (by omega);have a9:=Li (g:=g) l;have a7:=Cx (g:=g) l;have am:=fun σ=>qi (dx g).lo[i] .aI (decide ((dx g).lo[i]= [])) (by have:=b2 _ (getElem_mem l);omega) σ;generalize ht:(dx g).lo[i]=t at*;generalize EO g++((dx g).lo.take i).map (fun t=>cM (dO t))=BL at*;refine gO (S:= [26]) cQ (j4 l @jd @ht @aH) tI ?_
  with_reducible apply aq.eJ
  refine bq.first 7 ?_;simp-implicitDefEqProofs;refine ag.ay (am _) ?_;simp-implicitDefEqProofs;refine ag.of (h2.yx (cM (dO t)) _ (by simp only;omega)) ?_ (fun _ _ h=>h.elim);rintro r τ6 ⟨rfl,h4⟩;simp-implicitDefEqProofs [a8];refine bq.sp rfl (ia.lX ?_ ?_)
  ·decide
  simp-implicitDefEqProofs [bF,g8,aB];intro id J;have hr:=h4.uk (t:=5) (vals:= [(g.fs.length:Int)+g.ms.length+(dx g).sp.length+i]) (by omega) J (qq fun y hy=>Nat.le_trans (L y hy) (by omega));simp only[map_cons,map_nil,aF,length_cons,length_nil,Nat.reduceAdd,Int.cast_ofNat_Int]at hr;refine bq.rest ?_;simp-implicitDefEqProofs;refine ag.of hr ?_ (fun _ _ h=>h.elim);rintro r τ7 ⟨rfl,h5⟩;simp-implicitDefEqProofs;refine gO cQ @o tI ?_;refine gB ((i+1,τ7)) gT ?_;try dsimp only
  refine⟨l,nw I 5 (id,[(g.fs.length:Int)+g.ms.length+(dx g).sp.length+i]),?_,?_⟩
  ·rw[a9];exact h5
  ·rw[lv,E,a7];simp[qd,dv]
 obtain rfl:i=(dx g).lo.length:=by omega
 obtain⟨I,F,E⟩:=w;rw[take_of_length_le (by omega)]at F;rw[take_of_length_le (by simp[dW])]at E;have b0:=F.aO;simp only[ee]at b0;have de:=H.en;have hw:zW (g.entry+1)=g.entry+1:=az (by omega) (by omega);clear bb a2 hi l;refine gO cQ (j3 @b0 @hw @aH) tI ?_;refine⟨_,_,Wk.refl _,?_,rfl,I,X,F,E,rfl⟩;exact le_eq (by simp[ee,DJ])
variable {P:Program} {n:Nat} {ds:List Deferred} {Q:AQ} {s:Fr} {c:Code}
def BN:List AV→List (Nat×TypeId)→List Nat→List AV
 |cs,(k,e)::i,t::h=>BN (cs.set k (.ao e [] (.tok t) true)) i h
 |cs,_,_ =>cs
def aq.J7 (id:Nat) {ty:TypeId} :∀(l:List (Nat×TypeId)) {σ:AS}{cs:List AV},σ id=some (.cells ty cs)→(∀p∈l,p.1<cs.length∧cs.getD p.1 .any= .ai)→(l.map (·.1)).Nodup→
 (∀(i:List Nat) (u:AS),i.length=l.length→i.Nodup→(∀t∈i,σ t=none)→u id=some (.cells ty (BN cs l i))→(∀t∈i,u t=some (.tok 0))→(∀j,j≠id→j ∉ i→u j=σ j)→aq P n ds c Q s u)→aq P n ds c Q s σ:=by
 intro l;induction l with
 |nil=>intro σ cs h1 _ _ h;exact h [] σ rfl nodup_nil (fun t ht=>by cases ht) h1 (fun t ht=>by cases ht) (fun _ _ _ =>rfl)
 |cons p l K=>
  intro σ cs h1 I F h;obtain⟨k,e⟩:=p;obtain⟨M,L⟩:=I (k,e) (by simp);simp only[map_cons,nodup_cons]at F;refine aq.r9 id k e [] true h1 M (.inr ⟨L,rfl,rfl⟩) fun v w=> ?_;have y:id≠v:=nq w h1;refine K (cs:=cs.set k (.ao e [] (.tok v) true)) (by rw[AS.ae _ _ y,AS.ak]) (fun q H=> ?_) F.2 fun i u a1 a2 a3 a4 Y J=> ?_
  ·obtain⟨X,V⟩:=I q (by simp[H]);have E:k≠q.1:=fun O=>F.1 (mem_map.2 ⟨q,H,O.symm⟩);exact⟨by simpa using X,by rw[getD_eq_getElem?_getD,getElem?_set_ne E,←getD_eq_getElem?_getD];exact V⟩
  ·have o:∀t∈i,t≠v∧t≠id∧σ t=none:=fun t ht=>by
    have:=a3 t ht;have t1:t≠v:=by rintro rfl;simp at this
    have t2:t≠id:=by rintro rfl;rw[AS.ae _ _ t1]at this;simp at this
    exact⟨t1,t2,by rw[AS.ae _ _ t1,AS.ae _ _ t2]at this;exact this⟩
   refine h (v::i) u (by simp[a1]) (nodup_cons.2 ⟨fun hm=>(o v hm).1 rfl,a2⟩) (fun t ht=> ?_) a4 (fun t ht=> ?_) fun j G j2=> ?_
   ·rcases mem_cons.1 ht with rfl|ht
    ·exact w
    ·exact(o t ht).2.2
   ·rcases mem_cons.1 ht with rfl|ht
    ·rw[J _ y.symm (fun hm=>(o _ hm).1 rfl),AS.ak];rfl
    ·exact Y t ht
   ·simp only[mem_cons,not_or]at j2;rw[J j G j2.2,AS.ae _ _ j2.1,AS.ae _ _ G]
abbrev Fz:=Nat×TypeId×List AV
def wO:List Fz→AS→AS
 |[],σ=>σ
 |p::r,σ=>(wO r σ).set p.1 (.cells p.2.1 (aB p.2.2))
def Cc {j:Nat} :∀ {L:List Fz}{σ:AS},(∀p∈L,p.1≠j)→wO L σ j=σ j
 |[],_,_ =>rfl
 |p::r,σ,h=>by rw[wO,AS.ae _ _ (fun e=>h p (by simp) e.symm)];exact Cc fun q i=>h q (by simp[i])
def Xx (P:Program) (G:Gh) (p:Fz):Prop:= ∀y,aV P G (.fH p.1 0 p.2.2.length p.2.2.length) y→aV P G (.ao p.2.1 p.2.2 .full false) y
def Inv.Ns {w:World} :∀ {L:List Fz}{σ:AS}{G:Gh},Inv P G (wO L σ) w→(∀p∈L,σ p.1=none)→(L.map (·.1)).Nodup→(∀p∈L,∀v∈p.2.2,v.cells.length=P.cellsOf p.2.1)→
 ∃G',G.Le G'∧Inv P G' σ w∧ ∀p∈L,Xx P G' p:=by
 intro L;induction L with
 |nil=>intro σ G j _ _ _;exact⟨G,.refl G,j,fun p K=>by cases K⟩
 |cons p L I=>
  intro σ G j h1 o E;simp only[map_cons,nodup_cons]at o;have h0:wO L σ p.1=none:=by rw[Cc fun q h e=>o.1 (mem_map.2 ⟨q,h,e⟩)];exact h1 p (by simp)
  obtain⟨b,_,u,_⟩:=j.cells p.1 p.2.1 (aB p.2.2) (by simp[wO]);obtain⟨O,g1,g2,g3⟩:=Inv.freeze j h0 rfl (E p (by simp));obtain⟨M,k1,H,F⟩:=I g2 (fun q h=>h1 q (by simp[h])) o.2 (fun q h=>E q (by simp[h]));refine⟨M,g1.trans k1,H,fun q h=> ?_⟩;rcases mem_cons.1 h with rfl|h
  ·intro y J;refine(g3 y ?_).mono k1;have l:=(g1.trans k1).inj _ _ u;cases J with
   |fH i=>rw[l]at i;cases i;exact .fH u
  ·exact F q h
def ad.le {f:FuncId}{i:List AV}{σ τ:AS}{R j:AV→AS→Prop}(h:ad P f i σ R j) (hle:AS.le σ τ):ad P f i τ R j:=
 ⟨h.body,fun G w vals o l=>h.run G w vals (o.weaken hle) l⟩
def ad.Wb {f:FuncId}{u i:List AV}{R E:AV→AS→Prop}{σ:AS}(L:List Fz) (h:ad P f i σ R E) (h1:∀p∈L,σ p.1=none) (K:(L.map (·.1)).Nodup) (J:∀p∈L,∀v∈p.2.2,v.cells.length=P.cellsOf p.2.1)
 (F:∀(G:Gh) (xs:Array Value),(∀p∈L,Xx P G p)→yB P G u xs→yB P G i xs):ad P f u (wO L σ) R E:=by
 refine⟨h.body,fun G w vals I H=> ?_⟩;obtain⟨G',hle,l,conv⟩:=Inv.Ns I h1 K J;refine(h.run G' w vals l (F _ _ conv (H.mono hle))).mono fun e w' he=> ?_;unfold kE at he⊢;split at he
 ·obtain⟨q,j,r,g1,g2,g3,o⟩:=he;exact⟨q,j,r,hle.trans g1,g2,g3,o⟩
 ·obtain⟨x,y,q,j,r,g1,g2,g3,o⟩:=he;exact⟨x,y,q,j,r,hle.trans g1,g2,g3,o⟩
 ·exact he.elim
def Cs {G:Gh}{e:TypeId}{es l:List AV}{o:cC}{nl:Bool}{y:Value}(he:P.cellsOf e=1) (hl:l.length=es.length) (h1:∀i (h:i<es.length),es[i].cells= [es[i]]∧(l[i]'(by omega)).cells= [l[i]'(by omega)])
 (h:∀i (u:i<es.length) y,aV P G es[i] y→aV P G (l[i]'(by omega)) y) (w:aV P G (.ao e es o nl) y):aV P G (.ao e l .aI nl) y:=by
 have g1:∀i (u:i<es.length),es.getD i .any=es[i]:=fun i u=>by rw[getD_eq_getElem?_getD,getElem?_eq_getElem u];rfl
 have g2:∀i (u:i<es.length),l.getD i .any=l[i]'(by omega):=fun i u=>by rw[getD_eq_getElem?_getD,getElem?_eq_getElem (by omega)];rfl
 cases w with
 |iP I=>have:l= []:=length_eq_zero_iff.1 (by simpa using hl);subst this;exact .iP trivial
 |ao vs L H F K J=>
  rename_i b off cap;have:= @aV.ao P G e l .aI b off cap vs (fun i u=>by rw[g2 i (by omega),(h1 i (by omega)).2,he];rfl) (fun k v=>H k (by rw[hl]at v;exact v)) (fun i j u E=>by
   rw[he]at E;obtain rfl:j=0:=by omega
   have q:i<es.length:=by omega
   have:=F i 0 q (by omega);rw[g1 i q,(h1 i q).1]at this;rw[g2 i q,(h1 i q).2];exact h i q _ this) (by omega) trivial
  rw[hl]at this;exact this
 |pL=>have:l= []:=length_eq_zero_iff.1 (by simpa using hl);subst this;exact .pL
open Sg (aC bL cM b9 kZ mj dO)
open Pl (sV)
variable {k:SK} {g:bY} {d:SD} {T:SR} {B τ:AS}
def yM {j:Nat}{b:bP} :∀ {X:List (Nat×List Int)}{σ:AS},(∀p∈X,p.1≠j)→oc X (σ.set j b)=(oc X σ).set j b
 |[],_,_ =>rfl
 |p::r,σ,h=>by rw[oc,oc,←yM fun q i=>h q (by simp[i]),AS.set_comm (h p (by simp)).symm]
def Fw:∀ {X:List (Nat×List Int)}{σ:AS},(X.map (·.1)).Nodup→ ∀p∈X,oc X σ p.1=some (Pw p)
 |[],_,_,p,i=>by cases i
 |q::r,σ,h,p,i=>by
  simp only[map_cons,nodup_cons]at h;rw[oc];rcases mem_cons.1 i with rfl|i
  ·rw[ef fun x j e=>h.1 (mem_map.2 ⟨x,j,e⟩),AS.ak]
  ·exact Fw h.2 p i
def D7 (T:SR) (t c:Nat) (P:List Int):SR:=T.modify t fun x=>(x.1,x.2.map (yX c P))
def LO (c:Nat) (P:List Int) (r:List Int):List Int:=r.set c (P.getD (r.getD c 0).toNat 0)
def IQ (T:SR) (t c:Nat) (P:List Int):cH (D7 T t c P)=(cH T).modify t (·.map (LO c P)):=by
 unfold cH D7;induction T generalizing t with
 |nil=>cases t<;>rfl
 |cons x r h=>
  cases t with
  |zero=>simp[yX,LO,Function.comp_def]
  |succ t=>simpa using h t
def MR (T:SR) (t c:Nat) (P:List Int):(D7 T t c P).map (·.1)=T.map (·.1):=by
 unfold D7;induction T generalizing t with
 |nil=>cases t<;>rfl
 |cons x r h=>cases t with
  |zero=>simp
  |succ t=>simpa using h t
def MQ (T:SR) (t c:Nat) (P:List Int):((D7 T t c P).flatMap fun x=>x.2.map (·.1))=T.flatMap fun x=>x.2.map (·.1):=by
 unfold D7;induction T generalizing t with
 |nil=>cases t<;>rfl
 |cons x r h=>cases t with
  |zero=>simp[yX,Function.comp_def]
  |succ t=>simpa using h t
def PQ (T:SR) (t c:Nat) (P:List Int):(D7 T t c P).map BE=T.map BE:=by
 unfold D7;induction T generalizing t with
 |nil=>cases t<;>rfl
 |cons x r h=>cases t with
  |zero=>simp[BE,yX,Is,Function.comp_def]
  |succ t=>simpa using h t
def FM {T:SR}{t c:Nat}{P:List Int}{y:Nat×List (Nat×List Int)}(i:y∈D7 T t c P):(∃j,j≠t∧T[j]? =some y)∨ ∃x,T[t]? =some x∧y=(x.1,x.2.map (yX c P)):=by
 obtain⟨j,h,rfl⟩:=getElem_of_mem i;simp only[D7,length_modify]at h;simp only[D7,getElem_modify];split
 ·rename_i e;subst e;exact .inr ⟨T[t],by simp[h],rfl⟩
 ·rename_i e;exact .inl ⟨j,fun l=>e l.symm,by simp[h]⟩
def HE:∀ {T:SR},(T.flatMap fun x=>x.2.map (·.1)).Nodup→ ∀ {i j:Nat}{x y:Nat×List (Nat×List Int)},T[i]? =some x→T[j]? =some y→i≠j→ ∀p∈x.2,∀q∈y.2,p.1≠q.1:=by
 intro T;induction T with
 |nil=>intro _ i j x y h;simp at h
 |cons z r F=>
  intro h i j x y l o w p u q v;simp only[flatMap_cons]at h;obtain⟨h1,G,E⟩:=nodup_append.1 h;have mem:∀ {i:Nat} {x:Nat×List (Nat×List Int)} {p:Nat×List Int},r[i]? =some x→p∈x.2→p.1∈r.flatMap fun x=>x.2.map (·.1):=fun l u=>mem_flatMap.2 ⟨_,mem_of_getElem? l,mem_map.2 ⟨_,u,rfl⟩⟩;cases i with
  |zero=>
   simp only[getElem?_cons_zero,Option.some.injEq]at l;subst l;cases j with
   |zero=>exact absurd rfl w
   |succ j=>simp only[getElem?_cons_succ]at o;exact E p.1 (mem_map.2 ⟨p,u,rfl⟩) q.1 (mem o v)
  |succ i=>
   simp only[getElem?_cons_succ]at l;cases j with
   |zero=>simp only[getElem?_cons_zero,Option.some.injEq]at o;subst o;exact fun e=>E q.1 (mem_map.2 ⟨q,v,rfl⟩) p.1 (mem l u) e.symm
   |succ j=>simp only[getElem?_cons_succ]at o;exact F G l o (by omega) p u q v
def SI.pl (h:SI k g d T B τ) {t c:Nat}{P:List Int}{x:Nat×List (Nat×List Int)}(ht:T[t]? =some x):SI k g d (D7 T t c P) B (oc (x.2.map (yX c P)) τ)∧(x.2.map (·.1)).Nodup∧(∀p∈x.2.map (yX c P),p.1≠k.aO):=by
 have l:x∈T:=mem_of_getElem? ht;have E:=nodup_append.1 h.kp;have K:(x.2.map (·.1)).Nodup:=by have:=E.2.1;exact List.Nodup.sublist (sublist_flatten_of_mem (mem_map.2 ⟨x,l,rfl⟩):(x.2.map (·.1)).Sublist _) (by simpa[List.flatMap]using this)
 have I:((x.2.map (yX c P)).map (·.1)).Nodup:=by simpa[yX,Function.comp_def]using K
 have out:∀p∈x.2.map (yX c P),p.1≠k.aO∧p.1≠k.bp∧p.1≠k.tS∧p.1≠k.tL∧p.1≠k.tN∧p.1≠k.tB∧p.1≠k.tC:=by intro p i;obtain⟨q,w,rfl⟩:=mem_map.1 i;exact h.DV l (p:=q) w
 have v:∀y∈T,∀p∈x.2.map (yX c P),p.1≠y.1:=by intro y H p i;obtain⟨q,w,rfl⟩:=mem_map.1 i;exact fun e=>E.2.2 y.1 (mem_map.2 ⟨y,H,rfl⟩) q.1 (mem_flatMap.2 ⟨x,l,mem_map.2 ⟨q,w,rfl⟩⟩) e.symm
 have J:keys k (D7 T t c P)=keys k T:=by unfold keys;rw[MR,MQ]
 refine⟨⟨?_,?_,?_,?_,?_,?_,?_,fun y H=> ?_,fun y H p i=> ?_,fun j b F=> ?_,by simpa[D7]using h.Fu,by rw[J];exact h.nd,by rw[J];exact h.fr⟩,K,fun p i=>(out p i).1⟩
 ·rw[ef fun p i=>(out p i).1];exact h.aO
 ·rw[ef fun p i=>(out p i).2.1,PQ];exact h.bp
 ·rw[ef fun p i=>(out p i).2.2.1];exact h.tS
 ·rw[ef fun p i=>(out p i).2.2.2.1];exact h.tL
 ·rw[ef fun p i=>(out p i).2.2.2.2.1];exact h.tN
 ·rw[ef fun p i=>(out p i).2.2.2.2.2.1];exact h.tB
 ·rw[ef fun p i=>(out p i).2.2.2.2.2.2];exact h.tC
 ·rcases FM H with⟨j,F,u⟩|⟨L,o,rfl⟩
  ·have G:=mem_of_getElem? u;rw[ef (v y G)];exact h.IS y G
  ·rw[ht]at o;cases o;rw[ef (v x l)];simpa using h.IS x l
 ·rcases FM H with⟨j,F,u⟩|⟨L,o,rfl⟩
  ·rw[ef fun q w=> ?_]
   ·exact h.row y (mem_of_getElem? u) p i
   ·obtain⟨z,M,rfl⟩:=mem_map.1 w;exact HE E.2.1 ht u (Ne.symm F) z M p i
  ·rw[ht]at o;cases o;exact Fw I p i
 ·rw[ef fun p i e=> ?_]
  ·exact h.le j b F
  ·obtain⟨q,w,rfl⟩:=mem_map.1 i;have:=h.fr q.1 (by simp only[keys,mem_cons,mem_append,mem_flatMap,mem_map];exact .inr (.inr (.inr (.inr (.inr (.inr (.inr (.inr ⟨x,l,q,w,rfl⟩))))))));have O:q.1=j:=e;rw[←O,this]at F;cases F
def SJ (k:SK) (g:bY) (d:SD) (T:SR) (B:AS) (en:Int) (τ:AS):Prop:= ∃h,SI k g d T B h∧τ=h.set k.aO (.cells 74 (vY k g d en))
def SJ.aO {en:Int}(h:SJ k g d T B en τ):τ k.aO=some (.cells 74 (vY k g d en)):=by obtain⟨i,_,rfl⟩:=h;exact AS.ak _ _ _
def SJ.place {en:Int}(h:SJ k g d T B en τ) {t c:Nat}{P:List Int}{op:cC}{np:Bool}{x:Nat×List (Nat×List Int)}(ht:T[t]? =some x) (E:x.2.length≤100000) (G:P.length≤100000)
 (F:∀p∈x.2,c<p.2.length∧0≤p.2.getD c 0∧(p.2.getD c 0).toNat<P.length∧p.2.length≤1000):
 ad prog 31 [.ptr k.aO 0,zI t,zI c,.ao 3 (P.map aS) op np] τ (fun r q=>r= .bI []∧SJ k g d (D7 T t c P) B en q) No:=by
 have j:=h.aO;obtain⟨H,h0,rfl⟩:=h;obtain⟨w,v,u⟩:=h0.pl (c:=c) (P:=P) ht;have i:x∈T:=mem_of_getElem? ht;have o:=h0.ne.1;refine(JI t c x.2 P (T.map BE) k.aO k.bp (.tok x.1) (decide (x.2= [])) op np _ _ _ _ _ _ _ _ _ _ _ _ E (by simpa using h0.Fu) G _ j (by rw[AS.ae _ _ (Ne.symm o)];exact h0.bp) (by rw[getElem?_map,ht];rfl) (fun p l=> ?_) v).mono (fun r q y=> ?_) (fun _ _ h=>h)
 ·refine⟨?_,F p l⟩;rw[AS.ae _ _ (h0.DV i l).1];exact h0.row x i p l
 ·obtain⟨rfl,rfl⟩:=y;exact⟨rfl,_,w,yM u⟩
end Im
end Go.Proofs.YtknalmoackcpbaaGreat
namespace Go.Proofs.YtknalmoackcpbaaGreat
namespace St
def tg:Nat→zY
 |0=> [82,79,87,83]
 |1=> [78,65,77,69]
 |2=> [66,76,79,66]
 | _ => [67,79,68,69]
def nY (t:zY):Int:=if t=tg 0 then 0 else if t=tg 1 then 1 else if t=tg 2 then 2 else if t=tg 3 then 3 else-1
def Vg (t:zY) (σ:AS) (m:Nat) (s:Fr) (h:AS):Prop:=
 ∃k:Nat,m=4-k∧k≤4∧(∀j,j<k→t≠tg j)∧h=σ∧s=iO [(0,zS t),(4,zI k)]
def GR (t:zY) (σ:AS):ad prog 157 [zS t] σ (ah (zI (nY t)) σ) No:=by
 refine ad.ob func157 ?_;refine gO aa tI tI ?_;refine aq.dc (Vg t σ) (k0:=4) ⟨0,rfl,by omega,by omega,rfl,rfl⟩ (aN.mk (by simp)) (lR _) ?_;rintro m s w ⟨k,hm,v,i,rfl,rfl⟩;have q:∀j,t≠tg j→(tg j=t)=False:=fun j h=>by simp;exact fun e=>h e.symm
 match k,v with
 |0,_ =>
  by_cases h:t=tg 0
  ·have l:([82,79,87,83]=t)=True:=by simp[h,tg]
   refine gO aa @l tI ?_;simp[nY,h]
  ·have l:([82,79,87,83]=t)=False:=q 0 h;refine gO aa @l tI ?_;refine⟨m-1,_,_,by omega,aN.mk (by simp),lR _,1,by omega,by omega,fun j o=> ?_,rfl,rfl⟩
   match j,o with
   |0,_ =>exact h
 |1,_ =>
  have h0:=i 0 (by omega);by_cases h:t=tg 1
  ·have l:([78,65,77,69]=t)=True:=by simp[h,tg]
   refine gO aa @l tI ?_;rw[nY,if_neg h0,if_pos h];exact Wk.refl _
  ·have l:([78,65,77,69]=t)=False:=q 1 h;refine gO aa @l tI ?_;refine⟨m-1,_,_,by omega,aN.mk (by simp),lR _,2,by omega,by omega,fun j o=> ?_,rfl,rfl⟩
   match j,o with
   |0,_ =>exact h0
   |1,_ =>exact h
 |2,_ =>
  have h0:=i 0 (by omega);have h1:=i 1 (by omega);by_cases h:t=tg 2
  ·have l:([66,76,79,66]=t)=True:=by simp[h,tg]
   refine gO aa @l tI ?_;rw[nY,if_neg h0,if_neg h1,if_pos h];exact Wk.refl _
  ·have l:([66,76,79,66]=t)=False:=q 2 h;refine gO aa @l tI ?_;refine⟨m-1,_,_,by omega,aN.mk (by simp),lR _,3,by omega,by omega,fun j o=> ?_,rfl,rfl⟩
   match j,o with
   |0,_ =>exact h0
   |1,_ =>exact h1
   |2,_ =>exact h
 |3,_ =>
  have h0:=i 0 (by omega);have h1:=i 1 (by omega);have u:=i 2 (by omega);by_cases h:t=tg 3
  ·have l:([67,79,68,69]=t)=True:=by simp[h,tg]
   refine gO aa @l tI ?_;rw[nY,if_neg h0,if_neg h1,if_neg u,if_pos h];exact Wk.refl _
  ·have l:([67,79,68,69]=t)=False:=q 3 h;refine gO aa @l tI ?_;refine⟨m-1,_,_,by omega,aN.mk (by simp),lR _,4,by omega,by omega,fun j o=> ?_,rfl,rfl⟩
   match j,o with
   |0,_ =>exact h0
   |1,_ =>exact h1
   |2,_ =>exact u
   |3,_ =>exact h
 |4,_ =>refine gO aa tI tI ?_;rw[nY,if_neg (i 0 (by omega)),if_neg (i 1 (by omega)),if_neg (i 2 (by omega)),if_neg (i 3 (by omega))];exact Wk.refl _
def DO (a e:Int):AV:= .agg [zI a,zI e]
def KR (id:Nat) (b:zY) (a:Int) (nl:Bool) (σ:AS) (M:nl=true→b= []) (h:σ id=some (bA b a nl)) (ha:0≤a) (hb:a+12≤b.length) (hl:b.length≤140737488355328):
 ad prog 101 [.ptr id 0] σ (ah (.bI [zI (nY (cu b (a+8) 4)),DO (aY (cu b a 4)) (aY (cu b a 4)+aY (cu b (a+4) 4))]) (σ.set id (bA b (a+12) nl))) No:=by
 have O:(256:Int)^4=4294967296:=by decide
 have b1:=jb (cu b a 4);have b2:=jb (cu b (a+4) 4);have l1:=eC b a 4 ha (by omega) (by omega);have l2:=eC b (a+4) 4 (by omega) (by omega) (by omega);rw[show(cu b a 4).length=4 by omega,O]at b1;rw[show(cu b (a+4) 4).length=4 by omega,O]at b2;have p1:=ct (cu b a 4);have p2:=ct (cu b (a+4) 4);have u:=fun σ h=>lN id b a 4 nl σ h ha (by omega) hl rfl (by omega);have n2:=fun σ h=>lN id b (a+4) 4 nl σ h (by omega) (by omega) hl rfl (by omega);have K:=fun σ h=>zP id b (a+8) 4 nl σ M h (by omega) (by omega) hl (by omega) (by omega);have tt:=fun σ=>GR (cu b (a+8) 4) σ;rw[show a+4+4=a+8 by omega]at n2;rw[show a+8+4=a+12 by omega]at K;generalize aY (cu b a 4)=x at*;generalize aY (cu b (a+4) 4)=y at*;generalize cu b (a+8) 4=t at*;have w1:zW x=x:=az (by omega) (by omega);have w2:zW y=y:=az (by omega) (by omega);have Y:zW (x+y)=x+y:=az (by omega) (by omega);refine ad.ob func101 ?_;refine gO aa tI tI ?_;intro o i;have n1:¬id=o:=nq h i;have j:=aK n1;refine gO aa tI tI ?_;refine ag.ay (u _ (by simp[n1,h])) ?_;simp-implicitDefEqProofs;refine gO aa tI tI ?_;refine ag.ay (n2 _ (by simp)) ?_;simp-implicitDefEqProofs;refine gO aa tI tI ?_;refine ag.of (K _ (by simp)) ?_ (fun _ _ h=>h.elim);rintro r σ1 ⟨G,l,rfl,rfl⟩;have J:¬id=G:=by rintro rfl;simp at l
 have H:¬o=G:=by rintro rfl;simp[j]at l
 simp-implicitDefEqProofs [n1,j,J,H];refine gO aa (j7 @j @H @w1 @w2 @Y @qL @DO.eq_1) @tt ?_;have X:=aK J;have V:=aK H;have w:σ G=none:=by simpa[AS.set,X,V]using l
 clear l u n2 K tt;have I:=(j8 i w @n1 @j @J @H @X @V);intro L y_;refine gK I L id fun F=>gK I L o fun q=>gK I L G fun E=> ?_;intro v;simp[AS.set,I,F,q,E]at v⊢;try exact v
def ov (a e:Int) (x:Int×Int×Int):Bool:=decide (a<x.2.2∧x.2.1<e∧a<e∧x.2.1<x.2.2)
def nX (len:Int) (M:List (Int×Int×Int)) (k a e:Int):Int:=
 if k<0∨M.any (fun x=>x.1==k)=true then 2 else if a<56∨a%4≠0 then 3 else if len<e then 1 else if M.any (ov a e)=true then 2 else 0
def mV (M:List (Int×Int×Int)):List (Int×AV):=M.map fun x=>(x.1,DO x.2.1 x.2.2)
def KP (k:Int) (M:List (Int×Int×Int)):(pc k (mV M)).isSome=M.any (fun x=>x.1==k):=by
 induction M with
 |nil=>rfl
 |cons x M i=>
  simp only[mV,map_cons,pc,any_cons]at i⊢;by_cases h:k=x.1
  ·simp[h]
  ·have j:(x.1==k)=false:=by simpa using fun e:x.1=k=>h e.symm
   rw[if_neg h,j,Bool.false_or];exact i
def HL (k:Int) (M:List (Int×Int×Int)):∃a e:Int,(pc k (mV M)).getD (DO 0 0)=DO a e:=by
 induction M with
 |nil=>exact⟨0,0,rfl⟩
 |cons x M i=>
  simp only[mV,map_cons,pc]at i⊢;by_cases h:k=x.1
  ·rw[if_pos h];exact⟨_,_,rfl⟩
  ·rw[if_neg h];exact i
def Ju {P:Program}{σ:AS}{t i l ba:Nat}{es:List (AV×AV)}{K:AV→AS→Prop}(hu:P.underlying t=some (.map i l)) (j:σ ba=some (.map es))
 (h:∀id,σ id=none→K (.ptr id 0) (σ.set id (.jD ba es.length []))):ny P σ t (.mp ba) K:=by
 simp only[ny,hu,j];exact h
def M4 {σ:AS}{id ba h:Nat}{done:List Nat}{es:List (AV×AV)}{K:AV→AS→Prop}(l:σ ba=some (.map es)) (i:es.length=h)
 (hf:(∀k,k<h→k∈done)→K (.bI [zB false]) σ)
 (j:∀k,k<h→k ∉ done→K (.bI [zB true,(es.getD k (.any,.any)).1,(es.getD k (.any,.any)).2]) (σ.set id (.jD ba h (k::done)))):Ci id ba h done σ K:=by
 simp only[Ci,l];exact⟨i,hf,j⟩
def Nf {n k:Nat}{done:List Nat}(j:k<n) (hd:k ∉ done):((List.range n).filter (fun i=>decide (i ∉ k::done))).length<((List.range n).filter (fun i=>decide (i ∉ done))).length:=by
 have e:(List.range n).filter (fun i=>decide (i ∉ k::done))=((List.range n).filter (fun i=>decide (i ∉ done))).filter (fun i=>decide (i≠k)):=by rw[filter_filter];congr 1;funext i;simp
 rw[e];refine Nat.lt_of_le_of_ne (length_filter_le _ _) fun h=> ?_;have l:=length_filter_eq_length_iff.1 h k (by simp[j,hd]);simp at l
def Va (ba id5 h:Nat) (a e:Int) (M:List (Int×Int×Int)) (B:AS) (m:Nat) (f:Fr) (j:AS):Prop:=
 ∃done:List Nat,m=((List.range M.length).filter (fun i=>decide (i ∉ done))).length∧(∀i x,i∈done→M[i]? =some x→ov a e x=false)∧
  j=B.set h (.jD ba M.length done)∧f=iO [(5,.ptr id5 0),(41,.ptr h 0)]
def IB (ba:Nat) (k a e len:Int) (M:List (Int×Int×Int)) (σ:AS) (ha:0≤a) (h:σ ba=some (.map (iG (mV M)))):
 ad prog 102 [zI k,DO a e,zI len,.mp ba] σ (ah (zI (nX len M k a e)) σ) No:=by
 have hz:ax prog 169=DO 0 0:=by simp[DO]
 have H:a.tmod 4=a%4:=Int.tmod_eq_emod_of_nonneg ha;have hf:=KP k M;obtain⟨fa,fe,a4⟩:=HL k M;refine ad.ob func102 ?_;simp only[DO];refine gO (S:= [1]) aa tI tI ?_;intro id5 K;refine gO (S:= [1]) aa tI tI ?_
 with_reducible apply aq.eJ
 refine bq.first 2 ?_;simp-implicitDefEqProofs;have nm:¬ba=id5:=nq h K;simp only[DO]at hz a4;refine bq.sp rfl (ia.Nb (by decide) ba k (mV M) underlying167 underlying3 (by simp) (by simp) (by simp) (by simp[nm,h]) ?_);refine bq.rest ?_;simp-implicitDefEqProofs [pM,hz,a4,hf];intro X q J;have L:=aK q;have a0:¬ba=X:=nq h J;have hle:AS.le σ ((σ.set id5 (bP.cells 169 [AV.sc (Value.int IntKind.i64 a),AV.sc (Value.int IntKind.i64 e)])).set X (bP.cells 169 [AV.sc (Value.int IntKind.i64 fa),AV.sc (Value.int IntKind.i64 fe)])):=an (by simp[J,q]) (an K (lR _));simp only[nX];by_cases hk:k<0
 ·refine gO aa @hk tI ?_;exact hle
 by_cases hT:(M.any fun x=>x.1==k)=true
 ·refine gO aa (j2 @hk @hT) tI ?_;exact hle
 rw[Bool.not_eq_true]at hT;by_cases h1:a<56
 ·refine gO aa (j4 @hk @hT @h1 q) tI ?_;exact hle
 by_cases h2:a%4=0
 ·by_cases h3:len<e
  ·refine gO aa (j7 @hk @hT @h1 @h2 @h3 @H q) tI ?_;exact hle
  refine gO aa (j7 @hk @hT @h1 @h2 @h3 @H q) tI ?_;refine Ju (es:=iG (mV M)) underlying167 (by simp[nm,a0,h]) ?_;generalize hB:(σ.set id5 (bP.cells 169 [AV.sc (Value.int IntKind.i64 a),AV.sc (Value.int IntKind.i64 e)])).set X (bP.cells 169 [AV.sc (Value.int IntKind.i64 fa),AV.sc (Value.int IntKind.i64 fe)])=B at*;have a7:B id5=some (.cells 169 [zI a,zI e]):=by rw[←hB];simp[AS.set,L]
  have a6:B ba=some (.map (iG (mV M))):=by rw[←hB];simp[nm,a0,h]
  have hlen:(iG (mV M)).length=M.length:=by simp[iG,mV]
  intro F E;have l:¬id5=F:=nq a7 E;have u:¬ba=F:=nq a6 E;rw[hlen];simp-implicitDefEqProofs;refine gO aa tI tI ?_;refine aq.dc (Va ba id5 F a e M B) (k0:=((List.range M.length).filter (fun i=>decide (i ∉ ([]:List Nat)))).length) ⟨[],rfl,fun i x hi=>(by cases hi),rfl,rfl⟩ (aN.mk (by simp)) (lR _) ?_;rintro m f σ' ⟨done,hm,a3,hσ,rfl⟩;have G:σ' id5=some (.cells 169 [zI a,zI e]):=by rw[hσ];simp[l,a7]
  have a5:σ' ba=some (.map (iG (mV M))):=by rw[hσ];simp[u,a6]
  have bs:σ' F=some (.jD ba M.length done):=by rw[hσ];simp
  refine gO aa @bs tI ?_;refine M4 a5 hlen (fun hd=> ?_) (fun i hi bf=> ?_)
  ·simp-implicitDefEqProofs;refine gO aa tI tI ?_;have be:M.any (ov a e)=false:=by rw[any_eq_false];intro x hx;obtain⟨i,hi,rfl⟩:=getElem_of_mem hx;rw[a3 i _ (hd i hi) (getElem?_eq_getElem hi)];simp
   rw[be];exact⟨Wk.refl _,by rw[hσ];exact an E hle⟩
  ·obtain⟨⟨k',a',e'⟩,hx⟩:∃x,M[i]? =some x:=⟨_,getElem?_eq_getElem hi⟩;have hg:(iG (mV M))[i]? =some (zI k',.agg [zI a',zI e']):=by simp[iG,mV,hx,DO]
   have I:=Nf hi bf;rw[←hm]at I;rw[show(iG (mV M)).getD i (.any,.any)=(zI k',.agg [zI a',zI e']) by rw[getD_eq_getElem?_getD,hg];rfl];simp-implicitDefEqProofs;refine gO aa (j4 @a5 @hg @hlen u) tI ?_;intro O b0 V;have o:¬id5=O:=nq G V;have w:ov a e (k',a',e')=false→ ∀i' x,i'∈i::done→M[i']? =some x→ov a e x=false:=by
    intro h i' x ab Y;rcases mem_cons.1 ab with rfl|ab
    ·rw[hx]at Y;cases Y;exact h
    ·exact a3 i' x ab Y
   have v:AS.le (B.set F (.jD ba M.length (i::done))) ((σ'.set F (.jD ba M.length (i::done))).set O (.cells 169 [zI a',zI e'])):=by
    refine an (by simp[AS.set,b0,V]) ?_;rw[hσ];intro j y hj;by_cases ej:j=F
    ·simpa[AS.set,ej]using hj
    ·simpa[AS.set,ej]using hj
   by_cases c1:a<e'
   ·by_cases c2:a'<e
    ·by_cases c3:a<e
     ·by_cases c4:a'<e'
      ·refine gO aa (j7 @c1 @c2 @c3 @c4 l o @G) tI ?_;have:M.any (ov a e)=true:=any_eq_true.2 ⟨_,mem_of_getElem? hx,by simp[ov,c1,c2,c3,c4]⟩;rw[this];refine⟨Wk.refl _,?_⟩;exact AS.le_trans (an E hle) v
      ·refine gO aa (j7 @c1 @c2 @c3 @c4 l o @G) tI ?_;exact⟨_,_,_,I,aN.mk (by simp),v,i::done,rfl,w (by simp[ov,c4]),rfl,rfl⟩
     ·refine gO aa (j6 @c1 @c2 @c3 l o @G) tI ?_;exact⟨_,_,_,I,aN.mk (by simp),v,i::done,rfl,w (by simp[ov,c3]),rfl,rfl⟩
    ·refine gO aa (j5 @c1 @c2 l o @G) tI ?_;exact⟨_,_,_,I,aN.mk (by simp),v,i::done,rfl,w (by simp[ov,c2]),rfl,rfl⟩
   ·refine gO aa (j4 @c1 l o @G) tI ?_;exact⟨_,_,_,I,aN.mk (by simp),v,i::done,rfl,w (by simp[ov,c1]),rfl,rfl⟩
 ·refine gO aa (j6 @hk @hT @h1 @h2 @H q) tI ?_;exact hle
def JD (id:Nat) (σ:AS):ad prog 145 [.ptr id 0] σ (ah (.ptr id 0) σ) No:=by refine ad.ob func145 ?_;exact gE aa tI tI
def Hf (id:Nat) (σ:AS):ad prog 146 [.ptr id 0] σ (ah (.ptr id 1) σ) No:=by refine ad.ob func146 ?_;exact gE aa tI tI
def Hg (id:Nat) (σ:AS):ad prog 147 [.ptr id 0] σ (ah (.ptr id 2) σ) No:=by refine ad.ob func147 ?_;exact gE aa tI tI
def JJ (id:Nat) (σ:AS):ad prog 148 [.ptr id 0] σ (ah (.ptr id 3) σ) No:=by refine ad.ob func148 ?_;exact gE aa tI tI
def vp (id:Nat) (k:Nat) (o:k<4) (σ:AS):ad prog 80 [.ptr id 0,zI k] σ (ah (.ptr id k) σ) No:=by
 have l:=JD id σ;have j:=Hf id σ;have i:=Hg id σ;have h:=JJ id σ
 match k,o with
 |0,_ =>refine ad.ob func80 ?_;exact gE aa tI @l
 |1,_ =>refine ad.ob func80 ?_;exact gE aa tI @j
 |2,_ =>refine ad.ob func80 ?_;exact gE aa tI @i
 |3,_ =>refine ad.ob func80 ?_;exact gE aa tI @h
end St
end Go.Proofs.YtknalmoackcpbaaGreat
