/- Chapter 10: loading: a method's body: its instructions. -/
import Derived.Test.YtknalmoackcpbaaGreatLd6
set_option maxRecDepth 100000
set_option maxHeartbeats 3200000
set_option linter.all false
open Go Go.AW Go.Proofs.Tryz List
namespace Go.Proofs.YtknalmoackcpbaaGreat
namespace Im
abbrev lH:bW:=(.S 0 (.S 1 (.S 2 (.S 3 (.S 4 (.S 5 (.S 7 (.S 8 (.S 9 (.S 10 (.S 11 (.S 13 (.R 12 (.A 6 (.A 14 (.S 15 (.S 16 (.A 17 .D .Z))) .Z) (.A 14 (.R 6 (.S 15 (.S 16 (.A 17 .D .Z)))) .Z)))))))))))))))
def bk (S:List Nat):bH prog [(10,lH),(29,(.S 0 (.S 1 (.S 2 (.S 3 (.R 4 (.R 5 (.S 6 (.A 7 (.S 8 (.S 9 (.A 10 .D .Z))) .Z)))))))))] S:=mixed
open Rg (Cl fY aL b7 bz dA)
open Bd (R6 dj sQ cD cy eh)
open Cd (oO dz eY)
variable {k:LK} {e:LE} {d:LD} {B τ:AS}
def o9 (nm nf:Int) (x:cE):Int:=if oO x.op=6 then nm else if oO x.op=7 then nf else 1099511627776
def uZ (sp:List Ty) (nm nf:Int) (i:Nat) (x:cE):Except gD cE:=
 if oO x.op=8 then cA (jP sp x.arg i) fun t=> .ok ⟨x.op,0,t⟩ else
 bK (decide (oO x.op=2)||decide (x.arg<o9 nm nf x)) 5 2 i (.ok x)
def lO (sp:List Ty) (nm nf:Int) (i:Nat):List cE→List cE→Except gD (List cE)
 |acc,[]=> .ok acc
 |acc,x::xs=>cA (uZ sp nm nf i x) fun y=>lO sp nm nf i (acc++ [y]) xs
def CA (sp:List Ty) (P:List Int) (i:Nat) (r:R6):Except gD Cl:=
 match eQ P r with
 |none=> .error (mF 12 2 i)
 |some c=>if c.k=1 then cA (jP sp r.ex i) fun t=> .ok { c with a:=t.kind,b:=t.index,c:=t.bT,r:=t.ref }
  else if c.k≠2 then bK (decide (r.ex=0)) 2 2 i (.ok c)else .ok c
def kU (sp:List Ty) (P:List Int) (i:Nat):List Cl→List R6→Except gD (List Cl)
 |acc,[]=> .ok acc
 |acc,r::rs=>cA (CA sp P i r) fun c=>kU sp P i (acc++ [c]) rs
def vF (sp:List Ty) (i:Nat) (P:List Int) (rs:List R6) (l:List cE):Except gD (List cE×List Cl):=
 cA (kU sp P i [] rs) fun cs=>bK (decide ((b7 (bz l.length) dA cs).2=0)) (b7 (bz l.length) dA cs).2 2 i (.ok (l,cs))
def lQ (C:zY) (sp:List Ty) (nm nf:Int) (g:Int) (i:Nat):Except gD (List cE×List Cl):=
 if (eh C g).2.2≠0 then .error ((eh C g).2.2,4,g)else
 bK (decide ((eY (eh C g).1.1).2.2=0)) (eY (eh C g).1.1).2.2 2 i
  (cA (lO sp nm nf i [] (eY (eh C g).1.1).1.1) fun l=>vF sp i (eY (eh C g).1.1).1.2 (eh C g).1.2 l)
def gz {b:zY}{a:Nat}{n:Int}{l:zY}{g:Nat}(h:Bd.ir b a n= .ok (l,g)):l≠ []∧l.length≤b.length:=by
 refine⟨Bd.sA h,?_⟩;unfold Bd.ir at h;split at h
 ·cases h
 ·split at h
  ·cases h;simp only[cu,length_take,length_drop];omega
  ·cases h
def HP {b:zY}{fr:Nat}{x:zY×List R6}{a:Nat}(h:Bd.iu b fr= .ok (x,a)):x.1≠ []∧x.1.length≤b.length∧x.2.length≤6:=by
 unfold Bd.iu at h;split at h
 ·cases h
 ·split at h
  ·split at h
   ·cases h
   ·rename_i h1;cases h;exact⟨(gz h1).1,(gz h1).2,by simp⟩
  ·split at h
   ·cases h
   ·split at h
    ·cases h
    ·split at h
     ·cases h
     ·split at h
      ·cases h
      ·rename_i h1;split at h
       ·split at h
        ·cases h
        ·rename_i g;cases h;exact⟨(gz h1).1,(gz h1).2,(Bd.uP g).2⟩
       ·split at h
        ·cases h
        ·cases h;exact⟨(gz h1).1,(gz h1).2,by simp⟩
def Jp {b:zY}{g:Int}(h:(eh b g).2.2=0):(eh b g).1.1≠ []∧(eh b g).1.1.length≤b.length∧(eh b g).1.2.length≤6:=by
 unfold eh at h⊢;split at h
 ·simp at h
 ·rename_i j;rw[if_neg j];cases i:Bd.iu b g.toNat with
  |error x=>rw[i]at h;exact absurd h (Bd.HQ i)
  |ok x=>obtain⟨x,a⟩:=x;exact HP i
def SU {A:AS}{ba h i:Nat}{m q t o c:bP}(h1:ba≠h) (u:((A.set ba m).set h t) i=none):AS.le ((A.set ba q).set h o) (((((A.set ba m).set h t).set i c).set h o).set ba q):=by
 intro j x g;by_cases n:j=ba
 ·subst n;rw[AS.ae _ _ h1,AS.ak]at g;rw[AS.ak];exact g
 ·rw[AS.ae _ _ n];by_cases l:j=h
  ·subst l;rw[AS.ak]at g⊢;exact g
  ·rw[AS.ae _ _ l,AS.ae _ _ n]at g;rw[AS.ae _ _ l];have v:j≠i:=by rintro rfl;rw[AS.ae _ _ l,AS.ae _ _ n,g]at u;cases u
   rw[AS.ae _ _ v,AS.ae _ _ l,AS.ae _ _ n];exact g
def WX (k:LK) (e:LE) (d:LD) (B:AS) (ba:Nat) (c0:List AV) (v:List cE×List Cl) (r:AV) (g:AS):Prop:=
 r= .bI []∧LI k e d (B.set ba (.cells 53 (c0++ [.ao 110 (v.1.map aJ) .aI (decide (v.1= [])),.ao 158 (v.2.map fY) .aI (decide (v.2= []))]))) g
theorem LI.code (h:LI k e d B τ) (b5:Int) (i ba:Nat) (hi:i≤65535) (hB:d.sp.length≤100000) (a0 a1 a2 a3 a4 a5 Q O M L:AV)
 (f0:B ba=some (.cells 53 [a0,a1,a2,a3,a4,a5,Q,O,M,L,.ai,.ai])) (B0:AS) (g6:AS.le B0 B) (h4:B0 ba=none):
 ad prog 172 [.ptr k.id 0,.ptr ba 0,zI b5,zI i] τ
  (RL (lQ e.C d.sp e.t2.length e.t1.length b5 i) (WX k e d B ba [a0,a1,a2,a3,a4,a5,Q,O,M,L])) (TL (lQ e.C d.sp e.t2.length e.t1.length b5 i) B0):=by
 have hm:=fun a t r σ=>lg a t r σ;obtain⟨X,ar⟩:∃X,lQ e.C d.sp e.t2.length e.t1.length b5 i=X:=⟨_,rfl⟩;rw[ar];unfold lQ at ar;have e2:=h.id;rw[cf]at e2;simp only[cv]at e2;have b0:∀ {f τ'},X= .error f→AS.le B0 τ'→ ∃σ',AS.le σ' τ'∧TL X B0 (pQ f) σ':=fun {f τ'} hx hle=>⟨τ',lR _,_,hx,rfl,hle⟩;have iC:∀ {f τ'},X= .error f→AS.le B τ'→ ∃σ',AS.le σ' τ'∧TL X B0 (pQ f) σ':=fun {f τ'} hx hle=>b0 hx (AS.le_trans g6 hle);have c4:=fun σ=>Bd.Lb e.C .aI e.cn b5 h.e.cn (by have:=h.e.C;omega) σ;have f8:= @Jp e.C b5;have hC:=h.e.C;generalize eh e.C b5=rd at ar c4 f8;obtain⟨⟨bc,rs⟩,l2,er⟩:=rd;simp only at ar c4 f8;have hf:=fun x σ=>qG x 4 b5 σ;simp only[Bd.QN,Bd.zq]at c4;refine ad.ob func172 ?_;by_cases ea:er=0
 ·rw[if_neg (by simpa using ea)]at ar;obtain⟨hH,l4,l3⟩:=f8 ea;subst ea;have hF:decide (bc= [])=false:=by simp[hH]
  rw[hF]at c4;refine gO (S:= [3]) bk @e2 @c4 ?_;intro H ce;have h8:=h.own (b:= .cells 219 [.ao 5 (bc.map u8) .aI false,.ao 221 (rs.map dj) .aI (decide (rs= []))]) ce;have h2:B H=none:=h.mD ce;have k8:(B.set H (.cells 219 [.ao 5 (bc.map u8) .aI false,.ao 221 (rs.map dj) .aI (decide (rs= []))])) H=some (.cells 219 [.ao 5 (bc.map u8) .aI false,.ao 221 (rs.map dj) .aI (decide (rs= []))]):=AS.ak _ _ _;have f7:ba≠H:=nq f0 h2;have ft:(B.set H (.cells 219 [.ao 5 (bc.map u8) .aI false,.ao 221 (rs.map dj) .aI (decide (rs= []))])) ba=some (.cells 53 [a0,a1,a2,a3,a4,a5,Q,O,M,L,.ai,.ai]):=(AS.ae _ _ f7).trans f0;have ei:AS.le B (B.set H (.cells 219 [.ao 5 (bc.map u8) .aI false,.ao 221 (rs.map dj) .aI (decide (rs= []))])):=AS.aj (lR _) h2;generalize (B.set H (.cells 219 [.ao 5 (bc.map u8) .aI false,.ao 221 (rs.map dj) .aI (decide (rs= []))]))=A at*;generalize (τ.set H (.cells 219 [.ao 5 (bc.map u8) .aI false,.ao 221 (rs.map dj) .aI (decide (rs= []))]))=τ1 at*;have hK:=fun σ=>Cd.EN bc .aI false (by simp) (by omega) σ;have gs:= @NO bc;generalize eY bc=D at hK gs ar;obtain⟨⟨l,P⟩,dp,de⟩:=D;simp only at ar gs;have jI:=h8.le _ _ k8;have bad:=fun a σ=>ep a 2 i (by omega) (by omega) (by omega) (by omega) σ;refine gO (S:= [4]) bk @jI tI ?_;refine ag.of (hK _) ?_ (fun _ _ h=>h.elim);rintro r τ2 ⟨v,hG,rfl⟩;simp-implicitDefEqProofs;rcases aw ar with⟨g0,hX⟩|⟨g0,hX⟩
  ·have g0:de=0:=by simpa using g0
   subst g0;obtain⟨hP,j1,ks,d8⟩:=gs rfl;have d8:=d8 hH;obtain⟨E,cap,u,o0,rfl,rfl,eb,f5⟩:∃E cap u,τ1 E=none∧v= .fH E 0 (l.map aJ).length cap∧τ2=τ1.set E (.cells 110 (aB (l.map aJ++u)))∧(∀x∈l.map aJ++u,x.cells.length=prog.cellsOf 110)∧(l.map aJ).length+u.length=cap:=by
    rcases hG with⟨h1,_,_⟩|hG
    ·exfalso;simp at h1;exact d8 h1
    ·exact hG
   simp only[List.length_map]at f5;have e9:A E=none:=h8.mD o0;obtain⟨nm,gc⟩:∃nm,e.t2.length=nm:=⟨_,rfl⟩;obtain⟨nf,ge⟩:∃nf,e.t1.length=nf:=⟨_,rfl⟩;rw[gc,ge]at hX;obtain⟨Y,hY⟩:∃Y,lO d.sp nm nf i [] l=Y:=⟨_,rfl⟩;rw[hY]at hX;refine gO bk tI @hm ?_;refine aq.aQ (α:=(Nat)×(List cE)×(AS)) ((0,[],τ1.set E (.cells 110 (aB (l.map aJ++u))))) (fun⟨j,n,τ3⟩=>l.length-j) (fun⟨j,n,τ3⟩=>j≤l.length∧n.length=j∧lO d.sp nm nf i n (l.drop j)=Y∧LI k e d (A.set E (.cells 110 (aB ((n++l.drop j).map aJ++u)))) τ3) [(0,?_),(1,?_),(3,?_),(8,?_),(10,?_),(11,?_),(12,?_),(52,?_)] (fun⟨j,n,τ3⟩=> [(53,zI j)]) (fun⟨j,n,τ3⟩=>τ3) ?_ ?_ ?_ ?_;rotate_left 8
   ·exact gF tI
   ·exact gT
   ·exact⟨by omega,rfl,hY,by simpa using h8.own o0⟩
   intro x_ d5;obtain⟨j,n,τ3⟩:=x_;try dsimp only at d5⊢
   obtain⟨hj,b4,g,hS⟩:=d5;simp only[eZ];by_cases b3:j<l.length
   ·have hJ:((j:Int)<l.length)=True:=by simp;omega
    have wj:zW ((j:Int)+1)=j+1:=az (by omega) (by omega);rw[List.drop_eq_getElem_cons b3]at g hS;generalize hx:l[j]=x at*;simp only[lO]at g;have hlen:((n++x::l.drop (j+1)).map aJ++u).length=cap:=by simp;omega
    have bs:∀(z:cE) v,v∈(n++z::l.drop (j+1)).map aJ++u→v.cells.length=6:=by
     intro z v hv;rcases List.mem_append.1 hv with hv|hv
     ·obtain⟨w,_,rfl⟩:=List.mem_map.1 hv;rfl
     ·exact(eb v (by simp[hv])).trans (by simp)
    have g4:j<((n++x::l.drop (j+1)).map aJ++u).length:=by simp;omega
    have kt:((n++x::l.drop (j+1)).map aJ++u)[j]=aJ x:=by rw[List.getElem_append_left (by simp;omega),List.getElem_map,List.getElem_append_right (by omega)];simp[b4]
    have kw:j*6+6≤(aB ((n++x::l.drop (j+1)).map aJ++u)).length:=by rw[dI (bs x)];omega
    have c0:=Cd.lT (m:=6) (bs x) (i:=j) (j:=0) g4 (by omega);have c1:=Cd.lT (m:=6) (bs x) (i:=j) (j:=1) g4 (by omega);rw[kt]at c0 c1;simp only[fI,aR]at c0 c1;have hD:∀z:cE,(aB ((n++x::l.drop (j+1)).map aJ++u)).take (j*6)++((aJ z).cells++(aB ((n++x::l.drop (j+1)).map aJ++u)).drop (j*6+6))=aB ((n++ [z]++l.drop (j+1)).map aJ++u):=by intro z;rw[tY (bs x) g4 (v:=aJ z) rfl];congr 1;rw[List.set_append_left _ _ (by simp;omega)];congr 1;rw[←List.map_set];congr 1;rw[List.set_append_right _ _ (by omega)];simp[b4]
    have hE:n++ [x]++l.drop (j+1)=n++x::l.drop (j+1):=by simp
    have d7:∀z:cE,aB (List.map aJ (n++ [z])++(List.drop (j+1) (List.map aJ l)++u))=aB ((n++ [z]++l.drop (j+1)).map aJ++u):=by intro z;simp[List.map_drop]
    generalize kI:aB ((n++x::l.drop (j+1)).map aJ++u)=CL at*;have fd:j*6<CL.length:=by omega
    have fa:j*6+1<CL.length:=by omega
    have k7:CL[j*6]? =some (zI x.op):=by simpa using c0
    have k5:CL[j*6+1]? =some (zI x.arg):=by simpa using c1
    obtain⟨_,fe⟩:=List.getElem?_eq_some_iff.1 k7;obtain⟨_,fb⟩:=List.getElem?_eq_some_iff.1 k5;have ko:=hS.le _ _ (AS.ak _ _ _);have f9:=fun σ=>sL x.op σ;simp only[gu]at f9;have jW:(gH x.op).2.1=oO x.op:=rfl;rw[jW]at f9;refine gO bk (j4 @hJ @ko @fd @fe) @f9 ?_;intro J d9;have e6:=hS.own (b:= .cells 194 [.sc (.string ⟨(gH x.op).1.toArray⟩),zI (oO x.op),zI ((gH x.op).2.2)]) d9;have cj:=hS.mD d9;have c9:E≠J:=by rintro rfl;rw[AS.ak]at cj;cases cj
    have kW:A J=none:=by rwa [AS.ae _ _ c9.symm]at cj
    have d4:(τ3.set J (.cells 194 [.sc (.string ⟨(gH x.op).1.toArray⟩),zI (oO x.op),zI ((gH x.op).2.2)])) E=some (.cells 110 CL):=(AS.ae _ _ c9).trans ko;have c2:(τ3.set J (.cells 194 [.sc (.string ⟨(gH x.op).1.toArray⟩),zI (oO x.op),zI ((gH x.op).2.2)])) J=some (.cells 194 [.sc (.string ⟨(gH x.op).1.toArray⟩),zI (oO x.op),zI ((gH x.op).2.2)]):=AS.ak _ _ _;have bv:=e6.drop (AS.aj (lR (A.set E (.cells 110 CL))) cj);generalize (τ3.set J (.cells 194 [.sc (.string ⟨(gH x.op).1.toArray⟩),zI (oO x.op),zI ((gH x.op).2.2)]))=τ4 at*;have g5:AS.le B τ4:=AS.le_trans ei (AS.le_trans (AS.aj (lR A) e9) bv.le);have cd:=bv.id;rw[cf]at cd;simp only[cv]at cd;by_cases ca:oO x.op=8
    ·have gI:uZ d.sp nm nf i x=cA (jP d.sp x.arg i) fun t=> .ok ⟨x.op,0,t⟩:=by rw[uZ,if_pos ca]
     rw[gI]at g;simp only[iI,cL]at g;have b1:=bv.spec x.arg i (by omega) hB;rcases aG g with⟨t,hN,g⟩|⟨f,hN,g⟩
     ·have hs:=RL.ok b1 hN;simp only[Sg.aC]at hs;have hw:=hD ⟨x.op,0,t⟩;have e5:=bv.wr (i:=E) (b:= .cells 110 (CL.take (j*6)++((aJ ⟨x.op,0,t⟩).cells++CL.drop (j*6+6)))) (AS.ak _ _ _);rw[AS.set_set]at e5;simp only[fI,aR,List.cons_append,List.nil_append]at e5 hw;have i9:=e5.le _ _ (AS.ak _ _ _);have hA:(τ4.set E (.cells 110 (CL.take (j*6)++(zI x.op::zI 0::zI t.kind::zI t.index::zI t.bT:: .sc (.bool t.ref)::CL.drop (j*6+6))))) J=some (.cells 194 [.sc (.string ⟨(gH x.op).1.toArray⟩),zI (oO x.op),zI ((gH x.op).2.2)]):=(AS.ae _ _ c9.symm).trans c2;have k3:(CL.take (j*6)++(zI x.op::zI 0::zI t.kind::zI t.index::zI t.bT:: .sc (.bool t.ref)::CL.drop (j*6+6)))[j*6+1]? =some (zI 0):=by rw[List.getElem?_append_right (by simp;omega)];simp[Nat.min_eq_left (show j*6≤CL.length by omega)]
      generalize kA:(CL.take (j*6)++(zI x.op::zI 0::zI t.kind::zI t.index::zI t.bT:: .sc (.bool t.ref)::CL.drop (j*6+6)))=CN at*;obtain⟨ib,ie⟩:=List.getElem?_eq_some_iff.1 k3;refine gO (S:= [10]) bk (j2 @c2 @ca) tI ?_
      (((with_reducible apply dX 10 lH);refine dY mixed ?_);simp-implicitDefEqProofs [d4,fd,fe,fa,fb])
      repeat' (first
       |(with_reducible apply j2)
       |(refine ag.ay hs ?_;try simp-implicitDefEqProofs [d4,fd,fe,kw,kA,b3]))
      any_goals exact b3
      all_goals
       generalize (τ4.set E (.cells 110 CN))=τ5 at*;refine gO bk (j6 @hA @i9 @ib @ie @ca @wj) @hm ?_;refine gB ((j+1,n++ [⟨x.op,0,t⟩],τ5)) gT ?_;try dsimp only
       exact⟨by omega,by simp[b4],g,by rw[d7,←hw];exact e5⟩
     ·have hs:=RL.bad b1 hN;rw[g]at hX;refine gO (S:= [10]) bk (j2 @c2 @ca) tI ?_
      (((with_reducible apply dX 10 lH);refine dY mixed ?_);simp-implicitDefEqProofs [d4,fd,fe,fa,fb])
      repeat' (first
       |(with_reducible apply j2)
       |(refine ag.DG hs ?_;intro τ5 h5;try simp-implicitDefEqProofs))
      all_goals first
       |exact b3
       |exact iC (by rw[←hX];rfl) (AS.le_trans g5 h5)
    ·have gI:uZ d.sp nm nf i x=bK (decide (oO x.op=2)||decide (x.arg<o9 nm nf x)) 5 2 i (.ok x):=by rw[uZ,if_neg ca]
     rw[gI]at g;simp only[fO,cL]at g;have hO:LI k e d (A.set E (.cells 110 (aB ((n++ [x]++l.drop (j+1)).map aJ++u)))) τ4:=by rw[hE,kI];exact bv
     have hk:(oO x.op=2∧True∧True∧o9 nm nf x=1099511627776)∨(oO x.op=6∧True∧True∧o9 nm nf x=nm)∨(oO x.op=7∧True∧True∧o9 nm nf x=nf)∨(¬oO x.op=2∧ ¬oO x.op=6∧ ¬oO x.op=7∧o9 nm nf x=1099511627776):=by
      unfold o9;by_cases o2:oO x.op=2
      ·exact .inl ⟨o2,trivial,trivial,by simp[o2]⟩
      ·by_cases o6:oO x.op=6
       ·exact .inr (.inl ⟨o6,trivial,trivial,by simp[o6]⟩)
       ·by_cases o7:oO x.op=7
        ·exact .inr (.inr (.inl ⟨o7,trivial,trivial,by simp[o7]⟩))
        ·exact .inr (.inr (.inr ⟨o2,o6,o7,by simp[o6,o7]⟩))
     have ii:=fun σ=>bad 5 σ;rcases hk with⟨o1,o2,o3,b2⟩|hk
     ·have kq:lO d.sp nm nf i (n++ [x]) (l.drop (j+1))=Y:=by
       rcases aw g with⟨_,g⟩|⟨q,_⟩
       ·exact g
       ·simp[o1]at q
      refine gO bk (j3 @c2 @o1 @wj) @hm ?_;refine gB ((j+1,n++ [x],τ4)) gT ?_;try dsimp only
      exact⟨by omega,by simp[b4],kq,by rw[d7];exact hO⟩
     ·have h7:¬oO x.op=2:=by rcases hk with⟨o1,_⟩|⟨o1,_⟩|⟨o1,_⟩<;>omega
      rcases aw g with⟨q,g⟩|⟨q,g⟩
      ·have q:x.arg<o9 nm nf x:=by simpa[h7]using q
       rcases hk with⟨o1,o2,o3,b2⟩|⟨o1,o2,o3,b2⟩|⟨o1,o2,o3,b2⟩;all_goals
        rw[b2]at q;refine gO bk (j2 (j7 @c2 @ca @o1 @o2 @o3 @d4 @fa) (j6 @fb @wj @cd @gc @ge @q)) @hm ?_;refine gB ((j+1,n++ [x],τ4)) gT ?_;try dsimp only
        exact⟨by omega,by simp[b4],g,by rw[d7];exact hO⟩
      ·have q:¬x.arg<o9 nm nf x:=by simpa[h7]using q
       rcases hk with⟨o1,o2,o3,b2⟩|⟨o1,o2,o3,b2⟩|⟨o1,o2,o3,b2⟩;all_goals
        rw[b2]at q;refine gO bk (j2 (j7 @c2 @ca @o1 @o2 @o3 @d4 @fa) (j5 @fb @cd @gc @ge @q)) @ii ?_;exact iC (by rw[←hX,g];rfl) g5
   ·have hJ:((j:Int)<l.length)=False:=by simp;omega
    have ch:l.drop j= []:=List.drop_eq_nil_iff.2 (by omega);rw[ch]at g hS;simp only[lO,List.append_nil]at g hS;rw[←g]at hX;simp only[cA]at hX;have f4:n≠ []:=by intro e0;rw[e0]at b4;simp at b4;exact d8 (List.length_eq_zero_iff.1 (by omega))
    refine gO (S:= [19]) bk @hJ tI ?_;obtain⟨S,hQ,rfl,e3⟩:=hS.erase (AS.ak _ _ _) (AS.aj (lR A) e9) e9;refine aq.sr 11 (e:=110) (es:=n.map aJ) (S:=S) (.inr ⟨E,cap,u,hQ,by simp[b4];omega,rfl,fun v hv=> ?_,by simp;omega⟩) ?_
    ·rcases List.mem_append.1 hv with hv|hv
     ·obtain⟨z,_,rfl⟩:=List.mem_map.1 hv;simp[aJ]
     ·exact eb v (by simp[hv])
    intro ho fz;obtain rfl:ho=false:=by
     cases ho with
     |false=>rfl
     |true=>have:=fz rfl;simp at this;exact absurd this f4
    clear fz hQ eb f5 b3 d8 o0 e9;have hp:=e3.le _ _ ft;have e6:=e3.wr (b:= .cells 53 [a0,a1,a2,a3,a4,a5,Q,O,M,L,.ao 110 (n.map aJ) .aI false,.ai]) ft;refine gO (S:= [20]) bk @hp tI ?_;have hu:=(AS.ae S (.cells 53 [a0,a1,a2,a3,a4,a5,Q,O,M,L,.ao 110 (n.map aJ) .aI false,.ai]) f7.symm).trans (e3.le _ _ k8);have f6:(A.set ba (.cells 53 [a0,a1,a2,a3,a4,a5,Q,O,M,L,.ao 110 (n.map aJ) .aI false,.ai])) ba=some (.cells 53 [a0,a1,a2,a3,a4,a5,Q,O,M,L,.ao 110 (n.map aJ) .aI false,.ai]):=AS.ak _ _ _;refine aq.r9 ba 11 158 [] true (ty:=53) (cs:= [a0,a1,a2,a3,a4,a5,Q,O,M,L,.ao 110 (n.map aJ) .aI false,.ai]) (AS.ak _ _ _) (by simp) (.inr ⟨by simp,rfl,rfl⟩) ?_;intro G b6;have F:ba≠G:=by rintro rfl;rw[AS.ak]at b6;cases b6
    have i4:H≠G:=nq hu b6;have kR:A G=none:=by
     cases hx:A G with
     |none=>rfl
     |some yy=>have:=e3.le _ _ hx;rw[AS.ae _ _ F.symm,this]at b6;cases b6
    have hZ:B G=none:=by
     cases hx:B G with
     |none=>rfl
     |some yy=>have:=ei _ _ hx;rw[kR]at this;cases this
    have bv:=(e6.wr (b:= .cells 53 [a0,a1,a2,a3,a4,a5,Q,O,M,L,.ao 110 (n.map aJ) .aI false,.ao 158 [] (.tok G) true]) f6).own (i:=G) (b:= .tok 0) (by rw[AS.ae _ _ F.symm];exact b6);simp only[AS.set_set]at bv;simp-implicitDefEqProofs only[AS.set_set,List.set_cons_succ,List.set_cons_zero,List.length_nil];have jR:=bv.le H _ (by rw[AS.ae _ _ i4,AS.ae _ _ f7.symm];exact k8);obtain⟨V,hV⟩:∃V,kU d.sp P i [] rs=V:=⟨_,rfl⟩;unfold vF at hX;rw[hV]at hX;clear g hY ch hJ hp e6 f6 b6 hu;generalize hT:((S.set ba (.cells 53 [a0,a1,a2,a3,a4,a5,Q,O,M,L,.ao 110 (n.map aJ) .aI false,.ao 158 [] (.tok G) true])).set G (.tok 0))=T at*;refine gO bk @jR tI ?_;refine aq.aQ (α:=(Nat)×(List Cl)×(AS)) ((0,[],T)) (fun⟨y,cs,τ5⟩=>rs.length-y) (fun⟨y,cs,τ5⟩=>y≤rs.length∧cs.length=y∧kU d.sp P i cs (rs.drop y)=V∧LI k e d ((A.set ba (.cells 53 [a0,a1,a2,a3,a4,a5,Q,O,M,L,.ao 110 (n.map aJ) .aI false,.ao 158 (cs.map fY) (.tok G) (decide (cs= []))])).set G (.tok cs.length)) τ5) [(0,?_),(1,?_),(3,?_),(10,?_),(11,?_),(12,?_),(127,?_),(128,?_)] (fun⟨y,cs,τ5⟩=> [(129,zI y)]) (fun⟨y,cs,τ5⟩=>τ5) ?_ ?_ ?_ ?_;rotate_left 8
    ·exact gF tI
    ·exact gT
    ·exact⟨by omega,rfl,hV,by simpa using bv⟩
    intro x_ d5;obtain⟨y,cs,τ5⟩:=x_;try dsimp only at d5⊢
    obtain⟨hy,kb,g,hS⟩:=d5;simp only[eZ];have hr:=hS.le ba _ (by rw[AS.ae _ _ F,AS.ak]);have i8:=hS.le G _ (AS.ak _ _ _);have h3:B0 G=none:=by
     cases hx:B0 G with
     |none=>rfl
     |some yy=>have:=g6 _ _ hx;rw[hZ]at this;cases this
    have ej:∀b x,AS.le B0 ((A.set ba b).set G x):=fun b x=>AS.aj (AS.aj (AS.le_trans g6 ei) h4) h3;by_cases b3:y<rs.length
    ·have hJ:((y:Int)<rs.length)=True:=by simp;omega
     have fw:rs[y]? =some rs[y]:=List.getElem?_eq_getElem b3;rw[List.drop_eq_getElem_cons b3]at g;generalize rs[y]=r at fw g;simp only[kU,CA]at g;have wy:zW ((y:Int)+1)=y+1:=az (by omega) (by omega);have c3:=fun σ=>D1 P .aI (decide (P= [])) r hP (by omega) σ;have hb:=fun σ=>bad 12 σ;have g5:=fun b x=>ej b x;generalize eQ P r=z at g c3;simp only[dj]at c3;refine gO (S:= [23]) bk (j3 @hJ @fw @dj.eq_1) tI ?_;intro I bf;have h6:=hS.own (b:= .cells 221 [zI r.kd,zI r.ta,zI r.tl,zI r.ha,zI r.hl,zI r.ex]) bf;have ew:(τ5.set I (.cells 221 [zI r.kd,zI r.ta,zI r.tl,zI r.ha,zI r.hl,zI r.ex])) I=some (.cells 221 [zI r.kd,zI r.ta,zI r.tl,zI r.ha,zI r.hl,zI r.ex]):=AS.ak _ _ _;have be:=hS.mD bf;have lf:ba≠I:=by rintro rfl;rw[AS.ae _ _ F,AS.ak]at be;cases be
     have lc:G≠I:=by rintro rfl;rw[AS.ak]at be;cases be
     have hM:=hS.own (b:= .cells 221 [zI r.kd,zI r.ta,zI r.tl,zI r.ha,zI r.hl,zI r.ex]) bf;have ec:=hM.drop (AS.aj (lR _) be);clear h6 hM bf be hr i8;generalize (τ5.set I (.cells 221 [zI r.kd,zI r.ta,zI r.tl,zI r.ha,zI r.hl,zI r.ex]))=τ6 at*;cases z with
     |none=>simp only at g;have km:V= .error (mF 12 2 i):=g.symm;simp only[rS,Gw,aL]at c3;refine gO bk @ew @c3 ?_;intro o K;refine gO bk tI @hb ?_;exact b0 (by rw[←hX,km];rfl) (AS.le_trans (AS.le_trans (ej _ _) ec.le) (an K (lR _)))
     |some c=>
      simp only at g;simp only[rS,aL]at c3;refine gO (S:= [24]) bk @ew @c3 ?_;intro o K;have bb:=ec.mD K;have dl:ba≠o:=by rintro rfl;rw[AS.ae _ _ F,AS.ak]at bb;cases bb
      have db:G≠o:=by rintro rfl;rw[AS.ak]at bb;cases bb
      have d3:I≠o:=nq ew K;have e8:=ec.own (b:= .cells 158 [zI c.k,zI c.tf,zI c.tt,zI c.hf,zI c.ht,zI c.fl,zI c.a,zI c.b,zI c.c,.sc (.bool c.r)]) K;have cl:(τ6.set o (.cells 158 [zI c.k,zI c.tf,zI c.tt,zI c.hf,zI c.ht,zI c.fl,zI c.a,zI c.b,zI c.c,.sc (.bool c.r)])) o=some (.cells 158 [zI c.k,zI c.tf,zI c.tt,zI c.hf,zI c.ht,zI c.fl,zI c.a,zI c.b,zI c.c,.sc (.bool c.r)]):=AS.ak _ _ _;have cc:(τ6.set o (.cells 158 [zI c.k,zI c.tf,zI c.tt,zI c.hf,zI c.ht,zI c.fl,zI c.a,zI c.b,zI c.c,.sc (.bool c.r)])) I=some (.cells 221 [zI r.kd,zI r.ta,zI r.tl,zI r.ha,zI r.hl,zI r.ex]):=(AS.ae _ _ d3).trans ew;generalize (τ6.set o (.cells 158 [zI c.k,zI c.tf,zI c.tt,zI c.hf,zI c.ht,zI c.fl,zI c.a,zI c.b,zI c.c,.sc (.bool c.r)]))=τ7 at*;have is:=d3.symm;refine gO (S:= [25]) bk tI @hm ?_
      (with_reducible apply aq.region);simp-implicitDefEqProofs [cl]
      repeat (with_reducible refine j2 (by first|omega|assumption|decide) ?_)
      try (with_reducible apply aq.seq)
      refine HV (α:=Cl×AS) (fun v=>LI k e d (((A.set ba (.cells 53 [a0,a1,a2,a3,a4,a5,Q,O,M,L,.ao 110 (n.map aJ) .aI false,.ao 158 (cs.map fY) (.tok G) (decide (cs= []))])).set G (.tok cs.length)).set o (.cells 158 (fY v.1).cells)) v.2∧kU d.sp P i (cs++ [v.1]) (rs.drop (y+1))=V) (fun _ => [(0,.ptr k.id 0),(1,.ptr ba 0),(3,zI i),(10,zI 0),(11,.ao 110 (n.map aJ) .aI false),(12,.ao 3 (P.map aS) .aI (decide (P= []))),(20,.ptr o 0),(127,.ao 221 (rs.map dj) .aI (decide (rs= []))),(128,zI rs.length),(129,zI y)]) (fun v=>v.2) (fun _ _ =>rfl) ?_ ?_
      ·have hL:B0 o=none:=by
        cases hx:B0 o with
        |none=>rfl
        |some yy=>have:=ej (.cells 53 [a0,a1,a2,a3,a4,a5,Q,O,M,L,.ao 110 (n.map aJ) .aI false,.ao 158 (cs.map fY) (.tok G) (decide (cs= []))]) (.tok cs.length) o _ hx;rw[bb]at this;cases this
       have f3:AS.le B0 τ7:=AS.le_trans (AS.aj (ej _ _) hL) e8.le;by_cases k1:c.k=1
       ·rw[if_pos k1]at g;simp only[iI,cL]at g;have b1:=e8.spec r.ex i (by omega) hB;rcases aG g with⟨t,hN,g⟩|⟨f,hN,g⟩
        ·have hs:=RL.ok b1 hN;simp only[Sg.aC]at hs;have eg:=e8.wr (b:= .cells 158 (fY { c with a:=t.kind,b:=t.index,c:=t.bT,r:=t.ref }).cells) (AS.ak _ _ _);rw[AS.set_set]at eg;refine gO bk (j3 @cc @cl @k1) @hs ?_;refine fK.mk (({ c with a:=t.kind,b:=t.index,c:=t.bT,r:=t.ref },τ7.set o (.cells 158 (fY { c with a:=t.kind,b:=t.index,c:=t.bT,r:=t.ref }).cells))) (gF tI) (by(try dsimp only);exact le_eq (by simp[aL,k1])) ?_;try dsimp only
         exact⟨eg,g⟩
        ·have hs:=RL.bad b1 hN;refine gO bk (j3 @cc @cl @k1) @hs ?_;refine ed ?_;intro τ9 h9;exact b0 (by rw[←hX,g];rfl) (AS.le_trans f3 h9)
       ·rw[if_neg k1]at g;have eg:LI k e d (((A.set ba (.cells 53 [a0,a1,a2,a3,a4,a5,Q,O,M,L,.ao 110 (n.map aJ) .aI false,.ao 158 (cs.map fY) (.tok G) (decide (cs= []))])).set G (.tok cs.length)).set o (.cells 158 (fY c).cells)) τ7:=e8;by_cases k2:c.k=2
        ·rw[if_neg (by simpa using k2)]at g;simp only[cL]at g;refine gO bk (j2 @cl @k2) tI ?_;refine fK.mk ((c,τ7)) (gF tI) gT ?_;try dsimp only
         exact⟨eg,g⟩
        ·rw[if_pos (by simpa using k2)]at g;simp only[fO,cL]at g;have ik:=fun σ=>bad 2 σ;rcases aw g with⟨q,g⟩|⟨q,g⟩
         ·have q:r.ex=0:=by simpa using q
          refine gO bk (j5 @cc @cl @k1 @k2 @q) @hm ?_;refine fK.mk ((c,τ7)) (gF tI) gT ?_;try dsimp only
          exact⟨eg,g⟩
         ·have q:¬r.ex=0:=by simpa using q
          refine gO bk (j5 @cc @cl @k1 @k2 @q) @ik ?_;exact b0 (by rw[←hX,g];rfl) f3
      ·rintro⟨c',τ8⟩ ⟨h8,hW⟩;simp only at h8 hW⊢;have jp:=h8.le ba _ (by rw[AS.ae _ _ dl,AS.ae _ _ F,AS.ak]);have i7:=h8.le G _ (by rw[AS.ae _ _ db,AS.ak]);have fv:=h8.le o _ (AS.ak _ _ _);have lb:=F.symm;have i6:=dl.symm;have i5:=db.symm;have ke:cs.length≤70000:=by omega
       have h9:=((h8.wr (i:=G) (b:= .tok (cs.length+1)) (by rw[AS.ae _ _ db,AS.ak])).wr (i:=ba) (b:= .cells 53 [a0,a1,a2,a3,a4,a5,Q,O,M,L,.ao 110 (n.map aJ) .aI false,.ao 158 ((cs++ [c']).map fY) (.tok G) (decide (cs++ [c']= []))]) (by rw[AS.ae _ _ F,AS.ae _ _ dl,AS.ae _ _ F,AS.ak])).drop (SU F bb);simp only[aL,aR]at fv;refine gO bk (j5 @jp @i7 @fv @F @wy) tI ?_;refine gB ((y+1,cs++ [c'],(τ8.set G (.tok (cs.length+1))).set ba (.cells 53 [a0,a1,a2,a3,a4,a5,Q,O,M,L,.ao 110 (n.map aJ) .aI false,.ao 158 ((cs++ [c']).map fY) (.tok G) (decide (cs++ [c']= []))]))) (by(try dsimp only);exact le_eq (by simp[aL])) ?_;try dsimp only
       exact⟨by omega,by simp[kb],hW,by simpa using h9⟩
    ·have hJ:((y:Int)<rs.length)=False:=by simp;omega
     have ch:rs.drop y= []:=List.drop_eq_nil_iff.2 (by omega);rw[ch]at g;simp only[kU]at g;rw[←g]at hX;simp only[cA]at hX;have gt:=fun σ=>Rg.xE n.length cs .aI (decide (cs= [])) (by omega) σ;have j0:∀kk,kk<([a0,a1,a2,a3,a4,a5,Q,O,M,L,.ao 110 (n.map aJ) .aI false,.ao 158 (cs.map fY) .aI (decide (cs= []))]:List AV).length→AV.Wk prog (([a0,a1,a2,a3,a4,a5,Q,O,M,L,.ao 110 (n.map aJ) .aI false,.ao 158 (cs.map fY) (.tok G) (decide (cs= []))]:List AV).getD kk .any) (([a0,a1,a2,a3,a4,a5,Q,O,M,L,.ao 110 (n.map aJ) .aI false,.ao 158 (cs.map fY) .aI (decide (cs= []))]:List AV).getD kk .any):=by
      intro kk _
      match kk with
      |0=>exact Wk.refl _
      |1=>exact Wk.refl _
      |2=>exact Wk.refl _
      |3=>exact Wk.refl _
      |4=>exact Wk.refl _
      |5=>exact Wk.refl _
      |6=>exact Wk.refl _
      |7=>exact Wk.refl _
      |8=>exact Wk.refl _
      |9=>exact Wk.refl _
      |10=>exact Wk.refl _
      |11=>simp
      |kk+12=>exact Wk.refl _
     refine aq.Om ba [a0,a1,a2,a3,a4,a5,Q,O,M,L,.ao 110 (n.map aJ) .aI false,.ao 158 (cs.map fY) .aI (decide (cs= []))] hr rfl j0 ?_;have e4:=hS.wr (i:=ba) (b:= .cells 53 [a0,a1,a2,a3,a4,a5,Q,O,M,L,.ao 110 (n.map aJ) .aI false,.ao 158 (cs.map fY) .aI (decide (cs= []))]) (by rw[AS.ae _ _ F,AS.ak]);rw[AS.set_comm F.symm,AS.set_set]at e4;have kn:=e4.drop (B':=B.set ba (.cells 53 [a0,a1,a2,a3,a4,a5,Q,O,M,L,.ao 110 (n.map aJ) .aI false,.ao 158 (cs.map fY) .aI (decide (cs= []))])) (AS.aj (kh ei) (by rw[AS.ae _ _ F.symm];exact hZ));have hq:=e4.le ba _ (by rw[AS.ae _ _ F,AS.ak]);generalize (τ5.set ba (.cells 53 [a0,a1,a2,a3,a4,a5,Q,O,M,L,.ao 110 (n.map aJ) .aI false,.ao 158 (cs.map fY) .aI (decide (cs= []))]))=τ6 at*;simp only[Rg.vb]at gt;rcases aw hX with⟨q,hX⟩|⟨q,hX⟩
     ·have q:(b7 (bz n.length) dA cs).2=0:=by simpa using q
      refine gO bk (j3 @hJ @hq @q) (j2 @gt @hm) ?_;exact⟨.bI [],τ6,Wk.refl _,lR _,(n,cs),hX.symm,rfl,by simpa[f4]using kn⟩
     ·have q:¬(b7 (bz n.length) dA cs).2=0:=by simpa using q
      refine gO bk (j3 @hJ @hq @q) (j2 @gt @bad) ?_;exact b0 hX (AS.le_trans (ej _ _) e4.le)
  ·have g0:¬de=0:=by simpa using g0
   refine gO bk @g0 @bad ?_;exact iC hX (AS.le_trans (AS.le_trans ei h8.le) hG.le)
 ·rw[if_pos ea]at ar;refine gO bk @e2 @c4 ?_;intro H ce;refine gO bk @ea @hf ?_;exact iC ar.symm (AS.le_trans h.le (an ce (lR _)))
open Rg (Cl fY aL b7 bz dA)
open Sg (iX b9 dy)
def kM (nt:Int) (i:Nat):List Ty→Except gD Unit
 |[]=> .ok ()
 |t::ts=>bK (eo t nt) 5 2 i (kM nt i ts)
def pO (C:zY) (sp:List Ty) (nm nf:Int) (a:Int) (i:Nat):Except gD (List cE×List Cl):=
 if 0<a then lQ C sp nm nf (a-1) i else .ok ([],[])
def wY (lo:List (List Ty)) (a:Int):List Ty:=if 0<a then lo.getD (a-1).toNat []else []
def wX (e:LE) (sp:List Ty) (lo:List (List Ty)) (h:List Int) (i:Nat) (r:List Int):Except gD Mt:=
 bK (decide (eW r 1≤31)&&decide (eW r 2≤12)) 3 2 i (cA (kO e.N (eW r 3)) fun nm=>cA (iF e.B (eW r 4)) fun b=>
  bK (decide (b9 (dy b)=0)) (b9 (dy b)) 2 i (bK ((iX (dy b)).this==decide (eW r 1%2=0)) 2 2 i
   (cA (kM e.t0.length i ((iX (dy b)).ps++ [(iX (dy b)).ret])) fun _ =>bK (decide (eW r 5≤lo.length)) 5 2 i
    (cA (pO e.C sp e.t2.length e.t1.length (eW r 0) i) fun g=>
     .ok ⟨nm,eW h i,eW r 1,(iX (dy b)).ps,decide ((iX (dy b)).ps= []),(iX (dy b)).ret,wY lo (eW r 5),decide (wY lo (eW r 5)= []),eW r 2,g.1,decide (g.1= []),g.2,decide (g.2= [])⟩))))
def kx (e:LE) (sp:List Ty) (lo:List (List Ty)) (g:List Int):List Mt→Nat→List (List Int)→Except gD (List Mt)
 |acc,_,[]=> .ok acc
 |acc,i,r::rs=>cA (wX e sp lo g i r) fun m=>kx e sp lo g (acc++ [m]) (i+1) rs
def iK (e:LE) (sp:List Ty) (lo:List (List Ty)):Except gD (List Mt):=
 bK (decide (e.t2= [])||decide (0<e.t0.length)) 5 2 0 (cA (eu 4 e.t2.length e.t0.length [] 1 0 e.t0) fun g=>kx e sp lo g [] 0 e.t2)
def pN (e:LE):Except gD bY:=
 cA (nK 0 (u0 e)) fun _ =>cA (oE e) fun s=>cA (ki e) fun ts=>cA (ky e) fun fs=>cA (iK e s.1 s.2) fun ms=>
  if (ms.length:Int)<e.en then .error (5,5,393216)else .ok ⟨ts,decide (ts= []),fs,decide (fs= []),ms,decide (ms= []),e.en-1⟩
def tb (T:List (List (List Int))) (k:Nat):List (List Int):=T.getD k []
def zT (o:St.qX) (k:Nat):zY×Bool:=o.getD k ([],true)
def M8 (o:St.qX) (en:Int) (T:List (List (List Int))):LE:=
 ⟨(zT o 0).1,(zT o 0).2,(zT o 1).1,(zT o 1).2,(zT o 2).1,(zT o 2).2,(zT o 3).1,(zT o 3).2,en,tb T 0,tb T 1,tb T 2,tb T 3,tb T 4,tb T 5⟩
def Kl (o:St.qX) (x:Option (Int×List (List (List Int)))×Int×Int):Except gD bY:=match x with
 |(none,a,e)=> .error (e,1,a)
 |(some v,_,_)=>pN (M8 o v.1 v.2)
def pa (b:zY):Except gD bY:=
 if (St.cZ b).2.2≠0 then .error ((St.cZ b).2.2,0,(St.cZ b).2.1)else Kl (St.cZ b).1 (Rw.my (zT (St.cZ b).1 0).1)
open Rg (Cl b7 bz dA fU)
open Cd (oO dz bZ aE cV eY dN)
open Bd (R6 cp cU eh Dx Hn qR iu)
def Ay {α:Type}[DecidableEq α] (l:List α) (t:α):l<+:nB l t:=by
 unfold nB;split
 ·exact prefix_rfl
 ·exact prefix_append _ _
def Ku {α:Type}[DecidableEq α] (l:List α) (t:α):(nB l t)[Az l t]? =some t:=by
 by_cases h:t∈l
 ·obtain⟨_,i,g⟩:=Kt h;rw[i,getElem?_eq_getElem g];have:=findIdx_getElem (p:=fun o=>decide (o=t)) (xs:=l) (w:=g);simp only[decide_eq_true_eq]at this;exact congrArg some this
 ·obtain⟨_,i,g⟩:=Ks h;rw[i,g];simp
theorem CD {α:Type}[DecidableEq α] {l S:List α}{t:α}(h:nB l t<+:S):S[Az l t]? =some t:=by obtain⟨r,rfl⟩:=h;have h1:=Ku l t;have hl:Az l t<(nB l t).length:=(List.getElem?_eq_some_iff.1 h1).1;rw[List.getElem?_append_left hl];exact h1
theorem OM {α:Type}[DecidableEq α] (l:List α) (t:α):Az l t<(nB l t).length:=(List.getElem?_eq_some_iff.1 (Ku l t)).1
theorem Kr {S l:List Ty}{t:Ty}(h:nB l t<+:S) (i:Int):jP S (rr l t) i= .ok t:=by have h1:=CD h;have hl:=(List.getElem?_eq_some_iff.1 h1).1;unfold jP bK rr;rw[if_pos (by simp;omega),show((Az l t:Int)+1-1).toNat=Az l t by omega,List.getD_eq_getElem?_getD,h1];rfl
def pF:∀(l:List cE) (sp:List Ty),sp<+:(cY sp l).1
 |[],sp=>prefix_rfl
 |x::r,sp=>by
  simp only[cY];split
  ·exact(Ay sp x.t).trans (pF r _)
  ·exact pF r sp
def lL (P:List Int):∀(l:List Cl) (sp:List Ty),sp<+:(iD P sp l).1
 |[],sp=>prefix_rfl
 |c::r,sp=>by
  simp only[iD];split
  ·exact(Ay sp _).trans (lL P r _)
  ·exact lL P r sp
def rT (P:List Int):∀(l:List Cl) (sp:List Ty),(iD P sp l).2.length=l.length∧(iD P sp l).1.length≤sp.length+l.length
 |[],sp=>⟨rfl,by simp[iD]⟩
 |c::r,sp=>by
  simp only[iD];have g:=sf sp (vJ c);split
  ·have:=rT P r (nB sp (vJ c));simp only[length_cons];omega
  ·have:=rT P r sp;simp only[length_cons];omega
def qC {x:cE}{nt nf nm n:Int}(h:cS x nt nf nm n=true):¬(x.op<1∨75<x.op)∧gP x (oO x.op)=true∧(oO x.op=5→x.arg<n)∧(oO x.op=6→x.arg<nm)∧(oO x.op=7→x.arg<nf)∧(oO x.op=8→eo x.t nt=true):=by
 unfold cS jF at h;rw[Bool.and_eq_true,decide_eq_true_eq]at h;obtain⟨h1,i⟩:=h;split at h1
 ·omega
 rename_i h0;split at h1
 ·rename_i g;refine⟨h0,g,?_,?_,?_,?_⟩<;>intro e<;>(change (gH x.op).2.1= _ at e)<;>simpa[e]using i
 ·omega
def Gf {x:cE}{nt nf nm n:Int}(h:cS x nt nf nm n=true) (g:¬oO x.op=8):dN x=true:=by obtain⟨h0,h1,_⟩:=qC h;unfold dN;rw[if_neg h0,if_neg g];exact h1
def Ge {x:cE}{nt nf nm n:Int}(h:cS x nt nf nm n=true) (g:oO x.op=8):x.arg=0∧bO x.t=true∧eo x.t nt=true:=by
 obtain⟨h0,h1,_,_,_,j⟩:=qC h;rw[g]at h1;have i:x.arg=0∧bO x.t=true:=by simpa[gP]using h1
 exact⟨i.1,i.2,j g⟩
def ME {op k:Int}(h0:¬(op<1∨75<op)) (g:oO op=8) (h1:0<k) (h:k<16384):dN ⟨op,k,dz⟩=true:=by unfold dN;rw[if_neg h0,if_pos g];simp[Cd.Eb,h1,h]
def wC {nt nf nm n:Int} :∀(l:List cE) (sp:List Ty),(∀x∈l,cS x nt nf nm n=true∧Cd.dr x)→(cY sp l).1.length<16384→
 ∀y∈(cY sp l).2,dN y=true∧(oO y.op=5→y.arg<n)∧Cd.dr y
 |[],sp,_,_ =>by simp[cY]
 |x::r,sp,h,hl=>by
  have j:=h x (mem_cons_self ..);have o:∀y∈r,cS y nt nf nm n=true∧Cd.dr y:=fun y g=>h y (mem_cons_of_mem _ g);have f0:=qC j.1;by_cases i:oO x.op=8
  ·simp only[cY,if_pos i]at hl⊢;have q:=(pF r (nB sp x.t)).length_le;have u:=OM sp x.t;intro y g;rcases mem_cons.1 g with rfl|g
   ·refine⟨ME f0.1 i (by unfold rr;omega) (by unfold rr;omega),fun e=> ?_,?_⟩
    ·simp only at e;omega
    ·unfold Cd.dr rr;simp only;omega
   ·exact wC r _ o hl y g
  ·simp only[cY,if_neg i]at hl⊢;intro y g;rcases mem_cons.1 g with rfl|g
   ·exact⟨Gf j.1 i,f0.2.2.1,j.2⟩
   ·exact wC r _ o hl y g
def EC {x:cE}{nt nf nm n:Int}(h:cS x nt nf nm n=true) (w:¬oO x.op=2) (l:¬oO x.op=8):x.arg<1099511627776:=by
 have j:=Cd.kg (Gf h l);have v:=Cd.ja x.op;obtain⟨_,_,_,u,q,i,o,g,_⟩:=j;have:oO x.op=0∨oO x.op=1∨oO x.op=3∨oO x.op=4∨oO x.op=5∨oO x.op=6∨oO x.op=7:=by omega
 rcases this with e|e|e|e|e|e|e
 ·have:=u e;omega
 ·have:=q e;omega
 ·have:=i (.inl e);omega
 ·have:=i (.inr e);omega
 ·have:=o e;omega
 ·have:=g (.inl e);omega
 ·have:=g (.inr e);omega
def tJ {S:List Ty}{nt nf nm n:Int}{i:Nat} :∀(l:List cE) (sp:List Ty) (acc:List cE),(cY sp l).1<+:S→(∀x∈l,cS x nt nf nm n=true)→
 lO S nm nf i acc (cY sp l).2= .ok (acc++l)
 |[],sp,acc,_,_ =>by simp[cY,lO]
 |x::r,sp,acc,j,h=>by
  have q:=h x (mem_cons_self ..);have v:∀y∈r,cS y nt nf nm n=true:=fun y w=>h y (mem_cons_of_mem _ w);by_cases g:oO x.op=8
  ·simp only[cY,if_pos g]at j⊢;have h1:=Kr (t:=x.t) ((pF r (nB sp x.t)).trans j) i;have o:=(Ge q g).1;have u:uZ S nm nf i ⟨x.op,rr sp x.t,dz⟩= .ok x:=by unfold uZ;rw[if_pos g];simp only[h1,cA];rw[←o]
   simp only[lO,u,cA];rw[tJ r _ _ j v];simp
  ·simp only[cY,if_neg g]at j⊢;obtain⟨_,_,_,F,E,_⟩:=qC q;have u:uZ S nm nf i x= .ok x:=by
    unfold uZ o9;rw[if_neg g];have:(decide (oO x.op=2)||decide (x.arg<if oO x.op=6 then nm else if oO x.op=7 then nf else 1099511627776))=true:=by
     rw[Bool.or_eq_true,decide_eq_true_eq,decide_eq_true_eq];by_cases o:oO x.op=2
     ·exact .inl o
     ·right;split
      ·exact F (by assumption)
      ·split
       ·exact E (by assumption)
       ·exact EC q o g
    rw[this];rfl
   simp only[lO,u,cA];rw[tJ r _ _ j v];simp
def KS {l:List cE}(h1:l.length≤160) (j:∀y∈l,dN y=true) (i:∀y∈l,oO y.op=5→y.arg<l.length):(cV l).2=0:=by
 have ha:l.all dN=true:=by simpa using j
 have h:(bZ l).2=0:=by unfold bZ;rw[if_neg (by omega),if_pos ha]
 have hf:l.any (Cd.kB l.length)=false:=by
  rw[any_eq_false];intro y g;by_cases e:oO y.op=5
  ·have:=i y g e;simp[Cd.kB];intro _;omega
  ·simp[Cd.kB,e]
 unfold cV;rw[if_pos h,hf];rfl
def qK {n:Int}{c:Cl}(h:bz n c=0):(1≤c.k∧c.k≤4)∧(0≤c.tf∧c.tf<c.tt∧c.tt≤n)∧(0≤c.hf∧c.hf<c.ht∧c.ht≤n)∧(c.k=2→0≤c.fl∧c.fl<c.hf)∧(¬c.k=2→c.fl= -1):=by
 unfold bz at h;split at h
 ·omega
 rename_i h1;split at h
 ·omega
 rename_i g;simp only[fU,Bool.or_eq_true,decide_eq_true_eq,Bool.not_eq_true',not_or,Bool.and_eq_true,Bool.and_eq_false_iff,decide_eq_false_iff_not,Decidable.not_not]at h1 g;refine⟨by omega,by omega,by omega,fun e=>by omega,fun e=>by omega⟩
def rV {P:List Int}(h:P.Pairwise (· < ·)) {x:Int}(h0:0≤x) (h1:x<P.length):k9 P (P.getD x.toNat 0)=some x:=by
 have g:x.toNat<P.length:=by omega
 rw[getD_eq_getElem?_getD,getElem?_eq_getElem g];unfold k9;simp only[Option.getD_some];rw[Cd.xm h g];simp;omega
def yW {P:List Int}(h:P.Pairwise (· < ·)) {a b:Int}(h0:0≤a) (h1:a<b) (i:b<P.length):P.getD a.toNat 0<P.getD b.toNat 0:=by
 have ha:a.toNat<P.length:=by omega
 have g:b.toNat<P.length:=by omega
 rw[getD_eq_getElem?_getD,getD_eq_getElem?_getD,getElem?_eq_getElem ha,getElem?_eq_getElem g];exact pairwise_iff_getElem.1 h _ _ ha g (by omega)
structure LF (P:List Int) (n:Nat):Prop where
 up:P.Pairwise (· < ·)
 len:P.length=n+1
 bd:∀y∈P,0≤y∧y≤1440
def LF.get {P:List Int}{n:Nat}(h:LF P n) (i:Nat):0≤P.getD i 0∧P.getD i 0≤1440:=by
 rw[getD_eq_getElem?_getD];by_cases g:i<P.length
 ·rw[getElem?_eq_getElem g];exact h.bd _ (getElem_mem g)
 ·rw[getElem?_eq_none (by omega)];simp
def PJ {l:List cE}(h:l.length≤160):LF (aE l 0) l.length:=
 ⟨Cd.yV l 0,Cd.oz l 0,fun y g=>⟨Cd.qw l 0 y g,by have:=Cd.qv l 0 y g;omega⟩⟩
def NQ {P:List Int}{n:Nat}(h:LF P n) {c:Cl}(l:bz n c=0):Ol P c:=by
 obtain⟨h1,j,g,o,q⟩:=qK l;have hl:=h.len;refine⟨h1,by omega,by omega,by omega,by omega,fun e=>by have:=o e;omega,?_,?_,fun i=>by have:=h.get i;omega⟩
 ·have:=yW h.up j.1 j.2.1 (by omega);omega
 ·have:=yW h.up g.1 g.2.1 (by omega);omega
def BT {P:List Int}{n:Nat}(h:LF P n) {c:Cl}(l:bz n c=0) (ex:Int) (hex:c.k=2→ex=P.getD c.fl.toNat 0):
 eQ P { dS P c with ex:=ex } =some ⟨c.k,c.tf,c.tt,c.hf,c.ht,c.fl,0,0,0,false⟩:=by
 obtain⟨h1,j,i,q,o⟩:=qK l;have hl:=h.len;have G:=yW h.up j.1 j.2.1 (by omega);have F:=yW h.up i.1 i.2.1 (by omega);have K:=h.get c.tf.toNat;have J:=h.get c.tt.toNat;have I:=h.get c.hf.toNat;have H:=h.get c.ht.toNat;have E:=rV h.up j.1 (by omega);have y:=rV h.up (x:=c.tt) (by omega) (by omega);have w:=rV h.up i.1 (by omega);have v:=rV h.up (x:=c.ht) (by omega) (by omega);unfold eQ dS;simp only;rw[if_neg (by simp only[wo,Decidable.not_not];omega),if_neg (by simp only[z9,Decidable.not_not];omega),E,
  show P.getD c.tf.toNat 0+(P.getD c.tt.toNat 0-P.getD c.tf.toNat 0)=P.getD c.tt.toNat 0 by omega,y,w,
  show P.getD c.hf.toNat 0+(P.getD c.ht.toNat 0-P.getD c.hf.toNat 0)=P.getD c.ht.toNat 0 by omega,v]
 simp only[rv];by_cases g:c.k=2
 ·obtain⟨f1,f2⟩:=q g;have u:=rV h.up f1 (by omega);rw[if_pos g,hex g,u];simp only;rw[if_pos (by omega)]
 ·rw[if_neg g,o g]
def Cz {S:List Ty}{P:List Int}{n:Nat}(h:LF P n) {c:Cl}{nt:Int}(F:bz n c=0) (ht:uh c nt=true) (i:Nat) (ex:Int)
 (hex:ex=if c.k=1 then ex else(dS P c).ex) (w:c.k=1→jP S ex i= .ok (vJ c)):CA S P i { dS P c with ex:=ex } = .ok c:=by
 have y:=BT h F ex (fun e=>by rw[hex,if_neg (by omega)];simp[dS,e]);unfold CA;rw[y];simp only;by_cases k1:c.k=1
 ·rw[if_pos k1,w k1];simp only[cA,vJ]
 ·rw[if_neg k1];have E:qS ⟨c.a,c.b,c.c,c.r⟩=true:=by unfold uh at ht;rw[if_neg k1]at ht;exact ht
  have u:(⟨c.a,c.b,c.c,c.r⟩:Ty)=dz:=Cd.Ao E;have g:c.a=0∧c.b=0∧c.c=0∧c.r=false:=by unfold dz at u;simpa using u
  obtain⟨g,q,o,l⟩:=g;obtain⟨k,tf,tt,hf,v,fl,a,b,G,r⟩:=c;simp only at g q o l k1 hex⊢;subst g q o l;by_cases j:k=2
  ·rw[if_neg (by simp[j])]
  ·rw[if_pos j];rw[if_neg k1]at hex;simp only[dS,if_neg j]at hex;rw[hex];rfl
def tK {S:List Ty}{P:List Int}{n:Nat}(h:LF P n) {nt:Int}(i:Nat):∀(l:List Cl) (sp:List Ty) (acc:List Cl),(iD P sp l).1<+:S→(∀c∈l,bz n c=0∧uh c nt=true)→
 kU S P i acc (iD P sp l).2= .ok (acc++l)
 |[],sp,acc,_,_ =>by simp[iD,kU]
 |c::r,sp,acc,g,q=>by
  have h1:=q c (mem_cons_self ..);have o:∀y∈r,bz n y=0∧uh y nt=true:=fun y u=>q y (mem_cons_of_mem _ u);by_cases k1:c.k=1
  ·simp only[iD,if_pos k1]at g⊢;have w:=Kr (t:=vJ c) ((lL P r (nB sp (vJ c))).trans g) i;have j:=Cz (S:=S) h h1.1 h1.2 i (rr sp (vJ c)) (by rw[if_pos k1]) (fun _ =>w);simp only[kU,j,cA];rw[tK h i r _ _ g o];simp
  ·simp only[iD,if_neg k1]at g⊢;have j:=Cz (S:=S) h h1.1 h1.2 i (dS P c).ex (by rw[if_neg k1]) (fun e=>absurd e k1);have v:CA S P i (dS P c)= .ok c:=j;simp only[kU,v,cA];rw[tK h i r _ _ g o];simp
def FV {P:List Int}{n:Nat}(h:LF P n) {c:Cl}(j:bz n c=0) {ex:Int}(h0:0≤ex) (h1:ex≤65535):Dx { dS P c with ex:=ex } =true:=by obtain⟨F,i,g,E,y⟩:=qK j;have hl:=h.len;have o:=yW h.up i.1 i.2.1 (by omega);have l:=yW h.up g.1 g.2.1 (by omega);have w:=h.get c.tf.toNat;have v:=h.get c.tt.toNat;have u:=h.get c.hf.toNat;have q:=h.get c.ht.toNat;simp only[Dx,qR,dS,all_cons,all_nil,Hn,Bool.and_eq_true,decide_eq_true_eq];refine⟨?_,?_,?_,?_,?_,?_,trivial⟩<;>omega
def Ad {P:List Int}{n:Nat}(h:LF P n):∀(l:List Cl) (sp:List Ty),(∀c∈l,bz n c=0)→(iD P sp l).1.length≤65535→(iD P sp l).2.all Dx=true
 |[],sp,_,_ =>by simp[iD]
 |c::r,sp,i,hl=>by
  have h1:=i c (mem_cons_self ..);have g:∀y∈r,bz n y=0:=fun y j=>i y (mem_cons_of_mem _ j);by_cases k1:c.k=1
  ·simp only[iD,if_pos k1]at hl⊢;have o:=(lL P r (nB sp (vJ c))).length_le;have q:=OM sp (vJ c);rw[all_cons,FV h h1 (by unfold rr;omega) (by unfold rr;omega),Ad h r _ g hl];rfl
  ·simp only[iD,if_neg k1]at hl⊢;have:Dx (dS P c)=true:=FV h h1 (ex:=(dS P c).ex) (by unfold dS;simp only;have:=h.get c.fl.toNat;split<;>omega) (by unfold dS;simp only;have:=h.get c.fl.toNat;split<;>omega);rw[all_cons,this,Ad h r _ g hl];rfl
def jV {i:Cl→Int}{j:Cl→Cl→Bool}{l:List Cl}(h:(b7 i j l).2=0):l.length≤6∧ ∀c∈l,i c=0:=by
 have o:∀(l pre:List Cl),(Rg.rJ i j pre l).2=0→ ∀c∈l,i c=0:=by
  intro l;induction l with
  |nil=>intro pre _ c g;cases g
  |cons d r n=>
   intro pre h c g;unfold Rg.rJ at h;split at h
   ·rename_i h0;split at h
    ·rcases mem_cons.1 g with rfl|g
     ·exact h0
     ·exact n _ h c g
    ·simp at h
   ·rename_i h0;exact absurd h h0
 unfold b7 at h;split at h
 ·simp at h
 ·exact⟨by omega,o _ _ h⟩
def Jq {C W:zY}{g:Nat}{code:zY}{cls:List R6}(v:W=cp code cls) (h:At C g W) (q:(W.headD 0).toNat%4=3→g%4=0) (n:cU code cls=true):
 (eh C g).1=(code,cls)∧(eh C g).2.2=0:=by
 subst v;have u:iu C g= .ok ((code,cls),g+(cp code cls).length):=by
  by_cases e:g%4=0
  ·exact Bd.K1 h e n
  ·have l:1≤code.length∧code.length≤65535∧cls.length≤6∧cls.all Dx=true:=by simpa[cU]using n
   obtain⟨y,w,F,E⟩:=l;have j:cls= []:=by
    by_cases j:cls= []
    ·exact j
    ·exfalso;apply e;apply q;rw[Bd.vM j];simp[Bd.mC]
   subst j;have i:code.length<64:=by
    by_cases i:code.length<64
    ·exact i
    ·exfalso;apply e;apply q;simp[cp,i,Bd.mC]
   unfold iu;have hw:cp code []=UInt8.ofNat (4*code.length+2)::code:=by simp[cp,i]
   rw[hw]at h⊢;rw[At.cons]at h;have o:=Bd.jN (4*code.length+2);rw[Nat.mod_eq_of_lt (by omega)]at o;rw[←o]at h;rw[Bd.lq h.1 (by omega) (by omega)];simp only;rw[if_pos (by omega),show((4*code.length+2:Nat):Int)/4=code.length by omega,Bd.sB h.2 y w];simp;omega
 unfold eh;have hl:=h.len;rw[if_neg (by omega),Int.toNat_natCast,u];exact⟨rfl,rfl⟩
structure T3 (sp:List Ty) (m:Mt):Prop where
 Xj:LF (Bq sp m) m.code.length
 dec:eY (Fs sp m)=(((cY sp m.code).2,Bq sp m),0,0)
 right:cU (Fs sp m) (Pf sp m)=true
def Gy {sp:List Ty}{m:Mt}{nt nf nm:Int}(hl:(zQ sp m).length<16384) (u:m.code≠ []) (E:m.code.length≤160)
 (M:∀x∈m.code,cS x nt nf nm m.code.length=true∧Cd.dr x) (J:(b7 (bz m.code.length) dA m.cls).2=0):T3 sp m:=by
 have g:=pG m.code sp;have i:(cY sp m.code).1<+:zQ sp m:=lL _ m.cls _;have G:=i.length_le;have q:=wC m.code sp M (by omega);have he:(cV (cY sp m.code).2).2=0:=KS (by omega) (fun y h=>(q y h).1) (fun y h e=>by rw[g.1];exact(q y h).2.1 e);obtain⟨hd,n,l⟩:=Cd.NN he (fun y h=>(q y h).2.2);obtain⟨I,o⟩:=jV J;have v:Bq sp m=aE (cY sp m.code).2 0:=by unfold Bq;rw[l]
 have j:LF (Bq sp m) m.code.length:=by rw[v,←g.1];exact PJ (by omega)
 have L:=Ad j m.cls (cY sp m.code).1 o (by unfold zQ at hl;omega);have K:=rT (Bq sp m) m.cls (cY sp m.code).1;have w:1≤(Fs sp m).length∧(Fs sp m).length≤65535:=by
  have F:Fs sp m=Cd.fV (aE (cY sp m.code).2 0) (cY sp m.code).2 0:=by
   unfold Fs cV at*;rw[if_pos n]at he⊢;split at he
   ·simp at he
   ·rename_i hf;rw[if_neg hf]
  rw[F];have h1:=Cd.C7 (aE (cY sp m.code).2 0) (cY sp m.code).2 0 0;have O:=mem_of_getLast? h1;have P:=Cd.qv _ _ _ O;refine⟨?_,by omega⟩;cases H:(cY sp m.code).2 with
  |nil=>rw[H]at g;simp at g;exact absurd (length_eq_zero_iff.1 g.1.symm) u
  |cons y r=>simp[Cd.fV,Cd.cS]
 refine⟨j,by rw[v];exact hd,?_⟩;simp only[cU,Bool.and_eq_true,decide_eq_true_eq];exact⟨w.1,w.2,by unfold Pf;omega,L⟩
def HA {S:List Ty}{C:zY}{sp:List Ty}{m:Mt}{nt nf nm:Int}{g i:Nat}(u:zQ sp m<+:S) (hl:S.length<16384) (o:m.code≠ []) (j:m.code.length≤160)
 (w:∀x∈m.code,cS x nt nf nm m.code.length=true∧Cd.dr x) (G:∀c∈m.cls,uh c nt=true) (l:(b7 (bz m.code.length) dA m.cls).2=0)
 (H:At C g (yg sp m)) (I:((yg sp m).headD 0).toNat%4=3→g%4=0):
 lQ C S nm nf g i= .ok (m.code,m.cls):=by
 have q:=Gy (sp:=sp) (by have:=u.length_le;omega) o j w l;have n:=tK (S:=S) q.Xj (nt:=nt) i m.cls (cY sp m.code).1 [] u (fun c v=>⟨(jV l).2 c v,G c v⟩);obtain⟨E,y⟩:=Jq (W:=yg sp m) rfl H I q.right;unfold lQ;rw[E,y,if_neg (by simp)];simp only[q.dec];rw[tJ m.code sp [] ((lL _ m.cls _).trans u) (fun x F=>(w x F).1)];simp only[nil_append,cA,vF];have h:kU S (Bq sp m) i [] (Pf sp m)= .ok m.cls:=n;rw[h];simp only[l];rfl
open Rg (Cl b7 bz dA fU)
open Cd (oO dz)
open Bd (cU)
structure TY (m:Mt) (nt nf nm:Int):Prop where
 name:bD m.name=true
 fl:0≤m.flags∧m.flags≤31
 mx:0≤m.max∧m.max≤12
 ps:m.ps.length≤6
 ls:m.ls.length≤12
 code:m.code.length≤160
 ret:xQ m.ret nt=true
 pA:∀t∈m.ps,iQ t nt=true
 lA:∀t∈m.ls,iQ t nt=true
 ins:∀x∈m.code,cS x nt nf nm m.code.length=true
 cls:∀c∈m.cls,uh c nt=true
 QH:(b7 (bz m.code.length) dA m.cls).2=0
def F6 {m:Mt}{nt nf nm:Int} :Iv m nt nf nm=true↔TY m nt nf nm:=by
 unfold Iv;simp only[Bool.and_eq_true,decide_eq_true_eq,all_eq_true];constructor
 ·rintro⟨h1,⟨E,y,w,v,u,q,o⟩,n,l,j,i,h,g⟩;exact⟨h1,⟨E,y⟩,⟨w,v⟩,u,q,o,n,l,j,i,h,g⟩
 ·rintro⟨h1,⟨E,y⟩,⟨w,v⟩,u,q,o,n,l,j,i,h,g⟩;exact⟨h1,⟨E,y,w,v,u,q,o⟩,n,l,j,i,h,g⟩
def F5 {nt nf nm:Int} :∀ {l:List Mt}{last:Int},pI nt nf nm last l=true↔(∀m∈l,last≤m.owner∧m.owner<nt∧TY m nt nf nm)∧(l.map (·.owner)).Pairwise (· ≤ ·)
 |[],last=>by simp[pI]
 |m::r,last=>by
  have j:=F5 (nt:=nt) (nf:=nf) (nm:=nm) (l:=r) (last:=m.owner);simp only[pI];constructor
  ·intro h;split at h
   ·rename_i h0;obtain⟨h1,i⟩:=j.1 h;refine⟨fun x g=> ?_,?_⟩
    ·rcases mem_cons.1 g with rfl|g
     ·exact⟨h0.1,h0.2.1,F6.1 h0.2.2⟩
     ·have:=h1 x g;exact⟨by omega,this.2⟩
    ·rw[map_cons,pairwise_cons];refine⟨fun y n=> ?_,i⟩;obtain⟨x,g,rfl⟩:=mem_map.1 n;exact(h1 x g).1
   ·cases h
  ·rintro⟨h1,i⟩;rw[map_cons,pairwise_cons]at i;have h0:=h1 m (mem_cons_self ..);rw[if_pos ⟨h0.1,h0.2.1,F6.2 h0.2.2⟩];exact j.2 ⟨fun x g=>⟨i.1 _ (mem_map.2 ⟨x,g,rfl⟩),(h1 x (mem_cons_of_mem _ g)).2⟩,i.2⟩
def Gm {nt:Int} :∀ {l:List Fd}{last:Int},ni nt last l=true↔(∀m∈l,last≤m.owner∧m.owner<nt∧bD m.name=true∧iR m.ty nt=true)∧(l.map (·.owner)).Pairwise (· ≤ ·)
 |[],last=>by simp[ni]
 |m::r,last=>by
  have j:=Gm (nt:=nt) (l:=r) (last:=m.owner);simp only[ni];constructor
  ·intro h;split at h
   ·rename_i h0;obtain⟨h1,i⟩:=j.1 h;refine⟨fun x g=> ?_,?_⟩
    ·rcases mem_cons.1 g with rfl|g
     ·exact⟨h0.2.1,h0.2.2.1,h0.1,h0.2.2.2⟩
     ·have:=h1 x g;exact⟨by omega,this.2⟩
    ·rw[map_cons,pairwise_cons];refine⟨fun y n=> ?_,i⟩;obtain⟨x,g,rfl⟩:=mem_map.1 n;exact(h1 x g).1
   ·cases h
  ·rintro⟨h1,i⟩;rw[map_cons,pairwise_cons]at i;have h0:=h1 m (mem_cons_self ..);rw[if_pos ⟨h0.2.2.1,h0.1,h0.2.1,h0.2.2.2⟩];exact j.2 ⟨fun x g=>⟨i.1 _ (mem_map.2 ⟨x,g,rfl⟩),(h1 x (mem_cons_of_mem _ g)).2⟩,i.2⟩
structure QV (t:TD) (n:Int):Prop where
 name:bD t.name=true
 fl:0≤t.flags∧t.flags≤31
 ext: -1≤t.ext∧t.ext<n
 UL:t.bg.length≤4
 fc:∀x∈t.bg,0≤x∧x<n
def L8 {t:TD}{n:Int} :Iq t n=true↔QV t n:=by
 unfold Iq;simp only[Bool.and_eq_true,decide_eq_true_eq,Bool.not_eq_true',any_eq_false,mE];constructor
 ·rintro⟨h1,⟨o,l,j,i,q⟩,h⟩;exact⟨h1,⟨o,l⟩,⟨j,i⟩,by omega,fun x g=>by have:=h x g;omega⟩
 ·rintro⟨h1,⟨o,l⟩,⟨j,i⟩,q,h⟩;exact⟨h1,⟨o,l,j,i,by omega⟩,fun x g=>by have:=h x g;omega⟩
structure zD (g:bY):Prop where
 ts:g.ts.length≤32
 fs:g.fs.length≤64
 ms:g.ms.length≤64
 t:∀t∈g.ts,QV t g.ts.length
 f:∀f∈g.fs,0≤f.owner∧f.owner<g.ts.length∧bD f.name=true∧iR f.ty g.ts.length=true
 fo:(g.fs.map (·.owner)).Pairwise (· ≤ ·)
 m:∀m∈g.ms,0≤m.owner∧m.owner<g.ts.length∧TY m g.ts.length g.fs.length g.ms.length
 mo:(g.ms.map (·.owner)).Pairwise (· ≤ ·)
 en: -1≤g.entry∧g.entry<g.ms.length
def qD {g:bY} :Gi g=true↔zD g:=by
 unfold Gi GQ;simp only[Bool.and_eq_true,decide_eq_true_eq,all_eq_true,Gm,F5,L8];constructor
 ·rintro⟨⟨h1,o⟩,⟨⟨n,l⟩,u⟩,⟨⟨j,i⟩,q⟩,h⟩;exact⟨by omega,by omega,by omega,o,n,l,j,i,h⟩
 ·rintro⟨h1,u,q,o,n,l,j,i,h⟩;exact⟨⟨by omega,o⟩,⟨⟨n,l⟩,by omega⟩,⟨⟨j,i⟩,by omega⟩,h⟩
structure ve (a b:Sv):Prop where
 sp:a.sp<+:b.sp
 lo:a.lo<+:b.lo
 co:a.co<+:b.co
def ve.refl (a:Sv):ve a a:=⟨prefix_rfl,prefix_rfl,prefix_rfl⟩
def ve.trans {a b c:Sv}(h1:ve a b) (g:ve b c):ve a c:=⟨h1.sp.trans g.sp,h1.lo.trans g.lo,h1.co.trans g.co⟩
def JL (co w:zY):co<+:qQ co w:=by
 unfold qQ;split
 ·exact prefix_append _ _
 ·exact prefix_rfl
def IV (sp:List Ty) (m:Mt):sp<+:zQ sp m:=(pF m.code sp).trans (lL _ m.cls _)
def Pg (s:Sv) (m:Mt):ve s (qs s m).1:=by
 unfold qs;refine⟨?_,?_,?_⟩
 ·simp only[vZ];split
  ·exact prefix_rfl
  ·exact IV _ _
 ·simp only[Du];split
  ·exact prefix_rfl
  ·exact Ay _ _
 ·simp only[vZ];split
  ·exact prefix_rfl
  ·exact(JL _ _).trans (prefix_append _ _)
def Fp:∀(l:List Mt) (s:Sv),ve s (dC s l).1
 |[],s=>ve.refl _
 |m::r,s=>(Pg s m).trans (Fp r _)
def sY (g:bY) (i:Nat):Sv:=(dC nZ (g.ms.take i)).1
def Md {g:bY}{i:Nat}(h:i<g.ms.length):(dC nZ g.ms).2[i]? =some (qs (sY g i) g.ms[i]).2∧ve (qs (sY g i) g.ms[i]).1 (dx g):=by
 have e:g.ms=g.ms.take i++g.ms[i]::g.ms.drop (i+1):=by
  conv=>lhs;rw[←take_append_drop i g.ms,drop_eq_getElem_cons h]
 have ha:=rO (g.ms.take i) (g.ms[i]::g.ms.drop (i+1)) nZ;have hl:=dK (g.ms.take i) nZ;rw[length_take,Nat.min_eq_left (by omega)]at hl;unfold dx;generalize hm:g.ms[i]=m at*;rw[show dC nZ g.ms=dC nZ (g.ms.take i++m::g.ms.drop (i+1)) by rw[←e],ha];simp only[dC];refine⟨?_,Fp _ _⟩;rw[getElem?_append_right (by omega),hl];simp[sY]
def wD {p:Ty→Prop} :∀(l:List cE) (sp:List Ty),(∀t∈sp,p t)→(∀x∈l,oO x.op=8→p x.t)→ ∀t∈(cY sp l).1,p t
 |[],sp,h,_ =>h
 |x::r,sp,h,g=>by
  have i:∀y∈r,oO y.op=8→p y.t:=fun y j=>g y (mem_cons_of_mem _ j);simp only[cY];split
  ·rename_i n;refine wD r _ (fun t ht=> ?_) i;unfold nB at ht;split at ht
   ·exact h t ht
   ·rcases mem_append.1 ht with ht|ht
    ·exact h t ht
    ·rw[mem_singleton.1 ht];exact g x (mem_cons_self ..) n
  ·exact wD r sp h i
def wE {p:Ty→Prop}(P:List Int):∀(l:List Cl) (sp:List Ty),(∀t∈sp,p t)→(∀c∈l,c.k=1→p (vJ c))→ ∀t∈(iD P sp l).1,p t
 |[],sp,h,_ =>h
 |x::r,sp,h,g=>by
  have i:∀y∈r,y.k=1→p (vJ y):=fun y j=>g y (mem_cons_of_mem _ j);simp only[iD];split
  ·rename_i n;refine wE P r _ (fun t ht=> ?_) i;unfold nB at ht;split at ht
   ·exact h t ht
   ·rcases mem_append.1 ht with ht|ht
    ·exact h t ht
    ·rw[mem_singleton.1 ht];exact g x (mem_cons_self ..) n
  ·exact wE P r sp h i
def BG {p:Ty→Prop}{q:List Ty→Prop} :∀(l:List Mt) (s:Sv),(∀t∈s.sp,p t)→(∀t∈s.lo,q t)→(∀m∈l,(∀x∈m.code,oO x.op=8→p x.t)∧(∀c∈m.cls,c.k=1→p (vJ c))∧q m.ls)→
 (∀t∈(dC s l).1.sp,p t)∧ ∀t∈(dC s l).1.lo,q t
 |[],s,h1,g,_ =>⟨h1,g⟩
 |m::r,s,h1,g,h=>by
  have hm:=h m (mem_cons_self ..);refine BG r (qs s m).1 ?_ ?_ fun y i=>h y (mem_cons_of_mem _ i)
  ·simp only[qs,vZ];split
   ·exact h1
   ·exact wE _ _ _ (wD _ _ h1 hm.1) hm.2.1
  ·simp only[qs,Du];split
   ·exact g
   ·intro t ht;simp only[nB]at ht;split at ht
    ·exact g t ht
    ·rcases mem_append.1 ht with ht|ht
     ·exact g t ht
     ·rw[mem_singleton.1 ht];exact hm.2.2
def Fq:∀(l:List Mt) (s:Sv),(∀m∈l,m.code.length≤160∧m.cls.length≤6)→(dC s l).1.sp.length≤s.sp.length+166*l.length∧(dC s l).1.lo.length≤s.lo.length+l.length
 |[],s,_ =>by simp[dC]
 |m::r,s,h=>by
  have hm:=h m (mem_cons_self ..);have i:=Fq r (qs s m).1 fun y g=>h y (mem_cons_of_mem _ g);have h1:=(pG m.code s.sp).2;have q:=(rT (Bq s.sp m) m.cls (cY s.sp m.code).1).2;have o:=(sf s.lo m.ls).2;have n:(qs s m).1.sp.length≤s.sp.length+166:=by
   simp only[qs,vZ];split
   ·simp only;omega
   ·simp only[zQ];omega
  have j:(qs s m).1.lo.length≤s.lo.length+1:=by simp only[qs,Du];split<;>simp only<;>omega
  simp only[dC,length_cons];omega
def IY (g:bY):sY g 0=nZ:=by simp[sY,dC]
def vX {g:bY}(h:zD g) (i:Nat):(sY g i).sp.length≤10624∧(sY g i).lo.length≤64:=by
 have hm:∀m∈g.ms.take i,m.code.length≤160∧m.cls.length≤6:=fun m hm=>by have:=(h.m m (mem_of_mem_take hm)).2.2;exact⟨this.code,(jV this.QH).1⟩
 have:=Fq (g.ms.take i) nZ hm;have h1:(g.ms.take i).length≤64:=by have:=h.ms;simp;omega
 simp only[nZ,length_nil]at this;unfold sY;simp only[nZ];omega
def Fo (g:bY):dx g=sY g g.ms.length:=by simp[dx,sY]
def zU {g:bY}(h:zD g) (i:Nat):(∀t∈(sY g i).sp,iR t g.ts.length=true)∧ ∀l∈(sY g i).lo,l.length≤12∧ ∀t∈l,iQ t g.ts.length=true:=by
 refine BG (p:=fun t=>iR t g.ts.length=true) (q:=fun l=>l.length≤12∧ ∀t∈l,iQ t g.ts.length=true) (g.ms.take i) nZ (by simp[nZ]) (by simp[nZ]) fun m hm=> ?_;have j:=(h.m m (mem_of_mem_take hm)).2.2;refine⟨fun x n u=> ?_,fun c o h1=> ?_,j.ls,j.lA⟩
 ·have:=Ge (j.ins x n) u;unfold iR;rw[this.2.1,this.2.2];rfl
 ·have:=j.cls c o;unfold uh at this;rw[if_pos h1]at this;exact this
def IX {s Z:Sv}{m:Mt}{nt nf nm:Int}(hle:ve (qs s m).1 Z) (v:Z.sp.length<16384) (l:TY m nt nf nm) (w:∀x∈m.code,Cd.dr x) (i:Nat):
 pO Z.co Z.sp nm nf (qs s m).2.1 i= .ok (m.code,m.cls):=by
 by_cases j:m.code= []
 ·have o:m.cls= []:=by
   have h1:=(jV l.QH).2;rw[j]at h1;cases n:m.cls with
   |nil=>rfl
   |cons c r=>have:=(qK (h1 c (by rw[n];simp))).2.1;simp at this;omega
  simp only[qs,vZ,if_pos j,pO];rw[if_neg (by omega),j,o]
 ·have h:=hle.co;have g:=hle.sp;simp only[qs,vZ,if_neg j]at h g⊢;obtain⟨r,u⟩:=h;have y:At Z.co (qQ s.co (yg s.sp m)).length (yg s.sp m):=by rw[←u];exact At.ba _ _ _
  have E:((yg s.sp m).headD 0).toNat%4=3→(qQ s.co (yg s.sp m)).length%4=0:=fun e=>by unfold qQ;rw[if_pos e];simp only[length_append,length_replicate];omega
  have g1:=HA (i:=i) g v j l.code (fun x q=>⟨l.ins x q,w x q⟩) l.cls l.QH y E;unfold pO;rw[if_pos (by omega),show((qQ s.co (yg s.sp m)).length:Int)+1-1=(qQ s.co (yg s.sp m)).length by omega];exact g1
theorem IW {s Z:Sv}{m:Mt}(hle:ve (qs s m).1 Z):wY Z.lo (qs s m).2.2=m.ls∧0≤(qs s m).2.2∧(qs s m).2.2≤Z.lo.length:=by
 have g:=hle.lo;by_cases hl:m.ls= []
 ·simp only[qs,Du,if_pos hl,wY];rw[if_neg (by omega),hl];exact⟨rfl,by omega,by omega⟩
 ·simp only[qs,Du,if_neg hl]at g⊢;have h1:=CD g;have h:=(List.getElem?_eq_some_iff.1 h1).1;unfold wY rr;rw[if_pos (by omega),show((Az s.lo m.ls:Int)+1-1).toNat=Az s.lo m.ls by omega,List.getD_eq_getElem?_getD,h1];exact⟨rfl,by omega,by omega⟩
open Rg (Cl b7 bz dA)
open Sg (hU vB pq cM mj kZ dO gY)
def zM {t:Ty}(h:aP t=true):(hU t).length≤9:=by
 obtain⟨h0,h1,l,j⟩:=Sg.kv h;have i:(pq t).length≤5:=by
  have g:∀n:Int,0≤n→n≤1000→(bh n).length≤4:=fun n a b=>(Pl.gr n a (by omega)).2;unfold pq;split
  ·simp
  split
  ·simp
  split
  ·simp
  split
  ·simp
  split
  ·have:=g (4*(t.index+1)) (by omega) (by omega);simp only[length_cons];omega
  split
  ·have:=g (4*(t.index+1)) (by omega) (by omega);simp only[length_cons];omega
  ·have:=g t.index (by omega) (by omega);simp only[length_cons];omega
 unfold hU;rw[length_append,length_append,length_replicate];split<;>simp only[length_cons,length_nil]<;>omega
def Ei:∀(l:List Ty),(∀t∈l,aP t=true)→(vB l).length≤9*l.length
 |[],_ =>by simp[vB]
 |t::r,h=>by have h1:=zM (h t (mem_cons_self ..));have i:=Ei r fun y g=>h y (mem_cons_of_mem _ g);simp only[vB,flatMap_cons,length_append,length_cons]at i⊢;omega
def MI (t:Ty):(cM (mj t)).length≤9:=by
 unfold mj;split
 ·exact zM (by assumption)
 ·simp[cM]
def MK (t:Ty):(cM (kZ t)).length≤10:=by
 unfold kZ;split
 ·rename_i h;have:aP t=true:=Sg.mB (by unfold bO at h;rw[Bool.and_eq_true]at h;exact h.1);have:=zM this;simp only[cM,length_cons];omega
 ·simp[cM]
def G8 (l:List Ty):(cM (dO l)).length≤200:=by
 unfold dO;split
 ·simp[cM]
 split
 ·rename_i h1 h;have:=Ei l fun t ht=>Sg.mB (by rw[all_eq_true]at h;exact h t ht);simp only[cM,Sg.Gb,length_cons];omega
 ·simp[cM]
def G7 (s:Sg.Sg):(cM (gY s)).length≤200:=by
 unfold gY;split
 ·simp[cM]
 split
 ·rename_i h1 h;rw[Bool.and_eq_true,all_eq_true]at h;have i:=Ei s.ps fun t ht=>Sg.mB (h.1 t ht);have g:=zM (Sg.sH h.2);simp only[cM,Sg.Dw,length_cons,length_append];omega
 ·simp[cM]
def A3 (g:bY):∀b∈dT g,b.length≤300:=by
 intro b h;simp only[dT,EO,Ix,Iw,mem_append,mem_map]at h;rcases h with(((⟨x,_,rfl⟩|⟨x,_,rfl⟩)|⟨x,_,rfl⟩)|⟨x,_,rfl⟩)
 ·have:=MK x.ty;omega
 ·have:=G7 (Dv x);omega
 ·have:=MI x;omega
 ·have:=G8 x;omega
def BH {g:bY}{i:Nat}(h:i<g.ms.length):sY g (i+1)=(qs (sY g i) g.ms[i]).1:=yH h
def vW {g:bY}(h:zD g) (u:∀m∈g.ms,∀x∈m.code,Cd.dr x) {i:Nat}(j:i<g.ms.length) (o:g.ms[i].code≠ []):T3 (sY g i).sp g.ms[i]:=by have l:=(h.m _ (getElem_mem j)).2.2;have q:=(vX h (i+1)).1;rw[BH j]at q;simp only[qs,vZ,if_neg o]at q;exact Gy (by omega) o l.code (fun x n=>⟨l.ins x n,u _ (getElem_mem j) x n⟩) l.QH
def DI {g:bY}(h:zD g) (j:∀m∈g.ms,∀x∈m.code,Cd.dr x):∀i,i≤g.ms.length→(sY g i).co.length≤100003*i
 |0,_ =>by rw[IY];simp[nZ]
 |i+1,u=>by
  have o:=DI h j i (by omega);rw[BH (show i<g.ms.length by omega)];simp only[qs,vZ];split
  ·simp only;omega
  ·rename_i l;have n:=vW h j (show i<g.ms.length by omega) l;have hw:(yg (sY g i).sp (g.ms[i]'(by omega))).length≤100000:=yD n.right;simp only[length_append];have q:(qQ (sY g i).co (yg (sY g i).sp (g.ms[i]'(by omega)))).length≤(sY g i).co.length+3:=by
    unfold qQ;split
    ·simp only[length_append,length_replicate];omega
    ·omega
   omega
def AB {g:bY}(h:zD g) (n:∀m∈g.ms,∀x∈m.code,Cd.dr x) (y:∀m∈g.ms,(m.cn=true→m.code= [])∧(m.ln=true→m.ls= [])):sM g:=by
 have q:∀i,¬i<g.ms.length→sY g i=sY g g.ms.length:=fun i j=>by unfold sY;rw[take_of_length_le (by omega),take_of_length_le (by omega)]
 refine⟨h.ts,h.fs,h.ms,fun t ht=> ?_,fun i j=> ?_,fun i=>by have:=(vX h i).1;unfold sY at this;omega,fun i=>(vX h i).2,fun i x o=>by have:=((zU h i).2 x o).1;omega,fun i=> ?_,by have:=h.en;have:=h.ms;omega⟩
 ·have w:=h.t t ht;have:=h.ts;have:=w.ext;exact⟨by omega,w.UL,fun x o=>by have:=w.fc x o;omega⟩
 ·have hm:=getElem_mem j;have l:=(h.m _ hm).2.2;have E:=(jV l.QH);refine⟨l.code,by omega,(y _ hm).1,(y _ hm).2,fun v c u=>NQ (vW h n j v).Xj (E.2 c u),fun v=>(vW h n j v).right,l.fl,by have:=l.ps;omega,by have:=l.ls;omega⟩
 ·have hm:=h.ms;by_cases j:i<g.ms.length
  ·have:=DI h n i (by omega);unfold sY at this;omega
  ·have h1:=q i j;have:=DI h n g.ms.length (Nat.le_refl _);rw[←h1]at this;unfold sY at this;omega
def P5 {g:bY}{i:Nat}(h:i<g.ts.length):(mA g)[i]? =some g.ts[i].name:=by simp only[mA,Ch,append_assoc];rw[getElem?_append_left (by simpa using h)];simp[h]
def P8 {g:bY}{i:Nat}(h:i<g.fs.length):(mA g)[g.ts.length+i]? =some g.fs[i].name:=by simp only[mA,Ch,append_assoc];rw[getElem?_append_right (by simp),getElem?_append_left (by simpa using h)];simp[h]
def P6 {g:bY}{i:Nat}(h:i<g.ms.length):(mA g)[g.ts.length+g.fs.length+i]? =some g.ms[i].name:=by simp only[mA,Ch];rw[getElem?_append_right (by simp)];simp[h]
def TI {g:bY}{i:Nat}(h:i<g.fs.length):(dT g)[i]? =some (cM (kZ g.fs[i].ty)):=by simp only[dT,EO,Ix,Iw,append_assoc];rw[getElem?_append_left (by simpa using h)];simp[h]
def TG {g:bY}{i:Nat}(h:i<g.ms.length):(dT g)[g.fs.length+i]? =some (cM (gY (Dv g.ms[i]))):=by simp only[dT,EO,Ix,Iw,append_assoc];rw[getElem?_append_right (by simp),getElem?_append_left (by simpa using h)];simp[h]
def TF {g:bY}{i:Nat}(h:i<(dx g).sp.length):(dT g)[g.fs.length+g.ms.length+i]? =some (cM (mj (dx g).sp[i])):=by have hl:=qJ g;simp only[dT,EO];rw[getElem?_append_left (by simp[hl];omega),getElem?_append_right (by omega),hl];simp[h]
def TH {g:bY}{i:Nat}(h:i<(dx g).lo.length):(dT g)[g.fs.length+g.ms.length+(dx g).sp.length+i]? =some (cM (dO (dx g).lo[i])):=by have hl:=qJ g;simp only[dT,EO];rw[getElem?_append_right (by simp[hl])];simp[hl,h]
def m9 {α:Type}(e t r:Int) (x:Except gD α):bK true e t r x=x:=rfl
def lx {α β:Type}{step:Nat→β→Except gD α}{F:List α→Nat→List β→Except gD (List α)}(h0:∀acc i,F acc i []= .ok acc)
 (h1:∀acc i r rs,F acc i (r::rs)=cA (step i r) fun m=>F (acc++ [m]) (i+1) rs):
 ∀(rows:List β) (out acc:List α) (i:Nat),rows.length=out.length→(∀j (a:j<rows.length) (b:j<out.length),step (i+j) rows[j]= .ok out[j])→F acc i rows= .ok (acc++out)
 |[],[],acc,i,_,_ =>by rw[h0];simp
 |[],_ :: _,_,_,h,_ =>by simp at h
 | _ :: _,[],_,_,h,_ =>by simp at h
 |r::rs,o::os,acc,i,h,g=>by
  have l:=g 0 (by simp) (by simp);simp only[Nat.add_zero,getElem_cons_zero]at l;rw[h1,l];simp only[cA];rw[lx h0 h1 rs os (acc++ [o]) (i+1) (by simpa using h) fun j a b=> ?_]
  ·simp
  ·have:=g (j+1) (by simp;omega) (by simp;omega);simp only[getElem_cons_succ]at this;rw[←this,show i+(j+1)=i+1+j by omega]
def wq {α β:Type}{step:Nat→β→Except gD α}{F:List α→Nat→List β→Except gD (List α)}(h0:∀acc i,F acc i []= .ok acc)
 (h1:∀acc i r rs,F acc i (r::rs)=cA (step i r) fun m=>F (acc++ [m]) (i+1) rs):
 ∀(rows:List β) (acc res:List α) (i:Nat),F acc i rows= .ok res→ ∃out,res=acc++out∧rows.length=out.length∧ ∀j (a:j<rows.length) (b:j<out.length),step (i+j) rows[j]= .ok out[j]
 |[],acc,res,i,h=>by rw[h0]at h;cases h;exact⟨[],by simp,rfl,fun j a=>by simp at a⟩
 |r::rs,acc,res,i,h=>by
  rw[h1]at h;cases e:step i r with
  |error x=>rw[e]at h;cases h
  |ok o=>
   rw[e]at h;simp only[cA]at h;obtain⟨out,n,l,g⟩:=wq h0 h1 rs _ _ _ h;refine⟨o::out,by rw[n];simp,by simp[l],fun j a b=> ?_⟩;cases j with
   |zero=>simpa using e
   |succ j=>have:=g j (by simpa using a) (by simpa using b);simp only[getElem_cons_succ];rw[←this,show i+(j+1)=i+1+j by omega]
def dJ (l:List Int) (k:Int):List Int:=l.takeWhile (fun o=>decide (o<k))
def HK (l:List Int) (k:Int):eU l k=((dJ l k).length:Int)+1:=rfl
def vR {l:List Int}{k:Int}(h:∀x∈l,k≤x):dJ l k= []:=by
 cases l with
 |nil=>rfl
 |cons x r=>have:=h x (mem_cons_self ..);simp[dJ,takeWhile_cons];omega
def BC:∀ {l:List Int}{k:Int},(∀x∈l,x<k)→dJ l k=l
 |[],_,_ =>rfl
 |x::r,k,h=>by have h1:=h x (mem_cons_self ..);have g:=BC (l:=r) (k:=k) fun y i=>h y (mem_cons_of_mem _ i);unfold dJ at g⊢;rw[takeWhile_cons,if_pos (by simpa using h1),g]
def sU:∀ {l:List Int},l.Pairwise (· ≤ ·)→ ∀k,dJ l k=dJ l (k-1)++List.replicate ((dJ l k).length-(dJ l (k-1)).length) (k-1)∧(dJ l (k-1)).length≤(dJ l k).length
 |[],_,k=>by simp[dJ]
 |x::r,h,k=>by
  rw[pairwise_cons]at h;have n:=sU h.2 k;by_cases h1:x<k-1
  ·have i:dJ (x::r) (k-1)=x::dJ r (k-1):=by simp[dJ,h1]
   have g:dJ (x::r) k=x::dJ r k:=by simp[dJ,show x<k by omega]
   rw[i,g];simp only[length_cons,cons_append,Nat.add_sub_add_right];exact⟨by rw[←n.1],by omega⟩
  ·have i:dJ (x::r) (k-1)= []:=by simp[dJ,h1]
   by_cases o:x<k
   ·have g:dJ (x::r) k=x::dJ r k:=by simp[dJ,o]
    have u:dJ r (k-1)= []:=vR fun y q=>by have:=h.1 y q;omega
    have j:=n.1;rw[u]at j;simp only[nil_append,length_nil,Nat.sub_zero]at j;rw[i,g];simp only[nil_append,length_nil,Nat.sub_zero,length_cons,replicate_succ];exact⟨by rw[←j,show x=k-1 by omega],by omega⟩
   ·have g:dJ (x::r) k= []:=by simp[dJ,o]
    rw[i,g];simp
def LY (l:List Int) (k:Int):(dJ l k).length≤l.length:=by
 induction l with
 |nil=>simp[dJ]
 |cons x r g=>unfold dJ at g⊢;rw[takeWhile_cons];split<;>simp<;>omega
def wW {c:Nat}{g:List Int}{nt:Nat}(l:g.Pairwise (· ≤ ·)) (o:∀x∈g,0≤x∧x<(nt:Int)):
 ∀(rs:List (List Int)) (k:Nat),k+rs.length=nt→(∀j (h:j<rs.length),eW rs[j] c=eU g ((k+j:Nat):Int))→
  eu c g.length nt (dJ g ((k:Int)-1)) (((dJ g ((k:Int)-1)).length:Int)+1) k rs= .ok g
 |[],k,n,_ =>by
  obtain rfl:k=nt:=by simpa using n
  have h1:=(sU l (k:Int)).1;rw[BC (fun x i=>(o x i).2)]at h1;simp only[eu];rw[show((g.length:Int)+1-(((dJ g ((k:Int)-1)).length:Int)+1)).toNat=g.length-(dJ g ((k:Int)-1)).length by omega,←h1]
 |r::rs,k,n,u=>by
  have h0:=u 0 (by simp);simp only[getElem_cons_zero,Nat.add_zero,HK]at h0;obtain⟨h1,y⟩:=sU l (k:Int);have w:=LY g (k:Int);simp only[eu];rw[h0,show((dJ g (k:Int)).length:Int)+1-(((dJ g ((k:Int)-1)).length:Int)+1)=(((dJ g (k:Int)).length-(dJ g ((k:Int)-1)).length:Nat):Int) by omega,Int.toNat_natCast,←h1];have v:0<k∨((dJ g (k:Int)).length:Int)+1=1:=by
   cases k with
   |zero=>right;rw[vR (k:=((0:Nat):Int)) (fun x i=>(o x i).1)];rfl
   |succ k=>left;omega
  have hd:decide (((dJ g ((k:Int)-1)).length:Int)+1≤((dJ g (k:Int)).length:Int)+1∧((dJ g (k:Int)).length:Int)+1≤(g.length:Int)+1∧(0<k∨((dJ g (k:Int)).length:Int)+1=1))=true:=by rw[decide_eq_true_eq];exact⟨by omega,by omega,v⟩
  rw[hd,m9];have q:=wW (c:=c) l o rs (k+1) (by simp at n;omega) fun j h=>by have:=u (j+1) (by simp;omega);simp only[getElem_cons_succ]at this;rw[this,show k+(j+1)=k+1+j by omega]
  rw[show(((k+1:Nat):Int)-1)=(k:Int) by omega]at q;exact q
def zN (t:TD) (f:List Int):TD:= { t with bg:=f,fn:=decide (f= []) }
def uD {n:Int}(rest:List (List Int)) (done us:List TD) (t:TD):∀(fs pre:List Int) (i:Nat),pre.length+fs.length≤4→(∀x∈fs,0≤x∧x<n)→(done.length:Int)<n→
 dk n (done++zN t pre::us) i (fs.map (fun x=> [(done.length:Int)+1,x+1])++rest)=dk n (done++zN t (pre++fs)::us) (i+fs.length) rest
 |[],pre,i,_,_,_ =>by simp
 |x::fs,pre,i,h,g,o=>by
  have h0:=g x (mem_cons_self ..);simp only[length_cons]at h;have j:=uD rest done us t fs (pre++ [x]) (i+1) (by simp;omega) (fun y l=>g y (mem_cons_of_mem _ l)) o;have w:((done.length:Int)+1-1).toNat=done.length:=by omega
  have v:mJ (zN t pre) (x+1-1)=zN t (pre++ [x]):=by simp[mJ,zN,show x+1-1=x by omega]
  have u:(done++zN t pre::us)[done.length]? =some (zN t pre):=by simp
  have q:(done++zN t pre::us).set done.length (zN t (pre++ [x]))=done++zN t (pre++ [x])::us:=by rw[set_append_right _ _ (by omega)];simp
  simp only[map_cons,cons_append,dk,eW,getD_cons_zero,getD_cons_succ];rw[w,u];simp only;rw[v,q];have d1:decide (1≤(done.length:Int)+1∧(done.length:Int)+1≤n∧1≤x+1∧x+1≤n)=true:=by rw[decide_eq_true_eq];omega
  have d2:decide ((zN t pre).bg.length<4)=true:=by rw[decide_eq_true_eq];simp only[zN];omega
  rw[d1,d2,m9,m9,j];simp only[append_assoc,singleton_append,length_cons,show i+1+fs.length=i+(fs.length+1) by omega]
def uF {n:Int} :∀(us done:List TD) (i:Nat),((done.length+us.length:Nat):Int)≤n→(∀t∈us,t.bg.length≤4∧ ∀x∈t.bg,0≤x∧x<n)→
 dk n (done++us.map (fun t=>zN t [])) i ((us.mapIdx fun j t=>fS (done.length+j) t).flatten)= .ok (done++us.map (fun t=>zN t t.bg))
 |[],done,i,_,_ =>by simp[dk]
 |t::us,done,i,o,h=>by
  have h0:=h t (mem_cons_self ..);simp only[length_cons]at o;have h1:=uD (n:=n) ((us.mapIdx fun j t=>fS (done.length+(j+1)) t).flatten) done (us.map fun t=>zN t []) t t.bg [] i (by simpa using h0.1) h0.2 (by omega);have g:=uF us (done++ [zN t t.bg]) (i+t.bg.length) (by simp;omega) fun y l=>h y (mem_cons_of_mem _ l);simp only[mapIdx_cons,flatten_cons,map_cons,Nat.add_zero];have u:fS done.length t=t.bg.map fun x=> [(done.length:Int)+1,x+1]:=rfl;rw[u,h1];simp only[length_append,length_cons,length_nil,append_assoc,singleton_append,nil_append]at g⊢;have q:(us.mapIdx fun j t=>fS (done.length+(j+1)) t)=us.mapIdx fun j t=>fS (done.length+(0+1)+j) t:=by congr 1;funext j t;congr 1;omega
  rw[q,g]
end Im
end Go.Proofs.YtknalmoackcpbaaGreat
