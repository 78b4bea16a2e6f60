/- The document's saver: rows of fields, methods, specs, locals. -/
import Derived.Test.YtknalmoackcpbaaGreatCode7
set_option maxRecDepth 100000
set_option maxHeartbeats 3200000
set_option linter.all false
open Go Go.AW
namespace Go.Proofs.YtknalmoackcpbaaGreat
namespace Im
open Tryz
abbrev pK:dW:=(.S 0 (.S 1 (.S 2 (.S 3 (.S 5 (.S 6 (.S 7 (.S 8 (.S 12 (.S 13 (.R 9 (.S 10 (.R 11 (.A 4 (.A 14 (.S 15 (.A 16 .D .Z)) .Z) (.A 14 (.R 4 (.S 15 (.A 16 .D .Z))) .Z)))))))))))))))
abbrev wi:dW:=(.S 0 (.S 1 (.S 2 (.S 3 (.S 5 (.S 6 (.S 7 (.S 8 (.S 12 (.S 13 (.R 9 (.S 10 (.R 11 (.A 4 (.A 14 (.S 15 (.A 16 .D .Z)) .Z) (.A 14 (.R 4 (.S 15 (.A 16 .D .Z))) .Z)))))))))))))))
abbrev wg:dW:=(.S 0 (.S 1 (.S 2 (.S 3 (.S 5 (.S 6 (.S 7 (.S 8 (.S 12 (.S 13 (.R 9 (.S 10 (.R 11 (.A 4 (.A 14 (.S 15 (.A 16 .D .Z)) .Z) (.A 14 (.R 4 (.S 15 (.A 16 .D .Z))) .Z)))))))))))))))
abbrev gU:dW:=(.S 0 (.S 1 (.S 2 (.S 3 (.S 5 (.S 6 (.S 7 (.S 8 (.S 12 (.S 13 (.R 9 (.S 10 (.R 11 (.A 4 (.A 14 (.S 15 (.A 16 .D .Z)) .Z) (.A 14 (.R 4 (.S 15 (.A 16 .D .Z))) .Z)))))))))))))))
theorem b7 (S:List Nat):cu prog [(14,gU),(26,gU),(33,gU),(41,gU)] S:=mixed
open Sg (aE bL dN fX iJ bI)
open Pl (sV)
variable {sp:List Ty} {k:SK} {en:Int} {g:bZ} {d:SD} {T:DR} {B τ:AS}
def U9 (k:SK) (en:Int) (g:bZ) (B:AS) (i:Nat) (j:AS):Prop:= ∃l,DI k en ⟨[],[],g.ts.map (·.name)++(g.fs.take i).map (·.name),(g.fs.take i).map (fun f=>bI (fX f.ty)),[]⟩ l B j∧ed l= [bt g bp,(bu g bp bp).take i,[],(bK g).flatten,[],[]]
def Qe (k:SK) (en:Int) (g:bZ) (B:AS) (i:Nat) (j:AS):Prop:= ∃l,DI k en ⟨(dw mI (g.ms.take i)).1.sp,(dw mI (g.ms.take i)).1.lo,rq g i,xE g i,(dw mI (g.ms.take i)).1.co⟩ l B j∧
 ed l= [bt g bp,bu g bp bp,(bM g bp bp).take i,(bK g).flatten,[],[]]
def Qd (k:SK) (en:Int) (g:bZ) (B:AS) (i:Nat) (j:AS):Prop:= ∃l,DI k en ⟨(cI g).sp,(cI g).lo,rq g g.ms.length,CG g++((cI g).sp.take i).map (fun t=>bI (iJ t)),(cI g).co⟩ l B j∧
 ed l= [bt g bp,bu g bp bp,bM g bp bp,(bK g).flatten,(cw g bp).take i,[]]
def Rn (k:SK) (en:Int) (g:bZ) (B:AS) (i:Nat) (j:AS):Prop:= ∃l,DI k en ⟨(cI g).sp,(cI g).lo,rq g g.ms.length,Bq g++((cI g).lo.take i).map (fun t=>bI (Sg.cD t)),(cI g).co⟩ l B j∧
 ed l= [bt g bp,bu g bp bp,bM g bp bp,(bK g).flatten,cw g bp,(cY g bp).take i]
def U8 (k:SK) (en:Int) (g:bZ) (B:AS) (j:AS):Prop:= ∃l,DI k en (rm g) l B j∧
 ed l= [bt g bp,bu g bp bp,bM g bp bp,(bK g).flatten,cw g bp,cY g bp]
structure Ti (g:bZ):Prop where
 f:∀f∈g.fs,aV f.ty=true∧bI (fX f.ty)=6::dN f.ty
 sp:∀t∈(cI g).sp,aV t=true∧bI (iJ t)=dN t
 m:∀m∈g.ms,∀sp:List Ty,sp.length≤80000→ ∀x∈(ct sp m.code).2,Cd.ez x
theorem DI.PW (h:DI k en d T B τ) (m:Mt) (hm:I3 d.sp m) (o:∀x∈(ct d.sp m.code).2,Cd.ez x) (q:d.sp.length≤80000) (n:d.co.length≤100000000):
 ad prog 84 [.ptr k.aF 0,fM m] τ (fun r l=>r=zI ((sx d.sp d.co m).2.2)∧DI k en { d with sp:=(sx d.sp d.co m).1,co:=(sx d.sp d.co m).2.1 } T B l) No:=by
 by_cases j:m.code= []
 ·have:=h.IH m j;simp only[sx,j,if_true];exact this
 ·have:=h.IG m (List.length_pos_iff.2 j) hm.code hm.cls hm.cn (hm.C j) (hm.W j) o q n;simp only[sx,if_neg j];exact this
theorem DI.RR (h:DI k en d T B τ) (m:Mt) (hm:I3 sp m) (n:∀x∈d.lo,x.length≤1000000) (hl:d.lo.length≤100000):
 ad prog 86 [.ptr k.aF 0,.ah 49 (m.ls.map cB) .aJ m.ln] τ (fun r j=>r=zI ((xU d.lo m).2)∧DI k en { d with lo:=(xU d.lo m).1 } T B j) No:=by
 have:=h.RP m.ls m.ln hm.ln (by have:=hm.ls;omega) n hl;by_cases l:m.ls= []
 ·simp only[xU,if_pos l]at this⊢;exact this
 ·simp only[xU,if_neg l]at this⊢;exact this
theorem Qe.z (h:U9 k en g B g.fs.length τ):Qe k en g B 0 τ:=by obtain⟨n,l,j⟩:=h;refine⟨n,by simpa[dw,mI,rq,xE]using l,?_⟩;rw[j,List.take_of_length_le (by simp[bu])];simp
theorem Qd.z (h:Qe k en g B g.ms.length τ):Qd k en g B 0 τ:=by obtain⟨n,l,j⟩:=h;refine⟨n,by simpa[cI,CG]using l,?_⟩;rw[j,List.take_of_length_le (by simp[bM,ef])];simp
theorem Rn.z (h:Qd k en g B (cI g).sp.length τ):Rn k en g B 0 τ:=by obtain⟨n,l,j⟩:=h;refine⟨n,by simpa[Bq]using l,?_⟩;rw[j,List.take_of_length_le (by simp[cw])];simp
theorem Ba {g:bZ}(l:tu g) {T:DR}{i j:Nat}(D:ed T= [bt g bp,bu g bp bp,bM g bp bp,(bK g).flatten,(cw g bp).take i,(cY g bp).take j]):∀y∈ed T,y.length≤90000:=by
 rw[D];have v:=l.ts;have A:=l.fs;have w:=l.ms;have n:=na l g.ts.length;rw[List.take_of_length_le (by simp[bK])]at n;have q:(cI g).sp.length≤20000:=by have:=l.sp g.ms.length;rwa [List.take_length]at this
 have u:(cI g).lo.length≤64:=by have:=l.lo g.ms.length;rwa [List.take_length]at this
 intro y o;simp only[List.mem_cons,List.not_mem_nil,or_false]at o;rcases o with rfl|rfl|rfl|rfl|rfl|rfl
 ·simp[bt];omega
 ·simp[bu];omega
 ·simp[bM,ef];omega
 ·omega
 ·simp[cw];omega
 ·simp[cY];omega
theorem DI.rows (hO:tu g) (hD:Ti g) (h:Tm k en g B g.ts.length τ):
 ad prog 35 [.ptr k.aF 0,lp g] τ (fun r P=>r= .cp []∧U8 k en g B P) No:=by
 have fw:=hO.ts;have f5:=hO.fs;have f3:=hO.ms;obtain⟨T0,h0,b6⟩:=h;refine ad.ob func35 ?_;simp only[aN];refine gO b7 (j2 @ae @au) tI ?_;intro L am;have h1:=h0.own (b:= .cells 26 (lp g).cells) am;have hB:AS.le B (B.set L (.cells 26 (lp g).cells)):=AS.ao (lR _) (iN h0.le am);have k3:(B.set L (.cells 26 (lp g).cells)) L=some (.cells 26 (lp g).cells):=by simp
 generalize (B.set L (.cells 26 (lp g).cells))=A at h1 hB k3;simp only[aN,bq]at h1 k3;generalize (τ.set L (.cells 26 [.ah 46 (g.ts.map jD) .aJ g.tn,.ah 56 (g.fs.map lu) .aJ g.fn,.ah 53 (g.ms.map fM) .aJ g.mn,zI g.entry]))=db at h1⊢;clear am;rw[List.take_length]at h1;rw[List.take_of_length_le (by simp[bt]),List.take_of_length_le (by simp[bK])]at b6;refine gO b7 (j2 @ae @au) tI ?_;refine aA.aY (α:=(Nat)×(DR)×(AS)) ((0,T0,db)) (fun⟨i,D,P⟩=>g.fs.length-i) (fun⟨i,D,P⟩=>i≤g.fs.length∧DI k en ⟨[],[],g.ts.map (·.name)++(g.fs.take i).map (·.name),(g.fs.take i).map (fun f=>bI (fX f.ty)),[]⟩ D A P∧ed D= [bt g bp,(bu g bp bp).take i,[],(bK g).flatten,[],[]]) [(0,?_),(3,?_)] (fun⟨i,D,P⟩=> [(4,zI i)]) (fun⟨i,D,P⟩=>P) ?_ ?_ ?_ ?_;rotate_left 2
 ·exact gF (j2 @ae @au)
 ·(try dsimp only);exact lR _
 ·exact⟨by omega,by simpa using h1,by simpa using b6⟩
 intro x_ M;obtain⟨i,D,P⟩:=x_;try dsimp only at M⊢
 obtain⟨hi,Q,U⟩:=M;simp only[fm];have F:=Q.le L _ k3;by_cases u:i<g.fs.length
 ·have l:zW ((i:Int)+1)=((i+1:Nat):Int):=bh (by omega);obtain⟨c1,eg⟩:=hD.f g.fs[i] (List.getElem_mem u);have ai:=fun σ=>Sg.G6 g.fs[i].ty c1 σ;have c2:(bu g bp bp).take (i+1)=(bu g bp bp).take i++ [lx g bp bp i g.fs[i]]:=ff _ _ u;have eb:(g.fs.take (i+1)).map (·.name)=(g.fs.take i).map (·.name)++ [g.fs[i].name]:=by rw[List.take_succ_eq_append_getElem u,List.map_append];rfl
  have b5:(g.fs.take (i+1)).map (fun f=>bI (fX f.ty))=(g.fs.take i).map (fun f=>bI (fX f.ty))++ [bI (fX g.fs[i].ty)]:=by rw[List.take_succ_eq_append_getElem u,List.map_append];rfl
  have ak:∀y∈ed D,y.length≤90000:=by
   rw[U];have ay:=na hO g.ts.length;rw[List.take_of_length_le (by simp[bK])]at ay;intro y hy;simp only[List.mem_cons,List.not_mem_nil,or_false]at hy;rcases hy with rfl|rfl|rfl|rfl|rfl|rfl
   ·simp[bt];omega
   ·simp;omega
   ·simp
   ·omega
   ·simp
   ·simp
  generalize a9:g.fs[i]=f at*;have et:(g.ts.map (·.name)++(g.fs.take i).map (·.name)).length=g.ts.length+i:=by simp;omega
  have e3:((g.fs.take i).map (fun f=>bI (fX f.ty))).length=i:=by simp;omega
  have c5:g.ts.map (·.name)++(g.fs.take (i+1)).map (·.name)=(g.ts.map (·.name)++(g.fs.take i).map (·.name))++ [f.name]:=by rw[eb];simp
  generalize g.ts.map (·.name)++(g.fs.take i).map (·.name)=N at*;generalize (g.fs.take i).map (fun f=>bI (fX f.ty))=BL at*;rw[eg]at b5;simp only[aE]at ai;refine gO (S:= [13]) b7 (j7 u @F @a9 @dq @ae @au @l) @ai ?_;intro tk a1;have o:¬L=tk:=nq F a1;have E:=ba o;have b3:(dN f.ty).length≤1000:=by have:=Sg.ic c1;omega
  have ek:=Q.own (b:= .tok (1+(dN f.ty).length)) a1;have c6:AS.le A (A.set tk (.tok (1+(dN f.ty).length))):=AS.ao (lR _) (Q.my a1);refine gO (S:= [13]) b7 (And.intro (j7 u @F @a9 @dq @bL.eq_1 @b3 @ae) (j3 @au @l o)) @ai ?_;refine aj.of (ek.name f.name (by simp only;omega)) ?_ (fun _ _ h=>h.elim);rintro r O ⟨rfl,ej⟩;simp only[et];simp-implicitDefEqProofs;refine gO (S:= [13]) b7 (j5 @ae @au @l o @F) tI ?_;refine aj.of (ad.wk [.ptr k.aF 0,bL (6::dN f.ty)] (ej.yU (6::dN f.ty) (by simp only;omega)) rfl (fun q hq=> ?_)) ?_ (fun _ _ h=>h.elim)
  ·match q,hq with
   |0,_ =>exact Wk.refl _
   |1,_ =>exact Sg.po (6::dN f.ty) _ _ (by simp)
  rintro r G ⟨rfl,a2⟩;simp only[e3];simp-implicitDefEqProofs;have ci:=a2.le L _ (by rw[AS.ag _ _ o];exact k3);cases a7:f.stat
  ·skip
   refine gO (S:= [13]) b7 (And.intro (j7 @ci u @a9 @dq @a7 @ae @au) (j3 @l o @F)) tI ?_
   with_reducible apply aA.dB
   refine bQ.first 5 ?_;simp-implicitDefEqProofs;refine bQ.sp rfl (iD.lC (by decide) 3 [] ([0,(g.ts.length:Int)+i,(i:Int)].map bg) G (by simp) (by simp) (by simp) (by simp) (by simpa using GV.nil) (by simp[cy,underlying44,bg]) (by simp[bg]) (by simp[fF]) (by simp) ?_);intro v' ch hG;obtain⟨p,Z,rfl,H,rfl⟩:=pZ (vals:= [0,(g.ts.length:Int)+i,(i:Int)]) (by simp) (by simpa using hG);refine bQ.rest ?_;simp-implicitDefEqProofs;have K:=a2.own (b:=mJ p) H;have qs:=K.aF;have qr:=K.bj;rw[dG]at qs;obtain⟨x,hx,hR,V,n1,n2,n3,n4,ab,n5,n6,X⟩:=K.BA (t:=1) (by omega);have hA:=a2.iW (t:=1) (by omega) H hx;have Y:=ku ak x X;generalize D.map pB=R at*;generalize be:G.set p.1 (mJ p)=S at*;rw[eQ]at hA;obtain⟨I,ac⟩:=List.getElem?_eq_some_iff.1 hR;obtain⟨v,J⟩:∃v,((S.set k.bj (.cells 94 (R.set 1 (.ah 44 (x.2.map ud++ [.dg p.1 0 p.2.1.length (p.2.1.length+p.2.2.length)]) (.tok x.1) false)))).set x.1 (.tok (x.2.length+1)))=v:=⟨_,rfl⟩;rw[J]at hA
   (((with_reducible apply dX 14 pK);refine dY mixed ?_);simp-implicitDefEqProofs [eQ,qs,qr,hR,ac,I,ab,V,n1,n2,n3,n4,n5,n6,Y,ae,au,l,E,o,F])
   repeat' (with_reducible apply j2)
   all_goals first|omega|skip
   all_goals
    refine gO b7 (j5 @ae @au @l o @F) tI ?_;refine aH.mk ((i+1,jN D 1 p,v)) (by(try dsimp only);omega) (gF (j6 @ae @au @l E o @F)) (by(try dsimp only);exact le_eq (by rw[←J,AS.set_comm n2];simp[lZ I])) ?_;try dsimp only
    refine⟨u,?_,?_⟩
    ·simp only[←List.map_take];rw[c5,b5];exact hA.drop c6
    ·rw[kx,U,c2,Z];simp[lx,bp,a7]
  ·skip
   refine gO (S:= [13]) b7 (And.intro (j7 @ci u @a9 @dq @a7 @ae @au) (j3 @l o @F)) tI ?_
   with_reducible apply aA.dB
   refine bQ.first 5 ?_;simp-implicitDefEqProofs;refine bQ.sp rfl (iD.lC (by decide) 3 [] ([1,(g.ts.length:Int)+i,(i:Int)].map bg) G (by simp) (by simp) (by simp) (by simp) (by simpa using GV.nil) (by simp[cy,underlying44,bg]) (by simp[bg]) (by simp[fF]) (by simp) ?_);intro v' ch hG;obtain⟨p,Z,rfl,H,rfl⟩:=pZ (vals:= [1,(g.ts.length:Int)+i,(i:Int)]) (by simp) (by simpa using hG);refine bQ.rest ?_;simp-implicitDefEqProofs;have K:=a2.own (b:=mJ p) H;have qs:=K.aF;have qr:=K.bj;rw[dG]at qs;obtain⟨x,hx,hR,V,n1,n2,n3,n4,ab,n5,n6,X⟩:=K.BA (t:=1) (by omega);have hA:=a2.iW (t:=1) (by omega) H hx;have Y:=ku ak x X;generalize D.map pB=R at*;generalize be:G.set p.1 (mJ p)=S at*;rw[eQ]at hA;obtain⟨I,ac⟩:=List.getElem?_eq_some_iff.1 hR;obtain⟨v,J⟩:∃v,((S.set k.bj (.cells 94 (R.set 1 (.ah 44 (x.2.map ud++ [.dg p.1 0 p.2.1.length (p.2.1.length+p.2.2.length)]) (.tok x.1) false)))).set x.1 (.tok (x.2.length+1)))=v:=⟨_,rfl⟩;rw[J]at hA
   (((with_reducible apply dX 14 pK);refine dY mixed ?_);simp-implicitDefEqProofs [eQ,qs,qr,hR,ac,I,ab,V,n1,n2,n3,n4,n5,n6,Y,ae,au,l,E,o,F])
   repeat' (with_reducible apply j2)
   all_goals first|omega|skip
   all_goals
    refine gO b7 (j5 @ae @au @l o @F) tI ?_;refine aH.mk ((i+1,jN D 1 p,v)) (by(try dsimp only);omega) (gF (j6 @ae @au @l E o @F)) (by(try dsimp only);exact le_eq (by rw[←J,AS.set_comm n2];simp[lZ I])) ?_;try dsimp only
    refine⟨u,?_,?_⟩
    ·simp only[←List.map_take];rw[c5,b5];exact hA.drop c6
    ·rw[kx,U,c2,Z];simp[lx,bp,a7]
 obtain rfl:i=g.fs.length:=by omega
 have es:Qe k en g A 0 P:=Qe.z ⟨D,Q,U⟩;obtain⟨T2,h2,c4⟩:=es;clear Q U hi u;refine gO b7 (j3 @F @ae @au) tI ?_;refine aA.aY (α:=(Nat)×(DR)×(AS)) ((0,T2,P)) (fun⟨i,D,O⟩=>g.ms.length-i) (fun⟨i,D,O⟩=>i≤g.ms.length∧DI k en ⟨(dw mI (g.ms.take i)).1.sp,(dw mI (g.ms.take i)).1.lo,rq g i,xE g i,(dw mI (g.ms.take i)).1.co⟩ D A O∧ed D= [bt g bp,bu g bp bp,(bM g bp bp).take i,(bK g).flatten,[],[]]) [(0,?_),(3,?_)] (fun⟨i,D,O⟩=> [(10,zI i)]) (fun⟨i,D,O⟩=>O) ?_ ?_ ?_ ?_;rotate_left 2
 ·exact gF (j2 @ae @au)
 ·(try dsimp only);exact lR _
 ·exact⟨by omega,h2,c4⟩
 intro x_ M;obtain⟨i,D,O⟩:=x_;try dsimp only at M⊢
 obtain⟨hi,Q,U⟩:=M;simp only[fm];have F:=Q.le L _ k3;by_cases u:i<g.ms.length
 ·have l:zW ((i:Int)+1)=((i+1:Nat):Int):=bh (by omega);have a8:=hO.m i u;have e5:=hD.m g.ms[i] (List.getElem_mem u);have ea:=sH u;have ck:=rA u;have e1:rq g (i+1)=rq g i++ [g.ms[i].name]:=by unfold rq;rw[List.take_succ_eq_append_getElem u,List.map_append,←List.append_assoc];rfl
  have e2:xE g (i+1)=xE g i++ [bI (Sg.eS (Lz g.ms[i]))]:=by unfold xE;rw[List.take_succ_eq_append_getElem u,List.map_append,←List.append_assoc];rfl
  have cv:(rq g i).length=g.ts.length+g.fs.length+i:=by simp[rq];omega
  have a0:(xE g i).length=g.fs.length+i:=by simp[xE];omega
  have fz:=hO.sp i;have f6:=hO.co i;have f4:=hO.lo i;have ee:=hO.lA i;have ak:∀y∈ed D,y.length≤90000:=by
   rw[U];have ay:=na hO g.ts.length;rw[List.take_of_length_le (by simp[bK])]at ay;intro y hy;simp only[List.mem_cons,List.not_mem_nil,or_false]at hy;rcases hy with rfl|rfl|rfl|rfl|rfl|rfl
   ·simp[bt];omega
   ·simp[bu];omega
   ·simp;omega
   ·omega
   ·simp
   ·simp
  generalize ec:g.ms[i]=m at*;generalize (dw mI (g.ms.take i)).1=s at*;generalize rq g i=N at*;generalize xE g i=BL at*;have ay:=a8.fl;have cs:m.flags.tmod 2=m.flags%2:=Int.tmod_eq_emod_of_nonneg ay.1;have d9:=fun σ=>Sg.BU (decide (m.flags%2=0)) m.ps m.ret .aJ m.pn a8.ps σ;refine gO (S:= [25]) b7 (j7 u @F @ec @aT @ae @au @l) tI ?_;intro id5 al;have n:¬L=id5:=nq F al;have w:=ba n;have K:=Q.own (b:= .cells 53 (fM m).cells) al;have bv:=AS.ao (b:= .cells 53 (fM m).cells) (lR A) (Q.my al);have k5:(A.set id5 (.cells 53 (fM m).cells)) id5=some (.cells 53 (fM m).cells):=AS.aD _ _ _;have dn:(A.set id5 (.cells 53 (fM m).cells)) L= _ :=(AS.ag _ _ n).trans k3;simp only[aT,bq]at k5 dn bv K;generalize (A.set id5 (.cells 53 [zS m.name,zI m.owner,zI m.flags,.ah 49 (m.ps.map cB) .aJ m.pn,zI m.ret.kind,zI m.ret.index,zI m.ret.cT,.sc (.bool m.ret.ref),.ah 49 (m.ls.map cB) .aJ m.ln,zI m.max,.ah 110 (m.code.map bJ) .aJ m.cn,.ah 158 (m.cls.map Rg.jg) .aJ m.xn]))=A5 at*;generalize (O.set id5 (.cells 53 [zS m.name,zI m.owner,zI m.flags,.ah 49 (m.ps.map cB) .aJ m.pn,zI m.ret.kind,zI m.ret.index,zI m.ret.cT,.sc (.bool m.ret.ref),.ah 49 (m.ls.map cB) .aJ m.ln,zI m.max,.ah 110 (m.code.map bJ) .aJ m.cn,.ah 158 (m.cls.map Rg.jg) .aJ m.xn]))=G at*;have hb:=K.PW m a8 (e5 _ (by simp only;omega)) (by simp only;omega) (by simp only;omega);simp only[aT]at hb;have q3:=K.le _ _ k5;refine gO (S:= [25]) b7 (j6 @q3 @ae @au @l n @F) tI ?_;refine aj.of hb ?_ (fun _ _ h=>h.elim);rintro r v ⟨rfl,h4⟩;have q4:=h4.le _ _ k5;simp-implicitDefEqProofs [q4,ae,au,l,w,n,F];refine gO (S:= [25]) b7 (j6 @q4 @ae @au @l n @F) tI ?_;refine aj.of (h4.name m.name (by simp only;omega)) ?_ (fun _ _ h=>h.elim);rintro r b0 ⟨rfl,h5⟩;have q5:=h5.le _ _ k5;simp-implicitDefEqProofs [q5,ae,au,l,w,n,F];refine gO (S:= [25]) b7 (j7 @q5 @cs @ae @au @l n @F) @d9 ?_;refine aj.of (h5.yU (bI (Sg.eS (Lz m))) (by simp only;omega)) ?_ (fun _ _ h=>h.elim);rintro r ch ⟨rfl,h6⟩;have q6:=h6.le _ _ k5;simp-implicitDefEqProofs [q6,ae,au,l,w,n,F];refine gO (S:= [25]) b7 (j6 @q6 @ae @au @l n @F) tI ?_;refine aj.of (h6.RR m a8 (fun x hx=>by have:=ee x hx;omega) (by simp only;omega)) ?_ (fun _ _ h=>h.elim);rintro r ce ⟨rfl,h7⟩;have q7:=h7.le _ _ k5;simp-implicitDefEqProofs [q7,ae,au,l,w,n,F];refine gO (S:= [25]) b7 (j6 @q7 @ae @au @l n @F) tI ?_;simp only[cv,a0]
  with_reducible apply aA.dB
  refine bQ.first 10 ?_;simp-implicitDefEqProofs [q7];refine bQ.sp rfl (iD.lC (by decide) 3 [] ([(sx s.sp s.co m).2.2,m.flags,m.max,(g.ts.length:Int)+g.fs.length+i,(g.fs.length:Int)+i,(xU s.lo m).2].map bg) ce (by simp) (by simp) (by simp) (by simp) (by simpa using GV.nil) (by simp[cy,underlying44,bg]) (by simp[bg]) (by simp[fF]) (by simp) ?_);intro v' cd hG;obtain⟨p,Z,rfl,H,rfl⟩:=pZ (vals:= [(sx s.sp s.co m).2.2,m.flags,m.max,(g.ts.length:Int)+g.fs.length+i,(g.fs.length:Int)+i,(xU s.lo m).2]) (by simp) (by simpa using hG);refine bQ.rest ?_;simp-implicitDefEqProofs;have K:=h7.own (b:=mJ p) H;have qs:=K.aF;have qr:=K.bj;rw[dG]at qs;obtain⟨x,hx,hR,V,n1,n2,n3,n4,ab,n5,n6,X⟩:=K.BA (t:=2) (by omega);have hA:=h7.iW (t:=2) (by omega) H hx;have Y:=ku ak x X;generalize D.map pB=R at*;generalize be:ce.set p.1 (mJ p)=S at*;rw[eQ]at hA;obtain⟨I,ac⟩:=List.getElem?_eq_some_iff.1 hR;obtain⟨v,J⟩:∃v,((S.set k.bj (.cells 94 (R.set 2 (.ah 44 (x.2.map ud++ [.dg p.1 0 p.2.1.length (p.2.1.length+p.2.2.length)]) (.tok x.1) false)))).set x.1 (.tok (x.2.length+1)))=v:=⟨_,rfl⟩;rw[J]at hA
  (((with_reducible apply dX 26 wi);refine dY mixed ?_);simp-implicitDefEqProofs [eQ,qs,qr,hR,ac,I,ab,V,n1,n2,n3,n4,n5,n6,Y,ae,au,l,w,n,F])
  repeat' (with_reducible apply j2)
  all_goals first|omega|skip
  all_goals
   refine gO b7 (j5 @ae @au @l n @F) tI ?_;refine aH.mk ((i+1,jN D 2 p,v)) (by(try dsimp only);omega) (gF (j6 @ae @au @l w n @F)) (by(try dsimp only);exact le_eq (by rw[←J,AS.set_comm n2];simp[lZ I])) ?_;try dsimp only
   refine⟨u,?_,?_⟩
   ·rw[ck,e1,e2];exact hA.drop bv
   ·rw[kx,U,ea,Z];simp[oh,bp,vY]
 obtain rfl:i=g.ms.length:=by omega
 have eo:Qd k en g A 0 O:=Qd.z ⟨D,Q,U⟩;obtain⟨T3,K,c3⟩:=eo;clear Q U hi u h2 c4 h1 k3 b6 h0;have fb:(cI g).sp.length≤20000:=by have:=hO.sp g.ms.length;rwa [List.take_length]at this
 have fd:(cI g).lo.length≤64:=by have:=hO.lo g.ms.length;rwa [List.take_length]at this
 have c0:∀x∈(cI g).lo,x.length≤1000:=by have:=hO.lA g.ms.length;rwa [List.take_length]at this
 have cv:=qZ g;refine gO b7 (j3 @F @ae @au) tI ?_;clear F;refine aA.aY (α:=(Nat)×(DR)×(AS)) ((0,T3,O)) (fun⟨i,D,G⟩=>(cI g).sp.length-i) (fun⟨i,D,G⟩=>i≤(cI g).sp.length∧DI k en ⟨(cI g).sp,(cI g).lo,rq g g.ms.length,CG g++((cI g).sp.take i).map (fun t=>bI (iJ t)),(cI g).co⟩ D A G∧ed D= [bt g bp,bu g bp bp,bM g bp bp,(bK g).flatten,(cw g bp).take i,[]]) [(0,?_)] (fun⟨i,D,G⟩=> [(19,zI i)]) (fun⟨i,D,G⟩=>G) ?_ ?_ ?_ ?_;rotate_left 1
 ·exact gF (j2 @ae @au)
 ·(try dsimp only);exact lR _
 ·exact⟨by omega,K,c3⟩
 intro x_ M;obtain⟨i,D,G⟩:=x_;try dsimp only at M⊢
 obtain⟨hi,Q,U⟩:=M;simp only[fm];have s0:=Q.aF;rw[dG]at s0;by_cases u:i<(cI g).sp.length
 ·have l:zW ((i:Int)+1)=((i+1:Nat):Int):=bh (by omega);have ak:=Ba (i:=i) (j:=0) hO U;have a0:=D3 (g:=g) (i:=i) (by omega);have bb:=A0 (g:=g) u;have b4:=sA (g:=g) u;obtain⟨d8,b3⟩:=hD.sp (cI g).sp[i] (List.getElem_mem u);have ai:=fun σ=>Sg.G6 (cI g).sp[i] d8 σ;generalize ht:(cI g).sp[i]=t at*;generalize CG g++((cI g).sp.take i).map (fun t=>bI (iJ t))=BL at*;rw[b3]at bb;simp only[aE]at ai;refine gO (S:= [32]) b7 (j7 u @aE @ht @s0 @ae @au @l) @ai ?_;refine aj.of (Q.yU (dN t) (by simp only;omega)) ?_ (fun _ _ h=>h.elim);rintro r v ⟨rfl,h4⟩;simp only[a0];simp-implicitDefEqProofs [ae,au,l];refine gO (S:= [32]) b7 (j3 @ae @au @l) tI ?_
  with_reducible apply aA.dB
  refine bQ.first 3 ?_;simp-implicitDefEqProofs;refine bQ.sp rfl (iD.lC (by decide) 3 [] ([(g.fs.length:Int)+g.ms.length+i].map bg) v (by simp) (by simp) (by simp) (by simp) (by simpa using GV.nil) (by simp[cy,underlying44,bg]) (by simp[bg]) (by simp[fF]) (by simp) ?_);intro v' cd hG;obtain⟨p,Z,rfl,H,rfl⟩:=pZ (vals:= [(g.fs.length:Int)+g.ms.length+i]) (by simp) (by simpa using hG);refine bQ.rest ?_;simp-implicitDefEqProofs;have K:=h4.own (b:=mJ p) H;have qs:=K.aF;have qr:=K.bj;rw[dG]at qs;obtain⟨x,hx,hR,V,n1,n2,n3,n4,ab,n5,n6,X⟩:=K.BA (t:=4) (by omega);have hA:=h4.iW (t:=4) (by omega) H hx;have Y:=ku ak x X;generalize D.map pB=R at*;generalize be:v.set p.1 (mJ p)=S at*;rw[eQ]at hA;obtain⟨I,ac⟩:=List.getElem?_eq_some_iff.1 hR;obtain⟨v,J⟩:∃v,((S.set k.bj (.cells 94 (R.set 4 (.ah 44 (x.2.map ud++ [.dg p.1 0 p.2.1.length (p.2.1.length+p.2.2.length)]) (.tok x.1) false)))).set x.1 (.tok (x.2.length+1)))=v:=⟨_,rfl⟩;rw[J]at hA
  (((with_reducible apply dX 33 wg);refine dY mixed ?_);simp-implicitDefEqProofs [eQ,qs,qr,hR,ac,I,ab,V,n1,n2,n3,n4,n5,n6,Y,ae,au,l])
  repeat' (with_reducible apply j2)
  all_goals first|omega|skip
  all_goals
   refine gO b7 (j3 @ae @au @l) tI ?_;refine aH.mk ((i+1,jN D 4 p,v)) (by(try dsimp only);omega) (gF (j3 @ae @au @l)) (by(try dsimp only);exact le_eq (by rw[←J,AS.set_comm n2];simp[lZ I])) ?_;try dsimp only
   refine⟨u,?_,?_⟩
   ·simp only[←List.map_take];rw[bb];exact hA
   ·rw[kx,U,b4,Z];simp[kJ,bp]
 obtain rfl:i=(cI g).sp.length:=by omega
 have em:Rn k en g A 0 G:=Rn.z ⟨D,Q,U⟩;obtain⟨T4,h4,ei⟩:=em;clear Q U hi u K c3;refine gO b7 (j3 @s0 @ae @au) tI ?_;clear s0;refine aA.aY (α:=(Nat)×(DR)×(AS)) ((0,T4,G)) (fun⟨i,D,v⟩=>(cI g).lo.length-i) (fun⟨i,D,v⟩=>i≤(cI g).lo.length∧DI k en ⟨(cI g).sp,(cI g).lo,rq g g.ms.length,Bq g++((cI g).lo.take i).map (fun t=>bI (Sg.cD t)),(cI g).co⟩ D A v∧ed D= [bt g bp,bu g bp bp,bM g bp bp,(bK g).flatten,cw g bp,(cY g bp).take i]) [(0,?_)] (fun⟨i,D,v⟩=> [(22,zI i)]) (fun⟨i,D,v⟩=>v) ?_ ?_ ?_ ?_;rotate_left 1
 ·exact gF (j2 @ae @au)
 ·(try dsimp only);exact lR _
 ·exact⟨by omega,h4,ei⟩
 intro x_ M;obtain⟨i,D,v⟩:=x_;try dsimp only at M⊢
 obtain⟨hi,Q,U⟩:=M;simp only[fm];have s0:=Q.aF;rw[dG]at s0;by_cases u:i<(cI g).lo.length
 ·have l:zW ((i:Int)+1)=((i+1:Nat):Int):=bh (by omega);have ak:=Ba (i:=(cI g).sp.length) (j:=i) hO (by rw[List.take_of_length_le (by simp[cw])];exact U);have a0:=D2 (g:=g) (i:=i) (by omega);have bb:=AZ (g:=g) u;have b4:=sL (g:=g) u;have ai:=fun σ=>Sg.wu (cI g).lo[i] .aJ (decide ((cI g).lo[i]= [])) (by have:=c0 _ (List.getElem_mem u);omega) σ;generalize ht:(cI g).lo[i]=t at*;generalize Bq g++((cI g).lo.take i).map (fun t=>bI (Sg.cD t))=BL at*;refine gO (S:= [40]) b7 (j7 u @eO @ht @s0 @ae @au @l) @ai ?_;refine aj.of (Q.yU (bI (Sg.cD t)) (by simp only;omega)) ?_ (fun _ _ h=>h.elim);rintro r b0 ⟨rfl,h5⟩;simp only[a0];simp-implicitDefEqProofs [ae,au,l];refine gO (S:= [40]) b7 (j3 @ae @au @l) tI ?_
  with_reducible apply aA.dB
  refine bQ.first 3 ?_;simp-implicitDefEqProofs;refine bQ.sp rfl (iD.lC (by decide) 3 [] ([(g.fs.length:Int)+g.ms.length+(cI g).sp.length+i].map bg) b0 (by simp) (by simp) (by simp) (by simp) (by simpa using GV.nil) (by simp[cy,underlying44,bg]) (by simp[bg]) (by simp[fF]) (by simp) ?_);intro v' cd hG;obtain⟨p,Z,rfl,H,rfl⟩:=pZ (vals:= [(g.fs.length:Int)+g.ms.length+(cI g).sp.length+i]) (by simp) (by simpa using hG);refine bQ.rest ?_;simp-implicitDefEqProofs;have K:=h5.own (b:=mJ p) H;have qs:=K.aF;have qr:=K.bj;rw[dG]at qs;obtain⟨x,hx,hR,V,n1,n2,n3,n4,ab,n5,n6,X⟩:=K.BA (t:=5) (by omega);have hA:=h5.iW (t:=5) (by omega) H hx;have Y:=ku ak x X;generalize D.map pB=R at*;generalize be:b0.set p.1 (mJ p)=S at*;rw[eQ]at hA;obtain⟨I,ac⟩:=List.getElem?_eq_some_iff.1 hR;obtain⟨v,J⟩:∃v,((S.set k.bj (.cells 94 (R.set 5 (.ah 44 (x.2.map ud++ [.dg p.1 0 p.2.1.length (p.2.1.length+p.2.2.length)]) (.tok x.1) false)))).set x.1 (.tok (x.2.length+1)))=v:=⟨_,rfl⟩;rw[J]at hA
  (((with_reducible apply dX 41 gU);refine dY mixed ?_);simp-implicitDefEqProofs [eQ,qs,qr,hR,ac,I,ab,V,n1,n2,n3,n4,n5,n6,Y,ae,au,l])
  repeat' (with_reducible apply j2)
  all_goals first|omega|skip
  all_goals
   refine gO b7 (j3 @ae @au @l) tI ?_;refine aH.mk ((i+1,jN D 5 p,v)) (by(try dsimp only);omega) (gF (j3 @ae @au @l)) (by(try dsimp only);exact le_eq (by rw[←J,AS.set_comm n2];simp[lZ I])) ?_;try dsimp only
   refine⟨u,?_,?_⟩
   ·simp only[←List.map_take];rw[bb];exact hA
   ·rw[kx,U,b4,Z];simp[kJ,bp]
 obtain rfl:i=(cI g).lo.length:=by omega
 rw[List.take_of_length_le (by omega)]at Q;rw[List.take_of_length_le (by simp[cY])]at U;refine gO b7 (j3 @s0 @ae @au) tI ?_;exact⟨_,_,Wk.refl _,lR _,rfl,D,Q.drop hB,U⟩
end Im
end Go.Proofs.YtknalmoackcpbaaGreat
namespace Go.Proofs.YtknalmoackcpbaaGreat
namespace Pl
open Tryz
theorem AK (l b9:Nat) (j:zY) (o:cA) (pl:AV) (σ:AS) (h1:σ l=some (fJ j o b9)) (hl:j.length≤140737488355328) (q:¬65536<j.length):
 ad prog 71 [.ptr l 0,pl] σ (aq (.cp [.ah 5 (j.map u8) o false,pl,zI 0]) σ) No:=by
 have n:(65536<(j.length:Int))=False:=by simp;omega
 refine ad.ob func71 ?_;simp only[fJ]at h1;exact gE aa (j2 @h1 @n) tI
def cF (s:zY):List (zY×Nat)→Option Nat
 |[]=>none
 |(k,a)::r=>if s=k then some a else cF s r
theorem o7 (s:zY) (d:List (zY×Nat)) (k:zY) (a:Nat):cF s (d++ [(k,a)])=match cF s d with|some x=>some x|none=>if s=k then some a else none:=by
 induction d with
 |nil=>rfl
 |cons p r j=>obtain⟨q,x⟩:=p;by_cases h:s=q<;>simp[cF,h,j]
def qh:List (zY)→zY→List (zY×Nat)→zY×List (zY×Nat)
 |[],p,d=>(p,d)
 |s::r,p,d=>match cF s d with
  |some a=>qh r p (d++ [(s,a)])
  |none=>qh r (p++s++ [0]) (d++ [(s,p.length)])
def bR (l:List (zY)):zY×List Int×Int:=
 if l.all bY=false then([],[],18)else
 if 65536<(qh l [0] []).1.length then([],[],4)else((qh l [0] []).1,(qh l [0] []).2.map (fun p=>(p.2:Int)),0)
theorem xz (k:ByteArray) (v:AV) (s:ByteArray):∀j,fH s (ja k v j)=if s=k then some v else fH s j:=by
 intro j;induction j with
 |nil=>by_cases h:s=k<;>simp[ja,fH,h]
 |cons p r l=>
  obtain⟨k',o⟩:=p;by_cases h1:k=k'
  ·subst h1;by_cases h:s=k<;>simp[ja,fH,h]
  ·by_cases h:s=k
   ·subst h;simp[ja,fH,h1,l]
   ·by_cases n:s=k'
    ·subst n;simp[ja,fH,h1,h]
    ·simp[ja,fH,h1,h,n,l]
theorem PS.put {o:cA}{n:Nat}{σ0 σ:AS}{i:Nat}{b:cL}(h:PS o n σ0 σ) (j:σ i=none∨ ∃x,σ0 i=some x):PS o n (σ0.set i b) (σ.set i b):=by
 rcases h with⟨rfl,rfl⟩|⟨u,rfl,l,rfl⟩
 ·exact .inl ⟨rfl,rfl⟩
 ·have q:i≠u:=by
   rintro rfl;rcases j with j|⟨x,j⟩
   ·simp[AS.set]at j
   ·rw[l]at j;cases j
  refine .inr ⟨u,rfl,by simp[AS.set,Ne.symm q,l],?_⟩;exact AS.set_comm (Ne.symm q)
theorem HT {B:AS}{q o l b9 aF:Nat}{a b c d c0 d0 e:cL}(h1:q≠o) (K:q≠l) (J:q≠b9) (I:o≠l) (H:o≠b9) (w:l≠b9) (G:B aF=none) (v:aF≠l) (u:aF≠b9):
 AS.le ((((B.set b9 d).set l c).set o b).set q a) (((((((B.set b9 d0).set l c0).set aF e).set q a).set l c).set b9 d).set o b):=by
 intro j x n;simp only[AS.set]at n⊢;by_cases F:j=q
 ·subst F;simp[*]at n⊢;exact n
 by_cases E:j=o
 ·subst E;simp[*]at n⊢;exact n
 by_cases D:j=l
 ·subst D;simp[*]at n⊢;exact n
 by_cases A:j=b9
 ·subst A;simp[*,Ne.symm w]at n⊢;exact n
 by_cases y:j=aF
 ·subst y;simp[*]at n
 simp[*]at n⊢;exact n
theorem HS {B:AS}{q o l b9 aF:Nat}{a b b0 c d c0 d0 e:cL}(h1:q≠o) (K:q≠l) (J:q≠b9) (I:o≠l) (H:o≠b9) (w:l≠b9) (G:B aF=none) (v:aF≠l) (u:aF≠b9):
 AS.le ((((B.set b9 d).set l c).set o b).set q a) ((((((((B.set b9 d0).set l c0).set o b0).set aF e).set q a).set l c).set b9 d).set o b):=by
 intro j x n;simp only[AS.set]at n⊢;by_cases F:j=q
 ·subst F;simp[*]at n⊢;exact n
 by_cases E:j=o
 ·subst E;simp[*]at n⊢;exact n
 by_cases D:j=l
 ·subst D;simp[*]at n⊢;exact n
 by_cases A:j=b9
 ·subst A;simp[*,Ne.symm w]at n⊢;exact n
 by_cases y:j=aF
 ·subst y;simp[*]at n
 simp[*]at n⊢;exact n
def fg (d:List (zY×Nat)) (o:cA):AV:= .ah 3 (d.map fun p=>zI p.2) o false
def UJ (l:List (zY)) (nl:Bool) (v:cA) (B:AS) (j b9:Nat) (m:Nat) (fr:Fr) (σ':AS):Prop:=
 ∃(i:Nat) (p:zY) (d:List (zY×Nat)) (o:cA) (n:List (ByteArray×AV)) (u:AS) (pl:AV),m=l.length-i∧i≤l.length∧qh (l.drop i) p d=qh l [0] []∧d.length=i∧p.length≤1+25*i∧
  (∀s:zY,fH ⟨s.toArray⟩ n=(cF s d).map (fun a=>zI (a:Int)))∧
  ((i=0∧pl= .aC∧u=(B.set b9 (.map (cx n))).set j (fJ p o b9))∨(∃q,0<i∧B q=none∧q≠j∧q≠b9∧pl=fg d (.tok q)∧u=((B.set b9 (.map (cx n))).set j (fJ p o b9)).set q (.tok i)))∧
  PS o p.length u σ'∧fr=gD [(5,.ptr j 0),(6,pl),(12,.ah 9 (l.map sV) v nl),(13,zI l.length),(14,zI i)]
theorem HL (l:List (zY)) (nl:Bool) (V:cA) (hl:l.length≤1000) (hs:∀s∈l,s.length≤140737488355328) (hf:l.all bY=true) (hn:¬65536<(qh l [0] []).1.length) (σ:AS):
 ad prog 29 [.ah 9 (l.map sV) V nl] σ (aq (.cp [.ah 5 ((qh l [0] []).1.map u8) .aJ false,.ah 3 ((qh l [0] []).2.map fun p=>zI p.2) .aJ (decide (l= [])),zI 0]) σ) No:=by
 have hc:=fun σ=>AN l nl V (by omega) hs σ;rw[hf]at hc;refine ad.ob func29 ?_;refine gO aa tI @hc ?_;refine aj.of (AA _) ?_ (fun _ _ h=>h.elim);rintro r bf ⟨j,b9,bb,M,I,rfl,rfl⟩;simp-implicitDefEqProofs;refine gO aa tI tI ?_;refine aA.cz (UJ l nl V σ j b9) (k0:=l.length) ⟨0,[0],[],.full,[],_,_,by omega,by omega,rfl,rfl,by simp,fun s=>rfl,.inl ⟨rfl,rfl,rfl⟩,.inl ⟨rfl,rfl⟩,rfl⟩ (aP.mk (by simp)) (lR _) ?_;rintro m fr σ' ⟨i,p,d,o,w,Y,pl,hm,hi,G,X,hp,hk,hC,U,rfl⟩;have O:b9≠j:=fun e=>I e.symm;have E:Y j=some (fJ p o b9)∧Y b9=some (.map (cx w)):=by
  rcases hC with⟨_,_,rfl⟩|⟨q,_,ht,K,J,_,rfl⟩
  ·simp[O]
  ·simp[O,K.symm,J.symm]
 have hle:=U.le;have F:=hle _ _ E.1;have L:=hle _ _ E.2;by_cases ak:i<l.length
 ·obtain⟨s,hg,S,ai,_⟩:=dK l ak;obtain⟨_,a2⟩:=List.getElem?_eq_some_iff.1 hg;have hI:((i:Int)<l.length)=True:=by simp;omega
  have a8:s.length≤24:=by have:=List.all_eq_true.1 hf s ai;simp[bY]at this;exact this.2.1
  rw[S]at G;simp only[qh]at G;refine gO aa (j4 hI ak @a2 @sV.eq_1) tI ?_;intro aF A;have s1:aF≠j:=nq F A;have s2:aF≠b9:=nq L A;have ab:j≠aF:=fun e=>s1 e.symm;have Z:b9≠aF:=fun e=>s2 e.symm;refine gO aa tI tI ?_;have P:=U.put (b:= .cells 9 [sV s]) (.inl A);cases n:cF s d with
  |some a=>
   rw[n]at G;rcases hC with⟨h0,_,_⟩|⟨q,am,Q,K,J,rfl,rfl⟩
   ·exfalso;have:d= []:=List.length_eq_zero_iff.1 (by omega);subst this;simp[cF]at n
   ·have ht:σ' q=some (.tok i):=hle q _ (by simp[AS.set]);have s3:aF≠q:=nq ht A;have a0:q≠aF:=fun e=>s3 e.symm;refine aj.aL (Dk j b9 p s o w a _ _ (by simp[ab,F]) (by simp[Z,L]) (by rw[hk,n];rfl)) ?_;simp-implicitDefEqProofs [fg,ht,X,a0];refine⟨by omega,?_⟩;refine gO aa tI tI ?_;refine⟨m-1,_,σ'.set q (.tok (i+1)),by omega,aP.mk (l:= [(5,.ptr j 0),(6,fg (d++ [(s,a)]) (.tok q)),(12,.ah 9 (l.map sV) V nl),(13,zI l.length),(14,zI (i+1:Nat))]) ?_,?_,i+1,p,d++ [(s,a)],o,w,_,_,by omega,by omega,G,by simp[X],by omega,?_,.inr ⟨q,by omega,Q,K,J,rfl,rfl⟩,?_,rfl⟩
    ·simp[dv (show i<4000000000000000000 by omega),fg]
    ·exact dP (aw A (lR _)) (by simp)
    ·intro H;rw[hk,o7];by_cases e:H=s
     ·subst e;rw[n]
     ·cases h:cF H d<;>simp[e]
    ·have:=U.put (i:=q) (b:= .tok (i+1)) (.inr ⟨_,by simp[AS.set];rfl⟩);rwa [AS.set_set]at this
  |none=>
   rw[n]at G;have a1:=Dj j b9 p (p++s++ [0]) s o w 70 [.ptr aF 0] (Y.set aF (.cells 9 [sV s])) _ I (by simp[ab,E.1]) (by simp[Z,E.2]) P (by rw[hk,n];rfl) (by omega)
    (E0 p s o aF _ _ P (by simp) (by omega) (by omega))
   have al:∀H:zY,fH ⟨H.toArray⟩ (ja ⟨s.toArray⟩ (zI p.length) w)=(cF H (d++ [(s,p.length)])).map (fun a=>zI (a:Int)):=by
    intro H;rw[xz,o7];by_cases e:H=s
    ·subst e;rw[n];simp
    ·have:¬((⟨H.toArray⟩:ByteArray)=⟨s.toArray⟩):=by simpa using e
     rw[if_neg this,hk];cases h:cF H d<;>simp[e]
   refine aj.of a1 ?_ (fun _ _ h=>h.elim);rintro r be ⟨v,ac,rfl,rfl⟩;have t1:v≠aF:=by rintro rfl;simp[AS.set]at ac
   have b3:aF≠v:=fun e=>t1 e.symm;have y:Y v=none:=by simpa[AS.set,t1]using ac
   have t2:v≠j:=by rintro rfl;rw[E.1]at y;cases y
   have t3:v≠b9:=by rintro rfl;rw[E.2]at y;cases y
   have b2:j≠v:=fun e=>t2 e.symm;have b1:b9≠v:=fun e=>t3 e.symm;have u:Y aF=none:=by
    cases hh:Y aF with
    |none=>rfl
    |some x=>rw[hle _ _ hh]at A;cases A
   rcases hC with⟨h0,rfl,rfl⟩|⟨q,am,Q,K,J,rfl,rfl⟩
   ·have D:σ aF=none:=by simpa[AS.set,s1,s2]using u
    have ar:σ v=none:=by simpa[AS.set,t2,t3]using y
    have a3:d= []:=List.length_eq_zero_iff.1 (by omega);subst a3;simp-implicitDefEqProofs;intro q;intros;have u1:q≠b9:=by assumption
    have u2:q≠j:=by assumption
    have u3:q≠v:=by assumption
    have u5:σ q=none:=by assumption
    have ax:v≠q:=fun e=>u3 e.symm;refine gO aa tI tI ?_;refine⟨m-1,_,((((σ.set b9 (.map (cx (ja ⟨s.toArray⟩ (zI p.length) w)))).set j (fJ (p++s++ [0]) (.tok v) b9)).set q (.tok (i+1))).set v (.tok (p++s++ [0]).length)),by omega,aP.mk (l:= [(5,.ptr j 0),(6,fg ([]++ [(s,p.length)]) (.tok q)),(12,.ah 9 (l.map sV) V nl),(13,zI l.length),(14,zI (i+1:Nat))]) ?_,?_,i+1,p++s++ [0],[]++ [(s,p.length)],.tok v,_,_,_,by omega,by omega,G,by simp[X,h0],by simp;omega,al,.inr ⟨q,by omega,u5,u2,u1,rfl,rfl⟩,.inr ⟨v,rfl,by simp[AS.set, *],rfl⟩,rfl⟩
    ·simp[dv (show i<4000000000000000000 by omega),fg]
    ·have:=HT (B:=σ) (a:= .tok (p++s++ [0]).length) (b:= .tok (i+1)) (c:=fJ (p++s++ [0]) (.tok v) b9) (d:= .map (cx (ja ⟨s.toArray⟩ (zI p.length) w))) (c0:=fJ p o b9) (d0:= .map (cx w)) (e:= .cells 9 [sV s]) ax t2 t3 u2 u1 I D s1 s2;simpa[h0]using this
   ·have D:σ aF=none:=by
     have af:aF≠q:=by rintro rfl;simp[AS.set]at u
     simpa[AS.set,s1,s2,af]using u
    have t4:v≠q:=by rintro rfl;simp[AS.set]at y
    have ay:q≠v:=fun e=>t4 e.symm;have ar:σ v=none:=by simpa[AS.set,t2,t3,t4]using y
    have s3:q≠aF:=by rintro rfl;simp[AS.set]at u
    simp-implicitDefEqProofs [fg,K,J,ay,s3,X];refine⟨by omega,?_⟩;refine gO aa tI tI ?_;refine⟨m-1,_,((((σ.set b9 (.map (cx (ja ⟨s.toArray⟩ (zI p.length) w)))).set j (fJ (p++s++ [0]) (.tok v) b9)).set q (.tok (i+1))).set v (.tok (p++s++ [0]).length)),by omega,aP.mk (l:= [(5,.ptr j 0),(6,fg (d++ [(s,p.length)]) (.tok q)),(12,.ah 9 (l.map sV) V nl),(13,zI l.length),(14,zI (i+1:Nat))]) ?_,?_,i+1,p++s++ [0],d++ [(s,p.length)],.tok v,_,_,_,by omega,by omega,G,by simp[X],by simp;omega,al,.inr ⟨q,by omega,Q,K,J,rfl,rfl⟩,.inr ⟨v,rfl,by simp[AS.set, *],rfl⟩,rfl⟩
    ·simp[dv (show i<4000000000000000000 by omega),fg]
    ·have:=HS (B:=σ) (a:= .tok (p++s++ [0]).length) (b:= .tok (i+1)) (b0:= .tok i) (c:=fJ (p++s++ [0]) (.tok v) b9) (d:= .map (cx (ja ⟨s.toArray⟩ (zI p.length) w))) (c0:=fJ p o b9) (d0:= .map (cx w)) (e:= .cells 9 [sV s]) t4 t2 t3 K J I D s1 s2;simpa[X]using this
 ·have hI:((i:Int)<l.length)=False:=by simp;omega
  have S:l.drop i= []:=List.drop_eq_nil_of_le (by omega);rw[S]at G;simp only[qh]at G;rw[←G]at hn⊢;simp only at hn⊢;repeat (first
   |refine g1 ?_
   |((first|refine g2 ?_ |((with_reducible apply aj.id);first|apply aj.aL (AK j b9 p o _ _ F (by omega) hn)));simp-implicitDefEqProofs [hI])
   |(refine g3 ?_;try simp-implicitDefEqProofs))
  refine⟨ui (by simp) ?_ (by simp),AS.le_trans ?_ hle⟩
  ·rcases hC with⟨h0,rfl,_⟩|⟨q,am,_,_,_,rfl,_⟩
   ·have h1:d= []:=List.length_eq_zero_iff.1 (by omega);have h2:l= []:=List.length_eq_zero_iff.1 (by omega);subst h1 h2;simp
   ·have h2:decide (l= [])=false:=by
     have:l≠ []:=by rintro rfl;simp at hi;omega
     simp[this]
    rw[h2];simp[fg]
  ·rcases hC with⟨_,_,rfl⟩|⟨q,_,ht,K,J,_,rfl⟩
   ·exact aw (by simp[*]) (aw M (lR _))
   ·exact aw (by simp[*]) (aw (by simp[*]) (aw M (lR _)))
theorem Cb (l:List (zY)) (nl:Bool) (j:cA) (hl:l.length≤1000) (o:∀s∈l,s.length≤140737488355328) (hf:l.all bY=false) (σ:AS):
 ad prog 29 [.ah 9 (l.map sV) j nl] σ (aq (.cp [.aC,.aC,zI 18]) σ) No:=by
 have n:=fun σ=>AN l nl j (by omega) o σ;rw[hf]at n;refine ad.ob func29 ?_;exact gE aa tI @n
theorem kR (S:List Nat):cu prog [(6,(.S 0 (.S 1 (.S 2 (.S 4 (.S 5 (.S 6 (.R 3 (.R 7 (.S 8 .D))))))))))] S:=mixed
def Uj (l m:List Int) (n j:cA) (n1 n2:Bool) (σ:AS) (k:Nat) (fr:Fr) (σ':AS):Prop:=
 ∃i:Nat,k=l.length-i∧i≤l.length∧decide (l=m)=decide (l.drop i=m.drop i)∧σ'=σ∧
  fr=gD [(0,.ah 3 (l.map bg) n n1),(1,.ah 3 (m.map bg) j n2),(5,zI i)]
theorem GL (l m:List Int) (H G:cA) (n1 n2:Bool) (hl:l.length≤140737488355328) (hm:m.length≤140737488355328) (σ:AS):
 ad prog 41 [.ah 3 (l.map bg) H n1,.ah 3 (m.map bg) G n2] σ (aq (.sc (.bool (decide (l=m)))) σ) No:=by
 refine ad.ob func41 ?_;by_cases hlen:l.length=m.length
 ·have j:(l.length:Int)=m.length:=by omega
  refine gO kR (j2 @hlen @j) tI ?_;refine aA.cz (Uj l m H G n1 n2 σ) (k0:=l.length) ⟨0,by omega,by omega,rfl,rfl,rfl⟩ (aP.mk (by simp)) (lR _) ?_;rintro k fr σ' ⟨i,M,O,y,rfl,rfl⟩;by_cases o:i<l.length
  ·obtain⟨r,J,F,_,_⟩:=dK l o;obtain⟨q,I,E,_,_⟩:=dK m (i:=i) (by omega);obtain⟨_,w⟩:=List.getElem?_eq_some_iff.1 J;obtain⟨n,v⟩:=List.getElem?_eq_some_iff.1 I;have A:((i:Int)<l.length)=True:=by simp;omega
   have u:((i:Int)<m.length)=True:=by simp;omega
   rw[F,E]at y;by_cases he:r=q
   ·subst he;refine gO kR (j7 A @u o @n @w @v @aG) tI ?_;refine⟨k-1,_,_,by omega,aP.mk ?_,lR _,i+1,by omega,by omega,by rw[y];simp,rfl,rfl⟩;simp[dv (show i<4000000000000000000 by omega)]
   ·refine gO kR (j8 A @u o @n @w @v @aG @he) tI ?_;simp[y,he]
  ·have A:((i:Int)<l.length)=False:=by simp;omega
   have u:((i:Int)<m.length)=False:=by simp;omega
   have L:l.drop i= []:=List.drop_eq_nil_of_le (by omega);have K:m.drop i= []:=List.drop_eq_nil_of_le (by omega);rw[L,K]at y;refine gO kR A tI ?_;simp[y]
 ·have j:¬(l.length:Int)=m.length:=by omega
  have D:¬l=m:=fun e=>hlen (by rw[e]);refine gO kR (j2 @hlen @j) tI ?_;simp[D]
theorem yu:∀(l:List (zY)) (p:zY) (d:List (zY×Nat)),l.all bY=true→(qh l p d).1.length≤p.length+25*l.length:=by
 intro l;induction l with
 |nil=>intro p d _;simp[qh]
 |cons s r j=>
  intro p d h;simp only[List.all_cons,Bool.and_eq_true]at h;have n:s.length≤24:=by have:=h.1;simp[bY]at this;exact this.2.1
  simp only[qh];split
  ·rename_i a _;have:=j p (d++ [(s,a)]) h.2;simp at this⊢;omega
  ·have:=j (p++s++ [0]) (d++ [(s,p.length)]) h.2;simp at this⊢;omega
theorem xi (l:List (zY)) (hl:l.length≤1000) (hf:l.all bY=true):bR l=((qh l [0] []).1,(qh l [0] []).2.map (fun p=>(p.2:Int)),0):=by have:=yu l [0] [] hf;unfold bR;rw[if_neg (by simp[hf]),if_neg (by simp at this⊢;omega)]
theorem Cc (l:List (zY)) (hf:l.all bY=false):bR l=([],[],18):=by unfold bR;rw[if_pos hf]
theorem EZ (l:List (zY)) (nl:Bool) (j:cA) (hl:l.length≤1000) (n:∀s∈l,s.length≤140737488355328) (σ:AS):
 ad prog 29 [.ah 9 (l.map sV) j nl] σ (aq (.cp [.ah 5 ((bR l).1.map u8) .aJ (!l.all bY),.ah 3 ((bR l).2.1.map bg) .aJ (!l.all bY||decide (l= [])),zI ((bR l).2.2)]) σ) No:=by
 cases hf:l.all bY with
 |true=>
  rw[xi l hl hf];have:=yu l [0] [] hf;have h:=HL l nl j hl n hf (by simp at this;omega) σ;have e:(qh l [0] []).2.map (fun p=>(AV.sc (.int .i64 (p.2:Int))))=((qh l [0] []).2.map (fun p=>(p.2:Int))).map bg:=by simp[aG]
  rw[e]at h;simpa using h
 |false=>rw[Cc l hf];exact(Cb l nl j hl n hf σ).told (ui (by simp) (by simp) (by simp))
end Pl
end Go.Proofs.YtknalmoackcpbaaGreat
