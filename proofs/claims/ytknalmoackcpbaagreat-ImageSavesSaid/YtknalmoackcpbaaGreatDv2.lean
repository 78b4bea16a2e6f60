/- The document's saver: types and locals that are put once, names, blobs. -/
import Derived.Test.YtknalmoackcpbaaGreatCode4
set_option maxRecDepth 100000
set_option maxHeartbeats 3200000
set_option linter.all false
open Go Go.AW
namespace Go.Proofs.YtknalmoackcpbaaGreat
namespace Im
open Tryz
abbrev lI:dW:=(.S 0 (.S 1 (.S 2 (.S 4 (.R 3 (.S 5 (.R 6 (.R 7 (.S 8 .D)))))))))
abbrev lH:dW:=(.S 0 (.S 1 (.S 2 (.S 3 (.R 4 (.R 5 (.S 6 (.A 7 (.S 8 (.S 9 (.A 10 .D .Z))) .Z))))))))
theorem sr (S:List Nat):cu prog [(4,lI),(6,lH)] S:=mixed
open Sg (jL gr il dZ aE rz mP bL)
open Pl (sV)
theorem H0 {α:Type}[DecidableEq α] {l:List α}{t:α}{i:Nat}(j:i<l.length) (h:∀x∈l.take i,decide (x=t)=false) (he:l[i]=t):Bo l t=i∧jJ l t=l:=by have hm:t∈l:=he ▸ List.getElem_mem j;obtain⟨q,n,_⟩:=DG hm;have:=gr (g:=fun o=>decide (o=t)) j h (by simp[he]);rw[q]at this;exact⟨by exact_mod_cast this,n⟩
theorem HZ {α:Type}[DecidableEq α] {l:List α}{t:α}(h:∀x∈l.take l.length,decide (x=t)=false):Bo l t=l.length∧jJ l t=l++ [t]:=by
 rw[List.take_length]at h;have hm:¬t∈l:=fun hm=>by simpa using h t hm
 obtain⟨_,n,j⟩:=DF hm;exact⟨j,n⟩
theorem G3 (t:Ty) (l:List Ty) (aF F:Nat) (c1 Z Y X V U:AV) (hl:l.length≤100000) (σ:AS)
 (h:σ aF=some (.cells 88 [.ah 49 (l.map cB) (.tok F) (decide (l= [])),c1,Z,Y,X,V,U])) (E:σ F=some (.tok l.length)):
 ad prog 149 [.ptr aF 0,cB t] σ (aq (zI (kU l t))
  ((σ.set aF (.cells 88 [.ah 49 ((jJ l t).map cB) (.tok F) (decide (jJ l t= [])),c1,Z,Y,X,V,U])).set F (.tok (jJ l t).length))) No:=by
 have n:¬aF=F:=nq h E;have o:=ba n;refine ad.ob func149 ?_;simp only[aE];refine gO sr tI tI ?_;intro D w;have j:¬aF=D:=nq h w;have u:=ba j;have q:¬F=D:=nq E w;have v:=ba q;refine gO sr tI tI ?_;refine aA.aY (α:=(Nat)) (0) (fun i=>l.length-i) (fun i=>i≤l.length∧ ∀x∈l.take i,decide (x=t)=false) [(0,?_),(3,?_)] (fun i=> [(5,zI i)]) (fun i=>σ.set D (.cells 49 [zI t.kind,zI t.index,zI t.cT,.sc (.bool t.ref)])) ?_ ?_ ?_ ?_;rotate_left 2
 ·exact gF tI
 ·(try dsimp only);exact lR _
 ·(try dsimp only)<;>first|exact trivial|exact⟨by omega,rfl⟩|omega|(simp;done)|exact⟨by omega,by simp⟩|exact⟨by omega,by simp,rfl⟩
 intro i J;try dsimp only at J⊢
 obtain⟨hi,S⟩:=J;simp only[fm];by_cases y:i<l.length
 ·have A:zW ((i:Int)+1)=((i+1:Nat):Int):=bh (by omega);have K:=rz l[i] t;by_cases he:l[i]=t
  ·obtain⟨P,O⟩:=H0 y S he;rw[show decide (l[i]=t)=true by simp[he]]at K;simp only[kU,P,O];rw[AS.eR h,AS.eR E];refine Od (sr []) @K (j6 y @aE @ae @h j @A) tI (k:= ?_);exact AS.ao (lR _) w
  ·rw[show decide (l[i]=t)=false by simp[he]]at K;repeat (first
    |refine g1 ?_
    |((first|refine g2 ?_ |((with_reducible apply dX 4 lI);refine dY mixed ?_)|((with_reducible apply dX 6 lH);refine dY mixed ?_));simp-implicitDefEqProofs [y,aE,↓K,ae,au,n,o,h,E,u,j,v,q,A])
    |(refine g3 ?_;try simp-implicitDefEqProofs [y,aE,↓K,ae,au,n,o,h,E,u,j,v,q,A]))
   refine aH.mk (i+1) (by(try dsimp only);omega) (gF tI) gT ?_;try dsimp only
   exact⟨y,by simpa using dZ y S (show decide (l[i]=t)=false by simp[he])⟩
 ·obtain rfl:i=l.length:=by omega
  obtain⟨P,O⟩:=HZ S;simp only[kU,P,O];have hw:zW ((l.length:Int)+1)=(l.length:Int)+1:=aI (by omega) (by omega)
  repeat' (first
   |refine g1 ?_
   |((first|refine g2 ?_ |((with_reducible apply dX 4 lI);refine dY mixed ?_)|((with_reducible apply dX 6 lH);refine dY mixed ?_));simp-implicitDefEqProofs [hl,hw,ae,au,n,o,h,E,u,j,v,q])
   |trivial
   |(with_reducible apply j2)
   |((with_reducible first|apply aA.ret|apply aA.skip|apply aA.exit);try simp-implicitDefEqProofs [hl,hw,ae,au,n,o,h,E,u,j,v,q]))
  have M:=(j2 (j7 w n o @aE @ae @au n) (j7 o @h @E u j v q));intro Q y_;refine gK M Q F fun L=>gK M Q aF fun G=>gK M Q D fun H=> ?_;intro I;simp[AS.set,M,L,G,H]at I⊢;try exact I
theorem EB (t:List Ty) (ln:Bool) (hn:ln=true→t= []) (ht:t.length≤1000000) (l:List (List Ty)) (K:∀x∈l,x.length≤1000000) (aF v:Nat) (c0 J I H G F:AV) (hl:l.length≤100000) (σ:AS)
 (h:σ aF=some (.cells 88 [c0,.ah 47 (l.map yy) (.tok v) (decide (l= [])),J,I,H,G,F])) (u:σ v=some (.tok l.length)):
 ad prog 86 [.ptr aF 0,.ah 49 (t.map cB) .aJ ln] σ (aq (zI (if t= []then 0 else kU l t))
  ((σ.set aF (.cells 88 [c0,.ah 47 ((if t= []then l else jJ l t).map yy) (.tok v) (decide ((if t= []then l else jJ l t)= [])),J,I,H,G,F])).set v (.tok (if t= []then l else jJ l t).length))) No:=by
 have j:¬aF=v:=nq h u;have n:=ba j;refine ad.ob func86 ?_;by_cases h0:t= []
 ·subst h0;simp only[if_true];rw[AS.eR h,AS.eR u];exact gE aa tI tI
 ·have M:((t.length:Int)=0)=False:=by simp[h0]
  obtain rfl:ln=false:=by
   cases ln with
   |false=>rfl
   |true=>exact absurd (hn rfl) h0
  simp only[h0,if_false,decide_false];refine gO aa @h0 tI ?_;refine aA.aY (α:=(Nat)) (0) (fun i=>l.length-i) (fun i=>i≤l.length∧ ∀x∈l.take i,decide (x=t)=false) [(0,?_),(1,?_)] (fun i=> [(5,zI i)]) (fun i=>σ) ?_ ?_ ?_ ?_;rotate_left 2
  ·exact gF tI
  ·exact gT
  ·(try dsimp only)<;>first|exact trivial|exact⟨by omega,rfl⟩|omega|(simp;done)|exact⟨by omega,by simp⟩|exact⟨by omega,by simp,rfl⟩
  intro i w;try dsimp only at w⊢
  obtain⟨L,E⟩:=w;simp only[fm];by_cases o:i<l.length
  ·have q:zW ((i:Int)+1)=((i+1:Nat):Int):=bh (by omega);have y:=fun σ=>mP l[i] t .aJ .aJ (decide (l[i]= [])) false (K _ (List.getElem_mem o)) ht σ;by_cases he:l[i]=t
   ·obtain⟨D,A⟩:=H0 o E he;rw[show decide (l[i]=t)=true by simp[he]]at y;simp only[kU,D,A];rw[AS.eR h,AS.eR u];exact gE aa (j5 o @eO @ae @h @q) @y
   ·rw[show decide (l[i]=t)=false by simp[he]]at y;repeat (first
     |refine g1 ?_
     |((first|refine g2 ?_ |((with_reducible apply aj.id);first|apply aj.aL (y _)));simp-implicitDefEqProofs [o,eO,ae,au,j,n,h,u,q])
     |(refine g3 ?_;try simp-implicitDefEqProofs [o,eO,ae,au,j,n,h,u,q]))
    refine aH.mk (i+1) (by(try dsimp only);omega) (gF tI) gT ?_;try dsimp only
    exact⟨o,by simpa using dZ o E (show decide (l[i]=t)=false by simp[he])⟩
  ·obtain rfl:i=l.length:=by omega
   obtain⟨D,A⟩:=HZ E;simp only[kU,D,A];have hw:zW ((l.length:Int)+1)=(l.length:Int)+1:=aI (by omega) (by omega)
   repeat' (first
    |refine g1 ?_
    |((first|refine g2 ?_);simp-implicitDefEqProofs [hl,hw,ae,au,j,n,h,u])
    |trivial
    |(with_reducible apply j2)
    |((with_reducible first|apply aA.ret|apply aA.skip|apply aA.exit);try simp-implicitDefEqProofs [hl,hw,ae,au,j,n,h,u]))
   all_goals
    rw[AS.set_comm j];exact le_eq (by simp[eO,h0])
theorem EA (s:zY) (l:List (zY)) (aF n:Nat) (c0 y w v u q:AV) (hl:l.length≤100000) (σ:AS)
 (h:σ aF=some (.cells 88 [c0,y,.ah 9 (l.map sV) (.tok n) (decide (l= [])),w,v,u,q])) (o:σ n=some (.tok l.length)):
 ad prog 81 [.ptr aF 0,sV s] σ (aq (zI l.length)
  ((σ.set aF (.cells 88 [c0,y,.ah 9 ((l++ [s]).map sV) (.tok n) false,w,v,u,q])).set n (.tok (l.length+1)))) No:=by
 have j:¬aF=n:=nq h o;have hw:=oX l.length (by omega);simp only[sV];refine ad.ob func81 ?_;refine gO aa (j3 j @h @o) tI ?_;refine⟨du (by rw[aI (by omega) (by omega)]),le_eq ?_⟩;rw[AS.set_comm j];simp[sV]
theorem EH (s:zY) (l:List (zY)) (aF n:Nat) (c0 y w v u q:AV) (hl:l.length≤100000) (σ:AS)
 (h:σ aF=some (.cells 88 [c0,y,w,.ah 30 (l.map bL) (.tok n) (decide (l= [])),v,u,q])) (o:σ n=some (.tok l.length)):
 ad prog 83 [.ptr aF 0,bL s] σ (aq (zI l.length)
  ((σ.set aF (.cells 88 [c0,y,w,.ah 30 ((l++ [s]).map bL) (.tok n) false,v,u,q])).set n (.tok (l.length+1)))) No:=by
 have j:¬aF=n:=nq h o;have hw:=oX l.length (by omega);simp only[bL];refine ad.ob func83 ?_;refine gO aa (j3 j @h @o) tI ?_;refine⟨du (by rw[aI (by omega) (by omega)]),le_eq ?_⟩;rw[AS.set_comm j];simp[bL]
open Sg (aE bL)
structure SK where
 aF:Nat
 bj:Nat
 tS:Nat
 tL:Nat
 tN:Nat
 tB:Nat
 tC:Nat
structure SD where
 sp:List Ty
 lo:List (List Ty)
 nm:List (zY)
 bl:List (zY)
 co:zY
abbrev SR:=List (Nat×List (Nat×List Int))
def zp (x:Nat×List (Nat×List Int)):AV:= .ah 44 (x.2.map F7) (.tok x.1) (decide (x.2= []))
def uz (k:SK) (g:bZ) (d:SD) (en:Int):List AV:= [.ah 46 (g.ts.map jD) .aJ g.tn,.ah 56 (g.fs.map lu) .aJ g.fn,.ah 53 (g.ms.map fM) .aJ g.mn,zI g.entry,
 .ah 49 (d.sp.map cB) (.tok k.tS) (decide (d.sp= [])),.sc (.func (.func 25) #[] #[]),.ah 47 (d.lo.map yy) (.tok k.tL) (decide (d.lo= [])),.sc (.func (.func 26) #[] #[]),
 .ah 9 (d.nm.map sV) (.tok k.tN) (decide (d.nm= [])),.ah 30 (d.bl.map bL) (.tok k.tB) (decide (d.bl= [])),.ah 5 (d.co.map u8) (.tok k.tC) (decide (d.co= [])),zI en,.dg k.bj 0 6 6]
theorem eh (k:SK) (g:bZ) (d:SD) (en:Int):uz k g d en= [.ah 46 (g.ts.map jD) .aJ g.tn,.ah 56 (g.fs.map lu) .aJ g.fn,.ah 53 (g.ms.map fM) .aJ g.mn,zI g.entry,
 .ah 49 (d.sp.map cB) (.tok k.tS) (decide (d.sp= [])),.sc (.func (.func 25) #[] #[]),.ah 47 (d.lo.map yy) (.tok k.tL) (decide (d.lo= [])),.sc (.func (.func 26) #[] #[]),
 .ah 9 (d.nm.map sV) (.tok k.tN) (decide (d.nm= [])),.ah 30 (d.bl.map bL) (.tok k.tB) (decide (d.bl= [])),.ah 5 (d.co.map u8) (.tok k.tC) (decide (d.co= [])),zI en,.dg k.bj 0 6 6]:=rfl
def keys (k:SK) (T:SR):List Nat:=k.aF::k.bj::k.tS::k.tL::k.tN::k.tB::k.tC::(T.map (·.1)++T.flatMap fun x=>x.2.map (·.1))
structure SI (k:SK) (g:bZ) (d:SD) (T:SR) (B τ:AS):Prop where
 aF:τ k.aF=some (.cells 74 (uz k g d 0))
 bj:τ k.bj=some (.cells 94 (T.map zp))
 tS:τ k.tS=some (.tok d.sp.length)
 tL:τ k.tL=some (.tok d.lo.length)
 tN:τ k.tN=some (.tok d.nm.length)
 tB:τ k.tB=some (.tok d.bl.length)
 tC:τ k.tC=some (.tok d.co.length)
 vX:∀x∈T,τ x.1=some (.tok x.2.length)
 row:∀x∈T,∀p∈x.2,τ p.1=some (MF p)
 le:AS.le B τ
 qj:T.length=6
 nd:(keys k T).Nodup
 fr:∀j∈keys k T,B j=none
variable {k:SK} {g:bZ} {d:SD} {T:SR} {B τ:AS}
theorem SI.ne (h:SI k g d T B τ):k.aF≠k.bj∧k.aF≠k.tS∧k.aF≠k.tL∧k.aF≠k.tN∧k.aF≠k.tB∧k.aF≠k.tC∧k.bj≠k.tS∧k.bj≠k.tL∧k.bj≠k.tN∧k.bj≠k.tB∧k.bj≠k.tC∧k.tS≠k.tL∧k.tS≠k.tN∧k.tS≠k.tB∧k.tS≠k.tC∧k.tL≠k.tN∧k.tL≠k.tB∧k.tL≠k.tC∧k.tN≠k.tB∧k.tN≠k.tC∧k.tB≠k.tC:=by have:=h.nd;simp only[keys,List.nodup_cons,List.mem_cons,not_or]at this;obtain⟨⟨J,I,H,G,F,E,_⟩,⟨D,A,y,w,v,_⟩,⟨u,q,o,n,_⟩,⟨d4,d5,d6,_⟩,⟨l,j,_⟩,⟨f6,_⟩,_⟩:=this;exact⟨J,I,H,G,F,E,D,A,y,w,v,u,q,o,n,d4,d5,d6,l,j,f6⟩
theorem SI.out (h:SI k g d T B τ) {j:Nat}(l:j∈T.map (·.1)++T.flatMap fun x=>x.2.map (·.1)):j≠k.aF∧j≠k.bj∧j≠k.tS∧j≠k.tL∧j≠k.tN∧j≠k.tB∧j≠k.tC:=by have:=h.nd;simp only[keys,List.nodup_cons,List.mem_cons,not_or]at this;obtain⟨⟨_,_,_,_,_,_,y⟩,⟨_,_,_,_,_,w⟩,⟨_,_,_,_,v⟩,⟨_,_,_,u⟩,⟨_,_,q⟩,⟨_,o⟩,n,_⟩:=this;exact⟨fun e=>y (e ▸ l),fun e=>w (e ▸ l),fun e=>v (e ▸ l),fun e=>u (e ▸ l),fun e=>q (e ▸ l),fun e=>o (e ▸ l),fun e=>n (e ▸ l)⟩
theorem SI.zr (h:SI k g d T B τ) {x:Nat×List (Nat×List Int)}(j:x∈T):x.1≠k.aF∧x.1≠k.bj∧x.1≠k.tS∧x.1≠k.tL∧x.1≠k.tN∧x.1≠k.tB∧x.1≠k.tC:=h.out (List.mem_append_left _ (List.mem_map.2 ⟨x,j,rfl⟩))
theorem SI.qn (h:SI k g d T B τ) {x:Nat×List (Nat×List Int)}(j:x∈T) {p:Nat×List Int}(l:p∈x.2):p.1≠k.aF∧p.1≠k.bj∧p.1≠k.tS∧p.1≠k.tL∧p.1≠k.tN∧p.1≠k.tB∧p.1≠k.tC:=h.out (List.mem_append_right _ (List.mem_flatMap.2 ⟨x,j,List.mem_map.2 ⟨p,l,rfl⟩⟩))
theorem SI.I9 (h:SI k g d T B τ):B k.aF=none∧B k.bj=none∧B k.tS=none∧B k.tL=none∧B k.tN=none∧B k.tB=none∧B k.tC=none:=⟨h.fr _ (by simp[keys]),h.fr _ (by simp[keys]),h.fr _ (by simp[keys]),h.fr _ (by simp[keys]),h.fr _ (by simp[keys]),h.fr _ (by simp[keys]),h.fr _ (by simp[keys])⟩
theorem SI.mk' (h:SI k g d T B τ) {A:SD}{l:AS}(hs:l k.aF=some (.cells 74 (uz k g A 0))) (hS:l k.tS=some (.tok A.sp.length)) (hL:l k.tL=some (.tok A.lo.length)) (hN:l k.tN=some (.tok A.nm.length))
 (hB:l k.tB=some (.tok A.bl.length)) (hC:l k.tC=some (.tok A.co.length)) (X:∀j,j≠k.aF→j≠k.tS→j≠k.tL→j≠k.tN→j≠k.tB→j≠k.tC→l j=τ j):SI k g A T B l:=by
 obtain⟨n,D,F,E,H,G,q,v,u,y,w,K,J,M,L,Q,U,S,P,O,V⟩:=h.ne;refine⟨hs,?_,hS,hL,hN,hB,hC,fun x I=> ?_,fun x I p hp=> ?_,fun j b o=> ?_,h.qj,h.nd,h.fr⟩
 ·rw[X _ n.symm q v u y w];exact h.bj
 ·obtain⟨x0,x1,x2,x3,x4,Z,Y⟩:=h.zr I;rw[X _ x0 x2 x3 x4 Z Y];exact h.vX x I
 ·obtain⟨x0,x1,x2,x3,x4,Z,Y⟩:=h.qn I hp;rw[X _ x0 x2 x3 x4 Z Y];exact h.row x I p hp
 ·obtain⟨f0,f1,f2,f3,f4,f5,f6⟩:=h.I9;rw[X j (by rintro rfl;rw[f0]at o;cases o) (by rintro rfl;rw[f2]at o;cases o) (by rintro rfl;rw[f3]at o;cases o) (by rintro rfl;rw[f4]at o;cases o) (by rintro rfl;rw[f5]at o;cases o) (by rintro rfl;rw[f6]at o;cases o)];exact h.le j b o
theorem SI.own (h:SI k g d T B τ) {i:Nat}{b:cL}(l:τ i=none):SI k g d T (B.set i b) (τ.set i b):=by
 have w:∀j∈keys k T,j≠i:=by
  rintro j q rfl;simp only[keys,List.mem_cons,List.mem_append,List.mem_map,List.mem_flatMap]at q;rcases q with rfl|rfl|rfl|rfl|rfl|rfl|rfl|⟨x,o,rfl⟩|⟨x,o,p,u,rfl⟩
  ·rw[h.aF]at l;cases l
  ·rw[h.bj]at l;cases l
  ·rw[h.tS]at l;cases l
  ·rw[h.tL]at l;cases l
  ·rw[h.tN]at l;cases l
  ·rw[h.tB]at l;cases l
  ·rw[h.tC]at l;cases l
  ·rw[h.vX x o]at l;cases l
  ·rw[h.row x o p u]at l;cases l
 have n:∀j∈keys k T,∀σ:AS,(σ.set i b) j=σ j:=fun j q σ=>AS.ag _ _ (w j q);have v:∀ {j:Nat},j∈T.map (·.1)++T.flatMap (fun x=>x.2.map (·.1))→j∈keys k T:=fun q=>by simp only[keys,List.mem_cons];simp only[q,or_true]
 refine⟨(n _ (by simp[keys]) _).trans h.aF,(n _ (by simp[keys]) _).trans h.bj,(n _ (by simp[keys]) _).trans h.tS,(n _ (by simp[keys]) _).trans h.tL,(n _ (by simp[keys]) _).trans h.tN,(n _ (by simp[keys]) _).trans h.tB,(n _ (by simp[keys]) _).trans h.tC,fun x o=>(n _ (v (List.mem_append_left _ (List.mem_map.2 ⟨x,o,rfl⟩))) _).trans (h.vX x o),fun x o p u=>(n _ (v (List.mem_append_right _ (List.mem_flatMap.2 ⟨x,o,List.mem_map.2 ⟨p,u,rfl⟩⟩))) _).trans (h.row x o p u),
  iM h.le,h.qj,h.nd,fun j q=>(n j q _).trans (h.fr j q)⟩
theorem SI.drop (h:SI k g d T B τ) {B':AS}(hle:AS.le B' B):SI k g d T B' τ:=by
 refine⟨h.aF,h.bj,h.tS,h.tL,h.tN,h.tB,h.tC,h.vX,h.row,AS.le_trans hle h.le,h.qj,h.nd,fun j n=> ?_⟩;cases l:B' j with
 |none=>rfl
 |some y=>have:=hle j y l;rw[h.fr j n]at this;cases this
theorem SI.BH (h:SI k g d T B τ) (x:List (Ty)):SI k g { d with sp:=x } T B ((τ.set k.aF (.cells 74 (uz k g { d with sp:=x } 0))).set k.tS (.tok x.length)):=by
 obtain⟨E,l,o,n,u,q,F,H,G,J,I,w,v,A,y,O,Q,P,M,L,S⟩:=h.ne;refine h.mk' ?_ ?_ ?_ ?_ ?_ ?_ fun j D K V U Y X=> ?_
 ·rw[AS.ag _ _ l,AS.aD]
 ·rw[AS.aD]
 ·rw[AS.ag _ _ w.symm,AS.ag _ _ o.symm];exact h.tL
 ·rw[AS.ag _ _ v.symm,AS.ag _ _ n.symm];exact h.tN
 ·rw[AS.ag _ _ A.symm,AS.ag _ _ u.symm];exact h.tB
 ·rw[AS.ag _ _ y.symm,AS.ag _ _ q.symm];exact h.tC
 ·rw[AS.ag _ _ K,AS.ag _ _ D]
theorem SI.BJ (h:SI k g d T B τ) (x:List (List Ty)):SI k g { d with lo:=x } T B ((τ.set k.aF (.cells 74 (uz k g { d with lo:=x } 0))).set k.tL (.tok x.length)):=by
 obtain⟨E,l,o,n,u,q,F,H,G,J,I,v,L,O,M,w,A,y,Q,P,S⟩:=h.ne;refine h.mk' ?_ ?_ ?_ ?_ ?_ ?_ fun j D U K V Y X=> ?_
 ·rw[AS.ag _ _ o,AS.aD]
 ·rw[AS.ag _ _ v,AS.ag _ _ l.symm];exact h.tS
 ·rw[AS.aD]
 ·rw[AS.ag _ _ w.symm,AS.ag _ _ n.symm];exact h.tN
 ·rw[AS.ag _ _ A.symm,AS.ag _ _ u.symm];exact h.tB
 ·rw[AS.ag _ _ y.symm,AS.ag _ _ q.symm];exact h.tC
 ·rw[AS.ag _ _ K,AS.ag _ _ D]
theorem SI.BI (h:SI k g d T B τ) (x:List (zY)):SI k g { d with nm:=x } T B ((τ.set k.aF (.cells 74 (uz k g { d with nm:=x } 0))).set k.tN (.tok x.length)):=by
 obtain⟨E,l,o,n,u,q,F,H,G,J,I,L,v,O,M,A,Q,P,y,w,S⟩:=h.ne;refine h.mk' ?_ ?_ ?_ ?_ ?_ ?_ fun j D U V K Y X=> ?_
 ·rw[AS.ag _ _ n,AS.aD]
 ·rw[AS.ag _ _ v,AS.ag _ _ l.symm];exact h.tS
 ·rw[AS.ag _ _ A,AS.ag _ _ o.symm];exact h.tL
 ·rw[AS.aD]
 ·rw[AS.ag _ _ y.symm,AS.ag _ _ u.symm];exact h.tB
 ·rw[AS.ag _ _ w.symm,AS.ag _ _ q.symm];exact h.tC
 ·rw[AS.ag _ _ K,AS.ag _ _ D]
theorem SI.BM (h:SI k g d T B τ) (x:List (zY)):SI k g { d with bl:=x } T B ((τ.set k.aF (.cells 74 (uz k g { d with bl:=x } 0))).set k.tB (.tok x.length)):=by
 obtain⟨E,l,o,n,u,q,F,H,G,J,I,M,L,v,O,Q,y,S,w,P,A⟩:=h.ne;refine h.mk' ?_ ?_ ?_ ?_ ?_ ?_ fun j D U X V K Y=> ?_
 ·rw[AS.ag _ _ u,AS.aD]
 ·rw[AS.ag _ _ v,AS.ag _ _ l.symm];exact h.tS
 ·rw[AS.ag _ _ y,AS.ag _ _ o.symm];exact h.tL
 ·rw[AS.ag _ _ w,AS.ag _ _ n.symm];exact h.tN
 ·rw[AS.aD]
 ·rw[AS.ag _ _ A.symm,AS.ag _ _ q.symm];exact h.tC
 ·rw[AS.ag _ _ K,AS.ag _ _ D]
theorem SI.pS (h:SI k g d T B τ) (x:List (UInt8)):SI k g { d with co:=x } T B ((τ.set k.aF (.cells 74 (uz k g { d with co:=x } 0))).set k.tC (.tok x.length)):=by
 obtain⟨E,l,o,n,u,q,F,H,G,J,I,M,L,O,v,Q,S,y,P,w,A⟩:=h.ne;refine h.mk' ?_ ?_ ?_ ?_ ?_ ?_ fun j D U X V Y K=> ?_
 ·rw[AS.ag _ _ q,AS.aD]
 ·rw[AS.ag _ _ v,AS.ag _ _ l.symm];exact h.tS
 ·rw[AS.ag _ _ y,AS.ag _ _ o.symm];exact h.tL
 ·rw[AS.ag _ _ w,AS.ag _ _ n.symm];exact h.tN
 ·rw[AS.ag _ _ A,AS.ag _ _ u.symm];exact h.tB
 ·rw[AS.aD]
 ·rw[AS.ag _ _ K,AS.ag _ _ D]
theorem SI.name (h:SI k g d T B τ) (s:zY) (hl:d.nm.length≤100000):
 ad prog 60 [.ptr k.aF 0,sV s] τ (fun r j=>r=zI d.nm.length∧SI k g { d with nm:=d.nm++ [s] } T B j) No:=
 (GJ s d.nm k.aF k.tN _ _ _ _ _ _ _ _ _ _ _ _ hl τ h.aF h.tN).mono (fun r j l=>by obtain⟨rfl,rfl⟩:=l;have:=h.BI (d.nm++ [s]);simp only[eh,List.length_append,List.length_singleton]at this;rw[show decide (d.nm++ [s]= [])=false by simp]at this;exact⟨rfl,this⟩) (fun _ _ h=>h)
theorem SI.yU (h:SI k g d T B τ) (s:zY) (e:Int) (hl:d.bl.length≤100000):
 ad prog 61 [.ptr k.aF 0,bL s,zI e] τ (fun r j=>r=zI d.bl.length∧SI k g { d with bl:=d.bl++ [s] } T B j) No:=
 (GQ s e d.bl k.aF k.tB _ _ _ _ _ _ _ _ _ _ _ _ hl τ h.aF h.tB).mono (fun r j l=>by obtain⟨rfl,rfl⟩:=l;have:=h.BM (d.bl++ [s]);simp only[eh,List.length_append,List.length_singleton]at this;rw[show decide (d.bl++ [s]= [])=false by simp]at this;exact⟨rfl,this⟩) (fun _ _ h=>h)
theorem SI.put (h:SI k g d T B τ) (t:Ty) (hl:d.sp.length≤100000):
 ad prog 189 [.ptr k.aF 4,cB t] τ (fun r j=>r=zI (kU d.sp t)∧SI k g { d with sp:=jJ d.sp t } T B j) No:=
 (mS t d.sp k.aF k.tS _ _ _ _ _ _ _ _ _ _ _ hl τ h.aF h.tS).mono (fun r j l=>by obtain⟨rfl,rfl⟩:=l;exact⟨rfl,h.BH (jJ d.sp t)⟩) (fun _ _ h=>h)
theorem SI.RO (h:SI k g d T B τ) (t:List Ty) (ht:t.length≤1000000) (n:∀x∈d.lo,x.length≤1000000) (hl:d.lo.length≤100000):
 ad prog 138 [.ptr k.aF 6,yy t] τ (fun r j=>r=zI (kU d.lo t)∧SI k g { d with lo:=jJ d.lo t } T B j) No:=
 (Kg t ht d.lo n k.aF k.tL _ _ _ _ _ _ _ _ _ _ _ hl τ h.aF h.tL).mono (fun r j l=>by obtain⟨rfl,rfl⟩:=l;exact⟨rfl,h.BJ (jJ d.lo t)⟩) (fun _ _ h=>h)
open Tryz
open Sg (aE bL)
open Pl (sV)
abbrev DW:=Nat×List Int×List AV
abbrev DR:=List (Nat×List DW)
def ud (p:DW):AV:= .dg p.1 0 p.2.1.length (p.2.1.length+p.2.2.length)
theorem eQ (p:DW):ud p= .dg p.1 0 p.2.1.length (p.2.1.length+p.2.2.length):=rfl
def mJ (p:DW):cL:= .cells 3 (p.2.1.map bg++p.2.2)
def pB (x:Nat×List DW):AV:= .ah 44 (x.2.map ud) (.tok x.1) (decide (x.2= []))
theorem gu (x:Nat×List DW):pB x= .ah 44 (x.2.map ud) (.tok x.1) (decide (x.2= [])):=rfl
def wF (k:SK) (en:Int) (d:SD):List AV:= [.ah 49 (d.sp.map cB) (.tok k.tS) (decide (d.sp= [])),.ah 47 (d.lo.map yy) (.tok k.tL) (decide (d.lo= [])),
 .ah 9 (d.nm.map sV) (.tok k.tN) (decide (d.nm= [])),.ah 30 (d.bl.map bL) (.tok k.tB) (decide (d.bl= [])),.ah 5 (d.co.map u8) (.tok k.tC) (decide (d.co= [])),zI en,.dg k.bj 0 6 6]
theorem dG (k:SK) (en:Int) (d:SD):wF k en d= [.ah 49 (d.sp.map cB) (.tok k.tS) (decide (d.sp= [])),.ah 47 (d.lo.map yy) (.tok k.tL) (decide (d.lo= [])),
 .ah 9 (d.nm.map sV) (.tok k.tN) (decide (d.nm= [])),.ah 30 (d.bl.map bL) (.tok k.tB) (decide (d.bl= [])),.ah 5 (d.co.map u8) (.tok k.tC) (decide (d.co= [])),zI en,.dg k.bj 0 6 6]:=rfl
def cm (k:SK) (T:DR):List Nat:=k.aF::k.bj::k.tS::k.tL::k.tN::k.tB::k.tC::(T.map (·.1)++T.flatMap fun x=>x.2.map (·.1))
structure DI (k:SK) (en:Int) (d:SD) (T:DR) (B τ:AS):Prop where
 aF:τ k.aF=some (.cells 88 (wF k en d))
 bj:τ k.bj=some (.cells 94 (T.map pB))
 tS:τ k.tS=some (.tok d.sp.length)
 tL:τ k.tL=some (.tok d.lo.length)
 tN:τ k.tN=some (.tok d.nm.length)
 tB:τ k.tB=some (.tok d.bl.length)
 tC:τ k.tC=some (.tok d.co.length)
 vX:∀x∈T,τ x.1=some (.tok x.2.length)
 row:∀x∈T,∀p∈x.2,τ p.1=some (mJ p)
 le:AS.le B τ
 qj:T.length=6
 nd:(cm k T).Nodup
 fr:∀j∈cm k T,B j=none
variable {k:SK} {en:Int} {d:SD} {T:DR} {B τ:AS}
theorem DI.ne (h:DI k en d T B τ):k.aF≠k.bj∧k.aF≠k.tS∧k.aF≠k.tL∧k.aF≠k.tN∧k.aF≠k.tB∧k.aF≠k.tC∧k.bj≠k.tS∧k.bj≠k.tL∧k.bj≠k.tN∧k.bj≠k.tB∧k.bj≠k.tC∧k.tS≠k.tL∧k.tS≠k.tN∧k.tS≠k.tB∧k.tS≠k.tC∧k.tL≠k.tN∧k.tL≠k.tB∧k.tL≠k.tC∧k.tN≠k.tB∧k.tN≠k.tC∧k.tB≠k.tC:=by have:=h.nd;simp only[cm,List.nodup_cons,List.mem_cons,not_or]at this;obtain⟨⟨J,I,H,G,F,E,_⟩,⟨D,A,y,w,v,_⟩,⟨u,q,o,n,_⟩,⟨d4,d5,d6,_⟩,⟨l,j,_⟩,⟨f6,_⟩,_⟩:=this;exact⟨J,I,H,G,F,E,D,A,y,w,v,u,q,o,n,d4,d5,d6,l,j,f6⟩
theorem DI.out (h:DI k en d T B τ) {j:Nat}(l:j∈T.map (·.1)++T.flatMap fun x=>x.2.map (·.1)):j≠k.aF∧j≠k.bj∧j≠k.tS∧j≠k.tL∧j≠k.tN∧j≠k.tB∧j≠k.tC:=by have:=h.nd;simp only[cm,List.nodup_cons,List.mem_cons,not_or]at this;obtain⟨⟨_,_,_,_,_,_,y⟩,⟨_,_,_,_,_,w⟩,⟨_,_,_,_,v⟩,⟨_,_,_,u⟩,⟨_,_,q⟩,⟨_,o⟩,n,_⟩:=this;exact⟨fun e=>y (e ▸ l),fun e=>w (e ▸ l),fun e=>v (e ▸ l),fun e=>u (e ▸ l),fun e=>q (e ▸ l),fun e=>o (e ▸ l),fun e=>n (e ▸ l)⟩
theorem DI.zr (h:DI k en d T B τ) {x:Nat×List DW}(j:x∈T):x.1≠k.aF∧x.1≠k.bj∧x.1≠k.tS∧x.1≠k.tL∧x.1≠k.tN∧x.1≠k.tB∧x.1≠k.tC:=h.out (List.mem_append_left _ (List.mem_map.2 ⟨x,j,rfl⟩))
theorem DI.qn (h:DI k en d T B τ) {x:Nat×List DW}(j:x∈T) {p:DW}(l:p∈x.2):p.1≠k.aF∧p.1≠k.bj∧p.1≠k.tS∧p.1≠k.tL∧p.1≠k.tN∧p.1≠k.tB∧p.1≠k.tC:=h.out (List.mem_append_right _ (List.mem_flatMap.2 ⟨x,j,List.mem_map.2 ⟨p,l,rfl⟩⟩))
theorem DI.I9 (h:DI k en d T B τ):B k.aF=none∧B k.bj=none∧B k.tS=none∧B k.tL=none∧B k.tN=none∧B k.tB=none∧B k.tC=none:=⟨h.fr _ (by simp[cm]),h.fr _ (by simp[cm]),h.fr _ (by simp[cm]),h.fr _ (by simp[cm]),h.fr _ (by simp[cm]),h.fr _ (by simp[cm]),h.fr _ (by simp[cm])⟩
theorem DI.mk' (h:DI k en d T B τ) {A:SD}{l:AS}(hs:l k.aF=some (.cells 88 (wF k en A))) (hS:l k.tS=some (.tok A.sp.length)) (hL:l k.tL=some (.tok A.lo.length)) (hN:l k.tN=some (.tok A.nm.length))
 (hB:l k.tB=some (.tok A.bl.length)) (hC:l k.tC=some (.tok A.co.length)) (X:∀j,j≠k.aF→j≠k.tS→j≠k.tL→j≠k.tN→j≠k.tB→j≠k.tC→l j=τ j):DI k en A T B l:=by
 obtain⟨n,D,F,E,H,G,q,v,u,y,w,K,J,M,L,Q,U,S,P,O,V⟩:=h.ne;refine⟨hs,?_,hS,hL,hN,hB,hC,fun x I=> ?_,fun x I p hp=> ?_,fun j b o=> ?_,h.qj,h.nd,h.fr⟩
 ·rw[X _ n.symm q v u y w];exact h.bj
 ·obtain⟨x0,x1,x2,x3,x4,Z,Y⟩:=h.zr I;rw[X _ x0 x2 x3 x4 Z Y];exact h.vX x I
 ·obtain⟨x0,x1,x2,x3,x4,Z,Y⟩:=h.qn I hp;rw[X _ x0 x2 x3 x4 Z Y];exact h.row x I p hp
 ·obtain⟨f0,f1,f2,f3,f4,f5,f6⟩:=h.I9;rw[X j (by rintro rfl;rw[f0]at o;cases o) (by rintro rfl;rw[f2]at o;cases o) (by rintro rfl;rw[f3]at o;cases o) (by rintro rfl;rw[f4]at o;cases o) (by rintro rfl;rw[f5]at o;cases o) (by rintro rfl;rw[f6]at o;cases o)];exact h.le j b o
theorem DI.own (h:DI k en d T B τ) {i:Nat}{b:cL}(l:τ i=none):DI k en d T (B.set i b) (τ.set i b):=by
 have w:∀j∈cm k T,j≠i:=by
  rintro j q rfl;simp only[cm,List.mem_cons,List.mem_append,List.mem_map,List.mem_flatMap]at q;rcases q with rfl|rfl|rfl|rfl|rfl|rfl|rfl|⟨x,o,rfl⟩|⟨x,o,p,u,rfl⟩
  ·rw[h.aF]at l;cases l
  ·rw[h.bj]at l;cases l
  ·rw[h.tS]at l;cases l
  ·rw[h.tL]at l;cases l
  ·rw[h.tN]at l;cases l
  ·rw[h.tB]at l;cases l
  ·rw[h.tC]at l;cases l
  ·rw[h.vX x o]at l;cases l
  ·rw[h.row x o p u]at l;cases l
 have n:∀j∈cm k T,∀σ:AS,(σ.set i b) j=σ j:=fun j q σ=>AS.ag _ _ (w j q);have v:∀ {j:Nat},j∈T.map (·.1)++T.flatMap (fun x=>x.2.map (·.1))→j∈cm k T:=fun q=>by simp only[cm,List.mem_cons];simp only[q,or_true]
 refine⟨(n _ (by simp[cm]) _).trans h.aF,(n _ (by simp[cm]) _).trans h.bj,(n _ (by simp[cm]) _).trans h.tS,(n _ (by simp[cm]) _).trans h.tL,(n _ (by simp[cm]) _).trans h.tN,(n _ (by simp[cm]) _).trans h.tB,(n _ (by simp[cm]) _).trans h.tC,fun x o=>(n _ (v (List.mem_append_left _ (List.mem_map.2 ⟨x,o,rfl⟩))) _).trans (h.vX x o),fun x o p u=>(n _ (v (List.mem_append_right _ (List.mem_flatMap.2 ⟨x,o,List.mem_map.2 ⟨p,u,rfl⟩⟩))) _).trans (h.row x o p u),
  iM h.le,h.qj,h.nd,fun j q=>(n j q _).trans (h.fr j q)⟩
theorem DI.drop (h:DI k en d T B τ) {B':AS}(hle:AS.le B' B):DI k en d T B' τ:=by
 refine⟨h.aF,h.bj,h.tS,h.tL,h.tN,h.tB,h.tC,h.vX,h.row,AS.le_trans hle h.le,h.qj,h.nd,fun j n=> ?_⟩;cases l:B' j with
 |none=>rfl
 |some y=>have:=hle j y l;rw[h.fr j n]at this;cases this
theorem DI.BH (h:DI k en d T B τ) (x:List (Ty)):DI k en { d with sp:=x } T B ((τ.set k.aF (.cells 88 (wF k en { d with sp:=x }))).set k.tS (.tok x.length)):=by
 obtain⟨E,l,o,n,u,q,F,H,G,J,I,w,v,A,y,O,Q,P,M,L,S⟩:=h.ne;refine h.mk' ?_ ?_ ?_ ?_ ?_ ?_ fun j D K V U Y X=> ?_
 ·rw[AS.ag _ _ l,AS.aD]
 ·rw[AS.aD]
 ·rw[AS.ag _ _ w.symm,AS.ag _ _ o.symm];exact h.tL
 ·rw[AS.ag _ _ v.symm,AS.ag _ _ n.symm];exact h.tN
 ·rw[AS.ag _ _ A.symm,AS.ag _ _ u.symm];exact h.tB
 ·rw[AS.ag _ _ y.symm,AS.ag _ _ q.symm];exact h.tC
 ·rw[AS.ag _ _ K,AS.ag _ _ D]
theorem DI.BJ (h:DI k en d T B τ) (x:List (List Ty)):DI k en { d with lo:=x } T B ((τ.set k.aF (.cells 88 (wF k en { d with lo:=x }))).set k.tL (.tok x.length)):=by
 obtain⟨E,l,o,n,u,q,F,H,G,J,I,v,L,O,M,w,A,y,Q,P,S⟩:=h.ne;refine h.mk' ?_ ?_ ?_ ?_ ?_ ?_ fun j D U K V Y X=> ?_
 ·rw[AS.ag _ _ o,AS.aD]
 ·rw[AS.ag _ _ v,AS.ag _ _ l.symm];exact h.tS
 ·rw[AS.aD]
 ·rw[AS.ag _ _ w.symm,AS.ag _ _ n.symm];exact h.tN
 ·rw[AS.ag _ _ A.symm,AS.ag _ _ u.symm];exact h.tB
 ·rw[AS.ag _ _ y.symm,AS.ag _ _ q.symm];exact h.tC
 ·rw[AS.ag _ _ K,AS.ag _ _ D]
theorem DI.BI (h:DI k en d T B τ) (x:List (zY)):DI k en { d with nm:=x } T B ((τ.set k.aF (.cells 88 (wF k en { d with nm:=x }))).set k.tN (.tok x.length)):=by
 obtain⟨E,l,o,n,u,q,F,H,G,J,I,L,v,O,M,A,Q,P,y,w,S⟩:=h.ne;refine h.mk' ?_ ?_ ?_ ?_ ?_ ?_ fun j D U V K Y X=> ?_
 ·rw[AS.ag _ _ n,AS.aD]
 ·rw[AS.ag _ _ v,AS.ag _ _ l.symm];exact h.tS
 ·rw[AS.ag _ _ A,AS.ag _ _ o.symm];exact h.tL
 ·rw[AS.aD]
 ·rw[AS.ag _ _ y.symm,AS.ag _ _ u.symm];exact h.tB
 ·rw[AS.ag _ _ w.symm,AS.ag _ _ q.symm];exact h.tC
 ·rw[AS.ag _ _ K,AS.ag _ _ D]
theorem DI.BM (h:DI k en d T B τ) (x:List (zY)):DI k en { d with bl:=x } T B ((τ.set k.aF (.cells 88 (wF k en { d with bl:=x }))).set k.tB (.tok x.length)):=by
 obtain⟨E,l,o,n,u,q,F,H,G,J,I,M,L,v,O,Q,y,S,w,P,A⟩:=h.ne;refine h.mk' ?_ ?_ ?_ ?_ ?_ ?_ fun j D U X V K Y=> ?_
 ·rw[AS.ag _ _ u,AS.aD]
 ·rw[AS.ag _ _ v,AS.ag _ _ l.symm];exact h.tS
 ·rw[AS.ag _ _ y,AS.ag _ _ o.symm];exact h.tL
 ·rw[AS.ag _ _ w,AS.ag _ _ n.symm];exact h.tN
 ·rw[AS.aD]
 ·rw[AS.ag _ _ A.symm,AS.ag _ _ q.symm];exact h.tC
 ·rw[AS.ag _ _ K,AS.ag _ _ D]
theorem DI.pS (h:DI k en d T B τ) (x:List (UInt8)):DI k en { d with co:=x } T B ((τ.set k.aF (.cells 88 (wF k en { d with co:=x }))).set k.tC (.tok x.length)):=by
 obtain⟨E,l,o,n,u,q,F,H,G,J,I,M,L,O,v,Q,S,y,P,w,A⟩:=h.ne;refine h.mk' ?_ ?_ ?_ ?_ ?_ ?_ fun j D U X V Y K=> ?_
 ·rw[AS.ag _ _ q,AS.aD]
 ·rw[AS.ag _ _ v,AS.ag _ _ l.symm];exact h.tS
 ·rw[AS.ag _ _ y,AS.ag _ _ o.symm];exact h.tL
 ·rw[AS.ag _ _ w,AS.ag _ _ n.symm];exact h.tN
 ·rw[AS.ag _ _ A,AS.ag _ _ u.symm];exact h.tB
 ·rw[AS.aD]
 ·rw[AS.ag _ _ K,AS.ag _ _ D]
theorem DI.name (h:DI k en d T B τ) (s:zY) (hl:d.nm.length≤100000):
 ad prog 81 [.ptr k.aF 0,sV s] τ (fun r j=>r=zI d.nm.length∧DI k en { d with nm:=d.nm++ [s] } T B j) No:=
 (EA s d.nm k.aF k.tN _ _ _ _ _ _ hl τ h.aF h.tN).mono (fun r j l=>by obtain⟨rfl,rfl⟩:=l;have:=h.BI (d.nm++ [s]);simp only[dG,List.length_append,List.length_singleton]at this;rw[show decide (d.nm++ [s]= [])=false by simp]at this;exact⟨rfl,this⟩) (fun _ _ h=>h)
theorem DI.yU (h:DI k en d T B τ) (s:zY) (hl:d.bl.length≤100000):
 ad prog 83 [.ptr k.aF 0,bL s] τ (fun r j=>r=zI d.bl.length∧DI k en { d with bl:=d.bl++ [s] } T B j) No:=
 (EH s d.bl k.aF k.tB _ _ _ _ _ _ hl τ h.aF h.tB).mono (fun r j l=>by obtain⟨rfl,rfl⟩:=l;have:=h.BM (d.bl++ [s]);simp only[dG,List.length_append,List.length_singleton]at this;rw[show decide (d.bl++ [s]= [])=false by simp]at this;exact⟨rfl,this⟩) (fun _ _ h=>h)
theorem DI.spec (h:DI k en d T B τ) (t:Ty) (hl:d.sp.length≤100000):
 ad prog 149 [.ptr k.aF 0,cB t] τ (fun r j=>r=zI (kU d.sp t)∧DI k en { d with sp:=jJ d.sp t } T B j) No:=
 (G3 t d.sp k.aF k.tS _ _ _ _ _ _ hl τ h.aF h.tS).mono (fun r j l=>by obtain⟨rfl,rfl⟩:=l;exact⟨rfl,h.BH (jJ d.sp t)⟩) (fun _ _ h=>h)
theorem DI.RP (h:DI k en d T B τ) (t:List Ty) (ln:Bool) (hn:ln=true→t= []) (ht:t.length≤1000000) (n:∀x∈d.lo,x.length≤1000000) (hl:d.lo.length≤100000):
 ad prog 86 [.ptr k.aF 0,.ah 49 (t.map cB) .aJ ln] τ (fun r j=>r=zI (if t= []then 0 else kU d.lo t)∧DI k en { d with lo:=if t= []then d.lo else jJ d.lo t } T B j) No:=
 (EB t ln hn ht d.lo n k.aF k.tL _ _ _ _ _ _ hl τ h.aF h.tL).mono (fun r j l=>by obtain⟨rfl,rfl⟩:=l;exact⟨rfl,h.BJ _⟩) (fun _ _ h=>h)
open Tryz
open Sg (aE bL)
open Pl (sV)
def lT (T:SR) (t:Nat) (p:Nat×List Int):SR:=T.modify t fun x=>(x.1,x.2++ [p])
def cH (T:SR):List (List (List Int)):=T.map fun x=>x.2.map (·.2)
theorem kf (T:SR) (t:Nat) (p:Nat×List Int):cH (lT T t p)=(cH T).modify t (· ++ [p.2]):=by
 unfold cH lT;induction T generalizing t with
 |nil=>cases t<;>rfl
 |cons x r j=>
  cases t with
  |zero=>simp
  |succ t=>simpa using j t
theorem IU (T:SR) (t:Nat) (p:Nat×List Int):(lT T t p).map (·.1)=T.map (·.1):=by
 unfold lT;induction T generalizing t with
 |nil=>cases t<;>rfl
 |cons x r j=>
  cases t with
  |zero=>simp
  |succ t=>simpa using j t
theorem IT (T:SR) {t:Nat}(p:Nat×List Int) (ht:t<T.length):((lT T t p).flatMap fun x=>x.2.map (·.1)).Perm (p.1::T.flatMap fun x=>x.2.map (·.1)):=by
 unfold lT;induction T generalizing t with
 |nil=>simp at ht
 |cons x r j=>
  cases t with
  |zero=>simp
  |succ t=>have:=j (t:=t) (by simpa using ht);simp only[List.modify_succ_cons,List.flatMap_cons];exact(List.Perm.append_left _ this).trans List.perm_middle
theorem Bc {T:SR}{t:Nat}{p:Nat×List Int}{x:Nat×List (Nat×List Int)}(n:x∈lT T t p):(∃j,j≠t∧T[j]? =some x)∨ ∃y,T[t]? =some y∧x=(y.1,y.2++ [p]):=by
 obtain⟨j,l,rfl⟩:=List.getElem_of_mem n;simp only[lT,List.length_modify]at l;simp only[lT,List.getElem_modify];split
 ·rename_i e;subst e;exact .inr ⟨T[t],by simp[l],rfl⟩
 ·rename_i e;exact .inl ⟨j,fun o=>e o.symm,by simp[l]⟩
theorem K9 {T:SR}{t:Nat}{p:Nat×List Int}{x:Nat×List (Nat×List Int)}(ht:T[t]? =some x):(lT T t p).map zp=(T.map zp).set t (zp (x.1,x.2++ [p])):=by
 obtain⟨h1,l⟩:=List.getElem?_eq_some_iff.1 ht;apply List.ext_getElem
 ·simp[lT]
 ·intro j a b;simp only[lT,List.getElem_map,List.getElem_modify,List.getElem_set];split
  ·rename_i e;subst e;rw[l]
  ·rfl
variable {k:SK} {g:bZ} {d:SD} {T:SR} {B τ:AS}
theorem SI.HF (h:SI k g d T B τ) {i:Nat}(j:τ i=none):¬i∈keys k T:=by
 intro n;simp only[keys,List.mem_cons,List.mem_append,List.mem_map,List.mem_flatMap]at n;rcases n with rfl|rfl|rfl|rfl|rfl|rfl|rfl|⟨x,l,rfl⟩|⟨x,l,p,o,rfl⟩
 ·rw[h.aF]at j;cases j
 ·rw[h.bj]at j;cases j
 ·rw[h.tS]at j;cases j
 ·rw[h.tL]at j;cases j
 ·rw[h.tN]at j;cases j
 ·rw[h.tB]at j;cases j
 ·rw[h.tC]at j;cases j
 ·rw[h.vX x l]at j;cases j
 ·rw[h.row x l p o]at j;cases j
theorem SI.dE (h:SI k g d T B τ):(T.map (·.1)++T.flatMap fun x=>x.2.map (·.1)).Nodup:=by have:=h.nd;simp only[keys,List.nodup_cons]at this;exact this.2.2.2.2.2.2.2
theorem SI.iW (h:SI k g d T B τ) {t i:Nat}{vals:List Int}(ht:t<6) (hi:τ i=none) (hb:∀x∈T,x.2.length≤100000):
 ad prog 59 [.ptr k.aF 0,zI t,.dg i 0 vals.length vals.length] (τ.set i (.cells 3 (vals.map bg))) (fun r Y=>r= .cp []∧SI k g d (lT T t (i,vals)) B Y) No:=by
 have Z:B i=none:=by
  cases L:B i with
  |none=>rfl
  |some y=>have:=h.le i y L;rw[hi]at this;cases this
 have H:=h.own (b:= .cells 3 (vals.map bg)) hi;have O:=h.HF hi;obtain⟨u,Q,U,S,X,V,w,E,D,G,F,_⟩:=h.ne;have L:T[t]? =some (T[t]'(by rw[h.qj];exact ht)):=List.getElem?_eq_getElem _;have n:T[t]'(by rw[h.qj];exact ht)∈T:=List.getElem_mem _;generalize T[t]'(by rw[h.qj];exact ht)=x at L n;obtain⟨x0,x1,x2,x3,x4,x5,x6⟩:=h.zr n;have hR:(T.map zp)[t]? =some (.ah 44 (x.2.map F7) (.tok x.1) (decide (x.2= []))):=by rw[List.getElem?_map,L];rfl
 have ac:i≠k.bj:=fun e=>O (by simp[keys,e]);have ab:i≠x.1:=fun e=>O (by simp only[keys,List.mem_cons,List.mem_append,List.mem_map];exact .inr (.inr (.inr (.inr (.inr (.inr (.inr (.inl ⟨x,n,e.symm⟩))))))));refine(Jr t i vals.length (x.2.map F7) (T.map zp) k.aF k.bj x.1 _ _ _ _ _ _ _ _ _ _ _ _ _ (by simpa using hb x n) (by simpa using h.qj) _ H.aF H.bj hR (by simpa using H.vX x n)).mono (fun r Y hr=> ?_) (fun _ _ h=>h);obtain⟨rfl,rfl⟩:=hr;refine⟨rfl,?_⟩;have J:∀j,j≠k.bj→j≠x.1→(((τ.set i (.cells 3 (vals.map bg))).set k.bj (.cells 94 ((T.map zp).set t (.ah 44 (x.2.map F7++ [.dg i 0 vals.length vals.length]) (.tok x.1) false)))).set x.1 (.tok ((x.2.map F7).length+1))) j=(τ.set i (.cells 3 (vals.map bg))) j:=
  fun j h1 K=>by rw[AS.ag _ _ K,AS.ag _ _ h1]
 have M:=List.nodup_append.1 h.dE;have I:(keys k (lT T t (i,vals))).Perm (i::keys k T):=by
  have h1:(T.map (·.1)++(lT T t (i,vals)).flatMap fun x=>x.2.map (·.1)).Perm (i::(T.map (·.1)++T.flatMap fun x=>x.2.map (·.1))):=
   (List.Perm.append_left _ (IT T (i,vals) (by rw[h.qj];exact ht))).trans List.perm_middle
  unfold keys;rw[IU];have K:∀ {A C:List Nat} (y:Nat),A.Perm (i::C)→(y::A).Perm (i::y::C):=fun y q=>(q.cons y).trans (List.Perm.swap _ _ _);exact K _ (K _ (K _ (K _ (K _ (K _ (K _ h1))))))
 refine⟨?_,?_,?_,?_,?_,?_,?_,fun y hy=> ?_,fun y hy p q=> ?_,fun j b v=> ?_,by simpa[lT]using h.qj,I.nodup_iff.2 (List.nodup_cons.2 ⟨O,h.nd⟩),fun j v=> ?_⟩
 ·rw[J _ u x0.symm];exact H.aF
 ·rw[AS.ag _ _ x1.symm,AS.aD,K9 L];simp[zp,F7]
 ·rw[J _ w.symm x2.symm];exact H.tS
 ·rw[J _ E.symm x3.symm];exact H.tL
 ·rw[J _ D.symm x4.symm];exact H.tN
 ·rw[J _ G.symm x5.symm];exact H.tB
 ·rw[J _ F.symm x6.symm];exact H.tC
 ·rcases Bc hy with⟨j,v,l⟩|⟨y',l,rfl⟩
  ·have o:y∈T:=List.mem_of_getElem? l;have ai:y.1≠x.1:=by
    intro e;obtain⟨a1,a2⟩:=List.getElem?_eq_some_iff.1 l;obtain⟨b1,b2⟩:=List.getElem?_eq_some_iff.1 L;have q:=List.pairwise_iff_getElem.1 M.1;rcases Nat.lt_or_gt_of_ne v with P|P
    ·exact q j t (by simpa using a1) (by simpa using b1) P (by simp[a2,b2,e])
    ·exact q t j (by simpa using b1) (by simpa using a1) P (by simp[a2,b2,e])
   rw[J _ (h.zr o).2.1 ai];exact H.vX y o
  ·rw[L]at l;cases l;rw[AS.aD];simp
 ·have old:∀y∈T,∀p∈y.2,p.1≠k.bj∧p.1≠x.1:=fun y o p q=>⟨(h.qn o q).2.1,fun e=>M.2.2 x.1 (List.mem_map.2 ⟨x,n,rfl⟩) p.1 (List.mem_flatMap.2 ⟨y,o,List.mem_map.2 ⟨p,q,rfl⟩⟩) e.symm⟩;rcases Bc hy with⟨j,v,l⟩|⟨y',l,rfl⟩
  ·have o:y∈T:=List.mem_of_getElem? l;rw[J _ (old y o p q).1 (old y o p q).2];exact H.row y o p q
  ·rw[L]at l;cases l;rcases List.mem_append.1 q with q|q
   ·rw[J _ (old x n p q).1 (old x n p q).2];exact H.row x n p q
   ·simp at q;subst q;rw[J _ ac ab,AS.aD];rfl
 ·have f1:=(h.I9).2.1;have f2:=h.fr x.1 (by simp only[keys,List.mem_cons,List.mem_append,List.mem_map];exact .inr (.inr (.inr (.inr (.inr (.inr (.inr (.inl ⟨x,n,rfl⟩))))))));rw[J _ (by rintro rfl;rw[f1]at v;cases v) (by rintro rfl;rw[f2]at v;cases v),AS.ag _ _ (by rintro rfl;rw[Z]at v;cases v)];exact h.le j b v
 ·rcases List.mem_cons.1 (I.mem_iff.1 v)with rfl|v
  ·exact Z
  ·exact h.fr j v
end Im
end Go.Proofs.YtknalmoackcpbaaGreat
