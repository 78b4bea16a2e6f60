/- Chapter 10: what the program's saver holds. -/
import Derived.Test.YtknalmoackcpbaaGreatSv8
set_option maxRecDepth 100000
set_option maxHeartbeats 3200000
set_option linter.all false
open Go Go.AW Go.Proofs.Tryz List
namespace Go.Proofs.YtknalmoackcpbaaGreat
namespace Im
open Sg (aC bL)
open Pl (sV)
structure SK where
 aO:Nat
 bp:Nat
 tS:Nat
 tL:Nat
 tN:Nat
 tB:Nat
 tC:Nat
structure SD where
 sp:List Ty
 lo:List (List Ty)
 nm:List (zY)
 bl:List (zY)
 co:zY
abbrev SR:=List (Nat×List (Nat×List Int))
def BE (x:Nat×List (Nat×List Int)):AV:= .ao 44 (x.2.map Is) (.tok x.1) (decide (x.2= []))
def vY (k:SK) (g:bY) (d:SD) (en:Int):List AV:= [.ao 46 (g.ts.map nA) .aI g.tn,.ao 56 (g.fs.map pR) .aI g.fn,.ao 53 (g.ms.map kH) .aI g.mn,zI g.entry,
 .ao 49 (d.sp.map cF) (.tok k.tS) (decide (d.sp= [])),.sc (.func (.func 25) #[] #[]),.ao 47 (d.lo.map Eh) (.tok k.tL) (decide (d.lo= [])),.sc (.func (.func 26) #[] #[]),
 .ao 9 (d.nm.map sV) (.tok k.tN) (decide (d.nm= [])),.ao 30 (d.bl.map bL) (.tok k.tB) (decide (d.bl= [])),.ao 5 (d.co.map u8) (.tok k.tC) (decide (d.co= [])),zI en,.fH k.bp 0 6 6]
def ee (k:SK) (g:bY) (d:SD) (en:Int):vY k g d en= [.ao 46 (g.ts.map nA) .aI g.tn,.ao 56 (g.fs.map pR) .aI g.fn,.ao 53 (g.ms.map kH) .aI g.mn,zI g.entry,
 .ao 49 (d.sp.map cF) (.tok k.tS) (decide (d.sp= [])),.sc (.func (.func 25) #[] #[]),.ao 47 (d.lo.map Eh) (.tok k.tL) (decide (d.lo= [])),.sc (.func (.func 26) #[] #[]),
 .ao 9 (d.nm.map sV) (.tok k.tN) (decide (d.nm= [])),.ao 30 (d.bl.map bL) (.tok k.tB) (decide (d.bl= [])),.ao 5 (d.co.map u8) (.tok k.tC) (decide (d.co= [])),zI en,.fH k.bp 0 6 6]:=rfl
def keys (k:SK) (T:SR):List Nat:=k.aO::k.bp::k.tS::k.tL::k.tN::k.tB::k.tC::(T.map (·.1)++T.flatMap fun x=>x.2.map (·.1))
structure SI (k:SK) (g:bY) (d:SD) (T:SR) (B τ:AS):Prop where
 aO:τ k.aO=some (.cells 74 (vY k g d 0))
 bp:τ k.bp=some (.cells 94 (T.map BE))
 tS:τ k.tS=some (.tok d.sp.length)
 tL:τ k.tL=some (.tok d.lo.length)
 tN:τ k.tN=some (.tok d.nm.length)
 tB:τ k.tB=some (.tok d.bl.length)
 tC:τ k.tC=some (.tok d.co.length)
 IS:∀x∈T,τ x.1=some (.tok x.2.length)
 row:∀x∈T,∀p∈x.2,τ p.1=some (Pw p)
 le:AS.le B τ
 Fu:T.length=6
 nd:(keys k T).Nodup
 fr:∀j∈keys k T,B j=none
variable {k:SK} {g:bY} {d:SD} {T:SR} {B τ:AS}
def SI.ne (h:SI k g d T B τ):k.aO≠k.bp∧k.aO≠k.tS∧k.aO≠k.tL∧k.aO≠k.tN∧k.aO≠k.tB∧k.aO≠k.tC∧k.bp≠k.tS∧k.bp≠k.tL∧k.bp≠k.tN∧k.bp≠k.tB∧k.bp≠k.tC∧k.tS≠k.tL∧k.tS≠k.tN∧k.tS≠k.tB∧k.tS≠k.tC∧k.tL≠k.tN∧k.tL≠k.tB∧k.tL≠k.tC∧k.tN≠k.tB∧k.tN≠k.tC∧k.tB≠k.tC:=by have:=h.nd;simp only[keys,nodup_cons,mem_cons,not_or]at this;obtain⟨⟨L,K,I,H,G,F,_⟩,⟨E,y,w,v,u,_⟩,⟨q,o,n,l,_⟩,⟨d4,d5,d6,_⟩,⟨j,i,_⟩,⟨f6,_⟩,_⟩:=this;exact⟨L,K,I,H,G,F,E,y,w,v,u,q,o,n,l,d4,d5,d6,j,i,f6⟩
def SI.out (h:SI k g d T B τ) {j:Nat}(i:j∈T.map (·.1)++T.flatMap fun x=>x.2.map (·.1)):j≠k.aO∧j≠k.bp∧j≠k.tS∧j≠k.tL∧j≠k.tN∧j≠k.tB∧j≠k.tC:=by have:=h.nd;simp only[keys,nodup_cons,mem_cons,not_or]at this;obtain⟨⟨_,_,_,_,_,_,w⟩,⟨_,_,_,_,_,v⟩,⟨_,_,_,_,u⟩,⟨_,_,_,q⟩,⟨_,_,o⟩,⟨_,n⟩,l,_⟩:=this;exact⟨fun e=>w (e ▸ i),fun e=>v (e ▸ i),fun e=>u (e ▸ i),fun e=>q (e ▸ i),fun e=>o (e ▸ i),fun e=>n (e ▸ i),fun e=>l (e ▸ i)⟩
def SI.Pb (h:SI k g d T B τ) {x:Nat×List (Nat×List Int)}(i:x∈T):x.1≠k.aO∧x.1≠k.bp∧x.1≠k.tS∧x.1≠k.tL∧x.1≠k.tN∧x.1≠k.tB∧x.1≠k.tC:=h.out (mem_append_left _ (mem_map.2 ⟨x,i,rfl⟩))
def SI.DV (h:SI k g d T B τ) {x:Nat×List (Nat×List Int)}(i:x∈T) {p:Nat×List Int}(j:p∈x.2):p.1≠k.aO∧p.1≠k.bp∧p.1≠k.tS∧p.1≠k.tL∧p.1≠k.tN∧p.1≠k.tB∧p.1≠k.tC:=h.out (mem_append_right _ (mem_flatMap.2 ⟨x,i,mem_map.2 ⟨p,j,rfl⟩⟩))
def SI.OO (h:SI k g d T B τ):B k.aO=none∧B k.bp=none∧B k.tS=none∧B k.tL=none∧B k.tN=none∧B k.tB=none∧B k.tC=none:=⟨h.fr _ (by simp[keys]),h.fr _ (by simp[keys]),h.fr _ (by simp[keys]),h.fr _ (by simp[keys]),h.fr _ (by simp[keys]),h.fr _ (by simp[keys]),h.fr _ (by simp[keys])⟩
def SI.mk' (h:SI k g d T B τ) {y:SD}{w:AS}(hs:w k.aO=some (.cells 74 (vY k g y 0))) (hS:w k.tS=some (.tok y.sp.length)) (hL:w k.tL=some (.tok y.lo.length)) (hN:w k.tN=some (.tok y.nm.length))
 (hB:w k.tB=some (.tok y.bl.length)) (hC:w k.tC=some (.tok y.co.length)) (ho:∀j,j≠k.aO→j≠k.tS→j≠k.tL→j≠k.tN→j≠k.tB→j≠k.tC→w j=τ j):SI k g y T B w:=by
 obtain⟨i,E,G,F,I,H,n,q,o,v,u,M,L,P,O,X,ab,Y,V,Q,ac⟩:=h.ne;refine⟨hs,?_,hS,hL,hN,hB,hC,fun x K=> ?_,fun x K p hp=> ?_,fun j b l=> ?_,h.Fu,h.nd,h.fr⟩
 ·rw[ho _ i.symm n q o v u];exact h.bp
 ·obtain⟨x0,x1,x2,x3,x4,x5,x6⟩:=h.Pb K;rw[ho _ x0 x2 x3 x4 x5 x6];exact h.IS x K
 ·obtain⟨x0,x1,x2,x3,x4,x5,x6⟩:=h.DV K hp;rw[ho _ x0 x2 x3 x4 x5 x6];exact h.row x K p hp
 ·obtain⟨f0,f1,f2,f3,f4,f5,f6⟩:=h.OO;rw[ho j (by rintro rfl;rw[f0]at l;cases l) (by rintro rfl;rw[f2]at l;cases l) (by rintro rfl;rw[f3]at l;cases l) (by rintro rfl;rw[f4]at l;cases l) (by rintro rfl;rw[f5]at l;cases l) (by rintro rfl;rw[f6]at l;cases l)];exact h.le j b l
def SI.own (h:SI k g d T B τ) {i:Nat}{b:bP}(l:τ i=none):SI k g d T (B.set i b) (τ.set i b):=by
 have w:∀j∈keys k T,j≠i:=by
  rintro j q rfl;simp only[keys,mem_cons,mem_append,mem_map,mem_flatMap]at q;rcases q with rfl|rfl|rfl|rfl|rfl|rfl|rfl|⟨x,o,rfl⟩|⟨x,o,p,u,rfl⟩
  ·rw[h.aO]at l;cases l
  ·rw[h.bp]at l;cases l
  ·rw[h.tS]at l;cases l
  ·rw[h.tL]at l;cases l
  ·rw[h.tN]at l;cases l
  ·rw[h.tB]at l;cases l
  ·rw[h.tC]at l;cases l
  ·rw[h.IS x o]at l;cases l
  ·rw[h.row x o p u]at l;cases l
 have n:∀j∈keys k T,∀σ:AS,(σ.set i b) j=σ j:=fun j q σ=>AS.ae _ _ (w j q);have v:∀ {j:Nat},j∈T.map (·.1)++T.flatMap (fun x=>x.2.map (·.1))→j∈keys k T:=fun q=>by simp only[keys,mem_cons];simp only[q,or_true]
 refine⟨(n _ (by simp[keys]) _).trans h.aO,(n _ (by simp[keys]) _).trans h.bp,(n _ (by simp[keys]) _).trans h.tS,(n _ (by simp[keys]) _).trans h.tL,(n _ (by simp[keys]) _).trans h.tN,(n _ (by simp[keys]) _).trans h.tB,(n _ (by simp[keys]) _).trans h.tC,fun x o=>(n _ (v (mem_append_left _ (mem_map.2 ⟨x,o,rfl⟩))) _).trans (h.IS x o),fun x o p u=>(n _ (v (mem_append_right _ (mem_flatMap.2 ⟨x,o,mem_map.2 ⟨p,u,rfl⟩⟩))) _).trans (h.row x o p u),
  kh h.le,h.Fu,h.nd,fun j q=>(n j q _).trans (h.fr j q)⟩
def SI.drop (h:SI k g d T B τ) {B':AS}(hle:AS.le B' B):SI k g d T B' τ:=by
 refine⟨h.aO,h.bp,h.tS,h.tL,h.tN,h.tB,h.tC,h.IS,h.row,AS.le_trans hle h.le,h.Fu,h.nd,fun j l=> ?_⟩;cases i:B' j with
 |none=>rfl
 |some y=>have:=hle j y i;rw[h.fr j l]at this;cases this
def SI.Pm (h:SI k g d T B τ) (x:List (Ty)):SI k g { d with sp:=x } T B ((τ.set k.aO (.cells 74 (vY k g { d with sp:=x } 0))).set k.tS (.tok x.length)):=by
 obtain⟨F,i,n,l,q,o,G,I,H,L,K,v,u,y,w,Q,X,V,P,O,Y⟩:=h.ne;refine h.mk' ?_ ?_ ?_ ?_ ?_ ?_ fun j E M ac ab al af=> ?_
 ·rw[AS.ae _ _ i,AS.ak]
 ·rw[AS.ak]
 ·rw[AS.ae _ _ v.symm,AS.ae _ _ n.symm];exact h.tL
 ·rw[AS.ae _ _ u.symm,AS.ae _ _ l.symm];exact h.tN
 ·rw[AS.ae _ _ y.symm,AS.ae _ _ q.symm];exact h.tB
 ·rw[AS.ae _ _ w.symm,AS.ae _ _ o.symm];exact h.tC
 ·rw[AS.ae _ _ M,AS.ae _ _ E]
def SI.Pp (h:SI k g d T B τ) (x:List (List Ty)):SI k g { d with lo:=x } T B ((τ.set k.aO (.cells 74 (vY k g { d with lo:=x } 0))).set k.tL (.tok x.length)):=by
 obtain⟨F,i,n,l,q,o,G,I,H,L,K,u,O,Q,P,v,y,w,X,V,Y⟩:=h.ne;refine h.mk' ?_ ?_ ?_ ?_ ?_ ?_ fun j E ab M ac al af=> ?_
 ·rw[AS.ae _ _ n,AS.ak]
 ·rw[AS.ae _ _ u,AS.ae _ _ i.symm];exact h.tS
 ·rw[AS.ak]
 ·rw[AS.ae _ _ v.symm,AS.ae _ _ l.symm];exact h.tN
 ·rw[AS.ae _ _ y.symm,AS.ae _ _ q.symm];exact h.tB
 ·rw[AS.ae _ _ w.symm,AS.ae _ _ o.symm];exact h.tC
 ·rw[AS.ae _ _ M,AS.ae _ _ E]
def SI.Po (h:SI k g d T B τ) (x:List (zY)):SI k g { d with nm:=x } T B ((τ.set k.aO (.cells 74 (vY k g { d with nm:=x } 0))).set k.tN (.tok x.length)):=by
 obtain⟨F,i,n,l,q,o,G,I,H,L,K,O,u,Q,P,y,X,V,w,v,Y⟩:=h.ne;refine h.mk' ?_ ?_ ?_ ?_ ?_ ?_ fun j E ab ac M al af=> ?_
 ·rw[AS.ae _ _ l,AS.ak]
 ·rw[AS.ae _ _ u,AS.ae _ _ i.symm];exact h.tS
 ·rw[AS.ae _ _ y,AS.ae _ _ n.symm];exact h.tL
 ·rw[AS.ak]
 ·rw[AS.ae _ _ w.symm,AS.ae _ _ q.symm];exact h.tB
 ·rw[AS.ae _ _ v.symm,AS.ae _ _ o.symm];exact h.tC
 ·rw[AS.ae _ _ M,AS.ae _ _ E]
def SI.Pr (h:SI k g d T B τ) (x:List (zY)):SI k g { d with bl:=x } T B ((τ.set k.aO (.cells 74 (vY k g { d with bl:=x } 0))).set k.tB (.tok x.length)):=by
 obtain⟨F,i,n,l,q,o,G,I,H,L,K,P,O,u,Q,X,w,Y,v,V,y⟩:=h.ne;refine h.mk' ?_ ?_ ?_ ?_ ?_ ?_ fun j E ab af ac M al=> ?_
 ·rw[AS.ae _ _ q,AS.ak]
 ·rw[AS.ae _ _ u,AS.ae _ _ i.symm];exact h.tS
 ·rw[AS.ae _ _ w,AS.ae _ _ n.symm];exact h.tL
 ·rw[AS.ae _ _ v,AS.ae _ _ l.symm];exact h.tN
 ·rw[AS.ak]
 ·rw[AS.ae _ _ y.symm,AS.ae _ _ o.symm];exact h.tC
 ·rw[AS.ae _ _ M,AS.ae _ _ E]
def SI.DQ (h:SI k g d T B τ) (x:List (UInt8)):SI k g { d with co:=x } T B ((τ.set k.aO (.cells 74 (vY k g { d with co:=x } 0))).set k.tC (.tok x.length)):=by
 obtain⟨F,i,n,l,q,o,G,I,H,L,K,P,O,Q,u,X,Y,w,V,v,y⟩:=h.ne;refine h.mk' ?_ ?_ ?_ ?_ ?_ ?_ fun j E ab af ac al M=> ?_
 ·rw[AS.ae _ _ o,AS.ak]
 ·rw[AS.ae _ _ u,AS.ae _ _ i.symm];exact h.tS
 ·rw[AS.ae _ _ w,AS.ae _ _ n.symm];exact h.tL
 ·rw[AS.ae _ _ v,AS.ae _ _ l.symm];exact h.tN
 ·rw[AS.ae _ _ y,AS.ae _ _ q.symm];exact h.tB
 ·rw[AS.ak]
 ·rw[AS.ae _ _ M,AS.ae _ _ E]
def SI.name (h:SI k g d T B τ) (s:zY) (hl:d.nm.length≤100000):
 ad prog 60 [.ptr k.aO 0,sV s] τ (fun r i=>r=zI d.nm.length∧SI k g { d with nm:=d.nm++ [s] } T B i) No:=
 (I3 s d.nm k.aO k.tN _ _ _ _ _ _ _ _ _ _ _ _ hl τ h.aO h.tN).mono (fun r i j=>by obtain⟨rfl,rfl⟩:=j;have:=h.Po (d.nm++ [s]);simp only[ee,length_append,length_singleton]at this;rw[show decide (d.nm++ [s]= [])=false by simp]at this;exact⟨rfl,this⟩) (fun _ _ h=>h)
def SI.yx (h:SI k g d T B τ) (s:zY) (e:Int) (hl:d.bl.length≤100000):
 ad prog 61 [.ptr k.aO 0,bL s,zI e] τ (fun r i=>r=zI d.bl.length∧SI k g { d with bl:=d.bl++ [s] } T B i) No:=
 (Jb s e d.bl k.aO k.tB _ _ _ _ _ _ _ _ _ _ _ _ hl τ h.aO h.tB).mono (fun r i j=>by obtain⟨rfl,rfl⟩:=j;have:=h.Pr (d.bl++ [s]);simp only[ee,length_append,length_singleton]at this;rw[show decide (d.bl++ [s]= [])=false by simp]at this;exact⟨rfl,this⟩) (fun _ _ h=>h)
def SI.put (h:SI k g d T B τ) (t:Ty) (hl:d.sp.length≤100000):
 ad prog 189 [.ptr k.aO 4,cF t] τ (fun r i=>r=zI (rr d.sp t)∧SI k g { d with sp:=nB d.sp t } T B i) No:=
 (ot t d.sp k.aO k.tS _ _ _ _ _ _ _ _ _ _ _ hl τ h.aO h.tS).mono (fun r i j=>by obtain⟨rfl,rfl⟩:=j;exact⟨rfl,h.Pm (nB d.sp t)⟩) (fun _ _ h=>h)
def SI.Vx (h:SI k g d T B τ) (t:List Ty) (ht:t.length≤1000000) (l:∀x∈d.lo,x.length≤1000000) (hl:d.lo.length≤100000):
 ad prog 138 [.ptr k.aO 6,Eh t] τ (fun r i=>r=zI (rr d.lo t)∧SI k g { d with lo:=nB d.lo t } T B i) No:=
 (Na t ht d.lo l k.aO k.tL _ _ _ _ _ _ _ _ _ _ _ hl τ h.aO h.tL).mono (fun r i j=>by obtain⟨rfl,rfl⟩:=j;exact⟨rfl,h.Pp (nB d.lo t)⟩) (fun _ _ h=>h)
open Sg (aC bL)
open Pl (sV)
def nw (T:SR) (t:Nat) (p:Nat×List Int):SR:=T.modify t fun x=>(x.1,x.2++ [p])
def cH (T:SR):List (List (List Int)):=T.map fun x=>x.2.map (·.2)
def lv (T:SR) (t:Nat) (p:Nat×List Int):cH (nw T t p)=(cH T).modify t (· ++ [p.2]):=by
 unfold cH nw;induction T generalizing t with
 |nil=>cases t<;>rfl
 |cons x r h=>
  cases t with
  |zero=>simp
  |succ t=>simpa using h t
def Lv (T:SR) (t:Nat) (p:Nat×List Int):(nw T t p).map (·.1)=T.map (·.1):=by
 unfold nw;induction T generalizing t with
 |nil=>cases t<;>rfl
 |cons x r h=>
  cases t with
  |zero=>simp
  |succ t=>simpa using h t
def Lu (T:SR) {t:Nat}(p:Nat×List Int) (ht:t<T.length):((nw T t p).flatMap fun x=>x.2.map (·.1)).Perm (p.1::T.flatMap fun x=>x.2.map (·.1)):=by
 unfold nw;induction T generalizing t with
 |nil=>simp at ht
 |cons x r h=>
  cases t with
  |zero=>simp
  |succ t=>have:=h (t:=t) (by simpa using ht);simp only[modify_succ_cons,flatMap_cons];exact(List.Perm.append_left _ this).trans perm_middle
def Dl {T:SR}{t:Nat}{p:Nat×List Int}{x:Nat×List (Nat×List Int)}(i:x∈nw T t p):(∃j,j≠t∧T[j]? =some x)∨ ∃y,T[t]? =some y∧x=(y.1,y.2++ [p]):=by
 obtain⟨j,h,rfl⟩:=getElem_of_mem i;simp only[nw,length_modify]at h;simp only[nw,getElem_modify];split
 ·rename_i e;subst e;exact .inr ⟨T[t],by simp[h],rfl⟩
 ·rename_i e;exact .inl ⟨j,fun l=>e l.symm,by simp[h]⟩
theorem Oa {T:SR}{t:Nat}{p:Nat×List Int}{x:Nat×List (Nat×List Int)}(ht:T[t]? =some x):(nw T t p).map BE=(T.map BE).set t (BE (x.1,x.2++ [p])):=by
 obtain⟨h1,h2⟩:=List.getElem?_eq_some_iff.1 ht;apply List.ext_getElem
 ·simp[nw]
 ·intro j a b;simp only[nw,List.getElem_map,List.getElem_modify,List.getElem_set];split
  ·rename_i e;subst e;rw[h2]
  ·rfl
variable {k:SK} {g:bY} {d:SD} {T:SR} {B τ:AS}
def SI.SG (h:SI k g d T B τ) {i:Nat}(j:τ i=none):¬i∈keys k T:=by
 intro n;simp only[keys,mem_cons,mem_append,mem_map,mem_flatMap]at n;rcases n with rfl|rfl|rfl|rfl|rfl|rfl|rfl|⟨x,l,rfl⟩|⟨x,l,p,o,rfl⟩
 ·rw[h.aO]at j;cases j
 ·rw[h.bp]at j;cases j
 ·rw[h.tS]at j;cases j
 ·rw[h.tL]at j;cases j
 ·rw[h.tN]at j;cases j
 ·rw[h.tB]at j;cases j
 ·rw[h.tC]at j;cases j
 ·rw[h.IS x l]at j;cases j
 ·rw[h.row x l p o]at j;cases j
def SI.kp (h:SI k g d T B τ):(T.map (·.1)++T.flatMap fun x=>x.2.map (·.1)).Nodup:=by have:=h.nd;simp only[keys,nodup_cons]at this;exact this.2.2.2.2.2.2.2
theorem SI.uk (h:SI k g d T B τ) {t i:Nat}{vals:List Int}(ht:t<6) (hi:τ i=none) (hb:∀x∈T,x.2.length≤100000):
 ad prog 59 [.ptr k.aO 0,zI t,.fH i 0 vals.length vals.length] (τ.set i (.cells 3 (vals.map aS))) (fun r τ'=>r= .bI []∧SI k g d (nw T t (i,vals)) B τ') No:=by
 have af:B i=none:=by
  cases O:B i with
  |none=>rfl
  |some y=>have:=h.le i y O;rw[hi]at this;cases this
 have I:=h.own (b:= .cells 3 (vals.map aS)) hi;have Q:=h.SG hi;obtain⟨u,V,Y,X,ac,ab,w,F,E,H,G,_⟩:=h.ne;have O:T[t]? =some (T[t]'(by rw[h.Fu];exact ht)):=List.getElem?_eq_getElem _;have n:T[t]'(by rw[h.Fu];exact ht)∈T:=List.getElem_mem _;generalize T[t]'(by rw[h.Fu];exact ht)=x at O n;obtain⟨x0,x1,x2,x3,x4,x5,x6⟩:=h.Pb n;have hR:(T.map BE)[t]? =some (.ao 44 (x.2.map Is) (.tok x.1) (decide (x.2= []))):=by rw[List.getElem?_map,O];rfl
 have am:i≠k.bp:=fun e=>Q (by simp[keys,e]);have al:i≠x.1:=fun e=>Q (by simp only[keys,List.mem_cons,List.mem_append,List.mem_map];exact .inr (.inr (.inr (.inr (.inr (.inr (.inr (.inl ⟨x,n,e.symm⟩))))))));refine(Mg t i vals.length (x.2.map Is) (T.map BE) k.aO k.bp x.1 _ _ _ _ _ _ _ _ _ _ _ _ _ (by simpa using hb x n) (by simpa using h.Fu) _ I.aO I.bp hR (by simpa using I.IS x n)).mono (fun r τ' hr=> ?_) (fun _ _ h=>h);obtain⟨rfl,rfl⟩:=hr;refine⟨rfl,?_⟩;have L:∀j,j≠k.bp→j≠x.1→(((τ.set i (.cells 3 (vals.map aS))).set k.bp (.cells 94 ((T.map BE).set t (.ao 44 (x.2.map Is++ [.fH i 0 vals.length vals.length]) (.tok x.1) false)))).set x.1 (.tok ((x.2.map Is).length+1))) j=(τ.set i (.cells 3 (vals.map aS))) j:=
  fun j h1 h2=>by rw[AS.ae _ _ h2,AS.ae _ _ h1]
 have P:=List.nodup_append.1 h.kp;have K:(keys k (nw T t (i,vals))).Perm (i::keys k T):=by
  have h1:(T.map (·.1)++(nw T t (i,vals)).flatMap fun x=>x.2.map (·.1)).Perm (i::(T.map (·.1)++T.flatMap fun x=>x.2.map (·.1))):=
   (List.Perm.append_left _ (Lu T (i,vals) (by rw[h.Fu];exact ht))).trans List.perm_middle
  unfold keys;rw[Lv];have h2:∀ {A C:List Nat} (y:Nat),A.Perm (i::C)→(y::A).Perm (i::y::C):=fun y q=>(q.cons y).trans (List.Perm.swap _ _ _);exact h2 _ (h2 _ (h2 _ (h2 _ (h2 _ (h2 _ (h2 _ h1))))))
 refine⟨?_,?_,?_,?_,?_,?_,?_,fun y hy=> ?_,fun y hy p q=> ?_,fun j b v=> ?_,by simpa[nw]using h.Fu,K.nodup_iff.2 (List.nodup_cons.2 ⟨Q,h.nd⟩),fun j v=> ?_⟩
 ·rw[L _ u x0.symm];exact I.aO
 ·rw[AS.ae _ _ x1.symm,AS.ak,Oa O];simp[BE,Is]
 ·rw[L _ w.symm x2.symm];exact I.tS
 ·rw[L _ F.symm x3.symm];exact I.tL
 ·rw[L _ E.symm x4.symm];exact I.tN
 ·rw[L _ H.symm x5.symm];exact I.tB
 ·rw[L _ G.symm x6.symm];exact I.tC
 ·rcases Dl hy with⟨j,v,l⟩|⟨y',l,rfl⟩
  ·have o:y∈T:=List.mem_of_getElem? l;have ar:y.1≠x.1:=by
    intro e;obtain⟨a1,a2⟩:=List.getElem?_eq_some_iff.1 l;obtain⟨b1,b2⟩:=List.getElem?_eq_some_iff.1 O;have q:=List.pairwise_iff_getElem.1 P.1;rcases Nat.lt_or_gt_of_ne v with hlt|hlt
    ·exact q j t (by simpa using a1) (by simpa using b1) hlt (by simp[a2,b2,e])
    ·exact q t j (by simpa using b1) (by simpa using a1) hlt (by simp[a2,b2,e])
   rw[L _ (h.Pb o).2.1 ar];exact I.IS y o
  ·rw[O]at l;cases l;rw[AS.ak];simp
 ·have M:∀y∈T,∀p∈y.2,p.1≠k.bp∧p.1≠x.1:=fun y o p q=>⟨(h.DV o q).2.1,fun e=>P.2.2 x.1 (List.mem_map.2 ⟨x,n,rfl⟩) p.1 (List.mem_flatMap.2 ⟨y,o,List.mem_map.2 ⟨p,q,rfl⟩⟩) e.symm⟩;rcases Dl hy with⟨j,v,l⟩|⟨y',l,rfl⟩
  ·have o:y∈T:=List.mem_of_getElem? l;rw[L _ (M y o p q).1 (M y o p q).2];exact I.row y o p q
  ·rw[O]at l;cases l;rcases List.mem_append.1 q with q|q
   ·rw[L _ (M x n p q).1 (M x n p q).2];exact I.row x n p q
   ·simp at q;subst q;rw[L _ am al,AS.ak];rfl
 ·have f1:=(h.OO).2.1;have f2:=h.fr x.1 (by simp only[keys,List.mem_cons,List.mem_append,List.mem_map];exact .inr (.inr (.inr (.inr (.inr (.inr (.inr (.inl ⟨x,n,rfl⟩))))))));rw[L _ (by rintro rfl;rw[f1]at v;cases v) (by rintro rfl;rw[f2]at v;cases v),AS.ae _ _ (by rintro rfl;rw[af]at v;cases v)];exact h.le j b v
 ·rcases List.mem_cons.1 (K.mem_iff.1 v)with rfl|v
  ·exact af
  ·exact h.fr j v
abbrev od:bW:=(.S 1 (.S 4 (.S 7 (.S 8 (.S 9 (.R 3 (.R 5 (.A 0 (.A 2 (.A 6 (.W 10 (.A 11 .D .Z) .Z) .Z) (.A 6 (.R 2 (.W 10 (.A 11 .D .Z) .Z)) .Z)) (.A 2 (.A 0 (.A 6 (.W 10 (.A 11 .D .Z) .Z) .Z) (.A 6 (.A 0 (.W 10 (.A 11 .D .Z) .Z) (.W 10 (.R 0 (.A 11 .D .Z)) .Z)) .Z)) (.A 6 (.R 2 (.A 0 (.W 10 (.A 11 .D .Z) .Z) (.W 10 (.R 0 (.A 11 .D .Z)) .Z))) .Z))))))))))
def jw (S:List Nat):bH prog [(6,od)] S:=mixed
open Sg (aC bL)
open Pl (sV)
def eU (l:List Int) (k:Int):Int:=((l.takeWhile (fun o=>decide (o<k))).length:Int)+1
def Ot {l:List Int}{k:Int}{i:Nat}(n:i≤l.length) (h1:∀j (v:j<l.length),j<i→l[j]<k) (h2:∀h:i<l.length,¬l[i]<k):(l.takeWhile (fun o=>decide (o<k))).length=i:=by
 induction l generalizing i with
 |nil=>simp at n;simp[n]
 |cons a r q=>
  cases i with
  |zero=>have:=h2 (by simp);simp at this;simp[takeWhile_cons,this]
  |succ i=>have h0:=h1 0 (by simp) (by omega);simp at h0;rw[takeWhile_cons];simp only[h0,decide_true,if_true,length_cons];rw[q (by simpa using n) (fun j v u=>by have:=h1 (j+1) (by simp;omega) (by omega);rwa [getElem_cons_succ]at this) (fun h=>by have:=h2 (by simp;omega);rwa [getElem_cons_succ]at this)]
def CK (l:List Int) (k:Int) (E:AV) (σ:AS) (hl:l.length≤1000000) (hf:∀i (h:i<l.length),mM prog σ E [zI i] (zI (l[i]))):
 ad prog 131 [zI l.length,E,zI k] σ (ah (zI (eU l k)) σ) No:=by
 refine ad.ob func131 ?_;refine gO aa tI tI ?_;refine aq.aQ (α:=(Nat)) (0) (fun i=>l.length-i) (fun i=>i≤l.length∧ ∀j (v:j<l.length),j<i→l[j]<k) [(0,?_),(1,?_),(2,?_),(6,?_)] (fun i=> [(7,zI i)]) (fun i=>σ) ?_ ?_ ?_ ?_;rotate_left 4
 ·exact gF tI
 ·exact gT
 ·exact⟨by omega,fun j _ v=>by omega⟩
 intro i q;try dsimp only at q⊢
 obtain⟨y,w⟩:=q;simp only[eZ];by_cases hlt:i<l.length
 ·have n:zW ((i:Int)+1)=((i+1:Nat):Int):=bQ (by omega);have hu:=hf i hlt;by_cases o:l[i]<k
  ·repeat (first
    |refine g1 ?_
    |((first|refine g2 ?_ |((with_reducible apply ag.id);first|apply (hu.use)));simp-implicitDefEqProofs [hlt,o,aH,lW,n])
    |(refine g3 ?_;try simp-implicitDefEqProofs [hlt,o,aH,lW,n]))
   refine gB (i+1) gT ?_;try dsimp only
   refine⟨hlt,fun j v F=> ?_⟩;by_cases e:j=i
   ·subst e;exact o
   ·exact w j v (by omega)
  ·rw[show eU l k=((i+1:Nat):Int) by rw[eU,Ot y w (fun _ =>o)];omega];repeat (first
    |refine g1 ?_
    |((first|refine g2 ?_ |((with_reducible apply ag.id);first|apply (hu.use)));simp-implicitDefEqProofs [hlt,o,aH,lW,n])
    |(refine g3 ?_;try simp-implicitDefEqProofs [hlt,o,aH,lW,n]))
   all_goals exact gJ tI
 ·have hw:eU l k=i+1:=by rw[eU,Ot y w (fun h=>absurd h hlt)]
  have u:zW ((i:Int)+1)=(i:Int)+1:=az (by omega) (by omega);refine gO aa (j3 hlt @u @aH) tI ?_;rw[hw];exact Wk.refl _
def L0 (g:bY) (l:List AV) (j:l.length=11) (n:AV) (i:Nat) (o:i<g.fs.length) (aO id3:Nat) (σ:AS)
 (h:σ aO=some (.cells 74 (n:: .ao 56 (g.fs.map pR) .aI g.fn::l))) (h3:σ id3=some (.cells 60 [.ptr aO 0])):
 ad prog 132 [zI i,.ptr id3 0] σ (ah (zI (g.fs[i].owner)) σ) No:=by
 generalize hf:g.fs[i]=f;refine ad.ob func132 ?_;exact gE aa (j7 @o @hf @gy @aH @h @h3 @j) tI
def LZ (g:bY) (l:List AV) (j:l.length=10) (o n:AV) (i:Nat) (q:i<g.ms.length) (aO id3:Nat) (σ:AS)
 (h:σ aO=some (.cells 74 (o::n:: .ao 53 (g.ms.map kH) .aI g.mn::l))) (h3:σ id3=some (.cells 60 [.ptr aO 0])):
 ad prog 133 [zI i,.ptr id3 0] σ (ah (zI (g.ms[i].owner)) σ) No:=by
 generalize hf:g.ms[i]=f;refine ad.ob func133 ?_;exact gE aa (j7 @q @hf @bw @aH @h @h3 @j) tI
def fS (k:Nat) (t:TD):List (List Int):=t.bg.map fun x=> [(k:Int)+1,x+1]
def yq {α:Type}(l:List α) (i:Nat) (f h:α→α):(l.modify i f).modify i h=l.modify i (fun x=>h (f x)):=by
 apply ext_getElem
 ·simp
 ·intro j a b;simp only[getElem_modify];split<;>rfl
def modify_id {α:Type}(l:List α) (i:Nat):l.modify i (fun x=>x)=l:=by
 apply ext_getElem
 ·simp
 ·intro j a b;simp only[getElem_modify];split<;>rfl
def wT {l:List (List (List Int))}{t:Nat}{x:List (List Int)}{n m:Nat}(h:∀y∈l,y.length≤n) (hm:n+x.length≤m):∀y∈l.modify t (· ++x),y.length≤m:=by
 intro y o;obtain⟨j,i,rfl⟩:=getElem_of_mem o;simp only[getElem_modify];simp only[length_modify]at i;have:=h _ (getElem_mem i);split
 ·simp;omega
 ·omega
def fK.mk {P:Program}{α:Type}{I:α→Prop}{fr:α→List (Nat×AV)}{st:α→AS}{s:Fr}{σ:AS}(v:α) (h1:aN P s (iO (fr v))) (h2:AS.le (st v) σ) (h3:I v):Sg.fK P I fr st s σ:=⟨v,h3,h1,h2⟩
def qy {σ τ:AS}{i:Nat}(h:AS.le σ τ) (l:τ i=none):σ i=none:=by
 cases j:σ i with
 |none=>rfl
 |some y=>have:=h i y j;rw[l]at this;cases this
def qq {T:SR}{n:Nat}(h:∀y∈cH T,y.length≤n):∀x∈T,x.2.length≤n:=fun x i=>by have:=h _ (mem_map.2 ⟨x,i,rfl⟩);simpa using this
variable {k:SK} {g:bY} {d:SD} {T:SR} {B τ:AS}
def SI.XD (h:SI k g d T B τ) (n:Nat) (t:TD) (hk:n≤1000) (he: -1≤t.ext∧t.ext≤1000) (hf:t.bg.length≤100) (am:∀x∈t.bg,-1≤x∧x≤1000) (hd:d.nm.length≤90000) (hT:∀y∈cH T,y.length≤90000) (be:g.fs.length≤100000) (bb:g.ms.length≤100000):
 ad prog 58 [.ptr k.aO 0,.sc (.int .i64 n),nA t] τ (fun r G=>r= .bI []∧ ∃o,SI k g { d with nm:=d.nm++ [t.name] } o B G∧
  cH o=((cH T).modify 0 (· ++ [[t.flags,d.nm.length,4*(t.ext+1),eU (g.fs.map (·.owner)) n,eU (g.ms.map (·.owner)) n]])).modify 3 (· ++fS n t)) No:=by
 have ar:=fun σ=>Gt 0 (t.ext+1) σ;have av:t.ext≠ -1→(mG 0 (t.ext+1)).1=4*(t.ext+1):=fun h=>by unfold mG;rw[if_neg (by omega),if_neg (by omega),if_neg (by omega)];simp
 refine ad.ob func58 ?_;simp only[eI];refine gO jw tI tI ?_;intro id3 F;refine gO jw tI tI ?_;intro id5 j E;have l:=aK j;have h1:=h.own (b:= .cells 60 [.ptr k.aO 0]) F;have h2:=h1.own (i:=id5) (b:= .cells 46 (nA t).cells) (by simpa[AS.set,j]using E);simp only[eI,aR]at h2;have g3:((τ.set id3 (.cells 60 [.ptr k.aO 0])).set id5 (.cells 46 [.sc (.string ⟨t.name.toArray⟩),.sc (.int .i64 t.flags),.sc (.int .i64 t.ext),.ao 3 (t.bg.map iV) .aI t.fn])) id3=some (.cells 60 [.ptr k.aO 0]):=by simp[l]
 have g5:((τ.set id3 (.cells 60 [.ptr k.aO 0])).set id5 (.cells 46 [.sc (.string ⟨t.name.toArray⟩),.sc (.int .i64 t.flags),.sc (.int .i64 t.ext),.ao 3 (t.bg.map iV) .aI t.fn])) id5=some (.cells 46 [.sc (.string ⟨t.name.toArray⟩),.sc (.int .i64 t.flags),.sc (.int .i64 t.ext),.ao 3 (t.bg.map iV) .aI t.fn]):=by simp
 have hB:AS.le B ((B.set id3 (.cells 60 [.ptr k.aO 0])).set id5 (.cells 46 [.sc (.string ⟨t.name.toArray⟩),.sc (.int .i64 t.flags),.sc (.int .i64 t.ext),.ao 3 (t.bg.map iV) .aI t.fn])):=AS.aj (AS.aj (lR _) (qy h.le F)) (by simpa[AS.set,j]using qy h.le (i:=id5) (by simpa[AS.set,j]using E));have k3:((B.set id3 (.cells 60 [.ptr k.aO 0])).set id5 (.cells 46 [.sc (.string ⟨t.name.toArray⟩),.sc (.int .i64 t.flags),.sc (.int .i64 t.ext),.ao 3 (t.bg.map iV) .aI t.fn])) id3=some (.cells 60 [.ptr k.aO 0]):=by simp[l]
 have k5:((B.set id3 (.cells 60 [.ptr k.aO 0])).set id5 (.cells 46 [.sc (.string ⟨t.name.toArray⟩),.sc (.int .i64 t.flags),.sc (.int .i64 t.ext),.ao 3 (t.bg.map iV) .aI t.fn])) id5=some (.cells 46 [.sc (.string ⟨t.name.toArray⟩),.sc (.int .i64 t.flags),.sc (.int .i64 t.ext),.ao 3 (t.bg.map iV) .aI t.fn]):=by simp
 generalize ((τ.set id3 (.cells 60 [.ptr k.aO 0])).set id5 (.cells 46 [.sc (.string ⟨t.name.toArray⟩),.sc (.int .i64 t.flags),.sc (.int .i64 t.ext),.ao 3 (t.bg.map iV) .aI t.fn]))=S at*;generalize ((B.set id3 (.cells 60 [.ptr k.aO 0])).set id5 (.cells 46 [.sc (.string ⟨t.name.toArray⟩),.sc (.int .i64 t.flags),.sc (.int .i64 t.ext),.ao 3 (t.bg.map iV) .aI t.fn]))=A at*;have hs:=h2.aO;have u:=hs;simp only[ee]at u;have X:ad prog 131 [.sc (.int .i64 g.fs.length),.fn (.func 132) [] [.ptr id3 0],.sc (.int .i64 n)] S (ah (.sc (.int .i64 (eU (g.fs.map (·.owner)) n))) S) No:=by simpa using CK (g.fs.map (·.owner)) n (.fn (.func 132) [] [.ptr id3 0]) S (by simp;omega) (fun i hi=>mM.fn (by simpa using L0 g _ rfl _ i (by simpa using hi) k.aO id3 S hs g3))
 have V:ad prog 131 [.sc (.int .i64 g.ms.length),.fn (.func 133) [] [.ptr id3 0],.sc (.int .i64 n)] S (ah (.sc (.int .i64 (eU (g.ms.map (·.owner)) n))) S) No:=by simpa using CK (g.ms.map (·.owner)) n (.fn (.func 133) [] [.ptr id3 0]) S (by simp;omega) (fun i hi=>mM.fn (by simpa using LZ g _ rfl _ _ i (by simpa using hi) k.aO id3 S hs g3))
 refine gO (S:= [2]) jw tI tI ?_
 (with_reducible apply aq.region);simp-implicitDefEqProofs [j,l,u,g3,g5]
 repeat (with_reducible refine j2 (by first|omega|assumption|decide) ?_)
 try (with_reducible apply aq.seq)
 refine Sg.xC (α:=Unit) (fun _ =>True) (fun _ => [(1,.sc (.int .i64 n)),(3,.ptr id3 0),(5,.ptr id5 0),(6,.sc (.int .i64 (4*(t.ext+1))))]) (fun _ =>S) ?_ ?_
 ·by_cases h0:0≤t.ext
  ·have hw:IntKind.i64.wrap (t.ext+1)=t.ext+1:=az (by omega) (by omega);have hc:=av (by omega);refine gO jw (j3 @h0 @hw @g5) @ar ?_;refine fK.mk (()) (gF @hc) (by(try dsimp only);exact lR _) ?_;try dsimp only
  ·have hw:t.ext= -1:=by omega
   refine gO jw @h0 tI ?_;refine fK.mk (()) (gF @hw) (by(try dsimp only);exact lR _) ?_;try dsimp only
 rintro _ _;refine gO (S:= [6]) jw (j2 @u @g3) (j2 @X @V) ?_;refine Sg.xC (α:=SR×AS) (fun v=>SI k g { d with nm:=d.nm++ [t.name] } v.1 A v.2∧cH v.1=(cH T).modify 0 (· ++ [[t.flags,d.nm.length,4*(t.ext+1),eU (g.fs.map (·.owner)) n,eU (g.ms.map (·.owner)) n]])) (fun v=> [(1,.sc (.int .i64 n)),(3,.ptr id3 0),(5,.ptr id5 0)]) (fun v=>v.2) ?_ ?_
 ·(((with_reducible apply aq.iL (id:=6) (t:=od));(exact mixed);kernel_rfl;kernel_rfl;(repeat (with_reducible first|apply bo.then|apply bo.block|apply bo.body|apply bo.no)));simp-implicitDefEqProofs [j,l,u,g3,g5])
  repeat' (with_reducible apply j2)
  all_goals
   refine ag.of (h2.name t.name (by omega)) ?_ (fun _ _ h=>h.elim);rintro r τ1 ⟨rfl,h3⟩;have L:=h3.le _ _ k3;have K:=h3.le _ _ k5;clear hs u X V;simp-implicitDefEqProofs [L,K]
   repeat' (with_reducible apply j2)
   all_goals
    refine ri.lX ?_ ?_
    ·decide
    simp-implicitDefEqProofs [bF,g8,aB];intro id w;have Q:=h3.uk (t:=0) (vals:= [t.flags,d.nm.length,4*(t.ext+1),eU (g.fs.map (·.owner)) n,eU (g.ms.map (·.owner)) n]) (by omega) w (qq fun y hy=>Nat.le_trans (hT y hy) (by omega));simp only[map_cons,map_nil,aF,length_cons,length_nil,Nat.reduceAdd,Int.natCast_zero]at Q;have m3:¬id3=id:=nq L w;have m5:¬id5=id:=nq K w;try simp-implicitDefEqProofs [m3,m5,L,K]
    refine ag.of Q ?_ (fun _ _ h=>h.elim);rintro r τ2 ⟨rfl,h4⟩;simp-implicitDefEqProofs;refine fK.mk ((nw T 0 (id,[t.flags,d.nm.length,4*(t.ext+1),eU (g.fs.map (·.owner)) n,eU (g.ms.map (·.owner)) n]),τ2)) (gF tI) (by(try dsimp only);exact lR _) ?_;try dsimp only
    exact⟨h4,lv _ _ _⟩
 ·rintro⟨T1,τ1⟩ ⟨h3,I⟩;simp only at h3 I⊢;have K:=h3.le _ _ k5;have ab:∀y∈cH T1,y.length≤90001:=by rw[I];exact wT hT (by simp)
  refine gO jw @K tI ?_;refine aq.aQ (α:=(Nat)×(SR)×(AS)) ((0,T1,τ1)) (fun⟨i,o,G⟩=>t.bg.length-i) (fun⟨i,o,G⟩=>i≤t.bg.length∧SI k g { d with nm:=d.nm++ [t.name] } o A G∧cH o=(cH T1).modify 3 (· ++(fS n t).take i)) [(1,?_),(3,?_),(52,?_),(53,?_)] (fun⟨i,o,G⟩=> [(54,.sc (.int .i64 i))]) (fun⟨i,o,G⟩=>G) ?_ ?_ ?_ ?_;rotate_left 4
  ·exact gF tI
  ·(try dsimp only);exact lR _
  ·exact⟨by omega,h3,by simp[modify_id]⟩
  intro x_ M;obtain⟨i,o,G⟩:=x_;try dsimp only at M⊢
  obtain⟨hi,h4,H⟩:=M;simp only[eZ];have L:=h4.le _ _ k3;by_cases hlt:i<t.bg.length
  ·have q:IntKind.i64.wrap ((i:Int)+1)=((i+1:Nat):Int):=bQ (by omega);have bc:=am t.bg[i] (getElem_mem hlt);have ap:(fS n t).take (i+1)=(fS n t).take i++ [[(n:Int)+1,t.bg[i]+1]]:=by rw[take_succ_eq_append_getElem (by simpa[fS]using hlt)];simp[fS]
   have Y:∀y∈cH o,y.length≤100000:=by rw[H];exact wT ab (by simp[fS];omega)
   have P:IntKind.i64.wrap ((n:Int)+1)=(n:Int)+1:=az (by omega) (by omega);have O:IntKind.i64.wrap (t.bg[i]+1)=t.bg[i]+1:=az (by omega) (by omega);repeat (first
    |(with_reducible first|apply aq.seq|apply aq.block|refine j2 (by first|omega|assumption|decide) ?_)
    |((first|(with_reducible first|apply aq.fork|((fail_if_success (apply aq.region (id:=10)));apply aq.region)|show cJ _ _ _ |show bx _ _ _ _ _ _ _ _ _)|((with_reducible apply aq.iL (id:=6) (t:=od));(exact mixed);kernel_rfl;kernel_rfl;(repeat (with_reducible first|apply bo.then|apply bo.block|apply bo.body|apply bo.no))));simp-implicitDefEqProofs [hlt,iV,aH,lW,q])
    |((with_reducible first|apply aq.ret|apply aq.skip|apply aq.exit);try simp-implicitDefEqProofs [hlt,iV,aH,lW,q]))
   with_reducible apply aq.eJ
   refine bq.first 5 ?_;simp-implicitDefEqProofs [L,P,O];refine bq.sp rfl (ia.lX ?_ ?_)
   ·decide
   simp-implicitDefEqProofs [bF,g8,aB,P,O];intro id w;have Q:=h4.uk (t:=3) (vals:= [(n:Int)+1,t.bg[i]+1]) (by omega) w (qq Y);simp only[map_cons,map_nil,aF,length_cons,length_nil,Nat.reduceAdd,Int.cast_ofNat_Int]at Q;refine bq.rest ?_;simp-implicitDefEqProofs;refine ag.of Q ?_ (fun _ _ h=>h.elim);rintro r τ2 ⟨rfl,h5⟩;simp-implicitDefEqProofs;refine gO jw @q tI ?_;refine gB ((i+1,nw o 3 (id,[(n:Int)+1,t.bg[i]+1]),τ2)) (by(try dsimp only);exact lR _) ?_;try dsimp only
   refine⟨hlt,h5,?_⟩;rw[lv,H,yq,ap];simp
  ·refine gO jw (j2 hlt @aH) tI ?_;refine⟨_,G,Wk.refl _,lR _,rfl,o,h4.drop hB,?_⟩;rw[H,I,take_of_length_le (by simp[fS];omega)]
end Im
end Go.Proofs.YtknalmoackcpbaaGreat
namespace Go.Proofs.YtknalmoackcpbaaGreat
namespace Cd
def dt (S:List Nat):bH prog [(12,(.S 0 (.S 1 (.S 2 (.S 3 (.S 5 (.A 4 (.A 6 (.S 7 (.S 8 .D)) .Z) (.A 6 (.R 4 (.S 7 (.S 8 .D))) .Z))))))))] S:=mixed
def It (idr:Nat) (size:Int) (A J:List Int) (ta tj:Nat):bP:=
 .cells 328 [.ptr idr 0,zI size,.ao 3 (A.map aS) (.tok ta) (decide (A= [])),.ao 3 (J.map aS) (.tok tj) (decide (J= []))]
def oq (idr:Nat) (size:Int) (A J:List Int) (ta tj:Nat):It idr size A J ta tj=
 .cells 328 [.ptr idr 0,zI size,.ao 3 (A.map aS) (.tok ta) (decide (A= [])),.ao 3 (J.map aS) (.tok tj) (decide (J= []))]:=rfl
def Ja {b:zY}{a:Nat}(h:a<b.length):aY (cu b a 1)=((b.getD a 0).toNat:Int):=by
 have:cu b a (1:Nat)= [b.getD a 0]:=by rw[mO];exact(Gz h).2
 have e:cu b a 1= [b.getD a 0]:=this;rw[e];simp only[aY];omega
section
variable (b:zY) (a:Nat) (nl:Bool) (idr idx ta tj:Nat) (A J:List Int) (size:Int) (σ:AS)
 (h1:σ idr=some (bA b a nl)) (h2:σ idx=some (It idr size A J ta tj)) (h3:σ ta=some (.tok A.length)) (h4:σ tj=some (.tok J.length))
 (hb:b.length≤140737488355328) (hlt:a<b.length)
include h1 h2 hb hlt
def JS (y:((b.getD a 0).toNat:Int)<1∨75<((b.getD a 0).toNat:Int)):
 ad prog 251 [.ptr idx 0] σ (ah (.bI [aJ ⟨0,0,dz⟩,zI a,zI 2]) (σ.set idr (bA b (a+1) nl))) No:=by
 have o:¬idr=idx:=nq h1 h2;have G:=fun σ h=>pf idr b a nl σ h;have I:=fun σ h=>lN idr b a 1 nl σ h (by omega) (by omega) hb (by decide) (by omega);rw[Ja hlt]at I;have F:=fun σ=>sL (b.getD a 0).toNat σ;have E:yp ((b.getD a 0).toNat:Int)=3:=by unfold yp;rw[if_pos y]
 rw[E]at F;generalize b.getD a 0=c at*;have L:=c.toNat_lt;have w:zW (c.toNat:Int)=c.toNat:=az (by omega) (by omega);simp only[gu]at F;rw[oq]at h2;refine ad.ob func251 ?_;refine gO dt tI tI ?_;intro id n;have i:¬idr=id:=nq h1 n;have j:¬idx=id:=nq h2 n;refine gO dt (j7 @w @underlying3 @underlying137 @h1 @h2 i j) (j3 @G @I @F) ?_;intro v q l H;refine gO dt (j2 i l) tI ?_;simp[aJ,dz];intro u M K;by_cases Q:u=idr<;>by_cases P:u=id<;>by_cases O:u=v<;>simp_all [AS.set]
def Hk (ab:¬(((b.getD a 0).toNat:Int)<1∨75<((b.getD a 0).toNat:Int))) (hs:b.length<a+1+(cK (oO (b.getD a 0).toNat)).toNat):
 ad prog 251 [.ptr idx 0] σ (ah (.bI [aJ ⟨0,0,dz⟩,zI size,zI 1]) (σ.set idr (bA b (a+1) nl))) No:=by
 have v:¬idr=idx:=nq h1 h2;have al:=fun σ h=>pf idr b a nl σ h;have hn:=fun σ h=>lN idr b a 1 nl σ h (by omega) (by omega) hb (by decide) (by omega);rw[Ja hlt]at hn;have X:=fun σ=>sL (b.getD a 0).toNat σ;have af:yp ((b.getD a 0).toNat:Int)=0:=by unfold yp;rw[if_neg ab]
 rw[af]at X;generalize b.getD a 0=c at*;have a1:=c.toNat_lt;have P:zW (c.toNat:Int)=c.toNat:=az (by omega) (by omega);have ac:(gH (c.toNat:Int)).2.1=oO c.toNat:=rfl;simp only[gu]at X;rw[ac]at X;have a0:=ja (c.toNat:Int);generalize oO (c.toNat:Int)=o at*;have Y:=qI o;have ar:=eN o;have I:wide (cK o)=true:=by
  have:o=0∨o=1∨o=2∨o=3∨o=4∨o=5∨o=6∨o=7∨o=8:=by omega
  rcases this with rfl|rfl|rfl|rfl|rfl|rfl|rfl|rfl|rfl<;>first|rfl|(simp[cK]at hs;omega)
 have hE:tz b (a+1:Nat) (cK o)=1:=by simp[tz,I];omega
 have K:=fun σ h=>vw idr b (a+1:Nat) (cK o) nl σ h (by omega) (by omega) hb (by omega);rw[hE]at K;have Q:(0<cK o)=True:=eq_true (by omega);rw[oq]at h2;refine ad.ob func251 ?_;refine gO dt tI tI ?_;intro id H;have j:¬idr=id:=nq h1 H;have i:¬idx=id:=nq h2 H;refine gO dt (j7 @P @underlying3 @underlying137 @h1 @h2 j i) (j3 @al @hn @X) ?_;intro O w E M;have u:¬idx=O:=nq h2 M;refine gO dt (j3 @P @underlying3 @underlying137) tI ?_;intro G q n y F;have l:¬idx=G:=nq h2 F;have L:((a+1:Nat):Int)=(a:Int)+1:=by omega
 rw[L]at K;refine gO dt (And.intro (j7 @Q v @h2 j i w E) (j5 u q n y l)) (j2 @Y @K) ?_;simp[aJ,dz];intro V y_ ap;by_cases e1:V=idr<;>by_cases e2:V=id<;>by_cases e3:V=O<;>by_cases e4:V=G<;>simp_all [AS.set]
include h3 h4
def FU (al:¬ta=tj) (hA:A.length≤1000) (hJ:J.length≤1000) (op o V T:Int) (ce:op=((b.getD a 0).toNat:Int)) (ck:o=oO op) (d9:aY (cu b ((a:Int)+1) (cK o))=V)
 (hT:T=if o=5 then(a:Int)+3+yb 2 V else 0) (ek:¬(op<1∨75<op)) (hs:(a:Int)+1+cK o≤b.length) (rb:Bool) (d5:dN ⟨op,dZ o V,dz⟩=rb):
 ad prog 251 [.ptr idx 0] σ (ah (if rb then .bI [aJ ⟨op,dZ o V,dz⟩,zI 0,zI 0]else .bI [aJ ⟨0,0,dz⟩,zI a,zI 3])
  (if rb then((((σ.set idr (bA b (a+1+cK o) nl)).set idx (It idr size (A++ [(a:Int)]) (J++ [T]) ta tj)).set ta (.tok (A.length+1))).set tj (.tok (J.length+1)))else σ.set idr (bA b (a+1+cK o) nl))) No:=by
 have G:¬idr=idx:=nq h1 h2;have a8:=aK G;have cb:=aK al;have X:¬ta=idr:=nq h1 h3;have O:¬tj=idr:=nq h1 h4;have Q:¬ta=idx:=nq h2 h3;have M:¬tj=idx:=nq h2 h4;have b2:=aK X;have b1:=aK O;have b0:=aK Q;have bv:=aK M;have d8:=fun x σ h=>pf idr b x nl σ h;have hn:=fun σ h=>lN idr b a 1 nl σ h (by omega) (by omega) hb (by decide) (by omega);rw[Ja hlt,←ce]at hn;have e0:op<256:=by rw[ce];have:=(b.getD a 0).toNat_lt;omega
 clear ce;have hf:=fun σ=>sL op σ;have d7:yp op=0:=by unfold yp;rw[if_neg ek]
 rw[d7]at hf;have d4:IntKind.i64.wrap op=op:=az (by omega) (by omega);have d6:(gH op).2.1=oO op:=rfl;simp only[gu]at hf;rw[d6,←ck]at hf;have ej:=ja op;rw[←ck]at ej;have L:=fun σ=>AZ ⟨op,dZ o V,dz⟩ σ;simp only at L;rw[d5,←ck]at L;have ap:=qI o;have ar:=eN o;have et:=eC b (a+1) (cK o) (by omega) (by omega) (by omega);have cl:=ct (cu b ((a:Int)+1) (cK o));have j:=jb (cu b ((a:Int)+1) (cK o));rw[show(cu b ((a:Int)+1) (cK o)).length=(cK o).toNat by omega]at j;have i:wide (cK o)=true→ _ :=fun hw σ h=>lN idr b (a+1) (cK o) nl σ h (by omega) (by omega) hb hw (by omega);rw[d9]at cl j i;clear d5 ck d9 d6 d7;rw[oq]at h2;refine ad.ob func251 ?_;refine gO dt tI tI ?_;intro id a7;have w:¬idr=id:=nq h1 a7;have b4:=aK w;have v:¬idx=id:=nq h2 a7;have b3:=aK v;have am:¬ta=id:=nq h3 a7;have cd:=aK am;have af:¬tj=id:=nq h4 a7;have cc:=aK af;refine gO dt (j7 @d4 @underlying3 @underlying137 @h1 @h2 w v) (j3 (d8 a) @hn @hf) ?_;intro ci H ab a0;have a9:=aK H;have b5:=aK ab;have F:¬idx=ci:=nq h2 a0;have bc:=aK F;have Y:¬ta=ci:=nq h3 a0;have ca:=aK Y;have P:¬tj=ci:=nq h4 a0;have b6:=aK P;refine gO dt (j3 @d4 @underlying3 @underlying137) tI ?_;intro bs q n I ac;have a4:=aK q;have a3:=aK n;have bb:=aK I;have l:¬idx=bs:=nq h2 ac;have a5:=aK l;have E:¬ta=bs:=nq h3 ac;have bf:=aK E;have y:¬tj=bs:=nq h4 ac;have be:=aK y;have F_:=(j2 (j7 @oq @aF a7 a0 ac G a8) (j2 (j7 al cb X O Q M b2) (j2 (j7 b1 b0 bv @h1 @h2 @h3 @h4) (j2 (j7 b4 w b3 v cd am cc) (j2 (j7 af H a9 ab b5 bc F) (j2 (j7 ca Y b6 P q a4 n) (j2 (j7 a3 I bb a5 l bf E) (j2 be y))))))));have em:o=0∨o=1∨o=2∨o=3∨o=4∨o=5∨o=6∨o=7∨o=8:=by omega
 rcases em with rfl|rfl|rfl|rfl|rfl|rfl|rfl|rfl|rfl;have d3:cK 0=0:=rfl;simp only[d3]at ap hs i j ar⊢;have hz:V=0:=by simp at j;omega
 have K:T=0:=by simp[hT]
 subst K;have u:dZ 0 V=0:=by simp[dZ,hz]
 have a1:=tI;have a2:=tI;rw[u]at L⊢;rotate_left;have dp:cK 1=4:=rfl;simp only[dp]at ap hs i j ar⊢;have i:=i (by decide);have K:T=0:=by simp[hT]
 subst K;have u:dZ 1 V=yb 4 V:=by simp[dZ]
 have a6:=fun σ=>sZ V 4 (by omega) cl (by simpa using j) σ;simp only[Int.reduceToNat]at a6;have a1:=tI;have a2:=(j2 @i @a6);rw[u]at L⊢;rotate_left;have dn:cK 2=8:=rfl;simp only[dn]at ap hs i j ar⊢;have i:=i (by decide);have K:T=0:=by simp[hT]
 subst K;have u:dZ 2 V=yb 8 V:=by simp[dZ]
 have a6:=fun σ=>sZ V 8 (by omega) cl (by simpa using j) σ;simp only[Int.reduceToNat]at a6;have a1:=tI;have a2:=(j2 @i @a6);rw[u]at L⊢;rotate_left;have dl:cK 3=1:=rfl;simp only[dl]at ap hs i j ar⊢;have i:=i (by decide);have K:T=0:=by simp[hT]
 subst K;have u:dZ 3 V=V:=by simp[dZ]
 simp at j;have av:IntKind.i64.wrap V=V:=az (by omega) (by omega);have a1:=(j3 @av @underlying137 @underlying2);have a2:= @i;rw[u]at L⊢;rotate_left;have de:cK 4=1:=rfl;simp only[de]at ap hs i j ar⊢;have i:=i (by decide);have K:T=0:=by simp[hT]
 subst K;have u:dZ 4 V=V:=by simp[dZ]
 simp at j;have av:IntKind.i64.wrap V=V:=az (by omega) (by omega);have a1:=(j3 @av @underlying137 @underlying2);have a2:= @i;rw[u]at L⊢;rotate_left;have db:cK 5=2:=rfl;simp only[db]at ap hs i j ar⊢;have i:=i (by decide);have u:dZ 5 V=0:=by simp[dZ]
 have a6:=fun σ=>sZ V 2 (by omega) cl (by simpa using j) σ;simp only[Int.reduceToNat]at a6;simp at hT;have ew: -32768≤yb 2 V∧yb 2 V<65536:=by simp only[Int.reduceToNat,B6]at j;simp only[yb,B6];split<;>omega
 have ei:IntKind.i64.wrap ((a:Int)+1+2+yb 2 V)=T:=by rw[az (by omega) (by omega),hT];omega
 have a1:= @ei;have a2:=(j3 @i @a6 (d8 (a+1+2)));rw[u]at L⊢;rotate_left;have c9:cK 6=2:=rfl;simp only[c9]at ap hs i j ar⊢;have i:=i (by decide);have K:T=0:=by simp[hT]
 subst K;have u:dZ 6 V=V-1:=by simp[dZ]
 simp at j;have av:IntKind.i64.wrap V=V:=az (by omega) (by omega);have c1:IntKind.i64.wrap (V-1)=V-1:=az (by omega) (by omega);have a1:=(j4 @av @c1 @underlying137 @underlying2);have a2:= @i;rw[u]at L⊢;rotate_left;have c8:cK 7=2:=rfl;simp only[c8]at ap hs i j ar⊢;have i:=i (by decide);have K:T=0:=by simp[hT]
 subst K;have u:dZ 7 V=V-1:=by simp[dZ]
 simp at j;have av:IntKind.i64.wrap V=V:=az (by omega) (by omega);have c1:IntKind.i64.wrap (V-1)=V-1:=az (by omega) (by omega);have a1:=(j4 @av @c1 @underlying137 @underlying2);have a2:= @i;rw[u]at L⊢;rotate_left;have c7:cK 8=2:=rfl;simp only[c7]at ap hs i j ar⊢;have i:=i (by decide);have K:T=0:=by simp[hT]
 subst K;have u:dZ 8 V=V:=by simp[dZ]
 simp at j;have av:IntKind.i64.wrap V=V:=az (by omega) (by omega);have a1:=(j3 @av @underlying137 @underlying2);have a2:= @i;rw[u]at L⊢;rotate_left;all_goals
  simp only[aJ,dz]at L⊢;cases rb
 all_goals
  simp only[if_true,if_false,Bool.false_eq_true]at L⊢;refine gO dt (And.intro (j7 @a1 @h3 @h4 G al X O) (And.intro (j7 M Q @h2 w v am af) (And.intro (j7 H ab F Y P q n) (j4 I l E y)))) (j3 @ap @L @a2) ?_;intro j_ y_;refine gK F_ j_ idr fun c3=>gK F_ j_ id fun ec=>gK F_ j_ ci fun c4=>gK F_ j_ bs fun cs=>gK F_ j_ idx fun c2=>gK F_ j_ ta fun eb=>gK F_ j_ tj fun ea=> ?_;intro c6;simp[AS.set,c3,ec,c4,cs,c2,eb,ea]at c6⊢;try exact c6
end
def tW {e:TypeId}{es:List AV}{v:AV}{S τ:AS}{j:Nat}{x b:bP}(h:GV prog e es v S τ) (n:S j=some x):GV prog e es v (S.set j b) (τ.set j b):=by
 rcases h with⟨h1,h2,rfl⟩|⟨id,cap,l,h0,h1,rfl,h3⟩
 ·exact .inl ⟨h1,h2,rfl⟩
 ·have i:¬id=j:=nq h0 n;exact .inr ⟨id,cap,l,by simp[AS.set,i,h0],h1,AS.set_comm i,h3⟩
def KF {e t x:TypeId}{es:List AV}{v:AV}{S τ:AS}(h:GV prog e es v S τ) (ht:prog.underlying t=some (.slice x)) (i:AS) (K:AV→Prop):jz prog i t v K=K (zI es.length):=by
 rcases h with⟨h1,h2,rfl⟩|⟨id,cap,j,h0,h1,rfl,h3⟩
 ·subst h1 h2;simp[jz,ht]
 ·subst h1;simp[jz,ht]
def rF {m:Nat}{l:List AV}(h:∀v∈l,v.cells.length=m) {i j:Nat}(n:i<l.length) (F:j<m) {v w:AV}(o:v.cells=l[i].cells.set j w):
 (aB l).take (i*m+j)++w::(aB l).drop (i*m+j+1)=aB (l.set i v):=by
 have h3:=h l[i] (getElem_mem n);obtain⟨h1,h2⟩:=uL h n;rw[←tY h n (v:=v) (by rw[o];simp[h3]),o];have u:(aB l).take (i*m)=aB (l.take i):=by rw[h1,take_append_of_le_length (by omega),take_of_length_le (by omega)]
 have q:(aB l).drop (i*m+m)=aB (l.drop (i+1)):=by rw[h1,←append_assoc,drop_append_of_le_length (by simp;omega),drop_eq_nil_of_le (by simp;omega),nil_append]
 rw[u,q,h1,set_eq_take_append_cons_drop,if_pos (by omega)];have E:(aB (l.take i)++(l[i].cells++aB (l.drop (i+1)))).take (i*m+j)=aB (l.take i)++l[i].cells.take j:=by rw[←h2,take_length_add_append,take_append_of_le_length (by omega)]
 have y:(aB (l.take i)++(l[i].cells++aB (l.drop (i+1)))).drop (i*m+j+1)=l[i].cells.drop (j+1)++aB (l.drop (i+1)):=by rw[show i*m+j+1=(aB (l.take i)).length+(j+1) by omega,drop_length_add_append,drop_append_of_le_length (by omega)]
 rw[E,y];simp
def lT {m:Nat}{l:List AV}(h:∀v∈l,v.cells.length=m) {i j:Nat}(n:i<l.length) (o:j<m):(aB l)[i*m+j]? =l[i].cells[j]? :=by
 obtain⟨h1,h2⟩:=gx l h;have h4:=h l[i] (getElem_mem n);have h3:=h2 i j n o;have hlt:i*m+j<(aB l).length:=by rw[h1];exact jS n o
 rw[getElem?_eq_getElem hlt,getElem?_eq_getElem (by omega)];simp only[getD_eq_getElem?_getD,getElem?_eq_getElem hlt,getElem?_eq_getElem n,Option.getD_some]at h3;rw[h3,getElem?_eq_getElem (by omega)];rfl
def gd (r:List RI):Except (Int×Int) (List RI)→Except (Int×Int) (List RI)
 |.error e=> .error e
 |.ok s=> .ok (r++s)
def Hb {b:zY}{k a:Nat}(ha:a<b.length) (r:List RI):gd r (eH b (k+1) a)=match mY b a with|.error e=> .error e|.ok (x,t,h)=>gd (r++ [⟨x,a,t⟩]) (eH b k h):=by
 simp only[eH,if_pos ha];cases mY b a with
 |error e=>rfl
 |ok y=>
  obtain⟨x,t,h⟩:=y;simp only;cases eH b k h with
  |error e=>rfl
  |ok s=>simp[gd]
def Tv {op:Int}(h:0≤cK (oO op)) (a:Nat):((a+1+(cK (oO op)).toNat:Nat):Int)=a+1+cK (oO op):=by omega
def Hl {b:zY}{a:Nat}{nl:Bool}{idr idx ta tj:Nat}{A J:List Int}{σ:AS}{p e:Int}
 (h:mY b a= .error (p,e)) (h1:σ idr=some (bA b a nl)) (h2:σ idx=some (It idr b.length A J ta tj)) (h3:σ ta=some (.tok A.length)) (h4:σ tj=some (.tok J.length))
 (hb:b.length≤140737488355328) (hlt:a<b.length) (i:¬ta=tj) (q:A.length≤1000) (o:J.length≤1000):
 ∃v:Int,ad prog 251 [.ptr idx 0] σ (ah (.bI [aJ ⟨0,0,dz⟩,zI p,zI e]) (σ.set idr (bA b v nl))) No:=by
 unfold mY at h;split at h
 ·rename_i j;cases h;exact⟨_,JS b a nl idr idx ta tj A J b.length σ h1 h2 hb hlt j⟩
 rename_i j;split at h
 ·rename_i n;cases h;exact⟨_,Hk b a nl idr idx ta tj A J b.length σ h1 h2 hb hlt j n⟩
 rename_i n;split at h
 ·cases h
 rename_i l;cases h;have hw:=eN (oO ((b.getD a 0).toNat:Int));have u:=FU b a nl idr idx ta tj A J b.length σ h1 h2 h3 h4 hb hlt i q o ((b.getD a 0).toNat:Int) (oO ((b.getD a 0).toNat:Int)) _ _ rfl rfl rfl rfl j (by omega) false (by rw[show((a+1:Nat):Int)=(a:Int)+1 by omega,show(((cK (oO ((b.getD a 0).toNat:Int))).toNat:Nat):Int)=cK (oO ((b.getD a 0).toNat:Int)) by omega]at l;simpa using l);exact⟨_,u⟩
def JR {b:zY}{a:Nat}{nl:Bool}{idr idx ta tj:Nat}{A J:List Int}{σ:AS}{x:cE}{t:Int}{v:Nat}
 (h:mY b a= .ok (x,t,v)) (h1:σ idr=some (bA b a nl)) (h2:σ idx=some (It idr b.length A J ta tj)) (h3:σ ta=some (.tok A.length)) (h4:σ tj=some (.tok J.length))
 (hb:b.length≤140737488355328) (hlt:a<b.length) (i:¬ta=tj) (y:A.length≤1000) (w:J.length≤1000):
 ad prog 251 [.ptr idx 0] σ (ah (.bI [aJ x,zI 0,zI 0])
  ((((σ.set idr (bA b v nl)).set idx (It idr b.length (A++ [(a:Int)]) (J++ [t]) ta tj)).set ta (.tok (A.length+1))).set tj (.tok (J.length+1)))) No:=by
 unfold mY at h;split at h
 ·cases h
 rename_i l;split at h
 ·cases h
 rename_i E;split at h
 ·rename_i j;simp only[Except.ok.injEq,Prod.mk.injEq]at h;obtain⟨rfl,rfl,rfl⟩:=h;have hw:=eN (oO ((b.getD a 0).toNat:Int));have o:((a+1:Nat):Int)=(a:Int)+1:=by omega
  have n:(((cK (oO ((b.getD a 0).toNat:Int))).toNat:Nat):Int)=cK (oO ((b.getD a 0).toNat:Int)):=by omega
  have u:=Tv hw.1 a;rw[o,n]at j;have q:=FU b a nl idr idx ta tj A J b.length σ h1 h2 h3 h4 hb hlt i y w ((b.getD a 0).toNat:Int) (oO ((b.getD a 0).toNat:Int)) _
   (Q5 (oO ((b.getD a 0).toNat:Int)) (aY (cu b (a+1:Nat) (cK (oO ((b.getD a 0).toNat:Int))).toNat)) (a+1+(cK (oO ((b.getD a 0).toNat:Int))).toNat)) rfl rfl rfl (by
    rw[o,n];unfold Q5;split
    ·rename_i e;rw[u,e];simp[cK];omega
    ·rfl) l (by omega) true j
  simp only[if_true]at q;rw[o,n,u]at*;exact q
 ·cases h
def le_none {σ τ:AS}{i:Nat}(h:AS.le σ τ) (l:τ i=none):σ i=none:=by
 cases j:σ i with
 |none=>rfl
 |some y=>have:=h i y j;rw[l]at this;cases this
def Hd (d:List cE):Except (Int×Int) (List cE)→Except (Int×Int) (List cE)
 |.error e=> .error e
 |.ok s=> .ok (d++s)
def Hc (L:List Int) (d:List cE) (y:RI) (s:List RI):Hd d (gb L (y::s))=match ph L y with|.error e=> .error e|.ok x=>Hd (d++ [x]) (gb L s):=by
 simp only[gb];cases ph L y with
 |error e=>rfl
 |ok x=>
  simp only;cases gb L s with
  |error e=>rfl
  |ok l=>simp[Hd]
def sK {P:Program}{a b c d u q o n:AV}(h1:AV.Wk P a u) (h2:AV.Wk P b q) (h3:AV.Wk P c o) (h4:AV.Wk P d n):AV.Wk P (.bI [a,b,c,d]) (.bI [u,q,o,n]):=by
 intro G x h;cases h with
 |bI vs l h=>
  refine .bI vs l fun i j=> ?_;have:=h i j
  match i,j with
  |0,_ =>exact h1 _ _ this
  |1,_ =>exact h2 _ _ this
  |2,_ =>exact h3 _ _ this
  |3,_ =>exact h4 _ _ this
def vm (σ:AS) (b:zY) (nl:Bool) (idr idx ta tj:Nat) (r:List RI) (a:Int):AS:=
 (((σ.set idr (bA b a nl)).set idx (It idr b.length (r.map (·.a)) (r.map (·.t)) ta tj)).set ta (.tok r.length)).set tj (.tok r.length)
end Cd
end Go.Proofs.YtknalmoackcpbaaGreat
namespace Go.Proofs.YtknalmoackcpbaaGreat
namespace Im
def gG (S:List Nat):bH prog [(7,(.S 0 (.S 1 (.S 2 (.S 4 (.S 5 (.S 6 (.S 7 (.R 8 (.A 3 (.A 9 (.S 10 (.S 11 (.A 12 .D .Z))) .Z) (.A 9 (.R 3 (.S 10 (.S 11 (.A 12 .D .Z)))) .Z)))))))))))] S:=mixed
open Sg (aC bL)
open Pl (sV)
open Cd (oO dz qT lT)
def cY:List Ty→List cE→List Ty×List cE
 |sp,[]=>(sp,[])
 |sp,x::r=>if oO x.op=8 then((cY (nB sp x.t) r).1,⟨x.op,rr sp x.t,dz⟩::(cY (nB sp x.t) r).2)else((cY sp r).1,x::(cY sp r).2)
def sf {α:Type}[DecidableEq α] (l:List α) (t:α):l.length≤(nB l t).length∧(nB l t).length≤l.length+1:=by unfold nB;split<;>simp
variable {k:SK} {g:bY} {d:SD} {T:SR} {B τ:AS}
def SI.wr (h:SI k g d T B τ) {i:Nat}{x b:bP}(v:B i=some x):SI k g d T (B.set i b) (τ.set i b):=by
 have w:∀j∈keys k T,j≠i:=by rintro j n rfl;rw[h.fr j n]at v;cases v
 have l:∀j∈keys k T,∀σ:AS,(σ.set i b) j=σ j:=fun j n σ=>AS.ae _ _ (w j n);have q:∀ {j:Nat},j∈T.map (·.1)++T.flatMap (fun x=>x.2.map (·.1))→j∈keys k T:=fun n=>by simp only[keys,mem_cons];simp only[n,or_true]
 exact⟨(l _ (by simp[keys]) _).trans h.aO,(l _ (by simp[keys]) _).trans h.bp,(l _ (by simp[keys]) _).trans h.tS,(l _ (by simp[keys]) _).trans h.tL,(l _ (by simp[keys]) _).trans h.tN,(l _ (by simp[keys]) _).trans h.tB,(l _ (by simp[keys]) _).trans h.tC,
  fun x o=>(l _ (q (mem_append_left _ (mem_map.2 ⟨x,o,rfl⟩))) _).trans (h.IS x o),fun x o p u=>(l _ (q (mem_append_right _ (mem_flatMap.2 ⟨x,o,mem_map.2 ⟨p,u,rfl⟩⟩))) _).trans (h.row x o p u),
  kh h.le,h.Fu,h.nd,fun j n=>(l j n _).trans (h.fr j n)⟩
def SI.erase {i:Nat}{b:bP}(h:SI k g d T (B.set i b) τ) (E:B i=none):∃S:AS,S i=none∧τ=S.set i b∧SI k g d T B S:=by
 have w:τ i=some b:=h.le i b (by simp);have v:∀j∈keys k T,j≠i:=by rintro j l rfl;have:=h.fr j l;simp at this
 refine⟨fun j=>if j=i then none else τ j,by simp,?_,?_⟩
 ·funext j;by_cases e:j=i
  ·subst e;simp[AS.set,w]
  ·simp[AS.set,e]
 ·have n:∀j∈keys k T,(if j=i then none else τ j)=τ j:=fun j l=>if_neg (v j l);have q:∀ {j:Nat},j∈T.map (·.1)++T.flatMap (fun x=>x.2.map (·.1))→j∈keys k T:=fun l=>by simp only[keys,mem_cons];simp only[l,or_true]
  refine⟨(n _ (by simp[keys])).trans h.aO,(n _ (by simp[keys])).trans h.bp,(n _ (by simp[keys])).trans h.tS,(n _ (by simp[keys])).trans h.tL,(n _ (by simp[keys])).trans h.tN,(n _ (by simp[keys])).trans h.tB,(n _ (by simp[keys])).trans h.tC,
   fun x o=>(n _ (q (mem_append_left _ (mem_map.2 ⟨x,o,rfl⟩)))).trans (h.IS x o),fun x o p u=>(n _ (q (mem_append_right _ (mem_flatMap.2 ⟨x,o,mem_map.2 ⟨p,u,rfl⟩⟩)))).trans (h.row x o p u),
   fun j y l=> ?_,h.Fu,h.nd,fun j l=> ?_⟩
  ·have e:j≠i:=nq E l;show(if j=i then none else τ j)=some y;rw[if_neg e];exact h.le j y (by rw[AS.ae _ _ e];exact l)
  ·have:=h.fr j l;rwa [AS.ae _ _ (v j l)]at this
def SI.mD (h:SI k g d T B τ) {i:Nat}(j:τ i=none):B i=none:=qy h.le j
def HZ (l:List cE) (own:cC) (h:0<l.length) (hl:l.length≤1000000) (σ:AS):
 ad prog 232 [qT l own false] σ (fun r τ=>GV prog 110 (l.map aJ) r σ τ) No:=by
 refine ad.ob func232 ?_;simp only[qT];refine gO (S:= [3]) aa @underlying50 tI ?_
 with_reducible apply aq.eJ
 refine bq.first 2 ?_;simp-implicitDefEqProofs;refine bq.sp rfl (ia.N6 (by decide) 110 (l.map aJ) (nl:=false) (by simp) (by simp) (by simp) (by simp) (by simp) (by simp[fE,underlying50]) (by intro x i;obtain⟨y,_,rfl⟩:=mem_map.1 i;simp[aJ]) (by simpa using h) (by simp[kr];omega) (by simp;omega) ?_);intro v τ j;refine bq.rest ?_;simp-implicitDefEqProofs;refine gO aa tI tI ?_;exact⟨_,_,Wk.refl _,lR _,j⟩
def WJ (k:SK) (g:bY) (d:SD) (T:SR) (B:AS) (l:List cE) (r:AV) (h:AS):Prop:= ∃nl,(nl=true→(cY d.sp l).2= [])∧r=qT (cY d.sp l).2 .aI nl∧SI k g { d with sp:=(cY d.sp l).1 } T B h
def SI.raw (h:SI k g d T B τ) (l:List cE) (a0:0<l.length) (hl:l.length≤1000) (hd:d.sp.length≤90000):
 ad prog 185 [.ptr k.aO 0,qT l .aI false] τ (WJ k g d T B l) No:=by
 have am:=fun(x:cE) σ=>sL x.op σ;simp only[gu]at am;refine ad.ob func185 ?_;simp only[qT];refine gO gG tI tI ?_;have a1:=HZ l .aI a0 (by omega) τ;simp only[qT]at a1;refine ag.of a1 ?_ (fun _ _ h=>h.elim);rintro r0 τ0 hG;obtain⟨o,cap,n,h0,rfl,rfl,X,V⟩:∃o cap n,τ o=none∧r0= .fH o 0 (l.map aJ).length cap∧τ0=τ.set o (.cells 110 (aB (l.map aJ++n)))∧(∀x∈l.map aJ++n,x.cells.length=prog.cellsOf 110)∧(l.map aJ).length+n.length=cap:=by
  rcases hG with⟨h1,_,_⟩|hG
  ·exfalso;have:=congrArg List.length h1;simp at this;subst this;simp at a0
  ·exact hG
 have bv:=qy h.le h0;simp-implicitDefEqProofs;simp only[length_map]at V;refine gO gG tI tI ?_;refine aq.aQ (α:=(Nat)×(List Ty)×(List cE)×(AS)) ((0,d.sp,[],τ.set o (.cells 110 (aB (l.map aJ++n))))) (fun⟨i,sp,q,O⟩=>l.length-i) (fun⟨i,sp,q,O⟩=>i≤l.length∧q.length=i∧SI k g { d with sp:=sp } T (B.set o (.cells 110 (aB ((q++l.drop i).map aJ++n)))) O∧cY d.sp l=((cY sp (l.drop i)).1,q++(cY sp (l.drop i)).2)∧sp.length≤d.sp.length+i) [(0,?_),(4,?_),(5,?_),(12,?_),(13,?_)] (fun⟨i,sp,q,O⟩=> [(14,zI i)]) (fun⟨i,sp,q,O⟩=>O) ?_ ?_ ?_ ?_;rotate_left 5
 ·exact gF tI
 ·(try dsimp only);exact lR _
 ·exact⟨by omega,rfl,by simpa using h.own h0,by simp,by simp⟩
 intro x_ al;obtain⟨i,sp,q,O⟩:=x_;try dsimp only at al⊢
 obtain⟨hi,G,L,K,ca⟩:=al;simp only[eZ];by_cases hlt:i<l.length
 ·have E:zW ((i:Int)+1)=((i+1:Nat):Int):=bQ (by omega);rw[drop_eq_getElem_cons hlt]at K L;simp only[cY]at K;have hlen:((q++l[i]::l.drop (i+1)).map aJ++n).length=cap:=by simp;omega
  have H:∀(z:cE) v,v∈(q++z::l.drop (i+1)).map aJ++n→v.cells.length=6:=by
   intro z v F;rcases mem_append.1 F with F|F
   ·obtain⟨w,_,rfl⟩:=mem_map.1 F;rfl
   ·exact(X v (by simp[F])).trans (by simp)
  generalize hx:l[i]=x at*;have a7:(gH x.op).2.1=oO x.op:=rfl;have Q:=am x;have bf:i<((q++x::l.drop (i+1)).map aJ++n).length:=by simp;omega
  have cb:i*6+6≤(aB ((q++x::l.drop (i+1)).map aJ++n)).length:=by rw[dI (H x)];omega
  have P:∀z:cE,(aB ((q++x::l.drop (i+1)).map aJ++n)).take (i*6)++((aJ z).cells++(aB ((q++x::l.drop (i+1)).map aJ++n)).drop (i*6+6))=aB ((q++ [z]++l.drop (i+1)).map aJ++n):=by intro z;rw[tY (H x) bf (v:=aJ z) rfl];congr 1;rw[set_append_left _ _ (by simp;omega)];congr 1;rw[←map_set];congr 1;rw[set_append_right _ _ (by omega)];simp[G]
  have ar:∀z:cE,aB (List.map aJ (q++ [z])++(List.drop (i+1) (List.map aJ l)++n))=aB ((q++ [z]++l.drop (i+1)).map aJ++n):=by intro z;simp[map_drop]
  have av:q++ [x]++l.drop (i+1)=q++x::l.drop (i+1):=by simp
  generalize bs:aB ((q++x::l.drop (i+1)).map aJ++n)=Y at*;rw[a7]at Q;refine gO gG (j4 hlt @hx @fI @aH) tI ?_;intro af u;have a4:=L.own (b:= .cells 110 (aJ x).cells) u;simp only[fI,aR]at a4;refine gO gG tI @Q ?_;intro M j I;have y:=aK j;have a3:=a4.own (i:=M) (b:= .cells 194 [.sc (.string ⟨(gH x.op).1.toArray⟩),zI (oO x.op),zI ((gH x.op).2.2)]) (by simpa[AS.set,j]using I);have a9:o≠af:=by rintro rfl;have:=L.le o _ (AS.ak _ _ _);rw[u]at this;cases this
  have ac:O M=none:=by simpa[AS.set,j]using I
  have a8:o≠M:=by rintro rfl;have:=L.le o _ (AS.ak _ _ _);rw[ac]at this;cases this
  by_cases h8:oO x.op=8
  ·rw[if_pos h8]at K;rw[h8]at a3;refine gO gG (j3 @h8 @E j) tI ?_;have hp:=a3.put x.t (by simp;omega);simp only[aC]at hp
   repeat' (with_reducible apply j2)
   all_goals
    refine ag.of hp ?_ (fun _ _ h=>h.elim);rintro r τ2 ⟨rfl,h2⟩;have a2:SI k g { d with sp:=nB sp x.t } T (B.set o (.cells 110 (Y.take (i*6)++((aJ ⟨x.op,rr sp x.t,dz⟩).cells++Y.drop (i*6+6))))) (τ2.set o (.cells 110 (Y.take (i*6)++((aJ ⟨x.op,rr sp x.t,dz⟩).cells++Y.drop (i*6+6))))):=by have h3:=(h2.drop (AS.aj (AS.aj (lR _) (L.mD u)) (L.mD ac))).wr (i:=o) (b:= .cells 110 (Y.take (i*6)++((aJ ⟨x.op,rr sp x.t,dz⟩).cells++Y.drop (i*6+6)))) (AS.ak _ _ _);rwa [AS.set_set]at h3
    have ro:=h2.le o _ (by rw[AS.ae _ _ a8,AS.ae _ _ a9,AS.ak]);have r7:=h2.le af _ (by rw[AS.ae _ _ y,AS.ak]);have r8:=h2.le M _ (AS.ak _ _ _);simp-implicitDefEqProofs [ro,r7];refine gO gG @E tI ?_;refine gB ((i+1,nB sp x.t,q++ [⟨x.op,rr sp x.t,dz⟩],τ2.set o (.cells 110 (Y.take (i*6)++((aJ ⟨x.op,rr sp x.t,dz⟩).cells++Y.drop (i*6+6)))))) (by(try dsimp only);exact le_eq (by simp[aJ,dz])) ?_;try dsimp only
    have ab:=sf sp x.t;refine⟨hlt,by simp[G],?_,by rw[K];simp,by omega⟩;rw[P]at a2;rw[ar,P];exact a2
  ·rw[if_neg h8]at K;refine gO gG (j3 @h8 @E j) tI ?_;refine gB ((i+1,sp,q++ [x],O)) (by(try dsimp only);exact an (by simp[AS.set,j,ac]) (an u (lR _))) ?_;try dsimp only
   refine⟨hlt,by simp[G],by rw[ar,av,bs];exact L,by rw[K];simp,by omega⟩
 ·have ab:i=l.length:=by omega
  rw[drop_eq_nil_of_le (by omega)]at K L;simp only[cY,append_nil]at K L;refine gO (S:= [9]) gG (j2 hlt @aH) tI ?_;obtain⟨S,bc,rfl,bb⟩:=L.erase bv;refine aq.sr 5 (e:=110) (es:=q.map aJ) (S:=S) (.inr ⟨o,cap,n,bc,by simp[G,ab],rfl,fun v F=> ?_,by simp[G,ab,V]⟩) ?_
  ·rcases mem_append.1 F with F|F
   ·obtain⟨z,_,rfl⟩:=mem_map.1 F;simp[aJ]
   ·exact X v (by simp[F])
  intro a6 ap;refine gO gG tI tI ?_;exact⟨_,S,Wk.refl _,lR _,a6,fun e=>by rw[K];simpa using ap e,by rw[K];rfl,by rw[K];exact bb⟩
def cW (S:List Nat):bH prog [(12,(.S 0 (.S 1 (.S 2 (.S 3 (.R 4 (.A 5 (.S 6 (.A 7 .D .Z)) .Z)))))))] S:=mixed
open Sg (aC bL)
open Pl (sV)
open Rg (Cl fY aL)
open Cd (oO dz qT bZ cV rI xG)
open Bd (R6 dj cp cU zq Bv)
def vJ (c:Cl):Ty:=⟨c.a,c.b,c.c,c.r⟩
def iD (P:List Int):List Ty→List Cl→List Ty×List R6
 |sp,[]=>(sp,[])
 |sp,c::r=>if c.k=1 then((iD P (nB sp (vJ c)) r).1,{ dS P c with ex:=rr sp (vJ c) } ::(iD P (nB sp (vJ c)) r).2)else((iD P sp r).1,dS P c::(iD P sp r).2)
def qQ (co w:zY):zY:=if (w.headD 0).toNat%4=3 then co++List.replicate ((4-co.length%4)%4) 0 else co
def Bq (sp:List Ty) (m:Mt):List Int:=(bZ (cY sp m.code).2).1
def zQ (sp:List Ty) (m:Mt):List Ty:=(iD (Bq sp m) (cY sp m.code).1 m.cls).1
def Pf (sp:List Ty) (m:Mt):List R6:=(iD (Bq sp m) (cY sp m.code).1 m.cls).2
def Fs (sp:List Ty) (m:Mt):zY:=(cV (cY sp m.code).2).1
def yg (sp:List Ty) (m:Mt):zY:=cp (Fs sp m) (Pf sp m)
def pG:∀(l:List cE) (sp:List Ty),(cY sp l).2.length=l.length∧(cY sp l).1.length≤sp.length+l.length
 |[],sp=>by simp[cY]
 |x::r,sp=>by
  simp only[cY];have h:=sf sp x.t;split
  ·have:=pG r (nB sp x.t);simp;omega
  ·have:=pG r sp;simp;omega
def JN:∀(l:List cE) (a:Int),(Cd.aE l a).length=l.length+1
 |[],a=>rfl
 |x::r,a=>by simp[Cd.aE,JN r]
def PV (l:List cE):(bZ l).1.length≤161:=by
 unfold bZ;split
 ·simp
 ·split
  ·rw[JN];omega
  ·simp
variable {k:SK} {g:bY} {d:SD} {T:SR} {B τ:AS}
def WY (k:SK) (g:bY) (d:SD) (T:SR) (B:AS) (m:Mt) (r:AV) (h:AS):Prop:=
 r=zI ((qQ d.co (yg d.sp m)).length+1)∧SI k g { d with sp:=zQ d.sp m,co:=qQ d.co (yg d.sp m)++yg d.sp m } T B h
def SI.TE (h:SI k g d T B τ) (m:Mt) (hm:m.code= []):
 ad prog 136 [.ptr k.aO 0,kH m] τ (fun r j=>r=zI 0∧SI k g d T B j) No:=by
 refine ad.ob func136 ?_;simp only[bw,hm];refine gO cW tI tI ?_;intro id3 i;refine gO cW tI tI ?_;exact⟨_,_,Wk.refl _,lR _,rfl,(h.own i).drop (AS.aj (lR _) (h.mD i))⟩
def qW (b:zY) (rs:List R6) (h:Nat):bP:= .cells 219 [.ao 5 (b.map u8) .aI (decide (b= [])),.ao 221 (rs.map dj) (.tok h) (decide (rs= []))]
def xJ (b:zY) (rs:List R6) (h:Nat):qW b rs h= .cells 219 [.ao 5 (b.map u8) .aI (decide (b= [])),.ao 221 (rs.map dj) (.tok h) (decide (rs= []))]:=rfl
def Db (b:zY) (rs:List R6) (x:R6) (h:Nat):qW b (rs++ [x]) h= .cells 219 [.ao 5 (b.map u8) .aI (decide (b= [])),.ao 221 (rs.map dj++ [dj x]) (.tok h) false]:=by simp[qW]
def SI.fq {C:AS}{j l:Nat}{b:zY}{rs:List R6}(h:SI k g d T ((C.set j (qW b rs l)).set l (.tok rs.length)) τ) (n:j≠l) (x:R6):
 SI k g d T ((C.set j (qW b (rs++ [x]) l)).set l (.tok (rs.length+1))) ((τ.set l (.tok (rs.length+1))).set j (qW b (rs++ [x]) l)):=by
 have h1:=(h.wr (i:=l) (b:= .tok (rs.length+1)) (AS.ak _ _ _)).wr (i:=j) (b:=qW b (rs++ [x]) l) (by rw[AS.ae _ _ n,AS.ae _ _ n,AS.ak]);rwa [AS.set_set,AS.set_comm (Ne.symm n),AS.set_set]at h1
def pT:∀(l:List R6),(l.flatMap Bd.qV).length=12*l.length
 |[]=>rfl
 |r::l=>by have:(Bd.qV r).length=12:=rfl;simp only[flatMap_cons,length_append,pT l,this,length_cons];omega
def yD {code:zY}{cls:List R6}(h:cU code cls=true):(cp code cls).length≤100000:=by
 have h1:code.length≤65535∧cls.length≤6:=by simp only[cU,Bool.and_eq_true,decide_eq_true_eq]at h;omega
 have i:∀c,(Bd.mC c code).length=8+code.length:=fun c=>by simp[Bd.mC,aA];omega
 unfold cp;split
 ·split
  ·simp;omega
  ·rw[i];omega
 ·simp only[Bd.tr,length_append,length_replicate,i,pT,length_cons,length_nil];omega
def Ph {a b c:Nat}(h1:a≤100000004) (h2:b+1≤100000):a+(b+1)≤140737488355328:=by omega
def Tr {a c j i:Nat}{P:Prop}[Decidable P] (h:i=(if P then(4-a%4)%4 else 0)) (l:j≤i) (n:c=a+j) (ha:a≤100000000):c≤100000004:=by split at h<;>omega
def R0 (n:Nat):((n:Int).tmod 4=0)=(n%4=0):=by have h:((n:Int).tmod 4)=((n%4:Nat):Int):=rfl;rw[h];simp only[eq_iff_iff];omega
def PR {a c j i:Nat}(l:i=(4-a%4)%4) (n:j≤i) (o:c=a+j):(j<i→((c:Int).tmod 4=0)=False)∧(¬j<i→((c:Int).tmod 4=0)=True∧j=i):=by rw[R0];refine⟨fun h=>eq_false (by omega),fun h=>⟨eq_true (by omega),by omega⟩⟩
def GJ (code:zY) (cls:List R6):∃w r,cp code cls=w::r:=by
 unfold cp;split
 ·split
  ·exact⟨_,_,rfl⟩
  ·exact⟨_,_,rfl⟩
 ·exact⟨_,_,rfl⟩
def SI.TC (h:SI k g d T B τ) (m:Mt) (hm:0<m.code.length) (fd:m.code.length≤160) (ce:m.cls.length≤100) (ec:m.cn=true→m.code= []) (hC:∀c∈m.cls,Ol (Bq d.sp m) c) (hW:cU (Fs d.sp m) (Pf d.sp m)=true) (hd:d.sp.length≤80000) (eb:d.co.length≤100000000):
 ad prog 136 [.ptr k.aO 0,kH m] τ (WY k g d T B m) No:=by
 have b4:m.cn=false:=by
  cases hc:m.cn with
  |false=>rfl
  |true=>have:=ec hc;rw[this]at hm;simp at hm
 have fb:=pG m.code d.sp;refine ad.ob func136 ?_;simp only[bw,b4];have fe:((m.code.length:Int)=0)=False:=eq_false (by omega);have d9:m.code≠ []:=by rintro e;rw[e]at hm;simp at hm
 refine gO cW tI tI ?_;intro id3 a6;have h3:=h.own (b:= .cells 53 (kH m).cells) a6;simp only[bw,aR,b4]at h3;refine gO cW @d9 tI ?_;have b2:=h3.raw m.code hm (by omega) (by omega);simp only[qT]at b2;refine ag.of b2 ?_ (fun _ _ h=>h.elim);rintro r τ1 ⟨c3,e6,rfl,h4⟩;have c8:=fun σ=>rI (cY d.sp m.code).2 .aI c3 (by omega) σ;have db:=fun σ=>xG (cY d.sp m.code).2 .aI c3 (by omega) σ;simp only[qT,Cd.uX,Cd.Wh]at c8 db;have r3:=h4.le id3 _ (AS.ak _ _ _);obtain⟨M,h4⟩:∃M,SI k g { d with sp:=(cY d.sp m.code).1 } T (B.set id3 M) τ1:=⟨_,h4⟩;simp-implicitDefEqProofs [qT];refine gO cW tI (j2 @c8 @db) ?_;rw[show(cV (cY d.sp m.code).2).1=Fs d.sp m from rfl,show(bZ (cY d.sp m.code).2).1=Bq d.sp m from rfl];have b0:zQ d.sp m=(iD (Bq d.sp m) (cY d.sp m.code).1 m.cls).1:=rfl;have bv:Pf d.sp m=(iD (Bq d.sp m) (cY d.sp m.code).1 m.cls).2:=rfl;have em:(Bq d.sp m).length≤1000000:=by have:=PV (cY d.sp m.code).2;unfold Bq;omega
 intro n O;have F:¬id3=n:=nq r3 O;have V:=aK F;refine aq.r9 n 1 221 [] true (ty:=219) (cs:= [.ao 5 ((Fs d.sp m).map u8) .aI (decide (Fs d.sp m= [])),.ai]) (by simp) (by simp) (.inr ⟨by simp,rfl,rfl⟩) ?_;simp-implicitDefEqProofs;intro K u a5;have v:=aK u;have I:¬id3=K:=nq r3 a5;have af:=aK I;have h5:=((h4.own (b:=qW (Fs d.sp m) [] K) O).own (i:=K) (b:= .tok 0) (by simpa[AS.set,u]using a5));generalize hP:Bq d.sp m=P at*;generalize e5:(cY d.sp m.code).1=b6 at*;generalize hE:Fs d.sp m=bb at*;refine gO cW (j3 F @r3 I) tI ?_;refine aq.aQ (α:=(Nat)×(List Ty)×(List R6)×(AS)) ((0,b6,[],((τ1.set n (qW bb [] K)).set K (.tok 0)))) (fun⟨i,sp,rs,τ'⟩=>m.cls.length-i) (fun⟨i,sp,rs,τ'⟩=>i≤m.cls.length∧rs.length=i∧SI k g { d with sp:=sp } T (((B.set id3 M).set n (qW bb rs K)).set K (.tok rs.length)) τ'∧iD P b6 m.cls=((iD P sp (m.cls.drop i)).1,rs++(iD P sp (m.cls.drop i)).2)∧sp.length≤b6.length+i) [(0,?_),(4,?_),(6,?_),(10,?_),(39,?_),(40,?_)] (fun⟨i,sp,rs,τ'⟩=> [(41,zI i)]) (fun⟨i,sp,rs,τ'⟩=>τ') ?_ ?_ ?_ ?_;rotate_left 6
 ·exact gF tI
 ·(try dsimp only);exact lR _
 ·exact⟨by omega,rfl,h5,by simp,by simp⟩
 intro x_ a1;obtain⟨i,sp,rs,τ'⟩:=x_;try dsimp only at a1⊢
 obtain⟨hi,c7,hS,hR,e4⟩:=a1;simp only[eZ];by_cases hlt:i<m.cls.length
 ·have av:IntKind.i64.wrap ((i:Int)+1)=((i+1:Nat):Int):=bQ (by omega);rw[drop_eq_getElem_cons hlt]at hR;simp only[iD]at hR;have eg:=hC m.cls[i] (getElem_mem hlt);generalize hc:m.cls[i]=c at*;have c6:=fun σ=>NS P .aI (decide (P= [])) c eg em σ;simp only[aL,dj]at c6;have Q:=hS.le n _ (by rw[AS.ae _ _ v,AS.ak]);have rk:=hS.le K _ (AS.ak _ _ _);rw[xJ]at Q;refine gO cW (j4 hlt @hc @aL @aH) tI ?_;intro a0 G;have E:¬n=a0:=nq Q G;have H:¬K=a0:=nq rk G;have h6:=hS.own (b:= .cells 158 (fY c).cells) G;simp only[aL,aR]at h6;refine gO cW tI @c6 ?_;intro L l ac;have X:τ' L=none:=by simpa[AS.set,l]using ac
  have o:¬n=L:=nq Q X;have y:¬K=L:=nq rk X;have h7:=h6.own (i:=L) (b:= .cells 221 [zI ((dS P c).kd),zI ((dS P c).ta),zI ((dS P c).tl),zI ((dS P c).ha),zI ((dS P c).hl),zI ((dS P c).ex)]) (by simpa[AS.set,l]using ac);have ea:AS.le (((B.set id3 M).set n (qW bb rs K)).set K (.tok rs.length)) (((((B.set id3 M).set n (qW bb rs K)).set K (.tok rs.length)).set a0 (.cells 158 (fY c).cells)).set L (.cells 221 [zI ((dS P c).kd),zI ((dS P c).ta),zI ((dS P c).tl),zI ((dS P c).ha),zI ((dS P c).hl),zI ((dS P c).ex)])):=
   AS.aj (AS.aj (lR _) (hS.mD G)) (hS.mD X)
  by_cases a3:c.k=1
  ·rw[if_pos a3]at hR;have a2:=h7.put (vJ c) (by simp;omega);simp only[aC,vJ]at a2;rw[a3]at a2;refine gO cW (And.intro (j7 @a3 u @av E @Q H @rk) (j3 l o y)) tI ?_;refine ag.of a2 ?_ (fun _ _ h=>h.elim);rintro r τ2 ⟨rfl,h8⟩;have d7:=h8.le L _ (AS.ak _ _ _);have c1:=h8.le n _ (by rw[AS.ae _ _ o,AS.ae _ _ E,AS.ae _ _ v,AS.ak]);have qk:=h8.le K _ (by rw[AS.ae _ _ y,AS.ae _ _ H,AS.ak]);rw[xJ]at c1;simp-implicitDefEqProofs [d7];refine gO cW (j6 @c1 @qk u @av o y) tI ?_;have h9:=(h8.wr (i:=L) (b:= .cells 221 [zI ((dS P c).kd),zI ((dS P c).ta),zI ((dS P c).tl),zI ((dS P c).ha),zI ((dS P c).hl),zI (rr sp (vJ c))]) (AS.ak _ _ _));rw[AS.set_set]at h9;have et:=(h9.drop (B':=((B.set id3 M).set n (qW bb rs K)).set K (.tok rs.length)) (AS.aj (AS.aj (lR _) (hS.mD G)) (hS.mD X))).fq v { dS P c with ex:=rr sp (vJ c) };have fi:=sf sp (vJ c);refine gB ((i+1,nB sp (vJ c),rs++ [{ dS P c with ex:=rr sp (vJ c) }],((τ2.set L (.cells 221 [zI ((dS P c).kd),zI ((dS P c).ta),zI ((dS P c).tl),zI ((dS P c).ha),zI ((dS P c).hl),zI (rr sp (vJ c))])).set K (.tok (rs.length+1))).set n (qW bb (rs++ [{ dS P c with ex:=rr sp (vJ c) }]) K))) (by(try dsimp only);(rw[Db];exact lR _)) ?_;try dsimp only
   refine⟨hlt,by simp[c7],?_,by rw[hR];simp,by omega⟩;simp only[length_append,length_singleton];exact et
  ·rw[if_neg a3]at hR;refine gO cW (And.intro (j7 @a3 u @av E @Q H @rk) (j3 l o y)) tI ?_;refine gB ((i+1,sp,rs++ [dS P c],(τ'.set K (.tok (rs.length+1))).set n (qW bb (rs++ [dS P c]) K))) (by(try dsimp only);(rw[Db];exact kh (kh (an (by simpa[AS.set,l]using X) (an G (lR _)))))) ?_;try dsimp only
   refine⟨hlt,by simp[c7],?_,by rw[hR];simp,by omega⟩;have:=hS.fq v (dS P c);simpa using this
 ·rw[drop_eq_nil_of_le (by omega)]at hR;simp only[iD,append_nil]at hR;rw[hR]at b0 bv;simp only at b0 bv;rw[bv]at hW;have Q:=hS.le n _ (by rw[AS.ae _ _ v,AS.ak]);rw[xJ]at Q;have cb:=fun σ=>Bv bb rs .aI (.tok K) (decide (bb= [])) (decide (rs= [])) hW σ;have bs:yg d.sp m=cp bb rs:=by unfold yg;rw[hE,bv]
  obtain⟨w0,W0,cc⟩:=GJ bb rs;rw[cc]at bs;rw[cc]at cb;simp only[zq]at cb;refine gO cW (j3 hlt @Q @aH) @cb ?_;intro tw b5;have es:=hS.own (b:= .tok (W0.length+1)) b5;have dp:AS.le B ((((B.set id3 M).set n (qW bb rs K)).set K (.tok rs.length)).set tw (.tok (W0.length+1))):=by
   have f3:B id3=none:=h.mD a6;have f10:B n=none:=by simpa[AS.set,V]using h4.mD O
   have fk:B K=none:=by simpa[AS.set,af]using h4.mD a5
   have fw:B tw=none:=by
    have:=hS.mD b5;rcases Nat.decEq tw id3 with e3|e3
    ·rcases Nat.decEq tw n with ck|ck
     ·rcases Nat.decEq tw K with ek|ek
      ·simpa[AS.set,e3,ck,ek]using this
      ·rw[ek];exact fk
     ·rw[ck];exact f10
    ·rw[e3];exact f3
   exact AS.aj (AS.aj (AS.aj (AS.aj (lR _) f3) f10) fk) fw
  have er:=es.drop dp;generalize (τ'.set tw (.tok (W0.length+1)))=S0 at*;obtain⟨pd,Y,c9⟩:∃pd:Nat,pd=(if w0.toNat%4=3 then(4-d.co.length%4)%4 else 0)∧qQ d.co (yg d.sp m)=d.co++List.replicate pd 0:=by refine⟨_,rfl,?_⟩;rw[bs,qQ];by_cases h3:w0.toNat%4=3<;>simp[h3]
  refine gO cW (j3 F @r3 I) tI ?_;refine aq.aQ (α:=(Nat)×(AS)) ((0,S0)) (fun⟨j,τ2⟩=>pd-j) (fun⟨j,τ2⟩=>j≤pd∧SI k g { d with sp:=sp,co:=d.co++List.replicate j 0 } T B τ2) [(0,?_),(4,?_)] (fun⟨j,τ2⟩=> [(15,.ao 5 ((w0::W0).map u8) .aI false)]) (fun⟨j,τ2⟩=>τ2) ?_ ?_ ?_ ?_;rotate_left 2
  ·exact gF tI
  ·(try dsimp only);exact lR _
  ·exact⟨by omega,by simpa using er⟩
  intro x_ a1;obtain⟨j,τ2⟩:=x_;try dsimp only at a1⊢
  obtain⟨hj,al⟩:=a1;simp only[eZ];have ce:(d.co++List.replicate j 0).length=d.co.length+j:=by simp
  have de:d.co++List.replicate (j+1) 0=(d.co++List.replicate j 0)++ [0]:=by rw[replicate_succ',append_assoc]
  have b3:j=pd→qQ d.co (yg d.sp m)=d.co++List.replicate j 0:=fun e=>by rw[c9,e]
  generalize ft:d.co++List.replicate j 0=cj at*;have bc:=al.aO;have ch:=al.tC;obtain⟨_,_,_,_,_,am,_⟩:=al.ne;simp only[ee]at bc;have dl:=Tr Y hj ce eb;have dn:=yD hW;rw[cc,length_cons]at dn;have e2:=Ph (c:=0) dl dn;have c5:IntKind.i64.wrap ((cj.length:Int)+1)=(cj.length:Int)+1:=az (by clear Y hj;omega) (by clear Y hj;omega);have ci:IntKind.u8.wrap (lr 8 ((w0.toNat:Nat):Int) 3)=((w0.toNat:Nat):Int)%4:=by have:=w0.toNat_lt;have h1:=js (w:=8) (a:=((w0.toNat:Nat):Int)) 2 (by omega) (by omega) (by omega);rw[show((2:Int)^2-1)=3 from rfl,show((2:Int)^2)=4 from rfl]at h1;rw[h1,Bx];omega
  have q:¬k.aO=k.tC:=am;by_cases a9:w0.toNat%4=3
  ·rw[if_pos a9]at Y;have bf:(((w0.toNat:Nat):Int)%4=3)=True:=eq_true (by exact_mod_cast a9);obtain⟨d8,c2⟩:=PR Y hj ce;by_cases be:j<pd
   ·have cd:((cj.length:Int).tmod 4=0)=False:=d8 be;refine gO cW (j6 @bc @ch @ci @bf q @cd) tI ?_;refine gB ((j+1,(τ2.set k.tC (.tok (cj.length+1))).set k.aO (.cells 74 (vY k g { d with sp:=sp,co:=cj++ [0] } 0)))) (by(try dsimp only);exact le_eq (by simp[ee])) ?_;try dsimp only
    refine⟨be,?_⟩;have:=al.DQ (cj++ [0]);rw[AS.set_comm q,length_append]at this;rw[de];exact this
   ·have cd:((cj.length:Int).tmod 4=0)=True:=(c2 be).1;refine gO cW (j6 @bc @ch @ci @bf q @cd) tI ?_;have hz:=al.DQ (cj++w0::W0);rw[AS.set_comm q,length_append]at hz;have a4:=b3 (c2 be).2;refine⟨zI ((cj.length:Int)+1),(τ2.set k.tC (.tok (cj.length+(W0.length+1)))).set k.aO (.cells 74 (vY k g { d with sp:=sp,co:=cj++w0::W0 } 0)),ff (by rw[c5]),le_eq (by simp[ee]),?_,?_⟩
    ·rw[a4]
    ·rw[a4,b0,bs];exact hz
  ·rw[if_neg a9]at Y;have bf:(((w0.toNat:Nat):Int)%4=3)=False:=eq_false (by exact_mod_cast a9);refine gO cW (j5 @bc @ch @ci @bf q) tI ?_;have hz:=al.DQ (cj++w0::W0);rw[AS.set_comm q,length_append]at hz;have a4:=b3 (by rw[Y]at hj⊢;exact Nat.le_zero.1 hj);refine⟨zI ((cj.length:Int)+1),(τ2.set k.tC (.tok (cj.length+(W0.length+1)))).set k.aO (.cells 74 (vY k g { d with sp:=sp,co:=cj++w0::W0 } 0)),ff (by rw[c5]),le_eq (by simp[ee]),?_,?_⟩
   ·rw[a4]
   ·rw[a4,b0,bs];exact hz
end Im
end Go.Proofs.YtknalmoackcpbaaGreat
