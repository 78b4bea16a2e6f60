/- Chapter 10: loading: types. -/
import Derived.Test.YtknalmoackcpbaaGreatLd7
set_option maxRecDepth 100000
set_option maxHeartbeats 3200000
set_option linter.all false
open Go Go.AW Go.Proofs.Tryz List
namespace Go.Proofs.YtknalmoackcpbaaGreat
namespace Im
abbrev mU:bW:=(.S 0 (.S 1 (.S 3 (.S 4 (.S 5 (.A 2 (.A 6 (.A 7 (.S 8 (.A 9 (.A 10 .D .Z) .Z)) (.A 9 (.A 7 (.S 8 (.A 10 .D .Z)) .Z) .Z)) (.A 9 (.R 6 (.A 7 (.S 8 (.A 10 .D .Z)) .Z)) .Z)) (.A 6 (.A 2 (.A 7 (.S 8 (.A 9 (.A 10 .D .Z) .Z)) (.A 9 (.A 7 (.S 8 (.A 10 .D .Z)) .Z) .Z)) (.A 7 (.A 2 (.S 8 (.A 9 (.A 10 .D .Z) .Z)) (.A 9 (.R 2 (.S 8 (.A 10 .D .Z))) .Z)) (.A 9 (.A 2 (.A 7 (.S 8 (.A 10 .D .Z)) .Z) (.A 7 (.R 2 (.S 8 (.A 10 .D .Z))) .Z)) .Z))) (.A 9 (.R 6 (.A 2 (.A 7 (.S 8 (.A 10 .D .Z)) .Z) (.A 7 (.R 2 (.S 8 (.A 10 .D .Z))) .Z))) .Z))))))))
abbrev rm:bW:=(.S 0 (.S 1 (.S 2 (.S 3 (.S 4 (.R 5 (.R 6 (.S 7 (.W 8 (.S 9 (.S 10 (.S 11 (.A 12 .D .Z)))) .Z)))))))))
def bR (S:List Nat):bH prog [(4,mU),(9,rm),(15,(.S 0 (.S 1 (.S 2 (.S 3 (.S 5 (.S 6 (.R 4 (.R 7 (.S 8 (.S 9 (.S 10 .D)))))))))))),(17,(.S 0 (.S 1 (.S 2 (.S 3 (.S 5 (.S 6 (.R 4 (.R 7 (.S 8 (.S 9 (.A 10 (.S 11 (.S 12 (.A 13 .D .Z))) .Z))))))))))))] S:=mixed
variable {k:LK} {e:LE} {d:LD} {B τ:AS}
def LI.up {g:AS}(h:LI k e d B τ) (hle:AS.le τ g):LI k e d B g:=⟨hle _ _ h.id,hle _ _ h.tP,hle _ _ h.tO,hle _ _ h.tF,hle _ _ h.tM,AS.le_trans h.le hle,h.nd,h.fr,h.e⟩
def sC (x:Int):0≤(bM x).2.1∧(bM x).2.1≤65535:=by
 unfold bM;split
 ·simp
 ·split
  ·simp
  ·split
   ·simp only;omega
   ·split
    ·simp only;omega
    ·simp
def Hx (N:zY) (n:Int) (k:Nat) (r:List Int):Except gD TD:=
 cA (kO N (eW r 1)) fun nm=>bK (decide (eW r 0≤31)) 3 0 k (bK (decide ((bM (eW r 2)).2.2=0∧(bM (eW r 2)).1≠4∧(bM (eW r 2)).2.1≤n)) 5 0 k (.ok ⟨nm,eW r 0,(bM (eW r 2)).2.1-1,[],true⟩))
def jE (N:zY) (n:Int):List TD→Nat→List (List Int)→Except gD (List TD)
 |acc,_,[]=> .ok acc
 |acc,k,r::rs=>cA (Hx N n k r) fun t=>jE N n (acc++ [t]) (k+1) rs
def mJ (t:TD) (x:Int):TD:= { t with bg:=t.bg++ [x],fn:=false }
def dk (n:Int):List TD→Nat→List (List Int)→Except gD (List TD)
 |ts,_,[]=> .ok ts
 |ts,i,r::rs=>bK (decide (1≤eW r 0∧eW r 0≤n∧1≤eW r 1∧eW r 1≤n)) 5 3 i
  (match ts[(eW r 0-1).toNat]? with
   |none=> .error (0,0,0)
   |some t=>bK (decide (t.bg.length<4)) 4 3 i (dk n (ts.set (eW r 0-1).toNat (mJ t (eW r 1-1))) (i+1) rs))
def ki (e:LE):Except gD (List TD):=cA (jE e.N e.t0.length [] 0 e.t0) fun ts=>dk e.t0.length ts 0 e.t3
def Vn {l:List (List Int)}(h:nD 5 l) {i:Nat}(j:i<l.length):∃a b c x y,l[i]? =some [a,b,c,x,y]∧l.drop i= [a,b,c,x,y]::l.drop (i+1)∧(0≤a∧a<4294967296)∧(0≤b∧b<4294967296)∧(0≤c∧c<4294967296):=by
 obtain⟨h1,g⟩:=h.2 l[i] (getElem_mem j)
 match n:l[i],h1,g with
 |[a,b,c,x,y],_,g=>exact⟨a,b,c,x,y,by rw[getElem?_eq_getElem j,n],by rw[drop_eq_getElem_cons j,n],g a (by simp),g b (by simp),g c (by simp)⟩
def yk (a b c x y:Int):uW [a,b,c,x,y]= .ao 3 [zI a,zI b,zI c,zI x,zI y] .aI false:=rfl
def Sf {l:List (List Int)}(h:nD 2 l) {i:Nat}(j:i<l.length):∃a b,l[i]? =some [a,b]∧l.drop i= [a,b]::l.drop (i+1)∧(0≤a∧a<4294967296)∧(0≤b∧b<4294967296):=by
 obtain⟨h1,g⟩:=h.2 l[i] (getElem_mem j)
 match n:l[i],h1,g with
 |[a,b],_,g=>exact⟨a,b,by rw[getElem?_eq_getElem j,n],by rw[drop_eq_getElem_cons j,n],g a (by simp),g b (by simp)⟩
def BQ (a b:Int):uW [a,b]= .ao 3 [zI a,zI b] .aI false:=rfl
def qp (t:TD):AV:= .agg [zS t.name,zI t.flags,zI t.ext,.ai]
def zO (t:TD):qp t= .agg [zS t.name,zI t.flags,zI t.ext,.ai]:=rfl
def LI.Oy (h:LI k e d B τ) (v:AV):LI k e { d with ty:=v } B (τ.set k.id (.cells 108 (Dy k e { d with ty:=v } 0))):=by
 obtain⟨n1,n2,i,g,y,w,u,q,o,l⟩:=h.ne;refine h.mk' (AS.ak _ _ _) ?_ ?_ ?_ ?_ fun j n j2 j3 j4 j5=> ?_
 ·rw[AS.ae _ _ n1.symm];exact h.tP
 ·rw[AS.ae _ _ n2.symm];exact h.tO
 ·rw[AS.ae _ _ i.symm];exact h.tF
 ·rw[AS.ae _ _ g.symm];exact h.tM
 ·rw[AS.ae _ _ n]
def xZ (x:TD×Nat):AV:= .agg [zS x.1.name,zI x.1.flags,zI x.1.ext,.ao 3 (x.1.bg.map iV) (.tok x.2) x.1.fn]
def Fj (x:TD×Nat):xZ x= .agg [zS x.1.name,zI x.1.flags,zI x.1.ext,.ao 3 (x.1.bg.map iV) (.tok x.2) x.1.fn]:=rfl
def LP (a n:Nat):List (Nat×TypeId):=(List.range' a n).map fun i=>(i*4+3,3)
def Ml {α:Type}(A:List α) (w:α) {i:Nat}(h:i<A.length):A.set i w=A.take i++w::A.drop (i+1):=by rw[set_eq_take_append_cons_drop,if_pos h]
def Fv:∀(ts:List TD) (l:List Nat) (h g:List AV),l.length=ts.length→(∀t∈ts,t.bg= []∧t.fn=true)→(∀v∈h,v.cells.length=4)→(∀v∈g,v.cells.length=4)→
 BN (aB (h++(ts.map qp++g))) (LP h.length ts.length) l=aB (h++((ts.zip l).map xZ++g))
 |[],l,h,g,hl,_,_,_ =>by obtain rfl:l= []:=length_eq_zero_iff.1 (by simpa using hl);simp[LP,BN]
 |t::ts,[],h,g,hl,_,_,_ =>by simp at hl
 |t::ts,o::l,h,g,hl,hf,hd,F=>by
  have G:∀v∈h++(qp t::ts.map qp++g),v.cells.length=4:=by
   intro v n;simp only[mem_append,mem_cons,mem_map]at n;rcases n with n|(rfl|⟨y,_,rfl⟩)|n
   ·exact hd v n
   ·rfl
   ·rfl
   ·exact F v n
  have u:h.length<(h++(qp t::ts.map qp++g)).length:=by simp
  have E:h.length*4+3<(aB (h++(qp t::ts.map qp++g))).length:=by rw[dI G];omega
  have w:(h++(qp t::ts.map qp++g))[h.length]=qp t:=by simp
  have H:(aB (h++(qp t::ts.map qp++g))).set (h.length*4+3) (.ao 3 [] (.tok o) true)=aB ((h++ [xZ (t,o)])++(ts.map qp++g)):=by rw[Ml _ _ E,Cd.rF (m:=4) G (i:=h.length) (j:=3) u (by omega) (v:=xZ (t,o)) (by rw[w];simp[xZ,qp,(hf t (by simp)).1,(hf t (by simp)).2])];congr 1;rw[set_append_right _ _ (by omega)];simp
  have q:=Fv ts l (h++ [xZ (t,o)]) g (by simpa using hl) (fun y I=>hf y (by simp[I])) (by
   intro v n;rcases mem_append.1 n with n|n
   ·exact hd v n
   ·simp at n;subst n;rfl) F
  simp only[length_append,length_singleton]at q;simp only[LP,length_cons,List.range'_succ,map_cons,BN];rw[show h++(qp t::ts.map qp++g)=h++((qp t::ts.map qp)++g) from rfl]at H;rw[H];simp only[LP]at q;rw[q];simp
def LI.erase {A:AS}{g:Nat}{b:bP}(h:LI k e d A τ) (o:A g=some b) (q:AS.le B A) (h0:B g=none):∃S,S g=none∧τ=S.set g b∧LI k e d B S:=by
 have n:∀ {j},j∈ [k.id,k.tP,k.tO,k.tF,k.tM]→j≠g:=by intro j i l;rw[l]at i;rw[h.fr g i]at o;cases o
 refine⟨fun j=>if j=g then none else τ j,by simp,?_,?_,?_,?_,?_,?_,?_,h.nd,fun j i=> ?_,h.e⟩
 ·funext j;by_cases l:j=g
  ·subst l;simp[h.le _ _ o]
  ·simp[AS.set,l]
 ·simpa[n (j:=k.id) (by simp)]using h.id
 ·simpa[n (j:=k.tP) (by simp)]using h.tP
 ·simpa[n (j:=k.tO) (by simp)]using h.tO
 ·simpa[n (j:=k.tF) (by simp)]using h.tF
 ·simpa[n (j:=k.tM) (by simp)]using h.tM
 ·intro j x i;have l:j≠g:=nq h0 i;simp only[l,if_false];exact h.le _ _ (q _ _ i)
 ·cases u:B j with
  |none=>rfl
  |some y=>have:=q j y u;rw[h.fr j i]at this;cases this
def LI.fy {g:Nat}{b0 I:bP}{i:List Nat}{q:AS}(h:LI k e d (B.set g b0) τ) (H:B g=none) (hf:∀t∈i,τ t=none) (h1:q g=some I) (O:∀t∈i,q t=some (.tok 0)) (M:∀j,j≠g→j ∉ i→q j=τ j):
 ∃A,LI k e d A q∧A g=some I∧(∀t∈i,A t=some (.tok 0))∧AS.le B A∧(∀t∈i,B t=none):=by
 have L:∀ {j},j∈ [k.id,k.tP,k.tO,k.tF,k.tM]→j≠g∧B j=none:=by
  intro j l;have w:=h.fr j l;have v:j≠g:=by rintro rfl;simp at w
  exact⟨v,by rwa [AS.ae _ _ v]at w⟩
 have J:g ∉ i:=fun hm=>by have:=hf g hm;rw[h.le _ _ (AS.ak _ _ _)]at this;cases this
 have K:∀ {j},τ j≠none→j ∉ i:=fun l hm=>l (hf _ hm);have u:∀ {j x},j∈ [k.id,k.tP,k.tO,k.tF,k.tM]→τ j=some x→q j=some x:=fun {j x} l F=>by rw[M j (L l).1 (K (by rw[F];simp))];exact F
 have E:∀t∈i,B t=none:=fun t ht=>by
  cases F:B t with
  |none=>rfl
  |some y=>
   have G:t≠g:=by rintro rfl;exact J ht
   have:=h.le t y (by rw[AS.ae _ _ G];exact F);rw[hf t ht]at this;cases this
 refine⟨fun j=>if j=g then some I else if j∈i then some (.tok 0)else B j,⟨u (by simp) h.id,u (by simp) h.tP,u (by simp) h.tO,u (by simp) h.tF,u (by simp) h.tM,fun j x l=> ?_,h.nd,fun j l=> ?_,h.e⟩,by simp,fun t ht=> ?_,fun j x l=> ?_,E⟩
 ·by_cases o:j=g
  ·subst o;rw[if_pos rfl]at l;rw[h1];exact l
  ·rw[if_neg o]at l;by_cases n:j∈i
   ·rw[if_pos n]at l;rw[O j n];exact l
   ·rw[if_neg n]at l;rw[M j o n];exact h.le j x (by rw[AS.ae _ _ o];exact l)
 ·obtain⟨g1,g2⟩:=L l;have g3:j ∉ i:=by
   apply K;simp only[mem_cons,not_mem_nil,or_false]at l;rcases l with rfl|rfl|rfl|rfl|rfl
   ·rw[h.id];simp
   ·rw[h.tP];simp
   ·rw[h.tO];simp
   ·rw[h.tF];simp
   ·rw[h.tM];simp
  simp only[g1,g3,if_false];exact g2
 ·have:t≠g:=by rintro rfl;exact J ht
  simp[this,ht]
 ·have o:j≠g:=nq H l;have n:j ∉ i:=fun hm=>by rw[E j hm]at l;cases l
  simp[o,n,l]
def y7 {N:zY}{n:Int} :∀ {rs:List (List Int)}{acc:List TD}{i:Nat}{ts:List TD},jE N n acc i rs= .ok ts→(∀t∈acc,t.bg= []∧t.fn=true)→ ∀t∈ts,t.bg= []∧t.fn=true
 |[],acc,i,ts,h,ha=>by simp only[jE,Except.ok.injEq]at h;subst h;exact ha
 |r::rs,acc,i,ts,h,ha=>by
  simp only[jE,Hx,fO,iI,cL]at h;rcases aG h with⟨nm,_,h⟩|⟨f,_,h⟩
  ·rcases aw h with⟨_,h⟩|⟨_,h⟩
   ·rcases aw h with⟨_,h⟩|⟨_,h⟩
    ·refine y7 h fun t ht=> ?_;rcases mem_append.1 ht with ht|ht
     ·exact ha t ht
     ·simp at ht;subst ht;exact⟨rfl,rfl⟩
    ·cases h
   ·cases h
  ·cases h
def Qv (ts:List TD) (g:List AV) (h:∀v∈ts.map qp++g,v.cells.length=4):∀p∈LP 0 ts.length,p.1<(aB (ts.map qp++g)).length∧(aB (ts.map qp++g)).getD p.1 .any= .ai:=by
 intro p l;obtain⟨f1,f2⟩:=gx _ h;simp only[LP,mem_map,mem_range'_1]at l;obtain⟨i,j,rfl⟩:=l;simp only[Nat.zero_add,Nat.zero_le,true_and]at j;have hl:i<(ts.map qp++g).length:=by simp;omega
 refine⟨by rw[f1];simp only;omega,?_⟩;simp only;have n:(ts.map qp++g).getD i .any=qp ts[i]:=by rw[getD_eq_getElem?_getD,getElem?_append_left (by simpa using j),getElem?_map,getElem?_eq_getElem j];rfl
 rw[f2 i 3 hl (by omega),n];rfl
def Qw (n:Nat):((LP 0 n).map (·.1)).Nodup:=by simp only[LP,map_map];rw[nodup_iff_pairwise_ne,pairwise_map];exact(nodup_range' (s:=0) (n:=n) (step:=1)).imp fun h e=>h (by simp only[Function.comp_def]at e;omega)
def SL {l:List Nat}(h:l.Nodup) {i j:Nat}(u:i<l.length) (q:j<l.length) (n:i≠j):l[i]≠l[j]:=by
 have o:=pairwise_iff_getElem.1 h;rcases Nat.lt_or_gt_of_ne n with g|g
 ·exact o i j u q g
 ·exact fun e=>o j i q u g e.symm
def Iz (a b:List AV):Prop:=b.length=a.length∧ ∀k,AV.Wk prog (a.getD k .any) (b.getD k .any)
def Iz.refl (a:List AV):Iz a a:=⟨rfl,fun _ =>Wk.refl _⟩
def Iz.app {a b c d:List AV}(h1:Iz a b) (j:Iz c d):Iz (a++c) (b++d):=by
 refine⟨by simp[h1.1,j.1],fun k=> ?_⟩;by_cases i:k<a.length
 ·have h:(a++c).getD k .any=a.getD k .any:=by rw[getD_eq_getElem?_getD,getElem?_append_left i,←getD_eq_getElem?_getD]
  have g:(b++d).getD k .any=b.getD k .any:=by rw[getD_eq_getElem?_getD,getElem?_append_left (by rw[h1.1];exact i),←getD_eq_getElem?_getD]
  rw[h,g];exact h1.2 k
 ·have h:(a++c).getD k .any=c.getD (k-a.length) .any:=by rw[getD_eq_getElem?_getD,getElem?_append_right (by omega),←getD_eq_getElem?_getD]
  have g:(b++d).getD k .any=d.getD (k-a.length) .any:=by rw[getD_eq_getElem?_getD,getElem?_append_right (by rw[h1.1];omega),h1.1,←getD_eq_getElem?_getD]
  rw[h,g];exact j.2 _
def Iz.td (i:List AV):∀(us:List TD) (g:List Nat),g.length=us.length→Iz (aB ((us.zip g).map xZ++i)) (aB (us.map nA++i))
 |[],g,_ =>by simpa using Iz.refl _
 |u::us,[],h=>by simp at h
 |u::us,l::g,h=>by
  have j:=Iz.td i us g (by simpa using h);simp only[zip_cons_cons,map_cons,cons_append,jU];refine Iz.app ⟨rfl,fun k=> ?_⟩ j;simp only[Fj,eI,aR]
  match k with
  |0=>exact Wk.refl _
  |1=>exact Wk.refl _
  |2=>exact Wk.refl _
  |3=>simp
  |k+4=>exact Wk.refl _
def Yv (k:LK) (e:LE) (d:LD) (B:AS) (ts:List TD) (r:AV) (g:AS):Prop:=r= .bI []∧ ∃v S,GV prog 46 (ts.map nA) v S g∧LI k e { d with ty:=v } B S
def LI.types (h:LI k e d B τ) (f5:d.ty= .ai) (hn:e.t0.length≤32):
 ad prog 109 [.ptr k.id 0] τ (RL (ki e) (Yv k e d B)) (TL (ki e) B):=by
 have hm:=fun a t r σ=>lg a t r σ;obtain⟨X,F⟩:∃X,ki e=X:=⟨_,rfl⟩;rw[F];unfold ki at F;have cc:=h.id;rw[cf]at cc;simp only[cv]at cc;have iC:∀ {f τ'},X= .error f→AS.le B τ'→ ∃σ',AS.le σ' τ'∧TL X B (pQ f) σ':=fun {f τ'} hx hle=>⟨τ',lR _,_,hx,rfl,hle⟩;have h0:=h.e.t0;have d3:=h.e.t3;obtain⟨nt,er⟩:∃nt,e.t0.length=nt:=⟨_,rfl⟩;rw[er]at F hn;obtain⟨Y,hY⟩:∃Y,jE e.N nt [] 0 e.t0=Y:=⟨_,rfl⟩;rw[hY]at F;refine ad.ob func109 ?_;refine gO bR (j2 @cc @er) tI ?_;refine aq.aQ (α:=(Nat)×(List TD)×(AV)×(AS)×(AS)) ((0,[],.ai,τ,τ)) (fun⟨i,ts,v,S,M⟩=>nt-i) (fun⟨i,ts,v,S,M⟩=>i≤nt∧ts.length=i∧jE e.N nt ts i (e.t0.drop i)=Y∧GV prog 46 (ts.map qp) v S M∧LI k e { d with ty:=v } B S) [(0,?_),(2,?_),(26,?_),(27,?_)] (fun⟨i,ts,v,S,M⟩=> [(28,zI i)]) (fun⟨i,ts,v,S,M⟩=>M) ?_ ?_ ?_ ?_;rotate_left 4
 ·exact gF tI
 ·exact gT
 ·exact⟨by omega,rfl,hY,GV.nil,by rw[←f5];exact h⟩
 intro x_ K;obtain⟨i,ts,v,S,M⟩:=x_;try dsimp only at K⊢
 obtain⟨hi,ei,o,hG,T⟩:=K;simp only[eZ];have h2:=T.up hG.le;by_cases cb:i<nt
 ·obtain⟨a,b,c,x,y,E,b0,ha,hb,hM⟩:=Vn h0 (i:=i) (by omega);rw[b0]at o;simp only[jE,Hx,eW,getD_cons_zero,getD_cons_succ,fO,iI,cL]at o;have hI:((i:Int)<nt)=True:=by simp;omega
  have bad:=fun a σ=>ep a 0 i (by omega) (by omega) (by omega) (by omega) σ;have wi:zW ((i:Int)+1)=i+1:=az (by omega) (by omega);have es:=h2.name b hb.1 hb.2;rcases aG o with⟨nm,hN,o⟩|⟨f,hN,o⟩
  ·have bc:=RL.ok es hN;have bb:=fun j x (hj:M j=none)=>RL.ok ((h2.own (b:=x) hj).name b hb.1 hb.2) hN;refine gO (S:= [4]) bR (j3 hI @E @yk) tI ?_;try apply aq.seq
   refine HV (α:=Nat) (fun v=>M v=none) (fun v=> [(0,.ptr k.id 0),(2,zI nt),(3,zI i),(4,uW [a,b,c,x,y]),(5,.ptr v 0),(26,.ao 44 (e.t0.map uW) .aI (decide (e.t0= []))),(27,zI nt),(28,zI i)])
    (fun v=>M.set v (.cells 46 [zS nm,zI a,zI 0,.ai])) (fun _ _ =>rfl) ?_ ?_
   ·(((with_reducible apply dX 4 mU);refine dY mixed ?_);simp-implicitDefEqProofs [yk])
    repeat' (first
     |(with_reducible apply j2)
     |(intro id5 ab;try simp-implicitDefEqProofs [yk])
     |(refine ag.ay bc ?_;try simp-implicitDefEqProofs)
     |(refine ag.ay (bb _ _ (by assumption)) ?_;try simp-implicitDefEqProofs))
    all_goals
     refine fK.mk (id5) (gF tI) gT ?_;try dsimp only
     exact(by assumption)
   ·intro id5 ab;have ew:=hG.fresh ab;have e6:=T.own (b:= .cells 46 [zS nm,zI a,zI 0,.ai]) ew;have e3:=hG.set (b:= .cells 46 [zS nm,zI a,zI 0,.ai]) ab;have e4:B id5=none:=T.mD ew;have c0:AS.le B (B.set id5 (.cells 46 [zS nm,zI a,zI 0,.ai])):=AS.aj (lR _) e4;have k5:(M.set id5 (.cells 46 [zS nm,zI a,zI 0,.ai])) id5=some (.cells 46 [zS nm,zI a,zI 0,.ai]):=AS.ak _ _ _;have fk:(S.set id5 (.cells 46 [zS nm,zI a,zI 0,.ai])) id5=some (.cells 46 [zS nm,zI a,zI 0,.ai]):=AS.ak _ _ _;have ft:(B.set id5 (.cells 46 [zS nm,zI a,zI 0,.ai])) id5=some (.cells 46 [zS nm,zI a,zI 0,.ai]):=AS.ak _ _ _;generalize (B.set id5 (.cells 46 [zS nm,zI a,zI 0,.ai]))=A at*;generalize (S.set id5 (.cells 46 [zS nm,zI a,zI 0,.ai]))=S2 at*;generalize (M.set id5 (.cells 46 [zS nm,zI a,zI 0,.ai]))=τ2 at*;have V:AS.le B τ2:=AS.le_trans c0 (AS.le_trans e6.le e3.le);have ap:=fun σ=>C6 c σ;have e0:=sC c;generalize bM c=cs at ap e0 o;obtain⟨c1,c2,c3⟩:=cs;simp only at ap e0 o;have wc:zW (c2-1)=c2-1:=az (by omega) (by omega);rcases aw o with⟨H,o⟩|⟨H,o⟩
    ·have H:a≤31:=by simpa using H
     rcases aw o with⟨J,b2⟩|⟨J,o⟩
     ·simp only[decide_eq_true_eq]at J;obtain⟨J,q3,q4⟩:=J;subst J;have gI:=e6.wr (b:= .cells 46 (qp ⟨nm,a,c2-1,[],true⟩).cells) ft;have dl:=Cd.tW (b:= .cells 46 (qp ⟨nm,a,c2-1,[],true⟩).cells) e3 fk;have dn:AS.le B (A.set id5 (.cells 46 (qp ⟨nm,a,c2-1,[],true⟩).cells)):=AS.aj c0 e4;have b3:=gI.drop dn;simp only[zO,aR]at dl b3;refine gO (S:= [9]) bR (j6 @yk @H @q3 @q4 @wc @k5) (j2 @hm @ap) ?_;try apply aq.seq
      have c9:(τ2.set id5 (.cells 46 [zS nm,zI a,zI (c2-1),.ai])) id5=some (.cells 46 [zS nm,zI a,zI (c2-1),.ai]):=AS.ak _ _ _;generalize (τ2.set id5 (.cells 46 [zS nm,zI a,zI (c2-1),.ai]))=τ3 at*;generalize (S2.set id5 (.cells 46 [zS nm,zI a,zI (c2-1),.ai]))=S3 at*;have h5:=b3.up dl.le;have bf:=h5.id;rw[cf]at bf;simp only[cv]at bf
      (((with_reducible apply dX 9 rm);refine dY mixed ?_);simp-implicitDefEqProofs [bf,c9])
      refine ri.A9 (by decide) 46 (ts.map qp) [qp ⟨nm,a,c2-1,[],true⟩] S3 (by simp) (by simp) (by simp) (by simp) (by simpa using dl) (by simp[fE,underlying22,zO]) (by simp[zO]) (by simp[kr];omega) (by simp;omega) ?_;intro v2 τ4 de;obtain⟨o1,o2,o3,rfl⟩:∃a b c,v2= .fH a 0 b c:=by
       rcases de with⟨h1,_,_⟩|⟨_,_,_,_,h,_⟩
       ·simp at h1
       ·exact⟨_,_,_,h⟩
      have h6:=b3.up de.le;have be:=h6.id;rw[cf]at be;simp only[cv]at be;simp-implicitDefEqProofs [be];have f8:=Cd.tW (b:= .cells 108 (Dy k e { d with ty:= .fH o1 0 o2 o3 } 0)) de b3.id;have h7:=b3.Oy (.fH o1 0 o2 o3);refine gO bR @wi tI ?_;refine gB ((i+1,ts++ [⟨nm,a,c2-1,[],true⟩],.fH o1 0 o2 o3,S3.set k.id (.cells 108 (Dy k e { d with ty:= .fH o1 0 o2 o3 } 0)),τ4.set k.id (.cells 108 (Dy k e { d with ty:= .fH o1 0 o2 o3 } 0)))) (by(try dsimp only);exact le_eq (by rw[cf];simp[cv])) ?_;try dsimp only
      exact⟨by omega,by simp[ei],b2,by simpa using f8,h7⟩
     ·have J:¬(c3=0∧c1≠4∧c2≤nt):=by simpa using J
      rw[o]at F;by_cases q3:c3=0
      ·by_cases q4:c1=4
       ·subst q3 q4;refine gO bR (j2 @yk @H) (j3 @hm @ap @bad) ?_;exact iC F.symm V
       ·have q5:¬c2≤nt:=fun hh=>J ⟨q3,q4,hh⟩;subst q3;refine gO bR (j4 @yk @H @q4 @q5) (j3 @hm @ap @bad) ?_;exact iC F.symm V
      ·refine gO bR (j3 @yk @H @q3) (j3 @hm @ap @bad) ?_;exact iC F.symm V
    ·have H:¬a≤31:=by simpa using H
     rw[o]at F;refine gO bR (j2 @yk @H) @bad ?_;exact iC F.symm V
  ·have bc:=RL.bad es hN;rw[o]at F;have bb:=fun j x (hj:M j=none)=>RL.bad ((h2.own (b:=x) hj).name b hb.1 hb.2) hN;refine gO (S:= [4]) bR (j3 hI @E @yk) tI ?_;try apply aq.seq
   (((with_reducible apply dX 4 mU);refine dY mixed ?_);simp-implicitDefEqProofs)
   repeat' (first
    |(with_reducible apply j2)
    |(intro id5 ab;try simp-implicitDefEqProofs [yk])
    |(refine ag.DG bc ?_;intro τ2 Q;try simp-implicitDefEqProofs)
    |(refine ag.DG (bb _ _ (by assumption)) ?_;intro τ2 Q;try simp-implicitDefEqProofs))
   all_goals first
    |exact iC F.symm (AS.le_trans h2.le Q)
    |exact iC F.symm (AS.le_trans (AS.le_trans h2.le (an (by assumption) (lR _))) Q)
 ·have hI:((i:Int)<nt)=False:=by simp;omega
  have b1:e.t0.drop i= []:=drop_eq_nil_iff.2 (by omega);rw[b1]at o;simp only[jE]at o;rw[←o]at F hY;simp only[cA]at F;have cj:=y7 hY (by simp);have af:=h2.id;rw[cf]at af;simp only[cv]at af;have hQ:=d3.1;refine gO (S:= [11]) bR hI tI ?_;rcases hG with⟨f7,rfl,rfl⟩|⟨G,cap,g,o0,rfl,rfl,cl,e1⟩
  ·have eg:ts= []:=by simpa using f7
   subst eg;have em:nt=0:=by simp at ei;omega
   subst em;refine gO bR @af tI ?_;refine aq.aQ (α:=(Nat)) (0) (fun j=>e.t3.length-j) (fun j=>j≤e.t3.length∧dk 0 [] j (e.t3.drop j)=X) [(0,?_),(2,?_),(91,?_),(92,?_)] (fun j=> [(93,zI j)]) (fun j=>M) ?_ ?_ ?_ ?_;rotate_left 4
   ·exact gF tI
   ·exact gT
   ·exact⟨by omega,by simpa using F⟩
   intro j K;try dsimp only at K⊢
   obtain⟨hj,o⟩:=K;simp only[eZ];by_cases cb:j<e.t3.length
   ·obtain⟨a,b,E,b0,ha,hb⟩:=Sf d3 cb;rw[b0]at o;simp only[dk,eW,getD_cons_zero,getD_cons_succ]at o;have hJ:((j:Int)<e.t3.length)=True:=by simp;omega
    have bad:=fun a σ=>ep a 3 j (by omega) (by omega) (by omega) (by omega) σ;rcases aw o with⟨q,_⟩|⟨q,o⟩
    ·simp only[decide_eq_true_eq]at q;omega
    ·by_cases H:1≤a
     ·have J:¬a≤0:=by omega
      refine gO bR (j5 @hJ @E @BQ @H @J) @bad ?_;exact iC o h2.le
     ·refine gO bR (j4 @hJ @E @BQ @H) @bad ?_;exact iC o h2.le
   ·have hJ:((j:Int)<e.t3.length)=False:=by simp;omega
    have b1:e.t3.drop j= []:=drop_eq_nil_iff.2 (by omega);rw[b1]at o;simp only[dk]at o;refine gO bR @hJ tI ?_;exact⟨.bI [],M,Wk.refl _,lR _,[],o.symm,rfl,.ai,M,GV.nil,T⟩
  ·simp only[length_map]at e1 T;have e7:=T.own (b:= .cells 46 (aB (ts.map qp++g))) o0;have ce:B G=none:=T.mD o0;have I:∀v∈ts.map qp++g,v.cells.length=4:=fun v L=>(cl v L).trans (by simp);refine aq.J7 G (ty:=46) (LP 0 ts.length) (cs:=aB (ts.map qp++g)) (AS.ak _ _ _) (Qv ts g I) (Qw _) ?_;intro l τ2 a1 a2 a3 a4 a5 a6;have g4:l.length=ts.length:=by simpa[LP]using a1
   have c8:=Fv ts l [] g g4 cj (by simp) (fun v L=>I v (mem_append_right _ L));simp only[nil_append,length_nil]at c8;rw[c8]at a4;obtain⟨A,e5,gs,ge,gc,f9⟩:=e7.fy ce a3 a4 a5 a6;have bs:=e5.id;rw[cf]at bs;simp only[cv]at bs;have ej:∀v∈g,v.cells.length=4:=fun v L=>I v (mem_append_right _ L);clear cl I e7 a3 a4 a5 a6 c8 af cc;refine gO bR @bs tI ?_;refine aq.aQ (α:=(Nat)×(List TD)×(AS)×(AS)) ((0,ts,A,τ2)) (fun⟨j,us,A',τ3⟩=>e.t3.length-j) (fun⟨j,us,A',τ3⟩=>j≤e.t3.length∧us.length=nt∧dk nt us j (e.t3.drop j)=X∧LI k e { d with ty:= .fH G 0 ts.length cap } A' τ3∧A' G=some (.cells 46 (aB ((us.zip l).map xZ++g)))∧(∀y (hy:y<us.length) (f0:y<l.length),A' l[y]=some (.tok us[y].bg.length))∧AS.le B A') [(0,?_),(2,?_),(91,?_),(92,?_)] (fun⟨j,us,A',τ3⟩=> [(93,zI j)]) (fun⟨j,us,A',τ3⟩=>τ3) ?_ ?_ ?_ ?_;rotate_left 4
   ·exact gF tI
   ·exact gT
   ·exact⟨by omega,by omega,by simpa using F,e5,gs,fun y hy f0=>by rw[ge _ (getElem_mem _),(cj _ (getElem_mem hy)).1];rfl,gc⟩
   intro x_ K;obtain⟨j,us,A',τ3⟩:=x_;try dsimp only at K⊢
   obtain⟨hj,f4,o,Q,av,c5,P⟩:=K;simp only[eZ];by_cases cb:j<e.t3.length
   ·obtain⟨a,b,E,b0,ha,hb⟩:=Sf d3 cb;rw[b0]at o;simp only[dk,eW,getD_cons_zero,getD_cons_succ]at o;have hJ:((j:Int)<e.t3.length)=True:=by simp;omega
    have bad:=fun a σ=>ep a 3 j (by omega) (by omega) (by omega) (by omega) σ;have wj:zW ((j:Int)+1)=j+1:=az (by omega) (by omega);rcases aw o with⟨q,b2⟩|⟨q,o⟩
    ·simp only[decide_eq_true_eq]at q;obtain⟨H,J,q3,q4⟩:=q;obtain⟨y,hy⟩:∃y:Nat,a=(y+1:Nat):=⟨(a-1).toNat,by omega⟩;have wy:zW (a-1)=y:=by rw[show a-1=y by omega];exact az (by omega) (by omega)
     have eb:y<us.length:=by omega
     have fz:y<l.length:=by omega
     rw[show(a-1).toNat=y by omega,getElem?_eq_getElem eb]at b2;simp only at b2;have c4:=c5 y eb fz;generalize hu:us[y]=u at*;generalize a8:l[y]=tk at*;have h4:∀v∈(us.zip l).map xZ++g,v.cells.length=4:=by
      intro v L;rcases mem_append.1 L with L|L
      ·obtain⟨w,_,rfl⟩:=mem_map.1 L;rfl
      ·exact ej v L
     have d8:y<((us.zip l).map xZ++g).length:=by simp;omega
     have d9:((us.zip l).map xZ++g)[y]=xZ (u,tk):=by rw[getElem_append_left (by simp;omega)];simp[hu,a8]
     have cd:=Cd.lT (m:=4) h4 (i:=y) (j:=3) d8 (by omega);rw[d9]at cd;simp only[Fj,aR]at cd;have ek:=fun w=>Cd.rF (m:=4) h4 (i:=y) (j:=3) d8 (by omega) (v:=xZ (mJ u w,tk)) (w:= .ao 3 (u.bg.map iV++ [iV w]) (.tok tk) false) (by rw[d9];simp[xZ,mJ]);have hO:y*4+4≤(aB ((us.zip l).map xZ++g)).length:=by rw[dI h4];omega
     have ca:=Q.le _ _ av;have d7:=Q.le _ _ c4;generalize aB ((us.zip l).map xZ++g)=CL at*;have ac:=Q.id;rw[cf]at ac;simp only[cv]at ac;have al:y*4+3<CL.length:=by omega
     have bv:CL[y*4+3]= .ao 3 (u.bg.map iV) (.tok tk) u.fn:=by rw[getElem?_eq_getElem al]at cd;simpa using cd
     have O:¬G=tk:=nq ca d7;have fa:¬tk=G:=fun e'=>O e'.symm;have wb:zW (b-1)=b-1:=az (by omega) (by omega);rcases aw b2 with⟨q5,db⟩|⟨q5,db⟩
     ·have hD:u.bg.length<4:=by simpa using q5
      have q5:((u.bg.length:Int)<4)=True:=by simp;omega
      refine gO (S:= [17]) bR (j2 (j7 @hJ @E @BQ @H @J @q3 @q4) (j6 @wy @ac @ca @bv @al @q5)) @hm ?_;refine gO bR (j6 @ca @bv @al @d7 @O @wb) tI ?_;have hz:(((us.zip l).map xZ++g).set y (xZ (mJ u (b-1),tk)))=(((us.set y (mJ u (b-1))).zip l).map xZ++g):=by
       rw[set_append_left _ _ (by simp;omega)];congr 1;apply ext_getElem
       ·simp
       ·intro n g1 g2;simp only[getElem_set,getElem_map,getElem_zip];split
        ·rename_i e';subst e';rw[a8]
        ·rfl
      have a9:=ek (b-1);rw[hz]at a9;have hL:A' G=some (.cells 46 CL):=av;have h5:=(Q.wr (i:=tk) (b:= .tok (u.bg.length+1)) c4).wr (i:=G) (b:= .cells 46 (aB (((us.set y (mJ u (b-1))).zip l).map xZ++g))) (by rw[AS.ae _ _ O];exact av);refine jC.mk ((j+1,us.set y (mJ u (b-1)),(A'.set tk (.tok (u.bg.length+1))).set G (.cells 46 (aB (((us.set y (mJ u (b-1))).zip l).map xZ++g))),(τ3.set tk (.tok (u.bg.length+1))).set G (.cells 46 (aB (((us.set y (mJ u (b-1))).zip l).map xZ++g))))) gM (gF @wj) (by(try dsimp only);exact le_eq (by rw[←a9];simp[iV])) ?_;try dsimp only
      refine⟨by omega,by simp[f4],db,h5,AS.ak _ _ _,fun z ea fw=> ?_,AS.aj (AS.aj P (f9 _ (by rw[←a8];exact getElem_mem _))) ce⟩;simp only[length_set]at ea;have dp:=c5 z ea fw;have fv:l[z]≠G:=by intro e';rw[e',av]at dp;cases dp
      rw[AS.ae _ _ fv];by_cases e':z=y
      ·subst e';rw[a8,AS.ak];simp[mJ]
      ·have:l[z]≠tk:=by rw[←a8];exact SL a2 _ _ e'
       rw[AS.ae _ _ this,dp,getElem_set_ne (Ne.symm e')]
     ·have q5:¬u.bg.length<4:=by simpa using q5
      have q5:((u.bg.length:Int)<4)=False:=by simp;omega
      have e8:=bad 4;refine gO bR (j2 (j7 @hJ @E @BQ @H @J @q3 @q4) (j6 @wy @ac @ca @bv @al @q5)) (j2 @hm @e8) ?_;exact iC db (AS.le_trans P Q.le)
    ·have q:¬(1≤a∧a≤nt∧1≤b∧b≤nt):=by simpa using q
     by_cases H:1≤a
     ·by_cases J:a≤nt
      ·by_cases q3:1≤b
       ·have q4:¬b≤nt:=fun hh=>q ⟨H,J,q3,hh⟩;refine gO bR (j7 @hJ @E @BQ @H @J @q3 @q4) @bad ?_;exact iC o (AS.le_trans P Q.le)
       ·refine gO bR (j6 @hJ @E @BQ @H @J @q3) @bad ?_;exact iC o (AS.le_trans P Q.le)
      ·refine gO bR (j5 @hJ @E @BQ @H @J) @bad ?_;exact iC o (AS.le_trans P Q.le)
     ·refine gO bR (j4 @hJ @E @BQ @H) @bad ?_;exact iC o (AS.le_trans P Q.le)
   ·have hJ:((j:Int)<e.t3.length)=False:=by simp;omega
    have b1:e.t3.drop j= []:=drop_eq_nil_iff.2 (by omega);rw[b1]at o;simp only[dk]at o;have ec:=Iz.td g us l (by omega);refine aq.Om G (aB (us.map nA++g)) (Q.le _ _ av) ec.1 (fun y _ =>ec.2 y) ?_;obtain⟨S',s1,s2,s3⟩:=(Q.wr (b:= .cells 46 (aB (us.map nA++g))) av).erase (AS.ak _ _ _) (AS.aj P ce) ce;rw[s2];refine gO bR @hJ tI ?_;refine⟨.bI [],S'.set G (.cells 46 (aB (us.map nA++g))),Wk.refl _,lR _,us,o.symm,rfl,.fH G 0 ts.length cap,S',.inr ⟨G,cap,g,s1,by simp;omega,rfl,fun v L=> ?_,by simp;omega⟩,s3⟩;rcases mem_append.1 L with L|L
    ·obtain⟨w,_,rfl⟩:=mem_map.1 L;simp[eI]
    ·rw[ej v L];simp
end Im
end Go.Proofs.YtknalmoackcpbaaGreat
namespace Go.Proofs.YtknalmoackcpbaaGreat
namespace Cd
def bG (S:List Nat):bH prog [(15,(.S 0 (.S 1 (.S 2 (.S 4 (.S 5 (.S 6 (.S 8 (.R 3 (.R 7 (.S 9 (.R 10 (.U 11 (.S 12 (.S 13 (.S 14 (.S 15 (.S 16 .D)))))))))))))))))),(17,(.S 0 (.S 1 (.S 2 (.S 4 (.S 7 (.S 8 (.R 3 (.S 5 (.R 6 (.S 9 (.S 10 .D))))))))))))] S:=mixed
def Ng {σ l:AS}{i:Nat}{x:bP}(h:AS.le σ l):AS.le (σ.set i x) (l.set i x):=by
 intro j y g;by_cases e:j=i
 ·subst e;simpa[AS.set]using g
 ·simp[AS.set,e]at g⊢;exact h j y g
def WW (D:(List cE×List Int)×Int×Int) (σ:AS) (r:AV) (g:AS):Prop:=
 ∃v,GV prog 110 (D.1.1.map aJ) v σ g∧r= .bI [v,.ao 3 (D.1.2.map aS) .aI (decide (D.1.2= [])),zI D.2.1,zI D.2.2]
theorem EN (b:zY) (own:cC) (nl:Bool) (hn:nl=true→b= []) (hb:b.length≤100000) (σ:AS):
 ad prog 214 [.ao 5 (b.map u8) own nl] σ (WW (eY b) σ) No:=by
 have d7:=oB b own nl hn (by omega) σ;have fi:=fun o a σ h h2 h3=>je o b a nl σ h h2 h3 (by omega);have ej:=fun o a σ h=>pf o b a nl σ h;refine ad.ob func214 ?_;refine gO bG tI tI ?_;refine ag.of d7 ?_ (fun _ _ h=>h.elim);rintro r0 σ0 ⟨o,cc,rfl,rfl⟩;simp-implicitDefEqProofs;intro idx H c7;have I:=aK H;refine aq.r9 idx 2 3 [] true (ty:=328) (cs:= [.ptr o 0,zI b.length,.ai,.ai]) (by simp) (by simp) (.inr ⟨by simp,rfl,rfl⟩) ?_;simp-implicitDefEqProofs;intro ta F Q cb;have u:=aK F;have X:=aK Q;refine aq.r9 idx 3 3 [] true (ty:=328) (cs:= [.ptr o 0,zI b.length,.ao 3 [] (.tok ta) true,.ai]) (by simp[u]) (by simp) (.inr ⟨by simp,rfl,rfl⟩) ?_;simp-implicitDefEqProofs [F];intro tj ab O P ek;have E:=aK ab;have G:=aK O;have V:=aK P;refine gO (S:= [10]) bG tI tI ?_;refine aq.aQ (α:=(List RI)×(Nat)×(AV)×(AS)) (([],0,.ai,vm σ b nl o idx ta tj [] 0)) (fun⟨r,a,v,τ⟩=>b.length-a) (fun⟨r,a,v,τ⟩=>a≤b.length∧r.length≤160∧gd r (eH b (160-r.length) a)=eH b 160 0∧GV prog 110 (r.map fun y=>aJ y.x) v (vm σ b nl o idx ta tj r a) τ∧(r.map (·.a)++ [(a:Int)]).Pairwise (· < ·)) [(0,?_),(6,?_)] (fun⟨r,a,v,τ⟩=> [(7,v)]) (fun⟨r,a,v,τ⟩=>τ) ?_ ?_ ?_ ?_;rotate_left 2
 ·exact gF tI
 ·(try dsimp only);(simp[vm,oq])
 ·exact⟨by omega,by simp,by simp[gd];cases eH b 160 0<;>rfl,GV.nil,by simp⟩
 intro x_ bc;obtain⟨r,a,v,τ⟩:=x_;try dsimp only at bc⊢
 obtain⟨ha,hr,hX,hG,hP⟩:=bc;simp only[eZ];have hle:=hG.le;have b4:AS.le σ (vm σ b nl o idx ta tj r a):=by unfold vm;exact AS.aj (AS.aj (AS.aj (AS.aj (lR _) cc) c7) cb) ek
 have hσ:=AS.le_trans b4 hle;have ce:τ o=some (bA b a nl):=hle o _ (by simp[vm,I,X,V]);have c4:τ idx=some (It o b.length (r.map (·.a)) (r.map (·.t)) ta tj):=hle idx _ (by simp[vm,u,G]);have ch:τ ta=some (.tok r.length):=hle ta _ (by simp[vm,E]);have dp:τ tj=some (.tok r.length):=hle tj _ (by simp[vm]);have bs:=KF hG (t:=50) underlying50;have ac:=c4;rw[oq]at ac;have ca:=fi o a τ ce (by omega) (by omega);have f3:=ej o a τ ce;by_cases bf:a<b.length
 ·have a3:(a<b.length)=True:=eq_true bf;by_cases c2:r.length=160
  ·have hD:eH b 160 0= .error (a,4):=by rw[←hX,c2];simp[eH,bf,gd]
   have ar:eY b=(([],[]),(a:Int),4):=by unfold eY;rw[hD]
   rw[ar];have a8:((r.length:Int)=160)=True:=eq_true (by omega);refine uK (bG [10]) @bs (j5 @a3 @c2 @a8 @aH @ac) (j2 @ca @f3) (k:= ?_);exact⟨_,σ,sK (Wk.refl _) (by simp) (Wk.refl _) (Wk.refl _),hσ,.ai,GV.nil,rfl⟩
  ·have a8:((r.length:Int)=160)=False:=eq_false (by omega);obtain⟨k,hk⟩:∃k,160-r.length=k+1:=⟨160-r.length-1,by omega⟩;rw[hk,Hb bf]at hX;cases a4:mY b a with
   |error pe=>
    obtain⟨p,e⟩:=pe;rw[a4]at hX;simp only at hX;have ar:eY b=(([],[]),p,e):=by unfold eY;rw[←hX]
    rw[ar];have fw:¬e=0:=Am a4;obtain⟨a2,hc⟩:=Hl a4 ce c4 (by simpa using ch) (by simpa using dp) (by omega) bf E (by simp;omega) (by simp;omega);simp only[aJ,dz]at hc;refine uK (bG [10]) @bs (j4 @a3 @a8 @aH @ac) (j2 @ca @hc) (k:= ?_);intro c3 m1 a6;refine uK (bG [10]) tI @fw tI (k:= ?_);exact⟨_,σ,sK (Wk.refl _) (by simp) (Wk.refl _) (Wk.refl _),AS.aj (AS.aj hσ cc) (le_none hσ a6),.ai,GV.nil,rfl⟩
   |ok y=>
    obtain⟨x,tt,a'⟩:=y;rw[a4]at hX;simp only at hX;obtain⟨o1,o2,o3,o4,o5⟩:=Al bf a4;have hj:=eN (oO x.op);have hc:=JR a4 ce c4 (by simpa using ch) (by simpa using dp) (by omega) bf E (by simp;omega) (by simp;omega);have ci:aJ x= .agg [zI x.op,zI x.arg,zI x.t.kind,zI x.t.index,zI x.t.bT,.sc (.bool x.t.ref)]:=rfl;rw[ci]at hc;refine uK (bG [9]) @bs (j4 @a3 @a8 @aH @ac) (j2 @ca @hc) (k:= ?_);intro c3 m1 m2 m3 m4 a6;refine uK (bG [9]) tI tI tI (k:= ?_);have hS:((((vm σ b nl o idx ta tj r a).set o (bA b a' nl)).set idx (It o b.length (r.map (·.a)++ [(a:Int)]) (r.map (·.t)++ [tt]) ta tj)).set ta (.tok (r.length+1))).set tj (.tok (r.length+1))=vm σ b nl o idx ta tj (r++ [⟨x,a,tt⟩]) a':=by funext j_;simp[vm,AS.set];by_cases e1:j_=tj<;>by_cases e2:j_=ta<;>by_cases e3:j_=idx<;>by_cases e4:j_=o<;>simp[e1,e2,e3,e4]
    have de:=tW (b:= .tok (r.length+1)) (j:=tj) (x:= .tok r.length) (tW (b:= .tok (r.length+1)) (j:=ta) (x:= .tok r.length) (tW (b:=It o b.length (r.map (·.a)++ [(a:Int)]) (r.map (·.t)++ [tt]) ta tj) (j:=idx) (x:=It o b.length (r.map (·.a)) (r.map (·.t)) ta tj)
     (tW (b:=bA b a' nl) (j:=o) (x:=bA b a nl) hG (by simp[vm,I,X,V])) (by simp[vm,H,u,G])) (by simp[vm,Q,F,E])) (by simp[vm,P,O,ab])
    rw[hS]at de;have db:=de.set (j:=c3) (b:= .cells 110 (aJ x).cells) (by simp[m1,m2,m3,m4,a6]);have fv:vm σ b nl o idx ta tj (r++ [⟨x,a,tt⟩]) a' c3=none:=de.fresh (by simp[m1,m2,m3,m4,a6]);rw[ci]at db;simp only[aR]at db
    with_reducible apply aq.eJ
    refine bq.first 3 ?_;simp-implicitDefEqProofs;refine bq.sp rfl (ia.A9 (by decide) 110 (r.map fun y=>aJ y.x) [aJ x] _ (by simp) (by simp) (by simp) (by simp) (by simpa using db) (by simp[fE,underlying50,ci]) (by simp[ci]) (by simp[kr];omega) (by simp;omega) ?_);intro v2 τ2 f7;refine bq.rest ?_;simp-implicitDefEqProofs;obtain⟨τ3,f6,d8⟩:=f7.Vb (S:=vm σ b nl o idx ta tj (r++ [⟨x,a,tt⟩]) a') (an fv (lR _));refine uK (bG []) tI tI tI (k:= ?_);refine jC.mk ((r++ [⟨x,a,tt⟩],a',v2,τ3)) gM (by(try dsimp only);(simp only[eZ];repeat (first|exact aN.nil|refine aN.cons (by first|(simp-implicitDefEqProofs;done)|exact Wk.of (by(try simp-implicitDefEqProofs [aH,lW,H,I,u,F,Q,X,ab,O,P,E,G,V,ac,↓bs])<;>rfl)) ?_))) (by(try dsimp only);exact d8) ?_;try dsimp only
    refine⟨o4,by simp;omega,?_,by simpa using f6,?_⟩
    ·rw[←hX];simp[show 160-(r.length+1)=k by omega]
    ·simp only[List.map_append,List.map_cons,List.map_nil];rw[List.pairwise_append];refine⟨hP,by simp,fun z hz w hw=> ?_⟩;simp at hw;subst hw;have h1:z≤a:=by
      rcases List.mem_append.1 hz with hz|hz
      ·have:=(List.pairwise_append.1 hP).2.2 z hz a (by simp);omega
      ·simp at hz;omega
     omega
 ·have a3:(a<b.length)=False:=eq_false bf;have f0:a=b.length:=by omega
  have hD:eH b 160 0= .ok r:=by rw[←hX,f0];cases 160-r.length<;>simp[eH,gd]
  rcases hG with⟨fd,rfl,rfl⟩|⟨be,cap,af,h0,rfl,rfl,cl,ec⟩
  ·obtain rfl:r= []:=by simpa using fd
   have ar:eY b=(([],[(b.length:Int)]),0,0):=by unfold eY;rw[hD];rfl
   rw[ar];simp only[List.map_nil,List.length_nil]at ac ch;refine uK (bG []) @bs (j3 @a3 @aH @ac) @ca (k:= ?_);refine aq.aQ (α:=(Nat)) (0) (fun z=>z) (fun z=>True) [(0,?_),(6,?_),(7,?_),(51,?_)] (fun z=> [(52,zI 0)]) (fun z=>vm σ b nl o idx ta tj [] a) ?_ ?_ ?_ ?_;rotate_left 4
   ·(try dsimp only);(simp only[eZ];repeat (first|exact aN.nil|refine aN.cons (by first|(simp-implicitDefEqProofs;done)|exact Wk.of (by(try simp-implicitDefEqProofs)<;>rfl)) ?_))
   ·exact gT
   ·(try dsimp only)<;>first|exact trivial|exact⟨by omega,rfl⟩|omega|(simp;done)|exact⟨by omega,by simp⟩|exact⟨by omega,by simp,rfl⟩
   intro z bc;try dsimp only at bc⊢
   obtain _ :=bc;simp only[eZ];refine uK (bG []) tI (j2 @ac @ch) tI (k:= ?_);exact⟨_,σ,sK (Wk.refl _) (by simp[aF]) (Wk.refl _) (Wk.refl _),AS.aj hσ cb,.ai,GV.nil,rfl⟩
  ·have al:vm σ b nl o idx ta tj r a idx=some (It o b.length (r.map (·.a)) (r.map (·.t)) ta tj):=by simp[vm,u,G]
   have a7:vm σ b nl o idx ta tj r a ta=some (.tok r.length):=by simp[vm,E]
   have n:¬idx=be:=nq h0 al;have av:=aK n;have T:¬ta=be:=nq h0 a7;have a1:=aK T;rw[oq]at al;generalize vm σ b nl o idx ta tj r a=S at*;have hx:(r.map (·.t)).length=r.length:=by simp
   have hs:(r.map (·.a)).length=r.length:=by simp
   have er:(r.map (·.a)).Pairwise (· < ·):=(List.pairwise_append.1 hP).1;have ar:eY b=match gb (r.map (·.a)) r with
    |.error (p,e)=>(([],[]),p,e)
    |.ok l=>((l,r.map (·.a)++ [(b.length:Int)]),0,0):=by unfold eY;rw[hD];rfl
   generalize c8:r.map (·.a)=L at*;generalize c9:r.map (·.t)=J at*;refine uK (bG []) tI (j4 @a3 @aH n @al) @ca (k:= ?_);refine aq.aQ (α:=(Nat)×(List cE)) ((0,[])) (fun⟨k,d⟩=>r.length-k) (fun⟨k,d⟩=>k≤r.length∧d.length=k∧Hd d (gb L (r.drop k))=gb L r) [(0,?_),(6,?_),(7,?_),(51,?_)] (fun⟨k,d⟩=> [(52,zI k)]) (fun⟨k,d⟩=>S.set be (.cells 110 (aB ((d++(r.drop k).map (·.x)).map aJ++af)))) ?_ ?_ ?_ ?_;rotate_left 4
   ·(try dsimp only);(simp only[eZ];repeat (first|exact aN.nil|refine aN.cons (by first|(simp-implicitDefEqProofs;done)|exact Wk.of (by(try simp-implicitDefEqProofs)<;>rfl)) ?_))
   ·(try dsimp only);(simp[Function.comp_def])
   ·exact⟨by omega,rfl,by simp;cases gb L r<;>simp[Hd]⟩
   intro x_ bc;obtain⟨k,d⟩:=x_;try dsimp only at bc⊢
   obtain⟨hk,hd,hR⟩:=bc;simp only[eZ];by_cases ap:k<r.length
   ·have bb:zW ((k:Int)+1)=((k+1:Nat):Int):=bQ (by omega);rw[List.drop_eq_getElem_cons ap]at hR;rw[List.drop_eq_getElem_cons ap,List.map_cons];rw[Hc]at hR;have es:J[k]? =some r[k].t:=by rw[←c9];simp[ap]
    have em:L[k]? =some r[k].a:=by rw[←c8];simp[ap]
    have d9:k<L.length:=by omega
    have ea:k<J.length:=by omega
    generalize r[k]=y at*;obtain⟨x,ya,yt⟩:=y;simp only at es em hR⊢;generalize hM:(r.drop (k+1)).map (·.x)=M at*;have hq:M.length=r.length-(k+1):=by rw[←hM];simp
    have cd:∀v∈(d++x::M).map aJ++af,v.cells.length=6:=by
     intro v hv;rcases List.mem_append.1 hv with hv|hv
     ·obtain⟨z,_,rfl⟩:=List.mem_map.1 hv;rfl
     ·exact(cl v (by simp[hv])).trans (by simp)
    have c6:k<((d++x::M).map aJ++af).length:=by simp;omega
    have et:((d++x::M).map aJ++af)[k]'c6=aJ x:=by rw[List.getElem_append_left (by simp;omega),List.getElem_map,List.getElem_append_right (by omega)];simp[hd]
    have g0:(aB ((d++x::M).map aJ++af))[k*6]? =some (zI x.op):=by have:=lT cd c6 (j:=0) (by omega);rw[et]at this;exact this
    have f9:=dI cd;have d4:∀p:Int,(aB ((d++x::M).map aJ++af)).take (k*6+1)++zI p::(aB ((d++x::M).map aJ++af)).drop (k*6+1+1)=aB (((d++ [{ x with arg:=p }])++M).map aJ++af):=by intro p;rw[rF cd c6 (v:=aJ { x with arg:=p }) (by omega) (by rw[et];rfl)];congr 1;rw[List.set_append_left _ _ (by simp;omega)];congr 1;rw[←List.map_set];congr 1;rw[List.set_append_right _ _ (by omega)];simp[hd]
    have c5:(d++x::M)=(d++ [x])++M:=by simp
    have d6:∀z:cE,aB (List.map aJ (d++ [z])++(List.drop (k+1) (List.map (aJ∘fun x=>x.x) r)++af))=aB (((d++ [z])++M).map aJ++af):=by intro z;rw[←hM];simp[List.map_drop]
    have g6:k*6+6≤(aB ((d++x::M).map aJ++af)).length:=by rw[f9];omega
    generalize gc:aB ((d++x::M).map aJ++af)=CL at*;have fb:(gH x.op).2.1=oO x.op:=rfl;have b5:=fun σ=>sL x.op σ;simp only[gu]at b5;rw[fb]at b5;obtain⟨_,g1⟩:=List.getElem?_eq_some_iff.1 g0;obtain⟨_,c1⟩:=List.getElem?_eq_some_iff.1 es;obtain⟨_,c0⟩:=List.getElem?_eq_some_iff.1 em;have b1:k*6<CL.length:=by omega
    have b2:k*6+1<CL.length:=by omega
    have b3:k*6+1+1≤CL.length:=by omega
    by_cases h5:oO x.op=5
    ·rw[h5]at b5;obtain⟨p,fe,d5⟩:=OL L yt er;have ei:=fun σ=>OX L yt (.tok ta) (decide (L= [])) p fe (by omega) d5 σ;have ft:=Gc L yt er p d5;unfold ph at hR;rw[if_pos h5]at hR;simp only at hR;rw[ft]at hR;by_cases b0:L[p]? =some yt
     ·rw[if_pos b0]at hR;simp only at hR;refine uK (bG []) tI (j4 @ap @g1 @b1 @aH) @b5 (k:= ?_);intro am a5 q;have bv:=aK a5;have g:¬idx=am:=nq al q;have K:=aK g;have i:¬ta=am:=nq a7 q;have Y:=aK i;refine uK (bG []) tI (j2 (j7 @ap @c1 @c0 @d9 @ea @aF @b3) (j8 @a5 @bv @b0 @aH n @al @bb g)) @ei (k:= ?_);refine jC.mk ((k+1,d++ [{ x with arg:=p }])) gM (by(try dsimp only);(simp only[eZ];repeat (first|exact aN.nil|refine aN.cons (by first|(simp-implicitDefEqProofs;done)|exact Wk.of (by(try simp-implicitDefEqProofs [aH,lW,H,I,u,F,Q,X,ab,O,P,E,G,V,ac,↓bs,n,av,T,a1,al,a7,bb,K,g,al,Y,i,a7])<;>rfl)) ?_))) (by(try dsimp only);(rw[d6,←d4];exact AS.aj (lR _) (by simp[a5,q]))) ?_;try dsimp only
      exact⟨ap,by simp[hd],hR⟩
     ·rw[if_neg b0]at hR;simp only at hR;rw[←hR]at ar;simp only at ar;rw[ar];refine uK (bG []) tI (j4 @ap @g1 @b1 @aH) @b5 (k:= ?_);intro am a5 q;have bv:=aK a5;have g:¬idx=am:=nq al q;have K:=aK g;have i:¬ta=am:=nq a7 q;have Y:=aK i;refine uK (bG []) tI (j2 (j7 @ap @c1 @c0 @d9 @ea @aF @b3) (j8 @a5 @bv @b0 @aH n @al @bb g)) @ei (k:= ?_);exact⟨_,σ,sK (Wk.refl _) (by simp) (Wk.refl _) (Wk.refl _),AS.aj (AS.aj b4 (le_none b4 h0)) (le_none b4 q),.ai,GV.nil,rfl⟩
    ·have fk:ph L ⟨x,ya,yt⟩= .ok x:=by unfold ph;rw[if_neg h5]
     rw[fk]at hR;simp only at hR;refine uK (bG []) tI (j4 @ap @g1 @b1 @aH) @b5 (k:= ?_);intro am a5 q;have bv:=aK a5;have g:¬idx=am:=nq al q;have K:=aK g;have i:¬ta=am:=nq a7 q;have Y:=aK i;refine uK (bG []) tI (j2 @h5 @bb) tI (k:= ?_);refine jC.mk ((k+1,d++ [x])) gM (by(try dsimp only);(simp only[eZ];repeat (first|exact aN.nil|refine aN.cons (by first|(simp-implicitDefEqProofs;done)|exact Wk.of (by(try simp-implicitDefEqProofs [aH,lW,H,I,u,F,Q,X,ab,O,P,E,G,V,ac,↓bs,n,av,T,a1,al,a7,bb,K,g,al,Y,i,a7])<;>rfl)) ?_))) (by(try dsimp only);(rw[d6,←c5,gc];exact AS.aj (lR _) (by simp[a5,q]))) ?_;try dsimp only
     exact⟨ap,by simp[hd],hR⟩
   ·rw[List.drop_eq_nil_of_le (by omega)]at hR;have f4:gb L r= .ok d:=by rw[←hR];simp[gb,Hd]
    rw[f4]at ar;simp only at ar;have fz:(r.drop k).map (·.x)= []:=by rw[List.drop_eq_nil_of_le (by omega)];rfl
    have ho:k=r.length:=by omega
    have eb:d.length=r.length:=by omega
    refine uK (bG [20]) tI (j2 @ap @aH) tI (k:= ?_);have cj:List.drop k (List.map (aJ∘fun x=>x.x) r)= []:=List.drop_eq_nil_of_le (by simp;omega);rw[cj,List.nil_append];have fa:σ be=none:=le_none b4 h0;have f8:GV prog 110 (d.map aJ) (.fH be 0 r.length cap) σ (σ.set be (.cells 110 (aB (d.map aJ++af)))):=by
     refine .inr ⟨be,cap,af,fa,by simp[eb],rfl,fun v hv=> ?_,by simpa[eb]using ec⟩;rcases List.mem_append.1 hv with hv|hv
     ·obtain⟨z,_,rfl⟩:=List.mem_map.1 hv;simp[aJ]
     ·exact cl v (by simp[hv])
    rw[ar];have hu:L.length≤160:=by omega
    refine uK (bG []) tI (j4 n T @al @a7) tI (k:= ?_);exact⟨_,_,sK (Wk.refl _) (by simp[aF]) (Wk.refl _) (Wk.refl _),AS.aj (Ng b4) (by simp[T,cb]),_,f8,rfl⟩
end Cd
end Go.Proofs.YtknalmoackcpbaaGreat
namespace Go.Proofs.YtknalmoackcpbaaGreat
namespace Im
open Rg (Cl fY aL b7 bz dA)
open Bd (R6 dj sQ cD cy eh)
open Cd (oO dz eY eH gb RI mY ph)
def HY (l:List Ty) (hl:l.length≤1000) (σ:AS):ad prog 171 [Sg.qo l] σ (ah (Sg.qo l) σ) No:=by
 refine ad.ob func171 ?_;simp only[Sg.qo];cases l with
 |nil=>exact gE aa tI tI
 |cons t r=>
  have h:r.length≤999:=by simpa using hl
  refine gO aa @underlying47 tI ?_;intro i g;refine gO aa tI tI ?_;exact an g (lR _)
def uQ {b:zY} :∀ {k a:Nat}{r:List RI},eH b k a= .ok r→(∀y∈r,(a:Int)≤y.a∧y.a<b.length)∧(r.map (·.a)).Pairwise (· < ·)
 |0,a,r,h=>by
  simp only[eH]at h;split at h
  ·cases h
  ·cases h;simp
 |k+1,a,r,h=>by
  simp only[eH]at h;split at h
  ·rename_i ha;split at h
   ·cases h
   ·rename_i x t o h1;split at h
    ·cases h
    ·rename_i s j;cases h;obtain⟨g1,g2⟩:=uQ j;obtain⟨_,_,n,l,_⟩:=Cd.Al ha h1;have i:=Cd.eN (oO x.op);refine⟨fun y g=> ?_,?_⟩
     ·rcases mem_cons.1 g with rfl|g
      ·exact⟨Int.le_refl _,by simp only;omega⟩
      ·have:=g1 y g;omega
     ·simp only[map_cons,pairwise_cons,mem_map,forall_exists_index,and_imp,forall_apply_eq_imp_iff₂];exact⟨fun y g=>by have:=g1 y g;omega,g2⟩
  ·cases h;simp
def xB {b:zY} :∀ {k a:Nat}{p e:Int},eH b k a= .error (p,e)→e≠0
 |0,a,p,e,h=>by
  simp only[eH]at h;split at h
  ·cases h;decide
  ·cases h
 |k+1,a,p,e,h=>by
  simp only[eH]at h;split at h
  ·split at h
   ·rename_i h1;cases h;exact Cd.Am h1
   ·split at h
    ·rename_i g;cases h;exact xB g
    ·cases h
  ·cases h
def xA {b:zY} :∀ {k a:Nat}{r:List RI},eH b k a= .ok r→r.length≤k∧(a<b.length→r≠ [])
 |0,a,r,h=>by
  simp only[eH]at h;split at h
  ·cases h
  ·rename_i h1;cases h;exact⟨by simp,fun g=>absurd g h1⟩
 |k+1,a,r,h=>by
  simp only[eH]at h;split at h
  ·split at h
   ·cases h
   ·split at h
    ·cases h
    ·rename_i i;cases h;exact⟨by simpa using(xA i).1,fun _ =>by simp⟩
  ·rename_i h1;cases h;exact⟨by simp,fun g=>absurd g h1⟩
def BU {L:List Int} :∀ {r:List RI}{l:List cE},gb L r= .ok l→l.length=r.length
 |[],l,h=>by simp only[gb,Except.ok.injEq]at h;subst h;rfl
 |y::r,l,h=>by
  simp only[gb]at h;split at h
  ·cases h
  ·split at h
   ·cases h
   ·rename_i g;cases h;simp[BU g]
def wA {L:List Int} :∀ {r:List RI}{p e:Int},gb L r= .error (p,e)→e≠0
 |[],p,e,h=>by simp[gb]at h
 |y::r,p,e,h=>by
  simp only[gb]at h;split at h
  ·rename_i h1;cases h;unfold ph at h1;split at h1
   ·split at h1
    ·cases h1;decide
    ·cases h1
   ·cases h1
  ·split at h
   ·rename_i g;cases h;exact wA g
   ·cases h
def NO {b:zY}(h:(eY b).2.2=0):(eY b).1.2.Pairwise (· < ·)∧(eY b).1.1.length≤160∧(eY b).1.2.length≤161∧(b≠ []→(eY b).1.1≠ []):=by
 unfold eY at h⊢;cases g:eH b 160 0 with
 |error i=>obtain⟨p,e⟩:=i;rw[g]at h;exact absurd h (xB g)
 |ok r=>
  rw[g]at h;simp only at h⊢;cases n:gb (r.map (·.a)) r with
  |error i=>obtain⟨p,e⟩:=i;rw[n]at h;exact absurd h (wA n)
  |ok l=>
   simp only;obtain⟨g1,g2⟩:=uQ g;obtain⟨k1,q⟩:=xA g;have hl:=BU n;refine⟨?_,by omega,by simp;omega,fun w=> ?_⟩
   ·rw[pairwise_append];refine⟨g2,by simp,fun x v y o=> ?_⟩;obtain⟨z,u,rfl⟩:=mem_map.1 v;simp at o;subst o;exact(g1 z u).2
   ·intro j;have:=q (by simpa using length_pos_iff.2 w);rw[j]at hl;exact this (length_eq_zero_iff.1 (by simpa using hl.symm))
end Im
end Go.Proofs.YtknalmoackcpbaaGreat
namespace Go.Proofs.YtknalmoackcpbaaGreat
namespace Bd
def lq {b:zY}{a n:Nat}{x:Int}(h:At b a (aX x n)) (h0:0≤x) (h1:x<256^n):iH b a n= .ok (x,a+n):=by obtain⟨i,g⟩:=h.num h0 h1;unfold iH;rw[if_pos i,g]
def jN (n:Nat):aX (n:Int) 1= [UInt8.ofNat (n%256)]:=by simp only[aX];congr 2
def sy {b:zY}{a:Nat}{c:Nat}(h:At b a [UInt8.ofNat c]) (g:c<256):fJ b a c= .ok (a+1):=by have h1:=jN c;rw[Nat.mod_eq_of_lt g]at h1;rw[←h1]at h;unfold fJ;rw[lq h (by omega) (by omega)];simp
def sB {b:zY}{a:Nat}{l:zY}(h:At b a l) (h1:1≤l.length) (g:l.length≤65535):ir b a l.length= .ok (l,a+l.length):=by unfold ir;have:=h.len;rw[if_neg (by omega),if_pos (by omega),mO,h.2];rfl
def AT {b:zY} :∀ {k a:Nat},At b a (List.replicate k 0)→rG b k a= .ok (a+k):=by
 intro k;induction k with
 |zero=>intro a _;rfl
 |succ k g=>intro a h;rw[replicate_succ,At.cons]at h;have h1:=sy (c:=0) h.1 (by omega);simp only[rG];rw[show((0:Nat):Int)=0 from rfl]at h1;rw[h1];simp only;rw[g h.2];congr 1;omega
def KW {b:zY} :∀ {l:List Int}{a:Nat},At b a (l.flatMap (aX · 2))→(∀x∈l,0≤x∧x≤65535)→jo b l.length a= .ok (l,a+2*l.length):=by
 intro l;induction l with
 |nil=>intro a _ _;rfl
 |cons x r g=>intro a h hl;rw[flatMap_cons,At.app,aA]at h;have j:=hl x (by simp);simp only[length_cons,jo];rw[lq h.1 j.1 (by omega)];simp only;rw[g h.2 fun y i=>hl y (by simp[i])];simp only;congr 2;omega
def MF (r:R6):r6 (qR r)=r:=rfl
def KV {b:zY} :∀ {l:List R6}{a:Nat},At b a (l.flatMap qV)→l.all Dx=true→jn b l.length a= .ok (l,a+12*l.length):=by
 intro l;induction l with
 |nil=>intro a _ _;rfl
 |cons r t g=>intro a h hl;rw[flatMap_cons,At.app,pT]at h;simp only[all_cons,Bool.and_eq_true]at hl;have h1:=KW (l:=qR r) h.1 (Ce hl.1);rw[wQ]at h1;simp only[length_cons,jn];rw[h1];simp only;rw[g h.2 hl.2];simp only[MF];congr 2;omega
def C8 (n:Nat) (cls:List R6):zY:=List.replicate ((4-n%4)%4) 0++ [1,UInt8.ofNat cls.length,0,0]++cls.flatMap qV
def K7 (n:Nat) (cls:List R6):(C8 n cls).length=(4-n%4)%4+4+12*cls.length:=by simp only[C8,length_append,length_replicate,CT,length_cons,length_nil]
def C2 {b:zY}{fr a:Nat}{cls:List R6}(h:At b a (C8 (a-fr) cls)) (h1:1≤cls.length) (F:cls.length≤6) (g:cls.all Dx=true):ey b fr a= .ok (cls,a+(C8 (a-fr) cls).length):=by have hlen:(C8 (a-fr) cls).length=(4-(a-fr)%4)%4+4+12*cls.length:=K7 _ _;rw[hlen];unfold C8 at h;rw[At.app,At.app,At.Tq]at h;simp only[length_append,length_replicate,length_cons,length_nil]at h;obtain⟨⟨y,w,i,v,u⟩,q⟩:=h;unfold ey;rw[AT y];simp only;have n:=sy (c:=1) w (by omega);have l:=sy (c:=0) v (by omega);have j:=sy (c:=0) u (by omega);have o:=jN cls.length;rw[Nat.mod_eq_of_lt (by omega)]at o;rw[←o]at i;have E:=lq i (by omega) (by omega);simp only[show((1:Nat):Int)=1 from rfl,show((0:Nat):Int)=0 from rfl]at n l j;rw[n];simp only;rw[E];simp only;rw[if_neg (by omega),l];simp only;rw[j];simp only[Int.toNat_natCast];rw[KV (by simpa[Nat.add_assoc]using q) g];congr 2;omega
def CF {b:zY}{a c:Nat}{code:zY} :At b a (mC c code)↔At b a [UInt8.ofNat c]∧At b (a+1) (List.replicate 3 0)∧At b (a+4) (aX code.length 4)∧At b (a+8) code:=by unfold mC;rw[At.app,At.app,At.cons,show([0,0,0]:zY)=List.replicate 3 0 from rfl];simp[aA,and_assoc]
def qE (c:Nat) (code:zY):(mC c code).length=8+code.length:=by simp[mC,aA];omega
def vM {code:zY}{cls:List R6}(h:cls≠ []):cp code cls=mC 11 code++C8 (8+code.length) cls:=by unfold cp;rw[if_neg h,tr,qE,C8];simp
def K1 {b:zY}{fr:Nat}{code:zY}{cls:List R6}(h:At b fr (cp code cls)) (L:fr%4=0) (I:cU code cls=true):iu b fr= .ok ((code,cls),fr+(cp code cls).length):=by
 have u:1≤code.length∧code.length≤65535∧cls.length≤6∧cls.all Dx=true:=by simpa[cU]using I
 obtain⟨E,y,K,J⟩:=u;unfold iu;by_cases w:cls= []
 ·subst w;by_cases q:code.length<64
  ·have hw:cp code []=UInt8.ofNat (4*code.length+2)::code:=by simp[cp,q]
   rw[hw]at h⊢;rw[At.cons]at h;have F:=jN (4*code.length+2);rw[Nat.mod_eq_of_lt (by omega)]at F;rw[←F]at h;rw[lq h.1 (by omega) (by omega)];simp only;rw[if_pos (by omega),show((4*code.length+2:Nat):Int)/4=code.length by omega,sB h.2 E y];simp;omega
  ·have hw:cp code []=mC 3 code:=by simp[cp,q]
   rw[hw]at h⊢;rw[CF]at h;obtain⟨l,j,i,g⟩:=h;have o:=lq (x:=((3:Nat):Int)) (n:=1) (by rw[jN];exact l) (by omega) (by omega);rw[o];simp only;rw[if_neg (by omega),if_neg (by omega),AT j];simp only;rw[lq i (by omega) (by omega)];simp only;rw[sB g E y];simp[q,qE];omega
 ·have hw:=vM (code:=code) w;rw[hw]at h⊢;rw[At.app,CF,qE]at h;obtain⟨⟨l,j,i,g⟩,H⟩:=h;have v:1≤cls.length:=by cases cls with|nil=>exact absurd rfl w|cons _ _ =>simp
  have o:=lq (x:=((11:Nat):Int)) (n:=1) (by rw[jN];exact l) (by omega) (by omega);rw[o];simp only;rw[if_neg (by omega),if_neg (by omega),AT j];simp only;rw[lq i (by omega) (by omega)];simp only;rw[sB g E y];have G:fr+8+code.length-fr=8+code.length:=by omega
  have:=C2 (b:=b) (fr:=fr) (a:=fr+8+code.length) (cls:=cls) (by rw[G];simpa[Nat.add_assoc]using H) v K J;simp only;rw[if_pos (by omega),this];simp only[G,length_append,qE];congr 2;omega
def pW {b:zY}{a n:Nat}{e:Int}(h:iH b a n= .error e):e≠0:=by have:=(CX h).2;omega
def qH {b:zY}{a:Nat}{c e:Int}(h:fJ b a c= .error e):e≠0:=by
 rcases zi h with h|⟨rfl,_⟩
 ·exact pW h
 ·omega
def zl {b:zY}{a:Nat}{n e:Int}(h:ir b a n= .error e):e≠0:=by
 unfold ir at h;split at h
 ·cases h;omega
 ·split at h<;>cases h;omega
def CU {b:zY}{e:Int} :∀ {k a:Nat},rG b k a= .error e→e≠0:=by
 intro k;induction k with
 |zero=>intro a h;cases h
 |succ k g=>
  intro a h;simp only[rG]at h;cases h1:fJ b a 0 with
  |error i=>rw[h1]at h;cases h;exact qH h1
  |ok x=>rw[h1]at h;exact g h
def HO {b:zY}{e:Int} :∀ {k a:Nat},jo b k a= .error e→e≠0:=by
 intro k;induction k with
 |zero=>intro a h;cases h
 |succ k i=>
  intro a h;simp only[jo]at h;cases h1:iH b a 2 with
  |error j=>rw[h1]at h;cases h;exact pW h1
  |ok x=>
   rw[h1]at h;simp only at h;cases g:jo b k x.2 with
   |error j=>rw[g]at h;cases h;exact i g
   |ok y=>rw[g]at h;cases h
def HN {b:zY}{e:Int} :∀ {k a:Nat},jn b k a= .error e→e≠0:=by
 intro k;induction k with
 |zero=>intro a h;cases h
 |succ k i=>
  intro a h;simp only[jn]at h;cases h1:jo b 6 a with
  |error j=>rw[h1]at h;cases h;exact HO h1
  |ok x=>
   rw[h1]at h;simp only at h;cases g:jn b k x.2 with
   |error j=>rw[g]at h;cases h;exact i g
   |ok y=>rw[g]at h;cases h
def AU {b:zY}{fr a:Nat}{e:Int}(h:ey b fr a= .error e):e≠0:=by
 unfold ey at h;split at h
 ·cases h;exact CU (by assumption)
 split at h
 ·cases h;exact qH (by assumption)
 split at h
 ·cases h;exact pW (by assumption)
 split at h
 ·cases h;omega
 split at h
 ·cases h;exact qH (by assumption)
 split at h
 ·cases h;exact qH (by assumption)
 exact HN h
def HQ {b:zY}{fr:Nat}{e:Int}(h:iu b fr= .error e):e≠0:=by
 unfold iu at h;split at h
 ·cases h;exact pW (by assumption)
 split at h
 ·split at h
  ·cases h;exact zl (by assumption)
  ·cases h
 split at h
 ·cases h;omega
 split at h
 ·cases h;exact CU (by assumption)
 split at h
 ·cases h;exact pW (by assumption)
 split at h
 ·cases h;exact zl (by assumption)
 split at h
 ·split at h
  ·cases h;exact AU (by assumption)
  ·cases h
 split at h
 ·cases h;omega
 ·cases h
end Bd
end Go.Proofs.YtknalmoackcpbaaGreat
