/- Own. -/
import Derived.Test.YtknalmoackcpbaaGreatLd7
set_option maxRecDepth 100000
set_option maxHeartbeats 3200000
set_option linter.all false
namespace Go.Proofs.YtknalmoackcpbaaGreat
namespace Im
open Go Go.AW Tryz
abbrev ng:b7:=(.step 0 (.step 1 (.step 3 (.step 4 (.step 5 (.alt 2 (.alt 6 (.alt 7 (.step 8 (.alt 9 (.alt 10 .done .none) .none)) (.alt 9 (.alt 7 (.step 8 (.alt 10 .done .none)) .none) .none)) (.alt 9 (.read 6 (.alt 7 (.step 8 (.alt 10 .done .none)) .none)) .none)) (.alt 6 (.alt 2 (.alt 7 (.step 8 (.alt 9 (.alt 10 .done .none) .none)) (.alt 9 (.alt 7 (.step 8 (.alt 10 .done .none)) .none) .none)) (.alt 7 (.alt 2 (.step 8 (.alt 9 (.alt 10 .done .none) .none)) (.alt 9 (.read 2 (.step 8 (.alt 10 .done .none))) .none)) (.alt 9 (.alt 2 (.alt 7 (.step 8 (.alt 10 .done .none)) .none) (.alt 7 (.read 2 (.step 8 (.alt 10 .done .none))) .none)) .none))) (.alt 9 (.read 6 (.alt 2 (.alt 7 (.step 8 (.alt 10 .done .none)) .none) (.alt 7 (.read 2 (.step 8 (.alt 10 .done .none))) .none))) .none))))))))
abbrev rC:b7:=(.step 0 (.step 1 (.step 2 (.step 3 (.step 4 (.read 5 (.read 6 (.step 7 (.spec 8 (.step 9 (.step 10 (.step 11 (.alt 12 .done .none)))) .none)))))))))
theorem bP (S:List Nat):aH prog [(4,ng),(9,rC),(15,(.step 0 (.step 1 (.step 2 (.step 3 (.step 5 (.step 6 (.read 4 (.read 7 (.step 8 (.step 9 (.step 10 .done)))))))))))),(17,(.step 0 (.step 1 (.step 2 (.step 3 (.step 5 (.step 6 (.read 4 (.read 7 (.step 8 (.step 9 (.alt 10 (.step 11 (.step 12 (.alt 13 .done .none))) .none))))))))))))] S:=mixed
variable {k:LK} {e:LE} {d:LD} {B τ:AS}
theorem LI.up {g:AS}(h:LI k e d B τ) (hle:AS.le τ g):LI k e d B g:=⟨hle _ _ h.id,hle _ _ h.tP,hle _ _ h.tO,hle _ _ h.tF,hle _ _ h.tM,AS.le_trans h.le hle,h.nd,h.fr,h.e⟩
theorem Au (x:Int):0≤(bK x).2.1∧(bK x).2.1≤65535:=by
 unfold bK;split
 ·simp
 ·split
  ·simp
  ·split
   ·simp only;omega
   ·split
    ·simp only;omega
    ·simp
def Ju (N:By) (n:Int) (k:Nat) (r:List Int):Except iY TD:=
 cM (pU N (ia r 1)) fun nm=>dj (decide (ia r 0≤31)) 3 0 k (dj (decide ((bK (ia r 2)).2.2=0∧(bK (ia r 2)).1≠4∧(bK (ia r 2)).2.1≤n)) 5 0 k (.ok ⟨nm,ia r 0,(bK (ia r 2)).2.1-1,[],true⟩))
def mM (N:By) (n:Int):List TD→Nat→List (List Int)→Except iY (List TD)
 |acc,_,[]=> .ok acc
 |acc,k,r::rs=>cM (Ju N n k r) fun t=>mM N n (acc++ [t]) (k+1) rs
def py (t:TD) (x:Int):TD:= { t with aZ:=t.aZ++ [x],fn:=false }
def eY (n:Int):List TD→Nat→List (List Int)→Except iY (List TD)
 |ts,_,[]=> .ok ts
 |ts,i,r::rs=>dj (decide (1≤ia r 0∧ia r 0≤n∧1≤ia r 1∧ia r 1≤n)) 5 3 i
  (match ts[(ia r 0-1).toNat]? with
   |none=> .error (0,0,0)
   |some t=>dj (decide (t.aZ.length<4)) 4 3 i (eY n (ts.set (ia r 0-1).toNat (py t (ia r 1-1))) (i+1) rs))
def lv (e:LE):Except iY (List TD):=cM (mM e.N e.t0.length [] 0 e.t0) fun ts=>eY e.t0.length ts 0 e.t3
theorem TX {l:List (List Int)}(h:oc 5 l) {i:Nat}(j:i<l.length):∃a b c x y,l[i]? =some [a,b,c,x,y]∧l.drop i= [a,b,c,x,y]::l.drop (i+1)∧(0≤a∧a<4294967296)∧(0≤b∧b<4294967296)∧(0≤c∧c<4294967296):=by
 obtain⟨h1,g⟩:=h.2 l[i] (List.getElem_mem j)
 match n:l[i],h1,g with
 |[a,b,c,x,y],_,g=>exact⟨a,b,c,x,y,by rw[List.getElem?_eq_getElem j,n],by rw[List.drop_eq_getElem_cons j,n],g a (by simp),g b (by simp),g c (by simp)⟩
theorem xV (a b c x y:Int):uZ [a,b,c,x,y]= .an 3 [.sc (.int .i64 a),.sc (.int .i64 b),.sc (.int .i64 c),.sc (.int .i64 x),.sc (.int .i64 y)] .aE false:=rfl
theorem QT {l:List (List Int)}(h:oc 2 l) {i:Nat}(j:i<l.length):∃a b,l[i]? =some [a,b]∧l.drop i= [a,b]::l.drop (i+1)∧(0≤a∧a<4294967296)∧(0≤b∧b<4294967296):=by
 obtain⟨h1,g⟩:=h.2 l[i] (List.getElem_mem j)
 match n:l[i],h1,g with
 |[a,b],_,g=>exact⟨a,b,by rw[List.getElem?_eq_getElem j,n],by rw[List.drop_eq_getElem_cons j,n],g a (by simp),g b (by simp)⟩
theorem Bn (a b:Int):uZ [a,b]= .an 3 [.sc (.int .i64 a),.sc (.int .i64 b)] .aE false:=rfl
def qz (t:TD):AV:= .agg [.sc (.string ⟨t.name.toArray⟩),.sc (.int .i64 t.flags),.sc (.int .i64 t.ext),.ai]
theorem zv (t:TD):qz t= .agg [.sc (.string ⟨t.name.toArray⟩),.sc (.int .i64 t.flags),.sc (.int .i64 t.ext),.ai]:=rfl
theorem LI.Nl (h:LI k e d B τ) (v:AV):LI k e { d with ty:=v } B (τ.set k.id (.cells 108 (C2 k e { d with ty:=v } 0))):=by
 obtain⟨n1,n2,i,g,y,w,u,q,o,l⟩:=h.ne;refine h.mk' (AS.aj _ _ _) ?_ ?_ ?_ ?_ fun j n j2 j3 j4 j5=> ?_
 ·rw[AS.ad _ _ n1.symm];exact h.tP
 ·rw[AS.ad _ _ n2.symm];exact h.tO
 ·rw[AS.ad _ _ i.symm];exact h.tF
 ·rw[AS.ad _ _ g.symm];exact h.tM
 ·rw[AS.ad _ _ n]
def xK (x:TD×Nat):AV:= .agg [.sc (.string ⟨x.1.name.toArray⟩),.sc (.int .i64 x.1.flags),.sc (.int .i64 x.1.ext),.an 3 (x.1.aZ.map iV) (.tok x.2) x.1.fn]
theorem EF (x:TD×Nat):xK x= .agg [.sc (.string ⟨x.1.name.toArray⟩),.sc (.int .i64 x.1.flags),.sc (.int .i64 x.1.ext),.an 3 (x.1.aZ.map iV) (.tok x.2) x.1.fn]:=rfl
def KU (a n:Nat):List (Nat×TypeId):=(List.range' a n).map fun i=>(i*4+3,3)
theorem Lp {α:Type}(A:List α) (w:α) {i:Nat}(h:i<A.length):A.set i w=A.take i++w::A.drop (i+1):=by rw[List.set_eq_take_append_cons_drop,if_pos h]
theorem ET:∀(ts:List TD) (l:List Nat) (h g:List AV),l.length=ts.length→(∀t∈ts,t.aZ= []∧t.fn=true)→(∀v∈h,v.cells.length=4)→(∀v∈g,v.cells.length=4)→
 Bj (az (h++(ts.map qz++g))) (KU h.length ts.length) l=az (h++((ts.zip l).map xK++g))
 |[],l,h,g,hl,_,_,_ =>by obtain rfl:l= []:=List.length_eq_zero_iff.1 (by simpa using hl);simp[KU,Bj]
 |t::ts,[],h,g,hl,_,_,_ =>by simp at hl
 |t::ts,o::l,h,g,hl,hf,hd,D=>by
  have E:∀v∈h++(qz t::ts.map qz++g),v.cells.length=4:=by
   intro v n;simp only[List.mem_append,List.mem_cons,List.mem_map]at n;rcases n with n|(rfl|⟨y,_,rfl⟩)|n
   ·exact hd v n
   ·rfl
   ·rfl
   ·exact D v n
  have u:h.length<(h++(qz t::ts.map qz++g)).length:=by simp
  have A:h.length*4+3<(az (h++(qz t::ts.map qz++g))).length:=by rw[dR E];omega
  have w:(h++(qz t::ts.map qz++g))[h.length]=qz t:=by simp
  have F:(az (h++(qz t::ts.map qz++g))).set (h.length*4+3) (.an 3 [] (.tok o) true)=az ((h++ [xK (t,o)])++(ts.map qz++g)):=by rw[Lp _ _ A,Cd.rO (m:=4) E (i:=h.length) (j:=3) u (by omega) (v:=xK (t,o)) (by rw[w];simp[xK,qz,(hf t (by simp)).1,(hf t (by simp)).2])];congr 1;rw[List.set_append_right _ _ (by omega)];simp
  have q:=ET ts l (h++ [xK (t,o)]) g (by simpa using hl) (fun y G=>hf y (by simp[G])) (by
   intro v n;rcases List.mem_append.1 n with n|n
   ·exact hd v n
   ·simp at n;subst n;rfl) D
  simp only[List.length_append,List.length_singleton]at q;simp only[KU,List.length_cons,List.range'_succ,List.map_cons,Bj];rw[show h++(qz t::ts.map qz++g)=h++((qz t::ts.map qz)++g) from rfl]at F;rw[F];simp only[KU]at q;rw[q];simp
theorem LI.erase {A:AS}{g:Nat}{b:bN}(h:LI k e d A τ) (o:A g=some b) (q:AS.le B A) (h0:B g=none):∃S,S g=none∧τ=S.set g b∧LI k e d B S:=by
 have n:∀ {j},j∈ [k.id,k.tP,k.tO,k.tF,k.tM]→j≠g:=by intro j i l;rw[l]at i;rw[h.fr g i]at o;cases o
 refine⟨fun j=>if j=g then none else τ j,by simp,?_,?_,?_,?_,?_,?_,?_,h.nd,fun j i=> ?_,h.e⟩
 ·funext j;by_cases l:j=g
  ·subst l;simp[h.le _ _ o]
  ·simp[AS.set,l]
 ·simpa[n (j:=k.id) (by simp)]using h.id
 ·simpa[n (j:=k.tP) (by simp)]using h.tP
 ·simpa[n (j:=k.tO) (by simp)]using h.tO
 ·simpa[n (j:=k.tF) (by simp)]using h.tF
 ·simpa[n (j:=k.tM) (by simp)]using h.tM
 ·intro j x i;have l:j≠g:=nq h0 i;simp only[l,if_false];exact h.le _ _ (q _ _ i)
 ·cases u:B j with
  |none=>rfl
  |some y=>have:=q j y u;rw[h.fr j i]at this;cases this
theorem LI.fM {g:Nat}{b0 H:bN}{i:List Nat}{q:AS}(h:LI k e d (B.set g b0) τ) (G:B g=none) (hf:∀t∈i,τ t=none) (h1:q g=some H) (M:∀t∈i,q t=some (.tok 0)) (L:∀j,j≠g→j ∉ i→q j=τ j):
 ∃A,LI k e d A q∧A g=some H∧(∀t∈i,A t=some (.tok 0))∧AS.le B A∧(∀t∈i,B t=none):=by
 have K:∀ {j},j∈ [k.id,k.tP,k.tO,k.tF,k.tM]→j≠g∧B j=none:=by
  intro j l;have w:=h.fr j l;have v:j≠g:=by rintro rfl;simp at w
  exact⟨v,by rwa [AS.ad _ _ v]at w⟩
 have I:g ∉ i:=fun hm=>by have:=hf g hm;rw[h.le _ _ (AS.aj _ _ _)]at this;cases this
 have J:∀ {j},τ j≠none→j ∉ i:=fun l hm=>l (hf _ hm);have u:∀ {j x},j∈ [k.id,k.tP,k.tO,k.tF,k.tM]→τ j=some x→q j=some x:=fun {j x} l E=>by rw[L j (K l).1 (J (by rw[E];simp))];exact E
 have D:∀t∈i,B t=none:=fun t ht=>by
  cases E:B t with
  |none=>rfl
  |some y=>
   have F:t≠g:=by rintro rfl;exact I ht
   have:=h.le t y (by rw[AS.ad _ _ F];exact E);rw[hf t ht]at this;cases this
 refine⟨fun j=>if j=g then some H else if j∈i then some (.tok 0)else B j,⟨u (by simp) h.id,u (by simp) h.tP,u (by simp) h.tO,u (by simp) h.tF,u (by simp) h.tM,fun j x l=> ?_,h.nd,fun j l=> ?_,h.e⟩,by simp,fun t ht=> ?_,fun j x l=> ?_,D⟩
 ·by_cases o:j=g
  ·subst o;rw[if_pos rfl]at l;rw[h1];exact l
  ·rw[if_neg o]at l;by_cases n:j∈i
   ·rw[if_pos n]at l;rw[M j n];exact l
   ·rw[if_neg n]at l;rw[L j o n];exact h.le j x (by rw[AS.ad _ _ o];exact l)
 ·obtain⟨Q,P⟩:=K l;have O:j ∉ i:=by
   apply J;simp only[List.mem_cons,List.not_mem_nil,or_false]at l;rcases l with rfl|rfl|rfl|rfl|rfl
   ·rw[h.id];simp
   ·rw[h.tP];simp
   ·rw[h.tO];simp
   ·rw[h.tF];simp
   ·rw[h.tM];simp
  simp only[Q,O,if_false];exact P
 ·have:t≠g:=by rintro rfl;exact I ht
  simp[this,ht]
 ·have o:j≠g:=nq G l;have n:j ∉ i:=fun hm=>by rw[D j hm]at l;cases l
  simp[o,n,l]
theorem yN {N:By}{n:Int} :∀ {rs:List (List Int)}{acc:List TD}{i:Nat}{ts:List TD},mM N n acc i rs= .ok ts→(∀t∈acc,t.aZ= []∧t.fn=true)→ ∀t∈ts,t.aZ= []∧t.fn=true
 |[],acc,i,ts,h,ha=>by simp only[mM,Except.ok.injEq]at h;subst h;exact ha
 |r::rs,acc,i,ts,h,ha=>by
  simp only[mM,Ju,iT,iS,dc]at h;rcases bD h with⟨nm,_,h⟩|⟨f,_,h⟩
  ·rcases aK h with⟨_,h⟩|⟨_,h⟩
   ·rcases aK h with⟨_,h⟩|⟨_,h⟩
    ·refine yN h fun t ht=> ?_;rcases List.mem_append.1 ht with ht|ht
     ·exact ha t ht
     ·simp at ht;subst ht;exact⟨rfl,rfl⟩
    ·cases h
   ·cases h
  ·cases h
theorem Pa (ts:List TD) (g:List AV) (h:∀v∈ts.map qz++g,v.cells.length=4):∀p∈KU 0 ts.length,p.1<(az (ts.map qz++g)).length∧(az (ts.map qz++g)).getD p.1 .any= .ai:=by
 intro p l;obtain⟨f1,f2⟩:=gN _ h;simp only[KU,List.mem_map,List.mem_range'_1]at l;obtain⟨i,j,rfl⟩:=l;simp only[Nat.zero_add,Nat.zero_le,true_and]at j;have hl:i<(ts.map qz++g).length:=by simp;omega
 refine⟨by rw[f1];simp only;omega,?_⟩;simp only;have n:(ts.map qz++g).getD i .any=qz ts[i]:=by rw[List.getD_eq_getElem?_getD,List.getElem?_append_left (by simpa using j),List.getElem?_map,List.getElem?_eq_getElem j];rfl
 rw[f2 i 3 hl (by omega),n];rfl
theorem Pb (n:Nat):((KU 0 n).map (·.1)).Nodup:=by simp only[KU,List.map_map];rw[List.nodup_iff_pairwise_ne,List.pairwise_map];exact(List.nodup_range' (s:=0) (n:=n) (step:=1)).imp fun h e=>h (by simp only[Function.comp_def]at e;omega)
theorem Rh {l:List Nat}(h:l.Nodup) {i j:Nat}(u:i<l.length) (q:j<l.length) (n:i≠j):l[i]≠l[j]:=by
 have o:=List.pairwise_iff_getElem.1 h;rcases Nat.lt_or_gt_of_ne n with g|g
 ·exact o i j u q g
 ·exact fun e=>o j i q u g e.symm
def HS (a b:List AV):Prop:=b.length=a.length∧ ∀k,AV.Wk prog (a.getD k .any) (b.getD k .any)
theorem HS.refl (a:List AV):HS a a:=⟨rfl,fun _ =>Wk.refl _⟩
theorem HS.app {a b c d:List AV}(h1:HS a b) (j:HS c d):HS (a++c) (b++d):=by
 refine⟨by simp[h1.1,j.1],fun k=> ?_⟩;by_cases i:k<a.length
 ·have h:(a++c).getD k .any=a.getD k .any:=by rw[List.getD_eq_getElem?_getD,List.getElem?_append_left i,←List.getD_eq_getElem?_getD]
  have g:(b++d).getD k .any=b.getD k .any:=by rw[List.getD_eq_getElem?_getD,List.getElem?_append_left (by rw[h1.1];exact i),←List.getD_eq_getElem?_getD]
  rw[h,g];exact h1.2 k
 ·have h:(a++c).getD k .any=c.getD (k-a.length) .any:=by rw[List.getD_eq_getElem?_getD,List.getElem?_append_right (by omega),←List.getD_eq_getElem?_getD]
  have g:(b++d).getD k .any=d.getD (k-a.length) .any:=by rw[List.getD_eq_getElem?_getD,List.getElem?_append_right (by rw[h1.1];omega),h1.1,←List.getD_eq_getElem?_getD]
  rw[h,g];exact j.2 _
theorem HS.td (i:List AV):∀(us:List TD) (g:List Nat),g.length=us.length→HS (az ((us.zip g).map xK++i)) (az (us.map kE++i))
 |[],g,_ =>by simpa using HS.refl _
 |u::us,[],h=>by simp at h
 |u::us,l::g,h=>by
  have j:=HS.td i us g (by simpa using h);simp only[List.zip_cons_cons,List.map_cons,List.cons_append,kf];refine HS.app ⟨rfl,fun k=> ?_⟩ j;simp only[EF,eu,aQ]
  match k with
  |0=>exact Wk.refl _
  |1=>exact Wk.refl _
  |2=>exact Wk.refl _
  |3=>simp
  |k+4=>exact Wk.refl _
def W5 (k:LK) (e:LE) (d:LD) (B:AS) (ts:List TD) (r:AV) (g:AS):Prop:=r= .bQ []∧ ∃v S,GV prog 46 (ts.map kE) v S g∧LI k e { d with ty:=v } B S
theorem LI.types (h:LI k e d B τ) (f0:d.ty= .ai) (hn:e.t0.length≤32):
 aa prog 109 [.ptr k.id 0] τ (RL (lv e) (W5 k e d B)) (TL (lv e) B):=by
 have hm:=fun a t r σ=>lu a t r σ;obtain⟨X,E⟩:∃X,lv e=X:=⟨_,rfl⟩;rw[E];unfold lv at E;have ca:=h.id;rw[b8]at ca;simp only[cx]at ca;have im:∀ {f τ'},X= .error f→AS.le B τ'→ ∃σ',AS.le σ' τ'∧TL X B (pX f) σ':=fun {f τ'} hx hle=>⟨τ',lR _,_,hx,rfl,hle⟩;have h0:=h.e.t0;have dp:=h.e.t3;obtain⟨nt,ek⟩:∃nt,e.t0.length=nt:=⟨_,rfl⟩;rw[ek]at E hn;obtain⟨Y,hY⟩:∃Y,mM e.N nt [] 0 e.t0=Y:=⟨_,rfl⟩;rw[hY]at E;refine aa.ob func109 ?_;refine gO bP (j2 @ca @ek) tI ?_;refine ae.bp (α:=(Nat)×(List TD)×(AV)×(AS)×(AS)) ((0,[],.ai,τ,τ)) (fun⟨i,ts,v,S,L⟩=>nt-i) (fun⟨i,ts,v,S,L⟩=>i≤nt∧ts.length=i∧mM e.N nt ts i (e.t0.drop i)=Y∧GV prog 46 (ts.map qz) v S L∧LI k e { d with ty:=v } B S) [(0,?_),(2,?_),(26,?_),(27,?_)] (fun⟨i,ts,v,S,L⟩=> [(28,.sc (.int .i64 i))]) (fun⟨i,ts,v,S,L⟩=>L) ?_ ?_ ?_ ?_;rotate_left 4
 ·exact gF tI
 ·exact gT
 ·exact⟨by omega,rfl,hY,GV.nil,by rw[←f0];exact h⟩
 intro x_ J;obtain⟨i,ts,v,S,L⟩:=x_;try dsimp only at J⊢
 obtain⟨hi,ee,o,hG,Q⟩:=J;simp only[gj];have h2:=Q.up hG.le;by_cases b6:i<nt
 ·obtain⟨a,b,c,x,y,D,bs,ha,hb,hD⟩:=TX h0 (i:=i) (by omega);rw[bs]at o;simp only[mM,Ju,ia,List.getD_cons_zero,List.getD_cons_succ,iT,iS,dc]at o;have hI:((i:Int)<nt)=True:=by simp;omega
  have bad:=fun a σ=>eG a 0 i (by omega) (by omega) (by omega) (by omega) σ;have wi:IntKind.i64.wrap ((i:Int)+1)=i+1:=ay (by omega) (by omega);have em:=h2.name b hb.1 hb.2;rcases bD o with⟨nm,hN,o⟩|⟨f,hN,o⟩
  ·have a8:=RL.ok em hN;have a7:=fun j x (hj:L j=none)=>RL.ok ((h2.own (b:=x) hj).name b hb.1 hb.2) hN;refine gO (S:= [4]) bP (j3 hI @D @xV) tI ?_;try apply ae.seq
   refine Hi (α:=Nat) (fun v=>L v=none) (fun v=> [(0,.ptr k.id 0),(2,.sc (.int .i64 nt)),(3,.sc (.int .i64 i)),(4,uZ [a,b,c,x,y]),(5,.ptr v 0),(26,.an 44 (e.t0.map uZ) .aE (decide (e.t0= []))),(27,.sc (.int .i64 nt)),(28,.sc (.int .i64 i))])
    (fun v=>L.set v (.cells 46 [.sc (.string ⟨nm.toArray⟩),.sc (.int .i64 a),.sc (.int .i64 0),.ai])) (fun _ _ =>rfl) ?_ ?_
   ·(((with_reducible apply ae.aR (id:=4) (t:=ng));(exact mixed);kernel_rfl;kernel_rfl;(repeat (with_reducible first|apply ak.then|apply ak.block|apply ak.body|apply ak.no)));simp-implicitDefEqProofs [xV])
    repeat' (first
     |(with_reducible apply j2)
     |(intro id5 U;try simp-implicitDefEqProofs [xV])
     |(refine ag.aC a8 ?_;try simp-implicitDefEqProofs)
     |(refine ag.aC (a7 _ _ (by assumption)) ?_;try simp-implicitDefEqProofs))
    all_goals
     refine fV.mk (id5) (gF tI) (by(try dsimp only);exact lR _) ?_;try dsimp only
     exact(by assumption)
   ·intro id5 U;have er:=hG.fresh U;have e3:=Q.own (b:= .cells 46 [.sc (.string ⟨nm.toArray⟩),.sc (.int .i64 a),.sc (.int .i64 0),.ai]) er;have e0:=hG.set (b:= .cells 46 [.sc (.string ⟨nm.toArray⟩),.sc (.int .i64 a),.sc (.int .i64 0),.ai]) U;have e1:B id5=none:=Q.mP er;have ck:AS.le B (B.set id5 (.cells 46 [.sc (.string ⟨nm.toArray⟩),.sc (.int .i64 a),.sc (.int .i64 0),.ai])):=AS.ah (lR _) e1;have k5:(L.set id5 (.cells 46 [.sc (.string ⟨nm.toArray⟩),.sc (.int .i64 a),.sc (.int .i64 0),.ai])) id5=some (.cells 46 [.sc (.string ⟨nm.toArray⟩),.sc (.int .i64 a),.sc (.int .i64 0),.ai]):=AS.aj _ _ _;have fd:(S.set id5 (.cells 46 [.sc (.string ⟨nm.toArray⟩),.sc (.int .i64 a),.sc (.int .i64 0),.ai])) id5=some (.cells 46 [.sc (.string ⟨nm.toArray⟩),.sc (.int .i64 a),.sc (.int .i64 0),.ai]):=AS.aj _ _ _;have fe:(B.set id5 (.cells 46 [.sc (.string ⟨nm.toArray⟩),.sc (.int .i64 a),.sc (.int .i64 0),.ai])) id5=some (.cells 46 [.sc (.string ⟨nm.toArray⟩),.sc (.int .i64 a),.sc (.int .i64 0),.ai]):=AS.aj _ _ _;generalize (B.set id5 (.cells 46 [.sc (.string ⟨nm.toArray⟩),.sc (.int .i64 a),.sc (.int .i64 0),.ai]))=A at*;generalize (S.set id5 (.cells 46 [.sc (.string ⟨nm.toArray⟩),.sc (.int .i64 a),.sc (.int .i64 0),.ai]))=S2 at*;generalize (L.set id5 (.cells 46 [.sc (.string ⟨nm.toArray⟩),.sc (.int .i64 a),.sc (.int .i64 0),.ai]))=τ2 at*;have T:AS.le B τ2:=AS.le_trans ck (AS.le_trans e3.le e0.le);have af:=fun σ=>Cu c σ;have es:=Au c;generalize bK c=cs at af es o;obtain⟨c1,c2,c3⟩:=cs;simp only at af es o;have wc:IntKind.i64.wrap (c2-1)=c2-1:=ay (by omega) (by omega);rcases aK o with⟨G,o⟩|⟨G,o⟩
    ·have G:a≤31:=by simpa using G
     rcases aK o with⟨I,b0⟩|⟨I,o⟩
     ·simp only[decide_eq_true_eq]at I;obtain⟨I,q3,q4⟩:=I;subst I;have ge:=e3.wr (b:= .cells 46 (qz ⟨nm,a,c2-1,[],true⟩).cells) fe;have de:=Cd.ub (b:= .cells 46 (qz ⟨nm,a,c2-1,[],true⟩).cells) e0 fd;have dl:AS.le B (A.set id5 (.cells 46 (qz ⟨nm,a,c2-1,[],true⟩).cells)):=AS.ah ck e1;have b1:=ge.drop dl;simp only[zv,aQ]at de b1;refine gO (S:= [9]) bP (j6 @xV @G @q3 @q4 @wc @k5) (j2 @hm @af) ?_;try apply ae.seq
      have c7:(τ2.set id5 (.cells 46 [.sc (.string ⟨nm.toArray⟩),.sc (.int .i64 a),.sc (.int .i64 (c2-1)),.ai])) id5=some (.cells 46 [.sc (.string ⟨nm.toArray⟩),.sc (.int .i64 a),.sc (.int .i64 (c2-1)),.ai]):=AS.aj _ _ _;generalize (τ2.set id5 (.cells 46 [.sc (.string ⟨nm.toArray⟩),.sc (.int .i64 a),.sc (.int .i64 (c2-1)),.ai]))=τ3 at*;generalize (S2.set id5 (.cells 46 [.sc (.string ⟨nm.toArray⟩),.sc (.int .i64 a),.sc (.int .i64 (c2-1)),.ai]))=S3 at*;have h5:=b1.up de.le;have bb:=h5.id;rw[b8]at bb;simp only[cx]at bb
      (((with_reducible apply ae.aR (id:=9) (t:=rC));(exact mixed);kernel_rfl;kernel_rfl;(repeat (with_reducible first|apply ak.then|apply ak.block|apply ak.body|apply ak.no)));simp-implicitDefEqProofs [bb,c7])
      refine rz.Az (by decide) 46 (ts.map qz) [qz ⟨nm,a,c2-1,[],true⟩] S3 (by simp) (by simp) (by simp) (by simp) (by simpa using de) (by simp[fR,underlying22,zv]) (by simp[zv]) (by simp[kH];omega) (by simp;omega) ?_;intro v2 τ4 c9;obtain⟨o1,o2,o3,rfl⟩:∃a b c,v2= .fT a 0 b c:=by
       rcases c9 with⟨h1,_,_⟩|⟨_,_,_,_,h,_⟩
       ·simp at h1
       ·exact⟨_,_,_,h⟩
      have h6:=b1.up c9.le;have a9:=h6.id;rw[b8]at a9;simp only[cx]at a9;simp-implicitDefEqProofs [a9];have f5:=Cd.ub (b:= .cells 108 (C2 k e { d with ty:= .fT o1 0 o2 o3 } 0)) c9 b1.id;have h7:=b1.Nl (.fT o1 0 o2 o3);refine gO bP @wi tI ?_;refine aP.mk ((i+1,ts++ [⟨nm,a,c2-1,[],true⟩],.fT o1 0 o2 o3,S3.set k.id (.cells 108 (C2 k e { d with ty:= .fT o1 0 o2 o3 } 0)),τ4.set k.id (.cells 108 (C2 k e { d with ty:= .fT o1 0 o2 o3 } 0)))) (by(try dsimp only);omega) (gF tI) (by(try dsimp only);exact le_eq (by rw[b8];simp[cx])) ?_;try dsimp only
      exact⟨by omega,by simp[ee],b0,by simpa using f5,h7⟩
     ·have I:¬(c3=0∧c1≠4∧c2≤nt):=by simpa using I
      rw[o]at E;by_cases q3:c3=0
      ·by_cases q4:c1=4
       ·subst q3 q4;refine gO bP (j2 @xV @G) (j3 @hm @af @bad) ?_;exact im E.symm T
       ·have q5:¬c2≤nt:=fun hh=>I ⟨q3,q4,hh⟩;subst q3;refine gO bP (j4 @xV @G @q4 @q5) (j3 @hm @af @bad) ?_;exact im E.symm T
      ·refine gO bP (j3 @xV @G @q3) (j3 @hm @af @bad) ?_;exact im E.symm T
    ·have G:¬a≤31:=by simpa using G
     rw[o]at E;refine gO bP (j2 @xV @G) @bad ?_;exact im E.symm T
  ·have a8:=RL.bad em hN;rw[o]at E;have a7:=fun j x (hj:L j=none)=>RL.bad ((h2.own (b:=x) hj).name b hb.1 hb.2) hN;refine gO (S:= [4]) bP (j3 hI @D @xV) tI ?_;try apply ae.seq
   (((with_reducible apply ae.aR (id:=4) (t:=ng));(exact mixed);kernel_rfl;kernel_rfl;(repeat (with_reducible first|apply ak.then|apply ak.block|apply ak.body|apply ak.no)));simp-implicitDefEqProofs)
   repeat' (first
    |(with_reducible apply j2)
    |(intro id5 U;try simp-implicitDefEqProofs [xV])
    |(refine ag.Db a8 ?_;intro τ2 P;try simp-implicitDefEqProofs)
    |(refine ag.Db (a7 _ _ (by assumption)) ?_;intro τ2 P;try simp-implicitDefEqProofs))
   all_goals first
    |exact im E.symm (AS.le_trans h2.le P)
    |exact im E.symm (AS.le_trans (AS.le_trans h2.le (aq (by assumption) (lR _))) P)
 ·have hI:((i:Int)<nt)=False:=by simp;omega
  have bv:e.t0.drop i= []:=List.drop_eq_nil_iff.2 (by omega);rw[bv]at o;simp only[mM]at o;rw[←o]at E hY;simp only[cM]at E;have ch:=yN hY (by simp);have Z:=h2.id;rw[b8]at Z;simp only[cx]at Z;have hH:=dp.1;refine gO (S:= [11]) bP hI tI ?_;rcases hG with⟨f4,rfl,rfl⟩|⟨F,cap,g,o0,rfl,rfl,cj,et⟩
  ·have ec:ts= []:=by simpa using f4
   subst ec;have ej:nt=0:=by simp at ee;omega
   subst ej;refine gO bP @Z tI ?_;refine ae.bp (α:=(Nat)) (0) (fun j=>e.t3.length-j) (fun j=>j≤e.t3.length∧eY 0 [] j (e.t3.drop j)=X) [(0,?_),(2,?_),(91,?_),(92,?_)] (fun j=> [(93,.sc (.int .i64 j))]) (fun j=>L) ?_ ?_ ?_ ?_;rotate_left 4
   ·exact gF tI
   ·exact gT
   ·exact⟨by omega,by simpa using E⟩
   intro j J;try dsimp only at J⊢
   obtain⟨hj,o⟩:=J;simp only[gj];by_cases b6:j<e.t3.length
   ·obtain⟨a,b,D,bs,ha,hb⟩:=QT dp b6;rw[bs]at o;simp only[eY,ia,List.getD_cons_zero,List.getD_cons_succ]at o;have hJ:((j:Int)<e.t3.length)=True:=by simp;omega
    have bad:=fun a σ=>eG a 3 j (by omega) (by omega) (by omega) (by omega) σ;rcases aK o with⟨q,_⟩|⟨q,o⟩
    ·simp only[decide_eq_true_eq]at q;omega
    ·by_cases G:1≤a
     ·have I:¬a≤0:=by omega
      refine gO bP (j5 @hJ @D @Bn @G @I) @bad ?_;exact im o h2.le
     ·refine gO bP (j4 @hJ @D @Bn @G) @bad ?_;exact im o h2.le
   ·have hJ:((j:Int)<e.t3.length)=False:=by simp;omega
    have bv:e.t3.drop j= []:=List.drop_eq_nil_iff.2 (by omega);rw[bv]at o;simp only[eY]at o;refine gO bP @hJ tI ?_;exact⟨.bQ [],L,Wk.refl _,lR _,[],o.symm,rfl,.ai,L,GV.nil,Q⟩
  ·simp only[List.length_map]at et Q;have e4:=Q.own (b:= .cells 46 (az (ts.map qz++g))) o0;have cc:B F=none:=Q.mP o0;have H:∀v∈ts.map qz++g,v.cells.length=4:=fun v K=>(cj v K).trans (by simp);refine ae.Ji F (ty:=46) (KU 0 ts.length) (cs:=az (ts.map qz++g)) (AS.aj _ _ _) (Pa ts g H) (Pb _) ?_;intro l τ2 a1 a2 a3 a4 a5 a6;have gI:l.length=ts.length:=by simpa[KU]using a1
   have c6:=ET ts l [] g gI ch (by simp) (fun v K=>H v (List.mem_append_right _ K));simp only[List.nil_append,List.length_nil]at c6;rw[c6]at a4;obtain⟨A,e2,f9,f8,f7,f6⟩:=e4.fM cc a3 a4 a5 a6;have bc:=e2.id;rw[b8]at bc;simp only[cx]at bc;have eg:∀v∈g,v.cells.length=4:=fun v K=>H v (List.mem_append_right _ K);clear cj H e4 a3 a4 a5 a6 c6 Z ca;refine gO bP @bc tI ?_;refine ae.bp (α:=(Nat)×(List TD)×(AS)×(AS)) ((0,ts,A,τ2)) (fun⟨j,us,A',τ3⟩=>e.t3.length-j) (fun⟨j,us,A',τ3⟩=>j≤e.t3.length∧us.length=nt∧eY nt us j (e.t3.drop j)=X∧LI k e { d with ty:= .fT F 0 ts.length cap } A' τ3∧A' F=some (.cells 46 (az ((us.zip l).map xK++g)))∧(∀y (hy:y<us.length) (fv:y<l.length),A' l[y]=some (.tok us[y].aZ.length))∧AS.le B A') [(0,?_),(2,?_),(91,?_),(92,?_)] (fun⟨j,us,A',τ3⟩=> [(93,.sc (.int .i64 j))]) (fun⟨j,us,A',τ3⟩=>τ3) ?_ ?_ ?_ ?_;rotate_left 4
   ·exact gF tI
   ·exact gT
   ·exact⟨by omega,by omega,by simpa using E,e2,f9,fun y hy fv=>by rw[f8 _ (List.getElem_mem _),(ch _ (List.getElem_mem hy)).1];rfl,f7⟩
   intro x_ J;obtain⟨j,us,A',τ3⟩:=x_;try dsimp only at J⊢
   obtain⟨hj,fz,o,P,am,c0,O⟩:=J;simp only[gj];by_cases b6:j<e.t3.length
   ·obtain⟨a,b,D,bs,ha,hb⟩:=QT dp b6;rw[bs]at o;simp only[eY,ia,List.getD_cons_zero,List.getD_cons_succ]at o;have hJ:((j:Int)<e.t3.length)=True:=by simp;omega
    have bad:=fun a σ=>eG a 3 j (by omega) (by omega) (by omega) (by omega) σ;have wj:IntKind.i64.wrap ((j:Int)+1)=j+1:=ay (by omega) (by omega);rcases aK o with⟨q,b0⟩|⟨q,o⟩
    ·simp only[decide_eq_true_eq]at q;obtain⟨G,I,q3,q4⟩:=q;obtain⟨y,hy⟩:∃y:Nat,a=(y+1:Nat):=⟨(a-1).toNat,by omega⟩;have wy:IntKind.i64.wrap (a-1)=y:=by rw[show a-1=y by omega];exact ay (by omega) (by omega)
     have ea:y<us.length:=by omega
     have ft:y<l.length:=by omega
     rw[show(a-1).toNat=y by omega,List.getElem?_eq_getElem ea]at b0;simp only at b0;have cl:=c0 y ea ft;generalize hu:us[y]=u at*;generalize av:l[y]=tk at*;have h4:∀v∈(us.zip l).map xK++g,v.cells.length=4:=by
      intro v K;rcases List.mem_append.1 K with K|K
      ·obtain⟨w,_,rfl⟩:=List.mem_map.1 K;rfl
      ·exact eg v K
     have d7:y<((us.zip l).map xK++g).length:=by simp;omega
     have d8:((us.zip l).map xK++g)[y]=xK (u,tk):=by rw[List.getElem_append_left (by simp;omega)];simp[hu,av]
     have cb:=Cd.mh (m:=4) h4 (i:=y) (j:=3) d7 (by omega);rw[d8]at cb;simp only[EF,aQ]at cb;have ei:=fun w=>Cd.rO (m:=4) h4 (i:=y) (j:=3) d7 (by omega) (v:=xK (py u w,tk)) (w:= .an 3 (u.aZ.map iV++ [iV w]) (.tok tk) false) (by rw[d8];simp[xK,py]);have hE:y*4+4≤(az ((us.zip l).map xK++g)).length:=by rw[dR h4];omega
     have b5:=P.le _ _ am;have d6:=P.le _ _ cl;generalize az ((us.zip l).map xK++g)=CL at*;have V:=P.id;rw[b8]at V;simp only[cx]at V;have ab:y*4+3<CL.length:=by omega
     have be:CL[y*4+3]= .an 3 (u.aZ.map iV) (.tok tk) u.fn:=by rw[List.getElem?_eq_getElem ab]at cb;simpa using cb
     have M:¬F=tk:=nq b5 d6;have e7:¬tk=F:=fun e'=>M e'.symm;have wb:IntKind.i64.wrap (b-1)=b-1:=ay (by omega) (by omega);rcases aK b0 with⟨q5,c8⟩|⟨q5,c8⟩
     ·have hr:u.aZ.length<4:=by simpa using q5
      have q5:((u.aZ.length:Int)<4)=True:=by simp;omega
      refine gO (S:= [17]) bP (j2 (j7 @hJ @D @Bn @G @I @q3 @q4) (j6 @wy @V @b5 @be @ab @q5)) @hm ?_;refine gO bP (j6 @b5 @be @ab @d6 @M @wb) tI ?_;have hz:(((us.zip l).map xK++g).set y (xK (py u (b-1),tk)))=(((us.set y (py u (b-1))).zip l).map xK++g):=by
       rw[List.set_append_left _ _ (by simp;omega)];congr 1;apply List.ext_getElem
       ·simp
       ·intro n g1 g2;simp only[List.getElem_set,List.getElem_map,List.getElem_zip];split
        ·rename_i e';subst e';rw[av]
        ·rfl
      have a0:=ei (b-1);rw[hz]at a0;have hC:A' F=some (.cells 46 CL):=am;have h5:=(P.wr (i:=tk) (b:= .tok (u.aZ.length+1)) cl).wr (i:=F) (b:= .cells 46 (az (((us.set y (py u (b-1))).zip l).map xK++g))) (by rw[AS.ad _ _ M];exact am);refine aP.mk ((j+1,us.set y (py u (b-1)),(A'.set tk (.tok (u.aZ.length+1))).set F (.cells 46 (az (((us.set y (py u (b-1))).zip l).map xK++g))),(τ3.set tk (.tok (u.aZ.length+1))).set F (.cells 46 (az (((us.set y (py u (b-1))).zip l).map xK++g))))) (by(try dsimp only);omega) (gF @wj) (by(try dsimp only);exact le_eq (by rw[←a0];simp[iV])) ?_;try dsimp only
      refine⟨by omega,by simp[fz],c8,h5,AS.aj _ _ _,fun z d9 fk=> ?_,AS.ah (AS.ah O (f6 _ (by rw[←av];exact List.getElem_mem _))) cc⟩;simp only[List.length_set]at d9;have dn:=c0 z d9 fk;have fi:l[z]≠F:=by intro e';rw[e',am]at dn;cases dn
      rw[AS.ad _ _ fi];by_cases e':z=y
      ·subst e';rw[av,AS.aj];simp[py]
      ·have:l[z]≠tk:=by rw[←av];exact Rh a2 _ _ e'
       rw[AS.ad _ _ this,dn,List.getElem_set_ne (Ne.symm e')]
     ·have q5:¬u.aZ.length<4:=by simpa using q5
      have q5:((u.aZ.length:Int)<4)=False:=by simp;omega
      have e5:=bad 4;refine gO bP (j2 (j7 @hJ @D @Bn @G @I @q3 @q4) (j6 @wy @V @b5 @be @ab @q5)) (j2 @hm @e5) ?_;exact im c8 (AS.le_trans O P.le)
    ·have q:¬(1≤a∧a≤nt∧1≤b∧b≤nt):=by simpa using q
     by_cases G:1≤a
     ·by_cases I:a≤nt
      ·by_cases q3:1≤b
       ·have q4:¬b≤nt:=fun hh=>q ⟨G,I,q3,hh⟩;refine gO bP (j7 @hJ @D @Bn @G @I @q3 @q4) @bad ?_;exact im o (AS.le_trans O P.le)
       ·refine gO bP (j6 @hJ @D @Bn @G @I @q3) @bad ?_;exact im o (AS.le_trans O P.le)
      ·refine gO bP (j5 @hJ @D @Bn @G @I) @bad ?_;exact im o (AS.le_trans O P.le)
     ·refine gO bP (j4 @hJ @D @Bn @G) @bad ?_;exact im o (AS.le_trans O P.le)
   ·have hJ:((j:Int)<e.t3.length)=False:=by simp;omega
    have bv:e.t3.drop j= []:=List.drop_eq_nil_iff.2 (by omega);rw[bv]at o;simp only[eY]at o;have eb:=HS.td g us l (by omega);refine ae.KQ F (az (us.map kE++g)) (P.le _ _ am) eb.1 (fun y _ =>eb.2 y) ?_;obtain⟨S',s1,s2,s3⟩:=(P.wr (b:= .cells 46 (az (us.map kE++g))) am).erase (AS.aj _ _ _) (AS.ah O cc) cc;rw[s2];refine gO bP @hJ tI ?_;refine⟨.bQ [],S'.set F (.cells 46 (az (us.map kE++g))),Wk.refl _,lR _,us,o.symm,rfl,.fT F 0 ts.length cap,S',.inr ⟨F,cap,g,s1,by simp;omega,rfl,fun v K=> ?_,by simp;omega⟩,s3⟩;rcases List.mem_append.1 K with K|K
    ·obtain⟨w,_,rfl⟩:=List.mem_map.1 K;simp[eu]
    ·rw[eg v K];simp
end Im
end Go.Proofs.YtknalmoackcpbaaGreat
namespace Go.Proofs.YtknalmoackcpbaaGreat
namespace Cd
open Go Go.AW Tryz
theorem bI (S:List Nat):aH prog [(15,(.step 0 (.step 1 (.step 2 (.step 4 (.step 5 (.step 6 (.step 8 (.read 3 (.read 7 (.step 9 (.read 10 (.pure 11 (.step 12 (.step 13 (.step 14 (.step 15 (.step 16 .done)))))))))))))))))),(17,(.step 0 (.step 1 (.step 2 (.step 4 (.step 7 (.step 8 (.read 3 (.step 5 (.read 6 (.step 9 (.step 10 .done))))))))))))] S:=mixed
theorem Me {σ σ':AS}{i:Nat}{x:bN}(h:AS.le σ σ'):AS.le (σ.set i x) (σ'.set i x):=by
 intro j y g;by_cases e:j=i
 ·subst e;simpa[AS.set]using g
 ·simp[AS.set,e]at g⊢;exact h j y g
def Vr (D:(List db×List Int)×Int×Int) (σ:AS) (r:AV) (σ':AS):Prop:=
 ∃v,GV prog 110 (D.1.1.map aJ) v σ σ'∧r= .bQ [v,.an 3 (D.1.2.map aV) .aE (decide (D.1.2= [])),.sc (.int .i64 D.2.1),.sc (.int .i64 D.2.2)]
theorem Ed (b:By) (own:cL) (nl:Bool) (hn:nl=true→b= []) (hb:b.length≤100000) (σ:AS):
 aa prog 214 [.an 5 (b.map u8) own nl] σ (Vr (kO b) σ) No:=by
 have d5:=oH b own nl hn (by omega) σ;have fa:=fun o a σ h h2 h3=>jm o b a nl σ h h2 h3 (by omega);have ee:=fun o a σ h=>px o b a nl σ h;refine aa.ob func214 ?_;refine gO bI tI tI ?_;refine ag.of d5 ?_ (fun _ _ h=>h.elim);rintro r0 σ0 ⟨o,b6,rfl,rfl⟩;simp-implicitDefEqProofs;intro idx F c4;have G:=aA F;refine ae.pO idx 2 3 [] true (ty:=328) (cs:= [.ptr o 0,.sc (.int .i64 b.length),.ai,.ai]) (by simp) (by simp) (.inr ⟨by simp,rfl,rfl⟩) ?_;simp-implicitDefEqProofs;intro ta D O b5;have u:=aA D;have T:=aA O;refine ae.pO idx 3 3 [] true (ty:=328) (cs:= [.ptr o 0,.sc (.int .i64 b.length),.an 3 [] (.tok ta) true,.ai]) (by simp[u]) (by simp) (.inr ⟨by simp,rfl,rfl⟩) ?_;simp-implicitDefEqProofs [D];intro tj V I K eg;have A:=aA V;have E:=aA I;have Q:=aA K;refine gO (S:= [10]) bI tI tI ?_;refine ae.bp (α:=(List RI)×(Nat)×(AV)×(AS)) (([],0,.ai,vq σ b nl o idx ta tj [] 0)) (fun⟨r,a,v,τ⟩=>b.length-a) (fun⟨r,a,v,τ⟩=>a≤b.length∧r.length≤160∧gq r (kh b (160-r.length) a)=kh b 160 0∧GV prog 110 (r.map fun y=>aJ y.x) v (vq σ b nl o idx ta tj r a) τ∧(r.map (·.a)++ [(a:Int)]).Pairwise (· < ·)) [(0,?_),(6,?_)] (fun⟨r,a,v,τ⟩=> [(7,v)]) (fun⟨r,a,v,τ⟩=>τ) ?_ ?_ ?_ ?_;rotate_left 2
 ·exact gF tI
 ·(try dsimp only);(simp[vq,oA])
 ·exact⟨by omega,by simp,by simp[gq];cases kh b 160 0<;>rfl,GV.nil,by simp⟩
 intro x_ a7;obtain⟨r,a,v,τ⟩:=x_;try dsimp only at a7⊢
 obtain⟨ha,hr,hX,hG,hP⟩:=a7;simp only[gj];have hle:=hG.le;have bs:AS.le σ (vq σ b nl o idx ta tj r a):=by unfold vq;exact AS.ah (AS.ah (AS.ah (AS.ah (lR _) b6) c4) b5) eg
 have hσ:=AS.le_trans bs hle;have cb:τ o=some (bC b a nl):=hle o _ (by simp[vq,G,T,Q]);have c1:τ idx=some (HM o b.length (r.map (·.a)) (r.map (·.t)) ta tj):=hle idx _ (by simp[vq,u,E]);have cc:τ ta=some (.tok r.length):=hle ta _ (by simp[vq,A]);have dl:τ tj=some (.tok r.length):=hle tj _ (by simp[vq]);have bb:=JO hG (t:=50) underlying50;have X:=c1;rw[oA]at X;have b4:=fa o a τ cb (by omega) (by omega);have fv:=ee o a τ cb;by_cases a9:a<b.length
 ·have ar:(a<b.length)=True:=eq_true a9;by_cases cl:r.length=160
  ·have hD:kh b 160 0= .error (a,4):=by rw[←hX,cl];simp[kh,a9,gq]
   have af:kO b=(([],[]),(a:Int),4):=by unfold kO;rw[hD]
   rw[af];have a4:((r.length:Int)=160)=True:=eq_true (by omega);refine xM (bI [10]) @bb (j5 @ar @cl @a4 @aI @X) (j2 @b4 @fv) (k:= ?_);exact⟨_,σ,sS (Wk.refl _) (by simp) (Wk.refl _) (Wk.refl _),hσ,.ai,GV.nil,rfl⟩
  ·have a4:((r.length:Int)=160)=False:=eq_false (by omega);obtain⟨k,hk⟩:∃k,160-r.length=k+1:=⟨160-r.length-1,by omega⟩;rw[hk,Gu a9]at hX;cases av:rH b a with
   |error pe=>
    obtain⟨p,e⟩:=pe;rw[av]at hX;simp only at hX;have af:kO b=(([],[]),p,e):=by unfold kO;rw[←hX]
    rw[af];have fi:¬e=0:=Fh av;obtain⟨a2,hc⟩:=GF av cb c1 (by simpa using cc) (by simpa using dl) (by omega) a9 A (by simp;omega) (by simp;omega);simp only[aJ,eW]at hc;refine xM (bI [10]) @bb (j4 @ar @a4 @aI @X) (j2 @b4 @hc) (k:= ?_);intro c0 m1 a1;refine xM (bI [10]) tI @fi tI (k:= ?_);exact⟨_,σ,sS (Wk.refl _) (by simp) (Wk.refl _) (Wk.refl _),AS.ah (AS.ah hσ b6) (le_none hσ a1),.ai,GV.nil,rfl⟩
   |ok y=>
    obtain⟨x,tt,a'⟩:=y;rw[av]at hX;simp only at hX;obtain⟨o1,o2,o3,o4,o5⟩:=Fg a9 av;have g6:=fg (oO x.op);have hc:=I7 av cb c1 (by simpa using cc) (by simpa using dl) (by omega) a9 A (by simp;omega) (by simp;omega);have cd:aJ x= .agg [.sc (.int .i64 x.op),.sc (.int .i64 x.arg),.sc (.int .i64 x.t.kind),.sc (.int .i64 x.t.index),.sc (.int .i64 x.t.bt),.sc (.bool x.t.ref)]:=rfl;rw[cd]at hc;refine xM (bI [9]) @bb (j4 @ar @a4 @aI @X) (j2 @b4 @hc) (k:= ?_);intro c0 m1 m2 m3 m4 a1;refine xM (bI [9]) tI tI tI (k:= ?_);have hS:((((vq σ b nl o idx ta tj r a).set o (bC b a' nl)).set idx (HM o b.length (r.map (·.a)++ [(a:Int)]) (r.map (·.t)++ [tt]) ta tj)).set ta (.tok (r.length+1))).set tj (.tok (r.length+1))=vq σ b nl o idx ta tj (r++ [⟨x,a,tt⟩]) a':=by funext j_;simp[vq,AS.set];by_cases e1:j_=tj<;>by_cases e2:j_=ta<;>by_cases e3:j_=idx<;>by_cases e4:j_=o<;>simp[e1,e2,e3,e4]
    have c8:=ub (b:= .tok (r.length+1)) (j:=tj) (x:= .tok r.length) (ub (b:= .tok (r.length+1)) (j:=ta) (x:= .tok r.length) (ub (b:=HM o b.length (r.map (·.a)++ [(a:Int)]) (r.map (·.t)++ [tt]) ta tj) (j:=idx) (x:=HM o b.length (r.map (·.a)) (r.map (·.t)) ta tj)
     (ub (b:=bC b a' nl) (j:=o) (x:=bC b a nl) hG (by simp[vq,G,T,Q])) (by simp[vq,F,u,E])) (by simp[vq,O,D,A])) (by simp[vq,K,I,V])
    rw[hS]at c8;have c7:=c8.set (j:=c0) (b:= .cells 110 (aJ x).cells) (by simp[m1,m2,m3,m4,a1]);have fe:vq σ b nl o idx ta tj (r++ [⟨x,a,tt⟩]) a' c0=none:=c8.fresh (by simp[m1,m2,m3,m4,a1]);rw[cd]at c7;simp only[aQ]at c7
    with_reducible apply ae.eX
    refine br.first 3 ?_;simp-implicitDefEqProofs;refine br.sp rfl (il.Az (by decide) 110 (r.map fun y=>aJ y.x) [aJ x] _ (by simp) (by simp) (by simp) (by simp) (by simpa using c7) (by simp[fR,underlying50,cd]) (by simp[cd]) (by simp[kH];omega) (by simp;omega) ?_);intro v2 τ2 f3;refine br.rest ?_;simp-implicitDefEqProofs;obtain⟨τ3,f0,d6⟩:=f3.TM (S:=vq σ b nl o idx ta tj (r++ [⟨x,a,tt⟩]) a') (aq fe (lR _));refine xM (bI []) tI tI tI (k:= ?_);refine aP.mk ((r++ [⟨x,a,tt⟩],a',v2,τ3)) (by(try dsimp only);omega) (by(try dsimp only);(simp only[gj];repeat (first|exact aS.nil|refine aS.cons (by first|(simp-implicitDefEqProofs;done)|exact Wk.of (by(try simp-implicitDefEqProofs [aI,mj,F,G,u,D,O,T,V,I,K,A,E,Q,X,↓bb])<;>rfl)) ?_))) (by(try dsimp only);exact d6) ?_;try dsimp only
    refine⟨o4,by simp;omega,?_,by simpa using f0,?_⟩
    ·rw[←hX];simp[show 160-(r.length+1)=k by omega]
    ·simp only[List.map_append,List.map_cons,List.map_nil];rw[List.pairwise_append];refine⟨hP,by simp,fun z hz w hw=> ?_⟩;simp at hw;subst hw;have h1:z≤a:=by
      rcases List.mem_append.1 hz with hz|hz
      ·have:=(List.pairwise_append.1 hP).2.2 z hz a (by simp);omega
      ·simp at hz;omega
     omega
 ·have ar:(a<b.length)=False:=eq_false a9;have ft:a=b.length:=by omega
  have hD:kh b 160 0= .ok r:=by rw[←hX,ft];cases 160-r.length<;>simp[kh,gq]
  rcases hG with⟨e8,rfl,rfl⟩|⟨a8,cap,Y,h0,rfl,rfl,ci,ea⟩
  ·obtain rfl:r= []:=by simpa using e8
   have af:kO b=(([],[(b.length:Int)]),0,0):=by unfold kO;rw[hD];rfl
   rw[af];simp only[List.map_nil,List.length_nil]at X cc;refine xM (bI []) @bb (j3 @ar @aI @X) @b4 (k:= ?_);refine ae.bp (α:=(Nat)) (0) (fun z=>z) (fun z=>True) [(0,?_),(6,?_),(7,?_),(51,?_)] (fun z=> [(52,.sc (.int .i64 0))]) (fun z=>vq σ b nl o idx ta tj [] a) ?_ ?_ ?_ ?_;rotate_left 4
   ·(try dsimp only);(simp only[gj];repeat (first|exact aS.nil|refine aS.cons (by first|(simp-implicitDefEqProofs;done)|exact Wk.of (by(try simp-implicitDefEqProofs)<;>rfl)) ?_))
   ·exact gT
   ·(try dsimp only)<;>first|exact trivial|exact⟨by omega,rfl⟩|omega|(simp;done)|exact⟨by omega,by simp⟩|exact⟨by omega,by simp,rfl⟩
   intro z a7;try dsimp only at a7⊢
   obtain _ :=a7;simp only[gj];refine xM (bI []) tI (j2 @X @cc) tI (k:= ?_);exact⟨_,σ,sS (Wk.refl _) (by simp[aG]) (Wk.refl _) (Wk.refl _),AS.ah hσ b5,.ai,GV.nil,rfl⟩
  ·have Z:vq σ b nl o idx ta tj r a idx=some (HM o b.length (r.map (·.a)) (r.map (·.t)) ta tj):=by simp[vq,u,E]
   have a3:vq σ b nl o idx ta tj r a ta=some (.tok r.length):=by simp[vq,A]
   have n:¬idx=a8:=nq h0 Z;have al:=aA n;have P:¬ta=a8:=nq h0 a3;have ap:=aA P;rw[oA]at Z;generalize vq σ b nl o idx ta tj r a=S at*;have hm:(r.map (·.t)).length=r.length:=by simp
   have hi:(r.map (·.a)).length=r.length:=by simp
   have ej:(r.map (·.a)).Pairwise (· < ·):=(List.pairwise_append.1 hP).1;have af:kO b=match mB (r.map (·.a)) r with
    |.error (p,e)=>(([],[]),p,e)
    |.ok l=>((l,r.map (·.a)++ [(b.length:Int)]),0,0):=by unfold kO;rw[hD];rfl
   generalize c5:r.map (·.a)=L at*;generalize c6:r.map (·.t)=J at*;refine xM (bI []) tI (j4 @ar @aI n @Z) @b4 (k:= ?_);refine ae.bp (α:=(Nat)×(List db)) ((0,[])) (fun⟨k,d⟩=>r.length-k) (fun⟨k,d⟩=>k≤r.length∧d.length=k∧Gw d (mB L (r.drop k))=mB L r) [(0,?_),(6,?_),(7,?_),(51,?_)] (fun⟨k,d⟩=> [(52,.sc (.int .i64 k))]) (fun⟨k,d⟩=>S.set a8 (.cells 110 (az ((d++(r.drop k).map (·.x)).map aJ++Y)))) ?_ ?_ ?_ ?_;rotate_left 4
   ·(try dsimp only);(simp only[gj];repeat (first|exact aS.nil|refine aS.cons (by first|(simp-implicitDefEqProofs;done)|exact Wk.of (by(try simp-implicitDefEqProofs)<;>rfl)) ?_))
   ·(try dsimp only);(simp[Function.comp_def])
   ·exact⟨by omega,rfl,by simp;cases mB L r<;>simp[Gw]⟩
   intro x_ a7;obtain⟨k,d⟩:=x_;try dsimp only at a7⊢
   obtain⟨hk,hd,hR⟩:=a7;simp only[gj];by_cases ac:k<r.length
   ·have a6:IntKind.i64.wrap ((k:Int)+1)=((k+1:Nat):Int):=cv (by omega);rw[List.drop_eq_getElem_cons ac]at hR;rw[List.drop_eq_getElem_cons ac,List.map_cons];rw[Gv]at hR;have ek:J[k]? =some r[k].t:=by rw[←c6];simp[ac]
    have ei:L[k]? =some r[k].a:=by rw[←c5];simp[ac]
    have d7:k<L.length:=by omega
    have d8:k<J.length:=by omega
    generalize r[k]=y at*;obtain⟨x,ya,yt⟩:=y;simp only at ek ei hR⊢;generalize hM:(r.drop (k+1)).map (·.x)=M at*;have hh:M.length=r.length-(k+1):=by rw[←hM];simp
    have ca:∀v∈(d++x::M).map aJ++Y,v.cells.length=6:=by
     intro v hv;rcases List.mem_append.1 hv with hv|hv
     ·obtain⟨z,_,rfl⟩:=List.mem_map.1 hv;rfl
     ·exact(ci v (by simp[hv])).trans (by simp)
    have c3:k<((d++x::M).map aJ++Y).length:=by simp;omega
    have em:((d++x::M).map aJ++Y)[k]'c3=aJ x:=by rw[List.getElem_append_left (by simp;omega),List.getElem_map,List.getElem_append_right (by omega)];simp[hd]
    have g0:(az ((d++x::M).map aJ++Y))[k*6]? =some (.sc (.int .i64 x.op)):=by have:=mh ca c3 (j:=0) (by omega);rw[em]at this;exact this
    have f5:=dR ca;have dp:∀p:Int,(az ((d++x::M).map aJ++Y)).take (k*6+1)++ .sc (.int .i64 p)::(az ((d++x::M).map aJ++Y)).drop (k*6+1+1)=az (((d++ [{ x with arg:=p }])++M).map aJ++Y):=by intro p;rw[rO ca c3 (v:=aJ { x with arg:=p }) (by omega) (by rw[em];rfl)];congr 1;rw[List.set_append_left _ _ (by simp;omega)];congr 1;rw[←List.map_set];congr 1;rw[List.set_append_right _ _ (by omega)];simp[hd]
    have c2:(d++x::M)=(d++ [x])++M:=by simp
    have d4:∀z:db,az (List.map aJ (d++ [z])++(List.drop (k+1) (List.map (aJ∘fun x=>x.x) r)++Y))=az (((d++ [z])++M).map aJ++Y):=by intro z;rw[←hM];simp[List.map_drop]
    have gM:k*6+6≤(az ((d++x::M).map aJ++Y)).length:=by rw[f5];omega
    generalize f6:az ((d++x::M).map aJ++Y)=CL at*;have e7:(nj x.op).2.1=oO x.op:=rfl;have bv:=fun σ=>sT x.op σ;simp only[jq]at bv;rw[e7]at bv;obtain⟨_,g1⟩:=List.getElem?_eq_some_iff.1 g0;obtain⟨_,ck⟩:=List.getElem?_eq_some_iff.1 ek;obtain⟨_,cj⟩:=List.getElem?_eq_some_iff.1 ei;have b1:k*6<CL.length:=by omega
    have b2:k*6+1<CL.length:=by omega
    have b3:k*6+1+1≤CL.length:=by omega
    by_cases h5:oO x.op=5
    ·rw[h5]at bv;obtain⟨p,e9,d3⟩:=Nx L yt ej;have ec:=fun σ=>NI L yt (.tok ta) (decide (L= [])) p e9 (by omega) d3 σ;have fd:=Fu L yt ej p d3;unfold yf at hR;rw[if_pos h5]at hR;simp only at hR;rw[fd]at hR;by_cases be:L[p]? =some yt
     ·rw[if_pos be]at hR;simp only at hR;refine xM (bI []) tI (j4 @ac @g1 @b1 @aI) @bv (k:= ?_);intro ab a0 q;have bc:=aA a0;have g:¬idx=ab:=nq Z q;have H:=aA g;have i:¬ta=ab:=nq a3 q;have U:=aA i;refine xM (bI []) tI (j2 (j7 @ac @ck @cj @d7 @d8 @aG @b3) (j8 @a0 @bc @be @aI n @Z @a6 g)) @ec (k:= ?_);refine aP.mk ((k+1,d++ [{ x with arg:=p }])) (by(try dsimp only);omega) (by(try dsimp only);(simp only[gj];repeat (first|exact aS.nil|refine aS.cons (by first|(simp-implicitDefEqProofs;done)|exact Wk.of (by(try simp-implicitDefEqProofs [aI,mj,F,G,u,D,O,T,V,I,K,A,E,Q,X,↓bb,n,al,P,ap,Z,a3,a6,H,g,Z,U,i,a3])<;>rfl)) ?_))) (by(try dsimp only);(rw[d4,←dp];exact AS.ah (lR _) (by simp[a0,q]))) ?_;try dsimp only
      exact⟨ac,by simp[hd],hR⟩
     ·rw[if_neg be]at hR;simp only at hR;rw[←hR]at af;simp only at af;rw[af];refine xM (bI []) tI (j4 @ac @g1 @b1 @aI) @bv (k:= ?_);intro ab a0 q;have bc:=aA a0;have g:¬idx=ab:=nq Z q;have H:=aA g;have i:¬ta=ab:=nq a3 q;have U:=aA i;refine xM (bI []) tI (j2 (j7 @ac @ck @cj @d7 @d8 @aG @b3) (j8 @a0 @bc @be @aI n @Z @a6 g)) @ec (k:= ?_);exact⟨_,σ,sS (Wk.refl _) (by simp) (Wk.refl _) (Wk.refl _),AS.ah (AS.ah bs (le_none bs h0)) (le_none bs q),.ai,GV.nil,rfl⟩
    ·have fb:yf L ⟨x,ya,yt⟩= .ok x:=by unfold yf;rw[if_neg h5]
     rw[fb]at hR;simp only at hR;refine xM (bI []) tI (j4 @ac @g1 @b1 @aI) @bv (k:= ?_);intro ab a0 q;have bc:=aA a0;have g:¬idx=ab:=nq Z q;have H:=aA g;have i:¬ta=ab:=nq a3 q;have U:=aA i;refine xM (bI []) tI (j2 @h5 @a6) tI (k:= ?_);refine aP.mk ((k+1,d++ [x])) (by(try dsimp only);omega) (by(try dsimp only);(simp only[gj];repeat (first|exact aS.nil|refine aS.cons (by first|(simp-implicitDefEqProofs;done)|exact Wk.of (by(try simp-implicitDefEqProofs [aI,mj,F,G,u,D,O,T,V,I,K,A,E,Q,X,↓bb,n,al,P,ap,Z,a3,a6,H,g,Z,U,i,a3])<;>rfl)) ?_))) (by(try dsimp only);(rw[d4,←c2,f6];exact AS.ah (lR _) (by simp[a0,q]))) ?_;try dsimp only
     exact⟨ac,by simp[hd],hR⟩
   ·rw[List.drop_eq_nil_of_le (by omega)]at hR;have fw:mB L r= .ok d:=by rw[←hR];simp[mB,Gw]
    rw[fw]at af;simp only at af;have fk:(r.drop k).map (·.x)= []:=by rw[List.drop_eq_nil_of_le (by omega)];rfl
    have he:k=r.length:=by omega
    have d9:d.length=r.length:=by omega
    refine xM (bI [20]) tI (j2 @ac @aI) tI (k:= ?_);have ce:List.drop k (List.map (aJ∘fun x=>x.x) r)= []:=List.drop_eq_nil_of_le (by simp;omega);rw[ce,List.nil_append];have e6:σ a8=none:=le_none bs h0;have f4:GV prog 110 (d.map aJ) (.fT a8 0 r.length cap) σ (σ.set a8 (.cells 110 (az (d.map aJ++Y)))):=by
     refine .inr ⟨a8,cap,Y,e6,by simp[d9],rfl,fun v hv=> ?_,by simpa[d9]using ea⟩;rcases List.mem_append.1 hv with hv|hv
     ·obtain⟨z,_,rfl⟩:=List.mem_map.1 hv;simp[aJ]
     ·exact ci v (by simp[hv])
    rw[af];have hj:L.length≤160:=by omega
    refine xM (bI []) tI (j4 n P @Z @a3) tI (k:= ?_);exact⟨_,_,sS (Wk.refl _) (by simp[aG]) (Wk.refl _) (Wk.refl _),AS.ah (Me bs) (by simp[P,b5]),_,f4,rfl⟩
end Cd
namespace Im
open Go Go.AW Tryz
theorem AR (S:List Nat):aH prog [] S:=mixed
open Rg (Cl ic aW ed cG gw)
open Bd (R6 dz s8 cH cE fD)
open Cd (oO eW kO kh mB RI rH yf)
theorem Hm (l:List Ty) (hl:l.length≤1000) (σ:AS):aa prog 171 [Sg.qy l] σ (ao (Sg.qy l) σ) No:=by
 refine aa.ob func171 ?_;simp only[Sg.qy];cases l with
 |nil=>exact gE AR tI tI
 |cons t r=>
  have h:r.length≤999:=by simpa using hl
  refine gO AR @underlying47 tI ?_;intro i g;refine gO AR tI tI ?_;exact aq g (lR _)
theorem uT {b:By} :∀ {k a:Nat}{r:List RI},kh b k a= .ok r→(∀y∈r,(a:Int)≤y.a∧y.a<b.length)∧(r.map (·.a)).Pairwise (· < ·)
 |0,a,r,h=>by
  simp only[kh]at h;split at h
  ·cases h
  ·cases h;simp
 |k+1,a,r,h=>by
  simp only[kh]at h;split at h
  ·rename_i ha;split at h
   ·cases h
   ·rename_i x t u h1;split at h
    ·cases h
    ·rename_i s l;cases h;obtain⟨i,n⟩:=uT l;obtain⟨_,_,q,o,_⟩:=Cd.Fg ha h1;have j:=Cd.fg (oO x.op);refine⟨fun y g=> ?_,?_⟩
     ·rcases List.mem_cons.1 g with rfl|g
      ·exact⟨Int.le_refl _,by simp only;omega⟩
      ·have:=i y g;omega
     ·simp only[List.map_cons,List.pairwise_cons,List.mem_map,forall_exists_index,and_imp,forall_apply_eq_imp_iff₂];exact⟨fun y g=>by have:=i y g;omega,n⟩
  ·cases h;simp
theorem Cs {b:By} :∀ {k a:Nat}{p e:Int},kh b k a= .error (p,e)→e≠0
 |0,a,p,e,h=>by
  simp only[kh]at h;split at h
  ·cases h;decide
  ·cases h
 |k+1,a,p,e,h=>by
  simp only[kh]at h;split at h
  ·split at h
   ·rename_i h1;cases h;exact Cd.Fh h1
   ·split at h
    ·rename_i g;cases h;exact Cs g
    ·cases h
  ·cases h
theorem Cr {b:By} :∀ {k a:Nat}{r:List RI},kh b k a= .ok r→r.length≤k∧(a<b.length→r≠ [])
 |0,a,r,h=>by
  simp only[kh]at h;split at h
  ·cases h
  ·rename_i h1;cases h;exact⟨by simp,fun g=>absurd g h1⟩
 |k+1,a,r,h=>by
  simp only[kh]at h;split at h
  ·split at h
   ·cases h
   ·split at h
    ·cases h
    ·rename_i i;cases h;exact⟨by simpa using(Cr i).1,fun _ =>by simp⟩
  ·rename_i h1;cases h;exact⟨by simp,fun g=>absurd g h1⟩
theorem Br {L:List Int} :∀ {r:List RI}{l:List db},mB L r= .ok l→l.length=r.length
 |[],l,h=>by simp only[mB,Except.ok.injEq]at h;subst h;rfl
 |y::r,l,h=>by
  simp only[mB]at h;split at h
  ·cases h
  ·split at h
   ·cases h
   ·rename_i g;cases h;simp[Br g]
theorem Bs {L:List Int} :∀ {r:List RI}{p e:Int},mB L r= .error (p,e)→e≠0
 |[],p,e,h=>by simp[mB]at h
 |y::r,p,e,h=>by
  simp only[mB]at h;split at h
  ·rename_i h1;cases h;unfold yf at h1;split at h1
   ·split at h1
    ·cases h1;decide
    ·cases h1
   ·cases h1
  ·split at h
   ·rename_i g;cases h;exact Bs g
   ·cases h
theorem MG {b:By}(h:(kO b).2.2=0):(kO b).1.2.Pairwise (· < ·)∧(kO b).1.1.length≤160∧(kO b).1.2.length≤161∧(b≠ []→(kO b).1.1≠ []):=by
 unfold kO at h⊢;cases g:kh b 160 0 with
 |error i=>obtain⟨p,e⟩:=i;rw[g]at h;exact absurd h (Cs g)
 |ok r=>
  rw[g]at h;simp only at h⊢;cases n:mB (r.map (·.a)) r with
  |error i=>obtain⟨p,e⟩:=i;rw[n]at h;exact absurd h (Bs n)
  |ok l=>
   simp only;obtain⟨D,A⟩:=uT g;obtain⟨k1,q⟩:=Cr g;have hl:=Br n;refine⟨?_,by omega,by simp;omega,fun w=> ?_⟩
   ·rw[List.pairwise_append];refine⟨A,by simp,fun x v y o=> ?_⟩;obtain⟨z,u,rfl⟩:=List.mem_map.1 v;simp at o;subst o;exact(D z u).2
   ·intro j;have:=q (by simpa using List.length_pos_iff.2 w);rw[j]at hl;exact this (List.length_eq_zero_iff.1 (by simpa using hl.symm))
end Im
namespace Bd
open Go Go.AW Tryz
theorem lD {b:By}{a n:Nat}{x:Int}(h:At b a (bg x n)) (h0:0≤x) (h1:x<256^n):iA b a n= .ok (x,a+n):=by obtain⟨i,g⟩:=h.num h0 h1;unfold iA;rw[if_pos i,g]
theorem jY (n:Nat):bg (n:Int) 1= [UInt8.ofNat (n%256)]:=by simp only[bg];congr 2
theorem sF {b:By}{a:Nat}{c:Nat}(h:At b a [UInt8.ofNat c]) (g:c<256):fH b a c= .ok (a+1):=by have h1:=jY c;rw[Nat.mod_eq_of_lt g]at h1;rw[←h1]at h;unfold fH;rw[lD h (by omega) (by omega)];simp
theorem sH {b:By}{a:Nat}{l:By}(h:At b a l) (h1:1≤l.length) (g:l.length≤65535):gY b a l.length= .ok (l,a+l.length):=by unfold gY;have:=h.len;rw[if_neg (by omega),if_pos (by omega),mZ,h.2];rfl
theorem An {b:By} :∀ {k a:Nat},At b a (List.replicate k 0)→p8 b k a= .ok (a+k):=by
 intro k;induction k with
 |zero=>intro a _;rfl
 |succ k g=>intro a h;rw[List.replicate_succ,At.cons]at h;have h1:=sF (c:=0) h.1 (by omega);simp only[p8];rw[show((0:Nat):Int)=0 from rfl]at h1;rw[h1];simp only;rw[g h.2];congr 1;omega
theorem J3 {b:By} :∀ {l:List Int}{a:Nat},At b a (l.flatMap (bg · 2))→(∀x∈l,0≤x∧x≤65535)→jx b l.length a= .ok (l,a+2*l.length):=by
 intro l;induction l with
 |nil=>intro a _ _;rfl
 |cons x r g=>intro a h hl;rw[List.flatMap_cons,At.app,ax]at h;have j:=hl x (by simp);simp only[List.length_cons,jx];rw[lD h.1 j.1 (by omega)];simp only;rw[g h.2 fun y i=>hl y (by simp[i])];simp only;congr 2;omega
theorem LF (r:R6):r6 (rh r)=r:=rfl
theorem J2 {b:By} :∀ {l:List R6}{a:Nat},At b a (l.flatMap rm)→l.all CZ=true→jw b l.length a= .ok (l,a+12*l.length):=by
 intro l;induction l with
 |nil=>intro a _ _;rfl
 |cons r t g=>intro a h hl;rw[List.flatMap_cons,At.app,pZ]at h;simp only[List.all_cons,Bool.and_eq_true]at hl;have h1:=J3 (l:=rh r) h.1 (BI hl.1);rw[wJ]at h1;simp only[List.length_cons,jw];rw[h1];simp only;rw[g h.2 hl.2];simp only[LF];congr 2;omega
def Cw (n:Nat) (cls:List R6):By:=List.replicate ((4-n%4)%4) 0++ [1,UInt8.ofNat cls.length,0,0]++cls.flatMap rm
theorem Ke (n:Nat) (cls:List R6):(Cw n cls).length=(4-n%4)%4+4+12*cls.length:=by simp only[Cw,List.length_append,List.length_replicate,Ci,List.length_cons,List.length_nil]
theorem Cp {b:By}{fr a:Nat}{cls:List R6}(h:At b a (Cw (a-fr) cls)) (h1:1≤cls.length) (D:cls.length≤6) (g:cls.all CZ=true):eI b fr a= .ok (cls,a+(Cw (a-fr) cls).length):=by have hlen:(Cw (a-fr) cls).length=(4-(a-fr)%4)%4+4+12*cls.length:=Ke _ _;rw[hlen];unfold Cw at h;rw[At.app,At.app,At.RU]at h;simp only[List.length_append,List.length_replicate,List.length_cons,List.length_nil]at h;obtain⟨⟨y,w,i,v,u⟩,q⟩:=h;unfold eI;rw[An y];simp only;have n:=sF (c:=1) w (by omega);have l:=sF (c:=0) v (by omega);have j:=sF (c:=0) u (by omega);have o:=jY cls.length;rw[Nat.mod_eq_of_lt (by omega)]at o;rw[←o]at i;have A:=lD i (by omega) (by omega);simp only[show((1:Nat):Int)=1 from rfl,show((0:Nat):Int)=0 from rfl]at n l j;rw[n];simp only;rw[A];simp only;rw[if_neg (by omega),l];simp only;rw[j];simp only[Int.toNat_natCast];rw[J2 (by simpa[Nat.add_assoc]using q) g];congr 2;omega
theorem B6 {b:By}{a c:Nat}{code:By} :At b a (mO c code)↔At b a [UInt8.ofNat c]∧At b (a+1) (List.replicate 3 0)∧At b (a+4) (bg code.length 4)∧At b (a+8) code:=by unfold mO;rw[At.app,At.app,At.cons,show([0,0,0]:By)=List.replicate 3 0 from rfl];simp[ax,and_assoc]
theorem qL (c:Nat) (code:By):(mO c code).length=8+code.length:=by simp[mO,ax];omega
theorem vN {code:By}{cls:List R6}(h:cls≠ []):cm code cls=mO 11 code++Cw (8+code.length) cls:=by unfold cm;rw[if_neg h,tH,qL,Cw];simp
theorem J6 {b:By}{fr:Nat}{code:By}{cls:List R6}(h:At b fr (cm code cls)) (J:fr%4=0) (G:dd code cls=true):iB b fr= .ok ((code,cls),fr+(cm code cls).length):=by
 have u:1≤code.length∧code.length≤65535∧cls.length≤6∧cls.all CZ=true:=by simpa[dd]using G
 obtain⟨A,y,I,H⟩:=u;unfold iB;by_cases w:cls= []
 ·subst w;by_cases q:code.length<64
  ·have hw:cm code []=UInt8.ofNat (4*code.length+2)::code:=by simp[cm,q]
   rw[hw]at h⊢;rw[At.cons]at h;have D:=jY (4*code.length+2);rw[Nat.mod_eq_of_lt (by omega)]at D;rw[←D]at h;rw[lD h.1 (by omega) (by omega)];simp only;rw[if_pos (by omega),show((4*code.length+2:Nat):Int)/4=code.length by omega,sH h.2 A y];simp;omega
  ·have hw:cm code []=mO 3 code:=by simp[cm,q]
   rw[hw]at h⊢;rw[B6]at h;obtain⟨l,j,i,g⟩:=h;have o:=lD (x:=((3:Nat):Int)) (n:=1) (by rw[jY];exact l) (by omega) (by omega);rw[o];simp only;rw[if_neg (by omega),if_neg (by omega),An j];simp only;rw[lD i (by omega) (by omega)];simp only;rw[sH g A y];simp[q,qL];omega
 ·have hw:=vN (code:=code) w;rw[hw]at h⊢;rw[At.app,B6,qL]at h;obtain⟨⟨l,j,i,g⟩,F⟩:=h;have v:1≤cls.length:=by cases cls with|nil=>exact absurd rfl w|cons _ _ =>simp
  have o:=lD (x:=((11:Nat):Int)) (n:=1) (by rw[jY];exact l) (by omega) (by omega);rw[o];simp only;rw[if_neg (by omega),if_neg (by omega),An j];simp only;rw[lD i (by omega) (by omega)];simp only;rw[sH g A y];have E:fr+8+code.length-fr=8+code.length:=by omega
  have:=Cp (b:=b) (fr:=fr) (a:=fr+8+code.length) (cls:=cls) (by rw[E];simpa[Nat.add_assoc]using F) v I H;simp only;rw[if_pos (by omega),this];simp only[E,List.length_append,qL];congr 2;omega
end Bd
end Go.Proofs.YtknalmoackcpbaaGreat
