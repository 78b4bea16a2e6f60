/- Package slices: Repeat, of one byte. -/
import Derived.Test.YtknalmoackcpbaaGreatFacts
set_option maxRecDepth 100000
set_option maxHeartbeats 3200000
set_option linter.all false
open Go Go.AW
namespace Go.Proofs.YtknalmoackcpbaaGreat
namespace Sg
open Tryz
abbrev fU:dW:=(.S 0 (.S 1 (.S 2 (.S 3 (.S 4 (.S 5 (.S 6 (.A 7 (.S 8 (.S 9 .D)) .Z))))))))
theorem cP (S:List Nat):cu prog [(9,fU)] S:=mixed
theorem Ad (n:Int) (hn:n=0∨n=1∨n=2∨n=3) (σ:AS):ad prog 265 [.sc (.int .u64 1),.sc (.int .u64 n)] σ
 (aq (.cp [.sc (.int .u64 0),.sc (.int .u64 n)]) σ) No:=by
 have q:oN 64 0 4294967295=0:=by decide
 have o:oN 64 1 4294967295=1:=by decide
 have l:oN 64 2 4294967295=2:=by decide
 have j:oN 64 3 4294967295=3:=by decide
 have i0:IntKind.u64.wrap 0=0:=by decide
 have i1:IntKind.u64.wrap 1=1:=by decide
 have i2:IntKind.u64.wrap 2=2:=by decide
 have i3:IntKind.u64.wrap 3=3:=by decide
 rcases hn with rfl|rfl|rfl|rfl
 ·refine ad.ob func265 ?_;exact gE aa (j8 @q @o @l @j @i0 @i1 @i2 @i3) tI
 ·refine ad.ob func265 ?_;exact gE aa (j8 @q @o @l @j @i0 @i1 @i2 @i3) tI
 ·refine ad.ob func265 ?_;exact gE aa (j8 @q @o @l @j @i0 @i1 @i2 @i3) tI
 ·refine ad.ob func265 ?_;exact gE aa (j8 @q @o @l @j @i0 @i1 @i2 @i3) tI
theorem E2 (n:Int) (hn:n=0∨n=1∨n=2∨n=3) (σ:AS):ad prog 231 [.sc (.int .u64 1),.sc (.int .u64 n)] σ
 (aq (.cp [.sc (.int .u64 0),.sc (.int .u64 n)]) σ) No:=by
 have h:=fun σ=>Ad n hn σ;refine ad.ob func231 ?_;exact gE aa tI @h
theorem EE (c:UInt8) (o:cA) (n:Nat) (hn:n≤3) (σ:AS):ad prog 184 [.ah 5 [u8 c] o false,zI n] σ
 (aq (.ah 5 ((List.replicate n c).map u8) .full false) σ) No:=by
 have h:=fun σ=>E2 n (by omega) σ;have i1:IntKind.u64.wrap 1=1:=by decide
 have y:n=0∨n=1∨n=2∨n=3:=by omega
 rcases y with rfl|rfl|rfl|rfl
 ·refine ad.ob func184 ?_;refine gO cP @i1 @h ?_;intro id v;rw[show eM 0 (AV.sc (.int .u8 0))= [] from rfl];repeat (first
   |refine g1 ?_
   |((first|refine g2 ?_ |((with_reducible apply dX 9 fU);refine dY mixed ?_));simp-implicitDefEqProofs [fK,bU])
   |(refine g3 ?_;try simp-implicitDefEqProofs [fK,bU]))
  refine aA.aY (α:=(Nat)) (0) (fun j=>0-j) (fun j=>0≤j∧j≤0) [(4,?_),(7,?_)] (fun j=> [(8,zI j)]) (fun j=>σ.set id (.cells 5 (List.replicate j (u8 c)++List.replicate (0-j) (.sc (.int .u8 0))))) ?_ ?_ ?_ ?_;rotate_left 2
  ·exact gF tI
  ·(try dsimp only);(simp;done)
  ·exact⟨by omega,by omega⟩
  intro j l;try dsimp only at l⊢
  obtain⟨q,w⟩:=l;simp only[fm];have u:j=0:=by omega
  rcases u with rfl
  ·clear q;refine gO (S:= [10]) cP (j2 @fK.eq_1 @bU.eq_1) tI ?_;refine aA.freeze 7 id (List.replicate 0 (u8 c)) (m:=0) (by simp) (by simp[*]) (by simp) (by simp) (by simp) ?_;exact gE cP tI tI
 ·refine ad.ob func184 ?_;refine gO cP @i1 @h ?_;intro id v;rw[show eM 1 (AV.sc (.int .u8 0))= [.sc (.int .u8 0)] from rfl];repeat (first
   |refine g1 ?_
   |((first|refine g2 ?_ |((with_reducible apply dX 9 fU);refine dY mixed ?_));simp-implicitDefEqProofs [fK,bU])
   |(refine g3 ?_;try simp-implicitDefEqProofs [fK,bU]))
  refine aA.aY (α:=(Nat)) (1) (fun j=>1-j) (fun j=>1≤j∧j≤1) [(4,?_),(7,?_)] (fun j=> [(8,zI j)]) (fun j=>σ.set id (.cells 5 (List.replicate j (u8 c)++List.replicate (1-j) (.sc (.int .u8 0))))) ?_ ?_ ?_ ?_;rotate_left 2
  ·exact gF tI
  ·(try dsimp only);(simp;done)
  ·exact⟨by omega,by omega⟩
  intro j l;try dsimp only at l⊢
  obtain⟨q,w⟩:=l;simp only[fm];have u:j=1:=by omega
  rcases u with rfl
  ·clear q;refine gO (S:= [10]) cP (j2 @fK.eq_1 @bU.eq_1) tI ?_;refine aA.freeze 7 id (List.replicate 1 (u8 c)) (m:=1) (by simp) (by simp[*]) (by simp) (by simp) (by simp) ?_;exact gE cP tI tI
 ·refine ad.ob func184 ?_;refine gO cP @i1 @h ?_;intro id v;rw[show eM 2 (AV.sc (.int .u8 0))= [.sc (.int .u8 0),.sc (.int .u8 0)] from rfl];repeat (first
   |refine g1 ?_
   |((first|refine g2 ?_ |((with_reducible apply dX 9 fU);refine dY mixed ?_));simp-implicitDefEqProofs [fK,bU])
   |(refine g3 ?_;try simp-implicitDefEqProofs [fK,bU]))
  refine aA.aY (α:=(Nat)) (1) (fun j=>2-j) (fun j=>1≤j∧j≤2) [(4,?_),(7,?_)] (fun j=> [(8,zI j)]) (fun j=>σ.set id (.cells 5 (List.replicate j (u8 c)++List.replicate (2-j) (.sc (.int .u8 0))))) ?_ ?_ ?_ ?_;rotate_left 2
  ·exact gF tI
  ·(try dsimp only);(simp;done)
  ·exact⟨by omega,by omega⟩
  intro j l;try dsimp only at l⊢
  obtain⟨q,w⟩:=l;simp only[fm];have u:j=1∨j=2:=by omega
  rcases u with rfl|rfl
  ·refine gO cP (j2 @fK.eq_1 @bU.eq_1) tI ?_;refine aH.mk (2) (by(try dsimp only);omega) (gF tI) (by(try dsimp only);(simp;done)) ?_;try dsimp only
   exact⟨by omega,by omega⟩
  ·clear q;refine gO (S:= [10]) cP (j2 @fK.eq_1 @bU.eq_1) tI ?_;refine aA.freeze 7 id (List.replicate 2 (u8 c)) (m:=2) (by simp) (by simp[*]) (by simp) (by simp) (by simp) ?_;exact gE cP tI tI
 ·refine ad.ob func184 ?_;refine gO cP @i1 @h ?_;intro id v;rw[show eM 3 (AV.sc (.int .u8 0))= [.sc (.int .u8 0),.sc (.int .u8 0),.sc (.int .u8 0)] from rfl];repeat (first
   |refine g1 ?_
   |((first|refine g2 ?_ |((with_reducible apply dX 9 fU);refine dY mixed ?_));simp-implicitDefEqProofs [fK,bU])
   |(refine g3 ?_;try simp-implicitDefEqProofs [fK,bU]))
  refine aA.aY (α:=(Nat)) (1) (fun j=>3-j) (fun j=>1≤j∧j≤3) [(4,?_),(7,?_)] (fun j=> [(8,zI j)]) (fun j=>σ.set id (.cells 5 (List.replicate j (u8 c)++List.replicate (3-j) (.sc (.int .u8 0))))) ?_ ?_ ?_ ?_;rotate_left 2
  ·exact gF tI
  ·(try dsimp only);(simp;done)
  ·exact⟨by omega,by omega⟩
  intro j l;try dsimp only at l⊢
  obtain⟨q,w⟩:=l;simp only[fm];have u:j=1∨j=2∨j=3:=by omega
  rcases u with rfl|rfl|rfl
  ·refine gO cP (j2 @fK.eq_1 @bU.eq_1) tI ?_;refine aH.mk (2) (by(try dsimp only);omega) (gF tI) (by(try dsimp only);(simp;done)) ?_;try dsimp only
   exact⟨by omega,by omega⟩
  ·refine gO cP (j2 @fK.eq_1 @bU.eq_1) tI ?_;refine aH.mk (3) (by(try dsimp only);omega) (gF tI) (by(try dsimp only);(simp;done)) ?_;try dsimp only
   exact⟨by omega,by omega⟩
  ·clear q;refine gO (S:= [10]) cP (j2 @fK.eq_1 @bU.eq_1) tI ?_;refine aA.freeze 7 id (List.replicate 3 (u8 c)) (m:=3) (by simp) (by simp[*]) (by simp) (by simp) (by simp) ?_;exact gE cP tI tI
theorem ao {σ σ':AS}{i:Nat}{x:cL}(h:AS.le σ σ'):AS.le (σ.set i x) (σ'.set i x):=by
 intro j y l;by_cases e:j=i
 ·subst e;simpa[AS.set]using l
 ·simp[AS.set,e]at l⊢;exact h j y l
section
variable (id:Nat) (b:zY) (a:Nat) (nl:Bool) (σ:AS) (h:σ id=some (TQ b a nl)) (ha:a≤b.length) (hnl:nl=true→b= []) (hb:b.length≤100000)
include h ha hb
include hnl
omit hnl
end
open Tryz
theorem Di (l:zY) (o:Nat) (nl:Bool) (hnl:nl=true→l= []) (hl:l.length≤1000) (t:Ty) (ht:aV t=true) (σ:AS) (h0:σ o=none):
 ad prog 135 [.ah 5 (l.map u8) (.tok o) nl,cB t] (σ.set o (.tok l.length))
  (gy (fun O=> .ah 5 ((l++dN t).map u8) (.tok O) false) (l++dN t).length σ) No:=by
 obtain⟨d0,d3,M,I⟩:=k9 ht;obtain⟨k,x,d,D⟩:=t;simp only at d0 d3 M I;obtain⟨n,rfl⟩:∃n:Nat,d=n:=⟨d.toNat,by omega⟩;have q:=fun σ=>EE 29 .full n (by omega) σ;have w:=fun(b:UInt8) v h1 A σ=>mT (l++((if D=true then [16]else [])++(List.replicate n 29++ [b]))) (.tok o) false (by simp) (by cases D<;>simp<;>omega) v h1 A σ;have K:=fun σ=>DU 0 (x+1) σ;generalize L:dN ⟨k,x,n,D⟩=B;refine ad.ob func135 ?_;simp only[cB];cases D;all_goals
  simp[List.append_assoc]at w;rcases I with⟨rfl,_,h,rfl⟩|⟨rfl,rfl⟩|⟨rfl,rfl⟩|⟨rfl,rfl⟩|⟨rfl,J⟩|⟨rfl,J⟩|⟨rfl,J⟩
 all_goals try (cases h;done)
 all_goals
  simp[dN,wA]at L;subst L;refine gO aa tI tI ?_;intro id j u;first
   |(refine gO aa j @q ?_
     exact aW o h0 (by simp) (by simpa[Nat.add_assoc]using AS.ao (lR _) (by simp[j,u])))
   |(have E:(x<0)=False:=by simp;omega
     have w:=w 19 x (by omega) (by omega);refine gO aa (j2 @E j) (j2 @q @w) ?_;intro y H G A;refine gO aa tI tI ?_;exact aW y A (by simp) (by simpa[Nat.add_assoc]using ao (AS.ao (AS.ao (lR _) h0) (by simp[u]))))
   |(have E:((4*(x+1))<0)=False:=by simp;omega
     have F:=w 18 (4*(x+1)) (by omega) (by omega);have w:=w 17 (4*(x+1)) (by omega) (by omega);rw[show lB 0 (x+1)=(4*(x+1),0) by unfold lB;rw[if_neg (by omega),if_neg (by omega),if_neg (by omega)];simp]at K;have hw:zW (x+1)=x+1:=aI (by omega) (by omega);refine gO aa (j3 @E @hw j) (j4 @q @w @F @K) ?_;intro y H G A;refine gO aa tI tI ?_;exact aW y A (by simp) (by simpa[Nat.add_assoc]using ao (AS.ao (AS.ao (lR _) h0) (by simp[u]))))
def oI (P:Program) {α:Type}(I:α→Prop) (fr:α→List (Nat×AV)) (st:α→AS) (s:Fr) (σ:AS):Prop:= ∃v,I v∧aP P s (gD (fr v))∧AS.le (st v) σ
@[congr] theorem Nz {P:Program}{α:Type}{I:α→Prop}{fr:α→List (Nat×AV)}{st:α→AS}{s j:Fr}{σ σ':AS}(h1:s=j) (l:σ=σ'):oI P I fr st s σ=oI P I fr st j σ':=by rw[h1,l]
theorem Fv {P:Program}{n:Nat}{ds:List Deferred}{Q:AQ}{s:Fr}{σ:AS}{α:Type}{x y:Code}(I:α→Prop) (fr:α→List (Nat×AV)) (st:α→AS) (h1:aA P n ds x (fD (oI P I fr st) Q) s σ)
 (j:∀v,I v→aA P n ds y Q (gD (fr v)) (st v)):aA P n ds x (fD (aA P n ds y Q) Q) s σ:=by
 refine h1.mono fun e l σ' h=> ?_;cases e with
 |normal=>obtain⟨v,i1,i2,i3⟩:=h;exact(j v i1).weaken i2 i3
 |exit i=>exact h
 |ret=>exact h
 |panic x=>exact h
theorem aE (t:Ty):cB t= .agg [zI t.kind,zI t.index,zI t.cT,.sc (.bool t.ref)]:=rfl
def fW {α:Type} :Except Int α→Int
 |.ok _ =>0
 |.error e=>e
theorem IE {P:Program}{f:FuncId}{e:TypeId}{es:List AV}{nil:Bool}{A:List AV}{σ:AS}{R D:AV→AS→Prop}(hb:im P f=true)
 (h:∀j,σ j=none→ad P f (.ah e es (.tok j) nil::A) (σ.set j (.tok es.length)) R D):ad P f (.ah e es .full nil::A) σ R D:=by
 refine⟨hb,fun G w vals v n=> ?_⟩;have h0:=n.2 0 (by simp);simp only[List.getD_cons_zero]at h0;obtain⟨r,l,F,E⟩:=h0.fG v;refine((h G.top v.fresh).run _ w vals F ⟨by simpa using n.1,fun i o=> ?_⟩).mono fun x w' he=> ?_
 ·cases i with
  |zero=>simpa using E
  |succ k=>simpa using(n.2 (k+1) (by simpa using o)).mono l
 ·unfold jC at he⊢;split at he
  ·obtain⟨u,σ',r,g1,g2,g3,q⟩:=he;exact⟨u,σ',r,l.trans g1,g2,g3,q⟩
  ·obtain⟨x,y,u,σ',r,g1,g2,g3,q⟩:=he;exact⟨x,y,u,σ',r,l.trans g1,g2,g3,q⟩
  ·exact he.elim
theorem zK (l:zY) (nl:Bool) (hnl:nl=true→l= []) (hl:l.length≤1000) (t:Ty) (ht:aV t=true) (σ:AS):
 ad prog 135 [.ah 5 (l.map u8) .full nl,cB t] σ
  (gy (fun j=> .ah 5 ((l++dN t).map u8) (.tok j) false) (l++dN t).length σ) No:=
 IE (by kernel_rfl) fun j h0=>by simpa using Di l j nl hnl hl t ht σ h0
theorem JS (t:Ty) (ht:aV t=true) (σ:AS):
 ad prog 135 [.aC,cB t] σ
  (gy (fun j=> .ah 5 ((dN t).map u8) (.tok j) false) (dN t).length σ) No:=
 ad.wk [.ah 5 [] .full true,cB t] (zK [] true (fun _ =>rfl) (by simp) t ht σ) rfl (fun i n=>by
  rcases i with _ | _ |i
  ·intro G v l;cases l;exact .jw ⟨none,rfl⟩
  ·exact Wk.refl _
  ·exact absurd n (by show ¬i+1+1<2;omega))
def jL {α:Type}(g:α→Bool) (l:List α):Int:=match l.findIdx? g with|some i=>(i:Int)|none=> -1
theorem gr {α:Type}{g:α→Bool}{l:List α}{i:Nat}(h:i<l.length) (h1:∀x∈l.take i,g x=false) (n:g l[i]=true):jL g l=i:=by
 have:l.findIdx? g=some i:=by rw[List.findIdx?_eq_some_iff_getElem];refine⟨h,n,fun j o=> ?_⟩;rw[h1 _ (by rw[List.mem_take_iff_getElem];exact⟨j,by omega,rfl⟩)];simp
 simp[jL,this]
theorem il {α:Type}{g:α→Bool}{l:List α}(h1:∀x∈l,g x=false):jL g l= -1:=by
 have:l.findIdx? g=none:=by rw[List.findIdx?_eq_none_iff];exact h1
 simp[jL,this]
theorem iO {α:Type}(g:α→Bool) (l:List α):decide (0≤jL g l)=l.any g:=by
 unfold jL;cases h:l.findIdx? g with
 |none=>rw[List.findIdx?_eq_none_iff]at h;simp;exact h
 |some i=>rw[List.findIdx?_eq_some_iff_getElem]at h;obtain⟨h1,j,_⟩:=h;simp;exact⟨_,List.getElem_mem h1,j⟩
theorem dZ {α:Type}{g:α→Bool}{l:List α}{i:Nat}(h:i<l.length) (h1:∀x∈l.take i,g x=false) (n:g l[i]=false):∀x∈l.take (i+1),g x=false:=by
 intro x j;rw[List.take_succ_eq_append_getElem h]at j;rcases List.mem_append.1 j with j|j
 ·exact h1 x j
 ·simp at j;rw[j];exact n
theorem rT (l:List Ty) (o:cA) (nl:Bool) (w:AV) (g:Ty→Bool) (σ:AS) (hl:l.length≤140737488355328) (hf:∀x∈l,nJ prog σ w [cB x] (.sc (.bool (g x)))):
 ad prog 173 [.ah 49 (l.map cB) o nl,w] σ (aq (zI (jL g l)) σ) No:=by
 refine ad.ob func173 ?_;refine gO aa tI tI ?_;refine aA.aY (α:=(Nat)) (0) (fun i=>l.length-i) (fun i=>i≤l.length∧ ∀x∈l.take i,g x=false) [(0,?_),(1,?_),(7,?_)] (fun i=> [(8,zI i)]) (fun i=>σ) ?_ ?_ ?_ ?_;rotate_left 3
 ·exact gF tI
 ·exact gT
 ·(try dsimp only)<;>first|exact trivial|exact⟨by omega,rfl⟩|omega|(simp;done)|exact⟨by omega,by simp⟩|exact⟨by omega,by simp,rfl⟩
 intro i q;try dsimp only at q⊢
 obtain⟨y,v⟩:=q;simp only[fm];by_cases j:i<l.length
 ·have n:zW ((i:Int)+1)=((i+1:Nat):Int):=bh (by omega);have hu:=(hf l[i] (List.getElem_mem j));simp only[aE]at hu;cases u:g l[i]with
  |true=>
   rw[u]at hu;rw[gr j v u];repeat (first
    |refine g1 ?_
    |((first|refine g2 ?_ |((with_reducible apply aj.id);first|apply (hu.use)));simp-implicitDefEqProofs [j,aE])
    |(refine g3 ?_;try simp-implicitDefEqProofs))
  |false=>
   rw[u]at hu;repeat (first
    |refine g1 ?_
    |((first|refine g2 ?_ |((with_reducible apply aj.id);first|apply (hu.use)));simp-implicitDefEqProofs [j,aE,n])
    |(refine g3 ?_;try simp-implicitDefEqProofs))
   refine aH.mk (i+1) (by(try dsimp only);omega) (gF tI) gT ?_;try dsimp only
   exact⟨j,dZ j v u⟩
 ·rw[il (by rwa [List.take_of_length_le (by omega)]at v)];exact gE aa (j2 j @ae) tI
theorem fh (l:List Ty) (o:cA) (nl:Bool) (j:AV) (g:Ty→Bool) (σ:AS) (hl:l.length≤140737488355328) (hf:∀x∈l,nJ prog σ j [cB x] (.sc (.bool (g x)))):
 ad prog 118 [.ah 49 (l.map cB) o nl,j] σ (aq (.sc (.bool (l.any g))) σ) No:=by
 have n:=rT l o nl j g σ hl hf;rw[←iO];refine ad.ob func118 ?_;exact gE aa tI @n
theorem K8 (t:Ty) (σ:AS):ad prog 195 [cB t] σ (aq (.sc (.bool (!aX t))) σ) No:=by have h:=fun σ=>xm t σ;refine ad.ob func195 ?_;simp only[aE]at h⊢;refine gO aa tI tI ?_;intro id j;refine gO aa tI @h ?_;exact AS.ao (lR _) j
theorem y5 (l:List Ty) (o:cA) (nl:Bool) (hl:l.length≤140737488355328) (σ:AS):
 ad prog 140 [.ah 49 (l.map cB) o nl] σ (aq (.sc (.bool (l.all aX))) σ) No:=by
 have h:=fun σ=>fh l o nl (.sc (.func (.func 195) #[] #[])) (fun t=> !aX t) σ hl (fun x _ =>nJ.func (K8 x σ));have e:(!l.any fun t=> !aX t)=l.all aX:=by simp[List.all_eq_not_any_not]
 rw[←e];refine ad.ob func140 ?_;exact gE aa tI @h
theorem NS (t:Ty) (ht:aV t=true) (σ:AS):ad prog 64 [cB t] σ
 (gy (fun o=> .cp [.ah 5 ((dN t).map u8) (.tok o) false,zI 0]) (dN t).length σ) No:=by
 have h:=fun σ=>oW t σ;have q:=fun σ=>JS t ht σ;rw[ht]at h;refine ad.ob func64 ?_;simp only[aE]at h q⊢;refine gO aa tI tI ?_;intro id n;refine gO aa tI (j2 @h @q) ?_;intro o j l;refine gO aa tI tI ?_;exact aW o l (by simp) (ao (AS.ao (lR _) n))
theorem Lj (t:Ty) (ht:aV t=false) (σ:AS):ad prog 64 [cB t] σ
 (aq (.cp [.aC,zI 17]) σ) No:=by
 have h:=fun σ=>oW t σ;rw[ht]at h;refine ad.ob func64 ?_;simp only[aE]at h⊢;refine gO aa tI tI ?_;intro id j;refine gO aa tI @h ?_;exact AS.ao (lR _) j
theorem oV (t:Ty) (ht:cq t=true) (σ:AS):ad prog 62 [cB t] σ
 (gy (fun o=> .cp [.ah 5 ((6::dN t).map u8) (.tok o) false,zI 0]) (6::dN t).length σ) No:=by
 have h:=fun σ=>xp t σ;have q:aV t=true:=by unfold cq aX at ht;simp at ht;exact ht.1.1
 have u:=fun σ=>zK [6] false (by simp) (by simp) t q σ;rw[ht]at h;simp at u;refine ad.ob func62 ?_;simp only[aE]at h u⊢;refine gO aa tI tI ?_;intro id n;refine gO aa tI (j2 @h @u) ?_;intro o j l;refine gO aa tI tI ?_;exact aW o l (by simp) (ao (AS.ao (lR _) n))
theorem nw (t:Ty) (ht:cq t=false) (σ:AS):ad prog 62 [cB t] σ
 (aq (.cp [.aC,zI 17]) σ) No:=by
 have h:=fun σ=>xp t σ;rw[ht]at h;refine ad.ob func62 ?_;simp only[aE]at h⊢;refine gO aa tI tI ?_;intro id j;refine gO aa tI @h ?_;exact AS.ao (lR _) j
def del (τ:AS) (i:Nat):AS:=fun j=>if j=i then none else τ j
theorem KL {τ:AS}{i:Nat}{x:cL}(h:τ i=some x):(del τ i).set i x=τ:=by
 funext j;by_cases e:j=i
 ·subst e;simp[AS.set,h]
 ·simp[AS.set,del,e]
theorem vb {σ τ:AS}{i:Nat}(h:AS.le σ τ) (h0:σ i=none):AS.le σ (del τ i):=by
 intro j y l;by_cases e:j=i
 ·subst e;rw[h0]at l;cases l
 ·simp[del,e];exact h _ _ l
theorem O6 {l:zY}{n:Nat}{nl:Bool}{t:Ty}{τ:AS}{K w:AV→AS→Prop}(hnl:nl=true→l= []) (hl:l.length≤1000) (ht:aV t=true) (h:τ n=some (.tok l.length))
 (q:∀j,(del τ n) j=none→K (.ah 5 ((l++dN t).map u8) (.tok j) false) ((del τ n).set j (.tok (l++dN t).length))):
 aj prog (.sc (.func (.func 135) #[] #[])) [.ah 5 (l.map u8) (.tok n) nl,.agg [zI t.kind,zI t.index,zI t.cT,.sc (.bool t.ref)]] τ K w:=by
 have o:=Di l n nl hnl hl t ht (del τ n) (by simp[del]);rw[KL h]at o;exact .of o (fun r σ' ⟨j,h1,v,u⟩=>by subst v;subst u;exact q j h1) (fun _ _ h=>h.elim)
def preB (c:UInt8) (l:List Ty) (i:Nat):zY:=c::(bG l.length++(l.take i).flatMap dN)
theorem o5 (c:UInt8) (l:List Ty) {i:Nat}(h:i<l.length):preB c l (i+1)=preB c l i++dN l[i]:=by unfold preB;rw[List.take_succ_eq_append_getElem h,List.flatMap_append];simp only[List.flatMap_cons,List.flatMap_nil,List.append_nil,List.cons_append,List.append_assoc]
theorem di (n:Nat) (h:n≤12):bG n= [UInt8.ofNat n]:=by
 have:∀k:Fin 13,bG ((k:Nat):Int)= [UInt8.ofNat k]:=by decide
 exact this ⟨n,by omega⟩
theorem ic {t:Ty}(h:aV t=true):(dN t).length≤10:=by
 obtain⟨d0,d3,l,n⟩:=k9 h;have hb:∀x,(bG x).length≤4:=by intro x;simp only[bG,fA,fE];split<;>(try split)<;>(try split)<;>simp
 have h1:=hb (4*(t.index+1));have q:=hb t.index;have o:t.cT.toNat≤3:=by omega
 have j:(wA t).length≤5:=by
  unfold wA
  repeat' split
  all_goals simp<;>omega
 unfold dN;split<;>simp<;>omega
theorem Hk (c:UInt8) (l:List Ty) (h:l.length≤12) (n:∀t∈l,aV t=true) (i:Nat) (o:i≤l.length):(preB c l i).length≤5+10*i:=by
 induction i with
 |zero=>unfold preB;rw[di _ h];simp
 |succ i j=>rw[o5 c l (by omega),List.length_append];have:=j (by omega);have:=ic (n l[i] (List.getElem_mem (by omega)));omega
theorem Dm (l:List Ty) (h:l.length≤12):preB 7 l l.length=L3 l:=by unfold preB L3 LZ;rw[di _ h,List.take_length];rfl
theorem ze (l:List Ty) (o:cA) (nl:Bool) (hl:l.length≤12) (Q:l.all aX=true) (σ:AS):ad prog 65 [.ah 49 (l.map cB) o nl] σ
 (gy (fun u=> .cp [.ah 5 ((L3 l).map u8) (.tok u) false,zI 0]) (L3 l).length σ) No:=by
 have ha:=fun σ=>y5 l o nl (by omega) σ;rw[Q]at ha;have H:∀t∈l,aV t=true:=by intro t h;have:=List.all_eq_true.1 Q t h;unfold aX at this;simp at this;exact this.1
 have L:=fun σ=>mT [7] .full false (by simp) (by simp) (l.length:Int) (by omega) (by omega) σ;have X: [7]++bG l.length=preB 7 l 0:=by simp[preB]
 rw[X]at L;simp at L;have P:((12:Int)<l.length)=False:=by simp;omega
 have hL:=Hk 7 l hl H;rw[←Dm l hl];refine ad.ob func65 ?_;refine gO aa @P (j2 @ha @L) ?_;intro J E;refine gO aa tI tI ?_;refine aA.aY (α:=(Nat)×(Nat)) ((0,J)) (fun⟨i,u⟩=>l.length-i) (fun⟨i,u⟩=>i≤l.length∧σ u=none) [(2,?_),(3,?_),(23,?_),(24,?_)] (fun⟨i,u⟩=> [(25,zI i),(4,.ah 5 ((preB 7 l i).map u8) (.tok u) false)]) (fun⟨i,u⟩=>σ.set u (.tok (preB 7 l i).length)) ?_ ?_ ?_ ?_;rotate_left 4
 ·exact gF tI
 ·(try dsimp only);(simp;done)
 ·exact⟨by omega,E⟩
 intro V G;obtain⟨i,u⟩:=V;try dsimp only at G⊢
 obtain⟨Y,q⟩:=G;simp only[fm];by_cases v:i<l.length
 ·have A:zW ((i:Int)+1)=((i+1:Nat):Int):=bh (by omega);have Z:=hL i Y;have K:=H l[i] (List.getElem_mem v);repeat (first
   |refine g1 ?_
   |((first|refine g2 ?_);simp-implicitDefEqProofs [v,aE])
   |(refine g3 ?_;try simp-implicitDefEqProofs))
  intro id n D;have j:=ba n;repeat (first
   |refine g1 ?_
   |((first|refine g2 ?_ |((with_reducible apply aj.id);first|apply (O6 (l:=preB 7 l i) (t:=l[i]) (by simp) (by omega) K (by simp[j]))));simp-implicitDefEqProofs)
   |(refine g3 ?_;try simp-implicitDefEqProofs [v,aE,ae,au,A,n,j]))
  intro w F;have hf:σ w=none:=by
   by_cases U:w=u
   ·rw[U];exact q
   ·by_cases T:w=id
    ·rw[T];exact D
    ·simpa[del,AS.set,U,T]using F
  have hle:∀x y,AS.le σ (del ((σ.set u x).set id y) u):=fun x y=>vb (AS.ao (AS.ao (lR _) q) (by simp[D])) q;have S:=o5 7 l v;have O:(preB 7 l (i+1)).map u8=(preB 7 l i).map u8++(dN l[i]).map u8:=by rw[S,List.map_append]
  have I:(preB 7 l (i+1)).length=(preB 7 l i).length+(dN l[i]).length:=by rw[S,List.length_append]
  refine gO aa @A tI ?_;refine aH.mk ((i+1,w)) (by(try dsimp only);omega) (gF @O) (by(try dsimp only);(first|(simp[I];done)|(simp[I];exact ao (hle _ _)))) ?_;try dsimp only
  exact⟨v,hf⟩
 ·have M:i=l.length:=by omega
  subst M;refine gO aa (j2 v @ae) tI ?_;exact aW u q (by simp) (lR _)
theorem vU (l:List Ty) (o:cA) (nl:Bool) (hl:12<l.length) (n:l.length≤140737488355328) (σ:AS):ad prog 65 [.ah 49 (l.map cB) o nl] σ
 (aq (.cp [.aC,zI 4]) σ) No:=by
 have j:((12:Int)<l.length)=True:=by simp;omega
 refine ad.ob func65 ?_;exact gE aa @j tI
theorem wL (l:List Ty) (o:cA) (nl:Bool) (hl:l.length≤12) (n:l.all aX=false) (σ:AS):ad prog 65 [.ah 49 (l.map cB) o nl] σ
 (aq (.cp [.aC,zI 17]) σ) No:=by
 have ha:=fun σ=>y5 l o nl (by omega) σ;rw[n]at ha;have j:((12:Int)<l.length)=False:=by simp;omega
 refine ad.ob func65 ?_;exact gE aa @j @ha
theorem Iu (τ:AS) (i j:Nat):del τ i j=if j=i then none else τ j:=rfl
def Av (c:UInt8) (l:List Ty):zY:=c::bG l.length
def eH (c:UInt8) (l:List Ty) (r:Ty) (i:Nat):zY:=Av c l++(dN r++(l.take i).flatMap dN)
theorem iB (c:UInt8) (l:List Ty) (r:Ty):eH c l r 0=Av c l++dN r:=by simp[eH]
theorem kg (c:UInt8) (l:List Ty) (r:Ty) {i:Nat}(h:i<l.length):eH c l r (i+1)=eH c l r i++dN l[i]:=by unfold eH;rw[List.take_succ_eq_append_getElem h,List.flatMap_append];simp only[List.flatMap_cons,List.flatMap_nil,List.append_nil,List.append_assoc]
theorem tU (c:UInt8) (l:List Ty) (h:l.length≤12):(Av c l).length=2:=by unfold Av;rw[di _ h];rfl
theorem zM (c:UInt8) (l:List Ty) (r:Ty) (h:l.length≤12) (n:aV r=true) (o:∀t∈l,aV t=true) (i:Nat) (q:i≤l.length):(eH c l r i).length≤12+10*i:=by
 induction i with
 |zero=>have:=ic n;rw[iB,List.length_append,tU c l h];omega
 |succ i j=>rw[kg c l r (by omega),List.length_append];have:=j (by omega);have:=ic (o l[i] (List.getElem_mem (by omega)));omega
theorem tH (j:Bool) (l:List Ty) (r:Ty) (h:l.length≤12):eH (if j=true then 32 else 0) l r l.length=LB ⟨j,l,r⟩:=by unfold eH Av LB LZ;rw[di _ h,List.take_length];rfl
theorem Bh (n:Bool) (l:List Ty) (r:Ty) (o:cA) (nl:Bool) (hl:6<l.length) (q:l.length≤140737488355328) (σ:AS):
 ad prog 137 [.agg [zB n,.ah 49 (l.map cB) o nl,zI r.kind,zI r.index,zI r.cT,.sc (.bool r.ref)]] σ
 (aq (.cp [.aC,zI 4]) σ) No:=by
 have u:((6:Int)<l.length)=True:=by simp;omega
 refine ad.ob func137 ?_;refine gO aa tI tI ?_;intro id j;refine gO aa @u tI ?_;exact AS.ao (lR _) j
theorem C1 (y:Bool) (l:List Ty) (r:Ty) (o:cA) (nl:Bool) (hl:l.length≤6) (u:(l.all aX&&cG r)=false) (σ:AS):
 ad prog 137 [.agg [zB y,.ah 49 (l.map cB) o nl,zI r.kind,zI r.index,zI r.cT,.sc (.bool r.ref)]] σ
 (aq (.cp [.aC,zI 17]) σ) No:=by
 have w:((6:Int)<l.length)=False:=by simp;omega
 have ha:=fun σ=>y5 l o nl (by omega) σ;have n:=fun σ=>ve r σ;simp only[aE]at n;cases v:l.all aX with
 |false=>rw[v]at ha;refine ad.ob func137 ?_;refine gO aa tI tI ?_;intro id j;refine gO aa @w @ha ?_;exact AS.ao (lR _) j
 |true=>
  rw[v]at ha u;have q:cG r=false:=by simpa using u
  rw[q]at n;refine ad.ob func137 ?_;refine gO aa tI tI ?_;intro id j;refine gO aa @w (j2 @ha @n) ?_;exact AS.ao (lR _) j
theorem FZ (th:Bool) (l:List Ty) (r:Ty) (o:cA) (nl:Bool) (hl:l.length≤6) (hp:(l.all aX&&cG r)=true) (σ:AS):
 ad prog 137 [.agg [zB th,.ah 49 (l.map cB) o nl,zI r.kind,zI r.index,zI r.cT,.sc (.bool r.ref)]] σ
 (gy (fun H=> .cp [.ah 5 ((LB ⟨th,l,r⟩).map u8) (.tok H) false,zI 0]) (LB ⟨th,l,r⟩).length σ) No:=by
 have h6:((6:Int)<l.length)=False:=by simp;omega
 have ha:=fun σ=>y5 l o nl (by omega) σ;have hr:=fun σ=>ve r σ;simp only[aE]at hr;obtain⟨hA,hR⟩:l.all aX=true∧cG r=true:=by simpa using hp
 rw[hA]at ha;rw[hR]at hr;have Y:aV r=true:=by unfold cG at hR;simp at hR;exact hR.1
 have Z:∀t∈l,aV t=true:=by intro t h;have:=List.all_eq_true.1 hA t h;unfold aX at this;simp at this;exact this.1
 cases th with
 |false=>
  refine ad.ob func137 ?_;refine gO aa tI tI ?_;intro id M;refine gO (S:= [5]) aa @h6 (j2 @ha @hr) ?_
  with_reducible apply aA.dB
  refine bQ.sp rfl (iD.kI (by decide) ?_);simp-implicitDefEqProofs [bF];intro ac q al;have v:=ba q;refine bQ.rest ?_;simp-implicitDefEqProofs;refine gO (S:= [8]) aa q tI ?_;refine aA.freeze 4 ac (([0]:zY).map u8) (m:=1) (by simp) (by simp[*]) (by simp) (by simp) (by simp) ?_;simp-implicitDefEqProofs;have hk:=fun σ=>mT [0] .full false (by simp) (by simp) (l.length:Int) (by omega) (by omega) σ;have hz: [0]++bG l.length=Av 0 l:=by simp[Av]
  rw[hz]at hk;simp at hk;have hS:=tH false l r (by omega);simp at hS;rw[←hS];have hL:=zM 0 l r (by omega) Y Z;have hd:=tU 0 l (by omega);refine gO aa tI @hk ?_;intro ab j D;have n:=ba j;repeat (first
   |refine g1 ?_
   |((first|refine g2 ?_ |((with_reducible apply aj.id);first|apply (O6 (l:=Av 0 l) (t:=r) (by simp) (by omega) Y (by simp))));simp-implicitDefEqProofs [n])
   |(refine g3 ?_;try simp-implicitDefEqProofs [q,v,ae,au,j,n]))
  intro I A;have O:σ I=none:=by
   by_cases X:I=ab
   ·rw[X];exact D
   ·by_cases V:I=id
    ·rw[V];exact M
    ·simpa[del,AS.set,X,V]using A
  have F:¬id=I:=by intro e;rw[←e]at A;simp[del,n]at A
  rw[←List.map_append,←List.length_append,←iB];refine gO aa (j3 @Iu j F) tI ?_;refine aA.aY (α:=(Nat)×(Nat)) ((0,I)) (fun⟨i,H⟩=>l.length-i) (fun⟨i,H⟩=>i≤l.length∧σ H=none) [(2,?_),(3,?_),(41,?_),(42,?_)] (fun⟨i,H⟩=> [(43,zI i),(4,.ah 5 ((eH 0 l r i).map u8) (.tok H) false)]) (fun⟨i,H⟩=>σ.set H (.tok (eH 0 l r i).length)) ?_ ?_ ?_ ?_;rotate_left 4
  ·exact gF tI
  ·(try dsimp only);(exact ao (vb (AS.ao (AS.ao (lR _) M) (by simp[D])) D))
  ·exact⟨by omega,O⟩
  intro x_ T;obtain⟨i,H⟩:=x_;try dsimp only at T⊢
  obtain⟨hi,E⟩:=T;simp only[fm];by_cases G:i<l.length
  ·have L:zW ((i:Int)+1)=((i+1:Nat):Int):=bh (by omega);have a3:=hL i hi;have af:=Z l[i] (List.getElem_mem G);repeat (first
    |refine g1 ?_
    |((first|refine g2 ?_);simp-implicitDefEqProofs [G,aE])
    |(refine g3 ?_;try simp-implicitDefEqProofs))
   intro Q w J;have u:=ba w;repeat (first
    |refine g1 ?_
    |((first|refine g2 ?_ |((with_reducible apply aj.id);first|apply (O6 (l:=eH 0 l r i) (t:=l[i]) (by simp) (by omega) af (by simp[u]))));simp-implicitDefEqProofs)
    |(refine g3 ?_;try simp-implicitDefEqProofs [G,aE,q,v,ae,au,j,n,L,w,u]))
   intro K P;have hf:σ K=none:=by
    by_cases X:K=H
    ·rw[X];exact E
    ·by_cases V:K=Q
     ·rw[V];exact J
     ·simpa[del,AS.set,X,V]using P
   have hle:∀x y,AS.le σ (del ((σ.set H x).set Q y) H):=fun x y=>vb (AS.ao (AS.ao (lR _) E) (by simp[J])) E;have hE:=kg 0 l r G;have am:(eH 0 l r (i+1)).map u8=(eH 0 l r i).map u8++(dN l[i]).map u8:=by rw[hE,List.map_append]
   have U:(eH 0 l r (i+1)).length=(eH 0 l r i).length+(dN l[i]).length:=by rw[hE,List.length_append]
   refine gO aa @L tI ?_;refine aH.mk ((i+1,K)) (by(try dsimp only);omega) (gF @am) (by(try dsimp only);(first|(simp[U];done)|(simp[U];exact ao (hle _ _)))) ?_;try dsimp only
   exact⟨G,hf⟩
  ·have ak:i=l.length:=by omega
   subst ak;refine gO aa (j2 G @ae) tI ?_;exact aW H E (by simp) (lR _)
 |true=>
  refine ad.ob func137 ?_;refine gO aa tI tI ?_;intro id M;refine gO (S:= [5]) aa @h6 (j2 @ha @hr) ?_
  with_reducible apply aA.dB
  refine bQ.sp rfl (iD.kI (by decide) ?_);simp-implicitDefEqProofs [bF];intro ac q al;have v:=ba q;refine bQ.rest ?_;simp-implicitDefEqProofs;refine gO (S:= [8]) aa q tI ?_;refine aA.freeze 4 ac (([32]:zY).map u8) (m:=1) (by simp) (by simp[*]) (by simp) (by simp) (by simp) ?_;simp-implicitDefEqProofs;have hk:=fun σ=>mT [32] .full false (by simp) (by simp) (l.length:Int) (by omega) (by omega) σ;have hz: [32]++bG l.length=Av 32 l:=by simp[Av]
  rw[hz]at hk;simp at hk;have hS:=tH true l r (by omega);simp at hS;rw[←hS];have hL:=zM 32 l r (by omega) Y Z;have hd:=tU 32 l (by omega);refine gO aa tI @hk ?_;intro ab j D;have n:=ba j;repeat (first
   |refine g1 ?_
   |((first|refine g2 ?_ |((with_reducible apply aj.id);first|apply (O6 (l:=Av 32 l) (t:=r) (by simp) (by omega) Y (by simp))));simp-implicitDefEqProofs [n])
   |(refine g3 ?_;try simp-implicitDefEqProofs [q,v,ae,au,j,n]))
  intro I A;have O:σ I=none:=by
   by_cases X:I=ab
   ·rw[X];exact D
   ·by_cases V:I=id
    ·rw[V];exact M
    ·simpa[del,AS.set,X,V]using A
  have F:¬id=I:=by intro e;rw[←e]at A;simp[del,n]at A
  rw[←List.map_append,←List.length_append,←iB];refine gO aa (j3 @Iu j F) tI ?_;refine aA.aY (α:=(Nat)×(Nat)) ((0,I)) (fun⟨i,H⟩=>l.length-i) (fun⟨i,H⟩=>i≤l.length∧σ H=none) [(2,?_),(3,?_),(41,?_),(42,?_)] (fun⟨i,H⟩=> [(43,zI i),(4,.ah 5 ((eH 32 l r i).map u8) (.tok H) false)]) (fun⟨i,H⟩=>σ.set H (.tok (eH 32 l r i).length)) ?_ ?_ ?_ ?_;rotate_left 4
  ·exact gF tI
  ·(try dsimp only);(exact ao (vb (AS.ao (AS.ao (lR _) M) (by simp[D])) D))
  ·exact⟨by omega,O⟩
  intro x_ T;obtain⟨i,H⟩:=x_;try dsimp only at T⊢
  obtain⟨hi,E⟩:=T;simp only[fm];by_cases G:i<l.length
  ·have L:zW ((i:Int)+1)=((i+1:Nat):Int):=bh (by omega);have a3:=hL i hi;have af:=Z l[i] (List.getElem_mem G);repeat (first
    |refine g1 ?_
    |((first|refine g2 ?_);simp-implicitDefEqProofs [G,aE])
    |(refine g3 ?_;try simp-implicitDefEqProofs))
   intro Q w J;have u:=ba w;repeat (first
    |refine g1 ?_
    |((first|refine g2 ?_ |((with_reducible apply aj.id);first|apply (O6 (l:=eH 32 l r i) (t:=l[i]) (by simp) (by omega) af (by simp[u]))));simp-implicitDefEqProofs)
    |(refine g3 ?_;try simp-implicitDefEqProofs [G,aE,q,v,ae,au,j,n,L,w,u]))
   intro K P;have hf:σ K=none:=by
    by_cases X:K=H
    ·rw[X];exact E
    ·by_cases V:K=Q
     ·rw[V];exact J
     ·simpa[del,AS.set,X,V]using P
   have hle:∀x y,AS.le σ (del ((σ.set H x).set Q y) H):=fun x y=>vb (AS.ao (AS.ao (lR _) E) (by simp[J])) E;have hE:=kg 32 l r G;have am:(eH 32 l r (i+1)).map u8=(eH 32 l r i).map u8++(dN l[i]).map u8:=by rw[hE,List.map_append]
   have U:(eH 32 l r (i+1)).length=(eH 32 l r i).length+(dN l[i]).length:=by rw[hE,List.length_append]
   refine gO aa @L tI ?_;refine aH.mk ((i+1,K)) (by(try dsimp only);omega) (gF @am) (by(try dsimp only);(first|(simp[U];done)|(simp[U];exact ao (hle _ _)))) ?_;try dsimp only
   exact⟨G,hf⟩
  ·have ak:i=l.length:=by omega
   subst ak;refine gO aa (j2 G @ae) tI ?_;exact aW H E (by simp) (lR _)
abbrev pI:dW:=(.S 0 (.S 1 (.S 2 (.S 4 (.S 5 (.S 6 (.R 3 (.R 7 (.S 8 .D)))))))))
theorem pq (S:List Nat):cu prog [(6,pI)] S:=mixed
theorem rz (t u:Ty):(decide (t.kind=u.kind)&&(decide (t.index=u.index)&&(decide (t.cT=u.cT)&&(t.ref==u.ref))))=decide (t=u):=by obtain⟨a,b,c,d⟩:=t;obtain⟨o,n,l,j⟩:=u;rw[Bool.eq_iff_iff];simp
theorem mP (l m:List Ty) (D A:cA) (n1 n2:Bool) (hl:l.length≤1000000) (hm:m.length≤1000000) (σ:AS):
 ad prog 95 [.ah 49 (l.map cB) D n1,.ah 49 (m.map cB) A n2] σ (aq (.sc (.bool (decide (l=m)))) σ) No:=by
 by_cases hlen:l.length=m.length
 ·have w:((l.length:Int)=m.length)=True:=by simp[hlen]
  refine ad.ob func95 ?_;refine gO pq @w tI ?_;refine aA.aY (α:=(Nat)) (0) (fun i=>l.length-i) (fun i=>i≤l.length∧l.take i=m.take i) [(0,?_),(1,?_)] (fun i=> [(5,zI i)]) (fun i=>σ) ?_ ?_ ?_ ?_;rotate_left 2
  ·exact gF tI
  ·exact gT
  ·(try dsimp only)<;>first|exact trivial|exact⟨by omega,rfl⟩|omega|(simp;done)|exact⟨by omega,by simp⟩|exact⟨by omega,by simp,rfl⟩
  intro i u;try dsimp only at u⊢
  obtain⟨F,v⟩:=u;simp only[fm];by_cases j:i<l.length
  ·have q:zW ((i:Int)+1)=((i+1:Nat):Int):=bh (by omega);have o:i<m.length:=by omega
   have y:=rz l[i] m[i];by_cases he:l[i]=m[i]
   ·repeat (first
     |refine g1 ?_
     |((first|refine g2 ?_ |((with_reducible apply dX 6 pI);refine dY mixed ?_));simp-implicitDefEqProofs [j,o,aE,he,q])
     |(refine g3 ?_;try simp-implicitDefEqProofs))
    refine aH.mk (i+1) (by(try dsimp only);omega) (gF tI) gT ?_;try dsimp only
    exact⟨j,by rw[List.take_succ_eq_append_getElem j,List.take_succ_eq_append_getElem o,v,he]⟩
   ·have n:¬l=m:=fun e=>he (by subst e;rfl);rw[show decide (l[i]=m[i])=false by simp[he]]at y;simp only[n,decide_false];exact Od (pq []) @y (j4 j @o @aE @ae) tI (k:=trivial)
  ·have E:l=m:=by rw[List.take_of_length_le (by omega),List.take_of_length_le (by omega)]at v;exact v
   rw[show decide (l=m)=true by simp[E]];exact gE pq (j2 j @ae) tI
 ·have w:((l.length:Int)=m.length)=False:=by simp;omega
  have n:¬l=m:=fun e=>hlen (by rw[e]);rw[show decide (l=m)=false by simp[n]];refine ad.ob func95 ?_;exact gE pq @w tI
end Sg
@[simp] theorem emp:(⟨#[]⟩:ByteArray)=ByteArray.empty:=rfl
def fO (i:List UInt8×Int×Int):AV:= .agg [.sc (.string ⟨i.1.toArray⟩),.sc (.int .i64 i.2.1),.sc (.int .i64 i.2.2)]
def qA (op:Int):List UInt8×Int×Int:=
 if op=62 then([98,111,120],8,0)else
 if op=63 then([117,110,98,111,120],8,0)else
 if op=64 then([117,110,98,111,120,97,110,121],8,0)else
 if op=65 then([99,97,115,116,99,108,97,115,115],8,0)else
 if op=66 then([105,115,105,110,115,116],8,0)else
 if op=67 then([108,100,102,116,110],6,0)else
 if op=68 then([110,101,119,100,101,108],8,0)else
 if op=69 then([116,104,114,111,119],0,3)else
 if op=70 then([114,101,116,104,114,111,119],0,3)else
 if op=71 then([108,101,97,118,101],5,4)else
 if op=72 then([101,110,100,102,105,110,97,108,108,121],0,5)else
 if op=73 then([101,110,100,102,105,108,116,101,114],0,5)else
 if op=74 then([105,110],0,0)else
 if op=75 then([111,117,116],0,0)else
 ([],0,0)
theorem EU (op:Int) (σ:AS):ad Tryz.prog 279 [.sc (.int .i64 op)] σ (aq (fO (qA op)) σ) No:=by
 refine ad.ob Tryz.func279 ?_;refine gO aa tI tI ?_;intro id j;have I:op=62∨op=63∨op=64∨op=65∨op=66∨op=67∨op=68∨op=69∨op=70∨op=71∨op=72∨op=73∨op=74∨op=75∨(¬op=62∧ ¬op=63∧ ¬op=64∧ ¬op=65∧ ¬op=66∧ ¬op=67∧ ¬op=68∧ ¬op=69∧ ¬op=70∧ ¬op=71∧ ¬op=72∧ ¬op=73∧ ¬op=74∧ ¬op=75):=by omega
 rcases I with rfl|rfl|rfl|rfl|rfl|rfl|rfl|rfl|rfl|rfl|rfl|rfl|rfl|rfl|⟨H,G,F,E,D,A,y,w,v,u,q,o,n,l⟩
 rotate_right
 ·refine gO aa (j2 (j7 @H @G @F @E @D @A @y) (j8 @w @v @u @q @o @n @l @fO.eq_1)) tI ?_;try simp[qA,H,G,F,E,D,A,y,w,v,u,q,o,n,l]
  all_goals (repeat (first|exact lR _ |refine aw (by simp[j]) ?_))
 all_goals
  refine gO aa tI tI ?_;try simp[qA,fO]
  all_goals (repeat (first|exact lR _ |refine aw (by simp[j]) ?_))
def qR (op:Int):List UInt8×Int×Int:=
 if op=48 then([108,100,102,108,100],7,0)else
 if op=49 then([115,116,102,108,100],7,0)else
 if op=50 then([108,100,102,108,100,97],7,0)else
 if op=51 then([108,100,115,102,108,100],7,0)else
 if op=52 then([115,116,115,102,108,100],7,0)else
 if op=53 then([108,100,115,102,108,100,97],7,0)else
 if op=54 then([108,100,111,98,106],8,0)else
 if op=55 then([115,116,111,98,106],8,0)else
 if op=56 then([105,110,105,116,111,98,106],8,0)else
 if op=57 then([110,101,119,97,114,114],8,0)else
 if op=58 then([108,100,108,101,110],0,0)else
 if op=59 then([108,100,101,108,101,109],8,0)else
 if op=60 then([115,116,101,108,101,109],8,0)else
 if op=61 then([108,100,101,108,101,109,97],8,0)else
 qA op
theorem rW (op:Int) (σ:AS):ad Tryz.prog 278 [.sc (.int .i64 op)] σ (aq (fO (qR op)) σ) No:=by
 refine ad.ob Tryz.func278 ?_;refine gO aa tI tI ?_;intro id j;have I:op=48∨op=49∨op=50∨op=51∨op=52∨op=53∨op=54∨op=55∨op=56∨op=57∨op=58∨op=59∨op=60∨op=61∨(¬op=48∧ ¬op=49∧ ¬op=50∧ ¬op=51∧ ¬op=52∧ ¬op=53∧ ¬op=54∧ ¬op=55∧ ¬op=56∧ ¬op=57∧ ¬op=58∧ ¬op=59∧ ¬op=60∧ ¬op=61):=by omega
 rcases I with rfl|rfl|rfl|rfl|rfl|rfl|rfl|rfl|rfl|rfl|rfl|rfl|rfl|rfl|⟨H,G,F,E,D,A,y,w,v,u,q,o,n,l⟩
 rotate_right
 ·refine gO aa (j2 (j7 @H @G @F @E @D @A @y) (j8 @w @v @u @q @o @n @l @fO.eq_1)) @EU ?_;try simp[qR,H,G,F,E,D,A,y,w,v,u,q,o,n,l]
  all_goals (repeat (first|exact lR _ |refine aw (by simp[j]) ?_))
 all_goals
  refine gO aa tI tI ?_;try simp[qR,fO]
  all_goals (repeat (first|exact lR _ |refine aw (by simp[j]) ?_))
def vg (op:Int):List UInt8×Int×Int:=
 if op=34 then([98,114],5,1)else
 if op=35 then([98,114,116,114,117,101],5,2)else
 if op=36 then([98,114,102,97,108,115,101],5,2)else
 if op=37 then([98,101,113],5,2)else
 if op=38 then([98,103,101],5,2)else
 if op=39 then([98,103,116],5,2)else
 if op=40 then([98,108,101],5,2)else
 if op=41 then([98,108,116],5,2)else
 if op=42 then([98,110,101],5,2)else
 if op=43 then([99,97,108,108],6,0)else
 if op=44 then([99,97,108,108,118,105,114,116],6,0)else
 if op=45 then([110,101,119,111,98,106],6,0)else
 if op=46 then([114,101,116],0,3)else
 if op=47 then([116,97,105,108],0,0)else
 qR op
theorem HW (op:Int) (σ:AS):ad Tryz.prog 275 [.sc (.int .i64 op)] σ (aq (fO (vg op)) σ) No:=by
 refine ad.ob Tryz.func275 ?_;refine gO aa tI tI ?_;intro id j;have I:op=34∨op=35∨op=36∨op=37∨op=38∨op=39∨op=40∨op=41∨op=42∨op=43∨op=44∨op=45∨op=46∨op=47∨(¬op=34∧ ¬op=35∧ ¬op=36∧ ¬op=37∧ ¬op=38∧ ¬op=39∧ ¬op=40∧ ¬op=41∧ ¬op=42∧ ¬op=43∧ ¬op=44∧ ¬op=45∧ ¬op=46∧ ¬op=47):=by omega
 rcases I with rfl|rfl|rfl|rfl|rfl|rfl|rfl|rfl|rfl|rfl|rfl|rfl|rfl|rfl|⟨H,G,F,E,D,A,y,w,v,u,q,o,n,l⟩
 rotate_right
 ·refine gO aa (j2 (j7 @H @G @F @E @D @A @y) (j8 @w @v @u @q @o @n @l @fO.eq_1)) @rW ?_;try simp[vg,H,G,F,E,D,A,y,w,v,u,q,o,n,l]
  all_goals (repeat (first|exact lR _ |refine aw (by simp[j]) ?_))
 all_goals
  refine gO aa tI tI ?_;try simp[vg,fO]
  all_goals (repeat (first|exact lR _ |refine aw (by simp[j]) ?_))
def zv (op:Int):List UInt8×Int×Int:=
 if op=13 then([97,100,100],0,0)else
 if op=14 then([115,117,98],0,0)else
 if op=15 then([109,117,108],0,0)else
 if op=16 then([100,105,118],0,0)else
 if op=17 then([114,101,109],0,0)else
 if op=18 then([97,110,100],0,0)else
 if op=19 then([111,114],0,0)else
 if op=20 then([120,111,114],0,0)else
 if op=21 then([115,104,108],0,0)else
 if op=22 then([115,104,114],0,0)else
 if op=23 then([110,101,103],0,0)else
 if op=24 then([110,111,116],0,0)else
 if op=25 then([97,100,100,111,118,102],0,0)else
 if op=26 then([115,117,98,111,118,102],0,0)else
 if op=27 then([109,117,108,111,118,102],0,0)else
 if op=28 then([99,111,110,118,52],0,0)else
 if op=29 then([99,111,110,118,56],0,0)else
 if op=30 then([99,111,110,118,111,118,102,52],0,0)else
 if op=31 then([99,101,113],0,0)else
 if op=32 then([99,103,116],0,0)else
 if op=33 then([99,108,116],0,0)else
 vg op
theorem Jm (op:Int) (σ:AS):ad Tryz.prog 256 [.sc (.int .i64 op)] σ (aq (fO (zv op)) σ) No:=by
 refine ad.ob Tryz.func256 ?_;refine gO aa tI tI ?_;intro id j;have Q:op=13∨op=14∨op=15∨op=16∨op=17∨op=18∨op=19∨op=20∨op=21∨op=22∨op=23∨op=24∨op=25∨op=26∨op=27∨op=28∨op=29∨op=30∨op=31∨op=32∨op=33∨(¬op=13∧ ¬op=14∧ ¬op=15∧ ¬op=16∧ ¬op=17∧ ¬op=18∧ ¬op=19∧ ¬op=20∧ ¬op=21∧ ¬op=22∧ ¬op=23∧ ¬op=24∧ ¬op=25∧ ¬op=26∧ ¬op=27∧ ¬op=28∧ ¬op=29∧ ¬op=30∧ ¬op=31∧ ¬op=32∧ ¬op=33):=by omega
 rcases Q with rfl|rfl|rfl|rfl|rfl|rfl|rfl|rfl|rfl|rfl|rfl|rfl|rfl|rfl|rfl|rfl|rfl|rfl|rfl|rfl|rfl|⟨P,O,M,L,K,J,I,H,G,F,E,D,A,y,w,v,u,q,o,n,l⟩
 rotate_right
 ·refine gO aa (j2 (j7 @P @O @M @L @K @J @I) (j2 (j7 @H @G @F @E @D @A @y) (j8 @w @v @u @q @o @n @l @fO.eq_1))) @HW ?_;try simp[zv,P,O,M,L,K,J,I,H,G,F,E,D,A,y,w,v,u,q,o,n,l]
  all_goals (repeat (first|exact lR _ |refine aw (by simp[j]) ?_))
 all_goals
  refine gO aa tI tI ?_;try simp[zv,fO]
  all_goals (repeat (first|exact lR _ |refine aw (by simp[j]) ?_))
def gZ (op:Int):List UInt8×Int×Int:=
 if op=1 then([110,111,112],0,0)else
 if op=2 then([108,100,97,114,103],4,0)else
 if op=3 then([115,116,97,114,103],4,0)else
 if op=4 then([108,100,97,114,103,97],4,0)else
 if op=5 then([108,100,108,111,99],3,0)else
 if op=6 then([115,116,108,111,99],3,0)else
 if op=7 then([108,100,108,111,99,97],3,0)else
 if op=8 then([108,100,99,52],1,0)else
 if op=9 then([108,100,99,56],2,0)else
 if op=10 then([108,100,110,117,108,108],0,0)else
 if op=11 then([100,117,112],0,0)else
 if op=12 then([112,111,112],0,0)else
 zv op
theorem LU (op:Int) (σ:AS):ad Tryz.prog 218 [.sc (.int .i64 op)] σ (aq (fO (gZ op)) σ) No:=by
 refine ad.ob Tryz.func218 ?_;refine gO aa tI tI ?_;intro id j;have F:op=1∨op=2∨op=3∨op=4∨op=5∨op=6∨op=7∨op=8∨op=9∨op=10∨op=11∨op=12∨(¬op=1∧ ¬op=2∧ ¬op=3∧ ¬op=4∧ ¬op=5∧ ¬op=6∧ ¬op=7∧ ¬op=8∧ ¬op=9∧ ¬op=10∧ ¬op=11∧ ¬op=12):=by omega
 rcases F with rfl|rfl|rfl|rfl|rfl|rfl|rfl|rfl|rfl|rfl|rfl|rfl|⟨h1,E,D,A,y,w,v,u,q,o,n,l⟩
 rotate_right
 ·refine gO aa (j2 (j7 @h1 @E @D @A @y @w @v) (j6 @u @q @o @n @l @fO.eq_1)) @Jm ?_;try simp[gZ,h1,E,D,A,y,w,v,u,q,o,n,l]
  all_goals (repeat (first|exact lR _ |refine aw (by simp[j]) ?_))
 all_goals
  refine gO aa tI tI ?_;try simp[gZ,fO]
  all_goals (repeat (first|exact lR _ |refine aw (by simp[j]) ?_))
end Go.Proofs.YtknalmoackcpbaaGreat
