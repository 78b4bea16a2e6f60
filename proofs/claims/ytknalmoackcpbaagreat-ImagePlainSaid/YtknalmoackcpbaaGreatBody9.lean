/- Package body: a body is read. -/
import Derived.Test.YtknalmoackcpbaaGreatFacts
set_option maxRecDepth 100000
set_option maxHeartbeats 3200000
set_option maxHeartbeats 800000
set_option linter.all false
open Go Go.AW Go.Proofs.Tryz List
namespace Go.Proofs.YtknalmoackcpbaaGreat
namespace Bd
abbrev iy:bW:=(.A 0 (.A 1 (.A 2 (.A 3 (.S 4 (.A 5 (.A 6 .D .Z) .Z)) (.A 5 (.A 3 (.S 4 (.A 6 .D .Z)) .Z) .Z)) (.A 5 (.A 2 (.A 3 (.S 4 (.A 6 .D .Z)) .Z) .Z) .Z)) (.A 5 (.R 1 (.A 2 (.A 3 (.S 4 (.A 6 .D .Z)) .Z) .Z)) .Z)) (.A 1 (.A 0 (.A 2 (.A 3 (.S 4 (.A 5 (.A 6 .D .Z) .Z)) (.A 5 (.A 3 (.S 4 (.A 6 .D .Z)) .Z) .Z)) (.A 5 (.A 2 (.A 3 (.S 4 (.A 6 .D .Z)) .Z) .Z) .Z)) (.A 2 (.A 0 (.A 3 (.S 4 (.A 5 (.A 6 .D .Z) .Z)) (.A 5 (.A 3 (.S 4 (.A 6 .D .Z)) .Z) .Z)) (.A 5 (.R 0 (.A 3 (.S 4 (.A 6 .D .Z)) .Z)) .Z)) (.A 5 (.A 0 (.A 2 (.A 3 (.S 4 (.A 6 .D .Z)) .Z) .Z) (.A 2 (.R 0 (.A 3 (.S 4 (.A 6 .D .Z)) .Z)) .Z)) .Z))) (.A 5 (.R 1 (.A 0 (.A 2 (.A 3 (.S 4 (.A 6 .D .Z)) .Z) .Z) (.A 2 (.R 0 (.A 3 (.S 4 (.A 6 .D .Z)) .Z)) .Z))) .Z)))
def cg (S:List Nat):bH prog [(9,iy)] S:=mixed
def iu (b:zY) (fr:Nat):Except Int ((zY×List R6)×Nat):=
 match iH b fr 1 with
 |.error e=> .error e
 |.ok (c,h)=>
  if c%4=2 then
   match ir b h (c/4)with
   |.error e=> .error e
   |.ok (l,d)=> .ok ((l,[]),d)
  else if ¬((c=3∨c=11)∧fr%4=0)then .error 2 else
  match rG b 3 h with
  |.error e=> .error e
  |.ok d=>match iH b d 4 with
   |.error e=> .error e
   |.ok (n,j)=>match ir b j n with
    |.error e=> .error e
    |.ok (l,g)=>
     if c=11 then
      match ey b fr g with
      |.error e=> .error e
      |.ok (rs,i)=> .ok ((l,rs),i)
     else if l.length<64 then .error 2 else .ok ((l,[]),g)
def QN (x:zY×List R6):AV:=zq x.1 x.2 .aI .aI (decide (x.1= [])) (decide (x.2= []))
def HM {b:zY} :∀ {k a:Nat}{l:List R6}{g:Nat},jn b k a= .ok (l,g)→l.length=k:=by
 intro k;induction k with
 |zero=>intro a l g h;simp[jn]at h;simp[←h.1]
 |succ k i=>
  intro a l g h;simp only[jn]at h;cases h1:jo b 6 a with
  |error e=>rw[h1]at h;simp at h
  |ok x=>
   obtain⟨x,j⟩:=x;rw[h1]at h;simp only at h;cases d:jn b k j with
   |error e=>rw[d]at h;simp at h
   |ok y=>obtain⟨y,n⟩:=y;rw[d]at h;simp at h;have:=i d;simp[←h.1,this]
def uP {b:zY}{fr a:Nat}{l:List R6}{d:Nat}(h:ey b fr a= .ok (l,d)):l≠ []∧l.length≤6:=by
 unfold ey at h;split at h
 ·cases h
 ·split at h
  ·cases h
  ·split at h
   ·cases h
   ·split at h
    ·cases h
    ·rename_i g;split at h
     ·cases h
     ·split at h
      ·cases h
      ·have:=HM h;refine⟨?_,by omega⟩;rintro rfl;simp at this;omega
def SN (I:Fr→AS→Prop) (s:Fr) (σ:AS):Prop:= ∃s1 d,aN prog s s1∧AS.le d σ∧I s1 d
def aq.meet {n:Nat}{ds:List Deferred}{c y:Code}{Q g:AQ}{s:Fr}{σ:AS}(I:Fr→AS→Prop) (h1:aq prog n ds c (dF (SN I) g) s σ) (j:∀s1 d,I s1 d→aq prog n ds y Q s1 d):aq prog n ds c (dF (aq prog n ds y Q) g) s σ:=
 aq.mono h1 fun e s σ h=>by
  cases e with
  |normal=>obtain⟨s1,d,g1,g2,g3⟩:=h;exact(j s1 d g3).weaken g1 g2
  |exit i=>exact h
  |ret=>exact h
  |panic v=>exact h
def El {B:AS}{id id6:Nat}{i g C:bP}(h:B id6=none):AS.le (B.set id g) (((B.set id i).set id6 C).set id g):=by
 intro j x d;by_cases e:j=id
 ·subst e;simpa[AS.set]using d
 ·simp[AS.set,e]at d;have:j≠id6:=by rintro rfl;rw[h]at d;cases d
  simp[AS.set,e,this,d]
def Yu (b:zY) (nl:Bool) (fr c:Int) (id g d:Nat) (X:Except Int Nat) (B:AS) (m:Nat) (f:Fr) (h:AS):Prop:=
 ∃(i a:Nat),m=3-i∧i≤3∧a≤b.length∧fr≤(a:Int)∧rG b (3-i) a=X∧h=B.set id (bA b a nl)∧
  f=iO [(1,zI fr),(2,.ptr g 0),(4,.ptr d 0),(5,zI c),(29,zI i)]
def sA {b:zY}{a:Nat}{n:Int}{l:zY}{d:Nat}(h:ir b a n= .ok (l,d)):l≠ []:=by
 unfold ir at h;split at h
 ·cases h
 ·split at h
  ·cases h;have:=eC b a n (by omega) (by omega) (by omega);intro e;rw[e]at this;simp at this;omega
  ·cases h
def gz {b:zY}{a:Nat}{n:Int}{l:zY}{d:Nat}(h:ir b a n= .ok (l,d)):a≤d∧d≤b.length:=by
 unfold ir at h;split at h
 ·cases h
 ·split at h
  ·cases h;omega
  ·cases h
def Yt (b:zY) (nl:Bool) (fr c:Int) (o id g d:Nat) (B:AS) (s1:Fr) (j:AS):Prop:=
 ∃n i l h id6,iH b o 4= .ok (n,i)∧ir b i n= .ok (l,h)∧B id6=none∧s1=iO [(1,zI fr),(2,.ptr g 0),(4,.ptr d 0),(5,zI c),(6,.ptr id6 0)]∧
  j=(B.set id (bA b (h:Nat) nl)).set id6 (.cells 219 [.ao 5 (l.map u8) .aI false,.ai])
def Lo (id:Nat) (b:zY) (fr:Nat) (nl:Bool) (b2:nl=true→b= []) (σ:AS) (h:σ id=some (bA b fr nl)) (ha:fr≤b.length) (hl:b.length≤140737488355328):
 ad prog 250 [jy id,zI fr] σ (RD (iu b fr) QN b nl id σ) (TD (iu b fr) b nl id σ):=by
 have v:=fun e σ=>cD e σ;have H:=fun e σ=>cy e σ;refine ad.ob func250 ?_;simp only[jy];refine gO (S:= [9]) cg tI tI ?_;intro u O;have n1:id≠u:=nq h O;have o:=aK n1;refine gO (S:= [9]) cg tI tI ?_;intro F E M;have K:=aK E;have n4:id≠F:=nq h M;have P:=aK n4;obtain⟨B,b5,g,T,cj,hle,av⟩:∃B:AS,((σ.set u (.cells 324 [.ptr id 0])).set F (.cells 219 [.ai,.ai]))=B.set id (bA b fr nl)∧B u=some (.cells 324 [.ptr id 0])∧B F=some (.cells 219 [.ai,.ai])∧B id≠none∧(∀x:Int,AS.le (σ.set id (bA b x nl)) (B.set id (bA b x nl)))∧ ∀(x:Int) (y:bP),AS.le (σ.set id (bA b x nl)) ((B.set id (bA b x nl)).set F y):=by
  refine⟨_,(fF (by simp[AS.set,n1,n4,h])).symm,by simp[K],by simp,by simp[AS.set,n1,n4,h],fun x=>aj (an (by simp[AS.set,E,M]) (an O (lR _))),fun x y=> ?_⟩;intro j z hz;by_cases e1:j=id
  ·subst e1;simpa[AS.set,n4]using hz
  ·have e2:j≠F:=by rintro rfl;simp[AS.set,e1,M]at hz
   have e3:j≠u:=by rintro rfl;simp[AS.set,e1,O]at hz
   simp[AS.set,e1]at hz;simp[AS.set,e1,e2,e3,hz]
 simp only[b5];clear b5;have no:∀e,iu b fr= .error e→ ∀x:Int,∃σ',AS.le σ' (B.set id (bA b x nl))∧TD (iu b fr) b nl id σ (sQ e) σ':=fun e he x=>⟨_,hle x,e,he,rfl,x,rfl⟩;have d:iu b fr=iu b fr:=rfl
 conv at d=>rhs;unfold iu
 generalize iu b fr=X at d no⊢;cases hN:iH b fr 1 with
 |error e=>rw[hN]at d;have G:=ui id b fr 1 nl B ha hl (by decide) e hN;refine gO (S:= [9]) cg (j2 @o @g) @G ?_;refine cz ?_;exact no e d
 |ok y=>
 obtain⟨c,a1⟩:=y;rw[hN]at d;simp only at d;have G:=xK id b fr 1 nl B hl (by decide) (by omega) c a1 hN;have l1:=pV hN;have hc:0≤c∧c<256:=by
  obtain⟨h1,rfl,_⟩:=vH hN;have h2:=jb (cu b fr 1);have h3:(cu b fr 1).length=1:=by have:=eC b fr 1 (by omega) (by omega) (by omega);omega
  rw[h3]at h2;exact⟨ct _,by simpa using h2⟩
 have Q:IntKind.i64.wrap (lr 64 c 3)=c%4:=by have:=js (w:=64) (a:=c) 2 hc.1 (by omega) (by omega);rw[show(2:Int)^2-1=3 from by decide,show(2:Int)^2=4 from by decide]at this;rw[this,az (by omega) (by omega)]
 have c6:IntKind.i64.wrap (c/4)=c/4:=az (by omega) (by omega);have kq:F≠id:=P;by_cases h2:c%4=2
 ·rw[if_pos h2]at d;cases I:ir b a1 (c/4)with
  |error e=>rw[I]at d;have L:=ER id b a1 nl B l1.2 hl _ e I;refine gO (S:= [9]) cg (j6 @o @P @g @T @Q @h2) (j2 @G @L) ?_;refine cz ?_;exact no e d
  |ok y=>
   obtain⟨l,V⟩:=y;rw[I]at d;simp only at d;have L:=H9 id b a1 nl B b2 hl _ l V I;refine gO (S:= [9]) cg (j6 @o @P @g @T @Q @h2) (j2 @G @L) ?_;refine⟨QN (l,[]),σ.set id (bA b V nl),?_,?_,(l,[]),V,d,rfl,rfl⟩
   ·exact lu (by simp[sA I]) (by simp)
   ·exact av _ _
 rw[if_neg h2]at d;by_cases h3:(c=3∨c=11)∧fr%4=0
 ·rw[if_neg (by simpa using h3)]at d;have al:((fr:Int).tmod 4)=((fr%4:Nat):Int):=by rw[Int.tmod_eq_emod_of_nonneg (by omega)];omega
  have d2:((fr:Int)%4=0)=True:=by simp;omega
  have d3:c=3∨(¬c=3∧c=11):=by omega
  generalize hP:rG b 3 a1=EP at d;obtain⟨CV,CW,a9,ci⟩:∃z w:Int,z=c∧w=c:=⟨c,c,rfl,rfl⟩;rcases d3 with rfl|⟨d4,rfl⟩;all_goals
   refine gO (S:= [9]) cg (j5 @o @g @Q @al @d2) (j2 @G @v) ?_;refine aq.dc (Yu b nl fr CV id u F EP B) (k0:=3) (by subst a9;exact⟨0,a1,rfl,by omega,l1.2,by omega,hP,rfl,rfl⟩) (by subst a9;exact aN.mk (by simp)) (lR _) ?_;subst a9;rintro m f σ' ⟨i,V,hm,hi,l2,c5,hX,rfl,rfl⟩;by_cases c7:i<3
   ·have hI:((i:Int)<3)=True:=by simp;omega
    rw[show 3-i=(2-i)+1 by omega]at hX;simp only[rG]at hX;cases I:fJ b V 0 with
    |error e=>rw[I]at hX;have L:=lY id b V nl B l2 hl 0 e I;refine gO (S:= [9]) cg (j3 hI @o @g) @L ?_;refine cz ?_;refine no e ?_;rw[d,←hX]
    |ok a3=>rw[I]at hX;simp only at hX;have L:=nO id b V nl B hl 0 a3 I;refine gO (S:= [9]) cg (j3 hI @o @g) @L ?_;clear d;refine⟨m-1,_,_,by omega,aN.mk ?_,lR _,i+1,a3,by omega,by omega,(lz I).2,by have:=lz I;omega,by rw[←hX];congr 1;omega,rfl,rfl⟩;simp[gW (show i<4000000000000000000 by omega)]
   ·have hI:((i:Int)<3)=False:=by simp;omega
    obtain rfl:i=3:=by omega
    simp only[Nat.sub_self,rG]at hX;rw[←hX]at d;simp only at d;refine gO (S:= [9]) cg tI tI ?_;refine aq.meet (Yt b nl fr CW V id u F B) ?_ ?_ <;>subst ci
    ·cases I:iH b V 4 with
     |error e=>
      rw[I]at d;have a8:=no e d;clear d no G v H
      (((with_reducible apply dX 9 iy);refine dY mixed ?_);simp-implicitDefEqProofs [o,g])
      all_goals
       repeat' (first
        |(with_reducible apply j2)
        |(intro id6 u6 v6;have w6:¬u=id6:=(by rintro rfl;rw[g]at v6;cases v6);have bf:¬id6=u:=(fun e=>w6 e.symm);have bv:¬id=id6:=(fun e=>u6 e.symm);try simp-implicitDefEqProofs [w6])
        |(simp-implicitDefEqProofs [show ¬id6=id by assumption])
        |(refine ag.iC (xL id b V 4 nl _ (by simp[AS.set, *]) l2 hl (by decide) e I) ?_;simp-implicitDefEqProofs))
      all_goals
       intro x;exact(a8 x).imp fun σ' h=>⟨AS.le_trans h.1 (by first|exact lR _ |exact El (by assumption)|exact an (by simp[AS.set, *]) (lR _)),h.2⟩
     |ok y=>
      obtain⟨n,a3⟩:=y;rw[I]at d;simp only at d;have l3:=pV I;cases J:ir b a3 n with
      |error e=>
       rw[J]at d;have a8:=no e d;clear d no G v H
       (((with_reducible apply dX 9 iy);refine dY mixed ?_);simp-implicitDefEqProofs [o,g])
       all_goals
        repeat' (first
         |(with_reducible apply j2)
         |(intro id6 u6 v6;have w6:¬u=id6:=(by rintro rfl;rw[g]at v6;cases v6);have bf:¬id6=u:=(fun e=>w6 e.symm);have bv:¬id=id6:=(fun e=>u6 e.symm);try simp-implicitDefEqProofs [w6])
         |(simp-implicitDefEqProofs [show ¬u=id6 by assumption,show ¬id6=id by assumption])
         |(refine ag.ay (sF id b V 4 nl _ (by simp[AS.set, *]) hl (by decide) (by omega) n a3 I) ?_;simp-implicitDefEqProofs [o,g])
         |(refine ag.iC (zu id b a3 nl _ (by simp[AS.set, *]) l3.2 hl n e J) ?_;simp-implicitDefEqProofs))
       all_goals
        intro x;exact(a8 x).imp fun σ' h=>⟨AS.le_trans h.1 (by first|exact lR _ |exact El (by assumption)|exact an (by simp[AS.set, *]) (lR _)),h.2⟩
      |ok y=>
       obtain⟨l,a4⟩:=y;clear d no G v H
       (((with_reducible apply dX 9 iy);refine dY mixed ?_);simp-implicitDefEqProofs [o,g])
       all_goals
        repeat' (first
         |(with_reducible apply j2)
         |(intro id6 u6 v6;have w6:¬u=id6:=(by rintro rfl;rw[g]at v6;cases v6);have bf:¬id6=u:=(fun e=>w6 e.symm);have bv:¬id=id6:=(fun e=>u6 e.symm);try simp-implicitDefEqProofs [w6])
         |(simp-implicitDefEqProofs [show ¬u=id6 by assumption,show ¬id6=id by assumption])
         |(refine ag.ay (sF id b V 4 nl _ (by simp[AS.set, *]) hl (by decide) (by omega) n a3 I) ?_;simp-implicitDefEqProofs [o,g])
         |(refine ag.ay (Dd id b a3 nl _ b2 (by simp[AS.set, *]) hl n l a4 J) ?_;simp-implicitDefEqProofs))
       all_goals
        refine⟨_,_,aN.mk (by simp),?_,n,a3,l,a4,id6,I,J,by assumption,rfl,rfl⟩;first|exact lR _ |skip
    ·rintro s1 σ1 ⟨n,a3,l,a4,id6,I,J,h6,rfl,rfl⟩;rw[I]at d;simp only at d;rw[J]at d;simp only at d;have l4:a4≤b.length:=(gz J).2;have w1:¬id6=id:=by rintro rfl;exact cj h6
     have cd:=aK w1;have w2:¬id6=u:=nq g h6;have bs:=aK w2;have w4:¬id6=F:=nq T h6;have a7:=aK w4;have ar:∀(x:Int) (y z:bP),AS.le (σ.set id (bA b x nl)) (((B.set id (bA b x nl)).set id6 y).set F z):=by
      intro x y z j q hj;have h1:=av x z j q hj;by_cases e:j=id6
      ·subst e;simp[AS.set,w1,w4,h6]at h1
      ·by_cases e4:j=F
       ·subst e4;simpa[AS.set]using h1
       ·simpa[AS.set,e,e4]using h1
     first
     |(rw[if_pos trivial]at d
       have b3:=De id b fr a4 nl ((B.set id (bA b a4 nl)).set id6 (.cells 219 [.ao 5 (l.map u8) .aI false,.ai])) (by simp[cd]) l4 (by have:=pV I;have:=gz J;omega) hl;cases hE:ey b fr a4 with
       |error e=>rw[hE]at d;have Y:=RD.bad b3 hE;refine gO (S:= [9]) cg (j7 @o @P @g @T @w1 @bs @a7) (j2 @v @Y) ?_;refine cz ?_;intro x;exact(no e d x).imp fun σ' h=>⟨AS.le_trans h.1 (by first|exact El h6|exact an (by simp[AS.set,w1,h6]) (lR _)),h.2⟩
       |ok y=>obtain⟨rs,a5⟩:=y;rw[hE]at d;simp only at d;have Y:=RD.ok b3 hE;refine gO (S:= [9]) cg (j7 @o @P @g @T @w1 @bs @a7) (j2 @v @Y) ?_;have ce:=uP hE;refine⟨QN (l,rs),σ.set id (bA b a5 nl),lu (by simp[sA J]) (by simp[ce.1]),?_,(l,rs),a5,d,rfl,rfl⟩;exact ar _ _ _)
     |(by_cases b6:l.length<64
       ·rw[if_neg (by omega),if_pos b6]at d;have ab:((l.length:Int)<64)=True:=by simp;omega
        refine gO (S:= [9]) cg @ab (j2 @pz @H) ?_;exact(no 2 d a4).imp fun σ' h=>⟨AS.le_trans h.1 (an (by simp[AS.set,w1,h6]) (lR _)),h.2⟩
       ·rw[if_neg (by omega),if_neg b6]at d;have ab:((l.length:Int)<64)=False:=by simp;omega
        refine gO (S:= [9]) cg (j4 @P @T @a7 @ab) (j2 @pz @v) ?_;exact⟨QN (l,[]),σ.set id (bA b a4 nl),lu (by simp[sA J]) (by simp),ar _ _ _,(l,[]),a4,d,rfl,rfl⟩)
 ·rw[if_pos (by simpa using h3)]at d;have al:((fr:Int).tmod 4)=((fr%4:Nat):Int):=by rw[Int.tmod_eq_emod_of_nonneg (by omega)];omega
  by_cases d1:c=3
  ·have d2:((fr:Int)%4=0)=False:=by simp;omega
   subst d1;refine gO (S:= [9]) cg (j5 @o @g @Q @al @d2) (j2 @G @H) ?_;exact no 2 d _
  ·by_cases d3:c=11
   ·have d2:((fr:Int)%4=0)=False:=by simp;omega
    subst d3;refine gO (S:= [9]) cg (j5 @o @g @Q @al @d2) (j2 @G @H) ?_;exact no 2 d _
   ·refine gO (S:= [9]) cg (j6 @o @g @Q @h2 @d1 @d3) (j2 @G @H) ?_;exact no 2 d _
abbrev oY:bW:=(.S 1 (.R 2 (.A 0 (.A 3 (.A 4 (.A 5 (.A 6 .D .Z) .Z) .Z) .Z) (.A 3 (.R 0 (.A 4 (.A 5 (.A 6 .D .Z) .Z) .Z)) .Z))))
def du (S:List Nat):bH prog [(7,oY)] S:=mixed
def eh (b:zY) (d:Int):(zY×List R6)×Int×Int:=
 if d<0∨b.length<d then(([],[]),0,3)else
 match iu b d.toNat with
 |.error e=>(([],[]),0,e)
 |.ok (x,a)=>(x,a,0)
def D5 (j i h:Nat) (σ:AS) (K:AS→Prop) (g:K σ):bX prog 249 [.ptr j 0,.ptr i 0,.ptr h 0] σ none K:=by
 refine bX.of func249 rfl rfl (by simp[ntmps249]) (by simp[ntmps249]) ?_;refine bq.sp rfl (ia.mH (by simp[ntmps249]) underlying316 trivial (by kernel_rfl) rfl ?_);refine bq.rest ?_;have d:ax prog 316=zI 0:=by kernel_rfl
 simp-implicitDefEqProofs [d,ntmps249];refine gO aa tI tI ?_;exact g
def D4 (h g d:Nat) (e:Int) (u q o n:AV) (σ:AS) (K:AS→Prop) (E:σ h=some (.cells 219 [u,q])) (y:σ g=some (.cells 3 [o])) (w:σ d=some (.cells 31 [n])) (l:h≠g) (j:h≠d) (i:g≠d)
 (v:K (((σ.set h (.cells 219 [.ai,.ai])).set g (.cells 3 [zI 0])).set d (.cells 31 [zI e]))):
 bX prog 249 [.ptr h 0,.ptr g 0,.ptr d 0] σ (some (sQ e)) K:=by
 refine bX.of func249 rfl rfl (by simp[ntmps249]) (by simp[ntmps249]) ?_;refine bq.sp rfl (ia.oL (by simp[ntmps249]) underlying316 trivial rfl ?_);refine bq.rest ?_;simp-implicitDefEqProofs [ntmps249];refine gO aa (j8 @sQ.eq_1 @recV.eq_1 @E @y @w @l.symm @j.symm @i.symm) tI ?_;exact v
def Vw:AQ:=fun _ _ _ =>False
def bo.no:bo Vw:=fun _ _ _ _ h=>h
def aq.sure {n:Nat}{ds:List Deferred}{c:Code}{K:Fr→AS→Prop}{Q:AQ}{s:Fr}{σ:AS}(h:aq prog n ds c (dF K Vw) s σ):aq prog n ds c (dF K Q) s σ:=
 aq.mono h fun e s σ h=>by
  cases e with
  |normal=>exact h
  |exit i=>exact h.elim
  |ret=>exact h.elim
  |panic v=>exact h.elim
def Lb (b:zY) (o:cC) (nl:Bool) (w:Int) (ar:nl=true→b= []) (hl:b.length≤140737488355328) (σ:AS):
 ad prog 213 [.ao 5 (b.map u8) o nl,zI w] σ (ah (.bI [QN (eh b w).1,zI ((eh b w).2.1),zI ((eh b w).2.2)]) σ) No:=by
 refine ad.iZ func213 rfl rfl (by simp[ntmps213]) (fun G1=> ?_);apply kS.seq;have Y:f213.ntmps=32:=rfl;simp-implicitDefEqProofs only[Y];refine gO du tI tI ?_;intro E I;refine gO du tI tI ?_;intro id5 i H;have u:=aK i;refine gO du tI tI ?_;intro id6 d g G;have n:=aK d;have q:=aK g;apply kS.seq;simp-implicitDefEqProofs only[Y];by_cases hr:w<0∨b.length<w
 ·have hS:eh b w=(([],[]),0,3):=by simp only[eh];rw[if_pos hr]
  rw[hS];by_cases c1:w<0
  ·refine gO du (j4 @c1 i d g) tI ?_;exact⟨ju (lu (by simp) (by simp)) (by simp) (by simp),an (by simp[AS.set,d,g,G]) (an (by simp[AS.set,i,H]) (an I (lR _)))⟩
  ·have c2:(b.length:Int)<w:=by omega
   refine gO du (j5 @c1 @c2 i d g) tI ?_;exact⟨ju (lu (by simp) (by simp)) (by simp) (by simp),an (by simp[AS.set,d,g,G]) (an (by simp[AS.set,i,H]) (an I (lR _)))⟩
 ·have hS:eh b w=match iu b w.toNat with
   |.error e=>(([],[]),0,e)
   |.ok (x,a)=>(x,(a:Int),0):=by unfold eh;rw[if_neg hr]
  obtain⟨A,rfl⟩:∃A:Nat,w=A:=⟨w.toNat,by omega⟩;have c1:((A:Int)<0)=False:=by simp
  have c2:((b.length:Int)<A)=False:=by simp;omega
  simp only[Int.toNat_natCast]at hS;refine gO du (j5 @c1 @c2 i d g) tI ?_;apply kS.defer (by simp) (by decide+kernel);intro D;simp-implicitDefEqProofs only[Y];refine gO du tI tI ?_;obtain⟨B,a5,am,al,af,hle⟩:∃B:AS,(((σ.set E (.cells 219 [.ai,.ai])).set id5 (.cells 3 [zI 0])).set id6 (.cells 31 [zI 0]))=B∧B E=some (.cells 219 [.ai,.ai])∧B id5=some (.cells 3 [zI 0])∧B id6=some (.cells 31 [zI 0])∧
   ∀S:AS,(∀j,j≠E→j≠id5→j≠id6→ ∀y,B j=some y→S j=some y)→AS.le σ S:=by
   refine⟨_,rfl,by simp[u,q],by simp[n],by simp,?_⟩;intro S h j x L;have V:j≠E:=nq I L;have T:j≠id5:=nq H L;have Q:j≠id6:=nq G L;exact h j V T Q x (by simp[AS.set,V,T,Q,L])
  simp only[a5];clear a5;refine ag.of (oB b o nl ar hl _) ?_ (fun _ _ h=>h.elim);rintro r σ1 ⟨id,O,rfl,rfl⟩;have m4:¬E=id:=nq am O;have m5:¬id5=id:=nq al O;have m6:¬id6=id:=nq af O;have be:=aK m4;have b5:=aK m5;have b4:=aK m6;simp-implicitDefEqProofs;refine gO du tI tI ?_;intro K v F;have J:=aK v;have q4:¬E=K:=nq am F;have q5:¬id5=K:=nq al F;have q6:¬id6=K:=nq af F;have bc:=aK q4;have b3:=aK q5;have b2:=aK q6;obtain⟨C,a0,a4,a3,a2,ac,a1,P⟩:∃C:AS,((B.set id (bA b 0 nl)).set K (.cells 324 [.ptr id 0]))=C∧C E=some (.cells 219 [.ai,.ai])∧C id5=some (.cells 3 [zI 0])∧C id6=some (.cells 31 [zI 0])∧C K=some (.cells 324 [.ptr id 0])∧C id=some (bA b 0 nl)∧
   ∀S:AS,(∀j,j≠E→j≠id5→j≠id6→j≠id→ ∀y,C j=some y→S j=some y)→AS.le σ S:=by
   refine⟨_,rfl,by simp[m4,q4,am],by simp[m5,q5,al],by simp[m6,q6,af],by simp,by simp[J],?_⟩;intro S h;refine hle S fun j V T Q y L=> ?_;have e1:j≠id:=nq O L;have e7:j≠K:=nq F L;exact h j V T Q e1 y (by simp[AS.set,e1,e7,L])
  simp only[a0];clear a0 hle;have X:=zV id b 0 A nl C a1 (by omega) (by omega) hl (by omega) (by omega);rw[show(0:Int)+A=A by omega]at X;have av:=Lo id b A nl ar (C.set id (bA b A nl)) (by simp) (by omega) hl;cases hE:iu b A with
  |error e=>rw[hE]at hS;have M:=RD.bad av hE;refine gO du (j2 @ac v) (j2 @X @M) ?_;refine cz ?_;intro x;refine D4 E id5 id6 e .ai .ai (zI 0) (zI 0) _ _ (by simp[m4,a4]) (by simp[m5,a3]) (by simp[m6,a2]) u q n ?_;simp-implicitDefEqProofs [u,q,n,hS];refine⟨ju (lu (by simp) (by simp)) (by simp) (by simp),P _ fun j V T Q e1 y L=> ?_⟩;simp[AS.set,V,T,Q,e1,L]
  |ok y=>
   obtain⟨⟨l,rs⟩,a⟩:=y;rw[hE]at hS;have M:=RD.ok av hE;refine gO du (j6 @m4 @a4 @ac @QN.eq_1 @zq.eq_1 v) (j2 @X @M) ?_;apply aq.sure
   (((with_reducible apply dX 7 oY);refine dY mixed ?_);simp-implicitDefEqProofs [bc,ac,v])
   refine⟨?_,?_⟩;all_goals
    refine ag.ay (pf id b a nl _ (by simp[be])) ?_;simp-implicitDefEqProofs [m5,m6,a3,a2,i,g,d];refine gO du tI tI ?_;refine D5 _ _ _ _ _ ?_;simp-implicitDefEqProofs [u,q,n,hS];refine P _ fun j V T Q e1 y L=> ?_;simp[AS.set,V,T,Q,e1,L]
end Bd
def Fh {a b:Bool}(h:a=b):AV.Wk prog (zB a) (zB b):=h ▸ Wk.refl _
structure Ty where
 kind:Int
 index:Int
 bT:Int
 ref:Bool
deriving DecidableEq
def cF (t:Ty):AV:= .agg [zI t.kind,zI t.index,zI t.bT,.sc (.bool t.ref)]
def XM:Program.stoodInHeld prog 200=false:=by kernel_rfl
def XL:Program.stoodInHeld prog 49=false:=by kernel_rfl
@[simp] def Yp:Program.eqGuardType prog prog.depth 200=false:=by kernel_rfl
@[simp] def Yo:Program.eqGuardType prog prog.depth 49=false:=by kernel_rfl
@[simp] def Yn (a b c i h g:Int) (r d:Bool):jm prog 8 200 (.agg [zI a,zI b,zI c,zB r]) (.agg [zI i,zI h,zI g,.sc (.bool d)])=
 some (decide (a=i)&&(decide (b=h)&&(decide (c=g)&&(r==d)))):=by
 simp[jm,pS,underlying200,underlying3,underlying4]
@[simp] def xr (a b c i h g:Int) (r d:Bool):jm prog 8 49 (.agg [zI a,zI b,zI c,zB r]) (.agg [zI i,zI h,zI g,.sc (.bool d)])=
 some (decide (a=i)&&(decide (b=h)&&(decide (c=g)&&(r==d)))):=by
 simp[jm,pS,underlying49,underlying3,underlying4]
def aP (t:Ty):Bool:=
 if t.bT<0∨3<t.bT∨t.index<0 then false else
 if t.kind=1 then decide (t.bT=0)&&(!t.ref&&decide (t.index=0))else
 if t.kind=2∨t.kind=3∨t.kind=4 then decide (t.index=0)else
 if t.kind=5∨t.kind=6 then decide (t.index<32)else if t.kind=7 then decide (t.index≤7)else false
def xe (k:Int):k=1∨k=2∨k=3∨k=4∨k=5∨k=6∨k=7∨(¬k=1∧ ¬k=2∧ ¬k=3∧ ¬k=4∧ ¬k=5∧ ¬k=6∧ ¬k=7):=by omega
def GY (t:Ty) (σ:AS):ad prog 126 [cF t] σ (ah (.sc (.bool (aP t))) σ) No:=by
 obtain⟨k,x,d,r⟩:=t;refine ad.ob func126 ?_;simp only[cF];refine gO aa tI tI ?_;intro id g;by_cases d1:d<0
 ·refine gO aa @d1 tI ?_;simp[aP,d1];all_goals (repeat (first|exact lR _ |refine an (by simp[g]) ?_))
 ·by_cases d2:3<d
  ·refine gO aa (j2 @d1 @d2) tI ?_;simp[aP,d1,d2];all_goals (repeat (first|exact lR _ |refine an (by simp[g]) ?_))
  ·by_cases d3:x<0
   ·refine gO aa (j3 @d1 @d2 @d3) tI ?_;simp[aP,d1,d2,d3];all_goals (repeat (first|exact lR _ |refine an (by simp[g]) ?_))
   ·rcases xe k with rfl|rfl|rfl|rfl|rfl|rfl|rfl|⟨k1,n,l,k4,j,i,h⟩
    rotate_right
    ·refine gO aa (j2 (j7 @d1 @d2 @d3 @k1 @n @l @k4) (j3 @j @i @h)) tI ?_;simp[aP,d1,d2,d3,k1,n,l,k4,j,i,h];all_goals (repeat (first|exact lR _ |refine an (by simp[g]) ?_))
    ·by_cases o:d=0<;>cases r;all_goals
      refine gO aa (j4 @d1 @d2 @d3 @o) tI ?_;try simp[aP,d1,d2,d3,o]
      all_goals (repeat (first|exact lR _ |refine an (by simp[g]) ?_))
    all_goals
     refine gO aa (j3 @d1 @d2 @d3) tI ?_;try simp[aP,d1,d2,d3]
     all_goals (repeat (first|exact lR _ |refine an (by simp[g]) ?_))
def tQ (t:Ty) (σ:AS):ad prog 194 [cF t] σ (ah (.sc (.bool (aP t))) σ) No:=by
 obtain⟨k,x,d,r⟩:=t;refine ad.ob func194 ?_;simp only[cF];refine gO aa tI tI ?_;intro id g;rcases xe k with rfl|rfl|rfl|rfl|rfl|rfl|rfl|⟨k1,q,o,k4,n,l,j⟩
 rotate_right
 ·refine gO aa (j7 @k1 @q @o @k4 @n @l @j) tI ?_;simp[aP,k1,q,o,k4,n,l,j];all_goals (repeat (first|exact lR _ |refine an (by simp[g]) ?_))
 ·refine gO aa tI tI ?_;have e:(decide (x=0)&&(decide (d=0)&&(r==false)))=aP ⟨1,x,d,r⟩:=by
   unfold aP;by_cases h:d<0∨3<d∨x<0
   ·rw[if_pos h];by_cases h1:x=0<;>by_cases i:d=0<;>first|(exfalso;omega)|simp[h1,i]
   ·rw[if_neg h];cases r<;>by_cases h1:x=0<;>by_cases i:d=0<;>simp[h1,i]
  simp[←e];all_goals (repeat (first|exact lR _ |refine an (by simp[g]) ?_))
 all_goals
  by_cases d3:0≤x
  ·by_cases d4:x≤31<;>by_cases d5:x≤7<;>by_cases d6:x≤0<;>by_cases d1:0≤d;all_goals
    first
    |(exfalso;omega)
    |skip
    repeat (first
     |refine g1 ?_
     |((first|refine g2 ?_);simp-implicitDefEqProofs [d1,d3,d4,d5,d6])
     |(refine g3 ?_;try simp-implicitDefEqProofs))
    try simp[aP]
    try (refine j2 (Fh (by rw[Bool.eq_iff_iff];simp;omega)) ?_)
    all_goals (repeat (first|exact lR _ |refine an (by simp[g]) ?_))
  ·refine gO aa @d3 tI ?_;try simp[aP]
   try (refine j2 (Fh (by rw[Bool.eq_iff_iff];simp;omega)) ?_)
   all_goals (repeat (first|exact lR _ |refine an (by simp[g]) ?_))
def ql (t:Ty) (σ:AS):ad prog 139 [cF t] σ (ah (.sc (.bool (aP t))) σ) No:=by
 refine ad.ob func139 ?_;have g:=fun σ=>tQ t σ;cases i:aP t<;>obtain⟨k,x,d,r⟩:=t<;>rw[i]at g<;>simp only[cF]at g⊢;all_goals
  refine gO aa tI tI ?_;intro id h;refine gO aa tI @g ?_;all_goals (repeat (first|exact lR _ |refine an (by simp[h]) ?_))
def aZ (t:Ty):Bool:=aP t&& !decide (t.kind=1)
def bO (t:Ty):Bool:=aZ t&& !t.ref
def cx (t:Ty):Bool:=aP t&& !t.ref
def qA (t:Ty) (σ:AS):ad prog 183 [cF t] σ (ah (.sc (.bool (aZ t))) σ) No:=by
 refine ad.ob func183 ?_;have g:=fun σ=>tQ t σ;cases i:aP t<;>obtain⟨k,x,d,r⟩:=t<;>rw[i]at g<;>simp only[cF]at g⊢;all_goals
  refine gO aa tI tI ?_;intro id h;refine gO aa tI @g ?_;try simp[aZ,i]
  all_goals (repeat (first|exact lR _ |refine an (by simp[h]) ?_))
def tR (t:Ty) (σ:AS):ad prog 134 [cF t] σ (ah (.sc (.bool (bO t))) σ) No:=by
 refine ad.ob func134 ?_;have g:=fun σ=>qA t σ;cases i:aZ t<;>obtain⟨k,x,d,r⟩:=t<;>rw[i]at g<;>simp only[cF]at g⊢;all_goals
  refine gO aa tI tI ?_;intro id h;refine gO aa tI @g ?_;try simp[bO,i]
  all_goals (repeat (first|exact lR _ |refine an (by simp[h]) ?_))
def oF (t:Ty) (σ:AS):ad prog 191 [cF t] σ (ah (.sc (.bool (cx t))) σ) No:=by
 refine ad.ob func191 ?_;have g:=fun σ=>tQ t σ;cases i:aP t<;>obtain⟨k,x,d,r⟩:=t<;>rw[i]at g<;>simp only[cF]at g⊢;all_goals
  refine gO aa tI tI ?_;intro id h;refine gO aa tI @g ?_;try simp[cx,i]
  all_goals (repeat (first|exact lR _ |refine an (by simp[h]) ?_))
def gV (t:Ty) (p:Int):Bool:=if p=1 then bO t else if p=2 then aZ t else if p=3 then cx t else aP t
def yN (t:Ty) (p:Int) (σ:AS):ad prog 55 [cF t,zI p] σ (ah (.sc (.bool (gV t p))) σ) No:=by
 refine ad.ob func55 ?_;have h:=fun σ=>GY t σ;cases i:aP t<;>obtain⟨k,x,d,r⟩:=t<;>rw[i]at h<;>simp only[cF]at h⊢
 ·refine gO aa tI tI ?_;intro id g;refine gO aa tI @h ?_;have e:gV ⟨k,x,d,r⟩ p=false:=by unfold gV bO cx aZ;rw[i];simp
  simp[e];all_goals (repeat (first|exact lR _ |refine an (by simp[g]) ?_))
 ·refine gO aa tI tI ?_;intro id g;by_cases n:p=1
  ·subst n;by_cases k1:k=1
   ·subst k1;refine gO aa tI @h ?_;simp[gV,bO,aZ,i];all_goals (repeat (first|exact lR _ |refine an (by simp[g]) ?_))
   ·refine gO aa @k1 @h ?_;simp[gV,bO,aZ,i,k1];all_goals (repeat (first|exact lR _ |refine an (by simp[g]) ?_))
  ·by_cases l:p=2
   ·subst l;refine gO aa tI @h ?_;simp[gV,aZ,i];all_goals (repeat (first|exact lR _ |refine an (by simp[g]) ?_))
   ·by_cases j:p=3
    ·subst j;refine gO aa tI @h ?_;simp[gV,cx,i];all_goals (repeat (first|exact lR _ |refine an (by simp[g]) ?_))
    ·refine gO aa (j3 @n @l @j) @h ?_;simp[gV,i,n,l,j];all_goals (repeat (first|exact lR _ |refine an (by simp[g]) ?_))
abbrev lG:bW:=(.S 0 (.S 1 (.S 2 (.S 4 (.S 5 (.S 6 (.R 3 (.R 7 (.S 8 (.R 9 (.A 10 (.S 11 .D) .Z)))))))))))
abbrev kK:bW:=(.S 0 (.S 1 (.S 2 (.S 4 (.S 5 (.S 6 (.S 8 (.S 9 (.S 10 (.S 12 (.S 16 (.R 3 (.R 7 (.R 11 (.S 13 (.S 14 (.R 15 .D)))))))))))))))))
def dR (S:List Nat):bH prog [(5,lG),(11,kK)] S:=mixed
def Iy (x:Int):Nat→zY
 |0=> []
 |k+1=>UInt8.ofNat (x/256^k%256).toNat::Iy x k
def jX (x:Int) (k:Nat):(Iy x k).length=k:=by
 induction k with
 |zero=>rfl
 |succ k d=>simp[Iy,d]
def iY (n:Int):Int:=if n<128 then n else if n<16384 then n+32768 else n+3221225472
def bh (n:Int):zY:=Iy (iY n) (dU n).toNat
def SB (l:zY) (x:Int) (k d:Nat) (σ:AS) (m:Nat) (s:Fr) (g:AS):Prop:=
 ∃(pre:zY) (nl:Bool),pre++Iy x m=Iy x k∧m≤k∧(nl=true→m=k)∧
  s=iO [(7,.sc (.int .u32 x)),(8,.ao 5 ((l++pre).map u8) (.tok d) nl),(9,zI (m-1))]∧
  g=σ.set d (.tok (l.length+pre.length))
def Ai (n:Int) (h0:0≤n) (h1:n≤536870911):0≤iY n∧iY n<4294967296:=by unfold iY;split<;>(try split)<;>omega
def rW (l:zY) (own:cC) (nil:Bool) (O:nil=true→l= []) (hl:l.length≤1000000) (n:Int) (h0:0≤n) (h1:n≤536870911) (σ:AS):
 ad prog 73 [.ao 5 (l.map u8) own nil,zI n] σ
  (kQ (fun q=> .bI [.ao 5 ((l++bh n).map u8) (.tok q) false,zI 0]) (l++bh n).length σ) No:=by
 refine ad.ob func73 ?_;refine gO aa tI tI ?_;refine ag.ay (zX n _) ?_;simp;have hb:=Ai n h0 h1;have hu:IntKind.u32.wrap n=n:=by rw[Oo];omega
 have i:(dU n=1∧Dz 32 n 0=iY n)∨(dU n=2∧Dz 32 n 32768=iY n)∨(dU n=4∧Dz 32 n 3221225472=iY n):=by
  unfold dU iY;have X:¬(n<0∨536870911<n):=by omega
  rw[if_neg X];by_cases E:n<128
  ·simp only[E,if_true];refine .inl ⟨trivial,?_⟩;rw[qf];have:=oA (w:=32) (a:=0) (b:=n) 7 h0 (by omega) (c:=0) (by omega) (by simp) (by omega);omega
  ·by_cases H:n<16384
   ·simp only[E,H,if_true,if_false];refine .inr (.inl ⟨trivial,?_⟩);rw[qf];have:=oA (w:=32) (a:=32768) (b:=n) 14 h0 (by omega) (c:=2) (by omega) (by decide) (by omega);omega
   ·simp only[E,H,if_false];refine .inr (.inr ⟨trivial,?_⟩);rw[qf];have:=oA (w:=32) (a:=3221225472) (b:=n) 30 h0 (by omega) (c:=3) (by omega) (by decide) (by omega);omega
 obtain⟨k,T,Q,P,j⟩:∃k:Nat,dU n=k∧0<k∧k≤4∧Dz 32 n (([0,0,32768,0,3221225472]:List Int).getD k 0)=iY n:=by
  rcases i with⟨a,b⟩|⟨a,b⟩|⟨a,b⟩
  ·exact⟨1,a,by omega,by omega,b⟩
  ·exact⟨2,a,by omega,by omega,b⟩
  ·exact⟨4,a,by omega,by omega,b⟩
 have u:IntKind.u32.wrap (iY n)=iY n:=by rw[Oo];omega
 have g:k=1∨k=2∨k=4:=by rcases i with⟨a,_⟩|⟨a,_⟩|⟨a,_⟩<;>omega
 have o:(dU n).toNat=k:=by omega
 have M:bh n=Iy (iY n) k:=by simp[bh,o]
 rw[T];rcases g with rfl|rfl|rfl;all_goals
  simp at j;refine gO aa (j4 @hu @j @u @underlying206) tI ?_;refine ag.yo (p9 (l.map u8) own nil (fun h=>by simp[O h]) (by simp;omega) σ) (fun q v=> ?_);simp;refine gO aa @By tI ?_;refine aq.dc (SB l (iY n) (dU n).toNat q σ) (k0:=(dU n).toNat) ⟨[],nil,rfl,Nat.le_refl _,fun _ =>rfl,rfl,rfl⟩ (aN.mk (by simp[o])) (by simp) ?_;rintro m s Y ⟨pre,nl,d,hm,y,rfl,rfl⟩;have F:pre.length+m=(dU n).toNat:=by have:=congrArg List.length d;simpa[jX]using this
  cases m with
  |zero=>
   have G:pre=bh n:=by simpa[Iy,bh]using d
   have:nl=false:=by cases nl with|false=>rfl|true=>have:=y rfl;omega
   subst this;refine gO aa tI tI ?_;exact da q v (by simp[G]) (by simp[G])
  |succ m=>
   have w1:IntKind.i64.wrap (8*(m:Int))=((8*m:Nat):Int):=by rw[az (by omega) (by omega)];simp
   have K:min (8*m) 32=8*m:=by omega
   have I:(8*(m:Int)).toNat=8*m:=by omega
   have L:IntKind.u8.wrap (iY n/2^(8*m))=((UInt8.ofNat (iY n/256^m%256).toNat).toNat:Int):=by rw[Bx,←Ag];simp;omega
   have J:IntKind.i64.wrap ((m:Int)-1)=m-1:=az (by omega) (by omega);have V:(0:Int)≤m:=by omega
   refine gO aa (j7 @V @w1 @K @I @L @underlying206 @underlying5) tI ?_;refine⟨m,_,_,by omega,aN.mk ?_,?_,pre++ [UInt8.ofNat (iY n/256^m%256).toNat],false,by simpa[Iy]using d,by omega,by simp,rfl,rfl⟩
   ·simp[J]
   ·simp[Nat.add_assoc]
def mu (l:zY):Int:=l.foldl (fun x c=>256*x+c.toNat) 0
def Lm (l:zY) (c:UInt8):mu (l++ [c])=256*mu l+c.toNat:=by simp[mu,foldl_append]
def Ln (l:zY):∀x:Int,0≤x→0≤l.foldl (fun(x:Int) (c:UInt8)=>256*x+(c.toNat:Int)) x∧l.foldl (fun(x:Int) (c:UInt8)=>256*x+(c.toNat:Int)) x<(x+1)*256^l.length:=by
 induction l with
 |nil=>intro x g;simp;omega
 |cons c r d=>intro x g;have h:=c.toNat_lt;obtain⟨h1,j⟩:=d (256*x+c.toNat) (by omega);refine⟨h1,?_⟩;simp only[foldl_cons,length_cons,Int.pow_succ];have i:(256*x+(c.toNat:Int)+1)*256^r.length≤(x+1)*256*256^r.length:=Int.mul_le_mul_of_nonneg_right (by omega) (Int.le_of_lt (Int.pow_pos (by decide)));rw[Int.mul_comm (256^r.length) 256,←Int.mul_assoc];omega
def xN (l:zY):0≤mu l∧mu l<256^l.length:=by have:=Ln l 0 (by omega);simpa[mu]using this
def fh (k:Int):Int:=if k=1 then 127 else if k=2 then 16383 else 536870911
def pw (b:zY):Int×Int×Int:=
 match b with
 |[]=>(0,0,1)
 |c:: _ =>
  let k:=bt c.toNat
  if k=0 then(0,0,2)else if (b.length:Int)<k then(0,0,1)else
  let x:=mu (b.take k.toNat)%(fh k+1)
  if dU x=k then(x,k,0)else(0,0,2)
def MT (id:Nat) (σ:AS) (L:zY) (k:Int) (m:Nat) (s:Fr) (d:AS):Prop:=
 ∃i:Nat,m=L.length-i∧i≤L.length∧d=σ∧
  s=iO [(0,.ptr id 0),(4,zI k),(5,zI (mu (L.take i))),(46,.ao 5 (L.map u8) .aI false),(47,zI L.length),(48,zI i)]
def yZ (id:Nat) (b:zY) (at':Int) (nl:Bool) (σ:AS) (Y:nl=true→b= []) (h:σ id=some (bA b at' nl)) (ha:0≤at') (hb:at'≤b.length) (hl:b.length≤140737488355328) (x k e:Int) (hu:pw (b.drop at'.toNat)=(x,k,e)):
 ad prog 247 [.ptr id 0] σ (ah (.bI [zI x,zI e]) (if e=0 then σ.set id (bA b (at'+k) nl)else σ)) No:=by
 refine ad.ob func247 ?_;refine gO dR @underlying160 tI ?_;refine ag.ay (je id b at' nl _ h ha hb hl) ?_;simp;by_cases h0:b.length-at'=0
 ·refine gO dR @h0 tI ?_;have q:b.drop at'.toNat= []:=drop_of_length_le (by omega);rw[q]at hu;simp[pw]at hu;obtain⟨rfl,rfl,rfl⟩:=hu;simp
 ·have l:at'.toNat<b.length:=by omega
  have a3:(at'.toNat:Int)=at':=by omega
  have G:at'<b.length:=by omega
  have q:b.drop at'.toNat=b[at'.toNat]::b.drop (at'.toNat+1):=drop_eq_getElem_cons l;have F:nl=false:=by
   cases nl with
   |false=>rfl
   |true=>have:=Y rfl;subst this;simp at l
  subst F;have E:((b.drop at'.toNat).length:Int)=b.length-at':=by simp;omega
  generalize hc:b[at'.toNat]=c at*;repeat (first
   |refine g1 ?_
   |((first|refine g2 ?_ |((with_reducible apply dX 5 lG);refine dY mixed ?_)|((with_reducible apply dX 11 kK);refine dY mixed ?_));simp-implicitDefEqProofs [h0,h,bA,ha,G,l])
   |(refine g3 ?_;try simp-implicitDefEqProofs))
  rw[hc];refine ag.ay (ID c.toNat _) ?_;simp;have T:bt c.toNat=0∨ ∃K:Nat,bt c.toNat=K∧(K=1∨K=2∨K=4):=by
   unfold bt;split
   ·exact .inr ⟨1,rfl,by simp⟩
   ·split
    ·exact .inr ⟨2,rfl,by simp⟩
    ·split
     ·exact .inr ⟨4,rfl,by simp⟩
     ·exact .inl rfl
  rw[q]at hu;rcases T with hw|⟨K,hw,T⟩
  ·refine gO dR @hw tI ?_;simp[pw,hw]at hu;obtain⟨rfl,rfl,rfl⟩:=hu;simp
  ·have J:¬(K:Int)=0:=by omega
   have I:¬K=0:=by omega
   by_cases Q:(b.length:Int)-at'<K
   ·have n:((c::b.drop (at'.toNat+1)).length:Int)<K:=by rw[←q,E];exact Q
    simp only[length_cons]at n;refine gO dR (j2 @hw @I) tI ?_;refine ag.ay (je id b at' false _ h ha hb hl) ?_;simp;refine gO dR @Q tI ?_;have g:((0:Int),(0:Int),(1:Int))=(x,k,e):=by rw[←hu];simp only[pw,hw,J,if_false,length_cons];rw[if_pos n]
    simp only[Prod.mk.injEq]at g;obtain⟨rfl,rfl,rfl⟩:=g;simp
   ·have n:¬((c::b.drop (at'.toNat+1)).length:Int)<K:=by rw[←q,E];exact Q
    have V:IntKind.i64.wrap (at'+(K:Int))=at'+K:=az (by omega) (by omega);have av:=eC b at' K ha (by omega) (by omega);have e0:min (at'+(K:Int)).toNat b.length-at'.toNat=(cu b at' K).length:=by simp[cu]
    have e1:List.drop at'.toNat (List.take (at'+(K:Int)).toNat (List.map u8 b))=(cu b at' K).map u8:=by simp[cu,map_drop,map_take]
    have e2:(b.drop at'.toNat).take K=cu b at' K:=by rw[cu,drop_take];congr 1;omega
    rw[←q]at n hu;have g:(if dU (mu (cu b at' K)%(fh K+1))=K then(mu (cu b at' K)%(fh K+1),(K:Int),0)else((0:Int),(0:Int),(2:Int)))=(x,k,e):=by rw[q]at hu n e2;simp only[pw,hw,J,n,if_false,Int.toNat_natCast,e2]at hu;exact hu
    refine gO dR (j2 @hw @I) tI ?_;refine ag.ay (je id b at' false _ h ha hb hl) ?_;simp;refine gO dR (j4 @Q @h @bA.eq_1 @V) tI ?_;refine aq.dc (MT id σ (cu b at' K) K) (k0:=(cu b at' K).length) ⟨0,by omega,by omega,rfl,rfl⟩ (aN.mk (by simp[e0,e1,mu])) (lR _) ?_;rintro m s σ' ⟨i,hm,hi,rfl,rfl⟩;generalize hL:cu b at' K=L at*;by_cases l:i<L.length
    ·have o:=xN (L.take i);have u:∀j:Nat,j<4→(256:Int)^j≤16777216:=by decide
     have hp:=u (L.take i).length (by simp;omega);have a1:=L[i].toNat_lt;have w2:IntKind.i64.wrap L[i].toNat=L[i].toNat:=az (by omega) (by omega);have w4:mu (L.take (i+1))=256*mu (L.take i)+L[i].toNat:=by rw[←take_append_getElem l,Lm]
     have w3:Dz 64 (mu (L.take i)*256) L[i].toNat=mu (L.take (i+1)):=by rw[w4,oA 8 (by omega) (by omega) (c:=mu (L.take i)) (by omega) (by omega) (by omega)];omega
     have w6:IntKind.i64.wrap (mu (L.take (i+1)))=mu (L.take (i+1)):=az (by omega) (by omega);have w8:IntKind.i64.wrap ((i:Int)+1)=((i+1:Nat):Int):=by rw[az (by omega) (by omega)];simp
     have X:IntKind.i64.wrap (mu (L.take i)*256)=mu (L.take i)*256:=az (by omega) (by omega);repeat (first
      |refine g1 ?_
      |((first|refine g2 ?_ |((with_reducible apply dX 5 lG);refine dY mixed ?_)|((with_reducible apply dX 11 kK);refine dY mixed ?_));simp-implicitDefEqProofs [l,underlying3,underlying5,X,w2])
      |(refine g3 ?_;try simp-implicitDefEqProofs))
     refine⟨m-1,_,_,by omega,aN.mk ?_,lR _,i+1,by omega,by omega,rfl,rfl⟩;simp[w8,w3,w6]
    ·have H:L.take i=L:=take_of_length_le (by omega);have o:=xN L;have u:∀j:Nat,j<5→(256:Int)^j≤4294967296:=by decide
     have hp:=u L.length (by omega);have P:lr 64 (mu L) 127=mu L%128:=by have:=js (w:=64) (a:=mu L) 7 o.1 (by omega) (by omega);simpa using this
     have O:lr 64 (mu L) 16383=mu L%16384:=by have:=js (w:=64) (a:=mu L) 14 o.1 (by omega) (by omega);simpa using this
     have M:lr 64 (mu L) 536870911=mu L%536870912:=by have:=js (w:=64) (a:=mu L) 29 o.1 (by omega) (by omega);simpa using this
     have v:∀d:Int,0<d→d≤4294967296→IntKind.i64.wrap (mu L%d)=mu L%d:=fun d h1 h2=>az (by have:=Int.emod_nonneg (mu L) (show d≠0 by omega);omega) (by have:=Int.emod_lt_of_pos (mu L) h1;omega);by_cases y:dU (mu L%(fh K+1))=K
     ·rw[if_pos y]at g;simp only[Prod.mk.injEq]at g;obtain⟨rfl,rfl,rfl⟩:=g;rcases T with rfl|rfl|rfl;all_goals
       simp[fh]at y V;refine gO dR (j8 l @H @P @O @M (v 128) (v 16384) (v 536870912)) tI ?_;refine ag.ay (zX _ _) ?_;simp;refine gO dR (j4 @y @h @bA.eq_1 @V) tI ?_;simp[fh]
     ·rw[if_neg y]at g;simp only[Prod.mk.injEq]at g;obtain⟨rfl,rfl,rfl⟩:=g;rcases T with rfl|rfl|rfl;all_goals
       simp[fh]at y V;refine gO dR (j8 l @H @P @O @M (v 128) (v 16384) (v 536870912)) tI ?_;refine ag.ay (zX _ _) ?_;simp;exact gE dR @y tI
def fg (n:Int) (h0:0≤n) (h1:n≤536870911):(n<128∧dU n=1)∨(¬n<128∧n<16384∧dU n=2)∨(¬n<128∧ ¬n<16384∧dU n=4):=by
 unfold dU;rw[if_neg (by omega)];by_cases d:n<128
 ·simp[d]
 ·by_cases g:n<16384<;>simp[d,g]
def P1 (x:Int):((UInt8.ofNat (x%256).toNat).toNat:Int)=x%256:=by simp;omega
def Aj (n:Int) (h0:0≤n) (g:n<128):bh n= [UInt8.ofNat (n%256).toNat]:=by
 have d:dU n=1:=by rcases fg n h0 (by omega)with⟨_,d⟩|⟨h,_⟩|⟨h,_⟩<;>first|exact d|omega
 simp[bh,d,Iy,iY,g]
def FO (n:Int) (i:¬n<128) (g:n<16384):bh n= [UInt8.ofNat ((128+n/256)%256).toNat,UInt8.ofNat (n%256).toNat]:=by
 have d:dU n=2:=by rcases fg n (by omega) (by omega)with⟨h,_⟩|⟨_,_,d⟩|⟨_,h,_⟩<;>first|exact d|omega
 have:(n+32768)/256%256=(128+n/256)%256:=by omega
 have:(n+32768)%256=n%256:=by omega
 simp[bh,Iy,iY, *]
def FN (n:Int) (h1:n≤536870911) (g:¬n<16384):bh n= [UInt8.ofNat ((192+n/16777216)%256).toNat,UInt8.ofNat (n/65536%256).toNat,UInt8.ofNat (n/256%256).toNat,UInt8.ofNat (n%256).toNat]:=by
 have i:¬n<128:=by omega
 have d:dU n=4:=by rcases fg n (by omega) (by omega)with⟨h,_⟩|⟨_,h,_⟩|⟨_,_,d⟩<;>first|exact d|omega
 have q:(n+3221225472)/16777216%256=(192+n/16777216)%256:=by omega
 have o:(n+3221225472)/65536%256=n/65536%256:=by omega
 have l:(n+3221225472)/256%256=n/256%256:=by omega
 have j:(n+3221225472)%256=n%256:=by omega
 simp[bh,d,Iy,iY,i,g,q,o,l,j]
def BA (n:Int) (h0:0≤n) (h1:n≤536870911):pw (bh n)=(n,dU n,0):=by
 rcases fg n h0 h1 with⟨j,h⟩|⟨j,l,h⟩|⟨j,l,h⟩
 ·rw[Aj n h0 j];have o:=P1 n;generalize UInt8.ofNat (n%256).toNat=c at*;have hw:bt c.toNat=1:=by unfold bt;rw[if_pos (by omega)]
  have g:(c.toNat:Int)=n:=by omega
  have i:n%128=n:=by omega
  rw[g]at hw;simp[pw,hw,mu,fh,h,g,i]
 ·rw[FO n j l];have o:=P1 n;have q:=P1 (128+n/256);generalize UInt8.ofNat (n%256).toNat=d at*;generalize UInt8.ofNat ((128+n/256)%256).toNat=c at*;have hw:bt c.toNat=2:=by unfold bt;rw[if_neg (by omega),if_pos (by omega)]
  have g:256*(c.toNat:Int)+d.toNat=n+32768:=by omega
  have i:(n+32768)%16384=n:=by omega
  simp[pw,hw,mu,fh,h,g,i]
 ·rw[FN n h1 l];have o:=P1 n;have q:=P1 (n/256);have v:=P1 (n/65536);have u:=P1 (192+n/16777216);generalize UInt8.ofNat (n%256).toNat=d at*;generalize UInt8.ofNat (n/256%256).toNat=d1 at*;generalize UInt8.ofNat (n/65536%256).toNat=d2 at*;generalize UInt8.ofNat ((192+n/16777216)%256).toNat=c at*;have hw:bt c.toNat=4:=by unfold bt;rw[if_neg (by omega),if_neg (by omega),if_pos (by omega)]
  have g:256*(256*(256*(c.toNat:Int)+d2.toNat)+d1.toNat)+d.toNat=n+3221225472:=by omega
  have i:(n+3221225472)%536870912=n:=by omega
  simp[pw,hw,mu,fh,h,g,i]
def ofNat_eq {m:Nat}{c:UInt8}(h:m=c.toNat):UInt8.ofNat m=c:=by subst h;simp
def LW (b:zY) (x k:Int) (h:pw b=(x,k,0)):0≤x∧x≤536870911∧dU x=k∧0≤k∧k≤b.length∧b.take k.toNat=bh x:=by
 match b,h with
 |[],h=>simp[pw]at h
 |c::r,h=>
  have G:=c.toNat_lt;simp only[pw]at h;by_cases h0:bt c.toNat=0
  ·simp[h0]at h
  ·by_cases hl:((c::r).length:Int)<bt c.toNat
   ·rw[if_neg h0,if_pos hl]at h;simp at h
   ·rw[if_neg h0,if_neg hl]at h;by_cases j:dU (mu ((c::r).take (bt c.toNat).toNat)%(fh (bt c.toNat)+1))=bt c.toNat
    ·rw[if_pos j]at h;simp only[Prod.mk.injEq]at h;obtain⟨i,rfl,_⟩:=h;rw[i]at j;simp only[length_cons]at hl;have g:0≤x∧x≤536870911:=by
      have:fh (bt c.toNat)+1=128∨fh (bt c.toNat)+1=16384∨fh (bt c.toNat)+1=536870912:=by unfold fh;split<;>(try split)<;>simp
      rcases this with e|e|e<;>rw[e]at i<;>omega
     have E:(bt c.toNat=1∧c.toNat<128)∨(bt c.toNat=2∧128≤c.toNat∧c.toNat<192)∨(bt c.toNat=4∧192≤c.toNat∧c.toNat<224):=by
      unfold bt at h0⊢;split at h0
      ·rename_i h;rw[if_pos h];exact .inl ⟨rfl,by omega⟩
      ·split at h0
       ·rename_i h u;rw[if_neg h,if_pos u];exact .inr (.inl ⟨rfl,by omega,by omega⟩)
       ·split at h0
        ·rename_i h u q;rw[if_neg h,if_neg u,if_pos q];exact .inr (.inr ⟨rfl,by omega,by omega⟩)
        ·exact absurd rfl h0
     refine⟨g.1,g.2,j,by omega,by simp only[length_cons];omega,?_⟩;rcases E with⟨e,h1⟩|⟨e,h1,F⟩|⟨e,h1,F⟩
     ·rw[e]at i j⊢;simp[mu,fh]at i;rw[Aj x g.1 (by omega)];simp;exact(ofNat_eq (by omega)).symm
     ·rw[e]at i j⊢
      match r,hl,i with
      |[],hl,i=>simp at hl;omega
      |d::r,hl,i=>
       have hd:=d.toNat_lt;simp[mu,fh]at i;rcases fg x g.1 g.2 with⟨l,n⟩|⟨l,o,n⟩|⟨l,o,n⟩
       ·omega
       ·rw[FO x l o];simp;exact⟨(ofNat_eq (by omega)).symm,(ofNat_eq (by omega)).symm⟩
       ·omega
     ·rw[e]at i j⊢
      match r,hl,i with
      |[],hl,i=>simp at hl;omega
      |[_],hl,i=>simp at hl;omega
      |[_,_],hl,i=>simp at hl;omega
      |d1::d2::d3::r,hl,i=>
       have y:=d1.toNat_lt;have w:=d2.toNat_lt;have v:=d3.toNat_lt;simp[mu,fh]at i;rcases fg x g.1 g.2 with⟨l,n⟩|⟨l,o,n⟩|⟨l,o,n⟩
       ·omega
       ·omega
       ·rw[FN x g.2 o];simp;exact⟨(ofNat_eq (by omega)).symm,(ofNat_eq (by omega)).symm,(ofNat_eq (by omega)).symm,(ofNat_eq (by omega)).symm⟩
    ·rw[if_neg j]at h;simp at h
def sS (b:zY) (x k e:Int) (h:pw b=(x,k,e)):0≤e∧e≤2∧(e=0→1≤k∧k≤4∧k≤b.length∧0≤x∧x≤536870911):=by
 unfold pw at h;split at h
 ·cases h;simp
 ·rename_i c r;simp only at h;split at h
  ·cases h;simp
  ·rename_i h0;split at h
   ·cases h;simp
   ·rename_i h1;split at h
    ·rename_i l;simp only[Prod.mk.injEq]at h;obtain⟨rfl,rfl,rfl⟩:=h;refine⟨by omega,by omega,fun _ => ?_⟩;have g:bt c.toNat=1∨bt c.toNat=2∨bt c.toNat=4:=by
      unfold bt at h0⊢;split
      ·simp
      ·split
       ·simp
       ·split
        ·simp
        ·rename_i a b d;simp[a,b,d]at h0
     have hm:0<fh (bt c.toNat)+1∧fh (bt c.toNat)+1≤536870912:=by rcases g with h|h|h<;>rw[h]<;>simp[fh]
     have i:=Int.emod_nonneg (mu ((c::r).take (bt c.toNat).toNat)) (show fh (bt c.toNat)+1≠0 by omega);have j:=Int.emod_lt_of_pos (mu ((c::r).take (bt c.toNat).toNat)) hm.1;refine⟨?_,?_,?_,i,by omega⟩
     ·rcases g with h|h|h<;>omega
     ·rcases g with h|h|h<;>omega
     ·omega
    ·cases h;simp
def Fi (b r:zY) (x k:Int) (h:pw b=(x,k,0)):pw (b++r)=(x,k,0):=by
 match b,h with
 |[],h=>simp[pw]at h
 |c::t,h=>
  simp only[pw]at h;by_cases h0:bt c.toNat=0
  ·simp[h0]at h
  ·by_cases hl:((c::t).length:Int)<bt c.toNat
   ·rw[if_neg h0,if_pos hl]at h;simp at h
   ·rw[if_neg h0,if_neg hl]at h;have d:¬(((c::t++r).length:Int)<bt c.toNat):=by simp at hl⊢;omega
    have ht:(c::t++r).take (bt c.toNat).toNat=(c::t).take (bt c.toNat).toNat:=by apply take_append_of_le_length;simp at hl⊢;omega
    show(let k:=bt c.toNat;if k=0 then _ else _)= _;simp only[cons_append]at ht d⊢;rw[if_neg h0,if_neg d,ht];exact h
def oD (x:Int) (l:0≤x) (k:Nat):aY (aX x k)=x%256^k:=by
 induction k generalizing x with
 |zero=>simp[aX,aY,Int.emod_one]
 |succ k d=>
  have h1:=d (x/256) (by omega);have g:((UInt8.ofNat (x%256).toNat).toNat:Int)=x%256:=by simp;omega
  simp only[aX,aY,h1,g];rw[Int.pow_succ,Int.mul_comm (256^k) 256];have n:(0:Int)<256^k:=Int.pow_pos (by omega);have j:=Int.emod_add_mul_ediv x (256*256^k);have i:=Int.emod_add_mul_ediv (x/256) (256^k);have h:x/256/256^k=x/(256*256^k):=Int.ediv_ediv_of_nonneg (by omega);rw[h]at i;rw[Int.mul_assoc]at j;generalize x/(256*256^k)=q at*;generalize 256^k*q=r at*;omega
def se (l:zY):aX (aY l) l.length=l:=by
 induction l with
 |nil=>rfl
 |cons c r d=>
  have i:=c.toNat_lt;have h:(aY (c::r)%256).toNat=c.toNat:=by simp only[aY];omega
  have g:aY (c::r)/256=aY r:=by simp only[aY];omega
  rw[length_cons,aX,h,g,d];simp
def sg (b:zY) (a n:Nat):zY:=(b.drop a).take n
def mO (b:zY) (a n:Nat):cu b a n=sg b a n:=by unfold cu sg;rw[show((a:Int)+n).toNat=a+n by omega,show(a:Int).toNat=a by omega,drop_take];congr 1;omega
def At (b:zY) (a:Nat) (s:zY):Prop:=a+s.length≤b.length∧sg b a s.length=s
def At.nil {b:zY}{a:Nat}(h:a≤b.length):At b a []:=⟨by simpa using h,by simp[sg]⟩
def At.app {b:zY}{a:Nat}{s t:zY} :At b a (s++t)↔At b a s∧At b (a+s.length) t:=by
 unfold At sg;rw[length_append,take_add,drop_drop];constructor
 ·rintro⟨h1,g⟩;have d:=append_inj g (by simp;omega);exact⟨⟨by omega,d.1⟩,by omega,d.2⟩
 ·rintro⟨⟨h1,g⟩,d,h⟩;exact⟨by omega,by rw[g,h]⟩
def At.cons {b:zY}{a:Nat}{c:UInt8}{t:zY} :At b a (c::t)↔At b a [c]∧At b (a+1) t:=by have:=At.app (b:=b) (a:=a) (s:= [c]) (t:=t);simpa using this
def At.Tq {b:zY}{a:Nat}{w x y z:UInt8} :At b a [w,x,y,z]↔At b a [w]∧At b (a+1) [x]∧At b (a+2) [y]∧At b (a+3) [z]:=by rw[At.cons (t:= [x,y,z]),At.cons (t:= [y,z]),At.cons (t:= [z])]
def At.ba (p s r:zY):At (p++s++r) p.length s:=by refine⟨by simp,by simp[sg]⟩
def At.sg {b:zY}{a n:Nat}(h:a+n≤b.length):At b a (sg b a n):=by
 have:(Proofs.YtknalmoackcpbaaGreat.sg b a n).length=n:=by simp[Proofs.YtknalmoackcpbaaGreat.sg];omega
 exact⟨by omega,by rw[this]⟩
def I9 {b:zY}{a n:Nat}(h:a+n≤b.length):(sg b a n).length=n:=by simp[sg];omega
def At.take {b s:zY}(h:At b 0 s):s=b.take s.length:=by have:=h.2;simpa[Proofs.YtknalmoackcpbaaGreat.sg]using this.symm
def At.len {b:zY}{a:Nat}{s:zY}(h:At b a s):a+s.length≤b.length:=h.1
def At.num {b:zY}{a n:Nat}{x:Int}(h:At b a (aX x n)) (h0:0≤x) (h1:x<256^n):a+n≤b.length∧aY (cu b a n)=x:=by obtain⟨g,d⟩:=h;rw[aA]at g d;rw[mO,d,oD x h0,Int.emod_eq_of_lt h0 h1];exact⟨g,rfl⟩
def ry {b:zY}{a n:Nat}(h:a+n≤b.length):0≤aY (cu b a n)∧aY (cu b a n)<256^n:=by refine⟨ct _,?_⟩;have:=jb (cu b a n);rwa [mO,I9 h,←mO]at this
def bC (t:Int):zY:=
 if t=0 then [50,110,105,105,105]else if t=1 then [50,110,98]else if t=2 then [52,50,50,110,98,105]else if t=3 then [105,105]else if t=4 then [98]else if t=5 then [98]else []
def zR (l:zY):AV:=zS l
def xd (t:Int) (σ:AS):ad prog 78 [zI t] σ (ah (zR (bC t)) σ) No:=by
 refine ad.ob func78 ?_;simp only[zR,bC];by_cases h0:t=0
 ·subst h0;exact gE aa tI tI
 by_cases h1:t=1
 ·subst h1;exact gE aa tI tI
 by_cases i:t=2
 ·subst i;exact gE aa tI tI
 by_cases h:t=3
 ·subst h;exact gE aa tI tI
 by_cases g:t=4
 ·subst g;exact gE aa tI tI
 by_cases d:t=5
 ·subst d;exact gE aa tI tI
 exact gE aa (j6 @h0 @h1 @i @h @g @d) tI
def EL (t:Int) (σ:AS):ad prog 143 [zI t] σ (ah (zI ((bC t).length)) σ) No:=by have d:=fun σ=>xd t σ;simp only[zR]at d;refine ad.ob func143 ?_;exact gE aa tI @d
def wK (k:UInt8) (m:Nat):Int:=if k=52∨(k=110∧m%2=1)∨(k=98∧2≤m)then 4 else 2
def Bw (k:UInt8) (m:Nat) (hm:m≤3) (σ:AS):ad prog 79 [.sc (.int .i32 k.toNat),zI m] σ (ah (zI (wK k m)) σ) No:=by
 have d:m=0∨m=1∨m=2∨m=3:=by omega
 have o:(k=52)=(k.toNat=52):=propext ⟨fun h=>by rw[h];rfl,fun h=>UInt8.toNat_inj.1 h⟩;have g:(k=110)=(k.toNat=110):=propext ⟨fun h=>by rw[h];rfl,fun h=>UInt8.toNat_inj.1 h⟩;have n:(k=98)=(k.toNat=98):=propext ⟨fun h=>by rw[h];rfl,fun h=>UInt8.toNat_inj.1 h⟩;simp only[wK,o,g,n];generalize k.toNat=K;have G:lr 64 0 1=0:=by decide
 have E:lr 64 1 1=1:=by decide
 have w:lr 64 2 1=0:=by decide
 have u:lr 64 3 1=1:=by decide
 have F:lr 64 0 2=0:=by decide
 have y:lr 64 1 2=0:=by decide
 have v:lr 64 2 2=2:=by decide
 have q:lr 64 3 2=2:=by decide
 have w0:zW 0=0:=by decide
 have w1:zW 1=1:=by decide
 have J:zW 2=2:=by decide
 refine ad.ob func79 ?_;by_cases h1:K=52
 ·subst h1;rcases d with rfl|rfl|rfl|rfl;all_goals
   exact gE aa tI tI
 by_cases I:K=110
 ·subst I;rcases d with rfl|rfl|rfl|rfl;all_goals
   exact gE aa (j6 @G @E @w @u @w0 @w1) tI
 by_cases H:K=98
 ·subst H;rcases d with rfl|rfl|rfl|rfl;all_goals
   exact gE aa (j6 @F @y @v @q @w0 @J) tI
 ·have l:((K:Int)=52)=False:=by simp;omega
  have j:((K:Int)=110)=False:=by simp;omega
  have i:((K:Int)=98)=False:=by simp;omega
  exact gE aa (j6 @h1 @I @H @l @j @i) tI
def mG (t r:Int):Int×Int:=if t= -1 then(0,0)else if t≠0∧t≠4 then(0,17)else if r<1∨16383<r then(0,3)else(4*r+(if t=4 then 2 else 0),0)
def bM (x:Int):Int×Int×Int:=if x=0 then(-1,0,0)else if x<0∨65535<x∨x/4=0 then(0,0,5)else if x%4=0 then(0,x/4,0)else if x%4=2 then(4,x/4,0)else(0,0,5)
def Gt (t r:Int) (σ:AS):ad prog 130 [zI t,zI r] σ (ah (.bI [zI ((mG t r).1),zI ((mG t r).2)]) σ) No:=by
 refine ad.ob func130 ?_;by_cases h0:t= -1
 ·subst h0;refine gO aa tI tI ?_;simp[mG]
 by_cases h1:t=0
 ·subst h1;by_cases d:r<1
  ·refine gO aa @d tI ?_;simp[mG,d]
  ·by_cases g:16383<r
   ·refine gO aa (j2 @d @g) tI ?_;simp[mG,d,g]
   ·have j:zW (r*4)=r*4:=az (by omega) (by omega);have i:Dz 64 (r*4) 0=r*4:=by have:=oA (w:=64) (a:=r*4) (b:=0) 2 (by omega) (by omega) (c:=r) (by omega) (by omega) (by omega);omega
    refine gO aa (j4 @d @g @j @i) tI ?_;simp[mG,d,g];exact ff (by rw[Int.mul_comm])
 by_cases h:t=4
 ·subst h;by_cases d:r<1
  ·refine gO aa @d tI ?_;simp[mG,d]
  ·by_cases g:16383<r
   ·refine gO aa (j2 @d @g) tI ?_;simp[mG,d,g]
   ·have j:zW (r*4)=r*4:=az (by omega) (by omega);have i:Dz 64 (r*4) 2=r*4+2:=oA (w:=64) (a:=r*4) (b:=2) 2 (by omega) (by omega) (c:=r) (by omega) (by omega) (by omega);have l:zW (r*4+2)=r*4+2:=az (by omega) (by omega);refine gO aa (j5 @d @g @j @i @l) tI ?_;simp[mG,d,g];exact ff (by rw[Int.mul_comm])
 ·refine gO aa (j3 @h0 @h1 @h) tI ?_;simp[mG,h0,h1,h]
def C6 (x:Int) (σ:AS):ad prog 167 [zI x] σ (ah (.bI [zI ((bM x).1),zI ((bM x).2.1),zI ((bM x).2.2)]) σ) No:=by
 refine ad.ob func167 ?_;by_cases h0:x=0
 ·subst h0;refine gO aa tI tI ?_;simp[bM]
 by_cases h1:x<0
 ·refine gO aa (j2 @h0 @h1) tI ?_;simp[bM,h0,h1]
 by_cases d:65535<x
 ·refine gO aa (j3 @h0 @h1 @d) tI ?_;simp[bM,h0,h1,d]
 by_cases g:x/4=0
 ·refine gO aa (j4 @h0 @h1 @d @g) tI ?_;simp[bM,h0,h1,d,g]
 have ha:lr 64 x 3=x%4:=js (w:=64) (a:=x) 2 (by omega) (by omega) (by omega);have hw:zW (x%4)=x%4:=az (by omega) (by omega);by_cases h:x%4=0
 ·refine gO aa (j6 @h0 @h1 @d @g @ha @h) tI ?_;simp[bM,h0,h1,d,g,h]
 by_cases i:x%4=2
 ·refine gO aa (j8 @h0 @h1 @d @g @ha @hw @h @i) tI ?_;simp[bM,h0,h1,d,g,i]
 ·refine gO aa (j8 @h0 @h1 @d @g @ha @hw @h @i) tI ?_;simp[bM,h0,h1,d,g,h,i]
namespace Sg
def eB (b:zY) (a:Nat):Except Int (UInt8×Nat):=if a<b.length then .ok (b.getD a 0,a+1)else .error 1
def xw (b:zY) (a:Nat):Except Int (Int×Nat):=if (pw (b.drop a)).2.2=0 then .ok ((pw (b.drop a)).1,a+(pw (b.drop a)).2.1.toNat)else .error (pw (b.drop a)).2.2
def Eo (n:Int):Bool:=decide ((bM n).2.2=0)&&(decide ((bM n).1=0)&&decide ((bM n).2.1≤32))
def C1 (b:zY) (a:Nat):Except Int (Int×Nat):=
 match xw b a with
 |.error e=> .error e
 |.ok (n,d)=>if Eo n=true then .ok ((bM n).2.1-1,d)else .error 5
def KZ (b:zY) (a:Nat):Except Int (Int×Nat):=
 match xw b a with
 |.error e=> .error e
 |.ok (n,d)=>if n≤7 then .ok (n,d)else .error 5
def Br (k:Int) (g:Bool) (d:Nat) (x:Except Int (Int×Nat)):Except Int (Ty×Nat):=
 match x with
 |.error e=> .error e
 |.ok (n,h)=> .ok (⟨k,n,d,g⟩,h)
def yd (b:zY) (g:Bool) (d:Nat) (c:UInt8) (a:Nat):Except Int (Ty×Nat):=
 if c=1 then(if g=true∨0<d then .error 2 else .ok (⟨1,0,0,false⟩,a))else
 if c=8 then .ok (⟨2,0,d,g⟩,a)else if c=10 then .ok (⟨3,0,d,g⟩,a)else if c=28 then .ok (⟨4,0,d,g⟩,a)else
 if c=18 then Br 5 g d (C1 b a)else if c=17 then Br 6 g d (C1 b a)else if c=19 then Br 7 g d (KZ b a)else .error 2
def Bs (b:zY) (g:Bool):Nat→Nat→UInt8→Nat→Except Int (Ty×Nat)
 |0,d,c,a=>if c=29 then .error 6 else yd b g d c a
 |f+1,d,c,a=>if c=29 then
  match eB b a with
  |.error e=> .error e
  |.ok (h,i)=>Bs b g f (d+1) h i
  else yd b g d c a
def oH (b:zY) (a:Nat):Except Int (Ty×Nat):=
 match eB b a with
 |.error e=> .error e
 |.ok (c,d)=>if c=16 then
  match eB b d with
  |.error e=> .error e
  |.ok (g,h)=>Bs b true 3 0 g h
  else Bs b false 3 0 c d
def kP (ok:Ty→Bool) (b:zY) (a:Nat):Except Int (Ty×Nat):=
 match oH b a with
 |.error e=> .error e
 |.ok (t,d)=>if ok t=true then .ok (t,d)else .error 10
def eList (b:zY):Nat→Nat→Except Int (List Ty×Nat)
 |0,a=> .ok ([],a)
 |k+1,a=>match kP aZ b a with
  |.error e=> .error e
  |.ok (t,g)=>match eList b k g with
   |.error e=> .error e
   |.ok (l,d)=> .ok (t::l,d)
def oI {α:Type}(b:zY) (x:Except Int (α×Nat)):Except Int α:=
 match x with
 |.error e=> .error e
 |.ok (v,a)=>if a<b.length then .error 2 else .ok v
def eT (b:zY):Except Int Ty:=oI b (oH b 0)
structure Sg where
 this:Bool
 ps:List Ty
 ret:Ty
def pU (b:zY):Except Int (Sg×Nat):=
 match eB b 0 with
 |.error e=> .error e
 |.ok (c,a)=>if c=0∨c=32 then
  match xw b a with
  |.error e=> .error e
  |.ok (n,h)=>if n≤6 then
   match kP cx b h with
   |.error e=> .error e
   |.ok (t,g)=>match eList b n.toNat g with
    |.error e=> .error e
    |.ok (l,d)=> .ok (⟨decide (c=32),l,t⟩,d)
   else .error 4
  else .error 2
def dy (b:zY):Except Int Sg:=oI b (pU b)
def rH (b:zY):Except Int (List Ty×Nat):=
 match eB b 0 with
 |.error e=> .error e
 |.ok (c,a)=>if c=7 then
  match xw b a with
  |.error e=> .error e
  |.ok (n,d)=>if n≤12 then eList b n.toNat d else .error 4
  else .error 2
def fR (b:zY):Except Int (List Ty):=oI b (rH b)
def nh (b:zY):Except Int Ty:=
 match b with
 |[]=> .error 1
 |c::r=>if c=6 then
  match eT r with
  |.error e=> .error e
  |.ok t=>if bO t=true then .ok t else .error 10
  else .error 2
def pq (t:Ty):zY:=
 if t.kind=1 then [1]else if t.kind=2 then [8]else if t.kind=3 then [10]else if t.kind=4 then [28]else
 if t.kind=5 then 18::bh (4*(t.index+1))else if t.kind=6 then 17::bh (4*(t.index+1))else 19::bh t.index
def hU (t:Ty):zY:=(if t.ref=true then [16]else [])++(List.replicate t.bT.toNat 29++pq t)
def vB (l:List Ty):zY:=l.flatMap hU
def Dw (s:Sg):zY:=(if s.this=true then 32 else 0)::(UInt8.ofNat s.ps.length::(hU s.ret++vB s.ps))
def gY (s:Sg):Except Int (zY):=if 6<s.ps.length then .error 4 else if s.ps.all aZ&&cx s.ret then .ok (Dw s)else .error 17
def Gb (l:List Ty):zY:=7::(UInt8.ofNat l.length::vB l)
def dO (l:List Ty):Except Int (zY):=if 12<l.length then .error 4 else if l.all aZ then .ok (Gb l)else .error 17
def zn {b:zY}{a:Nat}{c:UInt8}(h:At b a [c]):eB b a= .ok (c,a+1):=by
 obtain⟨h1,i⟩:=h;have g:a<b.length:=by simp at h1;omega
 have d:((b.drop a).take 1)[0]? =some c:=by have:(b.drop a).take 1= [c]:=i;rw[this];rfl
 rw[getElem?_take_of_lt (by omega),getElem?_drop,Nat.add_zero]at d;unfold eB;rw[if_pos g,getD_eq_getElem?_getD,d];rfl
def Df {b:zY}{a:Nat}{c:UInt8}{d:Nat}(h:eB b a= .ok (c,d)):At b a [c]∧d=a+1:=by
 unfold eB at h;split at h
 ·rename_i h1;cases h;refine⟨⟨by simp;omega,?_⟩,rfl⟩;show(b.drop a).take 1= [b.getD a 0];rw[drop_eq_getElem_cons h1,getD_eq_getElem?_getD,getElem?_eq_getElem h1];rfl
 ·cases h
def N2 {b:zY}{a:Nat}{s:zY}(h:At b a s):b.drop a=s++b.drop (a+s.length):=by have g:=h.2;unfold Proofs.YtknalmoackcpbaaGreat.sg at g;have d:b.drop a=(b.drop a).take s.length++(b.drop a).drop s.length:=(take_append_drop _ _).symm;rw[g,drop_drop]at d;exact d
def xu {b:zY}{a:Nat}{n:Int}(h0:0≤n) (h1:n≤536870911) (h:At b a (bh n)):xw b a= .ok (n,a+(bh n).length):=by have d:=Fi (bh n) (b.drop (a+(bh n).length)) n (dU n) (BA n h0 h1);rw[←N2 h]at d;unfold xw;rw[d];simp[bh,jX]
def oK {b:zY}{a:Nat}{n:Int}{d:Nat}(h:xw b a= .ok (n,d)):0≤n∧n≤536870911∧At b a (bh n)∧d=a+(bh n).length:=by
 unfold xw at h;split at h
 ·rename_i he;obtain⟨⟨x,k,e⟩,hu⟩:∃t,pw (b.drop a)=t:=⟨_,rfl⟩;rw[hu]at h he;simp only at he;subst he;simp only[Except.ok.injEq,Prod.mk.injEq]at h;obtain⟨rfl,rfl⟩:=h;obtain⟨h1,o,l,q,j,i⟩:=LW _ _ _ hu;have hl:(bh x).length=k.toNat:=by simp[bh,jX,l]
  have g:a<b.length:=by
   rcases Nat.lt_or_ge a b.length with h|h
   ·exact h
   ·rw[drop_eq_nil_of_le h]at hu;simp[pw]at hu
  refine⟨h1,o,⟨?_,?_⟩,by rw[hl]⟩
  ·simp at j;omega
  ·unfold Proofs.YtknalmoackcpbaaGreat.sg;rw[hl,i]
 ·cases h
def zp {n:Int}(h:Eo n=true):n=4*((bM n).2.1-1+1)∧1≤(bM n).2.1∧(bM n).2.1≤32:=by
 unfold Eo bM at h;unfold bM;split
 ·rename_i h1;rw[if_pos h1]at h;simp at h
 rename_i h1;rw[if_neg h1]at h;split
 ·rename_i i;rw[if_pos i]at h;simp at h
 rename_i i;rw[if_neg i]at h;split
 ·rename_i g;rw[if_pos g]at h;simp at h⊢;omega
 rename_i g;rw[if_neg g]at h;split
 ·rename_i d;rw[if_pos d]at h;simp at h
 ·rename_i d;rw[if_neg d]at h;simp at h
def yO {i:Int}(h0:0≤i) (h1:i<32):Eo (4*(i+1))=true∧(bM (4*(i+1))).2.1=i+1:=by
 have h:bM (4*(i+1))=(0,i+1,0):=by unfold bM;rw[if_neg (by omega),if_neg (by omega),if_pos (by omega)];congr 2;omega
 unfold Eo;rw[h];simp;omega
def HW (n:Int):bM (if 1048576<n then 1048576 else n)=bM n:=by
 by_cases h:1048576<n
 ·rw[if_pos h];unfold bM;rw[if_neg (by omega),if_pos (by omega),if_neg (by omega),if_pos (by omega)]
 ·rw[if_neg h]
def kv {t:Ty}(h:aP t=true):0≤t.bT∧t.bT≤3∧0≤t.index∧((t.kind=1∧t.bT=0∧t.ref=false∧t.index=0)∨(t.kind=2∧t.index=0)∨(t.kind=3∧t.index=0)∨(t.kind=4∧t.index=0)∨
 (t.kind=5∧t.index<32)∨(t.kind=6∧t.index<32)∨(t.kind=7∧t.index≤7)):=by
 unfold aP at h;split at h
 ·cases h
 refine⟨by omega,by omega,by omega,?_⟩;split at h
 ·simp at h;exact .inl ⟨by assumption,h⟩
 split at h
 ·simp at h;rename_i h1;omega
 split at h
 ·simp at h;rename_i h1;omega
 split at h
 ·simp at h;omega
 ·cases h
def cases_plain {t:Ty}(h0:0≤t.bT) (h1:t.bT≤3) (d:0≤t.index) (h:(t.kind=1∧t.bT=0∧t.ref=false∧t.index=0)∨(t.kind=2∧t.index=0)∨(t.kind=3∧t.index=0)∨(t.kind=4∧t.index=0)∨
 (t.kind=5∧t.index<32)∨(t.kind=6∧t.index<32)∨(t.kind=7∧t.index≤7)):aP t=true:=by
 unfold aP;rw[if_neg (by omega)];rcases h with h|h|h|h|h|h|h
 ·rw[if_pos h.1];simp[h.2]
 all_goals
  rw[if_neg (by omega)];first
  |(rw[if_pos (by omega)];simp;omega)
  |(rw[if_neg (by omega),if_pos (by omega)];simp;omega)
  |(rw[if_neg (by omega),if_neg (by omega),if_pos (by omega)];simp;omega)
def SV {b:zY}{a:Nat}{t:Ty}(h:aP t=true) (g:At b a (pq t)):∃c r,pq t=c::r∧c≠29∧c≠16∧yd b t.ref t.bT.toNat c (a+1)= .ok (t,a+(pq t).length):=by
 obtain⟨d0,d3,i0,u⟩:=kv h;obtain⟨k,i,d,q⟩:=t;simp only at d0 d3 i0 u g⊢;obtain⟨o,rfl⟩:∃n:Nat,d=n:=⟨d.toNat,by omega⟩;rw[Int.toNat_natCast];rcases u with⟨rfl,hd,rfl,rfl⟩|⟨rfl,rfl⟩|⟨rfl,rfl⟩|⟨rfl,rfl⟩|⟨rfl,j⟩|⟨rfl,j⟩|⟨rfl,j⟩
 ·obtain rfl:o=0:=by omega
  exact⟨1,[],rfl,by decide,by decide,rfl⟩
 ·exact⟨8,[],rfl,by decide,by decide,rfl⟩
 ·exact⟨10,[],rfl,by decide,by decide,rfl⟩
 ·exact⟨28,[],rfl,by decide,by decide,rfl⟩
 ·refine⟨18,bh (4*(i+1)),rfl,by decide,by decide,?_⟩;have g:At b a (18::bh (4*(i+1))):=g;rw[At.cons]at g;have h1:=xu (by omega) (by omega) g.2;have l:=yO i0 j;show Br 5 q o (C1 b (a+1))= _;unfold C1;rw[h1];simp only[l.1,if_true,l.2,Br];simp[pq];omega
 ·refine⟨17,bh (4*(i+1)),rfl,by decide,by decide,?_⟩;have g:At b a (17::bh (4*(i+1))):=g;rw[At.cons]at g;have h1:=xu (by omega) (by omega) g.2;have l:=yO i0 j;show Br 6 q o (C1 b (a+1))= _;unfold C1;rw[h1];simp only[l.1,if_true,l.2,Br];simp[pq];omega
 ·refine⟨19,bh i,rfl,by decide,by decide,?_⟩;have g:At b a (19::bh i):=g;rw[At.cons]at g;have h1:=xu (by omega) (by omega) g.2;show Br 7 q o (KZ b (a+1))= _;unfold KZ;rw[h1];simp only[if_pos j,Br];simp[pq];omega
def OU {b:zY}{t:Ty}(h:aP t=true):∀(k f d a:Nat) (c:UInt8) (r:zY),k≤f→d+k=t.bT.toNat→List.replicate k 29++pq t=c::r→At b (a+1) r→At b a [c]→
 Bs b t.ref f d c (a+1)= .ok (t,a+(k+(pq t).length)):=by
 intro k;induction k with
 |zero=>
  intro f d a c r _ hd i j ha;have v:At b a (pq t):=by
   have:pq t=c::r:=by simpa using i
   rw[this,At.cons];exact⟨ha,j⟩
  obtain⟨I,J,H,o,_,G⟩:=SV h v;have F:c=I:=by simp[H]at i;exact i.1.symm
  subst F;have u:d=t.bT.toNat:=by omega
  subst u;cases f<;>simp[Bs,o,G]
 |succ k y=>
  intro f d a c r hf hd i j ha;obtain⟨f,rfl⟩:∃g,f=g+1:=⟨f-1,by omega⟩;simp only[replicate_succ,cons_append,List.cons.injEq]at i;obtain⟨rfl,i⟩:=i;have q:List.replicate k 29++pq t≠ []:=by
   intro e;have:=congrArg List.length e;simp at this;have w:pq t≠ []:=by unfold pq;split<;>(try split)<;>(try split)<;>(try split)<;>(try split)<;>(try split)<;>simp
   exact w this.2
  obtain⟨n,l,o⟩:∃n l,List.replicate k 29++pq t=n::l:=by
   cases E:List.replicate k 29++pq t with
   |nil=>exact absurd E q
   |cons n l=>exact⟨n,l,rfl⟩
  rw[←i,o,At.cons]at j;have h1:=zn j.1;have w:=y f (d+1) (a+1) n l (by omega) (by omega) o j.2 j.1;simp only[Bs,if_true,h1,w];congr 2;omega
def Oq {b:zY}{a:Nat}{t:Ty}(h:aP t=true) (d:At b a (hU t)):oH b a= .ok (t,a+(hU t).length):=by
 obtain⟨d0,d3,_,_⟩:=kv h;have u:∃c r,List.replicate t.bT.toNat 29++pq t=c::r∧c≠16:=by
  cases E:t.bT.toNat with
  |zero=>
   have v:∃c r,pq t=c::r∧c≠16:=by
    unfold pq;split
    ·exact⟨_,_,rfl,by decide⟩
    split
    ·exact⟨_,_,rfl,by decide⟩
    split
    ·exact⟨_,_,rfl,by decide⟩
    split
    ·exact⟨_,_,rfl,by decide⟩
    split
    ·exact⟨_,_,rfl,by decide⟩
    split
    ·exact⟨_,_,rfl,by decide⟩
    ·exact⟨_,_,rfl,by decide⟩
   simpa using v
  |succ k=>exact⟨29,List.replicate k 29++pq t,by simp[replicate_succ],by decide⟩
 obtain⟨c,r,l,y⟩:=u;have hl:(hU t).length=(if t.ref=true then 1 else 0)+(t.bT.toNat+(pq t).length):=by unfold hU;cases t.ref<;>simp<;>omega
 unfold hU at d;unfold oH;by_cases g:t.ref=true
 ·rw[if_pos g,l,cons_append,nil_append,At.cons,At.cons (c:=c)]at d;obtain⟨h1,j,w⟩:=d;have n:=zn h1;have q:=zn j;have i:=OU h t.bT.toNat 3 0 (a+1) c r (by omega) (by omega) l w j;rw[g]at i;rw[if_pos g]at hl;simp only[n,if_true,q,i,hl];congr 2;omega
 ·have o:t.ref=false:=by simpa using g
  rw[if_neg g,l,nil_append,At.cons]at d;obtain⟨h1,j⟩:=d;have n:=zn h1;have i:=OU h t.bT.toNat 3 0 a c r (by omega) (by omega) l j h1;rw[o]at i;rw[if_neg g]at hl;simp only[n,if_neg y,i,hl];congr 2;omega
def CD {b:zY}{a:Nat}{i:Int}{g:Nat}(h:C1 b a= .ok (i,g)):0≤i∧i<32∧At b a (bh (4*(i+1)))∧g=a+(bh (4*(i+1))).length:=by
 unfold C1 at h;cases d:xw b a with
 |error e=>rw[d]at h;cases h
 |ok y=>
  obtain⟨n,F⟩:=y;rw[d]at h;simp only at h;split at h
  ·rename_i q;cases h;obtain⟨j,v,u⟩:=zp q;obtain⟨E,w,o,l⟩:=oK d;rw[←j];exact⟨by omega,by omega,o,l⟩
  ·cases h
def Tj {b:zY}{a:Nat}{i:Int}{g:Nat}(h:KZ b a= .ok (i,g)):0≤i∧i≤7∧At b a (bh i)∧g=a+(bh i).length:=by
 unfold KZ at h;cases d:xw b a with
 |error e=>rw[d]at h;cases h
 |ok y=>
  obtain⟨n,v⟩:=y;rw[d]at h;simp only at h;split at h
  ·rename_i q;cases h;obtain⟨o,u,l,j⟩:=oK d;exact⟨o,q,l,j⟩
  ·cases h
def O1 {b:zY}{l:Bool}{d:Nat}{c:UInt8}{a:Nat}{t:Ty}{q:Nat}(hd:d≤3) (h:yd b l d c (a+1)= .ok (t,q)) (j:At b a [c]):
 aP t=true∧t.ref=l∧t.bT=d∧At b a (pq t)∧q=a+(pq t).length:=by
 unfold yd at h;split at h
 ·rename_i e;subst e;split at h
  ·cases h
  ·rename_i n;cases h;have u:l=false∧d=0:=by cases l<;>simp at n⊢;exact n
   obtain⟨rfl,rfl⟩:=u;exact⟨rfl,rfl,rfl,j,rfl⟩
 split at h
 ·rename_i e;subst e;cases h;exact⟨cases_plain (by simp) (by simp;omega) (by simp) (by simp),rfl,rfl,j,rfl⟩
 split at h
 ·rename_i e;subst e;cases h;exact⟨cases_plain (by simp) (by simp;omega) (by simp) (by simp),rfl,rfl,j,rfl⟩
 split at h
 ·rename_i e;subst e;cases h;exact⟨cases_plain (by simp) (by simp;omega) (by simp) (by simp),rfl,rfl,j,rfl⟩
 split at h
 ·rename_i e;subst e;cases g:C1 b (a+1)with
  |error e=>rw[g]at h;cases h
  |ok y=>
   obtain⟨i,o⟩:=y;rw[g]at h;cases h;obtain⟨i0,i1,i2,i3⟩:=CD g;refine⟨cases_plain (by simp) (by simp;omega) i0 (by simp;omega),rfl,rfl,?_,?_⟩
   ·show At b a (18::bh (4*(i+1)));rw[At.cons];exact⟨j,i2⟩
   ·rw[i3];simp[pq];omega
 split at h
 ·rename_i e;subst e;cases g:C1 b (a+1)with
  |error e=>rw[g]at h;cases h
  |ok y=>
   obtain⟨i,o⟩:=y;rw[g]at h;cases h;obtain⟨i0,i1,i2,i3⟩:=CD g;refine⟨cases_plain (by simp) (by simp;omega) i0 (by simp;omega),rfl,rfl,?_,?_⟩
   ·show At b a (17::bh (4*(i+1)));rw[At.cons];exact⟨j,i2⟩
   ·rw[i3];simp[pq];omega
 split at h
 ·rename_i e;subst e;cases g:KZ b (a+1)with
  |error e=>rw[g]at h;cases h
  |ok y=>
   obtain⟨i,o⟩:=y;rw[g]at h;cases h;obtain⟨i0,i1,i2,i3⟩:=Tj g;refine⟨cases_plain (by simp) (by simp;omega) i0 (by simp;omega),rfl,rfl,?_,?_⟩
   ·show At b a (19::bh i);rw[At.cons];exact⟨j,i2⟩
   ·rw[i3];simp[pq];omega
 ·cases h
def O2 {b:zY}{v:Bool} :∀(f d:Nat) (c:UInt8) (a:Nat) (t:Ty) (n:Nat),d+f=3→Bs b v f d c (a+1)= .ok (t,n)→At b a [c]→
 aP t=true∧t.ref=v∧ ∃k:Nat,t.bT=((d+k:Nat):Int)∧At b a (List.replicate k 29++pq t)∧n=a+(k+(pq t).length):=by
 intro f;induction f with
 |zero=>
  intro d c a t n hd h q;simp only[Bs]at h;split at h
  ·cases h
  ·obtain⟨l,j,i,g,o⟩:=O1 (by omega) h q;exact⟨l,j,0,by simpa using i,by simpa using g,by simpa using o⟩
 |succ f E=>
  intro d c a t n hd h q;simp only[Bs]at h;split at h
  ·rename_i e;subst e;cases u:eB b (a+1)with
   |error e=>rw[u]at h;cases h
   |ok y=>obtain⟨F,G⟩:=y;rw[u]at h;simp only at h;obtain⟨w,rfl⟩:=Df u;obtain⟨l,j,k,i,g,o⟩:=E (d+1) F (a+1) t n (by omega) h w;refine⟨l,j,k+1,by rw[i];congr 1;omega,?_,by omega⟩;rw[replicate_succ,cons_append,At.cons];exact⟨q,g⟩
  ·obtain⟨l,j,i,g,o⟩:=O1 (by omega) h q;exact⟨l,j,0,by simpa using i,by simpa using g,by simpa using o⟩
def Lp {b:zY}{a:Nat}{t:Ty}{i:Nat}(h:oH b a= .ok (t,i)):aP t=true∧At b a (hU t)∧i=a+(hU t).length:=by
 unfold oH at h;cases o:eB b a with
 |error e=>rw[o]at h;cases h
 |ok y=>
  obtain⟨c,G⟩:=y;rw[o]at h;simp only at h;obtain⟨q,rfl⟩:=Df o;have hl:(hU t).length=(if t.ref=true then 1 else 0)+(t.bT.toNat+(pq t).length):=by unfold hU;cases t.ref<;>simp<;>omega
  split at h
  ·rename_i e;subst e;cases d:eB b (a+1)with
   |error e=>rw[d]at h;cases h
   |ok y=>
    obtain⟨E,F⟩:=y;rw[d]at h;simp only at h;obtain⟨w,rfl⟩:=Df d;obtain⟨l,g,k,v,j,u⟩:=O2 3 0 E (a+1) t i (by omega) h w;have n:t.bT.toNat=k:=by omega
    rw[g,if_pos rfl]at hl;refine⟨l,?_,by omega⟩;unfold hU;rw[g,if_pos rfl,n,cons_append,nil_append,At.cons];exact⟨q,j⟩
  ·obtain⟨l,g,k,v,j,u⟩:=O2 3 0 c a t i (by omega) h q;have n:t.bT.toNat=k:=by omega
   rw[g,if_neg (by simp)]at hl;refine⟨l,?_,by omega⟩;unfold hU;rw[g,if_neg (by simp),n,nil_append];exact j
def mB {t:Ty}(h:aZ t=true):aP t=true:=by unfold aZ at h;simp at h;exact h.1
def sH {t:Ty}(h:cx t=true):aP t=true:=by unfold cx at h;simp at h;exact h.1
def Ka {ok:Ty→Bool}{b:zY}{a:Nat}{t:Ty}(h:aP t=true) (g:ok t=true) (d:At b a (hU t)):kP ok b a= .ok (t,a+(hU t).length):=by unfold kP;rw[Oq h d];simp[g]
def ET {ok:Ty→Bool}{b:zY}{a:Nat}{t:Ty}{g:Nat}(h:kP ok b a= .ok (t,g)):ok t=true∧aP t=true∧At b a (hU t)∧g=a+(hU t).length:=by
 unfold kP at h;cases d:oH b a with
 |error e=>rw[d]at h;cases h
 |ok y=>
  obtain⟨i,j⟩:=y;rw[d]at h;simp only at h;split at h
  ·cases h;exact⟨by assumption,Lp d⟩
  ·cases h
def Ga {b:zY} :∀(l:List Ty) (a:Nat),(∀t∈l,aZ t=true)→At b a (vB l)→eList b l.length a= .ok (l,a+(vB l).length):=by
 intro l;induction l with
 |nil=>intro a _ _;rfl
 |cons t r g=>intro a h d;have d:At b a (hU t++vB r):=d;rw[At.app]at d;have h1:=h t (by simp);have n:=Ka (ok:=aZ) (mB h1) h1 d.1;have j:=g _ (fun x i=>h x (by simp[i])) d.2;simp only[length_cons,eList,n,j];simp[vB];omega
def A7 {b:zY} :∀(k a:Nat) (l:List Ty) (g:Nat),a≤b.length→eList b k a= .ok (l,g)→l.length=k∧(∀t∈l,aZ t=true)∧At b a (vB l)∧g=a+(vB l).length:=by
 intro k;induction k with
 |zero=>intro a l g ha h;cases h;exact⟨rfl,by simp,At.nil ha,rfl⟩
 |succ k v=>
  intro a l g ha h;simp only[eList]at h;cases d:kP aZ b a with
  |error e=>rw[d]at h;cases h
  |ok y=>
   obtain⟨t,w⟩:=y;rw[d]at h;simp only at h;cases i:eList b k w with
   |error e=>rw[i]at h;cases h
   |ok z=>
    obtain⟨r,F⟩:=z;rw[i]at h;cases h;obtain⟨u,E,j,rfl⟩:=ET d;obtain⟨q,o,n,rfl⟩:=v _ r _ j.len i;refine⟨by simp[q],?_,?_,?_⟩
    ·intro x d;simp at d;rcases d with rfl|d
     ·exact u
     ·exact o x d
    ·show At b a (hU t++vB r);rw[At.app];exact⟨j,n⟩
    ·simp[vB];omega
def jO {n:Nat}(h:n<128):bh (n:Int)= [UInt8.ofNat n]:=by rw[Aj (n:Int) (by omega) (by omega)];congr 2;omega
def xt {α:Type}{b:zY}{x:Except Int (α×Nat)}{v:α}{a:Nat}(h:x= .ok (v,a)) (ha:b.length≤a):oI b x= .ok v:=by rw[h];simp[oI];omega
def AO {α:Type}{b:zY}{x:Except Int (α×Nat)}{v:α}(h:oI b x= .ok v):∃a,x= .ok (v,a)∧b.length≤a:=by
 unfold oI at h;split at h
 ·cases h
 ·split at h
  ·cases h
  ·cases h;exact⟨_,rfl,by omega⟩
def vL (b:zY):At b 0 b:=⟨by simp,by simp[Proofs.YtknalmoackcpbaaGreat.sg]⟩
def xO {b s:zY}(h:At b 0 s) (hl:b.length≤s.length):s=b:=by have:=h.take;rw[this,take_of_length_le hl]
def Gk {t:Ty}(h:aP t=true):eT (hU t)= .ok t:=xt (Oq h (vL _)) (by omega)
def MH {b:zY}{t:Ty}(h:eT b= .ok t):aP t=true∧hU t=b:=by obtain⟨a,h1,j⟩:=AO h;obtain⟨g,d,i⟩:=Lp h1;exact⟨g,xO d (by omega)⟩
def Pk {s:Sg}(hl:s.ps.length≤6) (h1:∀t∈s.ps,aZ t=true) (j:cx s.ret=true):dy (Dw s)= .ok s:=by
 obtain⟨d,ps,rt⟩:=s;simp only at hl h1 j;have H:=vL (Dw ⟨d,ps,rt⟩);generalize q:Dw ⟨d,ps,rt⟩=b at*;have i:b.length=2+((hU rt).length+(vB ps).length):=by rw[←q];simp[Dw];omega
 have F:Dw ⟨d,ps,rt⟩=(if d=true then 32 else 0)::(bh (ps.length:Int)++(hU rt++vB ps)):=by rw[jO (by omega)];rfl
 have g:At b 0 ((if d=true then 32 else 0)::(bh (ps.length:Int)++(hU rt++vB ps))):=by rw[←F,q];exact vL b
 rw[At.cons,At.app,At.app]at g;obtain⟨E,y,o,n⟩:=g;have h:(bh (ps.length:Int)).length=1:=by rw[jO (by omega)];rfl
 have w:=zn E;have l:=xu (by omega) (by omega) y;rw[h]at l o n;have v:=Ka (ok:=cx) (sH j) j o;have u:=Ga ps _ h1 n;refine xt (a:=b.length) ?_ (by omega);unfold pU;rw[w];have G:(if d=true then(32:UInt8)else 0)=0∨(if d=true then(32:UInt8)else 0)=32:=by cases d<;>simp
 simp only[if_pos G,l,if_pos (show(ps.length:Int)≤6 by omega),v,Int.toNat_natCast,u];have ht:decide ((if d=true then(32:UInt8)else 0)=32)=d:=by cases d<;>decide
 rw[ht,i];congr 2;omega
def QP {b:zY}{s:Sg}(h:dy b= .ok s):s.ps.length≤6∧(∀t∈s.ps,aZ t=true)∧cx s.ret=true∧Dw s=b:=by
 obtain⟨a,h1,P⟩:=AO h;unfold pU at h1;cases j:eB b 0 with
 |error e=>rw[j]at h1;cases h1
 |ok y=>
  obtain⟨c,J⟩:=y;rw[j]at h1;simp only at h1;split at h1;rotate_left
  ·cases h1
  rename_i G;cases g:xw b J with
  |error e=>rw[g]at h1;cases h1
  |ok y=>
   obtain⟨n,I⟩:=y;rw[g]at h1;simp only at h1;split at h1;rotate_left
   ·cases h1
   rename_i O;cases hm:kP cx b I with
   |error e=>rw[hm]at h1;cases h1
   |ok y=>
    obtain⟨t,H⟩:=y;rw[hm]at h1;simp only at h1;cases hl:eList b n.toNat H with
    |error e=>rw[hl]at h1;cases h1
    |ok y=>
     obtain⟨l,Q⟩:=y;rw[hl]at h1;cases h1;obtain⟨E,rfl⟩:=Df j;obtain⟨M,_,w,rfl⟩:=oK g;obtain⟨v,L,o,rfl⟩:=ET hm;obtain⟨K,u,q,rfl⟩:=A7 _ _ _ _ o.len hl;have i:n=(l.length:Int):=by omega
     refine⟨by simp only;omega,u,v,?_⟩;subst i;have d:=jO (n:=l.length) (by omega);have F:Dw ⟨decide (c=32),l,t⟩= [c]++(bh (l.length:Int)++(hU t++vB l)):=by rw[d];rcases G with rfl|rfl<;>rfl
     rw[F];refine xO ?_ ?_
     ·rw[At.app,At.app,At.app];exact⟨E,w,o,q⟩
     ·simp only[length_append,length_cons,length_nil];omega
def Qb {l:List Ty}(hl:l.length≤12) (h1:∀t∈l,aZ t=true):fR (Gb l)= .ok l:=by
 generalize n:Gb l=b at*;have h:b.length=2+(vB l).length:=by rw[←n];simp[Gb];omega
 have w:Gb l=7::(bh (l.length:Int)++vB l):=by rw[jO (by omega)];rfl
 have d:At b 0 (7::(bh (l.length:Int)++vB l)):=by rw[←w,n];exact vL b
 rw[At.cons,At.app]at d;obtain⟨v,u,j⟩:=d;have g:(bh (l.length:Int)).length=1:=by rw[jO (by omega)];rfl
 have q:=zn v;have i:=xu (by omega) (by omega) u;rw[g]at i j;have o:=Ga l _ h1 j;refine xt (a:=b.length) ?_ (by omega);unfold rH;rw[q];simp only[if_true,i,if_pos (show(l.length:Int)≤12 by omega),Int.toNat_natCast,o];rw[h]
def QQ {b:zY}{l:List Ty}(h:fR b= .ok l):l.length≤12∧(∀t∈l,aZ t=true)∧Gb l=b:=by
 obtain⟨a,h1,J⟩:=AO h;unfold rH at h1;cases j:eB b 0 with
 |error e=>rw[j]at h1;cases h1
 |ok y=>
  obtain⟨c,F⟩:=y;rw[j]at h1;simp only at h1;split at h1;rotate_left
  ·cases h1
  rename_i E;cases g:xw b F with
  |error e=>rw[g]at h1;cases h1
  |ok y=>
   obtain⟨n,K⟩:=y;rw[g]at h1;simp only at h1;split at h1;rotate_left
   ·cases h1
   rename_i I;obtain⟨v,rfl⟩:=Df j;obtain⟨H,_,o,rfl⟩:=oK g;obtain⟨G,u,q,rfl⟩:=A7 _ _ _ _ o.len h1;have i:n=(l.length:Int):=by omega
   refine⟨by omega,u,?_⟩;subst i E;have d:=jO (n:=l.length) (by omega);have w:Gb l= [7]++(bh (l.length:Int)++vB l):=by rw[d];rfl
   rw[w];refine xO ?_ ?_
   ·rw[At.app,At.app];exact⟨v,o,q⟩
   ·simp only[length_append,length_cons,length_nil];omega
end Sg
end Go.Proofs.YtknalmoackcpbaaGreat
