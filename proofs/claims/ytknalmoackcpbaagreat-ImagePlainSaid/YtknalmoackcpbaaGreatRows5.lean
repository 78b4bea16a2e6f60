/- Chapter 04: the document's Write. -/
import Derived.Test.YtknalmoackcpbaaGreatRows2
set_option maxRecDepth 100000
set_option maxHeartbeats 3200000
set_option linter.all false
open Go Go.AW Go.Proofs.Tryz List
namespace Go.Proofs.YtknalmoackcpbaaGreat
namespace Rw
def EB (a e:Int):AV:= .rM 174 (.agg [zI a,zI e])
def dH (id:Nat) (size marks:Int):bP:= .cells 178 [.ptr id 0,zI size,zI marks]
def LB (b:zY) (nl:Bool) (id:Nat) (x:Int×Int) (σ:AS) (p:AV) (g:AS):Prop:=p=EB x.1 x.2∧ ∃a:Int,g=σ.set id (bA b a nl)
def ag.DF {f:FuncId}{args:List AV}{b:zY}{nl:Bool}{id:Nat}{x:Int×Int}{g σ:AS}{K i:AV→AS→Prop}(h:ad prog f args g No (LB b nl id x σ)) (j:∀a:Int,i (EB x.1 x.2) (σ.set id (bA b a nl))):ag prog (.sc (.func (.func f) #[] #[])) args g K i:=
 .of h (fun _ _ h=>h.elim) (fun r l h=>by obtain⟨rfl,a,rfl⟩:=h;exact j a)
def GU {σ:AS}{i:Nat}{x:bP}(h:σ i=some x):σ.set i x=σ:=by
 funext j;by_cases e:j=i
 ·subst e;simp[AS.set,h]
 ·simp[AS.set,e]
def fW (b:zY) (a n:Nat):Except (Int×Int) (Int×Nat):=if a+n≤b.length then .ok (aY (cu b a n),a+n)else .error ((b.length:Int),1)
def eR (b:zY) (a:Nat) (most:Int):Except (Int×Int) (Int×Nat):=
 match fW b a 1 with
 |.error e=> .error e
 |.ok (v,g)=>if most<v then .error ((a:Int),2)else .ok (v,g)
def fx {b:zY}{a n:Nat}{v:Int}{g:Nat}(h:fW b a n= .ok (v,g)):a+n≤b.length∧v=aY (cu b a n)∧g=a+n:=by
 unfold fW at h;split at h
 ·cases h;exact⟨by assumption,rfl,rfl⟩
 ·cases h
def BZ {b:zY}{a n:Nat}{e:Int×Int}(h:fW b a n= .error e):¬a+n≤b.length∧e=((b.length:Int),1):=by
 unfold fW at h;split at h
 ·cases h
 ·cases h;exact⟨by assumption,rfl⟩
def BO {b:zY}{a n:Nat}(h:a+n≤b.length) (j:n≤4):0≤aY (cu b a n)∧aY (cu b a n)<4294967296:=by
 refine⟨ct _,?_⟩;have h1:=jb (cu b a n);have i:(cu b a n).length=n:=by have:=eC b a n (by omega) (by omega) (by omega);omega
 rw[i]at h1;generalize aY (cu b a n)=z at h1⊢;have g:n=0∨n=1∨n=2∨n=3∨n=4:=by omega
 rcases g with rfl|rfl|rfl|rfl|rfl<;>simp at h1<;>omega
def kY (bp id:Nat) (mk:Int) (b:zY) (a n:Nat) (nl:Bool) (σ:AS) (i:σ bp=some (dH id b.length mk)) (h:σ id=some (bA b a nl)) (hl:b.length≤140737488355328) (hw:wide n=true) (o:n≤4) (v:Int) (j:Nat) (he:fW b a n= .ok (v,j)):
 ad prog 159 [.ptr bp 0,zI n] σ (ah (zI v) (σ.set id (bA b j nl))) No:=by
 obtain⟨h1,rfl,rfl⟩:=fx he;have q:=BO h1 o;have g:zW (aY (cu b a n))=aY (cu b a n):=az (by omega) (by omega);have l:=lN id b a n nl σ h (by omega) (by omega) hl hw (by omega);simp only[dH]at i;refine ad.ob func159 ?_;exact gE aa (j2 @i @g) @l
def rN (bp id:Nat) (mk:Int) (b:zY) (a n:Nat) (nl:Bool) (σ:AS) (g:σ bp=some (dH id b.length mk)) (h:σ id=some (bA b a nl)) (ha:a≤b.length) (hl:b.length≤140737488355328) (hw:wide n=true) (e:Int×Int) (he:fW b a n= .error e):
 ad prog 159 [.ptr bp 0,zI n] σ No (LB b nl id e σ):=by
 obtain⟨h1,rfl⟩:=BZ he;have j:tz b a n=1:=by simp[tz,hw];omega
 have i:=vw id b a n nl σ h (by omega) (by omega) hl (by omega);rw[j]at i;simp only[dH]at g;refine ad.ob func159 ?_;refine gO aa @g @i ?_;exact⟨σ,lR _,rfl,a,(GU h).symm⟩
def nI {b:zY}{a:Nat}{most v:Int}{i:Nat}(h:eR b a most= .ok (v,i)):fW b a 1= .ok (v,i)∧v≤most:=by
 unfold eR at h;cases g:fW b a 1 with
 |error e=>rw[g]at h;simp at h
 |ok x=>
  obtain⟨j,l⟩:=x;rw[g]at h;simp only at h;split at h
  ·cases h
  ·cases h;exact⟨rfl,by omega⟩
def wG {b:zY}{a:Nat}{most:Int}{e:Int×Int}(h:eR b a most= .error e):fW b a 1= .error e∨(e=((a:Int),2)∧ ∃v l,fW b a 1= .ok (v,l)∧most<v):=by
 unfold eR at h;cases g:fW b a 1 with
 |error n=>rw[g]at h;simp at h;subst h;exact .inl rfl
 |ok x=>
  obtain⟨i,j⟩:=x;rw[g]at h;simp only at h;split at h
  ·cases h;exact .inr ⟨rfl,i,j,rfl,by assumption⟩
  ·cases h
def yF (bp id:Nat) (mk:Int) (b:zY) (a:Nat) (nl:Bool) (σ:AS) (g:σ bp=some (dH id b.length mk)) (h:σ id=some (bA b a nl)) (hl:b.length≤140737488355328) (most v:Int) (l:Nat) (he:eR b a most= .ok (v,l)):
 ad prog 158 [.ptr bp 0,zI most] σ (ah (zI v) (σ.set id (bA b l nl))) No:=by
 obtain⟨h1,o⟩:=nI he;have n:=kY bp id mk b a 1 nl σ g h hl rfl (by omega) v l h1;have i:=pf id b a nl σ h;have j:¬most<v:=by omega
 simp only[dH]at g;refine ad.ob func158 ?_;exact gE aa (j2 @g @j) (j2 @i @n)
def vO (bp id:Nat) (mk:Int) (b:zY) (a:Nat) (nl:Bool) (σ:AS) (g:σ bp=some (dH id b.length mk)) (h:σ id=some (bA b a nl)) (ha:a≤b.length) (hl:b.length≤140737488355328) (most:Int) (e:Int×Int) (he:eR b a most= .error e):
 ad prog 158 [.ptr bp 0,zI most] σ No (LB b nl id e σ):=by
 have i:=pf id b a nl σ h;rcases wG he with he|⟨rfl,v,n,he,l⟩
 ·have j:=rN bp id mk b a 1 nl σ g h ha hl rfl e he;simp only[dH]at g;refine ad.ob func158 ?_;refine gO aa @g @i ?_;refine ag.DF j ?_;intro x;simp-implicitDefEqProofs;exact⟨_,lR _,rfl,x,rfl⟩
 ·have j:=kY bp id mk b a 1 nl σ g h hl rfl (by omega) v n he;simp only[dH]at g;refine ad.ob func158 ?_;refine gO aa (j2 @g @l) (j2 @i @j) ?_;exact⟨_,lR _,rfl,_,rfl⟩
def Yy {α:Type}(x:Except (Int×Int) (α×Nat)) (f:α→AV) (b:zY) (nl:Bool) (id:Nat) (σ:AS) (r:AV) (g:AS):Prop:= ∃v a,x= .ok (v,a)∧r=f v∧g=σ.set id (bA b (a:Nat) nl)
def Yw {α:Type}(x:Except (Int×Int) α) (b:zY) (nl:Bool) (id:Nat) (σ:AS) (p:AV) (g:AS):Prop:= ∃e,x= .error e∧LB b nl id e σ p g
def gq (b:zY) (mk:Nat):zY→Nat→Except (Int×Int) (List Int×Nat)
 |[],a=> .ok ([],a)
 |k::g,a=>match fW b a (wK k mk).toNat with
  |.error e=> .error e
  |.ok (v,i)=>match gq b mk g i with
   |.error e=> .error e
   |.ok (l,h)=> .ok (v::l,h)
def gd {α:Type}(d:List α):Except (Int×Int) (List α×Nat)→Except (Int×Int) (List α×Nat)
 |.error e=> .error e
 |.ok (l,a)=> .ok (d++l,a)
def JG (b:zY) (mk:Nat) (d:List Int) (k:UInt8) (g:zY) (a:Nat):
 gd d (gq b mk (k::g) a)=match fW b a (wK k mk).toNat with|.error e=> .error e|.ok (v,h)=>gd (d++ [v]) (gq b mk g h):=by
 simp only[gq];cases fW b a (wK k mk).toNat with
 |error e=>rfl
 |ok x=>
  obtain⟨v,h⟩:=x;simp only;cases gq b mk g h with
  |error e=>rfl
  |ok y=>obtain⟨l,i⟩:=y;simp[gd]
def rQ (l:List Int):AV:= .ao 3 (l.map aS) .aI (decide (l= []))
def XN (b:zY) (nl:Bool) (mk:Nat) (g:zY) (bp id it h:Nat) (X:Except (Int×Int) (List Int×Nat)) (B:AS) (m:Nat) (f:Fr) (i:AS):Prop:=
 ∃(j a:Nat) (d:List Int),m=g.length-j∧j≤g.length∧a≤b.length∧d.length=j∧gd d (gq b mk (g.drop j) a)=X∧
  i=((B.set it (.lF ⟨g.toArray⟩ j)).set id (bA b a nl)).set h (.tok j)∧
  f=iO [(0,.ptr bp 0),(5,.ao 3 (d.map aS) (.tok h) (decide (d= []))),(10,.ptr it 0)]
def vh (bp id:Nat) (mk:Nat) (a9:mk≤3) (b:zY) (a t:Nat) (nl:Bool) (σ:AS) (T:σ bp=some (dH id b.length mk)) (h:σ id=some (bA b a nl)) (ha:a≤b.length) (hl:b.length≤140737488355328):
 ad prog 160 [.ptr bp 0,zI t] σ (Yy (gq b mk (bC t) a) rQ b nl id σ) (Yw (gq b mk (bC t) a) b nl id σ):=by
 have a4:=fun σ=>xd t σ;have bb:=uG (t:Int);have b2:=qB (t:Int);simp only[zR]at a4;generalize b1:bC (t:Int)=Q at*;have P:¬bp=id:=by rintro rfl;rw[T]at h;simp[dH,bA]at h
 refine ad.ob func160 ?_;refine aq.seq ?_;refine gO (S:= [2]) aa tI tI ?_;refine aq.fy 5 3 [] true (by simp) (.inr ⟨by simp,rfl,rfl⟩) ?_;simp-implicitDefEqProofs;intro Y K;have n:¬id=Y:=nq h K;have F:=aK n;have i:¬bp=Y:=nq T K;have w:=aK i;refine gO aa tI @a4 ?_;intro it q L;have E:=aK q;have o:¬id=it:=nq h L;have u:=aK o;have g:¬bp=it:=nq T L;have y:=aK g;refine gO aa tI tI ?_;refine aq.dc (XN b nl mk Q bp id it Y (gq b mk Q a) σ) (k0:=Q.length) ⟨0,a,[],by omega,by omega,ha,rfl,?_,rfl,rfl⟩ (aN.mk (by simp)) ?_ ?_
 ·simp only[drop_zero];cases gq b mk Q a with
  |error e=>rfl
  |ok x=>obtain⟨l,a2⟩:=x;rfl
 ·have O:=(j2 (j7 @h K L q E F n) (j8 @h w i @T u o y g));intro M y_;refine gK O M it fun I=>gK O M id fun J=>gK O M Y fun H=> ?_;intro G;simp[AS.set,I,J,H]at G⊢;try exact G
 rintro m f σ' ⟨j,a1,d,hm,hj,be,hd,X,hs,rfl⟩;have gI:σ' id=some (bA b a1 nl):=by rw[hs];simp[n]
 have gR:σ' bp=some (dH id b.length mk):=by rw[hs];simp[i,P,g,T]
 have gT:σ' Y=some (.tok d.length):=by rw[hs,hd];simp
 have gS:σ' it=some (.lF ⟨Q.toArray⟩ j):=by rw[hs];simp[q,u]
 simp only[dH]at gR;by_cases af:j<Q.length
 ·obtain⟨kd,hg,bc,av,_⟩:=gQ Q af;have ab:=zo Q j hg (bb kd av);have ap:=fun σ=>Bw kd mk a9 σ;have ar:=Bz kd mk;rw[bc,JG]at X;have am:wK kd mk=(((wK kd mk).toNat:Nat):Int):=by omega
  have V:wide (((wK kd mk).toNat:Nat):Int)=true:=by rcases ar with e|e<;>rw[e]<;>rfl
  cases hN:fW b a1 (wK kd mk).toNat with
  |error e=>rw[hN]at X;simp only at X;have hb:=fun σ T h=>rN bp id mk b a1 (wK kd mk).toNat nl σ T h be hl V e hN;rw[←am]at hb;refine gO aa (j5 @gS af @ab @gR g) @ap ?_;refine ag.DF (hb _ (by simp[g,gR,dH]) (by simp[o,gI])) ?_;intro x;simp-implicitDefEqProofs;refine⟨σ.set id (bA b x nl),?_,e,X.symm,rfl,x,rfl⟩;rw[hs];have O:=(j2 (j7 K L q E F n @h) (j7 w i @T u o y g));intro M y_;refine gK O M it fun I=>gK O M id fun J=>gK O M Y fun H=> ?_;intro G;simp[AS.set,I,J,H]at G⊢;try exact G
  |ok v=>
   obtain⟨v,a2⟩:=v;rw[hN]at X;simp only at X;obtain⟨h1,_,h3⟩:=fx hN;have hb:=fun σ T h=>kY bp id mk b a1 (wK kd mk).toNat nl σ T h hl V (by omega) v a2 hN;rw[←am]at hb;refine gO aa (And.intro (j7 @gS af @ab @gR @gT n o) (j3 g @dH.eq_1 @gI)) (j2 @ap @hb) ?_;refine⟨m-1,_,_,by omega,aN.mk ?_,?_,j+1,a2,d++ [v],by omega,by omega,by omega,by simp[hd],X,rfl,rfl⟩
   ·simp[aF]
   ·rw[hs,hd];have O:=(j2 (j7 K L q E F n @h) (j7 w i @T u o y g));intro M y_;refine gK O M it fun I=>gK O M id fun J=>gK O M Y fun H=> ?_;intro G;simp[AS.set,I,J,H]at G⊢;try exact G
 ·have a3:Q.drop j= []:=drop_eq_nil_of_le (by omega);rw[a3]at X;have bf:gq b mk Q a= .ok (d,a1):=by rw[←X];simp[gq,gd]
  have a0:(j<Q.length)=False:=by simp;omega
  have Wl:(⟨Q.toArray⟩:ByteArray).size=Q.length:=by simp[ByteArray.size]
  refine gO aa (j3 @gS a0 @Wl) tI ?_;refine⟨rQ d,σ.set id (bA b a1 nl),by simp[rQ],?_,d,a1,bf,rfl,rfl⟩;rw[hs];have O:=(j2 (j7 K L q E F n @h) (j7 w i @T u o y g));intro M y_;refine gK O M it fun I=>gK O M id fun J=>gK O M Y fun H=> ?_;intro G;simp[AS.set,I,J,H]at G⊢;try exact G
abbrev jJ:bW:=(.S 0 (.A 1 (.A 2 (.S 3 (.A 4 (.A 5 .D .Z) .Z)) (.A 4 (.A 2 (.S 3 (.A 5 .D .Z)) .Z) .Z)) (.A 2 (.A 1 (.S 3 (.A 4 (.A 5 .D .Z) .Z)) (.A 4 (.A 1 (.S 3 (.A 5 .D .Z)) .Z) .Z)) (.A 4 (.A 1 (.A 2 (.S 3 (.A 5 .D .Z)) .Z) (.A 2 (.A 1 (.S 3 (.A 5 .D .Z)) .Z) .Z)) .Z))))
abbrev jH:bW:=(.S 0 (.S 2 (.S 3 (.S 5 (.S 8 (.S 9 (.A 1 (.A 4 (.S 6 (.A 7 (.A 10 (.S 11 (.A 12 (.S 13 (.A 14 .D .Z)) .Z)) .Z) (.A 10 (.S 11 (.R 7 (.A 12 (.S 13 (.A 14 .D .Z)) .Z))) .Z))) (.A 10 (.S 11 (.R 4 (.S 6 (.R 7 (.A 12 (.S 13 (.A 14 .D .Z)) .Z))))) .Z)) (.A 4 (.S 6 (.A 1 (.A 7 (.A 10 (.S 11 (.A 12 (.S 13 (.A 14 .D .Z)) .Z)) .Z) (.A 10 (.S 11 (.R 7 (.A 12 (.S 13 (.A 14 .D .Z)) .Z))) .Z)) (.A 7 (.A 1 (.A 10 (.S 11 (.A 12 (.S 13 (.A 14 .D .Z)) .Z)) .Z) (.A 10 (.S 11 (.A 1 (.A 12 (.S 13 (.A 14 .D .Z)) .Z) (.A 12 (.R 1 (.S 13 (.A 14 .D .Z))) .Z))) .Z)) (.A 10 (.S 11 (.R 7 (.A 1 (.A 12 (.S 13 (.A 14 .D .Z)) .Z) (.A 12 (.R 1 (.S 13 (.A 14 .D .Z))) .Z)))) .Z)))) (.A 10 (.S 11 (.R 4 (.S 6 (.R 7 (.A 1 (.A 12 (.S 13 (.A 14 .D .Z)) .Z) (.A 12 (.R 1 (.S 13 (.A 14 .D .Z))) .Z)))))) .Z)))))))))
def cm (S:List Nat):bH prog [(10,jJ),(16,jH)] S:=mixed
def jM (b:zY) (g:Nat):Nat→Nat→Nat→Except (Int×Int) (List Int×Nat)
 |0,_,a=> .ok ([],a)
 |m+1,t,a=>if g/2^t%2=1 then(match fW b a 2 with
  |.error e=> .error e
  |.ok (v,h)=>gd [v] (jM b g m (t+1) h))
  else gd [0] (jM b g m (t+1) a)
def jL (b:zY) (mk:Nat) (g:zY):Nat→Nat→Except (Int×Int) (List (List Int)×Nat)
 |0,a=> .ok ([],a)
 |n+1,a=>match gq b mk g a with
  |.error e=> .error e
  |.ok (l,h)=>gd [l] (jL b mk g n h)
def jK (b:zY) (mk:Nat):List Int→Nat→Nat→Except (Int×Int) (List (List (List Int))×Nat)
 |[],_,a=> .ok ([],a)
 |c::cs,t,a=>match jL b mk (bC (t:Int)) c.toNat a with
  |.error e=> .error e
  |.ok (l,g)=>gd [l] (jK b mk cs (t+1) g)
def kL (b:zY):Except (Int×Int) ((Int×List (List (List Int)))×Nat):=
 match eR b 0 3 with
 |.error e=> .error e
 |.ok (mk,n)=>match eR b n 63 with
  |.error e=> .error e
  |.ok (g,l)=>match jM b g.toNat 6 0 l with
   |.error e=> .error e
   |.ok (cs,j)=>match fW b j 2 with
    |.error e=> .error e
    |.ok (en,i)=>match jK b mk.toNat cs 0 i with
     |.error e=> .error e
     |.ok (T,h)=> .ok ((en,T),h)
def rU {α:Type}(d:List α) (v:α) (x:Except (Int×Int) (List α×Nat)):gd d (gd [v] x)=gd (d++ [v]) x:=by
 cases x with
 |error e=>rfl
 |ok y=>obtain⟨l,a⟩:=y;simp[gd]
def wI {α:Type}(x:Except (Int×Int) (List α×Nat)):gd [] x=x:=by
 cases x with
 |error e=>rfl
 |ok y=>obtain⟨l,a⟩:=y;rfl
def RZ (x:Int×List (List (List Int))):AV:= .agg [zI x.1,.ao 94 (x.2.map fun l=>lV (l.map fun r=>(r,decide (r= [])),decide (l= []))) .aI false]
def QM (g t:Nat) (ht:t<6) (h:g≤63):IntKind.i64.wrap (lr 64 ((g:Int)/2^min t 64) 1)=((g/2^t%2:Nat):Int):=by
 have h1:(g:Int)/2^t=((g/2^t:Nat):Int):=by simp
 have j:g/2^t≤63:=Nat.le_trans (Nat.div_le_self _ _) h;rw[show min t 64=t by omega,h1];generalize g/2^t=q at*;have i:=js (w:=64) (a:=(q:Int)) 1 (by omega) (by(have e:(2:Int)^64=18446744073709551616:=by decide);omega) (by omega);rw[show(2:Int)^1-1=1 by decide,show(2:Int)^1=2 by decide]at i;rw[i,az (by omega) (by omega)];omega
def Gs {α:Type}(A:List α) (x v:α) (C:List α):List.take A.length (A++x::C)++v::List.drop (A.length+1) (A++x::C)=A++v::C:=by
 induction A with
 |nil=>simp
 |cons a A g=>simp
def J9 (I:Fr→AS→Prop) (s:Fr) (σ:AS):Prop:= ∃s1 g,aN prog s s1∧AS.le g σ∧I s1 g
def aq.J9 {n:Nat}{ds:List Deferred}{c y:Code}{Q j:AQ}{s:Fr}{σ:AS}(I:Fr→AS→Prop) (h1:aq prog n ds c (dF (J9 I) j) s σ) (l:∀s1 g,I s1 g→aq prog n ds y Q s1 g):aq prog n ds c (dF (aq prog n ds y Q) j) s σ:=
 aq.mono h1 fun e s σ h=>by
  cases e with
  |normal=>obtain⟨s1,g,g1,g2,g3⟩:=h;exact(l s1 g g3).weaken g1 g2
  |exit i=>exact h
  |ret=>exact h
  |panic v=>exact h
def XG (b:zY) (nl:Bool) (id bp i h a:Nat) (S:AS) (s1:Fr) (g:AS):Prop:=
 ∃(w id6 l:Nat) (en:Int),fW b a 2= .ok (en,l)∧S w=none∧S id6=none∧ ¬w=id6∧g id=some (bA b l nl)∧g w=some (.cells 94 (jl 6 .ai))∧g id6=some (.cells 63 [zI en,.fH w 0 6 6])∧
  (∀j,j≠id→ ∀y,S j=some y→g j=some y)∧s1=iO [(0,.ptr bp 0),(2,.ptr i 0),(4,.ptr h 0),(6,.ptr id6 0)]
def BY {b:zY}{mk:Nat} :∀ {g:zY}{a:Nat}{l:List Int}{i:Nat},gq b mk g a= .ok (l,i)→a≤b.length→i≤b.length:=by
 intro g;induction g with
 |nil=>intro a l i h ha;cases h;exact ha
 |cons k g o=>
  intro a l i h ha;rw[gq]at h;cases n:fW b a (wK k mk).toNat with
  |error e=>rw[n]at h;cases h
  |ok z=>
   obtain⟨v,q⟩:=z;rw[n]at h;simp only at h;obtain⟨y,w,u⟩:=fx n;cases j:gq b mk g q with
   |error e=>rw[j]at h;cases h
   |ok z=>obtain⟨E,F⟩:=z;rw[j]at h;cases h;exact o j (by omega)
def Ni {σ:AS}{id w g:Nat}{A v C u K q:bP}(h1:¬id=w) (E:¬id=g) (o:¬w=g):AS.le (((σ.set id A).set w C).set g K) ((((((σ.set id v).set w u).set g q).set id A).set g K).set w C):=by
 intro j y h;by_cases i:j=w
 ·subst i;simpa[AS.set,o]using h
 by_cases l:j=g
 ·subst l;simpa[AS.set,i]using h
 by_cases n:j=id
 ·subst n;simpa[AS.set,i,l]using h
 ·simpa[AS.set,i,l,n]using h
def TV {P:Program}{x g:AV}(h:AV.Wk P x g):∀(A C:List AV) (k:Nat),AV.Wk P ((A++x::C).getD k .any) ((A++g::C).getD k .any):=by
 intro A C;induction A with
 |nil=>
  intro k;cases k with
  |zero=>exact h
  |succ k=>exact Wk.refl _
 |cons a A i=>
  intro k;cases k with
  |zero=>exact Wk.refl _
  |succ k=>exact i k
def aq.EA {P:Program}{n:Nat}{ds:List Deferred}{Q:AQ}{s:Fr}{σ:AS}{c:Code}(l id:Nat) {e ty:TypeId}{m:Nat}(es:List AV) {cs cs2:List AV}(g:List AV) (o:¬l=id) (F:σ l=some (.cells ty cs2)) (h0:σ id=none) (hm:es.length=m)
 (hl:∀v∈es,v.cells.length=P.cellsOf e) (J:cs=aB es) (q:g.length=cs2.length)
 (H:∀k,k<g.length→ ∀(G G':Gh) (x:Value),G.Le G'→(∀y,aV P G (.fH id 0 m m) y→aV P G' (.ao e es .full false) y)→aV P G (cs2.getD k .any) x→aV P G' (g.getD k .any) x)
 (h:aq P n ds c Q s (σ.set l (.cells ty g))):aq P n ds c Q s (σ.set id (.cells e cs)):=by
 subst J;intro G0 G a w h1 i;obtain⟨G',hle,I,conv⟩:=i.inv.freeze h0 hm hl;obtain⟨b,vs,g1,g2,g3,K⟩:=i.inv.cells l ty cs2 (by simp[AS.set,o,F]);have E:=I.s8 F (hle.inj _ _ g1) g2 q (fun k u=>H k u G G' _ hle conv (K k (by omega)).1);exact h G0 G' a w (h1.trans hle) ⟨E,i.size,i.ds,fun j=>(i.rep j).mono hle⟩
def CI (A:List AV) (x:AV) (C:List AV):(A++x::C).getD A.length .any=x:=by simp[getD_eq_getElem?_getD]
def Mm (A:List AV) (x v:AV) (C:List AV):(A++x::C).set A.length v=A++v::C:=by
 induction A with
 |nil=>rfl
 |cons a A g=>simp[g]
def B1 {b:zY}{n:Nat} :∀ {m t a:Nat}{l:List Int}{j:Nat},jM b n m t a= .ok (l,j)→a≤b.length→(∀x∈l,0≤x∧x<65536)∧j≤b.length:=by
 intro m;induction m with
 |zero=>intro t a l j h ha;cases h;exact⟨by simp,ha⟩
 |succ m q=>
  intro t a l j h ha;rw[jM]at h;split at h
  ·cases o:fW b a 2 with
   |error e=>rw[o]at h;cases h
   |ok z=>
    obtain⟨v,E⟩:=z;rw[o]at h;simp only at h;obtain⟨G,u,F⟩:=fx o;cases i:jM b n m (t+1) E with
    |error e=>rw[i]at h;cases h
    |ok z=>
     obtain⟨w,y⟩:=z;rw[i]at h;cases h;obtain⟨i1,i2⟩:=q i (by omega);refine⟨fun x g=> ?_,i2⟩;rcases mem_cons.1 g with rfl|g
     ·have h1:=jb (cu b a 2);have H:=eC b a 2 (by omega) (by omega) (by omega);rw[show(cu b a 2).length=2 by omega,show(256:Int)^2=65536 by decide]at h1;rw[u];exact⟨ct _,h1⟩
     ·exact i1 x g
  ·cases i:jM b n m (t+1) a with
   |error e=>rw[i]at h;cases h
   |ok z=>
    obtain⟨w,y⟩:=z;rw[i]at h;cases h;obtain⟨i1,i2⟩:=q i ha;refine⟨fun x g=> ?_,i2⟩;rcases mem_cons.1 g with rfl|g
    ·omega
    ·exact i1 x g
def tV (l:List (List Int)):AV:=lV (l.map fun r=>(r,decide (r= [])),decide (l= []))
def Nw (T:List (List (List Int))):aB (T.map tV)=T.map tV:=by
 induction T with
 |nil=>rfl
 |cons l T g=>simp only[aB,map_cons,flatMap_cons]at g⊢;rw[g];rfl
def XE (b:zY) (nl:Bool) (g:Nat) (d:List Int) (bp id h j id6 w:Nat) (X:Except (Int×Int) (List (List (List Int))×Nat)) (S:AS) (m:Nat) (f:Fr) (i:AS):Prop:=
 ∃(t a:Nat) (T:List (List (List Int))),m=6-t∧t≤6∧a≤b.length∧T.length=t∧gd T (jK b g (d.drop t) t a)=X∧
  i=(S.set id (bA b a nl)).set w (.cells 94 (T.map tV++List.replicate (6-t) .ai))∧
  f=iO [(0,.ptr bp 0),(2,.ptr h 0),(6,.ptr id6 0),(33,.agg (d.map aS)),(34,zI t)]
def XF (b:zY) (nl:Bool) (g:Nat) (d:List Int) (t c:Nat) (T:List (List (List Int))) (bp id h id6 w j:Nat) (X:Except (Int×Int) (List (List Int)×Nat)) (S:AS) (m:Nat) (f:Fr) (l:AS):Prop:=
 ∃(i a:Nat) (L:List (List Int)),m=c-i∧i≤c∧a≤b.length∧L.length=i∧gd L (jL b g (bC (t:Int)) (c-i) a)=X∧
  l=((S.set id (bA b a nl)).set w (.cells 94 (T.map tV++ .ao 44 (L.map rQ) (.tok j) (decide (L= []))::List.replicate (5-t) .ai))).set j (.tok i)∧
  f=iO [(0,.ptr bp 0),(2,.ptr h 0),(6,.ptr id6 0),(7,zI t),(33,.agg (d.map aS)),(34,zI t),(38,zI c),(39,zI i)]
def XH (b:zY) (nl:Bool) (i:Nat) (bp id h g:Nat) (X:Except (Int×Int) (List Int×Nat)) (B:AS) (m:Nat) (f:Fr) (j:AS):Prop:=
 ∃(t a:Nat) (d:List Int),m=6-t∧t≤6∧a≤b.length∧d.length=t∧gd d (jM b i (6-t) t a)=X∧
  j=(B.set id (bA b a nl)).set g (.cells 230 ((d++List.replicate (6-t) 0).map aS))∧
  f=iO [(0,.ptr bp 0),(2,.ptr h 0),(3,zI i),(4,.ptr g 0),(16,zI t)]
def Yx (b:zY) (nl:Bool) (bp id:Nat) (σ:AS) (r:AV) (g:AS):Prop:= ∃v a mk,kL b= .ok (v,a)∧r=RZ v∧g=(σ.set bp (dH id b.length mk)).set id (bA b (a:Nat) nl)
def Oh (b:zY) (nl:Bool) (bp id:Nat) (σ:AS) (p:AV) (g:AS):Prop:= ∃e,kL b= .error e∧p=EB e.1 e.2∧ ∃a mk:Int,g=(σ.set bp (dH id b.length mk)).set id (bA b a nl)
def Oh.of {b:zY}{nl:Bool}{bp id:Nat}{σ S:AS}{e:Int×Int}(h:kL b= .error e) (a mk:Int) (hle:AS.le ((σ.set bp (dH id b.length mk)).set id (bA b a nl)) S):∃g,AS.le g S∧Oh b nl bp id σ (EB e.1 e.2) g:=
 ⟨_,hle,e,h,rfl,a,mk,rfl⟩
def DC (bp id:Nat) (b:zY) (nl:Bool) (j0:nl=true→b= []) (σ:AS) (hr:σ bp=some (dH id b.length 0)) (h:σ id=some (bA b 0 nl)) (hl:b.length≤100000):
 ad prog 105 [.ptr bp 0] σ (Yx b nl bp id σ) (Oh b nl bp id σ):=by
 have n:¬bp=id:=by rintro rfl;rw[hr]at h;simp[dH,bA]at h
 have bv:=aK n;refine ad.ob func105 ?_;refine gO cm tI tI ?_;intro I b3;have o:¬id=I:=nq h b3;have q:=aK o;have g:¬bp=I:=nq hr b3;have H:=aK g;cases dl:eR b 0 3 with
 |error e=>
  have hX:kL b= .error e:=by unfold kL;rw[dl]
  have hb:=fun σ hr h=>vO bp id 0 b 0 nl σ hr h (by omega) (by omega) 3 e dl;refine gO cm tI tI ?_;refine ag.DF (hb _ (by simp[g,hr]) (by simp[o,h])) ?_;intro x;simp-implicitDefEqProofs;refine Oh.of hX x 0 ?_;have F_:=(j2 (j7 @hr @h b3 n bv q o) (j4 @h H g @hr));intro j_ y_;refine gK F_ j_ id fun a9=>gK F_ j_ bp fun f5=>gK F_ j_ I fun f7=> ?_;intro av;simp[AS.set,a9,f5,f7]at av⊢;try exact av
 |ok z=>
  obtain⟨mk,a1⟩:=z;obtain⟨hV,ib⟩:=nI dl;obtain⟨q1,q2,q3⟩:=fx hV;have ho:0≤mk:=by rw[q2];exact ct _
  have hb:=fun σ hr h=>yF bp id 0 b 0 nl σ hr h (by omega) 3 mk a1 dl;simp only[dH]at hr;refine gO cm (j6 n o @h g @hr @dH.eq_1) @hb ?_;obtain⟨B,hw,hz,fe,hle⟩:∃B:AS,(((σ.set I (.cells 63 [zI 0,.ai])).set id (bA b a1 nl)).set bp (.cells 178 [.ptr id 0,zI b.length,zI mk]))=B.set id (bA b a1 nl)∧
   B I=some (.cells 63 [zI 0,.ai])∧B bp=some (dH id b.length mk)∧
   ∀(x:Int) (S:AS),S id=some (bA b x nl)→(∀j,j≠I→j≠id→ ∀y,B j=some y→S j=some y)→AS.le ((σ.set bp (dH id b.length mk)).set id (bA b x nl)) S:=by
   refine⟨((σ.set I (.cells 63 [zI 0,.ai])).set bp (dH id b.length mk)),?_,by simp[H],by simp,?_⟩
   ·funext j;by_cases e1:j=id
    ·subst e1;simp[AS.set,bv]
    ·simp[AS.set,e1,dH]
   ·intro x S hS hj j y F;by_cases e1:j=id
    ·subst e1;have:bA b x nl=y:=by simpa[AS.set]using F
     rw[hS,this]
    ·by_cases e2:j=bp
     ·subst e2;refine hj j g e1 y ?_;simpa[AS.set,e1]using F
     ·have he:σ j=some y:=by simpa[AS.set,e1,e2]using F
      have e3:j≠I:=nq b3 he;exact hj j e3 e1 y (by simp[AS.set,e2,e3,he])
  rw[hw];clear hw hb;obtain⟨u,rfl⟩:=Int.eq_ofNat_of_zero_le ho;cases ej:eR b a1 63 with
  |error e=>
   have hX:kL b= .error e:=by unfold kL;rw[dl];simp only;rw[ej]
   have hb:=vO bp id u b a1 nl _ (show(B.set id (bA b a1 nl)) bp= _ by simp[n];exact fe) (by simp) (by omega) (by omega) 63 e ej;refine gO cm tI tI ?_;refine ag.DF hb ?_;intro x;simp-implicitDefEqProofs;refine Oh.of hX x u (hle x _ (by simp) fun j a2 a3 y F=>by simp[AS.set,a3,F])
  |ok z=>
   obtain⟨th,a2⟩:=z;obtain⟨hQ,h9⟩:=nI ej;obtain⟨p1,p2,p3⟩:=fx hQ;have hg:0≤th:=by rw[p2];exact ct _
   obtain⟨cb,rfl⟩:=Int.eq_ofNat_of_zero_le hg;have hb:=yF bp id u b a1 nl _ (show(B.set id (bA b a1 nl)) bp= _ by simp[n];exact fe) (by simp) (by omega) 63 cb a2 ej;simp only[AS.set_set]at hb;refine gO cm tI @hb ?_;intro am ab db;have b0:=aK ab;have c1:¬bp=am:=nq fe db;have c3:¬I=am:=nq hz db;refine gO cm tI tI ?_;refine aq.dc (XH b nl cb bp id I am (jM b cb 6 0 a2) B) (k0:=6) ⟨0,a2,[],rfl,by omega,by omega,rfl,wI _,rfl,rfl⟩ (aN.mk (by simp)) (by simp[aF]) ?_;rintro m f σ' ⟨t,a,d,hm,ht,ha,hd,hX,hs,rfl⟩;have gI:σ' id=some (bA b a nl):=by rw[hs];simp[b0]
   have gR:σ' bp=some (dH id b.length u):=by rw[hs];simp[c1,n,fe]
   have g4:σ' am=some (.cells 230 ((d++List.replicate (6-t) 0).map aS)):=by rw[hs];simp
   have c8:∀(x:Int) (S:AS),S id=some (bA b x nl)→(∀j,j≠I→j≠id→j≠am→ ∀y,σ' j=some y→S j=some y)→AS.le ((σ.set bp (dH id b.length u)).set id (bA b x nl)) S:=by intro x S hS hj;refine hle x S hS fun j e1 e2 y F=> ?_;have e4:j≠am:=nq db F;exact hj j e1 e2 e4 y (by rw[hs];simp[AS.set,e2,e4,F])
   have O:kL b=match jM b cb 6 0 a2 with
    |.error e=> .error e
    |.ok (cs,a3)=>match fW b a3 2 with
     |.error e=> .error e
     |.ok (en,a4)=>match jK b u cs 0 a4 with
      |.error e=> .error e
      |.ok (T,a5)=> .ok ((en,T),a5):=by unfold kL;rw[dl];simp only;rw[ej];simp only[Int.toNat_natCast]
   by_cases d5:t<6
   ·have hT:((t:Int)<6)=True:=by simp;omega
    rw[show 6-t=(6-(t+1))+1 by omega,jM]at hX;have cj:=QM cb t d5 (by omega);have hn:List.replicate (6-t) (0:Int)=0::List.replicate (6-(t+1)) 0:=by rw[show 6-t=(6-(t+1))+1 by omega];rfl
    by_cases fz:cb/2^t%2=1
    ·rw[fz]at cj;rw[if_pos fz]at hX;cases hN:fW b a 2 with
     |error e=>
      rw[hN]at hX;simp only[gd]at hX;have ea:kL b= .error e:=by rw[O,←hX]
      have hb:=rN bp id u b a 2 nl σ' gR gI ha (by omega) rfl e hN;refine gO cm (j2 @hT @cj) tI ?_;refine ag.DF hb ?_;intro x;simp-implicitDefEqProofs;exact Oh.of ea x u (c8 x _ (by simp) fun j e1 e2 e3 y F=>by simp[AS.set,e2,F])
     |ok z=>
      obtain⟨v,a3⟩:=z;rw[hN]at hX;simp only at hX;rw[rU]at hX;obtain⟨z1,z2,z3⟩:=fx hN;have hb:=kY bp id u b a 2 nl σ' gR gI (by omega) rfl (by omega) v a3 hN;have h8:t<d.length+(6-t):=by omega
      refine gO cm (j4 @hT @cj @g4 ab) @hb ?_;refine⟨m-1,_,_,by omega,aN.mk (by simp[gW (show t<4000000000000000000 by omega)]),?_,t+1,a3,d++ [v],by omega,by omega,by omega,by simp[hd],hX,rfl,rfl⟩;have hc:List.take t (List.map aS d++List.replicate (6-t) (aS 0))++AV.sc (Value.int IntKind.i64 v)::List.drop (t+1) (List.map aS d++List.replicate (6-t) (aS 0))=List.map aS (d++ [v]++List.replicate (6-(t+1)) 0):=by have:=Gs (List.map aS d) (aS 0) (aS v) (List.replicate (6-(t+1)) (aS 0));rw[length_map,hd]at this;rw[show 6-t=(6-(t+1))+1 by omega,replicate_succ];rw[aF v]at this;rw[this];simp[aF]
      rw[hs,hc];have F_:=(j8 ab b0 q o @h H g @hr);intro j_ y_;refine gK F_ j_ id fun a9=>gK F_ j_ am fun f6=> ?_;intro av;simp[AS.set,a9,f6]at av⊢;try exact av
    ·have hI:cb/2^t%2=0:=by omega
     rw[hI]at cj;rw[if_neg fz,rU]at hX;refine gO cm (j2 @hT @cj) tI ?_;refine⟨m-1,_,_,by omega,aN.mk (by simp[gW (show t<4000000000000000000 by omega)]),lR _,t+1,a,d++ [0],by omega,by omega,ha,by simp[hd],hX,?_,rfl⟩;rw[hs,hn];simp
   ·have hT:((t:Int)<6)=False:=by simp;omega
    obtain rfl:t=6:=by omega
    have de:jM b cb 6 0 a2= .ok (d,a):=by rw[←hX];simp[jM,gd]
    rw[de]at O;simp only at O;simp only[Nat.sub_self,replicate_zero,append_nil]at g4 hs;obtain⟨hF,_⟩:=B1 de (by omega);clear hX hm de;simp only[dH]at gR;refine gO (S:= [10,16]) cm tI tI ?_;refine aq.J9 (XG b nl id bp I am a σ') ?_ ?_
    ·cases hN:fW b a 2 with
     |error e=>
      have ea:kL b= .error e:=by rw[O,hN]
      have hb:=fun σ hr h=>rN bp id u b a 2 nl σ hr h ha (by omega) rfl e hN;have lf:∀(x:Int) (S:AS),S id=some (bA b x nl)→(∀j,j≠id→ ∀y,σ' j=some y→S j=some y)→ ∃σ1,AS.le σ1 S∧Oh b nl bp id σ (EB e.1 e.2) σ1:=fun x S h1 h2=>Oh.of ea x u (c8 x S h1 fun j e1 e2 e3 y F=>h2 j e2 y F);clear O c8 hle hs
      (((with_reducible apply dX 10 jJ);refine dY mixed ?_);simp-implicitDefEqProofs)
      all_goals
       repeat' (first
        |(with_reducible apply j2)
        |((fail_if_success (have:=E));intro w1;(repeat (refine fun(_ :¬ _)=> ?_));intro E;have be:¬w1=id:=(by rintro rfl;rw[gI]at E;cases E);have al:¬id=w1:=(fun e=>be e.symm);have ce:¬bp=w1:=(by rintro rfl;rw[gR]at E;cases E);try simp-implicitDefEqProofs [be,al,ce,gI,gR])
        |(intro w2;(repeat (refine fun(_ :¬ _)=> ?_));intro J;have c7:¬w2=id:=(by rintro rfl;rw[gI]at J;cases J);have c6:¬id=w2:=(fun e=>c7 e.symm);have e7:¬bp=w2:=(by rintro rfl;rw[gR]at J;cases J);have c5:¬w2=w1:=(by assumption);have c4:¬w1=w2:=(fun e=>c5 e.symm);try simp-implicitDefEqProofs [be,al,ce,c7,c6,e7,c5,c4,gI,gR])
        |(refine ag.DF (hb _ (by first|(simp[dH,gR,ce,e7];done)|(simp[dH,gR,ce];done)|(simp[dH,gR];done)) (by first|(simp[gI,al,c6];done)|(simp[gI,al];done)|(simp[gI];done))) ?_;intro x;simp-implicitDefEqProofs))
      all_goals
       refine lf x _ (by simp) (fun j e y F=> ?_);first
        |(have m1:j≠w1:=(by rintro rfl;rw[E]at F;cases F)
          first
          |(have m2:j≠w2:=(by rintro rfl;rw[J]at F;cases F)
            simp[AS.set,e,m1,m2,F];done)
          |(simp[AS.set,e,m1,F];done))
        |(simp[AS.set,e,F];done)
     |ok z=>
      obtain⟨en,a4⟩:=z;have hb:=fun σ hr h=>kY bp id u b a 2 nl σ hr h (by omega) rfl (by omega) en a4 hN;clear O c8 hle hs
      (((with_reducible apply dX 10 jJ);refine dY mixed ?_);simp-implicitDefEqProofs)
      all_goals
       repeat' (first
        |(with_reducible apply j2)
        |((fail_if_success (have:=E));intro w1;(repeat (refine fun(_ :¬ _)=> ?_));intro E;have be:¬w1=id:=(by rintro rfl;rw[gI]at E;cases E);have al:¬id=w1:=(fun e=>be e.symm);have ce:¬bp=w1:=(by rintro rfl;rw[gR]at E;cases E);try simp-implicitDefEqProofs [be,al,ce,gI,gR])
        |(intro w2;(repeat (refine fun(_ :¬ _)=> ?_));intro J;have c7:¬w2=id:=(by rintro rfl;rw[gI]at J;cases J);have c6:¬id=w2:=(fun e=>c7 e.symm);have e7:¬bp=w2:=(by rintro rfl;rw[gR]at J;cases J);have c5:¬w2=w1:=(by assumption);have c4:¬w1=w2:=(fun e=>c5 e.symm);try simp-implicitDefEqProofs [al,c5,c4])
        |(refine ag.ay (hb _ (by first|(simp[dH,gR,ce,e7];done)|(simp[dH,gR,ce];done)|(simp[dH,gR];done)) (by first|(simp[gI,al,c6];done)|(simp[gI,al];done)|(simp[gI];done))) ?_;first|simp-implicitDefEqProofs [be,al,c7,c6,c5,c4]|simp-implicitDefEqProofs [be,al]|simp-implicitDefEqProofs))
      all_goals
       first
        |(refine⟨_,_,?_,lR _,w1,w2,a4,en,hN,E,J,c4,?_,?_,?_,fun j e y F=> ?_,rfl⟩
          ·apply aN.mk;simp;done
          ·simp[al,c6];done
          ·simp[c4,be];done
          ·simp[c7];done
          ·have m1:j≠w1:=(by rintro rfl;rw[E]at F;cases F);have m2:j≠w2:=(by rintro rfl;rw[J]at F;cases F);simp[AS.set,e,m1,m2,F];done)
        |(refine⟨_,_,?_,lR _,w2,w1,a4,en,hN,J,E,c5,?_,?_,?_,fun j e y F=> ?_,rfl⟩
          ·apply aN.mk;simp;done
          ·simp[al,c6];done
          ·simp[c7];done
          ·simp[c4,be];done
          ·have m1:j≠w1:=(by rintro rfl;rw[E]at F;cases F);have m2:j≠w2:=(by rintro rfl;rw[J]at F;cases F);simp[AS.set,e,m1,m2,F];done)
    ·rintro s1 σ1 ⟨w,id6,a4,en,hN,d9,c9,d7,sI,sW,s6,a0,rfl⟩;have b1:¬w=id:=nq gI d9;have ac:=aK b1;have X:¬id6=id:=nq gI c9;have d4:=aK X;have af:=aK d7;have cc:¬bp=w:=nq gR d9;have sR:=a0 bp n _ gR;have s4:=a0 am ab _ g4;rw[hN]at O;simp only at O;obtain⟨z1,z2,z3⟩:=fx hN;refine gO (S:= [10,16]) cm (j2 @s4 @hd) tI ?_;refine aq.dc (XE b nl u d bp id I am id6 w (jK b u d 0 a4) σ1) (k0:=6) ⟨0,a4,[],rfl,by omega,by omega,rfl,wI _,rfl,rfl⟩ (aN.mk ?_) ?_ ?_
     ·simp[take_of_length_le,hd]
     ·intro j y F;by_cases e1:j=w
      ·subst e1;rw[sW];simpa[AS.set,show jl 6 AV.ai=List.replicate 6 AV.ai from rfl]using F
      ·by_cases e2:j=id
       ·subst e2;rw[sI];simpa[AS.set,e1]using F
       ·simpa[AS.set,e1,e2]using F
     rintro m2 f σ2 ⟨t,a5,T,kb,jp,hK,ec,b5,b2,rfl⟩;have kI:σ2 id=some (bA b a5 nl):=by rw[b2];simp[ac]
     have kR:σ2 bp=some (.cells 178 [.ptr id 0,zI b.length,zI u]):=by rw[b2];simp[cc,n,sR]
     have kW:σ2 w=some (.cells 94 (T.map tV++List.replicate (6-t) .ai)):=by rw[b2];simp
     have k6:σ2 id6=some (.cells 63 [zI en,.fH w 0 6 6]):=by rw[b2];simp[af,X,s6]
     have g0:∀(x:Int) (Y:AS),Y id=some (bA b x nl)→(∀j,j≠I→j≠id→j≠am→j≠w→ ∀y,σ2 j=some y→Y j=some y)→AS.le ((σ.set bp (dH id b.length u)).set id (bA b x nl)) Y:=by intro x Y hY hj;refine c8 x Y hY fun j e1 e2 e3 y F=> ?_;have e4:j≠w:=nq d9 F;exact hj j e1 e2 e3 e4 y (by rw[b2];simp[AS.set,e2,e4,a0 j e2 y F])
     by_cases d5:t<6
     ·have eb:((t:Int)<6)=True:=by simp;omega
      have hi:t<d.length:=by omega
      have hG:=hF d[t] (getElem_mem hi);have hp:∀hh,(List.map aS d)[t]'hh=zI (d[t]):=fun hh=>by simp[aF]
      rw[drop_eq_getElem_cons hi,jK]at b5;obtain⟨c,hc⟩:=Int.eq_ofNat_of_zero_le hG.1;rw[hc]at b5 hp;simp only[Int.toNat_natCast]at b5;have hE:List.replicate (6-t) AV.ai= .ai::List.replicate (5-t) .ai:=by rw[show 6-t=(5-t)+1 by omega];rfl
      have fa:(T.map tV).length=t:=by simpa using ec
      rw[hE]at kW;refine aq.r9 w t 44 [] true kW (by simp[ec]) (.inr ⟨by have:=CI (T.map tV) AV.ai (List.replicate (5-t) AV.ai);rwa [fa]at this,rfl,rfl⟩) ?_;intro tk a8;have ft:=Mm (T.map tV) AV.ai (AV.ao 44 [] (.tok tk) true) (List.replicate (5-t) AV.ai);rw[fa]at ft;rw[ft];have K:¬id=tk:=nq kI a8;have Q:=aK K;have V:¬bp=tk:=nq kR a8;have bf:=aK V;have P:¬w=tk:=nq kW a8;have ar:=aK P;have M:¬id6=tk:=nq k6 a8;have bs:=aK M;refine gO (S:= [10,16]) cm (j4 @eb d5 @hp @hd) tI ?_;refine aq.dc (XF b nl u d t c T bp id I id6 w tk (jL b u (bC (t:Int)) c a5) σ2) (k0:=c) ⟨0,a5,[],by omega,by omega,hK,rfl,wI _,rfl,rfl⟩ (aN.mk ?_) ?_ ?_
      ·simp
      ·rw[map_nil,show decide (([]:List (List Int))= [])=true from rfl];have F_:=(j2 (j7 @kI q o @h H g @hr) (j2 (j7 Q K @kI bf V @kR ar) (j5 P @kW bs M @k6)));intro j_ y_;refine gK F_ j_ id fun a9=>gK F_ j_ w fun f4=>gK F_ j_ tk fun er=> ?_;intro av;simp[AS.set,a9,f4,er]at av⊢;try exact av
      rintro m3 f σ3 ⟨i,a6,L,j1,kl,f0,hL,b4,ch,rfl⟩;have jI:σ3 id=some (bA b a6 nl):=by rw[ch];simp[K,ac]
      have jR:σ3 bp=some (.cells 178 [.ptr id 0,zI b.length,zI u]):=by rw[ch];simp[V,cc,n,kR]
      have j6:σ3 id6=some (.cells 63 [zI en,.fH w 0 6 6]):=by rw[ch];simp[M,af,X,k6]
      have jT:σ3 tk=some (.tok L.length):=by rw[ch,hL];simp
      have jW:σ3 w=some (.cells 94 (T.map tV++ .ao 44 (L.map rQ) (.tok tk) (decide (L= []))::List.replicate (5-t) .ai)):=by rw[ch];simp[P]
      have gS:∀(x:Int) (Y:AS),Y id=some (bA b x nl)→(∀j,j≠I→j≠id→j≠am→j≠w→j≠tk→ ∀y,σ3 j=some y→Y j=some y)→AS.le ((σ.set bp (dH id b.length u)).set id (bA b x nl)) Y:=by intro x Y hY hj;refine g0 x Y hY fun j e1 e2 e3 e4 y F=> ?_;have e5:j≠tk:=nq a8 F;exact hj j e1 e2 e3 e4 e5 y (by rw[ch];simp[AS.set,e2,e4,e5,F])
      by_cases kk:i<c
      ·have fb:((i:Int)<c)=True:=by simp;omega
       obtain⟨CL,fd⟩:∃CL,T.map tV++ .ao 44 (L.map rQ) (.tok tk) (decide (L= []))::List.replicate (5-t) .ai=CL:=⟨_,rfl⟩;have em:CL.length=6:=by rw[←fd];simp[ec];omega
       have ek:∀hh,CL[t]'hh= .ao 44 (L.map rQ) (.tok tk) (decide (L= [])):=fun hh=>by have:=CI (T.map tV) (.ao 44 (L.map rQ) (.tok tk) (decide (L= []))) (List.replicate (5-t) .ai);rw[fa,fd,getD_eq_getElem?_getD,getElem?_eq_getElem hh]at this;exact this
       have hu:∀v,List.take t CL++v::List.drop (t+1) CL=T.map tV++v::List.replicate (5-t) .ai:=fun v=>by rw[←fd];have:=Gs (T.map tV) (.ao 44 (L.map rQ) (.tok tk) (decide (L= []))) v (List.replicate (5-t) .ai);rwa [fa]at this
       rw[fd]at jW;rw[show c-i=(c-(i+1))+1 by omega,jL]at b4;have ci:=vh bp id u (by omega) b a6 t nl σ3 jR jI f0 (by omega);cases eg:gq b u (bC (t:Int)) a6 with
       |error e=>
        rw[eg]at b4 ci;simp only[gd]at b4;have ea:kL b= .error e:=by rw[O,←b5,←b4];rfl
        have hb:ad prog 160 [.ptr bp 0,zI t] σ3 No (LB b nl id e σ3):=ci.mono (fun _ _ h=>by obtain⟨v,a,h,_⟩:=h;cases h) (fun _ _ h=>by obtain⟨e',h,h2⟩:=h;cases h;exact h2);refine gO (S:= [10,16]) cm @fb tI ?_
        (((with_reducible apply dX 16 jH);refine dY mixed ?_);simp-implicitDefEqProofs [j6,jW,eb,d5,em,ek])
        all_goals
         repeat' (first
          |(with_reducible apply j2)
          |(refine ag.DF hb ?_;intro x;simp-implicitDefEqProofs))
        all_goals
         exact Oh.of ea x u (gS x _ (by simp) fun j e1 e2 e3 e4 e5 y F=>by simp[AS.set,e2,F])
       |ok z=>
        obtain⟨l,a7⟩:=z;rw[eg]at b4 ci;simp only at b4;rw[rU]at b4;have hJ:=BY eg f0;have hb:ad prog 160 [.ptr bp 0,zI t] σ3 (ah (rQ l) (σ3.set id (bA b a7 nl))) No:=ci.mono (fun _ _ h=>by obtain⟨v,a,h,h2,h3⟩:=h;cases h;exact⟨h2,h3.symm⟩) (fun _ _ h=>by obtain⟨e',h,h2⟩:=h;cases h);simp only[rQ]at hb;have dl:L.length≤70000:=by omega
        have hZ:(L++ [l]).map rQ=L.map rQ++ [.ao 3 (l.map aS) .aI (decide (l= []))]:=by simp[rQ]
        have hW:decide (L++ [l]= [])=false:=by simp
        clear O c8 g0 gS hle hs ci;refine gO (S:= [10,16]) cm @fb tI ?_
        (((with_reducible apply dX 16 jH);refine dY mixed ?_);simp-implicitDefEqProofs [j6,jW,eb,d5,em,ek])
        all_goals
         repeat' (first
          |(with_reducible refine j2 (by omega) ?_)
          |(with_reducible apply j2)
          |(refine ag.ay hb ?_;simp-implicitDefEqProofs [j6,jW,jT,eb,d5,em,ek,X,b1,Q,P,M]))
        all_goals
         (with_reducible apply aq.region)
         simp-implicitDefEqProofs;refine⟨m3-1,_,_,by omega,aN.mk ?_,?_,i+1,a7,L++ [l],by omega,by omega,hJ,by simp[hL],b4,rfl,rfl⟩
         ·simp[gW (show i<4000000000000000000 by omega)]
         ·rw[hu,hZ,hW,ch,hL];exact Ni ac K P
      ·have fb:((i:Int)<c)=False:=by simp;omega
       obtain rfl:i=c:=by omega
       have de:jL b u (bC (t:Int)) i a5= .ok (L,a6):=by rw[←b4];simp[jL,gd]
       rw[de]at b5;simp only at b5;rw[rU]at b5;have hq:=f0;refine aq.Om w (T.map tV++tV L::List.replicate (5-t) .ai) jW (by simp) (fun k _ =>TV ?_ _ _ k) ?_
       ·simp only[tV,lV,map_map];exact(qh _ _ _ _).2 trivial
       refine gO (S:= [10,16]) cm @fb tI ?_;refine⟨m2-1,_,_,by omega,aN.mk (by simp[gW (show t<4000000000000000000 by omega)]),?_,t+1,a6,T++ [L],by omega,by omega,hq,by simp[ec],b5,rfl,rfl⟩;have k1:σ1 tk=none:=by rw[b2]at a8;simpa[AS.set,ar,Q]using a8
       rw[ch,b2,show(T++ [L]).map tV++List.replicate (6-(t+1)) AV.ai=T.map tV++tV L::List.replicate (5-t) .ai by rw[show 6-(t+1)=5-t by omega];simp];have F_:=(j2 (j7 @k1 ac b1 K Q P ar) (j2 (j7 q o @h H g @hr Q) (j2 (j7 K @kI bf V @kR ar P) (j4 @kW bs M @k6))));intro j_ y_;refine gK F_ j_ id fun a9=>gK F_ j_ w fun f4=>gK F_ j_ tk fun er=> ?_;intro av;simp[AS.set,a9,f4,er]at av⊢;try exact av
     ·have eb:((t:Int)<6)=False:=by simp;omega
      obtain rfl:t=6:=by omega
      have de:jK b u d 0 a4= .ok (T,a5):=by rw[←b5,drop_eq_nil_of_le (by omega)];simp[jK,gd]
      rw[de]at O;simp only at O;simp only[Nat.sub_self,replicate_zero,append_nil]at kW;obtain⟨R,hR⟩:∃R:AS,R=fun j=>if j=w then none else σ2 j:=⟨_,rfl⟩;have eg:R w=none:=by rw[hR];simp
      have ei:∀j,j≠w→R j=σ2 j:=fun j hj=>by rw[hR];simp[hj]
      have hP:σ2=R.set w (.cells 94 (T.map tV)):=by
       funext j;by_cases e:j=w
       ·subst e;simp[kW]
       ·simp[AS.set,e,ei j e]
      rw[hP];refine aq.EA id6 w (e:=94) (m:=6) (ty:=63) (cs2:= [zI en,.fH w 0 6 6]) (T.map tV) [zI en,.ao 94 (T.map tV) .full false] af (by rw[ei id6 af];exact k6) eg (by simpa using ec) (fun v hv=> ?_) (Nw T).symm rfl (fun k hk G G' x hle conv hx=> ?_) ?_
      ·obtain⟨l,_,rfl⟩:=mem_map.1 hv;simp[tV,lV]
      ·match k,hk with
       |0,_ =>exact hx.mono hle
       |1,_ =>exact conv _ hx
      have f3:σ' I=some (.cells 63 [zI 0,.ai]):=by rw[hs];simp[c3,q,hz]
      have c2:¬I=id6:=nq f3 c9;have cd:¬I=w:=nq f3 d9;have r2:R I=some (.cells 63 [zI 0,.ai]):=by rw[ei I cd,b2];simp[cd,q,a0 I q _ f3]
      refine gO (S:= [10,16]) cm (j2 @r2 c2) tI ?_;refine⟨RZ (en,T),(σ.set bp (dH id b.length u)).set id (bA b a5 nl),lu (Wk.refl _) ((qh _ _ _ _).2 trivial),?_,(en,T),a5,u,O,rfl,rfl⟩;refine c8 a5 _ ?_ (fun j e1 e2 e3 y F=> ?_)
      ·simp only[AS.set,o,d4,if_false];rw[ei id ac];exact kI
      ·have m1:j≠w:=nq d9 F;have m2:j≠id6:=nq c9 F;simp only[AS.set,e1,m2,if_false];rw[ei j m1,b2];simp[AS.set,e2,m1,a0 j e2 y F]
def Ds (S:List Nat):bH prog [(2,(.S 0 (.S 1 (.S 3 (.A 2 (.A 4 (.A 5 (.A 6 (.A 7 .D .Z) .Z) .Z) (.A 5 (.A 4 (.A 6 (.A 7 .D .Z) .Z) (.A 6 (.R 4 (.A 7 .D .Z)) .Z)) .Z)) (.A 4 (.A 2 (.A 5 (.A 6 (.A 7 .D .Z) .Z) .Z) (.A 5 (.R 2 (.A 6 (.A 7 .D .Z) .Z)) .Z)) (.A 5 (.R 2 (.A 4 (.A 6 (.A 7 .D .Z) .Z) (.A 6 (.R 4 (.A 7 .D .Z)) .Z))) .Z)))))))] S:=mixed
def my (b:zY):Option (Int×List (List (List Int)))×Int×Int:=
 match kL b with
 |.error e=>(none,e.1,e.2)
 |.ok (v,a)=>if a<b.length then(none,a,2)else(some v,0,0)
def Pe:Option (Int×List (List (List Int)))→AV
 |none=> .agg [zI 0,.ao 94 [] .aI true]
 |some v=>RZ v
def BR (n l j:Nat) (σ:AS) (K:AS→Prop) (i:∀id,σ id=none→K (σ.set id (.cells 174 [zI 0,zI 0]))):bX prog 104 [.ptr n 0,.ptr l 0,.ptr j 0] σ none K:=by
 refine bX.of func104 rfl rfl (by simp[ntmps104]) (by simp[ntmps104]) ?_;refine bq.sp rfl (ia.mH (by simp[ntmps104]) underlying174 trivial (by kernel_rfl) rfl ?_);refine bq.rest ?_;have h:ax prog 174= .agg [zI 0,zI 0]:=by kernel_rfl
 simp-implicitDefEqProofs [h,ntmps104];intro id g;refine gO aa tI tI ?_;exact i id g
def bo.Tn {K:AS→Prop} :bo (CS K):=fun _ _ _ _ h=>h.elim
def ux (j i h:Nat) (a e:Int) (J I H G:AV) (σ:AS) (K:AS→Prop) (F:σ j=some (.cells 63 [J,I])) (E:σ i=some (.cells 3 [H])) (y:σ h=some (.cells 31 [G])) (o:j≠i) (n:j≠h) (l:i≠h)
 (M:∀id,σ id=none→K ((((σ.set id (.cells 174 [zI a,zI e])).set j (.cells 63 [zI 0,.ai])).set i (.cells 3 [zI a])).set h (.cells 31 [zI e]))):
 bX prog 104 [.ptr j 0,.ptr i 0,.ptr h 0] σ (some (EB a e)) K:=by
 refine bX.of func104 rfl rfl (by simp[ntmps104]) (by simp[ntmps104]) ?_;refine bq.sp rfl (ia.oL (by simp[ntmps104]) underlying174 trivial rfl ?_);refine bq.rest ?_;simp-implicitDefEqProofs [ntmps104,EB,recV];intro id g;have w:¬j=id:=nq F g;have v:¬i=id:=nq E g;have L:¬h=id:=nq y g;have u:=aK w;have q:=aK v;refine gO (S:= [2]) Ds tI tI ?_
 with_reducible apply aq.iL (id:=2) (t:=(bW.S 0 (bW.S 1 (bW.S 3 (bW.A 2 (bW.A 4 (bW.A 5 (bW.A 6 (bW.A 7 bW.D bW.Z) bW.Z) bW.Z) (bW.A 5 (bW.A 4 (bW.A 6 (bW.A 7 bW.D bW.Z) bW.Z) (bW.A 6 (bW.R 4 (bW.A 7 bW.D bW.Z)) bW.Z)) bW.Z)) (bW.A 4 (bW.A 2 (bW.A 5 (bW.A 6 (bW.A 7 bW.D bW.Z) bW.Z) bW.Z) (bW.A 5 (bW.R 2 (bW.A 6 (bW.A 7 bW.D bW.Z) bW.Z)) bW.Z)) (bW.A 5 (bW.R 2 (bW.A 4 (bW.A 6 (bW.A 7 bW.D bW.Z) bW.Z) (bW.A 6 (bW.R 4 (bW.A 7 bW.D bW.Z)) bW.Z))) bW.Z)))))))
 ·exact mixed
 ·kernel_rfl
 ·kernel_rfl
 ·exact bo.Tn
 simp-implicitDefEqProofs [F,E,y,o.symm,n.symm,l.symm,w,v,L,u,q];all_goals exact M id g
def Jw {b:zY}{mk:Nat}{i:zY} :∀ {n a:Nat}{l:List (List Int)}{g:Nat},jL b mk i n a= .ok (l,g)→a≤b.length→g≤b.length:=by
 intro n;induction n with
 |zero=>intro a l g h ha;cases h;exact ha
 |succ n q=>
  intro a l g h ha;rw[jL]at h;cases o:gq b mk i a with
  |error e=>rw[o]at h;cases h
  |ok z=>
   obtain⟨v,w⟩:=z;rw[o]at h;simp only at h;have u:=BY o ha;cases j:jL b mk i n w with
   |error e=>rw[j]at h;cases h
   |ok z=>obtain⟨y,E⟩:=z;rw[j]at h;cases h;exact q j u
def Jv {b:zY}{mk:Nat} :∀ {cs:List Int}{t a:Nat}{l:List (List (List Int))}{g:Nat},jK b mk cs t a= .ok (l,g)→a≤b.length→g≤b.length:=by
 intro cs;induction cs with
 |nil=>intro t a l g h ha;cases h;exact ha
 |cons c cs n=>
  intro t a l g h ha;rw[jK]at h;cases j:jL b mk (bC (t:Int)) c.toNat a with
  |error e=>rw[j]at h;cases h
  |ok z=>
   obtain⟨v,q⟩:=z;rw[j]at h;simp only at h;have o:=Jw j ha;cases i:jK b mk cs (t+1) q with
   |error e=>rw[i]at h;cases h
   |ok z=>obtain⟨u,w⟩:=z;rw[i]at h;cases h;exact n i o
def B2 {b:zY}{v:Int×List (List (List Int))}{a:Nat}(h:kL b= .ok (v,a)):a≤b.length:=by
 unfold kL at h;cases h1:eR b 0 3 with
 |error e=>rw[h1]at h;cases h
 |ok z=>
  obtain⟨mk,w⟩:=z;rw[h1]at h;simp only at h;cases l:eR b w 63 with
  |error e=>rw[l]at h;cases h
  |ok z=>
   obtain⟨n,u⟩:=z;rw[l]at h;simp only at h;cases j:jM b n.toNat 6 0 u with
   |error e=>rw[j]at h;cases h
   |ok z=>
    obtain⟨cs,q⟩:=z;rw[j]at h;simp only at h;cases i:fW b q 2 with
    |error e=>rw[i]at h;cases h
    |ok z=>
     obtain⟨en,o⟩:=z;rw[i]at h;simp only at h;obtain⟨F,E,y⟩:=fx i;cases g:jK b mk.toNat cs 0 o with
     |error e=>rw[g]at h;cases h
     |ok z=>obtain⟨T,G⟩:=z;rw[g]at h;cases h;exact Jv g (by omega)
def mw (b:zY):(∃e,kL b= .error e∧my b=(none,e.1,e.2))∨(∃v a,kL b= .ok (v,a)∧((a<b.length∧my b=(none,(a:Int),2))∨(¬a<b.length∧my b=(some v,0,0)))):=by
 unfold my;cases h:kL b with
 |error e=>exact .inl ⟨e,rfl,rfl⟩
 |ok x=>
  obtain⟨v,a⟩:=x;refine .inr ⟨v,a,rfl,?_⟩;simp only;by_cases ha:a<b.length
  ·exact .inl ⟨ha,by rw[if_pos ha]⟩
  ·exact .inr ⟨ha,by rw[if_neg ha]⟩
def IC (b:zY) (o:cC) (nl:Bool) (a4:nl=true→b= []) (hl:b.length≤100000) (σ:AS):
 ad prog 46 [.ao 5 (b.map u8) o nl] σ (ah (.bI [Pe (my b).1,zI ((my b).2.1),zI ((my b).2.2)]) σ) No:=by
 refine ad.iZ func46 rfl rfl (by simp[ntmps46]) (fun G1=> ?_);apply kS.seq;have a3:f46.ntmps=29:=rfl;simp-implicitDefEqProofs only[a3];refine gO aa tI tI ?_;intro F af;refine gO aa tI tI ?_;intro id3 w ac;have n:=aK w;refine gO aa tI tI ?_;intro G H u ab;have g:=aK H;have i:=aK u;apply kS.defer (by simp) (by decide+kernel);intro D;simp-implicitDefEqProofs only[a3];refine gO aa tI tI ?_;obtain⟨B,be,ap,am,al,hle⟩:∃B:AS,(((σ.set F (.cells 63 [zI 0,.ai])).set id3 (.cells 3 [zI 0])).set G (.cells 31 [zI 0]))=B∧B F=some (.cells 63 [zI 0,.ai])∧B id3=some (.cells 3 [zI 0])∧B G=some (.cells 31 [zI 0])∧
  ∀S:AS,(∀j,j≠F→j≠id3→j≠G→ ∀y,B j=some y→S j=some y)→AS.le σ S:=by
  refine⟨_,rfl,by simp[n,i],by simp[g],by simp,?_⟩;intro S h j x J;have O:j≠F:=nq af J;have M:j≠id3:=nq ac J;have Q:j≠G:=nq ab J;exact h j O M Q x (by simp[AS.set,O,M,Q,J])
 simp only[be];clear be;refine ag.of (oB b o nl a4 (by omega) _) ?_ (fun _ _ h=>h.elim);rintro r σ1 ⟨id,T,rfl,rfl⟩;have m4:¬F=id:=nq ap T;have m5:¬id3=id:=nq am T;have m6:¬G=id:=nq al T;have a1:=aK m4;have cl:=aK m5;have ck:=aK m6;simp-implicitDefEqProofs;refine gO aa tI tI ?_;intro id5 I K;have L:=aK I;have q4:¬F=id5:=nq ap K;have q5:¬id3=id5:=nq am K;have q6:¬G=id5:=nq al K;have a0:=aK q4;have cj:=aK q5;have ci:=aK q6;obtain⟨C,a7,bc,bb,a9,b6,a8,X⟩:∃C:AS,((B.set id (bA b 0 nl)).set id5 (.cells 178 [.ptr id 0,zI b.length,zI 0]))=C∧C F=some (.cells 63 [zI 0,.ai])∧C id3=some (.cells 3 [zI 0])∧C G=some (.cells 31 [zI 0])∧C id5=some (dH id b.length 0)∧C id=some (bA b 0 nl)∧
  ∀S:AS,(∀j,j≠F→j≠id3→j≠G→j≠id→j≠id5→ ∀y,C j=some y→S j=some y)→AS.le σ S:=by
  refine⟨_,rfl,by simp[m4,q4,ap],by simp[m5,q5,am],by simp[m6,q6,al],by simp[dH],by simp[L],?_⟩;intro S h;refine hle S fun j O M Q y J=> ?_;have Y:j≠id:=nq T J;have e7:j≠id5:=nq K J;exact h j O M Q Y e7 y (by simp[AS.set,Y,e7,J])
 simp only[a7];clear a7 hle;have a2:=DC id5 id b nl a4 C b6 a8 hl;rcases mw b with⟨e,hE,V⟩|⟨v,a,hE,V⟩
 ·rw[V];refine gO aa tI tI ?_;refine ag.of a2 (fun r σ' hr=>by obtain⟨v,a,mk,h,_⟩:=hr;rw[hE]at h;cases h) ?_;rintro p σ' ⟨e',a6,rfl,x,mk,rfl⟩;rw[hE]at a6;cases a6;simp-implicitDefEqProofs;refine ux F id3 G e.1 e.2 (zI 0) .ai (zI 0) (zI 0) _ _ (by simp[m4,q4,bc]) (by simp[m5,q5,bb]) (by simp[m6,q6,a9]) n i g ?_;intro E q;have f1:¬E=id:=by rintro rfl;simp at q
  have f2:¬E=id5:=by rintro rfl;simp[AS.set,f1]at q
  have f3:C E=none:=by simpa[AS.set,f1,f2]using q
  simp-implicitDefEqProofs [n,i,g];refine⟨ju (lu (by simp) (by simp)) (by simp) (by simp),X _ fun j O M Q Y e7 y J=> ?_⟩;have e8:j≠E:=nq f3 J;simp[AS.set,O,M,Q,Y,e7,e8,J]
 ·have c0:∃mk:Int,True:=⟨0,trivial⟩;refine gO aa tI tI ?_;refine ag.of a2 ?_ (fun p σ' hp=>by obtain⟨e,h,_⟩:=hp;rw[hE]at h;cases h);rintro r σ' ⟨v',a',mk,h',rfl,rfl⟩;rw[hE]at h';cases h';have t5:((C.set id5 (dH id b.length mk)).set id (bA b a nl)) id5=some (.cells 178 [.ptr id 0,zI b.length,zI mk]):=by simp[I,dH]
  have tI:((C.set id5 (dH id b.length mk)).set id (bA b a nl)) id=some (bA b a nl):=by simp
  have t2:((C.set id5 (dH id b.length mk)).set id (bA b a nl)) F=some (.cells 63 [zI 0,.ai]):=by simp[m4,q4,bc]
  have t3:((C.set id5 (dH id b.length mk)).set id (bA b a nl)) id3=some (.cells 3 [zI 0]):=by simp[m5,q5,bb]
  have t4:((C.set id5 (dH id b.length mk)).set id (bA b a nl)) G=some (.cells 31 [zI 0]):=by simp[m6,q6,a9]
  have P:∀S:AS,(∀j,j≠F→j≠id3→j≠G→j≠id→j≠id5→ ∀y,((C.set id5 (dH id b.length mk)).set id (bA b a nl)) j=some y→S j=some y)→AS.le σ S:=fun S V=>X S fun j Y e2 e3 O M y J=>V j Y e2 e3 O M y (by simp[AS.set,O,M,J]);generalize (C.set id5 (dH id b.length mk)).set id (bA b a nl)=D0 at t5 tI t2 t3 t4 P⊢;simp only[RZ];have c1:=B2 hE;have a5:=fun σ h=>je id b a nl σ h (by omega) (by omega) (by omega);rcases V with⟨ha,V⟩|⟨ha,V⟩
  ·rw[V];have hp:((0:Int)<(b.length:Int)-a)=True:=by simp;omega
   have b5:=fun σ h=>pf id b a nl σ h;simp-implicitDefEqProofs [t2];refine gO aa (j5 @a1 @a0 @t5 @tI @ha) (j2 @a5 @b5) ?_;refine ux F id3 G a 2 (zI v.1) (.ao 94 (v.2.map fun l=>lV (l.map fun r=>(r,decide (r= [])),decide (l= []))) .aI false) (zI 0) (zI 0) _ _ (by simp) (by simp[w,t3]) (by simp[u,t4]) n i g ?_;intro E q;have f1:¬E=F:=by rintro rfl;simp at q
   have f3:D0 E=none:=by simpa[AS.set,f1]using q
   simp-implicitDefEqProofs [n,i,g];refine⟨ju (lu (by simp) (by simp)) (by simp) (by simp),P _ fun j O M Q Y e7 y J=> ?_⟩;have e8:j≠E:=nq f3 J;simp[AS.set,O,M,Q,e8,J]
  ·rw[V];simp-implicitDefEqProofs [t2];refine gO aa (j2 (j7 @a1 @a0 w u H @t3 @t4) (j3 @t5 @tI @ha)) @a5 ?_;refine BR _ _ _ _ _ ?_;intro E q;have f1:¬E=F:=by rintro rfl;simp[AS.set,n,i]at q
   have f2:¬E=id3:=by rintro rfl;simp[AS.set,g]at q
   have f4:¬E=G:=by rintro rfl;simp[AS.set]at q
   have cc:=aK f1;have cb:=aK f2;have ca:=aK f4;have f3:D0 E=none:=by simpa[AS.set,f1,f2,f4]using q
   simp-implicitDefEqProofs [n,i,g,cc,cb,ca];refine⟨ju (Wk.refl _) (Wk.refl _) (Wk.refl _),P _ fun j O M Q Y e7 y J=> ?_⟩;have e8:j≠E:=nq f3 J;simp[AS.set,O,M,Q,e8,J]
end Rw
end Go.Proofs.YtknalmoackcpbaaGreat
namespace Go.Proofs.YtknalmoackcpbaaGreat
namespace Im
def ag.gp {f:FuncId}{args:List AV}{σ g:AS}{v:AV}{K i:AV→AS→Prop}(h:ad prog f args σ No (ah v g)) (j:i v g):ag prog (.sc (.func (.func f) #[] #[])) args σ K i:=
 .of h (fun _ _ h=>h.elim) (fun r l h=>by obtain⟨rfl,rfl⟩:=h;exact j)
abbrev gD:=Int×Int×Int
def mF (e t r:Int):gD:=(e,5,t*65536+r)
def pQ (f:gD):AV:= .rM 99 (.agg [zI f.1,zI f.2.1,zI f.2.2])
def qG (e p a:Int) (σ:AS):ad prog 45 [zI e,zI p,zI a] σ No (ah (pQ (e,p,a)) σ):=by refine ad.ob func45 ?_;refine gO aa tI tI ?_;exact⟨σ,lR _,rfl,rfl⟩
def lg (e t r:Int) (σ:AS):ad prog 161 [zB true,zI e,zI t,zI r] σ (ah (.bI []) σ) No:=by refine ad.ob func161 ?_;exact gE aa tI tI
def ep (e t r:Int) (ht:0≤t) (h:t≤1000) (j:0≤r) (i:r≤1000000) (σ:AS):ad prog 161 [zB false,zI e,zI t,zI r] σ No (ah (pQ (mF e t r)) σ):=by show ad _ _ _ _ _ (ah (pQ (e,5,t*65536+r)) σ);have hf:=fun a σ=>qG e 5 a σ;have w1:zW (t*65536)=t*65536:=az (by omega) (by omega);have g:zW (t*65536+r)=t*65536+r:=az (by omega) (by omega);refine ad.ob func161 ?_;refine gO aa (j2 @w1 @g) @hf ?_;exact⟨σ,lR _,rfl,rfl⟩
def RL {α:Type}(x:Except gD α) (Q:α→AV→AS→Prop) (r:AV) (g:AS):Prop:= ∃v,x= .ok v∧Q v r g
def U6 (f:gD) (B:AS) (p:AV) (g:AS):Prop:=p=pQ f∧AS.le B g
def TL {α:Type}(x:Except gD α) (B:AS) (p:AV) (g:AS):Prop:= ∃f,x= .error f∧U6 f B p g
def RL.ok {α:Type}{f:FuncId}{args:List AV}{x:Except gD α}{Q:α→AV→AS→Prop}{B σ:AS}{v:α}(h:ad prog f args σ (RL x Q) (TL x B)) (g:x= .ok v):ad prog f args σ (Q v) No:=
 h.mono (fun r i j=>by obtain⟨o,h1,n⟩:=j;rw[g]at h1;cases h1;exact n) (fun p i l=>by obtain⟨e,h1,_⟩:=l;rw[g]at h1;cases h1)
def RL.bad {α:Type}{f:FuncId}{args:List AV}{x:Except gD α}{Q:α→AV→AS→Prop}{B σ:AS}{e:gD}(h:ad prog f args σ (RL x Q) (TL x B)) (g:x= .error e):ad prog f args σ No (U6 e B):=
 h.mono (fun r i j=>by obtain⟨o,h1,_⟩:=j;rw[g]at h1;cases h1) (fun p i l=>by obtain⟨e,h1,n⟩:=l;rw[g]at h1;cases h1;exact n)
def ag.DG {f:FuncId}{args:List AV}{x:gD}{σ B:AS}{K i:AV→AS→Prop}(h:ad prog f args σ No (U6 x B)) (j:∀g,AS.le B g→i (pQ x) g):ag prog (.sc (.func (.func f) #[] #[])) args σ K i:=
 .of h (fun _ _ h=>h.elim) (fun r g h=>by obtain⟨rfl,h⟩:=h;exact j g h)
def ed {x:gD}{B:AS}{i:AV→AS→Prop}(h:∀g,AS.le B g→i (pQ x) g):∀r g,U6 x B r g→i r g:=by rintro _ g ⟨rfl,j⟩;exact h g j
def bK {α:Type}(b:Bool) (e t r:Int) (k:Except gD α):Except gD α:=if b=true then k else .error (mF e t r)
def cA {α β:Type}(x:Except gD α) (k:α→Except gD β):Except gD β:=match x with|.error e=> .error e|.ok a=>k a
structure LE where
 R:zY
 rn:Bool
 N:zY
 nn:Bool
 B:zY
 bn:Bool
 C:zY
 cn:Bool
 en:Int
 t0:List (List Int)
 t1:List (List Int)
 t2:List (List Int)
 t3:List (List Int)
 t4:List (List Int)
 t5:List (List Int)
structure LD where
 sp:List Ty
 lo:List (List Ty)
 ty:AV
 fs:List Fd
 ms:List Mt
structure LK where
 id:Nat
 tP:Nat
 tO:Nat
 tF:Nat
 tM:Nat
def uW (r:List Int):AV:= .ao 3 (r.map aS) .aI (decide (r= []))
def kF (l:List (List Int)):AV:= .ao 44 (l.map uW) .aI (decide (l= []))
def Dy (k:LK) (e:LE) (d:LD) (n:Int):List AV:= [.ao 5 (e.R.map u8) .aI e.rn,.ao 5 (e.N.map u8) .aI e.nn,.ao 5 (e.B.map u8) .aI e.bn,.ao 5 (e.C.map u8) .aI e.cn,
 zI e.en,.ao 94 [kF e.t0,kF e.t1,kF e.t2,kF e.t3,kF e.t4,kF e.t5] .aI false,.ao 49 (d.sp.map cF) (.tok k.tP) (decide (d.sp= [])),.ao 47 (d.lo.map Sg.qo) (.tok k.tO) (decide (d.lo= [])),d.ty,
 .ao 56 (d.fs.map pR) (.tok k.tF) (decide (d.fs= [])),.ao 53 (d.ms.map kH) (.tok k.tM) (decide (d.ms= [])),zI n]
def cf (k:LK) (e:LE) (d:LD) (n:Int):Dy k e d n= [.ao 5 (e.R.map u8) .aI e.rn,.ao 5 (e.N.map u8) .aI e.nn,.ao 5 (e.B.map u8) .aI e.bn,.ao 5 (e.C.map u8) .aI e.cn,
 zI e.en,.ao 94 [kF e.t0,kF e.t1,kF e.t2,kF e.t3,kF e.t4,kF e.t5] .aI false,.ao 49 (d.sp.map cF) (.tok k.tP) (decide (d.sp= [])),.ao 47 (d.lo.map Sg.qo) (.tok k.tO) (decide (d.lo= [])),d.ty,
 .ao 56 (d.fs.map pR) (.tok k.tF) (decide (d.fs= [])),.ao 53 (d.ms.map kH) (.tok k.tM) (decide (d.ms= [])),zI n]:=rfl
def Vl (n:Nat) (r:List Int):Prop:=r.length=n∧ ∀v∈r,0≤v∧v<4294967296
def nD (n:Nat) (l:List (List Int)):Prop:=l.length≤65535∧ ∀r∈l,Vl n r
structure U8 (e:LE):Prop where
 N:e.N.length≤65536
 B:e.B.length≤65536
 C:e.C.length≤65536
 nn:e.nn=true→e.N= []
 bn:e.bn=true→e.B= []
 cn:e.cn=true→e.C= []
 en:0≤e.en∧e.en<4294967296
 t0:nD 5 e.t0
 t1:nD 3 e.t1
 t2:nD 6 e.t2
 t3:nD 2 e.t3
 t4:nD 1 e.t4
 t5:nD 1 e.t5
structure LI (k:LK) (e:LE) (d:LD) (B τ:AS):Prop where
 id:τ k.id=some (.cells 108 (Dy k e d 0))
 tP:τ k.tP=some (.tok d.sp.length)
 tO:τ k.tO=some (.tok d.lo.length)
 tF:τ k.tF=some (.tok d.fs.length)
 tM:τ k.tM=some (.tok d.ms.length)
 le:AS.le B τ
 nd: [k.id,k.tP,k.tO,k.tF,k.tM].Nodup
 fr:∀j∈ [k.id,k.tP,k.tO,k.tF,k.tM],B j=none
 e:U8 e
variable {k:LK} {e:LE} {d:LD} {B τ:AS}
def LI.ne (h:LI k e d B τ):k.id≠k.tP∧k.id≠k.tO∧k.id≠k.tF∧k.id≠k.tM∧k.tP≠k.tO∧k.tP≠k.tF∧k.tP≠k.tM∧k.tO≠k.tF∧k.tO≠k.tM∧k.tF≠k.tM:=by have:=h.nd;simp only[nodup_cons,mem_cons,not_or,not_mem_nil,not_false_eq_true,and_true]at this;obtain⟨⟨v,u,q,o⟩,⟨n,l,j⟩,⟨i,g⟩,d1,_⟩:=this;exact⟨v,u,q,o,n,l,j,i,g,d1⟩
def LI.OO (h:LI k e d B τ):B k.id=none∧B k.tP=none∧B k.tO=none∧B k.tF=none∧B k.tM=none:=⟨h.fr _ (by simp),h.fr _ (by simp),h.fr _ (by simp),h.fr _ (by simp),h.fr _ (by simp)⟩
def LI.own (h:LI k e d B τ) {i:Nat}{b:bP}(n:τ i=none):LI k e d (B.set i b) (τ.set i b):=by
 have o:∀j,τ j≠none→j≠i:=fun j g=>by rintro rfl;exact g n
 have l:∀ {j},j∈ [k.id,k.tP,k.tO,k.tF,k.tM]→j≠i:=by
  intro j g;simp only[mem_cons,not_mem_nil,or_false]at g;rcases g with rfl|rfl|rfl|rfl|rfl
  ·exact o _ (by rw[h.id];simp)
  ·exact o _ (by rw[h.tP];simp)
  ·exact o _ (by rw[h.tO];simp)
  ·exact o _ (by rw[h.tF];simp)
  ·exact o _ (by rw[h.tM];simp)
 refine⟨?_,?_,?_,?_,?_,kh h.le,h.nd,fun j g=> ?_,h.e⟩
 ·rw[AS.ae _ _ (l (by simp))];exact h.id
 ·rw[AS.ae _ _ (l (by simp))];exact h.tP
 ·rw[AS.ae _ _ (l (by simp))];exact h.tO
 ·rw[AS.ae _ _ (l (by simp))];exact h.tF
 ·rw[AS.ae _ _ (l (by simp))];exact h.tM
 ·rw[AS.ae _ _ (l g)];exact h.fr j g
def LI.drop {B':AS}(h:LI k e d B τ) (hle:AS.le B' B):LI k e d B' τ:=
 ⟨h.id,h.tP,h.tO,h.tF,h.tM,AS.le_trans hle h.le,h.nd,fun j i=>(by
  cases g:B' j with
  |none=>rfl
  |some y=>have:=hle j y g;rw[h.fr j i]at this;cases this),h.e⟩
def LI.mD (h:LI k e d B τ) {i:Nat}(j:τ i=none):B i=none:=by
 cases g:B i with
 |none=>rfl
 |some y=>have:=h.le i y g;rw[j]at this;cases this
def LI.wr (h:LI k e d B τ) {i:Nat}{x b:bP}(n:B i=some x):LI k e d (B.set i b) (τ.set i b):=by
 have g:∀ {j},j∈ [k.id,k.tP,k.tO,k.tF,k.tM]→j≠i:=by intro j l o;rw[o]at l;rw[h.fr i l]at n;cases n
 refine⟨?_,?_,?_,?_,?_,kh h.le,h.nd,fun j l=> ?_,h.e⟩
 ·rw[AS.ae _ _ (g (by simp))];exact h.id
 ·rw[AS.ae _ _ (g (by simp))];exact h.tP
 ·rw[AS.ae _ _ (g (by simp))];exact h.tO
 ·rw[AS.ae _ _ (g (by simp))];exact h.tF
 ·rw[AS.ae _ _ (g (by simp))];exact h.tM
 ·rw[AS.ae _ _ (g l)];exact h.fr j l
def LI.mk' (h:LI k e d B τ) {l:LD}{i:AS}(n:i k.id=some (.cells 108 (Dy k e l 0))) (q:i k.tP=some (.tok l.sp.length)) (u:i k.tO=some (.tok l.lo.length)) (w:i k.tF=some (.tok l.fs.length))
 (v:i k.tM=some (.tok l.ms.length)) (o:∀j,j≠k.id→j≠k.tP→j≠k.tO→j≠k.tF→j≠k.tM→i j=τ j):LI k e l B i:=by
 refine⟨n,q,u,w,v,fun j b g=> ?_,h.nd,h.fr,h.e⟩;obtain⟨f0,f1,f2,f3,f4⟩:=h.OO;rw[o j (by rintro rfl;rw[f0]at g;cases g) (by rintro rfl;rw[f1]at g;cases g) (by rintro rfl;rw[f2]at g;cases g) (by rintro rfl;rw[f3]at g;cases g) (by rintro rfl;rw[f4]at g;cases g)];exact h.le j b g
def kO (N:zY) (g:Int):Except gD (zY):=if (Pl.jc N g).2=0 then .ok (Pl.jc N g).1 else .error ((Pl.jc N g).2,2,g)
def iF (B:zY) (g:Int):Except gD (zY):=if (Pl.jr B g).2=0 then .ok (Pl.jr B g).1 else .error ((Pl.jr B g).2,3,g)
def LI.name (h:LI k e d B τ) (g:Int) (h0:0≤g) (h1:g<4294967296):
 ad prog 166 [.ptr k.id 0,zI g] τ (RL (kO e.N g) (fun v=>ah (zS v) τ)) (TL (kO e.N g) τ):=by
 have j:=fun σ=>Pl.M5 e.N e.nn .aI g (by have:=h.e.N;omega) (by omega) (by omega) σ;have i:=h.id;have hf:=fun x σ=>qG x 2 g σ;unfold kO;generalize Pl.jc e.N g=y at j⊢;obtain⟨o,n⟩:=y;rw[cf]at i;refine ad.ob func166 ?_;by_cases l:n=0
 ·refine gO aa (j2 @l @i) @j ?_;exact⟨_,τ,Wk.refl _,lR _,o,by simp,rfl,rfl⟩
 ·refine gO aa (j2 @l @i) (j2 @j @hf) ?_;exact⟨τ,lR _,_,by simp,rfl,lR _⟩
def LI.yx (h:LI k e d B τ) (g:Int):
 ad prog 163 [.ptr k.id 0,zI g] τ (RL (iF e.B g) (fun v=>ah (.ao 5 (v.map u8) .aI false) τ)) (TL (iF e.B g) τ):=by
 have j:=fun σ=>Pl.NV e.B e.bn .aI g h.e.bn (by have:=h.e.B;omega) σ;have i:=h.id;have hf:=fun x σ=>qG x 3 g σ;unfold iF;generalize Pl.jr e.B g=y at j⊢;obtain⟨o,n⟩:=y;rw[cf]at i;refine ad.ob func163 ?_;by_cases l:n=0
 ·refine gO aa (j2 @l @i) @j ?_;exact⟨_,τ,Wk.refl _,lR _,o,by simp,rfl,rfl⟩
 ·refine gO aa (j2 @l @i) (j2 @j @hf) ?_;exact⟨τ,lR _,_,by simp,rfl,lR _⟩
end Im
end Go.Proofs.YtknalmoackcpbaaGreat
