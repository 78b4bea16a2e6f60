/- Chapter 10: a clause as bytes tell it: the program's Raw. -/
import Derived.Test.YtknalmoackcpbaaGreatReg7
set_option maxRecDepth 100000
set_option maxHeartbeats 3200000
set_option linter.all false
open Go Go.AW Go.Proofs.Tryz List
namespace Go.Proofs.YtknalmoackcpbaaGreat
namespace Im
abbrev ij:bW:=(.S 0 (.S 2 (.S 3 (.S 6 (.S 7 (.R 4 (.U 5 (.R 8 (.U 9 (.R 1 (.S 10 (.A 11 .D .Z))))))))))))
abbrev ig:bW:=(.S 0 (.S 1 (.S 4 (.S 7 (.S 8 (.S 11 (.R 2 (.U 3 (.R 9 (.U 10 (.R 5 (.S 6 (.R 12 (.S 13 (.S 14 (.A 15 (.S 16 (.A 17 .D .Z)) .Z))))))))))))))))
def zF (S:List Nat):bH prog [(3,ij),(4,ig)] S:=mixed
open Rg (Cl fY aL)
open Bd (R6 dj sQ cD cy)
def dS (P:List Int) (c:Cl):R6:=
 ⟨c.k,P.getD c.tf.toNat 0,P.getD c.tt.toNat 0-P.getD c.tf.toNat 0,P.getD c.hf.toNat 0,P.getD c.ht.toNat 0-P.getD c.hf.toNat 0,if c.k=2 then P.getD c.fl.toNat 0 else 0⟩
def bo.no:bo Bd.Vw:=Bd.bo.no
theorem H4 (P:List Int) (o:cC) (nl:Bool) (x:Int) (h0:0≤x) (h1:x<P.length) (hl:P.length≤1000000) (σ:AS):
 ad prog 241 [.ao 3 (P.map aS) o nl,zI x] σ (ah (zI (P.getD x.toNat 0)) σ) No:=by
 obtain⟨n,rfl⟩:∃n:Nat,x=n:=⟨x.toNat,by omega⟩;have h:n<P.length:=by omega
 have i:P[n]? =some (P.getD n 0):=by rw[List.getD_eq_getElem?_getD,List.getElem?_eq_getElem h];rfl
 simp only[Int.toNat_natCast];generalize P.getD n 0=v at i⊢;obtain⟨_,g⟩:=List.getElem?_eq_some_iff.1 i;have d:=fun σ=>cD 12 σ;have j:((n:Int)<P.length)=True:=eq_true (by omega);refine ad.ob func241 ?_;exact gE aa (j4 @j @h @g @aF) @d
def zt (x:Int) (σ:AS):ad prog 240 [zI x] σ (ah (.sc (.bool (decide (1≤x∧x≤4)))) σ) No:=by
 refine ad.ob func240 ?_;by_cases h1:1≤x
 ·by_cases d:x≤4
  ·exact gE aa (j2 @h1 @d) tI;all_goals exact gJ (j2 @h1 @d)
  ·exact gE aa (j2 @h1 @d) tI;all_goals exact gJ (j2 @h1 @d)
 ·exact gE aa @h1 tI;all_goals exact gJ @h1
def yQ (i h:Nat) (σ:AS) (K:AS→Prop) (g:K σ):bX prog 238 [.ptr i 0,.ptr h 0] σ none K:=by
 refine bX.of func238 rfl rfl (by simp[ntmps238]) (by simp[ntmps238]) ?_;refine bq.sp rfl (ia.mH (by simp[ntmps238]) underlying316 trivial (by kernel_rfl) rfl ?_);refine bq.rest ?_;have d:ax prog 316=zI 0:=by kernel_rfl
 simp-implicitDefEqProofs [d,ntmps238];refine gO aa tI tI ?_;exact g
structure Ol (P:List Int) (c:Cl):Prop where
 k:1≤c.k∧c.k≤4
 tf:0≤c.tf∧c.tf<P.length
 tt:0≤c.tt∧c.tt<P.length
 hf:0≤c.hf∧c.hf<P.length
 ht:0≤c.ht∧c.ht<P.length
 fl:c.k=2→0≤c.fl∧c.fl+1<P.length
 tl:0<P.getD c.tt.toNat 0-P.getD c.tf.toNat 0
 hl:0<P.getD c.ht.toNat 0-P.getD c.hf.toNat 0
 bd:∀i,0≤P.getD i 0∧P.getD i 0≤65535
def NS (P:List Int) (o:cC) (nl:Bool) (c:Cl) (h:Ol P c) (hl:P.length≤1000000) (σ:AS):
 ad prog 188 [.ao 3 (P.map aS) o nl,fY c] σ (ah (.bI [dj (dS P c),.sc (.int .i64 0)]) σ) No:=by
 have X:=fun x h0 h1 σ=>H4 P o nl x h0 h1 hl σ;have I:∀σ,ad prog 240 [.sc (.int .i64 c.k)] σ (ah (.sc (.bool true)) σ) No:=fun σ=>by have:=zt c.k σ;rwa [show decide (1≤c.k∧c.k≤4)=true by simp;exact h.k]at this
 have l:=fun σ=>cD 12 σ;refine ad.iZ func188 rfl rfl (by simp[ntmps188]) (fun G1=> ?_);simp only[aL];apply kS.seq;have Y:f188.ntmps=63:=rfl;simp-implicitDefEqProofs only[Y];refine gO zF tI tI ?_;intro id3 L;intro a6;intro q K;have d:=aK q;intro id5;intro g n J;have i:=aK g;have u:=aK n;obtain⟨A,ac,v,ab,M,a1,H⟩:=OG σ (.cells 158 [.sc (.int .i64 c.k),.sc (.int .i64 c.tf),.sc (.int .i64 c.tt),.sc (.int .i64 c.hf),.sc (.int .i64 c.ht),.sc (.int .i64 c.fl),.sc (.int .i64 c.a),.sc (.int .i64 c.b),.sc (.int .i64 c.c),.sc (.bool c.r)]) (.cells 221 [.sc (.int .i64 0),.sc (.int .i64 0),.sc (.int .i64 0),.sc (.int .i64 0),.sc (.int .i64 0),.sc (.int .i64 0)]) (.cells 31 [.sc (.int .i64 0)]) L K J d u i;simp only[ac];clear ac;apply kS.defer (by simp) (by decide+kernel);intro D;simp-implicitDefEqProofs only[Y];have b1:=h.bd c.tf.toNat;have b2:=h.bd c.tt.toNat;have b3:=h.bd c.hf.toNat;have b4:=h.bd c.ht.toNat;have G:=X c.tf h.tf.1 h.tf.2;have F:=X c.tt h.tt.1 h.tt.2;have E:=X c.hf h.hf.1 h.hf.2;have w:=X c.ht h.ht.1 h.ht.2;have t1:=h.tl;have t2:=h.hl;have w1:IntKind.i64.wrap (P.getD c.tt.toNat 0-P.getD c.tf.toNat 0)=P.getD c.tt.toNat 0-P.getD c.tf.toNat 0:=az (by omega) (by omega);have w2:IntKind.i64.wrap (P.getD c.ht.toNat 0-P.getD c.hf.toNat 0)=P.getD c.ht.toNat 0-P.getD c.hf.toNat 0:=az (by omega) (by omega);have hR:dS P c=⟨c.k,P.getD c.tf.toNat 0,P.getD c.tt.toNat 0-P.getD c.tf.toNat 0,P.getD c.hf.toNat 0,P.getD c.ht.toNat 0-P.getD c.hf.toNat 0,if c.k=2 then P.getD c.fl.toNat 0 else 0⟩:=rfl;generalize P.getD c.tf.toNat 0=p1 at*;generalize P.getD c.tt.toNat 0=p2 at*;generalize P.getD c.hf.toNat 0=p3 at*;generalize P.getD c.ht.toNat 0=p4 at*;refine gO zF @v (j2 @I @l) ?_;have T:p1<p2:=by omega
 have Q:p3<p4:=by omega
 apply Bd.aq.sure
 (((with_reducible apply aq.iL (id:=3) (t:=ij));(exact mixed);kernel_rfl;kernel_rfl;(repeat (with_reducible first|apply bo.then|apply bo.block|apply bo.body|apply bo.no)));simp-implicitDefEqProofs [v])
 repeat' (first
  |(with_reducible first|apply aq.seq|apply aq.block|refine j2 (by first|omega|assumption|decide) ?_)
  |((first|(with_reducible first|apply aq.fork|apply aq.region|show cJ _ _ _ |show bx _ _ _ _ _ _ _ _ _)|((with_reducible apply aq.iL (id:=3) (t:=ij));(exact mixed);kernel_rfl;kernel_rfl;(repeat (with_reducible first|apply bo.then|apply bo.block|apply bo.body|apply bo.no)))|((with_reducible apply aq.iL (id:=4) (t:=ig));(exact mixed);kernel_rfl;kernel_rfl;(repeat (with_reducible first|apply bo.then|apply bo.block|apply bo.body|apply bo.no)))|((with_reducible apply ag.id);first|apply ag.ay (I _)|apply ag.ay (l _)|apply ag.ay (G _)|apply ag.ay (F _)|apply ag.ay (E _)|apply ag.ay (w _))|((with_reducible apply aD.id);first|apply aD.ay (fun _ =>I _)|apply aD.ay (fun _ =>l _)|apply aD.ay (fun _ =>G _)|apply aD.ay (fun _ =>F _)|apply aD.ay (fun _ =>E _)|apply aD.ay (fun _ =>w _)));simp-implicitDefEqProofs [v,ab])
  |trivial
  |(with_reducible apply j2)
  |((with_reducible first|apply aq.ret|apply aq.skip|apply aq.exit);try simp-implicitDefEqProofs [w1,w2,t1,t2,d,q,g,i,n,u,v,ab,M]))
 apply Bd.aq.sure
 (((with_reducible apply aq.iL (id:=4) (t:=ig));(exact mixed);kernel_rfl;kernel_rfl;(repeat (with_reducible first|apply bo.then|apply bo.block|apply bo.body|apply bo.no)));simp-implicitDefEqProofs [d,v])
 by_cases O:c.k=2
 ·have hf:=h.fl O;have V:=X c.fl hf.1 (by omega);have ap:((c.fl:Int)<(P.length:Int)-1)=True:=eq_true (by omega);have am:IntKind.i64.wrap ((P.length:Int)-1)=(P.length:Int)-1:=az (by omega) (by omega);rw[if_pos O]at hR;generalize P.getD c.fl.toNat 0=p5 at*
  repeat' (first
   |(with_reducible first|apply aq.seq|apply aq.block|refine j2 (by first|omega|assumption|decide) ?_)
   |((first|(with_reducible first|apply aq.fork|apply aq.region|show cJ _ _ _ |show bx _ _ _ _ _ _ _ _ _)|((with_reducible apply aq.iL (id:=3) (t:=ij));(exact mixed);kernel_rfl;kernel_rfl;(repeat (with_reducible first|apply bo.then|apply bo.block|apply bo.body|apply bo.no)))|((with_reducible apply aq.iL (id:=4) (t:=ig));(exact mixed);kernel_rfl;kernel_rfl;(repeat (with_reducible first|apply bo.then|apply bo.block|apply bo.body|apply bo.no)))|((with_reducible apply ag.id);first|apply ag.ay (I _)|apply ag.ay (l _)|apply ag.ay (G _)|apply ag.ay (F _)|apply ag.ay (E _)|apply ag.ay (w _)|apply ag.ay (V _))|((with_reducible apply aD.id);first|apply aD.ay (fun _ =>I _)|apply aD.ay (fun _ =>l _)|apply aD.ay (fun _ =>G _)|apply aD.ay (fun _ =>F _)|apply aD.ay (fun _ =>E _)|apply aD.ay (fun _ =>w _)|apply aD.ay (fun _ =>V _)));simp-implicitDefEqProofs [w1,w2,T,Q,O,ap,am,d,g,v,M])
   |trivial
   |(with_reducible apply j2)
   |((with_reducible first|apply aq.ret|apply aq.skip|apply aq.exit);try simp-implicitDefEqProofs))
  refine yQ _ _ _ _ ?_;simp-implicitDefEqProofs [i,hR,dj,O];exact H _ fun j e3 e4 e5 y hj=>by simp[AS.set,e4,e5,hj]
 ·rw[if_neg O]at hR
  repeat' (first
   |(with_reducible first|apply aq.seq|apply aq.block|refine j2 (by first|omega|assumption|decide) ?_)
   |((first|(with_reducible first|apply aq.fork|apply aq.region|show cJ _ _ _ |show bx _ _ _ _ _ _ _ _ _)|((with_reducible apply aq.iL (id:=3) (t:=ij));(exact mixed);kernel_rfl;kernel_rfl;(repeat (with_reducible first|apply bo.then|apply bo.block|apply bo.body|apply bo.no)))|((with_reducible apply aq.iL (id:=4) (t:=ig));(exact mixed);kernel_rfl;kernel_rfl;(repeat (with_reducible first|apply bo.then|apply bo.block|apply bo.body|apply bo.no)))|((with_reducible apply ag.id);first|apply ag.ay (I _)|apply ag.ay (l _)|apply ag.ay (G _)|apply ag.ay (F _)|apply ag.ay (E _)|apply ag.ay (w _))|((with_reducible apply aD.id);first|apply aD.ay (fun _ =>I _)|apply aD.ay (fun _ =>l _)|apply aD.ay (fun _ =>G _)|apply aD.ay (fun _ =>F _)|apply aD.ay (fun _ =>E _)|apply aD.ay (fun _ =>w _)));simp-implicitDefEqProofs [w1,w2,T,Q,O,d,g,v,M])
   |trivial
   |(with_reducible apply j2)
   |((with_reducible first|apply aq.ret|apply aq.skip|apply aq.exit);try simp-implicitDefEqProofs))
  refine yQ _ _ _ _ ?_;simp-implicitDefEqProofs [i,hR,dj];exact H _ fun j e3 e4 e5 y hj=>by simp[AS.set,e4,e5,hj]
end Im
namespace Sg
def del (τ:AS) (i:Nat):AS:=fun j=>if j=i then none else τ j
def NJ {τ:AS}{i:Nat}{x:bP}(h:τ i=some x):(del τ i).set i x=τ:=by
 funext j;by_cases e:j=i
 ·subst e;simp[AS.set,h]
 ·simp[AS.set,del,e]
def wV {σ τ:AS}{i:Nat}(h:AS.le σ τ) (h0:σ i=none):AS.le σ (del τ i):=by
 intro j y d;by_cases e:j=i
 ·subst e;rw[h0]at d;cases d
 ·simp[del,e];exact h _ _ d
def Su {l:zY}{g:Nat}{nl:Bool}{t:Ty}{τ:AS}{K u:AV→AS→Prop}(i:nl=true→l= []) (hl:l.length≤1000) (ht:aP t=true) (h:τ g=some (.tok l.length))
 (n:∀d,(del τ g) d=none→K (.ao 5 ((l++hU t).map u8) (.tok d) false) ((del τ g).set d (.tok (l++hU t).length))):
 ag prog (.sc (.func (.func 135) #[] #[])) [.ao 5 (l.map u8) (.tok g) nl,.agg [zI t.kind,zI t.index,zI t.bT,.sc (.bool t.ref)]] τ K u:=by
 have j:=FG l g nl i hl t ht (del τ g) (by simp[del]);rw[NJ h]at j;exact .of j (fun r v ⟨d,h1,q,o⟩=>by subst q;subst o;exact n d h1) (fun _ _ h=>h.elim)
def preB (c:UInt8) (l:List Ty) (i:Nat):zY:=c::(bh l.length++(l.take i).flatMap hU)
def yU (c:UInt8) (l:List Ty) {i:Nat}(h:i<l.length):preB c l (i+1)=preB c l i++hU l[i]:=by unfold preB;rw[take_succ_eq_append_getElem h,flatMap_append];simp only[flatMap_cons,flatMap_nil,append_nil,cons_append,append_assoc]
def gr (n:Nat) (h:n≤12):bh n= [UInt8.ofNat n]:=by
 have:∀k:Fin 13,bh ((k:Nat):Int)= [UInt8.ofNat k]:=by decide
 exact this ⟨n,by omega⟩
def zL {t:Ty}(h:aP t=true):(hU t).length≤10:=by
 obtain⟨d0,d3,i,j⟩:=kv h;have d:∀x,(bh x).length≤4:=by intro x;simp only[bh,jX,dU];split<;>(try split)<;>(try split)<;>simp
 have h1:=d (4*(t.index+1));have n:=d t.index;have l:t.bT.toNat≤3:=by omega
 have g:(pq t).length≤5:=by
  unfold pq
  repeat' split
  all_goals simp<;>omega
 unfold hU;split<;>simp<;>omega
def JH (c:UInt8) (l:List Ty) (h:l.length≤12) (g:∀t∈l,aP t=true) (i:Nat) (j:i≤l.length):(preB c l i).length≤5+10*i:=by
 induction i with
 |zero=>unfold preB;rw[gr _ h];simp
 |succ i d=>rw[yU c l (by omega),length_append];have:=d (by omega);have:=zL (g l[i] (getElem_mem (by omega)));omega
def MN (l:List Ty) (h:l.length≤12):preB 7 l l.length=Gb l:=by unfold preB Gb vB;rw[gr _ h,take_length];rfl
def Bm (l:List Ty) (o:cC) (nl:Bool) (hl:l.length≤12) (Q:l.all aZ=true) (σ:AS):ad prog 65 [.ao 49 (l.map cF) o nl] σ
 (kQ (fun n=> .bI [.ao 5 ((Gb l).map u8) (.tok n) false,zI 0]) (Gb l).length σ) No:=by
 have ha:=fun σ=>Ba l o nl (by omega) σ;rw[Q]at ha;have H:∀t∈l,aP t=true:=by intro t h;have:=all_eq_true.1 Q t h;unfold aZ at this;simp at this;exact this.1
 have L:=fun σ=>rW [7] .full false (by simp) (by simp) (l.length:Int) (by omega) (by omega) σ;have hz: [7]++bh l.length=preB 7 l 0:=by simp[preB]
 rw[hz]at L;simp at L;have P:((12:Int)<l.length)=False:=by simp;omega
 have hL:=JH 7 l hl H;rw[←MN l hl];refine ad.ob func65 ?_;refine gO aa @P (j2 @ha @L) ?_;intro J E;refine gO aa tI tI ?_;refine aq.aQ (α:=(Nat)×(Nat)) ((0,J)) (fun⟨i,n⟩=>l.length-i) (fun⟨i,n⟩=>i≤l.length∧σ n=none) [(2,?_),(3,?_),(23,?_),(24,?_)] (fun⟨i,n⟩=> [(25,zI i),(4,.ao 5 ((preB 7 l i).map u8) (.tok n) false)]) (fun⟨i,n⟩=>σ.set n (.tok (preB 7 l i).length)) ?_ ?_ ?_ ?_;rotate_left 4
 ·exact gF tI
 ·(try dsimp only);(simp;done)
 ·exact⟨by omega,E⟩
 intro Y G;obtain⟨i,n⟩:=Y;try dsimp only at G⊢
 obtain⟨hi,j⟩:=G;simp only[eZ];by_cases q:i<l.length
 ·have v:zW ((i:Int)+1)=((i+1:Nat):Int):=bQ (by omega);have af:=hL i hi;have K:=H l[i] (getElem_mem q);repeat (first
   |refine g1 ?_
   |((first|refine g2 ?_);simp-implicitDefEqProofs [q,aC])
   |(refine g3 ?_;try simp-implicitDefEqProofs))
  intro id g w;have d:=aK g;repeat (first
   |refine g1 ?_
   |((first|refine g2 ?_ |((with_reducible apply ag.id);first|apply (Su (l:=preB 7 l i) (t:=l[i]) (by simp) (by omega) K (by simp[d]))));simp-implicitDefEqProofs)
   |(refine g3 ?_;try simp-implicitDefEqProofs [q,aC,aH,lW,v,g,d]))
  intro u F;have hf:σ u=none:=by
   by_cases X:u=n
   ·rw[X];exact j
   ·by_cases V:u=id
    ·rw[V];exact w
    ·simpa[del,AS.set,X,V]using F
  have hle:∀x y,AS.le σ (del ((σ.set n x).set id y) n):=fun x y=>wV (AS.aj (AS.aj (lR _) j) (by simp[w])) j;have T:=yU 7 l q;have O:(preB 7 l (i+1)).map u8=(preB 7 l i).map u8++(hU l[i]).map u8:=by rw[T,map_append]
  have I:(preB 7 l (i+1)).length=(preB 7 l i).length+(hU l[i]).length:=by rw[T,length_append]
  refine gO aa @v tI ?_;refine jC.mk ((i+1,u)) gM (gF @O) (by(try dsimp only);(first|(simp[I];done)|(simp[I];exact aj (hle _ _)))) ?_;try dsimp only
  exact⟨q,hf⟩
 ·have M:i=l.length:=by omega
  subst M;refine gO aa (j2 q @aH) tI ?_;exact da n j (by simp) (lR _)
def xV (l:List Ty) (o:cC) (nl:Bool) (hl:12<l.length) (g:l.length≤140737488355328) (σ:AS):ad prog 65 [.ao 49 (l.map cF) o nl] σ
 (ah (.bI [.ai,zI 4]) σ) No:=by
 have d:((12:Int)<l.length)=True:=by simp;omega
 refine ad.ob func65 ?_;exact gE aa @d tI
def yC (l:List Ty) (o:cC) (nl:Bool) (hl:l.length≤12) (g:l.all aZ=false) (σ:AS):ad prog 65 [.ao 49 (l.map cF) o nl] σ
 (ah (.bI [.ai,zI 17]) σ) No:=by
 have ha:=fun σ=>Ba l o nl (by omega) σ;rw[g]at ha;have d:((12:Int)<l.length)=False:=by simp;omega
 refine ad.ob func65 ?_;exact gE aa @d @ha
def K5 (τ:AS) (i j:Nat):del τ i j=if j=i then none else τ j:=rfl
def KE (c:UInt8) (l:List Ty):zY:=c::bh l.length
def mm (c:UInt8) (l:List Ty) (r:Ty) (i:Nat):zY:=KE c l++(hU r++(l.take i).flatMap hU)
def tm (c:UInt8) (l:List Ty) (r:Ty):mm c l r 0=KE c l++hU r:=by simp[mm]
def tq (c:UInt8) (l:List Ty) (r:Ty) {i:Nat}(h:i<l.length):mm c l r (i+1)=mm c l r i++hU l[i]:=by unfold mm;rw[take_succ_eq_append_getElem h,flatMap_append];simp only[flatMap_cons,flatMap_nil,append_nil,append_assoc]
def AH (c:UInt8) (l:List Ty) (h:l.length≤12):(KE c l).length=2:=by unfold KE;rw[gr _ h];rfl
def B5 (c:UInt8) (l:List Ty) (r:Ty) (h:l.length≤12) (g:aP r=true) (j:∀t∈l,aP t=true) (i:Nat) (n:i≤l.length):(mm c l r i).length≤12+10*i:=by
 induction i with
 |zero=>have:=zL g;rw[tm,length_append,AH c l h];omega
 |succ i d=>rw[tq c l r (by omega),length_append];have:=d (by omega);have:=zL (j l[i] (getElem_mem (by omega)));omega
def FK (d:Bool) (l:List Ty) (r:Ty) (h:l.length≤12):mm (if d=true then 32 else 0) l r l.length=Dw ⟨d,l,r⟩:=by unfold mm KE Dw vB;rw[gr _ h,take_length];rfl
def Dp (g:Bool) (l:List Ty) (r:Ty) (o:cC) (nl:Bool) (hl:6<l.length) (h:l.length≤140737488355328) (σ:AS):
 ad prog 137 [.agg [zB g,.ao 49 (l.map cF) o nl,zI r.kind,zI r.index,zI r.bT,.sc (.bool r.ref)]] σ
 (ah (.bI [.ai,zI 4]) σ) No:=by
 have i:((6:Int)<l.length)=True:=by simp;omega
 refine ad.ob func137 ?_;refine gO aa tI tI ?_;intro id d;refine gO aa @i tI ?_;exact AS.aj (lR _) d
def Fb (q:Bool) (l:List Ty) (r:Ty) (o:cC) (nl:Bool) (hl:l.length≤6) (i:(l.all aZ&&cx r)=false) (σ:AS):
 ad prog 137 [.agg [zB q,.ao 49 (l.map cF) o nl,zI r.kind,zI r.index,zI r.bT,.sc (.bool r.ref)]] σ
 (ah (.bI [.ai,zI 17]) σ) No:=by
 have n:((6:Int)<l.length)=False:=by simp;omega
 have ha:=fun σ=>Ba l o nl (by omega) σ;have g:=fun σ=>oF r σ;simp only[aC]at g;cases j:l.all aZ with
 |false=>rw[j]at ha;refine ad.ob func137 ?_;refine gO aa tI tI ?_;intro id d;refine gO aa @n @ha ?_;exact AS.aj (lR _) d
 |true=>
  rw[j]at ha i;have h:cx r=false:=by simpa using i
  rw[h]at g;refine ad.ob func137 ?_;refine gO aa tI tI ?_;intro id d;refine gO aa @n (j2 @ha @g) ?_;exact AS.aj (lR _) d
def Il (th:Bool) (l:List Ty) (r:Ty) (o:cC) (nl:Bool) (hl:l.length≤6) (hp:(l.all aZ&&cx r)=true) (σ:AS):
 ad prog 137 [.agg [zB th,.ao 49 (l.map cF) o nl,zI r.kind,zI r.index,zI r.bT,.sc (.bool r.ref)]] σ
 (kQ (fun H=> .bI [.ao 5 ((Dw ⟨th,l,r⟩).map u8) (.tok H) false,zI 0]) (Dw ⟨th,l,r⟩).length σ) No:=by
 have h6:((6:Int)<l.length)=False:=by simp;omega
 have ha:=fun σ=>Ba l o nl (by omega) σ;have hr:=fun σ=>oF r σ;simp only[aC]at hr;obtain⟨hA,hR⟩:l.all aZ=true∧cx r=true:=by simpa using hp
 rw[hA]at ha;rw[hR]at hr;have Y:aP r=true:=by unfold cx at hR;simp at hR;exact hR.1
 have ab:∀t∈l,aP t=true:=by intro t h;have:=all_eq_true.1 hA t h;unfold aZ at this;simp at this;exact this.1
 cases th with
 |false=>
  refine ad.ob func137 ?_;refine gO aa tI tI ?_;intro id M;refine gO (S:= [5]) aa @h6 (j2 @ha @hr) ?_
  with_reducible apply aq.eJ
  refine bq.sp rfl (ia.lX (by decide) ?_);simp-implicitDefEqProofs [bF];intro af j ar;have q:=aK j;refine bq.rest ?_;simp-implicitDefEqProofs;refine gO (S:= [8]) aa j tI ?_;refine aq.freeze 4 af (([0]:zY).map u8) (m:=1) (by simp) (by simp[*]) (by simp) (by simp) (by simp) ?_;simp-implicitDefEqProofs;have hk:=fun σ=>rW [0] .full false (by simp) (by simp) (l.length:Int) (by omega) (by omega) σ;have hz: [0]++bh l.length=KE 0 l:=by simp[KE]
  rw[hz]at hk;simp at hk;have hS:=FK false l r (by omega);simp at hS;rw[←hS];have hL:=B5 0 l r (by omega) Y ab;have hd:=AH 0 l (by omega);refine gO aa tI @hk ?_;intro ac d w;have g:=aK d;repeat (first
   |refine g1 ?_
   |((first|refine g2 ?_ |((with_reducible apply ag.id);first|apply (Su (l:=KE 0 l) (t:=r) (by simp) (by omega) Y (by simp))));simp-implicitDefEqProofs [g])
   |(refine g3 ?_;try simp-implicitDefEqProofs [j,q,aH,lW,d,g]))
  intro I v;have O:σ I=none:=by
   by_cases X:I=ac
   ·rw[X];exact w
   ·by_cases V:I=id
    ·rw[V];exact M
    ·simpa[del,AS.set,X,V]using v
  have F:¬id=I:=by intro e;rw[←e]at v;simp[del,g]at v
  rw[←map_append,←length_append,←tm];refine gO aa (j3 @K5 d F) tI ?_;refine aq.aQ (α:=(Nat)×(Nat)) ((0,I)) (fun⟨i,H⟩=>l.length-i) (fun⟨i,H⟩=>i≤l.length∧σ H=none) [(2,?_),(3,?_),(41,?_),(42,?_)] (fun⟨i,H⟩=> [(43,zI i),(4,.ao 5 ((mm 0 l r i).map u8) (.tok H) false)]) (fun⟨i,H⟩=>σ.set H (.tok (mm 0 l r i).length)) ?_ ?_ ?_ ?_;rotate_left 4
  ·exact gF tI
  ·(try dsimp only);(exact aj (wV (AS.aj (AS.aj (lR _) M) (by simp[w])) w))
  ·exact⟨by omega,O⟩
  intro x_ Q;obtain⟨i,H⟩:=x_;try dsimp only at Q⊢
  obtain⟨hi,E⟩:=Q;simp only[eZ];by_cases G:i<l.length
  ·have L:zW ((i:Int)+1)=((i+1:Nat):Int):=bQ (by omega);have a8:=hL i hi;have al:=ab l[i] (getElem_mem G);repeat (first
    |refine g1 ?_
    |((first|refine g2 ?_);simp-implicitDefEqProofs [G,aC])
    |(refine g3 ?_;try simp-implicitDefEqProofs))
   intro id3 u J;have n:=aK u;repeat (first
    |refine g1 ?_
    |((first|refine g2 ?_ |((with_reducible apply ag.id);first|apply (Su (l:=mm 0 l r i) (t:=l[i]) (by simp) (by omega) al (by simp[n]))));simp-implicitDefEqProofs)
    |(refine g3 ?_;try simp-implicitDefEqProofs [G,aC,j,q,aH,lW,d,g,L,u,n]))
   intro K P;have hf:σ K=none:=by
    by_cases X:K=H
    ·rw[X];exact E
    ·by_cases V:K=id3
     ·rw[V];exact J
     ·simpa[del,AS.set,X,V]using P
   have hle:∀x y,AS.le σ (del ((σ.set H x).set id3 y) H):=fun x y=>wV (AS.aj (AS.aj (lR _) E) (by simp[J])) E;have hE:=tq 0 l r G;have av:(mm 0 l r (i+1)).map u8=(mm 0 l r i).map u8++(hU l[i]).map u8:=by rw[hE,map_append]
   have T:(mm 0 l r (i+1)).length=(mm 0 l r i).length+(hU l[i]).length:=by rw[hE,length_append]
   refine gO aa @L tI ?_;refine jC.mk ((i+1,K)) gM (gF @av) (by(try dsimp only);(first|(simp[T];done)|(simp[T];exact aj (hle _ _)))) ?_;try dsimp only
   exact⟨G,hf⟩
  ·have ap:i=l.length:=by omega
   subst ap;refine gO aa (j2 G @aH) tI ?_;exact da H E (by simp) (lR _)
 |true=>
  refine ad.ob func137 ?_;refine gO aa tI tI ?_;intro id M;refine gO (S:= [5]) aa @h6 (j2 @ha @hr) ?_
  with_reducible apply aq.eJ
  refine bq.sp rfl (ia.lX (by decide) ?_);simp-implicitDefEqProofs [bF];intro af j ar;have q:=aK j;refine bq.rest ?_;simp-implicitDefEqProofs;refine gO (S:= [8]) aa j tI ?_;refine aq.freeze 4 af (([32]:zY).map u8) (m:=1) (by simp) (by simp[*]) (by simp) (by simp) (by simp) ?_;simp-implicitDefEqProofs;have hk:=fun σ=>rW [32] .full false (by simp) (by simp) (l.length:Int) (by omega) (by omega) σ;have hz: [32]++bh l.length=KE 32 l:=by simp[KE]
  rw[hz]at hk;simp at hk;have hS:=FK true l r (by omega);simp at hS;rw[←hS];have hL:=B5 32 l r (by omega) Y ab;have hd:=AH 32 l (by omega);refine gO aa tI @hk ?_;intro ac d w;have g:=aK d;repeat (first
   |refine g1 ?_
   |((first|refine g2 ?_ |((with_reducible apply ag.id);first|apply (Su (l:=KE 32 l) (t:=r) (by simp) (by omega) Y (by simp))));simp-implicitDefEqProofs [g])
   |(refine g3 ?_;try simp-implicitDefEqProofs [j,q,aH,lW,d,g]))
  intro I v;have O:σ I=none:=by
   by_cases X:I=ac
   ·rw[X];exact w
   ·by_cases V:I=id
    ·rw[V];exact M
    ·simpa[del,AS.set,X,V]using v
  have F:¬id=I:=by intro e;rw[←e]at v;simp[del,g]at v
  rw[←map_append,←length_append,←tm];refine gO aa (j3 @K5 d F) tI ?_;refine aq.aQ (α:=(Nat)×(Nat)) ((0,I)) (fun⟨i,H⟩=>l.length-i) (fun⟨i,H⟩=>i≤l.length∧σ H=none) [(2,?_),(3,?_),(41,?_),(42,?_)] (fun⟨i,H⟩=> [(43,zI i),(4,.ao 5 ((mm 32 l r i).map u8) (.tok H) false)]) (fun⟨i,H⟩=>σ.set H (.tok (mm 32 l r i).length)) ?_ ?_ ?_ ?_;rotate_left 4
  ·exact gF tI
  ·(try dsimp only);(exact aj (wV (AS.aj (AS.aj (lR _) M) (by simp[w])) w))
  ·exact⟨by omega,O⟩
  intro x_ Q;obtain⟨i,H⟩:=x_;try dsimp only at Q⊢
  obtain⟨hi,E⟩:=Q;simp only[eZ];by_cases G:i<l.length
  ·have L:zW ((i:Int)+1)=((i+1:Nat):Int):=bQ (by omega);have a8:=hL i hi;have al:=ab l[i] (getElem_mem G);repeat (first
    |refine g1 ?_
    |((first|refine g2 ?_);simp-implicitDefEqProofs [G,aC])
    |(refine g3 ?_;try simp-implicitDefEqProofs))
   intro id3 u J;have n:=aK u;repeat (first
    |refine g1 ?_
    |((first|refine g2 ?_ |((with_reducible apply ag.id);first|apply (Su (l:=mm 32 l r i) (t:=l[i]) (by simp) (by omega) al (by simp[n]))));simp-implicitDefEqProofs)
    |(refine g3 ?_;try simp-implicitDefEqProofs [G,aC,j,q,aH,lW,d,g,L,u,n]))
   intro K P;have hf:σ K=none:=by
    by_cases X:K=H
    ·rw[X];exact E
    ·by_cases V:K=id3
     ·rw[V];exact J
     ·simpa[del,AS.set,X,V]using P
   have hle:∀x y,AS.le σ (del ((σ.set H x).set id3 y) H):=fun x y=>wV (AS.aj (AS.aj (lR _) E) (by simp[J])) E;have hE:=tq 32 l r G;have av:(mm 32 l r (i+1)).map u8=(mm 32 l r i).map u8++(hU l[i]).map u8:=by rw[hE,map_append]
   have T:(mm 32 l r (i+1)).length=(mm 32 l r i).length+(hU l[i]).length:=by rw[hE,length_append]
   refine gO aa @L tI ?_;refine jC.mk ((i+1,K)) gM (gF @av) (by(try dsimp only);(first|(simp[T];done)|(simp[T];exact aj (hle _ _)))) ?_;try dsimp only
   exact⟨G,hf⟩
  ·have ap:i=l.length:=by omega
   subst ap;refine gO aa (j2 G @aH) tI ?_;exact da H E (by simp) (lR _)
abbrev rj:bW:=(.S 0 (.S 1 (.S 2 (.S 4 (.S 5 (.S 6 (.R 3 (.R 7 (.S 8 .D)))))))))
def qN (S:List Nat):bH prog [(6,rj)] S:=mixed
def zK (t u:Ty):(decide (t.kind=u.kind)&&(decide (t.index=u.index)&&(decide (t.bT=u.bT)&&(t.ref==u.ref))))=decide (t=u):=by obtain⟨a,b,c,d⟩:=t;obtain⟨j,i,h,g⟩:=u;rw[Bool.eq_iff_iff];simp
def we (l m:List Ty) (w v:cC) (n1 n2:Bool) (hl:l.length≤1000000) (hm:m.length≤1000000) (σ:AS):
 ad prog 95 [.ao 49 (l.map cF) w n1,.ao 49 (m.map cF) v n2] σ (ah (.sc (.bool (decide (l=m)))) σ) No:=by
 by_cases hlen:l.length=m.length
 ·have q:((l.length:Int)=m.length)=True:=by simp[hlen]
  refine ad.ob func95 ?_;refine gO qN @q tI ?_;refine aq.aQ (α:=(Nat)) (0) (fun i=>l.length-i) (fun i=>i≤l.length∧l.take i=m.take i) [(0,?_),(1,?_)] (fun i=> [(5,zI i)]) (fun i=>σ) ?_ ?_ ?_ ?_;rotate_left 2
  ·exact gF tI
  ·exact gT
  ·(try dsimp only)<;>first|exact trivial|exact⟨by omega,rfl⟩|omega|(simp;done)|exact⟨by omega,by simp⟩|exact⟨by omega,by simp,rfl⟩
  intro i n;try dsimp only at n⊢
  obtain⟨E,o⟩:=n;simp only[eZ];by_cases d:i<l.length
  ·have j:zW ((i:Int)+1)=((i+1:Nat):Int):=bQ (by omega);have h:i<m.length:=by omega
   have u:=zK l[i] m[i];by_cases he:l[i]=m[i]
   ·repeat (first
     |refine g1 ?_
     |((first|refine g2 ?_ |((with_reducible apply dX 6 rj);refine dY mixed ?_));simp-implicitDefEqProofs [d,h,aC,he,j])
     |(refine g3 ?_;try simp-implicitDefEqProofs))
    refine gB (i+1) gT ?_;try dsimp only
    exact⟨d,by rw[take_succ_eq_append_getElem d,take_succ_eq_append_getElem h,o,he]⟩
   ·have g:¬l=m:=fun e=>he (by subst e;rfl);rw[show decide (l[i]=m[i])=false by simp[he]]at u;simp only[g,decide_false];exact uK (qN []) @u (j4 d @h @aC @aH) tI (k:=trivial)
  ·have y:l=m:=by rw[take_of_length_le (by omega),take_of_length_le (by omega)]at o;exact o
   rw[show decide (l=m)=true by simp[y]];exact gE qN (j2 d @aH) tI
 ·have q:((l.length:Int)=m.length)=False:=by simp;omega
  have g:¬l=m:=fun e=>hlen (by rw[e]);rw[show decide (l=m)=false by simp[g]];refine ad.ob func95 ?_;exact gE qN @q tI
end Sg
namespace Im
abbrev og:bW:=(.S 0 (.S 1 (.S 2 (.S 4 (.S 5 (.S 6 (.R 3 (.R 7 (.S 8 .D)))))))))
abbrev yi:bW:=(.R 1 (.S 2 (.S 3 (.R 4 (.R 5 (.S 6 (.A 0 (.A 7 (.S 8 (.S 9 (.A 10 .D .Z))) .Z) (.A 7 (.R 0 (.S 8 (.S 9 (.A 10 .D .Z)))) .Z))))))))
abbrev mP:bW:=(.R 1 (.S 2 (.S 3 (.R 4 (.R 5 (.S 6 (.A 0 (.A 7 (.S 8 (.S 9 (.A 10 .D .Z))) .Z) (.A 7 (.R 0 (.S 8 (.S 9 (.A 10 .D .Z)))) .Z))))))))
def xX (S:List Nat):bH prog [(6,og)] S:=mixed
def zE (S:List Nat):bH prog [(1,(.R 0 (.S 1 (.S 2 (.R 3 (.R 4 (.R 5 (.A 6 (.S 7 .D) .Z))))))))] S:=mixed
def Ip (S:List Nat):bH prog [(1,(.S 4 (.R 0 (.S 1 (.S 2 (.R 3 (.R 5 (.A 6 (.S 7 .D) .Z))))))))] S:=mixed
def nU (S:List Nat):bH prog [(4,mP)] S:=mixed
def nV (S:List Nat):bH prog [(4,mP)] S:=mixed
open Sg (lj ji jh jj fZ aC zK tT)
def nB {α:Type}[DecidableEq α] (l:List α) (t:α):List α:=if t∈l then l else l++ [t]
def Az {α:Type}[DecidableEq α] (l:List α) (t:α):Nat:=l.findIdx (fun o=>decide (o=t))
def rr {α:Type}[DecidableEq α] (l:List α) (t:α):Int:=(Az l t:Int)+1
def Kt {α:Type}[DecidableEq α] {l:List α}{t:α}(h:t∈l):lj (fun o=>decide (o=t)) l=Az l t∧nB l t=l∧Az l t<l.length:=by
 have d:l.findIdx (fun o=>decide (o=t))<l.length:=findIdx_lt_length_of_exists ⟨t,h,by simp⟩;refine⟨?_,by simp[nB,h],d⟩;rw[ji (i:=l.findIdx (fun o=>decide (o=t))) d (fun x g=> ?_) (findIdx_getElem (w:=d))]
 ·rfl
 ·obtain⟨j,n,rfl⟩:=mem_take_iff_getElem.1 g;have:=not_of_lt_findIdx (show j<l.findIdx (fun o=>decide (o=t)) by omega);simpa using this
def Ks {α:Type}[DecidableEq α] {l:List α}{t:α}(h:¬t∈l):lj (fun o=>decide (o=t)) l= -1∧nB l t=l++ [t]∧Az l t=l.length:=by
 have d:∀x∈l,(fun o=>decide (o=t)) x=false:=fun x g=>by simp;rintro rfl;exact h g
 refine⟨jh d,by simp[nB,h],?_⟩;rw[Az,findIdx_eq_length];exact d
def Pa (l m:List Ty) (w v:cC) (n1 n2:Bool) (hl:l.length≤1000000) (hm:m.length≤1000000) (σ:AS):
 ad prog 27 [.ao 49 (l.map cF) w n1,.ao 49 (m.map cF) v n2] σ (ah (.sc (.bool (decide (l=m)))) σ) No:=by
 by_cases hlen:l.length=m.length
 ·have q:((l.length:Int)=m.length)=True:=by simp[hlen]
  refine ad.ob func27 ?_;refine gO xX @q tI ?_;refine aq.aQ (α:=(Nat)) (0) (fun i=>l.length-i) (fun i=>i≤l.length∧l.take i=m.take i) [(0,?_),(1,?_),(12,?_)] (fun i=> [(13,zI i)]) (fun i=>σ) ?_ ?_ ?_ ?_;rotate_left 3
  ·exact gF tI
  ·exact gT
  ·(try dsimp only)<;>first|exact trivial|exact⟨by omega,rfl⟩|omega|(simp;done)|exact⟨by omega,by simp⟩|exact⟨by omega,by simp,rfl⟩
  intro i n;try dsimp only at n⊢
  obtain⟨E,o⟩:=n;simp only[eZ];by_cases d:i<l.length
  ·have j:zW ((i:Int)+1)=((i+1:Nat):Int):=bQ (by omega);have h:i<m.length:=by omega
   have u:=zK l[i] m[i];by_cases he:l[i]=m[i]
   ·repeat (first
     |refine g1 ?_
     |((first|refine g2 ?_ |((with_reducible apply dX 6 og);refine dY mixed ?_));simp-implicitDefEqProofs [d,h,aC,he,j])
     |(refine g3 ?_;try simp-implicitDefEqProofs))
    refine gB (i+1) gT ?_;try dsimp only
    exact⟨d,by rw[take_succ_eq_append_getElem d,take_succ_eq_append_getElem h,o,he]⟩
   ·have g:¬l=m:=fun e=>he (by subst e;rfl);rw[show decide (l[i]=m[i])=false by simp[he]]at u;simp only[g,decide_false];repeat (first
     |refine g1 ?_
     |((first|refine g2 ?_ |((with_reducible apply dX 6 og);refine dY mixed ?_));simp-implicitDefEqProofs [d,h,aC,↓u])
     |(refine g3 ?_;try simp-implicitDefEqProofs))
  ·have y:l=m:=by rw[take_of_length_le (by omega),take_of_length_le (by omega)]at o;exact o
   rw[show decide (l=m)=true by simp[y]];exact gE xX (j2 d @aH) tI
 ·have q:((l.length:Int)=m.length)=False:=by simp;omega
  have g:¬l=m:=fun e=>hlen (by rw[e]);rw[show decide (l=m)=false by simp[g]];refine ad.ob func27 ?_;exact gE xX @q tI
def Eh (l:List Ty):AV:= .ao 49 (l.map cF) .aI (decide (l= []))
def jd (l:List Ty):Eh l= .ao 49 (l.map cF) .aI (decide (l= [])):=rfl
def Kc (l:List (List Ty)) (o:cC) (nl:Bool) (u:AV) (g:List Ty→Bool) (σ:AS) (hl:l.length≤140737488355328) (hf:∀x∈l,mM prog σ u [Eh x] (.sc (.bool (g x)))):
 ad prog 192 [.ao 47 (l.map Eh) o nl,u] σ (ah (zI (lj g l)) σ) No:=by
 refine ad.ob func192 ?_;refine gO aa tI tI ?_;refine aq.aQ (α:=(Nat)) (0) (fun i=>l.length-i) (fun i=>i≤l.length∧ ∀x∈l.take i,g x=false) [(0,?_),(1,?_),(7,?_)] (fun i=> [(8,zI i)]) (fun i=>σ) ?_ ?_ ?_ ?_;rotate_left 3
 ·exact gF tI
 ·exact gT
 ·(try dsimp only)<;>first|exact trivial|exact⟨by omega,rfl⟩|omega|(simp;done)|exact⟨by omega,by simp⟩|exact⟨by omega,by simp,rfl⟩
 intro i j;try dsimp only at j⊢
 obtain⟨v,q⟩:=j;simp only[eZ];by_cases d:i<l.length
 ·have h:zW ((i:Int)+1)=((i+1:Nat):Int):=bQ (by omega);have hu:=(hf l[i] (getElem_mem d));simp only[jd]at hu;cases n:g l[i]with
  |true=>
   rw[n]at hu;rw[ji d q n];repeat (first
    |refine g1 ?_
    |((first|refine g2 ?_ |((with_reducible apply ag.id);first|apply (hu.use)));simp-implicitDefEqProofs [d,jd])
    |(refine g3 ?_;try simp-implicitDefEqProofs))
  |false=>
   rw[n]at hu;repeat (first
    |refine g1 ?_
    |((first|refine g2 ?_ |((with_reducible apply ag.id);first|apply (hu.use)));simp-implicitDefEqProofs [d,jd,h])
    |(refine g3 ?_;try simp-implicitDefEqProofs))
   refine gB (i+1) gT ?_;try dsimp only
   exact⟨d,fZ d q n⟩
 ·rw[jh (by rwa [take_of_length_le (by omega)]at q)];exact gE aa (j2 d @aH) tI
def Jd (t u:Ty) (σ:AS):ad prog 25 [cF t,cF u] σ (ah (.sc (.bool (decide (t=u)))) σ) No:=by
 have l:=zK t u;simp only[aC]at l⊢;generalize decide (t=u)=d at l⊢;refine ad.ob func25 ?_;refine gO aa tI tI ?_;intro id j;intro n h i;have g:=aK h;repeat (first
  |refine g1 ?_
  |((first|refine g2 ?_);simp-implicitDefEqProofs [↓l,g])
  |(refine g3 ?_;try simp-implicitDefEqProofs))
 exact AS.aj (AS.aj (lR _) j) (by simp[i])
def Jc (l m:List Ty) (hl:l.length≤1000000) (hm:m.length≤1000000) (σ:AS):ad prog 26 [Eh l,Eh m] σ (ah (.sc (.bool (decide (l=m)))) σ) No:=by have g:=fun σ=>Pa l m .aI .aI (decide (l= [])) (decide (m= [])) hl hm σ;simp only[jd];generalize decide (l=m)=d at g⊢;refine ad.ob func26 ?_;exact gE aa tI @g
def FJ (t o:Ty) (aO n id3:Nat) (c0 M L K J I H G F y w v:AV) (σ:AS)
 (h:σ aO=some (.cells 74 [c0,M,L,K,J,.sc (.func (.func 25) #[] #[]),I,H,G,F,y,w,v]))
 (E:σ n=some (.cells 319 [.ptr aO 4])) (u:σ id3=some (.cells 49 (cF t).cells)):
 ad prog 242 [cF o,.ptr n 0,.ptr id3 0] σ (ah (.sc (.bool (decide (o=t)))) σ) No:=by
 have q:=fun σ=>Jd o t σ;generalize decide (o=t)=d at q⊢;simp only[aC,aR]at u q⊢;refine ad.ob func242 ?_;refine gO zE tI tI ?_;intro id g;have i:¬aO=id:=nq h g;have l:¬n=id:=nq E g;have j:¬id3=id:=nq u g;refine gO zE (j6 i @h l @E j @u) @q ?_;exact AS.aj (lR _) g
def Ct (t o:List Ty) (ht:t.length≤1000000) (u:o.length≤1000000) (aO g id3:Nat) (c0 J I H G F E y w n l j:AV) (σ:AS)
 (h:σ aO=some (.cells 74 [c0,J,I,H,G,F,E,.sc (.func (.func 26) #[] #[]),y,w,n,l,j]))
 (v:σ g=some (.cells 267 [.ptr aO 6])) (q:σ id3=some (.cells 47 [Eh t])):
 ad prog 193 [Eh o,.ptr g 0,.ptr id3 0] σ (ah (.sc (.bool (decide (o=t)))) σ) No:=by
 have i:=fun σ=>Jc o t u ht σ;generalize decide (o=t)=d at i⊢;simp only[jd]at q i⊢;refine ad.ob func193 ?_;exact gE Ip (j3 @h @v @q) @i
def ot (t:Ty) (l:List Ty) (aO O:Nat) (c0 c1 c2 c3 c6 c7 c8 c9 ab Y X:AV) (hl:l.length≤100000) (σ:AS)
 (h:σ aO=some (.cells 74 [c0,c1,c2,c3,.ao 49 (l.map cF) (.tok O) (decide (l= [])),.sc (.func (.func 25) #[] #[]),c6,c7,c8,c9,ab,Y,X]))
 (V:σ O=some (.tok l.length)):
 ad prog 189 [.ptr aO 4,cF t] σ (ah (zI (rr l t))
  ((σ.set aO (.cells 74 [c0,c1,c2,c3,.ao 49 ((nB l t).map cF) (.tok O) (decide (nB l t= [])),.sc (.func (.func 25) #[] #[]),c6,c7,c8,c9,ab,Y,X])).set O (.tok (nB l t).length))) No:=by
 have hi:=fun σ fv hf=>tT l (.tok O) (decide (l= [])) fv (fun o=>decide (o=t)) σ (by omega) hf;have v:¬aO=O:=nq h V;have H:=aK v;refine ad.ob func189 ?_;by_cases hm:t∈l
 ·obtain⟨e1,e2,e3⟩:=Kt hm;rw[e1]at hi;simp only[e2,rr];rw[AS.qu h,AS.qu V];simp only[aC]at hi⊢;refine gO nU tI tI ?_;intro G u;refine gO nU tI tI ?_;intro id3 i J;have q:=aK i;have g:¬aO=G:=nq h u;have E:=aK g;have n:¬O=G:=nq V u;have w:=aK n;have I:σ id3=none:=by simpa[AS.set,i]using J
  have d:¬aO=id3:=nq h I;have y:=aK d;have j:¬O=id3:=nq V I;have F:=aK j;have af:=fun σ' h2 h3 h4=>hi σ' (.fn (.func 242) [] [.ptr G 0,.ptr id3 0]) (fun x hx=>mM.fn (FJ t x aO G id3 c0 c1 c2 c3 (.ao 49 (l.map cF) (.tok O) (decide (l= []))) c6 c7 c8 c9 ab Y X σ' h2 h3 (by simpa only[aC]using h4)));have bb:¬((Az l t:Int)<0):=by omega
  have al:zW ((Az l t:Int)+1)=(Az l t:Int)+1:=az (by omega) (by omega);refine gO nU (j6 @bb @al i g @h d) @af ?_;exact AS.aj (AS.aj (lR _) u) (by simp[I])
 ·obtain⟨e1,e2,e3⟩:=Ks hm;rw[e1]at hi;simp only[e2,rr,e3];simp only[aC]at hi⊢;refine gO nU tI tI ?_;intro G u;refine gO nU tI tI ?_;intro id3 i J;have q:=aK i;have g:¬aO=G:=nq h u;have E:=aK g;have n:¬O=G:=nq V u;have w:=aK n;have I:σ id3=none:=by simpa[AS.set,i]using J
  have d:¬aO=id3:=nq h I;have y:=aK d;have j:¬O=id3:=nq V I;have F:=aK j;have af:=fun σ' h2 h3 h4=>hi σ' (.fn (.func 242) [] [.ptr G 0,.ptr id3 0]) (fun x hx=>mM.fn (FJ t x aO G id3 c0 c1 c2 c3 (.ao 49 (l.map cF) (.tok O) (decide (l= []))) c6 c7 c8 c9 ab Y X σ' h2 h3 (by simpa only[aC]using h4)));have al:zW ((l.length:Int)+1)=(l.length:Int)+1:=az (by omega) (by omega)
  repeat' (first
   |refine g1 ?_
   |((first|refine g2 ?_ |((with_reducible apply dX 4 yi);refine dY mixed ?_)|((with_reducible apply ag.id);first|apply ag.ay (af _ (by simp[g,d,h]) (by simp[q]) (by simp))));simp-implicitDefEqProofs [al,v,q,g,h,w,n,V,d,j])
   |trivial
   |(with_reducible apply j2)
   |((with_reducible first|apply aq.ret|apply aq.skip|apply aq.exit);try simp-implicitDefEqProofs))
  ·have F_:=(j2 (j7 u @I v H i q E) (j2 (j7 g @h w n @V y d) (j2 F j)));intro T y_;refine gK F_ T O fun Q=>gK F_ T aO fun K=>gK F_ T G fun M=>gK F_ T id3 fun L=> ?_;intro P;simp[AS.set,Q,K,M,L]at P⊢;try exact P
  ·have F_:=(j2 (j7 u @I v H i q E) (j2 (j7 g @h w n @V y d) (j2 F j)));intro T y_;refine gK F_ T O fun Q=>gK F_ T aO fun K=>gK F_ T G fun M=>gK F_ T id3 fun L=> ?_;intro P;simp[AS.set,Q,K,M,L]at P⊢;try exact P
def Na (t:List Ty) (ht:t.length≤1000000) (l:List (List Ty)) (hA:∀x∈l,x.length≤1000000) (aO O:Nat) (c0 c1 c2 c3 c4 c5 c8 c9 ab Y X:AV) (hl:l.length≤100000) (σ:AS)
 (h:σ aO=some (.cells 74 [c0,c1,c2,c3,c4,c5,.ao 47 (l.map Eh) (.tok O) (decide (l= [])),.sc (.func (.func 26) #[] #[]),c8,c9,ab,Y,X]))
 (V:σ O=some (.tok l.length)):
 ad prog 138 [.ptr aO 6,Eh t] σ (ah (zI (rr l t))
  ((σ.set aO (.cells 74 [c0,c1,c2,c3,c4,c5,.ao 47 ((nB l t).map Eh) (.tok O) (decide (nB l t= [])),.sc (.func (.func 26) #[] #[]),c8,c9,ab,Y,X])).set O (.tok (nB l t).length))) No:=by
 have hi:=fun σ fv hf=>Kc l (.tok O) (decide (l= [])) fv (fun o=>decide (o=t)) σ (by omega) hf;have v:¬aO=O:=nq h V;have H:=aK v;refine ad.ob func138 ?_;by_cases hm:t∈l
 ·obtain⟨e1,e2,e3⟩:=Kt hm;rw[e1]at hi;simp only[e2,rr];rw[AS.qu h,AS.qu V];simp only[jd]at hi⊢;refine gO nV tI tI ?_;intro G u;refine gO nV tI tI ?_;intro id3 i J;have q:=aK i;have g:¬aO=G:=nq h u;have E:=aK g;have n:¬O=G:=nq V u;have w:=aK n;have I:σ id3=none:=by simpa[AS.set,i]using J
  have d:¬aO=id3:=nq h I;have y:=aK d;have j:¬O=id3:=nq V I;have F:=aK j;have af:=fun σ' h2 h3 h4=>hi σ' (.fn (.func 193) [] [.ptr G 0,.ptr id3 0]) (fun x hx=>mM.fn (Ct t x ht (hA x hx) aO G id3 c0 c1 c2 c3 c4 c5 (.ao 47 (l.map Eh) (.tok O) (decide (l= []))) c8 c9 ab Y X σ' h2 h3 (by simpa only[jd]using h4)));have bc:¬((Az l t:Int)<0):=by omega
  have al:zW ((Az l t:Int)+1)=(Az l t:Int)+1:=az (by omega) (by omega);refine gO nV (j6 @bc @al i g @h d) @af ?_;exact AS.aj (AS.aj (lR _) u) (by simp[I])
 ·obtain⟨e1,e2,e3⟩:=Ks hm;rw[e1]at hi;simp only[e2,rr,e3];simp only[jd]at hi⊢;refine gO nV tI tI ?_;intro G u;refine gO nV tI tI ?_;intro id3 i J;have q:=aK i;have g:¬aO=G:=nq h u;have E:=aK g;have n:¬O=G:=nq V u;have w:=aK n;have I:σ id3=none:=by simpa[AS.set,i]using J
  have d:¬aO=id3:=nq h I;have y:=aK d;have j:¬O=id3:=nq V I;have F:=aK j;have af:=fun σ' h2 h3 h4=>hi σ' (.fn (.func 193) [] [.ptr G 0,.ptr id3 0]) (fun x hx=>mM.fn (Ct t x ht (hA x hx) aO G id3 c0 c1 c2 c3 c4 c5 (.ao 47 (l.map Eh) (.tok O) (decide (l= []))) c8 c9 ab Y X σ' h2 h3 (by simpa only[jd]using h4)));have al:zW ((l.length:Int)+1)=(l.length:Int)+1:=az (by omega) (by omega)
  repeat' (first
   |refine g1 ?_
   |((first|refine g2 ?_ |((with_reducible apply dX 4 mP);refine dY mixed ?_)|((with_reducible apply ag.id);first|apply ag.ay (af _ (by simp[g,d,h]) (by simp[q]) (by simp))));simp-implicitDefEqProofs [al,v,q,g,h,w,n,V,d,j])
   |trivial
   |(with_reducible apply j2)
   |((with_reducible first|apply aq.ret|apply aq.skip|apply aq.exit);try simp-implicitDefEqProofs))
  ·have F_:=(j2 (j7 u @I v H i q E) (j2 (j7 g @h w n @V y d) (j2 F j)));intro T y_;refine gK F_ T O fun Q=>gK F_ T aO fun K=>gK F_ T G fun M=>gK F_ T id3 fun L=> ?_;intro P;simp[AS.set,Q,K,M,L]at P⊢;try exact P
  ·have F_:=(j2 (j7 u @I v H i q E) (j2 (j7 g @h w n @V y d) (j2 F j)));intro T y_;refine gK F_ T O fun Q=>gK F_ T aO fun K=>gK F_ T G fun M=>gK F_ T id3 fun L=> ?_;intro P;simp[AS.set,Q,K,M,L]at P⊢;try exact P
end Im
namespace Pl
def jc (b:zY) (d:Int):zY×Int:=
 if d<1∨b.length≤d then([],3)else
 match rD 0 (b.drop d.toNat)with
 |none=>([],1)
 |some n=>if bD ((b.drop d.toNat).take n)then((b.drop d.toNat).take n,0)else([],18)
def Nm (l:zY):∀n,rD 0 l=some n→n<l.length:=by
 induction l with
 |nil=>intro n h;simp[rD]at h
 |cons c r g=>
  intro n h;simp only[rD]at h;split at h
  ·cases h;simp
  ·cases d:rD 0 r with
   |none=>rw[d]at h;simp at h
   |some k=>rw[d]at h;simp at h;have:=g k d;simp;omega
def M5 (b:zY) (nl:Bool) (o:cC) (d:Int) (hl:b.length≤140737488355328) (ha: -9223372036854775808≤d) (w:d<9223372036854775808) (σ:AS):
 ad prog 210 [.ao 5 (b.map u8) o nl,zI d] σ (ah (.bI [.sc (.string ⟨(jc b d).1.toArray⟩),zI ((jc b d).2)]) σ) No:=by
 refine ad.ob func210 ?_;by_cases h:d<1
 ·have g:jc b d=([],3):=by simp[jc,h]
  rw[g];exact gE aa @h tI;try rfl
 ·by_cases i:b.length≤d
  ·have g:jc b d=([],3):=by simp[jc,i]
   rw[g];exact gE aa (j2 @h @i) tI;try rfl
  ·have j:=fun o σ=>gg (b.drop d.toNat) nl o (by simp;omega) σ;have y:(b.map u8).take b.length=b.map u8:=take_of_length_le (by simp);simp only[map_drop]at j;have h0:0≤d:=by omega
   have h1:d.toNat≤b.length:=by omega
   cases q:rD 0 (b.drop d.toNat)with
   |none=>
    have g:jc b d=([],1):=by simp[jc,h,i,q]
    have u:Ex (b.drop d.toNat)= -1:=by simp[Ex,q]
    rw[g];rw[u]at j;exact gE aa (j5 @h @i @h0 @h1 @y) @j;try rfl
   |some n=>
    have F:=Nm _ _ q;simp at F;have g:jc b d=if bD ((b.drop d.toNat).take n)then((b.drop d.toNat).take n,0)else([],18):=by simp[jc,h,i,q]
    have u:Ex (b.drop d.toNat)=n:=by simp[Ex,q]
    rw[g];rw[u]at j;have E:((n:Int)<0)=False:=by simp
    have wn:zW (d+n)=d+n:=az (by omega) (by omega);have g1:0≤d+n:=by omega
    have g2:(d+n).toNat≤b.length:=by omega
    have g3:d.toNat≤(d+n).toNat:=by omega
    have v:(b.take (d+n).toNat).drop d.toNat=(b.drop d.toNat).take n:=by rw[drop_take];congr 1;omega
    have l:((b.map u8).take (d+n).toNat).drop d.toNat=((b.drop d.toNat).take n).map u8:=by rw[←v];simp[map_drop,map_take]
    have hf:=fun σ=>sw ((b.drop d.toNat).take n) (by simp;omega) σ;generalize (b.drop d.toNat).take n=s at v l hf⊢;cases w:bD s;all_goals
     rw[w]at hf;exact gE aa (j2 (j7 @h @i @h0 @h1 @E @wn @g1) (j5 @g2 @g3 @y @l @qL)) (j2 @j @hf);try rfl
def AE {α:Type}(p:α→Bool):List α→Option Nat
 |[]=>none
 |x::r=>if p x then some 0 else(AE p r).map (· +1)
def CE {α:Type}(p:α→Bool) (l:List α):Int:=match AE p l with|some i=>i|none=> -1
def HD {α:Type}(p:α→Bool) (l:List α):decide (0≤CE p l)=l.any p:=by
 unfold CE;have:(AE p l).isSome=l.any p:=by
  induction l with
  |nil=>rfl
  |cons x r d=>by_cases h:p x<;>simp[AE,h,d]
 cases h:AE p l with
 |none=>rw[h]at this;simp at this;simp;simpa using this
 |some k=>rw[h]at this;simp[←this]
def sV (l:List UInt8):AV:= .sc (.string ⟨l.toArray⟩)
def Ht (l:List UInt8) (hl:l.length≤140737488355328) (σ:AS):ad prog 67 [sV l] σ (ah (.sc (.bool (!bD l))) σ) No:=by refine ad.ob func67 ?_;simp only[sV];exact gE aa tI (sw l hl)
def Yi (l:List (zY)) (nl:Bool) (o:cC) (σ:AS) (m:Nat) (fr:Fr) (d:AS):Prop:=
 ∃i:Nat,m=l.length-i∧i≤l.length∧AE (fun s=> !bD s) l=(AE (fun s=> !bD s) (l.drop i)).map (· +i)∧d=σ∧
  fr=iO [(0,.ao 9 (l.map sV) o nl),(1,.sc (.func (.func 67) #[] #[])),(7,zI l.length),(8,zI i)]
theorem HC (l:List (List UInt8)) (nl:Bool) (o:cC) (hl:l.length≤140737488355328) (q:∀s∈l,s.length≤140737488355328) (σ:AS):
 ad prog 141 [.ao 9 (l.map sV) o nl,.sc (.func (.func 67) #[] #[])] σ (ah (.sc (.int .i64 (CE (fun s=> !bD s) l))) σ) No:=by
 refine ad.ob func141 ?_;refine gO aa tI tI ?_;refine aq.dc (Yi l nl o σ) (k0:=l.length) ⟨0,by omega,by omega,by simp,rfl,rfl⟩ (aN.mk (by simp)) (lR _) ?_;rintro m fr v ⟨i,hm,w,d,rfl,rfl⟩;by_cases g:i<l.length
 ·obtain⟨c,u,hd,h,_⟩:=gQ l g;obtain⟨_,j⟩:=List.getElem?_eq_some_iff.1 u;have n:((i:Int)<l.length)=True:=by simp;omega
  have hf:=fun σ=>Ht c (q c h) σ;rw[hd]at d;simp only[AE]at d;cases c0:bD c with
  |false=>rw[c0]at hf;simp[c0]at d;refine gO aa (j4 n g @j @sV.eq_1) @hf ?_;simp[CE,d]
  |true=>
   rw[c0]at hf;simp only[c0,Bool.not_true,Bool.false_eq_true,if_false]at d;refine gO aa (j4 n g @j @sV.eq_1) @hf ?_;refine⟨m-1,_,_,by omega,aN.mk ?_,lR _,i+1,by omega,by omega,?_,rfl,rfl⟩
   ·simp[gW (show i<4000000000000000000 by omega)]
   ·rw[d,Option.map_map];congr 1;funext x;simp;omega
 ·have n:((i:Int)<l.length)=False:=by simp;omega
  have:l.drop i= []:=List.drop_eq_nil_of_le (by omega);rw[this]at d;refine gO aa n tI ?_;simp[CE,d,AE]
def mI {α:Type}(p:α→Bool) (l:List α):l.any (fun s=> !p s)= !l.all p:=by
 induction l with
 |nil=>rfl
 |cons x r d=>simp[d]
def C5 (l:List (zY)) (nl:Bool) (o:cC) (hl:l.length≤140737488355328) (d:∀s∈l,s.length≤140737488355328) (σ:AS):
 ad prog 66 [.ao 9 (l.map sV) o nl,.sc (.func (.func 67) #[] #[])] σ (ah (.sc (.bool (!l.all bD))) σ) No:=by
 refine ad.ob func66 ?_;refine gO aa tI (HC l nl o hl d) ?_;refine DD ?_;rw[HD,mI]
def fL (d:zY) (o:cC) (ba:Nat):bP:= .cells 131 [.ao 5 (d.map u8) o false,.mp ba]
def CJ (σ:AS):ad prog 68 [] σ (fun r j=> ∃g ba,σ g=none∧σ ba=none∧g≠ba∧r= .ptr g 0∧j=(σ.set ba (.map (eA []))).set g (fL [0] .full ba)) No:=by refine ad.ob func68 ?_;refine gO aa tI tI ?_;unfold SO;intro ba h;simp-implicitDefEqProofs;intro g d i;refine gO aa tI tI ?_;exact⟨_,_,Wk.refl _,lR _,g,i,ba,h,d,rfl,rfl⟩
def PS (o:cC) (n:Nat) (d σ:AS):Prop:=(o= .full∧σ=d)∨(∃g,o= .tok g∧d g=none∧σ=d.set g (.tok n))
def Hs (d s:List UInt8) (o:cC) (aO:Nat) (l σ:AS) (n:PS o d.length l σ) (g:l aO=some (.cells 9 [sV s])) (h1:d.length≤1000000) (q:s.length≤1000000):
 ad prog 70 [.ao 5 (d.map u8) o false,.ptr aO 0] σ (kQ (fun h=> .ao 5 ((d++s++ [0]).map u8) (.tok h) false) (d++s++ [0]).length l) No:=by
 refine ad.ob func70 ?_;rcases n with⟨rfl,rfl⟩|⟨h,rfl,i,rfl⟩
 ·refine gO aa (j2 @g @sV.eq_1) tI ?_;intro h j;refine gO aa tI tI ?_;refine da h j (ff (by first|rfl|simp)) ?_;exact jf (lR _) (by first|omega|(simp;omega))
 ·have n1:¬aO=h:=by intro e;subst e;rw[i]at g;cases g
  refine gO aa (j3 @g @sV.eq_1 @n1) tI ?_;refine da h i (ff (by first|rfl|simp)) ?_;exact jf (lR _) (by first|omega|(simp;omega))
def PS.le {o:cC}{n:Nat}{g σ:AS}(h:PS o n g σ):AS.le g σ:=by
 rcases h with⟨_,rfl⟩|⟨i,_,d,rfl⟩
 ·exact lR _
 ·exact an d (lR _)
def FI (h ba:Nat) (g s:List UInt8) (o:cC) (d:List (ByteArray×AV)) (i:Int) (l:AV) (σ:AS) (h1:σ h=some (fL g o ba)) (j:σ ba=some (.map (eA d))) (hf:iq ⟨s.toArray⟩ d=some (.sc (.int .i64 i))):
 ad prog 69 [.ptr h 0,sV s,l] σ (ah (.sc (.int .i64 i)) σ) No:=by
 refine ad.ob func69 ?_;simp only[sV,fL]at h1⊢;refine gO (S:= [1]) aa tI tI ?_
 with_reducible apply aq.eJ
 refine bq.first 5 ?_;simp-implicitDefEqProofs [h1];refine bq.sp rfl (ia.lookup (by decide) ba ⟨s.toArray⟩ d underlying129 underlying9 (by simp) (by simp) (by simp) j ?_);refine bq.rest ?_;simp-implicitDefEqProofs [pM,hf];exact gE aa tI tI
def FH (i ba:Nat) (d g s:List UInt8) (o:cC) (j:List (ByteArray×AV)) (f:Nat) (n:List AV) (u σ:AS) (w:¬i=ba) (h1:u i=some (fL d o ba)) (v:u ba=some (.map (eA j))) (y:PS o d.length u σ)
 (hf:iq ⟨s.toArray⟩ j=none) (hl:d.length≤1000000)
 (ht:ad prog f ([.ao 5 (d.map u8) o false]++n) σ (kQ (fun l=> .ao 5 (g.map u8) (.tok l) false) g.length u) No):
 ad prog 69 [.ptr i 0,sV s,.fn (.func f) [] n] σ
  (fun r E=> ∃l,u l=none∧r= .sc (.int .i64 d.length)∧E=((u.set l (.tok g.length)).set i (fL g (.tok l) ba)).set ba (.map (eA (kJ ⟨s.toArray⟩ (.sc (.int .i64 d.length)) j)))) No:=by
 have g1:=y.le i _ h1;have g2:=y.le ba _ v;have G:ax prog 3= .sc (.int .i64 0):=by simp
 refine ad.ob func69 ?_;simp only[sV,fL]at h1 g1⊢;refine gO (S:= [1,4,5]) aa tI tI ?_
 with_reducible apply aq.eJ
 refine bq.first 5 ?_;simp-implicitDefEqProofs [g1];refine bq.sp rfl (ia.lookup (by decide) ba ⟨s.toArray⟩ j underlying129 underlying9 (by simp) (by simp) (by simp) g2 ?_);refine bq.rest ?_;simp-implicitDefEqProofs [pM,hf,G];refine gO (S:= [1,4,5]) aa @g1 tI ?_
 with_reducible apply aq.region
 simp-implicitDefEqProofs [g1];refine⟨_,_,ht,?_,fun _ _ h=>h.elim⟩;rintro r H ⟨l,q,rfl,rfl⟩;have n1:¬i=l:=by intro e;subst e;rw[q]at h1;cases h1
 have n2:¬ba=l:=by intro e;subst e;rw[q]at v;cases v
 have F:=aK w;simp-implicitDefEqProofs [h1,n1];refine gO (S:= [5]) aa tI tI ?_
 with_reducible apply aq.eJ
 refine bq.first 6 ?_;simp-implicitDefEqProofs;refine bq.sp rfl (ia.mapUpdate ba ⟨s.toArray⟩ j underlying129 underlying9 (by simp) (by simp) (by simp[v,n2,F]) ?_);refine bq.rest ?_;simp-implicitDefEqProofs;refine gO aa tI tI ?_;exact⟨_,_,Wk.refl _,lR _,l,q,rfl,rfl⟩
end Pl
namespace Sg
def bL (b:zY):AV:= .ao 5 (b.map u8) .aI (decide (b= []))
def cM:Except Int (zY)→zY
 |.ok l=>l
 |.error _ => []
def qM:AV.Wk prog .ai (bL []):=by simp[bL]
def Og (b:zY) (o:cC) (nl:Bool) (h:nl=decide (b= [])):AV.Wk prog (.ao 5 (b.map u8) o nl) (bL b):=by subst h;exact qh _ _ _ _ |>.2 trivial
end Sg
namespace Im
abbrev z8:bW:=(.S 0 (.S 1 (.S 2 (.S 3 (.S 5 (.S 6 (.S 7 (.S 8 (.S 9 (.S 11 (.S 14 (.S 15 (.R 10 (.S 12 (.R 13 (.A 4 (.A 16 (.S 17 (.A 18 .D .Z)) .Z) (.A 16 (.R 4 (.S 17 (.A 18 .D .Z))) .Z)))))))))))))))))
open Sg (aC bL)
open Pl (sV)
def le_eq {a b:AS}(h:a=b):AS.le a b:=h ▸ lR _
def kh {σ τ:AS}{i:Nat}{b:bP}(h:AS.le σ τ):AS.le (σ.set i b) (τ.set i b):=by
 intro j x d;by_cases e:j=i
 ·subst e;simpa[AS.set]using d
 ·rw[AS.ae _ _ e]at d⊢;exact h j x d
def yE (n:Nat) (h:n≤1000000):zW (((n+1:Nat):Int)-1)=n:=by rw[show((n+1:Nat):Int)-1=n by omega];exact az (by omega) (by omega)
def I3 (s:zY) (l:List (zY)) (aO g:Nat) (c0 G F E y w v u q n j i:AV) (hl:l.length≤100000) (σ:AS)
 (h:σ aO=some (.cells 74 [c0,G,F,E,y,w,v,u,.ao 9 (l.map sV) (.tok g) (decide (l= [])),q,n,j,i]))
 (o:σ g=some (.tok l.length)):
 ad prog 60 [.ptr aO 0,sV s] σ (ah (zI l.length)
  ((σ.set aO (.cells 74 [c0,G,F,E,y,w,v,u,.ao 9 ((l++ [s]).map sV) (.tok g) false,q,n,j,i])).set g (.tok (l.length+1)))) No:=by
 have d:¬aO=g:=nq h o;have hw:=yE l.length (by omega);simp only[sV];refine ad.ob func60 ?_;refine gO aa (j3 d @h @o) tI ?_;refine⟨ff (by rw[az (by omega) (by omega)]),le_eq ?_⟩;rw[AS.set_comm d];simp[sV]
def Jb (s:zY) (e:Int) (l:List (zY)) (aO g:Nat) (c0 G F E y w v u q n j i:AV) (hl:l.length≤100000) (σ:AS)
 (h:σ aO=some (.cells 74 [c0,G,F,E,y,w,v,u,q,.ao 30 (l.map bL) (.tok g) (decide (l= [])),n,j,i]))
 (o:σ g=some (.tok l.length)):
 ad prog 61 [.ptr aO 0,bL s,zI e] σ (ah (zI l.length)
  ((σ.set aO (.cells 74 [c0,G,F,E,y,w,v,u,q,.ao 30 ((l++ [s]).map bL) (.tok g) false,n,j,i])).set g (.tok (l.length+1)))) No:=by
 have d:¬aO=g:=nq h o;have hw:=yE l.length (by omega);simp only[bL];refine ad.ob func61 ?_;refine gO aa (j3 d @h @o) tI ?_;refine⟨ff (by rw[az (by omega) (by omega)]),le_eq ?_⟩;rw[AS.set_comm d];simp[bL]
theorem Mg (t i w:Nat) (rs R:List AV) (aO bp q:Nat) (c0 X V T Q P O M L K G F:AV) (nl:Bool) (hl:rs.length≤100000) (I:R.length=6) (σ:AS)
 (h:σ aO=some (.cells 74 [c0,X,V,T,Q,P,O,M,L,K,G,F,.fH bp 0 6 6])) (v:σ bp=some (.cells 94 R))
 (ht:R[t]? =some (.ao 44 rs (.tok q) nl)) (y:σ q=some (.tok rs.length)):
 ad prog 59 [.ptr aO 0,zI t,.fH i 0 w w] σ (ah (.bI [])
  ((σ.set bp (.cells 94 (R.set t (.ao 44 (rs++ [.fH i 0 w w]) (.tok q) false)))).set q (.tok (rs.length+1)))) No:=by
 have j:¬aO=q:=nq h y;have o:=aK j;have l:¬bp=q:=nq v y;have g:=aK l;have d:¬aO=bp:=nq v h;have n:=aK d;obtain⟨u,H⟩:=List.getElem?_eq_some_iff.1 ht;have J:t<6:=by omega
 have E:R.take t++ .ao 44 (rs++ [.fH i 0 w w]) (.tok q) false::R.drop (t+1)=R.set t (.ao 44 (rs++ [.fH i 0 w w]) (.tok q) false):=by rw[List.set_eq_take_append_cons_drop,if_pos u]
 refine ad.ob func59 ?_
 repeat' (first
  |refine g1 ?_
  |((first|refine g2 ?_ |((with_reducible apply dX 0 z8);refine dY mixed ?_));simp-implicitDefEqProofs [hl,j,o,l,g,d,n,h,v,y,ht,H,u,J,I])
  |trivial
  |(with_reducible apply j2)
  |((with_reducible first|apply aq.ret|apply aq.skip|apply aq.exit);try simp-implicitDefEqProofs [hl,j,o,l,g,d,n,h,v,y,ht,H,u,J,I]))
 all_goals
  rw[E,AS.set_comm g];exact lR _
def Is (p:Nat×List Int):AV:= .fH p.1 0 p.2.length p.2.length
def Mp (p:Nat×List Int):Is p= .fH p.1 0 p.2.length p.2.length:=rfl
def Pw (p:Nat×List Int):bP:= .cells 3 (p.2.map aS)
def oc:List (Nat×List Int)→AS→AS
 |[],σ=>σ
 |p::r,σ=>oc r (σ.set p.1 (Pw p))
def ef {j:Nat} :∀ {X:List (Nat×List Int)}{σ:AS},(∀p∈X,p.1≠j)→oc X σ j=σ j
 |[],_,_ =>rfl
 |p::r,σ,h=>by rw[oc,ef (fun q d=>h q (by simp[d]))];exact AS.ae _ _ (fun e=>h p (by simp) e.symm)
def yL (p:Nat×List Int):∀(X:List (Nat×List Int)) (σ:AS),oc (X++ [p]) σ=(oc X σ).set p.1 (Pw p)
 |[],_ =>rfl
 |q::r,σ=>by rw[cons_append,oc,yL p r,oc]
def yX (c:Nat) (P:List Int) (p:Nat×List Int):Nat×List Int:=(p.1,p.2.set c (P.getD (p.2.getD c 0).toNat 0))
theorem JI (t c:Nat) (X:List (Nat×List Int)) (P:List Int) (R:List AV) (aO bp:Nat) (o:cC) (nl:Bool) (op:cC) (np:Bool) (c0 c1 c2 c3 c4 c5 c6 c7 c8 c9 K J:AV) (hl:X.length≤100000) (Y:R.length=6) (hP:P.length≤100000) (σ:AS)
 (h:σ aO=some (.cells 74 [c0,c1,c2,c3,c4,c5,c6,c7,c8,c9,K,J,.fH bp 0 6 6])) (L:σ bp=some (.cells 94 R))
 (ht:R[t]? =some (.ao 44 (X.map Is) o nl)) (V:∀p∈X,σ p.1=some (Pw p)∧c<p.2.length∧0≤p.2.getD c 0∧(p.2.getD c 0).toNat<P.length∧p.2.length≤1000) (hN:(X.map (·.1)).Nodup):
 ad prog 31 [.ptr aO 0,zI t,zI c,.ao 3 (P.map aS) op np] σ (ah (.bI []) (oc (X.map (yX c P)) σ)) No:=by
 obtain⟨O,T⟩:=List.getElem?_eq_some_iff.1 ht;have h6:t<6:=by omega
 refine ad.ob func31 ?_;refine gO aa (j5 @h @L @T @h6 @Y) tI ?_;refine aq.aQ (α:=(Nat)) (0) (fun k=>X.length-k) (fun k=>k≤X.length) [(2,?_),(3,?_),(17,?_),(18,?_)] (fun k=> [(19,zI k)]) (fun k=>oc ((X.map (yX c P)).take k) σ) ?_ ?_ ?_ ?_;rotate_left 4
 ·exact gF tI
 ·(try dsimp only);exact lR _
 ·(try dsimp only)<;>first|exact trivial|exact⟨by omega,rfl⟩|omega|(simp;done)|exact⟨by omega,by simp⟩|exact⟨by omega,by simp,rfl⟩
 intro k u;try dsimp only at u⊢
 obtain hk:=u;simp only[eZ];by_cases i:k<X.length
 ·have l:zW ((k:Int)+1)=((k+1:Nat):Int):=bQ (by omega);have E:=V X[k] (List.getElem_mem i);have d:oc ((X.map (yX c P)).take k) σ X[k].1=σ X[k].1:=ef (fun q M=>by obtain⟨j,Q,rfl⟩:=List.mem_take_iff_getElem.1 M;simp only[List.getElem_map,yX];intro e;simp at Q;have:=(List.pairwise_iff_getElem.1 hN) j k (by simp;omega) (by simp;omega) (by omega);simp at this;exact this e);have g:oc ((X.map (yX c P)).take (k+1)) σ=(oc ((X.map (yX c P)).take k) σ).set X[k].1 (Pw (yX c P X[k])):=by rw[List.take_succ_eq_append_getElem (by simpa using i),yL];simp[yX]
  generalize H:X[k]=pk at E d g;obtain⟨id,vs⟩:=pk;simp only[yX,Pw]at E d g;rw[E.1]at d;obtain⟨_,h1,h2,F,h4⟩:=E;have w:vs[c]? =some (vs.getD c 0):=by rw[List.getD_eq_getElem?_getD,List.getElem?_eq_getElem h1];rfl
  generalize vs.getD c 0=v at h2 F g w;obtain⟨n,rfl⟩:∃n:Nat,v=n:=⟨v.toNat,by omega⟩;simp only[Int.toNat_natCast]at F g;have y:P[n]? =some (P.getD n 0):=by rw[List.getD_eq_getElem?_getD,List.getElem?_eq_getElem F];rfl
  generalize P.getD n 0=pv at y g;obtain⟨_,G⟩:=List.getElem?_eq_some_iff.1 w;obtain⟨_,I⟩:=List.getElem?_eq_some_iff.1 y;refine gO aa (j2 (j7 @i @H @Mp @d @h1 @G @F) (j4 @I @aF @aH @l)) tI ?_;refine gB (k+1) (by(try dsimp only);(rw[g];refine le_eq ?_;congr 2;rw[←aF,←List.map_take,←List.map_drop,←List.map_cons,←List.map_append,List.set_eq_take_append_cons_drop,if_pos h1])) ?_;try dsimp only
  exact i
 ·refine gO aa (j2 @i @aH) tI ?_;rw[List.take_of_length_le (by simp;omega)];exact lR _
end Im
end Go.Proofs.YtknalmoackcpbaaGreat
