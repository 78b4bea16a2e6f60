/- Package regions: fits. -/
import Derived.Test.YtknalmoackcpbaaGreatOps2
set_option maxRecDepth 100000
set_option maxHeartbeats 3200000
set_option linter.all false
open Go Go.AW
namespace Go.Proofs.YtknalmoackcpbaaGreat
namespace Rg
open Tryz
abbrev nX:dW:=(.R 0 (.U 1 (.R 2 (.U 3 (.S 4 (.S 5 .D))))))
abbrev nW:dW:=(.S 0 (.S 1 (.S 2 (.S 4 (.S 5 (.S 6 (.R 3 (.R 7 (.S 8 .D)))))))))
theorem fB (S:List Nat):cu prog [(1,nX),(9,nW)] S:=mixed
def nP (a b:Pt):Bool:=decide (a.p=1)&&decide (b.p=1)
def LW (_ _ :Pt):Bool:=false
def jW (l:List Pt) (x:Pt):Bool:= !l.any fun y=> !kX y.s x.s
def je (a b:Cl):Bool:=
 match (bc 1 b).find? (jW (bc 0 a))with
 |some x=>decide (x.p=1)|| !(bc 0 a).any (fun y=> !decide (y.p=1)&&decide (y.s.f=x.s.f))
 |none=>if (decide (a.tf=b.tf)&&decide (a.tt=b.tt))=true then !fP (bc 0 a) (bc 1 b) nP else !fP (bc 0 a) (bc 1 b) LW
theorem xe (k:Int) (c:Cl):(bc k c).length≤3:=by simp[bc];split<;>simp
theorem KG {α:Type}{g:α→Bool}{l:List α}{i:Nat}(h:i<l.length) (h1:∀x∈l.take i,g x=false) (n:g l[i]=true):l.find? g=some l[i]:=by rw[List.find?_eq_some_iff_getElem];refine⟨n,i,h,rfl,fun j o=> ?_⟩;rw[h1 _ (by rw[List.mem_take_iff_getElem];exact⟨j,by omega,rfl⟩)];rfl
theorem KF {α:Type}{g:α→Bool}{l:List α}(h1:∀x∈l,g x=false):l.find? g=none:=by rw[List.find?_eq_none];intro x j;rw[h1 x j];simp
theorem pg (a b:Cl) (σ:AS):ad prog 179 [jg a,jg b] σ (aq (.sc (.bool (je a b))) σ) No:=by
 have Y:=fun σ=>ml 0 a σ;have X:=fun σ=>ml 1 b σ;have hl:=xe 0 a;have hm:=xe 1 b;have S:0<(bc 0 a).length:=by simp[bc]
 have Q:0<(bc 1 b).length:=by simp[bc]
 have e0:(bc 0 a)[0]'S=⟨0,1,⟨a.tf,a.tt⟩⟩:=rfl;have e1:(bc 1 b)[0]'Q=⟨1,1,⟨b.tf,b.tt⟩⟩:=rfl;have w:=fun σ=>vH (bc 0 a) (bc 1 b) .aJ .aJ false false (by omega) (by omega) 227 nP Gr σ;have v:=fun σ=>vH (bc 0 a) (bc 1 b) .aJ .aJ false false (by omega) (by omega) 228 LW HK σ;have hw:=fun(x:Pt) id (σ:AS) h=>fh (bc 0 a) .aJ false (.fn (.func 224) [] [.ptr id 0]) (fun y=> !kX y.s x.s) σ (by omega) (fun y _ =>nJ.fn (first:= []) (args:= [jE y]) (cap:= [.ptr id 0]) (Ih x y id σ h));have hb:=fun(x:Pt) id (σ:AS) h=>fh (bc 0 a) .aJ false (.fn (.func 226) [] [.ptr id 0]) (fun y=> !decide (y.p=1)&&decide (y.s.f=x.s.f)) σ (by omega) (fun y _ =>nJ.fn (first:= []) (args:= [jE y]) (cap:= [.ptr id 0]) (Ig x y id σ h));unfold je;simp only[jg,aG,JX,KC]at Y X w v⊢;have T:∀x,((bc 0 a).any fun y=> !kX y.s x.s)= !jW (bc 0 a) x:=fun x=>by simp[jW]
 simp only[T]at hw;generalize bc 0 a=l at*;generalize bc 1 b=m at*;generalize fP l m nP=b1 at*;generalize fP l m LW=b2 at*;refine ad.ob func179 ?_;refine gO fB tI tI ?_;intro id K;refine gO fB tI tI ?_;intro ai n A;have j:=ba n;obtain⟨B,O,M,L,ab,E⟩:=Dr σ (.cells 158 [zI a.k,zI a.tf,zI a.tt,zI a.hf,zI a.ht,zI a.fl,zI a.a,zI a.b,zI a.c,.sc (.bool a.r)]) (.cells 158 [zI b.k,zI b.tf,zI b.tt,zI b.hf,zI b.ht,zI b.fl,zI b.a,zI b.b,zI b.c,.sc (.bool b.r)]) K A j;simp only[O];clear O;have hle:AS.le σ B:=E B fun _ _ _ _ h=>h;refine gO fB (j2 @M @L) (j2 @Y @X) ?_;refine aA.aY (α:=(Nat)) (0) (fun i=>m.length-i) (fun i=>i≤m.length∧ ∀x∈m.take i,jW l x=false) [(5,?_),(6,?_),(14,?_),(15,?_)] (fun i=> [(16,zI i)]) (fun i=>B) ?_ ?_ ?_ ?_;rotate_left 4
 ·exact gF tI
 ·exact gT
 ·(try dsimp only)<;>first|exact trivial|exact⟨by omega,rfl⟩|omega|(simp;done)|exact⟨by omega,by simp⟩|exact⟨by omega,by simp,rfl⟩
 intro i G;try dsimp only at G⊢
 obtain⟨hi,V⟩:=G;simp only[fm];by_cases o:i<m.length
 ·have D:zW ((i:Int)+1)=((i+1:Nat):Int):=bh (by omega);have u:=hw m[i];have J:=hb m[i];cases P:jW l m[i]with
  |true=>
   rw[KG o V P];dsimp only;rw[P]at u;generalize H:m[i]=x at*;by_cases I:x.p=1
   ·refine gO fB (j4 o @H @jE.eq_1 @ae) tI ?_;intro F q;refine gO fB (j2 @I @jE.eq_1) @u ?_;all_goals exact gJ tI
   ·cases U:l.any (fun y=> !decide (y.p=1)&&decide (y.s.f=x.s.f));all_goals
     rw[U]at J;refine gO fB (j4 o @H @jE.eq_1 @ae) tI ?_;intro F q;refine gO fB (j2 @I @jE.eq_1) (j2 @u @J) ?_;all_goals exact gJ tI
  |false=>
   rw[P]at u;generalize H:m[i]=x at*;refine gO fB (j4 o @H @jE.eq_1 @ae) tI ?_;intro F q;refine gO fB (j2 @D @jE.eq_1) @u ?_;refine aH.mk (i+1) (by(try dsimp only);omega) (gF tI) (by(try dsimp only);exact aw q (lR _)) ?_;try dsimp only
   exact⟨o,dZ o V (by rw[H];exact P)⟩
 ·rw[KF (by rwa [List.take_of_length_le (by omega)]at V)]
  repeat' (first
   |refine g1 ?_
   |((first|refine g2 ?_ |((with_reducible apply dX 1 nX);refine dY mixed ?_)|((with_reducible apply dX 9 nW);refine dY mixed ?_)|((with_reducible apply aj.id);first|apply aj.aL (w _)|apply aj.aL (v _))|((with_reducible apply aM.id);first|apply aM.aL (fun _ =>w _)|apply aM.aL (fun _ =>v _)));simp-implicitDefEqProofs [o,jE,S,Q,e0,e1])
   |trivial
   |(with_reducible apply j2)
   |((with_reducible first|apply aA.ret|apply aA.skip|apply aA.exit);try simp-implicitDefEqProofs)
   |((with_reducible first|apply dd.split|apply bT.split|apply fS.split)<;>(intro Z;(try simp-implicitDefEqProofs only[Z]);(try simp at Z))<;>try simp-implicitDefEqProofs [o,jE,S,Q,e0,e1,ae,au,n,j,M,L]))
  all_goals exact gJ tI
def vG (l:List Cl) (o:cA) (nl:Bool):AV:= .ah 158 (l.map jg) o nl
def qe (j:Cl→Int) (l:Cl→Cl→Bool):List Cl→List Cl→Int×Int
 | _,[]=>(0,0)
 |pre,c::r=>if j c=0 then(if pre.all (fun a=>l a c)=true then qe j l (pre++ [c]) r else((pre.length:Int),12))else((pre.length:Int),j c)
def dH (n:Cl→Int) (j:Cl→Cl→Bool) (l:List Cl):Int×Int:=if 6<l.length then(0,4)else qe n j [] l
theorem bw (c:Cl):jg c= .agg [zI c.k,zI c.tf,zI c.tt,zI c.hf,zI c.ht,zI c.fl,zI c.a,zI c.b,zI c.c,.sc (.bool c.r)]:=rfl
theorem AR (n:Int) (l:List Cl) (o:cA) (nl:Bool) (hl:l.length≤140737488355328) (σ:AS):
 ad prog 125 [zI n,vG l o nl] σ (aq (.cp [zI ((dH (dp n) je l).1),zI ((dH (dp n) je l).2)]) σ) No:=by
 have ha:=fun c σ=>IQ n c σ;have hf:=fun a c σ=>pg a c σ;unfold dH;simp only[vG,bw]at ha hf⊢;generalize dp n=Q at*;generalize je=H at*;refine ad.ob func125 ?_;by_cases U:6<l.length
 ·have G:(6<(l.length:Int))=True:=by simp;omega
  exact gE aa (j2 @U @G) tI
 ·have G:(6<(l.length:Int))=False:=by simp;omega
  rw[if_neg U];refine gO aa @G tI ?_;refine aA.aY (α:=(Nat)) (0) (fun i=>l.length-i) (fun i=>i≤l.length∧qe Q H [] l=qe Q H (l.take i) (l.drop i)) [(0,?_),(1,?_),(14,?_),(15,?_)] (fun i=> [(16,zI i)]) (fun i=>σ) ?_ ?_ ?_ ?_;rotate_left 4
  ·exact gF tI
  ·exact gT
  ·(try dsimp only)<;>first|exact trivial|exact⟨by omega,rfl⟩|omega|(simp;done)|exact⟨by omega,by simp⟩|exact⟨by omega,by simp,rfl⟩
  intro i q;try dsimp only at q⊢
  obtain⟨Y,y⟩:=q;simp only[fm];by_cases u:i<l.length
  ·have I:zW ((i:Int)+1)=((i+1:Nat):Int):=bh (by omega);rw[List.drop_eq_getElem_cons u]at y;simp only[qe,List.length_take]at y;have K:=ha l[i];generalize P:l[i]=c at*;by_cases h0:Q c=0
   ·rw[if_pos h0]at y;refine gO aa (j4 u @P @bw @ae) tI ?_;intro id w;refine gO aa @h0 @K ?_;refine aA.aY (α:=(Nat)) (0) (fun k=>i-k) (fun k=>k≤i∧ ∀x∈l.take k,H x c=true) [(0,?_),(1,?_),(6,?_),(7,?_),(8,?_),(14,?_),(15,?_),(16,?_),(17,?_),(18,?_),(19,?_),(20,?_),(21,?_),(22,?_),(23,?_),(24,?_),(25,?_),(26,?_),(27,?_),(28,?_),(29,?_),(30,?_),(31,?_)] (fun k=> [(32,zI k)]) (fun k=>σ.set id (.cells 158 (jg c).cells)) ?_ ?_ ?_ ?_;rotate_left 23
    ·exact gF tI
    ·exact gT
    ·(try dsimp only)<;>first|exact trivial|exact⟨by omega,rfl⟩|omega|(simp;done)|exact⟨by omega,by simp⟩|exact⟨by omega,by simp,rfl⟩
    intro k q;try dsimp only at q⊢
    obtain⟨X,T⟩:=q;simp only[fm];by_cases S:k<i
    ·have D:zW ((k:Int)+1)=((k+1:Nat):Int):=bh (by omega);have A:=hf l[k] c;have F:k<min i l.length:=by omega
     generalize O:l[k]=d at*;refine gO aa (j4 @O @bw @F @ae) tI ?_;intro V j v;cases L:H d c with
     |true=>
      rw[L]at A;refine gO aa (j2 j @D) @A ?_;refine aH.mk (k+1) (by(try dsimp only);omega) (gF tI) (by(try dsimp only);exact aw (by simp[j,v]) (lR _)) ?_;try dsimp only
      refine⟨by omega,fun x E=> ?_⟩;rw[List.take_succ_eq_append_getElem (by omega)]at E;rcases List.mem_append.1 E with E|E
      ·exact T x E
      ·simp at E;rw[E,O];exact L
     |false=>
      rw[L]at A;have M:¬(l.take i).all (fun a=>H a c)=true:=by intro h;rw[List.all_eq_true]at h;have:=h d (by rw[List.mem_take_iff_getElem];exact⟨k,by omega,O⟩);rw[L]at this;cases this
      rw[if_neg M,show min i l.length=i by omega]at y;rw[y];refine gO aa (j2 j @D) @A ?_;refine aw ?_ (aw w (lR _));simp[j,v]
    ·have J:(l.take i).all (fun a=>H a c)=true:=by rw[List.all_eq_true];intro x E;exact T x (by rwa [show k=i by omega])
     rw[if_pos J]at y;have F:¬k<min i l.length:=by omega
     refine gO aa (j3 @F @ae @I) tI ?_;refine aH.mk (i+1) (by(try dsimp only);omega) (gF tI) (by(try dsimp only);exact aw w (lR _)) ?_;try dsimp only
     refine⟨by omega,?_⟩;rw[y,List.take_succ_eq_append_getElem u,P]
   ·rw[if_neg h0,show min i l.length=i by omega]at y;rw[y];refine gO aa (j4 u @P @bw @ae) tI ?_;intro id w;refine gO aa @h0 @K ?_;all_goals exact gJ tI
  ·rw[List.drop_eq_nil_of_le (by omega)]at y;rw[y];simp only[qe];exact gE aa (j2 u @ae) tI
theorem gg (S:List Nat):cu prog [(3,(.S 0 (.S 2 (.R 1 (.S 4 (.R 3 (.S 5 .D))))))),(5,(.S 0 (.S 2 (.R 1 (.S 4 (.R 3 (.S 5 .D))))))),(7,(.S 0 (.S 2 (.R 1 (.S 4 (.R 3 (.S 5 .D)))))))] S:=mixed
def cQ (c:Cl) (p:Int):Sn:=if p=1 then⟨c.tf,c.tt⟩ else if p=2 then⟨c.hf,c.ht⟩ else if c.k=2 then⟨c.fl,c.hf⟩ else⟨0,0⟩
theorem mA (c:Cl) (p:Int) (σ:AS):ad prog 262 [jg c,zI p] σ (aq (.cp [zI ((cQ c p).f),zI ((cQ c p).t)]) σ) No:=by
 unfold cQ;simp only[bw];refine ad.ob func262 ?_;by_cases h1:p=1
 ·refine gO gg @h1 tI ?_;intro id j;refine gO gg @h1 tI ?_;all_goals exact gJ tI
 by_cases l:p=2
 ·refine gO gg @l tI ?_;intro id j;refine gO gg @l tI ?_;all_goals exact gJ tI
 by_cases n:c.k=2
 ·refine gO gg (j3 @h1 @l @n) tI ?_;intro id j;refine gO gg (j3 @h1 @l @n) tI ?_;all_goals exact gJ tI
 ·refine gO gg (j3 @h1 @l @n) tI ?_;intro id j;refine gO gg (j3 @h1 @l @n) tI ?_;all_goals exact gJ tI
def iC (s t:Sn):Bool:=decide (s.f<t.t)&&(decide (t.f<s.t)&&(decide (s.f<s.t)&&decide (t.f<t.t)))
def jc (s t:Sn):Bool:=(decide (s.f=0)&&decide (s.t=0))||(decide (t.f≤s.f)&&(decide (s.t≤t.t)&&(decide (t.f<s.f)||decide (s.t<t.t))))
theorem tQ (a b:Cl) (p q:Int) (σ:AS):ad prog 261 [jg a,zI p,jg b,zI q] σ (aq (.sc (.bool (iC (cQ a p) (cQ b q)))) σ) No:=by
 have v:=fun σ=>mA a p σ;have n:=fun σ=>mA b q σ;simp only[bw,iC]at v n⊢;generalize cQ a p=s at*;generalize cQ b q=t at*;refine ad.ob func261 ?_;refine gO aa tI tI ?_;intro id w;refine gO aa tI tI ?_;intro y j o;have l:=ba j
 repeat' (first
  |refine g1 ?_
  |((first|refine g2 ?_ |((with_reducible apply aj.id);first|apply aj.aL (v _)|apply aj.aL (n _)));simp-implicitDefEqProofs [j,l])
  |trivial
  |(with_reducible apply j2)
  |((with_reducible first|apply aA.ret|apply aA.skip|apply aA.exit);try simp-implicitDefEqProofs [j,l])
  |((with_reducible first|apply dd.split|apply bT.split|apply fS.split)<;>(intro u;(try simp-implicitDefEqProofs only[u]);(try simp at u))<;>try simp-implicitDefEqProofs [j,l]))
 all_goals exact gJ tI
theorem BS (a b:Cl) (p q:Int) (σ:AS):ad prog 263 [jg a,zI p,jg b,zI q] σ (aq (.sc (.bool (jc (cQ a p) (cQ b q)))) σ) No:=by
 have v:=fun σ=>mA a p σ;have n:=fun σ=>mA b q σ;simp only[bw,jc]at v n⊢;generalize cQ a p=s at*;generalize cQ b q=t at*;refine ad.ob func263 ?_;refine gO aa tI tI ?_;intro id w;refine gO aa tI tI ?_;intro y j o;have l:=ba j
 repeat' (first
  |refine g1 ?_
  |((first|refine g2 ?_ |((with_reducible apply aj.id);first|apply aj.aL (v _)|apply aj.aL (n _)));simp-implicitDefEqProofs [j,l])
  |trivial
  |(with_reducible apply j2)
  |((with_reducible first|apply aA.ret|apply aA.skip|apply aA.exit);try simp-implicitDefEqProofs [j,l])
  |((with_reducible first|apply dd.split|apply bT.split|apply fS.split)<;>(intro u;(try simp-implicitDefEqProofs only[u]);(try simp at u))<;>try simp-implicitDefEqProofs [j,l]))
 all_goals exact gJ tI
def iU (n:Int) (c:Cl):Int:=
 if (decide (c.k<1)||(decide (4<c.k)||(!gq ⟨c.tf,c.tt⟩ n|| !gq ⟨c.hf,c.ht⟩ n)))=true then 3 else
 if ((decide (c.k=2)&&(decide (c.fl<0)||decide (c.hf≤c.fl)))||(!decide (c.k=2)&& !decide (c.fl= -1)))=true then 3 else
 if (iC (cQ c 1) (cQ c 2)||(iC (cQ c 1) (cQ c 3)||iC (cQ c 2) (cQ c 3)))=true then 12 else 0
theorem EI (n:Int) (c:Cl) (σ:AS):ad prog 229 [zI n,jg c] σ (aq (zI (iU n c)) σ) No:=by
 have h1:=fun σ=>tQ c c 1 2 σ;have q:=fun σ=>tQ c c 1 3 σ;have o:=fun σ=>tQ c c 2 3 σ;unfold iU;generalize iC (cQ c 1) (cQ c 2)=w at*;generalize iC (cQ c 1) (cQ c 3)=v at*;generalize iC (cQ c 2) (cQ c 3)=u at*;simp only[bw,gq]at h1 q o⊢;refine ad.ob func229 ?_;refine gO aa tI tI ?_;intro id l
 repeat' (first
  |refine g1 ?_
  |((first|(with_reducible first|apply aA.fork|apply aA.region)|((with_reducible apply aj.id);first|apply aj.aL (h1 _)|apply aj.aL (q _)|apply aj.aL (o _)));simp-implicitDefEqProofs)
  |trivial
  |(with_reducible apply j2)
  |((with_reducible first|apply aA.ret|apply aA.skip|apply aA.exit);try simp-implicitDefEqProofs)
  |((with_reducible first|apply dd.split|apply bT.split|apply fS.split)<;>(intro j;(try simp-implicitDefEqProofs only[j]);(try simp at j))<;>try simp-implicitDefEqProofs))
 all_goals exact gJ tI
theorem gi (S:List Nat):cu prog [(12,(.S 0 (.S 1 (.S 2 (.S 4 (.S 5 (.S 6 (.R 3 (.R 7 (.A 8 (.S 9 .D) .Z))))))))))] S:=mixed
def gR (a b:Cl) (q:Int):Bool:=decide ((cQ b q).f<(cQ b q).t)&&(jc (cQ a 1) (cQ b q)&&(jc (cQ a 2) (cQ b q)&&jc (cQ a 3) (cQ b q)))
def rR (a b:Cl) (q:Int):Bool:=decide (q=1)|| !(decide (a.hf=(cQ b q).f)||(decide (a.k=2)&&decide (a.fl=(cQ b q).f)))
def mc (a b:Cl):Bool:=decide (a.tf=b.tf)&&decide (a.tt=b.tt)
def mR (a b:Cl) (p q:Int):Bool:=iC (cQ a p) (cQ b q)&& !(mc a b&&(decide (p=1)&&decide (q=1)))
def nR (a b:Cl):Bool:=([1,2,3]:List Int).all fun p=>([1,2,3]:List Int).all fun q=> !mR a b p q
def jx (a b:Cl):Bool:=if gR a b 1=true then rR a b 1 else if gR a b 2=true then rR a b 2 else if gR a b 3=true then rR a b 3 else nR a b
theorem Ie {a b:Cl}{q:Nat}(h1:1≤q) (o:q≤3) (l:gR a b q=true) (hn:∀j:Nat,1≤j→j<q→gR a b j=false):jx a b=rR a b q:=by
 unfold jx;have:q=1∨q=2∨q=3:=by omega
 rcases this with rfl|rfl|rfl
 ·rw[show((1:Nat):Int)=1 from rfl]at l⊢;rw[if_pos l]
 ·have:=hn 1 (by omega) (by omega);rw[show((2:Nat):Int)=2 from rfl]at l⊢;rw[show((1:Nat):Int)=1 from rfl]at this;rw[this,if_pos l];rfl
 ·have k1:=hn 1 (by omega) (by omega);have n:=hn 2 (by omega) (by omega);rw[show((3:Nat):Int)=3 from rfl]at l⊢;rw[show((1:Nat):Int)=1 from rfl]at k1;rw[show((2:Nat):Int)=2 from rfl]at n;rw[k1,n,if_pos l];rfl
theorem Ic {a b:Cl}(hn:∀j:Nat,1≤j→j<4→gR a b j=false):jx a b=nR a b:=by unfold jx;have k1:=hn 1 (by omega) (by omega);have n:=hn 2 (by omega) (by omega);have l:=hn 3 (by omega) (by omega);rw[show((1:Nat):Int)=1 from rfl]at k1;rw[show((2:Nat):Int)=2 from rfl]at n;rw[show((3:Nat):Int)=3 from rfl]at l;rw[k1,n,l];rfl
theorem M9 {a b:Cl}{p q:Nat}(h1:1≤p) (n:p≤3) (l:1≤q) (j:q≤3) (h:mR a b p q=true):nR a b=false:=by unfold nR;rw[List.all_eq_false];refine⟨p,by simp;omega,?_⟩;simp only[Bool.not_eq_true];rw[List.all_eq_false];exact⟨q,by simp;omega,by rw[h];simp⟩
theorem Kd {a b:Cl}(h:∀p:Nat,1≤p→p<4→ ∀q:Nat,1≤q→q<4→mR a b p q=false):nR a b=true:=by
 have e:∀x:Int,x∈([1,2,3]:List Int)→ ∃n:Nat,x=n∧1≤n∧n<4:=by
  intro x j;simp at j;rcases j with rfl|rfl|rfl
  ·exact⟨1,rfl,by omega,by omega⟩
  ·exact⟨2,rfl,by omega,by omega⟩
  ·exact⟨3,rfl,by omega,by omega⟩
 unfold nR;rw[List.all_eq_true];intro p y;rw[List.all_eq_true];intro q w;obtain⟨p,rfl,v,u⟩:=e p y;obtain⟨q,rfl,o,l⟩:=e q w;rw[h p v u q o l];rfl
theorem n7 (a b:Cl) (σ:AS):ad prog 230 [jg a,jg b] σ (aq (.sc (.bool (jx a b))) σ) No:=by
 have hb:=fun q σ=>mA b q σ;have hw:=fun p q σ=>BS a b p q σ;have hm:=fun p q σ=>tQ a b p q σ;simp only[bw]at hb hw hm⊢;refine ad.ob func230 ?_;refine gO aa tI tI ?_;intro id M;refine gO aa tI tI ?_;intro a3 n F;have l:=ba n;obtain⟨B,P,y,w,ax,I⟩:=Dr σ (.cells 158 [.sc (.int .i64 a.k),.sc (.int .i64 a.tf),.sc (.int .i64 a.tt),.sc (.int .i64 a.hf),.sc (.int .i64 a.ht),.sc (.int .i64 a.fl),.sc (.int .i64 a.a),.sc (.int .i64 a.b),.sc (.int .i64 a.c),.sc (.bool a.r)]) (.cells 158 [.sc (.int .i64 b.k),.sc (.int .i64 b.tf),.sc (.int .i64 b.tt),.sc (.int .i64 b.hf),.sc (.int .i64 b.ht),.sc (.int .i64 b.fl),.sc (.int .i64 b.a),.sc (.int .i64 b.b),.sc (.int .i64 b.c),.sc (.bool b.r)]) M F l;simp only[P];clear P;have hle:AS.le σ B:=I B fun _ _ _ _ h=>h;refine gO aa tI tI ?_;refine aA.aY (α:=(Nat)) (1) (fun q=>4-q) (fun q=>1≤q∧q≤4∧ ∀j:Nat,1≤j→j<q→gR a b j=false) [(2,?_),(3,?_)] (fun q=> [(5,.sc (.int .i64 q))]) (fun q=>B) ?_ ?_ ?_ ?_;rotate_left 2
 ·exact gF tI
 ·exact gT
 ·exact⟨by omega,by omega,fun j h1 h2=>by omega⟩
 intro q v;try dsimp only at v⊢
 obtain⟨T,q4,X⟩:=v;simp only[fm];by_cases hq:q<4
 ·have u:((q:Int)≤3)=True:=by simp;omega
  have o:IntKind.i64.wrap ((q:Int)+1)=((q+1:Nat):Int):=bh (by omega);have L:=hb q;have w1:=hw 1 q;have w2:=hw 2 q;have w3:=hw 3 q;have S:gR a b q=(decide ((cQ b q).f<(cQ b q).t)&&(jc (cQ a 1) (cQ b q)&&(jc (cQ a 2) (cQ b q)&&jc (cQ a 3) (cQ b q)))):=rfl;have hR:rR a b q=(decide ((q:Int)=1)|| !(decide (a.hf=(cQ b q).f)||(decide (a.k=2)&&decide (a.fl=(cQ b q).f)))):=rfl;have hF:gR a b q=true→jx a b=rR a b q:=fun h=>Ie T (by omega) h X;have A:gR a b q=false→(1≤q+1∧q+1≤4∧ ∀j:Nat,1≤j→j<q+1→gR a b j=false):=fun h=>⟨by omega,by omega,fun j G j2=>by
   by_cases e:j=q
   ·rw[e];exact h
   ·exact X j G (by omega)⟩
  generalize jc (cQ a 1) (cQ b q)=b1 at*;generalize jc (cQ a 2) (cQ b q)=b2 at*;generalize jc (cQ a 3) (cQ b q)=b3 at*;cases Q:gR a b q with
  |true=>
   rw[hF Q,hR];rw[Q]at S;have O:=S.symm;simp only[Bool.and_eq_true,decide_eq_true_eq]at O;obtain⟨g1,rfl,rfl,rfl⟩:=O;generalize cQ b q=t at*
   repeat' (first
    |(with_reducible first|apply aA.seq|apply aA.block|refine j2 (by first|omega|assumption|decide) ?_)
    |((first|(with_reducible first|apply aA.fork|apply aA.region|show dd _ _ _ |show bT _ _ _ _ _ _ _ _ _)|((with_reducible apply aj.id);first|apply aj.aL (L _)|apply aj.aL (w1 _)|apply aj.aL (w2 _)|apply aj.aL (w3 _)));simp-implicitDefEqProofs [u,g1,ae,au,n,l,y,w,o])
    |trivial
    |(with_reducible apply j2)
    |((with_reducible first|apply aA.ret|apply aA.skip|apply aA.exit);try simp-implicitDefEqProofs [u,g1,ae,au,n,l,y,w,o])
    |((with_reducible first|apply dd.split|apply bT.split|apply fS.split)<;>(intro hc;(try simp-implicitDefEqProofs only[hc]);(try simp at hc))<;>try simp-implicitDefEqProofs [u,g1,ae,au,n,l,y,w,o]))
  |false=>
   rw[Q]at S;have hn:=A Q;generalize cQ b q=t at*;by_cases g1:t.f<t.t<;>cases b1<;>cases b2<;>cases b3;all_goals first|(exfalso;simp[g1]at S;done)|skip
   all_goals
    refine gO aa (j5 @u @g1 @y @w @o) (j4 @L @w1 @w2 @w3) ?_;refine aH.mk (q+1) (by(try dsimp only);omega) (gF tI) gT ?_;try dsimp only
    exact hn
 ·obtain rfl:q=4:=by omega
  rw[Ic X];have u:(((4:Nat):Int)≤3)=False:=by simp
  have U:(a.tf=b.tf∧a.tt=b.tt∧mc a b=true)∨(¬a.tf=b.tf∧True∧mc a b=false)∨(a.tf=b.tf∧ ¬a.tt=b.tt∧mc a b=false):=by
   by_cases s1:a.tf=b.tf
   ·by_cases s2:a.tt=b.tt
    ·exact .inl ⟨s1,s2,by simp[mc,s1,s2]⟩
    ·exact .inr (.inr ⟨s1,s2,by simp[mc,s2]⟩)
   ·exact .inr (.inl ⟨s1,trivial,by simp[mc,s1]⟩)
  have hM:∀p q:Int,mR a b p q=(iC (cQ a p) (cQ b q)&& !(mc a b&&(decide (p=1)&&decide (q=1)))):=fun _ _ =>rfl;rcases U with⟨s1,s2,V⟩|⟨s1,s2,V⟩|⟨s1,s2,V⟩;all_goals
   simp only[V]at hM;refine gO aa (j4 @s1 @s2 @y @w) tI ?_;refine aA.aY (α:=(Nat)) (1) (fun p=>4-p) (fun p=>1≤p∧p≤4∧ ∀i:Nat,1≤i→i<p→ ∀j:Nat,1≤j→j<4→mR a b i j=false) [(2,?_),(3,?_),(8,?_)] (fun p=> [(9,.sc (.int .i64 p))]) (fun p=>B) ?_ ?_ ?_ ?_;rotate_left 3
   ·exact gF tI
   ·exact gT
   ·exact⟨by omega,by omega,fun j h1 h2=>by omega⟩
   intro p v;try dsimp only at v⊢
   obtain⟨p1,p4,hY⟩:=v;simp only[fm];by_cases hp:p<4
   ·have J:((p:Int)≤3)=True:=by simp;omega
    have H:IntKind.i64.wrap ((p:Int)+1)=((p+1:Nat):Int):=bh (by omega);refine gO aa @J tI ?_;refine aA.aY (α:=(Nat)) (1) (fun q=>4-q) (fun q=>1≤q∧q≤4∧ ∀j:Nat,1≤j→j<q→mR a b p j=false) [(2,?_),(3,?_),(8,?_),(9,?_),(74,?_),(75,?_)] (fun q=> [(10,.sc (.int .i64 q))]) (fun q=>B) ?_ ?_ ?_ ?_;rotate_left 6
    ·exact gF tI
    ·exact gT
    ·exact⟨by omega,by omega,fun j h1 h2=>by omega⟩
    intro q v;try dsimp only at v⊢
    obtain⟨T,q4,hZ⟩:=v;simp only[fm];by_cases hq:q<4
    ·have u:((q:Int)≤3)=True:=by simp;omega
     have o:IntKind.i64.wrap ((q:Int)+1)=((q+1:Nat):Int):=bh (by omega);have K:=hm p q;have D:=hM p q;have A:mR a b p q=false→(1≤q+1∧q+1≤4∧ ∀j:Nat,1≤j→j<q+1→mR a b p j=false):=fun h=>⟨by omega,by omega,fun j G j2=>by
      by_cases e:j=q
      ·rw[e];exact h
      ·exact hZ j G (by omega)⟩
     have E:mR a b p q=true→nR a b=false:=fun h=>M9 p1 (by omega) T (by omega) h;generalize iC (cQ a p) (cQ b q)=b1 at*;generalize mR a b p q=b2 at*;generalize nR a b=b3 at*;cases b1
     ·simp at D;refine gO aa (j4 @u @y @w @o) @K ?_;refine aH.mk (q+1) (by(try dsimp only);omega) (gF tI) gT ?_;try dsimp only
      exact A D
     ·rcases L9 ((p:Int)=1)with Z|Z<;>rcases L9 ((q:Int)=1)with Y|Y;all_goals
       simp[Z,Y]at D;subst D;simp at E A
       (try rw[E])
       refine gO aa (j6 @u @Z @Y @y @w @o) @K ?_;try exact hle
      all_goals
       refine aH.mk (q+1) (by(try dsimp only);omega) (gF tI) gT ?_;try dsimp only
       simpa using A
    ·obtain rfl:q=4:=by omega
     have u:(((4:Nat):Int)≤3)=False:=by simp
     refine gO aa @H tI ?_;refine aH.mk (p+1) (by(try dsimp only);omega) (gF tI) gT ?_;try dsimp only
     refine⟨by omega,by omega,fun i i1 i2 j G j2=> ?_⟩;by_cases e:i=p
     ·rw[e];exact hZ j G j2
     ·exact hY i i1 (by omega) j G j2
   ·obtain rfl:p=4:=by omega
    have J:(((4:Nat):Int)≤3)=False:=by simp
    rw[Kd hY];refine gO aa tI tI ?_;try exact hle
theorem EG (n:Int) (l:List Cl) (o:cA) (nl:Bool) (hl:l.length≤140737488355328) (σ:AS):
 ad prog 182 [zI n,vG l o nl] σ (aq (.cp [zI ((dH (iU n) jx l).1),zI ((dH (iU n) jx l).2)]) σ) No:=by
 have ha:=fun c σ=>EI n c σ;have hf:=fun a c σ=>n7 a c σ;unfold dH;simp only[vG,bw]at ha hf⊢;generalize iU n=O at*;generalize jx=D at*;refine ad.ob func182 ?_;by_cases Q:6<l.length
 ·have A:(6<(l.length:Int))=True:=by simp;omega
  exact gE gi (j2 @Q @A) tI
 ·have A:(6<(l.length:Int))=False:=by simp;omega
  rw[if_neg Q];refine gO gi @A tI ?_;refine aA.aY (α:=(Nat)) (0) (fun i=>l.length-i) (fun i=>i≤l.length∧qe O D [] l=qe O D (l.take i) (l.drop i)) [(0,?_),(1,?_)] (fun i=> [(6,zI i)]) (fun i=>σ) ?_ ?_ ?_ ?_;rotate_left 2
  ·exact gF tI
  ·exact gT
  ·(try dsimp only)<;>first|exact trivial|exact⟨by omega,rfl⟩|omega|(simp;done)|exact⟨by omega,by simp⟩|exact⟨by omega,by simp,rfl⟩
  intro i q;try dsimp only at q⊢
  obtain⟨T,v⟩:=q;simp only[fm];by_cases j:i<l.length
  ·have F:zW ((i:Int)+1)=((i+1:Nat):Int):=bh (by omega);rw[List.drop_eq_getElem_cons j]at v;simp only[qe,List.length_take]at v;have J:=ha l[i];generalize H:l[i]=c at*;by_cases h0:O c=0
   ·rw[if_pos h0]at v;refine gO gi (j5 j @H @bw @h0 @ae) @J ?_;refine aA.aY (α:=(Nat)) (0) (fun k=>i-k) (fun k=>k≤i∧ ∀x∈l.take k,D x c=true) [(0,?_),(1,?_),(6,?_),(7,?_),(12,?_),(13,?_),(14,?_),(15,?_),(18,?_),(19,?_),(20,?_),(21,?_),(22,?_),(23,?_),(24,?_),(25,?_),(26,?_),(27,?_)] (fun k=> [(8,zI k)]) (fun k=>σ) ?_ ?_ ?_ ?_;rotate_left 18
    ·exact gF tI
    ·exact gT
    ·(try dsimp only)<;>first|exact trivial|exact⟨by omega,rfl⟩|omega|(simp;done)|exact⟨by omega,by simp⟩|exact⟨by omega,by simp,rfl⟩
    intro k q;try dsimp only at q⊢
    obtain⟨S,P⟩:=q;simp only[fm];by_cases u:k<i
    ·have E:zW ((k:Int)+1)=((k+1:Nat):Int):=bh (by omega);have w:=hf l[k] c;have G:k<l.length:=by omega
     generalize K:l[k]=d at*;cases L:D d c with
     |true=>
      rw[L]at w;refine gO gi (j8 j @H @u @K @bw @G @ae @E) @w ?_;refine aH.mk (k+1) (by(try dsimp only);omega) (gF tI) gT ?_;try dsimp only
      refine⟨by omega,fun x y=> ?_⟩;rw[List.take_succ_eq_append_getElem (by omega)]at y;rcases List.mem_append.1 y with y|y
      ·exact P x y
      ·simp at y;rw[y,K];exact L
     |false=>
      rw[L]at w;have M:¬(l.take i).all (fun a=>D a c)=true:=by intro h;rw[List.all_eq_true]at h;have:=h d (by rw[List.mem_take_iff_getElem];exact⟨k,by omega,K⟩);rw[L]at this;cases this
      rw[if_neg M,show min i l.length=i by omega]at v;rw[v];exact gE gi (j7 j @H @u @K @bw @G @ae) @w
    ·have I:(l.take i).all (fun a=>D a c)=true:=by rw[List.all_eq_true];intro x y;exact P x (by rwa [show k=i by omega])
     rw[if_pos I]at v;refine gO gi (j3 @u @ae @F) tI ?_;refine aH.mk (i+1) (by(try dsimp only);omega) (gF tI) gT ?_;try dsimp only
     refine⟨by omega,?_⟩;rw[v,List.take_succ_eq_append_getElem j,H]
   ·rw[if_neg h0,show min i l.length=i by omega]at v;rw[v];exact gE gi (j5 j @H @bw @h0 @ae) @J
  ·rw[List.drop_eq_nil_of_le (by omega)]at v;rw[v];simp only[qe];exact gE gi (j2 j @ae) tI
theorem mg (n:Int) (l:List Cl) (o:cA) (nl:Bool) (hl:l.length≤140737488355328) (σ:AS):
 ad prog 129 [zI n,vG l o nl] σ (aq (.sc (.bool (decide ((dH (iU n) jx l).2=0)))) σ) No:=by
 have j:=EG n l o nl hl σ;simp only[vG]at j⊢;refine ad.ob func129 ?_;exact gE aa tI @j
end Rg
namespace Im
open Tryz
open Sg (jL gr il iO dZ aE)
open Rg (Cl jg bw)
def iV (n:Int):AV:=zI n
theorem oA (n:Int):iV n=zI n:=rfl
theorem eu (x:dM):bJ x= .agg [zI x.op,zI x.arg,zI x.t.kind,zI x.t.index,zI x.t.cT,.sc (.bool x.t.ref)]:=rfl
structure TD where
 name:zY
 flags:Int
 ext:Int
 bO:List Int
 fn:Bool
def jD (t:TD):AV:= .agg [zS t.name,zI t.flags,zI t.ext,.ah 3 (t.bO.map iV) .aJ t.fn]
theorem cK (t:TD):jD t= .agg [zS t.name,zI t.flags,zI t.ext,.ah 3 (t.bO.map iV) .aJ t.fn]:=rfl
structure Fd where
 name:zY
 owner:Int
 ty:Ty
 stat:Bool
def lu (f:Fd):AV:= .agg [zS f.name,zI f.owner,zI f.ty.kind,zI f.ty.index,zI f.ty.cT,.sc (.bool f.ty.ref),.sc (.bool f.stat)]
theorem dq (f:Fd):lu f= .agg [zS f.name,zI f.owner,zI f.ty.kind,zI f.ty.index,zI f.ty.cT,.sc (.bool f.ty.ref),.sc (.bool f.stat)]:=rfl
structure Mt where
 name:zY
 owner:Int
 flags:Int
 ps:List Ty
 pn:Bool
 ret:Ty
 ls:List Ty
 ln:Bool
 max:Int
 code:List dM
 cn:Bool
 cls:List Cl
 xn:Bool
def fM (m:Mt):AV:= .agg [zS m.name,zI m.owner,zI m.flags,.ah 49 (m.ps.map cB) .aJ m.pn,zI m.ret.kind,zI m.ret.index,zI m.ret.cT,.sc (.bool m.ret.ref),.ah 49 (m.ls.map cB) .aJ m.ln,zI m.max,.ah 110 (m.code.map bJ) .aJ m.cn,.ah 158 (m.cls.map jg) .aJ m.xn]
theorem aT (m:Mt):fM m= .agg [zS m.name,zI m.owner,zI m.flags,.ah 49 (m.ps.map cB) .aJ m.pn,zI m.ret.kind,zI m.ret.index,zI m.ret.cT,.sc (.bool m.ret.ref),.ah 49 (m.ls.map cB) .aJ m.ln,zI m.max,.ah 110 (m.code.map bJ) .aJ m.cn,.ah 158 (m.cls.map jg) .aJ m.xn]:=rfl
structure bZ where
 ts:List TD
 tn:Bool
 fs:List Fd
 fn:Bool
 ms:List Mt
 mn:Bool
 entry:Int
def lp (g:bZ):AV:= .agg [.ah 46 (g.ts.map jD) .aJ g.tn,.ah 56 (g.fs.map lu) .aJ g.fn,.ah 53 (g.ms.map fM) .aJ g.mn,zI g.entry]
theorem aN (g:bZ):lp g= .agg [.ah 46 (g.ts.map jD) .aJ g.tn,.ah 56 (g.fs.map lu) .aJ g.fn,.ah 53 (g.ms.map fM) .aJ g.mn,zI g.entry]:=rfl
theorem Gu (l:List TD) (o:cA) (nl:Bool) (w:AV) (g:TD→Bool) (σ:AS) (hl:l.length≤140737488355328) (hf:∀x∈l,nJ prog σ w [jD x] (.sc (.bool (g x)))):
 ad prog 112 [.ah 46 (l.map jD) o nl,w] σ (aq (zI (jL g l)) σ) No:=by
 refine ad.ob func112 ?_;refine gO aa tI tI ?_;refine aA.aY (α:=(Nat)) (0) (fun i=>l.length-i) (fun i=>i≤l.length∧ ∀x∈l.take i,g x=false) [(0,?_),(1,?_),(7,?_)] (fun i=> [(8,zI i)]) (fun i=>σ) ?_ ?_ ?_ ?_;rotate_left 3
 ·exact gF tI
 ·exact gT
 ·(try dsimp only)<;>first|exact trivial|exact⟨by omega,rfl⟩|omega|(simp;done)|exact⟨by omega,by simp⟩|exact⟨by omega,by simp,rfl⟩
 intro i q;try dsimp only at q⊢
 obtain⟨y,v⟩:=q;simp only[fm];by_cases j:i<l.length
 ·have n:zW ((i:Int)+1)=((i+1:Nat):Int):=bh (by omega);have hu:=(hf l[i] (List.getElem_mem j));simp only[cK]at hu;cases u:g l[i]with
  |true=>
   rw[u]at hu;rw[gr j v u];repeat (first
    |refine g1 ?_
    |((first|refine g2 ?_ |((with_reducible apply aj.id);first|apply (hu.use)));simp-implicitDefEqProofs [j,cK])
    |(refine g3 ?_;try simp-implicitDefEqProofs))
  |false=>
   rw[u]at hu;repeat (first
    |refine g1 ?_
    |((first|refine g2 ?_ |((with_reducible apply aj.id);first|apply (hu.use)));simp-implicitDefEqProofs [j,cK,n])
    |(refine g3 ?_;try simp-implicitDefEqProofs))
   refine aH.mk (i+1) (by(try dsimp only);omega) (gF tI) gT ?_;try dsimp only
   exact⟨j,dZ j v u⟩
 ·rw[il (by rwa [List.take_of_length_le (by omega)]at v)];exact gE aa (j2 j @ae) tI
theorem Gv (l:List TD) (o:cA) (nl:Bool) (j:AV) (g:TD→Bool) (σ:AS) (hl:l.length≤140737488355328) (hf:∀x∈l,nJ prog σ j [jD x] (.sc (.bool (g x)))):
 ad prog 48 [.ah 46 (l.map jD) o nl,j] σ (aq (.sc (.bool (l.any g))) σ) No:=by
 have n:=Gu l o nl j g σ hl hf;rw[←iO];refine ad.ob func48 ?_;exact gE aa tI @n
theorem H8 (l:List Int) (o:cA) (nl:Bool) (w:AV) (g:Int→Bool) (σ:AS) (hl:l.length≤140737488355328) (hf:∀x∈l,nJ prog σ w [iV x] (.sc (.bool (g x)))):
 ad prog 113 [.ah 3 (l.map iV) o nl,w] σ (aq (zI (jL g l)) σ) No:=by
 refine ad.ob func113 ?_;refine gO aa tI tI ?_;refine aA.aY (α:=(Nat)) (0) (fun i=>l.length-i) (fun i=>i≤l.length∧ ∀x∈l.take i,g x=false) [(0,?_),(1,?_),(7,?_)] (fun i=> [(8,zI i)]) (fun i=>σ) ?_ ?_ ?_ ?_;rotate_left 3
 ·exact gF tI
 ·exact gT
 ·(try dsimp only)<;>first|exact trivial|exact⟨by omega,rfl⟩|omega|(simp;done)|exact⟨by omega,by simp⟩|exact⟨by omega,by simp,rfl⟩
 intro i q;try dsimp only at q⊢
 obtain⟨y,v⟩:=q;simp only[fm];by_cases j:i<l.length
 ·have n:zW ((i:Int)+1)=((i+1:Nat):Int):=bh (by omega);have hu:=(hf l[i] (List.getElem_mem j));simp only[oA]at hu;cases u:g l[i]with
  |true=>
   rw[u]at hu;rw[gr j v u];repeat (first
    |refine g1 ?_
    |((first|refine g2 ?_ |((with_reducible apply aj.id);first|apply (hu.use)));simp-implicitDefEqProofs [j,oA])
    |(refine g3 ?_;try simp-implicitDefEqProofs))
  |false=>
   rw[u]at hu;repeat (first
    |refine g1 ?_
    |((first|refine g2 ?_ |((with_reducible apply aj.id);first|apply (hu.use)));simp-implicitDefEqProofs [j,oA,n])
    |(refine g3 ?_;try simp-implicitDefEqProofs))
   refine aH.mk (i+1) (by(try dsimp only);omega) (gF tI) gT ?_;try dsimp only
   exact⟨j,dZ j v u⟩
 ·rw[il (by rwa [List.take_of_length_le (by omega)]at v)];exact gE aa (j2 j @ae) tI
theorem H9 (l:List Int) (o:cA) (nl:Bool) (j:AV) (g:Int→Bool) (σ:AS) (hl:l.length≤140737488355328) (hf:∀x∈l,nJ prog σ j [iV x] (.sc (.bool (g x)))):
 ad prog 50 [.ah 3 (l.map iV) o nl,j] σ (aq (.sc (.bool (l.any g))) σ) No:=by
 have n:=H8 l o nl j g σ hl hf;rw[←iO];refine ad.ob func50 ?_;exact gE aa tI @n
theorem H3 (l:List dM) (o:cA) (nl:Bool) (w:AV) (g:dM→Bool) (σ:AS) (hl:l.length≤140737488355328) (hf:∀x∈l,nJ prog σ w [bJ x] (.sc (.bool (g x)))):
 ad prog 174 [.ah 110 (l.map bJ) o nl,w] σ (aq (zI (jL g l)) σ) No:=by
 refine ad.ob func174 ?_;refine gO aa tI tI ?_;refine aA.aY (α:=(Nat)) (0) (fun i=>l.length-i) (fun i=>i≤l.length∧ ∀x∈l.take i,g x=false) [(0,?_),(1,?_),(7,?_)] (fun i=> [(8,zI i)]) (fun i=>σ) ?_ ?_ ?_ ?_;rotate_left 3
 ·exact gF tI
 ·exact gT
 ·(try dsimp only)<;>first|exact trivial|exact⟨by omega,rfl⟩|omega|(simp;done)|exact⟨by omega,by simp⟩|exact⟨by omega,by simp,rfl⟩
 intro i q;try dsimp only at q⊢
 obtain⟨y,v⟩:=q;simp only[fm];by_cases j:i<l.length
 ·have n:zW ((i:Int)+1)=((i+1:Nat):Int):=bh (by omega);have hu:=(hf l[i] (List.getElem_mem j));simp only[eu]at hu;cases u:g l[i]with
  |true=>
   rw[u]at hu;rw[gr j v u];repeat (first
    |refine g1 ?_
    |((first|refine g2 ?_ |((with_reducible apply aj.id);first|apply (hu.use)));simp-implicitDefEqProofs [j,eu])
    |(refine g3 ?_;try simp-implicitDefEqProofs))
  |false=>
   rw[u]at hu;repeat (first
    |refine g1 ?_
    |((first|refine g2 ?_ |((with_reducible apply aj.id);first|apply (hu.use)));simp-implicitDefEqProofs [j,eu,n])
    |(refine g3 ?_;try simp-implicitDefEqProofs))
   refine aH.mk (i+1) (by(try dsimp only);omega) (gF tI) gT ?_;try dsimp only
   exact⟨j,dZ j v u⟩
 ·rw[il (by rwa [List.take_of_length_le (by omega)]at v)];exact gE aa (j2 j @ae) tI
theorem H5 (l:List dM) (o:cA) (nl:Bool) (j:AV) (g:dM→Bool) (σ:AS) (hl:l.length≤140737488355328) (hf:∀x∈l,nJ prog σ j [bJ x] (.sc (.bool (g x)))):
 ad prog 119 [.ah 110 (l.map bJ) o nl,j] σ (aq (.sc (.bool (l.any g))) σ) No:=by
 have n:=H3 l o nl j g σ hl hf;rw[←iO];refine ad.ob func119 ?_;exact gE aa tI @n
theorem IC (l:List Cl) (o:cA) (nl:Bool) (w:AV) (g:Cl→Bool) (σ:AS) (hl:l.length≤140737488355328) (hf:∀x∈l,nJ prog σ w [jg x] (.sc (.bool (g x)))):
 ad prog 177 [.ah 158 (l.map jg) o nl,w] σ (aq (zI (jL g l)) σ) No:=by
 refine ad.ob func177 ?_;refine gO aa tI tI ?_;refine aA.aY (α:=(Nat)) (0) (fun i=>l.length-i) (fun i=>i≤l.length∧ ∀x∈l.take i,g x=false) [(0,?_),(1,?_),(7,?_)] (fun i=> [(8,zI i)]) (fun i=>σ) ?_ ?_ ?_ ?_;rotate_left 3
 ·exact gF tI
 ·exact gT
 ·(try dsimp only)<;>first|exact trivial|exact⟨by omega,rfl⟩|omega|(simp;done)|exact⟨by omega,by simp⟩|exact⟨by omega,by simp,rfl⟩
 intro i q;try dsimp only at q⊢
 obtain⟨y,v⟩:=q;simp only[fm];by_cases j:i<l.length
 ·have n:zW ((i:Int)+1)=((i+1:Nat):Int):=bh (by omega);have hu:=(hf l[i] (List.getElem_mem j));simp only[bw]at hu;cases u:g l[i]with
  |true=>
   rw[u]at hu;rw[gr j v u];repeat (first
    |refine g1 ?_
    |((first|refine g2 ?_ |((with_reducible apply aj.id);first|apply (hu.use)));simp-implicitDefEqProofs [j,bw])
    |(refine g3 ?_;try simp-implicitDefEqProofs))
  |false=>
   rw[u]at hu;repeat (first
    |refine g1 ?_
    |((first|refine g2 ?_ |((with_reducible apply aj.id);first|apply (hu.use)));simp-implicitDefEqProofs [j,bw,n])
    |(refine g3 ?_;try simp-implicitDefEqProofs))
   refine aH.mk (i+1) (by(try dsimp only);omega) (gF tI) gT ?_;try dsimp only
   exact⟨j,dZ j v u⟩
 ·rw[il (by rwa [List.take_of_length_le (by omega)]at v)];exact gE aa (j2 j @ae) tI
theorem ID (l:List Cl) (o:cA) (nl:Bool) (j:AV) (g:Cl→Bool) (σ:AS) (hl:l.length≤140737488355328) (hf:∀x∈l,nJ prog σ j [jg x] (.sc (.bool (g x)))):
 ad prog 122 [.ah 158 (l.map jg) o nl,j] σ (aq (.sc (.bool (l.any g))) σ) No:=by
 have n:=IC l o nl j g σ hl hf;rw[←iO];refine ad.ob func122 ?_;exact gE aa tI @n
end Im
end Go.Proofs.YtknalmoackcpbaaGreat
