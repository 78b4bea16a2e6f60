/- Chapter 09: the document's Fits, Check, Right. -/
import Derived.Test.YtknalmoackcpbaaGreatOps1
import Derived.Test.YtknalmoackcpbaaGreatSig8
set_option maxRecDepth 100000
set_option maxHeartbeats 3200000
set_option linter.all false
open Go Go.AW Go.Proofs.Tryz List
namespace Go.Proofs.YtknalmoackcpbaaGreat
namespace Rg
def gk (S:List Nat):bH prog [(12,(.S 0 (.S 1 (.S 2 (.S 4 (.S 5 (.S 6 (.R 3 (.R 7 (.A 8 (.S 9 .D) .Z))))))))))] S:=mixed
def gR (a b:Cl) (q:Int):Bool:=decide ((dw b q).f<(dw b q).t)&&(jB (dw a 1) (dw b q)&&(jB (dw a 2) (dw b q)&&jB (dw a 3) (dw b q)))
def rR (a b:Cl) (q:Int):Bool:=decide (q=1)|| !(decide (a.hf=(dw b q).f)||(decide (a.k=2)&&decide (a.fl=(dw b q).f)))
def nG (a b:Cl):Bool:=decide (a.tf=b.tf)&&decide (a.tt=b.tt)
def mR (a b:Cl) (p q:Int):Bool:=iJ (dw a p) (dw b q)&& !(nG a b&&(decide (p=1)&&decide (q=1)))
def nR (a b:Cl):Bool:=([1,2,3]:List Int).all fun p=>([1,2,3]:List Int).all fun q=> !mR a b p q
def kC (a b:Cl):Bool:=if gR a b 1=true then rR a b 1 else if gR a b 2=true then rR a b 2 else if gR a b 3=true then rR a b 3 else nR a b
def KM {a b:Cl}{q:Nat}(h1:1≤q) (n:q≤3) (d:gR a b q=true) (hn:∀j:Nat,1≤j→j<q→gR a b j=false):kC a b=rR a b q:=by
 unfold kC;have:q=1∨q=2∨q=3:=by omega
 rcases this with rfl|rfl|rfl
 ·rw[show((1:Nat):Int)=1 from rfl]at d⊢;rw[if_pos d]
 ·have:=hn 1 (by omega) (by omega);rw[show((2:Nat):Int)=2 from rfl]at d⊢;rw[show((1:Nat):Int)=1 from rfl]at this;rw[this,if_pos d];rfl
 ·have k1:=hn 1 (by omega) (by omega);have g:=hn 2 (by omega) (by omega);rw[show((3:Nat):Int)=3 from rfl]at d⊢;rw[show((1:Nat):Int)=1 from rfl]at k1;rw[show((2:Nat):Int)=2 from rfl]at g;rw[k1,g,if_pos d];rfl
def KL {a b:Cl}(hn:∀j:Nat,1≤j→j<4→gR a b j=false):kC a b=nR a b:=by unfold kC;have k1:=hn 1 (by omega) (by omega);have g:=hn 2 (by omega) (by omega);have d:=hn 3 (by omega) (by omega);rw[show((1:Nat):Int)=1 from rfl]at k1;rw[show((2:Nat):Int)=2 from rfl]at g;rw[show((3:Nat):Int)=3 from rfl]at d;rw[k1,g,d];rfl
def Qa {a b:Cl}{p q:Nat}(h1:1≤p) (j:p≤3) (g:1≤q) (d:q≤3) (h:mR a b p q=true):nR a b=false:=by unfold nR;rw[all_eq_false];refine⟨p,by simp;omega,?_⟩;simp only[Bool.not_eq_true];rw[all_eq_false];exact⟨q,by simp;omega,by rw[h];simp⟩
def M6 {a b:Cl}(h:∀p:Nat,1≤p→p<4→ ∀q:Nat,1≤q→q<4→mR a b p q=false):nR a b=true:=by
 have e:∀x:Int,x∈([1,2,3]:List Int)→ ∃n:Nat,x=n∧1≤n∧n<4:=by
  intro x hx;simp at hx;rcases hx with rfl|rfl|rfl
  ·exact⟨1,rfl,by omega,by omega⟩
  ·exact⟨2,rfl,by omega,by omega⟩
  ·exact⟨3,rfl,by omega,by omega⟩
 unfold nR;rw[all_eq_true];intro p w;rw[all_eq_true];intro q v;obtain⟨p,rfl,u,j⟩:=e p w;obtain⟨q,rfl,g,d⟩:=e q v;rw[h p u j q g d];rfl
def Jl (a b:Cl) (σ:AS):ad prog 230 [fY a,fY b] σ (ah (.sc (.bool (kC a b))) σ) No:=by
 have hb:=fun q σ=>nN b q σ;have hw:=fun p q σ=>DT a b p q σ;have hm:=fun p q σ=>vA a b p q σ;simp only[aL]at hb hw hm⊢;refine ad.ob func230 ?_;refine gO aa tI tI ?_;intro id Q;refine gO aa tI tI ?_;intro bc v H;have u:=aK v;obtain⟨B,V,w,E,a6,K⟩:=FP σ (.cells 158 [.sc (.int .i64 a.k),.sc (.int .i64 a.tf),.sc (.int .i64 a.tt),.sc (.int .i64 a.hf),.sc (.int .i64 a.ht),.sc (.int .i64 a.fl),.sc (.int .i64 a.a),.sc (.int .i64 a.b),.sc (.int .i64 a.c),.sc (.bool a.r)]) (.cells 158 [.sc (.int .i64 b.k),.sc (.int .i64 b.tf),.sc (.int .i64 b.tt),.sc (.int .i64 b.hf),.sc (.int .i64 b.ht),.sc (.int .i64 b.fl),.sc (.int .i64 b.a),.sc (.int .i64 b.b),.sc (.int .i64 b.c),.sc (.bool b.r)]) Q H u;simp only[V];clear V;have hle:AS.le σ B:=K B fun _ _ _ _ h=>h;refine gO aa tI tI ?_;refine aq.aQ (α:=(Nat)) (1) (fun q=>4-q) (fun q=>1≤q∧q≤4∧ ∀j:Nat,1≤j→j<q→gR a b j=false) [(2,?_),(3,?_)] (fun q=> [(5,.sc (.int .i64 q))]) (fun q=>B) ?_ ?_ ?_ ?_;rotate_left 2
 ·exact gF tI
 ·exact gT
 ·exact⟨by omega,by omega,fun j h1 h2=>by omega⟩
 intro q d;try dsimp only at d⊢
 obtain⟨q1,q4,hX⟩:=d;simp only[eZ];by_cases hq:q<4
 ·have g:((q:Int)≤3)=True:=by simp;omega
  have n:IntKind.i64.wrap ((q:Int)+1)=((q+1:Nat):Int):=bQ (by omega);have O:=hb q;have w1:=hw 1 q;have w2:=hw 2 q;have w3:=hw 3 q;have Y:gR a b q=(decide ((dw b q).f<(dw b q).t)&&(jB (dw a 1) (dw b q)&&(jB (dw a 2) (dw b q)&&jB (dw a 3) (dw b q)))):=rfl;have hR:rR a b q=(decide ((q:Int)=1)|| !(decide (a.hf=(dw b q).f)||(decide (a.k=2)&&decide (a.fl=(dw b q).f)))):=rfl;have hF:gR a b q=true→kC a b=rR a b q:=fun h=>KM q1 (by omega) h hX;have y:gR a b q=false→(1≤q+1∧q+1≤4∧ ∀j:Nat,1≤j→j<q+1→gR a b j=false):=fun h=>⟨by omega,by omega,fun j I j2=>by
   by_cases e:j=q
   ·rw[e];exact h
   ·exact hX j I (by omega)⟩
  generalize jB (dw a 1) (dw b q)=b1 at*;generalize jB (dw a 2) (dw b q)=b2 at*;generalize jB (dw a 3) (dw b q)=b3 at*;cases X:gR a b q with
  |true=>
   rw[hF X,hR];rw[X]at Y;have T:=Y.symm;simp only[Bool.and_eq_true,decide_eq_true_eq]at T;obtain⟨g1,rfl,rfl,rfl⟩:=T;generalize dw b q=t at*
   repeat' (first
    |(with_reducible first|apply aq.seq|apply aq.block|refine j2 (by first|omega|assumption|decide) ?_)
    |((first|(with_reducible first|apply aq.fork|apply aq.region|show cJ _ _ _ |show bx _ _ _ _ _ _ _ _ _)|((with_reducible apply ag.id);first|apply ag.ay (O _)|apply ag.ay (w1 _)|apply ag.ay (w2 _)|apply ag.ay (w3 _)));simp-implicitDefEqProofs [g,g1,w,E])
    |trivial
    |(with_reducible apply j2)
    |((with_reducible first|apply aq.ret|apply aq.skip|apply aq.exit);try simp-implicitDefEqProofs)
    |((with_reducible first|apply cJ.split|apply bx.split|apply fG.split)<;>(intro hc;(try simp-implicitDefEqProofs only[hc]);(try simp at hc))<;>try simp-implicitDefEqProofs [w]))
  |false=>
   rw[X]at Y;have hn:=y X;generalize dw b q=t at*;by_cases g1:t.f<t.t<;>cases b1<;>cases b2<;>cases b3;all_goals first|(exfalso;simp[g1]at Y;done)|skip
   all_goals
    refine gO aa (j5 @g @g1 @w @E @n) (j4 @O @w1 @w2 @w3) ?_;refine gB (q+1) gT ?_;try dsimp only
    exact hn
 ·obtain rfl:q=4:=by omega
  rw[KL hX];have g:(((4:Nat):Int)≤3)=False:=by simp
  have ac:(a.tf=b.tf∧a.tt=b.tt∧nG a b=true)∨(¬a.tf=b.tf∧True∧nG a b=false)∨(a.tf=b.tf∧ ¬a.tt=b.tt∧nG a b=false):=by
   by_cases s1:a.tf=b.tf
   ·by_cases s2:a.tt=b.tt
    ·exact .inl ⟨s1,s2,by simp[nG,s1,s2]⟩
    ·exact .inr (.inr ⟨s1,s2,by simp[nG,s2]⟩)
   ·exact .inr (.inl ⟨s1,trivial,by simp[nG,s1]⟩)
  have hM:∀p q:Int,mR a b p q=(iJ (dw a p) (dw b q)&& !(nG a b&&(decide (p=1)&&decide (q=1)))):=fun _ _ =>rfl;rcases ac with⟨s1,s2,hs⟩|⟨s1,s2,hs⟩|⟨s1,s2,hs⟩;all_goals
   simp only[hs]at hM;refine gO aa (j4 @s1 @s2 @w @E) tI ?_;refine aq.aQ (α:=(Nat)) (1) (fun p=>4-p) (fun p=>1≤p∧p≤4∧ ∀i:Nat,1≤i→i<p→ ∀j:Nat,1≤j→j<4→mR a b i j=false) [(2,?_),(3,?_),(8,?_)] (fun p=> [(9,.sc (.int .i64 p))]) (fun p=>B) ?_ ?_ ?_ ?_;rotate_left 3
   ·exact gF tI
   ·exact gT
   ·exact⟨by omega,by omega,fun j h1 h2=>by omega⟩
   intro p d;try dsimp only at d⊢
   obtain⟨p1,p4,hY⟩:=d;simp only[eZ];by_cases hp:p<4
   ·have L:((p:Int)≤3)=True:=by simp;omega
    have J:IntKind.i64.wrap ((p:Int)+1)=((p+1:Nat):Int):=bQ (by omega);refine gO aa @L tI ?_;refine aq.aQ (α:=(Nat)) (1) (fun q=>4-q) (fun q=>1≤q∧q≤4∧ ∀j:Nat,1≤j→j<q→mR a b p j=false) [(2,?_),(3,?_),(8,?_),(9,?_),(74,?_),(75,?_)] (fun q=> [(10,.sc (.int .i64 q))]) (fun q=>B) ?_ ?_ ?_ ?_;rotate_left 6
    ·exact gF tI
    ·exact gT
    ·exact⟨by omega,by omega,fun j h1 h2=>by omega⟩
    intro q d;try dsimp only at d⊢
    obtain⟨q1,q4,hZ⟩:=d;simp only[eZ];by_cases hq:q<4
    ·have g:((q:Int)≤3)=True:=by simp;omega
     have n:IntKind.i64.wrap ((q:Int)+1)=((q+1:Nat):Int):=bQ (by omega);have M:=hm p q;have F:=hM p q;have y:mR a b p q=false→(1≤q+1∧q+1≤4∧ ∀j:Nat,1≤j→j<q+1→mR a b p j=false):=fun h=>⟨by omega,by omega,fun j I j2=>by
      by_cases e:j=q
      ·rw[e];exact h
      ·exact hZ j I (by omega)⟩
     have G:mR a b p q=true→nR a b=false:=fun h=>Qa p1 (by omega) q1 (by omega) h;generalize iJ (dw a p) (dw b q)=b1 at*;generalize mR a b p q=b2 at*;generalize nR a b=b3 at*;cases b1
     ·simp at F;refine gO aa (j4 @g @w @E @n) @M ?_;refine gB (q+1) gT ?_;try dsimp only
      exact y F
     ·rcases OS ((p:Int)=1)with e1|e1<;>rcases OS ((q:Int)=1)with e2|e2;all_goals
       simp[e1,e2]at F;subst F;simp at G y
       (try rw[G])
       refine gO aa (j6 @g @e1 @e2 @w @E @n) @M ?_;try exact hle
      all_goals
       refine gB (q+1) gT ?_;try dsimp only
       simpa using y
    ·obtain rfl:q=4:=by omega
     have g:(((4:Nat):Int)≤3)=False:=by simp
     refine gO aa @J tI ?_;refine gB (p+1) gT ?_;try dsimp only
     refine⟨by omega,by omega,fun i i1 i2 j I j2=> ?_⟩;by_cases e:i=p
     ·rw[e];exact hZ j I j2
     ·exact hY i i1 (by omega) j I j2
   ·obtain rfl:p=4:=by omega
    have L:(((4:Nat):Int)≤3)=False:=by simp
    rw[M6 hY];refine gO aa tI tI ?_;try exact hle
def G3 (n:Int) (l:List Cl) (o:cC) (nl:Bool) (hl:l.length≤140737488355328) (σ:AS):
 ad prog 182 [zI n,vb l o nl] σ (ah (.bI [zI ((b7 (jt n) kC l).1),zI ((b7 (jt n) kC l).2)]) σ) No:=by
 have ha:=fun c σ=>G4 n c σ;have hf:=fun a c σ=>Jl a c σ;unfold b7;simp only[vb,aL]at ha hf⊢;generalize jt n=K at*;generalize kC=w at*;refine ad.ob func182 ?_;by_cases M:6<l.length
 ·have v:(6<(l.length:Int))=True:=by simp;omega
  exact gE gk (j2 @M @v) tI
 ·have v:(6<(l.length:Int))=False:=by simp;omega
  rw[if_neg M];refine gO gk @v tI ?_;refine aq.aQ (α:=(Nat)) (0) (fun i=>l.length-i) (fun i=>i≤l.length∧rJ K w [] l=rJ K w (l.take i) (l.drop i)) [(0,?_),(1,?_)] (fun i=> [(6,zI i)]) (fun i=>σ) ?_ ?_ ?_ ?_;rotate_left 2
  ·exact gF tI
  ·exact gT
  ·(try dsimp only)<;>first|exact trivial|exact⟨by omega,rfl⟩|omega|(simp;done)|exact⟨by omega,by simp⟩|exact⟨by omega,by simp,rfl⟩
  intro i g;try dsimp only at g⊢
  obtain⟨Q,q⟩:=g;simp only[eZ];by_cases hlt:i<l.length
  ·have E:zW ((i:Int)+1)=((i+1:Nat):Int):=bQ (by omega);rw[drop_eq_getElem_cons hlt]at q;simp only[rJ,length_take]at q;have I:=ha l[i];generalize G:l[i]=c at*;by_cases h0:K c=0
   ·rw[if_pos h0]at q;refine gO gk (j5 hlt @G @aL @h0 @aH) @I ?_;refine aq.aQ (α:=(Nat)) (0) (fun k=>i-k) (fun k=>k≤i∧ ∀x∈l.take k,w x c=true) [(0,?_),(1,?_),(6,?_),(7,?_),(12,?_),(13,?_),(14,?_),(15,?_),(18,?_),(19,?_),(20,?_),(21,?_),(22,?_),(23,?_),(24,?_),(25,?_),(26,?_),(27,?_)] (fun k=> [(8,zI k)]) (fun k=>σ) ?_ ?_ ?_ ?_;rotate_left 18
    ·exact gF tI
    ·exact gT
    ·(try dsimp only)<;>first|exact trivial|exact⟨by omega,rfl⟩|omega|(simp;done)|exact⟨by omega,by simp⟩|exact⟨by omega,by simp,rfl⟩
    intro k g;try dsimp only at g⊢
    obtain⟨O,L⟩:=g;simp only[eZ];by_cases j:k<i
    ·have y:zW ((k:Int)+1)=((k+1:Nat):Int):=bQ (by omega);have u:=hf l[k] c;have F:k<l.length:=by omega
     generalize hd:l[k]=d at*;cases hb:w d c with
     |true=>
      rw[hb]at u;refine gO gk (j8 hlt @G @j @hd @aL @F @aH @y) @u ?_;refine gB (k+1) gT ?_;try dsimp only
      refine⟨by omega,fun x hx=> ?_⟩;rw[take_succ_eq_append_getElem (by omega)]at hx;rcases mem_append.1 hx with hx|hx
      ·exact L x hx
      ·simp at hx;rw[hx,hd];exact hb
     |false=>
      rw[hb]at u;have J:¬(l.take i).all (fun a=>w a c)=true:=by intro h;rw[all_eq_true]at h;have:=h d (by rw[mem_take_iff_getElem];exact⟨k,by omega,hd⟩);rw[hb]at this;cases this
      rw[if_neg J,show min i l.length=i by omega]at q;rw[q];exact gE gk (j7 hlt @G @j @hd @aL @F @aH) @u
    ·have H:(l.take i).all (fun a=>w a c)=true:=by rw[all_eq_true];intro x hx;exact L x (by rwa [show k=i by omega])
     rw[if_pos H]at q;refine gO gk (j3 @j @aH @E) tI ?_;refine gB (i+1) gT ?_;try dsimp only
     refine⟨by omega,?_⟩;rw[q,take_succ_eq_append_getElem hlt,G]
   ·rw[if_neg h0,show min i l.length=i by omega]at q;rw[q];exact gE gk (j5 hlt @G @aL @h0 @aH) @I
  ·rw[drop_eq_nil_of_le (by omega)]at q;rw[q];simp only[rJ];exact gE gk (j2 hlt @aH) tI
def nH (n:Int) (l:List Cl) (o:cC) (nl:Bool) (hl:l.length≤140737488355328) (σ:AS):
 ad prog 129 [zI n,vb l o nl] σ (ah (.sc (.bool (decide ((b7 (jt n) kC l).2=0)))) σ) No:=by
 have d:=G3 n l o nl hl σ;simp only[vb]at d⊢;refine ad.ob func129 ?_;exact gE aa tI @d
end Rg
end Go.Proofs.YtknalmoackcpbaaGreat
namespace Go.Proofs.YtknalmoackcpbaaGreat
namespace Im
open Sg (lj ji jh jj fZ aC)
open Rg (Cl fY aL)
def iV (n:Int):AV:=zI n
def rE (n:Int):iV n=zI n:=rfl
def fI (x:cE):aJ x= .agg [zI x.op,zI x.arg,zI x.t.kind,zI x.t.index,zI x.t.bT,.sc (.bool x.t.ref)]:=rfl
structure TD where
 name:zY
 flags:Int
 ext:Int
 bg:List Int
 fn:Bool
def nA (t:TD):AV:= .agg [zS t.name,zI t.flags,zI t.ext,.ao 3 (t.bg.map iV) .aI t.fn]
def eI (t:TD):nA t= .agg [zS t.name,zI t.flags,zI t.ext,.ao 3 (t.bg.map iV) .aI t.fn]:=rfl
structure Fd where
 name:zY
 owner:Int
 ty:Ty
 stat:Bool
def pR (f:Fd):AV:= .agg [zS f.name,zI f.owner,zI f.ty.kind,zI f.ty.index,zI f.ty.bT,.sc (.bool f.ty.ref),.sc (.bool f.stat)]
def gy (f:Fd):pR f= .agg [zS f.name,zI f.owner,zI f.ty.kind,zI f.ty.index,zI f.ty.bT,.sc (.bool f.ty.ref),.sc (.bool f.stat)]:=rfl
structure Mt where
 name:zY
 owner:Int
 flags:Int
 ps:List Ty
 pn:Bool
 ret:Ty
 ls:List Ty
 ln:Bool
 max:Int
 code:List cE
 cn:Bool
 cls:List Cl
 xn:Bool
def kH (m:Mt):AV:= .agg [zS m.name,zI m.owner,zI m.flags,.ao 49 (m.ps.map cF) .aI m.pn,zI m.ret.kind,zI m.ret.index,zI m.ret.bT,.sc (.bool m.ret.ref),.ao 49 (m.ls.map cF) .aI m.ln,zI m.max,.ao 110 (m.code.map aJ) .aI m.cn,.ao 158 (m.cls.map fY) .aI m.xn]
def bw (m:Mt):kH m= .agg [zS m.name,zI m.owner,zI m.flags,.ao 49 (m.ps.map cF) .aI m.pn,zI m.ret.kind,zI m.ret.index,zI m.ret.bT,.sc (.bool m.ret.ref),.ao 49 (m.ls.map cF) .aI m.ln,zI m.max,.ao 110 (m.code.map aJ) .aI m.cn,.ao 158 (m.cls.map fY) .aI m.xn]:=rfl
structure bY where
 ts:List TD
 tn:Bool
 fs:List Fd
 fn:Bool
 ms:List Mt
 mn:Bool
 entry:Int
def mr (g:bY):AV:= .agg [.ao 46 (g.ts.map nA) .aI g.tn,.ao 56 (g.fs.map pR) .aI g.fn,.ao 53 (g.ms.map kH) .aI g.mn,zI g.entry]
def bj (g:bY):mr g= .agg [.ao 46 (g.ts.map nA) .aI g.tn,.ao 56 (g.fs.map pR) .aI g.fn,.ao 53 (g.ms.map kH) .aI g.mn,zI g.entry]:=rfl
def IK (l:List TD) (o:cC) (nl:Bool) (u:AV) (g:TD→Bool) (σ:AS) (hl:l.length≤140737488355328) (hf:∀x∈l,mM prog σ u [nA x] (.sc (.bool (g x)))):
 ad prog 112 [.ao 46 (l.map nA) o nl,u] σ (ah (zI (lj g l)) σ) No:=by
 refine ad.ob func112 ?_;refine gO aa tI tI ?_;refine aq.aQ (α:=(Nat)) (0) (fun i=>l.length-i) (fun i=>i≤l.length∧ ∀x∈l.take i,g x=false) [(0,?_),(1,?_),(7,?_)] (fun i=> [(8,zI i)]) (fun i=>σ) ?_ ?_ ?_ ?_;rotate_left 3
 ·exact gF tI
 ·exact gT
 ·(try dsimp only)<;>first|exact trivial|exact⟨by omega,rfl⟩|omega|(simp;done)|exact⟨by omega,by simp⟩|exact⟨by omega,by simp,rfl⟩
 intro i j;try dsimp only at j⊢
 obtain⟨v,q⟩:=j;simp only[eZ];by_cases hlt:i<l.length
 ·have d:zW ((i:Int)+1)=((i+1:Nat):Int):=bQ (by omega);have hu:=(hf l[i] (getElem_mem hlt));simp only[eI]at hu;cases n:g l[i]with
  |true=>
   rw[n]at hu;rw[ji hlt q n];repeat (first
    |refine g1 ?_
    |((first|refine g2 ?_ |((with_reducible apply ag.id);first|apply (hu.use)));simp-implicitDefEqProofs [hlt,eI])
    |(refine g3 ?_;try simp-implicitDefEqProofs))
  |false=>
   rw[n]at hu;repeat (first
    |refine g1 ?_
    |((first|refine g2 ?_ |((with_reducible apply ag.id);first|apply (hu.use)));simp-implicitDefEqProofs [hlt,eI,d])
    |(refine g3 ?_;try simp-implicitDefEqProofs))
   refine gB (i+1) gT ?_;try dsimp only
   exact⟨hlt,fZ hlt q n⟩
 ·rw[jh (by rwa [take_of_length_le (by omega)]at q)];exact gE aa (j2 hlt @aH) tI
def IL (l:List TD) (o:cC) (nl:Bool) (d:AV) (g:TD→Bool) (σ:AS) (hl:l.length≤140737488355328) (hf:∀x∈l,mM prog σ d [nA x] (.sc (.bool (g x)))):
 ad prog 48 [.ao 46 (l.map nA) o nl,d] σ (ah (.sc (.bool (l.any g))) σ) No:=by
 have j:=IK l o nl d g σ hl hf;rw[←jj];refine ad.ob func48 ?_;exact gE aa tI @j
def KC (l:List Int) (o:cC) (nl:Bool) (u:AV) (g:Int→Bool) (σ:AS) (hl:l.length≤140737488355328) (hf:∀x∈l,mM prog σ u [iV x] (.sc (.bool (g x)))):
 ad prog 113 [.ao 3 (l.map iV) o nl,u] σ (ah (zI (lj g l)) σ) No:=by
 refine ad.ob func113 ?_;refine gO aa tI tI ?_;refine aq.aQ (α:=(Nat)) (0) (fun i=>l.length-i) (fun i=>i≤l.length∧ ∀x∈l.take i,g x=false) [(0,?_),(1,?_),(7,?_)] (fun i=> [(8,zI i)]) (fun i=>σ) ?_ ?_ ?_ ?_;rotate_left 3
 ·exact gF tI
 ·exact gT
 ·(try dsimp only)<;>first|exact trivial|exact⟨by omega,rfl⟩|omega|(simp;done)|exact⟨by omega,by simp⟩|exact⟨by omega,by simp,rfl⟩
 intro i j;try dsimp only at j⊢
 obtain⟨v,q⟩:=j;simp only[eZ];by_cases hlt:i<l.length
 ·have d:zW ((i:Int)+1)=((i+1:Nat):Int):=bQ (by omega);have hu:=(hf l[i] (getElem_mem hlt));simp only[rE]at hu;cases n:g l[i]with
  |true=>
   rw[n]at hu;rw[ji hlt q n];repeat (first
    |refine g1 ?_
    |((first|refine g2 ?_ |((with_reducible apply ag.id);first|apply (hu.use)));simp-implicitDefEqProofs [hlt,rE])
    |(refine g3 ?_;try simp-implicitDefEqProofs))
  |false=>
   rw[n]at hu;repeat (first
    |refine g1 ?_
    |((first|refine g2 ?_ |((with_reducible apply ag.id);first|apply (hu.use)));simp-implicitDefEqProofs [hlt,rE,d])
    |(refine g3 ?_;try simp-implicitDefEqProofs))
   refine gB (i+1) gT ?_;try dsimp only
   exact⟨hlt,fZ hlt q n⟩
 ·rw[jh (by rwa [take_of_length_le (by omega)]at q)];exact gE aa (j2 hlt @aH) tI
def KD (l:List Int) (o:cC) (nl:Bool) (d:AV) (g:Int→Bool) (σ:AS) (hl:l.length≤140737488355328) (hf:∀x∈l,mM prog σ d [iV x] (.sc (.bool (g x)))):
 ad prog 50 [.ao 3 (l.map iV) o nl,d] σ (ah (.sc (.bool (l.any g))) σ) No:=by
 have j:=KC l o nl d g σ hl hf;rw[←jj];refine ad.ob func50 ?_;exact gE aa tI @j
def Kx (l:List cE) (o:cC) (nl:Bool) (u:AV) (g:cE→Bool) (σ:AS) (hl:l.length≤140737488355328) (hf:∀x∈l,mM prog σ u [aJ x] (.sc (.bool (g x)))):
 ad prog 174 [.ao 110 (l.map aJ) o nl,u] σ (ah (zI (lj g l)) σ) No:=by
 refine ad.ob func174 ?_;refine gO aa tI tI ?_;refine aq.aQ (α:=(Nat)) (0) (fun i=>l.length-i) (fun i=>i≤l.length∧ ∀x∈l.take i,g x=false) [(0,?_),(1,?_),(7,?_)] (fun i=> [(8,zI i)]) (fun i=>σ) ?_ ?_ ?_ ?_;rotate_left 3
 ·exact gF tI
 ·exact gT
 ·(try dsimp only)<;>first|exact trivial|exact⟨by omega,rfl⟩|omega|(simp;done)|exact⟨by omega,by simp⟩|exact⟨by omega,by simp,rfl⟩
 intro i j;try dsimp only at j⊢
 obtain⟨v,q⟩:=j;simp only[eZ];by_cases hlt:i<l.length
 ·have d:zW ((i:Int)+1)=((i+1:Nat):Int):=bQ (by omega);have hu:=(hf l[i] (getElem_mem hlt));simp only[fI]at hu;cases n:g l[i]with
  |true=>
   rw[n]at hu;rw[ji hlt q n];repeat (first
    |refine g1 ?_
    |((first|refine g2 ?_ |((with_reducible apply ag.id);first|apply (hu.use)));simp-implicitDefEqProofs [hlt,fI])
    |(refine g3 ?_;try simp-implicitDefEqProofs))
  |false=>
   rw[n]at hu;repeat (first
    |refine g1 ?_
    |((first|refine g2 ?_ |((with_reducible apply ag.id);first|apply (hu.use)));simp-implicitDefEqProofs [hlt,fI,d])
    |(refine g3 ?_;try simp-implicitDefEqProofs))
   refine gB (i+1) gT ?_;try dsimp only
   exact⟨hlt,fZ hlt q n⟩
 ·rw[jh (by rwa [take_of_length_le (by omega)]at q)];exact gE aa (j2 hlt @aH) tI
def Ky (l:List cE) (o:cC) (nl:Bool) (d:AV) (g:cE→Bool) (σ:AS) (hl:l.length≤140737488355328) (hf:∀x∈l,mM prog σ d [aJ x] (.sc (.bool (g x)))):
 ad prog 119 [.ao 110 (l.map aJ) o nl,d] σ (ah (.sc (.bool (l.any g))) σ) No:=by
 have j:=Kx l o nl d g σ hl hf;rw[←jj];refine ad.ob func119 ?_;exact gE aa tI @j
def K8 (l:List Cl) (o:cC) (nl:Bool) (u:AV) (g:Cl→Bool) (σ:AS) (hl:l.length≤140737488355328) (hf:∀x∈l,mM prog σ u [fY x] (.sc (.bool (g x)))):
 ad prog 177 [.ao 158 (l.map fY) o nl,u] σ (ah (zI (lj g l)) σ) No:=by
 refine ad.ob func177 ?_;refine gO aa tI tI ?_;refine aq.aQ (α:=(Nat)) (0) (fun i=>l.length-i) (fun i=>i≤l.length∧ ∀x∈l.take i,g x=false) [(0,?_),(1,?_),(7,?_)] (fun i=> [(8,zI i)]) (fun i=>σ) ?_ ?_ ?_ ?_;rotate_left 3
 ·exact gF tI
 ·exact gT
 ·(try dsimp only)<;>first|exact trivial|exact⟨by omega,rfl⟩|omega|(simp;done)|exact⟨by omega,by simp⟩|exact⟨by omega,by simp,rfl⟩
 intro i j;try dsimp only at j⊢
 obtain⟨v,q⟩:=j;simp only[eZ];by_cases hlt:i<l.length
 ·have d:zW ((i:Int)+1)=((i+1:Nat):Int):=bQ (by omega);have hu:=(hf l[i] (getElem_mem hlt));simp only[aL]at hu;cases n:g l[i]with
  |true=>
   rw[n]at hu;rw[ji hlt q n];repeat (first
    |refine g1 ?_
    |((first|refine g2 ?_ |((with_reducible apply ag.id);first|apply (hu.use)));simp-implicitDefEqProofs [hlt,aL])
    |(refine g3 ?_;try simp-implicitDefEqProofs))
  |false=>
   rw[n]at hu;repeat (first
    |refine g1 ?_
    |((first|refine g2 ?_ |((with_reducible apply ag.id);first|apply (hu.use)));simp-implicitDefEqProofs [hlt,aL,d])
    |(refine g3 ?_;try simp-implicitDefEqProofs))
   refine gB (i+1) gT ?_;try dsimp only
   exact⟨hlt,fZ hlt q n⟩
 ·rw[jh (by rwa [take_of_length_le (by omega)]at q)];exact gE aa (j2 hlt @aH) tI
def K9 (l:List Cl) (o:cC) (nl:Bool) (d:AV) (g:Cl→Bool) (σ:AS) (hl:l.length≤140737488355328) (hf:∀x∈l,mM prog σ d [fY x] (.sc (.bool (g x)))):
 ad prog 122 [.ao 158 (l.map fY) o nl,d] σ (ah (.sc (.bool (l.any g))) σ) No:=by
 have j:=K8 l o nl d g σ hl hf;rw[←jj];refine ad.ob func122 ?_;exact gE aa tI @j
end Im
end Go.Proofs.YtknalmoackcpbaaGreat
namespace Go.Proofs.YtknalmoackcpbaaGreat
namespace Cd
def cK (o:Int):Int:=if o=0 then 0 else if o=1 then 4 else if o=2 then 8 else if o=3∨o=4 then 1 else 2
def oO (op:Int):Int:=(gH op).2.1
def dN (x:cE):Bool:=if x.op<1∨75<x.op then false else if oO x.op=8 then qS x.t&&(decide (0<x.arg)&&decide (x.arg<16384))else gP x (oO x.op)
def ja (op:Int):0≤oO op∧oO op≤8:=by
 by_cases h:op<1∨75<op
 ·simp[oO,vk op h]
 ·have:=wP ⟨(op-1).toNat,by omega⟩;have e:(((op-1).toNat:Nat):Int)+1=op:=by omega
  simp only[e]at this;exact this
def P2 {op:Int}(h:op<1∨75<op):oO op=0:=by simp[oO,vk op h]
def eN (o:Int):0≤cK o∧cK o≤8:=by unfold cK;split<;>(try split)<;>(try split)<;>(try split)<;>omega
def aE:List cE→Int→List Int
 |[],a=> [a]
 |x::r,a=>a::aE r (a+1+cK (oO x.op))
def bZ (l:List cE):List Int×Int:=if 160<l.length then([],4)else if l.all dN then(aE l 0,0)else([],17)
def m64 (x:Int):Int:=x%18446744073709551616
def mq (x:cE) (t a':Int):zY:=
 if oO x.op=0 then []else if oO x.op=5 then aX (m64 (t-a')) 2 else if oO x.op=6∨oO x.op=7 then aX (m64 (x.arg+1)) 2 else aX (m64 x.arg) (cK (oO x.op)).toNat
def cS (x:cE) (t d:Int):zY:=UInt8.ofNat (x.op%256).toNat::mq x t d
def fV (P:List Int):List cE→Nat→zY
 |[],_ => []
 |x::r,i=>cS x (P.getD x.arg.toNat 0) (P.getD (i+1) 0)++fV P r (i+1)
def kB (n:Nat) (x:cE):Bool:=decide (oO x.op=5)&&decide ((n:Int)≤x.arg)
def cV (l:List cE):zY×Int:=
 if (bZ l).2=0 then if l.any (kB l.length)then([],11)else(fV (aE l 0) l 0,0)else([],(bZ l).2)
def yb (n:Nat) (v:Int):Int:=if 256^n≤2*v then v-256^n else v
def dZ (o v:Int):Int:=if o=1 then yb 4 v else if o=2 then yb 8 v else if o=6∨o=7 then v-1 else if o=5 then 0 else v
def Q5 (o v:Int) (d:Nat):Int:=if o=5 then d+yb 2 v else 0
def dz:Ty:=⟨0,0,0,false⟩
def mY (b:zY) (a:Nat):Except (Int×Int) (cE×Int×Nat):=
 if ((b.getD a 0).toNat:Int)<1∨75<((b.getD a 0).toNat:Int)then .error (a,2)else
 if b.length<a+1+(cK (oO (b.getD a 0).toNat)).toNat then .error (b.length,1)else
 if dN ⟨(b.getD a 0).toNat,dZ (oO (b.getD a 0).toNat) (aY (cu b (a+1:Nat) (cK (oO (b.getD a 0).toNat)).toNat)),dz⟩ then
  .ok (⟨(b.getD a 0).toNat,dZ (oO (b.getD a 0).toNat) (aY (cu b (a+1:Nat) (cK (oO (b.getD a 0).toNat)).toNat)),dz⟩,
   Q5 (oO (b.getD a 0).toNat) (aY (cu b (a+1:Nat) (cK (oO (b.getD a 0).toNat)).toNat)) (a+1+(cK (oO (b.getD a 0).toNat)).toNat),a+1+(cK (oO (b.getD a 0).toNat)).toNat)
 else .error (a,3)
structure RI where
 x:cE
 a:Int
 t:Int
def eH (b:zY):Nat→Nat→Except (Int×Int) (List RI)
 |0,a=>if a<b.length then .error (a,4)else .ok []
 |k+1,a=>if a<b.length then
  match mY b a with
  |.error e=> .error e
  |.ok (x,t,d)=>match eH b k d with
   |.error e=> .error e
   |.ok r=> .ok (⟨x,a,t⟩::r)
  else .ok []
def ph (L:List Int) (r:RI):Except (Int×Int) cE:=
 if oO r.x.op=5 then match L.findIdx? (fun y=>decide (y=r.t))with
  |none=> .error (r.a,11)
  |some k=> .ok { r.x with arg:=k }
 else .ok r.x
def gb (L:List Int):List RI→Except (Int×Int) (List cE)
 |[]=> .ok []
 |r::s=>match ph L r with
  |.error e=> .error e
  |.ok x=>match gb L s with
   |.error e=> .error e
   |.ok l=> .ok (x::l)
def eY (b:zY):(List cE×List Int)×Int×Int:=
 match eH b 160 0 with
 |.error (p,e)=>(([],[]),p,e)
 |.ok r=>match gb (r.map (·.a)) r with
  |.error (p,e)=>(([],[]),p,e)
  |.ok l=>((l,r.map (·.a)++ [(b.length:Int)]),0,0)
def yS (x:Int) (hx:0≤x) (n:Nat):aX (x%256^n) n=aX x n:=by have h:=se (aX x n);rw[aA,oD x hx n]at h;exact h
def Ha {x y:Int}(hx:0≤x) (d:0≤y) {n:Nat}(h:x%256^n=y%256^n):aX x n=aX y n:=by rw[←yS x hx,←yS y d,h]
def rz (x:Int):0≤m64 x:=by unfold m64;omega
def B6:(256:Int)^2=65536:=by decide
def He:(256:Int)^4=4294967296:=by decide
def Af:(256:Int)^8=18446744073709551616:=by decide
def wH {n:Nat}(h:n=2∨n=4∨n=8) {v:Int}(h0:0≤v):aX (m64 (yb n v)) n=aX v n:=by refine Ha (rz _) h0 ?_;rcases h with rfl|rfl|rfl<;>simp only[yb,m64,B6,He,Af]<;>split<;>omega
def zZ {n:Nat}(h:n=2∨n=4∨n=8) {x:Int}(h1: -(256^n)≤2*x) (d:2*x<256^n):yb n (m64 x%256^n)=x:=by rcases h with rfl|rfl|rfl<;>simp only[yb,m64,B6,He,Af]at h1 d⊢ <;>split<;>omega
def FT (x:cE) (t d:Int):((mq x t d).length:Int)=cK (oO x.op):=by
 have h:=ja x.op;unfold mq;generalize oO x.op=o at h⊢;have:o=0∨o=1∨o=2∨o=3∨o=4∨o=5∨o=6∨o=7∨o=8:=by omega
 rcases this with rfl|rfl|rfl|rfl|rfl|rfl|rfl|rfl|rfl<;>simp[cK,aA]
def AA (x:cE) (t d:Int):((cS x t d).length:Int)=1+cK (oO x.op):=by have:=FT x t d;simp only[cS,length_cons];omega
def oz (l:List cE) (a:Int):(aE l a).length=l.length+1:=by
 induction l generalizing a with
 |nil=>rfl
 |cons x r d=>simp[aE,d]
def uz (l:List cE) (a:Int):(aE l a).getD 0 0=a:=by cases l<;>rfl
def qw (l:List cE) (a:Int):∀y∈aE l a,a≤y:=by
 induction l generalizing a with
 |nil=>simp[aE]
 |cons x r g=>
  intro y d;have hw:=(eN (oO x.op)).1;simp only[aE,mem_cons]at d;rcases d with rfl|d
  ·omega
  ·have:=g _ y d;omega
def qv (l:List cE) (a:Int):∀y∈aE l a,y≤a+9*l.length:=by
 induction l generalizing a with
 |nil=>simp[aE]
 |cons x r g=>
  intro y d;have hw:=(eN (oO x.op)).2;simp only[aE,mem_cons]at d;simp only[length_cons];rcases d with rfl|d
  ·omega
  ·have:=g _ y d;omega
def yV (l:List cE) (a:Int):(aE l a).Pairwise (· < ·):=by
 induction l generalizing a with
 |nil=>simp[aE]
 |cons x r d=>simp only[aE,pairwise_cons];refine⟨fun y g=> ?_,d _⟩;have:=qw r _ y g;have hw:=(eN (oO x.op)).1;omega
def Ao {t:Ty}(h:qS t=true):t=dz:=by obtain⟨k,i,d,r⟩:=t;simp only[qS,Bool.and_eq_true,decide_eq_true_eq,Bool.not_eq_true']at h;obtain⟨rfl,rfl,rfl,rfl⟩:=h;rfl
def Eb:qS dz=true:=by decide
def kg {x:cE}(h:dN x=true):1≤x.op∧x.op≤75∧x.t=dz∧(oO x.op=0→x.arg=0)∧(oO x.op=1→ -2147483648≤x.arg∧x.arg<2147483648)∧
 (oO x.op=3∨oO x.op=4→0≤x.arg∧x.arg<12)∧(oO x.op=5→0≤x.arg∧x.arg<160)∧(oO x.op=6∨oO x.op=7→0≤x.arg∧x.arg<64)∧(oO x.op=8→0<x.arg∧x.arg<16384):=by
 unfold dN at h;by_cases h0:x.op<1∨75<x.op
 ·rw[if_pos h0]at h;cases h
 rw[if_neg h0]at h;refine⟨by omega,by omega,?_⟩;have d:=ja x.op;generalize oO x.op=o at h d⊢;have:o=0∨o=1∨o=2∨o=3∨o=4∨o=5∨o=6∨o=7∨o=8:=by omega
 rcases this with rfl|rfl|rfl|rfl|rfl|rfl|rfl|rfl|rfl<;>simp[gP]at h⊢ <;>first
  |exact Ao h
  |exact⟨Ao h.1,h.2⟩
  |(refine⟨Ao h.1,?_⟩;omega)
def Nr {b:zY}{a:Nat}{c:UInt8}(h:At b a [c]):a<b.length∧b.getD a 0=c:=by
 obtain⟨h1,j⟩:=h;have g:a<b.length:=by simp at h1;omega
 have d:((b.drop a).take 1)[0]? =some c:=by have:(b.drop a).take 1= [c]:=j;rw[this];rfl
 rw[getElem?_take_of_lt (by omega),getElem?_drop,Nat.add_zero]at d;exact⟨g,by rw[getD_eq_getElem?_getD,d];rfl⟩
def Gz {b:zY}{a:Nat}(h:a<b.length):At b a [b.getD a 0]:=by refine⟨by simp;omega,?_⟩;show(b.drop a).take 1= [b.getD a 0];rw[drop_eq_getElem_cons h,getD_eq_getElem?_getD,getElem?_eq_getElem h];rfl
def N4 {x:cE}(h:dN x=true) (w:oO x.op=2→ -9223372036854775808≤x.arg∧x.arg<9223372036854775808) (t a':Int) (v:oO x.op=5→ -32768≤t-a'∧t-a'<32768):
 dZ (oO x.op) (aY (mq x t a'))=(if oO x.op=5 then 0 else x.arg)∧(oO x.op=5→yb 2 (aY (mq x t a'))=t-a'):=by
 obtain⟨_,_,_,u,q,g,E,d,j⟩:=kg h;have F:=ja x.op;unfold mq;generalize oO x.op=o at*;have:o=0∨o=1∨o=2∨o=3∨o=4∨o=5∨o=6∨o=7∨o=8:=by omega
 have hm:=fun y=>oD (m64 y) (rz y);rcases this with rfl|rfl|rfl|rfl|rfl|rfl|rfl|rfl|rfl
 ·simp[dZ,aY];exact(u rfl).symm
 ·refine⟨?_,by simp⟩;have:=q rfl;simp[dZ,cK,hm];exact zZ (n:=4) (by omega) (by rw[He];omega) (by rw[He];omega)
 ·refine⟨?_,by simp⟩;have:=w rfl;simp[dZ,cK,hm];exact zZ (n:=8) (by omega) (by rw[Af];omega) (by rw[Af];omega)
 ·refine⟨?_,by simp⟩;have:=g (by simp);simp[dZ,cK,hm];simp only[m64];omega
 ·refine⟨?_,by simp⟩;have:=g (by simp);simp[dZ,cK,hm];simp only[m64];omega
 ·have:=v rfl;refine⟨by simp[dZ],fun _ => ?_⟩;simp;rw[hm];exact zZ (n:=2) (x:=t-a') (by omega) (by rw[B6];omega) (by rw[B6];omega)
 ·refine⟨?_,by simp⟩;have:=d (by simp);simp[dZ,hm];simp only[m64];omega
 ·refine⟨?_,by simp⟩;have:=d (by simp);simp[dZ,hm];simp only[m64];omega
 ·refine⟨?_,by simp⟩;have:=j rfl;simp[dZ,cK,hm];simp only[m64];omega
def bare (x:cE):cE:=if oO x.op=5 then { x with arg:=0 } else x
def NY (x:cE):(bare x).op=x.op:=by unfold bare;split<;>rfl
def Jt {x:cE}(h:dN x=true):dN (bare x)=true:=by
 unfold bare;split
 ·rename_i d;obtain⟨h1,j,g,_⟩:=kg h;unfold dN;rw[if_neg (by simp;omega),if_neg (by simp[d])];simp[d,gP,g,Eb]
 ·exact h
def P0 {b:zY}{a:Nat}{x:cE}{t:Int}(h:dN x=true) (y:oO x.op=2→ -9223372036854775808≤x.arg∧x.arg<9223372036854775808)
 (d:At b a (cS x t (a+1+cK (oO x.op)))) (w:oO x.op=5→ -32768≤t-(a+3)∧t-(a+3)<32768):
 mY b a= .ok (bare x,if oO x.op=5 then t else 0,a+1+(cK (oO x.op)).toNat):=by
 obtain⟨H,G,u,_⟩:=kg h;unfold cS at d;rw[At.cons]at d;obtain⟨q,j⟩:=d;obtain⟨_,v⟩:=Nr q;have n:(((b.getD a 0).toNat:Nat):Int)=x.op:=by rw[v];simp;omega
 have hw:=eN (oO x.op);have hl:=FT x t (a+1+cK (oO x.op));have g:cu b (a+1:Nat) (cK (oO x.op)).toNat=mq x t (a+1+cK (oO x.op)):=by rw[mO];have:=j.2;rwa [show(mq x t (a+1+cK (oO x.op))).length=(cK (oO x.op)).toNat by omega]at this
 have hlen:=j.1;obtain⟨F,E⟩:=N4 h y t (a+1+cK (oO x.op)) (fun e=>by rw[show cK (oO x.op)=2 by rw[e];rfl];have:=w e;omega);have hb:(⟨x.op,dZ (oO x.op) (aY (mq x t (a+1+cK (oO x.op)))),dz⟩:cE)=bare x:=by rw[F,←u];obtain⟨op,arg,ty⟩:=x;unfold bare;simp only;split<;>rfl
 unfold mY;rw[n,if_neg (by omega),if_neg (by omega),g,hb,if_pos (Jt h)];congr 3;unfold Q5;split
 ·rename_i e;rw[E e];omega
 ·rfl
def OB (P:List Int):List cE→Int→List RI
 |[],_ => []
 |x::r,a=>⟨bare x,a,if oO x.op=5 then P.getD x.arg.toNat 0 else 0⟩::OB P r (a+1+cK (oO x.op))
def PG (P:List Int) (l:List cE) (a:Int):(OB P l a).map (·.a)=(aE l a).dropLast:=by
 induction l generalizing a with
 |nil=>rfl
 |cons x r d=>
  simp only[OB,aE,map_cons,d];cases g:aE r (a+1+cK (oO x.op))with
  |nil=>have:=oz r (a+1+cK (oO x.op));rw[g]at this;simp at this
  |cons y z=>simp
def QE {b:zY}{P:List Int}(L:∀y∈P,0≤y∧y≤1440):∀(l:List cE) (i a k:Nat),l.length≤k→(∀x∈l,dN x=true∧(oO x.op=5→x.arg.toNat<P.length))→
 (∀x∈l,oO x.op=2→ -9223372036854775808≤x.arg∧x.arg<9223372036854775808)→P.drop i=aE l a→At b a (fV P l i)→a+(fV P l i).length=b.length→eH b k a= .ok (OB P l a):=by
 intro l;induction l with
 |nil=>intro i a k _ _ _ _ _ hl;simp[fV]at hl;cases k<;>simp[eH,hl,OB]
 |cons x r M=>
  intro i a k K n H hd u hl;obtain⟨k,rfl⟩:∃j,k=j+1:=⟨k-1,by simp at K;omega⟩;simp only[fV]at u hl;rw[At.app]at u;obtain⟨w,v⟩:=u;have d:i<P.length:=by
   rcases Nat.lt_or_ge i P.length with h|h
   ·exact h
   ·rw[drop_eq_nil_of_le h]at hd;simp[aE]at hd
  have G:P.drop (i+1)=aE r (a+1+cK (oO x.op)):=by rw[drop_eq_getElem_cons d]at hd;simp only[aE]at hd;exact(List.cons.inj hd).2
  have T:(a:Int)=P[i]:=by rw[drop_eq_getElem_cons d]at hd;simp only[aE]at hd;exact(List.cons.inj hd).1.symm
  have J:P.getD (i+1) 0=a+1+cK (oO x.op):=by
   have:(P.drop (i+1)).getD 0 0=a+1+cK (oO x.op):=by rw[G,uz]
   simpa[getD_eq_getElem?_getD]using this
  rw[J]at w v hl;have O:=eN (oO x.op);have Q:=AA x (P.getD x.arg.toNat 0) (a+1+cK (oO x.op));have hx:=n x (by simp);have hlt:a<b.length:=by have:=w.1;omega
  have F:=P0 hx.1 (H x (by simp)) w (fun e=>by
   have h1:=hx.2 e;have X:=L _ (getElem_mem h1);have V:=L _ (getElem_mem d);have:P.getD x.arg.toNat 0=P[x.arg.toNat]:=by simp[getD_eq_getElem?_getD,h1]
   rw[this];omega)
  have g:((a+1+(cK (oO x.op)).toNat:Nat):Int)=a+1+cK (oO x.op):=by omega
  have q:a+(cS x (P.getD x.arg.toNat 0) (a+1+cK (oO x.op))).length=a+1+(cK (oO x.op)).toNat:=by omega
  rw[q]at v;have E:=M (i+1) (a+1+(cK (oO x.op)).toNat) k (by simp at K;omega) (fun y I=>n y (by simp[I])) (fun y I=>H y (by simp[I]))
   (by rw[g];exact G) v (by rw[←hl,length_append];omega)
  simp only[eH,if_pos hlt,F,E,OB,g]
def C7 (P:List Int):∀(l:List cE) (i:Nat) (a:Int),(aE l a).getLast?=some (a+(fV P l i).length):=by
 intro l;induction l with
 |nil=>intro i a;simp[aE,fV]
 |cons x r d=>intro i a;have h:=d (i+1) (a+1+cK (oO x.op));have g:=AA x (P.getD x.arg.toNat 0) (P.getD (i+1) 0);simp only[aE,fV];rw[getLast?_cons,h];simp only[Option.getD_some,length_append,Option.some.injEq];omega
def xm {P:List Int}(n:P.Pairwise (· < ·)) {k:Nat}(d:k<P.length):P.findIdx? (fun y=>decide (y=P[k]))=some k:=by rw[findIdx?_eq_some_iff_getElem];refine⟨d,by simp,fun j g=> ?_⟩;have:=pairwise_iff_getElem.1 n j k (by omega) d g;simp;omega
def Pz {L P:List Int}(u:L.Pairwise (· < ·)) (g:∀k (h:k<L.length),P.getD k 0=L[k]):∀(l:List cE) (a:Int),(∀x∈l,oO x.op=5→0≤x.arg∧x.arg.toNat<L.length)→
 gb L (OB P l a)= .ok l:=by
 intro l;induction l with
 |nil=>intro a _;rfl
 |cons x r j=>
  intro a h;have q:=j (a+1+cK (oO x.op)) (fun y n=>h y (by simp[n]));have hx:ph L ⟨bare x,a,if oO x.op=5 then P.getD x.arg.toNat 0 else 0⟩= .ok x:=by
   unfold ph;simp only[NY];by_cases d:oO x.op=5
   ·obtain⟨h0,h1⟩:=h x (by simp) d;rw[if_pos d,if_pos d,g _ h1,xm u h1];simp only[bare,d,if_true];obtain⟨op,arg,ty⟩:=x;simp at h0⊢;omega
   ·rw[if_neg d];simp[bare,d]
  simp only[OB,gb,hx,q]
def ru {l:List cE}(h:(bZ l).2=0):l.length≤160∧l.all dN=true∧bZ l=(aE l 0,0):=by
 unfold bZ at h⊢;split at h
 ·simp at h
 ·rename_i h1;split at h
  ·rename_i d;rw[if_neg h1,if_pos d];exact⟨by omega,d,rfl⟩
  ·simp at h
def NN {l:List cE}(h:(cV l).2=0) (K:∀x∈l,-9223372036854775808≤x.arg∧x.arg<9223372036854775808):
 eY (cV l).1=((l,aE l 0),0,0)∧(bZ l).2=0∧bZ l=(aE l 0,0):=by
 unfold cV at h⊢;split at h;rotate_left
 ·exact absurd h (by assumption)
 rename_i H;obtain⟨hlen,u,G⟩:=ru H;split at h
 ·simp at h
 rename_i hf;rw[if_pos H,if_neg hf];refine⟨?_,H,G⟩;have w:∀x∈l,oO x.op=5→x.arg<l.length:=by intro x hx Q;simp only[any_eq_true,not_exists,not_and]at hf;have:=hf x hx;simp[kB,Q]at this;exact this
 have d:∀x∈l,dN x=true:=by simpa using u
 have J:=oz l 0;have E:=qv l 0;have F:=qw l 0;have j:=QE (b:=fV (aE l 0) l 0) (P:=aE l 0) (fun y M=>⟨F y M,by have:=E y M;omega⟩) l 0 0 160 hlen
  (fun x hx=>⟨d x hx,fun e=>by have:=w x hx e;have:=(kg (d x hx)).2.2.2.2.2.2.1 e;omega⟩) (fun x hx _ =>K x hx) rfl ⟨by simp,by simp[sg]⟩ (by simp)
 have I:=PG (aE l 0) l 0;have q:=Pz (L:=(aE l 0).dropLast) (P:=aE l 0) ((yV l 0).sublist (dropLast_sublist _)) (fun k O=>by rw[getElem_dropLast];simp at O;simp[getD_eq_getElem?_getD,show k<(aE l 0).length by omega]) l 0 (fun x hx e=>by have:=w x hx e;have:=(kg (d x hx)).2.2.2.2.2.2.1 e;simp[J];omega);have g:=C7 (aE l 0) l 0 0;have v:(aE l 0).dropLast++ [((fV (aE l 0) l 0).length:Int)]=aE l 0:=by
  rw[getLast?_eq_some_iff]at g;obtain⟨V,n⟩:=g;have T:(0:Int)+((fV (aE l 0) l 0).length:Int)=((fV (aE l 0) l 0).length:Int):=by omega
  rw[T]at n;generalize ((fV (aE l 0) l 0).length:Int)=z at n⊢;rw[n];simp
 unfold eY;rw[show(((0:Nat):Int))=0 from rfl]at j;rw[j];simp only;rw[I,q];simp only;rw[v]
def p8:List RI→zY
 |[]=> []
 |r::s=>cS r.x r.t (r.a+1+cK (oO r.x.op))++p8 s
def Al {b:zY}{a:Nat}(ha:a<b.length) {x:cE}{t:Int}{G:Nat}(h:mY b a= .ok (x,t,G)):dN x=true∧bare x=x∧(G:Int)=a+1+cK (oO x.op)∧G≤b.length∧At b a (cS x t (a+1+cK (oO x.op))):=by
 unfold mY at h;have F:(((b.getD a 0).toNat:Nat):Int)<256:=by have:=(b.getD a 0).toNat_lt;omega
 have u:=Gz ha;generalize Q:b.getD a 0=c at h F u;split at h
 ·cases h
 split at h
 ·cases h
 rename_i h1 T;split at h
 ·rename_i H;simp only[Except.ok.injEq,Prod.mk.injEq]at h;obtain⟨rfl,rfl,rfl⟩:=h;have J:=eN (oO (c.toNat:Int));have d:((a+1+(cK (oO (c.toNat:Int))).toNat:Nat):Int)=a+1+cK (oO (c.toNat:Int)):=by omega
  refine⟨H,?_,d,by omega,?_⟩
  ·unfold bare;simp only;split
   ·rename_i e;simp[dZ,e]
   ·rfl
  ·unfold cS;simp only;rw[At.cons];have M:UInt8.ofNat ((c.toNat:Int)%256).toNat=c:=by rw[show((c.toNat:Int)%256).toNat=c.toNat by omega];simp
   rw[M];refine⟨u,?_⟩;have K:At b (a+1) (sg b (a+1) (cK (oO (c.toNat:Int))).toNat):=At.sg (by omega);have w:=I9 (b:=b) (a:=a+1) (n:=(cK (oO (c.toNat:Int))).toNat) (by omega);have E:=ct (sg b (a+1) (cK (oO (c.toNat:Int))).toNat);have g:=se (sg b (a+1) (cK (oO (c.toNat:Int))).toNat);have y:=jb (sg b (a+1) (cK (oO (c.toNat:Int))).toNat);rw[w]at g y;rw[mO]at H⊢
   suffices L:mq ⟨c.toNat,dZ (oO (c.toNat:Int)) (aY (sg b (a+1) (cK (oO (c.toNat:Int))).toNat)),dz⟩
    (Q5 (oO (c.toNat:Int)) (aY (sg b (a+1) (cK (oO (c.toNat:Int))).toNat)) (a+1+(cK (oO (c.toNat:Int))).toNat)) (a+1+cK (oO (c.toNat:Int)))=sg b (a+1) (cK (oO (c.toNat:Int))).toNat by
    rw[L];exact K
   generalize sg b (a+1) (cK (oO (c.toNat:Int))).toNat=S at*;refine Eq.trans ?_ g;have O:=ja (c.toNat:Int);unfold mq Q5;simp only;rw[d];generalize oO (c.toNat:Int)=o at*;have hm:∀k:Nat,aX (m64 (aY S)) k=aX (aY S) k:=by
    intro k;have hb:aY S<18446744073709551616:=by
     have q:(256:Int)^(cK o).toNat≤256^8:=by
      have I:∀j:Nat,j<9→(256:Int)^j≤256^8:=by decide
      exact I _ (by omega)
     rw[Af]at q;omega
    congr 1;unfold m64;omega
   have:o=0∨o=1∨o=2∨o=3∨o=4∨o=5∨o=6∨o=7∨o=8:=by omega
   rcases this with rfl|rfl|rfl|rfl|rfl|rfl|rfl|rfl|rfl
   ·simp[cK]at w⊢;simp[aX]
   ·simp[dZ,cK];exact wH (n:=4) (v:=aY S) (by omega) E
   ·simp[dZ,cK];exact wH (n:=8) (v:=aY S) (by omega) E
   ·simp[dZ,cK,hm]
   ·simp[dZ,cK,hm]
   ·simp[cK];rw[show(a:Int)+1+2+yb 2 (aY S)-(a+1+2)=yb 2 (aY S) by omega];exact wH (n:=2) (v:=aY S) (by omega) E
   ·simp[dZ,cK,hm]
   ·simp[dZ,cK,hm]
   ·simp[dZ,cK,hm]
 ·cases h
def NK {b:zY} :∀(k a:Nat) (r:List RI),a≤b.length→eH b k a= .ok r→r.length≤k∧(∀y∈r,dN y.x=true∧bare y.x=y.x)∧aE (r.map (·.x)) a=r.map (·.a)++ [(b.length:Int)]∧At b a (p8 r)∧a+(p8 r).length=b.length:=by
 intro k;induction k with
 |zero=>
  intro a r ha h;simp only[eH]at h;split at h
  ·cases h
  ·cases h;have:a=b.length:=by omega
   subst this;simp[aE,p8,At.nil]
 |succ k F=>
  intro a r ha h;simp only[eH]at h;split at h
  ·rename_i hlt;cases h1:mY b a with
   |error e=>rw[h1]at h;cases h
   |ok y=>
    obtain⟨x,t,n⟩:=y;rw[h1]at h;simp only at h;cases j:eH b k n with
    |error e=>rw[j]at h;cases h
    |ok s=>
     rw[j]at h;cases h;obtain⟨E,w,v,u,q⟩:=Al hlt h1;obtain⟨i1,i2,i3,i4,i5⟩:=F n s u j;have G:=AA x t (a+1+cK (oO x.op));have g:a+(cS x t (a+1+cK (oO x.op))).length=n:=by omega
     refine⟨by simp;omega,?_,?_,?_,?_⟩
     ·intro y d;simp at d;rcases d with rfl|d
      ·exact⟨E,w⟩
      ·exact i2 y d
     ·simp only[map_cons,aE,←v,i3];rfl
     ·simp only[p8];rw[At.app,g];exact⟨q,i4⟩
     ·simp only[p8,length_append];omega
  ·cases h;have:a=b.length:=by omega
   subst this;simp[aE,p8,At.nil]
def Nx {L:List Int}{r:RI}{x:cE}(hb:bare r.x=r.x) (h:ph L r= .ok x):x.op=r.x.op∧x.t=r.x.t∧(oO x.op=5→ ∃k:Nat,x.arg=k∧k<L.length∧L.getD k 0=r.t)∧(¬oO x.op=5→x=r.x):=by
 unfold ph at h;split at h
 ·rename_i j;split at h
  ·cases h
  ·rename_i k n;cases h;rw[findIdx?_eq_some_iff_getElem]at n;obtain⟨g,d,_⟩:=n;refine⟨rfl,rfl,fun _ =>⟨k,rfl,g,?_⟩,fun e=>absurd j e⟩;simp at d;simp[getD_eq_getElem?_getD,g,d]
 ·rename_i j;cases h;exact⟨rfl,rfl,fun e=>absurd e j,fun _ =>rfl⟩
def Mw {L:List Int}(O:L.length≤160):∀(r:List RI) (l:List cE),(∀y∈r,dN y.x=true∧bare y.x=y.x)→gb L r= .ok l→
 l.length=r.length∧(∀x∈l,dN x=true∧(oO x.op=5→x.arg<L.length))∧(∀a,aE l a=aE (r.map (·.x)) a)∧
 (∀(P:List Int) (i:Nat),(∀k,k<L.length→P.getD k 0=L.getD k 0)→(∀j (h:j<r.length),P.getD (i+j+1) 0=r[j].a+1+cK (oO r[j].x.op))→fV P l i=p8 r):=by
 intro r;induction r with
 |nil=>intro l _ h;cases h;simp[aE,fV,p8]
 |cons y s H=>
  intro l u h;simp only[gb]at h;cases h1:ph L y with
  |error e=>rw[h1]at h;cases h
  |ok x=>
   rw[h1]at h;simp only at h;cases n:gb L s with
   |error e=>rw[n]at h;cases h
   |ok m=>
    rw[n]at h;cases h;obtain⟨E,J⟩:=u y (by simp);obtain⟨f1,f2,f3,f4⟩:=Nx J h1;obtain⟨i1,i2,i3,i4⟩:=H m (fun z g=>u z (by simp[g])) n;refine⟨by simp[i1],?_,?_,?_⟩
    ·intro z g;simp at g;rcases g with rfl|g
     ·by_cases d:oO z.op=5
      ·obtain⟨k,k1,q,_⟩:=f3 d;refine⟨?_,fun _ =>by omega⟩;obtain⟨M,K,F,_⟩:=kg E;unfold dN;rw[if_neg (by omega),if_neg (by omega),d];simp[gP,f2,F,Eb,k1];omega
      ·rw[f4 d];exact⟨E,fun e=>absurd e (by rw[←f1];exact d)⟩
     ·exact i2 z g
    ·intro a;simp only[aE,map_cons,f1,i3]
    ·intro P i w v;simp only[fV,p8];congr 1
     ·have h0:P.getD (i+1) 0=y.a+1+cK (oO y.x.op):=v 0 (by simp);rw[h0];by_cases d:oO x.op=5
      ·obtain⟨k,k1,q,G⟩:=f3 d;rw[k1,Int.toNat_natCast,w k q,G];unfold cS mq;rw[f1]at d;simp[f1,d]
      ·have:=f4 d;subst this;unfold cS mq;simp[d]
     ·refine i4 P (i+1) w (fun j I=> ?_);have:=v (j+1) (by simp;omega);simpa[show i+(j+1)+1=i+1+j+1 by omega]using this
def B8 (l:List cE) (a:Int) (j:Nat) (h:j<l.length):(aE l a).getD (j+1) 0=(aE l a).getD j 0+1+cK (oO l[j].op):=by
 induction l generalizing a j with
 |nil=>simp at h
 |cons x r d=>
  cases j with
  |zero=>simpa[aE]using uz r _
  |succ j=>simpa[aE]using d (a+1+cK (oO x.op)) j (by simpa using h)
def Am {b:zY}{a:Nat}{e:Int×Int}(h:mY b a= .error e):e.2≠0:=by
 unfold mY at h;split at h
 ·cases h;simp
 split at h
 ·cases h;simp
 split at h
 ·cases h
 ·cases h;simp
def NL {b:zY} :∀(k a:Nat) (e:Int×Int),eH b k a= .error e→e.2≠0:=by
 intro k;induction k with
 |zero=>intro a e h;simp only[eH]at h;split at h<;>cases h;simp
 |succ k g=>
  intro a e h;simp only[eH]at h;split at h
  ·cases h1:mY b a with
   |error j=>rw[h1]at h;cases h;exact Am h1
   |ok y=>
    obtain⟨x,t,n⟩:=y;rw[h1]at h;simp only at h;cases d:eH b k n with
    |error j=>rw[d]at h;cases h;exact g _ _ d
    |ok s=>rw[d]at h;cases h
  ·cases h
def Mx {L:List Int} :∀(r:List RI) (e:Int×Int),gb L r= .error e→e.2≠0:=by
 intro r;induction r with
 |nil=>intro e h;cases h
 |cons y s g=>
  intro e h;simp only[gb]at h;cases h1:ph L y with
  |error j=>
   rw[h1]at h;cases h;unfold ph at h1;split at h1
   ·split at h1<;>cases h1;simp
   ·cases h1
  |ok x=>
   rw[h1]at h;simp only at h;cases d:gb L s with
   |error j=>rw[d]at h;cases h;exact g _ d
   |ok m=>rw[d]at h;cases h
def NH {b:zY}(h:(eY b).2.2=0):cV (eY b).1.1=(b,0):=by
 unfold eY at h⊢;cases h1:eH b 160 0 with
 |error e=>rw[h1]at h;exact absurd h (NL _ _ _ h1)
 |ok r=>
  rw[h1]at h;simp only at h⊢;cases n:gb (r.map (·.a)) r with
  |error e=>rw[n]at h;exact absurd h (Mx _ _ n)
  |ok l=>
   simp only;obtain⟨i1,i2,i3,i4,i5⟩:=NK 160 0 r (by omega) h1;obtain⟨y,j2,j3,j4⟩:=Mw (by simpa using i1) r l i2 n;have d:l.all dN=true:=by simpa using fun x hx=>(j2 x hx).1
   have v:bZ l=(aE l 0,0):=by unfold bZ;rw[if_neg (by omega),if_pos d]
   have w:aE l 0=r.map (·.a)++ [(b.length:Int)]:=by rw[j3];exact i3
   have hf:¬(l.any (kB l.length)=true):=by simp only[any_eq_true,not_exists,not_and];intro x hx;simp only[kB,Bool.and_eq_true,decide_eq_true_eq,not_and];intro e;have:=(j2 x hx).2 e;simp at this;omega
   unfold cV;rw[v,if_pos rfl,if_neg hf];have hb:=i4.take;have g:b.take (p8 r).length=b:=by rw[take_of_length_le (by omega)]
   rw[g]at hb;rw[j4 (aE l 0) 0 ?_ ?_,hb]
   ·intro k q;rw[w];simp at q;simp[getD_eq_getElem?_getD,getElem?_append_left,q]
   ·intro j u;have hn:=B8 (r.map (·.x)) 0 j (by simpa using u);rw[j3,show 0+j+1=j+1 by omega,hn];rw[show(((0:Nat):Int))=0 from rfl]at i3;rw[i3];simp[getD_eq_getElem?_getD,getElem?_append_left,u]
abbrev oX:bW:=(.S 0 (.S 2 (.S 4 (.R 1 (.R 3 (.S 5 (.S 6 (.S 7 (.R 8 (.S 9 (.S 10 (.S 11 (.S 12 (.S 16 (.R 13 (.S 14 (.S 15 (.S 17 .D))))))))))))))))))
abbrev oW:bW:=(.S 0 (.R 2 (.U 3 (.S 4 (.R 1 (.S 5 (.S 6 .D)))))))
def fu (S:List Nat):bH prog [(5,oX),(6,oW)] S:=mixed
def dr (x:cE):Prop:= -9223372036854775808≤x.arg∧x.arg<9223372036854775808
def qI (o:Int) (σ:AS):ad prog 234 [zI o] σ (ah (zI (cK o)) σ) No:=by
 refine ad.ob func234 ?_;by_cases h0:o=0<;>by_cases h1:o=1<;>by_cases j:o=2<;>by_cases g:o=3<;>by_cases d:o=4;all_goals first
  |(exfalso;omega)
  |skip
 all_goals
  refine gO aa (j5 @h0 @h1 @j @g @d) tI ?_;try simp[cK,h0,h1,j,g,d]
def HJ {x:cE}(h:¬(x.op<1∨75<x.op)) (d:¬oO x.op=8):jF x=if dN x then 0 else 17:=by unfold jF dN;rw[if_neg h,if_neg h,if_neg d];rfl
def AZ (x:cE) (σ:AS):ad prog 233 [aJ x] σ (ah (.bI [zI (oO x.op),.sc (.bool (dN x))]) σ) No:=by
 have n:=fun σ=>sL x.op σ;have hf:=fun σ=>CC x σ;by_cases h:x.op<1∨75<x.op
 ·have L:=P2 h;have F:dN x=false:=by simp[dN,h]
  have G:yp x.op=3:=by simp[yp,h]
  rw[L,F];rw[G]at n;obtain⟨op,arg,k,w,d,r⟩:=x;simp only[aJ,gu]at n⊢;refine ad.ob func233 ?_;refine gO fu tI tI ?_;intro id v;refine gO fu tI @n ?_;intro y g q;have j:=aK g;refine gO fu tI tI ?_;all_goals exact gJ tI
 ·have G:yp x.op=0:=by simp[yp,h]
  rw[G]at n;by_cases E:oO x.op=8
  ·have F:dN x=(qS x.t&&(decide (0<x.arg)&&decide (x.arg<16384))):=by unfold dN;rw[if_neg h,if_pos E]
   rw[F];have u:(gH x.op).2.1=8:=E;rw[E];obtain⟨op,arg,k,w,d,r⟩:=x;have H:jm prog 8 49 (.agg [zI k,zI w,zI d,zB r]) (.agg [zI 0,zI 0,zI 0,zB false])=some (qS ⟨k,w,d,r⟩):=by simp[qS]
   simp only[aJ,gu]at n u H⊢;rw[u]at n;generalize qS ⟨k,w,d,r⟩=nt at*;refine ad.ob func233 ?_;refine gO fu tI tI ?_;intro id v;refine gO fu tI @n ?_;intro y g q;have j:=aK g
   repeat' (first
    |refine g1 ?_
    |((first|refine g2 ?_ |((with_reducible apply dX 5 oX);refine dY mixed ?_)|((with_reducible apply dX 6 oW);refine dY mixed ?_)|((with_reducible apply ag.id);first|apply ag.ay (n _))|((with_reducible apply aD.id);first|apply aD.ay (fun _ =>n _)));simp-implicitDefEqProofs [-xr,H,j])
    |trivial
    |(with_reducible apply j2)
    |((with_reducible first|apply aq.ret|apply aq.skip|apply aq.exit);try simp-implicitDefEqProofs [-xr])
    |((with_reducible first|apply cJ.split|apply bx.split|apply fG.split)<;>(intro I;(try simp-implicitDefEqProofs only[I]);(try simp at I))<;>try simp-implicitDefEqProofs [-xr,j]))
   all_goals exact gJ tI
  ·have F:=HJ h E;rw[F]at hf;have u:¬(gH x.op).2.1=8:=E;have K:oO x.op=(gH x.op).2.1:=rfl;rw[K];generalize dN x=J at*;generalize gH x.op=it at*;obtain⟨op,arg,k,w,d,r⟩:=x;obtain⟨i1,i2,i3⟩:=it;simp only[aJ,gu]at n hf u⊢;cases J;all_goals
    simp at hf;refine ad.ob func233 ?_;refine gO fu tI tI ?_;intro id v;refine gO fu tI @n ?_;intro y g q;have j:=aK g;refine gO fu (j2 @u g) @hf ?_;all_goals exact gJ tI
def qT (l:List cE) (o:cC) (nl:Bool):AV:= .ao 110 (l.map aJ) o nl
def B9 {l:List cE}(h:(bZ l).2≠0):(bZ l).1= []:=by
 unfold bZ at h⊢;split
 ·rfl
 ·split
  ·rename_i h1 d;rw[if_neg h1,if_pos d]at h;simp at h
  ·rfl
def uX (p:List Int×Int):AV:= .bI [.ao 3 (p.1.map aS) .aI (decide (p.1= [])),zI p.2]
def rI (l:List cE) (o:cC) (nl:Bool) (hl:l.length≤140737488355328) (σ:AS):
 ad prog 186 [qT l o nl] σ (ah (uX (bZ l)) σ) No:=by
 have G:=fun x σ=>AZ x σ;simp only[qT,uX];by_cases J:160<l.length
 ·have e:bZ l=([],4):=by simp[bZ,J]
  rw[e];refine ad.ob func186 ?_;have v:(160<(l.length:Int))=True:=eq_true (by omega);exact gE aa @v tI
 ·have v:(160<(l.length:Int))=False:=eq_false (by omega);have e:bZ l=if l.all dN then(aE l 0,0)else([],17):=by simp only[bZ];rw[if_neg J]
  refine ad.ob func186 ?_;refine gO aa @v tI ?_;refine aq.fy 4 3 [aS 0] false (by simp) (.inl (by simp[aF])) ?_;simp-implicitDefEqProofs;intro tk I;refine gO aa tI tI ?_;refine aq.aQ (α:=(Nat)×(List Int)×(Int)) ((0,[],0)) (fun⟨i,ds,a⟩=>l.length-i) (fun⟨i,ds,a⟩=>i≤l.length∧ds.length=i∧l.all dN=(l.drop i).all dN∧ds++aE (l.drop i) a=aE l 0∧0≤a∧a≤9*i) [(14,?_),(15,?_)] (fun⟨i,ds,a⟩=> [(16,zI i),(4,.ao 3 (ds.map aS++ [zI a]) (.tok tk) false),(5,zI a)]) (fun⟨i,ds,a⟩=>σ.set tk (.tok (ds.length+1))) ?_ ?_ ?_ ?_;rotate_left 2
  ·exact gF tI
  ·exact gT
  ·exact⟨by omega,rfl,rfl,rfl,by omega,by omega⟩
  intro K F;obtain⟨i,ds,a⟩:=K;try dsimp only at F⊢
  obtain⟨Y,hd,q,w,X,V⟩:=F;simp only[eZ];by_cases hlt:i<l.length
  ·have E:zW ((i:Int)+1)=((i+1:Nat):Int):=bQ (by omega);rw[drop_eq_getElem_cons hlt]at q w;have j:=G l[i];have Q:=eN (oO l[i].op);have H:=fun σ=>qI (oO l[i].op) σ;generalize hx:l[i]=x at*;simp only[all_cons,aE]at q w;generalize O:oO x.op=y at*;obtain⟨op,arg,k,M,d,r⟩:=x;cases hb:dN ⟨op,arg,k,M,d,r⟩
   ·rw[hb]at q j;simp only[Bool.false_and]at q;rw[e,q];simp only[aJ]at j;refine gO aa (j4 hlt @hx @aJ.eq_1 @aH) tI ?_;intro id g u;have n:=aK g;refine gO aa tI @j ?_;all_goals exact gJ tI
   ·rw[hb]at q j;simp only[Bool.true_and]at q;have w1:zW (1+cK y)=1+cK y:=az (by omega) (by omega);have L:zW (a+(1+cK y))=a+(1+cK y):=az (by omega) (by omega);simp only[aJ]at j;have T:ds.length≤160:=by omega
    refine gO aa (j4 hlt @hx @aJ.eq_1 @aH) tI ?_;intro id g u;have n:=aK g;refine gO aa (j4 g @w1 @L @E) (j2 @j @H) ?_;refine jC.mk ((i+1,ds++ [a],a+(1+cK y))) gM (gF @aF) (by(try dsimp only);(simp;exact an (by simp[g,u]) (lR _))) ?_;try dsimp only
    exact⟨by omega,by simp[hd],q,by rw[←w];simp[Int.add_assoc],by omega,by omega⟩
  ·rw[drop_eq_nil_of_le (by omega)]at w q;rw[e,q];simp only[aE]at w;repeat (first
    |refine g1 ?_
    |((first|refine g2 ?_);simp-implicitDefEqProofs [hlt,←w,aF])
    |(refine g3 ?_;try simp-implicitDefEqProofs))
   all_goals exact gJ tI
def uT (S:List Nat):bH prog [(0,(.S 0 (.S 1 (.S 2 (.S 3 (.S 5 (.S 6 (.S 7 (.S 9 (.S 15 (.S 16 (.S 17 (.S 19 (.S 20 (.S 24 (.R 4 (.R 8 (.S 10 (.S 11 (.R 12 (.S 13 (.R 14 (.R 18 (.S 21 (.R 22 (.S 23 (.A 25 .D .Z)))))))))))))))))))))))))))] S:=mixed
def T7 (l:List cE) (o:cC) (nl:Bool) (P:List Int) (np:Bool) (bs:zY) (tk:Nat) (nb:Bool):bP:=
 .cells 313 [.ao 110 (l.map aJ) o nl,.ao 3 (P.map aS) .aI np,.ao 5 (bs.map u8) (.tok tk) nb]
def iS (l:List cE) (o:cC) (nl:Bool) (P:List Int) (np:Bool) (bs:zY) (tk:Nat) (nb:Bool):
 T7 l o nl P np bs tk nb= .cells 313 [.ao 110 (l.map aJ) o nl,.ao 3 (P.map aS) .aI np,.ao 5 (bs.map u8) (.tok tk) nb]:=rfl
def U4 (id:Nat) (l:List cE) (o:cC) (nl:Bool) (P:List Int) (np:Bool) (bs add:zY) (σ:AS) (r:AV) (d:AS):Prop:=
 ∃tk,σ tk=none∧r= .bI []∧d=(σ.set tk (.tok (bs.length+add.length))).set id (T7 l o nl P np (bs++add) tk false)
def ag.Wc {f:FuncId}{first cap args:List AV}{σ:AS}{R g K j:AV→AS→Prop}(h:ad prog f (first++args++cap) σ R g) (q:∀r d,R r d→K r d) (n:∀r d,g r d→j r d):ag prog (.fn (.func f) first cap) args σ K j:=⟨R,g,h,q,n⟩
section
variable (id:Nat) (l:List cE) (o:cC) (nl:Bool) (P:List Int) (np:Bool) (bs:zY) (tk:Nat) (nb:Bool) (hn:nb=true→bs= []) (hb:bs.length≤1000000) (σ:AS) (h:σ id=some (T7 l o nl P np bs tk nb))
include hn hb h
def kY (x n:Int) (hw:wide n=true):
 ad prog 266 [.ptr id 0,zI x,zI n] σ (U4 id l o nl P np bs (aX (m64 x) n.toNat) σ) No:=by
 have j:=fun σ=>ot bs (.tok tk) nb hn hb (m64 x) n (rz x) (by unfold m64;omega) hw σ;have q:IntKind.u64.wrap x=m64 x:=by rw[IE];rfl
 rw[iS]at h;refine ad.ob func266 ?_;refine gO aa (j4 @h @q @underlying2 @underlying137) @j ?_;intro g d;have n1:¬id=g:=nq h d;simp-implicitDefEqProofs [n1];exact⟨_,_,Wk.refl _,lR _,g,d,rfl,by rw[iS];simp[aA]⟩
variable (i:Nat) (x:cE) (hlt:i<l.length) (hx:l[i]=x)
include hlt hx
def nC (n:Int) (hw:wide n=true):
 ad prog 235 [.ptr id 0,zI i,zI n] σ (U4 id l o nl P np bs (aX (m64 x.arg) n.toNat) σ) No:=by
 have u:=kY id l o nl P np bs tk nb hn hb σ h x.arg n hw;rw[iS]at h;obtain⟨op,arg,k,E,d,r⟩:=x;refine ad.ob func235 ?_;refine gO aa (j4 @h hlt @hx @aJ.eq_1) tI ?_;refine ag.of u ?_ (fun _ _ h=>h.elim);rintro w v j;have g:=j;obtain⟨q,y,rfl,rfl⟩:=g;refine gO aa tI tI ?_;exact⟨_,_,Wk.refl _,lR _,j⟩
def vh (v: -9223372036854775808≤x.arg∧x.arg<9223372036854775807) (n:Int) (hw:wide n=true):
 ad prog 237 [.ptr id 0,zI i,zI n] σ (U4 id l o nl P np bs (aX (m64 (x.arg+1)) n.toNat) σ) No:=by
 have w:=kY id l o nl P np bs tk nb hn hb σ h (x.arg+1) n hw;have g:zW (x.arg+1)=x.arg+1:=az (by omega) (by omega);rw[iS]at h;obtain⟨op,arg,k,G,d,r⟩:=x;refine ad.ob func237 ?_;refine gO aa (j5 @h hlt @hx @aJ.eq_1 @g) tI ?_;refine ag.of w ?_ (fun _ _ h=>h.elim);rintro E y q;have j:=q;obtain⟨u,F,rfl,rfl⟩:=j;refine gO aa tI tI ?_;exact⟨_,_,Wk.refl _,lR _,q⟩
def GK (I:∀y∈P,0≤y∧y≤10000) (ha:0≤x.arg) (F:x.arg<P.length) (E:i+1<P.length) (K:P.length≤1000) (n:Int) (hw:wide n=true):
 ad prog 236 [.ptr id 0,zI i,zI n] σ (U4 id l o nl P np bs (aX (m64 (P.getD x.arg.toNat 0-P.getD (i+1) 0)) n.toNat) σ) No:=by
 have w:=kY id l o nl P np bs tk nb hn hb σ h (P.getD x.arg.toNat 0-P.getD (i+1) 0) n hw;rw[iS]at h;obtain⟨op,arg,k,V,d,r⟩:=x;simp only at ha F w⊢;obtain⟨a,rfl⟩:∃a:Nat,arg=a:=⟨arg.toNat,by omega⟩;have j:a<P.length:=by omega
 have M:P.getD (a:Int).toNat 0=P[a]:=by simp[getD_eq_getElem?_getD,j]
 have L:P.getD (i+1) 0=P[i+1]:=by simp[getD_eq_getElem?_getD,E]
 have Y:=I _ (getElem_mem j);have X:=I _ (getElem_mem E);rw[M,L]at w⊢;generalize v:P[a]=G at*;generalize g:P[i+1]=p2 at*;have u:zW (G-p2)=G-p2:=az (by omega) (by omega);refine ad.ob func236 ?_;have q:zW ((i:Int)+1)=((i+1:Nat):Int):=bQ (by omega);refine gO uT (j2 (j7 @h hlt @hx @aJ.eq_1 @u @j @E) (j4 @v @g @aF @q)) tI ?_;refine ag.of w ?_ (fun _ _ h=>h.elim);rintro Q O H;have g:=H;obtain⟨J,T,rfl,rfl⟩:=g;refine gO uT tI tI ?_;exact⟨_,_,Wk.refl _,lR _,H⟩
end
abbrev nE:bW:=(.S 0 (.S 1 (.S 2 (.S 3 (.S 5 (.R 4 (.R 6 (.S 7 (.S 8 (.A 9 (.S 10 (.S 11 (.A 12 .D .Z))) .Z))))))))))
def dG (S:List Nat):bH prog [(12,nE)] S:=mixed
def Wh (p:zY×Int):AV:= .bI [.ao 5 (p.1.map u8) .aI (decide (p.1= [])),zI p.2]
def N3 (id:Nat):bP:= .cells 315 [.sc .nilFunc,.fn (.func 235) [.ptr id 0] [],.fn (.func 235) [.ptr id 0] [],.fn (.func 235) [.ptr id 0] [],.fn (.func 235) [.ptr id 0] [],.fn (.func 236) [.ptr id 0] [],.fn (.func 237) [.ptr id 0] [],.fn (.func 237) [.ptr id 0] [],.fn (.func 235) [.ptr id 0] []]
def xG (l:List cE) (o:cC) (nl:Bool) (hl:l.length≤140737488355328) (σ:AS):
 ad prog 187 [qT l o nl] σ (ah (Wh (cV l)) σ) No:=by
 have hp:=fun σ=>rI l o nl hl σ;simp only[qT,uX,Wh]at hp⊢;by_cases Q:(bZ l).2=0;rotate_left
 ·have e:cV l=([],(bZ l).2):=by unfold cV;rw[if_neg Q]
  have e1:=B9 Q;rw[e];rw[e1]at hp;generalize (bZ l).2=pe at*;refine ad.ob func187 ?_;exact gE dG @Q @hp
 obtain⟨hlen,bb,b1⟩:=ru Q;have e:cV l=if l.any (kB l.length)then([],11)else(fV (aE l 0) l 0,0):=by unfold cV;rw[if_pos Q]
 have be:=oz l 0;have b6:∀y∈aE l 0,0≤y∧y≤10000:=fun y hy=>⟨qw l 0 y hy,by have:=qv l 0 y hy;omega⟩;have cc:¬aE l 0= []:=by intro e;rw[e]at be;simp at be
 rw[b1]at hp;simp only[cc,decide_false]at hp;generalize aE l 0=P at*;have ar:∀x∈l,dN x=true:=by simpa using bb
 have b3:=fun x σ=>AZ x σ;refine ad.ob func187 ?_;refine gO (S:= [5]) dG tI @hp ?_;intro id cl;refine gO dG tI tI ?_;intro K g b5;have I:=aK g;refine aq.r9 id 2 5 [] true (ty:=313) (cs:= [.ao 110 (l.map aJ) o nl,.ao 3 (P.map aS) .aI false,.ai]) (by simp[I]) (by simp) (.inr ⟨by simp,rfl,rfl⟩) ?_;simp-implicitDefEqProofs [g];intro tk n u ac;have O:=aK u;have J:=aK n;refine gO dG tI tI ?_;refine aq.aQ (α:=(Nat)×(zY)×(Nat)) ((0,[],tk)) (fun⟨i,bs,t⟩=>l.length-i) (fun⟨i,bs,t⟩=>i≤l.length∧bs.length≤9*i∧l.any (kB l.length)=(l.drop i).any (kB l.length)∧bs++fV P (l.drop i) i=fV P l 0∧σ t=none∧ ¬t=id∧ ¬t=K) [(0,?_),(6,?_),(7,?_),(42,?_),(43,?_)] (fun⟨i,bs,t⟩=> [(44,zI i)]) (fun⟨i,bs,t⟩=>((σ.set K (N3 id)).set t (.tok bs.length)).set id (T7 l o nl P false bs t (decide (bs= [])))) ?_ ?_ ?_ ?_;rotate_left 5
 ·exact gF tI
 ·(try dsimp only);(intro w y_ am;by_cases e1:w=id<;>by_cases e2:w=K<;>by_cases e3:w=tk<;>simp_all [AS.set,iS,N3])
 ·exact⟨by omega,by simp,rfl,rfl,ac,u,n⟩
 intro x_ a7;obtain⟨i,bs,t⟩:=x_;try dsimp only at a7⊢
 obtain⟨hi,c5,V,hX,b4,q,E⟩:=a7;simp only[eZ];clear ac u n O J;have H:=aK q;have F:=aK E;by_cases hlt:i<l.length
 ·have M:IntKind.i64.wrap ((i:Int)+1)=((i+1:Nat):Int):=bQ (by omega);rw[drop_eq_getElem_cons hlt]at V hX;have L:=b3 l[i];have a8:=ar l[i] (getElem_mem hlt);generalize hx:l[i]=x at*;rw[a8]at L;simp only[any_cons,fV]at V hX;obtain⟨r1,r2,r3,q0,q1,q3,q5,q6,q8⟩:=kg a8;have a9:=fun σ=>qI (oO x.op) σ;have c4:=ja x.op;have ap:aJ x= .agg [zI x.op,zI x.arg,zI x.t.kind,zI x.t.index,zI x.t.bT,.sc (.bool x.t.ref)]:=rfl;rw[ap]at L;by_cases G:kB l.length x=true
  ·have h5:oO x.op=5:=by simp[kB]at G;exact G.1
   have av:((l.length:Int)≤x.arg)=True:=eq_true (by simp[kB]at G;exact G.2);rw[G]at V;simp only[Bool.true_or]at V;rw[e,V];rw[h5]at L;refine gO dG (j5 hlt @hx @ap @iS @aH) tI ?_;intro al n1 n2 n3 a0;refine gO dG @av @L ?_;all_goals exact gJ tI
  ·have bc:kB l.length x=false:=by simpa using G
   rw[bc]at V;simp only[Bool.false_or]at V;obtain⟨c,Y⟩:∃c:UInt8,UInt8.ofNat (x.op%256).toNat=c:=⟨_,rfl⟩;have bf:IntKind.u8.wrap x.op=(c.toNat:Int):=by rw[Bx,←Y];simp;omega
   have ck:bs.length≤1440:=by omega
   have cb:i+1<P.length:=by omega
   have ca:P.length≤1000:=by omega
   generalize T:oO x.op=X at*;have av:X=5→((l.length:Int)≤x.arg)=False:=fun h5=>eq_false (by simp[kB,T,h5]at G;omega);refine gO dG (j5 hlt @hx @ap @iS @aH) tI ?_;intro al n1 n2 n3 a0;have af:=aK n1;have a6:=aK n2;have a5:=aK n3;have b2:X=0∨X=1∨X=2∨X=3∨X=4∨X=5∨X=6∨X=7∨X=8:=by omega
   rcases b2 with rfl|rfl|rfl|rfl|rfl|rfl|rfl|rfl|rfl
   ·refine gO dG (j2 (j7 @n1 @n2 @af @a6 @a5 H F) (j7 q @bf @N3.eq_1 @underlying3 @underlying5 g @M)) (j2 @L @a9) ?_;have d:cS x (P.getD x.arg.toNat 0) (P.getD (i+1) 0)= [c]:=by simp[cS,mq,T,Y]
    rw[d]at hX;refine gB ((i+1,bs++ [c],t)) (by(try dsimp only);(intro w y_ am;by_cases e1:w=id<;>by_cases e2:w=K<;>by_cases e4:w=t<;>by_cases e5:w=al<;>simp_all [AS.set])) ?_;try dsimp only
    exact⟨hlt,by simp;omega,V,by rw[←hX];simp,b4,q,E⟩
   have W:=fun s h=>nC id l o nl P false (bs++ [c]) t false (by simp) (by simp;omega) s h i x hlt hx 4 (by decide);have d:cS x (P.getD x.arg.toNat 0) (P.getD (i+1) 0)=c::aX (m64 x.arg) 4:=by simp[cS,mq,T,Y,cK]
   have j:=aA (m64 x.arg) 4;simp only[Int.reduceToNat]at W;generalize aX (m64 x.arg) 4=R at W d j;rotate_left;have W:=fun s h=>nC id l o nl P false (bs++ [c]) t false (by simp) (by simp;omega) s h i x hlt hx 8 (by decide);have d:cS x (P.getD x.arg.toNat 0) (P.getD (i+1) 0)=c::aX (m64 x.arg) 8:=by simp[cS,mq,T,Y,cK]
   have j:=aA (m64 x.arg) 8;simp only[Int.reduceToNat]at W;generalize aX (m64 x.arg) 8=R at W d j;rotate_left;have W:=fun s h=>nC id l o nl P false (bs++ [c]) t false (by simp) (by simp;omega) s h i x hlt hx 1 (by decide);have d:cS x (P.getD x.arg.toNat 0) (P.getD (i+1) 0)=c::aX (m64 x.arg) 1:=by simp[cS,mq,T,Y,cK]
   have j:=aA (m64 x.arg) 1;simp only[Int.reduceToNat]at W;generalize aX (m64 x.arg) 1=R at W d j;rotate_left;have W:=fun s h=>nC id l o nl P false (bs++ [c]) t false (by simp) (by simp;omega) s h i x hlt hx 1 (by decide);have d:cS x (P.getD x.arg.toNat 0) (P.getD (i+1) 0)=c::aX (m64 x.arg) 1:=by simp[cS,mq,T,Y,cK]
   have j:=aA (m64 x.arg) 1;simp only[Int.reduceToNat]at W;generalize aX (m64 x.arg) 1=R at W d j;rotate_left;obtain⟨a1,a2⟩:=q5 rfl;have W:=fun s h=>GK id l o nl P false (bs++ [c]) t false (by simp) (by simp;omega) s h i x hlt hx b6 a1 (by simp[kB,T]at G;omega) cb ca 2 (by decide);have d:cS x (P.getD x.arg.toNat 0) (P.getD (i+1) 0)=c::aX (m64 (P.getD x.arg.toNat 0-P.getD (i+1) 0)) 2:=by simp[cS,mq,T,Y,cK]
   have j:=aA (m64 (P.getD x.arg.toNat 0-P.getD (i+1) 0)) 2;simp only[Int.reduceToNat]at W;generalize aX (m64 (P.getD x.arg.toNat 0-P.getD (i+1) 0)) 2=R at W d j;rotate_left;have W:=fun s h=>vh id l o nl P false (bs++ [c]) t false (by simp) (by simp;omega) s h i x hlt hx (by have:=q6 (by simp);omega) 2 (by decide);have d:cS x (P.getD x.arg.toNat 0) (P.getD (i+1) 0)=c::aX (m64 (x.arg+1)) 2:=by simp[cS,mq,T,Y,cK]
   have j:=aA (m64 (x.arg+1)) 2;simp only[Int.reduceToNat]at W;generalize aX (m64 (x.arg+1)) 2=R at W d j;rotate_left;have W:=fun s h=>vh id l o nl P false (bs++ [c]) t false (by simp) (by simp;omega) s h i x hlt hx (by have:=q6 (by simp);omega) 2 (by decide);have d:cS x (P.getD x.arg.toNat 0) (P.getD (i+1) 0)=c::aX (m64 (x.arg+1)) 2:=by simp[cS,mq,T,Y,cK]
   have j:=aA (m64 (x.arg+1)) 2;simp only[Int.reduceToNat]at W;generalize aX (m64 (x.arg+1)) 2=R at W d j;rotate_left;have W:=fun s h=>nC id l o nl P false (bs++ [c]) t false (by simp) (by simp;omega) s h i x hlt hx 2 (by decide);have d:cS x (P.getD x.arg.toNat 0) (P.getD (i+1) 0)=c::aX (m64 x.arg) 2:=by simp[cS,mq,T,Y,cK]
   have j:=aA (m64 x.arg) 2;simp only[Int.reduceToNat]at W;generalize aX (m64 x.arg) 2=R at W d j;rotate_left;all_goals
    refine gO dG (j2 (j7 @n1 @n2 @af @a6 @a5 H F) (j8 q @bf @N3.eq_1 @underlying3 @underlying5 g @M @av)) (j2 @L @a9) ?_;refine ag.Wc (first:= [.ptr id 0]) (cap:= []) (W _ (by simp[iS,af])) ?_ (fun _ _ h=>h.elim);rintro r2 σ2 ⟨a4,v,rfl,rfl⟩;simp at v;simp-implicitDefEqProofs;refine gO dG @M tI ?_;rw[d]at hX;refine gB ((i+1,bs++c::R,a4)) (by(try dsimp only);(intro w y_ am;by_cases e1:w=id<;>by_cases e2:w=K<;>by_cases e3:w=a4<;>by_cases e4:w=t<;>by_cases e5:w=al<;>simp_all [AS.set,iS])) ?_;try dsimp only
    exact⟨hlt,by simp[j];omega,V,by rw[←hX];simp,by simp[v],by simp[v],by simp[v]⟩
 ·rw[drop_eq_nil_of_le (by omega)]at hX V;rw[e,V];simp only[fV,append_nil]at hX;repeat (first
   |refine g1 ?_
   |((first|refine g2 ?_ |((with_reducible apply dX 12 nE);refine dY mixed ?_));simp-implicitDefEqProofs [hlt,←hX,iS])
   |(refine g3 ?_;try simp-implicitDefEqProofs))
  intro w y_ am;by_cases e1:w=id<;>by_cases e2:w=K<;>by_cases e3:w=t<;>simp_all [AS.set]
def NP (x:Int) (σ:AS):ad prog 277 [zI x] σ (ah (zB false) σ) No:=by refine ad.ob func277 ?_;exact gE aa tI tI
def Ft (x:Int) (σ:AS):ad prog 274 [zI x] σ (ah (zB false) σ) No:=by refine ad.ob func274 ?_;exact gE aa tI tI
def Nd (x y:Int) (σ:AS):ad prog 273 [zI x,zI y] σ (ah (.sc (.bool (decide (x<y)))) σ) No:=by refine ad.ob func273 ?_;exact gE aa tI @NP
def OL (l:List Int) (t:Int) (n:l.Pairwise (· < ·)):∃p:Nat,p≤l.length∧(∀j (h:j<l.length),l[j]<t↔j<p):=by
 induction l with
 |nil=>exact⟨0,by simp,fun j h=>by simp at h⟩
 |cons a r g=>
  obtain⟨h1,u⟩:=pairwise_cons.1 n;obtain⟨p,v,q⟩:=g u;by_cases ha:a<t
  ·refine⟨p+1,by simp;omega,fun j d=> ?_⟩;cases j with
   |zero=>simp[ha]
   |succ j=>simpa using q j (by simpa using d)
  ·refine⟨0,by simp,fun j d=> ?_⟩;cases j with
   |zero=>simp;omega
   |succ j=>have:=h1 _ (getElem_mem (show j<r.length by simpa using d));simp;omega
theorem Gc (l:List Int) (t:Int) (v:l.Pairwise (· < ·)) (p:Nat) (g:∀j (h:j<l.length),l[j]<t↔j<p):l.findIdx? (fun y=>decide (y=t))=if l[p]? =some t then some p else none:=by
 split
 ·rename_i h;obtain⟨h1,u⟩:=List.getElem?_eq_some_iff.1 h;rw[List.findIdx?_eq_some_iff_getElem];refine⟨h1,by simp[u],fun j d=> ?_⟩;have:=(g j (by omega)).2 d;simp;omega
 ·rename_i h;rw[List.findIdx?_eq_none_iff];intro x hx;obtain⟨j,d,rfl⟩:=List.mem_iff_getElem.1 hx;simp;intro e;apply h;have h1:=(g j d);have u:¬j<p:=fun q=>by have:=h1.2 q;omega
  rcases Nat.lt_or_ge p j with n|n
  ·have E:¬l[p]<t:=fun q=>by have:=(g p (by omega)).1 q;omega
   have w:=List.pairwise_iff_getElem.1 v p j (by omega) d n;exfalso;omega
  ·have:p=j:=by omega
   subst this;rw[List.getElem?_eq_getElem d,e]
theorem OX (l:List Int) (t:Int) (o:cC) (nl:Bool) (p:Nat) (M:p≤l.length) (hl:l.length≤1000000) (h:∀j (h:j<l.length),l[j]<t↔j<p) (σ:AS):
 ad prog 252 [.ao 3 (l.map aS) o nl,zI t] σ (ah (.bI [zI p,.sc (.bool (decide (l[p]? =some t)))]) σ) No:=by
 have F:=fun x σ=>Nd x t σ;have H:=h;obtain⟨n,hn⟩:∃n,l.length=n:=⟨_,rfl⟩;rw[hn]at M hl;refine ad.ob func252 ?_;refine gO aa @hn tI ?_;refine aq.aQ (α:=(Nat)×(Nat)) ((0,n)) (fun⟨i,j⟩=>j-i) (fun⟨i,j⟩=>i≤p∧p≤j∧j≤n) [(0,?_),(1,?_),(4,?_),(5,?_),(6,?_)] (fun⟨i,j⟩=> [(7,zI i),(8,zI j)]) (fun⟨i,j⟩=>σ) ?_ ?_ ?_ ?_;rotate_left 5
 ·exact gF tI
 ·exact gT
 ·(try dsimp only)<;>first|exact trivial|exact⟨by omega,rfl⟩|omega|(simp;done)|exact⟨by omega,by simp⟩|exact⟨by omega,by simp,rfl⟩
 intro K w;obtain⟨i,j⟩:=K;try dsimp only at w⊢
 obtain⟨h1,T,Q⟩:=w;simp only[eZ];by_cases hlt:i<j
 ·have w1:IntKind.i64.wrap ((i:Int)+j)=(i:Int)+j:=az (by omega) (by omega);have J:IntKind.u64.wrap ((i:Int)+j)=(i:Int)+j:=ng (by omega) (by omega);obtain⟨m,hm⟩:∃m:Nat,m=(i+j)/2:=⟨_,rfl⟩;have I:IntKind.i64.wrap (((i:Int)+j)/2)=(m:Int):=by rw[az (by omega) (by omega)];omega
  have E:m<n:=by omega
  have y:m<l.length:=by omega
  have u:=H m y;obtain⟨x,hx,_⟩:=gQ l y;obtain⟨_,d⟩:=List.getElem?_eq_some_iff.1 hx;rw[d]at u;have g:IntKind.i64.wrap ((m:Int)+1)=((m+1:Nat):Int):=bQ (by omega);by_cases G:x<t
  ·refine gO aa (j2 (j7 hlt @w1 @J @I @E @d @G) (j4 @aF @aH @hn @g)) @F ?_;refine gB ((m+1,j)) gT ?_;try dsimp only
   exact⟨by have:=u.1 G;omega,T,Q⟩
  ·refine gO aa (j2 (j7 hlt @w1 @J @I @E @d @G) (j4 @aF @aH @hn @g)) @F ?_;refine gB ((i,m)) gT ?_;try dsimp only
   exact⟨h1,by rcases Nat.lt_or_ge m p with q|q;exact absurd (u.2 q) G;exact q,by omega⟩
 ·obtain rfl:i=j:=by omega
  obtain rfl:i=p:=by omega
  by_cases v:i<n
  ·obtain⟨x,hx,_⟩:=gQ l (i:=i) (by omega);obtain⟨L,d⟩:=List.getElem?_eq_some_iff.1 hx;by_cases he:x=t
   ·exact gE aa (j7 hlt @v @d @he @aF @aH @hn) @Ft
   ·exact gE aa (j7 hlt @v @d @he @aF @aH @hn) @Ft
  ·have O:l[i]? =none:=List.getElem?_eq_none (by omega);exact gE aa (j4 hlt @v @aH @hn) tI
def sZ (v n:Int) (hn:n=2∨n=4∨n=8) (h0:0≤v) (g:v<256^n.toNat) (σ:AS):ad prog 272 [.sc (.int .u64 v),zI n] σ (ah (zI (yb n.toNat v)) σ) No:=by
 have d:zW 48=48:=by decide
 rcases hn with rfl|rfl|rfl;all_goals
  refine ad.ob func272 ?_;refine gO aa (j3 @d @underlying2 @underlying137) tI ?_;refine RP ?_;simp only[Int.reduceToNat,B6,He,Af]at g;simp only[yb,B6,He,Af,By,IE];split<;>omega
end Cd
end Go.Proofs.YtknalmoackcpbaaGreat
