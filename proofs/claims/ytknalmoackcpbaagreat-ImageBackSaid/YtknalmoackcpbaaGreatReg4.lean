/- Package regions: fits. -/
import Derived.Test.YtknalmoackcpbaaGreatSig7
set_option maxRecDepth 100000
set_option maxHeartbeats 3200000
set_option linter.all false
namespace Go.Proofs.YtknalmoackcpbaaGreat
namespace Rg
open Go Go.AW
abbrev pJ:b7:=(.read 0 (.pure 1 (.read 2 (.pure 3 (.step 4 (.step 5 .done))))))
abbrev pI:b7:=(.step 0 (.step 1 (.step 2 (.step 4 (.step 5 (.step 6 (.read 3 (.read 7 (.step 8 .done)))))))))
theorem fQ (S:List Nat):aH Tryz.prog [(1,pJ),(9,pI)] S:=mixed
def C9 (a b:Pt):Bool:=decide (a.p=1)&&decide (b.p=1)
def Ub (_ _ :Pt):Bool:=false
def CI (l:List Pt) (x:Pt):Bool:= !l.any fun y=> !qw y.s x.s
def gw (a b:Cl):Bool:=
 match (cp 1 b).find? (CI (cp 0 a))with
 |some x=>decide (x.p=1)|| !(cp 0 a).any (fun y=> !decide (y.p=1)&&decide (y.s.f=x.s.f))
 |none=>if (decide (a.tf=b.tf)&&decide (a.tt=b.tt))=true then !rS (cp 0 a) (cp 1 b) C9 else !rS (cp 0 a) (cp 1 b) Ub
theorem yJ (k:Int) (c:Cl):(cp k c).length≤3:=by simp[cp];split<;>simp
theorem Mx {α:Type}{g:α→Bool}{l:List α}{i:Nat}(h:i<l.length) (h1:∀x∈l.take i,g x=false) (d:g l[i]=true):l.find? g=some l[i]:=by rw[List.find?_eq_some_iff_getElem];refine⟨d,i,h,rfl,fun j n=> ?_⟩;rw[h1 _ (by rw[List.mem_take_iff_getElem];exact⟨j,by omega,rfl⟩)];rfl
theorem Mw {α:Type}{g:α→Bool}{l:List α}(h1:∀x∈l,g x=false):l.find? g=none:=by rw[List.find?_eq_none];intro x hx;rw[h1 x hx];simp
theorem qM (a b:Cl) (σ:AS):aa Tryz.prog 179 [ic a,ic b] σ (ao (.sc (.bool (gw a b))) σ) No:=by
 have U:=fun σ=>wF 0 a σ;have T:=fun σ=>wF 1 b σ;have hl:=yJ 0 a;have hm:=yJ 1 b;have M:0<(cp 0 a).length:=by simp[cp]
 have L:0<(cp 1 b).length:=by simp[cp]
 have Z:(cp 0 a)[0]'M=⟨0,1,⟨a.tf,a.tt⟩⟩:=rfl;have Y:(cp 1 b)[0]'L=⟨1,1,⟨b.tf,b.tt⟩⟩:=rfl;have u:=fun σ=>xl (cp 0 a) (cp 1 b) .aE .aE false false (by omega) (by omega) 227 C9 H4 σ;have q:=fun σ=>xl (cp 0 a) (cp 1 b) .aE .aE false false (by omega) (by omega) 228 Ub Jd σ;have hw:=fun(x:Pt) id (σ:AS) h=>fI (cp 0 a) .aE false (.fn (.func 224) [] [.ptr id 0]) (fun y=> !qw y.s x.s) σ (by omega) (fun y _ =>mX.fn (first:= []) (args:= [kU y]) (cap:= [.ptr id 0]) (JV x y id σ h));have hb:=fun(x:Pt) id (σ:AS) h=>fI (cp 0 a) .aE false (.fn (.func 226) [] [.ptr id 0]) (fun y=> !decide (y.p=1)&&decide (y.s.f=x.s.f)) σ (by omega) (fun y _ =>mX.fn (first:= []) (args:= [kU y]) (cap:= [.ptr id 0]) (JU x y id σ h));unfold gw;simp only[ic,aG,LN,Mq]at U T u q⊢;have O:∀x,((cp 0 a).any fun y=> !qw y.s x.s)= !CI (cp 0 a) x:=fun x=>by simp[CI]
 simp only[O]at hw;generalize cp 0 a=l at*;generalize cp 1 b=m at*;generalize rS l m C9=b1 at*;generalize rS l m Ub=b2 at*;refine aa.ob Tryz.func179 ?_;refine gO fQ tI tI ?_;intro id G;refine gO fQ tI tI ?_;intro ab g v;have d:=aA g;obtain⟨B,J,I,H,X,A⟩:=Fa σ (.cells 158 [.sc (.int .i64 a.k),.sc (.int .i64 a.tf),.sc (.int .i64 a.tt),.sc (.int .i64 a.hf),.sc (.int .i64 a.ht),.sc (.int .i64 a.fl),.sc (.int .i64 a.a),.sc (.int .i64 a.b),.sc (.int .i64 a.c),.sc (.bool a.r)]) (.cells 158 [.sc (.int .i64 b.k),.sc (.int .i64 b.tf),.sc (.int .i64 b.tt),.sc (.int .i64 b.hf),.sc (.int .i64 b.ht),.sc (.int .i64 b.fl),.sc (.int .i64 b.a),.sc (.int .i64 b.b),.sc (.int .i64 b.c),.sc (.bool b.r)]) G v d;simp only[J];clear J;have hle:AS.le σ B:=A B fun _ _ _ _ h=>h;refine gO fQ (j2 @I @H) (j2 @U @T) ?_;refine ae.bp (α:=(Nat)) (0) (fun i=>m.length-i) (fun i=>i≤m.length∧ ∀x∈m.take i,CI l x=false) [(5,?_),(6,?_),(14,?_),(15,?_)] (fun i=> [(16,.sc (.int .i64 i))]) (fun i=>B) ?_ ?_ ?_ ?_;rotate_left 4
 ·exact gF tI
 ·exact gT
 ·(try dsimp only)<;>first|exact trivial|exact⟨by omega,rfl⟩|omega|(simp;done)|exact⟨by omega,by simp⟩|exact⟨by omega,by simp,rfl⟩
 intro i D;try dsimp only at D⊢
 obtain⟨hi,S⟩:=D;simp only[gj];by_cases hlt:i<m.length
 ·have w:IntKind.i64.wrap ((i:Int)+1)=((i+1:Nat):Int):=cv (by omega);have n:=hw m[i];have F:=hb m[i];cases K:CI l m[i]with
  |true=>
   rw[Mx hlt S K];dsimp only;rw[K]at n;generalize hx:m[i]=x at*;by_cases E:x.p=1
   ·refine gO fQ (j4 hlt @hx @kU.eq_1 @aI) tI ?_;intro id3 j;refine gO fQ (j2 @E @kU.eq_1) @n ?_;all_goals (repeat' (with_reducible apply j2))
    all_goals exact gL tI
   ·cases Q:l.any (fun y=> !decide (y.p=1)&&decide (y.s.f=x.s.f));all_goals
     rw[Q]at F;refine gO fQ (j4 hlt @hx @kU.eq_1 @aI) tI ?_;intro id3 j;refine gO fQ (j2 @E @kU.eq_1) (j2 @n @F) ?_;all_goals (repeat' (with_reducible apply j2))
     all_goals exact gL tI
  |false=>
   rw[K]at n;generalize hx:m[i]=x at*;refine gO fQ (j4 hlt @hx @kU.eq_1 @aI) tI ?_;intro id3 j;refine gO fQ (j2 @w @kU.eq_1) @n ?_;refine aP.mk (i+1) (by(try dsimp only);omega) (gF tI) (by(try dsimp only);exact aq j (lR _)) ?_;try dsimp only
   exact⟨hlt,gk hlt S (by rw[hx];exact K)⟩
 ·rw[Mw (by rwa [List.take_of_length_le (by omega)]at S)]
  repeat' (first
   |(with_reducible first|apply ae.seq|apply ae.block|refine j2 (by first|omega|assumption|decide) ?_)
   |((first|(with_reducible first|apply ae.fork|apply ae.region|show aN _ _ _ |show aB _ _ _ _ _ _ _ _ _)|((with_reducible apply ae.aR (id:=1) (t:=pJ));(exact mixed);kernel_rfl;kernel_rfl;(repeat (with_reducible first|apply ak.then|apply ak.block|apply ak.body|apply ak.no)))|((with_reducible apply ae.aR (id:=9) (t:=pI));(exact mixed);kernel_rfl;kernel_rfl;(repeat (with_reducible first|apply ak.then|apply ak.block|apply ak.body|apply ak.no)))|((with_reducible apply ag.id);first|apply ag.aC (u _)|apply ag.aC (q _))|((with_reducible apply aF.id);first|apply aF.aC (fun _ =>u _)|apply aF.aC (fun _ =>q _)));simp-implicitDefEqProofs [hlt,kU,M,L,Z,Y])
   |trivial
   |(with_reducible apply j2)
   |((with_reducible first|apply ae.ret|apply ae.skip|apply ae.exit);try simp-implicitDefEqProofs)
   |((with_reducible first|apply aN.split|apply aB.split|apply kK.split)<;>(intro V;(try simp-implicitDefEqProofs only[V]);(try simp at V))<;>try simp-implicitDefEqProofs [hlt,kU,M,L,Z,Y,aI,mj,g,d,I,H]))
  all_goals (repeat' (with_reducible apply j2))
  all_goals exact gL tI
theorem gz (S:List Nat):aH Tryz.prog [] S:=mixed
def Kd (l:List Cl) (o:cL) (nl:Bool):AV:= .an 158 (l.map ic) o nl
def Cx (d:Cl→Int) (g:Cl→Cl→Bool):List Cl→List Cl→Int×Int
 | _,[]=>(0,0)
 |pre,c::r=>if d c=0 then(if pre.all (fun a=>g a c)=true then Cx d g (pre++ [c]) r else((pre.length:Int),12))else((pre.length:Int),d c)
def ed (g:Cl→Int) (d:Cl→Cl→Bool) (l:List Cl):Int×Int:=if 6<l.length then(0,4)else Cx g d [] l
theorem aW (c:Cl):ic c= .agg [.sc (.int .i64 c.k),.sc (.int .i64 c.tf),.sc (.int .i64 c.tt),.sc (.int .i64 c.hf),.sc (.int .i64 c.ht),.sc (.int .i64 c.fl),.sc (.int .i64 c.a),.sc (.int .i64 c.b),.sc (.int .i64 c.c),.sc (.bool c.r)]:=rfl
theorem xm (n:Int) (l:List Cl) (o:cL) (nl:Bool) (hl:l.length≤140737488355328) (σ:AS):
 aa Tryz.prog 125 [.sc (.int .i64 n),Kd l o nl] σ (ao (.bQ [.sc (.int .i64 (ed (cG n) gw l).1),.sc (.int .i64 (ed (cG n) gw l).2)]) σ) No:=by
 have ha:=fun c σ=>KD n c σ;have hf:=fun a c σ=>qM a c σ;unfold ed;simp only[Kd,aW]at ha hf⊢;generalize cG n=L at*;generalize gw=F at*;refine aa.ob Tryz.func125 ?_;by_cases Q:6<l.length
 ·have E:(6<(l.length:Int))=True:=by simp;omega
  exact gE gz (j2 @Q @E) tI
 ·have E:(6<(l.length:Int))=False:=by simp;omega
  rw[if_neg Q];refine gO gz @E tI ?_;refine ae.bp (α:=(Nat)) (0) (fun i=>l.length-i) (fun i=>i≤l.length∧Cx L F [] l=Cx L F (l.take i) (l.drop i)) [(0,?_),(1,?_),(14,?_),(15,?_)] (fun i=> [(16,.sc (.int .i64 i))]) (fun i=>σ) ?_ ?_ ?_ ?_;rotate_left 4
  ·exact gF tI
  ·exact gT
  ·(try dsimp only)<;>first|exact trivial|exact⟨by omega,rfl⟩|omega|(simp;done)|exact⟨by omega,by simp⟩|exact⟨by omega,by simp,rfl⟩
  intro i q;try dsimp only at q⊢
  obtain⟨U,w⟩:=q;simp only[gj];by_cases hlt:i<l.length
  ·have G:IntKind.i64.wrap ((i:Int)+1)=((i+1:Nat):Int):=cv (by omega);rw[List.drop_eq_getElem_cons hlt]at w;simp only[Cx,List.length_take]at w;have I:=ha l[i];generalize K:l[i]=c at*;by_cases h0:L c=0
   ·rw[if_pos h0]at w;refine gO gz (j4 hlt @K @aW @aI) tI ?_;intro id v;refine gO gz @h0 @I ?_;refine ae.bp (α:=(Nat)) (0) (fun k=>i-k) (fun k=>k≤i∧ ∀x∈l.take k,F x c=true) [(0,?_),(1,?_),(6,?_),(7,?_),(8,?_),(14,?_),(15,?_),(16,?_),(17,?_),(18,?_),(19,?_),(20,?_),(21,?_),(22,?_),(23,?_),(24,?_),(25,?_),(26,?_),(27,?_),(28,?_),(29,?_),(30,?_),(31,?_)] (fun k=> [(32,.sc (.int .i64 k))]) (fun k=>σ.set id (.cells 158 (ic c).cells)) ?_ ?_ ?_ ?_;rotate_left 23
    ·exact gF tI
    ·exact gT
    ·(try dsimp only)<;>first|exact trivial|exact⟨by omega,rfl⟩|omega|(simp;done)|exact⟨by omega,by simp⟩|exact⟨by omega,by simp,rfl⟩
    intro k q;try dsimp only at q⊢
    obtain⟨T,O⟩:=q;simp only[gj];by_cases M:k<i
    ·have A:IntKind.i64.wrap ((k:Int)+1)=((k+1:Nat):Int):=cv (by omega);have y:=hf l[k] c;have D:k<min i l.length:=by omega
     generalize hd:l[k]=d at*;refine gO gz (j4 @hd @aW @D @aI) tI ?_;intro S g u;have j:=aA g;cases hb:F d c with
     |true=>
      rw[hb]at y;refine gO gz (j2 j @A) @y ?_;refine aP.mk (k+1) (by(try dsimp only);omega) (gF tI) (by(try dsimp only);exact aq (by simp[g,u]) (lR _)) ?_;try dsimp only
      refine⟨by omega,fun x hx=> ?_⟩;rw[List.take_succ_eq_append_getElem (by omega)]at hx;rcases List.mem_append.1 hx with hx|hx
      ·exact O x hx
      ·simp at hx;rw[hx,hd];exact hb
     |false=>
      rw[hb]at y;have J:¬(l.take i).all (fun a=>F a c)=true:=by intro h;rw[List.all_eq_true]at h;have:=h d (by rw[List.mem_take_iff_getElem];exact⟨k,by omega,hd⟩);rw[hb]at this;cases this
      rw[if_neg J,show min i l.length=i by omega]at w;rw[w];refine gO gz (j2 j @A) @y ?_;refine aq ?_ (aq v (lR _));simp[g,u]
    ·have H:(l.take i).all (fun a=>F a c)=true:=by rw[List.all_eq_true];intro x hx;exact O x (by rwa [show k=i by omega])
     rw[if_pos H]at w;have D:¬k<min i l.length:=by omega
     refine gO gz (j3 @D @aI @G) tI ?_;refine aP.mk (i+1) (by(try dsimp only);omega) (gF tI) (by(try dsimp only);exact aq v (lR _)) ?_;try dsimp only
     refine⟨by omega,?_⟩;rw[w,List.take_succ_eq_append_getElem hlt,K]
   ·rw[if_neg h0,show min i l.length=i by omega]at w;rw[w];refine gO gz (j4 hlt @K @aW @aI) tI ?_;intro id v;refine gO gz @h0 @I ?_;all_goals (repeat' (with_reducible apply j2))
    all_goals exact gL tI
  ·rw[List.drop_eq_nil_of_le (by omega)]at w;rw[w];simp only[Cx];exact gE gz (j2 hlt @aI) tI
end Rg
namespace Im
open Go Go.AW
theorem iM (S:List Nat):aH Tryz.prog [] S:=mixed
open Sg (lz js jr jt gk aD)
open Rg (Cl ic aW)
def iV (n:Int):AV:= .sc (.int .i64 n)
theorem Ad (n:Int):iV n= .sc (.int .i64 n):=rfl
theorem iw (x:db):aJ x= .agg [.sc (.int .i64 x.op),.sc (.int .i64 x.arg),.sc (.int .i64 x.t.kind),.sc (.int .i64 x.t.index),.sc (.int .i64 x.t.bt),.sc (.bool x.t.ref)]:=rfl
structure TD where
 name:List UInt8
 flags:Int
 ext:Int
 aZ:List Int
 fn:Bool
def kE (t:TD):AV:= .agg [.sc (.string ⟨t.name.toArray⟩),.sc (.int .i64 t.flags),.sc (.int .i64 t.ext),.an 3 (t.aZ.map iV) .aE t.fn]
theorem eu (t:TD):kE t= .agg [.sc (.string ⟨t.name.toArray⟩),.sc (.int .i64 t.flags),.sc (.int .i64 t.ext),.an 3 (t.aZ.map iV) .aE t.fn]:=rfl
structure Fd where
 name:List UInt8
 owner:Int
 ty:Ty
 stat:Bool
def ny (f:Fd):AV:= .agg [.sc (.string ⟨f.name.toArray⟩),.sc (.int .i64 f.owner),.sc (.int .i64 f.ty.kind),.sc (.int .i64 f.ty.index),.sc (.int .i64 f.ty.bt),.sc (.bool f.ty.ref),.sc (.bool f.stat)]
theorem kD (f:Fd):ny f= .agg [.sc (.string ⟨f.name.toArray⟩),.sc (.int .i64 f.owner),.sc (.int .i64 f.ty.kind),.sc (.int .i64 f.ty.index),.sc (.int .i64 f.ty.bt),.sc (.bool f.ty.ref),.sc (.bool f.stat)]:=rfl
structure Mt where
 name:List UInt8
 owner:Int
 flags:Int
 ps:List Ty
 pn:Bool
 ret:Ty
 ls:List Ty
 ln:Bool
 max:Int
 code:List db
 cn:Bool
 cls:List Cl
 xn:Bool
def jK (m:Mt):AV:= .agg [.sc (.string ⟨m.name.toArray⟩),.sc (.int .i64 m.owner),.sc (.int .i64 m.flags),.an 49 (m.ps.map cr) .aE m.pn,.sc (.int .i64 m.ret.kind),.sc (.int .i64 m.ret.index),.sc (.int .i64 m.ret.bt),.sc (.bool m.ret.ref),.an 49 (m.ls.map cr) .aE m.ln,.sc (.int .i64 m.max),.an 110 (m.code.map aJ) .aE m.cn,.an 158 (m.cls.map ic) .aE m.xn]
theorem cY (m:Mt):jK m= .agg [.sc (.string ⟨m.name.toArray⟩),.sc (.int .i64 m.owner),.sc (.int .i64 m.flags),.an 49 (m.ps.map cr) .aE m.pn,.sc (.int .i64 m.ret.kind),.sc (.int .i64 m.ret.index),.sc (.int .i64 m.ret.bt),.sc (.bool m.ret.ref),.an 49 (m.ls.map cr) .aE m.ln,.sc (.int .i64 m.max),.an 110 (m.code.map aJ) .aE m.cn,.an 158 (m.cls.map ic) .aE m.xn]:=rfl
structure bZ where
 ts:List TD
 tn:Bool
 fs:List Fd
 fn:Bool
 ms:List Mt
 mn:Bool
 entry:Int
def pD (g:bZ):AV:= .agg [.an 46 (g.ts.map kE) .aE g.tn,.an 56 (g.fs.map ny) .aE g.fn,.an 53 (g.ms.map jK) .aE g.mn,.sc (.int .i64 g.entry)]
theorem b9 (g:bZ):pD g= .agg [.an 46 (g.ts.map kE) .aE g.tn,.an 56 (g.fs.map ny) .aE g.fn,.an 53 (g.ms.map jK) .aE g.mn,.sc (.int .i64 g.entry)]:=rfl
theorem H6 (l:List TD) (o:cL) (nl:Bool) (u:AV) (g:TD→Bool) (σ:AS) (hl:l.length≤140737488355328) (hf:∀x∈l,mX Tryz.prog σ u [kE x] (.sc (.bool (g x)))):
 aa Tryz.prog 112 [.an 46 (l.map kE) o nl,u] σ (ao (.sc (.int .i64 (lz g l))) σ) No:=by
 refine aa.ob Tryz.func112 ?_;refine gO iM tI tI ?_;refine ae.bp (α:=(Nat)) (0) (fun i=>l.length-i) (fun i=>i≤l.length∧ ∀x∈l.take i,g x=false) [(0,?_),(1,?_),(7,?_)] (fun i=> [(8,.sc (.int .i64 i))]) (fun i=>σ) ?_ ?_ ?_ ?_;rotate_left 3
 ·exact gF tI
 ·exact gT
 ·(try dsimp only)<;>first|exact trivial|exact⟨by omega,rfl⟩|omega|(simp;done)|exact⟨by omega,by simp⟩|exact⟨by omega,by simp,rfl⟩
 intro i j;try dsimp only at j⊢
 obtain⟨v,q⟩:=j;simp only[gj];by_cases hlt:i<l.length
 ·have d:IntKind.i64.wrap ((i:Int)+1)=((i+1:Nat):Int):=cv (by omega);have hu:=(hf l[i] (List.getElem_mem hlt));simp only[eu]at hu;cases n:g l[i]with
  |true=>
   rw[n]at hu;rw[js hlt q n];repeat (first
    |(with_reducible first|apply ae.seq|apply ae.block|refine j2 (by first|omega|assumption|decide) ?_)
    |((first|(with_reducible first|apply ae.fork|apply ae.region|show aN _ _ _ |show aB _ _ _ _ _ _ _ _ _)|((with_reducible apply ag.id);first|apply (hu.use)));simp-implicitDefEqProofs [hlt,eu])
    |((with_reducible first|apply ae.ret|apply ae.skip|apply ae.exit);try simp-implicitDefEqProofs))
  |false=>
   rw[n]at hu;repeat (first
    |(with_reducible first|apply ae.seq|apply ae.block|refine j2 (by first|omega|assumption|decide) ?_)
    |((first|(with_reducible first|apply ae.fork|apply ae.region|show aN _ _ _ |show aB _ _ _ _ _ _ _ _ _)|((with_reducible apply ag.id);first|apply (hu.use)));simp-implicitDefEqProofs [hlt,eu,d])
    |((with_reducible first|apply ae.ret|apply ae.skip|apply ae.exit);try simp-implicitDefEqProofs))
   refine aP.mk (i+1) (by(try dsimp only);omega) (gF tI) gT ?_;try dsimp only
   exact⟨hlt,gk hlt q n⟩
 ·rw[jr (by rwa [List.take_of_length_le (by omega)]at q)];exact gE iM (j2 hlt @aI) tI
theorem H7 (l:List TD) (o:cL) (nl:Bool) (d:AV) (g:TD→Bool) (σ:AS) (hl:l.length≤140737488355328) (hf:∀x∈l,mX Tryz.prog σ d [kE x] (.sc (.bool (g x)))):
 aa Tryz.prog 48 [.an 46 (l.map kE) o nl,d] σ (ao (.sc (.bool (l.any g))) σ) No:=by
 have j:=H6 l o nl d g σ hl hf;rw[←jt];refine aa.ob Tryz.func48 ?_;exact gE iM tI @j
theorem JL (l:List Int) (o:cL) (nl:Bool) (u:AV) (g:Int→Bool) (σ:AS) (hl:l.length≤140737488355328) (hf:∀x∈l,mX Tryz.prog σ u [iV x] (.sc (.bool (g x)))):
 aa Tryz.prog 113 [.an 3 (l.map iV) o nl,u] σ (ao (.sc (.int .i64 (lz g l))) σ) No:=by
 refine aa.ob Tryz.func113 ?_;refine gO iM tI tI ?_;refine ae.bp (α:=(Nat)) (0) (fun i=>l.length-i) (fun i=>i≤l.length∧ ∀x∈l.take i,g x=false) [(0,?_),(1,?_),(7,?_)] (fun i=> [(8,.sc (.int .i64 i))]) (fun i=>σ) ?_ ?_ ?_ ?_;rotate_left 3
 ·exact gF tI
 ·exact gT
 ·(try dsimp only)<;>first|exact trivial|exact⟨by omega,rfl⟩|omega|(simp;done)|exact⟨by omega,by simp⟩|exact⟨by omega,by simp,rfl⟩
 intro i j;try dsimp only at j⊢
 obtain⟨v,q⟩:=j;simp only[gj];by_cases hlt:i<l.length
 ·have d:IntKind.i64.wrap ((i:Int)+1)=((i+1:Nat):Int):=cv (by omega);have hu:=(hf l[i] (List.getElem_mem hlt));simp only[Ad]at hu;cases n:g l[i]with
  |true=>
   rw[n]at hu;rw[js hlt q n];repeat (first
    |(with_reducible first|apply ae.seq|apply ae.block|refine j2 (by first|omega|assumption|decide) ?_)
    |((first|(with_reducible first|apply ae.fork|apply ae.region|show aN _ _ _ |show aB _ _ _ _ _ _ _ _ _)|((with_reducible apply ag.id);first|apply (hu.use)));simp-implicitDefEqProofs [hlt,Ad])
    |((with_reducible first|apply ae.ret|apply ae.skip|apply ae.exit);try simp-implicitDefEqProofs))
  |false=>
   rw[n]at hu;repeat (first
    |(with_reducible first|apply ae.seq|apply ae.block|refine j2 (by first|omega|assumption|decide) ?_)
    |((first|(with_reducible first|apply ae.fork|apply ae.region|show aN _ _ _ |show aB _ _ _ _ _ _ _ _ _)|((with_reducible apply ag.id);first|apply (hu.use)));simp-implicitDefEqProofs [hlt,Ad,d])
    |((with_reducible first|apply ae.ret|apply ae.skip|apply ae.exit);try simp-implicitDefEqProofs))
   refine aP.mk (i+1) (by(try dsimp only);omega) (gF tI) gT ?_;try dsimp only
   exact⟨hlt,gk hlt q n⟩
 ·rw[jr (by rwa [List.take_of_length_le (by omega)]at q)];exact gE iM (j2 hlt @aI) tI
theorem JM (l:List Int) (o:cL) (nl:Bool) (d:AV) (g:Int→Bool) (σ:AS) (hl:l.length≤140737488355328) (hf:∀x∈l,mX Tryz.prog σ d [iV x] (.sc (.bool (g x)))):
 aa Tryz.prog 50 [.an 3 (l.map iV) o nl,d] σ (ao (.sc (.bool (l.any g))) σ) No:=by
 have j:=JL l o nl d g σ hl hf;rw[←jt];refine aa.ob Tryz.func50 ?_;exact gE iM tI @j
theorem JH (l:List db) (o:cL) (nl:Bool) (u:AV) (g:db→Bool) (σ:AS) (hl:l.length≤140737488355328) (hf:∀x∈l,mX Tryz.prog σ u [aJ x] (.sc (.bool (g x)))):
 aa Tryz.prog 174 [.an 110 (l.map aJ) o nl,u] σ (ao (.sc (.int .i64 (lz g l))) σ) No:=by
 refine aa.ob Tryz.func174 ?_;refine gO iM tI tI ?_;refine ae.bp (α:=(Nat)) (0) (fun i=>l.length-i) (fun i=>i≤l.length∧ ∀x∈l.take i,g x=false) [(0,?_),(1,?_),(7,?_)] (fun i=> [(8,.sc (.int .i64 i))]) (fun i=>σ) ?_ ?_ ?_ ?_;rotate_left 3
 ·exact gF tI
 ·exact gT
 ·(try dsimp only)<;>first|exact trivial|exact⟨by omega,rfl⟩|omega|(simp;done)|exact⟨by omega,by simp⟩|exact⟨by omega,by simp,rfl⟩
 intro i j;try dsimp only at j⊢
 obtain⟨v,q⟩:=j;simp only[gj];by_cases hlt:i<l.length
 ·have d:IntKind.i64.wrap ((i:Int)+1)=((i+1:Nat):Int):=cv (by omega);have hu:=(hf l[i] (List.getElem_mem hlt));simp only[iw]at hu;cases n:g l[i]with
  |true=>
   rw[n]at hu;rw[js hlt q n];repeat (first
    |(with_reducible first|apply ae.seq|apply ae.block|refine j2 (by first|omega|assumption|decide) ?_)
    |((first|(with_reducible first|apply ae.fork|apply ae.region|show aN _ _ _ |show aB _ _ _ _ _ _ _ _ _)|((with_reducible apply ag.id);first|apply (hu.use)));simp-implicitDefEqProofs [hlt,iw])
    |((with_reducible first|apply ae.ret|apply ae.skip|apply ae.exit);try simp-implicitDefEqProofs))
  |false=>
   rw[n]at hu;repeat (first
    |(with_reducible first|apply ae.seq|apply ae.block|refine j2 (by first|omega|assumption|decide) ?_)
    |((first|(with_reducible first|apply ae.fork|apply ae.region|show aN _ _ _ |show aB _ _ _ _ _ _ _ _ _)|((with_reducible apply ag.id);first|apply (hu.use)));simp-implicitDefEqProofs [hlt,iw,d])
    |((with_reducible first|apply ae.ret|apply ae.skip|apply ae.exit);try simp-implicitDefEqProofs))
   refine aP.mk (i+1) (by(try dsimp only);omega) (gF tI) gT ?_;try dsimp only
   exact⟨hlt,gk hlt q n⟩
 ·rw[jr (by rwa [List.take_of_length_le (by omega)]at q)];exact gE iM (j2 hlt @aI) tI
theorem JI (l:List db) (o:cL) (nl:Bool) (d:AV) (g:db→Bool) (σ:AS) (hl:l.length≤140737488355328) (hf:∀x∈l,mX Tryz.prog σ d [aJ x] (.sc (.bool (g x)))):
 aa Tryz.prog 119 [.an 110 (l.map aJ) o nl,d] σ (ao (.sc (.bool (l.any g))) σ) No:=by
 have j:=JH l o nl d g σ hl hf;rw[←jt];refine aa.ob Tryz.func119 ?_;exact gE iM tI @j
theorem Kf (l:List Cl) (o:cL) (nl:Bool) (u:AV) (g:Cl→Bool) (σ:AS) (hl:l.length≤140737488355328) (hf:∀x∈l,mX Tryz.prog σ u [ic x] (.sc (.bool (g x)))):
 aa Tryz.prog 177 [.an 158 (l.map ic) o nl,u] σ (ao (.sc (.int .i64 (lz g l))) σ) No:=by
 refine aa.ob Tryz.func177 ?_;refine gO iM tI tI ?_;refine ae.bp (α:=(Nat)) (0) (fun i=>l.length-i) (fun i=>i≤l.length∧ ∀x∈l.take i,g x=false) [(0,?_),(1,?_),(7,?_)] (fun i=> [(8,.sc (.int .i64 i))]) (fun i=>σ) ?_ ?_ ?_ ?_;rotate_left 3
 ·exact gF tI
 ·exact gT
 ·(try dsimp only)<;>first|exact trivial|exact⟨by omega,rfl⟩|omega|(simp;done)|exact⟨by omega,by simp⟩|exact⟨by omega,by simp,rfl⟩
 intro i j;try dsimp only at j⊢
 obtain⟨v,q⟩:=j;simp only[gj];by_cases hlt:i<l.length
 ·have d:IntKind.i64.wrap ((i:Int)+1)=((i+1:Nat):Int):=cv (by omega);have hu:=(hf l[i] (List.getElem_mem hlt));simp only[aW]at hu;cases n:g l[i]with
  |true=>
   rw[n]at hu;rw[js hlt q n];repeat (first
    |(with_reducible first|apply ae.seq|apply ae.block|refine j2 (by first|omega|assumption|decide) ?_)
    |((first|(with_reducible first|apply ae.fork|apply ae.region|show aN _ _ _ |show aB _ _ _ _ _ _ _ _ _)|((with_reducible apply ag.id);first|apply (hu.use)));simp-implicitDefEqProofs [hlt,aW])
    |((with_reducible first|apply ae.ret|apply ae.skip|apply ae.exit);try simp-implicitDefEqProofs))
  |false=>
   rw[n]at hu;repeat (first
    |(with_reducible first|apply ae.seq|apply ae.block|refine j2 (by first|omega|assumption|decide) ?_)
    |((first|(with_reducible first|apply ae.fork|apply ae.region|show aN _ _ _ |show aB _ _ _ _ _ _ _ _ _)|((with_reducible apply ag.id);first|apply (hu.use)));simp-implicitDefEqProofs [hlt,aW,d])
    |((with_reducible first|apply ae.ret|apply ae.skip|apply ae.exit);try simp-implicitDefEqProofs))
   refine aP.mk (i+1) (by(try dsimp only);omega) (gF tI) gT ?_;try dsimp only
   exact⟨hlt,gk hlt q n⟩
 ·rw[jr (by rwa [List.take_of_length_le (by omega)]at q)];exact gE iM (j2 hlt @aI) tI
theorem Kg (l:List Cl) (o:cL) (nl:Bool) (d:AV) (g:Cl→Bool) (σ:AS) (hl:l.length≤140737488355328) (hf:∀x∈l,mX Tryz.prog σ d [ic x] (.sc (.bool (g x)))):
 aa Tryz.prog 122 [.an 158 (l.map ic) o nl,d] σ (ao (.sc (.bool (l.any g))) σ) No:=by
 have j:=Kf l o nl d g σ hl hf;rw[←jt];refine aa.ob Tryz.func122 ?_;exact gE iM tI @j
end Im
namespace Cd
open Go Go.AW
def dk (o:Int):Int:=if o=0 then 0 else if o=1 then 4 else if o=2 then 8 else if o=3∨o=4 then 1 else 2
def oO (op:Int):Int:=(nj op).2.1
def gn (x:db):Bool:=if x.op<1∨75<x.op then false else if oO x.op=8 then xZ x.t&&(decide (0<x.arg)&&decide (x.arg<16384))else rG x (oO x.op)
theorem kM (op:Int):0≤oO op∧oO op≤8:=by
 by_cases h:op<1∨75<op
 ·simp[oO,zx op h]
 ·have:=I6 ⟨(op-1).toNat,by omega⟩;have e:(((op-1).toNat:Nat):Int)+1=op:=by omega
  simp only[e]at this;exact this
theorem OK {op:Int}(h:op<1∨75<op):oO op=0:=by simp[oO,zx op h]
theorem fg (o:Int):0≤dk o∧dk o≤8:=by unfold dk;split<;>(try split)<;>(try split)<;>(try split)<;>omega
def aM:List db→Int→List Int
 |[],a=> [a]
 |x::r,a=>a::aM r (a+1+dk (oO x.op))
def cz (l:List db):List Int×Int:=if 160<l.length then([],4)else if l.all gn then(aM l 0,0)else([],17)
def m64 (x:Int):Int:=x%18446744073709551616
def nL (x:db) (t a':Int):List UInt8:=
 if oO x.op=0 then []else if oO x.op=5 then bg (m64 (t-a')) 2 else if oO x.op=6∨oO x.op=7 then bg (m64 (x.arg+1)) 2 else bg (m64 x.arg) (dk (oO x.op)).toNat
def dZ (x:db) (t d:Int):List UInt8:=UInt8.ofNat (x.op%256).toNat::nL x t d
def iD (P:List Int):List db→Nat→List UInt8
 |[],_ => []
 |x::r,i=>dZ x (P.getD x.arg.toNat 0) (P.getD (i+1) 0)++iD P r (i+1)
def mQ (n:Nat) (x:db):Bool:=decide (oO x.op=5)&&decide ((n:Int)≤x.arg)
def eH (l:List db):List UInt8×Int:=
 if (cz l).2=0 then if l.any (mQ l.length)then([],11)else(iD (aM l 0) l 0,0)else([],(cz l).2)
def zE (n:Nat) (v:Int):Int:=if 256^n≤2*v then v-256^n else v
def eU (o v:Int):Int:=if o=1 then zE 4 v else if o=2 then zE 8 v else if o=6∨o=7 then v-1 else if o=5 then 0 else v
def PL (o v:Int) (d:Nat):Int:=if o=5 then d+zE 2 v else 0
def eW:Ty:=⟨0,0,0,false⟩
def rH (b:List UInt8) (a:Nat):Except (Int×Int) (db×Int×Nat):=
 if ((b.getD a 0).toNat:Int)<1∨75<((b.getD a 0).toNat:Int)then .error (a,2)else
 if b.length<a+1+(dk (oO (b.getD a 0).toNat)).toNat then .error (b.length,1)else
 if gn ⟨(b.getD a 0).toNat,eU (oO (b.getD a 0).toNat) (bj (cy b (a+1:Nat) (dk (oO (b.getD a 0).toNat)).toNat)),eW⟩ then
  .ok (⟨(b.getD a 0).toNat,eU (oO (b.getD a 0).toNat) (bj (cy b (a+1:Nat) (dk (oO (b.getD a 0).toNat)).toNat)),eW⟩,
   PL (oO (b.getD a 0).toNat) (bj (cy b (a+1:Nat) (dk (oO (b.getD a 0).toNat)).toNat)) (a+1+(dk (oO (b.getD a 0).toNat)).toNat),a+1+(dk (oO (b.getD a 0).toNat)).toNat)
 else .error (a,3)
structure RI where
 x:db
 a:Int
 t:Int
def kh (b:List UInt8):Nat→Nat→Except (Int×Int) (List RI)
 |0,a=>if a<b.length then .error (a,4)else .ok []
 |k+1,a=>if a<b.length then
  match rH b a with
  |.error e=> .error e
  |.ok (x,t,d)=>match kh b k d with
   |.error e=> .error e
   |.ok r=> .ok (⟨x,a,t⟩::r)
  else .ok []
def yf (L:List Int) (r:RI):Except (Int×Int) db:=
 if oO r.x.op=5 then match L.findIdx? (fun y=>decide (y=r.t))with
  |none=> .error (r.a,11)
  |some k=> .ok { r.x with arg:=k }
 else .ok r.x
def mB (L:List Int):List RI→Except (Int×Int) (List db)
 |[]=> .ok []
 |r::s=>match yf L r with
  |.error e=> .error e
  |.ok x=>match mB L s with
   |.error e=> .error e
   |.ok l=> .ok (x::l)
def kO (b:List UInt8):(List db×List Int)×Int×Int:=
 match kh b 160 0 with
 |.error (p,e)=>(([],[]),p,e)
 |.ok r=>match mB (r.map (·.a)) r with
  |.error (p,e)=>(([],[]),p,e)
  |.ok l=>((l,r.map (·.a)++ [(b.length:Int)]),0,0)
theorem yD (x:Int) (hx:0≤x) (n:Nat):bg (x%256^n) n=bg x n:=by have h:=so (bg x n);rw[ax,oI x hx n]at h;exact h
theorem Gt {x y:Int}(hx:0≤x) (d:0≤y) {n:Nat}(h:x%256^n=y%256^n):bg x n=bg y n:=by rw[←yD x hx,←yD y d,h]
theorem rI (x:Int):0≤m64 x:=by unfold m64;omega
theorem BD:(256:Int)^2=65536:=by decide
theorem Gx:(256:Int)^4=4294967296:=by decide
theorem DA:(256:Int)^8=18446744073709551616:=by decide
theorem wC {n:Nat}(h:n=2∨n=4∨n=8) {v:Int}(h0:0≤v):bg (m64 (zE n v)) n=bg v n:=by refine Gt (rI _) h0 ?_;rcases h with rfl|rfl|rfl<;>simp only[zE,m64,BD,Gx,DA]<;>split<;>omega
theorem zD {n:Nat}(h:n=2∨n=4∨n=8) {x:Int}(h1: -(256^n)≤2*x) (d:2*x<256^n):zE n (m64 x%256^n)=x:=by rcases h with rfl|rfl|rfl<;>simp only[zE,m64,BD,Gx,DA]at h1 d⊢ <;>split<;>omega
theorem Fe (x:db) (t d:Int):((nL x t d).length:Int)=dk (oO x.op):=by
 have h:=kM x.op;unfold nL;generalize oO x.op=o at h⊢;have:o=0∨o=1∨o=2∨o=3∨o=4∨o=5∨o=6∨o=7∨o=8:=by omega
 rcases this with rfl|rfl|rfl|rfl|rfl|rfl|rfl|rfl|rfl<;>simp[dk,ax]
theorem Fy (x:db) (t d:Int):((dZ x t d).length:Int)=1+dk (oO x.op):=by have:=Fe x t d;simp only[dZ,List.length_cons];omega
theorem oE (l:List db) (a:Int):(aM l a).length=l.length+1:=by
 induction l generalizing a with
 |nil=>rfl
 |cons x r d=>simp[aM,d]
theorem BF (l:List db) (a:Int):(aM l a).getD 0 0=a:=by cases l<;>rfl
theorem qE (l:List db) (a:Int):∀y∈aM l a,a≤y:=by
 induction l generalizing a with
 |nil=>simp[aM]
 |cons x r g=>
  intro y d;have hw:=(fg (oO x.op)).1;simp only[aM,List.mem_cons]at d;rcases d with rfl|d
  ·omega
  ·have:=g _ y d;omega
theorem qD (l:List db) (a:Int):∀y∈aM l a,y≤a+9*l.length:=by
 induction l generalizing a with
 |nil=>simp[aM]
 |cons x r g=>
  intro y d;have hw:=(fg (oO x.op)).2;simp only[aM,List.mem_cons]at d;simp only[List.length_cons];rcases d with rfl|d
  ·omega
  ·have:=g _ y d;omega
theorem yG (l:List db) (a:Int):(aM l a).Pairwise (· < ·):=by
 induction l generalizing a with
 |nil=>simp[aM]
 |cons x r d=>simp only[aM,List.pairwise_cons];refine⟨fun y g=> ?_,d _⟩;have:=qE r _ y g;have hw:=(fg (oO x.op)).1;omega
theorem zS {t:Ty}(h:xZ t=true):t=eW:=by obtain⟨k,i,d,r⟩:=t;simp only[xZ,Bool.and_eq_true,decide_eq_true_eq,Bool.not_eq_true']at h;obtain⟨rfl,rfl,rfl,rfl⟩:=h;rfl
theorem Jb:xZ eW=true:=by decide
theorem oB {x:db}(h:gn x=true):1≤x.op∧x.op≤75∧x.t=eW∧(oO x.op=0→x.arg=0)∧(oO x.op=1→ -2147483648≤x.arg∧x.arg<2147483648)∧
 (oO x.op=3∨oO x.op=4→0≤x.arg∧x.arg<12)∧(oO x.op=5→0≤x.arg∧x.arg<160)∧(oO x.op=6∨oO x.op=7→0≤x.arg∧x.arg<64)∧(oO x.op=8→0<x.arg∧x.arg<16384):=by
 unfold gn at h;by_cases h0:x.op<1∨75<x.op
 ·rw[if_pos h0]at h;cases h
 rw[if_neg h0]at h;refine⟨by omega,by omega,?_⟩;have d:=kM x.op;generalize oO x.op=o at h d⊢;have:o=0∨o=1∨o=2∨o=3∨o=4∨o=5∨o=6∨o=7∨o=8:=by omega
 rcases this with rfl|rfl|rfl|rfl|rfl|rfl|rfl|rfl|rfl<;>simp[rG]at h⊢ <;>first
  |exact zS h
  |exact⟨zS h.1,h.2⟩
  |(refine⟨zS h.1,?_⟩;omega)
theorem Mo {b:List UInt8}{a:Nat}{c:UInt8}(h:At b a [c]):a<b.length∧b.getD a 0=c:=by
 obtain⟨h1,j⟩:=h;have g:a<b.length:=by simp at h1;omega
 have d:((b.drop a).take 1)[0]? =some c:=by have:(b.drop a).take 1= [c]:=j;rw[this];rfl
 rw[List.getElem?_take_of_lt (by omega),List.getElem?_drop,Nat.add_zero]at d;exact⟨g,by rw[List.getD_eq_getElem?_getD,d];rfl⟩
theorem FR {b:List UInt8}{a:Nat}(h:a<b.length):At b a [b.getD a 0]:=by refine⟨by simp;omega,?_⟩;show(b.drop a).take 1= [b.getD a 0];rw[List.drop_eq_getElem_cons h,List.getD_eq_getElem?_getD,List.getElem?_eq_getElem h];rfl
theorem MV {x:db}(h:gn x=true) (w:oO x.op=2→ -9223372036854775808≤x.arg∧x.arg<9223372036854775808) (t a':Int) (v:oO x.op=5→ -32768≤t-a'∧t-a'<32768):
 eU (oO x.op) (bj (nL x t a'))=(if oO x.op=5 then 0 else x.arg)∧(oO x.op=5→zE 2 (bj (nL x t a'))=t-a'):=by
 obtain⟨_,_,_,u,q,g,A,d,j⟩:=oB h;have D:=kM x.op;unfold nL;generalize oO x.op=o at*;have:o=0∨o=1∨o=2∨o=3∨o=4∨o=5∨o=6∨o=7∨o=8:=by omega
 have hm:=fun y=>oI (m64 y) (rI y);rcases this with rfl|rfl|rfl|rfl|rfl|rfl|rfl|rfl|rfl
 ·simp[eU,bj];exact(u rfl).symm
 ·refine⟨?_,by simp⟩;have:=q rfl;simp[eU,dk,hm];exact zD (n:=4) (by omega) (by rw[Gx];omega) (by rw[Gx];omega)
 ·refine⟨?_,by simp⟩;have:=w rfl;simp[eU,dk,hm];exact zD (n:=8) (by omega) (by rw[DA];omega) (by rw[DA];omega)
 ·refine⟨?_,by simp⟩;have:=g (by simp);simp[eU,dk,hm];simp only[m64];omega
 ·refine⟨?_,by simp⟩;have:=g (by simp);simp[eU,dk,hm];simp only[m64];omega
 ·have:=v rfl;refine⟨by simp[eU],fun _ => ?_⟩;simp;rw[hm];exact zD (n:=2) (x:=t-a') (by omega) (by rw[BD];omega) (by rw[BD];omega)
 ·refine⟨?_,by simp⟩;have:=d (by simp);simp[eU,hm];simp only[m64];omega
 ·refine⟨?_,by simp⟩;have:=d (by simp);simp[eU,hm];simp only[m64];omega
 ·refine⟨?_,by simp⟩;have:=j rfl;simp[eU,dk,hm];simp only[m64];omega
def bare (x:db):db:=if oO x.op=5 then { x with arg:=0 } else x
theorem MQ (x:db):(bare x).op=x.op:=by unfold bare;split<;>rfl
theorem IL {x:db}(h:gn x=true):gn (bare x)=true:=by
 unfold bare;split
 ·rename_i d;obtain⟨h1,j,g,_⟩:=oB h;unfold gn;rw[if_neg (by simp;omega),if_neg (by simp[d])];simp[d,rG,g,Jb]
 ·exact h
theorem OI {b:List UInt8}{a:Nat}{x:db}{t:Int}(h:gn x=true) (y:oO x.op=2→ -9223372036854775808≤x.arg∧x.arg<9223372036854775808)
 (d:At b a (dZ x t (a+1+dk (oO x.op)))) (w:oO x.op=5→ -32768≤t-(a+3)∧t-(a+3)<32768):
 rH b a= .ok (bare x,if oO x.op=5 then t else 0,a+1+(dk (oO x.op)).toNat):=by
 obtain⟨F,E,u,_⟩:=oB h;unfold dZ at d;rw[At.cons]at d;obtain⟨q,j⟩:=d;obtain⟨_,v⟩:=Mo q;have n:(((b.getD a 0).toNat:Nat):Int)=x.op:=by rw[v];simp;omega
 have hw:=fg (oO x.op);have hl:=Fe x t (a+1+dk (oO x.op));have g:cy b (a+1:Nat) (dk (oO x.op)).toNat=nL x t (a+1+dk (oO x.op)):=by rw[mZ];have:=j.2;rwa [show(nL x t (a+1+dk (oO x.op))).length=(dk (oO x.op)).toNat by omega]at this
 have hlen:=j.1;obtain⟨D,A⟩:=MV h y t (a+1+dk (oO x.op)) (fun e=>by rw[show dk (oO x.op)=2 by rw[e];rfl];have:=w e;omega);have hb:(⟨x.op,eU (oO x.op) (bj (nL x t (a+1+dk (oO x.op)))),eW⟩:db)=bare x:=by rw[D,←u];obtain⟨op,arg,ty⟩:=x;unfold bare;simp only;split<;>rfl
 unfold rH;rw[n,if_neg (by omega),if_neg (by omega),g,hb,if_pos (IL h)];congr 3;unfold PL;split
 ·rename_i e;rw[A e];omega
 ·rfl
def Np (P:List Int):List db→Int→List RI
 |[],_ => []
 |x::r,a=>⟨bare x,a,if oO x.op=5 then P.getD x.arg.toNat 0 else 0⟩::Np P r (a+1+dk (oO x.op))
theorem On (P:List Int) (l:List db) (a:Int):(Np P l a).map (·.a)=(aM l a).dropLast:=by
 induction l generalizing a with
 |nil=>rfl
 |cons x r d=>
  simp only[Np,aM,List.map_cons,d];cases g:aM r (a+1+dk (oO x.op))with
  |nil=>have:=oE r (a+1+dk (oO x.op));rw[g]at this;simp at this
  |cons y z=>simp
theorem Pk {b:List UInt8}{P:List Int}(J:∀y∈P,0≤y∧y≤1440):∀(l:List db) (i a k:Nat),l.length≤k→(∀x∈l,gn x=true∧(oO x.op=5→x.arg.toNat<P.length))→
 (∀x∈l,oO x.op=2→ -9223372036854775808≤x.arg∧x.arg<9223372036854775808)→P.drop i=aM l a→At b a (iD P l i)→a+(iD P l i).length=b.length→kh b k a= .ok (Np P l a):=by
 intro l;induction l with
 |nil=>intro i a k _ _ _ _ _ hl;simp[iD]at hl;cases k<;>simp[kh,hl,Np]
 |cons x r K=>
  intro i a k I n F hd u hl;obtain⟨k,rfl⟩:∃j,k=j+1:=⟨k-1,by simp at I;omega⟩;simp only[iD]at u hl;rw[At.app]at u;obtain⟨w,v⟩:=u;have d:i<P.length:=by
   rcases Nat.lt_or_ge i P.length with h|h
   ·exact h
   ·rw[List.drop_eq_nil_of_le h]at hd;simp[aM]at hd
  have E:P.drop (i+1)=aM r (a+1+dk (oO x.op)):=by rw[List.drop_eq_getElem_cons d]at hd;simp only[aM]at hd;exact(List.cons.inj hd).2
  have O:(a:Int)=P[i]:=by rw[List.drop_eq_getElem_cons d]at hd;simp only[aM]at hd;exact(List.cons.inj hd).1.symm
  have H:P.getD (i+1) 0=a+1+dk (oO x.op):=by
   have:(P.drop (i+1)).getD 0 0=a+1+dk (oO x.op):=by rw[E,BF]
   simpa[List.getD_eq_getElem?_getD]using this
  rw[H]at w v hl;have L:=fg (oO x.op);have M:=Fy x (P.getD x.arg.toNat 0) (a+1+dk (oO x.op));have hx:=n x (by simp);have hlt:a<b.length:=by have:=w.1;omega
  have D:=OI hx.1 (F x (by simp)) w (fun e=>by
   have h1:=hx.2 e;have S:=J _ (List.getElem_mem h1);have Q:=J _ (List.getElem_mem d);have:P.getD x.arg.toNat 0=P[x.arg.toNat]:=by simp[List.getD_eq_getElem?_getD,h1]
   rw[this];omega)
  have g:((a+1+(dk (oO x.op)).toNat:Nat):Int)=a+1+dk (oO x.op):=by omega
  have q:a+(dZ x (P.getD x.arg.toNat 0) (a+1+dk (oO x.op))).length=a+1+(dk (oO x.op)).toNat:=by omega
  rw[q]at v;have A:=K (i+1) (a+1+(dk (oO x.op)).toNat) k (by simp at I;omega) (fun y G=>n y (by simp[G])) (fun y G=>F y (by simp[G]))
   (by rw[g];exact E) v (by rw[←hl,List.length_append];omega)
  simp only[kh,if_pos hlt,D,A,Np,g]
theorem Cv (P:List Int):∀(l:List db) (i:Nat) (a:Int),(aM l a).getLast?=some (a+(iD P l i).length):=by
 intro l;induction l with
 |nil=>intro i a;simp[aM,iD]
 |cons x r d=>intro i a;have h:=d (i+1) (a+1+dk (oO x.op));have g:=Fy x (P.getD x.arg.toNat 0) (P.getD (i+1) 0);simp only[aM,iD];rw[List.getLast?_cons,h];simp only[Option.getD_some,List.length_append,Option.some.injEq];omega
theorem xe {P:List Int}(n:P.Pairwise (· < ·)) {k:Nat}(d:k<P.length):P.findIdx? (fun y=>decide (y=P[k]))=some k:=by rw[List.findIdx?_eq_some_iff_getElem];refine⟨d,by simp,fun j g=> ?_⟩;have:=List.pairwise_iff_getElem.1 n j k (by omega) d g;simp;omega
theorem Oh {L P:List Int}(u:L.Pairwise (· < ·)) (g:∀k (h:k<L.length),P.getD k 0=L[k]):∀(l:List db) (a:Int),(∀x∈l,oO x.op=5→0≤x.arg∧x.arg.toNat<L.length)→
 mB L (Np P l a)= .ok l:=by
 intro l;induction l with
 |nil=>intro a _;rfl
 |cons x r j=>
  intro a h;have q:=j (a+1+dk (oO x.op)) (fun y n=>h y (by simp[n]));have hx:yf L ⟨bare x,a,if oO x.op=5 then P.getD x.arg.toNat 0 else 0⟩= .ok x:=by
   unfold yf;simp only[MQ];by_cases d:oO x.op=5
   ·obtain⟨h0,h1⟩:=h x (by simp) d;rw[if_pos d,if_pos d,g _ h1,xe u h1];simp only[bare,d,if_true];obtain⟨op,arg,ty⟩:=x;simp at h0⊢;omega
   ·rw[if_neg d];simp[bare,d]
  simp only[Np,mB,hx,q]
theorem wE {l:List db}(h:(cz l).2=0):l.length≤160∧l.all gn=true∧cz l=(aM l 0,0):=by
 unfold cz at h⊢;split at h
 ·simp at h
 ·rename_i h1;split at h
  ·rename_i d;rw[if_neg h1,if_pos d];exact⟨by omega,d,rfl⟩
  ·simp at h
theorem MF {l:List db}(h:(eH l).2=0) (I:∀x∈l,-9223372036854775808≤x.arg∧x.arg<9223372036854775808):
 kO (eH l).1=((l,aM l 0),0,0)∧(cz l).2=0∧cz l=(aM l 0,0):=by
 unfold eH at h⊢;split at h;rotate_left
 ·exact absurd h (by assumption)
 rename_i F;obtain⟨hlen,u,E⟩:=wE F;split at h
 ·simp at h
 rename_i hf;rw[if_pos F,if_neg hf];refine⟨?_,F,E⟩;have w:∀x∈l,oO x.op=5→x.arg<l.length:=by intro x hx M;simp only[List.any_eq_true,not_exists,not_and]at hf;have:=hf x hx;simp[mQ,M]at this;exact this
 have d:∀x∈l,gn x=true:=by simpa using u
 have H:=oE l 0;have A:=qD l 0;have D:=qE l 0;have j:=Pk (b:=iD (aM l 0) l 0) (P:=aM l 0) (fun y J=>⟨D y J,by have:=A y J;omega⟩) l 0 0 160 hlen
  (fun x hx=>⟨d x hx,fun e=>by have:=w x hx e;have:=(oB (d x hx)).2.2.2.2.2.2.1 e;omega⟩) (fun x hx _ =>I x hx) rfl ⟨by simp,by simp[sg]⟩ (by simp)
 have G:=On (aM l 0) l 0;have q:=Oh (L:=(aM l 0).dropLast) (P:=aM l 0) ((yG l 0).sublist (List.dropLast_sublist _)) (fun k K=>by rw[List.getElem_dropLast];simp at K;simp[List.getD_eq_getElem?_getD,show k<(aM l 0).length by omega]) l 0 (fun x hx e=>by have:=w x hx e;have:=(oB (d x hx)).2.2.2.2.2.2.1 e;simp[H];omega);have g:=Cv (aM l 0) l 0 0;have v:(aM l 0).dropLast++ [((iD (aM l 0) l 0).length:Int)]=aM l 0:=by
  rw[List.getLast?_eq_some_iff]at g;obtain⟨Q,n⟩:=g;have O:(0:Int)+((iD (aM l 0) l 0).length:Int)=((iD (aM l 0) l 0).length:Int):=by omega
  rw[O]at n;generalize ((iD (aM l 0) l 0).length:Int)=z at n⊢;rw[n];simp
 unfold kO;rw[show(((0:Nat):Int))=0 from rfl]at j;rw[j];simp only;rw[G,q];simp only;rw[v]
theorem Fg {b:List UInt8}{a:Nat}(ha:a<b.length) {x:db}{t:Int}{E:Nat}(h:rH b a= .ok (x,t,E)):gn x=true∧bare x=x∧(E:Int)=a+1+dk (oO x.op)∧E≤b.length∧At b a (dZ x t (a+1+dk (oO x.op))):=by
 unfold rH at h;have D:(((b.getD a 0).toNat:Nat):Int)<256:=by have:=(b.getD a 0).toNat_lt;omega
 have u:=FR ha;generalize M:b.getD a 0=c at h D u;split at h
 ·cases h
 split at h
 ·cases h
 rename_i h1 O;split at h
 ·rename_i F;simp only[Except.ok.injEq,Prod.mk.injEq]at h;obtain⟨rfl,rfl,rfl⟩:=h;have H:=fg (oO (c.toNat:Int));have d:((a+1+(dk (oO (c.toNat:Int))).toNat:Nat):Int)=a+1+dk (oO (c.toNat:Int)):=by omega
  refine⟨F,?_,d,by omega,?_⟩
  ·unfold bare;simp only;split
   ·rename_i e;simp[eU,e]
   ·rfl
  ·unfold dZ;simp only;rw[At.cons];have K:UInt8.ofNat ((c.toNat:Int)%256).toNat=c:=by rw[show((c.toNat:Int)%256).toNat=c.toNat by omega];simp
   rw[K];refine⟨u,?_⟩;have I:At b (a+1) (sg b (a+1) (dk (oO (c.toNat:Int))).toNat):=At.sg (by omega);have w:=Iw (b:=b) (a:=a+1) (n:=(dk (oO (c.toNat:Int))).toNat) (by omega);have A:=cu (sg b (a+1) (dk (oO (c.toNat:Int))).toNat);have g:=so (sg b (a+1) (dk (oO (c.toNat:Int))).toNat);have y:=jk (sg b (a+1) (dk (oO (c.toNat:Int))).toNat);rw[w]at g y;rw[mZ]at F⊢
   suffices J:nL ⟨c.toNat,eU (oO (c.toNat:Int)) (bj (sg b (a+1) (dk (oO (c.toNat:Int))).toNat)),eW⟩
    (PL (oO (c.toNat:Int)) (bj (sg b (a+1) (dk (oO (c.toNat:Int))).toNat)) (a+1+(dk (oO (c.toNat:Int))).toNat)) (a+1+dk (oO (c.toNat:Int)))=sg b (a+1) (dk (oO (c.toNat:Int))).toNat by
    rw[J];exact I
   generalize sg b (a+1) (dk (oO (c.toNat:Int))).toNat=S at*;refine Eq.trans ?_ g;have L:=kM (c.toNat:Int);unfold nL PL;simp only;rw[d];generalize oO (c.toNat:Int)=o at*;have hm:∀k:Nat,bg (m64 (bj S)) k=bg (bj S) k:=by
    intro k;have hb:bj S<18446744073709551616:=by
     have q:(256:Int)^(dk o).toNat≤256^8:=by
      have G:∀j:Nat,j<9→(256:Int)^j≤256^8:=by decide
      exact G _ (by omega)
     rw[DA]at q;omega
    congr 1;unfold m64;omega
   have:o=0∨o=1∨o=2∨o=3∨o=4∨o=5∨o=6∨o=7∨o=8:=by omega
   rcases this with rfl|rfl|rfl|rfl|rfl|rfl|rfl|rfl|rfl
   ·simp[dk]at w⊢;simp[bg]
   ·simp[eU,dk];exact wC (n:=4) (v:=bj S) (by omega) A
   ·simp[eU,dk];exact wC (n:=8) (v:=bj S) (by omega) A
   ·simp[eU,dk,hm]
   ·simp[eU,dk,hm]
   ·simp[dk];rw[show(a:Int)+1+2+zE 2 (bj S)-(a+1+2)=zE 2 (bj S) by omega];exact wC (n:=2) (v:=bj S) (by omega) A
   ·simp[eU,dk,hm]
   ·simp[eU,dk,hm]
   ·simp[eU,dk,hm]
 ·cases h
theorem Fh {b:List UInt8}{a:Nat}{e:Int×Int}(h:rH b a= .error e):e.2≠0:=by
 unfold rH at h;split at h
 ·cases h;simp
 split at h
 ·cases h;simp
 split at h
 ·cases h
 ·cases h;simp
abbrev pf:b7:=(.step 0 (.step 2 (.step 4 (.read 1 (.read 3 (.step 5 (.step 6 (.step 7 (.read 8 (.step 9 (.step 10 (.step 11 (.step 12 (.step 16 (.read 13 (.step 14 (.step 15 (.step 17 .done))))))))))))))))))
abbrev pc:b7:=(.step 0 (.read 2 (.pure 3 (.step 4 (.read 1 (.step 5 (.step 6 .done)))))))
theorem jb (S:List Nat):aH Tryz.prog [] S:=mixed
theorem fK (S:List Nat):aH Tryz.prog [(5,pf),(6,pc)] S:=mixed
def fY (x:db):Prop:= -9223372036854775808≤x.arg∧x.arg<9223372036854775808
theorem qP (o:Int) (σ:AS):aa Tryz.prog 234 [.sc (.int .i64 o)] σ (ao (.sc (.int .i64 (dk o))) σ) No:=by
 refine aa.ob Tryz.func234 ?_;by_cases h0:o=0<;>by_cases h1:o=1<;>by_cases j:o=2<;>by_cases g:o=3<;>by_cases d:o=4;all_goals first
  |(exfalso;omega)
  |skip
 all_goals
  refine gO jb (j5 @h0 @h1 @j @g @d) tI ?_;try simp[dk,h0,h1,j,g,d]
theorem G5 {x:db}(h:¬(x.op<1∨75<x.op)) (d:¬oO x.op=8):uO x=if gn x then 0 else 17:=by unfold uO gn;rw[if_neg h,if_neg h,if_neg d];rfl
theorem As (x:db) (σ:AS):aa Tryz.prog 233 [aJ x] σ (ao (.bQ [.sc (.int .i64 (oO x.op)),.sc (.bool (gn x))]) σ) No:=by
 have n:=fun σ=>sT x.op σ;have hf:=fun σ=>B3 x σ;by_cases h:x.op<1∨75<x.op
 ·have J:=OK h;have D:gn x=false:=by simp[gn,h]
  have E:DE x.op=3:=by simp[DE,h]
  rw[J,D];rw[E]at n;obtain⟨op,arg,k,w,d,r⟩:=x;simp only[aJ,jq]at n⊢;refine aa.ob Tryz.func233 ?_;refine gO fK tI tI ?_;intro id v;refine gO fK tI @n ?_;intro y j q;have g:=aA j;refine gO fK tI tI ?_;all_goals (repeat' (with_reducible apply j2))
  all_goals exact gL tI
 ·have E:DE x.op=0:=by simp[DE,h]
  rw[E]at n;by_cases A:oO x.op=8
  ·have D:gn x=(xZ x.t&&(decide (0<x.arg)&&decide (x.arg<16384))):=by unfold gn;rw[if_neg h,if_pos A]
   rw[D];have u:(nj x.op).2.1=8:=A;rw[A];obtain⟨op,arg,k,w,d,r⟩:=x;have F:kg Tryz.prog 8 49 (.agg [.sc (.int .i64 k),.sc (.int .i64 w),.sc (.int .i64 d),.sc (.bool r)]) (.agg [.sc (.int .i64 0),.sc (.int .i64 0),.sc (.int .i64 0),.sc (.bool false)])=some (xZ ⟨k,w,d,r⟩):=by simp[xZ]
   simp only[aJ,jq]at n u F⊢;rw[u]at n;generalize xZ ⟨k,w,d,r⟩=nt at*;refine aa.ob Tryz.func233 ?_;refine gO fK tI tI ?_;intro id v;refine gO fK tI @n ?_;intro y j q;have g:=aA j
   repeat' (first
    |(with_reducible first|apply ae.seq|apply ae.block|refine j2 (by first|omega|assumption|decide) ?_)
    |((first|(with_reducible first|apply ae.fork|apply ae.region|show aN _ _ _ |show aB _ _ _ _ _ _ _ _ _)|((with_reducible apply ae.aR (id:=5) (t:=pf));(exact mixed);kernel_rfl;kernel_rfl;(repeat (with_reducible first|apply ak.then|apply ak.block|apply ak.body|apply ak.no)))|((with_reducible apply ae.aR (id:=6) (t:=pc));(exact mixed);kernel_rfl;kernel_rfl;(repeat (with_reducible first|apply ak.then|apply ak.block|apply ak.body|apply ak.no)))|((with_reducible apply ag.id);first|apply ag.aC (n _))|((with_reducible apply aF.id);first|apply aF.aC (fun _ =>n _)));simp-implicitDefEqProofs [-G8,F,g])
    |trivial
    |(with_reducible apply j2)
    |((with_reducible first|apply ae.ret|apply ae.skip|apply ae.exit);try simp-implicitDefEqProofs [-G8])
    |((with_reducible first|apply aN.split|apply aB.split|apply kK.split)<;>(intro G;(try simp-implicitDefEqProofs only[G]);(try simp at G))<;>try simp-implicitDefEqProofs [-G8,g]))
   all_goals (repeat' (with_reducible apply j2))
   all_goals exact gL tI
  ·have D:=G5 h A;rw[D]at hf;have u:¬(nj x.op).2.1=8:=A;have I:oO x.op=(nj x.op).2.1:=rfl;rw[I];generalize gn x=H at*;generalize nj x.op=it at*;obtain⟨op,arg,k,w,d,r⟩:=x;obtain⟨i1,i2,i3⟩:=it;simp only[aJ,jq]at n hf u⊢;cases H;all_goals
    simp at hf;refine aa.ob Tryz.func233 ?_;refine gO fK tI tI ?_;intro id v;refine gO fK tI @n ?_;intro y j q;have g:=aA j;refine gO fK (j2 @u g) @hf ?_;all_goals (repeat' (with_reducible apply j2))
    all_goals exact gL tI
def rj (l:List db) (o:cL) (nl:Bool):AV:= .an 110 (l.map aJ) o nl
theorem BG {l:List db}(h:(cz l).2≠0):(cz l).1= []:=by
 unfold cz at h⊢;split
 ·rfl
 ·split
  ·rename_i h1 d;rw[if_neg h1,if_pos d]at h;simp at h
  ·rfl
def u0 (p:List Int×Int):AV:= .bQ [.an 3 (p.1.map aV) .aE (decide (p.1= [])),.sc (.int .i64 p.2)]
theorem rQ (l:List db) (o:cL) (nl:Bool) (hl:l.length≤140737488355328) (σ:AS):
 aa Tryz.prog 186 [rj l o nl] σ (ao (u0 (cz l)) σ) No:=by
 have E:=fun x σ=>As x σ;simp only[rj,u0];by_cases H:160<l.length
 ·have e:cz l=([],4):=by simp[cz,H]
  rw[e];refine aa.ob Tryz.func186 ?_;have v:(160<(l.length:Int))=True:=eq_true (by omega);exact gE jb @v tI
 ·have v:(160<(l.length:Int))=False:=eq_false (by omega);have e:cz l=if l.all gn then(aM l 0,0)else([],17):=by simp only[cz];rw[if_neg H]
  refine aa.ob Tryz.func186 ?_;refine gO jb @v tI ?_;refine ae.fM 4 3 [aV 0] false (by simp) (.inl (by simp[aG])) ?_;simp-implicitDefEqProofs;intro tk G;refine gO jb tI tI ?_;refine ae.bp (α:=(Nat)×(List Int)×(Int)) ((0,[],0)) (fun⟨i,ds,a⟩=>l.length-i) (fun⟨i,ds,a⟩=>i≤l.length∧ds.length=i∧l.all gn=(l.drop i).all gn∧ds++aM (l.drop i) a=aM l 0∧0≤a∧a≤9*i) [(14,?_),(15,?_)] (fun⟨i,ds,a⟩=> [(16,.sc (.int .i64 i)),(4,.an 3 (ds.map aV++ [.sc (.int .i64 a)]) (.tok tk) false),(5,.sc (.int .i64 a))]) (fun⟨i,ds,a⟩=>σ.set tk (.tok (ds.length+1))) ?_ ?_ ?_ ?_;rotate_left 2
  ·exact gF tI
  ·exact gT
  ·exact⟨by omega,rfl,rfl,rfl,by omega,by omega⟩
  intro I D;obtain⟨i,ds,a⟩:=I;try dsimp only at D⊢
  obtain⟨T,hd,q,w,S,Q⟩:=D;simp only[gj];by_cases hlt:i<l.length
  ·have A:IntKind.i64.wrap ((i:Int)+1)=((i+1:Nat):Int):=cv (by omega);rw[List.drop_eq_getElem_cons hlt]at q w;have n:=E l[i];have M:=fg (oO l[i].op);have F:=fun σ=>qP (oO l[i].op) σ;generalize hx:l[i]=x at*;simp only[List.all_cons,aM]at q w;generalize L:oO x.op=y at*;obtain⟨op,arg,k,K,d,r⟩:=x;cases hb:gn ⟨op,arg,k,K,d,r⟩
   ·rw[hb]at q n;simp only[Bool.false_and]at q;rw[e,q];simp only[aJ]at n;refine gO jb (j4 hlt @hx @aJ.eq_1 @aI) tI ?_;intro id g u;have j:=aA g;refine gO jb tI @n ?_;all_goals (repeat' (with_reducible apply j2))
    all_goals exact gL tI
   ·rw[hb]at q n;simp only[Bool.true_and]at q;have w1:IntKind.i64.wrap (1+dk y)=1+dk y:=ay (by omega) (by omega);have J:IntKind.i64.wrap (a+(1+dk y))=a+(1+dk y):=ay (by omega) (by omega);simp only[aJ]at n;have O:ds.length≤160:=by omega
    refine gO jb (j4 hlt @hx @aJ.eq_1 @aI) tI ?_;intro id g u;have j:=aA g;refine gO jb (j5 g j @w1 @J @A) (j2 @n @F) ?_;refine aP.mk ((i+1,ds++ [a],a+(1+dk y))) (by(try dsimp only);omega) (gF @aG) (by(try dsimp only);(simp;exact aq (by simp[g,u]) (lR _))) ?_;try dsimp only
    exact⟨by omega,by simp[hd],q,by rw[←w];simp[Int.add_assoc],by omega,by omega⟩
  ·rw[List.drop_eq_nil_of_le (by omega)]at w q;rw[e,q];simp only[aM]at w;repeat (first
    |(with_reducible first|apply ae.seq|apply ae.block|refine j2 (by first|omega|assumption|decide) ?_)
    |((first|(with_reducible first|apply ae.fork|apply ae.region|show aN _ _ _ |show aB _ _ _ _ _ _ _ _ _));simp-implicitDefEqProofs [hlt,←w,aG])
    |((with_reducible first|apply ae.ret|apply ae.skip|apply ae.exit);try simp-implicitDefEqProofs))
   all_goals (repeat' (with_reducible apply j2))
   all_goals exact gL tI
theorem nW (S:List Nat):aH Tryz.prog [] S:=mixed
theorem uW (S:List Nat):aH Tryz.prog [(0,(.step 0 (.step 1 (.step 2 (.step 3 (.step 5 (.step 6 (.step 7 (.step 9 (.step 15 (.step 16 (.step 17 (.step 19 (.step 20 (.step 24 (.read 4 (.read 8 (.step 10 (.step 11 (.read 12 (.step 13 (.read 14 (.read 18 (.step 21 (.read 22 (.step 23 (.alt 25 .done .none)))))))))))))))))))))))))))] S:=mixed
def Sy (l:List db) (o:cL) (nl:Bool) (P:List Int) (np:Bool) (bs:List UInt8) (tk:Nat) (nb:Bool):bN:=
 .cells 313 [.an 110 (l.map aJ) o nl,.an 3 (P.map aV) .aE np,.an 5 (bs.map u8) (.tok tk) nb]
theorem bO (l:List db) (o:cL) (nl:Bool) (P:List Int) (np:Bool) (bs:List UInt8) (tk:Nat) (nb:Bool):
 Sy l o nl P np bs tk nb= .cells 313 [.an 110 (l.map aJ) o nl,.an 3 (P.map aV) .aE np,.an 5 (bs.map u8) (.tok tk) nb]:=rfl
def TF (id:Nat) (l:List db) (o:cL) (nl:Bool) (P:List Int) (np:Bool) (bs add:List UInt8) (σ:AS) (r:AV) (σ':AS):Prop:=
 ∃tk,σ tk=none∧r= .bQ []∧σ'=(σ.set tk (.tok (bs.length+add.length))).set id (Sy l o nl P np (bs++add) tk false)
theorem ag.Cb {f:FuncId}{first cap args:List AV}{σ:AS}{R d K g:AV→AS→Prop}(h:aa Tryz.prog f (first++args++cap) σ R d) (n:∀r σ',R r σ'→K r σ') (j:∀r σ',d r σ'→g r σ'):ag Tryz.prog (.fn (.func f) first cap) args σ K g:=⟨R,d,h,n,j⟩
section
variable (id:Nat) (l:List db) (o:cL) (nl:Bool) (P:List Int) (np:Bool) (bs:List UInt8) (tk:Nat) (nb:Bool) (hn:nb=true→bs= []) (hb:bs.length≤1000000) (σ:AS) (h:σ id=some (Sy l o nl P np bs tk nb))
include hn hb h
theorem lj (x n:Int) (hw:wide n=true):
 aa Tryz.prog 266 [.ptr id 0,.sc (.int .i64 x),.sc (.int .i64 n)] σ (TF id l o nl P np bs (bg (m64 x) n.toNat) σ) No:=by
 have j:=fun σ=>oC bs (.tok tk) nb hn hb (m64 x) n (rI x) (by unfold m64;omega) hw σ;have q:IntKind.u64.wrap x=m64 x:=by rw[HX];rfl
 rw[bO]at h;refine aa.ob Tryz.func266 ?_;refine gO nW (j4 @h @q @Tryz.underlying2 @Tryz.underlying137) @j ?_;intro g d;have n1:¬id=g:=nq h d;simp-implicitDefEqProofs [n1];exact⟨_,_,Wk.refl _,lR _,g,d,rfl,by rw[bO];simp[ax]⟩
variable (i:Nat) (x:db) (hlt:i<l.length) (hx:l[i]=x)
include hlt hx
theorem nH (n:Int) (hw:wide n=true):
 aa Tryz.prog 235 [.ptr id 0,.sc (.int .i64 i),.sc (.int .i64 n)] σ (TF id l o nl P np bs (bg (m64 x.arg) n.toNat) σ) No:=by
 have u:=lj id l o nl P np bs tk nb hn hb σ h x.arg n hw;rw[bO]at h;obtain⟨op,arg,k,A,d,r⟩:=x;refine aa.ob Tryz.func235 ?_;refine gO nW (j4 @h hlt @hx @aJ.eq_1) tI ?_;refine ag.of u ?_ (fun _ _ h=>h.elim);rintro w v j;have g:=j;obtain⟨q,y,rfl,rfl⟩:=g;refine gO nW tI tI ?_;exact⟨_,_,Wk.refl _,lR _,j⟩
theorem vp (v: -9223372036854775808≤x.arg∧x.arg<9223372036854775807) (n:Int) (hw:wide n=true):
 aa Tryz.prog 237 [.ptr id 0,.sc (.int .i64 i),.sc (.int .i64 n)] σ (TF id l o nl P np bs (bg (m64 (x.arg+1)) n.toNat) σ) No:=by
 have w:=lj id l o nl P np bs tk nb hn hb σ h (x.arg+1) n hw;have g:IntKind.i64.wrap (x.arg+1)=x.arg+1:=ay (by omega) (by omega);rw[bO]at h;obtain⟨op,arg,k,E,d,r⟩:=x;refine aa.ob Tryz.func237 ?_;refine gO nW (j5 @h hlt @hx @aJ.eq_1 @g) tI ?_;refine ag.of w ?_ (fun _ _ h=>h.elim);rintro A y q;have j:=q;obtain⟨u,D,rfl,rfl⟩:=j;refine gO nW tI tI ?_;exact⟨_,_,Wk.refl _,lR _,q⟩
theorem F8 (G:∀y∈P,0≤y∧y≤10000) (ha:0≤x.arg) (D:x.arg<P.length) (A:i+1<P.length) (I:P.length≤1000) (n:Int) (hw:wide n=true):
 aa Tryz.prog 236 [.ptr id 0,.sc (.int .i64 i),.sc (.int .i64 n)] σ (TF id l o nl P np bs (bg (m64 (P.getD x.arg.toNat 0-P.getD (i+1) 0)) n.toNat) σ) No:=by
 have w:=lj id l o nl P np bs tk nb hn hb σ h (P.getD x.arg.toNat 0-P.getD (i+1) 0) n hw;rw[bO]at h;obtain⟨op,arg,k,Q,d,r⟩:=x;simp only at ha D w⊢;obtain⟨a,rfl⟩:∃a:Nat,arg=a:=⟨arg.toNat,by omega⟩;have j:a<P.length:=by omega
 have K:P.getD (a:Int).toNat 0=P[a]:=by simp[List.getD_eq_getElem?_getD,j]
 have J:P.getD (i+1) 0=P[i+1]:=by simp[List.getD_eq_getElem?_getD,A]
 have T:=G _ (List.getElem_mem j);have S:=G _ (List.getElem_mem A);rw[K,J]at w⊢;generalize v:P[a]=E at*;generalize g:P[i+1]=p2 at*;have u:IntKind.i64.wrap (E-p2)=E-p2:=ay (by omega) (by omega);refine aa.ob Tryz.func236 ?_;have q:IntKind.i64.wrap ((i:Int)+1)=((i+1:Nat):Int):=cv (by omega);refine gO uW (j2 (j7 @h hlt @hx @aJ.eq_1 @u @j @A) (j4 @v @g @aG @q)) tI ?_;refine ag.of w ?_ (fun _ _ h=>h.elim);rintro M L F;have g:=F;obtain⟨H,O,rfl,rfl⟩:=g;refine gO uW tI tI ?_;exact⟨_,_,Wk.refl _,lR _,F⟩
end
end Cd
end Go.Proofs.YtknalmoackcpbaaGreat
