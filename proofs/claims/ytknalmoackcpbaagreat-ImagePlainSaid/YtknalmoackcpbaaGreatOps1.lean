/- Package ops' table: what its switch functions hand back (printed by gen_ops.py). -/
import Derived.Test.YtknalmoackcpbaaGreatBody9
set_option maxRecDepth 100000
set_option maxHeartbeats 3200000
set_option linter.all false
open Go Go.AW Go.Proofs.Tryz List
namespace Go.Proofs.YtknalmoackcpbaaGreat
@[simp] def emp:(⟨#[]⟩:ByteArray)=ByteArray.empty:=rfl
def gu (i:List UInt8×Int×Int):AV:= .agg [.sc (.string ⟨i.1.toArray⟩),.sc (.int .i64 i.2.1),.sc (.int .i64 i.2.2)]
def rX (op:Int):List UInt8×Int×Int:=
 if op=62 then([98,111,120],8,0)else
 if op=63 then([117,110,98,111,120],8,0)else
 if op=64 then([117,110,98,111,120,97,110,121],8,0)else
 if op=65 then([99,97,115,116,99,108,97,115,115],8,0)else
 if op=66 then([105,115,105,110,115,116],8,0)else
 if op=67 then([108,100,102,116,110],6,0)else
 if op=68 then([110,101,119,100,101,108],8,0)else
 if op=69 then([116,104,114,111,119],0,3)else
 if op=70 then([114,101,116,104,114,111,119],0,3)else
 if op=71 then([108,101,97,118,101],5,4)else
 if op=72 then([101,110,100,102,105,110,97,108,108,121],0,5)else
 if op=73 then([101,110,100,102,105,108,116,101,114],0,5)else
 if op=74 then([105,110],0,0)else
 if op=75 then([111,117,116],0,0)else
 ([],0,0)
def Hj (op:Int) (σ:AS):ad Tryz.prog 279 [.sc (.int .i64 op)] σ (ah (gu (rX op)) σ) No:=by
 refine ad.ob Tryz.func279 ?_;refine gO aa tI tI ?_;intro id d;have G:op=62∨op=63∨op=64∨op=65∨op=66∨op=67∨op=68∨op=69∨op=70∨op=71∨op=72∨op=73∨op=74∨op=75∨(¬op=62∧ ¬op=63∧ ¬op=64∧ ¬op=65∧ ¬op=66∧ ¬op=67∧ ¬op=68∧ ¬op=69∧ ¬op=70∧ ¬op=71∧ ¬op=72∧ ¬op=73∧ ¬op=74∧ ¬op=75):=by omega
 rcases G with rfl|rfl|rfl|rfl|rfl|rfl|rfl|rfl|rfl|rfl|rfl|rfl|rfl|rfl|⟨F,E,y,w,v,u,q,o,n,l,j,i,h,g⟩
 rotate_right
 ·refine gO aa (j2 (j7 @F @E @y @w @v @u @q) (j8 @o @n @l @j @i @h @g @gu.eq_1)) tI ?_;try simp[rX,F,E,y,w,v,u,q,o,n,l,j,i,h,g]
  all_goals (repeat (first|exact lR _ |refine an (by simp[d]) ?_))
 all_goals
  refine gO aa tI tI ?_;try simp[rX,gu]
  all_goals (repeat (first|exact lR _ |refine an (by simp[d]) ?_))
def sx (op:Int):List UInt8×Int×Int:=
 if op=48 then([108,100,102,108,100],7,0)else
 if op=49 then([115,116,102,108,100],7,0)else
 if op=50 then([108,100,102,108,100,97],7,0)else
 if op=51 then([108,100,115,102,108,100],7,0)else
 if op=52 then([115,116,115,102,108,100],7,0)else
 if op=53 then([108,100,115,102,108,100,97],7,0)else
 if op=54 then([108,100,111,98,106],8,0)else
 if op=55 then([115,116,111,98,106],8,0)else
 if op=56 then([105,110,105,116,111,98,106],8,0)else
 if op=57 then([110,101,119,97,114,114],8,0)else
 if op=58 then([108,100,108,101,110],0,0)else
 if op=59 then([108,100,101,108,101,109],8,0)else
 if op=60 then([115,116,101,108,101,109],8,0)else
 if op=61 then([108,100,101,108,101,109,97],8,0)else
 rX op
def ua (op:Int) (σ:AS):ad Tryz.prog 278 [.sc (.int .i64 op)] σ (ah (gu (sx op)) σ) No:=by
 refine ad.ob Tryz.func278 ?_;refine gO aa tI tI ?_;intro id d;have G:op=48∨op=49∨op=50∨op=51∨op=52∨op=53∨op=54∨op=55∨op=56∨op=57∨op=58∨op=59∨op=60∨op=61∨(¬op=48∧ ¬op=49∧ ¬op=50∧ ¬op=51∧ ¬op=52∧ ¬op=53∧ ¬op=54∧ ¬op=55∧ ¬op=56∧ ¬op=57∧ ¬op=58∧ ¬op=59∧ ¬op=60∧ ¬op=61):=by omega
 rcases G with rfl|rfl|rfl|rfl|rfl|rfl|rfl|rfl|rfl|rfl|rfl|rfl|rfl|rfl|⟨F,E,y,w,v,u,q,o,n,l,j,i,h,g⟩
 rotate_right
 ·refine gO aa (j2 (j7 @F @E @y @w @v @u @q) (j8 @o @n @l @j @i @h @g @gu.eq_1)) @Hj ?_;try simp[sx,F,E,y,w,v,u,q,o,n,l,j,i,h,g]
  all_goals (repeat (first|exact lR _ |refine an (by simp[d]) ?_))
 all_goals
  refine gO aa tI tI ?_;try simp[sx,gu]
  all_goals (repeat (first|exact lR _ |refine an (by simp[d]) ?_))
def xf (op:Int):List UInt8×Int×Int:=
 if op=34 then([98,114],5,1)else
 if op=35 then([98,114,116,114,117,101],5,2)else
 if op=36 then([98,114,102,97,108,115,101],5,2)else
 if op=37 then([98,101,113],5,2)else
 if op=38 then([98,103,101],5,2)else
 if op=39 then([98,103,116],5,2)else
 if op=40 then([98,108,101],5,2)else
 if op=41 then([98,108,116],5,2)else
 if op=42 then([98,110,101],5,2)else
 if op=43 then([99,97,108,108],6,0)else
 if op=44 then([99,97,108,108,118,105,114,116],6,0)else
 if op=45 then([110,101,119,111,98,106],6,0)else
 if op=46 then([114,101,116],0,3)else
 if op=47 then([116,97,105,108],0,0)else
 sx op
def Km (op:Int) (σ:AS):ad Tryz.prog 275 [.sc (.int .i64 op)] σ (ah (gu (xf op)) σ) No:=by
 refine ad.ob Tryz.func275 ?_;refine gO aa tI tI ?_;intro id d;have G:op=34∨op=35∨op=36∨op=37∨op=38∨op=39∨op=40∨op=41∨op=42∨op=43∨op=44∨op=45∨op=46∨op=47∨(¬op=34∧ ¬op=35∧ ¬op=36∧ ¬op=37∧ ¬op=38∧ ¬op=39∧ ¬op=40∧ ¬op=41∧ ¬op=42∧ ¬op=43∧ ¬op=44∧ ¬op=45∧ ¬op=46∧ ¬op=47):=by omega
 rcases G with rfl|rfl|rfl|rfl|rfl|rfl|rfl|rfl|rfl|rfl|rfl|rfl|rfl|rfl|⟨F,E,y,w,v,u,q,o,n,l,j,i,h,g⟩
 rotate_right
 ·refine gO aa (j2 (j7 @F @E @y @w @v @u @q) (j8 @o @n @l @j @i @h @g @gu.eq_1)) @ua ?_;try simp[xf,F,E,y,w,v,u,q,o,n,l,j,i,h,g]
  all_goals (repeat (first|exact lR _ |refine an (by simp[d]) ?_))
 all_goals
  refine gO aa tI tI ?_;try simp[xf,gu]
  all_goals (repeat (first|exact lR _ |refine an (by simp[d]) ?_))
def BI (op:Int):List UInt8×Int×Int:=
 if op=13 then([97,100,100],0,0)else
 if op=14 then([115,117,98],0,0)else
 if op=15 then([109,117,108],0,0)else
 if op=16 then([100,105,118],0,0)else
 if op=17 then([114,101,109],0,0)else
 if op=18 then([97,110,100],0,0)else
 if op=19 then([111,114],0,0)else
 if op=20 then([120,111,114],0,0)else
 if op=21 then([115,104,108],0,0)else
 if op=22 then([115,104,114],0,0)else
 if op=23 then([110,101,103],0,0)else
 if op=24 then([110,111,116],0,0)else
 if op=25 then([97,100,100,111,118,102],0,0)else
 if op=26 then([115,117,98,111,118,102],0,0)else
 if op=27 then([109,117,108,111,118,102],0,0)else
 if op=28 then([99,111,110,118,52],0,0)else
 if op=29 then([99,111,110,118,56],0,0)else
 if op=30 then([99,111,110,118,111,118,102,52],0,0)else
 if op=31 then([99,101,113],0,0)else
 if op=32 then([99,103,116],0,0)else
 if op=33 then([99,108,116],0,0)else
 xf op
def Me (op:Int) (σ:AS):ad Tryz.prog 256 [.sc (.int .i64 op)] σ (ah (gu (BI op)) σ) No:=by
 refine ad.ob Tryz.func256 ?_;refine gO aa tI tI ?_;intro id d;have O:op=13∨op=14∨op=15∨op=16∨op=17∨op=18∨op=19∨op=20∨op=21∨op=22∨op=23∨op=24∨op=25∨op=26∨op=27∨op=28∨op=29∨op=30∨op=31∨op=32∨op=33∨(¬op=13∧ ¬op=14∧ ¬op=15∧ ¬op=16∧ ¬op=17∧ ¬op=18∧ ¬op=19∧ ¬op=20∧ ¬op=21∧ ¬op=22∧ ¬op=23∧ ¬op=24∧ ¬op=25∧ ¬op=26∧ ¬op=27∧ ¬op=28∧ ¬op=29∧ ¬op=30∧ ¬op=31∧ ¬op=32∧ ¬op=33):=by omega
 rcases O with rfl|rfl|rfl|rfl|rfl|rfl|rfl|rfl|rfl|rfl|rfl|rfl|rfl|rfl|rfl|rfl|rfl|rfl|rfl|rfl|rfl|⟨M,L,K,J,I,H,G,F,E,y,w,v,u,q,o,n,l,j,i,h,g⟩
 rotate_right
 ·refine gO aa (j2 (j7 @M @L @K @J @I @H @G) (j2 (j7 @F @E @y @w @v @u @q) (j8 @o @n @l @j @i @h @g @gu.eq_1))) @Km ?_;try simp[BI,M,L,K,J,I,H,G,F,E,y,w,v,u,q,o,n,l,j,i,h,g]
  all_goals (repeat (first|exact lR _ |refine an (by simp[d]) ?_))
 all_goals
  refine gO aa tI tI ?_;try simp[BI,gu]
  all_goals (repeat (first|exact lR _ |refine an (by simp[d]) ?_))
def gH (op:Int):List UInt8×Int×Int:=
 if op=1 then([110,111,112],0,0)else
 if op=2 then([108,100,97,114,103],4,0)else
 if op=3 then([115,116,97,114,103],4,0)else
 if op=4 then([108,100,97,114,103,97],4,0)else
 if op=5 then([108,100,108,111,99],3,0)else
 if op=6 then([115,116,108,111,99],3,0)else
 if op=7 then([108,100,108,111,99,97],3,0)else
 if op=8 then([108,100,99,52],1,0)else
 if op=9 then([108,100,99,56],2,0)else
 if op=10 then([108,100,110,117,108,108],0,0)else
 if op=11 then([100,117,112],0,0)else
 if op=12 then([112,111,112],0,0)else
 BI op
def OH (op:Int) (σ:AS):ad Tryz.prog 218 [.sc (.int .i64 op)] σ (ah (gu (gH op)) σ) No:=by
 refine ad.ob Tryz.func218 ?_;refine gO aa tI tI ?_;intro id d;have y:op=1∨op=2∨op=3∨op=4∨op=5∨op=6∨op=7∨op=8∨op=9∨op=10∨op=11∨op=12∨(¬op=1∧ ¬op=2∧ ¬op=3∧ ¬op=4∧ ¬op=5∧ ¬op=6∧ ¬op=7∧ ¬op=8∧ ¬op=9∧ ¬op=10∧ ¬op=11∧ ¬op=12):=by omega
 rcases y with rfl|rfl|rfl|rfl|rfl|rfl|rfl|rfl|rfl|rfl|rfl|rfl|⟨h1,w,v,u,q,o,n,l,j,i,h,g⟩
 rotate_right
 ·refine gO aa (j2 (j7 @h1 @w @v @u @q @o @n) (j6 @l @j @i @h @g @gu.eq_1)) @Me ?_;try simp[gH,h1,w,v,u,q,o,n,l,j,i,h,g]
  all_goals (repeat (first|exact lR _ |refine an (by simp[d]) ?_))
 all_goals
  refine gO aa tI tI ?_;try simp[gH,gu]
  all_goals (repeat (first|exact lR _ |refine an (by simp[d]) ?_))
def vk (op:Int) (h:op<1∨75<op):gH op=([],0,0):=by
 unfold gH;repeat (rw[if_neg (by omega)])
 unfold BI;repeat (rw[if_neg (by omega)])
 unfold xf;repeat (rw[if_neg (by omega)])
 unfold sx;repeat (rw[if_neg (by omega)])
 unfold rX;repeat (rw[if_neg (by omega)])
def Pc:∀k:Fin 75,(gH ((k.val:Int)+1)).1≠ []:=by decide
def yp (op:Int):Int:=if op<1∨75<op then 3 else 0
def Mf (l:zY):((⟨l.toArray⟩:ByteArray)=ByteArray.empty)↔l= []:=by
 constructor
 ·intro h;have:=congrArg (fun b:ByteArray=>b.data.toList) h;simpa using this
 ·rintro rfl;rfl
def sL (op:Int) (σ:AS):ad prog 176 [zI op] σ (ah (.bI [gu (gH op),zI (yp op)]) σ) No:=by
 refine ad.ob func176 ?_;refine gO aa tI tI ?_;intro id g;by_cases h:op<1∨75<op
 ·have h1:=vk op h;refine gO aa (j2 @h1 @gu.eq_1) @OH ?_;intro i ne d;have ne':=aK ne;refine gO aa (j2 @ne @ne') tI ?_;simp[yp,h];all_goals (repeat (first|exact lR _ |refine an (by simp[g,d,ne]) ?_))
 ·have h1:(gH op).1≠ []:=by
   have:=Pc ⟨(op-1).toNat,by omega⟩;have e:(((op-1).toNat:Nat):Int)+1=op:=by omega
   change (gH ((((op-1).toNat:Nat):Int)+1)).1≠ []at this;rwa [e]at this
  have j:=Mf (gH op).1;simp[h1]at j;refine gO aa @gu.eq_1 @OH ?_;intro i ne d;have ne':=aK ne;refine gO aa (j3 @h1 @ne @ne') tI ?_;simp[yp,h];all_goals (repeat (first|exact lR _ |refine an (by simp[g,d,ne]) ?_))
def Ll (x b:Int) (σ:AS):ad prog 255 [zI x,zI b] σ (ah (.sc (.bool (decide (0≤x)&&decide (x<b)))) σ) No:=by
 refine ad.ob func255 ?_;by_cases h:0≤x;all_goals
  exact gE aa @h tI;try simp[h]
structure cE where
 op:Int
 arg:Int
 t:Ty
def aJ (x:cE):AV:= .agg [zI x.op,zI x.arg,zI x.t.kind,zI x.t.index,zI x.t.bT,.sc (.bool x.t.ref)]
def qS (t:Ty):Bool:=decide (t.kind=0)&&(decide (t.index=0)&&(decide (t.bT=0)&& !t.ref))
def gP (x:cE) (o:Int):Bool:=
 if o=0 then qS x.t&&decide (x.arg=0)else
 if o=1 then qS x.t&&(decide (-2147483648≤x.arg)&&decide (x.arg<2147483648))else
 if o=2 then qS x.t else
 if o=3 then qS x.t&&(decide (0≤x.arg)&&decide (x.arg<12))else
 if o=4 then qS x.t&&(decide (0≤x.arg)&&decide (x.arg<7))else
 if o=5 then qS x.t&&(decide (0≤x.arg)&&decide (x.arg<160))else
 if o=6∨o=7 then qS x.t&&(decide (0≤x.arg)&&decide (x.arg<64))else
 decide (x.arg=0)&&bO x.t
def qF (x:cE) (o:Int) (σ:AS):ad prog 217 [aJ x,zI o] σ (ah (.sc (.bool (gP x o))) σ) No:=by
 refine ad.ob func217 ?_;have i:=fun σ=>ql x.t σ;obtain⟨op,arg,k,g,d,r⟩:=x;simp only[cF]at i;simp only[aJ];have h:jm prog 8 49 (.agg [zI k,zI g,zI d,zB r]) (.agg [zI 0,zI 0,zI 0,zB false])=some (qS ⟨k,g,d,r⟩):=by simp[qS]
 refine gO aa tI tI ?_;intro id j;cases n:qS ⟨k,g,d,r⟩;all_goals
  rw[n]at h
  repeat' (first
   |refine g1 ?_
   |((first|refine g2 ?_ |((with_reducible apply ag.id);first|apply ag.ay (Ll _ _ _)|apply ag.ay (i _)));simp-implicitDefEqProofs [-xr,h])
   |trivial
   |(with_reducible apply j2)
   |((with_reducible first|apply aq.ret|apply aq.skip|apply aq.exit);try simp-implicitDefEqProofs [-xr])
   |((with_reducible first|apply cJ.split|apply bx.split|apply fG.split)<;>(intro l;(try simp-implicitDefEqProofs only[l]);(try simp at l))<;>try simp-implicitDefEqProofs [-xr]))
  all_goals clear i h
  all_goals first
   |exact an j (lR _)
   |(refine DD ?_;simp_all [gP,bO,aZ];done)
   |(refine DD ?_;rw[Bool.eq_iff_iff];simp[gP, *];omega)
def jF (x:cE):Int:=if x.op<1∨75<x.op then 3 else if gP x (gH x.op).2.1 then 0 else 17
def CC (x:cE) (σ:AS):ad prog 175 [aJ x] σ (ah (zI (jF x)) σ) No:=by
 refine ad.ob func175 ?_;have g:=fun σ=>sL x.op σ;have hf:=fun o σ=>qF x o σ;have he:jF x=if x.op<1∨75<x.op then 3 else if gP x (gH x.op).2.1 then 0 else 17:=rfl;generalize jF x=u at he⊢;obtain⟨op,arg,k,q,d,r⟩:=x;simp only[aJ,gu,yp]at g hf he⊢;by_cases h:op<1∨75<op;all_goals
  simp only[h,if_true,if_false]at g he;refine gO aa tI tI ?_;intro id n;refine gO aa tI @g ?_;intro l ne i;have ne':=aK ne
  repeat' (first
   |refine g1 ?_
   |((first|refine g2 ?_ |((with_reducible apply ag.id);first|apply ag.ay (g _)|apply ag.ay (hf _ _)));simp-implicitDefEqProofs [ne'])
   |trivial
   |(with_reducible apply j2)
   |((with_reducible first|apply aq.ret|apply aq.skip|apply aq.exit);try simp-implicitDefEqProofs)
   |((with_reducible first|apply cJ.split|apply bx.split|apply fG.split)<;>(intro j;(try simp-implicitDefEqProofs only[j]);(try simp at j))<;>try simp-implicitDefEqProofs [ne,ne']))
  all_goals clear g hf
  all_goals exact gJ tI
def pJ (o:Int):Int×Int:=if o=1 then(2147483647,-2147483648)else if o=2 then(9223372036854775807,-9223372036854775808)else if o=3 then(11,0)else
 if o=4 then(6,0)else if o=5 then(159,0)else if o=6∨o=7 then(63,0)else(0,0)
def Jk (o:Int) (σ:AS):ad prog 180 [zI o] σ (ah (.bI [zI ((pJ o).1),zI ((pJ o).2)]) σ) No:=by
 refine ad.ob func180 ?_
 repeat' (first
  |refine g1 ?_
  |((first|(with_reducible first|apply aq.fork|apply aq.region));simp-implicitDefEqProofs)
  |trivial
  |(with_reducible apply j2)
  |((with_reducible first|apply aq.ret|apply aq.skip|apply aq.exit);try simp-implicitDefEqProofs)
  |((with_reducible first|apply cJ.split|apply bx.split|apply fG.split)<;>(intro d;(try simp-implicitDefEqProofs only[d]);(try simp at d))<;>try simp-implicitDefEqProofs))
 all_goals exact gJ @pJ.eq_1
def G6 (o:Int) (arg:Int) (h1: -9223372036854775808≤arg) (l:arg<9223372036854775808) (t:Ty) (op:Int) (h:0≤o∧o≤8):
 gP ⟨op,arg,t⟩ o=(decide ((pJ o).2≤arg∧arg≤(pJ o).1)&&(if o=8 then bO t else qS t)):=by
 obtain⟨g,d⟩:=h;have:o=0∨o=1∨o=2∨o=3∨o=4∨o=5∨o=6∨o=7∨o=8:=by omega
 rcases this with rfl|rfl|rfl|rfl|rfl|rfl|rfl|rfl|rfl<;>cases i:qS t<;>cases j:bO t<;>rw[Bool.eq_iff_iff]<;>simp[gP,pJ,i,j]<;>omega
def wP:∀k:Fin 75,0≤(gH ((k.val:Int)+1)).2.1∧(gH ((k.val:Int)+1)).2.1≤8:=by decide+kernel
def tA:zY→Int→Int→zY→zY
 |[],_,_,_ => []
 |b::r,op,n,cur=>if b=32 then(if n=op then cur else tA r op (n+1) [])else tA r op n (cur++ [b])
def M1 (L:zY) (i d:Nat) (h:i<L.length) (hf:d≤i) (op n:Int):
 tA (L.drop i) op n ((L.take i).drop d)=if L[i]=32 then(if n=op then(L.take i).drop d else tA (L.drop (i+1)) op (n+1) ((L.take (i+1)).drop (i+1)))
  else tA (L.drop (i+1)) op n ((L.take (i+1)).drop d):=by
 rw[drop_eq_getElem_cons h];have j:(L.take (i+1)).drop (i+1)= []:=by simp
 have g:(L.take (i+1)).drop d=(L.take i).drop d++ [L[i]]:=by rw[take_succ_eq_append_getElem h,drop_append_of_le_length (by simp;omega)]
 rw[j,g];simp[tA]
def NM:ByteArray:=({ data:=(List.toArray (List.append (List.append (List.append [110,111,112,32,108,100,97,114,103,32,115,116,97,114,103,32,108,100,97,114,103,97,32,108,100,108,111,99,32,115,116,108,111,99,32,108,100,108,111,99,97,32,108,100,99,52,32,108,100,99,56,32,108,100] [110,117,108,108,32,100,117,112,32,112,111,112,32,97,100,100,32,115,117,98,32,109,117,108,32,100,105,118,32,114,101,109,32,97,110,100,32,111,114,32,120,111,114,32,115,104,108,32,115,104,114,32,110,101]) (List.append [103,32,110,111,116,32,97,100,100,111,118,102,32,115,117,98,111,118,102,32,109,117,108,111,118,102,32,99,111,110,118,52,32,99,111,110,118,56,32,99,111,110,118,111,118,102,52,32,99,101,113,32,99,103] [116,32,99,108,116,32,98,114,32,98,114,116,114,117,101,32,98,114,102,97,108,115,101,32,98,101,113,32,98,103,101,32,98,103,116,32,98,108,101,32,98,108,116,32,98,110,101,32,99,97,108,108,32,99])) (List.append (List.append [97,108,108,118,105,114,116,32,110,101,119,111,98,106,32,114,101,116,32,116,97,105,108,32,108,100,102,108,100,32,115,116,102,108,100,32,108,100,102,108,100,97,32,108,100,115,102,108,100,32,115,116,115,102] [108,100,32,108,100,115,102,108,100,97,32,108,100,111,98,106,32,115,116,111,98,106,32,105,110,105,116,111,98,106,32,110,101,119,97,114,114,32,108,100,108,101,110,32,108,100,101,108,101,109,32,115,116,101]) (List.append [108,101,109,32,108,100,101,108,101,109,97,32,98,111,120,32,117,110,98,111,120,32,117,110,98,111,120,97,110,121,32,99,97,115,116,99,108,97,115,115,32,105,115,105,110,115,116,32,108,100,102,116,110,32] [110,101,119,100,101,108,32,116,104,114,111,119,32,114,101,116,104,114,111,119,32,108,101,97,118,101,32,101,110,100,102,105,110,97,108,108,121,32,101,110,100,102,105,108,116,101,114,32,105,110,32,111,117,116,32])))) } :ByteArray)
def WN:(({ data:=(List.toArray (List.append (List.append (List.append [110,111,112,32,108,100,97,114,103,32,115,116,97,114,103,32,108,100,97,114,103,97,32,108,100,108,111,99,32,115,116,108,111,99,32,108,100,108,111,99,97,32,108,100,99,52,32,108,100,99,56,32,108,100] [110,117,108,108,32,100,117,112,32,112,111,112,32,97,100,100,32,115,117,98,32,109,117,108,32,100,105,118,32,114,101,109,32,97,110,100,32,111,114,32,120,111,114,32,115,104,108,32,115,104,114,32,110,101]) (List.append [103,32,110,111,116,32,97,100,100,111,118,102,32,115,117,98,111,118,102,32,109,117,108,111,118,102,32,99,111,110,118,52,32,99,111,110,118,56,32,99,111,110,118,111,118,102,52,32,99,101,113,32,99,103] [116,32,99,108,116,32,98,114,32,98,114,116,114,117,101,32,98,114,102,97,108,115,101,32,98,101,113,32,98,103,101,32,98,103,116,32,98,108,101,32,98,108,116,32,98,110,101,32,99,97,108,108,32,99])) (List.append (List.append [97,108,108,118,105,114,116,32,110,101,119,111,98,106,32,114,101,116,32,116,97,105,108,32,108,100,102,108,100,32,115,116,102,108,100,32,108,100,102,108,100,97,32,108,100,115,102,108,100,32,115,116,115,102] [108,100,32,108,100,115,102,108,100,97,32,108,100,111,98,106,32,115,116,111,98,106,32,105,110,105,116,111,98,106,32,110,101,119,97,114,114,32,108,100,108,101,110,32,108,100,101,108,101,109,32,115,116,101]) (List.append [108,101,109,32,108,100,101,108,101,109,97,32,98,111,120,32,117,110,98,111,120,32,117,110,98,111,120,97,110,121,32,99,97,115,116,99,108,97,115,115,32,105,115,105,110,115,116,32,108,100,102,116,110,32] [110,101,119,100,101,108,32,116,104,114,111,119,32,114,101,116,104,114,111,119,32,108,101,97,118,101,32,101,110,100,102,105,110,97,108,108,121,32,101,110,100,102,105,108,116,101,114,32,105,110,32,111,117,116,32])))) } :ByteArray):ByteArray)=NM:=rfl
def Bn:zY:= [110,111,112,32,108,100,97,114,103,32,115,116,97,114,103,32,108,100,97,114,103,97,32,108,100,108,111,99,32,115,116,108,111,99,32,108,100,108,111,99,97,32,108,100,99,52,32,108,100,99,56,32,108,100,110,117,108,108,32,100,117,112,32,112,111,112,32,97,100,100,32,115,117,98,32,109,117,108,32,100,105,118,32,114,101,109,32,97,110,100,32,111,114,32,120,111,114,32,115,104,108,32,115,104,114,32,110,101,103,32,110,111,116,32,97,100,100,111,118,102,32,115,117,98,111,118,102,32,109,117,108,111,118,102,32,99,111,110,118,52,32,99,111,110,118,56,32,99,111,110,118,111,118,102,52,32,99,101,113,32,99,103,116,32,99,108,116,32,98,114,32,98,114,116,114,117,101,32,98,114,102,97,108,115,101,32,98,101,113,32,98,103,101,32,98,103,116,32,98,108,101,32,98,108,116,32,98,110,101,32,99,97,108,108,32,99,97,108,108,118,105,114,116,32,110,101,119,111,98,106,32,114,101,116,32,116,97,105,108,32,108,100,102,108,100,32,115,116,102,108,100,32,108,100,102,108,100,97,32,108,100,115,102,108,100,32,115,116,115,102,108,100,32,108,100,115,102,108,100,97,32,108,100,111,98,106,32,115,116,111,98,106,32,105,110,105,116,111,98,106,32,110,101,119,97,114,114,32,108,100,108,101,110,32,108,100,101,108,101,109,32,115,116,101,108,101,109,32,108,100,101,108,101,109,97,32,98,111,120,32,117,110,98,111,120,32,117,110,98,111,120,97,110,121,32,99,97,115,116,99,108,97,115,115,32,105,115,105,110,115,116,32,108,100,102,116,110,32,110,101,119,100,101,108,32,116,104,114,111,119,32,114,101,116,104,114,111,119,32,108,101,97,118,101,32,101,110,100,102,105,110,97,108,108,121,32,101,110,100,102,105,108,116,101,114,32,105,110,32,111,117,116,32]
def WO:NM.data.toList=Bn:=by decide+kernel
def WM:NM.size=433:=by decide+kernel
def SH:∀k:Fin 75,tA Bn ((k.val:Int)+1) 1 []=(gH ((k.val:Int)+1)).1:=by decide+kernel
def SM (L:zY) (op:Int) (R:zY) (σ:AS) (m:Nat) (fr:Fr) (g:AS):Prop:=
 ∃i d:Nat,∃n:Int,m=433-i∧i≤433∧d≤i∧1≤n∧n≤i+1∧tA (L.drop i) op n ((L.take i).drop d)=R∧g=σ∧
  fr=iO [(0,zI op),(3,zI n),(4,zI d),(5,zI i)]
def EE (b:ByteArray) (i j:Nat):b.extract i j=⟨((b.data.toList.take j).drop i).toArray⟩:=by apply ByteArray.ext;apply Array.ext';simp[ByteArray.data_extract,extract_eq_take_drop,drop_take]
def Jy (op:Int) (σ:AS):ad prog 181 [zI op] σ (ah (.sc (.string ⟨(tA Bn op 1 []).toArray⟩)) σ) No:=by
 refine ad.ob func181 ?_;have I:Bn.length=433:=by decide+kernel
 have u:=WM;have hd:=WO;have y:tA (Bn.drop 0) op 1 ((Bn.take 0).drop 0)=tA Bn op 1 []:=rfl;generalize tA Bn op 1 []=R at y⊢;generalize Bn=L at I hd y;refine uK (aa []) @WN tI tI (k:= ?_);refine aq.dc (SM L op R σ) (k0:=433) ⟨0,0,1,by omega,by omega,by omega,by omega,by omega,y,rfl,rfl⟩ (aN.mk (by simp)) (lR _) ?_;rintro m fr J ⟨i,j,n,hm,K,v,G,F,d,rfl,rfl⟩;by_cases H:i<433
 ·have g:((i:Int)<433)=True:=by simp;omega
  have w1:IntKind.i64.wrap ((i:Int)+1)=((i+1:Nat):Int):=by rw[az (by omega) (by omega)];simp
  have E:IntKind.i64.wrap (n+1)=n+1:=az (by omega) (by omega);rw[M1 L i j (by omega) v]at d;have o:L[i]? =some L[i]:=getElem?_eq_getElem (by omega);by_cases q:L[i]=32
  ·rw[if_pos q]at d;rw[q]at o;by_cases l:n=op
   ·rw[if_pos l]at d;exact uK (aa []) tI (j7 g @u @hd @o @l @EE @d) tI (k:=trivial)
   ·rw[if_neg l]at d;refine uK (aa []) tI (j5 g @u @hd @o @l) tI (k:= ?_);refine⟨m-1,_,_,by omega,aN.mk ?_,lR _,i+1,i+1,n+1,by omega,by omega,by omega,by omega,by omega,d,rfl,rfl⟩;simp[w1,E]
  ·rw[if_neg q]at d;have w:((L[i].toNat:Int)=32)=False:=by simp;intro h;apply q;apply UInt8.toNat_inj.1;simp;omega
   refine uK (aa []) tI (j5 g @u @hd @o @w) tI (k:= ?_);refine⟨m-1,_,_,by omega,aN.mk ?_,lR _,i+1,j,n,by omega,by omega,by omega,by omega,by omega,d,rfl,rfl⟩;simp[w1]
 ·have g:((i:Int)<433)=False:=by simp;omega
  have:L.drop i= []:=drop_eq_nil_of_le (by omega);rw[this]at d;refine gO aa g tI ?_;simp[←d,tA]
abbrev iT:bW:=(.S 0 (.S 2 (.S 3 (.S 4 (.S 5 (.S 6 (.S 7 (.S 8 (.S 9 (.S 10 (.S 11 (.U 1 (.S 12 (.A 13 (.S 14 .D) .Z))))))))))))))
def Jz (k:Nat) (d:k<75) (σ:AS):ad prog 181 [zI ((k:Int)+1)] σ (ah (.sc (.string ⟨(gH ((k:Int)+1)).1.toArray⟩)) σ) No:=by have:=Jy ((k:Int)+1) σ;rw[SH ⟨k,d⟩]at this;exact this
def OD:ByteArray:=({ data:=(List.toArray (List.append [48,52,52,52,51,51,51,49,50,48,48,48,48,48,48,48,48,48,48,48,48,48,48,48,48,48,48,48,48,48,48,48,48,53,53,53,53] [53,53,53,53,53,54,54,54,48,48,55,55,55,55,55,55,56,56,56,56,48,56,56,56,56,56,56,56,56,54,56,48,48,53,48,48,48,48])) } :ByteArray)
def TX:(({ data:=(List.toArray (List.append [48,52,52,52,51,51,51,49,50,48,48,48,48,48,48,48,48,48,48,48,48,48,48,48,48,48,48,48,48,48,48,48,48,53,53,53,53] [53,53,53,53,53,54,54,54,48,48,55,55,55,55,55,55,56,56,56,56,48,56,56,56,56,56,56,56,56,54,56,48,48,53,48,48,48,48])) } :ByteArray):ByteArray)=OD:=rfl
def Oj:zY:= [48,52,52,52,51,51,51,49,50,48,48,48,48,48,48,48,48,48,48,48,48,48,48,48,48,48,48,48,48,48,48,48,48,53,53,53,53,53,53,53,53,53,54,54,54,48,48,55,55,55,55,55,55,56,56,56,56,48,56,56,56,56,56,56,56,56,54,56,48,48,53,48,48,48,48]
def WL:OD.data.toList=Oj:=by decide+kernel
def WK:OD.size=75:=by decide+kernel
def FL:ByteArray:=({ data:=(List.toArray (List.append [48,48,48,48,48,48,48,48,48,48,48,48,48,48,48,48,48,48,48,48,48,48,48,48,48,48,48,48,48,48,48,48,48,49,50,50,50] [50,50,50,50,50,48,48,48,51,48,48,48,48,48,48,48,48,48,48,48,48,48,48,48,48,48,48,48,48,48,48,51,51,52,53,53,48,48])) } :ByteArray)
def T0:(({ data:=(List.toArray (List.append [48,48,48,48,48,48,48,48,48,48,48,48,48,48,48,48,48,48,48,48,48,48,48,48,48,48,48,48,48,48,48,48,48,49,50,50,50] [50,50,50,50,50,48,48,48,51,48,48,48,48,48,48,48,48,48,48,48,48,48,48,48,48,48,48,48,48,48,48,51,51,52,53,53,48,48])) } :ByteArray):ByteArray)=FL:=rfl
def Ok:zY:= [48,48,48,48,48,48,48,48,48,48,48,48,48,48,48,48,48,48,48,48,48,48,48,48,48,48,48,48,48,48,48,48,48,49,50,50,50,50,50,50,50,50,48,48,48,51,48,48,48,48,48,48,48,48,48,48,48,48,48,48,48,48,48,48,48,48,48,48,51,51,52,53,53,48,48]
def WV:FL.data.toList=Ok:=by decide+kernel
def WU:FL.size=75:=by decide+kernel
def SE:∀k:Fin 75,∃b,Oj[k.val]? =some b∧IntKind.u8.wrap ((b.toNat:Int)-48)=(gH ((k.val:Int)+1)).2.1∧zW (gH ((k.val:Int)+1)).2.1=(gH ((k.val:Int)+1)).2.1:=by
 intro k;refine⟨Oj.getD k.val 0,?_,?_⟩
 ·revert k;decide+kernel
 ·revert k;decide+kernel
def Tl:∀k:Fin 75,∃b,Ok[k.val]? =some b∧IntKind.u8.wrap ((b.toNat:Int)-48)=(gH ((k.val:Int)+1)).2.2∧zW (gH ((k.val:Int)+1)).2.2=(gH ((k.val:Int)+1)).2.2:=by
 intro k;refine⟨Ok.getD k.val 0,?_,?_⟩
 ·revert k;decide+kernel
 ·revert k;decide+kernel
def Jx (op:Int) (σ:AS):ad prog 128 [zI op] σ (ah (.bI [gu (gH op),zI (yp op)]) σ) No:=by
 by_cases h:op<1∨75<op
 ·refine ad.vt func128 rfl rfl (by simp[ntmps128]) ?_;have h1:=vk op h;repeat (first
   |refine g1 ?_
   |((first|(with_reducible first|apply aq.fork|apply aq.region)|((with_reducible apply dX 3 iT);refine dY mixed ?_));simp-implicitDefEqProofs)
   |(refine g3 ?_;try simp-implicitDefEqProofs))
  intro id l;by_cases h0:op<1;all_goals
   have L:op<1∨75<op:=h;try (have M:75<op:=by omega)
   try simp only[h0]at L
   repeat (first
    |refine g1 ?_
    |((first|refine g2 ?_ |((with_reducible apply dX 3 iT);refine dY mixed ?_));simp-implicitDefEqProofs [gu, *])
    |(refine g3 ?_;try simp-implicitDefEqProofs [*]))
   try simp[yp,h]
   all_goals (repeat (first|exact AS.le_refl _ |refine an (by simp[l]) ?_))
 ·obtain⟨k,rfl⟩:∃k:Nat,op=(k:Int)+1:=⟨(op-1).toNat,by omega⟩;have F:k<75:=by omega
  refine ad.vt func128 rfl rfl (by simp[ntmps128]) ?_;have K:yp ((k:Int)+1)=0:=by simp[yp];omega
  obtain⟨b,o,j,i⟩:=SE ⟨k,F⟩;obtain⟨c,n,g,d⟩:=Tl ⟨k,F⟩;have v:=fun σ=>Jz k F σ;have q:=WL;have u:=WV;have E:=WK;have G:=WU;rw[K];simp only at o j i n g d;generalize Oj=P at q o;generalize Ok=O at u n;generalize gH ((k:Int)+1)=it at j i g d v⊢;obtain⟨i1,i2,i3⟩:=it;simp only at j i g d v;have y:OD.data[k]? =some b:=by rw[←Array.getElem?_toList,q];exact o
  have w:FL.data[k]? =some c:=by rw[←Array.getElem?_toList,u];exact n
  have J:((k:Int)+1<1)=False:=by simp;omega
  have I:(75<(k:Int)+1)=False:=by simp;omega
  have H:((k:Int)<75)=True:=by simp;omega
  have w0:zW (k:Int)=k:=az (by omega) (by omega);repeat (first
   |refine g1 ?_
   |((first|refine g2 ?_ |((with_reducible apply dX 3 iT);refine dY mixed ?_));simp-implicitDefEqProofs [↓TX,↓T0])
   |(refine g3 ?_;try simp-implicitDefEqProofs [↓TX,↓T0]))
  intro id l;repeat (first
   |refine g1 ?_
   |((first|refine g2 ?_ |((with_reducible apply dX 3 iT);refine dY mixed ?_)|((with_reducible apply ag.id);first|apply ag.ay (v _))|((with_reducible apply aD.id);first|apply aD.ay (fun _ =>v _)));simp-implicitDefEqProofs [J,I,H,w0,y,w,j,i,g,d,E,G,underlying3,underlying5])
   |(refine g3 ?_;try simp-implicitDefEqProofs))
  simp[gu];all_goals (repeat (first|exact AS.le_refl _ |refine an (by simp[l]) ?_))
def JB (x:cE) (h1: -9223372036854775808≤x.arg) (E:x.arg<9223372036854775808) (σ:AS):ad prog 127 [aJ x] σ (ah (zI (jF x)) σ) No:=by
 refine ad.vt func127 rfl rfl (by simp[ntmps127]) ?_;have i:=fun σ=>Jx x.op σ;have hm:=fun o σ=>Jk o σ;have hw:=fun σ=>yN x.t 1 σ;have he:jF x=if x.op<1∨75<x.op then 3 else if gP x (gH x.op).2.1 then 0 else 17:=rfl;have l:¬(x.op<1∨75<x.op)→gP x (gH x.op).2.1=(decide ((pJ (gH x.op).2.1).2≤x.arg∧x.arg≤(pJ (gH x.op).2.1).1)&&(if (gH x.op).2.1=8 then bO x.t else qS x.t)):=by
  intro h;refine G6 _ x.arg h1 E x.t x.op ?_;have:=wP ⟨(x.op-1).toNat,by omega⟩;have e:(((x.op-1).toNat:Nat):Int)+1=x.op:=by omega
  simp only[e]at this;exact this
 generalize jF x=H at he⊢;have y:gV x.t 1=bO x.t:=rfl;rw[y]at hw;obtain⟨op,arg,k,u,d,r⟩:=x;have v:jm prog 8 49 (.agg [zI k,zI u,zI d,zB r]) (.agg [zI 0,zI 0,zI 0,zB false])=some (qS ⟨k,u,d,r⟩):=by simp[qS]
 simp only[aJ,gu,yp,cF]at i hw he l⊢;generalize bO ⟨k,u,d,r⟩=fd at hw l;generalize qS ⟨k,u,d,r⟩=nt at v l;by_cases h:op<1∨75<op
 ·simp only[h,if_true]at i he;repeat (first
   |refine g1 ?_
   |((first|(with_reducible first|apply aq.fork|apply aq.region));simp-implicitDefEqProofs)
   |(refine g3 ?_;try simp-implicitDefEqProofs))
  intro id w;repeat (first
   |refine g1 ?_
   |((first|(with_reducible first|apply aq.fork|apply aq.region)|((with_reducible apply ag.id);first|apply ag.ay (i _)));simp-implicitDefEqProofs)
   |(refine g3 ?_;try simp-implicitDefEqProofs))
  intro j ne n;have ne':¬id=j:=fun e=>ne e.symm
  repeat' (first
   |refine g1 ?_
   |((first|refine g2 ?_ |((with_reducible apply ag.id);first|apply ag.ay (i _)));simp-implicitDefEqProofs)
   |trivial
   |(with_reducible apply And.intro)
   |((with_reducible first|apply aq.ret|apply aq.skip|apply aq.exit);try simp-implicitDefEqProofs)
   |((with_reducible first|apply cJ.split|apply bx.split|apply fG.split)<;>(intro q;(try simp-implicitDefEqProofs only[q]);(try simp at q))<;>try simp-implicitDefEqProofs [ne,ne']))
  all_goals (repeat' (with_reducible apply And.intro))
  all_goals first
   |exact AS.le_refl _
   |((repeat (first|exact AS.le_refl _ |assumption|refine an (by simp[*]) ?_));done)
   |(refine ff ?_;simp_all [];done)
   |(refine DD ?_;rw[Bool.eq_iff_iff];simp[*];omega)
   |(refine ff ?_;simp[*];omega)
   |(refine ff ?_;split<;>simp_all [kT];done)
   |(exfalso;omega)
 ·simp only[h,if_false]at i he;rw[l h]at he;clear l;generalize (gH op).2.1=o at i hm he;have g:∀σ,ad prog 180 [zI o] σ (ah (.bI [zI ((pJ o).1),zI ((pJ o).2)]) σ) No:=fun σ=>hm o σ;clear hm;generalize pJ o=mo at g he;obtain⟨G,F⟩:=mo;simp only at g he;repeat (first
   |refine g1 ?_
   |((first|(with_reducible first|apply aq.fork|apply aq.region));simp-implicitDefEqProofs)
   |(refine g3 ?_;try simp-implicitDefEqProofs))
  intro id w;repeat (first
   |refine g1 ?_
   |((first|refine g2 ?_ |((with_reducible apply ag.id);first|apply ag.ay (i _)|apply ag.ay (g _)));simp-implicitDefEqProofs [-xr])
   |(refine g3 ?_;try simp-implicitDefEqProofs [-xr,v]))
  intro j ne n;have ne':¬id=j:=fun e=>ne e.symm
  repeat' (first
   |refine g1 ?_
   |((first|refine g2 ?_ |((with_reducible apply ag.id);first|apply ag.ay (g _)|apply ag.ay (hw _)));simp-implicitDefEqProofs [ne',-xr,v])
   |trivial
   |(with_reducible apply And.intro)
   |((with_reducible first|apply aq.ret|apply aq.skip|apply aq.exit);try simp-implicitDefEqProofs [-xr])
   |((with_reducible first|apply cJ.split|apply bx.split|apply fG.split)<;>(intro q;(try simp-implicitDefEqProofs only[q]);(try simp at q))<;>try simp-implicitDefEqProofs [ne',-xr]))
  all_goals clear hw g i v
  all_goals (repeat' (with_reducible apply And.intro))
  all_goals first
   |exact AS.le_refl _
   |((repeat (first|exact AS.le_refl _ |assumption|refine an (by simp[*]) ?_));done)
   |(refine ff ?_;simp_all [];done)
   |(refine DD ?_;rw[Bool.eq_iff_iff];simp[*];omega)
   |(refine ff ?_;simp[*];omega)
   |(refine ff ?_;split<;>simp_all [kT];done)
   |(exfalso;omega)
def nM (c:UInt8):Bool:=decide (33≤c.toNat)&&decide (c.toNat≤126)
def bD (l:zY):Bool:=decide (0<l.length)&&(decide (l.length≤24)&&l.all nM)
def Ym (l:zY) (σ:AS) (m:Nat) (fr:Fr) (d:AS):Prop:=
 ∃i:Nat,m=l.length-i∧i≤l.length∧l.all nM=(l.drop i).all nM∧d=σ∧fr=iO [(0,zS l),(12,zI l.length),(13,zI i)]
theorem sw (l:zY) (hl:l.length≤140737488355328) (σ:AS):ad prog 52 [zS l] σ (ah (.sc (.bool (bD l))) σ) No:=by
 refine ad.ob func52 ?_;by_cases h0:l= []
 ·subst h0;refine gO aa tI tI ?_;simp[bD]
 ·have y:0<l.length:=List.length_pos_iff.2 h0;by_cases v:l.length≤24
  ·have j:(24<(l.length:Int))=False:=by simp;omega
   have w:bD l=l.all nM:=by simp[bD,y,v]
   rw[w];refine gO aa (j2 @h0 @j) tI ?_;refine aq.dc (Ym l σ) (k0:=l.length) ⟨0,by omega,by omega,rfl,rfl,rfl⟩ (aN.mk (by simp)) (lR _) ?_;rintro m fr F ⟨i,hm,G,o,rfl,rfl⟩;by_cases g:i<l.length
   ·obtain⟨c,E,hd,_,_⟩:=gQ l g;obtain⟨_,h⟩:=List.getElem?_eq_some_iff.1 E;have u:((i:Int)<l.length)=True:=by simp;omega
    rw[hd,List.all_cons]at o;by_cases I:c.toNat<33
    ·have q:nM c=false:=by simp[nM];omega
     have d:((c.toNat:Int)<33)=True:=by simp;omega
     refine gO aa (j4 u g @h @d) tI ?_;simp[o,q]
    ·by_cases H:126<c.toNat
     ·have q:nM c=false:=by simp[nM];omega
      have d:((c.toNat:Int)<33)=False:=by simp;omega
      have n:(126<(c.toNat:Int))=True:=by simp;omega
      refine gO aa (j5 u g @h @d @n) tI ?_;simp[o,q]
     ·have q:nM c=true:=by simp[nM];omega
      have d:((c.toNat:Int)<33)=False:=by simp;omega
      have n:(126<(c.toNat:Int))=False:=by simp;omega
      refine gO aa (j5 u g @h @d @n) tI ?_;refine⟨m-1,_,_,by omega,aN.mk ?_,lR _,i+1,by omega,by omega,by rw[o,q,Bool.true_and],rfl,rfl⟩;simp[gW (show i<4000000000000000000 by omega)]
   ·have u:((i:Int)<l.length)=False:=by simp;omega
    have:l.drop i= []:=List.drop_eq_nil_of_le (by omega);rw[this]at o;refine gO aa u tI ?_;simp[o]
  ·have j:(24<(l.length:Int))=True:=by simp;omega
   have w:bD l=false:=by simp[bD,v]
   rw[w];exact gE aa (j2 @h0 @j) tI
def XS (l:zY) (σ:AS) (m:Nat) (fr:Fr) (d:AS):Prop:=
 ∃i:Nat,m=l.length-i∧i≤l.length∧l.all nM=(l.drop i).all nM∧d=σ∧fr=iO [(0,zS l),(3,zI i)]
theorem wv (l:zY) (hl:l.length≤140737488355328) (σ:AS):ad prog 22 [zS l] σ (ah (.sc (.bool (bD l))) σ) No:=by
 refine ad.ob func22 ?_;refine gO aa tI tI ?_;refine aq.dc (XS l σ) (k0:=l.length) ⟨0,by omega,by omega,rfl,rfl,rfl⟩ (aN.mk (by simp)) (lR _) ?_;rintro m fr w ⟨i,hm,y,o,rfl,rfl⟩;by_cases g:i<l.length
 ·obtain⟨c,v,hd,_,_⟩:=gQ l g;obtain⟨_,j⟩:=List.getElem?_eq_some_iff.1 v;have q:((i:Int)<l.length)=True:=by simp;omega
  rw[hd,List.all_cons]at o;by_cases F:c.toNat<33
  ·have h:nM c=false:=by simp[nM];omega
   have u:bD l=false:=by simp[bD,o,h]
   have d:((c.toNat:Int)<33)=True:=by simp;omega
   exact gE aa (j5 q g @j @d @u) tI
  ·by_cases E:126<c.toNat
   ·have h:nM c=false:=by simp[nM];omega
    have u:bD l=false:=by simp[bD,o,h]
    have d:((c.toNat:Int)<33)=False:=by simp;omega
    have n:(126<(c.toNat:Int))=True:=by simp;omega
    exact gE aa (j6 q g @j @d @n @u) tI
   ·have h:nM c=true:=by simp[nM];omega
    have d:((c.toNat:Int)<33)=False:=by simp;omega
    have n:(126<(c.toNat:Int))=False:=by simp;omega
    refine gO aa (j5 q g @j @d @n) tI ?_;refine⟨m-1,_,_,by omega,aN.mk ?_,lR _,i+1,by omega,by omega,by rw[o,h,Bool.true_and],rfl,rfl⟩;simp[gW (show i<4000000000000000000 by omega)]
 ·have q:((i:Int)<l.length)=False:=by simp;omega
  have:l.drop i= []:=List.drop_eq_nil_of_le (by omega);rw[this]at o;simp at o
  repeat' (first
   |refine g1 ?_
   |((first|refine g2 ?_);simp-implicitDefEqProofs [q])
   |trivial
   |(with_reducible apply j2)
   |((with_reducible first|apply aq.ret|apply aq.skip|apply aq.exit);try simp-implicitDefEqProofs)
   |((with_reducible first|apply cJ.split|apply bx.split|apply fG.split)<;>(intro h;(try simp-implicitDefEqProofs only[h]);(try simp at h))<;>try simp-implicitDefEqProofs))
  all_goals
   apply DD;rw[Bool.eq_iff_iff];simp[bD];try simp_all
  all_goals try omega
def rD (c:UInt8):zY→Option Nat
 |[]=>none
 |x::r=>if x=c then some 0 else(rD c r).map (· +1)
def Ex (l:zY):Int:=match rD 0 l with|some i=>i|none=> -1
def Ye (l:zY) (nl:Bool) (o:cC) (σ:AS) (m:Nat) (fr:Fr) (d:AS):Prop:=
 ∃i:Nat,m=l.length-i∧i≤l.length∧rD 0 l=(rD 0 (l.drop i)).map (· +i)∧d=σ∧
  fr=iO [(0,.ao 5 (l.map u8) o nl),(1,.sc (.int .u8 0)),(7,zI l.length),(8,zI i)]
theorem gg (l:zY) (nl:Bool) (o:cC) (hl:l.length≤140737488355328) (σ:AS):ad prog 248 [.ao 5 (l.map u8) o nl,.sc (.int .u8 0)] σ (ah (zI (Ex l)) σ) No:=by
 refine ad.ob func248 ?_;refine gO aa tI tI ?_;refine aq.dc (Ye l nl o σ) (k0:=l.length) ⟨0,by omega,by omega,by simp,rfl,rfl⟩ (aN.mk (by simp)) (lR _) ?_;rintro m fr v ⟨i,hm,w,d,rfl,rfl⟩;by_cases g:i<l.length
 ·obtain⟨c,q,hd,_,_⟩:=gQ l g;obtain⟨_,j⟩:=List.getElem?_eq_some_iff.1 q;have n:((i:Int)<l.length)=True:=by simp;omega
  rw[hd]at d;simp only[rD]at d;by_cases c0:c=0
  ·subst c0;simp at d;refine gO aa (j3 n g @j) tI ?_;simp[Ex,d]
  ·have u:((0:Int)=(c.toNat:Int))=False:=by simp;intro h;apply c0;apply UInt8.toNat_inj.1;simp;omega
   simp only[c0,if_false]at d;refine gO aa (j4 n g @j @u) tI ?_;refine⟨m-1,_,_,by omega,aN.mk ?_,lR _,i+1,by omega,by omega,?_,rfl,rfl⟩
   ·simp[gW (show i<4000000000000000000 by omega)]
   ·rw[d,Option.map_map];congr 1;funext x;simp;omega
 ·have n:((i:Int)<l.length)=False:=by simp;omega
  have:l.drop i= []:=List.drop_eq_nil_of_le (by omega);rw[this]at d;refine gO aa n tI ?_;simp[Ex,d,rD]
namespace Rg
structure Cl where
 k:Int
 tf:Int
 tt:Int
 hf:Int
 ht:Int
 fl:Int
 a:Int
 b:Int
 c:Int
 r:Bool
def fY (c:Cl):AV:= .agg [aS c.k,aS c.tf,aS c.tt,aS c.hf,aS c.ht,aS c.fl,aS c.a,aS c.b,aS c.c,.sc (.bool c.r)]
structure Sn where
 f:Int
 t:Int
deriving DecidableEq
def I4 (s:Sn):AV:= .agg [zI s.f,zI s.t]
structure Pt where
 k:Int
 p:Int
 s:Sn
def kG (x:Pt):AV:= .agg [zI x.k,zI x.p,zI x.s.f,zI x.s.t]
def fQ (s t:Sn):Bool:=decide (s.f<t.t)&&decide (t.f<s.t)
def mv (s t:Sn):Bool:= !decide (s=t)&&(decide (t.f≤s.f)&&decide (s.t≤t.t))
def fU (s:Sn) (n:Int):Bool:=decide (0≤s.f)&&(decide (s.f<s.t)&&decide (s.t≤n))
def J8 (s t:Sn) (σ:AS):ad prog 259 [I4 s,I4 t] σ (ah (.sc (.bool (fQ s t))) σ) No:=by
 refine ad.ob func259 ?_;simp only[I4,fQ];refine gO aa tI tI ?_;intro id j;refine gO aa tI tI ?_;intro l g h;have d:=aK g
 repeat' (first
  |refine g1 ?_
  |((first|refine g2 ?_);simp-implicitDefEqProofs [d])
  |trivial
  |(with_reducible apply j2)
  |((with_reducible first|apply aq.ret|apply aq.skip|apply aq.exit);try simp-implicitDefEqProofs)
  |((with_reducible first|apply cJ.split|apply bx.split|apply fG.split)<;>(intro i;(try simp-implicitDefEqProofs only[i]);(try simp at i))<;>try simp-implicitDefEqProofs [d]))
 all_goals exact gJ tI
def W4:Program.stoodInHeld prog 295=false:=by kernel_rfl
@[simp] def Xn:Program.eqGuardType prog prog.depth 295=false:=by kernel_rfl
@[simp] def Xl (a b g d:Int):jm prog 8 295 (.agg [zI a,zI b]) (.agg [zI g,zI d])=some (decide (a=g)&&decide (b=d)):=by simp[jm,pS,underlying295,underlying3]
def W5:Program.stoodInHeld prog 300=false:=by kernel_rfl
@[simp] def Xo:Program.eqGuardType prog prog.depth 300=false:=by kernel_rfl
@[simp] def Xm (a b g d:Int):jm prog 8 300 (.agg [zI a,zI b]) (.agg [zI g,zI d])=some (decide (a=g)&&decide (b=d)):=by simp[jm,pS,underlying300,underlying3]
def GL (s t:Sn) (σ:AS):ad prog 225 [I4 s,I4 t] σ (ah (.sc (.bool (mv s t))) σ) No:=by
 obtain⟨a,b⟩:=s;obtain⟨c,d⟩:=t;refine ad.ob func225 ?_;simp only[I4,mv];refine gO aa tI tI ?_;intro id l;refine gO aa tI tI ?_;intro n h i;have g:=aK h
 repeat' (first
  |refine g1 ?_
  |((first|refine g2 ?_);simp-implicitDefEqProofs [g])
  |trivial
  |(with_reducible apply j2)
  |((with_reducible first|apply aq.ret|apply aq.skip|apply aq.exit);try simp-implicitDefEqProofs)
  |((with_reducible first|apply cJ.split|apply bx.split|apply fG.split)<;>(intro j;(try simp-implicitDefEqProofs only[j]);(try simp at j))<;>try simp-implicitDefEqProofs [g]))
 all_goals exact gJ tI
def y9 (s:Sn) (n:Int) (σ:AS):ad prog 219 [I4 s,zI n] σ (ah (.sc (.bool (fU s n))) σ) No:=by
 refine ad.ob func219 ?_;simp only[I4,fU];refine gO aa tI tI ?_;intro id g
 repeat' (first
  |refine g1 ?_
  |((first|(with_reducible first|apply aq.fork|apply aq.region));simp-implicitDefEqProofs)
  |trivial
  |(with_reducible apply j2)
  |((with_reducible first|apply aq.ret|apply aq.skip|apply aq.exit);try simp-implicitDefEqProofs)
  |((with_reducible first|apply cJ.split|apply bx.split|apply fG.split)<;>(intro d;(try simp-implicitDefEqProofs only[d]);(try simp at d))<;>try simp-implicitDefEqProofs))
 all_goals exact gJ tI
def aT (k:Int) (c:Cl):List Pt:= [⟨k,1,⟨c.tf,c.tt⟩⟩,⟨k,2,⟨c.hf,c.ht⟩⟩]++(if c.k=2 then [⟨k,3,⟨c.fl,c.hf⟩⟩]else [])
def MM (l:List Pt):AV:= .ao 302 (l.map kG) .aI false
def wJ (k:Int) (c:Cl) (σ:AS):ad prog 221 [zI k,fY c] σ (ah (MM (aT k c)) σ) No:=by
 refine ad.ob func221 ?_;simp only[fY,MM,aT,aF];refine gO aa tI tI ?_;intro id i;by_cases h:c.k=2
 ·refine gO aa @h tI ?_;intro j d g;refine gO aa tI tI ?_;simp[kG];all_goals exact gJ tI
 ·refine gO aa @h tI ?_;simp[kG];all_goals exact gJ tI
def lj {α:Type}(g:α→Bool) (l:List α):Int:=match l.findIdx? g with|some i=>(i:Int)|none=> -1
def ji {α:Type}{g:α→Bool}{l:List α}{i:Nat}(h:i<l.length) (h1:∀x∈l.take i,g x=false) (d:g l[i]=true):lj g l=i:=by
 have:l.findIdx? g=some i:=by rw[findIdx?_eq_some_iff_getElem];refine⟨h,d,fun j n=> ?_⟩;rw[h1 _ (by rw[mem_take_iff_getElem];exact⟨j,by omega,rfl⟩)];simp
 simp[lj,this]
def jh {α:Type}{g:α→Bool}{l:List α}(h1:∀x∈l,g x=false):lj g l= -1:=by
 have:l.findIdx? g=none:=by rw[findIdx?_eq_none_iff];exact h1
 simp[lj,this]
def jj {α:Type}(g:α→Bool) (l:List α):decide (0≤lj g l)=l.any g:=by
 unfold lj;cases h:l.findIdx? g with
 |none=>rw[findIdx?_eq_none_iff]at h;simp;exact h
 |some i=>rw[findIdx?_eq_some_iff_getElem]at h;obtain⟨h1,d,_⟩:=h;simp;exact⟨_,getElem_mem h1,d⟩
def fZ {α:Type}{g:α→Bool}{l:List α}{i:Nat}(h:i<l.length) (h1:∀x∈l.take i,g x=false) (j:g l[i]=false):∀x∈l.take (i+1),g x=false:=by
 intro x d;rw[take_succ_eq_append_getElem h]at d;rcases mem_append.1 d with d|d
 ·exact h1 x d
 ·simp at d;rw[d];exact j
def gg (l:List Pt) (o:cC) (nl:Bool) (u:AV) (g:Pt→Bool) (σ:AS) (hl:l.length≤140737488355328) (hf:∀x∈l,mM prog σ u [kG x] (.sc (.bool (g x)))):
 ad prog 260 [.ao 302 (l.map kG) o nl,u] σ (ah (zI (lj g l)) σ) No:=by
 refine ad.ob func260 ?_;refine gO aa tI tI ?_;refine aq.aQ (α:=(Nat)) (0) (fun i=>l.length-i) (fun i=>i≤l.length∧ ∀x∈l.take i,g x=false) [(0,?_),(1,?_),(7,?_)] (fun i=> [(8,zI i)]) (fun i=>σ) ?_ ?_ ?_ ?_;rotate_left 3
 ·exact gF tI
 ·exact gT
 ·(try dsimp only)<;>first|exact trivial|exact⟨by omega,rfl⟩|omega|(simp;done)|exact⟨by omega,by simp⟩|exact⟨by omega,by simp,rfl⟩
 intro i j;try dsimp only at j⊢
 obtain⟨v,q⟩:=j;simp only[eZ];by_cases d:i<l.length
 ·have h:zW ((i:Int)+1)=((i+1:Nat):Int):=bQ (by omega);have hu:=(hf l[i] (getElem_mem d));simp only[kG]at hu;cases n:g l[i]with
  |true=>
   rw[n]at hu;rw[ji d q n];repeat (first
    |refine g1 ?_
    |((first|refine g2 ?_ |((with_reducible apply ag.id);first|apply (hu.use)));simp-implicitDefEqProofs [d,kG])
    |(refine g3 ?_;try simp-implicitDefEqProofs))
  |false=>
   rw[n]at hu;repeat (first
    |refine g1 ?_
    |((first|refine g2 ?_ |((with_reducible apply ag.id);first|apply (hu.use)));simp-implicitDefEqProofs [d,kG,h])
    |(refine g3 ?_;try simp-implicitDefEqProofs))
   refine gB (i+1) gT ?_;try dsimp only
   exact⟨d,fZ d q n⟩
 ·rw[jh (by rwa [take_of_length_le (by omega)]at q)];exact gE aa (j2 d @aH) tI
def fp (l:List Pt) (o:cC) (nl:Bool) (d:AV) (g:Pt→Bool) (σ:AS) (hl:l.length≤140737488355328) (hf:∀x∈l,mM prog σ d [kG x] (.sc (.bool (g x)))):
 ad prog 223 [.ao 302 (l.map kG) o nl,d] σ (ah (.sc (.bool (l.any g))) σ) No:=by
 have h:=gg l o nl d g σ hl hf;rw[←jj];refine ad.ob func223 ?_;exact gE aa tI @h
abbrev pD:bW:=(.R 0 (.U 1 (.R 2 (.U 3 (.A 4 .D .Z)))))
def Fc (S:List Nat):bH prog [(5,pD)] S:=mixed
def Nt (f:Nat):AV:= .sc (.func (.func f) #[] #[])
def H0 (a b:Pt) (f l j:Nat) (may:Pt→Pt→Bool) (hm:∀σ x y,ad prog f [kG x,kG y] σ (ah (.sc (.bool (may x y))) σ) No) (σ:AS)
 (h1:σ l=some (.cells 302 (kG a).cells)) (o:σ j=some (.cells 303 [Nt f])):
 ad prog 258 [kG b,.ptr l 0,.ptr j 0] σ (ah (.sc (.bool (fQ a.s b.s&& !may a b))) σ) No:=by
 have h:=fun σ=>J8 a.s b.s σ;have n:=fun σ=>hm σ a b;simp only[kG,Nt,I4,aR]at h1 o h n⊢;refine ad.ob func258 ?_;refine gO aa tI tI ?_;intro id i;have g:¬l=id:=nq h1 i;have d:¬j=id:=nq o i;cases q:fQ a.s b.s with
 |true=>rw[q]at h;refine gO aa (j4 g @h1 d @o) (j2 @h @n) ?_;all_goals exact gJ tI
 |false=>rw[q]at h;refine gO aa (j4 g @h1 d @o) (j2 @h @n) ?_;all_goals exact gJ tI
def H2 (a:Pt) (m:List Pt) (o:cC) (nl:Bool) (hl:m.length≤140737488355328) (f j h:Nat) (may:Pt→Pt→Bool) (hm:∀σ x y,ad prog f [kG x,kG y] σ (ah (.sc (.bool (may x y))) σ) No) (σ:AS)
 (h1:σ j=some (.cells 297 [.ao 302 (m.map kG) o nl])) (n:σ h=some (.cells 303 [Nt f])):
 ad prog 257 [kG a,.ptr j 0,.ptr h 0] σ (ah (.sc (.bool (m.any fun b=>fQ a.s b.s&& !may a b))) σ) No:=by
 have q:=fun id (u:σ id=none) (l:¬h=id)=>fp m o nl (.fn (.func 258) [] [.ptr id 0,.ptr h 0]) (fun b=>fQ a.s b.s&& !may a b) (σ.set id (.cells 302 (kG a).cells)) hl
  (fun x _ =>mM.fn (H0 a x f id h may hm _ (by simp) (by simp[l,n])))
 simp only[kG,Nt,aR]at h1 n q⊢;refine ad.ob func257 ?_;refine gO aa tI tI ?_;intro id i;have g:¬j=id:=nq h1 i;have d:¬h=id:=nq n i;refine gO aa (j2 g @h1) (q id i d) ?_;all_goals exact gJ tI
def fT (l m:List Pt) (may:Pt→Pt→Bool):Bool:=l.any fun a=>m.any fun b=>fQ a.s b.s&& !may a b
def xD (l m:List Pt) (u n:cC) (n1 n2:Bool) (hl:l.length≤140737488355328) (o:m.length≤140737488355328) (f:Nat) (may:Pt→Pt→Bool) (hm:∀σ x y,ad prog f [kG x,kG y] σ (ah (.sc (.bool (may x y))) σ) No) (σ:AS):
 ad prog 220 [.ao 302 (l.map kG) u n1,.ao 302 (m.map kG) n n2,Nt f] σ (ah (.sc (.bool (fT l m may))) σ) No:=by
 have v:=fun id h (q:¬id=h)=>fp l u n1 (.fn (.func 257) [] [.ptr id 0,.ptr h 0]) (fun a=>m.any fun b=>fQ a.s b.s&& !may a b)
  ((σ.set id (.cells 297 [.ao 302 (m.map kG) n n2])).set h (.cells 303 [Nt f])) hl
  (fun x _ =>mM.fn (H2 x m n n2 o f id h may hm _ (by simp[q]) (by simp)))
 simp only[Nt]at v⊢;refine ad.ob func220 ?_;refine gO aa tI tI ?_;intro id j;refine gO aa tI tI ?_;intro h d i;have g:=aK d;refine gO aa tI (v id h g) ?_;refine⟨Wk.refl _,an ?_ (an j (lR _))⟩;simp[i,d]
def rp (a b:Pt):Bool:=decide (a.k=b.k)&&decide (a.p=b.p)
def Je (σ:AS) (a b:Pt):ad prog 222 [kG a,kG b] σ (ah (.sc (.bool (rp a b))) σ) No:=by refine ad.ob func222 ?_;simp only[kG,rp];refine gO aa tI tI ?_;intro id h;refine gO aa tI tI ?_;intro i d g;refine gO aa d tI ?_;all_goals exact gJ tI
def J2 (σ:AS) (a b:Pt):ad prog 228 [kG a,kG b] σ (ah (zB false) σ) No:=by refine ad.ob func228 ?_;simp only[kG];refine gO aa tI tI ?_;intro id h;refine gO aa tI tI ?_;intro i d g;refine gO aa tI tI ?_;all_goals exact gJ tI
def IJ (σ:AS) (a b:Pt):ad prog 227 [kG a,kG b] σ (ah (.sc (.bool (decide (a.p=1)&&decide (b.p=1)))) σ) No:=by
 refine ad.ob func227 ?_;simp only[kG];refine gO aa tI tI ?_;intro id j;refine gO aa tI tI ?_;intro l g h;have d:=aK g
 repeat' (first
  |refine g1 ?_
  |((first|refine g2 ?_);simp-implicitDefEqProofs [d])
  |trivial
  |(with_reducible apply j2)
  |((with_reducible first|apply aq.ret|apply aq.skip|apply aq.exit);try simp-implicitDefEqProofs)
  |((with_reducible first|apply cJ.split|apply bx.split|apply fG.split)<;>(intro i;(try simp-implicitDefEqProofs only[i]);(try simp at i))<;>try simp-implicitDefEqProofs))
 all_goals exact gJ tI
def KO (x y:Pt) (id:Nat) (σ:AS) (h1:σ id=some (.cells 302 (kG x).cells)):
 ad prog 224 [kG y,.ptr id 0] σ (ah (.sc (.bool (!mv y.s x.s))) σ) No:=by
 have hw:=fun σ=>GL y.s x.s σ;simp only[kG,I4,aR]at h1 hw⊢;refine ad.ob func224 ?_;refine gO aa tI tI ?_;intro h g;have d:¬id=h:=nq h1 g;refine gO aa (j2 d @h1) @hw ?_;all_goals exact gJ tI
def KN (x y:Pt) (id:Nat) (σ:AS) (h1:σ id=some (.cells 302 (kG x).cells)):
 ad prog 226 [kG y,.ptr id 0] σ (ah (.sc (.bool (!decide (y.p=1)&&decide (y.s.f=x.s.f)))) σ) No:=by
 simp only[kG,aR]at h1⊢;refine ad.ob func226 ?_;refine gO aa tI tI ?_;intro h g;have d:¬id=h:=nq h1 g
 repeat' (first
  |refine g1 ?_
  |((first|refine g2 ?_);simp-implicitDefEqProofs)
  |trivial
  |(with_reducible apply j2)
  |((with_reducible first|apply aq.ret|apply aq.skip|apply aq.exit);try simp-implicitDefEqProofs)
  |((with_reducible first|apply cJ.split|apply bx.split|apply fG.split)<;>(intro i;(try simp-implicitDefEqProofs only[i]);(try simp at i))<;>try simp-implicitDefEqProofs [d,h1]))
 all_goals exact gJ tI
def bz (n:Int) (c:Cl):Int:=
 if (decide (c.k<1)||(decide (4<c.k)||(!fU ⟨c.tf,c.tt⟩ n|| !fU ⟨c.hf,c.ht⟩ n)))=true then 3 else
 if ((decide (c.k=2)&&(decide (c.fl<0)||decide (c.hf≤c.fl)))||(!decide (c.k=2)&& !decide (c.fl= -1)))=true then 3 else
 if fT (aT 0 c) (aT 0 c) rp=true then 12 else 0
def Ls (n:Int) (c:Cl) (σ:AS):ad prog 178 [zI n,fY c] σ (ah (zI (bz n c)) σ) No:=by
 have h1:=fun σ=>y9 ⟨c.tf,c.tt⟩ n σ;have i:=fun σ=>y9 ⟨c.hf,c.ht⟩ n σ;have h:=fun σ=>wJ 0 c σ;have g:(aT 0 c).length≤140737488355328:=by simp[aT];split<;>simp
 have d:=fun σ=>xD (aT 0 c) (aT 0 c) .aI .aI false false g g 222 rp Je σ;simp only[fY,I4,aF,MM,Nt,bz]at h1 i h d⊢;generalize fU ⟨c.tf,c.tt⟩ n=u at*;generalize fU ⟨c.hf,c.ht⟩ n=q at*;generalize fT (aT 0 c) (aT 0 c) rp=o at*;generalize (aT 0 c).map kG=L at*;generalize c.k=k at*;generalize c.fl=fl at*;refine ad.ob func178 ?_;refine gO Fc tI tI ?_;intro id l;cases u<;>cases q<;>cases o;all_goals
  repeat' (first
   |refine g1 ?_
   |((first|(with_reducible first|apply aq.fork|apply aq.region)|((with_reducible apply dX 5 pD);refine dY mixed ?_)|((with_reducible apply ag.id);first|apply ag.ay (h1 _)|apply ag.ay (i _)|apply ag.ay (h _)|apply ag.ay (d _))|((with_reducible apply aD.id);first|apply aD.ay (fun _ =>h1 _)|apply aD.ay (fun _ =>i _)|apply aD.ay (fun _ =>h _)|apply aD.ay (fun _ =>d _)));simp-implicitDefEqProofs)
   |trivial
   |(with_reducible apply j2)
   |((with_reducible first|apply aq.ret|apply aq.skip|apply aq.exit);try simp-implicitDefEqProofs)
   |((with_reducible first|apply cJ.split|apply bx.split|apply fG.split)<;>(intro j;(try simp-implicitDefEqProofs only[j]);(try simp at j))<;>try simp-implicitDefEqProofs))
  all_goals exact gJ tI
abbrev pC:bW:=(.R 0 (.U 1 (.R 2 (.U 3 (.S 4 (.S 5 .D))))))
abbrev pB:bW:=(.S 0 (.S 1 (.S 2 (.S 4 (.S 5 (.S 6 (.R 3 (.R 7 (.S 8 .D)))))))))
def fD (S:List Nat):bH prog [(1,pC),(9,pB)] S:=mixed
def px (a b:Pt):Bool:=decide (a.p=1)&&decide (b.p=1)
def OI (_ _ :Pt):Bool:=false
def kX (l:List Pt) (x:Pt):Bool:= !l.any fun y=> !mv y.s x.s
def dA (a b:Cl):Bool:=
 match (aT 1 b).find? (kX (aT 0 a))with
 |some x=>decide (x.p=1)|| !(aT 0 a).any (fun y=> !decide (y.p=1)&&decide (y.s.f=x.s.f))
 |none=>if (decide (a.tf=b.tf)&&decide (a.tt=b.tt))=true then !fT (aT 0 a) (aT 1 b) px else !fT (aT 0 a) (aT 1 b) OI
def yY (k:Int) (c:Cl):(aT k c).length≤3:=by simp[aT];split<;>simp
def NA {α:Type}{g:α→Bool}{l:List α}{i:Nat}(h:i<l.length) (h1:∀x∈l.take i,g x=false) (d:g l[i]=true):l.find? g=some l[i]:=by rw[find?_eq_some_iff_getElem];refine⟨d,i,h,rfl,fun j n=> ?_⟩;rw[h1 _ (by rw[mem_take_iff_getElem];exact⟨j,by omega,rfl⟩)];rfl
def Nz {α:Type}{g:α→Bool}{l:List α}(h1:∀x∈l,g x=false):l.find? g=none:=by rw[find?_eq_none];intro x d;rw[h1 x d];simp
def qF (a b:Cl) (σ:AS):ad prog 179 [fY a,fY b] σ (ah (.sc (.bool (dA a b))) σ) No:=by
 have hp:=fun σ=>wJ 0 a σ;have Y:=fun σ=>wJ 1 b σ;have hl:=yY 0 a;have hm:=yY 1 b;have Q:0<(aT 0 a).length:=by simp[aT]
 have P:0<(aT 1 b).length:=by simp[aT]
 have e0:(aT 0 a)[0]'Q=⟨0,1,⟨a.tf,a.tt⟩⟩:=rfl;have e1:(aT 1 b)[0]'P=⟨1,1,⟨b.tf,b.tt⟩⟩:=rfl;have u:=fun σ=>xD (aT 0 a) (aT 1 b) .aI .aI false false (by omega) (by omega) 227 px IJ σ;have q:=fun σ=>xD (aT 0 a) (aT 1 b) .aI .aI false false (by omega) (by omega) 228 OI J2 σ;have hw:=fun(x:Pt) id (σ:AS) h=>fp (aT 0 a) .aI false (.fn (.func 224) [] [.ptr id 0]) (fun y=> !mv y.s x.s) σ (by omega) (fun y _ =>mM.fn (first:= []) (args:= [kG y]) (cap:= [.ptr id 0]) (KO x y id σ h));have hb:=fun(x:Pt) id (σ:AS) h=>fp (aT 0 a) .aI false (.fn (.func 226) [] [.ptr id 0]) (fun y=> !decide (y.p=1)&&decide (y.s.f=x.s.f)) σ (by omega) (fun y _ =>mM.fn (first:= []) (args:= [kG y]) (cap:= [.ptr id 0]) (KN x y id σ h));unfold dA;simp only[fY,aF,MM,Nt]at hp Y u q⊢;have T:∀x,((aT 0 a).any fun y=> !mv y.s x.s)= !kX (aT 0 a) x:=fun x=>by simp[kX]
 simp only[T]at hw;generalize aT 0 a=l at*;generalize aT 1 b=m at*;generalize fT l m px=b1 at*;generalize fT l m OI=b2 at*;refine ad.ob func179 ?_;refine gO fD tI tI ?_;intro id J;refine gO fD tI tI ?_;intro ap g v;have d:=aK g;obtain⟨B,M,L,K,af,E⟩:=FP σ (.cells 158 [zI a.k,zI a.tf,zI a.tt,zI a.hf,zI a.ht,zI a.fl,zI a.a,zI a.b,zI a.c,.sc (.bool a.r)]) (.cells 158 [zI b.k,zI b.tf,zI b.tt,zI b.hf,zI b.ht,zI b.fl,zI b.a,zI b.b,zI b.c,.sc (.bool b.r)]) J v d;simp only[M];clear M;have hle:AS.le σ B:=E B fun _ _ _ _ h=>h;refine gO fD (j2 @L @K) (j2 @hp @Y) ?_;refine aq.aQ (α:=(Nat)) (0) (fun i=>m.length-i) (fun i=>i≤m.length∧ ∀x∈m.take i,kX l x=false) [(5,?_),(6,?_),(14,?_),(15,?_)] (fun i=> [(16,zI i)]) (fun i=>B) ?_ ?_ ?_ ?_;rotate_left 4
 ·exact gF tI
 ·exact gT
 ·(try dsimp only)<;>first|exact trivial|exact⟨by omega,rfl⟩|omega|(simp;done)|exact⟨by omega,by simp⟩|exact⟨by omega,by simp,rfl⟩
 intro i F;try dsimp only at F⊢
 obtain⟨hi,X⟩:=F;simp only[eZ];by_cases j:i<m.length
 ·have w:zW ((i:Int)+1)=((i+1:Nat):Int):=bQ (by omega);have o:=hw m[i];have I:=hb m[i];cases O:kX l m[i]with
  |true=>
   rw[NA j X O];dsimp only;rw[O]at o;generalize G:m[i]=x at*;by_cases H:x.p=1
   ·refine gO fD (j4 j @G @kG.eq_1 @aH) tI ?_;intro id3 n;refine gO fD (j2 @H @kG.eq_1) @o ?_;all_goals exact gJ tI
   ·cases V:l.any (fun y=> !decide (y.p=1)&&decide (y.s.f=x.s.f));all_goals
     rw[V]at I;refine gO fD (j4 j @G @kG.eq_1 @aH) tI ?_;intro id3 n;refine gO fD (j2 @H @kG.eq_1) (j2 @o @I) ?_;all_goals exact gJ tI
  |false=>
   rw[O]at o;generalize G:m[i]=x at*;refine gO fD (j4 j @G @kG.eq_1 @aH) tI ?_;intro id3 n;refine gO fD (j2 @w @kG.eq_1) @o ?_;refine gB (i+1) (by(try dsimp only);exact an n (lR _)) ?_;try dsimp only
   exact⟨j,fZ j X (by rw[G];exact O)⟩
 ·rw[Nz (by rwa [take_of_length_le (by omega)]at X)]
  repeat' (first
   |refine g1 ?_
   |((first|refine g2 ?_ |((with_reducible apply dX 1 pC);refine dY mixed ?_)|((with_reducible apply dX 9 pB);refine dY mixed ?_)|((with_reducible apply ag.id);first|apply ag.ay (u _)|apply ag.ay (q _))|((with_reducible apply aD.id);first|apply aD.ay (fun _ =>u _)|apply aD.ay (fun _ =>q _)));simp-implicitDefEqProofs [j,kG,Q,P,e0,e1])
   |trivial
   |(with_reducible apply j2)
   |((with_reducible first|apply aq.ret|apply aq.skip|apply aq.exit);try simp-implicitDefEqProofs)
   |((with_reducible first|apply cJ.split|apply bx.split|apply fG.split)<;>(intro hc;(try simp-implicitDefEqProofs only[hc]);(try simp at hc))<;>try simp-implicitDefEqProofs [j,kG,Q,P,e0,e1,aH,lW,g,d,L,K]))
  all_goals exact gJ tI
def vb (l:List Cl) (o:cC) (nl:Bool):AV:= .ao 158 (l.map fY) o nl
def rJ (d:Cl→Int) (g:Cl→Cl→Bool):List Cl→List Cl→Int×Int
 | _,[]=>(0,0)
 |pre,c::r=>if d c=0 then(if pre.all (fun a=>g a c)=true then rJ d g (pre++ [c]) r else((pre.length:Int),12))else((pre.length:Int),d c)
def b7 (g:Cl→Int) (d:Cl→Cl→Bool) (l:List Cl):Int×Int:=if 6<l.length then(0,4)else rJ g d [] l
def aL (c:Cl):fY c= .agg [zI c.k,zI c.tf,zI c.tt,zI c.hf,zI c.ht,zI c.fl,zI c.a,zI c.b,zI c.c,.sc (.bool c.r)]:=rfl
def xE (n:Int) (l:List Cl) (o:cC) (nl:Bool) (hl:l.length≤140737488355328) (σ:AS):
 ad prog 125 [zI n,vb l o nl] σ (ah (.bI [zI ((b7 (bz n) dA l).1),zI ((b7 (bz n) dA l).2)]) σ) No:=by
 have ha:=fun c σ=>Ls n c σ;have hf:=fun a c σ=>qF a c σ;unfold b7;simp only[vb,aL]at ha hf⊢;generalize bz n=Q at*;generalize dA=I at*;refine ad.ob func125 ?_;by_cases X:6<l.length
 ·have H:(6<(l.length:Int))=True:=by simp;omega
  exact gE aa (j2 @X @H) tI
 ·have H:(6<(l.length:Int))=False:=by simp;omega
  rw[if_neg X];refine gO aa @H tI ?_;refine aq.aQ (α:=(Nat)) (0) (fun i=>l.length-i) (fun i=>i≤l.length∧rJ Q I [] l=rJ Q I (l.take i) (l.drop i)) [(0,?_),(1,?_),(14,?_),(15,?_)] (fun i=> [(16,zI i)]) (fun i=>σ) ?_ ?_ ?_ ?_;rotate_left 4
  ·exact gF tI
  ·exact gT
  ·(try dsimp only)<;>first|exact trivial|exact⟨by omega,rfl⟩|omega|(simp;done)|exact⟨by omega,by simp⟩|exact⟨by omega,by simp,rfl⟩
  intro i j;try dsimp only at j⊢
  obtain⟨hi,w⟩:=j;simp only[eZ];by_cases q:i<l.length
  ·have J:zW ((i:Int)+1)=((i+1:Nat):Int):=bQ (by omega);rw[drop_eq_getElem_cons q]at w;simp only[rJ,length_take]at w;have L:=ha l[i];generalize P:l[i]=c at*;by_cases h0:Q c=0
   ·rw[if_pos h0]at w;refine gO aa (j4 q @P @aL @aH) tI ?_;intro id v;refine gO aa @h0 @L ?_;refine aq.aQ (α:=(Nat)) (0) (fun k=>i-k) (fun k=>k≤i∧ ∀x∈l.take k,I x c=true) [(0,?_),(1,?_),(6,?_),(7,?_),(8,?_),(14,?_),(15,?_),(16,?_),(17,?_),(18,?_),(19,?_),(20,?_),(21,?_),(22,?_),(23,?_),(24,?_),(25,?_),(26,?_),(27,?_),(28,?_),(29,?_),(30,?_),(31,?_)] (fun k=> [(32,zI k)]) (fun k=>σ.set id (.cells 158 (fY c).cells)) ?_ ?_ ?_ ?_;rotate_left 23
    ·exact gF tI
    ·exact gT
    ·(try dsimp only)<;>first|exact trivial|exact⟨by omega,rfl⟩|omega|(simp;done)|exact⟨by omega,by simp⟩|exact⟨by omega,by simp,rfl⟩
    intro k j;try dsimp only at j⊢
    obtain⟨hk,V⟩:=j;simp only[eZ];by_cases T:k<i
    ·have E:zW ((k:Int)+1)=((k+1:Nat):Int):=bQ (by omega);have y:=hf l[k] c;have G:k<min i l.length:=by omega
     generalize hd:l[k]=d at*;refine gO aa (j4 @hd @aL @G @aH) tI ?_;intro Y g u;cases M:I d c with
     |true=>
      rw[M]at y;refine gO aa (j2 g @E) @y ?_;refine gB (k+1) (by(try dsimp only);exact an (by simp[g,u]) (lR _)) ?_;try dsimp only
      refine⟨by omega,fun x F=> ?_⟩;rw[take_succ_eq_append_getElem (by omega)]at F;rcases mem_append.1 F with F|F
      ·exact V x F
      ·simp at F;rw[F,hd];exact M
     |false=>
      rw[M]at y;have O:¬(l.take i).all (fun a=>I a c)=true:=by intro h;rw[all_eq_true]at h;have:=h d (by rw[mem_take_iff_getElem];exact⟨k,by omega,hd⟩);rw[M]at this;cases this
      rw[if_neg O,show min i l.length=i by omega]at w;rw[w];refine gO aa (j2 g @E) @y ?_;refine an ?_ (an v (lR _));simp[g,u]
    ·have K:(l.take i).all (fun a=>I a c)=true:=by rw[all_eq_true];intro x F;exact V x (by rwa [show k=i by omega])
     rw[if_pos K]at w;have G:¬k<min i l.length:=by omega
     refine gO aa (j3 @G @aH @J) tI ?_;refine gB (i+1) (by(try dsimp only);exact an v (lR _)) ?_;try dsimp only
     refine⟨by omega,?_⟩;rw[w,take_succ_eq_append_getElem q,P]
   ·rw[if_neg h0,show min i l.length=i by omega]at w;rw[w];refine gO aa (j4 q @P @aL @aH) tI ?_;intro id v;refine gO aa @h0 @L ?_;all_goals exact gJ tI
  ·rw[drop_eq_nil_of_le (by omega)]at w;rw[w];simp only[rJ];exact gE aa (j2 q @aH) tI
def gj (S:List Nat):bH prog [(3,(.S 0 (.S 2 (.R 1 (.S 4 (.R 3 (.S 5 .D))))))),(5,(.S 0 (.S 2 (.R 1 (.S 4 (.R 3 (.S 5 .D))))))),(7,(.S 0 (.S 2 (.R 1 (.S 4 (.R 3 (.S 5 .D)))))))] S:=mixed
def dw (c:Cl) (p:Int):Sn:=if p=1 then⟨c.tf,c.tt⟩ else if p=2 then⟨c.hf,c.ht⟩ else if c.k=2 then⟨c.fl,c.hf⟩ else⟨0,0⟩
def nN (c:Cl) (p:Int) (σ:AS):ad prog 262 [fY c,zI p] σ (ah (.bI [zI ((dw c p).f),zI ((dw c p).t)]) σ) No:=by
 unfold dw;simp only[aL];refine ad.ob func262 ?_;by_cases h1:p=1
 ·refine gO gj @h1 tI ?_;intro id d;refine gO gj @h1 tI ?_;all_goals exact gJ tI
 by_cases g:p=2
 ·refine gO gj @g tI ?_;intro id d;refine gO gj @g tI ?_;all_goals exact gJ tI
 by_cases h:c.k=2
 ·refine gO gj (j3 @h1 @g @h) tI ?_;intro id d;refine gO gj (j3 @h1 @g @h) tI ?_;all_goals exact gJ tI
 ·refine gO gj (j3 @h1 @g @h) tI ?_;intro id d;refine gO gj (j3 @h1 @g @h) tI ?_;all_goals exact gJ tI
def iJ (s t:Sn):Bool:=decide (s.f<t.t)&&(decide (t.f<s.t)&&(decide (s.f<s.t)&&decide (t.f<t.t)))
def jB (s t:Sn):Bool:=(decide (s.f=0)&&decide (s.t=0))||(decide (t.f≤s.f)&&(decide (s.t≤t.t)&&(decide (t.f<s.f)||decide (s.t<t.t))))
def vA (a b:Cl) (p q:Int) (σ:AS):ad prog 261 [fY a,zI p,fY b,zI q] σ (ah (.sc (.bool (iJ (dw a p) (dw b q)))) σ) No:=by
 have l:=fun σ=>nN a p σ;have h:=fun σ=>nN b q σ;simp only[aL,iJ]at l h⊢;generalize dw a p=s at*;generalize dw b q=t at*;refine ad.ob func261 ?_;refine gO aa tI tI ?_;intro id n;refine gO aa tI tI ?_;intro o g i;have d:=aK g
 repeat' (first
  |refine g1 ?_
  |((first|refine g2 ?_ |((with_reducible apply ag.id);first|apply ag.ay (l _)|apply ag.ay (h _)));simp-implicitDefEqProofs [d])
  |trivial
  |(with_reducible apply j2)
  |((with_reducible first|apply aq.ret|apply aq.skip|apply aq.exit);try simp-implicitDefEqProofs)
  |((with_reducible first|apply cJ.split|apply bx.split|apply fG.split)<;>(intro j;(try simp-implicitDefEqProofs only[j]);(try simp at j))<;>try simp-implicitDefEqProofs))
 all_goals exact gJ tI
def DT (a b:Cl) (p q:Int) (σ:AS):ad prog 263 [fY a,zI p,fY b,zI q] σ (ah (.sc (.bool (jB (dw a p) (dw b q)))) σ) No:=by
 have l:=fun σ=>nN a p σ;have h:=fun σ=>nN b q σ;simp only[aL,jB]at l h⊢;generalize dw a p=s at*;generalize dw b q=t at*;refine ad.ob func263 ?_;refine gO aa tI tI ?_;intro id n;refine gO aa tI tI ?_;intro o g i;have d:=aK g
 repeat' (first
  |refine g1 ?_
  |((first|refine g2 ?_ |((with_reducible apply ag.id);first|apply ag.ay (l _)|apply ag.ay (h _)));simp-implicitDefEqProofs [d])
  |trivial
  |(with_reducible apply j2)
  |((with_reducible first|apply aq.ret|apply aq.skip|apply aq.exit);try simp-implicitDefEqProofs)
  |((with_reducible first|apply cJ.split|apply bx.split|apply fG.split)<;>(intro j;(try simp-implicitDefEqProofs only[j]);(try simp at j))<;>try simp-implicitDefEqProofs))
 all_goals exact gJ tI
def jt (n:Int) (c:Cl):Int:=
 if (decide (c.k<1)||(decide (4<c.k)||(!fU ⟨c.tf,c.tt⟩ n|| !fU ⟨c.hf,c.ht⟩ n)))=true then 3 else
 if ((decide (c.k=2)&&(decide (c.fl<0)||decide (c.hf≤c.fl)))||(!decide (c.k=2)&& !decide (c.fl= -1)))=true then 3 else
 if (iJ (dw c 1) (dw c 2)||(iJ (dw c 1) (dw c 3)||iJ (dw c 2) (dw c 3)))=true then 12 else 0
def G4 (n:Int) (c:Cl) (σ:AS):ad prog 229 [zI n,fY c] σ (ah (zI (jt n c)) σ) No:=by
 have h1:=fun σ=>vA c c 1 2 σ;have i:=fun σ=>vA c c 1 3 σ;have h:=fun σ=>vA c c 2 3 σ;unfold jt;generalize iJ (dw c 1) (dw c 2)=o at*;generalize iJ (dw c 1) (dw c 3)=l at*;generalize iJ (dw c 2) (dw c 3)=j at*;simp only[aL,fU]at h1 i h⊢;refine ad.ob func229 ?_;refine gO aa tI tI ?_;intro id g
 repeat' (first
  |refine g1 ?_
  |((first|(with_reducible first|apply aq.fork|apply aq.region)|((with_reducible apply ag.id);first|apply ag.ay (h1 _)|apply ag.ay (i _)|apply ag.ay (h _)));simp-implicitDefEqProofs)
  |trivial
  |(with_reducible apply j2)
  |((with_reducible first|apply aq.ret|apply aq.skip|apply aq.exit);try simp-implicitDefEqProofs)
  |((with_reducible first|apply cJ.split|apply bx.split|apply fG.split)<;>(intro d;(try simp-implicitDefEqProofs only[d]);(try simp at d))<;>try simp-implicitDefEqProofs))
 all_goals exact gJ tI
end Rg
end Go.Proofs.YtknalmoackcpbaaGreat
