/- The reference of chapter 08: Numbers, Right, Write. -/
import Derived.Test.YtknalmoackcpbaaGreatSv6
set_option maxRecDepth 100000
set_option maxHeartbeats 3200000
set_option linter.all false
open Go Go.AW
namespace Go.Proofs.YtknalmoackcpbaaGreat
namespace Bd
open Tryz
theorem sC (r:R6) (σ:AS):ad prog 200 [dx r] σ (gy (fun o=> .ah 3 ((lN r).map bg) (.tok o) false) 6 σ) No:=by obtain⟨a,b,c,d,e,f⟩:=r;refine ad.ob func200 ?_;simp only[dx];refine gO aa tI tI ?_;intro id n;refine gO aa tI tI ?_;intro o j l;refine gO aa tI tI ?_;refine aW o l (du (by simp[lN,bg])) ?_;exact dP (aw n (lR _)) rfl
def Uq (cls:List R6) (id:Nat) (B:AS) (m:Nat) (fr:Fr) (σ':AS):Prop:=
 ∃i:Nat,m=cls.length-i∧i≤cls.length∧cls.all zZ=(cls.drop i).all zZ∧σ'=B∧
  fr=gD [(1,.ptr id 0),(3,zI i)]
def Ur (cls:List R6) (id:Nat) (B:AS) (i:Nat) (l:List Int) (m:Nat) (fr:Fr) (σ':AS):Prop:=
 ∃k:Nat,m=6-k∧k≤6∧l.all vZ=(l.drop k).all vZ∧σ'=B∧
  fr=gD [(1,.ptr id 0),(3,zI i),(4,.ah 3 (l.map bg) .aJ false),(5,zI k)]
theorem rE (code:zY) (cls:List R6) (F E:cA) (n1 n2:Bool) (hc:code.length≤140737488355328) (hk:cls.length≤140737488355328) (σ:AS):
 ad prog 199 [.agg [.ah 5 (code.map u8) F n1,.ah 221 (cls.map dx) E n2]] σ (aq (.sc (.bool (bP code cls))) σ) No:=by
 refine ad.ob func199 ?_;refine gO aa tI tI ?_;intro id H;by_cases c1:1≤code.length
 ·by_cases c2:code.length≤65535
  ·by_cases c3:cls.length≤6
   ·have D:((code.length:Int)<1)=False:=by simp;omega
    have J:(65535<(code.length:Int))=False:=by simp;omega
    have U:(6<(cls.length:Int))=False:=by simp;omega
    have y:bP code cls=cls.all zZ:=by simp[bP,c1,c2,c3]
    rw[y];refine gO aa (j3 @D @J @U) tI ?_;have o:(σ.set id (.cells 219 [.ah 5 (code.map u8) F n1,.ah 221 (cls.map dx) E n2])) id=some (.cells 219 [.ah 5 (code.map u8) F n1,.ah 221 (cls.map dx) E n2]):=by simp
    have n:AS.le σ (σ.set id (.cells 219 [.ah 5 (code.map u8) F n1,.ah 221 (cls.map dx) E n2])):=aw H (lR _);generalize (σ.set id (.cells 219 [.ah 5 (code.map u8) F n1,.ah 221 (cls.map dx) E n2]))=B at*;refine aA.cz (Uq cls id B) (k0:=cls.length) ⟨0,by omega,by omega,rfl,rfl,rfl⟩ (aP.mk (by simp)) (lR _) ?_;rintro m fr σ' ⟨i,hm,hi,u,rfl,rfl⟩;by_cases O:i<cls.length
    ·obtain⟨r,Z,hd,Y,_⟩:=dK cls O;have K:((i:Int)<cls.length)=True:=by simp;omega
     rw[hd]at u;have v:dx r= .agg [zI r.kd,zI r.ta,zI r.tl,zI r.ha,zI r.hl,zI r.ex]:=rfl;have hn:=fun σ=>sC r σ;have q:=qE r;have S:zZ r=(lN r).all vZ:=rfl;rw[List.all_cons,S]at u;simp only[v]at hn;generalize lN r=l at hn q u;refine gO aa (j4 K @o @Z @v) @hn ?_;intro tk M;refine gO aa (j4 K @o @Z @v) tI ?_;refine aA.cz (Ur cls id σ' i l) (k0:=6) ⟨0,by omega,by omega,rfl,rfl,rfl⟩ (aP.mk (by simp)) (aw M (lR _)) ?_;rintro m2 fr V ⟨k,ak,al,A,rfl,rfl⟩;by_cases w:k<6
     ·obtain⟨x,P,Q,_,_⟩:=dK l (i:=k) (by omega);obtain⟨_,j⟩:=List.getElem?_eq_some_iff.1 P;have I:((k:Int)<6)=True:=by simp;omega
      rw[Q]at A;rw[List.all_cons]at A;by_cases L:x<0
      ·have G:vZ x=false:=by simp[vZ];omega
       refine gO aa (j6 @I @w @q @j @L @aG) tI ?_;simp[u,A,G];exact n
      ·by_cases X:65535<x
       ·have G:vZ x=false:=by simp[vZ];omega
        refine gO aa (j7 @I @w @q @j @L @X @aG) tI ?_;simp[u,A,G];exact n
       ·have G:vZ x=true:=by simp[vZ];omega
        refine gO aa (j7 @I @w @q @j @L @X @aG) tI ?_;refine⟨m2-1,_,_,by omega,aP.mk ?_,lR _,k+1,by omega,by omega,by rw[A,G,Bool.true_and],rfl,rfl⟩;simp[dv (show k<4000000000000000000 by omega)]
     ·have I:((k:Int)<6)=False:=by simp;omega
      have:l.drop k= []:=List.drop_eq_nil_of_le (by omega);rw[this]at A;refine gO aa @I tI ?_;refine⟨m-1,_,_,by omega,aP.mk ?_,lR _,i+1,by omega,by omega,by rw[u,A];simp,rfl,rfl⟩;simp[dv (show i<4000000000000000000 by omega)]
    ·have K:((i:Int)<cls.length)=False:=by simp;omega
     have:cls.drop i= []:=List.drop_eq_nil_of_le (by omega);rw[this]at u;refine gO aa (j2 K @o) tI ?_;simp[u];exact n
   ·have D:((code.length:Int)<1)=False:=by simp;omega
    have J:(65535<(code.length:Int))=False:=by simp;omega
    have U:(6<(cls.length:Int))=True:=by simp;omega
    have y:bP code cls=false:=by simp[bP,c3]
    rw[y];refine gO aa (j3 @D @J @U) tI ?_;all_goals (repeat (first|exact lR _ |refine aw (by simp[*]) ?_))
  ·have D:((code.length:Int)<1)=False:=by simp;omega
   have J:(65535<(code.length:Int))=True:=by simp;omega
   have y:bP code cls=false:=by simp[bP,c2]
   rw[y];refine gO aa (j2 @D @J) tI ?_;all_goals (repeat (first|exact lR _ |refine aw (by simp[*]) ?_))
 ·have D:((code.length:Int)<1)=True:=by simp;omega
  have y:bP code cls=false:=by simp[bP,c1]
  rw[y];refine gO aa @D tI ?_;all_goals (repeat (first|exact lR _ |refine aw (by simp[*]) ?_))
theorem yb (code:zY) (u q:cA) (n1 n2:Bool) (D:bP code []=true) (v:code.length<64) (σ:AS):
 ad prog 153 [.agg [.ah 5 (code.map u8) u n1,.ah 221 [] q n2]] σ
  (gy (fun o=> .cp [.ah 5 ((b8 code []).map u8) (.tok o) false,zI 0]) (b8 code []).length σ) No:=by
 have h1:=fun σ=>rE code [] u q n1 n2 (by omega) (by simp) σ;simp only[List.map_nil]at h1;rw[D]at h1;have E:((code.length:Int)<64)=True:=by simp;omega
 have A:zW (4*(code.length:Int))=4*code.length:=aI (by omega) (by omega);have y:zW (4*(code.length:Int)+2)=4*code.length+2:=aI (by omega) (by omega);have w:IntKind.u8.wrap (4*(code.length:Int)+2)=((UInt8.ofNat (4*code.length+2)).toNat:Int):=by rw[nO];simp
 refine ad.ob func153 ?_;refine gO aa tI tI ?_;intro id n;refine gO aa (j6 @E @A @y @w @underlying3 @underlying5) @h1 ?_;intro o j l;refine gO aa j tI ?_;refine aW o l (du (by simp[b8,v])) ?_;simp[b8,v];exact dP (aw n (lR _)) (by omega)
theorem BP (code:zY) (A y:cA) (n1 n2:Bool) (H:bP code []=true) (G:¬code.length<64) (L:code.length≤65535) (σ:AS):
 ad prog 153 [.agg [.ah 5 (code.map u8) A n1,.ah 221 [] y n2]] σ
  (gy (fun u=> .cp [.ah 5 ((b8 code []).map u8) (.tok u) false,zI 0]) (b8 code []).length σ) No:=by
 have h1:=fun σ=>rE code [] A y n1 n2 (by omega) (by simp) σ;simp only[List.map_nil]at h1;rw[H]at h1;have J:((code.length:Int)<64)=False:=by simp;omega
 have E:IntKind.u64.wrap (code.length:Int)=code.length:=gM (by omega) (by omega);have v:=fun σ=>eN code.length 4 (by omega) (by omega) (by decide) (by decide) σ;have D:=an code.length 4;have I:b8 code []= [3,0,0,0]++aS code.length 4++code:=by simp[b8,G,sM]
 rw[I];have K:Int.toNat 4=4:=rfl;rw[K]at v;refine ad.ob func153 ?_;refine gO aa tI tI ?_;intro id q;refine gO aa @J @h1 ?_;intro u j o;generalize aS code.length 4=pb at D v⊢;refine gO aa (j4 @E @underlying3 @underlying137 j) @v ?_;intro F l n w;refine gO aa (j4 @D j l n) tI ?_;refine aW u o (du (by simp)) ?_;exact aw (by simp[*]) (dP (aw q (lR _)) (by omega))
def Um (id:Nat) (L:zY) (B:AS) (m:Nat) (fr:Fr) (σ':AS):Prop:=
 ∃(l:zY) (j:Nat),pU l=L∧m=(4-l.length%4)%4∧l.length≤L.length∧B j=none∧σ'=B.set j (.tok l.length)∧
  fr=gD [(1,.ptr id 0),(4,.ah 5 (l.map u8) (.tok j) false)]
def Un (cls:List R6) (id:Nat) (L:zY) (B:AS) (m:Nat) (fr:Fr) (σ':AS):Prop:=
 ∃(i:Nat) (j:Nat),m=cls.length-i∧i≤cls.length∧B j=none∧σ'=B.set j (.tok (L++(cls.take i).flatMap kW).length)∧
  fr=gD [(1,.ptr id 0),(4,.ah 5 ((L++(cls.take i).flatMap kW).map u8) (.tok j) false),(5,zI i)]
def Uo (id:Nat) (L:zY) (B:AS) (i:Nat) (l:List Int) (m:Nat) (fr:Fr) (σ':AS):Prop:=
 ∃(k:Nat) (j:Nat),m=6-k∧k≤6∧B j=none∧σ'=B.set j (.tok (L++(l.take k).flatMap (aS · 2)).length)∧
  fr=gD [(1,.ptr id 0),(4,.ah 5 ((L++(l.take k).flatMap (aS · 2)).map u8) (.tok j) false),(5,zI i),(6,.ah 3 (l.map bg) .aJ false),(7,zI k)]
theorem BO (code:zY) (cls:List R6) (J I:cA) (n1 n2:Bool) (hr:bP code cls=true) (P:cls≠ []) (σ:AS):
 ad prog 153 [.agg [.ah 5 (code.map u8) J n1,.ah 221 (cls.map dx) I n2]] σ
  (gy (fun u=> .cp [.ah 5 ((b8 code cls).map u8) (.tok u) false,zI 0]) (b8 code cls).length σ) No:=by
 obtain⟨g1,g2,g3,g4⟩:1≤code.length∧code.length≤65535∧cls.length≤6∧ ∀r∈cls,zZ r=true:=by simpa[bP]using hr
 have h1:=fun σ=>rE code cls J I n1 n2 (by omega) (by omega) σ;rw[hr]at h1;have ay:(cls= [])=False:=by simp[P]
 have bs:(0<cls.length)=True:=by have:=List.length_pos_iff.2 P;simp;omega
 have w1:IntKind.u64.wrap (code.length:Int)=code.length:=gM (by omega) (by omega);have M:=fun σ=>eN code.length 4 (by omega) (by omega) (by decide) (by decide) σ;have hb:=an code.length 4;have h4:Int.toNat 4=4:=rfl;rw[h4]at M;have hW:b8 code cls=pU ([11,0,0,0]++aS code.length 4++code)++ [1,UInt8.ofNat cls.length,0,0]++cls.flatMap kW:=by simp[b8,P,sM]
 rw[hW];generalize A:pU ([11,0,0,0]++aS code.length 4++code)=L;generalize aS code.length 4=pb at hb M A;refine ad.ob func153 ?_;refine gO aa tI tI ?_;intro id ax;have H:((code.length:Int)<64)=True∨((code.length:Int)<64)=False:=by
  by_cases h:(code.length:Int)<64
  ·exact .inl (eq_true h)
  ·exact .inr (eq_false h)
 rcases H with H|H;all_goals
  refine gO aa (j3 @H @ay @bs) @h1 ?_;intro ac o U;refine gO aa (j4 @w1 @underlying3 @underlying137 o) @M ?_;intro cd v w bf;clear M;refine gO aa (j5 @ay @hb o v w) tI ?_;have hB:∀u,¬u=id→σ u=none→(σ.set id (.cells 219 [.ah 5 (code.map u8) J n1,.ah 221 (cls.map dx) I n2])) u=none:=by intro u h1 h2;simp[h1,h2]
  have G:(σ.set id (.cells 219 [.ah 5 (code.map u8) J n1,.ah 221 (cls.map dx) I n2])) id=some (.cells 219 [.ah 5 (code.map u8) J n1,.ah 221 (cls.map dx) I n2]):=by simp
  have a2:AS.le σ (σ.set id (.cells 219 [.ah 5 (code.map u8) J n1,.ah 221 (cls.map dx) I n2])):=aw ax (lR _);have ab:∀u,(σ.set id (.cells 219 [.ah 5 (code.map u8) J n1,.ah 221 (cls.map dx) I n2])) u=none→ ¬u=id∧ ¬id=u∧σ u=none:=by intro u h;simp at h;exact⟨h.1,fun e=>h.1 e.symm,h.2⟩
  have q:=hB ac o U;generalize (σ.set id (.cells 219 [.ah 5 (code.map u8) J n1,.ah 221 (cls.map dx) I n2]))=B at*;have bv:(([11,0,0,0]++pb++code:zY)).length=8+code.length:=by simp[hb];omega
  refine aA.cz (Um id L B) ⟨[11,0,0,0]++pb++code,ac,A,rfl,by rw[←A,mq];omega,q,rfl,rfl⟩ (aP.mk (by simp)) (aw (by simp[*]) (dP (lR _) (by simp[hb];try omega))) ?_;have c1:L.length≤65600:=by rw[←A,mq];omega
  clear bv hb A hW;rintro m fr σ' ⟨l,u,D,hm,hlen,q,rfl,rfl⟩;obtain⟨F,y,_⟩:=ab u q;have e4:((l.length:Int)).tmod 4=((l.length%4:Nat):Int):=by rw[Int.tmod_eq_emod_of_nonneg (by omega)];rfl
  by_cases hz:l.length%4=0
  ·rw[xg l hz]at D;subst D;have a5:(0<(l.length:Int)%4)=False:=by simp;omega
   have w5:IntKind.u8.wrap (cls.length:Int)=((UInt8.ofNat cls.length).toNat:Int):=by rw[nO];simp
   refine gO aa (j7 @e4 @hz @G @y @w5 @underlying3 @underlying5) tI ?_;have a1:(l++ [1,UInt8.ofNat cls.length,0,0]).length≤65604:=by simp;omega
   refine aA.cz (Un cls id (l++ [1,UInt8.ofNat cls.length,0,0]) B) (k0:=cls.length) ⟨0,u,by omega,by omega,q,rfl,rfl⟩ (aP.mk (by simp)) (dP (lR _) (by simp)) ?_;generalize a0:l++ [1,UInt8.ofNat cls.length,0,0]=L at a1⊢;clear hm hz e4 F y hlen w5 a5;rintro m fr σ' ⟨i,u,hm,hi,q,rfl,rfl⟩;obtain⟨F,y,_⟩:=ab u q;by_cases a9:i<cls.length
   ·obtain⟨r,hg,hd,al,O⟩:=dK cls a9;have hI:((i:Int)<cls.length)=True:=by simp;omega
    have ai:dx r= .agg [zI r.kd,zI r.ta,zI r.tl,zI r.ha,zI r.hl,zI r.ex]:=rfl;have hn:=fun σ=>sC r σ;have am:=qE r;have ak:=zX (g4 r al);have hE:kW r=(lN r).flatMap fun n=>aS n 2:=rfl;have hX:(L++(cls.take i).flatMap kW).length≤65676:=by rw[List.length_append,AI,List.length_take];omega
    have Z:L++(cls.take (i+1)).flatMap kW=L++(cls.take i).flatMap kW++(lN r).flatMap fun n=>aS n 2:=by rw[O,List.flatMap_append,←List.append_assoc];simp[hE]
    simp only[ai]at hn;generalize lN r=K at hn am ak Z;generalize L++(cls.take i).flatMap kW=X at hX Z⊢;refine gO aa (j5 hI @hg @ai @G @y) @hn ?_;intro a4 j S;have E:=ba j;refine gO aa tI tI ?_;refine aA.cz (Uo id X B i K) (k0:=6) ⟨0,u,rfl,by omega,q,rfl,rfl⟩ (aP.mk (by simp)) (aw (by simp[*]) (dP (lR _) (by simp))) ?_;clear F y;rintro m2 fr b4 ⟨k,u,ci,cj,q,rfl,rfl⟩;have cv:(X++(K.take k).flatMap (aS · 2)).length≤65700:=by
     have:∀l:List Int,(l.flatMap (aS · 2)).length=2*l.length:=by
      intro l;induction l with
      |nil=>rfl
      |cons a t ih=>simp[an]at ih⊢;omega
     rw[List.length_append,this,List.length_take];omega
    by_cases bb:k<6
    ·obtain⟨x,be,cs,a8,a7⟩:=dK K (i:=k) (by omega);obtain⟨_,ap⟩:=List.getElem?_eq_some_iff.1 be;have hK:((k:Int)<6)=True:=by simp;omega
     obtain⟨x1,x2⟩:=ak x a8;have wx:IntKind.u64.wrap x=x:=gM (by omega) (by omega);have V:X++(K.take (k+1)).flatMap (aS · 2)=X++(K.take k).flatMap (aS · 2)++aS x 2:=by rw[a7,List.flatMap_append,←List.append_assoc];simp
     have M:=fun σ=>eN x 2 (by omega) (by omega) (by decide) (by decide) σ;have h2:Int.toNat 2=2:=rfl;rw[h2]at M;have Q:=an x 2;generalize aS x 2=px at Q M V;generalize X++(K.take k).flatMap (aS · 2)=Y at*;refine gO aa (j8 @hK @bb @am @ap @aG @wx @underlying3 @underlying137) @M ?_;intro a4 j S;have E:=ba j;refine gO aa (j5 @Q o v w j) tI ?_;refine⟨m2-1,_,_,by omega,aP.mk ?_,?_,k+1,u,by omega,by omega,q,rfl,rfl⟩
     ·rw[V];simp[dv (show k<4000000000000000000 by omega)]
     ·rw[V];exact aw (by simp[*]) (dP (lR _) (by simp[Q]))
    ·have hK:((k:Int)<6)=False:=by simp;omega
     have af:K.take k=K:=List.take_of_length_le (by omega);rw[af];rw[←Z];refine gO aa @hK tI ?_;refine⟨m-1,_,_,by omega,aP.mk ?_,dP (lR _) (by simp),i+1,u,by omega,by omega,q,rfl,rfl⟩;simp[dv (show i<4000000000000000000 by omega)]
   ·have hI:((i:Int)<cls.length)=False:=by simp;omega
    have:cls.take i=cls:=List.take_of_length_le (by omega);rw[this];obtain⟨_,_,av⟩:=ab u q;refine gO aa (j3 hI @G @y) tI ?_;refine aW u av (du (by simp[←a0])) ?_;exact dP a2 (by simp[←a0];omega)
  ·have a6:(0<(l.length:Int)%4)=True:=by simp;omega
   refine gO aa (j2 @e4 @a6) tI ?_;refine⟨m-1,_,_,by omega,aP.mk ?_,lR _,l++ [0],u,by rw[xf l hz];exact D,by simp;omega,by rw[←D,mq];simp;omega,q,by simp,rfl⟩;simp
def xB (code:zY) (cls:List R6) (l j:cA) (n1 n2:Bool):AV:= .agg [.ah 5 (code.map u8) l n1,.ah 221 (cls.map dx) j n2]
@[simp] theorem SM:Program.eqGuardType prog prog.depth 221=false:=by kernel_rfl
theorem zl (code:zY) (cls:List R6) (l j:cA) (n1 n2:Bool) (n:bP code cls=true) (σ:AS):
 ad prog 190 [xB code cls l j n1 n2] σ
  (gy (fun u=> .cp [.ah 5 ((b8 code cls).map u8) (.tok u) false,zI 0]) (b8 code cls).length σ) No:=by
 by_cases q:cls= []
 ·subst q;by_cases o:code.length<64
  ·exact zk code l j n1 n2 n o σ
  ·refine Eg code l j n1 n2 n o ?_ σ;simp[bP]at n;omega
 ·exact Ef code cls l j n1 n2 n q σ
theorem Eu (code:zY) (cls:List R6) (l j:cA) (n1 n2:Bool) (n:bP code cls=true) (σ:AS):
 ad prog 153 [xB code cls l j n1 n2] σ
  (gy (fun u=> .cp [.ah 5 ((b8 code cls).map u8) (.tok u) false,zI 0]) (b8 code cls).length σ) No:=by
 by_cases q:cls= []
 ·subst q;by_cases o:code.length<64
  ·exact yb code l j n1 n2 n o σ
  ·refine BP code l j n1 n2 n o ?_ σ;simp[bP]at n;omega
 ·exact BO code cls l j n1 n2 n q σ
theorem yw (e:Int) (σ:AS):ad prog 239 [zB true,zI e] σ (aq (.cp []) σ) No:=by refine ad.ob func239 ?_;exact gE aa tI tI
def RN:AQ:=fun _ _ _ =>False
theorem cr.no:cr RN:=fun _ _ _ _ h=>h
theorem aA.sure {n:Nat}{ds:List Deferred}{c:Code}{K:Fr→AS→Prop}{Q:AQ}{s:Fr}{σ:AS}(h:aA prog n ds c (fD K RN) s σ):aA prog n ds c (fD K Q) s σ:=
 aA.mono h fun e s σ h=>by
  cases e with
  |normal=>exact h
  |exit i=>exact h.elim
  |ret=>exact h.elim
  |panic v=>exact h.elim
end Bd
namespace Im
open Tryz
abbrev gY:dW:=(.S 0 (.S 2 (.S 3 (.S 6 (.S 7 (.R 4 (.U 5 (.R 8 (.U 9 (.R 1 (.S 10 (.A 11 .D .Z))))))))))))
abbrev gW:dW:=(.S 0 (.S 1 (.S 4 (.S 7 (.S 8 (.S 11 (.R 2 (.U 3 (.R 9 (.U 10 (.R 5 (.S 6 (.R 12 (.S 13 (.S 14 (.A 15 (.S 16 (.A 17 .D .Z)) .Z))))))))))))))))
theorem xK (S:List Nat):cu prog [(3,gY),(4,gW)] S:=mixed
open Rg (Cl jg bw)
open Bd (R6 dx yw)
def cC (P:List Int) (c:Cl):R6:=
 ⟨c.k,P.getD c.tf.toNat 0,P.getD c.tt.toNat 0-P.getD c.tf.toNat 0,P.getD c.hf.toNat 0,P.getD c.ht.toNat 0-P.getD c.hf.toNat 0,if c.k=2 then P.getD c.fl.toNat 0 else 0⟩
theorem cr.no:cr Bd.RN:=Bd.cr.no
theorem FH (P:List Int) (o:cA) (nl:Bool) (x:Int) (h0:0≤x) (h1:x<P.length) (hl:P.length≤1000000) (σ:AS):
 ad prog 241 [.ah 3 (P.map bg) o nl,zI x] σ (aq (zI (P.getD x.toNat 0)) σ) No:=by
 obtain⟨n,rfl⟩:∃n:Nat,x=n:=⟨x.toNat,by omega⟩;have hn:n<P.length:=by omega
 have q:P[n]? =some (P.getD n 0):=by rw[List.getD_eq_getElem?_getD,List.getElem?_eq_getElem hn];rfl
 simp only[Int.toNat_natCast];generalize P.getD n 0=v at q⊢;obtain⟨_,l⟩:=List.getElem?_eq_some_iff.1 q;have j:=fun σ=>yw 12 σ;have u:((n:Int)<P.length)=True:=eq_true (by omega);refine ad.ob func241 ?_;exact gE aa (j4 @u @hn @l @aG) @j
theorem FM (x:Int) (σ:AS):ad prog 240 [zI x] σ (aq (.sc (.bool (decide (1≤x∧x≤4)))) σ) No:=by
 refine ad.ob func240 ?_;by_cases h1:1≤x
 ·by_cases j:x≤4
  ·exact gE aa (j2 @h1 @j) tI;all_goals exact gJ (j2 @h1 @j)
  ·exact gE aa (j2 @h1 @j) tI;all_goals exact gJ (j2 @h1 @j)
 ·exact gE aa @h1 tI;all_goals exact gJ @h1
theorem wW (o n:Nat) (σ:AS) (K:AS→Prop) (l:K σ):iA prog 238 [.ptr o 0,.ptr n 0] σ none K:=by
 refine iA.of func238 rfl rfl (by simp[ntmps238]) (by simp[ntmps238]) ?_;refine bQ.sp rfl (iD.K1 (by simp[ntmps238]) underlying316 trivial (by kernel_rfl) rfl ?_);refine bQ.rest ?_;have j:az prog 316=zI 0:=by kernel_rfl
 simp-implicitDefEqProofs [j,ntmps238];refine gO aa tI tI ?_;exact l
structure F5 (P:List Int) (c:Cl):Prop where
 k:1≤c.k∧c.k≤4
 tf:0≤c.tf∧c.tf<P.length
 tt:0≤c.tt∧c.tt<P.length
 hf:0≤c.hf∧c.hf<P.length
 ht:0≤c.ht∧c.ht<P.length
 fl:c.k=2→0≤c.fl∧c.fl+1<P.length
 tl:0<P.getD c.tt.toNat 0-P.getD c.tf.toNat 0
 hl:0<P.getD c.ht.toNat 0-P.getD c.hf.toNat 0
 bd:∀i,0≤P.getD i 0∧P.getD i 0≤65535
theorem KT (P:List Int) (o:cA) (nl:Bool) (c:Cl) (h:F5 P c) (hl:P.length≤1000000) (σ:AS):
 ad prog 188 [.ah 3 (P.map bg) o nl,jg c] σ (aq (.cp [dx (cC P c),.sc (.int .i64 0)]) σ) No:=by
 have Z:=fun x h0 h1 σ=>FH P o nl x h0 h1 hl σ;have L:∀σ,ad prog 240 [.sc (.int .i64 c.k)] σ (aq (.sc (.bool true)) σ) No:=fun σ=>by have:=FM c.k σ;rwa [show decide (1≤c.k∧c.k≤4)=true by simp;exact h.k]at this
 have u:=fun σ=>yw 12 σ;refine ad.z3 func188 rfl rfl (by simp[ntmps188]) (fun G1=> ?_);simp only[bw];apply ss.seq;have ab:f188.ntmps=63:=rfl;simp-implicitDefEqProofs only[ab];refine gO xK tI tI ?_;intro a4 Q;intro a3;intro w O;have l:=ba w;intro id5;intro n v M;have q:=ba n;have E:=ba v;obtain⟨A,af,F,ac,S,ay,K⟩:=O8 σ (.cells 158 [.sc (.int .i64 c.k),.sc (.int .i64 c.tf),.sc (.int .i64 c.tt),.sc (.int .i64 c.hf),.sc (.int .i64 c.ht),.sc (.int .i64 c.fl),.sc (.int .i64 c.a),.sc (.int .i64 c.b),.sc (.int .i64 c.c),.sc (.bool c.r)]) (.cells 221 [.sc (.int .i64 0),.sc (.int .i64 0),.sc (.int .i64 0),.sc (.int .i64 0),.sc (.int .i64 0),.sc (.int .i64 0)]) (.cells 31 [.sc (.int .i64 0)]) Q O M l E q;simp only[af];clear af;apply ss.defer (by simp) (by decide+kernel);intro D;simp-implicitDefEqProofs only[ab];have b1:=h.bd c.tf.toNat;have b2:=h.bd c.tt.toNat;have b3:=h.bd c.hf.toNat;have b4:=h.bd c.ht.toNat;have J:=Z c.tf h.tf.1 h.tf.2;have I:=Z c.tt h.tt.1 h.tt.2;have H:=Z c.hf h.hf.1 h.hf.2;have G:=Z c.ht h.ht.1 h.ht.2;have t1:=h.tl;have t2:=h.hl;have w1:IntKind.i64.wrap (P.getD c.tt.toNat 0-P.getD c.tf.toNat 0)=P.getD c.tt.toNat 0-P.getD c.tf.toNat 0:=aI (by omega) (by omega);have w2:IntKind.i64.wrap (P.getD c.ht.toNat 0-P.getD c.hf.toNat 0)=P.getD c.ht.toNat 0-P.getD c.hf.toNat 0:=aI (by omega) (by omega);have hR:cC P c=⟨c.k,P.getD c.tf.toNat 0,P.getD c.tt.toNat 0-P.getD c.tf.toNat 0,P.getD c.hf.toNat 0,P.getD c.ht.toNat 0-P.getD c.hf.toNat 0,if c.k=2 then P.getD c.fl.toNat 0 else 0⟩:=rfl;generalize P.getD c.tf.toNat 0=p1 at*;generalize P.getD c.tt.toNat 0=p2 at*;generalize P.getD c.hf.toNat 0=p3 at*;generalize P.getD c.ht.toNat 0=p4 at*;refine gO xK @F (j2 @L @u) ?_;have X:p1<p2:=by omega
 have V:p3<p4:=by omega
 apply Bd.aA.sure
 (((with_reducible apply aA.nD (id:=3) (t:=gY));(exact mixed);kernel_rfl;kernel_rfl;(repeat (with_reducible first|apply cr.then|apply cr.block|apply cr.body|apply cr.no)));simp-implicitDefEqProofs [F])
 repeat' (first
  |(with_reducible first|apply aA.seq|apply aA.block|refine j2 (by first|omega|assumption|decide) ?_)
  |((first|(with_reducible first|apply aA.fork|apply aA.region|show dd _ _ _ |show bT _ _ _ _ _ _ _ _ _)|((with_reducible apply aA.nD (id:=3) (t:=gY));(exact mixed);kernel_rfl;kernel_rfl;(repeat (with_reducible first|apply cr.then|apply cr.block|apply cr.body|apply cr.no)))|((with_reducible apply aA.nD (id:=4) (t:=gW));(exact mixed);kernel_rfl;kernel_rfl;(repeat (with_reducible first|apply cr.then|apply cr.block|apply cr.body|apply cr.no)))|((with_reducible apply aj.id);first|apply aj.aL (L _)|apply aj.aL (u _)|apply aj.aL (J _)|apply aj.aL (I _)|apply aj.aL (H _)|apply aj.aL (G _))|((with_reducible apply aM.id);first|apply aM.aL (fun _ =>L _)|apply aM.aL (fun _ =>u _)|apply aM.aL (fun _ =>J _)|apply aM.aL (fun _ =>I _)|apply aM.aL (fun _ =>H _)|apply aM.aL (fun _ =>G _)));simp-implicitDefEqProofs [F,ac])
  |trivial
  |(with_reducible apply j2)
  |((with_reducible first|apply aA.ret|apply aA.skip|apply aA.exit);try simp-implicitDefEqProofs [w1,w2,t1,t2,l,w,n,q,v,E,F,ac,S]))
 apply Bd.aA.sure
 (((with_reducible apply aA.nD (id:=4) (t:=gW));(exact mixed);kernel_rfl;kernel_rfl;(repeat (with_reducible first|apply cr.then|apply cr.block|apply cr.body|apply cr.no)));simp-implicitDefEqProofs [l,F])
 by_cases U:c.k=2
 ·have hf:=h.fl U;have Y:=Z c.fl hf.1 (by omega);have ap:((c.fl:Int)<(P.length:Int)-1)=True:=eq_true (by omega);have am:IntKind.i64.wrap ((P.length:Int)-1)=(P.length:Int)-1:=aI (by omega) (by omega);rw[if_pos U]at hR;generalize P.getD c.fl.toNat 0=p5 at*
  repeat' (first
   |(with_reducible first|apply aA.seq|apply aA.block|refine j2 (by first|omega|assumption|decide) ?_)
   |((first|(with_reducible first|apply aA.fork|apply aA.region|show dd _ _ _ |show bT _ _ _ _ _ _ _ _ _)|((with_reducible apply aA.nD (id:=3) (t:=gY));(exact mixed);kernel_rfl;kernel_rfl;(repeat (with_reducible first|apply cr.then|apply cr.block|apply cr.body|apply cr.no)))|((with_reducible apply aA.nD (id:=4) (t:=gW));(exact mixed);kernel_rfl;kernel_rfl;(repeat (with_reducible first|apply cr.then|apply cr.block|apply cr.body|apply cr.no)))|((with_reducible apply aj.id);first|apply aj.aL (L _)|apply aj.aL (u _)|apply aj.aL (J _)|apply aj.aL (I _)|apply aj.aL (H _)|apply aj.aL (G _)|apply aj.aL (Y _))|((with_reducible apply aM.id);first|apply aM.aL (fun _ =>L _)|apply aM.aL (fun _ =>u _)|apply aM.aL (fun _ =>J _)|apply aM.aL (fun _ =>I _)|apply aM.aL (fun _ =>H _)|apply aM.aL (fun _ =>G _)|apply aM.aL (fun _ =>Y _)));simp-implicitDefEqProofs [w1,w2,X,V,U,ap,am,l,n,F,S])
   |trivial
   |(with_reducible apply j2)
   |((with_reducible first|apply aA.ret|apply aA.skip|apply aA.exit);try simp-implicitDefEqProofs))
  refine wW _ _ _ _ ?_;simp-implicitDefEqProofs [q,hR,dx,U];exact K _ fun j e3 e4 e5 y hj=>by simp[AS.set,e4,e5,hj]
 ·rw[if_neg U]at hR
  repeat' (first
   |(with_reducible first|apply aA.seq|apply aA.block|refine j2 (by first|omega|assumption|decide) ?_)
   |((first|(with_reducible first|apply aA.fork|apply aA.region|show dd _ _ _ |show bT _ _ _ _ _ _ _ _ _)|((with_reducible apply aA.nD (id:=3) (t:=gY));(exact mixed);kernel_rfl;kernel_rfl;(repeat (with_reducible first|apply cr.then|apply cr.block|apply cr.body|apply cr.no)))|((with_reducible apply aA.nD (id:=4) (t:=gW));(exact mixed);kernel_rfl;kernel_rfl;(repeat (with_reducible first|apply cr.then|apply cr.block|apply cr.body|apply cr.no)))|((with_reducible apply aj.id);first|apply aj.aL (L _)|apply aj.aL (u _)|apply aj.aL (J _)|apply aj.aL (I _)|apply aj.aL (H _)|apply aj.aL (G _))|((with_reducible apply aM.id);first|apply aM.aL (fun _ =>L _)|apply aM.aL (fun _ =>u _)|apply aM.aL (fun _ =>J _)|apply aM.aL (fun _ =>I _)|apply aM.aL (fun _ =>H _)|apply aM.aL (fun _ =>G _)));simp-implicitDefEqProofs [w1,w2,X,V,U,l,n,F,S])
   |trivial
   |(with_reducible apply j2)
   |((with_reducible first|apply aA.ret|apply aA.skip|apply aA.exit);try simp-implicitDefEqProofs))
  refine wW _ _ _ _ ?_;simp-implicitDefEqProofs [q,hR,dx];exact K _ fun j e3 e4 e5 y hj=>by simp[AS.set,e4,e5,hj]
theorem da (S:List Nat):cu prog [(12,(.S 0 (.S 1 (.S 2 (.S 3 (.R 4 (.A 5 (.S 6 (.A 7 .D .Z)) .Z)))))))] S:=mixed
open Sg (aE bL)
open Pl (sV)
open Cd (oO kS kV bE cW qd vJ)
open Bd (R6 dx b8 bP xB zl)
def rr (c:Cl):Ty:=⟨c.a,c.b,c.c,c.r⟩
def gI (P:List Int):List Ty→List Cl→List Ty×List R6
 |sp,[]=>(sp,[])
 |sp,c::r=>if c.k=1 then((gI P (jJ sp (rr c)) r).1,{ cC P c with ex:=kU sp (rr c) } ::(gI P (jJ sp (rr c)) r).2)else((gI P sp r).1,cC P c::(gI P sp r).2)
def qz (co w:zY):zY:=if (w.headD 0).toNat%4=3 then co++List.replicate ((4-co.length%4)%4) 0 else co
def tz (sp:List Ty) (m:Mt):List Int:=(bE (ct sp m.code).2).1
def xS (sp:List Ty) (m:Mt):List Ty:=(gI (tz sp m) (ct sp m.code).1 m.cls).1
def Lt (sp:List Ty) (m:Mt):List R6:=(gI (tz sp m) (ct sp m.code).1 m.cls).2
def wP (sp:List Ty) (m:Mt):zY:=(cW (ct sp m.code).2).1
def xR (sp:List Ty) (m:Mt):zY:=b8 (wP sp m) (Lt sp m)
theorem mh:∀(l:List dM) (sp:List Ty),(ct sp l).2.length=l.length∧(ct sp l).1.length≤sp.length+l.length
 |[],sp=>by simp[ct]
 |x::r,sp=>by
  simp only[ct];have h:=lj sp x.t;split
  ·have:=mh r (jJ sp x.t);simp;omega
  ·have:=mh r sp;simp;omega
theorem Hu:∀(l:List dM) (a:Int),(Cd.aK l a).length=l.length+1
 |[],a=>rfl
 |x::r,a=>by simp[Cd.aK,Hu r]
theorem Ht (l:List dM):(bE l).1.length≤161:=by
 unfold bE;split
 ·simp
 ·split
  ·rw[Hu];omega
  ·simp
variable {k:SK} {g:bZ} {d:SD} {T:SR} {B τ:AS}
def To (k:SK) (g:bZ) (d:SD) (T:SR) (B:AS) (m:Mt) (r:AV) (j:AS):Prop:=
 r=zI ((qz d.co (xR d.sp m)).length+1)∧SI k g { d with sp:=xS d.sp m,co:=qz d.co (xR d.sp m)++xR d.sp m } T B j
theorem SI.IH (h:SI k g d T B τ) (m:Mt) (hm:m.code= []):
 ad prog 136 [.ptr k.aF 0,fM m] τ (fun r l=>r=zI 0∧SI k g d T B l) No:=by
 refine ad.ob func136 ?_;simp only[aT,hm];refine gO da tI tI ?_;intro n j;refine gO da tI tI ?_;exact⟨_,_,Wk.refl _,lR _,rfl,(h.own j).drop (AS.ao (lR _) (h.my j))⟩
def iQ (b:zY) (rs:List R6) (j:Nat):cL:= .cells 219 [.ah 5 (b.map u8) .aJ (decide (b= [])),.ah 221 (rs.map dx) (.tok j) (decide (rs= []))]
theorem oK (b:zY) (rs:List R6) (j:Nat):iQ b rs j= .cells 219 [.ah 5 (b.map u8) .aJ (decide (b= [])),.ah 221 (rs.map dx) (.tok j) (decide (rs= []))]:=rfl
theorem qY (b:zY) (rs:List R6) (x:R6) (j:Nat):iQ b (rs++ [x]) j= .cells 219 [.ah 5 (b.map u8) .aJ (decide (b= [])),.ah 221 (rs.map dx++ [dx x]) (.tok j) false]:=by simp[iQ]
theorem SI.eW {C:AS}{j l:Nat}{b:zY}{rs:List R6}(h:SI k g d T ((C.set j (iQ b rs l)).set l (.tok rs.length)) τ) (n:j≠l) (x:R6):
 SI k g d T ((C.set j (iQ b (rs++ [x]) l)).set l (.tok (rs.length+1))) ((τ.set l (.tok (rs.length+1))).set j (iQ b (rs++ [x]) l)):=by
 have h1:=(h.wr (i:=l) (b:= .tok (rs.length+1)) (AS.aD _ _ _)).wr (i:=j) (b:=iQ b (rs++ [x]) l) (by rw[AS.ag _ _ n,AS.ag _ _ n,AS.aD]);rwa [AS.set_set,AS.set_comm (Ne.symm n),AS.set_set]at h1
theorem qU:∀(l:List R6),(l.flatMap Bd.kW).length=12*l.length
 |[]=>rfl
 |r::l=>by have:(Bd.kW r).length=12:=rfl;simp only[List.flatMap_cons,List.length_append,qU l,this,List.length_cons];omega
theorem ru {code:zY}{cls:List R6}(h:bP code cls=true):(b8 code cls).length≤100000:=by
 have h1:code.length≤65535∧cls.length≤6:=by simp only[bP,Bool.and_eq_true,decide_eq_true_eq]at h;omega
 have j:∀c,(Bd.sM c code).length=8+code.length:=fun c=>by simp[Bd.sM,an];omega
 unfold b8;split
 ·split
  ·simp;omega
  ·rw[j];omega
 ·simp only[Bd.pU,List.length_append,List.length_replicate,j,qU,List.length_cons,List.length_nil];omega
theorem GA {a b c:Nat}(h1:a≤100000004) (j:b+1≤100000):a+(b+1)≤140737488355328:=by omega
theorem Mc {a c j n:Nat}{P:Prop}[Decidable P] (l:n=(if P then(4-a%4)%4 else 0)) (o:j≤n) (q:c=a+j) (ha:a≤100000000):c≤100000004:=by split at l<;>omega
theorem OF (n:Nat):((n:Int).tmod 4=0)=(n%4=0):=by have h:((n:Int).tmod 4)=((n%4:Nat):Int):=rfl;rw[h];simp only[eq_iff_iff];omega
theorem MR {a c j l:Nat}(n:l=(4-a%4)%4) (o:j≤l) (q:c=a+j):(j<l→((c:Int).tmod 4=0)=False)∧(¬j<l→((c:Int).tmod 4=0)=True∧j=l):=by rw[OF];refine⟨fun h=>eq_false (by omega),fun h=>⟨eq_true (by omega),by omega⟩⟩
theorem wN (code:zY) (cls:List R6):∃w r,b8 code cls=w::r:=by
 unfold b8;split
 ·split
  ·exact⟨_,_,rfl⟩
  ·exact⟨_,_,rfl⟩
 ·exact⟨_,_,rfl⟩
theorem SI.IG (h:SI k g d T B τ) (m:Mt) (hm:0<m.code.length) (fv:m.code.length≤160) (b5:m.cls.length≤100) (em:m.cn=true→m.code= []) (hC:∀c∈m.cls,F5 (tz d.sp m) c) (hW:bP (wP d.sp m) (Lt d.sp m)=true) (hd:d.sp.length≤80000) (ej:d.co.length≤100000000):
 ad prog 136 [.ptr k.aF 0,fM m] τ (To k g d T B m) No:=by
 have bs:m.cn=false:=by
  cases hc:m.cn with
  |false=>rfl
  |true=>have:=em hc;rw[this]at hm;simp at hm
 have ft:=mh m.code d.sp;refine ad.ob func136 ?_;simp only[aT,bs];have fz:((m.code.length:Int)=0)=False:=eq_false (by omega);have eg:m.code≠ []:=by rintro e;rw[e]at hm;simp at hm
 refine gO da tI tI ?_;intro K a0;have h3:=h.own (b:= .cells 53 (fM m).cells) a0;simp only[aT,bq,bs]at h3;refine gO da @eg tI ?_;have be:=h3.raw m.code hm (by omega) (by omega);simp only[kV]at be;refine aj.of be ?_ (fun _ _ h=>h.elim);rintro r ch ⟨cv,fa,rfl,h4⟩;have c4:=fun σ=>qd (ct d.sp m.code).2 .aJ cv (by omega) σ;have c6:=fun σ=>vJ (ct d.sp m.code).2 .aJ cv (by omega) σ;simp only[kV,Cd.fg,Cd.Oi]at c4 c6;have r3:=h4.le K _ (AS.aD _ _ _);obtain⟨M,h4⟩:∃M,SI k g { d with sp:=(ct d.sp m.code).1 } T (B.set K M) ch:=⟨_,h4⟩;simp-implicitDefEqProofs [kV];refine gO da tI (j2 @c4 @c6) ?_;rw[show(cW (ct d.sp m.code).2).1=wP d.sp m from rfl,show(bE (ct d.sp m.code).2).1=tz d.sp m from rfl];have a8:xS d.sp m=(gI (tz d.sp m) (ct d.sp m.code).1 m.cls).1:=rfl;have a7:Lt d.sp m=(gI (tz d.sp m) (ct d.sp m.code).1 m.cls).2:=rfl;have e0:(tz d.sp m).length≤1000000:=by have:=Ht (ct d.sp m.code).2;unfold tz;omega
 intro n O;have D:¬K=n:=nq r3 O;have S:=ba D;refine aA.sI n 1 221 [] true (ty:=219) (cs:= [.ah 5 ((wP d.sp m).map u8) .aJ (decide (wP d.sp m= [])),.aC]) (by simp) (by simp) (.inr ⟨by simp,rfl,rfl⟩) ?_;simp-implicitDefEqProofs;intro H u ay;have v:=ba u;have G:¬K=H:=nq r3 ay;have ab:=ba G;have h5:=((h4.own (b:=iQ (wP d.sp m) [] H) O).own (i:=H) (b:= .tok 0) (by simpa[AS.set,u]using ay));generalize hP:tz d.sp m=P at*;generalize e9:(ct d.sp m.code).1=b0 at*;generalize hE:wP d.sp m=bb at*;refine gO da (j3 D @r3 G) tI ?_;refine aA.aY (α:=(Nat)×(List Ty)×(List R6)×(AS)) ((0,b0,[],((ch.set n (iQ bb [] H)).set H (.tok 0)))) (fun⟨i,sp,rs,L⟩=>m.cls.length-i) (fun⟨i,sp,rs,L⟩=>i≤m.cls.length∧rs.length=i∧SI k g { d with sp:=sp } T (((B.set K M).set n (iQ bb rs H)).set H (.tok rs.length)) L∧gI P b0 m.cls=((gI P sp (m.cls.drop i)).1,rs++(gI P sp (m.cls.drop i)).2)∧sp.length≤b0.length+i) [(0,?_),(4,?_),(6,?_),(10,?_),(39,?_),(40,?_)] (fun⟨i,sp,rs,L⟩=> [(41,zI i)]) (fun⟨i,sp,rs,L⟩=>L) ?_ ?_ ?_ ?_;rotate_left 6
 ·exact gF tI
 ·(try dsimp only);exact lR _
 ·exact⟨by omega,rfl,h5,by simp,by simp⟩
 intro x_ ap;obtain⟨i,sp,rs,L⟩:=x_;try dsimp only at ap⊢
 obtain⟨hi,c3,hS,hR,e8⟩:=ap;simp only[fm];by_cases ac:i<m.cls.length
 ·have al:IntKind.i64.wrap ((i:Int)+1)=((i+1:Nat):Int):=bh (by omega);rw[List.drop_eq_getElem_cons ac]at hR;simp only[gI]at hR;have eo:=hC m.cls[i] (List.getElem_mem ac);generalize hc:m.cls[i]=c at*;have c2:=fun σ=>KT P .aJ (decide (P= [])) c eo e0 σ;simp only[bw,dx]at c2;have Q:=hS.le n _ (by rw[AS.ag _ _ v,AS.aD]);have rk:=hS.le H _ (AS.aD _ _ _);rw[oK]at Q;refine gO da (j4 ac @hc @bw @ae) tI ?_;intro am E;have A:¬n=am:=nq Q E;have F:¬H=am:=nq rk E;have h6:=hS.own (b:= .cells 158 (jg c).cells) E;simp only[bw,bq]at h6;refine gO da tI @c2 ?_;intro I l Z;have U:L I=none:=by simpa[AS.set,l]using Z
  have o:¬n=I:=nq Q U;have y:¬H=I:=nq rk U;have h7:=h6.own (i:=I) (b:= .cells 221 [zI ((cC P c).kd),zI ((cC P c).ta),zI ((cC P c).tl),zI ((cC P c).ha),zI ((cC P c).hl),zI ((cC P c).ex)]) (by simpa[AS.set,l]using Z);have ei:AS.le (((B.set K M).set n (iQ bb rs H)).set H (.tok rs.length)) (((((B.set K M).set n (iQ bb rs H)).set H (.tok rs.length)).set am (.cells 158 (jg c).cells)).set I (.cells 221 [zI ((cC P c).kd),zI ((cC P c).ta),zI ((cC P c).tl),zI ((cC P c).ha),zI ((cC P c).hl),zI ((cC P c).ex)])):=
   AS.ao (AS.ao (lR _) (hS.my E)) (hS.my U)
  by_cases av:c.k=1
  ·rw[if_pos av]at hR;have ar:=h7.put (rr c) (by simp;omega);simp only[aE,rr]at ar;rw[av]at ar;refine gO da (And.intro (j7 @av u @al A @Q F @rk) (j3 l o y)) tI ?_;refine aj.of ar ?_ (fun _ _ h=>h.elim);rintro r J ⟨rfl,h8⟩;have ec:=h8.le I _ (AS.aD _ _ _);have ci:=h8.le n _ (by rw[AS.ag _ _ o,AS.ag _ _ A,AS.ag _ _ v,AS.aD]);have qk:=h8.le H _ (by rw[AS.ag _ _ y,AS.ag _ _ F,AS.aD]);rw[oK]at ci;simp-implicitDefEqProofs [ec];refine gO da (j6 @ci @qk u @al o y) tI ?_;have h9:=(h8.wr (i:=I) (b:= .cells 221 [zI ((cC P c).kd),zI ((cC P c).ta),zI ((cC P c).tl),zI ((cC P c).ha),zI ((cC P c).hl),zI (kU sp (rr c))]) (AS.aD _ _ _));rw[AS.set_set]at h9;have e4:=(h9.drop (B':=((B.set K M).set n (iQ bb rs H)).set H (.tok rs.length)) (AS.ao (AS.ao (lR _) (hS.my E)) (hS.my U))).eW v { cC P c with ex:=kU sp (rr c) };have f0:=lj sp (rr c);refine aH.mk ((i+1,jJ sp (rr c),rs++ [{ cC P c with ex:=kU sp (rr c) }],((J.set I (.cells 221 [zI ((cC P c).kd),zI ((cC P c).ta),zI ((cC P c).tl),zI ((cC P c).ha),zI ((cC P c).hl),zI (kU sp (rr c))])).set H (.tok (rs.length+1))).set n (iQ bb (rs++ [{ cC P c with ex:=kU sp (rr c) }]) H))) (by(try dsimp only);omega) (gF tI) (by(try dsimp only);(rw[qY];exact lR _)) ?_;try dsimp only
   refine⟨ac,by simp[c3],?_,by rw[hR];simp,by omega⟩;simp only[List.length_append,List.length_singleton];exact e4
  ·rw[if_neg av]at hR;refine gO da (And.intro (j7 @av u @al A @Q F @rk) (j3 l o y)) tI ?_;refine aH.mk ((i+1,sp,rs++ [cC P c],(L.set H (.tok (rs.length+1))).set n (iQ bb (rs++ [cC P c]) H))) (by(try dsimp only);omega) (gF tI) (by(try dsimp only);(rw[qY];exact iM (iM (aw (by simpa[AS.set,l]using U) (aw E (lR _)))))) ?_;try dsimp only
   refine⟨ac,by simp[c3],?_,by rw[hR];simp,by omega⟩;have:=hS.eW v (cC P c);simpa using this
 ·rw[List.drop_eq_nil_of_le (by omega)]at hR;simp only[gI,List.append_nil]at hR;rw[hR]at a8 a7;simp only at a8 a7;rw[a7]at hW;have Q:=hS.le n _ (by rw[AS.ag _ _ v,AS.aD]);rw[oK]at Q;have b2:=fun σ=>zl bb rs .aJ (.tok H) (decide (bb= [])) (decide (rs= [])) hW σ;have a6:xR d.sp m=b8 bb rs:=by unfold xR;rw[hE,a7]
  obtain⟨Y,W0,b3⟩:=wN bb rs;rw[b3]at a6;rw[b3]at b2;simp only[xB]at b2;refine gO da (j3 ac @Q @ae) @b2 ?_;intro tw bv;have e2:=hS.own (b:= .tok (W0.length+1)) bv;have dl:AS.le B ((((B.set K M).set n (iQ bb rs H)).set H (.tok rs.length)).set tw (.tok (W0.length+1))):=by
   have f3:B K=none:=h.my a0;have f10:B n=none:=by simpa[AS.set,S]using h4.my O
   have fk:B H=none:=by simpa[AS.set,ab]using h4.my ay
   have fw:B tw=none:=by
    have:=hS.my bv;rcases Nat.decEq tw K with e3|e3
    ·rcases Nat.decEq tw n with cb|cb
     ·rcases Nat.decEq tw H with ek|ek
      ·simpa[AS.set,e3,cb,ek]using this
      ·rw[ek];exact fk
     ·rw[cb];exact f10
    ·rw[e3];exact f3
   exact AS.ao (AS.ao (AS.ao (AS.ao (lR _) f3) f10) fk) fw
  have e1:=e2.drop dl;generalize (L.set tw (.tok (W0.length+1)))=S0 at*;obtain⟨pd,V,c5⟩:∃pd:Nat,pd=(if Y.toNat%4=3 then(4-d.co.length%4)%4 else 0)∧qz d.co (xR d.sp m)=d.co++List.replicate pd 0:=by refine⟨_,rfl,?_⟩;rw[a6,qz];by_cases h3:Y.toNat%4=3<;>simp[h3]
  refine gO da (j3 D @r3 G) tI ?_;refine aA.aY (α:=(Nat)×(AS)) ((0,S0)) (fun⟨j,J⟩=>pd-j) (fun⟨j,J⟩=>j≤pd∧SI k g { d with sp:=sp,co:=d.co++List.replicate j 0 } T B J) [(0,?_),(4,?_)] (fun⟨j,J⟩=> [(15,.ah 5 ((Y::W0).map u8) .aJ false)]) (fun⟨j,J⟩=>J) ?_ ?_ ?_ ?_;rotate_left 2
  ·exact gF tI
  ·(try dsimp only);exact lR _
  ·exact⟨by omega,by simpa using e1⟩
  intro x_ ap;obtain⟨j,J⟩:=x_;try dsimp only at ap⊢
  obtain⟨hj,af⟩:=ap;simp only[fm];have b5:(d.co++List.replicate j 0).length=d.co.length+j:=by simp
  have c8:d.co++List.replicate (j+1) 0=(d.co++List.replicate j 0)++ [0]:=by rw[List.replicate_succ',List.append_assoc]
  have bf:j=pd→qz d.co (xR d.sp m)=d.co++List.replicate j 0:=fun e=>by rw[c5,e]
  generalize f4:d.co++List.replicate j 0=X at*;have a3:=af.aF;have b6:=af.tC;obtain⟨_,_,_,_,_,ai,_⟩:=af.ne;simp only[eh]at a3;have c9:=Mc V hj b5 ej;have db:=ru hW;rw[b3,List.length_cons]at db;have e7:=GA (c:=0) c9 db;have c1:IntKind.i64.wrap ((X.length:Int)+1)=(X.length:Int)+1:=aI (by clear V hj;omega) (by clear V hj;omega);have ca:IntKind.u8.wrap (oN 8 ((Y.toNat:Nat):Int) 3)=((Y.toNat:Nat):Int)%4:=by have:=Y.toNat_lt;have h1:=A9 (w:=8) (a:=((Y.toNat:Nat):Int)) 2 (by omega) (by omega) (by omega);rw[show((2:Int)^2-1)=3 from rfl,show((2:Int)^2)=4 from rfl]at h1;rw[h1,nO];omega
  have q:¬k.aF=k.tC:=ai;by_cases a2:Y.toNat%4=3
  ·rw[if_pos a2]at V;have a5:(((Y.toNat:Nat):Int)%4=3)=True:=eq_true (by exact_mod_cast a2);obtain⟨ee,ck⟩:=MR V hj b5;by_cases a4:j<pd
   ·have b4:((X.length:Int).tmod 4=0)=False:=ee a4;refine gO da (j6 @a3 @b6 @ca @a5 q @b4) tI ?_;refine aH.mk ((j+1,(J.set k.tC (.tok (X.length+1))).set k.aF (.cells 74 (uz k g { d with sp:=sp,co:=X++ [0] } 0)))) (by(try dsimp only);omega) (gF tI) (by(try dsimp only);exact le_eq (by simp[eh])) ?_;try dsimp only
    refine⟨a4,?_⟩;have:=af.pS (X++ [0]);rw[AS.set_comm q,List.length_append]at this;rw[c8];exact this
   ·have b4:((X.length:Int).tmod 4=0)=True:=(ck a4).1;refine gO da (j6 @a3 @b6 @ca @a5 q @b4) tI ?_;have hz:=af.pS (X++Y::W0);rw[AS.set_comm q,List.length_append]at hz;have ax:=bf (ck a4).2;refine⟨zI ((X.length:Int)+1),(J.set k.tC (.tok (X.length+(W0.length+1)))).set k.aF (.cells 74 (uz k g { d with sp:=sp,co:=X++Y::W0 } 0)),du (by rw[c1]),le_eq (by simp[eh]),?_,?_⟩
    ·rw[ax]
    ·rw[ax,a8,a6];exact hz
  ·rw[if_neg a2]at V;have a5:(((Y.toNat:Nat):Int)%4=3)=False:=eq_false (by exact_mod_cast a2);refine gO da (j5 @a3 @b6 @ca @a5 q) tI ?_;have hz:=af.pS (X++Y::W0);rw[AS.set_comm q,List.length_append]at hz;have ax:=bf (by rw[V]at hj⊢;exact Nat.le_zero.1 hj);refine⟨zI ((X.length:Int)+1),(J.set k.tC (.tok (X.length+(W0.length+1)))).set k.aF (.cells 74 (uz k g { d with sp:=sp,co:=X++Y::W0 } 0)),du (by rw[c1]),le_eq (by simp[eh]),?_,?_⟩
   ·rw[ax]
   ·rw[ax,a8,a6];exact hz
end Im
end Go.Proofs.YtknalmoackcpbaaGreat
