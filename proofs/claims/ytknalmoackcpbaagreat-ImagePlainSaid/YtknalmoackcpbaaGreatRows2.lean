/- Package rows: fits, what Write puts by, formed; the document's fits, Width. -/
import Derived.Test.YtknalmoackcpbaaGreatStr2
set_option maxRecDepth 100000
set_option maxHeartbeats 3200000
set_option linter.all false
open Go Go.AW Go.Proofs.Tryz List
namespace Go.Proofs.YtknalmoackcpbaaGreat
namespace Rw
def iV (x:List Int×Bool):AV:= .ao 3 (x.1.map aS) .aI x.2
def lV (x:List (List Int×Bool)×Bool):AV:= .ao 44 (x.1.map iV) .aI x.2
abbrev LR:=List (List (List Int×Bool)×Bool)
def T8 (en:Int) (R:LR) (o:cC) (nl:Bool):AV:= .agg [zI en,.ao 94 (R.map lV) o nl]
def uY (x:List (List Int×Bool)×Bool):List (List Int):=x.1.map (·.1)
def pl (R:LR):List (List (List Int)):=R.map uY
def fm (x w:Int):Bool:=decide (0≤x)&&(decide (w=2)&&decide (x<65536)||decide (w=4)&&decide (x<4294967296))
def Bz (k:UInt8) (m:Nat):wK k m=2∨wK k m=4:=by unfold wK;split<;>simp
def qF (x w:Int) (hw:w=2∨w=4) (σ:AS):ad prog 76 [zI x,zI w] σ (ah (.sc (.bool (fm x w))) σ) No:=by
 refine ad.ob func76 ?_;by_cases h0:0≤x
 ·rcases hw with rfl|rfl
  ·by_cases h1:x<65536
   ·refine gO aa (j2 @h0 @h1) tI ?_;simp[fm,h0,h1]
   ·refine gO aa (j2 @h0 @h1) tI ?_;simp[fm,h0,h1]
  ·by_cases h1:x<4294967296
   ·refine gO aa (j2 @h0 @h1) tI ?_;simp[fm,h0,h1]
   ·refine gO aa (j2 @h0 @h1) tI ?_;simp[fm,h0,h1]
 ·refine gO aa @h0 tI ?_;simp[fm,h0]
def sv {x w:Int}(h:fm x w=true):0≤x∧x<4294967296∧x<256^w.toNat:=by
 simp only[fm,Bool.and_eq_true,Bool.or_eq_true,decide_eq_true_eq]at h;rcases h.2 with⟨rfl,i⟩|⟨rfl,i⟩
 ·exact⟨h.1,by omega,by simpa using i⟩
 ·exact⟨h.1,i,by simpa using i⟩
def gC (l:zY) (h:Nat) (nl:Bool):bP:= .cells 30 [.ao 5 (l.map u8) (.tok h) nl]
def Fg (id i:Nat) (l:zY) (nl:Bool) (x w:Int) (hw:w=2∨w=4) (hf:fm x w=false) (σ:AS):ad prog 75 [.ptr id 0,zI x,zI w] σ (ah (zB false) σ) No:=by have h:=fun σ=>qF x w hw σ;rw[hf]at h;refine ad.ob func75 ?_;exact gE aa tI @h
def ML (x n:Int) (o:0≤x) (l:x<18446744073709551616) (hw:wide n=true) (σ:AS):
 ad prog 77 [.ai,.sc (.int .u64 x),zI n] σ (kQ (fun j=> .bI [.ao 5 ((aX x n.toNat).map u8) (.tok j) false,zI 0]) n.toNat σ) No:=by
 have h:ad prog 77 [.ai,.sc (.int .u64 x),zI n] σ (kQ (fun j=> .bI [.ao 5 (([]++aX x n.toNat).map u8) (.tok j) false,zI 0]) (([]:zY).length+n.toNat) σ) No:=
  (ot [] .aI true (by simp) (by simp) x n o l hw σ).wk _ rfl (fun i q=>by
  match i,q with
  |0,_ =>simp
  |1,_ =>simp
  |2,_ =>simp)
 simpa using h
def Ff (id y:Nat) (l:zY) (nl:Bool) (x w:Int) (hw:w=2∨w=4) (hf:fm x w=true) (hl:l.length≤100000000) (σ:AS) (u:σ id=some (gC l y nl)) (E:σ y=some (.tok l.length)) (F:¬id=y):
 ad prog 75 [.ptr id 0,zI x,zI w] σ (ah (zB true) ((σ.set id (gC (l++aX x w.toNat) y false)).set y (.tok (l.length+w.toNat)))) No:=by
 have h:=fun σ=>qF x w hw σ;rw[hf]at h;have hb:=sv hf;have Q:IntKind.u64.wrap x=x:=ng (by omega) (by omega);have X:=fun σ=>ML x w (by omega) (by omega) (by rcases hw with rfl|rfl<;>rfl) σ;have I:=aK F;have M:=aA x w.toNat;have O:(aX x w.toNat).isEmpty=false:=by rcases hw with rfl|rfl<;>rfl
 have V:w.toNat≤4:=by omega
 generalize aX x w.toNat=pb at*;simp only[gC]at u⊢;refine ad.ob func75 ?_;refine gO aa @Q (j2 @h @X) ?_;intro v n;have j:¬id=v:=nq u n;have q:=aK j;have i:¬y=v:=nq E n;have o:=aK i;refine gO aa (j7 @F @O @M j @u i @E) tI ?_;have P:=(j2 (j7 n @F @I q j @u o) (j2 i @E));intro L Y;refine gK P L id fun K=>gK P L y fun J=>gK P L v fun G=> ?_;intro H;simp[AS.set,K,J,G]at H⊢;try exact H
def im:Nat→List (List (List Int))→Bool
 | _,[]=>true
 |t,l::r=>l.all (fun row=>decide (row.length=(bC t).length))&&im (t+1) r
def eM (R:List (List (List Int))):Bool:=decide (R.length=6)&&im 0 R
def Yk (R:LR) (o:cC) (nl:Bool) (B:AS) (m:Nat) (f:Fr) (h:AS):Prop:=
 ∃i:Nat,m=R.length-i∧i≤R.length∧im 0 (pl R)=im i ((pl R).drop i)∧h=B∧
  f=iO [(12,.ao 94 (R.map lV) o nl),(13,zI R.length),(14,zI i)]
def Yl (R:LR) (o:cC) (nl:Bool) (i:Nat) (x:List (List Int×Bool)×Bool) (X:Bool) (B:AS) (m:Nat) (f:Fr) (h:AS):Prop:=
 ∃k:Nat,m=x.1.length-k∧k≤x.1.length∧(((uY x).drop k).all (fun row=>decide (row.length=(bC i).length))&&im (i+1) ((pl R).drop (i+1)))=X∧h=B∧
  f=iO [(3,zI i),(12,.ao 94 (R.map lV) o nl),(13,zI R.length),(14,zI i),(19,lV x),(20,zI x.1.length),(21,zI k)]
theorem tX (en:Int) (R:LR) (o:cC) (nl:Bool) (hR:R.length≤1000) (hr:∀x∈R,x.1.length≤20000) (hc:∀x∈R,∀y∈x.1,y.1.length≤1000) (σ:AS):
 ad prog 74 [T8 en R o nl] σ (ah (.sc (.bool (eM (pl R)))) σ) No:=by
 have u:=fun t σ=>EL t σ;refine ad.ob func74 ?_;simp only[T8];refine gO aa tI tI ?_;intro ap n;by_cases M:R.length=6
 ·refine gO aa @M tI ?_;obtain⟨B,J,a4,al,F⟩:=JM σ (.cells 63 [zI en,.ao 94 (R.map lV) o nl]) n;simp only[J];clear J;have hle:AS.le σ B:=F B fun _ _ _ h=>h;have hS:eM (pl R)=im 0 (pl R):=by simp[eM,pl,M]
  rw[hS];refine aq.dc (Yk R o nl B) (k0:=R.length) ⟨0,by omega,by omega,by simp,rfl,rfl⟩ (aN.mk (by simp[M])) (lR _) ?_;rintro m f O ⟨i,hm,hi,E,hs,rfl⟩;subst O;by_cases H:i<R.length
  ·obtain⟨x,hg,hd,G,_⟩:=gQ R H;obtain⟨_,V⟩:=List.getElem?_eq_some_iff.1 hg;have hI:((i:Int)<R.length)=True:=by simp;omega
   have ar:=hr x G;have X:(pl R).drop i=uY x::(pl R).drop (i+1):=by rw[pl,←List.map_drop,hd,List.map_cons,List.map_drop]
   rw[X]at E;simp only[im]at E;refine gO aa (j4 hI H @V @lV.eq_1) tI ?_;generalize ac:im 0 (pl R)=F0 at E⊢;refine aq.dc (Yl R o nl i x F0 B) (k0:=x.1.length) ⟨0,by omega,by omega,by rw[E,List.drop_zero],rfl,rfl⟩ (aN.mk (by simp[lV])) (lR _) ?_;rintro m2 f O ⟨k,a1,hk,j,hs,rfl⟩;subst O;by_cases l:k<x.1.length
   ·obtain⟨y,Q,Y,P,_⟩:=gQ x.1 l;obtain⟨_,q⟩:=List.getElem?_eq_some_iff.1 Q;have L:((k:Int)<x.1.length)=True:=by simp;omega
    have I:(uY x).drop k=y.1::(uY x).drop (k+1):=by rw[uY,←List.map_drop,Y,List.map_cons,List.map_drop]
    rw[I]at j;simp only[List.all_cons]at j;by_cases K:y.1.length=(bC i).length
    ·have v:((y.1.length:Int)=(bC i).length)=True:=by simp;omega
     refine gO aa (j7 @L @l @q @lV.eq_1 @iV.eq_1 @K @v) @u ?_;refine⟨m2-1,_,_,by omega,aN.mk ?_,lR _,k+1,by omega,by omega,by rw[←j];simp[K],rfl,rfl⟩;simp[lV,gW (show k<4000000000000000000 by omega)]
    ·have v:((y.1.length:Int)=(bC i).length)=False:=by simp;omega
     refine gO aa (j7 @L @l @q @lV.eq_1 @iV.eq_1 @K @v) @u ?_;rw[←j];simp[K];exact hle
   ·have L:((k:Int)<x.1.length)=False:=by simp;omega
    refine gO aa @L tI ?_;have w:(uY x).drop k= []:=List.drop_eq_nil_of_le (by simp[uY];omega);rw[w]at j;refine⟨m-1,_,_,by omega,aN.mk ?_,lR _,i+1,by omega,by omega,by rw[ac,←j];rfl,rfl,rfl⟩;simp[gW (show i<4000000000000000000 by omega)]
  ·have hI:((i:Int)<R.length)=False:=by simp;omega
   have w:(pl R).drop i= []:=List.drop_eq_nil_of_le (by simp[pl];omega);rw[w]at E;refine gO aa hI tI ?_;rw[E];simp[im];exact hle
 ·have af:((R.length:Int)=6)=False:=by simp;omega
  refine gO aa @af tI ?_;simp[eM,pl,M];exact an n (lR _)
def cN (S:List Nat):bH prog [(20,(.S 0 (.S 1 (.S 2 (.S 3 (.S 5 (.U 6 (.R 4 (.A 7 (.S 8 .D) .Z)))))))))] S:=mixed
theorem zo (l:zY) (j:Nat) {c:UInt8}(h:l[j]? =some c) (n:c.toNat<128):Utf8.decode ⟨l.toArray⟩ j=(c.toNat,1):=by
 obtain⟨i,rfl⟩:=List.getElem?_eq_some_iff.1 h;have e:(ByteArray.get! ⟨l.toArray⟩ j)=l[j]:=by simp[ByteArray.get!,i]
 simp only[Utf8.decode,Nat.add_zero,e];rw[if_pos (by omega)]
def uG (t:Int):∀c∈bC t,c.toNat<128:=by
 unfold bC;intro c h;split at h
 ·revert c;decide
 split at h
 ·revert c;decide
 split at h
 ·revert c;decide
 split at h
 ·revert c;decide
 split at h
 ·revert c;decide
 split at h
 ·revert c;decide
 ·simp at h
def om:zY→List Int→Bool
 |k::h,x::r=>fm x (wK k 0)&&om h r
 | _,_ =>true
def qP:zY→List Int→zY
 |k::h,x::r=>aX x (wK k 0).toNat++qP h r
 | _,_ => []
def lD (t:Nat) (l:List (List Int)):Bool:=l.all (om (bC t))
def pg (t:Nat) (l:List (List Int)):zY:=l.flatMap (qP (bC t))
def allFit:Nat→List (List (List Int))→Bool
 | _,[]=>true
 |t,l::r=>lD t l&&allFit (t+1) r
def iw:Nat→List (List (List Int))→zY
 | _,[]=> []
 |t,l::r=>pg t l++iw (t+1) r
def sD (l:List (List Int)):zY:=if l= []then []else aX l.length 2
def kD (R:List (List (List Int))):zY:=R.flatMap sD
def mN:Nat→List (List (List Int))→Nat
 | _,[]=>0
 |t,l::r=>(if l= []then 0 else 2^t)+mN (t+1) r
def okW (R:List (List (List Int))) (en:Int):Bool:=allFit 0 R&&fm en 2
def dd (R:List (List (List Int))) (en:Int):zY:= [0,UInt8.ofNat (mN 0 R)]++(kD R++aX en 2)++iw 0 R
def WS (id5 id6 tc tb:Nat) (B:AS) (cnt:zY) (n1:Bool) (fq:zY) (n2:Bool):AS:=fun j=>
 if j=id5 then some (gC cnt tc n1)else if j=id6 then some (gC fq tb n2)else if j=tc then some (.tok cnt.length)else if j=tb then some (.tok fq.length)else B j
def WS.Vj {id5 id6 tc tb:Nat}{B:AS}{cnt fq h:zY}{n1 n2 i:Bool}{m:Nat}(hm:m=h.length) (E:¬id5=id6) (u:¬id5=tc) (y:¬id5=tb) (q:¬id6=tc) (w:¬id6=tb) (v:¬tc=tb):
 ((WS id5 id6 tc tb B cnt n1 fq n2).set id5 (gC h tc i)).set tc (.tok m)=WS id5 id6 tc tb B h i fq n2:=by
 subst hm;funext j;by_cases l:j=id5
 ·subst l;simp[AS.set,WS,u]
 by_cases n:j=id6
 ·subst n;simp[AS.set,WS,l,q]
 by_cases o:j=tc
 ·subst o;simp[AS.set,WS,l,n]
 ·simp[AS.set,WS,l,n,o]
def WS.Vi {id5 id6 tc tb:Nat}{B:AS}{cnt fq h:zY}{n1 n2 i:Bool}{m:Nat}(hm:m=h.length) (y:¬id5=id6) (F:¬id5=tc) (w:¬id5=tb) (E:¬id6=tc) (v:¬id6=tb) (u:¬tc=tb):
 ((WS id5 id6 tc tb B cnt n1 fq n2).set id6 (gC h tb i)).set tb (.tok m)=WS id5 id6 tc tb B cnt n1 h i:=by
 subst hm;funext j;by_cases l:j=id5
 ·subst l;simp[AS.set,WS,y,w]
 by_cases n:j=id6
 ·subst n;simp[AS.set,WS,l,v]
 by_cases o:j=tc
 ·subst o;simp[AS.set,WS,l,n,u]
 by_cases q:j=tb
 ·subst q;simp[AS.set,WS,l,n,o]
 ·simp[AS.set,WS,l,n,o,q]
def WS.out {id5 id6 tc tb j:Nat}{B:AS}{cnt fq:zY}{n1 n2:Bool}{x:bP}(o:¬j=id5) (n:¬j=id6) (l:¬j=tc) (h:¬j=tb):
 (WS id5 id6 tc tb B cnt n1 fq n2).set j x=WS id5 id6 tc tb (B.set j x) cnt n1 fq n2:=by
 funext i;by_cases e:i=j
 ·subst e;simp[AS.set,WS,o,n,l,h]
 ·simp[AS.set,WS,e]
def WS.le {id5 id6 tc tb:Nat}{B B':AS}{cnt fq:zY}{n1 n2:Bool}(h:AS.le B B'):AS.le (WS id5 id6 tc tb B cnt n1 fq n2) (WS id5 id6 tc tb B' cnt n1 fq n2):=by
 intro j y i;simp only[WS]at i⊢;by_cases l:j=id5
 ·simpa[l]using i
 by_cases n:j=id6
 ·simpa[l,n]using i
 by_cases o:j=tc
 ·simpa[l,n,o]using i
 by_cases q:j=tb
 ·simpa[l,n,o,q]using i
 ·simp[l,n,o,q]at i⊢;exact h j y i
def zf:∀ {L:List (List (List Int))}{t k:Nat}{l:List (List Int)},im t L=true→L[k]? =some l→ ∀row∈l,row.length=(bC ((t+k:Nat):Int)).length:=by
 intro L;induction L with
 |nil=>intro t k l _ h;simp at h
 |cons x r n=>
  intro t k l j h row i;simp only[im,Bool.and_eq_true]at j;cases k with
  |zero=>simp at h;subst h;have:=all_eq_true.1 j.1 row i;simpa using this
  |succ k=>simp at h;have:=n j.2 h row i;rw[this,show t+1+k=t+(k+1) by omega]
def qB (t:Int):(bC t).length≤6:=by unfold bC;split<;>(try split)<;>(try split)<;>(try split)<;>(try split)<;>(try split)<;>simp
def zz (W:zY) (ok:Bool) (σ:AS) (r:AV) (h:AS):Prop:=
 (ok=true∧kQ (fun i=> .bI [.ao 5 (W.map u8) (.tok i) false,zI 0]) W.length σ r h)∨(ok=false∧ah (.bI [.ai,zI 3]) σ r h)
def zz.no {W:zY}{ok:Bool}{σ i:AS}(h:ok=false) (hle:AS.le σ i):AW.Ends prog (zz W ok σ) i (.bI [.ai,zI 3]):=
 ⟨_,σ,Wk.refl _,hle,.inr ⟨h,rfl,rfl⟩⟩
def PX (j i:Nat) (o:i<32) (h:j<2^i):IntKind.i64.wrap (Dz 64 (j:Int) (IntKind.i64.wrap (2^min i 64)))=(j:Int)+2^i:=by
 have h1:(2:Nat)^i≤2^31:=Nat.pow_le_pow_right (by omega) (by omega);have n:((2:Int)^i)=((2^i:Nat):Int):=by push_cast;rfl
 have l:=oA (w:=64) (a:=(2:Int)^i) (b:=j) i (by omega) (by rw[n];exact_mod_cast h) (c:=1) (by omega) (by omega);rw[show min i 64=i by omega];generalize q:(2:Nat)^i=P at*;rw[n]at l⊢;rw[show IntKind.i64.wrap (P:Int)=P from az (by omega) (by omega),qf,l (by omega),az (by omega) (by omega)];omega
def Xy (R:LR) (o:cC) (nl:Bool) (ok n:Bool) (j id5 id6 tc tb:Nat) (B:AS) (m:Nat) (f:Fr) (l:AS):Prop:=
 ∃(i h:Nat) (cnt fq:zY),m=R.length-i∧i≤R.length∧ok=(allFit i ((pl R).drop i)&&n)∧h+mN i ((pl R).drop i)=mN 0 (pl R)∧h<2^i∧
  cnt++kD ((pl R).drop i)=kD (pl R)∧fq++iw i ((pl R).drop i)=iw 0 (pl R)∧cnt.length≤2*i∧fq.length≤480000*i∧l=WS id5 id6 tc tb B cnt (decide (cnt= [])) fq (decide (fq= []))∧
  f=iO [(1,.ptr j 0),(4,zI h),(5,.ptr id5 0),(6,.ptr id6 0),(7,.sc (.func (.func 75) #[] #[])),(20,.ao 94 (R.map lV) o nl),(21,zI R.length),(22,zI i)]
def XA (R:LR) (o:cC) (nl:Bool) (ok:Bool) (i l:Nat) (x:List (List Int×Bool)×Bool) (cnt n q:zY) (u:Bool) (h id5 id6 tc tb:Nat) (B:AS) (m:Nat) (f:Fr) (j:AS):Prop:=
 ∃(k:Nat) (fq:zY),m=x.1.length-k∧k≤x.1.length∧ok=(lD i ((uY x).drop k)&&u)∧fq++(pg i ((uY x).drop k)++n)=q∧fq.length≤480000*i+24*k∧
  j=WS id5 id6 tc tb B cnt false fq (decide (fq= []))∧
  f=iO [(1,.ptr h 0),(4,zI l),(5,.ptr id5 0),(6,.ptr id6 0),(7,.sc (.func (.func 75) #[] #[])),(8,zI i),(20,.ao 94 (R.map lV) o nl),(21,zI R.length),(22,zI i),
   (39,lV x),(40,zI x.1.length),(41,zI k)]
def Xz (R:LR) (o:cC) (nl:Bool) (ok:Bool) (i q k:Nat) (x:List (List Int×Bool)×Bool) (y:List Int×Bool) (h cnt u v:zY) (w:Bool) (b0:Nat) (it l id5 id6 tc tb:Nat) (B:AS) (m:Nat) (f:Fr) (n:AS):Prop:=
 ∃(j:Nat) (fq:zY),m=h.length-j∧j≤h.length∧ok=(om (h.drop j) (y.1.drop j)&&w)∧fq++(qP (h.drop j) (y.1.drop j)++u)=v∧fq.length≤b0+4*j∧
  n=WS id5 id6 tc tb (B.set it (.lF ⟨h.toArray⟩ j)) cnt false fq (decide (fq= []))∧
  f=iO [(1,.ptr l 0),(4,zI q),(5,.ptr id5 0),(6,.ptr id6 0),(7,.sc (.func (.func 75) #[] #[])),(8,zI i),(11,iV y),(12,zI j),(20,.ao 94 (R.map lV) o nl),(21,zI R.length),(22,zI i),
   (39,lV x),(40,zI x.1.length),(41,zI k),(47,.ptr it 0)]
theorem GH (en:Int) (R:LR) (o:cC) (nl:Bool) (hr:∀x∈R,x.1.length≤20000) (hc:∀x∈R,∀y∈x.1,y.1.length≤1000) (hF:eM (pl R)=true) (σ:AS):
 ad prog 32 [T8 en R o nl] σ (zz (dd (pl R) en) (okW (pl R) en) σ) No:=by
 have h6:R.length=6:=by simp[eM,pl]at hF;exact hF.1
 have ge:im 0 (pl R)=true:=by simp[eM]at hF;exact hF.2
 have hf:=fun σ=>tX en R o nl (by omega) hr hc σ;rw[hF]at hf;have d8:=fun t σ=>xd t σ;simp only[T8,zR]at hf d8⊢;refine ad.ob func32 ?_;refine gO cN tI tI ?_;intro a7 c3;refine gO cN tI @hf ?_;intro id5 J c2;have a4:=aK J;refine gO cN tI tI ?_;intro id6 H I c1;have n:=aK H;have a3:=aK I;refine gO cN (j2 J I) tI ?_;refine aq.r9 id5 0 5 [] true (ty:=30) (cs:= [.ai]) (by simp[n]) (by simp) (.inr ⟨by simp,rfl,rfl⟩) ?_;simp-implicitDefEqProofs [H];intro tc O af al ei;have E:=aK O;have G:=aK af;have a5:=aK al;refine aq.r9 id6 0 5 [] true (ty:=30) (cs:= [.ai]) (by simp[E]) (by simp) (.inr ⟨by simp,rfl,rfl⟩) ?_;simp-implicitDefEqProofs [O];intro tb a1 am ap ar ej;have Y:=aK a1;have F:=aK am;have P:=aK ap;have a6:=aK ar;obtain⟨B,et,c4,a2,db⟩:=JM σ (.cells 63 [zI en,.ao 94 (R.map lV) o nl]) c3;simp only[et];clear et;have g0:B id5=none:=by rw[a2 id5 J];exact c2
 have gS:B id6=none:=by rw[a2 id6 I];exact c1
 have gt:B tc=none:=by rw[a2 tc al];exact ei
 have gI:B tb=none:=by rw[a2 tb ar];exact ej
 have q1:∀C cnt n1 fq n2,(WS id5 id6 tc tb C cnt n1 fq n2) a7=C a7:=fun C cnt n1 fq n2=>by simp[WS,a4,a3,a5,a6]
 have q5:∀C cnt n1 fq n2,(WS id5 id6 tc tb C cnt n1 fq n2) id5=some (gC cnt tc n1):=fun C cnt n1 fq n2=>by simp[WS]
 have q6:∀C cnt n1 fq n2,(WS id5 id6 tc tb C cnt n1 fq n2) id6=some (gC fq tb n2):=fun C cnt n1 fq n2=>by simp[WS,H]
 have qc:∀C cnt n1 fq n2,(WS id5 id6 tc tb C cnt n1 fq n2) tc=some (.tok cnt.length):=fun C cnt n1 fq n2=>by simp[WS,af,O]
 have qb:∀C cnt n1 fq n2,(WS id5 id6 tc tb C cnt n1 fq n2) tb=some (.tok fq.length):=fun C cnt n1 fq n2=>by simp[WS,ap,am,a1]
 have bv:∀C cnt n1 fq n2 x,fm x 2=true→cnt.length≤1000→ad prog 75 [.ptr id5 0,zI x,zI 2] (WS id5 id6 tc tb C cnt n1 fq n2) (ah (zB true) (WS id5 id6 tc tb C (cnt++aX x 2) false fq n2)) No:=by intro C cnt n1 fq n2 x hx hl;have h:=Ff id5 tc cnt n1 x 2 (.inl rfl) hx (by omega) _ (q5 C cnt n1 fq n2) (qc C cnt n1 fq n2) G;rwa [WS.Vj (by simp[aA]) n G P E F Y]at h
 have c9:∀C cnt n1 fq n2 x w,(w=2∨w=4)→fm x w=true→fq.length≤10000000→ad prog 75 [.ptr id6 0,zI x,zI w] (WS id5 id6 tc tb C cnt n1 fq n2) (ah (zB true) (WS id5 id6 tc tb C cnt n1 (fq++aX x w.toNat) false)) No:=by intro C cnt n1 fq n2 x w hw hx hl;have h:=Ff id6 tb fq n2 x w hw hx (by omega) _ (q6 C cnt n1 fq n2) (qb C cnt n1 fq n2) F;rwa [WS.Vi (by simp[aA]) n G P E F Y]at h
 have hle:∀C cnt n1 fq n2,AS.le B C→AS.le σ (WS id5 id6 tc tb C cnt n1 fq n2):=fun C cnt n1 fq n2 h=>db _ fun j hj y hy=>by
  have e5:j≠id5:=by rintro rfl;rw[g0]at hy;cases hy
  have e6:j≠id6:=by rintro rfl;rw[gS]at hy;cases hy
  have ec:j≠tc:=nq gt hy;have eb:j≠tb:=nq gI hy;simp only[WS,e5,e6,ec,eb,if_false];exact h j y hy
 have hlen:(pl R).length=6:=by simp[pl,h6]
 refine aq.dc (Xy R o nl (okW (pl R) en) (fm en 2) a7 id5 id6 tc tb B) (k0:=R.length) ⟨0,0,[],[],by omega,by omega,by simp[okW],by simp,by simp,by simp,by simp,by simp,by simp,rfl,rfl⟩ (aN.mk (by simp)) ?_ ?_
 ·intro j y hy;simp only[WS]at hy;by_cases e1:j=id5
  ·subst e1;simp[AS.set,gC,n,G,P]at hy⊢;exact hy
  by_cases e2:j=id6
  ·subst e2;simp[AS.set,gC,e1,E,F]at hy⊢;exact hy
  by_cases e3:j=tc
  ·subst e3;simp[AS.set,e1,e2,Y]at hy⊢;exact hy
  by_cases e4:j=tb
  ·subst e4;simp[AS.set,e1,e2,e3]at hy⊢;exact hy
  ·simp[AS.set,e1,e2,e3,e4]at hy⊢;exact hy
 rintro m f σ' ⟨i,th,cnt,fq,hm,hi,X,a0,d3,q,L,lc,lb,hs,rfl⟩;subst σ';by_cases cl:i<R.length
 ·obtain⟨x,hg,hd,b1,_⟩:=gQ R cl;obtain⟨_,ea⟩:=List.getElem?_eq_some_iff.1 hg;have hI:((i:Int)<R.length)=True:=by simp;omega
  have hv:=hr x b1;have f6:(pl R).drop i=uY x::(pl R).drop (i+1):=by rw[pl,←List.map_drop,hd,List.map_cons,List.map_drop]
  rw[f6]at X a0 q L;simp only[allFit,mN,iw,kD,List.flatMap_cons]at X a0 q L;by_cases hz:x.1= []
  ·have ce:uY x= []:=by simp[uY,hz]
   rw[ce]at X a0 q L;simp[lD,sD,pg]at X a0 q L;refine gO cN (j5 hI cl @ea @lV.eq_1 @hz) tI ?_;refine⟨m-1,_,_,by omega,aN.mk ?_,lR _,i+1,th,cnt,fq,by omega,by omega,by simpa using X,a0,by rw[Nat.pow_succ];omega,q,L,by omega,by omega,rfl,rfl⟩;simp[gW (show i<4000000000000000000 by omega)]
  ·have ce:uY x≠ []:=by simp[uY,hz]
   have d4:(uY x).length=x.1.length:=by simp[uY]
   simp only[sD,ce,if_false]at a0 q;have f5:fm (x.1.length:Int) 2=true:=by simp[fm];omega
   have cd:=bv B cnt (decide (cnt= [])) fq (decide (fq= [])) x.1.length f5 (by omega);refine gO cN (j5 hI cl @ea @lV.eq_1 @hz) @cd ?_;refine aq.dc (XA R o nl (okW (pl R) en) i (th+2^i) x (cnt++aX x.1.length 2) (iw (i+1) ((pl R).drop (i+1))) (iw 0 (pl R)) (allFit (i+1) ((pl R).drop (i+1))&&fm en 2) a7 id5 id6 tc tb B) (k0:=x.1.length) ⟨0,fq,by omega,by omega,by rw[X,Bool.and_assoc];rfl,by rw[←L];simp,by omega,rfl,rfl⟩ (aN.mk ?_) (lR _) ?_
   ·simp[lV];exact RP (PX th i (by omega) d3)
   rintro m2 f σ' ⟨k,ca,hB,hk,av,V,hq,hs,rfl⟩;subst σ';by_cases b2:k<x.1.length
   ·obtain⟨y,f4,f9,a9,_⟩:=gQ x.1 b2;obtain⟨_,d9⟩:=List.getElem?_eq_some_iff.1 f4;have hK:((k:Int)<x.1.length)=True:=by simp;omega
    have hu:=hc x b1 y a9;have eg:(uY x).drop k=y.1::(uY x).drop (k+1):=by rw[uY,←List.map_drop,f9,List.map_cons,List.map_drop]
    rw[eg]at av V;simp only[lD,pg,List.all_cons,List.flatMap_cons]at av V;have fw:y.1.length=(bC i).length:=by have:=zf (k:=i) (l:=uY x) ge (by simp[pl,hg]) y.1 (List.mem_map.2 ⟨y,a9,rfl⟩);simpa using this
    have hC:=qB (i:Int);have fz:=uG (i:Int);have d7:=fun σ=>d8 i σ;generalize d6:bC (i:Int)=ks at*;refine gO cN (j5 @hK @b2 @d9 @lV.eq_1 @iV.eq_1) @d7 ?_;intro it M;have w5:¬it=id5:=by rintro rfl;rw[q5]at M;cases M
    have w6:¬it=id6:=by rintro rfl;rw[q6]at M;cases M
    have wc:¬it=tc:=by rintro rfl;rw[qc]at M;cases M
    have wb:¬it=tb:=by rintro rfl;rw[qb]at M;cases M
    have b6:B it=none:=by simpa[WS,w5,w6,wc,wb]using M
    have qt:∀C cnt n1 fq n2,(WS id5 id6 tc tb C cnt n1 fq n2) it=C it:=fun C cnt n1 fq n2=>by simp[WS,w5,w6,wc,wb]
    rw[WS.out w5 w6 wc wb];refine gO cN tI tI ?_;refine aq.dc (Xz R o nl (okW (pl R) en) i (th+2^i) k x y ks (cnt++aX x.1.length 2) ((pg i ((uY x).drop (k+1)))++iw (i+1) ((pl R).drop (i+1))) (iw 0 (pl R)) (lD i ((uY x).drop (k+1))&&(allFit (i+1) ((pl R).drop (i+1))&&fm en 2)) (480000*i+24*k) it a7 id5 id6 tc tb B) (k0:=ks.length) ⟨0,ca,by omega,by omega,?_,?_,by omega,rfl,rfl⟩ (aN.mk ?_) (lR _) ?_
    ·rw[av,List.drop_zero,List.drop_zero,Bool.and_assoc,lD,d6]
    ·rw[List.drop_zero,List.drop_zero,←V];simp[pg,d6]
    ·simp[lV,iV]
    rintro m3 f σ' ⟨j,ac,hA,hj,K,Q,hp,hs,rfl⟩;subst σ';by_cases bb:j<ks.length
    ·obtain⟨kd,f3,f8,cj,_⟩:=gQ ks bb;obtain⟨v,f0,f7,fv,_⟩:=gQ y.1 (show j<y.1.length by omega);obtain⟨_,b3⟩:=List.getElem?_eq_some_iff.1 f0;rw[f8,f7]at K Q;simp only[om,qP]at K Q;have b4:=zo ks j f3 (fz kd cj);have dn:=fun σ=>Bw kd 0 (by omega) σ;have b0:=Bz kd 0;have de:j<y.1.length:=by omega
     have ek:((j:Int)<y.1.length)=True:=by simp;omega
     have dl:=fun C cnt n1 fq n2 x=>WS.out (id5:=id5) (id6:=id6) (tc:=tc) (tb:=tb) (B:=C) (cnt:=cnt) (n1:=n1) (fq:=fq) (n2:=n2) (x:=x) w5 w6 wc wb;have a8:=aA v (wK kd 0).toNat;cases be:fm v (wK kd 0)with
     |false=>have ch:=fun σ=>Fg id6 tb ac (decide (ac= [])) v (wK kd 0) b0 be σ;rw[be]at K;refine gO cN (j2 (j7 @bb @b4 @qt @iV.eq_1 @de @ek @b3) (j2 @aF @dl)) (j2 @dn @ch) ?_;exact zz.no (by rw[K];rfl) (hle _ _ _ _ _ (an b6 (lR _)))
     |true=>
      have ft:=fun C=>c9 C (cnt++aX x.1.length 2) false ac (decide (ac= [])) v (wK kd 0) b0 be (by omega);rw[be]at K;refine gO cN (j2 (j7 @bb @b4 @qt @iV.eq_1 @de @ek @b3) (j2 @aF @dl)) (j2 @dn @ft) ?_;have ci:¬(ac++aX v (wK kd 0).toNat= []):=by intro e;have:=congrArg List.length e;simp[a8]at this;omega
      refine⟨m3-1,_,_,by omega,aN.mk ?_,lR _,j+1,ac++aX v (wK kd 0).toNat,by omega,by omega,by rw[K];simp,by rw[←Q];simp,by rw[List.length_append,a8];omega,by simp only[ci,decide_false],rfl⟩;simp[lV,iV,gW (show j<4000000000000000000 by omega)]
    ·have d5:ks.drop j= []:=List.drop_eq_nil_of_le (by omega);rw[d5]at K Q;simp[om,qP]at K Q;have ck:(j<ks.length)=False:=by simp;omega
     refine gO cN (j3 @ck @qt @Wl) tI ?_;refine⟨m2-1,_,_,by omega,aN.mk ?_,WS.le (an b6 (lR _)),k+1,ac,by omega,by omega,K,Q,by omega,rfl,rfl⟩;simp[lV,gW (show k<4000000000000000000 by omega)]
   ·have hK:((k:Int)<x.1.length)=False:=by simp;omega
    have c0:(uY x).drop k= []:=List.drop_eq_nil_of_le (by omega);rw[c0]at av V;simp[lD,pg]at av V;have a8:=aA x.1.length 2;have ci:¬(cnt++aX x.1.length 2= []):=by intro e;have:=congrArg List.length e;simp[a8]at this
    refine gO cN @hK tI ?_;refine⟨m-1,_,_,by omega,aN.mk ?_,lR _,i+1,th+2^i,cnt++aX x.1.length 2,ca,by omega,by omega,av,by omega,by rw[Nat.pow_succ];omega,by rw[d4]at q;simp only[kD,List.append_assoc];exact q,V,by rw[List.length_append,a8];omega,by omega,by simp only[ci,decide_false],rfl⟩;simp[gW (show i<4000000000000000000 by omega)]
 ·obtain rfl:i=6:=by omega
  have hI:((6:Int)<R.length)=False:=by simp[h6]
  have c0:(pl R).drop 6= []:=List.drop_eq_nil_of_le (by omega);rw[c0]at X a0 q L;simp[allFit,mN,kD,iw]at X a0 q L;cases bf:fm en 2 with
  |false=>rw[bf]at X;have ch:=fun σ=>Fg id5 tc cnt (decide (cnt= [])) en 2 (.inl rfl) bf σ;refine gO cN (j3 hI @q1 @c4) @ch ?_;exact zz.no X (hle _ _ _ _ _ (lR _))
  |true=>
   rw[bf]at X;have cd:=bv B cnt (decide (cnt= [])) fq (decide (fq= [])) en bf (by omega);have a8:=aA en 2;have dp:IntKind.u8.wrap (th:Int)=((UInt8.ofNat th).toNat:Int):=by rw[Bx];simp
   refine gO cN (j6 hI @q1 @c4 @q5 @gC.eq_1 @dp) @cd ?_;intro tk u;have w1:¬tk=a7:=by rintro rfl;rw[q1,c4]at u;cases u
   have w5:¬tk=id5:=by rintro rfl;rw[q5]at u;cases u
   have w6:¬tk=id6:=by rintro rfl;rw[q6]at u;cases u
   have wc:¬tk=tc:=by rintro rfl;rw[qc]at u;cases u
   have wb:¬tk=tb:=by rintro rfl;rw[qb]at u;cases u
   have e9:=aK w6;have gs:B tk=none:=by simpa[WS,w5,w6,wc,wb]using u
   have fi:σ tk=none:=by rw[←a2 tk w1];exact gs
   refine gO cN (j3 @e9 @q6 @gC.eq_1) tI ?_;have b5:dd (pl R) en= [0,UInt8.ofNat th]++(cnt++aX en 2)++fq:=by rw[dd,a0,q,L];rfl
   refine⟨_,_,?_,?_,.inl ⟨X,tk,fi,rfl,rfl⟩⟩
   ·rw[b5];exact ff (by simp)
   ·have hl:(dd (pl R) en).length=cnt.length+(aX en 2).length+1+1+fq.length:=by rw[b5];simp;omega
    rw[hl];intro j y hy;by_cases e:j=tk
    ·subst e;simpa[AS.set]using hy
    ·simp[AS.set,e]at hy⊢;exact hle B _ _ _ _ (lR _) j y hy
end Rw
namespace Im
open Sg (qj oT hU)
open Rg (Cl fY aL)
def eo (t:Ty) (n:Int):Bool:=decide (¬(t.kind=5∨t.kind=6)∨t.index<n)
def iR (t:Ty) (n:Int):Bool:=bO t&&eo t n
def iQ (t:Ty) (n:Int):Bool:=aZ t&&eo t n
def xQ (t:Ty) (n:Int):Bool:=cx t&&eo t n
def wM (t:Ty) (n:Int) (σ:AS):ad prog 114 [cF t,zI n] σ (ah (.sc (.bool (eo t n))) σ) No:=by
 obtain⟨k,x,d,r⟩:=t;refine ad.ob func114 ?_;simp only[cF,eo];refine gO aa tI tI ?_;intro id j;by_cases h:k=5
 ·refine gO aa @h tI ?_;all_goals exact gJ tI
 ·by_cases i:k=6
  ·refine gO aa (j2 @h @i) tI ?_;all_goals exact gJ tI
  ·refine gO aa (j2 @h @i) tI ?_;all_goals exact gJ tI
def FC (t:Ty) (n:Int) (σ:AS):ad prog 56 [cF t,zI n] σ (ah (.sc (.bool (eo t n))) σ) No:=by
 obtain⟨k,x,d,r⟩:=t;refine ad.ob func56 ?_;simp only[cF,eo];refine gO aa tI tI ?_;intro id j;by_cases h:k=5
 ·refine gO aa @h tI ?_;all_goals exact gJ tI
 ·by_cases i:k=6
  ·refine gO aa (j2 @h @i) tI ?_;all_goals exact gJ tI
  ·refine gO aa (j2 @h @i) tI ?_;all_goals exact gJ tI
def vn (t:Ty) (p n:Int) (σ:AS):ad prog 23 [cF t,zI p,zI n] σ (ah (.sc (.bool (gV t p&&eo t n))) σ) No:=by
 have hw:=fun σ=>yN t p σ;have h:=fun σ=>FC t n σ;generalize eo t n=b at h⊢;cases i:gV t p<;>rw[i]at hw<;>obtain⟨k,x,d,r⟩:=t<;>simp only[cF]at hw h⊢;all_goals
  refine ad.ob func23 ?_;refine gO aa tI tI ?_;intro id j;refine gO aa tI (j2 @hw @h) ?_;all_goals exact gJ tI
def yG {P:Program}{f:FuncId}{args:List AV}{σ:AS}{g:Nat→AV}{n:Nat}{v:AV}(h:ad P f args σ (kQ g n σ) No) (hw:∀i,AV.Wk P (g i) v):ad P f args σ (ah v σ) No:=
 ⟨h.body,fun G w vals o l=>(h.run G w vals o l).mono fun e w' he=>by
  unfold kE at he⊢;split at he
  ·obtain⟨G',j,r,a,b,c,i,h0,rfl,rfl⟩:=he;exact⟨G',σ,v,a,b.weaken (AS.aj (lR _) h0),hw i _ _ c,rfl,rfl⟩
  ·obtain⟨x,y,G',j,r,a,b,c,d⟩:=he;exact d.elim
  ·exact he.elim⟩
def l8 (t:Ty) (σ:AS):∃v,ad prog 62 [cF t] σ (ah (.bI [v,zI (if bO t=true then 0 else 17)]) σ) No:=by
 by_cases h:bO t=true
 ·rw[if_pos h];exact⟨_,yG (qj t h σ) fun i=>cq (a:= .ao 5 ((6::hU t).map u8) (.tok i) false) (qh _ _ _ _ |>.2 trivial) (Wk.refl _)⟩
 ·rw[if_neg h];exact⟨_,oT t (by simpa using h) σ⟩
def CP (t:Ty) (n:Int) (σ:AS):ad prog 53 [cF t,zI n] σ (ah (.sc (.bool (iR t n))) σ) No:=by
 have hw:=fun σ=>l8 t σ;have h:=fun σ=>wM t n σ;unfold iR;generalize eo t n=b at h⊢;cases i:bO t<;>rw[i]at hw<;>obtain⟨k,x,d,r⟩:=t<;>simp only[cF,if_true,Bool.false_eq_true,if_false]at hw h⊢;all_goals
  refine ad.ob func53 ?_;refine gO aa tI tI ?_;intro id j;obtain⟨v,hw⟩:=hw (σ.set id (.cells 49 [zI k,zI x,zI d,zB r]));refine gO aa tI (j2 @hw @h) ?_;all_goals exact gJ tI
def Ke (t:Ty) (n:Int) (σ:AS):ad prog 116 [cF t,zI n] σ (ah (.sc (.bool (iQ t n))) σ) No:=by
 have hw:=fun σ=>ql t σ;have i:=fun σ=>wM t n σ;unfold iQ aZ;generalize eo t n=b at i⊢;cases j:aP t<;>rw[j]at hw<;>obtain⟨k,x,d,r⟩:=t<;>simp only[cF]at hw i⊢
 ·refine ad.ob func116 ?_;refine gO aa tI tI ?_;intro id h;refine gO aa tI @hw ?_;all_goals exact gJ tI
 ·by_cases h1:k=1
  ·subst h1;refine ad.ob func116 ?_;refine gO aa tI tI ?_;intro id h;refine gO aa tI @hw ?_;all_goals exact gJ tI
  ·refine ad.ob func116 ?_;refine gO aa tI tI ?_;intro id h;refine gO aa @h1 (j2 @hw @i) ?_;all_goals exact gJ tI
def Ig (t:Ty) (n:Int) (σ:AS):ad prog 117 [cF t,zI n] σ (ah (.sc (.bool (xQ t n))) σ) No:=by
 have hw:=fun σ=>ql t σ;have h:=fun σ=>wM t n σ;unfold xQ cx;generalize eo t n=b at h⊢;cases j:aP t<;>rw[j]at hw<;>obtain⟨k,x,d,r⟩:=t<;>simp only[cF]at hw h⊢
 ·refine ad.ob func117 ?_;refine gO aa tI tI ?_;intro id i;refine gO aa tI (j2 @hw @h) ?_;all_goals exact gJ tI
 ·cases r;all_goals
   refine ad.ob func117 ?_;refine gO aa tI tI ?_;intro id i;refine gO aa tI (j2 @hw @h) ?_;all_goals exact gJ tI
def uh (c:Cl) (n:Int):Bool:=if c.k=1 then iR ⟨c.a,c.b,c.c,c.r⟩ n else qS ⟨c.a,c.b,c.c,c.r⟩
def ug (c:Cl) (n:Int) (σ:AS):ad prog 124 [fY c,zI n] σ (ah (.sc (.bool (uh c n))) σ) No:=by
 have hf:=fun σ=>CP ⟨c.a,c.b,c.c,c.r⟩ n σ;unfold uh;generalize iR ⟨c.a,c.b,c.c,c.r⟩ n=b at hf⊢;obtain⟨k,tf,tt,i,ht,fl,a,l,j,r⟩:=c;simp only[cF,aL,qS]at hf⊢;refine ad.ob func124 ?_;refine gO aa tI tI ?_;intro id h;by_cases h1:k=1
 ·refine gO aa @h1 @hf ?_;all_goals exact gJ tI
 ·refine gO aa @h1 @hf ?_;all_goals exact gJ tI
def cS (x:cE) (nt nf nm n:Int):Bool:=
 decide (jF x=0)&&(if (gH x.op).2.1=5 then decide (x.arg<n)else if (gH x.op).2.1=6 then decide (x.arg<nm)else if (gH x.op).2.1=7 then decide (x.arg<nf)else eo x.t nt)
def instr_ok (x:cE) (g:bY) (n:Int) (σ:AS):ad prog 121 [aJ x,mr g,zI n] σ (ah (.sc (.bool (cS x g.ts.length g.fs.length g.ms.length n))) σ) No:=by
 have hf:=fun σ=>CC x σ;have j:=fun σ=>sL x.op σ;have hw:=fun σ=>wM x.t g.ts.length σ;unfold cS;generalize eo x.t g.ts.length=b at hw⊢;generalize jF x=G at hf⊢;generalize yp x.op=H at j;obtain⟨op,arg,k,I,d,r⟩:=x;simp only[fI,bj,gu,cF]at hf j hw⊢;generalize gH op=tt at j⊢;obtain⟨t1,t2,t3⟩:=tt;simp only at j⊢;refine ad.ob func121 ?_;refine gO aa tI tI ?_;intro id F;refine gO aa tI tI ?_;intro E ne w;have ne':=aK ne;by_cases h0:G=0
 ·refine gO aa (j2 @ne' @h0) (j2 @hf @j) ?_;intro id3 l o v;have h:=aK o;have i:=aK l;by_cases u:t2=5
  ·refine gO aa (j3 @ne' @h @u) tI ?_;all_goals exact gJ tI
  ·by_cases q:t2=6
   ·refine gO aa (j4 @ne' @h @i @q) tI ?_;all_goals exact gJ tI
   ·by_cases y:t2=7
    ·refine gO aa (j6 @ne' @h @i @u @q @y) @hw ?_;all_goals exact gJ tI
    ·refine gO aa (j6 @ne' @h @i @u @q @y) @hw ?_;all_goals exact gJ tI
 ·refine gO aa (j2 @ne' @h0) (j2 @hf @j) ?_;all_goals exact gJ tI
open Rg (Cl fY aL)
def mE (f n:Int):Bool:=decide (f<0∨n≤f)
def Iq (t:TD) (n:Int):Bool:=bD t.name&&(decide (0≤t.flags∧t.flags≤31∧ -1≤t.ext∧t.ext<n∧t.bg.length≤4)&& !t.bg.any (fun f=>mE f n))
def DE (f n:Int) (id:Nat) (σ:AS) (h:σ id=some (.cells 3 [zI n])):
 ad prog 51 [iV f,.ptr id 0] σ (ah (.sc (.bool (mE f n))) σ) No:=by
 refine ad.ob func51 ?_;simp only[rE,mE];by_cases h0:f<0
 ·exact gE aa (j2 @h0 @h) tI;all_goals exact gJ @h0
 ·exact gE aa (j2 @h0 @h) tI;all_goals exact gJ @h0
def GO (t:TD) (hl:t.bg.length≤140737488355328) (E:t.name.length≤140737488355328) (n:Int) (id:Nat) (σ:AS) (h:σ id=some (.cells 3 [zI n])):
 ad prog 49 [nA t,.ptr id 0] σ (ah (.sc (.bool (!Iq t n))) σ) No:=by
 have w:=fun σ (h:σ id=some (.cells 3 [zI n]))=>KD t.bg .aI t.fn (.fn (.func 51) [] [.ptr id 0]) (fun f=>mE f n) σ hl
  (fun x _ =>mM.fn (DE x n id σ h))
 have hf:=fun σ=>sw t.name E σ;unfold Iq;generalize t.bg.any (fun f=>mE f n)=b at w⊢;generalize bD t.name=F at hf⊢;obtain⟨nm,fl,ex,fc,fn⟩:=t;simp only[eI]at w hf⊢;refine ad.ob func49 ?_;refine gO aa tI tI ?_;intro v o;have i:¬id=v:=nq h o;refine gO aa (j2 @h i) (j2 @w @hf) ?_;cases F
 ·refine gO aa tI tI ?_;all_goals exact gJ tI
 ·by_cases h1:fl<0
  ·refine gO aa @h1 tI ?_;all_goals exact gJ @h1
  ·by_cases j:31<fl
   ·refine gO aa (j2 @h1 @j) tI ?_;all_goals exact gJ (j2 @h1 @j)
   ·by_cases l:ex< -1
    ·refine gO aa (j3 @h1 @j @l) tI ?_;all_goals exact gJ (j3 @h1 @j @l)
    ·by_cases u:n≤ex
     ·refine gO aa (j6 @h i @h1 @j @l @u) tI ?_;all_goals exact gJ (j4 @h1 @j @l @u)
     ·by_cases y:fc.length≤4
      ·have q:(4<(fc.length:Int))=False:=by simp;omega
       refine gO aa (j7 @h i @h1 @j @l @u @q) tI ?_;all_goals exact gJ (j5 @h1 @j @l @u @y)
      ·have q:(4<(fc.length:Int))=True:=by simp;omega
       refine gO aa (j7 @h i @h1 @j @l @u @q) tI ?_;all_goals exact gJ (j5 @h1 @j @l @u @y)
def GQ (l:List TD):Bool:=decide (l.length≤32)&&l.all (fun t=>Iq t l.length)
def mI {α:Type}(p:α→Bool) (l:List α):(l.any fun x=> !p x)= !l.all p:=by
 induction l with
 |nil=>rfl
 |cons a r h=>simp[h]
def IH (g:bY) (hl:g.ts.length≤140737488355328) (u:∀t∈g.ts,t.bg.length≤140737488355328∧t.name.length≤140737488355328) (σ:AS):
 ad prog 18 [mr g] σ (ah (.sc (.bool (GQ g.ts))) σ) No:=by
 have j:=fun σ id (h:σ id=some (.cells 3 [zI g.ts.length]))=>IL g.ts .aI g.tn (.fn (.func 49) [] [.ptr id 0]) (fun t=> !Iq t g.ts.length) σ hl
  (fun x q=>mM.fn (GO x (u x q).1 (u x q).2 g.ts.length id σ h))
 simp only[mI]at j;unfold GQ;generalize (g.ts.all fun t=>Iq t g.ts.length)=b at j⊢;simp only[bj]at j⊢;have n:((g.ts.length:Int)≤32)=(g.ts.length≤32):=by simp;omega
 refine ad.ob func18 ?_;refine gO aa tI tI ?_;intro id v;refine gO aa tI tI ?_;intro w i o;by_cases l:g.ts.length≤32
 ·refine gO aa (j3 i @n @l) @j ?_;all_goals exact gJ tI
 ·refine gO aa (j3 i @n @l) @j ?_;all_goals exact gJ tI
def ni (nt:Int):Int→List Fd→Bool
 | _,[]=>true
 |last,f::r=>if bD f.name=true∧last≤f.owner∧f.owner<nt∧iR f.ty nt=true then ni nt f.owner r else false
def ua (g:bY) (hl:g.fs.length≤140737488355328) (o:g.ts.length≤140737488355328) (M:∀f∈g.fs,f.name.length≤140737488355328) (σ:AS):
 ad prog 19 [mr g] σ (ah (.sc (.bool (ni g.ts.length 0 g.fs&&decide (g.fs.length≤64)))) σ) No:=by
 have H:((g.fs.length:Int)≤64)=(g.fs.length≤64):=by simp;omega
 have P:=fun(f:Fd) (h:f.name.length≤140737488355328) σ=>sw f.name h σ;have J:=fun(f:Fd) σ=>CP f.ty g.ts.length σ;simp only[bj,cF]at J⊢;refine ad.ob func19 ?_;refine gO aa tI tI ?_;intro id I;refine gO aa tI tI ?_;refine aq.aQ (α:=(Nat)×(Int)) ((0,0)) (fun⟨i,last⟩=>g.fs.length-i) (fun⟨i,last⟩=>i≤g.fs.length∧ni g.ts.length 0 g.fs=ni g.ts.length last (g.fs.drop i)) [(1,?_),(7,?_),(8,?_)] (fun⟨i,last⟩=> [(9,zI i),(3,zI last)]) (fun⟨i,last⟩=>σ.set id (.cells 26 (mr g).cells)) ?_ ?_ ?_ ?_;rotate_left 3
 ·exact gF tI
 ·exact gT
 ·(try dsimp only)<;>first|exact trivial|exact⟨by omega,rfl⟩|omega|(simp;done)|exact⟨by omega,by simp⟩|exact⟨by omega,by simp,rfl⟩
 intro K y;obtain⟨i,last⟩:=K;try dsimp only at y⊢
 obtain⟨Q,v⟩:=y;simp only[eZ];by_cases o:i<g.fs.length
 ·have q:zW ((i:Int)+1)=((i+1:Nat):Int):=bQ (by omega);rw[drop_eq_getElem_cons o]at v;simp only[ni]at v;have n:=P g.fs[i] (M _ (getElem_mem o));have u:=J g.fs[i];generalize O:g.fs[i]=f at*;refine gO aa (j5 o @O @gy @aH @bj) tI ?_;intro L j w;cases h1:bD f.name with
  |false=>
   rw[h1]at n;have l:ni g.ts.length 0 g.fs=false:=by rw[v];simp[h1]
   rw[l];refine gO aa tI @n ?_;all_goals exact gJ tI
  |true=>
   rw[h1]at n;by_cases F:f.owner<last
   ·have l:ni g.ts.length 0 g.fs=false:=by rw[v,if_neg (fun h=>absurd h.2.1 (by omega))]
    rw[l];refine gO aa @F @n ?_;all_goals exact gJ tI
   ·by_cases G:(g.ts.length:Int)≤f.owner
    ·have l:ni g.ts.length 0 g.fs=false:=by rw[v,if_neg (fun h=>absurd h.2.2.1 (by omega))]
     rw[l];refine gO aa (j4 j @F @G @q) (j2 @n @u) ?_;all_goals exact gJ tI
    ·cases E:iR f.ty g.ts.length with
     |false=>
      rw[E]at u;have l:ni g.ts.length 0 g.fs=false:=by rw[v];simp[E]
      rw[l];refine gO aa (j4 j @F @G @q) (j2 @n @u) ?_;all_goals exact gJ tI
     |true=>
      rw[E]at u;rw[if_pos ⟨h1,by omega,by omega,E⟩]at v;refine gO aa (j4 j @F @G @q) (j2 @n @u) ?_;refine gB ((i+1,f.owner)) (by(try dsimp only);exact an (by simp[j,w]) (lR _)) ?_;try dsimp only
      exact⟨o,v⟩
 ·rw[drop_eq_nil_of_le (by omega)]at v;rw[v];simp only[ni];refine gO aa (j4 o @H @aH @bj) tI ?_;all_goals exact gJ tI
open Rg (Cl fY aL vb b7 bz dA xE)
def OJ (t:Ty) (n:Int) (id:Nat) (σ:AS) (h:σ id=some (.cells 3 [zI n])):
 ad prog 115 [cF t,.ptr id 0] σ (ah (.sc (.bool (!iQ t n))) σ) No:=by
 have hl:=fun σ=>Ke t n σ;generalize iQ t n=b at hl⊢;obtain⟨k,x,d,r⟩:=t;simp only[cF]at hl⊢;refine ad.ob func115 ?_;refine gO aa tI tI ?_;intro l j;have i:¬id=l:=nq h j;refine gO aa (j2 @h i) @hl ?_;all_goals exact gJ tI
def SP (c:Cl) (n:Int) (id:Nat) (σ:AS) (h:σ id=some (.cells 3 [zI n])):
 ad prog 123 [fY c,.ptr id 0] σ (ah (.sc (.bool (!uh c n))) σ) No:=by
 have hl:=fun σ=>ug c n σ;generalize uh c n=b at hl⊢;simp only[aL]at hl⊢;refine ad.ob func123 ?_;refine gO aa tI tI ?_;intro l j;have i:¬id=l:=nq h j;refine gO aa (j2 @h i) @hl ?_;all_goals exact gJ tI
def SQ (x:cE) (m:Mt) (g:bY) (n l:Nat) (σ:AS) (q:σ n=some (.cells 26 (mr g).cells)) (hm:σ l=some (.cells 53 (kH m).cells)):
 ad prog 120 [aJ x,.ptr n 0,.ptr l 0] σ (ah (.sc (.bool (!cS x g.ts.length g.fs.length g.ms.length m.code.length))) σ) No:=by
 have hl:=fun σ=>instr_ok x g m.code.length σ;generalize cS x g.ts.length g.fs.length g.ms.length m.code.length=b at hl⊢;simp only[fI,bj,bw,aR]at hl q hm⊢;refine ad.ob func120 ?_;refine gO aa tI tI ?_;intro o j;have i:¬n=o:=nq q j;have h:¬l=o:=nq hm j;refine gO aa (j4 @q @hm i h) @hl ?_;all_goals exact gJ tI
def Iv (m:Mt) (nt nf nm:Int):Bool:=
 bD m.name&&(decide (0≤m.flags∧m.flags≤31∧0≤m.max∧m.max≤12∧m.ps.length≤6∧m.ls.length≤12∧m.code.length≤160)&&(xQ m.ret nt&&(m.ps.all (fun t=>iQ t nt)&&(m.ls.all (fun t=>iQ t nt)&&
  (m.code.all (fun x=>cS x nt nf nm m.code.length)&&(m.cls.all (fun c=>uh c nt)&&decide ((b7 (bz m.code.length) dA m.cls).2=0)))))))
structure Ry (m:Mt):Prop where
 name:m.name.length≤140737488355328
 ps:m.ps.length≤140737488355328
 ls:m.ls.length≤140737488355328
 code:m.code.length≤140737488355328
 cls:m.cls.length≤140737488355328
def Hv (m:Mt) (g:bY) (M:Ry m) (σ:AS):ad prog 54 [kH m,mr g] σ (ah (.sc (.bool (Iv m g.ts.length g.fs.length g.ms.length))) σ) No:=by
 have q:=fun σ=>sw m.name M.name σ;have G:=fun σ=>Ig m.ret g.ts.length σ;have E:=fun σ id (h:σ id=some (.cells 3 [zI g.ts.length]))=>Sg.fp m.ps .aI m.pn (.fn (.func 115) [] [.ptr id 0]) (fun t=> !iQ t g.ts.length) σ M.ps
  (fun x V=>mM.fn (OJ x g.ts.length id σ h))
 have y:=fun σ id (h:σ id=some (.cells 3 [zI g.ts.length]))=>Sg.fp m.ls .aI m.ln (.fn (.func 115) [] [.ptr id 0]) (fun t=> !iQ t g.ts.length) σ M.ls
  (fun x V=>mM.fn (OJ x g.ts.length id σ h))
 have K:=fun σ I H (hg:σ I=some (.cells 26 (mr g).cells)) (hm:σ H=some (.cells 53 (kH m).cells))=>Ky m.code .aI m.cn (.fn (.func 120) [] [.ptr I 0,.ptr H 0])
  (fun x=> !cS x g.ts.length g.fs.length g.ms.length m.code.length) σ M.code (fun x V=>mM.fn (SQ x m g I H σ hg hm))
 have L:=fun σ id (h:σ id=some (.cells 3 [zI g.ts.length]))=>K9 m.cls .aI m.xn (.fn (.func 123) [] [.ptr id 0]) (fun t=> !uh t g.ts.length) σ M.cls
  (fun x V=>mM.fn (SP x g.ts.length id σ h))
 have J:=fun σ=>xE m.code.length m.cls .aI m.xn M.cls σ;simp only[mI,vb]at E y K L J;unfold Iv;generalize bD m.name=fb at q⊢;generalize xQ m.ret g.ts.length=ab at G⊢;generalize (m.ps.all fun t=>iQ t g.ts.length)=pb at E⊢;generalize (m.ls.all fun t=>iQ t g.ts.length)=qb at y⊢;generalize (m.code.all fun x=>cS x g.ts.length g.fs.length g.ms.length m.code.length)=ib at K⊢;generalize (m.cls.all fun c=>uh c g.ts.length)=cb at L⊢;generalize b7 (bz m.code.length) dA m.cls=ck at J⊢;obtain⟨c1,c2⟩:=ck;simp only[bw,bj,cF,aR]at q G E y K L J⊢;refine ad.ob func54 ?_;refine gO aa tI tI ?_;intro id ac;refine gO aa tI tI ?_;intro am j Y;refine gO aa tI tI ?_;intro id3 l i X;cases fb
 ·refine gO aa (j2 j i) @q ?_;all_goals exact gJ tI
 ·by_cases h1:m.flags<0
  ·refine gO aa (j3 j i @h1) @q ?_;all_goals exact gJ tI
  ·by_cases u:31<m.flags
   ·refine gO aa (j4 j i @h1 @u) @q ?_;all_goals exact gJ tI
   ·by_cases v:m.max<0
    ·refine gO aa (j5 j i @h1 @u @v) @q ?_;all_goals exact gJ tI
    ·by_cases w:12<m.max
     ·refine gO aa (j6 j i @h1 @u @v @w) @q ?_;all_goals exact gJ tI
     ·by_cases Q:m.ps.length≤6
      ·have n:(6<(m.ps.length:Int))=False:=by simp;omega
       by_cases P:m.ls.length≤12
       ·have o:(12<(m.ls.length:Int))=False:=by simp;omega
        cases ab
        ·refine gO aa (j8 j i @h1 @u @v @w @n @o) (j4 @q @G @E @y) ?_;all_goals exact gJ tI
        ·cases pb
         ·refine gO aa (j8 j i @h1 @u @v @w @n @o) (j4 @q @G @E @y) ?_;all_goals exact gJ tI
         ·cases qb
          ·refine gO aa (j8 j i @h1 @u @v @w @n @o) (j4 @q @G @E @y) ?_;all_goals exact gJ tI
          ·by_cases O:m.code.length≤160
           ·have F:(160<(m.code.length:Int))=False:=by simp;omega
            cases ib
            ·refine gO aa (And.intro (j7 j i l @h1 @u @v @w) (j3 @n @o @F)) (j7 @q @G @E @y K @L @J) ?_;all_goals exact gJ (j7 @h1 @u @v @w @Q @P @O)
            ·cases cb
             ·refine gO aa (And.intro (j7 j i l @h1 @u @v @w) (j3 @n @o @F)) (j7 @q @G @E @y K @L @J) ?_;all_goals exact gJ (j7 @h1 @u @v @w @Q @P @O)
             ·refine gO aa (And.intro (j7 j i l @h1 @u @v @w) (j3 @n @o @F)) (j7 @q @G @E @y K @L @J) ?_;all_goals exact gJ (j7 @h1 @u @v @w @Q @P @O)
           ·have F:(160<(m.code.length:Int))=True:=by simp;omega
            refine gO aa (And.intro (j7 j i l @h1 @u @v @w) (j3 @n @o @F)) (j7 @q @G @E @y K @L @J) ?_;refine j2 (ff (by simp[O])) ?_;all_goals exact gJ tI
       ·have o:(12<(m.ls.length:Int))=True:=by simp;omega
        refine gO aa (j8 j i @h1 @u @v @w @n @o) (j4 @q @G @E @y) ?_;refine j2 (ff (by simp[P])) ?_;all_goals exact gJ tI
      ·have n:(6<(m.ps.length:Int))=True:=by simp;omega
       refine gO aa (j7 j i @h1 @u @v @w @n) @q ?_;refine j2 (ff (by simp[Q])) ?_;all_goals exact gJ tI
def pI (nt nf nm:Int):Int→List Mt→Bool
 | _,[]=>true
 |last,m::r=>if last≤m.owner∧m.owner<nt∧Iv m nt nf nm=true then pI nt nf nm m.owner r else false
def Ee (g:bY) (hl:g.ms.length≤140737488355328) (K:∀m∈g.ms,Ry m) (σ:AS):
 ad prog 20 [mr g] σ (ah (.sc (.bool (pI g.ts.length g.fs.length g.ms.length 0 g.ms&&decide (g.ms.length≤64)))) σ) No:=by
 have F:((g.ms.length:Int)≤64)=(g.ms.length≤64):=by simp;omega
 have H:=fun(m:Mt) (h:Ry m) σ=>Hv m g h σ;simp only[bj,bw]at H⊢;refine ad.ob func20 ?_;refine gO aa tI tI ?_;intro id G;refine gO aa tI tI ?_;refine aq.aQ (α:=(Nat)×(Int)) ((0,0)) (fun⟨i,last⟩=>g.ms.length-i) (fun⟨i,last⟩=>i≤g.ms.length∧pI g.ts.length g.fs.length g.ms.length 0 g.ms=pI g.ts.length g.fs.length g.ms.length last (g.ms.drop i)) [(1,?_),(7,?_),(8,?_)] (fun⟨i,last⟩=> [(9,zI i),(3,zI last)]) (fun⟨i,last⟩=>σ.set id (.cells 26 (mr g).cells)) ?_ ?_ ?_ ?_;rotate_left 3
 ·exact gF tI
 ·exact gT
 ·(try dsimp only)<;>first|exact trivial|exact⟨by omega,rfl⟩|omega|(simp;done)|exact⟨by omega,by simp⟩|exact⟨by omega,by simp,rfl⟩
 intro I v;obtain⟨i,last⟩:=I;try dsimp only at v⊢
 obtain⟨M,q⟩:=v;simp only[eZ];by_cases n:i<g.ms.length
 ·have l:zW ((i:Int)+1)=((i+1:Nat):Int):=bQ (by omega);rw[drop_eq_getElem_cons n]at q;simp only[pI]at q;have o:=H g.ms[i] (K _ (getElem_mem n));generalize L:g.ms[i]=m at*;refine gO aa (j5 n @L @bw @aH @bj) tI ?_;intro J j u;by_cases y:m.owner<last
  ·rw[q,if_neg (fun h=>absurd h.1 (by omega))];refine gO aa @y tI ?_;all_goals exact gJ tI
  ·by_cases E:(g.ts.length:Int)≤m.owner
   ·rw[q,if_neg (fun h=>absurd h.2.1 (by omega))];refine gO aa (j4 j @y @E @l) @o ?_;all_goals exact gJ tI
   ·cases w:Iv m g.ts.length g.fs.length g.ms.length with
    |false=>rw[w]at o;rw[q,if_neg (by simp[w])];refine gO aa (j4 j @y @E @l) @o ?_;all_goals exact gJ tI
    |true=>
     rw[w]at o;rw[if_pos ⟨by omega,by omega,w⟩]at q;refine gO aa (j4 j @y @E @l) @o ?_;refine gB ((i+1,m.owner)) (by(try dsimp only);exact an (by simp[j,u]) (lR _)) ?_;try dsimp only
     exact⟨n,q⟩
 ·rw[drop_eq_nil_of_le (by omega)]at q;rw[q];simp only[pI];refine gO aa (j4 n @F @aH @bj) tI ?_;all_goals exact gJ tI
structure O4 (g:bY):Prop where
 ts:g.ts.length≤140737488355328
 fs:g.fs.length≤140737488355328
 ms:g.ms.length≤140737488355328
 t:∀t∈g.ts,t.bg.length≤140737488355328∧t.name.length≤140737488355328
 f:∀f∈g.fs,f.name.length≤140737488355328
 m:∀m∈g.ms,Ry m
def Gi (g:bY):Bool:=GQ g.ts&&((ni g.ts.length 0 g.fs&&decide (g.fs.length≤64))&&((pI g.ts.length g.fs.length g.ms.length 0 g.ms&&decide (g.ms.length≤64))&&decide (-1≤g.entry∧g.entry<g.ms.length)))
def tX (g:bY) (j:O4 g) (σ:AS):ad prog 9 [mr g] σ (ah (.sc (.bool (Gi g))) σ) No:=by
 have h1:=fun σ=>IH g j.ts j.t σ;have i:=fun σ=>ua g j.fs j.ts j.f σ;have h:=fun σ=>Ee g j.ms j.m σ;unfold Gi;generalize GQ g.ts=v at h1⊢;generalize (ni g.ts.length 0 g.fs&&decide (g.fs.length≤64))=u at i⊢;generalize (pI g.ts.length g.fs.length g.ms.length 0 g.ms&&decide (g.ms.length≤64))=q at h⊢;simp only[bj]at h1 i h⊢;refine ad.ob func9 ?_;refine gO aa tI tI ?_;intro id n;cases v
 ·refine gO aa tI (j3 @h1 @i @h) ?_;all_goals exact gJ tI
 ·cases u
  ·refine gO aa tI (j3 @h1 @i @h) ?_;all_goals exact gJ tI
  ·cases q
   ·refine gO aa tI (j3 @h1 @i @h) ?_;all_goals exact gJ tI
   ·by_cases l: -1≤g.entry
    ·by_cases o:g.entry<g.ms.length
     ·refine gO aa (j2 @l @o) (j3 @h1 @i @h) ?_;all_goals exact gJ tI
     ·refine gO aa (j2 @l @o) (j3 @h1 @i @h) ?_;all_goals exact gJ tI
    ·refine gO aa @l (j3 @h1 @i @h) ?_;all_goals exact gJ tI
abbrev oh:bW:=(.A 0 (.A 1 (.S 2 (.S 3 (.A 4 (.S 5 .D) .Z))) .Z) (.A 1 (.S 2 (.R 0 (.S 3 (.A 4 (.S 5 .D) .Z)))) .Z))
def aW (S:List Nat):bH prog [(3,oh)] S:=mixed
open Sg (aC bL cM b9 kZ mj dO)
open Pl (sV bJ bU)
def mA (g:bY):List (zY):=Ch g g.ms.length
def dT (g:bY):List (zY):=EO g++(dx g).lo.map (fun t=>cM (dO t))
def kp (g:bY) (nm bl:Nat→Int):List (List (List Int)):= [cG g nm,cB g nm bl,cI g nm bl,(df g).flatten,dD g bl,dW g bl]
def nu (g:bY) (i:Nat):Int:=(bJ (mA g)).2.1.getD i 0
def nW (g:bY) (i:Nat):Int:=(bU (dT g)).2.1.getD i 0
def uH (a b c d:zY):zY×Int:=
 if 65536<a.length∨65536<b.length∨65536<c.length∨65536<d.length∨65536<(St.jg (fun k=>(St.iN a b c d k))).length then([],4)else(St.jg (fun k=>St.iN a b c d k),0)
def cT (g:bY):zY×Int:=
 if Gi g=false then([],17)else
 if (bJ (mA g)).2.2≠0 then([],(bJ (mA g)).2.2)else
 if (bU (dT g)).2.2≠0 then([],(bU (dT g)).2.2)else
 if Rw.okW (kp g (nu g) (nW g)) (g.entry+1)=false then([],4)else
 uH (Rw.dd (kp g (nu g) (nW g)) (g.entry+1)) (bJ (mA g)).1 (bU (dT g)).1 (dx g).co
def yj (g:bY):AV:= .bI [.ao 5 ((cT g).1.map u8) .aI (decide ((cT g).2≠0)),zI ((cT g).2)]
def nF {g:bY}{e:Int}(he:e≠0) (h:cT g=([],e)):AV.Wk prog (.bI [.ai,zI e]) (yj g):=by unfold yj;rw[h];exact cq (by simp[he]) (Wk.refl _)
def R3:List (Nat×TypeId):= [(4,49),(6,47),(8,9),(9,30),(10,5)]
def T9:List (Nat×TypeId):= [(0,44),(1,44),(2,44),(3,44),(4,44),(5,44)]
def Tw (g:bY) (bp:Nat):List AV:= [.ao 46 (g.ts.map nA) .aI g.tn,.ao 56 (g.fs.map pR) .aI g.fn,.ao 53 (g.ms.map kH) .aI g.mn,zI g.entry,
 .ai,.sc (.func (.func 25) #[] #[]),.ai,.sc (.func (.func 26) #[] #[]),.ai,.ai,.ai,zI 0,.fH bp 0 6 6]
def SI.init {g:bY}{B σ E v:AS}{aO bp:Nat}{l i:List Nat}(Y:B aO=none) (hr:B bp=none) (w:aO≠bp) (K:∀j,j≠aO→j≠bp→σ j=B j) (J:σ aO≠none) (F:σ bp≠none)
 (l1:l.length=5) (n1:l.Nodup) (f1:∀t∈l,σ t=none) (c1:E aO=some (.cells 74 (BN (Tw g bp) R3 l))) (t1:∀t∈l,E t=some (.tok 0)) (I:∀j,j≠aO→j ∉ l→E j=σ j)
 (l2:i.length=6) (n2:i.Nodup) (f2:∀t∈i,E t=none) (L:v bp=some (.cells 94 (BN [.ai,.ai,.ai,.ai,.ai,.ai] T9 i))) (t2:∀t∈i,v t=some (.tok 0)) (H:∀j,j≠bp→j ∉ i→v j=E j):
 ∃k T,k.aO=aO∧SI k g ⟨[],[],[],[],[]⟩ T B v∧cH T= [[],[],[],[],[],[]]:=by
 have a1:aO ∉ l:=fun h=>J (f1 _ h);have V:bp ∉ l:=fun h=>F (f1 _ h);have Q:aO ∉ i:=fun h=>by have:=f2 _ h;rw[c1]at this;cases this
 have a4:bp ∉ i:=fun h=>by have:=f2 _ h;rw[I _ w.symm V]at this;exact F this
 have P:∀t∈l,t ∉ i:=fun t ht h=>by have:=f2 _ h;rw[t1 t ht]at this;cases this
 have O:∀t∈l,t≠aO∧t≠bp:=fun t ht=>⟨fun e=>a1 (e ▸ ht),fun e=>V (e ▸ ht)⟩;have M:∀t∈i,t≠aO∧t≠bp:=fun t ht=>⟨fun e=>Q (e ▸ ht),fun e=>a4 (e ▸ ht)⟩;have y:∀t∈l,v t=some (.tok 0):=fun t ht=>by rw[H _ (O t ht).2 (P t ht)];exact t1 t ht
 have b1:∀t∈l,B t=none:=fun t ht=>by rw[←K _ (O t ht).1 (O t ht).2];exact f1 t ht
 have b2:∀t∈i,B t=none:=fun t ht=>by rw[←K _ (M t ht).1 (M t ht).2,←I _ (M t ht).1 (fun h=>P t h ht)];exact f2 t ht
 have hle:AS.le B v:=by
  intro j b u;have X:j≠aO:=nq Y u;have j2:j≠bp:=nq hr u;have j3:j ∉ l:=fun h=>by rw[b1 _ h]at u;cases u
  have j4:j ∉ i:=fun h=>by rw[b2 _ h]at u;cases u
  rw[H _ j2 j4,I _ X j3,K _ X j2];exact u
 have n:v aO=some (.cells 74 (BN (Tw g bp) R3 l)):=by rw[H _ w Q];exact c1
 have o:(aO::bp::(l++i)).Nodup:=by simp only[nodup_cons,mem_cons,mem_append,not_or];exact⟨⟨w,a1,Q⟩,⟨V,a4⟩,nodup_append.2 ⟨n1,n2,fun a ha b hb e=>P a ha (e ▸ hb)⟩⟩
 have q:∀j∈aO::bp::(l++i),B j=none:=by
  intro j u;simp only[mem_cons,mem_append]at u;rcases u with rfl|rfl|h|h
  ·exact Y
  ·exact hr
  ·exact b1 j h
  ·exact b2 j h
 match l,l1,n,y,o,q with
 |[a,b,c,d,e],_,n,y,o,q=>
 match i,l2,L,t2,o,q with
 |[x0,x1,x2,x3,x4,x5],_,L,t2,o,q=>
  refine⟨⟨aO,bp,a,b,c,d,e⟩,[(x0,[]),(x1,[]),(x2,[]),(x3,[]),(x4,[]),(x5,[])],rfl,⟨n,L,y a (by simp),y b (by simp),y c (by simp),y d (by simp),y e (by simp),?_,?_,hle,rfl,o,q⟩,rfl⟩
  ·intro x G;simp only[mem_cons,not_mem_nil,or_false]at G;rcases G with rfl|rfl|rfl|rfl|rfl|rfl<;>exact t2 _ (by simp)
  ·intro x G p hp;simp only[mem_cons,not_mem_nil,or_false]at G;rcases G with rfl|rfl|rfl|rfl|rfl|rfl<;>cases hp
def EV (g:bY):List Int:=(bJ (mA g)).2.1
def Bb (g:bY):List Int:=(bU (dT g)).2.1
section
variable {k:SK} {g:bY} {d:SD} {T:SR} {B τ:AS} {en:Int}
def SJ.le (h:SJ k g d T B en τ):AS.le B τ:=by obtain⟨i,h0,rfl⟩:=h;exact AS.aj h0.le (h0.OO).1
def SJ.mD (h:SJ k g d T B en τ) {i:Nat}(j:τ i=none):B i=none:=qy h.le j
def SJ.own (h:SJ k g d T B en τ) {i:Nat}{b:bP}(l:τ i=none):SJ k g d T (B.set i b) en (τ.set i b):=by
 have j:k.aO≠i:=by rintro e;have:=h.aO;rw[e,l]at this;cases this
 obtain⟨n,h0,rfl⟩:=h;rw[AS.ae _ _ (Ne.symm j)]at l;exact⟨_,h0.own l,AS.set_comm j⟩
def SJ.drop (h:SJ k g d T B en τ) {B':AS}(hle:AS.le B' B):SJ k g d T B' en τ:=by obtain⟨i,h0,rfl⟩:=h;exact⟨i,h0.drop hle,rfl⟩
def SJ.step (h:SJ k g d T B en τ) {t c:Nat}{P:List Int}{op:cC}{np:Bool}{X:List (List Int)}(i:(cH T)[t]? =some X) (hl:X.length≤100000) (u:P.length≤100000) (q:∀r∈X,c<r.length∧0≤r.getD c 0∧(r.getD c 0).toNat<P.length∧r.length≤1000):
 ad prog 31 [.ptr k.aO 0,zI t,zI c,.ao 3 (P.map aS) op np] τ (fun r l=>r= .bI []∧ ∃n,SJ k g d n B en l∧cH n=(cH T).modify t (·.map (LO c P))) No:=by
 rw[cH,getElem?_map]at i;cases j:T[t]? with
 |none=>rw[j]at i;cases i
 |some x=>rw[j]at i;simp only[Option.map_some,Option.some.injEq]at i;subst i;exact(h.place j (by simpa using hl) u (fun p o=>q p.2 (mem_map.2 ⟨p,o,rfl⟩))).mono (fun r l ⟨h1,v⟩=>⟨h1,_,v,IQ _ _ _ _⟩) (fun _ _ h=>h)
end
def iE {α β:Type}{f:Nat→α→β}{l:List α}{y:β}(h:y∈l.mapIdx f):∃i,∃j:i<l.length,y=f i l[i]:=by obtain⟨i,j,rfl⟩:=getElem_of_mem h;exact⟨i,by simpa using j,by simp⟩
def JP {τ:AS} :∀ {L:List Fz}{σ:AS},AS.le σ τ→(∀p∈L,τ p.1=some (.cells p.2.1 (aB p.2.2)))→AS.le (wO L σ) τ
 |[],_,h,_ =>h
 |p::r,σ,h,l=>by
  intro j b i;by_cases e:j=p.1
  ·subst e;rw[wO,AS.ak]at i;cases i;exact l p (by simp)
  ·rw[wO,AS.ae _ _ e]at i;exact JP h (fun q n=>l q (by simp[n])) j b i
def xk:∀ {l:List AV},(∀v∈l,v.cells= [v])→aB l=l
 |[],_ =>rfl
 |v::r,h=>by rw[jU,h v (by simp),xk fun x i=>h x (by simp[i])];rfl
def G5 (T:SR):Rw.LR:=T.map fun x=>(x.2.map (fun p=>(p.2,false)),decide (x.2= []))
def FF (T:SR):Rw.pl (G5 T)=cH T:=by simp[Rw.pl,G5,Rw.uY,cH,Function.comp_def]
def Sq (T:SR):List Fz:=T.flatMap fun x=>x.2.map fun p=>(p.1,3,p.2.map aS)
section
variable {k:SK} {g:bY} {d:SD} {T:SR} {B τ:AS} {en:Int}
def SJ.write (h:SJ k g d T B en τ) (hb:∀y∈cH T,y.length≤20000) (hc:∀y∈cH T,∀r∈y,r.length≤1000) (hF:Rw.eM (cH T)=true):
 ad prog 32 [.agg [zI en,.fH k.bp 0 6 6]] τ (Rw.zz (Rw.dd (cH T) en) (Rw.okW (cH T) en) (B.set k.aO (.cells 74 (vY k g d en)))) No:=by
 have ab:=h.aO;have hw:=Rw.GH en (G5 T) .aI false (fun x j=>by
  obtain⟨y,o,rfl⟩:=mem_map.1 j;have:=hb _ (mem_map.2 ⟨y,o,rfl⟩);simpa using this) (fun x j r M=>by
  obtain⟨y,o,rfl⟩:=mem_map.1 j;obtain⟨p,n,rfl⟩:=mem_map.1 M;exact hc _ (mem_map.2 ⟨y,o,rfl⟩) p.2 (mem_map.2 ⟨p,n,rfl⟩)) (by rw[FF];exact hF) (B.set k.aO (.cells 74 (vY k g d en)))
 rw[FF]at hw;obtain⟨τ0,h0,X⟩:=h;have F:∀v∈T.map BE,v.cells= [v]:=fun v H=>by obtain⟨x,_,rfl⟩:=mem_map.1 H;rfl
 have hint:∀(l:List Int),∀v∈l.map aS,v.cells= [v]:=fun l v H=>by obtain⟨x,_,rfl⟩:=mem_map.1 H;rfl
 have w:∀p∈Sq T,∃x∈T,∃q∈x.2,p=(q.1,3,q.2.map aS):=fun p n=>by obtain⟨x,j,n⟩:=mem_flatMap.1 n;obtain⟨q,u,rfl⟩:=mem_map.1 n;exact⟨x,j,q,u,rfl⟩
 have K:(Sq T).map (·.1)=T.flatMap fun x=>x.2.map (·.1):=by simp[Sq,map_flatMap,Function.comp_def]
 have Q:=nodup_append.1 h0.kp;have J:=h0.ne;have V:=h0.OO;refine ad.le (σ:=wO ((k.bp,94,T.map BE)::Sq T) (B.set k.aO (.cells 74 (vY k g d en)))) (ad.Wb ((k.bp,94,T.map BE)::Sq T) hw ?_ ?_ ?_ ?_) (JP ?_ ?_)
 ·intro p n;rcases mem_cons.1 n with rfl|n
  ·rw[AS.ae _ _ (Ne.symm J.1)];exact V.2.1
  ·obtain⟨x,j,q,u,rfl⟩:=w p n;rw[AS.ae _ _ (h0.DV j u).1];exact h0.fr q.1 (by simp only[keys,mem_cons,mem_append,mem_flatMap,mem_map];exact .inr (.inr (.inr (.inr (.inr (.inr (.inr (.inr ⟨x,j,q,u,rfl⟩))))))))
 ·rw[map_cons,K,nodup_cons];refine⟨fun hm=> ?_,Q.2.1⟩;obtain⟨x,j,hm⟩:=mem_flatMap.1 hm;obtain⟨q,u,e⟩:=mem_map.1 hm;exact(h0.DV j u).2.1 e
 ·intro p n v H;rcases mem_cons.1 n with rfl|n
  ·rw[F v H];simp
  ·obtain⟨x,j,q,u,rfl⟩:=w p n;rw[hint _ v H];simp
 ·intro G xs Y M;have I:=Y _ (mem_cons_self);have P:∀x∈T,∀q∈x.2,∀y,aV prog G (Is q) y→aV prog G (Rw.iV (q.2,false)) y:=fun x j q u y o=>by have:=Y (q.1,3,q.2.map aS) (mem_cons_of_mem _ (mem_flatMap.2 ⟨x,j,mem_map.2 ⟨q,u,rfl⟩⟩)) y (by simpa[Is]using o);exact(qh _ _ _ _).2 trivial _ _ this
  have O:∀x∈T,∀y,aV prog G (BE x) y→aV prog G (Rw.lV (x.2.map (fun p=>(p.2,false)),decide (x.2= []))) y:=fun x j y o=>by
   refine Cs (by simp) (by simp) (fun i E=>⟨?_,?_⟩) (fun i E y o=> ?_) o
   ·simp[Is,AV.cells]
   ·simp[Rw.iV,AV.cells]
   ·simp only[getElem_map]at o⊢;exact P x j _ (getElem_mem _) y o
  have L:∀y,aV prog G (.fH k.bp 0 6 6) y→aV prog G (.ao 94 ((G5 T).map Rw.lV) .aI false) y:=fun y o=>by
   have h1:=I y (by simpa[h0.Fu]using o);refine Cs (by simp) (by simp[G5]) (fun i E=>⟨?_,?_⟩) (fun i E y o=> ?_) h1
   ·simp[BE,AV.cells]
   ·simp[Rw.lV,AV.cells]
   ·simp only[getElem_map,G5]at o⊢;exact O _ (getElem_mem _) y o
  refine⟨M.1,fun i E=> ?_⟩;have h1:=M.2 i E
  match i,E with
  |0,_ =>
   simp only[getD_cons_zero]at h1⊢;generalize xs.getD 0 undef=x at h1⊢;cases h1 with
   |agg vs l hh=>
    refine .agg vs l fun i E=> ?_;have h2:=hh i E
    match i,E with
    |0,_ =>exact h2
    |1,_ =>exact L _ h2
 ·rw[X];exact kh h0.le
 ·intro p n;rw[X];rcases mem_cons.1 n with rfl|n
  ·rw[AS.ae _ _ (Ne.symm J.1),h0.bp,xk F]
  ·obtain⟨x,j,q,u,rfl⟩:=w p n;rw[AS.ae _ _ (h0.DV j u).1,h0.row x j q u,xk (hint _)];rfl
end
def pK {α β γ:Type}(f:Nat→α→β) (h:β→γ) (l:List α):(l.mapIdx f).map h=l.mapIdx fun i x=>h (f i x):=by apply ext_getElem<;>simp
def Sw (g:bY):(cG g dv).map (LO 1 (EV g))=cG g (nu g):=by unfold cG;rw[pK];congr 1
def PO (g:bY) (b:Nat→Int):(cB g dv b).map (LO 1 (EV g))=cB g (nu g) b:=by unfold cB;rw[pK];congr 1
def PM (g:bY) (b:Nat→Int):(cI g dv b).map (LO 3 (EV g))=cI g (nu g) b:=by unfold cI;rw[pK];congr 1
def PN (g:bY) (n:Nat→Int):(cB g n dv).map (LO 2 (Bb g))=cB g n (nW g):=by unfold cB;rw[pK];congr 1
def PL (g:bY) (n:Nat→Int):(cI g n dv).map (LO 4 (Bb g))=cI g n (nW g):=by unfold cI;rw[pK];congr 1
def Sx (g:bY):(dD g dv).map (LO 0 (Bb g))=dD g (nW g):=by unfold dD;rw[map_map];congr 1
def Sz (g:bY):(dW g dv).map (LO 0 (Bb g))=dW g (nW g):=by unfold dW;rw[map_map];congr 1
def Ua (g:bY) (i:Nat):List (List (List Int)):= [cG g (if 0<i then nu g else dv),cB g (if 1<i then nu g else dv) dv,cI g (if 2<i then nu g else dv) dv,(df g).flatten,dD g dv,dW g dv]
def Q6 (g:bY) (i:Nat):List (List (List Int)):= [cG g (nu g),cB g (nu g) (if 0<i then nW g else dv),cI g (nu g) (if 1<i then nW g else dv),(df g).flatten,dD g (if 2<i then nW g else dv),dW g (if 3<i then nW g else dv)]
def Hr {l:List (zY)}(h:(bJ l).2.2=0):(bJ l).1.length≤65536:=by
 unfold bJ at*;split at h
 ·simp at h
 ·rename_i j;rw[if_neg j];split at h
  ·simp at h
  ·rename_i i;rw[if_neg i];show(Pl.tD l [0] []).1.length≤65536;omega
def H7 {l:List (zY)}(h:(bU l).2.2=0):(bU l).1.length≤65536:=by
 unfold bU at*;split at h
 ·simp at h
 ·rename_i i;rw[if_neg i];show(Pl.uj l [0] []).1.length≤65536;omega
def vz (g:bY):(mA g).length=g.ts.length+g.fs.length+g.ms.length:=by simp[mA,Ch];omega
def P7 {g:bY}(h:O4 g):∀s∈mA g,s.length≤140737488355328:=by
 intro s j;simp only[mA,Ch,take_length,mem_append,mem_map]at j;rcases j with(⟨x,i,rfl⟩|⟨x,i,rfl⟩)|⟨x,i,rfl⟩
 ·exact(h.t x i).2
 ·exact h.f x i
 ·exact(h.m x i).name
def qa (g:bY):(dT g).length=g.fs.length+g.ms.length+(dx g).sp.length+(dx g).lo.length:=by rw[dT,length_append,EO,length_append,qJ];simp
def XZ {g:bY}(h:(EV g).length=(mA g).length):∀r∈cG g dv,1<r.length∧0≤r.getD 1 0∧(r.getD 1 0).toNat<(EV g).length∧r.length≤1000:=by intro r j;obtain⟨i,l,rfl⟩:=iE j;have:=vz g;simp[qY,dv];omega
def XY {g:bY}{b:Nat→Int}(h:(EV g).length=(mA g).length):∀r∈cB g dv b,1<r.length∧0≤r.getD 1 0∧(r.getD 1 0).toNat<(EV g).length∧r.length≤1000:=by intro r j;obtain⟨i,l,rfl⟩:=iE j;have:=vz g;simp[uO,dv];omega
def XX {g:bY}{b:Nat→Int}(h:(EV g).length=(mA g).length):∀r∈cI g dv b,3<r.length∧0≤r.getD 3 0∧(r.getD 3 0).toNat<(EV g).length∧r.length≤1000:=by intro r j;obtain⟨i,l,rfl⟩:=iE j;have:=vz g;simp[dK]at l;simp[rZ,dv];omega
def XW {g:bY}{n:Nat→Int}(h:(Bb g).length=(dT g).length):∀r∈cB g n dv,2<r.length∧0≤r.getD 2 0∧(r.getD 2 0).toNat<(Bb g).length∧r.length≤1000:=by intro r j;obtain⟨i,l,rfl⟩:=iE j;have:=qa g;simp[uO,dv];omega
def XV {g:bY}{n:Nat→Int}(h:(Bb g).length=(dT g).length):∀r∈cI g n dv,4<r.length∧0≤r.getD 4 0∧(r.getD 4 0).toNat<(Bb g).length∧r.length≤1000:=by intro r j;obtain⟨i,l,rfl⟩:=iE j;have:=qa g;simp[dK]at l;simp[rZ,dv];omega
def XU {g:bY}(h:(Bb g).length=(dT g).length):∀r∈dD g dv,0<r.length∧0≤r.getD 0 0∧(r.getD 0 0).toNat<(Bb g).length∧r.length≤1000:=by intro r j;obtain⟨i,l,rfl⟩:=mem_map.1 j;have:=qa g;simp at l;simp[qd,dv];omega
def XT {g:bY}(h:(Bb g).length=(dT g).length):∀r∈dW g dv,0<r.length∧0≤r.getD 0 0∧(r.getD 0 0).toNat<(Bb g).length∧r.length≤1000:=by intro r j;obtain⟨i,l,rfl⟩:=mem_map.1 j;have:=qa g;simp at l;simp[qd,dv];omega
def py (g:bY) (nm bl:Nat→Int):Rw.eM (kp g nm bl)=true:=by
 have o:∀ {α:Type} (f:Nat→α→List Int) (l:List α) (n:Nat),(∀i x,(f i x).length=n)→(l.mapIdx f).all (fun row=>decide (row.length=n))=true:=by intro α f l n h;rw[all_eq_true];intro r j;obtain⟨i,w,rfl⟩:=iE j;simp[h]
 have y:((df g).flatten).all (fun row=>decide (row.length=2))=true:=by rw[all_eq_true];intro r j;obtain⟨l,hl,j⟩:=mem_flatten.1 j;obtain⟨i,w,rfl⟩:=iE hl;obtain⟨x,_,rfl⟩:=mem_map.1 j;rfl
 have h0:=o (qY g nm) g.ts 5 (fun _ _ =>rfl);have h1:=o (uO g nm bl) g.fs 3 (fun _ _ =>rfl);have E:=o (rZ g nm bl) (g.ms.zip (dC nZ g.ms).2) 6 (fun _ _ =>rfl);have k0:(bC ((0:Nat):Int)).length=5:=rfl;have k1:(bC ((1:Nat):Int)).length=3:=rfl;have v:(bC ((2:Nat):Int)).length=6:=rfl;have u:(bC ((3:Nat):Int)).length=2:=rfl;have k4:(bC ((4:Nat):Int)).length=1:=rfl;have q:(bC ((5:Nat):Int)).length=1:=rfl;simp only[Rw.eM,kp,Rw.im,cG,cB,cI,k0,k1,v,u,k4,q,h0,h1,E,y,Bool.true_and,Bool.and_true,Nat.zero_add,Nat.reduceAdd];simp[dD,dW,qd]
def vT {g:bY}(h:sM g) (nm bl:Nat→Int):∀y∈kp g nm bl,y.length≤20000:=by
 have o:=h.ts;have u:=h.fs;have q:=h.ms;have i:=tZ h g.ts.length;rw[take_of_length_le (by simp[df])]at i;have l:(dx g).sp.length≤20000:=by have:=h.sp g.ms.length;rwa [take_length]at this
 have n:(dx g).lo.length≤64:=by have:=h.lo g.ms.length;rwa [take_length]at this
 intro y j;simp only[kp,mem_cons,not_mem_nil,or_false]at j;rcases j with rfl|rfl|rfl|rfl|rfl|rfl
 ·simp[cG];omega
 ·simp[cB];omega
 ·simp[cI,dK];omega
 ·omega
 ·simp[dD];omega
 ·simp[dW];omega
def ze:∀ {L:List (List (List Int))}{t:Nat},Rw.im t L=true→ ∀y∈L,∀r∈y,r.length≤6
 |[],_,_,y,i=>by cases i
 |x::l,t,h,y,i=>by
  simp only[Rw.im,Bool.and_eq_true]at h;rcases mem_cons.1 i with rfl|i
  ·intro r j;have:=all_eq_true.1 h.1 r j;have n:=Rw.qB (t:Int);simp at this;omega
  ·exact ze h.2 y i
def IN (g:bY) (nm bl:Nat→Int):∀y∈kp g nm bl,∀r∈y,r.length≤1000:=fun y i r j=>by have h:=py g nm bl;simp only[Rw.eM,Bool.and_eq_true]at h;have:=ze h.2 y i r j;omega
def FE:∀(i:zY) (r:List Int),(Rw.qP i r).length≤4*i.length
 |[],r=>by cases r<;>simp[Rw.qP]
 |k::i,[]=>by simp[Rw.qP]
 |k::i,x::r=>by have:=FE i r;have hw:=Rw.Bz k 0;simp only[Rw.qP,length_append,aA,length_cons];rcases hw with h|h<;>rw[h]<;>simp<;>omega
def Fl (t:Nat):∀(l:List (List Int)),(Rw.pg t l).length≤24*l.length
 |[]=>by simp[Rw.pg]
 |r::l=>by have h1:=Fl t l;have i:=FE (bC t) r;have h:=Rw.qB (t:Int);simp only[Rw.pg,flatMap_cons,length_append,length_cons]at h1⊢;omega
def Da:∀(L:List (List (List Int))) (t:Nat),(∀l∈L,l.length≤20000)→(Rw.iw t L).length≤480000*L.length
 |[],t,_ =>by simp[Rw.iw]
 |l::L,t,h=>by have h1:=Da L (t+1) fun x i=>h x (by simp[i]);have n:=Fl t l;have j:=h l (by simp);simp only[Rw.iw,length_append,length_cons];omega
def Gv:∀(L:List (List (List Int))),(Rw.kD L).length≤2*L.length
 |[]=>by simp[Rw.kD]
 |l::L=>by
  have h1:=Gv L;have h:(Rw.sD l).length≤2:=by unfold Rw.sD;split<;>simp[aA]
  simp only[Rw.kD,flatMap_cons,length_append,length_cons]at h1⊢;omega
def GI {L:List (List (List Int))}(en:Int) (h:∀l∈L,l.length≤20000) (i:L.length=6):(Rw.dd L en).length≤10000000:=by have h1:=Da L 0 h;have j:=Gv L;simp only[Rw.dd,length_append,aA,length_cons,length_nil];omega
def NU (l:List (zY)) (nl:Bool) (j:cC) (hl:l.length≤100000) (n:∀s∈l,s.length≤300) (σ:AS):
 ad prog 30 [.ao 30 (l.map bL) j nl] σ (ah (Pl.QL l) σ) No:=by
 have h:=Pl.H6 (l.map fun b=>(b,decide (b= []))) nl j (by simpa using hl) (fun s i=>by obtain⟨b,o,rfl⟩:=mem_map.1 i;exact n b o) σ;rw[map_map,map_map]at h;have u:(Pl.bV∘fun b=>(b,decide (b= [])))=bL:=rfl;have q:((fun x:zY×Bool=>x.1)∘fun b=>(b,decide (b= [])))=id:=rfl;rw[u,q,map_id]at h;exact h
def Fx (g:bY) (hL:O4 g) (hO:Gi g=true→sM g) (c9:Gi g=true→ ∀b∈dT g,b.length≤300) (σ:AS):ad prog 12 [mr g] σ (ah (yj g) σ) No:=by
 have af:=fun σ=>tX g hL σ;cases hF:Gi g with
 |false=>
  rw[hF]at af;have hS:cT g=([],17):=by unfold cT;rw[if_pos hF]
  simp only[bj]at af⊢;refine ad.ob func12 ?_;refine gO aW tI tI ?_;intro O V;refine gO aW tI @af ?_;exact⟨nF (by decide) hS,AS.aj (lR _) V⟩
 |true=>
 rw[hF]at af;have J:=hO hF;have db:=c9 hF;simp only[bj]at af⊢;refine ad.ob func12 ?_;refine gO aW tI tI ?_;intro O V;refine gO (S:= [3]) aW tI @af ?_;refine Sg.xC (α:=Nat×Nat) (fun v=>v.1≠O∧σ v.1=none∧v.2≠v.1∧v.2≠O∧σ v.2=none) (fun v=> [(1,.ptr O 0),(4,.ptr v.2 0)]) (fun v=>((σ.set O (.cells 26 [.ao 46 (g.ts.map nA) .aI g.tn,.ao 56 (g.fs.map pR) .aI g.fn,.ao 53 (g.ms.map kH) .aI g.mn,zI g.entry])).set v.1 (.cells 94 (jl 6 .ai))).set v.2 (.cells 74 [.ao 46 (g.ts.map nA) .aI g.tn,.ao 56 (g.fs.map pR) .aI g.fn,.ao 53 (g.ms.map kH) .aI g.mn,zI g.entry,
  .ai,.sc .nilFunc,.ai,.sc .nilFunc,.ai,.ai,.ai,zI 0,.fH v.1 0 6 6])) ?_ ?_
 ·(((with_reducible apply dX 3 oh);refine dY mixed ?_);simp-implicitDefEqProofs)
  constructor
  ·intro bp n1 h1 aO n2 Q h2;refine fK.mk ((bp,aO)) (gF tI) gT ?_;try dsimp only
   exact⟨n1,h1,n2,Q,h2⟩
  ·intro bp n1 h1;have b2:=aK n1;simp-implicitDefEqProofs [b2];intro aO n2 Q h2;refine fK.mk ((bp,aO)) (gF tI) gT ?_;try dsimp only
   exact⟨n1,h1,n2,Q,h2⟩
 rintro⟨bp,aO⟩ ⟨n1,h1,n2,Q,h2⟩;simp only at n1 h1 n2 Q h2⊢;have b2:=aK n1;have a1:=aK n2;have ei:=aK Q;refine gO (S:= [6]) aW tI tI ?_;refine aq.J7 aO (ty:=74) R3 (cs:=Tw g bp) (by simp[Tw]) (by simp[R3,Tw]) (by simp[R3]) ?_;intro eg σ1 l1 m1 f1 c1 t1 o1;have et:∀ {σ':AS},σ' bp=some (.cells 94 (jl 6 .ai))→σ' bp≠none:=fun h=>by rw[h];simp
 have b5:σ1 bp=some (.cells 94 (jl 6 .ai)):=by rw[o1 bp a1 (fun h=>by have:=f1 _ h;simp[a1]at this)];simp[a1]
 refine aq.J7 bp (ty:=94) T9 (cs:=jl 6 .ai) b5 (by simp[T9,jl]) (by simp[T9]) ?_;intro d5 σ2 l2 m2 f2 c2 t2 o2;obtain⟨k,T,rfl,dn,hT⟩:=SI.init (g:=g) (B:=σ.set O (.cells 26 [.ao 46 (g.ts.map nA) .aI g.tn,.ao 56 (g.fs.map pR) .aI g.fn,.ao 53 (g.ms.map kH) .aI g.mn,zI g.entry])) (by simp[Q,h2]) (by simp[n1,h1]) n2
  (fun j j1 j2=>by simp[AS.set,j1,j2]) (by simp) (by simp[a1]) l1 m1 f1 c1 t1 o1 l2 m2 f2 c2 t2 o2
 clear o1 o2 c1 c2 t1 t2 f1 f2 b5;have ab:AS.le σ (σ.set O (.cells 26 [.ao 46 (g.ts.map nA) .aI g.tn,.ao 56 (g.fs.map pR) .aI g.fn,.ao 53 (g.ms.map kH) .aI g.mn,zI g.entry])):=AS.aj (lR _) V;generalize (σ.set O (.cells 26 [.ao 46 (g.ts.map nA) .aI g.tn,.ao 56 (g.fs.map pR) .aI g.fn,.ao 53 (g.ms.map kH) .aI g.mn,zI g.entry]))=A at*;refine gO aW tI tI ?_;refine ag.of (SI.all J ⟨T,by simpa using dn,by simpa using hT⟩) ?_ (fun _ _ h=>h.elim);rintro r τ3 ⟨rfl,T',τ0,h3,dl,rfl⟩;have hJ:SJ k g (DJ g) T' A (g.entry+1) (τ0.set k.aO (.cells 74 (vY k g (DJ g) (g.entry+1)))):=⟨τ0,h3,rfl⟩;generalize (τ0.set k.aO (.cells 74 (vY k g (DJ g) (g.entry+1))))=τ3 at*;clear h3;have ac:=hJ.aO;simp only[ee]at ac;have ew:=J.ts;have e1:=J.fs;have e0:=J.ms;have c7:(DJ g).nm=mA g:=rfl;have cd:(DJ g).bl=dT g:=rfl;rw[c7,cd]at ac;have e6:=vz g;have d7:(dx g).sp.length≤20000:=by have:=J.sp g.ms.length;rwa [take_length]at this
 have d8:(dx g).lo.length≤64:=by have:=J.lo g.ms.length;rwa [take_length]at this
 have e7:=qa g;have K:=fun σ=>Pl.Hp (mA g) (decide (mA g= [])) (.tok k.tN) (by omega) (P7 hL) σ;have L:=fun σ=>NU (dT g) (decide (dT g= [])) (.tok k.tB) (by omega) db σ;simp only[Pl.QL]at L;simp-implicitDefEqProofs;by_cases w:(bJ (mA g)).2.2=0
 ·by_cases M:(bU (dT g)).2.2=0
  ·have hz:True:=trivial;have a0:(EV g).length=(mA g).length:=by
    unfold EV bJ at*;split at w
    ·simp at w
    ·rename_i c1;rw[if_neg c1];split at w
     ·simp at w
     ·rename_i c2;rw[if_neg c2];simp[Pl.Ap]
   have Y:(Bb g).length=(dT g).length:=by
    unfold Bb bU at*;split at M
    ·simp at M
    ·rename_i c2;rw[if_neg c2];simp[Pl.A1]
   have ch:(bJ (mA g)).2.1=EV g:=rfl;have ci:(bU (dT g)).2.1=Bb g:=rfl;rw[ch]at K;rw[ci]at L;refine gO aW (j3 @ac @w @M) (j2 @K @L) ?_;refine aq.aQ (α:=(Nat)×(AS)) ((0,τ3)) (fun⟨i,τ4⟩=>3-i) (fun⟨i,τ4⟩=>i≤3∧ ∃T',SJ k g (DJ g) T' A (g.entry+1) τ4∧cH T'=Ua g i) [(2,?_),(3,?_),(4,?_),(5,?_),(6,?_),(7,?_),(8,?_),(9,?_),(60,?_)] (fun⟨i,τ4⟩=> [(61,zI i)]) (fun⟨i,τ4⟩=>τ4) ?_ ?_ ?_ ?_;rotate_left 9
   ·exact gF tI
   ·(try dsimp only);exact lR _
   ·exact⟨by omega,T',hJ,dl⟩
   intro x_ ap;obtain⟨i,τ4⟩:=x_;try dsimp only at ap⊢
   obtain⟨hi,T4,o,u⟩:=ap;simp only[eZ];by_cases a9:i<3
   ·have b1:zW ((i:Int)+1)=((i+1:Nat):Int):=bQ (by omega);have h0:i=0∨i=1∨i=2:=by omega
    rcases h0 with rfl|rfl|rfl
    ·refine gO aW tI tI ?_;intro I l;have E:=o.own (b:= .cells 78 [zI 0,zI 1]) l;have G:=o.mD l;have n:=fun np=>E.step (t:=0) (c:=1) (P:=EV g) (op:= .aI) (np:=np) (X:=cG g dv) (by rw[u];rfl) (by simp[cG];omega) (by omega) (XZ a0);simp only[Int.cast_ofNat_Int]at n;refine gO aW tI tI ?_;refine ag.of (n _) ?_ (fun _ _ h=>h.elim);rintro r H ⟨rfl,T5,F,y⟩;simp-implicitDefEqProofs;refine gO aW tI tI ?_;refine gB ((1,H)) gT ?_;try dsimp only
     refine⟨by omega,T5,F.drop (AS.aj (lR _) G),?_⟩;rw[y,u];simp[Ua,Sw]
    ·refine gO aW tI tI ?_;intro I l;have E:=o.own (b:= .cells 78 [zI 1,zI 1]) l;have G:=o.mD l;have n:=fun np=>E.step (t:=1) (c:=1) (P:=EV g) (op:= .aI) (np:=np) (X:=cB g dv dv) (by rw[u];rfl) (by simp[cB];omega) (by omega) (XY a0);simp only[Int.cast_ofNat_Int]at n;refine gO aW tI tI ?_;refine ag.of (n _) ?_ (fun _ _ h=>h.elim);rintro r H ⟨rfl,T5,F,y⟩;simp-implicitDefEqProofs;refine gO aW tI tI ?_;refine gB ((2,H)) gT ?_;try dsimp only
     refine⟨by omega,T5,F.drop (AS.aj (lR _) G),?_⟩;rw[y,u];simp[Ua,PO]
    ·refine gO aW tI tI ?_;intro I l;have E:=o.own (b:= .cells 78 [zI 2,zI 3]) l;have G:=o.mD l;have n:=fun np=>E.step (t:=2) (c:=3) (P:=EV g) (op:= .aI) (np:=np) (X:=cI g dv dv) (by rw[u];rfl) (by simp[cI,dK];omega) (by omega) (XX a0);simp only[Int.cast_ofNat_Int]at n;refine gO aW tI tI ?_;refine ag.of (n _) ?_ (fun _ _ h=>h.elim);rintro r H ⟨rfl,T5,F,y⟩;simp-implicitDefEqProofs;refine gO aW tI tI ?_;refine gB ((3,H)) gT ?_;try dsimp only
     refine⟨by omega,T5,F.drop (AS.aj (lR _) G),?_⟩;rw[y,u];simp[Ua,PM]
   obtain rfl:i=3:=by omega
   clear ac hJ a9 hi;refine gO aW tI tI ?_;refine aq.aQ (α:=(Nat)×(AS)) ((0,τ4)) (fun⟨i,H⟩=>4-i) (fun⟨i,H⟩=>i≤4∧ ∃T',SJ k g (DJ g) T' A (g.entry+1) H∧cH T'=Q6 g i) [(2,?_),(3,?_),(4,?_),(5,?_),(7,?_),(8,?_),(9,?_),(76,?_)] (fun⟨i,H⟩=> [(77,zI i)]) (fun⟨i,H⟩=>H) ?_ ?_ ?_ ?_;rotate_left 8
   ·exact gF tI
   ·(try dsimp only);exact lR _
   ·exact⟨by omega,T4,o,u⟩
   intro x_ ap;obtain⟨i,H⟩:=x_;try dsimp only at ap⊢
   obtain⟨hi,T4,o,u⟩:=ap;simp only[eZ];by_cases a9:i<4
   ·have b1:zW ((i:Int)+1)=((i+1:Nat):Int):=bQ (by omega);have h0:i=0∨i=1∨i=2∨i=3:=by omega
    rcases h0 with rfl|rfl|rfl|rfl
    ·refine gO aW tI tI ?_;intro I l;have E:=o.own (b:= .cells 78 [zI 1,zI 2]) l;have G:=o.mD l;have n:=fun np=>E.step (t:=1) (c:=2) (P:=Bb g) (op:= .aI) (np:=np) (X:=cB g (nu g) dv) (by rw[u];rfl) (by simp[cB];omega) (by omega) (XW Y);simp only[Int.cast_ofNat_Int]at n;refine gO aW tI tI ?_;refine ag.of (n _) ?_ (fun _ _ h=>h.elim);rintro r H ⟨rfl,T5,F,y⟩;simp-implicitDefEqProofs;refine gO aW tI tI ?_;refine gB ((1,H)) gT ?_;try dsimp only
     refine⟨by omega,T5,F.drop (AS.aj (lR _) G),?_⟩;rw[y,u];simp[Q6,PN]
    ·refine gO aW tI tI ?_;intro I l;have E:=o.own (b:= .cells 78 [zI 2,zI 4]) l;have G:=o.mD l;have n:=fun np=>E.step (t:=2) (c:=4) (P:=Bb g) (op:= .aI) (np:=np) (X:=cI g (nu g) dv) (by rw[u];rfl) (by simp[cI,dK];omega) (by omega) (XV Y);simp only[Int.cast_ofNat_Int]at n;refine gO aW tI tI ?_;refine ag.of (n _) ?_ (fun _ _ h=>h.elim);rintro r H ⟨rfl,T5,F,y⟩;simp-implicitDefEqProofs;refine gO aW tI tI ?_;refine gB ((2,H)) gT ?_;try dsimp only
     refine⟨by omega,T5,F.drop (AS.aj (lR _) G),?_⟩;rw[y,u];simp[Q6,PL]
    ·refine gO aW tI tI ?_;intro I l;have E:=o.own (b:= .cells 78 [zI 4,zI 0]) l;have G:=o.mD l;have n:=fun np=>E.step (t:=4) (c:=0) (P:=Bb g) (op:= .aI) (np:=np) (X:=dD g dv) (by rw[u];rfl) (by simp[dD];omega) (by omega) (XU Y);simp only[Int.cast_ofNat_Int]at n;refine gO aW tI tI ?_;refine ag.of (n _) ?_ (fun _ _ h=>h.elim);rintro r H ⟨rfl,T5,F,y⟩;simp-implicitDefEqProofs;refine gO aW tI tI ?_;refine gB ((3,H)) gT ?_;try dsimp only
     refine⟨by omega,T5,F.drop (AS.aj (lR _) G),?_⟩;rw[y,u];simp[Q6,Sx]
    ·refine gO aW tI tI ?_;intro I l;have E:=o.own (b:= .cells 78 [zI 5,zI 0]) l;have G:=o.mD l;have n:=fun np=>E.step (t:=5) (c:=0) (P:=Bb g) (op:= .aI) (np:=np) (X:=dW g dv) (by rw[u];rfl) (by simp[dW];omega) (by omega) (XT Y);simp only[Int.cast_ofNat_Int]at n;refine gO aW tI tI ?_;refine ag.of (n _) ?_ (fun _ _ h=>h.elim);rintro r H ⟨rfl,T5,F,y⟩;simp-implicitDefEqProofs;refine gO aW tI tI ?_;refine gB ((4,H)) gT ?_;try dsimp only
     refine⟨by omega,T5,F.drop (AS.aj (lR _) G),?_⟩;rw[y,u];simp[Q6,Sz]
   obtain rfl:i=4:=by omega
   have b4:=o.aO;simp only[ee]at b4;clear a9 hi;have a2:cH T4=kp g (nu g) (nW g):=by rw[u];simp[Q6,kp]
   have b3:=o.write (by rw[a2];exact vT J _ _) (by rw[a2];exact IN _ _ _) (by rw[a2];exact py _ _ _);rw[a2]at b3;have bc:A k.aO=none:=by obtain⟨τ9,h9,_⟩:=o;exact(h9.OO).1
   refine gO aW @b4 tI ?_;refine ag.of b3 ?_ (fun _ _ h=>h.elim);intro r τ6 hW;rcases hW with⟨ar,tw,a7,rfl,rfl⟩|⟨ar,rfl,rfl⟩
   ·have bb:cT g=uH (Rw.dd (kp g (nu g) (nW g)) (g.entry+1)) (bJ (mA g)).1 (bU (dT g)).1 (dx g).co:=by unfold cT;rw[if_neg (by simp[hF]),if_neg (by simp[w]),if_neg (by simp[M]),if_neg (by simp[ar])]
    have cc:(DJ g).co=(dx g).co:=rfl;have a8:((A.set k.aO (.cells 74 (vY k g (DJ g) (g.entry+1)))).set tw (.tok (Rw.dd (kp g (nu g) (nW g)) (g.entry+1)).length)) k.aO=some (.cells 74 (vY k g (DJ g) (g.entry+1))):=by rw[AS.ae _ _ (by rintro e;rw[←e]at a7;simp at a7),AS.ak]
    have ck:A tw=none:=by
     by_cases e:tw=k.aO
     ·rw[e];exact bc
     ·rwa [AS.ae _ _ e]at a7
    have av:AS.le σ ((A.set k.aO (.cells 74 (vY k g (DJ g) (g.entry+1)))).set tw (.tok (Rw.dd (kp g (nu g) (nW g)) (g.entry+1)).length)):=AS.le_trans ab (AS.aj (AS.aj (lR _) bc) ck);generalize ((A.set k.aO (.cells 74 (vY k g (DJ g) (g.entry+1)))).set tw (.tok (Rw.dd (kp g (nu g) (nW g)) (g.entry+1)).length))=S at*;have de:(Rw.dd (kp g (nu g) (nW g)) (g.entry+1)).length≤140737488355328:=by have:=GI (g.entry+1) (vT J (nu g) (nW g)) rfl;omega
    have d9:=Hr w;have ea:=H7 M;generalize Rw.dd (kp g (nu g) (nW g)) (g.entry+1)=W at*;simp only[ee,cc]at a8;have e2:(dx g).co.length≤100000000:=by have:=J.co g.ms.length;rwa [take_length]at this
    have cb:=fun n1 n2 Q hL hb=>St.Ko (W,false) ((bJ (mA g)).1,n1) ((bU (dT g)).1,n2) ((dx g).co,Q) (.tok tw) .aI .aI (.tok k.tC) hL hb S;have ca:=fun n1 n2 Q hL=>St.Kn (W,false) ((bJ (mA g)).1,n1) ((bU (dT g)).1,n2) ((dx g).co,Q) (.tok tw) .aI .aI (.tok k.tC) hL S;generalize (bJ (mA g)).1=N at*;generalize (bU (dT g)).1=BB at*;generalize (dx g).co=CO at*;simp only[St.R4,St.sO]at cb ca;simp-implicitDefEqProofs;by_cases q:65536<W.length∨65536<N.length∨65536<BB.length∨65536<CO.length
    ·have hS:cT g=([],4):=by rw[bb,uH];exact if_pos (by rcases q with h|h|h|h<;>simp[h])
     repeat (first
      |refine g1 ?_
      |((first|refine g2 ?_ |((with_reducible apply dX 3 oh);refine dY mixed ?_)|((with_reducible apply ag.id);first|apply ag.ay (cb _ _ _ ⟨de,by show N.length≤ _;omega,by show BB.length≤ _;omega,by show CO.length≤ _;omega⟩ q)));simp-implicitDefEqProofs [a8])
      |(refine g3 ?_;try simp-implicitDefEqProofs))
     exact⟨nF (by decide) hS,av⟩
    ·refine gO aW @a8 tI ?_;have b6:∀n1 n2 Q k,(St.iN (W,false) (N,n1) (BB,n2) (CO,Q) k).1=St.iN W N BB CO k:=fun n1 n2 Q k=>St.J0 Prod.fst (W,false) (N,n1) (BB,n2) (CO,Q) k;refine ag.of (ca _ _ _ ?_) ?_ (fun _ _ h=>h.elim)
     ·intro j;rw[b6];simp only[not_or,Nat.not_lt]at q;unfold St.iN;split
      ·exact q.1
      ·exact q.2.1
      ·exact q.2.2.1
      ·exact q.2.2.2
     ·simp only[b6];intro r σ' dp;rcases dp with⟨hb,rfl,rfl⟩|⟨hb,tk,c6,rfl,rfl⟩
      ·have hS:cT g=([],4):=by rw[bb,uH];exact if_pos (.inr (.inr (.inr (.inr hb))))
       simp-implicitDefEqProofs;refine gO aW tI tI ?_;exact⟨nF (by decide) hS,av⟩
      ·have hS:cT g=(St.jg (fun k=>St.iN W N BB CO k),0):=by rw[bb,uH];exact if_neg (by simp only[not_or]at q⊢;exact⟨q.1,q.2.1,q.2.2.1,q.2.2.2,hb⟩)
       simp-implicitDefEqProofs;refine gO aW tI tI ?_;unfold yj;rw[hS];exact⟨cq (by simp) (by simp),AS.le_trans av (AS.aj (lR _) c6)⟩
   ·have hS:cT g=([],4):=by unfold cT;rw[if_neg (by simp[hF]),if_neg (by simp[w]),if_neg (by simp[M]),if_pos ar]
    simp-implicitDefEqProofs;refine gO aW tI tI ?_;exact⟨nF (by decide) hS,AS.le_trans ab (AS.aj (lR _) bc)⟩
  ·have hS:cT g=([],(bU (dT g)).2.2):=by unfold cT;rw[if_neg (by simp[hF]),if_neg (by simp[w]),if_pos M]
   refine gO aW (j3 @ac @w @M) (j2 @K @L) ?_;exact⟨nF M hS,AS.le_trans ab hJ.le⟩
 ·have hS:cT g=([],(bJ (mA g)).2.2):=by unfold cT;rw[if_neg (by simp[hF]),if_pos w]
  refine gO aW (j2 @ac @w) @K ?_;exact⟨nF w hS,AS.le_trans ab hJ.le⟩
end Im
end Go.Proofs.YtknalmoackcpbaaGreat
