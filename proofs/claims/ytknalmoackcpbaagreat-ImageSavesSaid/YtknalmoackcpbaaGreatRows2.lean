/- Package rows: fits, what Write puts by, formed; the document's fits, Width. -/
import Derived.Test.YtknalmoackcpbaaGreatReg4
set_option maxRecDepth 100000
set_option maxHeartbeats 3200000
set_option linter.all false
open Go Go.AW
namespace Go.Proofs.YtknalmoackcpbaaGreat
namespace Rw
open Tryz
def iV (x:List Int×Bool):AV:= .ah 3 (x.1.map bg) .aJ x.2
def lV (x:List (List Int×Bool)×Bool):AV:= .ah 44 (x.1.map iV) .aJ x.2
abbrev Br:=List (List (List Int×Bool)×Bool)
def NU (en:Int) (R:Br) (o:cA) (nl:Bool):AV:= .agg [zI en,.ah 94 (R.map lV) o nl]
def jv (x:List (List Int×Bool)×Bool):List (List Int):=x.1.map (·.1)
def pl (R:Br):List (List (List Int)):=R.map jv
def dT (x w:Int):Bool:=decide (0≤x)&&(decide (w=2)&&decide (x<65536)||decide (w=4)&&decide (x<4294967296))
theorem Gl (k:UInt8) (m:Nat):wK k m=2∨wK k m=4:=by unfold wK;split<;>simp
theorem pg (x w:Int) (hw:w=2∨w=4) (σ:AS):ad prog 76 [zI x,zI w] σ (aq (.sc (.bool (dT x w))) σ) No:=by
 refine ad.ob func76 ?_;by_cases h0:0≤x
 ·rcases hw with rfl|rfl
  ·by_cases h1:x<65536
   ·refine gO aa (j2 @h0 @h1) tI ?_;simp[dT,h0,h1]
   ·refine gO aa (j2 @h0 @h1) tI ?_;simp[dT,h0,h1]
  ·by_cases h1:x<4294967296
   ·refine gO aa (j2 @h0 @h1) tI ?_;simp[dT,h0,h1]
   ·refine gO aa (j2 @h0 @h1) tI ?_;simp[dT,h0,h1]
 ·refine gO aa @h0 tI ?_;simp[dT,h0]
theorem n7 (x w:Int) (hw:w=2∨w=4) (σ:AS):ad prog 91 [zI x,zI w] σ (aq (.sc (.bool (dT x w))) σ) No:=by
 refine ad.ob func91 ?_;by_cases h0:0≤x
 ·rcases hw with rfl|rfl
  ·by_cases h1:x≤65535
   ·have j:x<65536:=by omega
    refine gO aa (j2 @h0 @h1) tI ?_;simp[dT,h0,j]
   ·have j:¬x<65536:=by omega
    refine gO aa (j2 @h0 @h1) tI ?_;simp[dT,h0,j]
  ·by_cases h1:x≤4294967295
   ·have j:x<4294967296:=by omega
    refine gO aa (j2 @h0 @h1) tI ?_;simp[dT,h0,j]
   ·have j:¬x<4294967296:=by omega
    refine gO aa (j2 @h0 @h1) tI ?_;simp[dT,h0,j]
 ·rcases hw with rfl|rfl
  ·refine gO aa @h0 tI ?_;simp[dT,h0]
  ·refine gO aa @h0 tI ?_;simp[dT,h0]
theorem vq {x w:Int}(h:dT x w=true):0≤x∧x<4294967296∧x<256^w.toNat:=by
 simp only[dT,Bool.and_eq_true,Bool.or_eq_true,decide_eq_true_eq]at h;rcases h.2 with⟨rfl,j⟩|⟨rfl,j⟩
 ·exact⟨h.1,by omega,by simpa using j⟩
 ·exact⟨h.1,j,by simpa using j⟩
def gC (l:zY) (j:Nat) (nl:Bool):cL:= .cells 30 [.ah 5 (l.map u8) (.tok j) nl]
theorem C5 (id j:Nat) (l:zY) (nl:Bool) (x w:Int) (hw:w=2∨w=4) (hf:dT x w=false) (σ:AS):ad prog 75 [.ptr id 0,zI x,zI w] σ (aq (zB false) σ) No:=by have h:=fun σ=>pg x w hw σ;rw[hf]at h;refine ad.ob func75 ?_;exact gE aa tI @h
theorem JW (x n:Int) (o:0≤x) (l:x<18446744073709551616) (hw:wide n=true) (σ:AS):
 ad prog 77 [.aC,.sc (.int .u64 x),zI n] σ (gy (fun j=> .cp [.ah 5 ((aS x n.toNat).map u8) (.tok j) false,zI 0]) n.toNat σ) No:=by
 have h:ad prog 77 [.aC,.sc (.int .u64 x),zI n] σ (gy (fun j=> .cp [.ah 5 (([]++aS x n.toNat).map u8) (.tok j) false,zI 0]) (([]:zY).length+n.toNat) σ) No:=
  (mS [] .aJ true (by simp) (by simp) x n o l hw σ).wk _ rfl (fun i q=>by
  match i,q with
  |0,_ =>simp
  |1,_ =>simp
  |2,_ =>simp)
 simpa using h
theorem C4 (id A:Nat) (l:zY) (nl:Bool) (x w:Int) (hw:w=2∨w=4) (hf:dT x w=true) (hl:l.length≤100000000) (σ:AS) (v:σ id=some (gC l A nl)) (D:σ A=some (.tok l.length)) (E:¬id=A):
 ad prog 75 [.ptr id 0,zI x,zI w] σ (aq (zB true) ((σ.set id (gC (l++aS x w.toNat) A false)).set A (.tok (l.length+w.toNat)))) No:=by
 have h:=fun σ=>pg x w hw σ;rw[hf]at h;have U:=vq hf;have P:IntKind.u64.wrap x=x:=gM (by omega) (by omega);have S:=fun σ=>JW x w (by omega) (by omega) (by rcases hw with rfl|rfl<;>rfl) σ;have H:=ba E;have L:=an x w.toNat;have M:(aS x w.toNat).isEmpty=false:=by rcases hw with rfl|rfl<;>rfl
 have Q:w.toNat≤4:=by omega
 generalize aS x w.toNat=pb at*;simp only[gC]at v⊢;refine ad.ob func75 ?_;refine gO aa @P (j2 @h @S) ?_;intro y o;have n:¬id=y:=nq v o;have u:=ba n;have j:¬A=y:=nq D o;have q:=ba j;refine gO aa (j7 @E @M @L n @v j @D) tI ?_;have O:=(j2 (j7 o @E @H u n @v q) (j2 j @D));intro K T;refine gK O K id fun J=>gK O K A fun I=>gK O K y fun F=> ?_;intro G;simp[AS.set,J,I,F]at G⊢;try exact G
theorem o4 (t c m:Nat) (ht:t<6) (o:c<(bS t).length) (hm:m≤3) (σ:AS):ad prog 92 [zI t,zI c,zI m] σ (aq (zI (wK ((bS t).getD c 0) m)) σ) No:=by
 have l:m=0∨m=1∨m=2∨m=3:=by omega
 have n:t=0∨t=1∨t=2∨t=3∨t=4∨t=5:=by omega
 refine ad.ob func92 ?_;rcases n with rfl|rfl|rfl|rfl|rfl|rfl;all_goals simp[bS]at o
 ·have j:c=0∨c=1∨c=2∨c=3∨c=4:=by omega
  rcases j with rfl|rfl|rfl|rfl|rfl;all_goals
   rcases l with rfl|rfl|rfl|rfl;all_goals
    refine gO aa tI tI ?_;try simp[bS,wK]
 ·have j:c=0∨c=1∨c=2:=by omega
  rcases j with rfl|rfl|rfl;all_goals
   rcases l with rfl|rfl|rfl|rfl;all_goals
    refine gO aa tI tI ?_;try simp[bS,wK]
 ·have j:c=0∨c=1∨c=2∨c=3∨c=4∨c=5:=by omega
  rcases j with rfl|rfl|rfl|rfl|rfl|rfl;all_goals
   rcases l with rfl|rfl|rfl|rfl;all_goals
    refine gO aa tI tI ?_;try simp[bS,wK]
 ·have j:c=0∨c=1:=by omega
  rcases j with rfl|rfl;all_goals
   rcases l with rfl|rfl|rfl|rfl;all_goals
    refine gO aa tI tI ?_;try simp[bS,wK]
 ·obtain rfl:c=0:=by omega
  rcases l with rfl|rfl|rfl|rfl;all_goals
   refine gO aa tI tI ?_;try simp[bS,wK]
 ·obtain rfl:c=0:=by omega
  rcases l with rfl|rfl|rfl|rfl;all_goals
   refine gO aa tI tI ?_;try simp[bS,wK]
def gG:Nat→List (List (List Int))→Bool
 | _,[]=>true
 |t,l::r=>l.all (fun row=>decide (row.length=(bS t).length))&&gG (t+1) r
def dC (R:List (List (List Int))):Bool:=decide (R.length=6)&&gG 0 R
def UY (R:Br) (o:cA) (nl:Bool) (B:AS) (m:Nat) (f:Fr) (σ':AS):Prop:=
 ∃i:Nat,m=R.length-i∧i≤R.length∧gG 0 (pl R)=gG i ((pl R).drop i)∧σ'=B∧
  f=gD [(12,.ah 94 (R.map lV) o nl),(13,zI R.length),(14,zI i)]
def UZ (R:Br) (o:cA) (nl:Bool) (i:Nat) (x:List (List Int×Bool)×Bool) (X:Bool) (B:AS) (m:Nat) (f:Fr) (σ':AS):Prop:=
 ∃k:Nat,m=x.1.length-k∧k≤x.1.length∧(((jv x).drop k).all (fun row=>decide (row.length=(bS i).length))&&gG (i+1) ((pl R).drop (i+1)))=X∧σ'=B∧
  f=gD [(3,zI i),(12,.ah 94 (R.map lV) o nl),(13,zI R.length),(14,zI i),(19,lV x),(20,zI x.1.length),(21,zI k)]
theorem rV (en:Int) (R:Br) (o:cA) (nl:Bool) (hR:R.length≤1000) (hr:∀x∈R,x.1.length≤20000) (hc:∀x∈R,∀y∈x.1,y.1.length≤1000) (σ:AS):
 ad prog 74 [NU en R o nl] σ (aq (.sc (.bool (dC (pl R)))) σ) No:=by
 have u:=fun t σ=>CB t σ;refine ad.ob func74 ?_;simp only[NU];refine gO aa tI tI ?_;intro Y n;by_cases K:R.length=6
 ·refine gO aa @K tI ?_;obtain⟨B,H,am,V,D⟩:=zQ σ (.cells 63 [zI en,.ah 94 (R.map lV) o nl]) n;simp only[H];clear H;have hle:AS.le σ B:=D B fun _ _ _ h=>h;have hS:dC (pl R)=gG 0 (pl R):=by simp[dC,pl,K]
  rw[hS];refine aA.cz (UY R o nl B) (k0:=R.length) ⟨0,by omega,by omega,by simp,rfl,rfl⟩ (aP.mk (by simp[K])) (lR _) ?_;rintro m f σ' ⟨i,hm,hi,A,hs,rfl⟩;subst σ';by_cases F:i<R.length
  ·obtain⟨x,hg,hd,E,_⟩:=dK R F;obtain⟨_,O⟩:=List.getElem?_eq_some_iff.1 hg;have S:((i:Int)<R.length)=True:=by simp;omega
   have Z:=hr x E;have P:(pl R).drop i=jv x::(pl R).drop (i+1):=by rw[pl,←List.map_drop,hd,List.map_cons,List.map_drop]
   rw[P]at A;simp only[gG]at A;refine gO aa (j4 S F @O @lV.eq_1) tI ?_;generalize T:gG 0 (pl R)=F0 at A⊢;refine aA.cz (UZ R o nl i x F0 B) (k0:=x.1.length) ⟨0,by omega,by omega,by rw[A,List.drop_zero],rfl,rfl⟩ (aP.mk (by simp[lV])) (lR _) ?_;rintro X f σ' ⟨k,af,hk,j,hs,rfl⟩;subst σ';by_cases l:k<x.1.length
   ·obtain⟨y,M,Q,L,_⟩:=dK x.1 l;obtain⟨_,q⟩:=List.getElem?_eq_some_iff.1 M;have J:((k:Int)<x.1.length)=True:=by simp;omega
    have G:(jv x).drop k=y.1::(jv x).drop (k+1):=by rw[jv,←List.map_drop,Q,List.map_cons,List.map_drop]
    rw[G]at j;simp only[List.all_cons]at j;by_cases I:y.1.length=(bS i).length
    ·have v:((y.1.length:Int)=(bS i).length)=True:=by simp;omega
     refine gO aa (j7 @J @l @q @lV.eq_1 @iV.eq_1 @I @v) @u ?_;refine⟨X-1,_,_,by omega,aP.mk ?_,lR _,k+1,by omega,by omega,by rw[←j];simp[I],rfl,rfl⟩;simp[lV,dv (show k<4000000000000000000 by omega)]
    ·have v:((y.1.length:Int)=(bS i).length)=False:=by simp;omega
     refine gO aa (j7 @J @l @q @lV.eq_1 @iV.eq_1 @I @v) @u ?_;rw[←j];simp[I];exact hle
   ·have J:((k:Int)<x.1.length)=False:=by simp;omega
    refine gO aa @J tI ?_;have w:(jv x).drop k= []:=List.drop_eq_nil_of_le (by simp[jv];omega);rw[w]at j;refine⟨m-1,_,_,by omega,aP.mk ?_,lR _,i+1,by omega,by omega,by rw[T,←j];rfl,rfl,rfl⟩;simp[dv (show i<4000000000000000000 by omega)]
  ·have S:((i:Int)<R.length)=False:=by simp;omega
   have w:(pl R).drop i= []:=List.drop_eq_nil_of_le (by simp[pl];omega);rw[w]at A;refine gO aa S tI ?_;rw[A];simp[gG];exact hle
 ·have U:((R.length:Int)=6)=False:=by simp;omega
  refine gO aa @U tI ?_;simp[dC,pl,K];exact aw n (lR _)
theorem cN (S:List Nat):cu prog [(20,(.S 0 (.S 1 (.S 2 (.S 3 (.S 5 (.U 6 (.R 4 (.A 7 (.S 8 .D) .Z)))))))))] S:=mixed
theorem Ft (l:zY) (j:Nat) {c:UInt8}(h:l[j]? =some c) (o:c.toNat<128):Utf8.decode ⟨l.toArray⟩ j=(c.toNat,1):=by
 obtain⟨n,rfl⟩:=List.getElem?_eq_some_iff.1 h;have e:(ByteArray.get! ⟨l.toArray⟩ j)=l[j]:=by simp[ByteArray.get!,n]
 simp only[Utf8.decode,Nat.add_zero,e];rw[if_pos (by omega)]
theorem An (t:Int):∀c∈bS t,c.toNat<128:=by
 unfold bS;intro c j;split at j
 ·revert c;decide
 split at j
 ·revert c;decide
 split at j
 ·revert c;decide
 split at j
 ·revert c;decide
 split at j
 ·revert c;decide
 split at j
 ·revert c;decide
 ·simp at j
def nZ:zY→List Int→Bool
 |k::j,x::r=>dT x (wK k 0)&&nZ j r
 | _,_ =>true
def s8:zY→List Int→zY
 |k::j,x::r=>aS x (wK k 0).toNat++s8 j r
 | _,_ => []
def jF (t:Nat) (l:List (List Int)):Bool:=l.all (nZ (bS t))
def pR (t:Nat) (l:List (List Int)):zY:=l.flatMap (s8 (bS t))
def allFit:Nat→List (List (List Int))→Bool
 | _,[]=>true
 |t,l::r=>jF t l&&allFit (t+1) r
def iP:Nat→List (List (List Int))→zY
 | _,[]=> []
 |t,l::r=>pR t l++iP (t+1) r
def CC (l:List (List Int)):zY:=if l= []then []else aS l.length 2
def qX (R:List (List (List Int))):zY:=R.flatMap CC
def lF:Nat→List (List (List Int))→Nat
 | _,[]=>0
 |t,l::r=>(if l= []then 0 else 2^t)+lF (t+1) r
def okW (R:List (List (List Int))) (en:Int):Bool:=allFit 0 R&&dT en 2
def de (R:List (List (List Int))) (en:Int):zY:= [0,UInt8.ofNat (lF 0 R)]++(qX R++aS en 2)++iP 0 R
def WS (id5 id6 tc tb:Nat) (B:AS) (cnt:zY) (n1:Bool) (eW:zY) (n2:Bool):AS:=fun j=>
 if j=id5 then some (gC cnt tc n1)else if j=id6 then some (gC eW tb n2)else if j=tc then some (.tok cnt.length)else if j=tb then some (.tok eW.length)else B j
theorem WS.Rs {id5 id6 tc tb:Nat}{B:AS}{cnt eW l:zY}{n1 n2 n:Bool}{m:Nat}(hm:m=l.length) (E:¬id5=id6) (w:¬id5=tc) (D:¬id5=tb) (v:¬id6=tc) (A:¬id6=tb) (y:¬tc=tb):
 ((WS id5 id6 tc tb B cnt n1 eW n2).set id5 (gC l tc n)).set tc (.tok m)=WS id5 id6 tc tb B l n eW n2:=by
 subst hm;funext j;by_cases o:j=id5
 ·subst o;simp[AS.set,WS,w]
 by_cases q:j=id6
 ·subst q;simp[AS.set,WS,o,v]
 by_cases u:j=tc
 ·subst u;simp[AS.set,WS,o,q]
 ·simp[AS.set,WS,o,q,u]
theorem WS.Rr {id5 id6 tc tb:Nat}{B:AS}{cnt eW l:zY}{n1 n2 n:Bool}{m:Nat}(hm:m=l.length) (D:¬id5=id6) (F:¬id5=tc) (A:¬id5=tb) (E:¬id6=tc) (y:¬id6=tb) (w:¬tc=tb):
 ((WS id5 id6 tc tb B cnt n1 eW n2).set id6 (gC l tb n)).set tb (.tok m)=WS id5 id6 tc tb B cnt n1 l n:=by
 subst hm;funext j;by_cases o:j=id5
 ·subst o;simp[AS.set,WS,D,A]
 by_cases q:j=id6
 ·subst q;simp[AS.set,WS,o,y]
 by_cases u:j=tc
 ·subst u;simp[AS.set,WS,o,q,w]
 by_cases v:j=tb
 ·subst v;simp[AS.set,WS,o,q,u]
 ·simp[AS.set,WS,o,q,u,v]
theorem WS.out {id5 id6 tc tb j:Nat}{B:AS}{cnt eW:zY}{n1 n2:Bool}{x:cL}(q:¬j=id5) (o:¬j=id6) (n:¬j=tc) (l:¬j=tb):
 (WS id5 id6 tc tb B cnt n1 eW n2).set j x=WS id5 id6 tc tb (B.set j x) cnt n1 eW n2:=by
 funext i;by_cases e:i=j
 ·subst e;simp[AS.set,WS,q,o,n,l]
 ·simp[AS.set,WS,e]
theorem WS.le {id5 id6 tc tb:Nat}{B B':AS}{cnt eW:zY}{n1 n2:Bool}(h:AS.le B B'):AS.le (WS id5 id6 tc tb B cnt n1 eW n2) (WS id5 id6 tc tb B' cnt n1 eW n2):=by
 intro j y l;simp only[WS]at l⊢;by_cases n:j=id5
 ·simpa[n]using l
 by_cases o:j=id6
 ·simpa[n,o]using l
 by_cases q:j=tc
 ·simpa[n,o,q]using l
 by_cases u:j=tb
 ·simpa[n,o,q,u]using l
 ·simp[n,o,q,u]at l⊢;exact h j y l
theorem xx:∀ {L:List (List (List Int))}{t k:Nat}{l:List (List Int)},gG t L=true→L[k]? =some l→ ∀row∈l,row.length=(bS ((t+k:Nat):Int)).length:=by
 intro L;induction L with
 |nil=>intro t k l _ h;simp at h
 |cons x r o=>
  intro t k l n h row j;simp only[gG,Bool.and_eq_true]at n;cases k with
  |zero=>simp at h;subst h;have:=List.all_eq_true.1 n.1 row j;simpa using this
  |succ k=>simp at h;have:=o n.2 h row j;rw[this,show t+1+k=t+(k+1) by omega]
theorem o8 (t:Int):(bS t).length≤6:=by unfold bS;split<;>(try split)<;>(try split)<;>(try split)<;>(try split)<;>(try split)<;>simp
def vT (W:zY) (ok:Bool) (σ:AS) (r:AV) (σ':AS):Prop:=
 (ok=true∧gy (fun j=> .cp [.ah 5 (W.map u8) (.tok j) false,zI 0]) W.length σ r σ')∨(ok=false∧aq (.cp [.aC,zI 3]) σ r σ')
theorem vT.no {W:zY}{ok:Bool}{σ j:AS}(h:ok=false) (hle:AS.le σ j):AW.Ends prog (vT W ok σ) j (.cp [.aC,zI 3]):=
 ⟨_,σ,Wk.refl _,hle,.inr ⟨h,rfl,rfl⟩⟩
theorem MZ (j i:Nat) (o:i<32) (h:j<2^i):IntKind.i64.wrap (D5 64 (j:Int) (IntKind.i64.wrap (2^min i 64)))=(j:Int)+2^i:=by
 have h1:(2:Nat)^i≤2^31:=Nat.pow_le_pow_right (by omega) (by omega);have n:((2:Int)^i)=((2^i:Nat):Int):=by push_cast;rfl
 have l:=pV (w:=64) (a:=(2:Int)^i) (b:=j) i (by omega) (by rw[n];exact_mod_cast h) (c:=1) (by omega) (by omega);rw[show min i 64=i by omega];generalize q:(2:Nat)^i=P at*;rw[n]at l⊢;rw[show IntKind.i64.wrap (P:Int)=P from aI (by omega) (by omega),re,l (by omega),aI (by omega) (by omega)];omega
def Ud (R:Br) (o:cA) (nl:Bool) (ok n:Bool) (l id5 id6 tc tb:Nat) (B:AS) (m:Nat) (f:Fr) (σ':AS):Prop:=
 ∃(i j:Nat) (cnt eW:zY),m=R.length-i∧i≤R.length∧ok=(allFit i ((pl R).drop i)&&n)∧j+lF i ((pl R).drop i)=lF 0 (pl R)∧j<2^i∧
  cnt++qX ((pl R).drop i)=qX (pl R)∧eW++iP i ((pl R).drop i)=iP 0 (pl R)∧cnt.length≤2*i∧eW.length≤480000*i∧σ'=WS id5 id6 tc tb B cnt (decide (cnt= [])) eW (decide (eW= []))∧
  f=gD [(1,.ptr l 0),(4,zI j),(5,.ptr id5 0),(6,.ptr id6 0),(7,.sc (.func (.func 75) #[] #[])),(20,.ah 94 (R.map lV) o nl),(21,zI R.length),(22,zI i)]
def Uf (R:Br) (o:cA) (nl:Bool) (ok:Bool) (i l:Nat) (x:List (List Int×Bool)×Bool) (cnt n q:zY) (u:Bool) (j id5 id6 tc tb:Nat) (B:AS) (m:Nat) (f:Fr) (σ':AS):Prop:=
 ∃(k:Nat) (eW:zY),m=x.1.length-k∧k≤x.1.length∧ok=(jF i ((jv x).drop k)&&u)∧eW++(pR i ((jv x).drop k)++n)=q∧eW.length≤480000*i+24*k∧
  σ'=WS id5 id6 tc tb B cnt false eW (decide (eW= []))∧
  f=gD [(1,.ptr j 0),(4,zI l),(5,.ptr id5 0),(6,.ptr id6 0),(7,.sc (.func (.func 75) #[] #[])),(8,zI i),(20,.ah 94 (R.map lV) o nl),(21,zI R.length),(22,zI i),
   (39,lV x),(40,zI x.1.length),(41,zI k)]
def Ue (R:Br) (o:cA) (nl:Bool) (ok:Bool) (i q k:Nat) (x:List (List Int×Bool)×Bool) (y:List Int×Bool) (l cnt u v:zY) (w:Bool) (b0:Nat) (it n id5 id6 tc tb:Nat) (B:AS) (m:Nat) (f:Fr) (σ':AS):Prop:=
 ∃(j:Nat) (eW:zY),m=l.length-j∧j≤l.length∧ok=(nZ (l.drop j) (y.1.drop j)&&w)∧eW++(s8 (l.drop j) (y.1.drop j)++u)=v∧eW.length≤b0+4*j∧
  σ'=WS id5 id6 tc tb (B.set it (.gA ⟨l.toArray⟩ j)) cnt false eW (decide (eW= []))∧
  f=gD [(1,.ptr n 0),(4,zI q),(5,.ptr id5 0),(6,.ptr id6 0),(7,.sc (.func (.func 75) #[] #[])),(8,zI i),(11,iV y),(12,zI j),(20,.ah 94 (R.map lV) o nl),(21,zI R.length),(22,zI i),
   (39,lV x),(40,zI x.1.length),(41,zI k),(47,.ptr it 0)]
theorem Eh (en:Int) (R:Br) (o:cA) (nl:Bool) (hr:∀x∈R,x.1.length≤20000) (hc:∀x∈R,∀y∈x.1,y.1.length≤1000) (hF:dC (pl R)=true) (σ:AS):
 ad prog 32 [NU en R o nl] σ (vT (de (pl R) en) (okW (pl R) en) σ) No:=by
 have h6:R.length=6:=by simp[dC,pl]at hF;exact hF.1
 have f9:gG 0 (pl R)=true:=by simp[dC]at hF;exact hF.2
 have hf:=fun σ=>rV en R o nl (by omega) hr hc σ;rw[hF]at hf;have dn:=fun t σ=>Am t σ;simp only[NU,Jo]at hf dn⊢;refine ad.ob func32 ?_;refine gO cN tI tI ?_;intro av ce;refine gO cN tI @hf ?_;intro id5 H cd;have am:=ba H;refine gO cN tI tI ?_;intro id6 F G cc;have n:=ba F;have al:=ba G;refine gO cN (j2 H G) tI ?_;refine aA.sI id5 0 5 [] true (ty:=30) (cs:= [.aC]) (by simp[n]) (by simp) (.inr ⟨by simp,rfl,rfl⟩) ?_;simp-implicitDefEqProofs [F];intro tc L V X ee;have A:=ba L;have E:=ba V;have ap:=ba X;refine aA.sI id6 0 5 [] true (ty:=30) (cs:= [.aC]) (by simp[A]) (by simp) (.inr ⟨by simp,rfl,rfl⟩) ?_;simp-implicitDefEqProofs [L];intro tb ai Y Z ab eg;have S:=ba ai;have D:=ba Y;have M:=ba Z;have ar:=ba ab;obtain⟨B,eo,ch,ak,c0⟩:=zQ σ (.cells 63 [zI en,.ah 94 (R.map lV) o nl]) ce;simp only[eo];clear eo;have gl:B id5=none:=by rw[ak id5 H];exact cd
 have gh:B id6=none:=by rw[ak id6 G];exact cc
 have gc:B tc=none:=by rw[ak tc X];exact ee
 have ge:B tb=none:=by rw[ak tb ab];exact eg
 have q1:∀C cnt n1 eW n2,(WS id5 id6 tc tb C cnt n1 eW n2) av=C av:=fun C cnt n1 eW n2=>by simp[WS,am,al,ap,ar]
 have q5:∀C cnt n1 eW n2,(WS id5 id6 tc tb C cnt n1 eW n2) id5=some (gC cnt tc n1):=fun C cnt n1 eW n2=>by simp[WS]
 have q6:∀C cnt n1 eW n2,(WS id5 id6 tc tb C cnt n1 eW n2) id6=some (gC eW tb n2):=fun C cnt n1 eW n2=>by simp[WS,F]
 have qc:∀C cnt n1 eW n2,(WS id5 id6 tc tb C cnt n1 eW n2) tc=some (.tok cnt.length):=fun C cnt n1 eW n2=>by simp[WS,V,L]
 have qb:∀C cnt n1 eW n2,(WS id5 id6 tc tb C cnt n1 eW n2) tb=some (.tok eW.length):=fun C cnt n1 eW n2=>by simp[WS,Z,Y,ai]
 have a5:∀C cnt n1 eW n2 x,dT x 2=true→cnt.length≤1000→ad prog 75 [.ptr id5 0,zI x,zI 2] (WS id5 id6 tc tb C cnt n1 eW n2) (aq (zB true) (WS id5 id6 tc tb C (cnt++aS x 2) false eW n2)) No:=by intro C cnt n1 eW n2 x hx hl;have h:=C4 id5 tc cnt n1 x 2 (.inl rfl) hx (by omega) _ (q5 C cnt n1 eW n2) (qc C cnt n1 eW n2) E;rwa [WS.Rs (by simp[an]) n E M A D S]at h
 have cv:∀C cnt n1 eW n2 x w,(w=2∨w=4)→dT x w=true→eW.length≤10000000→ad prog 75 [.ptr id6 0,zI x,zI w] (WS id5 id6 tc tb C cnt n1 eW n2) (aq (zB true) (WS id5 id6 tc tb C cnt n1 (eW++aS x w.toNat) false)) No:=by intro C cnt n1 eW n2 x w hw hx hl;have h:=C4 id6 tb eW n2 x w hw hx (by omega) _ (q6 C cnt n1 eW n2) (qb C cnt n1 eW n2) D;rwa [WS.Rr (by simp[an]) n E M A D S]at h
 have hle:∀C cnt n1 eW n2,AS.le B C→AS.le σ (WS id5 id6 tc tb C cnt n1 eW n2):=fun C cnt n1 eW n2 h=>c0 _ fun j hj y T=>by
  have e5:j≠id5:=by rintro rfl;rw[gl]at T;cases T
  have e6:j≠id6:=by rintro rfl;rw[gh]at T;cases T
  have ec:j≠tc:=nq gc T;have eb:j≠tb:=nq ge T;simp only[WS,e5,e6,ec,eb,if_false];exact h j y T
 have hlen:(pl R).length=6:=by simp[pl,h6]
 refine aA.cz (Ud R o nl (okW (pl R) en) (dT en 2) av id5 id6 tc tb B) (k0:=R.length) ⟨0,0,[],[],by omega,by omega,by simp[okW],by simp,by simp,by simp,by simp,by simp,by simp,rfl,rfl⟩ (aP.mk (by simp)) ?_ ?_
 ·intro j y T;simp only[WS]at T;by_cases e1:j=id5
  ·subst e1;simp[AS.set,gC,n,E,M]at T⊢;exact T
  by_cases e2:j=id6
  ·subst e2;simp[AS.set,gC,e1,A,D]at T⊢;exact T
  by_cases e3:j=tc
  ·subst e3;simp[AS.set,e1,e2,S]at T⊢;exact T
  by_cases e4:j=tb
  ·subst e4;simp[AS.set,e1,e2,e3]at T⊢;exact T
  ·simp[AS.set,e1,e2,e3,e4]at T⊢;exact T
 rintro m f σ' ⟨i,th,cnt,eW,hm,hi,Q,af,c6,q,J,lc,lb,hs,rfl⟩;subst σ';by_cases ca:i<R.length
 ·obtain⟨x,hg,hd,a7,_⟩:=dK R ca;obtain⟨_,d9⟩:=List.getElem?_eq_some_iff.1 hg;have hI:((i:Int)<R.length)=True:=by simp;omega
  have hu:=hr x a7;have f4:(pl R).drop i=jv x::(pl R).drop (i+1):=by rw[pl,←List.map_drop,hd,List.map_cons,List.map_drop]
  rw[f4]at Q af q J;simp only[allFit,lF,iP,qX,List.flatMap_cons]at Q af q J;by_cases hz:x.1= []
  ·have b2:jv x= []:=by simp[jv,hz]
   rw[b2]at Q af q J;simp[jF,CC,pR]at Q af q J;refine gO cN (j5 hI ca @d9 @lV.eq_1 @hz) tI ?_;refine⟨m-1,_,_,by omega,aP.mk ?_,lR _,i+1,th,cnt,eW,by omega,by omega,by simpa using Q,af,by rw[Nat.pow_succ];omega,q,J,by omega,by omega,rfl,rfl⟩;simp[dv (show i<4000000000000000000 by omega)]
  ·have b2:jv x≠ []:=by simp[jv,hz]
   have c8:(jv x).length=x.1.length:=by simp[jv]
   simp only[CC,b2,if_false]at af q;have f3:dT (x.1.length:Int) 2=true:=by simp[dT];omega
   have b1:=a5 B cnt (decide (cnt= [])) eW (decide (eW= [])) x.1.length f3 (by omega);refine gO cN (j5 hI ca @d9 @lV.eq_1 @hz) @b1 ?_;refine aA.cz (Uf R o nl (okW (pl R) en) i (th+2^i) x (cnt++aS x.1.length 2) (iP (i+1) ((pl R).drop (i+1))) (iP 0 (pl R)) (allFit (i+1) ((pl R).drop (i+1))&&dT en 2) av id5 id6 tc tb B) (k0:=x.1.length) ⟨0,eW,by omega,by omega,by rw[Q,Bool.and_assoc];rfl,by rw[←J];simp,by omega,rfl,rfl⟩ (aP.mk ?_) (lR _) ?_
   ·simp[lV];exact Rq (MZ th i (by omega) c6)
   rintro m2 f σ' ⟨k,bs,hA,hk,ac,P,hp,hs,rfl⟩;subst σ';by_cases a8:k<x.1.length
   ·obtain⟨y,f0,f7,ay,_⟩:=dK x.1 a8;obtain⟨_,d8⟩:=List.getElem?_eq_some_iff.1 f0;have hK:((k:Int)<x.1.length)=True:=by simp;omega
    have hq:=hc x a7 y ay;have ea:(jv x).drop k=y.1::(jv x).drop (k+1):=by rw[jv,←List.map_drop,f7,List.map_cons,List.map_drop]
    rw[ea]at ac P;simp only[jF,pR,List.all_cons,List.flatMap_cons]at ac P;have ft:y.1.length=(bS i).length:=by have:=xx (k:=i) (l:=jv x) f9 (by simp[pl,hg]) y.1 (List.mem_map.2 ⟨y,ay,rfl⟩);simpa using this
    have hB:=o8 (i:Int);have fv:=An (i:Int);have dl:=fun σ=>dn i σ;generalize db:bS (i:Int)=ks at*;refine gO cN (j5 @hK @a8 @d8 @lV.eq_1 @iV.eq_1) @dl ?_;intro it K;have w5:¬it=id5:=by rintro rfl;rw[q5]at K;cases K
    have w6:¬it=id6:=by rintro rfl;rw[q6]at K;cases K
    have wc:¬it=tc:=by rintro rfl;rw[qc]at K;cases K
    have wb:¬it=tb:=by rintro rfl;rw[qb]at K;cases K
    have bf:B it=none:=by simpa[WS,w5,w6,wc,wb]using K
    have qt:∀C cnt n1 eW n2,(WS id5 id6 tc tb C cnt n1 eW n2) it=C it:=fun C cnt n1 eW n2=>by simp[WS,w5,w6,wc,wb]
    rw[WS.out w5 w6 wc wb];refine gO cN tI tI ?_;refine aA.cz (Ue R o nl (okW (pl R) en) i (th+2^i) k x y ks (cnt++aS x.1.length 2) ((pR i ((jv x).drop (k+1)))++iP (i+1) ((pl R).drop (i+1))) (iP 0 (pl R)) (jF i ((jv x).drop (k+1))&&(allFit (i+1) ((pl R).drop (i+1))&&dT en 2)) (480000*i+24*k) it av id5 id6 tc tb B) (k0:=ks.length) ⟨0,bs,by omega,by omega,?_,?_,by omega,rfl,rfl⟩ (aP.mk ?_) (lR _) ?_
    ·rw[ac,List.drop_zero,List.drop_zero,Bool.and_assoc,jF,db]
    ·rw[List.drop_zero,List.drop_zero,←P];simp[pR,db]
    ·simp[lV,iV]
    rintro m3 f σ' ⟨j,U,hv,hj,I,O,ho,hs,rfl⟩;subst σ';by_cases a0:j<ks.length
    ·obtain⟨kd,fz,f6,b5,_⟩:=dK ks a0;obtain⟨v,fw,f5,fk,_⟩:=dK y.1 (show j<y.1.length by omega);obtain⟨_,a9⟩:=List.getElem?_eq_some_iff.1 fw;rw[f6,f5]at I O;simp only[nZ,s8]at I O;have bb:=Ft ks j fz (fv kd b5);have c4:=fun σ=>Gg kd 0 (by omega) σ;have a6:=Gl kd 0;have c2:j<y.1.length:=by omega
     have ei:((j:Int)<y.1.length)=True:=by simp;omega
     have c3:=fun C cnt n1 eW n2 x=>WS.out (id5:=id5) (id6:=id6) (tc:=tc) (tb:=tb) (B:=C) (cnt:=cnt) (n1:=n1) (eW:=eW) (n2:=n2) (x:=x) w5 w6 wc wb;have ax:=an v (wK kd 0).toNat;cases a2:dT v (wK kd 0)with
     |false=>have b3:=fun σ=>C5 id6 tb U (decide (U= [])) v (wK kd 0) a6 a2 σ;rw[a2]at I;refine gO cN (j2 (j7 @a0 @bb @qt @iV.eq_1 @c2 @ei @a9) (j2 @aG @c3)) (j2 @c4 @b3) ?_;exact vT.no (by rw[I];rfl) (hle _ _ _ _ _ (aw bf (lR _)))
     |true=>
      have fi:=fun C=>cv C (cnt++aS x.1.length 2) false U (decide (U= [])) v (wK kd 0) a6 a2 (by omega);rw[a2]at I;refine gO cN (j2 (j7 @a0 @bb @qt @iV.eq_1 @c2 @ei @a9) (j2 @aG @c3)) (j2 @c4 @fi) ?_;have b4:¬(U++aS v (wK kd 0).toNat= []):=by intro e;have:=congrArg List.length e;simp[ax]at this;omega
      refine⟨m3-1,_,_,by omega,aP.mk ?_,lR _,j+1,U++aS v (wK kd 0).toNat,by omega,by omega,by rw[I];simp,by rw[←O];simp,by rw[List.length_append,ax];omega,by simp only[b4,decide_false],rfl⟩;simp[lV,iV,dv (show j<4000000000000000000 by omega)]
    ·have c9:ks.drop j= []:=List.drop_eq_nil_of_le (by omega);rw[c9]at I O;simp[nZ,s8]at I O;have b6:(j<ks.length)=False:=by simp;omega
     refine gO cN (j3 @b6 @qt @U5) tI ?_;refine⟨m2-1,_,_,by omega,aP.mk ?_,WS.le (aw bf (lR _)),k+1,U,by omega,by omega,I,O,by omega,rfl,rfl⟩;simp[lV,dv (show k<4000000000000000000 by omega)]
   ·have hK:((k:Int)<x.1.length)=False:=by simp;omega
    have cb:(jv x).drop k= []:=List.drop_eq_nil_of_le (by omega);rw[cb]at ac P;simp[jF,pR]at ac P;have ax:=an x.1.length 2;have b4:¬(cnt++aS x.1.length 2= []):=by intro e;have:=congrArg List.length e;simp[ax]at this
    refine gO cN @hK tI ?_;refine⟨m-1,_,_,by omega,aP.mk ?_,lR _,i+1,th+2^i,cnt++aS x.1.length 2,bs,by omega,by omega,ac,by omega,by rw[Nat.pow_succ];omega,by rw[c8]at q;simp only[qX,List.append_assoc];exact q,P,by rw[List.length_append,ax];omega,by omega,by simp only[b4,decide_false],rfl⟩;simp[dv (show i<4000000000000000000 by omega)]
 ·obtain rfl:i=6:=by omega
  have hI:((6:Int)<R.length)=False:=by simp[h6]
  have cb:(pl R).drop 6= []:=List.drop_eq_nil_of_le (by omega);rw[cb]at Q af q J;simp[allFit,lF,qX,iP]at Q af q J;cases a3:dT en 2 with
  |false=>rw[a3]at Q;have b3:=fun σ=>C5 id5 tc cnt (decide (cnt= [])) en 2 (.inl rfl) a3 σ;refine gO cN (j3 hI @q1 @ch) @b3 ?_;exact vT.no Q (hle _ _ _ _ _ (lR _))
  |true=>
   rw[a3]at Q;have b1:=a5 B cnt (decide (cnt= [])) eW (decide (eW= [])) en a3 (by omega);have ax:=an en 2;have c5:IntKind.u8.wrap (th:Int)=((UInt8.ofNat th).toNat:Int):=by rw[nO];simp
   refine gO cN (j6 hI @q1 @ch @q5 @gC.eq_1 @c5) @b1 ?_;intro tk u;have w1:¬tk=av:=by rintro rfl;rw[q1,ch]at u;cases u
   have w5:¬tk=id5:=by rintro rfl;rw[q5]at u;cases u
   have w6:¬tk=id6:=by rintro rfl;rw[q6]at u;cases u
   have wc:¬tk=tc:=by rintro rfl;rw[qc]at u;cases u
   have wb:¬tk=tb:=by rintro rfl;rw[qb]at u;cases u
   have e8:=ba w6;have gb:B tk=none:=by simpa[WS,w5,w6,wc,wb]using u
   have c1:σ tk=none:=by rw[←ak tk w1];exact gb
   refine gO cN (j3 @e8 @q6 @gC.eq_1) tI ?_;have be:de (pl R) en= [0,UInt8.ofNat th]++(cnt++aS en 2)++eW:=by rw[de,af,q,J];rfl
   refine⟨_,_,?_,?_,.inl ⟨Q,tk,c1,rfl,rfl⟩⟩
   ·rw[be];exact du (by simp)
   ·have hl:(de (pl R) en).length=cnt.length+(aS en 2).length+1+1+eW.length:=by rw[be];simp;omega
    rw[hl];intro j y T;by_cases e:j=tk
    ·subst e;simpa[AS.set]using T
    ·simp[AS.set,e]at T⊢;exact hle B _ _ _ _ (lR _) j y T
end Rw
namespace Im
open Tryz
open Sg (oV nw dN)
open Rg (Cl jg bw)
def j9 (t:Ty) (n:Int):Bool:=decide (¬(t.kind=5∨t.kind=6)∨t.index<n)
def nG (t:Ty) (n:Int):Bool:=cq t&&j9 t n
def kT (t:Ty) (n:Int):Bool:=aX t&&j9 t n
def y4 (t:Ty) (n:Int):Bool:=cG t&&j9 t n
theorem yl (t:Ty) (n:Int) (σ:AS):ad prog 114 [cB t,zI n] σ (aq (.sc (.bool (j9 t n))) σ) No:=by
 obtain⟨k,x,d,r⟩:=t;refine ad.ob func114 ?_;simp only[cB,j9];refine gO aa tI tI ?_;intro id o;by_cases j:k=5
 ·refine gO aa @j tI ?_;all_goals exact gJ tI
 ·by_cases l:k=6
  ·refine gO aa (j2 @j @l) tI ?_;all_goals exact gJ tI
  ·refine gO aa (j2 @j @l) tI ?_;all_goals exact gJ tI
theorem De (t:Ty) (n:Int) (σ:AS):ad prog 56 [cB t,zI n] σ (aq (.sc (.bool (j9 t n))) σ) No:=by
 obtain⟨k,x,d,r⟩:=t;refine ad.ob func56 ?_;simp only[cB,j9];refine gO aa tI tI ?_;intro id o;by_cases j:k=5
 ·refine gO aa @j tI ?_;all_goals exact gJ tI
 ·by_cases l:k=6
  ·refine gO aa (j2 @j @l) tI ?_;all_goals exact gJ tI
  ·refine gO aa (j2 @j @l) tI ?_;all_goals exact gJ tI
theorem tG (t:Ty) (p n:Int) (σ:AS):ad prog 23 [cB t,zI p,zI n] σ (aq (.sc (.bool (dU t p&&j9 t n))) σ) No:=by
 have hw:=fun σ=>mf t p σ;have j:=fun σ=>De t n σ;generalize j9 t n=b at j⊢;cases l:dU t p<;>rw[l]at hw<;>obtain⟨k,x,d,r⟩:=t<;>simp only[cB]at hw j⊢;all_goals
  refine ad.ob func23 ?_;refine gO aa tI tI ?_;intro id o;refine gO aa tI (j2 @hw @j) ?_;all_goals exact gJ tI
theorem ur {P:Program}{f:FuncId}{args:List AV}{σ:AS}{g:Nat→AV}{n:Nat}{v:AV}(h:ad P f args σ (gy g n σ) No) (hw:∀j,AV.Wk P (g j) v):ad P f args σ (aq v σ) No:=
 ⟨h.body,fun G w vals o l=>(h.run G w vals o l).mono fun e w' he=>by
  unfold jC at he⊢;split at he
  ·obtain⟨G',σ',r,a,b,c,j,h0,rfl,rfl⟩:=he;exact⟨G',σ,v,a,b.weaken (AS.ao (lR _) h0),hw j _ _ c,rfl,rfl⟩
  ·obtain⟨x,y,G',σ',r,a,b,c,d⟩:=he;exact d.elim
  ·exact he.elim⟩
theorem kP (t:Ty) (σ:AS):∃v,ad prog 62 [cB t] σ (aq (.cp [v,zI (if cq t=true then 0 else 17)]) σ) No:=by
 by_cases h:cq t=true
 ·rw[if_pos h];exact⟨_,ur (oV t h σ) fun j=>dt (a:= .ah 5 ((6::dN t).map u8) (.tok j) false) (CY _ _ _ _ |>.2 trivial) (Wk.refl _)⟩
 ·rw[if_neg h];exact⟨_,nw t (by simpa using h) σ⟩
theorem qS (t:Ty) (n:Int) (σ:AS):ad prog 53 [cB t,zI n] σ (aq (.sc (.bool (nG t n))) σ) No:=by
 have hw:=fun σ=>kP t σ;have j:=fun σ=>yl t n σ;unfold nG;generalize j9 t n=b at j⊢;cases l:cq t<;>rw[l]at hw<;>obtain⟨k,x,d,r⟩:=t<;>simp only[cB,if_true,Bool.false_eq_true,if_false]at hw j⊢;all_goals
  refine ad.ob func53 ?_;refine gO aa tI tI ?_;intro id o;obtain⟨v,hw⟩:=hw (σ.set id (.cells 49 [zI k,zI x,zI d,zB r]));refine gO aa tI (j2 @hw @j) ?_;all_goals exact gJ tI
theorem HQ (t:Ty) (n:Int) (σ:AS):ad prog 116 [cB t,zI n] σ (aq (.sc (.bool (kT t n))) σ) No:=by
 have hw:=fun σ=>oW t σ;have l:=fun σ=>yl t n σ;unfold kT aX;generalize j9 t n=b at l⊢;cases o:aV t<;>rw[o]at hw<;>obtain⟨k,x,d,r⟩:=t<;>simp only[cB]at hw l⊢
 ·refine ad.ob func116 ?_;refine gO aa tI tI ?_;intro id j;refine gO aa tI @hw ?_;all_goals exact gJ tI
 ·by_cases h1:k=1
  ·subst h1;refine ad.ob func116 ?_;refine gO aa tI tI ?_;intro id j;refine gO aa tI @hw ?_;all_goals exact gJ tI
  ·refine ad.ob func116 ?_;refine gO aa tI tI ?_;intro id j;refine gO aa @h1 (j2 @hw @l) ?_;all_goals exact gJ tI
theorem FT (t:Ty) (n:Int) (σ:AS):ad prog 117 [cB t,zI n] σ (aq (.sc (.bool (y4 t n))) σ) No:=by
 have hw:=fun σ=>oW t σ;have j:=fun σ=>yl t n σ;unfold y4 cG;generalize j9 t n=b at j⊢;cases o:aV t<;>rw[o]at hw<;>obtain⟨k,x,d,r⟩:=t<;>simp only[cB]at hw j⊢
 ·refine ad.ob func117 ?_;refine gO aa tI tI ?_;intro id l;refine gO aa tI (j2 @hw @j) ?_;all_goals exact gJ tI
 ·cases r;all_goals
   refine ad.ob func117 ?_;refine gO aa tI tI ?_;intro id l;refine gO aa tI (j2 @hw @j) ?_;all_goals exact gJ tI
def DX (c:Cl) (n:Int):Bool:=if c.k=1 then nG ⟨c.a,c.b,c.c,c.r⟩ n else nL ⟨c.a,c.b,c.c,c.r⟩
theorem FD (c:Cl) (n:Int) (σ:AS):ad prog 124 [jg c,zI n] σ (aq (.sc (.bool (DX c n))) σ) No:=by
 have hf:=fun σ=>qS ⟨c.a,c.b,c.c,c.r⟩ n σ;unfold DX;generalize nG ⟨c.a,c.b,c.c,c.r⟩ n=b at hf⊢;obtain⟨k,tf,tt,l,ht,fl,a,q,o,r⟩:=c;simp only[cB,bw,nL]at hf⊢;refine ad.ob func124 ?_;refine gO aa tI tI ?_;intro id j;by_cases h1:k=1
 ·refine gO aa @h1 @hf ?_;all_goals exact gJ tI
 ·refine gO aa @h1 @hf ?_;all_goals exact gJ tI
def cS (x:dM) (nt nf nm n:Int):Bool:=
 decide (jT x=0)&&(if (gZ x.op).2.1=5 then decide (x.arg<n)else if (gZ x.op).2.1=6 then decide (x.arg<nm)else if (gZ x.op).2.1=7 then decide (x.arg<nf)else j9 x.t nt)
theorem instr_ok (x:dM) (g:bZ) (n:Int) (σ:AS):ad prog 121 [bJ x,lp g,zI n] σ (aq (.sc (.bool (cS x g.ts.length g.fs.length g.ms.length n))) σ) No:=by
 have hf:=fun σ=>Ap x σ;have o:=fun σ=>Ed x.op σ;have hw:=fun σ=>yl x.t g.ts.length σ;unfold cS;generalize j9 x.t g.ts.length=b at hw⊢;generalize jT x=H at hf⊢;generalize uV x.op=I at o;obtain⟨op,arg,k,J,d,r⟩:=x;simp only[eu,aN,fO,cB]at hf o hw⊢;generalize gZ op=tt at o⊢;obtain⟨t1,t2,t3⟩:=tt;simp only at o⊢;refine ad.ob func121 ?_;refine gO aa tI tI ?_;intro id G;refine gO aa tI tI ?_;intro F ne A;have ne':=ba ne;by_cases h0:H=0
 ·refine gO aa (j2 @ne' @h0) (j2 @hf @o) ?_;intro E q u y;have j:=ba u;have l:=ba q;by_cases w:t2=5
  ·refine gO aa (j3 @ne' @j @w) tI ?_;all_goals exact gJ tI
  ·by_cases v:t2=6
   ·refine gO aa (j4 @ne' @j @l @v) tI ?_;all_goals exact gJ tI
   ·by_cases D:t2=7
    ·refine gO aa (j6 @ne' @j @l @w @v @D) @hw ?_;all_goals exact gJ tI
    ·refine gO aa (j6 @ne' @j @l @w @v @D) @hw ?_;all_goals exact gJ tI
 ·refine gO aa (j2 @ne' @h0) (j2 @hf @o) ?_;all_goals exact gJ tI
def ly (f n:Int):Bool:=decide (f<0∨n≤f)
def F6 (t:TD) (n:Int):Bool:=bY t.name&&(decide (0≤t.flags∧t.flags≤31∧ -1≤t.ext∧t.ext<n∧t.bO.length≤4)&& !t.bO.any (fun f=>ly f n))
theorem Bx (f n:Int) (id:Nat) (σ:AS) (h:σ id=some (.cells 3 [zI n])):
 ad prog 51 [iV f,.ptr id 0] σ (aq (.sc (.bool (ly f n))) σ) No:=by
 refine ad.ob func51 ?_;simp only[oA,ly];by_cases h0:f<0
 ·exact gE aa (j2 @h0 @h) tI;all_goals exact gJ @h0
 ·exact gE aa (j2 @h0 @h) tI;all_goals exact gJ @h0
theorem En (t:TD) (hl:t.bO.length≤140737488355328) (hn:t.name.length≤140737488355328) (n:Int) (id:Nat) (σ:AS) (h:σ id=some (.cells 3 [zI n])):
 ad prog 49 [jD t,.ptr id 0] σ (aq (.sc (.bool (!F6 t n))) σ) No:=by
 have y:=fun σ (h:σ id=some (.cells 3 [zI n]))=>H9 t.bO .aJ t.fn (.fn (.func 51) [] [.ptr id 0]) (fun f=>ly f n) σ hl
  (fun x _ =>nJ.fn (Bx x n id σ h))
 have hf:=fun σ=>tX t.name hn σ;unfold F6;generalize t.bO.any (fun f=>ly f n)=b at y⊢;generalize bY t.name=D at hf⊢;obtain⟨nm,fl,ex,fc,fn⟩:=t;simp only[cK]at y hf⊢;refine ad.ob func49 ?_;refine gO aa tI tI ?_;intro w q;have j:¬id=w:=nq h q;refine gO aa (j2 @h j) (j2 @y @hf) ?_;cases D
 ·refine gO aa tI tI ?_;all_goals exact gJ tI
 ·by_cases h1:fl<0
  ·refine gO aa @h1 tI ?_;all_goals exact gJ @h1
  ·by_cases l:31<fl
   ·refine gO aa (j2 @h1 @l) tI ?_;all_goals exact gJ (j2 @h1 @l)
   ·by_cases o:ex< -1
    ·refine gO aa (j3 @h1 @l @o) tI ?_;all_goals exact gJ (j3 @h1 @l @o)
    ·by_cases v:n≤ex
     ·refine gO aa (j6 @h j @h1 @l @o @v) tI ?_;all_goals exact gJ (j4 @h1 @l @o @v)
     ·by_cases A:fc.length≤4
      ·have u:(4<(fc.length:Int))=False:=by simp;omega
       refine gO aa (j7 @h j @h1 @l @o @v @u) tI ?_;all_goals exact gJ (j5 @h1 @l @o @v @A)
      ·have u:(4<(fc.length:Int))=True:=by simp;omega
       refine gO aa (j7 @h j @h1 @l @o @v @u) tI ?_;all_goals exact gJ (j5 @h1 @l @o @v @A)
def Bz (l:List TD):Bool:=decide (l.length≤32)&&l.all (fun t=>F6 t l.length)
theorem lD {α:Type}(p:α→Bool) (l:List α):(l.any fun x=> !p x)= !l.all p:=by
 induction l with
 |nil=>rfl
 |cons a r j=>simp[j]
theorem Gp (g:bZ) (hl:g.ts.length≤140737488355328) (hn:∀t∈g.ts,t.bO.length≤140737488355328∧t.name.length≤140737488355328) (σ:AS):
 ad prog 18 [lp g] σ (aq (.sc (.bool (Bz g.ts))) σ) No:=by
 have l:=fun σ id (h:σ id=some (.cells 3 [zI g.ts.length]))=>Gv g.ts .aJ g.tn (.fn (.func 49) [] [.ptr id 0]) (fun t=> !F6 t g.ts.length) σ hl
  (fun x u=>nJ.fn (En x (hn x u).1 (hn x u).2 g.ts.length id σ h))
 simp only[lD]at l;unfold Bz;generalize (g.ts.all fun t=>F6 t g.ts.length)=b at l⊢;simp only[aN]at l⊢;have o:((g.ts.length:Int)≤32)=(g.ts.length≤32):=by simp;omega
 refine ad.ob func18 ?_;refine gO aa tI tI ?_;intro id v;refine gO aa tI tI ?_;intro w j q;by_cases n:g.ts.length≤32
 ·refine gO aa (j3 j @o @n) @l ?_;all_goals exact gJ tI
 ·refine gO aa (j3 j @o @n) @l ?_;all_goals exact gJ tI
def lO (nt:Int):Int→List Fd→Bool
 | _,[]=>true
 |last,f::r=>if bY f.name=true∧last≤f.owner∧f.owner<nt∧nG f.ty nt=true then lO nt f.owner r else false
theorem rW (g:bZ) (hl:g.fs.length≤140737488355328) (o:g.ts.length≤140737488355328) (hn:∀f∈g.fs,f.name.length≤140737488355328) (σ:AS):
 ad prog 19 [lp g] σ (aq (.sc (.bool (lO g.ts.length 0 g.fs&&decide (g.fs.length≤64)))) σ) No:=by
 have F:((g.fs.length:Int)≤64)=(g.fs.length≤64):=by simp;omega
 have L:=fun(f:Fd) (h:f.name.length≤140737488355328) σ=>tX f.name h σ;have H:=fun(f:Fd) σ=>qS f.ty g.ts.length σ;simp only[aN,cB]at H⊢;refine ad.ob func19 ?_;refine gO aa tI tI ?_;intro id G;refine gO aa tI tI ?_;refine aA.aY (α:=(Nat)×(Int)) ((0,0)) (fun⟨i,last⟩=>g.fs.length-i) (fun⟨i,last⟩=>i≤g.fs.length∧lO g.ts.length 0 g.fs=lO g.ts.length last (g.fs.drop i)) [(1,?_),(7,?_),(8,?_)] (fun⟨i,last⟩=> [(9,zI i),(3,zI last)]) (fun⟨i,last⟩=>σ.set id (.cells 26 (lp g).cells)) ?_ ?_ ?_ ?_;rotate_left 3
 ·exact gF tI
 ·exact gT
 ·(try dsimp only)<;>first|exact trivial|exact⟨by omega,rfl⟩|omega|(simp;done)|exact⟨by omega,by simp⟩|exact⟨by omega,by simp,rfl⟩
 intro I y;obtain⟨i,last⟩:=I;try dsimp only at y⊢
 obtain⟨M,v⟩:=y;simp only[fm];by_cases o:i<g.fs.length
 ·have q:zW ((i:Int)+1)=((i+1:Nat):Int):=bh (by omega);rw[List.drop_eq_getElem_cons o]at v;simp only[lO]at v;have n:=L g.fs[i] (hn _ (List.getElem_mem o));have u:=H g.fs[i];generalize K:g.fs[i]=f at*;refine gO aa (j5 o @K @dq @ae @aN) tI ?_;intro J j w;cases h1:bY f.name with
  |false=>
   rw[h1]at n;have l:lO g.ts.length 0 g.fs=false:=by rw[v];simp[h1]
   rw[l];refine gO aa tI @n ?_;all_goals exact gJ tI
  |true=>
   rw[h1]at n;by_cases D:f.owner<last
   ·have l:lO g.ts.length 0 g.fs=false:=by rw[v,if_neg (fun h=>absurd h.2.1 (by omega))]
    rw[l];refine gO aa @D @n ?_;all_goals exact gJ tI
   ·by_cases E:(g.ts.length:Int)≤f.owner
    ·have l:lO g.ts.length 0 g.fs=false:=by rw[v,if_neg (fun h=>absurd h.2.2.1 (by omega))]
     rw[l];refine gO aa (j4 j @D @E @q) (j2 @n @u) ?_;all_goals exact gJ tI
    ·cases A:nG f.ty g.ts.length with
     |false=>
      rw[A]at u;have l:lO g.ts.length 0 g.fs=false:=by rw[v];simp[A]
      rw[l];refine gO aa (j4 j @D @E @q) (j2 @n @u) ?_;all_goals exact gJ tI
     |true=>
      rw[A]at u;rw[if_pos ⟨h1,by omega,by omega,A⟩]at v;refine gO aa (j4 j @D @E @q) (j2 @n @u) ?_;refine aH.mk ((i+1,f.owner)) (by(try dsimp only);omega) (gF tI) (by(try dsimp only);exact aw (by simp[j,w]) (lR _)) ?_;try dsimp only
      exact⟨o,v⟩
 ·rw[List.drop_eq_nil_of_le (by omega)]at v;rw[v];simp only[lO];refine gO aa (j4 o @F @ae @aN) tI ?_;all_goals exact gJ tI
end Im
end Go.Proofs.YtknalmoackcpbaaGreat
