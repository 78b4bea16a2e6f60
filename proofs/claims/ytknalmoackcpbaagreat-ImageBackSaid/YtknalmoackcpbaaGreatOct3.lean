/- Package octet's Size, Pack, and its reader's Packed. -/
import Derived.Test.YtknalmoackcpbaaGreatBody7
set_option maxRecDepth 100000
set_option maxHeartbeats 800000
set_option maxHeartbeats 3200000
set_option linter.all false
namespace Go.Proofs.YtknalmoackcpbaaGreat
open Go Go.AW
abbrev lU:b7:=(.step 0 (.step 1 (.step 2 (.step 4 (.step 5 (.step 6 (.read 3 (.read 7 (.step 8 (.read 9 (.alt 10 (.step 11 .done) .none)))))))))))
abbrev kX:b7:=(.step 0 (.step 1 (.step 2 (.step 4 (.step 5 (.step 6 (.step 8 (.step 9 (.step 10 (.step 12 (.step 16 (.read 3 (.read 7 (.read 11 (.step 13 (.step 14 (.read 15 .done)))))))))))))))))
theorem qu (S:List Nat):aH Tryz.prog [] S:=mixed
theorem ef (S:List Nat):aH Tryz.prog [(5,lU),(11,kX)] S:=mixed
def HR (x:Int):Nat→List UInt8
 |0=> []
 |k+1=>UInt8.ofNat (x/256^k%256).toNat::HR x k
theorem kj (x:Int) (k:Nat):(HR x k).length=k:=by
 induction k with
 |zero=>rfl
 |succ k d=>simp[HR,d]
def ji (n:Int):Int:=if n<128 then n else if n<16384 then n+32768 else n+3221225472
def aY (n:Int):List UInt8:=HR (ji n) (ez n).toNat
def Rd (l:List UInt8) (x:Int) (k d:Nat) (σ:AS) (m:Nat) (s:Fr) (σ':AS):Prop:=
 ∃(pre:List UInt8) (nl:Bool),pre++HR x m=HR x k∧m≤k∧(nl=true→m=k)∧
  s=jJ [(7,.sc (.int .u32 x)),(8,.an 5 ((l++pre).map u8) (.tok d) nl),(9,.sc (.int .i64 (m-1)))]∧
  σ'=σ.set d (.tok (l.length+pre.length))
theorem zP (n:Int) (h0:0≤n) (h1:n≤536870911):0≤ji n∧ji n<4294967296:=by unfold ji;split<;>(try split)<;>omega
theorem kB (l:List UInt8) (own:cL) (nil:Bool) (L:nil=true→l= []) (hl:l.length≤1000000) (n:Int) (h0:0≤n) (h1:n≤536870911) (σ:AS):
 aa Tryz.prog 73 [.an 5 (l.map u8) own nil,.sc (.int .i64 n)] σ
  (la (fun q=> .bQ [.an 5 ((l++aY n).map u8) (.tok q) false,.sc (.int .i64 0)]) (l++aY n).length σ) No:=by
 refine aa.ob Tryz.func73 ?_;refine gO qu tI tI ?_;refine ag.aC (zC n _) ?_;simp;have T:=zP n h0 h1;have hu:IntKind.u32.wrap n=n:=by rw[Nd];omega
 have i:(ez n=1∧C4 32 n 0=ji n)∨(ez n=2∧C4 32 n 32768=ji n)∨(ez n=4∧C4 32 n 3221225472=ji n):=by
  unfold ez ji;have S:¬(n<0∨536870911<n):=by omega
  rw[if_neg S];by_cases A:n<128
  ·simp only[A,if_true];refine .inl ⟨trivial,?_⟩;rw[qj];have:=oG (w:=32) (a:=0) (b:=n) 7 h0 (by omega) (c:=0) (by omega) (by simp) (by omega);omega
  ·by_cases F:n<16384
   ·simp only[A,F,if_true,if_false];refine .inr (.inl ⟨trivial,?_⟩);rw[qj];have:=oG (w:=32) (a:=32768) (b:=n) 14 h0 (by omega) (c:=2) (by omega) (by decide) (by omega);omega
   ·simp only[A,F,if_false];refine .inr (.inr ⟨trivial,?_⟩);rw[qj];have:=oG (w:=32) (a:=3221225472) (b:=n) 30 h0 (by omega) (c:=3) (by omega) (by decide) (by omega);omega
 obtain⟨k,P,O,M,j⟩:∃k:Nat,ez n=k∧0<k∧k≤4∧C4 32 n (([0,0,32768,0,3221225472]:List Int).getD k 0)=ji n:=by
  rcases i with⟨a,b⟩|⟨a,b⟩|⟨a,b⟩
  ·exact⟨1,a,by omega,by omega,b⟩
  ·exact⟨2,a,by omega,by omega,b⟩
  ·exact⟨4,a,by omega,by omega,b⟩
 have u:IntKind.u32.wrap (ji n)=ji n:=by rw[Nd];omega
 have g:k=1∨k=2∨k=4:=by rcases i with⟨a,_⟩|⟨a,_⟩|⟨a,_⟩<;>omega
 have o:(ez n).toNat=k:=by omega
 have K:aY n=HR (ji n) k:=by simp[aY,o]
 rw[P];rcases g with rfl|rfl|rfl;all_goals
  simp at j;refine gO qu (j4 @hu @j @u @Tryz.underlying206) tI ?_;refine ag.xY (qf (l.map u8) own nil (fun h=>by simp[L h]) (by simp;omega) σ) (fun q v=> ?_);simp;refine gO qu @HZ tI ?_;refine ae.dx (Rd l (ji n) (ez n).toNat q σ) (k0:=(ez n).toNat) ⟨[],nil,rfl,Nat.le_refl _,fun _ =>rfl,rfl,rfl⟩ (aS.mk (by simp[o])) (by simp) ?_;rintro m s σ' ⟨pre,nl,d,hm,y,rfl,rfl⟩;have D:pre.length+m=(ez n).toNat:=by have:=congrArg List.length d;simpa[kj]using this
  cases m with
  |zero=>
   have E:pre=aY n:=by simpa[HR,aY]using d
   have:nl=false:=by cases nl with|false=>rfl|true=>have:=y rfl;omega
   subst this;refine gO qu tI tI ?_;exact bJ q v (by simp[E]) (by simp[E])
  |succ m=>
   have w1:IntKind.i64.wrap (8*(m:Int))=((8*m:Nat):Int):=by rw[ay (by omega) (by omega)];simp
   have I:min (8*m) 32=8*m:=by omega
   have G:(8*(m:Int)).toNat=8*m:=by omega
   have J:IntKind.u8.wrap (ji n/2^(8*m))=((UInt8.ofNat (ji n/256^m%256).toNat).toNat:Int):=by rw[A6,←zN];simp;omega
   have H:IntKind.i64.wrap ((m:Int)-1)=m-1:=ay (by omega) (by omega);have Q:(0:Int)≤m:=by omega
   refine gO qu (j7 @Q @w1 @I @G @J @Tryz.underlying206 @Tryz.underlying5) tI ?_;refine⟨m,_,_,by omega,aS.mk ?_,?_,pre++ [UInt8.ofNat (ji n/256^m%256).toNat],false,by simpa[HR]using d,by omega,by simp,rfl,rfl⟩
   ·simp[H]
   ·simp[Nat.add_assoc]
def mE (l:List UInt8):Int:=l.foldl (fun x c=>256*x+c.toNat) 0
theorem Kt (l:List UInt8) (c:UInt8):mE (l++ [c])=256*mE l+c.toNat:=by simp[mE,List.foldl_append]
theorem Ku (l:List UInt8):∀x:Int,0≤x→0≤l.foldl (fun(x:Int) (c:UInt8)=>256*x+(c.toNat:Int)) x∧l.foldl (fun(x:Int) (c:UInt8)=>256*x+(c.toNat:Int)) x<(x+1)*256^l.length:=by
 induction l with
 |nil=>intro x g;simp;omega
 |cons c r d=>intro x g;have h:=c.toNat_lt;obtain⟨h1,j⟩:=d (256*x+c.toNat) (by omega);refine⟨h1,?_⟩;simp only[List.foldl_cons,List.length_cons,Int.pow_succ];have i:(256*x+(c.toNat:Int)+1)*256^r.length≤(x+1)*256*256^r.length:=Int.mul_le_mul_of_nonneg_right (by omega) (Int.le_of_lt (Int.pow_pos (by decide)));rw[Int.mul_comm (256^r.length) 256,←Int.mul_assoc];omega
theorem xx (l:List UInt8):0≤mE l∧mE l<256^l.length:=by have:=Ku l 0 (by omega);simpa[mE]using this
def fE (k:Int):Int:=if k=1 then 127 else if k=2 then 16383 else 536870911
def pE (b:List UInt8):Int×Int×Int:=
 match b with
 |[]=>(0,0,1)
 |c:: _ =>
  let k:=bw c.toNat
  if k=0 then(0,0,2)else if (b.length:Int)<k then(0,0,1)else
  let x:=mE (b.take k.toNat)%(fE k+1)
  if ez x=k then(x,k,0)else(0,0,2)
def LW (id:Nat) (σ:AS) (L:List UInt8) (k:Int) (m:Nat) (s:Fr) (σ':AS):Prop:=
 ∃i:Nat,m=L.length-i∧i≤L.length∧σ'=σ∧
  s=jJ [(0,.ptr id 0),(4,.sc (.int .i64 k)),(5,.sc (.int .i64 (mE (L.take i)))),(46,.an 5 (L.map u8) .aE false),(47,.sc (.int .i64 L.length)),(48,.sc (.int .i64 i))]
theorem yK (id:Nat) (b:List UInt8) (at':Int) (nl:Bool) (σ:AS) (T:nl=true→b= []) (h:σ id=some (bC b at' nl)) (ha:0≤at') (U:at'≤b.length) (hl:b.length≤140737488355328) (x k e:Int) (hu:pE (b.drop at'.toNat)=(x,k,e)):
 aa Tryz.prog 247 [.ptr id 0] σ (ao (.bQ [.sc (.int .i64 x),.sc (.int .i64 e)]) (if e=0 then σ.set id (bC b (at'+k) nl)else σ)) No:=by
 refine aa.ob Tryz.func247 ?_;refine gO ef @Tryz.underlying160 tI ?_;refine ag.aC (jm id b at' nl _ h ha U hl) ?_;simp;by_cases h0:b.length-at'=0
 ·refine gO ef @h0 tI ?_;have q:b.drop at'.toNat= []:=List.drop_of_length_le (by omega);rw[q]at hu;simp[pE]at hu;obtain⟨rfl,rfl,rfl⟩:=hu;simp
 ·have l:at'.toNat<b.length:=by omega
  have ar:(at'.toNat:Int)=at':=by omega
  have E:at'<b.length:=by omega
  have q:b.drop at'.toNat=b[at'.toNat]::b.drop (at'.toNat+1):=List.drop_eq_getElem_cons l;have D:nl=false:=by
   cases nl with
   |false=>rfl
   |true=>have:=T rfl;subst this;simp at l
  subst D;have A:((b.drop at'.toNat).length:Int)=b.length-at':=by simp;omega
  generalize hc:b[at'.toNat]=c at*;repeat (first
   |(with_reducible first|apply ae.seq|apply ae.block|refine j2 (by first|omega|assumption|decide) ?_)
   |((first|(with_reducible first|apply ae.fork|apply ae.region|show aN _ _ _ |show aB _ _ _ _ _ _ _ _ _)|((with_reducible apply ae.aR (id:=5) (t:=lU));(exact mixed);kernel_rfl;kernel_rfl;(repeat (with_reducible first|apply ak.then|apply ak.block|apply ak.body|apply ak.no)))|((with_reducible apply ae.aR (id:=11) (t:=kX));(exact mixed);kernel_rfl;kernel_rfl;(repeat (with_reducible first|apply ak.then|apply ak.block|apply ak.body|apply ak.no))));simp-implicitDefEqProofs [h0,h,bC,ha,E,l])
   |((with_reducible first|apply ae.ret|apply ae.skip|apply ae.exit);try simp-implicitDefEqProofs))
  rw[hc];refine ag.aC (HW c.toNat _) ?_;simp;have P:bw c.toNat=0∨ ∃K:Nat,bw c.toNat=K∧(K=1∨K=2∨K=4):=by
   unfold bw;split
   ·exact .inr ⟨1,rfl,by simp⟩
   ·split
    ·exact .inr ⟨2,rfl,by simp⟩
    ·split
     ·exact .inr ⟨4,rfl,by simp⟩
     ·exact .inl rfl
  rw[q]at hu;rcases P with hw|⟨K,hw,P⟩
  ·refine gO ef @hw tI ?_;simp[pE,hw]at hu;obtain⟨rfl,rfl,rfl⟩:=hu;simp
  ·have H:¬(K:Int)=0:=by omega
   have G:¬K=0:=by omega
   by_cases O:(b.length:Int)-at'<K
   ·have n:((c::b.drop (at'.toNat+1)).length:Int)<K:=by rw[←q,A];exact O
    simp only[List.length_cons]at n;refine gO ef (j2 @hw @G) tI ?_;refine ag.aC (jm id b at' false _ h ha U hl) ?_;simp;refine gO ef @O tI ?_;have g:((0:Int),(0:Int),(1:Int))=(x,k,e):=by rw[←hu];simp only[pE,hw,H,if_false,List.length_cons];rw[if_pos n]
    simp only[Prod.mk.injEq]at g;obtain⟨rfl,rfl,rfl⟩:=g;simp
   ·have n:¬((c::b.drop (at'.toNat+1)).length:Int)<K:=by rw[←q,A];exact O
    have Q:IntKind.i64.wrap (at'+(K:Int))=at'+K:=ay (by omega) (by omega);have af:=eQ b at' K ha (by omega) (by omega);have e0:min (at'+(K:Int)).toNat b.length-at'.toNat=(cy b at' K).length:=by simp[cy]
    have e1:List.drop at'.toNat (List.take (at'+(K:Int)).toNat (List.map u8 b))=(cy b at' K).map u8:=by simp[cy,List.map_drop,List.map_take]
    have V:(b.drop at'.toNat).take K=cy b at' K:=by rw[cy,List.drop_take];congr 1;omega
    rw[←q]at n hu;have g:(if ez (mE (cy b at' K)%(fE K+1))=K then(mE (cy b at' K)%(fE K+1),(K:Int),0)else((0:Int),(0:Int),(2:Int)))=(x,k,e):=by rw[q]at hu n V;simp only[pE,hw,H,n,if_false,Int.toNat_natCast,V]at hu;exact hu
    refine gO ef (j2 @hw @G) tI ?_;refine ag.aC (jm id b at' false _ h ha U hl) ?_;simp;refine gO ef (j4 @O @h @bC.eq_1 @Q) tI ?_;refine ae.dx (LW id σ (cy b at' K) K) (k0:=(cy b at' K).length) ⟨0,by omega,by omega,rfl,rfl⟩ (aS.mk (by simp[e0,e1,mE])) (lR _) ?_;rintro m s σ' ⟨i,hm,hi,rfl,rfl⟩;generalize hL:cy b at' K=L at*;by_cases l:i<L.length
    ·have o:=xx (L.take i);have u:∀j:Nat,j<4→(256:Int)^j≤16777216:=by decide
     have hp:=u (L.take i).length (by simp;omega);have am:=L[i].toNat_lt;have w2:IntKind.i64.wrap L[i].toNat=L[i].toNat:=ay (by omega) (by omega);have Z:mE (L.take (i+1))=256*mE (L.take i)+L[i].toNat:=by rw[←List.take_append_getElem l,Kt]
     have w3:C4 64 (mE (L.take i)*256) L[i].toNat=mE (L.take (i+1)):=by rw[Z,oG 8 (by omega) (by omega) (c:=mE (L.take i)) (by omega) (by omega) (by omega)];omega
     have Y:IntKind.i64.wrap (mE (L.take (i+1)))=mE (L.take (i+1)):=ay (by omega) (by omega);have X:IntKind.i64.wrap ((i:Int)+1)=((i+1:Nat):Int):=by rw[ay (by omega) (by omega)];simp
     have S:IntKind.i64.wrap (mE (L.take i)*256)=mE (L.take i)*256:=ay (by omega) (by omega);repeat (first
      |(with_reducible first|apply ae.seq|apply ae.block|refine j2 (by first|omega|assumption|decide) ?_)
      |((first|(with_reducible first|apply ae.fork|apply ae.region|show aN _ _ _ |show aB _ _ _ _ _ _ _ _ _)|((with_reducible apply ae.aR (id:=5) (t:=lU));(exact mixed);kernel_rfl;kernel_rfl;(repeat (with_reducible first|apply ak.then|apply ak.block|apply ak.body|apply ak.no)))|((with_reducible apply ae.aR (id:=11) (t:=kX));(exact mixed);kernel_rfl;kernel_rfl;(repeat (with_reducible first|apply ak.then|apply ak.block|apply ak.body|apply ak.no))));simp-implicitDefEqProofs [l,Tryz.underlying3,Tryz.underlying5,S,w2])
      |((with_reducible first|apply ae.ret|apply ae.skip|apply ae.exit);try simp-implicitDefEqProofs))
     refine⟨m-1,_,_,by omega,aS.mk ?_,lR _,i+1,by omega,by omega,rfl,rfl⟩;simp[X,w3,Y]
    ·have F:L.take i=L:=List.take_of_length_le (by omega);have o:=xx L;have u:∀j:Nat,j<5→(256:Int)^j≤4294967296:=by decide
     have hp:=u L.length (by omega);have M:lF 64 (mE L) 127=mE L%128:=by have:=jA (w:=64) (a:=mE L) 7 o.1 (by omega) (by omega);simpa using this
     have J:lF 64 (mE L) 16383=mE L%16384:=by have:=jA (w:=64) (a:=mE L) 14 o.1 (by omega) (by omega);simpa using this
     have I:lF 64 (mE L) 536870911=mE L%536870912:=by have:=jA (w:=64) (a:=mE L) 29 o.1 (by omega) (by omega);simpa using this
     have v:∀d:Int,0<d→d≤4294967296→IntKind.i64.wrap (mE L%d)=mE L%d:=fun d h1 h2=>ay (by have:=Int.emod_nonneg (mE L) (show d≠0 by omega);omega) (by have:=Int.emod_lt_of_pos (mE L) h1;omega);by_cases y:ez (mE L%(fE K+1))=K
     ·rw[if_pos y]at g;simp only[Prod.mk.injEq]at g;obtain⟨rfl,rfl,rfl⟩:=g;rcases P with rfl|rfl|rfl;all_goals
       simp[fE]at y Q;refine gO ef (j8 l @F @M @J @I (v 128) (v 16384) (v 536870912)) tI ?_;refine ag.aC (zC _ _) ?_;simp;refine gO ef (j4 @y @h @bC.eq_1 @Q) tI ?_;simp[fE]
     ·rw[if_neg y]at g;simp only[Prod.mk.injEq]at g;obtain⟨rfl,rfl,rfl⟩:=g;rcases P with rfl|rfl|rfl;all_goals
       simp[fE]at y Q;refine gO ef (j8 l @F @M @J @I (v 128) (v 16384) (v 536870912)) tI ?_;refine ag.aC (zC _ _) ?_;simp;exact gE ef @y tI
theorem fC (n:Int) (h0:0≤n) (h1:n≤536870911):(n<128∧ez n=1)∨(¬n<128∧n<16384∧ez n=2)∨(¬n<128∧ ¬n<16384∧ez n=4):=by
 unfold ez;rw[if_neg (by omega)];by_cases d:n<128
 ·simp[d]
 ·by_cases g:n<16384<;>simp[d,g]
theorem OJ (x:Int):((UInt8.ofNat (x%256).toNat).toNat:Int)=x%256:=by simp;omega
theorem zQ (n:Int) (h0:0≤n) (g:n<128):aY n= [UInt8.ofNat (n%256).toNat]:=by
 have d:ez n=1:=by rcases fC n h0 (by omega)with⟨_,d⟩|⟨h,_⟩|⟨h,_⟩<;>first|exact d|omega
 simp[aY,d,HR,ji,g]
theorem E9 (n:Int) (i:¬n<128) (g:n<16384):aY n= [UInt8.ofNat ((128+n/256)%256).toNat,UInt8.ofNat (n%256).toNat]:=by
 have d:ez n=2:=by rcases fC n (by omega) (by omega)with⟨h,_⟩|⟨_,_,d⟩|⟨_,h,_⟩<;>first|exact d|omega
 have:(n+32768)/256%256=(128+n/256)%256:=by omega
 have:(n+32768)%256=n%256:=by omega
 simp[aY,HR,ji, *]
theorem E8 (n:Int) (h1:n≤536870911) (g:¬n<16384):aY n= [UInt8.ofNat ((192+n/16777216)%256).toNat,UInt8.ofNat (n/65536%256).toNat,UInt8.ofNat (n/256%256).toNat,UInt8.ofNat (n%256).toNat]:=by
 have i:¬n<128:=by omega
 have d:ez n=4:=by rcases fC n (by omega) (by omega)with⟨h,_⟩|⟨_,h,_⟩|⟨_,_,d⟩<;>first|exact d|omega
 have q:(n+3221225472)/16777216%256=(192+n/16777216)%256:=by omega
 have o:(n+3221225472)/65536%256=n/65536%256:=by omega
 have l:(n+3221225472)/256%256=n/256%256:=by omega
 have j:(n+3221225472)%256=n%256:=by omega
 simp[aY,d,HR,ji,i,g,q,o,l,j]
theorem A8 (n:Int) (h0:0≤n) (h1:n≤536870911):pE (aY n)=(n,ez n,0):=by
 rcases fC n h0 h1 with⟨j,h⟩|⟨j,l,h⟩|⟨j,l,h⟩
 ·rw[zQ n h0 j];have o:=OJ n;generalize UInt8.ofNat (n%256).toNat=c at*;have hw:bw c.toNat=1:=by unfold bw;rw[if_pos (by omega)]
  have g:(c.toNat:Int)=n:=by omega
  have i:n%128=n:=by omega
  rw[g]at hw;simp[pE,hw,mE,fE,h,g,i]
 ·rw[E9 n j l];have o:=OJ n;have q:=OJ (128+n/256);generalize UInt8.ofNat (n%256).toNat=d at*;generalize UInt8.ofNat ((128+n/256)%256).toNat=c at*;have hw:bw c.toNat=2:=by unfold bw;rw[if_neg (by omega),if_pos (by omega)]
  have g:256*(c.toNat:Int)+d.toNat=n+32768:=by omega
  have i:(n+32768)%16384=n:=by omega
  simp[pE,hw,mE,fE,h,g,i]
 ·rw[E8 n h1 l];have o:=OJ n;have q:=OJ (n/256);have v:=OJ (n/65536);have u:=OJ (192+n/16777216);generalize UInt8.ofNat (n%256).toNat=d at*;generalize UInt8.ofNat (n/256%256).toNat=d1 at*;generalize UInt8.ofNat (n/65536%256).toNat=d2 at*;generalize UInt8.ofNat ((192+n/16777216)%256).toNat=c at*;have hw:bw c.toNat=4:=by unfold bw;rw[if_neg (by omega),if_neg (by omega),if_pos (by omega)]
  have g:256*(256*(256*(c.toNat:Int)+d2.toNat)+d1.toNat)+d.toNat=n+3221225472:=by omega
  have i:(n+3221225472)%536870912=n:=by omega
  simp[pE,hw,mE,fE,h,g,i]
theorem ofNat_eq {m:Nat}{c:UInt8}(h:m=c.toNat):UInt8.ofNat m=c:=by subst h;simp
theorem K1 (b:List UInt8) (x k:Int) (h:pE b=(x,k,0)):0≤x∧x≤536870911∧ez x=k∧0≤k∧k≤b.length∧b.take k.toNat=aY x:=by
 match b,h with
 |[],h=>simp[pE]at h
 |c::r,h=>
  have E:=c.toNat_lt;simp only[pE]at h;by_cases h0:bw c.toNat=0
  ·simp[h0]at h
  ·by_cases hl:((c::r).length:Int)<bw c.toNat
   ·rw[if_neg h0,if_pos hl]at h;simp at h
   ·rw[if_neg h0,if_neg hl]at h;by_cases j:ez (mE ((c::r).take (bw c.toNat).toNat)%(fE (bw c.toNat)+1))=bw c.toNat
    ·rw[if_pos j]at h;simp only[Prod.mk.injEq]at h;obtain⟨i,rfl,_⟩:=h;rw[i]at j;simp only[List.length_cons]at hl;have g:0≤x∧x≤536870911:=by
      have:fE (bw c.toNat)+1=128∨fE (bw c.toNat)+1=16384∨fE (bw c.toNat)+1=536870912:=by unfold fE;split<;>(try split)<;>simp
      rcases this with e|e|e<;>rw[e]at i<;>omega
     have A:(bw c.toNat=1∧c.toNat<128)∨(bw c.toNat=2∧128≤c.toNat∧c.toNat<192)∨(bw c.toNat=4∧192≤c.toNat∧c.toNat<224):=by
      unfold bw at h0⊢;split at h0
      ·rename_i h;rw[if_pos h];exact .inl ⟨rfl,by omega⟩
      ·split at h0
       ·rename_i h u;rw[if_neg h,if_pos u];exact .inr (.inl ⟨rfl,by omega,by omega⟩)
       ·split at h0
        ·rename_i h u q;rw[if_neg h,if_neg u,if_pos q];exact .inr (.inr ⟨rfl,by omega,by omega⟩)
        ·exact absurd rfl h0
     refine⟨g.1,g.2,j,by omega,by simp only[List.length_cons];omega,?_⟩;rcases A with⟨e,h1⟩|⟨e,h1,D⟩|⟨e,h1,D⟩
     ·rw[e]at i j⊢;simp[mE,fE]at i;rw[zQ x g.1 (by omega)];simp;exact(ofNat_eq (by omega)).symm
     ·rw[e]at i j⊢
      match r,hl,i with
      |[],hl,i=>simp at hl;omega
      |d::r,hl,i=>
       have hd:=d.toNat_lt;simp[mE,fE]at i;rcases fC x g.1 g.2 with⟨l,n⟩|⟨l,o,n⟩|⟨l,o,n⟩
       ·omega
       ·rw[E9 x l o];simp;exact⟨(ofNat_eq (by omega)).symm,(ofNat_eq (by omega)).symm⟩
       ·omega
     ·rw[e]at i j⊢
      match r,hl,i with
      |[],hl,i=>simp at hl;omega
      |[_],hl,i=>simp at hl;omega
      |[_,_],hl,i=>simp at hl;omega
      |d1::d2::d3::r,hl,i=>
       have y:=d1.toNat_lt;have w:=d2.toNat_lt;have v:=d3.toNat_lt;simp[mE,fE]at i;rcases fC x g.1 g.2 with⟨l,n⟩|⟨l,o,n⟩|⟨l,o,n⟩
       ·omega
       ·omega
       ·rw[E8 x g.2 o];simp;exact⟨(ofNat_eq (by omega)).symm,(ofNat_eq (by omega)).symm,(ofNat_eq (by omega)).symm,(ofNat_eq (by omega)).symm⟩
    ·rw[if_neg j]at h;simp at h
theorem s9 (b:List UInt8) (x k e:Int) (h:pE b=(x,k,e)):0≤e∧e≤2∧(e=0→1≤k∧k≤4∧k≤b.length∧0≤x∧x≤536870911):=by
 unfold pE at h;split at h
 ·cases h;simp
 ·rename_i c r;simp only at h;split at h
  ·cases h;simp
  ·rename_i h0;split at h
   ·cases h;simp
   ·rename_i h1;split at h
    ·rename_i l;simp only[Prod.mk.injEq]at h;obtain⟨rfl,rfl,rfl⟩:=h;refine⟨by omega,by omega,fun _ => ?_⟩;have g:bw c.toNat=1∨bw c.toNat=2∨bw c.toNat=4:=by
      unfold bw at h0⊢;split
      ·simp
      ·split
       ·simp
       ·split
        ·simp
        ·rename_i a b d;simp[a,b,d]at h0
     have hm:0<fE (bw c.toNat)+1∧fE (bw c.toNat)+1≤536870912:=by rcases g with h|h|h<;>rw[h]<;>simp[fE]
     have i:=Int.emod_nonneg (mE ((c::r).take (bw c.toNat).toNat)) (show fE (bw c.toNat)+1≠0 by omega);have j:=Int.emod_lt_of_pos (mE ((c::r).take (bw c.toNat).toNat)) hm.1;refine⟨?_,?_,?_,i,by omega⟩
     ·rcases g with h|h|h<;>omega
     ·rcases g with h|h|h<;>omega
     ·omega
    ·cases h;simp
theorem EE (b r:List UInt8) (x k:Int) (h:pE b=(x,k,0)):pE (b++r)=(x,k,0):=by
 match b,h with
 |[],h=>simp[pE]at h
 |c::t,h=>
  simp only[pE]at h;by_cases h0:bw c.toNat=0
  ·simp[h0]at h
  ·by_cases hl:((c::t).length:Int)<bw c.toNat
   ·rw[if_neg h0,if_pos hl]at h;simp at h
   ·rw[if_neg h0,if_neg hl]at h;have d:¬(((c::t++r).length:Int)<bw c.toNat):=by simp at hl⊢;omega
    have ht:(c::t++r).take (bw c.toNat).toNat=(c::t).take (bw c.toNat).toNat:=by apply List.take_append_of_le_length;simp at hl⊢;omega
    show(let k:=bw c.toNat;if k=0 then _ else _)= _;simp only[List.cons_append]at ht d⊢;rw[if_neg h0,if_neg d,ht];exact h
theorem oI (x:Int) (l:0≤x) (k:Nat):bj (bg x k)=x%256^k:=by
 induction k generalizing x with
 |zero=>simp[bg,bj,Int.emod_one]
 |succ k d=>
  have h1:=d (x/256) (by omega);have g:((UInt8.ofNat (x%256).toNat).toNat:Int)=x%256:=by simp;omega
  simp only[bg,bj,h1,g];rw[Int.pow_succ,Int.mul_comm (256^k) 256];have n:(0:Int)<256^k:=Int.pow_pos (by omega);have j:=Int.emod_add_mul_ediv x (256*256^k);have i:=Int.emod_add_mul_ediv (x/256) (256^k);have h:x/256/256^k=x/(256*256^k):=Int.ediv_ediv_of_nonneg (by omega);rw[h]at i;rw[Int.mul_assoc]at j;generalize x/(256*256^k)=q at*;generalize 256^k*q=r at*;omega
theorem so (l:List UInt8):bg (bj l) l.length=l:=by
 induction l with
 |nil=>rfl
 |cons c r d=>
  have i:=c.toNat_lt;have h:(bj (c::r)%256).toNat=c.toNat:=by simp only[bj];omega
  have g:bj (c::r)/256=bj r:=by simp only[bj];omega
  rw[List.length_cons,bg,h,g,d];simp
def sg (b:List UInt8) (a n:Nat):List UInt8:=(b.drop a).take n
theorem mZ (b:List UInt8) (a n:Nat):cy b a n=sg b a n:=by unfold cy sg;rw[show((a:Int)+n).toNat=a+n by omega,show(a:Int).toNat=a by omega,List.drop_take];congr 1;omega
def At (b:List UInt8) (a:Nat) (s:List UInt8):Prop:=a+s.length≤b.length∧sg b a s.length=s
theorem At.nil {b:List UInt8}{a:Nat}(h:a≤b.length):At b a []:=⟨by simpa using h,by simp[sg]⟩
theorem At.app {b:List UInt8}{a:Nat}{s t:List UInt8} :At b a (s++t)↔At b a s∧At b (a+s.length) t:=by
 unfold At sg;rw[List.length_append,List.take_add,List.drop_drop];constructor
 ·rintro⟨h1,g⟩;have d:=List.append_inj g (by simp;omega);exact⟨⟨by omega,d.1⟩,by omega,d.2⟩
 ·rintro⟨⟨h1,g⟩,d,h⟩;exact⟨by omega,by rw[g,h]⟩
theorem At.cons {b:List UInt8}{a:Nat}{c:UInt8}{t:List UInt8} :At b a (c::t)↔At b a [c]∧At b (a+1) t:=by have:=At.app (b:=b) (a:=a) (s:= [c]) (t:=t);simpa using this
theorem At.RU {b:List UInt8}{a:Nat}{w x y z:UInt8} :At b a [w,x,y,z]↔At b a [w]∧At b (a+1) [x]∧At b (a+2) [y]∧At b (a+3) [z]:=by rw[At.cons (t:= [x,y,z]),At.cons (t:= [y,z]),At.cons (t:= [z])]
theorem At.bh (p s r:List UInt8):At (p++s++r) p.length s:=by refine⟨by simp,by simp[sg]⟩
theorem At.sg {b:List UInt8}{a n:Nat}(h:a+n≤b.length):At b a (sg b a n):=by
 have:(Proofs.YtknalmoackcpbaaGreat.sg b a n).length=n:=by simp[Proofs.YtknalmoackcpbaaGreat.sg];omega
 exact⟨by omega,by rw[this]⟩
theorem Iw {b:List UInt8}{a n:Nat}(h:a+n≤b.length):(sg b a n).length=n:=by simp[sg];omega
theorem At.take {b s:List UInt8}(h:At b 0 s):s=b.take s.length:=by have:=h.2;simpa[Proofs.YtknalmoackcpbaaGreat.sg]using this.symm
theorem At.len {b:List UInt8}{a:Nat}{s:List UInt8}(h:At b a s):a+s.length≤b.length:=h.1
theorem At.num {b:List UInt8}{a n:Nat}{x:Int}(h:At b a (bg x n)) (h0:0≤x) (h1:x<256^n):a+n≤b.length∧bj (cy b a n)=x:=by obtain⟨g,d⟩:=h;rw[ax]at g d;rw[mZ,d,oI x h0,Int.emod_eq_of_lt h0 h1];exact⟨g,rfl⟩
theorem wM {b:List UInt8}{a n:Nat}(h:a+n≤b.length):0≤bj (cy b a n)∧bj (cy b a n)<256^n:=by refine⟨cu _,?_⟩;have:=jk (cy b a n);rwa [mZ,Iw h,←mZ]at this
theorem bx (S:List Nat):aH Tryz.prog [] S:=mixed
def bF (t:Int):List UInt8:=
 if t=0 then [50,110,105,105,105]else if t=1 then [50,110,98]else if t=2 then [52,50,50,110,98,105]else if t=3 then [105,105]else if t=4 then [98]else if t=5 then [98]else []
def zz (l:List UInt8):AV:= .sc (.string ⟨l.toArray⟩)
theorem wX (t:Int) (σ:AS):aa Tryz.prog 78 [.sc (.int .i64 t)] σ (ao (zz (bF t)) σ) No:=by
 refine aa.ob Tryz.func78 ?_;simp only[zz,bF];by_cases h0:t=0
 ·subst h0;exact gE bx tI tI
 by_cases h1:t=1
 ·subst h1;exact gE bx tI tI
 by_cases i:t=2
 ·subst i;exact gE bx tI tI
 by_cases h:t=3
 ·subst h;exact gE bx tI tI
 by_cases g:t=4
 ·subst g;exact gE bx tI tI
 by_cases d:t=5
 ·subst d;exact gE bx tI tI
 exact gE bx (j6 @h0 @h1 @i @h @g @d) tI
theorem Ec (t:Int) (σ:AS):aa Tryz.prog 143 [.sc (.int .i64 t)] σ (ao (.sc (.int .i64 (bF t).length)) σ) No:=by have d:=fun σ=>wX t σ;simp only[zz]at d;refine aa.ob Tryz.func143 ?_;exact gE bx tI @d
def wK (k:UInt8) (m:Nat):Int:=if k=52∨(k=110∧m%2=1)∨(k=98∧2≤m)then 4 else 2
theorem A3 (k:UInt8) (m:Nat) (hm:m≤3) (σ:AS):aa Tryz.prog 79 [.sc (.int .i32 k.toNat),.sc (.int .i64 m)] σ (ao (.sc (.int .i64 (wK k m))) σ) No:=by
 have d:m=0∨m=1∨m=2∨m=3:=by omega
 have o:(k=52)=(k.toNat=52):=propext ⟨fun h=>by rw[h];rfl,fun h=>UInt8.toNat_inj.1 h⟩;have g:(k=110)=(k.toNat=110):=propext ⟨fun h=>by rw[h];rfl,fun h=>UInt8.toNat_inj.1 h⟩;have n:(k=98)=(k.toNat=98):=propext ⟨fun h=>by rw[h];rfl,fun h=>UInt8.toNat_inj.1 h⟩;simp only[wK,o,g,n];generalize k.toNat=K;have E:lF 64 0 1=0:=by decide
 have A:lF 64 1 1=1:=by decide
 have w:lF 64 2 1=0:=by decide
 have u:lF 64 3 1=1:=by decide
 have D:lF 64 0 2=0:=by decide
 have y:lF 64 1 2=0:=by decide
 have v:lF 64 2 2=2:=by decide
 have q:lF 64 3 2=2:=by decide
 have w0:IntKind.i64.wrap 0=0:=by decide
 have w1:IntKind.i64.wrap 1=1:=by decide
 have H:IntKind.i64.wrap 2=2:=by decide
 refine aa.ob Tryz.func79 ?_;by_cases h1:K=52
 ·subst h1;rcases d with rfl|rfl|rfl|rfl;all_goals
   exact gE bx tI tI
 by_cases G:K=110
 ·subst G;rcases d with rfl|rfl|rfl|rfl;all_goals
   exact gE bx (j6 @E @A @w @u @w0 @w1) tI
 by_cases F:K=98
 ·subst F;rcases d with rfl|rfl|rfl|rfl;all_goals
   exact gE bx (j6 @D @y @v @q @w0 @H) tI
 ·have l:((K:Int)=52)=False:=by simp;omega
  have j:((K:Int)=110)=False:=by simp;omega
  have i:((K:Int)=98)=False:=by simp;omega
  exact gE bx (j6 @h1 @G @F @l @j @i) tI
def iW (t r:Int):Int×Int:=if t= -1 then(0,0)else if t≠0∧t≠4 then(0,17)else if r<1∨16383<r then(0,3)else(4*r+(if t=4 then 2 else 0),0)
def bK (x:Int):Int×Int×Int:=if x=0 then(-1,0,0)else if x<0∨65535<x∨x/4=0 then(0,0,5)else if x%4=0 then(0,x/4,0)else if x%4=2 then(4,x/4,0)else(0,0,5)
theorem sJ (t r:Int) (σ:AS):aa Tryz.prog 130 [.sc (.int .i64 t),.sc (.int .i64 r)] σ (ao (.bQ [.sc (.int .i64 (iW t r).1),.sc (.int .i64 (iW t r).2)]) σ) No:=by
 refine aa.ob Tryz.func130 ?_;by_cases h0:t= -1
 ·subst h0;refine gO bx tI tI ?_;simp[iW]
 by_cases h1:t=0
 ·subst h1;by_cases d:r<1
  ·refine gO bx @d tI ?_;simp[iW,d]
  ·by_cases g:16383<r
   ·refine gO bx (j2 @d @g) tI ?_;simp[iW,d,g]
   ·have j:IntKind.i64.wrap (r*4)=r*4:=ay (by omega) (by omega);have i:C4 64 (r*4) 0=r*4:=by have:=oG (w:=64) (a:=r*4) (b:=0) 2 (by omega) (by omega) (c:=r) (by omega) (by omega) (by omega);omega
    refine gO bx (j4 @d @g @j @i) tI ?_;simp[iW,d,g];exact iR (by rw[Int.mul_comm])
 by_cases h:t=4
 ·subst h;by_cases d:r<1
  ·refine gO bx @d tI ?_;simp[iW,d]
  ·by_cases g:16383<r
   ·refine gO bx (j2 @d @g) tI ?_;simp[iW,d,g]
   ·have j:IntKind.i64.wrap (r*4)=r*4:=ay (by omega) (by omega);have i:C4 64 (r*4) 2=r*4+2:=oG (w:=64) (a:=r*4) (b:=2) 2 (by omega) (by omega) (c:=r) (by omega) (by omega) (by omega);have l:IntKind.i64.wrap (r*4+2)=r*4+2:=ay (by omega) (by omega);refine gO bx (j5 @d @g @j @i @l) tI ?_;simp[iW,d,g];exact iR (by rw[Int.mul_comm])
 ·refine gO bx (j3 @h0 @h1 @h) tI ?_;simp[iW,h0,h1,h]
theorem Cu (x:Int) (σ:AS):aa Tryz.prog 167 [.sc (.int .i64 x)] σ (ao (.bQ [.sc (.int .i64 (bK x).1),.sc (.int .i64 (bK x).2.1),.sc (.int .i64 (bK x).2.2)]) σ) No:=by
 refine aa.ob Tryz.func167 ?_;by_cases h0:x=0
 ·subst h0;refine gO bx tI tI ?_;simp[bK]
 by_cases h1:x<0
 ·refine gO bx (j2 @h0 @h1) tI ?_;simp[bK,h0,h1]
 by_cases d:65535<x
 ·refine gO bx (j3 @h0 @h1 @d) tI ?_;simp[bK,h0,h1,d]
 by_cases g:x/4=0
 ·refine gO bx (j4 @h0 @h1 @d @g) tI ?_;simp[bK,h0,h1,d,g]
 have ha:lF 64 x 3=x%4:=jA (w:=64) (a:=x) 2 (by omega) (by omega) (by omega);have hw:IntKind.i64.wrap (x%4)=x%4:=ay (by omega) (by omega);by_cases h:x%4=0
 ·refine gO bx (j6 @h0 @h1 @d @g @ha @h) tI ?_;simp[bK,h0,h1,d,g,h]
 by_cases i:x%4=2
 ·refine gO bx (j8 @h0 @h1 @d @g @ha @hw @h @i) tI ?_;simp[bK,h0,h1,d,g,i]
 ·refine gO bx (j8 @h0 @h1 @d @g @ha @hw @h @i) tI ?_;simp[bK,h0,h1,d,g,h,i]
namespace Sg
open Go Go.AW
def eB (b:List UInt8) (a:Nat):Except Int (UInt8×Nat):=if a<b.length then .ok (b.getD a 0,a+1)else .error 1
def yg (b:List UInt8) (a:Nat):Except Int (Int×Nat):=if (pE (b.drop a)).2.2=0 then .ok ((pE (b.drop a)).1,a+(pE (b.drop a)).2.1.toNat)else .error (pE (b.drop a)).2.2
def DR (n:Int):Bool:=decide ((bK n).2.2=0)&&(decide ((bK n).1=0)&&decide ((bK n).2.1≤32))
def Co (b:List UInt8) (a:Nat):Except Int (Int×Nat):=
 match yg b a with
 |.error e=> .error e
 |.ok (n,d)=>if DR n=true then .ok ((bK n).2.1-1,d)else .error 5
def J5 (b:List UInt8) (a:Nat):Except Int (Int×Nat):=
 match yg b a with
 |.error e=> .error e
 |.ok (n,d)=>if n≤7 then .ok (n,d)else .error 5
def AU (k:Int) (g:Bool) (d:Nat) (x:Except Int (Int×Nat)):Except Int (Ty×Nat):=
 match x with
 |.error e=> .error e
 |.ok (n,h)=> .ok (⟨k,n,d,g⟩,h)
def xO (b:List UInt8) (g:Bool) (d:Nat) (c:UInt8) (a:Nat):Except Int (Ty×Nat):=
 if c=1 then(if g=true∨0<d then .error 2 else .ok (⟨1,0,0,false⟩,a))else
 if c=8 then .ok (⟨2,0,d,g⟩,a)else if c=10 then .ok (⟨3,0,d,g⟩,a)else if c=28 then .ok (⟨4,0,d,g⟩,a)else
 if c=18 then AU 5 g d (Co b a)else if c=17 then AU 6 g d (Co b a)else if c=19 then AU 7 g d (J5 b a)else .error 2
def AX (b:List UInt8) (g:Bool):Nat→Nat→UInt8→Nat→Except Int (Ty×Nat)
 |0,d,c,a=>if c=29 then .error 6 else xO b g d c a
 |f+1,d,c,a=>if c=29 then
  match eB b a with
  |.error e=> .error e
  |.ok (h,i)=>AX b g f (d+1) h i
  else xO b g d c a
def oN (b:List UInt8) (a:Nat):Except Int (Ty×Nat):=
 match eB b a with
 |.error e=> .error e
 |.ok (c,d)=>if c=16 then
  match eB b d with
  |.error e=> .error e
  |.ok (g,h)=>AX b true 3 0 g h
  else AX b false 3 0 c d
def lE (ok:Ty→Bool) (b:List UInt8) (a:Nat):Except Int (Ty×Nat):=
 match oN b a with
 |.error e=> .error e
 |.ok (t,d)=>if ok t=true then .ok (t,d)else .error 10
def eList (b:List UInt8):Nat→Nat→Except Int (List Ty×Nat)
 |0,a=> .ok ([],a)
 |k+1,a=>match lE bE b a with
  |.error e=> .error e
  |.ok (t,g)=>match eList b k g with
   |.error e=> .error e
   |.ok (l,d)=> .ok (t::l,d)
def qa {α:Type}(b:List UInt8) (x:Except Int (α×Nat)):Except Int α:=
 match x with
 |.error e=> .error e
 |.ok (v,a)=>if a<b.length then .error 2 else .ok v
def jf (b:List UInt8):Except Int Ty:=qa b (oN b 0)
structure Sg where
 this:Bool
 ps:List Ty
 ret:Ty
def rp (b:List UInt8):Except Int (Sg×Nat):=
 match eB b 0 with
 |.error e=> .error e
 |.ok (c,a)=>if c=0∨c=32 then
  match yg b a with
  |.error e=> .error e
  |.ok (n,h)=>if n≤6 then
   match lE dB b h with
   |.error e=> .error e
   |.ok (t,g)=>match eList b n.toNat g with
    |.error e=> .error e
    |.ok (l,d)=> .ok (⟨decide (c=32),l,t⟩,d)
   else .error 4
  else .error 2
def eP (b:List UInt8):Except Int Sg:=qa b (rp b)
def ve (b:List UInt8):Except Int (List Ty×Nat):=
 match eB b 0 with
 |.error e=> .error e
 |.ok (c,a)=>if c=7 then
  match yg b a with
  |.error e=> .error e
  |.ok (n,d)=>if n≤12 then eList b n.toNat d else .error 4
  else .error 2
def je (b:List UInt8):Except Int (List Ty):=qa b (ve b)
def rl (b:List UInt8):Except Int Ty:=
 match b with
 |[]=> .error 1
 |c::r=>if c=6 then
  match jf r with
  |.error e=> .error e
  |.ok t=>if dm t=true then .ok t else .error 10
  else .error 2
def lL (t:Ty):List UInt8:=
 if t.kind=1 then [1]else if t.kind=2 then [8]else if t.kind=3 then [10]else if t.kind=4 then [28]else
 if t.kind=5 then 18::aY (4*(t.index+1))else if t.kind=6 then 17::aY (4*(t.index+1))else 19::aY t.index
def eN (t:Ty):List UInt8:=(if t.ref=true then [16]else [])++(List.replicate t.bt.toNat 29++lL t)
def xL (l:List Ty):List UInt8:=l.flatMap eN
def ER (s:Sg):List UInt8:=(if s.this=true then 32 else 0)::(UInt8.ofNat s.ps.length::(eN s.ret++xL s.ps))
def hU (s:Sg):Except Int (List UInt8):=if 6<s.ps.length then .error 4 else if s.ps.all bE&&dB s.ret then .ok (ER s)else .error 17
def HO (l:List Ty):List UInt8:=7::(UInt8.ofNat l.length::xL l)
def dW (l:List Ty):Except Int (List UInt8):=if 12<l.length then .error 4 else if l.all bE then .ok (HO l)else .error 17
theorem y7 {b:List UInt8}{a:Nat}{c:UInt8}(h:At b a [c]):eB b a= .ok (c,a+1):=by
 obtain⟨h1,i⟩:=h;have g:a<b.length:=by simp at h1;omega
 have d:((b.drop a).take 1)[0]? =some c:=by have:(b.drop a).take 1= [c]:=i;rw[this];rfl
 rw[List.getElem?_take_of_lt (by omega),List.getElem?_drop,Nat.add_zero]at d;unfold eB;rw[if_pos g,List.getD_eq_getElem?_getD,d];rfl
theorem Kz {b:List UInt8}{a:Nat}{c:UInt8}{d:Nat}(h:eB b a= .ok (c,d)):At b a [c]∧d=a+1:=by
 unfold eB at h;split at h
 ·rename_i h1;cases h;refine⟨⟨by simp;omega,?_⟩,rfl⟩;show(b.drop a).take 1= [b.getD a 0];rw[List.drop_eq_getElem_cons h1,List.getD_eq_getElem?_getD,List.getElem?_eq_getElem h1];rfl
 ·cases h
theorem MU {b:List UInt8}{a:Nat}{s:List UInt8}(h:At b a s):b.drop a=s++b.drop (a+s.length):=by have g:=h.2;unfold Proofs.YtknalmoackcpbaaGreat.sg at g;have d:b.drop a=(b.drop a).take s.length++(b.drop a).drop s.length:=(List.take_append_drop _ _).symm;rw[g,List.drop_drop]at d;exact d
theorem xh {b:List UInt8}{a:Nat}{n:Int}(h0:0≤n) (h1:n≤536870911) (h:At b a (aY n)):yg b a= .ok (n,a+(aY n).length):=by have d:=EE (aY n) (b.drop (a+(aY n).length)) n (ez n) (A8 n h0 h1);rw[←MU h]at d;unfold yg;rw[d];simp[aY,kj]
theorem rT {b:List UInt8}{a:Nat}{n:Int}{d:Nat}(h:yg b a= .ok (n,d)):0≤n∧n≤536870911∧At b a (aY n)∧d=a+(aY n).length:=by
 unfold yg at h;split at h
 ·rename_i he;obtain⟨⟨x,k,e⟩,hu⟩:∃t,pE (b.drop a)=t:=⟨_,rfl⟩;rw[hu]at h he;simp only at he;subst he;simp only[Except.ok.injEq,Prod.mk.injEq]at h;obtain⟨rfl,rfl⟩:=h;obtain⟨h1,o,l,q,j,i⟩:=K1 _ _ _ hu;have hl:(aY x).length=k.toNat:=by simp[aY,kj,l]
  have g:a<b.length:=by
   rcases Nat.lt_or_ge a b.length with h|h
   ·exact h
   ·rw[List.drop_eq_nil_of_le h]at hu;simp[pE]at hu
  refine⟨h1,o,⟨?_,?_⟩,by rw[hl]⟩
  ·simp at j;omega
  ·unfold Proofs.YtknalmoackcpbaaGreat.sg;rw[hl,i]
 ·cases h
theorem y9 {n:Int}(h:DR n=true):n=4*((bK n).2.1-1+1)∧1≤(bK n).2.1∧(bK n).2.1≤32:=by
 unfold DR bK at h;unfold bK;split
 ·rename_i h1;rw[if_pos h1]at h;simp at h
 rename_i h1;rw[if_neg h1]at h;split
 ·rename_i i;rw[if_pos i]at h;simp at h
 rename_i i;rw[if_neg i]at h;split
 ·rename_i g;rw[if_pos g]at h;simp at h⊢;omega
 rename_i g;rw[if_neg g]at h;split
 ·rename_i d;rw[if_pos d]at h;simp at h
 ·rename_i d;rw[if_neg d]at h;simp at h
theorem yz {i:Int}(h0:0≤i) (h1:i<32):DR (4*(i+1))=true∧(bK (4*(i+1))).2.1=i+1:=by
 have h:bK (4*(i+1))=(0,i+1,0):=by unfold bK;rw[if_neg (by omega),if_neg (by omega),if_pos (by omega)];congr 2;omega
 unfold DR;rw[h];simp;omega
theorem Hk (n:Int):bK (if 1048576<n then 1048576 else n)=bK n:=by
 by_cases h:1048576<n
 ·rw[if_pos h];unfold bK;rw[if_neg (by omega),if_pos (by omega),if_neg (by omega),if_pos (by omega)]
 ·rw[if_neg h]
theorem kL {t:Ty}(h:bo t=true):0≤t.bt∧t.bt≤3∧0≤t.index∧((t.kind=1∧t.bt=0∧t.ref=false∧t.index=0)∨(t.kind=2∧t.index=0)∨(t.kind=3∧t.index=0)∨(t.kind=4∧t.index=0)∨
 (t.kind=5∧t.index<32)∨(t.kind=6∧t.index<32)∨(t.kind=7∧t.index≤7)):=by
 unfold bo at h;split at h
 ·cases h
 refine⟨by omega,by omega,by omega,?_⟩;split at h
 ·simp at h;exact .inl ⟨by assumption,h⟩
 split at h
 ·simp at h;rename_i h1;omega
 split at h
 ·simp at h;rename_i h1;omega
 split at h
 ·simp at h;omega
 ·cases h
theorem cases_plain {t:Ty}(h0:0≤t.bt) (h1:t.bt≤3) (d:0≤t.index) (h:(t.kind=1∧t.bt=0∧t.ref=false∧t.index=0)∨(t.kind=2∧t.index=0)∨(t.kind=3∧t.index=0)∨(t.kind=4∧t.index=0)∨
 (t.kind=5∧t.index<32)∨(t.kind=6∧t.index<32)∨(t.kind=7∧t.index≤7)):bo t=true:=by
 unfold bo;rw[if_neg (by omega)];rcases h with h|h|h|h|h|h|h
 ·rw[if_pos h.1];simp[h.2]
 all_goals
  rw[if_neg (by omega)];first
  |(rw[if_pos (by omega)];simp;omega)
  |(rw[if_neg (by omega),if_pos (by omega)];simp;omega)
  |(rw[if_neg (by omega),if_neg (by omega),if_pos (by omega)];simp;omega)
theorem Ro {b:List UInt8}{a:Nat}{t:Ty}(h:bo t=true) (g:At b a (lL t)):∃c r,lL t=c::r∧c≠29∧c≠16∧xO b t.ref t.bt.toNat c (a+1)= .ok (t,a+(lL t).length):=by
 obtain⟨d0,d3,i0,u⟩:=kL h;obtain⟨k,i,d,q⟩:=t;simp only at d0 d3 i0 u g⊢;obtain⟨o,rfl⟩:∃n:Nat,d=n:=⟨d.toNat,by omega⟩;rw[Int.toNat_natCast];rcases u with⟨rfl,hd,rfl,rfl⟩|⟨rfl,rfl⟩|⟨rfl,rfl⟩|⟨rfl,rfl⟩|⟨rfl,j⟩|⟨rfl,j⟩|⟨rfl,j⟩
 ·obtain rfl:o=0:=by omega
  exact⟨1,[],rfl,by decide,by decide,rfl⟩
 ·exact⟨8,[],rfl,by decide,by decide,rfl⟩
 ·exact⟨10,[],rfl,by decide,by decide,rfl⟩
 ·exact⟨28,[],rfl,by decide,by decide,rfl⟩
 ·refine⟨18,aY (4*(i+1)),rfl,by decide,by decide,?_⟩;have g:At b a (18::aY (4*(i+1))):=g;rw[At.cons]at g;have h1:=xh (by omega) (by omega) g.2;have l:=yz i0 j;show AU 5 q o (Co b (a+1))= _;unfold Co;rw[h1];simp only[l.1,if_true,l.2,AU];simp[lL];omega
 ·refine⟨17,aY (4*(i+1)),rfl,by decide,by decide,?_⟩;have g:At b a (17::aY (4*(i+1))):=g;rw[At.cons]at g;have h1:=xh (by omega) (by omega) g.2;have l:=yz i0 j;show AU 6 q o (Co b (a+1))= _;unfold Co;rw[h1];simp only[l.1,if_true,l.2,AU];simp[lL];omega
 ·refine⟨19,aY i,rfl,by decide,by decide,?_⟩;have g:At b a (19::aY i):=g;rw[At.cons]at g;have h1:=xh (by omega) (by omega) g.2;show AU 7 q o (J5 b (a+1))= _;unfold J5;rw[h1];simp only[if_pos j,AU];simp[lL];omega
theorem NG {b:List UInt8}{t:Ty}(h:bo t=true):∀(k f d a:Nat) (c:UInt8) (r:List UInt8),k≤f→d+k=t.bt.toNat→List.replicate k 29++lL t=c::r→At b (a+1) r→At b a [c]→
 AX b t.ref f d c (a+1)= .ok (t,a+(k+(lL t).length)):=by
 intro k;induction k with
 |zero=>
  intro f d a c r _ hd i j ha;have v:At b a (lL t):=by
   have:lL t=c::r:=by simpa using i
   rw[this,At.cons];exact⟨ha,j⟩
  obtain⟨G,H,F,o,_,E⟩:=Ro h v;have D:c=G:=by simp[F]at i;exact i.1.symm
  subst D;have u:d=t.bt.toNat:=by omega
  subst u;cases f<;>simp[AX,o,E]
 |succ k y=>
  intro f d a c r hf hd i j ha;obtain⟨f,rfl⟩:∃g,f=g+1:=⟨f-1,by omega⟩;simp only[List.replicate_succ,List.cons_append,List.cons.injEq]at i;obtain⟨rfl,i⟩:=i;have q:List.replicate k 29++lL t≠ []:=by
   intro e;have:=congrArg List.length e;simp at this;have w:lL t≠ []:=by unfold lL;split<;>(try split)<;>(try split)<;>(try split)<;>(try split)<;>(try split)<;>simp
   exact w this.2
  obtain⟨n,l,o⟩:∃n l,List.replicate k 29++lL t=n::l:=by
   cases A:List.replicate k 29++lL t with
   |nil=>exact absurd A q
   |cons n l=>exact⟨n,l,rfl⟩
  rw[←i,o,At.cons]at j;have h1:=y7 j.1;have w:=y f (d+1) (a+1) n l (by omega) (by omega) o j.2 j.1;simp only[AX,if_true,h1,w];congr 2;omega
theorem Nf {b:List UInt8}{a:Nat}{t:Ty}(h:bo t=true) (d:At b a (eN t)):oN b a= .ok (t,a+(eN t).length):=by
 obtain⟨d0,d3,_,_⟩:=kL h;have u:∃c r,List.replicate t.bt.toNat 29++lL t=c::r∧c≠16:=by
  cases A:t.bt.toNat with
  |zero=>
   have v:∃c r,lL t=c::r∧c≠16:=by
    unfold lL;split
    ·exact⟨_,_,rfl,by decide⟩
    split
    ·exact⟨_,_,rfl,by decide⟩
    split
    ·exact⟨_,_,rfl,by decide⟩
    split
    ·exact⟨_,_,rfl,by decide⟩
    split
    ·exact⟨_,_,rfl,by decide⟩
    split
    ·exact⟨_,_,rfl,by decide⟩
    ·exact⟨_,_,rfl,by decide⟩
   simpa using v
  |succ k=>exact⟨29,List.replicate k 29++lL t,by simp[List.replicate_succ],by decide⟩
 obtain⟨c,r,l,y⟩:=u;have hl:(eN t).length=(if t.ref=true then 1 else 0)+(t.bt.toNat+(lL t).length):=by unfold eN;cases t.ref<;>simp<;>omega
 unfold eN at d;unfold oN;by_cases g:t.ref=true
 ·rw[if_pos g,l,List.cons_append,List.nil_append,At.cons,At.cons (c:=c)]at d;obtain⟨h1,j,w⟩:=d;have n:=y7 h1;have q:=y7 j;have i:=NG h t.bt.toNat 3 0 (a+1) c r (by omega) (by omega) l w j;rw[g]at i;rw[if_pos g]at hl;simp only[n,if_true,q,i,hl];congr 2;omega
 ·have o:t.ref=false:=by simpa using g
  rw[if_neg g,l,List.nil_append,At.cons]at d;obtain⟨h1,j⟩:=d;have n:=y7 h1;have i:=NG h t.bt.toNat 3 0 a c r (by omega) (by omega) l j h1;rw[o]at i;rw[if_neg g]at hl;simp only[n,if_neg y,i,hl];congr 2;omega
theorem B4 {b:List UInt8}{a:Nat}{i:Int}{g:Nat}(h:Co b a= .ok (i,g)):0≤i∧i<32∧At b a (aY (4*(i+1)))∧g=a+(aY (4*(i+1))).length:=by
 unfold Co at h;cases d:yg b a with
 |error e=>rw[d]at h;cases h
 |ok y=>
  obtain⟨n,D⟩:=y;rw[d]at h;simp only at h;split at h
  ·rename_i q;cases h;obtain⟨j,v,u⟩:=y9 q;obtain⟨A,w,o,l⟩:=rT d;rw[←j];exact⟨by omega,by omega,o,l⟩
  ·cases h
theorem RN {b:List UInt8}{a:Nat}{i:Int}{g:Nat}(h:J5 b a= .ok (i,g)):0≤i∧i≤7∧At b a (aY i)∧g=a+(aY i).length:=by
 unfold J5 at h;cases d:yg b a with
 |error e=>rw[d]at h;cases h
 |ok y=>
  obtain⟨n,v⟩:=y;rw[d]at h;simp only at h;split at h
  ·rename_i q;cases h;obtain⟨o,u,l,j⟩:=rT d;exact⟨o,q,l,j⟩
  ·cases h
theorem NO {b:List UInt8}{l:Bool}{d:Nat}{c:UInt8}{a:Nat}{t:Ty}{q:Nat}(hd:d≤3) (h:xO b l d c (a+1)= .ok (t,q)) (j:At b a [c]):
 bo t=true∧t.ref=l∧t.bt=d∧At b a (lL t)∧q=a+(lL t).length:=by
 unfold xO at h;split at h
 ·rename_i e;subst e;split at h
  ·cases h
  ·rename_i n;cases h;have u:l=false∧d=0:=by cases l<;>simp at n⊢;exact n
   obtain⟨rfl,rfl⟩:=u;exact⟨rfl,rfl,rfl,j,rfl⟩
 split at h
 ·rename_i e;subst e;cases h;exact⟨cases_plain (by simp) (by simp;omega) (by simp) (by simp),rfl,rfl,j,rfl⟩
 split at h
 ·rename_i e;subst e;cases h;exact⟨cases_plain (by simp) (by simp;omega) (by simp) (by simp),rfl,rfl,j,rfl⟩
 split at h
 ·rename_i e;subst e;cases h;exact⟨cases_plain (by simp) (by simp;omega) (by simp) (by simp),rfl,rfl,j,rfl⟩
 split at h
 ·rename_i e;subst e;cases g:Co b (a+1)with
  |error e=>rw[g]at h;cases h
  |ok y=>
   obtain⟨i,o⟩:=y;rw[g]at h;cases h;obtain⟨i0,i1,i2,i3⟩:=B4 g;refine⟨cases_plain (by simp) (by simp;omega) i0 (by simp;omega),rfl,rfl,?_,?_⟩
   ·show At b a (18::aY (4*(i+1)));rw[At.cons];exact⟨j,i2⟩
   ·rw[i3];simp[lL];omega
 split at h
 ·rename_i e;subst e;cases g:Co b (a+1)with
  |error e=>rw[g]at h;cases h
  |ok y=>
   obtain⟨i,o⟩:=y;rw[g]at h;cases h;obtain⟨i0,i1,i2,i3⟩:=B4 g;refine⟨cases_plain (by simp) (by simp;omega) i0 (by simp;omega),rfl,rfl,?_,?_⟩
   ·show At b a (17::aY (4*(i+1)));rw[At.cons];exact⟨j,i2⟩
   ·rw[i3];simp[lL];omega
 split at h
 ·rename_i e;subst e;cases g:J5 b (a+1)with
  |error e=>rw[g]at h;cases h
  |ok y=>
   obtain⟨i,o⟩:=y;rw[g]at h;cases h;obtain⟨i0,i1,i2,i3⟩:=RN g;refine⟨cases_plain (by simp) (by simp;omega) i0 (by simp;omega),rfl,rfl,?_,?_⟩
   ·show At b a (19::aY i);rw[At.cons];exact⟨j,i2⟩
   ·rw[i3];simp[lL];omega
 ·cases h
theorem NP {b:List UInt8}{v:Bool} :∀(f d:Nat) (c:UInt8) (a:Nat) (t:Ty) (n:Nat),d+f=3→AX b v f d c (a+1)= .ok (t,n)→At b a [c]→
 bo t=true∧t.ref=v∧ ∃k:Nat,t.bt=((d+k:Nat):Int)∧At b a (List.replicate k 29++lL t)∧n=a+(k+(lL t).length):=by
 intro f;induction f with
 |zero=>
  intro d c a t n hd h q;simp only[AX]at h;split at h
  ·cases h
  ·obtain⟨l,j,i,g,o⟩:=NO (by omega) h q;exact⟨l,j,0,by simpa using i,by simpa using g,by simpa using o⟩
 |succ f A=>
  intro d c a t n hd h q;simp only[AX]at h;split at h
  ·rename_i e;subst e;cases u:eB b (a+1)with
   |error e=>rw[u]at h;cases h
   |ok y=>obtain⟨D,E⟩:=y;rw[u]at h;simp only at h;obtain⟨w,rfl⟩:=Kz u;obtain⟨l,j,k,i,g,o⟩:=A (d+1) D (a+1) t n (by omega) h w;refine⟨l,j,k+1,by rw[i];congr 1;omega,?_,by omega⟩;rw[List.replicate_succ,List.cons_append,At.cons];exact⟨q,g⟩
  ·obtain⟨l,j,i,g,o⟩:=NO (by omega) h q;exact⟨l,j,0,by simpa using i,by simpa using g,by simpa using o⟩
theorem NN {b:List UInt8}{a:Nat}{t:Ty}{i:Nat}(h:oN b a= .ok (t,i)):bo t=true∧At b a (eN t)∧i=a+(eN t).length:=by
 unfold oN at h;cases o:eB b a with
 |error e=>rw[o]at h;cases h
 |ok y=>
  obtain⟨c,E⟩:=y;rw[o]at h;simp only at h;obtain⟨q,rfl⟩:=Kz o;have hl:(eN t).length=(if t.ref=true then 1 else 0)+(t.bt.toNat+(lL t).length):=by unfold eN;cases t.ref<;>simp<;>omega
  split at h
  ·rename_i e;subst e;cases d:eB b (a+1)with
   |error e=>rw[d]at h;cases h
   |ok y=>
    obtain⟨A,D⟩:=y;rw[d]at h;simp only at h;obtain⟨w,rfl⟩:=Kz d;obtain⟨l,g,k,v,j,u⟩:=NP 3 0 A (a+1) t i (by omega) h w;have n:t.bt.toNat=k:=by omega
    rw[g,if_pos rfl]at hl;refine⟨l,?_,by omega⟩;unfold eN;rw[g,if_pos rfl,n,List.cons_append,List.nil_append,At.cons];exact⟨q,j⟩
  ·obtain⟨l,g,k,v,j,u⟩:=NP 3 0 c a t i (by omega) h q;have n:t.bt.toNat=k:=by omega
   rw[g,if_neg (by simp)]at hl;refine⟨l,?_,by omega⟩;unfold eN;rw[g,if_neg (by simp),n,List.nil_append];exact j
theorem mL {t:Ty}(h:bE t=true):bo t=true:=by unfold bE at h;simp at h;exact h.1
theorem sP {t:Ty}(h:dB t=true):bo t=true:=by unfold dB at h;simp at h;exact h.1
theorem Jl {ok:Ty→Bool}{b:List UInt8}{a:Nat}{t:Ty}(h:bo t=true) (g:ok t=true) (d:At b a (eN t)):lE ok b a= .ok (t,a+(eN t).length):=by unfold lE;rw[Nf h d];simp[g]
theorem Kx {ok:Ty→Bool}{b:List UInt8}{a:Nat}{t:Ty}{g:Nat}(h:lE ok b a= .ok (t,g)):ok t=true∧bo t=true∧At b a (eN t)∧g=a+(eN t).length:=by
 unfold lE at h;cases d:oN b a with
 |error e=>rw[d]at h;cases h
 |ok y=>
  obtain⟨i,j⟩:=y;rw[d]at h;simp only at h;split at h
  ·cases h;exact⟨by assumption,NN d⟩
  ·cases h
theorem Ft {b:List UInt8} :∀(l:List Ty) (a:Nat),(∀t∈l,bE t=true)→At b a (xL l)→eList b l.length a= .ok (l,a+(xL l).length):=by
 intro l;induction l with
 |nil=>intro a _ _;rfl
 |cons t r g=>intro a h d;have d:At b a (eN t++xL r):=d;rw[At.app]at d;have h1:=h t (by simp);have n:=Jl (ok:=bE) (mL h1) h1 d.1;have j:=g _ (fun x i=>h x (by simp[i])) d.2;simp only[List.length_cons,eList,n,j];simp[xL];omega
theorem MT {b:List UInt8} :∀(k a:Nat) (l:List Ty) (g:Nat),a≤b.length→eList b k a= .ok (l,g)→l.length=k∧(∀t∈l,bE t=true)∧At b a (xL l)∧g=a+(xL l).length:=by
 intro k;induction k with
 |zero=>intro a l g ha h;cases h;exact⟨rfl,by simp,At.nil ha,rfl⟩
 |succ k v=>
  intro a l g ha h;simp only[eList]at h;cases d:lE bE b a with
  |error e=>rw[d]at h;cases h
  |ok y=>
   obtain⟨t,w⟩:=y;rw[d]at h;simp only at h;cases i:eList b k w with
   |error e=>rw[i]at h;cases h
   |ok z=>
    obtain⟨r,D⟩:=z;rw[i]at h;cases h;obtain⟨u,A,j,rfl⟩:=Kx d;obtain⟨q,o,n,rfl⟩:=v _ r _ j.len i;refine⟨by simp[q],?_,?_,?_⟩
    ·intro x d;simp at d;rcases d with rfl|d
     ·exact u
     ·exact o x d
    ·show At b a (eN t++xL r);rw[At.app];exact⟨j,n⟩
    ·simp[xL];omega
theorem oF {n:Nat}(h:n<128):aY (n:Int)= [UInt8.ofNat n]:=by rw[zQ (n:Int) (by omega) (by omega)];congr 2;omega
theorem xg {α:Type}{b:List UInt8}{x:Except Int (α×Nat)}{v:α}{a:Nat}(h:x= .ok (v,a)) (ha:b.length≤a):qa b x= .ok v:=by rw[h];simp[qa];omega
theorem vJ (b:List UInt8):At b 0 b:=⟨by simp,by simp[Proofs.YtknalmoackcpbaaGreat.sg]⟩
theorem FB {t:Ty}(h:bo t=true):jf (eN t)= .ok t:=xg (Nf h (vJ _)) (by omega)
theorem N6 {s:Sg}(hl:s.ps.length≤6) (h1:∀t∈s.ps,bE t=true) (j:dB s.ret=true):eP (ER s)= .ok s:=by
 obtain⟨d,ps,rt⟩:=s;simp only at hl h1 j;have F:=vJ (ER ⟨d,ps,rt⟩);generalize q:ER ⟨d,ps,rt⟩=b at*;have i:b.length=2+((eN rt).length+(xL ps).length):=by rw[←q];simp[ER];omega
 have D:ER ⟨d,ps,rt⟩=(if d=true then 32 else 0)::(aY (ps.length:Int)++(eN rt++xL ps)):=by rw[oF (by omega)];rfl
 have g:At b 0 ((if d=true then 32 else 0)::(aY (ps.length:Int)++(eN rt++xL ps))):=by rw[←D,q];exact vJ b
 rw[At.cons,At.app,At.app]at g;obtain⟨A,y,o,n⟩:=g;have h:(aY (ps.length:Int)).length=1:=by rw[oF (by omega)];rfl
 have w:=y7 A;have l:=xh (by omega) (by omega) y;rw[h]at l o n;have v:=Jl (ok:=dB) (sP j) j o;have u:=Ft ps _ h1 n;refine xg (a:=b.length) ?_ (by omega);unfold rp;rw[w];have E:(if d=true then(32:UInt8)else 0)=0∨(if d=true then(32:UInt8)else 0)=32:=by cases d<;>simp
 simp only[if_pos E,l,if_pos (show(ps.length:Int)≤6 by omega),v,Int.toNat_natCast,u];have ht:decide ((if d=true then(32:UInt8)else 0)=32)=d:=by cases d<;>decide
 rw[ht,i];congr 2;omega
theorem OS {l:List Ty}(hl:l.length≤12) (h1:∀t∈l,bE t=true):je (HO l)= .ok l:=by
 generalize n:HO l=b at*;have h:b.length=2+(xL l).length:=by rw[←n];simp[HO];omega
 have w:HO l=7::(aY (l.length:Int)++xL l):=by rw[oF (by omega)];rfl
 have d:At b 0 (7::(aY (l.length:Int)++xL l)):=by rw[←w,n];exact vJ b
 rw[At.cons,At.app]at d;obtain⟨v,u,j⟩:=d;have g:(aY (l.length:Int)).length=1:=by rw[oF (by omega)];rfl
 have q:=y7 v;have i:=xh (by omega) (by omega) u;rw[g]at i j;have o:=Ft l _ h1 j;refine xg (a:=b.length) ?_ (by omega);unfold ve;rw[q];simp only[if_true,i,if_pos (show(l.length:Int)≤12 by omega),Int.toNat_natCast,o];rw[h]
abbrev gl:b7:=(.step 0 (.step 1 (.step 2 (.step 3 (.step 4 (.step 5 (.step 6 (.alt 7 (.step 8 (.step 9 .done)) .none))))))))
theorem qq (S:List Nat):aH Tryz.prog [] S:=mixed
theorem cP (S:List Nat):aH Tryz.prog [(9,gl)] S:=mixed
theorem BK (n:Int) (j:n=0∨n=1∨n=2∨n=3) (σ:AS):aa Tryz.prog 265 [.sc (.int .u64 1),.sc (.int .u64 n)] σ
 (ao (.bQ [.sc (.int .u64 0),.sc (.int .u64 n)]) σ) No:=by
 have i:lF 64 0 4294967295=0:=by decide
 have h:lF 64 1 4294967295=1:=by decide
 have g:lF 64 2 4294967295=2:=by decide
 have d:lF 64 3 4294967295=3:=by decide
 have i0:IntKind.u64.wrap 0=0:=by decide
 have i1:IntKind.u64.wrap 1=1:=by decide
 have i2:IntKind.u64.wrap 2=2:=by decide
 have i3:IntKind.u64.wrap 3=3:=by decide
 rcases j with rfl|rfl|rfl|rfl
 ·refine aa.ob Tryz.func265 ?_;exact gE qq (j8 @i @h @g @d @i0 @i1 @i2 @i3) tI
 ·refine aa.ob Tryz.func265 ?_;exact gE qq (j8 @i @h @g @d @i0 @i1 @i2 @i3) tI
 ·refine aa.ob Tryz.func265 ?_;exact gE qq (j8 @i @h @g @d @i0 @i1 @i2 @i3) tI
 ·refine aa.ob Tryz.func265 ?_;exact gE qq (j8 @i @h @g @d @i0 @i1 @i2 @i3) tI
theorem GO (n:Int) (d:n=0∨n=1∨n=2∨n=3) (σ:AS):aa Tryz.prog 231 [.sc (.int .u64 1),.sc (.int .u64 n)] σ
 (ao (.bQ [.sc (.int .u64 0),.sc (.int .u64 n)]) σ) No:=by
 have h:=fun σ=>BK n d σ;refine aa.ob Tryz.func231 ?_;exact gE qq tI @h
theorem Gm (c:UInt8) (o:cL) (n:Nat) (v:n≤3) (σ:AS):aa Tryz.prog 184 [.an 5 [u8 c] o false,.sc (.int .i64 n)] σ
 (ao (.an 5 ((List.replicate n c).map u8) .full false) σ) No:=by
 have h:=fun σ=>GO n (by omega) σ;have i1:IntKind.u64.wrap 1=1:=by decide
 have u:n=0∨n=1∨n=2∨n=3:=by omega
 rcases u with rfl|rfl|rfl|rfl
 ·refine aa.ob Tryz.func184 ?_;refine gO cP @i1 @h ?_;intro id l;rw[show jv 0 (AV.sc (.int .u8 0))= [] from rfl];repeat (first
   |(with_reducible first|apply ae.seq|apply ae.block|refine j2 (by first|omega|assumption|decide) ?_)
   |((first|(with_reducible first|apply ae.fork|apply ae.region|show aN _ _ _ |show aB _ _ _ _ _ _ _ _ _)|((with_reducible apply ae.aR (id:=9) (t:=gl));(exact mixed);kernel_rfl;kernel_rfl;(repeat (with_reducible first|apply ak.then|apply ak.block|apply ak.body|apply ak.no))));simp-implicitDefEqProofs [gZ,cA])
   |((with_reducible first|apply ae.ret|apply ae.skip|apply ae.exit);try simp-implicitDefEqProofs [gZ,cA]))
  refine ae.bp (α:=(Nat)) (0) (fun j=>0-j) (fun j=>0≤j∧j≤0) [(4,?_),(7,?_)] (fun j=> [(8,.sc (.int .i64 j))]) (fun j=>σ.set id (.cells 5 (List.replicate j (u8 c)++List.replicate (0-j) (.sc (.int .u8 0))))) ?_ ?_ ?_ ?_;rotate_left 2
  ·exact gF tI
  ·(try dsimp only);(simp;done)
  ·exact⟨by omega,by omega⟩
  intro j d;try dsimp only at d⊢
  obtain⟨g,q⟩:=d;simp only[gj];have i:j=0:=by omega
  rcases i with rfl
  ·clear g;refine gO (S:= [10]) cP (j2 @gZ.eq_1 @cA.eq_1) tI ?_;refine ae.freeze 7 id (List.replicate 0 (u8 c)) (m:=0) (by simp) (by simp[*]) (by simp) (by simp) (by simp) ?_;exact gE cP tI tI
 ·refine aa.ob Tryz.func184 ?_;refine gO cP @i1 @h ?_;intro id l;rw[show jv 1 (AV.sc (.int .u8 0))= [.sc (.int .u8 0)] from rfl];repeat (first
   |(with_reducible first|apply ae.seq|apply ae.block|refine j2 (by first|omega|assumption|decide) ?_)
   |((first|(with_reducible first|apply ae.fork|apply ae.region|show aN _ _ _ |show aB _ _ _ _ _ _ _ _ _)|((with_reducible apply ae.aR (id:=9) (t:=gl));(exact mixed);kernel_rfl;kernel_rfl;(repeat (with_reducible first|apply ak.then|apply ak.block|apply ak.body|apply ak.no))));simp-implicitDefEqProofs [gZ,cA])
   |((with_reducible first|apply ae.ret|apply ae.skip|apply ae.exit);try simp-implicitDefEqProofs [gZ,cA]))
  refine ae.bp (α:=(Nat)) (1) (fun j=>1-j) (fun j=>1≤j∧j≤1) [(4,?_),(7,?_)] (fun j=> [(8,.sc (.int .i64 j))]) (fun j=>σ.set id (.cells 5 (List.replicate j (u8 c)++List.replicate (1-j) (.sc (.int .u8 0))))) ?_ ?_ ?_ ?_;rotate_left 2
  ·exact gF tI
  ·(try dsimp only);(simp;done)
  ·exact⟨by omega,by omega⟩
  intro j d;try dsimp only at d⊢
  obtain⟨g,q⟩:=d;simp only[gj];have i:j=1:=by omega
  rcases i with rfl
  ·clear g;refine gO (S:= [10]) cP (j2 @gZ.eq_1 @cA.eq_1) tI ?_;refine ae.freeze 7 id (List.replicate 1 (u8 c)) (m:=1) (by simp) (by simp[*]) (by simp) (by simp) (by simp) ?_;exact gE cP tI tI
 ·refine aa.ob Tryz.func184 ?_;refine gO cP @i1 @h ?_;intro id l;rw[show jv 2 (AV.sc (.int .u8 0))= [.sc (.int .u8 0),.sc (.int .u8 0)] from rfl];repeat (first
   |(with_reducible first|apply ae.seq|apply ae.block|refine j2 (by first|omega|assumption|decide) ?_)
   |((first|(with_reducible first|apply ae.fork|apply ae.region|show aN _ _ _ |show aB _ _ _ _ _ _ _ _ _)|((with_reducible apply ae.aR (id:=9) (t:=gl));(exact mixed);kernel_rfl;kernel_rfl;(repeat (with_reducible first|apply ak.then|apply ak.block|apply ak.body|apply ak.no))));simp-implicitDefEqProofs [gZ,cA])
   |((with_reducible first|apply ae.ret|apply ae.skip|apply ae.exit);try simp-implicitDefEqProofs [gZ,cA]))
  refine ae.bp (α:=(Nat)) (1) (fun j=>2-j) (fun j=>1≤j∧j≤2) [(4,?_),(7,?_)] (fun j=> [(8,.sc (.int .i64 j))]) (fun j=>σ.set id (.cells 5 (List.replicate j (u8 c)++List.replicate (2-j) (.sc (.int .u8 0))))) ?_ ?_ ?_ ?_;rotate_left 2
  ·exact gF tI
  ·(try dsimp only);(simp;done)
  ·exact⟨by omega,by omega⟩
  intro j d;try dsimp only at d⊢
  obtain⟨g,q⟩:=d;simp only[gj];have i:j=1∨j=2:=by omega
  rcases i with rfl|rfl
  ·refine gO cP (j2 @gZ.eq_1 @cA.eq_1) tI ?_;refine aP.mk (2) (by(try dsimp only);omega) (gF tI) (by(try dsimp only);(simp;done)) ?_;try dsimp only
   exact⟨by omega,by omega⟩
  ·clear g;refine gO (S:= [10]) cP (j2 @gZ.eq_1 @cA.eq_1) tI ?_;refine ae.freeze 7 id (List.replicate 2 (u8 c)) (m:=2) (by simp) (by simp[*]) (by simp) (by simp) (by simp) ?_;exact gE cP tI tI
 ·refine aa.ob Tryz.func184 ?_;refine gO cP @i1 @h ?_;intro id l;rw[show jv 3 (AV.sc (.int .u8 0))= [.sc (.int .u8 0),.sc (.int .u8 0),.sc (.int .u8 0)] from rfl];repeat (first
   |(with_reducible first|apply ae.seq|apply ae.block|refine j2 (by first|omega|assumption|decide) ?_)
   |((first|(with_reducible first|apply ae.fork|apply ae.region|show aN _ _ _ |show aB _ _ _ _ _ _ _ _ _)|((with_reducible apply ae.aR (id:=9) (t:=gl));(exact mixed);kernel_rfl;kernel_rfl;(repeat (with_reducible first|apply ak.then|apply ak.block|apply ak.body|apply ak.no))));simp-implicitDefEqProofs [gZ,cA])
   |((with_reducible first|apply ae.ret|apply ae.skip|apply ae.exit);try simp-implicitDefEqProofs [gZ,cA]))
  refine ae.bp (α:=(Nat)) (1) (fun j=>3-j) (fun j=>1≤j∧j≤3) [(4,?_),(7,?_)] (fun j=> [(8,.sc (.int .i64 j))]) (fun j=>σ.set id (.cells 5 (List.replicate j (u8 c)++List.replicate (3-j) (.sc (.int .u8 0))))) ?_ ?_ ?_ ?_;rotate_left 2
  ·exact gF tI
  ·(try dsimp only);(simp;done)
  ·exact⟨by omega,by omega⟩
  intro j d;try dsimp only at d⊢
  obtain⟨g,q⟩:=d;simp only[gj];have i:j=1∨j=2∨j=3:=by omega
  rcases i with rfl|rfl|rfl
  ·refine gO cP (j2 @gZ.eq_1 @cA.eq_1) tI ?_;refine aP.mk (2) (by(try dsimp only);omega) (gF tI) (by(try dsimp only);(simp;done)) ?_;try dsimp only
   exact⟨by omega,by omega⟩
  ·refine gO cP (j2 @gZ.eq_1 @cA.eq_1) tI ?_;refine aP.mk (3) (by(try dsimp only);omega) (gF tI) (by(try dsimp only);(simp;done)) ?_;try dsimp only
   exact⟨by omega,by omega⟩
  ·clear g;refine gO (S:= [10]) cP (j2 @gZ.eq_1 @cA.eq_1) tI ?_;refine ae.freeze 7 id (List.replicate 3 (u8 c)) (m:=3) (by simp) (by simp[*]) (by simp) (by simp) (by simp) ?_;exact gE cP tI tI
end Sg
end Go.Proofs.YtknalmoackcpbaaGreat
