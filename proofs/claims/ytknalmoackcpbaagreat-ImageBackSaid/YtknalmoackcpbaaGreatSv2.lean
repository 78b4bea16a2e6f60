/- Chapter 10: things of one kind, each once: the program's index. -/
import Derived.Test.YtknalmoackcpbaaGreatCode5
set_option maxRecDepth 100000
set_option maxHeartbeats 3200000
set_option linter.all false
namespace Go.Proofs.YtknalmoackcpbaaGreat
namespace Im
open Go Go.AW
abbrev oo:b7:=(.step 0 (.step 1 (.step 2 (.step 4 (.step 5 (.step 6 (.read 3 (.read 7 (.step 8 .done)))))))))
abbrev xT:b7:=(.read 1 (.step 2 (.step 3 (.read 4 (.read 5 (.step 6 (.alt 0 (.alt 7 (.step 8 (.step 9 (.alt 10 .done .none))) .none) (.alt 7 (.read 0 (.step 8 (.step 9 (.alt 10 .done .none)))) .none))))))))
abbrev m8:b7:=(.read 1 (.step 2 (.step 3 (.read 4 (.read 5 (.step 6 (.alt 0 (.alt 7 (.step 8 (.step 9 (.alt 10 .done .none))) .none) (.alt 7 (.read 0 (.step 8 (.step 9 (.alt 10 .done .none)))) .none))))))))
theorem xH (S:List Nat):aH Tryz.prog [(6,oo)] S:=mixed
theorem vL (S:List Nat):aH Tryz.prog [] S:=mixed
theorem zl (S:List Nat):aH Tryz.prog [(1,(.read 0 (.step 1 (.step 2 (.read 3 (.read 4 (.read 5 (.alt 6 (.step 7 .done) .none))))))))] S:=mixed
theorem HK (S:List Nat):aH Tryz.prog [(1,(.step 4 (.read 0 (.step 1 (.step 2 (.read 3 (.read 5 (.alt 6 (.step 7 .done) .none))))))))] S:=mixed
theorem nS (S:List Nat):aH Tryz.prog [(4,m8)] S:=mixed
theorem nT (S:List Nat):aH Tryz.prog [(4,m8)] S:=mixed
open Sg (lz js jr jt gk aD zr tZ)
def nG {α:Type}[DecidableEq α] (l:List α) (t:α):List α:=if t∈l then l else l++ [t]
def z8 {α:Type}[DecidableEq α] (l:List α) (t:α):Nat:=l.findIdx (fun o=>decide (o=t))
def rF {α:Type}[DecidableEq α] (l:List α) (t:α):Int:=(z8 l t:Int)+1
theorem JE {α:Type}[DecidableEq α] {l:List α}{t:α}(h:t∈l):lz (fun o=>decide (o=t)) l=z8 l t∧nG l t=l∧z8 l t<l.length:=by
 have n:l.findIdx (fun o=>decide (o=t))<l.length:=List.findIdx_lt_length_of_exists ⟨t,h,by simp⟩;refine⟨?_,by simp[nG,h],n⟩;rw[js (i:=l.findIdx (fun o=>decide (o=t))) n (fun x q=> ?_) (List.findIdx_getElem (w:=n))]
 ·rfl
 ·obtain⟨j,u,rfl⟩:=List.mem_take_iff_getElem.1 q;have:=List.not_of_lt_findIdx (show j<l.findIdx (fun o=>decide (o=t)) by omega);simpa using this
theorem JD {α:Type}[DecidableEq α] {l:List α}{t:α}(h:¬t∈l):lz (fun o=>decide (o=t)) l= -1∧nG l t=l++ [t]∧z8 l t=l.length:=by
 have i:∀x∈l,(fun o=>decide (o=t)) x=false:=fun x j=>by simp;rintro rfl;exact h j
 refine⟨jr i,by simp[nG,h],?_⟩;rw[z8,List.findIdx_eq_length];exact i
theorem NV (l m:List Ty) (A y:cL) (n1 n2:Bool) (hl:l.length≤1000000) (hm:m.length≤1000000) (σ:AS):
 aa Tryz.prog 27 [.an 49 (l.map cr) A n1,.an 49 (m.map cr) y n2] σ (ao (.sc (.bool (decide (l=m)))) σ) No:=by
 by_cases hlen:l.length=m.length
 ·have v:((l.length:Int)=m.length)=True:=by simp[hlen]
  refine aa.ob Tryz.func27 ?_;refine gO xH @v tI ?_;refine ae.bp (α:=(Nat)) (0) (fun i=>l.length-i) (fun i=>i≤l.length∧l.take i=m.take i) [(0,?_),(1,?_),(12,?_)] (fun i=> [(13,.sc (.int .i64 i))]) (fun i=>σ) ?_ ?_ ?_ ?_;rotate_left 3
  ·exact gF tI
  ·exact gT
  ·(try dsimp only)<;>first|exact trivial|exact⟨by omega,rfl⟩|omega|(simp;done)|exact⟨by omega,by simp⟩|exact⟨by omega,by simp,rfl⟩
  intro i q;try dsimp only at q⊢
  obtain⟨E,u⟩:=q;simp only[gj];by_cases h:i<l.length
  ·have o:IntKind.i64.wrap ((i:Int)+1)=((i+1:Nat):Int):=cv (by omega);have n:i<m.length:=by omega
   have w:=zr l[i] m[i];by_cases he:l[i]=m[i]
   ·repeat (first
     |(with_reducible first|apply ae.seq|apply ae.block|refine j2 (by first|omega|assumption|decide) ?_)
     |((first|(with_reducible first|apply ae.fork|apply ae.region|show aN _ _ _ |show aB _ _ _ _ _ _ _ _ _)|((with_reducible apply ae.aR (id:=6) (t:=oo));(exact mixed);kernel_rfl;kernel_rfl;(repeat (with_reducible first|apply ak.then|apply ak.block|apply ak.body|apply ak.no))));simp-implicitDefEqProofs [h,n,aD,he,o])
     |((with_reducible first|apply ae.ret|apply ae.skip|apply ae.exit);try simp-implicitDefEqProofs))
    refine aP.mk (i+1) (by(try dsimp only);omega) (gF tI) gT ?_;try dsimp only
    exact⟨h,by rw[List.take_succ_eq_append_getElem h,List.take_succ_eq_append_getElem n,u,he]⟩
   ·have j:¬l=m:=fun e=>he (by subst e;rfl);rw[show decide (l[i]=m[i])=false by simp[he]]at w;simp only[j,decide_false];repeat (first
     |(with_reducible first|apply ae.seq|apply ae.block|refine j2 (by first|omega|assumption|decide) ?_)
     |((first|(with_reducible first|apply ae.fork|apply ae.region|show aN _ _ _ |show aB _ _ _ _ _ _ _ _ _)|((with_reducible apply ae.aR (id:=6) (t:=oo));(exact mixed);kernel_rfl;kernel_rfl;(repeat (with_reducible first|apply ak.then|apply ak.block|apply ak.body|apply ak.no))));simp-implicitDefEqProofs [h,n,aD,↓w])
     |((with_reducible first|apply ae.ret|apply ae.skip|apply ae.exit);try simp-implicitDefEqProofs))
  ·have D:l=m:=by rw[List.take_of_length_le (by omega),List.take_of_length_le (by omega)]at u;exact u
   rw[show decide (l=m)=true by simp[D]];exact gE xH (j2 h @aI) tI
 ·have v:((l.length:Int)=m.length)=False:=by simp;omega
  have j:¬l=m:=fun e=>hlen (by rw[e]);rw[show decide (l=m)=false by simp[j]];refine aa.ob Tryz.func27 ?_;exact gE xH @v tI
def DK (l:List Ty):AV:= .an 49 (l.map cr) .aE (decide (l= []))
theorem jl (l:List Ty):DK l= .an 49 (l.map cr) .aE (decide (l= [])):=rfl
theorem Jn (l:List (List Ty)) (o:cL) (nl:Bool) (v:AV) (g:List Ty→Bool) (σ:AS) (hl:l.length≤140737488355328) (hf:∀x∈l,mX Tryz.prog σ v [DK x] (.sc (.bool (g x)))):
 aa Tryz.prog 192 [.an 47 (l.map DK) o nl,v] σ (ao (.sc (.int .i64 (lz g l))) σ) No:=by
 refine aa.ob Tryz.func192 ?_;refine gO vL tI tI ?_;refine ae.bp (α:=(Nat)) (0) (fun i=>l.length-i) (fun i=>i≤l.length∧ ∀x∈l.take i,g x=false) [(0,?_),(1,?_),(7,?_)] (fun i=> [(8,.sc (.int .i64 i))]) (fun i=>σ) ?_ ?_ ?_ ?_;rotate_left 3
 ·exact gF tI
 ·exact gT
 ·(try dsimp only)<;>first|exact trivial|exact⟨by omega,rfl⟩|omega|(simp;done)|exact⟨by omega,by simp⟩|exact⟨by omega,by simp,rfl⟩
 intro i n;try dsimp only at n⊢
 obtain⟨w,u⟩:=n;simp only[gj];by_cases h:i<l.length
 ·have j:IntKind.i64.wrap ((i:Int)+1)=((i+1:Nat):Int):=cv (by omega);have hu:=(hf l[i] (List.getElem_mem h));simp only[jl]at hu;cases q:g l[i]with
  |true=>
   rw[q]at hu;rw[js h u q];repeat (first
    |(with_reducible first|apply ae.seq|apply ae.block|refine j2 (by first|omega|assumption|decide) ?_)
    |((first|(with_reducible first|apply ae.fork|apply ae.region|show aN _ _ _ |show aB _ _ _ _ _ _ _ _ _)|((with_reducible apply ag.id);first|apply (hu.use)));simp-implicitDefEqProofs [h,jl])
    |((with_reducible first|apply ae.ret|apply ae.skip|apply ae.exit);try simp-implicitDefEqProofs))
  |false=>
   rw[q]at hu;repeat (first
    |(with_reducible first|apply ae.seq|apply ae.block|refine j2 (by first|omega|assumption|decide) ?_)
    |((first|(with_reducible first|apply ae.fork|apply ae.region|show aN _ _ _ |show aB _ _ _ _ _ _ _ _ _)|((with_reducible apply ag.id);first|apply (hu.use)));simp-implicitDefEqProofs [h,jl,j])
    |((with_reducible first|apply ae.ret|apply ae.skip|apply ae.exit);try simp-implicitDefEqProofs))
   refine aP.mk (i+1) (by(try dsimp only);omega) (gF tI) gT ?_;try dsimp only
   exact⟨h,gk h u q⟩
 ·rw[jr (by rwa [List.take_of_length_le (by omega)]at u)];exact gE vL (j2 h @aI) tI
theorem IA (t u:Ty) (σ:AS):aa Tryz.prog 25 [cr t,cr u] σ (ao (.sc (.bool (decide (t=u)))) σ) No:=by
 have n:=zr t u;simp only[aD]at n⊢;generalize decide (t=u)=d at n⊢;refine aa.ob Tryz.func25 ?_;refine gO vL tI tI ?_;intro id l;intro o i j;have h:=aA i;repeat (first
  |(with_reducible first|apply ae.seq|apply ae.block|refine j2 (by first|omega|assumption|decide) ?_)
  |((first|(with_reducible first|apply ae.fork|apply ae.region|show aN _ _ _ |show aB _ _ _ _ _ _ _ _ _));simp-implicitDefEqProofs [↓n,h])
  |((with_reducible first|apply ae.ret|apply ae.skip|apply ae.exit);try simp-implicitDefEqProofs))
 exact AS.ah (AS.ah (lR _) l) (by simp[j])
theorem Iz (l m:List Ty) (hl:l.length≤1000000) (hm:m.length≤1000000) (σ:AS):aa Tryz.prog 26 [DK l,DK m] σ (ao (.sc (.bool (decide (l=m)))) σ) No:=by have h:=fun σ=>NV l m .aE .aE (decide (l= [])) (decide (m= [])) hl hm σ;simp only[jl];generalize decide (l=m)=d at h⊢;refine aa.ob Tryz.func26 ?_;exact gE vL tI @h
theorem E3 (t o:Ty) (aT q id3:Nat) (c0 O M L K J I H G E D A:AV) (σ:AS)
 (h:σ aT=some (.cells 74 [c0,O,M,L,K,.sc (.func (.func 25) #[] #[]),J,I,H,G,E,D,A]))
 (F:σ q=some (.cells 319 [.ptr aT 4])) (y:σ id3=some (.cells 49 (cr t).cells)):
 aa Tryz.prog 242 [cr o,.ptr q 0,.ptr id3 0] σ (ao (.sc (.bool (decide (o=t)))) σ) No:=by
 have w:=fun σ=>IA o t σ;generalize decide (o=t)=d at w⊢;simp only[aD,aQ]at y w⊢;refine aa.ob Tryz.func242 ?_;refine gO zl tI tI ?_;intro id l;have i:¬aT=id:=nq h l;have u:=aA i;have j:¬q=id:=nq F l;have v:=aA j;have n:¬id3=id:=nq y l;refine gO zl (j6 i @h j @F n @y) @w ?_;exact AS.ah (lR _) l
theorem BT (t o:List Ty) (ht:t.length≤1000000) (v:o.length≤1000000) (aT i id3:Nat) (c0 I H G F E D A y q n l:AV) (σ:AS)
 (h:σ aT=some (.cells 74 [c0,I,H,G,F,E,D,.sc (.func (.func 26) #[] #[]),A,y,q,n,l]))
 (w:σ i=some (.cells 267 [.ptr aT 6])) (u:σ id3=some (.cells 47 [DK t])):
 aa Tryz.prog 193 [DK o,.ptr i 0,.ptr id3 0] σ (ao (.sc (.bool (decide (o=t)))) σ) No:=by
 have j:=fun σ=>Iz o t v ht σ;generalize decide (o=t)=d at j⊢;simp only[jl]at u j⊢;refine aa.ob Tryz.func193 ?_;exact gE HK (j3 @h @w @u) @j
theorem oC (t:Ty) (l:List Ty) (aT O:Nat) (c0 c1 c2 c3 c6 c7 c8 c9 Y X V:AV) (hl:l.length≤100000) (σ:AS)
 (h:σ aT=some (.cells 74 [c0,c1,c2,c3,.an 49 (l.map cr) (.tok O) (decide (l= [])),.sc (.func (.func 25) #[] #[]),c6,c7,c8,c9,Y,X,V]))
 (U:σ O=some (.tok l.length)):
 aa Tryz.prog 189 [.ptr aT 4,cr t] σ (ao (.sc (.int .i64 (rF l t)))
  ((σ.set aT (.cells 74 [c0,c1,c2,c3,.an 49 ((nG l t).map cr) (.tok O) (decide (nG l t= [])),.sc (.func (.func 25) #[] #[]),c6,c7,c8,c9,Y,X,V])).set O (.tok (nG l t).length))) No:=by
 have hi:=fun σ fv hf=>tZ l (.tok O) (decide (l= [])) fv (fun o=>decide (o=t)) σ (by omega) hf;have y:¬aT=O:=nq h U;have H:=aA y;refine aa.ob Tryz.func189 ?_;by_cases hm:t∈l
 ·obtain⟨e1,e2,e3⟩:=JE hm;rw[e1]at hi;simp only[e2,rF];rw[AS.qC h,AS.qC U];simp only[aD]at hi⊢;refine gO nS tI tI ?_;intro G w;refine gO nS tI tI ?_;intro id3 n J;have q:=aA n;have j:¬aT=G:=nq h w;have E:=aA j;have v:¬O=G:=nq U w;have A:=aA v;have I:σ id3=none:=by simpa[AS.set,n]using J
  have i:¬aT=id3:=nq h I;have D:=aA i;have u:¬O=id3:=nq U I;have F:=aA u;have ab:=fun σ' h2 h3 h4=>hi σ' (.fn (.func 242) [] [.ptr G 0,.ptr id3 0]) (fun x hx=>mX.fn (E3 t x aT G id3 c0 c1 c2 c3 (.an 49 (l.map cr) (.tok O) (decide (l= []))) c6 c7 c8 c9 Y X V σ' h2 h3 (by simpa only[aD]using h4)));have a7:¬((z8 l t:Int)<0):=by omega
  have ac:IntKind.i64.wrap ((z8 l t:Int)+1)=(z8 l t:Int)+1:=ay (by omega) (by omega);refine gO nS (j6 @a7 @ac q j @h i) @ab ?_;exact AS.ah (AS.ah (lR _) w) (by simp[I])
 ·obtain⟨e1,e2,e3⟩:=JD hm;rw[e1]at hi;simp only[e2,rF,e3];simp only[aD]at hi⊢;refine gO nS tI tI ?_;intro G w;refine gO nS tI tI ?_;intro id3 n J;have q:=aA n;have j:¬aT=G:=nq h w;have E:=aA j;have v:¬O=G:=nq U w;have A:=aA v;have I:σ id3=none:=by simpa[AS.set,n]using J
  have i:¬aT=id3:=nq h I;have D:=aA i;have u:¬O=id3:=nq U I;have F:=aA u;have ab:=fun σ' h2 h3 h4=>hi σ' (.fn (.func 242) [] [.ptr G 0,.ptr id3 0]) (fun x hx=>mX.fn (E3 t x aT G id3 c0 c1 c2 c3 (.an 49 (l.map cr) (.tok O) (decide (l= []))) c6 c7 c8 c9 Y X V σ' h2 h3 (by simpa only[aD]using h4)));have ac:IntKind.i64.wrap ((l.length:Int)+1)=(l.length:Int)+1:=ay (by omega) (by omega)
  repeat' (first
   |(with_reducible first|apply ae.seq|apply ae.block|refine j2 (by first|omega|assumption|decide) ?_)
   |((first|(with_reducible first|apply ae.fork|apply ae.region|show aN _ _ _ |show aB _ _ _ _ _ _ _ _ _)|((with_reducible apply ae.aR (id:=4) (t:=xT));(exact mixed);kernel_rfl;kernel_rfl;(repeat (with_reducible first|apply ak.then|apply ak.block|apply ak.body|apply ak.no)))|((with_reducible apply ag.id);first|apply ag.aC (ab _ (by simp[j,i,h]) (by simp[q]) (by simp))));simp-implicitDefEqProofs [ac,y,q,j,h,A,v,U,i,u])
   |trivial
   |(with_reducible apply j2)
   |((with_reducible first|apply ae.ret|apply ae.skip|apply ae.exit);try simp-implicitDefEqProofs))
  ·have Z:=(j2 (j7 w @I y H n q E) (j2 (j7 j @h A v @U D i) (j2 F u)));intro S y_;refine gK Z S O fun Q=>gK Z S aT fun K=>gK Z S G fun M=>gK Z S id3 fun L=> ?_;intro P;simp[AS.set,Q,K,M,L]at P⊢;try exact P
  ·have Z:=(j2 (j7 w @I y H n q E) (j2 (j7 j @h A v @U D i) (j2 F u)));intro S y_;refine gK Z S O fun Q=>gK Z S aT fun K=>gK Z S G fun M=>gK Z S id3 fun L=> ?_;intro P;simp[AS.set,Q,K,M,L]at P⊢;try exact P
theorem L8 (t:List Ty) (ht:t.length≤1000000) (l:List (List Ty)) (hA:∀x∈l,x.length≤1000000) (aT O:Nat) (c0 c1 c2 c3 c4 c5 c8 c9 Y X V:AV) (hl:l.length≤100000) (σ:AS)
 (h:σ aT=some (.cells 74 [c0,c1,c2,c3,c4,c5,.an 47 (l.map DK) (.tok O) (decide (l= [])),.sc (.func (.func 26) #[] #[]),c8,c9,Y,X,V]))
 (U:σ O=some (.tok l.length)):
 aa Tryz.prog 138 [.ptr aT 6,DK t] σ (ao (.sc (.int .i64 (rF l t)))
  ((σ.set aT (.cells 74 [c0,c1,c2,c3,c4,c5,.an 47 ((nG l t).map DK) (.tok O) (decide (nG l t= [])),.sc (.func (.func 26) #[] #[]),c8,c9,Y,X,V])).set O (.tok (nG l t).length))) No:=by
 have hi:=fun σ fv hf=>Jn l (.tok O) (decide (l= [])) fv (fun o=>decide (o=t)) σ (by omega) hf;have y:¬aT=O:=nq h U;have H:=aA y;refine aa.ob Tryz.func138 ?_;by_cases hm:t∈l
 ·obtain⟨e1,e2,e3⟩:=JE hm;rw[e1]at hi;simp only[e2,rF];rw[AS.qC h,AS.qC U];simp only[jl]at hi⊢;refine gO nT tI tI ?_;intro G w;refine gO nT tI tI ?_;intro id3 n J;have q:=aA n;have j:¬aT=G:=nq h w;have E:=aA j;have v:¬O=G:=nq U w;have A:=aA v;have I:σ id3=none:=by simpa[AS.set,n]using J
  have i:¬aT=id3:=nq h I;have D:=aA i;have u:¬O=id3:=nq U I;have F:=aA u;have ab:=fun σ' h2 h3 h4=>hi σ' (.fn (.func 193) [] [.ptr G 0,.ptr id3 0]) (fun x hx=>mX.fn (BT t x ht (hA x hx) aT G id3 c0 c1 c2 c3 c4 c5 (.an 47 (l.map DK) (.tok O) (decide (l= []))) c8 c9 Y X V σ' h2 h3 (by simpa only[jl]using h4)));have a8:¬((z8 l t:Int)<0):=by omega
  have ac:IntKind.i64.wrap ((z8 l t:Int)+1)=(z8 l t:Int)+1:=ay (by omega) (by omega);refine gO nT (j6 @a8 @ac q j @h i) @ab ?_;exact AS.ah (AS.ah (lR _) w) (by simp[I])
 ·obtain⟨e1,e2,e3⟩:=JD hm;rw[e1]at hi;simp only[e2,rF,e3];simp only[jl]at hi⊢;refine gO nT tI tI ?_;intro G w;refine gO nT tI tI ?_;intro id3 n J;have q:=aA n;have j:¬aT=G:=nq h w;have E:=aA j;have v:¬O=G:=nq U w;have A:=aA v;have I:σ id3=none:=by simpa[AS.set,n]using J
  have i:¬aT=id3:=nq h I;have D:=aA i;have u:¬O=id3:=nq U I;have F:=aA u;have ab:=fun σ' h2 h3 h4=>hi σ' (.fn (.func 193) [] [.ptr G 0,.ptr id3 0]) (fun x hx=>mX.fn (BT t x ht (hA x hx) aT G id3 c0 c1 c2 c3 c4 c5 (.an 47 (l.map DK) (.tok O) (decide (l= []))) c8 c9 Y X V σ' h2 h3 (by simpa only[jl]using h4)));have ac:IntKind.i64.wrap ((l.length:Int)+1)=(l.length:Int)+1:=ay (by omega) (by omega)
  repeat' (first
   |(with_reducible first|apply ae.seq|apply ae.block|refine j2 (by first|omega|assumption|decide) ?_)
   |((first|(with_reducible first|apply ae.fork|apply ae.region|show aN _ _ _ |show aB _ _ _ _ _ _ _ _ _)|((with_reducible apply ae.aR (id:=4) (t:=m8));(exact mixed);kernel_rfl;kernel_rfl;(repeat (with_reducible first|apply ak.then|apply ak.block|apply ak.body|apply ak.no)))|((with_reducible apply ag.id);first|apply ag.aC (ab _ (by simp[j,i,h]) (by simp[q]) (by simp))));simp-implicitDefEqProofs [ac,y,q,j,h,A,v,U,i,u])
   |trivial
   |(with_reducible apply j2)
   |((with_reducible first|apply ae.ret|apply ae.skip|apply ae.exit);try simp-implicitDefEqProofs))
  ·have Z:=(j2 (j7 w @I y H n q E) (j2 (j7 j @h A v @U D i) (j2 F u)));intro S y_;refine gK Z S O fun Q=>gK Z S aT fun K=>gK Z S G fun M=>gK Z S id3 fun L=> ?_;intro P;simp[AS.set,Q,K,M,L]at P⊢;try exact P
  ·have Z:=(j2 (j7 w @I y H n q E) (j2 (j7 j @h A v @U D i) (j2 F u)));intro S y_;refine gK Z S O fun Q=>gK Z S aT fun K=>gK Z S G fun M=>gK Z S id3 fun L=> ?_;intro P;simp[AS.set,Q,K,M,L]at P⊢;try exact P
end Im
namespace Pl
open Go Go.AW
theorem qX (S:List Nat):aH Tryz.prog [] S:=mixed
def jM (b:List UInt8) (h:Int):List UInt8×Int:=
 if h<1∨b.length≤h then([],3)else
 match rN 0 (b.drop h.toNat)with
 |none=>([],1)
 |some n=>if da ((b.drop h.toNat).take n)then((b.drop h.toNat).take n,0)else([],18)
theorem Mk (l:List UInt8):∀n,rN 0 l=some n→n<l.length:=by
 induction l with
 |nil=>intro n h;simp[rN]at h
 |cons c r j=>
  intro n h;simp only[rN]at h;split at h
  ·cases h;simp
  ·cases i:rN 0 r with
   |none=>rw[i]at h;simp at h
   |some k=>rw[i]at h;simp at h;have:=j k i;simp;omega
theorem L6 (b:List UInt8) (nl:Bool) (o:cL) (h:Int) (hl:b.length≤140737488355328) (ha: -9223372036854775808≤h) (A:h<9223372036854775808) (σ:AS):
 aa Tryz.prog 210 [.an 5 (b.map u8) o nl,.sc (.int .i64 h)] σ (ao (.bQ [.sc (.string ⟨(jM b h).1.toArray⟩),.sc (.int .i64 (jM b h).2)]) σ) No:=by
 refine aa.ob Tryz.func210 ?_;by_cases j:h<1
 ·have i:jM b h=([],3):=by simp[jM,j]
  rw[i];exact gE qX @j tI;try rfl
 ·by_cases l:b.length≤h
  ·have i:jM b h=([],3):=by simp[jM,l]
   rw[i];exact gE qX (j2 @j @l) tI;try rfl
  ·have q:=fun o σ=>gu (b.drop h.toNat) nl o (by simp;omega) σ;have D:(b.map u8).take b.length=b.map u8:=List.take_of_length_le (by simp);simp only[List.map_drop]at q;have h0:0≤h:=by omega
   have h1:h.toNat≤b.length:=by omega
   cases v:rN 0 (b.drop h.toNat)with
   |none=>
    have i:jM b h=([],1):=by simp[jM,j,l,v]
    have w:DZ (b.drop h.toNat)= -1:=by simp[DZ,v]
    rw[i];rw[w]at q;exact gE qX (j5 @j @l @h0 @h1 @D) @q;try rfl
   |some n=>
    have F:=Mk _ _ v;simp at F;have i:jM b h=if da ((b.drop h.toNat).take n)then((b.drop h.toNat).take n,0)else([],18):=by simp[jM,j,l,v]
    have w:DZ (b.drop h.toNat)=n:=by simp[DZ,v]
    rw[i];rw[w]at q;have E:((n:Int)<0)=False:=by simp
    have wn:IntKind.i64.wrap (h+n)=h+n:=ay (by omega) (by omega);have I:0≤h+n:=by omega
    have H:(h+n).toNat≤b.length:=by omega
    have G:h.toNat≤(h+n).toNat:=by omega
    have y:(b.take (h+n).toNat).drop h.toNat=(b.drop h.toNat).take n:=by rw[List.drop_take];congr 1;omega
    have u:((b.map u8).take (h+n).toNat).drop h.toNat=((b.drop h.toNat).take n).map u8:=by rw[←y];simp[List.map_drop,List.map_take]
    have hf:=fun σ=>sD ((b.drop h.toNat).take n) (by simp;omega) σ;generalize (b.drop h.toNat).take n=s at y u hf⊢;cases A:da s;all_goals
     rw[A]at hf;exact gE qX (j2 (j7 @j @l @h0 @h1 @E @wn @I) (j5 @H @G @D @u @qS)) (j2 @q @hf);try rfl
theorem cW (S:List Nat):aH Tryz.prog [] S:=mixed
def Ac {α:Type}(p:α→Bool):List α→Option Nat
 |[]=>none
 |x::r=>if p x then some 0 else(Ac p r).map (· +1)
def B5 {α:Type}(p:α→Bool) (l:List α):Int:=match Ac p l with|some i=>i|none=> -1
theorem GW {α:Type}(p:α→Bool) (l:List α):decide (0≤B5 p l)=l.any p:=by
 unfold B5;have:(Ac p l).isSome=l.any p:=by
  induction l with
  |nil=>rfl
  |cons x r i=>by_cases h:p x<;>simp[Ac,h,i]
 cases h:Ac p l with
 |none=>rw[h]at this;simp at this;simp;simpa using this
 |some k=>rw[h]at this;simp[←this]
def sV (l:List UInt8):AV:= .sc (.string ⟨l.toArray⟩)
theorem GN (l:List UInt8) (hl:l.length≤140737488355328) (σ:AS):aa Tryz.prog 67 [sV l] σ (ao (.sc (.bool (!da l))) σ) No:=by refine aa.ob Tryz.func67 ?_;simp only[sV];exact gE cW tI (sD l hl)
def WT (l:List (List UInt8)) (nl:Bool) (o:cL) (σ:AS) (m:Nat) (fr:Fr) (σ':AS):Prop:=
 ∃i:Nat,m=l.length-i∧i≤l.length∧Ac (fun s=> !da s) l=(Ac (fun s=> !da s) (l.drop i)).map (· +i)∧σ'=σ∧
  fr=jJ [(0,.an 9 (l.map sV) o nl),(1,.sc (.func (.func 67) #[] #[])),(7,.sc (.int .i64 l.length)),(8,.sc (.int .i64 i))]
theorem GU (l:List (List UInt8)) (nl:Bool) (o:cL) (hl:l.length≤140737488355328) (v:∀s∈l,s.length≤140737488355328) (σ:AS):
 aa Tryz.prog 141 [.an 9 (l.map sV) o nl,.sc (.func (.func 67) #[] #[])] σ (ao (.sc (.int .i64 (B5 (fun s=> !da s) l))) σ) No:=by
 refine aa.ob Tryz.func141 ?_;refine gO cW tI tI ?_;refine ae.dx (WT l nl o σ) (k0:=l.length) ⟨0,by omega,by omega,by simp,rfl,rfl⟩ (aS.mk (by simp)) (lR _) ?_;rintro m fr σ' ⟨i,hm,y,h,rfl,rfl⟩;by_cases j:i<l.length
 ·obtain⟨c,w,hd,n,_⟩:=iF l j;obtain⟨_,q⟩:=List.getElem?_eq_some_iff.1 w;have u:((i:Int)<l.length)=True:=by simp;omega
  have hf:=fun σ=>GN c (v c n) σ;rw[hd]at h;simp only[Ac]at h;cases c0:da c with
  |false=>rw[c0]at hf;simp[c0]at h;refine gO cW (j4 u j @q @sV.eq_1) @hf ?_;simp[B5,h]
  |true=>
   rw[c0]at hf;simp only[c0,Bool.not_true,Bool.false_eq_true,if_false]at h;refine gO cW (j4 u j @q @sV.eq_1) @hf ?_;refine⟨m-1,_,_,by omega,aS.mk ?_,lR _,i+1,by omega,by omega,?_,rfl,rfl⟩
   ·simp[g8 (show i<4000000000000000000 by omega)]
   ·rw[h,Option.map_map];congr 1;funext x;simp;omega
 ·have u:((i:Int)<l.length)=False:=by simp;omega
  have:l.drop i= []:=List.drop_eq_nil_of_le (by omega);rw[this]at h;refine gO cW u tI ?_;simp[B5,h,Ac]
theorem mT {α:Type}(p:α→Bool) (l:List α):l.any (fun s=> !p s)= !l.all p:=by
 induction l with
 |nil=>rfl
 |cons x r h=>simp[h]
theorem Ct (l:List (List UInt8)) (nl:Bool) (o:cL) (hl:l.length≤140737488355328) (h:∀s∈l,s.length≤140737488355328) (σ:AS):
 aa Tryz.prog 66 [.an 9 (l.map sV) o nl,.sc (.func (.func 67) #[] #[])] σ (ao (.sc (.bool (!l.all da))) σ) No:=by
 refine aa.ob Tryz.func66 ?_;refine gO cW tI (GU l nl o hl h) ?_;refine KX ?_;rw[GW,mT]
def fW (h:List UInt8) (o:cL) (bh:Nat):bN:= .cells 131 [.an 5 (h.map u8) o false,.mp bh]
theorem Ca (σ:AS):aa Tryz.prog 68 [] σ (fun r σ'=> ∃i bh,σ i=none∧σ bh=none∧i≠bh∧r= .ptr i 0∧σ'=(σ.set bh (.map (eO []))).set i (fW [0] .full bh)) No:=by refine aa.ob Tryz.func68 ?_;refine gO cW tI tI ?_;unfold Rj;intro bh j;simp-implicitDefEqProofs;intro i h l;refine gO cW tI tI ?_;exact⟨_,_,Wk.refl _,lR _,i,l,bh,j,h,rfl,rfl⟩
def PS (o:cL) (n:Nat) (h σ:AS):Prop:=(o= .full∧σ=h)∨(∃i,o= .tok i∧h i=none∧σ=h.set i (.tok n))
theorem GM (h s:List UInt8) (o:cL) (aT:Nat) (q σ:AS) (u:PS o h.length q σ) (i:q aT=some (.cells 9 [sV s])) (h1:h.length≤1000000) (v:s.length≤1000000):
 aa Tryz.prog 70 [.an 5 (h.map u8) o false,.ptr aT 0] σ (la (fun j=> .an 5 ((h++s++ [0]).map u8) (.tok j) false) (h++s++ [0]).length q) No:=by
 refine aa.ob Tryz.func70 ?_;rcases u with⟨rfl,rfl⟩|⟨j,rfl,l,rfl⟩
 ·refine gO cW (j2 @i @sV.eq_1) tI ?_;intro j n;refine gO cW tI tI ?_;refine bJ j n (iR (by first|rfl|simp)) ?_;exact jn (lR _) (by first|omega|(simp;omega))
 ·have n1:¬aT=j:=by intro e;subst e;rw[l]at i;cases i
  refine gO cW (j3 @i @sV.eq_1 @n1) tI ?_;refine bJ j l (iR (by first|rfl|simp)) ?_;exact jn (lR _) (by first|omega|(simp;omega))
theorem PS.le {o:cL}{n:Nat}{j σ:AS}(h:PS o n j σ):AS.le j σ:=by
 rcases h with⟨_,rfl⟩|⟨l,_,i,rfl⟩
 ·exact lR _
 ·exact aq i (lR _)
theorem E2 (j bh:Nat) (i s:List UInt8) (o:cL) (h:List (ByteArray×AV)) (l:Int) (q:AV) (σ:AS) (h1:σ j=some (fW i o bh)) (n:σ bh=some (.map (eO h))) (hf:iz ⟨s.toArray⟩ h=some (.sc (.int .i64 l))):
 aa Tryz.prog 69 [.ptr j 0,sV s,q] σ (ao (.sc (.int .i64 l)) σ) No:=by
 refine aa.ob Tryz.func69 ?_;simp only[sV,fW]at h1⊢;refine gO (S:= [1]) cW tI tI ?_
 with_reducible apply ae.eX
 refine br.first 5 ?_;simp-implicitDefEqProofs [h1];refine br.sp rfl (il.lookup (by decide) bh ⟨s.toArray⟩ h Tryz.underlying129 Tryz.underlying9 (by simp) (by simp) (by simp) n ?_);refine br.rest ?_;simp-implicitDefEqProofs [pS,hf];exact gE cW tI tI
theorem E1 (l bh:Nat) (i j s:List UInt8) (o:cL) (n:List (ByteArray×AV)) (f:Nat) (u:List AV) (w σ:AS) (D:¬l=bh) (h1:w l=some (fW i o bh)) (y:w bh=some (.map (eO n))) (E:PS o i.length w σ)
 (hf:iz ⟨s.toArray⟩ n=none) (hl:i.length≤1000000)
 (ht:aa Tryz.prog f ([.an 5 (i.map u8) o false]++u) σ (la (fun q=> .an 5 (j.map u8) (.tok q) false) j.length w) No):
 aa Tryz.prog 69 [.ptr l 0,sV s,.fn (.func f) [] u] σ
  (fun r σ'=> ∃q,w q=none∧r= .sc (.int .i64 i.length)∧σ'=((w.set q (.tok j.length)).set l (fW j (.tok q) bh)).set bh (.map (eO (kV ⟨s.toArray⟩ (.sc (.int .i64 i.length)) n)))) No:=by
 have A:=E.le l _ h1;have H:=E.le bh _ y;have G:aw Tryz.prog 3= .sc (.int .i64 0):=by simp
 refine aa.ob Tryz.func69 ?_;simp only[sV,fW]at h1 A⊢;refine gO (S:= [1,4,5]) cW tI tI ?_
 with_reducible apply ae.eX
 refine br.first 5 ?_;simp-implicitDefEqProofs [A];refine br.sp rfl (il.lookup (by decide) bh ⟨s.toArray⟩ n Tryz.underlying129 Tryz.underlying9 (by simp) (by simp) (by simp) H ?_);refine br.rest ?_;simp-implicitDefEqProofs [pS,hf,G];refine gO (S:= [1,4,5]) cW @A tI ?_
 with_reducible apply ae.region
 simp-implicitDefEqProofs [A];refine⟨_,_,ht,?_,fun _ _ h=>h.elim⟩;rintro r I ⟨q,v,rfl,rfl⟩;have n1:¬l=q:=by intro e;subst e;rw[v]at h1;cases h1
 have n2:¬bh=q:=by intro e;subst e;rw[v]at y;cases y
 have F:=aA D;simp-implicitDefEqProofs [h1,n1];refine gO (S:= [5]) cW tI tI ?_
 with_reducible apply ae.eX
 refine br.first 6 ?_;simp-implicitDefEqProofs;refine br.sp rfl (il.mapUpdate bh ⟨s.toArray⟩ n Tryz.underlying129 Tryz.underlying9 (by simp) (by simp) (by simp[y,n2,F]) ?_);refine br.rest ?_;simp-implicitDefEqProofs;refine gO cW tI tI ?_;exact⟨_,_,Wk.refl _,lR _,q,v,rfl,rfl⟩
end Pl
namespace Sg
open Go Go.AW
def bL (b:List UInt8):AV:= .an 5 (b.map u8) .aE (decide (b= []))
def cN:Except Int (List UInt8)→List UInt8
 |.ok l=>l
 |.error _ => []
theorem qT:AV.Wk Tryz.prog .ai (bL []):=by simp[bL]
theorem M8 (b:List UInt8) (o:cL) (nl:Bool) (h:nl=decide (b= [])):AV.Wk Tryz.prog (.an 5 (b.map u8) o nl) (bL b):=by subst h;exact qm _ _ _ _ |>.2 trivial
end Sg
namespace Im
open Go Go.AW
abbrev zH:b7:=(.step 0 (.step 1 (.step 2 (.step 3 (.step 5 (.step 6 (.step 7 (.step 8 (.step 9 (.step 11 (.step 14 (.step 15 (.read 10 (.step 12 (.read 13 (.alt 4 (.alt 16 (.step 17 (.alt 18 .done .none)) .none) (.alt 16 (.read 4 (.step 17 (.alt 18 .done .none))) .none)))))))))))))))))
theorem s7 (S:List Nat):aH Tryz.prog [] S:=mixed
open Sg (aD bL)
open Pl (sV)
theorem le_eq {a b:AS}(h:a=b):AS.le a b:=h ▸ lR _
theorem kC {σ τ:AS}{i:Nat}{b:bN}(h:AS.le σ τ):AS.le (σ.set i b) (τ.set i b):=by
 intro j x l;by_cases e:j=i
 ·subst e;simpa[AS.set]using l
 ·rw[AS.ad _ _ e]at l⊢;exact h j x l
theorem yo (n:Nat) (h:n≤1000000):IntKind.i64.wrap (((n+1:Nat):Int)-1)=n:=by rw[show((n+1:Nat):Int)-1=n by omega];exact ay (by omega) (by omega)
theorem Ip (s:List UInt8) (l:List (List UInt8)) (aT n:Nat) (c0 H G F E D A y w u q o:AV) (hl:l.length≤100000) (σ:AS)
 (h:σ aT=some (.cells 74 [c0,H,G,F,E,D,A,y,.an 9 (l.map sV) (.tok n) (decide (l= [])),w,u,q,o]))
 (v:σ n=some (.tok l.length)):
 aa Tryz.prog 60 [.ptr aT 0,sV s] σ (ao (.sc (.int .i64 l.length))
  ((σ.set aT (.cells 74 [c0,H,G,F,E,D,A,y,.an 9 ((l++ [s]).map sV) (.tok n) false,w,u,q,o])).set n (.tok (l.length+1)))) No:=by
 have i:¬aT=n:=nq h v;have j:=aA i;have hw:=yo l.length (by omega);simp only[sV];refine aa.ob Tryz.func60 ?_;refine gO s7 (j3 i @h @v) tI ?_;refine⟨iR (by rw[ay (by omega) (by omega)]),le_eq ?_⟩;rw[AS.set_comm i];simp[sV]
theorem Iy (s:List UInt8) (e:Int) (l:List (List UInt8)) (aT n:Nat) (c0 H G F E D A y w u q o:AV) (hl:l.length≤100000) (σ:AS)
 (h:σ aT=some (.cells 74 [c0,H,G,F,E,D,A,y,w,.an 30 (l.map bL) (.tok n) (decide (l= [])),u,q,o]))
 (v:σ n=some (.tok l.length)):
 aa Tryz.prog 61 [.ptr aT 0,bL s,.sc (.int .i64 e)] σ (ao (.sc (.int .i64 l.length))
  ((σ.set aT (.cells 74 [c0,H,G,F,E,D,A,y,w,.an 30 ((l++ [s]).map bL) (.tok n) false,u,q,o])).set n (.tok (l.length+1)))) No:=by
 have i:¬aT=n:=nq h v;have j:=aA i;have hw:=yo l.length (by omega);simp only[bL];refine aa.ob Tryz.func61 ?_;refine gO s7 (j3 i @h @v) tI ?_;refine⟨iR (by rw[ay (by omega) (by omega)]),le_eq ?_⟩;rw[AS.set_comm i];simp[bL]
theorem Lj (t i w:Nat) (rs R:List AV) (aT bq v:Nat) (c0 V U S Q P O M L K G F:AV) (nl:Bool) (hl:rs.length≤100000) (I:R.length=6) (σ:AS)
 (h:σ aT=some (.cells 74 [c0,V,U,S,Q,P,O,M,L,K,G,F,.fT bq 0 6 6])) (A:σ bq=some (.cells 94 R))
 (ht:R[t]? =some (.an 44 rs (.tok v) nl)) (D:σ v=some (.tok rs.length)):
 aa Tryz.prog 59 [.ptr aT 0,.sc (.int .i64 t),.fT i 0 w w] σ (ao (.bQ [])
  ((σ.set bq (.cells 94 (R.set t (.an 44 (rs++ [.fT i 0 w w]) (.tok v) false)))).set v (.tok (rs.length+1)))) No:=by
 have n:¬aT=v:=nq h D;have u:=aA n;have o:¬bq=v:=nq A D;have l:=aA o;have j:¬aT=bq:=nq A h;have q:=aA j;obtain⟨y,H⟩:=List.getElem?_eq_some_iff.1 ht;have J:t<6:=by omega
 have E:R.take t++ .an 44 (rs++ [.fT i 0 w w]) (.tok v) false::R.drop (t+1)=R.set t (.an 44 (rs++ [.fT i 0 w w]) (.tok v) false):=by rw[List.set_eq_take_append_cons_drop,if_pos y]
 refine aa.ob Tryz.func59 ?_
 repeat' (first
  |(with_reducible first|apply ae.seq|apply ae.block|refine j2 (by first|omega|assumption|decide) ?_)
  |((first|(with_reducible first|apply ae.fork|apply ae.region|show aN _ _ _ |show aB _ _ _ _ _ _ _ _ _)|((with_reducible apply ae.aR (id:=0) (t:=zH));(exact mixed);kernel_rfl;kernel_rfl;(repeat (with_reducible first|apply ak.then|apply ak.block|apply ak.body|apply ak.no))));simp-implicitDefEqProofs [hl,n,u,o,l,j,q,h,A,D,ht,H,y,J,I])
  |trivial
  |(with_reducible apply j2)
  |((with_reducible first|apply ae.ret|apply ae.skip|apply ae.exit);try simp-implicitDefEqProofs [hl,n,u,o,l,j,q,h,A,D,ht,H,y,J,I]))
 all_goals
  rw[E,AS.set_comm l];exact lR _
def HL (p:Nat×List Int):AV:= .fT p.1 0 p.2.length p.2.length
theorem Lt (p:Nat×List Int):HL p= .fT p.1 0 p.2.length p.2.length:=rfl
def Oe (p:Nat×List Int):bN:= .cells 3 (p.2.map aV)
def oh:List (Nat×List Int)→AS→AS
 |[],σ=>σ
 |p::r,σ=>oh r (σ.set p.1 (Oe p))
theorem eF {j:Nat} :∀ {X:List (Nat×List Int)}{σ:AS},(∀p∈X,p.1≠j)→oh X σ j=σ j
 |[],_,_ =>rfl
 |p::r,σ,h=>by rw[oh,eF (fun q i=>h q (by simp[i]))];exact AS.ad _ _ (fun e=>h p (by simp) e.symm)
theorem yw (p:Nat×List Int):∀(X:List (Nat×List Int)) (σ:AS),oh (X++ [p]) σ=(oh X σ).set p.1 (Oe p)
 |[],_ =>rfl
 |q::r,σ=>by rw[List.cons_append,oh,yw p r,oh]
def yI (c:Nat) (P:List Int) (p:Nat×List Int):Nat×List Int:=(p.1,p.2.set c (P.getD (p.2.getD c 0).toNat 0))
theorem IY (t c:Nat) (X:List (Nat×List Int)) (P:List Int) (R:List AV) (aT bq:Nat) (o:cL) (nl:Bool) (op:cL) (np:Bool) (c0 c1 c2 c3 c4 c5 c6 c7 c8 c9 K J:AV) (hl:X.length≤100000) (V:R.length=6) (hP:P.length≤100000) (σ:AS)
 (h:σ aT=some (.cells 74 [c0,c1,c2,c3,c4,c5,c6,c7,c8,c9,K,J,.fT bq 0 6 6])) (L:σ bq=some (.cells 94 R))
 (ht:R[t]? =some (.an 44 (X.map HL) o nl)) (U:∀p∈X,σ p.1=some (Oe p)∧c<p.2.length∧0≤p.2.getD c 0∧(p.2.getD c 0).toNat<P.length∧p.2.length≤1000) (Y:(X.map (·.1)).Nodup):
 aa Tryz.prog 31 [.ptr aT 0,.sc (.int .i64 t),.sc (.int .i64 c),.an 3 (P.map aV) op np] σ (ao (.bQ []) (oh (X.map (yI c P)) σ)) No:=by
 obtain⟨O,S⟩:=List.getElem?_eq_some_iff.1 ht;have Z:t<6:=by omega
 refine aa.ob Tryz.func31 ?_;refine gO s7 (j5 @h @L @S @Z @V) tI ?_;refine ae.bp (α:=(Nat)) (0) (fun k=>X.length-k) (fun k=>k≤X.length) [(2,?_),(3,?_),(17,?_),(18,?_)] (fun k=> [(19,.sc (.int .i64 k))]) (fun k=>oh ((X.map (yI c P)).take k) σ) ?_ ?_ ?_ ?_;rotate_left 4
 ·exact gF tI
 ·(try dsimp only);exact lR _
 ·(try dsimp only)<;>first|exact trivial|exact⟨by omega,rfl⟩|omega|(simp;done)|exact⟨by omega,by simp⟩|exact⟨by omega,by simp,rfl⟩
 intro k y;try dsimp only at y⊢
 obtain hk:=y;simp only[gj];by_cases u:k<X.length
 ·have w:IntKind.i64.wrap ((k:Int)+1)=((k+1:Nat):Int):=cv (by omega);have E:=U X[k] (List.getElem_mem u);have i:oh ((X.map (yI c P)).take k) σ X[k].1=σ X[k].1:=eF (fun q M=>by obtain⟨j,Q,rfl⟩:=List.mem_take_iff_getElem.1 M;simp only[List.getElem_map,yI];intro e;simp at Q;have:=(List.pairwise_iff_getElem.1 Y) j k (by simp;omega) (by simp;omega) (by omega);simp at this;exact this e);have l:oh ((X.map (yI c P)).take (k+1)) σ=(oh ((X.map (yI c P)).take k) σ).set X[k].1 (Oe (yI c P X[k])):=by rw[List.take_succ_eq_append_getElem (by simpa using u),yw];simp[yI]
  generalize H:X[k]=pk at E i l;obtain⟨id,vs⟩:=pk;simp only[yI,Oe]at E i l;rw[E.1]at i;obtain⟨_,h1,h2,F,h4⟩:=E;have A:vs[c]? =some (vs.getD c 0):=by rw[List.getD_eq_getElem?_getD,List.getElem?_eq_getElem h1];rfl
  generalize vs.getD c 0=v at h2 F l A;obtain⟨n,rfl⟩:∃n:Nat,v=n:=⟨v.toNat,by omega⟩;simp only[Int.toNat_natCast]at F l;have D:P[n]? =some (P.getD n 0):=by rw[List.getD_eq_getElem?_getD,List.getElem?_eq_getElem F];rfl
  generalize P.getD n 0=pv at D l;obtain⟨_,G⟩:=List.getElem?_eq_some_iff.1 A;obtain⟨_,I⟩:=List.getElem?_eq_some_iff.1 D;refine gO s7 (j2 (j7 @u @H @Lt @i @h1 @G @F) (j4 @I @aG @aI @w)) tI ?_;refine aP.mk (k+1) (by(try dsimp only);omega) (gF tI) (by(try dsimp only);(rw[l];refine le_eq ?_;congr 2;rw[←aG,←List.map_take,←List.map_drop,←List.map_cons,←List.map_append,List.set_eq_take_append_cons_drop,if_pos h1])) ?_;try dsimp only
  exact u
 ·refine gO s7 (j2 @u @aI) tI ?_;rw[List.take_of_length_le (by simp;omega)];exact lR _
structure SK where
 aT:Nat
 bq:Nat
 tS:Nat
 tL:Nat
 tN:Nat
 tB:Nat
 tC:Nat
structure SD where
 sp:List Ty
 lo:List (List Ty)
 nm:List (List UInt8)
 bl:List (List UInt8)
 co:List UInt8
abbrev SR:=List (Nat×List (Nat×List Int))
def Ba (x:Nat×List (Nat×List Int)):AV:= .an 44 (x.2.map HL) (.tok x.1) (decide (x.2= []))
def vZ (k:SK) (g:bZ) (d:SD) (en:Int):List AV:= [.an 46 (g.ts.map kE) .aE g.tn,.an 56 (g.fs.map ny) .aE g.fn,.an 53 (g.ms.map jK) .aE g.mn,.sc (.int .i64 g.entry),
 .an 49 (d.sp.map cr) (.tok k.tS) (decide (d.sp= [])),.sc (.func (.func 25) #[] #[]),.an 47 (d.lo.map DK) (.tok k.tL) (decide (d.lo= [])),.sc (.func (.func 26) #[] #[]),
 .an 9 (d.nm.map sV) (.tok k.tN) (decide (d.nm= [])),.an 30 (d.bl.map bL) (.tok k.tB) (decide (d.bl= [])),.an 5 (d.co.map u8) (.tok k.tC) (decide (d.co= [])),.sc (.int .i64 en),.fT k.bq 0 6 6]
theorem eE (k:SK) (g:bZ) (d:SD) (en:Int):vZ k g d en= [.an 46 (g.ts.map kE) .aE g.tn,.an 56 (g.fs.map ny) .aE g.fn,.an 53 (g.ms.map jK) .aE g.mn,.sc (.int .i64 g.entry),
 .an 49 (d.sp.map cr) (.tok k.tS) (decide (d.sp= [])),.sc (.func (.func 25) #[] #[]),.an 47 (d.lo.map DK) (.tok k.tL) (decide (d.lo= [])),.sc (.func (.func 26) #[] #[]),
 .an 9 (d.nm.map sV) (.tok k.tN) (decide (d.nm= [])),.an 30 (d.bl.map bL) (.tok k.tB) (decide (d.bl= [])),.an 5 (d.co.map u8) (.tok k.tC) (decide (d.co= [])),.sc (.int .i64 en),.fT k.bq 0 6 6]:=rfl
def keys (k:SK) (T:SR):List Nat:=k.aT::k.bq::k.tS::k.tL::k.tN::k.tB::k.tC::(T.map (·.1)++T.flatMap fun x=>x.2.map (·.1))
structure SI (k:SK) (g:bZ) (d:SD) (T:SR) (B τ:AS):Prop where
 aT:τ k.aT=some (.cells 74 (vZ k g d 0))
 bq:τ k.bq=some (.cells 94 (T.map Ba))
 tS:τ k.tS=some (.tok d.sp.length)
 tL:τ k.tL=some (.tok d.lo.length)
 tN:τ k.tN=some (.tok d.nm.length)
 tB:τ k.tB=some (.tok d.bl.length)
 tC:τ k.tC=some (.tok d.co.length)
 Ib:∀x∈T,τ x.1=some (.tok x.2.length)
 row:∀x∈T,∀p∈x.2,τ p.1=some (Oe p)
 le:AS.le B τ
 EO:T.length=6
 nd:(keys k T).Nodup
 fr:∀j∈keys k T,B j=none
variable {k:SK} {g:bZ} {d:SD} {T:SR} {B τ:AS}
theorem SI.ne (h:SI k g d T B τ):k.aT≠k.bq∧k.aT≠k.tS∧k.aT≠k.tL∧k.aT≠k.tN∧k.aT≠k.tB∧k.aT≠k.tC∧k.bq≠k.tS∧k.bq≠k.tL∧k.bq≠k.tN∧k.bq≠k.tB∧k.bq≠k.tC∧k.tS≠k.tL∧k.tS≠k.tN∧k.tS≠k.tB∧k.tS≠k.tC∧k.tL≠k.tN∧k.tL≠k.tB∧k.tL≠k.tC∧k.tN≠k.tB∧k.tN≠k.tC∧k.tB≠k.tC:=by have:=h.nd;simp only[keys,List.nodup_cons,List.mem_cons,not_or]at this;obtain⟨⟨I,H,G,F,E,D,_⟩,⟨A,y,w,v,u,_⟩,⟨q,o,n,l,_⟩,⟨d4,d5,d6,_⟩,⟨j,i,_⟩,⟨f6,_⟩,_⟩:=this;exact⟨I,H,G,F,E,D,A,y,w,v,u,q,o,n,l,d4,d5,d6,j,i,f6⟩
theorem SI.out (h:SI k g d T B τ) {j:Nat}(i:j∈T.map (·.1)++T.flatMap fun x=>x.2.map (·.1)):j≠k.aT∧j≠k.bq∧j≠k.tS∧j≠k.tL∧j≠k.tN∧j≠k.tB∧j≠k.tC:=by have:=h.nd;simp only[keys,List.nodup_cons,List.mem_cons,not_or]at this;obtain⟨⟨_,_,_,_,_,_,w⟩,⟨_,_,_,_,_,v⟩,⟨_,_,_,_,u⟩,⟨_,_,_,q⟩,⟨_,_,o⟩,⟨_,n⟩,l,_⟩:=this;exact⟨fun e=>w (e ▸ i),fun e=>v (e ▸ i),fun e=>u (e ▸ i),fun e=>q (e ▸ i),fun e=>o (e ▸ i),fun e=>n (e ▸ i),fun e=>l (e ▸ i)⟩
theorem SI.NX (h:SI k g d T B τ) {x:Nat×List (Nat×List Int)}(i:x∈T):x.1≠k.aT∧x.1≠k.bq∧x.1≠k.tS∧x.1≠k.tL∧x.1≠k.tN∧x.1≠k.tB∧x.1≠k.tC:=h.out (List.mem_append_left _ (List.mem_map.2 ⟨x,i,rfl⟩))
theorem SI.Dr (h:SI k g d T B τ) {x:Nat×List (Nat×List Int)}(i:x∈T) {p:Nat×List Int}(j:p∈x.2):p.1≠k.aT∧p.1≠k.bq∧p.1≠k.tS∧p.1≠k.tL∧p.1≠k.tN∧p.1≠k.tB∧p.1≠k.tC:=h.out (List.mem_append_right _ (List.mem_flatMap.2 ⟨x,i,List.mem_map.2 ⟨p,j,rfl⟩⟩))
theorem SI.NA (h:SI k g d T B τ):B k.aT=none∧B k.bq=none∧B k.tS=none∧B k.tL=none∧B k.tN=none∧B k.tB=none∧B k.tC=none:=⟨h.fr _ (by simp[keys]),h.fr _ (by simp[keys]),h.fr _ (by simp[keys]),h.fr _ (by simp[keys]),h.fr _ (by simp[keys]),h.fr _ (by simp[keys]),h.fr _ (by simp[keys])⟩
theorem SI.mk' (h:SI k g d T B τ) {y:SD}{w:AS}(hs:w k.aT=some (.cells 74 (vZ k g y 0))) (hS:w k.tS=some (.tok y.sp.length)) (hL:w k.tL=some (.tok y.lo.length)) (hN:w k.tN=some (.tok y.nm.length))
 (hB:w k.tB=some (.tok y.bl.length)) (hC:w k.tC=some (.tok y.co.length)) (V:∀j,j≠k.aT→j≠k.tS→j≠k.tL→j≠k.tN→j≠k.tB→j≠k.tC→w j=τ j):SI k g y T B w:=by
 obtain⟨i,A,E,D,G,F,n,q,o,v,u,J,I,L,K,P,S,Q,O,M,U⟩:=h.ne;refine⟨hs,?_,hS,hL,hN,hB,hC,fun x H=> ?_,fun x H p hp=> ?_,fun j b l=> ?_,h.EO,h.nd,h.fr⟩
 ·rw[V _ i.symm n q o v u];exact h.bq
 ·obtain⟨x0,x1,x2,x3,Z,Y,X⟩:=h.NX H;rw[V _ x0 x2 x3 Z Y X];exact h.Ib x H
 ·obtain⟨x0,x1,x2,x3,Z,Y,X⟩:=h.Dr H hp;rw[V _ x0 x2 x3 Z Y X];exact h.row x H p hp
 ·obtain⟨f0,f1,f2,f3,f4,f5,f6⟩:=h.NA;rw[V j (by rintro rfl;rw[f0]at l;cases l) (by rintro rfl;rw[f2]at l;cases l) (by rintro rfl;rw[f3]at l;cases l) (by rintro rfl;rw[f4]at l;cases l) (by rintro rfl;rw[f5]at l;cases l) (by rintro rfl;rw[f6]at l;cases l)];exact h.le j b l
theorem SI.own (h:SI k g d T B τ) {i:Nat}{b:bN}(l:τ i=none):SI k g d T (B.set i b) (τ.set i b):=by
 have w:∀j∈keys k T,j≠i:=by
  rintro j q rfl;simp only[keys,List.mem_cons,List.mem_append,List.mem_map,List.mem_flatMap]at q;rcases q with rfl|rfl|rfl|rfl|rfl|rfl|rfl|⟨x,o,rfl⟩|⟨x,o,p,u,rfl⟩
  ·rw[h.aT]at l;cases l
  ·rw[h.bq]at l;cases l
  ·rw[h.tS]at l;cases l
  ·rw[h.tL]at l;cases l
  ·rw[h.tN]at l;cases l
  ·rw[h.tB]at l;cases l
  ·rw[h.tC]at l;cases l
  ·rw[h.Ib x o]at l;cases l
  ·rw[h.row x o p u]at l;cases l
 have n:∀j∈keys k T,∀σ:AS,(σ.set i b) j=σ j:=fun j q σ=>AS.ad _ _ (w j q);have v:∀ {j:Nat},j∈T.map (·.1)++T.flatMap (fun x=>x.2.map (·.1))→j∈keys k T:=fun q=>by simp only[keys,List.mem_cons];simp only[q,or_true]
 refine⟨(n _ (by simp[keys]) _).trans h.aT,(n _ (by simp[keys]) _).trans h.bq,(n _ (by simp[keys]) _).trans h.tS,(n _ (by simp[keys]) _).trans h.tL,(n _ (by simp[keys]) _).trans h.tN,(n _ (by simp[keys]) _).trans h.tB,(n _ (by simp[keys]) _).trans h.tC,fun x o=>(n _ (v (List.mem_append_left _ (List.mem_map.2 ⟨x,o,rfl⟩))) _).trans (h.Ib x o),fun x o p u=>(n _ (v (List.mem_append_right _ (List.mem_flatMap.2 ⟨x,o,List.mem_map.2 ⟨p,u,rfl⟩⟩))) _).trans (h.row x o p u),
  kC h.le,h.EO,h.nd,fun j q=>(n j q _).trans (h.fr j q)⟩
theorem SI.drop (h:SI k g d T B τ) {B':AS}(hle:AS.le B' B):SI k g d T B' τ:=by
 refine⟨h.aT,h.bq,h.tS,h.tL,h.tN,h.tB,h.tC,h.Ib,h.row,AS.le_trans hle h.le,h.EO,h.nd,fun j l=> ?_⟩;cases i:B' j with
 |none=>rfl
 |some y=>have:=hle j y i;rw[h.fr j l]at this;cases this
theorem SI.N7 (h:SI k g d T B τ) (x:List (Ty)):SI k g { d with sp:=x } T B ((τ.set k.aT (.cells 74 (vZ k g { d with sp:=x } 0))).set k.tS (.tok x.length)):=by
 obtain⟨D,i,n,l,q,o,E,G,F,I,H,v,u,y,w,M,P,O,L,K,Q⟩:=h.ne;refine h.mk' ?_ ?_ ?_ ?_ ?_ ?_ fun j A J U S X V=> ?_
 ·rw[AS.ad _ _ i,AS.aj]
 ·rw[AS.aj]
 ·rw[AS.ad _ _ v.symm,AS.ad _ _ n.symm];exact h.tL
 ·rw[AS.ad _ _ u.symm,AS.ad _ _ l.symm];exact h.tN
 ·rw[AS.ad _ _ y.symm,AS.ad _ _ q.symm];exact h.tB
 ·rw[AS.ad _ _ w.symm,AS.ad _ _ o.symm];exact h.tC
 ·rw[AS.ad _ _ J,AS.ad _ _ A]
theorem SI.N9 (h:SI k g d T B τ) (x:List (List Ty)):SI k g { d with lo:=x } T B ((τ.set k.aT (.cells 74 (vZ k g { d with lo:=x } 0))).set k.tL (.tok x.length)):=by
 obtain⟨D,i,n,l,q,o,E,G,F,I,H,u,K,M,L,v,y,w,P,O,Q⟩:=h.ne;refine h.mk' ?_ ?_ ?_ ?_ ?_ ?_ fun j A S J U X V=> ?_
 ·rw[AS.ad _ _ n,AS.aj]
 ·rw[AS.ad _ _ u,AS.ad _ _ i.symm];exact h.tS
 ·rw[AS.aj]
 ·rw[AS.ad _ _ v.symm,AS.ad _ _ l.symm];exact h.tN
 ·rw[AS.ad _ _ y.symm,AS.ad _ _ q.symm];exact h.tB
 ·rw[AS.ad _ _ w.symm,AS.ad _ _ o.symm];exact h.tC
 ·rw[AS.ad _ _ J,AS.ad _ _ A]
theorem SI.N8 (h:SI k g d T B τ) (x:List (List UInt8)):SI k g { d with nm:=x } T B ((τ.set k.aT (.cells 74 (vZ k g { d with nm:=x } 0))).set k.tN (.tok x.length)):=by
 obtain⟨D,i,n,l,q,o,E,G,F,I,H,K,u,M,L,y,P,O,w,v,Q⟩:=h.ne;refine h.mk' ?_ ?_ ?_ ?_ ?_ ?_ fun j A S U J X V=> ?_
 ·rw[AS.ad _ _ l,AS.aj]
 ·rw[AS.ad _ _ u,AS.ad _ _ i.symm];exact h.tS
 ·rw[AS.ad _ _ y,AS.ad _ _ n.symm];exact h.tL
 ·rw[AS.aj]
 ·rw[AS.ad _ _ w.symm,AS.ad _ _ q.symm];exact h.tB
 ·rw[AS.ad _ _ v.symm,AS.ad _ _ o.symm];exact h.tC
 ·rw[AS.ad _ _ J,AS.ad _ _ A]
theorem SI.Oa (h:SI k g d T B τ) (x:List (List UInt8)):SI k g { d with bl:=x } T B ((τ.set k.aT (.cells 74 (vZ k g { d with bl:=x } 0))).set k.tB (.tok x.length)):=by
 obtain⟨D,i,n,l,q,o,E,G,F,I,H,L,K,u,M,P,w,Q,v,O,y⟩:=h.ne;refine h.mk' ?_ ?_ ?_ ?_ ?_ ?_ fun j A S V U J X=> ?_
 ·rw[AS.ad _ _ q,AS.aj]
 ·rw[AS.ad _ _ u,AS.ad _ _ i.symm];exact h.tS
 ·rw[AS.ad _ _ w,AS.ad _ _ n.symm];exact h.tL
 ·rw[AS.ad _ _ v,AS.ad _ _ l.symm];exact h.tN
 ·rw[AS.aj]
 ·rw[AS.ad _ _ y.symm,AS.ad _ _ o.symm];exact h.tC
 ·rw[AS.ad _ _ J,AS.ad _ _ A]
theorem SI.Dn (h:SI k g d T B τ) (x:List (UInt8)):SI k g { d with co:=x } T B ((τ.set k.aT (.cells 74 (vZ k g { d with co:=x } 0))).set k.tC (.tok x.length)):=by
 obtain⟨D,i,n,l,q,o,E,G,F,I,H,L,K,M,u,P,Q,w,O,v,y⟩:=h.ne;refine h.mk' ?_ ?_ ?_ ?_ ?_ ?_ fun j A S V U X J=> ?_
 ·rw[AS.ad _ _ o,AS.aj]
 ·rw[AS.ad _ _ u,AS.ad _ _ i.symm];exact h.tS
 ·rw[AS.ad _ _ w,AS.ad _ _ n.symm];exact h.tL
 ·rw[AS.ad _ _ v,AS.ad _ _ l.symm];exact h.tN
 ·rw[AS.ad _ _ y,AS.ad _ _ q.symm];exact h.tB
 ·rw[AS.aj]
 ·rw[AS.ad _ _ J,AS.ad _ _ A]
theorem SI.name (h:SI k g d T B τ) (s:List UInt8) (hl:d.nm.length≤100000):
 aa Tryz.prog 60 [.ptr k.aT 0,sV s] τ (fun r i=>r= .sc (.int .i64 d.nm.length)∧SI k g { d with nm:=d.nm++ [s] } T B i) No:=
 (Ip s d.nm k.aT k.tN _ _ _ _ _ _ _ _ _ _ _ _ hl τ h.aT h.tN).mono (fun r i j=>by obtain⟨rfl,rfl⟩:=j;have:=h.N8 (d.nm++ [s]);simp only[eE,List.length_append,List.length_singleton]at this;rw[show decide (d.nm++ [s]= [])=false by simp]at this;exact⟨rfl,this⟩) (fun _ _ h=>h)
theorem SI.yi (h:SI k g d T B τ) (s:List UInt8) (e:Int) (hl:d.bl.length≤100000):
 aa Tryz.prog 61 [.ptr k.aT 0,bL s,.sc (.int .i64 e)] τ (fun r i=>r= .sc (.int .i64 d.bl.length)∧SI k g { d with bl:=d.bl++ [s] } T B i) No:=
 (Iy s e d.bl k.aT k.tB _ _ _ _ _ _ _ _ _ _ _ _ hl τ h.aT h.tB).mono (fun r i j=>by obtain⟨rfl,rfl⟩:=j;have:=h.Oa (d.bl++ [s]);simp only[eE,List.length_append,List.length_singleton]at this;rw[show decide (d.bl++ [s]= [])=false by simp]at this;exact⟨rfl,this⟩) (fun _ _ h=>h)
theorem SI.put (h:SI k g d T B τ) (t:Ty) (hl:d.sp.length≤100000):
 aa Tryz.prog 189 [.ptr k.aT 4,cr t] τ (fun r i=>r= .sc (.int .i64 (rF d.sp t))∧SI k g { d with sp:=nG d.sp t } T B i) No:=
 (oC t d.sp k.aT k.tS _ _ _ _ _ _ _ _ _ _ _ hl τ h.aT h.tS).mono (fun r i j=>by obtain⟨rfl,rfl⟩:=j;exact⟨rfl,h.N7 (nG d.sp t)⟩) (fun _ _ h=>h)
theorem SI.Uc (h:SI k g d T B τ) (t:List Ty) (ht:t.length≤1000000) (l:∀x∈d.lo,x.length≤1000000) (hl:d.lo.length≤100000):
 aa Tryz.prog 138 [.ptr k.aT 6,DK t] τ (fun r i=>r= .sc (.int .i64 (rF d.lo t))∧SI k g { d with lo:=nG d.lo t } T B i) No:=
 (L8 t ht d.lo l k.aT k.tL _ _ _ _ _ _ _ _ _ _ _ hl τ h.aT h.tL).mono (fun r i j=>by obtain⟨rfl,rfl⟩:=j;exact⟨rfl,h.N9 (nG d.lo t)⟩) (fun _ _ h=>h)
end Im
end Go.Proofs.YtknalmoackcpbaaGreat
namespace Go.Proofs.YtknalmoackcpbaaGreat
namespace Im
open Go Go.AW
open Sg (aD bL)
open Pl (sV)
def nD (T:SR) (t:Nat) (p:Nat×List Int):SR:=T.modify t fun x=>(x.1,x.2++ [p])
def cJ (T:SR):List (List (List Int)):=T.map fun x=>x.2.map (·.2)
theorem lJ (T:SR) (t:Nat) (p:Nat×List Int):cJ (nD T t p)=(cJ T).modify t (· ++ [p.2]):=by
 unfold cJ nD;induction T generalizing t with
 |nil=>cases t<;>rfl
 |cons x r h=>
  cases t with
  |zero=>simp
  |succ t=>simpa using h t
theorem KF (T:SR) (t:Nat) (p:Nat×List Int):(nD T t p).map (·.1)=T.map (·.1):=by
 unfold nD;induction T generalizing t with
 |nil=>cases t<;>rfl
 |cons x r h=>
  cases t with
  |zero=>simp
  |succ t=>simpa using h t
theorem KE (T:SR) {t:Nat}(p:Nat×List Int) (ht:t<T.length):((nD T t p).flatMap fun x=>x.2.map (·.1)).Perm (p.1::T.flatMap fun x=>x.2.map (·.1)):=by
 unfold nD;induction T generalizing t with
 |nil=>simp at ht
 |cons x r h=>
  cases t with
  |zero=>simp
  |succ t=>have:=h (t:=t) (by simpa using ht);simp only[List.modify_succ_cons,List.flatMap_cons];exact(List.Perm.append_left _ this).trans List.perm_middle
theorem CK {T:SR}{t:Nat}{p:Nat×List Int}{x:Nat×List (Nat×List Int)}(i:x∈nD T t p):(∃j,j≠t∧T[j]? =some x)∨ ∃y,T[t]? =some y∧x=(y.1,y.2++ [p]):=by
 obtain⟨j,h,rfl⟩:=List.getElem_of_mem i;simp only[nD,List.length_modify]at h;simp only[nD,List.getElem_modify];split
 ·rename_i e;subst e;exact .inr ⟨T[t],by simp[h],rfl⟩
 ·rename_i e;exact .inl ⟨j,fun l=>e l.symm,by simp[h]⟩
theorem M1 {T:SR}{t:Nat}{p:Nat×List Int}{x:Nat×List (Nat×List Int)}(ht:T[t]? =some x):(nD T t p).map Ba=(T.map Ba).set t (Ba (x.1,x.2++ [p])):=by
 obtain⟨h1,h⟩:=List.getElem?_eq_some_iff.1 ht;apply List.ext_getElem
 ·simp[nD]
 ·intro j a b;simp only[nD,List.getElem_map,List.getElem_modify,List.getElem_set];split
  ·rename_i e;subst e;rw[h]
  ·rfl
variable {k:SK} {g:bZ} {d:SD} {T:SR} {B τ:AS}
theorem SI.Rf (h:SI k g d T B τ) {i:Nat}(j:τ i=none):¬i∈keys k T:=by
 intro n;simp only[keys,List.mem_cons,List.mem_append,List.mem_map,List.mem_flatMap]at n;rcases n with rfl|rfl|rfl|rfl|rfl|rfl|rfl|⟨x,l,rfl⟩|⟨x,l,p,o,rfl⟩
 ·rw[h.aT]at j;cases j
 ·rw[h.bq]at j;cases j
 ·rw[h.tS]at j;cases j
 ·rw[h.tL]at j;cases j
 ·rw[h.tN]at j;cases j
 ·rw[h.tB]at j;cases j
 ·rw[h.tC]at j;cases j
 ·rw[h.Ib x l]at j;cases j
 ·rw[h.row x l p o]at j;cases j
theorem SI.kG (h:SI k g d T B τ):(T.map (·.1)++T.flatMap fun x=>x.2.map (·.1)).Nodup:=by have:=h.nd;simp only[keys,List.nodup_cons]at this;exact this.2.2.2.2.2.2.2
theorem SI.uw (h:SI k g d T B τ) {t i:Nat}{vals:List Int}(ht:t<6) (hi:τ i=none) (hb:∀x∈T,x.2.length≤100000):
 aa Tryz.prog 59 [.ptr k.aT 0,.sc (.int .i64 t),.fT i 0 vals.length vals.length] (τ.set i (.cells 3 (vals.map aV))) (fun r τ'=>r= .bQ []∧SI k g d (nD T t (i,vals)) B τ') No:=by
 have Z:B i=none:=by
  cases M:B i with
  |none=>rfl
  |some y=>have:=h.le i y M;rw[hi]at this;cases this
 have H:=h.own (b:= .cells 3 (vals.map aV)) hi;have P:=h.Rf hi;obtain⟨u,S,V,U,Y,X,w,E,D,G,F,_⟩:=h.ne;have M:T[t]? =some (T[t]'(by rw[h.EO];exact ht)):=List.getElem?_eq_getElem _;have n:T[t]'(by rw[h.EO];exact ht)∈T:=List.getElem_mem _;generalize T[t]'(by rw[h.EO];exact ht)=x at M n;obtain⟨x0,x1,x2,x3,x4,x5,x6⟩:=h.NX n;have hR:(T.map Ba)[t]? =some (.an 44 (x.2.map HL) (.tok x.1) (decide (x.2= []))):=by rw[List.getElem?_map,M];rfl
 have ac:i≠k.bq:=fun e=>P (by simp[keys,e]);have ab:i≠x.1:=fun e=>P (by simp only[keys,List.mem_cons,List.mem_append,List.mem_map];exact .inr (.inr (.inr (.inr (.inr (.inr (.inr (.inl ⟨x,n,e.symm⟩))))))));refine(Lj t i vals.length (x.2.map HL) (T.map Ba) k.aT k.bq x.1 _ _ _ _ _ _ _ _ _ _ _ _ _ (by simpa using hb x n) (by simpa using h.EO) _ H.aT H.bq hR (by simpa using H.Ib x n)).mono (fun r τ' hr=> ?_) (fun _ _ h=>h);obtain⟨rfl,rfl⟩:=hr;refine⟨rfl,?_⟩;have J:∀j,j≠k.bq→j≠x.1→(((τ.set i (.cells 3 (vals.map aV))).set k.bq (.cells 94 ((T.map Ba).set t (.an 44 (x.2.map HL++ [.fT i 0 vals.length vals.length]) (.tok x.1) false)))).set x.1 (.tok ((x.2.map HL).length+1))) j=(τ.set i (.cells 3 (vals.map aV))) j:=
  fun j h1 L=>by rw[AS.ad _ _ L,AS.ad _ _ h1]
 have O:=List.nodup_append.1 h.kG;have I:(keys k (nD T t (i,vals))).Perm (i::keys k T):=by
  have h1:(T.map (·.1)++(nD T t (i,vals)).flatMap fun x=>x.2.map (·.1)).Perm (i::(T.map (·.1)++T.flatMap fun x=>x.2.map (·.1))):=
   (List.Perm.append_left _ (KE T (i,vals) (by rw[h.EO];exact ht))).trans List.perm_middle
  unfold keys;rw[KF];have L:∀ {A C:List Nat} (y:Nat),A.Perm (i::C)→(y::A).Perm (i::y::C):=fun y q=>(q.cons y).trans (List.Perm.swap _ _ _);exact L _ (L _ (L _ (L _ (L _ (L _ (L _ h1))))))
 refine⟨?_,?_,?_,?_,?_,?_,?_,fun y hy=> ?_,fun y hy p q=> ?_,fun j b v=> ?_,by simpa[nD]using h.EO,I.nodup_iff.2 (List.nodup_cons.2 ⟨P,h.nd⟩),fun j v=> ?_⟩
 ·rw[J _ u x0.symm];exact H.aT
 ·rw[AS.ad _ _ x1.symm,AS.aj,M1 M];simp[Ba,HL]
 ·rw[J _ w.symm x2.symm];exact H.tS
 ·rw[J _ E.symm x3.symm];exact H.tL
 ·rw[J _ D.symm x4.symm];exact H.tN
 ·rw[J _ G.symm x5.symm];exact H.tB
 ·rw[J _ F.symm x6.symm];exact H.tC
 ·rcases CK hy with⟨j,v,l⟩|⟨y',l,rfl⟩
  ·have o:y∈T:=List.mem_of_getElem? l;have al:y.1≠x.1:=by
    intro e;obtain⟨a1,a2⟩:=List.getElem?_eq_some_iff.1 l;obtain⟨b1,b2⟩:=List.getElem?_eq_some_iff.1 M;have q:=List.pairwise_iff_getElem.1 O.1;rcases Nat.lt_or_gt_of_ne v with Q|Q
    ·exact q j t (by simpa using a1) (by simpa using b1) Q (by simp[a2,b2,e])
    ·exact q t j (by simpa using b1) (by simpa using a1) Q (by simp[a2,b2,e])
   rw[J _ (h.NX o).2.1 al];exact H.Ib y o
  ·rw[M]at l;cases l;rw[AS.aj];simp
 ·have K:∀y∈T,∀p∈y.2,p.1≠k.bq∧p.1≠x.1:=fun y o p q=>⟨(h.Dr o q).2.1,fun e=>O.2.2 x.1 (List.mem_map.2 ⟨x,n,rfl⟩) p.1 (List.mem_flatMap.2 ⟨y,o,List.mem_map.2 ⟨p,q,rfl⟩⟩) e.symm⟩;rcases CK hy with⟨j,v,l⟩|⟨y',l,rfl⟩
  ·have o:y∈T:=List.mem_of_getElem? l;rw[J _ (K y o p q).1 (K y o p q).2];exact H.row y o p q
  ·rw[M]at l;cases l;rcases List.mem_append.1 q with q|q
   ·rw[J _ (K x n p q).1 (K x n p q).2];exact H.row x n p q
   ·simp at q;subst q;rw[J _ ac ab,AS.aj];rfl
 ·have f1:=(h.NA).2.1;have f2:=h.fr x.1 (by simp only[keys,List.mem_cons,List.mem_append,List.mem_map];exact .inr (.inr (.inr (.inr (.inr (.inr (.inr (.inl ⟨x,n,rfl⟩))))))));rw[J _ (by rintro rfl;rw[f1]at v;cases v) (by rintro rfl;rw[f2]at v;cases v),AS.ad _ _ (by rintro rfl;rw[Z]at v;cases v)];exact h.le j b v
 ·rcases List.mem_cons.1 (I.mem_iff.1 v)with rfl|v
  ·exact Z
  ·exact h.fr j v
end Im
end Go.Proofs.YtknalmoackcpbaaGreat
