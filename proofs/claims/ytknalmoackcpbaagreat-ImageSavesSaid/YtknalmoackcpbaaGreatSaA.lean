/- ImageSaves: any image has the bytes that the document says, or is refused; it stays as it was. No condition. -/
import Derived.Test.YtknalmoackcpbaaGreatRtT
set_option maxRecDepth 100000
set_option maxHeartbeats 3200000
set_option linter.all false
open Go Go.AW Go.RowKit
namespace Go.Proofs.YtknalmoackcpbaaGreat
open Go.ChangeShapes Go.WideShapes Go.ChangeAt
theorem own:ownKnob Tryz.prog.godebug=none:=by kernel_rfl
theorem laidOut:laidOutB Tryz.prog=true:=by kernel_rfl
theorem IN {k:Nat}{cs:List AV}(h:dh Tryz.prog (k+1) 9 cs):∃l:zY,jY Tryz.prog 9 cs=zS l∧l.length<=140737488355328:=by
 obtain⟨s,e,j⟩:=arg_str Tryz.underlying9 h;have:s.data.toList.length=s.size:=by simp
 simp[reachBytes]at j;exact⟨s.data.toList,by rw[e],by omega⟩
theorem kL {k:Nat}{c:AV}(h:dh Tryz.prog (k+1) 3 [c]):∃n,c=zI n:=by obtain⟨n,e,_⟩:=D7 Tryz.underlying3 h;exact⟨n,by simpa[jY,AW.isAgg,Tryz.underlying3]using e⟩
theorem FQ {k:Nat}{c:AV}(h:dh Tryz.prog (k+1) 4 [c]):∃n,c=zB n:=by obtain⟨n,e⟩:=IP Tryz.underlying4 h;exact⟨n,by simpa[jY,AW.isAgg,Tryz.underlying4]using e⟩
theorem sj {k:Nat}{c:AV}(h:dh Tryz.prog (k+1) 9 [c]):∃l:zY,c=zS l∧l.length<=140737488355328:=by obtain⟨n,e,hl⟩:=IN h;exact⟨n,by simpa[jY,AW.isAgg,Tryz.underlying9]using e,hl⟩
theorem CI {k:Nat}{cs:List AV}(h:dh Tryz.prog (k+2) 49 cs):∃t:Ty,cs= [zI t.kind,zI t.index,zI t.cT,.sc (.bool t.ref)]:=by
 simp[-Bool.exists_bool,dh,Tryz.underlying49,Tryz.underlying4,Tryz.underlying3]at h;obtain⟨hlen,⟨a,o,_⟩,⟨b,n,_⟩,⟨c,l,_⟩,⟨d,j⟩⟩:=h
 match cs,hlen with
 |[x,y,z,w],_ =>simp at o n l j;subst o n l j;exact⟨⟨a,b,c,d⟩,rfl⟩
theorem D6 {k:Nat}{cs:List AV}(h:dh Tryz.prog (k+2) 49 cs):∃t:Ty,jY Tryz.prog 49 cs=cB t:=by obtain⟨t,rfl⟩:=CI h;exact⟨t,by simp[jY,AW.isAgg,cB,Tryz.underlying49]⟩
theorem K4 {k:Nat}{cs:List AV}(h:dh Tryz.prog (k+3) 110 cs):∃x: { x:dM//Cd.ez x },jY Tryz.prog 110 cs=bJ x.1:=by
 have hlen:cs.length=6:=by simp only[dh,Tryz.underlying110]at h;exact h.1
 match cs,hlen with
 |[x,y,z,w,u,v],_ =>simp[-Bool.exists_bool,dh,Tryz.underlying110,Tryz.underlying49,Tryz.underlying4,Tryz.underlying3,Tryz.underlying2]at h;obtain⟨⟨a,D,_⟩,⟨b,A,j⟩,⟨c,q,_⟩,⟨d,o,_⟩,⟨e,n,_⟩,⟨f,l⟩⟩:=h;simp[Lit.wf,IntKind.min,IntKind.max,IntKind.signed,IntKind.bits]at j;subst D A q o n l;exact⟨⟨⟨a,b,⟨c,d,e,f⟩⟩,by unfold Cd.ez;simp;omega⟩,by simp[jY,AW.isAgg,bJ,Tryz.underlying110]⟩
theorem CJ {k:Nat}{cs:List AV}(h:dh Tryz.prog (k+3) 158 cs):∃c:Rg.Cl,jY Tryz.prog 158 cs=Rg.jg c:=by
 have hlen:cs.length=10:=by simp only[dh,Tryz.underlying158]at h;exact h.1
 match cs,hlen with
 |[Z,Y,X,V,U,T,S,Q,P,n],_ =>simp[-Bool.exists_bool,dh,Tryz.underlying158,Tryz.underlying49,Tryz.underlying4,Tryz.underlying3]at h;obtain⟨⟨O,E,_⟩,⟨M,D,_⟩,⟨L,A,_⟩,⟨K,y,_⟩,⟨J,w,_⟩,⟨I,v,_⟩,⟨H,u,_⟩,⟨G,q,_⟩,⟨F,o,_⟩,⟨l,j⟩⟩:=h;subst E D A y w v u q o j;exact⟨⟨O,M,L,K,J,I,H,G,F,l⟩,by simp[jY,AW.isAgg,Rg.bw,Tryz.underlying158]⟩
theorem NJ {k:Nat}{cs:List AV}(h:dh Tryz.prog (k+3) 46 cs):∃t: { t:Im.TD//t.bO.length<=140737488355328∧t.name.length<=140737488355328 },jY Tryz.prog 46 cs=Im.jD t.1:=by
 have hlen:cs.length=4:=by rw[dh]at h;simp only[Tryz.underlying46]at h;exact h.1
 match cs,hlen with
 |[A,y,w,v],_ =>rw[dh]at h;simp only[Tryz.underlying46]at h;have h1:=h.2;simp at h1;obtain⟨h1,u,q,o⟩:=h1;obtain⟨n,rfl,hn⟩:=sj h1;obtain⟨a,rfl⟩:=kL u;obtain⟨b,rfl⟩:=kL q;obtain⟨l,nl,e,_,hl⟩:=jA Im.iV Tryz.underlying44 (λc j=>(by obtain⟨n,e,_⟩:=D7 Tryz.underlying3 j;exact⟨n,e⟩)) o;simp[jY,AW.isAgg,Tryz.underlying44]at e;simp[reachBytes]at hl;subst e;exact⟨⟨⟨n,a,b,l,nl⟩,(by simp;omega),hn⟩,by simp[jY,AW.isAgg,Im.cK,Tryz.underlying46]⟩
theorem NN {k:Nat}{cs:List AV}(h:dh Tryz.prog (k+3) 56 cs):∃t: { t:Im.Fd//t.name.length<=140737488355328 },jY Tryz.prog 56 cs=Im.lu t.1:=by
 have hlen:cs.length=7:=by rw[dh]at h;simp only[Tryz.underlying56]at h;exact h.1
 match cs,hlen with
 |[D,A,y,w,v,u,q],_ =>rw[dh]at h;simp only[Tryz.underlying56]at h;have h1:=h.2;simp at h1;obtain⟨h1,o,l,j⟩:=h1;obtain⟨n,rfl,hn⟩:=sj h1;obtain⟨a,rfl⟩:=kL o;obtain⟨t,e⟩:=CI l;obtain⟨b,rfl⟩:=FQ j;simp at e;obtain⟨rfl,rfl,rfl,rfl⟩:=e;exact⟨⟨⟨n,a,t,b⟩,hn⟩,by simp[jY,AW.isAgg,Im.dq,Tryz.underlying56]⟩
theorem NK {k:Nat}{cs:List AV}(h:dh Tryz.prog (k+5) 53 cs):∃t: { t:Im.Mt//Im.Mk t∧(∀x∈t.code,Cd.ez x)∧((t.cn=true->t.code= [])∧(t.ln=true->t.ls= [])) },jY Tryz.prog 53 cs=Im.fM t.1:=by
 have hlen:cs.length=12:=by rw[dh]at h;simp only[Tryz.underlying53]at h;exact h.1
 match cs,hlen with
 |[x1,x2,x3,x4,x5,x6,Z,Y,X,D,A,w],_ =>rw[dh]at h;simp only[Tryz.underlying53]at h;have h1:=h.2;simp at h1;obtain⟨h1,U,T,S,Q,P,O,M,L⟩:=h1;obtain⟨n,rfl,hn⟩:=sj h1;obtain⟨a,rfl⟩:=kL U;obtain⟨b,rfl⟩:=kL T;obtain⟨ps,pn,v,_,J⟩:=jA cB Tryz.underlying47 (λc j=>D6 j) S;obtain⟨t,u⟩:=CI Q;obtain⟨ls,ln,q,F,I⟩:=jA cB Tryz.underlying47 (λc j=>D6 j) P;obtain⟨mx,rfl⟩:=kL O;obtain⟨V,cn,o,E,H⟩:=jA (λx: { x:dM//Cd.ez x } =>bJ x.1) Tryz.underlying50 (λc j=>K4 j) M;obtain⟨cl,xn,l,_,G⟩:=jA Rg.jg Tryz.underlying51 (λc j=>CJ j) L;simp[jY,AW.isAgg,Tryz.underlying47]at v q;simp[jY,AW.isAgg,Tryz.underlying50]at o;simp[jY,AW.isAgg,Tryz.underlying51]at l;simp at u;simp[reachBytes]at J I H G;obtain⟨rfl,rfl,rfl,rfl⟩:=u;subst v q o l;refine⟨⟨⟨n,a,b,ps,pn,t,ls,ln,mx,V.map (·.1),cn,cl,xn⟩,⟨hn,by simp;omega,by simp;omega,by simp;omega,by simp;omega⟩,λx K=> ?_,λh=>by simp[E h],F⟩,by simp[jY,AW.isAgg,Im.aT,Tryz.underlying53,Function.comp_def]⟩;obtain⟨y,_,rfl⟩:=List.mem_map.1 K;exact y.2
theorem NL {k:Nat}{cs:List AV}(h:dh Tryz.prog (k+7) 26 cs):∃g:Im.bZ,jY Tryz.prog 26 cs=Im.lp g∧Im.Lm g∧(∀m∈g.ms,∀x∈m.code,Cd.ez x)∧ ∀m∈g.ms,(m.cn=true->m.code= [])∧(m.ln=true->m.ls= []):=by
 have hlen:cs.length=4:=by rw[dh]at h;simp only[Tryz.underlying26]at h;exact h.1
 match cs,hlen with
 |[I,H,G,F],_ =>
  rw[dh]at h;simp only[Tryz.underlying26]at h;have h1:=h.2;simp at h1;obtain⟨h1,E,D,A⟩:=h1;obtain⟨ts,tn,q,_,w⟩:=jA (λt: { t:Im.TD//t.bO.length<=140737488355328∧t.name.length<=140737488355328 } =>Im.jD t.1) Tryz.underlying22 (λc j=>NJ j) h1;obtain⟨fs,fn,o,_,v⟩:=jA (λt: { t:Im.Fd//t.name.length<=140737488355328 } =>Im.lu t.1) Tryz.underlying23 (λc j=>NN j) E;obtain⟨ms,mn,l,_,u⟩:=jA (λt: { t:Im.Mt//Im.Mk t∧(∀x∈t.code,Cd.ez x)∧((t.cn=true->t.code= [])∧(t.ln=true->t.ls= [])) } =>Im.fM t.1) Tryz.underlying24 (λc j=>NK j) D;obtain⟨n,rfl⟩:=kL A;simp[jY,AW.isAgg,Tryz.underlying22]at q;simp[jY,AW.isAgg,Tryz.underlying23]at o;simp[jY,AW.isAgg,Tryz.underlying24]at l;simp[reachBytes]at w v u;subst q o l;refine⟨⟨ts.map (·.1),tn,fs.map (·.1),fn,ms.map (·.1),mn,n⟩,by simp[jY,AW.isAgg,Im.aN,Tryz.underlying26,Function.comp_def],⟨by simp;omega,by simp;omega,by simp;omega,λt ht=> ?_,λt ht=> ?_,λt ht=> ?_⟩,λt ht=> ?_,λt ht=> ?_⟩;all_goals
   obtain⟨y,_,rfl⟩:=List.mem_map.1 ht
  .exact y.2
  .exact y.2
  .exact y.2.1
  .exact y.2.2.1
  .exact y.2.2.2
theorem rU (os:Os) {H:Type}(enc:TypeId×Value->H):∃j,DataW.whole enc Tryz.prog ((World.holding Tryz.prog os ⟨#[],#[Value.agg #[.slice none 0 0,.slice none 0 0,.slice none 0 0,.int .i64 0]],[]⟩).forCall (λ_ _ =>0) ⟨#[],#[Value.agg #[.slice none 0 0,.slice none 0 0,.slice none 0 0,.int .i64 0]],[]⟩).memory Tryz.f4.params.toList Rows.imageSavesSpec.vars false #[Value.agg #[.slice none 0 0,.slice none 0 0,.slice none 0 0,.int .i64 0]].toList 8=some ([.agg [.nil,.nil,.nil,.lit (.int .i64 0)]],[],j):=
 ⟨[],by kernel_rfl⟩
theorem pz (H:Type) (enc:TypeId×Value->H) (W:World) (base:Nat) (args:Array Value) (ds gs:List (DataW H)) (before:List MemPlace)
 (l:∀(j:Nat) t v,Tryz.f4.params[j]? =some t->args[j]? =some v->Value.okWide Tryz.prog W .any base t v)
 (o:DataW.Whole enc Tryz.prog Tryz.f4.params.toList Rows.imageSavesSpec.vars false W args.toList ds gs before)
 (n:(DataW.weightsEach Tryz.prog (Tryz.f4.params.toList++Rows.imageSavesSpec.plain.varTypes Tryz.prog) (ds++gs)).all (· <=reachBytes)=true):
 Calls Tryz.prog 4 args W λe y=> ∃v,e= .returned v∧Rows.imageSavesSpec.post enc Tryz.prog Tryz.f4 false true false false W args v y:=by
 refine yB (P:=Tryz.prog) (fn:=Tryz.f4) (k:=7) (ts:= [26]) (tb:=4) (s:=Rows.imageSavesSpec) laidOut (by kernel_rfl) (by kernel_rfl) (by kernel_rfl) rfl Tryz.underlying4 rfl (λds h=> ?_) (λvs h=> ?_) l o n
 .match ds,h with
  |[d1],_ =>rfl
 .obtain⟨A,r,rfl,h1,h⟩:=h.inv;obtain rfl:=h.Sx;obtain⟨g,w,q,u,hn⟩:=NL h1;rw[w];exact Im.wB g q u hn
theorem qL (os:Os) (started:os.Started) (H:Type) (enc:TypeId×Value->H) (F:Stop.Interp):
 ReturnsInHanded {} Tryz.checked os 4 .any ((OpenSpec.ofChange Rows.imageSavesSpec).preRow enc Tryz.prog Tryz.f4 Rows.imageSavesRow.domain false Rows.imageSavesRow.laid)
  (((OpenSpec.ofChange Rows.imageSavesSpec).at F).post enc Tryz.prog Tryz.f4 false true false false):=by
 obtain⟨l,o⟩:=rU os enc;refine returnsInHanded_of_row (C:=Tryz.checked) (s:=OpenSpec.ofChange Rows.imageSavesSpec) own started (by kernel_rfl) Tryz.func4
  (witness_row_at (enc:=enc) (C:=Tryz.checked) false (World.holding Tryz.prog os ⟨#[],#[Value.agg #[.slice none 0 0,.slice none 0 0,.slice none 0 0,.int .i64 0]],[]⟩) #[Value.agg #[.slice none 0 0,.slice none 0 0,.slice none 0 0,.int .i64 0]] rfl (by kernel_rfl) (by kernel_rfl) (by kernel_rfl)
   (OpenSpec.preRow_of_cond 8 o (by kernel_rfl) (λk q=>by cases q) (by kernel_rfl) (show laidMetH Tryz.prog [] _ from⟨[],rfl,List.nodup_nil,λ_ _ h=>by cases h⟩))) ?_
 intro W base args ds gs before j u _ _ n _ _ _;exact pz H enc W base args ds gs before j u n
theorem imageSaves_holds:Rows.ImageSavesSaid:=
 OpenClaim.holds_of_cond 4 Tryz.f4 rfl rfl rfl rfl rfl rfl rfl ⟨rfl,rfl,rfl,rfl,rfl⟩ rfl rfl rfl rfl rfl Fm.named Tryz.func4 Fm.Nd
  (of_decide_eq_true (by kernel_rfl)) (by unfold Func.isWrapper;first|(rw[if_pos (by decide+kernel)];kernel_rfl)|(rw[if_neg (by decide+kernel)];exact⟨rfl,rfl⟩))
  (λos started H enc _ F=>by rw[OpenClaim.pre_eq_preRow];exact qL os started H enc F)
end Go.Proofs.YtknalmoackcpbaaGreat
