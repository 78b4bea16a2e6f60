/- ImageBack: what is saved is loaded to what it was. No condition. -/
import Derived.Test.YtknalmoackcpbaaGreatIm7
set_option maxRecDepth 100000
set_option maxHeartbeats 3200000
set_option linter.all false
namespace Go.Proofs.YtknalmoackcpbaaGreat
open Go Go.AW Go.ChangeShapes Go.WideShapes Go.ChangeAt Go.RowKit
theorem own:ownKnob Tryz.prog.godebug=none:=by kernel_rfl
theorem laidOut:laidOutB Tryz.prog=true:=by kernel_rfl
theorem KB {k:Nat}{cs:List AV}(h:dq Tryz.prog (k+1) 9 cs):∃l:List UInt8,lr Tryz.prog 9 cs= .sc (.string ⟨l.toArray⟩)∧l.length≤140737488355328:=by
 obtain⟨s,e,d⟩:=arg_str Tryz.underlying9 h;have:s.data.toList.length=s.size:=by simp
 simp[reachBytes]at d;exact⟨s.data.toList,by rw[e],by omega⟩
theorem mm {k:Nat}{c:AV}(h:dq Tryz.prog (k+1) 3 [c]):∃n,c= .sc (.int .i64 n):=by obtain⟨n,e,_⟩:=FU Tryz.underlying3 h;exact⟨n,by simpa[lr,AW.isAgg,Tryz.underlying3]using e⟩
theorem HA {k:Nat}{c:AV}(h:dq Tryz.prog (k+1) 4 [c]):∃n,c= .sc (.bool n):=by obtain⟨n,e⟩:=KC Tryz.underlying4 h;exact⟨n,by simpa[lr,AW.isAgg,Tryz.underlying4]using e⟩
theorem uv {k:Nat}{c:AV}(h:dq Tryz.prog (k+1) 9 [c]):∃l:List UInt8,c= .sc (.string ⟨l.toArray⟩)∧l.length≤140737488355328:=by obtain⟨n,e,hl⟩:=KB h;exact⟨n,by simpa[lr,AW.isAgg,Tryz.underlying9]using e,hl⟩
theorem Eh {k:Nat}{cs:List AV}(h:dq Tryz.prog (k+2) 49 cs):∃t:Ty,cs= [.sc (.int .i64 t.kind),.sc (.int .i64 t.index),.sc (.int .i64 t.bt),.sc (.bool t.ref)]:=by
 simp[-Bool.exists_bool,dq,Tryz.underlying49,Tryz.underlying4,Tryz.underlying3]at h;obtain⟨hlen,⟨a,l,_⟩,⟨b,j,_⟩,⟨c,i,_⟩,⟨d,g⟩⟩:=h
 match cs,hlen with
 |[x,y,z,w],_ =>simp at l j i g;subst l j i g;exact⟨⟨a,b,c,d⟩,rfl⟩
theorem FT {k:Nat}{cs:List AV}(h:dq Tryz.prog (k+2) 49 cs):∃t:Ty,lr Tryz.prog 49 cs=cr t:=by obtain⟨t,rfl⟩:=Eh h;exact⟨t,by simp[lr,AW.isAgg,cr,Tryz.underlying49]⟩
theorem MW {k:Nat}{cs:List AV}(h:dq Tryz.prog (k+3) 110 cs):∃x: { x:db//Cd.fY x },lr Tryz.prog 110 cs=aJ x.1:=by
 have hlen:cs.length=6:=by simp only[dq,Tryz.underlying110]at h;exact h.1
 match cs,hlen with
 |[x,y,z,w,u,v],_ =>simp[-Bool.exists_bool,dq,Tryz.underlying110,Tryz.underlying49,Tryz.underlying4,Tryz.underlying3,Tryz.underlying2]at h;obtain⟨⟨a,q,_⟩,⟨b,o,g⟩,⟨c,n,_⟩,⟨d,l,_⟩,⟨e,j,_⟩,⟨f,i⟩⟩:=h;simp[Lit.wf,IntKind.min,IntKind.max,IntKind.signed,IntKind.bits]at g;subst q o n l j i;exact⟨⟨⟨a,b,⟨c,d,e,f⟩⟩,by unfold Cd.fY;simp;omega⟩,by simp[lr,AW.isAgg,aJ,Tryz.underlying110]⟩
theorem Ei {k:Nat}{cs:List AV}(h:dq Tryz.prog (k+3) 158 cs):∃c:Rg.Cl,lr Tryz.prog 158 cs=Rg.ic c:=by
 have hlen:cs.length=10:=by simp only[dq,Tryz.underlying158]at h;exact h.1
 match cs,hlen with
 |[V,U,T,S,Q,P,O,M,L,i],_ =>simp[-Bool.exists_bool,dq,Tryz.underlying158,Tryz.underlying49,Tryz.underlying4,Tryz.underlying3]at h;obtain⟨⟨K,y,_⟩,⟨J,w,_⟩,⟨I,v,_⟩,⟨H,u,_⟩,⟨G,q,_⟩,⟨F,o,_⟩,⟨E,n,_⟩,⟨D,l,_⟩,⟨A,j,_⟩,⟨g,d⟩⟩:=h;subst y w v u q o n l j d;exact⟨⟨K,J,I,H,G,F,E,D,A,g⟩,by simp[lr,AW.isAgg,Rg.aW,Tryz.underlying158]⟩
theorem Py {k:Nat}{cs:List AV}(h:dq Tryz.prog (k+3) 46 cs):∃t: { t:Im.TD//t.aZ.length≤140737488355328∧t.name.length≤140737488355328 },lr Tryz.prog 46 cs=Im.kE t.1:=by
 have hlen:cs.length=4:=by rw[dq]at h;simp only[Tryz.underlying46]at h;exact h.1
 match cs,hlen with
 |[w,v,u,q],_ =>rw[dq]at h;simp only[Tryz.underlying46]at h;have h1:=h.2;simp at h1;obtain⟨h1,o,j,i⟩:=h1;obtain⟨n,rfl,d⟩:=uv h1;obtain⟨a,rfl⟩:=mm o;obtain⟨b,rfl⟩:=mm j;obtain⟨l,nl,e,_,hl⟩:=kQ Im.iV Tryz.underlying44 (fun c g=>(by obtain⟨n,e,_⟩:=FU Tryz.underlying3 g;exact⟨n,e⟩)) i;simp[lr,AW.isAgg,Tryz.underlying44]at e;simp[reachBytes]at hl;subst e;exact⟨⟨⟨n,a,b,l,nl⟩,(by simp;omega),d⟩,by simp[lr,AW.isAgg,Im.eu,Tryz.underlying46]⟩
theorem PB {k:Nat}{cs:List AV}(h:dq Tryz.prog (k+3) 56 cs):∃t: { t:Im.Fd//t.name.length≤140737488355328 },lr Tryz.prog 56 cs=Im.ny t.1:=by
 have hlen:cs.length=7:=by rw[dq]at h;simp only[Tryz.underlying56]at h;exact h.1
 match cs,hlen with
 |[y,w,v,u,q,o,l],_ =>rw[dq]at h;simp only[Tryz.underlying56]at h;have h1:=h.2;simp at h1;obtain⟨h1,j,i,g⟩:=h1;obtain⟨n,rfl,d⟩:=uv h1;obtain⟨a,rfl⟩:=mm j;obtain⟨t,e⟩:=Eh i;obtain⟨b,rfl⟩:=HA g;simp at e;obtain⟨rfl,rfl,rfl,rfl⟩:=e;exact⟨⟨⟨n,a,t,b⟩,d⟩,by simp[lr,AW.isAgg,Im.kD,Tryz.underlying56]⟩
theorem Pz {k:Nat}{cs:List AV}(h:dq Tryz.prog (k+5) 53 cs):∃t: { t:Im.Mt//Im.Qg t∧ ∀x∈t.code,Cd.fY x },lr Tryz.prog 53 cs=Im.jK t.1:=by
 have hlen:cs.length=12:=by rw[dq]at h;simp only[Tryz.underlying53]at h;exact h.1
 match cs,hlen with
 |[x1,x2,x3,Z,Y,X,V,U,T,v,u,q],_ =>rw[dq]at h;simp only[Tryz.underlying53]at h;have h1:=h.2;simp at h1;obtain⟨h1,P,O,M,L,K,J,I,H⟩:=h1;obtain⟨n,rfl,G⟩:=uv h1;obtain⟨a,rfl⟩:=mm P;obtain⟨b,rfl⟩:=mm O;obtain⟨ps,pn,o,_,E⟩:=kQ cr Tryz.underlying47 (fun c d=>FT d) M;obtain⟨t,l⟩:=Eh L;obtain⟨ls,ln,j,_,D⟩:=kQ cr Tryz.underlying47 (fun c d=>FT d) K;obtain⟨mx,rfl⟩:=mm J;obtain⟨S,cn,i,_,A⟩:=kQ (fun x: { x:db//Cd.fY x } =>aJ x.1) Tryz.underlying50 (fun c d=>MW d) I;obtain⟨Q,xn,g,_,w⟩:=kQ Rg.ic Tryz.underlying51 (fun c d=>Ei d) H;simp[lr,AW.isAgg,Tryz.underlying47]at o j;simp[lr,AW.isAgg,Tryz.underlying50]at i;simp[lr,AW.isAgg,Tryz.underlying51]at g;simp at l;simp[reachBytes]at E D A w;obtain⟨rfl,rfl,rfl,rfl⟩:=l;subst o j i g;refine⟨⟨⟨n,a,b,ps,pn,t,ls,ln,mx,S.map (·.1),cn,Q,xn⟩,⟨G,by simp;omega,by simp;omega,by simp;omega,by simp;omega⟩,fun x F=> ?_⟩,by simp[lr,AW.isAgg,Im.cY,Tryz.underlying53]⟩;obtain⟨y,_,rfl⟩:=List.mem_map.1 F;exact y.2
theorem PA {k:Nat}{cs:List AV}(h:dq Tryz.prog (k+7) 26 cs):∃g:Im.bZ,lr Tryz.prog 26 cs=Im.pD g∧Im.KW g∧ ∀m∈g.ms,∀x∈m.code,Cd.fY x:=by
 have hlen:cs.length=4:=by rw[dq]at h;simp only[Tryz.underlying26]at h;exact h.1
 match cs,hlen with
 |[G,F,E,D],_ =>
  rw[dq]at h;simp only[Tryz.underlying26]at h;have h1:=h.2;simp at h1;obtain⟨h1,A,w,v⟩:=h1;obtain⟨ts,tn,l,_,u⟩:=kQ (fun t: { t:Im.TD//t.aZ.length≤140737488355328∧t.name.length≤140737488355328 } =>Im.kE t.1) Tryz.underlying22 (fun c d=>Py d) h1;obtain⟨fs,fn,j,_,q⟩:=kQ (fun t: { t:Im.Fd//t.name.length≤140737488355328 } =>Im.ny t.1) Tryz.underlying23 (fun c d=>PB d) A;obtain⟨ms,mn,i,_,o⟩:=kQ (fun t: { t:Im.Mt//Im.Qg t∧ ∀x∈t.code,Cd.fY x } =>Im.jK t.1) Tryz.underlying24 (fun c d=>Pz d) w;obtain⟨n,rfl⟩:=mm v;simp[lr,AW.isAgg,Tryz.underlying22]at l;simp[lr,AW.isAgg,Tryz.underlying23]at j;simp[lr,AW.isAgg,Tryz.underlying24]at i;simp[reachBytes]at u q o;subst l j i;refine⟨⟨ts.map (·.1),tn,fs.map (·.1),fn,ms.map (·.1),mn,n⟩,by simp[lr,AW.isAgg,Im.b9,Tryz.underlying26],⟨by simp;omega,by simp;omega,by simp;omega,fun t ht=> ?_,fun t ht=> ?_,fun t ht=> ?_⟩,fun t ht=> ?_⟩;all_goals
   obtain⟨y,_,rfl⟩:=List.mem_map.1 ht
  ·exact y.2
  ·exact y.2
  ·exact y.2.1
  ·exact y.2.2
theorem vd (os:Os) {H:Type}(enc:TypeId×Value→H):∃d,DataW.whole enc Tryz.prog ((World.holding Tryz.prog os ⟨#[],#[Value.agg #[.slice none 0 0,.slice none 0 0,.slice none 0 0,.int .i64 0]],[]⟩).forCall (fun _ _ =>0) ⟨#[],#[Value.agg #[.slice none 0 0,.slice none 0 0,.slice none 0 0,.int .i64 0]],[]⟩).memory Tryz.f5.params.toList Rows.imageBackSpec.vars false #[Value.agg #[.slice none 0 0,.slice none 0 0,.slice none 0 0,.int .i64 0]].toList 8=some ([.agg [.nil,.nil,.nil,.lit (.int .i64 0)]],[],d):=
 ⟨[],by kernel_rfl⟩
theorem rM (H:Type) (enc:TypeId×Value→H) (W:World) (base:Nat) (args:Array Value) (ds gs:List (DataW H)) (before:List MemPlace)
 (d:∀(j:Nat) t v,Tryz.f5.params[j]? =some t→args[j]? =some v→Value.okWide Tryz.prog W .any base t v)
 (l:DataW.Whole enc Tryz.prog Tryz.f5.params.toList Rows.imageBackSpec.vars false W args.toList ds gs before)
 (i:(DataW.weightsEach Tryz.prog (Tryz.f5.params.toList++Rows.imageBackSpec.plain.varTypes Tryz.prog) (ds++gs)).all (· ≤reachBytes)=true):
 Calls Tryz.prog 5 args W fun e u=> ∃v,e= .returned v∧Rows.imageBackSpec.post enc Tryz.prog Tryz.f5 false true false false W args v u:=by
 refine z5 (P:=Tryz.prog) (fn:=Tryz.f5) (k:=7) (ts:= [26]) (tb:=4) (s:=Rows.imageBackSpec) laidOut (by kernel_rfl) (by kernel_rfl) (by kernel_rfl) rfl Tryz.underlying4 rfl (fun ds h=> ?_) (fun vs h=> ?_) d l i
 ·match ds,h with
  |[d1],_ =>rfl
 ·obtain⟨w,r,rfl,h1,h⟩:=h.inv;obtain rfl:=h.UM;obtain⟨g,q,n,o⟩:=PA h1;rw[q];exact Im.z9 g n o
theorem ua (os:Os) (started:os.Started) (H:Type) (enc:TypeId×Value→H) (F:Stop.Interp):
 ReturnsInHanded {} Tryz.checked os 5 .any ((OpenSpec.ofChange Rows.imageBackSpec).preRow enc Tryz.prog Tryz.f5 Rows.imageBackRow.domain false Rows.imageBackRow.laid)
  (((OpenSpec.ofChange Rows.imageBackSpec).at F).post enc Tryz.prog Tryz.f5 false true false false):=by
 obtain⟨g,j⟩:=vd os enc;refine returnsInHanded_of_row (C:=Tryz.checked) (s:=OpenSpec.ofChange Rows.imageBackSpec) own started (by kernel_rfl) Tryz.func5
  (witness_row_at (enc:=enc) (C:=Tryz.checked) false (World.holding Tryz.prog os ⟨#[],#[Value.agg #[.slice none 0 0,.slice none 0 0,.slice none 0 0,.int .i64 0]],[]⟩) #[Value.agg #[.slice none 0 0,.slice none 0 0,.slice none 0 0,.int .i64 0]] rfl (by kernel_rfl) (by kernel_rfl) (by kernel_rfl)
   (OpenSpec.preRow_of_cond 8 j (by kernel_rfl) (fun k l=>by cases l) (by kernel_rfl) (show laidMetH Tryz.prog [] _ from⟨[],rfl,List.nodup_nil,fun _ _ h=>by cases h⟩))) ?_
 intro W base args ds gs before d n _ _ i _ _ _;exact rM H enc W base args ds gs before d n i
theorem imageBack_holds:Rows.ImageBackSaid:=
 OpenClaim.holds_of_cond 5 Tryz.f5 rfl rfl rfl rfl rfl rfl rfl ⟨rfl,rfl,rfl,rfl,rfl⟩ rfl rfl rfl rfl rfl Fm.named Tryz.func5 Fm.OW
  (of_decide_eq_true (by kernel_rfl)) (by unfold Func.isWrapper;first|(rw[if_pos (by decide+kernel)];kernel_rfl)|(rw[if_neg (by decide+kernel)];exact⟨rfl,rfl⟩))
  (fun os started H enc _ F=>by rw[OpenClaim.pre_eq_preRow];exact ua os started H enc F)
end Go.Proofs.YtknalmoackcpbaaGreat
