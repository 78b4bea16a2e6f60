/- ImagePlain: what is loaded is formed; saved, if it isn't too long, it is loaded to the same. No condition. -/
import Derived.Test.YtknalmoackcpbaaGreatBk1
set_option maxRecDepth 100000
set_option maxHeartbeats 3200000
set_option linter.all false
open Go Go.AW Go.RowKit
namespace Go.Proofs.YtknalmoackcpbaaGreat
open Go.ChangeShapes Go.WideShapes Go.ChangeAt
theorem own:ownKnob Tryz.prog.godebug=none:=by kernel_rfl
theorem laidOut:laidOutB Tryz.prog=true:=by kernel_rfl
theorem tU (os:Os) {H:Type}(enc:TypeId×Value→H):∃d,DataW.whole enc Tryz.prog ((World.holding Tryz.prog os ⟨#[],#[Value.slice none 0 0],[]⟩).forCall (fun _ _ =>0) ⟨#[],#[Value.slice none 0 0],[]⟩).memory Tryz.f6.params.toList Rows.imagePlainSpec.vars false #[Value.slice none 0 0].toList 8=some ([.nil],[],d):=
 ⟨[],by kernel_rfl⟩
theorem qU (H:Type) (enc:TypeId×Value→H) (W:World) (base:Nat) (args:Array Value) (ds gs:List (DataW H)) (before:List MemPlace)
 (d:∀(j:Nat) t v,Tryz.f6.params[j]? =some t→args[j]? =some v→Value.okWide Tryz.prog W .any base t v)
 (n:DataW.Whole enc Tryz.prog Tryz.f6.params.toList Rows.imagePlainSpec.vars false W args.toList ds gs before)
 (g:(DataW.weightsEach Tryz.prog (Tryz.f6.params.toList++Rows.imagePlainSpec.plain.varTypes Tryz.prog) (ds++gs)).all (· ≤reachBytes)=true):
 Calls Tryz.prog 6 args W fun e q=> ∃v,e= .returned v∧Rows.imagePlainSpec.post enc Tryz.prog Tryz.f6 false true false false W args v q:=by
 refine Ax (P:=Tryz.prog) (fn:=Tryz.f6) (k:=4) (ts:= [30]) (tb:=4) (s:=Rows.imagePlainSpec) laidOut (by kernel_rfl) (by kernel_rfl) (by kernel_rfl) rfl Tryz.underlying4 rfl (fun ds h=> ?_) (fun vs h=> ?_) d n g
 ·match ds,h with
  |[d1],_ =>rfl
 ·obtain⟨u,r,rfl,h1,h⟩:=h.inv;obtain rfl:=h.V6;obtain⟨l,nl,o,i,hl⟩:=Ie Tryz.underlying30 Tryz.underlying5 h1;rw[o];simp[reachBytes]at hl;exact Im.yu l nl i (by omega)
theorem sj (os:Os) (started:os.Started) (H:Type) (enc:TypeId×Value→H) (F:Stop.Interp):
 ReturnsInHanded {} Tryz.checked os 6 .any ((OpenSpec.ofChange Rows.imagePlainSpec).preRow enc Tryz.prog Tryz.f6 Rows.imagePlainRow.domain false Rows.imagePlainRow.laid)
  (((OpenSpec.ofChange Rows.imagePlainSpec).at F).post enc Tryz.prog Tryz.f6 false true false false):=by
 obtain⟨g,j⟩:=tU os enc;refine returnsInHanded_of_row (C:=Tryz.checked) (s:=OpenSpec.ofChange Rows.imagePlainSpec) own started (by kernel_rfl) Tryz.func6
  (witness_row_at (enc:=enc) (C:=Tryz.checked) false (World.holding Tryz.prog os ⟨#[],#[Value.slice none 0 0],[]⟩) #[Value.slice none 0 0] rfl (by kernel_rfl) (by kernel_rfl) (by kernel_rfl)
   (OpenSpec.preRow_of_cond 8 j (by kernel_rfl) (fun k l=>by cases l) (by kernel_rfl) (show laidMetH Tryz.prog [] _ from⟨[],rfl,List.nodup_nil,fun _ _ h=>by cases h⟩))) ?_
 intro W base args ds gs before d n _ _ i _ _ _;exact qU H enc W base args ds gs before d n i
theorem imagePlain_holds:Rows.ImagePlainSaid:=
 OpenClaim.holds_of_cond 6 Tryz.f6 rfl rfl rfl rfl rfl rfl rfl ⟨rfl,rfl,rfl,rfl,rfl⟩ rfl rfl rfl rfl rfl Fm.named Tryz.func6 Fm.Qh
  (of_decide_eq_true (by kernel_rfl)) (by unfold Func.isWrapper;first|(rw[if_pos (by decide+kernel)];kernel_rfl)|(rw[if_neg (by decide+kernel)];exact⟨rfl,rfl⟩))
  (fun os started H enc _ F=>by rw[OpenClaim.pre_eq_preRow];exact sj os started H enc F)
end Go.Proofs.YtknalmoackcpbaaGreat
