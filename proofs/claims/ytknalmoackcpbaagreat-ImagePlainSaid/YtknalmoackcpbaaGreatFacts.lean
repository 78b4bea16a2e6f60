/- Facts on the types of this seat, each reckoned by the kernel (printed by facts.py). -/
import Derived.Test.YtknalmoackcpbaaGreatProg
import Derived.KernelRfl
import Derived.Test.YtknalmoackcpbaaGreatAwMap
set_option maxRecDepth 100000
set_option maxHeartbeats 3200000
set_option linter.all false
open Go Go.AW Go.Proofs.Tryz List
namespace Go.Proofs.YtknalmoackcpbaaGreat
@[simp] def Wa:fX prog 2= .one∧Program.cellsOf prog 2=1∧fX prog 3= .one∧Program.cellsOf prog 3=1∧Program.bytesOf prog 3=8∧ax prog 3=zI 0∧fX prog 4= .one∧Program.cellsOf prog 4=1∧fX prog 5= .one∧Program.cellsOf prog 5=1∧Program.bytesOf prog 5=1∧ax prog 5= .sc (.int .u8 0):=by and_intros<;>kernel_rfl
@[simp] def V9:fX prog 9= .one∧Program.cellsOf prog 9=1∧Program.bytesOf prog 9=16∧ax prog 9= .sc (.string .empty)∧fX prog 22= .one∧Program.cellsOf prog 22=1∧cr prog 22=some 46∧fX prog 23= .one∧Program.cellsOf prog 23=1∧cr prog 23=some 56∧fX prog 24= .one∧Program.cellsOf prog 24=1:=by and_intros<;>kernel_rfl
@[simp] def Uz:cr prog 24=some 53∧fX prog 26= .agg 4∧Program.cellsOf prog 26=4∧ax prog 26= .agg [.ai,.ai,.ai,zI 0]∧bN prog 26=true∧au prog 26 0=some (0,1)∧au prog 26 1=some (1,1)∧au prog 26 2=some (2,1)∧au prog 26 3=some (3,1)∧fX prog 30= .one∧Program.cellsOf prog 30=1∧Program.bytesOf prog 30=24:=by and_intros<;>kernel_rfl
@[simp] def Uy:ax prog 30= .ai∧cr prog 30=some 5∧fX prog 31= .one∧Program.cellsOf prog 31=1∧ax prog 31=zI 0∧fX prog 39= .agg 3∧Program.cellsOf prog 39=3∧ax prog 39= .agg [zI 0,zI 0,zI 0]∧bN prog 39=true∧au prog 39 0=some (0,1)∧fX prog 44= .one∧Program.cellsOf prog 44=1:=by and_intros<;>kernel_rfl
@[simp] def UG:Program.bytesOf prog 44=24∧ax prog 44= .ai∧cr prog 44=some 3∧fX prog 46= .agg 4∧Program.cellsOf prog 46=4∧Program.bytesOf prog 46=56∧ax prog 46= .agg [.sc (.string .empty),zI 0,zI 0,.ai]∧bN prog 46=true∧au prog 46 0=some (0,1)∧au prog 46 1=some (1,1)∧au prog 46 2=some (2,1)∧au prog 46 3=some (3,1):=by and_intros<;>kernel_rfl
@[simp] def UD:fX prog 47= .one∧Program.cellsOf prog 47=1∧Program.bytesOf prog 47=24∧ax prog 47= .ai∧cr prog 47=some 49∧fX prog 49= .agg 4∧Program.cellsOf prog 49=4∧Program.bytesOf prog 49=32∧ax prog 49= .agg [zI 0,zI 0,zI 0,zB false]∧bN prog 49=true∧au prog 49 0=some (0,1)∧au prog 49 1=some (1,1):=by and_intros<;>kernel_rfl
@[simp] def Ro:au prog 49 2=some (2,1)∧au prog 49 3=some (3,1)∧fX prog 50= .one∧Program.cellsOf prog 50=1∧cr prog 50=some 110∧fX prog 51= .one∧Program.cellsOf prog 51=1∧cr prog 51=some 158∧fX prog 53= .agg 12∧Program.cellsOf prog 53=12∧Program.bytesOf prog 53=168∧ax prog 53= .agg [.sc (.string .empty),zI 0,zI 0,.ai,zI 0,zI 0,zI 0,zB false,.ai,zI 0,.ai,.ai]:=by and_intros<;>kernel_rfl
@[simp] def UK:bN prog 53=true∧au prog 53 0=some (0,1)∧au prog 53 1=some (1,1)∧au prog 53 2=some (2,1)∧au prog 53 3=some (3,1)∧au prog 53 4=some (4,4)∧au prog 53 5=some (8,1)∧au prog 53 6=some (9,1)∧au prog 53 7=some (10,1)∧au prog 53 8=some (11,1)∧fX prog 56= .agg 7∧Program.cellsOf prog 56=7:=by and_intros<;>kernel_rfl
@[simp] def UF:Program.bytesOf prog 56=64∧ax prog 56= .agg [.sc (.string .empty),zI 0,zI 0,zI 0,zI 0,zB false,zB false]∧bN prog 56=true∧au prog 56 0=some (0,1)∧au prog 56 1=some (1,1)∧au prog 56 2=some (2,4)∧au prog 56 3=some (6,1)∧fX prog 60= .one∧fX prog 61= .one∧cr prog 61=some 94∧fX prog 63= .agg 2∧Program.cellsOf prog 63=2:=by and_intros<;>kernel_rfl
@[simp] def Ux:ax prog 63= .agg [zI 0,.ai]∧bN prog 63=true∧au prog 63 0=some (0,1)∧au prog 63 1=some (1,1)∧fX prog 64= .one∧Program.cellsOf prog 64=1∧au prog 66 0=some (0,1)∧au prog 66 1=some (1,1)∧fX prog 67= .one∧Program.cellsOf prog 67=1∧cr prog 67=some 47∧fX prog 68= .one:=by and_intros<;>kernel_rfl
@[simp] def UE:Program.cellsOf prog 68=1∧au prog 70 0=some (0,1)∧au prog 70 1=some (1,1)∧fX prog 71= .one∧Program.cellsOf prog 71=1∧cr prog 71=some 9∧fX prog 72= .one∧Program.cellsOf prog 72=1∧cr prog 72=some 30∧ax prog 74= .agg [.ai,.ai,.ai,zI 0,.ai,.sc .nilFunc,.ai,.sc .nilFunc,.ai,.ai,.ai,zI 0,.ai]∧bN prog 74=true∧au prog 74 0=some (0,4):=by and_intros<;>kernel_rfl
@[simp] def Rn:au prog 74 1=some (4,2)∧au prog 74 2=some (6,2)∧au prog 74 3=some (8,1)∧au prog 74 4=some (9,1)∧au prog 74 5=some (10,1)∧au prog 74 6=some (11,2)∧fX prog 78= .agg 2∧Program.cellsOf prog 78=2∧ax prog 78= .agg [zI 0,zI 0]∧rK prog 78=some (2,3):=by and_intros<;>kernel_rfl
@[simp] def UC:∀i,au prog 78 i=some (i*1,1):=fun i=>by kernel_rfl
@[simp] def UJ:bN prog 78=true∧ax prog 79= .agg [zI 0,zI 0,zI 0,zI 0,zI 0,zI 0]∧rK prog 79=some (3,78):=by and_intros<;>kernel_rfl
@[simp] def UB:∀i,au prog 79 i=some (i*2,2):=fun i=>by kernel_rfl
@[simp] def UI:bN prog 79=true∧ax prog 81= .agg [zI 0,zI 0,zI 0,zI 0,zI 0,zI 0,zI 0,zI 0]∧rK prog 81=some (4,78):=by and_intros<;>kernel_rfl
@[simp] def UA:∀i,au prog 81 i=some (i*2,2):=fun i=>by kernel_rfl
@[simp] def UH:bN prog 81=true∧fX prog 85= .agg 4∧Program.cellsOf prog 85=4∧ax prog 85= .agg [.ai,.ai,.ai,.ai]∧bN prog 85=true∧au prog 85 0=some (0,1)∧au prog 85 1=some (1,1)∧au prog 85 2=some (2,1)∧au prog 85 3=some (3,1)∧fX prog 94= .one∧Program.cellsOf prog 94=1∧Program.bytesOf prog 94=24:=by and_intros<;>kernel_rfl
@[simp] def Uw:ax prog 94= .ai∧cr prog 94=some 44∧fX prog 99= .agg 3∧Program.cellsOf prog 99=3∧ax prog 99= .agg [zI 0,zI 0,zI 0]∧Program.concrete prog 99=true∧bN prog 99=true∧au prog 99 0=some (0,1)∧au prog 99 1=some (1,1)∧au prog 99 2=some (2,1)∧ax prog 108= .agg [.ai,.ai,.ai,.ai,zI 0,.ai,.ai,.ai,.ai,.ai,.ai,zI 0]∧bN prog 108=true:=by and_intros<;>kernel_rfl
@[simp] def Qu:au prog 108 0=some (0,4)∧au prog 108 1=some (4,2)∧au prog 108 2=some (6,1)∧au prog 108 3=some (7,1)∧au prog 108 4=some (8,4)∧fX prog 110= .agg 6∧Program.cellsOf prog 110=6∧Program.bytesOf prog 110=48∧ax prog 110= .agg [zI 0,zI 0,zI 0,zI 0,zI 0,zB false]∧bN prog 110=true∧au prog 110 0=some (0,1)∧au prog 110 1=some (1,1):=by and_intros<;>kernel_rfl
@[simp] def Qt:au prog 110 2=some (2,4)∧fX prog 129= .one∧ax prog 131= .agg [.ai,.sc (.map none)]∧bN prog 131=true∧au prog 131 0=some (0,1)∧au prog 131 1=some (1,1)∧fX prog 137= .one∧fX prog 141= .agg 4∧Program.cellsOf prog 141=4∧ax prog 141= .agg [.ai,.ai,.ai,.ai]∧au prog 141 0=some (0,1)∧au prog 141 1=some (1,1):=by and_intros<;>kernel_rfl
@[simp] def Qs:au prog 141 2=some (2,1)∧au prog 141 3=some (3,1)∧ax prog 142= .agg [zI 0,zI 0,zI 0,zI 0]∧rK prog 142=some (4,3)∧fX prog 149= .agg 6∧Program.cellsOf prog 149=6∧ax prog 149= .agg [zB false,.ai,zI 0,zI 0,zI 0,zB false]∧bN prog 149=true∧au prog 149 0=some (0,1)∧au prog 149 1=some (1,1)∧au prog 149 2=some (2,4)∧fX prog 158= .agg 10:=by and_intros<;>kernel_rfl
@[simp] def Ta:Program.cellsOf prog 158=10∧Program.bytesOf prog 158=80∧ax prog 158= .agg [zI 0,zI 0,zI 0,zI 0,zI 0,zI 0,zI 0,zI 0,zI 0,zB false]∧bN prog 158=true∧au prog 158 0=some (0,1)∧au prog 158 1=some (1,1)∧au prog 158 2=some (2,1)∧au prog 158 3=some (3,1)∧au prog 158 4=some (4,1)∧au prog 158 5=some (5,1)∧au prog 158 6=some (6,4)∧fX prog 160= .one:=by and_intros<;>kernel_rfl
@[simp] def S1:ax prog 163= .agg [.sc (.int .u64 0),.sc (.int .u64 0)]∧rK prog 163=some (2,137):=by and_intros<;>kernel_rfl
@[simp] def S9:∀i,au prog 163 i=some (i*1,1):=fun i=>by kernel_rfl
@[simp] def Ti:bN prog 163=true∧fX prog 169= .agg 2∧Program.cellsOf prog 169=2∧ax prog 169= .agg [zI 0,zI 0]∧bN prog 169=true∧au prog 169 0=some (0,1)∧au prog 169 1=some (1,1)∧Program.cellsOf prog 174=2∧ax prog 174= .agg [zI 0,zI 0]∧Program.concrete prog 174=true∧bN prog 174=true∧au prog 174 0=some (0,1):=by and_intros<;>kernel_rfl
@[simp] def Qr:au prog 174 1=some (1,1)∧ax prog 178= .agg [.sc (.pointer none),zI 0,zI 0]∧bN prog 178=true∧au prog 178 0=some (0,1)∧au prog 178 1=some (1,1)∧au prog 178 2=some (2,1)∧fX prog 194= .agg 3∧Program.cellsOf prog 194=3∧ax prog 194= .agg [.sc (.string .empty),zI 0,zI 0]∧bN prog 194=true∧au prog 194 0=some (0,1)∧au prog 194 1=some (1,1):=by and_intros<;>kernel_rfl
@[simp] def Qq:au prog 194 2=some (2,1)∧fX prog 200= .agg 4∧ax prog 200= .agg [zI 0,zI 0,zI 0,zB false]∧bN prog 200=true∧au prog 200 0=some (0,1)∧au prog 200 1=some (1,1)∧au prog 200 2=some (2,1)∧au prog 200 3=some (3,1)∧fX prog 206= .one∧ax prog 207= .agg [.sc (.int .u32 0),.sc (.int .u32 0),.sc (.int .u32 0),.sc (.int .u32 0),.sc (.int .u32 0)]∧rK prog 207=some (5,206):=by and_intros<;>kernel_rfl
@[simp] def S8:∀i,au prog 207 i=some (i*1,1):=fun i=>by kernel_rfl
@[simp] def Th:bN prog 207=true∧fX prog 210= .one∧ax prog 212= .agg [.sc .nilFunc,.sc .nilFunc,.sc .nilFunc,.sc .nilFunc]∧rK prog 212=some (4,210):=by and_intros<;>kernel_rfl
@[simp] def S7:∀i,au prog 212 i=some (i*1,1):=fun i=>by kernel_rfl
@[simp] def Tg:bN prog 212=true∧fX prog 217= .one∧Program.cellsOf prog 217=1∧cr prog 217=some 221∧fX prog 219= .agg 2∧Program.cellsOf prog 219=2∧ax prog 219= .agg [.ai,.ai]∧bN prog 219=true∧au prog 219 0=some (0,1)∧au prog 219 1=some (1,1)∧fX prog 221= .agg 6∧Program.cellsOf prog 221=6:=by and_intros<;>kernel_rfl
@[simp] def Tb:Program.bytesOf prog 221=48∧ax prog 221= .agg [zI 0,zI 0,zI 0,zI 0,zI 0,zI 0]∧bN prog 221=true∧au prog 221 0=some (0,1)∧au prog 221 1=some (1,1)∧au prog 221 2=some (2,1)∧au prog 221 3=some (3,1)∧au prog 221 4=some (4,1)∧au prog 221 5=some (5,1)∧ax prog 226= .agg [.ai,zI 0]∧bN prog 226=true∧au prog 226 0=some (0,1):=by and_intros<;>kernel_rfl
@[simp] def Qp:au prog 226 1=some (1,1)∧fX prog 230= .agg 6∧Program.cellsOf prog 230=6∧ax prog 230= .agg [zI 0,zI 0,zI 0,zI 0,zI 0,zI 0]∧rK prog 230=some (6,3):=by and_intros<;>kernel_rfl
@[simp] def S6:∀i,au prog 230 i=some (i*1,1):=fun i=>by kernel_rfl
@[simp] def Tf:bN prog 230=true∧fX prog 267= .one∧Program.concrete prog 272=true∧fX prog 275= .agg 1∧Program.cellsOf prog 275=1∧ax prog 275= .agg [.sc (.pointer none)]∧bN prog 275=true∧au prog 275 0=some (0,1)∧fX prog 295= .agg 2∧ax prog 295= .agg [zI 0,zI 0]∧bN prog 295=true∧au prog 295 0=some (0,1):=by and_intros<;>kernel_rfl
@[simp] def Qo:au prog 295 1=some (1,1)∧fX prog 297= .one∧cr prog 297=some 302∧fX prog 300= .agg 2∧ax prog 300= .agg [zI 0,zI 0]∧bN prog 300=true∧au prog 300 0=some (0,1)∧au prog 300 1=some (1,1)∧fX prog 302= .agg 4∧Program.cellsOf prog 302=4∧Program.bytesOf prog 302=32∧ax prog 302= .agg [zI 0,zI 0,zI 0,zI 0]:=by and_intros<;>kernel_rfl
@[simp] def Te:bN prog 302=true∧au prog 302 0=some (0,2)∧au prog 302 1=some (2,2)∧fX prog 303= .one∧ax prog 313= .agg [.ai,.ai,.ai]∧bN prog 313=true∧au prog 313 0=some (0,1)∧au prog 313 1=some (1,1)∧au prog 313 2=some (2,1)∧fX prog 314= .one∧Program.cellsOf prog 314=1∧Program.cellsOf prog 315=9:=by and_intros<;>kernel_rfl
@[simp] def SZ:ax prog 315= .agg [.sc .nilFunc,.sc .nilFunc,.sc .nilFunc,.sc .nilFunc,.sc .nilFunc,.sc .nilFunc,.sc .nilFunc,.sc .nilFunc,.sc .nilFunc]∧rK prog 315=some (9,314):=by and_intros<;>kernel_rfl
@[simp] def S5:∀i,au prog 315 i=some (i*1,1):=fun i=>by kernel_rfl
@[simp] def Td:bN prog 315=true∧Program.concrete prog 316=true∧fX prog 319= .one∧fX prog 324= .agg 1∧Program.cellsOf prog 324=1∧ax prog 324= .agg [.sc (.pointer none)]∧bN prog 324=true∧au prog 324 0=some (0,1)∧ax prog 328= .agg [.sc (.pointer none),zI 0,.ai,.ai]∧bN prog 328=true∧au prog 328 0=some (0,1)∧au prog 328 1=some (1,1):=by and_intros<;>kernel_rfl
@[simp] def Qn:au prog 328 2=some (2,1)∧au prog 328 3=some (3,1)∧ax prog 342= .agg [zI 0,zI 0,zI 0,zI 0,zI 0]∧rK prog 342=some (5,3):=by and_intros<;>kernel_rfl
@[simp] def S4:∀i,au prog 342 i=some (i*1,1):=fun i=>by kernel_rfl
@[simp] def Tc:bN prog 342=true:=by kernel_rfl
def mixed:Tables.follows prog.toTables .mixedOrders=true:=by kernel_rfl
abbrev rl:bW:=(.S 0 (.S 1 (.S 2 (.S 4 (.S 5 (.S 6 (.R 3 (.R 7 (.S 8 .D)))))))))
def aa (S:List Nat):bH prog [] S:=mixed
def Fe (S:List Nat):bH prog [(3,(.S 0 (.S 1 (.S 2 (.S 5 (.S 6 (.S 7 (.R 3 (.R 4 (.R 8 (.S 9 (.S 10 .D))))))))))))] S:=mixed
def qO (S:List Nat):bH prog [(6,rl)] S:=mixed
def wide (n:Int):Bool:=decide (n=1)||decide (n=2)||decide (n=4)||decide (n=8)
def zJ (n:Int) (σ:AS):ad prog 144 [zI n] σ (ah (.sc (.bool (wide n))) σ) No:=by
 refine ad.ob func144 ?_;by_cases h1:n=1<;>by_cases h:n=2<;>by_cases g:n=4<;>by_cases d:n=8;all_goals
  refine gO aa (j4 @h1 @h @g @d) tI ?_;simp[wide,h1,h,g,d]
def p9 (l:List AV) (own:cC) (nil:Bool) (i:nil=true→l= []) (hl:l.length≤140737488355328) (σ:AS):
 ad prog 103 [.ao 5 l own nil] σ (kQ (fun g=> .ao 5 l (.tok g) nil) l.length σ) No:=by
 refine ad.ob func103 ?_;cases nil with
 |true=>obtain rfl:=i rfl;refine aq.seq (aq.region ?_);simp;refine aq.seq (aq.seq (aq.region ?_));simp[underlying30];refine aq.cond rfl (fun h=> ?_) (fun h=>by simp at h);refine aq.seq (aq.region ?_);simp;refine aq.fy 2 5 [] true (by decide) (by simp) (fun g d=> ?_);refine gO aa tI tI ?_;exact da g d (by simp) (by simp)
 |false=>refine gO aa (j2 @underlying30 @hl) tI ?_;intro g d;refine gO aa tI tI ?_;exact da g d (by simp) (by simp)
def aX (x:Int):Nat→zY
 |0=> []
 |n+1=>UInt8.ofNat (x%256).toNat::aX (x/256) n
def aA (x:Int) (n:Nat):(aX x n).length=n:=by
 induction n generalizing x with
 |zero=>rfl
 |succ n d=>simp[aX,d]
def G9 (x:Int) (n:Nat):aX x (n+1)=aX x n++ [UInt8.ofNat (x/256^n%256).toNat]:=by
 induction n generalizing x with
 |zero=>simp[aX]
 |succ n d=>rw[aX,d (x/256),aX,cons_append];congr 4;rw[Int.ediv_ediv_of_nonneg (by omega)];rw[Int.pow_succ,Int.mul_comm]
def Vs (l:zY) (x n:Int) (d:Nat) (σ:AS) (m:Nat) (s:Fr) (g:AS):Prop:=
 ∃(k:Nat) (nl:Bool),(m:Int)=n-k∧(k:Int)≤n∧(nl=true→k=0)∧
  s=iO [(1,.sc (.int .u64 (x/256^k))),(8,.ao 5 ((l++aX x k).map u8) (.tok d) nl),(14,zI n),(15,zI k)]∧
  g=σ.set d (.tok (l.length+k))
def ot (l:zY) (own:cC) (nil:Bool) (w:nil=true→l= []) (hl:l.length≤1000000) (x n:Int) (q:0≤x) (o:x<18446744073709551616) (hw:wide n=true) (σ:AS):
 ad prog 77 [.ao 5 (l.map u8) own nil,.sc (.int .u64 x),zI n] σ
  (kQ (fun d=> .bI [.ao 5 ((l++aX x n.toNat).map u8) (.tok d) false,zI 0]) (l.length+n.toNat) σ) No:=by
 have v:1≤n∧n≤8:=by simp[wide]at hw;omega
 refine ad.ob func77 ?_;refine gO aa tI tI ?_;refine ag.ay (zJ n _) ?_;simp[hw];refine gO aa tI tI ?_;refine ag.yo (p9 (l.map u8) own nil (fun h=>by simp[w h]) (by simp;omega) σ) (fun d g=> ?_);simp;refine gO aa tI tI ?_;refine aq.dc (Vs l x n d σ) (k0:=n.toNat) ⟨0,nil,by omega,by omega,by simp,rfl,rfl⟩ (aN.mk ?_) ?_ ?_
 ·simp[aX]
 ·simp
 ·rintro m s H ⟨k,nl,hm,I,i,rfl,rfl⟩;have u:(0:Int)<256^k:=Int.pow_pos (by omega);have y:0≤x/256^k:=Int.ediv_nonneg q (by omega);refine aq.seq (aq.region ?_);simp;refine aq.seq (aq.cond rfl (fun h=> ?_) (fun h=> ?_))
  ·simp at h;refine gO aa (j3 @underlying137 @underlying5 @aA) tI ?_;refine⟨m-1,_,_,by omega,aN.mk ?_,lR _,k+1,false,by omega,by omega,by simp,rfl,rfl⟩;have G:x/256^(k+1)=x/256^k/256:=by rw[Int.ediv_ediv_of_nonneg (by omega),Int.pow_succ]
   have F:IntKind.i64.wrap ((k:Int)+1)=((k+1:Nat):Int):=by rw[az (by omega) (by omega)];simp
   have E:IntKind.u8.wrap (x/256^k)=((UInt8.ofNat (x/256^k%256).toNat).toNat:Int):=by rw[Bx];simp;omega
   simp[G,F,G9,u8,E]
  ·simp at h;refine gO aa tI tI ?_;have j:k=n.toNat:=by omega
   subst j;have:nl=false:=by cases nl with|false=>rfl|true=>have:=i rfl;omega
   subst this;exact da d g (by simp) (by simp)
def dU (n:Int):Int:=if n<0∨536870911<n then 0 else if n<128 then 1 else if n<16384 then 2 else 4
def zX (n:Int) (σ:AS):ad prog 142 [zI n] σ (ah (zI (dU n)) σ) No:=by
 refine ad.ob func142 ?_;by_cases h1:n<0<;>by_cases h:536870911<n<;>by_cases g:n<128<;>by_cases d:n<16384;all_goals try omega
 all_goals
  refine gO aa (j4 @h1 @h @g @d) tI ?_;try simp[dU,h1,h,g,d]
def bA (b:zY) (d:Int) (nl:Bool):bP:= .cells 226 [.ao 5 (b.map u8) .aI nl,zI d]
def oB (l:zY) (own:cC) (nil:Bool) (n:nil=true→l= []) (hl:l.length≤140737488355328) (σ:AS):
 ad prog 97 [.ao 5 (l.map u8) own nil] σ (fun r i=> ∃id,σ id=none∧r= .ptr id 0∧i=σ.set id (bA l 0 nil)) No:=by
 refine ad.ob func97 ?_;refine gO aa tI tI ?_;refine ag.yo (p9 (l.map u8) own nil (fun h=>by simp[n h]) (by simpa using hl) σ) (fun q d=> ?_);simp;intro id j g;refine aq.LS id [.ao 5 (l.map u8) .aI nil,zI 0] rfl (fun k o=> ?_) ?_
 ·match k,o with
  |0,_ =>simp
  |1,_ =>simp
 ·have h0:σ id=none:=g;refine gO aa tI tI ?_;exact⟨_,_,Wk.refl _,Av (by simp[d]),id,h0,rfl,rfl⟩
def pf (id:Nat) (b:zY) (d:Int) (nl:Bool) (σ:AS) (h:σ id=some (bA b d nl)):
 ad prog 99 [.ptr id 0] σ (ah (zI d) σ) No:=by
 refine ad.ob func99 ?_;exact gE aa (j3 @underlying160 @h @bA.eq_1) tI
def je (id:Nat) (b:zY) (at':Int) (nl:Bool) (σ:AS) (h:σ id=some (bA b at' nl)) (ha:0≤at') (d:at'≤b.length) (hl:b.length≤140737488355328):
 ad prog 106 [.ptr id 0] σ (ah (zI (b.length-at')) σ) No:=by
 refine ad.ob func106 ?_;have e:zW (b.length-at')=b.length-at':=az (by omega) (by omega);exact gE Fe (j4 @underlying160 @h @bA.eq_1 @e) tI
def bt (c:Int):Int:=if c<128 then 1 else if c<192 then 2 else if c<224 then 4 else 0
def ID (c:Int) (σ:AS):ad prog 267 [.sc (.int .u8 c)] σ (ah (zI (bt c)) σ) No:=by
 refine ad.ob func267 ?_;by_cases h1:c<128<;>by_cases g:c<192<;>by_cases d:c<224;all_goals try omega
 all_goals
  refine gO aa (j3 @h1 @g @d) tI ?_;try simp[bt,h1,g,d]
def Sc (l:zY) (m:zY) (k:Nat) (s:Fr) (d:AS) (o:cC) (n1 n2:Bool) (g:cC) (σ:AS):Prop:=
 ∃i:Nat,k=l.length-i∧i≤l.length∧l.take i=m.take i∧d=σ∧
  s=iO [(0,.ao 5 (l.map u8) o n1),(1,.ao 5 (m.map u8) g n2),(5,zI i)]
def rP (l m:zY) (o q:cC) (n1 n2:Bool) (hl:l.length≤140737488355328) (σ:AS):
 ad prog 40 [.ao 5 (l.map u8) o n1,.ao 5 (m.map u8) q n2] σ (ah (.sc (.bool (decide (l=m)))) σ) No:=by
 refine ad.ob func40 ?_;by_cases hlen:l.length=m.length
 ·refine gO qO @hlen tI ?_;refine aq.dc (Sc l m · · · o n1 n2 q σ) (k0:=l.length) ⟨0,by omega,by omega,by simp,rfl,rfl⟩ (aN.mk (by simp)) (lR _) ?_;rintro k s w ⟨i,y,E,ht,rfl,rfl⟩;by_cases g:i<l.length
  ·have d:i<m.length:=by omega
   by_cases he:l[i]=m[i]
   ·repeat (first
     |refine g1 ?_
     |((first|refine g2 ?_ |((with_reducible apply dX 6 rl);refine dY mixed ?_));simp-implicitDefEqProofs [g,d,he])
     |(refine g3 ?_;try simp-implicitDefEqProofs))
    refine⟨k-1,_,_,by omega,aN.mk ?_,lR _,i+1,by omega,by omega,?_,rfl,rfl⟩
    ·have u:IntKind.i64.wrap ((i:Int)+1)=((i+1:Nat):Int):=by rw[az (by omega) (by omega)];simp
     simp[u]
    ·rw[take_add_one,take_add_one,ht,getElem?_eq_getElem g,getElem?_eq_getElem d,he]
   ·have j:l≠m:=fun h=>he (by simp[h]);have n:¬l[i].toNat=m[i].toNat:=fun h=>he (UInt8.toNat_inj.1 h);exact gE qO (j4 g d @n @j) tI
  ·have:l=m:=by
    have v:i=l.length:=by omega
    subst v;rw[take_length,hlen,take_length]at ht;exact ht
   refine gO qO g tI ?_;simp[this]
 ·have:l≠m:=fun h=>hlen (by rw[h]);refine gO qO @hlen tI ?_;try simp[this]
abbrev pE:bW:=(.S 0 (.S 1 (.S 2 (.S 4 (.S 5 (.S 6 (.S 8 (.S 9 (.S 10 (.S 12 (.S 16 (.R 3 (.R 7 (.R 11 (.S 13 (.S 14 (.R 15 .D)))))))))))))))))
def mf (S:List Nat):bH prog [(7,(.S 0 (.S 1 (.S 2 (.S 4 (.S 5 (.S 6 (.S 7 (.R 3 (.R 8 (.S 9 (.A 10 (.S 11 (.S 12 .D)) .Z))))))))))))] S:=mixed
def xY (S:List Nat):bH prog [(2,pE)] S:=mixed
def oV (b:zY) (at' n:Int):Int:=if n<0 then 3 else if b.length-at'<n then 1 else 0
def I5 (id:Nat) (b:zY) (at' n:Int) (nl:Bool) (σ:AS) (h:σ id=some (bA b at' nl)) (ha:0≤at') (g:at'≤b.length) (hl:b.length≤140737488355328) (he:oV b at' n≠0):
 ad prog 98 [.ptr id 0,zI n] σ (ah (zI (oV b at' n)) σ) No:=by
 refine ad.ob func98 ?_;by_cases h1:n<0
 ·refine gO aa (j2 @underlying160 @h1) tI ?_;simp[oV,h1]
 ·have d:b.length-at'<n:=by
   by_cases h:b.length-at'<n
   ·exact h
   ·exact absurd (by simp[oV,h1,h]) he
  refine gO aa (j3 @underlying160 @h1 @d) tI ?_;refine ag.ay (je id b at' nl _ h ha g hl) ?_;simp;refine gO aa (j3 @underlying160 @h1 @d) tI ?_;simp[oV,h1,d]
def zV (id:Nat) (b:zY) (at' n:Int) (nl:Bool) (σ:AS) (h:σ id=some (bA b at' nl)) (ha:0≤at') (i:at'≤b.length) (hl:b.length≤140737488355328) (h1:0≤n) (j:n≤b.length-at'):
 ad prog 98 [.ptr id 0,zI n] σ (ah (zI 0) (σ.set id (bA b (at'+n) nl))) No:=by
 refine ad.ob func98 ?_;have g:¬n<0:=by omega
 have d:¬b.length-at'<n:=by omega
 have e:zW (at'+n)=at'+n:=az (by omega) (by omega);refine gO aa (j2 @underlying160 @g) tI ?_;refine ag.ay (je id b at' nl _ h ha i hl) ?_;simp;exact gE aa (j4 @d @h @bA.eq_1 @e) tI
def BF (id:Nat) (b:zY) (d n:Int) (nl:Bool) (σ:AS) (h:σ id=some (bA b d nl)) (ha:0≤d) (g:d≤b.length) (hl:b.length≤140737488355328) (he:oV b d n≠0):
 ad prog 156 [.ptr id 0,zI n] σ (ah (.bI [.ai,zI (oV b d n)]) σ) No:=by
 refine ad.ob func156 ?_;refine gO mf (j3 @underlying160 @h @bA.eq_1) tI ?_;refine ag.ay (I5 id b d n nl _ h ha g hl he) ?_;simp;exact gE mf @he tI
def cu (b:zY) (d n:Int):zY:=(b.take (d+n).toNat).drop d.toNat
def zP (id:Nat) (b:zY) (at' n:Int) (nl:Bool) (σ:AS) (i:nl=true→b= []) (h:σ id=some (bA b at' nl)) (ha:0≤at') (l:at'≤b.length) (hl:b.length≤140737488355328) (h1:0≤n) (o:n≤b.length-at'):
 ad prog 156 [.ptr id 0,zI n] σ (fun r j=> ∃d,σ d=none∧r= .bI [.ao 5 ((cu b at' n).map u8) (.tok d) nl,zI 0]∧
  j=(σ.set id (bA b (at'+n) nl)).set d (.tok (cu b at' n).length)) No:=by
 refine ad.ob func156 ?_;refine gO mf (j3 @underlying160 @h @bA.eq_1) tI ?_;refine ag.ay (zV id b at' n nl _ h ha l hl h1 o) ?_;simp;refine gO mf @bA.eq_1 tI ?_;rw[show List.drop at'.toNat (List.take (at'+n).toNat (List.map u8 b))=(cu b at' n).map u8 by simp[cu,map_drop,map_take]];refine ag.yo (p9 _ .aI nl (fun h=>by simp[cu,i h]) (by simp[cu];omega) _) (fun d g=> ?_);have h0:σ d=none:=by
  by_cases e:d=id
  ·subst e;simp[AS.set]at g
  ·simpa[AS.set,e]using g
 simp;refine gO mf tI tI ?_;exact⟨_,_,Wk.refl _,lR _,d,h0,rfl,by simp⟩
def aY:zY→Int
 |[]=>0
 |c::r=>c.toNat+256*aY r
def ct (l:zY):0≤aY l:=by
 induction l with
 |nil=>simp[aY]
 |cons c r d=>simp only[aY];omega
def jb (l:zY):aY l<256^l.length:=by
 induction l with
 |nil=>simp[aY]
 |cons c r d=>simp only[aY,length_cons,Int.pow_succ];have:=c.toNat_lt;omega
def Ho (l:zY) (c:UInt8):aY (l++ [c])=aY l+c.toNat*256^l.length:=by
 induction l with
 |nil=>simp[aY]
 |cons d r g=>simp only[cons_append,aY,g,length_cons,Int.pow_succ];rw[Int.mul_add,Int.add_assoc,Int.mul_comm (256^r.length) 256,←Int.mul_assoc (c.toNat:Int),Int.mul_comm (c.toNat:Int) 256,Int.mul_assoc]
def eC (b:zY) (at' n:Int) (ha:0≤at') (d:0≤n) (h:n≤b.length-at'):((cu b at' n).length:Int)=n:=by simp[cu];omega
def Ag (i:Nat):(256:Int)^i=2^(8*i):=by rw[Int.pow_mul];rfl
def MW (x:Int) (c:UInt8) (i:Nat) (l:i<8) (h:0≤x) (d:x<256^i):
 Dz 64 x (IntKind.u64.wrap (c.toNat*2^(8*i)))=x+c.toNat*256^i:=by
 have o:=c.toNat_lt;have n:(0:Int)<256^i:=Int.pow_pos (by omega);have q:(256:Int)^i*256≤256^8:=(show ∀j:Nat,j<8→(256:Int)^j*256≤256^8 by decide) i l;have hm:(c.toNat:Int)*256^i≤255*256^i:=Int.mul_le_mul_of_nonneg_right (by omega) (by omega);have g:0≤(c.toNat:Int)*256^i:=Int.mul_nonneg (by omega) (by omega);rw[←Ag,ng g (by omega),qf];rw[oA (8*i) h (by rw[←Ag];exact d) (c:=c.toNat) (by omega) (by rw[←Ag,Int.mul_comm]) (by omega)];omega
def cY (id:Nat) (σ:AS) (l:zY) (n:Int) (nl:Bool) (m:Nat) (s:Fr) (d:AS):Prop:=
 ∃i:Nat,m=l.length-i∧i≤l.length∧d=σ∧
  s=iO [(0,.ptr id 0),(1,zI n),(5,.sc (.int .u64 (aY (l.take i)))),(22,.ao 5 (l.map u8) .aI nl),(23,zI l.length),(24,zI i)]
def PH (id:Nat) (b:zY) (at' n:Int) (nl:Bool) (σ:AS) (h:σ id=some (bA b at' nl)) (ha:0≤at') (Q:at'≤b.length) (hl:b.length≤140737488355328) (h1:0≤n) (G:n≤b.length-at') (V:n≤8):
 ad prog 155 [.ptr id 0,zI n] σ (ah (.sc (.int .u64 (aY (cu b at' n)))) (σ.set id (bA b (at'+n) nl))) No:=by
 refine ad.ob func155 ?_;have e:IntKind.i64.wrap (at'+n)=at'+n:=az (by omega) (by omega);have F:=eC b at' n ha h1 G;refine gO xY (j3 @h @bA.eq_1 @e) tI ?_;have I:min (at'+n).toNat b.length-at'.toNat=(cu b at' n).length:=by simp[cu]
 have H:List.drop at'.toNat (List.take (at'+n).toNat (List.map u8 b))=(cu b at' n).map u8:=by simp[cu,map_drop,map_take]
 refine aq.dc (cY id σ (cu b at' n) n nl) (k0:=(cu b at' n).length) ⟨0,by omega,by omega,rfl,rfl⟩ (aN.mk (by simp[I,H,aY])) (lR _) ?_;rintro m s J ⟨i,hm,P,rfl,rfl⟩;generalize T:cu b at' n=L at*;by_cases d:i<L.length
 ·have w1:IntKind.i64.wrap (8*(i:Int))=((8*i:Nat):Int):=by rw[az (by omega) (by omega)];simp
  have u:IntKind.u64.wrap L[i].toNat=L[i].toNat:=ng (by omega) (by have:=L[i].toNat_lt;omega);have q:=MW (aY (L.take i)) L[i] i (by omega) (ct _) (by have:=jb (L.take i);rwa [length_take,Nat.min_eq_left (by omega)]at this);have y:aY (L.take (i+1))=aY (L.take i)+L[i].toNat*256^i:=by rw[←take_append_getElem d,Ho,length_take,Nat.min_eq_left (by omega)]
  have K:aY (L.take (i+1))<256^8:=by
   have O:=jb (L.take (i+1));have M:(L.take (i+1)).length≤8:=by simp;omega
   have E:∀j:Nat,j<9→(256:Int)^j≤256^8:=by decide
   have:=E _ (show(L.take (i+1)).length<9 by omega);omega
  have X:(256:Int)^8=18446744073709551616:=by decide
  have w:IntKind.u64.wrap (aY (L.take (i+1)))=aY (L.take (i+1)):=ng (ct _) (by omega);have o:min (8*i) 64=8*i:=by omega
  have v:IntKind.i64.wrap ((i:Int)+1)=((i+1:Nat):Int):=by rw[az (by omega) (by omega)];simp
  rw[←y]at q;have l:(8*(i:Int)).toNat=8*i:=by omega
  repeat (first
   |refine g1 ?_
   |((first|refine g2 ?_ |((with_reducible apply dX 2 pE);refine dY mixed ?_));simp-implicitDefEqProofs [d,underlying137,underlying5,w1,u,o,l])
   |(refine g3 ?_;try simp-implicitDefEqProofs [d,underlying137,underlying5,w1,u,o,l]))
  refine⟨m-1,_,_,by omega,aN.mk ?_,lR _,i+1,by omega,by omega,rfl,rfl⟩;simp[v,q,w]
 ·have g:L.take i=L:=take_of_length_le (by omega);refine gO xY (j4 d @h @bA.eq_1 @e) tI ?_;simp[g]
def tz (b:zY) (at' n:Int):Int:=if wide n=true then if b.length-at'<n then 1 else 0 else 17
def vw (id:Nat) (b:zY) (at' n:Int) (nl:Bool) (σ:AS) (h:σ id=some (bA b at' nl)) (ha:0≤at') (g:at'≤b.length) (hl:b.length≤140737488355328) (he:tz b at' n≠0):
 ad prog 100 [.ptr id 0,zI n] σ (ah (.bI [.sc (.int .u64 0),zI (tz b at' n)]) σ) No:=by
 refine ad.ob func100 ?_;refine gO aa @underlying160 tI ?_;refine ag.ay (zJ n _) ?_;simp;by_cases hw:wide n=true
 ·refine gO aa @hw tI ?_;refine ag.ay (je id b at' nl _ h ha g hl) ?_;simp;have d:b.length-at'<n:=by
   by_cases h:b.length-at'<n
   ·exact h
   ·exact absurd (by simp[tz,hw,h]) he
  refine gO aa @d tI ?_;simp[tz,hw,d]
 ·refine gO aa @hw tI ?_;simp[tz,hw]
def lN (id:Nat) (b:zY) (at' n:Int) (nl:Bool) (σ:AS) (h:σ id=some (bA b at' nl)) (ha:0≤at') (g:at'≤b.length) (hl:b.length≤140737488355328) (hw:wide n=true) (j:n≤b.length-at'):
 ad prog 100 [.ptr id 0,zI n] σ (ah (.bI [.sc (.int .u64 (aY (cu b at' n))),zI 0]) (σ.set id (bA b (at'+n) nl))) No:=by
 have i:1≤n∧n≤8:=by simp[wide]at hw;omega
 have d:¬b.length-at'<n:=by omega
 refine ad.ob func100 ?_;refine gO aa @underlying160 tI ?_;refine ag.ay (zJ n _) ?_;simp;refine gO aa @hw tI ?_;refine ag.ay (je id b at' nl _ h ha g hl) ?_;simp;refine gO aa @d tI ?_;refine ag.ay (PH id b at' n nl _ h ha g hl (by omega) j (by omega)) ?_;simp;exact gE aa tI tI
namespace Bd
structure R6 where
 kd:Int
 ta:Int
 tl:Int
 ha:Int
 hl:Int
 ex:Int
def qR (r:R6):List Int:= [r.kd,r.ta,r.tl,r.ha,r.hl,r.ex]
def wQ (r:R6):(qR r).length=6:=rfl
def dj (r:R6):AV:= .agg [zI r.kd,zI r.ta,zI r.tl,zI r.ha,zI r.hl,zI r.ex]
def Hn (n:Int):Bool:=decide (0≤n)&&decide (n≤65535)
def Dx (r:R6):Bool:=(qR r).all Hn
def cU (code:zY) (cls:List R6):Bool:=decide (1≤code.length)&&(decide (code.length≤65535)&&(decide (cls.length≤6)&&cls.all Dx))
def wR (r:R6) (σ:AS):ad prog 245 [dj r] σ (ah (.agg ((qR r).map aS)) σ) No:=by obtain⟨a,b,c,d,e,f⟩:=r;refine ad.ob func245 ?_;simp only[dj];refine gO aa tI tI ?_;intro id i;refine gO aa tI tI ?_;intro j g h;refine gO aa g tI ?_;simp[qR,aS];all_goals (repeat (first|exact lR _ |refine an (by simp[i,h,g]) ?_))
def pz (a b:Int) (σ:AS):ad prog 244 [zI a,zI b] σ (ah (.sc (.bool (decide (a<64)&&decide (b=0)))) σ) No:=by
 refine ad.ob func244 ?_
 repeat' (first
  |refine g1 ?_
  |((first|(with_reducible first|apply aq.fork|apply aq.region));simp-implicitDefEqProofs)
  |trivial
  |(with_reducible apply j2)
  |((with_reducible first|apply aq.ret|apply aq.skip|apply aq.exit);try simp-implicitDefEqProofs)
  |((with_reducible first|apply cJ.split|apply bx.split|apply fG.split)<;>(intro d;(try simp-implicitDefEqProofs only[d]);(try simp at d))<;>try simp-implicitDefEqProofs))
 all_goals exact gJ tI
def XO (cls:List R6) (nl:Bool) (o:cC) (σ:AS) (m:Nat) (fr:Fr) (d:AS):Prop:=
 ∃i:Nat,m=cls.length-i∧i≤cls.length∧cls.all Dx=(cls.drop i).all Dx∧d=σ∧
  fr=iO [(24,.ao 221 (cls.map dj) o nl),(25,zI cls.length),(26,zI i)]
def XP (cls:List R6) (nl:Bool) (o:cC) (σ:AS) (i:Nat) (l:List Int) (m:Nat) (fr:Fr) (d:AS):Prop:=
 ∃k:Nat,m=6-k∧k≤6∧l.all Hn=(l.drop k).all Hn∧d=σ∧
  fr=iO [(24,.ao 221 (cls.map dj) o nl),(25,zI cls.length),(26,zI i),(31,.agg (l.map aS)),(32,zI k)]
def nH (code:zY) (cls:List R6) (F q:cC) (n1 n2:Bool) (hc:code.length≤140737488355328) (hk:cls.length≤140737488355328) (σ:AS):
 ad prog 243 [.agg [.ao 5 (code.map u8) F n1,.ao 221 (cls.map dj) q n2]] σ (ah (.sc (.bool (cU code cls))) σ) No:=by
 refine ad.ob func243 ?_;refine gO aa tI tI ?_;intro id T;by_cases Y:1≤code.length
 ·by_cases X:code.length≤65535
  ·by_cases V:cls.length≤6
   ·have n:((code.length:Int)<1)=False:=by simp;omega
    have y:(65535<(code.length:Int))=False:=by simp;omega
    have O:(6<(cls.length:Int))=False:=by simp;omega
    have h:cU code cls=cls.all Dx:=by simp[cU,Y,X,V]
    rw[h];refine gO aa (j3 @n @y @O) tI ?_;refine aq.dc (XO cls n2 q (σ.set id (.cells 219 [.ao 5 (code.map u8) F n1,.ao 221 (cls.map dj) q n2]))) (k0:=cls.length) ⟨0,by omega,by omega,rfl,rfl,rfl⟩ (aN.mk (by simp)) (lR _) ?_;rintro m fr σ' ⟨i,hm,hi,d,rfl,rfl⟩;by_cases H:i<cls.length
    ·obtain⟨r,hg,hd,Q,_⟩:=gQ cls H;have L:((i:Int)<cls.length)=True:=by simp;omega
     rw[hd]at d;have v:dj r= .agg [zI r.kd,zI r.ta,zI r.tl,zI r.ha,zI r.hl,zI r.ex]:=rfl;have G:=fun σ=>wR r σ;have I:=wQ r;have M:Dx r=(qR r).all Hn:=rfl;rw[all_cons,M]at d;simp only[v]at G;generalize qR r=l at G I d;refine gO aa (j3 L @hg @v) tI ?_;intro af o K;refine gO aa tI @G ?_;refine aq.dc (XP cls n2 q (σ.set id (.cells 219 [.ao 5 (code.map u8) F n1,.ao 221 (cls.map dj) q n2])) i l) (k0:=6) ⟨0,by omega,by omega,rfl,rfl,rfl⟩ (aN.mk (by simp)) (an (by simp[*]) (lR _)) ?_;rintro m2 fr ab ⟨k,al,am,j,rfl,rfl⟩;by_cases ap:k<6
     ·obtain⟨x,g,J,_,_⟩:=gQ l (i:=k) (by omega);have w:((k:Int)<6)=True:=by simp;omega
      rw[J]at j;rw[all_cons]at j;by_cases E:x<0
      ·have u:Hn x=false:=by simp[Hn];omega
       refine gO aa (j4 @w @g @E @aF) tI ?_;simp[d,j,u];all_goals (repeat (first|exact lR _ |refine an (by simp[*]) ?_))
      ·by_cases P:65535<x
       ·have u:Hn x=false:=by simp[Hn];omega
        refine gO aa (j5 @w @g @E @P @aF) tI ?_;simp[d,j,u];all_goals (repeat (first|exact lR _ |refine an (by simp[*]) ?_))
       ·have u:Hn x=true:=by simp[Hn];omega
        refine gO aa (j5 @w @g @E @P @aF) tI ?_;refine⟨m2-1,_,_,by omega,aN.mk ?_,lR _,k+1,by omega,by omega,by rw[j,u,Bool.true_and],rfl,rfl⟩;simp[gW (show k<4000000000000000000 by omega)]
     ·have w:((k:Int)<6)=False:=by simp;omega
      have:l.drop k= []:=drop_eq_nil_of_le (by omega);rw[this]at j;refine gO aa @w tI ?_;refine⟨m-1,_,_,by omega,aN.mk ?_,lR _,i+1,by omega,by omega,by rw[d,j];simp,rfl,rfl⟩;simp[gW (show i<4000000000000000000 by omega)]
    ·have L:((i:Int)<cls.length)=False:=by simp;omega
     have:cls.drop i= []:=drop_eq_nil_of_le (by omega);rw[this]at d;refine gO aa L tI ?_;simp[d];all_goals (repeat (first|exact lR _ |refine an (by simp[*]) ?_))
   ·have n:((code.length:Int)<1)=False:=by simp;omega
    have y:(65535<(code.length:Int))=False:=by simp;omega
    have O:(6<(cls.length:Int))=True:=by simp;omega
    have h:cU code cls=false:=by simp[cU,V]
    rw[h];refine gO aa (j3 @n @y @O) tI ?_;all_goals (repeat (first|exact lR _ |refine an (by simp[*]) ?_))
  ·have n:((code.length:Int)<1)=False:=by simp;omega
   have y:(65535<(code.length:Int))=True:=by simp;omega
   have h:cU code cls=false:=by simp[cU,X]
   rw[h];refine gO aa (j2 @n @y) tI ?_;all_goals (repeat (first|exact lR _ |refine an (by simp[*]) ?_))
 ·have n:((code.length:Int)<1)=True:=by simp;omega
  have h:cU code cls=false:=by simp[cU,Y]
  rw[h];refine gO aa @n tI ?_;all_goals (repeat (first|exact lR _ |refine an (by simp[*]) ?_))
def qV (r:R6):zY:=(qR r).flatMap fun n=>aX n 2
def tr (l:zY):zY:=l++List.replicate ((4-l.length%4)%4) 0
def mC (c:Nat) (code:zY):zY:= [UInt8.ofNat c,0,0,0]++aX code.length 4++code
def cp (code:zY) (cls:List R6):zY:=
 if cls= []then(if code.length<64 then UInt8.ofNat (4*code.length+2)::code else mC 3 code)
 else tr (mC 11 code)++ [1,UInt8.ofNat cls.length,0,0]++cls.flatMap qV
def Bu (code:zY) (l j:cC) (n1 n2:Bool) (v:cU code []=true) (n:code.length<64) (σ:AS):
 ad prog 190 [.agg [.ao 5 (code.map u8) l n1,.ao 221 [] j n2]] σ
  (kQ (fun i=> .bI [.ao 5 ((cp code []).map u8) (.tok i) false,zI 0]) (cp code []).length σ) No:=by
 have h1:=fun σ=>nH code [] l j n1 n2 (by omega) (by simp) σ;simp only[map_nil]at h1;rw[v]at h1;have w:((code.length:Int)<64)=True:=by simp;omega
 have w1:zW ((code.length:Int)*4)=code.length*4:=az (by omega) (by omega);have u:Dz 64 ((code.length:Int)*4) 2=code.length*4+2:=oA 2 (by omega) (by omega) (c:=code.length) (by omega) (by omega) (by omega);have q:zW ((code.length:Int)*4+2)=code.length*4+2:=az (by omega) (by omega);have o:IntKind.u8.wrap ((code.length:Int)*4+2)=((UInt8.ofNat (4*code.length+2)).toNat:Int):=by rw[Bx];simp;omega
 refine ad.ob func190 ?_;refine gO aa tI tI ?_;intro id h;refine gO aa (j7 @w @w1 @u @q @o @underlying3 @underlying5) (j2 @h1 @pz) ?_;intro i d g;refine gO aa tI tI ?_;refine da i g (ff (by simp[cp,n])) ?_;simp[cp,n];exact jf (an h (lR _)) (by omega)
def GG (code:zY) (l j:cC) (n1 n2:Bool) (u:cU code []=true) (q:¬code.length<64) (E:code.length≤65535) (σ:AS):
 ad prog 190 [.agg [.ao 5 (code.map u8) l n1,.ao 221 [] j n2]] σ
  (kQ (fun i=> .bI [.ao 5 ((cp code []).map u8) (.tok i) false,zI 0]) (cp code []).length σ) No:=by
 have h1:=fun σ=>nH code [] l j n1 n2 (by omega) (by simp) σ;simp only[map_nil]at h1;rw[u]at h1;have w:((code.length:Int)<64)=False:=by simp;omega
 have w1:IntKind.u64.wrap (code.length:Int)=code.length:=ng (by omega) (by omega);have n:=fun σ=>ot [3,0,0,0] .full false (by simp) (by simp) code.length 4 (by omega) (by omega) (by decide) σ;simp only[map_cons,map_nil,IG]at n;have o:=aA code.length 4;have v:cp code []= [3,0,0,0]++aX code.length 4++code:=by simp[cp,q,mC]
 rw[v];refine ad.ob func190 ?_;refine gO aa tI tI ?_;intro id h;refine gO aa (j4 @w @w1 @underlying3 @underlying137) (j3 @h1 @pz @n) ?_;intro i d g;generalize aX code.length 4=y at o⊢;refine gO aa d tI ?_;refine da i g (ff (by simp)) ?_;simp[o];exact jf (an h (lR _)) (by omega)
def Hh (l:zY) (h:¬l.length%4=0):tr (l++ [0])=tr l:=by
 unfold tr;have e:(4-l.length%4)%4=(4-(l++ [(0:UInt8)]).length%4)%4+1:=by simp;omega
 rw[e,replicate_succ,append_assoc];rfl
def Hi (l:zY) (h:l.length%4=0):tr l=l:=by unfold tr;simp[h]
def wL (l:zY):(tr l).length=(l.length+3)/4*4:=by unfold tr;simp;omega
def pT (r:R6):(qV r).length=12:=by simp[qV,qR,aA]
def CT (l:List R6):(l.flatMap qV).length=12*l.length:=by
 induction l with
 |nil=>rfl
 |cons r t d=>simp[pT,d];omega
def Ce {r:R6}(h:Dx r=true):∀x∈qR r,0≤x∧x≤65535:=by intro x d;have:=all_eq_true.1 h x d;simpa[Hn]using this
def XB (cls:List R6) (o:cC) (nl:Bool) (id:Nat) (L:zY) (B:AS) (m:Nat) (fr:Fr) (g:AS):Prop:=
 ∃(l:zY) (d:Nat),tr l=L∧m=(4-l.length%4)%4∧l.length≤L.length∧B d=none∧g=B.set d (.tok l.length)∧
  fr=iO [(1,.ptr id 0),(4,.ao 5 (l.map u8) (.tok d) false)]
def XC (cls:List R6) (o:cC) (nl:Bool) (L:zY) (B:AS) (m:Nat) (fr:Fr) (g:AS):Prop:=
 ∃(i:Nat) (d:Nat),m=cls.length-i∧i≤cls.length∧B d=none∧g=B.set d (.tok (L++(cls.take i).flatMap qV).length)∧
  fr=iO [(4,.ao 5 ((L++(cls.take i).flatMap qV).map u8) (.tok d) false),(69,.ao 221 (cls.map dj) o nl),(70,zI cls.length),(71,zI i)]
def Va (cls:List R6) (o:cC) (nl:Bool) (L:zY) (B:AS) (i:Nat) (l:List Int) (m:Nat) (fr:Fr) (g:AS):Prop:=
 ∃(k:Nat) (d:Nat),m=6-k∧k≤6∧B d=none∧g=B.set d (.tok (L++(l.take k).flatMap (aX · 2)).length)∧
  fr=iO [(4,.ao 5 ((L++(l.take k).flatMap (aX · 2)).map u8) (.tok d) false),(69,.ao 221 (cls.map dj) o nl),(70,zI cls.length),(71,zI i),
   (76,.agg (l.map aS)),(77,zI k)]
def GF (code:zY) (cls:List R6) (G w:cC) (n1 n2:Bool) (hr:cU code cls=true) (I:cls≠ []) (σ:AS):
 ad prog 190 [.agg [.ao 5 (code.map u8) G n1,.ao 221 (cls.map dj) w n2]] σ
  (kQ (fun d=> .bI [.ao 5 ((cp code cls).map u8) (.tok d) false,zI 0]) (cp code cls).length σ) No:=by
 obtain⟨g1,g2,g3,g4⟩:1≤code.length∧code.length≤65535∧cls.length≤6∧ ∀r∈cls,Dx r=true:=by simpa[cU]using hr
 have h1:=fun σ=>nH code cls G w n1 n2 (by omega) (by omega) σ;rw[hr]at h1;have ap:(cls= [])=False:=by simp[I]
 have bv:(0<cls.length)=True:=by have:=length_pos_iff.2 I;simp;omega
 have w1:IntKind.u64.wrap (code.length:Int)=code.length:=ng (by omega) (by omega);have V:=fun σ=>ot [11,0,0,0] .full false (by simp) (by simp) code.length 4 (by omega) (by omega) (by decide) σ;simp only[map_cons,map_nil,IG]at V;have hb:=aA code.length 4;have hW:cp code cls=tr ([11,0,0,0]++aX code.length 4++code)++ [1,UInt8.ofNat cls.length,0,0]++cls.flatMap qV:=by simp[cp,I,mC]
 rw[hW];generalize o:tr ([11,0,0,0]++aX code.length 4++code)=L;refine ad.ob func190 ?_;refine gO aa tI tI ?_;intro id al;refine gO (S:= [5,8]) aa @ap (j2 @h1 @pz) ?_
 with_reducible apply aq.eJ
 refine bq.sp rfl (ia.lX (by decide) ?_);simp-implicitDefEqProofs [bF];intro a4 v bs;refine bq.rest ?_;simp-implicitDefEqProofs;refine gO (S:= [5,8]) aa (j2 @bv v) tI ?_;refine aq.freeze 4 a4 (([11,0,0,0]:zY).map u8) (m:=4) (by simp) (by simp[*]) (by simp) (by simp) (by simp) ?_;simp-implicitDefEqProofs;refine gO aa (j3 @w1 @underlying3 @underlying137) @V ?_;intro d j E;clear V;generalize aX code.length 4=pb at hb o⊢;refine gO aa (j3 @ap @hb j) tI ?_;have hB:∀d,¬d=id→σ d=none→(σ.set id (.cells 219 [.ao 5 (code.map u8) G n1,.ao 221 (cls.map dj) w n2])) d=none:=by intro d h1 h2;simp[h1,h2]
 have a1:(σ.set id (.cells 219 [.ao 5 (code.map u8) G n1,.ao 221 (cls.map dj) w n2])) id=some (.cells 219 [.ao 5 (code.map u8) G n1,.ao 221 (cls.map dj) w n2]):=by simp
 have a0:AS.le σ (σ.set id (.cells 219 [.ao 5 (code.map u8) G n1,.ao 221 (cls.map dj) w n2])):=an al (lR _);have M:∀d,(σ.set id (.cells 219 [.ao 5 (code.map u8) G n1,.ao 221 (cls.map dj) w n2])) d=none→ ¬d=id∧ ¬id=d∧σ d=none:=by intro d h;simp at h;exact⟨h.1,fun e=>h.1 e.symm,h.2⟩
 have g:=hB d j E;generalize (σ.set id (.cells 219 [.ao 5 (code.map u8) G n1,.ao 221 (cls.map dj) w n2]))=B at*;have b0:(([11,0,0,0]++pb++code:zY)).length=8+code.length:=by simp[hb];omega
 refine aq.dc (XB cls w n2 id L B) ⟨[11,0,0,0]++pb++code,d,o,rfl,by rw[←o,wL];omega,g,rfl,rfl⟩ (aN.mk (by simp)) (jf (lR _) (by simp[hb];try omega)) ?_;have c2:L.length≤65600:=by rw[←o,wL];omega
 clear b0 hb o hW;rintro m fr σ' ⟨l,d,q,hm,hlen,g,rfl,rfl⟩;obtain⟨y,u,_⟩:=M d g;have e4:((l.length:Int)).tmod 4=((l.length%4:Nat):Int):=by rw[Int.tmod_eq_emod_of_nonneg (by omega)];rfl
 by_cases hz:l.length%4=0
 ·rw[Hi l hz]at q;subst q;have w5:IntKind.u8.wrap (cls.length:Int)=((UInt8.ofNat cls.length).toNat:Int):=by rw[Bx];simp
  refine gO aa (j7 @e4 @hz @a1 @u @w5 @underlying3 @underlying5) tI ?_;have av:(l++ [1,UInt8.ofNat cls.length,0,0]).length≤65604:=by simp;omega
  refine aq.dc (XC cls w n2 (l++ [1,UInt8.ofNat cls.length,0,0]) B) (k0:=cls.length) ⟨0,d,by omega,by omega,g,rfl,rfl⟩ (aN.mk (by simp)) (jf (lR _) (by simp)) ?_;generalize ar:l++ [1,UInt8.ofNat cls.length,0,0]=L at av⊢;clear hm hz e4 y u hlen w5;rintro m fr σ' ⟨i,d,hm,hi,g,rfl,rfl⟩;obtain⟨y,u,_⟩:=M d g;by_cases a9:i<cls.length
  ·obtain⟨r,hg,hd,ac,H⟩:=gQ cls a9;have hI:((i:Int)<cls.length)=True:=by simp;omega
   have T:dj r= .agg [zI r.kd,zI r.ta,zI r.tl,zI r.ha,zI r.hl,zI r.ex]:=rfl;have hn:=fun σ=>wR r σ;have bb:=wQ r;have ab:=Ce (g4 r ac);have hE:qV r=(qR r).flatMap fun n=>aX n 2:=rfl;have hX:(L++(cls.take i).flatMap qV).length≤65676:=by rw[length_append,CT,length_take];omega
   have K:L++(cls.take (i+1)).flatMap qV=L++(cls.take i).flatMap qV++(qR r).flatMap fun n=>aX n 2:=by rw[H,flatMap_append,←append_assoc];simp[hE]
   simp only[T]at hn;generalize qR r=F at hn bb ab K;generalize L++(cls.take i).flatMap qV=X at hX K⊢;refine gO aa (j3 hI @hg @T) tI ?_;intro id3 P bf;refine gO aa tI @hn ?_;refine aq.dc (Va cls w n2 X B i F) (k0:=6) ⟨0,d,rfl,by omega,g,rfl,rfl⟩ (aN.mk (by simp)) (an (by simp[*]) (jf (lR _) (by simp))) ?_;clear y u;rintro m2 fr cb ⟨k,d,ci,cj,g,rfl,rfl⟩;have c0:(X++(F.take k).flatMap (aX · 2)).length≤65700:=by
    have:∀l:List Int,(l.flatMap (aX · 2)).length=2*l.length:=by
     intro l;induction l with
     |nil=>rfl
     |cons a t ih=>simp[aA]at ih⊢;omega
    rw[length_append,this,length_take];omega
   by_cases ck:k<6
   ·obtain⟨x,bc,cs,a8,a6⟩:=gQ F (i:=k) (by omega);have hK:((k:Int)<6)=True:=by simp;omega
    obtain⟨x1,x2⟩:=ab x a8;have wx:IntKind.u64.wrap x=x:=ng (by omega) (by omega);have am:X++(F.take (k+1)).flatMap (aX · 2)=X++(F.take k).flatMap (aX · 2)++aX x 2:=by rw[a6,flatMap_append,←append_assoc];simp
    have V:=fun σ=>ot (X++(F.take k).flatMap (aX · 2)) (.tok d) false (by simp) (by omega) x 2 (by omega) (by omega) (by decide) σ;generalize X++(F.take k).flatMap (aX · 2)=Y at*;have be:=aA x 2;refine gO aa (j6 @hK @bc @aF @wx @underlying3 @underlying137) @V ?_;intro a3 O J;refine gO aa tI tI ?_;refine⟨m2-1,_,_,by omega,aN.mk ?_,?_,k+1,a3,by omega,by omega,J,rfl,rfl⟩
    ·rw[am];simp[gW (show k<4000000000000000000 by omega)]
    ·rw[am];exact jf (an g (lR _)) (by simp[be])
   ·have hK:((k:Int)<6)=False:=by simp;omega
    have Q:F.take k=F:=take_of_length_le (by omega);rw[Q];rw[←K];refine gO aa @hK tI ?_;refine⟨m-1,_,_,by omega,aN.mk ?_,jf (lR _) (by simp),i+1,d,by omega,by omega,g,rfl,rfl⟩;simp[gW (show i<4000000000000000000 by omega)]
  ·have hI:((i:Int)<cls.length)=False:=by simp;omega
   have:cls.take i=cls:=take_of_length_le (by omega);rw[this];obtain⟨_,_,E⟩:=M d g;refine gO aa hI tI ?_;refine da d E (ff (by simp[←ar])) ?_;exact jf a0 (by simp[←ar];omega)
 ·have a5:((l.length:Int)%4=0)=False:=by simp;omega
  refine gO aa (j2 @e4 @a5) tI ?_;refine⟨m-1,_,_,by omega,aN.mk ?_,lR _,l++ [0],d,by rw[Hh l hz];exact q,by simp;omega,by rw[←q,wL];simp;omega,g,by simp,rfl⟩;simp
def zq (code:zY) (cls:List R6) (g d:cC) (n1 n2:Bool):AV:= .agg [.ao 5 (code.map u8) g n1,.ao 221 (cls.map dj) d n2]
@[simp] def Wi:Program.eqGuardType prog prog.depth 221=false:=by kernel_rfl
def Bv (code:zY) (cls:List R6) (g d:cC) (n1 n2:Bool) (h:cU code cls=true) (σ:AS):
 ad prog 190 [zq code cls g d n1 n2] σ
  (kQ (fun l=> .bI [.ao 5 ((cp code cls).map u8) (.tok l) false,zI 0]) (cp code cls).length σ) No:=by
 by_cases j:cls= []
 ·subst j;by_cases i:code.length<64
  ·exact Bu code g d n1 n2 h i σ
  ·refine GG code g d n1 n2 h i ?_ σ;simp[cU]at h;omega
 ·exact GF code cls g d n1 n2 h j σ
def sQ (e:Int):AV:= .rM 316 (zI e)
def jy (id:Nat):AV:= .agg [.ptr id 0]
def zC (b:zY) (nl:Bool) (id:Nat) (e:Int) (σ:AS) (p:AV) (d:AS):Prop:=p=sQ e∧ ∃a:Int,d=σ.set id (bA b a nl)
def ag.iC {f:FuncId}{args:List AV}{b:zY}{nl:Bool}{id:Nat}{e:Int}{d σ:AS}{K g:AV→AS→Prop}(h:ad prog f args d No (zC b nl id e σ)) (i:∀a:Int,g (sQ e) (σ.set id (bA b a nl))):ag prog (.sc (.func (.func f) #[] #[])) args d K g:=
 .of h (fun _ _ h=>h.elim) (fun r j h=>by obtain⟨rfl,a,rfl⟩:=h;exact i a)
def cz {b:zY}{nl:Bool}{id:Nat}{e:Int}{σ:AS}{g:AV→AS→Prop}(h:∀a:Int,g (sQ e) (σ.set id (bA b a nl))):∀r d,zC b nl id e σ r d→g r d:=by rintro _ _ ⟨rfl,a,rfl⟩;exact h a
def aj {σ g:AS}{i:Nat}{x:bP}(h:AS.le σ g):AS.le (σ.set i x) (g.set i x):=by
 intro j y d;by_cases e:j=i
 ·subst e;simpa[AS.set]using d
 ·simp[AS.set,e]at d⊢;exact h j y d
def fF {σ:AS}{i:Nat}{x:bP}(h:σ i=some x):σ.set i x=σ:=by
 funext j;by_cases e:j=i
 ·subst e;simp[AS.set,h]
 ·simp[AS.set,e]
def iH (b:zY) (a n:Nat):Except Int (Int×Nat):=if a+n≤b.length then .ok (aY (cu b a n),a+n)else .error 1
def fJ (b:zY) (a:Nat) (c:Int):Except Int Nat:=
 match iH b a 1 with
 |.error e=> .error e
 |.ok (v,d)=>if v=c then .ok d else .error 2
def ir (b:zY) (a:Nat) (n:Int):Except Int (zY×Nat):=
 if n<1∨65535<n then .error 2 else if a+n≤b.length then .ok (cu b a n,a+n.toNat)else .error 1
def cD (e:Int) (σ:AS):ad prog 239 [zB true,zI e] σ (ah (.bI []) σ) No:=by refine ad.ob func239 ?_;exact gE aa tI tI
def cy (e:Int) (σ:AS):ad prog 239 [zB false,zI e] σ No (ah (sQ e) σ):=by refine ad.ob func239 ?_;refine gO aa tI tI ?_;exact⟨σ,lR _,rfl,rfl⟩
def vH {b:zY}{a n:Nat}{v:Int}{d:Nat}(h:iH b a n= .ok (v,d)):a+n≤b.length∧v=aY (cu b a n)∧d=a+n:=by
 unfold iH at h;split at h
 ·cases h;exact⟨by assumption,rfl,rfl⟩
 ·cases h
def CX {b:zY}{a n:Nat}{e:Int}(h:iH b a n= .error e):¬a+n≤b.length∧e=1:=by
 unfold iH at h;split at h
 ·cases h
 ·cases h;exact⟨by assumption,rfl⟩
def Mn {b:zY}{a n:Nat}(h:a+n≤b.length) (i:n≤4):0≤aY (cu b a n)∧aY (cu b a n)<4294967296:=by
 refine⟨ct _,?_⟩;have h1:=jb (cu b a n);have g:(cu b a n).length=n:=by have:=eC b a n (by omega) (by omega) (by omega);omega
 rw[g]at h1;generalize aY (cu b a n)=z at h1⊢;have d:n=0∨n=1∨n=2∨n=3∨n=4:=by omega
 rcases d with rfl|rfl|rfl|rfl|rfl<;>simp at h1<;>omega
def sF (id:Nat) (b:zY) (a n:Nat) (nl:Bool) (σ:AS) (h:σ id=some (bA b a nl)) (hl:b.length≤140737488355328) (hw:wide n=true) (q:n≤4) (v:Int) (l:Nat) (he:iH b a n= .ok (v,l)):
 ad prog 268 [jy id,zI n] σ (ah (zI v) (σ.set id (bA b l nl))) No:=by
 obtain⟨h1,rfl,rfl⟩:=vH he;have u:=Mn h1 q;have j:IntKind.i64.wrap (aY (cu b a n))=aY (cu b a n):=az (by omega) (by omega);have o:=fun σ h=>lN id b a n nl σ h (by omega) (by omega) hl hw (by omega);have g:=fun σ=>cD 0 σ;refine ad.ob func268 ?_;simp only[jy];refine gO aa tI tI ?_;intro i d;have n1:id≠i:=nq h d;refine gO aa (j2 @n1 @h) (j2 @o @g) ?_;rw[j];exact⟨Wk.refl _,aj (an d (lR _))⟩
def xL (id:Nat) (b:zY) (a n:Nat) (nl:Bool) (σ:AS) (h:σ id=some (bA b a nl)) (ha:a≤b.length) (hl:b.length≤140737488355328) (hw:wide n=true) (e:Int) (he:iH b a n= .error e):
 ad prog 268 [jy id,zI n] σ No (zC b nl id e σ):=by
 obtain⟨h1,rfl⟩:=CX he;have l:tz b a n=1:=by simp[tz,hw];omega
 have j:=fun σ h=>vw id b a n nl σ h (by omega) (by omega) hl (by omega);rw[l]at j;have g:=fun σ=>cy 1 σ;refine ad.ob func268 ?_;simp only[jy];refine gO aa tI tI ?_;intro i d;have n1:id≠i:=nq h d;refine gO aa (j2 @n1 @h) (j2 @j @g) ?_;exact⟨σ,an d (lR _),rfl,a,(fF h).symm⟩
def CY {b:zY}{a:Nat}{c:Int}{g:Nat}(h:fJ b a c= .ok g):iH b a 1= .ok (c,g):=by
 unfold fJ at h;cases d:iH b a 1 with
 |error e=>rw[d]at h;simp at h
 |ok v=>
  obtain⟨v,i⟩:=v;rw[d]at h;simp only at h;split at h
  ·rename_i e;subst e;cases h;rfl
  ·cases h
def zi {b:zY}{a:Nat}{c e:Int}(h:fJ b a c= .error e):iH b a 1= .error e∨(e=2∧ ∃v i,iH b a 1= .ok (v,i)∧v≠c):=by
 unfold fJ at h;cases d:iH b a 1 with
 |error e=>rw[d]at h;simp at h;subst h;exact .inl rfl
 |ok v=>
  obtain⟨v,g⟩:=v;rw[d]at h;simp only at h;split at h
  ·cases h
  ·cases h;exact .inr ⟨rfl,v,g,rfl,by assumption⟩
def Ld (id:Nat) (b:zY) (a:Nat) (nl:Bool) (σ:AS) (h:σ id=some (bA b a nl)) (hl:b.length≤140737488355328) (c:Int) (j:Nat) (he:fJ b a c= .ok j):
 ad prog 270 [jy id,zI c] σ (ah (.bI []) (σ.set id (bA b j nl))) No:=by
 have l:=fun σ h=>sF id b a 1 nl σ h hl (by decide) (by omega) c j (CY he);have g:=fun σ=>cD 2 σ;refine ad.ob func270 ?_;simp only[jy]at l⊢;refine gO aa tI tI ?_;intro i d;have n1:id≠i:=nq h d;refine gO aa (j2 @n1 @h) (j2 @l @g) ?_;exact aj (an d (lR _))
def H5 (id:Nat) (b:zY) (a:Nat) (nl:Bool) (σ:AS) (h:σ id=some (bA b a nl)) (ha:a≤b.length) (hl:b.length≤140737488355328) (c e:Int) (he:fJ b a c= .error e):
 ad prog 270 [jy id,zI c] σ No (zC b nl id e σ):=by
 have i:=fun σ=>cy 2 σ;rcases zi he with he|⟨rfl,v,o,he,n⟩
 ·have j:=fun σ h=>xL id b a 1 nl σ h ha hl (by decide) e he;refine ad.ob func270 ?_;simp only[jy]at j⊢;refine gO aa tI tI ?_;intro g d;have n1:id≠g:=nq h d;have l:=aK n1;refine gO aa (j2 @n1 @h) @j ?_;refine cz ?_;intro x;exact⟨_,aj (an d (lR _)),rfl,x,rfl⟩
 ·have j:=fun σ h=>sF id b a 1 nl σ h hl (by decide) (by omega) v o he;refine ad.ob func270 ?_;simp only[jy]at j⊢;refine gO aa tI tI ?_;intro g d;have n1:id≠g:=nq h d;have l:=aK n1;refine gO aa (j3 @n1 @h @n) (j2 @j @i) ?_;exact⟨_,aj (an d (lR _)),rfl,_,rfl⟩
def Dd (id:Nat) (b:zY) (a:Nat) (nl:Bool) (σ:AS) (q:nl=true→b= []) (h:σ id=some (bA b a nl)) (hl:b.length≤140737488355328) (n:Int) (l:zY) (E:Nat) (he:ir b a n= .ok (l,E)):
 ad prog 269 [jy id,zI n] σ (ah (.ao 5 (l.map u8) .aI false) (σ.set id (bA b E nl))) No:=by
 have d:=fun e σ=>cD e σ;unfold ir at he;by_cases y:n<1∨65535<n
 ·rw[if_pos y]at he;cases he
 rw[if_neg y]at he;by_cases u:a+n≤b.length
 ·rw[if_pos u]at he;cases he;have w:0<n:=by omega
  have v:n≤65535:=by omega
  have j:nl=false:=by
   cases nl with
   |false=>rfl
   |true=>have:=q rfl;subst this;simp at u;omega
  subst j;have G:=fun σ h=>zP id b a n false σ (by simp) h (by omega) (by omega) hl (by omega) (by omega);refine ad.ob func269 ?_;simp only[jy];refine gO aa tI tI ?_;intro o g;have n1:id≠o:=nq h g;refine gO aa (j2 @w @v) @d ?_;refine ag.of (G _ (by simp[AS.set,n1,h])) ?_ (fun _ _ h=>h.elim);rintro r H ⟨F,i,rfl,rfl⟩;simp-implicitDefEqProofs;refine gO aa (j2 @w @v) @d ?_;have e:(a:Int)+max n 0=a+n:=by omega
  have t1:F≠id:=by rintro rfl;simp[AS.set,n1,h]at i
  rw[e];exact an (by simp[AS.set,t1]at i⊢;exact i) (aj (an g (lR _)))
 ·rw[if_neg u]at he;cases he
def zu (id:Nat) (b:zY) (a:Nat) (nl:Bool) (σ:AS) (h:σ id=some (bA b a nl)) (ha:a≤b.length) (hl:b.length≤140737488355328) (n e:Int) (he:ir b a n= .error e):
 ad prog 269 [jy id,zI n] σ No (zC b nl id e σ):=by
 have j:=fun e σ=>cD e σ;have g:=fun e σ=>cy e σ;unfold ir at he;by_cases v:n<1∨65535<n
 ·rw[if_pos v]at he;cases he;refine ad.ob func269 ?_;simp only[jy];by_cases l:0<n
  ·have o:¬n≤65535:=by omega
   refine gO aa tI tI ?_;intro i d;refine gO aa (j2 @l @o) @g ?_;exact⟨σ,an d (lR _),rfl,a,(fF h).symm⟩
  ·refine gO aa tI tI ?_;intro i d;refine gO aa @l @g ?_;exact⟨σ,an d (lR _),rfl,a,(fF h).symm⟩
 rw[if_neg v]at he;by_cases u:a+n≤b.length
 ·rw[if_pos u]at he;cases he
 ·rw[if_neg u]at he;cases he;have l:0<n:=by omega
  have o:n≤65535:=by omega
  have w:oV b a n=1:=by simp[oV];omega
  have q:=fun σ h=>BF id b a n nl σ h (by omega) (by omega) hl (by omega);rw[w]at q;refine ad.ob func269 ?_;simp only[jy];refine gO aa tI tI ?_;intro i d;have n1:id≠i:=nq h d;refine gO aa (j4 @n1 @h @l @o) (j2 @j @q) ?_;refine gO aa tI @g ?_;exact⟨σ,an d (lR _),rfl,a,(fF h).symm⟩
def Bk (b:zY) (nl:Bool) (id:Nat) (e:Int) (B:AS) (x:bP):zC b nl id e (B.set id x)=zC b nl id e B:=by funext p d;simp[zC]
def TR (id:Nat) (b:zY) (a:Nat) (nl:Bool) (B:AS):ad prog 99 [.ptr id 0] (B.set id (bA b a nl)) (ah (zI a) (B.set id (bA b a nl))) No:=
 pf id b a nl _ (by simp)
def xK (id:Nat) (b:zY) (a n:Nat) (nl:Bool) (B:AS) (hl:b.length≤140737488355328) (hw:wide n=true) (g:n≤4) (v:Int) (d:Nat) (he:iH b a n= .ok (v,d)):
 ad prog 268 [jy id,zI n] (B.set id (bA b a nl)) (ah (zI v) (B.set id (bA b d nl))) No:=by
 have h:=sF id b a n nl (B.set id (bA b a nl)) (by simp) hl hw g v d he;simpa only[AS.set_set]using h
def ui (id:Nat) (b:zY) (a n:Nat) (nl:Bool) (B:AS) (ha:a≤b.length) (hl:b.length≤140737488355328) (hw:wide n=true) (e:Int) (he:iH b a n= .error e):
 ad prog 268 [jy id,zI n] (B.set id (bA b a nl)) No (zC b nl id e B):=by
 have h:=xL id b a n nl (B.set id (bA b a nl)) (by simp) ha hl hw e he;rwa [Bk]at h
def nO (id:Nat) (b:zY) (a:Nat) (nl:Bool) (B:AS) (hl:b.length≤140737488355328) (c:Int) (d:Nat) (he:fJ b a c= .ok d):
 ad prog 270 [jy id,zI c] (B.set id (bA b a nl)) (ah (.bI []) (B.set id (bA b d nl))) No:=by
 have h:=Ld id b a nl (B.set id (bA b a nl)) (by simp) hl c d he;simpa only[AS.set_set]using h
def lY (id:Nat) (b:zY) (a:Nat) (nl:Bool) (B:AS) (ha:a≤b.length) (hl:b.length≤140737488355328) (c e:Int) (he:fJ b a c= .error e):
 ad prog 270 [jy id,zI c] (B.set id (bA b a nl)) No (zC b nl id e B):=by
 have h:=H5 id b a nl (B.set id (bA b a nl)) (by simp) ha hl c e he;rwa [Bk]at h
def H9 (id:Nat) (b:zY) (a:Nat) (nl:Bool) (B:AS) (d:nl=true→b= []) (hl:b.length≤140737488355328) (n:Int) (l:zY) (g:Nat) (he:ir b a n= .ok (l,g)):
 ad prog 269 [jy id,zI n] (B.set id (bA b a nl)) (ah (.ao 5 (l.map u8) .aI false) (B.set id (bA b g nl))) No:=by
 have h:=Dd id b a nl (B.set id (bA b a nl)) d (by simp) hl n l g he;simpa only[AS.set_set]using h
def ER (id:Nat) (b:zY) (a:Nat) (nl:Bool) (B:AS) (ha:a≤b.length) (hl:b.length≤140737488355328) (n e:Int) (he:ir b a n= .error e):
 ad prog 269 [jy id,zI n] (B.set id (bA b a nl)) No (zC b nl id e B):=by
 have h:=zu id b a nl (B.set id (bA b a nl)) (by simp) ha hl n e he;rwa [Bk]at h
def RD {α:Type}(x:Except Int (α×Nat)) (f:α→AV) (b:zY) (nl:Bool) (id:Nat) (σ:AS) (r:AV) (d:AS):Prop:= ∃v a,x= .ok (v,a)∧r=f v∧d=σ.set id (bA b (a:Nat) nl)
def TD {α:Type}(x:Except Int α) (b:zY) (nl:Bool) (id:Nat) (σ:AS) (p:AV) (d:AS):Prop:= ∃e,x= .error e∧zC b nl id e σ p d
def RD.ok {α:Type}{f:FuncId}{args:List AV}{x:Except Int (α×Nat)}{g:α→AV}{b:zY}{nl:Bool}{id:Nat}{σ:AS}{v:α}{a:Nat}(h:ad prog f args σ (RD x g b nl id σ) (TD x b nl id σ)) (d:x= .ok (v,a)):
 ad prog f args σ (ah (g v) (σ.set id (bA b a nl))) No:=
 h.mono (fun r i j=>by obtain⟨n,o,h1,rfl,rfl⟩:=j;rw[d]at h1;cases h1;exact⟨rfl,rfl⟩) (fun p i l=>by obtain⟨e,h1,_⟩:=l;rw[d]at h1;cases h1)
def RD.bad {α:Type}{f:FuncId}{args:List AV}{x:Except Int (α×Nat)}{g:α→AV}{b:zY}{nl:Bool}{id:Nat}{σ:AS}{e:Int}(h:ad prog f args σ (RD x g b nl id σ) (TD x b nl id σ)) (d:x= .error e):
 ad prog f args σ No (zC b nl id e σ):=
 h.mono (fun r i j=>by obtain⟨o,q,h1,_,_⟩:=j;rw[d]at h1;cases h1) (fun p i l=>by obtain⟨e,h1,n⟩:=l;rw[d]at h1;cases h1;exact n)
def rG (b:zY):Nat→Nat→Except Int Nat
 |0,a=> .ok a
 |k+1,a=>match fJ b a 0 with
  |.error e=> .error e
  |.ok d=>rG b k d
def jo (b:zY):Nat→Nat→Except Int (List Int×Nat)
 |0,a=> .ok ([],a)
 |k+1,a=>match iH b a 2 with
  |.error e=> .error e
  |.ok (v,g)=>match jo b k g with
   |.error e=> .error e
   |.ok (l,d)=> .ok (v::l,d)
def r6 (l:List Int):R6:=⟨l.getD 0 0,l.getD 1 0,l.getD 2 0,l.getD 3 0,l.getD 4 0,l.getD 5 0⟩
def jn (b:zY):Nat→Nat→Except Int (List R6×Nat)
 |0,a=> .ok ([],a)
 |k+1,a=>match jo b 6 a with
  |.error e=> .error e
  |.ok (l,g)=>match jn b k g with
   |.error e=> .error e
   |.ok (rs,d)=> .ok (r6 l::rs,d)
def ey (b:zY) (fr a:Nat):Except Int (List R6×Nat):=
 match rG b ((4-(a-fr)%4)%4) a with
 |.error e=> .error e
 |.ok j=>match fJ b j 1 with
  |.error e=> .error e
  |.ok i=>match iH b i 1 with
   |.error e=> .error e
   |.ok (n,h)=>if n<1∨6<n then .error 2 else match fJ b h 0 with
    |.error e=> .error e
    |.ok g=>match fJ b g 0 with
     |.error e=> .error e
     |.ok d=>jn b n.toNat d
def pre {α:Type}(d:List α):Except Int (List α×Nat)→Except Int (List α×Nat)
 |.error e=> .error e
 |.ok (l,a)=> .ok (d++l,a)
def JF (b:zY) (d:List Int) (k a:Nat):pre d (jo b (k+1) a)=match iH b a 2 with|.error e=> .error e|.ok (v,g)=>pre (d++ [v]) (jo b k g):=by
 simp only[jo];cases iH b a 2 with
 |error e=>rfl
 |ok x=>
  obtain⟨v,g⟩:=x;simp only;cases jo b k g with
  |error e=>rfl
  |ok y=>obtain⟨l,h⟩:=y;simp[pre]
def JE (b:zY) (d:List R6) (k a:Nat):pre d (jn b (k+1) a)=match jo b 6 a with|.error e=> .error e|.ok (l,g)=>pre (d++ [r6 l]) (jn b k g):=by
 simp only[jn];cases jo b 6 a with
 |error e=>rfl
 |ok x=>
  obtain⟨v,g⟩:=x;simp only;cases jn b k g with
  |error e=>rfl
  |ok y=>obtain⟨l,h⟩:=y;simp[pre]
def pV {b:zY}{a n:Nat}{v:Int}{d:Nat}(h:iH b a n= .ok (v,d)):a≤d∧d≤b.length:=by obtain⟨h1,_,rfl⟩:=vH h;omega
def lz {b:zY}{a:Nat}{c:Int}{d:Nat}(h:fJ b a c= .ok d):d=a+1∧d≤b.length:=by obtain⟨h1,_,rfl⟩:=vH (CY h);omega
def ug (l:List Int) (hl:l.length=6) (σ:AS):ad prog 276 [.agg (l.map aS)] σ (ah (dj (r6 l)) σ) No:=by
 match l,hl with
 |[a,b,c,d,e,f],_ =>refine ad.ob func276 ?_;simp[aF,r6,dj];refine gO aa tI tI ?_;intro id i;refine gO aa tI tI ?_;intro j g h;refine gO aa g tI ?_;all_goals (repeat (first|exact lR _ |refine an (by simp[i,h,g]) ?_))
def Yq (b:zY) (nl:Bool) (fr:Nat) (id d:Nat) (X:Except Int Nat) (B:AS) (m:Nat) (f:Fr) (g:AS):Prop:=
 ∃a:Nat,m=(4-(a-fr)%4)%4∧fr≤a∧a≤b.length∧rG b m a=X∧g=B.set id (bA b a nl)∧
  f=iO [(1,zI fr),(2,.ptr d 0)]
def Yr (b:zY) (nl:Bool) (n:Nat) (id h:Nat) (X:Except Int (List R6×Nat)) (B:AS) (m:Nat) (f:Fr) (j:AS):Prop:=
 ∃(i a:Nat) (d:List R6) (v:AV) (D:AS),m=n-i∧i≤n∧a≤b.length∧d.length=i∧pre d (jn b (n-i) a)=X∧
  ((i=0∧v= .ai∧D=B)∨(∃g,0<i∧B g=none∧v= .ao 221 (d.map dj) (.tok g) false∧D=B.set g (.tok i)))∧j=D.set id (bA b a nl)∧
  f=iO [(2,.ptr h 0),(6,v),(33,zI n),(34,zI i)]
def Ys (b:zY) (nl:Bool) (n i:Nat) (id g id3:Nat) (v:AV) (X:Except Int (List Int×Nat)) (D:AS) (m:Nat) (f:Fr) (h:AS):Prop:=
 ∃(k a:Nat) (d:List Int),m=6-k∧k≤6∧a≤b.length∧d.length=k∧pre d (jo b (6-k) a)=X∧
  h=(D.set id3 (.cells 230 (d.map aS++List.replicate (6-k) (aS 0)))).set id (bA b a nl)∧
  f=iO [(2,.ptr g 0),(6,v),(7,.ptr id3 0),(33,zI n),(34,zI i),(36,zI k)]
def Qg {B B':AS}{id id3 g:Nat}{R C T:bP}(h:∀j,j≠g→B' j=B j) (n:B id3=none) (n1:g≠id):AS.le ((B.set g T).set id R) (((B'.set id3 C).set id R).set g T):=by
 intro j x i;by_cases d:j=g
 ·subst d;simpa[AS.set,n1]using i
 ·by_cases l:j=id
  ·subst l;simpa[AS.set,d]using i
  ·have o:j≠id3:=by rintro rfl;simp[AS.set,d,l,n]at i
   simp[AS.set,d,l]at i;simp[AS.set,d,l,o,h j d,i]
def De (id:Nat) (b:zY) (fr a:Nat) (nl:Bool) (σ:AS) (h:σ id=some (bA b a nl)) (ha:a≤b.length) (hf:fr≤a) (hl:b.length≤140737488355328):
 ad prog 271 [jy id,zI fr] σ (RD (ey b fr a) (fun l=> .ao 221 (l.map dj) .aI false) b nl id σ) (TD (ey b fr a) b nl id σ):=by
 have V:=fun e σ=>cD e σ;have bv:=fun e σ=>cy e σ;refine ad.ob func271 ?_;simp only[jy];refine gO aa tI tI ?_;intro M P;have n1:id≠M:=nq h P;have F:=aK n1;refine gO aa tI tI ?_;generalize hB:σ.set M (.cells 324 [.ptr id 0])=B;have b0:B id=some (bA b a nl):=by rw[←hB];simp[n1,h]
 have u:B M=some (.cells 324 [.ptr id 0]):=by rw[←hB];simp
 refine aq.dc (Yq b nl fr id M (rG b ((4-(a-fr)%4)%4) a) B) (k0:=(4-(a-fr)%4)%4) ⟨a,rfl,hf,ha,rfl,rfl,rfl⟩ (aN.mk (by simp)) (by rw[fF b0];exact lR _) ?_;rintro m f σ' ⟨Y,hm,h1,h2,H,rfl,rfl⟩;have J:IntKind.i64.wrap ((Y:Int)-fr)=((Y-fr:Nat):Int):=by rw[az (by omega) (by omega)];omega
 have I:((Y-fr:Nat):Int).tmod 4=(((Y-fr)%4:Nat):Int):=by rw[Int.tmod_eq_emod_of_nonneg (by omega)];omega
 have L:=TR id b Y nl B;cases m with
 |succ m=>
  have hz:(((Y-fr:Nat):Int)%4=0)=False:=by simp;omega
  simp only[rG]at H;cases T:fJ b Y 0 with
  |error e=>
   rw[T]at H;simp only at H;have o:=lY id b Y nl B h2 hl 0 e T;refine gO aa (j5 @J @I @hz @F @u) (j2 @L @o) ?_;refine cz ?_;intro x;refine⟨_,?_,e,?_,rfl,x,rfl⟩
   ·rw[←hB];exact aj (an P (lR _))
   ·simp only[ey,←H]
  |ok a2=>rw[T]at H;simp only at H;obtain⟨rfl,hlen⟩:=lz T;have o:=nO id b Y nl B hl 0 _ T;refine gO aa (j5 @J @I @hz @F @u) (j2 @L @o) ?_;refine⟨m,_,_,by omega,aN.mk (by simp),lR _,Y+1,by omega,by omega,by omega,H,by simp,rfl⟩
 |zero=>
  have hz:(((Y-fr:Nat):Int)%4=0)=True:=by simp;omega
  simp only[rG]at H;have E:ey b fr a=match fJ b Y 1 with
   |.error e=> .error e
   |.ok a2=>match iH b a2 1 with
    |.error e=> .error e
    |.ok (n,a3)=>if n<1∨6<n then .error 2 else match fJ b a3 0 with
     |.error e=> .error e
     |.ok a4=>match fJ b a4 0 with
      |.error e=> .error e
      |.ok a5=>jn b n.toNat a5:=by simp only[ey,←H]
  clear H;generalize ey b fr a=X at E⊢;have hle:∀x:Nat,AS.le (σ.set id (bA b x nl)) (B.set id (bA b x nl)):=fun x=>by rw[←hB];exact aj (an P (lR _))
  have ab:∀x:Int,AS.le (σ.set id (bA b x nl)) (B.set id (bA b x nl)):=fun x=>by rw[←hB];exact aj (an P (lR _))
  have no:∀e,X= .error e→ ∀x:Int,∃σ',AS.le σ' (B.set id (bA b x nl))∧TD X b nl id σ (sQ e) σ':=fun e he x=>⟨_,ab x,e,he,rfl,x,rfl⟩;cases T:fJ b Y 1 with
  |error e=>rw[T]at E;have o:=lY id b Y nl B h2 hl 1 e T;refine gO aa (j5 @J @I @hz @F @u) (j2 @L @o) ?_;refine cz ?_;exact no e E
  |ok a2=>
  rw[T]at E;simp only at E;have o:=nO id b Y nl B hl 1 _ T;have l2:=lz T;cases hN:iH b a2 1 with
  |error e=>rw[hN]at E;have O:=ui id b a2 1 nl B l2.2 hl (by decide) e hN;refine gO aa (j5 @J @I @hz @F @u) (j3 @L @o @O) ?_;refine cz ?_;exact no e E
  |ok x=>
  obtain⟨n,a3⟩:=x;rw[hN]at E;simp only at E;have O:=xK id b a2 1 nl B hl (by decide) (by omega) n a3 hN;have l3:=pV hN;by_cases hn:n<1∨6<n
  ·rw[if_pos hn]at E;by_cases af:0<n
   ·have ap:¬n≤6:=by omega
    refine gO aa (j7 @J @I @hz @F @u @af @ap) (j4 @L @o @O @bv) ?_;exact no 2 E _
   ·refine gO aa (j6 @J @I @hz @F @u @af) (j4 @L @o @O @bv) ?_;exact no 2 E _
  rw[if_neg hn]at E;have af:0<n:=by omega
  have ap:n≤6:=by omega
  cases am:fJ b a3 0 with
  |error e=>rw[am]at E;have ar:=lY id b a3 nl B (by omega) hl 0 e am;refine gO aa (j7 @J @I @hz @F @u @af @ap) (j5 @L @o @O @V @ar) ?_;refine cz ?_;exact no e E
  |ok a4=>
  rw[am]at E;simp only at E;have ar:=nO id b a3 nl B hl 0 _ am;have l4:=lz am;cases al:fJ b a4 0 with
  |error e=>rw[al]at E;have bc:=lY id b a4 nl B (by omega) hl 0 e al;refine gO aa (j7 @J @I @hz @F @u @af @ap) (j6 @L @o @O @V @ar @bc) ?_;refine cz ?_;exact no e E
  |ok a5=>
  rw[al]at E;simp only at E;have bc:=nO id b a4 nl B hl 0 _ al;have l5:=lz al;refine gO aa (j7 @J @I @hz @F @u @af @ap) (j6 @L @o @O @V @ar @bc) ?_;obtain⟨N,rfl⟩:∃N:Nat,n=N:=⟨n.toNat,by omega⟩;simp only[Int.toNat_natCast]at E;refine aq.dc (Yr b nl N id M X B) (k0:=N) ⟨0,a5,[],.ai,B,by omega,by omega,l5.2,rfl,by rw[E];cases jn b N a5<;>rfl,.inl ⟨rfl,rfl,rfl⟩,rfl,rfl⟩ (aN.mk (by simp)) (lR _) ?_;clear E al bc am ar hN O T o L J I hz hle;rintro m f σ' ⟨i,a6,d,v,D,hm,hi,l6,hd,H,hD,rfl,rfl⟩;have b3:D M=some (.cells 324 [.ptr id 0]):=by
   rcases hD with⟨_,_,rfl⟩|⟨tk,_,K,_,rfl⟩
   ·exact u
   ·have:M≠tk:=by rintro rfl;rw[u]at K;cases K
    simp[this,u]
  have bf:∀x:bP,AS.le (B.set id x) (D.set id x):=by
   intro x;rcases hD with⟨_,_,rfl⟩|⟨tk,_,K,_,rfl⟩
   ·exact lR _
   ·exact aj (an K (lR _))
  by_cases d3:i<N
  ·have hI:((i:Int)<N)=True:=by simp;omega
   have b1:N-i=(N-i-1)+1:=by omega
   rw[b1,JE]at H;refine gO aa hI tI ?_;intro id3 g G;have q:=aK g;have n3:¬M=id3:=nq b3 G;have db:=aK n3;refine gO aa tI tI ?_;have av:∀x y:bP,((D.set id x).set id3 y)=((D.set id3 y).set id x):=by
    intro x y;funext j;by_cases e1:j=id
    ·subst e1;simp[AS.set,q]
    ·by_cases e2:j=id3
     ·subst e2;simp[AS.set,e1]
     ·simp[AS.set,e1,e2]
   have be:∀x y:bP,((D.set id3 y).set id x)=((D.set id x).set id3 y):=fun x y=>(av x y).symm;have cl:∀x y z:bP,(((D.set id3 z).set id x).set id3 y)=((D.set id3 y).set id x):=by
    intro x y z;funext j;by_cases e1:j=id
    ·subst e1;simp[AS.set,q]
    ·by_cases e2:j=id3
     ·subst e2;simp[AS.set,e1]
     ·simp[AS.set,e1,e2]
   generalize c5:jo b 6 a6=E6 at H;refine aq.dc (Ys b nl N i id M id3 v E6 D) (k0:=6) ⟨0,a6,[],rfl,by omega,l6,rfl,by rw[←c5];cases jo b 6 a6<;>rfl,rfl,rfl⟩ (aN.mk (by simp)) ?_ ?_
   ·rw[av];exact lR _
   rintro m2 f σ' ⟨k,a7,nm,O,hk,l7,cd,Q,rfl,rfl⟩;by_cases d4:k<6
   ·have hK:((k:Int)<6)=True:=by simp;omega
    have bb:6-k=(6-k-1)+1:=by omega
    rw[bb,JF]at Q;cases T:iH b a7 2 with
    |error e=>rw[T]at Q;have o:=ui id b a7 2 nl (D.set id3 (.cells 230 (nm.map aS++List.replicate (6-k) (aS 0)))) l7 hl (by decide) e T;refine gO aa (j6 @hK @b3 @F @n3 g q) @o ?_;refine cz ?_;intro x;simp only at Q;subst Q;simp only at H;refine no e H.symm x|>.imp fun σ' h=>⟨AS.le_trans h.1 (AS.le_trans (bf _) (by rw[be];exact an (by simp[AS.set,g,G]) (lR _))),h.2⟩
    |ok y=>
     obtain⟨w,a8⟩:=y;rw[T]at Q;simp only at Q;have o:=xK id b a7 2 nl (D.set id3 (.cells 230 (nm.map aS++List.replicate (6-k) (aS 0)))) hl (by decide) (by omega) w a8 T;refine gO aa (j6 @hK @b3 @F @n3 g q) @o ?_;have b2:List.take k (nm.map aS++List.replicate (6-k) (aS 0))++(zI w)::List.drop (k+1) (nm.map aS++List.replicate (6-k) (aS 0))=(nm++ [w]).map aS++List.replicate (6-(k+1)) (aS 0):=by
      have e1:List.take k (nm.map aS++List.replicate (6-k) (aS 0))=nm.map aS:=by rw[take_append_of_le_length (by simp;omega),take_of_length_le (by simp;omega)]
      have e2:List.drop (k+1) (nm.map aS++List.replicate (6-k) (aS 0))=List.replicate (6-(k+1)) (aS 0):=by rw[drop_append,drop_of_length_le (by simp;omega),nil_append];simp[cd];omega
      rw[e1,e2];simp[aF]
     rw[b2];clear hD;refine⟨m2-1,_,_,by omega,aN.mk ?_,lR _,k+1,a8,nm++ [w],by omega,by omega,(pV T).2,by simp;omega,Q,rfl,rfl⟩;simp[gW (show k<4000000000000000000 by omega)]
   ·have hK:((k:Int)<6)=False:=by simp;omega
    obtain rfl:k=6:=by omega
    simp only[Nat.sub_self,replicate_zero,append_nil,jo,pre]at Q⊢;have h6:List.take 6 (nm.map aS)=nm.map aS:=take_of_length_le (by simp;omega);rw[←Q]at H;simp only at H;have ce:=fun σ=>ug nm cd σ;rcases hD with⟨h0,rfl,rfl⟩|⟨tk,d5,K,rfl,rfl⟩
    ·obtain rfl:d= []:=length_eq_zero_iff.1 (by omega);refine gO aa (j3 @h6 @dj.eq_1 g) @ce ?_;intro tk t1 t3 K;have cc:=aK t1;have a9:=aK t3;refine gO aa tI tI ?_;clear bf no ab;refine⟨m-1,_,_,by omega,aN.mk ?_,Qg (B:=D) (B':=D) (id3:=id3) (fun _ _ =>rfl) G t1,1,a7,[r6 nm],_,_,by omega,by omega,l7,rfl,?_,.inr ⟨tk,by omega,K,rfl,rfl⟩,rfl,rfl⟩
     ·simp[h0,show IntKind.i64.wrap 1=1 from by kernel_rfl,dj]
     ·rw[←H,h0];rfl
    ·have t1:¬tk=id:=nq b0 K;have t3:¬tk=id3:=by rintro rfl;simp[AS.set]at G
     have cc:=aK t1;have a9:=aK t3;have h3:B id3=none:=by simpa[AS.set,a9]using G
     refine gO aa (j8 @h6 @dj.eq_1 @t1 @cc @t3 @a9 @hd g) @ce ?_;clear bf no ab;refine⟨m-1,_,_,by omega,aN.mk ?_,aj (an (by simp[AS.set,a9,h3]) (lR _)),i+1,a7,d++ [r6 nm],_,_,by omega,by omega,l7,by simp[hd],?_,.inr ⟨tk,by omega,K,rfl,rfl⟩,rfl,rfl⟩
     ·simp[gW (show i<4000000000000000000 by omega),dj]
     ·exact H
  ·have hI:((i:Int)<N)=False:=by simp;omega
   have hz:N-i=0:=by omega
   rw[hz]at H;simp only[jn,pre,append_nil]at H;refine gO aa hI tI ?_;refine⟨.ao 221 (d.map dj) .aI false,_,?_,AS.le_trans (ab _) (bf _),d,a6,H.symm,rfl,rfl⟩;rcases hD with⟨h0,_,_⟩|⟨tk,_,K,rfl,_⟩
   ·omega
   ·simp
end Bd
end Go.Proofs.YtknalmoackcpbaaGreat
