/- Facts on the types of this seat, each reckoned by the kernel (printed by facts.py). -/
import Derived.Test.YtknalmoackcpbaaGreatProg
import Derived.KernelRfl
import Derived.Test.YtknalmoackcpbaaGreatAwLink
set_option maxRecDepth 100000
set_option maxHeartbeats 3200000
set_option maxHeartbeats 800000
set_option linter.all false
open Go Go.AW
namespace Go.Proofs.YtknalmoackcpbaaGreat
open Tryz
@[simp] theorem SE:fC prog 2= .one∧Program.cellsOf prog 2=1∧fC prog 3= .one∧Program.cellsOf prog 3=1∧Program.bytesOf prog 3=8∧az prog 3=zI 0∧fC prog 4= .one∧Program.cellsOf prog 4=1∧fC prog 5= .one∧Program.cellsOf prog 5=1∧Program.bytesOf prog 5=1∧az prog 5= .sc (.int .u8 0):=by and_intros<;>kernel_rfl
@[simp] theorem SC:fC prog 9= .one∧Program.cellsOf prog 9=1∧Program.bytesOf prog 9=16∧az prog 9= .sc (.string .empty)∧fC prog 22= .one∧Program.cellsOf prog 22=1∧bC prog 22=some 46∧fC prog 23= .one∧Program.cellsOf prog 23=1∧bC prog 23=some 56∧fC prog 24= .one∧Program.cellsOf prog 24=1:=by and_intros<;>kernel_rfl
@[simp] theorem QM:bC prog 24=some 53∧fC prog 26= .agg 4∧Program.cellsOf prog 26=4∧az prog 26= .agg [.aC,.aC,.aC,zI 0]∧cE prog 26=true∧aB prog 26 0=some (0,1)∧aB prog 26 1=some (1,1)∧aB prog 26 2=some (2,1)∧aB prog 26 3=some (3,1)∧fC prog 30= .one∧Program.cellsOf prog 30=1∧Program.bytesOf prog 30=24:=by and_intros<;>kernel_rfl
@[simp] theorem QK:az prog 30= .aC∧bC prog 30=some 5∧fC prog 31= .one∧Program.cellsOf prog 31=1∧az prog 31=zI 0∧fC prog 44= .one∧Program.cellsOf prog 44=1∧Program.bytesOf prog 44=24∧az prog 44= .aC∧bC prog 44=some 3∧fC prog 46= .agg 4∧Program.cellsOf prog 46=4:=by and_intros<;>kernel_rfl
@[simp] theorem QW:Program.bytesOf prog 46=56∧az prog 46= .agg [.sc (.string .empty),zI 0,zI 0,.aC]∧aB prog 46 0=some (0,1)∧aB prog 46 1=some (1,1)∧aB prog 46 2=some (2,1)∧aB prog 46 3=some (3,1)∧fC prog 47= .one∧Program.cellsOf prog 47=1∧Program.bytesOf prog 47=24∧az prog 47= .aC∧bC prog 47=some 49∧fC prog 49= .agg 4:=by and_intros<;>kernel_rfl
@[simp] theorem QV:Program.cellsOf prog 49=4∧Program.bytesOf prog 49=32∧az prog 49= .agg [zI 0,zI 0,zI 0,zB false]∧cE prog 49=true∧aB prog 49 0=some (0,1)∧aB prog 49 1=some (1,1)∧aB prog 49 2=some (2,1)∧aB prog 49 3=some (3,1)∧fC prog 50= .one∧Program.cellsOf prog 50=1∧bC prog 50=some 110∧fC prog 51= .one:=by and_intros<;>kernel_rfl
@[simp] theorem QU:Program.cellsOf prog 51=1∧bC prog 51=some 158∧fC prog 53= .agg 12∧Program.cellsOf prog 53=12∧Program.bytesOf prog 53=168∧az prog 53= .agg [.sc (.string .empty),zI 0,zI 0,.aC,zI 0,zI 0,zI 0,zB false,.aC,zI 0,.aC,.aC]∧aB prog 53 0=some (0,1)∧aB prog 53 1=some (1,1)∧aB prog 53 2=some (2,1)∧aB prog 53 3=some (3,1)∧aB prog 53 4=some (4,4)∧aB prog 53 5=some (8,1):=by and_intros<;>kernel_rfl
@[simp] theorem Og:aB prog 53 6=some (9,1)∧aB prog 53 7=some (10,1)∧aB prog 53 8=some (11,1)∧fC prog 56= .agg 7∧Program.cellsOf prog 56=7∧Program.bytesOf prog 56=64∧az prog 56= .agg [.sc (.string .empty),zI 0,zI 0,zI 0,zI 0,zB false,zB false]∧aB prog 56 0=some (0,1)∧aB prog 56 1=some (1,1)∧aB prog 56 2=some (2,4)∧aB prog 56 3=some (6,1)∧fC prog 60= .one:=by and_intros<;>kernel_rfl
@[simp] theorem QR:fC prog 61= .one∧Program.cellsOf prog 61=1∧bC prog 61=some 94∧fC prog 63= .agg 2∧az prog 63= .agg [zI 0,.aC]∧cE prog 63=true∧aB prog 63 0=some (0,1)∧aB prog 63 1=some (1,1)∧fC prog 64= .one∧Program.cellsOf prog 64=1∧aB prog 66 0=some (0,1)∧aB prog 66 1=some (1,1):=by and_intros<;>kernel_rfl
@[simp] theorem QQ:fC prog 67= .one∧Program.cellsOf prog 67=1∧bC prog 67=some 47∧fC prog 68= .one∧Program.cellsOf prog 68=1∧aB prog 70 0=some (0,1)∧aB prog 70 1=some (1,1)∧fC prog 71= .one∧Program.cellsOf prog 71=1∧bC prog 71=some 9∧fC prog 72= .one∧Program.cellsOf prog 72=1:=by and_intros<;>kernel_rfl
@[simp] theorem QL:bC prog 72=some 30∧az prog 74= .agg [.aC,.aC,.aC,zI 0,.aC,.sc .nilFunc,.aC,.sc .nilFunc,.aC,.aC,.aC,zI 0,.aC]∧cE prog 74=true∧aB prog 74 0=some (0,4)∧aB prog 74 1=some (4,2)∧aB prog 74 2=some (6,2)∧aB prog 74 3=some (8,1)∧aB prog 74 4=some (9,1)∧aB prog 74 5=some (10,1)∧aB prog 74 6=some (11,2)∧fC prog 78= .agg 2∧Program.cellsOf prog 78=2:=by and_intros<;>kernel_rfl
@[simp] theorem QJ:az prog 78= .agg [zI 0,zI 0]∧oP prog 78=some (2,3):=by and_intros<;>kernel_rfl
@[simp] theorem QP:∀i,aB prog 78 i=some (i*1,1):=fun i=>by kernel_rfl
@[simp] theorem QZ:cE prog 78=true∧az prog 79= .agg [zI 0,zI 0,zI 0,zI 0,zI 0,zI 0]∧oP prog 79=some (3,78):=by and_intros<;>kernel_rfl
@[simp] theorem QO:∀i,aB prog 79 i=some (i*2,2):=fun i=>by kernel_rfl
@[simp] theorem QY:cE prog 79=true∧az prog 81= .agg [zI 0,zI 0,zI 0,zI 0,zI 0,zI 0,zI 0,zI 0]∧oP prog 81=some (4,78):=by and_intros<;>kernel_rfl
@[simp] theorem QN:∀i,aB prog 81 i=some (i*2,2):=fun i=>by kernel_rfl
@[simp] theorem QX:cE prog 81=true∧fC prog 85= .agg 4∧az prog 85= .agg [.aC,.aC,.aC,.aC]∧cE prog 85=true∧aB prog 85 0=some (0,1)∧aB prog 85 1=some (1,1)∧aB prog 85 2=some (2,1)∧aB prog 85 3=some (3,1)∧az prog 88= .agg [.aC,.aC,.aC,.aC,.aC,zI 0,.aC]∧cE prog 88=true∧aB prog 88 0=some (0,1)∧aB prog 88 1=some (1,1):=by and_intros<;>kernel_rfl
@[simp] theorem Of:aB prog 88 2=some (2,1)∧aB prog 88 3=some (3,1)∧aB prog 88 4=some (4,1)∧aB prog 88 5=some (5,2)∧fC prog 91= .agg 3∧Program.cellsOf prog 91=3∧az prog 91= .agg [.aC,.aC,zI 0]∧cE prog 91=true∧aB prog 91 0=some (0,1)∧aB prog 91 1=some (1,1)∧aB prog 91 2=some (2,1)∧fC prog 94= .one:=by and_intros<;>kernel_rfl
@[simp] theorem QT:Program.cellsOf prog 94=1∧Program.bytesOf prog 94=24∧az prog 94= .aC∧bC prog 94=some 44∧fC prog 110= .agg 6∧Program.cellsOf prog 110=6∧Program.bytesOf prog 110=48∧az prog 110= .agg [zI 0,zI 0,zI 0,zI 0,zI 0,zB false]∧cE prog 110=true∧aB prog 110 0=some (0,1)∧aB prog 110 1=some (1,1)∧aB prog 110 2=some (2,4):=by and_intros<;>kernel_rfl
@[simp] theorem Pq:fC prog 129= .one∧az prog 131= .agg [.aC,.sc (.map none)]∧cE prog 131=true∧aB prog 131 0=some (0,1)∧aB prog 131 1=some (1,1)∧Program.cellsOf prog 141=4∧az prog 141= .agg [.aC,.aC,.aC,.aC]∧aB prog 141 0=some (0,1)∧aB prog 141 1=some (1,1)∧aB prog 141 2=some (2,1)∧aB prog 141 3=some (3,1)∧az prog 142= .agg [zI 0,zI 0,zI 0,zI 0]:=by and_intros<;>kernel_rfl
@[simp] theorem Pz:oP prog 142=some (4,3)∧az prog 149= .agg [zB false,.aC,zI 0,zI 0,zI 0,zB false]∧cE prog 149=true∧aB prog 149 0=some (0,1)∧aB prog 149 1=some (1,1)∧aB prog 149 2=some (2,4)∧fC prog 158= .agg 10∧Program.cellsOf prog 158=10∧Program.bytesOf prog 158=80∧az prog 158= .agg [zI 0,zI 0,zI 0,zI 0,zI 0,zI 0,zI 0,zI 0,zI 0,zB false]∧aB prog 158 0=some (0,1)∧aB prog 158 1=some (1,1):=by and_intros<;>kernel_rfl
@[simp] theorem Np:aB prog 158 2=some (2,1)∧aB prog 158 3=some (3,1)∧aB prog 158 4=some (4,1)∧aB prog 158 5=some (5,1)∧aB prog 158 6=some (6,4)∧Program.cellsOf prog 169=2∧az prog 169= .agg [zI 0,zI 0]∧aB prog 169 0=some (0,1)∧aB prog 169 1=some (1,1)∧fC prog 194= .agg 3∧Program.cellsOf prog 194=3∧az prog 194= .agg [.sc (.string .empty),zI 0,zI 0]:=by and_intros<;>kernel_rfl
@[simp] theorem Px:cE prog 194=true∧aB prog 194 0=some (0,1)∧aB prog 194 1=some (1,1)∧aB prog 194 2=some (2,1)∧fC prog 200= .agg 4∧az prog 200= .agg [zI 0,zI 0,zI 0,zB false]∧cE prog 200=true∧aB prog 200 0=some (0,1)∧aB prog 200 1=some (1,1)∧aB prog 200 2=some (2,1)∧aB prog 200 3=some (3,1)∧fC prog 206= .one:=by and_intros<;>kernel_rfl
@[simp] theorem Pj:az prog 207= .agg [.sc (.int .u32 0),.sc (.int .u32 0),.sc (.int .u32 0),.sc (.int .u32 0),.sc (.int .u32 0)]∧oP prog 207=some (5,206):=by and_intros<;>kernel_rfl
@[simp] theorem Pp:∀i,aB prog 207 i=some (i*1,1):=fun i=>by kernel_rfl
@[simp] theorem Pw:cE prog 207=true∧fC prog 210= .one∧az prog 212= .agg [.sc .nilFunc,.sc .nilFunc,.sc .nilFunc,.sc .nilFunc]∧oP prog 212=some (4,210):=by and_intros<;>kernel_rfl
@[simp] theorem Po:∀i,aB prog 212 i=some (i*1,1):=fun i=>by kernel_rfl
@[simp] theorem Pv:cE prog 212=true∧fC prog 217= .one∧Program.cellsOf prog 217=1∧bC prog 217=some 221∧fC prog 219= .agg 2∧Program.cellsOf prog 219=2∧az prog 219= .agg [.aC,.aC]∧cE prog 219=true∧aB prog 219 0=some (0,1)∧aB prog 219 1=some (1,1)∧fC prog 221= .agg 6∧Program.cellsOf prog 221=6:=by and_intros<;>kernel_rfl
@[simp] theorem Pr:Program.bytesOf prog 221=48∧az prog 221= .agg [zI 0,zI 0,zI 0,zI 0,zI 0,zI 0]∧cE prog 221=true∧aB prog 221 0=some (0,1)∧aB prog 221 1=some (1,1)∧aB prog 221 2=some (2,1)∧aB prog 221 3=some (3,1)∧aB prog 221 4=some (4,1)∧aB prog 221 5=some (5,1)∧fC prog 230= .agg 6∧Program.cellsOf prog 230=6∧az prog 230= .agg [zI 0,zI 0,zI 0,zI 0,zI 0,zI 0]:=by and_intros<;>kernel_rfl
@[simp] theorem Py:oP prog 230=some (6,3):=by kernel_rfl
@[simp] theorem Pm:∀i,aB prog 230 i=some (i*1,1):=fun i=>by kernel_rfl
@[simp] theorem Pu:cE prog 230=true∧fC prog 267= .one∧fC prog 295= .agg 2∧az prog 295= .agg [zI 0,zI 0]∧cE prog 295=true∧aB prog 295 0=some (0,1)∧aB prog 295 1=some (1,1)∧fC prog 297= .one∧bC prog 297=some 302∧fC prog 300= .agg 2∧az prog 300= .agg [zI 0,zI 0]∧cE prog 300=true:=by and_intros<;>kernel_rfl
@[simp] theorem Nn:aB prog 300 0=some (0,1)∧aB prog 300 1=some (1,1)∧fC prog 302= .agg 4∧Program.cellsOf prog 302=4∧Program.bytesOf prog 302=32∧az prog 302= .agg [zI 0,zI 0,zI 0,zI 0]∧cE prog 302=true∧aB prog 302 0=some (0,2)∧aB prog 302 1=some (2,2)∧fC prog 303= .one∧az prog 313= .agg [.aC,.aC,.aC]∧cE prog 313=true:=by and_intros<;>kernel_rfl
@[simp] theorem Nm:aB prog 313 0=some (0,1)∧aB prog 313 1=some (1,1)∧aB prog 313 2=some (2,1)∧fC prog 314= .one∧Program.cellsOf prog 314=1∧Program.cellsOf prog 315=9∧az prog 315= .agg [.sc .nilFunc,.sc .nilFunc,.sc .nilFunc,.sc .nilFunc,.sc .nilFunc,.sc .nilFunc,.sc .nilFunc,.sc .nilFunc,.sc .nilFunc]∧oP prog 315=some (9,314):=by and_intros<;>kernel_rfl
@[simp] theorem Pk:∀i,aB prog 315 i=some (i*1,1):=fun i=>by kernel_rfl
@[simp] theorem Ps:cE prog 315=true∧fC prog 319= .one:=by and_intros<;>kernel_rfl
theorem mixed:Tables.follows prog.toTables .mixedOrders=true:=by kernel_rfl
abbrev pJ:dW:=(.S 0 (.S 1 (.S 2 (.S 4 (.S 5 (.S 6 (.R 3 (.R 7 (.S 8 .D)))))))))
theorem aa (S:List Nat):cu prog [] S:=mixed
theorem pr (S:List Nat):cu prog [(6,pJ)] S:=mixed
def wide (n:Int):Bool:=decide (n=1)||decide (n=2)||decide (n=4)||decide (n=8)
theorem Jc (n:Int) (σ:AS):ad prog 144 [zI n] σ (aq (.sc (.bool (wide n))) σ) No:=by
 refine ad.ob func144 ?_;by_cases h1:n=1<;>by_cases o:n=2<;>by_cases l:n=4<;>by_cases j:n=8;all_goals
  refine gO aa (j4 @h1 @o @l @j) tI ?_;simp[wide,h1,o,l,j]
theorem AP (l:List AV) (own:cA) (nil:Bool) (hn:nil=true→l= []) (hl:l.length≤140737488355328) (σ:AS):
 ad prog 103 [.ah 5 l own nil] σ (gy (fun n=> .ah 5 l (.tok n) nil) l.length σ) No:=by
 refine ad.ob func103 ?_;cases nil with
 |true=>obtain rfl:=hn rfl;refine aA.seq (aA.region ?_);simp;refine aA.seq (aA.seq (aA.region ?_));simp[underlying30];refine aA.cond rfl (fun h=> ?_) (fun h=>by simp at h);refine aA.seq (aA.region ?_);simp;refine aA.fG 2 5 [] true (by decide) (by simp) (fun n j=> ?_);refine gO aa tI tI ?_;exact aW n j (by simp) (by simp)
 |false=>refine gO aa (j2 @underlying30 @hl) tI ?_;intro n j;refine gO aa tI tI ?_;exact aW n j (by simp) (by simp)
def aS (x:Int):Nat→zY
 |0=> []
 |n+1=>UInt8.ofNat (x%256).toNat::aS (x/256) n
theorem an (x:Int) (n:Nat):(aS x n).length=n:=by
 induction n generalizing x with
 |zero=>rfl
 |succ n j=>simp[aS,j]
theorem wY (x:Int) (n:Nat):aS x (n+1)=aS x n++ [UInt8.ofNat (x/256^n%256).toNat]:=by
 induction n generalizing x with
 |zero=>simp[aS]
 |succ n j=>rw[aS,j (x/256),aS,List.cons_append];congr 4;rw[Int.ediv_ediv_of_nonneg (by omega)];rw[Int.pow_succ,Int.mul_comm]
def RF (l:zY) (x n:Int) (j:Nat) (σ:AS) (m:Nat) (s:Fr) (σ':AS):Prop:=
 ∃(k:Nat) (nl:Bool),(m:Int)=n-k∧(k:Int)≤n∧(nl=true→k=0)∧
  s=gD [(1,.sc (.int .u64 (x/256^k))),(8,.ah 5 ((l++aS x k).map u8) (.tok j) nl),(14,zI n),(15,zI k)]∧
  σ'=σ.set j (.tok (l.length+k))
theorem mS (l:zY) (own:cA) (nil:Bool) (hn:nil=true→l= []) (hl:l.length≤1000000) (x n:Int) (w:0≤x) (v:x<18446744073709551616) (hw:wide n=true) (σ:AS):
 ad prog 77 [.ah 5 (l.map u8) own nil,.sc (.int .u64 x),zI n] σ
  (gy (fun j=> .cp [.ah 5 ((l++aS x n.toNat).map u8) (.tok j) false,zI 0]) (l.length+n.toNat) σ) No:=by
 have A:1≤n∧n≤8:=by simp[wide]at hw;omega
 refine ad.ob func77 ?_;refine gO aa tI tI ?_;refine aj.aL (Jc n _) ?_;simp[hw];refine gO aa tI tI ?_;refine aj.py (AP (l.map u8) own nil (fun h=>by simp[hn h]) (by simp;omega) σ) (fun j o=> ?_);simp;refine gO aa tI tI ?_;refine aA.cz (RF l x n j σ) (k0:=n.toNat) ⟨0,nil,by omega,by omega,by simp,rfl,rfl⟩ (aP.mk ?_) ?_ ?_
 ·simp[aS]
 ·simp
 ·rintro m s σ' ⟨k,nl,hm,H,q,rfl,rfl⟩;have y:(0:Int)<256^k:=Int.pow_pos (by omega);have D:0≤x/256^k:=Int.ediv_nonneg w (by omega);refine aA.seq (aA.region ?_);simp;refine aA.seq (aA.cond rfl (fun h=> ?_) (fun h=> ?_))
  ·simp at h;refine gO aa (j3 @underlying137 @underlying5 @an) tI ?_;refine⟨m-1,_,_,by omega,aP.mk ?_,lR _,k+1,false,by omega,by omega,by simp,rfl,rfl⟩;have G:x/256^(k+1)=x/256^k/256:=by rw[Int.ediv_ediv_of_nonneg (by omega),Int.pow_succ]
   have F:IntKind.i64.wrap ((k:Int)+1)=((k+1:Nat):Int):=by rw[aI (by omega) (by omega)];simp
   have E:IntKind.u8.wrap (x/256^k)=((UInt8.ofNat (x/256^k%256).toNat).toNat:Int):=by rw[nO];simp;omega
   simp[G,F,wY,u8,E]
  ·simp at h;refine gO aa tI tI ?_;have u:k=n.toNat:=by omega
   subst u;have:nl=false:=by cases nl with|false=>rfl|true=>have:=q rfl;omega
   subst this;exact aW j o (by simp) (by simp)
def fE (n:Int):Int:=if n<0∨536870911<n then 0 else if n<128 then 1 else if n<16384 then 2 else 4
theorem Jw (n:Int) (σ:AS):ad prog 142 [zI n] σ (aq (zI (fE n)) σ) No:=by
 refine ad.ob func142 ?_;by_cases h1:n<0<;>by_cases o:536870911<n<;>by_cases l:n<128<;>by_cases j:n<16384;all_goals try omega
 all_goals
  refine gO aa (j4 @h1 @o @l @j) tI ?_;try simp[fE,h1,o,l,j]
def TQ (b:zY) (j:Int) (nl:Bool):cL:= .cells 226 [.ah 5 (b.map u8) .aJ nl,zI j]
def OT (l:zY) (m:zY) (k:Nat) (s:Fr) (σ':AS) (o:cA) (n1 n2:Bool) (j:cA) (σ:AS):Prop:=
 ∃i:Nat,k=l.length-i∧i≤l.length∧l.take i=m.take i∧σ'=σ∧
  s=gD [(0,.ah 5 (l.map u8) o n1),(1,.ah 5 (m.map u8) j n2),(5,zI i)]
theorem tD (l m:zY) (o v:cA) (n1 n2:Bool) (hl:l.length≤140737488355328) (σ:AS):
 ad prog 40 [.ah 5 (l.map u8) o n1,.ah 5 (m.map u8) v n2] σ (aq (.sc (.bool (decide (l=m)))) σ) No:=by
 refine ad.ob func40 ?_;by_cases hlen:l.length=m.length
 ·refine gO pr @hlen tI ?_;refine aA.cz (OT l m · · · o n1 n2 v σ) (k0:=l.length) ⟨0,by omega,by omega,by simp,rfl,rfl⟩ (aP.mk (by simp)) (lR _) ?_;rintro k s σ' ⟨i,A,D,ht,rfl,rfl⟩;by_cases n:i<l.length
  ·have j:i<m.length:=by omega
   by_cases he:l[i]=m[i]
   ·repeat (first
     |refine g1 ?_
     |((first|refine g2 ?_ |((with_reducible apply dX 6 pJ);refine dY mixed ?_));simp-implicitDefEqProofs [n,j,he])
     |(refine g3 ?_;try simp-implicitDefEqProofs))
    refine⟨k-1,_,_,by omega,aP.mk ?_,lR _,i+1,by omega,by omega,?_,rfl,rfl⟩
    ·have w:IntKind.i64.wrap ((i:Int)+1)=((i+1:Nat):Int):=by rw[aI (by omega) (by omega)];simp
     simp[w]
    ·rw[List.take_add_one,List.take_add_one,ht,List.getElem?_eq_getElem n,List.getElem?_eq_getElem j,he]
   ·have q:l≠m:=fun h=>he (by simp[h]);have u:¬l[i].toNat=m[i].toNat:=fun h=>he (UInt8.toNat_inj.1 h);exact gE pr (j4 n j @u @q) tI
  ·have:l=m:=by
    have y:i=l.length:=by omega
    subst y;rw[List.take_length,hlen,List.take_length]at ht;exact ht
   refine gO pr n tI ?_;simp[this]
 ·have:l≠m:=fun h=>hlen (by rw[h]);refine gO pr @hlen tI ?_;try simp[this]
theorem C6 {a b:Bool}(h:a=b):AV.Wk prog (zB a) (zB b):=h ▸ Wk.refl _
structure Ty where
 kind:Int
 index:Int
 cT:Int
 ref:Bool
deriving DecidableEq
def cB (t:Ty):AV:= .agg [zI t.kind,zI t.index,zI t.cT,.sc (.bool t.ref)]
theorem Ul:Program.stoodInHeld prog 200=false:=by kernel_rfl
theorem Uk:Program.stoodInHeld prog 49=false:=by kernel_rfl
@[simp] theorem U4:Program.eqGuardType prog prog.depth 200=false:=by kernel_rfl
@[simp] theorem U3:Program.eqGuardType prog prog.depth 49=false:=by kernel_rfl
@[simp] theorem U2 (a b c o n l:Int) (r j:Bool):gP prog 8 200 (.agg [zI a,zI b,zI c,zB r]) (.agg [zI o,zI n,zI l,.sc (.bool j)])=
 some (decide (a=o)&&(decide (b=n)&&(decide (c=l)&&(r==j)))):=by
 simp[gP,ng,underlying200,underlying3,underlying4]
@[simp] theorem qT (a b c o n l:Int) (r j:Bool):gP prog 8 49 (.agg [zI a,zI b,zI c,zB r]) (.agg [zI o,zI n,zI l,.sc (.bool j)])=
 some (decide (a=o)&&(decide (b=n)&&(decide (c=l)&&(r==j)))):=by
 simp[gP,ng,underlying49,underlying3,underlying4]
def aV (t:Ty):Bool:=
 if t.cT<0∨3<t.cT∨t.index<0 then false else
 if t.kind=1 then decide (t.cT=0)&&(!t.ref&&decide (t.index=0))else
 if t.kind=2∨t.kind=3∨t.kind=4 then decide (t.index=0)else
 if t.kind=5∨t.kind=6 then decide (t.index<32)else if t.kind=7 then decide (t.index≤7)else false
theorem vd (k:Int):k=1∨k=2∨k=3∨k=4∨k=5∨k=6∨k=7∨(¬k=1∧ ¬k=2∧ ¬k=3∧ ¬k=4∧ ¬k=5∧ ¬k=6∧ ¬k=7):=by omega
theorem Ey (t:Ty) (σ:AS):ad prog 126 [cB t] σ (aq (.sc (.bool (aV t))) σ) No:=by
 obtain⟨k,x,d,r⟩:=t;refine ad.ob func126 ?_;simp only[cB];refine gO aa tI tI ?_;intro id j;by_cases d1:d<0
 ·refine gO aa @d1 tI ?_;simp[aV,d1];all_goals (repeat (first|exact lR _ |refine aw (by simp[j]) ?_))
 ·by_cases d2:3<d
  ·refine gO aa (j2 @d1 @d2) tI ?_;simp[aV,d1,d2];all_goals (repeat (first|exact lR _ |refine aw (by simp[j]) ?_))
  ·by_cases d3:x<0
   ·refine gO aa (j3 @d1 @d2 @d3) tI ?_;simp[aV,d1,d2,d3];all_goals (repeat (first|exact lR _ |refine aw (by simp[j]) ?_))
   ·rcases vd k with rfl|rfl|rfl|rfl|rfl|rfl|rfl|⟨k1,u,q,k4,o,n,l⟩
    rotate_right
    ·refine gO aa (j2 (j7 @d1 @d2 @d3 @k1 @u @q @k4) (j3 @o @n @l)) tI ?_;simp[aV,d1,d2,d3,k1,u,q,k4,o,n,l];all_goals (repeat (first|exact lR _ |refine aw (by simp[j]) ?_))
    ·by_cases v:d=0<;>cases r;all_goals
      refine gO aa (j4 @d1 @d2 @d3 @v) tI ?_;try simp[aV,d1,d2,d3,v]
      all_goals (repeat (first|exact lR _ |refine aw (by simp[j]) ?_))
    all_goals
     refine gO aa (j3 @d1 @d2 @d3) tI ?_;try simp[aV,d1,d2,d3]
     all_goals (repeat (first|exact lR _ |refine aw (by simp[j]) ?_))
theorem rO (t:Ty) (σ:AS):ad prog 194 [cB t] σ (aq (.sc (.bool (aV t))) σ) No:=by
 obtain⟨k,x,d,r⟩:=t;refine ad.ob func194 ?_;simp only[cB];refine gO aa tI tI ?_;intro id j;rcases vd k with rfl|rfl|rfl|rfl|rfl|rfl|rfl|⟨k1,v,u,k4,q,o,n⟩
 rotate_right
 ·refine gO aa (j7 @k1 @v @u @k4 @q @o @n) tI ?_;simp[aV,k1,v,u,k4,q,o,n];all_goals (repeat (first|exact lR _ |refine aw (by simp[j]) ?_))
 ·refine gO aa tI tI ?_;have e:(decide (x=0)&&(decide (d=0)&&(r==false)))=aV ⟨1,x,d,r⟩:=by
   unfold aV;by_cases h:d<0∨3<d∨x<0
   ·rw[if_pos h];by_cases h1:x=0<;>by_cases l:d=0<;>first|(exfalso;omega)|simp[h1,l]
   ·rw[if_neg h];cases r<;>by_cases h1:x=0<;>by_cases l:d=0<;>simp[h1,l]
  simp[←e];all_goals (repeat (first|exact lR _ |refine aw (by simp[j]) ?_))
 all_goals
  by_cases d3:0≤x
  ·by_cases d4:x≤31<;>by_cases d5:x≤7<;>by_cases d6:x≤0<;>by_cases d1:0≤d;all_goals
    first
    |(exfalso;omega)
    |skip
    repeat (first
     |refine g1 ?_
     |((first|refine g2 ?_);simp-implicitDefEqProofs [d1,d3,d4,d5,d6])
     |(refine g3 ?_;try simp-implicitDefEqProofs))
    try simp[aV]
    try (refine j2 (C6 (by rw[Bool.eq_iff_iff];simp;omega)) ?_)
    all_goals (repeat (first|exact lR _ |refine aw (by simp[j]) ?_))
  ·refine gO aa @d3 tI ?_;try simp[aV]
   try (refine j2 (C6 (by rw[Bool.eq_iff_iff];simp;omega)) ?_)
   all_goals (repeat (first|exact lR _ |refine aw (by simp[j]) ?_))
theorem oW (t:Ty) (σ:AS):ad prog 139 [cB t] σ (aq (.sc (.bool (aV t))) σ) No:=by
 refine ad.ob func139 ?_;have j:=fun σ=>rO t σ;cases n:aV t<;>obtain⟨k,x,d,r⟩:=t<;>rw[n]at j<;>simp only[cB]at j⊢;all_goals
  refine gO aa tI tI ?_;intro id l;refine gO aa tI @j ?_;all_goals (repeat (first|exact lR _ |refine aw (by simp[l]) ?_))
def aX (t:Ty):Bool:=aV t&& !decide (t.kind=1)
def cq (t:Ty):Bool:=aX t&& !t.ref
def cG (t:Ty):Bool:=aV t&& !t.ref
theorem xm (t:Ty) (σ:AS):ad prog 183 [cB t] σ (aq (.sc (.bool (aX t))) σ) No:=by
 refine ad.ob func183 ?_;have j:=fun σ=>rO t σ;cases n:aV t<;>obtain⟨k,x,d,r⟩:=t<;>rw[n]at j<;>simp only[cB]at j⊢;all_goals
  refine gO aa tI tI ?_;intro id l;refine gO aa tI @j ?_;try simp[aX,n]
  all_goals (repeat (first|exact lR _ |refine aw (by simp[l]) ?_))
theorem xp (t:Ty) (σ:AS):ad prog 134 [cB t] σ (aq (.sc (.bool (cq t))) σ) No:=by
 refine ad.ob func134 ?_;have j:=fun σ=>xm t σ;cases n:aX t<;>obtain⟨k,x,d,r⟩:=t<;>rw[n]at j<;>simp only[cB]at j⊢;all_goals
  refine gO aa tI tI ?_;intro id l;refine gO aa tI @j ?_;try simp[cq,n]
  all_goals (repeat (first|exact lR _ |refine aw (by simp[l]) ?_))
theorem ve (t:Ty) (σ:AS):ad prog 191 [cB t] σ (aq (.sc (.bool (cG t))) σ) No:=by
 refine ad.ob func191 ?_;have j:=fun σ=>rO t σ;cases n:aV t<;>obtain⟨k,x,d,r⟩:=t<;>rw[n]at j<;>simp only[cB]at j⊢;all_goals
  refine gO aa tI tI ?_;intro id l;refine gO aa tI @j ?_;try simp[cG,n]
  all_goals (repeat (first|exact lR _ |refine aw (by simp[l]) ?_))
def dU (t:Ty) (p:Int):Bool:=if p=1 then cq t else if p=2 then aX t else if p=3 then cG t else aV t
theorem mf (t:Ty) (p:Int) (σ:AS):ad prog 55 [cB t,zI p] σ (aq (.sc (.bool (dU t p))) σ) No:=by
 refine ad.ob func55 ?_;have l:=fun σ=>Ey t σ;cases n:aV t<;>obtain⟨k,x,d,r⟩:=t<;>rw[n]at l<;>simp only[cB]at l⊢
 ·refine gO aa tI tI ?_;intro id j;refine gO aa tI @l ?_;have e:dU ⟨k,x,d,r⟩ p=false:=by unfold dU cq cG aX;rw[n];simp
  simp[e];all_goals (repeat (first|exact lR _ |refine aw (by simp[j]) ?_))
 ·refine gO aa tI tI ?_;intro id j;by_cases q:p=1
  ·subst q;by_cases k1:k=1
   ·subst k1;refine gO aa tI @l ?_;simp[dU,cq,cG,aX,n];all_goals (repeat (first|exact lR _ |refine aw (by simp[j]) ?_))
   ·refine gO aa @k1 @l ?_;simp[dU,cq,cG,aX,n,k1];all_goals (repeat (first|exact lR _ |refine aw (by simp[j]) ?_))
  ·by_cases o:p=2
   ·subst o;refine gO aa tI @l ?_;simp[dU,cq,cG,aX,n];all_goals (repeat (first|exact lR _ |refine aw (by simp[j]) ?_))
   ·by_cases p3:p=3
    ·subst p3;refine gO aa tI @l ?_;simp[dU,cq,cG,aX,n];all_goals (repeat (first|exact lR _ |refine aw (by simp[j]) ?_))
    ·refine gO aa (j3 @q @o @p3) @l ?_;simp[dU,cq,cG,aX,n,q,o,p3];all_goals (repeat (first|exact lR _ |refine aw (by simp[j]) ?_))
def N0 (b:zY) (j n:Int):zY:=(b.take (j+n).toNat).drop j.toNat
def s9:zY→Int
 |[]=>0
 |c::r=>c.toNat+256*s9 r
theorem MN (i:Nat):(256:Int)^i=2^(8*i):=by rw[Int.pow_mul];rfl
def ct (id:Nat) (σ:AS) (l:zY) (n:Int) (nl:Bool) (m:Nat) (s:Fr) (σ':AS):Prop:=
 ∃i:Nat,m=l.length-i∧i≤l.length∧σ'=σ∧
  s=gD [(0,.ptr id 0),(1,zI n),(5,.sc (.int .u64 (s9 (l.take i)))),(22,.ah 5 (l.map u8) .aJ nl),(23,zI l.length),(24,zI i)]
theorem uG (n:Int) (σ:AS):ad prog 154 [zI n] σ (aq (zI (fE n)) σ) No:=by
 refine ad.ob func154 ?_;by_cases h1:n<0<;>by_cases u:536870911<n<;>by_cases q:n<128<;>by_cases o:n<16384;all_goals try omega
 all_goals
  have l:(n≤127)=(n<128):=propext ⟨fun _ =>by omega,fun _ =>by omega⟩;have j:(n≤16383)=(n<16384):=propext ⟨fun _ =>by omega,fun _ =>by omega⟩;refine gO aa (j6 @h1 @u @l @j @q @o) tI ?_;try simp[fE,h1,u,q,o]
def OW (x n:Int) (σ:AS) (m:Nat) (s:Fr) (σ':AS):Prop:=
 ∃k:Nat,(m:Int)=n-k∧(k:Int)≤n∧
  ((k=0∧σ'=σ∧s=gD [(0,.sc (.int .u64 x)),(1,zI n),(5,.aC),(6,zI 0)])∨
   ∃j,σ j=none∧0<k∧σ'=σ.set j (.tok k)∧
    s=gD [(0,.sc (.int .u64 (x/256^k))),(1,zI n),(5,.ah 5 ((aS x k).map u8) (.tok j) false),(6,zI k)])
theorem eN (x n:Int) (o:0≤x) (E:x<18446744073709551616) (h1:0<n) (K:n≤8) (σ:AS):
 ad prog 90 [.sc (.int .u64 x),zI n] σ (gy (fun l=> .ah 5 ((aS x n.toNat).map u8) (.tok l) false) n.toNat σ) No:=by
 refine ad.ob func90 ?_;refine gO aa tI tI ?_;refine aA.cz (OW x n σ) (k0:=n.toNat) ⟨0,by omega,by omega,.inl ⟨rfl,rfl,rfl⟩⟩ (aP.mk (by simp)) (lR _) ?_;rintro m s σ' ⟨k,hm,J,⟨rfl,rfl,rfl⟩|⟨l,j,F,rfl,rfl⟩⟩
 ·have w:IntKind.u8.wrap (x%256)=((UInt8.ofNat (x%256).toNat).toNat:Int):=by rw[nO];simp;omega
  have v:x.tmod 256=x%256:=Int.tmod_eq_emod_of_nonneg o;have u:x.tdiv 256=x/256:=Int.tdiv_eq_ediv_of_nonneg o;have D:IntKind.u64.wrap (x/256)=x/256:=gM (by omega) (by omega);refine gO aa (j7 @h1 @w @v @u @D @underlying137 @underlying5) tI ?_;intro l j;have y:IntKind.i64.wrap 1=1:=by decide
  refine gO aa (j7 @h1 @w @v @u @D @underlying137 @underlying5) tI ?_;refine⟨m-1,_,_,by omega,aP.mk ?_,lR _,1,by omega,by omega,.inr ⟨l,j,by omega,rfl,rfl⟩⟩;simp[aS,y]
 ·have q:0≤x/256^k:=Int.ediv_nonneg o (Int.le_of_lt (Int.pow_pos (by omega)));by_cases h:(k:Int)<n
  ·have w:IntKind.u8.wrap (x/256^k%256)=((UInt8.ofNat (x/256^k%256).toNat).toNat:Int):=by rw[nO];simp;omega
   have v:(x/256^k).tmod 256=x/256^k%256:=Int.tmod_eq_emod_of_nonneg q;have u:(x/256^k).tdiv 256=x/256^k/256:=Int.tdiv_eq_ediv_of_nonneg q;have I:x/256^k/256=x/256^(k+1):=by rw[Int.ediv_ediv_of_nonneg (Int.le_of_lt (Int.pow_pos (by omega))),Int.pow_succ]
   refine gO aa (j7 @h @w @v @u @underlying137 @underlying5 @an) tI ?_;refine⟨m-1,_,_,by omega,aP.mk ?_,lR _,k+1,by omega,by omega,.inr ⟨l,j,by omega,rfl,rfl⟩⟩;have y:IntKind.i64.wrap ((k:Int)+1)=((k+1:Nat):Int):=by rw[aI (by omega) (by omega)];simp
   have A:0≤x/256^(k+1):=Int.ediv_nonneg o (Int.le_of_lt (Int.pow_pos (by omega)));have G:x/256^(k+1)≤x:=Int.ediv_le_self _ o;have H:IntKind.u64.wrap (x/256^(k+1))=x/256^(k+1):=gM A (by omega);simp[wY,y,I,H]
  ·refine gO aa @h tI ?_;have:k=n.toNat:=by omega
   subst this;exact aW l j (by simp) (by simp)
def Gc (x:Int):Nat→zY
 |0=> []
 |k+1=>UInt8.ofNat (x/256^k%256).toNat::Gc x k
theorem fA (x:Int) (k:Nat):(Gc x k).length=k:=by
 induction k with
 |zero=>rfl
 |succ k j=>simp[Gc,j]
def iK (n:Int):Int:=if n<128 then n else if n<16384 then n+32768 else n+3221225472
def bG (n:Int):zY:=Gc (iK n) (fE n).toNat
def O7 (l:zY) (x:Int) (k j:Nat) (σ:AS) (m:Nat) (s:Fr) (σ':AS):Prop:=
 ∃(pre:zY) (nl:Bool),pre++Gc x m=Gc x k∧m≤k∧(nl=true→m=k)∧
  s=gD [(7,.sc (.int .u32 x)),(8,.ah 5 ((l++pre).map u8) (.tok j) nl),(9,zI (m-1))]∧
  σ'=σ.set j (.tok (l.length+pre.length))
theorem yk (n:Int) (h0:0≤n) (h1:n≤536870911):0≤iK n∧iK n<4294967296:=by unfold iK;split<;>(try split)<;>omega
theorem mT (l:zY) (own:cA) (nil:Bool) (hn:nil=true→l= []) (hl:l.length≤1000000) (n:Int) (h0:0≤n) (h1:n≤536870911) (σ:AS):
 ad prog 73 [.ah 5 (l.map u8) own nil,zI n] σ
  (gy (fun y=> .cp [.ah 5 ((l++bG n).map u8) (.tok y) false,zI 0]) (l++bG n).length σ) No:=by
 refine ad.ob func73 ?_;refine gO aa tI tI ?_;refine aj.aL (Jw n _) ?_;simp;have X:=yk n h0 h1;have hu:IntKind.u32.wrap n=n:=by rw[Lq];omega
 have q:(fE n=1∧D5 32 n 0=iK n)∨(fE n=2∧D5 32 n 32768=iK n)∨(fE n=4∧D5 32 n 3221225472=iK n):=by
  unfold fE iK;have V:¬(n<0∨536870911<n):=by omega
  rw[if_neg V];by_cases F:n<128
  ·simp only[F,if_true];refine .inl ⟨trivial,?_⟩;rw[re];have:=pV (w:=32) (a:=0) (b:=n) 7 h0 (by omega) (c:=0) (by omega) (by simp) (by omega);omega
  ·by_cases I:n<16384
   ·simp only[F,I,if_true,if_false];refine .inr (.inl ⟨trivial,?_⟩);rw[re];have:=pV (w:=32) (a:=32768) (b:=n) 14 h0 (by omega) (c:=2) (by omega) (by decide) (by omega);omega
   ·simp only[F,I,if_false];refine .inr (.inr ⟨trivial,?_⟩);rw[re];have:=pV (w:=32) (a:=3221225472) (b:=n) 30 h0 (by omega) (c:=3) (by omega) (by decide) (by omega);omega
 obtain⟨k,T,S,Q,u⟩:∃k:Nat,fE n=k∧0<k∧k≤4∧D5 32 n (([0,0,32768,0,3221225472]:List Int).getD k 0)=iK n:=by
  rcases q with⟨a,b⟩|⟨a,b⟩|⟨a,b⟩
  ·exact⟨1,a,by omega,by omega,b⟩
  ·exact⟨2,a,by omega,by omega,b⟩
  ·exact⟨4,a,by omega,by omega,b⟩
 have A:IntKind.u32.wrap (iK n)=iK n:=by rw[Lq];omega
 have o:k=1∨k=2∨k=4:=by rcases q with⟨a,_⟩|⟨a,_⟩|⟨a,_⟩<;>omega
 have v:(fE n).toNat=k:=by omega
 have P:bG n=Gc (iK n) k:=by simp[bG,v]
 rw[T];rcases o with rfl|rfl|rfl;all_goals
  simp at u;refine gO aa (j4 @hu @u @A @underlying206) tI ?_;refine aj.py (AP (l.map u8) own nil (fun h=>by simp[hn h]) (by simp;omega) σ) (fun y D=> ?_);simp;refine gO aa @C7 tI ?_;refine aA.cz (O7 l (iK n) (fE n).toNat y σ) (k0:=(fE n).toNat) ⟨[],nil,rfl,Nat.le_refl _,fun _ =>rfl,rfl,rfl⟩ (aP.mk (by simp[v])) (by simp) ?_;rintro m s σ' ⟨pre,nl,j,hm,E,rfl,rfl⟩;have G:pre.length+m=(fE n).toNat:=by have:=congrArg List.length j;simpa[fA]using this
  cases m with
  |zero=>
   have H:pre=bG n:=by simpa[Gc,bG]using j
   have:nl=false:=by cases nl with|false=>rfl|true=>have:=E rfl;omega
   subst this;refine gO aa tI tI ?_;exact aW y D (by simp[H]) (by simp[H])
  |succ m=>
   have O:IntKind.i64.wrap (8*(m:Int))=((8*m:Nat):Int):=by rw[aI (by omega) (by omega)];simp
   have L:min (8*m) 32=8*m:=by omega
   have J:(8*(m:Int)).toNat=8*m:=by omega
   have M:IntKind.u8.wrap (iK n/2^(8*m))=((UInt8.ofNat (iK n/256^m%256).toNat).toNat:Int):=by rw[nO,←MN];simp;omega
   have K:IntKind.i64.wrap ((m:Int)-1)=m-1:=aI (by omega) (by omega);have U:(0:Int)≤m:=by omega
   refine gO aa (j7 @U @O @L @J @M @underlying206 @underlying5) tI ?_;refine⟨m,_,_,by omega,aP.mk ?_,?_,pre++ [UInt8.ofNat (iK n/256^m%256).toNat],false,by simpa[Gc]using j,by omega,by simp,rfl,rfl⟩
   ·simp[K]
   ·simp[Nat.add_assoc]
theorem sB (n:Int) (h0:0≤n) (h1:n≤536870911):(n<128∧fE n=1)∨(¬n<128∧n<16384∧fE n=2)∨(¬n<128∧ ¬n<16384∧fE n=4):=by
 unfold fE;rw[if_neg (by omega)];by_cases j:n<128
 ·simp[j]
 ·by_cases l:n<16384<;>simp[j,l]
theorem M6 (x:Int):((UInt8.ofNat (x%256).toNat).toNat:Int)=x%256:=by simp;omega
theorem ky (n:Int) (h0:0≤n) (h1:n≤536870911) (σ:AS):
 ad prog 88 [zI n] σ (gy (fun q=> .ah 5 ((bG n).map u8) (.tok q) false) (bG n).length σ) No:=by
 refine ad.ob func88 ?_;have F:n.tdiv 256=n/256:=Int.tdiv_eq_ediv_of_nonneg h0;have O:n.tdiv 65536=n/65536:=Int.tdiv_eq_ediv_of_nonneg h0;have M:n.tdiv 16777216=n/16777216:=Int.tdiv_eq_ediv_of_nonneg h0;have E:n.tmod 256=n%256:=Int.tmod_eq_emod_of_nonneg h0;have L:(n/256).tmod 256=n/256%256:=Int.tmod_eq_emod_of_nonneg (by omega);have K:(n/65536).tmod 256=n/65536%256:=Int.tmod_eq_emod_of_nonneg (by omega);have D:zW (n/256)=n/256:=aI (by omega) (by omega);have J:zW (n/65536)=n/65536:=aI (by omega) (by omega);have I:zW (n/16777216)=n/16777216:=aI (by omega) (by omega);have H:zW (128+n/256)=128+n/256:=aI (by omega) (by omega);have G:zW (192+n/16777216)=192+n/16777216:=aI (by omega) (by omega);rcases sB n h0 h1 with⟨u,l⟩|⟨u,w,l⟩|⟨u,w,l⟩
 ·have o:bG n= [UInt8.ofNat (n%256).toNat]:=by simp[bG,l,Gc,iK,u]
  have v:=M6 n;refine gO aa (j3 @l @underlying3 @underlying5) (uG n) ?_;intro q j;refine gO aa tI tI ?_;exact aW q j (by rw[o];simp only[List.map,uu,v,nO];exact Wk.refl _) (by simp[o])
 ·have o:bG n= [UInt8.ofNat ((128+n/256)%256).toNat,UInt8.ofNat (n%256).toNat]:=by
   have:(n+32768)/256%256=(128+n/256)%256:=by omega
   have:(n+32768)%256=n%256:=by omega
   simp[bG,l,Gc,iK,u,w, *]
  have v:=M6 n;have A:=M6 (128+n/256);have y:n%256%256=n%256:=by omega
  refine gO aa (j7 @l @F @E @D @H @underlying3 @underlying5) (uG n) ?_;intro q j;refine gO aa tI tI ?_;exact aW q j (by rw[o];simp only[List.map,uu,v,A,y,nO];exact Wk.refl _) (by simp[o])
 ·have o:bG n= [UInt8.ofNat ((192+n/16777216)%256).toNat,UInt8.ofNat (n/65536%256).toNat,UInt8.ofNat (n/256%256).toNat,UInt8.ofNat (n%256).toNat]:=by
   have Y:(n+3221225472)/16777216%256=(192+n/16777216)%256:=by omega
   have X:(n+3221225472)/65536%256=n/65536%256:=by omega
   have V:(n+3221225472)/256%256=n/256%256:=by omega
   have U:(n+3221225472)%256=n%256:=by omega
   simp[bG,l,Gc,iK,u,w,Y,X,V,U]
  have v:=M6 n;have A:=M6 (n/256);have T:=M6 (n/65536);have S:=M6 (192+n/16777216);have P:n/256%256%256=n/256%256:=by omega
  have Q:n/65536%256%256=n/65536%256:=by omega
  have y:n%256%256=n%256:=by omega
  refine gO aa (j2 (j7 @l @F @O @M @E @L @K) (j6 @D @J @I @G @underlying3 @underlying5)) (uG n) ?_;intro q j;refine gO aa tI tI ?_;exact aW q j (by rw[o];simp only[List.map,uu,v,A,T,S,Q,P,y,nO];exact Wk.refl _) (by simp[o])
theorem yA (x:Int) (v:0≤x) (k:Nat):s9 (aS x k)=x%256^k:=by
 induction k generalizing x with
 |zero=>simp[aS,s9,Int.emod_one]
 |succ k j=>
  have h1:=j (x/256) (by omega);have l:((UInt8.ofNat (x%256).toNat).toNat:Int)=x%256:=by simp;omega
  simp only[aS,s9,h1,l];rw[Int.pow_succ,Int.mul_comm (256^k) 256];have w:(0:Int)<256^k:=Int.pow_pos (by omega);have u:=Int.emod_add_mul_ediv x (256*256^k);have o:=Int.emod_add_mul_ediv (x/256) (256^k);have n:x/256/256^k=x/(256*256^k):=Int.ediv_ediv_of_nonneg (by omega);rw[n]at o;rw[Int.mul_assoc]at u;generalize x/(256*256^k)=q at*;generalize 256^k*q=r at*;omega
def sg (b:zY) (a n:Nat):zY:=(b.drop a).take n
theorem MC (b:zY) (a n:Nat):N0 b a n=sg b a n:=by unfold N0 sg;rw[show((a:Int)+n).toNat=a+n by omega,show(a:Int).toNat=a by omega,List.drop_take];congr 1;omega
def At (b:zY) (a:Nat) (s:zY):Prop:=a+s.length≤b.length∧sg b a s.length=s
theorem At.app {b:zY}{a:Nat}{s t:zY} :At b a (s++t)↔At b a s∧At b (a+s.length) t:=by
 unfold At sg;rw[List.length_append,List.take_add,List.drop_drop];constructor
 ·rintro⟨h1,l⟩;have j:=List.append_inj l (by simp;omega);exact⟨⟨by omega,j.1⟩,by omega,j.2⟩
 ·rintro⟨⟨h1,l⟩,j,n⟩;exact⟨by omega,by rw[l,n]⟩
theorem At.cons {b:zY}{a:Nat}{c:UInt8}{t:zY} :At b a (c::t)↔At b a [c]∧At b (a+1) t:=by have:=At.app (b:=b) (a:=a) (s:= [c]) (t:=t);simpa using this
def bS (t:Int):zY:=
 if t=0 then [50,110,105,105,105]else if t=1 then [50,110,98]else if t=2 then [52,50,50,110,98,105]else if t=3 then [105,105]else if t=4 then [98]else if t=5 then [98]else []
def Jo (l:zY):AV:=zS l
theorem Am (t:Int) (σ:AS):ad prog 78 [zI t] σ (aq (Jo (bS t)) σ) No:=by
 refine ad.ob func78 ?_;simp only[Jo,bS];by_cases h0:t=0
 ·subst h0;exact gE aa tI tI
 by_cases h1:t=1
 ·subst h1;exact gE aa tI tI
 by_cases o:t=2
 ·subst o;exact gE aa tI tI
 by_cases n:t=3
 ·subst n;exact gE aa tI tI
 by_cases l:t=4
 ·subst l;exact gE aa tI tI
 by_cases j:t=5
 ·subst j;exact gE aa tI tI
 exact gE aa (j6 @h0 @h1 @o @n @l @j) tI
theorem CB (t:Int) (σ:AS):ad prog 143 [zI t] σ (aq (zI ((bS t).length)) σ) No:=by have j:=fun σ=>Am t σ;simp only[Jo]at j;refine ad.ob func143 ?_;exact gE aa tI @j
theorem zH (t:Int) (σ:AS):ad prog 89 [zI t] σ (aq (zI ((bS t).length)) σ) No:=by
 refine ad.ob func89 ?_;simp only[bS];by_cases h0:t=0
 ·subst h0;exact gE aa tI tI
 by_cases h1:t=1
 ·subst h1;exact gE aa tI tI
 by_cases o:t=2
 ·subst o;exact gE aa tI tI
 by_cases n:t=3
 ·subst n;exact gE aa tI tI
 by_cases l:t=4
 ·subst l;exact gE aa tI tI
 by_cases j:t=5
 ·subst j;exact gE aa tI tI
 exact gE aa (j6 @h0 @h1 @o @n @l @j) tI
def wK (k:UInt8) (m:Nat):Int:=if k=52∨(k=110∧m%2=1)∨(k=98∧2≤m)then 4 else 2
theorem Gg (k:UInt8) (m:Nat) (hm:m≤3) (σ:AS):ad prog 79 [.sc (.int .i32 k.toNat),zI m] σ (aq (zI (wK k m)) σ) No:=by
 have j:m=0∨m=1∨m=2∨m=3:=by omega
 have v:(k=52)=(k.toNat=52):=propext ⟨fun h=>by rw[h];rfl,fun h=>UInt8.toNat_inj.1 h⟩;have l:(k=110)=(k.toNat=110):=propext ⟨fun h=>by rw[h];rfl,fun h=>UInt8.toNat_inj.1 h⟩;have u:(k=98)=(k.toNat=98):=propext ⟨fun h=>by rw[h];rfl,fun h=>UInt8.toNat_inj.1 h⟩;simp only[wK,v,l,u];generalize k.toNat=K;have H:oN 64 0 1=0:=by decide
 have F:oN 64 1 1=1:=by decide
 have D:oN 64 2 1=0:=by decide
 have y:oN 64 3 1=1:=by decide
 have G:oN 64 0 2=0:=by decide
 have E:oN 64 1 2=0:=by decide
 have A:oN 64 2 2=2:=by decide
 have w:oN 64 3 2=2:=by decide
 have I:zW 0=0:=by decide
 have O:zW 1=1:=by decide
 have M:zW 2=2:=by decide
 refine ad.ob func79 ?_;by_cases h1:K=52
 ·subst h1;rcases j with rfl|rfl|rfl|rfl;all_goals
   exact gE aa tI tI
 by_cases L:K=110
 ·subst L;rcases j with rfl|rfl|rfl|rfl;all_goals
   exact gE aa (j6 @H @F @D @y @I @O) tI
 by_cases J:K=98
 ·subst J;rcases j with rfl|rfl|rfl|rfl;all_goals
   exact gE aa (j6 @G @E @A @w @I @M) tI
 ·have q:((K:Int)=52)=False:=by simp;omega
  have o:((K:Int)=110)=False:=by simp;omega
  have n:((K:Int)=98)=False:=by simp;omega
  exact gE aa (j6 @h1 @L @J @q @o @n) tI
def lB (t r:Int):Int×Int:=if t= -1 then(0,0)else if t≠0∧t≠4 then(0,17)else if r<1∨16383<r then(0,3)else(4*r+(if t=4 then 2 else 0),0)
theorem DU (t r:Int) (σ:AS):ad prog 130 [zI t,zI r] σ (aq (.cp [zI ((lB t r).1),zI ((lB t r).2)]) σ) No:=by
 refine ad.ob func130 ?_;by_cases h0:t= -1
 ·subst h0;refine gO aa tI tI ?_;simp[lB]
 by_cases h1:t=0
 ·subst h1;by_cases j:r<1
  ·refine gO aa @j tI ?_;simp[lB,j]
  ·by_cases l:16383<r
   ·refine gO aa (j2 @j @l) tI ?_;simp[lB,j,l]
   ·have q:zW (r*4)=r*4:=aI (by omega) (by omega);have o:D5 64 (r*4) 0=r*4:=by have:=pV (w:=64) (a:=r*4) (b:=0) 2 (by omega) (by omega) (c:=r) (by omega) (by omega) (by omega);omega
    refine gO aa (j4 @j @l @q @o) tI ?_;simp[lB,j,l];exact du (by rw[Int.mul_comm])
 by_cases n:t=4
 ·subst n;by_cases j:r<1
  ·refine gO aa @j tI ?_;simp[lB,j]
  ·by_cases l:16383<r
   ·refine gO aa (j2 @j @l) tI ?_;simp[lB,j,l]
   ·have q:zW (r*4)=r*4:=aI (by omega) (by omega);have o:D5 64 (r*4) 2=r*4+2:=pV (w:=64) (a:=r*4) (b:=2) 2 (by omega) (by omega) (c:=r) (by omega) (by omega) (by omega);have u:zW (r*4+2)=r*4+2:=aI (by omega) (by omega);refine gO aa (j5 @j @l @q @o @u) tI ?_;simp[lB,j,l];exact du (by rw[Int.mul_comm])
 ·refine gO aa (j3 @h0 @h1 @n) tI ?_;simp[lB,h0,h1,n]
namespace Sg
structure Sg where
 this:Bool
 ps:List Ty
 ret:Ty
def wA (t:Ty):zY:=
 if t.kind=1 then [1]else if t.kind=2 then [8]else if t.kind=3 then [10]else if t.kind=4 then [28]else
 if t.kind=5 then 18::bG (4*(t.index+1))else if t.kind=6 then 17::bG (4*(t.index+1))else 19::bG t.index
def dN (t:Ty):zY:=(if t.ref=true then [16]else [])++(List.replicate t.cT.toNat 29++wA t)
def LZ (l:List Ty):zY:=l.flatMap dN
def LB (s:Sg):zY:=(if s.this=true then 32 else 0)::(UInt8.ofNat s.ps.length::(dN s.ret++LZ s.ps))
def eS (s:Sg):Except Int (zY):=if 6<s.ps.length then .error 4 else if s.ps.all aX&&cG s.ret then .ok (LB s)else .error 17
def L3 (l:List Ty):zY:=7::(UInt8.ofNat l.length::LZ l)
def cD (l:List Ty):Except Int (zY):=if 12<l.length then .error 4 else if l.all aX then .ok (L3 l)else .error 17
theorem k9 {t:Ty}(h:aV t=true):0≤t.cT∧t.cT≤3∧0≤t.index∧((t.kind=1∧t.cT=0∧t.ref=false∧t.index=0)∨(t.kind=2∧t.index=0)∨(t.kind=3∧t.index=0)∨(t.kind=4∧t.index=0)∨
 (t.kind=5∧t.index<32)∨(t.kind=6∧t.index<32)∨(t.kind=7∧t.index≤7)):=by
 unfold aV at h;split at h
 ·cases h
 refine⟨by omega,by omega,by omega,?_⟩;split at h
 ·simp at h;exact .inl ⟨by assumption,h⟩
 split at h
 ·simp at h;rename_i h1;omega
 split at h
 ·simp at h;rename_i h1;omega
 split at h
 ·simp at h;omega
 ·cases h
theorem ot {t:Ty}(h:aX t=true):aV t=true:=by unfold aX at h;simp at h;exact h.1
theorem y3 {t:Ty}(h:cG t=true):aV t=true:=by unfold cG at h;simp at h;exact h.1
end Sg
end Go.Proofs.YtknalmoackcpbaaGreat
