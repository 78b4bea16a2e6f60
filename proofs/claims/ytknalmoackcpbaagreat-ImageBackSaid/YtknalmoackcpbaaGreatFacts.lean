/- Facts on the types of this seat, each reckoned by the kernel (printed by facts.py). -/
import Derived.Test.YtknalmoackcpbaaGreatProg
import Derived.KernelRfl
import Derived.Test.YtknalmoackcpbaaGreatAwDefer
set_option maxRecDepth 100000
set_option maxHeartbeats 3200000
set_option linter.all false
namespace Go.Proofs.YtknalmoackcpbaaGreat
open Go Go.AW
@[simp] theorem UQ:gi Tryz.prog 2= .one∧Program.cellsOf Tryz.prog 2=1∧gi Tryz.prog 3= .one∧Program.cellsOf Tryz.prog 3=1∧Program.bytesOf Tryz.prog 3=8∧aw Tryz.prog 3= .sc (.int .i64 0)∧gi Tryz.prog 4= .one∧Program.cellsOf Tryz.prog 4=1∧gi Tryz.prog 5= .one∧Program.cellsOf Tryz.prog 5=1∧Program.bytesOf Tryz.prog 5=1∧aw Tryz.prog 5= .sc (.int .u8 0):=by and_intros<;>kernel_rfl
@[simp] theorem UP:gi Tryz.prog 9= .one∧Program.cellsOf Tryz.prog 9=1∧Program.bytesOf Tryz.prog 9=16∧aw Tryz.prog 9= .sc (.string .empty)∧gi Tryz.prog 22= .one∧Program.cellsOf Tryz.prog 22=1∧ct Tryz.prog 22=some 46∧gi Tryz.prog 23= .one∧Program.cellsOf Tryz.prog 23=1∧ct Tryz.prog 23=some 56∧gi Tryz.prog 24= .one∧Program.cellsOf Tryz.prog 24=1:=by and_intros<;>kernel_rfl
@[simp] theorem Ta:ct Tryz.prog 24=some 53∧gi Tryz.prog 26= .agg 4∧Program.cellsOf Tryz.prog 26=4∧aw Tryz.prog 26= .agg [.ai,.ai,.ai,.sc (.int .i64 0)]∧bM Tryz.prog 26=true∧au Tryz.prog 26 0=some (0,1)∧au Tryz.prog 26 1=some (1,1)∧au Tryz.prog 26 2=some (2,1)∧au Tryz.prog 26 3=some (3,1)∧gi Tryz.prog 30= .one∧Program.cellsOf Tryz.prog 30=1∧Program.bytesOf Tryz.prog 30=24:=by and_intros<;>kernel_rfl
@[simp] theorem S9:aw Tryz.prog 30= .ai∧ct Tryz.prog 30=some 5∧gi Tryz.prog 31= .one∧Program.cellsOf Tryz.prog 31=1∧aw Tryz.prog 31= .sc (.int .i64 0)∧gi Tryz.prog 39= .agg 3∧Program.cellsOf Tryz.prog 39=3∧aw Tryz.prog 39= .agg [.sc (.int .i64 0),.sc (.int .i64 0),.sc (.int .i64 0)]∧bM Tryz.prog 39=true∧gi Tryz.prog 44= .one∧Program.cellsOf Tryz.prog 44=1∧Program.bytesOf Tryz.prog 44=24:=by and_intros<;>kernel_rfl
@[simp] theorem S8:aw Tryz.prog 44= .ai∧ct Tryz.prog 44=some 3∧gi Tryz.prog 46= .agg 4∧Program.cellsOf Tryz.prog 46=4∧Program.bytesOf Tryz.prog 46=56∧aw Tryz.prog 46= .agg [.sc (.string .empty),.sc (.int .i64 0),.sc (.int .i64 0),.ai]∧bM Tryz.prog 46=true∧au Tryz.prog 46 0=some (0,1)∧au Tryz.prog 46 1=some (1,1)∧au Tryz.prog 46 2=some (2,1)∧au Tryz.prog 46 3=some (3,1)∧gi Tryz.prog 47= .one:=by and_intros<;>kernel_rfl
@[simp] theorem Tf:Program.cellsOf Tryz.prog 47=1∧Program.bytesOf Tryz.prog 47=24∧aw Tryz.prog 47= .ai∧ct Tryz.prog 47=some 49∧gi Tryz.prog 49= .agg 4∧Program.cellsOf Tryz.prog 49=4∧Program.bytesOf Tryz.prog 49=32∧aw Tryz.prog 49= .agg [.sc (.int .i64 0),.sc (.int .i64 0),.sc (.int .i64 0),.sc (.bool false)]∧bM Tryz.prog 49=true∧au Tryz.prog 49 0=some (0,1)∧au Tryz.prog 49 1=some (1,1)∧au Tryz.prog 49 2=some (2,1):=by and_intros<;>kernel_rfl
@[simp] theorem P9:au Tryz.prog 49 3=some (3,1)∧gi Tryz.prog 50= .one∧Program.cellsOf Tryz.prog 50=1∧ct Tryz.prog 50=some 110∧gi Tryz.prog 51= .one∧Program.cellsOf Tryz.prog 51=1∧ct Tryz.prog 51=some 158∧gi Tryz.prog 53= .agg 12∧Program.cellsOf Tryz.prog 53=12∧Program.bytesOf Tryz.prog 53=168∧aw Tryz.prog 53= .agg [.sc (.string .empty),.sc (.int .i64 0),.sc (.int .i64 0),.ai,.sc (.int .i64 0),.sc (.int .i64 0),.sc (.int .i64 0),.sc (.bool false),.ai,.sc (.int .i64 0),.ai,.ai]∧bM Tryz.prog 53=true:=by and_intros<;>kernel_rfl
@[simp] theorem P8:au Tryz.prog 53 0=some (0,1)∧au Tryz.prog 53 1=some (1,1)∧au Tryz.prog 53 2=some (2,1)∧au Tryz.prog 53 3=some (3,1)∧au Tryz.prog 53 4=some (4,4)∧au Tryz.prog 53 5=some (8,1)∧au Tryz.prog 53 6=some (9,1)∧au Tryz.prog 53 7=some (10,1)∧au Tryz.prog 53 8=some (11,1)∧gi Tryz.prog 56= .agg 7∧Program.cellsOf Tryz.prog 56=7∧Program.bytesOf Tryz.prog 56=64:=by and_intros<;>kernel_rfl
@[simp] theorem S7:aw Tryz.prog 56= .agg [.sc (.string .empty),.sc (.int .i64 0),.sc (.int .i64 0),.sc (.int .i64 0),.sc (.int .i64 0),.sc (.bool false),.sc (.bool false)]∧bM Tryz.prog 56=true∧au Tryz.prog 56 0=some (0,1)∧au Tryz.prog 56 1=some (1,1)∧au Tryz.prog 56 2=some (2,4)∧au Tryz.prog 56 3=some (6,1)∧gi Tryz.prog 60= .one∧gi Tryz.prog 61= .one∧ct Tryz.prog 61=some 94∧gi Tryz.prog 63= .agg 2∧Program.cellsOf Tryz.prog 63=2∧aw Tryz.prog 63= .agg [.sc (.int .i64 0),.ai]:=by and_intros<;>kernel_rfl
@[simp] theorem Tj:bM Tryz.prog 63=true∧au Tryz.prog 63 0=some (0,1)∧au Tryz.prog 63 1=some (1,1)∧gi Tryz.prog 64= .one∧Program.cellsOf Tryz.prog 64=1∧au Tryz.prog 66 0=some (0,1)∧au Tryz.prog 66 1=some (1,1)∧gi Tryz.prog 67= .one∧Program.cellsOf Tryz.prog 67=1∧ct Tryz.prog 67=some 47∧gi Tryz.prog 68= .one∧Program.cellsOf Tryz.prog 68=1:=by and_intros<;>kernel_rfl
@[simp] theorem P7:au Tryz.prog 70 0=some (0,1)∧au Tryz.prog 70 1=some (1,1)∧gi Tryz.prog 71= .one∧Program.cellsOf Tryz.prog 71=1∧ct Tryz.prog 71=some 9∧gi Tryz.prog 72= .one∧Program.cellsOf Tryz.prog 72=1∧ct Tryz.prog 72=some 30∧aw Tryz.prog 74= .agg [.ai,.ai,.ai,.sc (.int .i64 0),.ai,.sc .nilFunc,.ai,.sc .nilFunc,.ai,.ai,.ai,.sc (.int .i64 0),.ai]∧bM Tryz.prog 74=true∧au Tryz.prog 74 0=some (0,4)∧au Tryz.prog 74 1=some (4,2):=by and_intros<;>kernel_rfl
@[simp] theorem P6:au Tryz.prog 74 2=some (6,2)∧au Tryz.prog 74 3=some (8,1)∧au Tryz.prog 74 4=some (9,1)∧au Tryz.prog 74 5=some (10,1)∧au Tryz.prog 74 6=some (11,2)∧gi Tryz.prog 78= .agg 2∧Program.cellsOf Tryz.prog 78=2∧aw Tryz.prog 78= .agg [.sc (.int .i64 0),.sc (.int .i64 0)]∧rU Tryz.prog 78=some (2,3):=by and_intros<;>kernel_rfl
@[simp] theorem Te:∀i,au Tryz.prog 78 i=some (i*1,1):=fun i=>by kernel_rfl
@[simp] theorem Ti:bM Tryz.prog 78=true∧aw Tryz.prog 79= .agg [.sc (.int .i64 0),.sc (.int .i64 0),.sc (.int .i64 0),.sc (.int .i64 0),.sc (.int .i64 0),.sc (.int .i64 0)]∧rU Tryz.prog 79=some (3,78):=by and_intros<;>kernel_rfl
@[simp] theorem Td:∀i,au Tryz.prog 79 i=some (i*2,2):=fun i=>by kernel_rfl
@[simp] theorem Th:bM Tryz.prog 79=true∧aw Tryz.prog 81= .agg [.sc (.int .i64 0),.sc (.int .i64 0),.sc (.int .i64 0),.sc (.int .i64 0),.sc (.int .i64 0),.sc (.int .i64 0),.sc (.int .i64 0),.sc (.int .i64 0)]∧rU Tryz.prog 81=some (4,78):=by and_intros<;>kernel_rfl
@[simp] theorem Tc:∀i,au Tryz.prog 81 i=some (i*2,2):=fun i=>by kernel_rfl
@[simp] theorem Tg:bM Tryz.prog 81=true∧gi Tryz.prog 85= .agg 4∧Program.cellsOf Tryz.prog 85=4∧aw Tryz.prog 85= .agg [.ai,.ai,.ai,.ai]∧bM Tryz.prog 85=true∧au Tryz.prog 85 0=some (0,1)∧au Tryz.prog 85 1=some (1,1)∧au Tryz.prog 85 2=some (2,1)∧au Tryz.prog 85 3=some (3,1)∧gi Tryz.prog 94= .one∧Program.cellsOf Tryz.prog 94=1∧Program.bytesOf Tryz.prog 94=24:=by and_intros<;>kernel_rfl
@[simp] theorem S6:aw Tryz.prog 94= .ai∧ct Tryz.prog 94=some 44∧gi Tryz.prog 99= .agg 3∧Program.cellsOf Tryz.prog 99=3∧aw Tryz.prog 99= .agg [.sc (.int .i64 0),.sc (.int .i64 0),.sc (.int .i64 0)]∧Program.concrete Tryz.prog 99=true∧bM Tryz.prog 99=true∧au Tryz.prog 99 0=some (0,1)∧au Tryz.prog 99 1=some (1,1)∧au Tryz.prog 99 2=some (2,1)∧aw Tryz.prog 108= .agg [.ai,.ai,.ai,.ai,.sc (.int .i64 0),.ai,.ai,.ai,.ai,.ai,.ai,.sc (.int .i64 0)]∧bM Tryz.prog 108=true:=by and_intros<;>kernel_rfl
@[simp] theorem O9:au Tryz.prog 108 0=some (0,4)∧au Tryz.prog 108 1=some (4,2)∧au Tryz.prog 108 2=some (6,1)∧au Tryz.prog 108 3=some (7,1)∧au Tryz.prog 108 4=some (8,4)∧gi Tryz.prog 110= .agg 6∧Program.cellsOf Tryz.prog 110=6∧Program.bytesOf Tryz.prog 110=48∧aw Tryz.prog 110= .agg [.sc (.int .i64 0),.sc (.int .i64 0),.sc (.int .i64 0),.sc (.int .i64 0),.sc (.int .i64 0),.sc (.bool false)]∧bM Tryz.prog 110=true∧au Tryz.prog 110 0=some (0,1)∧au Tryz.prog 110 1=some (1,1):=by and_intros<;>kernel_rfl
@[simp] theorem O8:au Tryz.prog 110 2=some (2,4)∧gi Tryz.prog 129= .one∧aw Tryz.prog 131= .agg [.ai,.sc (.map none)]∧bM Tryz.prog 131=true∧au Tryz.prog 131 0=some (0,1)∧au Tryz.prog 131 1=some (1,1)∧gi Tryz.prog 137= .one∧gi Tryz.prog 141= .agg 4∧Program.cellsOf Tryz.prog 141=4∧aw Tryz.prog 141= .agg [.ai,.ai,.ai,.ai]∧au Tryz.prog 141 0=some (0,1)∧au Tryz.prog 141 1=some (1,1):=by and_intros<;>kernel_rfl
@[simp] theorem O7:au Tryz.prog 141 2=some (2,1)∧au Tryz.prog 141 3=some (3,1)∧aw Tryz.prog 142= .agg [.sc (.int .i64 0),.sc (.int .i64 0),.sc (.int .i64 0),.sc (.int .i64 0)]∧rU Tryz.prog 142=some (4,3)∧gi Tryz.prog 149= .agg 6∧Program.cellsOf Tryz.prog 149=6∧aw Tryz.prog 149= .agg [.sc (.bool false),.ai,.sc (.int .i64 0),.sc (.int .i64 0),.sc (.int .i64 0),.sc (.bool false)]∧bM Tryz.prog 149=true∧au Tryz.prog 149 0=some (0,1)∧au Tryz.prog 149 1=some (1,1)∧au Tryz.prog 149 2=some (2,4)∧gi Tryz.prog 158= .agg 10:=by and_intros<;>kernel_rfl
@[simp] theorem RB:Program.cellsOf Tryz.prog 158=10∧Program.bytesOf Tryz.prog 158=80∧aw Tryz.prog 158= .agg [.sc (.int .i64 0),.sc (.int .i64 0),.sc (.int .i64 0),.sc (.int .i64 0),.sc (.int .i64 0),.sc (.int .i64 0),.sc (.int .i64 0),.sc (.int .i64 0),.sc (.int .i64 0),.sc (.bool false)]∧bM Tryz.prog 158=true∧au Tryz.prog 158 0=some (0,1)∧au Tryz.prog 158 1=some (1,1)∧au Tryz.prog 158 2=some (2,1)∧au Tryz.prog 158 3=some (3,1)∧au Tryz.prog 158 4=some (4,1)∧au Tryz.prog 158 5=some (5,1)∧au Tryz.prog 158 6=some (6,4)∧gi Tryz.prog 160= .one:=by and_intros<;>kernel_rfl
@[simp] theorem Rs:aw Tryz.prog 163= .agg [.sc (.int .u64 0),.sc (.int .u64 0)]∧rU Tryz.prog 163=some (2,137):=by and_intros<;>kernel_rfl
@[simp] theorem RA:∀i,au Tryz.prog 163 i=some (i*1,1):=fun i=>by kernel_rfl
@[simp] theorem RM:bM Tryz.prog 163=true∧gi Tryz.prog 169= .agg 2∧Program.cellsOf Tryz.prog 169=2∧aw Tryz.prog 169= .agg [.sc (.int .i64 0),.sc (.int .i64 0)]∧bM Tryz.prog 169=true∧au Tryz.prog 169 0=some (0,1)∧au Tryz.prog 169 1=some (1,1)∧Program.cellsOf Tryz.prog 174=2∧aw Tryz.prog 174= .agg [.sc (.int .i64 0),.sc (.int .i64 0)]∧Program.concrete Tryz.prog 174=true∧bM Tryz.prog 174=true∧au Tryz.prog 174 0=some (0,1):=by and_intros<;>kernel_rfl
@[simp] theorem O6:au Tryz.prog 174 1=some (1,1)∧aw Tryz.prog 178= .agg [.sc (.pointer none),.sc (.int .i64 0),.sc (.int .i64 0)]∧bM Tryz.prog 178=true∧au Tryz.prog 178 0=some (0,1)∧au Tryz.prog 178 1=some (1,1)∧au Tryz.prog 178 2=some (2,1)∧gi Tryz.prog 194= .agg 3∧Program.cellsOf Tryz.prog 194=3∧aw Tryz.prog 194= .agg [.sc (.string .empty),.sc (.int .i64 0),.sc (.int .i64 0)]∧bM Tryz.prog 194=true∧au Tryz.prog 194 0=some (0,1)∧au Tryz.prog 194 1=some (1,1):=by and_intros<;>kernel_rfl
@[simp] theorem O5:au Tryz.prog 194 2=some (2,1)∧gi Tryz.prog 200= .agg 4∧aw Tryz.prog 200= .agg [.sc (.int .i64 0),.sc (.int .i64 0),.sc (.int .i64 0),.sc (.bool false)]∧bM Tryz.prog 200=true∧au Tryz.prog 200 0=some (0,1)∧au Tryz.prog 200 1=some (1,1)∧au Tryz.prog 200 2=some (2,1)∧au Tryz.prog 200 3=some (3,1)∧gi Tryz.prog 206= .one∧aw Tryz.prog 207= .agg [.sc (.int .u32 0),.sc (.int .u32 0),.sc (.int .u32 0),.sc (.int .u32 0),.sc (.int .u32 0)]∧rU Tryz.prog 207=some (5,206):=by and_intros<;>kernel_rfl
@[simp] theorem Rz:∀i,au Tryz.prog 207 i=some (i*1,1):=fun i=>by kernel_rfl
@[simp] theorem RK:bM Tryz.prog 207=true∧gi Tryz.prog 210= .one∧aw Tryz.prog 212= .agg [.sc .nilFunc,.sc .nilFunc,.sc .nilFunc,.sc .nilFunc]∧rU Tryz.prog 212=some (4,210):=by and_intros<;>kernel_rfl
@[simp] theorem Ry:∀i,au Tryz.prog 212 i=some (i*1,1):=fun i=>by kernel_rfl
@[simp] theorem RJ:bM Tryz.prog 212=true∧gi Tryz.prog 217= .one∧Program.cellsOf Tryz.prog 217=1∧ct Tryz.prog 217=some 221∧gi Tryz.prog 219= .agg 2∧Program.cellsOf Tryz.prog 219=2∧aw Tryz.prog 219= .agg [.ai,.ai]∧bM Tryz.prog 219=true∧au Tryz.prog 219 0=some (0,1)∧au Tryz.prog 219 1=some (1,1)∧gi Tryz.prog 221= .agg 6∧Program.cellsOf Tryz.prog 221=6:=by and_intros<;>kernel_rfl
@[simp] theorem RC:Program.bytesOf Tryz.prog 221=48∧aw Tryz.prog 221= .agg [.sc (.int .i64 0),.sc (.int .i64 0),.sc (.int .i64 0),.sc (.int .i64 0),.sc (.int .i64 0),.sc (.int .i64 0)]∧bM Tryz.prog 221=true∧au Tryz.prog 221 0=some (0,1)∧au Tryz.prog 221 1=some (1,1)∧au Tryz.prog 221 2=some (2,1)∧au Tryz.prog 221 3=some (3,1)∧au Tryz.prog 221 4=some (4,1)∧au Tryz.prog 221 5=some (5,1)∧aw Tryz.prog 226= .agg [.ai,.sc (.int .i64 0)]∧bM Tryz.prog 226=true∧au Tryz.prog 226 0=some (0,1):=by and_intros<;>kernel_rfl
@[simp] theorem O4:au Tryz.prog 226 1=some (1,1)∧gi Tryz.prog 230= .agg 6∧Program.cellsOf Tryz.prog 230=6∧aw Tryz.prog 230= .agg [.sc (.int .i64 0),.sc (.int .i64 0),.sc (.int .i64 0),.sc (.int .i64 0),.sc (.int .i64 0),.sc (.int .i64 0)]∧rU Tryz.prog 230=some (6,3):=by and_intros<;>kernel_rfl
@[simp] theorem Rv:∀i,au Tryz.prog 230 i=some (i*1,1):=fun i=>by kernel_rfl
@[simp] theorem RH:bM Tryz.prog 230=true∧gi Tryz.prog 267= .one∧Program.concrete Tryz.prog 272=true∧gi Tryz.prog 275= .agg 1∧Program.cellsOf Tryz.prog 275=1∧aw Tryz.prog 275= .agg [.sc (.pointer none)]∧bM Tryz.prog 275=true∧au Tryz.prog 275 0=some (0,1)∧gi Tryz.prog 295= .agg 2∧aw Tryz.prog 295= .agg [.sc (.int .i64 0),.sc (.int .i64 0)]∧bM Tryz.prog 295=true∧au Tryz.prog 295 0=some (0,1):=by and_intros<;>kernel_rfl
@[simp] theorem O3:au Tryz.prog 295 1=some (1,1)∧gi Tryz.prog 297= .one∧ct Tryz.prog 297=some 302∧gi Tryz.prog 300= .agg 2∧aw Tryz.prog 300= .agg [.sc (.int .i64 0),.sc (.int .i64 0)]∧bM Tryz.prog 300=true∧au Tryz.prog 300 0=some (0,1)∧au Tryz.prog 300 1=some (1,1)∧gi Tryz.prog 302= .agg 4∧Program.cellsOf Tryz.prog 302=4∧Program.bytesOf Tryz.prog 302=32∧aw Tryz.prog 302= .agg [.sc (.int .i64 0),.sc (.int .i64 0),.sc (.int .i64 0),.sc (.int .i64 0)]:=by and_intros<;>kernel_rfl
@[simp] theorem RG:bM Tryz.prog 302=true∧au Tryz.prog 302 0=some (0,2)∧au Tryz.prog 302 1=some (2,2)∧gi Tryz.prog 303= .one∧aw Tryz.prog 313= .agg [.ai,.ai,.ai]∧bM Tryz.prog 313=true∧au Tryz.prog 313 0=some (0,1)∧au Tryz.prog 313 1=some (1,1)∧au Tryz.prog 313 2=some (2,1)∧gi Tryz.prog 314= .one∧Program.cellsOf Tryz.prog 314=1∧Program.cellsOf Tryz.prog 315=9:=by and_intros<;>kernel_rfl
@[simp] theorem Rr:aw Tryz.prog 315= .agg [.sc .nilFunc,.sc .nilFunc,.sc .nilFunc,.sc .nilFunc,.sc .nilFunc,.sc .nilFunc,.sc .nilFunc,.sc .nilFunc,.sc .nilFunc]∧rU Tryz.prog 315=some (9,314):=by and_intros<;>kernel_rfl
@[simp] theorem Ru:∀i,au Tryz.prog 315 i=some (i*1,1):=fun i=>by kernel_rfl
@[simp] theorem RF:bM Tryz.prog 315=true∧Program.concrete Tryz.prog 316=true∧gi Tryz.prog 319= .one∧gi Tryz.prog 324= .agg 1∧Program.cellsOf Tryz.prog 324=1∧aw Tryz.prog 324= .agg [.sc (.pointer none)]∧bM Tryz.prog 324=true∧au Tryz.prog 324 0=some (0,1)∧aw Tryz.prog 328= .agg [.sc (.pointer none),.sc (.int .i64 0),.ai,.ai]∧bM Tryz.prog 328=true∧au Tryz.prog 328 0=some (0,1)∧au Tryz.prog 328 1=some (1,1):=by and_intros<;>kernel_rfl
@[simp] theorem O2:au Tryz.prog 328 2=some (2,1)∧au Tryz.prog 328 3=some (3,1)∧aw Tryz.prog 342= .agg [.sc (.int .i64 0),.sc (.int .i64 0),.sc (.int .i64 0),.sc (.int .i64 0),.sc (.int .i64 0)]∧rU Tryz.prog 342=some (5,3):=by and_intros<;>kernel_rfl
@[simp] theorem Rt:∀i,au Tryz.prog 342 i=some (i*1,1):=fun i=>by kernel_rfl
@[simp] theorem RE:bM Tryz.prog 342=true:=by kernel_rfl
theorem mixed:Tables.follows Tryz.prog.toTables .mixedOrders=true:=by kernel_rfl
abbrev rB:b7:=(.step 0 (.step 1 (.step 2 (.step 4 (.step 5 (.step 6 (.read 3 (.read 7 (.step 8 .done)))))))))
theorem eL (S:List Nat):aH Tryz.prog [] S:=mixed
theorem EA (S:List Nat):aH Tryz.prog [(3,(.step 0 (.step 1 (.step 2 (.step 5 (.step 6 (.step 7 (.read 3 (.read 4 (.read 8 (.step 9 (.step 10 .done))))))))))))] S:=mixed
theorem qV (S:List Nat):aH Tryz.prog [(6,rB)] S:=mixed
def wide (n:Int):Bool:=decide (n=1)||decide (n=2)||decide (n=4)||decide (n=8)
theorem zq (n:Int) (σ:AS):aa Tryz.prog 144 [.sc (.int .i64 n)] σ (ao (.sc (.bool (wide n))) σ) No:=by
 refine aa.ob Tryz.func144 ?_;by_cases h1:n=1<;>by_cases h:n=2<;>by_cases g:n=4<;>by_cases d:n=8;all_goals
  refine gO eL (j4 @h1 @h @g @d) tI ?_;simp[wide,h1,h,g,d]
theorem qf (l:List AV) (own:cL) (nil:Bool) (i:nil=true→l= []) (hl:l.length≤140737488355328) (σ:AS):
 aa Tryz.prog 103 [.an 5 l own nil] σ (la (fun g=> .an 5 l (.tok g) nil) l.length σ) No:=by
 refine aa.ob Tryz.func103 ?_;cases nil with
 |true=>obtain rfl:=i rfl;refine ae.seq (ae.region ?_);simp;refine ae.seq (ae.seq (ae.region ?_));simp[Tryz.underlying30];refine ae.cond rfl (fun h=> ?_) (fun h=>by simp at h);refine ae.seq (ae.region ?_);simp;refine ae.fM 2 5 [] true (by decide) (by simp) (fun g d=> ?_);refine gO eL tI tI ?_;exact bJ g d (by simp) (by simp)
 |false=>refine gO eL (j2 @Tryz.underlying30 @hl) tI ?_;intro g d;refine gO eL tI tI ?_;exact bJ g d (by simp) (by simp)
def bg (x:Int):Nat→List UInt8
 |0=> []
 |n+1=>UInt8.ofNat (x%256).toNat::bg (x/256) n
theorem ax (x:Int) (n:Nat):(bg x n).length=n:=by
 induction n generalizing x with
 |zero=>rfl
 |succ n d=>simp[bg,d]
theorem Gs (x:Int) (n:Nat):bg x (n+1)=bg x n++ [UInt8.ofNat (x/256^n%256).toNat]:=by
 induction n generalizing x with
 |zero=>simp[bg]
 |succ n d=>rw[bg,d (x/256),bg,List.cons_append];congr 4;rw[Int.ediv_ediv_of_nonneg (by omega)];rw[Int.pow_succ,Int.mul_comm]
def T6 (l:List UInt8) (x n:Int) (d:Nat) (σ:AS) (m:Nat) (s:Fr) (σ':AS):Prop:=
 ∃(k:Nat) (nl:Bool),(m:Int)=n-k∧(k:Int)≤n∧(nl=true→k=0)∧
  s=jJ [(1,.sc (.int .u64 (x/256^k))),(8,.an 5 ((l++bg x k).map u8) (.tok d) nl),(14,.sc (.int .i64 n)),(15,.sc (.int .i64 k))]∧
  σ'=σ.set d (.tok (l.length+k))
theorem oC (l:List UInt8) (own:cL) (nil:Bool) (w:nil=true→l= []) (hl:l.length≤1000000) (x n:Int) (q:0≤x) (o:x<18446744073709551616) (hw:wide n=true) (σ:AS):
 aa Tryz.prog 77 [.an 5 (l.map u8) own nil,.sc (.int .u64 x),.sc (.int .i64 n)] σ
  (la (fun d=> .bQ [.an 5 ((l++bg x n.toNat).map u8) (.tok d) false,.sc (.int .i64 0)]) (l.length+n.toNat) σ) No:=by
 have v:1≤n∧n≤8:=by simp[wide]at hw;omega
 refine aa.ob Tryz.func77 ?_;refine gO eL tI tI ?_;refine ag.aC (zq n _) ?_;simp[hw];refine gO eL tI tI ?_;refine ag.xY (qf (l.map u8) own nil (fun h=>by simp[w h]) (by simp;omega) σ) (fun d g=> ?_);simp;refine gO eL tI tI ?_;refine ae.dx (T6 l x n d σ) (k0:=n.toNat) ⟨0,nil,by omega,by omega,by simp,rfl,rfl⟩ (aS.mk ?_) ?_ ?_
 ·simp[bg]
 ·simp
 ·rintro m s σ' ⟨k,nl,hm,F,i,rfl,rfl⟩;have u:(0:Int)<256^k:=Int.pow_pos (by omega);have y:0≤x/256^k:=Int.ediv_nonneg q (by omega);refine ae.seq (ae.region ?_);simp;refine ae.seq (ae.cond rfl (fun h=> ?_) (fun h=> ?_))
  ·simp at h;refine gO eL (j3 @Tryz.underlying137 @Tryz.underlying5 @ax) tI ?_;refine⟨m-1,_,_,by omega,aS.mk ?_,lR _,k+1,false,by omega,by omega,by simp,rfl,rfl⟩;have E:x/256^(k+1)=x/256^k/256:=by rw[Int.ediv_ediv_of_nonneg (by omega),Int.pow_succ]
   have D:IntKind.i64.wrap ((k:Int)+1)=((k+1:Nat):Int):=by rw[ay (by omega) (by omega)];simp
   have A:IntKind.u8.wrap (x/256^k)=((UInt8.ofNat (x/256^k%256).toNat).toNat:Int):=by rw[A6];simp;omega
   simp[E,D,Gs,u8,A]
  ·simp at h;refine gO eL tI tI ?_;have j:k=n.toNat:=by omega
   subst j;have:nl=false:=by cases nl with|false=>rfl|true=>have:=i rfl;omega
   subst this;exact bJ d g (by simp) (by simp)
def ez (n:Int):Int:=if n<0∨536870911<n then 0 else if n<128 then 1 else if n<16384 then 2 else 4
theorem zC (n:Int) (σ:AS):aa Tryz.prog 142 [.sc (.int .i64 n)] σ (ao (.sc (.int .i64 (ez n))) σ) No:=by
 refine aa.ob Tryz.func142 ?_;by_cases h1:n<0<;>by_cases h:536870911<n<;>by_cases g:n<128<;>by_cases d:n<16384;all_goals try omega
 all_goals
  refine gO eL (j4 @h1 @h @g @d) tI ?_;try simp[ez,h1,h,g,d]
def bC (b:List UInt8) (d:Int) (nl:Bool):bN:= .cells 226 [.an 5 (b.map u8) .aE nl,.sc (.int .i64 d)]
theorem oH (l:List UInt8) (own:cL) (nil:Bool) (j:nil=true→l= []) (hl:l.length≤140737488355328) (σ:AS):
 aa Tryz.prog 97 [.an 5 (l.map u8) own nil] σ (fun r σ'=> ∃id,σ id=none∧r= .ptr id 0∧σ'=σ.set id (bC l 0 nil)) No:=by
 refine aa.ob Tryz.func97 ?_;refine gO eL tI tI ?_;refine ag.xY (qf (l.map u8) own nil (fun h=>by simp[j h]) (by simpa using hl) σ) (fun o d=> ?_);simp;intro id i g;refine ae.KY id [.an 5 (l.map u8) .aE nil,.sc (.int .i64 0)] rfl (fun k n=> ?_) ?_
 ·match k,n with
  |0,_ =>simp
  |1,_ =>simp
 ·have h0:σ id=none:=g;refine gO eL tI tI ?_;exact⟨_,_,Wk.refl _,zX (by simp[d]),id,h0,rfl,rfl⟩
theorem px (id:Nat) (b:List UInt8) (d:Int) (nl:Bool) (σ:AS) (h:σ id=some (bC b d nl)):
 aa Tryz.prog 99 [.ptr id 0] σ (ao (.sc (.int .i64 d)) σ) No:=by
 refine aa.ob Tryz.func99 ?_;exact gE eL (j3 @Tryz.underlying160 @h @bC.eq_1) tI
theorem jm (id:Nat) (b:List UInt8) (at':Int) (nl:Bool) (σ:AS) (h:σ id=some (bC b at' nl)) (ha:0≤at') (d:at'≤b.length) (hl:b.length≤140737488355328):
 aa Tryz.prog 106 [.ptr id 0] σ (ao (.sc (.int .i64 (b.length-at'))) σ) No:=by
 refine aa.ob Tryz.func106 ?_;have e:IntKind.i64.wrap (b.length-at')=b.length-at':=ay (by omega) (by omega);exact gE EA (j4 @Tryz.underlying160 @h @bC.eq_1 @e) tI
def bw (c:Int):Int:=if c<128 then 1 else if c<192 then 2 else if c<224 then 4 else 0
theorem HW (c:Int) (σ:AS):aa Tryz.prog 267 [.sc (.int .u8 c)] σ (ao (.sc (.int .i64 (bw c))) σ) No:=by
 refine aa.ob Tryz.func267 ?_;by_cases h1:c<128<;>by_cases g:c<192<;>by_cases d:c<224;all_goals try omega
 all_goals
  refine gO eL (j3 @h1 @g @d) tI ?_;try simp[bw,h1,g,d]
def QP (l:List UInt8) (m:List UInt8) (k:Nat) (s:Fr) (σ':AS) (o:cL) (n1 n2:Bool) (d:cL) (σ:AS):Prop:=
 ∃i:Nat,k=l.length-i∧i≤l.length∧l.take i=m.take i∧σ'=σ∧
  s=jJ [(0,.an 5 (l.map u8) o n1),(1,.an 5 (m.map u8) d n2),(5,.sc (.int .i64 i))]
theorem vt (l m:List UInt8) (o q:cL) (n1 n2:Bool) (hl:l.length≤140737488355328) (σ:AS):
 aa Tryz.prog 40 [.an 5 (l.map u8) o n1,.an 5 (m.map u8) q n2] σ (ao (.sc (.bool (decide (l=m)))) σ) No:=by
 refine aa.ob Tryz.func40 ?_;by_cases hlen:l.length=m.length
 ·refine gO qV @hlen tI ?_;refine ae.dx (QP l m · · · o n1 n2 q σ) (k0:=l.length) ⟨0,by omega,by omega,by simp,rfl,rfl⟩ (aS.mk (by simp)) (lR _) ?_;rintro k s σ' ⟨i,w,y,ht,rfl,rfl⟩;by_cases g:i<l.length
  ·have d:i<m.length:=by omega
   by_cases he:l[i]=m[i]
   ·repeat (first
     |(with_reducible first|apply ae.seq|apply ae.block|refine j2 (by first|omega|assumption|decide) ?_)
     |((first|(with_reducible first|apply ae.fork|apply ae.region|show aN _ _ _ |show aB _ _ _ _ _ _ _ _ _)|((with_reducible apply ae.aR (id:=6) (t:=rB));(exact mixed);kernel_rfl;kernel_rfl;(repeat (with_reducible first|apply ak.then|apply ak.block|apply ak.body|apply ak.no))));simp-implicitDefEqProofs [g,d,he])
     |((with_reducible first|apply ae.ret|apply ae.skip|apply ae.exit);try simp-implicitDefEqProofs))
    refine⟨k-1,_,_,by omega,aS.mk ?_,lR _,i+1,by omega,by omega,?_,rfl,rfl⟩
    ·have u:IntKind.i64.wrap ((i:Int)+1)=((i+1:Nat):Int):=by rw[ay (by omega) (by omega)];simp
     simp[u]
    ·rw[List.take_add_one,List.take_add_one,ht,List.getElem?_eq_getElem g,List.getElem?_eq_getElem d,he]
   ·have j:l≠m:=fun h=>he (by simp[h]);have n:¬l[i].toNat=m[i].toNat:=fun h=>he (UInt8.toNat_inj.1 h);exact gE qV (j4 g d @n @j) tI
  ·have:l=m:=by
    have v:i=l.length:=by omega
    subst v;rw[List.take_length,hlen,List.take_length]at ht;exact ht
   refine gO qV g tI ?_;simp[this]
 ·have:l≠m:=fun h=>hlen (by rw[h]);refine gO qV @hlen tI ?_;try simp[this]
abbrev pL:b7:=(.step 0 (.step 1 (.step 2 (.step 4 (.step 5 (.step 6 (.step 8 (.step 9 (.step 10 (.step 12 (.step 16 (.read 3 (.read 7 (.read 11 (.step 13 (.step 14 (.read 15 .done)))))))))))))))))
theorem fB (S:List Nat):aH Tryz.prog [] S:=mixed
theorem my (S:List Nat):aH Tryz.prog [(7,(.step 0 (.step 1 (.step 2 (.step 4 (.step 5 (.step 6 (.step 7 (.read 3 (.read 8 (.step 9 (.alt 10 (.step 11 (.step 12 .done)) .none))))))))))))] S:=mixed
theorem xI (S:List Nat):aH Tryz.prog [(2,pL)] S:=mixed
def pa (b:List UInt8) (at' n:Int):Int:=if n<0 then 3 else if b.length-at'<n then 1 else 0
theorem Ir (id:Nat) (b:List UInt8) (at' n:Int) (nl:Bool) (σ:AS) (h:σ id=some (bC b at' nl)) (ha:0≤at') (g:at'≤b.length) (hl:b.length≤140737488355328) (he:pa b at' n≠0):
 aa Tryz.prog 98 [.ptr id 0,.sc (.int .i64 n)] σ (ao (.sc (.int .i64 (pa b at' n))) σ) No:=by
 refine aa.ob Tryz.func98 ?_;by_cases h1:n<0
 ·refine gO fB (j2 @Tryz.underlying160 @h1) tI ?_;simp[pa,h1]
 ·have d:b.length-at'<n:=by
   by_cases h:b.length-at'<n
   ·exact h
   ·exact absurd (by simp[pa,h1,h]) he
  refine gO fB (j3 @Tryz.underlying160 @h1 @d) tI ?_;refine ag.aC (jm id b at' nl _ h ha g hl) ?_;simp;refine gO fB (j3 @Tryz.underlying160 @h1 @d) tI ?_;simp[pa,h1,d]
theorem zB (id:Nat) (b:List UInt8) (at' n:Int) (nl:Bool) (σ:AS) (h:σ id=some (bC b at' nl)) (ha:0≤at') (i:at'≤b.length) (hl:b.length≤140737488355328) (h1:0≤n) (j:n≤b.length-at'):
 aa Tryz.prog 98 [.ptr id 0,.sc (.int .i64 n)] σ (ao (.sc (.int .i64 0)) (σ.set id (bC b (at'+n) nl))) No:=by
 refine aa.ob Tryz.func98 ?_;have g:¬n<0:=by omega
 have d:¬b.length-at'<n:=by omega
 have e:IntKind.i64.wrap (at'+n)=at'+n:=ay (by omega) (by omega);refine gO fB (j2 @Tryz.underlying160 @g) tI ?_;refine ag.aC (jm id b at' nl _ h ha i hl) ?_;simp;exact gE fB (j4 @d @h @bC.eq_1 @e) tI
theorem Bb (id:Nat) (b:List UInt8) (d n:Int) (nl:Bool) (σ:AS) (h:σ id=some (bC b d nl)) (ha:0≤d) (g:d≤b.length) (hl:b.length≤140737488355328) (he:pa b d n≠0):
 aa Tryz.prog 156 [.ptr id 0,.sc (.int .i64 n)] σ (ao (.bQ [.ai,.sc (.int .i64 (pa b d n))]) σ) No:=by
 refine aa.ob Tryz.func156 ?_;refine gO my (j3 @Tryz.underlying160 @h @bC.eq_1) tI ?_;refine ag.aC (Ir id b d n nl _ h ha g hl he) ?_;simp;exact gE my @he tI
def cy (b:List UInt8) (d n:Int):List UInt8:=(b.take (d+n).toNat).drop d.toNat
theorem zw (id:Nat) (b:List UInt8) (at' n:Int) (nl:Bool) (σ:AS) (i:nl=true→b= []) (h:σ id=some (bC b at' nl)) (ha:0≤at') (j:at'≤b.length) (hl:b.length≤140737488355328) (h1:0≤n) (l:n≤b.length-at'):
 aa Tryz.prog 156 [.ptr id 0,.sc (.int .i64 n)] σ (fun r σ'=> ∃d,σ d=none∧r= .bQ [.an 5 ((cy b at' n).map u8) (.tok d) nl,.sc (.int .i64 0)]∧
  σ'=(σ.set id (bC b (at'+n) nl)).set d (.tok (cy b at' n).length)) No:=by
 refine aa.ob Tryz.func156 ?_;refine gO my (j3 @Tryz.underlying160 @h @bC.eq_1) tI ?_;refine ag.aC (zB id b at' n nl _ h ha j hl h1 l) ?_;simp;refine gO my @bC.eq_1 tI ?_;rw[show List.drop at'.toNat (List.take (at'+n).toNat (List.map u8 b))=(cy b at' n).map u8 by simp[cy,List.map_drop,List.map_take]];refine ag.xY (qf _ .aE nl (fun h=>by simp[cy,i h]) (by simp[cy];omega) _) (fun d g=> ?_);have h0:σ d=none:=by
  by_cases e:d=id
  ·subst e;simp[AS.set]at g
  ·simpa[AS.set,e]using g
 simp;refine gO my tI tI ?_;exact⟨_,_,Wk.refl _,lR _,d,h0,rfl,by simp⟩
def bj:List UInt8→Int
 |[]=>0
 |c::r=>c.toNat+256*bj r
theorem cu (l:List UInt8):0≤bj l:=by
 induction l with
 |nil=>simp[bj]
 |cons c r d=>simp only[bj];omega
theorem jk (l:List UInt8):bj l<256^l.length:=by
 induction l with
 |nil=>simp[bj]
 |cons c r d=>simp only[bj,List.length_cons,Int.pow_succ];have:=c.toNat_lt;omega
theorem GI (l:List UInt8) (c:UInt8):bj (l++ [c])=bj l+c.toNat*256^l.length:=by
 induction l with
 |nil=>simp[bj]
 |cons d r g=>simp only[List.cons_append,bj,g,List.length_cons,Int.pow_succ];rw[Int.mul_add,Int.add_assoc,Int.mul_comm (256^r.length) 256,←Int.mul_assoc (c.toNat:Int),Int.mul_comm (c.toNat:Int) 256,Int.mul_assoc]
theorem eQ (b:List UInt8) (at' n:Int) (ha:0≤at') (d:0≤n) (h:n≤b.length-at'):((cy b at' n).length:Int)=n:=by simp[cy];omega
theorem zN (i:Nat):(256:Int)^i=2^(8*i):=by rw[Int.pow_mul];rfl
theorem LZ (x:Int) (c:UInt8) (i:Nat) (l:i<8) (h:0≤x) (d:x<256^i):
 C4 64 x (IntKind.u64.wrap (c.toNat*2^(8*i)))=x+c.toNat*256^i:=by
 have o:=c.toNat_lt;have n:(0:Int)<256^i:=Int.pow_pos (by omega);have q:(256:Int)^i*256≤256^8:=(show ∀j:Nat,j<8→(256:Int)^j*256≤256^8 by decide) i l;have hm:(c.toNat:Int)*256^i≤255*256^i:=Int.mul_le_mul_of_nonneg_right (by omega) (by omega);have g:0≤(c.toNat:Int)*256^i:=Int.mul_nonneg (by omega) (by omega);rw[←zN,nw g (by omega),qj];rw[oG (8*i) h (by rw[←zN];exact d) (c:=c.toNat) (by omega) (by rw[←zN,Int.mul_comm]) (by omega)];omega
def di (id:Nat) (σ:AS) (l:List UInt8) (n:Int) (nl:Bool) (m:Nat) (s:Fr) (σ':AS):Prop:=
 ∃i:Nat,m=l.length-i∧i≤l.length∧σ'=σ∧
  s=jJ [(0,.ptr id 0),(1,.sc (.int .i64 n)),(5,.sc (.int .u64 (bj (l.take i)))),(22,.an 5 (l.map u8) .aE nl),(23,.sc (.int .i64 l.length)),(24,.sc (.int .i64 i))]
theorem Oo (id:Nat) (b:List UInt8) (at' n:Int) (nl:Bool) (σ:AS) (h:σ id=some (bC b at' nl)) (ha:0≤at') (M:at'≤b.length) (hl:b.length≤140737488355328) (h1:0≤n) (E:n≤b.length-at') (P:n≤8):
 aa Tryz.prog 155 [.ptr id 0,.sc (.int .i64 n)] σ (ao (.sc (.int .u64 (bj (cy b at' n)))) (σ.set id (bC b (at'+n) nl))) No:=by
 refine aa.ob Tryz.func155 ?_;have e:IntKind.i64.wrap (at'+n)=at'+n:=ay (by omega) (by omega);have D:=eQ b at' n ha h1 E;refine gO xI (j3 @h @bC.eq_1 @e) tI ?_;have G:min (at'+n).toNat b.length-at'.toNat=(cy b at' n).length:=by simp[cy]
 have F:List.drop at'.toNat (List.take (at'+n).toNat (List.map u8 b))=(cy b at' n).map u8:=by simp[cy,List.map_drop,List.map_take]
 refine ae.dx (di id σ (cy b at' n) n nl) (k0:=(cy b at' n).length) ⟨0,by omega,by omega,rfl,rfl⟩ (aS.mk (by simp[G,F,bj])) (lR _) ?_;rintro m s σ' ⟨i,hm,K,rfl,rfl⟩;generalize O:cy b at' n=L at*;by_cases d:i<L.length
 ·have w1:IntKind.i64.wrap (8*(i:Int))=((8*i:Nat):Int):=by rw[ay (by omega) (by omega)];simp
  have u:IntKind.u64.wrap L[i].toNat=L[i].toNat:=nw (by omega) (by have:=L[i].toNat_lt;omega);have q:=LZ (bj (L.take i)) L[i] i (by omega) (cu _) (by have:=jk (L.take i);rwa [List.length_take,Nat.min_eq_left (by omega)]at this);have y:bj (L.take (i+1))=bj (L.take i)+L[i].toNat*256^i:=by rw[←List.take_append_getElem d,GI,List.length_take,Nat.min_eq_left (by omega)]
  have H:bj (L.take (i+1))<256^8:=by
   have J:=jk (L.take (i+1));have I:(L.take (i+1)).length≤8:=by simp;omega
   have A:∀j:Nat,j<9→(256:Int)^j≤256^8:=by decide
   have:=A _ (show(L.take (i+1)).length<9 by omega);omega
  have Q:(256:Int)^8=18446744073709551616:=by decide
  have w:IntKind.u64.wrap (bj (L.take (i+1)))=bj (L.take (i+1)):=nw (cu _) (by omega);have o:min (8*i) 64=8*i:=by omega
  have v:IntKind.i64.wrap ((i:Int)+1)=((i+1:Nat):Int):=by rw[ay (by omega) (by omega)];simp
  rw[←y]at q;have l:(8*(i:Int)).toNat=8*i:=by omega
  repeat (first
   |(with_reducible first|apply ae.seq|apply ae.block|refine j2 (by first|omega|assumption|decide) ?_)
   |((first|(with_reducible first|apply ae.fork|apply ae.region|show aN _ _ _ |show aB _ _ _ _ _ _ _ _ _)|((with_reducible apply ae.aR (id:=2) (t:=pL));(exact mixed);kernel_rfl;kernel_rfl;(repeat (with_reducible first|apply ak.then|apply ak.block|apply ak.body|apply ak.no))));simp-implicitDefEqProofs [d,Tryz.underlying137,Tryz.underlying5,w1,u,o,l])
   |((with_reducible first|apply ae.ret|apply ae.skip|apply ae.exit);try simp-implicitDefEqProofs [d,Tryz.underlying137,Tryz.underlying5,w1,u,o,l]))
  refine⟨m-1,_,_,by omega,aS.mk ?_,lR _,i+1,by omega,by omega,rfl,rfl⟩;simp[v,q,w]
 ·have g:L.take i=L:=List.take_of_length_le (by omega);refine gO xI (j4 d @h @bC.eq_1 @e) tI ?_;simp[g]
def tJ (b:List UInt8) (at' n:Int):Int:=if wide n=true then if b.length-at'<n then 1 else 0 else 17
theorem vz (id:Nat) (b:List UInt8) (at' n:Int) (nl:Bool) (σ:AS) (h:σ id=some (bC b at' nl)) (ha:0≤at') (g:at'≤b.length) (hl:b.length≤140737488355328) (he:tJ b at' n≠0):
 aa Tryz.prog 100 [.ptr id 0,.sc (.int .i64 n)] σ (ao (.bQ [.sc (.int .u64 0),.sc (.int .i64 (tJ b at' n))]) σ) No:=by
 refine aa.ob Tryz.func100 ?_;refine gO fB @Tryz.underlying160 tI ?_;refine ag.aC (zq n _) ?_;simp;by_cases hw:wide n=true
 ·refine gO fB @hw tI ?_;refine ag.aC (jm id b at' nl _ h ha g hl) ?_;simp;have d:b.length-at'<n:=by
   by_cases h:b.length-at'<n
   ·exact h
   ·exact absurd (by simp[tJ,hw,h]) he
  refine gO fB @d tI ?_;simp[tJ,hw,d]
 ·refine gO fB @hw tI ?_;simp[tJ,hw]
theorem mc (id:Nat) (b:List UInt8) (at' n:Int) (nl:Bool) (σ:AS) (h:σ id=some (bC b at' nl)) (ha:0≤at') (g:at'≤b.length) (hl:b.length≤140737488355328) (hw:wide n=true) (j:n≤b.length-at'):
 aa Tryz.prog 100 [.ptr id 0,.sc (.int .i64 n)] σ (ao (.bQ [.sc (.int .u64 (bj (cy b at' n))),.sc (.int .i64 0)]) (σ.set id (bC b (at'+n) nl))) No:=by
 have i:1≤n∧n≤8:=by simp[wide]at hw;omega
 have d:¬b.length-at'<n:=by omega
 refine aa.ob Tryz.func100 ?_;refine gO fB @Tryz.underlying160 tI ?_;refine ag.aC (zq n _) ?_;simp;refine gO fB @hw tI ?_;refine ag.aC (jm id b at' nl _ h ha g hl) ?_;simp;refine gO fB @d tI ?_;refine ag.aC (Oo id b at' n nl _ h ha g hl (by omega) j (by omega)) ?_;simp;exact gE fB tI tI
namespace Bd
open Go Go.AW
theorem dw (S:List Nat):aH Tryz.prog [] S:=mixed
structure R6 where
 kd:Int
 ta:Int
 tl:Int
 ha:Int
 hl:Int
 ex:Int
def rh (r:R6):List Int:= [r.kd,r.ta,r.tl,r.ha,r.hl,r.ex]
theorem wJ (r:R6):(rh r).length=6:=rfl
def dz (r:R6):AV:= .agg [.sc (.int .i64 r.kd),.sc (.int .i64 r.ta),.sc (.int .i64 r.tl),.sc (.int .i64 r.ha),.sc (.int .i64 r.hl),.sc (.int .i64 r.ex)]
def GH (n:Int):Bool:=decide (0≤n)&&decide (n≤65535)
def CZ (r:R6):Bool:=(rh r).all GH
def dd (code:List UInt8) (cls:List R6):Bool:=decide (1≤code.length)&&(decide (code.length≤65535)&&(decide (cls.length≤6)&&cls.all CZ))
theorem wL (r:R6) (σ:AS):aa Tryz.prog 245 [dz r] σ (ao (.agg ((rh r).map aV)) σ) No:=by obtain⟨a,b,c,d,e,f⟩:=r;refine aa.ob Tryz.func245 ?_;simp only[dz];refine gO dw tI tI ?_;intro id j;refine gO dw tI tI ?_;intro l g i;have h:=aA g;refine gO dw h tI ?_;simp[rh,aV];all_goals (repeat (first|exact lR _ |refine aq (by simp[j,i,g]) ?_))
theorem pH (a b:Int) (σ:AS):aa Tryz.prog 244 [.sc (.int .i64 a),.sc (.int .i64 b)] σ (ao (.sc (.bool (decide (a<64)&&decide (b=0)))) σ) No:=by
 refine aa.ob Tryz.func244 ?_
 repeat' (first
  |(with_reducible first|apply ae.seq|apply ae.block|refine j2 (by first|omega|assumption|decide) ?_)
  |((first|(with_reducible first|apply ae.fork|apply ae.region));simp-implicitDefEqProofs)
  |trivial
  |(with_reducible apply j2)
  |((with_reducible first|apply ae.ret|apply ae.skip|apply ae.exit);try simp-implicitDefEqProofs)
  |((with_reducible first|apply aN.split|apply aB.split|apply kK.split)<;>(intro d;(try simp-implicitDefEqProofs only[d]);(try simp at d))<;>try simp-implicitDefEqProofs))
 all_goals (repeat' (with_reducible apply j2))
 all_goals exact gL tI
def Wn (cls:List R6) (nl:Bool) (o:cL) (σ:AS) (m:Nat) (fr:Fr) (σ':AS):Prop:=
 ∃i:Nat,m=cls.length-i∧i≤cls.length∧cls.all CZ=(cls.drop i).all CZ∧σ'=σ∧
  fr=jJ [(24,.an 221 (cls.map dz) o nl),(25,.sc (.int .i64 cls.length)),(26,.sc (.int .i64 i))]
def Wo (cls:List R6) (nl:Bool) (o:cL) (σ:AS) (i:Nat) (l:List Int) (m:Nat) (fr:Fr) (σ':AS):Prop:=
 ∃k:Nat,m=6-k∧k≤6∧l.all GH=(l.drop k).all GH∧σ'=σ∧
  fr=jJ [(24,.an 221 (cls.map dz) o nl),(25,.sc (.int .i64 cls.length)),(26,.sc (.int .i64 i)),(31,.agg (l.map aV)),(32,.sc (.int .i64 k))]
theorem wo (code:List UInt8) (cls:List R6) (E u:cL) (n1 n2:Bool) (hc:code.length≤140737488355328) (hk:cls.length≤140737488355328) (σ:AS):
 aa Tryz.prog 243 [.agg [.an 5 (code.map u8) E n1,.an 221 (cls.map dz) u n2]] σ (ao (.sc (.bool (dd code cls))) σ) No:=by
 refine aa.ob Tryz.func243 ?_;refine gO dw tI tI ?_;intro id Q;by_cases U:1≤code.length
 ·by_cases T:code.length≤65535
  ·by_cases S:cls.length≤6
   ·have o:((code.length:Int)<1)=False:=by simp;omega
    have A:(65535<(code.length:Int))=False:=by simp;omega
    have M:(6<(cls.length:Int))=False:=by simp;omega
    have j:dd code cls=cls.all CZ:=by simp[dd,U,T,S]
    rw[j];refine gO dw (j3 @o @A @M) tI ?_;refine ae.dx (Wn cls n2 u (σ.set id (.cells 219 [.an 5 (code.map u8) E n1,.an 221 (cls.map dz) u n2]))) (k0:=cls.length) ⟨0,by omega,by omega,rfl,rfl,rfl⟩ (aS.mk (by simp)) (lR _) ?_;rintro m fr σ' ⟨i,hm,hi,g,rfl,rfl⟩;by_cases G:i<cls.length
    ·obtain⟨r,hg,hd,P,_⟩:=iF cls G;have K:((i:Int)<cls.length)=True:=by simp;omega
     rw[hd]at g;have w:dz r= .agg [.sc (.int .i64 r.kd),.sc (.int .i64 r.ta),.sc (.int .i64 r.tl),.sc (.int .i64 r.ha),.sc (.int .i64 r.hl),.sc (.int .i64 r.ex)]:=rfl;have F:=fun σ=>wL r σ;have H:=wJ r;have L:CZ r=(rh r).all GH:=rfl;rw[List.all_cons,L]at g;simp only[w]at F;generalize rh r=l at F H g;refine gO dw (j3 K @hg @w) tI ?_;intro Y d J;have q:=aA d;refine gO dw tI @F ?_;refine ae.dx (Wo cls n2 u (σ.set id (.cells 219 [.an 5 (code.map u8) E n1,.an 221 (cls.map dz) u n2])) i l) (k0:=6) ⟨0,by omega,by omega,rfl,rfl,rfl⟩ (aS.mk (by simp)) (aq (by simp[*]) (lR _)) ?_;rintro X fr V ⟨k,Z,ab,n,rfl,rfl⟩;by_cases ac:k<6
     ·obtain⟨x,h,I,_,_⟩:=iF l (i:=k) (by omega);have y:((k:Int)<6)=True:=by simp;omega
      rw[I]at n;rw[List.all_cons]at n;by_cases D:x<0
      ·have v:GH x=false:=by simp[GH];omega
       refine gO dw (j4 @y @h @D @aG) tI ?_;simp[g,n,v];all_goals (repeat (first|exact lR _ |refine aq (by simp[*]) ?_))
      ·by_cases O:65535<x
       ·have v:GH x=false:=by simp[GH];omega
        refine gO dw (j5 @y @h @D @O @aG) tI ?_;simp[g,n,v];all_goals (repeat (first|exact lR _ |refine aq (by simp[*]) ?_))
       ·have v:GH x=true:=by simp[GH];omega
        refine gO dw (j5 @y @h @D @O @aG) tI ?_;refine⟨X-1,_,_,by omega,aS.mk ?_,lR _,k+1,by omega,by omega,by rw[n,v,Bool.true_and],rfl,rfl⟩;simp[g8 (show k<4000000000000000000 by omega)]
     ·have y:((k:Int)<6)=False:=by simp;omega
      have:l.drop k= []:=List.drop_eq_nil_of_le (by omega);rw[this]at n;refine gO dw @y tI ?_;refine⟨m-1,_,_,by omega,aS.mk ?_,lR _,i+1,by omega,by omega,by rw[g,n];simp,rfl,rfl⟩;simp[g8 (show i<4000000000000000000 by omega)]
    ·have K:((i:Int)<cls.length)=False:=by simp;omega
     have:cls.drop i= []:=List.drop_eq_nil_of_le (by omega);rw[this]at g;refine gO dw K tI ?_;simp[g];all_goals (repeat (first|exact lR _ |refine aq (by simp[*]) ?_))
   ·have o:((code.length:Int)<1)=False:=by simp;omega
    have A:(65535<(code.length:Int))=False:=by simp;omega
    have M:(6<(cls.length:Int))=True:=by simp;omega
    have j:dd code cls=false:=by simp[dd,S]
    rw[j];refine gO dw (j3 @o @A @M) tI ?_;all_goals (repeat (first|exact lR _ |refine aq (by simp[*]) ?_))
  ·have o:((code.length:Int)<1)=False:=by simp;omega
   have A:(65535<(code.length:Int))=True:=by simp;omega
   have j:dd code cls=false:=by simp[dd,T]
   rw[j];refine gO dw (j2 @o @A) tI ?_;all_goals (repeat (first|exact lR _ |refine aq (by simp[*]) ?_))
 ·have o:((code.length:Int)<1)=True:=by simp;omega
  have j:dd code cls=false:=by simp[dd,U]
  rw[j];refine gO dw @o tI ?_;all_goals (repeat (first|exact lR _ |refine aq (by simp[*]) ?_))
theorem cC (S:List Nat):aH Tryz.prog [] S:=mixed
def rm (r:R6):List UInt8:=(rh r).flatMap fun n=>bg n 2
def tH (l:List UInt8):List UInt8:=l++List.replicate ((4-l.length%4)%4) 0
def mO (c:Nat) (code:List UInt8):List UInt8:= [UInt8.ofNat c,0,0,0]++bg code.length 4++code
def cm (code:List UInt8) (cls:List R6):List UInt8:=
 if cls= []then(if code.length<64 then UInt8.ofNat (4*code.length+2)::code else mO 3 code)
 else tH (mO 11 code)++ [1,UInt8.ofNat cls.length,0,0]++cls.flatMap rm
theorem AZ (code:List UInt8) (l j:cL) (n1 n2:Bool) (v:dd code []=true) (n:code.length<64) (σ:AS):
 aa Tryz.prog 190 [.agg [.an 5 (code.map u8) l n1,.an 221 [] j n2]] σ
  (la (fun i=> .bQ [.an 5 ((cm code []).map u8) (.tok i) false,.sc (.int .i64 0)]) (cm code []).length σ) No:=by
 have h1:=fun σ=>wo code [] l j n1 n2 (by omega) (by simp) σ;simp only[List.map_nil]at h1;rw[v]at h1;have w:((code.length:Int)<64)=True:=by simp;omega
 have w1:IntKind.i64.wrap ((code.length:Int)*4)=code.length*4:=ay (by omega) (by omega);have u:C4 64 ((code.length:Int)*4) 2=code.length*4+2:=oG 2 (by omega) (by omega) (c:=code.length) (by omega) (by omega) (by omega);have q:IntKind.i64.wrap ((code.length:Int)*4+2)=code.length*4+2:=ay (by omega) (by omega);have o:IntKind.u8.wrap ((code.length:Int)*4+2)=((UInt8.ofNat (4*code.length+2)).toNat:Int):=by rw[A6];simp;omega
 refine aa.ob Tryz.func190 ?_;refine gO cC tI tI ?_;intro id h;refine gO cC (j7 @w @w1 @u @q @o @Tryz.underlying3 @Tryz.underlying5) (j2 @h1 @pH) ?_;intro i d g;refine gO cC tI tI ?_;refine bJ i g (iR (by simp[cm,n])) ?_;simp[cm,n];exact jn (aq h (lR _)) (by omega)
theorem F4 (code:List UInt8) (n l:cL) (n1 n2:Bool) (v:dd code []=true) (u:¬code.length<64) (D:code.length≤65535) (σ:AS):
 aa Tryz.prog 190 [.agg [.an 5 (code.map u8) n n1,.an 221 [] l n2]] σ
  (la (fun j=> .bQ [.an 5 ((cm code []).map u8) (.tok j) false,.sc (.int .i64 0)]) (cm code []).length σ) No:=by
 have h1:=fun σ=>wo code [] n l n1 n2 (by omega) (by simp) σ;simp only[List.map_nil]at h1;rw[v]at h1;have y:((code.length:Int)<64)=False:=by simp;omega
 have w1:IntKind.u64.wrap (code.length:Int)=code.length:=nw (by omega) (by omega);have o:=fun σ=>oC [3,0,0,0] .full false (by simp) (by simp) code.length 4 (by omega) (by omega) (by decide) σ;simp only[List.map_cons,List.map_nil,H0]at o;have q:=ax code.length 4;have w:cm code []= [3,0,0,0]++bg code.length 4++code:=by simp[cm,u,mO]
 rw[w];refine aa.ob Tryz.func190 ?_;refine gO cC tI tI ?_;intro id i;refine gO cC (j4 @y @w1 @Tryz.underlying3 @Tryz.underlying137) (j3 @h1 @pH @o) ?_;intro j d h;have g:=aA d;generalize bg code.length 4=A at q⊢;refine gO cC g tI ?_;refine bJ j h (iR (by simp)) ?_;simp[q];exact jn (aq i (lR _)) (by omega)
theorem GA (l:List UInt8) (h:¬l.length%4=0):tH (l++ [0])=tH l:=by
 unfold tH;have e:(4-l.length%4)%4=(4-(l++ [(0:UInt8)]).length%4)%4+1:=by simp;omega
 rw[e,List.replicate_succ,List.append_assoc];rfl
theorem GB (l:List UInt8) (h:l.length%4=0):tH l=l:=by unfold tH;simp[h]
theorem wG (l:List UInt8):(tH l).length=(l.length+3)/4*4:=by unfold tH;simp;omega
theorem pZ (r:R6):(rm r).length=12:=by simp[rm,rh,ax]
theorem Ci (l:List R6):(l.flatMap rm).length=12*l.length:=by
 induction l with
 |nil=>rfl
 |cons r t d=>simp[pZ,d];omega
theorem BI {r:R6}(h:CZ r=true):∀x∈rh r,0≤x∧x≤65535:=by intro x d;have:=List.all_eq_true.1 h x d;simpa[GH]using this
def V8 (cls:List R6) (o:cL) (nl:Bool) (id:Nat) (L:List UInt8) (B:AS) (m:Nat) (fr:Fr) (σ':AS):Prop:=
 ∃(l:List UInt8) (d:Nat),tH l=L∧m=(4-l.length%4)%4∧l.length≤L.length∧B d=none∧σ'=B.set d (.tok l.length)∧
  fr=jJ [(1,.ptr id 0),(4,.an 5 (l.map u8) (.tok d) false)]
def V9 (cls:List R6) (o:cL) (nl:Bool) (L:List UInt8) (B:AS) (m:Nat) (fr:Fr) (σ':AS):Prop:=
 ∃(i:Nat) (d:Nat),m=cls.length-i∧i≤cls.length∧B d=none∧σ'=B.set d (.tok (L++(cls.take i).flatMap rm).length)∧
  fr=jJ [(4,.an 5 ((L++(cls.take i).flatMap rm).map u8) (.tok d) false),(69,.an 221 (cls.map dz) o nl),(70,.sc (.int .i64 cls.length)),(71,.sc (.int .i64 i))]
def TK (cls:List R6) (o:cL) (nl:Bool) (L:List UInt8) (B:AS) (i:Nat) (l:List Int) (m:Nat) (fr:Fr) (σ':AS):Prop:=
 ∃(k:Nat) (d:Nat),m=6-k∧k≤6∧B d=none∧σ'=B.set d (.tok (L++(l.take k).flatMap (bg · 2)).length)∧
  fr=jJ [(4,.an 5 ((L++(l.take k).flatMap (bg · 2)).map u8) (.tok d) false),(69,.an 221 (cls.map dz) o nl),(70,.sc (.int .i64 cls.length)),(71,.sc (.int .i64 i)),
   (76,.agg (l.map aV)),(77,.sc (.int .i64 k))]
theorem F3 (code:List UInt8) (cls:List R6) (H A:cL) (n1 n2:Bool) (hr:dd code cls=true) (J:cls≠ []) (σ:AS):
 aa Tryz.prog 190 [.agg [.an 5 (code.map u8) H n1,.an 221 (cls.map dz) A n2]] σ
  (la (fun d=> .bQ [.an 5 ((cm code cls).map u8) (.tok d) false,.sc (.int .i64 0)]) (cm code cls).length σ) No:=by
 obtain⟨g1,g2,g3,g4⟩:1≤code.length∧code.length≤65535∧cls.length≤6∧ ∀r∈cls,CZ r=true:=by simpa[dd]using hr
 have h1:=fun σ=>wo code cls H A n1 n2 (by omega) (by omega) σ;rw[hr]at h1;have am:(cls= [])=False:=by simp[J]
 have bv:(0<cls.length)=True:=by have:=List.length_pos_iff.2 J;simp;omega
 have w1:IntKind.u64.wrap (code.length:Int)=code.length:=nw (by omega) (by omega);have V:=fun σ=>oC [11,0,0,0] .full false (by simp) (by simp) code.length 4 (by omega) (by omega) (by decide) σ;simp only[List.map_cons,List.map_nil,H0]at V;have hb:=ax code.length 4;have hW:cm code cls=tH ([11,0,0,0]++bg code.length 4++code)++ [1,UInt8.ofNat cls.length,0,0]++cls.flatMap rm:=by simp[cm,J,mO]
 rw[hW];generalize o:tH ([11,0,0,0]++bg code.length 4++code)=L;refine aa.ob Tryz.func190 ?_;refine gO cC tI tI ?_;intro id af;refine gO (S:= [5,8]) cC @am (j2 @h1 @pH) ?_
 with_reducible apply ae.eX
 refine br.sp rfl (il.ml (by decide) ?_);simp-implicitDefEqProofs [bH];intro a3 y bs;have v:=aA y;refine br.rest ?_;simp-implicitDefEqProofs;refine gO (S:= [5,8]) cC (j2 @bv v) tI ?_;refine ae.freeze 4 a3 (([11,0,0,0]:List UInt8).map u8) (m:=4) (by simp) (by simp[*]) (by simp) (by simp) (by simp) ?_;simp-implicitDefEqProofs;refine gO cC (j3 @w1 @Tryz.underlying3 @Tryz.underlying137) @V ?_;intro d j F;have D:=aA j;clear V;generalize bg code.length 4=pb at hb o⊢;refine gO cC (j3 @am @hb D) tI ?_;have hB:∀d,¬d=id→σ d=none→(σ.set id (.cells 219 [.an 5 (code.map u8) H n1,.an 221 (cls.map dz) A n2])) d=none:=by intro d h1 h2;simp[h1,h2]
 have a0:(σ.set id (.cells 219 [.an 5 (code.map u8) H n1,.an 221 (cls.map dz) A n2])) id=some (.cells 219 [.an 5 (code.map u8) H n1,.an 221 (cls.map dz) A n2]):=by simp
 have av:AS.le σ (σ.set id (.cells 219 [.an 5 (code.map u8) H n1,.an 221 (cls.map dz) A n2])):=aq af (lR _);have O:∀d,(σ.set id (.cells 219 [.an 5 (code.map u8) H n1,.an 221 (cls.map dz) A n2])) d=none→ ¬d=id∧ ¬id=d∧σ d=none:=by intro d h;simp at h;exact⟨h.1,fun e=>h.1 e.symm,h.2⟩
 have g:=hB d j F;generalize (σ.set id (.cells 219 [.an 5 (code.map u8) H n1,.an 221 (cls.map dz) A n2]))=B at*;have b0:(([11,0,0,0]++pb++code:List UInt8)).length=8+code.length:=by simp[hb];omega
 refine ae.dx (V8 cls A n2 id L B) ⟨[11,0,0,0]++pb++code,d,o,rfl,by rw[←o,wG];omega,g,rfl,rfl⟩ (aS.mk (by simp)) (jn (lR _) (by simp[hb];try omega)) ?_;have c1:L.length≤65600:=by rw[←o,wG];omega
 clear b0 hb o hW;rintro m fr σ' ⟨l,d,q,hm,hlen,g,rfl,rfl⟩;obtain⟨E,u,_⟩:=O d g;have e4:((l.length:Int)).tmod 4=((l.length%4:Nat):Int):=by rw[Int.tmod_eq_emod_of_nonneg (by omega)];rfl
 by_cases hz:l.length%4=0
 ·rw[GB l hz]at q;subst q;have w5:IntKind.u8.wrap (cls.length:Int)=((UInt8.ofNat cls.length).toNat:Int):=by rw[A6];simp
  refine gO cC (j7 @e4 @hz @a0 @u @w5 @Tryz.underlying3 @Tryz.underlying5) tI ?_;have ar:(l++ [1,UInt8.ofNat cls.length,0,0]).length≤65604:=by simp;omega
  refine ae.dx (V9 cls A n2 (l++ [1,UInt8.ofNat cls.length,0,0]) B) (k0:=cls.length) ⟨0,d,by omega,by omega,g,rfl,rfl⟩ (aS.mk (by simp)) (jn (lR _) (by simp)) ?_;generalize ap:l++ [1,UInt8.ofNat cls.length,0,0]=L at ar⊢;clear hm hz e4 E u hlen w5;rintro m fr σ' ⟨i,d,hm,hi,g,rfl,rfl⟩;obtain⟨E,u,_⟩:=O d g;by_cases a8:i<cls.length
  ·obtain⟨r,hg,hd,ab,I⟩:=iF cls a8;have hI:((i:Int)<cls.length)=True:=by simp;omega
   have U:dz r= .agg [.sc (.int .i64 r.kd),.sc (.int .i64 r.ta),.sc (.int .i64 r.tl),.sc (.int .i64 r.ha),.sc (.int .i64 r.hl),.sc (.int .i64 r.ex)]:=rfl;have hn:=fun σ=>wL r σ;have a9:=wJ r;have Z:=BI (g4 r ab);have hE:rm r=(rh r).flatMap fun n=>bg n 2:=rfl;have hX:(L++(cls.take i).flatMap rm).length≤65676:=by rw[List.length_append,Ci,List.length_take];omega
   have M:L++(cls.take (i+1)).flatMap rm=L++(cls.take i).flatMap rm++(rh r).flatMap fun n=>bg n 2:=by rw[I,List.flatMap_append,←List.append_assoc];simp[hE]
   simp only[U]at hn;generalize rh r=G at hn a9 Z M;generalize L++(cls.take i).flatMap rm=X at hX M⊢;refine gO cC (j3 hI @hg @U) tI ?_;intro id3 w be;have P:=aA w;refine gO cC tI @hn ?_;refine ae.dx (TK cls A n2 X B i G) (k0:=6) ⟨0,d,rfl,by omega,g,rfl,rfl⟩ (aS.mk (by simp)) (aq (by simp[*]) (jn (lR _) (by simp))) ?_;clear E u;rintro m2 fr cb ⟨k,d,ch,ci,g,rfl,rfl⟩;have cs:(X++(G.take k).flatMap (bg · 2)).length≤65700:=by
    have:∀l:List Int,(l.flatMap (bg · 2)).length=2*l.length:=by
     intro l;induction l with
     |nil=>rfl
     |cons a t ih=>simp[ax]at ih⊢;omega
    rw[List.length_append,this,List.length_take];omega
   by_cases cj:k<6
   ·obtain⟨x,bb,cl,a7,a5⟩:=iF G (i:=k) (by omega);have hK:((k:Int)<6)=True:=by simp;omega
    obtain⟨x1,x2⟩:=Z x a7;have wx:IntKind.u64.wrap x=x:=nw (by omega) (by omega);have al:X++(G.take (k+1)).flatMap (bg · 2)=X++(G.take k).flatMap (bg · 2)++bg x 2:=by rw[a5,List.flatMap_append,←List.append_assoc];simp
    have V:=fun σ=>oC (X++(G.take k).flatMap (bg · 2)) (.tok d) false (by simp) (by omega) x 2 (by omega) (by omega) (by decide) σ;generalize X++(G.take k).flatMap (bg · 2)=Y at*;have bc:=ax x 2;refine gO cC (j6 @hK @bb @aG @wx @Tryz.underlying3 @Tryz.underlying137) @V ?_;intro a2 Q K;refine gO cC tI tI ?_;refine⟨m2-1,_,_,by omega,aS.mk ?_,?_,k+1,a2,by omega,by omega,K,rfl,rfl⟩
    ·rw[al];simp[g8 (show k<4000000000000000000 by omega)]
    ·rw[al];exact jn (aq g (lR _)) (by simp[bc])
   ·have hK:((k:Int)<6)=False:=by simp;omega
    have T:G.take k=G:=List.take_of_length_le (by omega);rw[T];rw[←M];refine gO cC @hK tI ?_;refine⟨m-1,_,_,by omega,aS.mk ?_,jn (lR _) (by simp),i+1,d,by omega,by omega,g,rfl,rfl⟩;simp[g8 (show i<4000000000000000000 by omega)]
  ·have hI:((i:Int)<cls.length)=False:=by simp;omega
   have:cls.take i=cls:=List.take_of_length_le (by omega);rw[this];obtain⟨_,_,F⟩:=O d g;refine gO cC hI tI ?_;refine bJ d F (iR (by simp[←ap])) ?_;exact jn av (by simp[←ap];omega)
 ·have a4:((l.length:Int)%4=0)=False:=by simp;omega
  refine gO cC (j2 @e4 @a4) tI ?_;refine⟨m-1,_,_,by omega,aS.mk ?_,lR _,l++ [0],d,by rw[GA l hz];exact q,by simp;omega,by rw[←q,wG];simp;omega,g,by simp,rfl⟩;simp
def za (code:List UInt8) (cls:List R6) (g d:cL) (n1 n2:Bool):AV:= .agg [.an 5 (code.map u8) g n1,.an 221 (cls.map dz) d n2]
@[simp] theorem UX:Program.eqGuardType Tryz.prog Tryz.prog.depth 221=false:=by kernel_rfl
theorem A1 (code:List UInt8) (cls:List R6) (g d:cL) (n1 n2:Bool) (h:dd code cls=true) (σ:AS):
 aa Tryz.prog 190 [za code cls g d n1 n2] σ
  (la (fun l=> .bQ [.an 5 ((cm code cls).map u8) (.tok l) false,.sc (.int .i64 0)]) (cm code cls).length σ) No:=by
 by_cases j:cls= []
 ·subst j;by_cases i:code.length<64
  ·exact AZ code g d n1 n2 h i σ
  ·refine F4 code g d n1 n2 h i ?_ σ;simp[dd]at h;omega
 ·exact F3 code cls g d n1 n2 h j σ
end Bd
end Go.Proofs.YtknalmoackcpbaaGreat
