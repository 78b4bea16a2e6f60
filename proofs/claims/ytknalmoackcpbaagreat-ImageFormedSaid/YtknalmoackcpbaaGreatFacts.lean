/- Facts on the types of this seat, each reckoned by the kernel (printed by facts.py). -/
import Derived.Test.YtknalmoackcpbaaGreatAwLink
import Derived.Test.YtknalmoackcpbaaGreatProg
import Derived.KernelRfl
set_option maxRecDepth 100000
namespace Go.Proofs.YtknalmoackcpbaaGreat
open Go Go.AW
@[simp] theorem ft_lk2 : lkT Tryz.prog 2 = .one := by kernel_rfl
@[simp] theorem ft_ce2 : Program.cellsOf Tryz.prog 2 = 1 := by kernel_rfl
@[simp] theorem ft_lk3 : lkT Tryz.prog 3 = .one := by kernel_rfl
@[simp] theorem ft_ce3 : Program.cellsOf Tryz.prog 3 = 1 := by kernel_rfl
@[simp] theorem ft_by3 : Program.bytesOf Tryz.prog 3 = 8 := by kernel_rfl
@[simp] theorem ft_ze3 : zeroAV Tryz.prog 3 = .sc (.int .i64 0) := by kernel_rfl
@[simp] theorem ft_lk4 : lkT Tryz.prog 4 = .one := by kernel_rfl
@[simp] theorem ft_ce4 : Program.cellsOf Tryz.prog 4 = 1 := by kernel_rfl
@[simp] theorem ft_lk5 : lkT Tryz.prog 5 = .one := by kernel_rfl
@[simp] theorem ft_ce5 : Program.cellsOf Tryz.prog 5 = 1 := by kernel_rfl
@[simp] theorem ft_by5 : Program.bytesOf Tryz.prog 5 = 1 := by kernel_rfl
@[simp] theorem ft_ze5 : zeroAV Tryz.prog 5 = .sc (.int .u8 0) := by kernel_rfl
@[simp] theorem ft_lk9 : lkT Tryz.prog 9 = .one := by kernel_rfl
@[simp] theorem ft_ce9 : Program.cellsOf Tryz.prog 9 = 1 := by kernel_rfl
@[simp] theorem ft_lk22 : lkT Tryz.prog 22 = .one := by kernel_rfl
@[simp] theorem ft_ce22 : Program.cellsOf Tryz.prog 22 = 1 := by kernel_rfl
@[simp] theorem ft_sl22 : sliceT Tryz.prog 22 = some 46 := by kernel_rfl
@[simp] theorem ft_lk23 : lkT Tryz.prog 23 = .one := by kernel_rfl
@[simp] theorem ft_ce23 : Program.cellsOf Tryz.prog 23 = 1 := by kernel_rfl
@[simp] theorem ft_sl23 : sliceT Tryz.prog 23 = some 56 := by kernel_rfl
@[simp] theorem ft_lk24 : lkT Tryz.prog 24 = .one := by kernel_rfl
@[simp] theorem ft_ce24 : Program.cellsOf Tryz.prog 24 = 1 := by kernel_rfl
@[simp] theorem ft_sl24 : sliceT Tryz.prog 24 = some 53 := by kernel_rfl
@[simp] theorem ft_lk26 : lkT Tryz.prog 26 = .agg 4 := by kernel_rfl
@[simp] theorem ft_ce26 : Program.cellsOf Tryz.prog 26 = 4 := by kernel_rfl
@[simp] theorem ft_ze26 : zeroAV Tryz.prog 26 = .agg [.nilS, .nilS, .nilS, .sc (.int .i64 0)] := by kernel_rfl
@[simp] theorem ft_bu26 : buildT Tryz.prog 26 = true := by kernel_rfl
@[simp] theorem ft_pl26_0 : placeT Tryz.prog 26 0 = some (0, 1) := by kernel_rfl
@[simp] theorem ft_pl26_1 : placeT Tryz.prog 26 1 = some (1, 1) := by kernel_rfl
@[simp] theorem ft_pl26_2 : placeT Tryz.prog 26 2 = some (2, 1) := by kernel_rfl
@[simp] theorem ft_pl26_3 : placeT Tryz.prog 26 3 = some (3, 1) := by kernel_rfl
@[simp] theorem ft_lk30 : lkT Tryz.prog 30 = .one := by kernel_rfl
@[simp] theorem ft_sl30 : sliceT Tryz.prog 30 = some 5 := by kernel_rfl
@[simp] theorem ft_lk44 : lkT Tryz.prog 44 = .one := by kernel_rfl
@[simp] theorem ft_ce44 : Program.cellsOf Tryz.prog 44 = 1 := by kernel_rfl
@[simp] theorem ft_sl44 : sliceT Tryz.prog 44 = some 3 := by kernel_rfl
@[simp] theorem ft_lk46 : lkT Tryz.prog 46 = .agg 4 := by kernel_rfl
@[simp] theorem ft_ce46 : Program.cellsOf Tryz.prog 46 = 4 := by kernel_rfl
@[simp] theorem ft_by46 : Program.bytesOf Tryz.prog 46 = 56 := by kernel_rfl
@[simp] theorem ft_ze46 : zeroAV Tryz.prog 46 = .agg [.sc (.string .empty), .sc (.int .i64 0), .sc (.int .i64 0), .nilS] := by kernel_rfl
@[simp] theorem ft_pl46_0 : placeT Tryz.prog 46 0 = some (0, 1) := by kernel_rfl
@[simp] theorem ft_pl46_1 : placeT Tryz.prog 46 1 = some (1, 1) := by kernel_rfl
@[simp] theorem ft_pl46_2 : placeT Tryz.prog 46 2 = some (2, 1) := by kernel_rfl
@[simp] theorem ft_pl46_3 : placeT Tryz.prog 46 3 = some (3, 1) := by kernel_rfl
@[simp] theorem ft_lk47 : lkT Tryz.prog 47 = .one := by kernel_rfl
@[simp] theorem ft_ce47 : Program.cellsOf Tryz.prog 47 = 1 := by kernel_rfl
@[simp] theorem ft_sl47 : sliceT Tryz.prog 47 = some 49 := by kernel_rfl
@[simp] theorem ft_lk49 : lkT Tryz.prog 49 = .agg 4 := by kernel_rfl
@[simp] theorem ft_ce49 : Program.cellsOf Tryz.prog 49 = 4 := by kernel_rfl
@[simp] theorem ft_by49 : Program.bytesOf Tryz.prog 49 = 32 := by kernel_rfl
@[simp] theorem ft_ze49 : zeroAV Tryz.prog 49 = .agg [.sc (.int .i64 0), .sc (.int .i64 0), .sc (.int .i64 0), .sc (.bool false)] := by kernel_rfl
@[simp] theorem ft_bu49 : buildT Tryz.prog 49 = true := by kernel_rfl
@[simp] theorem ft_pl49_0 : placeT Tryz.prog 49 0 = some (0, 1) := by kernel_rfl
@[simp] theorem ft_pl49_1 : placeT Tryz.prog 49 1 = some (1, 1) := by kernel_rfl
@[simp] theorem ft_pl49_2 : placeT Tryz.prog 49 2 = some (2, 1) := by kernel_rfl
@[simp] theorem ft_pl49_3 : placeT Tryz.prog 49 3 = some (3, 1) := by kernel_rfl
@[simp] theorem ft_lk50 : lkT Tryz.prog 50 = .one := by kernel_rfl
@[simp] theorem ft_ce50 : Program.cellsOf Tryz.prog 50 = 1 := by kernel_rfl
@[simp] theorem ft_sl50 : sliceT Tryz.prog 50 = some 110 := by kernel_rfl
@[simp] theorem ft_lk51 : lkT Tryz.prog 51 = .one := by kernel_rfl
@[simp] theorem ft_ce51 : Program.cellsOf Tryz.prog 51 = 1 := by kernel_rfl
@[simp] theorem ft_sl51 : sliceT Tryz.prog 51 = some 158 := by kernel_rfl
@[simp] theorem ft_lk53 : lkT Tryz.prog 53 = .agg 12 := by kernel_rfl
@[simp] theorem ft_ce53 : Program.cellsOf Tryz.prog 53 = 12 := by kernel_rfl
@[simp] theorem ft_by53 : Program.bytesOf Tryz.prog 53 = 168 := by kernel_rfl
@[simp] theorem ft_ze53 : zeroAV Tryz.prog 53 = .agg [.sc (.string .empty), .sc (.int .i64 0), .sc (.int .i64 0), .nilS, .sc (.int .i64 0), .sc (.int .i64 0), .sc (.int .i64 0), .sc (.bool false), .nilS, .sc (.int .i64 0), .nilS, .nilS] := by kernel_rfl
@[simp] theorem ft_pl53_0 : placeT Tryz.prog 53 0 = some (0, 1) := by kernel_rfl
@[simp] theorem ft_pl53_1 : placeT Tryz.prog 53 1 = some (1, 1) := by kernel_rfl
@[simp] theorem ft_pl53_2 : placeT Tryz.prog 53 2 = some (2, 1) := by kernel_rfl
@[simp] theorem ft_pl53_3 : placeT Tryz.prog 53 3 = some (3, 1) := by kernel_rfl
@[simp] theorem ft_pl53_4 : placeT Tryz.prog 53 4 = some (4, 4) := by kernel_rfl
@[simp] theorem ft_pl53_5 : placeT Tryz.prog 53 5 = some (8, 1) := by kernel_rfl
@[simp] theorem ft_pl53_6 : placeT Tryz.prog 53 6 = some (9, 1) := by kernel_rfl
@[simp] theorem ft_pl53_7 : placeT Tryz.prog 53 7 = some (10, 1) := by kernel_rfl
@[simp] theorem ft_pl53_8 : placeT Tryz.prog 53 8 = some (11, 1) := by kernel_rfl
@[simp] theorem ft_lk56 : lkT Tryz.prog 56 = .agg 7 := by kernel_rfl
@[simp] theorem ft_ce56 : Program.cellsOf Tryz.prog 56 = 7 := by kernel_rfl
@[simp] theorem ft_by56 : Program.bytesOf Tryz.prog 56 = 64 := by kernel_rfl
@[simp] theorem ft_ze56 : zeroAV Tryz.prog 56 = .agg [.sc (.string .empty), .sc (.int .i64 0), .sc (.int .i64 0), .sc (.int .i64 0), .sc (.int .i64 0), .sc (.bool false), .sc (.bool false)] := by kernel_rfl
@[simp] theorem ft_pl56_0 : placeT Tryz.prog 56 0 = some (0, 1) := by kernel_rfl
@[simp] theorem ft_pl56_1 : placeT Tryz.prog 56 1 = some (1, 1) := by kernel_rfl
@[simp] theorem ft_pl56_2 : placeT Tryz.prog 56 2 = some (2, 4) := by kernel_rfl
@[simp] theorem ft_lk110 : lkT Tryz.prog 110 = .agg 6 := by kernel_rfl
@[simp] theorem ft_ce110 : Program.cellsOf Tryz.prog 110 = 6 := by kernel_rfl
@[simp] theorem ft_by110 : Program.bytesOf Tryz.prog 110 = 48 := by kernel_rfl
@[simp] theorem ft_ze110 : zeroAV Tryz.prog 110 = .agg [.sc (.int .i64 0), .sc (.int .i64 0), .sc (.int .i64 0), .sc (.int .i64 0), .sc (.int .i64 0), .sc (.bool false)] := by kernel_rfl
@[simp] theorem ft_pl110_0 : placeT Tryz.prog 110 0 = some (0, 1) := by kernel_rfl
@[simp] theorem ft_pl110_1 : placeT Tryz.prog 110 1 = some (1, 1) := by kernel_rfl
@[simp] theorem ft_pl110_2 : placeT Tryz.prog 110 2 = some (2, 4) := by kernel_rfl
@[simp] theorem ft_lk158 : lkT Tryz.prog 158 = .agg 10 := by kernel_rfl
@[simp] theorem ft_ce158 : Program.cellsOf Tryz.prog 158 = 10 := by kernel_rfl
@[simp] theorem ft_by158 : Program.bytesOf Tryz.prog 158 = 80 := by kernel_rfl
@[simp] theorem ft_ze158 : zeroAV Tryz.prog 158 = .agg [.sc (.int .i64 0), .sc (.int .i64 0), .sc (.int .i64 0), .sc (.int .i64 0), .sc (.int .i64 0), .sc (.int .i64 0), .sc (.int .i64 0), .sc (.int .i64 0), .sc (.int .i64 0), .sc (.bool false)] := by kernel_rfl
@[simp] theorem ft_pl158_0 : placeT Tryz.prog 158 0 = some (0, 1) := by kernel_rfl
@[simp] theorem ft_pl158_1 : placeT Tryz.prog 158 1 = some (1, 1) := by kernel_rfl
@[simp] theorem ft_pl158_2 : placeT Tryz.prog 158 2 = some (2, 1) := by kernel_rfl
@[simp] theorem ft_pl158_3 : placeT Tryz.prog 158 3 = some (3, 1) := by kernel_rfl
@[simp] theorem ft_pl158_4 : placeT Tryz.prog 158 4 = some (4, 1) := by kernel_rfl
@[simp] theorem ft_pl158_5 : placeT Tryz.prog 158 5 = some (5, 1) := by kernel_rfl
@[simp] theorem ft_pl158_6 : placeT Tryz.prog 158 6 = some (6, 4) := by kernel_rfl
@[simp] theorem ft_lk160 : lkT Tryz.prog 160 = .one := by kernel_rfl
@[simp] theorem ft_ce169 : Program.cellsOf Tryz.prog 169 = 2 := by kernel_rfl
@[simp] theorem ft_ze169 : zeroAV Tryz.prog 169 = .agg [.sc (.int .i64 0), .sc (.int .i64 0)] := by kernel_rfl
@[simp] theorem ft_pl169_0 : placeT Tryz.prog 169 0 = some (0, 1) := by kernel_rfl
@[simp] theorem ft_pl169_1 : placeT Tryz.prog 169 1 = some (1, 1) := by kernel_rfl
@[simp] theorem ft_lk194 : lkT Tryz.prog 194 = .agg 3 := by kernel_rfl
@[simp] theorem ft_ce194 : Program.cellsOf Tryz.prog 194 = 3 := by kernel_rfl
@[simp] theorem ft_ze194 : zeroAV Tryz.prog 194 = .agg [.sc (.string .empty), .sc (.int .i64 0), .sc (.int .i64 0)] := by kernel_rfl
@[simp] theorem ft_bu194 : buildT Tryz.prog 194 = true := by kernel_rfl
@[simp] theorem ft_pl194_0 : placeT Tryz.prog 194 0 = some (0, 1) := by kernel_rfl
@[simp] theorem ft_pl194_1 : placeT Tryz.prog 194 1 = some (1, 1) := by kernel_rfl
@[simp] theorem ft_pl194_2 : placeT Tryz.prog 194 2 = some (2, 1) := by kernel_rfl
@[simp] theorem ft_lk200 : lkT Tryz.prog 200 = .agg 4 := by kernel_rfl
@[simp] theorem ft_ze200 : zeroAV Tryz.prog 200 = .agg [.sc (.int .i64 0), .sc (.int .i64 0), .sc (.int .i64 0), .sc (.bool false)] := by kernel_rfl
@[simp] theorem ft_bu200 : buildT Tryz.prog 200 = true := by kernel_rfl
@[simp] theorem ft_pl200_0 : placeT Tryz.prog 200 0 = some (0, 1) := by kernel_rfl
@[simp] theorem ft_pl200_1 : placeT Tryz.prog 200 1 = some (1, 1) := by kernel_rfl
@[simp] theorem ft_pl200_2 : placeT Tryz.prog 200 2 = some (2, 1) := by kernel_rfl
@[simp] theorem ft_pl200_3 : placeT Tryz.prog 200 3 = some (3, 1) := by kernel_rfl
@[simp] theorem ft_lk206 : lkT Tryz.prog 206 = .one := by kernel_rfl
@[simp] theorem ft_ze207 : zeroAV Tryz.prog 207 = .agg [.sc (.int .u32 0), .sc (.int .u32 0), .sc (.int .u32 0), .sc (.int .u32 0), .sc (.int .u32 0)] := by kernel_rfl
@[simp] theorem ft_ar207 : arrT Tryz.prog 207 = some (5, 206) := by kernel_rfl
@[simp] theorem ft_pl207 : ∀ i, placeT Tryz.prog 207 i = some (i * 1, 1) := fun i => by kernel_rfl
@[simp] theorem ft_bu207 : buildT Tryz.prog 207 = true := by kernel_rfl
@[simp] theorem ft_pl226_0 : placeT Tryz.prog 226 0 = some (0, 1) := by kernel_rfl
@[simp] theorem ft_pl226_1 : placeT Tryz.prog 226 1 = some (1, 1) := by kernel_rfl
@[simp] theorem ft_co272 : Program.concrete Tryz.prog 272 = true := by kernel_rfl
@[simp] theorem ft_lk275 : lkT Tryz.prog 275 = .agg 1 := by kernel_rfl
@[simp] theorem ft_pl275_0 : placeT Tryz.prog 275 0 = some (0, 1) := by kernel_rfl
@[simp] theorem ft_lk295 : lkT Tryz.prog 295 = .agg 2 := by kernel_rfl
@[simp] theorem ft_ze295 : zeroAV Tryz.prog 295 = .agg [.sc (.int .i64 0), .sc (.int .i64 0)] := by kernel_rfl
@[simp] theorem ft_bu295 : buildT Tryz.prog 295 = true := by kernel_rfl
@[simp] theorem ft_pl295_0 : placeT Tryz.prog 295 0 = some (0, 1) := by kernel_rfl
@[simp] theorem ft_pl295_1 : placeT Tryz.prog 295 1 = some (1, 1) := by kernel_rfl
@[simp] theorem ft_lk297 : lkT Tryz.prog 297 = .one := by kernel_rfl
@[simp] theorem ft_sl297 : sliceT Tryz.prog 297 = some 302 := by kernel_rfl
@[simp] theorem ft_lk300 : lkT Tryz.prog 300 = .agg 2 := by kernel_rfl
@[simp] theorem ft_ze300 : zeroAV Tryz.prog 300 = .agg [.sc (.int .i64 0), .sc (.int .i64 0)] := by kernel_rfl
@[simp] theorem ft_bu300 : buildT Tryz.prog 300 = true := by kernel_rfl
@[simp] theorem ft_pl300_0 : placeT Tryz.prog 300 0 = some (0, 1) := by kernel_rfl
@[simp] theorem ft_pl300_1 : placeT Tryz.prog 300 1 = some (1, 1) := by kernel_rfl
@[simp] theorem ft_lk302 : lkT Tryz.prog 302 = .agg 4 := by kernel_rfl
@[simp] theorem ft_ce302 : Program.cellsOf Tryz.prog 302 = 4 := by kernel_rfl
@[simp] theorem ft_by302 : Program.bytesOf Tryz.prog 302 = 32 := by kernel_rfl
@[simp] theorem ft_ze302 : zeroAV Tryz.prog 302 = .agg [.sc (.int .i64 0), .sc (.int .i64 0), .sc (.int .i64 0), .sc (.int .i64 0)] := by kernel_rfl
@[simp] theorem ft_bu302 : buildT Tryz.prog 302 = true := by kernel_rfl
@[simp] theorem ft_pl302_0 : placeT Tryz.prog 302 0 = some (0, 2) := by kernel_rfl
@[simp] theorem ft_pl302_1 : placeT Tryz.prog 302 1 = some (2, 2) := by kernel_rfl
@[simp] theorem ft_lk303 : lkT Tryz.prog 303 = .one := by kernel_rfl
@[simp] theorem ft_ze342 : zeroAV Tryz.prog 342 = .agg [.sc (.int .i64 0), .sc (.int .i64 0), .sc (.int .i64 0), .sc (.int .i64 0), .sc (.int .i64 0)] := by kernel_rfl
@[simp] theorem ft_ar342 : arrT Tryz.prog 342 = some (5, 3) := by kernel_rfl
@[simp] theorem ft_pl342 : ∀ i, placeT Tryz.prog 342 i = some (i * 1, 1) := fun i => by kernel_rfl
@[simp] theorem ft_bu342 : buildT Tryz.prog 342 = true := by kernel_rfl
end Go.Proofs.YtknalmoackcpbaaGreat
