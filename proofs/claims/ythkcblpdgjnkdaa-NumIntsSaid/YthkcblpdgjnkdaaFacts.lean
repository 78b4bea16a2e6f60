/- Facts on the types of this seat, each reckoned by the kernel (printed by facts.py). -/
import Derived.Test.YthkcblpdgjnkdaaAwLaw
import Derived.Test.YthkcblpdgjnkdaaProg
import Derived.KernelRfl
set_option maxRecDepth 100000
namespace Go.Proofs.Ythkcblpdgjnkdaa
open Go Go.AW
@[simp] theorem ft_lk1 : lkT Try.prog 1 = .one := by kernel_rfl
@[simp] theorem ft_ce1 : Program.cellsOf Try.prog 1 = 1 := by kernel_rfl
@[simp] theorem ft_by1 : Program.bytesOf Try.prog 1 = 8 := by kernel_rfl
@[simp] theorem ft_ze1 : zeroAV Try.prog 1 = .sc .nilFunc := by kernel_rfl
@[simp] theorem ft_co1 : Program.concrete Try.prog 1 = true := by kernel_rfl
@[simp] theorem ft_lk2 : lkT Try.prog 2 = .one := by kernel_rfl
@[simp] theorem ft_ce2 : Program.cellsOf Try.prog 2 = 1 := by kernel_rfl
@[simp] theorem ft_by2 : Program.bytesOf Try.prog 2 = 8 := by kernel_rfl
@[simp] theorem ft_ze2 : zeroAV Try.prog 2 = .sc (.int .i64 0) := by kernel_rfl
@[simp] theorem ft_co2 : Program.concrete Try.prog 2 = true := by kernel_rfl
@[simp] theorem ft_lk3 : lkT Try.prog 3 = .one := by kernel_rfl
@[simp] theorem ft_ce3 : Program.cellsOf Try.prog 3 = 1 := by kernel_rfl
@[simp] theorem ft_by3 : Program.bytesOf Try.prog 3 = 8 := by kernel_rfl
@[simp] theorem ft_ze3 : zeroAV Try.prog 3 = .sc (.int .i64 0) := by kernel_rfl
@[simp] theorem ft_co3 : Program.concrete Try.prog 3 = true := by kernel_rfl
@[simp] theorem ft_lk4 : lkT Try.prog 4 = .one := by kernel_rfl
@[simp] theorem ft_ce4 : Program.cellsOf Try.prog 4 = 1 := by kernel_rfl
@[simp] theorem ft_by4 : Program.bytesOf Try.prog 4 = 1 := by kernel_rfl
@[simp] theorem ft_ze4 : zeroAV Try.prog 4 = .sc (.bool false) := by kernel_rfl
@[simp] theorem ft_co4 : Program.concrete Try.prog 4 = true := by kernel_rfl
@[simp] theorem ft_lk5 : lkT Try.prog 5 = .one := by kernel_rfl
@[simp] theorem ft_ce5 : Program.cellsOf Try.prog 5 = 1 := by kernel_rfl
@[simp] theorem ft_by5 : Program.bytesOf Try.prog 5 = 1 := by kernel_rfl
@[simp] theorem ft_ze5 : zeroAV Try.prog 5 = .sc (.int .u8 0) := by kernel_rfl
@[simp] theorem ft_co5 : Program.concrete Try.prog 5 = true := by kernel_rfl
@[simp] theorem ft_lk6 : lkT Try.prog 6 = .one := by kernel_rfl
@[simp] theorem ft_ce6 : Program.cellsOf Try.prog 6 = 1 := by kernel_rfl
@[simp] theorem ft_by6 : Program.bytesOf Try.prog 6 = 1 := by kernel_rfl
@[simp] theorem ft_ze6 : zeroAV Try.prog 6 = .sc (.int .u8 0) := by kernel_rfl
@[simp] theorem ft_co6 : Program.concrete Try.prog 6 = true := by kernel_rfl
@[simp] theorem ft_lk7 : lkT Try.prog 7 = .agg 4 := by kernel_rfl
@[simp] theorem ft_ce7 : Program.cellsOf Try.prog 7 = 4 := by kernel_rfl
@[simp] theorem ft_by7 : Program.bytesOf Try.prog 7 = 24 := by kernel_rfl
@[simp] theorem ft_ze7 : zeroAV Try.prog 7 = .agg [.sc (.int .i64 0), .sc (.int .i64 0), .sc (.bool false), .sc (.int .u8 0)] := by kernel_rfl
@[simp] theorem ft_co7 : Program.concrete Try.prog 7 = true := by kernel_rfl
@[simp] theorem ft_bu7 : buildT Try.prog 7 = true := by kernel_rfl
@[simp] theorem ft_pl7_0 : placeT Try.prog 7 0 = some (0, 1) := by kernel_rfl
@[simp] theorem ft_fi7_0 : fieldT Try.prog 7 0 = some (0, .one) := by kernel_rfl
@[simp] theorem ft_pl7_1 : placeT Try.prog 7 1 = some (1, 1) := by kernel_rfl
@[simp] theorem ft_fi7_1 : fieldT Try.prog 7 1 = some (1, .one) := by kernel_rfl
@[simp] theorem ft_pl7_2 : placeT Try.prog 7 2 = some (2, 1) := by kernel_rfl
@[simp] theorem ft_fi7_2 : fieldT Try.prog 7 2 = some (2, .one) := by kernel_rfl
@[simp] theorem ft_pl7_3 : placeT Try.prog 7 3 = some (3, 1) := by kernel_rfl
@[simp] theorem ft_fi7_3 : fieldT Try.prog 7 3 = some (3, .one) := by kernel_rfl
@[simp] theorem ft_lk8 : lkT Try.prog 8 = .agg 4 := by kernel_rfl
@[simp] theorem ft_ce8 : Program.cellsOf Try.prog 8 = 4 := by kernel_rfl
@[simp] theorem ft_by8 : Program.bytesOf Try.prog 8 = 24 := by kernel_rfl
@[simp] theorem ft_ze8 : zeroAV Try.prog 8 = .agg [.sc (.int .i64 0), .sc (.int .i64 0), .sc (.bool false), .sc (.int .u8 0)] := by kernel_rfl
@[simp] theorem ft_co8 : Program.concrete Try.prog 8 = true := by kernel_rfl
@[simp] theorem ft_bu8 : buildT Try.prog 8 = true := by kernel_rfl
@[simp] theorem ft_pl8_0 : placeT Try.prog 8 0 = some (0, 1) := by kernel_rfl
@[simp] theorem ft_fi8_0 : fieldT Try.prog 8 0 = some (0, .one) := by kernel_rfl
@[simp] theorem ft_pl8_1 : placeT Try.prog 8 1 = some (1, 1) := by kernel_rfl
@[simp] theorem ft_fi8_1 : fieldT Try.prog 8 1 = some (1, .one) := by kernel_rfl
@[simp] theorem ft_pl8_2 : placeT Try.prog 8 2 = some (2, 1) := by kernel_rfl
@[simp] theorem ft_fi8_2 : fieldT Try.prog 8 2 = some (2, .one) := by kernel_rfl
@[simp] theorem ft_pl8_3 : placeT Try.prog 8 3 = some (3, 1) := by kernel_rfl
@[simp] theorem ft_fi8_3 : fieldT Try.prog 8 3 = some (3, .one) := by kernel_rfl
@[simp] theorem ft_lk9 : lkT Try.prog 9 = .one := by kernel_rfl
@[simp] theorem ft_ce9 : Program.cellsOf Try.prog 9 = 1 := by kernel_rfl
@[simp] theorem ft_by9 : Program.bytesOf Try.prog 9 = 16 := by kernel_rfl
@[simp] theorem ft_ze9 : zeroAV Try.prog 9 = .sc (.string .empty) := by kernel_rfl
@[simp] theorem ft_co9 : Program.concrete Try.prog 9 = true := by kernel_rfl
@[simp] theorem ft_lk10 : lkT Try.prog 10 = .one := by kernel_rfl
@[simp] theorem ft_ce10 : Program.cellsOf Try.prog 10 = 1 := by kernel_rfl
@[simp] theorem ft_by10 : Program.bytesOf Try.prog 10 = 16 := by kernel_rfl
@[simp] theorem ft_ze10 : zeroAV Try.prog 10 = .sc (.string .empty) := by kernel_rfl
@[simp] theorem ft_co10 : Program.concrete Try.prog 10 = true := by kernel_rfl
@[simp] theorem ft_lk11 : lkT Try.prog 11 = .one := by kernel_rfl
@[simp] theorem ft_ce11 : Program.cellsOf Try.prog 11 = 1 := by kernel_rfl
@[simp] theorem ft_by11 : Program.bytesOf Try.prog 11 = 16 := by kernel_rfl
@[simp] theorem ft_ze11 : zeroAV Try.prog 11 = .sc (.string .empty) := by kernel_rfl
@[simp] theorem ft_co11 : Program.concrete Try.prog 11 = true := by kernel_rfl
@[simp] theorem ft_lk12 : lkT Try.prog 12 = .one := by kernel_rfl
@[simp] theorem ft_ce12 : Program.cellsOf Try.prog 12 = 1 := by kernel_rfl
@[simp] theorem ft_by12 : Program.bytesOf Try.prog 12 = 8 := by kernel_rfl
@[simp] theorem ft_ze12 : zeroAV Try.prog 12 = .sc (.int .u64 0) := by kernel_rfl
@[simp] theorem ft_co12 : Program.concrete Try.prog 12 = true := by kernel_rfl
@[simp] theorem ft_lk13 : lkT Try.prog 13 = .agg 2 := by kernel_rfl
@[simp] theorem ft_ce13 : Program.cellsOf Try.prog 13 = 2 := by kernel_rfl
@[simp] theorem ft_by13 : Program.bytesOf Try.prog 13 = 24 := by kernel_rfl
@[simp] theorem ft_ze13 : zeroAV Try.prog 13 = .agg [.sc (.string .empty), .sc (.int .u64 0)] := by kernel_rfl
@[simp] theorem ft_co13 : Program.concrete Try.prog 13 = true := by kernel_rfl
@[simp] theorem ft_bu13 : buildT Try.prog 13 = true := by kernel_rfl
@[simp] theorem ft_pl13_0 : placeT Try.prog 13 0 = some (0, 1) := by kernel_rfl
@[simp] theorem ft_fi13_0 : fieldT Try.prog 13 0 = some (0, .one) := by kernel_rfl
@[simp] theorem ft_pl13_1 : placeT Try.prog 13 1 = some (1, 1) := by kernel_rfl
@[simp] theorem ft_fi13_1 : fieldT Try.prog 13 1 = some (1, .one) := by kernel_rfl
@[simp] theorem ft_lk14 : lkT Try.prog 14 = .agg 2 := by kernel_rfl
@[simp] theorem ft_ce14 : Program.cellsOf Try.prog 14 = 2 := by kernel_rfl
@[simp] theorem ft_by14 : Program.bytesOf Try.prog 14 = 24 := by kernel_rfl
@[simp] theorem ft_ze14 : zeroAV Try.prog 14 = .agg [.sc (.string .empty), .sc (.int .u64 0)] := by kernel_rfl
@[simp] theorem ft_co14 : Program.concrete Try.prog 14 = true := by kernel_rfl
@[simp] theorem ft_bu14 : buildT Try.prog 14 = true := by kernel_rfl
@[simp] theorem ft_pl14_0 : placeT Try.prog 14 0 = some (0, 1) := by kernel_rfl
@[simp] theorem ft_fi14_0 : fieldT Try.prog 14 0 = some (0, .one) := by kernel_rfl
@[simp] theorem ft_pl14_1 : placeT Try.prog 14 1 = some (1, 1) := by kernel_rfl
@[simp] theorem ft_fi14_1 : fieldT Try.prog 14 1 = some (1, .one) := by kernel_rfl
@[simp] theorem ft_lk15 : lkT Try.prog 15 = .one := by kernel_rfl
@[simp] theorem ft_ce15 : Program.cellsOf Try.prog 15 = 1 := by kernel_rfl
@[simp] theorem ft_by15 : Program.bytesOf Try.prog 15 = 8 := by kernel_rfl
@[simp] theorem ft_ze15 : zeroAV Try.prog 15 = .sc (.pointer none) := by kernel_rfl
@[simp] theorem ft_co15 : Program.concrete Try.prog 15 = true := by kernel_rfl
@[simp] theorem ft_lk16 : lkT Try.prog 16 = .one := by kernel_rfl
@[simp] theorem ft_ce16 : Program.cellsOf Try.prog 16 = 1 := by kernel_rfl
@[simp] theorem ft_by16 : Program.bytesOf Try.prog 16 = 8 := by kernel_rfl
@[simp] theorem ft_ze16 : zeroAV Try.prog 16 = .sc (.pointer none) := by kernel_rfl
@[simp] theorem ft_co16 : Program.concrete Try.prog 16 = true := by kernel_rfl
@[simp] theorem ft_lk17 : lkT Try.prog 17 = .one := by kernel_rfl
@[simp] theorem ft_ce17 : Program.cellsOf Try.prog 17 = 1 := by kernel_rfl
@[simp] theorem ft_by17 : Program.bytesOf Try.prog 17 = 8 := by kernel_rfl
@[simp] theorem ft_ze17 : zeroAV Try.prog 17 = .sc (.pointer none) := by kernel_rfl
@[simp] theorem ft_co17 : Program.concrete Try.prog 17 = true := by kernel_rfl
@[simp] theorem ft_lk18 : lkT Try.prog 18 = .agg 1 := by kernel_rfl
@[simp] theorem ft_ce18 : Program.cellsOf Try.prog 18 = 1 := by kernel_rfl
@[simp] theorem ft_by18 : Program.bytesOf Try.prog 18 = 8 := by kernel_rfl
@[simp] theorem ft_ze18 : zeroAV Try.prog 18 = .agg [.sc (.pointer none)] := by kernel_rfl
@[simp] theorem ft_co18 : Program.concrete Try.prog 18 = true := by kernel_rfl
@[simp] theorem ft_bu18 : buildT Try.prog 18 = true := by kernel_rfl
@[simp] theorem ft_pl18_0 : placeT Try.prog 18 0 = some (0, 1) := by kernel_rfl
@[simp] theorem ft_fi18_0 : fieldT Try.prog 18 0 = some (0, .one) := by kernel_rfl
@[simp] theorem ft_lk19 : lkT Try.prog 19 = .agg 1 := by kernel_rfl
@[simp] theorem ft_ce19 : Program.cellsOf Try.prog 19 = 1 := by kernel_rfl
@[simp] theorem ft_by19 : Program.bytesOf Try.prog 19 = 8 := by kernel_rfl
@[simp] theorem ft_ze19 : zeroAV Try.prog 19 = .agg [.sc (.pointer none)] := by kernel_rfl
@[simp] theorem ft_co19 : Program.concrete Try.prog 19 = true := by kernel_rfl
@[simp] theorem ft_bu19 : buildT Try.prog 19 = true := by kernel_rfl
@[simp] theorem ft_pl19_0 : placeT Try.prog 19 0 = some (0, 1) := by kernel_rfl
@[simp] theorem ft_fi19_0 : fieldT Try.prog 19 0 = some (0, .one) := by kernel_rfl
@[simp] theorem ft_lk20 : lkT Try.prog 20 = .one := by kernel_rfl
@[simp] theorem ft_ce20 : Program.cellsOf Try.prog 20 = 1 := by kernel_rfl
@[simp] theorem ft_by20 : Program.bytesOf Try.prog 20 = 16 := by kernel_rfl
@[simp] theorem ft_ze20 : zeroAV Try.prog 20 = .sc .nilIface := by kernel_rfl
@[simp] theorem ft_lk21 : lkT Try.prog 21 = .one := by kernel_rfl
@[simp] theorem ft_ce21 : Program.cellsOf Try.prog 21 = 1 := by kernel_rfl
@[simp] theorem ft_by21 : Program.bytesOf Try.prog 21 = 4 := by kernel_rfl
@[simp] theorem ft_ze21 : zeroAV Try.prog 21 = .sc (.int .i32 0) := by kernel_rfl
@[simp] theorem ft_co21 : Program.concrete Try.prog 21 = true := by kernel_rfl
@[simp] theorem ft_lk22 : lkT Try.prog 22 = .one := by kernel_rfl
@[simp] theorem ft_ce22 : Program.cellsOf Try.prog 22 = 1 := by kernel_rfl
@[simp] theorem ft_by22 : Program.bytesOf Try.prog 22 = 8 := by kernel_rfl
@[simp] theorem ft_ze22 : zeroAV Try.prog 22 = .sc (.int .u64 0) := by kernel_rfl
@[simp] theorem ft_co22 : Program.concrete Try.prog 22 = true := by kernel_rfl
@[simp] theorem ft_lk23 : lkT Try.prog 23 = .agg 3 := by kernel_rfl
@[simp] theorem ft_ce23 : Program.cellsOf Try.prog 23 = 3 := by kernel_rfl
@[simp] theorem ft_by23 : Program.bytesOf Try.prog 23 = 24 := by kernel_rfl
@[simp] theorem ft_ze23 : zeroAV Try.prog 23 = .agg [.sc (.bool false), .sc (.int .u64 0), .sc (.int .u64 0)] := by kernel_rfl
@[simp] theorem ft_co23 : Program.concrete Try.prog 23 = true := by kernel_rfl
@[simp] theorem ft_bu23 : buildT Try.prog 23 = true := by kernel_rfl
@[simp] theorem ft_pl23_0 : placeT Try.prog 23 0 = some (0, 1) := by kernel_rfl
@[simp] theorem ft_fi23_0 : fieldT Try.prog 23 0 = some (0, .one) := by kernel_rfl
@[simp] theorem ft_pl23_1 : placeT Try.prog 23 1 = some (1, 1) := by kernel_rfl
@[simp] theorem ft_fi23_1 : fieldT Try.prog 23 1 = some (1, .one) := by kernel_rfl
@[simp] theorem ft_pl23_2 : placeT Try.prog 23 2 = some (2, 1) := by kernel_rfl
@[simp] theorem ft_fi23_2 : fieldT Try.prog 23 2 = some (2, .one) := by kernel_rfl
@[simp] theorem ft_lk24 : lkT Try.prog 24 = .agg 3 := by kernel_rfl
@[simp] theorem ft_ce24 : Program.cellsOf Try.prog 24 = 3 := by kernel_rfl
@[simp] theorem ft_by24 : Program.bytesOf Try.prog 24 = 24 := by kernel_rfl
@[simp] theorem ft_ze24 : zeroAV Try.prog 24 = .agg [.sc (.bool false), .sc (.int .u64 0), .sc (.int .u64 0)] := by kernel_rfl
@[simp] theorem ft_co24 : Program.concrete Try.prog 24 = true := by kernel_rfl
@[simp] theorem ft_bu24 : buildT Try.prog 24 = true := by kernel_rfl
@[simp] theorem ft_pl24_0 : placeT Try.prog 24 0 = some (0, 1) := by kernel_rfl
@[simp] theorem ft_fi24_0 : fieldT Try.prog 24 0 = some (0, .one) := by kernel_rfl
@[simp] theorem ft_pl24_1 : placeT Try.prog 24 1 = some (1, 1) := by kernel_rfl
@[simp] theorem ft_fi24_1 : fieldT Try.prog 24 1 = some (1, .one) := by kernel_rfl
@[simp] theorem ft_pl24_2 : placeT Try.prog 24 2 = some (2, 1) := by kernel_rfl
@[simp] theorem ft_fi24_2 : fieldT Try.prog 24 2 = some (2, .one) := by kernel_rfl
@[simp] theorem ft_lk25 : lkT Try.prog 25 = .one := by kernel_rfl
@[simp] theorem ft_ce25 : Program.cellsOf Try.prog 25 = 1 := by kernel_rfl
@[simp] theorem ft_by25 : Program.bytesOf Try.prog 25 = 8 := by kernel_rfl
@[simp] theorem ft_ze25 : zeroAV Try.prog 25 = .sc .nilFunc := by kernel_rfl
@[simp] theorem ft_co25 : Program.concrete Try.prog 25 = true := by kernel_rfl
@[simp] theorem ft_lk27 : lkT Try.prog 27 = .one := by kernel_rfl
@[simp] theorem ft_ce27 : Program.cellsOf Try.prog 27 = 1 := by kernel_rfl
@[simp] theorem ft_by27 : Program.bytesOf Try.prog 27 = 8 := by kernel_rfl
@[simp] theorem ft_ze27 : zeroAV Try.prog 27 = .sc .nilFunc := by kernel_rfl
@[simp] theorem ft_co27 : Program.concrete Try.prog 27 = true := by kernel_rfl
@[simp] theorem ft_lk28 : lkT Try.prog 28 = .agg 2 := by kernel_rfl
@[simp] theorem ft_ce28 : Program.cellsOf Try.prog 28 = 2 := by kernel_rfl
@[simp] theorem ft_by28 : Program.bytesOf Try.prog 28 = 16 := by kernel_rfl
@[simp] theorem ft_ze28 : zeroAV Try.prog 28 = .agg [.sc (.int .u64 0), .sc (.int .i64 0)] := by kernel_rfl
@[simp] theorem ft_co28 : Program.concrete Try.prog 28 = true := by kernel_rfl
@[simp] theorem ft_bu28 : buildT Try.prog 28 = true := by kernel_rfl
@[simp] theorem ft_pl28_0 : placeT Try.prog 28 0 = some (0, 1) := by kernel_rfl
@[simp] theorem ft_fi28_0 : fieldT Try.prog 28 0 = some (0, .one) := by kernel_rfl
@[simp] theorem ft_pl28_1 : placeT Try.prog 28 1 = some (1, 1) := by kernel_rfl
@[simp] theorem ft_fi28_1 : fieldT Try.prog 28 1 = some (1, .one) := by kernel_rfl
@[simp] theorem ft_lk29 : lkT Try.prog 29 = .agg 2 := by kernel_rfl
@[simp] theorem ft_ce29 : Program.cellsOf Try.prog 29 = 2 := by kernel_rfl
@[simp] theorem ft_by29 : Program.bytesOf Try.prog 29 = 16 := by kernel_rfl
@[simp] theorem ft_ze29 : zeroAV Try.prog 29 = .agg [.sc (.int .u64 0), .sc (.int .i64 0)] := by kernel_rfl
@[simp] theorem ft_co29 : Program.concrete Try.prog 29 = true := by kernel_rfl
@[simp] theorem ft_bu29 : buildT Try.prog 29 = true := by kernel_rfl
@[simp] theorem ft_pl29_0 : placeT Try.prog 29 0 = some (0, 1) := by kernel_rfl
@[simp] theorem ft_fi29_0 : fieldT Try.prog 29 0 = some (0, .one) := by kernel_rfl
@[simp] theorem ft_pl29_1 : placeT Try.prog 29 1 = some (1, 1) := by kernel_rfl
@[simp] theorem ft_fi29_1 : fieldT Try.prog 29 1 = some (1, .one) := by kernel_rfl
@[simp] theorem ft_lk30 : lkT Try.prog 30 = .one := by kernel_rfl
@[simp] theorem ft_ce30 : Program.cellsOf Try.prog 30 = 1 := by kernel_rfl
@[simp] theorem ft_by30 : Program.bytesOf Try.prog 30 = 8 := by kernel_rfl
@[simp] theorem ft_ze30 : zeroAV Try.prog 30 = .sc .nilFunc := by kernel_rfl
@[simp] theorem ft_co30 : Program.concrete Try.prog 30 = true := by kernel_rfl
@[simp] theorem ft_lk31 : lkT Try.prog 31 = .one := by kernel_rfl
@[simp] theorem ft_ce31 : Program.cellsOf Try.prog 31 = 1 := by kernel_rfl
@[simp] theorem ft_by31 : Program.bytesOf Try.prog 31 = 8 := by kernel_rfl
@[simp] theorem ft_ze31 : zeroAV Try.prog 31 = .sc .nilFunc := by kernel_rfl
@[simp] theorem ft_co31 : Program.concrete Try.prog 31 = true := by kernel_rfl
@[simp] theorem ft_lk32 : lkT Try.prog 32 = .one := by kernel_rfl
@[simp] theorem ft_ce32 : Program.cellsOf Try.prog 32 = 1 := by kernel_rfl
@[simp] theorem ft_by32 : Program.bytesOf Try.prog 32 = 8 := by kernel_rfl
@[simp] theorem ft_ze32 : zeroAV Try.prog 32 = .sc .nilFunc := by kernel_rfl
@[simp] theorem ft_co32 : Program.concrete Try.prog 32 = true := by kernel_rfl
@[simp] theorem ft_lk33 : lkT Try.prog 33 = .one := by kernel_rfl
@[simp] theorem ft_ce33 : Program.cellsOf Try.prog 33 = 1 := by kernel_rfl
@[simp] theorem ft_by33 : Program.bytesOf Try.prog 33 = 8 := by kernel_rfl
@[simp] theorem ft_ze33 : zeroAV Try.prog 33 = .sc .nilFunc := by kernel_rfl
@[simp] theorem ft_co33 : Program.concrete Try.prog 33 = true := by kernel_rfl
@[simp] theorem ft_lk34 : lkT Try.prog 34 = .agg 3 := by kernel_rfl
@[simp] theorem ft_ce34 : Program.cellsOf Try.prog 34 = 3 := by kernel_rfl
@[simp] theorem ft_by34 : Program.bytesOf Try.prog 34 = 24 := by kernel_rfl
@[simp] theorem ft_ze34 : zeroAV Try.prog 34 = .agg [.sc (.int .i64 0), .sc (.int .i64 0), .sc (.int .i64 0)] := by kernel_rfl
@[simp] theorem ft_co34 : Program.concrete Try.prog 34 = true := by kernel_rfl
@[simp] theorem ft_ar34 : arrT Try.prog 34 = some (3, 3) := by kernel_rfl
@[simp] theorem ft_pl34 : ∀ i, placeT Try.prog 34 i = some (i * 1, 1) := fun i => by kernel_rfl
@[simp] theorem ft_bu34 : buildT Try.prog 34 = true := by kernel_rfl
@[simp] theorem ft_lk35 : lkT Try.prog 35 = .one := by kernel_rfl
@[simp] theorem ft_ce35 : Program.cellsOf Try.prog 35 = 1 := by kernel_rfl
@[simp] theorem ft_by35 : Program.bytesOf Try.prog 35 = 8 := by kernel_rfl
@[simp] theorem ft_ze35 : zeroAV Try.prog 35 = .sc .nilFunc := by kernel_rfl
@[simp] theorem ft_co35 : Program.concrete Try.prog 35 = true := by kernel_rfl
@[simp] theorem ft_lk36 : lkT Try.prog 36 = .one := by kernel_rfl
@[simp] theorem ft_ce36 : Program.cellsOf Try.prog 36 = 1 := by kernel_rfl
@[simp] theorem ft_by36 : Program.bytesOf Try.prog 36 = 8 := by kernel_rfl
@[simp] theorem ft_ze36 : zeroAV Try.prog 36 = .sc .nilFunc := by kernel_rfl
@[simp] theorem ft_co36 : Program.concrete Try.prog 36 = true := by kernel_rfl
@[simp] theorem ft_lk37 : lkT Try.prog 37 = .agg 2 := by kernel_rfl
@[simp] theorem ft_ce37 : Program.cellsOf Try.prog 37 = 2 := by kernel_rfl
@[simp] theorem ft_by37 : Program.bytesOf Try.prog 37 = 16 := by kernel_rfl
@[simp] theorem ft_ze37 : zeroAV Try.prog 37 = .agg [.sc (.int .i64 0), .sc (.int .i64 0)] := by kernel_rfl
@[simp] theorem ft_co37 : Program.concrete Try.prog 37 = true := by kernel_rfl
@[simp] theorem ft_ar37 : arrT Try.prog 37 = some (2, 3) := by kernel_rfl
@[simp] theorem ft_pl37 : ∀ i, placeT Try.prog 37 i = some (i * 1, 1) := fun i => by kernel_rfl
@[simp] theorem ft_bu37 : buildT Try.prog 37 = true := by kernel_rfl
@[simp] theorem ft_lk38 : lkT Try.prog 38 = .agg 8 := by kernel_rfl
@[simp] theorem ft_ce38 : Program.cellsOf Try.prog 38 = 8 := by kernel_rfl
@[simp] theorem ft_by38 : Program.bytesOf Try.prog 38 = 64 := by kernel_rfl
@[simp] theorem ft_ze38 : zeroAV Try.prog 38 = .agg [.sc (.int .i64 0), .sc (.int .i64 0), .sc (.int .i64 0), .sc (.int .i64 0), .sc (.int .i64 0), .sc (.int .i64 0), .sc (.int .i64 0), .sc (.int .i64 0)] := by kernel_rfl
@[simp] theorem ft_co38 : Program.concrete Try.prog 38 = true := by kernel_rfl
@[simp] theorem ft_ar38 : arrT Try.prog 38 = some (4, 37) := by kernel_rfl
@[simp] theorem ft_pl38 : ∀ i, placeT Try.prog 38 i = some (i * 2, 2) := fun i => by kernel_rfl
@[simp] theorem ft_bu38 : buildT Try.prog 38 = true := by kernel_rfl
@[simp] theorem ft_lk39 : lkT Try.prog 39 = .one := by kernel_rfl
@[simp] theorem ft_ce39 : Program.cellsOf Try.prog 39 = 1 := by kernel_rfl
@[simp] theorem ft_by39 : Program.bytesOf Try.prog 39 = 8 := by kernel_rfl
@[simp] theorem ft_ze39 : zeroAV Try.prog 39 = .sc .nilFunc := by kernel_rfl
@[simp] theorem ft_co39 : Program.concrete Try.prog 39 = true := by kernel_rfl
@[simp] theorem ft_lk40 : lkT Try.prog 40 = .one := by kernel_rfl
@[simp] theorem ft_ce40 : Program.cellsOf Try.prog 40 = 1 := by kernel_rfl
@[simp] theorem ft_by40 : Program.bytesOf Try.prog 40 = 8 := by kernel_rfl
@[simp] theorem ft_ze40 : zeroAV Try.prog 40 = .sc .nilFunc := by kernel_rfl
@[simp] theorem ft_co40 : Program.concrete Try.prog 40 = true := by kernel_rfl
@[simp] theorem ft_lk41 : lkT Try.prog 41 = .one := by kernel_rfl
@[simp] theorem ft_ce41 : Program.cellsOf Try.prog 41 = 1 := by kernel_rfl
@[simp] theorem ft_by41 : Program.bytesOf Try.prog 41 = 8 := by kernel_rfl
@[simp] theorem ft_ze41 : zeroAV Try.prog 41 = .sc .nilFunc := by kernel_rfl
@[simp] theorem ft_co41 : Program.concrete Try.prog 41 = true := by kernel_rfl
@[simp] theorem ft_lk42 : lkT Try.prog 42 = .one := by kernel_rfl
@[simp] theorem ft_ce42 : Program.cellsOf Try.prog 42 = 1 := by kernel_rfl
@[simp] theorem ft_by42 : Program.bytesOf Try.prog 42 = 8 := by kernel_rfl
@[simp] theorem ft_ze42 : zeroAV Try.prog 42 = .sc (.int .u64 0) := by kernel_rfl
@[simp] theorem ft_co42 : Program.concrete Try.prog 42 = true := by kernel_rfl
@[simp] theorem ft_lk44 : lkT Try.prog 44 = .one := by kernel_rfl
@[simp] theorem ft_ce44 : Program.cellsOf Try.prog 44 = 1 := by kernel_rfl
@[simp] theorem ft_by44 : Program.bytesOf Try.prog 44 = 8 := by kernel_rfl
@[simp] theorem ft_ze44 : zeroAV Try.prog 44 = .sc .nilFunc := by kernel_rfl
@[simp] theorem ft_co44 : Program.concrete Try.prog 44 = true := by kernel_rfl
@[simp] theorem ft_lk45 : lkT Try.prog 45 = .one := by kernel_rfl
@[simp] theorem ft_ce45 : Program.cellsOf Try.prog 45 = 1 := by kernel_rfl
@[simp] theorem ft_by45 : Program.bytesOf Try.prog 45 = 8 := by kernel_rfl
@[simp] theorem ft_ze45 : zeroAV Try.prog 45 = .sc .nilFunc := by kernel_rfl
@[simp] theorem ft_co45 : Program.concrete Try.prog 45 = true := by kernel_rfl
@[simp] theorem ft_lk46 : lkT Try.prog 46 = .one := by kernel_rfl
@[simp] theorem ft_ce46 : Program.cellsOf Try.prog 46 = 1 := by kernel_rfl
@[simp] theorem ft_by46 : Program.bytesOf Try.prog 46 = 8 := by kernel_rfl
@[simp] theorem ft_ze46 : zeroAV Try.prog 46 = .sc .nilFunc := by kernel_rfl
@[simp] theorem ft_co46 : Program.concrete Try.prog 46 = true := by kernel_rfl
@[simp] theorem ft_lk47 : lkT Try.prog 47 = .one := by kernel_rfl
@[simp] theorem ft_ce47 : Program.cellsOf Try.prog 47 = 1 := by kernel_rfl
@[simp] theorem ft_by47 : Program.bytesOf Try.prog 47 = 8 := by kernel_rfl
@[simp] theorem ft_ze47 : zeroAV Try.prog 47 = .sc .nilFunc := by kernel_rfl
@[simp] theorem ft_co47 : Program.concrete Try.prog 47 = true := by kernel_rfl
@[simp] theorem ft_lk48 : lkT Try.prog 48 = .one := by kernel_rfl
@[simp] theorem ft_ce48 : Program.cellsOf Try.prog 48 = 1 := by kernel_rfl
@[simp] theorem ft_by48 : Program.bytesOf Try.prog 48 = 8 := by kernel_rfl
@[simp] theorem ft_ze48 : zeroAV Try.prog 48 = .sc .nilFunc := by kernel_rfl
@[simp] theorem ft_co48 : Program.concrete Try.prog 48 = true := by kernel_rfl
@[simp] theorem ft_lk49 : lkT Try.prog 49 = .one := by kernel_rfl
@[simp] theorem ft_ce49 : Program.cellsOf Try.prog 49 = 1 := by kernel_rfl
@[simp] theorem ft_by49 : Program.bytesOf Try.prog 49 = 8 := by kernel_rfl
@[simp] theorem ft_ze49 : zeroAV Try.prog 49 = .sc .nilFunc := by kernel_rfl
@[simp] theorem ft_co49 : Program.concrete Try.prog 49 = true := by kernel_rfl
@[simp] theorem ft_lk51 : lkT Try.prog 51 = .one := by kernel_rfl
@[simp] theorem ft_ce51 : Program.cellsOf Try.prog 51 = 1 := by kernel_rfl
@[simp] theorem ft_by51 : Program.bytesOf Try.prog 51 = 8 := by kernel_rfl
@[simp] theorem ft_ze51 : zeroAV Try.prog 51 = .sc .nilFunc := by kernel_rfl
@[simp] theorem ft_co51 : Program.concrete Try.prog 51 = true := by kernel_rfl
@[simp] theorem ft_lk52 : lkT Try.prog 52 = .one := by kernel_rfl
@[simp] theorem ft_ce52 : Program.cellsOf Try.prog 52 = 1 := by kernel_rfl
@[simp] theorem ft_by52 : Program.bytesOf Try.prog 52 = 8 := by kernel_rfl
@[simp] theorem ft_ze52 : zeroAV Try.prog 52 = .sc .nilFunc := by kernel_rfl
@[simp] theorem ft_co52 : Program.concrete Try.prog 52 = true := by kernel_rfl
@[simp] theorem ft_lk53 : lkT Try.prog 53 = .agg 4 := by kernel_rfl
@[simp] theorem ft_ce53 : Program.cellsOf Try.prog 53 = 4 := by kernel_rfl
@[simp] theorem ft_by53 : Program.bytesOf Try.prog 53 = 40 := by kernel_rfl
@[simp] theorem ft_ze53 : zeroAV Try.prog 53 = .agg [.sc (.pointer none), .sc (.pointer none), .sc (.pointer none), .sc (.string .empty)] := by kernel_rfl
@[simp] theorem ft_co53 : Program.concrete Try.prog 53 = true := by kernel_rfl
@[simp] theorem ft_bu53 : buildT Try.prog 53 = true := by kernel_rfl
@[simp] theorem ft_pl53_0 : placeT Try.prog 53 0 = some (0, 1) := by kernel_rfl
@[simp] theorem ft_fi53_0 : fieldT Try.prog 53 0 = some (0, .one) := by kernel_rfl
@[simp] theorem ft_pl53_1 : placeT Try.prog 53 1 = some (1, 1) := by kernel_rfl
@[simp] theorem ft_fi53_1 : fieldT Try.prog 53 1 = some (1, .one) := by kernel_rfl
@[simp] theorem ft_pl53_2 : placeT Try.prog 53 2 = some (2, 1) := by kernel_rfl
@[simp] theorem ft_fi53_2 : fieldT Try.prog 53 2 = some (2, .one) := by kernel_rfl
@[simp] theorem ft_pl53_3 : placeT Try.prog 53 3 = some (3, 1) := by kernel_rfl
@[simp] theorem ft_fi53_3 : fieldT Try.prog 53 3 = some (3, .one) := by kernel_rfl
@[simp] theorem ft_lk54 : lkT Try.prog 54 = .agg 4 := by kernel_rfl
@[simp] theorem ft_ce54 : Program.cellsOf Try.prog 54 = 4 := by kernel_rfl
@[simp] theorem ft_by54 : Program.bytesOf Try.prog 54 = 40 := by kernel_rfl
@[simp] theorem ft_ze54 : zeroAV Try.prog 54 = .agg [.sc (.pointer none), .sc (.pointer none), .sc (.pointer none), .sc (.string .empty)] := by kernel_rfl
@[simp] theorem ft_co54 : Program.concrete Try.prog 54 = true := by kernel_rfl
@[simp] theorem ft_bu54 : buildT Try.prog 54 = true := by kernel_rfl
@[simp] theorem ft_pl54_0 : placeT Try.prog 54 0 = some (0, 1) := by kernel_rfl
@[simp] theorem ft_fi54_0 : fieldT Try.prog 54 0 = some (0, .one) := by kernel_rfl
@[simp] theorem ft_pl54_1 : placeT Try.prog 54 1 = some (1, 1) := by kernel_rfl
@[simp] theorem ft_fi54_1 : fieldT Try.prog 54 1 = some (1, .one) := by kernel_rfl
@[simp] theorem ft_pl54_2 : placeT Try.prog 54 2 = some (2, 1) := by kernel_rfl
@[simp] theorem ft_fi54_2 : fieldT Try.prog 54 2 = some (2, .one) := by kernel_rfl
@[simp] theorem ft_pl54_3 : placeT Try.prog 54 3 = some (3, 1) := by kernel_rfl
@[simp] theorem ft_fi54_3 : fieldT Try.prog 54 3 = some (3, .one) := by kernel_rfl
@[simp] theorem ft_lk55 : lkT Try.prog 55 = .agg 0 := by kernel_rfl
@[simp] theorem ft_ce55 : Program.cellsOf Try.prog 55 = 0 := by kernel_rfl
@[simp] theorem ft_by55 : Program.bytesOf Try.prog 55 = 0 := by kernel_rfl
@[simp] theorem ft_ze55 : zeroAV Try.prog 55 = .agg [] := by kernel_rfl
@[simp] theorem ft_co55 : Program.concrete Try.prog 55 = true := by kernel_rfl
@[simp] theorem ft_ar55 : arrT Try.prog 55 = some (0, 16) := by kernel_rfl
@[simp] theorem ft_pl55 : ∀ i, placeT Try.prog 55 i = some (i * 1, 1) := fun i => by kernel_rfl
@[simp] theorem ft_bu55 : buildT Try.prog 55 = true := by kernel_rfl
@[simp] theorem ft_lk56 : lkT Try.prog 56 = .agg 0 := by kernel_rfl
@[simp] theorem ft_ce56 : Program.cellsOf Try.prog 56 = 0 := by kernel_rfl
@[simp] theorem ft_by56 : Program.bytesOf Try.prog 56 = 0 := by kernel_rfl
@[simp] theorem ft_ze56 : zeroAV Try.prog 56 = .agg [] := by kernel_rfl
@[simp] theorem ft_co56 : Program.concrete Try.prog 56 = true := by kernel_rfl
@[simp] theorem ft_bu56 : buildT Try.prog 56 = true := by kernel_rfl
@[simp] theorem ft_pl56_0 : placeT Try.prog 56 0 = some (0, 0) := by kernel_rfl
@[simp] theorem ft_fi56_0 : fieldT Try.prog 56 0 = some (0, .agg 0) := by kernel_rfl
@[simp] theorem ft_lk57 : lkT Try.prog 57 = .agg 0 := by kernel_rfl
@[simp] theorem ft_ce57 : Program.cellsOf Try.prog 57 = 0 := by kernel_rfl
@[simp] theorem ft_by57 : Program.bytesOf Try.prog 57 = 0 := by kernel_rfl
@[simp] theorem ft_ze57 : zeroAV Try.prog 57 = .agg [] := by kernel_rfl
@[simp] theorem ft_co57 : Program.concrete Try.prog 57 = true := by kernel_rfl
@[simp] theorem ft_bu57 : buildT Try.prog 57 = true := by kernel_rfl
@[simp] theorem ft_pl57_0 : placeT Try.prog 57 0 = some (0, 0) := by kernel_rfl
@[simp] theorem ft_fi57_0 : fieldT Try.prog 57 0 = some (0, .agg 0) := by kernel_rfl
@[simp] theorem ft_lk58 : lkT Try.prog 58 = .one := by kernel_rfl
@[simp] theorem ft_ce58 : Program.cellsOf Try.prog 58 = 1 := by kernel_rfl
@[simp] theorem ft_by58 : Program.bytesOf Try.prog 58 = 8 := by kernel_rfl
@[simp] theorem ft_ze58 : zeroAV Try.prog 58 = .sc .nilFunc := by kernel_rfl
@[simp] theorem ft_co58 : Program.concrete Try.prog 58 = true := by kernel_rfl
@[simp] theorem ft_lk59 : lkT Try.prog 59 = .one := by kernel_rfl
@[simp] theorem ft_ce59 : Program.cellsOf Try.prog 59 = 1 := by kernel_rfl
@[simp] theorem ft_by59 : Program.bytesOf Try.prog 59 = 4 := by kernel_rfl
@[simp] theorem ft_ze59 : zeroAV Try.prog 59 = .sc (.int .u32 0) := by kernel_rfl
@[simp] theorem ft_co59 : Program.concrete Try.prog 59 = true := by kernel_rfl
@[simp] theorem ft_lk60 : lkT Try.prog 60 = .one := by kernel_rfl
@[simp] theorem ft_ce60 : Program.cellsOf Try.prog 60 = 1 := by kernel_rfl
@[simp] theorem ft_by60 : Program.bytesOf Try.prog 60 = 1 := by kernel_rfl
@[simp] theorem ft_ze60 : zeroAV Try.prog 60 = .sc (.int .u8 0) := by kernel_rfl
@[simp] theorem ft_co60 : Program.concrete Try.prog 60 = true := by kernel_rfl
@[simp] theorem ft_lk61 : lkT Try.prog 61 = .one := by kernel_rfl
@[simp] theorem ft_ce61 : Program.cellsOf Try.prog 61 = 1 := by kernel_rfl
@[simp] theorem ft_by61 : Program.bytesOf Try.prog 61 = 1 := by kernel_rfl
@[simp] theorem ft_ze61 : zeroAV Try.prog 61 = .sc (.int .u8 0) := by kernel_rfl
@[simp] theorem ft_co61 : Program.concrete Try.prog 61 = true := by kernel_rfl
@[simp] theorem ft_lk62 : lkT Try.prog 62 = .one := by kernel_rfl
@[simp] theorem ft_ce62 : Program.cellsOf Try.prog 62 = 1 := by kernel_rfl
@[simp] theorem ft_by62 : Program.bytesOf Try.prog 62 = 8 := by kernel_rfl
@[simp] theorem ft_ze62 : zeroAV Try.prog 62 = .sc .nilFunc := by kernel_rfl
@[simp] theorem ft_co62 : Program.concrete Try.prog 62 = true := by kernel_rfl
@[simp] theorem ft_lk63 : lkT Try.prog 63 = .one := by kernel_rfl
@[simp] theorem ft_ce63 : Program.cellsOf Try.prog 63 = 1 := by kernel_rfl
@[simp] theorem ft_by63 : Program.bytesOf Try.prog 63 = 8 := by kernel_rfl
@[simp] theorem ft_ze63 : zeroAV Try.prog 63 = .sc (.pointer none) := by kernel_rfl
@[simp] theorem ft_co63 : Program.concrete Try.prog 63 = true := by kernel_rfl
@[simp] theorem ft_lk64 : lkT Try.prog 64 = .one := by kernel_rfl
@[simp] theorem ft_ce64 : Program.cellsOf Try.prog 64 = 1 := by kernel_rfl
@[simp] theorem ft_by64 : Program.bytesOf Try.prog 64 = 4 := by kernel_rfl
@[simp] theorem ft_ze64 : zeroAV Try.prog 64 = .sc (.int .i32 0) := by kernel_rfl
@[simp] theorem ft_co64 : Program.concrete Try.prog 64 = true := by kernel_rfl
@[simp] theorem ft_lk65 : lkT Try.prog 65 = .one := by kernel_rfl
@[simp] theorem ft_ce65 : Program.cellsOf Try.prog 65 = 1 := by kernel_rfl
@[simp] theorem ft_by65 : Program.bytesOf Try.prog 65 = 4 := by kernel_rfl
@[simp] theorem ft_ze65 : zeroAV Try.prog 65 = .sc (.int .i32 0) := by kernel_rfl
@[simp] theorem ft_co65 : Program.concrete Try.prog 65 = true := by kernel_rfl
@[simp] theorem ft_lk66 : lkT Try.prog 66 = .agg 11 := by kernel_rfl
@[simp] theorem ft_ce66 : Program.cellsOf Try.prog 66 = 11 := by kernel_rfl
@[simp] theorem ft_by66 : Program.bytesOf Try.prog 66 = 48 := by kernel_rfl
@[simp] theorem ft_ze66 : zeroAV Try.prog 66 = .agg [.sc (.int .u64 0), .sc (.int .u64 0), .sc (.int .u32 0), .sc (.int .u8 0), .sc (.int .u8 0), .sc (.int .u8 0), .sc (.int .u8 0), .sc .nilFunc, .sc (.pointer none), .sc (.int .i32 0), .sc (.int .i32 0)] := by kernel_rfl
@[simp] theorem ft_co66 : Program.concrete Try.prog 66 = true := by kernel_rfl
@[simp] theorem ft_bu66 : buildT Try.prog 66 = true := by kernel_rfl
@[simp] theorem ft_pl66_0 : placeT Try.prog 66 0 = some (0, 1) := by kernel_rfl
@[simp] theorem ft_fi66_0 : fieldT Try.prog 66 0 = some (0, .one) := by kernel_rfl
@[simp] theorem ft_pl66_1 : placeT Try.prog 66 1 = some (1, 1) := by kernel_rfl
@[simp] theorem ft_fi66_1 : fieldT Try.prog 66 1 = some (1, .one) := by kernel_rfl
@[simp] theorem ft_pl66_2 : placeT Try.prog 66 2 = some (2, 1) := by kernel_rfl
@[simp] theorem ft_fi66_2 : fieldT Try.prog 66 2 = some (2, .one) := by kernel_rfl
@[simp] theorem ft_pl66_3 : placeT Try.prog 66 3 = some (3, 1) := by kernel_rfl
@[simp] theorem ft_fi66_3 : fieldT Try.prog 66 3 = some (3, .one) := by kernel_rfl
@[simp] theorem ft_pl66_4 : placeT Try.prog 66 4 = some (4, 1) := by kernel_rfl
@[simp] theorem ft_fi66_4 : fieldT Try.prog 66 4 = some (4, .one) := by kernel_rfl
@[simp] theorem ft_pl66_5 : placeT Try.prog 66 5 = some (5, 1) := by kernel_rfl
@[simp] theorem ft_fi66_5 : fieldT Try.prog 66 5 = some (5, .one) := by kernel_rfl
@[simp] theorem ft_pl66_6 : placeT Try.prog 66 6 = some (6, 1) := by kernel_rfl
@[simp] theorem ft_fi66_6 : fieldT Try.prog 66 6 = some (6, .one) := by kernel_rfl
@[simp] theorem ft_pl66_7 : placeT Try.prog 66 7 = some (7, 1) := by kernel_rfl
@[simp] theorem ft_fi66_7 : fieldT Try.prog 66 7 = some (7, .one) := by kernel_rfl
@[simp] theorem ft_pl66_8 : placeT Try.prog 66 8 = some (8, 1) := by kernel_rfl
@[simp] theorem ft_fi66_8 : fieldT Try.prog 66 8 = some (8, .one) := by kernel_rfl
@[simp] theorem ft_pl66_9 : placeT Try.prog 66 9 = some (9, 1) := by kernel_rfl
@[simp] theorem ft_fi66_9 : fieldT Try.prog 66 9 = some (9, .one) := by kernel_rfl
@[simp] theorem ft_pl66_10 : placeT Try.prog 66 10 = some (10, 1) := by kernel_rfl
@[simp] theorem ft_fi66_10 : fieldT Try.prog 66 10 = some (10, .one) := by kernel_rfl
@[simp] theorem ft_lk67 : lkT Try.prog 67 = .agg 11 := by kernel_rfl
@[simp] theorem ft_ce67 : Program.cellsOf Try.prog 67 = 11 := by kernel_rfl
@[simp] theorem ft_by67 : Program.bytesOf Try.prog 67 = 48 := by kernel_rfl
@[simp] theorem ft_ze67 : zeroAV Try.prog 67 = .agg [.sc (.int .u64 0), .sc (.int .u64 0), .sc (.int .u32 0), .sc (.int .u8 0), .sc (.int .u8 0), .sc (.int .u8 0), .sc (.int .u8 0), .sc .nilFunc, .sc (.pointer none), .sc (.int .i32 0), .sc (.int .i32 0)] := by kernel_rfl
@[simp] theorem ft_co67 : Program.concrete Try.prog 67 = true := by kernel_rfl
@[simp] theorem ft_bu67 : buildT Try.prog 67 = true := by kernel_rfl
@[simp] theorem ft_pl67_0 : placeT Try.prog 67 0 = some (0, 1) := by kernel_rfl
@[simp] theorem ft_fi67_0 : fieldT Try.prog 67 0 = some (0, .one) := by kernel_rfl
@[simp] theorem ft_pl67_1 : placeT Try.prog 67 1 = some (1, 1) := by kernel_rfl
@[simp] theorem ft_fi67_1 : fieldT Try.prog 67 1 = some (1, .one) := by kernel_rfl
@[simp] theorem ft_pl67_2 : placeT Try.prog 67 2 = some (2, 1) := by kernel_rfl
@[simp] theorem ft_fi67_2 : fieldT Try.prog 67 2 = some (2, .one) := by kernel_rfl
@[simp] theorem ft_pl67_3 : placeT Try.prog 67 3 = some (3, 1) := by kernel_rfl
@[simp] theorem ft_fi67_3 : fieldT Try.prog 67 3 = some (3, .one) := by kernel_rfl
@[simp] theorem ft_pl67_4 : placeT Try.prog 67 4 = some (4, 1) := by kernel_rfl
@[simp] theorem ft_fi67_4 : fieldT Try.prog 67 4 = some (4, .one) := by kernel_rfl
@[simp] theorem ft_pl67_5 : placeT Try.prog 67 5 = some (5, 1) := by kernel_rfl
@[simp] theorem ft_fi67_5 : fieldT Try.prog 67 5 = some (5, .one) := by kernel_rfl
@[simp] theorem ft_pl67_6 : placeT Try.prog 67 6 = some (6, 1) := by kernel_rfl
@[simp] theorem ft_fi67_6 : fieldT Try.prog 67 6 = some (6, .one) := by kernel_rfl
@[simp] theorem ft_pl67_7 : placeT Try.prog 67 7 = some (7, 1) := by kernel_rfl
@[simp] theorem ft_fi67_7 : fieldT Try.prog 67 7 = some (7, .one) := by kernel_rfl
@[simp] theorem ft_pl67_8 : placeT Try.prog 67 8 = some (8, 1) := by kernel_rfl
@[simp] theorem ft_fi67_8 : fieldT Try.prog 67 8 = some (8, .one) := by kernel_rfl
@[simp] theorem ft_pl67_9 : placeT Try.prog 67 9 = some (9, 1) := by kernel_rfl
@[simp] theorem ft_fi67_9 : fieldT Try.prog 67 9 = some (9, .one) := by kernel_rfl
@[simp] theorem ft_pl67_10 : placeT Try.prog 67 10 = some (10, 1) := by kernel_rfl
@[simp] theorem ft_fi67_10 : fieldT Try.prog 67 10 = some (10, .one) := by kernel_rfl
@[simp] theorem ft_lk68 : lkT Try.prog 68 = .one := by kernel_rfl
@[simp] theorem ft_ce68 : Program.cellsOf Try.prog 68 = 1 := by kernel_rfl
@[simp] theorem ft_by68 : Program.bytesOf Try.prog 68 = 8 := by kernel_rfl
@[simp] theorem ft_ze68 : zeroAV Try.prog 68 = .sc (.pointer none) := by kernel_rfl
@[simp] theorem ft_co68 : Program.concrete Try.prog 68 = true := by kernel_rfl
end Go.Proofs.Ythkcblpdgjnkdaa
