/- Facts on the types of this seat, each reckoned by the kernel (printed by facts.py). -/
import Derived.Test.YthbmjmdmamapiaaAwLaw
import Derived.Test.YthbmjmdmamapiaaProg
import Derived.KernelRfl
set_option maxRecDepth 100000
namespace Go.Proofs.Ythbmjmdmamapiaa
open Go Go.AW
@[simp] theorem ft_lk1 : lkT Try.prog 1 = .one := by kernel_rfl
@[simp] theorem ft_ce1 : Program.cellsOf Try.prog 1 = 1 := by kernel_rfl
@[simp] theorem ft_by1 : Program.bytesOf Try.prog 1 = 8 := by kernel_rfl
@[simp] theorem ft_ze1 : zeroAV Try.prog 1 = .sc .nilFunc := by kernel_rfl
@[simp] theorem ft_co1 : Program.concrete Try.prog 1 = true := by kernel_rfl
@[simp] theorem ft_lk2 : lkT Try.prog 2 = .one := by kernel_rfl
@[simp] theorem ft_ce2 : Program.cellsOf Try.prog 2 = 1 := by kernel_rfl
@[simp] theorem ft_by2 : Program.bytesOf Try.prog 2 = 8 := by kernel_rfl
@[simp] theorem ft_ze2 : zeroAV Try.prog 2 = .sc (.int .i64 0) := by kernel_rfl
@[simp] theorem ft_co2 : Program.concrete Try.prog 2 = true := by kernel_rfl
@[simp] theorem ft_lk3 : lkT Try.prog 3 = .one := by kernel_rfl
@[simp] theorem ft_ce3 : Program.cellsOf Try.prog 3 = 1 := by kernel_rfl
@[simp] theorem ft_by3 : Program.bytesOf Try.prog 3 = 8 := by kernel_rfl
@[simp] theorem ft_ze3 : zeroAV Try.prog 3 = .sc (.int .i64 0) := by kernel_rfl
@[simp] theorem ft_co3 : Program.concrete Try.prog 3 = true := by kernel_rfl
@[simp] theorem ft_lk4 : lkT Try.prog 4 = .one := by kernel_rfl
@[simp] theorem ft_ce4 : Program.cellsOf Try.prog 4 = 1 := by kernel_rfl
@[simp] theorem ft_by4 : Program.bytesOf Try.prog 4 = 1 := by kernel_rfl
@[simp] theorem ft_ze4 : zeroAV Try.prog 4 = .sc (.bool false) := by kernel_rfl
@[simp] theorem ft_co4 : Program.concrete Try.prog 4 = true := by kernel_rfl
@[simp] theorem ft_lk5 : lkT Try.prog 5 = .one := by kernel_rfl
@[simp] theorem ft_ce5 : Program.cellsOf Try.prog 5 = 1 := by kernel_rfl
@[simp] theorem ft_by5 : Program.bytesOf Try.prog 5 = 1 := by kernel_rfl
@[simp] theorem ft_ze5 : zeroAV Try.prog 5 = .sc (.int .u8 0) := by kernel_rfl
@[simp] theorem ft_co5 : Program.concrete Try.prog 5 = true := by kernel_rfl
@[simp] theorem ft_lk6 : lkT Try.prog 6 = .one := by kernel_rfl
@[simp] theorem ft_ce6 : Program.cellsOf Try.prog 6 = 1 := by kernel_rfl
@[simp] theorem ft_by6 : Program.bytesOf Try.prog 6 = 1 := by kernel_rfl
@[simp] theorem ft_ze6 : zeroAV Try.prog 6 = .sc (.int .u8 0) := by kernel_rfl
@[simp] theorem ft_co6 : Program.concrete Try.prog 6 = true := by kernel_rfl
@[simp] theorem ft_lk7 : lkT Try.prog 7 = .agg 4 := by kernel_rfl
@[simp] theorem ft_ce7 : Program.cellsOf Try.prog 7 = 4 := by kernel_rfl
@[simp] theorem ft_by7 : Program.bytesOf Try.prog 7 = 24 := by kernel_rfl
@[simp] theorem ft_ze7 : zeroAV Try.prog 7 = .agg [.sc (.int .i64 0), .sc (.int .i64 0), .sc (.bool false), .sc (.int .u8 0)] := by kernel_rfl
@[simp] theorem ft_co7 : Program.concrete Try.prog 7 = true := by kernel_rfl
@[simp] theorem ft_bu7 : buildT Try.prog 7 = true := by kernel_rfl
@[simp] theorem ft_pl7_0 : placeT Try.prog 7 0 = some (0, 1) := by kernel_rfl
@[simp] theorem ft_fi7_0 : fieldT Try.prog 7 0 = some (0, .one) := by kernel_rfl
@[simp] theorem ft_pl7_1 : placeT Try.prog 7 1 = some (1, 1) := by kernel_rfl
@[simp] theorem ft_fi7_1 : fieldT Try.prog 7 1 = some (1, .one) := by kernel_rfl
@[simp] theorem ft_pl7_2 : placeT Try.prog 7 2 = some (2, 1) := by kernel_rfl
@[simp] theorem ft_fi7_2 : fieldT Try.prog 7 2 = some (2, .one) := by kernel_rfl
@[simp] theorem ft_pl7_3 : placeT Try.prog 7 3 = some (3, 1) := by kernel_rfl
@[simp] theorem ft_fi7_3 : fieldT Try.prog 7 3 = some (3, .one) := by kernel_rfl
@[simp] theorem ft_lk8 : lkT Try.prog 8 = .agg 4 := by kernel_rfl
@[simp] theorem ft_ce8 : Program.cellsOf Try.prog 8 = 4 := by kernel_rfl
@[simp] theorem ft_by8 : Program.bytesOf Try.prog 8 = 24 := by kernel_rfl
@[simp] theorem ft_ze8 : zeroAV Try.prog 8 = .agg [.sc (.int .i64 0), .sc (.int .i64 0), .sc (.bool false), .sc (.int .u8 0)] := by kernel_rfl
@[simp] theorem ft_co8 : Program.concrete Try.prog 8 = true := by kernel_rfl
@[simp] theorem ft_bu8 : buildT Try.prog 8 = true := by kernel_rfl
@[simp] theorem ft_pl8_0 : placeT Try.prog 8 0 = some (0, 1) := by kernel_rfl
@[simp] theorem ft_fi8_0 : fieldT Try.prog 8 0 = some (0, .one) := by kernel_rfl
@[simp] theorem ft_pl8_1 : placeT Try.prog 8 1 = some (1, 1) := by kernel_rfl
@[simp] theorem ft_fi8_1 : fieldT Try.prog 8 1 = some (1, .one) := by kernel_rfl
@[simp] theorem ft_pl8_2 : placeT Try.prog 8 2 = some (2, 1) := by kernel_rfl
@[simp] theorem ft_fi8_2 : fieldT Try.prog 8 2 = some (2, .one) := by kernel_rfl
@[simp] theorem ft_pl8_3 : placeT Try.prog 8 3 = some (3, 1) := by kernel_rfl
@[simp] theorem ft_fi8_3 : fieldT Try.prog 8 3 = some (3, .one) := by kernel_rfl
@[simp] theorem ft_lk9 : lkT Try.prog 9 = .one := by kernel_rfl
@[simp] theorem ft_ce9 : Program.cellsOf Try.prog 9 = 1 := by kernel_rfl
@[simp] theorem ft_by9 : Program.bytesOf Try.prog 9 = 16 := by kernel_rfl
@[simp] theorem ft_ze9 : zeroAV Try.prog 9 = .sc (.string .empty) := by kernel_rfl
@[simp] theorem ft_co9 : Program.concrete Try.prog 9 = true := by kernel_rfl
@[simp] theorem ft_lk10 : lkT Try.prog 10 = .one := by kernel_rfl
@[simp] theorem ft_ce10 : Program.cellsOf Try.prog 10 = 1 := by kernel_rfl
@[simp] theorem ft_by10 : Program.bytesOf Try.prog 10 = 16 := by kernel_rfl
@[simp] theorem ft_ze10 : zeroAV Try.prog 10 = .sc (.string .empty) := by kernel_rfl
@[simp] theorem ft_co10 : Program.concrete Try.prog 10 = true := by kernel_rfl
@[simp] theorem ft_lk11 : lkT Try.prog 11 = .one := by kernel_rfl
@[simp] theorem ft_ce11 : Program.cellsOf Try.prog 11 = 1 := by kernel_rfl
@[simp] theorem ft_by11 : Program.bytesOf Try.prog 11 = 16 := by kernel_rfl
@[simp] theorem ft_ze11 : zeroAV Try.prog 11 = .sc (.string .empty) := by kernel_rfl
@[simp] theorem ft_co11 : Program.concrete Try.prog 11 = true := by kernel_rfl
@[simp] theorem ft_lk12 : lkT Try.prog 12 = .one := by kernel_rfl
@[simp] theorem ft_ce12 : Program.cellsOf Try.prog 12 = 1 := by kernel_rfl
@[simp] theorem ft_by12 : Program.bytesOf Try.prog 12 = 8 := by kernel_rfl
@[simp] theorem ft_ze12 : zeroAV Try.prog 12 = .sc (.int .u64 0) := by kernel_rfl
@[simp] theorem ft_co12 : Program.concrete Try.prog 12 = true := by kernel_rfl
@[simp] theorem ft_lk13 : lkT Try.prog 13 = .agg 2 := by kernel_rfl
@[simp] theorem ft_ce13 : Program.cellsOf Try.prog 13 = 2 := by kernel_rfl
@[simp] theorem ft_by13 : Program.bytesOf Try.prog 13 = 24 := by kernel_rfl
@[simp] theorem ft_ze13 : zeroAV Try.prog 13 = .agg [.sc (.string .empty), .sc (.int .u64 0)] := by kernel_rfl
@[simp] theorem ft_co13 : Program.concrete Try.prog 13 = true := by kernel_rfl
@[simp] theorem ft_bu13 : buildT Try.prog 13 = true := by kernel_rfl
@[simp] theorem ft_pl13_0 : placeT Try.prog 13 0 = some (0, 1) := by kernel_rfl
@[simp] theorem ft_fi13_0 : fieldT Try.prog 13 0 = some (0, .one) := by kernel_rfl
@[simp] theorem ft_pl13_1 : placeT Try.prog 13 1 = some (1, 1) := by kernel_rfl
@[simp] theorem ft_fi13_1 : fieldT Try.prog 13 1 = some (1, .one) := by kernel_rfl
@[simp] theorem ft_lk14 : lkT Try.prog 14 = .agg 2 := by kernel_rfl
@[simp] theorem ft_ce14 : Program.cellsOf Try.prog 14 = 2 := by kernel_rfl
@[simp] theorem ft_by14 : Program.bytesOf Try.prog 14 = 24 := by kernel_rfl
@[simp] theorem ft_ze14 : zeroAV Try.prog 14 = .agg [.sc (.string .empty), .sc (.int .u64 0)] := by kernel_rfl
@[simp] theorem ft_co14 : Program.concrete Try.prog 14 = true := by kernel_rfl
@[simp] theorem ft_bu14 : buildT Try.prog 14 = true := by kernel_rfl
@[simp] theorem ft_pl14_0 : placeT Try.prog 14 0 = some (0, 1) := by kernel_rfl
@[simp] theorem ft_fi14_0 : fieldT Try.prog 14 0 = some (0, .one) := by kernel_rfl
@[simp] theorem ft_pl14_1 : placeT Try.prog 14 1 = some (1, 1) := by kernel_rfl
@[simp] theorem ft_fi14_1 : fieldT Try.prog 14 1 = some (1, .one) := by kernel_rfl
@[simp] theorem ft_lk15 : lkT Try.prog 15 = .one := by kernel_rfl
@[simp] theorem ft_ce15 : Program.cellsOf Try.prog 15 = 1 := by kernel_rfl
@[simp] theorem ft_by15 : Program.bytesOf Try.prog 15 = 8 := by kernel_rfl
@[simp] theorem ft_ze15 : zeroAV Try.prog 15 = .sc (.pointer none) := by kernel_rfl
@[simp] theorem ft_co15 : Program.concrete Try.prog 15 = true := by kernel_rfl
@[simp] theorem ft_lk16 : lkT Try.prog 16 = .one := by kernel_rfl
@[simp] theorem ft_ce16 : Program.cellsOf Try.prog 16 = 1 := by kernel_rfl
@[simp] theorem ft_by16 : Program.bytesOf Try.prog 16 = 8 := by kernel_rfl
@[simp] theorem ft_ze16 : zeroAV Try.prog 16 = .sc (.pointer none) := by kernel_rfl
@[simp] theorem ft_co16 : Program.concrete Try.prog 16 = true := by kernel_rfl
@[simp] theorem ft_lk17 : lkT Try.prog 17 = .one := by kernel_rfl
@[simp] theorem ft_ce17 : Program.cellsOf Try.prog 17 = 1 := by kernel_rfl
@[simp] theorem ft_by17 : Program.bytesOf Try.prog 17 = 8 := by kernel_rfl
@[simp] theorem ft_ze17 : zeroAV Try.prog 17 = .sc (.pointer none) := by kernel_rfl
@[simp] theorem ft_co17 : Program.concrete Try.prog 17 = true := by kernel_rfl
@[simp] theorem ft_lk18 : lkT Try.prog 18 = .agg 1 := by kernel_rfl
@[simp] theorem ft_ce18 : Program.cellsOf Try.prog 18 = 1 := by kernel_rfl
@[simp] theorem ft_by18 : Program.bytesOf Try.prog 18 = 8 := by kernel_rfl
@[simp] theorem ft_ze18 : zeroAV Try.prog 18 = .agg [.sc (.pointer none)] := by kernel_rfl
@[simp] theorem ft_co18 : Program.concrete Try.prog 18 = true := by kernel_rfl
@[simp] theorem ft_bu18 : buildT Try.prog 18 = true := by kernel_rfl
@[simp] theorem ft_pl18_0 : placeT Try.prog 18 0 = some (0, 1) := by kernel_rfl
@[simp] theorem ft_fi18_0 : fieldT Try.prog 18 0 = some (0, .one) := by kernel_rfl
@[simp] theorem ft_lk19 : lkT Try.prog 19 = .agg 1 := by kernel_rfl
@[simp] theorem ft_ce19 : Program.cellsOf Try.prog 19 = 1 := by kernel_rfl
@[simp] theorem ft_by19 : Program.bytesOf Try.prog 19 = 8 := by kernel_rfl
@[simp] theorem ft_ze19 : zeroAV Try.prog 19 = .agg [.sc (.pointer none)] := by kernel_rfl
@[simp] theorem ft_co19 : Program.concrete Try.prog 19 = true := by kernel_rfl
@[simp] theorem ft_bu19 : buildT Try.prog 19 = true := by kernel_rfl
@[simp] theorem ft_pl19_0 : placeT Try.prog 19 0 = some (0, 1) := by kernel_rfl
@[simp] theorem ft_fi19_0 : fieldT Try.prog 19 0 = some (0, .one) := by kernel_rfl
@[simp] theorem ft_lk20 : lkT Try.prog 20 = .one := by kernel_rfl
@[simp] theorem ft_ce20 : Program.cellsOf Try.prog 20 = 1 := by kernel_rfl
@[simp] theorem ft_by20 : Program.bytesOf Try.prog 20 = 16 := by kernel_rfl
@[simp] theorem ft_ze20 : zeroAV Try.prog 20 = .sc .nilIface := by kernel_rfl
@[simp] theorem ft_lk21 : lkT Try.prog 21 = .one := by kernel_rfl
@[simp] theorem ft_ce21 : Program.cellsOf Try.prog 21 = 1 := by kernel_rfl
@[simp] theorem ft_by21 : Program.bytesOf Try.prog 21 = 4 := by kernel_rfl
@[simp] theorem ft_ze21 : zeroAV Try.prog 21 = .sc (.int .i32 0) := by kernel_rfl
@[simp] theorem ft_co21 : Program.concrete Try.prog 21 = true := by kernel_rfl
@[simp] theorem ft_lk22 : lkT Try.prog 22 = .one := by kernel_rfl
@[simp] theorem ft_ce22 : Program.cellsOf Try.prog 22 = 1 := by kernel_rfl
@[simp] theorem ft_by22 : Program.bytesOf Try.prog 22 = 24 := by kernel_rfl
@[simp] theorem ft_ze22 : zeroAV Try.prog 22 = .nilS := by kernel_rfl
@[simp] theorem ft_co22 : Program.concrete Try.prog 22 = true := by kernel_rfl
@[simp] theorem ft_sl22 : sliceT Try.prog 22 = some 45 := by kernel_rfl
@[simp] theorem ft_lk23 : lkT Try.prog 23 = .one := by kernel_rfl
@[simp] theorem ft_ce23 : Program.cellsOf Try.prog 23 = 1 := by kernel_rfl
@[simp] theorem ft_by23 : Program.bytesOf Try.prog 23 = 8 := by kernel_rfl
@[simp] theorem ft_ze23 : zeroAV Try.prog 23 = .sc .nilFunc := by kernel_rfl
@[simp] theorem ft_co23 : Program.concrete Try.prog 23 = true := by kernel_rfl
@[simp] theorem ft_lk24 : lkT Try.prog 24 = .one := by kernel_rfl
@[simp] theorem ft_ce24 : Program.cellsOf Try.prog 24 = 1 := by kernel_rfl
@[simp] theorem ft_by24 : Program.bytesOf Try.prog 24 = 8 := by kernel_rfl
@[simp] theorem ft_ze24 : zeroAV Try.prog 24 = .sc (.int .i64 0) := by kernel_rfl
@[simp] theorem ft_co24 : Program.concrete Try.prog 24 = true := by kernel_rfl
@[simp] theorem ft_lk26 : lkT Try.prog 26 = .one := by kernel_rfl
@[simp] theorem ft_ce26 : Program.cellsOf Try.prog 26 = 1 := by kernel_rfl
@[simp] theorem ft_by26 : Program.bytesOf Try.prog 26 = 8 := by kernel_rfl
@[simp] theorem ft_ze26 : zeroAV Try.prog 26 = .sc .nilFunc := by kernel_rfl
@[simp] theorem ft_co26 : Program.concrete Try.prog 26 = true := by kernel_rfl
@[simp] theorem ft_lk27 : lkT Try.prog 27 = .one := by kernel_rfl
@[simp] theorem ft_ce27 : Program.cellsOf Try.prog 27 = 1 := by kernel_rfl
@[simp] theorem ft_by27 : Program.bytesOf Try.prog 27 = 8 := by kernel_rfl
@[simp] theorem ft_ze27 : zeroAV Try.prog 27 = .sc .nilFunc := by kernel_rfl
@[simp] theorem ft_co27 : Program.concrete Try.prog 27 = true := by kernel_rfl
@[simp] theorem ft_lk29 : lkT Try.prog 29 = .one := by kernel_rfl
@[simp] theorem ft_ce29 : Program.cellsOf Try.prog 29 = 1 := by kernel_rfl
@[simp] theorem ft_by29 : Program.bytesOf Try.prog 29 = 8 := by kernel_rfl
@[simp] theorem ft_ze29 : zeroAV Try.prog 29 = .sc .nilFunc := by kernel_rfl
@[simp] theorem ft_co29 : Program.concrete Try.prog 29 = true := by kernel_rfl
@[simp] theorem ft_lk30 : lkT Try.prog 30 = .one := by kernel_rfl
@[simp] theorem ft_ce30 : Program.cellsOf Try.prog 30 = 1 := by kernel_rfl
@[simp] theorem ft_by30 : Program.bytesOf Try.prog 30 = 8 := by kernel_rfl
@[simp] theorem ft_ze30 : zeroAV Try.prog 30 = .sc .nilFunc := by kernel_rfl
@[simp] theorem ft_co30 : Program.concrete Try.prog 30 = true := by kernel_rfl
@[simp] theorem ft_lk31 : lkT Try.prog 31 = .one := by kernel_rfl
@[simp] theorem ft_ce31 : Program.cellsOf Try.prog 31 = 1 := by kernel_rfl
@[simp] theorem ft_by31 : Program.bytesOf Try.prog 31 = 8 := by kernel_rfl
@[simp] theorem ft_ze31 : zeroAV Try.prog 31 = .sc .nilFunc := by kernel_rfl
@[simp] theorem ft_co31 : Program.concrete Try.prog 31 = true := by kernel_rfl
@[simp] theorem ft_lk32 : lkT Try.prog 32 = .agg 3 := by kernel_rfl
@[simp] theorem ft_ce32 : Program.cellsOf Try.prog 32 = 3 := by kernel_rfl
@[simp] theorem ft_by32 : Program.bytesOf Try.prog 32 = 24 := by kernel_rfl
@[simp] theorem ft_ze32 : zeroAV Try.prog 32 = .agg [.sc (.int .i64 0), .sc (.int .i64 0), .sc (.int .i64 0)] := by kernel_rfl
@[simp] theorem ft_co32 : Program.concrete Try.prog 32 = true := by kernel_rfl
@[simp] theorem ft_bu32 : buildT Try.prog 32 = true := by kernel_rfl
@[simp] theorem ft_pl32_0 : placeT Try.prog 32 0 = some (0, 1) := by kernel_rfl
@[simp] theorem ft_fi32_0 : fieldT Try.prog 32 0 = some (0, .one) := by kernel_rfl
@[simp] theorem ft_pl32_1 : placeT Try.prog 32 1 = some (1, 1) := by kernel_rfl
@[simp] theorem ft_fi32_1 : fieldT Try.prog 32 1 = some (1, .one) := by kernel_rfl
@[simp] theorem ft_pl32_2 : placeT Try.prog 32 2 = some (2, 1) := by kernel_rfl
@[simp] theorem ft_fi32_2 : fieldT Try.prog 32 2 = some (2, .one) := by kernel_rfl
@[simp] theorem ft_lk33 : lkT Try.prog 33 = .agg 3 := by kernel_rfl
@[simp] theorem ft_ce33 : Program.cellsOf Try.prog 33 = 3 := by kernel_rfl
@[simp] theorem ft_by33 : Program.bytesOf Try.prog 33 = 24 := by kernel_rfl
@[simp] theorem ft_ze33 : zeroAV Try.prog 33 = .agg [.sc (.int .i64 0), .sc (.int .i64 0), .sc (.int .i64 0)] := by kernel_rfl
@[simp] theorem ft_co33 : Program.concrete Try.prog 33 = true := by kernel_rfl
@[simp] theorem ft_bu33 : buildT Try.prog 33 = true := by kernel_rfl
@[simp] theorem ft_pl33_0 : placeT Try.prog 33 0 = some (0, 1) := by kernel_rfl
@[simp] theorem ft_fi33_0 : fieldT Try.prog 33 0 = some (0, .one) := by kernel_rfl
@[simp] theorem ft_pl33_1 : placeT Try.prog 33 1 = some (1, 1) := by kernel_rfl
@[simp] theorem ft_fi33_1 : fieldT Try.prog 33 1 = some (1, .one) := by kernel_rfl
@[simp] theorem ft_pl33_2 : placeT Try.prog 33 2 = some (2, 1) := by kernel_rfl
@[simp] theorem ft_fi33_2 : fieldT Try.prog 33 2 = some (2, .one) := by kernel_rfl
@[simp] theorem ft_lk34 : lkT Try.prog 34 = .one := by kernel_rfl
@[simp] theorem ft_ce34 : Program.cellsOf Try.prog 34 = 1 := by kernel_rfl
@[simp] theorem ft_by34 : Program.bytesOf Try.prog 34 = 8 := by kernel_rfl
@[simp] theorem ft_ze34 : zeroAV Try.prog 34 = .sc .nilFunc := by kernel_rfl
@[simp] theorem ft_co34 : Program.concrete Try.prog 34 = true := by kernel_rfl
@[simp] theorem ft_lk35 : lkT Try.prog 35 = .one := by kernel_rfl
@[simp] theorem ft_ce35 : Program.cellsOf Try.prog 35 = 1 := by kernel_rfl
@[simp] theorem ft_by35 : Program.bytesOf Try.prog 35 = 24 := by kernel_rfl
@[simp] theorem ft_ze35 : zeroAV Try.prog 35 = .nilS := by kernel_rfl
@[simp] theorem ft_co35 : Program.concrete Try.prog 35 = true := by kernel_rfl
@[simp] theorem ft_sl35 : sliceT Try.prog 35 = some 47 := by kernel_rfl
@[simp] theorem ft_lk36 : lkT Try.prog 36 = .one := by kernel_rfl
@[simp] theorem ft_ce36 : Program.cellsOf Try.prog 36 = 1 := by kernel_rfl
@[simp] theorem ft_by36 : Program.bytesOf Try.prog 36 = 8 := by kernel_rfl
@[simp] theorem ft_ze36 : zeroAV Try.prog 36 = .sc .nilFunc := by kernel_rfl
@[simp] theorem ft_co36 : Program.concrete Try.prog 36 = true := by kernel_rfl
@[simp] theorem ft_lk37 : lkT Try.prog 37 = .one := by kernel_rfl
@[simp] theorem ft_ce37 : Program.cellsOf Try.prog 37 = 1 := by kernel_rfl
@[simp] theorem ft_by37 : Program.bytesOf Try.prog 37 = 8 := by kernel_rfl
@[simp] theorem ft_ze37 : zeroAV Try.prog 37 = .sc .nilFunc := by kernel_rfl
@[simp] theorem ft_co37 : Program.concrete Try.prog 37 = true := by kernel_rfl
@[simp] theorem ft_lk38 : lkT Try.prog 38 = .one := by kernel_rfl
@[simp] theorem ft_ce38 : Program.cellsOf Try.prog 38 = 1 := by kernel_rfl
@[simp] theorem ft_by38 : Program.bytesOf Try.prog 38 = 8 := by kernel_rfl
@[simp] theorem ft_ze38 : zeroAV Try.prog 38 = .sc .nilFunc := by kernel_rfl
@[simp] theorem ft_co38 : Program.concrete Try.prog 38 = true := by kernel_rfl
@[simp] theorem ft_lk39 : lkT Try.prog 39 = .one := by kernel_rfl
@[simp] theorem ft_ce39 : Program.cellsOf Try.prog 39 = 1 := by kernel_rfl
@[simp] theorem ft_by39 : Program.bytesOf Try.prog 39 = 24 := by kernel_rfl
@[simp] theorem ft_ze39 : zeroAV Try.prog 39 = .nilS := by kernel_rfl
@[simp] theorem ft_co39 : Program.concrete Try.prog 39 = true := by kernel_rfl
@[simp] theorem ft_sl39 : sliceT Try.prog 39 = some 3 := by kernel_rfl
@[simp] theorem ft_lk40 : lkT Try.prog 40 = .one := by kernel_rfl
@[simp] theorem ft_ce40 : Program.cellsOf Try.prog 40 = 1 := by kernel_rfl
@[simp] theorem ft_by40 : Program.bytesOf Try.prog 40 = 8 := by kernel_rfl
@[simp] theorem ft_ze40 : zeroAV Try.prog 40 = .sc .nilFunc := by kernel_rfl
@[simp] theorem ft_co40 : Program.concrete Try.prog 40 = true := by kernel_rfl
@[simp] theorem ft_lk41 : lkT Try.prog 41 = .one := by kernel_rfl
@[simp] theorem ft_ce41 : Program.cellsOf Try.prog 41 = 1 := by kernel_rfl
@[simp] theorem ft_by41 : Program.bytesOf Try.prog 41 = 8 := by kernel_rfl
@[simp] theorem ft_ze41 : zeroAV Try.prog 41 = .sc .nilFunc := by kernel_rfl
@[simp] theorem ft_co41 : Program.concrete Try.prog 41 = true := by kernel_rfl
@[simp] theorem ft_lk42 : lkT Try.prog 42 = .agg 4 := by kernel_rfl
@[simp] theorem ft_ce42 : Program.cellsOf Try.prog 42 = 4 := by kernel_rfl
@[simp] theorem ft_by42 : Program.bytesOf Try.prog 42 = 32 := by kernel_rfl
@[simp] theorem ft_ze42 : zeroAV Try.prog 42 = .agg [.sc (.int .i64 0), .sc (.int .i64 0), .sc (.int .i64 0), .sc (.bool false)] := by kernel_rfl
@[simp] theorem ft_co42 : Program.concrete Try.prog 42 = true := by kernel_rfl
@[simp] theorem ft_bu42 : buildT Try.prog 42 = true := by kernel_rfl
@[simp] theorem ft_pl42_0 : placeT Try.prog 42 0 = some (0, 1) := by kernel_rfl
@[simp] theorem ft_fi42_0 : fieldT Try.prog 42 0 = some (0, .one) := by kernel_rfl
@[simp] theorem ft_pl42_1 : placeT Try.prog 42 1 = some (1, 1) := by kernel_rfl
@[simp] theorem ft_fi42_1 : fieldT Try.prog 42 1 = some (1, .one) := by kernel_rfl
@[simp] theorem ft_pl42_2 : placeT Try.prog 42 2 = some (2, 1) := by kernel_rfl
@[simp] theorem ft_fi42_2 : fieldT Try.prog 42 2 = some (2, .one) := by kernel_rfl
@[simp] theorem ft_pl42_3 : placeT Try.prog 42 3 = some (3, 1) := by kernel_rfl
@[simp] theorem ft_fi42_3 : fieldT Try.prog 42 3 = some (3, .one) := by kernel_rfl
@[simp] theorem ft_lk43 : lkT Try.prog 43 = .agg 4 := by kernel_rfl
@[simp] theorem ft_ce43 : Program.cellsOf Try.prog 43 = 4 := by kernel_rfl
@[simp] theorem ft_by43 : Program.bytesOf Try.prog 43 = 32 := by kernel_rfl
@[simp] theorem ft_ze43 : zeroAV Try.prog 43 = .agg [.sc (.int .i64 0), .sc (.int .i64 0), .sc (.int .i64 0), .sc (.bool false)] := by kernel_rfl
@[simp] theorem ft_co43 : Program.concrete Try.prog 43 = true := by kernel_rfl
@[simp] theorem ft_bu43 : buildT Try.prog 43 = true := by kernel_rfl
@[simp] theorem ft_pl43_0 : placeT Try.prog 43 0 = some (0, 1) := by kernel_rfl
@[simp] theorem ft_fi43_0 : fieldT Try.prog 43 0 = some (0, .one) := by kernel_rfl
@[simp] theorem ft_pl43_1 : placeT Try.prog 43 1 = some (1, 1) := by kernel_rfl
@[simp] theorem ft_fi43_1 : fieldT Try.prog 43 1 = some (1, .one) := by kernel_rfl
@[simp] theorem ft_pl43_2 : placeT Try.prog 43 2 = some (2, 1) := by kernel_rfl
@[simp] theorem ft_fi43_2 : fieldT Try.prog 43 2 = some (2, .one) := by kernel_rfl
@[simp] theorem ft_pl43_3 : placeT Try.prog 43 3 = some (3, 1) := by kernel_rfl
@[simp] theorem ft_fi43_3 : fieldT Try.prog 43 3 = some (3, .one) := by kernel_rfl
@[simp] theorem ft_lk44 : lkT Try.prog 44 = .agg 10 := by kernel_rfl
@[simp] theorem ft_ce44 : Program.cellsOf Try.prog 44 = 10 := by kernel_rfl
@[simp] theorem ft_by44 : Program.bytesOf Try.prog 44 = 80 := by kernel_rfl
@[simp] theorem ft_ze44 : zeroAV Try.prog 44 = .agg [.sc (.int .i64 0), .sc (.int .i64 0), .sc (.int .i64 0), .sc (.int .i64 0), .sc (.int .i64 0), .sc (.int .i64 0), .sc (.int .i64 0), .sc (.int .i64 0), .sc (.int .i64 0), .sc (.bool false)] := by kernel_rfl
@[simp] theorem ft_co44 : Program.concrete Try.prog 44 = true := by kernel_rfl
@[simp] theorem ft_bu44 : buildT Try.prog 44 = true := by kernel_rfl
@[simp] theorem ft_pl44_0 : placeT Try.prog 44 0 = some (0, 1) := by kernel_rfl
@[simp] theorem ft_fi44_0 : fieldT Try.prog 44 0 = some (0, .one) := by kernel_rfl
@[simp] theorem ft_pl44_1 : placeT Try.prog 44 1 = some (1, 1) := by kernel_rfl
@[simp] theorem ft_fi44_1 : fieldT Try.prog 44 1 = some (1, .one) := by kernel_rfl
@[simp] theorem ft_pl44_2 : placeT Try.prog 44 2 = some (2, 1) := by kernel_rfl
@[simp] theorem ft_fi44_2 : fieldT Try.prog 44 2 = some (2, .one) := by kernel_rfl
@[simp] theorem ft_pl44_3 : placeT Try.prog 44 3 = some (3, 1) := by kernel_rfl
@[simp] theorem ft_fi44_3 : fieldT Try.prog 44 3 = some (3, .one) := by kernel_rfl
@[simp] theorem ft_pl44_4 : placeT Try.prog 44 4 = some (4, 1) := by kernel_rfl
@[simp] theorem ft_fi44_4 : fieldT Try.prog 44 4 = some (4, .one) := by kernel_rfl
@[simp] theorem ft_pl44_5 : placeT Try.prog 44 5 = some (5, 1) := by kernel_rfl
@[simp] theorem ft_fi44_5 : fieldT Try.prog 44 5 = some (5, .one) := by kernel_rfl
@[simp] theorem ft_pl44_6 : placeT Try.prog 44 6 = some (6, 4) := by kernel_rfl
@[simp] theorem ft_fi44_6 : fieldT Try.prog 44 6 = some (6, .agg 4) := by kernel_rfl
@[simp] theorem ft_lk45 : lkT Try.prog 45 = .agg 10 := by kernel_rfl
@[simp] theorem ft_ce45 : Program.cellsOf Try.prog 45 = 10 := by kernel_rfl
@[simp] theorem ft_by45 : Program.bytesOf Try.prog 45 = 80 := by kernel_rfl
@[simp] theorem ft_ze45 : zeroAV Try.prog 45 = .agg [.sc (.int .i64 0), .sc (.int .i64 0), .sc (.int .i64 0), .sc (.int .i64 0), .sc (.int .i64 0), .sc (.int .i64 0), .sc (.int .i64 0), .sc (.int .i64 0), .sc (.int .i64 0), .sc (.bool false)] := by kernel_rfl
@[simp] theorem ft_co45 : Program.concrete Try.prog 45 = true := by kernel_rfl
@[simp] theorem ft_bu45 : buildT Try.prog 45 = true := by kernel_rfl
@[simp] theorem ft_pl45_0 : placeT Try.prog 45 0 = some (0, 1) := by kernel_rfl
@[simp] theorem ft_fi45_0 : fieldT Try.prog 45 0 = some (0, .one) := by kernel_rfl
@[simp] theorem ft_pl45_1 : placeT Try.prog 45 1 = some (1, 1) := by kernel_rfl
@[simp] theorem ft_fi45_1 : fieldT Try.prog 45 1 = some (1, .one) := by kernel_rfl
@[simp] theorem ft_pl45_2 : placeT Try.prog 45 2 = some (2, 1) := by kernel_rfl
@[simp] theorem ft_fi45_2 : fieldT Try.prog 45 2 = some (2, .one) := by kernel_rfl
@[simp] theorem ft_pl45_3 : placeT Try.prog 45 3 = some (3, 1) := by kernel_rfl
@[simp] theorem ft_fi45_3 : fieldT Try.prog 45 3 = some (3, .one) := by kernel_rfl
@[simp] theorem ft_pl45_4 : placeT Try.prog 45 4 = some (4, 1) := by kernel_rfl
@[simp] theorem ft_fi45_4 : fieldT Try.prog 45 4 = some (4, .one) := by kernel_rfl
@[simp] theorem ft_pl45_5 : placeT Try.prog 45 5 = some (5, 1) := by kernel_rfl
@[simp] theorem ft_fi45_5 : fieldT Try.prog 45 5 = some (5, .one) := by kernel_rfl
@[simp] theorem ft_pl45_6 : placeT Try.prog 45 6 = some (6, 4) := by kernel_rfl
@[simp] theorem ft_fi45_6 : fieldT Try.prog 45 6 = some (6, .agg 4) := by kernel_rfl
@[simp] theorem ft_lk46 : lkT Try.prog 46 = .agg 2 := by kernel_rfl
@[simp] theorem ft_ce46 : Program.cellsOf Try.prog 46 = 2 := by kernel_rfl
@[simp] theorem ft_by46 : Program.bytesOf Try.prog 46 = 16 := by kernel_rfl
@[simp] theorem ft_ze46 : zeroAV Try.prog 46 = .agg [.sc (.int .i64 0), .sc (.int .i64 0)] := by kernel_rfl
@[simp] theorem ft_co46 : Program.concrete Try.prog 46 = true := by kernel_rfl
@[simp] theorem ft_bu46 : buildT Try.prog 46 = true := by kernel_rfl
@[simp] theorem ft_pl46_0 : placeT Try.prog 46 0 = some (0, 1) := by kernel_rfl
@[simp] theorem ft_fi46_0 : fieldT Try.prog 46 0 = some (0, .one) := by kernel_rfl
@[simp] theorem ft_pl46_1 : placeT Try.prog 46 1 = some (1, 1) := by kernel_rfl
@[simp] theorem ft_fi46_1 : fieldT Try.prog 46 1 = some (1, .one) := by kernel_rfl
@[simp] theorem ft_lk47 : lkT Try.prog 47 = .agg 2 := by kernel_rfl
@[simp] theorem ft_ce47 : Program.cellsOf Try.prog 47 = 2 := by kernel_rfl
@[simp] theorem ft_by47 : Program.bytesOf Try.prog 47 = 16 := by kernel_rfl
@[simp] theorem ft_ze47 : zeroAV Try.prog 47 = .agg [.sc (.int .i64 0), .sc (.int .i64 0)] := by kernel_rfl
@[simp] theorem ft_co47 : Program.concrete Try.prog 47 = true := by kernel_rfl
@[simp] theorem ft_bu47 : buildT Try.prog 47 = true := by kernel_rfl
@[simp] theorem ft_pl47_0 : placeT Try.prog 47 0 = some (0, 1) := by kernel_rfl
@[simp] theorem ft_fi47_0 : fieldT Try.prog 47 0 = some (0, .one) := by kernel_rfl
@[simp] theorem ft_pl47_1 : placeT Try.prog 47 1 = some (1, 1) := by kernel_rfl
@[simp] theorem ft_fi47_1 : fieldT Try.prog 47 1 = some (1, .one) := by kernel_rfl
@[simp] theorem ft_lk48 : lkT Try.prog 48 = .one := by kernel_rfl
@[simp] theorem ft_ce48 : Program.cellsOf Try.prog 48 = 1 := by kernel_rfl
@[simp] theorem ft_by48 : Program.bytesOf Try.prog 48 = 8 := by kernel_rfl
@[simp] theorem ft_ze48 : zeroAV Try.prog 48 = .sc .nilFunc := by kernel_rfl
@[simp] theorem ft_co48 : Program.concrete Try.prog 48 = true := by kernel_rfl
@[simp] theorem ft_lk49 : lkT Try.prog 49 = .one := by kernel_rfl
@[simp] theorem ft_ce49 : Program.cellsOf Try.prog 49 = 1 := by kernel_rfl
@[simp] theorem ft_by49 : Program.bytesOf Try.prog 49 = 8 := by kernel_rfl
@[simp] theorem ft_ze49 : zeroAV Try.prog 49 = .sc .nilFunc := by kernel_rfl
@[simp] theorem ft_co49 : Program.concrete Try.prog 49 = true := by kernel_rfl
@[simp] theorem ft_lk50 : lkT Try.prog 50 = .agg 4 := by kernel_rfl
@[simp] theorem ft_ce50 : Program.cellsOf Try.prog 50 = 4 := by kernel_rfl
@[simp] theorem ft_by50 : Program.bytesOf Try.prog 50 = 32 := by kernel_rfl
@[simp] theorem ft_ze50 : zeroAV Try.prog 50 = .agg [.sc (.int .i64 0), .sc (.int .i64 0), .sc (.int .i64 0), .sc (.int .i64 0)] := by kernel_rfl
@[simp] theorem ft_co50 : Program.concrete Try.prog 50 = true := by kernel_rfl
@[simp] theorem ft_bu50 : buildT Try.prog 50 = true := by kernel_rfl
@[simp] theorem ft_pl50_0 : placeT Try.prog 50 0 = some (0, 1) := by kernel_rfl
@[simp] theorem ft_fi50_0 : fieldT Try.prog 50 0 = some (0, .one) := by kernel_rfl
@[simp] theorem ft_pl50_1 : placeT Try.prog 50 1 = some (1, 1) := by kernel_rfl
@[simp] theorem ft_fi50_1 : fieldT Try.prog 50 1 = some (1, .one) := by kernel_rfl
@[simp] theorem ft_pl50_2 : placeT Try.prog 50 2 = some (2, 1) := by kernel_rfl
@[simp] theorem ft_fi50_2 : fieldT Try.prog 50 2 = some (2, .one) := by kernel_rfl
@[simp] theorem ft_pl50_3 : placeT Try.prog 50 3 = some (3, 1) := by kernel_rfl
@[simp] theorem ft_fi50_3 : fieldT Try.prog 50 3 = some (3, .one) := by kernel_rfl
@[simp] theorem ft_lk51 : lkT Try.prog 51 = .agg 4 := by kernel_rfl
@[simp] theorem ft_ce51 : Program.cellsOf Try.prog 51 = 4 := by kernel_rfl
@[simp] theorem ft_by51 : Program.bytesOf Try.prog 51 = 32 := by kernel_rfl
@[simp] theorem ft_ze51 : zeroAV Try.prog 51 = .agg [.sc (.int .i64 0), .sc (.int .i64 0), .sc (.int .i64 0), .sc (.int .i64 0)] := by kernel_rfl
@[simp] theorem ft_co51 : Program.concrete Try.prog 51 = true := by kernel_rfl
@[simp] theorem ft_bu51 : buildT Try.prog 51 = true := by kernel_rfl
@[simp] theorem ft_pl51_0 : placeT Try.prog 51 0 = some (0, 1) := by kernel_rfl
@[simp] theorem ft_fi51_0 : fieldT Try.prog 51 0 = some (0, .one) := by kernel_rfl
@[simp] theorem ft_pl51_1 : placeT Try.prog 51 1 = some (1, 1) := by kernel_rfl
@[simp] theorem ft_fi51_1 : fieldT Try.prog 51 1 = some (1, .one) := by kernel_rfl
@[simp] theorem ft_pl51_2 : placeT Try.prog 51 2 = some (2, 1) := by kernel_rfl
@[simp] theorem ft_fi51_2 : fieldT Try.prog 51 2 = some (2, .one) := by kernel_rfl
@[simp] theorem ft_pl51_3 : placeT Try.prog 51 3 = some (3, 1) := by kernel_rfl
@[simp] theorem ft_fi51_3 : fieldT Try.prog 51 3 = some (3, .one) := by kernel_rfl
@[simp] theorem ft_lk52 : lkT Try.prog 52 = .one := by kernel_rfl
@[simp] theorem ft_ce52 : Program.cellsOf Try.prog 52 = 1 := by kernel_rfl
@[simp] theorem ft_by52 : Program.bytesOf Try.prog 52 = 8 := by kernel_rfl
@[simp] theorem ft_ze52 : zeroAV Try.prog 52 = .sc .nilFunc := by kernel_rfl
@[simp] theorem ft_co52 : Program.concrete Try.prog 52 = true := by kernel_rfl
@[simp] theorem ft_lk53 : lkT Try.prog 53 = .one := by kernel_rfl
@[simp] theorem ft_ce53 : Program.cellsOf Try.prog 53 = 1 := by kernel_rfl
@[simp] theorem ft_by53 : Program.bytesOf Try.prog 53 = 8 := by kernel_rfl
@[simp] theorem ft_ze53 : zeroAV Try.prog 53 = .sc .nilFunc := by kernel_rfl
@[simp] theorem ft_co53 : Program.concrete Try.prog 53 = true := by kernel_rfl
@[simp] theorem ft_lk54 : lkT Try.prog 54 = .one := by kernel_rfl
@[simp] theorem ft_ce54 : Program.cellsOf Try.prog 54 = 1 := by kernel_rfl
@[simp] theorem ft_by54 : Program.bytesOf Try.prog 54 = 8 := by kernel_rfl
@[simp] theorem ft_ze54 : zeroAV Try.prog 54 = .sc .nilFunc := by kernel_rfl
@[simp] theorem ft_co54 : Program.concrete Try.prog 54 = true := by kernel_rfl
@[simp] theorem ft_lk55 : lkT Try.prog 55 = .one := by kernel_rfl
@[simp] theorem ft_ce55 : Program.cellsOf Try.prog 55 = 1 := by kernel_rfl
@[simp] theorem ft_by55 : Program.bytesOf Try.prog 55 = 8 := by kernel_rfl
@[simp] theorem ft_ze55 : zeroAV Try.prog 55 = .sc .nilFunc := by kernel_rfl
@[simp] theorem ft_co55 : Program.concrete Try.prog 55 = true := by kernel_rfl
@[simp] theorem ft_lk56 : lkT Try.prog 56 = .one := by kernel_rfl
@[simp] theorem ft_ce56 : Program.cellsOf Try.prog 56 = 1 := by kernel_rfl
@[simp] theorem ft_by56 : Program.bytesOf Try.prog 56 = 8 := by kernel_rfl
@[simp] theorem ft_ze56 : zeroAV Try.prog 56 = .sc .nilFunc := by kernel_rfl
@[simp] theorem ft_co56 : Program.concrete Try.prog 56 = true := by kernel_rfl
@[simp] theorem ft_lk57 : lkT Try.prog 57 = .one := by kernel_rfl
@[simp] theorem ft_ce57 : Program.cellsOf Try.prog 57 = 1 := by kernel_rfl
@[simp] theorem ft_by57 : Program.bytesOf Try.prog 57 = 8 := by kernel_rfl
@[simp] theorem ft_ze57 : zeroAV Try.prog 57 = .sc .nilFunc := by kernel_rfl
@[simp] theorem ft_co57 : Program.concrete Try.prog 57 = true := by kernel_rfl
@[simp] theorem ft_lk58 : lkT Try.prog 58 = .one := by kernel_rfl
@[simp] theorem ft_ce58 : Program.cellsOf Try.prog 58 = 1 := by kernel_rfl
@[simp] theorem ft_by58 : Program.bytesOf Try.prog 58 = 8 := by kernel_rfl
@[simp] theorem ft_ze58 : zeroAV Try.prog 58 = .sc .nilFunc := by kernel_rfl
@[simp] theorem ft_co58 : Program.concrete Try.prog 58 = true := by kernel_rfl
@[simp] theorem ft_lk59 : lkT Try.prog 59 = .one := by kernel_rfl
@[simp] theorem ft_ce59 : Program.cellsOf Try.prog 59 = 1 := by kernel_rfl
@[simp] theorem ft_by59 : Program.bytesOf Try.prog 59 = 24 := by kernel_rfl
@[simp] theorem ft_ze59 : zeroAV Try.prog 59 = .nilS := by kernel_rfl
@[simp] theorem ft_co59 : Program.concrete Try.prog 59 = true := by kernel_rfl
@[simp] theorem ft_sl59 : sliceT Try.prog 59 = some 64 := by kernel_rfl
@[simp] theorem ft_lk60 : lkT Try.prog 60 = .one := by kernel_rfl
@[simp] theorem ft_ce60 : Program.cellsOf Try.prog 60 = 1 := by kernel_rfl
@[simp] theorem ft_by60 : Program.bytesOf Try.prog 60 = 8 := by kernel_rfl
@[simp] theorem ft_ze60 : zeroAV Try.prog 60 = .sc .nilFunc := by kernel_rfl
@[simp] theorem ft_co60 : Program.concrete Try.prog 60 = true := by kernel_rfl
@[simp] theorem ft_lk61 : lkT Try.prog 61 = .agg 2 := by kernel_rfl
@[simp] theorem ft_ce61 : Program.cellsOf Try.prog 61 = 2 := by kernel_rfl
@[simp] theorem ft_by61 : Program.bytesOf Try.prog 61 = 16 := by kernel_rfl
@[simp] theorem ft_ze61 : zeroAV Try.prog 61 = .agg [.sc (.int .i64 0), .sc (.int .i64 0)] := by kernel_rfl
@[simp] theorem ft_co61 : Program.concrete Try.prog 61 = true := by kernel_rfl
@[simp] theorem ft_bu61 : buildT Try.prog 61 = true := by kernel_rfl
@[simp] theorem ft_pl61_0 : placeT Try.prog 61 0 = some (0, 1) := by kernel_rfl
@[simp] theorem ft_fi61_0 : fieldT Try.prog 61 0 = some (0, .one) := by kernel_rfl
@[simp] theorem ft_pl61_1 : placeT Try.prog 61 1 = some (1, 1) := by kernel_rfl
@[simp] theorem ft_fi61_1 : fieldT Try.prog 61 1 = some (1, .one) := by kernel_rfl
@[simp] theorem ft_lk62 : lkT Try.prog 62 = .agg 2 := by kernel_rfl
@[simp] theorem ft_ce62 : Program.cellsOf Try.prog 62 = 2 := by kernel_rfl
@[simp] theorem ft_by62 : Program.bytesOf Try.prog 62 = 16 := by kernel_rfl
@[simp] theorem ft_ze62 : zeroAV Try.prog 62 = .agg [.sc (.int .i64 0), .sc (.int .i64 0)] := by kernel_rfl
@[simp] theorem ft_co62 : Program.concrete Try.prog 62 = true := by kernel_rfl
@[simp] theorem ft_bu62 : buildT Try.prog 62 = true := by kernel_rfl
@[simp] theorem ft_pl62_0 : placeT Try.prog 62 0 = some (0, 1) := by kernel_rfl
@[simp] theorem ft_fi62_0 : fieldT Try.prog 62 0 = some (0, .one) := by kernel_rfl
@[simp] theorem ft_pl62_1 : placeT Try.prog 62 1 = some (1, 1) := by kernel_rfl
@[simp] theorem ft_fi62_1 : fieldT Try.prog 62 1 = some (1, .one) := by kernel_rfl
@[simp] theorem ft_lk63 : lkT Try.prog 63 = .agg 4 := by kernel_rfl
@[simp] theorem ft_ce63 : Program.cellsOf Try.prog 63 = 4 := by kernel_rfl
@[simp] theorem ft_by63 : Program.bytesOf Try.prog 63 = 32 := by kernel_rfl
@[simp] theorem ft_ze63 : zeroAV Try.prog 63 = .agg [.sc (.int .i64 0), .sc (.int .i64 0), .sc (.int .i64 0), .sc (.int .i64 0)] := by kernel_rfl
@[simp] theorem ft_co63 : Program.concrete Try.prog 63 = true := by kernel_rfl
@[simp] theorem ft_bu63 : buildT Try.prog 63 = true := by kernel_rfl
@[simp] theorem ft_pl63_0 : placeT Try.prog 63 0 = some (0, 2) := by kernel_rfl
@[simp] theorem ft_fi63_0 : fieldT Try.prog 63 0 = some (0, .agg 2) := by kernel_rfl
@[simp] theorem ft_pl63_1 : placeT Try.prog 63 1 = some (2, 2) := by kernel_rfl
@[simp] theorem ft_fi63_1 : fieldT Try.prog 63 1 = some (2, .agg 2) := by kernel_rfl
@[simp] theorem ft_lk64 : lkT Try.prog 64 = .agg 4 := by kernel_rfl
@[simp] theorem ft_ce64 : Program.cellsOf Try.prog 64 = 4 := by kernel_rfl
@[simp] theorem ft_by64 : Program.bytesOf Try.prog 64 = 32 := by kernel_rfl
@[simp] theorem ft_ze64 : zeroAV Try.prog 64 = .agg [.sc (.int .i64 0), .sc (.int .i64 0), .sc (.int .i64 0), .sc (.int .i64 0)] := by kernel_rfl
@[simp] theorem ft_co64 : Program.concrete Try.prog 64 = true := by kernel_rfl
@[simp] theorem ft_bu64 : buildT Try.prog 64 = true := by kernel_rfl
@[simp] theorem ft_pl64_0 : placeT Try.prog 64 0 = some (0, 2) := by kernel_rfl
@[simp] theorem ft_fi64_0 : fieldT Try.prog 64 0 = some (0, .agg 2) := by kernel_rfl
@[simp] theorem ft_pl64_1 : placeT Try.prog 64 1 = some (2, 2) := by kernel_rfl
@[simp] theorem ft_fi64_1 : fieldT Try.prog 64 1 = some (2, .agg 2) := by kernel_rfl
@[simp] theorem ft_lk65 : lkT Try.prog 65 = .one := by kernel_rfl
@[simp] theorem ft_ce65 : Program.cellsOf Try.prog 65 = 1 := by kernel_rfl
@[simp] theorem ft_by65 : Program.bytesOf Try.prog 65 = 8 := by kernel_rfl
@[simp] theorem ft_ze65 : zeroAV Try.prog 65 = .sc .nilFunc := by kernel_rfl
@[simp] theorem ft_co65 : Program.concrete Try.prog 65 = true := by kernel_rfl
@[simp] theorem ft_lk66 : lkT Try.prog 66 = .one := by kernel_rfl
@[simp] theorem ft_ce66 : Program.cellsOf Try.prog 66 = 1 := by kernel_rfl
@[simp] theorem ft_by66 : Program.bytesOf Try.prog 66 = 8 := by kernel_rfl
@[simp] theorem ft_ze66 : zeroAV Try.prog 66 = .sc .nilFunc := by kernel_rfl
@[simp] theorem ft_co66 : Program.concrete Try.prog 66 = true := by kernel_rfl
@[simp] theorem ft_lk67 : lkT Try.prog 67 = .one := by kernel_rfl
@[simp] theorem ft_ce67 : Program.cellsOf Try.prog 67 = 1 := by kernel_rfl
@[simp] theorem ft_by67 : Program.bytesOf Try.prog 67 = 8 := by kernel_rfl
@[simp] theorem ft_ze67 : zeroAV Try.prog 67 = .sc .nilFunc := by kernel_rfl
@[simp] theorem ft_co67 : Program.concrete Try.prog 67 = true := by kernel_rfl
@[simp] theorem ft_lk68 : lkT Try.prog 68 = .one := by kernel_rfl
@[simp] theorem ft_ce68 : Program.cellsOf Try.prog 68 = 1 := by kernel_rfl
@[simp] theorem ft_by68 : Program.bytesOf Try.prog 68 = 8 := by kernel_rfl
@[simp] theorem ft_ze68 : zeroAV Try.prog 68 = .sc .nilFunc := by kernel_rfl
@[simp] theorem ft_co68 : Program.concrete Try.prog 68 = true := by kernel_rfl
@[simp] theorem ft_lk69 : lkT Try.prog 69 = .one := by kernel_rfl
@[simp] theorem ft_ce69 : Program.cellsOf Try.prog 69 = 1 := by kernel_rfl
@[simp] theorem ft_by69 : Program.bytesOf Try.prog 69 = 8 := by kernel_rfl
@[simp] theorem ft_ze69 : zeroAV Try.prog 69 = .sc .nilFunc := by kernel_rfl
@[simp] theorem ft_co69 : Program.concrete Try.prog 69 = true := by kernel_rfl
@[simp] theorem ft_lk70 : lkT Try.prog 70 = .one := by kernel_rfl
@[simp] theorem ft_ce70 : Program.cellsOf Try.prog 70 = 1 := by kernel_rfl
@[simp] theorem ft_by70 : Program.bytesOf Try.prog 70 = 8 := by kernel_rfl
@[simp] theorem ft_ze70 : zeroAV Try.prog 70 = .sc .nilFunc := by kernel_rfl
@[simp] theorem ft_co70 : Program.concrete Try.prog 70 = true := by kernel_rfl
@[simp] theorem ft_lk71 : lkT Try.prog 71 = .one := by kernel_rfl
@[simp] theorem ft_ce71 : Program.cellsOf Try.prog 71 = 1 := by kernel_rfl
@[simp] theorem ft_by71 : Program.bytesOf Try.prog 71 = 8 := by kernel_rfl
@[simp] theorem ft_ze71 : zeroAV Try.prog 71 = .sc .nilFunc := by kernel_rfl
@[simp] theorem ft_co71 : Program.concrete Try.prog 71 = true := by kernel_rfl
@[simp] theorem ft_lk72 : lkT Try.prog 72 = .one := by kernel_rfl
@[simp] theorem ft_ce72 : Program.cellsOf Try.prog 72 = 1 := by kernel_rfl
@[simp] theorem ft_by72 : Program.bytesOf Try.prog 72 = 8 := by kernel_rfl
@[simp] theorem ft_ze72 : zeroAV Try.prog 72 = .sc .nilFunc := by kernel_rfl
@[simp] theorem ft_co72 : Program.concrete Try.prog 72 = true := by kernel_rfl
@[simp] theorem ft_lk73 : lkT Try.prog 73 = .one := by kernel_rfl
@[simp] theorem ft_ce73 : Program.cellsOf Try.prog 73 = 1 := by kernel_rfl
@[simp] theorem ft_by73 : Program.bytesOf Try.prog 73 = 8 := by kernel_rfl
@[simp] theorem ft_ze73 : zeroAV Try.prog 73 = .sc .nilFunc := by kernel_rfl
@[simp] theorem ft_co73 : Program.concrete Try.prog 73 = true := by kernel_rfl
@[simp] theorem ft_lk74 : lkT Try.prog 74 = .one := by kernel_rfl
@[simp] theorem ft_ce74 : Program.cellsOf Try.prog 74 = 1 := by kernel_rfl
@[simp] theorem ft_by74 : Program.bytesOf Try.prog 74 = 8 := by kernel_rfl
@[simp] theorem ft_ze74 : zeroAV Try.prog 74 = .sc .nilFunc := by kernel_rfl
@[simp] theorem ft_co74 : Program.concrete Try.prog 74 = true := by kernel_rfl
@[simp] theorem ft_lk75 : lkT Try.prog 75 = .one := by kernel_rfl
@[simp] theorem ft_ce75 : Program.cellsOf Try.prog 75 = 1 := by kernel_rfl
@[simp] theorem ft_by75 : Program.bytesOf Try.prog 75 = 8 := by kernel_rfl
@[simp] theorem ft_ze75 : zeroAV Try.prog 75 = .sc .nilFunc := by kernel_rfl
@[simp] theorem ft_co75 : Program.concrete Try.prog 75 = true := by kernel_rfl
@[simp] theorem ft_lk76 : lkT Try.prog 76 = .one := by kernel_rfl
@[simp] theorem ft_ce76 : Program.cellsOf Try.prog 76 = 1 := by kernel_rfl
@[simp] theorem ft_by76 : Program.bytesOf Try.prog 76 = 8 := by kernel_rfl
@[simp] theorem ft_ze76 : zeroAV Try.prog 76 = .sc .nilFunc := by kernel_rfl
@[simp] theorem ft_co76 : Program.concrete Try.prog 76 = true := by kernel_rfl
@[simp] theorem ft_lk77 : lkT Try.prog 77 = .one := by kernel_rfl
@[simp] theorem ft_ce77 : Program.cellsOf Try.prog 77 = 1 := by kernel_rfl
@[simp] theorem ft_by77 : Program.bytesOf Try.prog 77 = 8 := by kernel_rfl
@[simp] theorem ft_ze77 : zeroAV Try.prog 77 = .sc .nilFunc := by kernel_rfl
@[simp] theorem ft_co77 : Program.concrete Try.prog 77 = true := by kernel_rfl
@[simp] theorem ft_lk78 : lkT Try.prog 78 = .one := by kernel_rfl
@[simp] theorem ft_ce78 : Program.cellsOf Try.prog 78 = 1 := by kernel_rfl
@[simp] theorem ft_by78 : Program.bytesOf Try.prog 78 = 8 := by kernel_rfl
@[simp] theorem ft_ze78 : zeroAV Try.prog 78 = .sc .nilFunc := by kernel_rfl
@[simp] theorem ft_co78 : Program.concrete Try.prog 78 = true := by kernel_rfl
@[simp] theorem ft_lk79 : lkT Try.prog 79 = .one := by kernel_rfl
@[simp] theorem ft_ce79 : Program.cellsOf Try.prog 79 = 1 := by kernel_rfl
@[simp] theorem ft_by79 : Program.bytesOf Try.prog 79 = 8 := by kernel_rfl
@[simp] theorem ft_ze79 : zeroAV Try.prog 79 = .sc .nilFunc := by kernel_rfl
@[simp] theorem ft_co79 : Program.concrete Try.prog 79 = true := by kernel_rfl
@[simp] theorem ft_lk80 : lkT Try.prog 80 = .one := by kernel_rfl
@[simp] theorem ft_ce80 : Program.cellsOf Try.prog 80 = 1 := by kernel_rfl
@[simp] theorem ft_by80 : Program.bytesOf Try.prog 80 = 8 := by kernel_rfl
@[simp] theorem ft_ze80 : zeroAV Try.prog 80 = .sc .nilFunc := by kernel_rfl
@[simp] theorem ft_co80 : Program.concrete Try.prog 80 = true := by kernel_rfl
@[simp] theorem ft_lk81 : lkT Try.prog 81 = .one := by kernel_rfl
@[simp] theorem ft_ce81 : Program.cellsOf Try.prog 81 = 1 := by kernel_rfl
@[simp] theorem ft_by81 : Program.bytesOf Try.prog 81 = 8 := by kernel_rfl
@[simp] theorem ft_ze81 : zeroAV Try.prog 81 = .sc .nilFunc := by kernel_rfl
@[simp] theorem ft_co81 : Program.concrete Try.prog 81 = true := by kernel_rfl
@[simp] theorem ft_lk82 : lkT Try.prog 82 = .one := by kernel_rfl
@[simp] theorem ft_ce82 : Program.cellsOf Try.prog 82 = 1 := by kernel_rfl
@[simp] theorem ft_by82 : Program.bytesOf Try.prog 82 = 8 := by kernel_rfl
@[simp] theorem ft_ze82 : zeroAV Try.prog 82 = .sc .nilFunc := by kernel_rfl
@[simp] theorem ft_co82 : Program.concrete Try.prog 82 = true := by kernel_rfl
@[simp] theorem ft_lk83 : lkT Try.prog 83 = .one := by kernel_rfl
@[simp] theorem ft_ce83 : Program.cellsOf Try.prog 83 = 1 := by kernel_rfl
@[simp] theorem ft_by83 : Program.bytesOf Try.prog 83 = 8 := by kernel_rfl
@[simp] theorem ft_ze83 : zeroAV Try.prog 83 = .sc .nilFunc := by kernel_rfl
@[simp] theorem ft_co83 : Program.concrete Try.prog 83 = true := by kernel_rfl
@[simp] theorem ft_lk84 : lkT Try.prog 84 = .one := by kernel_rfl
@[simp] theorem ft_ce84 : Program.cellsOf Try.prog 84 = 1 := by kernel_rfl
@[simp] theorem ft_by84 : Program.bytesOf Try.prog 84 = 8 := by kernel_rfl
@[simp] theorem ft_ze84 : zeroAV Try.prog 84 = .sc .nilFunc := by kernel_rfl
@[simp] theorem ft_co84 : Program.concrete Try.prog 84 = true := by kernel_rfl
@[simp] theorem ft_lk85 : lkT Try.prog 85 = .one := by kernel_rfl
@[simp] theorem ft_ce85 : Program.cellsOf Try.prog 85 = 1 := by kernel_rfl
@[simp] theorem ft_by85 : Program.bytesOf Try.prog 85 = 8 := by kernel_rfl
@[simp] theorem ft_ze85 : zeroAV Try.prog 85 = .sc .nilFunc := by kernel_rfl
@[simp] theorem ft_co85 : Program.concrete Try.prog 85 = true := by kernel_rfl
@[simp] theorem ft_lk86 : lkT Try.prog 86 = .one := by kernel_rfl
@[simp] theorem ft_ce86 : Program.cellsOf Try.prog 86 = 1 := by kernel_rfl
@[simp] theorem ft_by86 : Program.bytesOf Try.prog 86 = 8 := by kernel_rfl
@[simp] theorem ft_ze86 : zeroAV Try.prog 86 = .sc .nilFunc := by kernel_rfl
@[simp] theorem ft_co86 : Program.concrete Try.prog 86 = true := by kernel_rfl
@[simp] theorem ft_lk87 : lkT Try.prog 87 = .one := by kernel_rfl
@[simp] theorem ft_ce87 : Program.cellsOf Try.prog 87 = 1 := by kernel_rfl
@[simp] theorem ft_by87 : Program.bytesOf Try.prog 87 = 8 := by kernel_rfl
@[simp] theorem ft_ze87 : zeroAV Try.prog 87 = .sc .nilFunc := by kernel_rfl
@[simp] theorem ft_co87 : Program.concrete Try.prog 87 = true := by kernel_rfl
@[simp] theorem ft_lk88 : lkT Try.prog 88 = .one := by kernel_rfl
@[simp] theorem ft_ce88 : Program.cellsOf Try.prog 88 = 1 := by kernel_rfl
@[simp] theorem ft_by88 : Program.bytesOf Try.prog 88 = 8 := by kernel_rfl
@[simp] theorem ft_ze88 : zeroAV Try.prog 88 = .sc .nilFunc := by kernel_rfl
@[simp] theorem ft_co88 : Program.concrete Try.prog 88 = true := by kernel_rfl
@[simp] theorem ft_lk89 : lkT Try.prog 89 = .one := by kernel_rfl
@[simp] theorem ft_ce89 : Program.cellsOf Try.prog 89 = 1 := by kernel_rfl
@[simp] theorem ft_by89 : Program.bytesOf Try.prog 89 = 8 := by kernel_rfl
@[simp] theorem ft_ze89 : zeroAV Try.prog 89 = .sc .nilFunc := by kernel_rfl
@[simp] theorem ft_co89 : Program.concrete Try.prog 89 = true := by kernel_rfl
@[simp] theorem ft_lk90 : lkT Try.prog 90 = .one := by kernel_rfl
@[simp] theorem ft_ce90 : Program.cellsOf Try.prog 90 = 1 := by kernel_rfl
@[simp] theorem ft_by90 : Program.bytesOf Try.prog 90 = 8 := by kernel_rfl
@[simp] theorem ft_ze90 : zeroAV Try.prog 90 = .sc .nilFunc := by kernel_rfl
@[simp] theorem ft_co90 : Program.concrete Try.prog 90 = true := by kernel_rfl
@[simp] theorem ft_lk91 : lkT Try.prog 91 = .one := by kernel_rfl
@[simp] theorem ft_ce91 : Program.cellsOf Try.prog 91 = 1 := by kernel_rfl
@[simp] theorem ft_by91 : Program.bytesOf Try.prog 91 = 8 := by kernel_rfl
@[simp] theorem ft_ze91 : zeroAV Try.prog 91 = .sc .nilFunc := by kernel_rfl
@[simp] theorem ft_co91 : Program.concrete Try.prog 91 = true := by kernel_rfl
@[simp] theorem ft_lk92 : lkT Try.prog 92 = .one := by kernel_rfl
@[simp] theorem ft_ce92 : Program.cellsOf Try.prog 92 = 1 := by kernel_rfl
@[simp] theorem ft_by92 : Program.bytesOf Try.prog 92 = 8 := by kernel_rfl
@[simp] theorem ft_ze92 : zeroAV Try.prog 92 = .sc .nilFunc := by kernel_rfl
@[simp] theorem ft_co92 : Program.concrete Try.prog 92 = true := by kernel_rfl
@[simp] theorem ft_lk93 : lkT Try.prog 93 = .one := by kernel_rfl
@[simp] theorem ft_ce93 : Program.cellsOf Try.prog 93 = 1 := by kernel_rfl
@[simp] theorem ft_by93 : Program.bytesOf Try.prog 93 = 8 := by kernel_rfl
@[simp] theorem ft_ze93 : zeroAV Try.prog 93 = .sc .nilFunc := by kernel_rfl
@[simp] theorem ft_co93 : Program.concrete Try.prog 93 = true := by kernel_rfl
@[simp] theorem ft_lk94 : lkT Try.prog 94 = .one := by kernel_rfl
@[simp] theorem ft_ce94 : Program.cellsOf Try.prog 94 = 1 := by kernel_rfl
@[simp] theorem ft_by94 : Program.bytesOf Try.prog 94 = 8 := by kernel_rfl
@[simp] theorem ft_ze94 : zeroAV Try.prog 94 = .sc .nilFunc := by kernel_rfl
@[simp] theorem ft_co94 : Program.concrete Try.prog 94 = true := by kernel_rfl
@[simp] theorem ft_lk95 : lkT Try.prog 95 = .one := by kernel_rfl
@[simp] theorem ft_ce95 : Program.cellsOf Try.prog 95 = 1 := by kernel_rfl
@[simp] theorem ft_by95 : Program.bytesOf Try.prog 95 = 8 := by kernel_rfl
@[simp] theorem ft_ze95 : zeroAV Try.prog 95 = .sc (.int .u64 0) := by kernel_rfl
@[simp] theorem ft_co95 : Program.concrete Try.prog 95 = true := by kernel_rfl
@[simp] theorem ft_lk96 : lkT Try.prog 96 = .one := by kernel_rfl
@[simp] theorem ft_ce96 : Program.cellsOf Try.prog 96 = 1 := by kernel_rfl
@[simp] theorem ft_by96 : Program.bytesOf Try.prog 96 = 8 := by kernel_rfl
@[simp] theorem ft_ze96 : zeroAV Try.prog 96 = .sc .nilFunc := by kernel_rfl
@[simp] theorem ft_co96 : Program.concrete Try.prog 96 = true := by kernel_rfl
@[simp] theorem ft_lk97 : lkT Try.prog 97 = .agg 4 := by kernel_rfl
@[simp] theorem ft_ce97 : Program.cellsOf Try.prog 97 = 4 := by kernel_rfl
@[simp] theorem ft_by97 : Program.bytesOf Try.prog 97 = 40 := by kernel_rfl
@[simp] theorem ft_ze97 : zeroAV Try.prog 97 = .agg [.sc (.pointer none), .sc (.pointer none), .sc (.pointer none), .sc (.string .empty)] := by kernel_rfl
@[simp] theorem ft_co97 : Program.concrete Try.prog 97 = true := by kernel_rfl
@[simp] theorem ft_bu97 : buildT Try.prog 97 = true := by kernel_rfl
@[simp] theorem ft_pl97_0 : placeT Try.prog 97 0 = some (0, 1) := by kernel_rfl
@[simp] theorem ft_fi97_0 : fieldT Try.prog 97 0 = some (0, .one) := by kernel_rfl
@[simp] theorem ft_pl97_1 : placeT Try.prog 97 1 = some (1, 1) := by kernel_rfl
@[simp] theorem ft_fi97_1 : fieldT Try.prog 97 1 = some (1, .one) := by kernel_rfl
@[simp] theorem ft_pl97_2 : placeT Try.prog 97 2 = some (2, 1) := by kernel_rfl
@[simp] theorem ft_fi97_2 : fieldT Try.prog 97 2 = some (2, .one) := by kernel_rfl
@[simp] theorem ft_pl97_3 : placeT Try.prog 97 3 = some (3, 1) := by kernel_rfl
@[simp] theorem ft_fi97_3 : fieldT Try.prog 97 3 = some (3, .one) := by kernel_rfl
@[simp] theorem ft_lk98 : lkT Try.prog 98 = .agg 4 := by kernel_rfl
@[simp] theorem ft_ce98 : Program.cellsOf Try.prog 98 = 4 := by kernel_rfl
@[simp] theorem ft_by98 : Program.bytesOf Try.prog 98 = 40 := by kernel_rfl
@[simp] theorem ft_ze98 : zeroAV Try.prog 98 = .agg [.sc (.pointer none), .sc (.pointer none), .sc (.pointer none), .sc (.string .empty)] := by kernel_rfl
@[simp] theorem ft_co98 : Program.concrete Try.prog 98 = true := by kernel_rfl
@[simp] theorem ft_bu98 : buildT Try.prog 98 = true := by kernel_rfl
@[simp] theorem ft_pl98_0 : placeT Try.prog 98 0 = some (0, 1) := by kernel_rfl
@[simp] theorem ft_fi98_0 : fieldT Try.prog 98 0 = some (0, .one) := by kernel_rfl
@[simp] theorem ft_pl98_1 : placeT Try.prog 98 1 = some (1, 1) := by kernel_rfl
@[simp] theorem ft_fi98_1 : fieldT Try.prog 98 1 = some (1, .one) := by kernel_rfl
@[simp] theorem ft_pl98_2 : placeT Try.prog 98 2 = some (2, 1) := by kernel_rfl
@[simp] theorem ft_fi98_2 : fieldT Try.prog 98 2 = some (2, .one) := by kernel_rfl
@[simp] theorem ft_pl98_3 : placeT Try.prog 98 3 = some (3, 1) := by kernel_rfl
@[simp] theorem ft_fi98_3 : fieldT Try.prog 98 3 = some (3, .one) := by kernel_rfl
@[simp] theorem ft_lk99 : lkT Try.prog 99 = .agg 0 := by kernel_rfl
@[simp] theorem ft_ce99 : Program.cellsOf Try.prog 99 = 0 := by kernel_rfl
@[simp] theorem ft_by99 : Program.bytesOf Try.prog 99 = 0 := by kernel_rfl
@[simp] theorem ft_ze99 : zeroAV Try.prog 99 = .agg [] := by kernel_rfl
@[simp] theorem ft_co99 : Program.concrete Try.prog 99 = true := by kernel_rfl
@[simp] theorem ft_ar99 : arrT Try.prog 99 = some (0, 16) := by kernel_rfl
@[simp] theorem ft_pl99 : ∀ i, placeT Try.prog 99 i = some (i * 1, 1) := fun i => by kernel_rfl
@[simp] theorem ft_bu99 : buildT Try.prog 99 = true := by kernel_rfl
@[simp] theorem ft_lk100 : lkT Try.prog 100 = .agg 0 := by kernel_rfl
@[simp] theorem ft_ce100 : Program.cellsOf Try.prog 100 = 0 := by kernel_rfl
@[simp] theorem ft_by100 : Program.bytesOf Try.prog 100 = 0 := by kernel_rfl
@[simp] theorem ft_ze100 : zeroAV Try.prog 100 = .agg [] := by kernel_rfl
@[simp] theorem ft_co100 : Program.concrete Try.prog 100 = true := by kernel_rfl
@[simp] theorem ft_bu100 : buildT Try.prog 100 = true := by kernel_rfl
@[simp] theorem ft_pl100_0 : placeT Try.prog 100 0 = some (0, 0) := by kernel_rfl
@[simp] theorem ft_fi100_0 : fieldT Try.prog 100 0 = some (0, .agg 0) := by kernel_rfl
@[simp] theorem ft_lk101 : lkT Try.prog 101 = .agg 0 := by kernel_rfl
@[simp] theorem ft_ce101 : Program.cellsOf Try.prog 101 = 0 := by kernel_rfl
@[simp] theorem ft_by101 : Program.bytesOf Try.prog 101 = 0 := by kernel_rfl
@[simp] theorem ft_ze101 : zeroAV Try.prog 101 = .agg [] := by kernel_rfl
@[simp] theorem ft_co101 : Program.concrete Try.prog 101 = true := by kernel_rfl
@[simp] theorem ft_bu101 : buildT Try.prog 101 = true := by kernel_rfl
@[simp] theorem ft_pl101_0 : placeT Try.prog 101 0 = some (0, 0) := by kernel_rfl
@[simp] theorem ft_fi101_0 : fieldT Try.prog 101 0 = some (0, .agg 0) := by kernel_rfl
@[simp] theorem ft_lk102 : lkT Try.prog 102 = .one := by kernel_rfl
@[simp] theorem ft_ce102 : Program.cellsOf Try.prog 102 = 1 := by kernel_rfl
@[simp] theorem ft_by102 : Program.bytesOf Try.prog 102 = 8 := by kernel_rfl
@[simp] theorem ft_ze102 : zeroAV Try.prog 102 = .sc .nilFunc := by kernel_rfl
@[simp] theorem ft_co102 : Program.concrete Try.prog 102 = true := by kernel_rfl
@[simp] theorem ft_lk103 : lkT Try.prog 103 = .one := by kernel_rfl
@[simp] theorem ft_ce103 : Program.cellsOf Try.prog 103 = 1 := by kernel_rfl
@[simp] theorem ft_by103 : Program.bytesOf Try.prog 103 = 4 := by kernel_rfl
@[simp] theorem ft_ze103 : zeroAV Try.prog 103 = .sc (.int .u32 0) := by kernel_rfl
@[simp] theorem ft_co103 : Program.concrete Try.prog 103 = true := by kernel_rfl
@[simp] theorem ft_lk104 : lkT Try.prog 104 = .one := by kernel_rfl
@[simp] theorem ft_ce104 : Program.cellsOf Try.prog 104 = 1 := by kernel_rfl
@[simp] theorem ft_by104 : Program.bytesOf Try.prog 104 = 1 := by kernel_rfl
@[simp] theorem ft_ze104 : zeroAV Try.prog 104 = .sc (.int .u8 0) := by kernel_rfl
@[simp] theorem ft_co104 : Program.concrete Try.prog 104 = true := by kernel_rfl
@[simp] theorem ft_lk105 : lkT Try.prog 105 = .one := by kernel_rfl
@[simp] theorem ft_ce105 : Program.cellsOf Try.prog 105 = 1 := by kernel_rfl
@[simp] theorem ft_by105 : Program.bytesOf Try.prog 105 = 1 := by kernel_rfl
@[simp] theorem ft_ze105 : zeroAV Try.prog 105 = .sc (.int .u8 0) := by kernel_rfl
@[simp] theorem ft_co105 : Program.concrete Try.prog 105 = true := by kernel_rfl
@[simp] theorem ft_lk106 : lkT Try.prog 106 = .one := by kernel_rfl
@[simp] theorem ft_ce106 : Program.cellsOf Try.prog 106 = 1 := by kernel_rfl
@[simp] theorem ft_by106 : Program.bytesOf Try.prog 106 = 8 := by kernel_rfl
@[simp] theorem ft_ze106 : zeroAV Try.prog 106 = .sc .nilFunc := by kernel_rfl
@[simp] theorem ft_co106 : Program.concrete Try.prog 106 = true := by kernel_rfl
@[simp] theorem ft_lk107 : lkT Try.prog 107 = .one := by kernel_rfl
@[simp] theorem ft_ce107 : Program.cellsOf Try.prog 107 = 1 := by kernel_rfl
@[simp] theorem ft_by107 : Program.bytesOf Try.prog 107 = 8 := by kernel_rfl
@[simp] theorem ft_ze107 : zeroAV Try.prog 107 = .sc (.pointer none) := by kernel_rfl
@[simp] theorem ft_co107 : Program.concrete Try.prog 107 = true := by kernel_rfl
@[simp] theorem ft_lk108 : lkT Try.prog 108 = .one := by kernel_rfl
@[simp] theorem ft_ce108 : Program.cellsOf Try.prog 108 = 1 := by kernel_rfl
@[simp] theorem ft_by108 : Program.bytesOf Try.prog 108 = 4 := by kernel_rfl
@[simp] theorem ft_ze108 : zeroAV Try.prog 108 = .sc (.int .i32 0) := by kernel_rfl
@[simp] theorem ft_co108 : Program.concrete Try.prog 108 = true := by kernel_rfl
@[simp] theorem ft_lk109 : lkT Try.prog 109 = .one := by kernel_rfl
@[simp] theorem ft_ce109 : Program.cellsOf Try.prog 109 = 1 := by kernel_rfl
@[simp] theorem ft_by109 : Program.bytesOf Try.prog 109 = 4 := by kernel_rfl
@[simp] theorem ft_ze109 : zeroAV Try.prog 109 = .sc (.int .i32 0) := by kernel_rfl
@[simp] theorem ft_co109 : Program.concrete Try.prog 109 = true := by kernel_rfl
@[simp] theorem ft_lk110 : lkT Try.prog 110 = .agg 11 := by kernel_rfl
@[simp] theorem ft_ce110 : Program.cellsOf Try.prog 110 = 11 := by kernel_rfl
@[simp] theorem ft_by110 : Program.bytesOf Try.prog 110 = 48 := by kernel_rfl
@[simp] theorem ft_ze110 : zeroAV Try.prog 110 = .agg [.sc (.int .u64 0), .sc (.int .u64 0), .sc (.int .u32 0), .sc (.int .u8 0), .sc (.int .u8 0), .sc (.int .u8 0), .sc (.int .u8 0), .sc .nilFunc, .sc (.pointer none), .sc (.int .i32 0), .sc (.int .i32 0)] := by kernel_rfl
@[simp] theorem ft_co110 : Program.concrete Try.prog 110 = true := by kernel_rfl
@[simp] theorem ft_bu110 : buildT Try.prog 110 = true := by kernel_rfl
@[simp] theorem ft_pl110_0 : placeT Try.prog 110 0 = some (0, 1) := by kernel_rfl
@[simp] theorem ft_fi110_0 : fieldT Try.prog 110 0 = some (0, .one) := by kernel_rfl
@[simp] theorem ft_pl110_1 : placeT Try.prog 110 1 = some (1, 1) := by kernel_rfl
@[simp] theorem ft_fi110_1 : fieldT Try.prog 110 1 = some (1, .one) := by kernel_rfl
@[simp] theorem ft_pl110_2 : placeT Try.prog 110 2 = some (2, 1) := by kernel_rfl
@[simp] theorem ft_fi110_2 : fieldT Try.prog 110 2 = some (2, .one) := by kernel_rfl
@[simp] theorem ft_pl110_3 : placeT Try.prog 110 3 = some (3, 1) := by kernel_rfl
@[simp] theorem ft_fi110_3 : fieldT Try.prog 110 3 = some (3, .one) := by kernel_rfl
@[simp] theorem ft_pl110_4 : placeT Try.prog 110 4 = some (4, 1) := by kernel_rfl
@[simp] theorem ft_fi110_4 : fieldT Try.prog 110 4 = some (4, .one) := by kernel_rfl
@[simp] theorem ft_pl110_5 : placeT Try.prog 110 5 = some (5, 1) := by kernel_rfl
@[simp] theorem ft_fi110_5 : fieldT Try.prog 110 5 = some (5, .one) := by kernel_rfl
@[simp] theorem ft_pl110_6 : placeT Try.prog 110 6 = some (6, 1) := by kernel_rfl
@[simp] theorem ft_fi110_6 : fieldT Try.prog 110 6 = some (6, .one) := by kernel_rfl
@[simp] theorem ft_pl110_7 : placeT Try.prog 110 7 = some (7, 1) := by kernel_rfl
@[simp] theorem ft_fi110_7 : fieldT Try.prog 110 7 = some (7, .one) := by kernel_rfl
@[simp] theorem ft_pl110_8 : placeT Try.prog 110 8 = some (8, 1) := by kernel_rfl
@[simp] theorem ft_fi110_8 : fieldT Try.prog 110 8 = some (8, .one) := by kernel_rfl
@[simp] theorem ft_pl110_9 : placeT Try.prog 110 9 = some (9, 1) := by kernel_rfl
@[simp] theorem ft_fi110_9 : fieldT Try.prog 110 9 = some (9, .one) := by kernel_rfl
@[simp] theorem ft_pl110_10 : placeT Try.prog 110 10 = some (10, 1) := by kernel_rfl
@[simp] theorem ft_fi110_10 : fieldT Try.prog 110 10 = some (10, .one) := by kernel_rfl
@[simp] theorem ft_lk111 : lkT Try.prog 111 = .agg 11 := by kernel_rfl
@[simp] theorem ft_ce111 : Program.cellsOf Try.prog 111 = 11 := by kernel_rfl
@[simp] theorem ft_by111 : Program.bytesOf Try.prog 111 = 48 := by kernel_rfl
@[simp] theorem ft_ze111 : zeroAV Try.prog 111 = .agg [.sc (.int .u64 0), .sc (.int .u64 0), .sc (.int .u32 0), .sc (.int .u8 0), .sc (.int .u8 0), .sc (.int .u8 0), .sc (.int .u8 0), .sc .nilFunc, .sc (.pointer none), .sc (.int .i32 0), .sc (.int .i32 0)] := by kernel_rfl
@[simp] theorem ft_co111 : Program.concrete Try.prog 111 = true := by kernel_rfl
@[simp] theorem ft_bu111 : buildT Try.prog 111 = true := by kernel_rfl
@[simp] theorem ft_pl111_0 : placeT Try.prog 111 0 = some (0, 1) := by kernel_rfl
@[simp] theorem ft_fi111_0 : fieldT Try.prog 111 0 = some (0, .one) := by kernel_rfl
@[simp] theorem ft_pl111_1 : placeT Try.prog 111 1 = some (1, 1) := by kernel_rfl
@[simp] theorem ft_fi111_1 : fieldT Try.prog 111 1 = some (1, .one) := by kernel_rfl
@[simp] theorem ft_pl111_2 : placeT Try.prog 111 2 = some (2, 1) := by kernel_rfl
@[simp] theorem ft_fi111_2 : fieldT Try.prog 111 2 = some (2, .one) := by kernel_rfl
@[simp] theorem ft_pl111_3 : placeT Try.prog 111 3 = some (3, 1) := by kernel_rfl
@[simp] theorem ft_fi111_3 : fieldT Try.prog 111 3 = some (3, .one) := by kernel_rfl
@[simp] theorem ft_pl111_4 : placeT Try.prog 111 4 = some (4, 1) := by kernel_rfl
@[simp] theorem ft_fi111_4 : fieldT Try.prog 111 4 = some (4, .one) := by kernel_rfl
@[simp] theorem ft_pl111_5 : placeT Try.prog 111 5 = some (5, 1) := by kernel_rfl
@[simp] theorem ft_fi111_5 : fieldT Try.prog 111 5 = some (5, .one) := by kernel_rfl
@[simp] theorem ft_pl111_6 : placeT Try.prog 111 6 = some (6, 1) := by kernel_rfl
@[simp] theorem ft_fi111_6 : fieldT Try.prog 111 6 = some (6, .one) := by kernel_rfl
@[simp] theorem ft_pl111_7 : placeT Try.prog 111 7 = some (7, 1) := by kernel_rfl
@[simp] theorem ft_fi111_7 : fieldT Try.prog 111 7 = some (7, .one) := by kernel_rfl
@[simp] theorem ft_pl111_8 : placeT Try.prog 111 8 = some (8, 1) := by kernel_rfl
@[simp] theorem ft_fi111_8 : fieldT Try.prog 111 8 = some (8, .one) := by kernel_rfl
@[simp] theorem ft_pl111_9 : placeT Try.prog 111 9 = some (9, 1) := by kernel_rfl
@[simp] theorem ft_fi111_9 : fieldT Try.prog 111 9 = some (9, .one) := by kernel_rfl
@[simp] theorem ft_pl111_10 : placeT Try.prog 111 10 = some (10, 1) := by kernel_rfl
@[simp] theorem ft_fi111_10 : fieldT Try.prog 111 10 = some (10, .one) := by kernel_rfl
@[simp] theorem ft_lk112 : lkT Try.prog 112 = .one := by kernel_rfl
@[simp] theorem ft_ce112 : Program.cellsOf Try.prog 112 = 1 := by kernel_rfl
@[simp] theorem ft_by112 : Program.bytesOf Try.prog 112 = 8 := by kernel_rfl
@[simp] theorem ft_ze112 : zeroAV Try.prog 112 = .sc (.pointer none) := by kernel_rfl
@[simp] theorem ft_co112 : Program.concrete Try.prog 112 = true := by kernel_rfl
end Go.Proofs.Ythbmjmdmamapiaa
