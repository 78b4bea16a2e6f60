/- Facts on the types of this seat, each reckoned by the kernel (printed by facts.py). -/
import Derived.Test.YtpekbapmnmnjoaaAwLaw
import Derived.Test.YtpekbapmnmnjoaaProg
import Derived.KernelRfl
set_option maxRecDepth 100000
namespace Go.Proofs.Ytpekbapmnmnjoaa
open Go Go.AW
@[simp] theorem ft_lk1 : lkT Try.prog 1 = .one := by kernel_rfl
@[simp] theorem ft_ce1 : Program.cellsOf Try.prog 1 = 1 := by kernel_rfl
@[simp] theorem ft_by1 : Program.bytesOf Try.prog 1 = 8 := by kernel_rfl
@[simp] theorem ft_ze1 : zeroAV Try.prog 1 = .sc .nilFunc := by kernel_rfl
@[simp] theorem ft_co1 : Program.concrete Try.prog 1 = true := by kernel_rfl
@[simp] theorem ft_lk2 : lkT Try.prog 2 = .one := by kernel_rfl
@[simp] theorem ft_ce2 : Program.cellsOf Try.prog 2 = 1 := by kernel_rfl
@[simp] theorem ft_by2 : Program.bytesOf Try.prog 2 = 8 := by kernel_rfl
@[simp] theorem ft_ze2 : zeroAV Try.prog 2 = .sc (.int .i64 0) := by kernel_rfl
@[simp] theorem ft_co2 : Program.concrete Try.prog 2 = true := by kernel_rfl
@[simp] theorem ft_lk3 : lkT Try.prog 3 = .one := by kernel_rfl
@[simp] theorem ft_ce3 : Program.cellsOf Try.prog 3 = 1 := by kernel_rfl
@[simp] theorem ft_by3 : Program.bytesOf Try.prog 3 = 8 := by kernel_rfl
@[simp] theorem ft_ze3 : zeroAV Try.prog 3 = .sc (.int .i64 0) := by kernel_rfl
@[simp] theorem ft_co3 : Program.concrete Try.prog 3 = true := by kernel_rfl
@[simp] theorem ft_lk4 : lkT Try.prog 4 = .one := by kernel_rfl
@[simp] theorem ft_ce4 : Program.cellsOf Try.prog 4 = 1 := by kernel_rfl
@[simp] theorem ft_by4 : Program.bytesOf Try.prog 4 = 1 := by kernel_rfl
@[simp] theorem ft_ze4 : zeroAV Try.prog 4 = .sc (.bool false) := by kernel_rfl
@[simp] theorem ft_co4 : Program.concrete Try.prog 4 = true := by kernel_rfl
@[simp] theorem ft_lk5 : lkT Try.prog 5 = .one := by kernel_rfl
@[simp] theorem ft_ce5 : Program.cellsOf Try.prog 5 = 1 := by kernel_rfl
@[simp] theorem ft_by5 : Program.bytesOf Try.prog 5 = 1 := by kernel_rfl
@[simp] theorem ft_ze5 : zeroAV Try.prog 5 = .sc (.int .u8 0) := by kernel_rfl
@[simp] theorem ft_co5 : Program.concrete Try.prog 5 = true := by kernel_rfl
@[simp] theorem ft_lk6 : lkT Try.prog 6 = .one := by kernel_rfl
@[simp] theorem ft_ce6 : Program.cellsOf Try.prog 6 = 1 := by kernel_rfl
@[simp] theorem ft_by6 : Program.bytesOf Try.prog 6 = 1 := by kernel_rfl
@[simp] theorem ft_ze6 : zeroAV Try.prog 6 = .sc (.int .u8 0) := by kernel_rfl
@[simp] theorem ft_co6 : Program.concrete Try.prog 6 = true := by kernel_rfl
@[simp] theorem ft_lk7 : lkT Try.prog 7 = .agg 4 := by kernel_rfl
@[simp] theorem ft_ce7 : Program.cellsOf Try.prog 7 = 4 := by kernel_rfl
@[simp] theorem ft_by7 : Program.bytesOf Try.prog 7 = 24 := by kernel_rfl
@[simp] theorem ft_ze7 : zeroAV Try.prog 7 = .agg [.sc (.int .i64 0), .sc (.int .i64 0), .sc (.bool false), .sc (.int .u8 0)] := by kernel_rfl
@[simp] theorem ft_co7 : Program.concrete Try.prog 7 = true := by kernel_rfl
@[simp] theorem ft_bu7 : buildT Try.prog 7 = true := by kernel_rfl
@[simp] theorem ft_pl7_0 : placeT Try.prog 7 0 = some (0, 1) := by kernel_rfl
@[simp] theorem ft_fi7_0 : fieldT Try.prog 7 0 = some (0, .one) := by kernel_rfl
@[simp] theorem ft_pl7_1 : placeT Try.prog 7 1 = some (1, 1) := by kernel_rfl
@[simp] theorem ft_fi7_1 : fieldT Try.prog 7 1 = some (1, .one) := by kernel_rfl
@[simp] theorem ft_pl7_2 : placeT Try.prog 7 2 = some (2, 1) := by kernel_rfl
@[simp] theorem ft_fi7_2 : fieldT Try.prog 7 2 = some (2, .one) := by kernel_rfl
@[simp] theorem ft_pl7_3 : placeT Try.prog 7 3 = some (3, 1) := by kernel_rfl
@[simp] theorem ft_fi7_3 : fieldT Try.prog 7 3 = some (3, .one) := by kernel_rfl
@[simp] theorem ft_lk8 : lkT Try.prog 8 = .agg 4 := by kernel_rfl
@[simp] theorem ft_ce8 : Program.cellsOf Try.prog 8 = 4 := by kernel_rfl
@[simp] theorem ft_by8 : Program.bytesOf Try.prog 8 = 24 := by kernel_rfl
@[simp] theorem ft_ze8 : zeroAV Try.prog 8 = .agg [.sc (.int .i64 0), .sc (.int .i64 0), .sc (.bool false), .sc (.int .u8 0)] := by kernel_rfl
@[simp] theorem ft_co8 : Program.concrete Try.prog 8 = true := by kernel_rfl
@[simp] theorem ft_bu8 : buildT Try.prog 8 = true := by kernel_rfl
@[simp] theorem ft_pl8_0 : placeT Try.prog 8 0 = some (0, 1) := by kernel_rfl
@[simp] theorem ft_fi8_0 : fieldT Try.prog 8 0 = some (0, .one) := by kernel_rfl
@[simp] theorem ft_pl8_1 : placeT Try.prog 8 1 = some (1, 1) := by kernel_rfl
@[simp] theorem ft_fi8_1 : fieldT Try.prog 8 1 = some (1, .one) := by kernel_rfl
@[simp] theorem ft_pl8_2 : placeT Try.prog 8 2 = some (2, 1) := by kernel_rfl
@[simp] theorem ft_fi8_2 : fieldT Try.prog 8 2 = some (2, .one) := by kernel_rfl
@[simp] theorem ft_pl8_3 : placeT Try.prog 8 3 = some (3, 1) := by kernel_rfl
@[simp] theorem ft_fi8_3 : fieldT Try.prog 8 3 = some (3, .one) := by kernel_rfl
@[simp] theorem ft_lk9 : lkT Try.prog 9 = .one := by kernel_rfl
@[simp] theorem ft_ce9 : Program.cellsOf Try.prog 9 = 1 := by kernel_rfl
@[simp] theorem ft_by9 : Program.bytesOf Try.prog 9 = 16 := by kernel_rfl
@[simp] theorem ft_ze9 : zeroAV Try.prog 9 = .sc (.string .empty) := by kernel_rfl
@[simp] theorem ft_co9 : Program.concrete Try.prog 9 = true := by kernel_rfl
@[simp] theorem ft_lk10 : lkT Try.prog 10 = .one := by kernel_rfl
@[simp] theorem ft_ce10 : Program.cellsOf Try.prog 10 = 1 := by kernel_rfl
@[simp] theorem ft_by10 : Program.bytesOf Try.prog 10 = 16 := by kernel_rfl
@[simp] theorem ft_ze10 : zeroAV Try.prog 10 = .sc (.string .empty) := by kernel_rfl
@[simp] theorem ft_co10 : Program.concrete Try.prog 10 = true := by kernel_rfl
@[simp] theorem ft_lk11 : lkT Try.prog 11 = .one := by kernel_rfl
@[simp] theorem ft_ce11 : Program.cellsOf Try.prog 11 = 1 := by kernel_rfl
@[simp] theorem ft_by11 : Program.bytesOf Try.prog 11 = 16 := by kernel_rfl
@[simp] theorem ft_ze11 : zeroAV Try.prog 11 = .sc (.string .empty) := by kernel_rfl
@[simp] theorem ft_co11 : Program.concrete Try.prog 11 = true := by kernel_rfl
@[simp] theorem ft_lk12 : lkT Try.prog 12 = .one := by kernel_rfl
@[simp] theorem ft_ce12 : Program.cellsOf Try.prog 12 = 1 := by kernel_rfl
@[simp] theorem ft_by12 : Program.bytesOf Try.prog 12 = 8 := by kernel_rfl
@[simp] theorem ft_ze12 : zeroAV Try.prog 12 = .sc (.int .u64 0) := by kernel_rfl
@[simp] theorem ft_co12 : Program.concrete Try.prog 12 = true := by kernel_rfl
@[simp] theorem ft_lk13 : lkT Try.prog 13 = .agg 2 := by kernel_rfl
@[simp] theorem ft_ce13 : Program.cellsOf Try.prog 13 = 2 := by kernel_rfl
@[simp] theorem ft_by13 : Program.bytesOf Try.prog 13 = 24 := by kernel_rfl
@[simp] theorem ft_ze13 : zeroAV Try.prog 13 = .agg [.sc (.string .empty), .sc (.int .u64 0)] := by kernel_rfl
@[simp] theorem ft_co13 : Program.concrete Try.prog 13 = true := by kernel_rfl
@[simp] theorem ft_bu13 : buildT Try.prog 13 = true := by kernel_rfl
@[simp] theorem ft_pl13_0 : placeT Try.prog 13 0 = some (0, 1) := by kernel_rfl
@[simp] theorem ft_fi13_0 : fieldT Try.prog 13 0 = some (0, .one) := by kernel_rfl
@[simp] theorem ft_pl13_1 : placeT Try.prog 13 1 = some (1, 1) := by kernel_rfl
@[simp] theorem ft_fi13_1 : fieldT Try.prog 13 1 = some (1, .one) := by kernel_rfl
@[simp] theorem ft_lk14 : lkT Try.prog 14 = .agg 2 := by kernel_rfl
@[simp] theorem ft_ce14 : Program.cellsOf Try.prog 14 = 2 := by kernel_rfl
@[simp] theorem ft_by14 : Program.bytesOf Try.prog 14 = 24 := by kernel_rfl
@[simp] theorem ft_ze14 : zeroAV Try.prog 14 = .agg [.sc (.string .empty), .sc (.int .u64 0)] := by kernel_rfl
@[simp] theorem ft_co14 : Program.concrete Try.prog 14 = true := by kernel_rfl
@[simp] theorem ft_bu14 : buildT Try.prog 14 = true := by kernel_rfl
@[simp] theorem ft_pl14_0 : placeT Try.prog 14 0 = some (0, 1) := by kernel_rfl
@[simp] theorem ft_fi14_0 : fieldT Try.prog 14 0 = some (0, .one) := by kernel_rfl
@[simp] theorem ft_pl14_1 : placeT Try.prog 14 1 = some (1, 1) := by kernel_rfl
@[simp] theorem ft_fi14_1 : fieldT Try.prog 14 1 = some (1, .one) := by kernel_rfl
@[simp] theorem ft_lk15 : lkT Try.prog 15 = .one := by kernel_rfl
@[simp] theorem ft_ce15 : Program.cellsOf Try.prog 15 = 1 := by kernel_rfl
@[simp] theorem ft_by15 : Program.bytesOf Try.prog 15 = 8 := by kernel_rfl
@[simp] theorem ft_ze15 : zeroAV Try.prog 15 = .sc (.pointer none) := by kernel_rfl
@[simp] theorem ft_co15 : Program.concrete Try.prog 15 = true := by kernel_rfl
@[simp] theorem ft_lk16 : lkT Try.prog 16 = .one := by kernel_rfl
@[simp] theorem ft_ce16 : Program.cellsOf Try.prog 16 = 1 := by kernel_rfl
@[simp] theorem ft_by16 : Program.bytesOf Try.prog 16 = 8 := by kernel_rfl
@[simp] theorem ft_ze16 : zeroAV Try.prog 16 = .sc (.pointer none) := by kernel_rfl
@[simp] theorem ft_co16 : Program.concrete Try.prog 16 = true := by kernel_rfl
@[simp] theorem ft_lk17 : lkT Try.prog 17 = .one := by kernel_rfl
@[simp] theorem ft_ce17 : Program.cellsOf Try.prog 17 = 1 := by kernel_rfl
@[simp] theorem ft_by17 : Program.bytesOf Try.prog 17 = 8 := by kernel_rfl
@[simp] theorem ft_ze17 : zeroAV Try.prog 17 = .sc (.pointer none) := by kernel_rfl
@[simp] theorem ft_co17 : Program.concrete Try.prog 17 = true := by kernel_rfl
@[simp] theorem ft_lk18 : lkT Try.prog 18 = .agg 1 := by kernel_rfl
@[simp] theorem ft_ce18 : Program.cellsOf Try.prog 18 = 1 := by kernel_rfl
@[simp] theorem ft_by18 : Program.bytesOf Try.prog 18 = 8 := by kernel_rfl
@[simp] theorem ft_ze18 : zeroAV Try.prog 18 = .agg [.sc (.pointer none)] := by kernel_rfl
@[simp] theorem ft_co18 : Program.concrete Try.prog 18 = true := by kernel_rfl
@[simp] theorem ft_bu18 : buildT Try.prog 18 = true := by kernel_rfl
@[simp] theorem ft_pl18_0 : placeT Try.prog 18 0 = some (0, 1) := by kernel_rfl
@[simp] theorem ft_fi18_0 : fieldT Try.prog 18 0 = some (0, .one) := by kernel_rfl
@[simp] theorem ft_lk19 : lkT Try.prog 19 = .agg 1 := by kernel_rfl
@[simp] theorem ft_ce19 : Program.cellsOf Try.prog 19 = 1 := by kernel_rfl
@[simp] theorem ft_by19 : Program.bytesOf Try.prog 19 = 8 := by kernel_rfl
@[simp] theorem ft_ze19 : zeroAV Try.prog 19 = .agg [.sc (.pointer none)] := by kernel_rfl
@[simp] theorem ft_co19 : Program.concrete Try.prog 19 = true := by kernel_rfl
@[simp] theorem ft_bu19 : buildT Try.prog 19 = true := by kernel_rfl
@[simp] theorem ft_pl19_0 : placeT Try.prog 19 0 = some (0, 1) := by kernel_rfl
@[simp] theorem ft_fi19_0 : fieldT Try.prog 19 0 = some (0, .one) := by kernel_rfl
@[simp] theorem ft_lk20 : lkT Try.prog 20 = .one := by kernel_rfl
@[simp] theorem ft_ce20 : Program.cellsOf Try.prog 20 = 1 := by kernel_rfl
@[simp] theorem ft_by20 : Program.bytesOf Try.prog 20 = 16 := by kernel_rfl
@[simp] theorem ft_ze20 : zeroAV Try.prog 20 = .sc .nilIface := by kernel_rfl
@[simp] theorem ft_lk21 : lkT Try.prog 21 = .one := by kernel_rfl
@[simp] theorem ft_ce21 : Program.cellsOf Try.prog 21 = 1 := by kernel_rfl
@[simp] theorem ft_by21 : Program.bytesOf Try.prog 21 = 4 := by kernel_rfl
@[simp] theorem ft_ze21 : zeroAV Try.prog 21 = .sc (.int .i32 0) := by kernel_rfl
@[simp] theorem ft_co21 : Program.concrete Try.prog 21 = true := by kernel_rfl
@[simp] theorem ft_lk22 : lkT Try.prog 22 = .one := by kernel_rfl
@[simp] theorem ft_ce22 : Program.cellsOf Try.prog 22 = 1 := by kernel_rfl
@[simp] theorem ft_by22 : Program.bytesOf Try.prog 22 = 24 := by kernel_rfl
@[simp] theorem ft_ze22 : zeroAV Try.prog 22 = .nilS := by kernel_rfl
@[simp] theorem ft_co22 : Program.concrete Try.prog 22 = true := by kernel_rfl
@[simp] theorem ft_sl22 : sliceT Try.prog 22 = some 69 := by kernel_rfl
@[simp] theorem ft_lk23 : lkT Try.prog 23 = .agg 2 := by kernel_rfl
@[simp] theorem ft_ce23 : Program.cellsOf Try.prog 23 = 2 := by kernel_rfl
@[simp] theorem ft_by23 : Program.bytesOf Try.prog 23 = 32 := by kernel_rfl
@[simp] theorem ft_ze23 : zeroAV Try.prog 23 = .agg [.sc (.int .i64 0), .nilS] := by kernel_rfl
@[simp] theorem ft_co23 : Program.concrete Try.prog 23 = true := by kernel_rfl
@[simp] theorem ft_bu23 : buildT Try.prog 23 = true := by kernel_rfl
@[simp] theorem ft_pl23_0 : placeT Try.prog 23 0 = some (0, 1) := by kernel_rfl
@[simp] theorem ft_fi23_0 : fieldT Try.prog 23 0 = some (0, .one) := by kernel_rfl
@[simp] theorem ft_pl23_1 : placeT Try.prog 23 1 = some (1, 1) := by kernel_rfl
@[simp] theorem ft_fi23_1 : fieldT Try.prog 23 1 = some (1, .one) := by kernel_rfl
@[simp] theorem ft_lk24 : lkT Try.prog 24 = .agg 2 := by kernel_rfl
@[simp] theorem ft_ce24 : Program.cellsOf Try.prog 24 = 2 := by kernel_rfl
@[simp] theorem ft_by24 : Program.bytesOf Try.prog 24 = 32 := by kernel_rfl
@[simp] theorem ft_ze24 : zeroAV Try.prog 24 = .agg [.sc (.int .i64 0), .nilS] := by kernel_rfl
@[simp] theorem ft_co24 : Program.concrete Try.prog 24 = true := by kernel_rfl
@[simp] theorem ft_bu24 : buildT Try.prog 24 = true := by kernel_rfl
@[simp] theorem ft_pl24_0 : placeT Try.prog 24 0 = some (0, 1) := by kernel_rfl
@[simp] theorem ft_fi24_0 : fieldT Try.prog 24 0 = some (0, .one) := by kernel_rfl
@[simp] theorem ft_pl24_1 : placeT Try.prog 24 1 = some (1, 1) := by kernel_rfl
@[simp] theorem ft_fi24_1 : fieldT Try.prog 24 1 = some (1, .one) := by kernel_rfl
@[simp] theorem ft_lk25 : lkT Try.prog 25 = .one := by kernel_rfl
@[simp] theorem ft_ce25 : Program.cellsOf Try.prog 25 = 1 := by kernel_rfl
@[simp] theorem ft_by25 : Program.bytesOf Try.prog 25 = 8 := by kernel_rfl
@[simp] theorem ft_ze25 : zeroAV Try.prog 25 = .sc .nilFunc := by kernel_rfl
@[simp] theorem ft_co25 : Program.concrete Try.prog 25 = true := by kernel_rfl
@[simp] theorem ft_lk26 : lkT Try.prog 26 = .one := by kernel_rfl
@[simp] theorem ft_ce26 : Program.cellsOf Try.prog 26 = 1 := by kernel_rfl
@[simp] theorem ft_by26 : Program.bytesOf Try.prog 26 = 8 := by kernel_rfl
@[simp] theorem ft_ze26 : zeroAV Try.prog 26 = .sc .nilFunc := by kernel_rfl
@[simp] theorem ft_co26 : Program.concrete Try.prog 26 = true := by kernel_rfl
@[simp] theorem ft_lk27 : lkT Try.prog 27 = .one := by kernel_rfl
@[simp] theorem ft_ce27 : Program.cellsOf Try.prog 27 = 1 := by kernel_rfl
@[simp] theorem ft_by27 : Program.bytesOf Try.prog 27 = 8 := by kernel_rfl
@[simp] theorem ft_ze27 : zeroAV Try.prog 27 = .sc .nilFunc := by kernel_rfl
@[simp] theorem ft_co27 : Program.concrete Try.prog 27 = true := by kernel_rfl
@[simp] theorem ft_lk28 : lkT Try.prog 28 = .one := by kernel_rfl
@[simp] theorem ft_ce28 : Program.cellsOf Try.prog 28 = 1 := by kernel_rfl
@[simp] theorem ft_by28 : Program.bytesOf Try.prog 28 = 24 := by kernel_rfl
@[simp] theorem ft_ze28 : zeroAV Try.prog 28 = .nilS := by kernel_rfl
@[simp] theorem ft_co28 : Program.concrete Try.prog 28 = true := by kernel_rfl
@[simp] theorem ft_sl28 : sliceT Try.prog 28 = some 5 := by kernel_rfl
@[simp] theorem ft_lk29 : lkT Try.prog 29 = .one := by kernel_rfl
@[simp] theorem ft_ce29 : Program.cellsOf Try.prog 29 = 1 := by kernel_rfl
@[simp] theorem ft_by29 : Program.bytesOf Try.prog 29 = 8 := by kernel_rfl
@[simp] theorem ft_ze29 : zeroAV Try.prog 29 = .sc (.int .i64 0) := by kernel_rfl
@[simp] theorem ft_co29 : Program.concrete Try.prog 29 = true := by kernel_rfl
@[simp] theorem ft_lk31 : lkT Try.prog 31 = .one := by kernel_rfl
@[simp] theorem ft_ce31 : Program.cellsOf Try.prog 31 = 1 := by kernel_rfl
@[simp] theorem ft_by31 : Program.bytesOf Try.prog 31 = 8 := by kernel_rfl
@[simp] theorem ft_ze31 : zeroAV Try.prog 31 = .sc .nilFunc := by kernel_rfl
@[simp] theorem ft_co31 : Program.concrete Try.prog 31 = true := by kernel_rfl
@[simp] theorem ft_lk33 : lkT Try.prog 33 = .one := by kernel_rfl
@[simp] theorem ft_ce33 : Program.cellsOf Try.prog 33 = 1 := by kernel_rfl
@[simp] theorem ft_by33 : Program.bytesOf Try.prog 33 = 8 := by kernel_rfl
@[simp] theorem ft_ze33 : zeroAV Try.prog 33 = .sc .nilFunc := by kernel_rfl
@[simp] theorem ft_co33 : Program.concrete Try.prog 33 = true := by kernel_rfl
@[simp] theorem ft_lk34 : lkT Try.prog 34 = .one := by kernel_rfl
@[simp] theorem ft_ce34 : Program.cellsOf Try.prog 34 = 1 := by kernel_rfl
@[simp] theorem ft_by34 : Program.bytesOf Try.prog 34 = 8 := by kernel_rfl
@[simp] theorem ft_ze34 : zeroAV Try.prog 34 = .sc .nilFunc := by kernel_rfl
@[simp] theorem ft_co34 : Program.concrete Try.prog 34 = true := by kernel_rfl
@[simp] theorem ft_lk35 : lkT Try.prog 35 = .one := by kernel_rfl
@[simp] theorem ft_ce35 : Program.cellsOf Try.prog 35 = 1 := by kernel_rfl
@[simp] theorem ft_by35 : Program.bytesOf Try.prog 35 = 8 := by kernel_rfl
@[simp] theorem ft_ze35 : zeroAV Try.prog 35 = .sc .nilFunc := by kernel_rfl
@[simp] theorem ft_co35 : Program.concrete Try.prog 35 = true := by kernel_rfl
@[simp] theorem ft_lk37 : lkT Try.prog 37 = .one := by kernel_rfl
@[simp] theorem ft_ce37 : Program.cellsOf Try.prog 37 = 1 := by kernel_rfl
@[simp] theorem ft_by37 : Program.bytesOf Try.prog 37 = 8 := by kernel_rfl
@[simp] theorem ft_ze37 : zeroAV Try.prog 37 = .sc .nilFunc := by kernel_rfl
@[simp] theorem ft_co37 : Program.concrete Try.prog 37 = true := by kernel_rfl
@[simp] theorem ft_lk39 : lkT Try.prog 39 = .one := by kernel_rfl
@[simp] theorem ft_ce39 : Program.cellsOf Try.prog 39 = 1 := by kernel_rfl
@[simp] theorem ft_by39 : Program.bytesOf Try.prog 39 = 8 := by kernel_rfl
@[simp] theorem ft_ze39 : zeroAV Try.prog 39 = .sc .nilFunc := by kernel_rfl
@[simp] theorem ft_co39 : Program.concrete Try.prog 39 = true := by kernel_rfl
@[simp] theorem ft_lk41 : lkT Try.prog 41 = .one := by kernel_rfl
@[simp] theorem ft_ce41 : Program.cellsOf Try.prog 41 = 1 := by kernel_rfl
@[simp] theorem ft_by41 : Program.bytesOf Try.prog 41 = 8 := by kernel_rfl
@[simp] theorem ft_ze41 : zeroAV Try.prog 41 = .sc .nilFunc := by kernel_rfl
@[simp] theorem ft_co41 : Program.concrete Try.prog 41 = true := by kernel_rfl
@[simp] theorem ft_lk42 : lkT Try.prog 42 = .agg 3 := by kernel_rfl
@[simp] theorem ft_ce42 : Program.cellsOf Try.prog 42 = 3 := by kernel_rfl
@[simp] theorem ft_by42 : Program.bytesOf Try.prog 42 = 24 := by kernel_rfl
@[simp] theorem ft_ze42 : zeroAV Try.prog 42 = .agg [.sc (.int .i64 0), .sc (.int .i64 0), .sc (.int .i64 0)] := by kernel_rfl
@[simp] theorem ft_co42 : Program.concrete Try.prog 42 = true := by kernel_rfl
@[simp] theorem ft_bu42 : buildT Try.prog 42 = true := by kernel_rfl
@[simp] theorem ft_pl42_0 : placeT Try.prog 42 0 = some (0, 1) := by kernel_rfl
@[simp] theorem ft_fi42_0 : fieldT Try.prog 42 0 = some (0, .one) := by kernel_rfl
@[simp] theorem ft_pl42_1 : placeT Try.prog 42 1 = some (1, 1) := by kernel_rfl
@[simp] theorem ft_fi42_1 : fieldT Try.prog 42 1 = some (1, .one) := by kernel_rfl
@[simp] theorem ft_pl42_2 : placeT Try.prog 42 2 = some (2, 1) := by kernel_rfl
@[simp] theorem ft_fi42_2 : fieldT Try.prog 42 2 = some (2, .one) := by kernel_rfl
@[simp] theorem ft_lk43 : lkT Try.prog 43 = .agg 3 := by kernel_rfl
@[simp] theorem ft_ce43 : Program.cellsOf Try.prog 43 = 3 := by kernel_rfl
@[simp] theorem ft_by43 : Program.bytesOf Try.prog 43 = 24 := by kernel_rfl
@[simp] theorem ft_ze43 : zeroAV Try.prog 43 = .agg [.sc (.int .i64 0), .sc (.int .i64 0), .sc (.int .i64 0)] := by kernel_rfl
@[simp] theorem ft_co43 : Program.concrete Try.prog 43 = true := by kernel_rfl
@[simp] theorem ft_bu43 : buildT Try.prog 43 = true := by kernel_rfl
@[simp] theorem ft_pl43_0 : placeT Try.prog 43 0 = some (0, 1) := by kernel_rfl
@[simp] theorem ft_fi43_0 : fieldT Try.prog 43 0 = some (0, .one) := by kernel_rfl
@[simp] theorem ft_pl43_1 : placeT Try.prog 43 1 = some (1, 1) := by kernel_rfl
@[simp] theorem ft_fi43_1 : fieldT Try.prog 43 1 = some (1, .one) := by kernel_rfl
@[simp] theorem ft_pl43_2 : placeT Try.prog 43 2 = some (2, 1) := by kernel_rfl
@[simp] theorem ft_fi43_2 : fieldT Try.prog 43 2 = some (2, .one) := by kernel_rfl
@[simp] theorem ft_lk44 : lkT Try.prog 44 = .one := by kernel_rfl
@[simp] theorem ft_ce44 : Program.cellsOf Try.prog 44 = 1 := by kernel_rfl
@[simp] theorem ft_by44 : Program.bytesOf Try.prog 44 = 8 := by kernel_rfl
@[simp] theorem ft_ze44 : zeroAV Try.prog 44 = .sc .nilFunc := by kernel_rfl
@[simp] theorem ft_co44 : Program.concrete Try.prog 44 = true := by kernel_rfl
@[simp] theorem ft_lk45 : lkT Try.prog 45 = .one := by kernel_rfl
@[simp] theorem ft_ce45 : Program.cellsOf Try.prog 45 = 1 := by kernel_rfl
@[simp] theorem ft_by45 : Program.bytesOf Try.prog 45 = 8 := by kernel_rfl
@[simp] theorem ft_ze45 : zeroAV Try.prog 45 = .sc .nilFunc := by kernel_rfl
@[simp] theorem ft_co45 : Program.concrete Try.prog 45 = true := by kernel_rfl
@[simp] theorem ft_lk46 : lkT Try.prog 46 = .one := by kernel_rfl
@[simp] theorem ft_ce46 : Program.cellsOf Try.prog 46 = 1 := by kernel_rfl
@[simp] theorem ft_by46 : Program.bytesOf Try.prog 46 = 8 := by kernel_rfl
@[simp] theorem ft_ze46 : zeroAV Try.prog 46 = .sc .nilFunc := by kernel_rfl
@[simp] theorem ft_co46 : Program.concrete Try.prog 46 = true := by kernel_rfl
@[simp] theorem ft_lk47 : lkT Try.prog 47 = .agg 4 := by kernel_rfl
@[simp] theorem ft_ce47 : Program.cellsOf Try.prog 47 = 4 := by kernel_rfl
@[simp] theorem ft_by47 : Program.bytesOf Try.prog 47 = 96 := by kernel_rfl
@[simp] theorem ft_ze47 : zeroAV Try.prog 47 = .agg [.nilS, .nilS, .nilS, .nilS] := by kernel_rfl
@[simp] theorem ft_co47 : Program.concrete Try.prog 47 = true := by kernel_rfl
@[simp] theorem ft_bu47 : buildT Try.prog 47 = true := by kernel_rfl
@[simp] theorem ft_pl47_0 : placeT Try.prog 47 0 = some (0, 1) := by kernel_rfl
@[simp] theorem ft_fi47_0 : fieldT Try.prog 47 0 = some (0, .one) := by kernel_rfl
@[simp] theorem ft_pl47_1 : placeT Try.prog 47 1 = some (1, 1) := by kernel_rfl
@[simp] theorem ft_fi47_1 : fieldT Try.prog 47 1 = some (1, .one) := by kernel_rfl
@[simp] theorem ft_pl47_2 : placeT Try.prog 47 2 = some (2, 1) := by kernel_rfl
@[simp] theorem ft_fi47_2 : fieldT Try.prog 47 2 = some (2, .one) := by kernel_rfl
@[simp] theorem ft_pl47_3 : placeT Try.prog 47 3 = some (3, 1) := by kernel_rfl
@[simp] theorem ft_fi47_3 : fieldT Try.prog 47 3 = some (3, .one) := by kernel_rfl
@[simp] theorem ft_lk48 : lkT Try.prog 48 = .agg 4 := by kernel_rfl
@[simp] theorem ft_ce48 : Program.cellsOf Try.prog 48 = 4 := by kernel_rfl
@[simp] theorem ft_by48 : Program.bytesOf Try.prog 48 = 96 := by kernel_rfl
@[simp] theorem ft_ze48 : zeroAV Try.prog 48 = .agg [.nilS, .nilS, .nilS, .nilS] := by kernel_rfl
@[simp] theorem ft_co48 : Program.concrete Try.prog 48 = true := by kernel_rfl
@[simp] theorem ft_bu48 : buildT Try.prog 48 = true := by kernel_rfl
@[simp] theorem ft_pl48_0 : placeT Try.prog 48 0 = some (0, 1) := by kernel_rfl
@[simp] theorem ft_fi48_0 : fieldT Try.prog 48 0 = some (0, .one) := by kernel_rfl
@[simp] theorem ft_pl48_1 : placeT Try.prog 48 1 = some (1, 1) := by kernel_rfl
@[simp] theorem ft_fi48_1 : fieldT Try.prog 48 1 = some (1, .one) := by kernel_rfl
@[simp] theorem ft_pl48_2 : placeT Try.prog 48 2 = some (2, 1) := by kernel_rfl
@[simp] theorem ft_fi48_2 : fieldT Try.prog 48 2 = some (2, .one) := by kernel_rfl
@[simp] theorem ft_pl48_3 : placeT Try.prog 48 3 = some (3, 1) := by kernel_rfl
@[simp] theorem ft_fi48_3 : fieldT Try.prog 48 3 = some (3, .one) := by kernel_rfl
@[simp] theorem ft_lk50 : lkT Try.prog 50 = .one := by kernel_rfl
@[simp] theorem ft_ce50 : Program.cellsOf Try.prog 50 = 1 := by kernel_rfl
@[simp] theorem ft_by50 : Program.bytesOf Try.prog 50 = 8 := by kernel_rfl
@[simp] theorem ft_ze50 : zeroAV Try.prog 50 = .sc .nilFunc := by kernel_rfl
@[simp] theorem ft_co50 : Program.concrete Try.prog 50 = true := by kernel_rfl
@[simp] theorem ft_lk51 : lkT Try.prog 51 = .agg 6 := by kernel_rfl
@[simp] theorem ft_ce51 : Program.cellsOf Try.prog 51 = 6 := by kernel_rfl
@[simp] theorem ft_by51 : Program.bytesOf Try.prog 51 = 112 := by kernel_rfl
@[simp] theorem ft_ze51 : zeroAV Try.prog 51 = .agg [.nilS, .nilS, .nilS, .nilS, .sc (.int .i64 0), .sc (.int .i64 0)] := by kernel_rfl
@[simp] theorem ft_co51 : Program.concrete Try.prog 51 = true := by kernel_rfl
@[simp] theorem ft_bu51 : buildT Try.prog 51 = true := by kernel_rfl
@[simp] theorem ft_pl51_0 : placeT Try.prog 51 0 = some (0, 4) := by kernel_rfl
@[simp] theorem ft_fi51_0 : fieldT Try.prog 51 0 = some (0, .agg 4) := by kernel_rfl
@[simp] theorem ft_pl51_1 : placeT Try.prog 51 1 = some (4, 1) := by kernel_rfl
@[simp] theorem ft_fi51_1 : fieldT Try.prog 51 1 = some (4, .one) := by kernel_rfl
@[simp] theorem ft_pl51_2 : placeT Try.prog 51 2 = some (5, 1) := by kernel_rfl
@[simp] theorem ft_fi51_2 : fieldT Try.prog 51 2 = some (5, .one) := by kernel_rfl
@[simp] theorem ft_lk52 : lkT Try.prog 52 = .agg 6 := by kernel_rfl
@[simp] theorem ft_ce52 : Program.cellsOf Try.prog 52 = 6 := by kernel_rfl
@[simp] theorem ft_by52 : Program.bytesOf Try.prog 52 = 112 := by kernel_rfl
@[simp] theorem ft_ze52 : zeroAV Try.prog 52 = .agg [.nilS, .nilS, .nilS, .nilS, .sc (.int .i64 0), .sc (.int .i64 0)] := by kernel_rfl
@[simp] theorem ft_co52 : Program.concrete Try.prog 52 = true := by kernel_rfl
@[simp] theorem ft_bu52 : buildT Try.prog 52 = true := by kernel_rfl
@[simp] theorem ft_pl52_0 : placeT Try.prog 52 0 = some (0, 4) := by kernel_rfl
@[simp] theorem ft_fi52_0 : fieldT Try.prog 52 0 = some (0, .agg 4) := by kernel_rfl
@[simp] theorem ft_pl52_1 : placeT Try.prog 52 1 = some (4, 1) := by kernel_rfl
@[simp] theorem ft_fi52_1 : fieldT Try.prog 52 1 = some (4, .one) := by kernel_rfl
@[simp] theorem ft_pl52_2 : placeT Try.prog 52 2 = some (5, 1) := by kernel_rfl
@[simp] theorem ft_fi52_2 : fieldT Try.prog 52 2 = some (5, .one) := by kernel_rfl
@[simp] theorem ft_lk53 : lkT Try.prog 53 = .one := by kernel_rfl
@[simp] theorem ft_ce53 : Program.cellsOf Try.prog 53 = 1 := by kernel_rfl
@[simp] theorem ft_by53 : Program.bytesOf Try.prog 53 = 8 := by kernel_rfl
@[simp] theorem ft_ze53 : zeroAV Try.prog 53 = .sc .nilFunc := by kernel_rfl
@[simp] theorem ft_co53 : Program.concrete Try.prog 53 = true := by kernel_rfl
@[simp] theorem ft_lk54 : lkT Try.prog 54 = .one := by kernel_rfl
@[simp] theorem ft_ce54 : Program.cellsOf Try.prog 54 = 1 := by kernel_rfl
@[simp] theorem ft_by54 : Program.bytesOf Try.prog 54 = 8 := by kernel_rfl
@[simp] theorem ft_ze54 : zeroAV Try.prog 54 = .sc .nilFunc := by kernel_rfl
@[simp] theorem ft_co54 : Program.concrete Try.prog 54 = true := by kernel_rfl
@[simp] theorem ft_lk55 : lkT Try.prog 55 = .one := by kernel_rfl
@[simp] theorem ft_ce55 : Program.cellsOf Try.prog 55 = 1 := by kernel_rfl
@[simp] theorem ft_by55 : Program.bytesOf Try.prog 55 = 8 := by kernel_rfl
@[simp] theorem ft_ze55 : zeroAV Try.prog 55 = .sc .nilFunc := by kernel_rfl
@[simp] theorem ft_co55 : Program.concrete Try.prog 55 = true := by kernel_rfl
@[simp] theorem ft_lk56 : lkT Try.prog 56 = .one := by kernel_rfl
@[simp] theorem ft_ce56 : Program.cellsOf Try.prog 56 = 1 := by kernel_rfl
@[simp] theorem ft_by56 : Program.bytesOf Try.prog 56 = 8 := by kernel_rfl
@[simp] theorem ft_ze56 : zeroAV Try.prog 56 = .sc .nilFunc := by kernel_rfl
@[simp] theorem ft_co56 : Program.concrete Try.prog 56 = true := by kernel_rfl
@[simp] theorem ft_lk57 : lkT Try.prog 57 = .one := by kernel_rfl
@[simp] theorem ft_ce57 : Program.cellsOf Try.prog 57 = 1 := by kernel_rfl
@[simp] theorem ft_by57 : Program.bytesOf Try.prog 57 = 8 := by kernel_rfl
@[simp] theorem ft_ze57 : zeroAV Try.prog 57 = .sc .nilFunc := by kernel_rfl
@[simp] theorem ft_co57 : Program.concrete Try.prog 57 = true := by kernel_rfl
@[simp] theorem ft_lk58 : lkT Try.prog 58 = .one := by kernel_rfl
@[simp] theorem ft_ce58 : Program.cellsOf Try.prog 58 = 1 := by kernel_rfl
@[simp] theorem ft_by58 : Program.bytesOf Try.prog 58 = 8 := by kernel_rfl
@[simp] theorem ft_ze58 : zeroAV Try.prog 58 = .sc .nilFunc := by kernel_rfl
@[simp] theorem ft_co58 : Program.concrete Try.prog 58 = true := by kernel_rfl
@[simp] theorem ft_lk59 : lkT Try.prog 59 = .one := by kernel_rfl
@[simp] theorem ft_ce59 : Program.cellsOf Try.prog 59 = 1 := by kernel_rfl
@[simp] theorem ft_by59 : Program.bytesOf Try.prog 59 = 8 := by kernel_rfl
@[simp] theorem ft_ze59 : zeroAV Try.prog 59 = .sc .nilFunc := by kernel_rfl
@[simp] theorem ft_co59 : Program.concrete Try.prog 59 = true := by kernel_rfl
@[simp] theorem ft_lk60 : lkT Try.prog 60 = .one := by kernel_rfl
@[simp] theorem ft_ce60 : Program.cellsOf Try.prog 60 = 1 := by kernel_rfl
@[simp] theorem ft_by60 : Program.bytesOf Try.prog 60 = 2 := by kernel_rfl
@[simp] theorem ft_ze60 : zeroAV Try.prog 60 = .sc (.int .u16 0) := by kernel_rfl
@[simp] theorem ft_co60 : Program.concrete Try.prog 60 = true := by kernel_rfl
@[simp] theorem ft_lk61 : lkT Try.prog 61 = .one := by kernel_rfl
@[simp] theorem ft_ce61 : Program.cellsOf Try.prog 61 = 1 := by kernel_rfl
@[simp] theorem ft_by61 : Program.bytesOf Try.prog 61 = 8 := by kernel_rfl
@[simp] theorem ft_ze61 : zeroAV Try.prog 61 = .sc .nilFunc := by kernel_rfl
@[simp] theorem ft_co61 : Program.concrete Try.prog 61 = true := by kernel_rfl
@[simp] theorem ft_lk62 : lkT Try.prog 62 = .agg 4 := by kernel_rfl
@[simp] theorem ft_ce62 : Program.cellsOf Try.prog 62 = 4 := by kernel_rfl
@[simp] theorem ft_by62 : Program.bytesOf Try.prog 62 = 96 := by kernel_rfl
@[simp] theorem ft_ze62 : zeroAV Try.prog 62 = .agg [.nilS, .nilS, .nilS, .nilS] := by kernel_rfl
@[simp] theorem ft_co62 : Program.concrete Try.prog 62 = true := by kernel_rfl
@[simp] theorem ft_ar62 : arrT Try.prog 62 = some (4, 28) := by kernel_rfl
@[simp] theorem ft_pl62 : ∀ i, placeT Try.prog 62 i = some (i * 1, 1) := fun i => by kernel_rfl
@[simp] theorem ft_bu62 : buildT Try.prog 62 = true := by kernel_rfl
@[simp] theorem ft_lk63 : lkT Try.prog 63 = .one := by kernel_rfl
@[simp] theorem ft_ce63 : Program.cellsOf Try.prog 63 = 1 := by kernel_rfl
@[simp] theorem ft_by63 : Program.bytesOf Try.prog 63 = 8 := by kernel_rfl
@[simp] theorem ft_ze63 : zeroAV Try.prog 63 = .sc .nilFunc := by kernel_rfl
@[simp] theorem ft_co63 : Program.concrete Try.prog 63 = true := by kernel_rfl
@[simp] theorem ft_lk65 : lkT Try.prog 65 = .one := by kernel_rfl
@[simp] theorem ft_ce65 : Program.cellsOf Try.prog 65 = 1 := by kernel_rfl
@[simp] theorem ft_by65 : Program.bytesOf Try.prog 65 = 8 := by kernel_rfl
@[simp] theorem ft_ze65 : zeroAV Try.prog 65 = .sc .nilFunc := by kernel_rfl
@[simp] theorem ft_co65 : Program.concrete Try.prog 65 = true := by kernel_rfl
@[simp] theorem ft_lk66 : lkT Try.prog 66 = .agg 4 := by kernel_rfl
@[simp] theorem ft_ce66 : Program.cellsOf Try.prog 66 = 4 := by kernel_rfl
@[simp] theorem ft_by66 : Program.bytesOf Try.prog 66 = 48 := by kernel_rfl
@[simp] theorem ft_ze66 : zeroAV Try.prog 66 = .agg [.sc (.int .i64 0), .nilS, .sc (.int .i64 0), .sc (.int .i64 0)] := by kernel_rfl
@[simp] theorem ft_co66 : Program.concrete Try.prog 66 = true := by kernel_rfl
@[simp] theorem ft_bu66 : buildT Try.prog 66 = true := by kernel_rfl
@[simp] theorem ft_pl66_0 : placeT Try.prog 66 0 = some (0, 2) := by kernel_rfl
@[simp] theorem ft_fi66_0 : fieldT Try.prog 66 0 = some (0, .agg 2) := by kernel_rfl
@[simp] theorem ft_pl66_1 : placeT Try.prog 66 1 = some (2, 1) := by kernel_rfl
@[simp] theorem ft_fi66_1 : fieldT Try.prog 66 1 = some (2, .one) := by kernel_rfl
@[simp] theorem ft_pl66_2 : placeT Try.prog 66 2 = some (3, 1) := by kernel_rfl
@[simp] theorem ft_fi66_2 : fieldT Try.prog 66 2 = some (3, .one) := by kernel_rfl
@[simp] theorem ft_lk67 : lkT Try.prog 67 = .agg 4 := by kernel_rfl
@[simp] theorem ft_ce67 : Program.cellsOf Try.prog 67 = 4 := by kernel_rfl
@[simp] theorem ft_by67 : Program.bytesOf Try.prog 67 = 48 := by kernel_rfl
@[simp] theorem ft_ze67 : zeroAV Try.prog 67 = .agg [.sc (.int .i64 0), .nilS, .sc (.int .i64 0), .sc (.int .i64 0)] := by kernel_rfl
@[simp] theorem ft_co67 : Program.concrete Try.prog 67 = true := by kernel_rfl
@[simp] theorem ft_bu67 : buildT Try.prog 67 = true := by kernel_rfl
@[simp] theorem ft_pl67_0 : placeT Try.prog 67 0 = some (0, 2) := by kernel_rfl
@[simp] theorem ft_fi67_0 : fieldT Try.prog 67 0 = some (0, .agg 2) := by kernel_rfl
@[simp] theorem ft_pl67_1 : placeT Try.prog 67 1 = some (2, 1) := by kernel_rfl
@[simp] theorem ft_fi67_1 : fieldT Try.prog 67 1 = some (2, .one) := by kernel_rfl
@[simp] theorem ft_pl67_2 : placeT Try.prog 67 2 = some (3, 1) := by kernel_rfl
@[simp] theorem ft_fi67_2 : fieldT Try.prog 67 2 = some (3, .one) := by kernel_rfl
@[simp] theorem ft_lk68 : lkT Try.prog 68 = .one := by kernel_rfl
@[simp] theorem ft_ce68 : Program.cellsOf Try.prog 68 = 1 := by kernel_rfl
@[simp] theorem ft_by68 : Program.bytesOf Try.prog 68 = 8 := by kernel_rfl
@[simp] theorem ft_ze68 : zeroAV Try.prog 68 = .sc .nilFunc := by kernel_rfl
@[simp] theorem ft_co68 : Program.concrete Try.prog 68 = true := by kernel_rfl
@[simp] theorem ft_lk69 : lkT Try.prog 69 = .one := by kernel_rfl
@[simp] theorem ft_ce69 : Program.cellsOf Try.prog 69 = 1 := by kernel_rfl
@[simp] theorem ft_by69 : Program.bytesOf Try.prog 69 = 24 := by kernel_rfl
@[simp] theorem ft_ze69 : zeroAV Try.prog 69 = .nilS := by kernel_rfl
@[simp] theorem ft_co69 : Program.concrete Try.prog 69 = true := by kernel_rfl
@[simp] theorem ft_sl69 : sliceT Try.prog 69 = some 70 := by kernel_rfl
@[simp] theorem ft_lk70 : lkT Try.prog 70 = .one := by kernel_rfl
@[simp] theorem ft_ce70 : Program.cellsOf Try.prog 70 = 1 := by kernel_rfl
@[simp] theorem ft_by70 : Program.bytesOf Try.prog 70 = 24 := by kernel_rfl
@[simp] theorem ft_ze70 : zeroAV Try.prog 70 = .nilS := by kernel_rfl
@[simp] theorem ft_co70 : Program.concrete Try.prog 70 = true := by kernel_rfl
@[simp] theorem ft_sl70 : sliceT Try.prog 70 = some 3 := by kernel_rfl
@[simp] theorem ft_lk71 : lkT Try.prog 71 = .one := by kernel_rfl
@[simp] theorem ft_ce71 : Program.cellsOf Try.prog 71 = 1 := by kernel_rfl
@[simp] theorem ft_by71 : Program.bytesOf Try.prog 71 = 8 := by kernel_rfl
@[simp] theorem ft_ze71 : zeroAV Try.prog 71 = .sc (.pointer none) := by kernel_rfl
@[simp] theorem ft_co71 : Program.concrete Try.prog 71 = true := by kernel_rfl
@[simp] theorem ft_lk72 : lkT Try.prog 72 = .one := by kernel_rfl
@[simp] theorem ft_ce72 : Program.cellsOf Try.prog 72 = 1 := by kernel_rfl
@[simp] theorem ft_by72 : Program.bytesOf Try.prog 72 = 8 := by kernel_rfl
@[simp] theorem ft_ze72 : zeroAV Try.prog 72 = .sc .nilFunc := by kernel_rfl
@[simp] theorem ft_co72 : Program.concrete Try.prog 72 = true := by kernel_rfl
@[simp] theorem ft_lk73 : lkT Try.prog 73 = .one := by kernel_rfl
@[simp] theorem ft_ce73 : Program.cellsOf Try.prog 73 = 1 := by kernel_rfl
@[simp] theorem ft_by73 : Program.bytesOf Try.prog 73 = 8 := by kernel_rfl
@[simp] theorem ft_ze73 : zeroAV Try.prog 73 = .sc .nilFunc := by kernel_rfl
@[simp] theorem ft_co73 : Program.concrete Try.prog 73 = true := by kernel_rfl
@[simp] theorem ft_lk74 : lkT Try.prog 74 = .one := by kernel_rfl
@[simp] theorem ft_ce74 : Program.cellsOf Try.prog 74 = 1 := by kernel_rfl
@[simp] theorem ft_by74 : Program.bytesOf Try.prog 74 = 8 := by kernel_rfl
@[simp] theorem ft_ze74 : zeroAV Try.prog 74 = .sc (.int .u64 0) := by kernel_rfl
@[simp] theorem ft_co74 : Program.concrete Try.prog 74 = true := by kernel_rfl
@[simp] theorem ft_lk75 : lkT Try.prog 75 = .one := by kernel_rfl
@[simp] theorem ft_ce75 : Program.cellsOf Try.prog 75 = 1 := by kernel_rfl
@[simp] theorem ft_by75 : Program.bytesOf Try.prog 75 = 8 := by kernel_rfl
@[simp] theorem ft_ze75 : zeroAV Try.prog 75 = .sc .nilFunc := by kernel_rfl
@[simp] theorem ft_co75 : Program.concrete Try.prog 75 = true := by kernel_rfl
@[simp] theorem ft_lk76 : lkT Try.prog 76 = .one := by kernel_rfl
@[simp] theorem ft_ce76 : Program.cellsOf Try.prog 76 = 1 := by kernel_rfl
@[simp] theorem ft_by76 : Program.bytesOf Try.prog 76 = 8 := by kernel_rfl
@[simp] theorem ft_ze76 : zeroAV Try.prog 76 = .sc .nilFunc := by kernel_rfl
@[simp] theorem ft_co76 : Program.concrete Try.prog 76 = true := by kernel_rfl
@[simp] theorem ft_lk77 : lkT Try.prog 77 = .one := by kernel_rfl
@[simp] theorem ft_ce77 : Program.cellsOf Try.prog 77 = 1 := by kernel_rfl
@[simp] theorem ft_by77 : Program.bytesOf Try.prog 77 = 8 := by kernel_rfl
@[simp] theorem ft_ze77 : zeroAV Try.prog 77 = .sc .nilFunc := by kernel_rfl
@[simp] theorem ft_co77 : Program.concrete Try.prog 77 = true := by kernel_rfl
@[simp] theorem ft_lk78 : lkT Try.prog 78 = .one := by kernel_rfl
@[simp] theorem ft_ce78 : Program.cellsOf Try.prog 78 = 1 := by kernel_rfl
@[simp] theorem ft_by78 : Program.bytesOf Try.prog 78 = 8 := by kernel_rfl
@[simp] theorem ft_ze78 : zeroAV Try.prog 78 = .sc .nilFunc := by kernel_rfl
@[simp] theorem ft_co78 : Program.concrete Try.prog 78 = true := by kernel_rfl
@[simp] theorem ft_lk79 : lkT Try.prog 79 = .one := by kernel_rfl
@[simp] theorem ft_ce79 : Program.cellsOf Try.prog 79 = 1 := by kernel_rfl
@[simp] theorem ft_by79 : Program.bytesOf Try.prog 79 = 8 := by kernel_rfl
@[simp] theorem ft_ze79 : zeroAV Try.prog 79 = .sc .nilFunc := by kernel_rfl
@[simp] theorem ft_co79 : Program.concrete Try.prog 79 = true := by kernel_rfl
@[simp] theorem ft_lk80 : lkT Try.prog 80 = .one := by kernel_rfl
@[simp] theorem ft_ce80 : Program.cellsOf Try.prog 80 = 1 := by kernel_rfl
@[simp] theorem ft_by80 : Program.bytesOf Try.prog 80 = 8 := by kernel_rfl
@[simp] theorem ft_ze80 : zeroAV Try.prog 80 = .sc .nilFunc := by kernel_rfl
@[simp] theorem ft_co80 : Program.concrete Try.prog 80 = true := by kernel_rfl
@[simp] theorem ft_lk81 : lkT Try.prog 81 = .one := by kernel_rfl
@[simp] theorem ft_ce81 : Program.cellsOf Try.prog 81 = 1 := by kernel_rfl
@[simp] theorem ft_by81 : Program.bytesOf Try.prog 81 = 8 := by kernel_rfl
@[simp] theorem ft_ze81 : zeroAV Try.prog 81 = .sc (.int .u64 0) := by kernel_rfl
@[simp] theorem ft_co81 : Program.concrete Try.prog 81 = true := by kernel_rfl
@[simp] theorem ft_lk82 : lkT Try.prog 82 = .one := by kernel_rfl
@[simp] theorem ft_ce82 : Program.cellsOf Try.prog 82 = 1 := by kernel_rfl
@[simp] theorem ft_by82 : Program.bytesOf Try.prog 82 = 8 := by kernel_rfl
@[simp] theorem ft_ze82 : zeroAV Try.prog 82 = .sc (.pointer none) := by kernel_rfl
@[simp] theorem ft_co82 : Program.concrete Try.prog 82 = true := by kernel_rfl
@[simp] theorem ft_lk83 : lkT Try.prog 83 = .one := by kernel_rfl
@[simp] theorem ft_ce83 : Program.cellsOf Try.prog 83 = 1 := by kernel_rfl
@[simp] theorem ft_by83 : Program.bytesOf Try.prog 83 = 8 := by kernel_rfl
@[simp] theorem ft_ze83 : zeroAV Try.prog 83 = .sc .nilFunc := by kernel_rfl
@[simp] theorem ft_co83 : Program.concrete Try.prog 83 = true := by kernel_rfl
@[simp] theorem ft_lk84 : lkT Try.prog 84 = .one := by kernel_rfl
@[simp] theorem ft_ce84 : Program.cellsOf Try.prog 84 = 1 := by kernel_rfl
@[simp] theorem ft_by84 : Program.bytesOf Try.prog 84 = 8 := by kernel_rfl
@[simp] theorem ft_ze84 : zeroAV Try.prog 84 = .sc .nilFunc := by kernel_rfl
@[simp] theorem ft_co84 : Program.concrete Try.prog 84 = true := by kernel_rfl
@[simp] theorem ft_lk85 : lkT Try.prog 85 = .agg 2 := by kernel_rfl
@[simp] theorem ft_ce85 : Program.cellsOf Try.prog 85 = 2 := by kernel_rfl
@[simp] theorem ft_by85 : Program.bytesOf Try.prog 85 = 16 := by kernel_rfl
@[simp] theorem ft_ze85 : zeroAV Try.prog 85 = .agg [.sc (.int .u64 0), .sc (.int .u64 0)] := by kernel_rfl
@[simp] theorem ft_co85 : Program.concrete Try.prog 85 = true := by kernel_rfl
@[simp] theorem ft_ar85 : arrT Try.prog 85 = some (2, 74) := by kernel_rfl
@[simp] theorem ft_pl85 : ∀ i, placeT Try.prog 85 i = some (i * 1, 1) := fun i => by kernel_rfl
@[simp] theorem ft_bu85 : buildT Try.prog 85 = true := by kernel_rfl
@[simp] theorem ft_lk86 : lkT Try.prog 86 = .one := by kernel_rfl
@[simp] theorem ft_ce86 : Program.cellsOf Try.prog 86 = 1 := by kernel_rfl
@[simp] theorem ft_by86 : Program.bytesOf Try.prog 86 = 8 := by kernel_rfl
@[simp] theorem ft_ze86 : zeroAV Try.prog 86 = .sc .nilFunc := by kernel_rfl
@[simp] theorem ft_co86 : Program.concrete Try.prog 86 = true := by kernel_rfl
@[simp] theorem ft_lk88 : lkT Try.prog 88 = .one := by kernel_rfl
@[simp] theorem ft_ce88 : Program.cellsOf Try.prog 88 = 1 := by kernel_rfl
@[simp] theorem ft_by88 : Program.bytesOf Try.prog 88 = 8 := by kernel_rfl
@[simp] theorem ft_ze88 : zeroAV Try.prog 88 = .sc .nilFunc := by kernel_rfl
@[simp] theorem ft_co88 : Program.concrete Try.prog 88 = true := by kernel_rfl
@[simp] theorem ft_lk89 : lkT Try.prog 89 = .one := by kernel_rfl
@[simp] theorem ft_ce89 : Program.cellsOf Try.prog 89 = 1 := by kernel_rfl
@[simp] theorem ft_by89 : Program.bytesOf Try.prog 89 = 8 := by kernel_rfl
@[simp] theorem ft_ze89 : zeroAV Try.prog 89 = .sc (.map none) := by kernel_rfl
@[simp] theorem ft_co89 : Program.concrete Try.prog 89 = true := by kernel_rfl
@[simp] theorem ft_lk90 : lkT Try.prog 90 = .agg 4 := by kernel_rfl
@[simp] theorem ft_ce90 : Program.cellsOf Try.prog 90 = 4 := by kernel_rfl
@[simp] theorem ft_by90 : Program.bytesOf Try.prog 90 = 96 := by kernel_rfl
@[simp] theorem ft_ze90 : zeroAV Try.prog 90 = .agg [.nilS, .nilS, .nilS, .nilS] := by kernel_rfl
@[simp] theorem ft_co90 : Program.concrete Try.prog 90 = true := by kernel_rfl
@[simp] theorem ft_bu90 : buildT Try.prog 90 = true := by kernel_rfl
@[simp] theorem ft_pl90_0 : placeT Try.prog 90 0 = some (0, 1) := by kernel_rfl
@[simp] theorem ft_fi90_0 : fieldT Try.prog 90 0 = some (0, .one) := by kernel_rfl
@[simp] theorem ft_pl90_1 : placeT Try.prog 90 1 = some (1, 1) := by kernel_rfl
@[simp] theorem ft_fi90_1 : fieldT Try.prog 90 1 = some (1, .one) := by kernel_rfl
@[simp] theorem ft_pl90_2 : placeT Try.prog 90 2 = some (2, 1) := by kernel_rfl
@[simp] theorem ft_fi90_2 : fieldT Try.prog 90 2 = some (2, .one) := by kernel_rfl
@[simp] theorem ft_pl90_3 : placeT Try.prog 90 3 = some (3, 1) := by kernel_rfl
@[simp] theorem ft_fi90_3 : fieldT Try.prog 90 3 = some (3, .one) := by kernel_rfl
@[simp] theorem ft_lk91 : lkT Try.prog 91 = .agg 2 := by kernel_rfl
@[simp] theorem ft_ce91 : Program.cellsOf Try.prog 91 = 2 := by kernel_rfl
@[simp] theorem ft_by91 : Program.bytesOf Try.prog 91 = 16 := by kernel_rfl
@[simp] theorem ft_ze91 : zeroAV Try.prog 91 = .agg [.sc (.int .i64 0), .sc (.int .i64 0)] := by kernel_rfl
@[simp] theorem ft_co91 : Program.concrete Try.prog 91 = true := by kernel_rfl
@[simp] theorem ft_bu91 : buildT Try.prog 91 = true := by kernel_rfl
@[simp] theorem ft_pl91_0 : placeT Try.prog 91 0 = some (0, 1) := by kernel_rfl
@[simp] theorem ft_fi91_0 : fieldT Try.prog 91 0 = some (0, .one) := by kernel_rfl
@[simp] theorem ft_pl91_1 : placeT Try.prog 91 1 = some (1, 1) := by kernel_rfl
@[simp] theorem ft_fi91_1 : fieldT Try.prog 91 1 = some (1, .one) := by kernel_rfl
@[simp] theorem ft_lk92 : lkT Try.prog 92 = .agg 2 := by kernel_rfl
@[simp] theorem ft_ce92 : Program.cellsOf Try.prog 92 = 2 := by kernel_rfl
@[simp] theorem ft_by92 : Program.bytesOf Try.prog 92 = 16 := by kernel_rfl
@[simp] theorem ft_ze92 : zeroAV Try.prog 92 = .agg [.sc (.int .i64 0), .sc (.int .i64 0)] := by kernel_rfl
@[simp] theorem ft_co92 : Program.concrete Try.prog 92 = true := by kernel_rfl
@[simp] theorem ft_bu92 : buildT Try.prog 92 = true := by kernel_rfl
@[simp] theorem ft_pl92_0 : placeT Try.prog 92 0 = some (0, 1) := by kernel_rfl
@[simp] theorem ft_fi92_0 : fieldT Try.prog 92 0 = some (0, .one) := by kernel_rfl
@[simp] theorem ft_pl92_1 : placeT Try.prog 92 1 = some (1, 1) := by kernel_rfl
@[simp] theorem ft_fi92_1 : fieldT Try.prog 92 1 = some (1, .one) := by kernel_rfl
@[simp] theorem ft_lk94 : lkT Try.prog 94 = .one := by kernel_rfl
@[simp] theorem ft_ce94 : Program.cellsOf Try.prog 94 = 1 := by kernel_rfl
@[simp] theorem ft_by94 : Program.bytesOf Try.prog 94 = 8 := by kernel_rfl
@[simp] theorem ft_ze94 : zeroAV Try.prog 94 = .sc .nilFunc := by kernel_rfl
@[simp] theorem ft_co94 : Program.concrete Try.prog 94 = true := by kernel_rfl
@[simp] theorem ft_lk95 : lkT Try.prog 95 = .one := by kernel_rfl
@[simp] theorem ft_ce95 : Program.cellsOf Try.prog 95 = 1 := by kernel_rfl
@[simp] theorem ft_by95 : Program.bytesOf Try.prog 95 = 8 := by kernel_rfl
@[simp] theorem ft_ze95 : zeroAV Try.prog 95 = .sc .nilFunc := by kernel_rfl
@[simp] theorem ft_co95 : Program.concrete Try.prog 95 = true := by kernel_rfl
@[simp] theorem ft_lk96 : lkT Try.prog 96 = .one := by kernel_rfl
@[simp] theorem ft_ce96 : Program.cellsOf Try.prog 96 = 1 := by kernel_rfl
@[simp] theorem ft_by96 : Program.bytesOf Try.prog 96 = 8 := by kernel_rfl
@[simp] theorem ft_ze96 : zeroAV Try.prog 96 = .sc .nilFunc := by kernel_rfl
@[simp] theorem ft_co96 : Program.concrete Try.prog 96 = true := by kernel_rfl
@[simp] theorem ft_lk97 : lkT Try.prog 97 = .one := by kernel_rfl
@[simp] theorem ft_ce97 : Program.cellsOf Try.prog 97 = 1 := by kernel_rfl
@[simp] theorem ft_by97 : Program.bytesOf Try.prog 97 = 8 := by kernel_rfl
@[simp] theorem ft_ze97 : zeroAV Try.prog 97 = .sc .nilFunc := by kernel_rfl
@[simp] theorem ft_co97 : Program.concrete Try.prog 97 = true := by kernel_rfl
@[simp] theorem ft_lk98 : lkT Try.prog 98 = .one := by kernel_rfl
@[simp] theorem ft_ce98 : Program.cellsOf Try.prog 98 = 1 := by kernel_rfl
@[simp] theorem ft_by98 : Program.bytesOf Try.prog 98 = 8 := by kernel_rfl
@[simp] theorem ft_ze98 : zeroAV Try.prog 98 = .sc .nilFunc := by kernel_rfl
@[simp] theorem ft_co98 : Program.concrete Try.prog 98 = true := by kernel_rfl
@[simp] theorem ft_lk99 : lkT Try.prog 99 = .one := by kernel_rfl
@[simp] theorem ft_ce99 : Program.cellsOf Try.prog 99 = 1 := by kernel_rfl
@[simp] theorem ft_by99 : Program.bytesOf Try.prog 99 = 24 := by kernel_rfl
@[simp] theorem ft_ze99 : zeroAV Try.prog 99 = .nilS := by kernel_rfl
@[simp] theorem ft_co99 : Program.concrete Try.prog 99 = true := by kernel_rfl
@[simp] theorem ft_sl99 : sliceT Try.prog 99 = some 4 := by kernel_rfl
@[simp] theorem ft_lk100 : lkT Try.prog 100 = .one := by kernel_rfl
@[simp] theorem ft_ce100 : Program.cellsOf Try.prog 100 = 1 := by kernel_rfl
@[simp] theorem ft_by100 : Program.bytesOf Try.prog 100 = 8 := by kernel_rfl
@[simp] theorem ft_ze100 : zeroAV Try.prog 100 = .sc .nilFunc := by kernel_rfl
@[simp] theorem ft_co100 : Program.concrete Try.prog 100 = true := by kernel_rfl
@[simp] theorem ft_lk101 : lkT Try.prog 101 = .one := by kernel_rfl
@[simp] theorem ft_ce101 : Program.cellsOf Try.prog 101 = 1 := by kernel_rfl
@[simp] theorem ft_by101 : Program.bytesOf Try.prog 101 = 8 := by kernel_rfl
@[simp] theorem ft_ze101 : zeroAV Try.prog 101 = .sc .nilFunc := by kernel_rfl
@[simp] theorem ft_co101 : Program.concrete Try.prog 101 = true := by kernel_rfl
@[simp] theorem ft_lk102 : lkT Try.prog 102 = .agg 4 := by kernel_rfl
@[simp] theorem ft_ce102 : Program.cellsOf Try.prog 102 = 4 := by kernel_rfl
@[simp] theorem ft_by102 : Program.bytesOf Try.prog 102 = 32 := by kernel_rfl
@[simp] theorem ft_ze102 : zeroAV Try.prog 102 = .agg [.sc (.int .i64 0), .sc (.int .i64 0), .sc (.int .i64 0), .sc (.int .i64 0)] := by kernel_rfl
@[simp] theorem ft_co102 : Program.concrete Try.prog 102 = true := by kernel_rfl
@[simp] theorem ft_ar102 : arrT Try.prog 102 = some (4, 3) := by kernel_rfl
@[simp] theorem ft_pl102 : ∀ i, placeT Try.prog 102 i = some (i * 1, 1) := fun i => by kernel_rfl
@[simp] theorem ft_bu102 : buildT Try.prog 102 = true := by kernel_rfl
@[simp] theorem ft_lk103 : lkT Try.prog 103 = .agg 2 := by kernel_rfl
@[simp] theorem ft_ce103 : Program.cellsOf Try.prog 103 = 2 := by kernel_rfl
@[simp] theorem ft_by103 : Program.bytesOf Try.prog 103 = 16 := by kernel_rfl
@[simp] theorem ft_ze103 : zeroAV Try.prog 103 = .agg [.sc (.int .i64 0), .sc (.int .i64 0)] := by kernel_rfl
@[simp] theorem ft_co103 : Program.concrete Try.prog 103 = true := by kernel_rfl
@[simp] theorem ft_bu103 : buildT Try.prog 103 = true := by kernel_rfl
@[simp] theorem ft_pl103_0 : placeT Try.prog 103 0 = some (0, 1) := by kernel_rfl
@[simp] theorem ft_fi103_0 : fieldT Try.prog 103 0 = some (0, .one) := by kernel_rfl
@[simp] theorem ft_pl103_1 : placeT Try.prog 103 1 = some (1, 1) := by kernel_rfl
@[simp] theorem ft_fi103_1 : fieldT Try.prog 103 1 = some (1, .one) := by kernel_rfl
@[simp] theorem ft_lk104 : lkT Try.prog 104 = .agg 2 := by kernel_rfl
@[simp] theorem ft_ce104 : Program.cellsOf Try.prog 104 = 2 := by kernel_rfl
@[simp] theorem ft_by104 : Program.bytesOf Try.prog 104 = 16 := by kernel_rfl
@[simp] theorem ft_ze104 : zeroAV Try.prog 104 = .agg [.sc (.int .i64 0), .sc (.int .i64 0)] := by kernel_rfl
@[simp] theorem ft_co104 : Program.concrete Try.prog 104 = true := by kernel_rfl
@[simp] theorem ft_bu104 : buildT Try.prog 104 = true := by kernel_rfl
@[simp] theorem ft_pl104_0 : placeT Try.prog 104 0 = some (0, 1) := by kernel_rfl
@[simp] theorem ft_fi104_0 : fieldT Try.prog 104 0 = some (0, .one) := by kernel_rfl
@[simp] theorem ft_pl104_1 : placeT Try.prog 104 1 = some (1, 1) := by kernel_rfl
@[simp] theorem ft_fi104_1 : fieldT Try.prog 104 1 = some (1, .one) := by kernel_rfl
@[simp] theorem ft_lk106 : lkT Try.prog 106 = .one := by kernel_rfl
@[simp] theorem ft_ce106 : Program.cellsOf Try.prog 106 = 1 := by kernel_rfl
@[simp] theorem ft_by106 : Program.bytesOf Try.prog 106 = 8 := by kernel_rfl
@[simp] theorem ft_ze106 : zeroAV Try.prog 106 = .sc (.pointer none) := by kernel_rfl
@[simp] theorem ft_co106 : Program.concrete Try.prog 106 = true := by kernel_rfl
@[simp] theorem ft_lk107 : lkT Try.prog 107 = .agg 3 := by kernel_rfl
@[simp] theorem ft_ce107 : Program.cellsOf Try.prog 107 = 3 := by kernel_rfl
@[simp] theorem ft_by107 : Program.bytesOf Try.prog 107 = 24 := by kernel_rfl
@[simp] theorem ft_ze107 : zeroAV Try.prog 107 = .agg [.sc (.pointer none), .sc (.int .i64 0), .sc (.int .i64 0)] := by kernel_rfl
@[simp] theorem ft_co107 : Program.concrete Try.prog 107 = true := by kernel_rfl
@[simp] theorem ft_bu107 : buildT Try.prog 107 = true := by kernel_rfl
@[simp] theorem ft_pl107_0 : placeT Try.prog 107 0 = some (0, 1) := by kernel_rfl
@[simp] theorem ft_fi107_0 : fieldT Try.prog 107 0 = some (0, .one) := by kernel_rfl
@[simp] theorem ft_pl107_1 : placeT Try.prog 107 1 = some (1, 1) := by kernel_rfl
@[simp] theorem ft_fi107_1 : fieldT Try.prog 107 1 = some (1, .one) := by kernel_rfl
@[simp] theorem ft_pl107_2 : placeT Try.prog 107 2 = some (2, 1) := by kernel_rfl
@[simp] theorem ft_fi107_2 : fieldT Try.prog 107 2 = some (2, .one) := by kernel_rfl
@[simp] theorem ft_lk108 : lkT Try.prog 108 = .agg 3 := by kernel_rfl
@[simp] theorem ft_ce108 : Program.cellsOf Try.prog 108 = 3 := by kernel_rfl
@[simp] theorem ft_by108 : Program.bytesOf Try.prog 108 = 24 := by kernel_rfl
@[simp] theorem ft_ze108 : zeroAV Try.prog 108 = .agg [.sc (.pointer none), .sc (.int .i64 0), .sc (.int .i64 0)] := by kernel_rfl
@[simp] theorem ft_co108 : Program.concrete Try.prog 108 = true := by kernel_rfl
@[simp] theorem ft_bu108 : buildT Try.prog 108 = true := by kernel_rfl
@[simp] theorem ft_pl108_0 : placeT Try.prog 108 0 = some (0, 1) := by kernel_rfl
@[simp] theorem ft_fi108_0 : fieldT Try.prog 108 0 = some (0, .one) := by kernel_rfl
@[simp] theorem ft_pl108_1 : placeT Try.prog 108 1 = some (1, 1) := by kernel_rfl
@[simp] theorem ft_fi108_1 : fieldT Try.prog 108 1 = some (1, .one) := by kernel_rfl
@[simp] theorem ft_pl108_2 : placeT Try.prog 108 2 = some (2, 1) := by kernel_rfl
@[simp] theorem ft_fi108_2 : fieldT Try.prog 108 2 = some (2, .one) := by kernel_rfl
@[simp] theorem ft_lk109 : lkT Try.prog 109 = .one := by kernel_rfl
@[simp] theorem ft_ce109 : Program.cellsOf Try.prog 109 = 1 := by kernel_rfl
@[simp] theorem ft_by109 : Program.bytesOf Try.prog 109 = 8 := by kernel_rfl
@[simp] theorem ft_ze109 : zeroAV Try.prog 109 = .sc .nilFunc := by kernel_rfl
@[simp] theorem ft_co109 : Program.concrete Try.prog 109 = true := by kernel_rfl
@[simp] theorem ft_lk110 : lkT Try.prog 110 = .one := by kernel_rfl
@[simp] theorem ft_ce110 : Program.cellsOf Try.prog 110 = 1 := by kernel_rfl
@[simp] theorem ft_by110 : Program.bytesOf Try.prog 110 = 8 := by kernel_rfl
@[simp] theorem ft_ze110 : zeroAV Try.prog 110 = .sc .nilFunc := by kernel_rfl
@[simp] theorem ft_co110 : Program.concrete Try.prog 110 = true := by kernel_rfl
@[simp] theorem ft_lk111 : lkT Try.prog 111 = .agg 2 := by kernel_rfl
@[simp] theorem ft_ce111 : Program.cellsOf Try.prog 111 = 2 := by kernel_rfl
@[simp] theorem ft_by111 : Program.bytesOf Try.prog 111 = 32 := by kernel_rfl
@[simp] theorem ft_ze111 : zeroAV Try.prog 111 = .agg [.nilS, .sc (.int .i64 0)] := by kernel_rfl
@[simp] theorem ft_co111 : Program.concrete Try.prog 111 = true := by kernel_rfl
@[simp] theorem ft_bu111 : buildT Try.prog 111 = true := by kernel_rfl
@[simp] theorem ft_pl111_0 : placeT Try.prog 111 0 = some (0, 1) := by kernel_rfl
@[simp] theorem ft_fi111_0 : fieldT Try.prog 111 0 = some (0, .one) := by kernel_rfl
@[simp] theorem ft_pl111_1 : placeT Try.prog 111 1 = some (1, 1) := by kernel_rfl
@[simp] theorem ft_fi111_1 : fieldT Try.prog 111 1 = some (1, .one) := by kernel_rfl
@[simp] theorem ft_lk112 : lkT Try.prog 112 = .agg 2 := by kernel_rfl
@[simp] theorem ft_ce112 : Program.cellsOf Try.prog 112 = 2 := by kernel_rfl
@[simp] theorem ft_by112 : Program.bytesOf Try.prog 112 = 32 := by kernel_rfl
@[simp] theorem ft_ze112 : zeroAV Try.prog 112 = .agg [.nilS, .sc (.int .i64 0)] := by kernel_rfl
@[simp] theorem ft_co112 : Program.concrete Try.prog 112 = true := by kernel_rfl
@[simp] theorem ft_bu112 : buildT Try.prog 112 = true := by kernel_rfl
@[simp] theorem ft_pl112_0 : placeT Try.prog 112 0 = some (0, 1) := by kernel_rfl
@[simp] theorem ft_fi112_0 : fieldT Try.prog 112 0 = some (0, .one) := by kernel_rfl
@[simp] theorem ft_pl112_1 : placeT Try.prog 112 1 = some (1, 1) := by kernel_rfl
@[simp] theorem ft_fi112_1 : fieldT Try.prog 112 1 = some (1, .one) := by kernel_rfl
@[simp] theorem ft_lk113 : lkT Try.prog 113 = .one := by kernel_rfl
@[simp] theorem ft_ce113 : Program.cellsOf Try.prog 113 = 1 := by kernel_rfl
@[simp] theorem ft_by113 : Program.bytesOf Try.prog 113 = 8 := by kernel_rfl
@[simp] theorem ft_ze113 : zeroAV Try.prog 113 = .sc .nilFunc := by kernel_rfl
@[simp] theorem ft_co113 : Program.concrete Try.prog 113 = true := by kernel_rfl
@[simp] theorem ft_lk114 : lkT Try.prog 114 = .one := by kernel_rfl
@[simp] theorem ft_ce114 : Program.cellsOf Try.prog 114 = 1 := by kernel_rfl
@[simp] theorem ft_by114 : Program.bytesOf Try.prog 114 = 8 := by kernel_rfl
@[simp] theorem ft_ze114 : zeroAV Try.prog 114 = .sc .nilFunc := by kernel_rfl
@[simp] theorem ft_co114 : Program.concrete Try.prog 114 = true := by kernel_rfl
@[simp] theorem ft_lk115 : lkT Try.prog 115 = .one := by kernel_rfl
@[simp] theorem ft_ce115 : Program.cellsOf Try.prog 115 = 1 := by kernel_rfl
@[simp] theorem ft_by115 : Program.bytesOf Try.prog 115 = 8 := by kernel_rfl
@[simp] theorem ft_ze115 : zeroAV Try.prog 115 = .sc .nilFunc := by kernel_rfl
@[simp] theorem ft_co115 : Program.concrete Try.prog 115 = true := by kernel_rfl
@[simp] theorem ft_lk117 : lkT Try.prog 117 = .one := by kernel_rfl
@[simp] theorem ft_ce117 : Program.cellsOf Try.prog 117 = 1 := by kernel_rfl
@[simp] theorem ft_by117 : Program.bytesOf Try.prog 117 = 8 := by kernel_rfl
@[simp] theorem ft_ze117 : zeroAV Try.prog 117 = .sc (.pointer none) := by kernel_rfl
@[simp] theorem ft_co117 : Program.concrete Try.prog 117 = true := by kernel_rfl
@[simp] theorem ft_lk118 : lkT Try.prog 118 = .one := by kernel_rfl
@[simp] theorem ft_ce118 : Program.cellsOf Try.prog 118 = 1 := by kernel_rfl
@[simp] theorem ft_by118 : Program.bytesOf Try.prog 118 = 8 := by kernel_rfl
@[simp] theorem ft_ze118 : zeroAV Try.prog 118 = .sc .nilFunc := by kernel_rfl
@[simp] theorem ft_co118 : Program.concrete Try.prog 118 = true := by kernel_rfl
@[simp] theorem ft_lk119 : lkT Try.prog 119 = .one := by kernel_rfl
@[simp] theorem ft_ce119 : Program.cellsOf Try.prog 119 = 1 := by kernel_rfl
@[simp] theorem ft_by119 : Program.bytesOf Try.prog 119 = 8 := by kernel_rfl
@[simp] theorem ft_ze119 : zeroAV Try.prog 119 = .sc .nilFunc := by kernel_rfl
@[simp] theorem ft_co119 : Program.concrete Try.prog 119 = true := by kernel_rfl
@[simp] theorem ft_lk120 : lkT Try.prog 120 = .agg 4 := by kernel_rfl
@[simp] theorem ft_ce120 : Program.cellsOf Try.prog 120 = 4 := by kernel_rfl
@[simp] theorem ft_by120 : Program.bytesOf Try.prog 120 = 32 := by kernel_rfl
@[simp] theorem ft_ze120 : zeroAV Try.prog 120 = .agg [.sc .nilFunc, .sc .nilFunc, .sc .nilFunc, .sc .nilFunc] := by kernel_rfl
@[simp] theorem ft_co120 : Program.concrete Try.prog 120 = true := by kernel_rfl
@[simp] theorem ft_ar120 : arrT Try.prog 120 = some (4, 118) := by kernel_rfl
@[simp] theorem ft_pl120 : ∀ i, placeT Try.prog 120 i = some (i * 1, 1) := fun i => by kernel_rfl
@[simp] theorem ft_bu120 : buildT Try.prog 120 = true := by kernel_rfl
@[simp] theorem ft_lk121 : lkT Try.prog 121 = .agg 6 := by kernel_rfl
@[simp] theorem ft_ce121 : Program.cellsOf Try.prog 121 = 6 := by kernel_rfl
@[simp] theorem ft_by121 : Program.bytesOf Try.prog 121 = 48 := by kernel_rfl
@[simp] theorem ft_ze121 : zeroAV Try.prog 121 = .agg [.sc (.int .i64 0), .sc (.int .i64 0), .sc (.int .i64 0), .sc (.int .i64 0), .sc (.int .i64 0), .sc (.int .i64 0)] := by kernel_rfl
@[simp] theorem ft_co121 : Program.concrete Try.prog 121 = true := by kernel_rfl
@[simp] theorem ft_ar121 : arrT Try.prog 121 = some (6, 3) := by kernel_rfl
@[simp] theorem ft_pl121 : ∀ i, placeT Try.prog 121 i = some (i * 1, 1) := fun i => by kernel_rfl
@[simp] theorem ft_bu121 : buildT Try.prog 121 = true := by kernel_rfl
@[simp] theorem ft_lk122 : lkT Try.prog 122 = .one := by kernel_rfl
@[simp] theorem ft_ce122 : Program.cellsOf Try.prog 122 = 1 := by kernel_rfl
@[simp] theorem ft_by122 : Program.bytesOf Try.prog 122 = 8 := by kernel_rfl
@[simp] theorem ft_ze122 : zeroAV Try.prog 122 = .sc .nilFunc := by kernel_rfl
@[simp] theorem ft_co122 : Program.concrete Try.prog 122 = true := by kernel_rfl
@[simp] theorem ft_lk123 : lkT Try.prog 123 = .one := by kernel_rfl
@[simp] theorem ft_ce123 : Program.cellsOf Try.prog 123 = 1 := by kernel_rfl
@[simp] theorem ft_by123 : Program.bytesOf Try.prog 123 = 8 := by kernel_rfl
@[simp] theorem ft_ze123 : zeroAV Try.prog 123 = .sc .nilFunc := by kernel_rfl
@[simp] theorem ft_co123 : Program.concrete Try.prog 123 = true := by kernel_rfl
@[simp] theorem ft_lk124 : lkT Try.prog 124 = .agg 4 := by kernel_rfl
@[simp] theorem ft_ce124 : Program.cellsOf Try.prog 124 = 4 := by kernel_rfl
@[simp] theorem ft_by124 : Program.bytesOf Try.prog 124 = 40 := by kernel_rfl
@[simp] theorem ft_ze124 : zeroAV Try.prog 124 = .agg [.sc (.pointer none), .sc (.pointer none), .sc (.pointer none), .sc (.string .empty)] := by kernel_rfl
@[simp] theorem ft_co124 : Program.concrete Try.prog 124 = true := by kernel_rfl
@[simp] theorem ft_bu124 : buildT Try.prog 124 = true := by kernel_rfl
@[simp] theorem ft_pl124_0 : placeT Try.prog 124 0 = some (0, 1) := by kernel_rfl
@[simp] theorem ft_fi124_0 : fieldT Try.prog 124 0 = some (0, .one) := by kernel_rfl
@[simp] theorem ft_pl124_1 : placeT Try.prog 124 1 = some (1, 1) := by kernel_rfl
@[simp] theorem ft_fi124_1 : fieldT Try.prog 124 1 = some (1, .one) := by kernel_rfl
@[simp] theorem ft_pl124_2 : placeT Try.prog 124 2 = some (2, 1) := by kernel_rfl
@[simp] theorem ft_fi124_2 : fieldT Try.prog 124 2 = some (2, .one) := by kernel_rfl
@[simp] theorem ft_pl124_3 : placeT Try.prog 124 3 = some (3, 1) := by kernel_rfl
@[simp] theorem ft_fi124_3 : fieldT Try.prog 124 3 = some (3, .one) := by kernel_rfl
@[simp] theorem ft_lk125 : lkT Try.prog 125 = .agg 4 := by kernel_rfl
@[simp] theorem ft_ce125 : Program.cellsOf Try.prog 125 = 4 := by kernel_rfl
@[simp] theorem ft_by125 : Program.bytesOf Try.prog 125 = 40 := by kernel_rfl
@[simp] theorem ft_ze125 : zeroAV Try.prog 125 = .agg [.sc (.pointer none), .sc (.pointer none), .sc (.pointer none), .sc (.string .empty)] := by kernel_rfl
@[simp] theorem ft_co125 : Program.concrete Try.prog 125 = true := by kernel_rfl
@[simp] theorem ft_bu125 : buildT Try.prog 125 = true := by kernel_rfl
@[simp] theorem ft_pl125_0 : placeT Try.prog 125 0 = some (0, 1) := by kernel_rfl
@[simp] theorem ft_fi125_0 : fieldT Try.prog 125 0 = some (0, .one) := by kernel_rfl
@[simp] theorem ft_pl125_1 : placeT Try.prog 125 1 = some (1, 1) := by kernel_rfl
@[simp] theorem ft_fi125_1 : fieldT Try.prog 125 1 = some (1, .one) := by kernel_rfl
@[simp] theorem ft_pl125_2 : placeT Try.prog 125 2 = some (2, 1) := by kernel_rfl
@[simp] theorem ft_fi125_2 : fieldT Try.prog 125 2 = some (2, .one) := by kernel_rfl
@[simp] theorem ft_pl125_3 : placeT Try.prog 125 3 = some (3, 1) := by kernel_rfl
@[simp] theorem ft_fi125_3 : fieldT Try.prog 125 3 = some (3, .one) := by kernel_rfl
@[simp] theorem ft_lk126 : lkT Try.prog 126 = .agg 0 := by kernel_rfl
@[simp] theorem ft_ce126 : Program.cellsOf Try.prog 126 = 0 := by kernel_rfl
@[simp] theorem ft_by126 : Program.bytesOf Try.prog 126 = 0 := by kernel_rfl
@[simp] theorem ft_ze126 : zeroAV Try.prog 126 = .agg [] := by kernel_rfl
@[simp] theorem ft_co126 : Program.concrete Try.prog 126 = true := by kernel_rfl
@[simp] theorem ft_ar126 : arrT Try.prog 126 = some (0, 16) := by kernel_rfl
@[simp] theorem ft_pl126 : ∀ i, placeT Try.prog 126 i = some (i * 1, 1) := fun i => by kernel_rfl
@[simp] theorem ft_bu126 : buildT Try.prog 126 = true := by kernel_rfl
@[simp] theorem ft_lk127 : lkT Try.prog 127 = .agg 0 := by kernel_rfl
@[simp] theorem ft_ce127 : Program.cellsOf Try.prog 127 = 0 := by kernel_rfl
@[simp] theorem ft_by127 : Program.bytesOf Try.prog 127 = 0 := by kernel_rfl
@[simp] theorem ft_ze127 : zeroAV Try.prog 127 = .agg [] := by kernel_rfl
@[simp] theorem ft_co127 : Program.concrete Try.prog 127 = true := by kernel_rfl
@[simp] theorem ft_bu127 : buildT Try.prog 127 = true := by kernel_rfl
@[simp] theorem ft_pl127_0 : placeT Try.prog 127 0 = some (0, 0) := by kernel_rfl
@[simp] theorem ft_fi127_0 : fieldT Try.prog 127 0 = some (0, .agg 0) := by kernel_rfl
@[simp] theorem ft_lk128 : lkT Try.prog 128 = .agg 0 := by kernel_rfl
@[simp] theorem ft_ce128 : Program.cellsOf Try.prog 128 = 0 := by kernel_rfl
@[simp] theorem ft_by128 : Program.bytesOf Try.prog 128 = 0 := by kernel_rfl
@[simp] theorem ft_ze128 : zeroAV Try.prog 128 = .agg [] := by kernel_rfl
@[simp] theorem ft_co128 : Program.concrete Try.prog 128 = true := by kernel_rfl
@[simp] theorem ft_bu128 : buildT Try.prog 128 = true := by kernel_rfl
@[simp] theorem ft_pl128_0 : placeT Try.prog 128 0 = some (0, 0) := by kernel_rfl
@[simp] theorem ft_fi128_0 : fieldT Try.prog 128 0 = some (0, .agg 0) := by kernel_rfl
@[simp] theorem ft_lk129 : lkT Try.prog 129 = .one := by kernel_rfl
@[simp] theorem ft_ce129 : Program.cellsOf Try.prog 129 = 1 := by kernel_rfl
@[simp] theorem ft_by129 : Program.bytesOf Try.prog 129 = 4 := by kernel_rfl
@[simp] theorem ft_ze129 : zeroAV Try.prog 129 = .sc (.int .u32 0) := by kernel_rfl
@[simp] theorem ft_co129 : Program.concrete Try.prog 129 = true := by kernel_rfl
@[simp] theorem ft_lk130 : lkT Try.prog 130 = .one := by kernel_rfl
@[simp] theorem ft_ce130 : Program.cellsOf Try.prog 130 = 1 := by kernel_rfl
@[simp] theorem ft_by130 : Program.bytesOf Try.prog 130 = 1 := by kernel_rfl
@[simp] theorem ft_ze130 : zeroAV Try.prog 130 = .sc (.int .u8 0) := by kernel_rfl
@[simp] theorem ft_co130 : Program.concrete Try.prog 130 = true := by kernel_rfl
@[simp] theorem ft_lk131 : lkT Try.prog 131 = .one := by kernel_rfl
@[simp] theorem ft_ce131 : Program.cellsOf Try.prog 131 = 1 := by kernel_rfl
@[simp] theorem ft_by131 : Program.bytesOf Try.prog 131 = 1 := by kernel_rfl
@[simp] theorem ft_ze131 : zeroAV Try.prog 131 = .sc (.int .u8 0) := by kernel_rfl
@[simp] theorem ft_co131 : Program.concrete Try.prog 131 = true := by kernel_rfl
@[simp] theorem ft_lk132 : lkT Try.prog 132 = .one := by kernel_rfl
@[simp] theorem ft_ce132 : Program.cellsOf Try.prog 132 = 1 := by kernel_rfl
@[simp] theorem ft_by132 : Program.bytesOf Try.prog 132 = 8 := by kernel_rfl
@[simp] theorem ft_ze132 : zeroAV Try.prog 132 = .sc .nilFunc := by kernel_rfl
@[simp] theorem ft_co132 : Program.concrete Try.prog 132 = true := by kernel_rfl
@[simp] theorem ft_lk133 : lkT Try.prog 133 = .one := by kernel_rfl
@[simp] theorem ft_ce133 : Program.cellsOf Try.prog 133 = 1 := by kernel_rfl
@[simp] theorem ft_by133 : Program.bytesOf Try.prog 133 = 8 := by kernel_rfl
@[simp] theorem ft_ze133 : zeroAV Try.prog 133 = .sc (.pointer none) := by kernel_rfl
@[simp] theorem ft_co133 : Program.concrete Try.prog 133 = true := by kernel_rfl
@[simp] theorem ft_lk134 : lkT Try.prog 134 = .one := by kernel_rfl
@[simp] theorem ft_ce134 : Program.cellsOf Try.prog 134 = 1 := by kernel_rfl
@[simp] theorem ft_by134 : Program.bytesOf Try.prog 134 = 4 := by kernel_rfl
@[simp] theorem ft_ze134 : zeroAV Try.prog 134 = .sc (.int .i32 0) := by kernel_rfl
@[simp] theorem ft_co134 : Program.concrete Try.prog 134 = true := by kernel_rfl
@[simp] theorem ft_lk135 : lkT Try.prog 135 = .one := by kernel_rfl
@[simp] theorem ft_ce135 : Program.cellsOf Try.prog 135 = 1 := by kernel_rfl
@[simp] theorem ft_by135 : Program.bytesOf Try.prog 135 = 4 := by kernel_rfl
@[simp] theorem ft_ze135 : zeroAV Try.prog 135 = .sc (.int .i32 0) := by kernel_rfl
@[simp] theorem ft_co135 : Program.concrete Try.prog 135 = true := by kernel_rfl
@[simp] theorem ft_lk136 : lkT Try.prog 136 = .agg 11 := by kernel_rfl
@[simp] theorem ft_ce136 : Program.cellsOf Try.prog 136 = 11 := by kernel_rfl
@[simp] theorem ft_by136 : Program.bytesOf Try.prog 136 = 48 := by kernel_rfl
@[simp] theorem ft_ze136 : zeroAV Try.prog 136 = .agg [.sc (.int .u64 0), .sc (.int .u64 0), .sc (.int .u32 0), .sc (.int .u8 0), .sc (.int .u8 0), .sc (.int .u8 0), .sc (.int .u8 0), .sc .nilFunc, .sc (.pointer none), .sc (.int .i32 0), .sc (.int .i32 0)] := by kernel_rfl
@[simp] theorem ft_co136 : Program.concrete Try.prog 136 = true := by kernel_rfl
@[simp] theorem ft_bu136 : buildT Try.prog 136 = true := by kernel_rfl
@[simp] theorem ft_pl136_0 : placeT Try.prog 136 0 = some (0, 1) := by kernel_rfl
@[simp] theorem ft_fi136_0 : fieldT Try.prog 136 0 = some (0, .one) := by kernel_rfl
@[simp] theorem ft_pl136_1 : placeT Try.prog 136 1 = some (1, 1) := by kernel_rfl
@[simp] theorem ft_fi136_1 : fieldT Try.prog 136 1 = some (1, .one) := by kernel_rfl
@[simp] theorem ft_pl136_2 : placeT Try.prog 136 2 = some (2, 1) := by kernel_rfl
@[simp] theorem ft_fi136_2 : fieldT Try.prog 136 2 = some (2, .one) := by kernel_rfl
@[simp] theorem ft_pl136_3 : placeT Try.prog 136 3 = some (3, 1) := by kernel_rfl
@[simp] theorem ft_fi136_3 : fieldT Try.prog 136 3 = some (3, .one) := by kernel_rfl
@[simp] theorem ft_pl136_4 : placeT Try.prog 136 4 = some (4, 1) := by kernel_rfl
@[simp] theorem ft_fi136_4 : fieldT Try.prog 136 4 = some (4, .one) := by kernel_rfl
@[simp] theorem ft_pl136_5 : placeT Try.prog 136 5 = some (5, 1) := by kernel_rfl
@[simp] theorem ft_fi136_5 : fieldT Try.prog 136 5 = some (5, .one) := by kernel_rfl
@[simp] theorem ft_pl136_6 : placeT Try.prog 136 6 = some (6, 1) := by kernel_rfl
@[simp] theorem ft_fi136_6 : fieldT Try.prog 136 6 = some (6, .one) := by kernel_rfl
@[simp] theorem ft_pl136_7 : placeT Try.prog 136 7 = some (7, 1) := by kernel_rfl
@[simp] theorem ft_fi136_7 : fieldT Try.prog 136 7 = some (7, .one) := by kernel_rfl
@[simp] theorem ft_pl136_8 : placeT Try.prog 136 8 = some (8, 1) := by kernel_rfl
@[simp] theorem ft_fi136_8 : fieldT Try.prog 136 8 = some (8, .one) := by kernel_rfl
@[simp] theorem ft_pl136_9 : placeT Try.prog 136 9 = some (9, 1) := by kernel_rfl
@[simp] theorem ft_fi136_9 : fieldT Try.prog 136 9 = some (9, .one) := by kernel_rfl
@[simp] theorem ft_pl136_10 : placeT Try.prog 136 10 = some (10, 1) := by kernel_rfl
@[simp] theorem ft_fi136_10 : fieldT Try.prog 136 10 = some (10, .one) := by kernel_rfl
@[simp] theorem ft_lk137 : lkT Try.prog 137 = .agg 11 := by kernel_rfl
@[simp] theorem ft_ce137 : Program.cellsOf Try.prog 137 = 11 := by kernel_rfl
@[simp] theorem ft_by137 : Program.bytesOf Try.prog 137 = 48 := by kernel_rfl
@[simp] theorem ft_ze137 : zeroAV Try.prog 137 = .agg [.sc (.int .u64 0), .sc (.int .u64 0), .sc (.int .u32 0), .sc (.int .u8 0), .sc (.int .u8 0), .sc (.int .u8 0), .sc (.int .u8 0), .sc .nilFunc, .sc (.pointer none), .sc (.int .i32 0), .sc (.int .i32 0)] := by kernel_rfl
@[simp] theorem ft_co137 : Program.concrete Try.prog 137 = true := by kernel_rfl
@[simp] theorem ft_bu137 : buildT Try.prog 137 = true := by kernel_rfl
@[simp] theorem ft_pl137_0 : placeT Try.prog 137 0 = some (0, 1) := by kernel_rfl
@[simp] theorem ft_fi137_0 : fieldT Try.prog 137 0 = some (0, .one) := by kernel_rfl
@[simp] theorem ft_pl137_1 : placeT Try.prog 137 1 = some (1, 1) := by kernel_rfl
@[simp] theorem ft_fi137_1 : fieldT Try.prog 137 1 = some (1, .one) := by kernel_rfl
@[simp] theorem ft_pl137_2 : placeT Try.prog 137 2 = some (2, 1) := by kernel_rfl
@[simp] theorem ft_fi137_2 : fieldT Try.prog 137 2 = some (2, .one) := by kernel_rfl
@[simp] theorem ft_pl137_3 : placeT Try.prog 137 3 = some (3, 1) := by kernel_rfl
@[simp] theorem ft_fi137_3 : fieldT Try.prog 137 3 = some (3, .one) := by kernel_rfl
@[simp] theorem ft_pl137_4 : placeT Try.prog 137 4 = some (4, 1) := by kernel_rfl
@[simp] theorem ft_fi137_4 : fieldT Try.prog 137 4 = some (4, .one) := by kernel_rfl
@[simp] theorem ft_pl137_5 : placeT Try.prog 137 5 = some (5, 1) := by kernel_rfl
@[simp] theorem ft_fi137_5 : fieldT Try.prog 137 5 = some (5, .one) := by kernel_rfl
@[simp] theorem ft_pl137_6 : placeT Try.prog 137 6 = some (6, 1) := by kernel_rfl
@[simp] theorem ft_fi137_6 : fieldT Try.prog 137 6 = some (6, .one) := by kernel_rfl
@[simp] theorem ft_pl137_7 : placeT Try.prog 137 7 = some (7, 1) := by kernel_rfl
@[simp] theorem ft_fi137_7 : fieldT Try.prog 137 7 = some (7, .one) := by kernel_rfl
@[simp] theorem ft_pl137_8 : placeT Try.prog 137 8 = some (8, 1) := by kernel_rfl
@[simp] theorem ft_fi137_8 : fieldT Try.prog 137 8 = some (8, .one) := by kernel_rfl
@[simp] theorem ft_pl137_9 : placeT Try.prog 137 9 = some (9, 1) := by kernel_rfl
@[simp] theorem ft_fi137_9 : fieldT Try.prog 137 9 = some (9, .one) := by kernel_rfl
@[simp] theorem ft_pl137_10 : placeT Try.prog 137 10 = some (10, 1) := by kernel_rfl
@[simp] theorem ft_fi137_10 : fieldT Try.prog 137 10 = some (10, .one) := by kernel_rfl
@[simp] theorem ft_lk138 : lkT Try.prog 138 = .one := by kernel_rfl
@[simp] theorem ft_ce138 : Program.cellsOf Try.prog 138 = 1 := by kernel_rfl
@[simp] theorem ft_by138 : Program.bytesOf Try.prog 138 = 8 := by kernel_rfl
@[simp] theorem ft_ze138 : zeroAV Try.prog 138 = .sc (.pointer none) := by kernel_rfl
@[simp] theorem ft_co138 : Program.concrete Try.prog 138 = true := by kernel_rfl
end Go.Proofs.Ytpekbapmnmnjoaa
