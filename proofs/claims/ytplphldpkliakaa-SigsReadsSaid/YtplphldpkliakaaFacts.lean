/- Facts on the types of this seat, each reckoned by the kernel (printed by facts.py). -/
import Derived.Test.YtplphldpkliakaaAwLink
import Derived.Test.YtplphldpkliakaaProg
import Derived.KernelRfl
set_option maxRecDepth 100000
namespace Go.Proofs.Ytplphldpkliakaa
open Go Go.AW
@[simp] theorem ft_lk1 : lkT Try.prog 1 = .one := by kernel_rfl
@[simp] theorem ft_ce1 : Program.cellsOf Try.prog 1 = 1 := by kernel_rfl
@[simp] theorem ft_by1 : Program.bytesOf Try.prog 1 = 8 := by kernel_rfl
@[simp] theorem ft_ze1 : zeroAV Try.prog 1 = .sc .nilFunc := by kernel_rfl
@[simp] theorem ft_co1 : Program.concrete Try.prog 1 = true := by kernel_rfl
@[simp] theorem ft_lk2 : lkT Try.prog 2 = .one := by kernel_rfl
@[simp] theorem ft_ce2 : Program.cellsOf Try.prog 2 = 1 := by kernel_rfl
@[simp] theorem ft_by2 : Program.bytesOf Try.prog 2 = 8 := by kernel_rfl
@[simp] theorem ft_ze2 : zeroAV Try.prog 2 = .sc (.int .i64 0) := by kernel_rfl
@[simp] theorem ft_co2 : Program.concrete Try.prog 2 = true := by kernel_rfl
@[simp] theorem ft_lk3 : lkT Try.prog 3 = .one := by kernel_rfl
@[simp] theorem ft_ce3 : Program.cellsOf Try.prog 3 = 1 := by kernel_rfl
@[simp] theorem ft_by3 : Program.bytesOf Try.prog 3 = 8 := by kernel_rfl
@[simp] theorem ft_ze3 : zeroAV Try.prog 3 = .sc (.int .i64 0) := by kernel_rfl
@[simp] theorem ft_co3 : Program.concrete Try.prog 3 = true := by kernel_rfl
@[simp] theorem ft_lk4 : lkT Try.prog 4 = .one := by kernel_rfl
@[simp] theorem ft_ce4 : Program.cellsOf Try.prog 4 = 1 := by kernel_rfl
@[simp] theorem ft_by4 : Program.bytesOf Try.prog 4 = 1 := by kernel_rfl
@[simp] theorem ft_ze4 : zeroAV Try.prog 4 = .sc (.bool false) := by kernel_rfl
@[simp] theorem ft_co4 : Program.concrete Try.prog 4 = true := by kernel_rfl
@[simp] theorem ft_lk5 : lkT Try.prog 5 = .one := by kernel_rfl
@[simp] theorem ft_ce5 : Program.cellsOf Try.prog 5 = 1 := by kernel_rfl
@[simp] theorem ft_by5 : Program.bytesOf Try.prog 5 = 1 := by kernel_rfl
@[simp] theorem ft_ze5 : zeroAV Try.prog 5 = .sc (.int .u8 0) := by kernel_rfl
@[simp] theorem ft_co5 : Program.concrete Try.prog 5 = true := by kernel_rfl
@[simp] theorem ft_lk6 : lkT Try.prog 6 = .one := by kernel_rfl
@[simp] theorem ft_ce6 : Program.cellsOf Try.prog 6 = 1 := by kernel_rfl
@[simp] theorem ft_by6 : Program.bytesOf Try.prog 6 = 1 := by kernel_rfl
@[simp] theorem ft_ze6 : zeroAV Try.prog 6 = .sc (.int .u8 0) := by kernel_rfl
@[simp] theorem ft_co6 : Program.concrete Try.prog 6 = true := by kernel_rfl
@[simp] theorem ft_lk7 : lkT Try.prog 7 = .agg 4 := by kernel_rfl
@[simp] theorem ft_ce7 : Program.cellsOf Try.prog 7 = 4 := by kernel_rfl
@[simp] theorem ft_by7 : Program.bytesOf Try.prog 7 = 24 := by kernel_rfl
@[simp] theorem ft_ze7 : zeroAV Try.prog 7 = .agg [.sc (.int .i64 0), .sc (.int .i64 0), .sc (.bool false), .sc (.int .u8 0)] := by kernel_rfl
@[simp] theorem ft_co7 : Program.concrete Try.prog 7 = true := by kernel_rfl
@[simp] theorem ft_bu7 : buildT Try.prog 7 = true := by kernel_rfl
@[simp] theorem ft_pl7_0 : placeT Try.prog 7 0 = some (0, 1) := by kernel_rfl
@[simp] theorem ft_fi7_0 : fieldT Try.prog 7 0 = some (0, .one) := by kernel_rfl
@[simp] theorem ft_pl7_1 : placeT Try.prog 7 1 = some (1, 1) := by kernel_rfl
@[simp] theorem ft_fi7_1 : fieldT Try.prog 7 1 = some (1, .one) := by kernel_rfl
@[simp] theorem ft_pl7_2 : placeT Try.prog 7 2 = some (2, 1) := by kernel_rfl
@[simp] theorem ft_fi7_2 : fieldT Try.prog 7 2 = some (2, .one) := by kernel_rfl
@[simp] theorem ft_pl7_3 : placeT Try.prog 7 3 = some (3, 1) := by kernel_rfl
@[simp] theorem ft_fi7_3 : fieldT Try.prog 7 3 = some (3, .one) := by kernel_rfl
@[simp] theorem ft_lk8 : lkT Try.prog 8 = .agg 4 := by kernel_rfl
@[simp] theorem ft_ce8 : Program.cellsOf Try.prog 8 = 4 := by kernel_rfl
@[simp] theorem ft_by8 : Program.bytesOf Try.prog 8 = 24 := by kernel_rfl
@[simp] theorem ft_ze8 : zeroAV Try.prog 8 = .agg [.sc (.int .i64 0), .sc (.int .i64 0), .sc (.bool false), .sc (.int .u8 0)] := by kernel_rfl
@[simp] theorem ft_co8 : Program.concrete Try.prog 8 = true := by kernel_rfl
@[simp] theorem ft_bu8 : buildT Try.prog 8 = true := by kernel_rfl
@[simp] theorem ft_pl8_0 : placeT Try.prog 8 0 = some (0, 1) := by kernel_rfl
@[simp] theorem ft_fi8_0 : fieldT Try.prog 8 0 = some (0, .one) := by kernel_rfl
@[simp] theorem ft_pl8_1 : placeT Try.prog 8 1 = some (1, 1) := by kernel_rfl
@[simp] theorem ft_fi8_1 : fieldT Try.prog 8 1 = some (1, .one) := by kernel_rfl
@[simp] theorem ft_pl8_2 : placeT Try.prog 8 2 = some (2, 1) := by kernel_rfl
@[simp] theorem ft_fi8_2 : fieldT Try.prog 8 2 = some (2, .one) := by kernel_rfl
@[simp] theorem ft_pl8_3 : placeT Try.prog 8 3 = some (3, 1) := by kernel_rfl
@[simp] theorem ft_fi8_3 : fieldT Try.prog 8 3 = some (3, .one) := by kernel_rfl
@[simp] theorem ft_lk9 : lkT Try.prog 9 = .one := by kernel_rfl
@[simp] theorem ft_ce9 : Program.cellsOf Try.prog 9 = 1 := by kernel_rfl
@[simp] theorem ft_by9 : Program.bytesOf Try.prog 9 = 16 := by kernel_rfl
@[simp] theorem ft_ze9 : zeroAV Try.prog 9 = .sc (.string .empty) := by kernel_rfl
@[simp] theorem ft_co9 : Program.concrete Try.prog 9 = true := by kernel_rfl
@[simp] theorem ft_lk10 : lkT Try.prog 10 = .one := by kernel_rfl
@[simp] theorem ft_ce10 : Program.cellsOf Try.prog 10 = 1 := by kernel_rfl
@[simp] theorem ft_by10 : Program.bytesOf Try.prog 10 = 16 := by kernel_rfl
@[simp] theorem ft_ze10 : zeroAV Try.prog 10 = .sc (.string .empty) := by kernel_rfl
@[simp] theorem ft_co10 : Program.concrete Try.prog 10 = true := by kernel_rfl
@[simp] theorem ft_lk11 : lkT Try.prog 11 = .one := by kernel_rfl
@[simp] theorem ft_ce11 : Program.cellsOf Try.prog 11 = 1 := by kernel_rfl
@[simp] theorem ft_by11 : Program.bytesOf Try.prog 11 = 16 := by kernel_rfl
@[simp] theorem ft_ze11 : zeroAV Try.prog 11 = .sc (.string .empty) := by kernel_rfl
@[simp] theorem ft_co11 : Program.concrete Try.prog 11 = true := by kernel_rfl
@[simp] theorem ft_lk12 : lkT Try.prog 12 = .one := by kernel_rfl
@[simp] theorem ft_ce12 : Program.cellsOf Try.prog 12 = 1 := by kernel_rfl
@[simp] theorem ft_by12 : Program.bytesOf Try.prog 12 = 8 := by kernel_rfl
@[simp] theorem ft_ze12 : zeroAV Try.prog 12 = .sc (.int .u64 0) := by kernel_rfl
@[simp] theorem ft_co12 : Program.concrete Try.prog 12 = true := by kernel_rfl
@[simp] theorem ft_lk13 : lkT Try.prog 13 = .agg 2 := by kernel_rfl
@[simp] theorem ft_ce13 : Program.cellsOf Try.prog 13 = 2 := by kernel_rfl
@[simp] theorem ft_by13 : Program.bytesOf Try.prog 13 = 24 := by kernel_rfl
@[simp] theorem ft_ze13 : zeroAV Try.prog 13 = .agg [.sc (.string .empty), .sc (.int .u64 0)] := by kernel_rfl
@[simp] theorem ft_co13 : Program.concrete Try.prog 13 = true := by kernel_rfl
@[simp] theorem ft_bu13 : buildT Try.prog 13 = true := by kernel_rfl
@[simp] theorem ft_pl13_0 : placeT Try.prog 13 0 = some (0, 1) := by kernel_rfl
@[simp] theorem ft_fi13_0 : fieldT Try.prog 13 0 = some (0, .one) := by kernel_rfl
@[simp] theorem ft_pl13_1 : placeT Try.prog 13 1 = some (1, 1) := by kernel_rfl
@[simp] theorem ft_fi13_1 : fieldT Try.prog 13 1 = some (1, .one) := by kernel_rfl
@[simp] theorem ft_lk14 : lkT Try.prog 14 = .agg 2 := by kernel_rfl
@[simp] theorem ft_ce14 : Program.cellsOf Try.prog 14 = 2 := by kernel_rfl
@[simp] theorem ft_by14 : Program.bytesOf Try.prog 14 = 24 := by kernel_rfl
@[simp] theorem ft_ze14 : zeroAV Try.prog 14 = .agg [.sc (.string .empty), .sc (.int .u64 0)] := by kernel_rfl
@[simp] theorem ft_co14 : Program.concrete Try.prog 14 = true := by kernel_rfl
@[simp] theorem ft_bu14 : buildT Try.prog 14 = true := by kernel_rfl
@[simp] theorem ft_pl14_0 : placeT Try.prog 14 0 = some (0, 1) := by kernel_rfl
@[simp] theorem ft_fi14_0 : fieldT Try.prog 14 0 = some (0, .one) := by kernel_rfl
@[simp] theorem ft_pl14_1 : placeT Try.prog 14 1 = some (1, 1) := by kernel_rfl
@[simp] theorem ft_fi14_1 : fieldT Try.prog 14 1 = some (1, .one) := by kernel_rfl
@[simp] theorem ft_lk15 : lkT Try.prog 15 = .one := by kernel_rfl
@[simp] theorem ft_ce15 : Program.cellsOf Try.prog 15 = 1 := by kernel_rfl
@[simp] theorem ft_by15 : Program.bytesOf Try.prog 15 = 8 := by kernel_rfl
@[simp] theorem ft_ze15 : zeroAV Try.prog 15 = .sc (.pointer none) := by kernel_rfl
@[simp] theorem ft_co15 : Program.concrete Try.prog 15 = true := by kernel_rfl
@[simp] theorem ft_lk16 : lkT Try.prog 16 = .one := by kernel_rfl
@[simp] theorem ft_ce16 : Program.cellsOf Try.prog 16 = 1 := by kernel_rfl
@[simp] theorem ft_by16 : Program.bytesOf Try.prog 16 = 8 := by kernel_rfl
@[simp] theorem ft_ze16 : zeroAV Try.prog 16 = .sc (.pointer none) := by kernel_rfl
@[simp] theorem ft_co16 : Program.concrete Try.prog 16 = true := by kernel_rfl
@[simp] theorem ft_lk17 : lkT Try.prog 17 = .one := by kernel_rfl
@[simp] theorem ft_ce17 : Program.cellsOf Try.prog 17 = 1 := by kernel_rfl
@[simp] theorem ft_by17 : Program.bytesOf Try.prog 17 = 8 := by kernel_rfl
@[simp] theorem ft_ze17 : zeroAV Try.prog 17 = .sc (.pointer none) := by kernel_rfl
@[simp] theorem ft_co17 : Program.concrete Try.prog 17 = true := by kernel_rfl
@[simp] theorem ft_lk18 : lkT Try.prog 18 = .agg 1 := by kernel_rfl
@[simp] theorem ft_ce18 : Program.cellsOf Try.prog 18 = 1 := by kernel_rfl
@[simp] theorem ft_by18 : Program.bytesOf Try.prog 18 = 8 := by kernel_rfl
@[simp] theorem ft_ze18 : zeroAV Try.prog 18 = .agg [.sc (.pointer none)] := by kernel_rfl
@[simp] theorem ft_co18 : Program.concrete Try.prog 18 = true := by kernel_rfl
@[simp] theorem ft_bu18 : buildT Try.prog 18 = true := by kernel_rfl
@[simp] theorem ft_pl18_0 : placeT Try.prog 18 0 = some (0, 1) := by kernel_rfl
@[simp] theorem ft_fi18_0 : fieldT Try.prog 18 0 = some (0, .one) := by kernel_rfl
@[simp] theorem ft_lk19 : lkT Try.prog 19 = .agg 1 := by kernel_rfl
@[simp] theorem ft_ce19 : Program.cellsOf Try.prog 19 = 1 := by kernel_rfl
@[simp] theorem ft_by19 : Program.bytesOf Try.prog 19 = 8 := by kernel_rfl
@[simp] theorem ft_ze19 : zeroAV Try.prog 19 = .agg [.sc (.pointer none)] := by kernel_rfl
@[simp] theorem ft_co19 : Program.concrete Try.prog 19 = true := by kernel_rfl
@[simp] theorem ft_bu19 : buildT Try.prog 19 = true := by kernel_rfl
@[simp] theorem ft_pl19_0 : placeT Try.prog 19 0 = some (0, 1) := by kernel_rfl
@[simp] theorem ft_fi19_0 : fieldT Try.prog 19 0 = some (0, .one) := by kernel_rfl
@[simp] theorem ft_lk20 : lkT Try.prog 20 = .one := by kernel_rfl
@[simp] theorem ft_ce20 : Program.cellsOf Try.prog 20 = 1 := by kernel_rfl
@[simp] theorem ft_by20 : Program.bytesOf Try.prog 20 = 16 := by kernel_rfl
@[simp] theorem ft_ze20 : zeroAV Try.prog 20 = .sc .nilIface := by kernel_rfl
@[simp] theorem ft_lk21 : lkT Try.prog 21 = .one := by kernel_rfl
@[simp] theorem ft_ce21 : Program.cellsOf Try.prog 21 = 1 := by kernel_rfl
@[simp] theorem ft_by21 : Program.bytesOf Try.prog 21 = 4 := by kernel_rfl
@[simp] theorem ft_ze21 : zeroAV Try.prog 21 = .sc (.int .i32 0) := by kernel_rfl
@[simp] theorem ft_co21 : Program.concrete Try.prog 21 = true := by kernel_rfl
@[simp] theorem ft_lk22 : lkT Try.prog 22 = .one := by kernel_rfl
@[simp] theorem ft_ce22 : Program.cellsOf Try.prog 22 = 1 := by kernel_rfl
@[simp] theorem ft_by22 : Program.bytesOf Try.prog 22 = 24 := by kernel_rfl
@[simp] theorem ft_ze22 : zeroAV Try.prog 22 = .nilS := by kernel_rfl
@[simp] theorem ft_co22 : Program.concrete Try.prog 22 = true := by kernel_rfl
@[simp] theorem ft_sl22 : sliceT Try.prog 22 = some 24 := by kernel_rfl
@[simp] theorem ft_lk23 : lkT Try.prog 23 = .agg 4 := by kernel_rfl
@[simp] theorem ft_ce23 : Program.cellsOf Try.prog 23 = 4 := by kernel_rfl
@[simp] theorem ft_by23 : Program.bytesOf Try.prog 23 = 32 := by kernel_rfl
@[simp] theorem ft_ze23 : zeroAV Try.prog 23 = .agg [.sc (.int .i64 0), .sc (.int .i64 0), .sc (.int .i64 0), .sc (.bool false)] := by kernel_rfl
@[simp] theorem ft_co23 : Program.concrete Try.prog 23 = true := by kernel_rfl
@[simp] theorem ft_bu23 : buildT Try.prog 23 = true := by kernel_rfl
@[simp] theorem ft_pl23_0 : placeT Try.prog 23 0 = some (0, 1) := by kernel_rfl
@[simp] theorem ft_fi23_0 : fieldT Try.prog 23 0 = some (0, .one) := by kernel_rfl
@[simp] theorem ft_pl23_1 : placeT Try.prog 23 1 = some (1, 1) := by kernel_rfl
@[simp] theorem ft_fi23_1 : fieldT Try.prog 23 1 = some (1, .one) := by kernel_rfl
@[simp] theorem ft_pl23_2 : placeT Try.prog 23 2 = some (2, 1) := by kernel_rfl
@[simp] theorem ft_fi23_2 : fieldT Try.prog 23 2 = some (2, .one) := by kernel_rfl
@[simp] theorem ft_pl23_3 : placeT Try.prog 23 3 = some (3, 1) := by kernel_rfl
@[simp] theorem ft_fi23_3 : fieldT Try.prog 23 3 = some (3, .one) := by kernel_rfl
@[simp] theorem ft_lk24 : lkT Try.prog 24 = .agg 4 := by kernel_rfl
@[simp] theorem ft_ce24 : Program.cellsOf Try.prog 24 = 4 := by kernel_rfl
@[simp] theorem ft_by24 : Program.bytesOf Try.prog 24 = 32 := by kernel_rfl
@[simp] theorem ft_ze24 : zeroAV Try.prog 24 = .agg [.sc (.int .i64 0), .sc (.int .i64 0), .sc (.int .i64 0), .sc (.bool false)] := by kernel_rfl
@[simp] theorem ft_co24 : Program.concrete Try.prog 24 = true := by kernel_rfl
@[simp] theorem ft_bu24 : buildT Try.prog 24 = true := by kernel_rfl
@[simp] theorem ft_pl24_0 : placeT Try.prog 24 0 = some (0, 1) := by kernel_rfl
@[simp] theorem ft_fi24_0 : fieldT Try.prog 24 0 = some (0, .one) := by kernel_rfl
@[simp] theorem ft_pl24_1 : placeT Try.prog 24 1 = some (1, 1) := by kernel_rfl
@[simp] theorem ft_fi24_1 : fieldT Try.prog 24 1 = some (1, .one) := by kernel_rfl
@[simp] theorem ft_pl24_2 : placeT Try.prog 24 2 = some (2, 1) := by kernel_rfl
@[simp] theorem ft_fi24_2 : fieldT Try.prog 24 2 = some (2, .one) := by kernel_rfl
@[simp] theorem ft_pl24_3 : placeT Try.prog 24 3 = some (3, 1) := by kernel_rfl
@[simp] theorem ft_fi24_3 : fieldT Try.prog 24 3 = some (3, .one) := by kernel_rfl
@[simp] theorem ft_lk25 : lkT Try.prog 25 = .agg 6 := by kernel_rfl
@[simp] theorem ft_ce25 : Program.cellsOf Try.prog 25 = 6 := by kernel_rfl
@[simp] theorem ft_by25 : Program.bytesOf Try.prog 25 = 64 := by kernel_rfl
@[simp] theorem ft_ze25 : zeroAV Try.prog 25 = .agg [.sc (.bool false), .nilS, .sc (.int .i64 0), .sc (.int .i64 0), .sc (.int .i64 0), .sc (.bool false)] := by kernel_rfl
@[simp] theorem ft_co25 : Program.concrete Try.prog 25 = true := by kernel_rfl
@[simp] theorem ft_bu25 : buildT Try.prog 25 = true := by kernel_rfl
@[simp] theorem ft_pl25_0 : placeT Try.prog 25 0 = some (0, 1) := by kernel_rfl
@[simp] theorem ft_fi25_0 : fieldT Try.prog 25 0 = some (0, .one) := by kernel_rfl
@[simp] theorem ft_pl25_1 : placeT Try.prog 25 1 = some (1, 1) := by kernel_rfl
@[simp] theorem ft_fi25_1 : fieldT Try.prog 25 1 = some (1, .one) := by kernel_rfl
@[simp] theorem ft_pl25_2 : placeT Try.prog 25 2 = some (2, 4) := by kernel_rfl
@[simp] theorem ft_fi25_2 : fieldT Try.prog 25 2 = some (2, .agg 4) := by kernel_rfl
@[simp] theorem ft_lk26 : lkT Try.prog 26 = .agg 6 := by kernel_rfl
@[simp] theorem ft_ce26 : Program.cellsOf Try.prog 26 = 6 := by kernel_rfl
@[simp] theorem ft_by26 : Program.bytesOf Try.prog 26 = 64 := by kernel_rfl
@[simp] theorem ft_ze26 : zeroAV Try.prog 26 = .agg [.sc (.bool false), .nilS, .sc (.int .i64 0), .sc (.int .i64 0), .sc (.int .i64 0), .sc (.bool false)] := by kernel_rfl
@[simp] theorem ft_co26 : Program.concrete Try.prog 26 = true := by kernel_rfl
@[simp] theorem ft_bu26 : buildT Try.prog 26 = true := by kernel_rfl
@[simp] theorem ft_pl26_0 : placeT Try.prog 26 0 = some (0, 1) := by kernel_rfl
@[simp] theorem ft_fi26_0 : fieldT Try.prog 26 0 = some (0, .one) := by kernel_rfl
@[simp] theorem ft_pl26_1 : placeT Try.prog 26 1 = some (1, 1) := by kernel_rfl
@[simp] theorem ft_fi26_1 : fieldT Try.prog 26 1 = some (1, .one) := by kernel_rfl
@[simp] theorem ft_pl26_2 : placeT Try.prog 26 2 = some (2, 4) := by kernel_rfl
@[simp] theorem ft_fi26_2 : fieldT Try.prog 26 2 = some (2, .agg 4) := by kernel_rfl
@[simp] theorem ft_lk27 : lkT Try.prog 27 = .one := by kernel_rfl
@[simp] theorem ft_ce27 : Program.cellsOf Try.prog 27 = 1 := by kernel_rfl
@[simp] theorem ft_by27 : Program.bytesOf Try.prog 27 = 8 := by kernel_rfl
@[simp] theorem ft_ze27 : zeroAV Try.prog 27 = .sc .nilFunc := by kernel_rfl
@[simp] theorem ft_co27 : Program.concrete Try.prog 27 = true := by kernel_rfl
@[simp] theorem ft_lk28 : lkT Try.prog 28 = .one := by kernel_rfl
@[simp] theorem ft_ce28 : Program.cellsOf Try.prog 28 = 1 := by kernel_rfl
@[simp] theorem ft_by28 : Program.bytesOf Try.prog 28 = 24 := by kernel_rfl
@[simp] theorem ft_ze28 : zeroAV Try.prog 28 = .nilS := by kernel_rfl
@[simp] theorem ft_co28 : Program.concrete Try.prog 28 = true := by kernel_rfl
@[simp] theorem ft_sl28 : sliceT Try.prog 28 = some 5 := by kernel_rfl
@[simp] theorem ft_lk29 : lkT Try.prog 29 = .one := by kernel_rfl
@[simp] theorem ft_ce29 : Program.cellsOf Try.prog 29 = 1 := by kernel_rfl
@[simp] theorem ft_by29 : Program.bytesOf Try.prog 29 = 8 := by kernel_rfl
@[simp] theorem ft_ze29 : zeroAV Try.prog 29 = .sc (.int .i64 0) := by kernel_rfl
@[simp] theorem ft_co29 : Program.concrete Try.prog 29 = true := by kernel_rfl
@[simp] theorem ft_lk31 : lkT Try.prog 31 = .one := by kernel_rfl
@[simp] theorem ft_ce31 : Program.cellsOf Try.prog 31 = 1 := by kernel_rfl
@[simp] theorem ft_by31 : Program.bytesOf Try.prog 31 = 8 := by kernel_rfl
@[simp] theorem ft_ze31 : zeroAV Try.prog 31 = .sc .nilFunc := by kernel_rfl
@[simp] theorem ft_co31 : Program.concrete Try.prog 31 = true := by kernel_rfl
@[simp] theorem ft_lk33 : lkT Try.prog 33 = .one := by kernel_rfl
@[simp] theorem ft_ce33 : Program.cellsOf Try.prog 33 = 1 := by kernel_rfl
@[simp] theorem ft_by33 : Program.bytesOf Try.prog 33 = 8 := by kernel_rfl
@[simp] theorem ft_ze33 : zeroAV Try.prog 33 = .sc .nilFunc := by kernel_rfl
@[simp] theorem ft_co33 : Program.concrete Try.prog 33 = true := by kernel_rfl
@[simp] theorem ft_lk34 : lkT Try.prog 34 = .one := by kernel_rfl
@[simp] theorem ft_ce34 : Program.cellsOf Try.prog 34 = 1 := by kernel_rfl
@[simp] theorem ft_by34 : Program.bytesOf Try.prog 34 = 8 := by kernel_rfl
@[simp] theorem ft_ze34 : zeroAV Try.prog 34 = .sc .nilFunc := by kernel_rfl
@[simp] theorem ft_co34 : Program.concrete Try.prog 34 = true := by kernel_rfl
@[simp] theorem ft_lk36 : lkT Try.prog 36 = .one := by kernel_rfl
@[simp] theorem ft_ce36 : Program.cellsOf Try.prog 36 = 1 := by kernel_rfl
@[simp] theorem ft_by36 : Program.bytesOf Try.prog 36 = 8 := by kernel_rfl
@[simp] theorem ft_ze36 : zeroAV Try.prog 36 = .sc .nilFunc := by kernel_rfl
@[simp] theorem ft_co36 : Program.concrete Try.prog 36 = true := by kernel_rfl
@[simp] theorem ft_lk37 : lkT Try.prog 37 = .one := by kernel_rfl
@[simp] theorem ft_ce37 : Program.cellsOf Try.prog 37 = 1 := by kernel_rfl
@[simp] theorem ft_by37 : Program.bytesOf Try.prog 37 = 8 := by kernel_rfl
@[simp] theorem ft_ze37 : zeroAV Try.prog 37 = .sc .nilFunc := by kernel_rfl
@[simp] theorem ft_co37 : Program.concrete Try.prog 37 = true := by kernel_rfl
@[simp] theorem ft_lk38 : lkT Try.prog 38 = .one := by kernel_rfl
@[simp] theorem ft_ce38 : Program.cellsOf Try.prog 38 = 1 := by kernel_rfl
@[simp] theorem ft_by38 : Program.bytesOf Try.prog 38 = 8 := by kernel_rfl
@[simp] theorem ft_ze38 : zeroAV Try.prog 38 = .sc .nilFunc := by kernel_rfl
@[simp] theorem ft_co38 : Program.concrete Try.prog 38 = true := by kernel_rfl
@[simp] theorem ft_lk39 : lkT Try.prog 39 = .one := by kernel_rfl
@[simp] theorem ft_ce39 : Program.cellsOf Try.prog 39 = 1 := by kernel_rfl
@[simp] theorem ft_by39 : Program.bytesOf Try.prog 39 = 8 := by kernel_rfl
@[simp] theorem ft_ze39 : zeroAV Try.prog 39 = .sc .nilFunc := by kernel_rfl
@[simp] theorem ft_co39 : Program.concrete Try.prog 39 = true := by kernel_rfl
@[simp] theorem ft_lk40 : lkT Try.prog 40 = .one := by kernel_rfl
@[simp] theorem ft_ce40 : Program.cellsOf Try.prog 40 = 1 := by kernel_rfl
@[simp] theorem ft_by40 : Program.bytesOf Try.prog 40 = 8 := by kernel_rfl
@[simp] theorem ft_ze40 : zeroAV Try.prog 40 = .sc .nilFunc := by kernel_rfl
@[simp] theorem ft_co40 : Program.concrete Try.prog 40 = true := by kernel_rfl
@[simp] theorem ft_lk41 : lkT Try.prog 41 = .one := by kernel_rfl
@[simp] theorem ft_ce41 : Program.cellsOf Try.prog 41 = 1 := by kernel_rfl
@[simp] theorem ft_by41 : Program.bytesOf Try.prog 41 = 8 := by kernel_rfl
@[simp] theorem ft_ze41 : zeroAV Try.prog 41 = .sc .nilFunc := by kernel_rfl
@[simp] theorem ft_co41 : Program.concrete Try.prog 41 = true := by kernel_rfl
@[simp] theorem ft_lk43 : lkT Try.prog 43 = .one := by kernel_rfl
@[simp] theorem ft_ce43 : Program.cellsOf Try.prog 43 = 1 := by kernel_rfl
@[simp] theorem ft_by43 : Program.bytesOf Try.prog 43 = 8 := by kernel_rfl
@[simp] theorem ft_ze43 : zeroAV Try.prog 43 = .sc .nilFunc := by kernel_rfl
@[simp] theorem ft_co43 : Program.concrete Try.prog 43 = true := by kernel_rfl
@[simp] theorem ft_lk44 : lkT Try.prog 44 = .one := by kernel_rfl
@[simp] theorem ft_ce44 : Program.cellsOf Try.prog 44 = 1 := by kernel_rfl
@[simp] theorem ft_by44 : Program.bytesOf Try.prog 44 = 8 := by kernel_rfl
@[simp] theorem ft_ze44 : zeroAV Try.prog 44 = .sc .nilFunc := by kernel_rfl
@[simp] theorem ft_co44 : Program.concrete Try.prog 44 = true := by kernel_rfl
@[simp] theorem ft_lk45 : lkT Try.prog 45 = .one := by kernel_rfl
@[simp] theorem ft_ce45 : Program.cellsOf Try.prog 45 = 1 := by kernel_rfl
@[simp] theorem ft_by45 : Program.bytesOf Try.prog 45 = 8 := by kernel_rfl
@[simp] theorem ft_ze45 : zeroAV Try.prog 45 = .sc .nilFunc := by kernel_rfl
@[simp] theorem ft_co45 : Program.concrete Try.prog 45 = true := by kernel_rfl
@[simp] theorem ft_lk46 : lkT Try.prog 46 = .one := by kernel_rfl
@[simp] theorem ft_ce46 : Program.cellsOf Try.prog 46 = 1 := by kernel_rfl
@[simp] theorem ft_by46 : Program.bytesOf Try.prog 46 = 8 := by kernel_rfl
@[simp] theorem ft_ze46 : zeroAV Try.prog 46 = .sc .nilFunc := by kernel_rfl
@[simp] theorem ft_co46 : Program.concrete Try.prog 46 = true := by kernel_rfl
@[simp] theorem ft_lk48 : lkT Try.prog 48 = .one := by kernel_rfl
@[simp] theorem ft_ce48 : Program.cellsOf Try.prog 48 = 1 := by kernel_rfl
@[simp] theorem ft_by48 : Program.bytesOf Try.prog 48 = 8 := by kernel_rfl
@[simp] theorem ft_ze48 : zeroAV Try.prog 48 = .sc .nilFunc := by kernel_rfl
@[simp] theorem ft_co48 : Program.concrete Try.prog 48 = true := by kernel_rfl
@[simp] theorem ft_lk49 : lkT Try.prog 49 = .one := by kernel_rfl
@[simp] theorem ft_ce49 : Program.cellsOf Try.prog 49 = 1 := by kernel_rfl
@[simp] theorem ft_by49 : Program.bytesOf Try.prog 49 = 8 := by kernel_rfl
@[simp] theorem ft_ze49 : zeroAV Try.prog 49 = .sc .nilFunc := by kernel_rfl
@[simp] theorem ft_co49 : Program.concrete Try.prog 49 = true := by kernel_rfl
@[simp] theorem ft_lk50 : lkT Try.prog 50 = .one := by kernel_rfl
@[simp] theorem ft_ce50 : Program.cellsOf Try.prog 50 = 1 := by kernel_rfl
@[simp] theorem ft_by50 : Program.bytesOf Try.prog 50 = 8 := by kernel_rfl
@[simp] theorem ft_ze50 : zeroAV Try.prog 50 = .sc .nilFunc := by kernel_rfl
@[simp] theorem ft_co50 : Program.concrete Try.prog 50 = true := by kernel_rfl
@[simp] theorem ft_lk51 : lkT Try.prog 51 = .one := by kernel_rfl
@[simp] theorem ft_ce51 : Program.cellsOf Try.prog 51 = 1 := by kernel_rfl
@[simp] theorem ft_by51 : Program.bytesOf Try.prog 51 = 8 := by kernel_rfl
@[simp] theorem ft_ze51 : zeroAV Try.prog 51 = .sc .nilFunc := by kernel_rfl
@[simp] theorem ft_co51 : Program.concrete Try.prog 51 = true := by kernel_rfl
@[simp] theorem ft_lk53 : lkT Try.prog 53 = .one := by kernel_rfl
@[simp] theorem ft_ce53 : Program.cellsOf Try.prog 53 = 1 := by kernel_rfl
@[simp] theorem ft_by53 : Program.bytesOf Try.prog 53 = 8 := by kernel_rfl
@[simp] theorem ft_ze53 : zeroAV Try.prog 53 = .sc .nilFunc := by kernel_rfl
@[simp] theorem ft_co53 : Program.concrete Try.prog 53 = true := by kernel_rfl
@[simp] theorem ft_lk55 : lkT Try.prog 55 = .one := by kernel_rfl
@[simp] theorem ft_ce55 : Program.cellsOf Try.prog 55 = 1 := by kernel_rfl
@[simp] theorem ft_by55 : Program.bytesOf Try.prog 55 = 8 := by kernel_rfl
@[simp] theorem ft_ze55 : zeroAV Try.prog 55 = .sc .nilFunc := by kernel_rfl
@[simp] theorem ft_co55 : Program.concrete Try.prog 55 = true := by kernel_rfl
@[simp] theorem ft_lk57 : lkT Try.prog 57 = .one := by kernel_rfl
@[simp] theorem ft_ce57 : Program.cellsOf Try.prog 57 = 1 := by kernel_rfl
@[simp] theorem ft_by57 : Program.bytesOf Try.prog 57 = 8 := by kernel_rfl
@[simp] theorem ft_ze57 : zeroAV Try.prog 57 = .sc .nilFunc := by kernel_rfl
@[simp] theorem ft_co57 : Program.concrete Try.prog 57 = true := by kernel_rfl
@[simp] theorem ft_lk58 : lkT Try.prog 58 = .agg 6 := by kernel_rfl
@[simp] theorem ft_ce58 : Program.cellsOf Try.prog 58 = 6 := by kernel_rfl
@[simp] theorem ft_by58 : Program.bytesOf Try.prog 58 = 48 := by kernel_rfl
@[simp] theorem ft_ze58 : zeroAV Try.prog 58 = .agg [.sc (.int .i64 0), .sc (.int .i64 0), .sc (.int .i64 0), .sc (.int .i64 0), .sc (.int .i64 0), .sc (.bool false)] := by kernel_rfl
@[simp] theorem ft_co58 : Program.concrete Try.prog 58 = true := by kernel_rfl
@[simp] theorem ft_bu58 : buildT Try.prog 58 = true := by kernel_rfl
@[simp] theorem ft_pl58_0 : placeT Try.prog 58 0 = some (0, 1) := by kernel_rfl
@[simp] theorem ft_fi58_0 : fieldT Try.prog 58 0 = some (0, .one) := by kernel_rfl
@[simp] theorem ft_pl58_1 : placeT Try.prog 58 1 = some (1, 1) := by kernel_rfl
@[simp] theorem ft_fi58_1 : fieldT Try.prog 58 1 = some (1, .one) := by kernel_rfl
@[simp] theorem ft_pl58_2 : placeT Try.prog 58 2 = some (2, 4) := by kernel_rfl
@[simp] theorem ft_fi58_2 : fieldT Try.prog 58 2 = some (2, .agg 4) := by kernel_rfl
@[simp] theorem ft_lk59 : lkT Try.prog 59 = .agg 6 := by kernel_rfl
@[simp] theorem ft_ce59 : Program.cellsOf Try.prog 59 = 6 := by kernel_rfl
@[simp] theorem ft_by59 : Program.bytesOf Try.prog 59 = 48 := by kernel_rfl
@[simp] theorem ft_ze59 : zeroAV Try.prog 59 = .agg [.sc (.int .i64 0), .sc (.int .i64 0), .sc (.int .i64 0), .sc (.int .i64 0), .sc (.int .i64 0), .sc (.bool false)] := by kernel_rfl
@[simp] theorem ft_co59 : Program.concrete Try.prog 59 = true := by kernel_rfl
@[simp] theorem ft_bu59 : buildT Try.prog 59 = true := by kernel_rfl
@[simp] theorem ft_pl59_0 : placeT Try.prog 59 0 = some (0, 1) := by kernel_rfl
@[simp] theorem ft_fi59_0 : fieldT Try.prog 59 0 = some (0, .one) := by kernel_rfl
@[simp] theorem ft_pl59_1 : placeT Try.prog 59 1 = some (1, 1) := by kernel_rfl
@[simp] theorem ft_fi59_1 : fieldT Try.prog 59 1 = some (1, .one) := by kernel_rfl
@[simp] theorem ft_pl59_2 : placeT Try.prog 59 2 = some (2, 4) := by kernel_rfl
@[simp] theorem ft_fi59_2 : fieldT Try.prog 59 2 = some (2, .agg 4) := by kernel_rfl
@[simp] theorem ft_lk60 : lkT Try.prog 60 = .one := by kernel_rfl
@[simp] theorem ft_ce60 : Program.cellsOf Try.prog 60 = 1 := by kernel_rfl
@[simp] theorem ft_by60 : Program.bytesOf Try.prog 60 = 8 := by kernel_rfl
@[simp] theorem ft_ze60 : zeroAV Try.prog 60 = .sc .nilFunc := by kernel_rfl
@[simp] theorem ft_co60 : Program.concrete Try.prog 60 = true := by kernel_rfl
@[simp] theorem ft_lk61 : lkT Try.prog 61 = .one := by kernel_rfl
@[simp] theorem ft_ce61 : Program.cellsOf Try.prog 61 = 1 := by kernel_rfl
@[simp] theorem ft_by61 : Program.bytesOf Try.prog 61 = 8 := by kernel_rfl
@[simp] theorem ft_ze61 : zeroAV Try.prog 61 = .sc .nilFunc := by kernel_rfl
@[simp] theorem ft_co61 : Program.concrete Try.prog 61 = true := by kernel_rfl
@[simp] theorem ft_lk62 : lkT Try.prog 62 = .one := by kernel_rfl
@[simp] theorem ft_ce62 : Program.cellsOf Try.prog 62 = 1 := by kernel_rfl
@[simp] theorem ft_by62 : Program.bytesOf Try.prog 62 = 8 := by kernel_rfl
@[simp] theorem ft_ze62 : zeroAV Try.prog 62 = .sc .nilFunc := by kernel_rfl
@[simp] theorem ft_co62 : Program.concrete Try.prog 62 = true := by kernel_rfl
@[simp] theorem ft_lk63 : lkT Try.prog 63 = .agg 3 := by kernel_rfl
@[simp] theorem ft_ce63 : Program.cellsOf Try.prog 63 = 3 := by kernel_rfl
@[simp] theorem ft_by63 : Program.bytesOf Try.prog 63 = 32 := by kernel_rfl
@[simp] theorem ft_ze63 : zeroAV Try.prog 63 = .agg [.sc (.string .empty), .sc (.int .i64 0), .sc (.int .i64 0)] := by kernel_rfl
@[simp] theorem ft_co63 : Program.concrete Try.prog 63 = true := by kernel_rfl
@[simp] theorem ft_bu63 : buildT Try.prog 63 = true := by kernel_rfl
@[simp] theorem ft_pl63_0 : placeT Try.prog 63 0 = some (0, 1) := by kernel_rfl
@[simp] theorem ft_fi63_0 : fieldT Try.prog 63 0 = some (0, .one) := by kernel_rfl
@[simp] theorem ft_pl63_1 : placeT Try.prog 63 1 = some (1, 1) := by kernel_rfl
@[simp] theorem ft_fi63_1 : fieldT Try.prog 63 1 = some (1, .one) := by kernel_rfl
@[simp] theorem ft_pl63_2 : placeT Try.prog 63 2 = some (2, 1) := by kernel_rfl
@[simp] theorem ft_fi63_2 : fieldT Try.prog 63 2 = some (2, .one) := by kernel_rfl
@[simp] theorem ft_lk64 : lkT Try.prog 64 = .agg 3 := by kernel_rfl
@[simp] theorem ft_ce64 : Program.cellsOf Try.prog 64 = 3 := by kernel_rfl
@[simp] theorem ft_by64 : Program.bytesOf Try.prog 64 = 32 := by kernel_rfl
@[simp] theorem ft_ze64 : zeroAV Try.prog 64 = .agg [.sc (.string .empty), .sc (.int .i64 0), .sc (.int .i64 0)] := by kernel_rfl
@[simp] theorem ft_co64 : Program.concrete Try.prog 64 = true := by kernel_rfl
@[simp] theorem ft_bu64 : buildT Try.prog 64 = true := by kernel_rfl
@[simp] theorem ft_pl64_0 : placeT Try.prog 64 0 = some (0, 1) := by kernel_rfl
@[simp] theorem ft_fi64_0 : fieldT Try.prog 64 0 = some (0, .one) := by kernel_rfl
@[simp] theorem ft_pl64_1 : placeT Try.prog 64 1 = some (1, 1) := by kernel_rfl
@[simp] theorem ft_fi64_1 : fieldT Try.prog 64 1 = some (1, .one) := by kernel_rfl
@[simp] theorem ft_pl64_2 : placeT Try.prog 64 2 = some (2, 1) := by kernel_rfl
@[simp] theorem ft_fi64_2 : fieldT Try.prog 64 2 = some (2, .one) := by kernel_rfl
@[simp] theorem ft_lk66 : lkT Try.prog 66 = .one := by kernel_rfl
@[simp] theorem ft_ce66 : Program.cellsOf Try.prog 66 = 1 := by kernel_rfl
@[simp] theorem ft_by66 : Program.bytesOf Try.prog 66 = 8 := by kernel_rfl
@[simp] theorem ft_ze66 : zeroAV Try.prog 66 = .sc .nilFunc := by kernel_rfl
@[simp] theorem ft_co66 : Program.concrete Try.prog 66 = true := by kernel_rfl
@[simp] theorem ft_lk67 : lkT Try.prog 67 = .one := by kernel_rfl
@[simp] theorem ft_ce67 : Program.cellsOf Try.prog 67 = 1 := by kernel_rfl
@[simp] theorem ft_by67 : Program.bytesOf Try.prog 67 = 8 := by kernel_rfl
@[simp] theorem ft_ze67 : zeroAV Try.prog 67 = .sc .nilFunc := by kernel_rfl
@[simp] theorem ft_co67 : Program.concrete Try.prog 67 = true := by kernel_rfl
@[simp] theorem ft_lk68 : lkT Try.prog 68 = .one := by kernel_rfl
@[simp] theorem ft_ce68 : Program.cellsOf Try.prog 68 = 1 := by kernel_rfl
@[simp] theorem ft_by68 : Program.bytesOf Try.prog 68 = 8 := by kernel_rfl
@[simp] theorem ft_ze68 : zeroAV Try.prog 68 = .sc .nilFunc := by kernel_rfl
@[simp] theorem ft_co68 : Program.concrete Try.prog 68 = true := by kernel_rfl
@[simp] theorem ft_lk70 : lkT Try.prog 70 = .one := by kernel_rfl
@[simp] theorem ft_ce70 : Program.cellsOf Try.prog 70 = 1 := by kernel_rfl
@[simp] theorem ft_by70 : Program.bytesOf Try.prog 70 = 8 := by kernel_rfl
@[simp] theorem ft_ze70 : zeroAV Try.prog 70 = .sc .nilFunc := by kernel_rfl
@[simp] theorem ft_co70 : Program.concrete Try.prog 70 = true := by kernel_rfl
@[simp] theorem ft_lk72 : lkT Try.prog 72 = .one := by kernel_rfl
@[simp] theorem ft_ce72 : Program.cellsOf Try.prog 72 = 1 := by kernel_rfl
@[simp] theorem ft_by72 : Program.bytesOf Try.prog 72 = 8 := by kernel_rfl
@[simp] theorem ft_ze72 : zeroAV Try.prog 72 = .sc .nilFunc := by kernel_rfl
@[simp] theorem ft_co72 : Program.concrete Try.prog 72 = true := by kernel_rfl
@[simp] theorem ft_lk74 : lkT Try.prog 74 = .one := by kernel_rfl
@[simp] theorem ft_ce74 : Program.cellsOf Try.prog 74 = 1 := by kernel_rfl
@[simp] theorem ft_by74 : Program.bytesOf Try.prog 74 = 8 := by kernel_rfl
@[simp] theorem ft_ze74 : zeroAV Try.prog 74 = .sc .nilFunc := by kernel_rfl
@[simp] theorem ft_co74 : Program.concrete Try.prog 74 = true := by kernel_rfl
@[simp] theorem ft_lk75 : lkT Try.prog 75 = .one := by kernel_rfl
@[simp] theorem ft_ce75 : Program.cellsOf Try.prog 75 = 1 := by kernel_rfl
@[simp] theorem ft_by75 : Program.bytesOf Try.prog 75 = 8 := by kernel_rfl
@[simp] theorem ft_ze75 : zeroAV Try.prog 75 = .sc .nilFunc := by kernel_rfl
@[simp] theorem ft_co75 : Program.concrete Try.prog 75 = true := by kernel_rfl
@[simp] theorem ft_lk76 : lkT Try.prog 76 = .agg 4 := by kernel_rfl
@[simp] theorem ft_ce76 : Program.cellsOf Try.prog 76 = 4 := by kernel_rfl
@[simp] theorem ft_by76 : Program.bytesOf Try.prog 76 = 32 := by kernel_rfl
@[simp] theorem ft_ze76 : zeroAV Try.prog 76 = .agg [.sc (.int .i64 0), .sc (.int .i64 0), .sc (.int .i64 0), .sc (.bool false)] := by kernel_rfl
@[simp] theorem ft_co76 : Program.concrete Try.prog 76 = true := by kernel_rfl
@[simp] theorem ft_bu76 : buildT Try.prog 76 = true := by kernel_rfl
@[simp] theorem ft_pl76_0 : placeT Try.prog 76 0 = some (0, 1) := by kernel_rfl
@[simp] theorem ft_fi76_0 : fieldT Try.prog 76 0 = some (0, .one) := by kernel_rfl
@[simp] theorem ft_pl76_1 : placeT Try.prog 76 1 = some (1, 1) := by kernel_rfl
@[simp] theorem ft_fi76_1 : fieldT Try.prog 76 1 = some (1, .one) := by kernel_rfl
@[simp] theorem ft_pl76_2 : placeT Try.prog 76 2 = some (2, 1) := by kernel_rfl
@[simp] theorem ft_fi76_2 : fieldT Try.prog 76 2 = some (2, .one) := by kernel_rfl
@[simp] theorem ft_pl76_3 : placeT Try.prog 76 3 = some (3, 1) := by kernel_rfl
@[simp] theorem ft_fi76_3 : fieldT Try.prog 76 3 = some (3, .one) := by kernel_rfl
@[simp] theorem ft_lk77 : lkT Try.prog 77 = .one := by kernel_rfl
@[simp] theorem ft_ce77 : Program.cellsOf Try.prog 77 = 1 := by kernel_rfl
@[simp] theorem ft_by77 : Program.bytesOf Try.prog 77 = 8 := by kernel_rfl
@[simp] theorem ft_ze77 : zeroAV Try.prog 77 = .sc .nilFunc := by kernel_rfl
@[simp] theorem ft_co77 : Program.concrete Try.prog 77 = true := by kernel_rfl
@[simp] theorem ft_lk78 : lkT Try.prog 78 = .one := by kernel_rfl
@[simp] theorem ft_ce78 : Program.cellsOf Try.prog 78 = 1 := by kernel_rfl
@[simp] theorem ft_by78 : Program.bytesOf Try.prog 78 = 8 := by kernel_rfl
@[simp] theorem ft_ze78 : zeroAV Try.prog 78 = .sc .nilFunc := by kernel_rfl
@[simp] theorem ft_co78 : Program.concrete Try.prog 78 = true := by kernel_rfl
@[simp] theorem ft_lk79 : lkT Try.prog 79 = .one := by kernel_rfl
@[simp] theorem ft_ce79 : Program.cellsOf Try.prog 79 = 1 := by kernel_rfl
@[simp] theorem ft_by79 : Program.bytesOf Try.prog 79 = 8 := by kernel_rfl
@[simp] theorem ft_ze79 : zeroAV Try.prog 79 = .sc (.int .i64 0) := by kernel_rfl
@[simp] theorem ft_co79 : Program.concrete Try.prog 79 = true := by kernel_rfl
@[simp] theorem ft_lk81 : lkT Try.prog 81 = .one := by kernel_rfl
@[simp] theorem ft_ce81 : Program.cellsOf Try.prog 81 = 1 := by kernel_rfl
@[simp] theorem ft_by81 : Program.bytesOf Try.prog 81 = 8 := by kernel_rfl
@[simp] theorem ft_ze81 : zeroAV Try.prog 81 = .sc (.pointer none) := by kernel_rfl
@[simp] theorem ft_co81 : Program.concrete Try.prog 81 = true := by kernel_rfl
@[simp] theorem ft_lk82 : lkT Try.prog 82 = .one := by kernel_rfl
@[simp] theorem ft_ce82 : Program.cellsOf Try.prog 82 = 1 := by kernel_rfl
@[simp] theorem ft_by82 : Program.bytesOf Try.prog 82 = 8 := by kernel_rfl
@[simp] theorem ft_ze82 : zeroAV Try.prog 82 = .sc .nilFunc := by kernel_rfl
@[simp] theorem ft_co82 : Program.concrete Try.prog 82 = true := by kernel_rfl
@[simp] theorem ft_lk83 : lkT Try.prog 83 = .agg 1 := by kernel_rfl
@[simp] theorem ft_ce83 : Program.cellsOf Try.prog 83 = 1 := by kernel_rfl
@[simp] theorem ft_by83 : Program.bytesOf Try.prog 83 = 8 := by kernel_rfl
@[simp] theorem ft_ze83 : zeroAV Try.prog 83 = .agg [.sc (.pointer none)] := by kernel_rfl
@[simp] theorem ft_co83 : Program.concrete Try.prog 83 = true := by kernel_rfl
@[simp] theorem ft_bu83 : buildT Try.prog 83 = true := by kernel_rfl
@[simp] theorem ft_pl83_0 : placeT Try.prog 83 0 = some (0, 1) := by kernel_rfl
@[simp] theorem ft_fi83_0 : fieldT Try.prog 83 0 = some (0, .one) := by kernel_rfl
@[simp] theorem ft_lk84 : lkT Try.prog 84 = .agg 1 := by kernel_rfl
@[simp] theorem ft_ce84 : Program.cellsOf Try.prog 84 = 1 := by kernel_rfl
@[simp] theorem ft_by84 : Program.bytesOf Try.prog 84 = 8 := by kernel_rfl
@[simp] theorem ft_ze84 : zeroAV Try.prog 84 = .agg [.sc (.pointer none)] := by kernel_rfl
@[simp] theorem ft_co84 : Program.concrete Try.prog 84 = true := by kernel_rfl
@[simp] theorem ft_bu84 : buildT Try.prog 84 = true := by kernel_rfl
@[simp] theorem ft_pl84_0 : placeT Try.prog 84 0 = some (0, 1) := by kernel_rfl
@[simp] theorem ft_fi84_0 : fieldT Try.prog 84 0 = some (0, .one) := by kernel_rfl
@[simp] theorem ft_lk85 : lkT Try.prog 85 = .one := by kernel_rfl
@[simp] theorem ft_ce85 : Program.cellsOf Try.prog 85 = 1 := by kernel_rfl
@[simp] theorem ft_by85 : Program.bytesOf Try.prog 85 = 8 := by kernel_rfl
@[simp] theorem ft_ze85 : zeroAV Try.prog 85 = .sc .nilFunc := by kernel_rfl
@[simp] theorem ft_co85 : Program.concrete Try.prog 85 = true := by kernel_rfl
@[simp] theorem ft_lk86 : lkT Try.prog 86 = .one := by kernel_rfl
@[simp] theorem ft_ce86 : Program.cellsOf Try.prog 86 = 1 := by kernel_rfl
@[simp] theorem ft_by86 : Program.bytesOf Try.prog 86 = 8 := by kernel_rfl
@[simp] theorem ft_ze86 : zeroAV Try.prog 86 = .sc .nilFunc := by kernel_rfl
@[simp] theorem ft_co86 : Program.concrete Try.prog 86 = true := by kernel_rfl
@[simp] theorem ft_lk87 : lkT Try.prog 87 = .one := by kernel_rfl
@[simp] theorem ft_ce87 : Program.cellsOf Try.prog 87 = 1 := by kernel_rfl
@[simp] theorem ft_by87 : Program.bytesOf Try.prog 87 = 8 := by kernel_rfl
@[simp] theorem ft_ze87 : zeroAV Try.prog 87 = .sc .nilFunc := by kernel_rfl
@[simp] theorem ft_co87 : Program.concrete Try.prog 87 = true := by kernel_rfl
@[simp] theorem ft_lk88 : lkT Try.prog 88 = .one := by kernel_rfl
@[simp] theorem ft_ce88 : Program.cellsOf Try.prog 88 = 1 := by kernel_rfl
@[simp] theorem ft_by88 : Program.bytesOf Try.prog 88 = 8 := by kernel_rfl
@[simp] theorem ft_ze88 : zeroAV Try.prog 88 = .sc .nilFunc := by kernel_rfl
@[simp] theorem ft_co88 : Program.concrete Try.prog 88 = true := by kernel_rfl
@[simp] theorem ft_lk89 : lkT Try.prog 89 = .one := by kernel_rfl
@[simp] theorem ft_ce89 : Program.cellsOf Try.prog 89 = 1 := by kernel_rfl
@[simp] theorem ft_by89 : Program.bytesOf Try.prog 89 = 8 := by kernel_rfl
@[simp] theorem ft_ze89 : zeroAV Try.prog 89 = .sc .nilFunc := by kernel_rfl
@[simp] theorem ft_co89 : Program.concrete Try.prog 89 = true := by kernel_rfl
@[simp] theorem ft_lk90 : lkT Try.prog 90 = .one := by kernel_rfl
@[simp] theorem ft_ce90 : Program.cellsOf Try.prog 90 = 1 := by kernel_rfl
@[simp] theorem ft_by90 : Program.bytesOf Try.prog 90 = 8 := by kernel_rfl
@[simp] theorem ft_ze90 : zeroAV Try.prog 90 = .sc .nilFunc := by kernel_rfl
@[simp] theorem ft_co90 : Program.concrete Try.prog 90 = true := by kernel_rfl
@[simp] theorem ft_lk91 : lkT Try.prog 91 = .one := by kernel_rfl
@[simp] theorem ft_ce91 : Program.cellsOf Try.prog 91 = 1 := by kernel_rfl
@[simp] theorem ft_by91 : Program.bytesOf Try.prog 91 = 8 := by kernel_rfl
@[simp] theorem ft_ze91 : zeroAV Try.prog 91 = .sc .nilFunc := by kernel_rfl
@[simp] theorem ft_co91 : Program.concrete Try.prog 91 = true := by kernel_rfl
@[simp] theorem ft_lk92 : lkT Try.prog 92 = .one := by kernel_rfl
@[simp] theorem ft_ce92 : Program.cellsOf Try.prog 92 = 1 := by kernel_rfl
@[simp] theorem ft_by92 : Program.bytesOf Try.prog 92 = 8 := by kernel_rfl
@[simp] theorem ft_ze92 : zeroAV Try.prog 92 = .sc .nilFunc := by kernel_rfl
@[simp] theorem ft_co92 : Program.concrete Try.prog 92 = true := by kernel_rfl
@[simp] theorem ft_lk93 : lkT Try.prog 93 = .agg 6 := by kernel_rfl
@[simp] theorem ft_ce93 : Program.cellsOf Try.prog 93 = 6 := by kernel_rfl
@[simp] theorem ft_by93 : Program.bytesOf Try.prog 93 = 48 := by kernel_rfl
@[simp] theorem ft_ze93 : zeroAV Try.prog 93 = .agg [.sc (.int .i64 0), .sc (.int .i64 0), .sc (.int .i64 0), .sc (.bool false), .sc (.int .i64 0), .sc (.int .i64 0)] := by kernel_rfl
@[simp] theorem ft_co93 : Program.concrete Try.prog 93 = true := by kernel_rfl
@[simp] theorem ft_bu93 : buildT Try.prog 93 = true := by kernel_rfl
@[simp] theorem ft_pl93_0 : placeT Try.prog 93 0 = some (0, 4) := by kernel_rfl
@[simp] theorem ft_fi93_0 : fieldT Try.prog 93 0 = some (0, .agg 4) := by kernel_rfl
@[simp] theorem ft_pl93_1 : placeT Try.prog 93 1 = some (4, 1) := by kernel_rfl
@[simp] theorem ft_fi93_1 : fieldT Try.prog 93 1 = some (4, .one) := by kernel_rfl
@[simp] theorem ft_pl93_2 : placeT Try.prog 93 2 = some (5, 1) := by kernel_rfl
@[simp] theorem ft_fi93_2 : fieldT Try.prog 93 2 = some (5, .one) := by kernel_rfl
@[simp] theorem ft_lk94 : lkT Try.prog 94 = .agg 6 := by kernel_rfl
@[simp] theorem ft_ce94 : Program.cellsOf Try.prog 94 = 6 := by kernel_rfl
@[simp] theorem ft_by94 : Program.bytesOf Try.prog 94 = 48 := by kernel_rfl
@[simp] theorem ft_ze94 : zeroAV Try.prog 94 = .agg [.sc (.int .i64 0), .sc (.int .i64 0), .sc (.int .i64 0), .sc (.bool false), .sc (.int .i64 0), .sc (.int .i64 0)] := by kernel_rfl
@[simp] theorem ft_co94 : Program.concrete Try.prog 94 = true := by kernel_rfl
@[simp] theorem ft_bu94 : buildT Try.prog 94 = true := by kernel_rfl
@[simp] theorem ft_pl94_0 : placeT Try.prog 94 0 = some (0, 4) := by kernel_rfl
@[simp] theorem ft_fi94_0 : fieldT Try.prog 94 0 = some (0, .agg 4) := by kernel_rfl
@[simp] theorem ft_pl94_1 : placeT Try.prog 94 1 = some (4, 1) := by kernel_rfl
@[simp] theorem ft_fi94_1 : fieldT Try.prog 94 1 = some (4, .one) := by kernel_rfl
@[simp] theorem ft_pl94_2 : placeT Try.prog 94 2 = some (5, 1) := by kernel_rfl
@[simp] theorem ft_fi94_2 : fieldT Try.prog 94 2 = some (5, .one) := by kernel_rfl
@[simp] theorem ft_lk95 : lkT Try.prog 95 = .one := by kernel_rfl
@[simp] theorem ft_ce95 : Program.cellsOf Try.prog 95 = 1 := by kernel_rfl
@[simp] theorem ft_by95 : Program.bytesOf Try.prog 95 = 8 := by kernel_rfl
@[simp] theorem ft_ze95 : zeroAV Try.prog 95 = .sc .nilFunc := by kernel_rfl
@[simp] theorem ft_co95 : Program.concrete Try.prog 95 = true := by kernel_rfl
@[simp] theorem ft_lk96 : lkT Try.prog 96 = .agg 3 := by kernel_rfl
@[simp] theorem ft_ce96 : Program.cellsOf Try.prog 96 = 3 := by kernel_rfl
@[simp] theorem ft_by96 : Program.bytesOf Try.prog 96 = 24 := by kernel_rfl
@[simp] theorem ft_ze96 : zeroAV Try.prog 96 = .agg [.sc (.int .i64 0), .sc (.int .i64 0), .sc (.int .i64 0)] := by kernel_rfl
@[simp] theorem ft_co96 : Program.concrete Try.prog 96 = true := by kernel_rfl
@[simp] theorem ft_bu96 : buildT Try.prog 96 = true := by kernel_rfl
@[simp] theorem ft_pl96_0 : placeT Try.prog 96 0 = some (0, 1) := by kernel_rfl
@[simp] theorem ft_fi96_0 : fieldT Try.prog 96 0 = some (0, .one) := by kernel_rfl
@[simp] theorem ft_pl96_1 : placeT Try.prog 96 1 = some (1, 1) := by kernel_rfl
@[simp] theorem ft_fi96_1 : fieldT Try.prog 96 1 = some (1, .one) := by kernel_rfl
@[simp] theorem ft_pl96_2 : placeT Try.prog 96 2 = some (2, 1) := by kernel_rfl
@[simp] theorem ft_fi96_2 : fieldT Try.prog 96 2 = some (2, .one) := by kernel_rfl
@[simp] theorem ft_lk97 : lkT Try.prog 97 = .agg 3 := by kernel_rfl
@[simp] theorem ft_ce97 : Program.cellsOf Try.prog 97 = 3 := by kernel_rfl
@[simp] theorem ft_by97 : Program.bytesOf Try.prog 97 = 24 := by kernel_rfl
@[simp] theorem ft_ze97 : zeroAV Try.prog 97 = .agg [.sc (.int .i64 0), .sc (.int .i64 0), .sc (.int .i64 0)] := by kernel_rfl
@[simp] theorem ft_co97 : Program.concrete Try.prog 97 = true := by kernel_rfl
@[simp] theorem ft_bu97 : buildT Try.prog 97 = true := by kernel_rfl
@[simp] theorem ft_pl97_0 : placeT Try.prog 97 0 = some (0, 1) := by kernel_rfl
@[simp] theorem ft_fi97_0 : fieldT Try.prog 97 0 = some (0, .one) := by kernel_rfl
@[simp] theorem ft_pl97_1 : placeT Try.prog 97 1 = some (1, 1) := by kernel_rfl
@[simp] theorem ft_fi97_1 : fieldT Try.prog 97 1 = some (1, .one) := by kernel_rfl
@[simp] theorem ft_pl97_2 : placeT Try.prog 97 2 = some (2, 1) := by kernel_rfl
@[simp] theorem ft_fi97_2 : fieldT Try.prog 97 2 = some (2, .one) := by kernel_rfl
@[simp] theorem ft_lk98 : lkT Try.prog 98 = .one := by kernel_rfl
@[simp] theorem ft_ce98 : Program.cellsOf Try.prog 98 = 1 := by kernel_rfl
@[simp] theorem ft_by98 : Program.bytesOf Try.prog 98 = 8 := by kernel_rfl
@[simp] theorem ft_ze98 : zeroAV Try.prog 98 = .sc .nilFunc := by kernel_rfl
@[simp] theorem ft_co98 : Program.concrete Try.prog 98 = true := by kernel_rfl
@[simp] theorem ft_lk99 : lkT Try.prog 99 = .agg 3 := by kernel_rfl
@[simp] theorem ft_ce99 : Program.cellsOf Try.prog 99 = 3 := by kernel_rfl
@[simp] theorem ft_by99 : Program.bytesOf Try.prog 99 = 40 := by kernel_rfl
@[simp] theorem ft_ze99 : zeroAV Try.prog 99 = .agg [.nilS, .sc (.int .i64 0), .sc (.int .i64 0)] := by kernel_rfl
@[simp] theorem ft_co99 : Program.concrete Try.prog 99 = true := by kernel_rfl
@[simp] theorem ft_bu99 : buildT Try.prog 99 = true := by kernel_rfl
@[simp] theorem ft_pl99_0 : placeT Try.prog 99 0 = some (0, 1) := by kernel_rfl
@[simp] theorem ft_fi99_0 : fieldT Try.prog 99 0 = some (0, .one) := by kernel_rfl
@[simp] theorem ft_pl99_1 : placeT Try.prog 99 1 = some (1, 1) := by kernel_rfl
@[simp] theorem ft_fi99_1 : fieldT Try.prog 99 1 = some (1, .one) := by kernel_rfl
@[simp] theorem ft_pl99_2 : placeT Try.prog 99 2 = some (2, 1) := by kernel_rfl
@[simp] theorem ft_fi99_2 : fieldT Try.prog 99 2 = some (2, .one) := by kernel_rfl
@[simp] theorem ft_lk100 : lkT Try.prog 100 = .agg 3 := by kernel_rfl
@[simp] theorem ft_ce100 : Program.cellsOf Try.prog 100 = 3 := by kernel_rfl
@[simp] theorem ft_by100 : Program.bytesOf Try.prog 100 = 40 := by kernel_rfl
@[simp] theorem ft_ze100 : zeroAV Try.prog 100 = .agg [.nilS, .sc (.int .i64 0), .sc (.int .i64 0)] := by kernel_rfl
@[simp] theorem ft_co100 : Program.concrete Try.prog 100 = true := by kernel_rfl
@[simp] theorem ft_bu100 : buildT Try.prog 100 = true := by kernel_rfl
@[simp] theorem ft_pl100_0 : placeT Try.prog 100 0 = some (0, 1) := by kernel_rfl
@[simp] theorem ft_fi100_0 : fieldT Try.prog 100 0 = some (0, .one) := by kernel_rfl
@[simp] theorem ft_pl100_1 : placeT Try.prog 100 1 = some (1, 1) := by kernel_rfl
@[simp] theorem ft_fi100_1 : fieldT Try.prog 100 1 = some (1, .one) := by kernel_rfl
@[simp] theorem ft_pl100_2 : placeT Try.prog 100 2 = some (2, 1) := by kernel_rfl
@[simp] theorem ft_fi100_2 : fieldT Try.prog 100 2 = some (2, .one) := by kernel_rfl
@[simp] theorem ft_lk101 : lkT Try.prog 101 = .one := by kernel_rfl
@[simp] theorem ft_ce101 : Program.cellsOf Try.prog 101 = 1 := by kernel_rfl
@[simp] theorem ft_by101 : Program.bytesOf Try.prog 101 = 8 := by kernel_rfl
@[simp] theorem ft_ze101 : zeroAV Try.prog 101 = .sc .nilFunc := by kernel_rfl
@[simp] theorem ft_co101 : Program.concrete Try.prog 101 = true := by kernel_rfl
@[simp] theorem ft_lk102 : lkT Try.prog 102 = .one := by kernel_rfl
@[simp] theorem ft_ce102 : Program.cellsOf Try.prog 102 = 1 := by kernel_rfl
@[simp] theorem ft_by102 : Program.bytesOf Try.prog 102 = 8 := by kernel_rfl
@[simp] theorem ft_ze102 : zeroAV Try.prog 102 = .sc .nilFunc := by kernel_rfl
@[simp] theorem ft_co102 : Program.concrete Try.prog 102 = true := by kernel_rfl
@[simp] theorem ft_lk104 : lkT Try.prog 104 = .one := by kernel_rfl
@[simp] theorem ft_ce104 : Program.cellsOf Try.prog 104 = 1 := by kernel_rfl
@[simp] theorem ft_by104 : Program.bytesOf Try.prog 104 = 8 := by kernel_rfl
@[simp] theorem ft_ze104 : zeroAV Try.prog 104 = .sc .nilFunc := by kernel_rfl
@[simp] theorem ft_co104 : Program.concrete Try.prog 104 = true := by kernel_rfl
@[simp] theorem ft_lk105 : lkT Try.prog 105 = .one := by kernel_rfl
@[simp] theorem ft_ce105 : Program.cellsOf Try.prog 105 = 1 := by kernel_rfl
@[simp] theorem ft_by105 : Program.bytesOf Try.prog 105 = 8 := by kernel_rfl
@[simp] theorem ft_ze105 : zeroAV Try.prog 105 = .sc .nilFunc := by kernel_rfl
@[simp] theorem ft_co105 : Program.concrete Try.prog 105 = true := by kernel_rfl
@[simp] theorem ft_lk106 : lkT Try.prog 106 = .one := by kernel_rfl
@[simp] theorem ft_ce106 : Program.cellsOf Try.prog 106 = 1 := by kernel_rfl
@[simp] theorem ft_by106 : Program.bytesOf Try.prog 106 = 8 := by kernel_rfl
@[simp] theorem ft_ze106 : zeroAV Try.prog 106 = .sc .nilFunc := by kernel_rfl
@[simp] theorem ft_co106 : Program.concrete Try.prog 106 = true := by kernel_rfl
@[simp] theorem ft_lk107 : lkT Try.prog 107 = .one := by kernel_rfl
@[simp] theorem ft_ce107 : Program.cellsOf Try.prog 107 = 1 := by kernel_rfl
@[simp] theorem ft_by107 : Program.bytesOf Try.prog 107 = 8 := by kernel_rfl
@[simp] theorem ft_ze107 : zeroAV Try.prog 107 = .sc .nilFunc := by kernel_rfl
@[simp] theorem ft_co107 : Program.concrete Try.prog 107 = true := by kernel_rfl
@[simp] theorem ft_lk108 : lkT Try.prog 108 = .one := by kernel_rfl
@[simp] theorem ft_ce108 : Program.cellsOf Try.prog 108 = 1 := by kernel_rfl
@[simp] theorem ft_by108 : Program.bytesOf Try.prog 108 = 8 := by kernel_rfl
@[simp] theorem ft_ze108 : zeroAV Try.prog 108 = .sc .nilFunc := by kernel_rfl
@[simp] theorem ft_co108 : Program.concrete Try.prog 108 = true := by kernel_rfl
@[simp] theorem ft_lk109 : lkT Try.prog 109 = .one := by kernel_rfl
@[simp] theorem ft_ce109 : Program.cellsOf Try.prog 109 = 1 := by kernel_rfl
@[simp] theorem ft_by109 : Program.bytesOf Try.prog 109 = 4 := by kernel_rfl
@[simp] theorem ft_ze109 : zeroAV Try.prog 109 = .sc (.int .u32 0) := by kernel_rfl
@[simp] theorem ft_co109 : Program.concrete Try.prog 109 = true := by kernel_rfl
@[simp] theorem ft_lk110 : lkT Try.prog 110 = .agg 5 := by kernel_rfl
@[simp] theorem ft_ce110 : Program.cellsOf Try.prog 110 = 5 := by kernel_rfl
@[simp] theorem ft_by110 : Program.bytesOf Try.prog 110 = 20 := by kernel_rfl
@[simp] theorem ft_ze110 : zeroAV Try.prog 110 = .agg [.sc (.int .u32 0), .sc (.int .u32 0), .sc (.int .u32 0), .sc (.int .u32 0), .sc (.int .u32 0)] := by kernel_rfl
@[simp] theorem ft_co110 : Program.concrete Try.prog 110 = true := by kernel_rfl
@[simp] theorem ft_ar110 : arrT Try.prog 110 = some (5, 109) := by kernel_rfl
@[simp] theorem ft_pl110 : ∀ i, placeT Try.prog 110 i = some (i * 1, 1) := fun i => by kernel_rfl
@[simp] theorem ft_bu110 : buildT Try.prog 110 = true := by kernel_rfl
@[simp] theorem ft_lk111 : lkT Try.prog 111 = .one := by kernel_rfl
@[simp] theorem ft_ce111 : Program.cellsOf Try.prog 111 = 1 := by kernel_rfl
@[simp] theorem ft_by111 : Program.bytesOf Try.prog 111 = 8 := by kernel_rfl
@[simp] theorem ft_ze111 : zeroAV Try.prog 111 = .sc .nilFunc := by kernel_rfl
@[simp] theorem ft_co111 : Program.concrete Try.prog 111 = true := by kernel_rfl
@[simp] theorem ft_lk112 : lkT Try.prog 112 = .one := by kernel_rfl
@[simp] theorem ft_ce112 : Program.cellsOf Try.prog 112 = 1 := by kernel_rfl
@[simp] theorem ft_by112 : Program.bytesOf Try.prog 112 = 8 := by kernel_rfl
@[simp] theorem ft_ze112 : zeroAV Try.prog 112 = .sc .nilFunc := by kernel_rfl
@[simp] theorem ft_co112 : Program.concrete Try.prog 112 = true := by kernel_rfl
@[simp] theorem ft_lk113 : lkT Try.prog 113 = .one := by kernel_rfl
@[simp] theorem ft_ce113 : Program.cellsOf Try.prog 113 = 1 := by kernel_rfl
@[simp] theorem ft_by113 : Program.bytesOf Try.prog 113 = 8 := by kernel_rfl
@[simp] theorem ft_ze113 : zeroAV Try.prog 113 = .sc .nilFunc := by kernel_rfl
@[simp] theorem ft_co113 : Program.concrete Try.prog 113 = true := by kernel_rfl
@[simp] theorem ft_lk114 : lkT Try.prog 114 = .agg 2 := by kernel_rfl
@[simp] theorem ft_ce114 : Program.cellsOf Try.prog 114 = 2 := by kernel_rfl
@[simp] theorem ft_by114 : Program.bytesOf Try.prog 114 = 32 := by kernel_rfl
@[simp] theorem ft_ze114 : zeroAV Try.prog 114 = .agg [.nilS, .sc (.int .i64 0)] := by kernel_rfl
@[simp] theorem ft_co114 : Program.concrete Try.prog 114 = true := by kernel_rfl
@[simp] theorem ft_bu114 : buildT Try.prog 114 = true := by kernel_rfl
@[simp] theorem ft_pl114_0 : placeT Try.prog 114 0 = some (0, 1) := by kernel_rfl
@[simp] theorem ft_fi114_0 : fieldT Try.prog 114 0 = some (0, .one) := by kernel_rfl
@[simp] theorem ft_pl114_1 : placeT Try.prog 114 1 = some (1, 1) := by kernel_rfl
@[simp] theorem ft_fi114_1 : fieldT Try.prog 114 1 = some (1, .one) := by kernel_rfl
@[simp] theorem ft_lk115 : lkT Try.prog 115 = .agg 2 := by kernel_rfl
@[simp] theorem ft_ce115 : Program.cellsOf Try.prog 115 = 2 := by kernel_rfl
@[simp] theorem ft_by115 : Program.bytesOf Try.prog 115 = 32 := by kernel_rfl
@[simp] theorem ft_ze115 : zeroAV Try.prog 115 = .agg [.nilS, .sc (.int .i64 0)] := by kernel_rfl
@[simp] theorem ft_co115 : Program.concrete Try.prog 115 = true := by kernel_rfl
@[simp] theorem ft_bu115 : buildT Try.prog 115 = true := by kernel_rfl
@[simp] theorem ft_pl115_0 : placeT Try.prog 115 0 = some (0, 1) := by kernel_rfl
@[simp] theorem ft_fi115_0 : fieldT Try.prog 115 0 = some (0, .one) := by kernel_rfl
@[simp] theorem ft_pl115_1 : placeT Try.prog 115 1 = some (1, 1) := by kernel_rfl
@[simp] theorem ft_fi115_1 : fieldT Try.prog 115 1 = some (1, .one) := by kernel_rfl
@[simp] theorem ft_lk116 : lkT Try.prog 116 = .one := by kernel_rfl
@[simp] theorem ft_ce116 : Program.cellsOf Try.prog 116 = 1 := by kernel_rfl
@[simp] theorem ft_by116 : Program.bytesOf Try.prog 116 = 8 := by kernel_rfl
@[simp] theorem ft_ze116 : zeroAV Try.prog 116 = .sc (.int .u64 0) := by kernel_rfl
@[simp] theorem ft_co116 : Program.concrete Try.prog 116 = true := by kernel_rfl
@[simp] theorem ft_lk118 : lkT Try.prog 118 = .one := by kernel_rfl
@[simp] theorem ft_ce118 : Program.cellsOf Try.prog 118 = 1 := by kernel_rfl
@[simp] theorem ft_by118 : Program.bytesOf Try.prog 118 = 8 := by kernel_rfl
@[simp] theorem ft_ze118 : zeroAV Try.prog 118 = .sc .nilFunc := by kernel_rfl
@[simp] theorem ft_co118 : Program.concrete Try.prog 118 = true := by kernel_rfl
@[simp] theorem ft_lk119 : lkT Try.prog 119 = .one := by kernel_rfl
@[simp] theorem ft_ce119 : Program.cellsOf Try.prog 119 = 1 := by kernel_rfl
@[simp] theorem ft_by119 : Program.bytesOf Try.prog 119 = 8 := by kernel_rfl
@[simp] theorem ft_ze119 : zeroAV Try.prog 119 = .sc .nilFunc := by kernel_rfl
@[simp] theorem ft_co119 : Program.concrete Try.prog 119 = true := by kernel_rfl
@[simp] theorem ft_lk120 : lkT Try.prog 120 = .one := by kernel_rfl
@[simp] theorem ft_ce120 : Program.cellsOf Try.prog 120 = 1 := by kernel_rfl
@[simp] theorem ft_by120 : Program.bytesOf Try.prog 120 = 8 := by kernel_rfl
@[simp] theorem ft_ze120 : zeroAV Try.prog 120 = .sc .nilFunc := by kernel_rfl
@[simp] theorem ft_co120 : Program.concrete Try.prog 120 = true := by kernel_rfl
@[simp] theorem ft_lk121 : lkT Try.prog 121 = .one := by kernel_rfl
@[simp] theorem ft_ce121 : Program.cellsOf Try.prog 121 = 1 := by kernel_rfl
@[simp] theorem ft_by121 : Program.bytesOf Try.prog 121 = 8 := by kernel_rfl
@[simp] theorem ft_ze121 : zeroAV Try.prog 121 = .sc .nilFunc := by kernel_rfl
@[simp] theorem ft_co121 : Program.concrete Try.prog 121 = true := by kernel_rfl
@[simp] theorem ft_lk122 : lkT Try.prog 122 = .one := by kernel_rfl
@[simp] theorem ft_ce122 : Program.cellsOf Try.prog 122 = 1 := by kernel_rfl
@[simp] theorem ft_by122 : Program.bytesOf Try.prog 122 = 8 := by kernel_rfl
@[simp] theorem ft_ze122 : zeroAV Try.prog 122 = .sc .nilFunc := by kernel_rfl
@[simp] theorem ft_co122 : Program.concrete Try.prog 122 = true := by kernel_rfl
@[simp] theorem ft_lk123 : lkT Try.prog 123 = .one := by kernel_rfl
@[simp] theorem ft_ce123 : Program.cellsOf Try.prog 123 = 1 := by kernel_rfl
@[simp] theorem ft_by123 : Program.bytesOf Try.prog 123 = 8 := by kernel_rfl
@[simp] theorem ft_ze123 : zeroAV Try.prog 123 = .sc (.int .u64 0) := by kernel_rfl
@[simp] theorem ft_co123 : Program.concrete Try.prog 123 = true := by kernel_rfl
@[simp] theorem ft_lk125 : lkT Try.prog 125 = .one := by kernel_rfl
@[simp] theorem ft_ce125 : Program.cellsOf Try.prog 125 = 1 := by kernel_rfl
@[simp] theorem ft_by125 : Program.bytesOf Try.prog 125 = 8 := by kernel_rfl
@[simp] theorem ft_ze125 : zeroAV Try.prog 125 = .sc .nilFunc := by kernel_rfl
@[simp] theorem ft_co125 : Program.concrete Try.prog 125 = true := by kernel_rfl
@[simp] theorem ft_lk126 : lkT Try.prog 126 = .one := by kernel_rfl
@[simp] theorem ft_ce126 : Program.cellsOf Try.prog 126 = 1 := by kernel_rfl
@[simp] theorem ft_by126 : Program.bytesOf Try.prog 126 = 8 := by kernel_rfl
@[simp] theorem ft_ze126 : zeroAV Try.prog 126 = .sc .nilFunc := by kernel_rfl
@[simp] theorem ft_co126 : Program.concrete Try.prog 126 = true := by kernel_rfl
@[simp] theorem ft_lk127 : lkT Try.prog 127 = .one := by kernel_rfl
@[simp] theorem ft_ce127 : Program.cellsOf Try.prog 127 = 1 := by kernel_rfl
@[simp] theorem ft_by127 : Program.bytesOf Try.prog 127 = 8 := by kernel_rfl
@[simp] theorem ft_ze127 : zeroAV Try.prog 127 = .sc .nilFunc := by kernel_rfl
@[simp] theorem ft_co127 : Program.concrete Try.prog 127 = true := by kernel_rfl
@[simp] theorem ft_lk128 : lkT Try.prog 128 = .agg 5 := by kernel_rfl
@[simp] theorem ft_ce128 : Program.cellsOf Try.prog 128 = 5 := by kernel_rfl
@[simp] theorem ft_by128 : Program.bytesOf Try.prog 128 = 40 := by kernel_rfl
@[simp] theorem ft_ze128 : zeroAV Try.prog 128 = .agg [.sc (.int .i64 0), .sc (.int .i64 0), .sc (.int .i64 0), .sc (.int .i64 0), .sc (.int .i64 0)] := by kernel_rfl
@[simp] theorem ft_co128 : Program.concrete Try.prog 128 = true := by kernel_rfl
@[simp] theorem ft_ar128 : arrT Try.prog 128 = some (5, 3) := by kernel_rfl
@[simp] theorem ft_pl128 : ∀ i, placeT Try.prog 128 i = some (i * 1, 1) := fun i => by kernel_rfl
@[simp] theorem ft_bu128 : buildT Try.prog 128 = true := by kernel_rfl
@[simp] theorem ft_lk130 : lkT Try.prog 130 = .one := by kernel_rfl
@[simp] theorem ft_ce130 : Program.cellsOf Try.prog 130 = 1 := by kernel_rfl
@[simp] theorem ft_by130 : Program.bytesOf Try.prog 130 = 8 := by kernel_rfl
@[simp] theorem ft_ze130 : zeroAV Try.prog 130 = .sc .nilFunc := by kernel_rfl
@[simp] theorem ft_co130 : Program.concrete Try.prog 130 = true := by kernel_rfl
@[simp] theorem ft_lk131 : lkT Try.prog 131 = .agg 3 := by kernel_rfl
@[simp] theorem ft_ce131 : Program.cellsOf Try.prog 131 = 3 := by kernel_rfl
@[simp] theorem ft_by131 : Program.bytesOf Try.prog 131 = 24 := by kernel_rfl
@[simp] theorem ft_ze131 : zeroAV Try.prog 131 = .agg [.sc (.int .i64 0), .sc (.int .i64 0), .sc (.int .i64 0)] := by kernel_rfl
@[simp] theorem ft_co131 : Program.concrete Try.prog 131 = true := by kernel_rfl
@[simp] theorem ft_bu131 : buildT Try.prog 131 = true := by kernel_rfl
@[simp] theorem ft_pl131_0 : placeT Try.prog 131 0 = some (0, 1) := by kernel_rfl
@[simp] theorem ft_fi131_0 : fieldT Try.prog 131 0 = some (0, .one) := by kernel_rfl
@[simp] theorem ft_pl131_1 : placeT Try.prog 131 1 = some (1, 1) := by kernel_rfl
@[simp] theorem ft_fi131_1 : fieldT Try.prog 131 1 = some (1, .one) := by kernel_rfl
@[simp] theorem ft_pl131_2 : placeT Try.prog 131 2 = some (2, 1) := by kernel_rfl
@[simp] theorem ft_fi131_2 : fieldT Try.prog 131 2 = some (2, .one) := by kernel_rfl
@[simp] theorem ft_lk132 : lkT Try.prog 132 = .agg 3 := by kernel_rfl
@[simp] theorem ft_ce132 : Program.cellsOf Try.prog 132 = 3 := by kernel_rfl
@[simp] theorem ft_by132 : Program.bytesOf Try.prog 132 = 24 := by kernel_rfl
@[simp] theorem ft_ze132 : zeroAV Try.prog 132 = .agg [.sc (.int .i64 0), .sc (.int .i64 0), .sc (.int .i64 0)] := by kernel_rfl
@[simp] theorem ft_co132 : Program.concrete Try.prog 132 = true := by kernel_rfl
@[simp] theorem ft_bu132 : buildT Try.prog 132 = true := by kernel_rfl
@[simp] theorem ft_pl132_0 : placeT Try.prog 132 0 = some (0, 1) := by kernel_rfl
@[simp] theorem ft_fi132_0 : fieldT Try.prog 132 0 = some (0, .one) := by kernel_rfl
@[simp] theorem ft_pl132_1 : placeT Try.prog 132 1 = some (1, 1) := by kernel_rfl
@[simp] theorem ft_fi132_1 : fieldT Try.prog 132 1 = some (1, .one) := by kernel_rfl
@[simp] theorem ft_pl132_2 : placeT Try.prog 132 2 = some (2, 1) := by kernel_rfl
@[simp] theorem ft_fi132_2 : fieldT Try.prog 132 2 = some (2, .one) := by kernel_rfl
@[simp] theorem ft_lk133 : lkT Try.prog 133 = .one := by kernel_rfl
@[simp] theorem ft_ce133 : Program.cellsOf Try.prog 133 = 1 := by kernel_rfl
@[simp] theorem ft_by133 : Program.bytesOf Try.prog 133 = 8 := by kernel_rfl
@[simp] theorem ft_ze133 : zeroAV Try.prog 133 = .sc .nilFunc := by kernel_rfl
@[simp] theorem ft_co133 : Program.concrete Try.prog 133 = true := by kernel_rfl
@[simp] theorem ft_lk135 : lkT Try.prog 135 = .one := by kernel_rfl
@[simp] theorem ft_ce135 : Program.cellsOf Try.prog 135 = 1 := by kernel_rfl
@[simp] theorem ft_by135 : Program.bytesOf Try.prog 135 = 8 := by kernel_rfl
@[simp] theorem ft_ze135 : zeroAV Try.prog 135 = .sc .nilFunc := by kernel_rfl
@[simp] theorem ft_co135 : Program.concrete Try.prog 135 = true := by kernel_rfl
@[simp] theorem ft_lk137 : lkT Try.prog 137 = .one := by kernel_rfl
@[simp] theorem ft_ce137 : Program.cellsOf Try.prog 137 = 1 := by kernel_rfl
@[simp] theorem ft_by137 : Program.bytesOf Try.prog 137 = 8 := by kernel_rfl
@[simp] theorem ft_ze137 : zeroAV Try.prog 137 = .sc .nilFunc := by kernel_rfl
@[simp] theorem ft_co137 : Program.concrete Try.prog 137 = true := by kernel_rfl
@[simp] theorem ft_lk138 : lkT Try.prog 138 = .one := by kernel_rfl
@[simp] theorem ft_ce138 : Program.cellsOf Try.prog 138 = 1 := by kernel_rfl
@[simp] theorem ft_by138 : Program.bytesOf Try.prog 138 = 8 := by kernel_rfl
@[simp] theorem ft_ze138 : zeroAV Try.prog 138 = .sc .nilFunc := by kernel_rfl
@[simp] theorem ft_co138 : Program.concrete Try.prog 138 = true := by kernel_rfl
@[simp] theorem ft_lk139 : lkT Try.prog 139 = .agg 4 := by kernel_rfl
@[simp] theorem ft_ce139 : Program.cellsOf Try.prog 139 = 4 := by kernel_rfl
@[simp] theorem ft_by139 : Program.bytesOf Try.prog 139 = 40 := by kernel_rfl
@[simp] theorem ft_ze139 : zeroAV Try.prog 139 = .agg [.sc (.pointer none), .sc (.pointer none), .sc (.pointer none), .sc (.string .empty)] := by kernel_rfl
@[simp] theorem ft_co139 : Program.concrete Try.prog 139 = true := by kernel_rfl
@[simp] theorem ft_bu139 : buildT Try.prog 139 = true := by kernel_rfl
@[simp] theorem ft_pl139_0 : placeT Try.prog 139 0 = some (0, 1) := by kernel_rfl
@[simp] theorem ft_fi139_0 : fieldT Try.prog 139 0 = some (0, .one) := by kernel_rfl
@[simp] theorem ft_pl139_1 : placeT Try.prog 139 1 = some (1, 1) := by kernel_rfl
@[simp] theorem ft_fi139_1 : fieldT Try.prog 139 1 = some (1, .one) := by kernel_rfl
@[simp] theorem ft_pl139_2 : placeT Try.prog 139 2 = some (2, 1) := by kernel_rfl
@[simp] theorem ft_fi139_2 : fieldT Try.prog 139 2 = some (2, .one) := by kernel_rfl
@[simp] theorem ft_pl139_3 : placeT Try.prog 139 3 = some (3, 1) := by kernel_rfl
@[simp] theorem ft_fi139_3 : fieldT Try.prog 139 3 = some (3, .one) := by kernel_rfl
@[simp] theorem ft_lk140 : lkT Try.prog 140 = .agg 4 := by kernel_rfl
@[simp] theorem ft_ce140 : Program.cellsOf Try.prog 140 = 4 := by kernel_rfl
@[simp] theorem ft_by140 : Program.bytesOf Try.prog 140 = 40 := by kernel_rfl
@[simp] theorem ft_ze140 : zeroAV Try.prog 140 = .agg [.sc (.pointer none), .sc (.pointer none), .sc (.pointer none), .sc (.string .empty)] := by kernel_rfl
@[simp] theorem ft_co140 : Program.concrete Try.prog 140 = true := by kernel_rfl
@[simp] theorem ft_bu140 : buildT Try.prog 140 = true := by kernel_rfl
@[simp] theorem ft_pl140_0 : placeT Try.prog 140 0 = some (0, 1) := by kernel_rfl
@[simp] theorem ft_fi140_0 : fieldT Try.prog 140 0 = some (0, .one) := by kernel_rfl
@[simp] theorem ft_pl140_1 : placeT Try.prog 140 1 = some (1, 1) := by kernel_rfl
@[simp] theorem ft_fi140_1 : fieldT Try.prog 140 1 = some (1, .one) := by kernel_rfl
@[simp] theorem ft_pl140_2 : placeT Try.prog 140 2 = some (2, 1) := by kernel_rfl
@[simp] theorem ft_fi140_2 : fieldT Try.prog 140 2 = some (2, .one) := by kernel_rfl
@[simp] theorem ft_pl140_3 : placeT Try.prog 140 3 = some (3, 1) := by kernel_rfl
@[simp] theorem ft_fi140_3 : fieldT Try.prog 140 3 = some (3, .one) := by kernel_rfl
@[simp] theorem ft_lk141 : lkT Try.prog 141 = .agg 0 := by kernel_rfl
@[simp] theorem ft_ce141 : Program.cellsOf Try.prog 141 = 0 := by kernel_rfl
@[simp] theorem ft_by141 : Program.bytesOf Try.prog 141 = 0 := by kernel_rfl
@[simp] theorem ft_ze141 : zeroAV Try.prog 141 = .agg [] := by kernel_rfl
@[simp] theorem ft_co141 : Program.concrete Try.prog 141 = true := by kernel_rfl
@[simp] theorem ft_ar141 : arrT Try.prog 141 = some (0, 16) := by kernel_rfl
@[simp] theorem ft_pl141 : ∀ i, placeT Try.prog 141 i = some (i * 1, 1) := fun i => by kernel_rfl
@[simp] theorem ft_bu141 : buildT Try.prog 141 = true := by kernel_rfl
@[simp] theorem ft_lk142 : lkT Try.prog 142 = .agg 0 := by kernel_rfl
@[simp] theorem ft_ce142 : Program.cellsOf Try.prog 142 = 0 := by kernel_rfl
@[simp] theorem ft_by142 : Program.bytesOf Try.prog 142 = 0 := by kernel_rfl
@[simp] theorem ft_ze142 : zeroAV Try.prog 142 = .agg [] := by kernel_rfl
@[simp] theorem ft_co142 : Program.concrete Try.prog 142 = true := by kernel_rfl
@[simp] theorem ft_bu142 : buildT Try.prog 142 = true := by kernel_rfl
@[simp] theorem ft_pl142_0 : placeT Try.prog 142 0 = some (0, 0) := by kernel_rfl
@[simp] theorem ft_fi142_0 : fieldT Try.prog 142 0 = some (0, .agg 0) := by kernel_rfl
@[simp] theorem ft_lk143 : lkT Try.prog 143 = .agg 0 := by kernel_rfl
@[simp] theorem ft_ce143 : Program.cellsOf Try.prog 143 = 0 := by kernel_rfl
@[simp] theorem ft_by143 : Program.bytesOf Try.prog 143 = 0 := by kernel_rfl
@[simp] theorem ft_ze143 : zeroAV Try.prog 143 = .agg [] := by kernel_rfl
@[simp] theorem ft_co143 : Program.concrete Try.prog 143 = true := by kernel_rfl
@[simp] theorem ft_bu143 : buildT Try.prog 143 = true := by kernel_rfl
@[simp] theorem ft_pl143_0 : placeT Try.prog 143 0 = some (0, 0) := by kernel_rfl
@[simp] theorem ft_fi143_0 : fieldT Try.prog 143 0 = some (0, .agg 0) := by kernel_rfl
@[simp] theorem ft_lk144 : lkT Try.prog 144 = .one := by kernel_rfl
@[simp] theorem ft_ce144 : Program.cellsOf Try.prog 144 = 1 := by kernel_rfl
@[simp] theorem ft_by144 : Program.bytesOf Try.prog 144 = 1 := by kernel_rfl
@[simp] theorem ft_ze144 : zeroAV Try.prog 144 = .sc (.int .u8 0) := by kernel_rfl
@[simp] theorem ft_co144 : Program.concrete Try.prog 144 = true := by kernel_rfl
@[simp] theorem ft_lk145 : lkT Try.prog 145 = .one := by kernel_rfl
@[simp] theorem ft_ce145 : Program.cellsOf Try.prog 145 = 1 := by kernel_rfl
@[simp] theorem ft_by145 : Program.bytesOf Try.prog 145 = 1 := by kernel_rfl
@[simp] theorem ft_ze145 : zeroAV Try.prog 145 = .sc (.int .u8 0) := by kernel_rfl
@[simp] theorem ft_co145 : Program.concrete Try.prog 145 = true := by kernel_rfl
@[simp] theorem ft_lk146 : lkT Try.prog 146 = .one := by kernel_rfl
@[simp] theorem ft_ce146 : Program.cellsOf Try.prog 146 = 1 := by kernel_rfl
@[simp] theorem ft_by146 : Program.bytesOf Try.prog 146 = 8 := by kernel_rfl
@[simp] theorem ft_ze146 : zeroAV Try.prog 146 = .sc .nilFunc := by kernel_rfl
@[simp] theorem ft_co146 : Program.concrete Try.prog 146 = true := by kernel_rfl
@[simp] theorem ft_lk147 : lkT Try.prog 147 = .one := by kernel_rfl
@[simp] theorem ft_ce147 : Program.cellsOf Try.prog 147 = 1 := by kernel_rfl
@[simp] theorem ft_by147 : Program.bytesOf Try.prog 147 = 8 := by kernel_rfl
@[simp] theorem ft_ze147 : zeroAV Try.prog 147 = .sc (.pointer none) := by kernel_rfl
@[simp] theorem ft_co147 : Program.concrete Try.prog 147 = true := by kernel_rfl
@[simp] theorem ft_lk148 : lkT Try.prog 148 = .one := by kernel_rfl
@[simp] theorem ft_ce148 : Program.cellsOf Try.prog 148 = 1 := by kernel_rfl
@[simp] theorem ft_by148 : Program.bytesOf Try.prog 148 = 4 := by kernel_rfl
@[simp] theorem ft_ze148 : zeroAV Try.prog 148 = .sc (.int .i32 0) := by kernel_rfl
@[simp] theorem ft_co148 : Program.concrete Try.prog 148 = true := by kernel_rfl
@[simp] theorem ft_lk149 : lkT Try.prog 149 = .one := by kernel_rfl
@[simp] theorem ft_ce149 : Program.cellsOf Try.prog 149 = 1 := by kernel_rfl
@[simp] theorem ft_by149 : Program.bytesOf Try.prog 149 = 4 := by kernel_rfl
@[simp] theorem ft_ze149 : zeroAV Try.prog 149 = .sc (.int .i32 0) := by kernel_rfl
@[simp] theorem ft_co149 : Program.concrete Try.prog 149 = true := by kernel_rfl
@[simp] theorem ft_lk150 : lkT Try.prog 150 = .agg 11 := by kernel_rfl
@[simp] theorem ft_ce150 : Program.cellsOf Try.prog 150 = 11 := by kernel_rfl
@[simp] theorem ft_by150 : Program.bytesOf Try.prog 150 = 48 := by kernel_rfl
@[simp] theorem ft_ze150 : zeroAV Try.prog 150 = .agg [.sc (.int .u64 0), .sc (.int .u64 0), .sc (.int .u32 0), .sc (.int .u8 0), .sc (.int .u8 0), .sc (.int .u8 0), .sc (.int .u8 0), .sc .nilFunc, .sc (.pointer none), .sc (.int .i32 0), .sc (.int .i32 0)] := by kernel_rfl
@[simp] theorem ft_co150 : Program.concrete Try.prog 150 = true := by kernel_rfl
@[simp] theorem ft_bu150 : buildT Try.prog 150 = true := by kernel_rfl
@[simp] theorem ft_pl150_0 : placeT Try.prog 150 0 = some (0, 1) := by kernel_rfl
@[simp] theorem ft_fi150_0 : fieldT Try.prog 150 0 = some (0, .one) := by kernel_rfl
@[simp] theorem ft_pl150_1 : placeT Try.prog 150 1 = some (1, 1) := by kernel_rfl
@[simp] theorem ft_fi150_1 : fieldT Try.prog 150 1 = some (1, .one) := by kernel_rfl
@[simp] theorem ft_pl150_2 : placeT Try.prog 150 2 = some (2, 1) := by kernel_rfl
@[simp] theorem ft_fi150_2 : fieldT Try.prog 150 2 = some (2, .one) := by kernel_rfl
@[simp] theorem ft_pl150_3 : placeT Try.prog 150 3 = some (3, 1) := by kernel_rfl
@[simp] theorem ft_fi150_3 : fieldT Try.prog 150 3 = some (3, .one) := by kernel_rfl
@[simp] theorem ft_pl150_4 : placeT Try.prog 150 4 = some (4, 1) := by kernel_rfl
@[simp] theorem ft_fi150_4 : fieldT Try.prog 150 4 = some (4, .one) := by kernel_rfl
@[simp] theorem ft_pl150_5 : placeT Try.prog 150 5 = some (5, 1) := by kernel_rfl
@[simp] theorem ft_fi150_5 : fieldT Try.prog 150 5 = some (5, .one) := by kernel_rfl
@[simp] theorem ft_pl150_6 : placeT Try.prog 150 6 = some (6, 1) := by kernel_rfl
@[simp] theorem ft_fi150_6 : fieldT Try.prog 150 6 = some (6, .one) := by kernel_rfl
@[simp] theorem ft_pl150_7 : placeT Try.prog 150 7 = some (7, 1) := by kernel_rfl
@[simp] theorem ft_fi150_7 : fieldT Try.prog 150 7 = some (7, .one) := by kernel_rfl
@[simp] theorem ft_pl150_8 : placeT Try.prog 150 8 = some (8, 1) := by kernel_rfl
@[simp] theorem ft_fi150_8 : fieldT Try.prog 150 8 = some (8, .one) := by kernel_rfl
@[simp] theorem ft_pl150_9 : placeT Try.prog 150 9 = some (9, 1) := by kernel_rfl
@[simp] theorem ft_fi150_9 : fieldT Try.prog 150 9 = some (9, .one) := by kernel_rfl
@[simp] theorem ft_pl150_10 : placeT Try.prog 150 10 = some (10, 1) := by kernel_rfl
@[simp] theorem ft_fi150_10 : fieldT Try.prog 150 10 = some (10, .one) := by kernel_rfl
@[simp] theorem ft_lk151 : lkT Try.prog 151 = .agg 11 := by kernel_rfl
@[simp] theorem ft_ce151 : Program.cellsOf Try.prog 151 = 11 := by kernel_rfl
@[simp] theorem ft_by151 : Program.bytesOf Try.prog 151 = 48 := by kernel_rfl
@[simp] theorem ft_ze151 : zeroAV Try.prog 151 = .agg [.sc (.int .u64 0), .sc (.int .u64 0), .sc (.int .u32 0), .sc (.int .u8 0), .sc (.int .u8 0), .sc (.int .u8 0), .sc (.int .u8 0), .sc .nilFunc, .sc (.pointer none), .sc (.int .i32 0), .sc (.int .i32 0)] := by kernel_rfl
@[simp] theorem ft_co151 : Program.concrete Try.prog 151 = true := by kernel_rfl
@[simp] theorem ft_bu151 : buildT Try.prog 151 = true := by kernel_rfl
@[simp] theorem ft_pl151_0 : placeT Try.prog 151 0 = some (0, 1) := by kernel_rfl
@[simp] theorem ft_fi151_0 : fieldT Try.prog 151 0 = some (0, .one) := by kernel_rfl
@[simp] theorem ft_pl151_1 : placeT Try.prog 151 1 = some (1, 1) := by kernel_rfl
@[simp] theorem ft_fi151_1 : fieldT Try.prog 151 1 = some (1, .one) := by kernel_rfl
@[simp] theorem ft_pl151_2 : placeT Try.prog 151 2 = some (2, 1) := by kernel_rfl
@[simp] theorem ft_fi151_2 : fieldT Try.prog 151 2 = some (2, .one) := by kernel_rfl
@[simp] theorem ft_pl151_3 : placeT Try.prog 151 3 = some (3, 1) := by kernel_rfl
@[simp] theorem ft_fi151_3 : fieldT Try.prog 151 3 = some (3, .one) := by kernel_rfl
@[simp] theorem ft_pl151_4 : placeT Try.prog 151 4 = some (4, 1) := by kernel_rfl
@[simp] theorem ft_fi151_4 : fieldT Try.prog 151 4 = some (4, .one) := by kernel_rfl
@[simp] theorem ft_pl151_5 : placeT Try.prog 151 5 = some (5, 1) := by kernel_rfl
@[simp] theorem ft_fi151_5 : fieldT Try.prog 151 5 = some (5, .one) := by kernel_rfl
@[simp] theorem ft_pl151_6 : placeT Try.prog 151 6 = some (6, 1) := by kernel_rfl
@[simp] theorem ft_fi151_6 : fieldT Try.prog 151 6 = some (6, .one) := by kernel_rfl
@[simp] theorem ft_pl151_7 : placeT Try.prog 151 7 = some (7, 1) := by kernel_rfl
@[simp] theorem ft_fi151_7 : fieldT Try.prog 151 7 = some (7, .one) := by kernel_rfl
@[simp] theorem ft_pl151_8 : placeT Try.prog 151 8 = some (8, 1) := by kernel_rfl
@[simp] theorem ft_fi151_8 : fieldT Try.prog 151 8 = some (8, .one) := by kernel_rfl
@[simp] theorem ft_pl151_9 : placeT Try.prog 151 9 = some (9, 1) := by kernel_rfl
@[simp] theorem ft_fi151_9 : fieldT Try.prog 151 9 = some (9, .one) := by kernel_rfl
@[simp] theorem ft_pl151_10 : placeT Try.prog 151 10 = some (10, 1) := by kernel_rfl
@[simp] theorem ft_fi151_10 : fieldT Try.prog 151 10 = some (10, .one) := by kernel_rfl
@[simp] theorem ft_lk152 : lkT Try.prog 152 = .one := by kernel_rfl
@[simp] theorem ft_ce152 : Program.cellsOf Try.prog 152 = 1 := by kernel_rfl
@[simp] theorem ft_by152 : Program.bytesOf Try.prog 152 = 8 := by kernel_rfl
@[simp] theorem ft_ze152 : zeroAV Try.prog 152 = .sc (.pointer none) := by kernel_rfl
@[simp] theorem ft_co152 : Program.concrete Try.prog 152 = true := by kernel_rfl
end Go.Proofs.Ytplphldpkliakaa
