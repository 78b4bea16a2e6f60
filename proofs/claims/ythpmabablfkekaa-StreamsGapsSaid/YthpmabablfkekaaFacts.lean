/- Facts on the types of this seat, each reckoned by the kernel (printed by facts.py). -/
import Derived.Test.YthpmabablfkekaaAwLink
import Derived.Test.YthpmabablfkekaaProg
import Derived.KernelRfl
set_option maxRecDepth 100000
namespace Go.Proofs.Ythpmabablfkekaa
open Go Go.AW
@[simp] theorem ft_lk1 : lkT Try.prog 1 = .one := by kernel_rfl
@[simp] theorem ft_ce1 : Program.cellsOf Try.prog 1 = 1 := by kernel_rfl
@[simp] theorem ft_by1 : Program.bytesOf Try.prog 1 = 8 := by kernel_rfl
@[simp] theorem ft_ze1 : zeroAV Try.prog 1 = .sc .nilFunc := by kernel_rfl
@[simp] theorem ft_co1 : Program.concrete Try.prog 1 = true := by kernel_rfl
@[simp] theorem ft_lk2 : lkT Try.prog 2 = .one := by kernel_rfl
@[simp] theorem ft_ce2 : Program.cellsOf Try.prog 2 = 1 := by kernel_rfl
@[simp] theorem ft_by2 : Program.bytesOf Try.prog 2 = 8 := by kernel_rfl
@[simp] theorem ft_ze2 : zeroAV Try.prog 2 = .sc (.int .i64 0) := by kernel_rfl
@[simp] theorem ft_co2 : Program.concrete Try.prog 2 = true := by kernel_rfl
@[simp] theorem ft_lk3 : lkT Try.prog 3 = .one := by kernel_rfl
@[simp] theorem ft_ce3 : Program.cellsOf Try.prog 3 = 1 := by kernel_rfl
@[simp] theorem ft_by3 : Program.bytesOf Try.prog 3 = 8 := by kernel_rfl
@[simp] theorem ft_ze3 : zeroAV Try.prog 3 = .sc (.int .i64 0) := by kernel_rfl
@[simp] theorem ft_co3 : Program.concrete Try.prog 3 = true := by kernel_rfl
@[simp] theorem ft_lk4 : lkT Try.prog 4 = .one := by kernel_rfl
@[simp] theorem ft_ce4 : Program.cellsOf Try.prog 4 = 1 := by kernel_rfl
@[simp] theorem ft_by4 : Program.bytesOf Try.prog 4 = 1 := by kernel_rfl
@[simp] theorem ft_ze4 : zeroAV Try.prog 4 = .sc (.bool false) := by kernel_rfl
@[simp] theorem ft_co4 : Program.concrete Try.prog 4 = true := by kernel_rfl
@[simp] theorem ft_lk5 : lkT Try.prog 5 = .one := by kernel_rfl
@[simp] theorem ft_ce5 : Program.cellsOf Try.prog 5 = 1 := by kernel_rfl
@[simp] theorem ft_by5 : Program.bytesOf Try.prog 5 = 1 := by kernel_rfl
@[simp] theorem ft_ze5 : zeroAV Try.prog 5 = .sc (.int .u8 0) := by kernel_rfl
@[simp] theorem ft_co5 : Program.concrete Try.prog 5 = true := by kernel_rfl
@[simp] theorem ft_lk6 : lkT Try.prog 6 = .one := by kernel_rfl
@[simp] theorem ft_ce6 : Program.cellsOf Try.prog 6 = 1 := by kernel_rfl
@[simp] theorem ft_by6 : Program.bytesOf Try.prog 6 = 1 := by kernel_rfl
@[simp] theorem ft_ze6 : zeroAV Try.prog 6 = .sc (.int .u8 0) := by kernel_rfl
@[simp] theorem ft_co6 : Program.concrete Try.prog 6 = true := by kernel_rfl
@[simp] theorem ft_lk7 : lkT Try.prog 7 = .agg 4 := by kernel_rfl
@[simp] theorem ft_ce7 : Program.cellsOf Try.prog 7 = 4 := by kernel_rfl
@[simp] theorem ft_by7 : Program.bytesOf Try.prog 7 = 24 := by kernel_rfl
@[simp] theorem ft_ze7 : zeroAV Try.prog 7 = .agg [.sc (.int .i64 0), .sc (.int .i64 0), .sc (.bool false), .sc (.int .u8 0)] := by kernel_rfl
@[simp] theorem ft_co7 : Program.concrete Try.prog 7 = true := by kernel_rfl
@[simp] theorem ft_bu7 : buildT Try.prog 7 = true := by kernel_rfl
@[simp] theorem ft_pl7_0 : placeT Try.prog 7 0 = some (0, 1) := by kernel_rfl
@[simp] theorem ft_fi7_0 : fieldT Try.prog 7 0 = some (0, .one) := by kernel_rfl
@[simp] theorem ft_pl7_1 : placeT Try.prog 7 1 = some (1, 1) := by kernel_rfl
@[simp] theorem ft_fi7_1 : fieldT Try.prog 7 1 = some (1, .one) := by kernel_rfl
@[simp] theorem ft_pl7_2 : placeT Try.prog 7 2 = some (2, 1) := by kernel_rfl
@[simp] theorem ft_fi7_2 : fieldT Try.prog 7 2 = some (2, .one) := by kernel_rfl
@[simp] theorem ft_pl7_3 : placeT Try.prog 7 3 = some (3, 1) := by kernel_rfl
@[simp] theorem ft_fi7_3 : fieldT Try.prog 7 3 = some (3, .one) := by kernel_rfl
@[simp] theorem ft_lk8 : lkT Try.prog 8 = .agg 4 := by kernel_rfl
@[simp] theorem ft_ce8 : Program.cellsOf Try.prog 8 = 4 := by kernel_rfl
@[simp] theorem ft_by8 : Program.bytesOf Try.prog 8 = 24 := by kernel_rfl
@[simp] theorem ft_ze8 : zeroAV Try.prog 8 = .agg [.sc (.int .i64 0), .sc (.int .i64 0), .sc (.bool false), .sc (.int .u8 0)] := by kernel_rfl
@[simp] theorem ft_co8 : Program.concrete Try.prog 8 = true := by kernel_rfl
@[simp] theorem ft_bu8 : buildT Try.prog 8 = true := by kernel_rfl
@[simp] theorem ft_pl8_0 : placeT Try.prog 8 0 = some (0, 1) := by kernel_rfl
@[simp] theorem ft_fi8_0 : fieldT Try.prog 8 0 = some (0, .one) := by kernel_rfl
@[simp] theorem ft_pl8_1 : placeT Try.prog 8 1 = some (1, 1) := by kernel_rfl
@[simp] theorem ft_fi8_1 : fieldT Try.prog 8 1 = some (1, .one) := by kernel_rfl
@[simp] theorem ft_pl8_2 : placeT Try.prog 8 2 = some (2, 1) := by kernel_rfl
@[simp] theorem ft_fi8_2 : fieldT Try.prog 8 2 = some (2, .one) := by kernel_rfl
@[simp] theorem ft_pl8_3 : placeT Try.prog 8 3 = some (3, 1) := by kernel_rfl
@[simp] theorem ft_fi8_3 : fieldT Try.prog 8 3 = some (3, .one) := by kernel_rfl
@[simp] theorem ft_lk9 : lkT Try.prog 9 = .one := by kernel_rfl
@[simp] theorem ft_ce9 : Program.cellsOf Try.prog 9 = 1 := by kernel_rfl
@[simp] theorem ft_by9 : Program.bytesOf Try.prog 9 = 16 := by kernel_rfl
@[simp] theorem ft_ze9 : zeroAV Try.prog 9 = .sc (.string .empty) := by kernel_rfl
@[simp] theorem ft_co9 : Program.concrete Try.prog 9 = true := by kernel_rfl
@[simp] theorem ft_lk10 : lkT Try.prog 10 = .one := by kernel_rfl
@[simp] theorem ft_ce10 : Program.cellsOf Try.prog 10 = 1 := by kernel_rfl
@[simp] theorem ft_by10 : Program.bytesOf Try.prog 10 = 16 := by kernel_rfl
@[simp] theorem ft_ze10 : zeroAV Try.prog 10 = .sc (.string .empty) := by kernel_rfl
@[simp] theorem ft_co10 : Program.concrete Try.prog 10 = true := by kernel_rfl
@[simp] theorem ft_lk11 : lkT Try.prog 11 = .one := by kernel_rfl
@[simp] theorem ft_ce11 : Program.cellsOf Try.prog 11 = 1 := by kernel_rfl
@[simp] theorem ft_by11 : Program.bytesOf Try.prog 11 = 16 := by kernel_rfl
@[simp] theorem ft_ze11 : zeroAV Try.prog 11 = .sc (.string .empty) := by kernel_rfl
@[simp] theorem ft_co11 : Program.concrete Try.prog 11 = true := by kernel_rfl
@[simp] theorem ft_lk12 : lkT Try.prog 12 = .one := by kernel_rfl
@[simp] theorem ft_ce12 : Program.cellsOf Try.prog 12 = 1 := by kernel_rfl
@[simp] theorem ft_by12 : Program.bytesOf Try.prog 12 = 8 := by kernel_rfl
@[simp] theorem ft_ze12 : zeroAV Try.prog 12 = .sc (.int .u64 0) := by kernel_rfl
@[simp] theorem ft_co12 : Program.concrete Try.prog 12 = true := by kernel_rfl
@[simp] theorem ft_lk13 : lkT Try.prog 13 = .agg 2 := by kernel_rfl
@[simp] theorem ft_ce13 : Program.cellsOf Try.prog 13 = 2 := by kernel_rfl
@[simp] theorem ft_by13 : Program.bytesOf Try.prog 13 = 24 := by kernel_rfl
@[simp] theorem ft_ze13 : zeroAV Try.prog 13 = .agg [.sc (.string .empty), .sc (.int .u64 0)] := by kernel_rfl
@[simp] theorem ft_co13 : Program.concrete Try.prog 13 = true := by kernel_rfl
@[simp] theorem ft_bu13 : buildT Try.prog 13 = true := by kernel_rfl
@[simp] theorem ft_pl13_0 : placeT Try.prog 13 0 = some (0, 1) := by kernel_rfl
@[simp] theorem ft_fi13_0 : fieldT Try.prog 13 0 = some (0, .one) := by kernel_rfl
@[simp] theorem ft_pl13_1 : placeT Try.prog 13 1 = some (1, 1) := by kernel_rfl
@[simp] theorem ft_fi13_1 : fieldT Try.prog 13 1 = some (1, .one) := by kernel_rfl
@[simp] theorem ft_lk14 : lkT Try.prog 14 = .agg 2 := by kernel_rfl
@[simp] theorem ft_ce14 : Program.cellsOf Try.prog 14 = 2 := by kernel_rfl
@[simp] theorem ft_by14 : Program.bytesOf Try.prog 14 = 24 := by kernel_rfl
@[simp] theorem ft_ze14 : zeroAV Try.prog 14 = .agg [.sc (.string .empty), .sc (.int .u64 0)] := by kernel_rfl
@[simp] theorem ft_co14 : Program.concrete Try.prog 14 = true := by kernel_rfl
@[simp] theorem ft_bu14 : buildT Try.prog 14 = true := by kernel_rfl
@[simp] theorem ft_pl14_0 : placeT Try.prog 14 0 = some (0, 1) := by kernel_rfl
@[simp] theorem ft_fi14_0 : fieldT Try.prog 14 0 = some (0, .one) := by kernel_rfl
@[simp] theorem ft_pl14_1 : placeT Try.prog 14 1 = some (1, 1) := by kernel_rfl
@[simp] theorem ft_fi14_1 : fieldT Try.prog 14 1 = some (1, .one) := by kernel_rfl
@[simp] theorem ft_lk15 : lkT Try.prog 15 = .one := by kernel_rfl
@[simp] theorem ft_ce15 : Program.cellsOf Try.prog 15 = 1 := by kernel_rfl
@[simp] theorem ft_by15 : Program.bytesOf Try.prog 15 = 8 := by kernel_rfl
@[simp] theorem ft_ze15 : zeroAV Try.prog 15 = .sc (.pointer none) := by kernel_rfl
@[simp] theorem ft_co15 : Program.concrete Try.prog 15 = true := by kernel_rfl
@[simp] theorem ft_lk16 : lkT Try.prog 16 = .one := by kernel_rfl
@[simp] theorem ft_ce16 : Program.cellsOf Try.prog 16 = 1 := by kernel_rfl
@[simp] theorem ft_by16 : Program.bytesOf Try.prog 16 = 8 := by kernel_rfl
@[simp] theorem ft_ze16 : zeroAV Try.prog 16 = .sc (.pointer none) := by kernel_rfl
@[simp] theorem ft_co16 : Program.concrete Try.prog 16 = true := by kernel_rfl
@[simp] theorem ft_lk17 : lkT Try.prog 17 = .one := by kernel_rfl
@[simp] theorem ft_ce17 : Program.cellsOf Try.prog 17 = 1 := by kernel_rfl
@[simp] theorem ft_by17 : Program.bytesOf Try.prog 17 = 8 := by kernel_rfl
@[simp] theorem ft_ze17 : zeroAV Try.prog 17 = .sc (.pointer none) := by kernel_rfl
@[simp] theorem ft_co17 : Program.concrete Try.prog 17 = true := by kernel_rfl
@[simp] theorem ft_lk18 : lkT Try.prog 18 = .agg 1 := by kernel_rfl
@[simp] theorem ft_ce18 : Program.cellsOf Try.prog 18 = 1 := by kernel_rfl
@[simp] theorem ft_by18 : Program.bytesOf Try.prog 18 = 8 := by kernel_rfl
@[simp] theorem ft_ze18 : zeroAV Try.prog 18 = .agg [.sc (.pointer none)] := by kernel_rfl
@[simp] theorem ft_co18 : Program.concrete Try.prog 18 = true := by kernel_rfl
@[simp] theorem ft_bu18 : buildT Try.prog 18 = true := by kernel_rfl
@[simp] theorem ft_pl18_0 : placeT Try.prog 18 0 = some (0, 1) := by kernel_rfl
@[simp] theorem ft_fi18_0 : fieldT Try.prog 18 0 = some (0, .one) := by kernel_rfl
@[simp] theorem ft_lk19 : lkT Try.prog 19 = .agg 1 := by kernel_rfl
@[simp] theorem ft_ce19 : Program.cellsOf Try.prog 19 = 1 := by kernel_rfl
@[simp] theorem ft_by19 : Program.bytesOf Try.prog 19 = 8 := by kernel_rfl
@[simp] theorem ft_ze19 : zeroAV Try.prog 19 = .agg [.sc (.pointer none)] := by kernel_rfl
@[simp] theorem ft_co19 : Program.concrete Try.prog 19 = true := by kernel_rfl
@[simp] theorem ft_bu19 : buildT Try.prog 19 = true := by kernel_rfl
@[simp] theorem ft_pl19_0 : placeT Try.prog 19 0 = some (0, 1) := by kernel_rfl
@[simp] theorem ft_fi19_0 : fieldT Try.prog 19 0 = some (0, .one) := by kernel_rfl
@[simp] theorem ft_lk20 : lkT Try.prog 20 = .one := by kernel_rfl
@[simp] theorem ft_ce20 : Program.cellsOf Try.prog 20 = 1 := by kernel_rfl
@[simp] theorem ft_by20 : Program.bytesOf Try.prog 20 = 16 := by kernel_rfl
@[simp] theorem ft_ze20 : zeroAV Try.prog 20 = .sc .nilIface := by kernel_rfl
@[simp] theorem ft_lk21 : lkT Try.prog 21 = .one := by kernel_rfl
@[simp] theorem ft_ce21 : Program.cellsOf Try.prog 21 = 1 := by kernel_rfl
@[simp] theorem ft_by21 : Program.bytesOf Try.prog 21 = 4 := by kernel_rfl
@[simp] theorem ft_ze21 : zeroAV Try.prog 21 = .sc (.int .i32 0) := by kernel_rfl
@[simp] theorem ft_co21 : Program.concrete Try.prog 21 = true := by kernel_rfl
@[simp] theorem ft_lk22 : lkT Try.prog 22 = .one := by kernel_rfl
@[simp] theorem ft_ce22 : Program.cellsOf Try.prog 22 = 1 := by kernel_rfl
@[simp] theorem ft_by22 : Program.bytesOf Try.prog 22 = 24 := by kernel_rfl
@[simp] theorem ft_ze22 : zeroAV Try.prog 22 = .nilS := by kernel_rfl
@[simp] theorem ft_co22 : Program.concrete Try.prog 22 = true := by kernel_rfl
@[simp] theorem ft_sl22 : sliceT Try.prog 22 = some 5 := by kernel_rfl
@[simp] theorem ft_lk23 : lkT Try.prog 23 = .one := by kernel_rfl
@[simp] theorem ft_ce23 : Program.cellsOf Try.prog 23 = 1 := by kernel_rfl
@[simp] theorem ft_by23 : Program.bytesOf Try.prog 23 = 8 := by kernel_rfl
@[simp] theorem ft_ze23 : zeroAV Try.prog 23 = .sc .nilFunc := by kernel_rfl
@[simp] theorem ft_co23 : Program.concrete Try.prog 23 = true := by kernel_rfl
@[simp] theorem ft_lk24 : lkT Try.prog 24 = .agg 4 := by kernel_rfl
@[simp] theorem ft_ce24 : Program.cellsOf Try.prog 24 = 4 := by kernel_rfl
@[simp] theorem ft_by24 : Program.bytesOf Try.prog 24 = 96 := by kernel_rfl
@[simp] theorem ft_ze24 : zeroAV Try.prog 24 = .agg [.nilS, .nilS, .nilS, .nilS] := by kernel_rfl
@[simp] theorem ft_co24 : Program.concrete Try.prog 24 = true := by kernel_rfl
@[simp] theorem ft_bu24 : buildT Try.prog 24 = true := by kernel_rfl
@[simp] theorem ft_pl24_0 : placeT Try.prog 24 0 = some (0, 1) := by kernel_rfl
@[simp] theorem ft_fi24_0 : fieldT Try.prog 24 0 = some (0, .one) := by kernel_rfl
@[simp] theorem ft_pl24_1 : placeT Try.prog 24 1 = some (1, 1) := by kernel_rfl
@[simp] theorem ft_fi24_1 : fieldT Try.prog 24 1 = some (1, .one) := by kernel_rfl
@[simp] theorem ft_pl24_2 : placeT Try.prog 24 2 = some (2, 1) := by kernel_rfl
@[simp] theorem ft_fi24_2 : fieldT Try.prog 24 2 = some (2, .one) := by kernel_rfl
@[simp] theorem ft_pl24_3 : placeT Try.prog 24 3 = some (3, 1) := by kernel_rfl
@[simp] theorem ft_fi24_3 : fieldT Try.prog 24 3 = some (3, .one) := by kernel_rfl
@[simp] theorem ft_lk25 : lkT Try.prog 25 = .agg 4 := by kernel_rfl
@[simp] theorem ft_ce25 : Program.cellsOf Try.prog 25 = 4 := by kernel_rfl
@[simp] theorem ft_by25 : Program.bytesOf Try.prog 25 = 96 := by kernel_rfl
@[simp] theorem ft_ze25 : zeroAV Try.prog 25 = .agg [.nilS, .nilS, .nilS, .nilS] := by kernel_rfl
@[simp] theorem ft_co25 : Program.concrete Try.prog 25 = true := by kernel_rfl
@[simp] theorem ft_bu25 : buildT Try.prog 25 = true := by kernel_rfl
@[simp] theorem ft_pl25_0 : placeT Try.prog 25 0 = some (0, 1) := by kernel_rfl
@[simp] theorem ft_fi25_0 : fieldT Try.prog 25 0 = some (0, .one) := by kernel_rfl
@[simp] theorem ft_pl25_1 : placeT Try.prog 25 1 = some (1, 1) := by kernel_rfl
@[simp] theorem ft_fi25_1 : fieldT Try.prog 25 1 = some (1, .one) := by kernel_rfl
@[simp] theorem ft_pl25_2 : placeT Try.prog 25 2 = some (2, 1) := by kernel_rfl
@[simp] theorem ft_fi25_2 : fieldT Try.prog 25 2 = some (2, .one) := by kernel_rfl
@[simp] theorem ft_pl25_3 : placeT Try.prog 25 3 = some (3, 1) := by kernel_rfl
@[simp] theorem ft_fi25_3 : fieldT Try.prog 25 3 = some (3, .one) := by kernel_rfl
@[simp] theorem ft_lk26 : lkT Try.prog 26 = .one := by kernel_rfl
@[simp] theorem ft_ce26 : Program.cellsOf Try.prog 26 = 1 := by kernel_rfl
@[simp] theorem ft_by26 : Program.bytesOf Try.prog 26 = 8 := by kernel_rfl
@[simp] theorem ft_ze26 : zeroAV Try.prog 26 = .sc (.int .i64 0) := by kernel_rfl
@[simp] theorem ft_co26 : Program.concrete Try.prog 26 = true := by kernel_rfl
@[simp] theorem ft_lk28 : lkT Try.prog 28 = .one := by kernel_rfl
@[simp] theorem ft_ce28 : Program.cellsOf Try.prog 28 = 1 := by kernel_rfl
@[simp] theorem ft_by28 : Program.bytesOf Try.prog 28 = 8 := by kernel_rfl
@[simp] theorem ft_ze28 : zeroAV Try.prog 28 = .sc .nilFunc := by kernel_rfl
@[simp] theorem ft_co28 : Program.concrete Try.prog 28 = true := by kernel_rfl
@[simp] theorem ft_lk29 : lkT Try.prog 29 = .agg 6 := by kernel_rfl
@[simp] theorem ft_ce29 : Program.cellsOf Try.prog 29 = 6 := by kernel_rfl
@[simp] theorem ft_by29 : Program.bytesOf Try.prog 29 = 112 := by kernel_rfl
@[simp] theorem ft_ze29 : zeroAV Try.prog 29 = .agg [.nilS, .nilS, .nilS, .nilS, .sc (.int .i64 0), .sc (.int .i64 0)] := by kernel_rfl
@[simp] theorem ft_co29 : Program.concrete Try.prog 29 = true := by kernel_rfl
@[simp] theorem ft_bu29 : buildT Try.prog 29 = true := by kernel_rfl
@[simp] theorem ft_pl29_0 : placeT Try.prog 29 0 = some (0, 4) := by kernel_rfl
@[simp] theorem ft_fi29_0 : fieldT Try.prog 29 0 = some (0, .agg 4) := by kernel_rfl
@[simp] theorem ft_pl29_1 : placeT Try.prog 29 1 = some (4, 1) := by kernel_rfl
@[simp] theorem ft_fi29_1 : fieldT Try.prog 29 1 = some (4, .one) := by kernel_rfl
@[simp] theorem ft_pl29_2 : placeT Try.prog 29 2 = some (5, 1) := by kernel_rfl
@[simp] theorem ft_fi29_2 : fieldT Try.prog 29 2 = some (5, .one) := by kernel_rfl
@[simp] theorem ft_lk30 : lkT Try.prog 30 = .agg 6 := by kernel_rfl
@[simp] theorem ft_ce30 : Program.cellsOf Try.prog 30 = 6 := by kernel_rfl
@[simp] theorem ft_by30 : Program.bytesOf Try.prog 30 = 112 := by kernel_rfl
@[simp] theorem ft_ze30 : zeroAV Try.prog 30 = .agg [.nilS, .nilS, .nilS, .nilS, .sc (.int .i64 0), .sc (.int .i64 0)] := by kernel_rfl
@[simp] theorem ft_co30 : Program.concrete Try.prog 30 = true := by kernel_rfl
@[simp] theorem ft_bu30 : buildT Try.prog 30 = true := by kernel_rfl
@[simp] theorem ft_pl30_0 : placeT Try.prog 30 0 = some (0, 4) := by kernel_rfl
@[simp] theorem ft_fi30_0 : fieldT Try.prog 30 0 = some (0, .agg 4) := by kernel_rfl
@[simp] theorem ft_pl30_1 : placeT Try.prog 30 1 = some (4, 1) := by kernel_rfl
@[simp] theorem ft_fi30_1 : fieldT Try.prog 30 1 = some (4, .one) := by kernel_rfl
@[simp] theorem ft_pl30_2 : placeT Try.prog 30 2 = some (5, 1) := by kernel_rfl
@[simp] theorem ft_fi30_2 : fieldT Try.prog 30 2 = some (5, .one) := by kernel_rfl
@[simp] theorem ft_lk31 : lkT Try.prog 31 = .one := by kernel_rfl
@[simp] theorem ft_ce31 : Program.cellsOf Try.prog 31 = 1 := by kernel_rfl
@[simp] theorem ft_by31 : Program.bytesOf Try.prog 31 = 8 := by kernel_rfl
@[simp] theorem ft_ze31 : zeroAV Try.prog 31 = .sc .nilFunc := by kernel_rfl
@[simp] theorem ft_co31 : Program.concrete Try.prog 31 = true := by kernel_rfl
@[simp] theorem ft_lk32 : lkT Try.prog 32 = .one := by kernel_rfl
@[simp] theorem ft_ce32 : Program.cellsOf Try.prog 32 = 1 := by kernel_rfl
@[simp] theorem ft_by32 : Program.bytesOf Try.prog 32 = 8 := by kernel_rfl
@[simp] theorem ft_ze32 : zeroAV Try.prog 32 = .sc .nilFunc := by kernel_rfl
@[simp] theorem ft_co32 : Program.concrete Try.prog 32 = true := by kernel_rfl
@[simp] theorem ft_lk33 : lkT Try.prog 33 = .one := by kernel_rfl
@[simp] theorem ft_ce33 : Program.cellsOf Try.prog 33 = 1 := by kernel_rfl
@[simp] theorem ft_by33 : Program.bytesOf Try.prog 33 = 8 := by kernel_rfl
@[simp] theorem ft_ze33 : zeroAV Try.prog 33 = .sc .nilFunc := by kernel_rfl
@[simp] theorem ft_co33 : Program.concrete Try.prog 33 = true := by kernel_rfl
@[simp] theorem ft_lk34 : lkT Try.prog 34 = .one := by kernel_rfl
@[simp] theorem ft_ce34 : Program.cellsOf Try.prog 34 = 1 := by kernel_rfl
@[simp] theorem ft_by34 : Program.bytesOf Try.prog 34 = 8 := by kernel_rfl
@[simp] theorem ft_ze34 : zeroAV Try.prog 34 = .sc .nilFunc := by kernel_rfl
@[simp] theorem ft_co34 : Program.concrete Try.prog 34 = true := by kernel_rfl
@[simp] theorem ft_lk35 : lkT Try.prog 35 = .one := by kernel_rfl
@[simp] theorem ft_ce35 : Program.cellsOf Try.prog 35 = 1 := by kernel_rfl
@[simp] theorem ft_by35 : Program.bytesOf Try.prog 35 = 8 := by kernel_rfl
@[simp] theorem ft_ze35 : zeroAV Try.prog 35 = .sc .nilFunc := by kernel_rfl
@[simp] theorem ft_co35 : Program.concrete Try.prog 35 = true := by kernel_rfl
@[simp] theorem ft_lk36 : lkT Try.prog 36 = .one := by kernel_rfl
@[simp] theorem ft_ce36 : Program.cellsOf Try.prog 36 = 1 := by kernel_rfl
@[simp] theorem ft_by36 : Program.bytesOf Try.prog 36 = 8 := by kernel_rfl
@[simp] theorem ft_ze36 : zeroAV Try.prog 36 = .sc .nilFunc := by kernel_rfl
@[simp] theorem ft_co36 : Program.concrete Try.prog 36 = true := by kernel_rfl
@[simp] theorem ft_lk38 : lkT Try.prog 38 = .one := by kernel_rfl
@[simp] theorem ft_ce38 : Program.cellsOf Try.prog 38 = 1 := by kernel_rfl
@[simp] theorem ft_by38 : Program.bytesOf Try.prog 38 = 8 := by kernel_rfl
@[simp] theorem ft_ze38 : zeroAV Try.prog 38 = .sc .nilFunc := by kernel_rfl
@[simp] theorem ft_co38 : Program.concrete Try.prog 38 = true := by kernel_rfl
@[simp] theorem ft_lk40 : lkT Try.prog 40 = .one := by kernel_rfl
@[simp] theorem ft_ce40 : Program.cellsOf Try.prog 40 = 1 := by kernel_rfl
@[simp] theorem ft_by40 : Program.bytesOf Try.prog 40 = 8 := by kernel_rfl
@[simp] theorem ft_ze40 : zeroAV Try.prog 40 = .sc .nilFunc := by kernel_rfl
@[simp] theorem ft_co40 : Program.concrete Try.prog 40 = true := by kernel_rfl
@[simp] theorem ft_lk41 : lkT Try.prog 41 = .one := by kernel_rfl
@[simp] theorem ft_ce41 : Program.cellsOf Try.prog 41 = 1 := by kernel_rfl
@[simp] theorem ft_by41 : Program.bytesOf Try.prog 41 = 2 := by kernel_rfl
@[simp] theorem ft_ze41 : zeroAV Try.prog 41 = .sc (.int .u16 0) := by kernel_rfl
@[simp] theorem ft_co41 : Program.concrete Try.prog 41 = true := by kernel_rfl
@[simp] theorem ft_lk42 : lkT Try.prog 42 = .one := by kernel_rfl
@[simp] theorem ft_ce42 : Program.cellsOf Try.prog 42 = 1 := by kernel_rfl
@[simp] theorem ft_by42 : Program.bytesOf Try.prog 42 = 8 := by kernel_rfl
@[simp] theorem ft_ze42 : zeroAV Try.prog 42 = .sc .nilFunc := by kernel_rfl
@[simp] theorem ft_co42 : Program.concrete Try.prog 42 = true := by kernel_rfl
@[simp] theorem ft_lk43 : lkT Try.prog 43 = .agg 4 := by kernel_rfl
@[simp] theorem ft_ce43 : Program.cellsOf Try.prog 43 = 4 := by kernel_rfl
@[simp] theorem ft_by43 : Program.bytesOf Try.prog 43 = 96 := by kernel_rfl
@[simp] theorem ft_ze43 : zeroAV Try.prog 43 = .agg [.nilS, .nilS, .nilS, .nilS] := by kernel_rfl
@[simp] theorem ft_co43 : Program.concrete Try.prog 43 = true := by kernel_rfl
@[simp] theorem ft_ar43 : arrT Try.prog 43 = some (4, 22) := by kernel_rfl
@[simp] theorem ft_pl43 : ∀ i, placeT Try.prog 43 i = some (i * 1, 1) := fun i => by kernel_rfl
@[simp] theorem ft_bu43 : buildT Try.prog 43 = true := by kernel_rfl
@[simp] theorem ft_lk44 : lkT Try.prog 44 = .one := by kernel_rfl
@[simp] theorem ft_ce44 : Program.cellsOf Try.prog 44 = 1 := by kernel_rfl
@[simp] theorem ft_by44 : Program.bytesOf Try.prog 44 = 8 := by kernel_rfl
@[simp] theorem ft_ze44 : zeroAV Try.prog 44 = .sc .nilFunc := by kernel_rfl
@[simp] theorem ft_co44 : Program.concrete Try.prog 44 = true := by kernel_rfl
@[simp] theorem ft_lk45 : lkT Try.prog 45 = .one := by kernel_rfl
@[simp] theorem ft_ce45 : Program.cellsOf Try.prog 45 = 1 := by kernel_rfl
@[simp] theorem ft_by45 : Program.bytesOf Try.prog 45 = 8 := by kernel_rfl
@[simp] theorem ft_ze45 : zeroAV Try.prog 45 = .sc (.pointer none) := by kernel_rfl
@[simp] theorem ft_co45 : Program.concrete Try.prog 45 = true := by kernel_rfl
@[simp] theorem ft_lk46 : lkT Try.prog 46 = .one := by kernel_rfl
@[simp] theorem ft_ce46 : Program.cellsOf Try.prog 46 = 1 := by kernel_rfl
@[simp] theorem ft_by46 : Program.bytesOf Try.prog 46 = 8 := by kernel_rfl
@[simp] theorem ft_ze46 : zeroAV Try.prog 46 = .sc .nilFunc := by kernel_rfl
@[simp] theorem ft_co46 : Program.concrete Try.prog 46 = true := by kernel_rfl
@[simp] theorem ft_lk47 : lkT Try.prog 47 = .one := by kernel_rfl
@[simp] theorem ft_ce47 : Program.cellsOf Try.prog 47 = 1 := by kernel_rfl
@[simp] theorem ft_by47 : Program.bytesOf Try.prog 47 = 8 := by kernel_rfl
@[simp] theorem ft_ze47 : zeroAV Try.prog 47 = .sc .nilFunc := by kernel_rfl
@[simp] theorem ft_co47 : Program.concrete Try.prog 47 = true := by kernel_rfl
@[simp] theorem ft_lk48 : lkT Try.prog 48 = .one := by kernel_rfl
@[simp] theorem ft_ce48 : Program.cellsOf Try.prog 48 = 1 := by kernel_rfl
@[simp] theorem ft_by48 : Program.bytesOf Try.prog 48 = 8 := by kernel_rfl
@[simp] theorem ft_ze48 : zeroAV Try.prog 48 = .sc (.int .u64 0) := by kernel_rfl
@[simp] theorem ft_co48 : Program.concrete Try.prog 48 = true := by kernel_rfl
@[simp] theorem ft_lk49 : lkT Try.prog 49 = .agg 2 := by kernel_rfl
@[simp] theorem ft_ce49 : Program.cellsOf Try.prog 49 = 2 := by kernel_rfl
@[simp] theorem ft_by49 : Program.bytesOf Try.prog 49 = 16 := by kernel_rfl
@[simp] theorem ft_ze49 : zeroAV Try.prog 49 = .agg [.sc (.int .u64 0), .sc (.int .u64 0)] := by kernel_rfl
@[simp] theorem ft_co49 : Program.concrete Try.prog 49 = true := by kernel_rfl
@[simp] theorem ft_ar49 : arrT Try.prog 49 = some (2, 48) := by kernel_rfl
@[simp] theorem ft_pl49 : ∀ i, placeT Try.prog 49 i = some (i * 1, 1) := fun i => by kernel_rfl
@[simp] theorem ft_bu49 : buildT Try.prog 49 = true := by kernel_rfl
@[simp] theorem ft_lk50 : lkT Try.prog 50 = .one := by kernel_rfl
@[simp] theorem ft_ce50 : Program.cellsOf Try.prog 50 = 1 := by kernel_rfl
@[simp] theorem ft_by50 : Program.bytesOf Try.prog 50 = 8 := by kernel_rfl
@[simp] theorem ft_ze50 : zeroAV Try.prog 50 = .sc .nilFunc := by kernel_rfl
@[simp] theorem ft_co50 : Program.concrete Try.prog 50 = true := by kernel_rfl
@[simp] theorem ft_lk52 : lkT Try.prog 52 = .one := by kernel_rfl
@[simp] theorem ft_ce52 : Program.cellsOf Try.prog 52 = 1 := by kernel_rfl
@[simp] theorem ft_by52 : Program.bytesOf Try.prog 52 = 8 := by kernel_rfl
@[simp] theorem ft_ze52 : zeroAV Try.prog 52 = .sc .nilFunc := by kernel_rfl
@[simp] theorem ft_co52 : Program.concrete Try.prog 52 = true := by kernel_rfl
@[simp] theorem ft_lk53 : lkT Try.prog 53 = .one := by kernel_rfl
@[simp] theorem ft_ce53 : Program.cellsOf Try.prog 53 = 1 := by kernel_rfl
@[simp] theorem ft_by53 : Program.bytesOf Try.prog 53 = 8 := by kernel_rfl
@[simp] theorem ft_ze53 : zeroAV Try.prog 53 = .sc (.map none) := by kernel_rfl
@[simp] theorem ft_co53 : Program.concrete Try.prog 53 = true := by kernel_rfl
@[simp] theorem ft_lk54 : lkT Try.prog 54 = .agg 4 := by kernel_rfl
@[simp] theorem ft_ce54 : Program.cellsOf Try.prog 54 = 4 := by kernel_rfl
@[simp] theorem ft_by54 : Program.bytesOf Try.prog 54 = 96 := by kernel_rfl
@[simp] theorem ft_ze54 : zeroAV Try.prog 54 = .agg [.nilS, .nilS, .nilS, .nilS] := by kernel_rfl
@[simp] theorem ft_co54 : Program.concrete Try.prog 54 = true := by kernel_rfl
@[simp] theorem ft_bu54 : buildT Try.prog 54 = true := by kernel_rfl
@[simp] theorem ft_pl54_0 : placeT Try.prog 54 0 = some (0, 1) := by kernel_rfl
@[simp] theorem ft_fi54_0 : fieldT Try.prog 54 0 = some (0, .one) := by kernel_rfl
@[simp] theorem ft_pl54_1 : placeT Try.prog 54 1 = some (1, 1) := by kernel_rfl
@[simp] theorem ft_fi54_1 : fieldT Try.prog 54 1 = some (1, .one) := by kernel_rfl
@[simp] theorem ft_pl54_2 : placeT Try.prog 54 2 = some (2, 1) := by kernel_rfl
@[simp] theorem ft_fi54_2 : fieldT Try.prog 54 2 = some (2, .one) := by kernel_rfl
@[simp] theorem ft_pl54_3 : placeT Try.prog 54 3 = some (3, 1) := by kernel_rfl
@[simp] theorem ft_fi54_3 : fieldT Try.prog 54 3 = some (3, .one) := by kernel_rfl
@[simp] theorem ft_lk55 : lkT Try.prog 55 = .agg 2 := by kernel_rfl
@[simp] theorem ft_ce55 : Program.cellsOf Try.prog 55 = 2 := by kernel_rfl
@[simp] theorem ft_by55 : Program.bytesOf Try.prog 55 = 16 := by kernel_rfl
@[simp] theorem ft_ze55 : zeroAV Try.prog 55 = .agg [.sc (.int .i64 0), .sc (.int .i64 0)] := by kernel_rfl
@[simp] theorem ft_co55 : Program.concrete Try.prog 55 = true := by kernel_rfl
@[simp] theorem ft_bu55 : buildT Try.prog 55 = true := by kernel_rfl
@[simp] theorem ft_pl55_0 : placeT Try.prog 55 0 = some (0, 1) := by kernel_rfl
@[simp] theorem ft_fi55_0 : fieldT Try.prog 55 0 = some (0, .one) := by kernel_rfl
@[simp] theorem ft_pl55_1 : placeT Try.prog 55 1 = some (1, 1) := by kernel_rfl
@[simp] theorem ft_fi55_1 : fieldT Try.prog 55 1 = some (1, .one) := by kernel_rfl
@[simp] theorem ft_lk56 : lkT Try.prog 56 = .agg 2 := by kernel_rfl
@[simp] theorem ft_ce56 : Program.cellsOf Try.prog 56 = 2 := by kernel_rfl
@[simp] theorem ft_by56 : Program.bytesOf Try.prog 56 = 16 := by kernel_rfl
@[simp] theorem ft_ze56 : zeroAV Try.prog 56 = .agg [.sc (.int .i64 0), .sc (.int .i64 0)] := by kernel_rfl
@[simp] theorem ft_co56 : Program.concrete Try.prog 56 = true := by kernel_rfl
@[simp] theorem ft_bu56 : buildT Try.prog 56 = true := by kernel_rfl
@[simp] theorem ft_pl56_0 : placeT Try.prog 56 0 = some (0, 1) := by kernel_rfl
@[simp] theorem ft_fi56_0 : fieldT Try.prog 56 0 = some (0, .one) := by kernel_rfl
@[simp] theorem ft_pl56_1 : placeT Try.prog 56 1 = some (1, 1) := by kernel_rfl
@[simp] theorem ft_fi56_1 : fieldT Try.prog 56 1 = some (1, .one) := by kernel_rfl
@[simp] theorem ft_lk58 : lkT Try.prog 58 = .one := by kernel_rfl
@[simp] theorem ft_ce58 : Program.cellsOf Try.prog 58 = 1 := by kernel_rfl
@[simp] theorem ft_by58 : Program.bytesOf Try.prog 58 = 8 := by kernel_rfl
@[simp] theorem ft_ze58 : zeroAV Try.prog 58 = .sc .nilFunc := by kernel_rfl
@[simp] theorem ft_co58 : Program.concrete Try.prog 58 = true := by kernel_rfl
@[simp] theorem ft_lk59 : lkT Try.prog 59 = .one := by kernel_rfl
@[simp] theorem ft_ce59 : Program.cellsOf Try.prog 59 = 1 := by kernel_rfl
@[simp] theorem ft_by59 : Program.bytesOf Try.prog 59 = 8 := by kernel_rfl
@[simp] theorem ft_ze59 : zeroAV Try.prog 59 = .sc .nilFunc := by kernel_rfl
@[simp] theorem ft_co59 : Program.concrete Try.prog 59 = true := by kernel_rfl
@[simp] theorem ft_lk60 : lkT Try.prog 60 = .one := by kernel_rfl
@[simp] theorem ft_ce60 : Program.cellsOf Try.prog 60 = 1 := by kernel_rfl
@[simp] theorem ft_by60 : Program.bytesOf Try.prog 60 = 8 := by kernel_rfl
@[simp] theorem ft_ze60 : zeroAV Try.prog 60 = .sc .nilFunc := by kernel_rfl
@[simp] theorem ft_co60 : Program.concrete Try.prog 60 = true := by kernel_rfl
@[simp] theorem ft_lk61 : lkT Try.prog 61 = .one := by kernel_rfl
@[simp] theorem ft_ce61 : Program.cellsOf Try.prog 61 = 1 := by kernel_rfl
@[simp] theorem ft_by61 : Program.bytesOf Try.prog 61 = 8 := by kernel_rfl
@[simp] theorem ft_ze61 : zeroAV Try.prog 61 = .sc (.pointer none) := by kernel_rfl
@[simp] theorem ft_co61 : Program.concrete Try.prog 61 = true := by kernel_rfl
@[simp] theorem ft_lk62 : lkT Try.prog 62 = .one := by kernel_rfl
@[simp] theorem ft_ce62 : Program.cellsOf Try.prog 62 = 1 := by kernel_rfl
@[simp] theorem ft_by62 : Program.bytesOf Try.prog 62 = 8 := by kernel_rfl
@[simp] theorem ft_ze62 : zeroAV Try.prog 62 = .sc .nilFunc := by kernel_rfl
@[simp] theorem ft_co62 : Program.concrete Try.prog 62 = true := by kernel_rfl
@[simp] theorem ft_lk63 : lkT Try.prog 63 = .one := by kernel_rfl
@[simp] theorem ft_ce63 : Program.cellsOf Try.prog 63 = 1 := by kernel_rfl
@[simp] theorem ft_by63 : Program.bytesOf Try.prog 63 = 8 := by kernel_rfl
@[simp] theorem ft_ze63 : zeroAV Try.prog 63 = .sc .nilFunc := by kernel_rfl
@[simp] theorem ft_co63 : Program.concrete Try.prog 63 = true := by kernel_rfl
@[simp] theorem ft_lk64 : lkT Try.prog 64 = .one := by kernel_rfl
@[simp] theorem ft_ce64 : Program.cellsOf Try.prog 64 = 1 := by kernel_rfl
@[simp] theorem ft_by64 : Program.bytesOf Try.prog 64 = 24 := by kernel_rfl
@[simp] theorem ft_ze64 : zeroAV Try.prog 64 = .nilS := by kernel_rfl
@[simp] theorem ft_co64 : Program.concrete Try.prog 64 = true := by kernel_rfl
@[simp] theorem ft_sl64 : sliceT Try.prog 64 = some 3 := by kernel_rfl
@[simp] theorem ft_lk65 : lkT Try.prog 65 = .one := by kernel_rfl
@[simp] theorem ft_ce65 : Program.cellsOf Try.prog 65 = 1 := by kernel_rfl
@[simp] theorem ft_by65 : Program.bytesOf Try.prog 65 = 24 := by kernel_rfl
@[simp] theorem ft_ze65 : zeroAV Try.prog 65 = .nilS := by kernel_rfl
@[simp] theorem ft_co65 : Program.concrete Try.prog 65 = true := by kernel_rfl
@[simp] theorem ft_sl65 : sliceT Try.prog 65 = some 4 := by kernel_rfl
@[simp] theorem ft_lk66 : lkT Try.prog 66 = .one := by kernel_rfl
@[simp] theorem ft_ce66 : Program.cellsOf Try.prog 66 = 1 := by kernel_rfl
@[simp] theorem ft_by66 : Program.bytesOf Try.prog 66 = 8 := by kernel_rfl
@[simp] theorem ft_ze66 : zeroAV Try.prog 66 = .sc .nilFunc := by kernel_rfl
@[simp] theorem ft_co66 : Program.concrete Try.prog 66 = true := by kernel_rfl
@[simp] theorem ft_lk67 : lkT Try.prog 67 = .one := by kernel_rfl
@[simp] theorem ft_ce67 : Program.cellsOf Try.prog 67 = 1 := by kernel_rfl
@[simp] theorem ft_by67 : Program.bytesOf Try.prog 67 = 8 := by kernel_rfl
@[simp] theorem ft_ze67 : zeroAV Try.prog 67 = .sc .nilFunc := by kernel_rfl
@[simp] theorem ft_co67 : Program.concrete Try.prog 67 = true := by kernel_rfl
@[simp] theorem ft_lk68 : lkT Try.prog 68 = .one := by kernel_rfl
@[simp] theorem ft_ce68 : Program.cellsOf Try.prog 68 = 1 := by kernel_rfl
@[simp] theorem ft_by68 : Program.bytesOf Try.prog 68 = 8 := by kernel_rfl
@[simp] theorem ft_ze68 : zeroAV Try.prog 68 = .sc .nilFunc := by kernel_rfl
@[simp] theorem ft_co68 : Program.concrete Try.prog 68 = true := by kernel_rfl
@[simp] theorem ft_lk69 : lkT Try.prog 69 = .agg 4 := by kernel_rfl
@[simp] theorem ft_ce69 : Program.cellsOf Try.prog 69 = 4 := by kernel_rfl
@[simp] theorem ft_by69 : Program.bytesOf Try.prog 69 = 32 := by kernel_rfl
@[simp] theorem ft_ze69 : zeroAV Try.prog 69 = .agg [.sc (.int .i64 0), .sc (.int .i64 0), .sc (.int .i64 0), .sc (.int .i64 0)] := by kernel_rfl
@[simp] theorem ft_co69 : Program.concrete Try.prog 69 = true := by kernel_rfl
@[simp] theorem ft_ar69 : arrT Try.prog 69 = some (4, 3) := by kernel_rfl
@[simp] theorem ft_pl69 : ∀ i, placeT Try.prog 69 i = some (i * 1, 1) := fun i => by kernel_rfl
@[simp] theorem ft_bu69 : buildT Try.prog 69 = true := by kernel_rfl
@[simp] theorem ft_lk70 : lkT Try.prog 70 = .one := by kernel_rfl
@[simp] theorem ft_ce70 : Program.cellsOf Try.prog 70 = 1 := by kernel_rfl
@[simp] theorem ft_by70 : Program.bytesOf Try.prog 70 = 8 := by kernel_rfl
@[simp] theorem ft_ze70 : zeroAV Try.prog 70 = .sc .nilFunc := by kernel_rfl
@[simp] theorem ft_co70 : Program.concrete Try.prog 70 = true := by kernel_rfl
@[simp] theorem ft_lk71 : lkT Try.prog 71 = .one := by kernel_rfl
@[simp] theorem ft_ce71 : Program.cellsOf Try.prog 71 = 1 := by kernel_rfl
@[simp] theorem ft_by71 : Program.bytesOf Try.prog 71 = 8 := by kernel_rfl
@[simp] theorem ft_ze71 : zeroAV Try.prog 71 = .sc .nilFunc := by kernel_rfl
@[simp] theorem ft_co71 : Program.concrete Try.prog 71 = true := by kernel_rfl
@[simp] theorem ft_lk72 : lkT Try.prog 72 = .agg 2 := by kernel_rfl
@[simp] theorem ft_ce72 : Program.cellsOf Try.prog 72 = 2 := by kernel_rfl
@[simp] theorem ft_by72 : Program.bytesOf Try.prog 72 = 32 := by kernel_rfl
@[simp] theorem ft_ze72 : zeroAV Try.prog 72 = .agg [.nilS, .sc (.int .i64 0)] := by kernel_rfl
@[simp] theorem ft_co72 : Program.concrete Try.prog 72 = true := by kernel_rfl
@[simp] theorem ft_bu72 : buildT Try.prog 72 = true := by kernel_rfl
@[simp] theorem ft_pl72_0 : placeT Try.prog 72 0 = some (0, 1) := by kernel_rfl
@[simp] theorem ft_fi72_0 : fieldT Try.prog 72 0 = some (0, .one) := by kernel_rfl
@[simp] theorem ft_pl72_1 : placeT Try.prog 72 1 = some (1, 1) := by kernel_rfl
@[simp] theorem ft_fi72_1 : fieldT Try.prog 72 1 = some (1, .one) := by kernel_rfl
@[simp] theorem ft_lk73 : lkT Try.prog 73 = .agg 2 := by kernel_rfl
@[simp] theorem ft_ce73 : Program.cellsOf Try.prog 73 = 2 := by kernel_rfl
@[simp] theorem ft_by73 : Program.bytesOf Try.prog 73 = 32 := by kernel_rfl
@[simp] theorem ft_ze73 : zeroAV Try.prog 73 = .agg [.nilS, .sc (.int .i64 0)] := by kernel_rfl
@[simp] theorem ft_co73 : Program.concrete Try.prog 73 = true := by kernel_rfl
@[simp] theorem ft_bu73 : buildT Try.prog 73 = true := by kernel_rfl
@[simp] theorem ft_pl73_0 : placeT Try.prog 73 0 = some (0, 1) := by kernel_rfl
@[simp] theorem ft_fi73_0 : fieldT Try.prog 73 0 = some (0, .one) := by kernel_rfl
@[simp] theorem ft_pl73_1 : placeT Try.prog 73 1 = some (1, 1) := by kernel_rfl
@[simp] theorem ft_fi73_1 : fieldT Try.prog 73 1 = some (1, .one) := by kernel_rfl
@[simp] theorem ft_lk74 : lkT Try.prog 74 = .one := by kernel_rfl
@[simp] theorem ft_ce74 : Program.cellsOf Try.prog 74 = 1 := by kernel_rfl
@[simp] theorem ft_by74 : Program.bytesOf Try.prog 74 = 8 := by kernel_rfl
@[simp] theorem ft_ze74 : zeroAV Try.prog 74 = .sc .nilFunc := by kernel_rfl
@[simp] theorem ft_co74 : Program.concrete Try.prog 74 = true := by kernel_rfl
@[simp] theorem ft_lk75 : lkT Try.prog 75 = .one := by kernel_rfl
@[simp] theorem ft_ce75 : Program.cellsOf Try.prog 75 = 1 := by kernel_rfl
@[simp] theorem ft_by75 : Program.bytesOf Try.prog 75 = 8 := by kernel_rfl
@[simp] theorem ft_ze75 : zeroAV Try.prog 75 = .sc .nilFunc := by kernel_rfl
@[simp] theorem ft_co75 : Program.concrete Try.prog 75 = true := by kernel_rfl
@[simp] theorem ft_lk76 : lkT Try.prog 76 = .one := by kernel_rfl
@[simp] theorem ft_ce76 : Program.cellsOf Try.prog 76 = 1 := by kernel_rfl
@[simp] theorem ft_by76 : Program.bytesOf Try.prog 76 = 8 := by kernel_rfl
@[simp] theorem ft_ze76 : zeroAV Try.prog 76 = .sc .nilFunc := by kernel_rfl
@[simp] theorem ft_co76 : Program.concrete Try.prog 76 = true := by kernel_rfl
@[simp] theorem ft_lk77 : lkT Try.prog 77 = .one := by kernel_rfl
@[simp] theorem ft_ce77 : Program.cellsOf Try.prog 77 = 1 := by kernel_rfl
@[simp] theorem ft_by77 : Program.bytesOf Try.prog 77 = 8 := by kernel_rfl
@[simp] theorem ft_ze77 : zeroAV Try.prog 77 = .sc .nilFunc := by kernel_rfl
@[simp] theorem ft_co77 : Program.concrete Try.prog 77 = true := by kernel_rfl
@[simp] theorem ft_lk79 : lkT Try.prog 79 = .one := by kernel_rfl
@[simp] theorem ft_ce79 : Program.cellsOf Try.prog 79 = 1 := by kernel_rfl
@[simp] theorem ft_by79 : Program.bytesOf Try.prog 79 = 8 := by kernel_rfl
@[simp] theorem ft_ze79 : zeroAV Try.prog 79 = .sc (.pointer none) := by kernel_rfl
@[simp] theorem ft_co79 : Program.concrete Try.prog 79 = true := by kernel_rfl
@[simp] theorem ft_lk80 : lkT Try.prog 80 = .one := by kernel_rfl
@[simp] theorem ft_ce80 : Program.cellsOf Try.prog 80 = 1 := by kernel_rfl
@[simp] theorem ft_by80 : Program.bytesOf Try.prog 80 = 8 := by kernel_rfl
@[simp] theorem ft_ze80 : zeroAV Try.prog 80 = .sc .nilFunc := by kernel_rfl
@[simp] theorem ft_co80 : Program.concrete Try.prog 80 = true := by kernel_rfl
@[simp] theorem ft_lk81 : lkT Try.prog 81 = .one := by kernel_rfl
@[simp] theorem ft_ce81 : Program.cellsOf Try.prog 81 = 1 := by kernel_rfl
@[simp] theorem ft_by81 : Program.bytesOf Try.prog 81 = 8 := by kernel_rfl
@[simp] theorem ft_ze81 : zeroAV Try.prog 81 = .sc .nilFunc := by kernel_rfl
@[simp] theorem ft_co81 : Program.concrete Try.prog 81 = true := by kernel_rfl
@[simp] theorem ft_lk82 : lkT Try.prog 82 = .agg 4 := by kernel_rfl
@[simp] theorem ft_ce82 : Program.cellsOf Try.prog 82 = 4 := by kernel_rfl
@[simp] theorem ft_by82 : Program.bytesOf Try.prog 82 = 32 := by kernel_rfl
@[simp] theorem ft_ze82 : zeroAV Try.prog 82 = .agg [.sc .nilFunc, .sc .nilFunc, .sc .nilFunc, .sc .nilFunc] := by kernel_rfl
@[simp] theorem ft_co82 : Program.concrete Try.prog 82 = true := by kernel_rfl
@[simp] theorem ft_ar82 : arrT Try.prog 82 = some (4, 80) := by kernel_rfl
@[simp] theorem ft_pl82 : ∀ i, placeT Try.prog 82 i = some (i * 1, 1) := fun i => by kernel_rfl
@[simp] theorem ft_bu82 : buildT Try.prog 82 = true := by kernel_rfl
@[simp] theorem ft_lk83 : lkT Try.prog 83 = .one := by kernel_rfl
@[simp] theorem ft_ce83 : Program.cellsOf Try.prog 83 = 1 := by kernel_rfl
@[simp] theorem ft_by83 : Program.bytesOf Try.prog 83 = 8 := by kernel_rfl
@[simp] theorem ft_ze83 : zeroAV Try.prog 83 = .sc (.int .u64 0) := by kernel_rfl
@[simp] theorem ft_co83 : Program.concrete Try.prog 83 = true := by kernel_rfl
@[simp] theorem ft_lk84 : lkT Try.prog 84 = .one := by kernel_rfl
@[simp] theorem ft_ce84 : Program.cellsOf Try.prog 84 = 1 := by kernel_rfl
@[simp] theorem ft_by84 : Program.bytesOf Try.prog 84 = 8 := by kernel_rfl
@[simp] theorem ft_ze84 : zeroAV Try.prog 84 = .sc .nilFunc := by kernel_rfl
@[simp] theorem ft_co84 : Program.concrete Try.prog 84 = true := by kernel_rfl
@[simp] theorem ft_lk85 : lkT Try.prog 85 = .agg 4 := by kernel_rfl
@[simp] theorem ft_ce85 : Program.cellsOf Try.prog 85 = 4 := by kernel_rfl
@[simp] theorem ft_by85 : Program.bytesOf Try.prog 85 = 40 := by kernel_rfl
@[simp] theorem ft_ze85 : zeroAV Try.prog 85 = .agg [.sc (.pointer none), .sc (.pointer none), .sc (.pointer none), .sc (.string .empty)] := by kernel_rfl
@[simp] theorem ft_co85 : Program.concrete Try.prog 85 = true := by kernel_rfl
@[simp] theorem ft_bu85 : buildT Try.prog 85 = true := by kernel_rfl
@[simp] theorem ft_pl85_0 : placeT Try.prog 85 0 = some (0, 1) := by kernel_rfl
@[simp] theorem ft_fi85_0 : fieldT Try.prog 85 0 = some (0, .one) := by kernel_rfl
@[simp] theorem ft_pl85_1 : placeT Try.prog 85 1 = some (1, 1) := by kernel_rfl
@[simp] theorem ft_fi85_1 : fieldT Try.prog 85 1 = some (1, .one) := by kernel_rfl
@[simp] theorem ft_pl85_2 : placeT Try.prog 85 2 = some (2, 1) := by kernel_rfl
@[simp] theorem ft_fi85_2 : fieldT Try.prog 85 2 = some (2, .one) := by kernel_rfl
@[simp] theorem ft_pl85_3 : placeT Try.prog 85 3 = some (3, 1) := by kernel_rfl
@[simp] theorem ft_fi85_3 : fieldT Try.prog 85 3 = some (3, .one) := by kernel_rfl
@[simp] theorem ft_lk86 : lkT Try.prog 86 = .agg 4 := by kernel_rfl
@[simp] theorem ft_ce86 : Program.cellsOf Try.prog 86 = 4 := by kernel_rfl
@[simp] theorem ft_by86 : Program.bytesOf Try.prog 86 = 40 := by kernel_rfl
@[simp] theorem ft_ze86 : zeroAV Try.prog 86 = .agg [.sc (.pointer none), .sc (.pointer none), .sc (.pointer none), .sc (.string .empty)] := by kernel_rfl
@[simp] theorem ft_co86 : Program.concrete Try.prog 86 = true := by kernel_rfl
@[simp] theorem ft_bu86 : buildT Try.prog 86 = true := by kernel_rfl
@[simp] theorem ft_pl86_0 : placeT Try.prog 86 0 = some (0, 1) := by kernel_rfl
@[simp] theorem ft_fi86_0 : fieldT Try.prog 86 0 = some (0, .one) := by kernel_rfl
@[simp] theorem ft_pl86_1 : placeT Try.prog 86 1 = some (1, 1) := by kernel_rfl
@[simp] theorem ft_fi86_1 : fieldT Try.prog 86 1 = some (1, .one) := by kernel_rfl
@[simp] theorem ft_pl86_2 : placeT Try.prog 86 2 = some (2, 1) := by kernel_rfl
@[simp] theorem ft_fi86_2 : fieldT Try.prog 86 2 = some (2, .one) := by kernel_rfl
@[simp] theorem ft_pl86_3 : placeT Try.prog 86 3 = some (3, 1) := by kernel_rfl
@[simp] theorem ft_fi86_3 : fieldT Try.prog 86 3 = some (3, .one) := by kernel_rfl
@[simp] theorem ft_lk87 : lkT Try.prog 87 = .agg 0 := by kernel_rfl
@[simp] theorem ft_ce87 : Program.cellsOf Try.prog 87 = 0 := by kernel_rfl
@[simp] theorem ft_by87 : Program.bytesOf Try.prog 87 = 0 := by kernel_rfl
@[simp] theorem ft_ze87 : zeroAV Try.prog 87 = .agg [] := by kernel_rfl
@[simp] theorem ft_co87 : Program.concrete Try.prog 87 = true := by kernel_rfl
@[simp] theorem ft_ar87 : arrT Try.prog 87 = some (0, 16) := by kernel_rfl
@[simp] theorem ft_pl87 : ∀ i, placeT Try.prog 87 i = some (i * 1, 1) := fun i => by kernel_rfl
@[simp] theorem ft_bu87 : buildT Try.prog 87 = true := by kernel_rfl
@[simp] theorem ft_lk88 : lkT Try.prog 88 = .agg 0 := by kernel_rfl
@[simp] theorem ft_ce88 : Program.cellsOf Try.prog 88 = 0 := by kernel_rfl
@[simp] theorem ft_by88 : Program.bytesOf Try.prog 88 = 0 := by kernel_rfl
@[simp] theorem ft_ze88 : zeroAV Try.prog 88 = .agg [] := by kernel_rfl
@[simp] theorem ft_co88 : Program.concrete Try.prog 88 = true := by kernel_rfl
@[simp] theorem ft_bu88 : buildT Try.prog 88 = true := by kernel_rfl
@[simp] theorem ft_pl88_0 : placeT Try.prog 88 0 = some (0, 0) := by kernel_rfl
@[simp] theorem ft_fi88_0 : fieldT Try.prog 88 0 = some (0, .agg 0) := by kernel_rfl
@[simp] theorem ft_lk89 : lkT Try.prog 89 = .agg 0 := by kernel_rfl
@[simp] theorem ft_ce89 : Program.cellsOf Try.prog 89 = 0 := by kernel_rfl
@[simp] theorem ft_by89 : Program.bytesOf Try.prog 89 = 0 := by kernel_rfl
@[simp] theorem ft_ze89 : zeroAV Try.prog 89 = .agg [] := by kernel_rfl
@[simp] theorem ft_co89 : Program.concrete Try.prog 89 = true := by kernel_rfl
@[simp] theorem ft_bu89 : buildT Try.prog 89 = true := by kernel_rfl
@[simp] theorem ft_pl89_0 : placeT Try.prog 89 0 = some (0, 0) := by kernel_rfl
@[simp] theorem ft_fi89_0 : fieldT Try.prog 89 0 = some (0, .agg 0) := by kernel_rfl
@[simp] theorem ft_lk90 : lkT Try.prog 90 = .one := by kernel_rfl
@[simp] theorem ft_ce90 : Program.cellsOf Try.prog 90 = 1 := by kernel_rfl
@[simp] theorem ft_by90 : Program.bytesOf Try.prog 90 = 4 := by kernel_rfl
@[simp] theorem ft_ze90 : zeroAV Try.prog 90 = .sc (.int .u32 0) := by kernel_rfl
@[simp] theorem ft_co90 : Program.concrete Try.prog 90 = true := by kernel_rfl
@[simp] theorem ft_lk91 : lkT Try.prog 91 = .one := by kernel_rfl
@[simp] theorem ft_ce91 : Program.cellsOf Try.prog 91 = 1 := by kernel_rfl
@[simp] theorem ft_by91 : Program.bytesOf Try.prog 91 = 1 := by kernel_rfl
@[simp] theorem ft_ze91 : zeroAV Try.prog 91 = .sc (.int .u8 0) := by kernel_rfl
@[simp] theorem ft_co91 : Program.concrete Try.prog 91 = true := by kernel_rfl
@[simp] theorem ft_lk92 : lkT Try.prog 92 = .one := by kernel_rfl
@[simp] theorem ft_ce92 : Program.cellsOf Try.prog 92 = 1 := by kernel_rfl
@[simp] theorem ft_by92 : Program.bytesOf Try.prog 92 = 1 := by kernel_rfl
@[simp] theorem ft_ze92 : zeroAV Try.prog 92 = .sc (.int .u8 0) := by kernel_rfl
@[simp] theorem ft_co92 : Program.concrete Try.prog 92 = true := by kernel_rfl
@[simp] theorem ft_lk93 : lkT Try.prog 93 = .one := by kernel_rfl
@[simp] theorem ft_ce93 : Program.cellsOf Try.prog 93 = 1 := by kernel_rfl
@[simp] theorem ft_by93 : Program.bytesOf Try.prog 93 = 8 := by kernel_rfl
@[simp] theorem ft_ze93 : zeroAV Try.prog 93 = .sc .nilFunc := by kernel_rfl
@[simp] theorem ft_co93 : Program.concrete Try.prog 93 = true := by kernel_rfl
@[simp] theorem ft_lk94 : lkT Try.prog 94 = .one := by kernel_rfl
@[simp] theorem ft_ce94 : Program.cellsOf Try.prog 94 = 1 := by kernel_rfl
@[simp] theorem ft_by94 : Program.bytesOf Try.prog 94 = 8 := by kernel_rfl
@[simp] theorem ft_ze94 : zeroAV Try.prog 94 = .sc (.pointer none) := by kernel_rfl
@[simp] theorem ft_co94 : Program.concrete Try.prog 94 = true := by kernel_rfl
@[simp] theorem ft_lk95 : lkT Try.prog 95 = .one := by kernel_rfl
@[simp] theorem ft_ce95 : Program.cellsOf Try.prog 95 = 1 := by kernel_rfl
@[simp] theorem ft_by95 : Program.bytesOf Try.prog 95 = 4 := by kernel_rfl
@[simp] theorem ft_ze95 : zeroAV Try.prog 95 = .sc (.int .i32 0) := by kernel_rfl
@[simp] theorem ft_co95 : Program.concrete Try.prog 95 = true := by kernel_rfl
@[simp] theorem ft_lk96 : lkT Try.prog 96 = .one := by kernel_rfl
@[simp] theorem ft_ce96 : Program.cellsOf Try.prog 96 = 1 := by kernel_rfl
@[simp] theorem ft_by96 : Program.bytesOf Try.prog 96 = 4 := by kernel_rfl
@[simp] theorem ft_ze96 : zeroAV Try.prog 96 = .sc (.int .i32 0) := by kernel_rfl
@[simp] theorem ft_co96 : Program.concrete Try.prog 96 = true := by kernel_rfl
@[simp] theorem ft_lk97 : lkT Try.prog 97 = .agg 11 := by kernel_rfl
@[simp] theorem ft_ce97 : Program.cellsOf Try.prog 97 = 11 := by kernel_rfl
@[simp] theorem ft_by97 : Program.bytesOf Try.prog 97 = 48 := by kernel_rfl
@[simp] theorem ft_ze97 : zeroAV Try.prog 97 = .agg [.sc (.int .u64 0), .sc (.int .u64 0), .sc (.int .u32 0), .sc (.int .u8 0), .sc (.int .u8 0), .sc (.int .u8 0), .sc (.int .u8 0), .sc .nilFunc, .sc (.pointer none), .sc (.int .i32 0), .sc (.int .i32 0)] := by kernel_rfl
@[simp] theorem ft_co97 : Program.concrete Try.prog 97 = true := by kernel_rfl
@[simp] theorem ft_bu97 : buildT Try.prog 97 = true := by kernel_rfl
@[simp] theorem ft_pl97_0 : placeT Try.prog 97 0 = some (0, 1) := by kernel_rfl
@[simp] theorem ft_fi97_0 : fieldT Try.prog 97 0 = some (0, .one) := by kernel_rfl
@[simp] theorem ft_pl97_1 : placeT Try.prog 97 1 = some (1, 1) := by kernel_rfl
@[simp] theorem ft_fi97_1 : fieldT Try.prog 97 1 = some (1, .one) := by kernel_rfl
@[simp] theorem ft_pl97_2 : placeT Try.prog 97 2 = some (2, 1) := by kernel_rfl
@[simp] theorem ft_fi97_2 : fieldT Try.prog 97 2 = some (2, .one) := by kernel_rfl
@[simp] theorem ft_pl97_3 : placeT Try.prog 97 3 = some (3, 1) := by kernel_rfl
@[simp] theorem ft_fi97_3 : fieldT Try.prog 97 3 = some (3, .one) := by kernel_rfl
@[simp] theorem ft_pl97_4 : placeT Try.prog 97 4 = some (4, 1) := by kernel_rfl
@[simp] theorem ft_fi97_4 : fieldT Try.prog 97 4 = some (4, .one) := by kernel_rfl
@[simp] theorem ft_pl97_5 : placeT Try.prog 97 5 = some (5, 1) := by kernel_rfl
@[simp] theorem ft_fi97_5 : fieldT Try.prog 97 5 = some (5, .one) := by kernel_rfl
@[simp] theorem ft_pl97_6 : placeT Try.prog 97 6 = some (6, 1) := by kernel_rfl
@[simp] theorem ft_fi97_6 : fieldT Try.prog 97 6 = some (6, .one) := by kernel_rfl
@[simp] theorem ft_pl97_7 : placeT Try.prog 97 7 = some (7, 1) := by kernel_rfl
@[simp] theorem ft_fi97_7 : fieldT Try.prog 97 7 = some (7, .one) := by kernel_rfl
@[simp] theorem ft_pl97_8 : placeT Try.prog 97 8 = some (8, 1) := by kernel_rfl
@[simp] theorem ft_fi97_8 : fieldT Try.prog 97 8 = some (8, .one) := by kernel_rfl
@[simp] theorem ft_pl97_9 : placeT Try.prog 97 9 = some (9, 1) := by kernel_rfl
@[simp] theorem ft_fi97_9 : fieldT Try.prog 97 9 = some (9, .one) := by kernel_rfl
@[simp] theorem ft_pl97_10 : placeT Try.prog 97 10 = some (10, 1) := by kernel_rfl
@[simp] theorem ft_fi97_10 : fieldT Try.prog 97 10 = some (10, .one) := by kernel_rfl
@[simp] theorem ft_lk98 : lkT Try.prog 98 = .agg 11 := by kernel_rfl
@[simp] theorem ft_ce98 : Program.cellsOf Try.prog 98 = 11 := by kernel_rfl
@[simp] theorem ft_by98 : Program.bytesOf Try.prog 98 = 48 := by kernel_rfl
@[simp] theorem ft_ze98 : zeroAV Try.prog 98 = .agg [.sc (.int .u64 0), .sc (.int .u64 0), .sc (.int .u32 0), .sc (.int .u8 0), .sc (.int .u8 0), .sc (.int .u8 0), .sc (.int .u8 0), .sc .nilFunc, .sc (.pointer none), .sc (.int .i32 0), .sc (.int .i32 0)] := by kernel_rfl
@[simp] theorem ft_co98 : Program.concrete Try.prog 98 = true := by kernel_rfl
@[simp] theorem ft_bu98 : buildT Try.prog 98 = true := by kernel_rfl
@[simp] theorem ft_pl98_0 : placeT Try.prog 98 0 = some (0, 1) := by kernel_rfl
@[simp] theorem ft_fi98_0 : fieldT Try.prog 98 0 = some (0, .one) := by kernel_rfl
@[simp] theorem ft_pl98_1 : placeT Try.prog 98 1 = some (1, 1) := by kernel_rfl
@[simp] theorem ft_fi98_1 : fieldT Try.prog 98 1 = some (1, .one) := by kernel_rfl
@[simp] theorem ft_pl98_2 : placeT Try.prog 98 2 = some (2, 1) := by kernel_rfl
@[simp] theorem ft_fi98_2 : fieldT Try.prog 98 2 = some (2, .one) := by kernel_rfl
@[simp] theorem ft_pl98_3 : placeT Try.prog 98 3 = some (3, 1) := by kernel_rfl
@[simp] theorem ft_fi98_3 : fieldT Try.prog 98 3 = some (3, .one) := by kernel_rfl
@[simp] theorem ft_pl98_4 : placeT Try.prog 98 4 = some (4, 1) := by kernel_rfl
@[simp] theorem ft_fi98_4 : fieldT Try.prog 98 4 = some (4, .one) := by kernel_rfl
@[simp] theorem ft_pl98_5 : placeT Try.prog 98 5 = some (5, 1) := by kernel_rfl
@[simp] theorem ft_fi98_5 : fieldT Try.prog 98 5 = some (5, .one) := by kernel_rfl
@[simp] theorem ft_pl98_6 : placeT Try.prog 98 6 = some (6, 1) := by kernel_rfl
@[simp] theorem ft_fi98_6 : fieldT Try.prog 98 6 = some (6, .one) := by kernel_rfl
@[simp] theorem ft_pl98_7 : placeT Try.prog 98 7 = some (7, 1) := by kernel_rfl
@[simp] theorem ft_fi98_7 : fieldT Try.prog 98 7 = some (7, .one) := by kernel_rfl
@[simp] theorem ft_pl98_8 : placeT Try.prog 98 8 = some (8, 1) := by kernel_rfl
@[simp] theorem ft_fi98_8 : fieldT Try.prog 98 8 = some (8, .one) := by kernel_rfl
@[simp] theorem ft_pl98_9 : placeT Try.prog 98 9 = some (9, 1) := by kernel_rfl
@[simp] theorem ft_fi98_9 : fieldT Try.prog 98 9 = some (9, .one) := by kernel_rfl
@[simp] theorem ft_pl98_10 : placeT Try.prog 98 10 = some (10, 1) := by kernel_rfl
@[simp] theorem ft_fi98_10 : fieldT Try.prog 98 10 = some (10, .one) := by kernel_rfl
@[simp] theorem ft_lk99 : lkT Try.prog 99 = .one := by kernel_rfl
@[simp] theorem ft_ce99 : Program.cellsOf Try.prog 99 = 1 := by kernel_rfl
@[simp] theorem ft_by99 : Program.bytesOf Try.prog 99 = 8 := by kernel_rfl
@[simp] theorem ft_ze99 : zeroAV Try.prog 99 = .sc (.pointer none) := by kernel_rfl
@[simp] theorem ft_co99 : Program.concrete Try.prog 99 = true := by kernel_rfl
end Go.Proofs.Ythpmabablfkekaa
