/- Facts on the types of this seat, each reckoned by the kernel (printed by facts.py). -/
import Derived.Test.YtnkjbgcbchbonaaAwLaw
import Derived.Test.YtnkjbgcbchbonaaProg
import Derived.KernelRfl
set_option maxRecDepth 100000
namespace Go.Proofs.Ytnkjbgcbchbonaa
open Go Go.AW
@[simp] theorem ft_lk1 : lkT Try.prog 1 = .one := by kernel_rfl
@[simp] theorem ft_ce1 : Program.cellsOf Try.prog 1 = 1 := by kernel_rfl
@[simp] theorem ft_by1 : Program.bytesOf Try.prog 1 = 8 := by kernel_rfl
@[simp] theorem ft_ze1 : zeroAV Try.prog 1 = .sc .nilFunc := by kernel_rfl
@[simp] theorem ft_co1 : Program.concrete Try.prog 1 = true := by kernel_rfl
@[simp] theorem ft_lk2 : lkT Try.prog 2 = .one := by kernel_rfl
@[simp] theorem ft_ce2 : Program.cellsOf Try.prog 2 = 1 := by kernel_rfl
@[simp] theorem ft_by2 : Program.bytesOf Try.prog 2 = 8 := by kernel_rfl
@[simp] theorem ft_ze2 : zeroAV Try.prog 2 = .sc (.int .i64 0) := by kernel_rfl
@[simp] theorem ft_co2 : Program.concrete Try.prog 2 = true := by kernel_rfl
@[simp] theorem ft_lk3 : lkT Try.prog 3 = .one := by kernel_rfl
@[simp] theorem ft_ce3 : Program.cellsOf Try.prog 3 = 1 := by kernel_rfl
@[simp] theorem ft_by3 : Program.bytesOf Try.prog 3 = 8 := by kernel_rfl
@[simp] theorem ft_ze3 : zeroAV Try.prog 3 = .sc (.int .i64 0) := by kernel_rfl
@[simp] theorem ft_co3 : Program.concrete Try.prog 3 = true := by kernel_rfl
@[simp] theorem ft_lk4 : lkT Try.prog 4 = .one := by kernel_rfl
@[simp] theorem ft_ce4 : Program.cellsOf Try.prog 4 = 1 := by kernel_rfl
@[simp] theorem ft_by4 : Program.bytesOf Try.prog 4 = 1 := by kernel_rfl
@[simp] theorem ft_ze4 : zeroAV Try.prog 4 = .sc (.bool false) := by kernel_rfl
@[simp] theorem ft_co4 : Program.concrete Try.prog 4 = true := by kernel_rfl
@[simp] theorem ft_lk5 : lkT Try.prog 5 = .one := by kernel_rfl
@[simp] theorem ft_ce5 : Program.cellsOf Try.prog 5 = 1 := by kernel_rfl
@[simp] theorem ft_by5 : Program.bytesOf Try.prog 5 = 1 := by kernel_rfl
@[simp] theorem ft_ze5 : zeroAV Try.prog 5 = .sc (.int .u8 0) := by kernel_rfl
@[simp] theorem ft_co5 : Program.concrete Try.prog 5 = true := by kernel_rfl
@[simp] theorem ft_lk6 : lkT Try.prog 6 = .one := by kernel_rfl
@[simp] theorem ft_ce6 : Program.cellsOf Try.prog 6 = 1 := by kernel_rfl
@[simp] theorem ft_by6 : Program.bytesOf Try.prog 6 = 1 := by kernel_rfl
@[simp] theorem ft_ze6 : zeroAV Try.prog 6 = .sc (.int .u8 0) := by kernel_rfl
@[simp] theorem ft_co6 : Program.concrete Try.prog 6 = true := by kernel_rfl
@[simp] theorem ft_lk7 : lkT Try.prog 7 = .agg 4 := by kernel_rfl
@[simp] theorem ft_ce7 : Program.cellsOf Try.prog 7 = 4 := by kernel_rfl
@[simp] theorem ft_by7 : Program.bytesOf Try.prog 7 = 24 := by kernel_rfl
@[simp] theorem ft_ze7 : zeroAV Try.prog 7 = .agg [.sc (.int .i64 0), .sc (.int .i64 0), .sc (.bool false), .sc (.int .u8 0)] := by kernel_rfl
@[simp] theorem ft_co7 : Program.concrete Try.prog 7 = true := by kernel_rfl
@[simp] theorem ft_bu7 : buildT Try.prog 7 = true := by kernel_rfl
@[simp] theorem ft_pl7_0 : placeT Try.prog 7 0 = some (0, 1) := by kernel_rfl
@[simp] theorem ft_fi7_0 : fieldT Try.prog 7 0 = some (0, .one) := by kernel_rfl
@[simp] theorem ft_pl7_1 : placeT Try.prog 7 1 = some (1, 1) := by kernel_rfl
@[simp] theorem ft_fi7_1 : fieldT Try.prog 7 1 = some (1, .one) := by kernel_rfl
@[simp] theorem ft_pl7_2 : placeT Try.prog 7 2 = some (2, 1) := by kernel_rfl
@[simp] theorem ft_fi7_2 : fieldT Try.prog 7 2 = some (2, .one) := by kernel_rfl
@[simp] theorem ft_pl7_3 : placeT Try.prog 7 3 = some (3, 1) := by kernel_rfl
@[simp] theorem ft_fi7_3 : fieldT Try.prog 7 3 = some (3, .one) := by kernel_rfl
@[simp] theorem ft_lk8 : lkT Try.prog 8 = .agg 4 := by kernel_rfl
@[simp] theorem ft_ce8 : Program.cellsOf Try.prog 8 = 4 := by kernel_rfl
@[simp] theorem ft_by8 : Program.bytesOf Try.prog 8 = 24 := by kernel_rfl
@[simp] theorem ft_ze8 : zeroAV Try.prog 8 = .agg [.sc (.int .i64 0), .sc (.int .i64 0), .sc (.bool false), .sc (.int .u8 0)] := by kernel_rfl
@[simp] theorem ft_co8 : Program.concrete Try.prog 8 = true := by kernel_rfl
@[simp] theorem ft_bu8 : buildT Try.prog 8 = true := by kernel_rfl
@[simp] theorem ft_pl8_0 : placeT Try.prog 8 0 = some (0, 1) := by kernel_rfl
@[simp] theorem ft_fi8_0 : fieldT Try.prog 8 0 = some (0, .one) := by kernel_rfl
@[simp] theorem ft_pl8_1 : placeT Try.prog 8 1 = some (1, 1) := by kernel_rfl
@[simp] theorem ft_fi8_1 : fieldT Try.prog 8 1 = some (1, .one) := by kernel_rfl
@[simp] theorem ft_pl8_2 : placeT Try.prog 8 2 = some (2, 1) := by kernel_rfl
@[simp] theorem ft_fi8_2 : fieldT Try.prog 8 2 = some (2, .one) := by kernel_rfl
@[simp] theorem ft_pl8_3 : placeT Try.prog 8 3 = some (3, 1) := by kernel_rfl
@[simp] theorem ft_fi8_3 : fieldT Try.prog 8 3 = some (3, .one) := by kernel_rfl
@[simp] theorem ft_lk9 : lkT Try.prog 9 = .one := by kernel_rfl
@[simp] theorem ft_ce9 : Program.cellsOf Try.prog 9 = 1 := by kernel_rfl
@[simp] theorem ft_by9 : Program.bytesOf Try.prog 9 = 16 := by kernel_rfl
@[simp] theorem ft_ze9 : zeroAV Try.prog 9 = .sc (.string .empty) := by kernel_rfl
@[simp] theorem ft_co9 : Program.concrete Try.prog 9 = true := by kernel_rfl
@[simp] theorem ft_lk10 : lkT Try.prog 10 = .one := by kernel_rfl
@[simp] theorem ft_ce10 : Program.cellsOf Try.prog 10 = 1 := by kernel_rfl
@[simp] theorem ft_by10 : Program.bytesOf Try.prog 10 = 16 := by kernel_rfl
@[simp] theorem ft_ze10 : zeroAV Try.prog 10 = .sc (.string .empty) := by kernel_rfl
@[simp] theorem ft_co10 : Program.concrete Try.prog 10 = true := by kernel_rfl
@[simp] theorem ft_lk11 : lkT Try.prog 11 = .one := by kernel_rfl
@[simp] theorem ft_ce11 : Program.cellsOf Try.prog 11 = 1 := by kernel_rfl
@[simp] theorem ft_by11 : Program.bytesOf Try.prog 11 = 16 := by kernel_rfl
@[simp] theorem ft_ze11 : zeroAV Try.prog 11 = .sc (.string .empty) := by kernel_rfl
@[simp] theorem ft_co11 : Program.concrete Try.prog 11 = true := by kernel_rfl
@[simp] theorem ft_lk12 : lkT Try.prog 12 = .one := by kernel_rfl
@[simp] theorem ft_ce12 : Program.cellsOf Try.prog 12 = 1 := by kernel_rfl
@[simp] theorem ft_by12 : Program.bytesOf Try.prog 12 = 8 := by kernel_rfl
@[simp] theorem ft_ze12 : zeroAV Try.prog 12 = .sc (.int .u64 0) := by kernel_rfl
@[simp] theorem ft_co12 : Program.concrete Try.prog 12 = true := by kernel_rfl
@[simp] theorem ft_lk13 : lkT Try.prog 13 = .agg 2 := by kernel_rfl
@[simp] theorem ft_ce13 : Program.cellsOf Try.prog 13 = 2 := by kernel_rfl
@[simp] theorem ft_by13 : Program.bytesOf Try.prog 13 = 24 := by kernel_rfl
@[simp] theorem ft_ze13 : zeroAV Try.prog 13 = .agg [.sc (.string .empty), .sc (.int .u64 0)] := by kernel_rfl
@[simp] theorem ft_co13 : Program.concrete Try.prog 13 = true := by kernel_rfl
@[simp] theorem ft_bu13 : buildT Try.prog 13 = true := by kernel_rfl
@[simp] theorem ft_pl13_0 : placeT Try.prog 13 0 = some (0, 1) := by kernel_rfl
@[simp] theorem ft_fi13_0 : fieldT Try.prog 13 0 = some (0, .one) := by kernel_rfl
@[simp] theorem ft_pl13_1 : placeT Try.prog 13 1 = some (1, 1) := by kernel_rfl
@[simp] theorem ft_fi13_1 : fieldT Try.prog 13 1 = some (1, .one) := by kernel_rfl
@[simp] theorem ft_lk14 : lkT Try.prog 14 = .agg 2 := by kernel_rfl
@[simp] theorem ft_ce14 : Program.cellsOf Try.prog 14 = 2 := by kernel_rfl
@[simp] theorem ft_by14 : Program.bytesOf Try.prog 14 = 24 := by kernel_rfl
@[simp] theorem ft_ze14 : zeroAV Try.prog 14 = .agg [.sc (.string .empty), .sc (.int .u64 0)] := by kernel_rfl
@[simp] theorem ft_co14 : Program.concrete Try.prog 14 = true := by kernel_rfl
@[simp] theorem ft_bu14 : buildT Try.prog 14 = true := by kernel_rfl
@[simp] theorem ft_pl14_0 : placeT Try.prog 14 0 = some (0, 1) := by kernel_rfl
@[simp] theorem ft_fi14_0 : fieldT Try.prog 14 0 = some (0, .one) := by kernel_rfl
@[simp] theorem ft_pl14_1 : placeT Try.prog 14 1 = some (1, 1) := by kernel_rfl
@[simp] theorem ft_fi14_1 : fieldT Try.prog 14 1 = some (1, .one) := by kernel_rfl
@[simp] theorem ft_lk15 : lkT Try.prog 15 = .one := by kernel_rfl
@[simp] theorem ft_ce15 : Program.cellsOf Try.prog 15 = 1 := by kernel_rfl
@[simp] theorem ft_by15 : Program.bytesOf Try.prog 15 = 8 := by kernel_rfl
@[simp] theorem ft_ze15 : zeroAV Try.prog 15 = .sc (.pointer none) := by kernel_rfl
@[simp] theorem ft_co15 : Program.concrete Try.prog 15 = true := by kernel_rfl
@[simp] theorem ft_lk16 : lkT Try.prog 16 = .one := by kernel_rfl
@[simp] theorem ft_ce16 : Program.cellsOf Try.prog 16 = 1 := by kernel_rfl
@[simp] theorem ft_by16 : Program.bytesOf Try.prog 16 = 8 := by kernel_rfl
@[simp] theorem ft_ze16 : zeroAV Try.prog 16 = .sc (.pointer none) := by kernel_rfl
@[simp] theorem ft_co16 : Program.concrete Try.prog 16 = true := by kernel_rfl
@[simp] theorem ft_lk17 : lkT Try.prog 17 = .one := by kernel_rfl
@[simp] theorem ft_ce17 : Program.cellsOf Try.prog 17 = 1 := by kernel_rfl
@[simp] theorem ft_by17 : Program.bytesOf Try.prog 17 = 8 := by kernel_rfl
@[simp] theorem ft_ze17 : zeroAV Try.prog 17 = .sc (.pointer none) := by kernel_rfl
@[simp] theorem ft_co17 : Program.concrete Try.prog 17 = true := by kernel_rfl
@[simp] theorem ft_lk18 : lkT Try.prog 18 = .agg 1 := by kernel_rfl
@[simp] theorem ft_ce18 : Program.cellsOf Try.prog 18 = 1 := by kernel_rfl
@[simp] theorem ft_by18 : Program.bytesOf Try.prog 18 = 8 := by kernel_rfl
@[simp] theorem ft_ze18 : zeroAV Try.prog 18 = .agg [.sc (.pointer none)] := by kernel_rfl
@[simp] theorem ft_co18 : Program.concrete Try.prog 18 = true := by kernel_rfl
@[simp] theorem ft_bu18 : buildT Try.prog 18 = true := by kernel_rfl
@[simp] theorem ft_pl18_0 : placeT Try.prog 18 0 = some (0, 1) := by kernel_rfl
@[simp] theorem ft_fi18_0 : fieldT Try.prog 18 0 = some (0, .one) := by kernel_rfl
@[simp] theorem ft_lk19 : lkT Try.prog 19 = .agg 1 := by kernel_rfl
@[simp] theorem ft_ce19 : Program.cellsOf Try.prog 19 = 1 := by kernel_rfl
@[simp] theorem ft_by19 : Program.bytesOf Try.prog 19 = 8 := by kernel_rfl
@[simp] theorem ft_ze19 : zeroAV Try.prog 19 = .agg [.sc (.pointer none)] := by kernel_rfl
@[simp] theorem ft_co19 : Program.concrete Try.prog 19 = true := by kernel_rfl
@[simp] theorem ft_bu19 : buildT Try.prog 19 = true := by kernel_rfl
@[simp] theorem ft_pl19_0 : placeT Try.prog 19 0 = some (0, 1) := by kernel_rfl
@[simp] theorem ft_fi19_0 : fieldT Try.prog 19 0 = some (0, .one) := by kernel_rfl
@[simp] theorem ft_lk20 : lkT Try.prog 20 = .one := by kernel_rfl
@[simp] theorem ft_ce20 : Program.cellsOf Try.prog 20 = 1 := by kernel_rfl
@[simp] theorem ft_by20 : Program.bytesOf Try.prog 20 = 16 := by kernel_rfl
@[simp] theorem ft_ze20 : zeroAV Try.prog 20 = .sc .nilIface := by kernel_rfl
@[simp] theorem ft_lk21 : lkT Try.prog 21 = .one := by kernel_rfl
@[simp] theorem ft_ce21 : Program.cellsOf Try.prog 21 = 1 := by kernel_rfl
@[simp] theorem ft_by21 : Program.bytesOf Try.prog 21 = 4 := by kernel_rfl
@[simp] theorem ft_ze21 : zeroAV Try.prog 21 = .sc (.int .i32 0) := by kernel_rfl
@[simp] theorem ft_co21 : Program.concrete Try.prog 21 = true := by kernel_rfl
@[simp] theorem ft_lk22 : lkT Try.prog 22 = .one := by kernel_rfl
@[simp] theorem ft_ce22 : Program.cellsOf Try.prog 22 = 1 := by kernel_rfl
@[simp] theorem ft_by22 : Program.bytesOf Try.prog 22 = 24 := by kernel_rfl
@[simp] theorem ft_ze22 : zeroAV Try.prog 22 = .nilS := by kernel_rfl
@[simp] theorem ft_co22 : Program.concrete Try.prog 22 = true := by kernel_rfl
@[simp] theorem ft_sl22 : sliceT Try.prog 22 = some 42 := by kernel_rfl
@[simp] theorem ft_lk23 : lkT Try.prog 23 = .one := by kernel_rfl
@[simp] theorem ft_ce23 : Program.cellsOf Try.prog 23 = 1 := by kernel_rfl
@[simp] theorem ft_by23 : Program.bytesOf Try.prog 23 = 8 := by kernel_rfl
@[simp] theorem ft_ze23 : zeroAV Try.prog 23 = .sc .nilFunc := by kernel_rfl
@[simp] theorem ft_co23 : Program.concrete Try.prog 23 = true := by kernel_rfl
@[simp] theorem ft_lk24 : lkT Try.prog 24 = .one := by kernel_rfl
@[simp] theorem ft_ce24 : Program.cellsOf Try.prog 24 = 1 := by kernel_rfl
@[simp] theorem ft_by24 : Program.bytesOf Try.prog 24 = 24 := by kernel_rfl
@[simp] theorem ft_ze24 : zeroAV Try.prog 24 = .nilS := by kernel_rfl
@[simp] theorem ft_co24 : Program.concrete Try.prog 24 = true := by kernel_rfl
@[simp] theorem ft_sl24 : sliceT Try.prog 24 = some 3 := by kernel_rfl
@[simp] theorem ft_lk25 : lkT Try.prog 25 = .one := by kernel_rfl
@[simp] theorem ft_ce25 : Program.cellsOf Try.prog 25 = 1 := by kernel_rfl
@[simp] theorem ft_by25 : Program.bytesOf Try.prog 25 = 8 := by kernel_rfl
@[simp] theorem ft_ze25 : zeroAV Try.prog 25 = .sc (.int .i64 0) := by kernel_rfl
@[simp] theorem ft_co25 : Program.concrete Try.prog 25 = true := by kernel_rfl
@[simp] theorem ft_lk27 : lkT Try.prog 27 = .one := by kernel_rfl
@[simp] theorem ft_ce27 : Program.cellsOf Try.prog 27 = 1 := by kernel_rfl
@[simp] theorem ft_by27 : Program.bytesOf Try.prog 27 = 8 := by kernel_rfl
@[simp] theorem ft_ze27 : zeroAV Try.prog 27 = .sc .nilFunc := by kernel_rfl
@[simp] theorem ft_co27 : Program.concrete Try.prog 27 = true := by kernel_rfl
@[simp] theorem ft_lk29 : lkT Try.prog 29 = .one := by kernel_rfl
@[simp] theorem ft_ce29 : Program.cellsOf Try.prog 29 = 1 := by kernel_rfl
@[simp] theorem ft_by29 : Program.bytesOf Try.prog 29 = 8 := by kernel_rfl
@[simp] theorem ft_ze29 : zeroAV Try.prog 29 = .sc .nilFunc := by kernel_rfl
@[simp] theorem ft_co29 : Program.concrete Try.prog 29 = true := by kernel_rfl
@[simp] theorem ft_lk30 : lkT Try.prog 30 = .one := by kernel_rfl
@[simp] theorem ft_ce30 : Program.cellsOf Try.prog 30 = 1 := by kernel_rfl
@[simp] theorem ft_by30 : Program.bytesOf Try.prog 30 = 24 := by kernel_rfl
@[simp] theorem ft_ze30 : zeroAV Try.prog 30 = .nilS := by kernel_rfl
@[simp] theorem ft_co30 : Program.concrete Try.prog 30 = true := by kernel_rfl
@[simp] theorem ft_sl30 : sliceT Try.prog 30 = some 5 := by kernel_rfl
@[simp] theorem ft_lk32 : lkT Try.prog 32 = .one := by kernel_rfl
@[simp] theorem ft_ce32 : Program.cellsOf Try.prog 32 = 1 := by kernel_rfl
@[simp] theorem ft_by32 : Program.bytesOf Try.prog 32 = 8 := by kernel_rfl
@[simp] theorem ft_ze32 : zeroAV Try.prog 32 = .sc .nilFunc := by kernel_rfl
@[simp] theorem ft_co32 : Program.concrete Try.prog 32 = true := by kernel_rfl
@[simp] theorem ft_lk34 : lkT Try.prog 34 = .one := by kernel_rfl
@[simp] theorem ft_ce34 : Program.cellsOf Try.prog 34 = 1 := by kernel_rfl
@[simp] theorem ft_by34 : Program.bytesOf Try.prog 34 = 8 := by kernel_rfl
@[simp] theorem ft_ze34 : zeroAV Try.prog 34 = .sc .nilFunc := by kernel_rfl
@[simp] theorem ft_co34 : Program.concrete Try.prog 34 = true := by kernel_rfl
@[simp] theorem ft_lk35 : lkT Try.prog 35 = .one := by kernel_rfl
@[simp] theorem ft_ce35 : Program.cellsOf Try.prog 35 = 1 := by kernel_rfl
@[simp] theorem ft_by35 : Program.bytesOf Try.prog 35 = 8 := by kernel_rfl
@[simp] theorem ft_ze35 : zeroAV Try.prog 35 = .sc .nilFunc := by kernel_rfl
@[simp] theorem ft_co35 : Program.concrete Try.prog 35 = true := by kernel_rfl
@[simp] theorem ft_lk36 : lkT Try.prog 36 = .one := by kernel_rfl
@[simp] theorem ft_ce36 : Program.cellsOf Try.prog 36 = 1 := by kernel_rfl
@[simp] theorem ft_by36 : Program.bytesOf Try.prog 36 = 8 := by kernel_rfl
@[simp] theorem ft_ze36 : zeroAV Try.prog 36 = .sc .nilFunc := by kernel_rfl
@[simp] theorem ft_co36 : Program.concrete Try.prog 36 = true := by kernel_rfl
@[simp] theorem ft_lk37 : lkT Try.prog 37 = .one := by kernel_rfl
@[simp] theorem ft_ce37 : Program.cellsOf Try.prog 37 = 1 := by kernel_rfl
@[simp] theorem ft_by37 : Program.bytesOf Try.prog 37 = 8 := by kernel_rfl
@[simp] theorem ft_ze37 : zeroAV Try.prog 37 = .sc .nilFunc := by kernel_rfl
@[simp] theorem ft_co37 : Program.concrete Try.prog 37 = true := by kernel_rfl
@[simp] theorem ft_lk38 : lkT Try.prog 38 = .one := by kernel_rfl
@[simp] theorem ft_ce38 : Program.cellsOf Try.prog 38 = 1 := by kernel_rfl
@[simp] theorem ft_by38 : Program.bytesOf Try.prog 38 = 8 := by kernel_rfl
@[simp] theorem ft_ze38 : zeroAV Try.prog 38 = .sc .nilFunc := by kernel_rfl
@[simp] theorem ft_co38 : Program.concrete Try.prog 38 = true := by kernel_rfl
@[simp] theorem ft_lk39 : lkT Try.prog 39 = .agg 4 := by kernel_rfl
@[simp] theorem ft_ce39 : Program.cellsOf Try.prog 39 = 4 := by kernel_rfl
@[simp] theorem ft_by39 : Program.bytesOf Try.prog 39 = 32 := by kernel_rfl
@[simp] theorem ft_ze39 : zeroAV Try.prog 39 = .agg [.sc (.int .i64 0), .sc (.int .i64 0), .sc (.int .i64 0), .sc (.bool false)] := by kernel_rfl
@[simp] theorem ft_co39 : Program.concrete Try.prog 39 = true := by kernel_rfl
@[simp] theorem ft_bu39 : buildT Try.prog 39 = true := by kernel_rfl
@[simp] theorem ft_pl39_0 : placeT Try.prog 39 0 = some (0, 1) := by kernel_rfl
@[simp] theorem ft_fi39_0 : fieldT Try.prog 39 0 = some (0, .one) := by kernel_rfl
@[simp] theorem ft_pl39_1 : placeT Try.prog 39 1 = some (1, 1) := by kernel_rfl
@[simp] theorem ft_fi39_1 : fieldT Try.prog 39 1 = some (1, .one) := by kernel_rfl
@[simp] theorem ft_pl39_2 : placeT Try.prog 39 2 = some (2, 1) := by kernel_rfl
@[simp] theorem ft_fi39_2 : fieldT Try.prog 39 2 = some (2, .one) := by kernel_rfl
@[simp] theorem ft_pl39_3 : placeT Try.prog 39 3 = some (3, 1) := by kernel_rfl
@[simp] theorem ft_fi39_3 : fieldT Try.prog 39 3 = some (3, .one) := by kernel_rfl
@[simp] theorem ft_lk40 : lkT Try.prog 40 = .agg 4 := by kernel_rfl
@[simp] theorem ft_ce40 : Program.cellsOf Try.prog 40 = 4 := by kernel_rfl
@[simp] theorem ft_by40 : Program.bytesOf Try.prog 40 = 32 := by kernel_rfl
@[simp] theorem ft_ze40 : zeroAV Try.prog 40 = .agg [.sc (.int .i64 0), .sc (.int .i64 0), .sc (.int .i64 0), .sc (.bool false)] := by kernel_rfl
@[simp] theorem ft_co40 : Program.concrete Try.prog 40 = true := by kernel_rfl
@[simp] theorem ft_bu40 : buildT Try.prog 40 = true := by kernel_rfl
@[simp] theorem ft_pl40_0 : placeT Try.prog 40 0 = some (0, 1) := by kernel_rfl
@[simp] theorem ft_fi40_0 : fieldT Try.prog 40 0 = some (0, .one) := by kernel_rfl
@[simp] theorem ft_pl40_1 : placeT Try.prog 40 1 = some (1, 1) := by kernel_rfl
@[simp] theorem ft_fi40_1 : fieldT Try.prog 40 1 = some (1, .one) := by kernel_rfl
@[simp] theorem ft_pl40_2 : placeT Try.prog 40 2 = some (2, 1) := by kernel_rfl
@[simp] theorem ft_fi40_2 : fieldT Try.prog 40 2 = some (2, .one) := by kernel_rfl
@[simp] theorem ft_pl40_3 : placeT Try.prog 40 3 = some (3, 1) := by kernel_rfl
@[simp] theorem ft_fi40_3 : fieldT Try.prog 40 3 = some (3, .one) := by kernel_rfl
@[simp] theorem ft_lk41 : lkT Try.prog 41 = .agg 6 := by kernel_rfl
@[simp] theorem ft_ce41 : Program.cellsOf Try.prog 41 = 6 := by kernel_rfl
@[simp] theorem ft_by41 : Program.bytesOf Try.prog 41 = 48 := by kernel_rfl
@[simp] theorem ft_ze41 : zeroAV Try.prog 41 = .agg [.sc (.int .i64 0), .sc (.int .i64 0), .sc (.int .i64 0), .sc (.int .i64 0), .sc (.int .i64 0), .sc (.bool false)] := by kernel_rfl
@[simp] theorem ft_co41 : Program.concrete Try.prog 41 = true := by kernel_rfl
@[simp] theorem ft_bu41 : buildT Try.prog 41 = true := by kernel_rfl
@[simp] theorem ft_pl41_0 : placeT Try.prog 41 0 = some (0, 1) := by kernel_rfl
@[simp] theorem ft_fi41_0 : fieldT Try.prog 41 0 = some (0, .one) := by kernel_rfl
@[simp] theorem ft_pl41_1 : placeT Try.prog 41 1 = some (1, 1) := by kernel_rfl
@[simp] theorem ft_fi41_1 : fieldT Try.prog 41 1 = some (1, .one) := by kernel_rfl
@[simp] theorem ft_pl41_2 : placeT Try.prog 41 2 = some (2, 4) := by kernel_rfl
@[simp] theorem ft_fi41_2 : fieldT Try.prog 41 2 = some (2, .agg 4) := by kernel_rfl
@[simp] theorem ft_lk42 : lkT Try.prog 42 = .agg 6 := by kernel_rfl
@[simp] theorem ft_ce42 : Program.cellsOf Try.prog 42 = 6 := by kernel_rfl
@[simp] theorem ft_by42 : Program.bytesOf Try.prog 42 = 48 := by kernel_rfl
@[simp] theorem ft_ze42 : zeroAV Try.prog 42 = .agg [.sc (.int .i64 0), .sc (.int .i64 0), .sc (.int .i64 0), .sc (.int .i64 0), .sc (.int .i64 0), .sc (.bool false)] := by kernel_rfl
@[simp] theorem ft_co42 : Program.concrete Try.prog 42 = true := by kernel_rfl
@[simp] theorem ft_bu42 : buildT Try.prog 42 = true := by kernel_rfl
@[simp] theorem ft_pl42_0 : placeT Try.prog 42 0 = some (0, 1) := by kernel_rfl
@[simp] theorem ft_fi42_0 : fieldT Try.prog 42 0 = some (0, .one) := by kernel_rfl
@[simp] theorem ft_pl42_1 : placeT Try.prog 42 1 = some (1, 1) := by kernel_rfl
@[simp] theorem ft_fi42_1 : fieldT Try.prog 42 1 = some (1, .one) := by kernel_rfl
@[simp] theorem ft_pl42_2 : placeT Try.prog 42 2 = some (2, 4) := by kernel_rfl
@[simp] theorem ft_fi42_2 : fieldT Try.prog 42 2 = some (2, .agg 4) := by kernel_rfl
@[simp] theorem ft_lk44 : lkT Try.prog 44 = .one := by kernel_rfl
@[simp] theorem ft_ce44 : Program.cellsOf Try.prog 44 = 1 := by kernel_rfl
@[simp] theorem ft_by44 : Program.bytesOf Try.prog 44 = 8 := by kernel_rfl
@[simp] theorem ft_ze44 : zeroAV Try.prog 44 = .sc .nilFunc := by kernel_rfl
@[simp] theorem ft_co44 : Program.concrete Try.prog 44 = true := by kernel_rfl
@[simp] theorem ft_lk45 : lkT Try.prog 45 = .one := by kernel_rfl
@[simp] theorem ft_ce45 : Program.cellsOf Try.prog 45 = 1 := by kernel_rfl
@[simp] theorem ft_by45 : Program.bytesOf Try.prog 45 = 8 := by kernel_rfl
@[simp] theorem ft_ze45 : zeroAV Try.prog 45 = .sc .nilFunc := by kernel_rfl
@[simp] theorem ft_co45 : Program.concrete Try.prog 45 = true := by kernel_rfl
@[simp] theorem ft_lk46 : lkT Try.prog 46 = .one := by kernel_rfl
@[simp] theorem ft_ce46 : Program.cellsOf Try.prog 46 = 1 := by kernel_rfl
@[simp] theorem ft_by46 : Program.bytesOf Try.prog 46 = 24 := by kernel_rfl
@[simp] theorem ft_ze46 : zeroAV Try.prog 46 = .nilS := by kernel_rfl
@[simp] theorem ft_co46 : Program.concrete Try.prog 46 = true := by kernel_rfl
@[simp] theorem ft_sl46 : sliceT Try.prog 46 = some 91 := by kernel_rfl
@[simp] theorem ft_lk47 : lkT Try.prog 47 = .agg 2 := by kernel_rfl
@[simp] theorem ft_ce47 : Program.cellsOf Try.prog 47 = 2 := by kernel_rfl
@[simp] theorem ft_by47 : Program.bytesOf Try.prog 47 = 48 := by kernel_rfl
@[simp] theorem ft_ze47 : zeroAV Try.prog 47 = .agg [.nilS, .nilS] := by kernel_rfl
@[simp] theorem ft_co47 : Program.concrete Try.prog 47 = true := by kernel_rfl
@[simp] theorem ft_bu47 : buildT Try.prog 47 = true := by kernel_rfl
@[simp] theorem ft_pl47_0 : placeT Try.prog 47 0 = some (0, 1) := by kernel_rfl
@[simp] theorem ft_fi47_0 : fieldT Try.prog 47 0 = some (0, .one) := by kernel_rfl
@[simp] theorem ft_pl47_1 : placeT Try.prog 47 1 = some (1, 1) := by kernel_rfl
@[simp] theorem ft_fi47_1 : fieldT Try.prog 47 1 = some (1, .one) := by kernel_rfl
@[simp] theorem ft_lk48 : lkT Try.prog 48 = .agg 2 := by kernel_rfl
@[simp] theorem ft_ce48 : Program.cellsOf Try.prog 48 = 2 := by kernel_rfl
@[simp] theorem ft_by48 : Program.bytesOf Try.prog 48 = 48 := by kernel_rfl
@[simp] theorem ft_ze48 : zeroAV Try.prog 48 = .agg [.nilS, .nilS] := by kernel_rfl
@[simp] theorem ft_co48 : Program.concrete Try.prog 48 = true := by kernel_rfl
@[simp] theorem ft_bu48 : buildT Try.prog 48 = true := by kernel_rfl
@[simp] theorem ft_pl48_0 : placeT Try.prog 48 0 = some (0, 1) := by kernel_rfl
@[simp] theorem ft_fi48_0 : fieldT Try.prog 48 0 = some (0, .one) := by kernel_rfl
@[simp] theorem ft_pl48_1 : placeT Try.prog 48 1 = some (1, 1) := by kernel_rfl
@[simp] theorem ft_fi48_1 : fieldT Try.prog 48 1 = some (1, .one) := by kernel_rfl
@[simp] theorem ft_lk49 : lkT Try.prog 49 = .one := by kernel_rfl
@[simp] theorem ft_ce49 : Program.cellsOf Try.prog 49 = 1 := by kernel_rfl
@[simp] theorem ft_by49 : Program.bytesOf Try.prog 49 = 8 := by kernel_rfl
@[simp] theorem ft_ze49 : zeroAV Try.prog 49 = .sc .nilFunc := by kernel_rfl
@[simp] theorem ft_co49 : Program.concrete Try.prog 49 = true := by kernel_rfl
@[simp] theorem ft_lk50 : lkT Try.prog 50 = .one := by kernel_rfl
@[simp] theorem ft_ce50 : Program.cellsOf Try.prog 50 = 1 := by kernel_rfl
@[simp] theorem ft_by50 : Program.bytesOf Try.prog 50 = 8 := by kernel_rfl
@[simp] theorem ft_ze50 : zeroAV Try.prog 50 = .sc .nilFunc := by kernel_rfl
@[simp] theorem ft_co50 : Program.concrete Try.prog 50 = true := by kernel_rfl
@[simp] theorem ft_lk51 : lkT Try.prog 51 = .one := by kernel_rfl
@[simp] theorem ft_ce51 : Program.cellsOf Try.prog 51 = 1 := by kernel_rfl
@[simp] theorem ft_by51 : Program.bytesOf Try.prog 51 = 8 := by kernel_rfl
@[simp] theorem ft_ze51 : zeroAV Try.prog 51 = .sc .nilFunc := by kernel_rfl
@[simp] theorem ft_co51 : Program.concrete Try.prog 51 = true := by kernel_rfl
@[simp] theorem ft_lk52 : lkT Try.prog 52 = .one := by kernel_rfl
@[simp] theorem ft_ce52 : Program.cellsOf Try.prog 52 = 1 := by kernel_rfl
@[simp] theorem ft_by52 : Program.bytesOf Try.prog 52 = 8 := by kernel_rfl
@[simp] theorem ft_ze52 : zeroAV Try.prog 52 = .sc .nilFunc := by kernel_rfl
@[simp] theorem ft_co52 : Program.concrete Try.prog 52 = true := by kernel_rfl
@[simp] theorem ft_lk53 : lkT Try.prog 53 = .one := by kernel_rfl
@[simp] theorem ft_ce53 : Program.cellsOf Try.prog 53 = 1 := by kernel_rfl
@[simp] theorem ft_by53 : Program.bytesOf Try.prog 53 = 8 := by kernel_rfl
@[simp] theorem ft_ze53 : zeroAV Try.prog 53 = .sc .nilFunc := by kernel_rfl
@[simp] theorem ft_co53 : Program.concrete Try.prog 53 = true := by kernel_rfl
@[simp] theorem ft_lk55 : lkT Try.prog 55 = .one := by kernel_rfl
@[simp] theorem ft_ce55 : Program.cellsOf Try.prog 55 = 1 := by kernel_rfl
@[simp] theorem ft_by55 : Program.bytesOf Try.prog 55 = 8 := by kernel_rfl
@[simp] theorem ft_ze55 : zeroAV Try.prog 55 = .sc .nilFunc := by kernel_rfl
@[simp] theorem ft_co55 : Program.concrete Try.prog 55 = true := by kernel_rfl
@[simp] theorem ft_lk56 : lkT Try.prog 56 = .agg 4 := by kernel_rfl
@[simp] theorem ft_ce56 : Program.cellsOf Try.prog 56 = 4 := by kernel_rfl
@[simp] theorem ft_by56 : Program.bytesOf Try.prog 56 = 64 := by kernel_rfl
@[simp] theorem ft_ze56 : zeroAV Try.prog 56 = .agg [.nilS, .nilS, .sc (.int .i64 0), .sc (.int .i64 0)] := by kernel_rfl
@[simp] theorem ft_co56 : Program.concrete Try.prog 56 = true := by kernel_rfl
@[simp] theorem ft_bu56 : buildT Try.prog 56 = true := by kernel_rfl
@[simp] theorem ft_pl56_0 : placeT Try.prog 56 0 = some (0, 2) := by kernel_rfl
@[simp] theorem ft_fi56_0 : fieldT Try.prog 56 0 = some (0, .agg 2) := by kernel_rfl
@[simp] theorem ft_pl56_1 : placeT Try.prog 56 1 = some (2, 1) := by kernel_rfl
@[simp] theorem ft_fi56_1 : fieldT Try.prog 56 1 = some (2, .one) := by kernel_rfl
@[simp] theorem ft_pl56_2 : placeT Try.prog 56 2 = some (3, 1) := by kernel_rfl
@[simp] theorem ft_fi56_2 : fieldT Try.prog 56 2 = some (3, .one) := by kernel_rfl
@[simp] theorem ft_lk57 : lkT Try.prog 57 = .agg 4 := by kernel_rfl
@[simp] theorem ft_ce57 : Program.cellsOf Try.prog 57 = 4 := by kernel_rfl
@[simp] theorem ft_by57 : Program.bytesOf Try.prog 57 = 64 := by kernel_rfl
@[simp] theorem ft_ze57 : zeroAV Try.prog 57 = .agg [.nilS, .nilS, .sc (.int .i64 0), .sc (.int .i64 0)] := by kernel_rfl
@[simp] theorem ft_co57 : Program.concrete Try.prog 57 = true := by kernel_rfl
@[simp] theorem ft_bu57 : buildT Try.prog 57 = true := by kernel_rfl
@[simp] theorem ft_pl57_0 : placeT Try.prog 57 0 = some (0, 2) := by kernel_rfl
@[simp] theorem ft_fi57_0 : fieldT Try.prog 57 0 = some (0, .agg 2) := by kernel_rfl
@[simp] theorem ft_pl57_1 : placeT Try.prog 57 1 = some (2, 1) := by kernel_rfl
@[simp] theorem ft_fi57_1 : fieldT Try.prog 57 1 = some (2, .one) := by kernel_rfl
@[simp] theorem ft_pl57_2 : placeT Try.prog 57 2 = some (3, 1) := by kernel_rfl
@[simp] theorem ft_fi57_2 : fieldT Try.prog 57 2 = some (3, .one) := by kernel_rfl
@[simp] theorem ft_lk58 : lkT Try.prog 58 = .one := by kernel_rfl
@[simp] theorem ft_ce58 : Program.cellsOf Try.prog 58 = 1 := by kernel_rfl
@[simp] theorem ft_by58 : Program.bytesOf Try.prog 58 = 8 := by kernel_rfl
@[simp] theorem ft_ze58 : zeroAV Try.prog 58 = .sc .nilFunc := by kernel_rfl
@[simp] theorem ft_co58 : Program.concrete Try.prog 58 = true := by kernel_rfl
@[simp] theorem ft_lk59 : lkT Try.prog 59 = .one := by kernel_rfl
@[simp] theorem ft_ce59 : Program.cellsOf Try.prog 59 = 1 := by kernel_rfl
@[simp] theorem ft_by59 : Program.bytesOf Try.prog 59 = 8 := by kernel_rfl
@[simp] theorem ft_ze59 : zeroAV Try.prog 59 = .sc .nilFunc := by kernel_rfl
@[simp] theorem ft_co59 : Program.concrete Try.prog 59 = true := by kernel_rfl
@[simp] theorem ft_lk60 : lkT Try.prog 60 = .one := by kernel_rfl
@[simp] theorem ft_ce60 : Program.cellsOf Try.prog 60 = 1 := by kernel_rfl
@[simp] theorem ft_by60 : Program.bytesOf Try.prog 60 = 8 := by kernel_rfl
@[simp] theorem ft_ze60 : zeroAV Try.prog 60 = .sc .nilFunc := by kernel_rfl
@[simp] theorem ft_co60 : Program.concrete Try.prog 60 = true := by kernel_rfl
@[simp] theorem ft_lk62 : lkT Try.prog 62 = .one := by kernel_rfl
@[simp] theorem ft_ce62 : Program.cellsOf Try.prog 62 = 1 := by kernel_rfl
@[simp] theorem ft_by62 : Program.bytesOf Try.prog 62 = 8 := by kernel_rfl
@[simp] theorem ft_ze62 : zeroAV Try.prog 62 = .sc .nilFunc := by kernel_rfl
@[simp] theorem ft_co62 : Program.concrete Try.prog 62 = true := by kernel_rfl
@[simp] theorem ft_lk63 : lkT Try.prog 63 = .one := by kernel_rfl
@[simp] theorem ft_ce63 : Program.cellsOf Try.prog 63 = 1 := by kernel_rfl
@[simp] theorem ft_by63 : Program.bytesOf Try.prog 63 = 8 := by kernel_rfl
@[simp] theorem ft_ze63 : zeroAV Try.prog 63 = .sc .nilFunc := by kernel_rfl
@[simp] theorem ft_co63 : Program.concrete Try.prog 63 = true := by kernel_rfl
@[simp] theorem ft_lk64 : lkT Try.prog 64 = .one := by kernel_rfl
@[simp] theorem ft_ce64 : Program.cellsOf Try.prog 64 = 1 := by kernel_rfl
@[simp] theorem ft_by64 : Program.bytesOf Try.prog 64 = 8 := by kernel_rfl
@[simp] theorem ft_ze64 : zeroAV Try.prog 64 = .sc .nilFunc := by kernel_rfl
@[simp] theorem ft_co64 : Program.concrete Try.prog 64 = true := by kernel_rfl
@[simp] theorem ft_lk65 : lkT Try.prog 65 = .one := by kernel_rfl
@[simp] theorem ft_ce65 : Program.cellsOf Try.prog 65 = 1 := by kernel_rfl
@[simp] theorem ft_by65 : Program.bytesOf Try.prog 65 = 8 := by kernel_rfl
@[simp] theorem ft_ze65 : zeroAV Try.prog 65 = .sc (.pointer none) := by kernel_rfl
@[simp] theorem ft_co65 : Program.concrete Try.prog 65 = true := by kernel_rfl
@[simp] theorem ft_lk66 : lkT Try.prog 66 = .agg 3 := by kernel_rfl
@[simp] theorem ft_ce66 : Program.cellsOf Try.prog 66 = 3 := by kernel_rfl
@[simp] theorem ft_by66 : Program.bytesOf Try.prog 66 = 72 := by kernel_rfl
@[simp] theorem ft_ze66 : zeroAV Try.prog 66 = .agg [.nilS, .nilS, .nilS] := by kernel_rfl
@[simp] theorem ft_co66 : Program.concrete Try.prog 66 = true := by kernel_rfl
@[simp] theorem ft_bu66 : buildT Try.prog 66 = true := by kernel_rfl
@[simp] theorem ft_pl66_0 : placeT Try.prog 66 0 = some (0, 1) := by kernel_rfl
@[simp] theorem ft_fi66_0 : fieldT Try.prog 66 0 = some (0, .one) := by kernel_rfl
@[simp] theorem ft_pl66_1 : placeT Try.prog 66 1 = some (1, 1) := by kernel_rfl
@[simp] theorem ft_fi66_1 : fieldT Try.prog 66 1 = some (1, .one) := by kernel_rfl
@[simp] theorem ft_pl66_2 : placeT Try.prog 66 2 = some (2, 1) := by kernel_rfl
@[simp] theorem ft_fi66_2 : fieldT Try.prog 66 2 = some (2, .one) := by kernel_rfl
@[simp] theorem ft_lk67 : lkT Try.prog 67 = .agg 3 := by kernel_rfl
@[simp] theorem ft_ce67 : Program.cellsOf Try.prog 67 = 3 := by kernel_rfl
@[simp] theorem ft_by67 : Program.bytesOf Try.prog 67 = 72 := by kernel_rfl
@[simp] theorem ft_ze67 : zeroAV Try.prog 67 = .agg [.nilS, .nilS, .nilS] := by kernel_rfl
@[simp] theorem ft_co67 : Program.concrete Try.prog 67 = true := by kernel_rfl
@[simp] theorem ft_bu67 : buildT Try.prog 67 = true := by kernel_rfl
@[simp] theorem ft_pl67_0 : placeT Try.prog 67 0 = some (0, 1) := by kernel_rfl
@[simp] theorem ft_fi67_0 : fieldT Try.prog 67 0 = some (0, .one) := by kernel_rfl
@[simp] theorem ft_pl67_1 : placeT Try.prog 67 1 = some (1, 1) := by kernel_rfl
@[simp] theorem ft_fi67_1 : fieldT Try.prog 67 1 = some (1, .one) := by kernel_rfl
@[simp] theorem ft_pl67_2 : placeT Try.prog 67 2 = some (2, 1) := by kernel_rfl
@[simp] theorem ft_fi67_2 : fieldT Try.prog 67 2 = some (2, .one) := by kernel_rfl
@[simp] theorem ft_lk68 : lkT Try.prog 68 = .one := by kernel_rfl
@[simp] theorem ft_ce68 : Program.cellsOf Try.prog 68 = 1 := by kernel_rfl
@[simp] theorem ft_by68 : Program.bytesOf Try.prog 68 = 8 := by kernel_rfl
@[simp] theorem ft_ze68 : zeroAV Try.prog 68 = .sc .nilFunc := by kernel_rfl
@[simp] theorem ft_co68 : Program.concrete Try.prog 68 = true := by kernel_rfl
@[simp] theorem ft_lk69 : lkT Try.prog 69 = .agg 9 := by kernel_rfl
@[simp] theorem ft_ce69 : Program.cellsOf Try.prog 69 = 9 := by kernel_rfl
@[simp] theorem ft_by69 : Program.bytesOf Try.prog 69 = 72 := by kernel_rfl
@[simp] theorem ft_ze69 : zeroAV Try.prog 69 = .agg [.sc .nilFunc, .sc .nilFunc, .sc .nilFunc, .sc .nilFunc, .sc .nilFunc, .sc .nilFunc, .sc .nilFunc, .sc .nilFunc, .sc .nilFunc] := by kernel_rfl
@[simp] theorem ft_co69 : Program.concrete Try.prog 69 = true := by kernel_rfl
@[simp] theorem ft_ar69 : arrT Try.prog 69 = some (9, 68) := by kernel_rfl
@[simp] theorem ft_pl69 : ∀ i, placeT Try.prog 69 i = some (i * 1, 1) := fun i => by kernel_rfl
@[simp] theorem ft_bu69 : buildT Try.prog 69 = true := by kernel_rfl
@[simp] theorem ft_lk70 : lkT Try.prog 70 = .agg 3 := by kernel_rfl
@[simp] theorem ft_ce70 : Program.cellsOf Try.prog 70 = 3 := by kernel_rfl
@[simp] theorem ft_by70 : Program.bytesOf Try.prog 70 = 32 := by kernel_rfl
@[simp] theorem ft_ze70 : zeroAV Try.prog 70 = .agg [.sc (.string .empty), .sc (.int .i64 0), .sc (.int .i64 0)] := by kernel_rfl
@[simp] theorem ft_co70 : Program.concrete Try.prog 70 = true := by kernel_rfl
@[simp] theorem ft_bu70 : buildT Try.prog 70 = true := by kernel_rfl
@[simp] theorem ft_pl70_0 : placeT Try.prog 70 0 = some (0, 1) := by kernel_rfl
@[simp] theorem ft_fi70_0 : fieldT Try.prog 70 0 = some (0, .one) := by kernel_rfl
@[simp] theorem ft_pl70_1 : placeT Try.prog 70 1 = some (1, 1) := by kernel_rfl
@[simp] theorem ft_fi70_1 : fieldT Try.prog 70 1 = some (1, .one) := by kernel_rfl
@[simp] theorem ft_pl70_2 : placeT Try.prog 70 2 = some (2, 1) := by kernel_rfl
@[simp] theorem ft_fi70_2 : fieldT Try.prog 70 2 = some (2, .one) := by kernel_rfl
@[simp] theorem ft_lk71 : lkT Try.prog 71 = .agg 3 := by kernel_rfl
@[simp] theorem ft_ce71 : Program.cellsOf Try.prog 71 = 3 := by kernel_rfl
@[simp] theorem ft_by71 : Program.bytesOf Try.prog 71 = 32 := by kernel_rfl
@[simp] theorem ft_ze71 : zeroAV Try.prog 71 = .agg [.sc (.string .empty), .sc (.int .i64 0), .sc (.int .i64 0)] := by kernel_rfl
@[simp] theorem ft_co71 : Program.concrete Try.prog 71 = true := by kernel_rfl
@[simp] theorem ft_bu71 : buildT Try.prog 71 = true := by kernel_rfl
@[simp] theorem ft_pl71_0 : placeT Try.prog 71 0 = some (0, 1) := by kernel_rfl
@[simp] theorem ft_fi71_0 : fieldT Try.prog 71 0 = some (0, .one) := by kernel_rfl
@[simp] theorem ft_pl71_1 : placeT Try.prog 71 1 = some (1, 1) := by kernel_rfl
@[simp] theorem ft_fi71_1 : fieldT Try.prog 71 1 = some (1, .one) := by kernel_rfl
@[simp] theorem ft_pl71_2 : placeT Try.prog 71 2 = some (2, 1) := by kernel_rfl
@[simp] theorem ft_fi71_2 : fieldT Try.prog 71 2 = some (2, .one) := by kernel_rfl
@[simp] theorem ft_lk73 : lkT Try.prog 73 = .one := by kernel_rfl
@[simp] theorem ft_ce73 : Program.cellsOf Try.prog 73 = 1 := by kernel_rfl
@[simp] theorem ft_by73 : Program.bytesOf Try.prog 73 = 8 := by kernel_rfl
@[simp] theorem ft_ze73 : zeroAV Try.prog 73 = .sc .nilFunc := by kernel_rfl
@[simp] theorem ft_co73 : Program.concrete Try.prog 73 = true := by kernel_rfl
@[simp] theorem ft_lk74 : lkT Try.prog 74 = .one := by kernel_rfl
@[simp] theorem ft_ce74 : Program.cellsOf Try.prog 74 = 1 := by kernel_rfl
@[simp] theorem ft_by74 : Program.bytesOf Try.prog 74 = 8 := by kernel_rfl
@[simp] theorem ft_ze74 : zeroAV Try.prog 74 = .sc .nilFunc := by kernel_rfl
@[simp] theorem ft_co74 : Program.concrete Try.prog 74 = true := by kernel_rfl
@[simp] theorem ft_lk75 : lkT Try.prog 75 = .one := by kernel_rfl
@[simp] theorem ft_ce75 : Program.cellsOf Try.prog 75 = 1 := by kernel_rfl
@[simp] theorem ft_by75 : Program.bytesOf Try.prog 75 = 8 := by kernel_rfl
@[simp] theorem ft_ze75 : zeroAV Try.prog 75 = .sc (.pointer none) := by kernel_rfl
@[simp] theorem ft_co75 : Program.concrete Try.prog 75 = true := by kernel_rfl
@[simp] theorem ft_lk76 : lkT Try.prog 76 = .one := by kernel_rfl
@[simp] theorem ft_ce76 : Program.cellsOf Try.prog 76 = 1 := by kernel_rfl
@[simp] theorem ft_by76 : Program.bytesOf Try.prog 76 = 8 := by kernel_rfl
@[simp] theorem ft_ze76 : zeroAV Try.prog 76 = .sc (.pointer none) := by kernel_rfl
@[simp] theorem ft_co76 : Program.concrete Try.prog 76 = true := by kernel_rfl
@[simp] theorem ft_lk77 : lkT Try.prog 77 = .one := by kernel_rfl
@[simp] theorem ft_ce77 : Program.cellsOf Try.prog 77 = 1 := by kernel_rfl
@[simp] theorem ft_by77 : Program.bytesOf Try.prog 77 = 8 := by kernel_rfl
@[simp] theorem ft_ze77 : zeroAV Try.prog 77 = .sc .nilFunc := by kernel_rfl
@[simp] theorem ft_co77 : Program.concrete Try.prog 77 = true := by kernel_rfl
@[simp] theorem ft_lk78 : lkT Try.prog 78 = .agg 4 := by kernel_rfl
@[simp] theorem ft_ce78 : Program.cellsOf Try.prog 78 = 4 := by kernel_rfl
@[simp] theorem ft_by78 : Program.bytesOf Try.prog 78 = 64 := by kernel_rfl
@[simp] theorem ft_ze78 : zeroAV Try.prog 78 = .agg [.sc (.pointer none), .sc (.int .i64 0), .nilS, .nilS] := by kernel_rfl
@[simp] theorem ft_co78 : Program.concrete Try.prog 78 = true := by kernel_rfl
@[simp] theorem ft_bu78 : buildT Try.prog 78 = true := by kernel_rfl
@[simp] theorem ft_pl78_0 : placeT Try.prog 78 0 = some (0, 1) := by kernel_rfl
@[simp] theorem ft_fi78_0 : fieldT Try.prog 78 0 = some (0, .one) := by kernel_rfl
@[simp] theorem ft_pl78_1 : placeT Try.prog 78 1 = some (1, 1) := by kernel_rfl
@[simp] theorem ft_fi78_1 : fieldT Try.prog 78 1 = some (1, .one) := by kernel_rfl
@[simp] theorem ft_pl78_2 : placeT Try.prog 78 2 = some (2, 1) := by kernel_rfl
@[simp] theorem ft_fi78_2 : fieldT Try.prog 78 2 = some (2, .one) := by kernel_rfl
@[simp] theorem ft_pl78_3 : placeT Try.prog 78 3 = some (3, 1) := by kernel_rfl
@[simp] theorem ft_fi78_3 : fieldT Try.prog 78 3 = some (3, .one) := by kernel_rfl
@[simp] theorem ft_lk79 : lkT Try.prog 79 = .agg 4 := by kernel_rfl
@[simp] theorem ft_ce79 : Program.cellsOf Try.prog 79 = 4 := by kernel_rfl
@[simp] theorem ft_by79 : Program.bytesOf Try.prog 79 = 64 := by kernel_rfl
@[simp] theorem ft_ze79 : zeroAV Try.prog 79 = .agg [.sc (.pointer none), .sc (.int .i64 0), .nilS, .nilS] := by kernel_rfl
@[simp] theorem ft_co79 : Program.concrete Try.prog 79 = true := by kernel_rfl
@[simp] theorem ft_bu79 : buildT Try.prog 79 = true := by kernel_rfl
@[simp] theorem ft_pl79_0 : placeT Try.prog 79 0 = some (0, 1) := by kernel_rfl
@[simp] theorem ft_fi79_0 : fieldT Try.prog 79 0 = some (0, .one) := by kernel_rfl
@[simp] theorem ft_pl79_1 : placeT Try.prog 79 1 = some (1, 1) := by kernel_rfl
@[simp] theorem ft_fi79_1 : fieldT Try.prog 79 1 = some (1, .one) := by kernel_rfl
@[simp] theorem ft_pl79_2 : placeT Try.prog 79 2 = some (2, 1) := by kernel_rfl
@[simp] theorem ft_fi79_2 : fieldT Try.prog 79 2 = some (2, .one) := by kernel_rfl
@[simp] theorem ft_pl79_3 : placeT Try.prog 79 3 = some (3, 1) := by kernel_rfl
@[simp] theorem ft_fi79_3 : fieldT Try.prog 79 3 = some (3, .one) := by kernel_rfl
@[simp] theorem ft_lk80 : lkT Try.prog 80 = .one := by kernel_rfl
@[simp] theorem ft_ce80 : Program.cellsOf Try.prog 80 = 1 := by kernel_rfl
@[simp] theorem ft_by80 : Program.bytesOf Try.prog 80 = 8 := by kernel_rfl
@[simp] theorem ft_ze80 : zeroAV Try.prog 80 = .sc .nilFunc := by kernel_rfl
@[simp] theorem ft_co80 : Program.concrete Try.prog 80 = true := by kernel_rfl
@[simp] theorem ft_lk82 : lkT Try.prog 82 = .one := by kernel_rfl
@[simp] theorem ft_ce82 : Program.cellsOf Try.prog 82 = 1 := by kernel_rfl
@[simp] theorem ft_by82 : Program.bytesOf Try.prog 82 = 8 := by kernel_rfl
@[simp] theorem ft_ze82 : zeroAV Try.prog 82 = .sc .nilFunc := by kernel_rfl
@[simp] theorem ft_co82 : Program.concrete Try.prog 82 = true := by kernel_rfl
@[simp] theorem ft_lk84 : lkT Try.prog 84 = .one := by kernel_rfl
@[simp] theorem ft_ce84 : Program.cellsOf Try.prog 84 = 1 := by kernel_rfl
@[simp] theorem ft_by84 : Program.bytesOf Try.prog 84 = 8 := by kernel_rfl
@[simp] theorem ft_ze84 : zeroAV Try.prog 84 = .sc .nilFunc := by kernel_rfl
@[simp] theorem ft_co84 : Program.concrete Try.prog 84 = true := by kernel_rfl
@[simp] theorem ft_lk85 : lkT Try.prog 85 = .one := by kernel_rfl
@[simp] theorem ft_ce85 : Program.cellsOf Try.prog 85 = 1 := by kernel_rfl
@[simp] theorem ft_by85 : Program.bytesOf Try.prog 85 = 8 := by kernel_rfl
@[simp] theorem ft_ze85 : zeroAV Try.prog 85 = .sc .nilFunc := by kernel_rfl
@[simp] theorem ft_co85 : Program.concrete Try.prog 85 = true := by kernel_rfl
@[simp] theorem ft_lk86 : lkT Try.prog 86 = .one := by kernel_rfl
@[simp] theorem ft_ce86 : Program.cellsOf Try.prog 86 = 1 := by kernel_rfl
@[simp] theorem ft_by86 : Program.bytesOf Try.prog 86 = 8 := by kernel_rfl
@[simp] theorem ft_ze86 : zeroAV Try.prog 86 = .sc .nilFunc := by kernel_rfl
@[simp] theorem ft_co86 : Program.concrete Try.prog 86 = true := by kernel_rfl
@[simp] theorem ft_lk87 : lkT Try.prog 87 = .one := by kernel_rfl
@[simp] theorem ft_ce87 : Program.cellsOf Try.prog 87 = 1 := by kernel_rfl
@[simp] theorem ft_by87 : Program.bytesOf Try.prog 87 = 8 := by kernel_rfl
@[simp] theorem ft_ze87 : zeroAV Try.prog 87 = .sc (.int .u64 0) := by kernel_rfl
@[simp] theorem ft_co87 : Program.concrete Try.prog 87 = true := by kernel_rfl
@[simp] theorem ft_lk88 : lkT Try.prog 88 = .one := by kernel_rfl
@[simp] theorem ft_ce88 : Program.cellsOf Try.prog 88 = 1 := by kernel_rfl
@[simp] theorem ft_by88 : Program.bytesOf Try.prog 88 = 8 := by kernel_rfl
@[simp] theorem ft_ze88 : zeroAV Try.prog 88 = .sc .nilFunc := by kernel_rfl
@[simp] theorem ft_co88 : Program.concrete Try.prog 88 = true := by kernel_rfl
@[simp] theorem ft_lk89 : lkT Try.prog 89 = .one := by kernel_rfl
@[simp] theorem ft_ce89 : Program.cellsOf Try.prog 89 = 1 := by kernel_rfl
@[simp] theorem ft_by89 : Program.bytesOf Try.prog 89 = 8 := by kernel_rfl
@[simp] theorem ft_ze89 : zeroAV Try.prog 89 = .sc (.int .u64 0) := by kernel_rfl
@[simp] theorem ft_co89 : Program.concrete Try.prog 89 = true := by kernel_rfl
@[simp] theorem ft_lk90 : lkT Try.prog 90 = .agg 6 := by kernel_rfl
@[simp] theorem ft_ce90 : Program.cellsOf Try.prog 90 = 6 := by kernel_rfl
@[simp] theorem ft_by90 : Program.bytesOf Try.prog 90 = 48 := by kernel_rfl
@[simp] theorem ft_ze90 : zeroAV Try.prog 90 = .agg [.sc (.int .i64 0), .sc (.int .i64 0), .sc (.int .i64 0), .sc (.int .i64 0), .sc (.int .i64 0), .sc (.int .i64 0)] := by kernel_rfl
@[simp] theorem ft_co90 : Program.concrete Try.prog 90 = true := by kernel_rfl
@[simp] theorem ft_bu90 : buildT Try.prog 90 = true := by kernel_rfl
@[simp] theorem ft_pl90_0 : placeT Try.prog 90 0 = some (0, 1) := by kernel_rfl
@[simp] theorem ft_fi90_0 : fieldT Try.prog 90 0 = some (0, .one) := by kernel_rfl
@[simp] theorem ft_pl90_1 : placeT Try.prog 90 1 = some (1, 1) := by kernel_rfl
@[simp] theorem ft_fi90_1 : fieldT Try.prog 90 1 = some (1, .one) := by kernel_rfl
@[simp] theorem ft_pl90_2 : placeT Try.prog 90 2 = some (2, 1) := by kernel_rfl
@[simp] theorem ft_fi90_2 : fieldT Try.prog 90 2 = some (2, .one) := by kernel_rfl
@[simp] theorem ft_pl90_3 : placeT Try.prog 90 3 = some (3, 1) := by kernel_rfl
@[simp] theorem ft_fi90_3 : fieldT Try.prog 90 3 = some (3, .one) := by kernel_rfl
@[simp] theorem ft_pl90_4 : placeT Try.prog 90 4 = some (4, 1) := by kernel_rfl
@[simp] theorem ft_fi90_4 : fieldT Try.prog 90 4 = some (4, .one) := by kernel_rfl
@[simp] theorem ft_pl90_5 : placeT Try.prog 90 5 = some (5, 1) := by kernel_rfl
@[simp] theorem ft_fi90_5 : fieldT Try.prog 90 5 = some (5, .one) := by kernel_rfl
@[simp] theorem ft_lk91 : lkT Try.prog 91 = .agg 6 := by kernel_rfl
@[simp] theorem ft_ce91 : Program.cellsOf Try.prog 91 = 6 := by kernel_rfl
@[simp] theorem ft_by91 : Program.bytesOf Try.prog 91 = 48 := by kernel_rfl
@[simp] theorem ft_ze91 : zeroAV Try.prog 91 = .agg [.sc (.int .i64 0), .sc (.int .i64 0), .sc (.int .i64 0), .sc (.int .i64 0), .sc (.int .i64 0), .sc (.int .i64 0)] := by kernel_rfl
@[simp] theorem ft_co91 : Program.concrete Try.prog 91 = true := by kernel_rfl
@[simp] theorem ft_bu91 : buildT Try.prog 91 = true := by kernel_rfl
@[simp] theorem ft_pl91_0 : placeT Try.prog 91 0 = some (0, 1) := by kernel_rfl
@[simp] theorem ft_fi91_0 : fieldT Try.prog 91 0 = some (0, .one) := by kernel_rfl
@[simp] theorem ft_pl91_1 : placeT Try.prog 91 1 = some (1, 1) := by kernel_rfl
@[simp] theorem ft_fi91_1 : fieldT Try.prog 91 1 = some (1, .one) := by kernel_rfl
@[simp] theorem ft_pl91_2 : placeT Try.prog 91 2 = some (2, 1) := by kernel_rfl
@[simp] theorem ft_fi91_2 : fieldT Try.prog 91 2 = some (2, .one) := by kernel_rfl
@[simp] theorem ft_pl91_3 : placeT Try.prog 91 3 = some (3, 1) := by kernel_rfl
@[simp] theorem ft_fi91_3 : fieldT Try.prog 91 3 = some (3, .one) := by kernel_rfl
@[simp] theorem ft_pl91_4 : placeT Try.prog 91 4 = some (4, 1) := by kernel_rfl
@[simp] theorem ft_fi91_4 : fieldT Try.prog 91 4 = some (4, .one) := by kernel_rfl
@[simp] theorem ft_pl91_5 : placeT Try.prog 91 5 = some (5, 1) := by kernel_rfl
@[simp] theorem ft_fi91_5 : fieldT Try.prog 91 5 = some (5, .one) := by kernel_rfl
@[simp] theorem ft_lk92 : lkT Try.prog 92 = .agg 6 := by kernel_rfl
@[simp] theorem ft_ce92 : Program.cellsOf Try.prog 92 = 6 := by kernel_rfl
@[simp] theorem ft_by92 : Program.bytesOf Try.prog 92 = 48 := by kernel_rfl
@[simp] theorem ft_ze92 : zeroAV Try.prog 92 = .agg [.sc (.int .i64 0), .sc (.int .i64 0), .sc (.int .i64 0), .sc (.int .i64 0), .sc (.int .i64 0), .sc (.int .i64 0)] := by kernel_rfl
@[simp] theorem ft_co92 : Program.concrete Try.prog 92 = true := by kernel_rfl
@[simp] theorem ft_ar92 : arrT Try.prog 92 = some (6, 3) := by kernel_rfl
@[simp] theorem ft_pl92 : ∀ i, placeT Try.prog 92 i = some (i * 1, 1) := fun i => by kernel_rfl
@[simp] theorem ft_bu92 : buildT Try.prog 92 = true := by kernel_rfl
@[simp] theorem ft_lk93 : lkT Try.prog 93 = .one := by kernel_rfl
@[simp] theorem ft_ce93 : Program.cellsOf Try.prog 93 = 1 := by kernel_rfl
@[simp] theorem ft_by93 : Program.bytesOf Try.prog 93 = 8 := by kernel_rfl
@[simp] theorem ft_ze93 : zeroAV Try.prog 93 = .sc .nilFunc := by kernel_rfl
@[simp] theorem ft_co93 : Program.concrete Try.prog 93 = true := by kernel_rfl
@[simp] theorem ft_lk94 : lkT Try.prog 94 = .one := by kernel_rfl
@[simp] theorem ft_ce94 : Program.cellsOf Try.prog 94 = 1 := by kernel_rfl
@[simp] theorem ft_by94 : Program.bytesOf Try.prog 94 = 8 := by kernel_rfl
@[simp] theorem ft_ze94 : zeroAV Try.prog 94 = .sc .nilFunc := by kernel_rfl
@[simp] theorem ft_co94 : Program.concrete Try.prog 94 = true := by kernel_rfl
@[simp] theorem ft_lk95 : lkT Try.prog 95 = .one := by kernel_rfl
@[simp] theorem ft_ce95 : Program.cellsOf Try.prog 95 = 1 := by kernel_rfl
@[simp] theorem ft_by95 : Program.bytesOf Try.prog 95 = 8 := by kernel_rfl
@[simp] theorem ft_ze95 : zeroAV Try.prog 95 = .sc .nilFunc := by kernel_rfl
@[simp] theorem ft_co95 : Program.concrete Try.prog 95 = true := by kernel_rfl
@[simp] theorem ft_lk96 : lkT Try.prog 96 = .one := by kernel_rfl
@[simp] theorem ft_ce96 : Program.cellsOf Try.prog 96 = 1 := by kernel_rfl
@[simp] theorem ft_by96 : Program.bytesOf Try.prog 96 = 8 := by kernel_rfl
@[simp] theorem ft_ze96 : zeroAV Try.prog 96 = .sc (.int .i64 0) := by kernel_rfl
@[simp] theorem ft_co96 : Program.concrete Try.prog 96 = true := by kernel_rfl
@[simp] theorem ft_lk98 : lkT Try.prog 98 = .agg 1 := by kernel_rfl
@[simp] theorem ft_ce98 : Program.cellsOf Try.prog 98 = 1 := by kernel_rfl
@[simp] theorem ft_by98 : Program.bytesOf Try.prog 98 = 8 := by kernel_rfl
@[simp] theorem ft_ze98 : zeroAV Try.prog 98 = .agg [.sc (.pointer none)] := by kernel_rfl
@[simp] theorem ft_co98 : Program.concrete Try.prog 98 = true := by kernel_rfl
@[simp] theorem ft_bu98 : buildT Try.prog 98 = true := by kernel_rfl
@[simp] theorem ft_pl98_0 : placeT Try.prog 98 0 = some (0, 1) := by kernel_rfl
@[simp] theorem ft_fi98_0 : fieldT Try.prog 98 0 = some (0, .one) := by kernel_rfl
@[simp] theorem ft_lk99 : lkT Try.prog 99 = .agg 1 := by kernel_rfl
@[simp] theorem ft_ce99 : Program.cellsOf Try.prog 99 = 1 := by kernel_rfl
@[simp] theorem ft_by99 : Program.bytesOf Try.prog 99 = 8 := by kernel_rfl
@[simp] theorem ft_ze99 : zeroAV Try.prog 99 = .agg [.sc (.pointer none)] := by kernel_rfl
@[simp] theorem ft_co99 : Program.concrete Try.prog 99 = true := by kernel_rfl
@[simp] theorem ft_bu99 : buildT Try.prog 99 = true := by kernel_rfl
@[simp] theorem ft_pl99_0 : placeT Try.prog 99 0 = some (0, 1) := by kernel_rfl
@[simp] theorem ft_fi99_0 : fieldT Try.prog 99 0 = some (0, .one) := by kernel_rfl
@[simp] theorem ft_lk100 : lkT Try.prog 100 = .one := by kernel_rfl
@[simp] theorem ft_ce100 : Program.cellsOf Try.prog 100 = 1 := by kernel_rfl
@[simp] theorem ft_by100 : Program.bytesOf Try.prog 100 = 8 := by kernel_rfl
@[simp] theorem ft_ze100 : zeroAV Try.prog 100 = .sc .nilFunc := by kernel_rfl
@[simp] theorem ft_co100 : Program.concrete Try.prog 100 = true := by kernel_rfl
@[simp] theorem ft_lk101 : lkT Try.prog 101 = .one := by kernel_rfl
@[simp] theorem ft_ce101 : Program.cellsOf Try.prog 101 = 1 := by kernel_rfl
@[simp] theorem ft_by101 : Program.bytesOf Try.prog 101 = 8 := by kernel_rfl
@[simp] theorem ft_ze101 : zeroAV Try.prog 101 = .sc .nilFunc := by kernel_rfl
@[simp] theorem ft_co101 : Program.concrete Try.prog 101 = true := by kernel_rfl
@[simp] theorem ft_lk102 : lkT Try.prog 102 = .one := by kernel_rfl
@[simp] theorem ft_ce102 : Program.cellsOf Try.prog 102 = 1 := by kernel_rfl
@[simp] theorem ft_by102 : Program.bytesOf Try.prog 102 = 8 := by kernel_rfl
@[simp] theorem ft_ze102 : zeroAV Try.prog 102 = .sc .nilFunc := by kernel_rfl
@[simp] theorem ft_co102 : Program.concrete Try.prog 102 = true := by kernel_rfl
@[simp] theorem ft_lk103 : lkT Try.prog 103 = .one := by kernel_rfl
@[simp] theorem ft_ce103 : Program.cellsOf Try.prog 103 = 1 := by kernel_rfl
@[simp] theorem ft_by103 : Program.bytesOf Try.prog 103 = 8 := by kernel_rfl
@[simp] theorem ft_ze103 : zeroAV Try.prog 103 = .sc .nilFunc := by kernel_rfl
@[simp] theorem ft_co103 : Program.concrete Try.prog 103 = true := by kernel_rfl
@[simp] theorem ft_lk104 : lkT Try.prog 104 = .one := by kernel_rfl
@[simp] theorem ft_ce104 : Program.cellsOf Try.prog 104 = 1 := by kernel_rfl
@[simp] theorem ft_by104 : Program.bytesOf Try.prog 104 = 8 := by kernel_rfl
@[simp] theorem ft_ze104 : zeroAV Try.prog 104 = .sc .nilFunc := by kernel_rfl
@[simp] theorem ft_co104 : Program.concrete Try.prog 104 = true := by kernel_rfl
@[simp] theorem ft_lk105 : lkT Try.prog 105 = .one := by kernel_rfl
@[simp] theorem ft_ce105 : Program.cellsOf Try.prog 105 = 1 := by kernel_rfl
@[simp] theorem ft_by105 : Program.bytesOf Try.prog 105 = 8 := by kernel_rfl
@[simp] theorem ft_ze105 : zeroAV Try.prog 105 = .sc .nilFunc := by kernel_rfl
@[simp] theorem ft_co105 : Program.concrete Try.prog 105 = true := by kernel_rfl
@[simp] theorem ft_lk106 : lkT Try.prog 106 = .one := by kernel_rfl
@[simp] theorem ft_ce106 : Program.cellsOf Try.prog 106 = 1 := by kernel_rfl
@[simp] theorem ft_by106 : Program.bytesOf Try.prog 106 = 8 := by kernel_rfl
@[simp] theorem ft_ze106 : zeroAV Try.prog 106 = .sc .nilFunc := by kernel_rfl
@[simp] theorem ft_co106 : Program.concrete Try.prog 106 = true := by kernel_rfl
@[simp] theorem ft_lk107 : lkT Try.prog 107 = .one := by kernel_rfl
@[simp] theorem ft_ce107 : Program.cellsOf Try.prog 107 = 1 := by kernel_rfl
@[simp] theorem ft_by107 : Program.bytesOf Try.prog 107 = 8 := by kernel_rfl
@[simp] theorem ft_ze107 : zeroAV Try.prog 107 = .sc .nilFunc := by kernel_rfl
@[simp] theorem ft_co107 : Program.concrete Try.prog 107 = true := by kernel_rfl
@[simp] theorem ft_lk108 : lkT Try.prog 108 = .one := by kernel_rfl
@[simp] theorem ft_ce108 : Program.cellsOf Try.prog 108 = 1 := by kernel_rfl
@[simp] theorem ft_by108 : Program.bytesOf Try.prog 108 = 8 := by kernel_rfl
@[simp] theorem ft_ze108 : zeroAV Try.prog 108 = .sc .nilFunc := by kernel_rfl
@[simp] theorem ft_co108 : Program.concrete Try.prog 108 = true := by kernel_rfl
@[simp] theorem ft_lk109 : lkT Try.prog 109 = .agg 2 := by kernel_rfl
@[simp] theorem ft_ce109 : Program.cellsOf Try.prog 109 = 2 := by kernel_rfl
@[simp] theorem ft_by109 : Program.bytesOf Try.prog 109 = 32 := by kernel_rfl
@[simp] theorem ft_ze109 : zeroAV Try.prog 109 = .agg [.nilS, .sc (.int .i64 0)] := by kernel_rfl
@[simp] theorem ft_co109 : Program.concrete Try.prog 109 = true := by kernel_rfl
@[simp] theorem ft_bu109 : buildT Try.prog 109 = true := by kernel_rfl
@[simp] theorem ft_pl109_0 : placeT Try.prog 109 0 = some (0, 1) := by kernel_rfl
@[simp] theorem ft_fi109_0 : fieldT Try.prog 109 0 = some (0, .one) := by kernel_rfl
@[simp] theorem ft_pl109_1 : placeT Try.prog 109 1 = some (1, 1) := by kernel_rfl
@[simp] theorem ft_fi109_1 : fieldT Try.prog 109 1 = some (1, .one) := by kernel_rfl
@[simp] theorem ft_lk110 : lkT Try.prog 110 = .agg 2 := by kernel_rfl
@[simp] theorem ft_ce110 : Program.cellsOf Try.prog 110 = 2 := by kernel_rfl
@[simp] theorem ft_by110 : Program.bytesOf Try.prog 110 = 32 := by kernel_rfl
@[simp] theorem ft_ze110 : zeroAV Try.prog 110 = .agg [.nilS, .sc (.int .i64 0)] := by kernel_rfl
@[simp] theorem ft_co110 : Program.concrete Try.prog 110 = true := by kernel_rfl
@[simp] theorem ft_bu110 : buildT Try.prog 110 = true := by kernel_rfl
@[simp] theorem ft_pl110_0 : placeT Try.prog 110 0 = some (0, 1) := by kernel_rfl
@[simp] theorem ft_fi110_0 : fieldT Try.prog 110 0 = some (0, .one) := by kernel_rfl
@[simp] theorem ft_pl110_1 : placeT Try.prog 110 1 = some (1, 1) := by kernel_rfl
@[simp] theorem ft_fi110_1 : fieldT Try.prog 110 1 = some (1, .one) := by kernel_rfl
@[simp] theorem ft_lk112 : lkT Try.prog 112 = .one := by kernel_rfl
@[simp] theorem ft_ce112 : Program.cellsOf Try.prog 112 = 1 := by kernel_rfl
@[simp] theorem ft_by112 : Program.bytesOf Try.prog 112 = 8 := by kernel_rfl
@[simp] theorem ft_ze112 : zeroAV Try.prog 112 = .sc .nilFunc := by kernel_rfl
@[simp] theorem ft_co112 : Program.concrete Try.prog 112 = true := by kernel_rfl
@[simp] theorem ft_lk113 : lkT Try.prog 113 = .one := by kernel_rfl
@[simp] theorem ft_ce113 : Program.cellsOf Try.prog 113 = 1 := by kernel_rfl
@[simp] theorem ft_by113 : Program.bytesOf Try.prog 113 = 8 := by kernel_rfl
@[simp] theorem ft_ze113 : zeroAV Try.prog 113 = .sc .nilFunc := by kernel_rfl
@[simp] theorem ft_co113 : Program.concrete Try.prog 113 = true := by kernel_rfl
@[simp] theorem ft_lk114 : lkT Try.prog 114 = .one := by kernel_rfl
@[simp] theorem ft_ce114 : Program.cellsOf Try.prog 114 = 1 := by kernel_rfl
@[simp] theorem ft_by114 : Program.bytesOf Try.prog 114 = 8 := by kernel_rfl
@[simp] theorem ft_ze114 : zeroAV Try.prog 114 = .sc .nilFunc := by kernel_rfl
@[simp] theorem ft_co114 : Program.concrete Try.prog 114 = true := by kernel_rfl
@[simp] theorem ft_lk115 : lkT Try.prog 115 = .one := by kernel_rfl
@[simp] theorem ft_ce115 : Program.cellsOf Try.prog 115 = 1 := by kernel_rfl
@[simp] theorem ft_by115 : Program.bytesOf Try.prog 115 = 8 := by kernel_rfl
@[simp] theorem ft_ze115 : zeroAV Try.prog 115 = .sc .nilFunc := by kernel_rfl
@[simp] theorem ft_co115 : Program.concrete Try.prog 115 = true := by kernel_rfl
@[simp] theorem ft_lk116 : lkT Try.prog 116 = .one := by kernel_rfl
@[simp] theorem ft_ce116 : Program.cellsOf Try.prog 116 = 1 := by kernel_rfl
@[simp] theorem ft_by116 : Program.bytesOf Try.prog 116 = 8 := by kernel_rfl
@[simp] theorem ft_ze116 : zeroAV Try.prog 116 = .sc .nilFunc := by kernel_rfl
@[simp] theorem ft_co116 : Program.concrete Try.prog 116 = true := by kernel_rfl
@[simp] theorem ft_lk117 : lkT Try.prog 117 = .one := by kernel_rfl
@[simp] theorem ft_ce117 : Program.cellsOf Try.prog 117 = 1 := by kernel_rfl
@[simp] theorem ft_by117 : Program.bytesOf Try.prog 117 = 8 := by kernel_rfl
@[simp] theorem ft_ze117 : zeroAV Try.prog 117 = .sc .nilFunc := by kernel_rfl
@[simp] theorem ft_co117 : Program.concrete Try.prog 117 = true := by kernel_rfl
@[simp] theorem ft_lk118 : lkT Try.prog 118 = .one := by kernel_rfl
@[simp] theorem ft_ce118 : Program.cellsOf Try.prog 118 = 1 := by kernel_rfl
@[simp] theorem ft_by118 : Program.bytesOf Try.prog 118 = 8 := by kernel_rfl
@[simp] theorem ft_ze118 : zeroAV Try.prog 118 = .sc .nilFunc := by kernel_rfl
@[simp] theorem ft_co118 : Program.concrete Try.prog 118 = true := by kernel_rfl
@[simp] theorem ft_lk119 : lkT Try.prog 119 = .one := by kernel_rfl
@[simp] theorem ft_ce119 : Program.cellsOf Try.prog 119 = 1 := by kernel_rfl
@[simp] theorem ft_by119 : Program.bytesOf Try.prog 119 = 8 := by kernel_rfl
@[simp] theorem ft_ze119 : zeroAV Try.prog 119 = .sc .nilFunc := by kernel_rfl
@[simp] theorem ft_co119 : Program.concrete Try.prog 119 = true := by kernel_rfl
@[simp] theorem ft_lk120 : lkT Try.prog 120 = .one := by kernel_rfl
@[simp] theorem ft_ce120 : Program.cellsOf Try.prog 120 = 1 := by kernel_rfl
@[simp] theorem ft_by120 : Program.bytesOf Try.prog 120 = 8 := by kernel_rfl
@[simp] theorem ft_ze120 : zeroAV Try.prog 120 = .sc .nilFunc := by kernel_rfl
@[simp] theorem ft_co120 : Program.concrete Try.prog 120 = true := by kernel_rfl
@[simp] theorem ft_lk122 : lkT Try.prog 122 = .one := by kernel_rfl
@[simp] theorem ft_ce122 : Program.cellsOf Try.prog 122 = 1 := by kernel_rfl
@[simp] theorem ft_by122 : Program.bytesOf Try.prog 122 = 8 := by kernel_rfl
@[simp] theorem ft_ze122 : zeroAV Try.prog 122 = .sc .nilFunc := by kernel_rfl
@[simp] theorem ft_co122 : Program.concrete Try.prog 122 = true := by kernel_rfl
@[simp] theorem ft_lk123 : lkT Try.prog 123 = .one := by kernel_rfl
@[simp] theorem ft_ce123 : Program.cellsOf Try.prog 123 = 1 := by kernel_rfl
@[simp] theorem ft_by123 : Program.bytesOf Try.prog 123 = 8 := by kernel_rfl
@[simp] theorem ft_ze123 : zeroAV Try.prog 123 = .sc .nilFunc := by kernel_rfl
@[simp] theorem ft_co123 : Program.concrete Try.prog 123 = true := by kernel_rfl
@[simp] theorem ft_lk124 : lkT Try.prog 124 = .one := by kernel_rfl
@[simp] theorem ft_ce124 : Program.cellsOf Try.prog 124 = 1 := by kernel_rfl
@[simp] theorem ft_by124 : Program.bytesOf Try.prog 124 = 8 := by kernel_rfl
@[simp] theorem ft_ze124 : zeroAV Try.prog 124 = .sc .nilFunc := by kernel_rfl
@[simp] theorem ft_co124 : Program.concrete Try.prog 124 = true := by kernel_rfl
@[simp] theorem ft_lk125 : lkT Try.prog 125 = .one := by kernel_rfl
@[simp] theorem ft_ce125 : Program.cellsOf Try.prog 125 = 1 := by kernel_rfl
@[simp] theorem ft_by125 : Program.bytesOf Try.prog 125 = 8 := by kernel_rfl
@[simp] theorem ft_ze125 : zeroAV Try.prog 125 = .sc .nilFunc := by kernel_rfl
@[simp] theorem ft_co125 : Program.concrete Try.prog 125 = true := by kernel_rfl
@[simp] theorem ft_lk126 : lkT Try.prog 126 = .one := by kernel_rfl
@[simp] theorem ft_ce126 : Program.cellsOf Try.prog 126 = 1 := by kernel_rfl
@[simp] theorem ft_by126 : Program.bytesOf Try.prog 126 = 8 := by kernel_rfl
@[simp] theorem ft_ze126 : zeroAV Try.prog 126 = .sc .nilFunc := by kernel_rfl
@[simp] theorem ft_co126 : Program.concrete Try.prog 126 = true := by kernel_rfl
@[simp] theorem ft_lk127 : lkT Try.prog 127 = .one := by kernel_rfl
@[simp] theorem ft_ce127 : Program.cellsOf Try.prog 127 = 1 := by kernel_rfl
@[simp] theorem ft_by127 : Program.bytesOf Try.prog 127 = 8 := by kernel_rfl
@[simp] theorem ft_ze127 : zeroAV Try.prog 127 = .sc .nilFunc := by kernel_rfl
@[simp] theorem ft_co127 : Program.concrete Try.prog 127 = true := by kernel_rfl
@[simp] theorem ft_lk128 : lkT Try.prog 128 = .one := by kernel_rfl
@[simp] theorem ft_ce128 : Program.cellsOf Try.prog 128 = 1 := by kernel_rfl
@[simp] theorem ft_by128 : Program.bytesOf Try.prog 128 = 8 := by kernel_rfl
@[simp] theorem ft_ze128 : zeroAV Try.prog 128 = .sc .nilFunc := by kernel_rfl
@[simp] theorem ft_co128 : Program.concrete Try.prog 128 = true := by kernel_rfl
@[simp] theorem ft_lk129 : lkT Try.prog 129 = .agg 4 := by kernel_rfl
@[simp] theorem ft_ce129 : Program.cellsOf Try.prog 129 = 4 := by kernel_rfl
@[simp] theorem ft_by129 : Program.bytesOf Try.prog 129 = 32 := by kernel_rfl
@[simp] theorem ft_ze129 : zeroAV Try.prog 129 = .agg [.sc (.int .i64 0), .sc (.int .i64 0), .sc (.int .i64 0), .sc (.bool false)] := by kernel_rfl
@[simp] theorem ft_co129 : Program.concrete Try.prog 129 = true := by kernel_rfl
@[simp] theorem ft_bu129 : buildT Try.prog 129 = true := by kernel_rfl
@[simp] theorem ft_pl129_0 : placeT Try.prog 129 0 = some (0, 1) := by kernel_rfl
@[simp] theorem ft_fi129_0 : fieldT Try.prog 129 0 = some (0, .one) := by kernel_rfl
@[simp] theorem ft_pl129_1 : placeT Try.prog 129 1 = some (1, 1) := by kernel_rfl
@[simp] theorem ft_fi129_1 : fieldT Try.prog 129 1 = some (1, .one) := by kernel_rfl
@[simp] theorem ft_pl129_2 : placeT Try.prog 129 2 = some (2, 1) := by kernel_rfl
@[simp] theorem ft_fi129_2 : fieldT Try.prog 129 2 = some (2, .one) := by kernel_rfl
@[simp] theorem ft_pl129_3 : placeT Try.prog 129 3 = some (3, 1) := by kernel_rfl
@[simp] theorem ft_fi129_3 : fieldT Try.prog 129 3 = some (3, .one) := by kernel_rfl
@[simp] theorem ft_lk130 : lkT Try.prog 130 = .one := by kernel_rfl
@[simp] theorem ft_ce130 : Program.cellsOf Try.prog 130 = 1 := by kernel_rfl
@[simp] theorem ft_by130 : Program.bytesOf Try.prog 130 = 8 := by kernel_rfl
@[simp] theorem ft_ze130 : zeroAV Try.prog 130 = .sc .nilFunc := by kernel_rfl
@[simp] theorem ft_co130 : Program.concrete Try.prog 130 = true := by kernel_rfl
@[simp] theorem ft_lk131 : lkT Try.prog 131 = .agg 4 := by kernel_rfl
@[simp] theorem ft_ce131 : Program.cellsOf Try.prog 131 = 4 := by kernel_rfl
@[simp] theorem ft_by131 : Program.bytesOf Try.prog 131 = 40 := by kernel_rfl
@[simp] theorem ft_ze131 : zeroAV Try.prog 131 = .agg [.sc (.pointer none), .sc (.pointer none), .sc (.pointer none), .sc (.string .empty)] := by kernel_rfl
@[simp] theorem ft_co131 : Program.concrete Try.prog 131 = true := by kernel_rfl
@[simp] theorem ft_bu131 : buildT Try.prog 131 = true := by kernel_rfl
@[simp] theorem ft_pl131_0 : placeT Try.prog 131 0 = some (0, 1) := by kernel_rfl
@[simp] theorem ft_fi131_0 : fieldT Try.prog 131 0 = some (0, .one) := by kernel_rfl
@[simp] theorem ft_pl131_1 : placeT Try.prog 131 1 = some (1, 1) := by kernel_rfl
@[simp] theorem ft_fi131_1 : fieldT Try.prog 131 1 = some (1, .one) := by kernel_rfl
@[simp] theorem ft_pl131_2 : placeT Try.prog 131 2 = some (2, 1) := by kernel_rfl
@[simp] theorem ft_fi131_2 : fieldT Try.prog 131 2 = some (2, .one) := by kernel_rfl
@[simp] theorem ft_pl131_3 : placeT Try.prog 131 3 = some (3, 1) := by kernel_rfl
@[simp] theorem ft_fi131_3 : fieldT Try.prog 131 3 = some (3, .one) := by kernel_rfl
@[simp] theorem ft_lk132 : lkT Try.prog 132 = .agg 4 := by kernel_rfl
@[simp] theorem ft_ce132 : Program.cellsOf Try.prog 132 = 4 := by kernel_rfl
@[simp] theorem ft_by132 : Program.bytesOf Try.prog 132 = 40 := by kernel_rfl
@[simp] theorem ft_ze132 : zeroAV Try.prog 132 = .agg [.sc (.pointer none), .sc (.pointer none), .sc (.pointer none), .sc (.string .empty)] := by kernel_rfl
@[simp] theorem ft_co132 : Program.concrete Try.prog 132 = true := by kernel_rfl
@[simp] theorem ft_bu132 : buildT Try.prog 132 = true := by kernel_rfl
@[simp] theorem ft_pl132_0 : placeT Try.prog 132 0 = some (0, 1) := by kernel_rfl
@[simp] theorem ft_fi132_0 : fieldT Try.prog 132 0 = some (0, .one) := by kernel_rfl
@[simp] theorem ft_pl132_1 : placeT Try.prog 132 1 = some (1, 1) := by kernel_rfl
@[simp] theorem ft_fi132_1 : fieldT Try.prog 132 1 = some (1, .one) := by kernel_rfl
@[simp] theorem ft_pl132_2 : placeT Try.prog 132 2 = some (2, 1) := by kernel_rfl
@[simp] theorem ft_fi132_2 : fieldT Try.prog 132 2 = some (2, .one) := by kernel_rfl
@[simp] theorem ft_pl132_3 : placeT Try.prog 132 3 = some (3, 1) := by kernel_rfl
@[simp] theorem ft_fi132_3 : fieldT Try.prog 132 3 = some (3, .one) := by kernel_rfl
@[simp] theorem ft_lk133 : lkT Try.prog 133 = .agg 0 := by kernel_rfl
@[simp] theorem ft_ce133 : Program.cellsOf Try.prog 133 = 0 := by kernel_rfl
@[simp] theorem ft_by133 : Program.bytesOf Try.prog 133 = 0 := by kernel_rfl
@[simp] theorem ft_ze133 : zeroAV Try.prog 133 = .agg [] := by kernel_rfl
@[simp] theorem ft_co133 : Program.concrete Try.prog 133 = true := by kernel_rfl
@[simp] theorem ft_ar133 : arrT Try.prog 133 = some (0, 16) := by kernel_rfl
@[simp] theorem ft_pl133 : ∀ i, placeT Try.prog 133 i = some (i * 1, 1) := fun i => by kernel_rfl
@[simp] theorem ft_bu133 : buildT Try.prog 133 = true := by kernel_rfl
@[simp] theorem ft_lk134 : lkT Try.prog 134 = .agg 0 := by kernel_rfl
@[simp] theorem ft_ce134 : Program.cellsOf Try.prog 134 = 0 := by kernel_rfl
@[simp] theorem ft_by134 : Program.bytesOf Try.prog 134 = 0 := by kernel_rfl
@[simp] theorem ft_ze134 : zeroAV Try.prog 134 = .agg [] := by kernel_rfl
@[simp] theorem ft_co134 : Program.concrete Try.prog 134 = true := by kernel_rfl
@[simp] theorem ft_bu134 : buildT Try.prog 134 = true := by kernel_rfl
@[simp] theorem ft_pl134_0 : placeT Try.prog 134 0 = some (0, 0) := by kernel_rfl
@[simp] theorem ft_fi134_0 : fieldT Try.prog 134 0 = some (0, .agg 0) := by kernel_rfl
@[simp] theorem ft_lk135 : lkT Try.prog 135 = .agg 0 := by kernel_rfl
@[simp] theorem ft_ce135 : Program.cellsOf Try.prog 135 = 0 := by kernel_rfl
@[simp] theorem ft_by135 : Program.bytesOf Try.prog 135 = 0 := by kernel_rfl
@[simp] theorem ft_ze135 : zeroAV Try.prog 135 = .agg [] := by kernel_rfl
@[simp] theorem ft_co135 : Program.concrete Try.prog 135 = true := by kernel_rfl
@[simp] theorem ft_bu135 : buildT Try.prog 135 = true := by kernel_rfl
@[simp] theorem ft_pl135_0 : placeT Try.prog 135 0 = some (0, 0) := by kernel_rfl
@[simp] theorem ft_fi135_0 : fieldT Try.prog 135 0 = some (0, .agg 0) := by kernel_rfl
@[simp] theorem ft_lk136 : lkT Try.prog 136 = .one := by kernel_rfl
@[simp] theorem ft_ce136 : Program.cellsOf Try.prog 136 = 1 := by kernel_rfl
@[simp] theorem ft_by136 : Program.bytesOf Try.prog 136 = 4 := by kernel_rfl
@[simp] theorem ft_ze136 : zeroAV Try.prog 136 = .sc (.int .u32 0) := by kernel_rfl
@[simp] theorem ft_co136 : Program.concrete Try.prog 136 = true := by kernel_rfl
@[simp] theorem ft_lk137 : lkT Try.prog 137 = .one := by kernel_rfl
@[simp] theorem ft_ce137 : Program.cellsOf Try.prog 137 = 1 := by kernel_rfl
@[simp] theorem ft_by137 : Program.bytesOf Try.prog 137 = 1 := by kernel_rfl
@[simp] theorem ft_ze137 : zeroAV Try.prog 137 = .sc (.int .u8 0) := by kernel_rfl
@[simp] theorem ft_co137 : Program.concrete Try.prog 137 = true := by kernel_rfl
@[simp] theorem ft_lk138 : lkT Try.prog 138 = .one := by kernel_rfl
@[simp] theorem ft_ce138 : Program.cellsOf Try.prog 138 = 1 := by kernel_rfl
@[simp] theorem ft_by138 : Program.bytesOf Try.prog 138 = 1 := by kernel_rfl
@[simp] theorem ft_ze138 : zeroAV Try.prog 138 = .sc (.int .u8 0) := by kernel_rfl
@[simp] theorem ft_co138 : Program.concrete Try.prog 138 = true := by kernel_rfl
@[simp] theorem ft_lk139 : lkT Try.prog 139 = .one := by kernel_rfl
@[simp] theorem ft_ce139 : Program.cellsOf Try.prog 139 = 1 := by kernel_rfl
@[simp] theorem ft_by139 : Program.bytesOf Try.prog 139 = 8 := by kernel_rfl
@[simp] theorem ft_ze139 : zeroAV Try.prog 139 = .sc .nilFunc := by kernel_rfl
@[simp] theorem ft_co139 : Program.concrete Try.prog 139 = true := by kernel_rfl
@[simp] theorem ft_lk140 : lkT Try.prog 140 = .one := by kernel_rfl
@[simp] theorem ft_ce140 : Program.cellsOf Try.prog 140 = 1 := by kernel_rfl
@[simp] theorem ft_by140 : Program.bytesOf Try.prog 140 = 8 := by kernel_rfl
@[simp] theorem ft_ze140 : zeroAV Try.prog 140 = .sc (.pointer none) := by kernel_rfl
@[simp] theorem ft_co140 : Program.concrete Try.prog 140 = true := by kernel_rfl
@[simp] theorem ft_lk141 : lkT Try.prog 141 = .one := by kernel_rfl
@[simp] theorem ft_ce141 : Program.cellsOf Try.prog 141 = 1 := by kernel_rfl
@[simp] theorem ft_by141 : Program.bytesOf Try.prog 141 = 4 := by kernel_rfl
@[simp] theorem ft_ze141 : zeroAV Try.prog 141 = .sc (.int .i32 0) := by kernel_rfl
@[simp] theorem ft_co141 : Program.concrete Try.prog 141 = true := by kernel_rfl
@[simp] theorem ft_lk142 : lkT Try.prog 142 = .one := by kernel_rfl
@[simp] theorem ft_ce142 : Program.cellsOf Try.prog 142 = 1 := by kernel_rfl
@[simp] theorem ft_by142 : Program.bytesOf Try.prog 142 = 4 := by kernel_rfl
@[simp] theorem ft_ze142 : zeroAV Try.prog 142 = .sc (.int .i32 0) := by kernel_rfl
@[simp] theorem ft_co142 : Program.concrete Try.prog 142 = true := by kernel_rfl
@[simp] theorem ft_lk143 : lkT Try.prog 143 = .agg 11 := by kernel_rfl
@[simp] theorem ft_ce143 : Program.cellsOf Try.prog 143 = 11 := by kernel_rfl
@[simp] theorem ft_by143 : Program.bytesOf Try.prog 143 = 48 := by kernel_rfl
@[simp] theorem ft_ze143 : zeroAV Try.prog 143 = .agg [.sc (.int .u64 0), .sc (.int .u64 0), .sc (.int .u32 0), .sc (.int .u8 0), .sc (.int .u8 0), .sc (.int .u8 0), .sc (.int .u8 0), .sc .nilFunc, .sc (.pointer none), .sc (.int .i32 0), .sc (.int .i32 0)] := by kernel_rfl
@[simp] theorem ft_co143 : Program.concrete Try.prog 143 = true := by kernel_rfl
@[simp] theorem ft_bu143 : buildT Try.prog 143 = true := by kernel_rfl
@[simp] theorem ft_pl143_0 : placeT Try.prog 143 0 = some (0, 1) := by kernel_rfl
@[simp] theorem ft_fi143_0 : fieldT Try.prog 143 0 = some (0, .one) := by kernel_rfl
@[simp] theorem ft_pl143_1 : placeT Try.prog 143 1 = some (1, 1) := by kernel_rfl
@[simp] theorem ft_fi143_1 : fieldT Try.prog 143 1 = some (1, .one) := by kernel_rfl
@[simp] theorem ft_pl143_2 : placeT Try.prog 143 2 = some (2, 1) := by kernel_rfl
@[simp] theorem ft_fi143_2 : fieldT Try.prog 143 2 = some (2, .one) := by kernel_rfl
@[simp] theorem ft_pl143_3 : placeT Try.prog 143 3 = some (3, 1) := by kernel_rfl
@[simp] theorem ft_fi143_3 : fieldT Try.prog 143 3 = some (3, .one) := by kernel_rfl
@[simp] theorem ft_pl143_4 : placeT Try.prog 143 4 = some (4, 1) := by kernel_rfl
@[simp] theorem ft_fi143_4 : fieldT Try.prog 143 4 = some (4, .one) := by kernel_rfl
@[simp] theorem ft_pl143_5 : placeT Try.prog 143 5 = some (5, 1) := by kernel_rfl
@[simp] theorem ft_fi143_5 : fieldT Try.prog 143 5 = some (5, .one) := by kernel_rfl
@[simp] theorem ft_pl143_6 : placeT Try.prog 143 6 = some (6, 1) := by kernel_rfl
@[simp] theorem ft_fi143_6 : fieldT Try.prog 143 6 = some (6, .one) := by kernel_rfl
@[simp] theorem ft_pl143_7 : placeT Try.prog 143 7 = some (7, 1) := by kernel_rfl
@[simp] theorem ft_fi143_7 : fieldT Try.prog 143 7 = some (7, .one) := by kernel_rfl
@[simp] theorem ft_pl143_8 : placeT Try.prog 143 8 = some (8, 1) := by kernel_rfl
@[simp] theorem ft_fi143_8 : fieldT Try.prog 143 8 = some (8, .one) := by kernel_rfl
@[simp] theorem ft_pl143_9 : placeT Try.prog 143 9 = some (9, 1) := by kernel_rfl
@[simp] theorem ft_fi143_9 : fieldT Try.prog 143 9 = some (9, .one) := by kernel_rfl
@[simp] theorem ft_pl143_10 : placeT Try.prog 143 10 = some (10, 1) := by kernel_rfl
@[simp] theorem ft_fi143_10 : fieldT Try.prog 143 10 = some (10, .one) := by kernel_rfl
@[simp] theorem ft_lk144 : lkT Try.prog 144 = .agg 11 := by kernel_rfl
@[simp] theorem ft_ce144 : Program.cellsOf Try.prog 144 = 11 := by kernel_rfl
@[simp] theorem ft_by144 : Program.bytesOf Try.prog 144 = 48 := by kernel_rfl
@[simp] theorem ft_ze144 : zeroAV Try.prog 144 = .agg [.sc (.int .u64 0), .sc (.int .u64 0), .sc (.int .u32 0), .sc (.int .u8 0), .sc (.int .u8 0), .sc (.int .u8 0), .sc (.int .u8 0), .sc .nilFunc, .sc (.pointer none), .sc (.int .i32 0), .sc (.int .i32 0)] := by kernel_rfl
@[simp] theorem ft_co144 : Program.concrete Try.prog 144 = true := by kernel_rfl
@[simp] theorem ft_bu144 : buildT Try.prog 144 = true := by kernel_rfl
@[simp] theorem ft_pl144_0 : placeT Try.prog 144 0 = some (0, 1) := by kernel_rfl
@[simp] theorem ft_fi144_0 : fieldT Try.prog 144 0 = some (0, .one) := by kernel_rfl
@[simp] theorem ft_pl144_1 : placeT Try.prog 144 1 = some (1, 1) := by kernel_rfl
@[simp] theorem ft_fi144_1 : fieldT Try.prog 144 1 = some (1, .one) := by kernel_rfl
@[simp] theorem ft_pl144_2 : placeT Try.prog 144 2 = some (2, 1) := by kernel_rfl
@[simp] theorem ft_fi144_2 : fieldT Try.prog 144 2 = some (2, .one) := by kernel_rfl
@[simp] theorem ft_pl144_3 : placeT Try.prog 144 3 = some (3, 1) := by kernel_rfl
@[simp] theorem ft_fi144_3 : fieldT Try.prog 144 3 = some (3, .one) := by kernel_rfl
@[simp] theorem ft_pl144_4 : placeT Try.prog 144 4 = some (4, 1) := by kernel_rfl
@[simp] theorem ft_fi144_4 : fieldT Try.prog 144 4 = some (4, .one) := by kernel_rfl
@[simp] theorem ft_pl144_5 : placeT Try.prog 144 5 = some (5, 1) := by kernel_rfl
@[simp] theorem ft_fi144_5 : fieldT Try.prog 144 5 = some (5, .one) := by kernel_rfl
@[simp] theorem ft_pl144_6 : placeT Try.prog 144 6 = some (6, 1) := by kernel_rfl
@[simp] theorem ft_fi144_6 : fieldT Try.prog 144 6 = some (6, .one) := by kernel_rfl
@[simp] theorem ft_pl144_7 : placeT Try.prog 144 7 = some (7, 1) := by kernel_rfl
@[simp] theorem ft_fi144_7 : fieldT Try.prog 144 7 = some (7, .one) := by kernel_rfl
@[simp] theorem ft_pl144_8 : placeT Try.prog 144 8 = some (8, 1) := by kernel_rfl
@[simp] theorem ft_fi144_8 : fieldT Try.prog 144 8 = some (8, .one) := by kernel_rfl
@[simp] theorem ft_pl144_9 : placeT Try.prog 144 9 = some (9, 1) := by kernel_rfl
@[simp] theorem ft_fi144_9 : fieldT Try.prog 144 9 = some (9, .one) := by kernel_rfl
@[simp] theorem ft_pl144_10 : placeT Try.prog 144 10 = some (10, 1) := by kernel_rfl
@[simp] theorem ft_fi144_10 : fieldT Try.prog 144 10 = some (10, .one) := by kernel_rfl
@[simp] theorem ft_lk145 : lkT Try.prog 145 = .one := by kernel_rfl
@[simp] theorem ft_ce145 : Program.cellsOf Try.prog 145 = 1 := by kernel_rfl
@[simp] theorem ft_by145 : Program.bytesOf Try.prog 145 = 8 := by kernel_rfl
@[simp] theorem ft_ze145 : zeroAV Try.prog 145 = .sc (.pointer none) := by kernel_rfl
@[simp] theorem ft_co145 : Program.concrete Try.prog 145 = true := by kernel_rfl
end Go.Proofs.Ytnkjbgcbchbonaa
