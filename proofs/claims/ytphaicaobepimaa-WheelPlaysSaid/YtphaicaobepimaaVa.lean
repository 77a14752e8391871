/- Bodies of functions, as the elaboration has them (printed by a program), and that they are so. No conditions. -/
import Derived.Test.YtphaicaobepimaaE3
import Derived.Test.YtphaicaobepimaaB0
import Derived.Test.YtphaicaobepimaaRows
import Derived.KernelRfl
namespace Go.Proofs.Ytphaicaobepimaa
set_option linter.all false
set_option linter.unusedSimpArgs false
open Go.RowKit

def T_wNew : TC :=
 (.seq (.reg [.q 2 .mv [(.c (.lit (.pointer none)))] none, .q 3 .mv [(.c (.int .i64 0))] none])
 (.seq (.seq (.reg [.q 4 .mv [(.t 0)] none, .q 5 (.cm .lss .i64) [(.t 4), (.c (.int .i64 0))] none, .q 6 .mv [(.t 5)] none, .q 7 .mv [(.t 0)] (some (6, false)), .q 8 (.cm .gtr .i64) [(.t 7), (.c (.int .i64 1099511627776))] (some (6, false)), .q 9 .pick [(.t 6), (.c (.bool true)), (.t 8)] none])
 (.cond (.t 9) (.seq (.reg [.q 2 .mv [(.c (.lit (.pointer none)))] none, .q 3 .mv [(.c (.int .i64 2))] none])
 .ret) .skip))
 (.seq (.reg [.q 10 .mv [(.t 0)] none, .pd (some 11) (.mkm 61) [] none, .q 12 (.bld [(.int .i64 0), .nils, .nils, .nils, .nils, .nils, .nils, .nils, .nils, .nils, .nils, .nils, .nils, .nils, .nils, .nils, .nils, .nils, .nils, .nils, .nils, .nils, .nils, .nils, .nils, .nils, .nils, .nils, .nils, .nils, .nils, .nils, .nils, .nils, .nils, .nils, .nils, .nils, .nils, .nils, .nils, .nils, .nils, .nils, .nils, .nils, .nils, .nils, .nils, .nils, .nils, .nils, .nils, .nils, .nils, .nils, .nils, .nils, .nils, .nils, .nils, .nils, .nils, .nils, .nils, .nils, (.lit (.map none))] [(0, 1), (66, 1)]) [(.t 10), (.t 11)] none, .bx 13 (.t 12), .q 2 .mv [(.t 13)] none, .q 3 .mv [(.c (.int .i64 0))] none])
 .ret)))
theorem ft_wNew : FT Try.prog 33 Try.f33 T_wNew [.t 2, .t 3] := ⟨Try.func33, by kernel_rfl, by kernel_rfl, by kernel_rfl, by kernel_rfl⟩
def T_wArm : TC :=
 (.seq (.reg [.q 6 .mv [(.c (.int .i64 0))] none])
 (.seq (.seq (.reg [.q 9 .mv [(.t 0)] none, .q 10 (.nilP false) [(.t 9)] none])
 (.cond (.t 10) (.seq (.reg [.q 6 .mv [(.c (.int .i64 7))] none])
 .ret) .skip))
 (.seq (.seq (.reg [.q 11 .mv [(.t 2)] none, .q 12 (.cm .lss .i64) [(.t 11), (.c (.int .i64 0))] none, .q 13 .mv [(.t 12)] none, .q 14 .mv [(.t 2)] (some (13, false)), .q 15 (.cm .gtr .i64) [(.t 14), (.c (.int .i64 1099511627776))] (some (13, false)), .q 16 .pick [(.t 13), (.c (.bool true)), (.t 15)] none])
 (.cond (.t 16) (.seq (.reg [.q 6 .mv [(.c (.int .i64 2))] none])
 .ret) .skip))
 (.seq (.seq (.reg [.q 18 .mv [(.t 0)] none, .q 19 .nilck [(.t 18)] none, .q 20 (.fadr 66) [(.t 19)] none, .q 21 (.ld (.sc .ref)) [(.t 20)] none, .q 22 .mv [(.t 1)] none, .pd (some 23) (.lkp 61 true) [(.t 21), (.t 22)] none, .q 17 .mv [(.t 23)] none, .q 24 (.ext 0) [(.t 17)] none, .q 25 (.ext 1) [(.t 17)] none, .q 7 .mv [(.t 24)] none, .q 8 .mv [(.t 25)] none])
 (.seq (.reg [.q 26 .mv [(.t 8)] none, .q 27 .not [(.t 26)] none, .q 28 .mv [(.t 27)] none, .q 29 .mv [(.t 0)] (some (28, true)), .q 30 .nilck [(.t 29)] (some (28, true)), .q 31 (.fadr 66) [(.t 30)] (some (28, true)), .q 32 (.ld (.sc .ref)) [(.t 31)] (some (28, true)), .q 33 .lenM [(.t 32)] (some (28, true)), .q 34 (.cm .geq .i64) [(.t 33), (.c (.int .i64 400))] (some (28, true)), .q 35 .pick [(.t 28), (.t 34), (.c (.bool false))] none])
 (.cond (.t 35) (.seq (.reg [.q 6 .mv [(.c (.int .i64 6))] none])
 .ret) .skip)))
 (.seq (.reg [.q 36 .mv [(.t 0)] none, .q 37 .mv [(.t 1)] none, .pd (some 38) (.call 40) [(.t 36), (.t 37)] none])
 (.seq (.reg [.q 39 .mv [(.t 2)] none, .q 40 .mv [(.t 0)] none, .q 41 .nilck [(.t 40)] none, .q 42 (.fadr 0) [(.t 41)] none, .q 43 (.ld (.sc (.int .i64))) [(.t 42)] none, .q 44 (.mx .i64) [(.t 39), (.t 43)] none, .q 2 .mv [(.t 44)] none])
 (.seq (.reg [.q 45 .mv [(.t 0)] none, .q 46 .nilck [(.t 45)] none, .q 47 (.fadr 66) [(.t 46)] none, .q 48 (.ld (.sc .ref)) [(.t 47)] none, .q 49 .mv [(.t 1)] none, .q 50 .mv [(.t 2)] none, .pd none (.upd 61) [(.t 48), (.t 49), (.t 50)] none])
 (.seq (.reg [.q 51 .mv [(.t 0)] none, .q 52 .mv [(.t 1)] none, .q 53 .mv [(.t 2)] none, .q 54 (.bld [(.int .i64 0), (.int .i64 0)] [(0, 1), (1, 1)]) [(.t 52), (.t 53)] none, .pd (some 55) (.call 62) [(.t 51), (.t 54)] none])
 (.seq (.reg [.q 6 .mv [(.c (.int .i64 0))] none])
 .ret)))))))))
theorem ft_wArm : FT Try.prog 35 Try.f35 T_wArm [.t 6] := ⟨Try.func35, by kernel_rfl, by kernel_rfl, by kernel_rfl, by kernel_rfl⟩
def T_wAdv : TC :=
 (.seq (.reg [.q 4 .mv [(.c .nils)] none, .q 5 .mv [(.c (.int .i64 0))] none])
 (.seq (.seq (.reg [.q 9 .mv [(.t 0)] none, .q 10 (.nilP false) [(.t 9)] none])
 (.cond (.t 10) (.seq (.reg [.q 4 .mv [(.c .nils)] none, .q 5 .mv [(.c (.int .i64 7))] none])
 .ret) .skip))
 (.seq (.seq (.reg [.q 11 .mv [(.t 1)] none, .q 12 .mv [(.t 0)] none, .q 13 .nilck [(.t 12)] none, .q 14 (.fadr 0) [(.t 13)] none, .q 15 (.ld (.sc (.int .i64))) [(.t 14)] none, .q 16 (.cm .lss .i64) [(.t 11), (.t 15)] none, .q 17 .mv [(.t 16)] none, .q 18 .mv [(.t 1)] (some (17, false)), .q 19 (.cm .gtr .i64) [(.t 18), (.c (.int .i64 1099511627776))] (some (17, false)), .q 20 .pick [(.t 17), (.c (.bool true)), (.t 19)] none])
 (.cond (.t 20) (.seq (.reg [.q 4 .mv [(.c .nils)] none, .q 5 .mv [(.c (.int .i64 2))] none])
 .ret) .skip))
 (.seq (.reg [.q 6 .mv [(.c .nils)] none])
 (.block 0 (.loop (.block 1 (.seq (.dreg [.q 21 .mv [(.t 0)] none, .q 22 .mv [(.t 0)] none, .q 23 .nilck [(.t 22)] none, .q 24 (.fadr 0) [(.t 23)] none, .q 25 (.ld (.sc (.int .i64))) [(.t 24)] none, .q 26 (.dv .rem .i64) [(.t 25), (.c (.int .i64 16))] none, .q 27 .nilck [(.t 21)] none, .q 28 (.fadr 1) [(.t 27)] none, .q 29 (.iadrA 4 16) [(.t 28), (.c (.int .i64 0))] none, .q 30 (.iadrA 16 1) [(.t 29), (.t 26)] none, .q 7 .mv [(.t 30)] none] [0, 0, 2, 6, 14, 30, 1, 65, 193, 511, 1023])
 (.seq (.reg [.q 31 .mv [(.t 7)] none, .q 32 .nilck [(.t 31)] none, .q 33 (.ld (.sc .ref)) [(.t 32)] none, .q 8 .mv [(.t 33)] none])
 (.seq (.reg [.q 34 .mv [(.t 7)] none, .q 35 .nilck [(.t 34)] none, .sto (.sc .ref) (.t 35) (.c .nils)])
 (.seq (.reg [.q 36 .mv [(.t 6)] none, .q 37 .mv [(.t 0)] none, .q 38 .mv [(.t 8)] none, .pd (some 39) (.call 63) [(.t 37), (.t 38)] none, .pd (some 40) (.app 1 8 false) [(.t 36), (.t 39)] none, .q 6 .mv [(.t 40)] none])
 (.seq (.seq (.reg [.q 41 .mv [(.t 0)] none, .q 42 .nilck [(.t 41)] none, .q 43 (.fadr 0) [(.t 42)] none, .q 44 (.ld (.sc (.int .i64))) [(.t 43)] none, .q 45 .mv [(.t 1)] none, .q 46 (.cm .eql .i64) [(.t 44), (.t 45)] none])
 (.cond (.t 46) (.seq (.reg [.q 47 .mv [(.t 6)] none, .q 4 .mv [(.t 47)] none, .q 5 .mv [(.c (.int .i64 0))] none])
 .ret) .skip))
 (.seq (.seq (.reg [.q 48 .mv [(.t 1)] none, .q 49 .mv [(.t 0)] none, .q 50 .nilck [(.t 49)] none, .q 51 (.fadr 0) [(.t 50)] none, .q 52 (.ld (.sc (.int .i64))) [(.t 51)] none, .q 53 (.ar .sub .i64) [(.t 48), (.t 52)] none, .q 54 (.cm .gtr .i64) [(.t 53), (.c (.int .i64 4096))] none, .q 55 .mv [(.t 54)] none, .q 56 .mv [(.t 0)] (some (55, false)), .q 57 .nilck [(.t 56)] (some (55, false)), .q 58 (.fadr 66) [(.t 57)] (some (55, false)), .q 59 (.ld (.sc .ref)) [(.t 58)] (some (55, false)), .q 60 .lenM [(.t 59)] (some (55, false)), .q 61 (.cm .eql .i64) [(.t 60), (.c (.int .i64 0))] (some (55, false)), .q 62 .pick [(.t 55), (.c (.bool true)), (.t 61)] none])
 (.cond (.t 62) (.seq (.reg [.q 63 .mv [(.t 0)] none, .q 64 .mv [(.t 1)] none, .pd (some 65) (.call 64) [(.t 63), (.t 64)] none])
 (.exit 1)) .skip))
 (.reg [.q 66 .mv [(.t 0)] none, .pd (some 67) (.call 65) [(.t 66)] none]))))))))))))))
theorem ft_wAdv : FT Try.prog 36 Try.f36 T_wAdv [.t 4, .t 5] := ⟨Try.func36, by kernel_rfl, by kernel_rfl, by kernel_rfl, by kernel_rfl⟩
def T_wMany : TC :=
 (.seq (.reg [.q 2 .mv [(.c (.int .i64 0))] none])
 (.seq (.seq (.reg [.q 3 .mv [(.t 0)] none, .q 4 (.nilP false) [(.t 3)] none])
 (.cond (.t 4) (.seq (.reg [.q 2 .mv [(.c (.int .i64 0))] none])
 .ret) .skip))
 (.seq (.reg [.q 5 .mv [(.t 0)] none, .q 6 .nilck [(.t 5)] none, .q 7 (.fadr 66) [(.t 6)] none, .q 8 (.ld (.sc .ref)) [(.t 7)] none, .q 9 .lenM [(.t 8)] none, .q 2 .mv [(.t 9)] none])
 .ret)))
theorem ft_wMany : FT Try.prog 37 Try.f37 T_wMany [.t 2] := ⟨Try.func37, by kernel_rfl, by kernel_rfl, by kernel_rfl, by kernel_rfl⟩
def T_wNow : TC :=
 (.seq (.reg [.q 2 .mv [(.c (.int .i64 0))] none])
 (.seq (.seq (.reg [.q 3 .mv [(.t 0)] none, .q 4 (.nilP false) [(.t 3)] none])
 (.cond (.t 4) (.seq (.reg [.q 2 .mv [(.c (.int .i64 0))] none])
 .ret) .skip))
 (.seq (.reg [.q 5 .mv [(.t 0)] none, .q 6 .nilck [(.t 5)] none, .q 7 (.fadr 0) [(.t 6)] none, .q 8 (.ld (.sc (.int .i64))) [(.t 7)] none, .q 2 .mv [(.t 8)] none])
 .ret)))
theorem ft_wNow : FT Try.prog 38 Try.f38 T_wNow [.t 2] := ⟨Try.func38, by kernel_rfl, by kernel_rfl, by kernel_rfl, by kernel_rfl⟩
def T_wDue : TC :=
 (.seq (.reg [.q 4 .mv [(.c (.int .i64 0))] none, .q 5 .mv [(.c (.bool false))] none])
 (.seq (.seq (.reg [.q 8 .mv [(.t 0)] none, .q 9 (.nilP false) [(.t 8)] none])
 (.cond (.t 9) (.seq (.reg [.q 4 .mv [(.c (.int .i64 0))] none, .q 5 .mv [(.c (.bool false))] none])
 .ret) .skip))
 (.seq (.reg [.q 11 .mv [(.t 0)] none, .q 12 .nilck [(.t 11)] none, .q 13 (.fadr 66) [(.t 12)] none, .q 14 (.ld (.sc .ref)) [(.t 13)] none, .q 15 .mv [(.t 1)] none, .pd (some 16) (.lkp 61 true) [(.t 14), (.t 15)] none, .q 10 .mv [(.t 16)] none, .q 17 (.ext 0) [(.t 10)] none, .q 18 (.ext 1) [(.t 10)] none, .q 6 .mv [(.t 17)] none, .q 7 .mv [(.t 18)] none])
 (.seq (.reg [.q 19 .mv [(.t 6)] none, .q 20 .mv [(.t 7)] none, .q 4 .mv [(.t 19)] none, .q 5 .mv [(.t 20)] none])
 .ret))))
theorem ft_wDue : FT Try.prog 39 Try.f39 T_wDue [.t 4, .t 5] := ⟨Try.func39, by kernel_rfl, by kernel_rfl, by kernel_rfl, by kernel_rfl⟩
def T_wCancel : TC :=
 (.seq (.reg [.bx 3 (.t 1), .q 4 .mv [(.c (.int .i64 0))] none])
 (.seq (.seq (.reg [.q 10 .mv [(.t 0)] none, .q 11 (.nilP false) [(.t 10)] none])
 (.cond (.t 11) (.seq (.reg [.q 4 .mv [(.c (.int .i64 7))] none])
 .ret) .skip))
 (.seq (.seq (.dreg [.q 13 .mv [(.t 0)] none, .q 14 .nilck [(.t 13)] none, .q 15 (.fadr 66) [(.t 14)] none, .q 16 (.ld (.sc .ref)) [(.t 15)] none, .q 17 (.ld (.sc (.int .i64))) [(.t 3)] none, .pd (some 18) (.lkp 61 true) [(.t 16), (.t 17)] none, .q 12 .mv [(.t 18)] none, .q 19 (.ext 0) [(.t 12)] none, .q 20 (.ext 1) [(.t 12)] none, .q 5 .mv [(.t 19)] none, .q 6 .mv [(.t 20)] none] [0, 1, 3, 7, 0, 31, 63, 127, 127, 255, 1023])
 (.seq (.reg [.q 21 .mv [(.t 6)] none, .q 22 .not [(.t 21)] none])
 (.cond (.t 22) (.seq (.reg [.q 4 .mv [(.c (.int .i64 7))] none])
 .ret) .skip)))
 (.seq (.dreg [.q 23 .mv [(.t 0)] none, .q 24 .nilck [(.t 23)] none, .q 25 (.fadr 66) [(.t 24)] none, .q 26 (.ld (.sc .ref)) [(.t 25)] none, .q 27 (.ld (.sc (.int .i64))) [(.t 3)] none, .pd none (.del 61) [(.t 26), (.t 27)] none] [0, 1, 3, 7, 0, 31])
 (.seq (.reg [.q 28 (.mkf 66) [(.t 3)] none, .q 7 .mv [(.t 28)] none])
 (.seq (.seq (.reg [.q 29 .mv [(.c (.int .i64 0))] none])
 (.block 0 (.loop (.seq (.reg [.q 30 (.cm .lss .i64) [(.t 29), (.c (.int .i64 4))] none])
 (.seq (.cond (.t 30) .skip (.exit 0))
 (.seq (.block 1 (.seq (.reg [.q 31 .mv [(.t 29)] none, .q 8 .mv [(.t 31)] none])
 (.seq (.reg [.q 32 .mv [(.c (.int .i64 0))] none])
 (.block 2 (.loop (.seq (.reg [.q 33 (.cm .lss .i64) [(.t 32), (.c (.int .i64 16))] none])
 (.seq (.cond (.t 33) .skip (.exit 2))
 (.seq (.block 3 (.seq (.reg [.q 34 .mv [(.t 32)] none, .q 9 .mv [(.t 34)] none])
 (.dreg [.q 35 .mv [(.t 0)] none, .q 36 .mv [(.t 8)] none, .q 37 .mv [(.t 9)] none, .q 38 .mv [(.t 0)] none, .q 39 .mv [(.t 8)] none, .q 40 .mv [(.t 9)] none, .q 41 .nilck [(.t 38)] none, .q 42 (.fadr 1) [(.t 41)] none, .q 43 (.iadrA 4 16) [(.t 42), (.t 39)] none, .q 44 (.iadrA 16 1) [(.t 43), (.t 40)] none, .q 45 (.ld (.sc .ref)) [(.t 44)] none, .q 46 .mv [(.t 7)] none, .pd (some 47) (.call 67) [(.t 45), (.t 46)] none, .q 48 .nilck [(.t 35)] none, .q 49 (.fadr 1) [(.t 48)] none, .q 50 (.iadrA 4 16) [(.t 49), (.t 36)] none, .q 51 (.iadrA 16 1) [(.t 50), (.t 37)] none, .sto (.sc .ref) (.t 51) (.t 47)] [0, 0, 0, 0, 0, 0, 8, 72, 216, 504, 1016, 0, 4088, 1, 8193, 24579, 65535, 131071])))
 (.reg [.q 52 (.ar .add .i64) [(.t 32), (.c (.int .i64 1))] none, .q 32 .mv [(.t 52)] none])))))))))
 (.reg [.q 53 (.ar .add .i64) [(.t 29), (.c (.int .i64 1))] none, .q 29 .mv [(.t 53)] none])))))))
 (.seq (.reg [.q 54 .mv [(.t 0)] none, .q 55 .mv [(.t 0)] none, .q 56 .nilck [(.t 55)] none, .q 57 (.fadr 65) [(.t 56)] none, .q 58 (.ld (.sc .ref)) [(.t 57)] none, .q 59 .mv [(.t 7)] none, .pd (some 60) (.call 67) [(.t 58), (.t 59)] none, .q 61 .nilck [(.t 54)] none, .q 62 (.fadr 65) [(.t 61)] none, .sto (.sc .ref) (.t 62) (.t 60)])
 (.seq (.reg [.q 4 .mv [(.c (.int .i64 0))] none])
 .ret))))))))
theorem ft_wCancel : FT Try.prog 40 Try.f40 T_wCancel [.t 4] := ⟨Try.func40, by kernel_rfl, by kernel_rfl, by kernel_rfl, by kernel_rfl⟩
def T_wLay : TC :=
 (.seq (.reg [.bx 3 (.t 1)])
 (.seq (.reg [.q 4 .mv [(.c (.int .i64 1))] none])
 (.seq (.seq (.reg [.q 7 .mv [(.c (.int .i64 0))] none])
 (.block 0 (.loop (.seq (.reg [.q 8 (.cm .lss .i64) [(.t 7), (.c (.int .i64 4))] none])
 (.seq (.cond (.t 8) .skip (.exit 0))
 (.seq (.block 1 (.seq (.reg [.q 9 .mv [(.t 7)] none, .q 5 .mv [(.t 9)] none])
 (.seq (.seq (.dreg [.q 10 (.fadr 1) [(.t 3)] none, .q 11 (.ld (.sc (.int .i64))) [(.t 10)] none, .q 12 .mv [(.t 4)] none, .q 13 (.dv .quo .i64) [(.t 11), (.t 12)] none, .q 14 .mv [(.t 0)] none, .q 15 .nilck [(.t 14)] none, .q 16 (.fadr 0) [(.t 15)] none, .q 17 (.ld (.sc (.int .i64))) [(.t 16)] none, .q 18 .mv [(.t 4)] none, .q 19 (.dv .quo .i64) [(.t 17), (.t 18)] none, .q 20 (.ar .sub .i64) [(.t 13), (.t 19)] none, .q 21 (.cm .lss .i64) [(.t 20), (.c (.int .i64 16))] none] [0, 1, 0, 7, 0, 16, 48, 112, 0, 496, 1023, 2047])
 (.cond (.t 21) (.seq (.dreg [.q 22 .mv [(.t 0)] none, .q 23 .mv [(.t 5)] none, .q 24 (.fadr 1) [(.t 3)] none, .q 25 (.ld (.sc (.int .i64))) [(.t 24)] none, .q 26 .mv [(.t 4)] none, .q 27 (.dv .quo .i64) [(.t 25), (.t 26)] none, .q 28 (.dv .rem .i64) [(.t 27), (.c (.int .i64 16))] none, .q 29 .nilck [(.t 22)] none, .q 30 (.fadr 1) [(.t 29)] none, .q 31 (.iadrA 4 16) [(.t 30), (.t 23)] none, .q 32 (.iadrA 16 1) [(.t 31), (.t 28)] none, .q 6 .mv [(.t 32)] none] [0, 0, 0, 4, 0, 28, 60, 1, 129, 387, 1023, 2047])
 (.seq (.dreg [.q 33 .mv [(.t 6)] none, .q 34 .mv [(.t 6)] none, .q 35 .nilck [(.t 34)] none, .q 36 (.ld (.sc .ref)) [(.t 35)] none, .q 37 (.ld (.ag 2)) [(.t 3)] none, .pd (some 38) (.bsl 2 1 [(.int .i64 0), (.int .i64 0)] [(0, 2)]) [(.t 37)] none, .pd (some 39) (.app 2 16 false) [(.t 36), (.t 38)] none, .q 40 .nilck [(.t 33)] none, .sto (.sc .ref) (.t 40) (.t 39)] [0, 0, 2, 6, 0, 16, 62, 127, 255])
 .ret)) .skip))
 (.reg [.q 41 .mv [(.t 4)] none, .q 42 (.ar .mul .i64) [(.t 41), (.c (.int .i64 16))] none, .q 4 .mv [(.t 42)] none]))))
 (.reg [.q 43 (.ar .add .i64) [(.t 7), (.c (.int .i64 1))] none, .q 7 .mv [(.t 43)] none])))))))
 (.dreg [.q 44 .mv [(.t 0)] none, .q 45 .mv [(.t 0)] none, .q 46 .nilck [(.t 45)] none, .q 47 (.fadr 65) [(.t 46)] none, .q 48 (.ld (.sc .ref)) [(.t 47)] none, .q 49 (.ld (.ag 2)) [(.t 3)] none, .pd (some 50) (.bsl 2 1 [(.int .i64 0), (.int .i64 0)] [(0, 2)]) [(.t 49)] none, .pd (some 51) (.app 2 16 false) [(.t 48), (.t 50)] none, .q 52 .nilck [(.t 44)] none, .q 53 (.fadr 65) [(.t 52)] none, .sto (.sc .ref) (.t 53) (.t 51)] [0, 0, 2, 6, 14, 0, 32, 126, 255, 511, 1023]))))
theorem ft_wLay : FT Try.prog 62 Try.f62 T_wLay [] := ⟨Try.func62, by kernel_rfl, by kernel_rfl, by kernel_rfl, by kernel_rfl⟩
def T_wFire : TC :=
 (.seq (.reg [.q 4 .mv [(.c .nils)] none])
 (.seq (.reg [.q 5 .mv [(.c .nils)] none])
 (.seq (.seq (.reg [.q 8 .mv [(.t 1)] none, .q 9 .lenL [(.t 8)] none, .q 10 .mv [(.c (.int .i64 0))] none])
 (.block 0 (.loop (.seq (.reg [.q 11 (.cm .lss .i64) [(.t 10), (.t 9)] none])
 (.seq (.cond (.t 11) .skip (.exit 0))
 (.seq (.block 1 (.seq (.reg [.q 12 (.iadrS 2) [(.t 8), (.t 10)] none, .q 13 (.ld (.ag 2)) [(.t 12)] none, .al 7 [(.int .i64 0), (.int .i64 0)], .sto (.ag 2) (.t 7) (.t 13)])
 (.seq (.reg [.q 14 .mv [(.t 5)] none, .q 15 (.fadr 0) [(.t 7)] none, .q 16 (.ld (.sc (.int .i64))) [(.t 15)] none, .pd (some 17) (.bsl 1 1 [(.int .i64 0)] [(0, 1)]) [(.t 16)] none, .pd (some 18) (.app 1 8 false) [(.t 14), (.t 17)] none, .q 5 .mv [(.t 18)] none])
 (.dreg [.q 19 .mv [(.t 0)] none, .q 20 .nilck [(.t 19)] none, .q 21 (.fadr 66) [(.t 20)] none, .q 22 (.ld (.sc .ref)) [(.t 21)] none, .q 23 (.fadr 0) [(.t 7)] none, .q 24 (.ld (.sc (.int .i64))) [(.t 23)] none, .pd none (.del 61) [(.t 22), (.t 24)] none] [0, 1, 3, 7, 0, 16, 63]))))
 (.reg [.q 25 (.ar .add .i64) [(.t 10), (.c (.int .i64 1))] none, .q 10 .mv [(.t 25)] none])))))))
 (.seq (.reg [.q 26 .mv [(.t 5)] none, .pd (some 27) (.call 73) [(.t 26)] none])
 (.seq (.reg [.q 28 .mv [(.t 5)] none, .q 4 .mv [(.t 28)] none])
 .ret)))))
theorem ft_wFire : FT Try.prog 63 Try.f63 T_wFire [.t 4] := ⟨Try.func63, by kernel_rfl, by kernel_rfl, by kernel_rfl, by kernel_rfl⟩
def T_wLeap : TC :=
 (.seq (.reg [.q 9 .mv [(.t 1)] none, .q 4 .mv [(.t 9)] none])
 (.seq (.seq (.reg [.q 10 .mv [(.t 0)] none, .q 11 .nilck [(.t 10)] none, .q 12 (.fadr 66) [(.t 11)] none, .q 13 (.ld (.sc .ref)) [(.t 12)] none, .pd (some 14) (.rng 61) [(.t 13)] none])
 (.block 0 (.loop (.seq (.reg [.pd (some 15) .nxt [(.t 14)] none, .q 16 (.ext 0) [(.t 15)] none])
 (.seq (.cond (.t 16) .skip (.exit 0))
 (.block 1 (.seq (.reg [.pd (some 17) .ent [(.t 14)] none, .q 18 (.ext 1) [(.t 17)] none, .q 6 .mv [(.t 18)] none])
 (.reg [.q 19 .mv [(.t 4)] none, .q 20 .mv [(.t 6)] none, .q 21 (.mn .i64) [(.t 19), (.t 20)] none, .q 4 .mv [(.t 21)] none]))))))))
 (.seq (.reg [.q 22 .mv [(.t 0)] none, .q 23 .mv [(.t 4)] none, .q 24 .nilck [(.t 22)] none, .q 25 (.fadr 0) [(.t 24)] none, .sto (.sc (.int .i64)) (.t 25) (.t 23)])
 (.seq (.reg [.q 26 .mv [(.t 0)] none, .q 27 .mv [(.t 0)] none, .q 28 (.bld [.nils, .nils, .nils, .nils, .nils, .nils, .nils, .nils, .nils, .nils, .nils, .nils, .nils, .nils, .nils, .nils, .nils, .nils, .nils, .nils, .nils, .nils, .nils, .nils, .nils, .nils, .nils, .nils, .nils, .nils, .nils, .nils, .nils, .nils, .nils, .nils, .nils, .nils, .nils, .nils, .nils, .nils, .nils, .nils, .nils, .nils, .nils, .nils, .nils, .nils, .nils, .nils, .nils, .nils, .nils, .nils, .nils, .nils, .nils, .nils, .nils, .nils, .nils, .nils] []) [] none, .q 29 .nilck [(.t 26)] none, .q 30 (.fadr 1) [(.t 29)] none, .sto (.ag 64) (.t 30) (.t 28), .q 31 .nilck [(.t 27)] none, .q 32 (.fadr 65) [(.t 31)] none, .sto (.sc .ref) (.t 32) (.c .nils)])
 (.seq (.reg [.q 33 .mv [(.t 0)] none, .q 34 .nilck [(.t 33)] none, .q 35 (.fadr 66) [(.t 34)] none, .q 36 (.ld (.sc .ref)) [(.t 35)] none, .pd (some 37) (.rng 61) [(.t 36)] none])
 (.block 2 (.loop (.seq (.reg [.pd (some 38) .nxt [(.t 37)] none, .q 39 (.ext 0) [(.t 38)] none])
 (.seq (.cond (.t 39) .skip (.exit 2))
 (.block 3 (.seq (.reg [.pd (some 40) .ent [(.t 37)] none, .q 41 (.ext 0) [(.t 40)] none, .q 42 (.ext 1) [(.t 40)] none, .q 7 .mv [(.t 41)] none, .q 8 .mv [(.t 42)] none])
 (.reg [.q 43 .mv [(.t 0)] none, .q 44 .mv [(.t 7)] none, .q 45 .mv [(.t 8)] none, .q 46 (.bld [(.int .i64 0), (.int .i64 0)] [(0, 1), (1, 1)]) [(.t 44), (.t 45)] none, .pd (some 47) (.call 62) [(.t 43), (.t 46)] none]))))))))))))
theorem ft_wLeap : FT Try.prog 64 Try.f64 T_wLeap [] := ⟨Try.func64, by kernel_rfl, by kernel_rfl, by kernel_rfl, by kernel_rfl⟩
def T_wStep : TC :=
 (.seq (.reg [.q 8 .mv [(.t 0)] none, .q 9 .nilck [(.t 8)] none, .q 10 (.fadr 0) [(.t 9)] none, .q 11 (.ld (.sc (.int .i64))) [(.t 10)] none, .q 12 (.ar .add .i64) [(.t 11), (.c (.int .i64 1))] none, .q 13 .nilck [(.t 8)] none, .q 14 (.fadr 0) [(.t 13)] none, .sto (.sc (.int .i64)) (.t 14) (.t 12)])
 (.seq (.reg [.q 2 .mv [(.c (.int .i64 16))] none])
 (.seq (.reg [.q 3 .mv [(.c (.int .i64 1))] none])
 (.block 0 (.loop (.seq (.seq (.reg [.q 15 .mv [(.t 3)] none, .q 16 (.cm .leq .i64) [(.t 15), (.c (.int .i64 4))] none, .q 17 .mv [(.t 16)] none, .q 18 .mv [(.t 0)] (some (17, true)), .q 19 .nilck [(.t 18)] (some (17, true)), .q 20 (.fadr 0) [(.t 19)] (some (17, true)), .q 21 (.ld (.sc (.int .i64))) [(.t 20)] (some (17, true)), .q 22 .mv [(.t 2)] (some (17, true)), .q 23 (.dv .rem .i64) [(.t 21), (.t 22)] (some (17, true)), .q 24 (.cm .eql .i64) [(.t 23), (.c (.int .i64 0))] (some (17, true)), .q 25 .pick [(.t 17), (.t 24), (.c (.bool false))] none])
 (.cond (.t 25) .skip (.exit 0)))
 (.seq (.block 1 (.seq (.reg [.q 4 .mv [(.c .nils)] none])
 (.seq (.seq (.reg [.q 28 .mv [(.t 3)] none, .q 29 (.cm .lss .i64) [(.t 28), (.c (.int .i64 4))] none])
 (.cond (.t 29) (.seq (.dreg [.q 30 .mv [(.t 0)] none, .q 31 .mv [(.t 3)] none, .q 32 .mv [(.t 0)] none, .q 33 .nilck [(.t 32)] none, .q 34 (.fadr 0) [(.t 33)] none, .q 35 (.ld (.sc (.int .i64))) [(.t 34)] none, .q 36 .mv [(.t 2)] none, .q 37 (.dv .quo .i64) [(.t 35), (.t 36)] none, .q 38 (.dv .rem .i64) [(.t 37), (.c (.int .i64 16))] none, .q 39 .nilck [(.t 30)] none, .q 40 (.fadr 1) [(.t 39)] none, .q 41 (.iadrA 4 16) [(.t 40), (.t 31)] none, .q 42 (.iadrA 16 1) [(.t 41), (.t 38)] none, .q 5 .mv [(.t 42)] none] [0, 0, 0, 4, 12, 28, 0, 124, 252, 1, 513, 1539, 4095, 8191])
 (.reg [.q 43 .mv [(.t 5)] none, .q 44 .mv [(.t 5)] none, .q 45 .nilck [(.t 44)] none, .q 46 (.ld (.sc .ref)) [(.t 45)] none, .q 4 .mv [(.t 46)] none, .q 47 .nilck [(.t 43)] none, .sto (.sc .ref) (.t 47) (.c .nils)])) (.reg [.q 48 .mv [(.t 0)] none, .q 49 .mv [(.t 0)] none, .q 50 .nilck [(.t 49)] none, .q 51 (.fadr 65) [(.t 50)] none, .q 52 (.ld (.sc .ref)) [(.t 51)] none, .q 4 .mv [(.t 52)] none, .q 53 .nilck [(.t 48)] none, .q 54 (.fadr 65) [(.t 53)] none, .sto (.sc .ref) (.t 54) (.c .nils)])))
 (.seq (.seq (.reg [.q 55 .mv [(.t 4)] none, .q 56 .lenL [(.t 55)] none, .q 57 .mv [(.c (.int .i64 0))] none])
 (.block 2 (.loop (.seq (.reg [.q 58 (.cm .lss .i64) [(.t 57), (.t 56)] none])
 (.seq (.cond (.t 58) .skip (.exit 2))
 (.seq (.block 3 (.seq (.reg [.q 59 (.iadrS 2) [(.t 55), (.t 57)] none, .q 60 (.ld (.ag 2)) [(.t 59)] none, .al 7 [(.int .i64 0), (.int .i64 0)], .sto (.ag 2) (.t 7) (.t 60)])
 (.reg [.q 61 .mv [(.t 0)] none, .q 62 (.ld (.ag 2)) [(.t 7)] none, .pd (some 63) (.call 62) [(.t 61), (.t 62)] none])))
 (.reg [.q 64 (.ar .add .i64) [(.t 57), (.c (.int .i64 1))] none, .q 57 .mv [(.t 64)] none])))))))
 (.reg [.q 65 .mv [(.t 2)] none, .q 66 (.ar .mul .i64) [(.t 65), (.c (.int .i64 16))] none, .q 2 .mv [(.t 66)] none])))))
 (.reg [.q 26 .mv [(.t 3)] none, .q 27 (.ar .add .i64) [(.t 26), (.c (.int .i64 1))] none, .q 3 .mv [(.t 27)] none]))))))))
theorem ft_wStep : FT Try.prog 65 Try.f65 T_wStep [] := ⟨Try.func65, by kernel_rfl, by kernel_rfl, by kernel_rfl, by kernel_rfl⟩
def T_wOut : TC :=
 (.seq (.reg [.bx 2 (.t 0), .q 3 .mv [(.c (.bool false))] none])
 (.seq (.reg [.q 4 (.fadr 0) [(.t 2)] none, .q 5 (.ld (.sc (.int .i64))) [(.t 4)] none, .q 6 (.ld (.sc (.int .i64))) [(.t 1)] none, .q 7 (.cm .eql .i64) [(.t 5), (.t 6)] none, .q 3 .mv [(.t 7)] none])
 .ret))
theorem ft_wOut : FT Try.prog 66 Try.f66 T_wOut [.t 3] := ⟨Try.func66, by kernel_rfl, by kernel_rfl, by kernel_rfl, by kernel_rfl⟩
def T_delT : TC :=
 (.seq (.reg [.q 4 .mv [(.c .nils)] none])
 (.seq (.reg [.q 8 .mv [(.t 0)] none, .q 9 .mv [(.t 1)] none, .pd (some 10) (.call 74) [(.t 8), (.t 9)] none, .q 5 .mv [(.t 10)] none])
 (.seq (.seq (.reg [.q 11 .mv [(.t 5)] none, .q 12 (.cm .eql .i64) [(.t 11), (.c (.int .i64 (-1)))] none])
 (.cond (.t 12) (.seq (.reg [.q 13 .mv [(.t 0)] none, .q 4 .mv [(.t 13)] none])
 .ret) .skip))
 (.seq (.seq (.reg [.q 14 .mv [(.t 5)] none, .q 15 (.ar .add .i64) [(.t 14), (.c (.int .i64 1))] none, .q 6 .mv [(.t 15)] none])
 (.block 0 (.loop (.seq (.seq (.reg [.q 16 .mv [(.t 6)] none, .q 17 .mv [(.t 0)] none, .q 18 .lenL [(.t 17)] none, .q 19 (.cm .lss .i64) [(.t 16), (.t 18)] none])
 (.cond (.t 19) .skip (.exit 0)))
 (.seq (.block 1 (.seq (.reg [.q 22 .mv [(.t 0)] none, .q 23 .mv [(.t 6)] none, .q 24 (.iadrS 2) [(.t 22), (.t 23)] none, .q 25 (.ld (.ag 2)) [(.t 24)] none, .al 7 [(.int .i64 0), (.int .i64 0)], .sto (.ag 2) (.t 7) (.t 25)])
 (.seq (.reg [.q 26 .mv [(.t 1)] none, .q 27 (.ld (.ag 2)) [(.t 7)] none, .pd (some 28) .callv [(.t 26), (.t 27)] none, .q 29 .not [(.t 28)] none])
 (.cond (.t 29) (.seq (.reg [.q 30 .mv [(.t 0)] none, .q 31 .mv [(.t 5)] none, .q 32 (.ld (.ag 2)) [(.t 7)] none, .q 33 (.iadrS 2) [(.t 30), (.t 31)] none, .sto (.ag 2) (.t 33) (.t 32)])
 (.reg [.q 34 .mv [(.t 5)] none, .q 35 (.ar .add .i64) [(.t 34), (.c (.int .i64 1))] none, .q 5 .mv [(.t 35)] none])) .skip))))
 (.reg [.q 20 .mv [(.t 6)] none, .q 21 (.ar .add .i64) [(.t 20), (.c (.int .i64 1))] none, .q 6 .mv [(.t 21)] none]))))))
 (.seq (.reg [.q 36 .mv [(.t 0)] none, .q 37 .mv [(.t 5)] none, .q 38 (.slL 2 true false) [(.t 36), (.t 37)] none, .pd none (.clr 105) [(.t 38)] none])
 (.seq (.reg [.q 39 .mv [(.t 0)] none, .q 40 .mv [(.t 5)] none, .q 41 (.slL 2 false true) [(.t 39), (.t 40)] none, .q 4 .mv [(.t 41)] none])
 .ret))))))
theorem ft_delT : FT Try.prog 67 Try.f67 T_delT [.t 4] := ⟨Try.func67, by kernel_rfl, by kernel_rfl, by kernel_rfl, by kernel_rfl⟩
def T_ixfT : TC :=
 (.seq (.reg [.q 4 .mv [(.c (.int .i64 0))] none])
 (.seq (.seq (.reg [.q 6 .mv [(.t 0)] none, .q 7 .lenL [(.t 6)] none, .q 8 .mv [(.c (.int .i64 0))] none])
 (.block 0 (.loop (.seq (.reg [.q 9 (.cm .lss .i64) [(.t 8), (.t 7)] none])
 (.seq (.cond (.t 9) .skip (.exit 0))
 (.seq (.block 1 (.seq (.reg [.q 10 .mv [(.t 8)] none, .q 5 .mv [(.t 10)] none])
 (.seq (.reg [.q 11 .mv [(.t 1)] none, .q 12 .mv [(.t 0)] none, .q 13 .mv [(.t 5)] none, .q 14 (.iadrS 2) [(.t 12), (.t 13)] none, .q 15 (.ld (.ag 2)) [(.t 14)] none, .pd (some 16) .callv [(.t 11), (.t 15)] none])
 (.cond (.t 16) (.seq (.reg [.q 17 .mv [(.t 5)] none, .q 4 .mv [(.t 17)] none])
 .ret) .skip))))
 (.reg [.q 18 (.ar .add .i64) [(.t 8), (.c (.int .i64 1))] none, .q 8 .mv [(.t 18)] none])))))))
 (.seq (.reg [.q 4 .mv [(.c (.int .i64 (-1)))] none])
 .ret)))
theorem ft_ixfT : FT Try.prog 74 Try.f74 T_ixfT [.t 4] := ⟨Try.func74, by kernel_rfl, by kernel_rfl, by kernel_rfl, by kernel_rfl⟩
def T_lturns : TC :=
 (.seq (.reg [.q 0 .mv [(.c (.bool false))] none])
 (.seq (.reg [.pd (some 4) (.call 33) [(.c (.int .i64 3))] none, .q 3 .mv [(.t 4)] none, .q 5 (.ext 0) [(.t 3)] none, .q 6 (.ext 1) [(.t 3)] none, .q 1 .mv [(.t 5)] none, .q 2 .mv [(.t 6)] none])
 (.seq (.reg [.q 7 .mv [(.t 2)] none, .q 8 (.cm .eql .i64) [(.t 7), (.c (.int .i64 0))] none, .q 9 .mv [(.t 8)] none, .q 10 .mv [(.t 1)] (some (9, true)), .pd (some 11) (.call 38) [(.t 10)] (some (9, true)), .q 12 (.cm .eql .i64) [(.t 11), (.c (.int .i64 3))] (some (9, true)), .q 13 .pick [(.t 9), (.t 12), (.c (.bool false))] none, .q 14 .mv [(.t 13)] none, .q 15 .mv [(.t 1)] (some (14, true)), .pd (some 16) (.call 35) [(.t 15), (.c (.int .i64 1)), (.c (.int .i64 9))] (some (14, true)), .q 17 (.cm .eql .i64) [(.t 16), (.c (.int .i64 0))] (some (14, true)), .q 18 .pick [(.t 14), (.t 17), (.c (.bool false))] none, .q 19 .mv [(.t 18)] none, .q 20 .mv [(.t 1)] (some (19, true)), .pd (some 21) (.call 37) [(.t 20)] (some (19, true)), .q 22 (.cm .eql .i64) [(.t 21), (.c (.int .i64 1))] (some (19, true)), .q 23 .pick [(.t 19), (.t 22), (.c (.bool false))] none, .q 0 .mv [(.t 23)] none])
 .ret)))
theorem ft_lturns : FT Try.prog 41 Try.f41 T_lturns [.t 0] := ⟨Try.func41, by kernel_rfl, by kernel_rfl, by kernel_rfl, by kernel_rfl⟩
def T_kturns : TC :=
 (.seq (.reg [.q 0 .mv [(.c (.bool false))] none])
 (.seq (.reg [.pd (some 4) (.call 33) [(.c (.int .i64 3))] none, .q 3 .mv [(.t 4)] none, .q 5 (.ext 0) [(.t 3)] none, .q 6 (.ext 1) [(.t 3)] none, .q 1 .mv [(.t 5)] none, .q 2 .mv [(.t 6)] none])
 (.seq (.reg [.q 7 .mv [(.t 2)] none, .q 8 (.cm .eql .i64) [(.t 7), (.c (.int .i64 0))] none, .q 9 .mv [(.t 8)] none, .q 10 .mv [(.t 1)] (some (9, true)), .pd (some 11) (.call 38) [(.t 10)] (some (9, true)), .q 12 (.cm .eql .i64) [(.t 11), (.c (.int .i64 3))] (some (9, true)), .q 13 .pick [(.t 9), (.t 12), (.c (.bool false))] none, .q 14 .mv [(.t 13)] none, .q 15 .mv [(.t 1)] (some (14, true)), .pd (some 16) (.call 35) [(.t 15), (.c (.int .i64 1)), (.c (.int .i64 9))] (some (14, true)), .q 17 (.cm .eql .i64) [(.t 16), (.c (.int .i64 0))] (some (14, true)), .q 18 .pick [(.t 14), (.t 17), (.c (.bool false))] none, .q 19 .mv [(.t 18)] none, .q 20 .mv [(.t 1)] (some (19, true)), .pd (some 21) (.call 37) [(.t 20)] (some (19, true)), .q 22 (.cm .eql .i64) [(.t 21), (.c (.int .i64 1))] (some (19, true)), .q 23 .pick [(.t 19), (.t 22), (.c (.bool false))] none, .q 0 .mv [(.t 23)] none])
 .ret)))
theorem ft_kturns : FT Try.prog 34 Try.f34 T_kturns [.t 0] := ⟨Try.func34, by kernel_rfl, by kernel_rfl, by kernel_rfl, by kernel_rfl⟩
def T_lNil : TC :=
 (.seq (.reg [.q 4 .mv [(.c (.bool false))] none])
 (.seq (.reg [.q 5 .mv [(.c (.lit (.pointer none)))] none])
 (.seq (.reg [.q 11 .mv [(.t 5)] none, .q 12 .mv [(.t 1)] none, .pd (some 13) (.call 36) [(.t 11), (.t 12)] none, .q 10 .mv [(.t 13)] none, .q 14 (.ext 0) [(.t 10)] none, .q 15 (.ext 1) [(.t 10)] none, .q 6 .mv [(.t 14)] none, .q 7 .mv [(.t 15)] none])
 (.seq (.reg [.q 17 .mv [(.t 5)] none, .q 18 .mv [(.t 0)] none, .pd (some 19) (.call 39) [(.t 17), (.t 18)] none, .q 16 .mv [(.t 19)] none, .q 20 (.ext 0) [(.t 16)] none, .q 21 (.ext 1) [(.t 16)] none, .q 8 .mv [(.t 20)] none, .q 9 .mv [(.t 21)] none])
 (.seq (.reg [.q 22 .mv [(.t 5)] none, .q 23 .mv [(.t 0)] none, .q 24 .mv [(.t 1)] none, .pd (some 25) (.call 35) [(.t 22), (.t 23), (.t 24)] none, .q 26 (.cm .eql .i64) [(.t 25), (.c (.int .i64 7))] none, .q 27 .mv [(.t 26)] none, .q 28 .mv [(.t 5)] (some (27, true)), .q 29 .mv [(.t 0)] (some (27, true)), .pd (some 30) (.call 40) [(.t 28), (.t 29)] (some (27, true)), .q 31 (.cm .eql .i64) [(.t 30), (.c (.int .i64 7))] (some (27, true)), .q 32 .pick [(.t 27), (.t 31), (.c (.bool false))] none, .q 33 .mv [(.t 32)] none, .q 34 .mv [(.t 7)] (some (33, true)), .q 35 (.cm .eql .i64) [(.t 34), (.c (.int .i64 7))] (some (33, true)), .q 36 .pick [(.t 33), (.t 35), (.c (.bool false))] none, .q 37 .mv [(.t 36)] none, .q 38 .mv [(.t 6)] (some (37, true)), .q 39 .lenL [(.t 38)] (some (37, true)), .q 40 (.cm .eql .i64) [(.t 39), (.c (.int .i64 0))] (some (37, true)), .q 41 .pick [(.t 37), (.t 40), (.c (.bool false))] none, .q 42 .mv [(.t 41)] none, .q 43 .mv [(.t 8)] (some (42, true)), .q 44 (.cm .eql .i64) [(.t 43), (.c (.int .i64 0))] (some (42, true)), .q 45 .pick [(.t 42), (.t 44), (.c (.bool false))] none, .q 46 .mv [(.t 45)] none, .q 47 .mv [(.t 9)] (some (46, true)), .q 48 .not [(.t 47)] (some (46, true)), .q 49 .pick [(.t 46), (.t 48), (.c (.bool false))] none, .q 50 .mv [(.t 49)] none, .q 51 .mv [(.t 5)] (some (50, true)), .pd (some 52) (.call 38) [(.t 51)] (some (50, true)), .q 53 (.cm .eql .i64) [(.t 52), (.c (.int .i64 0))] (some (50, true)), .q 54 .pick [(.t 50), (.t 53), (.c (.bool false))] none, .q 55 .mv [(.t 54)] none, .q 56 .mv [(.t 5)] (some (55, true)), .pd (some 57) (.call 37) [(.t 56)] (some (55, true)), .q 58 (.cm .eql .i64) [(.t 57), (.c (.int .i64 0))] (some (55, true)), .q 59 .pick [(.t 55), (.t 58), (.c (.bool false))] none, .q 60 .mv [(.t 59)] none, .pd (some 61) (.call 41) [] (some (60, true)), .q 62 .pick [(.t 60), (.t 61), (.c (.bool false))] none, .q 4 .mv [(.t 62)] none])
 .ret)))))
theorem ft_lNil : FT Try.prog 11 Try.f11 T_lNil [.t 4] := ⟨Try.func11, by kernel_rfl, by kernel_rfl, by kernel_rfl, by kernel_rfl⟩
end Go.Proofs.Ytphaicaobepimaa
