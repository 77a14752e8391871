/- Bodies of functions, as the elaboration has them (printed by a program), and that they are so. No conditions. -/
import Derived.Test.YtogckmommodmhaaGreatDoorE3
import Derived.Test.YtogckmommodmhaaGreatDoorChecked
import Derived.KernelRfl
namespace Go.Proofs.YtogckmommodmhaaGreatDoor
set_option linter.all false
set_option linter.unusedSimpArgs false
open Go.RowKit

















































































































def T_Owners : TC :=
 (.seq (.reg [.al 2 [(.int .i64 0), (.int .i64 0), (.int .i64 0), (.int .i64 0), (.int .i64 0), (.int .i64 0), (.int .i64 0), (.int .i64 0), (.int .i64 0), (.int .i64 0), (.int .i64 0), (.int .i64 0), (.int .i64 0), (.int .i64 0), (.int .i64 0), (.int .i64 0), (.int .i64 0), (.int .i64 0), (.bool false), (.bool false), (.bool false)], .q 3 .mv [(.c (.int .i64 0))] none])
 (.seq (.reg [.al 4 [(.int .i64 0), (.int .i64 0), (.int .i64 0), (.int .i64 0), (.int .i64 0), (.int .i64 0), (.int .i64 0), (.int .i64 0), (.int .i64 0), (.int .i64 0), (.int .i64 0), (.int .i64 0), (.int .i64 0), (.int .i64 0), (.int .i64 0), (.int .i64 0), (.int .i64 0), (.int .i64 0), (.bool false), (.bool false), (.bool false)]])
 (.seq (.seq (.reg [.q 9 .mv [(.t 0)] none, .q 10 .lenL [(.t 9)] none, .q 11 .mv [(.c (.int .i64 0))] none])
 (.block 0 (.loop (.seq (.reg [.q 12 (.cm .lss .i64) [(.t 11), (.t 10)] none])
 (.seq (.cond (.t 12) .skip (.exit 0))
 (.seq (.block 1 (.seq (.reg [.q 13 (.iadrS 5) [(.t 9), (.t 11)] none, .q 14 (.ld (.ag 5)) [(.t 13)] none, .al 6 [(.int .i64 0), (.int .i64 0), (.int .i64 0), (.int .i64 0), (.bool false)], .sto (.ag 5) (.t 6) (.t 14)])
 (.seq (.seq (.reg [.q 15 (.ld (.ag 5)) [(.t 6)] none, .pd (some 16) (.call 85) [(.t 15)] none, .q 7 .mv [(.t 16)] none])
 (.seq (.reg [.q 17 .mv [(.t 7)] none, .q 18 (.cm .neq .i64) [(.t 17), (.c (.int .i64 0))] none])
 (.cond (.t 18) (.seq (.reg [.q 19 (.bld [(.int .i64 0), (.int .i64 0), (.int .i64 0), (.int .i64 0), (.int .i64 0), (.int .i64 0), (.int .i64 0), (.int .i64 0), (.int .i64 0), (.int .i64 0), (.int .i64 0), (.int .i64 0), (.int .i64 0), (.int .i64 0), (.int .i64 0), (.int .i64 0), (.int .i64 0), (.int .i64 0), (.bool false), (.bool false), (.bool false)] []) [] none, .q 20 .mv [(.t 7)] none, .sto (.ag 21) (.t 2) (.t 19), .q 3 .mv [(.t 20)] none])
 .ret) .skip)))
 (.seq (.dreg [.q 21 (.fadr 2) [(.t 6)] none, .q 22 (.ld (.sc (.int .i64))) [(.t 21)] none, .q 23 (.fadr 3) [(.t 6)] none, .q 24 (.ld (.sc (.int .i64))) [(.t 23)] none, .q 25 (.fadr 0) [(.t 4)] none, .q 26 (.iadrA 3 6) [(.t 25), (.t 22)] none, .q 27 (.iadrA 6 1) [(.t 26), (.t 24)] none, .q 8 .mv [(.t 27)] none] [0, 1, 0, 4, 0, 19, 63, 127])
 (.seq (.block 2 (.seq (.reg [.q 29 (.fadr 4) [(.t 6)] none, .q 30 (.ld (.sc .bool)) [(.t 29)] none, .q 31 .not [(.t 30)] none, .q 32 .mv [(.t 31)] none, .q 33 .mv [(.t 8)] (some (32, true)), .q 34 .nilck [(.t 33)] (some (32, true)), .q 35 (.ld (.sc (.int .i64))) [(.t 34)] (some (32, true)), .q 36 (.cm .neq .i64) [(.t 35), (.c (.int .i64 0))] (some (32, true)), .q 37 .pick [(.t 32), (.t 36), (.c (.bool false))] none, .q 28 .mv [(.t 37)] none])
 (.cond (.t 28) (.seq (.reg [.q 38 (.bld [(.int .i64 0), (.int .i64 0), (.int .i64 0), (.int .i64 0), (.int .i64 0), (.int .i64 0), (.int .i64 0), (.int .i64 0), (.int .i64 0), (.int .i64 0), (.int .i64 0), (.int .i64 0), (.int .i64 0), (.int .i64 0), (.int .i64 0), (.int .i64 0), (.int .i64 0), (.int .i64 0), (.bool false), (.bool false), (.bool false)] []) [] none, .sto (.ag 21) (.t 2) (.t 38), .q 3 .mv [(.c (.int .i64 8))] none])
 .ret) (.seq (.dreg [.q 40 (.fadr 4) [(.t 6)] none, .q 41 (.ld (.sc .bool)) [(.t 40)] none, .q 42 .mv [(.t 41)] none, .q 43 .mv [(.t 8)] (some (42, true)), .q 44 .nilck [(.t 43)] (some (42, true)), .q 45 (.ld (.sc (.int .i64))) [(.t 44)] (some (42, true)), .q 46 (.fadr 1) [(.t 6)] (some (42, true)), .q 47 (.ld (.sc (.int .i64))) [(.t 46)] (some (42, true)), .q 48 (.ar .add .i64) [(.t 47), (.c (.int .i64 1))] (some (42, true)), .q 49 (.cm .neq .i64) [(.t 45), (.t 48)] (some (42, true)), .q 50 .pick [(.t 42), (.t 49), (.c (.bool false))] none, .q 39 .mv [(.t 50)] none] [0, 1, 3, 7, 15, 31, 7, 71, 199, 511, 1023, 2047])
 (.cond (.t 39) (.seq (.reg [.q 51 (.bld [(.int .i64 0), (.int .i64 0), (.int .i64 0), (.int .i64 0), (.int .i64 0), (.int .i64 0), (.int .i64 0), (.int .i64 0), (.int .i64 0), (.int .i64 0), (.int .i64 0), (.int .i64 0), (.int .i64 0), (.int .i64 0), (.int .i64 0), (.int .i64 0), (.int .i64 0), (.int .i64 0), (.bool false), (.bool false), (.bool false)] []) [] none, .sto (.ag 21) (.t 2) (.t 51), .q 3 .mv [(.c (.int .i64 7))] none])
 .ret) .skip)))))
 (.seq (.reg [.q 52 .mv [(.t 8)] none, .q 53 (.fadr 1) [(.t 6)] none, .q 54 (.ld (.sc (.int .i64))) [(.t 53)] none, .q 55 (.ar .add .i64) [(.t 54), (.c (.int .i64 1))] none, .q 56 .nilck [(.t 52)] none, .sto (.sc (.int .i64)) (.t 56) (.t 55)])
 (.seq (.reg [.q 57 (.fadr 4) [(.t 6)] none, .q 58 (.ld (.sc .bool)) [(.t 57)] none])
 (.cond (.t 58) (.reg [.q 59 .mv [(.t 8)] none, .q 60 .nilck [(.t 59)] none, .sto (.sc (.int .i64)) (.t 60) (.c (.int .i64 0))]) .skip))))))))
 (.reg [.q 61 (.ar .add .i64) [(.t 11), (.c (.int .i64 1))] none, .q 11 .mv [(.t 61)] none])))))))
 (.seq (.reg [.q 62 (.ld (.ag 21)) [(.t 4)] none, .sto (.ag 21) (.t 2) (.t 62), .q 3 .mv [(.c (.int .i64 0))] none])
 .ret))))
theorem ft_Owners : FT Tryz.prog 55 Tryz.f55 T_Owners [.cell 2 (.ag 21), .t 3] := ⟨Tryz.func55, by kernel_rfl, by kernel_rfl, by kernel_rfl, by kernel_rfl⟩
def T_OwnersR : TC :=
 (.seq (.reg [.al 2 [(.int .i64 0), (.int .i64 0), (.int .i64 0), (.int .i64 0), (.int .i64 0), (.int .i64 0), (.int .i64 0), (.int .i64 0), (.int .i64 0), (.int .i64 0), (.int .i64 0), (.int .i64 0), (.int .i64 0), (.int .i64 0), (.int .i64 0), (.int .i64 0), (.int .i64 0), (.int .i64 0), (.bool false), (.bool false), (.bool false)], .q 3 .mv [(.c (.int .i64 0))] none])
 (.seq (.reg [.al 4 [(.int .i64 0), (.int .i64 0), (.int .i64 0), (.int .i64 0), (.int .i64 0), (.int .i64 0), (.int .i64 0), (.int .i64 0), (.int .i64 0), (.int .i64 0), (.int .i64 0), (.int .i64 0), (.int .i64 0), (.int .i64 0), (.int .i64 0), (.int .i64 0), (.int .i64 0), (.int .i64 0), (.bool false), (.bool false), (.bool false)]])
 (.seq (.seq (.reg [.q 8 .mv [(.t 0)] none, .q 9 .lenL [(.t 8)] none, .q 10 .mv [(.c (.int .i64 0))] none])
 (.block 0 (.loop (.seq (.reg [.q 11 (.cm .lss .i64) [(.t 10), (.t 9)] none])
 (.seq (.cond (.t 11) .skip (.exit 0))
 (.seq (.block 1 (.seq (.reg [.q 12 (.iadrS 5) [(.t 8), (.t 10)] none, .q 13 (.ld (.ag 5)) [(.t 12)] none, .al 6 [(.int .i64 0), (.int .i64 0), (.int .i64 0), (.int .i64 0), (.bool false)], .sto (.ag 5) (.t 6) (.t 13)])
 (.seq (.seq (.reg [.q 14 (.ld (.ag 5)) [(.t 6)] none, .pd (some 15) (.call 174) [(.t 14)] none, .q 16 (.cm .neq .i64) [(.t 15), (.c (.int .i64 0))] none])
 (.cond (.t 16) (.seq (.reg [.q 17 (.bld [(.int .i64 0), (.int .i64 0), (.int .i64 0), (.int .i64 0), (.int .i64 0), (.int .i64 0), (.int .i64 0), (.int .i64 0), (.int .i64 0), (.int .i64 0), (.int .i64 0), (.int .i64 0), (.int .i64 0), (.int .i64 0), (.int .i64 0), (.int .i64 0), (.int .i64 0), (.int .i64 0), (.bool false), (.bool false), (.bool false)] []) [] none, .sto (.ag 21) (.t 2) (.t 17), .q 3 .mv [(.c (.int .i64 2))] none])
 .ret) .skip))
 (.seq (.dreg [.q 18 (.fadr 2) [(.t 6)] none, .q 19 (.ld (.sc (.int .i64))) [(.t 18)] none, .q 20 (.fadr 3) [(.t 6)] none, .q 21 (.ld (.sc (.int .i64))) [(.t 20)] none, .q 22 (.fadr 0) [(.t 4)] none, .q 23 (.iadrA 3 6) [(.t 22), (.t 19)] none, .q 24 (.iadrA 6 1) [(.t 23), (.t 21)] none, .q 25 (.ld (.sc (.int .i64))) [(.t 24)] none, .q 7 .mv [(.t 25)] none] [0, 1, 0, 4, 0, 19, 63, 127, 255])
 (.seq (.seq (.reg [.q 26 (.fadr 4) [(.t 6)] none, .q 27 (.ld (.sc .bool)) [(.t 26)] none, .q 28 .not [(.t 27)] none, .q 29 .mv [(.t 28)] none, .q 30 .mv [(.t 7)] (some (29, true)), .q 31 (.cm .neq .i64) [(.t 30), (.c (.int .i64 0))] (some (29, true)), .q 32 .pick [(.t 29), (.t 31), (.c (.bool false))] none])
 (.cond (.t 32) (.seq (.reg [.q 33 (.bld [(.int .i64 0), (.int .i64 0), (.int .i64 0), (.int .i64 0), (.int .i64 0), (.int .i64 0), (.int .i64 0), (.int .i64 0), (.int .i64 0), (.int .i64 0), (.int .i64 0), (.int .i64 0), (.int .i64 0), (.int .i64 0), (.int .i64 0), (.int .i64 0), (.int .i64 0), (.int .i64 0), (.bool false), (.bool false), (.bool false)] []) [] none, .sto (.ag 21) (.t 2) (.t 33), .q 3 .mv [(.c (.int .i64 8))] none])
 .ret) .skip))
 (.seq (.seq (.reg [.q 34 (.fadr 4) [(.t 6)] none, .q 35 (.ld (.sc .bool)) [(.t 34)] none, .q 36 .mv [(.t 35)] none, .q 37 .mv [(.t 7)] (some (36, true)), .q 38 (.fadr 1) [(.t 6)] (some (36, true)), .q 39 (.ld (.sc (.int .i64))) [(.t 38)] (some (36, true)), .q 40 (.ar .add .i64) [(.t 39), (.c (.int .i64 1))] (some (36, true)), .q 41 (.cm .neq .i64) [(.t 37), (.t 40)] (some (36, true)), .q 42 .pick [(.t 36), (.t 41), (.c (.bool false))] none])
 (.cond (.t 42) (.seq (.reg [.q 43 (.bld [(.int .i64 0), (.int .i64 0), (.int .i64 0), (.int .i64 0), (.int .i64 0), (.int .i64 0), (.int .i64 0), (.int .i64 0), (.int .i64 0), (.int .i64 0), (.int .i64 0), (.int .i64 0), (.int .i64 0), (.int .i64 0), (.int .i64 0), (.int .i64 0), (.int .i64 0), (.int .i64 0), (.bool false), (.bool false), (.bool false)] []) [] none, .sto (.ag 21) (.t 2) (.t 43), .q 3 .mv [(.c (.int .i64 7))] none])
 .ret) .skip))
 (.seq (.dreg [.q 44 (.fadr 2) [(.t 6)] none, .q 45 (.ld (.sc (.int .i64))) [(.t 44)] none, .q 46 (.fadr 3) [(.t 6)] none, .q 47 (.ld (.sc (.int .i64))) [(.t 46)] none, .q 48 (.fadr 1) [(.t 6)] none, .q 49 (.ld (.sc (.int .i64))) [(.t 48)] none, .q 50 (.ar .add .i64) [(.t 49), (.c (.int .i64 1))] none, .q 51 (.fadr 0) [(.t 4)] none, .q 52 (.iadrA 3 6) [(.t 51), (.t 45)] none, .q 53 (.iadrA 6 1) [(.t 52), (.t 47)] none, .sto (.sc (.int .i64)) (.t 53) (.t 50)] [0, 1, 0, 4, 0, 16, 48, 0, 131, 511, 1023])
 (.seq (.reg [.q 54 (.fadr 4) [(.t 6)] none, .q 55 (.ld (.sc .bool)) [(.t 54)] none])
 (.cond (.t 55) (.dreg [.q 56 (.fadr 2) [(.t 6)] none, .q 57 (.ld (.sc (.int .i64))) [(.t 56)] none, .q 58 (.fadr 3) [(.t 6)] none, .q 59 (.ld (.sc (.int .i64))) [(.t 58)] none, .q 60 (.fadr 0) [(.t 4)] none, .q 61 (.iadrA 3 6) [(.t 60), (.t 57)] none, .q 62 (.iadrA 6 1) [(.t 61), (.t 59)] none, .sto (.sc (.int .i64)) (.t 62) (.c (.int .i64 0))] [0, 1, 0, 4, 0, 19, 63, 127]) .skip)))))))))
 (.reg [.q 63 (.ar .add .i64) [(.t 10), (.c (.int .i64 1))] none, .q 10 .mv [(.t 63)] none])))))))
 (.seq (.reg [.q 64 (.ld (.ag 21)) [(.t 4)] none, .sto (.ag 21) (.t 2) (.t 64), .q 3 .mv [(.c (.int .i64 0))] none])
 .ret))))

def T_tellsL : TC :=
 (.seq (.reg [.q 0 .mv [(.c (.bool false))] none])
 (.seq (.reg [.pd (some 4) (.call 83) [(.c (.int .i64 0))] none, .q 3 .mv [(.t 4)] none, .q 5 (.ext 0) [(.t 3)] none, .q 6 (.ext 1) [(.t 3)] none, .q 1 .mv [(.t 5)] none, .q 2 .mv [(.t 6)] none])
 (.seq (.reg [.q 7 .mv [(.t 2)] none, .q 8 (.cm .eql .i64) [(.t 7), (.c (.int .i64 0))] none, .q 9 .mv [(.t 8)] none, .q 10 .mv [(.t 1)] (some (9, true)), .q 11 .lenS [(.t 10)] (some (9, true)), .q 12 (.cm .eql .i64) [(.t 11), (.c (.int .i64 48))] (some (9, true)), .q 13 .pick [(.t 9), (.t 12), (.c (.bool false))] none, .q 14 .mv [(.t 13)] none, .q 15 (.bld [(.int .i64 0), (.int .i64 0), (.int .i64 0), (.int .i64 0), (.bool false)] []) [] (some (14, true)), .pd (some 16) (.call 85) [(.t 15)] (some (14, true)), .q 17 (.cm .eql .i64) [(.t 16), (.c (.int .i64 0))] (some (14, true)), .q 18 .pick [(.t 14), (.t 17), (.c (.bool false))] none, .q 0 .mv [(.t 18)] none])
 .ret)))

def T_tellsK : TC :=
 (.seq (.reg [.q 0 .mv [(.c (.bool false))] none])
 (.seq (.reg [.pd (some 4) (.call 83) [(.c (.int .i64 0))] none, .q 3 .mv [(.t 4)] none, .q 5 (.ext 0) [(.t 3)] none, .q 6 (.ext 1) [(.t 3)] none, .q 1 .mv [(.t 5)] none, .q 2 .mv [(.t 6)] none])
 (.seq (.reg [.q 7 .mv [(.t 2)] none, .q 8 (.cm .eql .i64) [(.t 7), (.c (.int .i64 0))] none, .q 9 .mv [(.t 8)] none, .q 10 .mv [(.t 1)] (some (9, true)), .q 11 .lenS [(.t 10)] (some (9, true)), .q 12 (.cm .eql .i64) [(.t 11), (.c (.int .i64 48))] (some (9, true)), .q 13 .pick [(.t 9), (.t 12), (.c (.bool false))] none, .q 14 .mv [(.t 13)] none, .q 15 (.bld [(.int .i64 0), (.int .i64 0), (.int .i64 0), (.int .i64 0), (.bool false)] []) [] (some (14, true)), .pd (some 16) (.call 85) [(.t 15)] (some (14, true)), .q 17 (.cm .eql .i64) [(.t 16), (.c (.int .i64 0))] (some (14, true)), .q 18 .pick [(.t 14), (.t 17), (.c (.bool false))] none, .q 0 .mv [(.t 18)] none])
 .ret)))

def T_Message : TC :=
 (.seq (.reg [.q 4 .mv [(.c (.str []))] none, .q 5 .mv [(.c (.int .i64 0))] none])
 (.seq (.seq (.reg [.q 11 .mv [(.t 1)] none, .q 12 .lenL [(.t 11)] none, .q 13 (.cm .eql .i64) [(.t 12), (.c (.int .i64 0))] none])
 (.cond (.t 13) (.seq (.reg [.q 4 .mv [(.c (.str []))] none, .q 5 .mv [(.c (.int .i64 7))] none])
 .ret) .skip))
 (.seq (.seq (.reg [.q 14 .mv [(.t 1)] none, .q 15 .lenL [(.t 14)] none, .q 16 (.cm .gtr .i64) [(.t 15), (.c (.int .i64 64))] none])
 (.cond (.t 16) (.seq (.reg [.q 4 .mv [(.c (.str []))] none, .q 5 .mv [(.c (.int .i64 6))] none])
 .ret) .skip))
 (.seq (.reg [.q 6 .mv [(.c .nils)] none])
 (.seq (.seq (.reg [.q 17 .mv [(.t 1)] none, .q 18 .lenL [(.t 17)] none, .q 19 .mv [(.c (.int .i64 0))] none])
 (.block 0 (.loop (.seq (.reg [.q 20 (.cm .lss .i64) [(.t 19), (.t 18)] none])
 (.seq (.cond (.t 20) .skip (.exit 0))
 (.seq (.block 1 (.seq (.reg [.q 21 (.iadrS 5) [(.t 17), (.t 19)] none, .q 22 (.ld (.ag 5)) [(.t 21)] none, .al 8 [(.int .i64 0), (.int .i64 0), (.int .i64 0), (.int .i64 0), (.bool false)], .sto (.ag 5) (.t 8) (.t 22)])
 (.seq (.seq (.dreg [.q 23 (.ld (.ag 5)) [(.t 8)] none, .pd (some 24) (.call 85) [(.t 23)] none, .q 25 (.cm .neq .i64) [(.t 24), (.c (.int .i64 0))] none, .q 26 .mv [(.t 25)] none, .q 27 (.fadr 0) [(.t 8)] (some (26, false)), .q 28 (.ld (.sc (.int .i64))) [(.t 27)] (some (26, false)), .q 29 .mv [(.t 1)] (some (26, false)), .q 30 (.iadrS 5) [(.t 29), (.c (.int .i64 0))] (some (26, false)), .q 31 (.fadr 0) [(.t 30)] (some (26, false)), .q 32 (.ld (.sc (.int .i64))) [(.t 31)] (some (26, false)), .q 33 (.cm .neq .i64) [(.t 28), (.t 32)] (some (26, false)), .q 34 .pick [(.t 26), (.c (.bool true)), (.t 33)] none] [0, 1, 3, 7, 15, 31, 15, 79, 207, 463, 1023, 2047])
 (.cond (.t 34) (.seq (.reg [.q 4 .mv [(.c (.str []))] none, .q 5 .mv [(.c (.int .i64 2))] none])
 .ret) .skip))
 (.seq (.reg [.q 35 (.fadr 3) [(.t 8)] none, .q 36 (.ld (.sc (.int .i64))) [(.t 35)] none, .q 37 (.ar .mul .i64) [(.t 36), (.c (.int .i64 8))] none, .q 38 (.ar .add .i64) [(.c (.int .i64 1024)), (.t 37)] none, .q 9 .mv [(.t 38)] none])
 (.seq (.dreg [.q 39 .mv [(.t 6)] none, .q 40 (.fadr 0) [(.t 8)] none, .q 41 (.ld (.sc (.int .i64))) [(.t 40)] none, .pd (some 42) (.call 122) [(.t 39), (.t 41), (.c (.int .i64 8))] none, .q 43 (.fadr 1) [(.t 8)] none, .q 44 (.ld (.sc (.int .i64))) [(.t 43)] none, .q 45 (.ar .add .i64) [(.c (.int .i64 167772161)), (.t 44)] none, .pd (some 46) (.call 122) [(.t 42), (.t 45), (.c (.int .i64 4))] none, .q 47 (.fadr 2) [(.t 8)] none, .q 48 (.ld (.sc (.int .i64))) [(.t 47)] none, .q 49 (.ar .add .i64) [(.c (.int .i64 3405803777)), (.t 48)] none, .pd (some 50) (.call 122) [(.t 46), (.t 49), (.c (.int .i64 4))] none, .q 6 .mv [(.t 50)] none] [0, 0, 2, 7, 0, 16, 48, 127, 0, 256, 768, 2047, 4095])
 (.seq (.reg [.q 51 .mv [(.t 6)] none, .q 52 .mv [(.t 9)] none, .pd (some 53) (.call 122) [(.t 51), (.t 52), (.c (.int .i64 2))] none, .q 54 .mv [(.t 9)] none, .q 55 (.ar .add .i64) [(.t 54), (.c (.int .i64 8))] none, .q 56 (.ar .sub .i64) [(.t 55), (.c (.int .i64 1))] none, .pd (some 57) (.call 122) [(.t 53), (.t 56), (.c (.int .i64 2))] none, .q 6 .mv [(.t 57)] none])
 (.seq (.reg [.q 10 .mv [(.c (.int .i64 1))] none])
 (.seq (.seq (.reg [.q 58 (.fadr 4) [(.t 8)] none, .q 59 (.ld (.sc .bool)) [(.t 58)] none])
 (.cond (.t 59) (.reg [.q 10 .mv [(.c (.int .i64 2))] none]) .skip))
 (.reg [.q 60 .mv [(.t 6)] none, .q 61 .mv [(.t 10)] none, .pd (some 62) (.call 122) [(.t 60), (.t 61), (.c (.int .i64 1))] none, .q 6 .mv [(.t 62)] none])))))))))
 (.reg [.q 63 (.ar .add .i64) [(.t 19), (.c (.int .i64 1))] none, .q 19 .mv [(.t 63)] none])))))))
 (.seq (.reg [.q 64 .mv [(.t 0)] none, .q 65 .mv [(.t 1)] none, .q 66 (.iadrS 5) [(.t 65), (.c (.int .i64 0))] none, .q 67 (.fadr 0) [(.t 66)] none, .q 68 (.ld (.sc (.int .i64))) [(.t 67)] none, .q 69 .mv [(.t 6)] none, .pd (some 70) (.call 123) [(.t 64), (.t 68), (.c (.int .i64 300)), (.t 69)] none, .q 71 (.ext 0) [(.t 70)] none, .q 72 (.ext 1) [(.t 70)] none, .q 4 .mv [(.t 71)] none, .q 5 .mv [(.t 72)] none])
 .ret))))))
theorem ft_Message : FT Tryz.prog 135 Tryz.f135 T_Message [.t 4, .t 5] := ⟨Tryz.func135, by kernel_rfl, by kernel_rfl, by kernel_rfl, by kernel_rfl⟩
def T_MessageR : TC :=
 (.seq (.reg [.q 4 .mv [(.c (.str []))] none, .q 5 .mv [(.c (.int .i64 0))] none])
 (.seq (.seq (.reg [.q 9 .mv [(.t 1)] none, .q 10 .lenL [(.t 9)] none, .q 11 (.cm .eql .i64) [(.t 10), (.c (.int .i64 0))] none])
 (.cond (.t 11) (.seq (.reg [.q 4 .mv [(.c (.str []))] none, .q 5 .mv [(.c (.int .i64 7))] none])
 .ret) .skip))
 (.seq (.seq (.reg [.q 12 .mv [(.t 1)] none, .q 13 .lenL [(.t 12)] none, .q 14 (.cm .gtr .i64) [(.t 13), (.c (.int .i64 64))] none])
 (.cond (.t 14) (.seq (.reg [.q 4 .mv [(.c (.str []))] none, .q 5 .mv [(.c (.int .i64 6))] none])
 .ret) .skip))
 (.seq (.reg [.q 6 .mv [(.c (.str []))] none])
 (.seq (.seq (.reg [.q 15 .mv [(.t 1)] none, .q 16 .lenL [(.t 15)] none, .q 17 .mv [(.c (.int .i64 0))] none])
 (.block 0 (.loop (.seq (.reg [.q 18 (.cm .lss .i64) [(.t 17), (.t 16)] none])
 (.seq (.cond (.t 18) .skip (.exit 0))
 (.seq (.block 1 (.seq (.reg [.q 19 (.iadrS 5) [(.t 15), (.t 17)] none, .q 20 (.ld (.ag 5)) [(.t 19)] none, .al 8 [(.int .i64 0), (.int .i64 0), (.int .i64 0), (.int .i64 0), (.bool false)], .sto (.ag 5) (.t 8) (.t 20)])
 (.seq (.seq (.dreg [.q 21 (.ld (.ag 5)) [(.t 8)] none, .pd (some 22) (.call 174) [(.t 21)] none, .q 23 (.cm .neq .i64) [(.t 22), (.c (.int .i64 0))] none, .q 24 .mv [(.t 23)] none, .q 25 (.fadr 0) [(.t 8)] (some (24, false)), .q 26 (.ld (.sc (.int .i64))) [(.t 25)] (some (24, false)), .q 27 .mv [(.t 1)] (some (24, false)), .q 28 (.iadrS 5) [(.t 27), (.c (.int .i64 0))] (some (24, false)), .q 29 (.fadr 0) [(.t 28)] (some (24, false)), .q 30 (.ld (.sc (.int .i64))) [(.t 29)] (some (24, false)), .q 31 (.cm .neq .i64) [(.t 26), (.t 30)] (some (24, false)), .q 32 .pick [(.t 24), (.c (.bool true)), (.t 31)] none] [0, 1, 3, 7, 15, 31, 15, 79, 207, 463, 1023, 2047])
 (.cond (.t 32) (.seq (.reg [.q 4 .mv [(.c (.str []))] none, .q 5 .mv [(.c (.int .i64 2))] none])
 .ret) .skip))
 (.reg [.q 33 .mv [(.t 6)] none, .q 34 (.ld (.ag 5)) [(.t 8)] none, .pd (some 35) (.call 175) [(.t 34)] none, .q 36 .cat [(.t 33), (.t 35)] none, .q 6 .mv [(.t 36)] none]))))
 (.reg [.q 37 (.ar .add .i64) [(.t 17), (.c (.int .i64 1))] none, .q 17 .mv [(.t 37)] none])))))))
 (.seq (.reg [.q 38 .mv [(.t 0)] none, .q 39 .mv [(.t 1)] none, .q 40 (.iadrS 5) [(.t 39), (.c (.int .i64 0))] none, .q 41 (.fadr 0) [(.t 40)] none, .q 42 (.ld (.sc (.int .i64))) [(.t 41)] none, .q 43 .mv [(.t 6)] none, .pd (some 44) (.call 173) [(.t 38), (.t 42), (.c (.int .i64 300)), (.t 43)] none, .q 45 (.ext 0) [(.t 44)] none, .q 46 (.ext 1) [(.t 44)] none, .q 4 .mv [(.t 45)] none, .q 5 .mv [(.t 46)] none])
 .ret))))))
theorem ft_MessageR : FT Tryz.prog 161 Tryz.f161 T_MessageR [.t 4, .t 5] := ⟨Tryz.func161, by kernel_rfl, by kernel_rfl, by kernel_rfl, by kernel_rfl⟩
def T_Template : TC :=
 (.seq (.reg [.q 2 .mv [(.c (.str []))] none, .q 3 .mv [(.c (.int .i64 0))] none])
 (.seq (.reg [.q 4 .mv [(.c .nils)] none])
 (.seq (.reg [.q 7 .mv [(.t 4)] none, .pd (some 8) (.call 122) [(.t 7), (.c (.int .i64 300)), (.c (.int .i64 2))] none, .pd (some 9) (.call 122) [(.t 8), (.c (.int .i64 6)), (.c (.int .i64 2))] none, .q 4 .mv [(.t 9)] none])
 (.seq (.seq (.reg [.q 10 (.ld (.ag 12)) [(.gl 0)] none, .q 11 .mv [(.c (.int .i64 0))] none])
 (.block 0 (.loop (.seq (.reg [.q 12 (.cm .lss .i64) [(.t 11), (.c (.int .i64 6))] none])
 (.seq (.cond (.t 12) .skip (.exit 0))
 (.seq (.block 1 (.seq (.reg [.q 13 (.ixA 2 6 (.ag 2)) [(.t 10), (.t 11)] none, .al 6 [(.int .i64 0), (.int .i64 0)], .sto (.ag 2) (.t 6) (.t 13)])
 (.dreg [.q 14 .mv [(.t 4)] none, .q 15 (.iadrA 2 1) [(.t 6), (.c (.int .i64 0))] none, .q 16 (.ld (.sc (.int .i64))) [(.t 15)] none, .pd (some 17) (.call 122) [(.t 14), (.t 16), (.c (.int .i64 2))] none, .q 18 (.iadrA 2 1) [(.t 6), (.c (.int .i64 1))] none, .q 19 (.ld (.sc (.int .i64))) [(.t 18)] none, .pd (some 20) (.call 122) [(.t 17), (.t 19), (.c (.int .i64 2))] none, .q 4 .mv [(.t 20)] none] [0, 0, 2, 7, 0, 16, 63, 127])))
 (.reg [.q 21 (.ar .add .i64) [(.t 11), (.c (.int .i64 1))] none, .q 11 .mv [(.t 21)] none])))))))
 (.seq (.reg [.q 22 .mv [(.t 0)] none, .q 23 .mv [(.t 4)] none, .pd (some 24) (.call 123) [(.t 22), (.c (.int .i64 0)), (.c (.int .i64 2)), (.t 23)] none, .q 25 (.ext 0) [(.t 24)] none, .q 26 (.ext 1) [(.t 24)] none, .q 2 .mv [(.t 25)] none, .q 3 .mv [(.t 26)] none])
 .ret)))))
theorem ft_Template : FT Tryz.prog 83 Tryz.f83 T_Template [.t 2, .t 3] := ⟨Tryz.func83, by kernel_rfl, by kernel_rfl, by kernel_rfl, by kernel_rfl⟩
def T_TemplateR : TC :=
 (.seq (.reg [.q 2 .mv [(.c (.str []))] none, .q 3 .mv [(.c (.int .i64 0))] none])
 (.seq (.reg [.pd (some 7) (.call 144) [(.c (.int .i64 300)), (.c (.int .i64 2))] none, .pd (some 8) (.call 144) [(.c (.int .i64 6)), (.c (.int .i64 2))] none, .q 9 .cat [(.t 7), (.t 8)] none, .q 4 .mv [(.t 9)] none])
 (.seq (.seq (.reg [.pd (some 10) (.bsl 1 12 [(.int .i64 0)] [(0, 1), (1, 1), (2, 1), (3, 1), (4, 1), (5, 1), (6, 1), (7, 1), (8, 1), (9, 1), (10, 1), (11, 1)]) [(.c (.int .i64 323)), (.c (.int .i64 8)), (.c (.int .i64 8)), (.c (.int .i64 4)), (.c (.int .i64 225)), (.c (.int .i64 4)), (.c (.int .i64 361)), (.c (.int .i64 2)), (.c (.int .i64 362)), (.c (.int .i64 2)), (.c (.int .i64 230)), (.c (.int .i64 1))] none, .q 11 .lenL [(.t 10)] none, .q 12 .mv [(.c (.int .i64 0))] none])
 (.block 0 (.loop (.seq (.reg [.q 13 (.cm .lss .i64) [(.t 12), (.t 11)] none])
 (.seq (.cond (.t 13) .skip (.exit 0))
 (.seq (.block 1 (.seq (.reg [.q 14 (.iadrS 1) [(.t 10), (.t 12)] none, .q 15 (.ld (.sc (.int .i64))) [(.t 14)] none, .q 6 .mv [(.t 15)] none])
 (.reg [.q 16 .mv [(.t 4)] none, .q 17 .mv [(.t 6)] none, .pd (some 18) (.call 144) [(.t 17), (.c (.int .i64 2))] none, .q 19 .cat [(.t 16), (.t 18)] none, .q 4 .mv [(.t 19)] none])))
 (.reg [.q 20 (.ar .add .i64) [(.t 12), (.c (.int .i64 1))] none, .q 12 .mv [(.t 20)] none])))))))
 (.seq (.reg [.q 21 .mv [(.t 0)] none, .q 22 .mv [(.t 4)] none, .pd (some 23) (.call 173) [(.t 21), (.c (.int .i64 0)), (.c (.int .i64 2)), (.t 22)] none, .q 24 (.ext 0) [(.t 23)] none, .q 25 (.ext 1) [(.t 23)] none, .q 2 .mv [(.t 24)] none, .q 3 .mv [(.t 25)] none])
 .ret))))
theorem ft_TemplateR : FT Tryz.prog 160 Tryz.f160 T_TemplateR [.t 2, .t 3] := ⟨Tryz.func160, by kernel_rfl, by kernel_rfl, by kernel_rfl, by kernel_rfl⟩
def T_recGood : TC :=
 (.seq (.reg [.bx 1 (.t 0), .q 2 .mv [(.c (.int .i64 0))] none])
 (.seq (.seq (.reg [.q 3 (.fadr 0) [(.t 1)] none, .q 4 (.ld (.sc (.int .i64))) [(.t 3)] none, .q 5 (.cm .lss .i64) [(.t 4), (.c (.int .i64 0))] none, .q 6 .mv [(.t 5)] none, .q 7 (.fadr 0) [(.t 1)] (some (6, false)), .q 8 (.ld (.sc (.int .i64))) [(.t 7)] (some (6, false)), .q 9 (.cm .gtr .i64) [(.t 8), (.c (.int .i64 1099511627776))] (some (6, false)), .q 10 .pick [(.t 6), (.c (.bool true)), (.t 9)] none, .q 11 .mv [(.t 10)] none, .q 12 (.fadr 1) [(.t 1)] (some (11, false)), .q 13 (.ld (.sc (.int .i64))) [(.t 12)] (some (11, false)), .q 14 (.cm .lss .i64) [(.t 13), (.c (.int .i64 0))] (some (11, false)), .q 15 .pick [(.t 11), (.c (.bool true)), (.t 14)] none, .q 16 .mv [(.t 15)] none, .q 17 (.fadr 1) [(.t 1)] (some (16, false)), .q 18 (.ld (.sc (.int .i64))) [(.t 17)] (some (16, false)), .q 19 (.cm .geq .i64) [(.t 18), (.c (.int .i64 8))] (some (16, false)), .q 20 .pick [(.t 16), (.c (.bool true)), (.t 19)] none, .q 21 .mv [(.t 20)] none, .q 22 (.fadr 2) [(.t 1)] (some (21, false)), .q 23 (.ld (.sc (.int .i64))) [(.t 22)] (some (21, false)), .q 24 (.cm .lss .i64) [(.t 23), (.c (.int .i64 0))] (some (21, false)), .q 25 .pick [(.t 21), (.c (.bool true)), (.t 24)] none, .q 26 .mv [(.t 25)] none, .q 27 (.fadr 2) [(.t 1)] (some (26, false)), .q 28 (.ld (.sc (.int .i64))) [(.t 27)] (some (26, false)), .q 29 (.cm .geq .i64) [(.t 28), (.c (.int .i64 3))] (some (26, false)), .q 30 .pick [(.t 26), (.c (.bool true)), (.t 29)] none, .q 31 .mv [(.t 30)] none, .q 32 (.fadr 3) [(.t 1)] (some (31, false)), .q 33 (.ld (.sc (.int .i64))) [(.t 32)] (some (31, false)), .q 34 (.cm .lss .i64) [(.t 33), (.c (.int .i64 0))] (some (31, false)), .q 35 .pick [(.t 31), (.c (.bool true)), (.t 34)] none, .q 36 .mv [(.t 35)] none, .q 37 (.fadr 3) [(.t 1)] (some (36, false)), .q 38 (.ld (.sc (.int .i64))) [(.t 37)] (some (36, false)), .q 39 (.cm .geq .i64) [(.t 38), (.c (.int .i64 6))] (some (36, false)), .q 40 .pick [(.t 36), (.c (.bool true)), (.t 39)] none])
 (.cond (.t 40) (.seq (.reg [.q 2 .mv [(.c (.int .i64 2))] none])
 .ret) .skip))
 (.seq (.reg [.q 2 .mv [(.c (.int .i64 0))] none])
 .ret)))
theorem ft_recGood : FT Tryz.prog 85 Tryz.f85 T_recGood [.t 2] := ⟨Tryz.func85, by kernel_rfl, by kernel_rfl, by kernel_rfl, by kernel_rfl⟩
def T_GoodEvent : TC :=
 (.seq (.reg [.bx 1 (.t 0), .q 2 .mv [(.c (.int .i64 0))] none])
 (.seq (.seq (.reg [.q 3 (.fadr 0) [(.t 1)] none, .q 4 (.ld (.sc (.int .i64))) [(.t 3)] none, .q 5 (.cm .lss .i64) [(.t 4), (.c (.int .i64 0))] none, .q 6 .mv [(.t 5)] none, .q 7 (.fadr 0) [(.t 1)] (some (6, false)), .q 8 (.ld (.sc (.int .i64))) [(.t 7)] (some (6, false)), .q 9 (.cm .gtr .i64) [(.t 8), (.c (.int .i64 1099511627776))] (some (6, false)), .q 10 .pick [(.t 6), (.c (.bool true)), (.t 9)] none, .q 11 .mv [(.t 10)] none, .q 12 (.fadr 1) [(.t 1)] (some (11, false)), .q 13 (.ld (.sc (.int .i64))) [(.t 12)] (some (11, false)), .q 14 (.cm .lss .i64) [(.t 13), (.c (.int .i64 0))] (some (11, false)), .q 15 .pick [(.t 11), (.c (.bool true)), (.t 14)] none, .q 16 .mv [(.t 15)] none, .q 17 (.fadr 1) [(.t 1)] (some (16, false)), .q 18 (.ld (.sc (.int .i64))) [(.t 17)] (some (16, false)), .q 19 (.cm .gtr .i64) [(.t 18), (.c (.int .i64 7))] (some (16, false)), .q 20 .pick [(.t 16), (.c (.bool true)), (.t 19)] none, .q 21 .mv [(.t 20)] none, .q 22 (.fadr 2) [(.t 1)] (some (21, false)), .q 23 (.ld (.sc (.int .i64))) [(.t 22)] (some (21, false)), .q 24 (.cm .lss .i64) [(.t 23), (.c (.int .i64 0))] (some (21, false)), .q 25 .pick [(.t 21), (.c (.bool true)), (.t 24)] none, .q 26 .mv [(.t 25)] none, .q 27 (.fadr 2) [(.t 1)] (some (26, false)), .q 28 (.ld (.sc (.int .i64))) [(.t 27)] (some (26, false)), .q 29 (.cm .gtr .i64) [(.t 28), (.c (.int .i64 2))] (some (26, false)), .q 30 .pick [(.t 26), (.c (.bool true)), (.t 29)] none, .q 31 .mv [(.t 30)] none, .q 32 (.fadr 3) [(.t 1)] (some (31, false)), .q 33 (.ld (.sc (.int .i64))) [(.t 32)] (some (31, false)), .q 34 (.cm .lss .i64) [(.t 33), (.c (.int .i64 0))] (some (31, false)), .q 35 .pick [(.t 31), (.c (.bool true)), (.t 34)] none, .q 36 .mv [(.t 35)] none, .q 37 (.fadr 3) [(.t 1)] (some (36, false)), .q 38 (.ld (.sc (.int .i64))) [(.t 37)] (some (36, false)), .q 39 (.cm .gtr .i64) [(.t 38), (.c (.int .i64 5))] (some (36, false)), .q 40 .pick [(.t 36), (.c (.bool true)), (.t 39)] none])
 (.cond (.t 40) (.seq (.reg [.q 2 .mv [(.c (.int .i64 2))] none])
 .ret) .skip))
 (.seq (.reg [.q 2 .mv [(.c (.int .i64 0))] none])
 .ret)))
theorem ft_GoodEvent : FT Tryz.prog 174 Tryz.f174 T_GoodEvent [.t 2] := ⟨Tryz.func174, by kernel_rfl, by kernel_rfl, by kernel_rfl, by kernel_rfl⟩
def T_Read : TC :=
 (.seq (.reg [.q 2 .mv [(.c .nils)] none, .q 3 .mv [(.c (.int .i64 0))] none])
 (.seq (.reg [.q 4 .mv [(.c .nils)] none])
 (.seq (.reg [.q 5 .mv [(.c (.bool false))] none])
 (.seq (.block 0 (.loop (.seq (.seq (.reg [.q 18 .mv [(.t 0)] none, .q 19 (.cS true) [(.t 18), (.c (.str []))] none])
 (.cond (.t 19) .skip (.exit 0)))
 (.block 1 (.seq (.reg [.q 20 .mv [(.t 0)] none, .q 21 (.bld [(.str []), (.bool false)] [(0, 1)]) [(.t 20)] none, .bx 22 (.t 21), .q 6 .mv [(.t 22)] none])
 (.seq (.reg [.q 23 .mv [(.t 6)] none, .pd (some 24) (.call 82) [(.t 23), (.c (.int .i64 2))] none, .q 25 .mv [(.t 6)] none, .pd (some 26) (.call 82) [(.t 25), (.c (.int .i64 2))] none, .q 27 .mv [(.t 6)] none, .pd (some 28) (.call 82) [(.t 27), (.c (.int .i64 4))] none, .q 29 .mv [(.t 6)] none, .pd (some 30) (.call 82) [(.t 29), (.c (.int .i64 4))] none, .q 31 .mv [(.t 6)] none, .pd (some 32) (.call 82) [(.t 31), (.c (.int .i64 4))] none, .q 7 .mv [(.t 24)] none, .q 8 .mv [(.t 26)] none, .q 9 .mv [(.t 28)] none, .q 10 .mv [(.t 30)] none, .q 11 .mv [(.t 32)] none])
 (.seq (.seq (.reg [.q 33 .mv [(.t 6)] none, .q 34 .nilck [(.t 33)] none, .q 35 (.fadr 1) [(.t 34)] none, .q 36 (.ld (.sc .bool)) [(.t 35)] none, .q 37 .mv [(.t 36)] none, .q 38 .mv [(.t 7)] (some (37, false)), .q 39 (.cm .neq .i64) [(.t 38), (.c (.int .i64 10))] (some (37, false)), .q 40 .pick [(.t 37), (.c (.bool true)), (.t 39)] none, .q 41 .mv [(.t 40)] none, .q 42 .mv [(.t 8)] (some (41, false)), .q 43 (.cm .lss .i64) [(.t 42), (.c (.int .i64 20))] (some (41, false)), .q 44 .pick [(.t 41), (.c (.bool true)), (.t 43)] none, .q 45 .mv [(.t 44)] none, .q 46 .mv [(.t 8)] (some (45, false)), .q 47 .mv [(.t 0)] (some (45, false)), .q 48 .lenS [(.t 47)] (some (45, false)), .q 49 (.cm .gtr .i64) [(.t 46), (.t 48)] (some (45, false)), .q 50 .pick [(.t 45), (.c (.bool true)), (.t 49)] none, .q 51 .mv [(.t 50)] none, .q 52 .mv [(.t 11)] (some (51, false)), .q 53 (.cm .neq .i64) [(.t 52), (.c (.int .i64 1))] (some (51, false)), .q 54 .pick [(.t 51), (.c (.bool true)), (.t 53)] none])
 (.cond (.t 54) (.seq (.reg [.q 2 .mv [(.c .nils)] none, .q 3 .mv [(.c (.int .i64 1))] none])
 .ret) .skip))
 (.seq (.reg [.q 55 .mv [(.t 6)] none, .pd (some 56) (.call 82) [(.t 55), (.c (.int .i64 2))] none, .q 57 .mv [(.t 6)] none, .pd (some 58) (.call 82) [(.t 57), (.c (.int .i64 2))] none, .q 12 .mv [(.t 56)] none, .q 13 .mv [(.t 58)] none])
 (.seq (.seq (.reg [.q 59 .mv [(.t 12)] none, .q 60 (.cm .neq .i64) [(.t 59), (.c (.int .i64 2))] none, .q 61 .mv [(.t 60)] none, .q 62 .mv [(.t 12)] (some (61, true)), .q 63 (.cm .neq .i64) [(.t 62), (.c (.int .i64 300))] (some (61, true)), .q 64 .pick [(.t 61), (.t 63), (.c (.bool false))] none, .q 65 .mv [(.t 64)] none, .q 66 .mv [(.t 13)] (some (65, false)), .q 67 .mv [(.t 8)] (some (65, false)), .q 68 (.ar .sub .i64) [(.t 67), (.c (.int .i64 16))] (some (65, false)), .q 69 (.cm .neq .i64) [(.t 66), (.t 68)] (some (65, false)), .q 70 .pick [(.t 65), (.c (.bool true)), (.t 69)] none])
 (.cond (.t 70) (.seq (.reg [.q 2 .mv [(.c .nils)] none, .q 3 .mv [(.c (.int .i64 1))] none])
 .ret) .skip))
 (.seq (.seq (.reg [.q 71 .mv [(.t 10)] none, .q 72 .mv [(.t 4)] none, .q 73 .lenL [(.t 72)] none, .q 74 (.cm .neq .i64) [(.t 71), (.t 73)] none])
 (.cond (.t 74) (.seq (.reg [.q 2 .mv [(.c .nils)] none, .q 3 .mv [(.c (.int .i64 3))] none])
 .ret) .skip))
 (.seq (.seq (.reg [.q 75 .mv [(.t 12)] none, .q 76 (.cm .eql .i64) [(.t 75), (.c (.int .i64 2))] none])
 (.cond (.t 76) (.seq (.seq (.reg [.q 78 .mv [(.t 10)] none, .pd (some 79) (.call 83) [(.t 78)] none, .q 77 .mv [(.t 79)] none, .q 80 (.ext 0) [(.t 77)] none, .q 81 (.ext 1) [(.t 77)] none, .q 14 .mv [(.t 80)] none, .q 15 .mv [(.t 81)] none])
 (.seq (.reg [.q 82 .mv [(.t 14)] none, .q 83 .mv [(.t 0)] none, .q 84 .mv [(.t 8)] none, .q 85 (.slS false true) [(.t 83), (.t 84)] none, .q 86 (.cS true) [(.t 82), (.t 85)] none])
 (.cond (.t 86) (.seq (.reg [.q 2 .mv [(.c .nils)] none, .q 3 .mv [(.c (.int .i64 4))] none])
 .ret) .skip)))
 (.seq (.dreg [.q 87 .mv [(.t 0)] none, .q 88 .mv [(.t 8)] none, .q 89 (.slS true false) [(.t 87), (.t 88)] none, .q 5 .mv [(.c (.bool true))] none, .q 0 .mv [(.t 89)] none] [0, 0, 3, 0, 15])
 (.exit 1))) .skip))
 (.seq (.seq (.reg [.q 90 .mv [(.t 5)] none, .q 91 .not [(.t 90)] none])
 (.cond (.t 91) (.seq (.reg [.q 2 .mv [(.c .nils)] none, .q 3 .mv [(.c (.int .i64 7))] none])
 .ret) .skip))
 (.seq (.seq (.reg [.q 92 .mv [(.t 8)] none, .q 93 (.ar .sub .i64) [(.t 92), (.c (.int .i64 20))] none, .q 94 (.dv .rem .i64) [(.t 93), (.c (.int .i64 21))] none, .q 95 (.cm .neq .i64) [(.t 94), (.c (.int .i64 0))] none, .q 96 .mv [(.t 95)] none, .q 97 .mv [(.t 8)] (some (96, false)), .q 98 (.cm .eql .i64) [(.t 97), (.c (.int .i64 20))] (some (96, false)), .q 99 .pick [(.t 96), (.c (.bool true)), (.t 98)] none])
 (.cond (.t 99) (.seq (.reg [.q 2 .mv [(.c .nils)] none, .q 3 .mv [(.c (.int .i64 1))] none])
 .ret) .skip))
 (.seq (.seq (.reg [.q 100 .mv [(.t 6)] none, .q 101 .mv [(.t 0)] none, .q 102 .mv [(.t 8)] none, .q 103 (.slS true true) [(.t 101), (.c (.int .i64 20)), (.t 102)] none, .q 104 .nilck [(.t 100)] none, .q 105 (.fadr 0) [(.t 104)] none, .sto (.sc .str) (.t 105) (.t 103)])
 (.block 2 (.loop (.seq (.seq (.reg [.q 106 .mv [(.t 6)] none, .q 107 .nilck [(.t 106)] none, .q 108 (.fadr 0) [(.t 107)] none, .q 109 (.ld (.sc .str)) [(.t 108)] none, .q 110 (.cS true) [(.t 109), (.c (.str []))] none])
 (.cond (.t 110) .skip (.exit 2)))
 (.block 3 (.seq (.reg [.q 112 .mv [(.t 6)] none, .pd (some 113) (.call 84) [(.t 112)] none, .q 111 .mv [(.t 113)] none, .q 114 (.ext 0) [(.t 111)] none, .q 115 (.ext 1) [(.t 111)] none, .al 16 [(.int .i64 0), (.int .i64 0), (.int .i64 0), (.int .i64 0), (.bool false)], .sto (.ag 5) (.t 16) (.t 114), .q 17 .mv [(.t 115)] none])
 (.seq (.seq (.reg [.q 116 .mv [(.t 17)] none, .q 117 (.cm .neq .i64) [(.t 116), (.c (.int .i64 0))] none])
 (.cond (.t 117) (.seq (.reg [.q 118 .mv [(.t 17)] none, .q 2 .mv [(.c .nils)] none, .q 3 .mv [(.t 118)] none])
 .ret) .skip))
 (.seq (.seq (.dreg [.q 119 (.fadr 0) [(.t 16)] none, .q 120 (.ld (.sc (.int .i64))) [(.t 119)] none, .q 121 (.dv .rem .i64) [(.t 120), (.c (.int .i64 4294967296))] none, .q 122 .mv [(.t 9)] none, .q 123 (.cm .neq .i64) [(.t 121), (.t 122)] none, .q 124 .mv [(.t 123)] none, .q 125 .mv [(.t 4)] (some (124, false)), .q 126 .lenL [(.t 125)] (some (124, false)), .q 127 (.cm .gtr .i64) [(.t 126), (.c (.int .i64 0))] (some (124, false)), .q 128 .mv [(.t 127)] (some (124, false)), .q 129 (.fadr 0) [(.t 16)] (some (128, true)), .q 130 (.ld (.sc (.int .i64))) [(.t 129)] (some (128, true)), .q 131 .mv [(.t 4)] (some (128, true)), .q 132 .mv [(.t 4)] (some (128, true)), .q 133 .lenL [(.t 132)] (some (128, true)), .q 134 (.ar .sub .i64) [(.t 133), (.c (.int .i64 1))] (some (128, true)), .q 135 (.iadrS 5) [(.t 131), (.t 134)] (some (128, true)), .q 136 (.fadr 0) [(.t 135)] (some (128, true)), .q 137 (.ld (.sc (.int .i64))) [(.t 136)] (some (128, true)), .q 138 (.cm .lss .i64) [(.t 130), (.t 137)] (some (128, true)), .q 139 .pick [(.t 128), (.t 138), (.c (.bool false))] (some (124, false)), .q 140 .pick [(.t 124), (.c (.bool true)), (.t 139)] none] [0, 1, 3, 0, 15, 31, 63, 127, 255, 511, 1023, 2047, 1023, 1023, 9215, 25599, 62463, 127999, 259071, 524287, 1048575, 2097151])
 (.cond (.t 140) (.seq (.reg [.q 2 .mv [(.c .nils)] none, .q 3 .mv [(.c (.int .i64 2))] none])
 .ret) .skip))
 (.reg [.q 141 .mv [(.t 4)] none, .q 142 (.ld (.ag 5)) [(.t 16)] none, .pd (some 143) (.bsl 5 1 [(.int .i64 0), (.int .i64 0), (.int .i64 0), (.int .i64 0), (.bool false)] [(0, 5)]) [(.t 142)] none, .pd (some 144) (.app 5 40 false) [(.t 141), (.t 143)] none, .q 4 .mv [(.t 144)] none])))))))))
 (.reg [.q 145 .mv [(.t 0)] none, .q 146 .mv [(.t 8)] none, .q 147 (.slS true false) [(.t 145), (.t 146)] none, .q 0 .mv [(.t 147)] none])))))))))))))))
 (.seq (.reg [.q 148 .mv [(.t 4)] none, .q 2 .mv [(.t 148)] none, .q 3 .mv [(.c (.int .i64 0))] none])
 .ret)))))
theorem ft_Read : FT Tryz.prog 54 Tryz.f54 T_Read [.t 2, .t 3] := ⟨Tryz.func54, by kernel_rfl, by kernel_rfl, by kernel_rfl, by kernel_rfl⟩












































def T_kpick : TC :=
 (.seq (.reg [.q 4 .mv [(.c (.int .i64 0))] none])
 (.seq (.reg [.q 5 .mv [(.t 0)] none, .q 6 .mv [(.t 1)] none, .q 7 (.dv .rem .i64) [(.t 5), (.t 6)] none, .q 0 .mv [(.t 7)] none])
 (.seq (.seq (.reg [.q 8 .mv [(.t 0)] none, .q 9 (.cm .lss .i64) [(.t 8), (.c (.int .i64 0))] none])
 (.cond (.t 9) (.reg [.q 10 .mv [(.t 0)] none, .q 11 .mv [(.t 1)] none, .q 12 (.ar .add .i64) [(.t 10), (.t 11)] none, .q 0 .mv [(.t 12)] none]) .skip))
 (.seq (.reg [.q 13 .mv [(.t 0)] none, .q 4 .mv [(.t 13)] none])
 .ret))))

def T_put : TC :=
 (.seq (.reg [.q 6 .mv [(.c .nils)] none])
 (.seq (.seq (.reg [.q 8 .mv [(.t 2)] none, .q 9 (.ar .sub .i64) [(.t 8), (.c (.int .i64 1))] none, .q 7 .mv [(.t 9)] none])
 (.block 0 (.loop (.seq (.seq (.reg [.q 10 .mv [(.t 7)] none, .q 11 (.cm .geq .i64) [(.t 10), (.c (.int .i64 0))] none])
 (.cond (.t 11) .skip (.exit 0)))
 (.seq (.block 1 (.reg [.q 14 .mv [(.t 0)] none, .q 15 .mv [(.t 1)] none, .q 16 .mv [(.t 7)] none, .q 17 (.ar .mul .i64) [(.c (.int .i64 8)), (.t 16)] none, .q 18 (.cv .u64) [(.t 17)] none, .q 19 (.sh .shr .i64) [(.t 15), (.t 18)] none, .q 20 (.cv .u8) [(.t 19)] none, .pd (some 21) (.bsl 1 1 [(.int .u8 0)] [(0, 1)]) [(.t 20)] none, .pd (some 22) (.app 1 1 false) [(.t 14), (.t 21)] none, .q 0 .mv [(.t 22)] none]))
 (.reg [.q 12 .mv [(.t 7)] none, .q 13 (.ar .sub .i64) [(.t 12), (.c (.int .i64 1))] none, .q 7 .mv [(.t 13)] none]))))))
 (.seq (.reg [.q 23 .mv [(.t 0)] none, .q 6 .mv [(.t 23)] none])
 .ret)))
theorem ft_put : FT Tryz.prog 122 Tryz.f122 T_put [.t 6] := ⟨Tryz.func122, by kernel_rfl, by kernel_rfl, by kernel_rfl, by kernel_rfl⟩
def T_message : TC :=
 (.seq (.reg [.q 8 .mv [(.c (.str []))] none, .q 9 .mv [(.c (.int .i64 0))] none])
 (.seq (.seq (.reg [.q 11 .mv [(.t 0)] none, .q 12 (.cm .lss .i64) [(.t 11), (.c (.int .i64 0))] none, .q 13 .mv [(.t 12)] none, .q 14 .mv [(.t 0)] (some (13, false)), .q 15 (.cm .geq .i64) [(.t 14), (.c (.int .i64 4294967296))] (some (13, false)), .q 16 .pick [(.t 13), (.c (.bool true)), (.t 15)] none])
 (.cond (.t 16) (.seq (.reg [.q 8 .mv [(.c (.str []))] none, .q 9 .mv [(.c (.int .i64 2))] none])
 .ret) .skip))
 (.seq (.reg [.pd (some 17) (.call 122) [(.c .nils), (.c (.int .i64 10)), (.c (.int .i64 2))] none, .q 18 .mv [(.t 3)] none, .q 19 .lenL [(.t 18)] none, .q 20 (.ar .add .i64) [(.c (.int .i64 20)), (.t 19)] none, .pd (some 21) (.call 122) [(.t 17), (.t 20), (.c (.int .i64 2))] none, .q 22 .mv [(.t 1)] none, .q 23 (.dv .rem .i64) [(.t 22), (.c (.int .i64 4294967296))] none, .pd (some 24) (.call 122) [(.t 21), (.t 23), (.c (.int .i64 4))] none, .q 25 .mv [(.t 0)] none, .pd (some 26) (.call 122) [(.t 24), (.t 25), (.c (.int .i64 4))] none, .pd (some 27) (.call 122) [(.t 26), (.c (.int .i64 1)), (.c (.int .i64 4))] none, .q 10 .mv [(.t 27)] none])
 (.seq (.reg [.q 28 .mv [(.t 10)] none, .q 29 .mv [(.t 2)] none, .pd (some 30) (.call 122) [(.t 28), (.t 29), (.c (.int .i64 2))] none, .q 31 .mv [(.t 3)] none, .q 32 .lenL [(.t 31)] none, .q 33 (.ar .add .i64) [(.c (.int .i64 4)), (.t 32)] none, .pd (some 34) (.call 122) [(.t 30), (.t 33), (.c (.int .i64 2))] none, .q 10 .mv [(.t 34)] none])
 (.seq (.reg [.q 35 .mv [(.t 10)] none, .q 36 .mv [(.t 3)] none, .pd (some 37) (.app 1 1 false) [(.t 35), (.t 36)] none, .q 38 .b2s [(.t 37)] none, .q 8 .mv [(.t 38)] none, .q 9 .mv [(.c (.int .i64 0))] none])
 .ret)))))
theorem ft_message : FT Tryz.prog 123 Tryz.f123 T_message [.t 8, .t 9] := ⟨Tryz.func123, by kernel_rfl, by kernel_rfl, by kernel_rfl, by kernel_rfl⟩
def T_eventText : TC :=
 (.seq (.reg [.bx 1 (.t 0), .q 2 .mv [(.c (.str []))] none])
 (.seq (.reg [.q 3 .mv [(.c (.int .i64 1))] none])
 (.seq (.seq (.reg [.q 4 (.fadr 4) [(.t 1)] none, .q 5 (.ld (.sc .bool)) [(.t 4)] none])
 (.cond (.t 5) (.reg [.q 3 .mv [(.c (.int .i64 2))] none]) .skip))
 (.seq (.dreg [.q 6 (.fadr 0) [(.t 1)] none, .q 7 (.ld (.sc (.int .i64))) [(.t 6)] none, .pd (some 8) (.call 144) [(.t 7), (.c (.int .i64 8))] none, .q 9 (.fadr 1) [(.t 1)] none, .q 10 (.ld (.sc (.int .i64))) [(.t 9)] none, .q 11 (.ar .add .i64) [(.c (.int .i64 167772161)), (.t 10)] none, .pd (some 12) (.call 144) [(.t 11), (.c (.int .i64 4))] none, .q 13 .cat [(.t 8), (.t 12)] none, .q 14 (.fadr 2) [(.t 1)] none, .q 15 (.ld (.sc (.int .i64))) [(.t 14)] none, .q 16 (.ar .add .i64) [(.c (.int .i64 3405803777)), (.t 15)] none, .pd (some 17) (.call 144) [(.t 16), (.c (.int .i64 4))] none, .q 18 .cat [(.t 13), (.t 17)] none, .q 19 (.fadr 3) [(.t 1)] none, .q 20 (.ld (.sc (.int .i64))) [(.t 19)] none, .q 21 (.ar .mul .i64) [(.c (.int .i64 8)), (.t 20)] none, .q 22 (.ar .add .i64) [(.c (.int .i64 1024)), (.t 21)] none, .pd (some 23) (.call 144) [(.t 22), (.c (.int .i64 2))] none, .q 24 .cat [(.t 18), (.t 23)] none, .q 25 (.fadr 3) [(.t 1)] none, .q 26 (.ld (.sc (.int .i64))) [(.t 25)] none, .q 27 (.ar .mul .i64) [(.c (.int .i64 8)), (.t 26)] none, .q 28 (.ar .add .i64) [(.c (.int .i64 1031)), (.t 27)] none, .pd (some 29) (.call 144) [(.t 28), (.c (.int .i64 2))] none, .q 30 .cat [(.t 24), (.t 29)] none, .q 31 .mv [(.t 3)] none, .pd (some 32) (.call 144) [(.t 31), (.c (.int .i64 1))] none, .q 33 .cat [(.t 30), (.t 32)] none, .q 2 .mv [(.t 33)] none] [0, 1, 3, 0, 8, 24, 63, 127, 0, 256, 768, 1919, 4095, 0, 8192, 24576, 57344, 126847, 262143, 0, 524288, 1572864, 3670016, 8122239, 16777215, 0, 50065279, 134217727, 268435455])
 .ret))))
theorem ft_eventText : FT Tryz.prog 175 Tryz.f175 T_eventText [.t 2] := ⟨Tryz.func175, by kernel_rfl, by kernel_rfl, by kernel_rfl, by kernel_rfl⟩
def T_messageR : TC :=
 (.seq (.reg [.q 8 .mv [(.c (.str []))] none, .q 9 .mv [(.c (.int .i64 0))] none])
 (.seq (.seq (.reg [.q 10 .mv [(.t 0)] none, .q 11 (.cm .lss .i64) [(.t 10), (.c (.int .i64 0))] none, .q 12 .mv [(.t 11)] none, .q 13 .mv [(.t 0)] (some (12, false)), .q 14 (.cm .gtr .i64) [(.t 13), (.c (.int .i64 4294967295))] (some (12, false)), .q 15 .pick [(.t 12), (.c (.bool true)), (.t 14)] none])
 (.cond (.t 15) (.seq (.reg [.q 8 .mv [(.c (.str []))] none, .q 9 .mv [(.c (.int .i64 2))] none])
 .ret) .skip))
 (.seq (.reg [.q 16 .mv [(.t 3)] none, .q 17 .lenS [(.t 16)] none, .q 18 (.ar .add .i64) [(.c (.int .i64 20)), (.t 17)] none, .pd (some 19) (.call 144) [(.t 18), (.c (.int .i64 2))] none, .q 20 .cat [(.c (.str [0, 10])), (.t 19)] none, .q 21 .mv [(.t 1)] none, .q 22 (.dv .rem .i64) [(.t 21), (.c (.int .i64 4294967296))] none, .pd (some 23) (.call 144) [(.t 22), (.c (.int .i64 4))] none, .q 24 .cat [(.t 20), (.t 23)] none, .q 25 .mv [(.t 0)] none, .pd (some 26) (.call 144) [(.t 25), (.c (.int .i64 4))] none, .q 27 .cat [(.t 24), (.t 26)] none, .q 28 .cat [(.t 27), (.c (.str [0, 0, 0, 1]))] none, .q 29 .mv [(.t 2)] none, .pd (some 30) (.call 144) [(.t 29), (.c (.int .i64 2))] none, .q 31 .cat [(.t 28), (.t 30)] none, .q 32 .mv [(.t 3)] none, .q 33 .lenS [(.t 32)] none, .q 34 (.ar .add .i64) [(.c (.int .i64 4)), (.t 33)] none, .pd (some 35) (.call 144) [(.t 34), (.c (.int .i64 2))] none, .q 36 .cat [(.t 31), (.t 35)] none, .q 37 .mv [(.t 3)] none, .q 38 .cat [(.t 36), (.t 37)] none, .q 8 .mv [(.t 38)] none, .q 9 .mv [(.c (.int .i64 0))] none])
 .ret)))
theorem ft_messageR : FT Tryz.prog 173 Tryz.f173 T_messageR [.t 8, .t 9] := ⟨Tryz.func173, by kernel_rfl, by kernel_rfl, by kernel_rfl, by kernel_rfl⟩
def T_bytesOf : TC :=
 (.seq (.reg [.q 4 .mv [(.c (.str []))] none])
 (.seq (.reg [.q 5 .mv [(.c (.str []))] none])
 (.seq (.block 0 (.loop (.seq (.seq (.reg [.q 6 .mv [(.t 1)] none, .q 7 (.cm .gtr .i64) [(.t 6), (.c (.int .i64 0))] none])
 (.cond (.t 7) .skip (.exit 0)))
 (.seq (.block 1 (.seq (.reg [.q 10 .mv [(.t 0)] none, .q 11 (.dv .rem .i64) [(.t 10), (.c (.int .i64 256))] none, .q 12 (.cv .u8) [(.t 11)] none, .pd (some 13) (.bsl 1 1 [(.int .u8 0)] [(0, 1)]) [(.t 12)] none, .q 14 .b2s [(.t 13)] none, .q 15 .mv [(.t 5)] none, .q 16 .cat [(.t 14), (.t 15)] none, .q 5 .mv [(.t 16)] none])
 (.reg [.q 17 .mv [(.t 0)] none, .q 18 (.dv .quo .i64) [(.t 17), (.c (.int .i64 256))] none, .q 0 .mv [(.t 18)] none])))
 (.reg [.q 8 .mv [(.t 1)] none, .q 9 (.ar .sub .i64) [(.t 8), (.c (.int .i64 1))] none, .q 1 .mv [(.t 9)] none])))))
 (.seq (.reg [.q 19 .mv [(.t 5)] none, .q 4 .mv [(.t 19)] none])
 .ret))))
theorem ft_bytesOf : FT Tryz.prog 144 Tryz.f144 T_bytesOf [.t 4] := ⟨Tryz.func144, by kernel_rfl, by kernel_rfl, by kernel_rfl, by kernel_rfl⟩
def T_number : TC :=
 (.seq (.reg [.q 4 .mv [(.c (.int .i64 0))] none])
 (.seq (.seq (.reg [.q 8 .mv [(.t 1)] none, .q 9 .mv [(.t 0)] none, .q 10 .nilck [(.t 9)] none, .q 11 (.fadr 0) [(.t 10)] none, .q 12 (.ld (.sc .str)) [(.t 11)] none, .q 13 .lenS [(.t 12)] none, .q 14 (.cm .gtr .i64) [(.t 8), (.t 13)] none])
 (.cond (.t 14) (.seq (.reg [.q 15 .mv [(.t 0)] none, .q 16 .nilck [(.t 15)] none, .q 17 (.fadr 1) [(.t 16)] none, .sto (.sc .bool) (.t 17) (.c (.bool true))])
 (.seq (.reg [.q 18 .mv [(.t 0)] none, .q 19 .nilck [(.t 18)] none, .q 20 (.fadr 0) [(.t 19)] none, .sto (.sc .str) (.t 20) (.c (.str []))])
 (.seq (.reg [.q 4 .mv [(.c (.int .i64 0))] none])
 .ret))) .skip))
 (.seq (.reg [.q 5 .mv [(.c (.int .i64 0))] none])
 (.seq (.seq (.reg [.q 21 .mv [(.t 0)] none, .q 22 .nilck [(.t 21)] none, .q 23 (.fadr 0) [(.t 22)] none, .q 24 (.ld (.sc .str)) [(.t 23)] none, .q 25 .mv [(.t 1)] none, .q 26 (.slS false true) [(.t 24), (.t 25)] none, .pd (some 27) .s2b [(.t 26)] none, .q 28 .lenL [(.t 27)] none, .q 29 .mv [(.c (.int .i64 0))] none])
 (.block 0 (.loop (.seq (.reg [.q 30 (.cm .lss .i64) [(.t 29), (.t 28)] none])
 (.seq (.cond (.t 30) .skip (.exit 0))
 (.seq (.block 1 (.seq (.reg [.q 31 (.iadrS 1) [(.t 27), (.t 29)] none, .q 32 (.ld (.sc (.int .u8))) [(.t 31)] none, .q 7 .mv [(.t 32)] none])
 (.reg [.q 33 .mv [(.t 5)] none, .q 34 (.sh .shl .i64) [(.t 33), (.c (.int .u64 8))] none, .q 35 .mv [(.t 7)] none, .q 36 (.cv .i64) [(.t 35)] none, .q 37 (.bt .or .i64) [(.t 34), (.t 36)] none, .q 5 .mv [(.t 37)] none])))
 (.reg [.q 38 (.ar .add .i64) [(.t 29), (.c (.int .i64 1))] none, .q 29 .mv [(.t 38)] none])))))))
 (.seq (.reg [.q 39 .mv [(.t 0)] none, .q 40 .mv [(.t 0)] none, .q 41 .nilck [(.t 40)] none, .q 42 (.fadr 0) [(.t 41)] none, .q 43 (.ld (.sc .str)) [(.t 42)] none, .q 44 .mv [(.t 1)] none, .q 45 (.slS true false) [(.t 43), (.t 44)] none, .q 46 .nilck [(.t 39)] none, .q 47 (.fadr 0) [(.t 46)] none, .sto (.sc .str) (.t 47) (.t 45)])
 (.seq (.reg [.q 48 .mv [(.t 5)] none, .q 4 .mv [(.t 48)] none])
 .ret))))))
theorem ft_number : FT Tryz.prog 82 Tryz.f82 T_number [.t 4] := ⟨Tryz.func82, by kernel_rfl, by kernel_rfl, by kernel_rfl, by kernel_rfl⟩
def T_event : TC :=
 (.seq (.reg [.al 2 [(.int .i64 0), (.int .i64 0), (.int .i64 0), (.int .i64 0), (.bool false)], .q 3 .mv [(.c (.int .i64 0))] none])
 (.seq (.reg [.q 12 .mv [(.t 0)] none, .pd (some 13) (.call 82) [(.t 12), (.c (.int .i64 8))] none, .q 14 .mv [(.t 0)] none, .pd (some 15) (.call 82) [(.t 14), (.c (.int .i64 4))] none, .q 16 .mv [(.t 0)] none, .pd (some 17) (.call 82) [(.t 16), (.c (.int .i64 4))] none, .q 18 .mv [(.t 0)] none, .pd (some 19) (.call 82) [(.t 18), (.c (.int .i64 2))] none, .q 20 .mv [(.t 0)] none, .pd (some 21) (.call 82) [(.t 20), (.c (.int .i64 2))] none, .q 22 .mv [(.t 0)] none, .pd (some 23) (.call 82) [(.t 22), (.c (.int .i64 1))] none, .q 4 .mv [(.t 13)] none, .q 5 .mv [(.t 15)] none, .q 6 .mv [(.t 17)] none, .q 7 .mv [(.t 19)] none, .q 8 .mv [(.t 21)] none, .q 9 .mv [(.t 23)] none])
 (.seq (.reg [.q 24 .mv [(.t 7)] none, .q 25 (.ar .sub .i64) [(.t 24), (.c (.int .i64 1024))] none, .q 10 .mv [(.t 25)] none])
 (.seq (.reg [.q 26 .mv [(.t 4)] none, .q 27 .mv [(.t 5)] none, .q 28 (.ar .sub .i64) [(.t 27), (.c (.int .i64 167772160))] none, .q 29 (.ar .sub .i64) [(.t 28), (.c (.int .i64 1))] none, .q 30 .mv [(.t 6)] none, .q 31 (.ar .sub .i64) [(.t 30), (.c (.int .i64 3405803776))] none, .q 32 (.ar .sub .i64) [(.t 31), (.c (.int .i64 1))] none, .q 33 .mv [(.t 10)] none, .q 34 (.dv .quo .i64) [(.t 33), (.c (.int .i64 8))] none, .q 35 .mv [(.t 9)] none, .q 36 (.cm .eql .i64) [(.t 35), (.c (.int .i64 2))] none, .q 37 (.bld [(.int .i64 0), (.int .i64 0), (.int .i64 0), (.int .i64 0), (.bool false)] [(0, 1), (1, 1), (2, 1), (3, 1), (4, 1)]) [(.t 26), (.t 29), (.t 32), (.t 34), (.t 36)] none, .al 11 [(.int .i64 0), (.int .i64 0), (.int .i64 0), (.int .i64 0), (.bool false)], .sto (.ag 5) (.t 11) (.t 37)])
 (.seq (.seq (.reg [.q 38 .mv [(.t 9)] none, .q 39 (.cm .lss .i64) [(.t 38), (.c (.int .i64 1))] none, .q 40 .mv [(.t 39)] none, .q 41 .mv [(.t 9)] (some (40, false)), .q 42 (.cm .gtr .i64) [(.t 41), (.c (.int .i64 2))] (some (40, false)), .q 43 .pick [(.t 40), (.c (.bool true)), (.t 42)] none, .q 44 .mv [(.t 43)] none, .q 45 .mv [(.t 10)] (some (44, false)), .q 46 (.cm .lss .i64) [(.t 45), (.c (.int .i64 0))] (some (44, false)), .q 47 .pick [(.t 44), (.c (.bool true)), (.t 46)] none, .q 48 .mv [(.t 47)] none, .q 49 .mv [(.t 10)] (some (48, false)), .q 50 (.dv .rem .i64) [(.t 49), (.c (.int .i64 8))] (some (48, false)), .q 51 (.cm .neq .i64) [(.t 50), (.c (.int .i64 0))] (some (48, false)), .q 52 .pick [(.t 48), (.c (.bool true)), (.t 51)] none, .q 53 .mv [(.t 52)] none, .q 54 .mv [(.t 8)] (some (53, false)), .q 55 .mv [(.t 7)] (some (53, false)), .q 56 (.ar .add .i64) [(.t 55), (.c (.int .i64 8))] (some (53, false)), .q 57 (.ar .sub .i64) [(.t 56), (.c (.int .i64 1))] (some (53, false)), .q 58 (.cm .neq .i64) [(.t 54), (.t 57)] (some (53, false)), .q 59 .pick [(.t 53), (.c (.bool true)), (.t 58)] none, .q 60 .mv [(.t 59)] none, .q 61 (.ld (.ag 5)) [(.t 11)] (some (60, false)), .pd (some 62) (.call 85) [(.t 61)] (some (60, false)), .q 63 (.cm .neq .i64) [(.t 62), (.c (.int .i64 0))] (some (60, false)), .q 64 .pick [(.t 60), (.c (.bool true)), (.t 63)] none])
 (.cond (.t 64) (.seq (.reg [.q 65 (.bld [(.int .i64 0), (.int .i64 0), (.int .i64 0), (.int .i64 0), (.bool false)] []) [] none, .sto (.ag 5) (.t 2) (.t 65), .q 3 .mv [(.c (.int .i64 2))] none])
 .ret) .skip))
 (.seq (.reg [.q 66 (.ld (.ag 5)) [(.t 11)] none, .sto (.ag 5) (.t 2) (.t 66), .q 3 .mv [(.c (.int .i64 0))] none])
 .ret))))))
theorem ft_event : FT Tryz.prog 84 Tryz.f84 T_event [.cell 2 (.ag 5), .t 3] := ⟨Tryz.func84, by kernel_rfl, by kernel_rfl, by kernel_rfl, by kernel_rfl⟩
def T_numberOf : TC :=
 (.seq (.reg [.q 2 .mv [(.c (.int .i64 0))] none])
 (.seq (.reg [.q 3 .mv [(.c (.int .i64 0))] none])
 (.seq (.seq (.reg [.q 6 .mv [(.t 0)] none, .pd (some 7) .s2b [(.t 6)] none, .q 8 .lenL [(.t 7)] none, .q 9 .mv [(.c (.int .i64 0))] none])
 (.block 0 (.loop (.seq (.reg [.q 10 (.cm .lss .i64) [(.t 9), (.t 8)] none])
 (.seq (.cond (.t 10) .skip (.exit 0))
 (.seq (.block 1 (.seq (.reg [.q 11 (.iadrS 1) [(.t 7), (.t 9)] none, .q 12 (.ld (.sc (.int .u8))) [(.t 11)] none, .q 5 .mv [(.t 12)] none])
 (.reg [.q 13 .mv [(.t 3)] none, .q 14 (.ar .mul .i64) [(.c (.int .i64 256)), (.t 13)] none, .q 15 .mv [(.t 5)] none, .q 16 (.cv .i64) [(.t 15)] none, .q 17 (.ar .add .i64) [(.t 14), (.t 16)] none, .q 3 .mv [(.t 17)] none])))
 (.reg [.q 18 (.ar .add .i64) [(.t 9), (.c (.int .i64 1))] none, .q 9 .mv [(.t 18)] none])))))))
 (.seq (.reg [.q 19 .mv [(.t 3)] none, .q 2 .mv [(.t 19)] none])
 .ret))))
theorem ft_numberOf : FT Tryz.prog 146 Tryz.f146 T_numberOf [.t 2] := ⟨Tryz.func146, by kernel_rfl, by kernel_rfl, by kernel_rfl, by kernel_rfl⟩
def T_readEvent : TC :=
 (.seq (.reg [.al 2 [(.int .i64 0), (.int .i64 0), (.int .i64 0), (.int .i64 0), (.bool false)], .q 3 .mv [(.c (.bool false))] none])
 (.seq (.reg [.q 7 .mv [(.t 0)] none, .q 8 (.slS false true) [(.t 7), (.c (.int .i64 8))] none, .pd (some 9) (.call 146) [(.t 8)] none, .q 4 .mv [(.t 9)] none])
 (.seq (.seq (.reg [.q 10 .mv [(.t 4)] none, .q 11 (.cm .lss .i64) [(.t 10), (.c (.int .i64 0))] none, .q 12 .mv [(.t 11)] none, .q 13 .mv [(.t 4)] (some (12, false)), .q 14 (.cm .gtr .i64) [(.t 13), (.c (.int .i64 1099511627776))] (some (12, false)), .q 15 .pick [(.t 12), (.c (.bool true)), (.t 14)] none])
 (.cond (.t 15) (.seq (.reg [.q 16 (.bld [(.int .i64 0), (.int .i64 0), (.int .i64 0), (.int .i64 0), (.bool false)] []) [] none, .sto (.ag 5) (.t 2) (.t 16), .q 3 .mv [(.c (.bool false))] none])
 .ret) .skip))
 (.seq (.seq (.reg [.q 17 .mv [(.c (.int .i64 0))] none])
 (.block 0 (.loop (.seq (.reg [.q 18 (.cm .lss .i64) [(.t 17), (.c (.int .i64 288))] none])
 (.seq (.cond (.t 18) .skip (.exit 0))
 (.seq (.block 1 (.seq (.reg [.q 19 .mv [(.t 17)] none, .q 5 .mv [(.t 19)] none])
 (.seq (.reg [.q 20 .mv [(.t 4)] none, .q 21 .mv [(.t 5)] none, .q 22 (.dv .rem .i64) [(.t 21), (.c (.int .i64 8))] none, .q 23 .mv [(.t 5)] none, .q 24 (.dv .quo .i64) [(.t 23), (.c (.int .i64 8))] none, .q 25 (.dv .rem .i64) [(.t 24), (.c (.int .i64 3))] none, .q 26 .mv [(.t 5)] none, .q 27 (.dv .quo .i64) [(.t 26), (.c (.int .i64 24))] none, .q 28 (.dv .rem .i64) [(.t 27), (.c (.int .i64 6))] none, .q 29 .mv [(.t 5)] none, .q 30 (.dv .quo .i64) [(.t 29), (.c (.int .i64 144))] none, .q 31 (.cm .eql .i64) [(.t 30), (.c (.int .i64 1))] none, .q 32 (.bld [(.int .i64 0), (.int .i64 0), (.int .i64 0), (.int .i64 0), (.bool false)] [(0, 1), (1, 1), (2, 1), (3, 1), (4, 1)]) [(.t 20), (.t 22), (.t 25), (.t 28), (.t 31)] none, .al 6 [(.int .i64 0), (.int .i64 0), (.int .i64 0), (.int .i64 0), (.bool false)], .sto (.ag 5) (.t 6) (.t 32)])
 (.seq (.reg [.q 33 (.ld (.ag 5)) [(.t 6)] none, .pd (some 34) (.call 175) [(.t 33)] none, .q 35 .mv [(.t 0)] none, .q 36 (.cS false) [(.t 34), (.t 35)] none])
 (.cond (.t 36) (.seq (.reg [.q 37 (.ld (.ag 5)) [(.t 6)] none, .sto (.ag 5) (.t 2) (.t 37), .q 3 .mv [(.c (.bool true))] none])
 .ret) .skip)))))
 (.reg [.q 38 (.ar .add .i64) [(.t 17), (.c (.int .i64 1))] none, .q 17 .mv [(.t 38)] none])))))))
 (.seq (.reg [.q 39 (.bld [(.int .i64 0), (.int .i64 0), (.int .i64 0), (.int .i64 0), (.bool false)] []) [] none, .sto (.ag 5) (.t 2) (.t 39), .q 3 .mv [(.c (.bool false))] none])
 .ret)))))

end Go.Proofs.YtogckmommodmhaaGreatDoor
