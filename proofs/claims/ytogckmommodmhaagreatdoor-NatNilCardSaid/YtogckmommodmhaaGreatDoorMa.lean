/- Bodies of functions, as the elaboration has them (printed by a program), and that they are so. No conditions. -/
import Derived.Test.YtogckmommodmhaaGreatDoorE3
import Derived.Test.YtogckmommodmhaaGreatDoorRows
import Derived.KernelRfl
namespace Go.Proofs.YtogckmommodmhaaGreatDoor
set_option linter.all false
set_option linter.unusedSimpArgs false
open Go.RowKit

def T_NatNil : TC :=
 (.seq (.reg [.bx 1 (.t 0), .q 2 .mv [(.c (.bool false))] none])
 (.seq (.reg [.q 3 .mv [(.c (.lit (.pointer none)))] none])
 (.seq (.reg [.q 4 .mv [(.t 3)] none, .q 5 (.ld (.ag 4)) [(.t 1)] none, .pd (some 6) (.call 20) [(.t 4), (.t 5)] none, .q 7 (.bld [(.int .i64 0), (.str []), (.bool false), (.str [])] [(0, 1)]) [(.c (.int .i64 7))] none, .pd (some 8) (.cA false 27) [(.t 6), (.t 7)] none, .q 9 .mv [(.t 8)] none, .q 10 .mv [(.t 3)] (some (9, true)), .pd (some 11) (.call 21) [(.t 10)] (some (9, true)), .q 12 (.cm .eql .i64) [(.t 11), (.c (.int .i64 0))] (some (9, true)), .q 13 .pick [(.t 9), (.t 12), (.c (.bool false))] none, .q 14 .mv [(.t 13)] none, .q 15 .mv [(.t 3)] (some (14, true)), .pd (some 16) (.call 23) [(.t 15)] (some (14, true)), .q 17 (.bld [(.int .i64 0), (.int .i64 0), (.int .i64 0), (.int .i64 0), (.int .i64 0), (.int .i64 0), (.int .i64 0), (.int .i64 0), (.int .i64 0), (.int .i64 0), (.int .i64 0), (.int .i64 0), (.int .i64 0), (.int .i64 0), (.int .i64 0), (.int .i64 0), (.int .i64 0), (.int .i64 0), (.bool false), (.bool false), (.bool false), (.int .i64 0), (.int .i64 0), (.int .i64 0), (.int .i64 0), (.int .i64 0), (.int .i64 0), (.int .i64 0), (.int .i64 0), .nils] []) [] (some (14, true)), .pd (some 18) (.call 22) [(.t 16), (.t 17)] (some (14, true)), .q 19 .pick [(.t 14), (.t 18), (.c (.bool false))] none, .q 20 .mv [(.t 19)] none, .q 21 .mv [(.t 3)] (some (20, true)), .pd (some 22) (.call 24) [(.t 21)] (some (20, true)), .q 23 .lenL [(.t 22)] (some (20, true)), .q 24 (.cm .eql .i64) [(.t 23), (.c (.int .i64 0))] (some (20, true)), .q 25 .pick [(.t 20), (.t 24), (.c (.bool false))] none, .q 2 .mv [(.t 25)] none])
 .ret)))
theorem ft_NatNil : FT Tryz.prog 3 Tryz.f3 T_NatNil [.t 2] := ⟨Tryz.func3, by kernel_rfl, by kernel_rfl, by kernel_rfl, by kernel_rfl⟩
def T_nDo : TC :=
 (.seq (.reg [.bx 3 (.t 1), .al 4 [(.int .i64 0), (.str []), (.bool false), (.str [])]])
 (.seq (.block 0 (.seq (.reg [.q 8 .mv [(.t 0)] none, .q 9 (.nilP false) [(.t 8)] none, .q 7 .mv [(.t 9)] none])
 (.cond (.t 7) (.seq (.reg [.q 10 (.bld [(.int .i64 0), (.str []), (.bool false), (.str [])] [(0, 1)]) [(.c (.int .i64 7))] none, .sto (.ag 4) (.t 4) (.t 10)])
 .ret) (.seq (.reg [.q 12 .mv [(.t 0)] none, .q 13 .nilck [(.t 12)] none, .q 14 (.fadr 36) [(.t 13)] none, .q 15 (.ld (.sc (.int .i64))) [(.t 14)] none, .q 16 (.cm .geq .i64) [(.t 15), (.c (.int .i64 300))] none, .q 11 .mv [(.t 16)] none])
 (.cond (.t 11) (.seq (.reg [.q 17 (.bld [(.int .i64 0), (.str []), (.bool false), (.str [])] [(0, 1)]) [(.c (.int .i64 6))] none, .sto (.ag 4) (.t 4) (.t 17)])
 .ret) .skip)))))
 (.seq (.reg [.q 18 .mv [(.t 0)] none, .q 19 .nilck [(.t 18)] none, .q 20 (.fadr 36) [(.t 19)] none, .q 21 (.ld (.sc (.int .i64))) [(.t 20)] none, .q 22 (.ar .add .i64) [(.t 21), (.c (.int .i64 1))] none, .q 23 .nilck [(.t 18)] none, .q 24 (.fadr 36) [(.t 23)] none, .sto (.sc (.int .i64)) (.t 24) (.t 22)])
 (.seq (.seq (.reg [.q 25 (.fadr 0) [(.t 3)] none, .q 26 (.ld (.sc (.int .i64))) [(.t 25)] none])
 (.block 1 (.seq (.reg [.q 28 (.cm .eql .i64) [(.t 26), (.c (.int .i64 1))] none, .q 27 .mv [(.t 28)] none])
 (.cond (.t 27) (.seq (.reg [.q 29 .mv [(.t 0)] none, .q 30 (.ld (.ag 4)) [(.t 3)] none, .pd (some 31) (.call 58) [(.t 29), (.t 30)] none, .sto (.ag 4) (.t 4) (.t 31)])
 .ret) (.seq (.reg [.q 33 (.cm .eql .i64) [(.t 26), (.c (.int .i64 2))] none, .q 32 .mv [(.t 33)] none])
 (.cond (.t 32) (.seq (.reg [.q 34 .mv [(.t 0)] none, .q 35 (.fadr 3) [(.t 3)] none, .q 36 (.ld (.sc .str)) [(.t 35)] none, .pd (some 37) (.call 59) [(.t 34), (.t 36)] none, .sto (.ag 4) (.t 4) (.t 37)])
 .ret) (.seq (.reg [.q 39 (.cm .eql .i64) [(.t 26), (.c (.int .i64 3))] none, .q 38 .mv [(.t 39)] none])
 (.cond (.t 38) (.seq (.reg [.q 40 .mv [(.t 0)] none, .q 41 (.fadr 1) [(.t 3)] none, .q 42 (.ld (.sc (.int .i64))) [(.t 41)] none, .pd (some 43) (.call 60) [(.t 40), (.t 42)] none, .sto (.ag 4) (.t 4) (.t 43)])
 .ret) (.seq (.seq (.reg [.q 45 (.cm .eql .i64) [(.t 26), (.c (.int .i64 4))] none, .q 44 .mv [(.t 45)] none])
 (.cond (.t 44) .skip (.reg [.q 46 (.cm .eql .i64) [(.t 26), (.c (.int .i64 5))] none, .q 44 .mv [(.t 46)] none])))
 (.cond (.t 44) (.seq (.dreg [.q 48 .mv [(.t 0)] none, .q 49 .nilck [(.t 48)] none, .q 50 (.fadr 0) [(.t 49)] none, .q 51 (.fadr 0) [(.t 50)] none, .q 52 (.ld (.ag 21)) [(.t 51)] none, .q 53 (.fadr 1) [(.t 3)] none, .q 54 (.ld (.sc (.int .i64))) [(.t 53)] none, .pd (some 55) (.call 61) [(.t 52), (.t 54)] none, .q 47 .mv [(.t 55)] none, .q 56 (.ext 0) [(.t 47)] none, .q 57 (.ext 1) [(.t 47)] none, .al 5 [(.int .i64 0), (.int .i64 0), (.int .i64 0), (.int .i64 0), (.int .i64 0), (.int .i64 0), (.int .i64 0), (.int .i64 0), (.int .i64 0), (.int .i64 0), (.int .i64 0), (.int .i64 0), (.int .i64 0), (.int .i64 0), (.int .i64 0), (.int .i64 0), (.int .i64 0), (.int .i64 0), (.bool false), (.bool false), (.bool false)], .sto (.ag 21) (.t 5) (.t 56), .q 6 .mv [(.t 57)] none] [0, 1, 3, 7, 15, 0, 32, 127, 255, 511, 511, 0, 3071, 8191])
 (.seq (.seq (.reg [.q 58 (.fadr 0) [(.t 3)] none, .q 59 (.ld (.sc (.int .i64))) [(.t 58)] none, .q 60 (.cm .eql .i64) [(.t 59), (.c (.int .i64 5))] none])
 (.cond (.t 60) (.dreg [.q 62 .mv [(.t 0)] none, .q 63 .nilck [(.t 62)] none, .q 64 (.fadr 0) [(.t 63)] none, .q 65 (.fadr 0) [(.t 64)] none, .q 66 (.ld (.ag 21)) [(.t 65)] none, .q 67 (.fadr 1) [(.t 3)] none, .q 68 (.ld (.sc (.int .i64))) [(.t 67)] none, .pd (some 69) (.call 62) [(.t 66), (.t 68)] none, .q 61 .mv [(.t 69)] none, .q 70 (.ext 0) [(.t 61)] none, .q 71 (.ext 1) [(.t 61)] none, .sto (.ag 21) (.t 5) (.t 70), .q 6 .mv [(.t 71)] none] [0, 1, 3, 7, 15, 0, 32, 127, 255, 511, 511, 1023, 4095]) .skip))
 (.seq (.seq (.reg [.q 72 .mv [(.t 6)] none, .q 73 (.cm .eql .i64) [(.t 72), (.c (.int .i64 0))] none])
 (.cond (.t 73) (.reg [.q 74 .mv [(.t 0)] none, .q 75 (.ld (.ag 21)) [(.t 5)] none, .q 76 .nilck [(.t 74)] none, .q 77 (.fadr 0) [(.t 76)] none, .q 78 (.fadr 0) [(.t 77)] none, .sto (.ag 21) (.t 78) (.t 75)]) .skip))
 (.seq (.reg [.q 79 .mv [(.t 6)] none, .q 80 (.bld [(.int .i64 0), (.str []), (.bool false), (.str [])] [(0, 1)]) [(.t 79)] none, .sto (.ag 4) (.t 4) (.t 80)])
 .ret)))) .skip))))))))))
 (.seq (.reg [.q 81 (.bld [(.int .i64 0), (.str []), (.bool false), (.str [])] [(0, 1)]) [(.c (.int .i64 4))] none, .sto (.ag 4) (.t 4) (.t 81)])
 .ret)))))
theorem ft_nDo : FT Tryz.prog 20 Tryz.f20 T_nDo [.cell 4 (.ag 4)] := ⟨Tryz.func20, by kernel_rfl, by kernel_rfl, by kernel_rfl, by kernel_rfl⟩
def T_nNow : TC :=
 (.seq (.reg [.q 2 .mv [(.c (.int .i64 0))] none])
 (.seq (.seq (.reg [.q 3 .mv [(.t 0)] none, .q 4 (.nilP false) [(.t 3)] none])
 (.cond (.t 4) (.seq (.reg [.q 2 .mv [(.c (.int .i64 0))] none])
 .ret) .skip))
 (.seq (.reg [.q 5 .mv [(.t 0)] none, .q 6 .nilck [(.t 5)] none, .q 7 (.fadr 33) [(.t 6)] none, .q 8 (.ld (.sc .ref)) [(.t 7)] none, .pd (some 9) (.call 63) [(.t 8)] none, .q 2 .mv [(.t 9)] none])
 .ret)))
theorem ft_nNow : FT Tryz.prog 21 Tryz.f21 T_nNow [.t 2] := ⟨Tryz.func21, by kernel_rfl, by kernel_rfl, by kernel_rfl, by kernel_rfl⟩
def T_nTable : TC :=
 (.seq (.reg [.al 2 [(.int .i64 0), (.int .i64 0), (.int .i64 0), (.int .i64 0), (.int .i64 0), (.int .i64 0), (.int .i64 0), (.int .i64 0), (.int .i64 0), (.int .i64 0), (.int .i64 0), (.int .i64 0), (.int .i64 0), (.int .i64 0), (.int .i64 0), (.int .i64 0), (.int .i64 0), (.int .i64 0), (.bool false), (.bool false), (.bool false), (.int .i64 0), (.int .i64 0), (.int .i64 0), (.int .i64 0), (.int .i64 0), (.int .i64 0), (.int .i64 0), (.int .i64 0), .nils]])
 (.seq (.seq (.reg [.q 4 .mv [(.t 0)] none, .q 5 (.nilP false) [(.t 4)] none])
 (.cond (.t 5) (.seq (.reg [.q 6 (.bld [(.int .i64 0), (.int .i64 0), (.int .i64 0), (.int .i64 0), (.int .i64 0), (.int .i64 0), (.int .i64 0), (.int .i64 0), (.int .i64 0), (.int .i64 0), (.int .i64 0), (.int .i64 0), (.int .i64 0), (.int .i64 0), (.int .i64 0), (.int .i64 0), (.int .i64 0), (.int .i64 0), (.bool false), (.bool false), (.bool false), (.int .i64 0), (.int .i64 0), (.int .i64 0), (.int .i64 0), (.int .i64 0), (.int .i64 0), (.int .i64 0), (.int .i64 0), .nils] []) [] none, .sto (.ag 30) (.t 2) (.t 6)])
 .ret) .skip))
 (.seq (.reg [.q 7 .mv [(.t 0)] none, .q 8 .nilck [(.t 7)] none, .q 9 (.fadr 0) [(.t 8)] none, .q 10 (.ld (.ag 30)) [(.t 9)] none, .al 3 [(.int .i64 0), (.int .i64 0), (.int .i64 0), (.int .i64 0), (.int .i64 0), (.int .i64 0), (.int .i64 0), (.int .i64 0), (.int .i64 0), (.int .i64 0), (.int .i64 0), (.int .i64 0), (.int .i64 0), (.int .i64 0), (.int .i64 0), (.int .i64 0), (.int .i64 0), (.int .i64 0), (.bool false), (.bool false), (.bool false), (.int .i64 0), (.int .i64 0), (.int .i64 0), (.int .i64 0), (.int .i64 0), (.int .i64 0), (.int .i64 0), (.int .i64 0), .nils], .sto (.ag 30) (.t 3) (.t 10)])
 (.seq (.reg [.q 11 (.fadr 29) [(.t 3)] none, .q 12 (.ld (.sc .ref)) [(.t 11)] none, .pd (some 13) (.call 64) [(.t 12)] none, .q 14 (.fadr 29) [(.t 3)] none, .sto (.sc .ref) (.t 14) (.t 13)])
 (.seq (.reg [.q 15 (.ld (.ag 30)) [(.t 3)] none, .sto (.ag 30) (.t 2) (.t 15)])
 .ret)))))
theorem ft_nTable : FT Tryz.prog 23 Tryz.f23 T_nTable [.cell 2 (.ag 30)] := ⟨Tryz.func23, by kernel_rfl, by kernel_rfl, by kernel_rfl, by kernel_rfl⟩
def T_nFlows : TC :=
 (.seq (.reg [.q 2 .mv [(.c .nils)] none])
 (.seq (.seq (.reg [.q 6 .mv [(.t 0)] none, .q 7 (.nilP false) [(.t 6)] none])
 (.cond (.t 7) (.seq (.reg [.q 2 .mv [(.c .nils)] none])
 .ret) .skip))
 (.seq (.reg [.q 3 .mv [(.c .nils)] none])
 (.seq (.seq (.reg [.q 8 .mv [(.t 0)] none, .q 9 .nilck [(.t 8)] none, .q 10 (.fadr 31) [(.t 9)] none, .q 11 (.ld (.sc .ref)) [(.t 10)] none, .q 12 .lenL [(.t 11)] none, .q 13 .mv [(.c (.int .i64 0))] none])
 (.block 0 (.loop (.seq (.reg [.q 14 (.cm .lss .i64) [(.t 13), (.t 12)] none])
 (.seq (.cond (.t 14) .skip (.exit 0))
 (.seq (.block 1 (.seq (.reg [.q 15 (.iadrS 1) [(.t 11), (.t 13)] none, .q 16 (.ld (.sc (.int .i64))) [(.t 15)] none, .q 5 .mv [(.t 16)] none])
 (.reg [.q 17 .mv [(.t 3)] none, .q 18 .mv [(.t 0)] none, .q 19 .nilck [(.t 18)] none, .q 20 (.fadr 30) [(.t 19)] none, .q 21 (.ld (.sc .ref)) [(.t 20)] none, .q 22 .mv [(.t 5)] none, .pd (some 23) (.lkp 89 false) [(.t 21), (.t 22)] none, .pd (some 24) (.bsl 10 1 [(.int .i64 0), (.int .i64 0), (.int .i64 0), (.int .i64 0), (.int .i64 0), (.int .i64 0), (.int .i64 0), (.int .i64 0), (.int .i64 0), (.int .i64 0)] [(0, 10)]) [(.t 23)] none, .pd (some 25) (.app 10 80 false) [(.t 17), (.t 24)] none, .q 3 .mv [(.t 25)] none])))
 (.reg [.q 26 (.ar .add .i64) [(.t 13), (.c (.int .i64 1))] none, .q 13 .mv [(.t 26)] none])))))))
 (.seq (.reg [.q 27 .mv [(.t 3)] none, .q 2 .mv [(.t 27)] none])
 .ret)))))
theorem ft_nFlows : FT Tryz.prog 24 Tryz.f24 T_nFlows [.t 2] := ⟨Tryz.func24, by kernel_rfl, by kernel_rfl, by kernel_rfl, by kernel_rfl⟩
def T_rSame0 : TC :=
 (.seq (.reg [.bx 2 (.t 0), .bx 3 (.t 1), .q 4 .mv [(.c (.bool false))] none])
 (.seq (.seq (.reg [.q 6 (.fadr 0) [(.t 2)] none, .q 7 (.ld (.ag 21)) [(.t 6)] none, .q 8 (.fadr 0) [(.t 3)] none, .q 9 (.ld (.ag 21)) [(.t 8)] none, .pd (some 10) (.cA true 35) [(.t 7), (.t 9)] none, .q 11 .mv [(.t 10)] none, .q 12 (.fadr 21) [(.t 2)] (some (11, false)), .q 13 (.ld (.ag 8)) [(.t 12)] (some (11, false)), .q 14 (.fadr 21) [(.t 3)] (some (11, false)), .q 15 (.ld (.ag 8)) [(.t 14)] (some (11, false)), .pd (some 16) (.cA true 36) [(.t 13), (.t 15)] (some (11, false)), .q 17 .pick [(.t 11), (.c (.bool true)), (.t 16)] none, .q 18 .mv [(.t 17)] none, .q 19 (.fadr 29) [(.t 2)] (some (18, false)), .q 20 (.ld (.sc .ref)) [(.t 19)] (some (18, false)), .q 21 .lenL [(.t 20)] (some (18, false)), .q 22 (.fadr 29) [(.t 3)] (some (18, false)), .q 23 (.ld (.sc .ref)) [(.t 22)] (some (18, false)), .q 24 .lenL [(.t 23)] (some (18, false)), .q 25 (.cm .neq .i64) [(.t 21), (.t 24)] (some (18, false)), .q 26 .pick [(.t 18), (.c (.bool true)), (.t 25)] none])
 (.cond (.t 26) (.seq (.reg [.q 4 .mv [(.c (.bool false))] none])
 .ret) .skip))
 (.seq (.seq (.reg [.q 27 (.fadr 29) [(.t 2)] none, .q 28 (.ld (.sc .ref)) [(.t 27)] none, .q 29 .lenL [(.t 28)] none, .q 30 .mv [(.c (.int .i64 0))] none])
 (.block 0 (.loop (.seq (.reg [.q 31 (.cm .lss .i64) [(.t 30), (.t 29)] none])
 (.seq (.cond (.t 31) .skip (.exit 0))
 (.seq (.block 1 (.seq (.reg [.q 32 .mv [(.t 30)] none, .q 5 .mv [(.t 32)] none])
 (.seq (.dreg [.q 33 (.fadr 29) [(.t 2)] none, .q 34 (.ld (.sc .ref)) [(.t 33)] none, .q 35 .mv [(.t 5)] none, .q 36 (.iadrS 5) [(.t 34), (.t 35)] none, .q 37 (.ld (.ag 5)) [(.t 36)] none, .q 38 (.fadr 29) [(.t 3)] none, .q 39 (.ld (.sc .ref)) [(.t 38)] none, .q 40 .mv [(.t 5)] none, .q 41 (.iadrS 5) [(.t 39), (.t 40)] none, .q 42 (.ld (.ag 5)) [(.t 41)] none, .pd (some 43) (.cA true 69) [(.t 37), (.t 42)] none] [0, 1, 0, 7, 15, 0, 32, 0, 224, 480, 1023])
 (.cond (.t 43) (.seq (.reg [.q 4 .mv [(.c (.bool false))] none])
 .ret) .skip))))
 (.reg [.q 44 (.ar .add .i64) [(.t 30), (.c (.int .i64 1))] none, .q 30 .mv [(.t 44)] none])))))))
 (.seq (.reg [.q 4 .mv [(.c (.bool true))] none])
 .ret))))
theorem ft_rSame0 : FT Tryz.prog 22 Tryz.f22 T_rSame0 [.t 4] := ⟨Tryz.func22, by kernel_rfl, by kernel_rfl, by kernel_rfl, by kernel_rfl⟩
end Go.Proofs.YtogckmommodmhaaGreatDoor
