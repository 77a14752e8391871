/- Bodies of functions, as the elaboration has them (printed by a program), and that they are so. No conditions. -/
import Derived.Test.YtphaicaobepimaaE3
import Derived.Test.YtphaicaobepimaaB0
import Derived.Test.YtphaicaobepimaaRows
import Derived.KernelRfl
namespace Go.Proofs.Ytphaicaobepimaa
set_option linter.all false
set_option linter.unusedSimpArgs false
open Go.RowKit

def T_paddr : TC :=
 (.seq (.reg [.q 2 .mv [(.c (.bool false))] none])
 (.seq (.reg [.q 3 .mv [(.t 0)] none, .q 4 (.cm .geq .i64) [(.t 3), (.c (.int .i64 0))] none, .q 5 .mv [(.t 4)] none, .q 6 .mv [(.t 0)] (some (5, true)), .q 7 (.cm .lss .i64) [(.t 6), (.c (.int .i64 3))] (some (5, true)), .q 8 .pick [(.t 5), (.t 7), (.c (.bool false))] none, .q 2 .mv [(.t 8)] none])
 .ret))
theorem ft_paddr : FT Try.prog 70 Try.f70 T_paddr [.t 2] := ⟨Try.func70, by kernel_rfl, by kernel_rfl, by kernel_rfl, by kernel_rfl⟩
def T_pGood : TC :=
 (.seq (.reg [.bx 1 (.t 0), .q 2 .mv [(.c (.bool false))] none])
 (.seq (.seq (.reg [.q 7 (.fadr 0) [(.t 1)] none, .q 8 (.ld (.ag 18)) [(.t 7)] none, .q 9 .mv [(.c (.int .i64 0))] none])
 (.block 0 (.loop (.seq (.reg [.q 10 (.cm .lss .i64) [(.t 9), (.c (.int .i64 3))] none])
 (.seq (.cond (.t 10) .skip (.exit 0))
 (.seq (.block 1 (.seq (.reg [.q 11 (.ixA 6 3 (.ag 6)) [(.t 8), (.t 9)] none, .al 4 [(.int .i64 0), (.int .i64 0), (.int .i64 0), (.int .i64 0), (.int .i64 0), (.int .i64 0)], .sto (.ag 6) (.t 4) (.t 11)])
 (.seq (.reg [.q 12 (.ld (.ag 6)) [(.t 4)] none, .q 13 .mv [(.c (.int .i64 0))] none])
 (.block 2 (.loop (.seq (.reg [.q 14 (.cm .lss .i64) [(.t 13), (.c (.int .i64 6))] none])
 (.seq (.cond (.t 14) .skip (.exit 2))
 (.seq (.block 3 (.seq (.reg [.q 15 (.ixA 1 6 (.sc (.int .i64))) [(.t 12), (.t 13)] none, .q 6 .mv [(.t 15)] none])
 (.seq (.reg [.q 16 .mv [(.t 6)] none, .q 17 (.cm .lss .i64) [(.t 16), (.c (.int .i64 0))] none, .q 18 .mv [(.t 17)] none, .q 19 .mv [(.t 6)] (some (18, false)), .q 20 (.cm .gtr .i64) [(.t 19), (.c (.int .i64 8))] (some (18, false)), .q 21 .pick [(.t 18), (.c (.bool true)), (.t 20)] none])
 (.cond (.t 21) (.seq (.reg [.q 2 .mv [(.c (.bool false))] none])
 .ret) .skip))))
 (.reg [.q 22 (.ar .add .i64) [(.t 13), (.c (.int .i64 1))] none, .q 13 .mv [(.t 22)] none])))))))))
 (.reg [.q 23 (.ar .add .i64) [(.t 9), (.c (.int .i64 1))] none, .q 9 .mv [(.t 23)] none])))))))
 (.seq (.reg [.q 2 .mv [(.c (.bool true))] none])
 .ret)))
theorem ft_pGood : FT Try.prog 46 Try.f46 T_pGood [.t 2] := ⟨Try.func46, by kernel_rfl, by kernel_rfl, by kernel_rfl, by kernel_rfl⟩
def T_pLeft : TC :=
 (.seq (.reg [.bx 2 (.t 0), .q 4 .mv [(.c (.int .i64 0))] none])
 (.seq (.reg [.q 5 .mv [(.c (.int .i64 0))] none])
 (.seq (.seq (.reg [.q 8 .mv [(.t 1)] none, .pd (some 9) (.call 70) [(.t 8)] none])
 (.cond (.t 9) (.seq (.reg [.q 10 .mv [(.t 1)] none, .q 11 (.fadr 0) [(.t 2)] none, .q 12 (.iadrA 3 6) [(.t 11), (.t 10)] none, .q 13 (.ld (.ag 6)) [(.t 12)] none, .q 14 .mv [(.c (.int .i64 0))] none])
 (.block 0 (.loop (.seq (.reg [.q 15 (.cm .lss .i64) [(.t 14), (.c (.int .i64 6))] none])
 (.seq (.cond (.t 15) .skip (.exit 0))
 (.seq (.block 1 (.seq (.reg [.q 16 (.ixA 1 6 (.sc (.int .i64))) [(.t 13), (.t 14)] none, .q 7 .mv [(.t 16)] none])
 (.seq (.reg [.q 17 .mv [(.t 7)] none, .q 18 (.cm .eql .i64) [(.t 17), (.c (.int .i64 0))] none])
 (.cond (.t 18) (.reg [.q 19 .mv [(.t 5)] none, .q 20 (.ar .add .i64) [(.t 19), (.c (.int .i64 1))] none, .q 5 .mv [(.t 20)] none]) .skip))))
 (.reg [.q 21 (.ar .add .i64) [(.t 14), (.c (.int .i64 1))] none, .q 14 .mv [(.t 21)] none]))))))) .skip))
 (.seq (.reg [.q 22 .mv [(.t 5)] none, .q 4 .mv [(.t 22)] none])
 .ret))))
theorem ft_pLeft : FT Try.prog 68 Try.f68 T_pLeft [.t 4] := ⟨Try.func68, by kernel_rfl, by kernel_rfl, by kernel_rfl, by kernel_rfl⟩
def T_pchosen : TC :=
 (.seq (.reg [.q 4 .mv [(.c (.int .i64 0))] none])
 (.seq (.reg [.q 5 .mv [(.t 0)] none, .q 6 .mv [(.t 1)] none, .q 7 (.dv .rem .i64) [(.t 5), (.t 6)] none, .q 0 .mv [(.t 7)] none])
 (.seq (.seq (.reg [.q 8 .mv [(.t 0)] none, .q 9 (.cm .lss .i64) [(.t 8), (.c (.int .i64 0))] none])
 (.cond (.t 9) (.reg [.q 10 .mv [(.t 0)] none, .q 11 .mv [(.t 1)] none, .q 12 (.ar .add .i64) [(.t 10), (.t 11)] none, .q 0 .mv [(.t 12)] none]) .skip))
 (.seq (.reg [.q 13 .mv [(.t 0)] none, .q 4 .mv [(.t 13)] none])
 .ret))))
theorem ft_pchosen : FT Try.prog 69 Try.f69 T_pchosen [.t 4] := ⟨Try.func69, by kernel_rfl, by kernel_rfl, by kernel_rfl, by kernel_rfl⟩
def T_pPick : TC :=
 (.seq (.reg [.bx 2 (.t 0), .q 4 .mv [(.c (.int .i64 0))] none, .q 5 .mv [(.c (.int .i64 0))] none])
 (.seq (.seq (.reg [.q 8 (.ld (.ag 21)) [(.t 2)] none, .pd (some 9) (.call 46) [(.t 8)] none, .q 10 .not [(.t 9)] none])
 (.cond (.t 10) (.seq (.reg [.q 4 .mv [(.c (.int .i64 0))] none, .q 5 .mv [(.c (.int .i64 2))] none])
 .ret) .skip))
 (.seq (.reg [.q 6 .mv [(.c .nils)] none])
 (.seq (.seq (.reg [.q 11 .mv [(.c (.int .i64 0))] none])
 (.block 0 (.loop (.seq (.reg [.q 12 (.cm .lss .i64) [(.t 11), (.c (.int .i64 3))] none])
 (.seq (.cond (.t 12) .skip (.exit 0))
 (.seq (.block 1 (.seq (.reg [.q 13 .mv [(.t 11)] none, .q 7 .mv [(.t 13)] none])
 (.seq (.reg [.q 14 .mv [(.t 7)] none, .q 15 (.fadr 18) [(.t 2)] none, .q 16 (.iadrA 3 1) [(.t 15), (.t 14)] none, .q 17 (.ld (.sc .bool)) [(.t 16)] none, .q 18 .not [(.t 17)] none, .q 19 .mv [(.t 18)] none, .q 20 (.ld (.ag 21)) [(.t 2)] (some (19, true)), .q 21 .mv [(.t 7)] (some (19, true)), .pd (some 22) (.call 68) [(.t 20), (.t 21)] (some (19, true)), .q 23 (.cm .gtr .i64) [(.t 22), (.c (.int .i64 0))] (some (19, true)), .q 24 .pick [(.t 19), (.t 23), (.c (.bool false))] none])
 (.cond (.t 24) (.reg [.q 25 .mv [(.t 6)] none, .q 26 .mv [(.t 7)] none, .pd (some 27) (.bsl 1 1 [(.int .i64 0)] [(0, 1)]) [(.t 26)] none, .pd (some 28) (.app 1 8 false) [(.t 25), (.t 27)] none, .q 6 .mv [(.t 28)] none]) .skip))))
 (.reg [.q 29 (.ar .add .i64) [(.t 11), (.c (.int .i64 1))] none, .q 11 .mv [(.t 29)] none])))))))
 (.seq (.seq (.reg [.q 30 .mv [(.t 6)] none, .q 31 .lenL [(.t 30)] none, .q 32 (.cm .eql .i64) [(.t 31), (.c (.int .i64 0))] none])
 (.cond (.t 32) (.seq (.reg [.q 4 .mv [(.c (.int .i64 0))] none, .q 5 .mv [(.c (.int .i64 10))] none])
 .ret) .skip))
 (.seq (.reg [.q 33 .mv [(.t 6)] none, .q 34 .mv [(.t 1)] none, .q 35 .mv [(.t 6)] none, .q 36 .lenL [(.t 35)] none, .pd (some 37) (.call 69) [(.t 34), (.t 36)] none, .q 38 (.iadrS 1) [(.t 33), (.t 37)] none, .q 39 (.ld (.sc (.int .i64))) [(.t 38)] none, .q 4 .mv [(.t 39)] none, .q 5 .mv [(.c (.int .i64 0))] none])
 .ret))))))
theorem ft_pPick : FT Try.prog 53 Try.f53 T_pPick [.t 4, .t 5] := ⟨Try.func53, by kernel_rfl, by kernel_rfl, by kernel_rfl, by kernel_rfl⟩
def T_pTake : TC :=
 (.seq (.reg [.bx 4 (.t 0), .al 8 [(.int .i64 0), (.int .i64 0), (.int .i64 0), (.int .i64 0), (.int .i64 0), (.int .i64 0), (.int .i64 0), (.int .i64 0), (.int .i64 0), (.int .i64 0), (.int .i64 0), (.int .i64 0), (.int .i64 0), (.int .i64 0), (.int .i64 0), (.int .i64 0), (.int .i64 0), (.int .i64 0), (.bool false), (.bool false), (.bool false)], .q 9 .mv [(.c (.int .i64 0))] none, .q 10 .mv [(.c (.int .i64 0))] none])
 (.seq (.block 0 (.seq (.reg [.q 15 (.ld (.ag 21)) [(.t 4)] none, .pd (some 16) (.call 46) [(.t 15)] none, .q 17 .not [(.t 16)] none, .q 14 .mv [(.t 17)] none])
 (.cond (.t 14) (.seq (.reg [.q 18 (.ld (.ag 21)) [(.t 4)] none, .sto (.ag 21) (.t 8) (.t 18), .q 9 .mv [(.c (.int .i64 0))] none, .q 10 .mv [(.c (.int .i64 2))] none])
 .ret) (.seq (.reg [.q 20 .mv [(.t 2)] none, .pd (some 21) (.call 70) [(.t 20)] none, .q 22 .not [(.t 21)] none, .q 23 .mv [(.t 22)] none, .q 24 .mv [(.t 1)] (some (23, false)), .q 25 (.cm .lss .i64) [(.t 24), (.c (.int .i64 0))] (some (23, false)), .q 26 .pick [(.t 23), (.c (.bool true)), (.t 25)] none, .q 27 .mv [(.t 26)] none, .q 28 .mv [(.t 1)] (some (27, false)), .q 29 (.cm .geq .i64) [(.t 28), (.c (.int .i64 8))] (some (27, false)), .q 30 .pick [(.t 27), (.c (.bool true)), (.t 29)] none, .q 19 .mv [(.t 30)] none])
 (.cond (.t 19) (.seq (.reg [.q 31 (.ld (.ag 21)) [(.t 4)] none, .sto (.ag 21) (.t 8) (.t 31), .q 9 .mv [(.c (.int .i64 0))] none, .q 10 .mv [(.c (.int .i64 7))] none])
 .ret) (.seq (.reg [.q 33 .mv [(.t 2)] none, .q 34 (.fadr 18) [(.t 4)] none, .q 35 (.iadrA 3 1) [(.t 34), (.t 33)] none, .q 36 (.ld (.sc .bool)) [(.t 35)] none, .q 32 .mv [(.t 36)] none])
 (.cond (.t 32) (.seq (.reg [.q 37 (.ld (.ag 21)) [(.t 4)] none, .sto (.ag 21) (.t 8) (.t 37), .q 9 .mv [(.c (.int .i64 0))] none, .q 10 .mv [(.c (.int .i64 9))] none])
 .ret) (.seq (.reg [.q 39 (.ld (.ag 21)) [(.t 4)] none, .q 40 .mv [(.t 2)] none, .pd (some 41) (.call 68) [(.t 39), (.t 40)] none, .q 42 (.cm .eql .i64) [(.t 41), (.c (.int .i64 0))] none, .q 38 .mv [(.t 42)] none])
 (.cond (.t 38) (.seq (.reg [.q 43 (.ld (.ag 21)) [(.t 4)] none, .sto (.ag 21) (.t 8) (.t 43), .q 9 .mv [(.c (.int .i64 0))] none, .q 10 .mv [(.c (.int .i64 10))] none])
 .ret) .skip)))))))))
 (.seq (.reg [.q 44 .mv [(.t 3)] none, .q 45 (.ld (.ag 21)) [(.t 4)] none, .q 46 .mv [(.t 2)] none, .pd (some 47) (.call 68) [(.t 45), (.t 46)] none, .pd (some 48) (.call 69) [(.t 44), (.t 47)] none, .q 11 .mv [(.t 48)] none])
 (.seq (.seq (.reg [.q 49 .mv [(.t 2)] none, .q 50 (.fadr 0) [(.t 4)] none, .q 51 (.iadrA 3 6) [(.t 50), (.t 49)] none, .q 52 (.ld (.ag 6)) [(.t 51)] none, .q 53 .mv [(.c (.int .i64 0))] none])
 (.block 1 (.loop (.seq (.reg [.q 54 (.cm .lss .i64) [(.t 53), (.c (.int .i64 6))] none])
 (.seq (.cond (.t 54) .skip (.exit 1))
 (.seq (.block 2 (.seq (.reg [.q 55 .mv [(.t 53)] none, .q 56 (.ixA 1 6 (.sc (.int .i64))) [(.t 52), (.t 53)] none, .q 12 .mv [(.t 55)] none, .q 13 .mv [(.t 56)] none])
 (.seq (.seq (.reg [.q 57 .mv [(.t 13)] none, .q 58 (.cm .neq .i64) [(.t 57), (.c (.int .i64 0))] none])
 (.cond (.t 58) (.exit 2) .skip))
 (.seq (.seq (.reg [.q 59 .mv [(.t 11)] none, .q 60 (.cm .eql .i64) [(.t 59), (.c (.int .i64 0))] none])
 (.cond (.t 60) (.seq (.reg [.q 61 .mv [(.t 2)] none, .q 62 .mv [(.t 12)] none, .q 63 .mv [(.t 1)] none, .q 64 (.ar .add .i64) [(.t 63), (.c (.int .i64 1))] none, .q 65 (.fadr 0) [(.t 4)] none, .q 66 (.iadrA 3 6) [(.t 65), (.t 61)] none, .q 67 (.iadrA 6 1) [(.t 66), (.t 62)] none, .sto (.sc (.int .i64)) (.t 67) (.t 64)])
 (.seq (.reg [.q 68 (.ld (.ag 21)) [(.t 4)] none, .q 69 .mv [(.t 12)] none, .sto (.ag 21) (.t 8) (.t 68), .q 9 .mv [(.t 69)] none, .q 10 .mv [(.c (.int .i64 0))] none])
 .ret)) .skip))
 (.reg [.q 70 .mv [(.t 11)] none, .q 71 (.ar .sub .i64) [(.t 70), (.c (.int .i64 1))] none, .q 11 .mv [(.t 71)] none])))))
 (.reg [.q 72 (.ar .add .i64) [(.t 53), (.c (.int .i64 1))] none, .q 53 .mv [(.t 72)] none])))))))
 (.seq (.reg [.q 73 (.ld (.ag 21)) [(.t 4)] none, .sto (.ag 21) (.t 8) (.t 73), .q 9 .mv [(.c (.int .i64 0))] none, .q 10 .mv [(.c (.int .i64 10))] none])
 .ret)))))
theorem ft_pTake : FT Try.prog 54 Try.f54 T_pTake [.cell 8 (.ag 21), .t 9, .t 10] := ⟨Try.func54, by kernel_rfl, by kernel_rfl, by kernel_rfl, by kernel_rfl⟩
def T_pGive : TC :=
 (.seq (.reg [.bx 4 (.t 0), .al 8 [(.int .i64 0), (.int .i64 0), (.int .i64 0), (.int .i64 0), (.int .i64 0), (.int .i64 0), (.int .i64 0), (.int .i64 0), (.int .i64 0), (.int .i64 0), (.int .i64 0), (.int .i64 0), (.int .i64 0), (.int .i64 0), (.int .i64 0), (.int .i64 0), (.int .i64 0), (.int .i64 0), (.bool false), (.bool false), (.bool false)], .q 9 .mv [(.c (.int .i64 0))] none])
 (.seq (.block 0 (.seq (.reg [.q 11 (.ld (.ag 21)) [(.t 4)] none, .pd (some 12) (.call 46) [(.t 11)] none, .q 13 .not [(.t 12)] none, .q 10 .mv [(.t 13)] none])
 (.cond (.t 10) (.seq (.reg [.q 14 (.ld (.ag 21)) [(.t 4)] none, .sto (.ag 21) (.t 8) (.t 14), .q 9 .mv [(.c (.int .i64 2))] none])
 .ret) (.seq (.reg [.q 16 .mv [(.t 2)] none, .pd (some 17) (.call 70) [(.t 16)] none, .q 18 .not [(.t 17)] none, .q 19 .mv [(.t 18)] none, .q 20 .mv [(.t 3)] (some (19, false)), .q 21 (.cm .lss .i64) [(.t 20), (.c (.int .i64 0))] (some (19, false)), .q 22 .pick [(.t 19), (.c (.bool true)), (.t 21)] none, .q 23 .mv [(.t 22)] none, .q 24 .mv [(.t 3)] (some (23, false)), .q 25 (.cm .geq .i64) [(.t 24), (.c (.int .i64 6))] (some (23, false)), .q 26 .pick [(.t 23), (.c (.bool true)), (.t 25)] none, .q 27 .mv [(.t 26)] none, .q 28 .mv [(.t 1)] (some (27, false)), .q 29 (.cm .lss .i64) [(.t 28), (.c (.int .i64 0))] (some (27, false)), .q 30 .pick [(.t 27), (.c (.bool true)), (.t 29)] none, .q 31 .mv [(.t 30)] none, .q 32 .mv [(.t 2)] (some (31, false)), .q 33 .mv [(.t 3)] (some (31, false)), .q 34 (.fadr 0) [(.t 4)] (some (31, false)), .q 35 (.iadrA 3 6) [(.t 34), (.t 32)] (some (31, false)), .q 36 (.iadrA 6 1) [(.t 35), (.t 33)] (some (31, false)), .q 37 (.ld (.sc (.int .i64))) [(.t 36)] (some (31, false)), .q 38 .mv [(.t 1)] (some (31, false)), .q 39 (.ar .add .i64) [(.t 38), (.c (.int .i64 1))] (some (31, false)), .q 40 (.cm .neq .i64) [(.t 37), (.t 39)] (some (31, false)), .q 41 .pick [(.t 31), (.c (.bool true)), (.t 40)] none, .q 15 .mv [(.t 41)] none])
 (.cond (.t 15) (.seq (.reg [.q 42 (.ld (.ag 21)) [(.t 4)] none, .sto (.ag 21) (.t 8) (.t 42), .q 9 .mv [(.c (.int .i64 7))] none])
 .ret) .skip)))))
 (.seq (.reg [.q 43 .mv [(.t 2)] none, .q 44 .mv [(.t 3)] none, .q 45 (.fadr 0) [(.t 4)] none, .q 46 (.iadrA 3 6) [(.t 45), (.t 43)] none, .q 47 (.iadrA 6 1) [(.t 46), (.t 44)] none, .sto (.sc (.int .i64)) (.t 47) (.c (.int .i64 0))])
 (.seq (.reg [.q 48 (.ld (.ag 21)) [(.t 4)] none, .sto (.ag 21) (.t 8) (.t 48), .q 9 .mv [(.c (.int .i64 0))] none])
 .ret))))
theorem ft_pGive : FT Try.prog 60 Try.f60 T_pGive [.cell 8 (.ag 21), .t 9] := ⟨Try.func60, by kernel_rfl, by kernel_rfl, by kernel_rfl, by kernel_rfl⟩
def T_pdrain : TC :=
 (.seq (.reg [.bx 3 (.t 0), .al 6 [(.int .i64 0), (.int .i64 0), (.int .i64 0), (.int .i64 0), (.int .i64 0), (.int .i64 0), (.int .i64 0), (.int .i64 0), (.int .i64 0), (.int .i64 0), (.int .i64 0), (.int .i64 0), (.int .i64 0), (.int .i64 0), (.int .i64 0), (.int .i64 0), (.int .i64 0), (.int .i64 0), (.bool false), (.bool false), (.bool false)], .q 7 .mv [(.c (.int .i64 0))] none])
 (.seq (.block 0 (.seq (.reg [.q 9 .mv [(.t 1)] none, .pd (some 10) (.call 70) [(.t 9)] none, .q 11 .not [(.t 10)] none, .q 8 .mv [(.t 11)] none])
 (.cond (.t 8) (.seq (.reg [.q 12 (.ld (.ag 21)) [(.t 3)] none, .sto (.ag 21) (.t 6) (.t 12), .q 7 .mv [(.c (.int .i64 7))] none])
 .ret) (.seq (.reg [.q 14 .mv [(.t 1)] none, .q 15 (.fadr 18) [(.t 3)] none, .q 16 (.iadrA 3 1) [(.t 15), (.t 14)] none, .q 17 (.ld (.sc .bool)) [(.t 16)] none, .q 18 .mv [(.t 2)] none, .q 19 (.cB false) [(.t 17), (.t 18)] none, .q 13 .mv [(.t 19)] none])
 (.cond (.t 13) (.seq (.reg [.q 20 (.ld (.ag 21)) [(.t 3)] none, .sto (.ag 21) (.t 6) (.t 20), .q 7 .mv [(.c (.int .i64 8))] none])
 .ret) .skip)))))
 (.seq (.reg [.q 21 .mv [(.t 1)] none, .q 22 .mv [(.t 2)] none, .q 23 (.fadr 18) [(.t 3)] none, .q 24 (.iadrA 3 1) [(.t 23), (.t 21)] none, .sto (.sc .bool) (.t 24) (.t 22)])
 (.seq (.reg [.q 25 (.ld (.ag 21)) [(.t 3)] none, .sto (.ag 21) (.t 6) (.t 25), .q 7 .mv [(.c (.int .i64 0))] none])
 .ret))))
theorem ft_pdrain : FT Try.prog 61 Try.f61 T_pdrain [.cell 6 (.ag 21), .t 7] := ⟨Try.func61, by kernel_rfl, by kernel_rfl, by kernel_rfl, by kernel_rfl⟩
def T_pDrain : TC :=
 (.seq (.reg [.bx 2 (.t 0), .al 4 [(.int .i64 0), (.int .i64 0), (.int .i64 0), (.int .i64 0), (.int .i64 0), (.int .i64 0), (.int .i64 0), (.int .i64 0), (.int .i64 0), (.int .i64 0), (.int .i64 0), (.int .i64 0), (.int .i64 0), (.int .i64 0), (.int .i64 0), (.int .i64 0), (.int .i64 0), (.int .i64 0), (.bool false), (.bool false), (.bool false)], .q 5 .mv [(.c (.int .i64 0))] none])
 (.seq (.reg [.q 6 (.ld (.ag 21)) [(.t 2)] none, .q 7 .mv [(.t 1)] none, .pd (some 8) (.call 61) [(.t 6), (.t 7), (.c (.bool true))] none, .q 9 (.ext 0) [(.t 8)] none, .q 10 (.ext 1) [(.t 8)] none, .sto (.ag 21) (.t 4) (.t 9), .q 5 .mv [(.t 10)] none])
 .ret))
theorem ft_pDrain : FT Try.prog 31 Try.f31 T_pDrain [.cell 4 (.ag 21), .t 5] := ⟨Try.func31, by kernel_rfl, by kernel_rfl, by kernel_rfl, by kernel_rfl⟩
def T_pUndrain : TC :=
 (.seq (.reg [.bx 2 (.t 0), .al 4 [(.int .i64 0), (.int .i64 0), (.int .i64 0), (.int .i64 0), (.int .i64 0), (.int .i64 0), (.int .i64 0), (.int .i64 0), (.int .i64 0), (.int .i64 0), (.int .i64 0), (.int .i64 0), (.int .i64 0), (.int .i64 0), (.int .i64 0), (.int .i64 0), (.int .i64 0), (.int .i64 0), (.bool false), (.bool false), (.bool false)], .q 5 .mv [(.c (.int .i64 0))] none])
 (.seq (.reg [.q 6 (.ld (.ag 21)) [(.t 2)] none, .q 7 .mv [(.t 1)] none, .pd (some 8) (.call 61) [(.t 6), (.t 7), (.c (.bool false))] none, .q 9 (.ext 0) [(.t 8)] none, .q 10 (.ext 1) [(.t 8)] none, .sto (.ag 21) (.t 4) (.t 9), .q 5 .mv [(.t 10)] none])
 .ret))
theorem ft_pUndrain : FT Try.prog 32 Try.f32 T_pUndrain [.cell 4 (.ag 21), .t 5] := ⟨Try.func32, by kernel_rfl, by kernel_rfl, by kernel_rfl, by kernel_rfl⟩
end Go.Proofs.Ytphaicaobepimaa
