/- Bodies of functions, as the elaboration has them (printed by a program), and that they are so. No conditions. -/
import Derived.Test.YtldeiolmpmcanaaAo
import Derived.Test.YtldeiolmpmcanaaChecked
import Derived.KernelRfl
namespace Go.Proofs.Ytldeiolmpmcanaa
set_option linter.all false
set_option linter.unusedSimpArgs false
open Go.RowKit

def T_TrackRuns : TC :=
 (.seq (.reg [.q 2 .mv [(.c (.bool false))] none])
 (.seq (.seq (.reg [.pd (some 8) (.call 8) [] none, .q 9 .not [(.t 8)] none])
 (.cond (.t 9) (.seq (.reg [.q 2 .mv [(.c (.bool false))] none])
 .ret) .skip))
 (.seq (.reg [.q 10 (.bld [(.int .i64 0), (.int .i64 0), (.int .i64 0), (.int .i64 0), (.int .i64 0)] [(0, 1)]) [(.c (.int .i64 6))] none, .q 11 (.bld [(.int .i64 0), (.int .i64 0), (.int .i64 0), (.int .i64 0), (.int .i64 0), (.int .i64 0), (.int .i64 0), (.int .i64 0), (.int .i64 0), (.int .i64 0), (.int .i64 0), (.str [])] [(0, 1), (7, 1)]) [(.c (.int .i64 6)), (.c (.int .i64 2))] none, .pd (some 12) (.call 9) [(.t 11)] none, .q 13 (.bld [(.int .i64 0), (.int .i64 0), (.int .i64 0), (.int .i64 0), (.int .i64 0), (.int .i64 0), (.int .i64 0), (.int .i64 0), (.int .i64 0), (.int .i64 0)] [(0, 5), (7, 1)]) [(.t 10), (.t 12)] none, .al 3 [(.int .i64 0), (.int .i64 0), (.int .i64 0), (.int .i64 0), (.int .i64 0), (.int .i64 0), (.int .i64 0), (.int .i64 0), (.int .i64 0), (.int .i64 0)], .sto (.ag 10) (.t 3) (.t 13)])
 (.seq (.reg [.q 4 .mv [(.c (.int .i64 0))] none])
 (.seq (.reg [.q 14 (.fadr 7) [(.t 3)] none, .q 15 (.ld (.sc (.int .i64))) [(.t 14)] none, .pd (some 16) (.call 10) [(.c (.int .i64 6)), (.t 15)] none, .q 17 (.fadr 9) [(.t 3)] none, .sto (.sc (.int .i64)) (.t 17) (.t 16)])
 (.seq (.seq (.reg [.q 5 .mv [(.c (.int .i64 0))] none])
 (.block 0 (.loop (.seq (.seq (.reg [.q 18 .mv [(.t 5)] none, .q 19 .mv [(.t 0)] none, .q 20 .lenL [(.t 19)] none, .q 21 (.cm .lss .i64) [(.t 18), (.t 20)] none, .q 22 .mv [(.t 21)] none, .q 23 .mv [(.t 5)] (some (22, true)), .q 24 (.cm .lss .i64) [(.t 23), (.c (.int .i64 60))] (some (22, true)), .q 25 .pick [(.t 22), (.t 24), (.c (.bool false))] none])
 (.cond (.t 25) .skip (.exit 0)))
 (.seq (.block 1 (.seq (.reg [.q 28 .mv [(.t 4)] none, .q 29 .mv [(.t 0)] none, .q 30 .mv [(.t 5)] none, .q 31 (.iadrS 3) [(.t 29), (.t 30)] none, .q 32 (.fadr 1) [(.t 31)] none, .q 33 (.ld (.sc (.int .i64))) [(.t 32)] none, .pd (some 34) (.call 11) [(.t 33), (.c (.int .i64 9))] none, .q 35 (.ar .add .i64) [(.t 28), (.t 34)] none, .q 4 .mv [(.t 35)] none])
 (.seq (.reg [.q 36 .mv [(.t 0)] none, .q 37 .mv [(.t 5)] none, .q 38 (.iadrS 3) [(.t 36), (.t 37)] none, .q 39 (.fadr 0) [(.t 38)] none, .q 40 (.ld (.sc (.int .i64))) [(.t 39)] none, .pd (some 41) (.call 11) [(.t 40), (.c (.int .i64 64))] none, .q 42 (.bld [(.int .i64 0), (.int .i64 0), (.int .i64 0), (.int .i64 0), (.int .i64 0), (.int .i64 0), (.int .i64 0), (.int .i64 0), (.int .i64 0), (.int .i64 0), (.int .i64 0), (.str [])] [(0, 1), (7, 1)]) [(.c (.int .i64 6)), (.t 41)] none, .al 6 [(.int .i64 0), (.int .i64 0), (.int .i64 0), (.int .i64 0), (.int .i64 0), (.int .i64 0), (.int .i64 0), (.int .i64 0), (.int .i64 0), (.int .i64 0), (.int .i64 0), (.str [])], .sto (.ag 12) (.t 6) (.t 42)])
 (.seq (.dreg [.q 43 (.ld (.ag 10)) [(.t 3)] none, .q 44 (.ld (.ag 12)) [(.t 6)] none, .q 45 .mv [(.t 0)] none, .q 46 .mv [(.t 5)] none, .q 47 (.iadrS 3) [(.t 45), (.t 46)] none, .q 48 (.fadr 2) [(.t 47)] none, .q 49 (.ld (.sc .bool)) [(.t 48)] none, .q 50 .mv [(.t 4)] none, .pd (some 51) (.call 12) [(.t 43), (.t 44), (.t 49), (.t 50)] none, .al 7 [(.int .i64 0), (.int .i64 0), (.int .i64 0), (.int .i64 0), (.int .i64 0), (.int .i64 0), (.int .i64 0), (.int .i64 0), (.int .i64 0), (.int .i64 0)], .sto (.ag 10) (.t 7) (.t 51)] [0, 0, 0, 0, 12, 28, 60, 0, 255, 0, 1023])
 (.seq (.seq (.reg [.q 52 (.fadr 7) [(.t 7)] none, .q 53 (.ld (.sc (.int .i64))) [(.t 52)] none, .q 54 (.fadr 7) [(.t 3)] none, .q 55 (.ld (.sc (.int .i64))) [(.t 54)] none, .q 56 (.cm .lss .i64) [(.t 53), (.t 55)] none, .q 57 .mv [(.t 56)] none, .q 58 (.fadr 7) [(.t 7)] (some (57, false)), .q 59 (.ld (.sc (.int .i64))) [(.t 58)] (some (57, false)), .q 60 (.cm .gtr .i64) [(.t 59), (.c (.int .i64 4))] (some (57, false)), .q 61 .pick [(.t 57), (.c (.bool true)), (.t 60)] none, .q 62 .mv [(.t 61)] none, .q 63 (.fadr 0) [(.t 7)] (some (62, false)), .q 64 (.ld (.ag 5)) [(.t 63)] (some (62, false)), .q 65 (.fadr 0) [(.t 3)] (some (62, false)), .q 66 (.ld (.ag 5)) [(.t 65)] (some (62, false)), .pd (some 67) (.cA true 25) [(.t 64), (.t 66)] (some (62, false)), .q 68 .pick [(.t 62), (.c (.bool true)), (.t 67)] none, .q 69 .mv [(.t 68)] none, .q 70 (.fadr 5) [(.t 7)] (some (69, false)), .q 71 (.ld (.sc (.int .i64))) [(.t 70)] (some (69, false)), .q 72 (.fadr 5) [(.t 3)] (some (69, false)), .q 73 (.ld (.sc (.int .i64))) [(.t 72)] (some (69, false)), .q 74 (.cm .neq .i64) [(.t 71), (.t 73)] (some (69, false)), .q 75 .pick [(.t 69), (.c (.bool true)), (.t 74)] none, .q 76 .mv [(.t 75)] none, .q 77 (.fadr 6) [(.t 7)] (some (76, false)), .q 78 (.ld (.sc (.int .i64))) [(.t 77)] (some (76, false)), .q 79 (.fadr 6) [(.t 3)] (some (76, false)), .q 80 (.ld (.sc (.int .i64))) [(.t 79)] (some (76, false)), .q 81 (.cm .neq .i64) [(.t 78), (.t 80)] (some (76, false)), .q 82 .pick [(.t 76), (.c (.bool true)), (.t 81)] none])
 (.cond (.t 82) (.seq (.reg [.q 2 .mv [(.c (.bool false))] none])
 .ret) .skip))
 (.seq (.seq (.dreg [.q 83 (.fadr 9) [(.t 7)] none, .q 84 (.ld (.sc (.int .i64))) [(.t 83)] none, .q 85 (.fadr 9) [(.t 3)] none, .q 86 (.ld (.sc (.int .i64))) [(.t 85)] none, .q 87 (.cm .neq .i64) [(.t 84), (.t 86)] none, .q 88 .mv [(.t 87)] none, .q 89 (.fadr 9) [(.t 7)] (some (88, true)), .q 90 (.ld (.sc (.int .i64))) [(.t 89)] (some (88, true)), .q 91 .mv [(.t 4)] (some (88, true)), .q 92 (.fadr 7) [(.t 7)] (some (88, true)), .q 93 (.ld (.sc (.int .i64))) [(.t 92)] (some (88, true)), .pd (some 94) (.call 10) [(.c (.int .i64 6)), (.t 93)] (some (88, true)), .q 95 (.ar .add .i64) [(.t 91), (.t 94)] (some (88, true)), .q 96 (.cm .neq .i64) [(.t 90), (.t 95)] (some (88, true)), .q 97 .pick [(.t 88), (.t 96), (.c (.bool false))] none] [0, 1, 0, 4, 15, 31, 63, 127, 63, 63, 575, 1599, 3903, 8191, 16383])
 (.cond (.t 97) (.seq (.reg [.q 2 .mv [(.c (.bool false))] none])
 .ret) .skip))
 (.seq (.seq (.reg [.q 98 (.fadr 7) [(.t 3)] none, .q 99 (.ld (.sc (.int .i64))) [(.t 98)] none, .q 100 (.cm .eql .i64) [(.t 99), (.c (.int .i64 1))] none, .q 101 .mv [(.t 100)] none, .q 102 (.fadr 7) [(.t 7)] (some (101, true)), .q 103 (.ld (.sc (.int .i64))) [(.t 102)] (some (101, true)), .q 104 (.cm .eql .i64) [(.t 103), (.c (.int .i64 2))] (some (101, true)), .q 105 .pick [(.t 101), (.t 104), (.c (.bool false))] none, .q 106 .mv [(.t 105)] none, .q 107 .mv [(.t 0)] (some (106, true)), .q 108 .mv [(.t 5)] (some (106, true)), .q 109 (.iadrS 3) [(.t 107), (.t 108)] (some (106, true)), .q 110 (.fadr 2) [(.t 109)] (some (106, true)), .q 111 (.ld (.sc .bool)) [(.t 110)] (some (106, true)), .q 112 .mv [(.t 111)] (some (106, true)), .q 113 (.fadr 7) [(.t 6)] (some (112, true)), .q 114 (.ld (.sc (.int .i64))) [(.t 113)] (some (112, true)), .q 115 (.bt .and .i64) [(.t 114), (.c (.int .i64 18))] (some (112, true)), .q 116 (.cm .eql .i64) [(.t 115), (.c (.int .i64 18))] (some (112, true)), .q 117 .pick [(.t 112), (.t 116), (.c (.bool false))] (some (106, true)), .q 118 .not [(.t 117)] (some (106, true)), .q 119 .pick [(.t 106), (.t 118), (.c (.bool false))] none])
 (.cond (.t 119) (.seq (.reg [.q 2 .mv [(.c (.bool false))] none])
 .ret) .skip))
 (.seq (.seq (.reg [.q 120 (.fadr 7) [(.t 7)] none, .q 121 (.ld (.sc (.int .i64))) [(.t 120)] none, .q 122 (.fadr 7) [(.t 3)] none, .q 123 (.ld (.sc (.int .i64))) [(.t 122)] none, .q 124 (.cm .neq .i64) [(.t 121), (.t 123)] none, .q 125 .mv [(.t 124)] none, .q 126 (.fadr 7) [(.t 7)] (some (125, true)), .q 127 (.ld (.sc (.int .i64))) [(.t 126)] (some (125, true)), .q 128 (.cm .eql .i64) [(.t 127), (.c (.int .i64 4))] (some (125, true)), .q 129 .pick [(.t 125), (.t 128), (.c (.bool false))] none, .q 130 .mv [(.t 129)] none, .q 131 (.fadr 7) [(.t 6)] (some (130, true)), .q 132 (.ld (.sc (.int .i64))) [(.t 131)] (some (130, true)), .q 133 (.bt .and .i64) [(.t 132), (.c (.int .i64 5))] (some (130, true)), .q 134 (.cm .eql .i64) [(.t 133), (.c (.int .i64 0))] (some (130, true)), .q 135 .pick [(.t 130), (.t 134), (.c (.bool false))] none])
 (.cond (.t 135) (.seq (.reg [.q 2 .mv [(.c (.bool false))] none])
 .ret) .skip))
 (.reg [.q 136 (.ld (.ag 10)) [(.t 7)] none, .sto (.ag 10) (.t 3) (.t 136)])))))))))
 (.reg [.q 26 .mv [(.t 5)] none, .q 27 (.ar .add .i64) [(.t 26), (.c (.int .i64 1))] none, .q 5 .mv [(.t 27)] none]))))))
 (.seq (.reg [.q 2 .mv [(.c (.bool true))] none])
 .ret)))))))
theorem ft_TrackRuns : FT Try.prog 3 Try.f3 T_TrackRuns [.t 2] := ⟨Try.func3, by kernel_rfl, by kernel_rfl, by kernel_rfl, by kernel_rfl⟩
def T_tracks : TC :=
 (.seq (.reg [.q 0 .mv [(.c (.bool false))] none])
 (.seq (.reg [.pd (some 1) (.call 10) [(.c (.int .i64 17)), (.c (.int .i64 2))] none, .q 2 (.cm .eql .i64) [(.t 1), (.c (.int .i64 20))] none, .q 3 .mv [(.t 2)] none, .q 4 (.bld [(.int .i64 0), (.int .i64 0), (.int .i64 0), (.int .i64 0), (.int .i64 0), (.int .i64 0), (.int .i64 0), (.int .i64 0), (.int .i64 0), (.int .i64 0), (.int .i64 0), (.str [])] [(0, 1)]) [(.c (.int .i64 17))] (some (3, true)), .pd (some 5) (.call 30) [(.t 4)] (some (3, true)), .q 6 .pick [(.t 3), (.t 5), (.c (.bool false))] none, .q 0 .mv [(.t 6)] none])
 .ret))
theorem ft_tracks : FT Try.prog 8 Try.f8 T_tracks [.t 0] := ⟨Try.func8, by kernel_rfl, by kernel_rfl, by kernel_rfl, by kernel_rfl⟩
def T_kpick : TC :=
 (.seq (.reg [.q 4 .mv [(.c (.int .i64 0))] none])
 (.seq (.reg [.q 5 .mv [(.t 0)] none, .q 6 .mv [(.t 1)] none, .q 7 (.dv .rem .i64) [(.t 5), (.t 6)] none, .q 0 .mv [(.t 7)] none])
 (.seq (.seq (.reg [.q 8 .mv [(.t 0)] none, .q 9 (.cm .lss .i64) [(.t 8), (.c (.int .i64 0))] none])
 (.cond (.t 9) (.reg [.q 10 .mv [(.t 0)] none, .q 11 .mv [(.t 1)] none, .q 12 (.ar .add .i64) [(.t 10), (.t 11)] none, .q 0 .mv [(.t 12)] none]) .skip))
 (.seq (.reg [.q 13 .mv [(.t 0)] none, .q 4 .mv [(.t 13)] none])
 .ret))))
theorem ft_kpick : FT Try.prog 11 Try.f11 T_kpick [.t 4] := ⟨Try.func11, by kernel_rfl, by kernel_rfl, by kernel_rfl, by kernel_rfl⟩
def T_First : TC :=
 (.seq (.reg [.bx 1 (.t 0), .q 2 .mv [(.c (.int .i64 0))] none])
 (.seq (.seq (.reg [.q 3 (.fadr 0) [(.t 1)] none, .q 4 (.ld (.sc (.int .i64))) [(.t 3)] none, .q 5 (.cm .eql .i64) [(.t 4), (.c (.int .i64 6))] none])
 (.cond (.t 5) (.seq (.reg [.q 2 .mv [(.c (.int .i64 1))] none])
 .ret) .skip))
 (.seq (.reg [.q 2 .mv [(.c (.int .i64 2))] none])
 .ret)))
theorem ft_First : FT Try.prog 9 Try.f9 T_First [.t 2] := ⟨Try.func9, by kernel_rfl, by kernel_rfl, by kernel_rfl, by kernel_rfl⟩
def T_Life : TC :=
 (.seq (.reg [.q 4 .mv [(.c (.int .i64 0))] none])
 (.seq (.block 0 (.seq (.reg [.q 6 .mv [(.t 0)] none, .q 7 (.cm .eql .i64) [(.t 6), (.c (.int .i64 1))] none, .q 5 .mv [(.t 7)] none])
 (.cond (.t 5) (.seq (.reg [.q 4 .mv [(.c (.int .i64 8))] none])
 .ret) (.seq (.reg [.q 9 .mv [(.t 0)] none, .q 10 (.cm .eql .i64) [(.t 9), (.c (.int .i64 17))] none, .q 8 .mv [(.t 10)] none])
 (.cond (.t 8) (.seq (.reg [.q 4 .mv [(.c (.int .i64 20))] none])
 .ret) (.seq (.reg [.q 12 .mv [(.t 1)] none, .q 13 (.cm .eql .i64) [(.t 12), (.c (.int .i64 2))] none, .q 11 .mv [(.t 13)] none])
 (.cond (.t 11) (.seq (.reg [.q 4 .mv [(.c (.int .i64 60))] none])
 .ret) (.seq (.reg [.q 15 .mv [(.t 1)] none, .q 16 (.cm .eql .i64) [(.t 15), (.c (.int .i64 1))] none, .q 14 .mv [(.t 16)] none])
 (.cond (.t 14) (.seq (.reg [.q 4 .mv [(.c (.int .i64 4))] none])
 .ret) .skip)))))))))
 (.seq (.reg [.q 4 .mv [(.c (.int .i64 6))] none])
 .ret)))
theorem ft_Life : FT Try.prog 10 Try.f10 T_Life [.t 4] := ⟨Try.func10, by kernel_rfl, by kernel_rfl, by kernel_rfl, by kernel_rfl⟩
def T_Next : TC :=
 (.seq (.reg [.bx 4 (.t 0), .bx 5 (.t 1), .al 8 [(.int .i64 0), (.int .i64 0), (.int .i64 0), (.int .i64 0), (.int .i64 0), (.int .i64 0), (.int .i64 0), (.int .i64 0), (.int .i64 0), (.int .i64 0)]])
 (.seq (.reg [.q 12 (.fadr 7) [(.t 4)] none, .q 13 (.ld (.sc (.int .i64))) [(.t 12)] none, .q 9 .mv [(.t 13)] none])
 (.seq (.reg [.q 10 .mv [(.c (.int .i64 0))] none])
 (.seq (.seq (.reg [.q 14 .mv [(.t 2)] none])
 (.cond (.t 14) (.reg [.q 10 .mv [(.c (.int .i64 1))] none]) .skip))
 (.seq (.reg [.q 11 .mv [(.c (.bool true))] none])
 (.seq (.seq (.reg [.q 15 (.fadr 0) [(.t 4)] none, .q 16 (.fadr 0) [(.t 15)] none, .q 17 (.ld (.sc (.int .i64))) [(.t 16)] none, .q 18 (.cm .eql .i64) [(.t 17), (.c (.int .i64 6))] none])
 (.cond (.t 18) (.block 0 (.seq (.reg [.q 20 (.fadr 7) [(.t 5)] none, .q 21 (.ld (.sc (.int .i64))) [(.t 20)] none, .q 22 (.bt .and .i64) [(.t 21), (.c (.int .i64 4))] none, .q 23 (.cm .neq .i64) [(.t 22), (.c (.int .i64 0))] none, .q 19 .mv [(.t 23)] none])
 (.cond (.t 19) (.seq (.reg [.q 24 (.fadr 7) [(.t 4)] none, .sto (.sc (.int .i64)) (.t 24) (.c (.int .i64 4))])
 (.reg [.q 25 .mv [(.t 9)] none, .q 26 (.cm .neq .i64) [(.t 25), (.c (.int .i64 4))] none, .q 11 .mv [(.t 26)] none])) (.seq (.reg [.q 28 .mv [(.t 9)] none, .q 29 (.cm .eql .i64) [(.t 28), (.c (.int .i64 1))] none, .q 30 .mv [(.t 29)] none, .q 31 .mv [(.t 2)] (some (30, true)), .q 32 .pick [(.t 30), (.t 31), (.c (.bool false))] none, .q 33 .mv [(.t 32)] none, .q 34 (.fadr 7) [(.t 5)] (some (33, true)), .q 35 (.ld (.sc (.int .i64))) [(.t 34)] (some (33, true)), .q 36 (.bt .and .i64) [(.t 35), (.c (.int .i64 18))] (some (33, true)), .q 37 (.cm .eql .i64) [(.t 36), (.c (.int .i64 18))] (some (33, true)), .q 38 .pick [(.t 33), (.t 37), (.c (.bool false))] none, .q 27 .mv [(.t 38)] none])
 (.cond (.t 27) (.reg [.q 39 (.fadr 7) [(.t 4)] none, .sto (.sc (.int .i64)) (.t 39) (.c (.int .i64 2))]) (.seq (.reg [.q 41 .mv [(.t 9)] none, .q 42 (.cm .eql .i64) [(.t 41), (.c (.int .i64 2))] none, .q 43 .mv [(.t 42)] none, .q 44 (.fadr 7) [(.t 5)] (some (43, true)), .q 45 (.ld (.sc (.int .i64))) [(.t 44)] (some (43, true)), .q 46 (.bt .and .i64) [(.t 45), (.c (.int .i64 1))] (some (43, true)), .q 47 (.cm .neq .i64) [(.t 46), (.c (.int .i64 0))] (some (43, true)), .q 48 .pick [(.t 43), (.t 47), (.c (.bool false))] none, .q 40 .mv [(.t 48)] none])
 (.cond (.t 40) (.reg [.q 49 .mv [(.t 10)] none, .q 50 (.fadr 7) [(.t 4)] none, .sto (.sc (.int .i64)) (.t 50) (.c (.int .i64 3)), .q 51 (.fadr 8) [(.t 4)] none, .sto (.sc (.int .i64)) (.t 51) (.t 49)]) (.seq (.reg [.q 53 .mv [(.t 9)] none, .q 54 (.cm .eql .i64) [(.t 53), (.c (.int .i64 3))] none, .q 55 .mv [(.t 54)] none, .q 56 (.fadr 7) [(.t 5)] (some (55, true)), .q 57 (.ld (.sc (.int .i64))) [(.t 56)] (some (55, true)), .q 58 (.bt .and .i64) [(.t 57), (.c (.int .i64 1))] (some (55, true)), .q 59 (.cm .neq .i64) [(.t 58), (.c (.int .i64 0))] (some (55, true)), .q 60 .pick [(.t 55), (.t 59), (.c (.bool false))] none, .q 61 .mv [(.t 60)] none, .q 62 (.fadr 8) [(.t 4)] (some (61, true)), .q 63 (.ld (.sc (.int .i64))) [(.t 62)] (some (61, true)), .q 64 .mv [(.t 10)] (some (61, true)), .q 65 (.cm .neq .i64) [(.t 63), (.t 64)] (some (61, true)), .q 66 .pick [(.t 61), (.t 65), (.c (.bool false))] none, .q 52 .mv [(.t 66)] none])
 (.cond (.t 52) (.reg [.q 67 (.fadr 7) [(.t 4)] none, .sto (.sc (.int .i64)) (.t 67) (.c (.int .i64 4))]) (.seq (.reg [.q 69 .mv [(.t 9)] none, .q 70 (.cm .eql .i64) [(.t 69), (.c (.int .i64 1))] none, .q 68 .mv [(.t 70)] none])
 (.cond (.t 68) (.reg [.q 71 .mv [(.t 2)] none, .q 72 .not [(.t 71)] none, .q 73 .mv [(.t 72)] none, .q 74 (.fadr 7) [(.t 5)] (some (73, true)), .q 75 (.ld (.sc (.int .i64))) [(.t 74)] (some (73, true)), .q 76 (.bt .and .i64) [(.t 75), (.c (.int .i64 2))] (some (73, true)), .q 77 (.cm .neq .i64) [(.t 76), (.c (.int .i64 0))] (some (73, true)), .q 78 .pick [(.t 73), (.t 77), (.c (.bool false))] none, .q 11 .mv [(.t 78)] none]) (.seq (.reg [.q 80 .mv [(.t 9)] none, .q 81 (.cm .neq .i64) [(.t 80), (.c (.int .i64 2))] none, .q 79 .mv [(.t 81)] none])
 (.cond (.t 79) (.reg [.q 11 .mv [(.c (.bool false))] none]) .skip))))))))))))) (.seq (.reg [.q 82 .mv [(.t 2)] none, .q 83 .mv [(.t 82)] none, .q 84 (.fadr 0) [(.t 4)] (some (83, true)), .q 85 (.fadr 0) [(.t 84)] (some (83, true)), .q 86 (.ld (.sc (.int .i64))) [(.t 85)] (some (83, true)), .q 87 (.cm .eql .i64) [(.t 86), (.c (.int .i64 17))] (some (83, true)), .q 88 .pick [(.t 83), (.t 87), (.c (.bool false))] none])
 (.cond (.t 88) (.reg [.q 11 .mv [(.c (.bool false))] none]) .skip))))
 (.seq (.seq (.reg [.q 89 .mv [(.t 11)] none])
 (.cond (.t 89) (.reg [.q 90 .mv [(.t 3)] none, .q 91 (.fadr 0) [(.t 4)] none, .q 92 (.fadr 0) [(.t 91)] none, .q 93 (.ld (.sc (.int .i64))) [(.t 92)] none, .q 94 (.fadr 7) [(.t 4)] none, .q 95 (.ld (.sc (.int .i64))) [(.t 94)] none, .pd (some 96) (.call 10) [(.t 93), (.t 95)] none, .q 97 (.ar .add .i64) [(.t 90), (.t 96)] none, .q 98 (.fadr 9) [(.t 4)] none, .sto (.sc (.int .i64)) (.t 98) (.t 97)]) .skip))
 (.seq (.reg [.q 99 (.ld (.ag 10)) [(.t 4)] none, .sto (.ag 10) (.t 8) (.t 99)])
 .ret))))))))
theorem ft_Next : FT Try.prog 12 Try.f12 T_Next [.cell 8 (.ag 10)] := ⟨Try.func12, by kernel_rfl, by kernel_rfl, by kernel_rfl, by kernel_rfl⟩
def T_Begins : TC :=
 (.seq (.reg [.bx 1 (.t 0), .q 2 .mv [(.c (.bool false))] none])
 (.seq (.seq (.reg [.q 3 (.fadr 0) [(.t 1)] none, .q 4 (.ld (.sc (.int .i64))) [(.t 3)] none])
 (.block 0 (.seq (.reg [.q 6 (.cm .eql .i64) [(.t 4), (.c (.int .i64 1))] none, .q 5 .mv [(.t 6)] none])
 (.cond (.t 5) (.seq (.reg [.q 7 (.fadr 7) [(.t 1)] none, .q 8 (.ld (.sc (.int .i64))) [(.t 7)] none, .q 9 (.cm .eql .i64) [(.t 8), (.c (.int .i64 8))] none, .q 2 .mv [(.t 9)] none])
 .ret) (.seq (.reg [.q 11 (.cm .eql .i64) [(.t 4), (.c (.int .i64 6))] none, .q 10 .mv [(.t 11)] none])
 (.cond (.t 10) (.seq (.reg [.q 12 (.fadr 7) [(.t 1)] none, .q 13 (.ld (.sc (.int .i64))) [(.t 12)] none, .q 14 (.bt .and .i64) [(.t 13), (.c (.int .i64 23))] none, .q 15 (.cm .eql .i64) [(.t 14), (.c (.int .i64 2))] none, .q 2 .mv [(.t 15)] none])
 .ret) .skip))))))
 (.seq (.reg [.q 16 (.fadr 0) [(.t 1)] none, .q 17 (.ld (.sc (.int .i64))) [(.t 16)] none, .q 18 (.cm .eql .i64) [(.t 17), (.c (.int .i64 17))] none, .q 2 .mv [(.t 18)] none])
 .ret)))
theorem ft_Begins : FT Try.prog 30 Try.f30 T_Begins [.t 2] := ⟨Try.func30, by kernel_rfl, by kernel_rfl, by kernel_rfl, by kernel_rfl⟩
end Go.Proofs.Ytldeiolmpmcanaa
