/- environlaw11.UnionsWithout returns true for every table of modes and any two numbers, and leaves its arguments as they were.  Conditions: none beyond those stated. -/
import Derived.Test.YtheadodblifklaaGreatX2
namespace Go.Proofs.YtheadodblifklaaGreat
open Go Ax
set_option maxRecDepth 100000
theorem w40 {args : List AVal} {m : AMem} {R : AVal → AMem → Prop} (h : W Tryz.prog (.seq (.reg [⟨some 4,.P (.mov (.c .nilslice)),none⟩]) (.kill [0,1] (.seq (.seq (.reg [⟨some 7,.P (.mov (.t 0)),none⟩,⟨some 8,.P (.mov (.t 1)),none⟩,⟨some 9,.P (.iaddr 6 (.t 7) (.t 8)),none⟩,⟨some 10,.P (.faddr 0 (.t 9)),none⟩,⟨some 11,.R (.load 1 false (.t 10)),none⟩,⟨some 12,.P (.bin .neq (.t 11) (.c (.int .i64 12))),none⟩]) (.kill [0,1,12] (.cond (.t 12) (.seq (.reg [⟨some 13,.P (.mov (.t 1)),none⟩,⟨some 14,.A (.bslice 3 1 [(.int .i64 0)] [(0, (1, (.t 13)))]),none⟩,⟨some 4,.P (.mov (.t 14)),none⟩]) .ret) .skip))) (.kill [0,1] (.seq (.reg [⟨some 16,.P (.mov (.t 0)),none⟩,⟨some 17,.P (.mov (.t 1)),none⟩,⟨some 18,.C (.c (.func (.func 74) [] [])) [(.t 16),(.t 17)],none⟩,⟨some 15,.P (.mov (.t 18)),none⟩,⟨some 19,.P (.ext (.t 15) 0),none⟩,⟨some 20,.P (.ext (.t 15) 1),none⟩,⟨some 5,.P (.mov (.t 19)),none⟩,⟨some 6,.P (.mov (.t 20)),none⟩]) (.kill [5] (.seq (.reg [⟨some 21,.P (.mov (.t 5)),none⟩,⟨some 4,.P (.mov (.t 21)),none⟩]) .ret))))))) (E [(.tmp 4)] R .mk) .mk (mat 22 (sArgs 0 args)) m) (hl : Nat.ble args.length 22 = true := by rfl) : ACalls Tryz.prog 40 args m R := walk mix (by kernel_rfl) (Nat.le_of_ble_eq_true hl) h
theorem w41 {args : List AVal} {m : AMem} {R : AVal → AMem → Prop} (h : W Tryz.prog (.seq (.reg [⟨some 2,.A (.box 53 (.t 0)),none⟩,⟨some 4,.P (.mov (.c (.bool false))),none⟩]) (.kill [1,2] (.seq (.reg [⟨some 5,.P (.faddr 0 (.t 2)),none⟩,⟨some 6,.R (.load 1 false (.t 5)),none⟩,⟨some 7,.P (.mov (.t 1)),none⟩,⟨some 8,.P (.iaddr 6 (.t 6) (.t 7)),none⟩,⟨some 9,.P (.faddr 0 (.t 8)),none⟩,⟨some 10,.R (.load 1 false (.t 9)),none⟩,⟨some 11,.P (.bin .eql (.t 10) (.c (.int .i64 12))),none⟩,⟨some 4,.P (.mov (.t 11)),none⟩]) .ret))) (E [(.tmp 4)] R .mk) .mk (mat 12 (sArgs 0 args)) m) (hl : Nat.ble args.length 12 = true := by rfl) : ACalls Tryz.prog 41 args m R := walk mix (by kernel_rfl) (Nat.le_of_ble_eq_true hl) h
theorem w42 {args : List AVal} {m : AMem} {R : AVal → AMem → Prop} (h : W Tryz.prog (.seq (.reg [⟨some 4,.P (.mov (.c (.int .i64 0))),none⟩]) (.kill [0,1] (.seq (.seq (.reg [⟨some 6,.P (.mov (.t 0)),none⟩,⟨some 7,.P (.len (.t 6)),none⟩,⟨some 8,.P (.mov (.c (.int .i64 0))),none⟩]) (.kill [0,1,7,8] (.block 0 (.kill [0,1,7,8] (.loop (.fin [0,1,7,8] (.seq (.reg [⟨some 9,.P (.bin .lss (.t 8) (.t 7)),none⟩]) (.seq (.cond (.t 9) .skip (.exit 0)) (.kill [0,1,7,8] (.seq (.block 1 (.seq (.reg [⟨some 10,.P (.mov (.t 8)),none⟩,⟨some 5,.P (.mov (.t 10)),none⟩]) (.kill [0,1,5,7,8] (.seq (.reg [⟨some 11,.P (.mov (.t 1)),none⟩,⟨some 12,.P (.mov (.t 0)),none⟩,⟨some 13,.P (.mov (.t 5)),none⟩,⟨some 14,.P (.iaddr 1 (.t 12) (.t 13)),none⟩,⟨some 15,.R (.load 1 false (.t 14)),none⟩,⟨some 16,.C (.t 11) [(.t 15)],none⟩]) (.kill [0,1,5,7,8,16] (.cond (.t 16) (.seq (.reg [⟨some 17,.P (.mov (.t 5)),none⟩,⟨some 4,.P (.mov (.t 17)),none⟩]) .ret) .skip)))))) (.kill [0,1,7,8] (.reg [⟨some 18,.P (.bin .add (.t 8) (.c (.int .i64 1))),none⟩,⟨some 8,.P (.mov (.t 18)),none⟩])))))))))))) (.kill [] (.seq (.reg [⟨some 4,.P (.mov (.c (.int .i64 (-1)))),none⟩]) .ret))))) (E [(.tmp 4)] R .mk) .mk (mat 19 (sArgs 0 args)) m) (hl : Nat.ble args.length 19 = true := by rfl) : ACalls Tryz.prog 42 args m R := walk mix (by kernel_rfl) (Nat.le_of_ble_eq_true hl) h
abbrev h42_0 (t0 t1 t7 t8 : AVal) : AFrame := mat 19 [(0, t0),(1, t1),(7, t7),(8, t8)]
theorem w43 {args : List AVal} {m : AMem} {R : AVal → AMem → Prop} (h : W Tryz.prog (.seq (.reg [⟨some 2,.A (.box 53 (.t 0)),none⟩,⟨some 4,.P (.mov (.c .nilslice)),none⟩]) (.kill [1,2] (.seq (.reg [⟨some 6,.P (.mov (.t 1)),none⟩,⟨some 7,.C (.c (.func (.func 30) [] [])) [(.t 6)],none⟩,⟨some 5,.P (.mov (.t 7)),none⟩]) (.kill [2,5] (.seq (.reg [⟨some 8,.P (.mov (.t 5)),none⟩,⟨some 9,.P (.mkfn (.func 76) [] [(.t 2)]),none⟩,⟨some 10,.C (.c (.func (.func 75) [] [])) [(.t 8),(.t 9)],none⟩]) (.kill [2,5] (.seq (.reg [⟨some 11,.P (.mov (.t 5)),none⟩,⟨some 12,.P (.mkfn (.func 80) [] [(.t 2)]),none⟩,⟨some 13,.C (.c (.func (.func 79) [] [])) [(.t 11),(.t 12)],none⟩,⟨some 4,.P (.mov (.t 13)),none⟩]) .ret))))))) (E [(.tmp 4)] R .mk) .mk (mat 14 (sArgs 0 args)) m) (hl : Nat.ble args.length 14 = true := by rfl) : ACalls Tryz.prog 43 args m R := walk mix (by kernel_rfl) (Nat.le_of_ble_eq_true hl) h
theorem w44 {args : List AVal} {m : AMem} {R : AVal → AMem → Prop} (h : W Tryz.prog (.seq (.reg [⟨some 3,.A (.box 53 (.t 0)),none⟩,⟨some 6,.P (.mov (.c .nilslice)),none⟩]) (.kill [1,2,3] (.seq (.reg [⟨some 10,.P (.faddr 0 (.t 3)),none⟩,⟨some 11,.R (.load 1 false (.t 10)),none⟩,⟨some 12,.P (.len (.t 11)),none⟩,⟨some 13,.A (.mkslice 4 1 [(.bool false)] (.t 12) (.t 12)),none⟩,⟨some 7,.P (.mov (.t 13)),none⟩]) (.kill [1,2,3,7] (.seq (.seq (.reg [⟨some 14,.P (.mov (.t 1)),none⟩,⟨some 15,.A (.bslice 3 1 [(.int .i64 0)] [(0, (1, (.t 14)))]),none⟩,⟨some 8,.P (.mov (.t 15)),none⟩]) (.kill [2,3,7,8] (.block 0 (.kill [2,3,7,8] (.loop (.fin [2,3,7,8] (.seq (.seq (.reg [⟨some 16,.P (.mov (.t 8)),none⟩,⟨some 17,.P (.len (.t 16)),none⟩,⟨some 18,.P (.bin .gtr (.t 17) (.c (.int .i64 0))),none⟩]) (.kill [2,3,7,8,18] (.cond (.t 18) .skip (.exit 0)))) (.kill [2,3,7,8] (.seq (.block 1 (.seq (.reg [⟨some 21,.P (.mov (.t 8)),none⟩,⟨some 22,.P (.iaddr 1 (.t 21) (.c (.int .i64 0))),none⟩,⟨some 23,.R (.load 1 false (.t 22)),none⟩,⟨some 9,.P (.mov (.t 23)),none⟩]) (.kill [2,3,7,8,9] (.seq (.block 2 (.seq (.reg [⟨some 29,.P (.mov (.t 7)),none⟩,⟨some 30,.P (.mov (.t 9)),none⟩,⟨some 31,.P (.iaddr 1 (.t 29) (.t 30)),none⟩,⟨some 32,.R (.load 1 false (.t 31)),none⟩,⟨some 28,.P (.mov (.t 32)),none⟩]) (.kill [2,3,7,8,9,28] (.cond (.t 28) .skip (.seq (.reg [⟨some 34,.R (.load 2 true (.t 3)),none⟩,⟨some 35,.P (.mov (.t 9)),none⟩,⟨some 36,.C (.c (.func (.func 41) [] [])) [(.t 34),(.t 35)],none⟩,⟨some 33,.P (.mov (.t 36)),none⟩]) (.kill [2,3,7,8,9,33] (.cond (.t 33) (.reg [⟨some 37,.P (.mov (.t 8)),none⟩,⟨some 38,.P (.faddr 0 (.t 3)),none⟩,⟨some 39,.R (.load 1 false (.t 38)),none⟩,⟨some 40,.P (.mov (.t 9)),none⟩,⟨some 41,.P (.iaddr 6 (.t 39) (.t 40)),none⟩,⟨some 42,.P (.faddr 2 (.t 41)),none⟩,⟨some 43,.R (.load 1 false (.t 42)),none⟩,⟨some 44,.W (.append 1 8 3 false (.t 37) (.t 43)),none⟩,⟨some 8,.P (.mov (.t 44)),none⟩]) (.reg [⟨some 24,.P (.mov (.t 2)),none⟩,⟨some 25,.P (.mov (.t 9)),none⟩,⟨some 26,.A (.bslice 3 1 [(.int .i64 0)] [(0, (1, (.t 25)))]),none⟩,⟨some 27,.W (.append 1 8 3 false (.t 24) (.t 26)),none⟩,⟨some 2,.P (.mov (.t 27)),none⟩])))))))) (.kill [2,3,7,8,9] (.reg [⟨some 45,.P (.mov (.t 7)),none⟩,⟨some 46,.P (.mov (.t 9)),none⟩,⟨some 47,.P (.iaddr 1 (.t 45) (.t 46)),none⟩,⟨none,.W (.store 1 (.t 47) (.c (.bool true))),none⟩])))))) (.kill [2,3,7,8] (.reg [⟨some 19,.P (.mov (.t 8)),none⟩,⟨some 20,.P (.slice 1 (.t 19) (some (.c (.int .i64 1))) none none),none⟩,⟨some 8,.P (.mov (.t 20)),none⟩]))))))))))) (.kill [2] (.seq (.reg [⟨some 48,.P (.mov (.t 2)),none⟩,⟨some 6,.P (.mov (.t 48)),none⟩]) .ret))))))) (E [(.tmp 6)] R .mk) .mk (mat 49 (sArgs 0 args)) m) (hl : Nat.ble args.length 49 = true := by rfl) : ACalls Tryz.prog 44 args m R := walk mix (by kernel_rfl) (Nat.le_of_ble_eq_true hl) h
abbrev h44_0 (t2 t3 t7 t8 : AVal) : AFrame := mat 49 [(2, t2),(3, t3),(7, t7),(8, t8)]
theorem w45 {args : List AVal} {m : AMem} {R : AVal → AMem → Prop} (h : W Tryz.prog (.seq (.reg [⟨some 4,.P (.mov (.c (.bool false))),none⟩]) (.kill [0,1,2] (.seq (.draw true [⟨some 5,.P (.faddr 1 (.t 1)),none⟩,⟨some 6,.R (.load 1 false (.t 5)),none⟩,⟨some 7,.P (.mov (.t 0)),none⟩,⟨some 8,.P (.iaddr 1 (.t 6) (.t 7)),none⟩,⟨some 9,.R (.load 1 false (.t 8)),none⟩,⟨some 10,.P (.faddr 1 (.t 1)),none⟩,⟨some 11,.R (.load 1 false (.t 10)),none⟩,⟨some 12,.R (.load 1 false (.t 2)),none⟩,⟨some 13,.P (.iaddr 1 (.t 11) (.t 12)),none⟩,⟨some 14,.R (.load 1 false (.t 13)),none⟩,⟨some 15,.P (.bin .eql (.t 9) (.t 14)),none⟩,⟨some 4,.P (.mov (.t 15)),none⟩] [[],[],[],[],[],[],[],[],[],[],[],[]] [[],[],[],[],[],[],[],[],[],[],[],[]] [0,1,2,3,4,5,6,7,8,9,10,11]) .ret))) (E [(.tmp 4)] R .mk) .mk (mat 16 (sArgs 0 args)) m) (hl : Nat.ble args.length 16 = true := by rfl) : ACalls Tryz.prog 45 args m R := walk mix (by kernel_rfl) (Nat.le_of_ble_eq_true hl) h
theorem w46 {args : List AVal} {m : AMem} {R : AVal → AMem → Prop} (h : W Tryz.prog (.seq (.reg [⟨some 3,.A (.box 53 (.t 0)),none⟩,⟨some 5,.A (.box 3 (.t 2)),none⟩,⟨some 6,.P (.mov (.c (.bool false))),none⟩]) (.kill [1,3,5] (.seq (.reg [⟨some 7,.P (.mov (.t 1)),none⟩,⟨some 8,.P (.mkfn (.func 81) [] [(.t 3),(.t 5)]),none⟩,⟨some 9,.C (.c (.func (.func 47) [] [])) [(.t 7),(.t 8)],none⟩,⟨some 6,.P (.mov (.t 9)),none⟩]) .ret))) (E [(.tmp 6)] R .mk) .mk (mat 10 (sArgs 0 args)) m) (hl : Nat.ble args.length 10 = true := by rfl) : ACalls Tryz.prog 46 args m R := walk mix (by kernel_rfl) (Nat.le_of_ble_eq_true hl) h
theorem w47 {args : List AVal} {m : AMem} {R : AVal → AMem → Prop} (h : W Tryz.prog (.seq (.reg [⟨some 4,.P (.mov (.c (.bool false))),none⟩]) (.kill [0,1] (.seq (.reg [⟨some 5,.P (.mov (.t 0)),none⟩,⟨some 6,.P (.mov (.t 1)),none⟩,⟨some 7,.C (.c (.func (.func 42) [] [])) [(.t 5),(.t 6)],none⟩,⟨some 8,.P (.bin .geq (.t 7) (.c (.int .i64 0))),none⟩,⟨some 4,.P (.mov (.t 8)),none⟩]) .ret))) (E [(.tmp 4)] R .mk) .mk (mat 9 (sArgs 0 args)) m) (hl : Nat.ble args.length 9 = true := by rfl) : ACalls Tryz.prog 47 args m R := walk mix (by kernel_rfl) (Nat.le_of_ble_eq_true hl) h
theorem w49 {args : List AVal} {m : AMem} {R : AVal → AMem → Prop} (h : W Tryz.prog (.seq (.reg [⟨some 2,.P (.mov (.c (.int .i64 0))),none⟩]) (.kill [0] (.seq (.seq (.reg [⟨some 11,.P (.mov (.t 0)),none⟩,⟨some 12,.P (.len (.t 11)),none⟩,⟨some 13,.P (.bin .gtr (.t 12) (.c (.int .i64 512))),none⟩]) (.kill [0,13] (.cond (.t 13) (.seq (.reg [⟨some 2,.P (.mov (.c (.int .i64 3))),none⟩]) .ret) .skip))) (.kill [0] (.seq (.seq (.reg [⟨some 14,.P (.mov (.t 0)),none⟩,⟨some 15,.P (.len (.t 14)),none⟩,⟨some 16,.P (.mov (.c (.int .i64 0))),none⟩]) (.block 0 (.kill [0,14,15,16] (.loop (.fin [0,14,15,16] (.seq (.reg [⟨some 17,.P (.bin .lss (.t 16) (.t 15)),none⟩]) (.seq (.cond (.t 17) .skip (.exit 0)) (.kill [0,14,15,16] (.seq (.block 1 (.seq (.reg [⟨some 18,.P (.iaddr 6 (.t 14) (.t 16)),none⟩,⟨some 19,.R (.load 6 true (.t 18)),none⟩,⟨some 4,.A (.alloc 49 [(.int .i64 0),(.int .i64 0), .nilslice, .nilslice, (.int .i64 0),(.bool false)]),none⟩,⟨none,.W (.store 6 (.t 4) (.t 19)),none⟩]) (.kill [0,4,14,15,16] (.seq (.reg [⟨some 20,.P (.mov (.t 0)),none⟩,⟨some 21,.R (.load 6 true (.t 4)),none⟩,⟨some 22,.C (.c (.func (.func 82) [] [])) [(.t 20),(.t 21)],none⟩,⟨some 5,.P (.mov (.t 22)),none⟩]) (.kill [0,5,14,15,16] (.seq (.reg [⟨some 23,.P (.mov (.t 5)),none⟩,⟨some 24,.P (.bin .neq (.t 23) (.c (.int .i64 0))),none⟩]) (.kill [0,5,14,15,16,24] (.cond (.t 24) (.seq (.reg [⟨some 25,.P (.mov (.t 5)),none⟩,⟨some 2,.P (.mov (.t 25)),none⟩]) .ret) .skip)))))))) (.kill [0,14,15,16] (.reg [⟨some 26,.P (.bin .add (.t 16) (.c (.int .i64 1))),none⟩,⟨some 16,.P (.mov (.t 26)),none⟩]))))))))))) (.kill [0] (.seq (.seq (.reg [⟨some 27,.P (.mov (.t 0)),none⟩,⟨some 28,.P (.len (.t 27)),none⟩,⟨some 29,.P (.mov (.c (.int .i64 0))),none⟩]) (.block 2 (.kill [0,27,28,29] (.loop (.fin [0,27,28,29] (.seq (.reg [⟨some 30,.P (.bin .lss (.t 29) (.t 28)),none⟩]) (.seq (.cond (.t 30) .skip (.exit 2)) (.kill [0,27,28,29] (.seq (.block 3 (.seq (.reg [⟨some 31,.P (.iaddr 6 (.t 27) (.t 29)),none⟩,⟨some 32,.R (.load 6 true (.t 31)),none⟩,⟨some 7,.A (.alloc 49 [(.int .i64 0),(.int .i64 0), .nilslice, .nilslice, (.int .i64 0),(.bool false)]),none⟩,⟨none,.W (.store 6 (.t 7) (.t 32)),none⟩]) (.kill [0,7,27,28,29] (.seq (.reg [⟨some 33,.P (.mov (.t 0)),none⟩,⟨some 34,.R (.load 6 true (.t 7)),none⟩,⟨some 35,.C (.c (.func (.func 83) [] [])) [(.t 33),(.t 34)],none⟩]) (.kill [0,27,28,29,35] (.cond (.t 35) (.seq (.reg [⟨some 2,.P (.mov (.c (.int .i64 7))),none⟩]) .ret) .skip)))))) (.kill [0,27,28,29] (.reg [⟨some 36,.P (.bin .add (.t 29) (.c (.int .i64 1))),none⟩,⟨some 29,.P (.mov (.t 36)),none⟩]))))))))))) (.kill [0] (.seq (.seq (.reg [⟨some 37,.P (.mov (.t 0)),none⟩,⟨some 38,.C (.c (.func (.func 85) [] [])) [(.t 37)],none⟩,⟨some 39,.C (.c (.func (.func 84) [] [])) [(.t 38),(.c (.bool false))],none⟩]) (.kill [0,39] (.cond (.t 39) (.seq (.reg [⟨some 2,.P (.mov (.c (.int .i64 10))),none⟩]) .ret) .skip))) (.kill [0] (.seq (.reg [⟨some 40,.P (.mov (.t 0)),none⟩,⟨some 41,.C (.c (.func (.func 86) [] [])) [(.t 40)],none⟩,⟨some 8,.A (.alloc 83 [.nilslice]),none⟩,⟨none,.W (.store 1 (.t 8) (.t 41)),none⟩]) (.kill [0,8] (.seq (.seq (.reg [⟨some 42,.P (.mov (.t 0)),none⟩,⟨some 43,.P (.len (.t 42)),none⟩,⟨some 44,.P (.mov (.c (.int .i64 0))),none⟩]) (.kill [8,42,43,44] (.block 4 (.kill [8,42,43,44] (.loop (.fin [8,42,43,44] (.seq (.reg [⟨some 45,.P (.bin .lss (.t 44) (.t 43)),none⟩]) (.seq (.cond (.t 45) .skip (.exit 4)) (.kill [8,42,43,44] (.seq (.block 5 (.seq (.reg [⟨some 46,.P (.iaddr 6 (.t 42) (.t 44)),none⟩,⟨some 47,.R (.load 6 true (.t 46)),none⟩,⟨some 10,.A (.alloc 49 [(.int .i64 0),(.int .i64 0), .nilslice, .nilslice, (.int .i64 0),(.bool false)]),none⟩,⟨none,.W (.store 6 (.t 10) (.t 47)),none⟩]) (.kill [8,10,42,43,44] (.seq (.reg [⟨some 48,.P (.faddr 0 (.t 10)),none⟩,⟨some 49,.R (.load 1 false (.t 48)),none⟩,⟨some 50,.P (.bin .eql (.t 49) (.c (.int .i64 12))),none⟩,⟨some 51,.P (.mov (.t 50)),none⟩,⟨some 52,.P (.faddr 0 (.t 10)),(some (51, false))⟩,⟨some 53,.R (.load 1 false (.t 52)),(some (51, false))⟩,⟨some 54,.P (.bin .eql (.t 53) (.c (.int .i64 13))),(some (51, false))⟩,⟨some 55,.P (.pick (.t 51) (.c (.bool true)) (.t 54)),none⟩,⟨some 56,.P (.mov (.t 55)),none⟩,⟨some 57,.P (.faddr 2 (.t 10)),(some (56, true))⟩,⟨some 58,.R (.load 1 false (.t 57)),(some (56, true))⟩,⟨some 59,.P (.mkfn (.func 87) [] [(.t 8)]),(some (56, true))⟩,⟨some 60,.C (.c (.func (.func 47) [] [])) [(.t 58),(.t 59)], (some (56, true))⟩,⟨some 61,.P (.pick (.t 56) (.t 60) (.c (.bool false))),none⟩]) (.kill [8,42,43,44,61] (.cond (.t 61) (.seq (.reg [⟨some 2,.P (.mov (.c (.int .i64 7))),none⟩]) .ret) .skip)))))) (.kill [8,42,43,44] (.reg [⟨some 62,.P (.bin .add (.t 44) (.c (.int .i64 1))),none⟩,⟨some 44,.P (.mov (.t 62)),none⟩])))))))))))) (.kill [] (.seq (.reg [⟨some 2,.P (.mov (.c (.int .i64 0))),none⟩]) .ret))))))))))))))) (E [(.tmp 2)] R .mk) .mk (mat 63 (sArgs 0 args)) m) (hl : Nat.ble args.length 63 = true := by rfl) : ACalls Tryz.prog 49 args m R := walk mix (by kernel_rfl) (Nat.le_of_ble_eq_true hl) h
abbrev h49_0 (t0 t14 t15 t16 : AVal) : AFrame := mat 63 [(0, t0),(14, t14),(15, t15),(16, t16)]
abbrev h49_1 (t0 t27 t28 t29 : AVal) : AFrame := mat 63 [(0, t0),(27, t27),(28, t28),(29, t29)]
abbrev h49_2 (t8 t42 t43 t44 : AVal) : AFrame := mat 63 [(8, t8),(42, t42),(43, t43),(44, t44)]
theorem w51 {args : List AVal} {m : AMem} {R : AVal → AMem → Prop} (h : W Tryz.prog (.seq (.reg [⟨some 2,.A (.box 22 (.t 0)),none⟩,⟨some 4,.P (.mov (.c (.int .i64 0))),none⟩]) (.kill [1,2] (.seq (.seq (.reg [⟨some 6,.R (.load 1 false (.t 2)),none⟩,⟨some 7,.C (.c (.func (.func 49) [] [])) [(.t 6)],none⟩,⟨some 5,.P (.mov (.t 7)),none⟩]) (.kill [1,2,5] (.seq (.reg [⟨some 8,.P (.mov (.t 5)),none⟩,⟨some 9,.P (.bin .neq (.t 8) (.c (.int .i64 0))),none⟩]) (.kill [1,2,5,9] (.cond (.t 9) (.seq (.reg [⟨some 10,.P (.mov (.t 5)),none⟩,⟨some 4,.P (.mov (.t 10)),none⟩]) .ret) .skip))))) (.kill [1,2] (.seq (.seq (.reg [⟨some 11,.P (.mov (.t 1)),none⟩,⟨some 12,.P (.mkfn (.func 88) [] [(.t 2)]),none⟩,⟨some 13,.C (.c (.func (.func 47) [] [])) [(.t 11),(.t 12)],none⟩]) (.kill [13] (.cond (.t 13) (.seq (.reg [⟨some 4,.P (.mov (.c (.int .i64 11))),none⟩]) .ret) .skip))) (.kill [] (.seq (.reg [⟨some 4,.P (.mov (.c (.int .i64 0))),none⟩]) .ret))))))) (E [(.tmp 4)] R .mk) .mk (mat 14 (sArgs 0 args)) m) (hl : Nat.ble args.length 14 = true := by rfl) : ACalls Tryz.prog 51 args m R := walk mix (by kernel_rfl) (Nat.le_of_ble_eq_true hl) h
theorem w52 {args : List AVal} {m : AMem} {R : AVal → AMem → Prop} (h : W Tryz.prog (.seq (.reg [⟨some 1,.A (.box 22 (.t 0)),none⟩,⟨some 2,.P (.mov (.c .nilslice)),none⟩]) (.kill [1] (.seq (.reg [⟨some 15,.R (.load 1 false (.t 1)),none⟩,⟨some 16,.P (.len (.t 15)),none⟩,⟨some 17,.A (.mkslice 33 24 [.nilslice] (.t 16) (.t 16)),none⟩,⟨some 3,.P (.mov (.t 17)),none⟩]) (.kill [1,3] (.seq (.seq (.reg [⟨some 18,.R (.load 1 false (.t 1)),none⟩,⟨some 19,.P (.len (.t 18)),none⟩,⟨some 20,.P (.mov (.c (.int .i64 0))),none⟩]) (.block 0 (.kill [1,3,18,19,20] (.loop (.fin [1,3,18,19,20] (.seq (.reg [⟨some 21,.P (.bin .lss (.t 20) (.t 19)),none⟩]) (.seq (.cond (.t 21) .skip (.exit 0)) (.kill [1,3,18,19,20] (.seq (.block 1 (.seq (.reg [⟨some 22,.P (.mov (.t 20)),none⟩,⟨some 23,.P (.iaddr 6 (.t 18) (.t 20)),none⟩,⟨some 24,.R (.load 6 true (.t 23)),none⟩,⟨some 5,.A (.alloc 49 [(.int .i64 0),(.int .i64 0), .nilslice, .nilslice, (.int .i64 0),(.bool false)]),none⟩,⟨some 4,.P (.mov (.t 22)),none⟩,⟨none,.W (.store 6 (.t 5) (.t 24)),none⟩]) (.kill [1,3,4,5,18,19,20] (.seq (.reg [⟨some 25,.P (.mov (.t 3)),none⟩,⟨some 26,.P (.mov (.t 4)),none⟩,⟨some 27,.P (.faddr 2 (.t 5)),none⟩,⟨some 28,.R (.load 1 false (.t 27)),none⟩,⟨some 29,.P (.iaddr 1 (.t 25) (.t 26)),none⟩,⟨none,.W (.store 1 (.t 29) (.t 28)),none⟩]) (.kill [1,3,4,5,18,19,20] (.seq (.reg [⟨some 30,.P (.faddr 0 (.t 5)),none⟩,⟨some 31,.R (.load 1 false (.t 30)),none⟩,⟨some 32,.P (.bin .eql (.t 31) (.c (.int .i64 12))),none⟩]) (.kill [1,3,4,18,19,20,32] (.cond (.t 32) (.reg [⟨some 33,.P (.mov (.t 3)),none⟩,⟨some 34,.P (.mov (.t 4)),none⟩,⟨some 35,.R (.load 1 false (.t 1)),none⟩,⟨some 36,.P (.mov (.t 4)),none⟩,⟨some 37,.C (.c (.func (.func 89) [] [])) [(.t 35),(.t 36),(.c .nilslice)],none⟩,⟨some 38,.P (.iaddr 1 (.t 33) (.t 34)),none⟩,⟨none,.W (.store 1 (.t 38) (.t 37)),none⟩]) .skip)))))))) (.kill [1,3,18,19,20] (.reg [⟨some 39,.P (.bin .add (.t 20) (.c (.int .i64 1))),none⟩,⟨some 20,.P (.mov (.t 39)),none⟩]))))))))))) (.kill [1,3] (.seq (.reg [⟨some 41,.R (.load 1 false (.t 1)),none⟩,⟨some 42,.P (.len (.t 41)),none⟩,⟨some 43,.P (.mkfn (.func 91) [] [(.t 1)]),none⟩,⟨some 44,.C (.c (.func (.func 90) [] [])) [(.t 42),(.t 43)],none⟩,⟨some 40,.P (.mov (.t 44)),none⟩,⟨some 45,.P (.ext (.t 40) 0),none⟩,⟨some 46,.P (.ext (.t 40) 1),none⟩,⟨some 6,.A (.alloc 33 [.nilslice]),none⟩,⟨none,.W (.store 1 (.t 6) (.t 45)),none⟩,⟨some 7,.P (.mov (.t 46)),none⟩]) (.kill [1,3,6,7] (.block 2 (.kill [1,3,6,7] (.loop (.fin [1,3,6,7] (.block 3 (.seq (.reg [⟨some 47,.R (.load 1 false (.t 1)),none⟩,⟨some 48,.P (.len (.t 47)),none⟩,⟨some 49,.A (.mkslice 33 24 [.nilslice] (.t 48) (.t 48)),none⟩,⟨some 8,.A (.alloc 88 [.nilslice]),none⟩,⟨none,.W (.store 1 (.t 8) (.t 49)),none⟩]) (.kill [1,3,6,7,8] (.seq (.seq (.reg [⟨some 50,.R (.load 1 false (.t 1)),none⟩,⟨some 51,.P (.len (.t 50)),none⟩,⟨some 52,.P (.mov (.c (.int .i64 0))),none⟩]) (.block 4 (.kill [1,3,6,7,8,50,51,52] (.loop (.fin [1,3,6,7,8,50,51,52] (.seq (.reg [⟨some 53,.P (.bin .lss (.t 52) (.t 51)),none⟩]) (.seq (.cond (.t 53) .skip (.exit 4)) (.kill [1,3,6,7,8,50,51,52] (.seq (.block 5 (.seq (.reg [⟨some 54,.P (.mov (.t 52)),none⟩,⟨some 55,.P (.iaddr 6 (.t 50) (.t 52)),none⟩,⟨some 56,.R (.load 6 true (.t 55)),none⟩,⟨some 10,.A (.alloc 49 [(.int .i64 0),(.int .i64 0), .nilslice, .nilslice, (.int .i64 0),(.bool false)]),none⟩,⟨some 9,.P (.mov (.t 54)),none⟩,⟨none,.W (.store 6 (.t 10) (.t 56)),none⟩]) (.kill [1,3,6,7,8,9,10,50,51,52] (.seq (.seq (.reg [⟨some 57,.P (.mov (.t 3)),none⟩,⟨some 58,.P (.mov (.t 9)),none⟩,⟨some 59,.P (.iaddr 1 (.t 57) (.t 58)),none⟩,⟨some 60,.R (.load 1 false (.t 59)),none⟩,⟨some 61,.P (.len (.t 60)),none⟩,⟨some 62,.P (.mov (.c (.int .i64 0))),none⟩]) (.kill [1,3,6,7,8,9,10,50,51,52,60,61,62] (.block 6 (.kill [1,3,6,7,8,9,10,50,51,52,60,61,62] (.loop (.fin [1,3,6,7,8,9,10,50,51,52,60,61,62] (.seq (.reg [⟨some 63,.P (.bin .lss (.t 62) (.t 61)),none⟩]) (.seq (.cond (.t 63) .skip (.exit 6)) (.kill [1,3,6,7,8,9,10,50,51,52,60,61,62] (.seq (.block 7 (.seq (.reg [⟨some 64,.P (.iaddr 1 (.t 60) (.t 62)),none⟩,⟨some 65,.R (.load 1 false (.t 64)),none⟩,⟨some 12,.P (.mov (.t 65)),none⟩]) (.kill [1,3,6,7,8,9,10,12,50,51,52,60,61,62] (.draw true [⟨some 66,.R (.load 1 false (.t 8)),none⟩,⟨some 67,.P (.mov (.t 9)),none⟩,⟨some 68,.R (.load 1 false (.t 8)),none⟩,⟨some 69,.P (.mov (.t 9)),none⟩,⟨some 70,.P (.iaddr 1 (.t 68) (.t 69)),none⟩,⟨some 71,.R (.load 1 false (.t 70)),none⟩,⟨some 72,.R (.load 1 false (.t 6)),none⟩,⟨some 73,.P (.mov (.t 12)),none⟩,⟨some 74,.P (.iaddr 1 (.t 72) (.t 73)),none⟩,⟨some 75,.R (.load 1 false (.t 74)),none⟩,⟨some 76,.A (.bslice 3 1 [(.int .i64 0)] [(0, (1, (.t 75)))]),none⟩,⟨some 77,.W (.append 1 8 3 false (.t 71) (.t 76)),none⟩,⟨some 78,.P (.iaddr 1 (.t 66) (.t 67)),none⟩,⟨none,.W (.store 1 (.t 78) (.t 77)),none⟩] [[],[],[],[],[],[],[],[],[],[],[],[10], [10], [10]] [[],[],[],[],[],[],[],[],[],[],[],[0], [],[]] [0,1,2,3,4,5,6,7,8,9,10,11,12,13])))) (.kill [1,3,6,7,8,9,10,50,51,52,60,61,62] (.reg [⟨some 79,.P (.bin .add (.t 62) (.c (.int .i64 1))),none⟩,⟨some 62,.P (.mov (.t 79)),none⟩])))))))))))) (.kill [1,3,6,7,8,9,10,50,51,52] (.seq (.reg [⟨some 80,.P (.faddr 0 (.t 10)),none⟩,⟨some 81,.R (.load 1 false (.t 80)),none⟩,⟨some 82,.P (.bin .eql (.t 81) (.c (.int .i64 12))),none⟩]) (.kill [1,3,6,7,8,9,50,51,52,82] (.cond (.t 82) (.seq (.reg [⟨some 83,.R (.load 1 false (.t 8)),none⟩,⟨some 84,.P (.mov (.t 9)),none⟩,⟨some 85,.P (.iaddr 1 (.t 83) (.t 84)),none⟩,⟨some 86,.R (.load 1 false (.t 85)),none⟩,⟨some 87,.C (.c (.func (.func 93) [] [])) [(.t 86)],none⟩]) (.kill [1,3,6,7,8,9,50,51,52] (.draw true [⟨some 88,.R (.load 1 false (.t 8)),none⟩,⟨some 89,.P (.mov (.t 9)),none⟩,⟨some 90,.R (.load 1 false (.t 8)),none⟩,⟨some 91,.P (.mov (.t 9)),none⟩,⟨some 92,.P (.iaddr 1 (.t 90) (.t 91)),none⟩,⟨some 93,.R (.load 1 false (.t 92)),none⟩,⟨some 94,.C (.c (.func (.func 94) [] [])) [(.t 93)],none⟩,⟨some 95,.P (.iaddr 1 (.t 88) (.t 89)),none⟩,⟨none,.W (.store 1 (.t 95) (.t 94)),none⟩] [[],[],[],[],[],[],[],[6], [6]] [[],[],[],[],[],[],[0], [],[]] [0,1,2,3,4,5,6,7,8]))) .skip)))))))) (.kill [1,3,6,7,8,50,51,52] (.reg [⟨some 96,.P (.bin .add (.t 52) (.c (.int .i64 1))),none⟩,⟨some 52,.P (.mov (.t 96)),none⟩]))))))))))) (.kill [1,3,6,7,8] (.seq (.reg [⟨some 98,.R (.load 1 false (.t 1)),none⟩,⟨some 99,.P (.len (.t 98)),none⟩,⟨some 100,.P (.mkfn (.func 95) [] [(.t 6),(.t 8)]),none⟩,⟨some 101,.C (.c (.func (.func 90) [] [])) [(.t 99),(.t 100)],none⟩,⟨some 97,.P (.mov (.t 101)),none⟩,⟨some 102,.P (.ext (.t 97) 0),none⟩,⟨some 103,.P (.ext (.t 97) 1),none⟩,⟨some 13,.P (.mov (.t 102)),none⟩,⟨some 14,.P (.mov (.t 103)),none⟩]) (.kill [1,3,6,7,13,14] (.seq (.seq (.reg [⟨some 104,.P (.mov (.t 14)),none⟩,⟨some 105,.P (.mov (.t 7)),none⟩,⟨some 106,.P (.bin .eql (.t 104) (.t 105)),none⟩]) (.kill [1,3,6,13,14,106] (.cond (.t 106) (.seq (.reg [⟨some 107,.P (.mov (.t 13)),none⟩,⟨some 2,.P (.mov (.t 107)),none⟩]) .ret) .skip))) (.kill [1,3,6,13,14] (.reg [⟨some 108,.P (.mov (.t 13)),none⟩,⟨some 109,.P (.mov (.t 14)),none⟩,⟨none,.W (.store 1 (.t 6) (.t 108)),none⟩,⟨some 7,.P (.mov (.t 109)),none⟩])))))))))))))))))))))) (E [(.tmp 2)] R .mk) .mk (mat 110 (sArgs 0 args)) m) (hl : Nat.ble args.length 110 = true := by rfl) : ACalls Tryz.prog 52 args m R := walk mix (by kernel_rfl) (Nat.le_of_ble_eq_true hl) h
abbrev h52_0 (t1 t3 t18 t19 t20 : AVal) : AFrame := mat 110 [(1, t1),(3, t3),(18, t18),(19, t19),(20, t20)]
abbrev h52_1 (t1 t3 t6 t7 : AVal) : AFrame := mat 110 [(1, t1),(3, t3),(6, t6),(7, t7)]
abbrev h52_2 (t1 t3 t6 t7 t8 t50 t51 t52 : AVal) : AFrame := mat 110 [(1, t1),(3, t3),(6, t6),(7, t7),(8, t8),(50, t50),(51, t51),(52, t52)]
abbrev h52_3 (t1 t3 t6 t7 t8 t9 t10 t50 t51 t52 t60 t61 t62 : AVal) : AFrame := mat 110 [(1, t1),(3, t3),(6, t6),(7, t7),(8, t8),(9, t9),(10, t10),(50, t50),(51, t51),(52, t52),(60, t60),(61, t61),(62, t62)]
theorem w53 {args : List AVal} {m : AMem} {R : AVal → AMem → Prop} (h : W Tryz.prog (.seq (.reg [⟨some 4,.P (.mov (.c .nilslice)),none⟩]) (.kill [0,1] (.seq (.reg [⟨some 8,.P (.mov (.t 0)),none⟩,⟨some 9,.P (.mov (.t 1)),none⟩,⟨some 10,.C (.c (.func (.func 42) [] [])) [(.t 8),(.t 9)],none⟩,⟨some 5,.P (.mov (.t 10)),none⟩]) (.kill [0,1,5] (.seq (.seq (.reg [⟨some 11,.P (.mov (.t 5)),none⟩,⟨some 12,.P (.bin .eql (.t 11) (.c (.int .i64 (-1)))),none⟩]) (.kill [0,1,5,12] (.cond (.t 12) (.seq (.reg [⟨some 13,.P (.mov (.t 0)),none⟩,⟨some 4,.P (.mov (.t 13)),none⟩]) .ret) .skip))) (.kill [0,1,5] (.seq (.seq (.reg [⟨some 14,.P (.mov (.t 5)),none⟩,⟨some 15,.P (.bin .add (.t 14) (.c (.int .i64 1))),none⟩,⟨some 6,.P (.mov (.t 15)),none⟩]) (.kill [0,1,5,6] (.block 0 (.kill [0,1,5,6] (.loop (.fin [0,1,5,6] (.seq (.seq (.reg [⟨some 16,.P (.mov (.t 6)),none⟩,⟨some 17,.P (.mov (.t 0)),none⟩,⟨some 18,.P (.len (.t 17)),none⟩,⟨some 19,.P (.bin .lss (.t 16) (.t 18)),none⟩]) (.kill [0,1,5,6,19] (.cond (.t 19) .skip (.exit 0)))) (.kill [0,1,5,6] (.seq (.block 1 (.seq (.reg [⟨some 22,.P (.mov (.t 0)),none⟩,⟨some 23,.P (.mov (.t 6)),none⟩,⟨some 24,.P (.iaddr 1 (.t 22) (.t 23)),none⟩,⟨some 25,.R (.load 1 false (.t 24)),none⟩,⟨some 7,.P (.mov (.t 25)),none⟩]) (.kill [0,1,5,6,7] (.seq (.reg [⟨some 26,.P (.mov (.t 1)),none⟩,⟨some 27,.P (.mov (.t 7)),none⟩,⟨some 28,.C (.t 26) [(.t 27)],none⟩,⟨some 29,.P (.un .not (.t 28)),none⟩]) (.kill [0,1,5,6,7,29] (.cond (.t 29) (.seq (.reg [⟨some 30,.P (.mov (.t 0)),none⟩,⟨some 31,.P (.mov (.t 5)),none⟩,⟨some 32,.P (.mov (.t 7)),none⟩,⟨some 33,.P (.iaddr 1 (.t 30) (.t 31)),none⟩,⟨none,.W (.store 1 (.t 33) (.t 32)),none⟩]) (.kill [0,1,5,6] (.reg [⟨some 34,.P (.mov (.t 5)),none⟩,⟨some 35,.P (.bin .add (.t 34) (.c (.int .i64 1))),none⟩,⟨some 5,.P (.mov (.t 35)),none⟩]))) .skip)))))) (.kill [0,1,5,6] (.reg [⟨some 20,.P (.mov (.t 6)),none⟩,⟨some 21,.P (.bin .add (.t 20) (.c (.int .i64 1))),none⟩,⟨some 6,.P (.mov (.t 21)),none⟩]))))))))))) (.kill [0,5] (.seq (.reg [⟨some 36,.P (.mov (.t 0)),none⟩,⟨some 37,.P (.mov (.t 5)),none⟩,⟨some 38,.P (.slice 1 (.t 36) (some (.t 37)) none none),none⟩,⟨none,.W (.clear [(.int .i64 0)] (.t 38)),none⟩]) (.kill [0,5] (.seq (.reg [⟨some 39,.P (.mov (.t 0)),none⟩,⟨some 40,.P (.mov (.t 5)),none⟩,⟨some 41,.P (.slice 1 (.t 39) none (some (.t 40)) none),none⟩,⟨some 4,.P (.mov (.t 41)),none⟩]) .ret))))))))))) (E [(.tmp 4)] R .mk) .mk (mat 42 (sArgs 0 args)) m) (hl : Nat.ble args.length 42 = true := by rfl) : ACalls Tryz.prog 53 args m R := walk mix (by kernel_rfl) (Nat.le_of_ble_eq_true hl) h
abbrev h53_0 (t0 t1 t5 t6 : AVal) : AFrame := mat 42 [(0, t0),(1, t1),(5, t5),(6, t6)]
theorem w55 {args : List AVal} {m : AMem} {R : AVal → AMem → Prop} (h : W Tryz.prog (.seq (.reg [⟨some 4,.P (.mov (.c (.bool false))),none⟩]) (.kill [0,1,2] (.seq (.reg [⟨some 5,.R (.load 2 true (.t 1)),none⟩,⟨some 6,.R (.load 1 false (.t 2)),none⟩,⟨some 7,.P (.mov (.t 0)),none⟩,⟨some 8,.C (.c (.func (.func 46) [] [])) [(.t 5),(.t 6),(.t 7)],none⟩,⟨some 4,.P (.mov (.t 8)),none⟩]) .ret))) (E [(.tmp 4)] R .mk) .mk (mat 9 (sArgs 0 args)) m) (hl : Nat.ble args.length 9 = true := by rfl) : ACalls Tryz.prog 55 args m R := walk mix (by kernel_rfl) (Nat.le_of_ble_eq_true hl) h
theorem w56 {args : List AVal} {m : AMem} {R : AVal → AMem → Prop} (h : W Tryz.prog (.seq (.reg [⟨some 2,.A (.box 53 (.t 0)),none⟩,⟨some 4,.P (.mov (.c .nilslice)),none⟩,⟨some 5,.P (.mov (.c (.int .i64 0))),none⟩,⟨some 6,.P (.mov (.c (.int .i64 0))),none⟩]) (.kill [1,2] (.seq (.seq (.reg [⟨some 10,.P (.mov (.t 1)),none⟩,⟨some 11,.P (.len (.t 10)),none⟩,⟨some 12,.P (.bin .eql (.t 11) (.c (.int .i64 1))),none⟩]) (.kill [1,2,12] (.cond (.t 12) (.seq (.draw true [⟨some 14,.P (.faddr 0 (.t 2)),none⟩,⟨some 15,.R (.load 1 false (.t 14)),none⟩,⟨some 16,.P (.faddr 0 (.t 2)),none⟩,⟨some 17,.R (.load 1 false (.t 16)),none⟩,⟨some 18,.P (.mov (.t 1)),none⟩,⟨some 19,.P (.iaddr 1 (.t 18) (.c (.int .i64 0))),none⟩,⟨some 20,.R (.load 1 false (.t 19)),none⟩,⟨some 21,.P (.iaddr 6 (.t 17) (.t 20)),none⟩,⟨some 22,.R (.load 6 true (.t 21)),none⟩,⟨some 23,.C (.c (.func (.func 97) [] [])) [(.t 15),(.t 22)],none⟩,⟨some 13,.P (.mov (.t 23)),none⟩,⟨some 24,.P (.ext (.t 13) 0),none⟩,⟨some 25,.P (.ext (.t 13) 1),none⟩,⟨some 26,.P (.ext (.t 13) 2),none⟩,⟨some 7,.P (.mov (.t 24)),none⟩,⟨some 8,.P (.mov (.t 25)),none⟩,⟨some 9,.P (.mov (.t 26)),none⟩] [[],[],[],[],[],[],[],[],[],[],[9], [9], [9], [9], [9], [9], [9]] [[],[],[],[],[],[],[],[],[],[],[],[],[],[],[],[],[]] [0,1,2,3,4,5,6,7,8,9,10,11,12,13,14,15,16]) (.kill [1,2,7,9] (.seq (.draw true [⟨some 27,.P (.mov (.t 7)),none⟩,⟨some 28,.P (.faddr 1 (.t 2)),none⟩,⟨some 29,.R (.load 1 false (.t 28)),none⟩,⟨some 30,.P (.faddr 1 (.t 2)),none⟩,⟨some 31,.R (.load 1 false (.t 30)),none⟩,⟨some 32,.P (.mov (.t 1)),none⟩,⟨some 33,.P (.iaddr 1 (.t 32) (.c (.int .i64 0))),none⟩,⟨some 34,.R (.load 1 false (.t 33)),none⟩,⟨some 35,.P (.iaddr 1 (.t 31) (.t 34)),none⟩,⟨some 36,.R (.load 1 false (.t 35)),none⟩,⟨some 37,.C (.c (.func (.func 98) [] [])) [(.t 29),(.t 36)],none⟩,⟨some 38,.P (.mov (.t 9)),none⟩,⟨some 4,.P (.mov (.t 27)),none⟩,⟨some 5,.P (.mov (.t 37)),none⟩,⟨some 6,.P (.mov (.t 38)),none⟩] [[],[],[],[],[],[],[],[],[],[],[],[],[10], [10], [10]] [[],[],[],[],[],[],[],[],[],[],[],[],[],[],[]] [0,1,2,3,4,5,6,7,8,9,11,10,12,13,14]) .ret))) .skip))) (.kill [1,2] (.seq (.reg [⟨some 39,.P (.faddr 0 (.t 2)),none⟩,⟨some 40,.R (.load 1 false (.t 39)),none⟩,⟨some 41,.P (.mov (.t 1)),none⟩,⟨some 42,.P (.build [(.int .i64 0),(.int .i64 0), .nilslice, .nilslice, (.int .i64 0),(.bool false)] [(0, (1, (.c (.int .i64 12)))),(2, (1, (.t 41)))]),none⟩,⟨some 43,.C (.c (.func (.func 97) [] [])) [(.t 40),(.t 42)],none⟩,⟨some 44,.P (.ext (.t 43) 0),none⟩,⟨some 45,.P (.ext (.t 43) 1),none⟩,⟨some 46,.P (.ext (.t 43) 2),none⟩,⟨some 4,.P (.mov (.t 44)),none⟩,⟨some 5,.P (.mov (.t 45)),none⟩,⟨some 6,.P (.mov (.t 46)),none⟩]) .ret))))) (E [(.tmp 4),(.tmp 5),(.tmp 6)] R .mk) .mk (mat 47 (sArgs 0 args)) m) (hl : Nat.ble args.length 47 = true := by rfl) : ACalls Tryz.prog 56 args m R := walk mix (by kernel_rfl) (Nat.le_of_ble_eq_true hl) h
end Go.Proofs.YtheadodblifklaaGreat
namespace Go.Proofs.YtheadodblifklaaGreat
open Go Ax
set_option maxRecDepth 100000
theorem w57 {args : List AVal} {m : AMem} {R : AVal → AMem → Prop} (h : W Tryz.prog (.seq (.reg [⟨some 6,.P (.mov (.c .nilslice)),none⟩,⟨some 7,.P (.mov (.c (.int .i64 0))),none⟩,⟨some 8,.P (.mov (.c (.int .i64 0))),none⟩]) (.kill [0,1,2] (.seq (.reg [⟨some 16,.P (.mov (.t 0)),none⟩,⟨some 17,.C (.c (.func (.func 39) [] [])) [(.t 16)],none⟩,⟨some 9,.P (.mov (.t 17)),none⟩]) (.kill [0,1,2,9] (.seq (.reg [⟨some 18,.P (.mov (.t 9)),none⟩,⟨some 19,.P (.mov (.t 1)),none⟩,⟨some 20,.C (.c (.func (.func 99) [] [])) [(.t 18),(.t 19)],none⟩,⟨some 10,.P (.mov (.t 20)),none⟩]) (.kill [0,2,9,10] (.seq (.seq (.reg [⟨some 21,.P (.mov (.t 10)),none⟩,⟨some 22,.P (.len (.t 21)),none⟩,⟨some 23,.P (.bin .eql (.t 22) (.c (.int .i64 1))),none⟩]) (.kill [0,2,9,10,23] (.cond (.t 23) (.seq (.reg [⟨some 24,.P (.mov (.t 0)),none⟩,⟨some 25,.P (.mov (.t 9)),none⟩,⟨some 26,.P (.mov (.t 10)),none⟩,⟨some 27,.P (.iaddr 1 (.t 26) (.c (.int .i64 0))),none⟩,⟨some 28,.R (.load 1 false (.t 27)),none⟩,⟨some 29,.C (.c (.func (.func 100) [] [])) [(.t 24),(.t 25),(.t 28)],none⟩,⟨some 30,.P (.ext (.t 29) 0),none⟩,⟨some 31,.P (.ext (.t 29) 1),none⟩,⟨some 32,.P (.ext (.t 29) 2),none⟩,⟨some 6,.P (.mov (.t 30)),none⟩,⟨some 7,.P (.mov (.t 31)),none⟩,⟨some 8,.P (.mov (.t 32)),none⟩]) .ret) .skip))) (.kill [0,2,9,10] (.seq (.seq (.reg [⟨some 11,.P (.mov (.c (.int .i64 0))),none⟩]) (.block 0 (.kill [0,2,9,10,11] (.loop (.fin [0,2,9,10,11] (.seq (.seq (.reg [⟨some 33,.P (.mov (.t 11)),none⟩,⟨some 34,.P (.mov (.t 2)),none⟩,⟨some 35,.P (.len (.t 34)),none⟩,⟨some 36,.P (.bin .lss (.t 33) (.t 35)),none⟩]) (.kill [0,2,9,10,11,36] (.cond (.t 36) .skip (.exit 0)))) (.kill [0,2,9,10,11] (.seq (.block 1 (.seq (.seq (.reg [⟨some 39,.P (.mov (.t 0)),none⟩,⟨some 40,.P (.mov (.t 2)),none⟩,⟨some 41,.P (.mov (.t 11)),none⟩,⟨some 42,.P (.iaddr 1 (.t 40) (.t 41)),none⟩,⟨some 43,.R (.load 1 false (.t 42)),none⟩,⟨some 44,.P (.iaddr 6 (.t 39) (.t 43)),none⟩,⟨some 45,.P (.faddr 0 (.t 44)),none⟩,⟨some 46,.R (.load 1 false (.t 45)),none⟩,⟨some 47,.P (.bin .neq (.t 46) (.c (.int .i64 12))),none⟩]) (.kill [0,2,9,10,11,47] (.cond (.t 47) (.exit 1) .skip))) (.kill [0,2,9,10,11] (.seq (.reg [⟨some 48,.P (.mov (.t 0)),none⟩,⟨some 49,.P (.mov (.t 2)),none⟩,⟨some 50,.P (.mov (.t 11)),none⟩,⟨some 51,.P (.iaddr 1 (.t 49) (.t 50)),none⟩,⟨some 52,.R (.load 1 false (.t 51)),none⟩,⟨some 53,.C (.c (.func (.func 40) [] [])) [(.t 48),(.t 52)],none⟩,⟨some 12,.P (.mov (.t 53)),none⟩]) (.kill [0,2,9,10,11,12] (.seq (.reg [⟨some 54,.P (.mov (.t 12)),none⟩,⟨some 55,.P (.len (.t 54)),none⟩,⟨some 56,.P (.mov (.t 10)),none⟩,⟨some 57,.P (.len (.t 56)),none⟩,⟨some 58,.P (.bin .eql (.t 55) (.t 57)),none⟩,⟨some 13,.P (.mov (.t 58)),none⟩]) (.kill [0,2,9,10,11,12,13] (.seq (.seq (.reg [⟨some 14,.P (.mov (.c (.int .i64 0))),none⟩]) (.block 2 (.kill [0,2,9,10,11,12,13,14] (.loop (.fin [0,2,9,10,11,12,13,14] (.seq (.seq (.reg [⟨some 59,.P (.mov (.t 14)),none⟩,⟨some 60,.P (.mov (.t 12)),none⟩,⟨some 61,.P (.len (.t 60)),none⟩,⟨some 62,.P (.bin .lss (.t 59) (.t 61)),none⟩,⟨some 63,.P (.mov (.t 62)),none⟩,⟨some 64,.P (.mov (.t 13)),(some (63, true))⟩,⟨some 65,.P (.pick (.t 63) (.t 64) (.c (.bool false))),none⟩]) (.kill [0,2,9,10,11,12,13,14,65] (.cond (.t 65) .skip (.exit 2)))) (.kill [0,2,9,10,11,12,14] (.seq (.block 3 (.draw true [⟨some 68,.P (.mov (.t 9)),none⟩,⟨some 69,.P (.mov (.t 12)),none⟩,⟨some 70,.P (.mov (.t 14)),none⟩,⟨some 71,.P (.iaddr 1 (.t 69) (.t 70)),none⟩,⟨some 72,.R (.load 1 false (.t 71)),none⟩,⟨some 73,.P (.iaddr 1 (.t 68) (.t 72)),none⟩,⟨some 74,.R (.load 1 false (.t 73)),none⟩,⟨some 75,.P (.mov (.t 9)),none⟩,⟨some 76,.P (.mov (.t 10)),none⟩,⟨some 77,.P (.mov (.t 14)),none⟩,⟨some 78,.P (.iaddr 1 (.t 76) (.t 77)),none⟩,⟨some 79,.R (.load 1 false (.t 78)),none⟩,⟨some 80,.P (.iaddr 1 (.t 75) (.t 79)),none⟩,⟨some 81,.R (.load 1 false (.t 80)),none⟩,⟨some 82,.P (.bin .eql (.t 74) (.t 81)),none⟩,⟨some 13,.P (.mov (.t 82)),none⟩] [[],[],[],[],[],[],[],[],[],[],[],[],[],[],[],[]] [[],[],[],[],[],[],[],[],[],[],[],[],[],[],[],[]] [0,1,2,3,4,5,6,7,8,9,10,11,12,13,14,15])) (.kill [0,2,9,10,11,12,13,14] (.reg [⟨some 66,.P (.mov (.t 14)),none⟩,⟨some 67,.P (.bin .add (.t 66) (.c (.int .i64 1))),none⟩,⟨some 14,.P (.mov (.t 67)),none⟩])))))))))) (.kill [0,2,9,10,11,13] (.seq (.reg [⟨some 83,.P (.mov (.t 13)),none⟩]) (.kill [0,2,9,10,11,83] (.cond (.t 83) (.seq (.reg [⟨some 84,.P (.mov (.t 0)),none⟩,⟨some 85,.P (.mov (.t 9)),none⟩,⟨some 86,.P (.mov (.t 2)),none⟩,⟨some 87,.P (.mov (.t 11)),none⟩,⟨some 88,.P (.iaddr 1 (.t 86) (.t 87)),none⟩,⟨some 89,.R (.load 1 false (.t 88)),none⟩,⟨some 90,.C (.c (.func (.func 100) [] [])) [(.t 84),(.t 85),(.t 89)],none⟩,⟨some 91,.P (.ext (.t 90) 0),none⟩,⟨some 92,.P (.ext (.t 90) 1),none⟩,⟨some 93,.P (.ext (.t 90) 2),none⟩,⟨some 6,.P (.mov (.t 91)),none⟩,⟨some 7,.P (.mov (.t 92)),none⟩,⟨some 8,.P (.mov (.t 93)),none⟩]) .ret) .skip)))))))))))) (.kill [0,2,9,10,11] (.reg [⟨some 37,.P (.mov (.t 11)),none⟩,⟨some 38,.P (.bin .add (.t 37) (.c (.int .i64 1))),none⟩,⟨some 11,.P (.mov (.t 38)),none⟩])))))))))) (.kill [0,10] (.seq (.seq (.reg [⟨some 15,.P (.mov (.c (.int .i64 0))),none⟩]) (.block 4 (.kill [0,10,15] (.loop (.fin [0,10,15] (.seq (.seq (.reg [⟨some 94,.P (.mov (.t 15)),none⟩,⟨some 95,.P (.mov (.t 10)),none⟩,⟨some 96,.P (.len (.t 95)),none⟩,⟨some 97,.P (.bin .lss (.t 94) (.t 96)),none⟩]) (.kill [0,10,15,97] (.cond (.t 97) .skip (.exit 4)))) (.kill [0,10,15] (.seq (.block 5 (.seq (.reg [⟨some 100,.P (.mov (.t 0)),none⟩,⟨some 101,.P (.mov (.t 10)),none⟩,⟨some 102,.P (.mov (.t 15)),none⟩,⟨some 103,.P (.iaddr 1 (.t 101) (.t 102)),none⟩,⟨some 104,.R (.load 1 false (.t 103)),none⟩,⟨some 105,.C (.c (.func (.func 64) [] [])) [(.t 100),(.t 104)],none⟩]) (.kill [0,10,15,105] (.cond (.t 105) (.seq (.reg [⟨some 6,.P (.mov (.c .nilslice)),none⟩,⟨some 7,.P (.mov (.c (.int .i64 0))),none⟩,⟨some 8,.P (.mov (.c (.int .i64 7))),none⟩]) .ret) .skip)))) (.kill [0,10,15] (.reg [⟨some 98,.P (.mov (.t 15)),none⟩,⟨some 99,.P (.bin .add (.t 98) (.c (.int .i64 1))),none⟩,⟨some 15,.P (.mov (.t 99)),none⟩])))))))))) (.kill [0,10] (.seq (.seq (.reg [⟨some 106,.P (.mov (.t 10)),none⟩,⟨some 107,.P (.len (.t 106)),none⟩,⟨some 108,.P (.bin .gtr (.t 107) (.c (.int .i64 64))),none⟩]) (.kill [0,10,108] (.cond (.t 108) (.seq (.reg [⟨some 6,.P (.mov (.c .nilslice)),none⟩,⟨some 7,.P (.mov (.c (.int .i64 0))),none⟩,⟨some 8,.P (.mov (.c (.int .i64 3))),none⟩]) .ret) .skip))) (.kill [0,10] (.seq (.reg [⟨some 109,.P (.mov (.t 0)),none⟩,⟨some 110,.P (.mov (.t 10)),none⟩,⟨some 111,.P (.build [(.int .i64 0),(.int .i64 0), .nilslice, .nilslice, (.int .i64 0),(.bool false)] [(0, (1, (.c (.int .i64 12)))),(2, (1, (.t 110)))]),none⟩,⟨some 112,.C (.c (.func (.func 101) [] [])) [(.t 109),(.t 111)],none⟩,⟨some 113,.P (.ext (.t 112) 0),none⟩,⟨some 114,.P (.ext (.t 112) 1),none⟩,⟨some 115,.P (.ext (.t 112) 2),none⟩,⟨some 6,.P (.mov (.t 113)),none⟩,⟨some 7,.P (.mov (.t 114)),none⟩,⟨some 8,.P (.mov (.t 115)),none⟩]) .ret))))))))))))))) (E [(.tmp 6),(.tmp 7),(.tmp 8)] R .mk) .mk (mat 116 (sArgs 0 args)) m) (hl : Nat.ble args.length 116 = true := by rfl) : ACalls Tryz.prog 57 args m R := walk mix (by kernel_rfl) (Nat.le_of_ble_eq_true hl) h
abbrev h57_0 (t0 t2 t9 t10 t11 : AVal) : AFrame := mat 116 [(0, t0),(2, t2),(9, t9),(10, t10),(11, t11)]
abbrev h57_1 (t0 t2 t9 t10 t11 t12 t13 t14 : AVal) : AFrame := mat 116 [(0, t0),(2, t2),(9, t9),(10, t10),(11, t11),(12, t12),(13, t13),(14, t14)]
abbrev h57_2 (t0 t10 t15 : AVal) : AFrame := mat 116 [(0, t0),(10, t10),(15, t15)]
theorem w58 {args : List AVal} {m : AMem} {R : AVal → AMem → Prop} (h : W Tryz.prog (.seq (.reg [⟨some 6,.P (.mov (.c (.bool false))),none⟩]) (.kill [0,1,2] (.seq (.seq (.reg [⟨some 10,.P (.mov (.t 0)),none⟩,⟨some 11,.P (.len (.t 10)),none⟩,⟨some 12,.P (.mov (.t 1)),none⟩,⟨some 13,.P (.len (.t 12)),none⟩,⟨some 14,.P (.bin .neq (.t 11) (.t 13)),none⟩]) (.kill [0,1,2,14] (.cond (.t 14) (.seq (.reg [⟨some 6,.P (.mov (.c (.bool false))),none⟩]) .ret) .skip))) (.kill [0,1,2] (.seq (.seq (.reg [⟨some 15,.P (.mov (.t 0)),none⟩,⟨some 16,.P (.len (.t 15)),none⟩,⟨some 17,.P (.mov (.c (.int .i64 0))),none⟩]) (.kill [1,2,15,16,17] (.block 0 (.kill [1,2,15,16,17] (.loop (.fin [1,2,15,16,17] (.seq (.reg [⟨some 18,.P (.bin .lss (.t 17) (.t 16)),none⟩]) (.seq (.cond (.t 18) .skip (.exit 0)) (.kill [1,2,15,16,17] (.seq (.block 1 (.seq (.reg [⟨some 19,.P (.mov (.t 17)),none⟩,⟨some 20,.P (.iaddr 6 (.t 15) (.t 17)),none⟩,⟨some 21,.R (.load 6 true (.t 20)),none⟩,⟨some 8,.A (.alloc 49 [(.int .i64 0),(.int .i64 0), .nilslice, .nilslice, (.int .i64 0),(.bool false)]),none⟩,⟨some 7,.P (.mov (.t 19)),none⟩,⟨none,.W (.store 6 (.t 8) (.t 21)),none⟩]) (.kill [1,2,7,8,15,16,17] (.seq (.reg [⟨some 22,.P (.mov (.t 1)),none⟩,⟨some 23,.P (.mov (.t 7)),none⟩,⟨some 24,.P (.iaddr 6 (.t 22) (.t 23)),none⟩,⟨some 25,.R (.load 6 true (.t 24)),none⟩,⟨some 9,.A (.alloc 49 [(.int .i64 0),(.int .i64 0), .nilslice, .nilslice, (.int .i64 0),(.bool false)]),none⟩,⟨none,.W (.store 6 (.t 9) (.t 25)),none⟩]) (.kill [1,2,8,9,15,16,17] (.seq (.reg [⟨some 26,.P (.mov (.t 2)),none⟩,⟨some 27,.R (.load 6 true (.t 8)),none⟩,⟨some 28,.R (.load 6 true (.t 9)),none⟩,⟨some 29,.C (.t 26) [(.t 27),(.t 28)],none⟩,⟨some 30,.P (.un .not (.t 29)),none⟩]) (.kill [1,2,15,16,17,30] (.cond (.t 30) (.seq (.reg [⟨some 6,.P (.mov (.c (.bool false))),none⟩]) .ret) .skip)))))))) (.kill [1,2,15,16,17] (.reg [⟨some 31,.P (.bin .add (.t 17) (.c (.int .i64 1))),none⟩,⟨some 17,.P (.mov (.t 31)),none⟩])))))))))))) (.kill [] (.seq (.reg [⟨some 6,.P (.mov (.c (.bool true))),none⟩]) .ret))))))) (E [(.tmp 6)] R .mk) .mk (mat 32 (sArgs 0 args)) m) (hl : Nat.ble args.length 32 = true := by rfl) : ACalls Tryz.prog 58 args m R := walk mix (by kernel_rfl) (Nat.le_of_ble_eq_true hl) h
abbrev h58_0 (t1 t2 t15 t16 t17 : AVal) : AFrame := mat 32 [(1, t1),(2, t2),(15, t15),(16, t16),(17, t17)]
theorem w59 {args : List AVal} {m : AMem} {R : AVal → AMem → Prop} (h : W Tryz.prog (.seq (.reg [⟨some 2,.A (.box 49 (.t 0)),none⟩,⟨some 3,.A (.box 49 (.t 1)),none⟩,⟨some 4,.P (.mov (.c (.bool false))),none⟩]) (.kill [2,3] (.seq (.reg [⟨some 5,.P (.faddr 0 (.t 2)),none⟩,⟨some 6,.R (.load 1 false (.t 5)),none⟩,⟨some 7,.P (.faddr 0 (.t 3)),none⟩,⟨some 8,.R (.load 1 false (.t 7)),none⟩,⟨some 9,.P (.bin .eql (.t 6) (.t 8)),none⟩,⟨some 10,.P (.mov (.t 9)),none⟩,⟨some 11,.P (.faddr 1 (.t 2)),(some (10, true))⟩,⟨some 12,.R (.load 1 false (.t 11)),(some (10, true))⟩,⟨some 13,.P (.faddr 1 (.t 3)),(some (10, true))⟩,⟨some 14,.R (.load 1 false (.t 13)),(some (10, true))⟩,⟨some 15,.P (.bin .eql (.t 12) (.t 14)),(some (10, true))⟩,⟨some 16,.P (.pick (.t 10) (.t 15) (.c (.bool false))),none⟩,⟨some 17,.P (.mov (.t 16)),none⟩,⟨some 18,.P (.faddr 2 (.t 2)),(some (17, true))⟩,⟨some 19,.R (.load 1 false (.t 18)),(some (17, true))⟩,⟨some 20,.P (.faddr 2 (.t 3)),(some (17, true))⟩,⟨some 21,.R (.load 1 false (.t 20)),(some (17, true))⟩,⟨some 22,.C (.c (.func (.func 23) [] [])) [(.t 19),(.t 21)], (some (17, true))⟩,⟨some 23,.P (.pick (.t 17) (.t 22) (.c (.bool false))),none⟩,⟨some 24,.P (.mov (.t 23)),none⟩,⟨some 25,.P (.faddr 3 (.t 2)),(some (24, true))⟩,⟨some 26,.R (.load 1 false (.t 25)),(some (24, true))⟩,⟨some 27,.P (.faddr 3 (.t 3)),(some (24, true))⟩,⟨some 28,.R (.load 1 false (.t 27)),(some (24, true))⟩,⟨some 29,.C (.c (.func (.func 60) [] [])) [(.t 26),(.t 28)], (some (24, true))⟩,⟨some 30,.P (.pick (.t 24) (.t 29) (.c (.bool false))),none⟩,⟨some 31,.P (.mov (.t 30)),none⟩,⟨some 32,.P (.faddr 4 (.t 2)),(some (31, true))⟩,⟨some 33,.R (.load 1 false (.t 32)),(some (31, true))⟩,⟨some 34,.P (.faddr 4 (.t 3)),(some (31, true))⟩,⟨some 35,.R (.load 1 false (.t 34)),(some (31, true))⟩,⟨some 36,.P (.bin .eql (.t 33) (.t 35)),(some (31, true))⟩,⟨some 37,.P (.pick (.t 31) (.t 36) (.c (.bool false))),none⟩,⟨some 38,.P (.mov (.t 37)),none⟩,⟨some 39,.P (.faddr 5 (.t 2)),(some (38, true))⟩,⟨some 40,.R (.load 1 false (.t 39)),(some (38, true))⟩,⟨some 41,.P (.faddr 5 (.t 3)),(some (38, true))⟩,⟨some 42,.R (.load 1 false (.t 41)),(some (38, true))⟩,⟨some 43,.P (.eqB false (.t 40) (.t 42)),(some (38, true))⟩,⟨some 44,.P (.pick (.t 38) (.t 43) (.c (.bool false))),none⟩,⟨some 4,.P (.mov (.t 44)),none⟩]) .ret))) (E [(.tmp 4)] R .mk) .mk (mat 45 (sArgs 0 args)) m) (hl : Nat.ble args.length 45 = true := by rfl) : ACalls Tryz.prog 59 args m R := walk mix (by kernel_rfl) (Nat.le_of_ble_eq_true hl) h
theorem w60 {args : List AVal} {m : AMem} {R : AVal → AMem → Prop} (h : W Tryz.prog (.seq (.reg [⟨some 4,.P (.mov (.c (.bool false))),none⟩]) (.kill [0,1] (.seq (.seq (.reg [⟨some 6,.P (.mov (.t 0)),none⟩,⟨some 7,.P (.len (.t 6)),none⟩,⟨some 8,.P (.mov (.t 1)),none⟩,⟨some 9,.P (.len (.t 8)),none⟩,⟨some 10,.P (.bin .neq (.t 7) (.t 9)),none⟩]) (.kill [0,1,10] (.cond (.t 10) (.seq (.reg [⟨some 4,.P (.mov (.c (.bool false))),none⟩]) .ret) .skip))) (.kill [0,1] (.seq (.seq (.reg [⟨some 11,.P (.mov (.t 0)),none⟩,⟨some 12,.P (.len (.t 11)),none⟩,⟨some 13,.P (.mov (.c (.int .i64 0))),none⟩]) (.kill [0,1,12,13] (.block 0 (.kill [0,1,12,13] (.loop (.fin [0,1,12,13] (.seq (.reg [⟨some 14,.P (.bin .lss (.t 13) (.t 12)),none⟩]) (.seq (.cond (.t 14) .skip (.exit 0)) (.kill [0,1,12,13] (.seq (.block 1 (.seq (.reg [⟨some 15,.P (.mov (.t 13)),none⟩,⟨some 5,.P (.mov (.t 15)),none⟩]) (.kill [0,1,5,12,13] (.seq (.draw true [⟨some 16,.P (.mov (.t 0)),none⟩,⟨some 17,.P (.mov (.t 5)),none⟩,⟨some 18,.P (.iaddr 1 (.t 16) (.t 17)),none⟩,⟨some 19,.R (.load 1 false (.t 18)),none⟩,⟨some 20,.P (.mov (.t 1)),none⟩,⟨some 21,.P (.mov (.t 5)),none⟩,⟨some 22,.P (.iaddr 1 (.t 20) (.t 21)),none⟩,⟨some 23,.R (.load 1 false (.t 22)),none⟩,⟨some 24,.P (.bin .neq (.t 19) (.t 23)),none⟩] [[],[],[],[],[],[],[],[],[]] [[],[],[],[],[],[],[],[],[]] [0,1,2,3,4,5,6,7,8]) (.kill [0,1,12,13,24] (.cond (.t 24) (.seq (.reg [⟨some 4,.P (.mov (.c (.bool false))),none⟩]) .ret) .skip)))))) (.kill [0,1,12,13] (.reg [⟨some 25,.P (.bin .add (.t 13) (.c (.int .i64 1))),none⟩,⟨some 13,.P (.mov (.t 25)),none⟩])))))))))))) (.kill [] (.seq (.reg [⟨some 4,.P (.mov (.c (.bool true))),none⟩]) .ret))))))) (E [(.tmp 4)] R .mk) .mk (mat 26 (sArgs 0 args)) m) (hl : Nat.ble args.length 26 = true := by rfl) : ACalls Tryz.prog 60 args m R := walk mix (by kernel_rfl) (Nat.le_of_ble_eq_true hl) h
abbrev h60_0 (t0 t1 t12 t13 : AVal) : AFrame := mat 26 [(0, t0),(1, t1),(12, t12),(13, t13)]
theorem w61 {args : List AVal} {m : AMem} {R : AVal → AMem → Prop} (h : W Tryz.prog (.seq (.reg [⟨some 5,.A (.box 33 (.t 2)),none⟩,⟨some 6,.P (.mov (.c .nilslice)),none⟩]) (.kill [0,1,5] (.seq (.reg [⟨some 8,.P (.mov (.t 0)),none⟩,⟨some 9,.P (.mov (.t 1)),none⟩,⟨some 10,.C (.c (.func (.func 89) [] [])) [(.t 8),(.t 9),(.c .nilslice)],none⟩,⟨some 7,.P (.mov (.t 10)),none⟩]) (.kill [5,7] (.seq (.reg [⟨some 11,.P (.mov (.t 7)),none⟩,⟨some 12,.P (.mkfn (.func 102) [] [(.t 5)]),none⟩,⟨some 13,.C (.c (.func (.func 75) [] [])) [(.t 11),(.t 12)],none⟩]) (.kill [5,7] (.seq (.reg [⟨some 14,.P (.mov (.t 7)),none⟩,⟨some 15,.P (.mkfn (.func 103) [] [(.t 5)]),none⟩,⟨some 16,.C (.c (.func (.func 79) [] [])) [(.t 14),(.t 15)],none⟩,⟨some 6,.P (.mov (.t 16)),none⟩]) .ret))))))) (E [(.tmp 6)] R .mk) .mk (mat 17 (sArgs 0 args)) m) (hl : Nat.ble args.length 17 = true := by rfl) : ACalls Tryz.prog 61 args m R := walk mix (by kernel_rfl) (Nat.le_of_ble_eq_true hl) h
theorem w64 {args : List AVal} {m : AMem} {R : AVal → AMem → Prop} (h : W Tryz.prog (.seq (.reg [⟨some 4,.P (.mov (.c (.bool false))),none⟩]) (.kill [0,1] (.seq (.reg [⟨some 5,.P (.mov (.t 0)),none⟩,⟨some 6,.C (.c (.func (.func 70) [] [])) [(.t 5)],none⟩,⟨some 7,.P (.bin .eql (.t 6) (.c (.int .i64 0))),none⟩,⟨some 8,.P (.mov (.t 7)),none⟩,⟨some 9,.P (.mov (.t 1)),(some (8, true))⟩,⟨some 10,.P (.bin .geq (.t 9) (.c (.int .i64 0))),(some (8, true))⟩,⟨some 11,.P (.pick (.t 8) (.t 10) (.c (.bool false))),none⟩,⟨some 12,.P (.mov (.t 11)),none⟩,⟨some 13,.P (.mov (.t 1)),(some (12, true))⟩,⟨some 14,.P (.mov (.t 0)),(some (12, true))⟩,⟨some 15,.P (.len (.t 14)),(some (12, true))⟩,⟨some 16,.P (.bin .lss (.t 13) (.t 15)),(some (12, true))⟩,⟨some 17,.P (.pick (.t 12) (.t 16) (.c (.bool false))),none⟩,⟨some 18,.P (.mov (.t 17)),none⟩,⟨some 19,.P (.mov (.t 0)),(some (18, true))⟩,⟨some 20,.P (.mov (.t 0)),(some (18, true))⟩,⟨some 21,.P (.len (.t 20)),(some (18, true))⟩,⟨some 22,.A (.mkslice 4 1 [(.bool false)] (.t 21) (.t 21)),(some (18, true))⟩,⟨some 23,.P (.mov (.t 1)),(some (18, true))⟩,⟨some 24,.C (.c (.func (.func 105) [] [])) [(.t 19),(.t 22),(.t 23)], (some (18, true))⟩,⟨some 25,.P (.pick (.t 18) (.t 24) (.c (.bool false))),none⟩,⟨some 4,.P (.mov (.t 25)),none⟩]) .ret))) (E [(.tmp 4)] R .mk) .mk (mat 26 (sArgs 0 args)) m) (hl : Nat.ble args.length 26 = true := by rfl) : ACalls Tryz.prog 64 args m R := walk mix (by kernel_rfl) (Nat.le_of_ble_eq_true hl) h
theorem w65 {args : List AVal} {m : AMem} {R : AVal → AMem → Prop} (h : W Tryz.prog (.seq (.reg [⟨some 4,.P (.mov (.c (.bool false))),none⟩]) (.kill [0,1] (.seq (.reg [⟨some 5,.P (.mov (.t 1)),none⟩,⟨some 6,.P (.bin .geq (.t 5) (.c (.int .i64 0))),none⟩,⟨some 7,.P (.mov (.t 6)),none⟩,⟨some 8,.P (.mov (.t 1)),(some (7, true))⟩,⟨some 9,.P (.mov (.t 0)),(some (7, true))⟩,⟨some 10,.P (.len (.t 9)),(some (7, true))⟩,⟨some 11,.P (.bin .lss (.t 8) (.t 10)),(some (7, true))⟩,⟨some 12,.P (.pick (.t 7) (.t 11) (.c (.bool false))),none⟩,⟨some 4,.P (.mov (.t 12)),none⟩]) .ret))) (E [(.tmp 4)] R .mk) .mk (mat 13 (sArgs 0 args)) m) (hl : Nat.ble args.length 13 = true := by rfl) : ACalls Tryz.prog 65 args m R := walk mix (by kernel_rfl) (Nat.le_of_ble_eq_true hl) h
theorem w66 {args : List AVal} {m : AMem} {R : AVal → AMem → Prop} (h : W Tryz.prog (.seq (.reg [⟨some 2,.P (.mov (.c .nilslice)),none⟩]) (.kill [0] (.seq (.seq (.reg [⟨some 3,.P (.mov (.t 0)),none⟩,⟨some 4,.P (.eqN .slice false (.t 3)),none⟩]) (.kill [0,4] (.cond (.t 4) (.seq (.reg [⟨some 2,.P (.mov (.c .nilslice)),none⟩]) .ret) .skip))) (.kill [0] (.seq (.reg [⟨some 5,.A (.bslice 49 0 [(.int .i64 0),(.int .i64 0), .nilslice, .nilslice, (.int .i64 0),(.bool false)] []),none⟩,⟨some 6,.P (.mov (.t 0)),none⟩,⟨some 7,.W (.append 6 80 49 false (.t 5) (.t 6)),none⟩,⟨some 2,.P (.mov (.t 7)),none⟩]) .ret))))) (E [(.tmp 2)] R .mk) .mk (mat 8 (sArgs 0 args)) m) (hl : Nat.ble args.length 8 = true := by rfl) : ACalls Tryz.prog 66 args m R := walk mix (by kernel_rfl) (Nat.le_of_ble_eq_true hl) h
theorem w67 {args : List AVal} {m : AMem} {R : AVal → AMem → Prop} (h : W Tryz.prog (.seq (.reg [⟨some 4,.P (.mov (.c (.int .i64 0))),none⟩]) (.kill [0,1] (.seq (.seq (.reg [⟨some 6,.P (.mov (.t 0)),none⟩,⟨some 7,.P (.len (.t 6)),none⟩,⟨some 8,.P (.mov (.c (.int .i64 0))),none⟩]) (.kill [0,1,7,8] (.block 0 (.kill [0,1,7,8] (.loop (.fin [0,1,7,8] (.seq (.reg [⟨some 9,.P (.bin .lss (.t 8) (.t 7)),none⟩]) (.seq (.cond (.t 9) .skip (.exit 0)) (.kill [0,1,7,8] (.seq (.block 1 (.seq (.reg [⟨some 10,.P (.mov (.t 8)),none⟩,⟨some 5,.P (.mov (.t 10)),none⟩]) (.kill [0,1,5,7,8] (.seq (.reg [⟨some 11,.P (.mov (.t 1)),none⟩,⟨some 12,.P (.mov (.t 0)),none⟩,⟨some 13,.P (.mov (.t 5)),none⟩,⟨some 14,.P (.iaddr 6 (.t 12) (.t 13)),none⟩,⟨some 15,.R (.load 6 true (.t 14)),none⟩,⟨some 16,.C (.t 11) [(.t 15)],none⟩]) (.kill [0,1,5,7,8,16] (.cond (.t 16) (.seq (.reg [⟨some 17,.P (.mov (.t 5)),none⟩,⟨some 4,.P (.mov (.t 17)),none⟩]) .ret) .skip)))))) (.kill [0,1,7,8] (.reg [⟨some 18,.P (.bin .add (.t 8) (.c (.int .i64 1))),none⟩,⟨some 8,.P (.mov (.t 18)),none⟩])))))))))))) (.kill [] (.seq (.reg [⟨some 4,.P (.mov (.c (.int .i64 (-1)))),none⟩]) .ret))))) (E [(.tmp 4)] R .mk) .mk (mat 19 (sArgs 0 args)) m) (hl : Nat.ble args.length 19 = true := by rfl) : ACalls Tryz.prog 67 args m R := walk mix (by kernel_rfl) (Nat.le_of_ble_eq_true hl) h
abbrev h67_0 (t0 t1 t7 t8 : AVal) : AFrame := mat 19 [(0, t0),(1, t1),(7, t7),(8, t8)]
theorem w68 {args : List AVal} {m : AMem} {R : AVal → AMem → Prop} (h : W Tryz.prog (.seq (.reg [⟨some 3,.P (.mov (.c (.bool false))),none⟩]) (.kill [0,1] (.seq (.reg [⟨some 4,.P (.mov (.t 0)),none⟩,⟨some 5,.P (.bin .lss (.t 4) (.c (.int .i64 0))),none⟩,⟨some 6,.P (.mov (.t 5)),none⟩,⟨some 7,.P (.mov (.t 0)),(some (6, false))⟩,⟨some 8,.R (.load 1 false (.t 1)),(some (6, false))⟩,⟨some 9,.P (.len (.t 8)),(some (6, false))⟩,⟨some 10,.P (.bin .geq (.t 7) (.t 9)),(some (6, false))⟩,⟨some 11,.P (.pick (.t 6) (.c (.bool true)) (.t 10)),none⟩,⟨some 3,.P (.mov (.t 11)),none⟩]) .ret))) (E [(.tmp 3)] R .mk) .mk (mat 12 (sArgs 0 args)) m) (hl : Nat.ble args.length 12 = true := by rfl) : ACalls Tryz.prog 68 args m R := walk mix (by kernel_rfl) (Nat.le_of_ble_eq_true hl) h
theorem w69 {args : List AVal} {m : AMem} {R : AVal → AMem → Prop} (h : W Tryz.prog (.seq (.reg [⟨some 1,.A (.box 22 (.t 0)),none⟩,⟨some 2,.P (.mov (.c .nilslice)),none⟩]) (.kill [1] (.seq (.seq (.reg [⟨some 14,.R (.load 1 false (.t 1)),none⟩,⟨some 15,.C (.c (.func (.func 106) [] [])) [(.t 14)],none⟩,⟨some 13,.P (.mov (.t 15)),none⟩,⟨some 16,.P (.ext (.t 13) 0),none⟩,⟨some 17,.P (.ext (.t 13) 1),none⟩,⟨some 18,.P (.ext (.t 13) 2),none⟩,⟨some 3,.P (.mov (.t 16)),none⟩,⟨some 4,.P (.mov (.t 17)),none⟩,⟨some 5,.P (.mov (.t 18)),none⟩]) (.kill [1,4,5] (.seq (.reg [⟨some 19,.P (.mov (.t 5)),none⟩,⟨some 20,.P (.bin .eql (.t 19) (.c (.int .i64 0))),none⟩]) (.kill [1,4,20] (.cond (.t 20) (.seq (.reg [⟨some 21,.P (.mov (.t 4)),none⟩,⟨some 2,.P (.mov (.t 21)),none⟩]) .ret) .skip))))) (.kill [1] (.seq (.reg [⟨some 22,.R (.load 1 false (.t 1)),none⟩,⟨some 23,.P (.len (.t 22)),none⟩,⟨some 24,.A (.mkslice 3 8 [(.int .i64 0)] (.t 23) (.t 23)),none⟩,⟨some 6,.P (.mov (.t 24)),none⟩]) (.kill [1,6] (.seq (.seq (.reg [⟨some 25,.P (.mov (.t 6)),none⟩,⟨some 26,.P (.len (.t 25)),none⟩,⟨some 27,.P (.mov (.c (.int .i64 0))),none⟩]) (.kill [1,6,26,27] (.block 0 (.kill [1,6,26,27] (.loop (.fin [1,6,26,27] (.seq (.reg [⟨some 28,.P (.bin .lss (.t 27) (.t 26)),none⟩]) (.seq (.cond (.t 28) .skip (.exit 0)) (.kill [1,6,26,27] (.seq (.block 1 (.seq (.reg [⟨some 29,.P (.mov (.t 27)),none⟩,⟨some 7,.P (.mov (.t 29)),none⟩]) (.kill [1,6,7,26,27] (.reg [⟨some 30,.P (.mov (.t 6)),none⟩,⟨some 31,.P (.mov (.t 7)),none⟩,⟨some 32,.P (.mov (.t 7)),none⟩,⟨some 33,.P (.iaddr 1 (.t 30) (.t 31)),none⟩,⟨none,.W (.store 1 (.t 33) (.t 32)),none⟩])))) (.kill [1,6,26,27] (.reg [⟨some 34,.P (.bin .add (.t 27) (.c (.int .i64 1))),none⟩,⟨some 27,.P (.mov (.t 34)),none⟩])))))))))))) (.kill [1,6] (.seq (.reg [⟨some 35,.P (.mkfn (.func 107) [] [(.t 1)]),none⟩,⟨some 8,.A (.alloc 56 [.nilfunc]),none⟩,⟨none,.W (.store 1 (.t 8) (.t 35)),none⟩]) (.kill [1,6,8] (.seq (.reg [⟨some 36,.P (.mov (.t 6)),none⟩,⟨some 37,.P (.mkfn (.func 110) [] [(.t 8)]),none⟩,⟨some 38,.C (.c (.func (.func 109) [] [])) [(.t 36),(.t 37)],none⟩]) (.kill [1,6,8] (.seq (.reg [⟨some 39,.R (.load 1 false (.t 1)),none⟩,⟨some 40,.P (.len (.t 39)),none⟩,⟨some 41,.A (.mkslice 3 8 [(.int .i64 0)] (.t 40) (.t 40)),none⟩,⟨some 9,.P (.mov (.t 41)),none⟩,⟨some 10,.P (.mov (.c (.int .i64 0))),none⟩]) (.kill [6,8,9,10] (.seq (.seq (.reg [⟨some 42,.P (.mov (.t 6)),none⟩,⟨some 43,.P (.len (.t 42)),none⟩,⟨some 44,.P (.mov (.c (.int .i64 0))),none⟩]) (.block 2 (.kill [6,8,9,10,42,43,44] (.loop (.fin [6,8,9,10,42,43,44] (.seq (.reg [⟨some 45,.P (.bin .lss (.t 44) (.t 43)),none⟩]) (.seq (.cond (.t 45) .skip (.exit 2)) (.kill [6,8,9,10,42,43,44] (.seq (.block 3 (.seq (.reg [⟨some 46,.P (.mov (.t 44)),none⟩,⟨some 47,.P (.iaddr 1 (.t 42) (.t 44)),none⟩,⟨some 48,.R (.load 1 false (.t 47)),none⟩,⟨some 11,.P (.mov (.t 46)),none⟩,⟨some 12,.P (.mov (.t 48)),none⟩]) (.kill [6,8,9,10,11,12,42,43,44] (.seq (.seq (.draw true [⟨some 49,.P (.mov (.t 11)),none⟩,⟨some 50,.P (.bin .gtr (.t 49) (.c (.int .i64 0))),none⟩,⟨some 51,.P (.mov (.t 50)),none⟩,⟨some 52,.R (.load 1 false (.t 8)),(some (51, true))⟩,⟨some 53,.P (.mov (.t 6)),(some (51, true))⟩,⟨some 54,.P (.mov (.t 11)),(some (51, true))⟩,⟨some 55,.P (.bin .sub (.t 54) (.c (.int .i64 1))),(some (51, true))⟩,⟨some 56,.P (.iaddr 1 (.t 53) (.t 55)),(some (51, true))⟩,⟨some 57,.R (.load 1 false (.t 56)),(some (51, true))⟩,⟨some 58,.P (.mov (.t 12)),(some (51, true))⟩,⟨some 59,.C (.t 52) [(.t 57),(.t 58)], (some (51, true))⟩,⟨some 60,.P (.pick (.t 51) (.t 59) (.c (.bool false))),none⟩] [[],[],[],[],[],[],[],[],[],[],[],[10]] [[],[],[],[],[],[],[],[],[],[],[],[]] [0,1,2,3,4,5,6,7,8,9,10,11]) (.kill [6,8,9,10,12,42,43,44,60] (.cond (.t 60) (.reg [⟨some 61,.P (.mov (.t 10)),none⟩,⟨some 62,.P (.bin .add (.t 61) (.c (.int .i64 1))),none⟩,⟨some 10,.P (.mov (.t 62)),none⟩]) .skip))) (.kill [6,8,9,10,12,42,43,44] (.reg [⟨some 63,.P (.mov (.t 9)),none⟩,⟨some 64,.P (.mov (.t 12)),none⟩,⟨some 65,.P (.mov (.t 10)),none⟩,⟨some 66,.P (.iaddr 1 (.t 63) (.t 64)),none⟩,⟨none,.W (.store 1 (.t 66) (.t 65)),none⟩])))))) (.kill [6,8,9,10,42,43,44] (.reg [⟨some 67,.P (.bin .add (.t 44) (.c (.int .i64 1))),none⟩,⟨some 44,.P (.mov (.t 67)),none⟩]))))))))))) (.kill [9] (.seq (.reg [⟨some 68,.P (.mov (.t 9)),none⟩,⟨some 2,.P (.mov (.t 68)),none⟩]) .ret))))))))))))))))) (E [(.tmp 2)] R .mk) .mk (mat 69 (sArgs 0 args)) m) (hl : Nat.ble args.length 69 = true := by rfl) : ACalls Tryz.prog 69 args m R := walk mix (by kernel_rfl) (Nat.le_of_ble_eq_true hl) h
abbrev h69_0 (t1 t6 t26 t27 : AVal) : AFrame := mat 69 [(1, t1),(6, t6),(26, t26),(27, t27)]
abbrev h69_1 (t6 t8 t9 t10 t42 t43 t44 : AVal) : AFrame := mat 69 [(6, t6),(8, t8),(9, t9),(10, t10),(42, t42),(43, t43),(44, t44)]
theorem w70 {args : List AVal} {m : AMem} {R : AVal → AMem → Prop} (h : W Tryz.prog (.seq (.reg [⟨some 2,.P (.mov (.c (.int .i64 0))),none⟩]) (.kill [0] (.seq (.seq (.reg [⟨some 12,.P (.mov (.t 0)),none⟩,⟨some 13,.P (.len (.t 12)),none⟩,⟨some 14,.P (.bin .gtr (.t 13) (.c (.int .i64 512))),none⟩]) (.kill [0,14] (.cond (.t 14) (.seq (.reg [⟨some 2,.P (.mov (.c (.int .i64 3))),none⟩]) .ret) .skip))) (.kill [0] (.seq (.seq (.reg [⟨some 3,.P (.mov (.c (.int .i64 0))),none⟩]) (.block 0 (.kill [0,3] (.loop (.fin [0,3] (.seq (.seq (.reg [⟨some 15,.P (.mov (.t 3)),none⟩,⟨some 16,.P (.mov (.t 0)),none⟩,⟨some 17,.P (.len (.t 16)),none⟩,⟨some 18,.P (.bin .lss (.t 15) (.t 17)),none⟩]) (.kill [0,3,18] (.cond (.t 18) .skip (.exit 0)))) (.kill [0,3] (.seq (.block 1 (.seq (.reg [⟨some 21,.P (.mov (.t 0)),none⟩,⟨some 22,.P (.mov (.t 3)),none⟩,⟨some 23,.P (.iaddr 6 (.t 21) (.t 22)),none⟩,⟨some 24,.R (.load 6 true (.t 23)),none⟩,⟨some 25,.P (.mov (.t 0)),none⟩,⟨some 26,.P (.len (.t 25)),none⟩,⟨some 27,.C (.c (.func (.func 111) [] [])) [(.t 24),(.t 26)],none⟩,⟨some 4,.P (.mov (.t 27)),none⟩]) (.kill [0,3,4] (.seq (.reg [⟨some 28,.P (.mov (.t 4)),none⟩,⟨some 29,.P (.bin .neq (.t 28) (.c (.int .i64 0))),none⟩]) (.kill [0,3,4,29] (.cond (.t 29) (.seq (.reg [⟨some 30,.P (.mov (.t 4)),none⟩,⟨some 2,.P (.mov (.t 30)),none⟩]) .ret) .skip)))))) (.kill [0,3] (.reg [⟨some 19,.P (.mov (.t 3)),none⟩,⟨some 20,.P (.bin .add (.t 19) (.c (.int .i64 1))),none⟩,⟨some 3,.P (.mov (.t 20)),none⟩])))))))))) (.kill [0] (.seq (.seq (.reg [⟨some 5,.P (.mov (.c (.int .i64 0))),none⟩]) (.block 2 (.kill [0,5] (.loop (.fin [0,5] (.seq (.seq (.reg [⟨some 31,.P (.mov (.t 5)),none⟩,⟨some 32,.P (.mov (.t 0)),none⟩,⟨some 33,.P (.len (.t 32)),none⟩,⟨some 34,.P (.bin .lss (.t 31) (.t 33)),none⟩]) (.kill [0,5,34] (.cond (.t 34) .skip (.exit 2)))) (.kill [0,5] (.seq (.block 3 (.seq (.reg [⟨some 6,.P (.mov (.c (.int .i64 0))),none⟩]) (.block 4 (.kill [0,5,6] (.loop (.fin [0,5,6] (.seq (.seq (.reg [⟨some 37,.P (.mov (.t 6)),none⟩,⟨some 38,.P (.mov (.t 0)),none⟩,⟨some 39,.P (.mov (.t 5)),none⟩,⟨some 40,.P (.iaddr 6 (.t 38) (.t 39)),none⟩,⟨some 41,.P (.faddr 2 (.t 40)),none⟩,⟨some 42,.R (.load 1 false (.t 41)),none⟩,⟨some 43,.P (.len (.t 42)),none⟩,⟨some 44,.P (.bin .lss (.t 37) (.t 43)),none⟩]) (.kill [0,5,6,44] (.cond (.t 44) .skip (.exit 4)))) (.kill [0,5,6] (.seq (.block 5 (.seq (.reg [⟨some 47,.P (.mov (.t 0)),none⟩,⟨some 48,.P (.mov (.t 5)),none⟩,⟨some 49,.P (.iaddr 6 (.t 47) (.t 48)),none⟩,⟨some 50,.P (.faddr 0 (.t 49)),none⟩,⟨some 51,.R (.load 1 false (.t 50)),none⟩,⟨some 52,.P (.bin .eql (.t 51) (.c (.int .i64 13))),none⟩,⟨some 53,.P (.mov (.t 52)),none⟩,⟨some 54,.P (.mov (.t 6)),(some (53, true))⟩,⟨some 55,.P (.mov (.t 0)),(some (53, true))⟩,⟨some 56,.P (.mov (.t 5)),(some (53, true))⟩,⟨some 57,.P (.iaddr 6 (.t 55) (.t 56)),(some (53, true))⟩,⟨some 58,.P (.faddr 2 (.t 57)),(some (53, true))⟩,⟨some 59,.R (.load 1 false (.t 58)),(some (53, true))⟩,⟨some 60,.P (.len (.t 59)),(some (53, true))⟩,⟨some 61,.P (.bin .sub (.t 60) (.c (.int .i64 1))),(some (53, true))⟩,⟨some 62,.P (.bin .eql (.t 54) (.t 61)),(some (53, true))⟩,⟨some 63,.P (.pick (.t 53) (.t 62) (.c (.bool false))),none⟩,⟨some 7,.P (.mov (.t 63)),none⟩]) (.kill [0,5,6,7] (.seq (.reg [⟨some 64,.P (.mov (.t 0)),none⟩,⟨some 65,.P (.mov (.t 0)),none⟩,⟨some 66,.P (.mov (.t 5)),none⟩,⟨some 67,.P (.iaddr 6 (.t 65) (.t 66)),none⟩,⟨some 68,.P (.faddr 2 (.t 67)),none⟩,⟨some 69,.R (.load 1 false (.t 68)),none⟩,⟨some 70,.P (.mov (.t 6)),none⟩,⟨some 71,.P (.iaddr 1 (.t 69) (.t 70)),none⟩,⟨some 72,.R (.load 1 false (.t 71)),none⟩,⟨some 73,.P (.iaddr 6 (.t 64) (.t 72)),none⟩,⟨some 74,.P (.faddr 0 (.t 73)),none⟩,⟨some 75,.R (.load 1 false (.t 74)),none⟩,⟨some 76,.P (.bin .eql (.t 75) (.c (.int .i64 0))),none⟩,⟨some 77,.P (.mov (.t 76)),none⟩,⟨some 78,.P (.mov (.t 7)),(some (77, true))⟩,⟨some 79,.P (.un .not (.t 78)),(some (77, true))⟩,⟨some 80,.P (.pick (.t 77) (.t 79) (.c (.bool false))),none⟩,⟨some 81,.P (.mov (.t 80)),none⟩,⟨some 82,.P (.mov (.t 0)),(some (81, true))⟩,⟨some 83,.P (.mov (.t 5)),(some (81, true))⟩,⟨some 84,.P (.iaddr 6 (.t 82) (.t 83)),(some (81, true))⟩,⟨some 85,.P (.faddr 0 (.t 84)),(some (81, true))⟩,⟨some 86,.R (.load 1 false (.t 85)),(some (81, true))⟩,⟨some 87,.P (.bin .neq (.t 86) (.c (.int .i64 12))),(some (81, true))⟩,⟨some 88,.P (.pick (.t 81) (.t 87) (.c (.bool false))),none⟩]) (.kill [0,5,6,88] (.cond (.t 88) (.seq (.reg [⟨some 2,.P (.mov (.c (.int .i64 7))),none⟩]) .ret) .skip)))))) (.kill [0,5,6] (.reg [⟨some 45,.P (.mov (.t 6)),none⟩,⟨some 46,.P (.bin .add (.t 45) (.c (.int .i64 1))),none⟩,⟨some 6,.P (.mov (.t 46)),none⟩]))))))))))) (.kill [0,5] (.reg [⟨some 35,.P (.mov (.t 5)),none⟩,⟨some 36,.P (.bin .add (.t 35) (.c (.int .i64 1))),none⟩,⟨some 5,.P (.mov (.t 36)),none⟩])))))))))) (.kill [0] (.seq (.seq (.reg [⟨some 8,.P (.mov (.c (.int .i64 0))),none⟩]) (.block 6 (.kill [0,8] (.loop (.fin [0,8] (.seq (.seq (.reg [⟨some 89,.P (.mov (.t 8)),none⟩,⟨some 90,.P (.mov (.t 0)),none⟩,⟨some 91,.P (.len (.t 90)),none⟩,⟨some 92,.P (.bin .lss (.t 89) (.t 91)),none⟩]) (.kill [0,8,92] (.cond (.t 92) .skip (.exit 6)))) (.kill [0,8] (.seq (.block 7 (.seq (.reg [⟨some 95,.P (.mov (.t 0)),none⟩,⟨some 96,.P (.mov (.t 8)),none⟩,⟨some 97,.C (.c (.func (.func 112) [] [])) [(.t 95),(.t 96),(.c (.int .i64 1))],none⟩,⟨some 98,.P (.mov (.t 8)),none⟩,⟨some 99,.P (.iaddr 1 (.t 97) (.t 98)),none⟩,⟨some 100,.R (.load 1 false (.t 99)),none⟩,⟨some 101,.P (.mov (.t 100)),none⟩,⟨some 102,.P (.mov (.t 0)),(some (101, false))⟩,⟨some 103,.P (.mov (.t 8)),(some (101, false))⟩,⟨some 104,.C (.c (.func (.func 112) [] [])) [(.t 102),(.t 103),(.c (.int .i64 2))], (some (101, false))⟩,⟨some 105,.P (.mov (.t 8)),(some (101, false))⟩,⟨some 106,.P (.iaddr 1 (.t 104) (.t 105)),(some (101, false))⟩,⟨some 107,.R (.load 1 false (.t 106)),(some (101, false))⟩,⟨some 108,.P (.pick (.t 101) (.c (.bool true)) (.t 107)),none⟩]) (.kill [0,8,108] (.cond (.t 108) (.seq (.reg [⟨some 2,.P (.mov (.c (.int .i64 10))),none⟩]) .ret) .skip)))) (.kill [0,8] (.reg [⟨some 93,.P (.mov (.t 8)),none⟩,⟨some 94,.P (.bin .add (.t 93) (.c (.int .i64 1))),none⟩,⟨some 8,.P (.mov (.t 94)),none⟩])))))))))) (.kill [0] (.seq (.reg [⟨some 109,.P (.mov (.t 0)),none⟩,⟨some 110,.P (.len (.t 109)),none⟩,⟨some 111,.A (.mkslice 4 1 [(.bool false)] (.t 110) (.t 110)),none⟩,⟨some 9,.P (.mov (.t 111)),none⟩]) (.kill [0,9] (.seq (.seq (.reg [⟨some 10,.P (.mov (.c (.int .i64 0))),none⟩]) (.block 8 (.kill [0,9,10] (.loop (.fin [0,9,10] (.seq (.seq (.reg [⟨some 112,.P (.mov (.t 10)),none⟩,⟨some 113,.P (.mov (.t 0)),none⟩,⟨some 114,.P (.len (.t 113)),none⟩,⟨some 115,.P (.bin .lss (.t 112) (.t 114)),none⟩]) (.kill [0,9,10,115] (.cond (.t 115) .skip (.exit 8)))) (.kill [0,9,10] (.seq (.block 9 (.seq (.reg [⟨some 11,.P (.mov (.c (.int .i64 0))),none⟩]) (.block 10 (.kill [0,9,10,11] (.loop (.fin [0,9,10,11] (.seq (.seq (.reg [⟨some 118,.P (.mov (.t 11)),none⟩,⟨some 119,.P (.mov (.t 0)),none⟩,⟨some 120,.P (.mov (.t 10)),none⟩,⟨some 121,.P (.iaddr 6 (.t 119) (.t 120)),none⟩,⟨some 122,.P (.faddr 2 (.t 121)),none⟩,⟨some 123,.R (.load 1 false (.t 122)),none⟩,⟨some 124,.P (.len (.t 123)),none⟩,⟨some 125,.P (.bin .lss (.t 118) (.t 124)),none⟩]) (.kill [0,9,10,11,125] (.cond (.t 125) .skip (.exit 10)))) (.kill [0,9,10,11] (.seq (.block 11 (.seq (.reg [⟨some 128,.P (.mov (.t 0)),none⟩,⟨some 129,.P (.mov (.t 10)),none⟩,⟨some 130,.P (.iaddr 6 (.t 128) (.t 129)),none⟩,⟨some 131,.P (.faddr 0 (.t 130)),none⟩,⟨some 132,.R (.load 1 false (.t 131)),none⟩,⟨some 133,.P (.bin .eql (.t 132) (.c (.int .i64 12))),none⟩,⟨some 134,.P (.mov (.t 133)),none⟩,⟨some 135,.P (.mov (.t 0)),(some (134, false))⟩,⟨some 136,.P (.mov (.t 10)),(some (134, false))⟩,⟨some 137,.P (.iaddr 6 (.t 135) (.t 136)),(some (134, false))⟩,⟨some 138,.P (.faddr 0 (.t 137)),(some (134, false))⟩,⟨some 139,.R (.load 1 false (.t 138)),(some (134, false))⟩,⟨some 140,.P (.bin .eql (.t 139) (.c (.int .i64 13))),(some (134, false))⟩,⟨some 141,.P (.pick (.t 134) (.c (.bool true)) (.t 140)),none⟩,⟨some 142,.P (.mov (.t 141)),none⟩,⟨some 143,.P (.mov (.t 0)),(some (142, true))⟩,⟨some 144,.P (.mov (.t 9)),(some (142, true))⟩,⟨some 145,.P (.mov (.t 0)),(some (142, true))⟩,⟨some 146,.P (.mov (.t 10)),(some (142, true))⟩,⟨some 147,.P (.iaddr 6 (.t 145) (.t 146)),(some (142, true))⟩,⟨some 148,.P (.faddr 2 (.t 147)),(some (142, true))⟩,⟨some 149,.R (.load 1 false (.t 148)),(some (142, true))⟩,⟨some 150,.P (.mov (.t 11)),(some (142, true))⟩,⟨some 151,.P (.iaddr 1 (.t 149) (.t 150)),(some (142, true))⟩,⟨some 152,.R (.load 1 false (.t 151)),(some (142, true))⟩,⟨some 153,.C (.c (.func (.func 105) [] [])) [(.t 143),(.t 144),(.t 152)], (some (142, true))⟩,⟨some 154,.P (.pick (.t 142) (.t 153) (.c (.bool false))),none⟩]) (.kill [0,9,10,11,154] (.cond (.t 154) (.seq (.reg [⟨some 2,.P (.mov (.c (.int .i64 7))),none⟩]) .ret) .skip)))) (.kill [0,9,10,11] (.reg [⟨some 126,.P (.mov (.t 11)),none⟩,⟨some 127,.P (.bin .add (.t 126) (.c (.int .i64 1))),none⟩,⟨some 11,.P (.mov (.t 127)),none⟩]))))))))))) (.kill [0,9,10] (.reg [⟨some 116,.P (.mov (.t 10)),none⟩,⟨some 117,.P (.bin .add (.t 116) (.c (.int .i64 1))),none⟩,⟨some 10,.P (.mov (.t 117)),none⟩])))))))))) (.kill [] (.seq (.reg [⟨some 2,.P (.mov (.c (.int .i64 0))),none⟩]) .ret))))))))))))))) (E [(.tmp 2)] R .mk) .mk (mat 155 (sArgs 0 args)) m) (hl : Nat.ble args.length 155 = true := by rfl) : ACalls Tryz.prog 70 args m R := walk mix (by kernel_rfl) (Nat.le_of_ble_eq_true hl) h
abbrev h70_0 (t0 t3 : AVal) : AFrame := mat 155 [(0, t0),(3, t3)]
abbrev h70_1 (t0 t5 : AVal) : AFrame := mat 155 [(0, t0),(5, t5)]
abbrev h70_2 (t0 t5 t6 : AVal) : AFrame := mat 155 [(0, t0),(5, t5),(6, t6)]
abbrev h70_3 (t0 t8 : AVal) : AFrame := mat 155 [(0, t0),(8, t8)]
abbrev h70_4 (t0 t9 t10 : AVal) : AFrame := mat 155 [(0, t0),(9, t9),(10, t10)]
abbrev h70_5 (t0 t9 t10 t11 : AVal) : AFrame := mat 155 [(0, t0),(9, t9),(10, t10),(11, t11)]
end Go.Proofs.YtheadodblifklaaGreat
namespace Go.Proofs.YtheadodblifklaaGreat
open Go Ax
set_option maxRecDepth 100000
theorem w155 {args : List AVal} {m : AMem} {R : AVal → AMem → Prop} (h : W Tryz.prog (.seq (.reg [⟨some 10,.P (.mov (.c (.int .i64 0))),none⟩,⟨some 11,.P (.mov (.c (.bool false))),none⟩]) (.kill [0,1,2,3,4] (.seq (.draw true [⟨some 14,.P (.mov (.t 0)),none⟩,⟨some 15,.P (.mov (.t 1)),none⟩,⟨some 16,.P (.mov (.t 0)),none⟩,⟨some 17,.P (.mov (.t 3)),none⟩,⟨some 18,.P (.mov (.t 0)),none⟩,⟨some 19,.P (.mov (.t 3)),none⟩,⟨some 20,.P (.iaddr 1 (.t 18) (.t 19)),none⟩,⟨some 21,.R (.load 1 false (.t 20)),none⟩,⟨some 22,.P (.mov (.t 0)),none⟩,⟨some 23,.P (.mov (.t 1)),none⟩,⟨some 24,.P (.iaddr 1 (.t 22) (.t 23)),none⟩,⟨some 25,.R (.load 1 false (.t 24)),none⟩,⟨some 26,.P (.iaddr 1 (.t 14) (.t 15)),none⟩,⟨none,.W (.store 1 (.t 26) (.t 21)),none⟩,⟨some 27,.P (.iaddr 1 (.t 16) (.t 17)),none⟩,⟨none,.W (.store 1 (.t 27) (.t 25)),none⟩] [[],[],[],[],[],[],[],[],[],[],[],[],[],[],[],[]] [[],[],[],[],[],[],[],[],[],[],[],[],[],[],[],[]] [0,1,2,3,4,5,6,7,8,9,10,11,12,13,14,15]) (.kill [0,1,2,4] (.seq (.reg [⟨some 28,.P (.mov (.t 1)),none⟩,⟨some 29,.P (.bin .add (.t 28) (.c (.int .i64 1))),none⟩,⟨some 30,.P (.mov (.t 2)),none⟩,⟨some 31,.P (.bin .sub (.t 30) (.c (.int .i64 1))),none⟩,⟨some 12,.P (.mov (.t 29)),none⟩,⟨some 13,.P (.mov (.t 31)),none⟩]) (.kill [0,1,4,12,13] (.seq (.block 0 (.kill [0,1,4,12,13] (.loop (.fin [0,1,4,12,13] (.seq (.seq (.draw true [⟨some 32,.P (.mov (.t 12)),none⟩,⟨some 33,.P (.mov (.t 13)),none⟩,⟨some 34,.P (.bin .leq (.t 32) (.t 33)),none⟩,⟨some 35,.P (.mov (.t 34)),none⟩,⟨some 36,.P (.mov (.t 4)),(some (35, true))⟩,⟨some 37,.P (.mov (.t 0)),(some (35, true))⟩,⟨some 38,.P (.mov (.t 12)),(some (35, true))⟩,⟨some 39,.P (.iaddr 1 (.t 37) (.t 38)),(some (35, true))⟩,⟨some 40,.R (.load 1 false (.t 39)),(some (35, true))⟩,⟨some 41,.P (.mov (.t 0)),(some (35, true))⟩,⟨some 42,.P (.mov (.t 1)),(some (35, true))⟩,⟨some 43,.P (.iaddr 1 (.t 41) (.t 42)),(some (35, true))⟩,⟨some 44,.R (.load 1 false (.t 43)),(some (35, true))⟩,⟨some 45,.C (.t 36) [(.t 40),(.t 44)], (some (35, true))⟩,⟨some 46,.P (.bin .lss (.t 45) (.c (.int .i64 0))),(some (35, true))⟩,⟨some 47,.P (.pick (.t 35) (.t 46) (.c (.bool false))),none⟩] [[],[],[],[],[],[],[],[],[],[],[],[],[],[],[13], [13]] [[],[],[],[],[],[],[],[],[],[],[],[],[],[],[],[]] [0,1,2,3,4,5,6,7,8,9,10,11,12,13,14,15]) (.kill [0,1,4,12,13,47] (.cond (.t 47) .skip (.exit 0)))) (.kill [0,1,4,12,13] (.block 1 (.reg [⟨some 48,.P (.mov (.t 12)),none⟩,⟨some 49,.P (.bin .add (.t 48) (.c (.int .i64 1))),none⟩,⟨some 12,.P (.mov (.t 49)),none⟩])))))))) (.kill [0,1,4,12,13] (.seq (.block 2 (.kill [0,1,4,12,13] (.loop (.fin [0,1,4,12,13] (.seq (.seq (.draw true [⟨some 50,.P (.mov (.t 12)),none⟩,⟨some 51,.P (.mov (.t 13)),none⟩,⟨some 52,.P (.bin .leq (.t 50) (.t 51)),none⟩,⟨some 53,.P (.mov (.t 52)),none⟩,⟨some 54,.P (.mov (.t 4)),(some (53, true))⟩,⟨some 55,.P (.mov (.t 0)),(some (53, true))⟩,⟨some 56,.P (.mov (.t 13)),(some (53, true))⟩,⟨some 57,.P (.iaddr 1 (.t 55) (.t 56)),(some (53, true))⟩,⟨some 58,.R (.load 1 false (.t 57)),(some (53, true))⟩,⟨some 59,.P (.mov (.t 0)),(some (53, true))⟩,⟨some 60,.P (.mov (.t 1)),(some (53, true))⟩,⟨some 61,.P (.iaddr 1 (.t 59) (.t 60)),(some (53, true))⟩,⟨some 62,.R (.load 1 false (.t 61)),(some (53, true))⟩,⟨some 63,.C (.t 54) [(.t 58),(.t 62)], (some (53, true))⟩,⟨some 64,.P (.bin .lss (.t 63) (.c (.int .i64 0))),(some (53, true))⟩,⟨some 65,.P (.un .not (.t 64)),(some (53, true))⟩,⟨some 66,.P (.pick (.t 53) (.t 65) (.c (.bool false))),none⟩] [[],[],[],[],[],[],[],[],[],[],[],[],[],[],[13], [13], [13]] [[],[],[],[],[],[],[],[],[],[],[],[],[],[],[],[],[]] [0,1,2,3,4,5,6,7,8,9,10,11,12,13,14,15,16]) (.kill [0,1,4,12,13,66] (.cond (.t 66) .skip (.exit 2)))) (.kill [0,1,4,12,13] (.block 3 (.reg [⟨some 67,.P (.mov (.t 13)),none⟩,⟨some 68,.P (.bin .sub (.t 67) (.c (.int .i64 1))),none⟩,⟨some 13,.P (.mov (.t 68)),none⟩])))))))) (.kill [0,1,4,12,13] (.seq (.seq (.reg [⟨some 69,.P (.mov (.t 12)),none⟩,⟨some 70,.P (.mov (.t 13)),none⟩,⟨some 71,.P (.bin .gtr (.t 69) (.t 70)),none⟩]) (.kill [0,1,4,12,13,71] (.cond (.t 71) (.seq (.draw true [⟨some 72,.P (.mov (.t 0)),none⟩,⟨some 73,.P (.mov (.t 13)),none⟩,⟨some 74,.P (.mov (.t 0)),none⟩,⟨some 75,.P (.mov (.t 1)),none⟩,⟨some 76,.P (.mov (.t 0)),none⟩,⟨some 77,.P (.mov (.t 1)),none⟩,⟨some 78,.P (.iaddr 1 (.t 76) (.t 77)),none⟩,⟨some 79,.R (.load 1 false (.t 78)),none⟩,⟨some 80,.P (.mov (.t 0)),none⟩,⟨some 81,.P (.mov (.t 13)),none⟩,⟨some 82,.P (.iaddr 1 (.t 80) (.t 81)),none⟩,⟨some 83,.R (.load 1 false (.t 82)),none⟩,⟨some 84,.P (.iaddr 1 (.t 72) (.t 73)),none⟩,⟨none,.W (.store 1 (.t 84) (.t 79)),none⟩,⟨some 85,.P (.iaddr 1 (.t 74) (.t 75)),none⟩,⟨none,.W (.store 1 (.t 85) (.t 83)),none⟩] [[],[],[],[],[],[],[],[],[],[],[],[],[],[],[],[]] [[],[],[],[],[],[],[],[],[],[],[],[],[],[],[],[]] [0,1,2,3,4,5,6,7,8,9,10,11,12,13,14,15]) (.kill [13] (.seq (.reg [⟨some 86,.P (.mov (.t 13)),none⟩,⟨some 10,.P (.mov (.t 86)),none⟩,⟨some 11,.P (.mov (.c (.bool true))),none⟩]) .ret))) .skip))) (.kill [0,1,4,12,13] (.seq (.draw true [⟨some 87,.P (.mov (.t 0)),none⟩,⟨some 88,.P (.mov (.t 12)),none⟩,⟨some 89,.P (.mov (.t 0)),none⟩,⟨some 90,.P (.mov (.t 13)),none⟩,⟨some 91,.P (.mov (.t 0)),none⟩,⟨some 92,.P (.mov (.t 13)),none⟩,⟨some 93,.P (.iaddr 1 (.t 91) (.t 92)),none⟩,⟨some 94,.R (.load 1 false (.t 93)),none⟩,⟨some 95,.P (.mov (.t 0)),none⟩,⟨some 96,.P (.mov (.t 12)),none⟩,⟨some 97,.P (.iaddr 1 (.t 95) (.t 96)),none⟩,⟨some 98,.R (.load 1 false (.t 97)),none⟩,⟨some 99,.P (.iaddr 1 (.t 87) (.t 88)),none⟩,⟨none,.W (.store 1 (.t 99) (.t 94)),none⟩,⟨some 100,.P (.iaddr 1 (.t 89) (.t 90)),none⟩,⟨none,.W (.store 1 (.t 100) (.t 98)),none⟩] [[],[],[],[],[],[],[],[],[],[],[],[],[],[],[],[]] [[],[],[],[],[],[],[],[],[],[],[],[],[],[],[],[]] [0,1,2,3,4,5,6,7,8,9,10,11,12,13,14,15]) (.kill [0,1,4,12,13] (.seq (.reg [⟨some 101,.P (.mov (.t 12)),none⟩,⟨some 102,.P (.bin .add (.t 101) (.c (.int .i64 1))),none⟩,⟨some 12,.P (.mov (.t 102)),none⟩]) (.kill [0,1,4,12,13] (.seq (.reg [⟨some 103,.P (.mov (.t 13)),none⟩,⟨some 104,.P (.bin .sub (.t 103) (.c (.int .i64 1))),none⟩,⟨some 13,.P (.mov (.t 104)),none⟩]) (.kill [0,1,4,12,13] (.seq (.block 4 (.kill [0,1,4,12,13] (.loop (.fin [0,1,4,12,13] (.block 5 (.seq (.block 6 (.kill [0,1,4,12,13] (.loop (.fin [0,1,4,12,13] (.seq (.seq (.draw true [⟨some 105,.P (.mov (.t 12)),none⟩,⟨some 106,.P (.mov (.t 13)),none⟩,⟨some 107,.P (.bin .leq (.t 105) (.t 106)),none⟩,⟨some 108,.P (.mov (.t 107)),none⟩,⟨some 109,.P (.mov (.t 4)),(some (108, true))⟩,⟨some 110,.P (.mov (.t 0)),(some (108, true))⟩,⟨some 111,.P (.mov (.t 12)),(some (108, true))⟩,⟨some 112,.P (.iaddr 1 (.t 110) (.t 111)),(some (108, true))⟩,⟨some 113,.R (.load 1 false (.t 112)),(some (108, true))⟩,⟨some 114,.P (.mov (.t 0)),(some (108, true))⟩,⟨some 115,.P (.mov (.t 1)),(some (108, true))⟩,⟨some 116,.P (.iaddr 1 (.t 114) (.t 115)),(some (108, true))⟩,⟨some 117,.R (.load 1 false (.t 116)),(some (108, true))⟩,⟨some 118,.C (.t 109) [(.t 113),(.t 117)], (some (108, true))⟩,⟨some 119,.P (.bin .lss (.t 118) (.c (.int .i64 0))),(some (108, true))⟩,⟨some 120,.P (.pick (.t 108) (.t 119) (.c (.bool false))),none⟩] [[],[],[],[],[],[],[],[],[],[],[],[],[],[],[13], [13]] [[],[],[],[],[],[],[],[],[],[],[],[],[],[],[],[]] [0,1,2,3,4,5,6,7,8,9,10,11,12,13,14,15]) (.kill [0,1,4,12,13,120] (.cond (.t 120) .skip (.exit 6)))) (.kill [0,1,4,12,13] (.block 7 (.reg [⟨some 121,.P (.mov (.t 12)),none⟩,⟨some 122,.P (.bin .add (.t 121) (.c (.int .i64 1))),none⟩,⟨some 12,.P (.mov (.t 122)),none⟩])))))))) (.kill [0,1,4,12,13] (.seq (.block 8 (.kill [0,1,4,12,13] (.loop (.fin [0,1,4,12,13] (.seq (.seq (.draw true [⟨some 123,.P (.mov (.t 12)),none⟩,⟨some 124,.P (.mov (.t 13)),none⟩,⟨some 125,.P (.bin .leq (.t 123) (.t 124)),none⟩,⟨some 126,.P (.mov (.t 125)),none⟩,⟨some 127,.P (.mov (.t 4)),(some (126, true))⟩,⟨some 128,.P (.mov (.t 0)),(some (126, true))⟩,⟨some 129,.P (.mov (.t 13)),(some (126, true))⟩,⟨some 130,.P (.iaddr 1 (.t 128) (.t 129)),(some (126, true))⟩,⟨some 131,.R (.load 1 false (.t 130)),(some (126, true))⟩,⟨some 132,.P (.mov (.t 0)),(some (126, true))⟩,⟨some 133,.P (.mov (.t 1)),(some (126, true))⟩,⟨some 134,.P (.iaddr 1 (.t 132) (.t 133)),(some (126, true))⟩,⟨some 135,.R (.load 1 false (.t 134)),(some (126, true))⟩,⟨some 136,.C (.t 127) [(.t 131),(.t 135)], (some (126, true))⟩,⟨some 137,.P (.bin .lss (.t 136) (.c (.int .i64 0))),(some (126, true))⟩,⟨some 138,.P (.un .not (.t 137)),(some (126, true))⟩,⟨some 139,.P (.pick (.t 126) (.t 138) (.c (.bool false))),none⟩] [[],[],[],[],[],[],[],[],[],[],[],[],[],[],[13], [13], [13]] [[],[],[],[],[],[],[],[],[],[],[],[],[],[],[],[],[]] [0,1,2,3,4,5,6,7,8,9,10,11,12,13,14,15,16]) (.kill [0,1,4,12,13,139] (.cond (.t 139) .skip (.exit 8)))) (.kill [0,1,4,12,13] (.block 9 (.reg [⟨some 140,.P (.mov (.t 13)),none⟩,⟨some 141,.P (.bin .sub (.t 140) (.c (.int .i64 1))),none⟩,⟨some 13,.P (.mov (.t 141)),none⟩])))))))) (.kill [0,1,4,12,13] (.seq (.seq (.reg [⟨some 142,.P (.mov (.t 12)),none⟩,⟨some 143,.P (.mov (.t 13)),none⟩,⟨some 144,.P (.bin .gtr (.t 142) (.t 143)),none⟩]) (.kill [0,1,4,12,13,144] (.cond (.t 144) (.exit 4) .skip))) (.kill [0,1,4,12,13] (.seq (.draw true [⟨some 145,.P (.mov (.t 0)),none⟩,⟨some 146,.P (.mov (.t 12)),none⟩,⟨some 147,.P (.mov (.t 0)),none⟩,⟨some 148,.P (.mov (.t 13)),none⟩,⟨some 149,.P (.mov (.t 0)),none⟩,⟨some 150,.P (.mov (.t 13)),none⟩,⟨some 151,.P (.iaddr 1 (.t 149) (.t 150)),none⟩,⟨some 152,.R (.load 1 false (.t 151)),none⟩,⟨some 153,.P (.mov (.t 0)),none⟩,⟨some 154,.P (.mov (.t 12)),none⟩,⟨some 155,.P (.iaddr 1 (.t 153) (.t 154)),none⟩,⟨some 156,.R (.load 1 false (.t 155)),none⟩,⟨some 157,.P (.iaddr 1 (.t 145) (.t 146)),none⟩,⟨none,.W (.store 1 (.t 157) (.t 152)),none⟩,⟨some 158,.P (.iaddr 1 (.t 147) (.t 148)),none⟩,⟨none,.W (.store 1 (.t 158) (.t 156)),none⟩] [[],[],[],[],[],[],[],[],[],[],[],[],[],[],[],[]] [[],[],[],[],[],[],[],[],[],[],[],[],[],[],[],[]] [0,1,2,3,4,5,6,7,8,9,10,11,12,13,14,15]) (.kill [0,1,4,12,13] (.seq (.reg [⟨some 159,.P (.mov (.t 12)),none⟩,⟨some 160,.P (.bin .add (.t 159) (.c (.int .i64 1))),none⟩,⟨some 12,.P (.mov (.t 160)),none⟩]) (.kill [0,1,4,12,13] (.reg [⟨some 161,.P (.mov (.t 13)),none⟩,⟨some 162,.P (.bin .sub (.t 161) (.c (.int .i64 1))),none⟩,⟨some 13,.P (.mov (.t 162)),none⟩])))))))))))))))) (.kill [0,1,13] (.seq (.draw true [⟨some 163,.P (.mov (.t 0)),none⟩,⟨some 164,.P (.mov (.t 13)),none⟩,⟨some 165,.P (.mov (.t 0)),none⟩,⟨some 166,.P (.mov (.t 1)),none⟩,⟨some 167,.P (.mov (.t 0)),none⟩,⟨some 168,.P (.mov (.t 1)),none⟩,⟨some 169,.P (.iaddr 1 (.t 167) (.t 168)),none⟩,⟨some 170,.R (.load 1 false (.t 169)),none⟩,⟨some 171,.P (.mov (.t 0)),none⟩,⟨some 172,.P (.mov (.t 13)),none⟩,⟨some 173,.P (.iaddr 1 (.t 171) (.t 172)),none⟩,⟨some 174,.R (.load 1 false (.t 173)),none⟩,⟨some 175,.P (.iaddr 1 (.t 163) (.t 164)),none⟩,⟨none,.W (.store 1 (.t 175) (.t 170)),none⟩,⟨some 176,.P (.iaddr 1 (.t 165) (.t 166)),none⟩,⟨none,.W (.store 1 (.t 176) (.t 174)),none⟩] [[],[],[],[],[],[],[],[],[],[],[],[],[],[],[],[]] [[],[],[],[],[],[],[],[],[],[],[],[],[],[],[],[]] [0,1,2,3,4,5,6,7,8,9,10,11,12,13,14,15]) (.kill [13] (.seq (.reg [⟨some 177,.P (.mov (.t 13)),none⟩,⟨some 10,.P (.mov (.t 177)),none⟩,⟨some 11,.P (.mov (.c (.bool false))),none⟩]) .ret))))))))))))))))))))))) (E [(.tmp 10),(.tmp 11)] R .mk) .mk (mat 178 (sArgs 0 args)) m) (hl : Nat.ble args.length 178 = true := by rfl) : ACalls Tryz.prog 155 args m R := walk mix (by kernel_rfl) (Nat.le_of_ble_eq_true hl) h
abbrev h155_0 (t0 t1 t4 t12 t13 : AVal) : AFrame := mat 178 [(0, t0),(1, t1),(4, t4),(12, t12),(13, t13)]
abbrev h155_1 (t0 t1 t4 t12 t13 : AVal) : AFrame := mat 178 [(0, t0),(1, t1),(4, t4),(12, t12),(13, t13)]
abbrev h155_2 (t0 t1 t4 t12 t13 : AVal) : AFrame := mat 178 [(0, t0),(1, t1),(4, t4),(12, t12),(13, t13)]
abbrev h155_3 (t0 t1 t4 t12 t13 : AVal) : AFrame := mat 178 [(0, t0),(1, t1),(4, t4),(12, t12),(13, t13)]
abbrev h155_4 (t0 t1 t4 t12 t13 : AVal) : AFrame := mat 178 [(0, t0),(1, t1),(4, t4),(12, t12),(13, t13)]
theorem w157 {args : List AVal} {m : AMem} {R : AVal → AMem → Prop} (h : W Tryz.prog (.seq (.reg [⟨some 2,.P (.mov (.c (.int .i64 0))),none⟩]) (.seq (.seq (.reg [⟨some 3,.P (.mov (.t 0)),none⟩,⟨some 4,.P (.bin .geq (.t 3) (.c (.int .u64 4294967296))),none⟩]) (.kill [0,2,4] (.cond (.t 4) (.seq (.reg [⟨some 5,.P (.mov (.t 0)),none⟩,⟨some 6,.P (.bin .shr (.t 5) (.c (.int .u64 32))),none⟩,⟨some 0,.P (.mov (.t 6)),none⟩]) (.kill [0] (.reg [⟨some 2,.P (.mov (.c (.int .i64 32))),none⟩]))) .skip))) (.kill [0,2] (.seq (.seq (.reg [⟨some 7,.P (.mov (.t 0)),none⟩,⟨some 8,.P (.bin .geq (.t 7) (.c (.int .u64 65536))),none⟩]) (.kill [0,2,8] (.cond (.t 8) (.seq (.reg [⟨some 9,.P (.mov (.t 0)),none⟩,⟨some 10,.P (.bin .shr (.t 9) (.c (.int .u64 16))),none⟩,⟨some 0,.P (.mov (.t 10)),none⟩]) (.kill [0,2] (.reg [⟨some 11,.P (.mov (.t 2)),none⟩,⟨some 12,.P (.bin .add (.t 11) (.c (.int .i64 16))),none⟩,⟨some 2,.P (.mov (.t 12)),none⟩]))) .skip))) (.kill [0,2] (.seq (.seq (.reg [⟨some 13,.P (.mov (.t 0)),none⟩,⟨some 14,.P (.bin .geq (.t 13) (.c (.int .u64 256))),none⟩]) (.kill [0,2,14] (.cond (.t 14) (.seq (.reg [⟨some 15,.P (.mov (.t 0)),none⟩,⟨some 16,.P (.bin .shr (.t 15) (.c (.int .u64 8))),none⟩,⟨some 0,.P (.mov (.t 16)),none⟩]) (.kill [0,2] (.reg [⟨some 17,.P (.mov (.t 2)),none⟩,⟨some 18,.P (.bin .add (.t 17) (.c (.int .i64 8))),none⟩,⟨some 2,.P (.mov (.t 18)),none⟩]))) .skip))) (.kill [0,2] (.seq (.reg [⟨some 19,.P (.mov (.t 2)),none⟩,⟨some 20,.P (.mov (.t 0)),none⟩,⟨some 21,.P (.i2i .u8 (.t 20)),none⟩,⟨some 22,.P (.ixs (.c (.str ⟨#[0,1,2,2,3,3,3,3,4,4,4,4,4,4,4,4,5,5,5,5,5,5,5,5,5,5,5,5,5,5,5,5,6,6,6,6,6,6,6,6,6,6,6,6,6,6,6,6,6,6,6,6,6,6,6,6,6,6,6,6,6,6,6,6,7,7,7,7,7,7,7,7,7,7,7,7,7,7,7,7,7,7,7,7,7,7,7,7,7,7,7,7,7,7,7,7,7,7,7,7,7,7,7,7,7,7,7,7,7,7,7,7,7,7,7,7,7,7,7,7,7,7,7,7,7,7,7,7,8,8,8,8,8,8,8,8,8,8,8,8,8,8,8,8,8,8,8,8,8,8,8,8,8,8,8,8,8,8,8,8,8,8,8,8,8,8,8,8,8,8,8,8,8,8,8,8,8,8,8,8,8,8,8,8,8,8,8,8,8,8,8,8,8,8,8,8,8,8,8,8,8,8,8,8,8,8,8,8,8,8,8,8,8,8,8,8,8,8,8,8,8,8,8,8,8,8,8,8,8,8,8,8,8,8,8,8,8,8,8,8,8,8,8,8,8,8,8,8,8,8,8,8,8,8,8,8]⟩)) (.t 21)),none⟩,⟨some 23,.P (.i2i .i64 (.t 22)),none⟩,⟨some 24,.P (.bin .add (.t 19) (.t 23)),none⟩,⟨some 2,.P (.mov (.t 24)),none⟩]) .ret)))))))) (E [(.tmp 2)] R .mk) .mk (mat 25 (sArgs 0 args)) m) (hl : Nat.ble args.length 25 = true := by rfl) : ACalls Tryz.prog 157 args m R := walk mix (by kernel_rfl) (Nat.le_of_ble_eq_true hl) h
theorem w158 {args : List AVal} {m : AMem} {R : AVal → AMem → Prop} (h : W Tryz.prog (.seq (.reg [⟨some 4,.P (.mov (.c (.int .i64 0))),none⟩]) (.kill [0,1] (.seq (.seq (.reg [⟨some 6,.P (.mov (.t 0)),none⟩,⟨some 7,.P (.len (.t 6)),none⟩,⟨some 8,.P (.mov (.c (.int .i64 0))),none⟩]) (.kill [0,1,7,8] (.block 0 (.kill [0,1,7,8] (.loop (.fin [0,1,7,8] (.seq (.reg [⟨some 9,.P (.bin .lss (.t 8) (.t 7)),none⟩]) (.seq (.cond (.t 9) .skip (.exit 0)) (.kill [0,1,7,8] (.seq (.block 1 (.seq (.reg [⟨some 10,.P (.mov (.t 8)),none⟩,⟨some 5,.P (.mov (.t 10)),none⟩]) (.kill [0,1,5,7,8] (.seq (.reg [⟨some 11,.P (.mov (.t 1)),none⟩,⟨some 12,.P (.mov (.t 0)),none⟩,⟨some 13,.P (.mov (.t 5)),none⟩,⟨some 14,.P (.iaddr 1 (.t 12) (.t 13)),none⟩,⟨some 15,.R (.load 1 false (.t 14)),none⟩,⟨some 16,.C (.t 11) [(.t 15)],none⟩]) (.kill [0,1,5,7,8,16] (.cond (.t 16) (.seq (.reg [⟨some 17,.P (.mov (.t 5)),none⟩,⟨some 4,.P (.mov (.t 17)),none⟩]) .ret) .skip)))))) (.kill [0,1,7,8] (.reg [⟨some 18,.P (.bin .add (.t 8) (.c (.int .i64 1))),none⟩,⟨some 8,.P (.mov (.t 18)),none⟩])))))))))))) (.kill [] (.seq (.reg [⟨some 4,.P (.mov (.c (.int .i64 (-1)))),none⟩]) .ret))))) (E [(.tmp 4)] R .mk) .mk (mat 19 (sArgs 0 args)) m) (hl : Nat.ble args.length 19 = true := by rfl) : ACalls Tryz.prog 158 args m R := walk mix (by kernel_rfl) (Nat.le_of_ble_eq_true hl) h
abbrev h158_0 (t0 t1 t7 t8 : AVal) : AFrame := mat 19 [(0, t0),(1, t1),(7, t7),(8, t8)]
theorem w159 {args : List AVal} {m : AMem} {R : AVal → AMem → Prop} (h : W Tryz.prog (.seq (.reg [⟨some 6,.P (.mov (.c (.bool false))),none⟩]) (.kill [0,1,2] (.seq (.seq (.reg [⟨some 9,.P (.mov (.t 0)),none⟩,⟨some 10,.P (.lenS (.t 9)),none⟩,⟨some 11,.P (.mov (.c (.int .i64 0))),none⟩]) (.kill [0,1,2,10,11] (.block 0 (.kill [0,1,2,10,11] (.loop (.fin [0,1,2,10,11] (.seq (.reg [⟨some 12,.P (.bin .lss (.t 11) (.t 10)),none⟩]) (.seq (.cond (.t 12) .skip (.exit 0)) (.kill [0,1,2,10,11] (.seq (.block 1 (.seq (.reg [⟨some 13,.P (.mov (.t 11)),none⟩,⟨some 7,.P (.mov (.t 13)),none⟩]) (.kill [0,1,2,7,10,11] (.seq (.reg [⟨some 14,.P (.mov (.t 0)),none⟩,⟨some 15,.P (.mov (.t 7)),none⟩,⟨some 16,.P (.ixs (.t 14) (.t 15)),none⟩,⟨some 17,.P (.mov (.t 1)),none⟩,⟨some 18,.P (.bin .geq (.t 16) (.t 17)),none⟩,⟨some 19,.P (.mov (.t 18)),none⟩,⟨some 20,.P (.mov (.t 0)),(some (19, true))⟩,⟨some 21,.P (.mov (.t 7)),(some (19, true))⟩,⟨some 22,.P (.ixs (.t 20) (.t 21)),(some (19, true))⟩,⟨some 23,.P (.mov (.t 2)),(some (19, true))⟩,⟨some 24,.P (.bin .leq (.t 22) (.t 23)),(some (19, true))⟩,⟨some 25,.P (.pick (.t 19) (.t 24) (.c (.bool false))),none⟩,⟨some 8,.P (.mov (.t 25)),none⟩]) (.kill [0,1,2,7,8,10,11] (.seq (.reg [⟨some 26,.P (.mov (.t 8)),none⟩,⟨some 27,.P (.un .not (.t 26)),none⟩,⟨some 28,.P (.mov (.t 27)),none⟩,⟨some 29,.P (.mov (.t 7)),(some (28, true))⟩,⟨some 30,.P (.bin .eql (.t 29) (.c (.int .i64 0))),(some (28, true))⟩,⟨some 31,.P (.mov (.t 30)),(some (28, true))⟩,⟨some 32,.P (.mov (.t 0)),(some (31, false))⟩,⟨some 33,.P (.mov (.t 7)),(some (31, false))⟩,⟨some 34,.P (.ixs (.t 32) (.t 33)),(some (31, false))⟩,⟨some 35,.P (.bin .lss (.t 34) (.c (.int .u8 48))),(some (31, false))⟩,⟨some 36,.P (.pick (.t 31) (.c (.bool true)) (.t 35)),(some (28, true))⟩,⟨some 37,.P (.mov (.t 36)),(some (28, true))⟩,⟨some 38,.P (.mov (.t 0)),(some (37, false))⟩,⟨some 39,.P (.mov (.t 7)),(some (37, false))⟩,⟨some 40,.P (.ixs (.t 38) (.t 39)),(some (37, false))⟩,⟨some 41,.P (.bin .gtr (.t 40) (.c (.int .u8 57))),(some (37, false))⟩,⟨some 42,.P (.pick (.t 37) (.c (.bool true)) (.t 41)),(some (28, true))⟩,⟨some 43,.P (.pick (.t 28) (.t 42) (.c (.bool false))),none⟩]) (.kill [0,1,2,10,11,43] (.cond (.t 43) (.seq (.reg [⟨some 6,.P (.mov (.c (.bool false))),none⟩]) .ret) .skip)))))))) (.kill [0,1,2,10,11] (.reg [⟨some 44,.P (.bin .add (.t 11) (.c (.int .i64 1))),none⟩,⟨some 11,.P (.mov (.t 44)),none⟩])))))))))))) (.kill [0] (.seq (.reg [⟨some 45,.P (.mov (.t 0)),none⟩,⟨some 46,.P (.lenS (.t 45)),none⟩,⟨some 47,.P (.bin .geq (.t 46) (.c (.int .i64 1))),none⟩,⟨some 48,.P (.mov (.t 47)),none⟩,⟨some 49,.P (.mov (.t 0)),(some (48, true))⟩,⟨some 50,.P (.lenS (.t 49)),(some (48, true))⟩,⟨some 51,.P (.bin .leq (.t 50) (.c (.int .i64 40))),(some (48, true))⟩,⟨some 52,.P (.pick (.t 48) (.t 51) (.c (.bool false))),none⟩,⟨some 6,.P (.mov (.t 52)),none⟩]) .ret))))) (E [(.tmp 6)] R .mk) .mk (mat 53 (sArgs 0 args)) m) (hl : Nat.ble args.length 53 = true := by rfl) : ACalls Tryz.prog 159 args m R := walk mix (by kernel_rfl) (Nat.le_of_ble_eq_true hl) h
abbrev h159_0 (t0 t1 t2 t10 t11 : AVal) : AFrame := mat 53 [(0, t0),(1, t1),(2, t2),(10, t10),(11, t11)]
theorem w160 {args : List AVal} {m : AMem} {R : AVal → AMem → Prop} (h : W Tryz.prog (.seq (.reg [⟨some 4,.P (.mov (.c (.int .i64 0))),none⟩]) (.kill [0,1] (.seq (.seq (.reg [⟨some 6,.P (.mov (.t 0)),none⟩,⟨some 7,.P (.len (.t 6)),none⟩,⟨some 8,.P (.mov (.c (.int .i64 0))),none⟩]) (.kill [0,1,7,8] (.block 0 (.kill [0,1,7,8] (.loop (.fin [0,1,7,8] (.seq (.reg [⟨some 9,.P (.bin .lss (.t 8) (.t 7)),none⟩]) (.seq (.cond (.t 9) .skip (.exit 0)) (.kill [0,1,7,8] (.seq (.block 1 (.seq (.reg [⟨some 10,.P (.mov (.t 8)),none⟩,⟨some 5,.P (.mov (.t 10)),none⟩]) (.kill [0,1,5,7,8] (.seq (.reg [⟨some 11,.P (.mov (.t 1)),none⟩,⟨some 12,.P (.mov (.t 0)),none⟩,⟨some 13,.P (.mov (.t 5)),none⟩,⟨some 14,.P (.iaddr 1 (.t 12) (.t 13)),none⟩,⟨some 15,.R (.load 1 false (.t 14)),none⟩,⟨some 16,.P (.bin .eql (.t 11) (.t 15)),none⟩]) (.kill [0,1,5,7,8,16] (.cond (.t 16) (.seq (.reg [⟨some 17,.P (.mov (.t 5)),none⟩,⟨some 4,.P (.mov (.t 17)),none⟩]) .ret) .skip)))))) (.kill [0,1,7,8] (.reg [⟨some 18,.P (.bin .add (.t 8) (.c (.int .i64 1))),none⟩,⟨some 8,.P (.mov (.t 18)),none⟩])))))))))))) (.kill [] (.seq (.reg [⟨some 4,.P (.mov (.c (.int .i64 (-1)))),none⟩]) .ret))))) (E [(.tmp 4)] R .mk) .mk (mat 19 (sArgs 0 args)) m) (hl : Nat.ble args.length 19 = true := by rfl) : ACalls Tryz.prog 160 args m R := walk mix (by kernel_rfl) (Nat.le_of_ble_eq_true hl) h
abbrev h160_0 (t0 t1 t7 t8 : AVal) : AFrame := mat 19 [(0, t0),(1, t1),(7, t7),(8, t8)]
theorem w161 {args : List AVal} {m : AMem} {R : AVal → AMem → Prop} (h : W Tryz.prog (.seq (.reg [⟨some 4,.P (.mov (.c (.int .i64 0))),none⟩]) (.kill [0,1] (.seq (.reg [⟨some 7,.P (.mov (.t 0)),none⟩,⟨some 8,.C (.c (.func (.func 180) [] [])) [(.t 7)],none⟩,⟨some 5,.P (.mov (.t 8)),none⟩]) (.kill [0,1,5] (.seq (.reg [⟨some 9,.P (.mov (.t 1)),none⟩,⟨some 10,.C (.c (.func (.func 180) [] [])) [(.t 9)],none⟩,⟨some 6,.P (.mov (.t 10)),none⟩]) (.kill [0,1,5,6] (.seq (.seq (.reg [⟨some 11,.P (.mov (.t 5)),none⟩]) (.kill [0,1,6,11] (.cond (.t 11) (.seq (.seq (.reg [⟨some 12,.P (.mov (.t 6)),none⟩]) (.kill [12] (.cond (.t 12) (.seq (.reg [⟨some 4,.P (.mov (.c (.int .i64 0))),none⟩]) .ret) .skip))) (.kill [] (.seq (.reg [⟨some 4,.P (.mov (.c (.int .i64 (-1)))),none⟩]) .ret))) .skip))) (.kill [0,1,6] (.seq (.seq (.reg [⟨some 13,.P (.mov (.t 6)),none⟩]) (.kill [0,1,13] (.cond (.t 13) (.seq (.reg [⟨some 4,.P (.mov (.c (.int .i64 1))),none⟩]) .ret) .skip))) (.kill [0,1] (.seq (.seq (.reg [⟨some 14,.P (.mov (.t 0)),none⟩,⟨some 15,.P (.mov (.t 1)),none⟩,⟨some 16,.P (.bin .lss (.t 14) (.t 15)),none⟩]) (.kill [0,1,16] (.cond (.t 16) (.seq (.reg [⟨some 4,.P (.mov (.c (.int .i64 (-1)))),none⟩]) .ret) .skip))) (.kill [0,1] (.seq (.seq (.reg [⟨some 17,.P (.mov (.t 0)),none⟩,⟨some 18,.P (.mov (.t 1)),none⟩,⟨some 19,.P (.bin .gtr (.t 17) (.t 18)),none⟩]) (.kill [19] (.cond (.t 19) (.seq (.reg [⟨some 4,.P (.mov (.c (.int .i64 1))),none⟩]) .ret) .skip))) (.kill [] (.seq (.reg [⟨some 4,.P (.mov (.c (.int .i64 0))),none⟩]) .ret))))))))))))))) (E [(.tmp 4)] R .mk) .mk (mat 20 (sArgs 0 args)) m) (hl : Nat.ble args.length 20 = true := by rfl) : ACalls Tryz.prog 161 args m R := walk mix (by kernel_rfl) (Nat.le_of_ble_eq_true hl) h
theorem w162 {args : List AVal} {m : AMem} {R : AVal → AMem → Prop} (h : W Tryz.prog (.seq (.reg [⟨some 8,.P (.mov (.t 1)),none⟩,⟨some 9,.P (.bin .add (.t 8) (.c (.int .i64 1))),none⟩,⟨some 6,.P (.mov (.t 9)),none⟩]) (.kill [0,1,2,6] (.block 0 (.kill [0,1,2,6] (.loop (.fin [0,1,2,6] (.seq (.seq (.reg [⟨some 10,.P (.mov (.t 6)),none⟩,⟨some 11,.P (.mov (.t 2)),none⟩,⟨some 12,.P (.bin .lss (.t 10) (.t 11)),none⟩]) (.kill [0,1,2,6,12] (.cond (.t 12) .skip (.exit 0)))) (.kill [0,1,2,6] (.seq (.block 1 (.seq (.reg [⟨some 15,.P (.mov (.t 6)),none⟩,⟨some 7,.P (.mov (.t 15)),none⟩]) (.kill [0,1,2,6,7] (.block 2 (.kill [0,1,2,6,7] (.loop (.fin [0,1,2,6,7] (.seq (.seq (.draw true [⟨some 16,.P (.mov (.t 7)),none⟩,⟨some 17,.P (.mov (.t 1)),none⟩,⟨some 18,.P (.bin .gtr (.t 16) (.t 17)),none⟩,⟨some 19,.P (.mov (.t 18)),none⟩,⟨some 20,.P (.mov (.t 0)),(some (19, true))⟩,⟨some 21,.P (.mov (.t 7)),(some (19, true))⟩,⟨some 22,.P (.iaddr 1 (.t 20) (.t 21)),(some (19, true))⟩,⟨some 23,.R (.load 1 false (.t 22)),(some (19, true))⟩,⟨some 24,.P (.mov (.t 0)),(some (19, true))⟩,⟨some 25,.P (.mov (.t 7)),(some (19, true))⟩,⟨some 26,.P (.bin .sub (.t 25) (.c (.int .i64 1))),(some (19, true))⟩,⟨some 27,.P (.iaddr 1 (.t 24) (.t 26)),(some (19, true))⟩,⟨some 28,.R (.load 1 false (.t 27)),(some (19, true))⟩,⟨some 29,.C (.c (.func (.func 168) [] [])) [(.t 23),(.t 28)], (some (19, true))⟩,⟨some 30,.P (.pick (.t 19) (.t 29) (.c (.bool false))),none⟩] [[],[],[],[],[],[],[],[],[],[],[],[],[],[],[13]] [[],[],[],[],[],[],[],[],[],[],[],[],[],[],[]] [0,1,2,3,4,5,6,7,8,9,10,11,12,13,14]) (.kill [0,1,2,6,7,30] (.cond (.t 30) .skip (.exit 2)))) (.kill [0,1,2,6,7] (.seq (.block 3 (.draw true [⟨some 33,.P (.mov (.t 0)),none⟩,⟨some 34,.P (.mov (.t 7)),none⟩,⟨some 35,.P (.mov (.t 0)),none⟩,⟨some 36,.P (.mov (.t 7)),none⟩,⟨some 37,.P (.bin .sub (.t 36) (.c (.int .i64 1))),none⟩,⟨some 38,.P (.mov (.t 0)),none⟩,⟨some 39,.P (.mov (.t 7)),none⟩,⟨some 40,.P (.bin .sub (.t 39) (.c (.int .i64 1))),none⟩,⟨some 41,.P (.iaddr 1 (.t 38) (.t 40)),none⟩,⟨some 42,.R (.load 1 false (.t 41)),none⟩,⟨some 43,.P (.mov (.t 0)),none⟩,⟨some 44,.P (.mov (.t 7)),none⟩,⟨some 45,.P (.iaddr 1 (.t 43) (.t 44)),none⟩,⟨some 46,.R (.load 1 false (.t 45)),none⟩,⟨some 47,.P (.iaddr 1 (.t 33) (.t 34)),none⟩,⟨none,.W (.store 1 (.t 47) (.t 42)),none⟩,⟨some 48,.P (.iaddr 1 (.t 35) (.t 37)),none⟩,⟨none,.W (.store 1 (.t 48) (.t 46)),none⟩] [[],[],[],[],[],[],[],[],[],[],[],[],[],[],[],[],[],[]] [[],[],[],[],[],[],[],[],[],[],[],[],[],[],[],[],[],[]] [0,1,2,3,4,5,6,7,8,9,10,11,12,13,14,15,16,17])) (.kill [0,1,2,6,7] (.reg [⟨some 31,.P (.mov (.t 7)),none⟩,⟨some 32,.P (.bin .sub (.t 31) (.c (.int .i64 1))),none⟩,⟨some 7,.P (.mov (.t 32)),none⟩])))))))))))) (.kill [0,1,2,6] (.reg [⟨some 13,.P (.mov (.t 6)),none⟩,⟨some 14,.P (.bin .add (.t 13) (.c (.int .i64 1))),none⟩,⟨some 6,.P (.mov (.t 14)),none⟩]))))))))))) (E [] R .mk) .mk (mat 49 (sArgs 0 args)) m) (hl : Nat.ble args.length 49 = true := by rfl) : ACalls Tryz.prog 162 args m R := walk mix (by kernel_rfl) (Nat.le_of_ble_eq_true hl) h
abbrev h162_0 (t0 t1 t2 t6 : AVal) : AFrame := mat 49 [(0, t0),(1, t1),(2, t2),(6, t6)]
abbrev h162_1 (t0 t1 t2 t6 t7 : AVal) : AFrame := mat 49 [(0, t0),(1, t1),(2, t2),(6, t6),(7, t7)]
end Go.Proofs.YtheadodblifklaaGreat
namespace Go.Proofs.YtheadodblifklaaGreat
open Go Ax
set_option maxRecDepth 100000
@[simp] theorem loadE_new (m : AMem) (cs : List AVal) (ty : TypeId) (g : Option Nat) (o n : Nat) : loadE (m ++ [.own cs ty g]) n false (.ptr m.length o) = cs[o]? := by
  simp [loadE, readB, ABlk.cells]
@[simp] theorem loadE_new' (m : AMem) (cs : List AVal) (ty : TypeId) (g : Option Nat) (o n : Nat) : loadE (m ++ [.own cs ty g]) n true (.ptr m.length o) = (readN cs o n).map .agg := by
  simp [loadE, readB, ABlk.cells]
theorem Ax.Sl.one {m : AMem} {esz : Nat} {s : AVal} {n : Nat} {cs : List AVal} (h : Sl m esz s n cs) : s.one = true := by
  rcases h with ⟨rfl, _⟩ | ⟨b, o, cap, gr, rfl, _⟩ <;> rfl
theorem Ax.RTab.mode {m : AMem} {s : AVal} {l : List Md} (h : RTab m s l) {i : Nat} (hi : i < l.length) : ∃ b o cs, (∀ k, iaddrE 6 s (.int k i) = some (.ptr b o)) ∧ loadE m 6 true (.ptr b o) = some (.agg cs) ∧ RMode m cs l[i] := by
  obtain ⟨b, o, e, nm, h1, h2, _, _, _, _, _, _, h3, h4⟩ := h.at hi
  exact ⟨b, o, _, h1, h2, e, nm, rfl, h3, h4⟩
theorem step64 {k n : Nat} (h : k < n) (hn : n < 2 ^ 62) : IntKind.i64.wrap ((k : Int) + 1) = (k : Int) + 1 := wrap64 (by omega) (by omega)
theorem k67 (s : AVal) (l : List Md) (p : Md → Bool) (m : AMem) (hs : RTab m s l) (hn : l.length < 2 ^ 62) (g : FuncId) (fs cs : List AVal)
    (hf : ∀ x ∈ l, ∀ m' c, m <+: m' → RMode m' c x → ACalls Tryz.prog g (fs ++ [.agg c] ++ cs) m' fun v m'' => v = .bool (p x) ∧ m' <+: m'') :
    ACalls Tryz.prog 67 [s, .func (.func g) fs cs] m fun r m' => r = .int .i64 (fidx (fun i => (l[i]?).any p) 0 l.length) ∧ m <+: m' := by
  refine w67 ?_
  simp [hs.len]
  refine W_loop (fun n a m' => ∃ k : Nat, k + n = l.length ∧ a = h67_0 s (.func (.func g) fs cs) (.int .i64 l.length) (.int .i64 k) ∧ m <+: m' ∧ fidx (fun i => (l[i]?).any p) k n = fidx (fun i => (l[i]?).any p) 0 l.length) l.length ⟨0, by simp, by simp, List.prefix_refl _, by simp⟩ ?_
  rintro n a m' ⟨k, hk, rfl, hm, hi⟩
  simp
  refine bbind_dec (fun h => ?_) fun h => ?_
  · simp
    have h : k < l.length := by omega
    obtain ⟨b, o, c, h1, h2, h3⟩ := (hs.mono hm).mode h
    simp [h1, h2]
    obtain ⟨n, rfl⟩ : ∃ n', n = n' + 1 := ⟨n - 1, by omega⟩
    have := hf l[k] (List.getElem_mem h) m' c hm h3
    simp only [List.append_assoc, List.singleton_append] at this
    refine C_of this ?_
    rintro _ m'' ⟨rfl, hm'⟩
    simp only [fidx, List.getElem?_eq_getElem h, Option.any_some] at hi
    simp
    refine bbind_intro (fun he => ?_) fun he => ?_
    · simp [he] at hi
      simp [hi, hm.trans hm']
    · simp [he] at hi
      simp [step64 h hn]
      exact ⟨n, by omega, k + 1, by omega, by simp, hm.trans hm', hi⟩
  · simp
    obtain rfl : n = 0 := by omega
    simp only [fidx] at hi
    simp [hi, hm]
theorem k33 (s : AVal) (l : List Md) (p : Md → Bool) (m : AMem) (hs : RTab m s l) (hn : l.length < 2 ^ 62) (g : FuncId) (fs cs : List AVal)
    (hf : ∀ x ∈ l, ∀ m' c, m <+: m' → RMode m' c x → ACalls Tryz.prog g (fs ++ [.agg c] ++ cs) m' fun v m'' => v = .bool (p x) ∧ m' <+: m'') :
    ACalls Tryz.prog 33 [s, .func (.func g) fs cs] m fun r m' => r = .bool (l.any p) ∧ m <+: m' := by
  refine w33 ?_
  simp
  refine C_of (k67 s l p m hs hn g fs cs hf) ?_
  rintro _ m' ⟨rfl, hm⟩
  simp [hm]
  rw [Bool.eq_iff_iff, decide_eq_true_iff, fidx_nonneg, List.any_eq_true]
  constructor
  · rintro ⟨j, _, h2, h3⟩
    have h2 : j < l.length := by omega
    rw [List.getElem?_eq_getElem h2] at h3
    exact ⟨_, List.getElem_mem h2, by simpa using h3⟩
  · rintro ⟨x, hx, hp⟩
    obtain ⟨j, hj, rfl⟩ := List.getElem_of_mem hx
    exact ⟨j, by omega, by omega, by simp [hj, hp]⟩
theorem k42 (s : AVal) (l : List Int) (p : Int → Bool) (m : AMem) (hs : RInts m s l) (hn : l.length < 2 ^ 62) (g : FuncId) (fs cs : List AVal)
    (hf : ∀ x ∈ l, ∀ m', m <+: m' → ACalls Tryz.prog g (fs ++ [.int .i64 x] ++ cs) m' fun v m'' => v = .bool (p x) ∧ m' <+: m'') :
    ACalls Tryz.prog 42 [s, .func (.func g) fs cs] m fun r m' => r = .int .i64 (fidx (fun i => (l[i]?).any p) 0 l.length) ∧ m <+: m' := by
  refine w42 ?_
  simp [hs.len]
  refine W_loop (fun n a m' => ∃ k : Nat, k + n = l.length ∧ a = h42_0 s (.func (.func g) fs cs) (.int .i64 l.length) (.int .i64 k) ∧ m <+: m' ∧ fidx (fun i => (l[i]?).any p) k n = fidx (fun i => (l[i]?).any p) 0 l.length) l.length ⟨0, by simp, by simp, List.prefix_refl _, by simp⟩ ?_
  rintro n a m' ⟨k, hk, rfl, hm, hi⟩
  simp
  refine bbind_dec (fun h => ?_) fun h => ?_
  · simp
    have h : k < l.length := by omega
    obtain ⟨b, o, h1, h2⟩ := (hs.mono hm).at h
    simp [h1, h2]
    obtain ⟨n, rfl⟩ : ∃ n', n = n' + 1 := ⟨n - 1, by omega⟩
    have := hf l[k] (List.getElem_mem h) m' hm
    simp only [List.append_assoc, List.singleton_append] at this
    refine C_of this ?_
    rintro _ m'' ⟨rfl, hm'⟩
    simp only [fidx, List.getElem?_eq_getElem h, Option.any_some] at hi
    simp
    refine bbind_intro (fun he => ?_) fun he => ?_
    · simp [he] at hi
      simp [hi, hm.trans hm']
    · simp [he] at hi
      simp [step64 h hn]
      exact ⟨n, by omega, k + 1, by omega, by simp, hm.trans hm', hi⟩
  · simp
    obtain rfl : n = 0 := by omega
    simp only [fidx] at hi
    simp [hi, hm]
theorem fidx_any {α : Type} (l : List α) (p : α → Bool) : decide (0 ≤ fidx (fun i => (l[i]?).any p) 0 l.length) = l.any p := by
  rw [Bool.eq_iff_iff, decide_eq_true_iff, fidx_nonneg, List.any_eq_true]
  constructor
  · rintro ⟨j, _, h2, h3⟩
    have h2 : j < l.length := by omega
    rw [List.getElem?_eq_getElem h2] at h3
    exact ⟨_, List.getElem_mem h2, by simpa using h3⟩
  · rintro ⟨x, hx, hp⟩
    obtain ⟨j, hj, rfl⟩ := List.getElem_of_mem hx
    exact ⟨j, by omega, by omega, by simp [hj, hp]⟩
theorem k47 (s : AVal) (l : List Int) (p : Int → Bool) (m : AMem) (hs : RInts m s l) (hn : l.length < 2 ^ 62) (g : FuncId) (fs cs : List AVal)
    (hf : ∀ x ∈ l, ∀ m', m <+: m' → ACalls Tryz.prog g (fs ++ [.int .i64 x] ++ cs) m' fun v m'' => v = .bool (p x) ∧ m' <+: m'') :
    ACalls Tryz.prog 47 [s, .func (.func g) fs cs] m fun r m' => r = .bool (l.any p) ∧ m <+: m' := by
  refine w47 ?_
  simp
  refine C_of (k42 s l p m hs hn g fs cs hf) ?_
  rintro _ m' ⟨rfl, hm⟩
  simp [hm, fidx_any]
theorem k34 (c : List AVal) (x : Md) (m : AMem) (hx : RMode m c x) : ACalls Tryz.prog 34 [.agg c] m fun v m' => v = .bool (decide (6 < x.elems.length) || decide (6 < x.names.length)) ∧ m <+: m' := by
  obtain ⟨e, nm, rfl, he, hn⟩ := hx
  refine w34 ?_
  have h1 := Sl.one he
  have h2 := Sl.one hn
  by_cases h : (6 : Int) < x.elems.length
  · have h' : 6 < x.elems.length := by omega
    simp [h1, h2, he.len, h, h']
  · have h' : ¬ 6 < x.elems.length := by omega
    simp [h1, h2, he.len, hn.len, h, h']
    omega
theorem k11 (s : AVal) (l : List Md) (most : Int) (m : AMem) (hs : RTab m s l) (hm : most < 1000) : ACalls Tryz.prog 11 [s, .int .i64 most] m fun v m' => v = .bool (decide ((l.length : Int) ≤ most) && l.all fun x => decide (x.elems.length ≤ 6) && decide (x.names.length ≤ 6)) ∧ m <+: m' := by
  refine w11 ?_
  by_cases h : (l.length : Int) ≤ most
  · simp [hs.len, h]
    refine C_of (k33 s l (fun x => decide (6 < x.elems.length) || decide (6 < x.names.length)) m hs (by omega) 34 [] [] fun x hx m' c h1 h2 => k34 c x m' h2) ?_
    rintro _ m' ⟨rfl, hm⟩
    simp [h, hm]
    rw [Bool.eq_iff_iff]
    simp
    exact ⟨fun ⟨x, h1, h2⟩ => ⟨x, h1, by omega⟩, fun ⟨x, h1, h2⟩ => ⟨x, h1, by omega⟩⟩
  · simp [hs.len, h]
end Go.Proofs.YtheadodblifklaaGreat

namespace Go.Proofs.YtheadodblifklaaGreat
open Go Ax
set_option maxRecDepth 100000
theorem w136 {args : List AVal} {m : AMem} {R : AVal → AMem → Prop} (h : W Tryz.prog (.seq (.reg [⟨some 8,.P (.mov (.c (.bool true))),none⟩]) (.seq (.reg [⟨some 9,.P (.mov (.c (.bool true))),none⟩]) (.block 0 (.kill [0,1,2,3,8,9] (.loop (.fin [0,1,2,3,8,9] (.block 1 (.seq (.reg [⟨some 19,.P (.mov (.t 2)),none⟩,⟨some 20,.P (.mov (.t 1)),none⟩,⟨some 21,.P (.bin .sub (.t 19) (.t 20)),none⟩,⟨some 10,.P (.mov (.t 21)),none⟩]) (.kill [0,1,2,3,8,9,10] (.seq (.seq (.reg [⟨some 22,.P (.mov (.t 10)),none⟩,⟨some 23,.P (.bin .leq (.t 22) (.c (.int .i64 12))),none⟩]) (.kill [0,1,2,3,8,9,10,23] (.cond (.t 23) (.seq (.reg [⟨some 24,.P (.mov (.t 0)),none⟩,⟨some 25,.P (.mov (.t 1)),none⟩,⟨some 26,.P (.mov (.t 2)),none⟩,⟨some 27,.C (.c (.func (.func 162) [] [])) [(.t 24),(.t 25),(.t 26)],none⟩]) .ret) .skip))) (.kill [0,1,2,3,8,9,10] (.seq (.seq (.reg [⟨some 28,.P (.mov (.t 3)),none⟩,⟨some 29,.P (.bin .eql (.t 28) (.c (.int .i64 0))),none⟩]) (.kill [0,1,2,3,8,9,10,29] (.cond (.t 29) (.seq (.reg [⟨some 30,.P (.mov (.t 0)),none⟩,⟨some 31,.P (.mov (.t 1)),none⟩,⟨some 32,.P (.mov (.t 2)),none⟩,⟨some 33,.C (.c (.func (.func 163) [] [])) [(.t 30),(.t 31),(.t 32)],none⟩]) .ret) .skip))) (.kill [0,1,2,3,8,9,10] (.seq (.seq (.reg [⟨some 34,.P (.mov (.t 8)),none⟩,⟨some 35,.P (.un .not (.t 34)),none⟩]) (.kill [0,1,2,3,8,9,10,35] (.cond (.t 35) (.seq (.reg [⟨some 36,.P (.mov (.t 0)),none⟩,⟨some 37,.P (.mov (.t 1)),none⟩,⟨some 38,.P (.mov (.t 2)),none⟩,⟨some 39,.C (.c (.func (.func 164) [] [])) [(.t 36),(.t 37),(.t 38)],none⟩]) (.kill [0,1,2,3,8,9,10] (.reg [⟨some 40,.P (.mov (.t 3)),none⟩,⟨some 41,.P (.bin .sub (.t 40) (.c (.int .i64 1))),none⟩,⟨some 3,.P (.mov (.t 41)),none⟩]))) .skip))) (.kill [0,1,2,3,8,9,10] (.seq (.reg [⟨some 43,.P (.mov (.t 0)),none⟩,⟨some 44,.P (.mov (.t 1)),none⟩,⟨some 45,.P (.mov (.t 2)),none⟩,⟨some 46,.C (.c (.func (.func 165) [] [])) [(.t 43),(.t 44),(.t 45)],none⟩,⟨some 42,.P (.mov (.t 46)),none⟩,⟨some 47,.P (.ext (.t 42) 0),none⟩,⟨some 48,.P (.ext (.t 42) 1),none⟩,⟨some 11,.P (.mov (.t 47)),none⟩,⟨some 12,.P (.mov (.t 48)),none⟩]) (.kill [0,1,2,3,8,9,10,11,12] (.seq (.seq (.reg [⟨some 49,.P (.mov (.t 12)),none⟩,⟨some 50,.P (.bin .eql (.t 49) (.c (.int .i64 2))),none⟩]) (.kill [0,1,2,3,8,9,10,11,12,50] (.cond (.t 50) (.seq (.reg [⟨some 51,.P (.mov (.t 0)),none⟩,⟨some 52,.P (.mov (.t 1)),none⟩,⟨some 53,.P (.mov (.t 2)),none⟩,⟨some 54,.C (.c (.func (.func 166) [] [])) [(.t 51),(.t 52),(.t 53)],none⟩]) (.kill [0,1,2,3,8,9,10,11] (.seq (.reg [⟨some 55,.P (.mov (.t 2)),none⟩,⟨some 56,.P (.bin .sub (.t 55) (.c (.int .i64 1))),none⟩,⟨some 57,.P (.mov (.t 11)),none⟩,⟨some 58,.P (.mov (.t 1)),none⟩,⟨some 59,.P (.bin .sub (.t 57) (.t 58)),none⟩,⟨some 60,.P (.bin .sub (.t 56) (.t 59)),none⟩,⟨some 11,.P (.mov (.t 60)),none⟩]) (.kill [0,1,2,3,8,9,10,11] (.reg [⟨some 12,.P (.mov (.c (.int .i64 1))),none⟩]))))) .skip))) (.kill [0,1,2,3,8,9,10,11,12] (.seq (.seq (.reg [⟨some 61,.P (.mov (.t 8)),none⟩,⟨some 62,.P (.mov (.t 61)),none⟩,⟨some 63,.P (.mov (.t 9)),(some (62, true))⟩,⟨some 64,.P (.pick (.t 62) (.t 63) (.c (.bool false))),none⟩,⟨some 65,.P (.mov (.t 64)),none⟩,⟨some 66,.P (.mov (.t 12)),(some (65, true))⟩,⟨some 67,.P (.bin .eql (.t 66) (.c (.int .i64 1))),(some (65, true))⟩,⟨some 68,.P (.pick (.t 65) (.t 67) (.c (.bool false))),none⟩]) (.kill [0,1,2,3,8,9,10,11,68] (.cond (.t 68) (.seq (.reg [⟨some 69,.P (.mov (.t 0)),none⟩,⟨some 70,.P (.mov (.t 1)),none⟩,⟨some 71,.P (.mov (.t 2)),none⟩,⟨some 72,.C (.c (.func (.func 167) [] [])) [(.t 69),(.t 70),(.t 71)],none⟩]) (.kill [0,1,2,3,8,9,10,11,72] (.cond (.t 72) .ret .skip))) .skip))) (.kill [0,1,2,3,8,9,10,11] (.seq (.seq (.draw true [⟨some 73,.P (.mov (.t 1)),none⟩,⟨some 74,.P (.bin .gtr (.t 73) (.c (.int .i64 0))),none⟩,⟨some 75,.P (.mov (.t 74)),none⟩,⟨some 76,.P (.mov (.t 0)),(some (75, true))⟩,⟨some 77,.P (.mov (.t 1)),(some (75, true))⟩,⟨some 78,.P (.bin .sub (.t 77) (.c (.int .i64 1))),(some (75, true))⟩,⟨some 79,.P (.iaddr 1 (.t 76) (.t 78)),(some (75, true))⟩,⟨some 80,.R (.load 1 false (.t 79)),(some (75, true))⟩,⟨some 81,.P (.mov (.t 0)),(some (75, true))⟩,⟨some 82,.P (.mov (.t 11)),(some (75, true))⟩,⟨some 83,.P (.iaddr 1 (.t 81) (.t 82)),(some (75, true))⟩,⟨some 84,.R (.load 1 false (.t 83)),(some (75, true))⟩,⟨some 85,.C (.c (.func (.func 168) [] [])) [(.t 80),(.t 84)], (some (75, true))⟩,⟨some 86,.P (.un .not (.t 85)),(some (75, true))⟩,⟨some 87,.P (.pick (.t 75) (.t 86) (.c (.bool false))),none⟩] [[],[],[],[],[],[],[],[],[],[],[],[],[],[12], [12]] [[],[],[],[],[],[],[],[],[],[],[],[],[],[],[]] [0,1,2,3,4,5,6,7,8,9,10,11,12,13,14]) (.kill [0,1,2,3,8,9,10,11,87] (.cond (.t 87) (.seq (.reg [⟨some 88,.P (.mov (.t 0)),none⟩,⟨some 89,.P (.mov (.t 1)),none⟩,⟨some 90,.P (.mov (.t 2)),none⟩,⟨some 91,.P (.mov (.t 11)),none⟩,⟨some 92,.C (.c (.func (.func 169) [] [])) [(.t 88),(.t 89),(.t 90),(.t 91)],none⟩,⟨some 13,.P (.mov (.t 92)),none⟩]) (.kill [0,2,3,8,9,13] (.seq (.reg [⟨some 93,.P (.mov (.t 13)),none⟩,⟨some 1,.P (.mov (.t 93)),none⟩]) (.exit 1)))) .skip))) (.kill [0,1,2,3,10,11] (.seq (.reg [⟨some 95,.P (.mov (.t 0)),none⟩,⟨some 96,.P (.mov (.t 1)),none⟩,⟨some 97,.P (.mov (.t 2)),none⟩,⟨some 98,.P (.mov (.t 11)),none⟩,⟨some 99,.C (.c (.func (.func 170) [] [])) [(.t 95),(.t 96),(.t 97),(.t 98)],none⟩,⟨some 94,.P (.mov (.t 99)),none⟩,⟨some 100,.P (.ext (.t 94) 0),none⟩,⟨some 101,.P (.ext (.t 94) 1),none⟩,⟨some 14,.P (.mov (.t 100)),none⟩,⟨some 15,.P (.mov (.t 101)),none⟩]) (.kill [0,1,2,3,10,14,15] (.seq (.reg [⟨some 102,.P (.mov (.t 15)),none⟩,⟨some 9,.P (.mov (.t 102)),none⟩]) (.kill [0,1,2,3,9,10,14] (.seq (.reg [⟨some 103,.P (.mov (.t 14)),none⟩,⟨some 104,.P (.mov (.t 1)),none⟩,⟨some 105,.P (.bin .sub (.t 103) (.t 104)),none⟩,⟨some 106,.P (.mov (.t 2)),none⟩,⟨some 107,.P (.mov (.t 14)),none⟩,⟨some 108,.P (.bin .sub (.t 106) (.t 107)),none⟩,⟨some 16,.P (.mov (.t 105)),none⟩,⟨some 17,.P (.mov (.t 108)),none⟩]) (.kill [0,1,2,3,9,10,14,16,17] (.seq (.reg [⟨some 109,.P (.mov (.t 10)),none⟩,⟨some 110,.P (.bin .quo (.t 109) (.c (.int .i64 8))),none⟩,⟨some 18,.P (.mov (.t 110)),none⟩]) (.kill [0,1,2,3,9,14,16,17,18] (.seq (.reg [⟨some 111,.P (.mov (.t 16)),none⟩,⟨some 112,.P (.mov (.t 17)),none⟩,⟨some 113,.P (.bin .lss (.t 111) (.t 112)),none⟩]) (.kill [0,1,2,3,9,14,16,17,18,113] (.cond (.t 113) (.seq (.reg [⟨some 114,.P (.mov (.t 16)),none⟩,⟨some 115,.P (.mov (.t 18)),none⟩,⟨some 116,.P (.bin .geq (.t 114) (.t 115)),none⟩,⟨some 8,.P (.mov (.t 116)),none⟩]) (.kill [0,1,2,3,8,9,14] (.seq (.reg [⟨some 117,.P (.mov (.t 0)),none⟩,⟨some 118,.P (.mov (.t 1)),none⟩,⟨some 119,.P (.mov (.t 14)),none⟩,⟨some 120,.P (.mov (.t 3)),none⟩,⟨some 121,.C (.c (.func (.func 136) [] [])) [(.t 117),(.t 118),(.t 119),(.t 120)],none⟩]) (.kill [0,2,3,8,9,14] (.reg [⟨some 122,.P (.mov (.t 14)),none⟩,⟨some 123,.P (.bin .add (.t 122) (.c (.int .i64 1))),none⟩,⟨some 1,.P (.mov (.t 123)),none⟩]))))) (.seq (.reg [⟨some 124,.P (.mov (.t 17)),none⟩,⟨some 125,.P (.mov (.t 18)),none⟩,⟨some 126,.P (.bin .geq (.t 124) (.t 125)),none⟩,⟨some 8,.P (.mov (.t 126)),none⟩]) (.kill [0,1,2,3,8,9,14] (.seq (.reg [⟨some 127,.P (.mov (.t 0)),none⟩,⟨some 128,.P (.mov (.t 14)),none⟩,⟨some 129,.P (.bin .add (.t 128) (.c (.int .i64 1))),none⟩,⟨some 130,.P (.mov (.t 2)),none⟩,⟨some 131,.P (.mov (.t 3)),none⟩,⟨some 132,.C (.c (.func (.func 136) [] [])) [(.t 127),(.t 129),(.t 130),(.t 131)],none⟩]) (.kill [0,1,3,8,9,14] (.reg [⟨some 133,.P (.mov (.t 14)),none⟩,⟨some 2,.P (.mov (.t 133)),none⟩]))))))))))))))))))))))))))))))))))))))) (E [] R .mk) .mk (mat 134 (sArgs 0 args)) m) (hl : Nat.ble args.length 134 = true := by rfl) : ACalls Tryz.prog 136 args m R := walk mix (by kernel_rfl) (Nat.le_of_ble_eq_true hl) h
abbrev h136_0 (t0 t1 t2 t3 t8 t9 : AVal) : AFrame := mat 134 [(0, t0),(1, t1),(2, t2),(3, t3),(8, t8),(9, t9)]
theorem w137 {args : List AVal} {m : AMem} {R : AVal → AMem → Prop} (h : W Tryz.prog (.seq (.reg [⟨some 3,.A (.box 49 (.t 1)),none⟩,⟨some 4,.P (.mov (.c (.int .i64 0))),none⟩,⟨some 5,.P (.mov (.c (.bool false))),none⟩]) (.kill [0,3] (.seq (.seq (.reg [⟨some 9,.P (.faddr 2 (.t 3)),none⟩,⟨some 10,.R (.load 1 false (.t 9)),none⟩,⟨some 11,.P (.mov (.t 0)),none⟩,⟨some 12,.P (.len (.t 11)),none⟩,⟨some 13,.C (.c (.func (.func 171) [] [])) [(.t 10),(.t 12)],none⟩]) (.kill [0,3,13] (.cond (.t 13) (.seq (.reg [⟨some 4,.P (.mov (.c (.int .i64 0))),none⟩,⟨some 5,.P (.mov (.c (.bool false))),none⟩]) .ret) .skip))) (.kill [0,3] (.seq (.reg [⟨some 14,.P (.mov (.t 0)),none⟩,⟨some 15,.R (.load 6 true (.t 3)),none⟩,⟨some 16,.C (.c (.func (.func 138) [] [])) [(.t 14),(.t 15)],none⟩,⟨some 6,.P (.mov (.t 16)),none⟩]) (.kill [0,6] (.seq (.seq (.reg [⟨some 17,.P (.mov (.t 6)),none⟩,⟨some 18,.C (.c (.func (.func 49) [] [])) [(.t 17)],none⟩,⟨some 19,.P (.bin .neq (.t 18) (.c (.int .i64 0))),none⟩]) (.kill [0,6,19] (.cond (.t 19) (.seq (.reg [⟨some 4,.P (.mov (.c (.int .i64 0))),none⟩,⟨some 5,.P (.mov (.c (.bool false))),none⟩]) .ret) .skip))) (.kill [0,6] (.seq (.reg [⟨some 20,.P (.mov (.t 6)),none⟩,⟨some 21,.C (.c (.func (.func 52) [] [])) [(.t 20)],none⟩,⟨some 7,.P (.mov (.t 21)),none⟩]) (.kill [0,7] (.seq (.reg [⟨some 22,.P (.mov (.t 7)),none⟩,⟨some 23,.P (.mov (.t 7)),none⟩,⟨some 24,.P (.mov (.t 0)),none⟩,⟨some 25,.P (.len (.t 24)),none⟩,⟨some 26,.P (.iaddr 1 (.t 23) (.t 25)),none⟩,⟨some 27,.R (.load 1 false (.t 26)),none⟩,⟨some 28,.C (.c (.func (.func 98) [] [])) [(.t 22),(.t 27)],none⟩,⟨some 8,.P (.mov (.t 28)),none⟩]) (.kill [0,8] (.seq (.seq (.reg [⟨some 29,.P (.mov (.t 8)),none⟩,⟨some 30,.P (.mov (.t 0)),none⟩,⟨some 31,.P (.len (.t 30)),none⟩,⟨some 32,.P (.bin .eql (.t 29) (.t 31)),none⟩]) (.kill [8,32] (.cond (.t 32) (.seq (.reg [⟨some 4,.P (.mov (.c (.int .i64 0))),none⟩,⟨some 5,.P (.mov (.c (.bool false))),none⟩]) .ret) .skip))) (.kill [8] (.seq (.reg [⟨some 33,.P (.mov (.t 8)),none⟩,⟨some 4,.P (.mov (.t 33)),none⟩,⟨some 5,.P (.mov (.c (.bool true))),none⟩]) .ret))))))))))))))) (E [(.tmp 4),(.tmp 5)] R .mk) .mk (mat 34 (sArgs 0 args)) m) (hl : Nat.ble args.length 34 = true := by rfl) : ACalls Tryz.prog 137 args m R := walk mix (by kernel_rfl) (Nat.le_of_ble_eq_true hl) h
theorem w138 {args : List AVal} {m : AMem} {R : AVal → AMem → Prop} (h : W Tryz.prog (.seq (.reg [⟨some 3,.A (.box 49 (.t 1)),none⟩,⟨some 4,.P (.mov (.c .nilslice)),none⟩]) (.kill [0,3] (.seq (.reg [⟨some 8,.P (.mov (.t 0)),none⟩,⟨some 9,.P (.len (.t 8)),none⟩,⟨some 10,.P (.bin .add (.t 9) (.c (.int .i64 1))),none⟩,⟨some 11,.A (.mkslice 49 80 [(.int .i64 0),(.int .i64 0), .nilslice, .nilslice, (.int .i64 0),(.bool false)] (.c (.int .i64 0)) (.t 10)),none⟩,⟨some 5,.P (.mov (.t 11)),none⟩]) (.kill [0,3,5] (.seq (.seq (.draw false [⟨some 12,.P (.mov (.t 0)),none⟩,⟨some 13,.C (.c (.func (.func 66) [] [])) [(.t 12)],none⟩,⟨some 14,.R (.load 6 true (.t 3)),none⟩,⟨some 15,.A (.bslice 49 1 [(.int .i64 0),(.int .i64 0), .nilslice, .nilslice, (.int .i64 0),(.bool false)] [(0, (6, (.t 14)))]),none⟩,⟨some 16,.W (.append 6 80 49 false (.t 13) (.t 15)),none⟩,⟨some 17,.P (.len (.t 16)),none⟩,⟨some 18,.P (.mov (.c (.int .i64 0))),none⟩] [[],[],[],[],[1,3], [1,3], []] [[],[],[],[],[],[],[]] [0,1,2,3,6,4,5]) (.kill [5,16,17,18] (.block 0 (.kill [5,16,17,18] (.loop (.fin [5,16,17,18] (.seq (.reg [⟨some 19,.P (.bin .lss (.t 18) (.t 17)),none⟩]) (.seq (.cond (.t 19) .skip (.exit 0)) (.kill [5,16,17,18] (.seq (.block 1 (.seq (.reg [⟨some 20,.P (.iaddr 6 (.t 16) (.t 18)),none⟩,⟨some 21,.R (.load 6 true (.t 20)),none⟩,⟨some 7,.A (.alloc 49 [(.int .i64 0),(.int .i64 0), .nilslice, .nilslice, (.int .i64 0),(.bool false)]),none⟩,⟨none,.W (.store 6 (.t 7) (.t 21)),none⟩]) (.kill [5,7,16,17,18] (.seq (.draw false [⟨some 22,.P (.faddr 2 (.t 7)),none⟩,⟨some 23,.R (.load 1 false (.t 22)),none⟩,⟨some 24,.C (.c (.func (.func 30) [] [])) [(.t 23)],none⟩,⟨some 25,.P (.faddr 3 (.t 7)),none⟩,⟨some 26,.R (.load 1 false (.t 25)),none⟩,⟨some 27,.C (.c (.func (.func 142) [] [])) [(.t 26)],none⟩,⟨some 28,.P (.faddr 2 (.t 7)),none⟩,⟨none,.W (.store 1 (.t 28) (.t 24)),none⟩,⟨some 29,.P (.faddr 3 (.t 7)),none⟩,⟨none,.W (.store 1 (.t 29) (.t 27)),none⟩] [[],[],[],[],[],[2], [2], [2,5], [2,5], [2,5]] [[],[],[],[],[],[],[],[],[],[]] [0,1,2,3,4,5,6,7,8,9]) (.kill [5,7,16,17,18] (.reg [⟨some 30,.P (.mov (.t 5)),none⟩,⟨some 31,.R (.load 6 true (.t 7)),none⟩,⟨some 32,.A (.bslice 49 1 [(.int .i64 0),(.int .i64 0), .nilslice, .nilslice, (.int .i64 0),(.bool false)] [(0, (6, (.t 31)))]),none⟩,⟨some 33,.W (.append 6 80 49 false (.t 30) (.t 32)),none⟩,⟨some 5,.P (.mov (.t 33)),none⟩])))))) (.kill [5,16,17,18] (.reg [⟨some 34,.P (.bin .add (.t 18) (.c (.int .i64 1))),none⟩,⟨some 18,.P (.mov (.t 34)),none⟩])))))))))))) (.kill [5] (.seq (.reg [⟨some 35,.P (.mov (.t 5)),none⟩,⟨some 4,.P (.mov (.t 35)),none⟩]) .ret))))))) (E [(.tmp 4)] R .mk) .mk (mat 36 (sArgs 0 args)) m) (hl : Nat.ble args.length 36 = true := by rfl) : ACalls Tryz.prog 138 args m R := walk mix (by kernel_rfl) (Nat.le_of_ble_eq_true hl) h
abbrev h138_0 (t5 t16 t17 t18 : AVal) : AFrame := mat 36 [(5, t5),(16, t16),(17, t17),(18, t18)]
theorem w139 {args : List AVal} {m : AMem} {R : AVal → AMem → Prop} (h : W Tryz.prog (.seq (.reg [⟨some 2,.P (.mov (.c .nilslice)),none⟩]) (.kill [0] (.seq (.reg [⟨some 3,.P (.mov (.c .nilslice)),none⟩]) (.seq (.seq (.reg [⟨some 4,.P (.mov (.c (.int .i64 0))),none⟩]) (.block 0 (.kill [0,3,4] (.loop (.fin [0,3,4] (.seq (.seq (.reg [⟨some 5,.P (.mov (.t 4)),none⟩,⟨some 6,.P (.mov (.t 0)),none⟩,⟨some 7,.P (.len (.t 6)),none⟩,⟨some 8,.P (.bin .lss (.t 5) (.t 7)),none⟩]) (.kill [0,3,4,8] (.cond (.t 8) .skip (.exit 0)))) (.kill [0,3,4] (.seq (.block 1 (.reg [⟨some 11,.P (.mov (.t 3)),none⟩,⟨some 12,.P (.mov (.t 0)),none⟩,⟨some 13,.P (.mov (.t 4)),none⟩,⟨some 14,.P (.iaddr 6 (.t 12) (.t 13)),none⟩,⟨some 15,.R (.load 6 true (.t 14)),none⟩,⟨some 16,.C (.c (.func (.func 141) [] [])) [(.t 15)],none⟩,⟨some 17,.A (.bslice 49 1 [(.int .i64 0),(.int .i64 0), .nilslice, .nilslice, (.int .i64 0),(.bool false)] [(0, (6, (.t 16)))]),none⟩,⟨some 18,.W (.append 6 80 49 false (.t 11) (.t 17)),none⟩,⟨some 3,.P (.mov (.t 18)),none⟩])) (.kill [0,3,4] (.reg [⟨some 9,.P (.mov (.t 4)),none⟩,⟨some 10,.P (.bin .add (.t 9) (.c (.int .i64 1))),none⟩,⟨some 4,.P (.mov (.t 10)),none⟩])))))))))) (.kill [3] (.seq (.reg [⟨some 19,.P (.mov (.t 3)),none⟩,⟨some 2,.P (.mov (.t 19)),none⟩]) .ret)))))) (E [(.tmp 2)] R .mk) .mk (mat 20 (sArgs 0 args)) m) (hl : Nat.ble args.length 20 = true := by rfl) : ACalls Tryz.prog 139 args m R := walk mix (by kernel_rfl) (Nat.le_of_ble_eq_true hl) h
abbrev h139_0 (t0 t3 t4 : AVal) : AFrame := mat 20 [(0, t0),(3, t3),(4, t4)]
theorem w140 {args : List AVal} {m : AMem} {R : AVal → AMem → Prop} (h : W Tryz.prog (.seq (.reg [⟨some 3,.A (.box 49 (.t 1)),none⟩,⟨some 4,.P (.mov (.c (.int .i64 0))),none⟩,⟨some 5,.P (.mov (.c (.bool false))),none⟩]) (.kill [0,3] (.seq (.seq (.reg [⟨some 6,.P (.mov (.c (.int .i64 0))),none⟩]) (.block 0 (.kill [0,3,6] (.loop (.fin [0,3,6] (.seq (.seq (.reg [⟨some 11,.P (.mov (.t 6)),none⟩,⟨some 12,.P (.faddr 2 (.t 3)),none⟩,⟨some 13,.R (.load 1 false (.t 12)),none⟩,⟨some 14,.P (.len (.t 13)),none⟩,⟨some 15,.P (.bin .lss (.t 11) (.t 14)),none⟩]) (.kill [0,3,6,15] (.cond (.t 15) .skip (.exit 0)))) (.kill [0,3,6] (.seq (.block 1 (.seq (.reg [⟨some 18,.P (.mov (.t 0)),none⟩,⟨some 19,.P (.faddr 2 (.t 3)),none⟩,⟨some 20,.R (.load 1 false (.t 19)),none⟩,⟨some 21,.P (.mov (.t 6)),none⟩,⟨some 22,.P (.iaddr 1 (.t 20) (.t 21)),none⟩,⟨some 23,.R (.load 1 false (.t 22)),none⟩,⟨some 24,.C (.c (.func (.func 147) [] [])) [(.t 18),(.t 23)],none⟩,⟨some 25,.P (.un .not (.t 24)),none⟩]) (.kill [0,3,6,25] (.cond (.t 25) (.seq (.reg [⟨some 4,.P (.mov (.c (.int .i64 0))),none⟩,⟨some 5,.P (.mov (.c (.bool false))),none⟩]) .ret) .skip)))) (.kill [0,3,6] (.reg [⟨some 16,.P (.mov (.t 6)),none⟩,⟨some 17,.P (.bin .add (.t 16) (.c (.int .i64 1))),none⟩,⟨some 6,.P (.mov (.t 17)),none⟩])))))))))) (.kill [0,3] (.seq (.draw true [⟨some 26,.P (.mov (.t 0)),none⟩,⟨some 27,.C (.c (.func (.func 139) [] [])) [(.t 26)],none⟩,⟨some 28,.R (.load 6 true (.t 3)),none⟩,⟨some 29,.C (.c (.func (.func 141) [] [])) [(.t 28)],none⟩,⟨some 30,.A (.bslice 49 1 [(.int .i64 0),(.int .i64 0), .nilslice, .nilslice, (.int .i64 0),(.bool false)] [(0, (6, (.t 29)))]),none⟩,⟨some 31,.W (.append 6 80 49 false (.t 27) (.t 30)),none⟩,⟨some 7,.P (.mov (.t 31)),none⟩] [[],[],[],[1], [1,3], [1,3,4], [1,3,4]] [[],[2], [],[],[],[],[]] [0,2,1,3,4,5,6]) (.kill [0,3,7] (.seq (.seq (.reg [⟨some 32,.P (.mov (.t 7)),none⟩,⟨some 33,.C (.c (.func (.func 70) [] [])) [(.t 32)],none⟩,⟨some 34,.P (.bin .neq (.t 33) (.c (.int .i64 0))),none⟩]) (.kill [0,3,7,34] (.cond (.t 34) (.seq (.reg [⟨some 4,.P (.mov (.c (.int .i64 0))),none⟩,⟨some 5,.P (.mov (.c (.bool false))),none⟩]) .ret) .skip))) (.kill [0,3,7] (.seq (.reg [⟨some 8,.P (.mov (.c (.int .i64 0))),none⟩]) (.seq (.block 2 (.kill [0,3,7,8] (.loop (.fin [0,3,7,8] (.seq (.seq (.draw true [⟨some 35,.P (.mov (.t 8)),none⟩,⟨some 36,.P (.mov (.t 0)),none⟩,⟨some 37,.P (.len (.t 36)),none⟩,⟨some 38,.P (.bin .lss (.t 35) (.t 37)),none⟩,⟨some 39,.P (.mov (.t 38)),none⟩,⟨some 40,.P (.mov (.t 0)),(some (39, true))⟩,⟨some 41,.P (.mov (.t 8)),(some (39, true))⟩,⟨some 42,.P (.iaddr 6 (.t 40) (.t 41)),(some (39, true))⟩,⟨some 43,.R (.load 6 true (.t 42)),(some (39, true))⟩,⟨some 44,.R (.load 6 true (.t 3)),(some (39, true))⟩,⟨some 45,.C (.c (.func (.func 72) [] [])) [(.t 43),(.t 44)], (some (39, true))⟩,⟨some 46,.P (.bin .neq (.t 45) (.c (.int .i64 0))),(some (39, true))⟩,⟨some 47,.P (.pick (.t 39) (.t 46) (.c (.bool false))),none⟩] [[],[],[],[],[],[],[],[],[],[],[],[10], [10]] [[],[],[],[],[],[],[],[],[],[],[],[],[]] [0,1,2,3,4,5,6,7,8,9,10,11,12]) (.kill [0,3,7,8,47] (.cond (.t 47) .skip (.exit 2)))) (.kill [0,3,7,8] (.block 3 (.reg [⟨some 48,.P (.mov (.t 8)),none⟩,⟨some 49,.P (.bin .add (.t 48) (.c (.int .i64 1))),none⟩,⟨some 8,.P (.mov (.t 49)),none⟩])))))))) (.kill [0,3,7,8] (.seq (.seq (.reg [⟨some 50,.P (.mov (.t 8)),none⟩,⟨some 51,.P (.mov (.t 0)),none⟩,⟨some 52,.P (.len (.t 51)),none⟩,⟨some 53,.P (.bin .eql (.t 50) (.t 52)),none⟩]) (.kill [0,3,7,8,53] (.cond (.t 53) (.seq (.reg [⟨some 4,.P (.mov (.c (.int .i64 0))),none⟩,⟨some 5,.P (.mov (.c (.bool false))),none⟩]) .ret) .skip))) (.kill [0,3,7,8] (.seq (.seq (.draw true [⟨some 54,.P (.mov (.t 0)),none⟩,⟨some 55,.P (.mov (.t 8)),none⟩,⟨some 56,.P (.iaddr 6 (.t 54) (.t 55)),none⟩,⟨some 57,.P (.faddr 2 (.t 56)),none⟩,⟨some 58,.R (.load 1 false (.t 57)),none⟩,⟨some 59,.P (.faddr 2 (.t 3)),none⟩,⟨some 60,.R (.load 1 false (.t 59)),none⟩,⟨some 61,.C (.c (.func (.func 172) [] [])) [(.t 58),(.t 60)],none⟩] [[],[],[],[],[],[],[],[]] [[],[],[],[],[],[],[],[]] [0,1,2,3,4,5,6,7]) (.kill [0,7,8,61] (.cond (.t 61) (.seq (.reg [⟨some 62,.P (.mov (.t 8)),none⟩,⟨some 4,.P (.mov (.t 62)),none⟩,⟨some 5,.P (.mov (.c (.bool true))),none⟩]) .ret) .skip))) (.kill [0,7,8] (.seq (.reg [⟨some 63,.P (.mov (.t 7)),none⟩,⟨some 64,.C (.c (.func (.func 39) [] [])) [(.t 63)],none⟩,⟨some 9,.P (.mov (.t 64)),none⟩]) (.kill [0,8,9] (.seq (.seq (.reg [⟨some 65,.P (.mov (.t 8)),none⟩,⟨some 10,.P (.mov (.t 65)),none⟩]) (.kill [0,9,10] (.block 4 (.kill [0,9,10] (.loop (.fin [0,9,10] (.seq (.seq (.reg [⟨some 66,.P (.mov (.t 10)),none⟩,⟨some 67,.P (.mov (.t 0)),none⟩,⟨some 68,.P (.len (.t 67)),none⟩,⟨some 69,.P (.bin .lss (.t 66) (.t 68)),none⟩]) (.kill [0,9,10,69] (.cond (.t 69) .skip (.exit 4)))) (.kill [0,9,10] (.seq (.block 5 (.seq (.draw true [⟨some 72,.P (.mov (.t 9)),none⟩,⟨some 73,.P (.mov (.t 10)),none⟩,⟨some 74,.P (.iaddr 1 (.t 72) (.t 73)),none⟩,⟨some 75,.R (.load 1 false (.t 74)),none⟩,⟨some 76,.P (.mov (.t 9)),none⟩,⟨some 77,.P (.mov (.t 0)),none⟩,⟨some 78,.P (.len (.t 77)),none⟩,⟨some 79,.P (.iaddr 1 (.t 76) (.t 78)),none⟩,⟨some 80,.R (.load 1 false (.t 79)),none⟩,⟨some 81,.P (.bin .eql (.t 75) (.t 80)),none⟩] [[],[],[],[],[],[],[],[],[],[]] [[],[],[],[],[],[],[],[],[],[]] [0,1,2,3,4,5,6,7,8,9]) (.kill [0,9,10,81] (.cond (.t 81) (.seq (.reg [⟨some 82,.P (.mov (.t 10)),none⟩,⟨some 4,.P (.mov (.t 82)),none⟩,⟨some 5,.P (.mov (.c (.bool true))),none⟩]) .ret) .skip)))) (.kill [0,9,10] (.reg [⟨some 70,.P (.mov (.t 10)),none⟩,⟨some 71,.P (.bin .add (.t 70) (.c (.int .i64 1))),none⟩,⟨some 10,.P (.mov (.t 71)),none⟩]))))))))))) (.kill [] (.seq (.reg [⟨some 4,.P (.mov (.c (.int .i64 0))),none⟩,⟨some 5,.P (.mov (.c (.bool false))),none⟩]) .ret)))))))))))))))))))) (E [(.tmp 4),(.tmp 5)] R .mk) .mk (mat 83 (sArgs 0 args)) m) (hl : Nat.ble args.length 83 = true := by rfl) : ACalls Tryz.prog 140 args m R := walk mix (by kernel_rfl) (Nat.le_of_ble_eq_true hl) h
abbrev h140_0 (t0 t3 t6 : AVal) : AFrame := mat 83 [(0, t0),(3, t3),(6, t6)]
abbrev h140_1 (t0 t3 t7 t8 : AVal) : AFrame := mat 83 [(0, t0),(3, t3),(7, t7),(8, t8)]
abbrev h140_2 (t0 t9 t10 : AVal) : AFrame := mat 83 [(0, t0),(9, t9),(10, t10)]
theorem w141 {args : List AVal} {m : AMem} {R : AVal → AMem → Prop} (h : W Tryz.prog (.seq (.reg [⟨some 1,.A (.box 49 (.t 0)),none⟩,⟨some 2,.A (.alloc 49 [(.int .i64 0),(.int .i64 0), .nilslice, .nilslice, (.int .i64 0),(.bool false)]),none⟩]) (.kill [1,2] (.seq (.reg [⟨some 3,.A (.bslice 3 0 [(.int .i64 0)] []),none⟩,⟨some 4,.P (.faddr 2 (.t 1)),none⟩,⟨some 5,.R (.load 1 false (.t 4)),none⟩,⟨some 6,.W (.append 1 8 3 false (.t 3) (.t 5)),none⟩,⟨some 7,.P (.faddr 2 (.t 1)),none⟩,⟨none,.W (.store 1 (.t 7) (.t 6)),none⟩]) (.kill [1,2,6] (.seq (.reg [⟨some 8,.A (.bslice 9 0 [(.str ⟨#[]⟩)] []),none⟩,⟨some 9,.P (.faddr 3 (.t 1)),none⟩,⟨some 10,.R (.load 1 false (.t 9)),none⟩,⟨some 11,.W (.append 1 16 9 false (.t 8) (.t 10)),none⟩,⟨some 12,.P (.faddr 3 (.t 1)),none⟩,⟨none,.W (.store 1 (.t 12) (.t 11)),none⟩]) (.kill [1,2,6] (.seq (.reg [⟨some 13,.R (.load 6 true (.t 1)),none⟩,⟨none,.W (.store 6 (.t 2) (.t 13)),none⟩]) .ret))))))) (E [(.cell 2 6 true)] R .mk) .mk (mat 14 (sArgs 0 args)) m) (hl : Nat.ble args.length 14 = true := by rfl) : ACalls Tryz.prog 141 args m R := walk mix (by kernel_rfl) (Nat.le_of_ble_eq_true hl) h
theorem w142 {args : List AVal} {m : AMem} {R : AVal → AMem → Prop} (h : W Tryz.prog (.seq (.reg [⟨some 2,.P (.mov (.c .nilslice)),none⟩]) (.kill [0] (.seq (.seq (.reg [⟨some 3,.P (.mov (.t 0)),none⟩,⟨some 4,.P (.eqN .slice false (.t 3)),none⟩]) (.kill [0,4] (.cond (.t 4) (.seq (.reg [⟨some 2,.P (.mov (.c .nilslice)),none⟩]) .ret) .skip))) (.kill [0] (.seq (.reg [⟨some 5,.A (.bslice 9 0 [(.str ⟨#[]⟩)] []),none⟩,⟨some 6,.P (.mov (.t 0)),none⟩,⟨some 7,.W (.append 1 16 9 false (.t 5) (.t 6)),none⟩,⟨some 2,.P (.mov (.t 7)),none⟩]) .ret))))) (E [(.tmp 2)] R .mk) .mk (mat 8 (sArgs 0 args)) m) (hl : Nat.ble args.length 8 = true := by rfl) : ACalls Tryz.prog 142 args m R := walk mix (by kernel_rfl) (Nat.le_of_ble_eq_true hl) h
theorem w143 {args : List AVal} {m : AMem} {R : AVal → AMem → Prop} (h : W Tryz.prog (.seq (.reg [⟨some 6,.P (.mov (.c (.int .i64 20))),none⟩]) (.kill [0,1,2,6] (.seq (.reg [⟨some 10,.P (.mov (.t 6)),none⟩,⟨some 7,.P (.mov (.c (.int .i64 0))),none⟩,⟨some 8,.P (.mov (.t 10)),none⟩]) (.kill [0,1,2,6,7,8] (.seq (.block 0 (.kill [0,1,2,6,7,8] (.loop (.fin [0,1,2,6,7,8] (.seq (.seq (.reg [⟨some 11,.P (.mov (.t 8)),none⟩,⟨some 12,.P (.mov (.t 1)),none⟩,⟨some 13,.P (.bin .leq (.t 11) (.t 12)),none⟩]) (.kill [0,1,2,6,7,8,13] (.cond (.t 13) .skip (.exit 0)))) (.kill [0,1,2,6,7,8] (.block 1 (.seq (.reg [⟨some 14,.P (.mov (.t 0)),none⟩,⟨some 15,.P (.mov (.t 7)),none⟩,⟨some 16,.P (.mov (.t 8)),none⟩,⟨some 17,.P (.mov (.t 2)),none⟩,⟨some 18,.C (.c (.func (.func 148) [] [])) [(.t 14),(.t 15),(.t 16),(.t 17)],none⟩]) (.kill [0,1,2,6,8] (.seq (.reg [⟨some 19,.P (.mov (.t 8)),none⟩,⟨some 7,.P (.mov (.t 19)),none⟩]) (.kill [0,1,2,6,7,8] (.reg [⟨some 20,.P (.mov (.t 8)),none⟩,⟨some 21,.P (.mov (.t 6)),none⟩,⟨some 22,.P (.bin .add (.t 20) (.t 21)),none⟩,⟨some 8,.P (.mov (.t 22)),none⟩])))))))))))) (.kill [0,1,2,6,7] (.seq (.reg [⟨some 23,.P (.mov (.t 0)),none⟩,⟨some 24,.P (.mov (.t 7)),none⟩,⟨some 25,.P (.mov (.t 1)),none⟩,⟨some 26,.P (.mov (.t 2)),none⟩,⟨some 27,.C (.c (.func (.func 148) [] [])) [(.t 23),(.t 24),(.t 25),(.t 26)],none⟩]) (.kill [0,1,2,6] (.block 2 (.kill [0,1,2,6] (.loop (.fin [0,1,2,6] (.seq (.seq (.reg [⟨some 28,.P (.mov (.t 6)),none⟩,⟨some 29,.P (.mov (.t 1)),none⟩,⟨some 30,.P (.bin .lss (.t 28) (.t 29)),none⟩]) (.kill [0,1,2,6,30] (.cond (.t 30) .skip (.exit 2)))) (.kill [0,1,2,6] (.block 3 (.seq (.reg [⟨some 31,.P (.mov (.t 6)),none⟩,⟨some 32,.P (.bin .mul (.c (.int .i64 2)) (.t 31)),none⟩,⟨some 7,.P (.mov (.c (.int .i64 0))),none⟩,⟨some 8,.P (.mov (.t 32)),none⟩]) (.kill [0,1,2,6,7,8] (.seq (.block 4 (.kill [0,1,2,6,7,8] (.loop (.fin [0,1,2,6,7,8] (.seq (.seq (.reg [⟨some 33,.P (.mov (.t 8)),none⟩,⟨some 34,.P (.mov (.t 1)),none⟩,⟨some 35,.P (.bin .leq (.t 33) (.t 34)),none⟩]) (.kill [0,1,2,6,7,8,35] (.cond (.t 35) .skip (.exit 4)))) (.kill [0,1,2,6,7,8] (.block 5 (.seq (.reg [⟨some 36,.P (.mov (.t 0)),none⟩,⟨some 37,.P (.mov (.t 7)),none⟩,⟨some 38,.P (.mov (.t 7)),none⟩,⟨some 39,.P (.mov (.t 6)),none⟩,⟨some 40,.P (.bin .add (.t 38) (.t 39)),none⟩,⟨some 41,.P (.mov (.t 8)),none⟩,⟨some 42,.P (.mov (.t 2)),none⟩,⟨some 43,.C (.c (.func (.func 173) [] [])) [(.t 36),(.t 37),(.t 40),(.t 41),(.t 42)],none⟩]) (.kill [0,1,2,6,8] (.seq (.reg [⟨some 44,.P (.mov (.t 8)),none⟩,⟨some 7,.P (.mov (.t 44)),none⟩]) (.kill [0,1,2,6,7,8] (.reg [⟨some 45,.P (.mov (.t 8)),none⟩,⟨some 46,.P (.mov (.t 6)),none⟩,⟨some 47,.P (.bin .mul (.c (.int .i64 2)) (.t 46)),none⟩,⟨some 48,.P (.bin .add (.t 45) (.t 47)),none⟩,⟨some 8,.P (.mov (.t 48)),none⟩])))))))))))) (.kill [0,1,2,6,7] (.seq (.seq (.reg [⟨some 49,.P (.mov (.t 7)),none⟩,⟨some 50,.P (.mov (.t 6)),none⟩,⟨some 51,.P (.bin .add (.t 49) (.t 50)),none⟩,⟨some 9,.P (.mov (.t 51)),none⟩]) (.kill [0,1,2,6,7,9] (.seq (.reg [⟨some 52,.P (.mov (.t 9)),none⟩,⟨some 53,.P (.mov (.t 1)),none⟩,⟨some 54,.P (.bin .lss (.t 52) (.t 53)),none⟩]) (.kill [0,1,2,6,7,9,54] (.cond (.t 54) (.reg [⟨some 55,.P (.mov (.t 0)),none⟩,⟨some 56,.P (.mov (.t 7)),none⟩,⟨some 57,.P (.mov (.t 9)),none⟩,⟨some 58,.P (.mov (.t 1)),none⟩,⟨some 59,.P (.mov (.t 2)),none⟩,⟨some 60,.C (.c (.func (.func 173) [] [])) [(.t 55),(.t 56),(.t 57),(.t 58),(.t 59)],none⟩]) .skip))))) (.kill [0,1,2,6] (.reg [⟨some 61,.P (.mov (.t 6)),none⟩,⟨some 62,.P (.bin .mul (.t 61) (.c (.int .i64 2))),none⟩,⟨some 6,.P (.mov (.t 62)),none⟩])))))))))))))))))))))) (E [] R .mk) .mk (mat 63 (sArgs 0 args)) m) (hl : Nat.ble args.length 63 = true := by rfl) : ACalls Tryz.prog 143 args m R := walk mix (by kernel_rfl) (Nat.le_of_ble_eq_true hl) h
abbrev h143_0 (t0 t1 t2 t6 t7 t8 : AVal) : AFrame := mat 63 [(0, t0),(1, t1),(2, t2),(6, t6),(7, t7),(8, t8)]
abbrev h143_1 (t0 t1 t2 t6 : AVal) : AFrame := mat 63 [(0, t0),(1, t1),(2, t2),(6, t6)]
abbrev h143_2 (t0 t1 t2 t6 t7 t8 : AVal) : AFrame := mat 63 [(0, t0),(1, t1),(2, t2),(6, t6),(7, t7),(8, t8)]
theorem w144 {args : List AVal} {m : AMem} {R : AVal → AMem → Prop} (h : W Tryz.prog (.seq (.reg [⟨some 1,.A (.box 49 (.t 0)),none⟩,⟨some 2,.P (.mov (.c (.bool false))),none⟩]) (.kill [1] (.seq (.reg [⟨some 8,.P (.faddr 2 (.t 1)),none⟩,⟨some 9,.R (.load 1 false (.t 8)),none⟩,⟨some 10,.P (.len (.t 9)),none⟩,⟨some 3,.P (.mov (.t 10)),none⟩]) (.kill [1,3] (.seq (.reg [⟨some 11,.P (.mov (.t 3)),none⟩,⟨some 12,.P (.bin .eql (.t 11) (.c (.int .i64 0))),none⟩,⟨some 4,.P (.mov (.t 12)),none⟩]) (.kill [1,3,4] (.seq (.seq (.reg [⟨some 13,.P (.faddr 0 (.t 1)),none⟩,⟨some 14,.R (.load 1 false (.t 13)),none⟩,⟨some 15,.P (.bin .eql (.t 14) (.c (.int .i64 9))),none⟩,⟨some 16,.P (.mov (.t 15)),none⟩,⟨some 17,.P (.faddr 0 (.t 1)),(some (16, false))⟩,⟨some 18,.R (.load 1 false (.t 17)),(some (16, false))⟩,⟨some 19,.P (.bin .eql (.t 18) (.c (.int .i64 10))),(some (16, false))⟩,⟨some 20,.P (.pick (.t 16) (.c (.bool true)) (.t 19)),none⟩]) (.kill [1,3,4,20] (.cond (.t 20) (.reg [⟨some 21,.P (.mov (.t 3)),none⟩,⟨some 22,.P (.bin .eql (.t 21) (.c (.int .i64 1))),none⟩,⟨some 4,.P (.mov (.t 22)),none⟩]) (.seq (.reg [⟨some 23,.P (.faddr 0 (.t 1)),none⟩,⟨some 24,.R (.load 1 false (.t 23)),none⟩,⟨some 25,.P (.bin .eql (.t 24) (.c (.int .i64 11))),none⟩,⟨some 26,.P (.mov (.t 25)),none⟩,⟨some 27,.P (.faddr 0 (.t 1)),(some (26, false))⟩,⟨some 28,.R (.load 1 false (.t 27)),(some (26, false))⟩,⟨some 29,.P (.bin .eql (.t 28) (.c (.int .i64 13))),(some (26, false))⟩,⟨some 30,.P (.pick (.t 26) (.c (.bool true)) (.t 29)),none⟩]) (.kill [1,3,4,30] (.cond (.t 30) (.reg [⟨some 31,.P (.mov (.t 3)),none⟩,⟨some 32,.P (.bin .geq (.t 31) (.c (.int .i64 1))),none⟩,⟨some 4,.P (.mov (.t 32)),none⟩]) (.seq (.reg [⟨some 33,.P (.faddr 0 (.t 1)),none⟩,⟨some 34,.R (.load 1 false (.t 33)),none⟩,⟨some 35,.P (.bin .eql (.t 34) (.c (.int .i64 12))),none⟩]) (.kill [1,3,4,35] (.cond (.t 35) (.reg [⟨some 36,.P (.mov (.t 3)),none⟩,⟨some 37,.P (.bin .geq (.t 36) (.c (.int .i64 2))),none⟩,⟨some 4,.P (.mov (.t 37)),none⟩]) .skip))))))))) (.kill [1,3,4] (.seq (.reg [⟨some 38,.P (.faddr 3 (.t 1)),none⟩,⟨some 39,.R (.load 1 false (.t 38)),none⟩,⟨some 40,.P (.len (.t 39)),none⟩,⟨some 41,.P (.bin .eql (.t 40) (.c (.int .i64 0))),none⟩,⟨some 5,.P (.mov (.t 41)),none⟩]) (.kill [1,3,4,5] (.seq (.seq (.reg [⟨some 42,.P (.faddr 0 (.t 1)),none⟩,⟨some 43,.R (.load 1 false (.t 42)),none⟩,⟨some 44,.P (.bin .eql (.t 43) (.c (.int .i64 11))),none⟩]) (.kill [1,3,4,5,44] (.cond (.t 44) (.reg [⟨some 45,.P (.faddr 3 (.t 1)),none⟩,⟨some 46,.R (.load 1 false (.t 45)),none⟩,⟨some 47,.P (.len (.t 46)),none⟩,⟨some 48,.P (.mov (.t 3)),none⟩,⟨some 49,.P (.bin .eql (.t 47) (.t 48)),none⟩,⟨some 5,.P (.mov (.t 49)),none⟩]) .skip))) (.kill [1,4,5] (.seq (.reg [⟨some 50,.P (.faddr 4 (.t 1)),none⟩,⟨some 51,.R (.load 1 false (.t 50)),none⟩,⟨some 52,.P (.bin .eql (.t 51) (.c (.int .i64 0))),none⟩,⟨some 6,.P (.mov (.t 52)),none⟩]) (.kill [1,4,5,6] (.seq (.seq (.reg [⟨some 53,.P (.faddr 0 (.t 1)),none⟩,⟨some 54,.R (.load 1 false (.t 53)),none⟩,⟨some 55,.P (.bin .eql (.t 54) (.c (.int .i64 10))),none⟩]) (.kill [1,4,5,6,55] (.cond (.t 55) (.reg [⟨some 56,.P (.faddr 4 (.t 1)),none⟩,⟨some 57,.R (.load 1 false (.t 56)),none⟩,⟨some 58,.P (.bin .geq (.t 57) (.c (.int .i64 1))),none⟩,⟨some 59,.P (.mov (.t 58)),none⟩,⟨some 60,.P (.faddr 4 (.t 1)),(some (59, true))⟩,⟨some 61,.R (.load 1 false (.t 60)),(some (59, true))⟩,⟨some 62,.P (.bin .leq (.t 61) (.c (.int .i64 3))),(some (59, true))⟩,⟨some 63,.P (.pick (.t 59) (.t 62) (.c (.bool false))),none⟩,⟨some 6,.P (.mov (.t 63)),none⟩]) .skip))) (.kill [1,4,5,6] (.seq (.reg [⟨some 64,.P (.faddr 1 (.t 1)),none⟩,⟨some 65,.R (.load 1 false (.t 64)),none⟩,⟨some 66,.P (.bin .eql (.t 65) (.c (.int .i64 0))),none⟩,⟨some 7,.P (.mov (.t 66)),none⟩]) (.kill [1,4,5,6,7] (.seq (.seq (.reg [⟨some 67,.P (.faddr 0 (.t 1)),none⟩,⟨some 68,.R (.load 1 false (.t 67)),none⟩,⟨some 69,.P (.bin .eql (.t 68) (.c (.int .i64 3))),none⟩,⟨some 70,.P (.mov (.t 69)),none⟩,⟨some 71,.P (.faddr 0 (.t 1)),(some (70, false))⟩,⟨some 72,.R (.load 1 false (.t 71)),(some (70, false))⟩,⟨some 73,.P (.bin .eql (.t 72) (.c (.int .i64 4))),(some (70, false))⟩,⟨some 74,.P (.pick (.t 70) (.c (.bool true)) (.t 73)),none⟩,⟨some 75,.P (.mov (.t 74)),none⟩,⟨some 76,.P (.faddr 0 (.t 1)),(some (75, false))⟩,⟨some 77,.R (.load 1 false (.t 76)),(some (75, false))⟩,⟨some 78,.P (.bin .eql (.t 77) (.c (.int .i64 5))),(some (75, false))⟩,⟨some 79,.P (.pick (.t 75) (.c (.bool true)) (.t 78)),none⟩]) (.kill [1,4,5,6,7,79] (.cond (.t 79) (.reg [⟨some 80,.P (.faddr 1 (.t 1)),none⟩,⟨some 81,.R (.load 1 false (.t 80)),none⟩,⟨some 82,.P (.bin .geq (.t 81) (.c (.int .i64 (-1)))),none⟩,⟨some 83,.P (.mov (.t 82)),none⟩,⟨some 84,.P (.faddr 1 (.t 1)),(some (83, true))⟩,⟨some 85,.R (.load 1 false (.t 84)),(some (83, true))⟩,⟨some 86,.P (.bin .leq (.t 85) (.c (.int .i64 1))),(some (83, true))⟩,⟨some 87,.P (.pick (.t 83) (.t 86) (.c (.bool false))),none⟩,⟨some 7,.P (.mov (.t 87)),none⟩]) .skip))) (.kill [1,4,5,6,7] (.seq (.reg [⟨some 88,.P (.mov (.t 4)),none⟩,⟨some 89,.P (.mov (.t 88)),none⟩,⟨some 90,.P (.mov (.t 5)),(some (89, true))⟩,⟨some 91,.P (.pick (.t 89) (.t 90) (.c (.bool false))),none⟩,⟨some 92,.P (.mov (.t 91)),none⟩,⟨some 93,.P (.mov (.t 6)),(some (92, true))⟩,⟨some 94,.P (.pick (.t 92) (.t 93) (.c (.bool false))),none⟩,⟨some 95,.P (.mov (.t 94)),none⟩,⟨some 96,.P (.mov (.t 7)),(some (95, true))⟩,⟨some 97,.P (.pick (.t 95) (.t 96) (.c (.bool false))),none⟩,⟨some 98,.P (.mov (.t 97)),none⟩,⟨some 99,.P (.faddr 5 (.t 1)),(some (98, true))⟩,⟨some 100,.R (.load 1 false (.t 99)),(some (98, true))⟩,⟨some 101,.P (.un .not (.t 100)),(some (98, true))⟩,⟨some 102,.P (.mov (.t 101)),(some (98, true))⟩,⟨some 103,.P (.faddr 0 (.t 1)),(some (102, false))⟩,⟨some 104,.R (.load 1 false (.t 103)),(some (102, false))⟩,⟨some 105,.P (.bin .eql (.t 104) (.c (.int .i64 10))),(some (102, false))⟩,⟨some 106,.P (.pick (.t 102) (.c (.bool true)) (.t 105)),(some (98, true))⟩,⟨some 107,.P (.pick (.t 98) (.t 106) (.c (.bool false))),none⟩,⟨some 2,.P (.mov (.t 107)),none⟩]) .ret))))))))))))))))))))) (E [(.tmp 2)] R .mk) .mk (mat 108 (sArgs 0 args)) m) (hl : Nat.ble args.length 108 = true := by rfl) : ACalls Tryz.prog 144 args m R := walk mix (by kernel_rfl) (Nat.le_of_ble_eq_true hl) h
theorem w145 {args : List AVal} {m : AMem} {R : AVal → AMem → Prop} (h : W Tryz.prog (.seq (.reg [⟨some 2,.P (.mov (.c (.bool false))),none⟩]) (.kill [0] (.seq (.reg [⟨some 3,.P (.mov (.t 0)),none⟩,⟨some 4,.C (.c (.func (.func 174) [] [])) [(.t 3),(.c (.int .u8 97)),(.c (.int .u8 122))],none⟩,⟨some 2,.P (.mov (.t 4)),none⟩]) .ret))) (E [(.tmp 2)] R .mk) .mk (mat 5 (sArgs 0 args)) m) (hl : Nat.ble args.length 5 = true := by rfl) : ACalls Tryz.prog 145 args m R := walk mix (by kernel_rfl) (Nat.le_of_ble_eq_true hl) h
theorem w146 {args : List AVal} {m : AMem} {R : AVal → AMem → Prop} (h : W Tryz.prog (.seq (.reg [⟨some 2,.A (.box 49 (.t 0)),none⟩,⟨some 4,.P (.mov (.c .nilslice)),none⟩]) (.kill [1,2] (.seq (.reg [⟨some 7,.P (.faddr 0 (.t 2)),none⟩,⟨some 8,.R (.load 1 false (.t 7)),none⟩,⟨some 9,.P (.bin .eql (.t 8) (.c (.int .i64 9))),none⟩,⟨some 10,.P (.mov (.t 9)),none⟩,⟨some 11,.P (.faddr 0 (.t 2)),(some (10, false))⟩,⟨some 12,.R (.load 1 false (.t 11)),(some (10, false))⟩,⟨some 13,.P (.bin .eql (.t 12) (.c (.int .i64 13))),(some (10, false))⟩,⟨some 14,.P (.pick (.t 10) (.c (.bool true)) (.t 13)),none⟩,⟨some 5,.P (.mov (.t 14)),none⟩]) (.kill [1,2,5] (.seq (.reg [⟨some 15,.P (.faddr 0 (.t 2)),none⟩,⟨some 16,.R (.load 1 false (.t 15)),none⟩,⟨some 17,.P (.bin .eql (.t 16) (.c (.int .i64 11))),none⟩,⟨some 18,.P (.mov (.t 17)),none⟩,⟨some 19,.P (.faddr 0 (.t 2)),(some (18, false))⟩,⟨some 20,.R (.load 1 false (.t 19)),(some (18, false))⟩,⟨some 21,.P (.bin .eql (.t 20) (.c (.int .i64 13))),(some (18, false))⟩,⟨some 22,.P (.mov (.t 21)),(some (18, false))⟩,⟨some 23,.P (.faddr 2 (.t 2)),(some (22, true))⟩,⟨some 24,.R (.load 1 false (.t 23)),(some (22, true))⟩,⟨some 25,.P (.len (.t 24)),(some (22, true))⟩,⟨some 26,.P (.bin .gtr (.t 25) (.c (.int .i64 1))),(some (22, true))⟩,⟨some 27,.P (.pick (.t 22) (.t 26) (.c (.bool false))),(some (18, false))⟩,⟨some 28,.P (.pick (.t 18) (.c (.bool true)) (.t 27)),none⟩,⟨some 6,.P (.mov (.t 28)),none⟩]) (.kill [1,2,5,6] (.seq (.seq (.reg [⟨some 29,.P (.mov (.t 1)),none⟩,⟨some 30,.P (.bin .eql (.t 29) (.c (.int .i64 1))),none⟩,⟨some 31,.P (.mov (.t 30)),none⟩,⟨some 32,.P (.mov (.t 5)),(some (31, true))⟩,⟨some 33,.P (.pick (.t 31) (.t 32) (.c (.bool false))),none⟩,⟨some 34,.P (.mov (.t 33)),none⟩,⟨some 35,.P (.mov (.t 1)),(some (34, false))⟩,⟨some 36,.P (.bin .eql (.t 35) (.c (.int .i64 2))),(some (34, false))⟩,⟨some 37,.P (.mov (.t 36)),(some (34, false))⟩,⟨some 38,.P (.mov (.t 6)),(some (37, true))⟩,⟨some 39,.P (.pick (.t 37) (.t 38) (.c (.bool false))),(some (34, false))⟩,⟨some 40,.P (.pick (.t 34) (.c (.bool true)) (.t 39)),none⟩]) (.kill [2,40] (.cond (.t 40) (.seq (.reg [⟨some 4,.P (.mov (.c .nilslice)),none⟩]) .ret) .skip))) (.kill [2] (.seq (.reg [⟨some 41,.P (.faddr 2 (.t 2)),none⟩,⟨some 42,.R (.load 1 false (.t 41)),none⟩,⟨some 4,.P (.mov (.t 42)),none⟩]) .ret))))))))) (E [(.tmp 4)] R .mk) .mk (mat 43 (sArgs 0 args)) m) (hl : Nat.ble args.length 43 = true := by rfl) : ACalls Tryz.prog 146 args m R := walk mix (by kernel_rfl) (Nat.le_of_ble_eq_true hl) h
end Go.Proofs.YtheadodblifklaaGreat
namespace Go.Proofs.YtheadodblifklaaGreat
open Go Ax
set_option maxRecDepth 100000
theorem w174 {args : List AVal} {m : AMem} {R : AVal → AMem → Prop} (h : W Tryz.prog (.seq (.reg [⟨some 6,.P (.mov (.c (.bool false))),none⟩]) (.kill [0,1,2] (.seq (.seq (.reg [⟨some 7,.P (.mov (.c (.int .i64 0))),none⟩]) (.block 0 (.kill [0,1,2,7] (.loop (.fin [0,1,2,7] (.seq (.seq (.reg [⟨some 10,.P (.mov (.t 7)),none⟩,⟨some 11,.P (.mov (.t 0)),none⟩,⟨some 12,.P (.lenS (.t 11)),none⟩,⟨some 13,.P (.bin .lss (.t 10) (.t 12)),none⟩]) (.kill [0,1,2,7,13] (.cond (.t 13) .skip (.exit 0)))) (.kill [0,1,2,7] (.seq (.block 1 (.seq (.reg [⟨some 16,.P (.mov (.t 0)),none⟩,⟨some 17,.P (.mov (.t 7)),none⟩,⟨some 18,.P (.ixs (.t 16) (.t 17)),none⟩,⟨some 19,.P (.mov (.t 1)),none⟩,⟨some 20,.P (.bin .geq (.t 18) (.t 19)),none⟩,⟨some 21,.P (.mov (.t 20)),none⟩,⟨some 22,.P (.mov (.t 0)),(some (21, true))⟩,⟨some 23,.P (.mov (.t 7)),(some (21, true))⟩,⟨some 24,.P (.ixs (.t 22) (.t 23)),(some (21, true))⟩,⟨some 25,.P (.mov (.t 2)),(some (21, true))⟩,⟨some 26,.P (.bin .leq (.t 24) (.t 25)),(some (21, true))⟩,⟨some 27,.P (.pick (.t 21) (.t 26) (.c (.bool false))),none⟩,⟨some 8,.P (.mov (.t 27)),none⟩]) (.kill [0,1,2,7,8] (.seq (.reg [⟨some 28,.P (.mov (.t 0)),none⟩,⟨some 29,.P (.mov (.t 7)),none⟩,⟨some 30,.P (.ixs (.t 28) (.t 29)),none⟩,⟨some 31,.P (.bin .geq (.t 30) (.c (.int .u8 48))),none⟩,⟨some 32,.P (.mov (.t 31)),none⟩,⟨some 33,.P (.mov (.t 0)),(some (32, true))⟩,⟨some 34,.P (.mov (.t 7)),(some (32, true))⟩,⟨some 35,.P (.ixs (.t 33) (.t 34)),(some (32, true))⟩,⟨some 36,.P (.bin .leq (.t 35) (.c (.int .u8 57))),(some (32, true))⟩,⟨some 37,.P (.pick (.t 32) (.t 36) (.c (.bool false))),none⟩,⟨some 9,.P (.mov (.t 37)),none⟩]) (.kill [0,1,2,7,8,9] (.seq (.reg [⟨some 38,.P (.mov (.t 8)),none⟩,⟨some 39,.P (.un .not (.t 38)),none⟩,⟨some 40,.P (.mov (.t 39)),none⟩,⟨some 41,.P (.mov (.t 9)),(some (40, true))⟩,⟨some 42,.P (.mov (.t 41)),(some (40, true))⟩,⟨some 43,.P (.mov (.t 7)),(some (42, true))⟩,⟨some 44,.P (.bin .gtr (.t 43) (.c (.int .i64 0))),(some (42, true))⟩,⟨some 45,.P (.pick (.t 42) (.t 44) (.c (.bool false))),(some (40, true))⟩,⟨some 46,.P (.un .not (.t 45)),(some (40, true))⟩,⟨some 47,.P (.pick (.t 40) (.t 46) (.c (.bool false))),none⟩]) (.kill [0,1,2,7,47] (.cond (.t 47) (.seq (.reg [⟨some 6,.P (.mov (.c (.bool false))),none⟩]) .ret) .skip)))))))) (.kill [0,1,2,7] (.reg [⟨some 14,.P (.mov (.t 7)),none⟩,⟨some 15,.P (.bin .add (.t 14) (.c (.int .i64 1))),none⟩,⟨some 7,.P (.mov (.t 15)),none⟩])))))))))) (.kill [0] (.seq (.reg [⟨some 48,.P (.mov (.t 0)),none⟩,⟨some 49,.P (.lenS (.t 48)),none⟩,⟨some 50,.P (.bin .geq (.t 49) (.c (.int .i64 1))),none⟩,⟨some 51,.P (.mov (.t 50)),none⟩,⟨some 52,.P (.mov (.t 0)),(some (51, true))⟩,⟨some 53,.P (.lenS (.t 52)),(some (51, true))⟩,⟨some 54,.P (.bin .leq (.t 53) (.c (.int .i64 40))),(some (51, true))⟩,⟨some 55,.P (.pick (.t 51) (.t 54) (.c (.bool false))),none⟩,⟨some 6,.P (.mov (.t 55)),none⟩]) .ret))))) (E [(.tmp 6)] R .mk) .mk (mat 56 (sArgs 0 args)) m) (hl : Nat.ble args.length 56 = true := by rfl) : ACalls Tryz.prog 174 args m R := walk mix (by kernel_rfl) (Nat.le_of_ble_eq_true hl) h
abbrev h174_0 (t0 t1 t2 t7 : AVal) : AFrame := mat 56 [(0, t0),(1, t1),(2, t2),(7, t7)]
theorem w179 {args : List AVal} {m : AMem} {R : AVal → AMem → Prop} (h : W Tryz.prog (.seq (.reg [⟨some 12,.P (.mov (.c (.int .i64 0))),none⟩]) (.kill [0,1,2,3,4,5] (.seq (.reg [⟨some 14,.P (.mov (.t 0)),none⟩,⟨some 15,.P (.mov (.t 1)),none⟩,⟨some 16,.P (.mov (.t 2)),none⟩,⟨some 17,.P (.mov (.t 4)),none⟩,⟨some 18,.P (.mov (.t 5)),none⟩,⟨some 19,.C (.c (.func (.func 185) [] [])) [(.t 14),(.t 15),(.t 16),(.t 17),(.t 18)],none⟩,⟨some 13,.P (.mov (.t 19)),none⟩,⟨some 20,.P (.ext (.t 13) 0),none⟩,⟨some 21,.P (.ext (.t 13) 1),none⟩,⟨some 1,.P (.mov (.t 20)),none⟩,⟨some 2,.P (.mov (.t 21)),none⟩]) (.kill [0,1,2,3,4,5] (.seq (.reg [⟨some 23,.P (.mov (.t 0)),none⟩,⟨some 24,.P (.mov (.t 2)),none⟩,⟨some 25,.P (.mov (.t 3)),none⟩,⟨some 26,.P (.mov (.t 4)),none⟩,⟨some 27,.P (.mov (.t 5)),none⟩,⟨some 28,.C (.c (.func (.func 185) [] [])) [(.t 23),(.t 24),(.t 25),(.t 26),(.t 27)],none⟩,⟨some 22,.P (.mov (.t 28)),none⟩,⟨some 29,.P (.ext (.t 22) 0),none⟩,⟨some 30,.P (.ext (.t 22) 1),none⟩,⟨some 2,.P (.mov (.t 29)),none⟩,⟨some 3,.P (.mov (.t 30)),none⟩]) (.kill [0,1,2,4,5] (.seq (.reg [⟨some 32,.P (.mov (.t 0)),none⟩,⟨some 33,.P (.mov (.t 1)),none⟩,⟨some 34,.P (.mov (.t 2)),none⟩,⟨some 35,.P (.mov (.t 4)),none⟩,⟨some 36,.P (.mov (.t 5)),none⟩,⟨some 37,.C (.c (.func (.func 185) [] [])) [(.t 32),(.t 33),(.t 34),(.t 35),(.t 36)],none⟩,⟨some 31,.P (.mov (.t 37)),none⟩,⟨some 38,.P (.ext (.t 31) 0),none⟩,⟨some 39,.P (.ext (.t 31) 1),none⟩,⟨some 1,.P (.mov (.t 38)),none⟩,⟨some 2,.P (.mov (.t 39)),none⟩]) (.kill [2] (.seq (.reg [⟨some 40,.P (.mov (.t 2)),none⟩,⟨some 12,.P (.mov (.t 40)),none⟩]) .ret))))))))) (E [(.tmp 12)] R .mk) .mk (mat 41 (sArgs 0 args)) m) (hl : Nat.ble args.length 41 = true := by rfl) : ACalls Tryz.prog 179 args m R := walk mix (by kernel_rfl) (Nat.le_of_ble_eq_true hl) h
theorem w180 {args : List AVal} {m : AMem} {R : AVal → AMem → Prop} (h : W Tryz.prog (.seq (.reg [⟨some 2,.P (.mov (.c (.bool false))),none⟩]) (.kill [0] (.seq (.reg [⟨some 3,.P (.mov (.t 0)),none⟩,⟨some 4,.P (.mov (.t 0)),none⟩,⟨some 5,.P (.bin .neq (.t 3) (.t 4)),none⟩,⟨some 2,.P (.mov (.t 5)),none⟩]) .ret))) (E [(.tmp 2)] R .mk) .mk (mat 6 (sArgs 0 args)) m) (hl : Nat.ble args.length 6 = true := by rfl) : ACalls Tryz.prog 180 args m R := walk mix (by kernel_rfl) (Nat.le_of_ble_eq_true hl) h
end Go.Proofs.YtheadodblifklaaGreat
namespace Go.Proofs.YtheadodblifklaaGreat
open Go Ax
set_option maxRecDepth 100000
def rall (p : Nat → Bool) : Nat → Nat → Bool
  | _, 0 => true
  | i, n + 1 => p i && rall p (i + 1) n
def chOf (s : ByteArray) (i : Nat) : Int := ((s[i]?).getD 0).toNat
theorem ixs_at {s : ByteArray} {i : Nat} (h : i < s.size) (k : IntKind) : ixsE (.str s) (.int k i) = some (.int .u8 (chOf s i)) := by
  simp [ixsE, chOf, h]
def okCh (f t : Int) (i : Nat) (c : Int) : Bool := (decide (f ≤ c) && decide (c ≤ t)) || (decide (i ≠ 0) && decide (48 ≤ c) && decide (c ≤ 57))
def wordB (f t : Int) (s : ByteArray) : Bool := rall (fun i => okCh f t i (chOf s i)) 0 s.size && (decide (1 ≤ s.size) && decide (s.size ≤ 40))
theorem okCh_eq (f t : Int) (k : Nat) (c : Int) : okCh f t k c = ((decide (f ≤ c) && decide (c ≤ t)) || (!((k : Int) == 0) && (!decide (c < 48) && !decide (57 < c)))) := by
  unfold okCh
  rw [Bool.eq_iff_iff]
  simp
  omega
set_option maxHeartbeats 2000000 in
theorem k159 (s : ByteArray) (f t : Int) (m : AMem) (hn : s.size < 2 ^ 62) : ACalls Tryz.prog 159 [.str s, .int .u8 f, .int .u8 t] m fun v m' => v = .bool (wordB f t s) ∧ m' = m := by
  refine w159 ?_
  simp
  refine W_loop (fun n a m' => ∃ k : Nat, k + n = s.size ∧ a = h159_0 (.str s) (.int .u8 f) (.int .u8 t) (.int .i64 s.size) (.int .i64 k) ∧ m' = m ∧ rall (fun i => okCh f t i (chOf s i)) k n = rall (fun i => okCh f t i (chOf s i)) 0 s.size) s.size ⟨0, by simp⟩ ?_
  rintro n a m' ⟨k, hk, rfl, rfl, hi⟩
  simp
  refine bbind_dec (fun h => ?_) fun h => ?_
  · have h : k < s.size := by omega
    have hx := ixs_at h .i64
    obtain ⟨n, rfl⟩ : ∃ n', n = n' + 1 := ⟨n - 1, by omega⟩
    simp only [rall, okCh_eq f t k] at hi
    have hw := step64 h hn
    have rest : ¬ (f ≤ chOf s k ∧ chOf s k ≤ t) → ((!((k : Int) == 0) && (!decide (chOf s k < 48) && !decide (57 < chOf s k))) && rall (fun i => okCh f t i (chOf s i)) (k + 1) n) = rall (fun i => okCh f t i (chOf s i)) 0 s.size := by
      intro hn
      rw [← hi]
      have : (decide (f ≤ chOf s k) && decide (chOf s k ≤ t)) = false := by simpa using hn
      rw [this, Bool.false_or]
    by_cases hl : f ≤ chOf s k ∧ chOf s k ≤ t
    · obtain ⟨c1, c2⟩ := hl
      simp [c1, c2] at hi
      simp [hx, c1, c2, hw]
      exact ⟨n, by omega, k + 1, by omega, by simp, hi⟩
    · have hi := rest hl
      cases c3 : ((k : Int) == 0)
      · by_cases c4 : chOf s k < 48
        · simp [c3, c4] at hi
          by_cases c1 : f ≤ chOf s k
          · have c2 : ¬ chOf s k ≤ t := fun h => hl ⟨c1, h⟩
            simp [hx, c1, c2, c3, c4, wordB, hi]
          · simp [hx, c1, c3, c4, wordB, hi]
        · by_cases c5 : 57 < chOf s k
          · simp [c3, c4, c5] at hi
            by_cases c1 : f ≤ chOf s k
            · have c2 : ¬ chOf s k ≤ t := fun h => hl ⟨c1, h⟩
              simp [hx, c1, c2, c3, c4, c5, wordB, hi]
            · simp [hx, c1, c3, c4, c5, wordB, hi]
          · simp [c3, c4, c5] at hi
            by_cases c1 : f ≤ chOf s k
            · have c2 : ¬ chOf s k ≤ t := fun h => hl ⟨c1, h⟩
              simp [hx, c1, c2, c3, c4, c5, hw]
              exact ⟨n, by omega, k + 1, by omega, by simp, hi⟩
            · simp [hx, c1, c3, c4, c5, hw]
              exact ⟨n, by omega, k + 1, by omega, by simp, hi⟩
      · simp [c3] at hi
        by_cases c1 : f ≤ chOf s k
        · have c2 : ¬ chOf s k ≤ t := fun h => hl ⟨c1, h⟩
          simp [hx, c1, c2, c3, wordB, hi]
        · simp [hx, c1, c3, wordB, hi]
  · obtain rfl : n = 0 := by omega
    simp only [rall] at hi
    have fin : wordB f t s = (decide (1 ≤ s.size) && decide (s.size ≤ 40)) := by rw [wordB, ← hi, Bool.true_and]
    by_cases h1 : (1 : Int) ≤ s.size
    · have h1' : 1 ≤ s.size := by omega
      simp [fin, h1, h1']
      omega
    · have h1' : s.size = 0 := by omega
      simp [fin, h1']
theorem k124 (s : ByteArray) (m : AMem) (hn : s.size < 2 ^ 62) : ACalls Tryz.prog 124 [.str s] m fun v m' => v = .bool (wordB 97 122 s) ∧ m' = m := by
  refine w124 ?_
  simp
  refine C_of (k159 s 97 122 m hn) ?_
  rintro _ _ ⟨rfl, rfl⟩
  simp
theorem okCh_eq' (f t : Int) (k : Nat) (c : Int) : okCh f t k c = ((decide (f ≤ c) && decide (c ≤ t)) || ((decide (48 ≤ c) && decide (c ≤ 57)) && decide ((0 : Int) < k))) := by
  unfold okCh
  rw [Bool.eq_iff_iff]
  simp
  omega
set_option maxHeartbeats 2000000 in
theorem k174 (s : ByteArray) (f t : Int) (m : AMem) (hn : s.size < 2 ^ 62) : ACalls Tryz.prog 174 [.str s, .int .u8 f, .int .u8 t] m fun v m' => v = .bool (wordB f t s) ∧ m' = m := by
  refine w174 ?_
  simp
  refine W_loop (fun n a m' => ∃ k : Nat, k + n = s.size ∧ a = h174_0 (.str s) (.int .u8 f) (.int .u8 t) (.int .i64 k) ∧ m' = m ∧ rall (fun i => okCh f t i (chOf s i)) k n = rall (fun i => okCh f t i (chOf s i)) 0 s.size) s.size ⟨0, by simp⟩ ?_
  rintro n a m' ⟨k, hk, rfl, rfl, hi⟩
  simp
  refine bbind_dec (fun h => ?_) fun h => ?_
  · have h : k < s.size := by omega
    have hx := ixs_at h .i64
    obtain ⟨n, rfl⟩ : ∃ n', n = n' + 1 := ⟨n - 1, by omega⟩
    simp only [rall, okCh_eq' f t k] at hi
    have hw := step64 h hn
    by_cases c1 : f ≤ chOf s k <;> by_cases c2 : chOf s k ≤ t <;> by_cases c3 : 48 ≤ chOf s k <;> by_cases c4 : chOf s k ≤ 57 <;> cases c5 : decide (0 < k) <;> simp [c1, c2, c3, c4, c5] at hi <;> simp [hx, c1, c2, c3, c4, c5, hw, wordB, hi] <;> try exact ⟨n, by omega, k + 1, by omega, by simp, hi⟩
  · obtain rfl : n = 0 := by omega
    simp only [rall] at hi
    have fin : wordB f t s = (decide (1 ≤ s.size) && decide (s.size ≤ 40)) := by rw [wordB, ← hi, Bool.true_and]
    by_cases h1 : (1 : Int) ≤ s.size
    · have h1' : 1 ≤ s.size := by omega
      simp [fin, h1, h1']
      omega
    · have h1' : s.size = 0 := by omega
      simp [fin, h1']
theorem k145 (s : ByteArray) (m : AMem) (hn : s.size < 2 ^ 62) : ACalls Tryz.prog 145 [.str s] m fun v m' => v = .bool (wordB 97 122 s) ∧ m' = m := by
  refine w145 ?_
  simp
  refine C_of (k174 s 97 122 m hn) ?_
  rintro _ _ ⟨rfl, rfl⟩
  simp
theorem k123 (s : ByteArray) (m : AMem) (hn : s.size < 2 ^ 62) : ACalls Tryz.prog 123 [.str s] m fun v m' => v = .bool (!wordB 97 122 s) ∧ m' = m := by
  refine w123 ?_
  simp
  refine C_of (k124 s m hn) ?_
  rintro _ _ ⟨rfl, rfl⟩
  simp
def sEq (x y : ByteArray) : Bool := x.toList == y.toList
theorem k158 (s : AVal) (l : List ByteArray) (p : ByteArray → Bool) (m : AMem) (hs : RStrs m s l) (hn : l.length < 2 ^ 62) (g : FuncId) (fs cs : List AVal)
    (hf : ∀ x ∈ l, ∀ m', m <+: m' → ACalls Tryz.prog g (fs ++ [.str x] ++ cs) m' fun v m'' => v = .bool (p x) ∧ m' <+: m'') :
    ACalls Tryz.prog 158 [s, .func (.func g) fs cs] m fun r m' => r = .int .i64 (fidx (fun i => (l[i]?).any p) 0 l.length) ∧ m <+: m' := by
  refine w158 ?_
  simp [hs.len]
  refine W_loop (fun n a m' => ∃ k : Nat, k + n = l.length ∧ a = h158_0 s (.func (.func g) fs cs) (.int .i64 l.length) (.int .i64 k) ∧ m <+: m' ∧ fidx (fun i => (l[i]?).any p) k n = fidx (fun i => (l[i]?).any p) 0 l.length) l.length ⟨0, by simp, by simp, List.prefix_refl _, by simp⟩ ?_
  rintro n a m' ⟨k, hk, rfl, hm, hi⟩
  simp
  refine bbind_dec (fun h => ?_) fun h => ?_
  · simp
    have h : k < l.length := by omega
    obtain ⟨b, o, h1, h2⟩ := (hs.mono hm).at h
    simp [h1, h2]
    obtain ⟨n, rfl⟩ : ∃ n', n = n' + 1 := ⟨n - 1, by omega⟩
    have := hf l[k] (List.getElem_mem h) m' hm
    simp only [List.append_assoc, List.singleton_append] at this
    refine C_of this ?_
    rintro _ m'' ⟨rfl, hm'⟩
    simp only [fidx, List.getElem?_eq_getElem h, Option.any_some] at hi
    simp
    refine bbind_intro (fun he => ?_) fun he => ?_
    · simp [he] at hi
      simp [hi, hm.trans hm']
    · simp [he] at hi
      simp [step64 h hn]
      exact ⟨n, by omega, k + 1, by omega, by simp, hm.trans hm', hi⟩
  · simp
    obtain rfl : n = 0 := by omega
    simp only [fidx] at hi
    simp [hi, hm]
theorem k122 (s : AVal) (l : List ByteArray) (p : ByteArray → Bool) (m : AMem) (hs : RStrs m s l) (hn : l.length < 2 ^ 62) (g : FuncId) (fs cs : List AVal)
    (hf : ∀ x ∈ l, ∀ m', m <+: m' → ACalls Tryz.prog g (fs ++ [.str x] ++ cs) m' fun v m'' => v = .bool (p x) ∧ m' <+: m'') :
    ACalls Tryz.prog 122 [s, .func (.func g) fs cs] m fun r m' => r = .bool (l.any p) ∧ m <+: m' := by
  refine w122 ?_
  simp
  refine C_of (k158 s l p m hs hn g fs cs hf) ?_
  rintro _ m' ⟨rfl, hm⟩
  simp [hm, fidx_any]
theorem k160 (s : AVal) (l : List ByteArray) (v : ByteArray) (m : AMem) (hs : RStrs m s l) (hn : l.length < 2 ^ 62) : ACalls Tryz.prog 160 [s, .str v] m fun r m' => r = .int .i64 (fidx (fun i => (l[i]?).any (sEq v)) 0 l.length) ∧ m' = m := by
  refine w160 ?_
  simp [hs.len]
  refine W_loop (fun n a m' => ∃ k : Nat, k + n = l.length ∧ a = h160_0 s (.str v) (.int .i64 l.length) (.int .i64 k) ∧ m' = m ∧ fidx (fun i => (l[i]?).any (sEq v)) k n = fidx (fun i => (l[i]?).any (sEq v)) 0 l.length) l.length ⟨0, by simp⟩ ?_
  rintro n a m' ⟨k, hk, rfl, rfl, hi⟩
  simp
  refine bbind_dec (fun h => ?_) fun h => ?_
  · simp
    have h : k < l.length := by omega
    obtain ⟨b, o, h1, h2⟩ := hs.at h
    simp [h1, h2, binStr]
    obtain ⟨n, rfl⟩ : ∃ n', n = n' + 1 := ⟨n - 1, by omega⟩
    simp only [fidx, List.getElem?_eq_getElem h, Option.any_some] at hi
    refine bbind_intro (fun he => ?_) fun he => ?_
    · have he : sEq v l[k] = true := he
      simp [he] at hi
      simp [hi]
    · have he : sEq v l[k] = false := he
      simp [he] at hi
      simp [step64 h hn]
      exact ⟨n, by omega, k + 1, by omega, by simp, hi⟩
  · simp
    obtain rfl : n = 0 := by omega
    simp only [fidx] at hi
    simp [hi]
theorem k125 (s : AVal) (l : List ByteArray) (v : ByteArray) (m : AMem) (hs : RStrs m s l) (hn : l.length < 2 ^ 62) : ACalls Tryz.prog 125 [s, .str v] m fun r m' => r = .bool (l.any (sEq v)) ∧ m' = m := by
  refine w125 ?_
  simp
  refine C_of (k160 s l v m hs hn) ?_
  rintro _ _ ⟨rfl, rfl⟩
  simp [fidx_any]
end Go.Proofs.YtheadodblifklaaGreat

namespace Go.Proofs.YtheadodblifklaaGreat
open Go Ax
set_option maxRecDepth 100000
@[simp] theorem loadE_push (m : AMem) (x : ABlk) (b o n : Nat) (g : Bool) (h : b < m.length) : loadE (m ++ [x]) n g (.ptr b o) = loadE m n g (.ptr b o) := by
  simp [loadE, readB, List.getElem?_append_left h]
theorem k104 (s : AVal) (l : List Md) (i : Int) (m : AMem) (hs : RTab m s l) : ACalls Tryz.prog 104 [s, .int .i64 i] m fun v m' => v = .bool (decide (0 ≤ i) && decide (i < l.length)) ∧ m' = m := by
  refine w104 ?_
  by_cases h : 0 ≤ i <;> simp [h, hs.len]
theorem k65 (s : AVal) (l : List Md) (i : Int) (m : AMem) (hs : RTab m s l) : ACalls Tryz.prog 65 [s, .int .i64 i] m fun v m' => v = .bool (decide (0 ≤ i) && decide (i < l.length)) ∧ m' = m := by
  refine w65 ?_
  by_cases h : 0 ≤ i <;> simp [h, hs.len]
def yinB (x : Md) : Bool := x.kind == 9 || x.kind == 13
def yangB (x : Md) : Bool := x.kind == 11 || (x.kind == 13 && decide (1 < x.elems.length))
theorem k128 (c : List AVal) (x : Md) (m : AMem) (hx : RMode m c x) : ACalls Tryz.prog 128 [.agg c] m fun v m' => v = .bool (yinB x) ∧ m <+: m' := by
  obtain ⟨e, nm, rfl, he, hn⟩ := hx
  refine w128 ?_
  have h1 := Sl.one he
  have h2 := Sl.one hn
  cases h : x.kind == 9 <;> simp [h1, h2, h, yinB]
theorem k129 (c : List AVal) (x : Md) (m : AMem) (hx : RMode m c x) : ACalls Tryz.prog 129 [.agg c] m fun v m' => v = .bool (yangB x) ∧ m <+: m' := by
  obtain ⟨e, nm, rfl, he, hn⟩ := hx
  refine w129 ?_
  have h1 := Sl.one he
  have h2 := Sl.one hn
  cases h : x.kind == 11
  · cases h' : x.kind == 13
    · simp [h1, h2, h, h', yangB]
    · simp [h1, h2, h, h', he.len, yangB]
      omega
  · simp [h1, h2, h, yangB]
theorem k132 (c : List AVal) (x : Md) (m : AMem) (hx : RMode m c x) : ACalls Tryz.prog 132 [.agg c] m fun v m' => v = .bool true ∧ m <+: m' := by
  obtain ⟨e, nm, rfl, he, hn⟩ := hx
  refine w132 ?_
  have h1 := Sl.one he
  have h2 := Sl.one hn
  simp [h1, h2]
theorem k121 (s : AVal) (l : List Md) (i : Int) (b : Nat) (m : AMem) (hb : loadE m 1 false (.ptr b 0) = some s) (hs : RTab m s l) : ACalls Tryz.prog 121 [.int .i64 i, .ptr b 0] m fun v m' => v = .bool (!(decide (0 ≤ i) && decide (i < l.length))) ∧ m' = m := by
  refine w121 ?_
  simp [hb]
  refine C_of (k104 s l i m hs) ?_
  rintro _ _ ⟨rfl, rfl⟩
  simp
theorem k126 (s : AVal) (l : List Md) (i : Nat) (b : Nat) (m : AMem) (hb : loadE m 1 false (.ptr b 0) = some s) (hs : RTab m s l) (hi : i < l.length) : ACalls Tryz.prog 126 [.int .i64 i, .ptr b 0] m fun v m' => v = .bool (l[i].kind == 0) ∧ m' = m := by
  refine w126 ?_
  obtain ⟨b', o, e, nm, h1, _, h2, _⟩ := hs.at hi
  simp [hb, h1, h2]
end Go.Proofs.YtheadodblifklaaGreat

namespace Go.Proofs.YtheadodblifklaaGreat
open Go Ax
set_option maxRecDepth 100000
def least (x : Md) : Int := if x.kind = 9 ∨ x.kind = 10 ∨ x.kind = 11 ∨ x.kind = 13 then 1 else if x.kind = 12 then 2 else 0
def most (x : Md) : Int := if x.kind = 9 ∨ x.kind = 10 then 1 else if x.kind = 11 ∨ x.kind = 12 ∨ x.kind = 13 then x.elems.length else 0
def nNames (x : Md) : Int := if x.kind = 11 then x.elems.length else 0
def dimsOk (x : Md) : Prop := if x.kind = 10 then 1 ≤ x.dims ∧ x.dims ≤ 3 else x.dims = 0
def sizeOk (x : Md) : Prop := if x.kind = 3 ∨ x.kind = 4 ∨ x.kind = 5 then -1 ≤ x.size ∧ x.size ≤ 1 else x.size = 0
instance (x : Md) : Decidable (dimsOk x) := by unfold dimsOk; infer_instance
instance (x : Md) : Decidable (sizeOk x) := by unfold sizeOk; infer_instance
def shaped (x : Md) : Prop := least x ≤ x.elems.length ∧ (x.elems.length : Int) ≤ most x ∧ (x.names.length : Int) = nNames x ∧ dimsOk x ∧ sizeOk x ∧ (x.flex = true → x.kind = 10)
instance (x : Md) : Decidable (shaped x) := by unfold shaped; infer_instance
def shapeI (x : Md) : Int :=
  if x.kind < 0 ∨ 14 ≤ x.kind then 13
  else if shaped x then (if 64 < x.elems.length then 3 else 0) else 14
set_option maxHeartbeats 4000000 in
theorem k120 (c : List AVal) (x : Md) (m : AMem) (hx : RMode m c x) : ACalls Tryz.prog 120 [.agg c] m fun v m' => v = .int .i64 (shapeI x) ∧ m <+: m' := by
  obtain ⟨e, nm, rfl, he, hn⟩ := hx
  refine w120 ?_
  have h1 := Sl.one he
  have h2 := Sl.one hn
  have hel := he.len
  have hnl := hn.len
  simp [h1, h2]
  have hb : readB (m ++ [.own [.int .i64 x.kind, .int .i64 x.size, e, nm, .int .i64 x.dims, .bool x.flex] 49 none]) m.length = some [.int .i64 x.kind, .int .i64 x.size, e, nm, .int .i64 x.dims, .bool x.flex] := by simp [readB, ABlk.cells]
  have hm : m <+: m ++ [.own [.int .i64 x.kind, .int .i64 x.size, e, nm, .int .i64 x.dims, .bool x.flex] 49 none] := List.prefix_append _ _
  revert hb hm
  generalize (m ++ [.own [.int .i64 x.kind, .int .i64 x.size, e, nm, .int .i64 x.dims, .bool x.flex] 49 none]) = m1
  intro hb hm
  generalize m.length = b at *
  by_cases hk : x.kind < 0
  · simp [hk, shapeI, hm]
  by_cases hk' : 14 ≤ x.kind
  · simp [hk, hk', shapeI, loadE, hb, hm]
  simp [hk, hk', loadE, hb]
  generalize hS : shapeI x = S
  replace hS : S = if shaped x then (if 64 < x.elems.length then 3 else 0) else 14 := by rw [← hS, shapeI, if_neg (by omega)]
  refine bbind_J (fun a m' => a.forget [1, 3, 4, 17, 18] = mat 126 [(1, .ptr b 0), (3, .int .i64 0), (4, .int .i64 0), (17, .int .i64 x.kind), (18, .bool (x.kind == 9 || x.kind == 10))] ∧ m' = m1) ?_ ?_
  · by_cases c : x.kind = 9
    · simp [c]
    · simp [c, beqF c]
  rintro a m1 ⟨ha, rfl⟩
  simp [ha, -Bool.or_eq_true]
  refine bbind_JB (fun a m' => a.forget [1, 3, 4] = mat 126 [(1, .ptr b 0), (3, .int .i64 (least x)), (4, .int .i64 (most x))] ∧ m1 <+: m') ?_ ?_
  · by_cases c : x.kind = 9 ∨ x.kind = 10
    · have c' : (x.kind == 9 || x.kind == 10) = true := by simpa using c
      have : least x = 1 ∧ most x = 1 := by unfold least most; omega
      simp [c', this]
    · have c' : (x.kind == 9 || x.kind == 10) = false := by simpa using c
      simp [c']
      by_cases c2 : x.kind = 11 ∨ x.kind = 13
      · have : least x = 1 ∧ most x = x.elems.length := by unfold least most; omega
        refine bbind_J (fun a m' => a.forget [1, 3, 4, 17, 21] = mat 126 [(1, .ptr b 0), (3, .int .i64 0), (4, .int .i64 0), (17, .int .i64 x.kind), (21, .bool true)] ∧ m' = m1) ?_ ?_
        · by_cases c : x.kind = 11
          · simp [c]
          simp [c, beqF c]
          simp [c2.resolve_left c]
        rintro a m1 ⟨ha, rfl⟩
        simp [ha]
        refine W_drawPR (by simp [maxDst]) rfl rfl ?_
        simp [ha, loadE, hb, hel, this]
      · have c3 : ¬ x.kind = 11 := by omega
        have c4 : ¬ x.kind = 13 := by omega
        simp [beqF c3, beqF c4]
        by_cases c5 : x.kind = 12
        · have : least x = 2 ∧ most x = x.elems.length := by unfold least most; omega
          simp [c5]
          refine W_drawPR (by simp [maxDst]) rfl rfl ?_
          simp [ha, loadE, hb, hel, this]
        · have : least x = 0 ∧ most x = 0 := by unfold least most; omega
          simp [beqF c5, this]
  rintro a m2 ⟨ha, hm2⟩
  simp [ha]
  replace hb := readB_mono hm2 hb
  replace hm := hm.trans hm2
  have hbad : (¬ (least x ≤ x.elems.length) ∨ ¬ ((x.elems.length : Int) ≤ most x) ∨ ¬ ((x.names.length : Int) = nNames x) ∨ ¬ dimsOk x ∨ ¬ sizeOk x ∨ ¬ (x.flex = true → x.kind = 10)) → S = 14 := fun h => by
    rw [hS, if_neg]
    rintro ⟨k1, k2, k3, k4, k5, k6⟩
    rcases h with h | h | h | h | h | h
    · exact h k1
    · exact h k2
    · exact h k3
    · exact h k4
    · exact h k5
    · exact h k6
  refine W_J (fun a m' => a.forget [1, 3, 4, 5, 6, 7] = mat 126 [(1, .ptr b 0), (3, .int .i64 (least x)), (4, .int .i64 (most x)), (5, .int .i64 0), (6, .bool (x.kind == 10)), (7, .bool (x.kind == 3 || (x.kind == 4 || x.kind == 5)))] ∧ m2 <+: m') ?_ ?_
  · refine W_drawPR (by simp [maxDst]) rfl rfl ?_
    by_cases c3 : x.kind = 3
    · simp [loadE, hb, c3]
    by_cases c4 : x.kind = 4
    · simp [loadE, hb, c4]
    · simp [loadE, hb, beqF c3, beqF c4]
  rintro a m3 ⟨ha, hm3⟩
  replace hb := readB_mono hm3 hb
  replace hm := hm.trans hm3
  simp [ha, loadE, hb]
  refine bbind_J (fun a m' => a.forget [1, 3, 4, 5, 6, 7] = mat 126 [(1, .ptr b 0), (3, .int .i64 (least x)), (4, .int .i64 (most x)), (5, .int .i64 (nNames x)), (6, .bool (x.kind == 10)), (7, .bool (x.kind == 3 || (x.kind == 4 || x.kind == 5)))] ∧ m' = m3) ?_ ?_
  · by_cases c : x.kind = 11
    · simp [c, loadE, hb, hel, nNames]
    · simp [c, beqF c, nNames]
  rintro a m3 ⟨ha, rfl⟩
  generalize hd : (x.kind == 10) = d at *
  generalize hz : (x.kind == 3 || (x.kind == 4 || x.kind == 5)) = z at *
  by_cases b1 : (x.elems.length : Int) < least x
  · simp [ha, loadE, hb, hel, b1, hm]
    exact (hbad (.inl (by omega))).symm
  by_cases b2 : most x < (x.elems.length : Int)
  · simp [ha, loadE, hb, hel, b1, b2, hm]
    exact (hbad (.inr (.inl (by omega)))).symm
  by_cases b3 : (x.names.length : Int) = nNames x
  rotate_left
  · simp [ha, loadE, hb, hel, hnl, b1, b2, bneT b3, hm]
    exact (hbad (.inr (.inr (.inl b3)))).symm
  have bad3 : ¬ dimsOk x → S = 14 := fun h => hbad (.inr (.inr (.inr (.inl h))))
  have bad4 : ¬ sizeOk x → S = 14 := fun h => hbad (.inr (.inr (.inr (.inr (.inl h)))))
  have bad5 : ¬ (x.flex = true → x.kind = 10) → S = 14 := fun h => hbad (.inr (.inr (.inr (.inr (.inr h)))))
  have fin : dimsOk x → sizeOk x → (x.flex = true → x.kind = 10) → S = if 64 < x.elems.length then 3 else 0 := fun h1 h2 h3 => by
    rw [hS, if_pos ⟨by omega, by omega, b3, h1, h2, h3⟩]
  have last : ∀ {a : AFrame}, dimsOk x → sizeOk x → (x.flex = true → x.kind = 10) → (if (64 : Int) < x.elems.length then (3 : Int) else 0) = S := fun {_} h1 h2 h3 => by
    rw [fin h1 h2 h3]
    by_cases c : 64 < x.elems.length
    · rw [if_pos c, if_pos (by omega)]
    · rw [if_neg c, if_neg (by omega)]
  clear hbad
  cases d
  · by_cases c : x.dims = 0
    rotate_left
    · simp [ha, loadE, hb, hel, hnl, b1, b2, b3, bneT c, hm]
      refine (bad3 ?_).symm
      unfold dimsOk
      rw [if_neg (by simpa using hd)]
      exact c
    have h3 : dimsOk x := by
      unfold dimsOk
      rw [if_neg (by simpa using hd)]
      exact c
    clear bad3
    cases z
    · by_cases c' : x.size = 0
      rotate_left
      · simp [ha, loadE, hb, hel, hnl, b1, b2, b3, c, bneT c', hm]
        refine (bad4 ?_).symm
        unfold sizeOk
        rw [if_neg (by simpa using hz)]
        exact c'
      have h4 : sizeOk x := by
        unfold sizeOk
        rw [if_neg (by simpa using hz)]
        exact c'
      cases hf : x.flex
      · by_cases c6 : (64 : Int) < x.elems.length
        · simp [ha, loadE, hb, hel, hnl, b1, b2, b3, c, c', hf, hm, c6]
          rw [← last (a := a) h3 h4 (by simp [hf]), if_pos c6]
        · simp [ha, loadE, hb, hel, hnl, b1, b2, b3, c, c', hf, hm, c6]
          rw [← last (a := a) h3 h4 (by simp [hf]), if_neg c6]
      · simp [ha, loadE, hb, hel, hnl, b1, b2, b3, c, c', hf, hm]
        exact (bad5 fun h => by rw [h hf] at hd; cases hd).symm
    · by_cases c' : x.size < -1
      · simp [ha, loadE, hb, hel, hnl, b1, b2, b3, c, c', hm]
        refine (bad4 ?_).symm
        unfold sizeOk
        rw [if_pos (by simpa using hz)]
        omega
      by_cases c'' : 1 < x.size
      · simp [ha, loadE, hb, hel, hnl, b1, b2, b3, c, c', c'', hm]
        refine (bad4 ?_).symm
        unfold sizeOk
        rw [if_pos (by simpa using hz)]
        omega
      have h4 : sizeOk x := by
        unfold sizeOk
        rw [if_pos (by simpa using hz)]
        omega
      cases hf : x.flex
      · by_cases c6 : (64 : Int) < x.elems.length
        · simp [ha, loadE, hb, hel, hnl, b1, b2, b3, c, c', c'', hf, hm, c6]
          rw [← last (a := a) h3 h4 (by simp [hf]), if_pos c6]
        · simp [ha, loadE, hb, hel, hnl, b1, b2, b3, c, c', c'', hf, hm, c6]
          rw [← last (a := a) h3 h4 (by simp [hf]), if_neg c6]
      · simp [ha, loadE, hb, hel, hnl, b1, b2, b3, c, c', c'', hf, hm]
        exact (bad5 fun h => by rw [h hf] at hd; cases hd).symm
  · have hk10 : x.kind = 10 := by simpa using hd
    by_cases c : x.dims < 1
    · simp [ha, loadE, hb, hel, hnl, b1, b2, b3, c, hm]
      refine (bad3 ?_).symm
      unfold dimsOk
      rw [if_pos hk10]
      omega
    by_cases cc : 3 < x.dims
    · simp [ha, loadE, hb, hel, hnl, b1, b2, b3, c, cc, hm]
      refine (bad3 ?_).symm
      unfold dimsOk
      rw [if_pos hk10]
      omega
    have h3 : dimsOk x := by
      unfold dimsOk
      rw [if_pos hk10]
      omega
    clear bad3
    obtain rfl : z = false := by rw [← hz, hk10]; rfl
    by_cases c' : x.size = 0
    rotate_left
    · simp [ha, loadE, hb, hel, hnl, b1, b2, b3, c, cc, bneT c', hm]
      refine (bad4 ?_).symm
      unfold sizeOk
      rw [if_neg (by omega)]
      exact c'
    have h4 : sizeOk x := by
      unfold sizeOk
      rw [if_neg (by omega)]
      exact c'
    have h5 : (x.flex = true → x.kind = 10) := fun _ => hk10
    cases hf : x.flex <;> by_cases c6 : (64 : Int) < x.elems.length
    · simp [ha, loadE, hb, hel, hnl, b1, b2, b3, c, cc, c', hf, hm, c6]
      rw [← last (a := a) h3 h4 h5, if_pos c6]
    · simp [ha, loadE, hb, hel, hnl, b1, b2, b3, c, cc, c', hf, hm, c6]
      rw [← last (a := a) h3 h4 h5, if_neg c6]
    · simp [ha, loadE, hb, hel, hnl, b1, b2, b3, c, cc, c', hf, hm, c6]
      rw [← last (a := a) h3 h4 h5, if_pos c6]
    · simp [ha, loadE, hb, hel, hnl, b1, b2, b3, c, cc, c', hf, hm, c6]
      rw [← last (a := a) h3 h4 h5, if_neg c6]
end Go.Proofs.YtheadodblifklaaGreat

namespace Go.Proofs.YtheadodblifklaaGreat
open Go Ax
set_option maxRecDepth 100000
set_option maxHeartbeats 4000000 in
theorem k144 (c : List AVal) (x : Md) (m : AMem) (hx : RMode m c x) : ACalls Tryz.prog 144 [.agg c] m fun v m' => v = .bool (decide (shaped x)) ∧ m <+: m' := by
  obtain ⟨e, nm, rfl, he, hn⟩ := hx
  refine w144 ?_
  have h1 := Sl.one he
  have h2 := Sl.one hn
  have hel := he.len
  have hnl := hn.len
  have hcat : x.kind = 9 ∨ x.kind = 10 ∨ x.kind = 11 ∨ x.kind = 12 ∨ x.kind = 13 ∨ x.kind = 3 ∨ x.kind = 4 ∨ x.kind = 5 ∨ (¬ x.kind = 9 ∧ ¬ x.kind = 10 ∧ ¬ x.kind = 11 ∧ ¬ x.kind = 12 ∧ ¬ x.kind = 13 ∧ ¬ x.kind = 3 ∧ ¬ x.kind = 4 ∧ ¬ x.kind = 5) := by omega
  simp [h1, h2, hel]
  have hb : readB (m ++ [.own [.int .i64 x.kind, .int .i64 x.size, e, nm, .int .i64 x.dims, .bool x.flex] 49 none]) m.length = some [.int .i64 x.kind, .int .i64 x.size, e, nm, .int .i64 x.dims, .bool x.flex] := by simp [readB, ABlk.cells]
  have hm : m <+: m ++ [.own [.int .i64 x.kind, .int .i64 x.size, e, nm, .int .i64 x.dims, .bool x.flex] 49 none] := List.prefix_append _ _
  revert hb hm
  generalize (m ++ [.own [.int .i64 x.kind, .int .i64 x.size, e, nm, .int .i64 x.dims, .bool x.flex] 49 none]) = m1
  intro hb hm
  generalize m.length = b at *
  rcases hcat with h | h | h | h | h | h | h | h | ⟨h9, h10, h11, h12, h13, h3, h4, h5⟩
  iterate 8
    · simp [loadE, hb, hel, hnl, h]
      repeat' (first | refine gP_T ?_ ?_ | refine gP_F ?_ ?_) <;> intro hh <;> have hh' := hh <;> (try simp at hh') <;> (try simp [hh, hh', loadE, hb, hel, hnl, h])
      all_goals simp [shaped, least, most, nNames, dimsOk, sizeOk, h, hm]
      all_goals try simp_all
      all_goals intros
      all_goals first
        | omega
        | (exact absurd ‹_› (hh' (by omega) ‹_› ‹_›))
        | (have := hh' ‹_› ‹_› ‹_›; omega)
        | (exact hh' (by omega) ‹_› ‹_›)
  · simp [loadE, hb, hel, hnl, beqF h9, beqF h10, beqF h11, beqF h12, beqF h13, beqF h3, beqF h4, beqF h5]
    repeat' (first | refine gP_T ?_ ?_ | refine gP_F ?_ ?_) <;> intro hh <;> have hh' := hh <;> (try simp at hh') <;> (try simp [hh, hh', loadE, hb, hel, hnl, beqF h9, beqF h10, beqF h11, beqF h12, beqF h13, beqF h3, beqF h4, beqF h5])
    all_goals simp [shaped, least, most, nNames, dimsOk, sizeOk, h9, h10, h11, h12, h13, h3, h4, h5, hm]
    all_goals simp_all
end Go.Proofs.YtheadodblifklaaGreat

namespace Go.Proofs.YtheadodblifklaaGreat
open Go Ax
set_option maxRecDepth 100000
theorem w105 {args : List AVal} {m : AMem} {R : AVal → AMem → Prop} (h : W Tryz.prog (.seq (.reg [⟨some 6,.P (.mov (.c (.bool false))),none⟩]) (.kill [0,1,2] (.seq (.reg [⟨some 9,.P (.mov (.t 0)),none⟩,⟨some 10,.P (.mov (.t 2)),none⟩,⟨some 11,.P (.iaddr 6 (.t 9) (.t 10)),none⟩,⟨some 12,.R (.load 6 true (.t 11)),none⟩,⟨some 7,.A (.alloc 49 [(.int .i64 0),(.int .i64 0), .nilslice, .nilslice, (.int .i64 0),(.bool false)]),none⟩,⟨none,.W (.store 6 (.t 7) (.t 12)),none⟩]) (.kill [0,1,2,7] (.seq (.seq (.reg [⟨some 13,.P (.faddr 0 (.t 7)),none⟩,⟨some 14,.R (.load 1 false (.t 13)),none⟩,⟨some 15,.P (.bin .neq (.t 14) (.c (.int .i64 10))),none⟩,⟨some 16,.P (.mov (.t 15)),none⟩,⟨some 17,.P (.faddr 0 (.t 7)),(some (16, true))⟩,⟨some 18,.R (.load 1 false (.t 17)),(some (16, true))⟩,⟨some 19,.P (.bin .neq (.t 18) (.c (.int .i64 11))),(some (16, true))⟩,⟨some 20,.P (.pick (.t 16) (.t 19) (.c (.bool false))),none⟩,⟨some 21,.P (.mov (.t 20)),none⟩,⟨some 22,.P (.mov (.t 1)),(some (21, false))⟩,⟨some 23,.P (.mov (.t 2)),(some (21, false))⟩,⟨some 24,.P (.iaddr 1 (.t 22) (.t 23)),(some (21, false))⟩,⟨some 25,.R (.load 1 false (.t 24)),(some (21, false))⟩,⟨some 26,.P (.pick (.t 21) (.c (.bool true)) (.t 25)),none⟩]) (.kill [0,1,2,7,26] (.cond (.t 26) (.seq (.reg [⟨some 6,.P (.mov (.c (.bool false))),none⟩]) .ret) .skip))) (.kill [0,1,2,7] (.seq (.seq (.reg [⟨some 27,.P (.faddr 5 (.t 7)),none⟩,⟨some 28,.R (.load 1 false (.t 27)),none⟩]) (.kill [0,1,2,7,28] (.cond (.t 28) (.seq (.reg [⟨some 6,.P (.mov (.c (.bool true))),none⟩]) .ret) .skip))) (.kill [0,1,2,7] (.seq (.seq (.reg [⟨some 8,.P (.mov (.c (.int .i64 0))),none⟩]) (.block 0 (.kill [0,1,2,7,8] (.loop (.fin [0,1,2,7,8] (.seq (.seq (.reg [⟨some 29,.P (.mov (.t 8)),none⟩,⟨some 30,.P (.faddr 2 (.t 7)),none⟩,⟨some 31,.R (.load 1 false (.t 30)),none⟩,⟨some 32,.P (.len (.t 31)),none⟩,⟨some 33,.P (.bin .lss (.t 29) (.t 32)),none⟩]) (.kill [0,1,2,7,8,33] (.cond (.t 33) .skip (.exit 0)))) (.kill [0,1,2,7,8] (.seq (.block 1 (.seq (.reg [⟨some 36,.P (.mov (.t 0)),none⟩,⟨some 37,.P (.mov (.t 1)),none⟩,⟨some 38,.P (.faddr 2 (.t 7)),none⟩,⟨some 39,.R (.load 1 false (.t 38)),none⟩,⟨some 40,.P (.mov (.t 8)),none⟩,⟨some 41,.P (.iaddr 1 (.t 39) (.t 40)),none⟩,⟨some 42,.R (.load 1 false (.t 41)),none⟩,⟨some 43,.C (.c (.func (.func 105) [] [])) [(.t 36),(.t 37),(.t 42)],none⟩]) (.kill [0,1,2,7,8,43] (.cond (.t 43) (.seq (.reg [⟨some 6,.P (.mov (.c (.bool true))),none⟩]) .ret) .skip)))) (.kill [0,1,2,7,8] (.reg [⟨some 34,.P (.mov (.t 8)),none⟩,⟨some 35,.P (.bin .add (.t 34) (.c (.int .i64 1))),none⟩,⟨some 8,.P (.mov (.t 35)),none⟩])))))))))) (.kill [1,2] (.seq (.reg [⟨some 44,.P (.mov (.t 1)),none⟩,⟨some 45,.P (.mov (.t 2)),none⟩,⟨some 46,.P (.iaddr 1 (.t 44) (.t 45)),none⟩,⟨none,.W (.store 1 (.t 46) (.c (.bool true))),none⟩]) (.kill [] (.seq (.reg [⟨some 6,.P (.mov (.c (.bool false))),none⟩]) .ret))))))))))))) (E [(.tmp 6)] R .mk) .mk (mat 47 (sArgs 0 args)) m) (hl : Nat.ble args.length 47 = true := by rfl) : ACalls Tryz.prog 105 args m R := walk mix (by kernel_rfl) (Nat.le_of_ble_eq_true hl) h
abbrev h105_0 (t0 t1 t2 t7 t8 : AVal) : AFrame := mat 47 [(0, t0),(1, t1),(2, t2),(7, t7),(8, t8)]
theorem w106 {args : List AVal} {m : AMem} {R : AVal → AMem → Prop} (h : W Tryz.prog (.seq (.reg [⟨some 2,.P (.mov (.c .nilslice)),none⟩,⟨some 3,.P (.mov (.c .nilslice)),none⟩,⟨some 4,.P (.mov (.c (.int .i64 0))),none⟩]) (.kill [0] (.seq (.seq (.reg [⟨some 17,.P (.mov (.t 0)),none⟩,⟨some 18,.C (.c (.func (.func 49) [] [])) [(.t 17)],none⟩,⟨some 5,.P (.mov (.t 18)),none⟩]) (.kill [0,5] (.seq (.reg [⟨some 19,.P (.mov (.t 5)),none⟩,⟨some 20,.P (.bin .neq (.t 19) (.c (.int .i64 0))),none⟩]) (.kill [0,5,20] (.cond (.t 20) (.seq (.reg [⟨some 21,.P (.mov (.t 5)),none⟩,⟨some 2,.P (.mov (.c .nilslice)),none⟩,⟨some 3,.P (.mov (.c .nilslice)),none⟩,⟨some 4,.P (.mov (.t 21)),none⟩]) .ret) .skip))))) (.kill [0] (.seq (.reg [⟨some 22,.P (.mov (.t 0)),none⟩,⟨some 23,.C (.c (.func (.func 52) [] [])) [(.t 22)],none⟩,⟨some 6,.P (.mov (.t 23)),none⟩]) (.kill [0,6] (.seq (.reg [⟨some 7,.P (.mov (.c (.int .i64 0))),none⟩]) (.seq (.seq (.reg [⟨some 24,.P (.mov (.t 6)),none⟩,⟨some 25,.P (.len (.t 24)),none⟩,⟨some 26,.P (.mov (.c (.int .i64 0))),none⟩]) (.block 0 (.kill [0,6,7,24,25,26] (.loop (.fin [0,6,7,24,25,26] (.seq (.reg [⟨some 27,.P (.bin .lss (.t 26) (.t 25)),none⟩]) (.seq (.cond (.t 27) .skip (.exit 0)) (.kill [0,6,7,24,25,26] (.seq (.block 1 (.seq (.reg [⟨some 28,.P (.iaddr 1 (.t 24) (.t 26)),none⟩,⟨some 29,.R (.load 1 false (.t 28)),none⟩,⟨some 9,.P (.mov (.t 29)),none⟩]) (.kill [0,6,7,9,24,25,26] (.reg [⟨some 30,.P (.mov (.t 7)),none⟩,⟨some 31,.P (.mov (.t 9)),none⟩,⟨some 32,.P (.bin .add (.t 31) (.c (.int .i64 1))),none⟩,⟨some 33,.P (.max (.t 30) (.t 32)),none⟩,⟨some 7,.P (.mov (.t 33)),none⟩])))) (.kill [0,6,7,24,25,26] (.reg [⟨some 34,.P (.bin .add (.t 26) (.c (.int .i64 1))),none⟩,⟨some 26,.P (.mov (.t 34)),none⟩]))))))))))) (.kill [0,6,7] (.seq (.reg [⟨some 35,.P (.mov (.t 7)),none⟩,⟨some 36,.A (.mkslice 49 80 [(.int .i64 0),(.int .i64 0), .nilslice, .nilslice, (.int .i64 0),(.bool false)] (.t 35) (.t 35)),none⟩,⟨some 10,.P (.mov (.t 36)),none⟩]) (.kill [0,6,10] (.seq (.seq (.reg [⟨some 37,.P (.mov (.t 10)),none⟩,⟨some 38,.P (.len (.t 37)),none⟩,⟨some 39,.P (.mov (.c (.int .i64 0))),none⟩]) (.kill [0,6,10,38,39] (.block 2 (.kill [0,6,10,38,39] (.loop (.fin [0,6,10,38,39] (.seq (.reg [⟨some 40,.P (.bin .lss (.t 39) (.t 38)),none⟩]) (.seq (.cond (.t 40) .skip (.exit 2)) (.kill [0,6,10,38,39] (.seq (.block 3 (.seq (.reg [⟨some 41,.P (.mov (.t 39)),none⟩,⟨some 11,.P (.mov (.t 41)),none⟩]) (.kill [0,6,10,11,38,39] (.seq (.reg [⟨some 42,.P (.mov (.t 6)),none⟩,⟨some 43,.P (.mov (.t 11)),none⟩,⟨some 44,.C (.c (.func (.func 98) [] [])) [(.t 42),(.t 43)],none⟩,⟨some 12,.P (.mov (.t 44)),none⟩]) (.kill [0,6,10,11,12,38,39] (.seq (.reg [⟨some 45,.P (.mov (.t 0)),none⟩,⟨some 46,.P (.mov (.t 12)),none⟩,⟨some 47,.P (.iaddr 6 (.t 45) (.t 46)),none⟩,⟨some 48,.R (.load 6 true (.t 47)),none⟩,⟨some 13,.A (.alloc 49 [(.int .i64 0),(.int .i64 0), .nilslice, .nilslice, (.int .i64 0),(.bool false)]),none⟩,⟨none,.W (.store 6 (.t 13) (.t 48)),none⟩]) (.kill [0,6,10,11,12,13,38,39] (.seq (.reg [⟨some 49,.P (.faddr 3 (.t 13)),none⟩,⟨some 50,.R (.load 1 false (.t 49)),none⟩,⟨some 51,.C (.c (.func (.func 142) [] [])) [(.t 50)],none⟩,⟨some 52,.P (.faddr 3 (.t 13)),none⟩,⟨none,.W (.store 1 (.t 52) (.t 51)),none⟩]) (.kill [0,6,10,11,12,13,38,39] (.seq (.reg [⟨some 53,.P (.faddr 2 (.t 13)),none⟩,⟨some 54,.R (.load 1 false (.t 53)),none⟩,⟨some 14,.P (.mov (.t 54)),none⟩]) (.kill [0,6,10,11,12,13,14,38,39] (.seq (.seq (.reg [⟨some 55,.P (.faddr 0 (.t 13)),none⟩,⟨some 56,.R (.load 1 false (.t 55)),none⟩,⟨some 57,.P (.bin .eql (.t 56) (.c (.int .i64 12))),none⟩]) (.kill [0,6,10,11,12,13,14,38,39,57] (.cond (.t 57) (.seq (.reg [⟨some 58,.P (.mov (.t 0)),none⟩,⟨some 59,.P (.mov (.t 12)),none⟩,⟨some 60,.P (.mov (.t 6)),none⟩,⟨some 61,.C (.c (.func (.func 61) [] [])) [(.t 58),(.t 59),(.t 60)],none⟩,⟨some 14,.P (.mov (.t 61)),none⟩]) (.kill [0,6,10,11,13,14,38,39] (.seq (.reg [⟨some 62,.P (.mov (.t 14)),none⟩,⟨some 63,.P (.len (.t 62)),none⟩,⟨some 64,.P (.bin .lss (.t 63) (.c (.int .i64 2))),none⟩]) (.kill [0,6,10,11,13,14,38,39,64] (.cond (.t 64) (.seq (.reg [⟨some 2,.P (.mov (.c .nilslice)),none⟩,⟨some 3,.P (.mov (.c .nilslice)),none⟩,⟨some 4,.P (.mov (.c (.int .i64 14))),none⟩]) .ret) .skip))))) .skip))) (.kill [0,6,10,11,13,14,38,39] (.seq (.reg [⟨some 65,.P (.faddr 2 (.t 13)),none⟩,⟨none,.W (.store 1 (.t 65) (.c .nilslice)),none⟩]) (.kill [0,6,10,11,13,14,38,39] (.seq (.seq (.reg [⟨some 66,.P (.mov (.t 14)),none⟩,⟨some 67,.P (.len (.t 66)),none⟩,⟨some 68,.P (.mov (.c (.int .i64 0))),none⟩]) (.kill [0,6,10,11,13,38,39,66,67,68] (.block 4 (.kill [0,6,10,11,13,38,39,66,67,68] (.loop (.fin [0,6,10,11,13,38,39,66,67,68] (.seq (.reg [⟨some 69,.P (.bin .lss (.t 68) (.t 67)),none⟩]) (.seq (.cond (.t 69) .skip (.exit 4)) (.kill [0,6,10,11,13,38,39,66,67,68] (.seq (.block 5 (.seq (.reg [⟨some 70,.P (.iaddr 1 (.t 66) (.t 68)),none⟩,⟨some 71,.R (.load 1 false (.t 70)),none⟩,⟨some 16,.P (.mov (.t 71)),none⟩]) (.kill [0,6,10,11,13,16,38,39,66,67,68] (.draw true [⟨some 72,.P (.faddr 2 (.t 13)),none⟩,⟨some 73,.R (.load 1 false (.t 72)),none⟩,⟨some 74,.P (.mov (.t 6)),none⟩,⟨some 75,.P (.mov (.t 16)),none⟩,⟨some 76,.P (.iaddr 1 (.t 74) (.t 75)),none⟩,⟨some 77,.R (.load 1 false (.t 76)),none⟩,⟨some 78,.A (.bslice 3 1 [(.int .i64 0)] [(0, (1, (.t 77)))]),none⟩,⟨some 79,.W (.append 1 8 3 false (.t 73) (.t 78)),none⟩,⟨some 80,.P (.faddr 2 (.t 13)),none⟩,⟨none,.W (.store 1 (.t 80) (.t 79)),none⟩] [[],[],[],[],[],[],[],[6], [6], [6]] [[],[],[],[],[],[],[],[],[],[]] [0,1,2,3,4,5,6,7,8,9])))) (.kill [0,6,10,11,13,38,39,66,67,68] (.reg [⟨some 81,.P (.bin .add (.t 68) (.c (.int .i64 1))),none⟩,⟨some 68,.P (.mov (.t 81)),none⟩])))))))))))) (.kill [0,6,10,11,13,38,39] (.reg [⟨some 82,.P (.mov (.t 10)),none⟩,⟨some 83,.P (.mov (.t 11)),none⟩,⟨some 84,.R (.load 6 true (.t 13)),none⟩,⟨some 85,.P (.iaddr 6 (.t 82) (.t 83)),none⟩,⟨none,.W (.store 6 (.t 85) (.t 84)),none⟩])))))))))))))))))) (.kill [0,6,10,38,39] (.reg [⟨some 86,.P (.bin .add (.t 39) (.c (.int .i64 1))),none⟩,⟨some 39,.P (.mov (.t 86)),none⟩])))))))))))) (.kill [6,10] (.seq (.reg [⟨some 87,.P (.mov (.t 10)),none⟩,⟨some 88,.P (.mov (.t 6)),none⟩,⟨some 2,.P (.mov (.t 87)),none⟩,⟨some 3,.P (.mov (.t 88)),none⟩,⟨some 4,.P (.mov (.c (.int .i64 0))),none⟩]) .ret)))))))))))))) (E [(.tmp 2),(.tmp 3),(.tmp 4)] R .mk) .mk (mat 89 (sArgs 0 args)) m) (hl : Nat.ble args.length 89 = true := by rfl) : ACalls Tryz.prog 106 args m R := walk mix (by kernel_rfl) (Nat.le_of_ble_eq_true hl) h
abbrev h106_0 (t0 t6 t7 t24 t25 t26 : AVal) : AFrame := mat 89 [(0, t0),(6, t6),(7, t7),(24, t24),(25, t25),(26, t26)]
abbrev h106_1 (t0 t6 t10 t38 t39 : AVal) : AFrame := mat 89 [(0, t0),(6, t6),(10, t10),(38, t38),(39, t39)]
abbrev h106_2 (t0 t6 t10 t11 t13 t38 t39 t66 t67 t68 : AVal) : AFrame := mat 89 [(0, t0),(6, t6),(10, t10),(11, t11),(13, t13),(38, t38),(39, t39),(66, t66),(67, t67),(68, t68)]
theorem w107 {args : List AVal} {m : AMem} {R : AVal → AMem → Prop} (h : W Tryz.prog (.seq (.reg [⟨some 5,.P (.mov (.c (.bool false))),none⟩]) (.kill [0,1,2] (.seq (.reg [⟨some 9,.R (.load 1 false (.t 2)),none⟩,⟨some 10,.P (.mov (.t 0)),none⟩,⟨some 11,.P (.mov (.t 1)),none⟩,⟨some 12,.C (.c (.func (.func 108) [] [])) [(.t 9),(.t 10),(.t 11)],none⟩,⟨some 8,.P (.mov (.t 12)),none⟩,⟨some 13,.P (.ext (.t 8) 0),none⟩,⟨some 14,.P (.ext (.t 8) 1),none⟩,⟨some 6,.P (.mov (.t 13)),none⟩,⟨some 7,.P (.mov (.t 14)),none⟩]) (.kill [6] (.seq (.reg [⟨some 15,.P (.mov (.t 6)),none⟩,⟨some 5,.P (.mov (.t 15)),none⟩]) .ret))))) (E [(.tmp 5)] R .mk) .mk (mat 16 (sArgs 0 args)) m) (hl : Nat.ble args.length 16 = true := by rfl) : ACalls Tryz.prog 107 args m R := walk mix (by kernel_rfl) (Nat.le_of_ble_eq_true hl) h
theorem w108 {args : List AVal} {m : AMem} {R : AVal → AMem → Prop} (h : W Tryz.prog (.seq (.reg [⟨some 6,.P (.mov (.c (.bool false))),none⟩,⟨some 7,.P (.mov (.c (.int .i64 0))),none⟩]) (.kill [0,1,2] (.seq (.seq (.reg [⟨some 10,.P (.mov (.t 0)),none⟩,⟨some 11,.P (.mov (.t 1)),none⟩,⟨some 12,.P (.mov (.t 2)),none⟩,⟨some 13,.A (.bslice 3 2 [(.int .i64 0)] [(0, (1, (.t 11))),(1, (1, (.t 12)))]),none⟩,⟨some 14,.C (.c (.func (.func 51) [] [])) [(.t 10),(.t 13)],none⟩,⟨some 8,.P (.mov (.t 14)),none⟩]) (.kill [0,1,2,8] (.seq (.reg [⟨some 15,.P (.mov (.t 8)),none⟩,⟨some 16,.P (.bin .neq (.t 15) (.c (.int .i64 0))),none⟩]) (.kill [0,1,2,8,16] (.cond (.t 16) (.seq (.reg [⟨some 17,.P (.mov (.t 8)),none⟩,⟨some 6,.P (.mov (.c (.bool false))),none⟩,⟨some 7,.P (.mov (.t 17)),none⟩]) .ret) .skip))))) (.kill [0,1,2] (.seq (.reg [⟨some 18,.P (.mov (.t 0)),none⟩,⟨some 19,.C (.c (.func (.func 52) [] [])) [(.t 18)],none⟩,⟨some 9,.P (.mov (.t 19)),none⟩]) (.kill [1,2,9] (.seq (.draw true [⟨some 20,.P (.mov (.t 9)),none⟩,⟨some 21,.P (.mov (.t 1)),none⟩,⟨some 22,.P (.iaddr 1 (.t 20) (.t 21)),none⟩,⟨some 23,.R (.load 1 false (.t 22)),none⟩,⟨some 24,.P (.mov (.t 9)),none⟩,⟨some 25,.P (.mov (.t 2)),none⟩,⟨some 26,.P (.iaddr 1 (.t 24) (.t 25)),none⟩,⟨some 27,.R (.load 1 false (.t 26)),none⟩,⟨some 28,.P (.bin .lss (.t 23) (.t 27)),none⟩,⟨some 6,.P (.mov (.t 28)),none⟩,⟨some 7,.P (.mov (.c (.int .i64 0))),none⟩] [[],[],[],[],[],[],[],[],[],[],[]] [[],[],[],[],[],[],[],[],[],[],[]] [0,1,2,3,4,5,6,7,8,9,10]) .ret))))))) (E [(.tmp 6),(.tmp 7)] R .mk) .mk (mat 29 (sArgs 0 args)) m) (hl : Nat.ble args.length 29 = true := by rfl) : ACalls Tryz.prog 108 args m R := walk mix (by kernel_rfl) (Nat.le_of_ble_eq_true hl) h
theorem w109 {args : List AVal} {m : AMem} {R : AVal → AMem → Prop} (h : W Tryz.prog (.reg [⟨some 4,.P (.mov (.t 0)),none⟩,⟨some 5,.P (.mov (.t 0)),none⟩,⟨some 6,.P (.len (.t 5)),none⟩,⟨some 7,.P (.mov (.t 1)),none⟩,⟨some 8,.C (.c (.func (.func 143) [] [])) [(.t 4),(.t 6),(.t 7)],none⟩]) (E [] R .mk) .mk (mat 9 (sArgs 0 args)) m) (hl : Nat.ble args.length 9 = true := by rfl) : ACalls Tryz.prog 109 args m R := walk mix (by kernel_rfl) (Nat.le_of_ble_eq_true hl) h
theorem w110 {args : List AVal} {m : AMem} {R : AVal → AMem → Prop} (h : W Tryz.prog (.seq (.reg [⟨some 5,.P (.mov (.c (.int .i64 0))),none⟩]) (.kill [0,1,2] (.seq (.block 0 (.seq (.reg [⟨some 7,.R (.load 1 false (.t 2)),none⟩,⟨some 8,.P (.mov (.t 0)),none⟩,⟨some 9,.P (.mov (.t 1)),none⟩,⟨some 10,.C (.t 7) [(.t 8),(.t 9)],none⟩,⟨some 6,.P (.mov (.t 10)),none⟩]) (.kill [0,1,2,6] (.cond (.t 6) (.seq (.reg [⟨some 5,.P (.mov (.c (.int .i64 (-1)))),none⟩]) .ret) (.seq (.reg [⟨some 12,.R (.load 1 false (.t 2)),none⟩,⟨some 13,.P (.mov (.t 1)),none⟩,⟨some 14,.P (.mov (.t 0)),none⟩,⟨some 15,.C (.t 12) [(.t 13),(.t 14)],none⟩,⟨some 11,.P (.mov (.t 15)),none⟩]) (.kill [11] (.cond (.t 11) (.seq (.reg [⟨some 5,.P (.mov (.c (.int .i64 1))),none⟩]) .ret) .skip))))))) (.kill [] (.seq (.reg [⟨some 5,.P (.mov (.c (.int .i64 0))),none⟩]) .ret))))) (E [(.tmp 5)] R .mk) .mk (mat 16 (sArgs 0 args)) m) (hl : Nat.ble args.length 16 = true := by rfl) : ACalls Tryz.prog 110 args m R := walk mix (by kernel_rfl) (Nat.le_of_ble_eq_true hl) h
theorem w111 {args : List AVal} {m : AMem} {R : AVal → AMem → Prop} (h : W Tryz.prog (.seq (.reg [⟨some 2,.A (.box 49 (.t 0)),none⟩,⟨some 4,.P (.mov (.c (.int .i64 0))),none⟩]) (.kill [1,2] (.seq (.seq (.reg [⟨some 9,.P (.faddr 0 (.t 2)),none⟩,⟨some 10,.R (.load 1 false (.t 9)),none⟩,⟨some 11,.P (.bin .lss (.t 10) (.c (.int .i64 0))),none⟩,⟨some 12,.P (.mov (.t 11)),none⟩,⟨some 13,.P (.faddr 0 (.t 2)),(some (12, false))⟩,⟨some 14,.R (.load 1 false (.t 13)),(some (12, false))⟩,⟨some 15,.P (.bin .geq (.t 14) (.c (.int .i64 14))),(some (12, false))⟩,⟨some 16,.P (.pick (.t 12) (.c (.bool true)) (.t 15)),none⟩]) (.kill [1,2,16] (.cond (.t 16) (.seq (.reg [⟨some 4,.P (.mov (.c (.int .i64 13))),none⟩]) .ret) .skip))) (.kill [1,2] (.seq (.seq (.reg [⟨some 17,.R (.load 6 true (.t 2)),none⟩,⟨some 18,.C (.c (.func (.func 144) [] [])) [(.t 17)],none⟩,⟨some 19,.P (.un .not (.t 18)),none⟩]) (.kill [1,2,19] (.cond (.t 19) (.seq (.reg [⟨some 4,.P (.mov (.c (.int .i64 14))),none⟩]) .ret) .skip))) (.kill [1,2] (.seq (.seq (.reg [⟨some 20,.P (.faddr 2 (.t 2)),none⟩,⟨some 21,.R (.load 1 false (.t 20)),none⟩,⟨some 22,.P (.len (.t 21)),none⟩,⟨some 23,.P (.bin .gtr (.t 22) (.c (.int .i64 64))),none⟩]) (.kill [1,2,23] (.cond (.t 23) (.seq (.reg [⟨some 4,.P (.mov (.c (.int .i64 3))),none⟩]) .ret) .skip))) (.kill [1,2] (.seq (.seq (.reg [⟨some 5,.P (.mov (.c (.int .i64 0))),none⟩]) (.block 0 (.kill [1,2,5] (.loop (.fin [1,2,5] (.seq (.seq (.reg [⟨some 24,.P (.mov (.t 5)),none⟩,⟨some 25,.P (.faddr 2 (.t 2)),none⟩,⟨some 26,.R (.load 1 false (.t 25)),none⟩,⟨some 27,.P (.len (.t 26)),none⟩,⟨some 28,.P (.bin .lss (.t 24) (.t 27)),none⟩]) (.kill [1,2,5,28] (.cond (.t 28) .skip (.exit 0)))) (.kill [1,2,5] (.seq (.block 1 (.seq (.reg [⟨some 31,.P (.faddr 2 (.t 2)),none⟩,⟨some 32,.R (.load 1 false (.t 31)),none⟩,⟨some 33,.P (.mov (.t 5)),none⟩,⟨some 34,.P (.iaddr 1 (.t 32) (.t 33)),none⟩,⟨some 35,.R (.load 1 false (.t 34)),none⟩,⟨some 36,.P (.bin .lss (.t 35) (.c (.int .i64 0))),none⟩,⟨some 37,.P (.mov (.t 36)),none⟩,⟨some 38,.P (.faddr 2 (.t 2)),(some (37, false))⟩,⟨some 39,.R (.load 1 false (.t 38)),(some (37, false))⟩,⟨some 40,.P (.mov (.t 5)),(some (37, false))⟩,⟨some 41,.P (.iaddr 1 (.t 39) (.t 40)),(some (37, false))⟩,⟨some 42,.R (.load 1 false (.t 41)),(some (37, false))⟩,⟨some 43,.P (.mov (.t 1)),(some (37, false))⟩,⟨some 44,.P (.bin .geq (.t 42) (.t 43)),(some (37, false))⟩,⟨some 45,.P (.pick (.t 37) (.c (.bool true)) (.t 44)),none⟩]) (.kill [1,2,5,45] (.cond (.t 45) (.seq (.reg [⟨some 4,.P (.mov (.c (.int .i64 11))),none⟩]) .ret) .skip)))) (.kill [1,2,5] (.reg [⟨some 29,.P (.mov (.t 5)),none⟩,⟨some 30,.P (.bin .add (.t 29) (.c (.int .i64 1))),none⟩,⟨some 5,.P (.mov (.t 30)),none⟩])))))))))) (.kill [2] (.seq (.seq (.reg [⟨some 6,.P (.mov (.c (.int .i64 0))),none⟩]) (.block 2 (.kill [2,6] (.loop (.fin [2,6] (.seq (.seq (.reg [⟨some 46,.P (.mov (.t 6)),none⟩,⟨some 47,.P (.faddr 3 (.t 2)),none⟩,⟨some 48,.R (.load 1 false (.t 47)),none⟩,⟨some 49,.P (.len (.t 48)),none⟩,⟨some 50,.P (.bin .lss (.t 46) (.t 49)),none⟩]) (.kill [2,6,50] (.cond (.t 50) .skip (.exit 2)))) (.kill [2,6] (.seq (.block 3 (.seq (.reg [⟨some 53,.P (.faddr 3 (.t 2)),none⟩,⟨some 54,.R (.load 1 false (.t 53)),none⟩,⟨some 55,.P (.mov (.t 6)),none⟩,⟨some 56,.P (.iaddr 1 (.t 54) (.t 55)),none⟩,⟨some 57,.R (.load 1 false (.t 56)),none⟩,⟨some 58,.C (.c (.func (.func 145) [] [])) [(.t 57)],none⟩,⟨some 59,.P (.un .not (.t 58)),none⟩]) (.kill [2,6,59] (.cond (.t 59) (.seq (.reg [⟨some 4,.P (.mov (.c (.int .i64 8))),none⟩]) .ret) .skip)))) (.kill [2,6] (.reg [⟨some 51,.P (.mov (.t 6)),none⟩,⟨some 52,.P (.bin .add (.t 51) (.c (.int .i64 1))),none⟩,⟨some 6,.P (.mov (.t 52)),none⟩])))))))))) (.kill [2] (.seq (.seq (.reg [⟨some 7,.P (.mov (.c (.int .i64 0))),none⟩]) (.block 4 (.kill [2,7] (.loop (.fin [2,7] (.seq (.seq (.reg [⟨some 60,.P (.mov (.t 7)),none⟩,⟨some 61,.P (.faddr 3 (.t 2)),none⟩,⟨some 62,.R (.load 1 false (.t 61)),none⟩,⟨some 63,.P (.len (.t 62)),none⟩,⟨some 64,.P (.bin .lss (.t 60) (.t 63)),none⟩]) (.kill [2,7,64] (.cond (.t 64) .skip (.exit 4)))) (.kill [2,7] (.seq (.block 5 (.seq (.reg [⟨some 8,.P (.mov (.c (.int .i64 0))),none⟩]) (.block 6 (.kill [2,7,8] (.loop (.fin [2,7,8] (.seq (.seq (.reg [⟨some 67,.P (.mov (.t 8)),none⟩,⟨some 68,.P (.mov (.t 7)),none⟩,⟨some 69,.P (.bin .lss (.t 67) (.t 68)),none⟩]) (.kill [2,7,8,69] (.cond (.t 69) .skip (.exit 6)))) (.kill [2,7,8] (.seq (.block 7 (.seq (.draw true [⟨some 72,.P (.faddr 3 (.t 2)),none⟩,⟨some 73,.R (.load 1 false (.t 72)),none⟩,⟨some 74,.P (.mov (.t 7)),none⟩,⟨some 75,.P (.iaddr 1 (.t 73) (.t 74)),none⟩,⟨some 76,.R (.load 1 false (.t 75)),none⟩,⟨some 77,.P (.faddr 3 (.t 2)),none⟩,⟨some 78,.R (.load 1 false (.t 77)),none⟩,⟨some 79,.P (.mov (.t 8)),none⟩,⟨some 80,.P (.iaddr 1 (.t 78) (.t 79)),none⟩,⟨some 81,.R (.load 1 false (.t 80)),none⟩,⟨some 82,.P (.bin .eql (.t 76) (.t 81)),none⟩] [[],[],[],[],[],[],[],[],[],[],[]] [[],[],[],[],[],[],[],[],[],[],[]] [0,1,2,3,4,5,6,7,8,9,10]) (.kill [2,7,8,82] (.cond (.t 82) (.seq (.reg [⟨some 4,.P (.mov (.c (.int .i64 5))),none⟩]) .ret) .skip)))) (.kill [2,7,8] (.reg [⟨some 70,.P (.mov (.t 8)),none⟩,⟨some 71,.P (.bin .add (.t 70) (.c (.int .i64 1))),none⟩,⟨some 8,.P (.mov (.t 71)),none⟩]))))))))))) (.kill [2,7] (.reg [⟨some 65,.P (.mov (.t 7)),none⟩,⟨some 66,.P (.bin .add (.t 65) (.c (.int .i64 1))),none⟩,⟨some 7,.P (.mov (.t 66)),none⟩])))))))))) (.kill [] (.seq (.reg [⟨some 4,.P (.mov (.c (.int .i64 0))),none⟩]) .ret))))))))))))))) (E [(.tmp 4)] R .mk) .mk (mat 83 (sArgs 0 args)) m) (hl : Nat.ble args.length 83 = true := by rfl) : ACalls Tryz.prog 111 args m R := walk mix (by kernel_rfl) (Nat.le_of_ble_eq_true hl) h
abbrev h111_0 (t1 t2 t5 : AVal) : AFrame := mat 83 [(1, t1),(2, t2),(5, t5)]
abbrev h111_1 (t2 t6 : AVal) : AFrame := mat 83 [(2, t2),(6, t6)]
abbrev h111_2 (t2 t7 : AVal) : AFrame := mat 83 [(2, t2),(7, t7)]
abbrev h111_3 (t2 t7 t8 : AVal) : AFrame := mat 83 [(2, t2),(7, t7),(8, t8)]
theorem w112 {args : List AVal} {m : AMem} {R : AVal → AMem → Prop} (h : W Tryz.prog (.seq (.reg [⟨some 6,.P (.mov (.c .nilslice)),none⟩]) (.kill [0,1,2] (.seq (.reg [⟨some 12,.P (.mov (.t 0)),none⟩,⟨some 13,.P (.len (.t 12)),none⟩,⟨some 14,.A (.mkslice 4 1 [(.bool false)] (.t 13) (.t 13)),none⟩,⟨some 7,.P (.mov (.t 14)),none⟩]) (.kill [0,1,2,7] (.seq (.reg [⟨some 15,.P (.mov (.t 1)),none⟩,⟨some 16,.A (.bslice 3 1 [(.int .i64 0)] [(0, (1, (.t 15)))]),none⟩,⟨some 8,.P (.mov (.t 16)),none⟩]) (.kill [0,2,7,8] (.seq (.seq (.reg [⟨some 9,.P (.mov (.c (.int .i64 0))),none⟩]) (.block 0 (.kill [0,2,7,8,9] (.loop (.fin [0,2,7,8,9] (.seq (.seq (.reg [⟨some 17,.P (.mov (.t 9)),none⟩,⟨some 18,.P (.mov (.t 8)),none⟩,⟨some 19,.P (.len (.t 18)),none⟩,⟨some 20,.P (.bin .lss (.t 17) (.t 19)),none⟩]) (.kill [0,2,7,8,9,20] (.cond (.t 20) .skip (.exit 0)))) (.kill [0,2,7,8,9] (.seq (.block 1 (.seq (.reg [⟨some 23,.P (.mov (.t 0)),none⟩,⟨some 24,.P (.mov (.t 8)),none⟩,⟨some 25,.P (.mov (.t 9)),none⟩,⟨some 26,.P (.iaddr 1 (.t 24) (.t 25)),none⟩,⟨some 27,.R (.load 1 false (.t 26)),none⟩,⟨some 28,.P (.iaddr 6 (.t 23) (.t 27)),none⟩,⟨some 29,.R (.load 6 true (.t 28)),none⟩,⟨some 30,.P (.mov (.t 2)),none⟩,⟨some 31,.C (.c (.func (.func 146) [] [])) [(.t 29),(.t 30)],none⟩,⟨some 10,.P (.mov (.t 31)),none⟩]) (.kill [0,2,7,8,9,10] (.seq (.reg [⟨some 11,.P (.mov (.c (.int .i64 0))),none⟩]) (.block 2 (.kill [0,2,7,8,9,10,11] (.loop (.fin [0,2,7,8,9,10,11] (.seq (.seq (.reg [⟨some 32,.P (.mov (.t 11)),none⟩,⟨some 33,.P (.mov (.t 10)),none⟩,⟨some 34,.P (.len (.t 33)),none⟩,⟨some 35,.P (.bin .lss (.t 32) (.t 34)),none⟩]) (.kill [0,2,7,8,9,10,11,35] (.cond (.t 35) .skip (.exit 2)))) (.kill [0,2,7,8,9,10,11] (.seq (.block 3 (.seq (.reg [⟨some 38,.P (.mov (.t 7)),none⟩,⟨some 39,.P (.mov (.t 10)),none⟩,⟨some 40,.P (.mov (.t 11)),none⟩,⟨some 41,.P (.iaddr 1 (.t 39) (.t 40)),none⟩,⟨some 42,.R (.load 1 false (.t 41)),none⟩,⟨some 43,.P (.iaddr 1 (.t 38) (.t 42)),none⟩,⟨some 44,.R (.load 1 false (.t 43)),none⟩,⟨some 45,.P (.un .not (.t 44)),none⟩]) (.kill [0,2,7,8,9,10,11,45] (.cond (.t 45) (.seq (.reg [⟨some 46,.P (.mov (.t 7)),none⟩,⟨some 47,.P (.mov (.t 10)),none⟩,⟨some 48,.P (.mov (.t 11)),none⟩,⟨some 49,.P (.iaddr 1 (.t 47) (.t 48)),none⟩,⟨some 50,.R (.load 1 false (.t 49)),none⟩,⟨some 51,.P (.iaddr 1 (.t 46) (.t 50)),none⟩,⟨none,.W (.store 1 (.t 51) (.c (.bool true))),none⟩]) (.kill [0,2,7,8,9,10,11] (.reg [⟨some 52,.P (.mov (.t 8)),none⟩,⟨some 53,.P (.mov (.t 10)),none⟩,⟨some 54,.P (.mov (.t 11)),none⟩,⟨some 55,.P (.iaddr 1 (.t 53) (.t 54)),none⟩,⟨some 56,.R (.load 1 false (.t 55)),none⟩,⟨some 57,.A (.bslice 3 1 [(.int .i64 0)] [(0, (1, (.t 56)))]),none⟩,⟨some 58,.W (.append 1 8 3 false (.t 52) (.t 57)),none⟩,⟨some 8,.P (.mov (.t 58)),none⟩]))) .skip)))) (.kill [0,2,7,8,9,10,11] (.reg [⟨some 36,.P (.mov (.t 11)),none⟩,⟨some 37,.P (.bin .add (.t 36) (.c (.int .i64 1))),none⟩,⟨some 11,.P (.mov (.t 37)),none⟩]))))))))))))) (.kill [0,2,7,8,9] (.reg [⟨some 21,.P (.mov (.t 9)),none⟩,⟨some 22,.P (.bin .add (.t 21) (.c (.int .i64 1))),none⟩,⟨some 9,.P (.mov (.t 22)),none⟩])))))))))) (.kill [7] (.seq (.reg [⟨some 59,.P (.mov (.t 7)),none⟩,⟨some 6,.P (.mov (.t 59)),none⟩]) .ret))))))))) (E [(.tmp 6)] R .mk) .mk (mat 60 (sArgs 0 args)) m) (hl : Nat.ble args.length 60 = true := by rfl) : ACalls Tryz.prog 112 args m R := walk mix (by kernel_rfl) (Nat.le_of_ble_eq_true hl) h
abbrev h112_0 (t0 t2 t7 t8 t9 : AVal) : AFrame := mat 60 [(0, t0),(2, t2),(7, t7),(8, t8),(9, t9)]
abbrev h112_1 (t0 t2 t7 t8 t9 t10 t11 : AVal) : AFrame := mat 60 [(0, t0),(2, t2),(7, t7),(8, t8),(9, t9),(10, t10),(11, t11)]
theorem w113 {args : List AVal} {m : AMem} {R : AVal → AMem → Prop} (h : W Tryz.prog (.seq (.reg [⟨some 2,.P (.mov (.c (.int .i64 0))),none⟩]) (.kill [0] (.seq (.seq (.reg [⟨some 3,.P (.mov (.t 0)),none⟩]) (.kill [3] (.cond (.t 3) (.seq (.reg [⟨some 2,.P (.mov (.c (.int .i64 1))),none⟩]) .ret) .skip))) (.kill [] (.seq (.reg [⟨some 2,.P (.mov (.c (.int .i64 0))),none⟩]) .ret))))) (E [(.tmp 2)] R .mk) .mk (mat 4 (sArgs 0 args)) m) (hl : Nat.ble args.length 4 = true := by rfl) : ACalls Tryz.prog 113 args m R := walk mix (by kernel_rfl) (Nat.le_of_ble_eq_true hl) h
theorem w114 {args : List AVal} {m : AMem} {R : AVal → AMem → Prop} (h : W Tryz.prog (.seq (.reg [⟨some 4,.P (.mov (.c .nilslice)),none⟩]) (.kill [0,1] (.seq (.reg [⟨some 5,.P (.mov (.c .nilslice)),none⟩]) (.seq (.seq (.reg [⟨some 6,.P (.mov (.c (.int .i64 0))),none⟩]) (.block 0 (.kill [0,1,5,6] (.loop (.fin [0,1,5,6] (.seq (.seq (.reg [⟨some 9,.P (.mov (.t 6)),none⟩,⟨some 10,.P (.mov (.t 0)),none⟩,⟨some 11,.P (.len (.t 10)),none⟩,⟨some 12,.P (.bin .lss (.t 9) (.t 11)),none⟩]) (.kill [0,1,5,6,12] (.cond (.t 12) .skip (.exit 0)))) (.kill [0,1,5,6] (.seq (.block 1 (.seq (.reg [⟨some 7,.P (.mov (.c (.int .i64 0))),none⟩]) (.seq (.block 2 (.kill [0,1,5,6,7] (.loop (.fin [0,1,5,6,7] (.seq (.seq (.draw true [⟨some 15,.P (.mov (.t 7)),none⟩,⟨some 16,.P (.mov (.t 5)),none⟩,⟨some 17,.P (.len (.t 16)),none⟩,⟨some 18,.P (.bin .lss (.t 15) (.t 17)),none⟩,⟨some 19,.P (.mov (.t 18)),none⟩,⟨some 20,.P (.mov (.t 1)),(some (19, true))⟩,⟨some 21,.P (.mov (.t 5)),(some (19, true))⟩,⟨some 22,.P (.mov (.t 7)),(some (19, true))⟩,⟨some 23,.P (.iaddr 1 (.t 21) (.t 22)),(some (19, true))⟩,⟨some 24,.R (.load 1 false (.t 23)),(some (19, true))⟩,⟨some 25,.P (.iaddr 1 (.t 20) (.t 24)),(some (19, true))⟩,⟨some 26,.R (.load 1 false (.t 25)),(some (19, true))⟩,⟨some 27,.P (.mov (.t 1)),(some (19, true))⟩,⟨some 28,.P (.mov (.t 0)),(some (19, true))⟩,⟨some 29,.P (.mov (.t 6)),(some (19, true))⟩,⟨some 30,.P (.iaddr 1 (.t 28) (.t 29)),(some (19, true))⟩,⟨some 31,.R (.load 1 false (.t 30)),(some (19, true))⟩,⟨some 32,.P (.iaddr 1 (.t 27) (.t 31)),(some (19, true))⟩,⟨some 33,.R (.load 1 false (.t 32)),(some (19, true))⟩,⟨some 34,.P (.bin .lss (.t 26) (.t 33)),(some (19, true))⟩,⟨some 35,.P (.pick (.t 19) (.t 34) (.c (.bool false))),none⟩] [[],[],[],[],[],[],[],[],[],[],[],[],[],[],[],[],[],[],[],[],[]] [[],[],[],[],[],[],[],[],[],[],[],[],[],[],[],[],[],[],[],[],[]] [0,1,2,3,4,5,6,7,8,9,10,11,12,13,14,15,16,17,18,19,20]) (.kill [0,1,5,6,7,35] (.cond (.t 35) .skip (.exit 2)))) (.kill [0,1,5,6,7] (.block 3 (.reg [⟨some 36,.P (.mov (.t 7)),none⟩,⟨some 37,.P (.bin .add (.t 36) (.c (.int .i64 1))),none⟩,⟨some 7,.P (.mov (.t 37)),none⟩])))))))) (.kill [0,1,5,6,7] (.seq (.seq (.draw true [⟨some 38,.P (.mov (.t 7)),none⟩,⟨some 39,.P (.mov (.t 5)),none⟩,⟨some 40,.P (.len (.t 39)),none⟩,⟨some 41,.P (.bin .lss (.t 38) (.t 40)),none⟩,⟨some 42,.P (.mov (.t 41)),none⟩,⟨some 43,.P (.mov (.t 1)),(some (42, true))⟩,⟨some 44,.P (.mov (.t 5)),(some (42, true))⟩,⟨some 45,.P (.mov (.t 7)),(some (42, true))⟩,⟨some 46,.P (.iaddr 1 (.t 44) (.t 45)),(some (42, true))⟩,⟨some 47,.R (.load 1 false (.t 46)),(some (42, true))⟩,⟨some 48,.P (.iaddr 1 (.t 43) (.t 47)),(some (42, true))⟩,⟨some 49,.R (.load 1 false (.t 48)),(some (42, true))⟩,⟨some 50,.P (.mov (.t 1)),(some (42, true))⟩,⟨some 51,.P (.mov (.t 0)),(some (42, true))⟩,⟨some 52,.P (.mov (.t 6)),(some (42, true))⟩,⟨some 53,.P (.iaddr 1 (.t 51) (.t 52)),(some (42, true))⟩,⟨some 54,.R (.load 1 false (.t 53)),(some (42, true))⟩,⟨some 55,.P (.iaddr 1 (.t 50) (.t 54)),(some (42, true))⟩,⟨some 56,.R (.load 1 false (.t 55)),(some (42, true))⟩,⟨some 57,.P (.bin .eql (.t 49) (.t 56)),(some (42, true))⟩,⟨some 58,.P (.pick (.t 42) (.t 57) (.c (.bool false))),none⟩] [[],[],[],[],[],[],[],[],[],[],[],[],[],[],[],[],[],[],[],[],[]] [[],[],[],[],[],[],[],[],[],[],[],[],[],[],[],[],[],[],[],[],[]] [0,1,2,3,4,5,6,7,8,9,10,11,12,13,14,15,16,17,18,19,20]) (.kill [0,1,5,6,7,58] (.cond (.t 58) (.seq (.seq (.draw true [⟨some 59,.P (.mov (.t 0)),none⟩,⟨some 60,.P (.mov (.t 6)),none⟩,⟨some 61,.P (.iaddr 1 (.t 59) (.t 60)),none⟩,⟨some 62,.R (.load 1 false (.t 61)),none⟩,⟨some 63,.P (.mov (.t 5)),none⟩,⟨some 64,.P (.mov (.t 7)),none⟩,⟨some 65,.P (.iaddr 1 (.t 63) (.t 64)),none⟩,⟨some 66,.R (.load 1 false (.t 65)),none⟩,⟨some 67,.P (.bin .lss (.t 62) (.t 66)),none⟩] [[],[],[],[],[],[],[],[],[]] [[],[],[],[],[],[],[],[],[]] [0,1,2,3,4,5,6,7,8]) (.kill [0,1,5,6,7,67] (.cond (.t 67) (.reg [⟨some 68,.P (.mov (.t 5)),none⟩,⟨some 69,.P (.mov (.t 7)),none⟩,⟨some 70,.P (.mov (.t 0)),none⟩,⟨some 71,.P (.mov (.t 6)),none⟩,⟨some 72,.P (.iaddr 1 (.t 70) (.t 71)),none⟩,⟨some 73,.R (.load 1 false (.t 72)),none⟩,⟨some 74,.P (.iaddr 1 (.t 68) (.t 69)),none⟩,⟨none,.W (.store 1 (.t 74) (.t 73)),none⟩]) .skip))) (.exit 1)) .skip))) (.kill [0,1,5,6,7] (.seq (.reg [⟨some 75,.A (.bslice 3 0 [(.int .i64 0)] []),none⟩,⟨some 76,.P (.mov (.t 5)),none⟩,⟨some 77,.P (.mov (.t 7)),none⟩,⟨some 78,.P (.slice 1 (.t 76) none (some (.t 77)) none),none⟩,⟨some 79,.W (.append 1 8 3 false (.t 75) (.t 78)),none⟩,⟨some 8,.P (.mov (.t 79)),none⟩]) (.kill [0,1,5,6,7,8] (.seq (.reg [⟨some 80,.P (.mov (.t 8)),none⟩,⟨some 81,.P (.mov (.t 0)),none⟩,⟨some 82,.P (.mov (.t 6)),none⟩,⟨some 83,.P (.iaddr 1 (.t 81) (.t 82)),none⟩,⟨some 84,.R (.load 1 false (.t 83)),none⟩,⟨some 85,.A (.bslice 3 1 [(.int .i64 0)] [(0, (1, (.t 84)))]),none⟩,⟨some 86,.W (.append 1 8 3 false (.t 80) (.t 85)),none⟩,⟨some 8,.P (.mov (.t 86)),none⟩]) (.kill [0,1,5,6,7,8] (.reg [⟨some 87,.P (.mov (.t 8)),none⟩,⟨some 88,.P (.mov (.t 5)),none⟩,⟨some 89,.P (.mov (.t 7)),none⟩,⟨some 90,.P (.slice 1 (.t 88) (some (.t 89)) none none),none⟩,⟨some 91,.W (.append 1 8 3 false (.t 87) (.t 90)),none⟩,⟨some 5,.P (.mov (.t 91)),none⟩]))))))))))) (.kill [0,1,5,6] (.reg [⟨some 13,.P (.mov (.t 6)),none⟩,⟨some 14,.P (.bin .add (.t 13) (.c (.int .i64 1))),none⟩,⟨some 6,.P (.mov (.t 14)),none⟩])))))))))) (.kill [5] (.seq (.reg [⟨some 92,.P (.mov (.t 5)),none⟩,⟨some 4,.P (.mov (.t 92)),none⟩]) .ret)))))) (E [(.tmp 4)] R .mk) .mk (mat 93 (sArgs 0 args)) m) (hl : Nat.ble args.length 93 = true := by rfl) : ACalls Tryz.prog 114 args m R := walk mix (by kernel_rfl) (Nat.le_of_ble_eq_true hl) h
abbrev h114_0 (t0 t1 t5 t6 : AVal) : AFrame := mat 93 [(0, t0),(1, t1),(5, t5),(6, t6)]
abbrev h114_1 (t0 t1 t5 t6 t7 : AVal) : AFrame := mat 93 [(0, t0),(1, t1),(5, t5),(6, t6),(7, t7)]
theorem w115 {args : List AVal} {m : AMem} {R : AVal → AMem → Prop} (h : W Tryz.prog (.seq (.reg [⟨some 4,.P (.mov (.c .nilslice)),none⟩]) (.kill [0,1] (.seq (.reg [⟨some 5,.P (.mov (.c .nilslice)),none⟩]) (.seq (.reg [⟨some 10,.P (.mov (.t 0)),none⟩,⟨some 11,.P (.len (.t 10)),none⟩,⟨some 12,.A (.mkslice 4 1 [(.bool false)] (.t 11) (.t 11)),none⟩,⟨some 6,.P (.mov (.t 12)),none⟩]) (.kill [0,1,5,6] (.seq (.reg [⟨some 13,.P (.mov (.t 1)),none⟩,⟨some 14,.A (.bslice 3 1 [(.int .i64 0)] [(0, (1, (.t 13)))]),none⟩,⟨some 7,.P (.mov (.t 14)),none⟩]) (.kill [0,5,6,7] (.seq (.seq (.reg [⟨some 8,.P (.mov (.c (.int .i64 0))),none⟩]) (.block 0 (.kill [0,5,6,7,8] (.loop (.fin [0,5,6,7,8] (.seq (.seq (.reg [⟨some 15,.P (.mov (.t 8)),none⟩,⟨some 16,.P (.mov (.t 7)),none⟩,⟨some 17,.P (.len (.t 16)),none⟩,⟨some 18,.P (.bin .lss (.t 15) (.t 17)),none⟩]) (.kill [0,5,6,7,8,18] (.cond (.t 18) .skip (.exit 0)))) (.kill [0,5,6,7,8] (.seq (.block 1 (.seq (.reg [⟨some 21,.P (.mov (.t 7)),none⟩,⟨some 22,.P (.mov (.t 8)),none⟩,⟨some 23,.P (.iaddr 1 (.t 21) (.t 22)),none⟩,⟨some 24,.R (.load 1 false (.t 23)),none⟩,⟨some 9,.P (.mov (.t 24)),none⟩]) (.kill [0,5,6,7,8,9] (.seq (.seq (.reg [⟨some 25,.P (.mov (.t 6)),none⟩,⟨some 26,.P (.mov (.t 9)),none⟩,⟨some 27,.P (.iaddr 1 (.t 25) (.t 26)),none⟩,⟨some 28,.R (.load 1 false (.t 27)),none⟩]) (.kill [0,5,6,7,8,9,28] (.cond (.t 28) (.exit 1) .skip))) (.kill [0,5,6,7,8,9] (.seq (.reg [⟨some 29,.P (.mov (.t 6)),none⟩,⟨some 30,.P (.mov (.t 9)),none⟩,⟨some 31,.P (.iaddr 1 (.t 29) (.t 30)),none⟩,⟨none,.W (.store 1 (.t 31) (.c (.bool true))),none⟩]) (.kill [0,5,6,7,8,9] (.seq (.reg [⟨some 32,.P (.mov (.t 0)),none⟩,⟨some 33,.P (.mov (.t 9)),none⟩,⟨some 34,.P (.iaddr 6 (.t 32) (.t 33)),none⟩,⟨some 35,.P (.faddr 0 (.t 34)),none⟩,⟨some 36,.R (.load 1 false (.t 35)),none⟩,⟨some 37,.P (.bin .eql (.t 36) (.c (.int .i64 12))),none⟩]) (.kill [0,5,6,7,8,9,37] (.cond (.t 37) (.reg [⟨some 38,.P (.mov (.t 7)),none⟩,⟨some 39,.P (.mov (.t 0)),none⟩,⟨some 40,.P (.mov (.t 9)),none⟩,⟨some 41,.P (.iaddr 6 (.t 39) (.t 40)),none⟩,⟨some 42,.P (.faddr 2 (.t 41)),none⟩,⟨some 43,.R (.load 1 false (.t 42)),none⟩,⟨some 44,.W (.append 1 8 3 false (.t 38) (.t 43)),none⟩,⟨some 7,.P (.mov (.t 44)),none⟩]) (.reg [⟨some 45,.P (.mov (.t 5)),none⟩,⟨some 46,.P (.mov (.t 9)),none⟩,⟨some 47,.A (.bslice 3 1 [(.int .i64 0)] [(0, (1, (.t 46)))]),none⟩,⟨some 48,.W (.append 1 8 3 false (.t 45) (.t 47)),none⟩,⟨some 5,.P (.mov (.t 48)),none⟩]))))))))))) (.kill [0,5,6,7,8] (.reg [⟨some 19,.P (.mov (.t 8)),none⟩,⟨some 20,.P (.bin .add (.t 19) (.c (.int .i64 1))),none⟩,⟨some 8,.P (.mov (.t 20)),none⟩])))))))))) (.kill [5] (.seq (.reg [⟨some 49,.P (.mov (.t 5)),none⟩,⟨some 4,.P (.mov (.t 49)),none⟩]) .ret)))))))))) (E [(.tmp 4)] R .mk) .mk (mat 50 (sArgs 0 args)) m) (hl : Nat.ble args.length 50 = true := by rfl) : ACalls Tryz.prog 115 args m R := walk mix (by kernel_rfl) (Nat.le_of_ble_eq_true hl) h
abbrev h115_0 (t0 t5 t6 t7 t8 : AVal) : AFrame := mat 50 [(0, t0),(5, t5),(6, t6),(7, t7),(8, t8)]
theorem w116 {args : List AVal} {m : AMem} {R : AVal → AMem → Prop} (h : W Tryz.prog (.seq (.reg [⟨some 4,.P (.mov (.c (.int .i64 0))),none⟩]) (.kill [0,1] (.seq (.seq (.reg [⟨some 7,.P (.mov (.t 0)),none⟩,⟨some 8,.C (.c (.func (.func 70) [] [])) [(.t 7)],none⟩,⟨some 5,.P (.mov (.t 8)),none⟩]) (.kill [0,1,5] (.seq (.reg [⟨some 9,.P (.mov (.t 5)),none⟩,⟨some 10,.P (.bin .neq (.t 9) (.c (.int .i64 0))),none⟩]) (.kill [0,1,5,10] (.cond (.t 10) (.seq (.reg [⟨some 11,.P (.mov (.t 5)),none⟩,⟨some 4,.P (.mov (.t 11)),none⟩]) .ret) .skip))))) (.kill [0,1] (.seq (.seq (.reg [⟨some 6,.P (.mov (.c (.int .i64 0))),none⟩]) (.block 0 (.kill [0,1,6] (.loop (.fin [0,1,6] (.seq (.seq (.reg [⟨some 12,.P (.mov (.t 6)),none⟩,⟨some 13,.P (.mov (.t 1)),none⟩,⟨some 14,.P (.len (.t 13)),none⟩,⟨some 15,.P (.bin .lss (.t 12) (.t 14)),none⟩]) (.kill [0,1,6,15] (.cond (.t 15) .skip (.exit 0)))) (.kill [0,1,6] (.seq (.block 1 (.seq (.reg [⟨some 18,.P (.mov (.t 0)),none⟩,⟨some 19,.P (.mov (.t 1)),none⟩,⟨some 20,.P (.mov (.t 6)),none⟩,⟨some 21,.P (.iaddr 1 (.t 19) (.t 20)),none⟩,⟨some 22,.R (.load 1 false (.t 21)),none⟩,⟨some 23,.C (.c (.func (.func 147) [] [])) [(.t 18),(.t 22)],none⟩,⟨some 24,.P (.un .not (.t 23)),none⟩]) (.kill [0,1,6,24] (.cond (.t 24) (.seq (.reg [⟨some 4,.P (.mov (.c (.int .i64 11))),none⟩]) .ret) .skip)))) (.kill [0,1,6] (.reg [⟨some 16,.P (.mov (.t 6)),none⟩,⟨some 17,.P (.bin .add (.t 16) (.c (.int .i64 1))),none⟩,⟨some 6,.P (.mov (.t 17)),none⟩])))))))))) (.kill [] (.seq (.reg [⟨some 4,.P (.mov (.c (.int .i64 0))),none⟩]) .ret))))))) (E [(.tmp 4)] R .mk) .mk (mat 25 (sArgs 0 args)) m) (hl : Nat.ble args.length 25 = true := by rfl) : ACalls Tryz.prog 116 args m R := walk mix (by kernel_rfl) (Nat.le_of_ble_eq_true hl) h
abbrev h116_0 (t0 t1 t6 : AVal) : AFrame := mat 25 [(0, t0),(1, t1),(6, t6)]
end Go.Proofs.YtheadodblifklaaGreat
namespace Go.Proofs.YtheadodblifklaaGreat
open Go Ax
set_option maxRecDepth 100000
def twiceB (l : List ByteArray) : Bool := (List.range l.length).any fun i => (List.range i).any fun j => sEq (l.getD i .empty) (l.getD j .empty)
theorem twiceB_true {l : List ByteArray} {i j : Nat} (hi : i < l.length) (hj : j < i) (h : sEq l[i] l[j] = true) : twiceB l = true := by
  unfold twiceB
  rw [List.any_eq_true]
  refine ⟨i, by simpa using hi, ?_⟩
  rw [List.any_eq_true]
  refine ⟨j, by simpa using hj, ?_⟩
  have hj' : j < l.length := by omega
  simpa [List.getD, hi, hj'] using h
theorem twiceB_false {l : List ByteArray} (h : ∀ i (hi : i < l.length), ∀ j (hj : j < i), sEq l[i] l[j] = false) : twiceB l = false := by
  rw [← Bool.not_eq_true]
  intro hc
  unfold twiceB at hc
  rw [List.any_eq_true] at hc
  obtain ⟨i, h1, h2⟩ := hc
  rw [List.any_eq_true] at h2
  obtain ⟨j, h3, h4⟩ := h2
  simp only [List.mem_range] at h1 h3
  have h3' : j < l.length := by omega
  simp [List.getD, h1, h3', h i h1 j h3] at h4
def outB (n : Nat) (i : Int) : Bool := !(decide (0 ≤ i) && decide (i < n))
def oneI (x : Md) (n : Nat) : Int :=
  if shapeI x ≠ 0 then shapeI x
  else if x.elems.any (outB n) then 11
  else if x.names.any (fun s => !wordB 97 122 s) then 8
  else if twiceB x.names then 5 else 0
def smallN (x : Md) : Prop := x.elems.length < 2 ^ 62 ∧ x.names.length < 2 ^ 62 ∧ ∀ s ∈ x.names, s.size < 2 ^ 62
theorem any_true {α : Type} {l : List α} {p : α → Bool} {i : Nat} (hi : i < l.length) (h : p l[i] = true) : l.any p = true := List.any_eq_true.2 ⟨_, List.getElem_mem hi, h⟩
theorem any_false {α : Type} {l : List α} {p : α → Bool} (h : ∀ i (hi : i < l.length), p l[i] = false) : l.any p = false := by
  rw [List.any_eq_false]
  intro x hx
  obtain ⟨i, hi, rfl⟩ := List.mem_iff_getElem.1 hx
  rw [h i hi]
  simp
set_option maxHeartbeats 4000000 in
theorem k111 (c : List AVal) (x : Md) (n : Nat) (m : AMem) (hx : RMode m c x) (hs : smallN x) : ACalls Tryz.prog 111 [.agg c, .int .i64 n] m fun v m' => v = .int .i64 (oneI x n) ∧ m <+: m' := by
  have hx0 := hx
  obtain ⟨e, nm, rfl, he, hn⟩ := hx
  refine w111 ?_
  have h1 := Sl.one he
  have h2 := Sl.one hn
  have hel := he.len
  have hnl := hn.len
  simp [h1, h2]
  have hb : readB (m ++ [.own [.int .i64 x.kind, .int .i64 x.size, e, nm, .int .i64 x.dims, .bool x.flex] 49 none]) m.length = some [.int .i64 x.kind, .int .i64 x.size, e, nm, .int .i64 x.dims, .bool x.flex] := by simp [readB, ABlk.cells]
  have hm : m <+: m ++ [.own [.int .i64 x.kind, .int .i64 x.size, e, nm, .int .i64 x.dims, .bool x.flex] 49 none] := List.prefix_append _ _
  revert hb hm
  generalize (m ++ [.own [.int .i64 x.kind, .int .i64 x.size, e, nm, .int .i64 x.dims, .bool x.flex] 49 none]) = m1
  intro hb hm
  generalize m.length = b at *
  by_cases hk : x.kind < 0
  · simp [hk, oneI, shapeI, hm]
  by_cases hk' : 14 ≤ x.kind
  · simp [hk, hk', oneI, shapeI, loadE, hb, hm]
  simp [hk, hk', loadE, hb]
  refine C_of (k144 _ x m1 (hx0.mono hm)) ?_
  rintro _ m2 ⟨rfl, hm2⟩
  replace hb := readB_mono hm2 hb
  replace hm := hm.trans hm2
  have hsh : shapeI x = if shaped x then (if 64 < x.elems.length then 3 else 0) else 14 := by rw [shapeI, if_neg (by omega)]
  simp
  refine bbind_intro (fun h => ?_) fun h => ?_
  · simp at h
    simp [oneI, hsh, h, hm]
  simp at h
  simp [h] at hsh
  simp [loadE, hb, hel]
  refine bbind_dec (fun h => ?_) fun h => ?_
  · simp [oneI, hsh, h, hm]
    rw [if_pos (by omega)]
    simp
    omega
  replace hsh : shapeI x = 0 := by rw [hsh, if_neg (by omega)]
  simp
  generalize hO : oneI x n = O
  replace hO : O = if x.elems.any (outB n) then 11 else if x.names.any (fun s => !wordB 97 122 s) then 8 else if twiceB x.names then 5 else 0 := by rw [← hO, oneI, hsh]; rfl
  refine W_loop (fun q a m' => ∃ k : Nat, k + q = x.elems.length ∧ a = h111_0 (.int .i64 n) (.ptr b 0) (.int .i64 k) ∧ m2 <+: m' ∧ ∀ j (hj : j < x.elems.length), j < k → outB n x.elems[j] = false) x.elems.length ⟨0, by simp⟩ ?_
  rintro q a m3 ⟨k, hk2, rfl, hm3, hinv⟩
  have hb3 := readB_mono hm3 hb
  simp [bx hb3, hel]
  refine bbind_dec (fun h => ?_) fun h => ?_
  · have hlt : k < x.elems.length := by omega
    obtain ⟨b1, o1, hp, hl⟩ := ((he.mono hm).mono hm3).at hlt
    have hw := step64 hlt hs.1
    obtain ⟨q, rfl⟩ : ∃ q', q = q' + 1 := ⟨q - 1, by omega⟩
    have fin : outB n x.elems[k] = true → O = 11 := fun h => by rw [hO, if_pos (any_true hlt h)]
    by_cases c1 : x.elems[k] < 0
    · simp [bx hb3, hel, hp, hl, c1]
      exact ⟨(fin (by simp [outB, c1])).symm, hm.trans hm3⟩
    · by_cases c2 : (n : Int) ≤ x.elems[k]
      · simp [bx hb3, hel, hp, hl, c1, c2]
        exact ⟨(fin (by simp [outB]; omega)).symm, hm.trans hm3⟩
      · simp [bx hb3, hel, hp, hl, c1, c2, hw]
        refine ⟨q, by omega, k + 1, by omega, by simp, hm3, fun j hj hjk => ?_⟩
        by_cases hjk' : j = k
        · subst hjk'; simp [outB]; omega
        · exact hinv j hj (by omega)
  simp
  replace hO : O = if x.names.any (fun s => !wordB 97 122 s) then 8 else if twiceB x.names then 5 else 0 := by
    rw [hO, any_false fun i hi => hinv i hi (by omega)]; rfl
  refine W_loop (fun q a m' => ∃ k : Nat, k + q = x.names.length ∧ a = h111_1 (.ptr b 0) (.int .i64 k) ∧ m2 <+: m' ∧ ∀ j (hj : j < x.names.length), j < k → (!wordB 97 122 x.names[j]) = false) x.names.length ⟨0, by simp [hm3]⟩ ?_
  clear hb3 hm3 hinv h hk2
  rintro q a m3 ⟨k, hk2, rfl, hm3, hinv⟩
  have hb3 := readB_mono hm3 hb
  simp [bx hb3, hnl]
  refine bbind_dec (fun h => ?_) fun h => ?_
  · have hlt : k < x.names.length := by omega
    obtain ⟨b1, o1, hp, hl⟩ := ((hn.mono hm).mono hm3).at hlt
    have hw := step64 hlt hs.2.1
    obtain ⟨q, rfl⟩ : ∃ q', q = q' + 1 := ⟨q - 1, by omega⟩
    have fin : (!wordB 97 122 x.names[k]) = true → O = 8 := fun h => by rw [hO, if_pos (any_true hlt h)]
    simp [bx hb3, hnl, hp, hl]
    refine C_of (k145 x.names[k] m3 (hs.2.2 _ (List.getElem_mem hlt))) ?_
    rintro _ _ ⟨rfl, rfl⟩
    simp
    refine bbind_intro (fun h => ?_) fun h => ?_
    · simp
      exact ⟨(fin h).symm, hm.trans hm3⟩
    · simp [hw]
      refine ⟨q, by omega, k + 1, by omega, by simp, hm3, fun j hj hjk => ?_⟩
      by_cases hjk' : j = k
      · subst hjk'; simpa using h
      · simpa using hinv j hj (by omega)
  simp
  replace hO : O = if twiceB x.names then 5 else 0 := by
    rw [hO, any_false fun i hi => hinv i hi (by omega)]; rfl
  refine W_loop (fun q a m' => ∃ k : Nat, k + q = x.names.length ∧ a = h111_2 (.ptr b 0) (.int .i64 k) ∧ m2 <+: m' ∧ ∀ i (hi : i < x.names.length), i < k → ∀ j (hj : j < i), sEq x.names[i] x.names[j] = false) x.names.length ⟨0, by simp [hm3]⟩ ?_
  clear hb3 hm3 hinv h hk2
  rintro q a m3 ⟨k, hk2, rfl, hm3, hinv⟩
  have hb3 := readB_mono hm3 hb
  simp [bx hb3, hnl]
  refine bbind_dec (fun h => ?_) fun h => ?_
  · have hlt : k < x.names.length := by omega
    have hw := step64 hlt hs.2.1
    obtain ⟨q, rfl⟩ : ∃ q', q = q' + 1 := ⟨q - 1, by omega⟩
    simp
    refine W_loop (fun p a m' => ∃ l : Nat, l + p = k ∧ a = h111_3 (.ptr b 0) (.int .i64 k) (.int .i64 l) ∧ m2 <+: m' ∧ ∀ j (hj : j < k), j < l → sEq x.names[k] x.names[j] = false) k ⟨0, by simp [hm3]⟩ ?_
    rintro p a m4 ⟨l, hl2, rfl, hm4, hinv2⟩
    have hb4 := readB_mono hm4 hb
    simp [bx hb4, hnl]
    refine bbind_dec (fun h => ?_) fun h => ?_
    · have hlt2 : l < k := by omega
      have hlt3 : l < x.names.length := by omega
      have hw2 := step64 hlt3 hs.2.1
      obtain ⟨p, rfl⟩ : ∃ p', p = p' + 1 := ⟨p - 1, by omega⟩
      obtain ⟨b1, o1, hp, hl⟩ := ((hn.mono hm).mono hm4).at hlt
      obtain ⟨b2, o2, hp2, hl2⟩ := ((hn.mono hm).mono hm4).at hlt3
      simp
      refine W_drawPR (by simp [maxDst]) rfl rfl ?_
      simp [bx hb4, hnl, hp, hl, hp2, hl2, binStr]
      intro m5 hm5
      refine bbind_intro (fun h => ?_) fun h => ?_
      · simp
        refine ⟨?_, (hm.trans hm4).trans hm5⟩
        rw [hO, twiceB_true hlt hlt2 h]; rfl
      · simp [hw2]
        refine ⟨p, by omega, l + 1, by omega, by simp, hm4.trans hm5, fun j hj hjk => ?_⟩
        by_cases hjk' : j = l
        · subst hjk'; exact h
        · exact hinv2 j hj (by omega)
    · simp [hw]
      refine ⟨q, by omega, k + 1, by omega, by simp, hm4, fun i hi hik j hj => ?_⟩
      by_cases hik' : i = k
      · subst hik'; exact hinv2 j hj (by omega)
      · exact hinv i hi (by omega) j hj
  simp
  rw [hO, twiceB_false fun i hi j hj => hinv i hi (by omega) j hj]
  exact ⟨rfl, hm.trans hm3⟩
end Go.Proofs.YtheadodblifklaaGreat

namespace Go.Proofs.YtheadodblifklaaGreat
open Go Ax
open Relation
set_option maxRecDepth 100000
set_option maxHeartbeats 4000000 in
theorem k130 (s : AVal) (l : List Md) (i : Nat) (hi : i < l.length) (m : AMem) (hs : RTab m s l) (hg : goodT l) (hn : l.length ≤ 512) (hsz : ∀ x ∈ l, smallN x) (g : FuncId) (fs cs : List AVal) (p : Md → Bool)
    (hf : ∀ c x m', m <+: m' → x ∈ l → RMode m' c x → ACalls Tryz.prog g (fs ++ [.agg c] ++ cs) m' fun v m'' => v = .bool (p x) ∧ m' <+: m'') :
    ACalls Tryz.prog 130 [s, .int .i64 i, .func (.func g) fs cs] m fun v m' => m <+: m' ∧ ∃ S, OwL AVal.bool m.length m' 4 v S ∧ S.length = l.length ∧ ∀ j, S[j]? = some true ↔ TransGen (stepR l p) i j := by
  refine w130 ?_
  have hc1 : (l.length : Int) ≤ 281474976710656 := by omega
  have hc2 : (l.length : Int) ≤ 9223372036854775807 := by omega
  simp [hs.len, hc1, hc2]
  have hS0 := OwL.rep (f := AVal.bool) m 4 l.length false
  have hm1 : m <+: m ++ [.own (List.replicate l.length (.bool false)) 4 none] := List.prefix_append _ _
  have ha : (AVal.slice m.length 0 l.length l.length none).blk = some m.length := rfl
  revert hS0 hm1 ha
  generalize AVal.slice m.length 0 l.length l.length none = t7
  generalize hm1' : m ++ [.own (List.replicate l.length (.bool false)) 4 none] = m1
  intro hS0 hm1 ha
  have hl1 : m1.length = m.length + 1 := by rw [← hm1']; simp
  have hQ0 := OwL.new (f := natI) m1 3 [i]
  simp [setN, fillA] at hQ0 ⊢
  obtain ⟨I, hI⟩ : ∃ I : Nat → AFrame → AMem → Prop, ∀ n a m', I n a m' ↔ (∃ S Q t7 t8, cntF S + Q.length = n ∧ a = h130_0 s (.func (.func g) fs cs) t7 t8 ∧ m <+: m' ∧ OwL AVal.bool m.length m' 4 t7 S ∧ OwL natI m.length m' 3 t8 Q ∧ (∀ b, t7.blk = some b → t8.blk ≠ some b) ∧ RInv l p i S Q ∧ n ≤ l.length + 1) := ⟨_, fun _ _ _ => Iff.rfl⟩
  refine W_loop I (l.length + 1) ((hI _ _ _).2 ⟨List.replicate l.length false, [i], t7, _, ?_, rfl, hm1.trans (List.prefix_append _ _), hS0.mono (List.prefix_append _ _), OwL.lo' hQ0 (by omega), ?_, RInv.init hi, by omega⟩) ?_
  · simp [cntF]
  · intro b hb
    rw [ha] at hb
    cases hb
    simp [AVal.blk, hl1]
  rintro n a m2 hIn
  obtain ⟨S, Q, t7, t8, hcnt, rfl, hm2, hS, hQ, hap, hinv, hnn⟩ := (hI _ _ _).1 hIn
  clear hIn
  simp [hQ.len]
  refine bbind_dec (fun h => ?_) fun h => ?_
  · have hq0 : Q ≠ [] := by rintro rfl; simp at h
    have hql : Q.length - 1 < Q.length := by have := List.length_pos_iff.2 hq0; omega
    have hx := hinv.q Q[Q.length - 1] (List.getElem_mem hql)
    obtain ⟨b8, o8, _, h2, h3, _⟩ := hQ.at hql
    have hp := pred64 (n := Q.length) (by omega) (by omega)
    obtain ⟨bx', ox, c, h4, h5, _, _, h6⟩ := hs.atC hx.1
    replace h5 := loadE_mono hm2 h5
    obtain ⟨t8', h7, h8, h9⟩ := hQ.take (i := Q.length - 1) (by omega)
    simp [hp, h2, h3, h4, h5, h7, hQ.len]
    have hcl := h6.all
    rw [store_new _ _ c _ _ 6 hcl.1 rfl hcl.2]
    have hb := readB_new m2 c 49 none
    have hm3 : m2 <+: m2 ++ [.own c 49 none] := List.prefix_append _ _
    revert hb hm3
    generalize m2 ++ [.own c 49 none] = m3
    generalize m2.length = b9
    intro hb hm3
    obtain ⟨e, nm, c0, c1, c2, c3, c4, c5, he, hnm, rfl⟩ := h6.get
    generalize hq : Q[Q.length - 1] = x at *
    have hQ' : ∀ z, z ∈ Q ↔ z ∈ Q.take (Q.length - 1) ∨ z = x := by
      intro z
      have : Q = Q.take (Q.length - 1) ++ [x] := by
        rw [← hq]
        refine List.ext_getElem? fun j => ?_
        by_cases hj : j < Q.length - 1
        · rw [List.getElem?_append_left (by simp; omega), List.getElem?_take, if_pos hj]
        · by_cases hj2 : j = Q.length - 1
          · subst hj2
            rw [List.getElem?_append_right (by simp), List.getElem?_eq_getElem hql]
            simp
          · rw [List.getElem?_eq_none (by omega), List.getElem?_eq_none (by simp; omega)]
      conv => lhs; rw [this]
      simp
    have hlx : l[x]? = some l[x] := List.getElem?_eq_getElem hx.1
    have hxm : l[x] ∈ l := List.getElem_mem hx.1
    simp [hp, h7, hQ.len, bxW hb]
    have hcall := hf _ _ m3 (hm2.trans hm3) hxm (h6.mono (hm2.trans hm3))
    simp at hcall
    refine C_of hcall ?_
    rintro _ m4 ⟨rfl, hm4⟩
    simp
    replace hb := readB_mono hm4 hb
    have hm24 : m2 <+: m4 := hm3.trans hm4
    have hS4 := hS.mono hm24
    have hQ4 := OwL.mono h8 hm24
    have hmu : cntF S + (Q.take (Q.length - 1)).length + 1 = n := by rw [List.length_take]; omega
    refine bbind_intro (fun hpx => ?_) fun hpx => ?_
    · simp
      exact ⟨cntF S + (Q.take (Q.length - 1)).length, by omega, (hI _ _ _).2 ⟨S, Q.take (Q.length - 1), t7, t8', rfl, rfl, hm2.trans hm24, hS4, hQ4, by rw [h9]; exact hap, hinv.skip hQ' hlx (by simpa using hpx), by omega⟩⟩
    simp [bx hb, he.len]
    have hin := hinv.enter hQ' hlx (by simpa using hpx)
    have hap' : ∀ b, t7.blk = some b → t8'.blk ≠ some b := by rw [h9]; exact hap
    have hms := hm2.trans hm24
    generalize hQQ : Q.take (Q.length - 1) = Q1 at *
    obtain ⟨I2, hI2⟩ : ∃ I : Nat → AFrame → AMem → Prop, ∀ q a m', I q a m' ↔ (∃ k S Q t7 t8, k + q = l[x].elems.length ∧ a = h130_1 s (.func (.func g) fs cs) t7 t8 e (.int .i64 l[x].elems.length) (.int .i64 (k : Nat)) ∧ m <+: m' ∧ OwL AVal.bool m.length m' 4 t7 S ∧ OwL natI m.length m' 3 t8 Q ∧ (∀ b, t7.blk = some b → t8.blk ≠ some b) ∧ RIn l p i S Q x k ∧ cntF S + Q.length + 1 = n) := ⟨_, fun _ _ _ => Iff.rfl⟩
    refine W_loop I2 l[x].elems.length ((hI2 _ _ _).2 ⟨0, S, Q1, t7, t8', by simp, rfl, hms, hS4, hQ4, hap', hin, hmu⟩) ?_
    clear hin hmu hQ4 hS4 hms hap' hQQ hQ' hinv hQ hS h8 h9 h7 hap hb
    rintro q a m5 hIn
    obtain ⟨k, S, Q, t7, t8, hk, rfl, hm5, hS, hQ, hap, hin, hmu⟩ := (hI2 _ _ _).1 hIn
    clear hIn
    simp
    refine bbind_dec (fun h => ?_) fun h => ?_
    · obtain ⟨b1, o1, hp1, hl1⟩ := (he.mono hm5).at h
      have hgx := hg _ hxm _ (List.getElem_mem h)
      have hee : l[x].elems[k]? = some l[x].elems[k] := List.getElem?_eq_getElem h
      have hw := step64 h (hsz _ hxm).1
      obtain ⟨q, rfl⟩ : ∃ q', q = q' + 1 := ⟨q - 1, by omega⟩
      revert hl1 hgx hee
      generalize l[x].elems[k] = ek
      intro hl1 hgx hee
      obtain ⟨j, rfl⟩ : ∃ j : Nat, ek = j := ⟨ek.toNat, by omega⟩
      have hj : j < S.length := by rw [hin.len]; omega
      obtain ⟨b7, o7, hb7, hp7, hl7, hst7⟩ := hS.at hj
      simp [hp1, hl1, hp7, hl7]
      refine bbind_intro (fun hsj => ?_) fun hsj => ?_
      · have hsj : S[j]? = some false := by rw [List.getElem?_eq_getElem hj]; simpa using hsj
        obtain ⟨m6, hst, hch6, hS6⟩ := hst7 true
        have hb7' := hS.blk_lo hb7
        have hm6 : m <+: m6 := hch6.pre hm5 (fun b hb => by omega)
        have hQ6 := hQ.ch hch6 (fun b hb hbb => hap b7 hb7 (by rw [← hbb]; exact hb))
        have hcf := cntF_set hsj
        simp [hp7, hst, fillA, setN]
        have hm7 : m6 <+: m6 ++ [.own [.int .i64 (j : Int)] 3 none] := List.prefix_append _ _
        obtain ⟨t8'', m8, happ, hch8, hQ8, hbl⟩ := (hQ6.mono hm7).push (by simp; have := hm6.length_le; omega) (by_ := 8) (by decide) j (by omega)
        simp only [natI] at happ
        simp [happ, hw]
        have hlo8 : ∀ b, t8.blk = some b → ¬ b < m.length := fun b hb hlt => by have := (hQ.blk_lo hb).1; omega
        refine ⟨q, by omega, (hI2 _ _ _).2 ⟨k + 1, S.set j true, Q ++ [j], t7, t8'', by omega, by simp, ?_, ?_, hQ8, ?_, ?_, ?_⟩⟩
        · exact hch8.pre (hm6.trans hm7) (fun b hb hbb => hlo8 b hbb hb)
        · exact (hS6.mono hm7).ch hch8 (fun b hb hbb => hap b hb hbb)
        · intro b hb hbb
          rcases hbl b hbb with h1 | h1
          · exact hap b hb h1
          · have := (hS6.blk_lo hb).2
            simp at h1
            omega
        · have := hin.unseen hg hlx hee
          simpa using this
        · simp; omega
      · simp [hw]
        refine ⟨q, by omega, (hI2 _ _ _).2 ⟨k + 1, S, Q, t7, t8, by omega, by simp, hm5, hS, hQ, hap, ?_, hmu⟩⟩
        refine hin.seen hlx hee ?_
        rw [Int.toNat_natCast, List.getElem?_eq_getElem hj]
        simpa using hsj
    · simp
      refine ⟨n - 1, by omega, (hI _ _ _).2 ⟨S, Q, t7, t8, by omega, by simp, hm5, hS, hQ, hap, hin.leave fun y hy => ?_, by omega⟩⟩
      rw [hlx] at hy; cases hy
      omega
  · obtain rfl : Q = [] := by
      cases Q with
      | nil => rfl
      | cons _ _ => simp at h
    simp
    exact ⟨hm2, S, hS, hinv.len, hinv.done⟩
end Go.Proofs.YtheadodblifklaaGreat

namespace Go.Proofs.YtheadodblifklaaGreat
open Go Ax
open Relation
set_option maxRecDepth 100000
def stepsP (av : Int) (x : Md) : Bool := !((av == 1 && yinB x) || (av == 2 && yangB x))
set_option maxHeartbeats 4000000 in
theorem k146 (c : List AVal) (x : Md) (av : Int) (m : AMem) (hx : RMode m c x) : ACalls Tryz.prog 146 [.agg c, .int .i64 av] m fun v m' => m <+: m' ∧ ∀ e, c[2]? = some e → v = if stepsP av x then e else .nilslice := by
  obtain ⟨e, nm, rfl, he, hn⟩ := hx
  refine w146 ?_
  have h1 := Sl.one he
  have h2 := Sl.one hn
  have hel := he.len
  simp [h1, h2]
  have hb := readB_new m [.int .i64 x.kind, .int .i64 x.size, e, nm, .int .i64 x.dims, .bool x.flex] 49 none
  have hm : m <+: m ++ [.own [.int .i64 x.kind, .int .i64 x.size, e, nm, .int .i64 x.dims, .bool x.flex] 49 none] := List.prefix_append _ _
  revert hb hm
  generalize (m ++ [.own [.int .i64 x.kind, .int .i64 x.size, e, nm, .int .i64 x.dims, .bool x.flex] 49 none]) = m1
  intro hb hm
  generalize m.length = b at *
  have hcat : x.kind = 9 ∨ (x.kind = 13 ∧ 1 < x.elems.length) ∨ (x.kind = 13 ∧ ¬ 1 < x.elems.length) ∨ x.kind = 11 ∨ (¬ x.kind = 9 ∧ ¬ x.kind = 11 ∧ ¬ x.kind = 13) := by omega
  rcases hcat with h | ⟨h, h'⟩ | ⟨h, h'⟩ | h | ⟨h, h', h''⟩
  · by_cases c1 : av = 1
    · simp [bx hb, h, c1, stepsP, yinB, yangB, hm]
    · by_cases c2 : av = 2
      · simp [bx hb, h, c1, c2, beqF c1, stepsP, yinB, yangB, hm]
      · simp [bx hb, h, c1, c2, beqF c1, beqF c2, stepsP, yinB, yangB, hm]
  · have h'' : (1 : Int) < x.elems.length := by omega
    by_cases c1 : av = 1
    · simp [bx hb, h, h', h'', hel, c1, stepsP, yinB, yangB, hm]
    · by_cases c2 : av = 2
      · simp [bx hb, h, h', h'', hel, c1, c2, beqF c1, stepsP, yinB, yangB, hm]
      · simp [bx hb, h, h', h'', hel, c1, c2, beqF c1, beqF c2, stepsP, yinB, yangB, hm]
  · have h'' : ¬ (1 : Int) < x.elems.length := by omega
    by_cases c1 : av = 1
    · simp [bx hb, h, h', h'', hel, c1, stepsP, yinB, yangB, hm]
    · by_cases c2 : av = 2
      · simp [bx hb, h, h', h'', hel, c1, c2, beqF c1, stepsP, yinB, yangB, hm]
      · simp [bx hb, h, h', h'', hel, c1, c2, beqF c1, beqF c2, stepsP, yinB, yangB, hm]
  · by_cases c1 : av = 1
    · simp [bx hb, h, c1, stepsP, yinB, yangB, hm]
    · by_cases c2 : av = 2
      · simp [bx hb, h, c1, c2, beqF c1, stepsP, yinB, yangB, hm]
      · simp [bx hb, h, c1, c2, beqF c1, beqF c2, stepsP, yinB, yangB, hm]
  · by_cases c1 : av = 1
    · simp [bx hb, h, h', h'', beqF h, beqF h', beqF h'', c1, stepsP, yinB, yangB, hm]
    · by_cases c2 : av = 2
      · simp [bx hb, h, h', h'', beqF h, beqF h', beqF h'', c1, c2, beqF c1, stepsP, yinB, yangB, hm]
      · simp [bx hb, h, h', h'', beqF h, beqF h', beqF h'', c1, c2, beqF c1, beqF c2, stepsP, yinB, yangB, hm]
set_option maxHeartbeats 4000000 in
theorem k112 (s : AVal) (l : List Md) (i : Nat) (av : Int) (hi : i < l.length) (m : AMem) (hs : RTab m s l) (hg : goodT l) (hn : l.length ≤ 512) (hsz : ∀ x ∈ l, smallN x) :
    ACalls Tryz.prog 112 [s, .int .i64 i, .int .i64 av] m fun v m' => m <+: m' ∧ ∃ S, OwL AVal.bool m.length m' 4 v S ∧ S.length = l.length ∧ ∀ j, S[j]? = some true ↔ TransGen (stepR l (stepsP av)) i j := by
  refine w112 ?_
  generalize hp : stepsP av = p
  have hc1 : (l.length : Int) ≤ 281474976710656 := by omega
  have hc2 : (l.length : Int) ≤ 9223372036854775807 := by omega
  simp [hs.len, hc1, hc2]
  have hS0 := OwL.rep (f := AVal.bool) m 4 l.length false
  have hm1 : m <+: m ++ [.own (List.replicate l.length (.bool false)) 4 none] := List.prefix_append _ _
  have ha : (AVal.slice m.length 0 l.length l.length none).blk = some m.length := rfl
  revert hS0 hm1 ha
  generalize AVal.slice m.length 0 l.length l.length none = t7
  generalize hm1' : m ++ [.own (List.replicate l.length (.bool false)) 4 none] = m1
  intro hS0 hm1 ha
  have hl1 : m1.length = m.length + 1 := by rw [← hm1']; simp
  have hQ0 := OwL.new (f := natI) m1 3 [i]
  simp [setN, fillA] at hQ0 ⊢
  obtain ⟨I, hI⟩ : ∃ I : Nat → AFrame → AMem → Prop, ∀ n a m', I n a m' ↔ (∃ S Q t7 t8 z, cntF S + (Q.drop z).length = n ∧ a = h112_0 s (.int .i64 av) t7 t8 (.int .i64 (z : Nat)) ∧ m <+: m' ∧ OwL AVal.bool m.length m' 4 t7 S ∧ OwL natI m.length m' 3 t8 Q ∧ (∀ b, t7.blk = some b → t8.blk ≠ some b) ∧ RInv l p i S (Q.drop z) ∧ cntF S + Q.length = l.length + 1) := ⟨_, fun _ _ _ => Iff.rfl⟩
  refine W_loop I (l.length + 1) ((hI _ _ _).2 ⟨List.replicate l.length false, [i], t7, _, 0, ?_, rfl, hm1.trans (List.prefix_append _ _), hS0.mono (List.prefix_append _ _), OwL.lo' hQ0 (by omega), ?_, RInv.init hi, ?_⟩) ?_
  · simp [cntF]
  · intro b hb
    rw [ha] at hb
    cases hb
    simp [AVal.blk, hl1]
  · simp [cntF]
  rintro n a m2 hIn
  obtain ⟨S, Q, t7, t8, z, hcnt, rfl, hm2, hS, hQ, hap, hinv, hnn⟩ := (hI _ _ _).1 hIn
  clear hIn
  simp [hQ.len]
  refine bbind_dec (fun h => ?_) fun h => ?_
  · have hql : z < Q.length := h
    have hdrop : Q.drop z = Q[z] :: Q.drop (z + 1) := List.drop_eq_getElem_cons hql
    have hx := hinv.q Q[z] (by rw [hdrop]; exact List.mem_cons_self)
    obtain ⟨b8, o8, _, h2, h3, _⟩ := hQ.at hql
    obtain ⟨bx', ox, c, h4, h5, _, _, h6⟩ := hs.atC hx.1
    replace h5 := loadE_mono hm2 h5
    simp [h2, h3, h4, h5, hQ.len]
    generalize hq : Q[z] = x at *
    have hQ' : ∀ w, w ∈ Q.drop z ↔ w ∈ Q.drop (z + 1) ∨ w = x := by
      intro w
      rw [hdrop, List.mem_cons]
      exact Or.comm
    have hlx : l[x]? = some l[x] := List.getElem?_eq_getElem hx.1
    have hxm : l[x] ∈ l := List.getElem_mem hx.1
    refine C_of (k146 _ _ av m2 (h6.mono hm2)) ?_
    rintro e m4 ⟨hm24, he0⟩
    have hms := hm2.trans hm24
    obtain ⟨e0, nm, c0, c1, c2, c3, c4, c5, he, hnm, rfl⟩ := h6.get
    replace he0 := he0 e0 rfl
    rw [hp] at he0
    simp
    have hS4 := hS.mono hm24
    have hQ4 := hQ.mono hm24
    have hdl : (Q.drop z).length = (Q.drop (z + 1)).length + 1 := by rw [hdrop]; rfl
    have hw0 := step64 (k := z) (n := Q.length) h (by omega)
    by_cases hpx : p l[x] = true
    rotate_left
    · have hpx : p l[x] = false := by simpa using hpx
      rw [hpx] at he0
      simp at he0
      subst he0
      refine W_loop (fun n a m' => a = h112_1 s (.int .i64 av) t7 t8 (.int .i64 z) .nilslice (.int .i64 0) ∧ m' = m4) 0 ⟨rfl, rfl⟩ ?_
      rintro q a m5 ⟨rfl, rfl⟩
      simp [hw0]
      exact ⟨cntF S + (Q.drop (z + 1)).length, by omega, (hI _ _ _).2 ⟨S, Q, t7, t8, z + 1, rfl, by simp, hms, hS4, hQ4, hap, hinv.skip hQ' hlx hpx, by omega⟩⟩
    rw [hpx] at he0
    simp at he0
    subst he0
    have hin := hinv.enter hQ' hlx hpx
    have hmu : cntF S + (Q.drop (z + 1)).length + 1 = n := by omega
    obtain ⟨I2, hI2⟩ : ∃ I : Nat → AFrame → AMem → Prop, ∀ q a m', I q a m' ↔ (∃ k S Q t7 t8, k + q = l[x].elems.length ∧ a = h112_1 s (.int .i64 av) t7 t8 (.int .i64 z) e (.int .i64 (k : Nat)) ∧ m <+: m' ∧ OwL AVal.bool m.length m' 4 t7 S ∧ OwL natI m.length m' 3 t8 Q ∧ (∀ b, t7.blk = some b → t8.blk ≠ some b) ∧ RIn l p i S (Q.drop (z + 1)) x k ∧ cntF S + (Q.drop (z + 1)).length + 1 = n ∧ cntF S + Q.length = l.length + 1 ∧ z < Q.length) := ⟨_, fun _ _ _ => Iff.rfl⟩
    refine W_loop I2 l[x].elems.length ((hI2 _ _ _).2 ⟨0, S, Q, t7, t8, by simp, rfl, hms, hS4, hQ4, hap, hin, hmu, hnn, h⟩) ?_
    clear hin hmu hQ4 hS4 hS hap
    rintro q a m5 hIn
    obtain ⟨k, S, Q, t7, t8, hk, rfl, hm5, hS, hQ, hap, hin, hmu, hnn, hzq⟩ := (hI2 _ _ _).1 hIn
    clear hIn
    simp [(he.mono hm5).len]
    refine bbind_dec (fun h => ?_) fun h => ?_
    · obtain ⟨b1, o1, hp1, hl1⟩ := (he.mono hm5).at h
      have hgx := hg _ hxm _ (List.getElem_mem h)
      have hee : l[x].elems[k]? = some l[x].elems[k] := List.getElem?_eq_getElem h
      have hw := step64 h (hsz _ hxm).1
      obtain ⟨q, rfl⟩ : ∃ q', q = q' + 1 := ⟨q - 1, by omega⟩
      have hl1' : ∀ m', m <+: m' → loadE m' 1 false (.ptr b1 o1) = some (.int .i64 l[x].elems[k]) := fun m' hm' => by
        obtain ⟨b2, o2, hp2, hl2⟩ := (he.mono hm').at h
        obtain ⟨rfl, rfl⟩ : b2 = b1 ∧ o2 = o1 := by have := (hp2 .i64).symm.trans (hp1 .i64); simpa using this
        exact hl2
      revert hl1 hl1' hgx hee
      generalize l[x].elems[k] = ek
      intro hl1 hgx hee hl1'
      obtain ⟨j, rfl⟩ : ∃ j : Nat, ek = j := ⟨ek.toNat, by omega⟩
      have hj : j < S.length := by rw [hin.len]; omega
      obtain ⟨b7, o7, hb7, hp7, hl7, hst7⟩ := hS.at hj
      simp [hp1, hl1, hp7, hl7]
      refine bbind_intro (fun hsj => ?_) fun hsj => ?_
      · have hsj : S[j]? = some false := by rw [List.getElem?_eq_getElem hj]; simpa using hsj
        obtain ⟨m6, hst, hch6, hS6⟩ := hst7 true
        have hb7' := hS.blk_lo hb7
        have hm6 : m <+: m6 := hch6.pre hm5 (fun b hb => by omega)
        have hQ6 := hQ.ch hch6 (fun b hb hbb => hap b7 hb7 (by rw [← hbb]; exact hb))
        have hcf := cntF_set hsj
        have hl16 := hl1' m6 hm6
        simp [hp1, hl1, hp7, hst, hl16, fillA, setN]
        have hm7 : m6 <+: m6 ++ [.own [.int .i64 (j : Int)] 3 none] := List.prefix_append _ _
        obtain ⟨t8'', m8, happ, hch8, hQ8, hbl⟩ := (hQ6.mono hm7).push (by simp; have := hm6.length_le; omega) (by_ := 8) (by decide) j (by omega)
        simp only [natI] at happ
        simp [happ, hw]
        have hlo8 : ∀ b, t8.blk = some b → ¬ b < m.length := fun b hb hlt => by have := (hQ.blk_lo hb).1; omega
        have hdd : (Q ++ [j]).drop (z + 1) = Q.drop (z + 1) ++ [j] := List.drop_append_of_le_length (by omega)
        refine ⟨q, by omega, (hI2 _ _ _).2 ⟨k + 1, S.set j true, Q ++ [j], t7, t8'', by omega, by simp, ?_, ?_, hQ8, ?_, ?_, ?_, ?_, ?_⟩⟩
        · exact hch8.pre (hm6.trans hm7) (fun b hb hbb => hlo8 b hbb hb)
        · exact (hS6.mono hm7).ch hch8 (fun b hb hbb => hap b hb hbb)
        · intro b hb hbb
          rcases hbl b hbb with h1 | h1
          · exact hap b hb h1
          · have := (hS6.blk_lo hb).2
            simp at h1
            omega
        · have := hin.unseen hg hlx hee
          rw [hdd]
          simpa using this
        · rw [hdd, List.length_append, List.length_singleton]; omega
        · rw [List.length_append, List.length_singleton]; omega
        · rw [List.length_append, List.length_singleton]; omega
      · simp [hw]
        refine ⟨q, by omega, (hI2 _ _ _).2 ⟨k + 1, S, Q, t7, t8, by omega, by simp, hm5, hS, hQ, hap, ?_, hmu, hnn, hzq⟩⟩
        refine hin.seen hlx hee ?_
        rw [Int.toNat_natCast, List.getElem?_eq_getElem hj]
        simpa using hsj
    · have hw0 := step64 (k := z) (n := Q.length) hzq (by omega)
      simp [hw0]
      refine ⟨n - 1, by omega, (hI _ _ _).2 ⟨S, Q, t7, t8, z + 1, by omega, by simp, hm5, hS, hQ, hap, hin.leave fun y hy => ?_, by omega⟩⟩
      rw [hlx] at hy; cases hy
      omega
  · have hd : Q.drop z = [] := List.drop_eq_nil_of_le (by omega)
    rw [hd] at hinv
    simp
    exact ⟨hm2, S, hS, hinv.len, hinv.done⟩
end Go.Proofs.YtheadodblifklaaGreat

namespace Go.Proofs.YtheadodblifklaaGreat
open Go Ax
open Relation
set_option maxRecDepth 100000
theorem k127 (s : AVal) (l : List Bool) (b : Bool) (m : AMem) (hs : RBools m s l) (hn : l.length < 2 ^ 62) : ACalls Tryz.prog 127 [s, .bool b] m fun r m' => r = .int .i64 (fidx (fun i => (l[i]?).any (fun x => b == x)) 0 l.length) ∧ m' = m := by
  refine w127 ?_
  simp [hs.len]
  refine W_loop (fun n a m' => ∃ k : Nat, k + n = l.length ∧ a = h127_0 s (.bool b) (.int .i64 l.length) (.int .i64 k) ∧ m' = m ∧ fidx (fun i => (l[i]?).any (fun x => b == x)) k n = fidx (fun i => (l[i]?).any (fun x => b == x)) 0 l.length) l.length ⟨0, by simp⟩ ?_
  rintro n a m1 ⟨k, hk, rfl, rfl, hi⟩
  simp
  refine bbind_dec (fun h => ?_) fun h => ?_
  · have h : k < l.length := by omega
    obtain ⟨b', o, h1, h2⟩ := hs.at h
    obtain ⟨n, rfl⟩ : ∃ n', n = n' + 1 := ⟨n - 1, by omega⟩
    simp only [fidx, List.getElem?_eq_getElem h, Option.any_some] at hi
    simp [h1, h2]
    refine bbind_intro (fun he => ?_) fun he => ?_
    · simp [he] at hi
      simp [hi]
    · simp [he] at hi
      simp [step64 h hn]
      exact ⟨n, by omega, k + 1, by omega, by simp, hi⟩
  · simp
    obtain rfl : n = 0 := by omega
    simp only [fidx] at hi
    simp [hi]
theorem k84 (s : AVal) (l : List Bool) (b : Bool) (m : AMem) (hs : RBools m s l) (hn : l.length < 2 ^ 62) : ACalls Tryz.prog 84 [s, .bool b] m fun r m' => r = .bool (l.any (fun x => b == x)) ∧ m' = m := by
  refine w84 ?_
  simp
  refine C_of (k127 s l b m hs hn) ?_
  rintro _ _ ⟨rfl, rfl⟩
  simp [fidx_any]
theorem Ax.Sl.self {m : AMem} {esz : Nat} {s : AVal} {n : Nat} {cs : List AVal} (h : Sl m esz s n cs) : s.one = true ∧ s.cells = [s] := by
  rcases h with ⟨rfl, _⟩ | ⟨_, _, _, _, rfl, _⟩ <;> exact ⟨rfl, rfl⟩
theorem Ax.RTab.self {m : AMem} {s : AVal} {l : List Md} (h : RTab m s l) : s.one = true ∧ s.cells = [s] := by
  obtain ⟨_, h, _⟩ := h
  exact h.self
def voidE (l : List Md) (e : Int) : Bool := (l[e.toNat]?).any (fun x => x.kind == 0)
def voidsB (l : List Md) (x : Md) : Bool := if x.kind = 12 then false else if x.kind = 13 then x.elems.dropLast.any (voidE l) else x.elems.any (voidE l)
theorem voidE_call (s : AVal) (l : List Md) (x : Md) (m1 m : AMem) (b : Nat) (hs : RTab m s l) (hm : m <+: m1) (hg : ∀ e ∈ x.elems, 0 ≤ e ∧ e < l.length) (hb : readB m1 b = some [s]) :
    ∀ e ∈ x.elems, ∀ m', m1 <+: m' → ACalls Tryz.prog 126 ([] ++ [.int .i64 e] ++ [.ptr b 0]) m' fun v m'' => v = .bool (voidE l e) ∧ m' <+: m'' := by
  intro e he m' hm'
  obtain ⟨j, rfl⟩ : ∃ j : Nat, e = j := ⟨e.toNat, by have := hg e he; omega⟩
  have hj : j < l.length := by have := hg _ he; omega
  refine (k126 s l j b m' (by rw [bx (readB_mono hm' hb)]; rfl) (hs.mono (hm.trans hm')) hj).mono ?_
  rintro _ _ ⟨rfl, rfl⟩
  simp [voidE, hj]
set_option maxHeartbeats 4000000 in
theorem k83 (s : AVal) (l : List Md) (c : List AVal) (x : Md) (m : AMem) (hs : RTab m s l) (hx : RMode m c x) (hg : ∀ e ∈ x.elems, 0 ≤ e ∧ e < l.length) (h13 : x.kind = 13 → 1 ≤ x.elems.length) (hsz : smallN x) : ACalls Tryz.prog 83 [s, .agg c] m fun v m' => v = .bool (voidsB l x) ∧ m <+: m' := by
  obtain ⟨hsl, hsc⟩ := hs.self
  have hx0 := hx
  obtain ⟨e, nm, rfl, he, hn⟩ := hx
  refine w83 ?_
  have h1 := Sl.one he
  have h2 := Sl.one hn
  simp [hsl, hsc, h1, h2]
  have hb1 := readB_new m [s] 22 none
  have hm1 : m <+: m ++ [.own [s] 22 none] := List.prefix_append _ _
  have hlen : (m ++ [ABlk.own [s] 22 none]).length = m.length + 1 := by simp
  have hb2 := readB_new (m ++ [.own [s] 22 none]) [.int .i64 x.kind, .int .i64 x.size, e, nm, .int .i64 x.dims, .bool x.flex] 49 none
  have hm2 : m ++ [.own [s] 22 none] <+: m ++ [.own [s] 22 none] ++ [.own [.int .i64 x.kind, .int .i64 x.size, e, nm, .int .i64 x.dims, .bool x.flex] 49 none] := List.prefix_append _ _
  replace hb1 := readB_mono hm2 hb1
  replace hm1 := hm1.trans hm2
  rw [hlen] at hb2
  simp only [List.append_assoc, List.singleton_append] at hb1 hb2 hm1
  generalize m ++ [.own [s] 22 none, .own [.int .i64 x.kind, .int .i64 x.size, e, nm, .int .i64 x.dims, .bool x.flex] 49 none] = m1 at hb1 hb2 hm1 ⊢
  clear hlen hm2
  have hel := he.len
  by_cases c12 : x.kind = 12
  · simp [bx hb2, c12, voidsB, hm1]
  by_cases c13 : x.kind = 13
  · have hp := pred64 (n := x.elems.length) (by have := h13 c13; omega) hsz.1
    obtain ⟨e', h3, h4⟩ := he.take (i := x.elems.length - 1) (by omega)
    simp [bx hb2, c13, hel, hp, h3]
    refine C_of (k47 e' _ (voidE l) m1 (h4 m1 (he.mono hm1)) (by rw [List.length_take]; have := hsz.1; omega) _ [] [.ptr m.length 0] fun y hy => voidE_call s l x m1 m m.length hs hm1 hg hb1 y (List.mem_of_mem_take hy)) ?_
    rintro _ m' ⟨rfl, hm'⟩
    simp [voidsB, c13, List.dropLast_eq_take, hm1.trans hm']
  · simp [bx hb2, beqF c12, beqF c13]
    refine C_of (k47 e _ (voidE l) m1 (he.mono hm1) hsz.1 _ [] [.ptr m.length 0] fun y hy => voidE_call s l x m1 m m.length hs hm1 hg hb1 y hy) ?_
    rintro _ m' ⟨rfl, hm'⟩
    simp [voidsB, c12, c13, hm1.trans hm']
theorem twice_take (l : List ByteArray) (k : Nat) (hk : k < l.length) : ((l.take k).any (sEq l[k])) = true ↔ ∃ j, ∃ hj : j < k, sEq l[k] (l[j]'(by omega)) = true := by
  rw [List.any_eq_true]
  constructor
  · rintro ⟨y, hy, h⟩
    obtain ⟨j, hj, rfl⟩ := List.mem_iff_getElem.1 hy
    rw [List.length_take] at hj
    refine ⟨j, by omega, ?_⟩
    simpa using h
  · rintro ⟨j, hj, h⟩
    exact ⟨l[j], List.mem_iff_getElem.2 ⟨j, by rw [List.length_take]; omega, by simp⟩, h⟩
set_option maxHeartbeats 4000000 in
theorem k82 (s : AVal) (l : List Md) (c : List AVal) (x : Md) (m : AMem) (hs : RTab m s l) (hx : RMode m c x) (hsz : smallN x) : ACalls Tryz.prog 82 [s, .agg c] m fun v m' => v = .int .i64 (oneI x l.length) ∧ m <+: m' := by
  obtain ⟨hsl, hsc⟩ := hs.self
  have hx0 := hx
  obtain ⟨e, nm, rfl, he, hn⟩ := hx
  refine w82 ?_
  have h1 := Sl.one he
  have h2 := Sl.one hn
  simp [hsl, hsc, h1, h2]
  have hb1 := readB_new m [s] 22 none
  have hm1 : m <+: m ++ [.own [s] 22 none] := List.prefix_append _ _
  have hlen : (m ++ [ABlk.own [s] 22 none]).length = m.length + 1 := by simp
  have hb2 := readB_new (m ++ [.own [s] 22 none]) [.int .i64 x.kind, .int .i64 x.size, e, nm, .int .i64 x.dims, .bool x.flex] 49 none
  have hm2 : m ++ [.own [s] 22 none] <+: m ++ [.own [s] 22 none] ++ [.own [.int .i64 x.kind, .int .i64 x.size, e, nm, .int .i64 x.dims, .bool x.flex] 49 none] := List.prefix_append _ _
  replace hb1 := readB_mono hm2 hb1
  replace hm1 := hm1.trans hm2
  rw [hlen] at hb2
  simp only [List.append_assoc, List.singleton_append] at hb1 hb2 hm1
  generalize m ++ [.own [s] 22 none, .own [.int .i64 x.kind, .int .i64 x.size, e, nm, .int .i64 x.dims, .bool x.flex] 49 none] = m1 at hb1 hb2 hm1 ⊢
  clear hlen hm2
  have hnl := hn.len
  simp [bxW hb2]
  refine C_of (k120 _ x m1 (hx0.mono hm1)) ?_
  rintro _ m2 ⟨rfl, hm2⟩
  replace hb1 := readB_mono hm2 hb1
  replace hb2 := readB_mono hm2 hb2
  replace hm1 := hm1.trans hm2
  clear hm2
  simp
  refine bbind_intro (fun h => ?_) fun h => ?_
  · have h : shapeI x ≠ 0 := by simpa using h
    simp [oneI, h, hm1]
  have hsh : shapeI x = 0 := by simpa using h
  generalize hO : oneI x l.length = O
  replace hO : O = if x.elems.any (outB l.length) then 11 else if x.names.any (fun s => !wordB 97 122 s) then 8 else if twiceB x.names then 5 else 0 := by rw [← hO, oneI, hsh]; rfl
  simp [bx hb2]
  refine C_of (k47 e _ (outB l.length) m2 (he.mono hm1) hsz.1 _ [] [.ptr m.length 0] fun y hy m' hm' => ?_) ?_
  · refine (k121 s l y m.length m' (by rw [bx (readB_mono hm' hb1)]; rfl) (hs.mono (hm1.trans hm'))).mono ?_
    rintro _ _ ⟨rfl, rfl⟩
    exact ⟨rfl, List.prefix_refl _⟩
  rintro _ m3 ⟨rfl, hm3⟩
  replace hb2 := readB_mono hm3 hb2
  replace hm1 := hm1.trans hm3
  simp
  refine bbind_intro (fun h => ?_) fun h => ?_
  · simp [hm1]
    rw [hO, if_pos h]
  replace hO : O = if x.names.any (fun s => !wordB 97 122 s) then 8 else if twiceB x.names then 5 else 0 := by rw [hO, h]; rfl
  simp [bx hb2]
  refine C_of (k122 nm _ (fun s => !wordB 97 122 s) m3 (hn.mono hm1) hsz.2.1 _ [] [] fun y hy m' hm' => ?_) ?_
  · refine (k123 y m' (hsz.2.2 y hy)).mono ?_
    rintro _ _ ⟨rfl, rfl⟩
    exact ⟨rfl, List.prefix_refl _⟩
  rintro _ m4 ⟨rfl, hm4⟩
  replace hb2 := readB_mono hm4 hb2
  replace hm1 := hm1.trans hm4
  simp
  refine bbind_intro (fun h => ?_) fun h => ?_
  · simp [hm1]
    rw [hO, if_pos h]
  replace hO : O = if twiceB x.names then 5 else 0 := by rw [hO, h]; rfl
  simp [bx hb2, hnl]
  obtain ⟨I, hI⟩ : ∃ I : Nat → AFrame → AMem → Prop, ∀ q a m', I q a m' ↔ (∃ k : Nat, k + q = x.names.length ∧ a = h82_0 (.ptr (m.length + 1) 0) nm (.int .i64 x.names.length) (.int .i64 k) ∧ m4 <+: m' ∧ ∀ i (hi : i < x.names.length), i < k → ∀ j (hj : j < i), sEq x.names[i] x.names[j] = false) := ⟨_, fun _ _ _ => Iff.rfl⟩
  refine W_loop I x.names.length ((hI _ _ _).2 ⟨0, by simp, rfl, List.prefix_refl _, by simp⟩) ?_
  rintro q a m5 hIn
  obtain ⟨k, hk, rfl, hm5, hinv⟩ := (hI _ _ _).1 hIn
  simp
  refine bbind_dec (fun h => ?_) fun h => ?_
  · have hw := step64 h hsz.2.1
    obtain ⟨q, rfl⟩ : ∃ q', q = q' + 1 := ⟨q - 1, by omega⟩
    obtain ⟨b1, o1, hp, hl⟩ := (hn.mono (hm1.trans hm5)).at h
    obtain ⟨nm', h3, h4⟩ := hn.take (i := k) (by omega)
    have hb5 := readB_mono hm5 hb2
    simp [hp, hl, bx hb5, h3]
    refine C_of (k125 nm' _ x.names[k] m5 (h4 m5 (hn.mono (hm1.trans hm5))) (by rw [List.length_take]; have := hsz.2.1; omega)) ?_
    rintro _ _ ⟨rfl, rfl⟩
    simp
    refine bbind_intro (fun h' => ?_) fun h' => ?_
    · obtain ⟨j, hj, h'⟩ := (twice_take _ k h).1 h'
      simp [hm1.trans hm5]
      rw [hO, twiceB_true h hj h']; rfl
    · simp [hw]
      refine ⟨q, by omega, (hI _ _ _).2 ⟨k + 1, by omega, by simp, hm5, fun i hi hik j hj => ?_⟩⟩
      by_cases hik' : i = k
      · subst hik'
        rw [← Bool.not_eq_true]
        intro hc
        have := (twice_take _ i h).2 ⟨j, hj, hc⟩
        rw [this] at h'
        cases h'
      · exact hinv i hi (by omega) j hj
  · simp [hm1.trans hm5]
    rw [hO, twiceB_false fun i hi j hj => hinv i hi (by omega) j hj]
    rfl
end Go.Proofs.YtheadodblifklaaGreat

namespace Go.Proofs.YtheadodblifklaaGreat
open Go Ax
open Relation
set_option maxRecDepth 100000
theorem k131 (c : List AVal) (x : Md) (b : Nat) (g : FuncId) (p : Md → Bool) (m : AMem) (hx : RMode m c x) (hb : readB m b = some [.func (.func g) [] []])
    (hf : ∀ m', m <+: m' → RMode m' c x → ACalls Tryz.prog g [.agg c] m' fun v m'' => v = .bool (p x) ∧ m' <+: m'') :
    ACalls Tryz.prog 131 [.agg c, .ptr b 0] m fun v m' => v = .bool (!p x) ∧ m <+: m' := by
  have hx0 := hx
  obtain ⟨e, nm, rfl, he, hn⟩ := hx
  refine w131 ?_
  have h1 := Sl.one he
  have h2 := Sl.one hn
  simp [h1, h2]
  have hb1 := readB_new m [.int .i64 x.kind, .int .i64 x.size, e, nm, .int .i64 x.dims, .bool x.flex] 49 none
  have hm : m <+: m ++ [.own [.int .i64 x.kind, .int .i64 x.size, e, nm, .int .i64 x.dims, .bool x.flex] 49 none] := List.prefix_append _ _
  generalize (m ++ [.own [.int .i64 x.kind, .int .i64 x.size, e, nm, .int .i64 x.dims, .bool x.flex] 49 none]) = m1 at *
  have hb' := readB_mono hm hb
  simp [bx hb', bxW hb1]
  refine C_of (hf m1 hm (hx0.mono hm)) ?_
  rintro _ m2 ⟨rfl, hm2⟩
  simp [hm.trans hm2]
def badY (l : List Md) (i : Nat) : Prop := TransGen (stepR l (fun x => !yinB x)) i i
def badG (l : List Md) (i : Nat) : Prop := TransGen (stepR l (fun x => !yangB x)) i i
def badM (l : List Md) (i : Nat) : Prop := badY l i ∨ badG l i
def shP (k : Nat) : Md → Bool := if k = 0 then yinB else yangB
def shF (k : Nat) : Nat := if k = 0 then 128 else 129
def badK (l : List Md) (k i : Nat) : Prop := TransGen (stepR l (fun x => !shP k x)) i i
theorem sh_call (k : Nat) (c : List AVal) (x : Md) (m : AMem) (hx : RMode m c x) : ACalls Tryz.prog (shF k) [.agg c] m fun v m' => v = .bool (shP k x) ∧ m <+: m' := by
  unfold shF shP
  split
  · exact k128 c x m hx
  · exact k129 c x m hx
def okM (l : List Md) (i : Nat) : Prop := ¬ badM l i ∧ ∀ j, TransGen (stepR l (fun _ => true)) i j → ¬ badM l j
set_option maxHeartbeats 4000000 in
theorem k85 (s : AVal) (l : List Md) (m : AMem) (hs : RTab m s l) (hg : goodT l) (hn : l.length ≤ 512) (hsz : ∀ x ∈ l, smallN x) :
    ACalls Tryz.prog 85 [s] m fun v m' => m <+: m' ∧ ∃ T, OwL AVal.bool m.length m' 4 v T ∧ T.length = l.length ∧ ∀ j, T[j]? = some true ↔ j < l.length ∧ okM l j := by
  refine w85 ?_
  have hc1 : (l.length : Int) ≤ 281474976710656 := by omega
  have hc2 : (l.length : Int) ≤ 9223372036854775807 := by omega
  simp [hs.len, hc1, hc2]
  have hS0 := OwL.rep (f := AVal.bool) m 4 l.length false
  have hm1 : m <+: m ++ [.own (List.replicate l.length (.bool false)) 4 none] := List.prefix_append _ _
  generalize AVal.slice m.length 0 l.length l.length none = t3 at *
  generalize m ++ [.own (List.replicate l.length (.bool false)) 4 none] = m1 at *
  obtain ⟨I, hI⟩ : ∃ I : Nat → AFrame → AMem → Prop, ∀ q a m', I q a m' ↔ (∃ (k : Nat) (S : List Bool), k + q = l.length ∧ a = h85_0 s t3 (.int .i64 l.length) (.int .i64 k) ∧ m <+: m' ∧ OwL AVal.bool m.length m' 4 t3 S ∧ S.length = l.length ∧ ∀ j, S[j]? = some true ↔ j < k ∧ badM l j) := ⟨_, fun _ _ _ => Iff.rfl⟩
  refine W_loop I l.length ((hI _ _ _).2 ⟨0, _, by simp, rfl, hm1, hS0, by simp, fun j => by rw [List.getElem?_replicate]; split <;> simp⟩) ?_
  rintro q a m2 hIn
  obtain ⟨i, S, hk, rfl, hm2, hS, hSl, hSj⟩ := (hI _ _ _).1 hIn
  clear hIn hS0
  simp
  refine bbind_dec (fun h => ?_) fun h => ?_
  · have hw := step64 h (by omega)
    obtain ⟨q, rfl⟩ : ∃ q', q = q' + 1 := ⟨q - 1, by omega⟩
    simp [fillA, setN]
    have hb19 := readB_new m2 [.func (.func 128) [] [], .func (.func 129) [] []] 51 none
    have hm3 : m2 <+: m2 ++ [.own [.func (.func 128) [] [], .func (.func 129) [] []] 51 none] := List.prefix_append _ _
    generalize m2 ++ [.own [.func (.func 128) [] [], .func (.func 129) [] []] 51 none] = m3 at *
    have hb19lo : m.length ≤ m2.length := hm2.length_le
    have hS3 := hS.mono hm3
    have h19 : t3.blk ≠ some m2.length := fun hb => by have := (hS.blk_lo hb).2; omega
    generalize m2.length = b19 at *
    obtain ⟨I2, hI2⟩ : ∃ I : Nat → AFrame → AMem → Prop, ∀ q a m', I q a m' ↔ (∃ (k : Nat) (S : List Bool), k + q = 2 ∧ a = h85_1 s t3 (.int .i64 i) (.int .i64 l.length) (.int .i64 i) (.slice b19 0 2 2 none) (.int .i64 (2 : Nat)) (.int .i64 k) ∧ m <+: m' ∧ readB m' b19 = some [.func (.func 128) [] [], .func (.func 129) [] []] ∧ OwL AVal.bool m.length m' 4 t3 S ∧ S.length = l.length ∧ ∀ j, S[j]? = some true ↔ (j < i ∧ badM l j) ∨ (j = i ∧ ((0 < k ∧ badY l i) ∨ (1 < k ∧ badG l i)))) := ⟨_, fun _ _ _ => Iff.rfl⟩
    refine W_loop I2 2 ((hI2 _ _ _).2 ⟨0, S, by simp, rfl, hm2.trans hm3, hb19, hS3, hSl, fun j => by rw [hSj]; simp⟩) ?_
    clear hS hSl hSj hS3
    rintro p a m4 hIn
    obtain ⟨k, S, hk2, rfl, hm4, hb4, hS, hSl, hSj⟩ := (hI2 _ _ _).1 hIn
    clear hIn
    simp
    refine bbind_dec (fun h2 => ?_) fun h2 => ?_
    · have hk2' : k < 2 := by omega
      obtain ⟨p, rfl⟩ : ∃ p', p = p' + 1 := ⟨p - 1, by omega⟩
      have hw2 := step64 (k := k) (n := 2) hk2' (by omega)
      have hia : iaddrE 1 (.slice b19 0 2 2 none) (.int .i64 (k : Nat)) = some (.ptr b19 k) := by simp [iaddrE]; omega
      have hld : ([.func (.func 128) [] [], .func (.func 129) [] []] : List AVal)[k]? = some (.func (.func (shF k)) [] []) := by
        have : k = 0 ∨ k = 1 := by omega
        rcases this with rfl | rfl <;> rfl
      simp [hia, bx hb4, hld]
      rw [store_new1 _ _ _ _ _ rfl rfl]
      have hb6 := readB_new m4 [.func (.func (shF k)) [] []] 51 none
      have hm5 : m4 <+: m4 ++ [.own [.func (.func (shF k)) [] []] 51 none] := List.prefix_append _ _
      generalize m4 ++ [.own [.func (.func (shF k)) [] []] 51 none] = m5 at *
      generalize m4.length = b6 at *
      simp
      refine C_of (k130 s l i h m5 (hs.mono (hm4.trans hm5)) hg hn hsz 131 [] [.ptr b6 0] (fun x => !shP k x) fun c x m' hm' hx hc => ?_) ?_
      · refine (k131 c x b6 (shF k) (shP k) m' hc (readB_mono hm' hb6) fun m'' hm'' hc' => sh_call k c x m'' hc').mono fun v m'' h => ?_
        exact h
      rintro v m6 ⟨hm6, R, hR, hRl, hRj⟩
      have hiR : i < R.length := by omega
      obtain ⟨bR, oR, hpR, hlR⟩ := hR.bools.at hiR
      have hSm := hS.mono (hm5.trans hm6)
      have hm46 := hm4.trans (hm5.trans hm6)
      have hb46 := readB_mono (hm5.trans hm6) hb4
      simp [hpR, hlR]
      have hbad : R[i] = true ↔ badK l k i := by
        have := hRj i
        rw [List.getElem?_eq_getElem hiR, Option.some.injEq] at this
        exact this
      refine bbind_intro (fun hr => ?_) fun hr => ?_
      · have hr' := hbad.1 hr
        obtain ⟨b3, o3, hb3, hp3, _, hst3⟩ := hSm.at (i := i) (by omega)
        obtain ⟨m7, hst, hch, hS7⟩ := hst3 true
        simp [hp3, hst, hw2]
        refine ⟨p, by omega, (hI2 _ _ _).2 ⟨k + 1, S.set i true, by omega, by simp, hch.pre hm46 fun b hb => ?_, ?_, hS7, by simpa using hSl, fun j => ?_⟩⟩
        · have := (hSm.blk_lo hb3).1; omega
        · exact hch.read (fun hb => h19 (by rw [hb3, ← hb])) hb46
        · rw [List.getElem?_set]
          by_cases hj : i = j
          · subst hj
            rw [if_pos rfl, if_pos (by omega)]
            simp only [true_iff]
            refine .inr ⟨by simp, ?_⟩
            have : k = 0 ∨ k = 1 := by omega
            rcases this with rfl | rfl
            · exact .inl ⟨by omega, hr'⟩
            · exact .inr ⟨by omega, hr'⟩
          · rw [if_neg hj, hSj]
            have : ¬ j = i := fun h => hj h.symm
            simp [this]
      · have hr' : ¬ badK l k i := fun h => by rw [hbad.2 h] at hr; cases hr
        simp [hw2]
        refine ⟨p, by omega, (hI2 _ _ _).2 ⟨k + 1, S, by omega, by simp, hm46, hb46, hSm, hSl, fun j => ?_⟩⟩
        rw [hSj]
        have : k = 0 ∨ k = 1 := by omega
        rcases this with rfl | rfl
        · have hr' : ¬ badY l i := hr'
          simp [hr']
        · have hr' : ¬ badG l i := hr'
          simp [hr']
    · have : k = 2 := by omega
      subst this
      simp [hw]
      refine ⟨q, by omega, (hI _ _ _).2 ⟨i + 1, S, by omega, by simp, hm4, hS, hSl, fun j => ?_⟩⟩
      rw [hSj]
      unfold badM
      constructor
      · rintro (⟨h1, h2⟩ | ⟨rfl, ⟨_, h2⟩ | ⟨_, h2⟩⟩)
        · exact ⟨by omega, h2⟩
        · exact ⟨by omega, .inl h2⟩
        · exact ⟨by omega, .inr h2⟩
      · rintro ⟨h1, h2⟩
        by_cases hj : j = i
        · subst hj
          exact .inr ⟨rfl, h2.imp (fun h => ⟨by omega, h⟩) fun h => ⟨by omega, h⟩⟩
        · exact .inl ⟨by omega, h2⟩
  · have hkl : i = l.length := by omega
    subst hkl
    simp [hs.len, hc1, hc2]
    have hT0 := OwL.rep (f := AVal.bool) m2 4 l.length false
    have hm3 : m2 <+: m2 ++ [.own (List.replicate l.length (.bool false)) 4 none] := List.prefix_append _ _
    have h7 : ∀ b, t3.blk = some b → (AVal.slice m2.length 0 l.length l.length none).blk ≠ some b := fun b hb hbb => by
      have := (hS.blk_lo hb).2
      simp [AVal.blk] at hbb
      omega
    generalize AVal.slice m2.length 0 l.length l.length none = t7 at *
    generalize m2 ++ [.own (List.replicate l.length (.bool false)) 4 none] = m3 at *
    have hS3 := hS.mono hm3
    replace hT0 := hT0.lo' hm2.length_le
    clear hI I
    obtain ⟨I, hI⟩ : ∃ I : Nat → AFrame → AMem → Prop, ∀ q a m', I q a m' ↔ (∃ (k : Nat) (T : List Bool), k + q = l.length ∧ a = h85_2 s t3 t7 (.int .i64 l.length) (.int .i64 k) ∧ m <+: m' ∧ OwL AVal.bool m.length m' 4 t3 S ∧ OwL AVal.bool m.length m' 4 t7 T ∧ T.length = l.length ∧ ∀ j, T[j]? = some true ↔ j < k ∧ okM l j) := ⟨_, fun _ _ _ => Iff.rfl⟩
    refine W_loop I l.length ((hI _ _ _).2 ⟨0, _, by simp, rfl, hm2.trans hm3, hS3, hT0, by simp, fun j => by rw [List.getElem?_replicate]; split <;> simp⟩) ?_
    clear hS hS3 hT0 hk h
    rintro q a m4 hIn
    obtain ⟨i, T, hk, rfl, hm4, hS, hT, hTl, hTj⟩ := (hI _ _ _).1 hIn
    clear hIn
    simp
    refine bbind_dec (fun h => ?_) fun h => ?_
    · have hw := step64 h (by omega)
      obtain ⟨q, rfl⟩ : ∃ q', q = q' + 1 := ⟨q - 1, by omega⟩
      have hiS : i < S.length := by omega
      obtain ⟨b3, o3, hb3, hp3, hl3, _⟩ := hS.at hiS
      obtain ⟨b7, o7, hb7, hp7, _, hst7⟩ := hT.at (i := i) (by omega)
      obtain ⟨m5, hst, hch, hT5⟩ := hst7 (!S[i])
      have hm5 : m <+: m5 := hch.pre hm4 fun b hb => by have := (hT.blk_lo hb7).1; omega
      have hS5 := hS.ch hch fun b hb hbb => h7 b hb (by rw [hb7, hbb])
      simp [hp3, hl3, hp7, hst]
      refine C_of (k130 s l i h m5 (hs.mono hm5) hg hn hsz 132 [] [] (fun _ => true) fun c x m' hm' hx hc => k132 c x m' hc) ?_
      rintro v m6 ⟨hm6, R, hR, hRl, hRj⟩
      simp [hR.len]
      have hbad : S[i] = true ↔ badM l i := by
        have := hSj i
        rw [List.getElem?_eq_getElem hiS, Option.some.injEq] at this
        rw [this]
        exact ⟨And.right, fun h' => ⟨h, h'⟩⟩
      have hTi : ∀ j, (T.set i (!S[i]))[j]? = some true ↔ (j < i ∧ okM l j) ∨ (j = i ∧ ¬ badM l i) := by
        intro j
        rw [List.getElem?_set]
        by_cases hj : i = j
        · subst hj
          rw [if_pos rfl, if_pos (by omega), Option.some.injEq, ← hbad]
          simp
        · rw [if_neg hj, hTj]
          have : ¬ j = i := fun h => hj h.symm
          simp [this]
      generalize hT' : T.set i (!S[i]) = T' at *
      have hTl' : T'.length = l.length := by rw [← hT']; simpa using hTl
      obtain ⟨I2, hI2⟩ : ∃ I : Nat → AFrame → AMem → Prop, ∀ q a m', I q a m' ↔ (∃ (k : Nat) (T : List Bool), k + q = R.length ∧ a = h85_3 s t3 t7 (.int .i64 i) (.int .i64 l.length) (.int .i64 i) v (.int .i64 R.length) (.int .i64 k) ∧ m <+: m' ∧ OwL AVal.bool m5.length m' 4 v R ∧ OwL AVal.bool m.length m' 4 t3 S ∧ OwL AVal.bool m.length m' 4 t7 T ∧ T.length = l.length ∧ ∀ j, T[j]? = some true ↔ (j < i ∧ okM l j) ∨ (j = i ∧ ¬ badM l i ∧ ∀ z, z < k → TransGen (stepR l (fun _ => true)) i z → ¬ badM l z)) := ⟨_, fun _ _ _ => Iff.rfl⟩
      have hm56 := hm5.trans hm6
      refine W_loop I2 R.length ((hI2 _ _ _).2 ⟨0, T', by simp, rfl, hm56, hR, hS5.mono hm6, hT5.mono hm6, hTl', fun j => by rw [hTi]; simp⟩) ?_
      have hb7lt : b7 < m5.length := by have := (hT5.blk_lo hb7).2; exact this
      rintro p a m7 hIn
      obtain ⟨k, T, hk2, rfl, hm7, hR, hS, hT, hTl, hTj⟩ := (hI2 _ _ _).1 hIn
      clear hIn
      simp
      refine bbind_dec (fun hkR => ?_) fun hkR => ?_
      · have hw2 := step64 hkR (by omega)
        obtain ⟨p, rfl⟩ : ∃ p', p = p' + 1 := ⟨p - 1, by omega⟩
        obtain ⟨bR, oR, _, hpR, hlR, _⟩ := hR.at hkR
        obtain ⟨b3, o3, _, hp3, hl3, _⟩ := hS.at (i := k) (by omega)
        have hRk : R[k] = true ↔ TransGen (stepR l (fun _ => true)) i k := by
          have := hRj k
          rw [List.getElem?_eq_getElem hkR, Option.some.injEq] at this
          exact this
        have hSk : S[k] = true ↔ badM l k := by
          have := hSj k
          rw [List.getElem?_eq_getElem (by omega), Option.some.injEq] at this
          rw [this]
          exact ⟨And.right, fun h' => ⟨by omega, h'⟩⟩
        have same : (R[k] = false ∨ S[k] = false) → ∀ j, T[j]? = some true ↔ (j < i ∧ okM l j) ∨ (j = i ∧ ¬ badM l i ∧ ∀ z, z < k + 1 → TransGen (stepR l (fun _ => true)) i z → ¬ badM l z) := by
          intro hc j
          rw [hTj]
          have : (∀ z, z < k → TransGen (stepR l (fun _ => true)) i z → ¬ badM l z) ↔ (∀ z, z < k + 1 → TransGen (stepR l (fun _ => true)) i z → ¬ badM l z) := by
            constructor
            · intro h1 z hz h2 h3
              by_cases hzk : z = k
              · subst hzk
                rcases hc with hc | hc
                · rw [hRk.2 h2] at hc; cases hc
                · rw [hSk.2 h3] at hc; cases hc
              · exact h1 z (by omega) h2 h3
            · intro h1 z hz
              exact h1 z (by omega)
          rw [this]
        cases cR : R[k]
        · simp [hpR, hlR, cR, hw2]
          exact ⟨p, by omega, (hI2 _ _ _).2 ⟨k + 1, T, by omega, by simp, hm7, hR, hS, hT, hTl, same (.inl cR)⟩⟩
        · cases cS : S[k]
          · simp [hpR, hlR, cR, hp3, hl3, cS, hw2]
            exact ⟨p, by omega, (hI2 _ _ _).2 ⟨k + 1, T, by omega, by simp, hm7, hR, hS, hT, hTl, same (.inr cS)⟩⟩
          · obtain ⟨b7', o7', hb7', hp7', _, hst7'⟩ := hT.at (i := i) (by omega)
            obtain ⟨m8, hst', hch', hT8⟩ := hst7' false
            simp [hpR, hlR, cR, hp3, hl3, cS, hw2, hp7', hst']
            have hbb : b7' = b7 := by rw [hb7] at hb7'; simpa using hb7'.symm
            refine ⟨p, by omega, (hI2 _ _ _).2 ⟨k + 1, T.set i false, by omega, by simp, hch'.pre hm7 fun b hb => ?_, hR.ch hch' fun b hb hb2 => ?_, hS.ch hch' fun b hb hb2 => ?_, hT8, by simpa using hTl, fun j => ?_⟩⟩
            · have := (hT.blk_lo hb7').1; omega
            · have := (hR.blk_lo hb).1; omega
            · exact h7 b hb (by rw [hb7', hb2])
            · rw [List.getElem?_set]
              by_cases hj : i = j
              · subst hj
                rw [if_pos rfl, if_pos (by omega)]
                simp only [Option.some.injEq, Bool.false_eq_true, false_iff]
                rintro (⟨h1, _⟩ | ⟨_, _, h2⟩)
                · omega
                · exact h2 k (by omega) (hRk.1 cR) (hSk.1 cS)
              · rw [if_neg hj, hTj]
                have : ¬ j = i := fun h => hj h.symm
                simp [this]
      · simp [hw]
        refine ⟨q, by omega, (hI _ _ _).2 ⟨i + 1, T, by omega, by simp, hm7, hS, hT, hTl, fun j => ?_⟩⟩
        rw [hTj]
        have hlt : ∀ z, TransGen (stepR l (fun _ => true)) i z → z < k := fun z hz => by
          have := (hRj z).2 hz
          have := (List.getElem?_eq_some_iff.1 this).1
          omega
        constructor
        · rintro (⟨h1, h2⟩ | ⟨rfl, h2, h3⟩)
          · exact ⟨by omega, h2⟩
          · exact ⟨by omega, h2, fun z hz => h3 z (hlt z hz) hz⟩
        · rintro ⟨h1, h2⟩
          by_cases hj : j = i
          · subst hj
            exact .inr ⟨rfl, h2.1, fun z _ hz => h2.2 z hz⟩
          · exact .inl ⟨by omega, h2⟩
    · simp
      have : i = l.length := by omega
      subst this
      exact ⟨hm4, T, hT, hTl, hTj⟩
end Go.Proofs.YtheadodblifklaaGreat

namespace Go.Proofs.YtheadodblifklaaGreat
open Go Ax
open Relation
def rowStruct (x : Md) : Bool := x.kind == 10 || x.kind == 11
def stepF (l : List Md) : Nat → Nat → Prop := stepR l rowStruct
inductive FlexP (l : List Md) : Nat → Prop
  | flex {m : Nat} {x : Md} : l[m]? = some x → rowStruct x = true → x.flex = true → FlexP l m
  | step {m k : Nat} : stepF l m k → FlexP l k → FlexP l m
def acyc (l : List Md) : Prop := ∀ r, ¬ TransGen (stepR l (fun x => !yinB x)) r r
theorem TransGen.mono' {α : Type} {r s : α → α → Prop} (h : ∀ a b, r a b → s a b) {a b : α} (ht : TransGen r a b) : TransGen s a b := by
  induction ht with
  | single h1 => exact .single (h _ _ h1)
  | tail _ h1 ih => exact .tail ih (h _ _ h1)
theorem TransGen.head' {α : Type} {r : α → α → Prop} {a b c : α} (h : r a b) (ht : TransGen r b c) : TransGen r a c := by
  induction ht with
  | single h1 => exact .tail (.single h) h1
  | tail _ h1 ih => exact .tail ih h1
theorem stepF_yin {l : List Md} {a b : Nat} (h : stepF l a b) : stepR l (fun x => !yinB x) a b := by
  obtain ⟨x, h1, h2, h3⟩ := h
  refine ⟨x, h1, ?_, h3⟩
  simp only [rowStruct, Bool.or_eq_true, beq_iff_eq] at h2
  simp only [yinB]
  rcases h2 with h2 | h2 <;> rw [h2] <;> rfl
theorem acycF {l : List Md} (h : acyc l) (r : Nat) : ¬ TransGen (stepF l) r r := fun ht => h r (TransGen.mono' (fun _ _ => stepF_yin) ht)
open Classical in
noncomputable def hgt (l : List Md) (a : Nat) : Nat := (List.range l.length).countP fun j => decide (TransGen (stepF l) a j)
theorem countP_lt {α : Type} {p q : α → Bool} {x : α} : ∀ {l : List α}, (∀ y ∈ l, p y = true → q y = true) → x ∈ l → p x = false → q x = true → l.countP p < l.countP q
  | [], _, h, _, _ => by cases h
  | y :: l, h, hx, hp, hq => by
    have hle : l.countP p ≤ l.countP q := List.countP_mono_left fun z hz => h z (List.mem_cons_of_mem _ hz)
    rw [List.countP_cons, List.countP_cons]
    rcases List.mem_cons.1 hx with rfl | hx
    · rw [hp, hq]; simp; omega
    · have := countP_lt (fun z hz => h z (List.mem_cons_of_mem _ hz)) hx hp hq
      have h1 := h y List.mem_cons_self
      cases hpy : p y
      · simp; split <;> omega
      · rw [h1 hpy]; simp; omega
theorem hgt_lt {l : List Md} (hg : goodT l) (ha : acyc l) {a b : Nat} (h : stepF l a b) : hgt l b < hgt l a := by
  have hb : b < l.length := by
    obtain ⟨x, h1, _, h3⟩ := h
    have := hg x (List.mem_of_getElem? h1) _ h3
    omega
  refine countP_lt (x := b) (fun y _ hy => ?_) (List.mem_range.2 hb) ?_ ?_
  · simp only [decide_eq_true_eq] at hy ⊢
    exact TransGen.head' h hy
  · simp only [decide_eq_false_iff_not]
    exact acycF ha b
  · simp only [decide_eq_true_eq]
    exact .single h
theorem FlexP.iff {l : List Md} {m : Nat} {x : Md} (hx : l[m]? = some x) : FlexP l m ↔ rowStruct x = true ∧ (x.flex = true ∨ ∃ k, stepF l m k ∧ FlexP l k) := by
  constructor
  · intro h
    cases h with
    | flex h1 h2 h3 => rw [hx] at h1; cases h1; exact ⟨h2, .inl h3⟩
    | step h1 h2 =>
      obtain ⟨y, k1, k2, k3⟩ := h1
      rw [hx] at k1; cases k1
      exact ⟨k2, .inr ⟨_, ⟨x, hx, k2, k3⟩, h2⟩⟩
  · rintro ⟨h1, h2 | ⟨k, h2, h3⟩⟩
    · exact .flex hx h1 h2
    · exact .step h2 h3
structure FInv (l : List Md) (K O : List Bool) (B : Nat → Prop) : Prop where
  lenK : K.length = l.length
  lenO : O.length = l.length
  done : ∀ (j : Nat), K[j]? = some true → ¬ B j → (O[j]? = some true ↔ FlexP l j)
  rest : ∀ (j : Nat), K[j]? = some false → O[j]? = some false
  row : ∀ (j : Nat) x, l[j]? = some x → K[j]? = some true → rowStruct x = true
end Go.Proofs.YtheadodblifklaaGreat

