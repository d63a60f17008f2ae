/- Layer 10's laws.  Conditions: none beyond those stated. -/
import Derived.Test.YtlniliigcnedmaaGreatDoorG5
import Derived.Shelf.Strings.Repeat
import Derived.Ground.Names2Prog
import Derived.Test.YtlniliigcnedmaaGreatDoorProg
import Derived.Laws.IdiomArrays
import Derived.Test.YtlniliigcnedmaaGreatDoorCards
import Derived.Test.YtlniliigcnedmaaGreatDoorTie
import Derived.Deep.DeepHandedRow
import Derived.Lib.LaidU8
import Derived.OpenShut
set_option linter.unusedSimpArgs false
set_option linter.unusedVariables false
namespace Go.Proofs.YtlniliigcnedmaaGreatDoor
open Go Ax
set_option maxRecDepth 100000
theorem w3 {args m R} (h:W Tryz.prog (.seq (.reg [qb 4 false]) (.kill [0,1] (.seq (.seq (.reg [qc 9 13 [],⟨some 10,.P (.un .not (.t 9)),none⟩]) (.kill [0,1,10] (.cond (.t 10) (.seq (.reg [qb 4 false]) .ret) .skip))) (.kill [0,1] (.seq (.seq (.reg [qv 11 0,qc 12 14 [(.t 11),(qz 12)],⟨some 13,.P (.un .not (.t 12)),none⟩]) (.kill [0,1,13] (.cond (.t 13) (.seq (.reg [qb 4 true]) .ret) .skip))) (.kill [0,1] (.seq (.reg [qv 15 0,qv 16 1,qc 17 15 [(.t 15),(.t 16)],qv 14 17,qx 18 14 0,qx 19 14 1,qv 5 18,qv 6 19]) (.kill [0,1,5,6] (.seq (.reg [qv 21 0,qv 22 1,qc 23 16 [(.t 21),(.t 22)],qv 20 23,qx 24 20 0,qx 25 20 1,qv 7 24,qv 8 25]) (.kill [5,6,7,8] (.seq (.reg [qv 26 5,qv 27 7,qo 28 .eql 26 27,qv 29 28,⟨some 30,.P (.mov (.t 6)),(some (29,true))⟩,⟨some 31,.P (.mov (.t 8)),(some (29,true))⟩,⟨some 32,.P (.bin .eql (.t 30) (.t 31)),(some (29,true))⟩,⟨some 33,.P (.pick (.t 29) (.t 32) (.c (.bool false))),none⟩,qv 4 33]) .ret))))))))))) (E [(.tmp 4)] R .mk) .mk (mat 34 (sArgs 0 args)) m) (hl:Nat.ble args.length 34=true:=by rfl):ACalls Tryz.prog 3 args m R:=walk mix (by kernel_rfl) (Nat.le_of_ble_eq_true hl) h
theorem w5 {args m R} (h:W Tryz.prog (.seq (.reg [⟨some 3,.A (.box 31 (.t 1)),none⟩,qb 4 false]) (.kill [0,3] (.seq (.seq (.reg [qc 15 13 [],⟨some 16,.P (.un .not (.t 15)),none⟩]) (.kill [0,3,16] (.cond (.t 16) (.seq (.reg [qb 4 false]) .ret) .skip))) (.kill [0,3] (.seq (.draw true [⟨some 17,.P (.iaddrA 3 1 (.t 3) (qz 0)),none⟩,ql 18 17,⟨some 19,.P (.iaddrA 3 1 (.t 3) (qz 1)),none⟩,ql 20 19,⟨some 21,.P (.iaddrA 3 1 (.t 3) (qz 2)),none⟩,ql 22 21,qv 5 18,qv 6 20,qv 7 22] [[],[],[],[],[],[],[],[],[]] [[],[],[],[],[],[],[],[],[]] [0,1,2,3,4,5,6,7,8]) (.kill [0,5,6,7] (.seq (.seq (.reg [qv 23 0,qc 24 14 [(.t 23),(qz 12)],⟨some 25,.P (.un .not (.t 24)),none⟩,qv 26 25,⟨some 27,.P (.mov (.t 0)),(some (26,false))⟩,⟨some 28,.P (.mov (.t 5)),(some (26,false))⟩,⟨some 29,.P (.mov (.t 6)),(some (26,false))⟩,⟨some 30,.P (.mov (.t 7)),(some (26,false))⟩,⟨some 31,.A (.bslice 3 3 [(.int .i64 0)] [(0,(1,(.t 28))),(1,(1,(.t 29))),(2,(1,(.t 30)))]),(some (26,false))⟩,⟨some 32,.C (.c (.func (.func 21) [] [])) [(.t 27),(.t 31)],(some (26,false))⟩,⟨some 33,.P (.un .not (.t 32)),(some (26,false))⟩,⟨some 34,.P (.pick (.t 26) (.c (.bool true)) (.t 33)),none⟩]) (.kill [0,5,6,7,34] (.cond (.t 34) (.seq (.reg [qb 4 true]) .ret) .skip))) (.kill [0,5,6,7] (.seq (.reg [qv 35 0,qv 36 5,qv 37 6,qc 38 22 [(.t 35),(.t 36),(.t 37)],qv 39 0,qv 40 6,qv 41 7,qc 42 22 [(.t 39),(.t 40),(.t 41)],qv 43 0,qv 44 5,qv 45 7,qc 46 22 [(.t 43),(.t 44),(.t 45)],qv 8 38,qv 9 42,qv 10 46]) (.kill [0,5,6,8,9,10] (.seq (.seq (.reg [qv 47 8,qk 48 .eql 47 2,qv 49 48,⟨some 50,.P (.mov (.t 9)),(some (49,false))⟩,⟨some 51,.P (.bin .eql (.t 50) (qz 2)),(some (49,false))⟩,⟨some 52,.P (.pick (.t 49) (.c (.bool true)) (.t 51)),none⟩,qv 53 52,⟨some 54,.P (.mov (.t 10)),(some (53,false))⟩,⟨some 55,.P (.bin .eql (.t 54) (qz 2)),(some (53,false))⟩,⟨some 56,.P (.pick (.t 53) (.c (.bool true)) (.t 55)),none⟩,qv 57 56,⟨some 58,.P (.mov (.t 0)),(some (57,false))⟩,⟨some 59,.P (.mov (.t 5)),(some (57,false))⟩,⟨some 60,.P (.mov (.t 5)),(some (57,false))⟩,⟨some 61,.C (.c (.func (.func 22) [] [])) [(.t 58),(.t 59),(.t 60)],(some (57,false))⟩,⟨some 62,.P (.bin .neq (.t 61) (qz 0)),(some (57,false))⟩,⟨some 63,.P (.pick (.t 57) (.c (.bool true)) (.t 62)),none⟩,qv 64 63,⟨some 65,.P (.mov (.t 0)),(some (64,false))⟩,⟨some 66,.P (.mov (.t 6)),(some (64,false))⟩,⟨some 67,.P (.mov (.t 5)),(some (64,false))⟩,⟨some 68,.C (.c (.func (.func 22) [] [])) [(.t 65),(.t 66),(.t 67)],(some (64,false))⟩,⟨some 69,.P (.mov (.t 8)),(some (64,false))⟩,⟨some 70,.P (.un .neg (.t 69)),(some (64,false))⟩,⟨some 71,.P (.bin .neq (.t 68) (.t 70)),(some (64,false))⟩,⟨some 72,.P (.pick (.t 64) (.c (.bool true)) (.t 71)),none⟩]) (.kill [0,5,6,8,9,10,72] (.cond (.t 72) (.seq (.reg [qb 4 false]) .ret) .skip))) (.kill [0,5,6,8,9,10] (.seq (.seq (.reg [qv 73 8,qk 74 .leq 73 0,qv 75 74,⟨some 76,.P (.mov (.t 9)),(some (75,true))⟩,⟨some 77,.P (.bin .leq (.t 76) (qz 0)),(some (75,true))⟩,⟨some 78,.P (.pick (.t 75) (.t 77) (.c (.bool false))),none⟩,qv 79 78,⟨some 80,.P (.mov (.t 10)),(some (79,true))⟩,⟨some 81,.P (.bin .gtr (.t 80) (qz 0)),(some (79,true))⟩,⟨some 82,.P (.pick (.t 79) (.t 81) (.c (.bool false))),none⟩,qv 83 82,⟨some 84,.P (.mov (.t 8)),(some (83,false))⟩,⟨some 85,.P (.bin .leq (.t 84) (qz 0)),(some (83,false))⟩,⟨some 86,.P (.mov (.t 85)),(some (83,false))⟩,⟨some 87,.P (.mov (.t 9)),(some (86,true))⟩,⟨some 88,.P (.bin .leq (.t 87) (qz 0)),(some (86,true))⟩,⟨some 89,.P (.pick (.t 86) (.t 88) (.c (.bool false))),(some (83,false))⟩,⟨some 90,.P (.mov (.t 89)),(some (83,false))⟩,⟨some 91,.P (.mov (.t 8)),(some (90,true))⟩,⟨some 92,.P (.mov (.t 9)),(some (90,true))⟩,⟨some 93,.P (.bin .add (.t 91) (.t 92)),(some (90,true))⟩,⟨some 94,.P (.bin .lss (.t 93) (qz 0)),(some (90,true))⟩,⟨some 95,.P (.pick (.t 90) (.t 94) (.c (.bool false))),(some (83,false))⟩,⟨some 96,.P (.mov (.t 95)),(some (83,false))⟩,⟨some 97,.P (.mov (.t 10)),(some (96,true))⟩,⟨some 98,.P (.bin .neq (.t 97) (.c (.int .i64 (-1)))),(some (96,true))⟩,⟨some 99,.P (.pick (.t 96) (.t 98) (.c (.bool false))),(some (83,false))⟩,⟨some 100,.P (.pick (.t 83) (.c (.bool true)) (.t 99)),none⟩]) (.kill [0,5,6,8,100] (.cond (.t 100) (.seq (.reg [qb 4 false]) .ret) .skip))) (.kill [0,5,6,8] (.seq (.reg [qv 102 0,qv 103 5,qc 104 15 [(.t 102),(.t 103)],qv 101 104,qx 105 101 0,qx 106 101 1,qv 11 105,qv 12 106]) (.kill [0,6,8,11,12] (.seq (.reg [qv 108 0,qv 109 6,qc 110 15 [(.t 108),(.t 109)],qv 107 110,qx 111 107 0,qx 112 107 1,qv 13 111,qv 14 112]) (.kill [8,11,12,13,14] (.seq (.reg [qv 113 12,qk 114 .eql 113 0,qv 115 114,⟨some 116,.P (.mov (.t 14)),(some (115,true))⟩,⟨some 117,.P (.bin .eql (.t 116) (qz 0)),(some (115,true))⟩,⟨some 118,.P (.pick (.t 115) (.t 117) (.c (.bool false))),none⟩,qv 119 118,⟨some 120,.P (.mov (.t 11)),(some (119,true))⟩,⟨some 121,.P (.mov (.t 13)),(some (119,true))⟩,⟨some 122,.P (.bin .eql (.t 120) (.t 121)),(some (119,true))⟩,⟨some 123,.P (.mov (.t 8)),(some (119,true))⟩,⟨some 124,.P (.bin .eql (.t 123) (qz 0)),(some (119,true))⟩,⟨some 125,.P (.eqB false (.t 122) (.t 124)),(some (119,true))⟩,⟨some 126,.P (.pick (.t 119) (.t 125) (.c (.bool false))),none⟩,qv 4 126]) .ret))))))))))))))))))) (E [(.tmp 4)] R .mk) .mk (mat 127 (sArgs 0 args)) m) (hl:Nat.ble args.length 127=true:=by rfl):ACalls Tryz.prog 5 args m R:=walk mix (by kernel_rfl) (Nat.le_of_ble_eq_true hl) h
theorem w6 {args m R} (h:W Tryz.prog (.seq (.reg [qb 6 false]) (.kill [0,1,2] (.seq (.seq (.reg [qc 16 13 [],⟨some 17,.P (.un .not (.t 16)),none⟩]) (.kill [0,1,2,17] (.cond (.t 17) (.seq (.reg [qb 6 false]) .ret) .skip))) (.kill [0,1,2] (.seq (.seq (.reg [qv 18 0,qc 19 14 [(.t 18),(qz 7)],⟨some 20,.P (.un .not (.t 19)),none⟩,qv 21 20,⟨some 22,.P (.mov (.t 0)),(some (21,false))⟩,⟨some 23,.P (.mov (.t 1)),(some (21,false))⟩,⟨some 24,.P (.mov (.t 2)),(some (21,false))⟩,⟨some 25,.A (.bslice 3 2 [(.int .i64 0)] [(0,(1,(.t 23))),(1,(1,(.t 24)))]),(some (21,false))⟩,⟨some 26,.C (.c (.func (.func 21) [] [])) [(.t 22),(.t 25)],(some (21,false))⟩,⟨some 27,.P (.un .not (.t 26)),(some (21,false))⟩,⟨some 28,.P (.pick (.t 21) (.c (.bool true)) (.t 27)),none⟩]) (.kill [0,1,2,28] (.cond (.t 28) (.seq (.reg [qb 6 true]) .ret) .skip))) (.kill [0,1,2] (.seq (.draw false [qv 29 0,qc 30 23 [(.t 29)],qv 31 0,qv 32 1,qa 33 6 31 32,⟨some 34,.R (.load 6 true (.t 33)),none⟩,⟨some 35,.A (.bslice 39 1 [(.int .i64 0),(.int .i64 0),.nilslice,.nilslice,(.int .i64 0),(.bool false)] [(0,(6,(.t 34)))]),none⟩,⟨some 36,.W (.append 6 80 39 false (.t 30) (.t 35)),none⟩,qv 7 36] [[],[],[],[],[],[],[],[1,6],[1,6]] [[],[],[],[],[],[],[],[],[]] [0,1,2,3,4,5,6,7,8]) (.kill [0,1,2,7] (.seq (.seq (.reg [qv 37 0,qn 38 37,qi 39 0]) (.block 0 (.kill [0,1,2,7,37,38,39] (.loop (.fin [0,1,2,7,37,38,39] (.seq (.reg [qo 40 .lss 39 38]) (.seq (.cond (.t 40) .skip (.exit 0)) (.kill [0,1,2,7,37,38,39] (.seq (.block 1 (.seq (.reg [qa 41 6 37 39,⟨some 42,.R (.load 6 true (.t 41)),none⟩,⟨some 9,.A (.alloc 39 [(.int .i64 0),(.int .i64 0),.nilslice,.nilslice,(.int .i64 0),(.bool false)]),none⟩,⟨none,.W (.store 6 (.t 9) (.t 42)),none⟩]) (.kill [0,1,2,7,9,37,38,39] (.seq (.reg [⟨some 43,.P (.faddr 2 (.t 9)),none⟩,ql 44 43,qc 45 24 [(.t 44)],⟨some 46,.P (.faddr 2 (.t 9)),none⟩,⟨none,.W (.store 1 (.t 46) (.t 45)),none⟩]) (.kill [0,1,2,7,9,37,38,39] (.seq (.seq (.reg [⟨some 47,.P (.faddr 2 (.t 9)),none⟩,ql 48 47,qn 49 48,qi 50 0]) (.kill [0,1,2,7,9,37,38,39,49,50] (.block 2 (.kill [0,1,2,7,9,37,38,39,49,50] (.loop (.fin [0,1,2,7,9,37,38,39,49,50] (.seq (.reg [qo 51 .lss 50 49]) (.seq (.cond (.t 51) .skip (.exit 2)) (.kill [0,1,2,7,9,37,38,39,49,50] (.seq (.block 3 (.seq (.reg [qv 52 50,qv 10 52]) (.kill [0,1,2,7,9,10,37,38,39,49,50] (.reg [⟨some 53,.P (.faddr 2 (.t 9)),none⟩,ql 54 53,qv 55 10,qa 56 1 54 55,ql 57 56,qv 58 0,qn 59 58,qk 60 .add 59 1,qo 61 .add 57 60,qa 62 1 54 55,⟨none,.W (.store 1 (.t 62) (.t 61)),none⟩])))) (.kill [0,1,2,7,9,37,38,39,49,50] (.reg [qk 63 .add 50 1,qv 50 63])))))))))))) (.kill [0,1,2,7,9,37,38,39] (.reg [qv 64 7,⟨some 65,.R (.load 6 true (.t 9)),none⟩,⟨some 66,.A (.bslice 39 1 [(.int .i64 0),(.int .i64 0),.nilslice,.nilslice,(.int .i64 0),(.bool false)] [(0,(6,(.t 65)))]),none⟩,⟨some 67,.W (.append 6 80 39 false (.t 64) (.t 66)),none⟩,qv 7 67])))))))) (.kill [0,1,2,7,37,38,39] (.reg [qk 68 .add 39 1,qv 39 68]))))))))))) (.kill [0,1,2,7] (.seq (.reg [qv 69 0,qn 70 69,qv 11 70]) (.kill [0,1,2,7,11] (.seq (.reg [qv 72 0,qv 73 2,qc 74 15 [(.t 72),(.t 73)],qv 71 74,qx 75 71 0,qx 76 71 1,qv 12 75,qv 13 76]) (.kill [0,1,2,7,11,12,13] (.seq (.reg [qv 78 7,qv 79 11,qk 80 .add 79 1,qv 81 2,qo 82 .add 80 81,qc 83 15 [(.t 78),(.t 82)],qv 77 83,qx 84 77 0,qx 85 77 1,qv 14 84,qv 15 85]) (.kill [0,1,2,7,11,12,13,14,15] (.seq (.reg [qv 86 7,qv 87 1,qv 88 2,qc 89 22 [(.t 86),(.t 87),(.t 88)],qv 90 0,qv 91 1,qv 92 2,qc 93 22 [(.t 90),(.t 91),(.t 92)],qo 94 .eql 89 93,qv 95 94,⟨some 96,.P (.mov (.t 7)),(some (95,true))⟩,⟨some 97,.P (.mov (.t 1)),(some (95,true))⟩,⟨some 98,.P (.mov (.t 11)),(some (95,true))⟩,⟨some 99,.C (.c (.func (.func 22) [] [])) [(.t 96),(.t 97),(.t 98)],(some (95,true))⟩,⟨some 100,.P (.bin .eql (.t 99) (qz 0)),(some (95,true))⟩,⟨some 101,.P (.pick (.t 95) (.t 100) (.c (.bool false))),none⟩,qv 102 101,⟨some 103,.P (.mov (.t 7)),(some (102,true))⟩,⟨some 104,.P (.mov (.t 1)),(some (102,true))⟩,⟨some 105,.P (.mov (.t 11)),(some (102,true))⟩,⟨some 106,.P (.bin .add (.t 105) (qz 1)),(some (102,true))⟩,⟨some 107,.P (.mov (.t 1)),(some (102,true))⟩,⟨some 108,.P (.bin .add (.t 106) (.t 107)),(some (102,true))⟩,⟨some 109,.C (.c (.func (.func 22) [] [])) [(.t 103),(.t 104),(.t 108)],(some (102,true))⟩,⟨some 110,.P (.bin .eql (.t 109) (qz 0)),(some (102,true))⟩,⟨some 111,.P (.pick (.t 102) (.t 110) (.c (.bool false))),none⟩,qv 112 111,⟨some 113,.P (.mov (.t 7)),(some (112,true))⟩,⟨some 114,.P (.mov (.t 11)),(some (112,true))⟩,⟨some 115,.P (.bin .add (.t 114) (qz 1)),(some (112,true))⟩,⟨some 116,.P (.mov (.t 1)),(some (112,true))⟩,⟨some 117,.P (.bin .add (.t 115) (.t 116)),(some (112,true))⟩,⟨some 118,.P (.mov (.t 2)),(some (112,true))⟩,⟨some 119,.C (.c (.func (.func 22) [] [])) [(.t 113),(.t 117),(.t 118)],(some (112,true))⟩,⟨some 120,.P (.mov (.t 0)),(some (112,true))⟩,⟨some 121,.P (.mov (.t 1)),(some (112,true))⟩,⟨some 122,.P (.mov (.t 2)),(some (112,true))⟩,⟨some 123,.C (.c (.func (.func 22) [] [])) [(.t 120),(.t 121),(.t 122)],(some (112,true))⟩,⟨some 124,.P (.bin .eql (.t 119) (.t 123)),(some (112,true))⟩,⟨some 125,.P (.pick (.t 112) (.t 124) (.c (.bool false))),none⟩,qv 126 125,⟨some 127,.P (.mov (.t 12)),(some (126,true))⟩,⟨some 128,.P (.mov (.t 14)),(some (126,true))⟩,⟨some 129,.P (.bin .eql (.t 127) (.t 128)),(some (126,true))⟩,⟨some 130,.P (.pick (.t 126) (.t 129) (.c (.bool false))),none⟩,qv 131 130,⟨some 132,.P (.mov (.t 13)),(some (131,true))⟩,⟨some 133,.P (.bin .eql (.t 132) (qz 0)),(some (131,true))⟩,⟨some 134,.P (.pick (.t 131) (.t 133) (.c (.bool false))),none⟩,qv 135 134,⟨some 136,.P (.mov (.t 15)),(some (135,true))⟩,⟨some 137,.P (.bin .eql (.t 136) (qz 0)),(some (135,true))⟩,⟨some 138,.P (.pick (.t 135) (.t 137) (.c (.bool false))),none⟩,qv 6 138]) .ret))))))))))))))))) (E [(.tmp 6)] R .mk) .mk (mat 139 (sArgs 0 args)) m) (hl:Nat.ble args.length 139=true:=by rfl):ACalls Tryz.prog 6 args m R:=walk mix (by kernel_rfl) (Nat.le_of_ble_eq_true hl) h
abbrev h6_0 (t0 t1 t2 t7 t37 t38 t39:AVal):AFrame:=mat 139 [(0,t0),(1,t1),(2,t2),(7,t7),(37,t37),(38,t38),(39,t39)]
abbrev h6_1 (t0 t1 t2 t7 t9 t37 t38 t39 t49 t50:AVal):AFrame:=mat 139 [(0,t0),(1,t1),(2,t2),(7,t7),(9,t9),(37,t37),(38,t38),(39,t39),(49,t49),(50,t50)]
theorem w11 {args m R} (h:W Tryz.prog (.seq (.reg [qb 2 false]) (.kill [0] (.seq (.seq (.reg [qc 12 13 [],⟨some 13,.P (.un .not (.t 12)),none⟩]) (.kill [0,13] (.cond (.t 13) (.seq (.reg [qb 2 false]) .ret) .skip))) (.kill [0] (.seq (.seq (.reg [qv 14 0,qc 15 14 [(.t 14),(qz 10)],⟨some 16,.P (.un .not (.t 15)),none⟩,qv 17 16,⟨some 18,.P (.mov (.t 0)),(some (17,false))⟩,⟨some 19,.C (.c (.func (.func 21) [] [])) [(.t 18),(.c .nilslice)],(some (17,false))⟩,⟨some 20,.P (.un .not (.t 19)),(some (17,false))⟩,⟨some 21,.P (.pick (.t 17) (.c (.bool true)) (.t 20)),none⟩]) (.kill [0,21] (.cond (.t 21) (.seq (.reg [qb 2 true]) .ret) .skip))) (.kill [0] (.seq (.reg [qv 23 0,qc 24 28 [(.t 23)],qv 22 24,qx 25 22 0,qx 26 22 1,qx 27 22 2,⟨some 3,.A (.alloc 22 [.nilslice]),none⟩,⟨none,.W (.store 1 (.t 3) (.t 25)),none⟩,qv 4 26,qv 5 27]) (.kill [0,3,4,5] (.seq (.seq (.reg [qv 28 5,qk 29 .neq 28 0]) (.kill [0,3,4,5,29] (.cond (.t 29) (.seq (.reg [qv 30 5,qk 31 .eql 30 14,qv 32 31,⟨some 33,.R (.load 1 false (.t 3)),(some (32,true))⟩,⟨some 34,.P (.len (.t 33)),(some (32,true))⟩,⟨some 35,.P (.bin .eql (.t 34) (qz 0)),(some (32,true))⟩,⟨some 36,.P (.pick (.t 32) (.t 35) (.c (.bool false))),none⟩,qv 37 36,⟨some 38,.P (.mov (.t 4)),(some (37,true))⟩,⟨some 39,.P (.len (.t 38)),(some (37,true))⟩,⟨some 40,.P (.bin .eql (.t 39) (qz 0)),(some (37,true))⟩,⟨some 41,.P (.pick (.t 37) (.t 40) (.c (.bool false))),none⟩,qv 2 41]) .ret) .skip))) (.kill [0,3,4] (.seq (.seq (.reg [ql 42 3,qc 43 21 [(.t 42),(.c .nilslice)],⟨some 44,.P (.un .not (.t 43)),none⟩,qv 45 44,⟨some 46,.P (.mov (.t 4)),(some (45,false))⟩,⟨some 47,.P (.len (.t 46)),(some (45,false))⟩,⟨some 48,.P (.mov (.t 0)),(some (45,false))⟩,⟨some 49,.P (.len (.t 48)),(some (45,false))⟩,⟨some 50,.P (.bin .neq (.t 47) (.t 49)),(some (45,false))⟩,⟨some 51,.P (.pick (.t 45) (.c (.bool true)) (.t 50)),none⟩]) (.kill [0,3,4,51] (.cond (.t 51) (.seq (.reg [qb 2 false]) .ret) .skip))) (.kill [0,3,4] (.seq (.seq (.reg [qv 52 0,qn 53 52,qi 54 0]) (.kill [0,3,4,53,54] (.block 0 (.kill [0,3,4,53,54] (.loop (.fin [0,3,4,53,54] (.seq (.reg [qo 55 .lss 54 53]) (.seq (.cond (.t 55) .skip (.exit 0)) (.kill [0,3,4,53,54] (.seq (.block 1 (.seq (.reg [qv 56 54,qv 6 56]) (.kill [0,3,4,6,53,54] (.seq (.draw true [qv 58 0,qv 59 6,ql 60 3,qv 61 4,qv 62 6,qa 63 1 61 62,ql 64 63,qc 65 31 [(.t 58),(.t 59),(.t 60),(.t 64)],qv 57 65,qx 66 57 0,qx 67 57 1,qv 7 66,qv 8 67] [[],[],[],[],[],[],[],[],[7],[7],[7],[7],[7]] [[],[],[],[],[],[],[],[],[],[],[],[],[]] [0,1,2,3,4,5,6,7,8,9,10,11,12]) (.kill [0,3,4,7,8,53,54] (.seq (.reg [qv 68 7,⟨some 69,.P (.un .not (.t 68)),none⟩,qv 70 69,⟨some 71,.P (.mov (.t 8)),(some (70,false))⟩,⟨some 72,.P (.bin .neq (.t 71) (qz 0)),(some (70,false))⟩,⟨some 73,.P (.pick (.t 70) (.c (.bool true)) (.t 72)),none⟩]) (.kill [0,3,4,53,54,73] (.cond (.t 73) (.seq (.reg [qb 2 false]) .ret) .skip)))))))) (.kill [0,3,4,53,54] (.reg [qk 74 .add 54 1,qv 54 74])))))))))))) (.kill [3] (.seq (.seq (.reg [qi 9 1]) (.block 2 (.kill [3,9] (.loop (.fin [3,9] (.seq (.seq (.reg [qv 75 9,ql 76 3,qn 77 76,qo 78 .lss 75 77]) (.kill [3,9,78] (.cond (.t 78) .skip (.exit 2)))) (.kill [3,9] (.seq (.block 3 (.seq (.reg [ql 81 3,qv 82 9,qk 83 .sub 82 1,qv 84 9,qc 85 22 [(.t 81),(.t 83),(.t 84)],⟨some 86,.P (.bin .neq (.t 85) (.c (.int .i64 (-1)))),none⟩]) (.kill [3,9,86] (.cond (.t 86) (.seq (.reg [qb 2 false]) .ret) .skip)))) (.kill [3,9] (.reg [qv 79 9,qk 80 .add 79 1,qv 9 80])))))))))) (.kill [3] (.seq (.reg [ql 88 3,qc 89 28 [(.t 88)],qv 87 89,qx 90 87 0,qx 91 87 1,qx 92 87 2,⟨some 11,.A (.alloc 36 [.nilslice]),none⟩,qv 10 90,⟨none,.W (.store 1 (.t 11) (.t 91)),none⟩,qv 5 92]) (.kill [3,5,10,11] (.seq (.reg [qv 93 5,qk 94 .eql 93 0,qv 95 94,⟨some 96,.P (.mov (.t 10)),(some (95,true))⟩,⟨some 97,.R (.load 1 false (.t 3)),(some (95,true))⟩,⟨some 98,.C (.c (.func (.func 30) [] [])) [(.t 96),(.t 97)],(some (95,true))⟩,⟨some 99,.P (.pick (.t 95) (.t 98) (.c (.bool false))),none⟩,qv 100 99,⟨some 101,.R (.load 1 false (.t 11)),(some (100,true))⟩,⟨some 102,.P (.mkfn (.func 37) [] [(.t 3),(.t 11)]),(some (100,true))⟩,⟨some 103,.C (.c (.func (.func 36) [] [])) [(.t 101),(.t 102)],(some (100,true))⟩,⟨some 104,.P (.un .not (.t 103)),(some (100,true))⟩,⟨some 105,.P (.pick (.t 100) (.t 104) (.c (.bool false))),none⟩,qv 2 105]) .ret))))))))))))))))))) (E [(.tmp 2)] R .mk) .mk (mat 106 (sArgs 0 args)) m) (hl:Nat.ble args.length 106=true:=by rfl):ACalls Tryz.prog 11 args m R:=walk mix (by kernel_rfl) (Nat.le_of_ble_eq_true hl) h
abbrev h11_0 (t0 t3 t4 t53 t54:AVal):AFrame:=mat 106 [(0,t0),(3,t3),(4,t4),(53,t53),(54,t54)]
abbrev h11_1 (t3 t9:AVal):AFrame:=mat 106 [(3,t3),(9,t9)]
theorem w13 {args m R} (h:W Tryz.prog (.seq (.reg [qb 0 false]) (.kill [] (.seq (.reg [⟨some 9,.A (.bslice 3 2 [(.int .i64 0)] [(0,(1,(qz 1))),(1,(1,(qz 2)))]),none⟩,⟨some 10,.A (.bslice 9 2 [(.str ⟨#[]⟩)] [(0,(1,(.c (.str ⟨#[118]⟩)))),(1,(1,(.c (.str ⟨#[110,101,120,116]⟩))))]),none⟩,⟨some 11,.P (.build [(.int .i64 0),(.int .i64 0),.nilslice,.nilslice,(.int .i64 0),(.bool false)] [(0,(1,(qz 11))),(2,(1,(.t 9))),(3,(1,(.t 10)))]),none⟩,⟨some 12,.P (.build [(.int .i64 0),(.int .i64 0),.nilslice,.nilslice,(.int .i64 0),(.bool false)] [(0,(1,(qz 3)))]),none⟩,⟨some 13,.A (.bslice 3 1 [(.int .i64 0)] [(0,(1,(qz 3)))]),none⟩,⟨some 14,.P (.build [(.int .i64 0),(.int .i64 0),.nilslice,.nilslice,(.int .i64 0),(.bool false)] [(0,(1,(qz 9))),(2,(1,(.t 13)))]),none⟩,⟨some 15,.A (.bslice 3 2 [(.int .i64 0)] [(0,(1,(qz 1))),(1,(1,(qz 4)))]),none⟩,⟨some 16,.A (.bslice 9 2 [(.str ⟨#[]⟩)] [(0,(1,(.c (.str ⟨#[118]⟩)))),(1,(1,(.c (.str ⟨#[110,101,120,116]⟩))))]),none⟩,⟨some 17,.P (.build [(.int .i64 0),(.int .i64 0),.nilslice,.nilslice,(.int .i64 0),(.bool false)] [(0,(1,(qz 11))),(2,(1,(.t 15))),(3,(1,(.t 16)))]),none⟩,⟨some 18,.A (.bslice 3 1 [(.int .i64 0)] [(0,(1,(qz 0)))]),none⟩,⟨some 19,.P (.build [(.int .i64 0),(.int .i64 0),.nilslice,.nilslice,(.int .i64 0),(.bool false)] [(0,(1,(qz 9))),(2,(1,(.t 18)))]),none⟩,⟨some 20,.A (.bslice 39 5 [(.int .i64 0),(.int .i64 0),.nilslice,.nilslice,(.int .i64 0),(.bool false)] [(0,(6,(.t 11))),(6,(6,(.t 12))),(12,(6,(.t 14))),(18,(6,(.t 17))),(24,(6,(.t 19)))]),none⟩,qv 1 20]) (.kill [1] (.seq (.reg [qv 22 1,qc 23 15 [(.t 22),(qz 2)],qv 21 23,qx 24 21 0,qx 25 21 1,qv 2 24,qv 3 25]) (.kill [1,2,3] (.seq (.reg [qv 27 1,qc 28 17 [(.t 27),(qz 0),(qz 3)],qv 26 28,qx 29 26 0,qx 30 26 1,qv 4 29,qv 5 30]) (.kill [1,2,3,4,5] (.seq (.reg [qv 32 1,qc 33 28 [(.t 32)],qv 31 33,qx 34 31 0,qx 35 31 1,qx 36 31 2,qv 6 34,qv 7 35,qv 8 36]) (.kill [2,3,4,5,6,7,8] (.seq (.reg [qv 37 2,⟨some 38,.P (.bin .eql (.t 37) (.c (.str ⟨#[82,69,70,32,83,84,82,85,67,84,40,73,78,84,32,118,44,32,35,48,32,110,101,120,116,41]⟩))),none⟩,qv 39 38,⟨some 40,.P (.mov (.t 3)),(some (39,true))⟩,⟨some 41,.P (.mov (.t 5)),(some (39,true))⟩,⟨some 42,.P (.bin .add (.t 40) (.t 41)),(some (39,true))⟩,⟨some 43,.P (.mov (.t 8)),(some (39,true))⟩,⟨some 44,.P (.bin .add (.t 42) (.t 43)),(some (39,true))⟩,⟨some 45,.P (.bin .eql (.t 44) (qz 0)),(some (39,true))⟩,⟨some 46,.P (.pick (.t 39) (.t 45) (.c (.bool false))),none⟩,qv 47 46,⟨some 48,.P (.mov (.t 4)),(some (47,true))⟩,⟨some 49,.P (.pick (.t 47) (.t 48) (.c (.bool false))),none⟩,qv 50 49,⟨some 51,.P (.mov (.t 6)),(some (50,true))⟩,⟨some 52,.P (.len (.t 51)),(some (50,true))⟩,⟨some 53,.P (.bin .eql (.t 52) (qz 3)),(some (50,true))⟩,⟨some 54,.P (.pick (.t 50) (.t 53) (.c (.bool false))),none⟩,qv 55 54,⟨some 56,.P (.mov (.t 7)),(some (55,true))⟩,⟨some 57,.A (.bslice 3 5 [(.int .i64 0)] [(0,(1,(qz 2))),(1,(1,(qz 0))),(2,(1,(qz 1))),(3,(1,(qz 2))),(4,(1,(qz 1)))]),(some (55,true))⟩,⟨some 58,.C (.c (.func (.func 27) [] [])) [(.t 56),(.t 57)],(some (55,true))⟩,⟨some 59,.P (.pick (.t 55) (.t 58) (.c (.bool false))),none⟩,qv 0 59]) .ret))))))))))) (E [(.tmp 0)] R .mk) .mk (mat 60 (sArgs 0 args)) m) (hl:Nat.ble args.length 60=true:=by rfl):ACalls Tryz.prog 13 args m R:=walk mix (by kernel_rfl) (Nat.le_of_ble_eq_true hl) h
theorem w15 {args m R} (h:W Tryz.prog (.seq (.reg [⟨some 4,.P (.mov (.c (.str ⟨#[]⟩))),none⟩,qi 5 0]) (.kill [0,1] (.seq (.seq (.reg [qv 8 0,qv 9 1,⟨some 10,.A (.bslice 3 1 [(.int .i64 0)] [(0,(1,(.t 9)))]),none⟩,qc 11 43 [(.t 8),(.t 10)],qv 6 11]) (.kill [0,1,6] (.seq (.reg [qv 12 6,qk 13 .neq 12 0]) (.kill [0,1,6,13] (.cond (.t 13) (.seq (.reg [qv 14 6,⟨some 4,.P (.mov (.c (.str ⟨#[]⟩))),none⟩,qv 5 14]) .ret) .skip))))) (.kill [0,1] (.seq (.reg [qv 15 0,qv 16 0,qc 17 44 [(.t 16)],⟨some 18,.W .mkmap,none⟩,⟨some 19,.P (.build [.nilptr,.nilslice,.nilslice,.nilslice,.nilmap] [(2,(1,(.t 15))),(3,(1,(.t 17))),(4,(1,(.t 18)))]),none⟩,⟨some 20,.A (.box 71 (.t 19)),none⟩,qv 7 20]) (.kill [1,7] (.seq (.reg [qv 21 7,qv 22 1,qc 23 45 [(.t 21),(.t 22)]]) (.kill [7] (.seq (.reg [qv 24 7,⟨some 25,.P (.nilck (.t 24)),none⟩,⟨some 26,.P (.faddr 0 (.t 25)),none⟩,qc 27 46 [(.t 26)],qv 4 27,qi 5 0]) .ret))))))))) (E [(.tmp 4),(.tmp 5)] R .mk) .mk (mat 28 (sArgs 0 args)) m) (hl:Nat.ble args.length 28=true:=by rfl):ACalls Tryz.prog 15 args m R:=walk mix (by kernel_rfl) (Nat.le_of_ble_eq_true hl) h
end Go.Proofs.YtlniliigcnedmaaGreatDoor
namespace Go.Proofs.YtlniliigcnedmaaGreatDoor
open Go Ax
set_option maxRecDepth 100000
theorem w21 {args m R} (h:W Tryz.prog (.seq (.reg [⟨some 2,.A (.box 22 (.t 0)),none⟩,qb 4 false]) (.kill [1,2] (.seq (.reg [ql 5 2,qc 6 52 [(.t 5)],qk 7 .eql 6 0,qv 8 7,⟨some 9,.P (.mov (.t 1)),(some (8,true))⟩,⟨some 10,.P (.mkfn (.func 53) [] [(.t 2)]),(some (8,true))⟩,⟨some 11,.C (.c (.func (.func 36) [] [])) [(.t 9),(.t 10)],(some (8,true))⟩,⟨some 12,.P (.un .not (.t 11)),(some (8,true))⟩,⟨some 13,.P (.pick (.t 8) (.t 12) (.c (.bool false))),none⟩,qv 4 13]) .ret))) (E [(.tmp 4)] R .mk) .mk (mat 14 (sArgs 0 args)) m) (hl:Nat.ble args.length 14=true:=by rfl):ACalls Tryz.prog 21 args m R:=walk mix (by kernel_rfl) (Nat.le_of_ble_eq_true hl) h
theorem w22 {args m R} (h:W Tryz.prog (.seq (.reg [qi 6 0]) (.kill [0,1,2] (.seq (.reg [qv 14 0,qv 15 1,qv 16 2,qc 17 17 [(.t 14),(.t 15),(.t 16)],qv 13 17,qx 18 13 0,qx 19 13 1,qv 7 18,qv 8 19]) (.kill [0,1,2,7,8] (.seq (.reg [qv 21 0,qv 22 1,qv 23 2,qc 24 19 [(.t 21),(.t 22),(.t 23)],qv 20 24,qx 25 20 0,qx 26 20 1,qv 9 25,qv 10 26]) (.kill [0,1,2,7,8,9,10] (.seq (.reg [qv 28 0,qv 29 2,qv 30 1,qc 31 19 [(.t 28),(.t 29),(.t 30)],qv 27 31,qx 32 27 0,qx 33 27 1,qv 11 32,qv 12 33]) (.kill [7,8,9,10,11,12] (.seq (.block 0 (.seq (.reg [qv 35 8,qv 36 10,qo 37 .add 35 36,qv 38 12,qo 39 .add 37 38,qk 40 .neq 39 0,qv 34 40]) (.kill [7,9,11,34] (.cond (.t 34) (.seq (.reg [qi 6 2]) .ret) (.seq (.reg [qv 42 7,qv 43 42,⟨some 44,.P (.mov (.t 9)),(some (43,true))⟩,⟨some 45,.P (.un .not (.t 44)),(some (43,true))⟩,⟨some 46,.P (.pick (.t 43) (.t 45) (.c (.bool false))),none⟩,qv 47 46,⟨some 48,.P (.mov (.t 11)),(some (47,true))⟩,⟨some 49,.P (.un .not (.t 48)),(some (47,true))⟩,⟨some 50,.P (.pick (.t 47) (.t 49) (.c (.bool false))),none⟩,qv 41 50]) (.kill [7,9,11,41] (.cond (.t 41) (.seq (.reg [qi 6 0]) .ret) (.seq (.reg [qv 52 9,qv 53 52,⟨some 54,.P (.mov (.t 7)),(some (53,true))⟩,⟨some 55,.P (.un .not (.t 54)),(some (53,true))⟩,⟨some 56,.P (.pick (.t 53) (.t 55) (.c (.bool false))),none⟩,qv 57 56,⟨some 58,.P (.mov (.t 11)),(some (57,true))⟩,⟨some 59,.P (.un .not (.t 58)),(some (57,true))⟩,⟨some 60,.P (.pick (.t 57) (.t 59) (.c (.bool false))),none⟩,qv 51 60]) (.kill [7,9,11,51] (.cond (.t 51) (.seq (.reg [⟨some 6,.P (.mov (.c (.int .i64 (-1)))),none⟩]) .ret) (.seq (.reg [qv 62 11,qv 63 62,⟨some 64,.P (.mov (.t 7)),(some (63,true))⟩,⟨some 65,.P (.un .not (.t 64)),(some (63,true))⟩,⟨some 66,.P (.pick (.t 63) (.t 65) (.c (.bool false))),none⟩,qv 67 66,⟨some 68,.P (.mov (.t 9)),(some (67,true))⟩,⟨some 69,.P (.un .not (.t 68)),(some (67,true))⟩,⟨some 70,.P (.pick (.t 67) (.t 69) (.c (.bool false))),none⟩,qv 61 70]) (.kill [61] (.cond (.t 61) (.seq (.reg [qi 6 1]) .ret) .skip))))))))))))) (.kill [] (.seq (.reg [qi 6 2]) .ret))))))))))) (E [(.tmp 6)] R .mk) .mk (mat 71 (sArgs 0 args)) m) (hl:Nat.ble args.length 71=true:=by rfl):ACalls Tryz.prog 22 args m R:=walk mix (by kernel_rfl) (Nat.le_of_ble_eq_true hl) h
theorem w37 {args m R} (h:W Tryz.prog (.seq (.reg [qb 4 false]) (.kill [0,1,2] (.seq (.reg [qv 5 0,qk 6 .lss 5 0,qv 7 6,⟨some 8,.P (.mov (.t 0)),(some (7,false))⟩,⟨some 9,.R (.load 1 false (.t 1)),(some (7,false))⟩,⟨some 10,.P (.len (.t 9)),(some (7,false))⟩,⟨some 11,.P (.bin .geq (.t 8) (.t 10)),(some (7,false))⟩,⟨some 12,.P (.pick (.t 7) (.c (.bool true)) (.t 11)),none⟩,qv 13 12,⟨some 14,.R (.load 1 false (.t 2)),(some (13,false))⟩,⟨some 15,.P (.mov (.t 0)),(some (13,false))⟩,⟨some 16,.P (.iaddr 1 (.t 14) (.t 15)),(some (13,false))⟩,⟨some 17,.R (.load 1 false (.t 16)),(some (13,false))⟩,⟨some 18,.P (.mov (.t 0)),(some (13,false))⟩,⟨some 19,.P (.bin .neq (.t 17) (.t 18)),(some (13,false))⟩,⟨some 20,.P (.pick (.t 13) (.c (.bool true)) (.t 19)),none⟩,qv 4 20]) .ret))) (E [(.tmp 4)] R .mk) .mk (mat 21 (sArgs 0 args)) m) (hl:Nat.ble args.length 21=true:=by rfl):ACalls Tryz.prog 37 args m R:=walk mix (by kernel_rfl) (Nat.le_of_ble_eq_true hl) h
theorem w45 {args m R} (h:W Tryz.prog (.seq (.reg [qv 8 0,⟨some 9,.P (.nilck (.t 8)),none⟩,⟨some 10,.P (.faddr 2 (.t 9)),none⟩,ql 11 10,qv 12 1,qa 13 6 11 12,⟨some 14,.R (.load 6 true (.t 13)),none⟩,⟨some 4,.A (.alloc 39 [(.int .i64 0),(.int .i64 0),.nilslice,.nilslice,(.int .i64 0),(.bool false)]),none⟩,⟨none,.W (.store 6 (.t 4) (.t 14)),none⟩]) (.kill [0,1,4] (.seq (.seq (.reg [⟨some 15,.P (.faddr 0 (.t 4)),none⟩,ql 16 15,qk 17 .lss 16 9]) (.kill [0,1,4,17] (.cond (.t 17) (.seq (.draw2 true [qv 18 0,⟨some 19,.P (.nilck (.t 18)),none⟩,⟨some 20,.P (.faddr 0 (.t 19)),none⟩,⟨some 21,.W .mkmap,none⟩,⟨none,.W (.mapset (.t 21) (.c (.int .i64 (-1))) (.c (.str ⟨#[83,72,79,82,84,32]⟩))),none⟩,⟨none,.W (.mapset (.t 21) (qz 1) (.c (.str ⟨#[76,79,78,71,32]⟩))),none⟩,qv 22 21,⟨some 23,.P (.faddr 1 (.t 4)),none⟩,ql 24 23,⟨some 25,.R (.lookup (.str ⟨#[]⟩) false (.t 22) (.t 24)),none⟩,⟨some 26,.P (.faddr 0 (.t 4)),none⟩,ql 27 26,⟨some 28,.P (.iaddrA 9 1 (.c (.gptr 0 0)) (.t 27)),none⟩,ql 29 28,qo 30 .add 25 29,qc 31 88 [(.t 20),(.t 30)]] [[],[],[],[],[],[],[],[],[],[],[],[],[],[],[],[]] [[],[],[],[8,11,13],[8,11,13],[8,11,13],[],[],[],[],[],[],[],[],[],[]] [0,1,2,7,8,10,11,12,13,3,4,5,6,9,14,15] [0,1,2,7,8,10,11,12,13,3,5,4,6,9,14,15]) .ret) .skip))) (.kill [0,1,4] (.seq (.seq (.draw true [qv 33 0,⟨some 34,.P (.nilck (.t 33)),none⟩,⟨some 35,.P (.faddr 4 (.t 34)),none⟩,ql 36 35,qv 37 0,⟨some 38,.P (.nilck (.t 37)),none⟩,⟨some 39,.P (.faddr 3 (.t 38)),none⟩,ql 40 39,qv 41 1,qa 42 1 40 41,ql 43 42,⟨some 44,.R (.lookup (.int .i64 0) true (.t 36) (.t 43)),none⟩,qv 32 44,qx 45 32 0,qx 46 32 1,qv 5 45,qv 6 46] [[],[],[],[],[],[],[],[],[],[],[],[],[],[],[],[],[]] [[],[],[],[],[],[],[],[],[],[],[],[],[],[],[],[],[]] [0,1,2,3,4,5,6,7,8,9,10,11,12,13,14,15,16]) (.kill [0,1,4,5,6] (.seq (.reg [qv 47 6]) (.kill [0,1,4,5,47] (.cond (.t 47) (.seq (.draw true [qv 48 0,⟨some 49,.P (.nilck (.t 48)),none⟩,⟨some 50,.P (.faddr 0 (.t 49)),none⟩,qv 51 5,qc 52 89 [(.t 51)],⟨some 53,.P (.bin .add (.c (.str ⟨#[35]⟩)) (.t 52)),none⟩,qc 54 88 [(.t 50),(.t 53)]] [[],[],[],[],[],[4],[4]] [[],[],[],[],[],[],[]] [0,1,2,3,4,5,6]) .ret) .skip))))) (.kill [0,1,4] (.seq (.draw true [qv 55 0,⟨some 56,.P (.nilck (.t 55)),none⟩,⟨some 57,.P (.faddr 4 (.t 56)),none⟩,ql 58 57,qv 59 0,⟨some 60,.P (.nilck (.t 59)),none⟩,⟨some 61,.P (.faddr 3 (.t 60)),none⟩,ql 62 61,qv 63 1,qa 64 1 62 63,ql 65 64,qv 66 0,⟨some 67,.P (.nilck (.t 66)),none⟩,⟨some 68,.P (.faddr 4 (.t 67)),none⟩,ql 69 68,⟨some 70,.R (.rk .mlen (.t 69)),none⟩,⟨none,.W (.mapset (.t 58) (.t 65) (.t 70)),none⟩] [[],[],[],[],[],[],[],[],[],[],[],[],[],[],[],[],[]] [[],[],[],[],[],[],[],[],[],[],[],[],[],[],[],[],[]] [0,1,2,3,4,5,6,7,8,9,10,11,12,13,14,15,16]) (.kill [0,1,4] (.seq (.seq (.reg [⟨some 71,.P (.faddr 0 (.t 4)),none⟩,ql 72 71]) (.kill [0,1,4,72] (.block 0 (.seq (.reg [qk 74 .eql 72 9,qv 73 74]) (.kill [0,1,4,72,73] (.cond (.t 73) (.reg [qv 75 0,⟨some 76,.P (.nilck (.t 75)),none⟩,⟨some 77,.P (.faddr 0 (.t 76)),none⟩,⟨some 78,.C (.c (.func (.func 88) [] [])) [(.t 77),(.c (.str ⟨#[82,69,70,32]⟩))],none⟩]) (.seq (.reg [qk 80 .eql 72 10,qv 79 80]) (.kill [0,1,4,72,79] (.cond (.t 79) (.seq (.seq (.reg [⟨some 81,.P (.faddr 5 (.t 4)),none⟩,ql 82 81]) (.kill [0,4,82] (.cond (.t 82) (.reg [qv 83 0,⟨some 84,.P (.nilck (.t 83)),none⟩,⟨some 85,.P (.faddr 0 (.t 84)),none⟩,⟨some 86,.C (.c (.func (.func 88) [] [])) [(.t 85),(.c (.str ⟨#[70,76,69,88,32]⟩))],none⟩]) .skip))) (.kill [0,4] (.draw true [qv 87 0,⟨some 88,.P (.nilck (.t 87)),none⟩,⟨some 89,.P (.faddr 0 (.t 88)),none⟩,⟨some 90,.P (.faddr 4 (.t 4)),none⟩,ql 91 90,qk 92 .sub 91 1,⟨some 93,.C (.c (.func (.func 69) [] [])) [(.c (.str ⟨#[44]⟩)),(.t 92)],none⟩,⟨some 94,.P (.bin .add (.c (.str ⟨#[91]⟩)) (.t 93)),none⟩,⟨some 95,.P (.bin .add (.t 94) (.c (.str ⟨#[93]⟩))),none⟩,qc 96 88 [(.t 89),(.t 95)]] [[],[],[],[],[],[],[],[6],[6],[6]] [[],[],[],[],[],[],[],[],[],[]] [0,1,2,3,4,5,6,7,8,9]))) (.seq (.reg [qk 98 .eql 72 11,qv 97 98]) (.kill [0,1,4,72,97] (.cond (.t 97) (.seq (.reg [qv 99 0,⟨some 100,.P (.nilck (.t 99)),none⟩,⟨some 101,.P (.faddr 0 (.t 100)),none⟩,⟨some 102,.C (.c (.func (.func 88) [] [])) [(.t 101),(.c (.str ⟨#[83,84,82,85,67,84]⟩))],none⟩]) (.kill [0,4] (.seq (.reg [qv 103 0,⟨some 104,.P (.faddr 2 (.t 4)),none⟩,ql 105 104,⟨some 106,.P (.faddr 3 (.t 4)),none⟩,ql 107 106,qc 108 90 [(.t 103),(.t 105),(.t 107)]]) .ret))) (.seq (.reg [qk 110 .eql 72 12,qv 109 110]) (.kill [0,1,4,72,109] (.cond (.t 109) (.seq (.reg [qv 111 0,⟨some 112,.P (.nilck (.t 111)),none⟩,⟨some 113,.P (.faddr 0 (.t 112)),none⟩,⟨some 114,.C (.c (.func (.func 88) [] [])) [(.t 113),(.c (.str ⟨#[85,78,73,79,78]⟩))],none⟩]) (.kill [0,1] (.seq (.draw true [qv 115 0,qv 116 0,⟨some 117,.P (.nilck (.t 116)),none⟩,⟨some 118,.P (.faddr 2 (.t 117)),none⟩,ql 119 118,qv 120 1,qv 121 0,⟨some 122,.P (.nilck (.t 121)),none⟩,⟨some 123,.P (.faddr 3 (.t 122)),none⟩,ql 124 123,qc 125 54 [(.t 119),(.t 120),(.t 124)],qc 126 90 [(.t 115),(.t 125),(.c .nilslice)]] [[],[],[],[],[],[],[],[],[],[],[],[10]] [[],[],[],[],[],[],[],[],[],[],[],[]] [0,1,2,3,4,5,6,7,8,9,10,11]) .ret))) (.seq (.reg [qk 128 .eql 72 13,qv 127 128]) (.kill [0,4,127] (.cond (.t 127) (.seq (.reg [qv 129 0,⟨some 130,.P (.nilck (.t 129)),none⟩,⟨some 131,.P (.faddr 0 (.t 130)),none⟩,⟨some 132,.C (.c (.func (.func 88) [] [])) [(.t 131),(.c (.str ⟨#[80,82,79,67]⟩))],none⟩]) (.kill [0,4] (.seq (.seq (.reg [⟨some 133,.P (.faddr 2 (.t 4)),none⟩,ql 134 133,qn 135 134,qk 136 .sub 135 1,qv 7 136]) (.kill [0,4,7] (.seq (.reg [qv 137 7,qk 138 .gtr 137 0]) (.kill [0,4,7,138] (.cond (.t 138) (.reg [qv 139 0,⟨some 140,.P (.faddr 2 (.t 4)),none⟩,ql 141 140,qv 142 7,⟨some 143,.P (.slice 1 (.t 141) none (some (.t 142)) none),none⟩,qc 144 90 [(.t 139),(.t 143),(.c .nilslice)]]) .skip))))) (.kill [0,4] (.reg [qv 145 0,⟨some 146,.P (.nilck (.t 145)),none⟩,⟨some 147,.P (.faddr 0 (.t 146)),none⟩,⟨some 148,.C (.c (.func (.func 88) [] [])) [(.t 147),(.c (.str ⟨#[32]⟩))],none⟩]))))) .skip)))))))))))))))))) (.kill [0,4] (.reg [qv 149 0,⟨some 150,.P (.faddr 2 (.t 4)),none⟩,ql 151 150,⟨some 152,.P (.faddr 2 (.t 4)),none⟩,ql 153 152,qn 154 153,qk 155 .sub 154 1,qa 156 1 151 155,ql 157 156,qc 158 45 [(.t 149),(.t 157)]]))))))))))) (E [] R .mk) .mk (mat 159 (sArgs 0 args)) m) (hl:Nat.ble args.length 159=true:=by rfl):ACalls Tryz.prog 45 args m R:=walk mix (by kernel_rfl) (Nat.le_of_ble_eq_true hl) h
theorem w46 {args m R} (h:W Tryz.prog (.seq (.reg [⟨some 2,.P (.mov (.c (.str ⟨#[]⟩))),none⟩]) (.kill [0] (.seq (.draw true [qv 3 0,⟨some 4,.P (.nilck (.t 3)),none⟩,⟨some 5,.P (.faddr 1 (.t 4)),none⟩,ql 6 5,⟨some 7,.P (.sdata (.t 6)),none⟩,qv 8 0,⟨some 9,.P (.nilck (.t 8)),none⟩,⟨some 10,.P (.faddr 1 (.t 9)),none⟩,ql 11 10,qn 12 11,⟨some 13,.W (.ustr 5 (.t 7) (.t 12)),none⟩,qv 2 13] [[],[],[],[],[],[],[],[],[],[],[],[]] [[],[],[],[],[],[],[],[],[],[],[],[]] [0,1,2,3,4,5,6,7,8,9,10,11]) .ret))) (E [(.tmp 2)] R .mk) .mk (mat 14 (sArgs 0 args)) m) (hl:Nat.ble args.length 14=true:=by rfl):ACalls Tryz.prog 46 args m R:=walk mix (by kernel_rfl) (Nat.le_of_ble_eq_true hl) h
theorem w53 {args m R} (h:W Tryz.prog (.seq (.reg [qb 3 false]) (.kill [0,1] (.seq (.reg [qv 4 0,qk 5 .lss 4 0,qv 6 5,⟨some 7,.P (.mov (.t 0)),(some (6,false))⟩,⟨some 8,.R (.load 1 false (.t 1)),(some (6,false))⟩,⟨some 9,.P (.len (.t 8)),(some (6,false))⟩,⟨some 10,.P (.bin .geq (.t 7) (.t 9)),(some (6,false))⟩,⟨some 11,.P (.pick (.t 6) (.c (.bool true)) (.t 10)),none⟩,qv 3 11]) .ret))) (E [(.tmp 3)] R .mk) .mk (mat 12 (sArgs 0 args)) m) (hl:Nat.ble args.length 12=true:=by rfl):ACalls Tryz.prog 53 args m R:=walk mix (by kernel_rfl) (Nat.le_of_ble_eq_true hl) h
theorem w88 {args m R} (h:W Tryz.prog (.seq (.reg [qi 4 0,⟨some 5,.P (.mov (.c .niliface)),none⟩]) (.kill [0,1] (.seq (.reg [qv 6 0,qc 7 120 [(.t 6)]]) (.kill [0,1] (.seq (.reg [qv 8 0,qv 9 0,⟨some 10,.P (.nilck (.t 9)),none⟩,⟨some 11,.P (.faddr 1 (.t 10)),none⟩,ql 12 11,qv 13 1,⟨some 14,.W (.append 1 1 5 true (.t 12) (.t 13)),none⟩,⟨some 15,.P (.nilck (.t 8)),none⟩,⟨some 16,.P (.faddr 1 (.t 15)),none⟩,⟨none,.W (.store 1 (.t 16) (.t 14)),none⟩]) (.kill [1] (.seq (.reg [qv 17 1,⟨some 18,.P (.lenS (.t 17)),none⟩,qv 4 18,⟨some 5,.P (.mov (.c .niliface)),none⟩]) .ret))))))) (E [(.tmp 4),(.tmp 5)] R .mk) .mk (mat 19 (sArgs 0 args)) m) (hl:Nat.ble args.length 19=true:=by rfl):ACalls Tryz.prog 88 args m R:=walk mix (by kernel_rfl) (Nat.le_of_ble_eq_true hl) h
theorem w89 {args m R} (h:W Tryz.prog (.seq (.reg [⟨some 2,.P (.mov (.c (.str ⟨#[]⟩))),none⟩]) (.kill [0] (.seq (.reg [qv 3 0,qc 4 121 [(.t 3)],qv 2 4]) .ret))) (E [(.tmp 2)] R .mk) .mk (mat 5 (sArgs 0 args)) m) (hl:Nat.ble args.length 5=true:=by rfl):ACalls Tryz.prog 89 args m R:=walk mix (by kernel_rfl) (Nat.le_of_ble_eq_true hl) h
theorem w90 {args m R} (h:W Tryz.prog (.seq (.reg [qv 8 0,⟨some 9,.P (.nilck (.t 8)),none⟩,⟨some 10,.P (.faddr 0 (.t 9)),none⟩,⟨some 11,.C (.c (.func (.func 88) [] [])) [(.t 10),(.c (.str ⟨#[40]⟩))],none⟩]) (.kill [0,1,2] (.seq (.seq (.reg [qv 12 1,qn 13 12,qi 14 0]) (.kill [0,2,12,13,14] (.block 0 (.kill [0,2,12,13,14] (.loop (.fin [0,2,12,13,14] (.seq (.reg [qo 15 .lss 14 13]) (.seq (.cond (.t 15) .skip (.exit 0)) (.kill [0,2,12,13,14] (.seq (.block 1 (.seq (.reg [qv 16 14,qa 17 1 12 14,ql 18 17,qv 6 16,qv 7 18]) (.kill [0,2,6,7,12,13,14] (.seq (.seq (.reg [qv 19 6,qk 20 .gtr 19 0]) (.kill [0,2,6,7,12,13,14,20] (.cond (.t 20) (.reg [qv 21 0,⟨some 22,.P (.nilck (.t 21)),none⟩,⟨some 23,.P (.faddr 0 (.t 22)),none⟩,⟨some 24,.C (.c (.func (.func 88) [] [])) [(.t 23),(.c (.str ⟨#[44,32]⟩))],none⟩]) .skip))) (.kill [0,2,6,7,12,13,14] (.seq (.reg [qv 25 0,qv 26 7,qc 27 45 [(.t 25),(.t 26)]]) (.kill [0,2,6,12,13,14] (.seq (.reg [qv 28 2,⟨some 29,.P (.eqN .slice true (.t 28)),none⟩]) (.kill [0,2,6,12,13,14,29] (.cond (.t 29) (.draw true [qv 30 0,⟨some 31,.P (.nilck (.t 30)),none⟩,⟨some 32,.P (.faddr 0 (.t 31)),none⟩,qv 33 2,qv 34 6,qa 35 1 33 34,ql 36 35,⟨some 37,.P (.bin .add (.c (.str ⟨#[32]⟩)) (.t 36)),none⟩,qc 38 88 [(.t 32),(.t 37)]] [[],[],[],[],[],[],[],[],[]] [[],[],[],[],[],[],[],[],[]] [0,1,2,3,4,5,6,7,8]) .skip)))))))))) (.kill [0,2,12,13,14] (.reg [qk 39 .add 14 1,qv 14 39])))))))))))) (.kill [0] (.reg [qv 40 0,⟨some 41,.P (.nilck (.t 40)),none⟩,⟨some 42,.P (.faddr 0 (.t 41)),none⟩,⟨some 43,.C (.c (.func (.func 88) [] [])) [(.t 42),(.c (.str ⟨#[41]⟩))],none⟩]))))) (E [] R .mk) .mk (mat 44 (sArgs 0 args)) m) (hl:Nat.ble args.length 44=true:=by rfl):ACalls Tryz.prog 90 args m R:=walk mix (by kernel_rfl) (Nat.le_of_ble_eq_true hl) h
abbrev h90_0 (t0 t2 t12 t13 t14:AVal):AFrame:=mat 44 [(0,t0),(2,t2),(12,t12),(13,t13),(14,t14)]
end Go.Proofs.YtlniliigcnedmaaGreatDoor
namespace Go.Proofs.YtlniliigcnedmaaGreatDoor
open Go Ax
set_option maxRecDepth 100000
theorem w120 {args m R} (h:W Tryz.prog (.seq (.reg [qv 2 0,⟨some 3,.P (.nilck (.t 2)),none⟩,⟨some 4,.P (.faddr 0 (.t 3)),none⟩,ql 5 4,⟨some 6,.P (.eqN .ptr false (.t 5)),none⟩]) (.kill [0,6] (.cond (.t 6) (.reg [qv 7 0,qv 8 0,⟨some 9,.R (.rk .p2u (.t 8)),none⟩,qv 10 9,⟨some 11,.R (.rk (.u2p [(69,2),(70,5),(71,5)]) (.t 10)),none⟩,⟨some 12,.P (.nilck (.t 7)),none⟩,⟨some 13,.P (.faddr 0 (.t 12)),none⟩,⟨none,.W (.store 1 (.t 13) (.t 11)),none⟩]) (.seq (.reg [qv 14 0,⟨some 15,.P (.nilck (.t 14)),none⟩,⟨some 16,.P (.faddr 0 (.t 15)),none⟩,ql 17 16,qv 18 0,⟨some 19,.P (.eqP true (.t 17) (.t 18)),none⟩]) (.kill [19] (.cond (.t 19) .bad .skip)))))) (E [] R .mk) .mk (mat 20 (sArgs 0 args)) m) (hl:Nat.ble args.length 20=true:=by rfl):ACalls Tryz.prog 120 args m R:=walk mix (by kernel_rfl) (Nat.le_of_ble_eq_true hl) h
theorem w121 {args m R} (h:W Tryz.prog (.seq (.reg [⟨some 2,.P (.mov (.c (.str ⟨#[]⟩))),none⟩]) (.kill [0] (.seq (.reg [qv 3 0,qc 4 167 [(.t 3),(qz 10)],qv 2 4]) .ret))) (E [(.tmp 2)] R .mk) .mk (mat 5 (sArgs 0 args)) m) (hl:Nat.ble args.length 5=true:=by rfl):ACalls Tryz.prog 121 args m R:=walk mix (by kernel_rfl) (Nat.le_of_ble_eq_true hl) h
end Go.Proofs.YtlniliigcnedmaaGreatDoor
namespace Go.Proofs.YtlniliigcnedmaaGreatDoor
open Go Ax
set_option maxRecDepth 100000
def u8A (b:UInt8):AVal:= .int .u8 b.toNat
instance:Cell u8A:=⟨fun _=>rfl,fun _=>rfl⟩
def nilckE:AVal→Option AVal
 | .ptr b o=>some (.ptr b o)
 | .func (.func f) fs cs=>some (.func (.func f) fs cs)
 |_=>none
@[simp] theorem ev_nilck {a:AFrame} (x:Arg):POp.ev a (.nilck x)=nilckE (a.ev x):=rfl
@[simp] theorem nilckE_ptr (b o:Nat):nilckE (.ptr b o)=some (.ptr b o):=rfl
@[simp] theorem ev_appendS {a:AFrame} {m:AMem} (n by_:Nat) (ty:TypeId) (s x:Arg):WOp.ev a m (.append n by_ ty true s x)=(match a.ev x with
 | .str t=>appendE m n by_ ty (a.ev s) t.size (bytesOf t)
 |_=>none):=rfl
theorem Ax.OwL.own {α:Type} {f:α→AVal} {lo:Nat} {m:AMem} {ty:TypeId} {s:AVal} {xs:List α} (h:OwL f lo m ty s xs) {b:Nat} (hb:s.blk=some b): ∃bl g,m[b]? =some (.own bl ty g):=by
 rcases h with ⟨rfl,_⟩|⟨b',o,cap,gr,bl,gr',rfl,_,h1,_⟩
 ·cases hb
 ·simp only[AVal.blk,Option.some.injEq] at hb
  subst hb
  exact ⟨bl,gr',h1⟩
def Wr (b:Nat) (bf:AVal) (m:AMem) (bf':AVal) (m':AMem):Prop:=Ch (fun c=>c=b∨bf.blk=some c) m m'∧ ∀c,bf'.blk=some c→bf.blk=some c∨m.length≤c
theorem k120 (b:Nat) (ad bf x y z:AVal) (m:AMem) (hb:m[b]? =some (.own [ad,bf,x,y,z] 71 none)) (had:ad= .nilptr∨ad= .ptr b 0):
  ACalls Tryz.prog 120 [.ptr b 0] m fun _ m'=>m'[b]? =some (.own [.ptr b 0,bf,x,y,z] 71 none)∧Ch (fun c=>c=b) m m':=by
 refine w120 ?_
 rcases had with rfl|rfl
 ·simp[bx (own_read hb),p2uE,u2pE,hb]
  obtain ⟨m1,hst,hb1,hch⟩:=fld_store (i:=0) (v:= .ptr b 0) hb (by simp) rfl rfl
  simp[hst]
  exact ⟨by simpa using hb1,hch⟩
 ·simp[bx (own_read hb)]
  exact ⟨hb,.refl _ _⟩
theorem k88 (b lo:Nat) (ad bf x y z:AVal) (bs:List UInt8) (t:ByteArray) (m:AMem) (hb:m[b]? =some (.own [ad,bf,x,y,z] 71 none)) (had:ad= .nilptr∨ad= .ptr b 0) (hlo:lo≤m.length) (hO:OwL u8A lo m 5 bf bs) (hsz:bs.length+t.size≤140737488355328):
  ACalls Tryz.prog 88 [.ptr b 0,.str t] m fun _ m'=> ∃bf',m'[b]? =some (.own [.ptr b 0,bf',x,y,z] 71 none)∧OwL u8A lo m' 5 bf' (bs++t.data.toList)∧Wr b bf m bf' m':=by
 refine w88 ?_
 simp
 have hne:bf.blk≠some b:=fun e=>by
  obtain ⟨bl,g,hbl⟩: ∃bl g,m[b]? =some (.own bl 5 g):=hO.own e
  rw[hb] at hbl
  simp at hbl
 refine C_of (k120 b ad bf x y z m hb had) ?_
 rintro _ m1 ⟨hb1,hch1⟩
 have hO1:=hO.ch hch1 fun c hc e=>hne (e▸hc)
 obtain ⟨bf',m2,happ,hch2,hO2,hbl⟩:=hO1.append (by have:=hch1.len;omega) (by_:=1) (by decide) t.data.toList (by have:t.data.toList.length=t.size:=rfl;omega)
 have happ':appendE m1 1 1 5 bf t.size (bytesOf t)=some (bf',m2):=happ
 have hb2:=own_ch hb1 hch2 fun e=>hne e
 have hself:=(Ow.sl hO2).self
 obtain ⟨m3,hst,hb3,hch3⟩:=fld_store (i:=1) (v:=bf') hb2 (by simp) hself.2 hself.1
 simp[bx (own_read hb1),happ',hst]
 have hne':bf'.blk≠some b:=fun e=>by
  obtain ⟨bl,g,hbl⟩: ∃bl g,m2[b]? =some (.own bl 5 g):=hO2.own e
  rw[hb2] at hbl
  simp at hbl
 refine ⟨bf',by simpa using hb3,hO2.ch hch3 fun c hc e=>hne' (e▸hc),((hch1.weaken fun c _ h=> .inl h).trans (hch2.weaken fun c _ h=> .inr h)).trans (hch3.weaken fun c _ h=> .inl h),fun c hc=>?_⟩
 rcases hbl c hc with h|h
 ·exact .inl h
 ·exact .inr (by have:=hch1.len;omega)
end Go.Proofs.YtlniliigcnedmaaGreatDoor
namespace Go.Proofs
open Go.Shelf
def Tryz.lays105_ren:Go.Shelf.Ren:=⟨fun|105=>69|212=>111|99=>112|165=>110|166=>88|170=>113|169=>46|263=>142|264=>143|206=>144|240=>120|241=>141|276=>166|277=>180|n=>n,fun|9=>9|3=>3|4=>4|20=>20|0=>0|46=>128|109=>129|5=>5|72=>69|76=>108|51=>146|146=>147|53=>149|148=>150|70=>66|37=>67|75=>107|127=>113|164=>167|80=>73|n=>n,fun|n=>n⟩
theorem Tryz.lays105:Go.Proofs.Lays.n105 Tryz.prog Tryz.lays105_ren:={
 mixed:=by kernel_rfl
 f99:=Tryz.func112.trans (congrArg some (by kernel_rfl))
 f105:=Tryz.func69.trans (congrArg some (by kernel_rfl))
 f165:=Tryz.func110.trans (congrArg some (by kernel_rfl))
 f166:=Tryz.func88.trans (congrArg some (by kernel_rfl))
 f169:=Tryz.func46.trans (congrArg some (by kernel_rfl))
 f170:=Tryz.func113.trans (congrArg some (by kernel_rfl))
 f206:=Tryz.func144.trans (congrArg some (by kernel_rfl))
 f212:=Tryz.func111.trans (congrArg some (by kernel_rfl))
 f240:=Tryz.func120.trans (congrArg some (by kernel_rfl))
 f241:=Tryz.func141.trans (congrArg some (by kernel_rfl))
 f263:=Tryz.func142.trans (congrArg some (by kernel_rfl))
 f264:=Tryz.func143.trans (congrArg some (by kernel_rfl))
 f276:=Tryz.func166.trans (congrArg some (by kernel_rfl))
 f277:=Tryz.func180.trans (congrArg some (by kernel_rfl))
 t0:=Tryz.underlying0
 a0:=Tryz.isAgg0
 z0:=Tryz.sizeOf0
 v0:=Tryz.zeroValue0
 t3:=Tryz.underlying3
 a3:=Tryz.isAgg3
 z3:=Tryz.sizeOf3
 v3:=Tryz.zeroValue3
 t4:=Tryz.underlying4
 a4:=Tryz.isAgg4
 z4:=Tryz.sizeOf4
 v4:=Tryz.zeroValue4
 t5:=Tryz.underlying5
 a5:=Tryz.isAgg5
 z5:=Tryz.sizeOf5
 v5:=Tryz.zeroValue5
 t9:=Tryz.underlying9
 a9:=Tryz.isAgg9
 z9:=Tryz.sizeOf9
 v9:=Tryz.zeroValue9
 t20:=Tryz.underlying20
 a20:=Tryz.isAgg20
 z20:=Tryz.sizeOf20
 v20:=Tryz.zeroValue20
 t37:=Tryz.underlying67
 a37:=Tryz.isAgg67
 z37:=Tryz.sizeOf67
 v37:=Tryz.zeroValue67
 t46:=Tryz.underlying128
 a46:=Tryz.isAgg128
 z46:=Tryz.sizeOf128
 v46:=Tryz.zeroValue128
 t51:=Tryz.underlying146
 a51:=Tryz.isAgg146
 z51:=Tryz.sizeOf146
 v51:=Tryz.zeroValue146
 t53:=Tryz.underlying149
 a53:=Tryz.isAgg149
 z53:=Tryz.sizeOf149
 v53:=Tryz.zeroValue149
 t70:=Tryz.underlying66
 a70:=Tryz.isAgg66
 z70:=Tryz.sizeOf66
 v70:=Tryz.zeroValue66
 t72:=Tryz.underlying69
 a72:=Tryz.isAgg69
 z72:=Tryz.sizeOf69
 v72:=Tryz.zeroValue69
 t75:=Tryz.underlying107
 a75:=Tryz.isAgg107
 z75:=Tryz.sizeOf107
 v75:=Tryz.zeroValue107
 t76:=Tryz.underlying108
 a76:=Tryz.isAgg108
 z76:=Tryz.sizeOf108
 v76:=Tryz.zeroValue108
 t109:=Tryz.underlying129
 a109:=Tryz.isAgg129
 z109:=Tryz.sizeOf129
 v109:=Tryz.zeroValue129
 t127:=Tryz.underlying113
 a127:=Tryz.isAgg113
 z127:=Tryz.sizeOf113
 v127:=Tryz.zeroValue113
 t146:=Tryz.underlying147
 a146:=Tryz.isAgg147
 z146:=Tryz.sizeOf147
 v146:=Tryz.zeroValue147
 t148:=Tryz.underlying150
 a148:=Tryz.isAgg150
 z148:=Tryz.sizeOf150
 v148:=Tryz.zeroValue150
 t164:=Tryz.underlying167
 a164:=Tryz.isAgg167
 z164:=Tryz.sizeOf167
 v164:=Tryz.zeroValue167}
theorem Tryz.Builder_Extra_105:Builder.Extra Tryz.prog Tryz.lays105_ren:={
 sizeBuilder:=by kernel_rfl
 liesBuilder:=by kernel_rfl
 t5:=Tryz.underlying5
 a5:=Tryz.isAgg5
 z5:=Tryz.sizeOf5
 v5:=Tryz.zeroValue5
 infoByte:=by kernel_rfl
 cellsByte:=by kernel_rfl
 sizeByte:=by kernel_rfl
 neB5:=by decide}
open Go.RowKit Go.Lib in
theorem Tryz.strings_Repeat (s:ByteArray) (c:Nat) (w:World) (hc:c≤9223372036854775807) (hlen:s.size*c≤140737488355328):
  Calls Tryz.prog 69 #[.string s,.int .i64 c] w fun e w'=>e= .returned (.string ⟨(Lib.repeatL s.data.toList c).toArray⟩)∧Below w.heap.size w w':=Any.strings_Repeat Tryz.lays105 Tryz.Builder_Extra_105 s c w hc hlen
end Go.Proofs
namespace Go.Proofs.YtlniliigcnedmaaGreatDoor
open Go Ax
set_option maxRecDepth 100000
theorem w167 {args m R} (h:W Tryz.prog (.seq (.reg [⟨some 4,.P (.mov (.c (.str ⟨#[]⟩))),none⟩]) (.kill [0,1] (.seq (.seq (.reg [qv 10 1,qk 11 .eql 10 10]) (.kill [0,1,11] (.cond (.t 11) (.seq (.seq (.reg [qv 12 0,⟨some 13,.P (.bin .leq (qz 0) (.t 12)),none⟩,qv 14 13,⟨some 15,.P (.mov (.t 0)),(some (14,true))⟩,⟨some 16,.P (.bin .lss (.t 15) (qz 100)),(some (14,true))⟩,⟨some 17,.P (.pick (.t 14) (.t 16) (.c (.bool false))),none⟩]) (.kill [0,17] (.cond (.t 17) (.seq (.reg [qv 18 0,qc 19 190 [(.t 18)],qv 4 19]) .ret) .skip))) (.kill [0] (.seq (.reg [⟨some 5,.A (.alloc 187 [(.int .u8 0),(.int .u8 0),(.int .u8 0),(.int .u8 0),(.int .u8 0),(.int .u8 0),(.int .u8 0),(.int .u8 0),(.int .u8 0),(.int .u8 0),(.int .u8 0),(.int .u8 0),(.int .u8 0),(.int .u8 0),(.int .u8 0),(.int .u8 0),(.int .u8 0),(.int .u8 0),(.int .u8 0),(.int .u8 0),(.int .u8 0),(.int .u8 0),(.int .u8 0),(.int .u8 0)]),none⟩]) (.seq (.reg [qv 20 0,⟨some 21,.P (.i2i .u64 (.t 20)),none⟩,qv 6 21]) (.kill [0,5,6] (.seq (.seq (.reg [qv 22 0,qk 23 .lss 22 0]) (.kill [0,5,6,23] (.cond (.t 23) (.reg [qv 24 6,⟨some 25,.P (.un .neg (.t 24)),none⟩,qv 6 25]) .skip))) (.kill [0,5,6] (.seq (.reg [qv 26 6,qc 27 191 [(.t 26)],qv 7 27]) (.kill [0,5,6,7] (.seq (.reg [qv 28 7,⟨some 29,.P (.bin .add (qz 1) (.t 28)),none⟩,⟨some 30,.P (.sliceA 24 1 (.t 5) (some (qz 1)) (some (.t 29))),none⟩,qv 31 6,qc 32 192 [(.t 30),(.t 31)]]) (.kill [0,5,7] (.seq (.seq (.reg [qv 33 0,qk 34 .lss 33 0]) (.kill [5,7,34] (.cond (.t 34) (.seq (.reg [⟨some 35,.P (.iaddrA 24 1 (.t 5) (qz 0)),none⟩,⟨none,.W (.store 1 (.t 35) (.c (.int .u8 45))),none⟩]) (.kill [5,7] (.seq (.reg [qv 36 7,⟨some 37,.P (.bin .add (qz 1) (.t 36)),none⟩,⟨some 38,.P (.sliceA 24 1 (.t 5) none (some (.t 37))),none⟩,⟨some 39,.R (.rk .b2s (.t 38)),none⟩,qv 4 39]) .ret))) .skip))) (.kill [5,7] (.seq (.reg [qv 40 7,⟨some 41,.P (.bin .add (qz 1) (.t 40)),none⟩,⟨some 42,.P (.sliceA 24 1 (.t 5) (some (qz 1)) (some (.t 41))),none⟩,⟨some 43,.R (.rk .b2s (.t 42)),none⟩,qv 4 43]) .ret)))))))))))))) .skip))) (.kill [0,1] (.seq (.reg [qv 45 0,⟨some 46,.P (.i2i .u64 (.t 45)),none⟩,qv 47 1,qv 48 0,qk 49 .lss 48 0,qc 50 193 [(.c .nilslice),(.t 46),(.t 47),(.t 49),(.c (.bool false))],qv 44 50,qx 51 44 0,qx 52 44 1,qv 8 51,qv 9 52]) (.kill [9] (.seq (.reg [qv 53 9,qv 4 53]) .ret))))))) (E [(.tmp 4)] R .mk) .mk (mat 54 (sArgs 0 args)) m) (hl:Nat.ble args.length 54=true:=by rfl):ACalls Tryz.prog 167 args m R:=walk mix (by kernel_rfl) (Nat.le_of_ble_eq_true hl) h
theorem w190 {args m R} (h:W Tryz.prog (.seq (.reg [⟨some 2,.P (.mov (.c (.str ⟨#[]⟩))),none⟩]) (.kill [0] (.seq (.seq (.reg [qv 3 0,qk 4 .lss 3 10]) (.kill [0,4] (.cond (.t 4) (.seq (.reg [qv 5 0,qv 6 0,qk 7 .add 6 1,⟨some 8,.P (.sliceS (.c (.str ⟨#[48,49,50,51,52,53,54,55,56,57,97,98,99,100,101,102,103,104,105,106,107,108,109,110,111,112,113,114,115,116,117,118,119,120,121,122]⟩)) (some (.t 5)) (some (.t 7))),none⟩,qv 2 8]) .ret) .skip))) (.kill [0] (.seq (.reg [qv 9 0,qk 10 .mul 9 2,qv 11 0,qk 12 .mul 11 2,qk 13 .add 12 2,⟨some 14,.P (.sliceS (.c (.str ⟨#[48,48,48,49,48,50,48,51,48,52,48,53,48,54,48,55,48,56,48,57,49,48,49,49,49,50,49,51,49,52,49,53,49,54,49,55,49,56,49,57,50,48,50,49,50,50,50,51,50,52,50,53,50,54,50,55,50,56,50,57,51,48,51,49,51,50,51,51,51,52,51,53,51,54,51,55,51,56,51,57,52,48,52,49,52,50,52,51,52,52,52,53,52,54,52,55,52,56,52,57,53,48,53,49,53,50,53,51,53,52,53,53,53,54,53,55,53,56,53,57,54,48,54,49,54,50,54,51,54,52,54,53,54,54,54,55,54,56,54,57,55,48,55,49,55,50,55,51,55,52,55,53,55,54,55,55,55,56,55,57,56,48,56,49,56,50,56,51,56,52,56,53,56,54,56,55,56,56,56,57,57,48,57,49,57,50,57,51,57,52,57,53,57,54,57,55,57,56,57,57]⟩)) (some (.t 10)) (some (.t 13))),none⟩,qv 2 14]) .ret))))) (E [(.tmp 2)] R .mk) .mk (mat 15 (sArgs 0 args)) m) (hl:Nat.ble args.length 15=true:=by rfl):ACalls Tryz.prog 190 args m R:=walk mix (by kernel_rfl) (Nat.le_of_ble_eq_true hl) h
end Go.Proofs.YtlniliigcnedmaaGreatDoor
namespace Go.Proofs.YtlniliigcnedmaaGreatDoor
open Go Ax Go.RowKit
set_option maxRecDepth 100000
theorem Ax.Sim.below {ρ:List RB} {m:AMem} {w w':World} (h:Sim ρ m w) (hb:Below w.heap.size w w'):Sim ρ m w'∧Evol ρ m w ρ m w':=
 ⟨⟨h.len,fun b blk a h1 h2=>(h.ok b blk a h1 h2).heapA (hb.block _ (h.bound b a h2)),h.sep,fun b a ha=>Nat.lt_of_lt_of_le (h.bound b a ha) hb.size⟩,⟨List.prefix_refl _,hb.os,hb.tape,hb.output,hb.size,fun r hr _=>hb.block r hr,fun r hr=> .inr hr⟩⟩
theorem Ax.ACalls.of_below {P:Program} {f:FuncId} {args:List AVal} {m:AMem} {x:AVal} (hc:Callable P f) {v:Value} (hx:VR [] x v) (h: ∀(w:World) (args':Array Value) (ρ:List RB),VRs ρ args args'.toList→Calls P f args' w fun e w'=>e= .returned v∧Below w.heap.size w w'):ACalls P f args m fun y m'=>y=x∧m'=m:=
 ⟨hc,fun ρ w args' hs _ hv=>(h w args' ρ hv).mono fun _ _ ⟨he,hb⟩=>⟨v,x,m,ρ,he,⟨rfl,rfl⟩,VR.mono List.nil_prefix x v hx,hs.below hb⟩⟩
theorem repeatL_one: ∀c:Nat,Lib.repeatL [44] c=List.replicate c 44
 |0=>rfl
 |c+1=>by rw[Lib.repeatL,repeatL_one c];rfl
theorem k69 (c:Nat) (hc:c≤1000) (m:AMem):ACalls Tryz.prog 69 [.str ⟨#[44]⟩,.int .i64 c] m fun v m'=>v= .str ⟨(List.replicate c 44).toArray⟩∧m'=m:=by
 refine ACalls.of_below (v:= .string ⟨(List.replicate c 44).toArray⟩) ⟨_,Tryz.func69,by kernel_rfl,by kernel_rfl⟩ (by simp[VR]) fun w args' ρ hv=>?_
 simp only[VRs,VR] at hv
 obtain ⟨_,_,e1,rfl,_,_,rfl,rfl,rfl⟩:=hv
 obtain rfl:args'= #[.string ⟨#[44]⟩,.int .i64 c]:=by rw[←Array.toList_inj];simpa using e1
 have h:= Tryz.strings_Repeat ⟨#[44]⟩ c w (by omega) (by show 1*c≤_;omega)
 rw[show (⟨#[44]⟩:ByteArray).data.toList= [44] from rfl,repeatL_one] at h
 exact h
theorem small_lo: ∀n<10,(⟨#[48,49,50,51,52,53,54,55,56,57,97,98,99,100,101,102,103,104,105,106,107,108,109,110,111,112,113,114,115,116,117,118,119,120,121,122]⟩:ByteArray).extract n (n+1)=⟨(digB 20 n).toArray⟩:=by decide
theorem small_hi: ∀n<100,10≤n→(⟨#[48,48,48,49,48,50,48,51,48,52,48,53,48,54,48,55,48,56,48,57,49,48,49,49,49,50,49,51,49,52,49,53,49,54,49,55,49,56,49,57,50,48,50,49,50,50,50,51,50,52,50,53,50,54,50,55,50,56,50,57,51,48,51,49,51,50,51,51,51,52,51,53,51,54,51,55,51,56,51,57,52,48,52,49,52,50,52,51,52,52,52,53,52,54,52,55,52,56,52,57,53,48,53,49,53,50,53,51,53,52,53,53,53,54,53,55,53,56,53,57,54,48,54,49,54,50,54,51,54,52,54,53,54,54,54,55,54,56,54,57,55,48,55,49,55,50,55,51,55,52,55,53,55,54,55,55,55,56,55,57,56,48,56,49,56,50,56,51,56,52,56,53,56,54,56,55,56,56,56,57,57,48,57,49,57,50,57,51,57,52,57,53,57,54,57,55,57,56,57,57]⟩:ByteArray).extract (2*n) (2*n+2)=⟨(digB 20 n).toArray⟩:=by decide
theorem sliceS_ev {a:AFrame} {x lo hi:Arg} {s:ByteArray} {l h:Nat} (hx:a.ev x= .str s) (hl:a.ev lo= .int .i64 (l:Nat)) (hh:a.ev hi= .int .i64 (h:Nat)) (h1:l≤h) (h2:h≤s.size):POp.ev a (.sliceS x (some lo) (some hi))=some (.str (s.extract l h)):=by
 simp[POp.ev,bnd,hx,hl,hh,h1,h2]
theorem k190 (n:Nat) (hn:n<100) (m:AMem):ACalls Tryz.prog 190 [.int .i64 n] m fun v m'=>v= .str ⟨(digB 20 n).toArray⟩∧m'=m:=by
 refine w190 ?_
 have hw:IntKind.i64.wrap ((n:Int)+1)=((n+1:Nat):Int):=wrap64 (by omega) (by omega)
 have hw2:IntKind.i64.wrap ((n:Int)*2)=((2*n:Nat):Int):=by rw[wrap64 (by omega) (by omega)];omega
 have hw3:IntKind.i64.wrap (((2*n:Nat):Int)+2)=((2*n+2:Nat):Int):=wrap64 (by omega) (by omega)
 by_cases h:n<10
 ·have h':(n:Int)<10:=by omega
  simp[h',-Int.natCast_add]
  rw[sliceS_ev (l:=n) (h:=n+1) rfl (by simp) (by simp[hw,-Int.natCast_add]) (by omega) (by show n+1≤36;omega),small_lo n h]
  simp
 ·have h': ¬(n:Int)<10:=by omega
  simp[h']
  rw[sliceS_ev (l:=2*n) (h:=2*n+2) rfl (by simp[hw2,-Int.natCast_mul]) (by simp[hw2,hw3,-Int.natCast_mul,-Int.natCast_add]) (by omega) (by show 2*n+2≤200;omega),small_hi n hn (by omega)]
  simp
theorem k89 (n:Nat) (hn:n<100) (m:AMem):ACalls Tryz.prog 89 [.int .i64 n] m fun v m'=>v= .str ⟨(digB 20 n).toArray⟩∧m'=m:=by
 refine w89 ?_
 simp
 refine C_of (R:=fun v m'=>v= .str ⟨(digB 20 n).toArray⟩∧m'=m) ?_ ?_
 ·refine w121 ?_
  simp
  refine C_of (R:=fun v m'=>v= .str ⟨(digB 20 n).toArray⟩∧m'=m) ?_ ?_
  ·refine w167 ?_
   have h1:(n:Int)<100:=by omega
   simp[h1]
   refine C_of (k190 n hn m) ?_
   rintro _ m' ⟨rfl,rfl⟩
   simp
  ·rintro _ m' ⟨rfl,rfl⟩
   simp
 ·rintro _ m' ⟨rfl,rfl⟩
  simp
end Go.Proofs.YtlniliigcnedmaaGreatDoor
namespace Go.Proofs.YtlniliigcnedmaaGreatDoor
open Go Ax
theorem ba_app (a b:List UInt8):(⟨a.toArray⟩:ByteArray)++⟨b.toArray⟩=⟨(a++b).toArray⟩:=by
 apply ByteArray.ext
 simp
theorem ba_size (a:List UInt8):(⟨a.toArray⟩:ByteArray).size=a.length:=by simp[ByteArray.size]
theorem ba_eta (s:ByteArray):(⟨s.data.toList.toArray⟩:ByteArray)=s:=by cases s;simp
def numE (ds s:List Nat):List (Int×AVal):=s.zipIdx.map fun p=>(((ds.getD p.1 0:Nat):Int),natI p.2)
def SameEq (l:List Md) (ds:List Nat):Prop:= ∀a b,a<l.length→b<l.length→(ds.getD a 0=ds.getD b 0↔RR l a=RR l b)
theorem find_aux {l:List Md} {ds:List Nat} (h:SameEq l ds) {m:Nat} (hm:m<l.length): ∀(s:List Nat) (k:Nat),(∀z∈s,z<l.length)→
  findE ((s.zipIdx k).map fun p=>(((ds.getD p.1 0:Nat):Int),natI p.2)) ((ds.getD m 0:Nat):Int)=(s.findIdx? fun z=>RR l z==RR l m).map fun i=>natI (i+k)
 | [],k,_=>rfl
 |z::s,k,hs=>by
  have hz:=h z m (hs z (List.mem_cons_self ..)) hm
  have ih:=find_aux h hm s (k+1) fun y hy=>hs y (List.mem_cons_of_mem _ hy)
  simp only[List.zipIdx_cons,List.map_cons,findE,List.findIdx?_cons]
  by_cases he:RR l z=RR l m
  ·rw[if_pos (by rw[hz.2 he]),if_pos (by simpa using he)]
   simp
  ·rw[if_neg (fun e=>he (hz.1 (by omega))),if_neg (by simpa using he),ih,Option.map_map]
   congr 1
   funext i
   simp only[Function.comp]
   rw[show i+(k+1)=i+1+k by omega]
theorem find_num {l:List Md} {ds s:List Nat} (h:SameEq l ds) (hs:Seen l s) {m:Nat} (hm:m<l.length):findE (numE ds s) ((ds.getD m 0:Nat):Int)=(numOf l s m).map natI:=by
 have:=find_aux h hm s 0 hs.lt
 simpa[numE,numOf] using this
theorem set_none: ∀(es:List (Int×AVal)) (k:Int) (v:AVal),findE es k=none→setE es k v=es++ [(k,v)]
 | [],_,_,_=>rfl
 |(k',x)::es,k,v,h=>by
  simp only[findE] at h
  split at h
  ·cases h
  ·rename_i hk
   simp only[setE,if_neg hk,set_none es k v h,List.cons_append]
theorem numE_add (ds s:List Nat) (m:Nat):numE ds (s++ [m])=numE ds s++ [(((ds.getD m 0:Nat):Int),natI s.length)]:=by
 simp[numE,List.zipIdx_append]
theorem numE_len (ds s:List Nat):(numE ds s).length=s.length:=by simp[numE]
theorem DenseOf.sameEq {l:List Md} {ds:List Nat} {k:Nat} (h:SameOrd l.length (fun a=>ds.getD a 0) (RR l)):SameEq l ds:=fun a b ha hb=>by
 have h1:=h a b ha hb
 have h2:=h b a hb ha
 simp only at h1 h2
 omega
end Go.Proofs.YtlniliigcnedmaaGreatDoor
namespace Go.Proofs.YtlniliigcnedmaaGreatDoor
open Go Ax
set_option maxRecDepth 100000
structure WS (m0:AMem) (b mb:Nat) (sT rk:AVal) (ds:List Nat) (m:AMem) (bf:AVal) (bs:List UInt8) (s:List Nat):Prop where
 blk: ∃ad,m[b]? =some (.own [ad,bf,sT,rk,.map mb] 71 none)∧(ad= .nilptr∨ad= .ptr b 0)
 map:m[mb]? =some (.mp (numE ds s))
 buf:OwL u8A m0.length m 5 bf bs
 pre:m0<+:m
 lo:m0.length≤b∧m0.length≤mb
def WC (b mb:Nat) (bf:AVal) (m:AMem) (bf':AVal) (m':AMem):Prop:=Ch (fun c=>c=b∨c=mb∨bf.blk=some c) m m'∧ ∀c,bf'.blk=some c→bf.blk=some c∨m.length≤c
theorem WC.refl (b mb:Nat) (bf:AVal) (m:AMem):WC b mb bf m bf m:=⟨.refl _ _,fun _ h=> .inl h⟩
theorem WC.trans {b mb:Nat} {bf bf1 bf2:AVal} {m m1 m2:AMem} (h:WC b mb bf m bf1 m1) (k:WC b mb bf1 m1 bf2 m2):WC b mb bf m bf2 m2:=by
 refine ⟨h.1.andThen k.1 fun c hc e=>?_,fun c e=>?_⟩
 ·rcases e with e|e|e
  ·exact .inl e
  ·exact .inr (.inl e)
  ·rcases h.2 c e with e|e
   ·exact .inr (.inr e)
   ·omega
 ·rcases k.2 c e with e|e
  ·exact h.2 c e
  ·exact .inr (by have:=h.1.len;omega)
theorem WC.of_prefix {b mb:Nat} {bf:AVal} {m m':AMem} (h:m<+:m'):WC b mb bf m bf m':=⟨.of_prefix h,fun _ h=> .inl h⟩
theorem WC.of_Wr {b mb:Nat} {bf bf':AVal} {m m':AMem} (h:Wr b bf m bf' m'):WC b mb bf m bf' m':=⟨h.1.weaken fun c _ e=>e.elim .inl fun e=> .inr (.inr e),h.2⟩
section
variable {m0:AMem} {b mb:Nat} {sT rk:AVal} {ds:List Nat} {m m':AMem} {bf bf':AVal} {bs:List UInt8} {s:List Nat}
theorem WS.mono (h:WS m0 b mb sT rk ds m bf bs s) (hm:m<+:m'):WS m0 b mb sT rk ds m' bf bs s:=by
 obtain ⟨ad,h1,h2⟩:=h.blk
 exact ⟨⟨ad,own_mono h1 hm,h2⟩,own_mono h.map hm,h.buf.mono hm,h.pre.trans hm,h.lo⟩
theorem WS.ne (h:WS m0 b mb sT rk ds m bf bs s):b≠mb∧bf.blk≠some b∧bf.blk≠some mb:=by
 obtain ⟨ad,h1,_⟩:=h.blk
 refine ⟨fun e=>?_,fun e=>?_,fun e=>?_⟩
 ·have:=h.map;rw[←e,h1] at this;simp at this
 ·obtain ⟨bl,g,h3⟩:=h.buf.own e;rw[h1] at h3;simp at h3
 ·obtain ⟨bl,g,h3⟩:=h.buf.own e;have:=h.map;rw[h3] at this;simp at this
theorem WS.lt (h:WS m0 b mb sT rk ds m bf bs s):b<m.length∧mb<m.length:=by
 obtain ⟨ad,h1,_⟩:=h.blk
 exact ⟨(List.getElem?_eq_some_iff.1 h1).1,(List.getElem?_eq_some_iff.1 h.map).1⟩
theorem WC.pre0 (hc:WC b mb bf m bf' m') (h:WS m0 b mb sT rk ds m bf bs s):m0<+:m':=hc.1.pre h.pre fun c hc e=>by
 rcases e with e|e|e
 ·have:=h.lo.1;omega
 ·have:=h.lo.2;omega
 ·have:=(h.buf.blk_lo e).1;omega
theorem WS.write (h:WS m0 b mb sT rk ds m bf bs s) (t:List UInt8) (hsz:bs.length+t.length≤1099511627776):
  ACalls Tryz.prog 88 [.ptr b 0,.str ⟨t.toArray⟩] m fun _ m'=> ∃bf',WS m0 b mb sT rk ds m' bf' (bs++t) s∧WC b mb bf m bf' m':=by
 obtain ⟨ad,h1,h2⟩:=h.blk
 refine (k88 b m0.length ad bf sT rk (.map mb) bs ⟨t.toArray⟩ m h1 h2 h.pre.length_le h.buf (by rw[ba_size];omega)).mono ?_
 rintro _ m' ⟨bf',g1,g2,g3⟩
 have hc:WC b mb bf m bf' m':= .of_Wr g3
 have hn:=h.ne
 exact ⟨bf',⟨⟨_,g1,.inr rfl⟩,own_ch h.map g3.1 (fun e=>by rcases e with e|e;exact hn.1 e.symm;exact hn.2.2 e),g2,hc.pre0 h,h.lo⟩,hc⟩
end
end Go.Proofs.YtlniliigcnedmaaGreatDoor
namespace Go.Proofs.YtlniliigcnedmaaGreatDoor
open Go Ax
set_option maxRecDepth 100000
def ModeOK (l:List Md) (m0:AMem) (b mb:Nat) (sT rk:AVal) (ds:List Nat) (f:Nat):Prop:=
 ∀(x:Nat) (m:AMem) (bf:AVal) (bs:List UInt8) (s:List Nat),WS m0 b mb sT rk ds m bf bs s→Seen l s→x<l.length→l.length<f+s.length→bs.length+(txM l f s x).1.length≤1099511627776→
  ACalls Tryz.prog 45 [.ptr b 0,.int .i64 x] m fun _ m'=> ∃bf',WS m0 b mb sT rk ds m' bf' (bs++(txM l f s x).1) (txM l f s x).2∧WC b mb bf m bf' m'
def StI (b mb:Nat) (bf:AVal) (m:AMem) (t:AVal) (zs:List Nat):Prop:= ∀bf' m',WC b mb bf m bf' m'→RInts m' t (zs.map fun z:Nat=>(z:Int))
def StS (b mb:Nat) (bf:AVal) (m:AMem) (t:AVal) (ns:List ByteArray):Prop:= ∀bf' m',WC b mb bf m bf' m'→RStrs m' t ns
theorem txL_seen {l:List Md} {g:List Nat→Nat→List UInt8×List Nat} (hg: ∀s z,Seen l s→z<l.length→Seen l (g s z).2∧s.length≤(g s z).2.length): ∀(zs:List (Nat×List UInt8)) (f:Bool) (s:List Nat),Seen l s→(∀p∈zs,p.1<l.length)→Seen l (txL g f s zs).2∧s.length≤(txL g f s zs).2.length
 | [],_,s,h,_=>⟨h,Nat.le_refl _⟩
 |(z,nm)::zs,f,s,h,hz=>by
  have h1:=hg s z h (hz _ (List.mem_cons_self ..))
  have h2:=txL_seen hg zs false _ h1.1 fun p hp=>hz p (List.mem_cons_of_mem _ hp)
  exact ⟨h2.1,Nat.le_trans h1.2 h2.2⟩
theorem txM_seen {l:List Md} (ht:TxT l) (hf:Full l) (f:Nat) {s:List Nat} {m:Nat} (h:Seen l s) (hm:m<l.length):Seen l (txM l f s m).2∧s.length≤(txM l f s m).2.length:=by
 have:=txM_grow ht hf f s m h hm
 exact ⟨this.seen,this.pre.length_le⟩
def Items (nm:AVal) (b mb:Nat) (bf:AVal) (m:AMem) (zs:List Nat) (items:List (Nat×List UInt8)):Prop:=
 (nm= .nilslice∧items=bare zs)∨(∃ns,isNilOf .slice nm=some false∧StS b mb bf m nm ns∧ns.length=zs.length∧items=named zs ns)
theorem Items.at {nm:AVal} {b mb:Nat} {bf:AVal} {m:AMem} {zs:List Nat} {items:List (Nat×List UInt8)} (h:Items nm b mb bf m zs items) {i:Nat} (hi:i<zs.length): ∃t,items[i]? =some (zs[i],t)∧((nm= .nilslice∧t= [])∨(∃ns,isNilOf .slice nm=some false∧StS b mb bf m nm ns∧ ∃h:i<ns.length,t=32::ns[i].data.toList)):=by
 rcases h with ⟨h1,rfl⟩|⟨ns,h1,h2,h3,rfl⟩
 ·exact ⟨[],by simp[bare,hi],.inl ⟨h1,rfl⟩⟩
 ·exact ⟨_,by simp[named,hi,h3],.inr ⟨ns,h1,h2,by omega,rfl⟩⟩
theorem Items.len {nm:AVal} {b mb:Nat} {bf:AVal} {m:AMem} {zs:List Nat} {items:List (Nat×List UInt8)} (h:Items nm b mb bf m zs items):items.length=zs.length:=by
 rcases h with ⟨h1,rfl⟩|⟨ns,h1,h2,h3,rfl⟩
 ·simp[bare]
 ·simp[named,h3]
theorem str_add (a:List UInt8) (t:ByteArray) (h:a.length+t.size≤9223372036854775807):binStr .add ⟨a.toArray⟩ t=some (.str ⟨(a++t.data.toList).toArray⟩):=by
 have:(⟨a.toArray⟩:ByteArray)++t=⟨(a++t.data.toList).toArray⟩:=by rw[←ba_app,ba_eta]
 simp only[binStr,ba_size,if_pos h,this]
set_option maxHeartbeats 4000000 in
theorem all_ok {l:List Md} (ht:TxT l) (hF:Full l) {m0:AMem} {b mb:Nat} {sT rk:AVal} {ds:List Nat} {f:Nat} (hM:ModeOK l m0 b mb sT rk ds f) {t nm:AVal} {zs:List Nat} {items:List (Nat×List UInt8)} (hz: ∀z∈zs,z<l.length) (hzl:zs.length<2^40)
  {m:AMem} {bf:AVal} {bs:List UInt8} {s:List Nat} (hW:WS m0 b mb sT rk ds m bf bs s) (hS:Seen l s) (hI:StI b mb bf m t zs) (hN:Items nm b mb bf m zs items) (hfu:l.length<f+s.length) (hB:bs.length+(txL (txM l f) true s items).1.length+2≤1099511627776):
  ACalls Tryz.prog 90 [.ptr b 0,t,nm] m fun _ m'=> ∃bf',WS m0 b mb sT rk ds m' bf' (bs++([40]++((txL (txM l f) true s items).1++ [41]))) (txL (txM l f) true s items).2∧WC b mb bf m bf' m':=by
 have hle:(t:AVal)=t:=rfl
 have hlen:=(hI bf m (WC.refl ..)).len
 simp at hlen
 refine w90 ?_
 simp
 refine C_of (hW.write [40] (by simp;omega)) ?_
 rintro _ m1 ⟨bf1,hW1,hC1⟩
 simp[hlen]
 generalize hT:txL (txM l f) true s items=T at*
 obtain ⟨I,hI'⟩: ∃I:Nat→AFrame→AMem→Prop,∀q a m',I q a m'↔(∃(i:Nat) (bf':AVal) (bs':List UInt8) (s':List Nat),i+q=zs.length∧a=h90_0 (.ptr b 0) nm t (.int .i64 zs.length) (.int .i64 i)∧WS m0 b mb sT rk ds m' bf' bs' s'∧Seen l s'∧s.length≤s'.length∧WC b mb bf m bf' m'∧
  bs'++(txL (txM l f) (i==0) s' (items.drop i)).1=bs++([40]++T.1)∧(txL (txM l f) (i==0) s' (items.drop i)).2=T.2):=⟨_,fun _ _ _=>Iff.rfl⟩
 refine W_loop I zs.length ((hI' _ _ _).2 ⟨0,bf1,bs++ [40],s,by simp,by simp,hW1,hS,Nat.le_refl _,hC1,by simp[hT],by simp[hT]⟩) ?_
 rintro q a m2 hIn
 obtain ⟨i,bf2,bs2,s2,hi,rfl,hW2,hS2,hs2,hC2,e1,e2⟩:=(hI' _ _ _).1 hIn
 clear hIn
 simp
 refine bbind_dec (fun hil=>?_) fun hil=>?_
 ·have hil:i<zs.length:=by omega
  have hw:=step64 (k:=i) (n:=zs.length) hil (by omega)
  obtain ⟨q,rfl⟩: ∃q',q=q'+1:=⟨q-1,by omega⟩
  obtain ⟨b9,o9,g1,g2⟩:=(hI bf2 m2 hC2).at (i:=i) (by simpa using hil)
  simp at g2
  obtain ⟨tn,hat,hnm⟩:=hN.at hil
  have hdrop:items.drop i=(zs[i],tn)::items.drop (i+1):=by
   rw[List.drop_eq_getElem_cons (by rw[hN.len];exact hil)]
   congr 1
   have:=(List.getElem?_eq_some_iff.1 hat).2
   exact this
  rw[hdrop] at e1 e2
  simp only[txL] at e1 e2
  have hzi:=hz _ (List.getElem_mem hil)
  have hsn:=txM_seen ht hF f hS2 hzi
  have hBB:bs2.length+((if i==0 then [] else [44,32]:List UInt8)++((txM l f s2 zs[i]).1++(tn++(txL (txM l f) false (txM l f s2 zs[i]).2 (items.drop (i+1))).1))).length+1≤1099511627776:=by
   have:=congrArg List.length e1
   simp only[List.length_append,List.length_cons,List.length_nil] at this ⊢
   omega
  simp only[List.length_append] at hBB
  simp[g1,g2]
  obtain ⟨J,hJ⟩: ∃J:AFrame→AMem→Prop,∀a' m',J a' m'↔(∃bf',a'.forget [0,2,6,7,12,13,14]=mat 44 [(0,.ptr b 0),(2,nm),(6,.int .i64 i),(7,.int .i64 zs[i]),(12,t),(13,.int .i64 zs.length),(14,.int .i64 i)]∧WS m0 b mb sT rk ds m' bf' (bs2++(if i==0 then [] else [44,32])) s2∧WC b mb bf2 m2 bf' m'):=⟨_,fun _ _=>Iff.rfl⟩
  refine bbind_J J ?_ ?_
  ·refine bbind_dec (fun h0=>?_) fun h0=>?_
   ·have h0':(i==0)=false:=by simp;omega
    simp
    refine C_of (hW2.write [44,32] (by rw[h0'] at hBB;simp at hBB ⊢;omega)) ?_
    rintro _ m3 ⟨bf3,hW3,hC3⟩
    simp
    refine (hJ _ _).2 ⟨bf3,rfl,?_,hC3⟩
    rw[h0']
    exact hW3
   ·have h0':(i==0)=true:=by simp;omega
    simp
    refine (hJ _ _).2 ⟨bf2,rfl,?_,WC.refl ..⟩
    rw[h0']
    simpa using hW2
  ·intro a m3 hJ3
   obtain ⟨bf3,hfa,hW3,hC3⟩:=(hJ _ _).1 hJ3
   clear hJ3 hJ J
   simp[hfa]
   refine C_of (hM zs[i] m3 bf3 _ s2 hW3 hS2 hzi (by omega) (by simp only[List.length_append];omega)) ?_
   rintro _ m4 ⟨bf4,hW4,hC4⟩
   have hC24:=hC3.trans hC4
   rcases hnm with ⟨rfl,rfl⟩|⟨ns,hns,hst,hin,rfl⟩
   ·simp[hw]
    refine ⟨q,by omega,(hI' _ _ _).2 ⟨i+1,bf4,_,_,by omega,by simp,hW4,hsn.1,by omega,hC2.trans hC24,?_,?_⟩⟩
    ·rw[show (i+1==0)=false from rfl,←e1]
     simp[List.append_assoc]
    ·rw[show (i+1==0)=false from rfl]
     exact e2
   ·obtain ⟨b8,o8,p1,p2⟩:=(hst bf4 m4 (hC2.trans hC24)).at (i:=i) hin
    simp[hns,-isNilOf]
    refine W_draw (fun _ _ _=>True) (by simp[maxDst]) ?_
    refine D_pc 0 8 [8] ?_
    have hsz:ns[i].size=ns[i].data.toList.length:=by rw[Array.length_toList];rfl
    have hadd:binStr .add ⟨#[32]⟩ ns[i]=some (.str ⟨(32::ns[i].data.toList).toArray⟩):=str_add [32] ns[i] (by simp only[List.length_append,List.length_cons,List.length_nil] at hBB ⊢;omega)
    simp[p1,p2,hadd]
    intro fs' _
    refine D_X rfl rfl fun m5 hm5 _=>?_
    simp
    have hW5:=hW4.mono hm5
    refine C_of (hW5.write (32::ns[i].data.toList) (by simp only[List.length_append,List.length_cons] at hBB ⊢;omega)) ?_
    rintro _ m6 ⟨bf6,hW6,hC6⟩
    refine ⟨by simp[lateOf],?_⟩
    refine D_end fun m7 hm7 _=>?_
    simp[hw]
    refine ⟨q,by omega,(hI' _ _ _).2 ⟨i+1,bf6,_,_,by omega,by simp,hW6.mono hm7,hsn.1,by omega,hC2.trans (hC24.trans ((WC.of_prefix hm5).trans (hC6.trans (.of_prefix hm7)))),?_,?_⟩⟩
    ·rw[show (i+1==0)=false from rfl,←e1]
     simp[List.append_assoc]
    ·rw[show (i+1==0)=false from rfl]
     exact e2
 ·have hil:i=zs.length:=by omega
  subst hil
  rw[List.drop_eq_nil_of_le (by rw[hN.len];omega)] at e1 e2
  simp only[txL,List.append_nil] at e1 e2
  subst e1 e2
  simp
  refine C_of (hW2.write [41] (by simp at hB ⊢;omega)) ?_
  rintro _ m3 ⟨bf3,hW3,hC3⟩
  simp
  refine ⟨bf3,?_,hC2.trans hC3⟩
  simpa[List.append_assoc] using hW3
end Go.Proofs.YtlniliigcnedmaaGreatDoor
namespace Go.Proofs.YtlniliigcnedmaaGreatDoor
open Go Ax
set_option maxRecDepth 100000
theorem txT_of {l:List Md} (hc:checkI l=0) (hl:l.length≤60):TxT l∧Full l∧ ∀x∈l,0≤x.kind∧x.kind<14∧shaped x:=by
 have ok:=okT_of hc
 have co:=checkOk_iff.1 hc
 have hsh: ∀x∈l,0≤x.kind∧x.kind<14∧shaped x:=fun x hx=>by
  have:=shapeI_zero (oneI_zero (co.one x hx)).1
  exact ⟨this.1,this.2.1,this.2.2.1⟩
 refine ⟨⟨ok.good,hl,ok.h64,fun x hx n hn=>?_,fun x hx=>?_⟩,fun x hx hk=>?_,hsh⟩
 ·have:=(oneI_zero (co.one x hx)).2.2.1 n hn
  simp only[wordB,Bool.and_eq_true,decide_eq_true_eq] at this
  exact this.2.2
 ·have:=(hsh x hx).2.2.2.2.2.1
  unfold dimsOk at this
  split at this<;>omega
 ·have h1:=(hsh x hx).2.2.1
  have h2:=(hsh x hx).2.1
  unfold least at h1
  split at h1
  ·omega
  ·split at h1<;>omega
theorem set_pre {m m':AMem} {n:Nat} (h:m<+:m') (hn:m.length≤n) (x:ABlk):m<+:m'.set n x:=((Ch.of_prefix (S:=fun _=>False) h).set (.inr hn) x).pre (List.prefix_refl _) fun _ _ h=>h
theorem set_get {m:AMem} {n:Nat} {y:ABlk} (h:m[n]? =some y) (x:ABlk):(m.set n x)[n]? =some x:=List.getElem?_set_self (List.getElem?_eq_some_iff.1 h).1
theorem WC.keep {b mb c:Nat} {bf bf':AVal} {m m':AMem} {blk:ABlk} (hc:WC b mb bf m bf' m') (h:m[c]? =some blk) (n1:c≠b) (n2:c≠mb) (n3:bf.blk≠some c):m'[c]? =some blk∧bf'.blk≠some c:=by
 refine ⟨own_ch h hc.1 fun e=>?_,fun e=>?_⟩
 ·rcases e with e|e|e
  ·exact n1 e
  ·exact n2 e
  ·exact n3 e
 ·rcases hc.2 c e with h'|h'
  ·exact n3 h'
  ·have:=(List.getElem?_eq_some_iff.1 h).1;omega
theorem WS.number {m0:AMem} {b mb:Nat} {sT rk:AVal} {ds:List Nat} {m:AMem} {bf:AVal} {bs:List UInt8} {s:List Nat} (h:WS m0 b mb sT rk ds m bf bs s) (x:Nat):WS m0 b mb sT rk ds (m.set mb (.mp (numE ds (s++ [x])))) bf bs (s++ [x])∧WC b mb bf m bf (m.set mb (.mp (numE ds (s++ [x])))):=by
 have hch:Ch (fun c=>c=mb) m (m.set mb (.mp (numE ds (s++ [x])))):=Ch.setS _ rfl
 have hn:=h.ne
 obtain ⟨ad,h1,h2⟩:=h.blk
 have hc:WC b mb bf m bf (m.set mb (.mp (numE ds (s++ [x])))):=⟨hch.weaken fun c _ e=> .inr (.inl e),fun c e=> .inl e⟩
 exact ⟨⟨⟨ad,own_ch h1 hch hn.1,h2⟩,set_get h.map _,h.buf.ch hch fun c e e'=>hn.2.2 (e'▸e),hc.pre0 h,h.lo⟩,hc⟩
theorem eN_cast {l:List Md} (hg:goodT l) {x:Nat} (hx:x<l.length):(eN l[x]).map (fun z:Nat=>(z:Int))=l[x].elems:=by
 unfold eN
 rw[List.map_map]
 conv=>rhs;rw[←List.map_id l[x].elems]
 refine List.map_congr_left fun e he=>?_
 have:=hg _ (List.getElem_mem hx) e he
 simp only[Function.comp,id]
 omega
theorem eN_at {l:List Md} (hg:goodT l) {x:Nat} (hx:x<l.length) {k:Nat} (hk:k<l[x].elems.length):l[x].elems[k]=(((eN l[x]).getD k 0:Nat):Int):=by
 have hk':k<(eN l[x]).length:=by rw[eN_len];exact hk
 have:=hg _ (List.getElem_mem hx) _ (List.getElem_mem hk)
 rw[List.getD_eq_getElem?_getD,List.getElem?_eq_getElem hk',Option.getD_some]
 simp only[eN,List.getElem_map]
 omega
structure WT (l:List Md) (m0:AMem) (sT rk:AVal) (ds:List Nat):Prop where
 tx:TxT l
 full:Full l
 sh: ∀x∈l,0≤x.kind∧x.kind<14∧shaped x
 t13:T13 l
 sm: ∀x∈l,smallN x
 tab:RTab m0 sT l
 rks:RInts m0 rk (ds.map fun z:Nat=>(z:Int))
 dl:ds.length=l.length
 ord:SameOrd l.length (fun a=>ds.getD a 0) (RR l)
theorem words_at {m:AMem} {k:Int} (h0:0≤k) (h9:k<9):loadE m 1 false (.gptr 0 k.toNat)=some (.str ⟨(kindT k).toArray⟩):=by
 have:k=0∨k=1∨k=2∨k=3∨k=4∨k=5∨k=6∨k=7∨k=8:=by omega
 rcases this with rfl|rfl|rfl|rfl|rfl|rfl|rfl|rfl|rfl<;>rfl
theorem find_size (x:Md):(findE [(-1,AVal.str ⟨#[83,72,79,82,84,32]⟩),(1,.str ⟨#[76,79,78,71,32]⟩)] x.size).getD (.str ⟨#[]⟩)= .str ⟨(sizeT x).toArray⟩∧(findE [(1,AVal.str ⟨#[76,79,78,71,32]⟩),(-1,.str ⟨#[83,72,79,82,84,32]⟩)] x.size).getD (.str ⟨#[]⟩)= .str ⟨(sizeT x).toArray⟩:=by
 unfold sizeT
 by_cases h1:x.size=1
 ·simp[h1,findE]
 ·by_cases h2:x.size= -1
  ·simp[h2,findE]
  ·have h1': ¬1=x.size:=fun e=>h1 e.symm
   have h2': ¬ -1=x.size:=fun e=>h2 e.symm
   simp[h1,h2,h1',h2',findE]
set_option maxHeartbeats 8000000 in
theorem mode_ok {l:List Md} {m0:AMem} {b mb:Nat} {sT rk:AVal} {ds:List Nat} (H:WT l m0 sT rk ds): ∀f,ModeOK l m0 b mb sT rk ds f
 |0=>fun x m bf bs s hW hS hx hfu=>by have:=hS.len;omega
 |f+1=>by
  have ih:=mode_ok (b:=b) (mb:=mb) H f
  intro x m bf bs s hW hS hx hfu hB
  refine w45 ?_
  obtain ⟨ad,hb0,had⟩:=hW.blk
  obtain ⟨bx',ox,c,h4,h5,_,_,h6⟩:=H.tab.atC hx
  replace h5:=loadE_mono hW.pre h5
  simp[bx (own_read hb0),h4,h5]
  have hcl:=h6.all
  rw[store_new _ _ c _ _ 6 hcl.1 rfl hcl.2]
  have hb4:(m++ [ABlk.own c 39 none])[m.length]? =some (.own c 39 none):=by simp
  have hm1:m<+:m++ [ABlk.own c 39 none]:=List.prefix_append _ _
  have hn4:m.length≠b∧m.length≠mb:=⟨by have:=hW.lt.1;omega,by have:=hW.lt.2;omega⟩
  have hf4: ∀c,bf.blk=some c→c≠m.length:=fun c hc e=>by have:=(hW.buf.blk_lo hc).2;omega
  obtain ⟨e,nm,c0,c1,c2,c3,c4,c5,he,hnm,rfl⟩:=h6.get
  have hsh:=H.sh _ (List.getElem_mem hx)
  have hmd:=mdAt_eq hx
  generalize m++ [ABlk.own [AVal.int .i64 l[x].kind,AVal.int .i64 l[x].size,e,nm,AVal.int .i64 l[x].dims,AVal.bool l[x].flex] 39 none]=m1 at*
  generalize m.length=b4 at*
  have hW1:=hW.mono hm1
  simp[bx (own_read hb4)]
  obtain ⟨J,hJ⟩: ∃J:AFrame→AMem→Prop,∀a' m',J a' m'↔(a'.forget [0,1,4]=mat 159 [(0,.ptr b 0),(1,.int .i64 x),(4,.ptr b4 0)]∧m'=m1∧9≤l[x].kind):=⟨_,fun _ _=>Iff.rfl⟩
  refine bbind_J J ?_ ?_
  ·refine bbind_dec (fun hk=>?_) fun hk=>?_
   rotate_left
   ·simp
    exact (hJ _ _).2 ⟨rfl,rfl,by simpa using hk⟩
   have hk9:l[x].kind<9:=by simpa using hk
   have htx:txM l (f+1) s x=(plainT l[x],s):=by simp[txM,hmd,hk9]
   rw[htx] at hB ⊢
   simp
   have hwd:=words_at (m:=m1) hsh.1 hk9
   refine W_draw2 (fun _ _ _=>True) (by simp[maxDst]) ?_ ?_
   ·refine D_pc 0 3 [7,8,10,11,12,13,3,4,5,6,9,14,15] ?_
    simp
    intro fs1 h1
    refine D_pc 7 2 [10,11,12,13,3,4,5,6,9,14,15] ?_ (hfs:=h1)
    simp[bx (own_read hb4)]
    intro fs2 h2
    refine D_pc 10 4 [3,4,5,6,9,14,15] ?_ (hfs:=h2)
    simp[bx (own_read hb4),POp.ev,hsh.1,hk9,hwd]
    intro _ _
    refine D_X rfl rfl fun m2 hm2 _=>?_
    have hb42:=own_mono hb4 hm2
    have hn2:=hm2.length_le
    have hb43:=own_mono hb42 (List.prefix_append m2 [.mp []])
    have hmp:(m2++ [ABlk.mp []])[m2.length]? =some (.mp []):=by simp
    have hp3:m1<+:m2++ [ABlk.mp []]:=hm2.trans (List.prefix_append _ _)
    simp[lateOf,bx (own_read hb42),words_at hsh.1 hk9]
    refine ⟨⟨by rw[bx (own_read hb43)];rfl,by rw[bx (own_read hb43)];rfl⟩,?_⟩
    generalize m2++ [ABlk.mp []]=m3 at*
    generalize m2.length=n3 at*
    refine D_X rfl rfl fun m4 hm4 _=>?_
    have hmp4:=own_mono hmp hm4
    simp[lateOf,mapsetE,hmp4,setE,words_at hsh.1 hk9]
    have hp5:=set_pre (hp3.trans hm4) hn2 (.mp [(-1,AVal.str ⟨#[83,72,79,82,84,32]⟩)])
    have hmp5:=set_get hmp4 (.mp [(-1,AVal.str ⟨#[83,72,79,82,84,32]⟩)])
    generalize m4.set n3 (.mp [(-1,AVal.str ⟨#[83,72,79,82,84,32]⟩)])=m5 at*
    refine ⟨⟨by rw[bx (own_read (own_mono hb4 hp5))];rfl,by rw[bx (own_read (own_mono hb4 hp5))];rfl⟩,?_⟩
    refine D_X rfl rfl fun m6 hm6 _=>?_
    have hmp6:=own_mono hmp5 hm6
    simp[lateOf,mapsetE,hmp6,setE,words_at hsh.1 hk9]
    have hp7:=set_pre (hp5.trans hm6) hn2 (.mp [(-1,AVal.str ⟨#[83,72,79,82,84,32]⟩),(1,.str ⟨#[76,79,78,71,32]⟩)])
    have hmp7:=set_get hmp6 (.mp [(-1,AVal.str ⟨#[83,72,79,82,84,32]⟩),(1,.str ⟨#[76,79,78,71,32]⟩)])
    generalize m6.set n3 (.mp [(-1,AVal.str ⟨#[83,72,79,82,84,32]⟩),(1,.str ⟨#[76,79,78,71,32]⟩)])=m7 at*
    refine ⟨⟨by rw[bx (own_read (own_mono hb4 hp7))];rfl,by rw[bx (own_read (own_mono hb4 hp7))];rfl⟩,?_⟩
    have hfd:=(find_size l[x]).1
    refine D_pc 6 1 [9,14,15] ?_ (hfs:=fun _ _=>trivial)
    simp
    intro fs3 h3
    refine D_pc 9 1 [14,15] ?_ (hfs:=h3)
    simp[lookupE,hmp7,hfd]
    intro fs4 h4
    refine D_pc 14 1 [15] ?_ (hfs:=h4)
    have hadd:binStr .add ⟨(sizeT l[x]).toArray⟩ ⟨(kindT l[x].kind).toArray⟩=some (.str ⟨(plainT l[x]).toArray⟩):=str_add _ _ (by rw[ba_size];have:=plainT_len l[x];unfold plainT at this;rw[List.length_append] at this;omega)
    simp[hadd]
    intro fs5 h5
    refine D_X rfl rfl fun m8 hm8 _=>?_
    simp
    refine C_of ((hW1.mono (hp7.trans hm8)).write (plainT l[x]) (by simpa using hB)) ?_
    rintro _ m9 ⟨bf9,hW9,hC9⟩
    refine ⟨by simp[lateOf],?_⟩
    refine D_end fun m10 hm10 _=>?_
    simp
    exact ⟨bf9,hW9.mono hm10,(WC.of_prefix (hm1.trans (hp7.trans hm8))).trans (hC9.trans (.of_prefix hm10))⟩
   ·refine D_pc 0 3 [7,8,10,11,12,13,3,5,4,6,9,14,15] ?_
    simp
    intro fs1 h1
    refine D_pc 7 2 [10,11,12,13,3,5,4,6,9,14,15] ?_ (hfs:=h1)
    simp[bx (own_read hb4)]
    intro fs2 h2
    refine D_pc 10 4 [3,5,4,6,9,14,15] ?_ (hfs:=h2)
    simp[bx (own_read hb4),POp.ev,hsh.1,hk9,hwd]
    intro _ _
    refine D_X rfl rfl fun m2 hm2 _=>?_
    have hb42:=own_mono hb4 hm2
    have hn2:=hm2.length_le
    have hb43:=own_mono hb42 (List.prefix_append m2 [.mp []])
    have hmp:(m2++ [ABlk.mp []])[m2.length]? =some (.mp []):=by simp
    have hp3:m1<+:m2++ [ABlk.mp []]:=hm2.trans (List.prefix_append _ _)
    simp[lateOf,bx (own_read hb42),words_at hsh.1 hk9]
    refine ⟨⟨by rw[bx (own_read hb43)];rfl,by rw[bx (own_read hb43)];rfl⟩,?_⟩
    generalize m2++ [ABlk.mp []]=m3 at*
    generalize m2.length=n3 at*
    refine D_X rfl rfl fun m4 hm4 _=>?_
    have hmp4:=own_mono hmp hm4
    simp[lateOf,mapsetE,hmp4,setE,words_at hsh.1 hk9]
    have hp5:=set_pre (hp3.trans hm4) hn2 (.mp [(1,AVal.str ⟨#[76,79,78,71,32]⟩)])
    have hmp5:=set_get hmp4 (.mp [(1,AVal.str ⟨#[76,79,78,71,32]⟩)])
    generalize m4.set n3 (.mp [(1,AVal.str ⟨#[76,79,78,71,32]⟩)])=m5 at*
    refine ⟨⟨by rw[bx (own_read (own_mono hb4 hp5))];rfl,by rw[bx (own_read (own_mono hb4 hp5))];rfl⟩,?_⟩
    refine D_X rfl rfl fun m6 hm6 _=>?_
    have hmp6:=own_mono hmp5 hm6
    simp[lateOf,mapsetE,hmp6,setE,words_at hsh.1 hk9]
    have hp7:=set_pre (hp5.trans hm6) hn2 (.mp [(1,AVal.str ⟨#[76,79,78,71,32]⟩),(-1,.str ⟨#[83,72,79,82,84,32]⟩)])
    have hmp7:=set_get hmp6 (.mp [(1,AVal.str ⟨#[76,79,78,71,32]⟩),(-1,.str ⟨#[83,72,79,82,84,32]⟩)])
    generalize m6.set n3 (.mp [(1,AVal.str ⟨#[76,79,78,71,32]⟩),(-1,.str ⟨#[83,72,79,82,84,32]⟩)])=m7 at*
    refine ⟨⟨by rw[bx (own_read (own_mono hb4 hp7))];rfl,by rw[bx (own_read (own_mono hb4 hp7))];rfl⟩,?_⟩
    have hfd:=(find_size l[x]).2
    refine D_pc 6 1 [9,14,15] ?_ (hfs:=fun _ _=>trivial)
    simp
    intro fs3 h3
    refine D_pc 9 1 [14,15] ?_ (hfs:=h3)
    simp[lookupE,hmp7,hfd]
    intro fs4 h4
    refine D_pc 14 1 [15] ?_ (hfs:=h4)
    have hadd:binStr .add ⟨(sizeT l[x]).toArray⟩ ⟨(kindT l[x].kind).toArray⟩=some (.str ⟨(plainT l[x]).toArray⟩):=str_add _ _ (by rw[ba_size];have:=plainT_len l[x];unfold plainT at this;rw[List.length_append] at this;omega)
    simp[hadd]
    intro fs5 h5
    refine D_X rfl rfl fun m8 hm8 _=>?_
    simp
    refine C_of ((hW1.mono (hp7.trans hm8)).write (plainT l[x]) (by simpa using hB)) ?_
    rintro _ m9 ⟨bf9,hW9,hC9⟩
    refine ⟨by simp[lateOf],?_⟩
    refine D_end fun m10 hm10 _=>?_
    simp
    exact ⟨bf9,hW9.mono hm10,(WC.of_prefix (hm1.trans (hp7.trans hm8))).trans (hC9.trans (.of_prefix hm10))⟩
  ·intro a m2 hJ2
   obtain ⟨hfa,rfl,hk9⟩:=(hJ _ _).1 hJ2
   clear hJ2 hJ J
   simp[hfa]
   have hSE:=DenseOf.sameEq (k:=0) H.ord
   have hfn:=find_num hSE hS hx
   obtain ⟨bk,ok,p1,p2⟩:=ranksAt H.rks (x:=x) (by rw[H.dl];exact hx)
   have p3:=p2 _ hW1.pre
   obtain ⟨ad1,hb1,had1⟩:=hW1.blk
   have hmp:=hW1.map
   have hnk: ¬l[x].kind<9:=by omega
   have hnadd:=numE_add ds s x
   generalize ds.getD x 0=dx at*
   refine W_drawPR (by simp[maxDst]) rfl rfl ?_
   simp[bx (own_read hb1),p1,p3,lookupE,hmp,hfn]
   intro m3 hm3
   cases hno:numOf l s x with
   |some n=>
    have htx:txM l (f+1) s x=(35::digB 20 n,s):=by simp[txM,hmd,hnk,hno]
    rw[htx] at hB ⊢
    have hnl:=numOf_lt hno
    have hsl:=hS.len
    have hl60:=H.tx.len
    simp
    refine W_draw (fun _ _ _=>True) (by simp[maxDst]) ?_
    refine D_pc 0 4 [4,5,6] ?_
    simp
    intro fs1 h1
    refine D_X rfl rfl fun m4 hm4 _=>?_
    simp
    refine C_of (k89 n (by omega) m4) ?_
    rintro _ m5 ⟨rfl,rfl⟩
    refine ⟨by simp[lateOf],?_⟩
    refine D_pc 5 1 [6] ?_ (hfs:=fun _ _=>trivial)
    have hadd:binStr .add ⟨#[35]⟩ ⟨(digB 20 n).toArray⟩=some (.str ⟨(35::digB 20 n).toArray⟩):=str_add [35] _ (by rw[ba_size];have:=digB_len 20 n;simp;omega)
    simp[hadd]
    intro fs2 h2
    refine D_X rfl rfl fun m6 hm6 _=>?_
    simp
    refine C_of ((hW1.mono (hm3.trans (hm4.trans hm6))).write (35::digB 20 n) (by simpa using hB)) ?_
    rintro _ m9 ⟨bf9,hW9,hC9⟩
    refine ⟨by simp[lateOf],?_⟩
    refine D_end fun m10 hm10 _=>?_
    simp
    exact ⟨bf9,hW9.mono hm10,(WC.of_prefix (hm1.trans (hm3.trans (hm4.trans hm6)))).trans (hC9.trans (.of_prefix hm10))⟩
   |none=>
    have htx:txM l (f+1) s x=bodyT l (txM l f) (s++ [x]) x:=by simp[txM,hmd,hnk,hno]
    rw[htx] at hB ⊢
    have hS':=hS.add hx hno
    simp
    refine W_draw (fun _ _ _=>True) (by simp[maxDst]) ?_
    have hb13:=own_mono hb1 hm3
    have hmp3:=own_mono hmp hm3
    have p4:=p2 _ (hW1.pre.trans hm3)
    refine D_pc 0 16 [16] ?_
    simp[bx (own_read hb13),p1,p4,mlenE,hmp3,numE_len]
    intro fs1 h1
    refine D_X rfl rfl fun m4 hm4 _=>?_
    have hmp4:=own_mono hmp3 hm4
    have hset:setE (numE ds s) (dx:Int) (.int .i64 s.length)=numE ds (s++ [x]):=by rw[set_none _ _ _ (by rw[hfn,hno];rfl),hnadd]
    simp[lateOf,mapsetE,hmp4]
    rw[hset]
    obtain ⟨hW5,hC5⟩:=(hW1.mono (hm3.trans hm4)).number x
    have hC05:=(WC.of_prefix (b:=b) (mb:=mb) (bf:=bf) (hm1.trans (hm3.trans hm4))).trans hC5
    obtain ⟨hb45,hf45⟩:=hC5.keep (own_mono hb4 (hm3.trans hm4)) hn4.1 hn4.2 fun e=>hf4 _ e rfl
    generalize m4.set mb (.mp (numE ds (s++ [x])))=m5 at*
    refine D_end fun m6 hm6 _=>?_
    have hW6:=hW5.mono hm6
    have hC06:=hC05.trans (.of_prefix hm6)
    have hb46:=own_mono hb45 hm6
    have hlast: ∀k,k<l[x].elems.length→l[x].elems[k]? =some (((eN l[x]).getD k 0:Nat):Int):=fun k hk=>by rw[List.getElem?_eq_getElem hk,eN_at H.tx.good hx hk]
    simp[bx (own_read hb46)]
    obtain ⟨J,hJ⟩: ∃J:AFrame→AMem→Prop,∀a' m',J a' m'↔(∃bf' pr s',a'.forget [0,4]=mat 159 [(0,.ptr b 0),(4,.ptr b4 0)]∧WS m0 b mb sT rk ds m' bf' (bs++pr) s'∧Seen l s'∧s.length<s'.length∧WC b mb bf m bf' m'∧
     m'[b4]? =some (ABlk.own [AVal.int .i64 l[x].kind,AVal.int .i64 l[x].size,e,nm,AVal.int .i64 l[x].dims,AVal.bool l[x].flex] 39 none)∧0<l[x].elems.length∧
     bodyT l (txM l f) (s++ [x]) x=(pr++(txM l f s' ((eN l[x]).getD (l[x].elems.length-1) 0)).1,(txM l f s' ((eN l[x]).getD (l[x].elems.length-1) 0)).2)):=⟨_,fun _ _=>Iff.rfl⟩
    refine bbind_JB J ?_ ?_
    rotate_left
    ·intro a' m7 hJ7
     obtain ⟨bf7,pr,s7,hfa7,hW7,hS7,hs7,hC7,hb47,hel,hbd⟩:=(hJ _ _).1 hJ7
     clear hJ7 hJ J
     simp[hfa7]
     have he7:=he.mono hW7.pre
     obtain ⟨b9,o9,q1,q2⟩:=he7.at (i:=l[x].elems.length-1) (by omega)
     rw[eN_at H.tx.good hx (by omega)] at q2
     have h64:=H.tx.els _ (List.getElem_mem hx)
     have hwl:IntKind.i64.wrap ((l[x].elems.length:Int)-1)=((l[x].elems.length-1:Nat):Int):=by rw[wrap64 (by omega) (by omega)];omega
     have hlt:=eN_getD (k:=l[x].elems.length-1) H.tx.good hx (by rw[hmd];omega)
     rw[hmd] at hlt
     rw[hbd] at hB ⊢
     generalize (eN l[x]).getD (l[x].elems.length-1) 0=la at*
     simp[bx (own_read hb47),he7.len,hwl,q1,q2]
     refine C_of (ih la m7 bf7 (bs++pr) s7 hW7 hS7 hlt (by omega) (by simp only[List.length_append] at hB ⊢;omega)) ?_
     rintro _ m8 ⟨bf8,hW8,hC8⟩
     simp
     exact ⟨bf8,by simpa[List.append_assoc] using hW8,hC7.trans hC8⟩
    have hkk:l[x].kind=9∨l[x].kind=10∨l[x].kind=11∨l[x].kind=12∨l[x].kind=13:=by omega
    have hshd:=hsh.2.2
    have hmp:(s++ [x]).length=s.length+1:=by simp
    rcases hkk with hkk|hkk|hkk|hkk|hkk
    ·simp[hkk]
     have hl1:l[x].elems.length=1:=by
      have h1:=hshd.1;have h2:=hshd.2.1
      simp[least,most,hkk] at h1 h2
      omega
     have hbd:bodyT l (txM l f) (s++ [x]) x=([82,69,70,32]++(txM l f (s++ [x]) ((eN l[x]).getD (l[x].elems.length-1) 0)).1,(txM l f (s++ [x]) ((eN l[x]).getD (l[x].elems.length-1) 0)).2):=by
      simp[bodyT,hmd,hkk,hl1]
     rw[hbd] at hB
     refine C_of (hW6.write [82,69,70,32] (by simp only[List.length_append] at hB ⊢;omega)) ?_
     rintro _ m7 ⟨bf7,hW7,hC7⟩
     simp
     exact (hJ _ _).2 ⟨bf7,_,_,rfl,hW7,hS',by omega,hC06.trans hC7,(hC7.keep hb46 hn4.1 hn4.2 fun e=>hf4 _ e rfl).1,by omega,hbd⟩
    ·simp[hkk,bx (own_read hb46)]
     have hl1:l[x].elems.length=1:=by
      have h1:=hshd.1;have h2:=hshd.2.1
      simp[least,most,hkk] at h1 h2
      omega
     have hdm:1≤l[x].dims∧l[x].dims≤3:=by
      have h1:=hshd.2.2.2.1
      simpa[dimsOk,hkk] using h1
     have hbd:bodyT l (txM l f) (s++ [x]) x=((if l[x].flex=true then ([70,76,69,88,32]:List UInt8) else [])++(91::(List.replicate (l[x].dims-1).toNat 44++ [93]))++(txM l f (s++ [x]) ((eN l[x]).getD (l[x].elems.length-1) 0)).1,(txM l f (s++ [x]) ((eN l[x]).getD (l[x].elems.length-1) 0)).2):=by
      simp[bodyT,hmd,hkk,hl1]
     rw[hbd] at hB
     simp only[List.length_append,List.length_cons,List.length_nil] at hB
     obtain ⟨J2,hJ2⟩: ∃J:AFrame→AMem→Prop,∀a' m',J a' m'↔(∃bf',a'.forget [0,4]=mat 159 [(0,.ptr b 0),(4,.ptr b4 0)]∧WS m0 b mb sT rk ds m' bf' (bs++(if l[x].flex=true then ([70,76,69,88,32]:List UInt8) else [])) (s++ [x])∧WC b mb bf m bf' m'∧
      m'[b4]? =some (ABlk.own [AVal.int .i64 l[x].kind,AVal.int .i64 l[x].size,e,nm,AVal.int .i64 l[x].dims,AVal.bool l[x].flex] 39 none)∧bf'.blk≠some b4):=⟨_,fun _ _=>Iff.rfl⟩
     refine bbind_J J2 ?_ ?_
     ·cases h0':l[x].flex
      rotate_left
      ·simp
       refine C_of (hW6.write [70,76,69,88,32] (by rw[h0'] at hB;simp only[if_true,List.length_cons,List.length_nil] at hB ⊢;omega)) ?_
       rintro _ m7 ⟨bf7,hW7,hC7⟩
       simp
       obtain ⟨q1,q2⟩:=hC7.keep hb46 hn4.1 hn4.2 fun e=>hf4 _ e rfl
       exact (hJ2 _ _).2 ⟨bf7,rfl,by rw[h0'];exact hW7,hC06.trans hC7,q1,q2⟩
      ·simp
       exact (hJ2 _ _).2 ⟨bf,rfl,by rw[h0'];simpa using hW6,hC06,hb46,fun e=>hf4 _ e rfl⟩
     ·intro a' m7 hJ7
      obtain ⟨bf7,hfa7,hW7,hC7,hb47,hf47⟩:=(hJ2 _ _).1 hJ7
      clear hJ7 hJ2 J2
      simp[hfa7]
      have hwd:IntKind.i64.wrap (l[x].dims-1)=(((l[x].dims-1).toNat:Nat):Int):=by rw[wrap64 (by omega) (by omega)];omega
      have hcl:(l[x].dims-1).toNat≤2:=by omega
      generalize (l[x].dims-1).toNat=cd at*
      have hk3:=fun m8=>k69 cd (by omega) m8
      have hrl:(List.replicate cd (44:UInt8)).length≤2:=by simp;omega
      generalize List.replicate cd (44:UInt8)=rl at*
      refine W_draw (fun _ _ _=>True) (by simp[maxDst]) ?_
      refine D_pc 0 6 [6,7,8,9] ?_
      simp[bx (own_read hb47),hwd]
      intro fs1 h1
      refine D_X rfl rfl fun m8 hm8 _=>?_
      simp
      refine C_of (hk3 m8) ?_
      rintro _ m9 ⟨rfl,rfl⟩
      refine ⟨by simp[lateOf],?_⟩
      refine D_pc 7 2 [9] ?_ (hfs:=fun _ _=>trivial)
      have hadd:binStr .add ⟨#[91]⟩ ⟨rl.toArray⟩=some (.str ⟨(91::rl:List UInt8).toArray⟩):=str_add [91] _ (by rw[ba_size];simp only[List.length_cons,List.length_nil];omega)
      have hadd2:binStr .add ⟨(91::rl:List UInt8).toArray⟩ ⟨#[93]⟩=some (.str ⟨(91::rl++ [93]:List UInt8).toArray⟩):=str_add (91::rl) ⟨#[93]⟩ (by show _+1≤_;simp only[List.length_cons];omega)
      simp only[List.cons_append] at hadd2
      simp[hadd,hadd2,-List.cons_append]
      intro fs2 h2
      refine D_X rfl rfl fun m10 hm10 _=>?_
      simp
      have hm710:=hm8.trans hm10
      refine C_of ((hW7.mono hm710).write (91::(rl++ [93])) (by simp only[List.length_append,List.length_cons,List.length_nil] at hB ⊢;omega)) ?_
      rintro _ m11 ⟨bf11,hW11,hC11⟩
      refine ⟨by simp[lateOf],?_⟩
      refine D_end fun m12 hm12 _=>?_
      simp
      obtain ⟨q1,q2⟩:=hC11.keep (own_mono hb47 hm710) hn4.1 hn4.2 hf47
      exact (hJ _ _).2 ⟨bf11,_,_,rfl,by simpa[List.append_assoc] using hW11.mono hm12,hS',by omega,hC7.trans ((WC.of_prefix hm710).trans (hC11.trans (.of_prefix hm12))),own_mono q1 hm12,by omega,by rw[hbd]⟩
    ·simp[hkk]
     have hl1:1≤l[x].elems.length:=by
      have h1:=hshd.1
      simp[least,hkk] at h1
      omega
     have hnl:l[x].names.length=l[x].elems.length:=by
      have h1:=hshd.2.2.1
      simp[nNames,hkk] at h1
      omega
     have hbd:bodyT l (txM l f) (s++ [x]) x=([83,84,82,85,67,84]++([40]++((txL (txM l f) true (s++ [x]) (named (eN l[x]) l[x].names)).1++ [41])),(txL (txM l f) true (s++ [x]) (named (eN l[x]) l[x].names)).2):=by
      simp[bodyT,hmd,hkk]
     rw[hbd] at hB ⊢
     simp only[List.length_append,List.length_cons,List.length_nil] at hB
     refine C_of (hW6.write [83,84,82,85,67,84] (by simp only[List.length_cons,List.length_nil];omega)) ?_
     rintro _ m7 ⟨bf7,hW7,hC7⟩
     have hb47:=(hC7.keep hb46 hn4.1 hn4.2 fun e=>hf4 _ e rfl).1
     have hniN:isNilOf .slice nm=some false:=by
      rcases hnm with ⟨_,h,_⟩|⟨_,_,_,_,rfl,_⟩
      ·omega
      ·rfl
     simp[bx (own_read hb47)]
     refine C_of (all_ok H.tx H.full ih (zs:=eN l[x]) (items:=named (eN l[x]) l[x].names) (fun z hz=>eN_lt H.tx.good hx (by rw[hmd];exact hz)) (by rw[eN_len];have:=H.tx.els _ (List.getElem_mem hx);omega) hW7 hS'
      (fun bf' m' hc=>by rw[eN_cast H.tx.good hx];exact he.mono (hc.pre0 hW7)) (.inr ⟨l[x].names,hniN,fun bf' m' hc=>hnm.mono (hc.pre0 hW7),by rw[eN_len];exact hnl,rfl⟩) (by omega)
      (by simp only[List.length_append,List.length_cons,List.length_nil];omega)) ?_
     rintro _ m8 ⟨bf8,hW8,hC8⟩
     simp
     exact ⟨bf8,by simpa[List.append_assoc] using hW8,hC06.trans (hC7.trans hC8)⟩
    ·simp[hkk]
     have hu:isU l[x]=true:=by simp[isU,hkk]
     have hbd:bodyT l (txM l f) (s++ [x]) x=([85,78,73,79,78]++([40]++((txL (txM l f) true (s++ [x]) (bare (basesOf l x))).1++ [41])),(txL (txM l f) true (s++ [x]) (bare (basesOf l x))).2):=by
      simp[bodyT,hmd,hkk]
     rw[hbd] at hB ⊢
     simp only[List.length_append,List.length_cons,List.length_nil] at hB
     refine C_of (hW6.write [85,78,73,79,78] (by simp only[List.length_cons,List.length_nil];omega)) ?_
     rintro _ m7 ⟨bf7,hW7,hC7⟩
     obtain ⟨ad7,hb7,had7⟩:=hW7.blk
     simp
     refine W_draw (fun _ _ _=>True) (by simp[maxDst]) ?_
     refine D_pc 0 10 [10,11] ?_
     simp[bx (own_read hb7)]
     intro fs1 h1
     refine D_X rfl rfl fun m8 hm8 _=>?_
     simp
     have hW8:=hW7.mono hm8
     refine C_of (k54 sT rk l ds x hx hu m8 (H.tab.mono hW8.pre) (H.rks.mono hW8.pre) H.dl H.tx.good H.t13 H.sm) ?_
     rintro v m9 ⟨hm9,O,zs,⟨hO,hOm⟩,hZs,hsb⟩
     have hum:isU (mdAt l x)=true:=by rw[hmd];exact hu
     have hzb:=once_eq H.tx.good H.ord hx hum (fun j=>by rw[hOm];unfold IsBase;rw[if_pos hum]) hsb
     subst hzb
     refine ⟨by simp[lateOf],?_⟩
     refine D_X rfl rfl fun m10 hm10 _=>?_
     simp
     have hW10:=hW8.mono (hm9.trans hm10)
     have hZ10:=hZs.mono hm10
     have hbl:=bases_lt H.tx.good hx
     refine C_of (all_ok H.tx H.full ih (zs:=basesOf l x) (items:=bare (basesOf l x)) hbl (by have:=(basesEx H.tx.good hx).length H.tx.good hx;have:=H.tx.len;omega) hW10 hS'
      (fun bf' m' hc=>ints_of_nat (hZ10.ch hc.1 fun c hc' e=>by
       have h1:=(hZs.blk_lo hc').1
       have h2:=hW8.lt
       rcases e with e|e|e
       ·omega
       ·omega
       ·have:=(hW8.buf.blk_lo e).2;omega)) (.inl ⟨rfl,rfl⟩) (by omega)
      (by simp only[List.length_append,List.length_cons,List.length_nil];omega)) ?_
     rintro _ m11 ⟨bf11,hW11,hC11⟩
     refine ⟨by simp[lateOf],?_⟩
     refine D_end fun m12 hm12 _=>?_
     simp
     exact ⟨bf11,by simpa[List.append_assoc] using hW11.mono hm12,hC06.trans (hC7.trans ((WC.of_prefix (hm8.trans (hm9.trans hm10))).trans (hC11.trans (.of_prefix hm12))))⟩
    ·simp[hkk]
     have hl1:1≤l[x].elems.length:=by
      have h1:=hshd.1
      simp[least,hkk] at h1
      omega
     have h64:=H.tx.els _ (List.getElem_mem hx)
     have hwl:IntKind.i64.wrap ((l[x].elems.length:Int)-1)=((l[x].elems.length-1:Nat):Int):=by rw[wrap64 (by omega) (by omega)];omega
     have hbd:bodyT l (txM l f) (s++ [x]) x=if 1<l[x].elems.length then ([80,82,79,67,40]++((txL (txM l f) true (s++ [x]) (bare ((eN l[x]).take (l[x].elems.length-1)))).1++([41,32]++(txM l f (txL (txM l f) true (s++ [x]) (bare ((eN l[x]).take (l[x].elems.length-1)))).2 ((eN l[x]).getD (l[x].elems.length-1) 0)).1)),
      (txM l f (txL (txM l f) true (s++ [x]) (bare ((eN l[x]).take (l[x].elems.length-1)))).2 ((eN l[x]).getD (l[x].elems.length-1) 0)).2) else ([80,82,79,67,32]++(txM l f (s++ [x]) ((eN l[x]).getD 0 0)).1,(txM l f (s++ [x]) ((eN l[x]).getD 0 0)).2):=by
      simp[bodyT,hmd,hkk]
     refine C_of (hW6.write [80,82,79,67] (by rw[hbd] at hB;split at hB<;>simp only[List.length_append,List.length_cons,List.length_nil] at hB ⊢ <;>omega)) ?_
     rintro _ m7 ⟨bf7,hW7,hC7⟩
     obtain ⟨hb47,hf47⟩:=hC7.keep hb46 hn4.1 hn4.2 fun e=>hf4 _ e rfl
     have he7:=he.mono hW7.pre
     simp[bx (own_read hb47),he7.len,hwl]
     obtain ⟨J2,hJ2⟩: ∃J:AFrame→AMem→Prop,∀a' m',J a' m'↔(∃bf' pr s',a'.forget [0,4]=mat 159 [(0,.ptr b 0),(4,.ptr b4 0)]∧WS m0 b mb sT rk ds m' bf' (bs++pr) s'∧Seen l s'∧s.length<s'.length∧WC b mb bf m bf' m'∧
      m'[b4]? =some (ABlk.own [AVal.int .i64 l[x].kind,AVal.int .i64 l[x].size,e,nm,AVal.int .i64 l[x].dims,AVal.bool l[x].flex] 39 none)∧bf'.blk≠some b4∧
      bodyT l (txM l f) (s++ [x]) x=(pr++ [32]++(txM l f s' ((eN l[x]).getD (l[x].elems.length-1) 0)).1,(txM l f s' ((eN l[x]).getD (l[x].elems.length-1) 0)).2)):=⟨_,fun _ _=>Iff.rfl⟩
     refine bbind_J J2 ?_ ?_
     ·refine bbind_dec (fun h0=>?_) fun h0=>?_
      ·have h1:1<l[x].elems.length:=by omega
       rw[if_pos h1] at hbd
       rw[hbd] at hB
       simp only[List.length_append,List.length_cons,List.length_nil] at hB
       have hes:=eN_cast H.tx.good hx
       obtain ⟨t7,q1,q2⟩:=he7.take (i:=l[x].elems.length-1) (by omega)
       simp[bx (own_read hb47),q1]
       have hzt: ∀z∈(eN l[x]).take (l[x].elems.length-1),z<l.length:=fun z hz=>eN_lt H.tx.good hx (by rw[hmd];exact mem_take hz)
       refine C_of (all_ok H.tx H.full ih (zs:=(eN l[x]).take (l[x].elems.length-1)) (items:=bare ((eN l[x]).take (l[x].elems.length-1))) hzt (by rw[List.length_take,eN_len];omega) hW7 hS'
        (fun bf' m' hc=>by rw[List.map_take,hes];exact q2 m' (he.mono (hc.pre0 hW7))) (.inl ⟨rfl,rfl⟩) (by omega)
        (by simp only[List.length_append,List.length_cons,List.length_nil];omega)) ?_
       rintro _ m8 ⟨bf8,hW8,hC8⟩
       simp
       obtain ⟨r1,r2⟩:=hC8.keep hb47 hn4.1 hn4.2 hf47
       have hsn:=txL_seen (fun s z hs hz=>txM_seen H.tx H.full f hs hz) (bare ((eN l[x]).take (l[x].elems.length-1))) true (s++ [x]) hS' fun p hp=>(bare_ok hzt p hp).1
       exact (hJ2 _ _).2 ⟨bf8,_,_,rfl,by simpa[List.append_assoc] using hW8,hsn.1,by omega,hC06.trans (hC7.trans hC8),r1,r2,by rw[hbd];simp[List.append_assoc]⟩
      ·have h1: ¬1<l[x].elems.length:=by omega
       rw[if_neg h1] at hbd
       have h2:l[x].elems.length-1=0:=by omega
       simp
       exact (hJ2 _ _).2 ⟨bf7,[80,82,79,67],s++ [x],rfl,hW7,hS',by omega,hC06.trans hC7,hb47,hf47,by rw[hbd,h2];simp⟩
     ·intro a' m8 hJ8
      obtain ⟨bf8,pr,s8,hfa8,hW8,hS8,hs8,hC8,hb48,hf48,hbd8⟩:=(hJ2 _ _).1 hJ8
      clear hJ8 hJ2 J2
      simp[hfa8]
      rw[hbd8] at hB
      simp only[List.length_append,List.length_cons,List.length_nil] at hB
      refine C_of (hW8.write [32] (by simp only[List.length_append,List.length_cons,List.length_nil];omega)) ?_
      rintro _ m9 ⟨bf9,hW9,hC9⟩
      simp
      exact (hJ _ _).2 ⟨bf9,pr++ [32],s8,rfl,by simpa[List.append_assoc] using hW9,hS8,hs8,hC8.trans hC9,(hC9.keep hb48 hn4.1 hn4.2 hf48).1,by omega,hbd8⟩
end Go.Proofs.YtlniliigcnedmaaGreatDoor
namespace Go.Proofs.YtlniliigcnedmaaGreatDoor
open Go Ax
open Relation
set_option maxRecDepth 100000
def Pw (R:Nat→Nat→Prop) (xs ys:List Nat):Prop:=xs.length=ys.length∧ ∀(k x y:Nat),xs[k]? =some x→ys[k]? =some y→R x y
theorem Pw.mono {R S:Nat→Nat→Prop} {xs ys:List Nat} (h:Pw R xs ys) (hs: ∀x y,R x y→S x y):Pw S xs ys:=⟨h.1,fun k x y a b=>hs x y (h.2 k x y a b)⟩
theorem Pw.nil {R:Nat→Nat→Prop}:Pw R [] []:=⟨rfl,fun k x y h=>by simp at h⟩
theorem Pw.cons {R:Nat→Nat→Prop} {x y:Nat} {xs ys:List Nat} (h:R x y) (hs:Pw R xs ys):Pw R (x::xs) (y::ys):=by
 refine ⟨by simp[hs.1],fun k a b ha hb=>?_⟩
 cases k with
 |zero=>simp at ha hb;subst ha hb;exact h
 |succ k=>exact hs.2 k a b (by simpa using ha) (by simpa using hb)
theorem Pw.app {R:Nat→Nat→Prop}: ∀{xs ys us vs:List Nat},Pw R xs ys→Pw R us vs→Pw R (xs++us) (ys++vs)
 | [],[],us,vs,_,h=>h
 | [],y::ys,us,vs,h,_=>by have:=h.1;simp at this
 |x::xs,[],us,vs,h,_=>by have:=h.1;simp at this
 |x::xs,y::ys,us,vs,h,h2=>Pw.cons (h.2 0 x y rfl rfl) (Pw.app ⟨by have:=h.1;simpa using this,fun k a b ha hb=>h.2 (k+1) a b (by simpa using ha) (by simpa using hb)⟩ h2)
theorem Pw.one {R:Nat→Nat→Prop} {xs ys:List Nat} (h1:xs.length=1) (h2:ys.length=1) (h:R (xs.getD 0 0) (ys.getD 0 0)):Pw R xs ys:=by
 match xs,ys,h1,h2 with
 | [x],[y],_,_=>exact Pw.cons (by simpa using h) Pw.nil
def Rel (l:List Md) (T T':List Nat) (a b:Nat):Prop:=
 ((mdAt l a).kind<9∧(mdAt l a).kind=(mdAt l b).kind∧(mdAt l a).size=(mdAt l b).size)∨(∃i u v:Nat,T[i]? =some u∧T'[i]? =some v∧RR l a=RR l u∧RR l b=RR l v)
theorem pre_get {T U:List Nat} (h:T<+:U) {i u:Nat} (hi:T[i]? =some u):U[i]? =some u:=by
 obtain ⟨r,rfl⟩:=h
 rw[List.getElem?_append_left (List.getElem?_eq_some_iff.1 hi).1]
 exact hi
theorem Rel.mono {l:List Md} {T T' U U':List Nat} {a b:Nat} (h:Rel l T T' a b) (h1:T<+:U) (h2:T'<+:U'):Rel l U U' a b:=by
 rcases h with h|⟨i,u,v,g1,g2,g3,g4⟩
 ·exact .inl h
 ·exact .inr ⟨i,u,v,pre_get h1 g1,pre_get h2 g2,g3,g4⟩
structure GoodP (l:List Md) (T T':List Nat) (a b:Nat):Prop where
 first:firstC (mdAt l a) (mdAt l b)=0
 bases:isU (mdAt l a)=true→Pw (Rel l T T') (basesOf l a) (basesOf l b)
 elems:isU (mdAt l a)=false→Pw (Rel l T T') (eN (mdAt l a)) (eN (mdAt l b))
theorem GoodP.mono {l:List Md} {T T' U U':List Nat} {a b:Nat} (h:GoodP l T T' a b) (h1:T<+:U) (h2:T'<+:U'):GoodP l U U' a b:=
 ⟨h.first,fun hu=>(h.bases hu).mono fun _ _ r=>r.mono h1 h2,fun hu=>(h.elems hu).mono fun _ _ r=>r.mono h1 h2⟩
structure Par (l:List Md) (n:Nat) (T T':List Nat):Prop where
 len:T.length=T'.length
 good: ∀(i u v:Nat),n≤i→T[i]? =some u→T'[i]? =some v→GoodP l T T' u v
def Inj (l:List Md) (f:Nat):Prop:= ∀(s s':List Nat) (x x':Nat) (r r':List UInt8),Seen l s→Seen l s'→s.length=s'.length→l.length<f+s.length→x<l.length→x'<l.length→Delim r→Delim r'→
 (txM l f s x).1++r=(txM l f s' x').1++r'→r=r'∧Par l s.length (txM l f s x).2 (txM l f s' x').2∧Rel l (txM l f s x).2 (txM l f s' x').2 x x'
theorem txL_pre {g:List Nat→Nat→List UInt8×List Nat} (hg: ∀s z,s<+:(g s z).2): ∀(zs:List (Nat×List UInt8)) (f:Bool) (s:List Nat),s<+:(txL g f s zs).2
 | [],_,s=>List.prefix_refl _
 |(z,nm)::zs,f,s=>(hg s z).trans (txL_pre hg zs false _)
theorem bodyT_pre {l:List Md} {g:List Nat→Nat→List UInt8×List Nat} (hg: ∀s z,s<+:(g s z).2) (s:List Nat) (x:Nat):s<+:(bodyT l g s x).2:=by
 unfold bodyT
 repeat' split
 all_goals first|exact hg _ _|exact txL_pre hg _ _ _|exact (txL_pre hg _ _ _).trans (hg _ _)
theorem txM_pre {l:List Md}: ∀(f:Nat) (s:List Nat) (x:Nat),s<+:(txM l f s x).2
 |0,s,x=>List.prefix_refl _
 |f+1,s,x=>by
  unfold txM
  split
  ·exact List.prefix_refl _
  ·split
   ·exact List.prefix_refl _
   ·exact (List.prefix_append _ _).trans (bodyT_pre (txM_pre f) _ _)
section
variable {l:List Md} (hc:checkI l=0) (h60:l.length≤60)
include hc h60
theorem txM_word (f:Nat) (s:List Nat) {x:Nat} (hx:x<l.length):codeOf (mdAt l x) (numOf l s x).isSome<35∧ ∃t,(txM l (f+1) s x).1=wordC (codeOf (mdAt l x) (numOf l s x).isSome)++t:=by
 obtain ⟨_,_,hsh⟩:=txT_of hc h60
 obtain ⟨h0,h14,hs⟩:=hsh _ (mdAt_mem hx)
 have hsz:sizeOk (mdAt l x):=hs.2.2.2.2.1
 refine ⟨code_lt h0 hsz,?_⟩
 unfold txM
 by_cases h9:(mdAt l x).kind<9
 ·rw[if_pos h9,code_plain h0 h9]
  exact ⟨[],by rw[List.append_nil];exact plain_word h0 h9 hsz⟩
 ·rw[if_neg h9]
  cases hn:numOf l s x with
  |some n=>exact ⟨digB 20 n,by simp only[Option.isSome_some];rw[code_num h9];rfl⟩
  |none=>
   simp only[Option.isSome_none]
   unfold bodyT
   rcases code_comp (x:=mdAt l x) (by omega) h14 with ⟨a,b⟩|⟨a,a2,b⟩|⟨a,a2,b⟩|⟨a,b⟩|⟨a,b⟩|⟨a,a2,b⟩|⟨a,a2,b⟩<;>rw[b]
   ·rw[if_pos a];exact ⟨_,rfl⟩
   ·rw[if_neg (by omega),if_pos a,a2];exact ⟨_,rfl⟩
   ·rw[if_neg (by omega),if_pos a,a2];exact ⟨_,rfl⟩
   ·rw[if_neg (by omega),if_neg (by omega),if_pos a];exact ⟨_,rfl⟩
   ·rw[if_neg (by omega),if_neg (by omega),if_neg (by omega),if_pos a];exact ⟨_,rfl⟩
   ·rw[if_neg (by omega),if_neg (by omega),if_neg (by omega),if_neg (by omega),if_pos a2];exact ⟨_,rfl⟩
   ·rw[if_neg (by omega),if_neg (by omega),if_neg (by omega),if_neg (by omega),if_neg a2];exact ⟨_,rfl⟩
theorem txM_hd (f:Nat) (s:List Nat) {x:Nat} (hx:x<l.length): ∃c t,(txM l (f+1) s x).1=c::t∧c≠41:=by
 obtain ⟨h1,t,h2⟩:=txM_word hc h60 f s hx
 have h3:=List.all_eq_true.1 words_head _ (List.mem_range.2 h1)
 generalize codeOf (mdAt l x) (numOf l s x).isSome=c at*
 cases hw:wordC c with
 |nil=>rw[hw] at h3;simp at h3
 |cons d w=>
  rw[hw] at h2 h3
  exact ⟨d,w++t,h2,by simpa using h3⟩
end
theorem txL_hd {g:List Nat→Nat→List UInt8×List Nat} (s:List Nat) (zs:List (Nat×List UInt8)) (r:List UInt8): ∃c t,(txL g false s zs).1++41::r=c::t∧(c=41∨c=44):=by
 cases zs with
 |nil=>exact ⟨41,r,rfl,.inl rfl⟩
 |cons p zs=>exact ⟨44,_,rfl,.inr rfl⟩
def Item (l:List Md) (N:Bool) (p:Nat×List UInt8):Prop:=p.1<l.length∧(N=true→ ∃nm,p.2=32::nm∧ ∀c∈nm,isTag c)∧(N=false→p.2= [])
theorem txL_inj {l:List Md} (hc:checkI l=0) (h60:l.length≤60) {f:Nat} (hI:Inj l f) (N:Bool): ∀(zs zs':List (Nat×List UInt8)) (fl:Bool) (s s':List Nat) (r r':List UInt8),Seen l s→Seen l s'→s.length=s'.length→l.length<f+s.length→(∀p∈zs,Item l N p)→(∀p∈zs',Item l N p)→
  (txL (txM l f) fl s zs).1++41::r=(txL (txM l f) fl s' zs').1++41::r'→r=r'∧Par l s.length (txL (txM l f) fl s zs).2 (txL (txM l f) fl s' zs').2∧zs.map (·.2)=zs'.map (·.2)∧Pw (Rel l (txL (txM l f) fl s zs).2 (txL (txM l f) fl s' zs').2) (zs.map (·.1)) (zs'.map (·.1))
 | [],[],fl,s,s',r,r',_,_,hl,_,_,_,h=>by
  simp only[txL,List.nil_append,List.cons.injEq,true_and] at h
  exact ⟨h,⟨hl,fun i u v hi hu _=>by have:=(List.getElem?_eq_some_iff.1 hu).1;simp only[txL] at this;omega⟩,rfl,Pw.nil⟩
 | [],(z,nm)::zs',fl,s,s',r,r',hs,hs',hl,hfu,_,hz',h=>by
  exfalso
  have hsl:=hs.len
  obtain ⟨f,rfl⟩: ∃f',f=f'+1:=⟨f-1,by omega⟩
  obtain ⟨c,t,h1,h2⟩:=txM_hd hc h60 f s' (hz' _ (List.mem_cons_self ..)).1
  cases fl
  ·simp[txL] at h
  ·simp only[txL,if_true,List.nil_append,h1,List.cons_append,List.cons.injEq] at h
   exact h2 h.1.symm
 |(z,nm)::zs,[],fl,s,s',r,r',hs,hs',hl,hfu,hz,_,h=>by
  exfalso
  have hsl:=hs.len
  obtain ⟨f,rfl⟩: ∃f',f=f'+1:=⟨f-1,by omega⟩
  obtain ⟨c,t,h1,h2⟩:=txM_hd hc h60 f s (hz _ (List.mem_cons_self ..)).1
  cases fl
  ·simp[txL] at h
  ·simp only[txL,if_true,List.nil_append,h1,List.cons_append,List.cons.injEq] at h
   exact h2 h.1
 |(z,nm)::zs,(z',nm')::zs',fl,s,s',r,r',hs,hs',hl,hfu,hz,hz',h=>by
  obtain ⟨ht,hF,_⟩:=txT_of hc h60
  obtain ⟨hzl,hzt,hzf⟩:=hz _ (List.mem_cons_self ..)
  obtain ⟨hzl',hzt',hzf'⟩:=hz' _ (List.mem_cons_self ..)
  have e1:=txM_seen ht hF f hs hzl
  have e2:=txM_seen ht hF f hs' hzl'
  obtain ⟨c,t,hd1,hd2⟩:=txL_hd (g:=txM l f) (txM l f s z).2 zs r
  obtain ⟨c',t',hd1',hd2'⟩:=txL_hd (g:=txM l f) (txM l f s' z').2 zs' r'
  have hcat:(txM l f s z).1++(nm++((txL (txM l f) false (txM l f s z).2 zs).1++41::r))=(txM l f s' z').1++(nm'++((txL (txM l f) false (txM l f s' z').2 zs').1++41::r')):=by
   cases fl<;>simpa[txL,List.append_assoc] using h
  have hdel: ∀{c:UInt8} {t nm:List UInt8},(c=41∨c=44)→(N=true→ ∃n,nm=32::n∧ ∀c∈n,isTag c)→(N=false→nm= [])→Delim (nm++c::t):=fun {c t nm} h1 h2 h3=>by
   cases N
   ·rw[h3 rfl];exact .inr ⟨c,t,rfl,by rcases h1 with h|h;exact .inl h;exact .inr (.inl h)⟩
   ·obtain ⟨n,rfl,_⟩:=h2 rfl
    exact .inr ⟨32,n++c::t,rfl,.inr (.inr rfl)⟩
  obtain ⟨g1,P1,R1⟩:=hI s s' z z' _ _ hs hs' hl hfu hzl hzl' (by rw[hd1];exact hdel hd2 hzt hzf) (by rw[hd1'];exact hdel hd2' hzt' hzf') hcat
  have hnm:nm=nm'∧(txL (txM l f) false (txM l f s z).2 zs).1++41::r=(txL (txM l f) false (txM l f s' z').2 zs').1++41::r':=by
   cases N
   ·have a1:=hzf rfl
    have a2:=hzf' rfl
    simp only at a1 a2
    subst a1 a2
    exact ⟨rfl,g1⟩
   ·obtain ⟨n,a1,a2⟩:=hzt rfl
    obtain ⟨n',b1,b2⟩:=hzt' rfl
    simp only at a1 b1
    subst a1 b1
    simp only[List.cons_append,List.cons.injEq,true_and] at g1
    obtain ⟨q1,q2⟩:=span_eq a2 b2 (by rw[hd1];exact noTag hd2) (by rw[hd1'];exact noTag hd2') g1
    exact ⟨by rw[q1],q2⟩
  obtain ⟨hnn,hrest⟩:=hnm
  obtain ⟨q1,P2,q3,q4⟩:=txL_inj hc h60 hI N zs zs' false _ _ r r' e1.1 e2.1 P1.len (by omega) (fun p hp=>hz p (List.mem_cons_of_mem _ hp)) (fun p hp=>hz' p (List.mem_cons_of_mem _ hp)) hrest
  have p1:=txL_pre (g:=txM l f) (txM_pre f) zs false (txM l f s z).2
  have p2:=txL_pre (g:=txM l f) (txM_pre f) zs' false (txM l f s' z').2
  refine ⟨q1,⟨P2.len,fun i u v hi hu hv=>?_⟩,?_,?_⟩
  ·rcases Nat.lt_or_ge i (txM l f s z).2.length with h1|h1
   ·have u1:=List.getElem?_eq_getElem h1
    have v1:=List.getElem?_eq_getElem (show i<(txM l f s' z').2.length by rw[←P1.len];exact h1)
    have hu':=hu.symm.trans (pre_get p1 u1)
    have hv':=hv.symm.trans (pre_get p2 v1)
    rw[←hu'] at u1
    rw[←hv'] at v1
    exact (P1.good i u v hi u1 v1).mono p1 p2
   ·exact P2.good i u v h1 hu hv
  ·simp only[List.map_cons,hnn,q3]
  ·exact Pw.cons (R1.mono p1 p2) q4
end Go.Proofs.YtlniliigcnedmaaGreatDoor
namespace Go.Proofs.YtlniliigcnedmaaGreatDoor
open Go Ax
open Relation
set_option maxRecDepth 100000
theorem numOf_spec {l:List Md} {s:List Nat} {m n:Nat} (h:numOf l s m=some n): ∃u,s[n]? =some u∧RR l u=RR l m:=by
 unfold numOf at h
 rw[List.findIdx?_eq_some_iff_getElem] at h
 obtain ⟨h1,h2,_⟩:=h
 exact ⟨_,List.getElem?_eq_getElem h1,by simpa using h2⟩
theorem comp_first {x y:Md} (sx:shaped x) (sy:shaped y) (h9:9≤x.kind) (hk:x.kind=y.kind) (hd:x.kind=10→x.dims=y.dims) (hf:x.kind=10→x.flex=y.flex) (he:x.kind≠12→x.elems.length=y.elems.length) (hn:x.kind=11→x.names=y.names):firstC x y=0:=by
 obtain ⟨_,_,nx,dx,zx,fx⟩:=sx
 obtain ⟨_,_,ny,dy,zy,fy⟩:=sy
 unfold sizeOk at zx zy
 rw[if_neg (by omega)] at zx zy
 unfold dimsOk at dx dy
 unfold nNames at nx ny
 refine firstC_of hk (by omega) ?_ ?_ he ?_
 ·by_cases h:x.kind=10
  ·exact hd h
  ·rw[if_neg h] at dx
   rw[if_neg (by omega)] at dy
   omega
 ·by_cases h:x.kind=10
  ·exact hf h
  ·have h1:x.flex=false:=by cases hx:x.flex;rfl;exact absurd (fx hx) h
   have h2:y.flex=false:=by cases hy:y.flex;rfl;exact absurd (fy hy) (by omega)
   rw[h1,h2]
 ·have hnn:x.names=y.names:=by
   by_cases h:x.kind=11
   ·exact hn h
   ·rw[if_neg h] at nx
    rw[if_neg (by omega)] at ny
    rw[List.length_eq_zero_iff.1 (by omega:x.names.length=0),List.length_eq_zero_iff.1 (by omega:y.names.length=0)]
  rw[hnn]
  exact cmpS_ord.lex.self (fun _ _=>trivial)
theorem map_fst_bare (zs:List Nat):(bare zs).map (·.1)=zs:=by
 unfold bare
 rw[List.map_map]
 exact List.map_id _
theorem map_fst_named: ∀(zs:List Nat) (ns:List ByteArray),zs.length=ns.length→(named zs ns).map (·.1)=zs
 | [],[],_=>rfl
 | [],_::_,h=>by simp at h
 |_::_,[],h=>by simp at h
 |z::zs,n::ns,h=>by
  have:=map_fst_named zs ns (by simpa using h)
  simp only[named,List.zipWith_cons_cons,List.map_cons] at this ⊢
  rw[this]
theorem map_snd_named: ∀(zs:List Nat) (ns:List ByteArray),zs.length=ns.length→(named zs ns).map (·.2)=ns.map fun n=>32::n.data.toList
 | [],[],_=>rfl
 | [],_::_,h=>by simp at h
 |_::_,[],h=>by simp at h
 |z::zs,n::ns,h=>by
  have:=map_snd_named zs ns (by simpa using h)
  simp only[named,List.zipWith_cons_cons,List.map_cons] at this ⊢
  rw[this]
theorem ns_inj: ∀{xs ys:List ByteArray},(xs.map fun n:ByteArray=>(32:UInt8)::n.data.toList)=(ys.map fun n=>32::n.data.toList)→xs=ys
 | [],[],_=>rfl
 | [],_::_,h=>by simp at h
 |_::_,[],h=>by simp at h
 |x::xs,y::ys,h=>by
  simp only[List.map_cons,List.cons.injEq,true_and] at h
  rw[ns_inj h.2]
  have:=Array.toList_inj.1 h.1
  cases x;cases y
  simp only at this
  rw[this]
theorem tag_bytes {s:ByteArray} (h:wordB 97 122 s=true): ∀c∈s.data.toList,isTag c:=by
 intro c hc
 obtain ⟨i,hi,rfl⟩:=List.mem_iff_getElem.1 hc
 have hs:i<s.size:=by rw[Array.length_toList] at hi;exact hi
 unfold wordB at h
 rw[Bool.and_eq_true] at h
 have hch:=(rall_iff _ _ _).1 h.1 i (by omega) (by omega)
 have he:chOf s i=((s.data.toList[i]).toNat:Int):=by
  unfold chOf
  rw[show s[i]? =some s[i] from getElem?_pos s i hs]
  rfl
 rw[he] at hch
 generalize s.data.toList[i]=d at*
 unfold okCh at hch
 simp only[Bool.or_eq_true,Bool.and_eq_true,decide_eq_true_iff] at hch
 unfold isTag
 omega
theorem mat2 {l:List Md} {T T':List Nat} {a b:Nat} {n:Nat} {x x':Nat} {s s':List Nat} (hsl:s.length=n) (hsl':s'.length=n) (p:s++ [x]<+:T) (p':s'++ [x']<+:T') (hP:Par l (n+1) T T') (hG:GoodP l T T' x x'):
  Par l n T T'∧Rel l T T' x x':=by
 have g1:T[n]? =some x:=pre_get p (by rw[List.getElem?_append_right (by omega),hsl];simp)
 have g2:T'[n]? =some x':=pre_get p' (by rw[List.getElem?_append_right (by omega),hsl'];simp)
 refine ⟨⟨hP.len,fun i u v hi hu hv=>?_⟩,.inr ⟨n,x,x',g1,g2,rfl,rfl⟩⟩
 by_cases e:i=n
 ·subst e
  rw[g1] at hu
  rw[g2] at hv
  cases hu;cases hv
  exact hG
 ·exact hP.good i u v (by omega) hu hv
theorem bare_items {l:List Md} {zs:List Nat} (h: ∀z∈zs,z<l.length): ∀p∈bare zs,Item l false p:=by
 intro p hp
 obtain ⟨z,hz,rfl⟩:=List.mem_map.1 hp
 exact ⟨h z hz,(fun h=>by cases h),fun _=>rfl⟩
theorem take_last {xs:List Nat} {n:Nat} (h:1≤xs.length) (hn:xs.length=n):xs.take (n-1)++ [xs.getD (n-1) 0]=xs:=by
 subst hn
 have hk:xs.length-1<xs.length:=by omega
 rw[List.getD_eq_getElem?_getD,List.getElem?_eq_getElem hk,Option.getD_some]
 conv=>rhs;rw[←List.take_length (l:=xs),show xs.length=(xs.length-1)+1 by omega,List.take_add_one,List.getElem?_eq_getElem hk]
 rfl
set_option maxHeartbeats 4000000 in
theorem txM_inj {l:List Md} (hc:checkI l=0) (h60:l.length≤60): ∀f,Inj l f
 |0=>fun s s' x x' r r' hs _ _ hfu _ _ _ _ _=>by have:=hs.len;omega
 |f+1=>by
  have ih:=txM_inj hc h60 f
  have hg:=(okT_of hc).good
  obtain ⟨ht,hF,hsh⟩:=txT_of hc h60
  intro s s' x x' r r' hs hs' hl hfu hx hx' hr hr' h
  obtain ⟨c1,t1,w1⟩:=txM_word hc h60 f s hx
  obtain ⟨c2,t2,w2⟩:=txM_word hc h60 f s' hx'
  obtain ⟨kz0,kz14,sx⟩:=hsh _ (mdAt_mem hx)
  obtain ⟨kz0',kz14',sx'⟩:=hsh _ (mdAt_mem hx')
  have hcode:=(word_eq (r:=t1++r) (r':=t2++r') c1 c2 (by rw[←List.append_assoc,←List.append_assoc,←w1,←w2];exact h)).1
  clear w1 w2 t1 t2 c1 c2
  have hsl:=hs.len
  rcases code_inj ⟨kz0,kz14⟩ ⟨kz0',kz14'⟩ sx.2.2.2.2.1 sx'.2.2.2.2.1 hcode with ⟨h9,e1,e2⟩|⟨h9,h9',n1,n2⟩|⟨h9,e1,n1,n2,e3,e4⟩
  ·have w1:txM l (f+1) s x=(plainT (mdAt l x),s):=by simp[txM,h9]
   have w2:txM l (f+1) s' x'=(plainT (mdAt l x'),s'):=by simp[txM,←e1,h9]
   have hp:plainT (mdAt l x)=plainT (mdAt l x'):=by unfold plainT sizeT;rw[e1,e2]
   rw[w1,w2] at h ⊢
   rw[hp] at h
   exact ⟨List.append_cancel_left h,⟨hl,fun i u v hi hu _=>by have:=(List.getElem?_eq_some_iff.1 hu).1;simp only at this;omega⟩,.inl ⟨h9,e1,e2⟩⟩
  ·obtain ⟨a,na⟩:=Option.isSome_iff_exists.1 n1
   obtain ⟨b,nb⟩:=Option.isSome_iff_exists.1 n2
   have w1:txM l (f+1) s x=(35::digB 20 a,s):=by simp[txM,show ¬(mdAt l x).kind<9 by omega,na]
   have w2:txM l (f+1) s' x'=(35::digB 20 b,s'):=by simp[txM,show ¬(mdAt l x').kind<9 by omega,nb]
   rw[w1,w2] at h ⊢
   simp only[List.cons_append,List.cons.injEq,true_and] at h
   have la:=numOf_lt na
   have lb:=numOf_lt nb
   obtain ⟨rfl,q⟩:=num_parse (by omega) (by omega) hr hr' h
   obtain ⟨u,u1,u2⟩:=numOf_spec na
   obtain ⟨v,v1,v2⟩:=numOf_spec nb
   exact ⟨q,⟨hl,fun i u v hi hu _=>by have:=(List.getElem?_eq_some_iff.1 hu).1;simp only at this;omega⟩,.inr ⟨a,u,v,u1,v1,u2.symm,v2.symm⟩⟩
  ·have na:numOf l s x=none:=by simpa using n1
   have nb:numOf l s' x'=none:=by simpa using n2
   have w1:txM l (f+1) s x=bodyT l (txM l f) (s++ [x]) x:=by simp[txM,show ¬(mdAt l x).kind<9 by omega,na]
   have w2:txM l (f+1) s' x'=bodyT l (txM l f) (s'++ [x']) x':=by simp[txM,show ¬(mdAt l x').kind<9 by omega,nb]
   rw[w1,w2] at h ⊢
   have S1:=hs.add hx na
   have S2:=hs'.add hx' nb
   have l1:(s++ [x]).length=s.length+1:=by simp
   have l2:(s'++ [x']).length=s.length+1:=by simp[hl]
   have p1:=bodyT_pre (l:=l) (g:=txM l f) (txM_pre f) (s++ [x]) x
   have p2:=bodyT_pre (l:=l) (g:=txM l f) (txM_pre f) (s'++ [x']) x'
   have fu:l.length<f+(s++ [x]).length:=by omega
   have fin: ∀{T T':List Nat},s++ [x]<+:T→s'++ [x']<+:T'→Par l (s++ [x]).length T T'→GoodP l T T' x x'→Par l s.length T T'∧Rel l T T' x x':=fun a b P G=>mat2 (l:=l) (a:=0) (b:=0) rfl hl.symm a b (by rw[←l1];exact P) G
   have hkk:(mdAt l x).kind=9∨(mdAt l x).kind=10∨(mdAt l x).kind=11∨(mdAt l x).kind=12∨(mdAt l x).kind=13:=by omega
   rcases hkk with hk|hk|hk|hk|hk
   ·have hk':(mdAt l x').kind=9:=by omega
    have o1:(mdAt l x).elems.length=1:=by
     have h1:=sx.1;have h2:=sx.2.1
     simp[least,most,hk] at h1 h2
     omega
    have o2:(mdAt l x').elems.length=1:=by
     have h1:=sx'.1;have h2:=sx'.2.1
     simp[least,most,hk'] at h1 h2
     omega
    have b1:bodyT l (txM l f) (s++ [x]) x=([82,69,70,32]++(txM l f (s++ [x]) ((eN (mdAt l x)).getD 0 0)).1,(txM l f (s++ [x]) ((eN (mdAt l x)).getD 0 0)).2):=by simp[bodyT,hk]
    have b2:bodyT l (txM l f) (s'++ [x']) x'=([82,69,70,32]++(txM l f (s'++ [x']) ((eN (mdAt l x')).getD 0 0)).1,(txM l f (s'++ [x']) ((eN (mdAt l x')).getD 0 0)).2):=by simp[bodyT,hk']
    rw[b1] at h p1 ⊢
    rw[b2] at h p2 ⊢
    simp only[List.append_assoc] at h
    obtain ⟨q,P,R⟩:=ih _ _ _ _ r r' S1 S2 (by omega) fu (eN_getD hg hx (by omega)) (eN_getD hg hx' (by omega)) hr hr' (List.append_cancel_left h)
    exact ⟨q,fin p1 p2 P ⟨comp_first sx sx' h9 e1 (fun h=>by omega) (fun h=>by omega) (fun _=>by omega) (fun h=>by omega),fun hu=>by simp[isU,hk] at hu,fun _=>Pw.one (by rw[eN_len];exact o1) (by rw[eN_len];exact o2) R⟩⟩
   ·have hk':(mdAt l x').kind=10:=by omega
    have o1:(mdAt l x).elems.length=1:=by
     have h1:=sx.1;have h2:=sx.2.1
     simp[least,most,hk] at h1 h2
     omega
    have o2:(mdAt l x').elems.length=1:=by
     have h1:=sx'.1;have h2:=sx'.2.1
     simp[least,most,hk'] at h1 h2
     omega
    have d1:1≤(mdAt l x).dims∧(mdAt l x).dims≤3:=by have h1:=sx.2.2.2.1;simpa[dimsOk,hk] using h1
    have d2:1≤(mdAt l x').dims∧(mdAt l x').dims≤3:=by have h1:=sx'.2.2.2.1;simpa[dimsOk,hk'] using h1
    have hfx:=e3 hk
    have b1:bodyT l (txM l f) (s++ [x]) x=((if (mdAt l x).flex then [70,76,69,88,32] else [])++([91]++(List.replicate ((mdAt l x).dims-1).toNat 44++([93]++(txM l f (s++ [x]) ((eN (mdAt l x)).getD 0 0)).1))),(txM l f (s++ [x]) ((eN (mdAt l x)).getD 0 0)).2):=by unfold bodyT;rw[if_neg (by omega),if_pos hk]
    have b2:bodyT l (txM l f) (s'++ [x']) x'=((if (mdAt l x').flex then [70,76,69,88,32] else [])++([91]++(List.replicate ((mdAt l x').dims-1).toNat 44++([93]++(txM l f (s'++ [x']) ((eN (mdAt l x')).getD 0 0)).1))),(txM l f (s'++ [x']) ((eN (mdAt l x')).getD 0 0)).2):=by unfold bodyT;rw[if_neg (by omega),if_pos hk']
    rw[b1] at h p1 ⊢
    rw[b2] at h p2 ⊢
    rw[←hfx] at h
    simp only[List.append_assoc] at h
    have h:=List.append_cancel_left (List.append_cancel_left h)
    simp only[List.singleton_append] at h
    obtain ⟨q0,h⟩:=commas h
    obtain ⟨q,P,R⟩:=ih _ _ _ _ r r' S1 S2 (by omega) fu (eN_getD hg hx (by omega)) (eN_getD hg hx' (by omega)) hr hr' h
    exact ⟨q,fin p1 p2 P ⟨comp_first sx sx' h9 e1 (fun h=>by omega) (fun h=>hfx) (fun _=>by omega) (fun h=>by omega),fun hu=>by simp[isU,hk] at hu,fun _=>Pw.one (by rw[eN_len];exact o1) (by rw[eN_len];exact o2) R⟩⟩
   ·have hk':(mdAt l x').kind=11:=by omega
    have m1:(eN (mdAt l x)).length=(mdAt l x).names.length:=by
     have h1:=sx.2.2.1
     simp[nNames,hk] at h1
     rw[eN_len];omega
    have m2:(eN (mdAt l x')).length=(mdAt l x').names.length:=by
     have h1:=sx'.2.2.1
     simp[nNames,hk'] at h1
     rw[eN_len];omega
    have b1:bodyT l (txM l f) (s++ [x]) x=([83,84,82,85,67,84,40]++((txL (txM l f) true (s++ [x]) (named (eN (mdAt l x)) (mdAt l x).names)).1++ [41]),(txL (txM l f) true (s++ [x]) (named (eN (mdAt l x)) (mdAt l x).names)).2):=by unfold bodyT;rw[if_neg (by omega),if_neg (by omega),if_pos hk]
    have b2:bodyT l (txM l f) (s'++ [x']) x'=([83,84,82,85,67,84,40]++((txL (txM l f) true (s'++ [x']) (named (eN (mdAt l x')) (mdAt l x').names)).1++ [41]),(txL (txM l f) true (s'++ [x']) (named (eN (mdAt l x')) (mdAt l x').names)).2):=by unfold bodyT;rw[if_neg (by omega),if_neg (by omega),if_pos hk']
    have hit: ∀y,y<l.length→ ∀p∈named (eN (mdAt l y)) (mdAt l y).names,Item l true p:=fun y hy p hp=>by
     obtain ⟨g1,n,g2,g3⟩:=named_mem hp
     have hw:=(oneI_zero ((checkOk_iff.1 hc).one _ (mdAt_mem hy))).2.2.1 n g2
     exact ⟨eN_lt hg hy g1,(fun _=>⟨n.data.toList,g3,tag_bytes hw⟩),(fun h=>by cases h)⟩
    rw[b1] at h p1 ⊢
    rw[b2] at h p2 ⊢
    simp only[List.append_assoc] at h
    have h:=List.append_cancel_left h
    simp only[List.singleton_append] at h
    obtain ⟨q,P,q2,q3⟩:=txL_inj hc h60 ih true _ _ true _ _ r r' S1 S2 (by omega) fu (hit x hx) (hit x' hx') h
    rw[map_snd_named _ _ m1,map_snd_named _ _ m2] at q2
    have q2:=ns_inj q2
    rw[map_fst_named _ _ m1,map_fst_named _ _ m2] at q3
    have o:(mdAt l x).elems.length=(mdAt l x').elems.length:=by have:=q3.1;rw[eN_len,eN_len] at this;exact this
    exact ⟨q,fin p1 p2 P ⟨comp_first sx sx' h9 e1 (fun h=>by omega) (fun h=>by omega) (fun _=>o) (fun h=>q2),fun hu=>by simp[isU,hk] at hu,fun _=>q3⟩⟩
   ·have hk':(mdAt l x').kind=12:=by omega
    have b1:bodyT l (txM l f) (s++ [x]) x=([85,78,73,79,78,40]++((txL (txM l f) true (s++ [x]) (bare (basesOf l x))).1++ [41]),(txL (txM l f) true (s++ [x]) (bare (basesOf l x))).2):=by unfold bodyT;rw[if_neg (by omega),if_neg (by omega),if_neg (by omega),if_pos hk]
    have b2:bodyT l (txM l f) (s'++ [x']) x'=([85,78,73,79,78,40]++((txL (txM l f) true (s'++ [x']) (bare (basesOf l x'))).1++ [41]),(txL (txM l f) true (s'++ [x']) (bare (basesOf l x'))).2):=by unfold bodyT;rw[if_neg (by omega),if_neg (by omega),if_neg (by omega),if_pos hk']
    rw[b1] at h p1 ⊢
    rw[b2] at h p2 ⊢
    simp only[List.append_assoc] at h
    have h:=List.append_cancel_left h
    simp only[List.singleton_append] at h
    obtain ⟨q,P,q2,q3⟩:=txL_inj hc h60 ih false _ _ true _ _ r r' S1 S2 (by omega) fu (bare_items (bases_lt hg hx)) (bare_items (bases_lt hg hx')) h
    rw[map_fst_bare,map_fst_bare] at q3
    exact ⟨q,fin p1 p2 P ⟨comp_first sx sx' h9 e1 (fun h=>by omega) (fun h=>by omega) (fun h=>absurd hk h) (fun h=>by omega),fun _=>q3,fun hu=>by simp[isU,hk] at hu⟩⟩
   ·have hk':(mdAt l x').kind=13:=by omega
    have hw: ∀y,y<l.length→ ∀z∈(eN (mdAt l y)).take ((mdAt l y).elems.length-1),z<l.length:=fun y hy z hz=>eN_lt hg hy (mem_take hz)
    have g1:1≤(mdAt l x).elems.length:=by
     have h1:=sx.1
     simp[least,hk] at h1
     omega
    have g2:1≤(mdAt l x').elems.length:=by
     have h1:=sx'.1
     simp[least,hk'] at h1
     omega
    have hnu:isU (mdAt l x)=true→False:=fun hu=>by simp[isU,hk] at hu
    by_cases hl1:1<(mdAt l x).elems.length
    ·have hl2:=(e4 hk).1 hl1
     have b1:bodyT l (txM l f) (s++ [x]) x=([80,82,79,67,40]++((txL (txM l f) true (s++ [x]) (bare ((eN (mdAt l x)).take ((mdAt l x).elems.length-1)))).1++([41,32]++(txM l f (txL (txM l f) true (s++ [x]) (bare ((eN (mdAt l x)).take ((mdAt l x).elems.length-1)))).2 ((eN (mdAt l x)).getD ((mdAt l x).elems.length-1) 0)).1)),
       (txM l f (txL (txM l f) true (s++ [x]) (bare ((eN (mdAt l x)).take ((mdAt l x).elems.length-1)))).2 ((eN (mdAt l x)).getD ((mdAt l x).elems.length-1) 0)).2):=by unfold bodyT;rw[if_neg (by omega),if_neg (by omega),if_neg (by omega),if_neg (by omega),if_pos hl1]
     have b2:bodyT l (txM l f) (s'++ [x']) x'=([80,82,79,67,40]++((txL (txM l f) true (s'++ [x']) (bare ((eN (mdAt l x')).take ((mdAt l x').elems.length-1)))).1++([41,32]++(txM l f (txL (txM l f) true (s'++ [x']) (bare ((eN (mdAt l x')).take ((mdAt l x').elems.length-1)))).2 ((eN (mdAt l x')).getD ((mdAt l x').elems.length-1) 0)).1)),
       (txM l f (txL (txM l f) true (s'++ [x']) (bare ((eN (mdAt l x')).take ((mdAt l x').elems.length-1)))).2 ((eN (mdAt l x')).getD ((mdAt l x').elems.length-1) 0)).2):=by unfold bodyT;rw[if_neg (by omega),if_neg (by omega),if_neg (by omega),if_neg (by omega),if_pos hl2]
     have i1:=bare_items (hw x hx)
     have i2:=bare_items (hw x' hx')
     rw[b1] at h p1 ⊢
     rw[b2] at h p2 ⊢
     simp only[List.append_assoc] at h
     have h:=List.append_cancel_left h
     have pl1:=txL_pre (g:=txM l f) (txM_pre (l:=l) f) (bare ((eN (mdAt l x)).take ((mdAt l x).elems.length-1))) true (s++ [x])
     have hseen:=txL_seen (fun s z a b=>txM_seen ht hF f a b) (bare ((eN (mdAt l x)).take ((mdAt l x).elems.length-1))) true (s++ [x]) S1 fun p hp=>(i1 p hp).1
     have hseen':=txL_seen (fun s z a b=>txM_seen ht hF f a b) (bare ((eN (mdAt l x')).take ((mdAt l x').elems.length-1))) true (s'++ [x']) S2 fun p hp=>(i2 p hp).1
     have Z1:(eN (mdAt l x)).take ((mdAt l x).elems.length-1)++ [(eN (mdAt l x)).getD ((mdAt l x).elems.length-1) 0]=eN (mdAt l x):=take_last (by rw[eN_len];omega) (by rw[eN_len])
     have Z2:(eN (mdAt l x')).take ((mdAt l x').elems.length-1)++ [(eN (mdAt l x')).getD ((mdAt l x').elems.length-1) 0]=eN (mdAt l x'):=take_last (by rw[eN_len];omega) (by rw[eN_len])
     have la:=eN_getD (k:=(mdAt l x).elems.length-1) hg hx (by omega)
     have lb:=eN_getD (k:=(mdAt l x').elems.length-1) hg hx' (by omega)
     generalize (eN (mdAt l x)).getD ((mdAt l x).elems.length-1) 0=z1 at*
     generalize (eN (mdAt l x')).getD ((mdAt l x').elems.length-1) 0=z2 at*
     generalize (eN (mdAt l x)).take ((mdAt l x).elems.length-1)=a1 at*
     generalize (eN (mdAt l x')).take ((mdAt l x').elems.length-1)=a2 at*
     simp only[List.cons_append,List.nil_append] at h
     obtain ⟨q,P,q2,q3⟩:=txL_inj hc h60 ih false _ _ true _ _ _ _ S1 S2 (by omega) fu i1 i2 h
     simp only[List.cons.injEq,true_and] at q
     rw[map_fst_bare,map_fst_bare] at q3
     obtain ⟨q',P',R'⟩:=ih _ _ _ _ r r' hseen.1 hseen'.1 P.len (by omega) la lb hr hr' q
     have pa:=txM_pre (l:=l) f (txL (txM l f) true (s++ [x]) (bare a1)).2 z1
     have pb:=txM_pre (l:=l) f (txL (txM l f) true (s'++ [x']) (bare a2)).2 z2
     have PW:=Pw.app (q3.mono fun _ _ r=>r.mono pa pb) (Pw.cons R' Pw.nil)
     rw[Z1,Z2] at PW
     have o:(mdAt l x).elems.length=(mdAt l x').elems.length:=by have:=PW.1;rw[eN_len,eN_len] at this;exact this
     refine ⟨q',fin p1 p2 ⟨P'.len,fun i u v hi hu hv=>?_⟩ ⟨comp_first sx sx' h9 e1 (fun h=>by omega) (fun h=>by omega) (fun _=>o) (fun h=>by omega),fun hu=>(hnu hu).elim,fun _=>PW⟩⟩
     rcases Nat.lt_or_ge i (txL (txM l f) true (s++ [x]) (bare a1)).2.length with hb|hb
     ·have u1:=List.getElem?_eq_getElem hb
      have v1:=List.getElem?_eq_getElem (show i<(txL (txM l f) true (s'++ [x']) (bare a2)).2.length by rw[←P.len];exact hb)
      have hu':=hu.symm.trans (pre_get pa u1)
      have hv':=hv.symm.trans (pre_get pb v1)
      rw[←hu'] at u1
      rw[←hv'] at v1
      exact (P.good i u v hi u1 v1).mono pa pb
     ·exact P'.good i u v hb hu hv
    ·have hl2: ¬1<(mdAt l x').elems.length:=fun h=>hl1 ((e4 hk).2 h)
     have b1:bodyT l (txM l f) (s++ [x]) x=([80,82,79,67,32]++(txM l f (s++ [x]) ((eN (mdAt l x)).getD 0 0)).1,(txM l f (s++ [x]) ((eN (mdAt l x)).getD 0 0)).2):=by unfold bodyT;rw[if_neg (by omega),if_neg (by omega),if_neg (by omega),if_neg (by omega),if_neg hl1]
     have b2:bodyT l (txM l f) (s'++ [x']) x'=([80,82,79,67,32]++(txM l f (s'++ [x']) ((eN (mdAt l x')).getD 0 0)).1,(txM l f (s'++ [x']) ((eN (mdAt l x')).getD 0 0)).2):=by unfold bodyT;rw[if_neg (by omega),if_neg (by omega),if_neg (by omega),if_neg (by omega),if_neg hl2]
     rw[b1] at h p1 ⊢
     rw[b2] at h p2 ⊢
     simp only[List.append_assoc] at h
     obtain ⟨q,P,R⟩:=ih _ _ _ _ r r' S1 S2 (by omega) fu (eN_getD hg hx (by omega)) (eN_getD hg hx' (by omega)) hr hr' (List.append_cancel_left h)
     exact ⟨q,fin p1 p2 P ⟨comp_first sx sx' h9 e1 (fun h=>by omega) (fun h=>by omega) (fun _=>by omega) (fun h=>by omega),fun hu=>(hnu hu).elim,fun _=>Pw.one (by rw[eN_len];omega) (by rw[eN_len];omega) R⟩⟩
end Go.Proofs.YtlniliigcnedmaaGreatDoor
namespace Go.Proofs.YtlniliigcnedmaaGreatDoor
open Go Ax
open Relation
set_option maxRecDepth 100000
theorem firstC_trans {x y z:Md} (h1:firstC x y=0) (h2:firstC y z=0):firstC x z=0:=by
 have o:=firstC_ord
 have a1:firstC y x=0:=(o.zero trivial trivial).1 h1
 have a2:firstC z y=0:=(o.zero trivial trivial).1 h2
 have b1:firstC x z≤0:=o.trans x y z trivial trivial trivial (by omega) (by omega)
 have b2:firstC z x≤0:=o.trans z y x trivial trivial trivial (by omega) (by omega)
 have b3:0≤firstC x z:=(o.ge trivial trivial).2 b2
 omega
section
variable {l:List Md} (hc:checkI l=0) (h60:l.length≤60)
include hc h60
omit hc h60 in
theorem Rel.congr {T T':List Nat} {a b a' b':Nat} (ha:a<l.length) (ha':a'<l.length) (hb:b<l.length) (hb':b'<l.length) (h1:RR l a=RR l a') (h2:RR l b=RR l b') (h:Rel l T T' a b):Rel l T T' a' b':=by
 rcases h with ⟨g1,g2,g3⟩|⟨i,u,v,g1,g2,g3,g4⟩
 ·obtain ⟨q1,q2,_⟩:=firstC_all (RR_first ha ha' h1)
  obtain ⟨p1,p2,_⟩:=firstC_all (RR_first hb hb' h2)
  exact .inl ⟨by omega,by omega,by omega⟩
 ·exact .inr ⟨i,u,v,g1,g2,by omega,by omega⟩
omit hc h60 in
theorem plain_first {x y:Md} (sx:shaped x) (sy:shaped y) (h9:x.kind<9) (hk:x.kind=y.kind) (hz:x.size=y.size):firstC x y=0∧x.elems.length=0∧y.elems.length=0:=by
 obtain ⟨_,mx,nx,dx,_,fx⟩:=sx
 obtain ⟨_,my,ny,dy,_,fy⟩:=sy
 unfold dimsOk at dx dy
 unfold nNames at nx ny
 unfold most at mx my
 rw[if_neg (by omega)] at dx dy nx ny mx my
 rw[if_neg (by omega)] at mx my
 have h1:x.flex=false:=by cases hx:x.flex;rfl;have:=fx hx;omega
 have h2:y.flex=false:=by cases hy:y.flex;rfl;have:=fy hy;omega
 refine ⟨firstC_of hk hz (by omega) (by rw[h1,h2]) (fun _=>by omega) ?_,by omega,by omega⟩
 rw[List.length_eq_zero_iff.1 (by omega:x.names.length=0),List.length_eq_zero_iff.1 (by omega:y.names.length=0)]
 rfl
theorem textT_inj {a b:Nat} (ha:a<l.length) (hb:b<l.length) (h:textT l a=textT l b):RR l a=RR l b:=by
 obtain ⟨ht,hF,hsh⟩:=txT_of hc h60
 have hg:=(okT_of hc).good
 obtain ⟨_,P,R⟩:=txM_inj hc h60 (l.length+1) [] [] a b [] [] Seen.nil Seen.nil rfl (by simp) ha hb (.inl rfl) (.inl rfl) (by rw[List.append_nil,List.append_nil];exact h)
 have S1:=(txM_seen ht hF (l.length+1) Seen.nil ha).1
 have S2:=(txM_seen ht hF (l.length+1) Seen.nil hb).1
 generalize (txM l (l.length+1) [] a).2=T at*
 generalize (txM l (l.length+1) [] b).2=T' at*
 have hin: ∀{i u v:Nat},T[i]? =some u→T'[i]? =some v→u<l.length∧v<l.length∧GoodP l T T' u v:=fun {i u v} h1 h2=>⟨S1.lt u (List.mem_of_getElem? h1),S2.lt v (List.mem_of_getElem? h2),P.good i u v (by simp) h1 h2⟩
 have hUk: ∀{y:Nat},isU (mdAt l y)=true→(mdAt l y).kind=12:=fun h=>by simpa[isU] using h
 refine Bisim.RR (E:=fun a b=>a<l.length∧b<l.length∧Rel l T T' a b) ⟨fun a b h=>⟨h.1,h.2.1⟩,?_,?_,?_,?_,?_⟩ ⟨ha,hb,R⟩
 ·rintro x y ⟨hx,hy,h⟩
  rcases h with ⟨g1,g2,g3⟩|⟨i,u,v,g1,g2,g3,g4⟩
  ·exact (plain_first (hsh _ (mdAt_mem hx)).2.2 (hsh _ (mdAt_mem hy)).2.2 g1 g2 g3).1
  ·obtain ⟨hu,hv,G⟩:=hin g1 g2
   exact firstC_trans (RR_first hx hu g3) (firstC_trans G.first (RR_first hv hy g4.symm))
 ·rintro x y j ⟨hx,hy,h⟩ hux hj
  rcases h with ⟨g1,g2,g3⟩|⟨i,u,v,g1,g2,g3,g4⟩
  ·have:=hUk hux;omega
  ·obtain ⟨hu,hv,G⟩:=hin g1 g2
   have huu:isU (mdAt l u)=true:=by rw[←RR_isU hx hu g3];exact hux
   have hvv:isU (mdAt l v)=true:=by have:=(firstC_all G.first).1;have:=hUk huu;simp[isU];omega
   obtain ⟨j2,q1,q2⟩:=RR_part hg hx hu g3 hux hj
   obtain ⟨z,z1,z2⟩:=basesOf_cov hg hu (show IsBase l u j2 by unfold IsBase;rw[if_pos huu];exact q1)
   obtain ⟨k,hk⟩:=List.getElem?_of_mem z1
   have PW:=G.bases huu
   have hk2:k<(basesOf l v).length:=by rw[←PW.1];exact (List.getElem?_eq_some_iff.1 hk).1
   have hk3:=List.getElem?_eq_getElem hk2
   have R1:=PW.2 k _ _ hk hk3
   have hz':=List.getElem_mem hk2
   generalize (basesOf l v)[k]=z' at*
   have hzb:=basesOf_sub hg hv hz'
   unfold IsBase at hzb
   rw[if_pos hvv] at hzb
   obtain ⟨j',w1,w2⟩:=RR_part hg hv hy g4.symm hvv hzb
   exact ⟨j',w1,hj.lt hg,w1.lt hg,Rel.congr (bases_lt hg hu z z1) (hj.lt hg) (hzb.lt hg) (w1.lt hg) (by omega) w2 R1⟩
 ·rintro x y j ⟨hx,hy,h⟩ huy hj
  rcases h with ⟨g1,g2,g3⟩|⟨i,u,v,g1,g2,g3,g4⟩
  ·have:=hUk huy;omega
  ·obtain ⟨hu,hv,G⟩:=hin g1 g2
   have hvv:isU (mdAt l v)=true:=by rw[←RR_isU hy hv g4];exact huy
   have huu:isU (mdAt l u)=true:=by have:=(firstC_all G.first).1;have:=hUk hvv;simp[isU];omega
   obtain ⟨j2,q1,q2⟩:=RR_part hg hy hv g4 huy hj
   obtain ⟨z,z1,z2⟩:=basesOf_cov hg hv (show IsBase l v j2 by unfold IsBase;rw[if_pos hvv];exact q1)
   obtain ⟨k,hk⟩:=List.getElem?_of_mem z1
   have PW:=G.bases huu
   have hk2:k<(basesOf l u).length:=by rw[PW.1];exact (List.getElem?_eq_some_iff.1 hk).1
   have hk3:=List.getElem?_eq_getElem hk2
   have R1:=PW.2 k _ _ hk3 hk
   have hz':=List.getElem_mem hk2
   generalize (basesOf l u)[k]=z' at*
   have hzb:=basesOf_sub hg hu hz'
   unfold IsBase at hzb
   rw[if_pos huu] at hzb
   obtain ⟨j',w1,w2⟩:=RR_part hg hu hx g3.symm huu hzb
   exact ⟨j',w1,w1.lt hg,hj.lt hg,Rel.congr (hzb.lt hg) (w1.lt hg) (bases_lt hg hv z z1) (hj.lt hg) w2 (by omega) R1⟩
 ·rintro x y ⟨hx,hy,h⟩ hux
  rcases h with ⟨g1,g2,g3⟩|⟨i,u,v,g1,g2,g3,g4⟩
  ·have:=plain_first (hsh _ (mdAt_mem hx)).2.2 (hsh _ (mdAt_mem hy)).2.2 g1 g2 g3
   omega
  ·obtain ⟨hu,hv,G⟩:=hin g1 g2
   have huu:isU (mdAt l u)=false:=by rw[←RR_isU hx hu g3];exact hux
   have hvv:isU (mdAt l v)=false:=by have:=(firstC_all G.first).1;simp[isU] at huu ⊢;omega
   have e1:=(RR_elem hg hx hu g3 hux).1
   have e2:=(RR_elem hg hv hy g4.symm hvv).1
   have e3:=(G.elems huu).1
   rw[eN_len,eN_len] at e3
   omega
 ·rintro x y k e e' ⟨hx,hy,h⟩ hux h1 h2
  have he:=hg _ (mdAt_mem hx) e (List.mem_of_getElem? h1)
  have he':=hg _ (mdAt_mem hy) e' (List.mem_of_getElem? h2)
  refine ⟨by omega,by omega,?_⟩
  rcases h with ⟨g1,g2,g3⟩|⟨i,u,v,g1,g2,g3,g4⟩
  ·have:=plain_first (hsh _ (mdAt_mem hx)).2.2 (hsh _ (mdAt_mem hy)).2.2 g1 g2 g3
   have:=(List.getElem?_eq_some_iff.1 h1).1
   omega
  ·obtain ⟨hu,hv,G⟩:=hin g1 g2
   have huu:isU (mdAt l u)=false:=by rw[←RR_isU hx hu g3];exact hux
   have hvv:isU (mdAt l v)=false:=by have:=(firstC_all G.first).1;simp[isU] at huu ⊢;omega
   obtain ⟨l1,E1⟩:=RR_elem hg hx hu g3 hux
   obtain ⟨l2,E2⟩:=RR_elem hg hv hy g4.symm hvv
   have PW:=G.elems huu
   have hk:=(List.getElem?_eq_some_iff.1 h1).1
   have hk':=(List.getElem?_eq_some_iff.1 h2).1
   have u1:=List.getElem?_eq_getElem (show k<(mdAt l u).elems.length by omega)
   have v1:=List.getElem?_eq_getElem (show k<(mdAt l v).elems.length by omega)
   have r1:=E1 k _ _ h1 u1
   have r2:=E2 k _ _ v1 h2
   have hc1:=hg _ (mdAt_mem hu) _ (List.mem_of_getElem? u1)
   have hc2:=hg _ (mdAt_mem hv) _ (List.mem_of_getElem? v1)
   have R1:=PW.2 k _ _ (show (eN (mdAt l u))[k]? =some _ by unfold eN;rw[List.getElem?_map,u1];rfl) (show (eN (mdAt l v))[k]? =some _ by unfold eN;rw[List.getElem?_map,v1];rfl)
   exact Rel.congr (by omega) (by omega) (by omega) (by omega) r1.symm r2 R1
theorem textT_iff {a b:Nat} (ha:a<l.length) (hb:b<l.length):textT l a=textT l b↔RR l a=RR l b:=
 ⟨textT_inj hc h60 ha hb,textT_congr hc (txT_of hc h60).2.1 ha hb⟩
end
end Go.Proofs.YtlniliigcnedmaaGreatDoor
namespace Go.Proofs.YtlniliigcnedmaaGreatDoor
open Go Ax
set_option maxRecDepth 100000
theorem toB_u8: ∀bs:List UInt8,toB (bs.map u8A)=some bs
 | []=>rfl
 |x::bs=>by
  have h:(0:Int)≤((x.toNat:Nat):Int)∧((x.toNat:Nat):Int)<256:=by have:=x.toNat_lt;omega
  simp only[List.map_cons,u8A,toB,if_pos h,toB_u8 bs,Option.map_some]
  simp
theorem k46 (b lo:Nat) (ad bf x y z:AVal) (bs:List UInt8) (m:AMem) (hb:m[b]? =some (.own [ad,bf,x,y,z] 71 none)) (hO:OwL u8A lo m 5 bf bs) (hne:bs≠ []) (hsz:bs.length≤1099511627776):
  ACalls Tryz.prog 46 [.ptr b 0] m fun v m'=>v= .str ⟨bs.toArray⟩∧Ch (fun c=>bf.blk=some c) m m':=by
 have hl:0<bs.length:=List.length_pos_iff.2 hne
 refine w46 ?_
 rcases hO with ⟨_,h,_⟩|⟨b',o,cap,gr,bl,gr',rfl,h0,h1,h2,_⟩
 ·omega
 simp
 refine W_draw (fun _ _ _=>True) (by simp[maxDst]) ?_
 refine D_pc 0 10 [10,11] ?_
 simp[bx (own_read hb),sdataE,hl]
 intro fs1 hf1
 refine D_X rfl rfl fun m2 hm2 _=>?_
 have h12:=own_mono h1 hm2
 have hcond:(0:Int)<bs.length∧(bs.length:Int)≤9223372036854775807:=by omega
 have h2':readN bl o bs.length=some (bs.map u8A):=by simpa using h2
 simp[lateOf,ustrE,hcond,h12,h2',toB_u8,hl]
 refine D_pc 11 1 [] ?_ (hfs:=fun _ _=>trivial)
 simp
 intro fs2 hf2
 refine D_end fun m3 hm3 _=>?_
 simp
 exact (((Ch.of_prefix hm2).trans (Ch.setS (S:=Eq b') _ rfl)).trans (.of_prefix hm3)).weaken fun c _ e=>by rw[←e];rfl
theorem txM_ne (l:List Md) (f:Nat) (s:List Nat) (m:Nat):(txM l (f+1) s m).1≠ []:=by
 unfold txM
 split
 ·unfold plainT kindT
  simp only[ne_eq,List.append_eq_nil_iff,not_and]
  intro _
  repeat' split
  all_goals simp
 ·split
  ·simp
  ·unfold bodyT
   repeat' split
   all_goals simp
noncomputable def textV (l:List Md) (x:Int):List UInt8:=if rightI l [x]≠0 then [] else textT l x.toNat
theorem rightN1 {l:List Md} {u:Int} (h:rightI l [u]=0):checkI l=0∧ ∃a:Nat,u=a∧a<l.length:=by
 unfold rightI at h
 split at h
 ·omega
 ·rename_i h1
  split at h
  ·omega
  ·rename_i h2
   simp[outB] at h2
   exact ⟨by omega,u.toNat,by omega,by omega⟩
theorem text_len {l:List Md} (hc:checkI l=0) (hl:l.length≤60) {x:Nat} (hx:x<l.length):(txM l (l.length+1) [] x).1.length≤600000:=by
 obtain ⟨h1,h2,_⟩:=txT_of hc hl
 have:=txM_grow h1 h2 (l.length+1) [] x Seen.nil hx
 have h3:=this.len
 have h4:=this.seen.len
 simp only[List.length_nil] at h3
 omega
set_option maxHeartbeats 4000000 in
theorem k15 (s:AVal) (l:List Md) (x:Int) (m:AMem) (hs:RTab m s l) (hsm: ∀y∈l,smallN y) (hT:checkI l=0→T13 l) (hl:l.length<2^20):
  ACalls Tryz.prog 15 [s,.int .i64 x] m fun v m'=>m<+:m'∧v= .tuple [.str ⟨(textV l x).toArray⟩,.int .i64 (rightI l [x])]:=by
 refine w15 ?_
 simp[fillA,setN]
 have hA:=OwL.new (f:=AVal.int .i64) m 3 [x]
 have hm1:m<+:m++ [.own [.int .i64 x] 3 none]:=List.prefix_append _ _
 simp at hA
 generalize AVal.slice m.length 0 1 1 none=t1 at*
 generalize m++ [.own [.int .i64 x] 3 none]=m1 at*
 refine C_of (k43 s t1 l [x] m1 (hs.mono hm1) hA.ints hsm (by omega) (by simp)) ?_
 rintro _ m2 ⟨rfl,hm2⟩
 have hm02:=hm1.trans hm2
 by_cases hri:rightI l [x]=0
 rotate_left
 ·simp[bneT hri,hri,textV]
  exact hm02
 obtain ⟨hc,a,rfl,ha⟩:=rightN1 hri
 have hT:=hT hc
 have h60:=hT.t60.len
 have ok:=okT_of hc
 obtain ⟨htx,hfl,hsh⟩:=txT_of hc h60
 simp[hri,textV]
 refine C_of (k44 s l m2 (hs.mono hm02) ok.good hT.t60 hsm ok.h64) ?_
 rintro v3 m3 ⟨hm3,ds,kd,hX,hD⟩
 have hm03:=hm02.trans hm3
 obtain ⟨hs1,hs2⟩:=hs.self
 obtain ⟨hv1,hv2⟩:=(Ow.sl hX).self
 simp[fillA,setN,hs1,hs2,hv1,hv2]
 have hmap:(m3++ [ABlk.mp [],ABlk.own [AVal.nilptr,AVal.nilslice,s,v3,AVal.map m3.length] 71 none])[m3.length]? =some (.mp []):=by simp
 have hblk:(m3++ [ABlk.mp [],ABlk.own [AVal.nilptr,AVal.nilslice,s,v3,AVal.map m3.length] 71 none])[m3.length+1]? =some (.own [AVal.nilptr,AVal.nilslice,s,v3,AVal.map m3.length] 71 none):=by simp
 have hm4:m3<+:m3++ [ABlk.mp [],ABlk.own [AVal.nilptr,AVal.nilslice,s,v3,AVal.map m3.length] 71 none]:=List.prefix_append _ _
 generalize m3++ [ABlk.mp [],ABlk.own [AVal.nilptr,AVal.nilslice,s,v3,AVal.map m3.length] 71 none]=m4 at*
 have hW:WS m3 (m3.length+1) m3.length s v3 ds m4 .nilslice [] []:=⟨⟨_,hblk,.inl rfl⟩,hmap,OwL.nil,hm4,by omega,by omega⟩
 have H:WT l m3 s v3 ds:=⟨htx,hfl,hsh,hT,hsm,hs.mono hm03,ints_of_nat hX,hD.len,hD.sameOrd⟩
 have htl:=text_len hc h60 ha
 refine C_of (mode_ok H (l.length+1) a m4 .nilslice [] [] hW Seen.nil ha (by simp) (by simp;omega)) ?_
 rintro _ m5 ⟨bf5,hW5,hC5⟩
 obtain ⟨ad5,hb5,had5⟩:=hW5.blk
 simp only[List.nil_append] at hW5
 simp
 refine C_of (k46 _ m3.length ad5 bf5 s v3 _ _ m5 hb5 hW5.buf (txM_ne l _ [] a) (by omega)) ?_
 rintro _ m6 ⟨rfl,hch6⟩
 simp
 refine ⟨hm03.trans (hch6.pre hW5.pre fun c hc e=>by have:=(hW5.buf.blk_lo e).1;omega),?_⟩
 rw[hri]
 exact ⟨rfl,rfl⟩
end Go.Proofs.YtlniliigcnedmaaGreatDoor
namespace Go.Proofs.YtlniliigcnedmaaGreatDoor
open Go Ax
set_option maxRecDepth 100000
structure WU (l:List Md) (m0:AMem) (b:Nat) (sT rk:AVal) (m:AMem) (sn:AVal) (s:List Nat):Prop where
 blk:m[b]? =some (.own [sT,rk,sn] 77 none)
 seen:OwL natI m0.length m 3 sn (s.map (RR l))
 pre:m0<+:m
 lo:m0.length≤b
section
variable {l:List Md} {m0:AMem} {b:Nat} {sT rk:AVal} {m m':AMem} {sn sn':AVal} {s:List Nat}
theorem WU.mono (h:WU l m0 b sT rk m sn s) (hm:m<+:m'):WU l m0 b sT rk m' sn s:=⟨own_mono h.blk hm,h.seen.mono hm,h.pre.trans hm,h.lo⟩
theorem WU.lt (h:WU l m0 b sT rk m sn s):b<m.length:=(List.getElem?_eq_some_iff.1 h.blk).1
end
end Go.Proofs.YtlniliigcnedmaaGreatDoor
namespace Go.Proofs.YtlniliigcnedmaaGreatDoor
open Go Ax
set_option maxRecDepth 100000
structure WTu (l:List Md) (m0:AMem) (sT rk:AVal):Prop where
 tx:TxT l
 full:Full l
 sh: ∀x∈l,0≤x.kind∧x.kind<14∧shaped x
 tab:RTab m0 sT l
 rks:RInts m0 rk ((Rl l (l.length+1)).map fun z:Nat=>(z:Int))
end Go.Proofs.YtlniliigcnedmaaGreatDoor
namespace Go.Proofs.YtlniliigcnedmaaGreatDoor
open Go Ax
set_option maxRecDepth 100000
def blkAX (n:Nat):List ABlk:=
 [.own [.int .i64 1,.int .i64 2] 3 none,.own [.str ⟨#[118]⟩,.str ⟨#[110,101,120,116]⟩] 9 none,.own [.int .i64 3] 3 none,.own [.int .i64 1,.int .i64 4] 3 none,.own [.str ⟨#[118]⟩,.str ⟨#[110,101,120,116]⟩] 9 none,.own [.int .i64 0] 3 none,
  .own [.int .i64 11,.int .i64 0,.slice n 0 2 2 none,.slice (n+1) 0 2 2 none,.int .i64 0,.bool false,.int .i64 3,.int .i64 0,.nilslice,.nilslice,.int .i64 0,.bool false,
   .int .i64 9,.int .i64 0,.slice (n+2) 0 1 1 none,.nilslice,.int .i64 0,.bool false,.int .i64 11,.int .i64 0,.slice (n+3) 0 2 2 none,.slice (n+4) 0 2 2 none,.int .i64 0,.bool false,
   .int .i64 9,.int .i64 0,.slice (n+5) 0 1 1 none,.nilslice,.int .i64 0,.bool false] 39 none]
theorem rdAX {m bs:List ABlk} {k:Nat} {cs:List AVal} {ty:TypeId} {g:Option Nat} (h:bs[k]? =some (.own cs ty g)):readB (m++bs) (m.length+k)=some cs:=by
 simp[readB,List.getElem?_append_right,h,ABlk.cells]
theorem tabA_okX (m:AMem):RTab (m++blkAX m.length) (.slice (m.length+6) 0 5 5 none) tabAX:=by
 have r:=fun k cs ty g h=> @rdAX m (blkAX m.length) k cs ty g h
 have i0:RInts (m++blkAX m.length) (.slice m.length 0 2 2 none) [1,2]:= .inr ⟨_,_,_,_,rfl,⟨by decide,.inl rfl⟩,.inr ⟨by decide,_,r 0 _ _ _ rfl,rfl⟩⟩
 have i1:RStrs (m++blkAX m.length) (.slice (m.length+1) 0 2 2 none) [nmVX,nmNX]:= .inr ⟨_,_,_,_,rfl,⟨by decide,.inl rfl⟩,.inr ⟨by decide,_,r 1 _ _ _ rfl,rfl⟩⟩
 have i2:RInts (m++blkAX m.length) (.slice (m.length+2) 0 1 1 none) [3]:= .inr ⟨_,_,_,_,rfl,⟨by decide,.inl rfl⟩,.inr ⟨by decide,_,r 2 _ _ _ rfl,rfl⟩⟩
 have i3:RInts (m++blkAX m.length) (.slice (m.length+3) 0 2 2 none) [1,4]:= .inr ⟨_,_,_,_,rfl,⟨by decide,.inl rfl⟩,.inr ⟨by decide,_,r 3 _ _ _ rfl,rfl⟩⟩
 have i4:RStrs (m++blkAX m.length) (.slice (m.length+4) 0 2 2 none) [nmVX,nmNX]:= .inr ⟨_,_,_,_,rfl,⟨by decide,.inl rfl⟩,.inr ⟨by decide,_,r 4 _ _ _ rfl,rfl⟩⟩
 have i5:RInts (m++blkAX m.length) (.slice (m.length+5) 0 1 1 none) [0]:= .inr ⟨_,_,_,_,rfl,⟨by decide,.inl rfl⟩,.inr ⟨by decide,_,r 5 _ _ _ rfl,rfl⟩⟩
 refine ⟨_,.inr ⟨_,_,_,_,rfl,⟨by decide,.inl rfl⟩,.inr ⟨by decide,_,r 6 _ _ _ rfl,rfl⟩⟩,fun i x hx=>?_⟩
 rcases tabA_atX hx with ⟨rfl,rfl⟩|⟨rfl,rfl⟩|⟨rfl,rfl⟩|⟨rfl,rfl⟩|⟨rfl,rfl⟩
 ·exact ⟨_,_,rfl,i0,i1⟩
 ·exact ⟨_,_,rfl,Sl.nil,Sl.nil⟩
 ·exact ⟨_,_,rfl,i2,Sl.nil⟩
 ·exact ⟨_,_,rfl,i3,i4⟩
 ·exact ⟨_,_,rfl,i5,Sl.nil⟩
theorem smallAX: ∀x∈tabAX,smallN x:=by
 intro x hx
 simp only[tabAX,List.mem_cons,List.mem_nil_iff,or_false] at hx
 rcases hx with rfl|rfl|rfl|rfl|rfl
 ·exact ⟨by decide,by decide,by decide⟩
 ·exact ⟨by decide,by decide,by decide⟩
 ·exact ⟨by decide,by decide,by decide⟩
 ·exact ⟨by decide,by decide,by decide⟩
 ·exact ⟨by decide,by decide,by decide⟩
set_option maxHeartbeats 4000000 in
theorem k13 (m:AMem):ACalls Tryz.prog 13 [] m fun v m'=>v= .bool true∧m<+:m':=by
 refine w13 ?_
 simp[fillA,setN]
 have hT:=tabA_okX m
 have hm1:m<+:m++blkAX m.length:=List.prefix_append _ _
 simp only[blkAX] at hT hm1
 generalize m++_=m1 at*
 generalize AVal.slice (m.length+6) 0 5 5 none=s at*
 have hri:rightI tabAX [2]=0:=by
  unfold rightI
  rw[if_neg (by rw[checkAX];simp),if_neg (by decide)]
 have hT13:T13 tabAX:=T13.of (by decide)
 refine C_of (k15 s tabAX 2 m1 hT smallAX (fun _=>hT13) (by decide)) ?_
 rintro _ m2 ⟨hm2,rfl⟩
 have htx:textV tabAX 2=textT tabAX 2:=by unfold textV;rw[if_neg (by simp[hri])];rfl
 rw[hri,htx,textAX]
 simp
 refine C_of (k17 s tabAX 0 3 m2 (hT.mono hm2) smallAX hT13 checkAX (by decide) (by decide)) ?_
 rintro _ m3 ⟨rfl,hm3⟩
 have hm13:=hm2.trans hm3
 simp[rr03]
 have hnm: ∀x∈tabAX,x.names.length<2^40:=by decide
 refine C_of (k28f s tabAX m3 (hT.mono hm13) smallAX hnm hT13 checkAX) ?_
 rintro v4 m4 ⟨hm4,ds,kd,hD,h⟩
 obtain ⟨hds,rfl⟩:=denseAX hD
 rcases h with ⟨t,n,rfl,hn,ht,_⟩|⟨_,k,hk,hb⟩
 rotate_left
 ·exact absurd hb (notBadAX hds hk)
 have htl:=ht.tab.len
 rw[redT_len] at htl
 have hni:=ints_of_nat hn
 subst hds
 have hse: ∀x:ByteArray,binStr .eql x x=some (.bool true):=fun x=>by simp[binStr]
 have hw0:IntKind.i64.wrap 0=0:=wrap64 (by omega) (by omega)
 simp[hse,htl,fillA,setN,hw0]
 have hA:RInts (m4++ [ABlk.own [AVal.int .i64 2,.int .i64 0,.int .i64 1,.int .i64 2,.int .i64 1] 3 none]) (.slice m4.length 0 5 5 none) [2,0,1,2,1]:=(OwL.new (f:=AVal.int .i64) m4 3 [2,0,1,2,1]).ints
 have hm5:m4<+:m4++ [ABlk.own [AVal.int .i64 2,.int .i64 0,.int .i64 1,.int .i64 2,.int .i64 1] 3 none]:=List.prefix_append _ _
 refine C_of (k27 n _ [2,0,1,2,1] _ (hni.mono hm5) hA (by decide)) ?_
 rintro _ m6 ⟨rfl,hm6⟩
 simp
 exact hm1.trans (hm13.trans (hm4.trans (hm5.trans hm6)))
end Go.Proofs.YtlniliigcnedmaaGreatDoor
namespace Go.Proofs.YtlniliigcnedmaaGreatDoor
open Go Ax
set_option maxRecDepth 100000
theorem Room.nm {l:List Md} (h:Room l): ∀x∈l,x.names.length<2^40:=fun x hx=>(h.h40 x hx).2
end Go.Proofs.YtlniliigcnedmaaGreatDoor
namespace Go.Proofs.YtlniliigcnedmaaGreatDoor
open Go Ax
open Relation
set_option maxRecDepth 100000
theorem TabS.atC {S:Nat→Prop} {m:AMem} {s:AVal} {l:List Md} (h:TabS S m s l) {i:Nat} (hi:i<l.length): ∃b o c,(∀k,iaddrE 6 s (.int k i)=some (.ptr b o))∧loadE m 6 true (.ptr b o)=some (.agg c)∧ ∀m',Ch S m m'→RMode m' c l[i]:=by
 obtain ⟨cs,h⟩:=h
 obtain ⟨h1,_⟩:=h m (.refl _ _)
 obtain ⟨b,o,g1,_,g3⟩:=h1.at hi
 exact ⟨b,o,_,g1,g3,fun m' hc=>(h m' hc).2 i _ (List.getElem?_eq_getElem hi)⟩
def DMap (l0 l:List Md) (es:List (Int×AVal)):Prop:= ∀k v,findE es k=some v→ ∃j n:Nat,k=j∧v= .int .i64 n∧j<l0.length∧DefL l [j] l [n]
theorem DMap.ext {l0 l l':List Md} {es:List (Int×AVal)} (h:DMap l0 l es) (e0:Ext l0 l) (hc:checkI l=0) (e:Ext l l') (hn:l'.length<512):DMap l0 l' es:=fun k v hk=>by
 obtain ⟨j,n,a,b,c,d⟩:=h k v hk
 have:=e0.len
 exact ⟨j,n,a,b,c,d.stable hc (by simp;omega) e hn⟩
end Go.Proofs.YtlniliigcnedmaaGreatDoor
namespace Go.Proofs.YtlniliigcnedmaaGreatDoor
open Go Ax
open Relation
set_option maxRecDepth 100000
theorem chunk_set {cs:List AVal} {v:AVal} {i j q:Nat} (hj:j<6):chunk (cs.set (i*6+j) v) q=if q=i then (chunk cs i).set j v else chunk cs q:=by
 unfold chunk
 rw[List.drop_set]
 split
 ·rename_i h
  rw[if_neg (by omega)]
 ·rename_i h
  rw[List.take_set]
  by_cases hq:q=i
  ·subst hq
   rw[if_pos rfl,show q*6+j-q*6=j by omega]
  ·rw[if_neg hq]
   apply List.set_eq_of_length_le
   simp
   omega
def OwC (lo:Nat) (m:AMem) (s:AVal) (l:List Md):Prop:= ∃cs,Ow lo m 6 39 s l.length cs∧ ∀(i:Nat) x,l[i]? =some x→ ∀m',Ch (fun b=>s.blk=some b) m m'→RMode m' (chunk cs i) x
theorem OwC.tab {lo:Nat} {m:AMem} {s:AVal} {l:List Md} (h:OwC lo m s l):RTab m s l:=by
 obtain ⟨cs,h1,h2⟩:=h
 exact ⟨cs,h1.sl,fun i x hx=>h2 i x hx m (.refl _ _)⟩
theorem OwC.at {lo:Nat} {m:AMem} {s:AVal} {l:List Md} (h:OwC lo m s l) {i:Nat} (hi:i<l.length): ∃b o e nm,s.blk=some b∧(∀k,iaddrE 6 s (.int k i)=some (.ptr b o))∧loadE m 1 false (.ptr b (o+2))=some e∧loadE m 1 false (.ptr b (o+3))=some nm∧RInts m e l[i].elems∧RStrs m nm l[i].names∧
  ∀(t tn:AVal) (m2:AMem),m<+:m2→OwL (AVal.int .i64) m.length m2 3 t l[i].elems→OwL AVal.str m.length m2 9 tn l[i].names→ ∃m3,storeE m2 1 (.ptr b (o+2)) t=some (.undef,m3)∧ ∀m4,m3<+:m4→ ∃m5,storeE m4 1 (.ptr b (o+3)) tn=some (.undef,m5)∧Ch (fun c=>s.blk=some c) m m5∧OwC lo m5 s l:=by
 obtain ⟨cs,h1,h2⟩:=h
 obtain ⟨b,o,hb,hp,_⟩:=h1.store hi
 obtain ⟨b',o',hp',hl',_⟩:=h1.sl.at hi
 have:=hp .i64
 rw[hp' .i64] at this
 simp only[Option.some.injEq,AVal.ptr.injEq] at this
 obtain ⟨rfl,rfl⟩:=this
 have hcl:=h1.sl.length
 have hM:=h2 i _ (List.getElem?_eq_getElem hi) m (.refl _ _)
 obtain ⟨e,nm,c0,c1,c2,c3,c4,c5,he,hnm,hcc⟩:=hM.get
 have hget: ∀j,j<6→(chunk cs i)[j]? =cs[i*6+j]? :=fun j hj=>by
  unfold chunk
  rw[List.getElem?_take,if_pos hj,List.getElem?_drop]
 have hbl:=(h1.blk_lo hb).2
 refine ⟨b',o',e,nm,hb,hp,by rw[hl' 2 (by omega),←hget 2 (by omega)];exact c2,by rw[hl' 3 (by omega),←hget 3 (by omega)];exact c3,he,hnm,fun t tn m2 hm2 ht htn=>?_⟩
 have ts:=(Ow.sl ht).self
 have tns:=(Ow.sl htn).self
 have hb2: ∀{m2:AMem} {cs2:List AVal},Ow lo m2 6 39 s l.length cs2→ ∀(j:Nat) (v:AVal),j<6→v.cells= [v]→v.one=true→ ∃m',storeE m2 1 (.ptr b' (o'+j)) v=some (.undef,m')∧Ch (fun c=>c=b') m2 m'∧Ow lo m' 6 39 s l.length (cs2.set (i*6+j) v):=fun {m2 cs2} h j v hj h3 h4=>by
  obtain ⟨b2,o2,hbb,hpp,hst⟩:=h.store hi
  have:=hp .i64
  rw[hpp .i64] at this
  simp only[Option.some.injEq,AVal.ptr.injEq] at this
  obtain ⟨rfl,rfl⟩:=this
  obtain ⟨m',g1,g2,g3⟩:=hst j v (by rw[h3];simp;omega) (by rw[h3];simp[h4])
  rw[h3] at g1 g3
  exact ⟨m',g1,g2,g3⟩
 obtain ⟨m3,g1,g2,g3⟩:=hb2 (h1.mono hm2) 2 t (by omega) ts.2 ts.1
 refine ⟨m3,g1,fun m4 hm4=>?_⟩
 obtain ⟨m5,g4,g5,g6⟩:=hb2 (g3.mono hm4) 3 tn (by omega) tns.2 tns.1
 have hch2:Ch (fun c=>s.blk=some c) m2 m5:=((g2.weaken fun c _ h=>by rw[h];exact hb).trans (.of_prefix hm4)).trans (g5.weaken fun c _ h=>by rw[h];exact hb)
 have hch:Ch (fun c=>s.blk=some c) m m5:=(Ch.of_prefix hm2).trans hch2
 refine ⟨m5,g4,hch,_,g6,fun q x hx m' hc=>?_⟩
 rw[chunk_set (by omega)]
 by_cases hq:q=i
 ·subst hq
  rw[if_pos rfl,chunk_set (by omega),if_pos rfl,hcc]
  rw[List.getElem?_eq_getElem hi] at hx
  simp only[Option.some.injEq] at hx
  subst hx
  have hc2:=hch2.trans hc
  refine ⟨t,tn,rfl,OwL.ints (ht.ch hc2 fun c h1 h2=>?_),Ow.sl (htn.ch hc2 fun c h1 h2=>?_)⟩
  ·have:=(ht.blk_lo h1).1
   rw[hb] at h2
   cases h2
   omega
  ·have:=(htn.blk_lo h1).1
   rw[hb] at h2
   cases h2
   omega
 ·rw[if_neg hq,chunk_set (by omega),if_neg hq]
  exact h2 q x hx m' (hch.trans hc)
theorem OwC.mono {lo:Nat} {m m':AMem} {s:AVal} {l:List Md} (h:OwC lo m s l) (hm:m<+:m'):OwC lo m' s l:=by
 obtain ⟨cs,h1,h2⟩:=h
 exact ⟨cs,h1.mono hm,fun i x hx m'' hc=>h2 i x hx m'' ((Ch.of_prefix hm).trans hc)⟩
end Go.Proofs.YtlniliigcnedmaaGreatDoor
namespace Go.Proofs.YtlniliigcnedmaaGreatDoor
open Go Ax
open Relation
set_option maxRecDepth 100000
theorem rightI_one {l:List Md} {a:Nat} (hc:checkI l=0) (ha:a<l.length):rightI l [(a:Int)]=0:=by
 unfold rightI
 rw[if_neg (by simp[hc]),if_neg]
 simp[outB]
 omega
def FirmAt (l0:List Md) (a b k:Nat) (lk:List Md) (mk:Nat):Prop:=firmI 100 l0 a b=(firmI (100-k) lk mk b).map fun p=>(p.1+k,p.2)
theorem FirmAt.none {l0 lk:List Md} {a b k mk:Nat} (h:FirmAt l0 a b k lk mk) (hk:k<100) (hm: ¬(RR lk mk=RR lk b∨uniB lk mk b=true)) (hd:downI lk mk=none):firmI 100 l0 a b=Option.none:=by
 unfold FirmAt at h
 obtain ⟨F,hF⟩: ∃F,100-k=F+1:=⟨99-k,by omega⟩
 rw[h,hF,firmI,if_neg hm,hd]
 rfl
theorem FirmAt.down {l0 lk l':List Md} {a b k mk n:Nat} (h:FirmAt l0 a b k lk mk) (hk:k<100) (hm: ¬(RR lk mk=RR lk b∨uniB lk mk b=true)) (hd:downI lk mk=some (l',n)):FirmAt l0 a b (k+1) l' n:=by
 unfold FirmAt at h ⊢
 obtain ⟨F,hF⟩: ∃F,100-k=F+1:=⟨99-k,by omega⟩
 rw[h,hF,firmI,if_neg hm,hd,show 100-(k+1)=F by omega]
 simp only[Option.map_map]
 congr 1
 funext p
 simp only[Function.comp]
 congr 1
 omega
end Go.Proofs.YtlniliigcnedmaaGreatDoor
namespace Go.Proofs.YtlniliigcnedmaaGreatDoor
open Go Ax
open Relation
set_option maxRecDepth 100000
def DArr (l:List Md) (ds:List Int):Prop:= ∀(j:Nat) v,ds[j]? =some v→v=0∨ ∃n:Nat,v=(n:Int)+1∧DefL l [j] l [n]
theorem DArr.ext {l0 l l':List Md} {ds:List Int} (h:DArr l ds) (hl:ds.length=l0.length) (e0:Ext l0 l) (hc:checkI l=0) (e:Ext l l') (hn:l'.length<512):DArr l' ds:=fun j v hj=>by
 have hjl:=(List.getElem?_eq_some_iff.1 hj).1
 have:=e0.len
 rcases h j v hj with h|⟨n,h1,h2⟩
 ·exact .inl h
 ·exact .inr ⟨n,h1,h2.stable hc (by simp;omega) e hn⟩
theorem DArr.set {l:List Md} {ds:List Int} {i n:Nat} (h:DArr l ds) (hd:DefL l [i] l [n]):DArr l (ds.set i ((n:Int)+1)):=fun j v hj=>by
 by_cases hji:i=j
 ·subst hji
  have hlt:i<ds.length:=by simpa using (List.getElem?_eq_some_iff.1 hj).1
  rw[List.getElem?_set_self hlt] at hj
  exact .inr ⟨n,(Option.some.inj hj).symm,hd⟩
 ·rw[List.getElem?_set_ne hji] at hj
  exact h j v hj
end Go.Proofs.YtlniliigcnedmaaGreatDoor
namespace Go.Proofs.YtlniliigcnedmaaGreatDoor
open Go Ax Go.ChangeShapes Go.WideShapes Go.ChangeAt Go.RowKit
set_option maxRecDepth 100000
theorem two_intsZ (m:AMem) (u v:Int):RInts (m++ [.own [.int .i64 u,.int .i64 v] 3 none]) (.slice m.length 0 2 2 none) [u,v]:=by
 have h:=OwL.new (f:=AVal.int .i64) m 3 [u,v]
 simpa using h.ints
end Go.Proofs.YtlniliigcnedmaaGreatDoor
namespace Go.Proofs.YtlniliigcnedmaaGreatDoor
open Go Ax Go.ChangeShapes Go.WideShapes Go.ChangeAt Go.RowKit
set_option maxRecDepth 100000
structure FitR (l:List Md):Prop where
 n:l.length≤10
 sm: ∀x∈l,smallN x
 room:checkI l=0→Room l
end Go.Proofs.YtlniliigcnedmaaGreatDoor
namespace Go.Proofs.YtlniliigcnedmaaGreatDoor
open Go Ax Go.ChangeShapes Go.WideShapes Go.ChangeAt Go.RowKit
set_option maxRecDepth 100000
theorem under31: Tryz.prog.underlying 31=some (.array 3 3):=by kernel_rfl
theorem cells31: Tryz.prog.cellsOf 31=3:=by kernel_rfl
theorem cells3: Tryz.prog.cellsOf 3=1:=by kernel_rfl
def LawTA (f:FuncId):Prop:= ∀(m:AMem) (s:AVal) (l:List Md) (u v w:Int),RTab m s l→(∀md∈l,MdB reachBytes md)→ACalls Tryz.prog f [s,.agg [.int .i64 u,.int .i64 v,.int .i64 w]] m fun r _=>r= .bool true
end Go.Proofs.YtlniliigcnedmaaGreatDoor
namespace Go.Proofs.YtlniliigcnedmaaGreatDoor
open Go Ax Go.ChangeShapes Go.WideShapes Go.ChangeAt Go.RowKit
set_option maxRecDepth 100000
def laidL:List (String×DataW Unit):= [("math/bits.deBruijn32tab",Rows.laid_math_bits_deBruijn32tab),("math/bits.deBruijn64tab",Rows.laid_math_bits_deBruijn64tab),("internal/strconv.uint64pow10",Rows.laid_internal_strconv_uint64pow10),("environ/alike.words",Rows.laid_environ_alike_words)]
theorem gWords: Tryz.prog.globalNamed "environ/alike.words" =some 0:=by kernel_rfl
noncomputable def tyWords:TypeId:=((Tryz.prog.globals[0]?).map (·.type)).getD 0
theorem gWordsT:(Tryz.prog.globals[0]?).map (·.type)=some tyWords:=by kernel_rfl
theorem underW: Tryz.prog.underlying tyWords=some (.array 9 9):=by kernel_rfl
theorem cells9: Tryz.prog.cellsOf 9=1:=by kernel_rfl
theorem string_of_trod {H:Type} {enc:TypeId×Value→H} {P:Program} {w:World} {base:Nat} {sp:Nat→Bool} {held:Bool} {fuel:Nat} {t:TypeId} {cs:List Value} {l:List UInt8} {q:List MemPlace}
  (ht:P.underlying t=some .string) (hc:cs.length≤1) (h:DataW.trod enc P w base sp held fuel t cs=some (.lit (.string l),q)):cs= [.string ⟨l.toArray⟩]:=by
 match cs,hc with
 | [],_=>cases fuel<;>simp[DataW.trod,ht] at h
 | [c],_=>
  cases fuel with
  |zero=>simp[DataW.trod] at h
  |succ fuel=>
   cases c<;>simp[DataW.trod,ht] at h
   obtain ⟨_,rfl,rfl⟩:=h
   simp
theorem glob_of {ρ:List RB} {m:AMem} {W:World} (hL:laidMetH Tryz.prog laidL W) (hro:RoMem m):Glob ρ m W:=by
 intro p hp
 simp only[globs,List.mem_singleton] at hp
 subst hp
 have hL':laidMet Tryz.prog laidL W:=hL
 obtain ⟨g,t,cs,fuel,q,h1,h2,h3,h4⟩:=Lib.laidMet.reads hL' (n:= "environ/alike.words") (d:=Rows.laid_environ_alike_words) (by simp[laidL])
 obtain rfl:=Option.some.inj (gWords.symm.trans h1)
 obtain rfl:=Option.some.inj (gWordsT.symm.trans h2)
 have key: ∀(i:Nat) (l:List UInt8),i<9→([.lit (.string [86,79,73,68]),.lit (.string [66,79,79,76]),.lit (.string [67,72,65,82]),.lit (.string [73,78,84]),.lit (.string [82,69,65,76]),.lit (.string [66,73,84,83]),.lit (.string [70,73,76,69]),.lit (.string [83,69,77,65]),.lit (.string [70,79,82,77,65,84])]:List (DataW Unit))[i]? =some (.lit (.string l))→W.cell? ⟨0,i,none⟩=some (.string ⟨l.toArray⟩):=by
  intro i l hi hl
  obtain ⟨f',d,q',g1,g2⟩:=Lib.array_elem (ds:= [.lit (.string [86,79,73,68]),.lit (.string [66,79,79,76]),.lit (.string [67,72,65,82]),.lit (.string [73,78,84]),.lit (.string [82,69,65,76]),.lit (.string [66,73,84,83]),.lit (.string [70,73,76,69]),.lit (.string [83,69,77,65]),.lit (.string [70,79,82,77,65,84])]) underW h4 i hi
  rw[hl] at g1
  simp only[Option.some.injEq] at g1
  subst g1
  rw[cells9,Nat.mul_one] at g2
  have hc:=string_of_trod under9 (by simp;omega) g2
  have hci:cs.toList[i]? =some (.string ⟨l.toArray⟩):=by
   have:=congrArg (·[0]?) hc
   simpa using this
  have:=World.var?_cell gWords h3 i
  rw[this]
  simpa using hci
 have hsz:0<W.heap.size:=by
  have:=key 0 _ (by omega) rfl
  unfold World.cell? at this
  rcases Nat.eq_zero_or_pos W.heap.size with h0|h0
  ·rw[Array.getElem?_eq_none (by simp only;omega)] at this
   cases this
  ·exact h0
 refine ⟨hsz,fun ho=>?_,fun i x hx=>?_⟩
 ·obtain ⟨b,blk,a,hb,hown,_⟩:=ho
  rw[hro b blk hb] at hown
  cases hown
 ·match i,hx with
  |0,hx=>cases hx;exact ⟨_,key 0 _ (by omega) rfl,by simp[VR]⟩
  |1,hx=>cases hx;exact ⟨_,key 1 _ (by omega) rfl,by simp[VR]⟩
  |2,hx=>cases hx;exact ⟨_,key 2 _ (by omega) rfl,by simp[VR]⟩
  |3,hx=>cases hx;exact ⟨_,key 3 _ (by omega) rfl,by simp[VR]⟩
  |4,hx=>cases hx;exact ⟨_,key 4 _ (by omega) rfl,by simp[VR]⟩
  |5,hx=>cases hx;exact ⟨_,key 5 _ (by omega) rfl,by simp[VR]⟩
  |6,hx=>cases hx;exact ⟨_,key 6 _ (by omega) rfl,by simp[VR]⟩
  |7,hx=>cases hx;exact ⟨_,key 7 _ (by omega) rfl,by simp[VR]⟩
  |8,hx=>cases hx;exact ⟨_,key 8 _ (by omega) rfl,by simp[VR]⟩
  |i+9,hx=>simp at hx
theorem liftedD3 {os:Os} {F:Stop.Interp} (started:os.Started) {H:Type} {enc:TypeId×Value→H} {f:FuncId} {fn:Func} {s:ChangeSpec} {conds:List PathCond}
  (noInit: Tryz.checked.prog.inits.idxOf? f=none) (hfn: Tryz.checked.prog.funcs[f]? =some fn) (hp:fn.params= #[22,3,3]) (hr:fn.resultTypes= #[4]) (hs:s.vars= [])
  (hsf: ∀d1 d2 d3:DataW H,s.fn H [d1,d2,d3]={results:= [.lit (.bool true)],args:= [d1,d2,d3]})
  (witness: ∃(w:World) (tape:Tape) (i:Input),w.os=os∧(w.forCall tape i).Shaped Tryz.checked.prog∧i.vars= []∧Input.okWide Tryz.checked.prog (w.forCall tape i) .any w.heap.size f i∧
   (OpenSpec.ofChange s).preRow enc Tryz.prog fn conds false laidL (w.forCall tape i).memory i.args∧({}:Assume).holds Tryz.checked.prog (lone (Frame.enter Tryz.checked.prog f i.args .normal) [] (w.forCall tape i)))
  (law:LawTII f):
  ReturnsInHanded {} Tryz.checked os f .any ((OpenSpec.ofChange s).preRow enc Tryz.prog fn conds false laidL) (((OpenSpec.ofChange s).at F).post enc Tryz.prog fn false true false false):=by
 refine returnsInHanded_of_row (C:= Tryz.checked) (s:=OpenSpec.ofChange s) own0 started noInit hfn witness ?_
 intro W base args ds gs before hval0 hW _ _ hsz0 hL _ _
 show Calls _ _ _ _ fun e W'=> ∃v,e= .returned v∧s.post enc Tryz.prog fn false true false false W args v W'
 replace hW:DataW.Whole enc Tryz.prog fn.params.toList s.vars false W args.toList ds gs before:=hW
 have hW':=hW
 rw[hp] at hval0 hsz0
 obtain ⟨p,q,hA,hV,rfl,_,_⟩:=hW
 rw[hp] at hA
 rw[hs] at hV
 obtain ⟨v0,v1,v2,d0,d1,d2,p0,p1,p2,rfl,rfl,rfl,h0,h1,h2⟩:=trodAll_three hA
 obtain ⟨rfl,rfl⟩:=trodVars_none hV
 obtain ⟨a1,rfl,rfl,rfl,w1⟩:=open_int under3 (hval0 1 3 v1 rfl rfl) h1
 obtain ⟨a2,rfl,rfl,rfl,w2⟩:=open_int under3 (hval0 2 3 v2 rfl rfl) h2
 have hv0:=hval0 0 22 v0 rfl rfl
 have h0k:=h0
 obtain ⟨fuel,hf⟩:=h0
 obtain ⟨a0,len,cap,rfl⟩:=okWide_slice under22 hv0
 obtain ⟨l,hent,hbd⟩:=enters_tab (enc:=enc) modeT (fuel:=fuel) (x:=(d0,p0)) (fun a len' cap' e=>by
  simp[Value.cells] at e
  obtain ⟨rfl,rfl,rfl⟩:=e
  exact heap_pos under22 hv0) hf
 obtain ⟨b1,b2⟩:=hbd reachBytes (by
  rw[List.all_eq_true] at hsz0 ⊢
  intro n hn
  exact hsz0 n (DataW.weights_mem_each (j:=0) (t:=22) (d:=d0) (by simp) (by simp) n hn))
 obtain ⟨ρ',m',xs,_,_,hro,hsim,hvr,sv,rfl,hT⟩:=hent [] [] (Sim.nil W) RoMem.nil
 simp only[VRs] at hvr
 obtain ⟨_,_,e,hvr,rfl⟩:=hvr
 simp[Value.cells] at e
 subst e
 have hlt: ∀x∈p0,x.block<W.heap.size:=fun x hx=>hW'.lt x (by simp[hx])
 refine ((law m' sv l a1 a2 hT b1 b2).2 ρ' W #[.slice a0 len cap,.int .i64 a1,.int .i64 a2] hsim (glob_of hL hro) (by simp only[VRs,VR];exact ⟨_,_,rfl,hvr,_,_,rfl,rfl,_,_,rfl,rfl,rfl⟩)).mono fun e W' h=>?_
 obtain ⟨v',v,m'',ρ'',rfl,rfl,hv,_,hev⟩:=h
 simp only[VR] at hv
 subst hv
 have hb:=below_of_evol hro hev
 refine ⟨_,rfl,[d0,_,_],[],_,[],p0++([]++([]++ [])),[],hW',?_,?_,?_,hb.frame _,fun h=>by cases h⟩
 ·rw[hr]
  show DataW.TrodAll enc _ W' _ _ _ [4] _ (s.fn H [d0,_,_]).results []
  rw[hsf]
  exact trodAll_mk1 (shut_bool under4 true)
 ·rw[hp]
  show DataW.TrodAll enc _ W' _ _ _ [22,3,3] _ (s.fn H [d0,_,_]).args _
  rw[hsf]
  exact trodAll_cons_mk (Below.trod laidOut (by kernel_rfl) (of_decide_eq_true (by kernel_rfl)) h0k hb hlt) (trodAll_cons_mk (shut_int under3 w1) (trodAll_cons_mk (shut_int under3 w2) trodAll_mk0))
 ·show DataW.TrodVars enc _ W' _ s.vars (s.fn H [d0,_,_]).vars _
  rw[hsf,hs]
  rfl
end Go.Proofs.YtlniliigcnedmaaGreatDoor
namespace Go.Proofs.YtlniliigcnedmaaGreatDoor
open Go Ax Go.ChangeShapes Go.WideShapes Go.ChangeAt Go.RowKit
set_option maxRecDepth 100000
def LawT1 (f:FuncId):Prop:= ∀(m:AMem) (s:AVal) (l:List Md),RTab m s l→(∀md∈l,MdB reachBytes md)→ACalls Tryz.prog f [s] m fun r _=>r= .bool true
theorem liftedD1 {os:Os} {F:Stop.Interp} (started:os.Started) {H:Type} {enc:TypeId×Value→H} {f:FuncId} {fn:Func} {s:ChangeSpec} {conds:List PathCond}
  (noInit: Tryz.checked.prog.inits.idxOf? f=none) (hfn: Tryz.checked.prog.funcs[f]? =some fn) (hp:fn.params= #[22]) (hr:fn.resultTypes= #[4]) (hs:s.vars= [])
  (hsf: ∀d1:DataW H,s.fn H [d1]={results:= [.lit (.bool true)],args:= [d1]})
  (witness: ∃(w:World) (tape:Tape) (i:Input),w.os=os∧(w.forCall tape i).Shaped Tryz.checked.prog∧i.vars= []∧Input.okWide Tryz.checked.prog (w.forCall tape i) .any w.heap.size f i∧
   (OpenSpec.ofChange s).preRow enc Tryz.prog fn conds false laidL (w.forCall tape i).memory i.args∧({}:Assume).holds Tryz.checked.prog (lone (Frame.enter Tryz.checked.prog f i.args .normal) [] (w.forCall tape i)))
  (law:LawT1 f):
  ReturnsInHanded {} Tryz.checked os f .any ((OpenSpec.ofChange s).preRow enc Tryz.prog fn conds false laidL) (((OpenSpec.ofChange s).at F).post enc Tryz.prog fn false true false false):=by
 refine returnsInHanded_of_row (C:= Tryz.checked) (s:=OpenSpec.ofChange s) own0 started noInit hfn witness ?_
 intro W base args ds gs before hval0 hW _ _ hsz0 hL _ _
 show Calls _ _ _ _ fun e W'=> ∃v,e= .returned v∧s.post enc Tryz.prog fn false true false false W args v W'
 replace hW:DataW.Whole enc Tryz.prog fn.params.toList s.vars false W args.toList ds gs before:=hW
 have hW':=hW
 rw[hp] at hval0 hsz0
 obtain ⟨p,q,hA,hV,rfl,_,_⟩:=hW
 rw[hp] at hA
 rw[hs] at hV
 obtain ⟨v0,vs0,d0,ds0,p0,q0,hargs,rfl,rfl,h0,r0⟩:=trodAll_cons hA
 obtain ⟨rfl,rfl,rfl⟩:=trodAll_nil r0
 obtain rfl:args= #[v0]:=by cases args;simp_all
 obtain ⟨rfl,rfl⟩:=trodVars_none hV
 have hv0:=hval0 0 22 v0 rfl rfl
 have h0k:=h0
 obtain ⟨fuel,hf⟩:=h0
 obtain ⟨a0,len,cap,rfl⟩:=okWide_slice under22 hv0
 obtain ⟨l,hent,hbd⟩:=enters_tab (enc:=enc) modeT (fuel:=fuel) (x:=(d0,p0)) (fun a len' cap' e=>by
  simp[Value.cells] at e
  obtain ⟨rfl,rfl,rfl⟩:=e
  exact heap_pos under22 hv0) hf
 obtain ⟨_,b2⟩:=hbd reachBytes (by
  rw[List.all_eq_true] at hsz0 ⊢
  intro n hn
  exact hsz0 n (DataW.weights_mem_each (j:=0) (t:=22) (d:=d0) (by simp) (by simp) n hn))
 obtain ⟨ρ',m',xs,_,_,hro,hsim,hvr,sv,rfl,hT⟩:=hent [] [] (Sim.nil W) RoMem.nil
 simp only[VRs] at hvr
 obtain ⟨_,_,e,hvr,rfl⟩:=hvr
 simp[Value.cells] at e
 subst e
 have hlt: ∀x∈p0,x.block<W.heap.size:=fun x hx=>hW'.lt x (by simp[hx])
 refine ((law m' sv l hT b2).2 ρ' W #[.slice a0 len cap] hsim (glob_of hL hro) (by simp only[VRs,VR];exact ⟨_,_,rfl,hvr,rfl⟩)).mono fun e W' h=>?_
 obtain ⟨v',v,m'',ρ'',rfl,rfl,hv,_,hev⟩:=h
 simp only[VR] at hv
 subst hv
 have hb:=below_of_evol hro hev
 refine ⟨_,rfl,[d0],[],_,[],p0++ [],[],hW',?_,?_,?_,hb.frame _,fun h=>by cases h⟩
 ·rw[hr]
  show DataW.TrodAll enc _ W' _ _ _ [4] _ (s.fn H [d0]).results []
  rw[hsf]
  exact trodAll_mk1 (shut_bool under4 true)
 ·rw[hp]
  show DataW.TrodAll enc _ W' _ _ _ [22] _ (s.fn H [d0]).args _
  rw[hsf]
  exact trodAll_cons_mk (Below.trod laidOut (by kernel_rfl) (of_decide_eq_true (by kernel_rfl)) h0k hb hlt) trodAll_mk0
 ·show DataW.TrodVars enc _ W' _ s.vars (s.fn H [d0]).vars _
  rw[hsf,hs]
  rfl
theorem liftedDA {os:Os} {F:Stop.Interp} (started:os.Started) {H:Type} {enc:TypeId×Value→H} {f:FuncId} {fn:Func} {s:ChangeSpec} {conds:List PathCond}
  (noInit: Tryz.checked.prog.inits.idxOf? f=none) (hfn: Tryz.checked.prog.funcs[f]? =some fn) (hp:fn.params= #[22,31]) (hr:fn.resultTypes= #[4]) (hs:s.vars= [])
  (hsf: ∀d1 d2:DataW H,s.fn H [d1,d2]={results:= [.lit (.bool true)],args:= [d1,d2]})
  (witness: ∃(w:World) (tape:Tape) (i:Input),w.os=os∧(w.forCall tape i).Shaped Tryz.checked.prog∧i.vars= []∧Input.okWide Tryz.checked.prog (w.forCall tape i) .any w.heap.size f i∧
   (OpenSpec.ofChange s).preRow enc Tryz.prog fn conds false laidL (w.forCall tape i).memory i.args∧({}:Assume).holds Tryz.checked.prog (lone (Frame.enter Tryz.checked.prog f i.args .normal) [] (w.forCall tape i)))
  (law:LawTA f):
  ReturnsInHanded {} Tryz.checked os f .any ((OpenSpec.ofChange s).preRow enc Tryz.prog fn conds false laidL) (((OpenSpec.ofChange s).at F).post enc Tryz.prog fn false true false false):=by
 refine returnsInHanded_of_row (C:= Tryz.checked) (s:=OpenSpec.ofChange s) own0 started noInit hfn witness ?_
 intro W base args ds gs before hval0 hW _ _ hsz0 hL _ _
 show Calls _ _ _ _ fun e W'=> ∃v,e= .returned v∧s.post enc Tryz.prog fn false true false false W args v W'
 replace hW:DataW.Whole enc Tryz.prog fn.params.toList s.vars false W args.toList ds gs before:=hW
 have hW':=hW
 rw[hp] at hval0 hsz0
 obtain ⟨p,q,hA,hV,rfl,_,_⟩:=hW
 rw[hp] at hA
 rw[hs] at hV
 obtain ⟨v0,v1,d0,d1,p0,p1,rfl,rfl,rfl,h0,h1⟩:=trodAll_two hA
 obtain ⟨rfl,rfl⟩:=trodVars_none hV
 have hv1:=hval0 1 31 v1 rfl rfl
 have h1k:=h1
 obtain ⟨fuel1,hf1⟩:=h1
 obtain ⟨cs,rfl,hcs⟩: ∃cs,v1= .agg cs∧cs.size=3:=by
  simp only[Value.okWide,under31] at hv1
  obtain ⟨cs,h1,h2,_⟩:=hv1
  exact ⟨cs,h1,by rw[←cells31];exact h2⟩
 obtain ⟨c0,c1,c2,rfl⟩: ∃c0 c1 c2,cs= #[c0,c1,c2]:=by
  match cs,hcs with
  |⟨[c0,c1,c2]⟩,_=>exact ⟨_,_,_,rfl⟩
 obtain ⟨y0,y1,y2,n,_,e0,e1,e2⟩:=trod_array3 under31 cells3 hf1
 obtain ⟨n0,q0,_,_⟩:=DataW.trod_int under3 e0
 obtain ⟨n1,q1,_,_⟩:=DataW.trod_int under3 e1
 obtain ⟨n2,q2,_,_⟩:=DataW.trod_int under3 e2
 simp only[List.cons.injEq,and_true] at q0 q1 q2
 subst q0 q1 q2
 have hlt1: ∀x∈p1,x.block<W.heap.size:=fun x hx=>hW'.lt x (by simp[hx])
 have hv0:=hval0 0 22 v0 rfl rfl
 have h0k:=h0
 obtain ⟨fuel,hf⟩:=h0
 obtain ⟨a0,len,cap,rfl⟩:=okWide_slice under22 hv0
 obtain ⟨l,hent,hbd⟩:=enters_tab (enc:=enc) modeT (fuel:=fuel) (x:=(d0,p0)) (fun a len' cap' e=>by
  simp[Value.cells] at e
  obtain ⟨rfl,rfl,rfl⟩:=e
  exact heap_pos under22 hv0) hf
 obtain ⟨_,b2⟩:=hbd reachBytes (by
  rw[List.all_eq_true] at hsz0 ⊢
  intro n hn
  exact hsz0 n (DataW.weights_mem_each (j:=0) (t:=22) (d:=d0) (by simp) (by simp) n hn))
 obtain ⟨ρ',m',xs,_,_,hro,hsim,hvr,sv,rfl,hT⟩:=hent [] [] (Sim.nil W) RoMem.nil
 simp only[VRs] at hvr
 obtain ⟨_,_,e,hvr,rfl⟩:=hvr
 simp[Value.cells] at e
 subst e
 have hlt: ∀x∈p0,x.block<W.heap.size:=fun x hx=>hW'.lt x (by simp[hx])
 refine ((law m' sv l n0 n1 n2 hT b2).2 ρ' W #[.slice a0 len cap,.agg #[.int .i64 n0,.int .i64 n1,.int .i64 n2]] hsim (glob_of hL hro) (by simp only[VRs,VR];exact ⟨_,_,rfl,hvr,_,_,rfl,⟨_,rfl,_,_,rfl,rfl,_,_,rfl,rfl,_,_,rfl,rfl,rfl⟩,rfl⟩)).mono fun e W' h=>?_
 obtain ⟨v',v,m'',ρ'',rfl,rfl,hv,_,hev⟩:=h
 simp only[VR] at hv
 subst hv
 have hb:=below_of_evol hro hev
 refine ⟨_,rfl,[d0,_],[],_,[],p0++(p1++ []),[],hW',?_,?_,?_,hb.frame _,fun h=>by cases h⟩
 ·rw[hr]
  show DataW.TrodAll enc _ W' _ _ _ [4] _ (s.fn H [d0,_]).results []
  rw[hsf]
  exact trodAll_mk1 (shut_bool under4 true)
 ·rw[hp]
  show DataW.TrodAll enc _ W' _ _ _ [22,31] _ (s.fn H [d0,_]).args _
  rw[hsf]
  exact trodAll_cons_mk (Below.trod laidOut (by kernel_rfl) (of_decide_eq_true (by kernel_rfl)) h0k hb hlt) (trodAll_cons_mk (Below.trod laidOut (by kernel_rfl) (of_decide_eq_true (by kernel_rfl)) h1k hb hlt1) trodAll_mk0)
 ·show DataW.TrodVars enc _ W' _ s.vars (s.fn H [d0,_]).vars _
  rw[hsf,hs]
  rfl
end Go.Proofs.YtlniliigcnedmaaGreatDoor
namespace Go.Proofs.YtlniliigcnedmaaGreatDoor
open Go Ax
set_option maxRecDepth 100000
theorem right3 {l:List Md} {u v w:Int} (h:rightI l [u,v,w]=0):checkI l=0∧ ∃a b c:Nat,u=a∧v=b∧w=c∧a<l.length∧b<l.length∧c<l.length:=by
 unfold rightI at h
 split at h
 ·omega
 ·rename_i h1
  split at h
  ·omega
  ·rename_i h2
   simp[outB] at h2
   exact ⟨by omega,u.toNat,v.toNat,w.toNat,by omega,by omega,by omega,by omega,by omega,by omega⟩
end Go.Proofs.YtlniliigcnedmaaGreatDoor
namespace Go.Proofs.YtlniliigcnedmaaGreatDoor
open Go Ax Go.ChangeShapes Go.WideShapes Go.ChangeAt Go.RowKit
set_option maxRecDepth 100000
theorem k53 (s:AVal) (l:List Md) (i:Int) (b:Nat) (m:AMem) (hs:RTab m s l) (hb:readB m b=some [s]):ACalls Tryz.prog 53 [.int .i64 i,.ptr b 0] m fun v m'=>v= .bool (outB l.length i)∧m'=m:=by
 refine w53 ?_
 by_cases h1:i<0
 ·simp[h1,outB]
 ·by_cases h2:(l.length:Int)≤i
  ·simp[h1,h2,bx hb,hs.len,outB]
  ·simp[h1,h2,bx hb,hs.len,outB]
   omega
theorem k21 (s t:AVal) (l:List Md) (ms:List Int) (m:AMem) (hs:RTab m s l) (ht:RInts m t ms) (hsz: ∀x∈l,smallN x) (hl:l.length<2^62) (hm:ms.length<2^62):ACalls Tryz.prog 21 [s,t] m fun v m'=>v= .bool (decide (rightI l ms=0))∧m<+:m':=by
 refine w21 ?_
 obtain ⟨hsl,hsc⟩:=hs.self
 simp[hsl,hsc]
 have hb0:=readB_new m [s] 22 none
 have hm1:m<+:m++ [.own [s] 22 none]:=List.prefix_append _ _
 generalize m++ [.own [s] 22 none]=m1 at*
 generalize m.length=b1 at*
 refine C_of (k52 s l m1 (hs.mono hm1) hsz hl) ?_
 rintro _ m2 ⟨rfl,hm2⟩
 by_cases h:checkI l=0
 ·simp[h]
  refine C_of (k36 t ms (outB l.length) m2 (ht.mono (hm1.trans hm2)) hm 53 [] [.ptr b1 0] ?_) ?_
  ·intro x _ m' hm'
   refine (k53 s l x b1 m' (hs.mono ((hm1.trans hm2).trans hm')) (readB_mono (hm2.trans hm') hb0)).mono ?_
   rintro _ _ ⟨rfl,rfl⟩
   exact ⟨rfl,List.prefix_refl _⟩
  rintro _ m3 ⟨rfl,hm3⟩
  simp[(hm1.trans hm2).trans hm3]
  unfold rightI
  rw[if_neg (by simp[h])]
  cases ms.any (outB l.length)<;>simp
 ·have hr:rightI l ms≠0:=by unfold rightI;rw[if_pos h];exact h
  simp[beqF h,hr,hm1.trans hm2]
noncomputable def ordI (l:List Md) (a b:Nat):Int:=if RR l a=RR l b then 0 else if RR l a<RR l b then-1 else 1
set_option maxHeartbeats 2000000 in
theorem k22 (s:AVal) (l:List Md) (a b:Nat) (m:AMem) (hs:RTab m s l) (hsz: ∀x∈l,smallN x) (hn:T13 l) (hc:checkI l=0) (ha:a<l.length) (hb:b<l.length):
  ACalls Tryz.prog 22 [s,.int .i64 a,.int .i64 b] m fun v m'=>v= .int .i64 (ordI l a b)∧m<+:m':=by
 refine w22 ?_
 simp
 refine C_of (k17 s l a b m hs hsz hn hc ha hb) ?_
 rintro _ m1 ⟨rfl,hm1⟩
 simp
 refine C_of (k19 s l a b m1 (hs.mono hm1) hsz hn hc ha hb) ?_
 rintro _ m2 ⟨rfl,hm2⟩
 have hm02:=hm1.trans hm2
 simp
 refine C_of (k19 s l b a m2 (hs.mono hm02) hsz hn hc hb ha) ?_
 rintro _ m3 ⟨rfl,hm3⟩
 have hm03:=hm02.trans hm3
 have h0:IntKind.i64.wrap 0=0:=by decide
 unfold ordI
 rcases Nat.lt_trichotomy (RR l a) (RR l b) with h|h|h
 ·have h1: ¬RR l a=RR l b:=by omega
  have h2: ¬RR l b<RR l a:=by omega
  simp[h,h1,h2,h0,hm03]
 ·have h1: ¬RR l a<RR l b:=by omega
  have h2: ¬RR l b<RR l a:=by omega
  simp[h,h0,hm03]
 ·have h1: ¬RR l a=RR l b:=by omega
  have h2: ¬RR l a<RR l b:=by omega
  simp[h,h1,h2,h0,hm03]
set_option maxHeartbeats 8000000 in
theorem k5:LawTA 5:=by
 intro m s l u v w hs hb
 refine w5 ?_
 simp
 have hb4:=readB_new m [AVal.int IntKind.i64 u,AVal.int IntKind.i64 v,AVal.int IntKind.i64 w] 31 none
 have hm0:m<+:m++ [ABlk.own [AVal.int IntKind.i64 u,AVal.int IntKind.i64 v,AVal.int IntKind.i64 w] 31 none]:=List.prefix_append _ _
 generalize m++ [ABlk.own [AVal.int IntKind.i64 u,AVal.int IntKind.i64 v,AVal.int IntKind.i64 w] 31 none]=m0 at*
 generalize m.length=b4 at*
 refine C_of (k13 m0) ?_
 rintro _ m1 ⟨rfl,hm1⟩
 have hb41:=readB_mono hm1 hb4
 simp
 refine W_drawPR (by simp[maxDst]) rfl rfl ?_
 simp[POp.ev,bnd,bx hb41]
 intro m2 hm2
 have hm02:=hm0.trans (hm1.trans hm2)
 refine C_of (k14 s l 12 m2 (hs.mono hm02) (by omega)) ?_
 rintro _ m3 ⟨rfl,hm3⟩
 have hm03:=hm02.trans hm3
 cases hsm:(decide ((l.length:Int)≤12)&&l.all fun x=>decide (x.elems.length≤6)&&decide (x.names.length≤6))
 ·simp
 have hf:=fits_of hb hsm
 have hsz:=hf.sm
 have hn13:=hf.n
 simp[fillA,setN]
 have hA:=(OwL.new (f:=AVal.int .i64) m3 3 [u,v,w]).ints
 have hm4:m3<+:m3++ [.own [.int .i64 u,.int .i64 v,.int .i64 w] 3 none]:=List.prefix_append _ _
 simp at hA
 generalize AVal.slice m3.length 0 3 3 none=t4 at*
 generalize m3++ [.own [.int .i64 u,.int .i64 v,.int .i64 w] 3 none]=m4 at*
 have hm04:=hm03.trans hm4
 refine C_of (k21 s t4 l [u,v,w] m4 (hs.mono hm04) hA hsz (by omega) (by simp)) ?_
 rintro _ m5 ⟨rfl,hm5⟩
 have hm05:=hm04.trans hm5
 by_cases hri:rightI l [u,v,w]=0
 rotate_left
 ·simp[hri]
 obtain ⟨hc,a,b,c,rfl,rfl,rfl,ha,hb',hcl⟩:=right3 hri
 have hT:=T13.of hn13
 have h60:l.length≤60:=by omega
 simp[hri]
 refine C_of (k22 s l a b m5 (hs.mono hm05) hsz hT hc ha hb') ?_
 rintro _ m6 ⟨rfl,hm6⟩
 have hm06:=hm05.trans hm6
 simp
 refine C_of (k22 s l b c m6 (hs.mono hm06) hsz hT hc hb' hcl) ?_
 rintro _ m7 ⟨rfl,hm7⟩
 have hm07:=hm06.trans hm7
 simp
 refine C_of (k22 s l a c m7 (hs.mono hm07) hsz hT hc ha hcl) ?_
 rintro _ m8 ⟨rfl,hm8⟩
 have hm08:=hm07.trans hm8
 have f1:ordI l a a=0:=by simp[ordI]
 have f2:ordI l b a=IntKind.i64.wrap (0-ordI l a b):=by
  rw[wrap64 (by unfold ordI;repeat' split<;>omega) (by unfold ordI;repeat' split<;>omega)]
  unfold ordI
  repeat' split<;>omega
 have f3:(ordI l a b=0↔RR l a=RR l b):=by unfold ordI;repeat' split<;>simp_all
 have f4:ordI l a b≤0→ordI l b c≤0→ordI l a c≤0∧(ordI l a b+ordI l b c<0→ordI l a c= -1):=by
  unfold ordI
  repeat' split<;>omega
 have f5:(-1≤ordI l a b∧ordI l a b≤1)∧(-1≤ordI l b c∧ordI l b c≤1)∧(-1≤ordI l a c∧ordI l a c≤1):=by
  unfold ordI
  refine ⟨?_,?_,?_⟩<;>(repeat' split<;>omega)
 have qa1: ∀m',m<+:m'→ACalls Tryz.prog 22 [s,.int .i64 a,.int .i64 a] m' fun v m''=>v= .int .i64 0∧m'<+:m'':=fun m' h=>by
  have:=k22 s l a a m' (hs.mono h) hsz hT hc ha ha
  rwa[f1] at this
 have qa2: ∀m',m<+:m'→ACalls Tryz.prog 22 [s,.int .i64 b,.int .i64 a] m' fun v m''=>v= .int .i64 (IntKind.i64.wrap (0-ordI l a b))∧m'<+:m'':=fun m' h=>by
  have:=k22 s l b a m' (hs.mono h) hsz hT hc hb' ha
  rwa[f2] at this
 have f6:=textT_iff hc h60 ha hb'
 generalize ordI l a b=X at*
 generalize ordI l b c=Y at*
 generalize ordI l a c=Z at*
 have x2: ¬X=2:=by omega
 have y2: ¬Y=2:=by omega
 have z2: ¬Z=2:=by omega
 simp[beqF x2,beqF y2,beqF z2]
 refine C_of (qa1 m8 hm08) ?_
 rintro _ m9 ⟨rfl,hm9⟩
 have hm09:=hm08.trans hm9
 simp
 refine C_of (qa2 m9 hm09) ?_
 rintro _ m10 ⟨rfl,hm10⟩
 have hm010:=hm09.trans hm10
 have t1: ∀m',m<+:m'→ACalls Tryz.prog 15 [s,.int .i64 a] m' fun v m''=>m'<+:m''∧v= .tuple [.str ⟨(textT l a).toArray⟩,.int .i64 0]:=fun m' h=>by
  have:=k15 s l a m' (hs.mono h) hsz (fun _=>hT) (by omega)
  rwa[show rightI l [(a:Int)]=0 from rightI_one hc ha,show textV l a=textT l a by unfold textV;rw[rightI_one hc ha];rfl] at this
 have t2: ∀m',m<+:m'→ACalls Tryz.prog 15 [s,.int .i64 b] m' fun v m''=>m'<+:m''∧v= .tuple [.str ⟨(textT l b).toArray⟩,.int .i64 0]:=fun m' h=>by
  have:=k15 s l b m' (hs.mono h) hsz (fun _=>hT) (by omega)
  rwa[show rightI l [(b:Int)]=0 from rightI_one hc hb',show textV l b=textT l b by unfold textV;rw[rightI_one hc hb'];rfl] at this
 have hEq:binStr .eql ⟨(textT l a).toArray⟩ ⟨(textT l b).toArray⟩=some (.bool (decide (X=0))):=by
  simp only[binStr,ba_toList]
  congr 2
  rw[Bool.eq_iff_iff,beq_iff_eq,decide_eq_true_iff,f3,←f6]
 generalize textT l a=ta at*
 generalize textT l b=tb at*
 have hXYZ:X=1∨(X= -1∧Y=1)∨(X=0∧Y=1)∨(X= -1∧Y=0∧Z= -1)∨(X= -1∧Y= -1∧Z= -1)∨(X=0∧Y= -1∧Z= -1)∨(X=0∧Y=0∧Z=0)∨(X=0∧Y=0∧Z= -1):=by omega
 have w1:IntKind.i64.wrap (-1)= -1:=by decide
 have w2:IntKind.i64.wrap (-2)= -2:=by decide
 have w3:IntKind.i64.wrap 0=0:=by decide
 clear f2 f3 f4 f5 f6 x2 y2 z2 qa1 qa2
 rcases hXYZ with rfl|⟨rfl,rfl⟩|⟨rfl,rfl⟩|⟨rfl,rfl,rfl⟩|⟨rfl,rfl,rfl⟩|⟨rfl,rfl,rfl⟩|⟨rfl,rfl,rfl⟩|⟨rfl,rfl,rfl⟩
 all_goals
  simp[w1,w2,w3]
  refine C_of (t1 m10 hm010) ?_
  rintro _ m11 ⟨hm11,rfl⟩
  simp
  refine C_of (t2 m11 (hm010.trans hm11)) ?_
  rintro _ m12 ⟨hm12,rfl⟩
  simp[hEq]
end Go.Proofs.YtlniliigcnedmaaGreatDoor
namespace Go.Proofs.YtlniliigcnedmaaGreatDoor
open Go Ax Go.ChangeShapes Go.WideShapes Go.ChangeAt Go.RowKit
set_option maxRecDepth 100000
def litsOf:DataW Unit→Array Value
 | .agg ds=>(ds.map fun| .lit l=>l.value|_=> .bool false).toArray
 |_=> #[]
noncomputable def setCells (a:Array Value):Obj→Obj
 | .cells _ t frozen=> .cells a t frozen
 |o=>o
noncomputable def laidWorld (os:Os):World:=
 {World.holding Tryz.prog os ⟨#[],#[],[]⟩ with heap:=((((World.holding Tryz.prog os ⟨#[],#[],[]⟩).heap.modify 0 (setCells (litsOf Rows.laid_environ_alike_words))).modify 2 (setCells (litsOf Rows.laid_internal_strconv_uint64pow10))).modify 3 (setCells (litsOf Rows.laid_math_bits_deBruijn32tab))).modify 4 (setCells (litsOf Rows.laid_math_bits_deBruijn64tab))}
theorem g2: Tryz.prog.globalNamed "internal/strconv.uint64pow10" =some 2:=by kernel_rfl
theorem g3: Tryz.prog.globalNamed "math/bits.deBruijn32tab" =some 3:=by kernel_rfl
theorem g4: Tryz.prog.globalNamed "math/bits.deBruijn64tab" =some 4:=by kernel_rfl
end Go.Proofs.YtlniliigcnedmaaGreatDoor
namespace Go.Proofs.YtlniliigcnedmaaGreatDoor
open Go Ax Go.ChangeShapes Go.WideShapes Go.ChangeAt Go.RowKit
set_option maxRecDepth 100000
end Go.Proofs.YtlniliigcnedmaaGreatDoor
namespace Go.Proofs.YtlniliigcnedmaaGreatDoor
open Go Ax
set_option maxRecDepth 100000
def OwS (lo:Nat) (m:AMem) (s:AVal) (l:List Md):Prop:= ∃cs,Ow lo m 6 39 s l.length cs∧ ∀(i:Nat) x,l[i]? =some x→ ∀m',Ch (fun b=>s.blk=some b) m m'→RMode m' (chunk cs i) x
theorem OwS.tab {lo:Nat} {m:AMem} {s:AVal} {l:List Md} (h:OwS lo m s l):RTab m s l:=by
 obtain ⟨cs,h1,h2⟩:=h
 exact ⟨cs,h1.sl,fun i x hx=>h2 i x hx m (.refl _ _)⟩
theorem OwS.mono {lo:Nat} {m m':AMem} {s:AVal} {l:List Md} (h:OwS lo m s l) (hm:m<+:m'):OwS lo m' s l:=by
 obtain ⟨cs,h1,h2⟩:=h
 exact ⟨cs,h1.mono hm,fun i x hx m'' hc=>h2 i x hx m'' ((Ch.of_prefix hm).trans hc)⟩
theorem OwS.blk_lo {lo:Nat} {m:AMem} {s:AVal} {l:List Md} (h:OwS lo m s l) {b:Nat} (hb:s.blk=some b):lo≤b∧b<m.length:=by
 obtain ⟨cs,h1,_⟩:=h
 exact h1.blk_lo hb
theorem OwS.push {lo:Nat} {m:AMem} {s:AVal} {l:List Md} (h:OwS lo m s l) (hlo:lo≤m.length) {c:List AVal} {x:Md} (hx: ∀m',Ch (fun b=>s.blk=some b) m m'→RMode m' c x) (hn:l.length<2^30):
  ∃s' m',appendE m 6 80 39 s 1 c=some (s',m')∧Ch (fun b=>s.blk=some b) m m'∧OwS lo m' s' (l++ [x])∧(∀b,s'.blk=some b→s.blk=some b∨m.length≤b):=by
 obtain ⟨cs,h1,h2⟩:=h
 have hcl:=(hx m (.refl _ _)).all
 have hl:=h1.sl.length
 obtain ⟨s',m',e,hch,h3,h4⟩:=h1.append hlo (k:=1) (xs:=c) (bytes:=80) (by omega) hcl.2 (by decide) (by omega)
 refine ⟨s',m',e,hch,⟨cs++c,by simpa using h3,fun i y hy m2 hc2=>?_⟩,h4⟩
 have hcc:Ch (fun b=>s.blk=some b) m m2:=by
  have a1:Ch (fun b=>s.blk=some b∨m.length≤b) m m':=hch.weaken fun b _ hb=> .inl hb
  have a2:Ch (fun b=>s.blk=some b∨m.length≤b) m' m2:=hc2.weaken fun b _ hb=>h4 b hb
  exact (a1.trans a2).weaken fun b hb h=>by rcases h with h|h;exact h;omega
 rcases push_get hy with ⟨hi,hy⟩|⟨rfl,rfl⟩
 ·rw[chunk_append hl hi];exact h2 i y hy m2 hcc
 ·rw[chunk_last hl hcl.1];exact hx m2 hcc
def shiftM (n:Nat) (x:Md):Md:={x with elems:=x.elems.map (· +(n:Int))}
def bothT (l k:List Md):List Md:=l++k.map (shiftM l.length)
set_option maxHeartbeats 8000000 in
theorem k31 (s t:AVal) (l k:List Md) (a b:Nat) (m:AMem) (hs:RTab m s l) (ht:RTab m t k) (hsl: ∀x∈l,smallN x) (hsk: ∀x∈k,smallN x) (hk40: ∀x∈k,x.elems.length<2^40∧x.names.length<2^40)
  (hcl:checkI l=0) (hck:checkI k=0) (ha:a<l.length) (hb:b<k.length) (hln:l.length≤19) (hkn:k.length≤19) (hT:T60 (bothT l k)) (hg:goodT (bothT l k)):
  ACalls Tryz.prog 31 [s,.int .i64 a,t,.int .i64 b] m fun v m'=>m<+:m'∧v= .tuple [.bool (decide (RR (bothT l k) a=RR (bothT l k) (l.length+b))),.int .i64 0]:=by
 have okl:=okT_of hcl
 have okk:=okT_of hck
 refine w31 ?_
 simp
 refine C_of (k52 s l m hs hsl (by omega)) ?_
 rintro _ m1 ⟨rfl,hm1⟩
 simp[hcl]
 refine C_of (k52 t k m1 (ht.mono hm1) hsk (by omega)) ?_
 rintro _ m2 ⟨rfl,hm2⟩
 simp[hck]
 have hm02:=hm1.trans hm2
 refine C_of (k64 s l a m2 (hs.mono hm02)) ?_
 rintro _ m2 ⟨rfl,rfl⟩
 have ha':(a:Int)<l.length:=by omega
 have hb':(b:Int)<k.length:=by omega
 simp[ha']
 refine C_of (k64 t k b m2 (ht.mono hm02)) ?_
 rintro _ m2 ⟨rfl,rfl⟩
 have hwlk:IntKind.i64.wrap ((l.length:Int)+k.length)=((l.length+k.length:Nat):Int):=by rw[wrap64 (by omega) (by omega)];omega
 obtain ⟨LK,hLK⟩: ∃LK:Nat,LK=l.length+k.length:=⟨_,rfl⟩
 rw[←hLK] at hwlk
 have h512: ¬(512:Int)<LK:=by omega
 have hsL: ∀m',m<+:m'→lenE s=some (.int .i64 l.length):=fun m' h=>(hs.mono h).len
 have hsL0:=hs.len
 have htL0:=ht.len
 simp[hb',hsL0,htL0,hwlk,h512]
 refine C_of (k23 s l m m2 hm02 hs (by omega)) ?_
 rintro v3 m3 ⟨hm3,hB⟩
 have hm03:=hm02.trans hm3
 simp[htL0]
 have hO0:OwS m2.length m3 v3 l:=by
  obtain ⟨cs,h1,h2⟩:=hB
  refine ⟨cs,h1,fun i x hx m' hc=>(h2 i x hx).mono (hc.pre hm03 fun b hb e=>?_)⟩
  have:=(h1.blk_lo e).1
  have:=hm02.length_le
  omega
 obtain ⟨J,hJ⟩: ∃J:AFrame→AMem→Prop,∀f m',J f m'↔(∃o,f.forget [0,1,3,12]=mat 92 [(0,s),(1,.int .i64 a),(3,.int .i64 b),(12,o)]∧m2<+:m'∧OwS m2.length m' o (bothT l k)):=⟨_,fun _ _=>Iff.rfl⟩
 refine W_JB J ?_ ?_
 ·obtain ⟨I,hI⟩: ∃I:Nat→AFrame→AMem→Prop,∀q f m',I q f m'↔(∃(i:Nat) (o:AVal),i+q=k.length∧f=h31_0 s (.int .i64 a) (.int .i64 b) o t (.int .i64 k.length) (.int .i64 i)∧m2<+:m'∧OwS m2.length m' o (l++(k.take i).map (shiftM l.length))):=⟨_,fun _ _ _=>Iff.rfl⟩
  refine W_loop I k.length ((hI _ _ _).2 ⟨0,v3,by simp,by simp,hm3,by simpa using hO0⟩) ?_
  clear hO0 hB
  rintro q f m4 hIn
  obtain ⟨i,o,hq,rfl,hm4,hO⟩:=(hI _ _ _).1 hIn
  clear hIn
  have hm04:=hm02.trans hm4
  simp
  refine bbind_dec (fun hil=>?_) fun hil=>?_
  rotate_left
  ·have:i=k.length:=by omega
   subst this
   rw[List.take_length] at hO
   simp
   exact (hJ _ _).2 ⟨o,by simp,hm4,hO⟩
  have hil:i<k.length:=by omega
  have hw:=step64 (k:=i) (n:=k.length) hil (by omega)
  obtain ⟨bx',ox,c,g4,g5,_,_,g6⟩:=ht.atC hil
  replace g5:=loadE_mono hm04 g5
  have hx40:=hk40 _ (List.getElem_mem hil)
  have hxg:=okk.good _ (List.getElem_mem hil)
  have hget:k[i]? =some k[i]:=List.getElem?_eq_getElem hil
  have htk:k.take (i+1)=k.take i++ [k[i]]:=by rw[List.take_add_one,hget];rfl
  generalize k[i]=x at*
  have hcl6:=g6.all
  simp[g4,g5]
  have hb0:(m4++ [ABlk.own [.int .i64 0,.int .i64 0,.nilslice,.nilslice,.int .i64 0,.bool false] 39 none])[m4.length]? =some (ABlk.own [.int .i64 0,.int .i64 0,.nilslice,.nilslice,.int .i64 0,.bool false] 39 none):=by simp
  have hm45:m4<+:m4++ [ABlk.own [.int .i64 0,.int .i64 0,.nilslice,.nilslice,.int .i64 0,.bool false] 39 none]:=List.prefix_append _ _
  obtain ⟨m6,hst6,hb6,hch6⟩:=agg_store (n:=6) hb0 hcl6.1 rfl hcl6.2
  simp[hst6]
  have hm46:m4<+:m6:=hch6.pre hm45 fun b hb e=>by omega
  obtain ⟨e,nm,rfl,he,hnm⟩:=g6
  have he1:=Sl.self he
  have hn1:=Sl.self hnm
  have hr6:=bx (own_read hb6) 2
  simp at hr6
  simp[hr6]
  refine C_of (k24 e x.elems m6 (he.mono (hm04.trans hm46)) (by omega)) ?_
  rintro e2 m7 ⟨hm7,hE⟩
  have hb7:=own_mono hb6 hm7
  have he2:=(Ow.sl hE).self
  obtain ⟨m8,hst8,hb8,hch8⟩:=fld_store (i:=2) (v:=e2) hb7 (by simp) he2.2 he2.1
  simp at hb8
  simp[hst8]
  have hE8:OwL (AVal.int .i64) m6.length m8 3 e2 x.elems:=hE.ch hch8 fun b hb e=>by have:=(hE.blk_lo hb).1;have:=hch6.len;simp at this;omega
  have hm48:m4<+:m8:=hch8.pre (hm46.trans hm7) fun b hb e=>by omega
  have hr8:=bx (own_read hb8) 2
  simp at hr8
  simp[hr8,hE8.len]
  have h46:m4.length<m6.length:=by have:=hch6.len;simp at this;omega
  obtain ⟨J1,hJ1⟩: ∃J:AFrame→AMem→Prop,∀f m',J f m'↔(f.forget [0,1,3,12,14,47,48,49]=mat 92 [(0,s),(1,.int .i64 a),(3,.int .i64 b),(12,o),(14,.ptr m4.length 0),(47,t),(48,.int .i64 k.length),(49,.int .i64 i)]∧m4<+:m'∧m'[m4.length]? =some (.own [.int .i64 x.kind,.int .i64 x.size,e2,nm,.int .i64 x.dims,.bool x.flex] 39 none)∧OwL (AVal.int .i64) m6.length m' 3 e2 (x.elems.map (· +(l.length:Int)))):=⟨_,fun _ _=>Iff.rfl⟩
  refine W_JB J1 ?_ ?_
  ·obtain ⟨I1,hI1⟩: ∃I:Nat→AFrame→AMem→Prop,∀q f m',I q f m'↔(∃(j:Nat),j+q=x.elems.length∧f=h31_1 s (.int .i64 a) (.int .i64 b) o (.ptr m4.length 0) t (.int .i64 k.length) (.int .i64 i) (.int .i64 x.elems.length) (.int .i64 j)∧m4<+:m'∧m'[m4.length]? =some (.own [.int .i64 x.kind,.int .i64 x.size,e2,nm,.int .i64 x.dims,.bool x.flex] 39 none)∧OwL (AVal.int .i64) m6.length m' 3 e2 ((x.elems.take j).map (· +(l.length:Int))++x.elems.drop j)):=⟨_,fun _ _ _=>Iff.rfl⟩
   refine W_loop I1 x.elems.length ((hI1 _ _ _).2 ⟨0,by simp,by simp,hm48,hb8,by simpa using hE8⟩) ?_
   clear hE8 hm48 hb8 hE hch8 hr8 hst8
   rintro q1 f m9 hIn
   obtain ⟨j,hq1,rfl,hm9,hb9,hE9⟩:=(hI1 _ _ _).1 hIn
   clear hIn
   simp
   refine bbind_dec (fun hjl=>?_) fun hjl=>?_
   rotate_left
   ·have:j=x.elems.length:=by omega
    subst this
    simp at hE9
    simp
    exact (hJ1 _ _).2 ⟨by simp,hm9,hb9,by simpa using hE9⟩
   have hjl:j<x.elems.length:=by omega
   have hwj:=step64 (k:=j) (n:=x.elems.length) hjl (by omega)
   have hel:=hxg _ (List.getElem_mem hjl)
   have hlen9:j<((x.elems.take j).map (· +(l.length:Int))++x.elems.drop j).length:=by simp;omega
   have hge:((x.elems.take j).map (· +(l.length:Int))++x.elems.drop j)[j]=x.elems[j]:=by
    rw[List.getElem_append_right (by simp;omega)]
    simp[List.length_take,Nat.min_eq_left (Nat.le_of_lt hjl)]
   obtain ⟨bj,oj,hbj,hpj,hlj,hstj⟩:=hE9.at hlen9
   rw[hge] at hlj
   have hwv:IntKind.i64.wrap (x.elems[j]+(l.length:Int))=x.elems[j]+(l.length:Int):=wrap64 (by omega) (by omega)
   obtain ⟨m10,hst10,hch10,hE10⟩:=hstj (x.elems[j]+(l.length:Int))
   have hr9:=bx (own_read hb9) 2
   simp at hr9
   have hbj6:=(hE9.blk_lo hbj).1
   simp[hr9,hpj,hlj,hsL0,hwv,hst10,hwj]
   refine ⟨q1-1,by omega,(hI1 _ _ _).2 ⟨j+1,by omega,by simp,hch10.pre hm9 fun b hb e=>by omega,own_ch hb9 hch10 (by omega),?_⟩⟩
   have hset:((x.elems.take j).map (· +(l.length:Int))++x.elems.drop j).set j (x.elems[j]+(l.length:Int))=(x.elems.take (j+1)).map (· +(l.length:Int))++x.elems.drop (j+1):=by
    rw[List.set_append_right _ _ (by simp;omega),List.take_add_one,List.getElem?_eq_getElem hjl,List.map_append]
    simp[List.length_take,Nat.min_eq_left (Nat.le_of_lt hjl)]
    rw[List.drop_eq_getElem_cons hjl]
    rfl
   rw[hset] at hE10
   exact hE10
  intro f m9 hJ2
  obtain ⟨hf,hm9,hb9,hE9⟩:=(hJ1 _ _).1 hJ2
  clear hJ2 hJ1
  have hO9:=hO.mono hm9
  have hb9r:=bxW (own_read hb9) 6
  simp[readN] at hb9r
  have hfill:fillA [.int .i64 0,.int .i64 0,.nilslice,.nilslice,.int .i64 0,.bool false] [(0,6,.agg [.int .i64 x.kind,.int .i64 x.size,e2,nm,.int .i64 x.dims,.bool x.flex])]=some [.int .i64 x.kind,.int .i64 x.size,e2,nm,.int .i64 x.dims,.bool x.flex]:=by
   simp[fillA,setN,he2.1,hn1.1]
  simp[hf,hb9r,hfill]
  have hsc:=lit6 m9 [.int .i64 x.kind,.int .i64 x.size,e2,nm,.int .i64 x.dims,.bool x.flex] rfl none
  have hm910:m9<+:m9++ [ABlk.own [.int .i64 x.kind,.int .i64 x.size,e2,nm,.int .i64 x.dims,.bool x.flex] 39 none]:=List.prefix_append _ _
  have hob: ∀b,o.blk=some b→m2.length≤b∧b<m4.length:=fun b hb=>hO.blk_lo hb
  generalize m9++ [ABlk.own [.int .i64 x.kind,.int .i64 x.size,e2,nm,.int .i64 x.dims,.bool x.flex] 39 none]=m10 at*
  obtain ⟨o',m11,happ,hch11,hO11,_⟩:=(hO9.mono hm910).push (c:= [.int .i64 x.kind,.int .i64 x.size,e2,nm,.int .i64 x.dims,.bool x.flex]) (x:=shiftM l.length x) (by have:=(hm4.trans (hm9.trans hm910)).length_le;omega) (fun m' hc=>by
   refine ⟨e2,nm,rfl,?_,?_⟩
   ·exact ((hE9.mono hm910).ch hc fun b hb e=>by have:=(hE9.blk_lo hb).1;have:=hob b e;omega).ints
   ·exact hnm.mono (hc.pre (hm04.trans (hm9.trans hm910)) fun b hb e=>by have:=hob b e;have:=hm02.length_le;omega)) (by simp;omega)
  simp[hsc,happ,hw]
  refine ⟨q-1,by omega,(hI _ _ _).2 ⟨i+1,o',by omega,by simp,hch11.pre (hm4.trans (hm9.trans hm910)) fun b hb e=>by have:=hob b e;omega,?_⟩⟩
  rw[htk,List.map_append,←List.append_assoc]
  exact hO11
 intro f m4 hJ2
 obtain ⟨o,hf,hm4,hO⟩:=(hJ _ _).1 hJ2
 clear hJ2 hJ
 simp[hf]
 have hbl:(bothT l k).length=l.length+k.length:=by simp[bothT]
 refine C_of (k44 o (bothT l k) m4 hO.tab hg hT (fun x hx=>?_) (fun x hx=>?_)) ?_
 ·rcases List.mem_append.1 hx with h|h
  ·exact hsl x h
  ·obtain ⟨y,hy,rfl⟩:=List.mem_map.1 h
   have:=hsk y hy
   exact ⟨by simpa[shiftM] using this.1,this.2.1,this.2.2⟩
 ·rcases List.mem_append.1 hx with h|h
  ·exact okl.h64 x h
  ·obtain ⟨y,hy,rfl⟩:=List.mem_map.1 h
   have:=okk.h64 y hy
   simpa[shiftM] using this
 rintro v5 m5 ⟨hm5,ds,kd,hX,hD⟩
 have hwb:IntKind.i64.wrap ((l.length:Int)+b)=((l.length+b:Nat):Int):=by rw[wrap64 (by omega) (by omega)];omega
 obtain ⟨lb,hlb⟩: ∃lb:Nat,lb=l.length+b:=⟨_,rfl⟩
 rw[←hlb] at hwb ⊢
 obtain ⟨ba,oa,_,hpa,hla,_⟩:=hX.at (i:=a) (by rw[hD.len];omega)
 obtain ⟨bb,ob,_,hpb,hlb',_⟩:=hX.at (i:=lb) (by rw[hD.len];omega)
 have hsame:=(dense_same hD).eq (a:=a) (b:=lb) (by omega) (by omega)
 simp only[List.getD_eq_getElem?_getD,List.getElem?_eq_getElem (show a<ds.length by rw[hD.len];omega),List.getElem?_eq_getElem (show lb<ds.length by rw[hD.len];omega),Option.getD_some] at hsame
 simp[natI] at hla hlb'
 simp
 refine W_drawPR (by simp[maxDst]) rfl rfl ?_
 simp[hpa,hla,hsL0,hwb,hpb,hlb']
 intro m'' hm''
 refine ⟨hm02.trans (hm4.trans (hm5.trans hm'')),?_⟩
 rw[Bool.eq_iff_iff,decide_eq_true_iff,←hsame]
 simp
 omega
end Go.Proofs.YtlniliigcnedmaaGreatDoor
namespace Go.Proofs.YtlniliigcnedmaaGreatDoor
open Go Ax
open Relation
set_option maxRecDepth 100000
structure PutT (l:List Md) (zs:List Nat) (k:List Md) (q:Nat):Prop where
 ck:checkI k=0
 len:k.length≤l.length+1
 ge:l.length≤k.length
 ql:q<k.length
 rr: ∀a b,a<l.length→b<l.length→(RR k a=RR k b↔RR l a=RR l b)
 md: ∀a,a<l.length→mdAt k a=mdAt l a
 parts: ∀a j,a<l.length→(IsPart k a j↔IsPart l a j)
 dn: ∀z∈zs,∃j,IsBase k q j∧RR k j=RR k z
section
variable {k:List Md}
end
end Go.Proofs.YtlniliigcnedmaaGreatDoor
namespace Go.Proofs.YtlniliigcnedmaaGreatDoor
open Go Ax
open Relation
structure Sub (l:List Md) (f:Nat→Nat) (k:List Md):Prop where
 lt: ∀a,a<k.length→f a<l.length
 md: ∀a x,k[a]? =some x→l[f a]? =some {x with elems:=x.elems.map fun e=>((f e.toNat:Nat):Int)}
section
variable {l k:List Md} {f:Nat→Nat}
theorem step_lt {l:List Md} (hg:goodT l) {p:Md→Bool} {x y:Nat} (h:stepR l p x y):x<l.length∧y<l.length:=by
 obtain ⟨z,g1,_,g3⟩:=h
 have:=hg z (List.mem_of_getElem? g1) _ g3
 exact ⟨(List.getElem?_eq_some_iff.1 g1).1,by omega⟩
theorem Sub.at (h:Sub l f k) {a:Nat} (ha:a<k.length):mdAt l (f a)={mdAt k a with elems:=(mdAt k a).elems.map fun e=>((f e.toNat:Nat):Int)}:=by
 have:=h.md a k[a] (List.getElem?_eq_getElem ha)
 rw[mdAt_eq ha]
 unfold mdAt
 rw[this]
 rfl
theorem Sub.step (h:Sub l f k) (hg:goodT k) {a b:Nat} (ha:a<k.length):stepR l isU (f a) b↔ ∃c:Nat,b=f c∧stepR k isU a c:=by
 have hx:k[a]? =some k[a]:=List.getElem?_eq_getElem ha
 have hy:=h.md a _ hx
 constructor
 ·rintro ⟨x,h1,h2,h3⟩
  rw[hy] at h1
  simp only[Option.some.injEq] at h1
  subst h1
  obtain ⟨d,hd,he⟩:=List.mem_map.1 h3
  have:=hg k[a] (List.getElem_mem ha) d hd
  exact ⟨d.toNat,by omega,k[a],hx,h2,by rw[show ((d.toNat:Nat):Int)=d by omega];exact hd⟩
 ·rintro ⟨c,rfl,y,h1,h2,h3⟩
  rw[hx] at h1
  simp only[Option.some.injEq] at h1
  subst h1
  exact ⟨_,hy,h2,List.mem_map.2 ⟨c,h3,by simp⟩⟩
theorem Sub.part (h:Sub l f k) (hg:goodT k) {a j:Nat} (ha:a<k.length):IsPart l (f a) j↔ ∃c:Nat,j=f c∧IsPart k a c:=by
 have h1: ∀{b},TransGen (stepR l isU) (f a) b→ ∃c:Nat,b=f c∧c<k.length∧TransGen (stepR k isU) a c:=fun hh=>by
  induction hh with
  |single h'=>obtain ⟨c,g1,g2⟩:=(h.step hg ha).1 h';exact ⟨c,g1,(step_lt hg g2).2,.single g2⟩
  |tail _ h' ih=>
   obtain ⟨c,rfl,g0,g2⟩:=ih
   obtain ⟨d,g3,g4⟩:=(h.step hg g0).1 h'
   exact ⟨d,g3,(step_lt hg g4).2,.tail g2 g4⟩
 have h2: ∀{c},TransGen (stepR k isU) a c→TransGen (stepR l isU) (f a) (f c)∧c<k.length:=fun hh=>by
  induction hh with
  |single h'=>exact ⟨.single ((h.step hg ha).2 ⟨_,rfl,h'⟩),(step_lt hg h').2⟩
  |tail _ h' ih=>exact ⟨.tail ih.1 ((h.step hg ih.2).2 ⟨_,rfl,h'⟩),(step_lt hg h').2⟩
 constructor
 ·rintro ⟨g1,g2⟩
  obtain ⟨c,rfl,hc,g3⟩:=h1 g1
  exact ⟨c,rfl,g3,fun y hy=>by have:=g2 _ (h.md c y hy);exact this⟩
 ·rintro ⟨c,rfl,g1,g2⟩
  obtain ⟨g3,hc⟩:=h2 g1
  refine ⟨g3,fun y hy=>?_⟩
  have:=h.md c k[c] (List.getElem?_eq_getElem hc)
  rw[hy] at this
  simp only[Option.some.injEq] at this
  subst this
  exact g2 k[c] (List.getElem?_eq_getElem hc)
theorem bothL:(bothT l k).length=l.length+k.length:=by simp[bothT]
theorem bothHi {a:Nat}:(bothT l k)[l.length+a]? =(k[a]?).map (shiftM l.length):=by
 unfold bothT
 rw[List.getElem?_append_right (by omega),Nat.add_sub_cancel_left,List.getElem?_map]
theorem bothGood (hgl:goodT l) (hg:goodT k):goodT (bothT l k):=fun x hx e he=>by
 rw[bothL]
 rcases List.mem_append.1 hx with h|h
 ·have:=hgl x h e he;omega
 ·obtain ⟨y,hy,rfl⟩:=List.mem_map.1 h
  obtain ⟨d,hd,rfl⟩:=List.mem_map.1 he
  have:=hg y hy d hd
  omega
theorem mapE_id {n:Nat} {x:Md} (h: ∀e∈x.elems,0≤e∧e<n):{x with elems:=x.elems.map fun e=>((e.toNat:Nat):Int)}=x:=by
 have:x.elems.map (fun e=>((e.toNat:Nat):Int))=x.elems:=by
  conv=>rhs;rw[←List.map_id x.elems]
  exact List.map_congr_left fun e he=>by have:=h e he;show ((e.toNat:Nat):Int)=e;omega
 rw[this]
theorem Sub.app (hgl:goodT l) (r:List Md):Sub (l++r) (fun a=>a) l:=⟨fun a ha=>by simp;omega,fun a x hx=>by
 have ha:=(List.getElem?_eq_some_iff.1 hx).1
 rw[List.getElem?_append_left ha,hx,mapE_id (n:=l.length) (hgl x (List.mem_of_getElem? hx))]⟩
theorem Sub.lo (hgl:goodT l):Sub (bothT l k) (fun a=>a) l:=Sub.app hgl _
theorem Sub.hi (hg:goodT k):Sub (bothT l k) (fun a=>l.length+a) k:=⟨fun a ha=>by rw[bothL];omega,fun a x hx=>by
 rw[bothHi,hx]
 simp only[Option.map_some,shiftM,Option.some.injEq]
 congr 1
 exact List.map_congr_left fun e he=>by have:=hg x (List.mem_of_getElem? hx) e he;omega⟩
theorem bothT60 (hl:T13 l) (hk:T13 k) (hgl:goodT l) (hg:goodT k):T60 (bothT l k):=by
 have hll:=hl.len
 have hkl:=hk.len
 refine ⟨by rw[bothL];omega,fun _ x O h1 h2=>?_⟩
 rcases Nat.lt_or_ge x l.length with hx|hx
 ·exact hl.few hgl x O h1 fun j hj=>by
   obtain ⟨c,rfl,hc⟩:=((Sub.lo hgl).part hgl hx).1 (h2 j hj)
   exact hc
 ·obtain ⟨a,rfl⟩: ∃a,x=l.length+a:=⟨x-l.length,by omega⟩
  rcases Nat.lt_or_ge a k.length with ha|ha
  ·have h3: ∀j∈O,l.length≤j∧IsPart k a (j-l.length):=fun j hj=>by
    obtain ⟨c,rfl,hc⟩:=((Sub.hi hg).part hg ha).1 (h2 j hj)
    exact ⟨by omega,by rw[Nat.add_sub_cancel_left];exact hc⟩
   have h4:=hk.few hg a (O.map (· -l.length)) (by
    rw[List.nodup_iff_pairwise_ne,List.pairwise_map]
    refine List.Pairwise.imp_of_mem (fun {x y} hx hy hne e=>hne ?_) (List.nodup_iff_pairwise_ne.1 h1)
    have:=(h3 x hx).1
    have:=(h3 y hy).1
    omega) fun j hj=>by
     obtain ⟨y,hy,rfl⟩:=List.mem_map.1 hj
     exact (h3 y hy).2
   simpa using h4
  ·cases O with
   |nil=>simp
   |cons o O=>
    have:=part_in (h2 o (List.mem_cons_self ..))
    rw[bothL] at this
    omega
end
end Go.Proofs.YtlniliigcnedmaaGreatDoor
namespace Go.Proofs.YtlniliigcnedmaaGreatDoor
open Go Ax
open Relation
def withE (x:Md) (f:Nat→Nat):Md:={x with elems:=x.elems.map fun e=>((f e.toNat:Nat):Int)}
section
variable {l k:List Md} {f:Nat→Nat}
theorem Sub.mdE (h:Sub l f k) {a:Nat} {x:Md} (hx:k[a]? =some x):l[f a]? =some (withE x f):=h.md a x hx
theorem Sub.stepP (h:Sub l f k) (hg:goodT k) {p:Md→Bool} (hp: ∀x,p (withE x f)=p x) {a b:Nat} (ha:a<k.length):stepR l p (f a) b↔ ∃c:Nat,b=f c∧stepR k p a c:=by
 have hx:k[a]? =some k[a]:=List.getElem?_eq_getElem ha
 have hy:=h.mdE hx
 constructor
 ·rintro ⟨x,h1,h2,h3⟩
  rw[hy] at h1
  simp only[Option.some.injEq] at h1
  subst h1
  obtain ⟨d,hd,he⟩:=List.mem_map.1 h3
  have:=hg k[a] (List.getElem_mem ha) d hd
  exact ⟨d.toNat,by omega,k[a],hx,by rw[←hp];exact h2,by rw[show ((d.toNat:Nat):Int)=d by omega];exact hd⟩
 ·rintro ⟨c,rfl,y,h1,h2,h3⟩
  rw[hx] at h1
  simp only[Option.some.injEq] at h1
  subst h1
  exact ⟨_,hy,by rw[hp];exact h2,List.mem_map.2 ⟨c,h3,by simp⟩⟩
theorem Sub.tg (h:Sub l f k) (hg:goodT k) {p:Md→Bool} (hp: ∀x,p (withE x f)=p x) {a b:Nat} (ha:a<k.length) (ht:TransGen (stepR l p) (f a) b): ∃c:Nat,b=f c∧c<k.length∧TransGen (stepR k p) a c:=by
 induction ht with
 |single h'=>obtain ⟨c,g1,g2⟩:=(h.stepP hg hp ha).1 h';exact ⟨c,g1,(step_lt hg g2).2,.single g2⟩
 |tail _ h' ih=>
  obtain ⟨c,rfl,g0,g2⟩:=ih
  obtain ⟨d,g3,g4⟩:=(h.stepP hg hp g0).1 h'
  exact ⟨d,g3,(step_lt hg g4).2,.tail g2 g4⟩
theorem Sub.flexP (h:Sub l f k) (hg:goodT k) {b:Nat} (hf:FlexP l b): ∀{a},a<k.length→b=f a→FlexP k a:=by
 induction hf with
 |flex h1 h2 h3=>
  intro a ha e
  subst e
  have hx:k[a]? =some k[a]:=List.getElem?_eq_getElem ha
  rw[h.mdE hx] at h1
  simp only[Option.some.injEq] at h1
  subst h1
  exact .flex hx h2 h3
 |step h1 _ ih=>
  intro a ha e
  subst e
  obtain ⟨c,g1,g2⟩:=(h.stepP hg (p:=rowStruct) (fun _=>rfl) ha).1 h1
  exact .step g2 (ih (step_lt hg g2).2 g1)
theorem Sub.one (h:Sub l f k) {x:Md} (hx:oneI x k.length=0):oneI (withE x f) l.length=0:=by
 obtain ⟨h1,h2,h3,h4⟩:=oneI_zero hx
 have hs:shapeI (withE x f)=shapeI x:=by
  unfold shapeI shaped dimsOk sizeOk least most nNames withE
  simp only[List.length_map]
  rfl
 unfold oneI
 rw[hs,if_neg (by simpa using h1),if_neg,if_neg,if_neg]
 ·show ¬twiceB x.names=true
  rw[h4];simp
 ·show ¬(x.names.any fun s=> !wordB 97 122 s)=true
  rw[Bool.not_eq_true,List.any_eq_false]
  intro s hs
  simp[h3 s hs]
 ·rw[Bool.not_eq_true,List.any_eq_false]
  intro e he
  obtain ⟨d,hd,rfl⟩:=List.mem_map.1 he
  have:=h2 d hd
  have:=h.lt d.toNat (by omega)
  simp[outB]
  omega
theorem Sub.void (h:Sub l f k) {x:Md} (hxg: ∀e∈x.elems,0≤e∧e<(k.length:Int)) (hv: ¬voidsB k x=true): ¬voidsB l (withE x f)=true:=by
 have hve: ∀e∈x.elems,voidE l ((f e.toNat:Nat):Int)=voidE k e:=fun e he=>by
  have:=hxg e he
  have hx:k[e.toNat]? =some (k[e.toNat]'(by omega)):=List.getElem?_eq_getElem (by omega)
  unfold voidE
  rw[Int.toNat_natCast,h.mdE hx,hx]
  rfl
 intro hv2
 apply hv
 unfold voidsB at hv2 ⊢
 have e1:(withE x f).kind=x.kind:=rfl
 have e2:(withE x f).elems=x.elems.map fun e=>((f e.toNat:Nat):Int):=rfl
 rw[e1,e2] at hv2
 split at hv2
 ·cases hv2
 ·rename_i h12
  rw[if_neg h12]
  split at hv2
  ·rename_i h13
   rw[if_pos h13]
   rw[List.any_eq_true] at hv2 ⊢
   obtain ⟨e,he,hh⟩:=hv2
   rw[←List.map_dropLast] at he
   obtain ⟨d,hd,rfl⟩:=List.mem_map.1 he
   exact ⟨d,hd,by rw[←hve d (List.dropLast_subset _ hd)];exact hh⟩
  ·rename_i h13
   rw[if_neg h13]
   rw[List.any_eq_true] at hv2 ⊢
   obtain ⟨e,he,hh⟩:=hv2
   obtain ⟨d,hd,rfl⟩:=List.mem_map.1 he
   exact ⟨d,hd,by rw[←hve d hd];exact hh⟩
end
theorem check_cover {l:List Md} (hn:l.length≤512) (h: ∀i,i<l.length→ ∃(k:List Md) (f:Nat→Nat) (a:Nat),Sub l f k∧checkI k=0∧(∀a b,a<k.length→b<k.length→f a=f b→a=b)∧a<k.length∧i=f a):checkI l=0:=by
 have hy1: ∀(f:Nat→Nat) (x:Md),(!yinB (withE x f))= !yinB x:=fun _ _=>rfl
 have hy2: ∀(f:Nat→Nat) (x:Md),(!yangB (withE x f))= !yangB x:=fun f x=>by simp[yangB,withE]
 refine checkOk_iff.2 ⟨hn,fun y hy=>?_,?_,fun r hr hb=>?_,fun y hy hf' e he hp=>?_⟩
 ·obtain ⟨i,hi,rfl⟩:=List.mem_iff_getElem.1 hy
  obtain ⟨k,f,a,hS,hc,_,ha,rfl⟩:=h i hi
  have:=hS.mdE (List.getElem?_eq_getElem ha)
  rw[List.getElem?_eq_getElem hi] at this
  simp only[Option.some.injEq] at this
  rw[this]
  exact hS.one ((checkOk_iff.1 hc).one _ (List.getElem_mem ha))
 ·rw[List.any_eq_false]
  intro y hy
  obtain ⟨i,hi,rfl⟩:=List.mem_iff_getElem.1 hy
  obtain ⟨k,f,a,hS,hc,_,ha,rfl⟩:=h i hi
  have:=hS.mdE (List.getElem?_eq_getElem ha)
  rw[List.getElem?_eq_getElem hi] at this
  simp only[Option.some.injEq] at this
  rw[this]
  exact hS.void ((okT_of hc).good _ (List.getElem_mem ha)) (by have:=List.any_eq_false.1 (checkOk_iff.1 hc).void _ (List.getElem_mem ha);simpa using this)
 ·obtain ⟨k,f,a,hS,hc,hin,ha,rfl⟩:=h r hr
  have hg:=(okT_of hc).good
  rcases hb with hb|hb
  ·obtain ⟨c,h1,h2,h3⟩:=hS.tg hg (hy1 f) ha hb
   have:=hin _ _ ha h2 h1
   subst this
   exact (checkOk_iff.1 hc).bad a ha (.inl h3)
  ·obtain ⟨c,h1,h2,h3⟩:=hS.tg hg (hy2 f) ha hb
   have:=hin _ _ ha h2 h1
   subst this
   exact (checkOk_iff.1 hc).bad a ha (.inr h3)
 ·obtain ⟨i,hi,rfl⟩:=List.mem_iff_getElem.1 hy
  obtain ⟨k,f,a,hS,hc,_,ha,rfl⟩:=h i hi
  have hg:=(okT_of hc).good
  have:=hS.mdE (List.getElem?_eq_getElem ha)
  rw[List.getElem?_eq_getElem hi] at this
  simp only[Option.some.injEq] at this
  rw[this] at he hf'
  obtain ⟨d,hd,rfl⟩:=List.mem_map.1 he
  have hd2:=hg _ (List.getElem_mem ha) d hd
  refine (checkOk_iff.1 hc).flex _ (List.getElem_mem ha) hf' d hd ?_
  exact hS.flexP hg hp (by omega) (by simp)
theorem check_both {l k:List Md} (hl:checkI l=0) (hk:checkI k=0) (hn:l.length+k.length≤512):checkI (bothT l k)=0:=by
 refine check_cover (by rw[bothL];exact hn) fun i hi=>?_
 rw[bothL] at hi
 rcases Nat.lt_or_ge i l.length with h|h
 ·exact ⟨l,fun a=>a,i,Sub.lo (okT_of hl).good,hl,fun _ _ _ _ e=>e,h,rfl⟩
 ·exact ⟨k,fun a=>l.length+a,i-l.length,Sub.hi (okT_of hk).good,hk,fun _ _ _ _ e=>Nat.add_left_cancel e,by omega,(Nat.add_sub_cancel' h).symm⟩
end Go.Proofs.YtlniliigcnedmaaGreatDoor
namespace Go.Proofs.YtlniliigcnedmaaGreatDoor
open Go Ax
open Relation
set_option maxRecDepth 100000
structure Emb (l:List Md) (f:Nat→Nat) (k:List Md):Prop where
 lt: ∀a,a<k.length→f a<l.length
 first: ∀a,a<k.length→firstC (mdAt l (f a)) (mdAt k a)=0
 elem: ∀a,a<k.length→isU (mdAt k a)=false→ ∀(i:Nat) (e e':Int),(mdAt l (f a)).elems[i]? =some e→(mdAt k a).elems[i]? =some e'→ ∀d,R l d e.toNat=R l d (f e'.toNat)
 up: ∀a,a<k.length→isU (mdAt k a)=true→ ∀j,IsPart l (f a) j→ ∃c,IsPart k a c∧ ∀d,R l d j=R l d (f c)
 down: ∀a,a<k.length→isU (mdAt k a)=true→ ∀c,IsPart k a c→ ∃j,IsPart l (f a) j∧ ∀d,R l d j=R l d (f c)
theorem firstC_sign {x x' y y':Md} (h1:firstC x x'=0) (h2:firstC y y'=0):firstC x y<0↔firstC x' y'<0:=by
 have o:=firstC_ord
 have a1:firstC x' x=0:=(o.zero trivial trivial).1 h1
 have a2:firstC y' y=0:=(o.zero trivial trivial).1 h2
 constructor
 ·intro h
  exact o.le_lt trivial trivial trivial (by omega) (o.lt_le trivial trivial trivial h (by omega))
 ·intro h
  exact o.le_lt trivial trivial trivial (by omega:firstC x x'≤0) (o.lt_le trivial trivial trivial h (by omega))
section
variable {l k:List Md} {f:Nat→Nat}
theorem Emb.key (h:Emb l f k) (hgl:goodT l) {a d:Nat} (ha:a<k.length):IsKey k (fun x=>R l d (f x)) a (keyOf l (R l d) (f a)):=by
 have hk:=keyOf_isKey hgl (fun a ha=>R_bound l d ha) (f a) (r:=R l d)
 have hfc:=firstC_all (h.first a ha)
 have hu:isU (mdAt l (f a))=isU (mdAt k a):=by unfold isU;rw[hfc.1]
 refine ⟨fun hu1=>?_,fun hu1=>?_⟩
 ·obtain ⟨q1,q2⟩:=hk.un (by rw[hu];exact hu1)
  refine ⟨q1,fun v=>?_⟩
  rw[q2]
  constructor
  ·rintro ⟨j,hj,rfl⟩
   obtain ⟨c,hc,he⟩:=h.up a ha hu1 j hj
   exact ⟨c,hc,by rw[he d]⟩
  ·rintro ⟨c,hc,rfl⟩
   obtain ⟨j,hj,he⟩:=h.down a ha hu1 c hc
   exact ⟨j,hj,by rw[he d]⟩
 ·rw[hk.el (by rw[hu];exact hu1)]
  have hl:(mdAt l (f a)).elems.length=(mdAt k a).elems.length:=hfc.2.2.2.2.1 (by rw[hfc.1];simpa[isU] using hu1)
  refine List.ext_getElem? fun i=>?_
  rw[List.getElem?_map,List.getElem?_map]
  rcases Nat.lt_or_ge i (mdAt k a).elems.length with hi|hi
  ·have g1:=List.getElem?_eq_getElem hi
   have g2:=List.getElem?_eq_getElem (show i<(mdAt l (f a)).elems.length by omega)
   rw[g1,g2]
   simp only[Option.map_some,Option.some.injEq]
   rw[h.elem a ha hu1 i _ _ g2 g1 d]
  ·rw[List.getElem?_eq_none hi,List.getElem?_eq_none (by omega)]
   rfl
theorem Emb.R (h:Emb l f k) (hgl:goodT l) (hgk:goodT k): ∀d,SameOrd k.length (fun x=>R l d (f x)) (R k d)
 |0=>fun a b _ _=>Iff.rfl
 |d+1=>fun a b ha hb=>by
  have ih:=h.R hgl hgk d
  show Go.Proofs.YtlniliigcnedmaaGreatDoor.R l (d+1) (f a)<Go.Proofs.YtlniliigcnedmaaGreatDoor.R l (d+1) (f b)↔_
  rw[R_lt l d (h.lt a ha),R_lt k d ha]
  cases d with
  |zero=>
   have e1:cmpR l (Go.Proofs.YtlniliigcnedmaaGreatDoor.R l 0) 0 (f a) (f b)=firstC (mdAt l (f a)) (mdAt l (f b)):=by
    unfold cmpR thenC
    rw[if_neg (by simp[Go.Proofs.YtlniliigcnedmaaGreatDoor.R,cmpI])]
    exact if_pos rfl
   have e2:cmpR k (Go.Proofs.YtlniliigcnedmaaGreatDoor.R k 0) 0 a b=firstC (mdAt k a) (mdAt k b):=by
    unfold cmpR thenC
    rw[if_neg (by simp[Go.Proofs.YtlniliigcnedmaaGreatDoor.R,cmpI])]
    exact if_pos rfl
   rw[e1,e2]
   exact firstC_sign (h.first a ha) (h.first b hb)
  |succ d=>
   rw[←next_same hgk (by omega) ih ha hb (h.key hgl ha) (h.key hgl hb)]
   simp only[cmpR,thenC,if_neg (Nat.succ_ne_zero d)]
theorem RR_deep {l:List Md} (hg:goodT l) (e:Nat) {a:Nat} (ha:a<l.length):R l (l.length+1+e) a=RR l a:=R_stable hg (by omega) (RR_stable hg) e a ha
theorem Emb.rr (h:Emb l f k) (hgl:goodT l) (hgk:goodT k) {a b:Nat} (ha:a<k.length) (hb:b<k.length):RR l (f a)<RR l (f b)↔RR k a<RR k b:=by
 have h1:=h.R hgl hgk (l.length+1+(k.length+1)) a b ha hb
 have e1:=fun x hx=>RR_deep hgl (k.length+1) (a:=f x) (h.lt x hx)
 have e2:=fun x hx=>RR_deep hgk (l.length+1) (a:=x) hx
 rw[show k.length+1+(l.length+1)=l.length+1+(k.length+1) by omega] at e2
 simp only[e1 a ha,e1 b hb,e2 a ha,e2 b hb] at h1
 exact h1
theorem Emb.eq (h:Emb l f k) (hgl:goodT l) (hgk:goodT k) {a b:Nat} (ha:a<k.length) (hb:b<k.length):RR l (f a)=RR l (f b)↔RR k a=RR k b:=by
 have h1:=h.rr hgl hgk ha hb
 have h2:=h.rr hgl hgk hb ha
 omega
theorem Sub.firstE (h:Sub l f k) {a:Nat} (ha:a<k.length):firstC (mdAt l (f a)) (mdAt k a)=0:=by
 rw[h.at ha]
 exact firstC_of rfl rfl rfl rfl (fun _=>by simp) (cmpS_ord.lex.self (fun _ _=>trivial))
theorem Sub.emb (h:Sub l f k) (hgk:goodT k):Emb l f k:=by
 refine ⟨h.lt,fun a ha=>h.firstE ha,fun a ha _ i e e' h1 h2 d=>?_,fun a ha _ j hj=>?_,fun a ha _ c hc=>⟨f c,(h.part hgk ha).2 ⟨c,rfl,hc⟩,fun _=>rfl⟩⟩
 ·rw[h.at ha] at h1
  simp only[List.getElem?_map,h2,Option.map_some,Option.some.injEq] at h1
  rw[←h1,Int.toNat_natCast]
 ·obtain ⟨c,rfl,hc⟩:=(h.part hgk ha).1 hj
  exact ⟨c,hc,fun _=>rfl⟩
theorem Sub.same {g:Nat→Nat} (h:Sub l f k) (h':Sub l g k) (hgk:goodT k) {a:Nat} (ha:a<k.length):RR l (f a)=RR l (g a):=by
 refine Bisim.RR (E:=fun x y=> ∃c,c<k.length∧x=f c∧y=g c) ⟨?_,?_,?_,?_,?_,?_⟩ ⟨a,ha,rfl,rfl⟩
 ·rintro x y ⟨c,hc,rfl,rfl⟩;exact ⟨h.lt c hc,h'.lt c hc⟩
 ·rintro x y ⟨c,hc,rfl,rfl⟩
  exact firstC_trans (h.firstE hc) ((firstC_ord.zero trivial trivial).1 (h'.firstE hc))
 ·rintro x y j ⟨c,hc,rfl,rfl⟩ _ hj
  obtain ⟨d,rfl,hd⟩:=(h.part hgk hc).1 hj
  exact ⟨g d,(h'.part hgk hc).2 ⟨d,rfl,hd⟩,d,hd.lt hgk,rfl,rfl⟩
 ·rintro x y j ⟨c,hc,rfl,rfl⟩ _ hj
  obtain ⟨d,rfl,hd⟩:=(h'.part hgk hc).1 hj
  exact ⟨f d,(h.part hgk hc).2 ⟨d,rfl,hd⟩,d,hd.lt hgk,rfl,rfl⟩
 ·rintro x y ⟨c,hc,rfl,rfl⟩ _
  rw[h.at hc,h'.at hc]
  simp
 ·rintro x y i e e' ⟨c,hc,rfl,rfl⟩ _ h1 h2
  rw[h.at hc] at h1
  rw[h'.at hc] at h2
  simp only[List.getElem?_map,Option.map_eq_some_iff] at h1 h2
  obtain ⟨u,u1,rfl⟩:=h1
  obtain ⟨v,v1,rfl⟩:=h2
  rw[u1] at v1
  cases v1
  have:=hgk _ (mdAt_mem hc) u (List.mem_of_getElem? u1)
  exact ⟨u.toNat,by omega,by simp,by simp⟩
end
end Go.Proofs.YtlniliigcnedmaaGreatDoor
namespace Go.Proofs.YtlniliigcnedmaaGreatDoor
open Go Ax
open Relation
set_option maxRecDepth 100000
section
variable {l K:List Md} (h:Sub K (fun a=>a) l) (hgl:goodT l) (hgK:goodT K)
include h hgl
theorem Sub.mdI {x:Nat} (hx:x<l.length):mdAt K x=mdAt l x:=by
 have:=h.at hx
 rw[this]
 exact mapE_id (n:=l.length) (hgl _ (mdAt_mem hx))
include hgK
theorem Sub.numI {s:List Nat} {x:Nat} (hs: ∀z∈s,z<l.length) (hx:x<l.length):numOf K s x=numOf l s x:=by
 have key: ∀t:List Nat,(∀z∈t,z<l.length)→t.findIdx? (fun z=>RR K z==RR K x)=t.findIdx? (fun z=>RR l z==RR l x):=fun t=>by
  induction t with
  |nil=>intro _;rfl
  |cons z t ih=>
   intro ht
   have e:=(h.emb hgl).eq hgK hgl (ht z (List.mem_cons_self ..)) hx
   have e':(RR K z==RR K x)=(RR l z==RR l x):=by rw[Bool.eq_iff_iff,beq_iff_eq,beq_iff_eq];exact e
   rw[List.findIdx?_cons,List.findIdx?_cons,e',ih fun z hz=>ht z (List.mem_cons_of_mem _ hz)]
 exact key s hs
theorem Sub.basesI {x:Nat} (hx:x<l.length):basesOf K x=basesOf l x:=by
 have hxK:=h.lt x hx
 have hm:=h.mdI hgl hx
 have hb:=basesEx hgK hxK
 have:BasesOk l x (basesOf K x):=by
  refine ⟨fun hu=>?_,fun hu=>hb.el (by rw[hm];exact hu)⟩
  obtain ⟨O,hO,hS⟩:=hb.un (by rw[hm];exact hu)
  have hO': ∀j,j∈O↔IsPart l x j:=fun j=>by
   rw[hO]
   constructor
   ·intro hj
    obtain ⟨c,rfl,hc⟩:=(h.part hgl hx).1 hj
    exact hc
   ·intro hj
    exact (h.part hgl hx).2 ⟨j,rfl,hj⟩
  exact ⟨O,hO',hS.congrO (n:=l.length) (fun z hz=>((hO' z).1 hz).lt hgl) fun a b ha hb=>(h.emb hgl).rr hgK hgl ha hb⟩
 exact this.eq
def SameW (l:List Md) (n:Nat) (g g':List Nat→Nat→List UInt8×List Nat):Prop:= ∀s z,Seen l s→n≤s.length→z<l.length→g s z=g' s z∧Seen l (g' s z).2∧n≤(g' s z).2.length
omit h hgl hgK in
theorem SameW.list {n:Nat} {g g':List Nat→Nat→List UInt8×List Nat} (hg:SameW l n g g'): ∀(zs:List (Nat×List UInt8)) (f:Bool) (s:List Nat),Seen l s→n≤s.length→(∀p∈zs,p.1<l.length)→txL g f s zs=txL g' f s zs∧Seen l (txL g' f s zs).2∧n≤(txL g' f s zs).2.length
 | [],f,s,hs,hn,_=>⟨rfl,hs,hn⟩
 |(z,nm)::zs,f,s,hs,hn,hz=>by
  obtain ⟨e1,e2,e3⟩:=hg s z hs hn (hz _ (List.mem_cons_self ..))
  obtain ⟨q1,q2,q3⟩:=SameW.list hg zs false _ e2 e3 fun p hp=>hz p (List.mem_cons_of_mem _ hp)
  exact ⟨by simp only[txL];rw[e1,q1],q2,q3⟩
theorem Sub.bodyI (hf:Full l) {n:Nat} {g g':List Nat→Nat→List UInt8×List Nat} (hg:SameW l n g g') {s:List Nat} {x:Nat} (hs:Seen l s) (hn:n≤s.length) (hx:x<l.length) (h9:9≤(mdAt l x).kind):bodyT K g s x=bodyT l g' s x:=by
 have hfl:=hf _ (mdAt_mem hx) h9
 have one: ∀{t:List Nat} {k:Nat},Seen l t→n≤t.length→k<(mdAt l x).elems.length→g t ((eN (mdAt l x)).getD k 0)=g' t ((eN (mdAt l x)).getD k 0):=fun ht hn hk=>(hg _ _ ht hn (eN_getD hgl hx hk)).1
 unfold bodyT
 rw[h.mdI hgl hx,h.basesI hgl hgK hx]
 split
 ·rw[one hs hn hfl]
 split
 ·rw[one hs hn hfl]
 split
 ·rw[(hg.list _ true s hs hn fun p hp=>eN_lt hgl hx (named_mem hp).1).1]
 split
 ·rw[(hg.list _ true s hs hn fun p hp=>by obtain ⟨z,hz,rfl⟩:=List.mem_map.1 hp;exact bases_lt hgl hx z hz).1]
 split
 ·obtain ⟨q1,q2,q3⟩:=hg.list (bare ((eN (mdAt l x)).take ((mdAt l x).elems.length-1))) true s hs hn fun p hp=>by obtain ⟨z,hz,rfl⟩:=List.mem_map.1 hp;exact eN_lt hgl hx (mem_take hz)
  rw[q1,one q2 q3 (by omega)]
 ·rw[one hs hn hfl]
theorem Sub.txI (ht:TxT l) (hf:Full l): ∀(f f':Nat) (s:List Nat) (x:Nat),Seen l s→x<l.length→l.length<f+s.length→l.length<f'+s.length→txM K f s x=txM l f' s x
 |0,f',s,x,hs,_,h1,_=>by have:=hs.len;omega
 |f+1,0,s,x,hs,_,_,h2=>by have:=hs.len;omega
 |f+1,f'+1,s,x,hs,hx,h1,h2=>by
  unfold txM
  rw[h.mdI hgl hx,h.numI hgl hgK hs.lt hx]
  split
  ·rfl
  ·rename_i h9
   cases hn:numOf l s x with
   |some n=>rfl
   |none=>
    refine h.bodyI hgl hgK hf (n:=(s++ [x]).length) (fun t z ht' hn' hz=>?_) (hs.add hx hn) (Nat.le_refl _) hx (by omega)
    have hl:(s++ [x]).length=s.length+1:=by simp
    have e:=txM_seen ht hf f' ht' hz
    exact ⟨Sub.txI ht hf f f' t z ht' hz (by omega) (by omega),e.1,by omega⟩
theorem Sub.textI (ht:TxT l) (hf:Full l) {x:Nat} (hx:x<l.length) (hlen:l.length≤K.length):textT K x=textT l x:=by
 unfold textT
 rw[h.txI hgl hgK ht hf (K.length+1) (l.length+1) [] x Seen.nil hx (by simp;omega) (by simp)]
end
end Go.Proofs.YtlniliigcnedmaaGreatDoor
namespace Go.Proofs.YtlniliigcnedmaaGreatDoor
open Go Ax Go.ChangeShapes Go.WideShapes Go.ChangeAt Go.RowKit
set_option maxRecDepth 100000
theorem fits_of7 {l:List Md} (hb: ∀md∈l,MdB reachBytes md) (h:(decide ((l.length:Int)≤7)&&l.all fun x=>decide (x.elems.length≤6)&&decide (x.names.length≤6))=true):Fits l∧l.length≤7:=by
 rw[Bool.and_eq_true,decide_eq_true_iff] at h
 exact ⟨fits_of hb (by rw[Bool.and_eq_true,decide_eq_true_iff];exact ⟨by omega,h.2⟩),by omega⟩
def movT (l:List Md) (a:Nat):List Md:=bothT (l++ [mdAt l a]) l
theorem movL (l:List Md) (a:Nat):(movT l a).length=l.length+1+l.length:=by simp[movT,bothL]
set_option maxHeartbeats 8000000 in
theorem k6:LawTII 6:=by
 intro m s l u v hs _ hb
 refine w6 ?_
 simp
 refine C_of (k13 m) ?_
 rintro _ m1 ⟨rfl,hm1⟩
 simp
 refine C_of (k14 s l 7 m1 (hs.mono hm1) (by omega)) ?_
 rintro _ m2 ⟨rfl,hm2⟩
 have hm02:=hm1.trans hm2
 cases hsm:(decide ((l.length:Int)≤7)&&l.all fun x=>decide (x.elems.length≤6)&&decide (x.names.length≤6))
 ·simp
 obtain ⟨hf,h7⟩:=fits_of7 hb hsm
 have hsz:=hf.sm
 simp[fillA,setN]
 have hA:=two_intsZ m2 u v
 have hm3:m2<+:m2++ [.own [.int .i64 u,.int .i64 v] 3 none]:=List.prefix_append _ _
 generalize AVal.slice m2.length 0 2 2 none=t3 at*
 generalize m2++ [.own [.int .i64 u,.int .i64 v] 3 none]=m3 at*
 have hm03:=hm02.trans hm3
 refine C_of (k21 s t3 l [u,v] m3 (hs.mono hm03) hA hsz (by omega) (by simp)) ?_
 rintro _ m4 ⟨rfl,hm4⟩
 have hm04:=hm03.trans hm4
 by_cases hri:rightI l [u,v]=0
 rotate_left
 ·simp[hri]
 obtain ⟨hc,a,b,rfl,rfl,ha,hb'⟩:=right2 hri
 have ok:=okT_of hc
 have hma:=mdAt_eq ha
 simp[hri]
 refine W_draw (fun i w m'=>i=1→OwB m m4.length m' w l) (by simp[maxDst]) ?_
 have hno: ∀(j:Nat) (m':AMem),noFacts j m':=fun _ _=>trivial
 refine D_pre 0 1 [1,2,3,4,5,6,7,8] (by simp only[List.drop_zero,List.drop_succ_cons,List.take_succ_cons,List.take_zero];rfl) rfl rfl ‹_› ?_
 simp
 intro _ _
 refine D_C rfl trivial rfl (fun m' hm' _=>(k23 s l m m' (hm04.trans hm') hs (by omega)).mono ?_) ?_ ?_ ?_
 ·rintro w m'' ⟨g1,cs,g2,g3⟩
  exact ⟨g1,fun _=>⟨cs,g2.lo hm'.length_le,g3⟩⟩
 ·obtain ⟨cs,g2,g3⟩:=hs
  have hcl2:=g2.length
  exact ⟨_,_,List.prefix_append _ _,fun _=>⟨cs,Ow.new hcl2 (tab_all hcl2 g3),g3⟩⟩
 ·rintro w m' m'' hm hk h
  exact (hk h).mono hm
 rintro w m6 hm46 hw6
 clear hw6
 have hm06:=hm04.trans hm46
 obtain ⟨bx',ox,c,g4,g5,_,_,g6⟩:=hs.atC ha
 replace g5:=loadE_mono hm04 g5
 obtain ⟨e,nm,c0,c1,c2,c3,c4,c5,he,hnm,rfl⟩:=g6.get
 have z1:=Sl.one he
 have z2:=Sl.one hnm
 refine D_P rfl trivial ?_
 simp
 refine D_P rfl trivial ?_
 simp
 refine D_P rfl trivial ?_
 simp[g4]
 refine D_R rfl trivial ⟨_,List.prefix_refl _,fun _ h=>by cases h⟩ ?_
 simp[g5]
 refine D_An rfl trivial ?_
 simp[fillA,setN,z1,z2]
 intro bl hbl
 refine D_W rfl rfl fun m7 hm7 hf7=>?_
 have hB:=hf7 1
 have hf6:=hf7 6
 simp[upd] at hB hf6
 have hsc:sliceCells m7 6 (.slice bl 0 1 1 none)=some (1,[AVal.int .i64 l[a].kind,AVal.int .i64 l[a].size,e,nm,AVal.int .i64 l[a].dims,AVal.bool l[a].flex]):=by simp[sliceCells,readB,hf6,ABlk.cells,readN]
 have hm07:=hm04.trans hm7
 have hO0:OwS m4.length m7 w l:=by
  obtain ⟨cs,q1,q2⟩:=hB
  refine ⟨cs,q1,fun i x hx m' hc=>(q2 i x hx).mono (hc.pre hm07 fun b hb e=>?_)⟩
  have:=(q1.blk_lo e).1
  have:=hm04.length_le
  omega
 obtain ⟨o1,m8,happ,hch8,hO8,_⟩:=hO0.push hm7.length_le (c:= [AVal.int .i64 l[a].kind,AVal.int .i64 l[a].size,e,nm,AVal.int .i64 l[a].dims,AVal.bool l[a].flex]) (x:=l[a]) (fun m' hc=>g6.mono (hc.pre hm07 fun b hb e=>by have:=(hO0.blk_lo e).1;have:=hm04.length_le;omega)) (by omega)
 rw[←hma] at hO8
 have hm58:m4<+:m8:=hch8.pre hm7 fun b hb e=>by have:=(hO0.blk_lo e).1;omega
 simp[hsc,happ]
 refine D_P rfl trivial ?_
 simp
 refine D_end fun m9 hm9 _=>?_
 have hO9:=hO8.mono hm9
 have hm59:=hm58.trans hm9
 clear hO8 hch8 happ hsc hf6 hf7 hO0 hB g4 g5
 simp[hs.len]
 have hN:l.length+1=(l++ [mdAt l a]).length:=by simp
 have hwN:IntKind.i64.wrap ((l.length:Int)+1)=((l.length+1:Nat):Int):=by rw[wrap64 (by omega) (by omega)];omega
 obtain ⟨N,hNd⟩: ∃N:Nat,N=l.length+1:=⟨_,rfl⟩
 rw[←hNd] at hwN
 obtain ⟨J,hJ⟩: ∃J:AFrame→AMem→Prop,∀f m',J f m'↔(∃o,f.forget [0,1,2,7]=mat 139 [(0,s),(1,.int .i64 a),(2,.int .i64 b),(7,o)]∧m4<+:m'∧OwS m4.length m' o (movT l a)):=⟨_,fun _ _=>Iff.rfl⟩
 refine W_JB J ?_ ?_
 ·obtain ⟨I,hI⟩: ∃I:Nat→AFrame→AMem→Prop,∀q f m',I q f m'↔(∃(i:Nat) (o:AVal),i+q=l.length∧f=h6_0 s (.int .i64 a) (.int .i64 b) o s (.int .i64 l.length) (.int .i64 i)∧m4<+:m'∧OwS m4.length m' o ((l++ [mdAt l a])++(l.take i).map (shiftM N))):=⟨_,fun _ _ _=>Iff.rfl⟩
  refine W_loop I l.length ((hI _ _ _).2 ⟨0,o1,by simp,by simp,hm59,by simpa using hO9⟩) ?_
  clear hO9
  rintro q f m10 hIn
  obtain ⟨i,o,hq,rfl,hm510,hO⟩:=(hI _ _ _).1 hIn
  clear hIn
  have hm010:=hm04.trans hm510
  simp
  refine bbind_dec (fun hil=>?_) fun hil=>?_
  rotate_left
  ·have:i=l.length:=by omega
   subst this
   rw[List.take_length] at hO
   simp
   exact (hJ _ _).2 ⟨o,by simp,hm510,by unfold movT bothT;rw[←hN,←hNd];exact hO⟩
  have hil:i<l.length:=by omega
  have hw:=step64 (k:=i) (n:=l.length) hil (by omega)
  obtain ⟨bx2,ox2,c,g4,g5,_,_,g6⟩:=hs.atC hil
  replace g5:=loadE_mono hm010 g5
  have hx40:=hf.h40 _ (List.getElem_mem hil)
  have hxg:=ok.good _ (List.getElem_mem hil)
  have hget:l[i]? =some l[i]:=List.getElem?_eq_getElem hil
  have htk:l.take (i+1)=l.take i++ [l[i]]:=by rw[List.take_add_one,hget];rfl
  generalize l[i]=x at*
  have hcl6:=g6.all
  simp[g4,g5]
  rw[store_new _ _ c _ _ 6 hcl6.1 rfl hcl6.2]
  have hb11:(m10++ [ABlk.own c 39 none])[m10.length]? =some (.own c 39 none):=by simp
  have hm1011:m10<+:m10++ [ABlk.own c 39 none]:=List.prefix_append _ _
  have hl11:(m10++ [ABlk.own c 39 none]).length=m10.length+1:=by simp
  obtain ⟨e,nm,rfl,he,hnm⟩:=g6
  have he1:=Sl.self he
  have hn1:=Sl.self hnm
  generalize m10++ [ABlk.own [.int .i64 x.kind,.int .i64 x.size,e,nm,.int .i64 x.dims,.bool x.flex] 39 none]=m11 at*
  have hr11:=bx (own_read hb11) 2
  simp at hr11
  simp[hr11]
  refine C_of (k24 e x.elems m11 (he.mono (hm010.trans hm1011)) (by omega)) ?_
  rintro e2 m12 ⟨hm12,hE⟩
  have hb12:=own_mono hb11 hm12
  have he2:=(Ow.sl hE).self
  obtain ⟨m13,hst13,hb13,hch13⟩:=fld_store (i:=2) (v:=e2) hb12 (by simp) he2.2 he2.1
  simp at hb13
  simp[hst13]
  have hE13:OwL (AVal.int .i64) m11.length m13 3 e2 x.elems:=hE.ch hch13 fun b hb e=>by have:=(hE.blk_lo hb).1;omega
  have hm1013:m10<+:m13:=hch13.pre (hm1011.trans hm12) fun b hb e=>by omega
  have hr13:=bx (own_read hb13) 2
  simp at hr13
  simp[hr13,hE13.len]
  obtain ⟨J1,hJ1⟩: ∃J:AFrame→AMem→Prop,∀f m',J f m'↔(f.forget [0,1,2,7,9,37,38,39]=mat 139 [(0,s),(1,.int .i64 a),(2,.int .i64 b),(7,o),(9,.ptr m10.length 0),(37,s),(38,.int .i64 l.length),(39,.int .i64 i)]∧m10<+:m'∧m'[m10.length]? =some (.own [.int .i64 x.kind,.int .i64 x.size,e2,nm,.int .i64 x.dims,.bool x.flex] 39 none)∧OwL (AVal.int .i64) m11.length m' 3 e2 (x.elems.map (· +(N:Int)))):=⟨_,fun _ _=>Iff.rfl⟩
  refine W_JB J1 ?_ ?_
  ·obtain ⟨I1,hI1⟩: ∃I:Nat→AFrame→AMem→Prop,∀q f m',I q f m'↔(∃(j:Nat),j+q=x.elems.length∧f=h6_1 s (.int .i64 a) (.int .i64 b) o (.ptr m10.length 0) s (.int .i64 l.length) (.int .i64 i) (.int .i64 x.elems.length) (.int .i64 j)∧m10<+:m'∧m'[m10.length]? =some (.own [.int .i64 x.kind,.int .i64 x.size,e2,nm,.int .i64 x.dims,.bool x.flex] 39 none)∧OwL (AVal.int .i64) m11.length m' 3 e2 ((x.elems.take j).map (· +(N:Int))++x.elems.drop j)):=⟨_,fun _ _ _=>Iff.rfl⟩
   refine W_loop I1 x.elems.length ((hI1 _ _ _).2 ⟨0,by simp,by simp,hm1013,hb13,by simpa using hE13⟩) ?_
   clear hE13 hm1013 hb13 hE hch13 hr13 hst13
   rintro q1 f m14 hIn
   obtain ⟨j,hq1,rfl,hm14,hb14,hE14⟩:=(hI1 _ _ _).1 hIn
   clear hIn
   simp
   refine bbind_dec (fun hjl=>?_) fun hjl=>?_
   rotate_left
   ·have:j=x.elems.length:=by omega
    subst this
    simp at hE14
    simp
    exact (hJ1 _ _).2 ⟨by simp,hm14,hb14,by simpa using hE14⟩
   have hjl:j<x.elems.length:=by omega
   have hwj:=step64 (k:=j) (n:=x.elems.length) hjl (by omega)
   have hel:=hxg _ (List.getElem_mem hjl)
   have hlen9:j<((x.elems.take j).map (· +(N:Int))++x.elems.drop j).length:=by simp;omega
   have hge:((x.elems.take j).map (· +(N:Int))++x.elems.drop j)[j]=x.elems[j]:=by
    rw[List.getElem_append_right (by simp;omega)]
    simp[List.length_take,Nat.min_eq_left (Nat.le_of_lt hjl)]
   obtain ⟨bj,oj,hbj,hpj,hlj,hstj⟩:=hE14.at hlen9
   rw[hge] at hlj
   have hwv:IntKind.i64.wrap (x.elems[j]+(N:Int))=x.elems[j]+(N:Int):=wrap64 (by omega) (by omega)
   obtain ⟨m15,hst15,hch15,hE15⟩:=hstj (x.elems[j]+(N:Int))
   have hr14:=bx (own_read hb14) 2
   simp at hr14
   have hbj6:=(hE14.blk_lo hbj).1
   simp[hr14,hpj,hlj,hs.len,hwN,hwv,hst15,hwj]
   refine ⟨q1-1,by omega,(hI1 _ _ _).2 ⟨j+1,by omega,by simp,hch15.pre hm14 fun b hb e=>by omega,own_ch hb14 hch15 (by omega),?_⟩⟩
   have hset:((x.elems.take j).map (· +(N:Int))++x.elems.drop j).set j (x.elems[j]+(N:Int))=(x.elems.take (j+1)).map (· +(N:Int))++x.elems.drop (j+1):=by
    rw[List.set_append_right _ _ (by simp;omega),List.take_add_one,List.getElem?_eq_getElem hjl,List.map_append]
    simp[List.length_take,Nat.min_eq_left (Nat.le_of_lt hjl)]
    rw[List.drop_eq_getElem_cons hjl]
    rfl
   rw[hset] at hE15
   exact hE15
  intro f m14 hJ2
  obtain ⟨hf14,hm14,hb14,hE14⟩:=(hJ1 _ _).1 hJ2
  clear hJ2 hJ1
  have hO14:=hO.mono hm14
  have hb14r:=bxW (own_read hb14) 6
  simp[readN] at hb14r
  have hfill:fillA [.int .i64 0,.int .i64 0,.nilslice,.nilslice,.int .i64 0,.bool false] [(0,6,.agg [.int .i64 x.kind,.int .i64 x.size,e2,nm,.int .i64 x.dims,.bool x.flex])]=some [.int .i64 x.kind,.int .i64 x.size,e2,nm,.int .i64 x.dims,.bool x.flex]:=by
   simp[fillA,setN,he2.1,hn1.1]
  simp[hf14,hb14r,hfill]
  have hsc:=lit6 m14 [.int .i64 x.kind,.int .i64 x.size,e2,nm,.int .i64 x.dims,.bool x.flex] rfl none
  have hm1415:m14<+:m14++ [ABlk.own [.int .i64 x.kind,.int .i64 x.size,e2,nm,.int .i64 x.dims,.bool x.flex] 39 none]:=List.prefix_append _ _
  have hob: ∀b,o.blk=some b→m4.length≤b∧b<m10.length:=fun b hb=>hO.blk_lo hb
  generalize m14++ [ABlk.own [.int .i64 x.kind,.int .i64 x.size,e2,nm,.int .i64 x.dims,.bool x.flex] 39 none]=m15 at*
  obtain ⟨o',m16,happ,hch16,hO16,_⟩:=(hO14.mono hm1415).push (c:= [.int .i64 x.kind,.int .i64 x.size,e2,nm,.int .i64 x.dims,.bool x.flex]) (x:=shiftM N x) (by have:=(hm510.trans (hm14.trans hm1415)).length_le;omega) (fun m' hc=>by
   refine ⟨e2,nm,rfl,?_,?_⟩
   ·exact ((hE14.mono hm1415).ch hc fun b hb e=>by have:=(hE14.blk_lo hb).1;have:=hob b e;omega).ints
   ·exact hnm.mono (hc.pre (hm010.trans (hm14.trans hm1415)) fun b hb e=>by have:=hob b e;have:=hm04.length_le;omega)) (by simp;omega)
  simp[hsc,happ,hw]
  refine ⟨q-1,by omega,(hI _ _ _).2 ⟨i+1,o',by omega,by simp,hch16.pre (hm510.trans (hm14.trans hm1415)) fun b hb e=>by have:=hob b e;omega,?_⟩⟩
  rw[htk,List.map_append,←List.append_assoc]
  exact hO16
 intro f m10 hJ2
 obtain ⟨o,hf10,hm510,hO⟩:=(hJ _ _).1 hJ2
 clear hJ2 hJ
 have hm010:=hm04.trans hm510
 have hck:checkI (movT l a)=0:=check_both (check_copy hc (by omega) (mdAt_mem ha)) hc (by simp;omega)
 have hgK:=(okT_of hck).good
 have hT:=T13.of (l:=l) (by omega)
 have hl1:(l++ [mdAt l a]).length=l.length+1:=by simp
 have hT1:=T13.of (l:=l++ [mdAt l a]) (by omega)
 have hTK:T13 (movT l a):=⟨by rw[movL];omega,(bothT60 hT1 hT (okT_of (check_copy hc (by omega) (mdAt_mem ha))).good ok.good).few⟩
 have hszK: ∀x∈movT l a,smallN x:=fun x hx=>by
  rcases List.mem_append.1 hx with h|h
  ·rcases List.mem_append.1 h with h|h
   ·exact hsz x h
   ·rw[List.mem_singleton.1 h];exact hsz _ (mdAt_mem ha)
  ·obtain ⟨y,hy,rfl⟩:=List.mem_map.1 h
   have:=hsz y hy
   exact ⟨by simpa[shiftM] using this.1,this.2.1,this.2.2⟩
 have S0:Sub (movT l a) (fun x=>x) l:=by
  have:=Sub.app ok.good ([mdAt l a]++l.map (shiftM (l++ [mdAt l a]).length))
  rw[←List.append_assoc] at this
  exact this
 have S1:Sub (movT l a) (fun x=>l.length+1+x) l:=by
  have:=Sub.hi (l:=l++ [mdAt l a]) ok.good
  rw[hl1] at this
  exact this
 have hKl:=movL l a
 have e1:=fun x y hx hy=>(S0.emb ok.good).rr hgK ok.good (a:=x) (b:=y) hx hy
 have e2:=S0.same S1 ok.good ha
 have e2b:=S0.same S1 ok.good hb'
 have e3:RR (movT l a) a=RR (movT l a) l.length:=by
  have hn:mdAt (movT l a) l.length=mdAt l a:=by
   have:(movT l a)[l.length]? =some (mdAt l a):=by
    unfold movT bothT
    rw[List.getElem?_append_left (by simp),List.getElem?_append_right (Nat.le_refl _)]
    simp
   show ((movT l a)[l.length]?).getD _=_
   rw[this]
   rfl
  have hm:mdAt (movT l a) a=mdAt l a:=S0.mdI ok.good ha
  exact RR_same (by omega) (by omega) (by rw[hn,hm];exact firstC_ord.self trivial) (by rw[hn,hm])
 obtain ⟨htx,hfl,_⟩:=txT_of hc (by omega)
 have e4:textT (movT l a) (l.length+1+b)=textT l b:=by
  rw[←textT_congr hck (txT_of hck (by omega)).2.1 (by omega) (by omega) e2b]
  exact S0.textI ok.good hgK htx hfl hb' (by omega)
 have e5:=e1 a b ha hb'
 have e6:=e1 b a hb' ha
 have f1:ordI (movT l a) a b=ordI l a b:=by
  have q1:RR (movT l a) a=RR (movT l a) b↔RR l a=RR l b:=by omega
  unfold ordI
  simp only[q1,e5]
 have f2:ordI (movT l a) a l.length=0:=by unfold ordI;rw[if_pos e3]
 have f3:ordI (movT l a) a (l.length+1+a)=0:=by unfold ordI;rw[if_pos e2]
 have f4:ordI (movT l a) (l.length+1+a) b=ordI l a b:=by rw[←f1];unfold ordI;rw[←e2]
 have hOt:=hO.tab
 have ord:=fun (x y:Nat) (m':AMem) (h:m10<+:m') (hx:x<(movT l a).length) (hy:y<(movT l a).length)=>k22 o (movT l a) x y m' (hOt.mono h) hszK hTK hck hx hy
 have ordl:=fun (m':AMem) (h:m10<+:m')=>k22 s l a b m' (hs.mono (hm010.trans h)) hsz hT hc ha hb'
 have o1':=fun m' h=>ord a b m' h (by omega) (by omega)
 have o2':=fun m' h=>ord a l.length m' h (by omega) (by omega)
 have o3':=fun m' h=>ord a (l.length+1+a) m' h (by omega) (by omega)
 have o4':=fun m' h=>ord (l.length+1+a) b m' h (by omega) (by omega)
 simp only[f1] at o1'
 simp only[f2] at o2'
 simp only[f3] at o3'
 simp only[f4] at o4'
 have t1: ∀m',m10<+:m'→ACalls Tryz.prog 15 [s,.int .i64 b] m' fun v m''=>m'<+:m''∧v= .tuple [.str ⟨(textT l b).toArray⟩,.int .i64 0]:=fun m' h=>by
  have:=k15 s l b m' (hs.mono (hm010.trans h)) hsz (fun _=>hT) (by omega)
  rwa[show rightI l [(b:Int)]=0 from rightI_one hc hb',show textV l b=textT l b by unfold textV;rw[rightI_one hc hb'];rfl] at this
 have t2: ∀m',m10<+:m'→ACalls Tryz.prog 15 [o,.int .i64 ((l.length+1+b:Nat):Int)] m' fun v m''=>m'<+:m''∧v= .tuple [.str ⟨(textT l b).toArray⟩,.int .i64 0]:=fun m' h=>by
  have hr1:rightI (movT l a) [((l.length+1+b:Nat):Int)]=0:=rightI_one hck (by omega)
  have:=k15 o (movT l a) ((l.length+1+b:Nat):Int) m' (hOt.mono h) hszK (fun _=>hTK) (by omega)
  rwa[hr1,show textV (movT l a) ((l.length+1+b:Nat):Int)=textT l b by unfold textV;rw[hr1,←e4];rfl] at this
 clear ord f1 f2 f3 f4 e1 e2 e2b e3 e4 e5 e6 S0 S1 hOt hszK hTK hck hgK
 generalize textT l b=tb at*
 generalize ordI l a b=X at*
 have hwb:IntKind.i64.wrap ((N:Int)+(b:Int))=((l.length+1+b:Nat):Int):=by rw[wrap64 (by omega) (by omega)];omega
 have hwa:IntKind.i64.wrap ((N:Int)+(a:Int))=((l.length+1+a:Nat):Int):=by rw[wrap64 (by omega) (by omega)];omega
 obtain ⟨NB,hNB⟩: ∃NB:Nat,NB=l.length+1+b:=⟨_,rfl⟩
 obtain ⟨NA,hNA⟩: ∃NA:Nat,NA=l.length+1+a:=⟨_,rfl⟩
 rw[←hNB] at hwb
 rw[←hNA] at hwa
 rw[←hNB] at t2
 simp only[←hNA] at o3' o4'
 have hse:binStr .eql ⟨tb.toArray⟩ ⟨tb.toArray⟩=some (.bool true):=by simp[binStr]
 simp[hf10,hs.len]
 refine C_of (t1 m10 (List.prefix_refl _)) ?_
 rintro _ m11 ⟨hm11,rfl⟩
 simp[hwN,hwb]
 refine C_of (t2 m11 hm11) ?_
 rintro _ m12 ⟨hm12,rfl⟩
 have q12:=hm11.trans hm12
 simp
 refine C_of (o1' m12 q12) ?_
 rintro _ m13 ⟨rfl,hm13⟩
 have q13:=q12.trans hm13
 simp
 refine C_of (ordl m13 q13) ?_
 rintro _ m14 ⟨rfl,hm14⟩
 have q14:=q13.trans hm14
 simp
 refine C_of (o2' m14 q14) ?_
 rintro _ m15 ⟨rfl,hm15⟩
 have q15:=q14.trans hm15
 simp[hwN,hwa]
 refine C_of (o3' m15 q15) ?_
 rintro _ m16 ⟨rfl,hm16⟩
 have q16:=q15.trans hm16
 simp[hwN,hwa]
 refine C_of (o4' m16 q16) ?_
 rintro _ m17 ⟨rfl,hm17⟩
 have q17:=q16.trans hm17
 simp
 refine C_of (ordl m17 q17) ?_
 rintro _ m18 ⟨rfl,hm18⟩
 simp[hse]
end Go.Proofs.YtlniliigcnedmaaGreatDoor
namespace Go.Proofs.YtlniliigcnedmaaGreatDoor
open Go Ax Go.ChangeShapes Go.WideShapes Go.ChangeAt Go.RowKit
set_option maxRecDepth 100000
end Go.Proofs.YtlniliigcnedmaaGreatDoor
namespace Go.Proofs.YtlniliigcnedmaaGreatDoor
open Go Ax
open Relation
set_option maxRecDepth 100000
structure Quo (l k:List Md) (g:Nat→Nat):Prop where
 lt: ∀x,x<l.length→g x<k.length
 sur: ∀n,n<k.length→ ∃x,x<l.length∧g x=n
 first: ∀x,x<l.length→firstC (mdAt k (g x)) (mdAt l x)=0
 elem: ∀x,x<l.length→isU (mdAt l x)=false→(mdAt k (g x)).elems=(mdAt l x).elems.map fun e=>((g e.toNat:Nat):Int)
 elemU: ∀x,x<l.length→isU (mdAt l x)=true→ ∀c:Int,c∈(mdAt k (g x)).elems↔ ∃j,IsPart l x j∧c=((g j:Nat):Int)
theorem getMd {l:List Md} {x:Nat} (hx:x<l.length):l[x]? =some (mdAt l x):=by rw[mdAt_eq hx];exact List.getElem?_eq_getElem hx
section
variable {l k:List Md} {g:Nat→Nat} (h:Quo l k g) (hg:goodT l)
include h
theorem Quo.u {x:Nat} (hx:x<l.length):isU (mdAt k (g x))=isU (mdAt l x):=by unfold isU;rw[firstC_kind (h.first x hx)]
include hg
theorem Quo.good:goodT k:=fun m hm e he=>by
 obtain ⟨n,hn,rfl⟩:=List.mem_iff_getElem.1 hm
 obtain ⟨x,hx,rfl⟩:=h.sur n hn
 rw[←mdAt_eq hn] at he
 cases hu:isU (mdAt l x)
 ·rw[h.elem x hx hu] at he
  obtain ⟨d,hd,rfl⟩:=List.mem_map.1 he
  have:=hg _ (mdAt_mem hx) d hd
  have:=h.lt d.toNat (by omega)
  omega
 ·obtain ⟨j,hj,rfl⟩:=(h.elemU x hx hu e).1 he
  have:=h.lt j (hj.lt hg)
  omega
theorem Quo.part {x:Nat} (hx:x<l.length) (hu:isU (mdAt l x)=true) {c:Nat}:IsPart k (g x) c↔ ∃j,IsPart l x j∧c=g j:=by
 have hgx:=h.lt x hx
 have el: ∀{c},stepR k isU (g x) c→ ∃j,IsPart l x j∧c=g j:=fun {c} ⟨m,h1,_,h3⟩=>by
  rw[getMd hgx] at h1
  cases h1
  obtain ⟨j,hj,e⟩:=(h.elemU x hx hu c).1 h3
  exact ⟨j,hj,by omega⟩
 have nou: ∀{j},IsPart l x j→isU (mdAt k (g j))=false:=fun {j} hj=>by
  have hjl:=hj.lt hg
  rw[h.u hjl]
  exact hj.2 _ (getMd hjl)
 constructor
 ·rintro ⟨h1,_⟩
  have key: ∀{c},TransGen (stepR k isU) (g x) c→ ∃j,IsPart l x j∧c=g j:=fun hh=>by
   induction hh with
   |single h'=>exact el h'
   |tail _ h' ih=>
    obtain ⟨j,hj,rfl⟩:=ih
    obtain ⟨m,q1,q2,_⟩:=h'
    rw[getMd (h.lt j (hj.lt hg))] at q1
    cases q1
    rw[nou hj] at q2
    cases q2
  exact key h1
 ·rintro ⟨j,hj,rfl⟩
  refine ⟨.single ⟨mdAt k (g x),getMd hgx,by rw[h.u hx];exact hu,(h.elemU x hx hu _).2 ⟨j,hj,rfl⟩⟩,fun y hy=>?_⟩
  rw[getMd (h.lt j (hj.lt hg))] at hy
  cases hy
  exact nou hj
theorem Quo.emb:Emb k g l:=by
 refine ⟨h.lt,h.first,fun a ha hu i e e' h1 h2 d=>?_,fun a ha hu j hj=>?_,fun a ha hu c hc=>⟨g c,(h.part hg ha hu).2 ⟨c,hc,rfl⟩,fun _=>rfl⟩⟩
 ·rw[h.elem a ha hu,List.getElem?_map,h2] at h1
  simp only[Option.map_some,Option.some.injEq] at h1
  rw[←h1,Int.toNat_natCast]
 ·obtain ⟨c,hc,rfl⟩:=(h.part hg ha hu).1 hj
  exact ⟨c,hc,fun _=>rfl⟩
theorem Quo.across {x:Nat} (hx:x<l.length):RR (bothT l k) x=RR (bothT l k) (l.length+g x):=by
 have hgk:=h.good hg
 have S0:=Sub.lo (k:=k) hg
 have S1:=Sub.hi (l:=l) hgk
 refine Bisim.RR (E:=fun a b=>a<l.length∧b=l.length+g a) ⟨?_,?_,?_,?_,?_,?_⟩ ⟨hx,rfl⟩
 ·rintro a b ⟨ha,rfl⟩
  have:=h.lt a ha
  rw[bothL]
  exact ⟨by omega,by omega⟩
 ·rintro a b ⟨ha,rfl⟩
  exact firstC_trans (S0.firstE ha) (firstC_trans ((firstC_ord.zero trivial trivial).1 (h.first a ha)) ((firstC_ord.zero trivial trivial).1 (S1.firstE (h.lt a ha))))
 ·rintro a b j ⟨ha,rfl⟩ hu hj
  obtain ⟨c,rfl,hc⟩:=(S0.part hg ha).1 hj
  have hu':isU (mdAt l a)=true:=by rw[←S0.at ha|>fun e=>(by rw[e];rfl:isU (mdAt (bothT l k) a)=isU (mdAt l a))];exact hu
  exact ⟨l.length+g j,(S1.part hgk (h.lt a ha)).2 ⟨g j,rfl,(h.part hg ha hu').2 ⟨j,hc,rfl⟩⟩,hc.lt hg,rfl⟩
 ·rintro a b j ⟨ha,rfl⟩ hu hj
  obtain ⟨c,rfl,hc⟩:=(S1.part hgk (h.lt a ha)).1 hj
  have hu':isU (mdAt l a)=true:=by rw[←h.u ha,←S1.at (h.lt a ha)|>fun e=>(by rw[e];rfl:isU (mdAt (bothT l k) (l.length+g a))=isU (mdAt k (g a)))];exact hu
  obtain ⟨d,hd,rfl⟩:=(h.part hg ha hu').1 hc
  exact ⟨d,(S0.part hg ha).2 ⟨d,rfl,hd⟩,hd.lt hg,rfl⟩
 ·rintro a b ⟨ha,rfl⟩ hu
  have hu':isU (mdAt l a)=false:=by rw[←S0.at ha|>fun e=>(by rw[e];rfl:isU (mdAt (bothT l k) a)=isU (mdAt l a))];exact hu
  rw[S0.at ha,S1.at (h.lt a ha),h.elem a ha hu']
  simp
 ·rintro a b i e e' ⟨ha,rfl⟩ hu h1 h2
  have hu':isU (mdAt l a)=false:=by rw[←S0.at ha|>fun e=>(by rw[e];rfl:isU (mdAt (bothT l k) a)=isU (mdAt l a))];exact hu
  rw[S0.at ha] at h1
  rw[S1.at (h.lt a ha),h.elem a ha hu'] at h2
  simp only[List.getElem?_map,List.map_map,Option.map_eq_some_iff] at h1 h2
  obtain ⟨u,u1,rfl⟩:=h1
  obtain ⟨v,v1,rfl⟩:=h2
  rw[u1] at v1
  cases v1
  have:=hg _ (mdAt_mem ha) u (List.mem_of_getElem? u1)
  refine ⟨by simp;omega,?_⟩
  show (((l.length+(((g u.toNat:Nat):Int).toNat):Nat):Int)).toNat=l.length+g ((((u.toNat:Nat):Int)).toNat)
  simp only[Int.toNat_natCast]
theorem Quo.lift {p:Md→Bool} (hp: ∀x,x<l.length→p (mdAt k (g x))=p (mdAt l x)) (hpu: ∀y:Md,isU y=true→p y=true) {x c:Nat} (hx:x<l.length) (hs:stepR k p (g x) c): ∃y,TransGen (stepR l p) x y∧g y=c∧y<l.length:=by
 obtain ⟨m,h1,h2,h3⟩:=hs
 rw[getMd (h.lt x hx)] at h1
 cases h1
 rw[hp x hx] at h2
 cases hu:isU (mdAt l x)
 ·rw[h.elem x hx hu] at h3
  obtain ⟨d,hd,e⟩:=List.mem_map.1 h3
  have:=hg _ (mdAt_mem hx) d hd
  exact ⟨d.toNat,.single ⟨_,getMd hx,h2,by rw[show ((d.toNat:Nat):Int)=d by omega];exact hd⟩,by omega,by omega⟩
 ·obtain ⟨j,hj,e⟩:=(h.elemU x hx hu c).1 h3
  exact ⟨j,TransGen.mono' (fun a b ⟨m,q1,q2,q3⟩=>⟨m,q1,hpu m q2,q3⟩) hj.1,by omega,hj.lt hg⟩
theorem Quo.lifts {p:Md→Bool} (hp: ∀x,x<l.length→p (mdAt k (g x))=p (mdAt l x)) (hpu: ∀y:Md,isU y=true→p y=true) {a c:Nat} (hs:TransGen (stepR k p) a c): ∀{x},x<l.length→g x=a→ ∃y,TransGen (stepR l p) x y∧g y=c∧y<l.length:=by
 induction hs with
 |single h1=>intro x hx e;subst e;exact h.lift hg hp hpu hx h1
 |tail _ h1 ih=>
  intro x hx e
  obtain ⟨y,y1,rfl,y3⟩:=ih hx e
  obtain ⟨z,z1,z2,z3⟩:=h.lift hg hp hpu y3 h1
  exact ⟨z,y1.trans z1,z2,z3⟩
end
theorem no_endless {T:Nat→Nat→Prop} (ht: ∀a b c,T a b→T b c→T a c) (hi: ∀a,¬T a a) (X:Nat→Prop) (n:Nat) (hn: ∀x,X x→x<n) (hs: ∀x,X x→ ∃y,X y∧T x y) (x0:Nat) (h0:X x0):False:=by
 have chain: ∀m:Nat,∃(y:Nat) (xs:List Nat),xs.length=m∧X y∧(∀x∈xs,X x∧T x y)∧xs.Pairwise (fun a b=>T b a):=fun m=>by
  induction m with
  |zero=>exact ⟨x0,[],rfl,h0,by simp,.nil⟩
  |succ m ih=>
   obtain ⟨y,xs,h1,h2,h3,h4⟩:=ih
   obtain ⟨z,z1,z2⟩:=hs y h2
   refine ⟨z,y::xs,by simp[h1],z1,fun x hx=>?_,List.pairwise_cons.2 ⟨fun b hb=>(h3 b hb).2,h4⟩⟩
   rcases List.mem_cons.1 hx with rfl|hx
   ·exact ⟨h2,z2⟩
   ·exact ⟨(h3 x hx).1,ht _ _ _ (h3 x hx).2 z2⟩
 obtain ⟨y,xs,h1,_,h3,h4⟩:=chain (n+1)
 have:=nodup_le n xs (h4.imp fun {a b} hab e=>by subst e;exact hi a hab) fun x hx=>hn x (h3 x hx).1
 omega
section
variable {l k:List Md} {g:Nat→Nat}
theorem Quo.flexP (h:Quo l k g) (hg:goodT l) {b:Nat} (hf:FlexP k b): ∀{x},x<l.length→b=g x→FlexP l x:=by
 induction hf with
 |flex h1 h2 h3=>
  intro x hx e
  subst e
  rw[getMd (h.lt x hx)] at h1
  cases h1
  obtain ⟨q1,_,_,q4,_⟩:=firstC_all (h.first x hx)
  exact .flex (getMd hx) (by unfold rowStruct at h2 ⊢;rw[←q1];exact h2) (by rw[←q4];exact h3)
 |step h1 _ ih=>
  intro x hx e
  subst e
  obtain ⟨m,a1,a2,a3⟩:=h1
  rw[getMd (h.lt x hx)] at a1
  cases a1
  obtain ⟨q1,_⟩:=firstC_all (h.first x hx)
  have hr:rowStruct (mdAt l x)=true:=by unfold rowStruct at a2 ⊢;rw[←q1];exact a2
  have hu:isU (mdAt l x)=false:=by
   unfold rowStruct at hr
   simp only[Bool.or_eq_true,beq_iff_eq] at hr
   simp[isU]
   omega
  rw[h.elem x hx hu] at a3
  obtain ⟨d,hd,e⟩:=List.mem_map.1 a3
  have:=hg _ (mdAt_mem hx) d hd
  exact .step ⟨_,getMd hx,hr,by rw[show ((d.toNat:Nat):Int)=d by omega];exact hd⟩ (ih (by omega) (by omega))
theorem part_step {l:List Md} {x j:Nat} (h:IsPart l x j): ∃(m:Md),m∈l∧isU m=true∧((j:Nat):Int)∈m.elems:=by
 cases h.1 with
 |single h'=>obtain ⟨m,a1,a2,a3⟩:=h';exact ⟨m,List.mem_of_getElem? a1,a2,a3⟩
 |tail _ h'=>obtain ⟨m,a1,a2,a3⟩:=h';exact ⟨m,List.mem_of_getElem? a1,a2,a3⟩
theorem Quo.check (h:Quo l k g) (hc:checkI l=0) (hk:k.length≤512) (h2: ∀x,x<l.length→isU (mdAt l x)=true→2≤(mdAt k (g x)).elems.length∧(mdAt k (g x)).elems.length≤64):checkI k=0:=by
 have hg:=(okT_of hc).good
 have ok:=checkOk_iff.1 hc
 have hcyc: ∀(p:Md→Bool) (hp: ∀x,x<l.length→p (mdAt k (g x))=p (mdAt l x)) (hpu: ∀y:Md,isU y=true→p y=true) (hno: ∀r,r<l.length→ ¬TransGen (stepR l p) r r) (r:Nat),r<k.length→ ¬TransGen (stepR k p) r r:=by
  intro p hp hpu hno r hr ht
  obtain ⟨x,hx,rfl⟩:=h.sur r hr
  refine no_endless (T:=fun a b=>TransGen (stepR l p) a b) (fun a b c h1 h2=>h1.trans h2) (fun a ha=>?_) (fun y=>y<l.length∧g y=g x) l.length (fun y hy=>hy.1) (fun y hy=>?_) x ⟨hx,rfl⟩
  ·have:a<l.length:=by
    cases ha with
    |single h'=>exact (step_lt hg h').1
    |tail _ h'=>exact (step_lt hg h').2
   exact hno a this ha
  ·obtain ⟨z,z1,z2,z3⟩:=h.lifts hg hp hpu ht hy.1 hy.2
   exact ⟨z,⟨z3,z2⟩,z1⟩
 refine checkOk_iff.2 ⟨hk,fun m hm=>?_,?_,fun r hr hb=>?_,fun m hm hf' e he hp=>?_⟩
 ·obtain ⟨n,hn,rfl⟩:=List.mem_iff_getElem.1 hm
  obtain ⟨x,hx,rfl⟩:=h.sur n hn
  rw[←mdAt_eq hn]
  obtain ⟨q1,q2,q3,q4,q5,q6⟩:=firstC_all (h.first x hx)
  have q6:=names_eq q6
  obtain ⟨s1,s2,s3,s4⟩:=oneI_zero (ok.one _ (mdAt_mem hx))
  have hgk:=h.good hg _ (mdAt_mem hn)
  have hsh:shapeI (mdAt k (g x))=0:=by
   unfold shapeI at s1 ⊢
   rw[q1]
   split at s1
   ·simp at s1
   ·rename_i hk1
    rw[if_neg hk1]
    split at s1
    ·rename_i hs1
     have:shaped (mdAt k (g x))∧(mdAt k (g x)).elems.length≤64:=by
      obtain ⟨a1,a2,a3,a4,a5,a6⟩:=hs1
      unfold shaped least most nNames dimsOk sizeOk at*
      rw[q1,q2,q3,q4,q6]
      by_cases hu:(mdAt l x).kind=12
      ·have:=h2 x hx (by simpa[isU] using hu)
       rw[if_neg (by omega),if_pos hu,if_neg (by omega),if_pos (by omega)]
       rw[if_neg (by omega)] at a3
       rw[if_neg (by omega)]
       exact ⟨⟨by omega,by omega,a3,a4,a5,a6⟩,this.2⟩
      ·have hl:=q5 (by omega)
       rw[hl]
       refine ⟨⟨a1,a2,a3,a4,a5,a6⟩,?_⟩
       split at s1
       ·simp at s1
       ·omega
     rw[if_pos this.1,if_neg (by omega)]
    ·simp at s1
  unfold oneI
  rw[hsh,if_neg (by simp),if_neg,if_neg,if_neg]
  ·rw[q6,s4];simp
  ·rw[Bool.not_eq_true,List.any_eq_false]
   intro s hs
   rw[q6] at hs
   simp[s3 s hs]
  ·rw[Bool.not_eq_true,List.any_eq_false]
   intro e he
   have:=hgk e he
   simp[outB]
   omega
 ·rw[List.any_eq_false]
  intro m hm hv
  obtain ⟨n,hn,rfl⟩:=List.mem_iff_getElem.1 hm
  obtain ⟨x,hx,rfl⟩:=h.sur n hn
  rw[←mdAt_eq hn] at hv
  obtain ⟨q1,_⟩:=firstC_all (h.first x hx)
  have hvx:=List.any_eq_false.1 ok.void _ (mdAt_mem hx)
  unfold voidsB at hv hvx
  rw[q1] at hv
  by_cases h12:(mdAt l x).kind=12
  ·rw[if_pos h12] at hv
   cases hv
  ·rw[if_neg h12] at hv hvx
   have hu:isU (mdAt l x)=false:=by simpa[isU] using h12
   have hve: ∀e∈(mdAt l x).elems,voidE k ((g e.toNat:Nat):Int)=voidE l e:=fun e he=>by
    have:=hg _ (mdAt_mem hx) e he
    unfold voidE
    rw[Int.toNat_natCast,getMd (h.lt e.toNat (by omega)),getMd (show e.toNat<l.length by omega)]
    simp only[Option.any_some]
    rw[firstC_kind (h.first e.toNat (by omega))]
   rw[h.elem x hx hu] at hv
   by_cases h13:(mdAt l x).kind=13
   ·rw[if_pos h13,List.any_eq_true] at hv
    rw[if_pos h13] at hvx
    obtain ⟨e,he,hh⟩:=hv
    rw[←List.map_dropLast] at he
    obtain ⟨d,hd,rfl⟩:=List.mem_map.1 he
    exact hvx (List.any_eq_true.2 ⟨d,hd,by rw[←hve d (List.dropLast_subset _ hd)];exact hh⟩)
   ·rw[if_neg h13,List.any_eq_true] at hv
    rw[if_neg h13] at hvx
    obtain ⟨e,he,hh⟩:=hv
    obtain ⟨d,hd,rfl⟩:=List.mem_map.1 he
    exact hvx (List.any_eq_true.2 ⟨d,hd,by rw[←hve d hd];exact hh⟩)
 ·have e1: ∀x,x<l.length→(!yinB (mdAt k (g x)))= !yinB (mdAt l x):=fun x hx=>by unfold yinB;rw[firstC_kind (h.first x hx)]
  have e2: ∀x,x<l.length→(!yangB (mdAt k (g x)))= !yangB (mdAt l x):=fun x hx=>by
   obtain ⟨q1,_,_,_,q5,_⟩:=firstC_all (h.first x hx)
   unfold yangB
   rw[q1]
   by_cases h12:(mdAt l x).kind=12
   ·simp[h12]
   ·rw[q5 (by omega)]
  rcases hb with hb|hb
  ·exact hcyc (fun x=> !yinB x) e1 (fun y hy=>by have e:y.kind=12:=(by simpa[isU] using hy);simp[yinB,e]) (fun r hr ht=>ok.bad r hr (.inl ht)) r hr hb
  ·exact hcyc (fun x=> !yangB x) e2 (fun y hy=>by have e:y.kind=12:=(by simpa[isU] using hy);simp[yangB,e]) (fun r hr ht=>ok.bad r hr (.inr ht)) r hr hb
 ·obtain ⟨n,hn,rfl⟩:=List.mem_iff_getElem.1 hm
  obtain ⟨x,hx,rfl⟩:=h.sur n hn
  rw[←mdAt_eq hn] at hf' he
  have hfx:flexOf (mdAt l x)=true:=by unfold flexOf at hf' ⊢;rw[←firstC_kind (h.first x hx)];exact hf'
  cases hu:isU (mdAt l x)
  ·rw[h.elem x hx hu] at he
   obtain ⟨d,hd,rfl⟩:=List.mem_map.1 he
   have hdl:=hg _ (mdAt_mem hx) d hd
   exact ok.flex _ (mdAt_mem hx) hfx d hd (h.flexP hg hp (by omega) (by simp))
  ·obtain ⟨j,hj,rfl⟩:=(h.elemU x hx hu e).1 he
   obtain ⟨m,m1,m2,m3⟩:=part_step hj
   refine ok.flex m m1 (by have e:m.kind=12:=(by simpa[isU] using m2);simp[flexOf,e]) _ m3 ?_
   rw[Int.toNat_natCast]
   exact h.flexP hg hp (hj.lt hg) (by simp)
end
end Go.Proofs.YtlniliigcnedmaaGreatDoor
namespace Go.Proofs.YtlniliigcnedmaaGreatDoor
open Go Ax
theorem DenseOf.at {n k:Nat} {lt:Nat→Nat→Prop} {ds:List Nat} (h:DenseOf n lt ds k) {a:Nat} (ha:a<n):ds[a]? =some (ds.getD a 0):=by
 have ha':a<ds.length:=by rw[h.len];exact ha
 rw[List.getD_eq_getElem?_getD,List.getElem?_eq_getElem ha',Option.getD_some]
theorem firstOf_at {ds:List Nat} {k i:Nat} (hi:i<ds.length) (h:ds.getD i 0=k) (hn: ∀j,j<i→ds.getD j 0≠k):firstOf ds k=i:=by
 have hat: ∀j,j<ds.length→((ds.map fun z:Nat=>(z:Int))[j]? ==some (k:Int))=decide (ds.getD j 0=k):=fun j hj=>by
  rw[List.getElem?_map,List.getD_eq_getElem?_getD,List.getElem?_eq_getElem hj]
  simp only[Option.map_some,Option.getD_some]
  rw[Bool.eq_iff_iff,beq_iff_eq,decide_eq_true_iff]
  constructor
  ·intro e;have:=Option.some.inj e;omega
  ·intro e;rw[e]
 unfold firstOf
 rw[fidx_at ds.length 0 i (by omega) (by omega) (by rw[hat i hi];simpa using h) fun j _ hj=>by rw[hat j (by omega)];simpa using hn j hj]
 rfl
end Go.Proofs.YtlniliigcnedmaaGreatDoor
namespace Go.Proofs.YtlniliigcnedmaaGreatDoor
open Go Ax
open Relation
set_option maxRecDepth 100000
section
variable {l:List Md} {ds:List Nat} {kd:Nat} (hc:checkI l=0) (hD:DenseOf l.length (fun a b=>RR l a<RR l b) ds kd)
include hD
theorem red_eq {x y:Nat} (hx:x<l.length) (hy:y<l.length):ds.getD x 0=ds.getD y 0↔RR l x=RR l y:=by
 have h1:=hD.lt hx hy
 have h2:=hD.lt hy hx
 omega
theorem red_rep {n:Nat} (hn:n<kd):firstOf ds n<l.length∧ds.getD (firstOf ds n) 0=n:=by
 obtain ⟨a,ha⟩:=hD.surj n hn
 have hal:a<ds.length:=(List.getElem?_eq_some_iff.1 ha).1
 obtain ⟨j,h1,h2,h3,h4⟩:=fidx_spec (p:=fun i=>(ds.map fun z:Nat=>(z:Int))[i]? ==some (n:Int)) ds.length 0 ((fidx_nonneg _ _ _).2 ⟨a,by omega,by omega,by simp[ha]⟩)
 have hf:firstOf ds n=j:=by unfold firstOf;rw[h3];rfl
 have:=hD.len
 rw[hf]
 refine ⟨by omega,?_⟩
 have hj:j<ds.length:=by omega
 rw[List.getElem?_map,List.getElem?_eq_getElem hj] at h4
 simp only[Option.map_some,beq_iff_eq,Option.some.injEq] at h4
 rw[List.getD_eq_getElem?_getD,List.getElem?_eq_getElem hj,Option.getD_some]
 omega
theorem red_lt {x:Nat} (hx:x<l.length):ds.getD x 0<kd:=hD.bound x _ (hD.at hx)
omit hD in
theorem red_md {n:Nat} (hn:n<kd):mdAt (redT l ds kd) n=redOf l ds n:=by
 unfold mdAt redT
 rw[List.getElem?_map,List.getElem?_range hn]
 rfl
theorem red_same {x:Nat} (hx:x<l.length):firstOf ds (ds.getD x 0)<l.length∧RR l (firstOf ds (ds.getD x 0))=RR l x:=by
 obtain ⟨h1,h2⟩:=red_rep hD (red_lt hD hx)
 exact ⟨h1,(red_eq hD h1 hx).1 h2⟩
include hc
omit hc hD in
theorem red_elems {n:Nat} (hn:n<kd):(redOf l ds n).elems=(if isU (mdAt l (firstOf ds n))=true then basesOf l (firstOf ds n) else eN (mdAt l (firstOf ds n))).map fun z=>((ds.getD z 0:Nat):Int):=rfl
theorem red_quo:Quo l (redT l ds kd) (fun x=>ds.getD x 0):=by
 have hg:=(okT_of hc).good
 have hl:=redT_len l ds kd
 refine ⟨fun x hx=>by rw[hl];exact red_lt hD hx,fun n hn=>?_,fun x hx=>?_,fun x hx hu=>?_,fun x hx hu c=>?_⟩
 ·rw[hl] at hn
  exact ⟨firstOf ds n,red_rep hD hn⟩
 ·obtain ⟨hy,he⟩:=red_same hD hx
  have hf:=RR_first hy hx he
  rw[red_md (red_lt hD hx)]
  refine firstC_trans (y:=mdAt l (firstOf ds (ds.getD x 0))) (firstC_of rfl rfl rfl rfl (fun h12=>?_) (cmpS_ord.lex.self (fun _ _=>trivial))) hf
  rw[red_elems (red_lt hD hx),if_neg (by have: ¬(mdAt l (firstOf ds (ds.getD x 0))).kind=12:=h12;simpa[isU] using this),List.length_map,eN_len]
 ·obtain ⟨hy,he⟩:=red_same hD hx
  have huy:isU (mdAt l (firstOf ds (ds.getD x 0)))=false:=by rw[RR_isU hy hx he];exact hu
  show (mdAt (redT l ds kd) (ds.getD x 0)).elems=_
  rw[red_md (red_lt hD hx),red_elems (red_lt hD hx),if_neg (by rw[huy];simp)]
  generalize firstOf ds (ds.getD x 0)=y at*
  obtain ⟨e1,e2⟩:=RR_elem hg hy hx he huy
  refine List.ext_getElem? fun i=>?_
  unfold eN
  rw[List.map_map,List.getElem?_map,List.getElem?_map]
  rcases Nat.lt_or_ge i (mdAt l x).elems.length with hi|hi
  ·have g1:=List.getElem?_eq_getElem hi
   have g2:=List.getElem?_eq_getElem (show i<(mdAt l y).elems.length by omega)
   have r:=e2 i _ _ g2 g1
   have b1:=hg _ (mdAt_mem hx) _ (List.mem_of_getElem? g1)
   have b2:=hg _ (mdAt_mem hy) _ (List.mem_of_getElem? g2)
   rw[g1,g2]
   simp only[Option.map_some,Option.some.injEq,Function.comp_apply]
   rw[(red_eq hD (by omega) (by omega)).2 r]
  ·rw[List.getElem?_eq_none hi,List.getElem?_eq_none (by omega)]
   rfl
 ·obtain ⟨hy,he⟩:=red_same hD hx
  have huy:isU (mdAt l (firstOf ds (ds.getD x 0)))=true:=by rw[RR_isU hy hx he];exact hu
  show c∈(mdAt (redT l ds kd) (ds.getD x 0)).elems↔_
  rw[red_md (red_lt hD hx),red_elems (red_lt hD hx),if_pos huy,List.mem_map]
  generalize firstOf ds (ds.getD x 0)=y at*
  constructor
  ·rintro ⟨z,hz,rfl⟩
   have hzb:=basesOf_sub hg hy hz
   unfold IsBase at hzb
   rw[if_pos huy] at hzb
   obtain ⟨j,hj,hje⟩:=RR_part hg hy hx he huy hzb
   exact ⟨j,hj,by rw[(red_eq hD (hzb.lt hg) (hj.lt hg)).2 hje]⟩
  ·rintro ⟨j,hj,rfl⟩
   obtain ⟨j2,h2,h2e⟩:=RR_part hg hx hy he.symm hu hj
   obtain ⟨z,hz,hze⟩:=basesOf_cov hg hy (show IsBase l y j2 by unfold IsBase;rw[if_pos huy];exact h2)
   exact ⟨z,hz,by rw[(red_eq hD (bases_lt hg hy z hz) (hj.lt hg)).2 (by omega)]⟩
theorem red_check (h60:l.length≤60) (hok: ∀n,n<kd→ ¬badAt l ds n):checkI (redT l ds kd)=0:=by
 have hg:=(okT_of hc).good
 refine (red_quo hc hD).check hc (by rw[redT_len];have:=hD.le;omega) fun x hx hu=>?_
 obtain ⟨hy,he⟩:=red_same hD hx
 have huy:isU (mdAt l (firstOf ds (ds.getD x 0)))=true:=by rw[RR_isU hy hx he];exact hu
 have hb:=hok _ (red_lt hD hx)
 unfold badAt at hb
 have hn:=(basesEx hg hy).length hg hy
 show 2≤(mdAt (redT l ds kd) (ds.getD x 0)).elems.length∧(mdAt (redT l ds kd) (ds.getD x 0)).elems.length≤64
 rw[red_md (red_lt hD hx),red_elems (red_lt hD hx),if_pos huy,List.length_map]
 refine ⟨?_,by omega⟩
 have: ¬(basesOf l (firstOf ds (ds.getD x 0))).length<2:=fun h=>hb ⟨huy,h⟩
 omega
theorem red_mono (hk:checkI (redT l ds kd)=0) {n n':Nat} (hn:n<kd) (hn':n'<kd):RR (redT l ds kd) n<RR (redT l ds kd) n'↔n<n':=by
 obtain ⟨h1,h2⟩:=red_rep hD hn
 obtain ⟨h3,h4⟩:=red_rep hD hn'
 have hg:=(okT_of hc).good
 have e:=((red_quo hc hD).emb hg).rr (okT_of hk).good hg h1 h3
 simp only[h2,h4] at e
 rw[e,←hD.lt h1 h3,h2,h4]
theorem red_ids (hk:checkI (redT l ds kd)=0) {ds':List Nat} {kd':Nat} (hD':DenseOf (redT l ds kd).length (fun a b=>RR (redT l ds kd) a<RR (redT l ds kd) b) ds' kd'):ds'=List.range kd∧kd'=kd:=by
 have hl:=redT_len l ds kd
 have hmono: ∀{a b:Nat},a<kd→b<kd→(ds'.getD a 0<ds'.getD b 0↔a<b):=fun {a b} ha hb=>by
  rw[hD'.lt (by omega) (by omega),red_mono hc hD hk ha hb]
 have key:ds'.map (fun z:Nat=>(z:Int))=(List.range kd').map fun z:Nat=>(z:Int):=by
  refine pw_ext ?_ ?_ fun v=>?_
  ·rw[List.pairwise_map,List.pairwise_iff_getElem]
   intro i j hi hj hij
   have h1:=hD'.len
   have:=(hmono (a:=i) (b:=j) (by omega) (by omega)).2 hij
   rw[List.getD_eq_getElem?_getD,List.getD_eq_getElem?_getD,List.getElem?_eq_getElem hi,List.getElem?_eq_getElem hj] at this
   simp only[Option.getD_some] at this
   omega
  ·rw[List.pairwise_map]
   exact List.pairwise_lt_range.imp fun h=>by omega
  ·rw[List.mem_map,List.mem_map]
   constructor
   ·rintro ⟨w,hw,rfl⟩
    obtain ⟨i,hi⟩:=List.getElem?_of_mem hw
    exact ⟨w,List.mem_range.2 (hD'.bound i w hi),rfl⟩
   ·rintro ⟨w,hw,rfl⟩
    obtain ⟨i,hi⟩:=hD'.surj w (List.mem_range.1 hw)
    exact ⟨w,List.mem_of_getElem? hi,rfl⟩
 have key2:ds'=List.range kd':=by
  have:=congrArg (List.map Int.toNat) key
  simpa[List.map_map,Function.comp_def] using this
 have hk2:kd'=kd:=by
  have h1:=hD'.len
  rw[key2,List.length_range] at h1
  omega
 exact ⟨by rw[key2,hk2],hk2⟩
theorem red_bases (hk:checkI (redT l ds kd)=0) {n:Nat} (hn:n<kd) (hu:isU (mdAt (redT l ds kd) n)=true):basesOf (redT l ds kd) n=(basesOf l (firstOf ds n)).map fun z=>ds.getD z 0:=by
 have hg:=(okT_of hc).good
 have hgk:=(okT_of hk).good
 obtain ⟨h1,h2⟩:=red_rep hD hn
 have Q:=red_quo hc hD
 have huy:isU (mdAt l (firstOf ds n))=true:=by
  have:=Q.u h1
  simp only[h2] at this
  rw[←this];exact hu
 have hp: ∀c,IsPart (redT l ds kd) n c↔c∈(basesOf l (firstOf ds n)).map fun z=>ds.getD z 0:=fun c=>by
  have:=Q.part hg h1 huy (c:=c)
  simp only[h2] at this
  rw[this,List.mem_map]
  constructor
  ·rintro ⟨j,hj,rfl⟩
   obtain ⟨z,hz,hze⟩:=basesOf_cov hg h1 (show IsBase l (firstOf ds n) j by unfold IsBase;rw[if_pos huy];exact hj)
   exact ⟨z,hz,(red_eq hD (bases_lt hg h1 z hz) (hj.lt hg)).2 hze⟩
  ·rintro ⟨z,hz,rfl⟩
   have hzb:=basesOf_sub hg h1 hz
   unfold IsBase at hzb
   rw[if_pos huy] at hzb
   exact ⟨z,hzb,rfl⟩
 have hlt: ∀z∈(basesOf l (firstOf ds n)).map (fun z=>ds.getD z 0),z<kd:=fun z hz=>by
  obtain ⟨w,hw,rfl⟩:=List.mem_map.1 hz
  exact red_lt hD (bases_lt hg h1 w hw)
 have hB:BasesOk (redT l ds kd) n ((basesOf l (firstOf ds n)).map fun z=>ds.getD z 0):=by
  refine ⟨fun _=>⟨_,fun j=>(hp j).symm,?_,fun z hz=>hz,fun y hy=>⟨y,hy,rfl,Nat.le_refl _⟩⟩,fun h=>by rw[hu] at h;cases h⟩
  rw[List.pairwise_map]
  refine List.Pairwise.imp_of_mem (fun {x y} hx hy hxy=>?_) (bases_asc hg h1)
  rw[red_mono hc hD hk (hlt _ (List.mem_map.2 ⟨x,hx,rfl⟩)) (hlt _ (List.mem_map.2 ⟨y,hy,rfl⟩))]
  exact (hD.lt (bases_lt hg h1 x hx) (bases_lt hg h1 y hy)).2 hxy
 exact hB.eq.symm
omit hc hD in
theorem firstOf_range {kd n:Nat} (hn:n<kd):firstOf (List.range kd) n=n:=by
 have hr: ∀j,j<kd→(List.range kd).getD j 0=j:=fun j hj=>by rw[List.getD_eq_getElem?_getD,List.getElem?_range hj];rfl
 exact firstOf_at (by simpa using hn) (hr n hn) fun j hj=>by rw[hr j (by omega)];omega
theorem red_again (hk:checkI (redT l ds kd)=0) (hok: ∀n,n<kd→ ¬badAt l ds n):redT (redT l ds kd) (List.range kd) kd=redT l ds kd∧ ∀n,n<kd→ ¬badAt (redT l ds kd) (List.range kd) n:=by
 have hg:=(okT_of hc).good
 have hgk:=(okT_of hk).good
 have hl:=redT_len l ds kd
 have hr: ∀j,j<kd→(List.range kd).getD j 0=j:=fun j hj=>by rw[List.getD_eq_getElem?_getD,List.getElem?_range hj];rfl
 refine ⟨?_,fun n hn hb=>?_⟩
 ·refine List.ext_getElem (by rw[redT_len,hl]) fun n h1 h2=>?_
  rw[hl] at h2
  have hm:(redT l ds kd)[n]'(by omega)=mdAt (redT l ds kd) n:=(mdAt_eq (by omega)).symm
  have hm':(redT (redT l ds kd) (List.range kd) kd)[n]=redOf (redT l ds kd) (List.range kd) n:=by simp[redT]
  rw[hm,hm']
  unfold redOf
  rw[firstOf_range h2]
  have hel:((if isU (mdAt (redT l ds kd) n)=true then basesOf (redT l ds kd) n else eN (mdAt (redT l ds kd) n)).map fun z=>(((List.range kd).getD z 0:Nat):Int))=(mdAt (redT l ds kd) n).elems:=by
   have hid: ∀zs:List Nat,(∀z∈zs,z<kd)→(zs.map fun z=>(((List.range kd).getD z 0:Nat):Int))=zs.map fun z:Nat=>(z:Int):=fun zs hz=>List.map_congr_left fun z hz'=>by rw[hr z (hz z hz')]
   split
   ·rename_i hu
    rw[hid _ fun z hz=>by have:=bases_lt hgk (show n<(redT l ds kd).length by omega) z hz;omega,red_bases hc hD hk h2 hu]
    obtain ⟨h3,h4⟩:=red_rep hD h2
    have huy:isU (mdAt l (firstOf ds n))=true:=by
     have:=(red_quo hc hD).u h3
     simp only[h4] at this
     rw[←this];exact hu
    rw[red_md h2,red_elems h2,if_pos huy,List.map_map]
    rfl
   ·rw[hid _ fun z hz=>by have:=eN_lt hgk (show n<(redT l ds kd).length by omega) hz;omega]
    unfold eN
    rw[List.map_map]
    conv=>rhs;rw[←List.map_id (mdAt (redT l ds kd) n).elems]
    refine List.map_congr_left fun e he=>?_
    have:=hgk _ (mdAt_mem (show n<(redT l ds kd).length by omega)) e he
    show ((e.toNat:Nat):Int)=e
    omega
  rw[hel]
 ·unfold badAt at hb
  rw[firstOf_range hn] at hb
  obtain ⟨hu,hlen⟩:=hb
  rw[red_bases hc hD hk hn hu,List.length_map] at hlen
  obtain ⟨h3,h4⟩:=red_rep hD hn
  have huy:isU (mdAt l (firstOf ds n))=true:=by
   have:=(red_quo hc hD).u h3
   simp only[h4] at this
   rw[←this];exact hu
  exact hok n hn ⟨huy,hlen⟩
end
end Go.Proofs.YtlniliigcnedmaaGreatDoor
namespace Go.Proofs.YtlniliigcnedmaaGreatDoor
open Go Ax
set_option maxRecDepth 100000
open Classical in
noncomputable def acrE (l:List Md) (a:Int) (k:List Md) (b:Int):Int:=
 if checkI l≠0 then checkI l else if checkI k≠0 then checkI k else if (0≤a∧a<l.length)∧0≤b∧b<k.length then 0 else 11
noncomputable def acrV (l:List Md) (a:Int) (k:List Md) (b:Int):AVal:= .tuple [.bool (decide (acrE l a k b=0∧RR (bothT l k) a.toNat=RR (bothT l k) (l.length+b.toNat))),.int .i64 (acrE l a k b)]
theorem acrV_bad {l k:List Md} {a b:Int} (h:acrE l a k b≠0):acrV l a k b= .tuple [.bool false,.int .i64 (acrE l a k b)]:=by simp[acrV,h]
theorem acrV_ok {l k:List Md} {a b:Nat} (hl:checkI l=0) (hk:checkI k=0) (ha:a<l.length) (hb:b<k.length):acrV l a k b= .tuple [.bool (decide (RR (bothT l k) a=RR (bothT l k) (l.length+b))),.int .i64 0]:=by
 have h:acrE l a k b=0:=by
  unfold acrE
  rw[if_neg (by simpa using hl),if_neg (by simpa using hk),if_pos (by omega)]
 simp[acrV,h]
set_option maxHeartbeats 2000000 in
theorem k31g (s t:AVal) (l k:List Md) (a b:Int) (m:AMem) (hs:RTab m s l) (ht:RTab m t k) (hsl: ∀x∈l,smallN x) (hsk: ∀x∈k,smallN x) (hk40: ∀x∈k,x.elems.length<2^40∧x.names.length<2^40)
  (hTl:T13 l) (hTk:T13 k):
  ACalls Tryz.prog 31 [s,.int .i64 a,t,.int .i64 b] m fun v m'=>m<+:m'∧v=acrV l a k b:=by
 have hll:=hTl.len
 have hkl:=hTk.len
 by_cases hcl:checkI l=0
 rotate_left
 ·have hE:acrE l a k b=checkI l:=by unfold acrE;rw[if_pos hcl]
  rw[acrV_bad (by rw[hE];exact hcl),hE]
  refine w31 ?_
  simp
  refine C_of (k52 s l m hs hsl (by omega)) ?_
  rintro _ m1 ⟨rfl,hm1⟩
  simp[bneT hcl]
  exact hm1
 by_cases hck:checkI k=0
 rotate_left
 ·have hE:acrE l a k b=checkI k:=by unfold acrE;rw[if_neg (by simpa using hcl),if_pos hck]
  rw[acrV_bad (by rw[hE];exact hck),hE]
  refine w31 ?_
  simp
  refine C_of (k52 s l m hs hsl (by omega)) ?_
  rintro _ m1 ⟨rfl,hm1⟩
  simp[hcl]
  refine C_of (k52 t k m1 (ht.mono hm1) hsk (by omega)) ?_
  rintro _ m2 ⟨rfl,hm2⟩
  simp[bneT hck]
  exact hm1.trans hm2
 by_cases hab:(0≤a∧a<l.length)∧0≤b∧b<k.length
 ·obtain ⟨a,rfl⟩: ∃a':Nat,a=a':=⟨a.toNat,by omega⟩
  obtain ⟨b,rfl⟩: ∃b':Nat,b=b':=⟨b.toNat,by omega⟩
  have ha:a<l.length:=by omega
  have hb:b<k.length:=by omega
  rw[acrV_ok hcl hck ha hb]
  have gl:=(okT_of hcl).good
  have gk:=(okT_of hck).good
  exact k31 s t l k a b m hs ht hsl hsk hk40 hcl hck ha hb hll hkl (bothT60 hTl hTk gl gk) (bothGood gl gk)
 ·have hE:acrE l a k b=11:=by unfold acrE;rw[if_neg (by simpa using hcl),if_neg (by simpa using hck),if_neg hab]
  rw[acrV_bad (by rw[hE];decide),hE]
  refine w31 ?_
  simp
  refine C_of (k52 s l m hs hsl (by omega)) ?_
  rintro _ m1 ⟨rfl,hm1⟩
  simp[hcl]
  refine C_of (k52 t k m1 (ht.mono hm1) hsk (by omega)) ?_
  rintro _ m2 ⟨rfl,hm2⟩
  simp[hck]
  have hm02:=hm1.trans hm2
  refine C_of (k64 s l a m2 (hs.mono hm02)) ?_
  rintro _ m2 ⟨rfl,rfl⟩
  cases h1:(decide (0≤a)&&decide (a<l.length))
  ·simp
   exact hm02
  ·simp
   refine C_of (k64 t k b m2 (ht.mono hm02)) ?_
   rintro _ m2 ⟨rfl,rfl⟩
   have h2:(decide (0≤b)&&decide (b<k.length))=false:=by
    rw[Bool.and_eq_true,decide_eq_true_iff,decide_eq_true_iff] at h1
    rw[Bool.and_eq_false_iff,decide_eq_false_iff_not,decide_eq_false_iff_not]
    omega
   simp[h2]
   exact hm02
end Go.Proofs.YtlniliigcnedmaaGreatDoor
namespace Go.Proofs.YtlniliigcnedmaaGreatDoor
open Go Ax Go.ChangeShapes Go.WideShapes Go.ChangeAt Go.RowKit
set_option maxRecDepth 100000
theorem fits_of10 {l:List Md} (hb: ∀md∈l,MdB reachBytes md) (h:(decide ((l.length:Int)≤10)&&l.all fun x=>decide (x.elems.length≤6)&&decide (x.names.length≤6))=true):Fits l∧l.length≤10:=by
 rw[Bool.and_eq_true,decide_eq_true_iff] at h
 exact ⟨fits_of hb (by rw[Bool.and_eq_true,decide_eq_true_iff];exact ⟨by omega,h.2⟩),by omega⟩
end Go.Proofs.YtlniliigcnedmaaGreatDoor
namespace Go.Proofs.YtlniliigcnedmaaGreatDoor
open Go Ax
set_option maxRecDepth 100000
structure RedS (l:List Md) (m0:AMem) (s vr:AVal) (ds:List Nat) (kd:Nat):Prop where
 tab:RTab m0 s l
 rk:RInts m0 vr ((Rl l (l.length+1)).map fun z:Nat=>(z:Int))
 den:DenseOf l.length (fun a b=>RR l a<RR l b) ds kd
end Go.Proofs.YtlniliigcnedmaaGreatDoor
namespace Go.Proofs.YtlniliigcnedmaaGreatDoor
open Go Ax Go.ChangeShapes Go.WideShapes Go.ChangeAt Go.RowKit
set_option maxRecDepth 100000
theorem red_small {l:List Md} (hc:checkI l=0) (hl:l.length≤60) (hsz: ∀x∈l,smallN x) {ds:List Nat} {kd:Nat} (hD:DenseOf l.length (fun a b=>RR l a<RR l b) ds kd): ∀x∈redT l ds kd,smallN x:=by
 intro x hx
 have ok:=okT_of hc
 obtain ⟨k,hk,rfl⟩:=List.mem_map.1 hx
 have hk:=List.mem_range.1 hk
 have hf:firstOf ds k<l.length:=by
  obtain ⟨a,ha⟩:=hD.surj k hk
  have hal:a<ds.length:=(List.getElem?_eq_some_iff.1 ha).1
  have hav:ds.getD a 0=k:=by rw[List.getD_eq_getElem?_getD,ha];rfl
  unfold firstOf
  obtain ⟨j,h1,h2,h3,_⟩:=fidx_spec (p:=fun i=>(ds.map fun z:Nat=>(z:Int))[i]? ==some (k:Int)) ds.length 0 ((fidx_nonneg _ _ _).2 ⟨a,by omega,by omega,by simp[ha]⟩)
  rw[h3]
  have:=hD.len
  simp
  omega
 have hm:=hsz _ (mdAt_mem hf)
 have h64:=ok.h64 _ (mdAt_mem hf)
 have hb:=(basesEx ok.good hf).length ok.good hf
 refine ⟨?_,hm.2.1,hm.2.2⟩
 show (List.map _ _).length<_
 rw[List.length_map]
 split
 ·omega
 ·rw[eN_len];omega
end Go.Proofs.YtlniliigcnedmaaGreatDoor
namespace Go.Proofs.YtlniliigcnedmaaGreatDoor
open Go Ax Go.ChangeShapes Go.WideShapes Go.ChangeAt Go.RowKit
set_option maxRecDepth 100000
theorem k37 (s t:AVal) (k:List Md) (ds:List Int) (x:Nat) (b c:Nat) (m:AMem) (hs:RTab m s k) (ht:RInts m t ds) (hb:readB m b=some [s]) (hc:readB m c=some [t]) (hx:x<k.length) (hd:x<ds.length) (he:ds[x]=(x:Int)):
  ACalls Tryz.prog 37 [.int .i64 x,.ptr b 0,.ptr c 0] m fun v m'=>v= .bool false∧m'=m:=by
 refine w37 ?_
 obtain ⟨b',o',p1,p2⟩:=ht.at (i:=x) hd
 rw[he] at p2
 have h1: ¬(x:Int)<0:=by omega
 have h2: ¬k.length≤x:=by omega
 simp[h1,h2,bx hb,bx hc,hs.len,hx,p1,p2]
set_option maxHeartbeats 8000000 in
theorem k11:LawT1 11:=by
 intro m s l hs hb
 refine w11 ?_
 simp
 refine C_of (k13 m) ?_
 rintro _ m1 ⟨rfl,hm1⟩
 simp
 refine C_of (k14 s l 10 m1 (hs.mono hm1) (by omega)) ?_
 rintro _ m2 ⟨rfl,hm2⟩
 have hm02:=hm1.trans hm2
 cases hsm:(decide ((l.length:Int)≤10)&&l.all fun x=>decide (x.elems.length≤6)&&decide (x.names.length≤6))
 ·simp
 obtain ⟨hf,hl10⟩:=fits_of10 hb hsm
 simp
 refine C_of (k21 s .nilslice l [] m2 (hs.mono hm02) Sl.nil hf.sm (by omega) (by simp)) ?_
 rintro _ m3 ⟨rfl,hm3⟩
 have hm03:=hm02.trans hm3
 have hr0:rightI l []=checkI l:=by unfold rightI;split<;>simp_all
 rw[hr0]
 by_cases hc:checkI l=0
 rotate_left
 ·simp[hc]
 simp[hc]
 have ok:=okT_of hc
 refine C_of (k28f s l m3 (hs.mono hm03) hf.sm (fun x hx=>(hf.h40 x hx).2) (T13.of hf.n) hc) ?_
 rintro v4 m4 ⟨hm4,ds,kd,hD,h4⟩
 rcases h4 with ⟨t,n,rfl,hn,ht,hok⟩|⟨rfl,kb,hkb,hbad⟩
 rotate_left
 ·simp
  rw[store_new1 _ _ _ _ _ rfl rfl]
  have hb5:=readB_new m4 [AVal.nilslice] 22 none
  simp[bx hb5]
 have hs1:=ht.tab.self
 have hnl:=hn.len
 rw[hD.len] at hnl
 simp
 rw[store_new1 _ _ t _ _ hs1.2 hs1.1]
 have hb5:(m4++ [ABlk.own [t] 22 none])[m4.length]? =some (.own [t] 22 none):=by simp
 have hm5:m4<+:m4++ [ABlk.own [t] 22 none]:=List.prefix_append _ _
 generalize m4++ [ABlk.own [t] 22 none]=m5 at*
 generalize m4.length=b5 at*
 have hkle:=hD.le
 have hkl:=redT_len l ds kd
 have hrs:=red_small hc (by omega) hf.sm hD
 have hkc:=red_check hc hD (by omega) hok
 have hTk:=T13.of (l:=redT l ds kd) (by omega)
 have hk40: ∀x∈redT l ds kd,x.elems.length<2^40∧x.names.length<2^40:=fun x hx=>by
  refine ⟨by have:=(okT_of hkc).h64 x hx;omega,?_⟩
  obtain ⟨j,hj,rfl⟩:=List.mem_map.1 hx
  exact (hf.h40 _ (mdAt_mem (red_rep hD (List.mem_range.1 hj)).1)).2
 have hQ:=red_quo hc hD
 have hm45:=hm4.trans hm5
 have hm05:=hm03.trans hm45
 have htT:=ht.tab
 have hnI:=ints_of_nat hn
 have hrk:rightI (redT l ds kd) []=0:=by unfold rightI;simp[hkc]
 have hmono:=fun {a b:Nat} (ha:a<kd) (hb:b<kd)=>red_mono hc hD hkc ha hb
 have hagain:=red_again hc hD hkc hok
 have hids:=fun {ds':List Nat} {kd':Nat} (h:DenseOf (redT l ds kd).length (fun a b=>RR (redT l ds kd) a<RR (redT l ds kd) b) ds' kd')=>red_ids hc hD hkc h
 have hbnd:=fun {x:Nat} (hx:x<l.length)=>red_lt hD hx
 have hdl:=hD.len
 generalize redT l ds kd=k at*
 simp[bx (own_read hb5)]
 refine C_of (k21 t .nilslice k [] m5 (htT.mono hm5) Sl.nil hrs (by omega) (by simp)) ?_
 rintro _ m6 ⟨rfl,hm6⟩
 have hm56:m4<+:m6:=hm5.trans hm6
 have hm06:=hm05.trans hm6
 have hb6:=own_mono hb5 hm6
 simp[hrk,hnl,hs.len]
 obtain ⟨J,hJ⟩: ∃J:AFrame→AMem→Prop,∀f m',J f m'↔(f.forget [3]=mat 106 [(3,.ptr b5 0)]∧m6<+:m'):=⟨_,fun _ _=>Iff.rfl⟩
 refine W_JB J ?_ ?_
 ·obtain ⟨I,hI⟩: ∃I:Nat→AFrame→AMem→Prop,∀q f m',I q f m'↔(∃(i:Nat),i+q=l.length∧f=h11_0 s (.ptr b5 0) n (.int .i64 l.length) (.int .i64 i)∧m6<+:m'):=⟨_,fun _ _ _=>Iff.rfl⟩
  refine W_loop I l.length ((hI _ _ _).2 ⟨0,by simp,by simp,List.prefix_refl _⟩) ?_
  rintro q f m7 hIn
  obtain ⟨i,hq,rfl,hm67⟩:=(hI _ _ _).1 hIn
  clear hIn
  simp
  refine bbind_dec (fun hil=>?_) fun hil=>?_
  rotate_left
  ·simp
   exact (hJ _ _).2 ⟨by simp,hm67⟩
  have hil:i<l.length:=by omega
  have hw:=step64 (k:=i) (n:=l.length) hil (by omega)
  have hm07:=hm06.trans hm67
  have hm47:=hm56.trans hm67
  have hb7:=own_mono hb6 hm67
  obtain ⟨bn,on,p1,p2⟩:=(hnI.mono hm47).at (i:=i) (by simp;omega)
  have hdi:(ds.map fun z:Nat=>(z:Int))[i]'(by simp;omega)=((ds.getD i 0:Nat):Int):=by
   rw[List.getElem_map,List.getD_eq_getElem?_getD,List.getElem?_eq_getElem (by omega),Option.getD_some]
  rw[hdi] at p2
  have hdlt:=hbnd hil
  have hacr:=hQ.across (okT_of hc).good hil
  generalize ds.getD i 0=d at*
  simp
  refine W_draw (fun _ _ _=>True) (by simp[maxDst]) ?_
  refine D_pc 0 7 [7,8,9,10,11,12] ?_
  simp[bx (own_read hb7),p1,p2]
  intro fs' _
  refine D_X rfl rfl fun m8 hm8 _=>?_
  simp
  refine C_of (k31g s t l k i d m8 (hs.mono (hm07.trans hm8)) (htT.mono (hm47.trans hm8)) hf.sm hrs hk40 (T13.of hf.n) hTk) ?_
  rintro _ m9 ⟨hm9,rfl⟩
  rw[acrV_ok hc hkc hil (by omega),decide_eq_true hacr]
  refine ⟨by simp[lateOf],?_⟩
  refine D_pc 8 5 [] (hfs:=fun _ _=>trivial) ?_
  simp
  intro _ _
  refine D_end fun m10 hm10 _=>?_
  simp[hw]
  exact ⟨q-1,by omega,(hI _ _ _).2 ⟨i+1,by omega,by simp,hm67.trans (hm8.trans (hm9.trans hm10))⟩⟩
 intro f m7 hJ1
 obtain ⟨hf7,hm67⟩:=(hJ _ _).1 hJ1
 clear hJ1 hJ J
 have hm47:=hm56.trans hm67
 have hb7:=own_mono hb6 hm67
 clear hm6 hm56 hm67 hb6 hm06 hm5 hm45 hm05 hb5
 simp[hf7]
 obtain ⟨J,hJ⟩: ∃J:AFrame→AMem→Prop,∀f m',J f m'↔(f.forget [3]=mat 106 [(3,.ptr b5 0)]∧m7<+:m'):=⟨_,fun _ _=>Iff.rfl⟩
 refine W_JB J ?_ ?_
 ·obtain ⟨I,hI⟩: ∃I:Nat→AFrame→AMem→Prop,∀q f m',I q f m'↔(∃(i:Nat),i+q=kd+1∧1≤i∧f=h11_1 (.ptr b5 0) (.int .i64 i)∧m7<+:m'):=⟨_,fun _ _ _=>Iff.rfl⟩
  refine W_loop I kd ((hI _ _ _).2 ⟨1,by omega,by omega,by simp,List.prefix_refl _⟩) ?_
  rintro q f m8 hIn
  obtain ⟨i,hq,hi1,rfl,hm78⟩:=(hI _ _ _).1 hIn
  clear hIn
  have hb8:=own_mono hb7 hm78
  have hm48:=hm47.trans hm78
  simp[bx (own_read hb8),htT.len,hkl]
  refine bbind_dec (fun hil=>?_) fun hil=>?_
  rotate_left
  ·simp
   exact (hJ _ _).2 ⟨by simp,hm78⟩
  have hil:i<kd:=by omega
  have hw:=step64 (k:=i) (n:=kd) hil (by omega)
  have hw1:IntKind.i64.wrap ((i:Int)-1)=((i-1:Nat):Int):=by rw[wrap64 (by omega) (by omega)];omega
  have hlt:=(hmono (a:=i-1) (b:=i) (by omega) hil).2 (by omega)
  have hord:ordI k (i-1) i= -1:=by unfold ordI;rw[if_neg (by omega),if_pos hlt]
  have hcall:=k22 t k (i-1) i m8 (htT.mono hm48) hrs hTk hkc (by omega) (by omega)
  rw[hord] at hcall
  generalize i-1=i1 at*
  simp[bx (own_read hb8),hw1]
  refine C_of hcall ?_
  rintro _ m9 ⟨rfl,hm9⟩
  simp[hw]
  exact ⟨q-1,by omega,(hI _ _ _).2 ⟨i+1,by omega,by omega,by simp,hm78.trans hm9⟩⟩
 intro f m8 hJ1
 obtain ⟨hf8,hm78⟩:=(hJ _ _).1 hJ1
 clear hJ1 hJ J
 have hm48:=hm47.trans hm78
 have hb8:=own_mono hb7 hm78
 simp[hf8,bx (own_read hb8)]
 refine C_of (k28f t k m8 (htT.mono hm48) hrs (fun x hx=>(hk40 x hx).2) hTk hkc) ?_
 rintro v9 m9 ⟨hm9,ds2,kd2,hD2,h9⟩
 obtain ⟨rfl,rfl⟩:=hids hD2
 rcases h9 with ⟨t2,n2,rfl,hn2,ht2,hok2⟩|⟨rfl,kb,hkb,hbad⟩
 rotate_left
 ·exact absurd hbad (hagain.2 kb hkb)
 rw[hagain.1] at ht2
 have hs2:=(ints_of_nat hn2).self
 simp
 rw[store_new1 _ _ n2 _ _ hs2.2 hs2.1]
 have hb10:=readB_new m9 [n2] 36 none
 have hm10:m9<+:m9++ [ABlk.own [n2] 36 none]:=List.prefix_append _ _
 generalize m9++ [ABlk.own [n2] 36 none]=m10 at*
 generalize m9.length=b10 at*
 have hm810:=hm9.trans hm10
 have hb810:=own_mono hb8 hm810
 simp[bx (own_read hb810)]
 refine C_of (k30 t2 t k m10 (ht2.tab.mono hm10) (htT.mono (hm48.trans hm810)) hrs (by omega)) ?_
 rintro _ m11 ⟨rfl,hm11⟩
 have hb10':=readB_mono hm11 hb10
 simp[bx hb10']
 have hI2:=ints_of_nat hn2
 refine C_of (k36 n2 ((List.range kd2).map fun z:Nat=>(z:Int)) (fun _=>false) m11 (hI2.mono (hm10.trans hm11)) (by simp;omega) 37 [] [.ptr b5 0,.ptr b10 0] ?_) ?_
 ·intro x hx m12 hm12
  obtain ⟨j,hj,rfl⟩:=List.mem_map.1 hx
  have hj:=List.mem_range.1 hj
  refine (k37 t n2 k _ j b5 b10 m12 (htT.mono (hm48.trans (hm810.trans (hm11.trans hm12)))) (hI2.mono (hm10.trans (hm11.trans hm12))) (readB_mono (hm11.trans hm12) (own_read hb810)) (readB_mono hm12 hb10') (by omega) (by simpa using hj) (by simp)).mono ?_
  rintro _ _ ⟨rfl,rfl⟩
  exact ⟨rfl,List.prefix_refl _⟩
 rintro _ m12 ⟨rfl,hm12⟩
 simp
end Go.Proofs.YtlniliigcnedmaaGreatDoor
namespace Go.Proofs.YtlniliigcnedmaaGreatDoor
open Go Ax Go.ChangeShapes Go.WideShapes Go.ChangeAt Go.RowKit
set_option maxRecDepth 100000
end Go.Proofs.YtlniliigcnedmaaGreatDoor
