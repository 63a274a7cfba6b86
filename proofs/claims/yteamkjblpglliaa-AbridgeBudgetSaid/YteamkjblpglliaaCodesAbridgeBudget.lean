import Derived.Test.YteamkjblpglliaaHl4
import Derived.Test.YteamkjblpglliaaProg
namespace Go.Proofs.Yteamkjblpglliaa
open Go.HL
set_option maxRecDepth 100000
set_option linter.unusedVariables false
abbrev qm (d z i : Nat) : az := ⟨some d, .mv z (.t i), none⟩
abbrev ql (d i : Nat) : az := ⟨some d, .load false 1 (.t i), none⟩
abbrev qf (d o i : Nat) : az := ⟨some d, .faddr o (.t i), none⟩
abbrev qi (d x i : Nat) : az := ⟨some d, .iaddr 1 (.t x) (.t i), none⟩
abbrev qe (d x i : Nat) : az := ⟨some d, .ext (.t x) i, none⟩
abbrev qn (n : Int) : HX := .c (.int .i64 n)
abbrev qo (d : Nat) (op : HOp HX) : az := ⟨some d, op, none⟩
abbrev qg (d : Nat) (op : HOp HX) (j : Nat) (b : Bool) : az := ⟨some d, op, some (j, b)⟩
def JG : HCode := .seq (.region none (qm 74 0 8::qo 75 (.bin .eql (.t 74) (qn 0))::qm 76 0 75::qg 77 (.mv 0 (.t 10)) 2 true::qg 78 (.bin .eql (.t 77) (qn 0)) 2 true::qo 79 (.pick (.t 76) (.t 78) (.c (.bool false)))::qm 80 0 79::qg 81 (.mv 0 (.t 13)) 6 true::qg 82 (.bin .eql (.t 81) (qn 0)) 6 true::qo 83 (.pick (.t 80) (.t 82) (.c (.bool false)))::qm 84 0 83::qg 85 (.mv 0 (.t 16)) 10 true::qg 86 (.bin .eql (.t 85) (qn 0)) 10 true::qo 87 (.pick (.t 84) (.t 86) (.c (.bool false)))::qm 88 0 87::qg 89 (.faddr 7 (.t 7)) 14 true::qg 90 (.load false 1 (.t 89)) 14 true::qo 91 (.pick (.t 88) (.t 90) (.c (.bool false)))::qm 92 0 91::qg 93 (.faddr 7 (.t 9)) 18 true::qg 94 (.load false 1 (.t 93)) 18 true::qo 95 (.pick (.t 92) (.t 94) (.c (.bool false)))::qm 96 0 95::qg 97 (.faddr 1 (.t 9)) 22 true::qg 98 (.load false 1 (.t 97)) 22 true::qg 99 (.faddr 1 (.t 7)) 22 true::qg 100 (.load false 1 (.t 99)) 22 true::qg 101 (.bin .geq (.t 98) (.t 100)) 22 true::qo 102 (.pick (.t 96) (.t 101) (.c (.bool false)))::qm 103 0 102::qg 104 (.faddr 7 (.t 12)) 29 true::qg 105 (.load false 1 (.t 104)) 29 true::qo 106 (.pick (.t 103) (.t 105) (.c (.bool false)))::qm 107 0 106::qg 108 (.faddr 1 (.t 12)) 33 true::qg 109 (.load false 1 (.t 108)) 33 true::qg 110 (.mv 0 (.t 17)) 33 true::qg 111 (.bin .eql (.t 109) (.t 110)) 33 true::qo 112 (.pick (.t 107) (.t 111) (.c (.bool false)))::qm 113 0 112::qg 114 (.mv 0 (.t 14)) 39 true::qg 115 (.mv 0 (.t 17)) 39 true::qg 116 (.bin .eql (.t 114) (.t 115)) 39 true::qo 117 (.pick (.t 113) (.t 116) (.c (.bool false)))::qm 118 0 117::qg 119 (.call 18 []) 44 true::qo 120 (.pick (.t 118) (.t 119) (.c (.bool false)))::qm 4 0 120::[])) (.ret)
def JU : HCode := .seq (.region (some [0, 1, 0, 4, 12, 0, 32, 96, 224, 480, 1020, 2047, 4095]) (qf 62 0 5::ql 63 62::qf 64 0 5::ql 65 64::qo 66 (.len (.t 65))::qf 67 0 5::ql 68 67::qo 69 (.len (.t 68))::qo 70 (.bin .shl (qn 1) (.t 69))::qo 71 (.bin .sub (.t 70) (qn 1))::qo 72 (.call 24 [.t 66, .t 71])::qo 73 (.call 22 [.t 63, .t 72])::qm 17 0 73::[])) (JG)
def Js : HCode := .seq (.region none (qo 57 (.load true 4 (.t 11))::qo 58 (.call 11 [.t 57, (qn 0), (qn 1)])::qm 56 0 58::qe 59 56 0::qe 60 56 1::qe 61 56 2::qm 14 0 59::qm 15 1 60::qm 16 0 61::[])) (JU)
def Jg : HCode := .seq (.region none (qo 52 (.load true 4 (.t 11))::qo 53 (.call 19 [.t 52, (qn 0)])::qm 51 0 53::qe 54 51 0::qe 55 51 1::qo 12 (.newz [.nils, .int .i64 0, .int .i64 0, .int .i64 0, .int .i64 0, .nils, .int .i64 0, .bool false])::⟨none, .store false 8 (.t 12) (.t 54), none⟩::qm 13 0 55::[])) (Js)
def J0 : HCode := .seq (.region (some [0, 1, 0, 4, 12, 0, 32, 96, 224, 480, 1020, 2047, 4095, 8191]) (qf 38 1 5::ql 39 38::qf 40 1 5::ql 41 40::qo 42 (.len (.t 41))::qf 43 1 5::ql 44 43::qo 45 (.len (.t 44))::qo 46 (.bin .shl (qn 1) (.t 45))::qo 47 (.bin .sub (.t 46) (qn 1))::qo 48 (.call 24 [.t 42, .t 47])::qo 49 (.call 22 [.t 39, .t 48])::qf 50 3 11::⟨none, .store true 1 (.t 50) (.t 49), none⟩::[])) (Jg)
def Kk : HCode := .seq (.region none (qo 37 (.load true 4 (.t 5))::qo 11 (.newz [.nils, .nils, .nils, .int .i64 0])::⟨none, .store false 4 (.t 11) (.t 37), none⟩::[])) (J0)
def Jx : HCode := .seq (.region none (qo 33 (.load true 4 (.t 6))::qo 34 (.call 19 [.t 33, (qn 1024)])::qm 32 0 34::qe 35 32 0::qe 36 32 1::qo 9 (.newz [.nils, .int .i64 0, .int .i64 0, .int .i64 0, .int .i64 0, .nils, .int .i64 0, .bool false])::⟨none, .store false 8 (.t 9) (.t 35), none⟩::qm 10 0 36::[])) (Kk)
def JI : HCode := .seq (.region none (qo 28 (.load true 4 (.t 5))::qo 29 (.call 19 [.t 28, (qn 1024)])::qm 27 0 29::qe 30 27 0::qe 31 27 1::qo 7 (.newz [.nils, .int .i64 0, .int .i64 0, .int .i64 0, .int .i64 0, .nils, .int .i64 0, .bool false])::⟨none, .store false 8 (.t 7) (.t 30), none⟩::qm 8 0 31::[])) (Jx)
def JW : HCode := .seq (.region (some [0, 1, 0, 4, 15, 31, 63]) (qf 21 3 5::ql 22 21::qm 23 0 1::qo 24 (.call 10 [.t 23, (qn 30)])::qo 25 (.bin .add (.t 22) (.t 24))::qf 26 3 6::⟨none, .store true 1 (.t 26) (.t 25), none⟩::[])) (JI)
def HO : HCode := .seq (.region none (qo 20 (.load true 4 (.t 5))::qo 6 (.newz [.nils, .nils, .nils, .int .i64 0])::⟨none, .store false 4 (.t 6) (.t 20), none⟩::[])) (JW)
def GK : HCode := .seq (.region none (qm 18 1 0::qo 19 (.call 9 [.t 18])::qo 5 (.newz [.nils, .nils, .nils, .int .i64 0])::⟨none, .store false 4 (.t 5) (.t 19), none⟩::[])) (HO)
def c8 : HCode := .seq (.region none (qo 4 (.mv 0 (.c (.bool false)))::[])) (GK)
theorem Ld : aY Try.prog 8 = some (c8, [4], 121) := by kernel_rfl
end Go.Proofs.Yteamkjblpglliaa
