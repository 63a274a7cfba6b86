import Derived.Test.YteamkjblpglliaaHl4
import Derived.Test.YteamkjblpglliaaProg
namespace Go.Proofs.Yteamkjblpglliaa
open Go.HL
set_option maxRecDepth 100000
set_option linter.unusedVariables false
def aeX:HCode:=.seq (.region none (qo 14 (.mv 0 (.c (.bool false)))::[])) .ret
def aeu:HCode:=.seq (.region none (qo 14 (.mv 0 (.c (.bool false)))::[])) .ret
def adt:HCode:=.seq (.region none (qo 14 (.mv 0 (.c (.bool false)))::[])) .ret
def adJ:HCode:=.seq (.region none (qf 114 1 22::ql 115 114::qf 116 6 22::ql 117 116::qo 118 (.bin .leq (.t 115) (.t 117))::qm 119 0 118::qg 120 (.faddr 1 (.t 22)) 5 true::qg 121 (.load false 1 (.t 120)) 5 true::qg 122 (.mv 0 (.t 19)) 5 true::qg 123 (.bin .leq (.t 121) (.t 122)) 5 true::qo 124 (.pick (.t 119) (.t 123) (.c (.bool false)))::qm 125 0 124::qg 126 (.call 18 []) 11 true::qo 127 (.pick (.t 125) (.t 126) (.c (.bool false)))::qm 14 0 127::[])) .ret
def adK:HCode:=.seq (.seq (.region none (qm 87 0 18::qf 88 3 15::ql 89 88::qo 90 (.bin .leq (.t 87) (.t 89))::qm 91 0 90::qg 92 (.mv 0 (.t 25)) 4 true::qg 93 (.mv 0 (.t 19)) 4 true::qg 94 (.bin .gtr (.t 92) (.t 93)) 4 true::qg 95 (.mv 0 (.t 94)) 4 true::qg 96 (.mv 0 (.t 25)) 8 false::qg 97 (.faddr 6 (.t 22)) 8 false::qg 98 (.load false 1 (.t 97)) 8 false::qg 99 (.bin .gtr (.t 96) (.t 98)) 8 false::qg 100 (.pick (.t 95) (.c (.bool true)) (.t 99)) 4 true::qg 101 (.mv 0 (.t 100)) 4 true::qg 102 (.load true 4 (.t 15)) 14 false::qg 103 (.load true 8 (.t 24)) 14 false::qg 104 (.call 26 [.t 102,.t 103]) 14 false::qg 105 (.bin .eql (.t 104) (qn 0)) 14 false::qg 106 (.mv 0 (.t 105)) 14 false::qg 107 (.mv 0 (.t 25)) 19 true::qg 108 (.faddr 6 (.t 24)) 19 true::qg 109 (.load false 1 (.t 108)) 19 true::qg 110 (.bin .gtr (.t 107) (.t 109)) 19 true::qg 111 (.pick (.t 106) (.t 110) (.c (.bool false))) 14 false::qg 112 (.pick (.t 101) (.c (.bool true)) (.t 111)) 4 true::qo 113 (.pick (.t 91) (.t 112) (.c (.bool false)))::[])) (.cond (.t 113) adt .skip)) adJ
def aeA:HCode:=.seq (.region none (qf 83 0 15::ql 84 83::qm 85 1 17::qo 86 (.call 22 [.t 84,.t 85])::qm 25 0 86::[])) adK
def ado:HCode:=.seq (.region none (qo 78 (.load true 8 (.t 22))::qm 79 0 4::qm 80 0 5::qm 81 0 6::qo 82 (.call 25 [.t 78,.t 79,.t 80,.t 81])::qo 24 (.newz [.nils,.int .i64 0,.int .i64 0,.int .i64 0,.int .i64 0,.nils,.int .i64 0,.bool false])::⟨none,.store false 8 (.t 24) (.t 82),none⟩::[])) aeA
def ad1:HCode:=.seq (.seq (.region none (qm 72 0 21::qo 73 (.bin .neq (.t 72) (qn 0))::qm 74 0 73::qg 75 (.mv 0 (.t 23)) 2 false::qg 76 (.bin .neq (.t 75) (qn 0)) 2 false::qo 77 (.pick (.t 74) (.c (.bool true)) (.t 76))::[])) (.cond (.t 77) aeu .skip)) ado
def adw:HCode:=.seq (.region (some [0,0,2,7,15,31,31,0,191,511]) (qo 66 (.load true 4 (.t 15))::qm 67 0 6::qo 68 (.call 10 [.t 67,(qn 20)])::qo 69 (.call 19 [.t 66,.t 68])::qm 65 0 69::qe 70 65 0::qe 71 65 1::qo 22 (.newz [.nils,.int .i64 0,.int .i64 0,.int .i64 0,.int .i64 0,.nils,.int .i64 0,.bool false])::⟨none,.store false 8 (.t 22) (.t 70),none⟩::qm 23 0 71::[])) ad1
def XW:HCode:=.seq (.region (some [0,0,2,0,14,30,63,127,255,255,255,511,3071,8191]) (qo 55 (.load true 4 (.t 15))::qm 56 0 2::qo 57 (.call 10 [.t 56,(qn 30)])::qm 58 0 3::qo 59 (.call 10 [.t 58,(qn 30)])::qo 60 (.bin .add (qn 1) (.t 59))::qo 61 (.call 11 [.t 55,.t 57,.t 60])::qm 54 0 61::qe 62 54 0::qe 63 54 1::qe 64 54 2::qm 19 0 62::qm 20 1 63::qm 21 0 64::[])) adw
def Y0:HCode:=.seq (.seq (.region none (qm 41 1 17::qo 42 (.len (.t 41))::qf 43 0 15::ql 44 43::qo 45 (.len (.t 44))::qo 46 (.bin .neq (.t 42) (.t 45))::qm 47 0 46::qg 48 (.faddr 2 (.t 15)) 6 false::qg 49 (.load false 1 (.t 48)) 6 false::qg 50 (.mv 1 (.t 17)) 6 false::qg 51 (.call 28 [.t 49,.t 50]) 6 false::qg 52 (.un .not (.t 51)) 6 false::qo 53 (.pick (.t 47) (.c (.bool true)) (.t 52))::[])) (.cond (.t 53) aeX .skip)) XW
def Yz:HCode:=.seq (.region none (qf 37 1 15::ql 38 37::qm 39 1 17::qo 40 (.call 22 [.t 38,.t 39])::qm 18 0 40::[])) Y0
def VS:HCode:=.seq (.region none (qf 33 2 15::ql 34 33::qm 35 1 16::qo 36 (.call 27 [.t 34,.t 35])::qm 17 1 36::[])) Yz
def ZN:HCode:=.seq (.region none (qf 28 0 15::ql 29 28::qo 30 (.len (.t 29))::qm 31 0 1::qo 32 (.call 24 [.t 30,.t 31])::qm 16 1 32::[])) VS
def Z9:HCode:=.seq (.region none (qm 26 1 0::qo 27 (.call 9 [.t 26])::qo 15 (.newz [.nils,.nils,.nils,.int .i64 0])::⟨none,.store false 4 (.t 15) (.t 27),none⟩::[])) ZN
def c6:HCode:=.seq (.region none (qo 14 (.mv 0 (.c (.bool false)))::[])) Z9
theorem fc6:bi Try.prog 6=some (c6,[14],128):=by kernel_rfl
end Go.Proofs.Yteamkjblpglliaa
