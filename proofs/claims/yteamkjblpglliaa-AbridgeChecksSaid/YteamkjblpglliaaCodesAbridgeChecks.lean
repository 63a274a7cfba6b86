import Derived.Test.YteamkjblpglliaaHl4
import Derived.Test.YteamkjblpglliaaProg
namespace Go.Proofs.Yteamkjblpglliaa
open Go.HL
set_option maxRecDepth 100000
set_option linter.unusedVariables false
def adT:HCode:=.seq (.region none (qo 10 (.mv 0 (.c (.bool false)))::[])) .ret
def aeF:HCode:=.seq (.region none (qo 10 (.mv 0 (.c (.bool false)))::[])) .ret
def aeK:HCode:=.seq (.region none (qo 10 (.mv 0 (.c (.bool false)))::[])) .ret
def aeD:HCode:=.region none (qm 108 0 22::qo 109 (.bin .add (.t 108) (qn 1))::qm 22 0 109::[])
def aec:HCode:=.seq (.block 1 (.seq (.region (some [0,0,0,6,14,31,0,0,0,384,896,2047,4095]) (qo 110 (.load true 4 (.t 11))::qm 111 8 21::qm 112 0 22::qo 113 (.iaddr 8 (.t 111) (.t 112))::qo 114 (.load true 8 (.t 113))::qo 115 (.call 26 [.t 110,.t 114])::qo 116 (.load true 4 (.t 11))::qm 117 8 21::qm 118 0 22::qo 119 (.iaddr 8 (.t 117) (.t 118))::qo 120 (.load true 8 (.t 119))::qo 121 (.call 23 [.t 116,.t 120])::qo 122 (.bin .neq (.t 115) (.t 121))::[])) (.cond (.t 122) aeK .skip))) aeD
def afe:HCode:=.seq (.seq (.region none (qm 104 0 22::qm 105 8 21::qo 106 (.len (.t 105))::qo 107 (.bin .lss (.t 104) (.t 106))::[])) (.cond (.t 107) .skip (.exit 0))) aec
def aeH:HCode:=.seq (.region none (qo 123 (.load true 4 (.t 11))::qo 124 (.load true 8 (.t 13))::qo 125 (.call 26 [.t 123,.t 124])::qo 126 (.bin .eql (.t 125) (qn 0))::qm 127 0 126::qg 128 (.call 18 []) 4 true::qo 129 (.pick (.t 127) (.t 128) (.c (.bool false)))::qm 10 0 129::[])) .ret
def adU:HCode:=.seq (.seq (.region none (qo 22 (.mv 0 (qn 0))::[])) (.block 0 (.loop afe))) aeH
def aek:HCode:=.seq (.region (some [0,0,0,0,8,0,32,0,128,508,0,0,0,8191,16383]) (qo 90 (.load true 8 (.t 13))::qo 91 (.load true 8 (.t 20))::qo 92 (.load true 8 (.t 20))::qm 93 0 2::qo 94 (.bin .quo (.t 93) (qn 10))::qm 95 0 3::qo 96 (.bin .quo (.t 95) (qn 9))::qm 97 0 4::qo 98 (.bin .quo (.t 97) (qn 5))::qo 99 (.call 25 [.t 92,.t 94,.t 96,.t 98])::qo 100 (.load true 8 (.t 15))::qo 101 (.load true 8 (.t 17))::qo 102 (.bld [.nils,.int .i64 0,.int .i64 0,.int .i64 0,.int .i64 0,.nils,.int .i64 0,.bool false] [])::qo 103 (.bsl 8 6 [.t 90,.t 91,.t 99,.t 100,.t 101,.t 102])::qm 21 8 103::[])) adU
def aaD:HCode:=.seq (.region none (qo 85 (.load true 8 (.t 13))::qm 86 0 2::qm 87 0 3::qm 88 0 4::qo 89 (.call 25 [.t 85,.t 86,.t 87,.t 88])::qo 20 (.newz [.nils,.int .i64 0,.int .i64 0,.int .i64 0,.int .i64 0,.nils,.int .i64 0,.bool false])::⟨none,.store false 8 (.t 20) (.t 89),none⟩::[])) aek
def acT:HCode:=.seq (.region none (qm 81 3 19::qo 82 (.len (.t 81))::qo 83 (.mksl 1 8 [.int .i64 0] (.t 82))::qf 84 5 17::⟨none,.store false 1 (.t 84) (.t 83),none⟩::[])) aaD
def VE:HCode:=.seq (.seq (.region none (qm 70 0 18::qf 71 0 11::ql 72 71::qo 73 (.len (.t 72))::qo 74 (.bin .add (.t 73) (qn 2))::qo 75 (.bin .neq (.t 70) (.t 74))::qm 76 0 75::qg 77 (.mv 3 (.t 19)) 6 false::qg 78 (.len (.t 77)) 6 false::qg 79 (.bin .gtr (.t 78) (qn 200)) 6 false::qo 80 (.pick (.t 76) (.c (.bool true)) (.t 79))::[])) (.cond (.t 80) aeF .skip)) acT
def aap:HCode:=.seq (.region none (qf 63 0 11::ql 64 63::qf 65 2 11::ql 66 65::qo 67 (.call 15 [.t 64,.t 66])::qm 62 0 67::qe 68 62 0::qe 69 62 1::qm 18 0 68::qm 19 3 69::[])) VE
def aau:HCode:=.seq (.region (some [0,1,3,7,0,16,0,64,192,0,512,1536,3584,7680,16320,32752,65535,0,262143]) (qf 45 0 11::ql 46 45::qo 47 (.len (.t 46))::qo 48 (.mksl 1 1 [.bool false] (.t 47))::qf 49 0 11::ql 50 49::qf 51 0 11::ql 52 51::qo 53 (.len (.t 52))::qf 54 0 11::ql 55 54::qo 56 (.len (.t 55))::qo 57 (.bin .shl (qn 1) (.t 56))::qo 58 (.bin .sub (.t 57) (qn 1))::qo 59 (.call 24 [.t 53,.t 58])::qo 60 (.call 22 [.t 50,.t 59])::qo 61 (.bld [.nils,.int .i64 0,.int .i64 0,.int .i64 0,.int .i64 0,.nils,.int .i64 0,.bool false] [(0,1,(.t 48)),(4,1,(qn 1)),(6,1,(.t 60))])::qo 17 (.newz [.nils,.int .i64 0,.int .i64 0,.int .i64 0,.int .i64 0,.nils,.int .i64 0,.bool false])::⟨none,.store false 8 (.t 17) (.t 61),none⟩::[])) aap
def abB:HCode:=.seq (.seq (.region none (qm 39 0 14::qo 40 (.bin .neq (.t 39) (qn 0))::qm 41 0 40::qg 42 (.mv 0 (.t 16)) 2 false::qg 43 (.bin .neq (.t 42) (qn 0)) 2 false::qo 44 (.pick (.t 41) (.c (.bool true)) (.t 43))::[])) (.cond (.t 44) adT .skip)) aau
def Yj:HCode:=.seq (.region none (qo 35 (.load true 4 (.t 12))::qo 36 (.call 19 [.t 35,(qn 3)])::qm 34 0 36::qe 37 34 0::qe 38 34 1::qo 15 (.newz [.nils,.int .i64 0,.int .i64 0,.int .i64 0,.int .i64 0,.nils,.int .i64 0,.bool false])::⟨none,.store false 8 (.t 15) (.t 37),none⟩::qm 16 0 38::[])) abB
def YZ:HCode:=.seq (.region (some [0,0,2,7,15,31,31,0,191,511]) (qo 28 (.load true 4 (.t 11))::qm 29 0 4::qo 30 (.call 10 [.t 29,(qn 8)])::qo 31 (.call 19 [.t 28,.t 30])::qm 27 0 31::qe 32 27 0::qe 33 27 1::qo 13 (.newz [.nils,.int .i64 0,.int .i64 0,.int .i64 0,.int .i64 0,.nils,.int .i64 0,.bool false])::⟨none,.store false 8 (.t 13) (.t 32),none⟩::qm 14 0 33::[])) Yj
def ab5:HCode:=.seq (.region none (qm 25 1 1::qo 26 (.call 9 [.t 25])::qo 12 (.newz [.nils,.nils,.nils,.int .i64 0])::⟨none,.store false 4 (.t 12) (.t 26),none⟩::[])) YZ
def acY:HCode:=.seq (.region none (qm 23 1 0::qo 24 (.call 9 [.t 23])::qo 11 (.newz [.nils,.nils,.nils,.int .i64 0])::⟨none,.store false 4 (.t 11) (.t 24),none⟩::[])) ab5
def c5:HCode:=.seq (.region none (qo 10 (.mv 0 (.c (.bool false)))::[])) acY
theorem fc5:bu Try.prog 5=some (c5,[10],130):=by kernel_rfl
end Go.Proofs.Yteamkjblpglliaa
