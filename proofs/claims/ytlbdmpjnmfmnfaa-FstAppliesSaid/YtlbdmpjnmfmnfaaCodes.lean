import Derived.Test.YtlbdmpjnmfmnfaaHl4
import Derived.Test.YtlbdmpjnmfmnfaaProg
import Derived.Test.YtlbdmpjnmfmnfaaCodes1
namespace Go.Proofs.Ytlbdmpjnmfmnfaa
open Go.HL
set_option maxRecDepth 100000
set_option linter.unusedVariables false
def XQ:HCode:=.region none (qm 29 0 7::qo 30 (.bin .add (.t 29) (qn 1))::qm 7 0 30::[])
def Zp:HCode:=.seq (.block 1 (.region (some [0,0,2,0,14,30,62,0,0,256,0,1792,3840,7936,16256,32640,0,65536,0,458752,983040,2031616,4194176,8388607,16777215]) (qm 31 1 6::qf 32 1 2::ql 33 32::qm 34 0 7::qo 35 (.iaddr 4 (.t 33) (.t 34))::qf 36 3 35::ql 37 36::qm 38 1 6::qf 39 1 2::ql 40 39::qm 41 0 7::qo 42 (.iaddr 4 (.t 40) (.t 41))::qf 43 3 42::ql 44 43::qi 45 38 44::ql 46 45::qf 47 1 2::ql 48 47::qm 49 0 7::qo 50 (.iaddr 4 (.t 48) (.t 49))::qo 51 (.load true 4 (.t 50))::qo 52 (.bsl 4 1 [.t 51])::qo 53 (.app true 4 32 (.t 46) (.t 52))::qi 54 31 37::⟨none,.store false 1 (.t 54) (.t 53),none⟩::[]))) XQ
def Zh:HCode:=.seq (.seq (.region none (qm 24 0 7::qf 25 1 2::ql 26 25::qo 27 (.len (.t 26))::qo 28 (.bin .lss (.t 24) (.t 27))::[])) (.cond (.t 28) .skip (.exit 0))) Zp
def ZE:HCode:=.region none (qm 81 1 9::qm 82 0 10::qm 83 0 5::qo 84 (.bin .mul (.t 82) (.t 83))::qm 85 1 1::qo 86 (.len (.t 85))::qo 87 (.bin .add (.t 84) (.t 86))::qo 88 (.bsl 1 1 [.t 87])::qo 89 (.app true 1 8 (.t 81) (.t 88))::qm 9 1 89::[])
def Wv:HCode:=.seq (.region none (qm 73 1 8::qm 74 0 10::qm 75 0 5::qo 76 (.bin .mul (.t 74) (.t 75))::qm 77 1 1::qo 78 (.len (.t 77))::qo 79 (.bin .add (.t 76) (.t 78))::qi 80 73 79::⟨none,.store true 1 (.t 80) (.c (.bool true)),none⟩::[])) ZE
def aa2:HCode:=.region none (qm 66 0 10::qo 67 (.bin .add (.t 66) (qn 1))::qm 10 0 67::[])
def Y7:HCode:=.seq (.block 3 (.seq (.region none (qf 68 0 2::ql 69 68::qm 70 0 10::qi 71 69 70::ql 72 71::[])) (.cond (.t 72) Wv .skip))) aa2
def XK:HCode:=.seq (.seq (.region none (qm 61 0 10::qf 62 0 2::ql 63 62::qo 64 (.len (.t 63))::qo 65 (.bin .lss (.t 61) (.t 64))::[])) (.cond (.t 65) .skip (.exit 2))) Y7
def aac:HCode:=.region none (qf 127 0 15::ql 128 127::qm 129 0 5::qo 130 (.bin .mul (.t 128) (.t 129))::qm 131 0 13::qo 132 (.bin .add (.t 130) (.t 131))::qm 16 0 132::[])
def Q9:HCode:=.region none (qf 145 0 15::ql 146 145::qm 147 0 5::qo 148 (.bin .mul (.t 146) (.t 147))::qm 149 0 13::qo 150 (.bin .add (.t 148) (.t 149))::qo 151 (.bin .sub (.t 150) (qn 1))::qm 16 0 151::[])
def Qz:HCode:=.seq (.region (some [0,1,3,7,7,23,63,127,7,263,1023,2047]) (qm 133 0 13::qo 134 (.bin .gtr (.t 133) (qn 0))::qm 135 0 134::qg 136 (.mv 1 (.t 1)) 2 true::qg 137 (.mv 0 (.t 13)) 2 true::qg 138 (.bin .sub (.t 137) (qn 1)) 2 true::qg 139 (.iaddr 1 (.t 136) (.t 138)) 2 true::qg 140 (.load false 1 (.t 139)) 2 true::qg 141 (.faddr 1 (.t 15)) 2 true::qg 142 (.load false 1 (.t 141)) 2 true::qg 143 (.bin .eql (.t 140) (.t 142)) 2 true::qo 144 (.pick (.t 135) (.t 143) (.c (.bool false)))::[])) (.cond (.t 144) Q9 .skip)
def RY:HCode:=.region none (qm 164 1 9::qm 165 0 16::qo 166 (.bsl 1 1 [.t 165])::qo 167 (.app true 1 8 (.t 164) (.t 166))::qm 9 1 167::[])
def RU:HCode:=.seq (.region none (qm 161 1 8::qm 162 0 16::qi 163 161 162::⟨none,.store true 1 (.t 163) (.c (.bool true)),none⟩::[])) RY
def PZ:HCode:=.seq (.region none (qm 152 0 16::qo 153 (.bin .geq (.t 152) (qn 0))::qm 154 0 153::qg 155 (.mv 1 (.t 8)) 2 true::qg 156 (.mv 0 (.t 16)) 2 true::qg 157 (.iaddr 1 (.t 155) (.t 156)) 2 true::qg 158 (.load false 1 (.t 157)) 2 true::qg 159 (.un .not (.t 158)) 2 true::qo 160 (.pick (.t 154) (.t 159) (.c (.bool false)))::[])) (.cond (.t 160) RU .skip)
def RD:HCode:=.seq (.seq (.region none (qf 124 1 15::ql 125 124::qo 126 (.bin .eql (.t 125) (qn (-1)))::[])) (.cond (.t 126) aac Qz)) PZ
def Vg:HCode:=.seq (.region none (qo 16 (.mv 0 (qn (-1)))::[])) RD
def U8:HCode:=.region none (qm 115 0 14::qo 116 (.bin .add (.t 115) (qn 1))::qm 14 0 116::[])
def Tu:HCode:=.seq (.block 7 (.seq (.region none (qm 117 1 6::qm 118 0 12::qi 119 117 118::ql 120 119::qm 121 0 14::qo 122 (.iaddr 4 (.t 120) (.t 121))::qo 123 (.load true 4 (.t 122))::qo 15 (.newz [.int .i64 0,.int .i64 0,.int .i64 0,.int .i64 0])::⟨none,.store true 4 (.t 15) (.t 123),none⟩::[])) Vg)) U8
def Su:HCode:=.seq (.seq (.region none (qm 108 0 14::qm 109 1 6::qm 110 0 12::qi 111 109 110::ql 112 111::qo 113 (.len (.t 112))::qo 114 (.bin .lss (.t 108) (.t 113))::[])) (.cond (.t 114) .skip (.exit 6))) Tu
def QV:HCode:=.seq (.region none (qo 14 (.mv 0 (qn 0))::[])) (.block 6 (.loop Su))
def Rx:HCode:=.seq (.region none (qm 102 1 9::qm 103 0 11::qi 104 102 103::ql 105 104::qm 106 0 5::qo 107 (.bin .rem (.t 105) (.t 106))::qm 13 0 107::[])) QV
def Vf:HCode:=.region none (qm 94 0 11::qo 95 (.bin .add (.t 94) (qn 1))::qm 11 0 95::[])
def Vk:HCode:=.seq (.block 5 (.seq (.region none (qm 96 1 9::qm 97 0 11::qi 98 96 97::ql 99 98::qm 100 0 5::qo 101 (.bin .quo (.t 99) (.t 100))::qm 12 0 101::[])) Rx)) Vf
def QL:HCode:=.seq (.seq (.region none (qm 90 0 11::qm 91 1 9::qo 92 (.len (.t 91))::qo 93 (.bin .lss (.t 90) (.t 92))::[])) (.cond (.t 93) .skip (.exit 4))) Vk
def Ri:HCode:=.seq (.region none (qm 168 1 1::qo 169 (.load true 2 (.t 2))::qo 170 (.call 81 [.t 169])::qm 171 1 8::qo 172 (.bld [.nils,.nils,.nils] [(0,1,(.t 168)),(1,1,(.t 170)),(2,1,(.t 171))])::⟨none,.store false 3 (.t 4) (.t 172),none⟩::[])) .ret
def Vs:HCode:=.seq (.seq (.region none (qo 11 (.mv 0 (qn 0))::[])) (.block 4 (.loop QL))) Ri
def Q7:HCode:=.seq (.seq (.region none (qo 10 (.mv 0 (qn 0))::[])) (.block 2 (.loop XK))) Vs
def U6:HCode:=.seq (.region none (qo 9 (.mv 1 (.c .nils))::[])) Q7
def P7:HCode:=.seq (.region none (qm 55 0 5::qf 56 0 2::ql 57 56::qo 58 (.len (.t 57))::qo 59 (.bin .mul (.t 55) (.t 58))::qo 60 (.mksl 1 1 [.bool false] (.t 59))::qm 8 1 60::[])) U6
def UT:HCode:=.seq (.seq (.region none (qo 7 (.mv 0 (qn 0))::[])) (.block 0 (.loop Zh))) P7
def SQ:HCode:=.seq (.region none (qf 20 0 2::ql 21 20::qo 22 (.len (.t 21))::qo 23 (.mksl 1 24 [.osl 4 0 []] (.t 22))::qm 6 1 23::[])) UT
def P5:HCode:=.seq (.region none (qm 17 1 1::qo 18 (.len (.t 17))::qo 19 (.bin .add (.t 18) (qn 1))::qm 5 0 19::[])) SQ
def c59:HCode:=.seq (.region none (qo 2 (.newv 2 (.t 0))::qo 4 (.newz [.nils,.nils,.nils])::[])) P5
theorem abD:jC Try.prog 59=some (c59,[.c 4 true 3],173):=by kernel_rfl
def Yc:HCode:=.region none (qm 41 1 7::qm 42 1 1::qm 43 0 8::qi 44 42 43::ql 45 44::qo 46 (.bsl 1 1 [.t 45])::qo 47 (.app true 1 8 (.t 41) (.t 46))::qm 7 1 47::[])
def aam:HCode:=.seq (.region none (qm 35 1 6::qm 36 1 1::qm 37 0 8::qi 38 36 37::ql 39 38::qi 40 35 39::⟨none,.store true 1 (.t 40) (.c (.bool true)),none⟩::[])) Yc
def Wi:HCode:=.region none (qm 25 0 8::qo 26 (.bin .add (.t 25) (qn 1))::qm 8 0 26::[])
def Z4:HCode:=.seq (.block 1 (.seq (.region none (qm 27 1 6::qm 28 1 1::qm 29 0 8::qi 30 28 29::ql 31 30::qi 32 27 31::ql 33 32::qo 34 (.un .not (.t 33))::[])) (.cond (.t 34) aam .skip))) Wi
def VV:HCode:=.seq (.seq (.region none (qm 21 0 8::qm 22 1 1::qo 23 (.len (.t 22))::qo 24 (.bin .lss (.t 21) (.t 23))::[])) (.cond (.t 24) .skip (.exit 0))) Z4
def Yf:HCode:=.region none (qm 102 1 7::qm 103 0 12::qo 104 (.bsl 1 1 [.t 103])::qo 105 (.app true 1 8 (.t 102) (.t 104))::qm 7 1 105::[])
def Zt:HCode:=.seq (.region none (qm 99 1 6::qm 100 0 12::qi 101 99 100::⟨none,.store true 1 (.t 101) (.c (.bool true)),none⟩::[])) Yf
def WS:HCode:=.seq (.region none (qm 82 0 12::qo 83 (.bin .geq (.t 82) (qn 0))::qm 84 0 83::qg 85 (.mv 4 (.t 10)) 2 true::qg 86 (.mv 0 (.t 11)) 2 true::qg 87 (.iaddr 4 (.t 85) (.t 86)) 2 true::qg 88 (.faddr 2 (.t 87)) 2 true::qg 89 (.load false 1 (.t 88)) 2 true::qg 90 (.bin .eql (.t 89) (qn (-1))) 2 true::qo 91 (.pick (.t 84) (.t 90) (.c (.bool false)))::qm 92 0 91::qg 93 (.mv 1 (.t 6)) 10 true::qg 94 (.mv 0 (.t 12)) 10 true::qg 95 (.iaddr 1 (.t 93) (.t 94)) 10 true::qg 96 (.load false 1 (.t 95)) 10 true::qg 97 (.un .not (.t 96)) 10 true::qo 98 (.pick (.t 92) (.t 97) (.c (.bool false)))::[])) (.cond (.t 98) Zt .skip)
def Zd:HCode:=.region none (qm 68 0 11::qo 69 (.bin .add (.t 68) (qn 1))::qm 11 0 69::[])
def UD:HCode:=.seq (.block 5 (.seq (.region (some [0,0,0,6,14,0,0,96,224,0,992,2047,4095]) (qo 70 (.load true 3 (.t 2))::qm 71 4 10::qm 72 0 11::qo 73 (.iaddr 4 (.t 71) (.t 72))::qo 74 (.load true 4 (.t 73))::qm 75 1 7::qm 76 0 9::qi 77 75 76::ql 78 77::qm 79 0 5::qo 80 (.bin .rem (.t 78) (.t 79))::qo 81 (.call 102 [.t 70,.t 74,.t 80])::qm 12 0 81::[])) WS)) Zd
def Qu:HCode:=.seq (.seq (.region none (qm 64 0 11::qm 65 4 10::qo 66 (.len (.t 65))::qo 67 (.bin .lss (.t 64) (.t 66))::[])) (.cond (.t 67) .skip (.exit 4))) UD
def TI:HCode:=.seq (.region none (qo 11 (.mv 0 (qn 0))::[])) (.block 4 (.loop Qu))
def UV:HCode:=.region none (qm 52 0 9::qo 53 (.bin .add (.t 52) (qn 1))::qm 9 0 53::[])
def UW:HCode:=.seq (.block 3 (.seq (.region (some [0,1,0,0,12,28,0,124,255,511,1023]) (qf 54 1 2::ql 55 54::qm 56 1 7::qm 57 0 9::qi 58 56 57::ql 59 58::qm 60 0 5::qo 61 (.bin .quo (.t 59) (.t 60))::qi 62 55 61::ql 63 62::qm 10 4 63::[])) TI)) UV
def Vp:HCode:=.seq (.seq (.region none (qm 48 0 9::qm 49 1 7::qo 50 (.len (.t 49))::qo 51 (.bin .lss (.t 48) (.t 50))::[])) (.cond (.t 51) .skip (.exit 2))) UW
def Ub:HCode:=.seq (.region none (qm 106 1 7::qm 4 1 106::[])) .ret
def SS:HCode:=.seq (.seq (.region none (qo 9 (.mv 0 (qn 0))::[])) (.block 2 (.loop Vp))) Ub
def TY:HCode:=.seq (.seq (.region none (qo 8 (.mv 0 (qn 0))::[])) (.block 0 (.loop VV))) SS
def U0:HCode:=.seq (.region none (qo 7 (.mv 1 (.c .nils))::[])) TY
def QJ:HCode:=.seq (.region none (qf 17 2 2::ql 18 17::qo 19 (.len (.t 18))::qo 20 (.mksl 1 1 [.bool false] (.t 19))::qm 6 1 20::[])) U0
def QS:HCode:=.seq (.region none (qf 13 0 2::ql 14 13::qo 15 (.len (.t 14))::qo 16 (.bin .add (.t 15) (qn 1))::qm 5 0 16::[])) QJ
def c60:HCode:=.seq (.region none (qo 2 (.newv 3 (.t 0))::qo 4 (.mv 1 (.c .nils))::[])) QS
theorem ab4:dI Try.prog 60=some (c60,[4],107):=by kernel_rfl
def ZQ:HCode:=.region none (qm 62 1 8::qm 63 0 12::qo 64 (.bsl 1 1 [.t 63])::qo 65 (.app true 1 8 (.t 62) (.t 64))::qm 8 1 65::[])
def ZN:HCode:=.seq (.region none (qm 51 0 12::qo 52 (.bin .geq (.t 51) (qn 0))::qm 53 0 52::qg 54 (.mv 4 (.t 10)) 2 true::qg 55 (.mv 0 (.t 11)) 2 true::qg 56 (.iaddr 4 (.t 54) (.t 55)) 2 true::qg 57 (.faddr 2 (.t 56)) 2 true::qg 58 (.load false 1 (.t 57)) 2 true::qg 59 (.mv 0 (.t 2)) 2 true::qg 60 (.bin .eql (.t 58) (.t 59)) 2 true::qo 61 (.pick (.t 53) (.t 60) (.c (.bool false)))::[])) (.cond (.t 61) ZQ .skip)
def ZG:HCode:=.region none (qm 37 0 11::qo 38 (.bin .add (.t 37) (qn 1))::qm 11 0 38::[])
def X4:HCode:=.seq (.block 3 (.seq (.region (some [0,0,0,6,14,0,0,96,224,0,992,2047,4095]) (qo 39 (.load true 3 (.t 3))::qm 40 4 10::qm 41 0 11::qo 42 (.iaddr 4 (.t 40) (.t 41))::qo 43 (.load true 4 (.t 42))::qm 44 1 1::qm 45 0 9::qi 46 44 45::ql 47 46::qm 48 0 7::qo 49 (.bin .rem (.t 47) (.t 48))::qo 50 (.call 102 [.t 39,.t 43,.t 49])::qm 12 0 50::[])) ZN)) ZG
def aar:HCode:=.seq (.seq (.region none (qm 33 0 11::qm 34 4 10::qo 35 (.len (.t 34))::qo 36 (.bin .lss (.t 33) (.t 35))::[])) (.cond (.t 36) .skip (.exit 2))) X4
def ZO:HCode:=.seq (.region none (qo 11 (.mv 0 (qn 0))::[])) (.block 2 (.loop aar))
def Yb:HCode:=.region none (qm 21 0 9::qo 22 (.bin .add (.t 21) (qn 1))::qm 9 0 22::[])
def aa7:HCode:=.seq (.block 1 (.seq (.region (some [0,1,0,0,12,28,0,124,255,511,1023]) (qf 23 1 3::ql 24 23::qm 25 1 1::qm 26 0 9::qi 27 25 26::ql 28 27::qm 29 0 7::qo 30 (.bin .quo (.t 28) (.t 29))::qi 31 24 30::ql 32 31::qm 10 4 32::[])) ZO)) Yb
def YF:HCode:=.seq (.seq (.region none (qm 17 0 9::qm 18 1 1::qo 19 (.len (.t 18))::qo 20 (.bin .lss (.t 17) (.t 19))::[])) (.cond (.t 20) .skip (.exit 0))) aa7
def QM:HCode:=.seq (.region none (qo 66 (.load true 3 (.t 3))::qm 67 1 8::qo 68 (.call 60 [.t 66,.t 67])::qm 6 1 68::[])) .ret
def Qy:HCode:=.seq (.seq (.region none (qo 9 (.mv 0 (qn 0))::[])) (.block 0 (.loop YF))) QM
def Tj:HCode:=.seq (.region none (qo 8 (.mv 1 (.c .nils))::[])) Qy
def Ur:HCode:=.seq (.region none (qf 13 0 3::ql 14 13::qo 15 (.len (.t 14))::qo 16 (.bin .add (.t 15) (qn 1))::qm 7 0 16::[])) Tj
def c61:HCode:=.seq (.region none (qo 3 (.newv 3 (.t 0))::qo 6 (.mv 1 (.c .nils))::[])) Ur
theorem abo:dI Try.prog 61=some (c61,[6],69):=by kernel_rfl
def X3:HCode:=.seq (.region none (qo 4 (.mv 0 (.c (.bool false)))::[])) .ret
def YA:HCode:=.seq (.region none (qo 4 (.mv 0 (.c (.bool false)))::[])) .ret
def WR:HCode:=.region none (qm 15 0 5::qo 16 (.bin .add (.t 15) (qn 1))::qm 5 0 16::[])
def YS:HCode:=.seq (.block 1 (.seq (.region (some [0,0,3,7,0,0,48,112,255]) (qm 17 1 0::qm 18 0 5::qi 19 17 18::ql 20 19::qm 21 1 1::qm 22 0 5::qi 23 21 22::ql 24 23::qo 25 (.bin .neq (.t 20) (.t 24))::[])) (.cond (.t 25) YA .skip))) WR
def VT:HCode:=.seq (.seq (.region none (qm 11 0 5::qm 12 1 0::qo 13 (.len (.t 12))::qo 14 (.bin .lss (.t 11) (.t 13))::[])) (.cond (.t 14) .skip (.exit 0))) YS
def WH:HCode:=.seq (.region none (qo 4 (.mv 0 (.c (.bool true)))::[])) .ret
def aaW:HCode:=.seq (.seq (.region none (qo 5 (.mv 0 (qn 0))::[])) (.block 0 (.loop VT))) WH
def Xy:HCode:=.seq (.seq (.region none (qm 6 1 0::qo 7 (.len (.t 6))::qm 8 1 1::qo 9 (.len (.t 8))::qo 10 (.bin .neq (.t 7) (.t 9))::[])) (.cond (.t 10) X3 .skip)) aaW
def c62:HCode:=.seq (.region none (qo 4 (.mv 0 (.c (.bool false)))::[])) Xy
theorem abl:dI Try.prog 62=some (c62,[4],26):=by kernel_rfl
def Yl:HCode:=.seq (.region none (qo 1 (.bsl 1 1 [(.c (.bool true))])::qo 2 (.bld [.int .i64 0,.int .i64 0,.int .i64 0,.int .i64 0] [(1,1,(qn 0)),(2,1,(qn 1))])::qo 3 (.bld [.int .i64 0,.int .i64 0,.int .i64 0,.int .i64 0] [(1,1,(qn 0)),(2,1,(qn (-1)))])::qo 4 (.bsl 4 2 [.t 2,.t 3])::qo 5 (.bld [.nils,.nils] [(0,1,(.t 1)),(1,1,(.t 4))])::⟨none,.store false 2 (.t 0) (.t 5),none⟩::[])) .ret
def c63:HCode:=.seq (.region none (qo 0 (.newz [.nils,.nils])::[])) Yl
theorem abh:jC Try.prog 63=some (c63,[.c 0 true 2],6):=by kernel_rfl
def Pz:HCode:=.region (some [0,0,2,0,0,16,56,120,0,256,1016,2047,4095]) (qm 17 1 3::qf 18 0 5::ql 19 18::qm 20 1 3::qf 21 0 5::ql 22 21::qi 23 20 22::ql 24 23::qo 25 (.load true 4 (.t 5))::qo 26 (.bsl 4 1 [.t 25])::qo 27 (.app true 4 32 (.t 24) (.t 26))::qi 28 17 19::⟨none,.store false 1 (.t 28) (.t 27),none⟩::[])
def aa9:HCode:=.region none (qo 29 (.bin .add (.t 13) (qn 1))::qm 13 0 29::[])
def Xn:HCode:=.seq (.block 1 (.seq (.region none (qo 15 (.iaddr 4 (.t 11) (.t 13))::qo 16 (.load true 4 (.t 15))::qo 5 (.newz [.int .i64 0,.int .i64 0,.int .i64 0,.int .i64 0])::⟨none,.store true 4 (.t 5) (.t 16),none⟩::[])) Pz)) aa9
def VN:HCode:=.seq (.region none (qo 14 (.bin .lss (.t 13) (.t 12))::[])) (.seq (.cond (.t 14) .skip (.exit 0)) Xn)
def X7:HCode:=.seq (.region none (qm 30 1 3::qm 2 1 30::[])) .ret
def Ya:HCode:=.seq (.seq (.region none (qf 10 1 1::ql 11 10::qo 12 (.len (.t 11))::qo 13 (.mv 0 (qn 0))::[])) (.block 0 (.loop VN))) X7
def aaN:HCode:=.seq (.region none (qf 6 0 1::ql 7 6::qo 8 (.len (.t 7))::qo 9 (.mksl 1 24 [.osl 4 0 []] (.t 8))::qm 3 1 9::[])) Ya
def c64:HCode:=.seq (.region none (qo 1 (.newv 2 (.t 0))::qo 2 (.mv 1 (.c .nils))::[])) aaN
theorem abu:dI Try.prog 64=some (c64,[2],31):=by kernel_rfl
def YH:HCode:=.region none (ql 25 5::qo 26 (.load true 2 (.t 10))::qo 27 (.bsl 2 1 [.t 26])::qo 28 (.app true 2 16 (.t 25) (.t 27))::⟨none,.store false 1 (.t 5) (.t 28),none⟩::[])
def V9:HCode:=.seq (.region none (ql 21 4::qo 22 (.load true 2 (.t 10))::ql 23 5::qo 24 (.len (.t 23))::⟨none,.mset (.ints 2) (.t 21) (.t 22) (.t 24),none⟩::[])) YH
def Xj:HCode:=.seq (.region none (qm 19 0 12::qo 20 (.un .not (.t 19))::[])) (.cond (.t 20) V9 .skip)
def Jn:HCode:=.region (some [0,1,0,0,0,0,0,96,252,508,1023,2047,4095]) (qf 29 1 6::ql 30 29::qm 31 0 0::qm 32 0 1::qm 33 0 2::ql 34 4::qo 35 (.load true 2 (.t 10))::qo 36 (.mlook false (.ints 2) (.int .i64 0) (.t 34) (.t 35))::qo 37 (.bld [.int .i64 0,.int .i64 0,.int .i64 0,.int .i64 0] [(0,1,(.t 31)),(1,1,(.t 32)),(2,1,(.t 33)),(3,1,(.t 36))])::qo 38 (.bsl 4 1 [.t 37])::qo 39 (.app true 4 32 (.t 30) (.t 38))::qf 40 1 6::⟨none,.store false 1 (.t 40) (.t 39),none⟩::[])
def Xw:HCode:=.seq (.seq (.region none (ql 14 4::qo 15 (.load true 2 (.t 10))::qo 16 (.mlook true (.ints 2) (.int .i64 0) (.t 14) (.t 15))::qm 13 0 16::qe 17 13 0::qe 18 13 1::qm 11 0 17::qm 12 0 18::[])) Xj) Jn
def c65:HCode:=.seq (.region none (qo 10 (.newv 2 (.t 3))::[])) Xw
theorem ab3:dI Try.prog 65=some (c65,[],41):=by kernel_rfl
def Zc:HCode:=.seq (.region none (qo 2 (.mv 1 (.c .nils))::[])) .ret
def VM:HCode:=.seq (.region none (qo 5 (.bsl 1 0 [])::qm 6 1 0::qo 7 (.app true 1 1 (.t 5) (.t 6))::qm 2 1 7::[])) .ret
def Ws:HCode:=.seq (.seq (.region none (qm 3 1 0::qo 4 (.isn false (.t 3))::[])) (.cond (.t 4) Zc .skip)) VM
def c67:HCode:=.seq (.region none (qo 2 (.mv 1 (.c .nils))::[])) Ws
theorem abf:dI Try.prog 67=some (c67,[2],8):=by kernel_rfl
def XT:HCode:=.region none (qm 14 1 3::qm 15 0 4::qo 16 (.bsl 1 1 [.t 15])::qo 17 (.app true 1 8 (.t 14) (.t 16))::qm 3 1 17::[])
def aad:HCode:=.seq (.region none (qm 13 0 5::[])) (.cond (.t 13) XT .skip)
def ZR:HCode:=.region none (qo 18 (.bin .add (.t 8) (qn 1))::qm 8 0 18::[])
def Y5:HCode:=.seq (.block 1 (.seq (.region none (qm 10 0 8::qi 11 6 8::ql 12 11::qm 4 0 10::qm 5 0 12::[])) aad)) ZR
def aaL:HCode:=.seq (.region none (qo 9 (.bin .lss (.t 8) (.t 7))::[])) (.seq (.cond (.t 9) .skip (.exit 0)) Y5)
def Zo:HCode:=.seq (.region none (qm 19 1 3::qm 2 1 19::[])) .ret
def Zg:HCode:=.seq (.seq (.region none (qm 6 1 0::qo 7 (.len (.t 6))::qo 8 (.mv 0 (qn 0))::[])) (.block 0 (.loop aaL))) Zo
def WZ:HCode:=.seq (.region none (qo 3 (.mv 1 (.c .nils))::[])) Zg
def c70:HCode:=.seq (.region none (qo 2 (.mv 1 (.c .nils))::[])) WZ
theorem aca:dI Try.prog 70=some (c70,[2],20):=by kernel_rfl
def VW:HCode:=.seq (.region none (qm 3 0 0::qo 4 (.bin .geq (.t 3) (qn 0))::qm 5 0 4::qg 6 (.mv 0 (.t 0)) 2 true::qg 7 (.bin .lss (.t 6) (qn 64)) 2 true::qo 8 (.pick (.t 5) (.t 7) (.c (.bool false)))::qm 2 0 8::[])) .ret
def c72:HCode:=.seq (.region none (qo 2 (.mv 0 (.c (.bool false)))::[])) VW
theorem abA:dI Try.prog 72=some (c72,[2],9):=by kernel_rfl
def Zv:HCode:=.seq (.region none (qm 3 0 0::qo 4 (.call 72 [.t 3])::qo 5 (.un .not (.t 4))::qm 2 0 5::[])) .ret
def c78:HCode:=.seq (.region none (qo 2 (.mv 0 (.c (.bool false)))::[])) Zv
theorem abE:dI Try.prog 78=some (c78,[2],6):=by kernel_rfl
def Yk:HCode:=.seq (.region none (qm 5 1 0::qm 6 0 1::qo 7 (.call 105 [.t 5,.t 6])::qo 8 (.bin .geq (.t 7) (qn 0))::qm 4 0 8::[])) .ret
def c79:HCode:=.seq (.region none (qo 4 (.mv 0 (.c (.bool false)))::[])) Yk
theorem abZ:dI Try.prog 79=some (c79,[4],9):=by kernel_rfl
def Xh:HCode:=.seq (.region none (qm 9 1 0::qm 10 0 1::qi 11 9 10::ql 12 11::qm 4 0 12::[])) .ret
def Wl:HCode:=.seq (.region none (qo 4 (.mv 0 (qn (-1)))::[])) .ret
def WE:HCode:=.seq (.seq (.region none (qm 5 0 1::qm 6 1 0::qo 7 (.len (.t 6))::qo 8 (.bin .lss (.t 5) (.t 7))::[])) (.cond (.t 8) Xh .skip)) Wl
def c80:HCode:=.seq (.region none (qo 4 (.mv 0 (qn 0))::[])) WE
theorem ace:dI Try.prog 80=some (c80,[4],13):=by kernel_rfl
def aae:HCode:=.region none (qm 14 0 4::qo 15 (.bin .add (.t 14) (qn 1))::qm 4 0 15::[])
def Zm:HCode:=.seq (.block 1 (.region (some [0,0,2,0,14,30,62,0,0,256,0,1792,3840,7936,16256,32640,0,65536,0,458752,983040,2031616,4194176,8388607,16777215]) (qm 16 1 3::qf 17 1 1::ql 18 17::qm 19 0 4::qo 20 (.iaddr 4 (.t 18) (.t 19))::qf 21 0 20::ql 22 21::qm 23 1 3::qf 24 1 1::ql 25 24::qm 26 0 4::qo 27 (.iaddr 4 (.t 25) (.t 26))::qf 28 0 27::ql 29 28::qi 30 23 29::ql 31 30::qf 32 1 1::ql 33 32::qm 34 0 4::qo 35 (.iaddr 4 (.t 33) (.t 34))::qo 36 (.load true 4 (.t 35))::qo 37 (.bsl 4 1 [.t 36])::qo 38 (.app true 4 32 (.t 31) (.t 37))::qi 39 16 22::⟨none,.store false 1 (.t 39) (.t 38),none⟩::[]))) aae
def VL:HCode:=.seq (.seq (.region none (qm 9 0 4::qf 10 1 1::ql 11 10::qo 12 (.len (.t 11))::qo 13 (.bin .lss (.t 9) (.t 12))::[])) (.cond (.t 13) .skip (.exit 0))) Zm
def Xa:HCode:=.seq (.region none (qm 40 1 3::qm 2 1 40::[])) .ret
def Xl:HCode:=.seq (.seq (.region none (qo 4 (.mv 0 (qn 0))::[])) (.block 0 (.loop VL))) Xa
def Ye:HCode:=.seq (.region none (qf 5 0 1::ql 6 5::qo 7 (.len (.t 6))::qo 8 (.mksl 1 24 [.osl 4 0 []] (.t 7))::qm 3 1 8::[])) Xl
def c81:HCode:=.seq (.region none (qo 1 (.newv 2 (.t 0))::qo 2 (.mv 1 (.c .nils))::[])) Ye
theorem abq:dI Try.prog 81=some (c81,[2],41):=by kernel_rfl
def aaI:HCode:=.seq (.region (some [0,1,0,7,0,16,48,112,0,256,0,1792,4080,15,16383]) (qf 11 3 4::ql 12 11::qm 13 0 2::qo 14 (.bld [.int .i64 0,.int .i64 0] [(0,1,(.t 12)),(1,1,(.t 13))])::qm 15 0 0::qo 16 (.nilck (.t 15))::qf 17 2 16::ql 18 17::qf 19 3 4::ql 20 19::qm 21 0 2::qo 22 (.bld [.int .i64 0,.int .i64 0] [(0,1,(.t 20)),(1,1,(.t 21))])::qo 23 (.mlook false (.ints 2) (.bool false) (.t 18) (.t 22))::⟨none,.store true 2 (.t 6) (.t 14),none⟩::qm 7 0 23::[])) .ret
def ZH:HCode:=.seq (.region (some [0,1,0,4,15,0,32,96,224,0,512,0,2048,7680,16352,31,65535]) (qf 43 3 4::ql 44 43::qm 45 0 2::qo 46 (.bin .add (.t 45) (qn 1))::qo 47 (.bld [.int .i64 0,.int .i64 0] [(0,1,(.t 44)),(1,1,(.t 46))])::qm 48 0 0::qo 49 (.nilck (.t 48))::qf 50 2 49::ql 51 50::qf 52 3 4::ql 53 52::qm 54 0 2::qo 55 (.bin .add (.t 54) (qn 1))::qo 56 (.bld [.int .i64 0,.int .i64 0] [(0,1,(.t 53)),(1,1,(.t 55))])::qo 57 (.mlook false (.ints 2) (.bool false) (.t 51) (.t 56))::⟨none,.store true 2 (.t 6) (.t 47),none⟩::qm 7 0 57::[])) .ret
def WF:HCode:=.seq (.region none (qo 58 (.bld [.int .i64 0,.int .i64 0] [])::⟨none,.store true 2 (.t 6) (.t 58),none⟩::qo 7 (.mv 0 (.c (.bool false)))::[])) .ret
def Xz:HCode:=.seq (.seq (.region (some [0,0,2,6,14,30,63,127,255,511,1023,2047,255,8191,16383,255,33023,131071,262143]) (qm 24 0 2::qm 25 0 0::qo 26 (.nilck (.t 25))::qf 27 0 26::ql 28 27::qo 29 (.len (.t 28))::qo 30 (.bin .lss (.t 24) (.t 29))::qm 31 0 30::qg 32 (.mv 0 (.t 0)) 7 true::qg 33 (.nilck (.t 32)) 7 true::qg 34 (.faddr 0 (.t 33)) 7 true::qg 35 (.load false 1 (.t 34)) 7 true::qg 36 (.mv 0 (.t 2)) 7 true::qg 37 (.iaddr 1 (.t 35) (.t 36)) 7 true::qg 38 (.load false 1 (.t 37)) 7 true::qg 39 (.faddr 1 (.t 4)) 7 true::qg 40 (.load false 1 (.t 39)) 7 true::qg 41 (.bin .eql (.t 38) (.t 40)) 7 true::qo 42 (.pick (.t 31) (.t 41) (.c (.bool false)))::[])) (.cond (.t 42) ZH .skip)) WF
def Wq:HCode:=.seq (.seq (.region none (qf 8 1 4::ql 9 8::qo 10 (.bin .eql (.t 9) (qn (-1)))::[])) (.cond (.t 10) aaI .skip)) Xz
def c99:HCode:=.seq (.region none (qo 4 (.newv 4 (.t 1))::qo 6 (.newz [.int .i64 0,.int .i64 0])::qo 7 (.mv 0 (.c (.bool false)))::[])) Wq
theorem abC:jC Try.prog 99=some (c99,[.c 6 true 2,.t 7],59):=by kernel_rfl
def SK:HCode:=.seq (.region none (qm 17 0 5::qm 4 0 17::[])) .ret
def Qm:HCode:=.seq (.region none (qm 11 0 1::qm 12 2 0::qm 13 0 5::qo 14 (.iaddr 2 (.t 12) (.t 13))::qo 15 (.load true 2 (.t 14))::qo 16 (.callv (.t 11) [.t 15])::[])) (.cond (.t 16) SK .skip)
def Sv:HCode:=.region none (qo 18 (.bin .add (.t 8) (qn 1))::qm 8 0 18::[])
def Rf:HCode:=.seq (.block 1 (.seq (.region none (qm 10 0 8::qm 5 0 10::[])) Qm)) Sv
def Vh:HCode:=.seq (.region none (qo 9 (.bin .lss (.t 8) (.t 7))::[])) (.seq (.cond (.t 9) .skip (.exit 0)) Rf)
def TA:HCode:=.seq (.region none (qo 4 (.mv 0 (qn (-1)))::[])) .ret
def TG:HCode:=.seq (.seq (.region none (qm 6 2 0::qo 7 (.len (.t 6))::qo 8 (.mv 0 (qn 0))::[])) (.block 0 (.loop Vh))) TA
def YV:HCode:=.seq (.region none (qo 4 (.mv 0 (qn 0))::[])) TG
theorem V7:dI Try.prog 100=some (YV,[4],19):=by kernel_rfl
def Ux:HCode:=.seq (.region none (qo 2 (.mv 1 (.c .nils))::[])) .ret
def Ut:HCode:=.seq (.region none (qo 5 (.bsl 1 0 [])::qm 6 1 0::qo 7 (.app true 1 8 (.t 5) (.t 6))::qm 2 1 7::[])) .ret
def RZ:HCode:=.seq (.seq (.region none (qm 3 1 0::qo 4 (.isn false (.t 3))::[])) (.cond (.t 4) Ux .skip)) Ut
def Qh:HCode:=.seq (.region none (qo 2 (.mv 1 (.c .nils))::[])) RZ
theorem Px:dI Try.prog 101=some (Qh,[2],8):=by kernel_rfl
def PR:HCode:=.region none (qf 16 3 4::ql 17 16::qm 18 0 7::qo 19 (.bin .mul (.t 17) (.t 18))::qm 20 0 2::qo 21 (.bin .add (.t 19) (.t 20))::qm 8 0 21::[])
def UY:HCode:=.region none (qf 37 3 4::ql 38 37::qm 39 0 7::qo 40 (.bin .mul (.t 38) (.t 39))::qm 41 0 2::qo 42 (.bin .add (.t 40) (.t 41))::qo 43 (.bin .add (.t 42) (qn 1))::qm 8 0 43::[])
def UK:HCode:=.seq (.region (some [0,0,2,6,15,31,63,127,63,511,1023,63,2111,8191,16383]) (qm 22 0 2::qf 23 0 3::ql 24 23::qo 25 (.len (.t 24))::qo 26 (.bin .lss (.t 22) (.t 25))::qm 27 0 26::qg 28 (.faddr 0 (.t 3)) 5 true::qg 29 (.load false 1 (.t 28)) 5 true::qg 30 (.mv 0 (.t 2)) 5 true::qg 31 (.iaddr 1 (.t 29) (.t 30)) 5 true::qg 32 (.load false 1 (.t 31)) 5 true::qg 33 (.faddr 1 (.t 4)) 5 true::qg 34 (.load false 1 (.t 33)) 5 true::qg 35 (.bin .eql (.t 32) (.t 34)) 5 true::qo 36 (.pick (.t 27) (.t 35) (.c (.bool false)))::[])) (.cond (.t 36) UY .skip)
def Ry:HCode:=.seq (.region none (qo 6 (.mv 0 (qn (-1)))::[])) .ret
def TU:HCode:=.seq (.region none (qm 54 0 8::qm 6 0 54::[])) .ret
def Rw:HCode:=.seq (.seq (.region none (qm 44 0 8::qo 45 (.bin .geq (.t 44) (qn 0))::qm 46 0 45::qg 47 (.faddr 2 (.t 3)) 2 true::qg 48 (.load false 1 (.t 47)) 2 true::qg 49 (.mv 0 (.t 8)) 2 true::qg 50 (.iaddr 1 (.t 48) (.t 49)) 2 true::qg 51 (.load false 1 (.t 50)) 2 true::qg 52 (.un .not (.t 51)) 2 true::qo 53 (.pick (.t 46) (.t 52) (.c (.bool false)))::[])) (.cond (.t 53) Ry .skip)) TU
def Ui:HCode:=.seq (.seq (.region none (qf 13 1 4::ql 14 13::qo 15 (.bin .eql (.t 14) (qn (-1)))::[])) (.cond (.t 15) PR UK)) Rw
def UZ:HCode:=.seq (.region none (qo 8 (.mv 0 (qn (-1)))::[])) Ui
def Vy:HCode:=.seq (.region none (qf 9 0 3::ql 10 9::qo 11 (.len (.t 10))::qo 12 (.bin .add (.t 11) (qn 1))::qm 7 0 12::[])) UZ
def aaZ:HCode:=.seq (.region none (qo 3 (.newv 3 (.t 0))::qo 4 (.newv 4 (.t 1))::qo 6 (.mv 0 (qn 0))::[])) Vy
theorem ZU:dI Try.prog 102=some (aaZ,[6],55):=by kernel_rfl
def TM:HCode:=.seq (.region none (qm 17 0 5::qm 4 0 17::[])) .ret
def Sm:HCode:=.seq (.region none (qm 11 0 1::qm 12 1 0::qm 13 0 5::qi 14 12 13::ql 15 14::qo 16 (.callv (.t 11) [.t 15])::[])) (.cond (.t 16) TM .skip)
def SE:HCode:=.region none (qo 18 (.bin .add (.t 8) (qn 1))::qm 8 0 18::[])
def RH:HCode:=.seq (.block 1 (.seq (.region none (qm 10 0 8::qm 5 0 10::[])) Sm)) SE
def Qi:HCode:=.seq (.region none (qo 9 (.bin .lss (.t 8) (.t 7))::[])) (.seq (.cond (.t 9) .skip (.exit 0)) RH)
def Q5:HCode:=.seq (.region none (qo 4 (.mv 0 (qn (-1)))::[])) .ret
def TV:HCode:=.seq (.seq (.region none (qm 6 1 0::qo 7 (.len (.t 6))::qo 8 (.mv 0 (qn 0))::[])) (.block 0 (.loop Qi))) Q5
def c105:HCode:=.seq (.region none (qo 4 (.mv 0 (qn 0))::[])) TV
theorem Zb:dI Try.prog 105=some (c105,[4],19):=by kernel_rfl
end Go.Proofs.Ytlbdmpjnmfmnfaa
