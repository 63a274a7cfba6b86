import Derived.Test.YtlbdmpjnmfmnfaaHl4
import Derived.Test.YtlbdmpjnmfmnfaaProg
namespace Go.Proofs.Ytlbdmpjnmfmnfaa
open Go.HL
set_option maxRecDepth 100000
set_option linter.unusedVariables false
def Ux:HCode:=.region none (qm 17 0 5::qo 18 (.bin .add (.t 17) (qn 1))::qm 5 0 18::[])
def RF:HCode:=.seq (.block 1 (.region (some [0,1,0,0,8,28,60,124,255,511,1023]) (qf 19 0 4::ql 20 19::qm 21 1 0::qm 22 0 5::qo 23 (.bin .add (qn 1) (.t 22))::qo 24 (.call 50 [.t 21,.t 23,(qn 3)])::qo 25 (.bin .eql (.t 24) (qn 0))::qo 26 (.bsl 1 1 [.t 25])::qo 27 (.app true 1 1 (.t 20) (.t 26))::qf 28 0 4::⟨none,.store false 1 (.t 28) (.t 27),none⟩::[]))) Ux
def WA:HCode:=.seq (.seq (.region none (qm 14 0 5::qm 15 0 3::qo 16 (.bin .lss (.t 14) (.t 15))::[])) (.cond (.t 16) .skip (.exit 0))) RF
def TM:HCode:=.region (some [0,1,0,0,12,0,32,96,0,256,992,0,0,6144,16380,32764,65535,131071,262143]) (qf 46 1 4::ql 47 46::qm 48 0 8::qm 49 0 3::qo 50 (.bin .rem (.t 48) (.t 49))::qm 51 0 8::qo 52 (.bin .quo (.t 51) (qn 5))::qo 53 (.call 51 [.t 52])::qm 54 0 9::qo 55 (.bin .quo (.t 54) (qn 5))::qo 56 (.call 51 [.t 55])::qm 57 0 9::qm 58 0 3::qo 59 (.bin .rem (.t 57) (.t 58))::qo 60 (.bld [.int .i64 0,.int .i64 0,.int .i64 0,.int .i64 0] [(0,1,(.t 50)),(1,1,(.t 53)),(2,1,(.t 56)),(3,1,(.t 59))])::qo 61 (.bsl 4 1 [.t 60])::qo 62 (.app true 4 32 (.t 47) (.t 61))::qf 63 1 4::⟨none,.store false 1 (.t 63) (.t 62),none⟩::[])
def VD:HCode:=.seq (.region none (qm 41 1 0::qm 42 0 7::qo 43 (.bin .mul (qn 2) (.t 42))::qo 44 (.bin .add (qn 8) (.t 43))::qo 45 (.call 50 [.t 41,.t 44,(qn 1048576)])::qm 9 0 45::[])) TM
def UL:HCode:=.region none (qm 34 0 7::qo 35 (.bin .add (.t 34) (qn 1))::qm 7 0 35::[])
def Uk:HCode:=.seq (.block 3 (.seq (.region none (qm 36 1 0::qm 37 0 7::qo 38 (.bin .mul (qn 2) (.t 37))::qo 39 (.bin .add (qn 7) (.t 38))::qo 40 (.call 50 [.t 36,.t 39,(qn 1048576)])::qm 8 0 40::[])) VD)) UL
def V3:HCode:=.seq (.seq (.region none (qm 31 0 7::qm 32 0 6::qo 33 (.bin .lss (.t 31) (.t 32))::[])) (.cond (.t 33) .skip (.exit 2))) Uk
def Vf:HCode:=.seq (.region none (qo 64 (.load true 2 (.t 4))::⟨none,.store false 2 (.t 2) (.t 64),none⟩::[])) .ret
def QZ:HCode:=.seq (.seq (.region none (qo 7 (.mv 0 (qn 0))::[])) (.block 2 (.loop V3))) Vf
def OX:HCode:=.seq (.region none (qm 29 1 0::qo 30 (.call 50 [.t 29,(qn 6),(qn 10)])::qm 6 0 30::[])) QZ
def OB:HCode:=.seq (.seq (.region none (qo 5 (.mv 0 (qn 0))::[])) (.block 0 (.loop WA))) OX
def OT:HCode:=.seq (.region none (qo 13 (.bld [.nils,.nils] [])::qo 4 (.newz [.nils,.nils])::⟨none,.store false 2 (.t 4) (.t 13),none⟩::[])) OB
def OJ:HCode:=.seq (.region none (qm 10 1 0::qo 11 (.call 50 [.t 10,(qn 0),(qn 5)])::qo 12 (.bin .add (qn 1) (.t 11))::qm 3 0 12::[])) OT
def c11:HCode:=.seq (.region none (qo 2 (.newz [.nils,.nils])::[])) OJ
theorem WP:kD Try.prog 11=some (c11,[.c 2 true 2],65):=by kernel_rfl
def RH:HCode:=.region none (qm 16 0 6::qo 17 (.bin .add (.t 16) (qn 1))::qm 6 0 17::[])
def Uw:HCode:=.seq (.block 1 (.region none (qm 18 1 5::qm 19 1 0::qm 20 0 6::qi 21 19 20::ql 22 21::qo 23 (.call 16 [.t 22,(qn 3)])::qo 24 (.bsl 1 1 [.t 23])::qo 25 (.app true 1 8 (.t 18) (.t 24))::qm 5 1 25::[]))) RH
def Ti:HCode:=.seq (.seq (.region none (qm 7 0 6::qm 8 1 0::qo 9 (.len (.t 8))::qo 10 (.bin .lss (.t 7) (.t 9))::qm 11 0 10::qg 12 (.mv 0 (.t 6)) 4 true::qg 13 (.mv 0 (.t 1)) 4 true::qg 14 (.bin .lss (.t 12) (.t 13)) 4 true::qo 15 (.pick (.t 11) (.t 14) (.c (.bool false)))::[])) (.cond (.t 15) .skip (.exit 0))) Uw
def V4:HCode:=.seq (.region none (qm 26 1 5::qm 4 1 26::[])) .ret
def Ws:HCode:=.seq (.seq (.region none (qo 6 (.mv 0 (qn 0))::[])) (.block 0 (.loop Ti))) V4
def UY:HCode:=.seq (.region none (qo 5 (.mv 1 (.c .nils))::[])) Ws
def c14:HCode:=.seq (.region none (qo 4 (.mv 1 (.c .nils))::[])) UY
theorem Xp:dE Try.prog 14=some (c14,[4],27):=by kernel_rfl
def VC:HCode:=.region none (qm 7 0 0::qo 8 (.bin .add (.t 7) (qn 1))::qo 9 (.un .neg (.t 8))::qm 0 0 9::[])
def U1:HCode:=.seq (.region none (qm 10 0 0::qm 11 0 1::qo 12 (.bin .rem (.t 10) (.t 11))::qm 4 0 12::[])) .ret
def UJ:HCode:=.seq (.seq (.region none (qm 5 0 0::qo 6 (.bin .lss (.t 5) (qn 0))::[])) (.cond (.t 6) VC .skip)) U1
def c16:HCode:=.seq (.region none (qo 4 (.mv 0 (qn 0))::[])) UJ
theorem XC:dE Try.prog 16=some (c16,[4],13):=by kernel_rfl
def U8:HCode:=.seq (.region none (qo 6 (.mv 1 (.c .nils))::qo 7 (.mv 0 (qn 1))::[])) .ret
def RP:HCode:=.region none (qm 40 2 9::qm 41 0 8::qo 42 (.bld [.int .i64 0,.int .i64 0] [])::qo 43 (.bsl 2 1 [.t 42])::qo 44 (.call 55 [.t 41,.t 43])::qo 45 (.bld [.nils,.nils] [(0,1,(.c .nils)),(1,1,(.t 44))])::qo 46 (.bsl 2 1 [.t 45])::qo 47 (.app false 2 48 (.t 40) (.t 46))::qm 9 2 47::[])
def TB:HCode:=.region none (qm 63 1 10::qf 64 0 14::ql 65 64::qo 66 (.bsl 1 1 [.t 65])::qo 67 (.app false 1 24 (.t 63) (.t 66))::qm 10 1 67::[])
def TV:HCode:=.seq (.region none (qo 6 (.mv 1 (.c .nils))::qo 7 (.mv 0 (qn 4))::[])) .ret
def VU:HCode:=.seq (.region none (qm 73 1 10::qo 74 (.len (.t 73))::qm 75 0 2::qo 76 (.bin .gtr (.t 74) (.t 75))::qm 77 0 76::qg 78 (.mv 2 (.t 12)) 4 false::qg 79 (.len (.t 78)) 4 false::qg 80 (.mv 0 (.t 2)) 4 false::qg 81 (.bin .gtr (.t 79) (.t 80)) 4 false::qo 82 (.pick (.t 77) (.c (.bool true)) (.t 81))::qm 83 0 82::qg 84 (.mv 0 (.t 11)) 10 false::qg 85 (.mv 0 (.t 8)) 10 false::qg 86 (.nilck (.t 85)) 10 false::qg 87 (.faddr 2 (.t 86)) 10 false::qg 88 (.load false 1 (.t 87)) 10 false::qg 89 (.mlen (.t 88)) 10 false::qg 90 (.bin .gtr (.t 84) (.t 89)) 10 false::qo 91 (.pick (.t 83) (.c (.bool true)) (.t 90))::[])) (.cond (.t 91) TV .skip)
def Wn:HCode:=.seq (.region none (qm 68 2 12::qm 69 0 8::qo 70 (.load true 2 (.t 14))::qo 71 (.call 58 [.t 69,.t 70])::qo 72 (.app false 2 48 (.t 68) (.t 71))::qm 12 2 72::[])) VU
def Vg:HCode:=.seq (.seq (.region none (qf 59 1 14::ql 60 59::qo 61 (.mkfn 57 [.t 4,.t 3])::qo 62 (.call 56 [.t 60,.t 61])::[])) (.cond (.t 62) TB .skip)) Wn
def Rj:HCode:=.region none (qo 92 (.bin .add (.t 55) (qn 1))::qm 55 0 92::[])
def TF:HCode:=.seq (.block 3 (.seq (.region none (qo 57 (.iaddr 2 (.t 53) (.t 55))::qo 58 (.load true 2 (.t 57))::qo 14 (.newz [.nils,.nils])::⟨none,.store false 2 (.t 14) (.t 58),none⟩::[])) Vg)) Rj
def NZ:HCode:=.seq (.region none (qo 56 (.bin .lss (.t 55) (.t 54))::[])) (.seq (.cond (.t 56) .skip (.exit 2)) TF)
def OV:HCode:=.region none (qm 93 2 12::qm 9 2 93::[])
def OO:HCode:=.seq (.seq (.region none (qm 53 2 9::qo 54 (.len (.t 53))::qo 55 (.mv 0 (qn 0))::[])) (.block 2 (.loop NZ))) OV
def OQ:HCode:=.region none (qm 51 0 11::qo 52 (.bin .add (.t 51) (qn 1))::qm 11 0 52::[])
def O4:HCode:=.seq (.block 1 (.seq (.region none (qo 12 (.mv 2 (.c .nils))::[])) OO)) OQ
def J4:HCode:=.seq (.seq (.region none (qm 48 2 9::qo 49 (.len (.t 48))::qo 50 (.bin .gtr (.t 49) (qn 0))::[])) (.cond (.t 50) .skip (.exit 0))) O4
def Ir:HCode:=.seq (.region none (qm 94 1 10::qm 6 1 94::qo 7 (.mv 0 (qn 0))::[])) .ret
def O5:HCode:=.seq (.seq (.region none (qo 11 (.mv 0 (qn 0))::[])) (.block 0 (.loop J4))) Ir
def QX:HCode:=.seq (.region none (qo 10 (.mv 1 (.c .nils))::[])) O5
def Qa:HCode:=.seq (.seq (.region none (qm 34 0 8::qo 35 (.nilck (.t 34))::qf 36 2 35::ql 37 36::qo 38 (.bld [.int .i64 0,.int .i64 0] [])::qo 39 (.mlook false (.ints 2) (.bool false) (.t 37) (.t 38))::[])) (.cond (.t 39) RP .skip)) QX
def Pi:HCode:=.seq (.region none (qo 9 (.mv 2 (.c .nils))::[])) Qa
def O6:HCode:=.seq (.region none (qo 31 (.load true 2 (.t 3))::ql 32 4::qo 33 (.call 54 [.t 31,.t 32])::qm 8 0 33::[])) Pi
def PN:HCode:=.seq (.seq (.region none (qo 15 (.load true 2 (.t 3))::qo 16 (.call 26 [.t 15])::qo 17 (.un .not (.t 16))::qm 18 0 17::qg 19 (.mv 0 (.t 2)) 3 false::qg 20 (.bin .lss (.t 19) (qn 1)) 3 false::qo 21 (.pick (.t 18) (.c (.bool true)) (.t 20))::qm 22 0 21::qg 23 (.mv 0 (.t 2)) 7 false::qg 24 (.bin .gtr (.t 23) (qn 64)) 7 false::qo 25 (.pick (.t 22) (.c (.bool true)) (.t 24))::qm 26 0 25::qg 27 (.load false 1 (.t 4)) 11 false::qg 28 (.len (.t 27)) 11 false::qg 29 (.bin .gtr (.t 28) (qn 1024)) 11 false::qo 30 (.pick (.t 26) (.c (.bool true)) (.t 29))::[])) (.cond (.t 30) U8 .skip)) O6
def c17:HCode:=.seq (.region none (qo 3 (.newv 2 (.t 0))::qo 4 (.newv 1 (.t 1))::qo 6 (.mv 1 (.c .nils))::qo 7 (.mv 0 (qn 0))::[])) PN
theorem Xq:dE Try.prog 17=some (c17,[6,7],95):=by kernel_rfl
def WB:HCode:=.seq (.region none (qo 4 (.mv 0 (.c (.bool false)))::[])) .ret
def SL:HCode:=.seq (.region none (qo 4 (.mv 0 (.c (.bool false)))::[])) .ret
def We:HCode:=.region none (qm 15 0 5::qo 16 (.bin .add (.t 15) (qn 1))::qm 5 0 16::[])
def UB:HCode:=.seq (.block 1 (.seq (.region (some [0,0,3,7,0,0,48,112,255,511]) (qm 17 1 0::qm 18 0 5::qi 19 17 18::ql 20 19::qm 21 1 1::qm 22 0 5::qi 23 21 22::ql 24 23::qo 25 (.call 62 [.t 20,.t 24])::qo 26 (.un .not (.t 25))::[])) (.cond (.t 26) SL .skip))) We
def Vy:HCode:=.seq (.seq (.region none (qm 11 0 5::qm 12 1 0::qo 13 (.len (.t 12))::qo 14 (.bin .lss (.t 11) (.t 13))::[])) (.cond (.t 14) .skip (.exit 0))) UB
def RD:HCode:=.seq (.region none (qo 4 (.mv 0 (.c (.bool true)))::[])) .ret
def U2:HCode:=.seq (.seq (.region none (qo 5 (.mv 0 (qn 0))::[])) (.block 0 (.loop Vy))) RD
def SX:HCode:=.seq (.seq (.region none (qm 6 1 0::qo 7 (.len (.t 6))::qm 8 1 1::qo 9 (.len (.t 8))::qo 10 (.bin .neq (.t 7) (.t 9))::[])) (.cond (.t 10) WB .skip)) U2
def c19:HCode:=.seq (.region none (qo 4 (.mv 0 (.c (.bool false)))::[])) SX
theorem Xg:dE Try.prog 19=some (c19,[4],27):=by kernel_rfl
def Vh:HCode:=.seq (.region none (qm 65 0 12::qm 66 0 65::qg 67 (.mv 1 (.t 2)) 1 true::qg 68 (.bsl 1 1 [(qn 1)]) 1 true::qg 69 (.bsl 1 2 [(qn 1),(qn 1)]) 1 true::qg 70 (.bsl 1 3 [(.c .nils),.t 68,.t 69]) 1 true::qg 71 (.call 19 [.t 67,.t 70]) 1 true::qo 72 (.pick (.t 66) (.t 71) (.c (.bool false)))::qm 73 0 72::qg 74 (.mv 1 (.t 10)) 8 true::qg 75 (.bsl 1 2 [(qn 2),(qn 2)]) 8 true::qg 76 (.bsl 1 1 [.t 75]) 8 true::qg 77 (.call 19 [.t 74,.t 76]) 8 true::qo 78 (.pick (.t 73) (.t 77) (.c (.bool false)))::qm 0 0 78::[])) .ret
def V9:HCode:=.seq (.region none (qm 47 0 3::qo 48 (.bin .eql (.t 47) (qn 0))::qm 49 0 48::qg 50 (.mv 0 (.t 5)) 2 true::qg 51 (.bin .eql (.t 50) (qn 4)) 2 true::qo 52 (.pick (.t 49) (.t 51) (.c (.bool false)))::qm 53 0 52::qg 54 (.mv 0 (.t 7)) 6 true::qg 55 (.bin .eql (.t 54) (qn 4)) 6 true::qo 56 (.pick (.t 53) (.t 55) (.c (.bool false)))::qm 57 0 56::qg 58 (.mv 0 (.t 9)) 10 true::qg 59 (.bin .eql (.t 58) (qn 0)) 10 true::qo 60 (.pick (.t 57) (.t 59) (.c (.bool false)))::qm 61 0 60::qg 62 (.mv 0 (.t 11)) 14 true::qg 63 (.bin .eql (.t 62) (qn 0)) 14 true::qo 64 (.pick (.t 61) (.t 63) (.c (.bool false)))::qm 12 0 64::[])) Vh
def VM:HCode:=.seq (.region none (qo 42 (.load true 2 (.t 8))::qo 43 (.bsl 1 2 [(qn 0),(qn 0)])::qo 44 (.call 17 [.t 42,.t 43,(qn 9)])::qm 41 0 44::qe 45 41 0::qe 46 41 1::qm 10 1 45::qm 11 0 46::[])) V9
def UI:HCode:=.seq (.region (some [0,0,0,6,15,31,63,63,0,383,1023]) (qo 34 (.load true 2 (.t 1))::qo 35 (.bsl 1 1 [(qn 1)])::qo 36 (.bsl 1 2 [(qn 2),(qn 2)])::qo 37 (.call 32 [.t 35,.t 36])::qo 38 (.call 21 [.t 34,.t 37])::qm 33 0 38::qe 39 33 0::qe 40 33 1::qo 8 (.newz [.nils,.nils])::⟨none,.store false 2 (.t 8) (.t 39),none⟩::qm 9 0 40::[])) VM
def Q9:HCode:=.seq (.region none (qo 27 (.load true 2 (.t 1))::qo 28 (.call 23 [.t 27])::qo 29 (.bsl 1 1 [(qn 1)])::qo 30 (.call 17 [.t 28,.t 29,(qn 64)])::qm 26 0 30::qe 31 26 0::qe 32 26 1::qm 6 1 31::qm 7 0 32::[])) UI
def Vz:HCode:=.seq (.region none (qo 21 (.load true 2 (.t 1))::qo 22 (.bsl 1 2 [(qn 0),(qn 0)])::qo 23 (.call 17 [.t 21,.t 22,(qn 2)])::qm 20 0 23::qe 24 20 0::qe 25 20 1::qm 4 1 24::qm 5 0 25::[])) Q9
def Wy:HCode:=.seq (.region none (qo 15 (.load true 2 (.t 1))::qo 16 (.bsl 1 2 [(qn 0),(qn 0)])::qo 17 (.call 17 [.t 15,.t 16,(qn 3)])::qm 14 0 17::qe 18 14 0::qe 19 14 1::qm 2 1 18::qm 3 0 19::[])) Vz
def Rf:HCode:=.seq (.region none (qo 13 (.call 63 [])::qo 1 (.newz [.nils,.nils])::⟨none,.store false 2 (.t 1) (.t 13),none⟩::[])) Wy
def c20:HCode:=.seq (.region none (qo 0 (.mv 0 (.c (.bool false)))::[])) Rf
theorem Xe:dE Try.prog 20=some (c20,[0],79):=by kernel_rfl
def Vx:HCode:=.seq (.region none (qo 28 (.bld [.nils,.nils] [])::⟨none,.store false 2 (.t 4) (.t 28),none⟩::qo 5 (.mv 0 (qn 1))::[])) .ret
def Ua:HCode:=.region none (qm 81 0 11::qm 82 0 12::qf 83 2 15::ql 84 83::qf 85 0 13::ql 86 85::qf 87 3 15::ql 88 87::qo 89 (.bld [.int .i64 0,.int .i64 0] [(0,1,(.t 86)),(1,1,(.t 88))])::qo 90 (.callv (.t 81) [.t 82,(qn (-1)),.t 84,.t 89])::[])
def Rz:HCode:=.seq (.region none (qf 78 1 15::ql 79 78::qo 80 (.bin .eql (.t 79) (qn (-1)))::[])) (.cond (.t 80) Ua .skip)
def SA:HCode:=.region none (qo 91 (.bin .add (.t 74) (qn 1))::qm 74 0 91::[])
def Td:HCode:=.seq (.block 3 (.seq (.region none (qo 76 (.iaddr 4 (.t 72) (.t 74))::qo 77 (.load true 4 (.t 76))::qo 15 (.newz [.int .i64 0,.int .i64 0,.int .i64 0,.int .i64 0])::⟨none,.store true 4 (.t 15) (.t 77),none⟩::[])) Rz)) SA
def NP:HCode:=.seq (.region none (qo 75 (.bin .lss (.t 74) (.t 73))::[])) (.seq (.cond (.t 75) .skip (.exit 2)) Td)
def V7:HCode:=.seq (.region none (qm 105 0 11::qm 106 0 12::qf 107 1 17::ql 108 107::qf 109 3 17::ql 110 109::qf 111 1 13::ql 112 111::qo 113 (.bld [.int .i64 0,.int .i64 0] [(0,1,(.t 110)),(1,1,(.t 112))])::qo 114 (.callv (.t 105) [.t 106,.t 108,(qn (-1)),.t 113])::[])) (.exit 5)
def Rk:HCode:=.region none (qm 130 0 11::qm 131 0 12::qf 132 1 17::ql 133 132::qf 134 2 19::ql 135 134::qf 136 3 17::ql 137 136::qf 138 3 19::ql 139 138::qo 140 (.bld [.int .i64 0,.int .i64 0] [(0,1,(.t 137)),(1,1,(.t 139))])::qo 141 (.callv (.t 130) [.t 131,.t 133,.t 135,.t 140])::[])
def Wl:HCode:=.seq (.region none (qf 125 1 19::ql 126 125::qf 127 2 17::ql 128 127::qo 129 (.bin .eql (.t 126) (.t 128))::[])) (.cond (.t 129) Rk .skip)
def Qg:HCode:=.region none (qo 142 (.bin .add (.t 121) (qn 1))::qm 121 0 142::[])
def PU:HCode:=.seq (.block 7 (.seq (.region none (qo 123 (.iaddr 4 (.t 119) (.t 121))::qo 124 (.load true 4 (.t 123))::qo 19 (.newz [.int .i64 0,.int .i64 0,.int .i64 0,.int .i64 0])::⟨none,.store true 4 (.t 19) (.t 124),none⟩::[])) Wl)) Qg
def Ip:HCode:=.seq (.region none (qo 122 (.bin .lss (.t 121) (.t 120))::[])) (.seq (.cond (.t 122) .skip (.exit 6)) PU)
def NV:HCode:=.seq (.region none (qm 115 1 7::qf 116 1 13::ql 117 116::qi 118 115 117::ql 119 118::qo 120 (.len (.t 119))::qo 121 (.mv 0 (qn 0))::[])) (.block 6 (.loop Ip))
def PO:HCode:=.seq (.seq (.region none (qf 102 2 17::ql 103 102::qo 104 (.bin .eql (.t 103) (qn (-1)))::[])) (.cond (.t 104) V7 .skip)) NV
def P6:HCode:=.region none (qo 143 (.bin .add (.t 98) (qn 1))::qm 98 0 143::[])
def Qo:HCode:=.seq (.block 5 (.seq (.region none (qo 100 (.iaddr 4 (.t 96) (.t 98))::qo 101 (.load true 4 (.t 100))::qo 17 (.newz [.int .i64 0,.int .i64 0,.int .i64 0,.int .i64 0])::⟨none,.store true 4 (.t 17) (.t 101),none⟩::[])) PO)) P6
def JZ:HCode:=.seq (.region none (qo 99 (.bin .lss (.t 98) (.t 97))::[])) (.seq (.cond (.t 99) .skip (.exit 4)) Qo)
def Qc:HCode:=.seq (.region none (qo 153 (.bld [.nils,.nils] [])::⟨none,.store false 2 (.t 4) (.t 153),none⟩::qo 5 (.mv 0 (qn 4))::[])) .ret
def O3:HCode:=.seq (.region none (ql 144 9::qo 145 (.len (.t 144))::qo 146 (.bin .gtr (.t 145) (qn 2048))::qm 147 0 146::qg 148 (.faddr 1 (.t 10)) 3 false::qg 149 (.load false 1 (.t 148)) 3 false::qg 150 (.len (.t 149)) 3 false::qg 151 (.bin .gtr (.t 150) (qn 8192)) 3 false::qo 152 (.pick (.t 147) (.c (.bool true)) (.t 151))::[])) (.cond (.t 152) Qc .skip)
def QU:HCode:=.seq (.seq (.region none (qm 92 1 6::qf 93 0 13::ql 94 93::qi 95 92 94::ql 96 95::qo 97 (.len (.t 96))::qo 98 (.mv 0 (qn 0))::[])) (.block 4 (.loop JZ))) O3
def Oc:HCode:=.seq (.seq (.region none (qm 68 1 7::qf 69 1 13::ql 70 69::qi 71 68 70::ql 72 71::qo 73 (.len (.t 72))::qo 74 (.mv 0 (qn 0))::[])) (.block 2 (.loop NP))) QU
def Oy:HCode:=.seq (.region (some [0,1,0,4,0,16,60,124,252,508,1020,508,2556,8188,16380,32764,65532,131071,262143,524287]) (qf 49 0 10::ql 50 49::qf 51 0 2::ql 52 51::qf 53 0 13::ql 54 53::qi 55 52 54::ql 56 55::qm 57 0 56::qg 58 (.faddr 0 (.t 3)) 8 true::qg 59 (.load false 1 (.t 58)) 8 true::qg 60 (.faddr 1 (.t 13)) 8 true::qg 61 (.load false 1 (.t 60)) 8 true::qg 62 (.iaddr 1 (.t 59) (.t 61)) 8 true::qg 63 (.load false 1 (.t 62)) 8 true::qo 64 (.pick (.t 57) (.t 63) (.c (.bool false)))::qo 65 (.bsl 1 1 [.t 64])::qo 66 (.app true 1 1 (.t 50) (.t 65))::qf 67 0 10::⟨none,.store false 1 (.t 67) (.t 66),none⟩::[])) Oc
def Oe:HCode:=.region none (qm 43 0 12::qo 44 (.bin .add (.t 43) (qn 1))::qm 12 0 44::[])
def PW:HCode:=.seq (.block 1 (.seq (.region none (ql 45 9::qm 46 0 12::qo 47 (.iaddr 2 (.t 45) (.t 46))::qo 48 (.load true 2 (.t 47))::qo 13 (.newz [.int .i64 0,.int .i64 0])::⟨none,.store true 2 (.t 13) (.t 48),none⟩::[])) Oy)) Oe
def Jf:HCode:=.seq (.seq (.region none (qm 39 0 12::ql 40 9::qo 41 (.len (.t 40))::qo 42 (.bin .lss (.t 39) (.t 41))::[])) (.cond (.t 42) .skip (.exit 0))) PW
def Jb:HCode:=.seq (.region none (qo 154 (.load true 2 (.t 10))::⟨none,.store false 2 (.t 4) (.t 154),none⟩::qo 5 (.mv 0 (qn 0))::[])) .ret
def QR:HCode:=.seq (.seq (.region none (qo 12 (.mv 0 (qn 0))::[])) (.block 0 (.loop Jf))) Jb
def PY:HCode:=.seq (.region none (qo 38 (.mkfn 65 [.t 8,.t 9,.t 10])::qm 11 0 38::[])) QR
def Qr:HCode:=.seq (.region none (qo 10 (.newz [.nils,.nils])::[])) PY
def PL:HCode:=.seq (.region none (qo 36 (.bld [.int .i64 0,.int .i64 0] [])::qo 37 (.bsl 2 1 [.t 36])::qo 9 (.newz [.nils])::⟨none,.store false 1 (.t 9) (.t 37),none⟩::[])) Qr
def QV:HCode:=.seq (.region none (qo 33 (.mkmap (.ints 2))::qo 34 (.bld [.int .i64 0,.int .i64 0] [])::⟨none,.mset (.ints 2) (.t 33) (.t 34) (qn 0),none⟩::qm 35 0 33::qo 8 (.newz [.nilm])::⟨none,.store false 1 (.t 8) (.t 35),none⟩::[])) PL
def PM:HCode:=.seq (.region (some [0,1,0,7,15,31]) (qo 29 (.load true 2 (.t 2))::qo 30 (.call 64 [.t 29])::qo 31 (.load true 2 (.t 3))::qo 32 (.call 64 [.t 31])::qm 6 1 30::qm 7 1 32::[])) QV
def Oq:HCode:=.seq (.seq (.region none (qo 20 (.load true 2 (.t 2))::qo 21 (.call 26 [.t 20])::qo 22 (.un .not (.t 21))::qm 23 0 22::qg 24 (.load true 2 (.t 3)) 3 false::qg 25 (.call 26 [.t 24]) 3 false::qg 26 (.un .not (.t 25)) 3 false::qo 27 (.pick (.t 23) (.c (.bool true)) (.t 26))::[])) (.cond (.t 27) Vx .skip)) PM
def c21:HCode:=.seq (.region none (qo 2 (.newv 2 (.t 0))::qo 3 (.newv 2 (.t 1))::qo 4 (.newz [.nils,.nils])::qo 5 (.mv 0 (qn 0))::[])) Oq
theorem Xt:kD Try.prog 21=some (c21,[.c 4 true 2,.t 5],155):=by kernel_rfl
def Wx:HCode:=.seq (.region none (qo 9 (.bld [.nils,.nils] [])::⟨none,.store false 2 (.t 2) (.t 9),none⟩::[])) .ret
def Uc:HCode:=.region none (qf 21 1 3::ql 22 21::qf 23 0 5::ql 24 23::qf 25 2 5::ql 26 25::qf 27 1 5::ql 28 27::qf 29 3 5::ql 30 29::qo 31 (.bld [.int .i64 0,.int .i64 0,.int .i64 0,.int .i64 0] [(0,1,(.t 24)),(1,1,(.t 26)),(2,1,(.t 28)),(3,1,(.t 30))])::qo 32 (.bsl 4 1 [.t 31])::qo 33 (.app true 4 32 (.t 22) (.t 32))::qf 34 1 3::⟨none,.store false 1 (.t 34) (.t 33),none⟩::[])
def Ue:HCode:=.region none (qo 35 (.bin .add (.t 17) (qn 1))::qm 17 0 35::[])
def Si:HCode:=.seq (.block 1 (.seq (.region none (qo 19 (.iaddr 4 (.t 15) (.t 17))::qo 20 (.load true 4 (.t 19))::qo 5 (.newz [.int .i64 0,.int .i64 0,.int .i64 0,.int .i64 0])::⟨none,.store true 4 (.t 5) (.t 20),none⟩::[])) Uc)) Ue
def Vj:HCode:=.seq (.region none (qo 18 (.bin .lss (.t 17) (.t 16))::[])) (.seq (.cond (.t 18) .skip (.exit 0)) Si)
def Ry:HCode:=.seq (.region none (qo 36 (.load true 2 (.t 3))::⟨none,.store false 2 (.t 2) (.t 36),none⟩::[])) .ret
def U9:HCode:=.seq (.seq (.region none (qf 14 1 1::ql 15 14::qo 16 (.len (.t 15))::qo 17 (.mv 0 (qn 0))::[])) (.block 0 (.loop Vj))) Ry
def VL:HCode:=.seq (.region none (qf 10 0 1::ql 11 10::qo 12 (.call 67 [.t 11])::qo 13 (.bld [.nils,.nils] [(0,1,(.t 12))])::qo 3 (.newz [.nils,.nils])::⟨none,.store false 2 (.t 3) (.t 13),none⟩::[])) U9
def Um:HCode:=.seq (.seq (.region none (qo 6 (.load true 2 (.t 1))::qo 7 (.call 26 [.t 6])::qo 8 (.un .not (.t 7))::[])) (.cond (.t 8) Wx .skip)) VL
def c23:HCode:=.seq (.region none (qo 1 (.newv 2 (.t 0))::qo 2 (.newz [.nils,.nils])::[])) Um
theorem Xj:kD Try.prog 23=some (c23,[.c 2 true 2],37):=by kernel_rfl
def Wj:HCode:=.seq (.region none (qo 4 (.mv 0 (.c (.bool true)))::[])) .ret
def Ud:HCode:=.region none (qm 10 0 5::qo 11 (.bin .add (.t 10) (qn 1))::qm 5 0 11::[])
def Vw:HCode:=.seq (.block 1 (.seq (.region none (qm 12 1 0::qm 13 0 5::qi 14 12 13::ql 15 14::qm 16 1 1::qo 17 (.call 62 [.t 15,.t 16])::[])) (.cond (.t 17) Wj .skip))) Ud
def VI:HCode:=.seq (.seq (.region none (qm 6 0 5::qm 7 1 0::qo 8 (.len (.t 7))::qo 9 (.bin .lss (.t 6) (.t 8))::[])) (.cond (.t 9) .skip (.exit 0))) Vw
def UN:HCode:=.seq (.region none (qo 4 (.mv 0 (.c (.bool false)))::[])) .ret
def Rt:HCode:=.seq (.seq (.region none (qo 5 (.mv 0 (qn 0))::[])) (.block 0 (.loop VI))) UN
def c24:HCode:=.seq (.region none (qo 4 (.mv 0 (.c (.bool false)))::[])) Rt
theorem Xv:dE Try.prog 24=some (c24,[4],18):=by kernel_rfl
def Rq:HCode:=.seq (.region none (qo 2 (.mv 0 (.c (.bool false)))::[])) .ret
def Vs:HCode:=.seq (.region none (qo 2 (.mv 0 (.c (.bool false)))::[])) .ret
def VO:HCode:=.seq (.region none (qf 28 0 5::ql 29 28::qo 30 (.bin .lss (.t 29) (qn 0))::qm 31 0 30::qg 32 (.faddr 0 (.t 5)) 3 false::qg 33 (.load false 1 (.t 32)) 3 false::qg 34 (.mv 0 (.t 3)) 3 false::qg 35 (.bin .geq (.t 33) (.t 34)) 3 false::qo 36 (.pick (.t 31) (.c (.bool true)) (.t 35))::qm 37 0 36::qg 38 (.faddr 3 (.t 5)) 9 false::qg 39 (.load false 1 (.t 38)) 9 false::qg 40 (.bin .lss (.t 39) (qn 0)) 9 false::qo 41 (.pick (.t 37) (.c (.bool true)) (.t 40))::qm 42 0 41::qg 43 (.faddr 3 (.t 5)) 14 false::qg 44 (.load false 1 (.t 43)) 14 false::qg 45 (.mv 0 (.t 3)) 14 false::qg 46 (.bin .geq (.t 44) (.t 45)) 14 false::qo 47 (.pick (.t 42) (.c (.bool true)) (.t 46))::qm 48 0 47::qg 49 (.faddr 1 (.t 5)) 20 false::qg 50 (.load false 1 (.t 49)) 20 false::qg 51 (.call 72 [.t 50]) 20 false::qg 52 (.un .not (.t 51)) 20 false::qg 53 (.mv 0 (.t 52)) 20 false::qg 54 (.faddr 1 (.t 5)) 25 true::qg 55 (.load false 1 (.t 54)) 25 true::qg 56 (.bin .neq (.t 55) (qn (-1))) 25 true::qg 57 (.pick (.t 53) (.t 56) (.c (.bool false))) 20 false::qo 58 (.pick (.t 48) (.c (.bool true)) (.t 57))::qm 59 0 58::qg 60 (.faddr 2 (.t 5)) 31 false::qg 61 (.load false 1 (.t 60)) 31 false::qg 62 (.call 72 [.t 61]) 31 false::qg 63 (.un .not (.t 62)) 31 false::qg 64 (.mv 0 (.t 63)) 31 false::qg 65 (.faddr 2 (.t 5)) 36 true::qg 66 (.load false 1 (.t 65)) 36 true::qg 67 (.bin .neq (.t 66) (qn (-1))) 36 true::qg 68 (.pick (.t 64) (.t 67) (.c (.bool false))) 31 false::qo 69 (.pick (.t 59) (.c (.bool true)) (.t 68))::[])) (.cond (.t 69) Vs .skip)
def WC:HCode:=.region none (qo 70 (.bin .add (.t 24) (qn 1))::qm 24 0 70::[])
def UG:HCode:=.seq (.block 1 (.seq (.region none (qo 26 (.iaddr 4 (.t 22) (.t 24))::qo 27 (.load true 4 (.t 26))::qo 5 (.newz [.int .i64 0,.int .i64 0,.int .i64 0,.int .i64 0])::⟨none,.store true 4 (.t 5) (.t 27),none⟩::[])) VO)) WC
def RG:HCode:=.seq (.region none (qo 25 (.bin .lss (.t 24) (.t 23))::[])) (.seq (.cond (.t 25) .skip (.exit 0)) UG)
def Uy:HCode:=.seq (.region none (qo 2 (.mv 0 (.c (.bool true)))::[])) .ret
def VS:HCode:=.seq (.seq (.region none (qf 21 1 1::ql 22 21::qo 23 (.len (.t 22))::qo 24 (.mv 0 (qn 0))::[])) (.block 0 (.loop RG))) Uy
def TZ:HCode:=.seq (.seq (.region none (qm 9 0 3::qo 10 (.bin .lss (.t 9) (qn 1))::qm 11 0 10::qg 12 (.mv 0 (.t 3)) 2 false::qg 13 (.bin .gtr (.t 12) (qn 2048)) 2 false::qo 14 (.pick (.t 11) (.c (.bool true)) (.t 13))::qm 15 0 14::qg 16 (.faddr 1 (.t 1)) 6 false::qg 17 (.load false 1 (.t 16)) 6 false::qg 18 (.len (.t 17)) 6 false::qg 19 (.bin .gtr (.t 18) (qn 8192)) 6 false::qo 20 (.pick (.t 15) (.c (.bool true)) (.t 19))::[])) (.cond (.t 20) Rq .skip)) VS
def O0:HCode:=.seq (.region none (qf 6 0 1::ql 7 6::qo 8 (.len (.t 7))::qm 3 0 8::[])) TZ
def XI:HCode:=.seq (.region none (qo 1 (.newv 2 (.t 0))::qo 2 (.mv 0 (.c (.bool false)))::[])) O0
theorem WW:dE Try.prog 26=some (XI,[2],71):=by kernel_rfl
def RQ:HCode:=.seq (.region none (qo 25 (.bld [.nils,.nils] [])::⟨none,.store false 2 (.t 4) (.t 25),none⟩::[])) .ret
def Sz:HCode:=.region (some [0,1,0,0,0,24,0,0,248,0,512,2044,4092,8191,16383,32767]) (qf 43 1 7::ql 44 43::qm 45 0 8::qm 46 1 0::qm 47 0 8::qo 48 (.call 80 [.t 46,.t 47])::qm 49 1 1::qm 50 0 8::qo 51 (.call 80 [.t 49,.t 50])::qm 52 0 8::qo 53 (.bin .add (.t 52) (qn 1))::qo 54 (.bld [.int .i64 0,.int .i64 0,.int .i64 0,.int .i64 0] [(0,1,(.t 45)),(1,1,(.t 48)),(2,1,(.t 51)),(3,1,(.t 53))])::qo 55 (.bsl 4 1 [.t 54])::qo 56 (.app true 4 32 (.t 44) (.t 55))::qf 57 1 7::⟨none,.store false 1 (.t 57) (.t 56),none⟩::[])
def TP:HCode:=.region none (qo 58 (.bin .add (.t 40) (qn 1))::qm 40 0 58::[])
def VF:HCode:=.seq (.block 1 (.seq (.region none (qm 42 0 40::qm 8 0 42::[])) Sz)) TP
def TJ:HCode:=.seq (.region none (qo 41 (.bin .lss (.t 40) (.t 39))::[])) (.seq (.cond (.t 41) .skip (.exit 0)) VF)
def Vu:HCode:=.seq (.region none (qo 59 (.load true 2 (.t 7))::⟨none,.store false 2 (.t 4) (.t 59),none⟩::[])) .ret
def TK:HCode:=.seq (.seq (.region none (qm 39 0 6::qo 40 (.mv 0 (qn 0))::[])) (.block 0 (.loop TJ))) Vu
def VE:HCode:=.seq (.region none (qf 35 0 7::ql 36 35::qm 37 0 6::qi 38 36 37::⟨none,.store true 1 (.t 38) (.c (.bool true)),none⟩::[])) TK
def TS:HCode:=.seq (.region none (qm 31 0 6::qo 32 (.bin .add (.t 31) (qn 1))::qo 33 (.mksl 1 1 [.bool false] (.t 32))::qo 34 (.bld [.nils,.nils] [(0,1,(.t 33))])::qo 7 (.newz [.nils,.nils])::⟨none,.store false 2 (.t 7) (.t 34),none⟩::[])) VE
def QG:HCode:=.seq (.region none (qm 26 1 0::qo 27 (.len (.t 26))::qm 28 1 1::qo 29 (.len (.t 28))::qo 30 (.mm true (.t 27) (.t 29))::qm 6 0 30::[])) TS
def Qq:HCode:=.seq (.seq (.region none (qm 9 1 0::qm 10 0 5::qo 11 (.call 79 [.t 9,.t 10])::qm 12 0 11::qg 13 (.mv 1 (.t 1)) 3 false::qg 14 (.mv 0 (.t 5)) 3 false::qg 15 (.call 79 [.t 13,.t 14]) 3 false::qo 16 (.pick (.t 12) (.c (.bool true)) (.t 15))::qm 17 0 16::qg 18 (.mv 1 (.t 0)) 8 false::qg 19 (.len (.t 18)) 8 false::qg 20 (.mv 1 (.t 1)) 8 false::qg 21 (.len (.t 20)) 8 false::qg 22 (.mm true (.t 19) (.t 21)) 8 false::qg 23 (.bin .gtr (.t 22) (qn 1024)) 8 false::qo 24 (.pick (.t 17) (.c (.bool true)) (.t 23))::[])) (.cond (.t 24) RQ .skip)) QG
def P8:HCode:=.seq (.region none (qo 5 (.mv 0 (.c (.fn 78 [])))::[])) Qq
def c32:HCode:=.seq (.region none (qo 4 (.newz [.nils,.nils])::[])) P8
theorem Xx:kD Try.prog 32=some (c32,[.c 4 true 2],60):=by kernel_rfl
def VT:HCode:=.seq (.region none (qo 6 (.mv 0 (qn 0))::[])) .ret
def TI:HCode:=.seq (.region none (qm 15 1 0::qm 16 0 1::qi 17 15 16::ql 18 17::qm 19 0 2::qo 20 (.call 16 [.t 18,.t 19])::qm 6 0 20::[])) .ret
def VR:HCode:=.seq (.seq (.region none (qm 7 0 1::qo 8 (.bin .lss (.t 7) (qn 0))::qm 9 0 8::qg 10 (.mv 0 (.t 1)) 2 false::qg 11 (.mv 1 (.t 0)) 2 false::qg 12 (.len (.t 11)) 2 false::qg 13 (.bin .geq (.t 10) (.t 12)) 2 false::qo 14 (.pick (.t 9) (.c (.bool true)) (.t 13))::[])) (.cond (.t 14) VT .skip)) TI
def X7:HCode:=.seq (.region none (qo 6 (.mv 0 (qn 0))::[])) VR
theorem WZ:dE Try.prog 50=some (X7,[6],21):=by kernel_rfl
def Q8:HCode:=.seq (.region none (qm 3 0 0::qo 4 (.bin .rem (.t 3) (qn 7))::qo 5 (.bin .rem (.t 4) (qn 4))::qo 6 (.bin .sub (.t 5) (qn 1))::qm 2 0 6::[])) .ret
def c51:HCode:=.seq (.region none (qo 2 (.mv 0 (qn 0))::[])) Q8
theorem WN:dE Try.prog 51=some (c51,[2],7):=by kernel_rfl
def NT:HCode:=.region (some [0,0,2,0,0,16,56,120,0,256,1016,2047,4095]) (qm 32 1 6::qf 33 3 8::ql 34 33::qm 35 1 6::qf 36 3 8::ql 37 36::qi 38 35 37::ql 39 38::qo 40 (.load true 4 (.t 8))::qo 41 (.bsl 4 1 [.t 40])::qo 42 (.app true 4 32 (.t 39) (.t 41))::qi 43 32 34::⟨none,.store false 1 (.t 43) (.t 42),none⟩::[])
def UO:HCode:=.region none (qo 44 (.bin .add (.t 28) (qn 1))::qm 28 0 44::[])
def TR:HCode:=.seq (.block 1 (.seq (.region none (qo 30 (.iaddr 4 (.t 26) (.t 28))::qo 31 (.load true 4 (.t 30))::qo 8 (.newz [.int .i64 0,.int .i64 0,.int .i64 0,.int .i64 0])::⟨none,.store true 4 (.t 8) (.t 31),none⟩::[])) NT)) UO
def U6:HCode:=.seq (.region none (qo 29 (.bin .lss (.t 28) (.t 27))::[])) (.seq (.cond (.t 29) .skip (.exit 0)) TR)
def S9:HCode:=.region none (qm 53 2 9::qm 54 0 11::qm 55 1 1::qo 56 (.len (.t 55))::qo 57 (.bld [.int .i64 0,.int .i64 0] [(0,1,(.t 54)),(1,1,(.t 56))])::qo 58 (.bsl 2 1 [.t 57])::qo 59 (.app true 2 16 (.t 53) (.t 58))::qm 9 2 59::[])
def Vm:HCode:=.region none (qo 60 (.bin .add (.t 49) (qn 1))::qm 49 0 60::[])
def Vp:HCode:=.seq (.block 3 (.seq (.region none (qi 51 47 49::ql 52 51::qm 11 0 52::[])) S9)) Vm
def Rl:HCode:=.seq (.region none (qo 50 (.bin .lss (.t 49) (.t 48))::[])) (.seq (.cond (.t 50) .skip (.exit 2)) Vp)
def Vk:HCode:=.region none (qm 99 2 9::qf 100 0 14::ql 101 100::qf 102 1 12::ql 103 102::qo 104 (.bld [.int .i64 0,.int .i64 0] [(0,1,(.t 101)),(1,1,(.t 103))])::qo 105 (.bsl 2 1 [.t 104])::qo 106 (.app true 2 16 (.t 99) (.t 105))::qm 9 2 106::[])
def OE:HCode:=.region none (qm 121 2 9::qf 122 0 14::ql 123 122::qf 124 1 12::ql 125 124::qo 126 (.bin .sub (.t 125) (qn 1))::qo 127 (.bld [.int .i64 0,.int .i64 0] [(0,1,(.t 123)),(1,1,(.t 126))])::qo 128 (.bsl 2 1 [.t 127])::qo 129 (.app true 2 16 (.t 121) (.t 128))::qm 9 2 129::[])
def Ov:HCode:=.seq (.region (some [0,1,3,7,15,15,47,111,255,511,15,1039,4095,8191]) (qf 107 1 12::ql 108 107::qo 109 (.bin .gtr (.t 108) (qn 0))::qm 110 0 109::qg 111 (.mv 1 (.t 1)) 3 true::qg 112 (.faddr 1 (.t 12)) 3 true::qg 113 (.load false 1 (.t 112)) 3 true::qg 114 (.bin .sub (.t 113) (qn 1)) 3 true::qg 115 (.iaddr 1 (.t 111) (.t 114)) 3 true::qg 116 (.load false 1 (.t 115)) 3 true::qg 117 (.faddr 1 (.t 14)) 3 true::qg 118 (.load false 1 (.t 117)) 3 true::qg 119 (.bin .eql (.t 116) (.t 118)) 3 true::qo 120 (.pick (.t 110) (.t 119) (.c (.bool false)))::[])) (.cond (.t 120) OE .skip)
def QP:HCode:=.seq (.region none (qf 96 1 14::ql 97 96::qo 98 (.bin .eql (.t 97) (qn (-1)))::[])) (.cond (.t 98) Vk Ov)
def QY:HCode:=.region none (qo 130 (.bin .add (.t 92) (qn 1))::qm 92 0 130::[])
def Oa:HCode:=.seq (.block 7 (.seq (.region none (qo 94 (.iaddr 4 (.t 90) (.t 92))::qo 95 (.load true 4 (.t 94))::qo 14 (.newz [.int .i64 0,.int .i64 0,.int .i64 0,.int .i64 0])::⟨none,.store true 4 (.t 14) (.t 95),none⟩::[])) QP)) QY
def Px:HCode:=.seq (.region none (qo 93 (.bin .lss (.t 92) (.t 91))::[])) (.seq (.cond (.t 93) .skip (.exit 6)) Oa)
def Qy:HCode:=.seq (.region none (qm 86 1 6::qf 87 0 12::ql 88 87::qi 89 86 88::ql 90 89::qo 91 (.len (.t 90))::qo 92 (.mv 0 (qn 0))::[])) (.block 6 (.loop Px))
def Qz:HCode:=.seq (.region (some [0,1,3,7,0,31]) (qm 81 0 5::qo 82 (.nilck (.t 81))::qf 83 2 82::ql 84 83::qo 85 (.load true 2 (.t 12))::⟨none,.mset (.ints 2) (.t 84) (.t 85) (.c (.bool true)),none⟩::[])) Qy
def Oz:HCode:=.seq (.seq (.region (some [0,1,3,7,0,31]) (qm 75 0 5::qo 76 (.nilck (.t 75))::qf 77 2 76::ql 78 77::qo 79 (.load true 2 (.t 12))::qo 80 (.mlook false (.ints 2) (.bool false) (.t 78) (.t 79))::[])) (.cond (.t 80) (.exit 5) .skip)) Qz
def Qs:HCode:=.seq (.region none (qm 70 2 9::qm 71 2 9::qo 72 (.len (.t 71))::qo 73 (.bin .sub (.t 72) (qn 1))::qo 74 (.slc 2 (.t 70) none (some (.t 73)))::qm 9 2 74::[])) Oz
def Pz:HCode:=.block 5 (.seq (.region none (qm 64 2 9::qm 65 2 9::qo 66 (.len (.t 65))::qo 67 (.bin .sub (.t 66) (qn 1))::qo 68 (.iaddr 2 (.t 64) (.t 67))::qo 69 (.load true 2 (.t 68))::qo 12 (.newz [.int .i64 0,.int .i64 0])::⟨none,.store true 2 (.t 12) (.t 69),none⟩::[])) Qs)
def Qb:HCode:=.seq (.seq (.region none (qm 61 2 9::qo 62 (.len (.t 61))::qo 63 (.bin .gtr (.t 62) (qn 0))::[])) (.cond (.t 63) .skip (.exit 4))) Pz
def P9:HCode:=.seq (.region none (qm 131 0 5::qm 4 0 131::[])) .ret
def PE:HCode:=.seq (.seq (.region none (qf 45 0 2::ql 46 45::qo 47 (.call 70 [.t 46])::qo 48 (.len (.t 47))::qo 49 (.mv 0 (qn 0))::[])) (.block 2 (.loop Rl))) (.seq (.block 4 (.loop Qb)) P9)
def Qe:HCode:=.seq (.region none (qo 9 (.mv 2 (.c .nils))::[])) PE
def QW:HCode:=.seq (.seq (.region none (qf 25 1 2::ql 26 25::qo 27 (.len (.t 26))::qo 28 (.mv 0 (qn 0))::[])) (.block 0 (.loop U6))) Qe
def QE:HCode:=.seq (.region none (qf 21 0 2::ql 22 21::qo 23 (.len (.t 22))::qo 24 (.mksl 1 24 [.osl 4 0 []] (.t 23))::qm 6 1 24::[])) QW
def Pn:HCode:=.seq (.region none (qm 15 1 1::qo 16 (.load true 2 (.t 2))::qo 17 (.call 64 [.t 16])::qo 18 (.mkmap (.ints 2))::qo 19 (.bld [.nils,.nils,.nilm] [(0,1,(.t 15)),(1,1,(.t 17)),(2,1,(.t 18))])::qo 20 (.newv 3 (.t 19))::qm 5 0 20::[])) QE
def XW:HCode:=.seq (.region none (qo 2 (.newv 2 (.t 0))::qo 4 (.mv 0 (.c .nilp))::[])) Pn
theorem Xd:dE Try.prog 54=some (XW,[4],132):=by kernel_rfl
def VY:HCode:=.region none (qm 20 0 5::qo 21 (.load true 2 (.t 7))::⟨none,.mset (.ints 2) (.t 20) (.t 21) (.c (.bool true)),none⟩::[])
def Vo:HCode:=.region none (qo 22 (.bin .add (.t 16) (qn 1))::qm 16 0 22::[])
def U7:HCode:=.seq (.block 1 (.seq (.region none (qo 18 (.iaddr 2 (.t 14) (.t 16))::qo 19 (.load true 2 (.t 18))::qo 7 (.newz [.int .i64 0,.int .i64 0])::⟨none,.store true 2 (.t 7) (.t 19),none⟩::[])) VY)) Vo
def TW:HCode:=.seq (.region none (qo 17 (.bin .lss (.t 16) (.t 15))::[])) (.seq (.cond (.t 17) .skip (.exit 0)) U7)
def TU:HCode:=.region none (qm 70 2 1::qo 71 (.load true 2 (.t 11))::qo 72 (.bsl 2 1 [.t 71])::qo 73 (.app true 2 16 (.t 70) (.t 72))::qm 1 2 73::[])
def UX:HCode:=.seq (.region none (qm 68 0 5::qo 69 (.load true 2 (.t 11))::⟨none,.mset (.ints 2) (.t 68) (.t 69) (.c (.bool true)),none⟩::[])) TU
def V8:HCode:=.seq (.region none (qm 56 0 12::qm 57 0 56::qg 58 (.faddr 2 (.t 10)) 1 true::qg 59 (.load false 1 (.t 58)) 1 true::qg 60 (.bin .eql (.t 59) (qn (-1))) 1 true::qo 61 (.pick (.t 57) (.t 60) (.c (.bool false)))::qm 62 0 61::qg 63 (.mv 0 (.t 5)) 6 true::qg 64 (.load true 2 (.t 11)) 6 true::qg 65 (.mlook false (.ints 2) (.bool false) (.t 63) (.t 64)) 6 true::qg 66 (.un .not (.t 65)) 6 true::qo 67 (.pick (.t 62) (.t 66) (.c (.bool false)))::[])) (.cond (.t 67) UX .skip)
def Uo:HCode:=.seq (.region (some [0,0,0,0,12,28,60,127,255,511,511,0,3071,8191]) (qm 46 0 0::qo 47 (.load true 4 (.t 10))::qm 48 2 1::qm 49 0 8::qo 50 (.iaddr 2 (.t 48) (.t 49))::qf 51 1 50::ql 52 51::qo 53 (.call 99 [.t 46,.t 47,.t 52])::qm 45 0 53::qe 54 45 0::qe 55 45 1::qo 11 (.newz [.int .i64 0,.int .i64 0])::⟨none,.store true 2 (.t 11) (.t 54),none⟩::qm 12 0 55::[])) V8
def UE:HCode:=.region none (qo 74 (.bin .add (.t 41) (qn 1))::qm 41 0 74::[])
def Qi:HCode:=.seq (.block 5 (.seq (.region none (qo 43 (.iaddr 4 (.t 39) (.t 41))::qo 44 (.load true 4 (.t 43))::qo 10 (.newz [.int .i64 0,.int .i64 0,.int .i64 0,.int .i64 0])::⟨none,.store true 4 (.t 10) (.t 44),none⟩::[])) Uo)) UE
def QO:HCode:=.seq (.region none (qo 42 (.bin .lss (.t 41) (.t 40))::[])) (.seq (.cond (.t 42) .skip (.exit 4)) Qi)
def OY:HCode:=.region none (qm 27 0 8::qo 28 (.bin .add (.t 27) (qn 1))::qm 8 0 28::[])
def Pm:HCode:=.seq (.block 3 (.seq (.region (some [0,1,3,7,0,0,48,112,240,511,1023,2047,0]) (qm 29 0 0::qo 30 (.nilck (.t 29))::qf 31 1 30::ql 32 31::qm 33 2 1::qm 34 0 8::qo 35 (.iaddr 2 (.t 33) (.t 34))::qf 36 0 35::ql 37 36::qi 38 32 37::ql 39 38::qo 40 (.len (.t 39))::qo 41 (.mv 0 (qn 0))::[])) (.block 4 (.loop QO)))) OY
def QI:HCode:=.seq (.seq (.region none (qm 23 0 8::qm 24 2 1::qo 25 (.len (.t 24))::qo 26 (.bin .lss (.t 23) (.t 25))::[])) (.cond (.t 26) .skip (.exit 2))) Pm
def QB:HCode:=.seq (.region none (qm 75 2 1::qm 4 2 75::[])) .ret
def PV:HCode:=.seq (.seq (.region none (qo 8 (.mv 0 (qn 0))::[])) (.block 2 (.loop QI))) QB
def QC:HCode:=.seq (.seq (.region none (qm 14 2 1::qo 15 (.len (.t 14))::qo 16 (.mv 0 (qn 0))::[])) (.block 0 (.loop TW))) PV
def OG:HCode:=.seq (.region none (qo 13 (.mkmap (.ints 2))::qm 5 0 13::[])) QC
def XN:HCode:=.seq (.region none (qo 4 (.mv 2 (.c .nils))::[])) OG
theorem Xb:dE Try.prog 55=some (XN,[4],76):=by kernel_rfl
def UZ:HCode:=.seq (.region none (qm 5 2 0::qm 6 0 1::qo 7 (.call 100 [.t 5,.t 6])::qo 8 (.bin .geq (.t 7) (qn 0))::qm 4 0 8::[])) .ret
def X8:HCode:=.seq (.region none (qo 4 (.mv 0 (.c (.bool false)))::[])) UZ
theorem Xl:dE Try.prog 56=some (X8,[4],9):=by kernel_rfl
def TA:HCode:=.seq (.region none (qf 5 1 3::ql 6 5::ql 7 1::qo 8 (.len (.t 7))::qo 9 (.bin .eql (.t 6) (.t 8))::qm 10 0 9::qg 11 (.faddr 0 (.t 2)) 5 true::qg 12 (.load false 1 (.t 11)) 5 true::qg 13 (.faddr 0 (.t 3)) 5 true::qg 14 (.load false 1 (.t 13)) 5 true::qg 15 (.iaddr 1 (.t 12) (.t 14)) 5 true::qg 16 (.load false 1 (.t 15)) 5 true::qo 17 (.pick (.t 10) (.t 16) (.c (.bool false)))::qm 4 0 17::[])) .ret
def XY:HCode:=.seq (.region none (qo 3 (.newv 2 (.t 0))::qo 4 (.mv 0 (.c (.bool false)))::[])) TA
theorem WX:dE Try.prog 57=some (XY,[4],18):=by kernel_rfl
def TQ:HCode:=.region none (qm 56 0 5::qf 57 2 9::ql 58 57::qo 59 (.mkmap (.ints 2))::⟨none,.mset (.int .i64) (.t 56) (.t 58) (.t 59),none⟩::[])
def SE:HCode:=.region none (qm 60 0 5::qf 61 2 9::ql 62 61::qo 63 (.mlook false (.int .i64) .nilm (.t 60) (.t 62))::qo 64 (.load true 2 (.t 10))::⟨none,.mset (.ints 2) (.t 63) (.t 64) (.c (.bool true)),none⟩::[])
def TN:HCode:=.seq (.seq (.region none (qm 51 0 5::qf 52 2 9::ql 53 52::qo 54 (.mlook false (.int .i64) .nilm (.t 51) (.t 53))::qo 55 (.mnil false (.t 54))::[])) (.cond (.t 55) TQ .skip)) SE
def Sj:HCode:=.seq (.region none (qm 45 0 11::qm 46 0 45::qg 47 (.faddr 2 (.t 9)) 1 true::qg 48 (.load false 1 (.t 47)) 1 true::qg 49 (.bin .neq (.t 48) (qn (-1))) 1 true::qo 50 (.pick (.t 46) (.t 49) (.c (.bool false)))::[])) (.cond (.t 50) TN .skip)
def VW:HCode:=.seq (.region none (qm 38 0 0::qo 39 (.load true 4 (.t 9))::qf 40 1 7::ql 41 40::qo 42 (.call 99 [.t 38,.t 39,.t 41])::qm 37 0 42::qe 43 37 0::qe 44 37 1::qo 10 (.newz [.int .i64 0,.int .i64 0])::⟨none,.store true 2 (.t 10) (.t 43),none⟩::qm 11 0 44::[])) Sj
def Rw:HCode:=.region none (qo 65 (.bin .add (.t 33) (qn 1))::qm 33 0 65::[])
def VV:HCode:=.seq (.block 3 (.seq (.region none (qo 35 (.iaddr 4 (.t 31) (.t 33))::qo 36 (.load true 4 (.t 35))::qo 9 (.newz [.int .i64 0,.int .i64 0,.int .i64 0,.int .i64 0])::⟨none,.store true 4 (.t 9) (.t 36),none⟩::[])) VW)) Rw
def Sv:HCode:=.seq (.region none (qo 34 (.bin .lss (.t 33) (.t 32))::[])) (.seq (.cond (.t 34) .skip (.exit 2)) VV)
def UQ:HCode:=.seq (.region (some [0,1,3,7,0,16,63,127,255,0]) (qm 24 0 0::qo 25 (.nilck (.t 24))::qf 26 1 25::ql 27 26::qf 28 0 7::ql 29 28::qi 30 27 29::ql 31 30::qo 32 (.len (.t 31))::qo 33 (.mv 0 (qn 0))::[])) (.block 2 (.loop Sv))
def PP:HCode:=.region none (qo 66 (.bin .add (.t 20) (qn 1))::qm 20 0 66::[])
def Ox:HCode:=.seq (.block 1 (.seq (.region none (qo 22 (.iaddr 2 (.t 18) (.t 20))::qo 23 (.load true 2 (.t 22))::qo 7 (.newz [.int .i64 0,.int .i64 0])::⟨none,.store true 2 (.t 7) (.t 23),none⟩::[])) UQ)) PP
def Qh:HCode:=.seq (.region none (qo 21 (.bin .lss (.t 20) (.t 19))::[])) (.seq (.cond (.t 21) .skip (.exit 0)) Ox)
def Qu:HCode:=.region none (qm 78 2 14::qo 79 (.load true 2 (.t 15))::qo 80 (.bsl 2 1 [.t 79])::qo 81 (.app true 2 16 (.t 78) (.t 80))::qm 14 2 81::[])
def Qv:HCode:=.block 7 (.seq (.region none (qo 76 (.ment (.t 73))::qe 77 76 0::qo 15 (.newz [.int .i64 0,.int .i64 0])::⟨none,.store true 2 (.t 15) (.t 77),none⟩::[])) Qu)
def OU:HCode:=.seq (.region none (qo 74 (.mnxt (.t 73))::qe 75 74 0::[])) (.seq (.cond (.t 75) .skip (.exit 6)) Qv)
def Py:HCode:=.region none (qm 85 2 12::qf 86 0 3::ql 87 86::qo 88 (.call 101 [.t 87])::qm 89 0 13::qo 90 (.bsl 1 1 [.t 89])::qo 91 (.app true 1 8 (.t 88) (.t 90))::qm 92 0 0::qm 93 2 14::qo 94 (.call 55 [.t 92,.t 93])::qo 95 (.bld [.nils,.nils] [(0,1,(.t 91)),(1,1,(.t 94))])::qo 96 (.bsl 2 1 [.t 95])::qo 97 (.app false 2 48 (.t 85) (.t 96))::qm 12 2 97::[])
def O1:HCode:=.seq (.region none (qm 82 2 14::qo 83 (.len (.t 82))::qo 84 (.bin .gtr (.t 83) (qn 0))::[])) (.cond (.t 84) Py .skip)
def QS:HCode:=.seq (.seq (.region none (qm 70 0 5::qm 71 0 13::qo 72 (.mlook false (.int .i64) .nilm (.t 70) (.t 71))::qo 73 (.mrng (.t 72))::[])) (.block 6 (.loop OU))) O1
def OD:HCode:=.seq (.region none (qo 14 (.mv 2 (.c .nils))::[])) QS
def Og:HCode:=.region none (qo 98 (.bin .add (.t 67) (qn 1))::qm 67 0 98::[])
def OM:HCode:=.seq (.block 5 (.seq (.region none (qm 69 0 67::qm 13 0 69::[])) OD)) Og
def Ko:HCode:=.seq (.region none (qo 68 (.bin .lss (.t 67) (qn 64))::[])) (.seq (.cond (.t 68) .skip (.exit 4)) OM)
def IJ:HCode:=.seq (.region none (qm 99 2 12::qm 4 2 99::[])) .ret
def Oo:HCode:=.seq (.seq (.region none (qo 67 (.mv 0 (qn 0))::[])) (.block 4 (.loop Ko))) IJ
def Ot:HCode:=.seq (.region none (qo 12 (.mv 2 (.c .nils))::[])) Oo
def QK:HCode:=.seq (.seq (.region none (qf 17 1 3::ql 18 17::qo 19 (.len (.t 18))::qo 20 (.mv 0 (qn 0))::[])) (.block 0 (.loop Qh))) Ot
def Qp:HCode:=.seq (.region none (qo 16 (.mkmap (.int .i64))::qm 5 0 16::[])) QK
def XK:HCode:=.seq (.region none (qo 3 (.newv 2 (.t 1))::qo 4 (.mv 2 (.c .nils))::[])) Qp
theorem Xo:dE Try.prog 58=some (XK,[4],100):=by kernel_rfl
end Go.Proofs.Ytlbdmpjnmfmnfaa
