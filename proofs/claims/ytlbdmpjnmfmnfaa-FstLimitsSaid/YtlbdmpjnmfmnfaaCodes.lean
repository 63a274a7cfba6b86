import Derived.Test.YtlbdmpjnmfmnfaaHl4
import Derived.Test.YtlbdmpjnmfmnfaaProg
import Derived.Test.YtlbdmpjnmfmnfaaCodes1
namespace Go.Proofs.Ytlbdmpjnmfmnfaa
open Go.HL
set_option maxRecDepth 100000
set_option linter.unusedVariables false
def W9:HCode:=.seq (.region none (qo 4 (.mv 0 (.c (.bool false)))::[])) .ret
def Y6:HCode:=.seq (.region none (qo 4 (.mv 0 (.c (.bool false)))::[])) .ret
def XT:HCode:=.region none (qm 15 0 5::qo 16 (.bin .add (.t 15) (qn 1))::qm 5 0 16::[])
def Vs:HCode:=.seq (.block 1 (.seq (.region (some [0,0,3,7,0,0,48,112,255]) (qm 17 1 0::qm 18 0 5::qi 19 17 18::ql 20 19::qm 21 1 1::qm 22 0 5::qi 23 21 22::ql 24 23::qo 25 (.bin .neq (.t 20) (.t 24))::[])) (.cond (.t 25) Y6 .skip))) XT
def YZ:HCode:=.seq (.seq (.region none (qm 11 0 5::qm 12 1 0::qo 13 (.len (.t 12))::qo 14 (.bin .lss (.t 11) (.t 13))::[])) (.cond (.t 14) .skip (.exit 0))) Vs
def XB:HCode:=.seq (.region none (qo 4 (.mv 0 (.c (.bool true)))::[])) .ret
def Zv:HCode:=.seq (.seq (.region none (qo 5 (.mv 0 (qn 0))::[])) (.block 0 (.loop YZ))) XB
def WQ:HCode:=.seq (.seq (.region none (qm 6 1 0::qo 7 (.len (.t 6))::qm 8 1 1::qo 9 (.len (.t 8))::qo 10 (.bin .neq (.t 7) (.t 9))::[])) (.cond (.t 10) W9 .skip)) Zv
def c62:HCode:=.seq (.region none (qo 4 (.mv 0 (.c (.bool false)))::[])) WQ
theorem ZN:dF Try.prog 62=some (c62,[4],26):=by kernel_rfl
def Zn:HCode:=.seq (.region none (qo 1 (.bsl 1 1 [(.c (.bool true))])::qo 2 (.bld [.int .i64 0,.int .i64 0,.int .i64 0,.int .i64 0] [(1,1,(qn 0)),(2,1,(qn 1))])::qo 3 (.bld [.int .i64 0,.int .i64 0,.int .i64 0,.int .i64 0] [(1,1,(qn 0)),(2,1,(qn (-1)))])::qo 4 (.bsl 4 2 [.t 2,.t 3])::qo 5 (.bld [.nils,.nils] [(0,1,(.t 1)),(1,1,(.t 4))])::⟨none,.store false 2 (.t 0) (.t 5),none⟩::[])) .ret
def c63:HCode:=.seq (.region none (qo 0 (.newz [.nils,.nils])::[])) Zn
theorem Z5:ji Try.prog 63=some (c63,[.c 0 true 2],6):=by kernel_rfl
def Qy:HCode:=.region (some [0,0,2,0,0,16,56,120,0,256,1016,2047,4095]) (qm 17 1 3::qf 18 0 5::ql 19 18::qm 20 1 3::qf 21 0 5::ql 22 21::qi 23 20 22::ql 24 23::qo 25 (.load true 4 (.t 5))::qo 26 (.bsl 4 1 [.t 25])::qo 27 (.app true 4 32 (.t 24) (.t 26))::qi 28 17 19::⟨none,.store false 1 (.t 28) (.t 27),none⟩::[])
def Xq:HCode:=.region none (qo 29 (.bin .add (.t 13) (qn 1))::qm 13 0 29::[])
def Y4:HCode:=.seq (.block 1 (.seq (.region none (qo 15 (.iaddr 4 (.t 11) (.t 13))::qo 16 (.load true 4 (.t 15))::qo 5 (.newz [.int .i64 0,.int .i64 0,.int .i64 0,.int .i64 0])::⟨none,.store true 4 (.t 5) (.t 16),none⟩::[])) Qy)) Xq
def We:HCode:=.seq (.region none (qo 14 (.bin .lss (.t 13) (.t 12))::[])) (.seq (.cond (.t 14) .skip (.exit 0)) Y4)
def V7:HCode:=.seq (.region none (qm 30 1 3::qm 2 1 30::[])) .ret
def VE:HCode:=.seq (.seq (.region none (qf 10 1 1::ql 11 10::qo 12 (.len (.t 11))::qo 13 (.mv 0 (qn 0))::[])) (.block 0 (.loop We))) V7
def Yi:HCode:=.seq (.region none (qf 6 0 1::ql 7 6::qo 8 (.len (.t 7))::qo 9 (.mksl 1 24 [.osl 4 0 []] (.t 8))::qm 3 1 9::[])) VE
def c64:HCode:=.seq (.region none (qo 1 (.newv 2 (.t 0))::qo 2 (.mv 1 (.c .nils))::[])) Yi
theorem aax:dF Try.prog 64=some (c64,[2],31):=by kernel_rfl
def Zb:HCode:=.region none (ql 25 5::qo 26 (.load true 2 (.t 10))::qo 27 (.bsl 2 1 [.t 26])::qo 28 (.app true 2 16 (.t 25) (.t 27))::⟨none,.store false 1 (.t 5) (.t 28),none⟩::[])
def Yx:HCode:=.seq (.region none (ql 21 4::qo 22 (.load true 2 (.t 10))::ql 23 5::qo 24 (.len (.t 23))::⟨none,.mset (.ints 2) (.t 21) (.t 22) (.t 24),none⟩::[])) Zb
def YE:HCode:=.seq (.region none (qm 19 0 12::qo 20 (.un .not (.t 19))::[])) (.cond (.t 20) Yx .skip)
def KU:HCode:=.region (some [0,1,0,0,0,0,0,96,252,508,1023,2047,4095]) (qf 29 1 6::ql 30 29::qm 31 0 0::qm 32 0 1::qm 33 0 2::ql 34 4::qo 35 (.load true 2 (.t 10))::qo 36 (.mlook false (.ints 2) (.int .i64 0) (.t 34) (.t 35))::qo 37 (.bld [.int .i64 0,.int .i64 0,.int .i64 0,.int .i64 0] [(0,1,(.t 31)),(1,1,(.t 32)),(2,1,(.t 33)),(3,1,(.t 36))])::qo 38 (.bsl 4 1 [.t 37])::qo 39 (.app true 4 32 (.t 30) (.t 38))::qf 40 1 6::⟨none,.store false 1 (.t 40) (.t 39),none⟩::[])
def VT:HCode:=.seq (.seq (.region none (ql 14 4::qo 15 (.load true 2 (.t 10))::qo 16 (.mlook true (.ints 2) (.int .i64 0) (.t 14) (.t 15))::qm 13 0 16::qe 17 13 0::qe 18 13 1::qm 11 0 17::qm 12 0 18::[])) YE) KU
def c65:HCode:=.seq (.region none (qo 10 (.newv 2 (.t 3))::[])) VT
theorem aap:dF Try.prog 65=some (c65,[],41):=by kernel_rfl
def Xw:HCode:=.seq (.region none (qo 2 (.mv 1 (.c .nils))::[])) .ret
def Y7:HCode:=.seq (.region none (qo 5 (.bsl 1 0 [])::qm 6 1 0::qo 7 (.app true 1 1 (.t 5) (.t 6))::qm 2 1 7::[])) .ret
def X0:HCode:=.seq (.seq (.region none (qm 3 1 0::qo 4 (.isn false (.t 3))::[])) (.cond (.t 4) Xw .skip)) Y7
def c67:HCode:=.seq (.region none (qo 2 (.mv 1 (.c .nils))::[])) X0
theorem aaz:dF Try.prog 67=some (c67,[2],8):=by kernel_rfl
def Xy:HCode:=.region none (qm 14 1 3::qm 15 0 4::qo 16 (.bsl 1 1 [.t 15])::qo 17 (.app true 1 8 (.t 14) (.t 16))::qm 3 1 17::[])
def Wl:HCode:=.seq (.region none (qm 13 0 5::[])) (.cond (.t 13) Xy .skip)
def WH:HCode:=.region none (qo 18 (.bin .add (.t 8) (qn 1))::qm 8 0 18::[])
def V8:HCode:=.seq (.block 1 (.seq (.region none (qm 10 0 8::qi 11 6 8::ql 12 11::qm 4 0 10::qm 5 0 12::[])) Wl)) WH
def Zr:HCode:=.seq (.region none (qo 9 (.bin .lss (.t 8) (.t 7))::[])) (.seq (.cond (.t 9) .skip (.exit 0)) V8)
def YK:HCode:=.seq (.region none (qm 19 1 3::qm 2 1 19::[])) .ret
def Xn:HCode:=.seq (.seq (.region none (qm 6 1 0::qo 7 (.len (.t 6))::qo 8 (.mv 0 (qn 0))::[])) (.block 0 (.loop Zr))) YK
def Zo:HCode:=.seq (.region none (qo 3 (.mv 1 (.c .nils))::[])) Xn
def c70:HCode:=.seq (.region none (qo 2 (.mv 1 (.c .nils))::[])) Zo
theorem ZO:dF Try.prog 70=some (c70,[2],20):=by kernel_rfl
def Zg:HCode:=.seq (.region none (qm 3 0 0::qo 4 (.bin .geq (.t 3) (qn 0))::qm 5 0 4::qg 6 (.mv 0 (.t 0)) 2 true::qg 7 (.bin .lss (.t 6) (qn 64)) 2 true::qo 8 (.pick (.t 5) (.t 7) (.c (.bool false)))::qm 2 0 8::[])) .ret
def c72:HCode:=.seq (.region none (qo 2 (.mv 0 (.c (.bool false)))::[])) Zg
theorem Z7:dF Try.prog 72=some (c72,[2],9):=by kernel_rfl
def XA:HCode:=.seq (.region none (qo 2 (.mv 0 (.c (.bool false)))::[])) .ret
def WA:HCode:=.region none (qm 21 0 4::qf 22 1 6::ql 23 22::qo 24 (.len (.t 23))::qo 25 (.bin .add (.t 21) (.t 24))::qm 4 0 25::[])
def YB:HCode:=.seq (.region none (qm 16 0 3::qf 17 0 6::ql 18 17::qo 19 (.len (.t 18))::qo 20 (.bin .add (.t 16) (.t 19))::qm 3 0 20::[])) WA
def Xo:HCode:=.seq (.seq (.region none (qo 13 (.load true 2 (.t 6))::qo 14 (.call 26 [.t 13])::qo 15 (.un .not (.t 14))::[])) (.cond (.t 15) XA .skip)) YB
def Xv:HCode:=.region none (qo 26 (.bin .add (.t 9) (qn 1))::qm 9 0 26::[])
def Yc:HCode:=.seq (.block 1 (.seq (.region none (qo 11 (.iaddr 2 (.t 7) (.t 9))::qo 12 (.load true 2 (.t 11))::qo 6 (.newz [.nils,.nils])::⟨none,.store false 2 (.t 6) (.t 12),none⟩::[])) Xo)) Xv
def Y8:HCode:=.seq (.region none (qo 10 (.bin .lss (.t 9) (.t 8))::[])) (.seq (.cond (.t 10) .skip (.exit 0)) Yc)
def VF:HCode:=.seq (.region none (qm 27 0 3::qo 28 (.bin .leq (.t 27) (qn 2000))::qm 29 0 28::qg 30 (.mv 0 (.t 4)) 2 true::qg 31 (.bin .leq (.t 30) (qn 6000)) 2 true::qo 32 (.pick (.t 29) (.t 31) (.c (.bool false)))::qm 2 0 32::[])) .ret
def VB:HCode:=.seq (.seq (.region none (qm 7 2 0::qo 8 (.len (.t 7))::qo 9 (.mv 0 (qn 0))::[])) (.block 0 (.loop Y8))) VF
def QY:HCode:=.seq (.region none (qo 3 (.mv 0 (qn 0))::qo 4 (.mv 0 (qn 0))::[])) VB
def c73:HCode:=.seq (.region none (qo 2 (.mv 0 (.c (.bool false)))::[])) QY
theorem aar:dF Try.prog 73=some (c73,[2],33):=by kernel_rfl
def Ws:HCode:=.region none (qo 21 .bad::⟨none,.bad,none⟩::[])
def Za:HCode:=.seq (.region none (qm 19 0 3::qo 20 (.bin .lss (.t 19) (qn 0))::[])) (.cond (.t 20) Ws .skip)
def XC:HCode:=.seq (.region none (qm 15 0 3::qm 16 1 5::qo 17 (.len (.t 16))::qo 18 (.bin .add (.t 15) (.t 17))::qm 3 0 18::[])) Za
def Xm:HCode:=.region none (qo 22 (.bin .add (.t 11) (qn 1))::qm 11 0 22::[])
def WX:HCode:=.seq (.block 1 (.seq (.region none (qi 13 9 11::ql 14 13::qm 5 1 14::[])) XC)) Xm
def Xe:HCode:=.seq (.region none (qo 12 (.bin .lss (.t 11) (.t 10))::[])) (.seq (.cond (.t 12) .skip (.exit 0)) WX)
def YM:HCode:=.region none (qm 31 1 6::qm 32 1 8::qo 33 (.app true 1 1 (.t 31) (.t 32))::qm 6 1 33::[])
def Vw:HCode:=.region none (qo 34 (.bin .add (.t 27) (qn 1))::qm 27 0 34::[])
def YU:HCode:=.seq (.block 3 (.seq (.region none (qi 29 25 27::ql 30 29::qm 8 1 30::[])) YM)) Vw
def SV:HCode:=.seq (.region none (qo 28 (.bin .lss (.t 27) (.t 26))::[])) (.seq (.cond (.t 28) .skip (.exit 2)) YU)
def Uo:HCode:=.seq (.region none (qm 35 1 6::qm 2 1 35::[])) .ret
def QT:HCode:=.seq (.seq (.region none (qm 25 1 0::qo 26 (.len (.t 25))::qo 27 (.mv 0 (qn 0))::[])) (.block 2 (.loop SV))) Uo
def Td:HCode:=.seq (.region none (qm 23 0 3::qo 24 (.call 103 [(.c .nils),.t 23])::qm 6 1 24::[])) QT
def QM:HCode:=.seq (.seq (.region none (qm 9 1 0::qo 10 (.len (.t 9))::qo 11 (.mv 0 (qn 0))::[])) (.block 0 (.loop Xe))) Td
def TJ:HCode:=.seq (.region none (qo 3 (.mv 0 (qn 0))::[])) QM
def c74:HCode:=.seq (.region none (qo 2 (.mv 1 (.c .nils))::[])) TJ
theorem ZJ:dF Try.prog 74=some (c74,[2],36):=by kernel_rfl
def Nr:HCode:=.region (some [0,0,0,4,14,0,32,0,128,0,0,1024,3614,8190,16382,32767,65535]) (qm 16 4 0::qm 17 0 2::qf 18 0 8::ql 19 18::qo 20 (.callv (.t 17) [.t 19])::qf 21 1 8::ql 22 21::qf 23 2 8::ql 24 23::qm 25 0 2::qf 26 3 8::ql 27 26::qo 28 (.callv (.t 25) [.t 27])::qo 29 (.bld [.int .i64 0,.int .i64 0,.int .i64 0,.int .i64 0] [(0,1,(.t 20)),(1,1,(.t 22)),(2,1,(.t 24)),(3,1,(.t 28))])::qo 30 (.bsl 4 1 [.t 29])::qo 31 (.app true 4 32 (.t 16) (.t 30))::qm 0 4 31::[])
def Xi:HCode:=.region none (qo 32 (.bin .add (.t 12) (qn 1))::qm 12 0 32::[])
def Vx:HCode:=.seq (.block 1 (.seq (.region none (qo 14 (.iaddr 4 (.t 10) (.t 12))::qo 15 (.load true 4 (.t 14))::qo 8 (.newz [.int .i64 0,.int .i64 0,.int .i64 0,.int .i64 0])::⟨none,.store true 4 (.t 8) (.t 15),none⟩::[])) Nr)) Xi
def Yq:HCode:=.seq (.region none (qo 13 (.bin .lss (.t 12) (.t 11))::[])) (.seq (.cond (.t 13) .skip (.exit 0)) Vx)
def YR:HCode:=.seq (.region none (qm 33 4 0::qm 6 4 33::[])) .ret
def VU:HCode:=.seq (.seq (.region none (qf 9 1 4::ql 10 9::qo 11 (.len (.t 10))::qo 12 (.mv 0 (qn 0))::[])) (.block 0 (.loop Yq))) YR
def c75:HCode:=.seq (.region none (qo 4 (.newv 2 (.t 1))::qo 6 (.mv 4 (.c .nils))::[])) VU
theorem ZV:dF Try.prog 75=some (c75,[6],34):=by kernel_rfl
def Xd:HCode:=.seq (.region none (qm 5 0 0::qm 6 0 1::qo 7 (.bld [.int .i64 0,.int .i64 0,.int .i64 0,.int .i64 0] [(0,1,(.t 5)),(1,1,(qn (-1))),(2,1,(qn (-1))),(3,1,(.t 6))])::⟨none,.store true 4 (.t 4) (.t 7),none⟩::[])) .ret
def c76:HCode:=.seq (.region none (qo 4 (.newz [.int .i64 0,.int .i64 0,.int .i64 0,.int .i64 0])::[])) Xd
theorem aaC:ji Try.prog 76=some (c76,[.c 4 true 4],8):=by kernel_rfl
def Ya:HCode:=.seq (.region none (qo 3 (.mkfn 104 [.t 1])::qm 2 0 3::[])) .ret
def c77:HCode:=.seq (.region none (qo 1 (.newv 1 (.t 0))::qo 2 (.mv 0 (.c .nilf))::[])) Ya
theorem aai:dF Try.prog 77=some (c77,[2],4):=by kernel_rfl
def VM:HCode:=.seq (.region none (qm 3 0 0::qo 4 (.call 72 [.t 3])::qo 5 (.un .not (.t 4))::qm 2 0 5::[])) .ret
def c78:HCode:=.seq (.region none (qo 2 (.mv 0 (.c (.bool false)))::[])) VM
theorem ZR:dF Try.prog 78=some (c78,[2],6):=by kernel_rfl
def VQ:HCode:=.seq (.region none (qm 5 1 0::qm 6 0 1::qo 7 (.call 105 [.t 5,.t 6])::qo 8 (.bin .geq (.t 7) (qn 0))::qm 4 0 8::[])) .ret
def c79:HCode:=.seq (.region none (qo 4 (.mv 0 (.c (.bool false)))::[])) VQ
theorem aak:dF Try.prog 79=some (c79,[4],9):=by kernel_rfl
def Zj:HCode:=.seq (.region none (qm 9 1 0::qm 10 0 1::qi 11 9 10::ql 12 11::qm 4 0 12::[])) .ret
def Yp:HCode:=.seq (.region none (qo 4 (.mv 0 (qn (-1)))::[])) .ret
def YD:HCode:=.seq (.seq (.region none (qm 5 0 1::qm 6 1 0::qo 7 (.len (.t 6))::qo 8 (.bin .lss (.t 5) (.t 7))::[])) (.cond (.t 8) Zj .skip)) Yp
def c80:HCode:=.seq (.region none (qo 4 (.mv 0 (qn 0))::[])) YD
theorem aac:dF Try.prog 80=some (c80,[4],13):=by kernel_rfl
def XN:HCode:=.seq (.region (some [0,1,0,7,0,16,48,112,0,256,0,1792,4080,15,16383]) (qf 11 3 4::ql 12 11::qm 13 0 2::qo 14 (.bld [.int .i64 0,.int .i64 0] [(0,1,(.t 12)),(1,1,(.t 13))])::qm 15 0 0::qo 16 (.nilck (.t 15))::qf 17 2 16::ql 18 17::qf 19 3 4::ql 20 19::qm 21 0 2::qo 22 (.bld [.int .i64 0,.int .i64 0] [(0,1,(.t 20)),(1,1,(.t 21))])::qo 23 (.mlook false (.ints 2) (.bool false) (.t 18) (.t 22))::⟨none,.store true 2 (.t 6) (.t 14),none⟩::qm 7 0 23::[])) .ret
def Yv:HCode:=.seq (.region (some [0,1,0,4,15,0,32,96,224,0,512,0,2048,7680,16352,31,65535]) (qf 43 3 4::ql 44 43::qm 45 0 2::qo 46 (.bin .add (.t 45) (qn 1))::qo 47 (.bld [.int .i64 0,.int .i64 0] [(0,1,(.t 44)),(1,1,(.t 46))])::qm 48 0 0::qo 49 (.nilck (.t 48))::qf 50 2 49::ql 51 50::qf 52 3 4::ql 53 52::qm 54 0 2::qo 55 (.bin .add (.t 54) (qn 1))::qo 56 (.bld [.int .i64 0,.int .i64 0] [(0,1,(.t 53)),(1,1,(.t 55))])::qo 57 (.mlook false (.ints 2) (.bool false) (.t 51) (.t 56))::⟨none,.store true 2 (.t 6) (.t 47),none⟩::qm 7 0 57::[])) .ret
def XQ:HCode:=.seq (.region none (qo 58 (.bld [.int .i64 0,.int .i64 0] [])::⟨none,.store true 2 (.t 6) (.t 58),none⟩::qo 7 (.mv 0 (.c (.bool false)))::[])) .ret
def Wu:HCode:=.seq (.seq (.region (some [0,0,2,6,14,30,63,127,255,511,1023,2047,255,8191,16383,255,33023,131071,262143]) (qm 24 0 2::qm 25 0 0::qo 26 (.nilck (.t 25))::qf 27 0 26::ql 28 27::qo 29 (.len (.t 28))::qo 30 (.bin .lss (.t 24) (.t 29))::qm 31 0 30::qg 32 (.mv 0 (.t 0)) 7 true::qg 33 (.nilck (.t 32)) 7 true::qg 34 (.faddr 0 (.t 33)) 7 true::qg 35 (.load false 1 (.t 34)) 7 true::qg 36 (.mv 0 (.t 2)) 7 true::qg 37 (.iaddr 1 (.t 35) (.t 36)) 7 true::qg 38 (.load false 1 (.t 37)) 7 true::qg 39 (.faddr 1 (.t 4)) 7 true::qg 40 (.load false 1 (.t 39)) 7 true::qg 41 (.bin .eql (.t 38) (.t 40)) 7 true::qo 42 (.pick (.t 31) (.t 41) (.c (.bool false)))::[])) (.cond (.t 42) Yv .skip)) XQ
def XH:HCode:=.seq (.seq (.region none (qf 8 1 4::ql 9 8::qo 10 (.bin .eql (.t 9) (qn (-1)))::[])) (.cond (.t 10) XN .skip)) Wu
def c99:HCode:=.seq (.region none (qo 4 (.newv 4 (.t 1))::qo 6 (.newz [.int .i64 0,.int .i64 0])::qo 7 (.mv 0 (.c (.bool false)))::[])) XH
theorem aal:ji Try.prog 99=some (c99,[.c 6 true 2,.t 7],59):=by kernel_rfl
def Q3:HCode:=.seq (.region none (qm 17 0 5::qm 4 0 17::[])) .ret
def Tf:HCode:=.seq (.region none (qm 11 0 1::qm 12 2 0::qm 13 0 5::qo 14 (.iaddr 2 (.t 12) (.t 13))::qo 15 (.load true 2 (.t 14))::qo 16 (.callv (.t 11) [.t 15])::[])) (.cond (.t 16) Q3 .skip)
def Q5:HCode:=.region none (qo 18 (.bin .add (.t 8) (qn 1))::qm 8 0 18::[])
def UY:HCode:=.seq (.block 1 (.seq (.region none (qm 10 0 8::qm 5 0 10::[])) Tf)) Q5
def Ti:HCode:=.seq (.region none (qo 9 (.bin .lss (.t 8) (.t 7))::[])) (.seq (.cond (.t 9) .skip (.exit 0)) UY)
def TD:HCode:=.seq (.region none (qo 4 (.mv 0 (qn (-1)))::[])) .ret
def TE:HCode:=.seq (.seq (.region none (qm 6 2 0::qo 7 (.len (.t 6))::qo 8 (.mv 0 (qn 0))::[])) (.block 0 (.loop Ti))) TD
def Xl:HCode:=.seq (.region none (qo 4 (.mv 0 (qn 0))::[])) TE
theorem Zk:dF Try.prog 100=some (Xl,[4],19):=by kernel_rfl
def Rq:HCode:=.seq (.region none (qo 2 (.mv 1 (.c .nils))::[])) .ret
def Q8:HCode:=.seq (.region none (qo 5 (.bsl 1 0 [])::qm 6 1 0::qo 7 (.app true 1 8 (.t 5) (.t 6))::qm 2 1 7::[])) .ret
def TI:HCode:=.seq (.seq (.region none (qm 3 1 0::qo 4 (.isn false (.t 3))::[])) (.cond (.t 4) Rq .skip)) Q8
def SA:HCode:=.seq (.region none (qo 2 (.mv 1 (.c .nils))::[])) TI
theorem Qz:dF Try.prog 101=some (SA,[2],8):=by kernel_rfl
def TR:HCode:=.region none (qo 7 .bad::⟨none,.bad,none⟩::[])
def Ug:HCode:=.region none (qm 17 1 0::qm 18 1 0::qo 19 (.bi .cap [] [] [.t 18])::qo 20 (.slc 1 (.t 17) none (some (.t 19)))::qm 21 0 1::qo 22 (.bi .append [1,1] [.bool false] [.t 20,.t 21])::qm 23 1 0::qo 24 (.len (.t 23))::qo 25 (.slc 1 (.t 22) none (some (.t 24)))::qm 0 1 25::[])
def Un:HCode:=.seq (.region none (qm 15 0 1::qo 16 (.bin .gtr (.t 15) (qn 0))::[])) (.cond (.t 16) Ug .skip)
def Si:HCode:=.seq (.region none (qm 26 1 0::qm 4 1 26::[])) .ret
def U4:HCode:=.seq (.seq (.region none (qm 8 0 1::qm 9 1 0::qo 10 (.bi .cap [] [] [.t 9])::qm 11 1 0::qo 12 (.len (.t 11))::qo 13 (.bin .sub (.t 10) (.t 12))::qo 14 (.bin .sub (.t 8) (.t 13))::qm 1 0 14::[])) Un) Si
def Tu:HCode:=.seq (.seq (.region none (qm 5 0 1::qo 6 (.bin .lss (.t 5) (qn 0))::[])) (.cond (.t 6) TR .skip)) U4
def YS:HCode:=.seq (.region none (qo 4 (.mv 1 (.c .nils))::[])) Tu
theorem WE:dF Try.prog 103=some (YS,[4],27):=by kernel_rfl
def TZ:HCode:=.seq (.region none (qm 4 0 0::ql 5 1::qo 6 (.bin .add (.t 4) (.t 5))::qm 3 0 6::[])) .ret
def Wn:HCode:=.seq (.region none (qo 3 (.mv 0 (qn 0))::[])) TZ
theorem VG:dF Try.prog 104=some (Wn,[3],7):=by kernel_rfl
def U0:HCode:=.seq (.region none (qm 17 0 5::qm 4 0 17::[])) .ret
def UA:HCode:=.seq (.region none (qm 11 0 1::qm 12 1 0::qm 13 0 5::qi 14 12 13::ql 15 14::qo 16 (.callv (.t 11) [.t 15])::[])) (.cond (.t 16) U0 .skip)
def UZ:HCode:=.region none (qo 18 (.bin .add (.t 8) (qn 1))::qm 8 0 18::[])
def TA:HCode:=.seq (.block 1 (.seq (.region none (qm 10 0 8::qm 5 0 10::[])) UA)) UZ
def SL:HCode:=.seq (.region none (qo 9 (.bin .lss (.t 8) (.t 7))::[])) (.seq (.cond (.t 9) .skip (.exit 0)) TA)
def QV:HCode:=.seq (.region none (qo 4 (.mv 0 (qn (-1)))::[])) .ret
def QX:HCode:=.seq (.seq (.region none (qm 6 1 0::qo 7 (.len (.t 6))::qo 8 (.mv 0 (qn 0))::[])) (.block 0 (.loop SL))) QV
def c105:HCode:=.seq (.region none (qo 4 (.mv 0 (qn 0))::[])) QX
theorem Xg:dF Try.prog 105=some (c105,[4],19):=by kernel_rfl
end Go.Proofs.Ytlbdmpjnmfmnfaa
