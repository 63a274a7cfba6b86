import Derived.Test.YtlbdmpjnmfmnfaaHl4
import Derived.Test.YtlbdmpjnmfmnfaaProg
import Derived.Test.YtlbdmpjnmfmnfaaCodes1
namespace Go.Proofs.Ytlbdmpjnmfmnfaa
open Go.HL
set_option maxRecDepth 100000
set_option linter.unusedVariables false
def U4:HCode:=.seq (.region none (qo 4 (.mv 0 (.c (.bool false)))::[])) .ret
def WO:HCode:=.seq (.region none (qo 4 (.mv 0 (.c (.bool false)))::[])) .ret
def X9:HCode:=.region none (qm 15 0 5::qo 16 (.bin .add (.t 15) (qn 1))::qm 5 0 16::[])
def UL:HCode:=.seq (.block 1 (.seq (.region (some [0,0,3,7,0,0,48,112,255]) (qm 17 1 0::qm 18 0 5::qi 19 17 18::ql 20 19::qm 21 1 1::qm 22 0 5::qi 23 21 22::ql 24 23::qo 25 (.bin .neq (.t 20) (.t 24))::[])) (.cond (.t 25) WO .skip))) X9
def Uo:HCode:=.seq (.seq (.region none (qm 11 0 5::qm 12 1 0::qo 13 (.len (.t 12))::qo 14 (.bin .lss (.t 11) (.t 13))::[])) (.cond (.t 14) .skip (.exit 0))) UL
def X4:HCode:=.seq (.region none (qo 4 (.mv 0 (.c (.bool true)))::[])) .ret
def X7:HCode:=.seq (.seq (.region none (qo 5 (.mv 0 (qn 0))::[])) (.block 0 (.loop Uo))) X4
def VZ:HCode:=.seq (.seq (.region none (qm 6 1 0::qo 7 (.len (.t 6))::qm 8 1 1::qo 9 (.len (.t 8))::qo 10 (.bin .neq (.t 7) (.t 9))::[])) (.cond (.t 10) U4 .skip)) X7
def Zd:HCode:=.seq (.region none (qo 4 (.mv 0 (.c (.bool false)))::[])) VZ
theorem YK:dF Try.prog 62=some (Zd,[4],26):=by kernel_rfl
def VV:HCode:=.seq (.region none (qo 1 (.bsl 1 1 [(.c (.bool true))])::qo 2 (.bld [.int .i64 0,.int .i64 0,.int .i64 0,.int .i64 0] [(1,1,(qn 0)),(2,1,(qn 1))])::qo 3 (.bld [.int .i64 0,.int .i64 0,.int .i64 0,.int .i64 0] [(1,1,(qn 0)),(2,1,(qn (-1)))])::qo 4 (.bsl 4 2 [.t 2,.t 3])::qo 5 (.bld [.nils,.nils] [(0,1,(.t 1)),(1,1,(.t 4))])::⟨none,.store false 2 (.t 0) (.t 5),none⟩::[])) .ret
def Zk:HCode:=.seq (.region none (qo 0 (.newz [.nils,.nils])::[])) VV
theorem Yp:kE Try.prog 63=some (Zk,[.c 0 true 2],6):=by kernel_rfl
def Pg:HCode:=.region (some [0,0,2,0,0,16,56,120,0,256,1016,2047,4095]) (qm 17 1 3::qf 18 0 5::ql 19 18::qm 20 1 3::qf 21 0 5::ql 22 21::qi 23 20 22::ql 24 23::qo 25 (.load true 4 (.t 5))::qo 26 (.bsl 4 1 [.t 25])::qo 27 (.app true 4 32 (.t 24) (.t 26))::qi 28 17 19::⟨none,.store false 1 (.t 28) (.t 27),none⟩::[])
def TE:HCode:=.region none (qo 29 (.bin .add (.t 13) (qn 1))::qm 13 0 29::[])
def Xb:HCode:=.seq (.block 1 (.seq (.region none (qo 15 (.iaddr 4 (.t 11) (.t 13))::qo 16 (.load true 4 (.t 15))::qo 5 (.newz [.int .i64 0,.int .i64 0,.int .i64 0,.int .i64 0])::⟨none,.store true 4 (.t 5) (.t 16),none⟩::[])) Pg)) TE
def TI:HCode:=.seq (.region none (qo 14 (.bin .lss (.t 13) (.t 12))::[])) (.seq (.cond (.t 14) .skip (.exit 0)) Xb)
def UF:HCode:=.seq (.region none (qm 30 1 3::qm 2 1 30::[])) .ret
def TY:HCode:=.seq (.seq (.region none (qf 10 1 1::ql 11 10::qo 12 (.len (.t 11))::qo 13 (.mv 0 (qn 0))::[])) (.block 0 (.loop TI))) UF
def WE:HCode:=.seq (.region none (qf 6 0 1::ql 7 6::qo 8 (.len (.t 7))::qo 9 (.mksl 1 24 [.osl 4 0 []] (.t 8))::qm 3 1 9::[])) TY
def c64:HCode:=.seq (.region none (qo 1 (.newv 2 (.t 0))::qo 2 (.mv 1 (.c .nils))::[])) WE
theorem YO:dF Try.prog 64=some (c64,[2],31):=by kernel_rfl
def TV:HCode:=.region none (ql 25 5::qo 26 (.load true 2 (.t 10))::qo 27 (.bsl 2 1 [.t 26])::qo 28 (.app true 2 16 (.t 25) (.t 27))::⟨none,.store false 1 (.t 5) (.t 28),none⟩::[])
def UJ:HCode:=.seq (.region none (ql 21 4::qo 22 (.load true 2 (.t 10))::ql 23 5::qo 24 (.len (.t 23))::⟨none,.mset (.ints 2) (.t 21) (.t 22) (.t 24),none⟩::[])) TV
def V5:HCode:=.seq (.region none (qm 19 0 12::qo 20 (.un .not (.t 19))::[])) (.cond (.t 20) UJ .skip)
def Jo:HCode:=.region (some [0,1,0,0,0,0,0,96,252,508,1023,2047,4095]) (qf 29 1 6::ql 30 29::qm 31 0 0::qm 32 0 1::qm 33 0 2::ql 34 4::qo 35 (.load true 2 (.t 10))::qo 36 (.mlook false (.ints 2) (.int .i64 0) (.t 34) (.t 35))::qo 37 (.bld [.int .i64 0,.int .i64 0,.int .i64 0,.int .i64 0] [(0,1,(.t 31)),(1,1,(.t 32)),(2,1,(.t 33)),(3,1,(.t 36))])::qo 38 (.bsl 4 1 [.t 37])::qo 39 (.app true 4 32 (.t 30) (.t 38))::qf 40 1 6::⟨none,.store false 1 (.t 40) (.t 39),none⟩::[])
def Wq:HCode:=.seq (.seq (.region none (ql 14 4::qo 15 (.load true 2 (.t 10))::qo 16 (.mlook true (.ints 2) (.int .i64 0) (.t 14) (.t 15))::qm 13 0 16::qe 17 13 0::qe 18 13 1::qm 11 0 17::qm 12 0 18::[])) V5) Jo
def Zh:HCode:=.seq (.region none (qo 10 (.newv 2 (.t 3))::[])) Wq
theorem YT:dF Try.prog 65=some (Zh,[],41):=by kernel_rfl
def VT:HCode:=.seq (.region none (qm 11 1 0::qo 12 (.len (.t 11))::qm 13 1 1::qo 14 (.len (.t 13))::qo 15 (.bin .lss (.t 12) (.t 14))::qm 4 0 15::[])) .ret
def VR:HCode:=.seq (.region (some [0,0,3,7,0,0,48,112,255,511]) (qm 31 1 0::qm 32 0 5::qi 33 31 32::ql 34 33::qm 35 1 1::qm 36 0 5::qi 37 35 36::ql 38 37::qo 39 (.bin .lss (.t 34) (.t 38))::qm 4 0 39::[])) .ret
def Wi:HCode:=.region none (qm 20 0 5::qo 21 (.bin .add (.t 20) (qn 1))::qm 5 0 21::[])
def We:HCode:=.seq (.block 1 (.seq (.region (some [0,0,3,7,0,0,48,112,255]) (qm 22 1 0::qm 23 0 5::qi 24 22 23::ql 25 24::qm 26 1 1::qm 27 0 5::qi 28 26 27::ql 29 28::qo 30 (.bin .neq (.t 25) (.t 29))::[])) (.cond (.t 30) VR .skip))) Wi
def Xh:HCode:=.seq (.seq (.region none (qm 16 0 5::qm 17 1 0::qo 18 (.len (.t 17))::qo 19 (.bin .lss (.t 16) (.t 18))::[])) (.cond (.t 19) .skip (.exit 0))) We
def Xq:HCode:=.seq (.region none (qo 4 (.mv 0 (.c (.bool false)))::[])) .ret
def W9:HCode:=.seq (.seq (.region none (qo 5 (.mv 0 (qn 0))::[])) (.block 0 (.loop Xh))) Xq
def TR:HCode:=.seq (.seq (.region none (qm 6 1 0::qo 7 (.len (.t 6))::qm 8 1 1::qo 9 (.len (.t 8))::qo 10 (.bin .neq (.t 7) (.t 9))::[])) (.cond (.t 10) VT .skip)) W9
def Y8:HCode:=.seq (.region none (qo 4 (.mv 0 (.c (.bool false)))::[])) TR
theorem Yx:dF Try.prog 66=some (Y8,[4],40):=by kernel_rfl
def WN:HCode:=.seq (.region none (qo 2 (.mv 1 (.c .nils))::[])) .ret
def Xf:HCode:=.seq (.region none (qo 5 (.bsl 1 0 [])::qm 6 1 0::qo 7 (.app true 1 1 (.t 5) (.t 6))::qm 2 1 7::[])) .ret
def XZ:HCode:=.seq (.seq (.region none (qm 3 1 0::qo 4 (.isn false (.t 3))::[])) (.cond (.t 4) WN .skip)) Xf
def Zr:HCode:=.seq (.region none (qo 2 (.mv 1 (.c .nils))::[])) XZ
theorem YD:dF Try.prog 67=some (Zr,[2],8):=by kernel_rfl
def Wy:HCode:=.region none (qm 14 1 3::qm 15 0 4::qo 16 (.bsl 1 1 [.t 15])::qo 17 (.app true 1 8 (.t 14) (.t 16))::qm 3 1 17::[])
def VF:HCode:=.seq (.region none (qm 13 0 5::[])) (.cond (.t 13) Wy .skip)
def Xr:HCode:=.region none (qo 18 (.bin .add (.t 8) (qn 1))::qm 8 0 18::[])
def Uy:HCode:=.seq (.block 1 (.seq (.region none (qm 10 0 8::qi 11 6 8::ql 12 11::qm 4 0 10::qm 5 0 12::[])) VF)) Xr
def U2:HCode:=.seq (.region none (qo 9 (.bin .lss (.t 8) (.t 7))::[])) (.seq (.cond (.t 9) .skip (.exit 0)) Uy)
def XF:HCode:=.seq (.region none (qm 19 1 3::qm 2 1 19::[])) .ret
def VC:HCode:=.seq (.seq (.region none (qm 6 1 0::qo 7 (.len (.t 6))::qo 8 (.mv 0 (qn 0))::[])) (.block 0 (.loop U2))) XF
def Xe:HCode:=.seq (.region none (qo 3 (.mv 1 (.c .nils))::[])) VC
def c70:HCode:=.seq (.region none (qo 2 (.mv 1 (.c .nils))::[])) Xe
theorem Y6:dF Try.prog 70=some (c70,[2],20):=by kernel_rfl
def XA:HCode:=.seq (.region none (qm 3 0 0::qo 4 (.bin .geq (.t 3) (qn 0))::qm 5 0 4::qg 6 (.mv 0 (.t 0)) 2 true::qg 7 (.bin .lss (.t 6) (qn 64)) 2 true::qo 8 (.pick (.t 5) (.t 7) (.c (.bool false)))::qm 2 0 8::[])) .ret
def c72:HCode:=.seq (.region none (qo 2 (.mv 0 (.c (.bool false)))::[])) XA
theorem YN:dF Try.prog 72=some (c72,[2],9):=by kernel_rfl
def WA:HCode:=.seq (.region none (qm 3 0 0::qo 4 (.call 72 [.t 3])::qo 5 (.un .not (.t 4))::qm 2 0 5::[])) .ret
def ZC:HCode:=.seq (.region none (qo 2 (.mv 0 (.c (.bool false)))::[])) WA
theorem Y3:dF Try.prog 78=some (ZC,[2],6):=by kernel_rfl
def Uc:HCode:=.seq (.region none (qm 5 1 0::qm 6 0 1::qo 7 (.call 105 [.t 5,.t 6])::qo 8 (.bin .geq (.t 7) (qn 0))::qm 4 0 8::[])) .ret
def Zm:HCode:=.seq (.region none (qo 4 (.mv 0 (.c (.bool false)))::[])) Uc
theorem YM:dF Try.prog 79=some (Zm,[4],9):=by kernel_rfl
def TD:HCode:=.seq (.region none (qm 9 1 0::qm 10 0 1::qi 11 9 10::ql 12 11::qm 4 0 12::[])) .ret
def XH:HCode:=.seq (.region none (qo 4 (.mv 0 (qn (-1)))::[])) .ret
def V9:HCode:=.seq (.seq (.region none (qm 5 0 1::qm 6 1 0::qo 7 (.len (.t 6))::qo 8 (.bin .lss (.t 5) (.t 7))::[])) (.cond (.t 8) TD .skip)) XH
def c80:HCode:=.seq (.region none (qo 4 (.mv 0 (qn 0))::[])) V9
theorem Yo:dF Try.prog 80=some (c80,[4],13):=by kernel_rfl
def Xc:HCode:=.seq (.region (some [0,1,0,7,0,16,48,112,0,256,0,1792,4080,15,16383]) (qf 11 3 4::ql 12 11::qm 13 0 2::qo 14 (.bld [.int .i64 0,.int .i64 0] [(0,1,(.t 12)),(1,1,(.t 13))])::qm 15 0 0::qo 16 (.nilck (.t 15))::qf 17 2 16::ql 18 17::qf 19 3 4::ql 20 19::qm 21 0 2::qo 22 (.bld [.int .i64 0,.int .i64 0] [(0,1,(.t 20)),(1,1,(.t 21))])::qo 23 (.mlook false (.ints 2) (.bool false) (.t 18) (.t 22))::⟨none,.store true 2 (.t 6) (.t 14),none⟩::qm 7 0 23::[])) .ret
def XO:HCode:=.seq (.region (some [0,1,0,4,15,0,32,96,224,0,512,0,2048,7680,16352,31,65535]) (qf 43 3 4::ql 44 43::qm 45 0 2::qo 46 (.bin .add (.t 45) (qn 1))::qo 47 (.bld [.int .i64 0,.int .i64 0] [(0,1,(.t 44)),(1,1,(.t 46))])::qm 48 0 0::qo 49 (.nilck (.t 48))::qf 50 2 49::ql 51 50::qf 52 3 4::ql 53 52::qm 54 0 2::qo 55 (.bin .add (.t 54) (qn 1))::qo 56 (.bld [.int .i64 0,.int .i64 0] [(0,1,(.t 53)),(1,1,(.t 55))])::qo 57 (.mlook false (.ints 2) (.bool false) (.t 51) (.t 56))::⟨none,.store true 2 (.t 6) (.t 47),none⟩::qm 7 0 57::[])) .ret
def XR:HCode:=.seq (.region none (qo 58 (.bld [.int .i64 0,.int .i64 0] [])::⟨none,.store true 2 (.t 6) (.t 58),none⟩::qo 7 (.mv 0 (.c (.bool false)))::[])) .ret
def Xx:HCode:=.seq (.seq (.region (some [0,0,2,6,14,30,63,127,255,511,1023,2047,255,8191,16383,255,33023,131071,262143]) (qm 24 0 2::qm 25 0 0::qo 26 (.nilck (.t 25))::qf 27 0 26::ql 28 27::qo 29 (.len (.t 28))::qo 30 (.bin .lss (.t 24) (.t 29))::qm 31 0 30::qg 32 (.mv 0 (.t 0)) 7 true::qg 33 (.nilck (.t 32)) 7 true::qg 34 (.faddr 0 (.t 33)) 7 true::qg 35 (.load false 1 (.t 34)) 7 true::qg 36 (.mv 0 (.t 2)) 7 true::qg 37 (.iaddr 1 (.t 35) (.t 36)) 7 true::qg 38 (.load false 1 (.t 37)) 7 true::qg 39 (.faddr 1 (.t 4)) 7 true::qg 40 (.load false 1 (.t 39)) 7 true::qg 41 (.bin .eql (.t 38) (.t 40)) 7 true::qo 42 (.pick (.t 31) (.t 41) (.c (.bool false)))::[])) (.cond (.t 42) XO .skip)) XR
def Vx:HCode:=.seq (.seq (.region none (qf 8 1 4::ql 9 8::qo 10 (.bin .eql (.t 9) (qn (-1)))::[])) (.cond (.t 10) Xc .skip)) Xx
def Zg:HCode:=.seq (.region none (qo 4 (.newv 4 (.t 1))::qo 6 (.newz [.int .i64 0,.int .i64 0])::qo 7 (.mv 0 (.c (.bool false)))::[])) Vx
theorem Yw:kE Try.prog 99=some (Zg,[.c 6 true 2,.t 7],59):=by kernel_rfl
def PU:HCode:=.seq (.region none (qm 17 0 5::qm 4 0 17::[])) .ret
def Qc:HCode:=.seq (.region none (qm 11 0 1::qm 12 2 0::qm 13 0 5::qo 14 (.iaddr 2 (.t 12) (.t 13))::qo 15 (.load true 2 (.t 14))::qo 16 (.callv (.t 11) [.t 15])::[])) (.cond (.t 16) PU .skip)
def RD:HCode:=.region none (qo 18 (.bin .add (.t 8) (qn 1))::qm 8 0 18::[])
def PY:HCode:=.seq (.block 1 (.seq (.region none (qm 10 0 8::qm 5 0 10::[])) Qc)) RD
def Qq:HCode:=.seq (.region none (qo 9 (.bin .lss (.t 8) (.t 7))::[])) (.seq (.cond (.t 9) .skip (.exit 0)) PY)
def QE:HCode:=.seq (.region none (qo 4 (.mv 0 (qn (-1)))::[])) .ret
def QF:HCode:=.seq (.seq (.region none (qm 6 2 0::qo 7 (.len (.t 6))::qo 8 (.mv 0 (qn 0))::[])) (.block 0 (.loop Qq))) QE
def Ua:HCode:=.seq (.region none (qo 4 (.mv 0 (qn 0))::[])) QF
theorem TJ:dF Try.prog 100=some (Ua,[4],19):=by kernel_rfl
def Rk:HCode:=.seq (.region none (qo 2 (.mv 1 (.c .nils))::[])) .ret
def Qh:HCode:=.seq (.region none (qo 5 (.bsl 1 0 [])::qm 6 1 0::qo 7 (.app true 1 8 (.t 5) (.t 6))::qm 2 1 7::[])) .ret
def Tj:HCode:=.seq (.seq (.region none (qm 3 1 0::qo 4 (.isn false (.t 3))::[])) (.cond (.t 4) Rk .skip)) Qh
def SK:HCode:=.seq (.region none (qo 2 (.mv 1 (.c .nils))::[])) Tj
theorem O7:dF Try.prog 101=some (SK,[2],8):=by kernel_rfl
def Qw:HCode:=.seq (.region none (qm 17 0 5::qm 4 0 17::[])) .ret
def RU:HCode:=.seq (.region none (qm 11 0 1::qm 12 1 0::qm 13 0 5::qi 14 12 13::ql 15 14::qo 16 (.callv (.t 11) [.t 15])::[])) (.cond (.t 16) Qw .skip)
def QT:HCode:=.region none (qo 18 (.bin .add (.t 8) (qn 1))::qm 8 0 18::[])
def Qp:HCode:=.seq (.block 1 (.seq (.region none (qm 10 0 8::qm 5 0 10::[])) RU)) QT
def Rh:HCode:=.seq (.region none (qo 9 (.bin .lss (.t 8) (.t 7))::[])) (.seq (.cond (.t 9) .skip (.exit 0)) Qp)
def P8:HCode:=.seq (.region none (qo 4 (.mv 0 (qn (-1)))::[])) .ret
def Tn:HCode:=.seq (.seq (.region none (qm 6 1 0::qo 7 (.len (.t 6))::qo 8 (.mv 0 (qn 0))::[])) (.block 0 (.loop Rh))) P8
def c105:HCode:=.seq (.region none (qo 4 (.mv 0 (qn 0))::[])) Tn
theorem Xg:dF Try.prog 105=some (c105,[4],19):=by kernel_rfl
end Go.Proofs.Ytlbdmpjnmfmnfaa
