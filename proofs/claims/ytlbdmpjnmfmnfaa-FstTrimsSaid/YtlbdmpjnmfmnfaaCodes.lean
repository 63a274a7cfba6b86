import Derived.Test.YtlbdmpjnmfmnfaaHl4
import Derived.Test.YtlbdmpjnmfmnfaaProg
import Derived.Test.YtlbdmpjnmfmnfaaCodes1
namespace Go.Proofs.Ytlbdmpjnmfmnfaa
open Go.HL
set_option maxRecDepth 100000
set_option linter.unusedVariables false
def VZ:HCode:=.seq (.region none (qo 4 (.mv 0 (.c (.bool false)))::[])) .ret
def Yi:HCode:=.seq (.region none (qo 4 (.mv 0 (.c (.bool false)))::[])) .ret
def WA:HCode:=.region none (qm 15 0 5::qo 16 (.bin .add (.t 15) (qn 1))::qm 5 0 16::[])
def UR:HCode:=.seq (.block 1 (.seq (.region (some [0,0,3,7,0,0,48,112,255]) (qm 17 1 0::qm 18 0 5::qi 19 17 18::ql 20 19::qm 21 1 1::qm 22 0 5::qi 23 21 22::ql 24 23::qo 25 (.bin .neq (.t 20) (.t 24))::[])) (.cond (.t 25) Yi .skip))) WA
def Wy:HCode:=.seq (.seq (.region none (qm 11 0 5::qm 12 1 0::qo 13 (.len (.t 12))::qo 14 (.bin .lss (.t 11) (.t 13))::[])) (.cond (.t 14) .skip (.exit 0))) UR
def UX:HCode:=.seq (.region none (qo 4 (.mv 0 (.c (.bool true)))::[])) .ret
def WC:HCode:=.seq (.seq (.region none (qo 5 (.mv 0 (qn 0))::[])) (.block 0 (.loop Wy))) UX
def YF:HCode:=.seq (.seq (.region none (qm 6 1 0::qo 7 (.len (.t 6))::qm 8 1 1::qo 9 (.len (.t 8))::qo 10 (.bin .neq (.t 7) (.t 9))::[])) (.cond (.t 10) VZ .skip)) WC
def c62:HCode:=.seq (.region none (qo 4 (.mv 0 (.c (.bool false)))::[])) YF
theorem ZM:dF Try.prog 62=some (c62,[4],26):=by kernel_rfl
def XT:HCode:=.seq (.region none (qo 1 (.bsl 1 1 [(.c (.bool true))])::qo 2 (.bld [.int .i64 0,.int .i64 0,.int .i64 0,.int .i64 0] [(1,1,(qn 0)),(2,1,(qn 1))])::qo 3 (.bld [.int .i64 0,.int .i64 0,.int .i64 0,.int .i64 0] [(1,1,(qn 0)),(2,1,(qn (-1)))])::qo 4 (.bsl 4 2 [.t 2,.t 3])::qo 5 (.bld [.nils,.nils] [(0,1,(.t 1)),(1,1,(.t 4))])::⟨none,.store false 2 (.t 0) (.t 5),none⟩::[])) .ret
def c63:HCode:=.seq (.region none (qo 0 (.newz [.nils,.nils])::[])) XT
theorem ZA:jD Try.prog 63=some (c63,[.c 0 true 2],6):=by kernel_rfl
def OZ:HCode:=.region (some [0,0,2,0,0,16,56,120,0,256,1016,2047,4095]) (qm 17 1 3::qf 18 0 5::ql 19 18::qm 20 1 3::qf 21 0 5::ql 22 21::qi 23 20 22::ql 24 23::qo 25 (.load true 4 (.t 5))::qo 26 (.bsl 4 1 [.t 25])::qo 27 (.app true 4 32 (.t 24) (.t 26))::qi 28 17 19::⟨none,.store false 1 (.t 28) (.t 27),none⟩::[])
def Y3:HCode:=.region none (qo 29 (.bin .add (.t 13) (qn 1))::qm 13 0 29::[])
def Xn:HCode:=.seq (.block 1 (.seq (.region none (qo 15 (.iaddr 4 (.t 11) (.t 13))::qo 16 (.load true 4 (.t 15))::qo 5 (.newz [.int .i64 0,.int .i64 0,.int .i64 0,.int .i64 0])::⟨none,.store true 4 (.t 5) (.t 16),none⟩::[])) OZ)) Y3
def Vl:HCode:=.seq (.region none (qo 14 (.bin .lss (.t 13) (.t 12))::[])) (.seq (.cond (.t 14) .skip (.exit 0)) Xn)
def VC:HCode:=.seq (.region none (qm 30 1 3::qm 2 1 30::[])) .ret
def Zl:HCode:=.seq (.seq (.region none (qf 10 1 1::ql 11 10::qo 12 (.len (.t 11))::qo 13 (.mv 0 (qn 0))::[])) (.block 0 (.loop Vl))) VC
def Y0:HCode:=.seq (.region none (qf 6 0 1::ql 7 6::qo 8 (.len (.t 7))::qo 9 (.mksl 1 24 [.osl 4 0 []] (.t 8))::qm 3 1 9::[])) Zl
def c64:HCode:=.seq (.region none (qo 1 (.newv 2 (.t 0))::qo 2 (.mv 1 (.c .nils))::[])) Y0
theorem ZF:dF Try.prog 64=some (c64,[2],31):=by kernel_rfl
def WM:HCode:=.region none (ql 25 5::qo 26 (.load true 2 (.t 10))::qo 27 (.bsl 2 1 [.t 26])::qo 28 (.app true 2 16 (.t 25) (.t 27))::⟨none,.store false 1 (.t 5) (.t 28),none⟩::[])
def Xv:HCode:=.seq (.region none (ql 21 4::qo 22 (.load true 2 (.t 10))::ql 23 5::qo 24 (.len (.t 23))::⟨none,.mset (.ints 2) (.t 21) (.t 22) (.t 24),none⟩::[])) WM
def Vj:HCode:=.seq (.region none (qm 19 0 12::qo 20 (.un .not (.t 19))::[])) (.cond (.t 20) Xv .skip)
def JP:HCode:=.region (some [0,1,0,0,0,0,0,96,252,508,1023,2047,4095]) (qf 29 1 6::ql 30 29::qm 31 0 0::qm 32 0 1::qm 33 0 2::ql 34 4::qo 35 (.load true 2 (.t 10))::qo 36 (.mlook false (.ints 2) (.int .i64 0) (.t 34) (.t 35))::qo 37 (.bld [.int .i64 0,.int .i64 0,.int .i64 0,.int .i64 0] [(0,1,(.t 31)),(1,1,(.t 32)),(2,1,(.t 33)),(3,1,(.t 36))])::qo 38 (.bsl 4 1 [.t 37])::qo 39 (.app true 4 32 (.t 30) (.t 38))::qf 40 1 6::⟨none,.store false 1 (.t 40) (.t 39),none⟩::[])
def Xp:HCode:=.seq (.seq (.region none (ql 14 4::qo 15 (.load true 2 (.t 10))::qo 16 (.mlook true (.ints 2) (.int .i64 0) (.t 14) (.t 15))::qm 13 0 16::qe 17 13 0::qe 18 13 1::qm 11 0 17::qm 12 0 18::[])) Vj) JP
def c65:HCode:=.seq (.region none (qo 10 (.newv 2 (.t 3))::[])) Xp
theorem Z5:dF Try.prog 65=some (c65,[],41):=by kernel_rfl
def Zf:HCode:=.seq (.region none (qo 2 (.mv 1 (.c .nils))::[])) .ret
def Vx:HCode:=.seq (.region none (qo 5 (.bsl 1 0 [])::qm 6 1 0::qo 7 (.app true 1 1 (.t 5) (.t 6))::qm 2 1 7::[])) .ret
def U4:HCode:=.seq (.seq (.region none (qm 3 1 0::qo 4 (.isn false (.t 3))::[])) (.cond (.t 4) Zf .skip)) Vx
def c67:HCode:=.seq (.region none (qo 2 (.mv 1 (.c .nils))::[])) U4
theorem ZK:dF Try.prog 67=some (c67,[2],8):=by kernel_rfl
def Xz:HCode:=.region none (qm 33 1 1::qm 34 0 2::qm 35 0 8::qo 36 (.callv (.t 34) [.t 35])::qo 37 (.app true 1 8 (.t 33) (.t 36))::qm 1 1 37::[])
def Vd:HCode:=.seq (.region none (qm 30 1 7::qm 31 0 8::qi 32 30 31::⟨none,.store true 1 (.t 32) (.c (.bool true)),none⟩::[])) Xz
def Wj:HCode:=.seq (.region none (qm 25 1 7::qm 26 0 8::qi 27 25 26::ql 28 27::qo 29 (.un .not (.t 28))::[])) (.cond (.t 29) Vd .skip)
def YL:HCode:=.seq (.region none (qm 20 1 1::qm 21 1 1::qo 22 (.len (.t 21))::qo 23 (.bin .sub (.t 22) (qn 1))::qo 24 (.slc 1 (.t 20) none (some (.t 23)))::qm 1 1 24::[])) Wj
def WF:HCode:=.block 1 (.seq (.region none (qm 14 1 1::qm 15 1 1::qo 16 (.len (.t 15))::qo 17 (.bin .sub (.t 16) (qn 1))::qi 18 14 17::ql 19 18::qm 8 0 19::[])) YL)
def WP:HCode:=.seq (.seq (.region none (qm 11 1 1::qo 12 (.len (.t 11))::qo 13 (.bin .gtr (.t 12) (qn 0))::[])) (.cond (.t 13) .skip (.exit 0))) WF
def Y2:HCode:=.seq (.region none (qm 38 1 7::qm 6 1 38::[])) .ret
def UE:HCode:=.seq (.region none (qm 9 0 0::qo 10 (.mksl 1 1 [.bool false] (.t 9))::qm 7 1 10::[])) (.seq (.block 0 (.loop WP)) Y2)
def c68:HCode:=.seq (.region none (qo 6 (.mv 1 (.c .nils))::[])) UE
theorem Z9:dF Try.prog 68=some (c68,[6],39):=by kernel_rfl
def Yg:HCode:=.seq (.region none (ql 4 1::qm 5 0 0::qi 6 4 5::ql 7 6::qm 3 1 7::[])) .ret
def c69:HCode:=.seq (.region none (qo 3 (.mv 1 (.c .nils))::[])) Yg
theorem aar:dF Try.prog 69=some (c69,[3],8):=by kernel_rfl
def Zc:HCode:=.region none (qm 14 1 3::qm 15 0 4::qo 16 (.bsl 1 1 [.t 15])::qo 17 (.app true 1 8 (.t 14) (.t 16))::qm 3 1 17::[])
def V6:HCode:=.seq (.region none (qm 13 0 5::[])) (.cond (.t 13) Zc .skip)
def Zj:HCode:=.region none (qo 18 (.bin .add (.t 8) (qn 1))::qm 8 0 18::[])
def Y8:HCode:=.seq (.block 1 (.seq (.region none (qm 10 0 8::qi 11 6 8::ql 12 11::qm 4 0 10::qm 5 0 12::[])) V6)) Zj
def Yk:HCode:=.seq (.region none (qo 9 (.bin .lss (.t 8) (.t 7))::[])) (.seq (.cond (.t 9) .skip (.exit 0)) Y8)
def Zk:HCode:=.seq (.region none (qm 19 1 3::qm 2 1 19::[])) .ret
def Ve:HCode:=.seq (.seq (.region none (qm 6 1 0::qo 7 (.len (.t 6))::qo 8 (.mv 0 (qn 0))::[])) (.block 0 (.loop Yk))) Zk
def Xh:HCode:=.seq (.region none (qo 3 (.mv 1 (.c .nils))::[])) Ve
def c70:HCode:=.seq (.region none (qo 2 (.mv 1 (.c .nils))::[])) Xh
theorem aam:dF Try.prog 70=some (c70,[2],20):=by kernel_rfl
def Zm:HCode:=.seq (.region none (ql 4 1::qm 5 0 0::qi 6 4 5::ql 7 6::qm 3 1 7::[])) .ret
def c71:HCode:=.seq (.region none (qo 3 (.mv 1 (.c .nils))::[])) Zm
theorem aas:dF Try.prog 71=some (c71,[3],8):=by kernel_rfl
def XW:HCode:=.seq (.region none (qm 3 0 0::qo 4 (.bin .geq (.t 3) (qn 0))::qm 5 0 4::qg 6 (.mv 0 (.t 0)) 2 true::qg 7 (.bin .lss (.t 6) (qn 64)) 2 true::qo 8 (.pick (.t 5) (.t 7) (.c (.bool false)))::qm 2 0 8::[])) .ret
def c72:HCode:=.seq (.region none (qo 2 (.mv 0 (.c (.bool false)))::[])) XW
theorem aai:dF Try.prog 72=some (c72,[2],9):=by kernel_rfl
def Zn:HCode:=.seq (.region none (qm 3 0 0::qo 4 (.call 72 [.t 3])::qo 5 (.un .not (.t 4))::qm 2 0 5::[])) .ret
def c78:HCode:=.seq (.region none (qo 2 (.mv 0 (.c (.bool false)))::[])) Zn
theorem ZW:dF Try.prog 78=some (c78,[2],6):=by kernel_rfl
def Zq:HCode:=.seq (.region none (qm 5 1 0::qm 6 0 1::qo 7 (.call 105 [.t 5,.t 6])::qo 8 (.bin .geq (.t 7) (qn 0))::qm 4 0 8::[])) .ret
def c79:HCode:=.seq (.region none (qo 4 (.mv 0 (.c (.bool false)))::[])) Zq
theorem aah:dF Try.prog 79=some (c79,[4],9):=by kernel_rfl
def YN:HCode:=.seq (.region none (qm 9 1 0::qm 10 0 1::qi 11 9 10::ql 12 11::qm 4 0 12::[])) .ret
def Xt:HCode:=.seq (.region none (qo 4 (.mv 0 (qn (-1)))::[])) .ret
def XF:HCode:=.seq (.seq (.region none (qm 5 0 1::qm 6 1 0::qo 7 (.len (.t 6))::qo 8 (.bin .lss (.t 5) (.t 7))::[])) (.cond (.t 8) YN .skip)) Xt
def c80:HCode:=.seq (.region none (qo 4 (.mv 0 (qn 0))::[])) XF
theorem aae:dF Try.prog 80=some (c80,[4],13):=by kernel_rfl
def WY:HCode:=.seq (.region (some [0,1,0,7,0,16,48,112,0,256,0,1792,4080,15,16383]) (qf 11 3 4::ql 12 11::qm 13 0 2::qo 14 (.bld [.int .i64 0,.int .i64 0] [(0,1,(.t 12)),(1,1,(.t 13))])::qm 15 0 0::qo 16 (.nilck (.t 15))::qf 17 2 16::ql 18 17::qf 19 3 4::ql 20 19::qm 21 0 2::qo 22 (.bld [.int .i64 0,.int .i64 0] [(0,1,(.t 20)),(1,1,(.t 21))])::qo 23 (.mlook false (.ints 2) (.bool false) (.t 18) (.t 22))::⟨none,.store true 2 (.t 6) (.t 14),none⟩::qm 7 0 23::[])) .ret
def VA:HCode:=.seq (.region (some [0,1,0,4,15,0,32,96,224,0,512,0,2048,7680,16352,31,65535]) (qf 43 3 4::ql 44 43::qm 45 0 2::qo 46 (.bin .add (.t 45) (qn 1))::qo 47 (.bld [.int .i64 0,.int .i64 0] [(0,1,(.t 44)),(1,1,(.t 46))])::qm 48 0 0::qo 49 (.nilck (.t 48))::qf 50 2 49::ql 51 50::qf 52 3 4::ql 53 52::qm 54 0 2::qo 55 (.bin .add (.t 54) (qn 1))::qo 56 (.bld [.int .i64 0,.int .i64 0] [(0,1,(.t 53)),(1,1,(.t 55))])::qo 57 (.mlook false (.ints 2) (.bool false) (.t 51) (.t 56))::⟨none,.store true 2 (.t 6) (.t 47),none⟩::qm 7 0 57::[])) .ret
def WW:HCode:=.seq (.region none (qo 58 (.bld [.int .i64 0,.int .i64 0] [])::⟨none,.store true 2 (.t 6) (.t 58),none⟩::qo 7 (.mv 0 (.c (.bool false)))::[])) .ret
def YV:HCode:=.seq (.seq (.region (some [0,0,2,6,14,30,63,127,255,511,1023,2047,255,8191,16383,255,33023,131071,262143]) (qm 24 0 2::qm 25 0 0::qo 26 (.nilck (.t 25))::qf 27 0 26::ql 28 27::qo 29 (.len (.t 28))::qo 30 (.bin .lss (.t 24) (.t 29))::qm 31 0 30::qg 32 (.mv 0 (.t 0)) 7 true::qg 33 (.nilck (.t 32)) 7 true::qg 34 (.faddr 0 (.t 33)) 7 true::qg 35 (.load false 1 (.t 34)) 7 true::qg 36 (.mv 0 (.t 2)) 7 true::qg 37 (.iaddr 1 (.t 35) (.t 36)) 7 true::qg 38 (.load false 1 (.t 37)) 7 true::qg 39 (.faddr 1 (.t 4)) 7 true::qg 40 (.load false 1 (.t 39)) 7 true::qg 41 (.bin .eql (.t 38) (.t 40)) 7 true::qo 42 (.pick (.t 31) (.t 41) (.c (.bool false)))::[])) (.cond (.t 42) VA .skip)) WW
def VW:HCode:=.seq (.seq (.region none (qf 8 1 4::ql 9 8::qo 10 (.bin .eql (.t 9) (qn (-1)))::[])) (.cond (.t 10) WY .skip)) YV
def c99:HCode:=.seq (.region none (qo 4 (.newv 4 (.t 1))::qo 6 (.newz [.int .i64 0,.int .i64 0])::qo 7 (.mv 0 (.c (.bool false)))::[])) VW
theorem aaz:jD Try.prog 99=some (c99,[.c 6 true 2,.t 7],59):=by kernel_rfl
def QC:HCode:=.seq (.region none (qm 17 0 5::qm 4 0 17::[])) .ret
def TI:HCode:=.seq (.region none (qm 11 0 1::qm 12 2 0::qm 13 0 5::qo 14 (.iaddr 2 (.t 12) (.t 13))::qo 15 (.load true 2 (.t 14))::qo 16 (.callv (.t 11) [.t 15])::[])) (.cond (.t 16) QC .skip)
def Rz:HCode:=.region none (qo 18 (.bin .add (.t 8) (qn 1))::qm 8 0 18::[])
def QE:HCode:=.seq (.block 1 (.seq (.region none (qm 10 0 8::qm 5 0 10::[])) TI)) Rz
def Ug:HCode:=.seq (.region none (qo 9 (.bin .lss (.t 8) (.t 7))::[])) (.seq (.cond (.t 9) .skip (.exit 0)) QE)
def RH:HCode:=.seq (.region none (qo 4 (.mv 0 (qn (-1)))::[])) .ret
def PN:HCode:=.seq (.seq (.region none (qm 6 2 0::qo 7 (.len (.t 6))::qo 8 (.mv 0 (qn 0))::[])) (.block 0 (.loop Ug))) RH
def XR:HCode:=.seq (.region none (qo 4 (.mv 0 (qn 0))::[])) PN
theorem VQ:dF Try.prog 100=some (XR,[4],19):=by kernel_rfl
def PZ:HCode:=.seq (.region none (qo 2 (.mv 1 (.c .nils))::[])) .ret
def Qs:HCode:=.seq (.region none (qo 5 (.bsl 1 0 [])::qm 6 1 0::qo 7 (.app true 1 8 (.t 5) (.t 6))::qm 2 1 7::[])) .ret
def Pn:HCode:=.seq (.seq (.region none (qm 3 1 0::qo 4 (.isn false (.t 3))::[])) (.cond (.t 4) PZ .skip)) Qs
def TY:HCode:=.seq (.region none (qo 2 (.mv 1 (.c .nils))::[])) Pn
theorem O8:dF Try.prog 101=some (TY,[2],8):=by kernel_rfl
def Uh:HCode:=.seq (.region none (qm 17 0 5::qm 4 0 17::[])) .ret
def TN:HCode:=.seq (.region none (qm 11 0 1::qm 12 1 0::qm 13 0 5::qi 14 12 13::ql 15 14::qo 16 (.callv (.t 11) [.t 15])::[])) (.cond (.t 16) Uh .skip)
def Qk:HCode:=.region none (qo 18 (.bin .add (.t 8) (qn 1))::qm 8 0 18::[])
def Uj:HCode:=.seq (.block 1 (.seq (.region none (qm 10 0 8::qm 5 0 10::[])) TN)) Qk
def Un:HCode:=.seq (.region none (qo 9 (.bin .lss (.t 8) (.t 7))::[])) (.seq (.cond (.t 9) .skip (.exit 0)) Uj)
def RN:HCode:=.seq (.region none (qo 4 (.mv 0 (qn (-1)))::[])) .ret
def Qg:HCode:=.seq (.seq (.region none (qm 6 1 0::qo 7 (.len (.t 6))::qo 8 (.mv 0 (qn 0))::[])) (.block 0 (.loop Un))) RN
def c105:HCode:=.seq (.region none (qo 4 (.mv 0 (qn 0))::[])) Qg
theorem Vy:dF Try.prog 105=some (c105,[4],19):=by kernel_rfl
end Go.Proofs.Ytlbdmpjnmfmnfaa
