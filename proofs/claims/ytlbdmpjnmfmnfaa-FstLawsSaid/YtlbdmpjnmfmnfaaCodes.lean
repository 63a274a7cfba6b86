import Derived.Test.YtlbdmpjnmfmnfaaHl4
import Derived.Test.YtlbdmpjnmfmnfaaProg
import Derived.Test.YtlbdmpjnmfmnfaaCodes1
namespace Go.Proofs.Ytlbdmpjnmfmnfaa
open Go.HL
set_option maxRecDepth 100000
set_option linter.unusedVariables false
def acn:HCode:=.seq (.region none (qo 4 (.mv 0 (.c (.bool false)))::[])) .ret
def YO:HCode:=.seq (.region none (qo 4 (.mv 0 (.c (.bool false)))::[])) .ret
def ZQ:HCode:=.region none (qm 15 0 5::qo 16 (.bin .add (.t 15) (qn 1))::qm 5 0 16::[])
def ads:HCode:=.seq (.block 1 (.seq (.region (some [0,0,3,7,0,0,48,112,255]) (qm 17 1 0::qm 18 0 5::qi 19 17 18::ql 20 19::qm 21 1 1::qm 22 0 5::qi 23 21 22::ql 24 23::qo 25 (.bin .neq (.t 20) (.t 24))::[])) (.cond (.t 25) YO .skip))) ZQ
def abr:HCode:=.seq (.seq (.region none (qm 11 0 5::qm 12 1 0::qo 13 (.len (.t 12))::qo 14 (.bin .lss (.t 11) (.t 13))::[])) (.cond (.t 14) .skip (.exit 0))) ads
def Z8:HCode:=.seq (.region none (qo 4 (.mv 0 (.c (.bool true)))::[])) .ret
def aca:HCode:=.seq (.seq (.region none (qo 5 (.mv 0 (qn 0))::[])) (.block 0 (.loop abr))) Z8
def adr:HCode:=.seq (.seq (.region none (qm 6 1 0::qo 7 (.len (.t 6))::qm 8 1 1::qo 9 (.len (.t 8))::qo 10 (.bin .neq (.t 7) (.t 9))::[])) (.cond (.t 10) acn .skip)) aca
def c62:HCode:=.seq (.region none (qo 4 (.mv 0 (.c (.bool false)))::[])) adr
theorem aev:dC Try.prog 62=some (c62,[4],26):=by kernel_rfl
def aaq:HCode:=.seq (.region none (qo 1 (.bsl 1 1 [(.c (.bool true))])::qo 2 (.bld [.int .i64 0,.int .i64 0,.int .i64 0,.int .i64 0] [(1,1,(qn 0)),(2,1,(qn 1))])::qo 3 (.bld [.int .i64 0,.int .i64 0,.int .i64 0,.int .i64 0] [(1,1,(qn 0)),(2,1,(qn (-1)))])::qo 4 (.bsl 4 2 [.t 2,.t 3])::qo 5 (.bld [.nils,.nils] [(0,1,(.t 1)),(1,1,(.t 4))])::⟨none,.store false 2 (.t 0) (.t 5),none⟩::[])) .ret
def c63:HCode:=.seq (.region none (qo 0 (.newz [.nils,.nils])::[])) aaq
theorem ad3:ji Try.prog 63=some (c63,[.c 0 true 2],6):=by kernel_rfl
def Ur:HCode:=.region (some [0,0,2,0,0,16,56,120,0,256,1016,2047,4095]) (qm 17 1 3::qf 18 0 5::ql 19 18::qm 20 1 3::qf 21 0 5::ql 22 21::qi 23 20 22::ql 24 23::qo 25 (.load true 4 (.t 5))::qo 26 (.bsl 4 1 [.t 25])::qo 27 (.app true 4 32 (.t 24) (.t 26))::qi 28 17 19::⟨none,.store false 1 (.t 28) (.t 27),none⟩::[])
def ac8:HCode:=.region none (qo 29 (.bin .add (.t 13) (qn 1))::qm 13 0 29::[])
def abG:HCode:=.seq (.block 1 (.seq (.region none (qo 15 (.iaddr 4 (.t 11) (.t 13))::qo 16 (.load true 4 (.t 15))::qo 5 (.newz [.int .i64 0,.int .i64 0,.int .i64 0,.int .i64 0])::⟨none,.store true 4 (.t 5) (.t 16),none⟩::[])) Ur)) ac8
def aba:HCode:=.seq (.region none (qo 14 (.bin .lss (.t 13) (.t 12))::[])) (.seq (.cond (.t 14) .skip (.exit 0)) abG)
def ab7:HCode:=.seq (.region none (qm 30 1 3::qm 2 1 30::[])) .ret
def YK:HCode:=.seq (.seq (.region none (qf 10 1 1::ql 11 10::qo 12 (.len (.t 11))::qo 13 (.mv 0 (qn 0))::[])) (.block 0 (.loop aba))) ab7
def acS:HCode:=.seq (.region none (qf 6 0 1::ql 7 6::qo 8 (.len (.t 7))::qo 9 (.mksl 1 24 [.osl 4 0 []] (.t 8))::qm 3 1 9::[])) YK
def c64:HCode:=.seq (.region none (qo 1 (.newv 2 (.t 0))::qo 2 (.mv 1 (.c .nils))::[])) acS
theorem ad8:dC Try.prog 64=some (c64,[2],31):=by kernel_rfl
def abA:HCode:=.region none (ql 25 5::qo 26 (.load true 2 (.t 10))::qo 27 (.bsl 2 1 [.t 26])::qo 28 (.app true 2 16 (.t 25) (.t 27))::⟨none,.store false 1 (.t 5) (.t 28),none⟩::[])
def acF:HCode:=.seq (.region none (ql 21 4::qo 22 (.load true 2 (.t 10))::ql 23 5::qo 24 (.len (.t 23))::⟨none,.mset (.ints 2) (.t 21) (.t 22) (.t 24),none⟩::[])) abA
def acf:HCode:=.seq (.region none (qm 19 0 12::qo 20 (.un .not (.t 19))::[])) (.cond (.t 20) acF .skip)
def Nh:HCode:=.region (some [0,1,0,0,0,0,0,96,252,508,1023,2047,4095]) (qf 29 1 6::ql 30 29::qm 31 0 0::qm 32 0 1::qm 33 0 2::ql 34 4::qo 35 (.load true 2 (.t 10))::qo 36 (.mlook false (.ints 2) (.int .i64 0) (.t 34) (.t 35))::qo 37 (.bld [.int .i64 0,.int .i64 0,.int .i64 0,.int .i64 0] [(0,1,(.t 31)),(1,1,(.t 32)),(2,1,(.t 33)),(3,1,(.t 36))])::qo 38 (.bsl 4 1 [.t 37])::qo 39 (.app true 4 32 (.t 30) (.t 38))::qf 40 1 6::⟨none,.store false 1 (.t 40) (.t 39),none⟩::[])
def abJ:HCode:=.seq (.seq (.region none (ql 14 4::qo 15 (.load true 2 (.t 10))::qo 16 (.mlook true (.ints 2) (.int .i64 0) (.t 14) (.t 15))::qm 13 0 16::qe 17 13 0::qe 18 13 1::qm 11 0 17::qm 12 0 18::[])) acf) Nh
def c65:HCode:=.seq (.region none (qo 10 (.newv 2 (.t 3))::[])) abJ
theorem aew:dC Try.prog 65=some (c65,[],41):=by kernel_rfl
def Zb:HCode:=.seq (.region none (qm 11 1 0::qo 12 (.len (.t 11))::qm 13 1 1::qo 14 (.len (.t 13))::qo 15 (.bin .lss (.t 12) (.t 14))::qm 4 0 15::[])) .ret
def adq:HCode:=.seq (.region (some [0,0,3,7,0,0,48,112,255,511]) (qm 31 1 0::qm 32 0 5::qi 33 31 32::ql 34 33::qm 35 1 1::qm 36 0 5::qi 37 35 36::ql 38 37::qo 39 (.bin .lss (.t 34) (.t 38))::qm 4 0 39::[])) .ret
def Z9:HCode:=.region none (qm 20 0 5::qo 21 (.bin .add (.t 20) (qn 1))::qm 5 0 21::[])
def YZ:HCode:=.seq (.block 1 (.seq (.region (some [0,0,3,7,0,0,48,112,255]) (qm 22 1 0::qm 23 0 5::qi 24 22 23::ql 25 24::qm 26 1 1::qm 27 0 5::qi 28 26 27::ql 29 28::qo 30 (.bin .neq (.t 25) (.t 29))::[])) (.cond (.t 30) adq .skip))) Z9
def adt:HCode:=.seq (.seq (.region none (qm 16 0 5::qm 17 1 0::qo 18 (.len (.t 17))::qo 19 (.bin .lss (.t 16) (.t 18))::[])) (.cond (.t 19) .skip (.exit 0))) YZ
def YP:HCode:=.seq (.region none (qo 4 (.mv 0 (.c (.bool false)))::[])) .ret
def aaN:HCode:=.seq (.seq (.region none (qo 5 (.mv 0 (qn 0))::[])) (.block 0 (.loop adt))) YP
def abd:HCode:=.seq (.seq (.region none (qm 6 1 0::qo 7 (.len (.t 6))::qm 8 1 1::qo 9 (.len (.t 8))::qo 10 (.bin .neq (.t 7) (.t 9))::[])) (.cond (.t 10) Zb .skip)) aaN
def c66:HCode:=.seq (.region none (qo 4 (.mv 0 (.c (.bool false)))::[])) abd
theorem adZ:dC Try.prog 66=some (c66,[4],40):=by kernel_rfl
def ab3:HCode:=.seq (.region none (qo 2 (.mv 1 (.c .nils))::[])) .ret
def ac3:HCode:=.seq (.region none (qo 5 (.bsl 1 0 [])::qm 6 1 0::qo 7 (.app true 1 1 (.t 5) (.t 6))::qm 2 1 7::[])) .ret
def ac1:HCode:=.seq (.seq (.region none (qm 3 1 0::qo 4 (.isn false (.t 3))::[])) (.cond (.t 4) ab3 .skip)) ac3
def c67:HCode:=.seq (.region none (qo 2 (.mv 1 (.c .nils))::[])) ac1
theorem aec:dC Try.prog 67=some (c67,[2],8):=by kernel_rfl
def adh:HCode:=.region none (qm 33 1 1::qm 34 0 2::qm 35 0 8::qo 36 (.callv (.t 34) [.t 35])::qo 37 (.app true 1 8 (.t 33) (.t 36))::qm 1 1 37::[])
def ZP:HCode:=.seq (.region none (qm 30 1 7::qm 31 0 8::qi 32 30 31::⟨none,.store true 1 (.t 32) (.c (.bool true)),none⟩::[])) adh
def YJ:HCode:=.seq (.region none (qm 25 1 7::qm 26 0 8::qi 27 25 26::ql 28 27::qo 29 (.un .not (.t 28))::[])) (.cond (.t 29) ZP .skip)
def ZH:HCode:=.seq (.region none (qm 20 1 1::qm 21 1 1::qo 22 (.len (.t 21))::qo 23 (.bin .sub (.t 22) (qn 1))::qo 24 (.slc 1 (.t 20) none (some (.t 23)))::qm 1 1 24::[])) YJ
def aaW:HCode:=.block 1 (.seq (.region none (qm 14 1 1::qm 15 1 1::qo 16 (.len (.t 15))::qo 17 (.bin .sub (.t 16) (qn 1))::qi 18 14 17::ql 19 18::qm 8 0 19::[])) ZH)
def abt:HCode:=.seq (.seq (.region none (qm 11 1 1::qo 12 (.len (.t 11))::qo 13 (.bin .gtr (.t 12) (qn 0))::[])) (.cond (.t 13) .skip (.exit 0))) aaW
def Zt:HCode:=.seq (.region none (qm 38 1 7::qm 6 1 38::[])) .ret
def ab2:HCode:=.seq (.region none (qm 9 0 0::qo 10 (.mksl 1 1 [.bool false] (.t 9))::qm 7 1 10::[])) (.seq (.block 0 (.loop abt)) Zt)
def c68:HCode:=.seq (.region none (qo 6 (.mv 1 (.c .nils))::[])) ab2
theorem adA:dC Try.prog 68=some (c68,[6],39):=by kernel_rfl
def acp:HCode:=.seq (.region none (ql 4 1::qm 5 0 0::qi 6 4 5::ql 7 6::qm 3 1 7::[])) .ret
def c69:HCode:=.seq (.region none (qo 3 (.mv 1 (.c .nils))::[])) acp
theorem adG:dC Try.prog 69=some (c69,[3],8):=by kernel_rfl
def ack:HCode:=.region none (qm 14 1 3::qm 15 0 4::qo 16 (.bsl 1 1 [.t 15])::qo 17 (.app true 1 8 (.t 14) (.t 16))::qm 3 1 17::[])
def ab1:HCode:=.seq (.region none (qm 13 0 5::[])) (.cond (.t 13) ack .skip)
def Yk:HCode:=.region none (qo 18 (.bin .add (.t 8) (qn 1))::qm 8 0 18::[])
def aag:HCode:=.seq (.block 1 (.seq (.region none (qm 10 0 8::qi 11 6 8::ql 12 11::qm 4 0 10::qm 5 0 12::[])) ab1)) Yk
def aa9:HCode:=.seq (.region none (qo 9 (.bin .lss (.t 8) (.t 7))::[])) (.seq (.cond (.t 9) .skip (.exit 0)) aag)
def aau:HCode:=.seq (.region none (qm 19 1 3::qm 2 1 19::[])) .ret
def abb:HCode:=.seq (.seq (.region none (qm 6 1 0::qo 7 (.len (.t 6))::qo 8 (.mv 0 (qn 0))::[])) (.block 0 (.loop aa9))) aau
def Zo:HCode:=.seq (.region none (qo 3 (.mv 1 (.c .nils))::[])) abb
def c70:HCode:=.seq (.region none (qo 2 (.mv 1 (.c .nils))::[])) Zo
theorem adF:dC Try.prog 70=some (c70,[2],20):=by kernel_rfl
def acP:HCode:=.seq (.region none (ql 4 1::qm 5 0 0::qi 6 4 5::ql 7 6::qm 3 1 7::[])) .ret
def c71:HCode:=.seq (.region none (qo 3 (.mv 1 (.c .nils))::[])) acP
theorem aex:dC Try.prog 71=some (c71,[3],8):=by kernel_rfl
def adp:HCode:=.seq (.region none (qm 3 0 0::qo 4 (.bin .geq (.t 3) (qn 0))::qm 5 0 4::qg 6 (.mv 0 (.t 0)) 2 true::qg 7 (.bin .lss (.t 6) (qn 64)) 2 true::qo 8 (.pick (.t 5) (.t 7) (.c (.bool false)))::qm 2 0 8::[])) .ret
def c72:HCode:=.seq (.region none (qo 2 (.mv 0 (.c (.bool false)))::[])) adp
theorem aep:dC Try.prog 72=some (c72,[2],9):=by kernel_rfl
def Y6:HCode:=.seq (.region none (qo 2 (.mv 0 (.c (.bool false)))::[])) .ret
def acT:HCode:=.region none (qm 21 0 4::qf 22 1 6::ql 23 22::qo 24 (.len (.t 23))::qo 25 (.bin .add (.t 21) (.t 24))::qm 4 0 25::[])
def acI:HCode:=.seq (.region none (qm 16 0 3::qf 17 0 6::ql 18 17::qo 19 (.len (.t 18))::qo 20 (.bin .add (.t 16) (.t 19))::qm 3 0 20::[])) acT
def Zv:HCode:=.seq (.seq (.region none (qo 13 (.load true 2 (.t 6))::qo 14 (.call 26 [.t 13])::qo 15 (.un .not (.t 14))::[])) (.cond (.t 15) Y6 .skip)) acI
def aaP:HCode:=.region none (qo 26 (.bin .add (.t 9) (qn 1))::qm 9 0 26::[])
def acC:HCode:=.seq (.block 1 (.seq (.region none (qo 11 (.iaddr 2 (.t 7) (.t 9))::qo 12 (.load true 2 (.t 11))::qo 6 (.newz [.nils,.nils])::⟨none,.store false 2 (.t 6) (.t 12),none⟩::[])) Zv)) aaP
def YB:HCode:=.seq (.region none (qo 10 (.bin .lss (.t 9) (.t 8))::[])) (.seq (.cond (.t 10) .skip (.exit 0)) acC)
def YG:HCode:=.seq (.region none (qm 27 0 3::qo 28 (.bin .leq (.t 27) (qn 2000))::qm 29 0 28::qg 30 (.mv 0 (.t 4)) 2 true::qg 31 (.bin .leq (.t 30) (qn 6000)) 2 true::qo 32 (.pick (.t 29) (.t 31) (.c (.bool false)))::qm 2 0 32::[])) .ret
def acz:HCode:=.seq (.seq (.region none (qm 7 2 0::qo 8 (.len (.t 7))::qo 9 (.mv 0 (qn 0))::[])) (.block 0 (.loop YB))) YG
def U2:HCode:=.seq (.region none (qo 3 (.mv 0 (qn 0))::qo 4 (.mv 0 (qn 0))::[])) acz
def c73:HCode:=.seq (.region none (qo 2 (.mv 0 (.c (.bool false)))::[])) U2
theorem adR:dC Try.prog 73=some (c73,[2],33):=by kernel_rfl
def acy:HCode:=.region none (qo 21 .bad::⟨none,.bad,none⟩::[])
def aaR:HCode:=.seq (.region none (qm 19 0 3::qo 20 (.bin .lss (.t 19) (qn 0))::[])) (.cond (.t 20) acy .skip)
def acV:HCode:=.seq (.region none (qm 15 0 3::qm 16 1 5::qo 17 (.len (.t 16))::qo 18 (.bin .add (.t 15) (.t 17))::qm 3 0 18::[])) aaR
def YE:HCode:=.region none (qo 22 (.bin .add (.t 11) (qn 1))::qm 11 0 22::[])
def ach:HCode:=.seq (.block 1 (.seq (.region none (qi 13 9 11::ql 14 13::qm 5 1 14::[])) acV)) YE
def ZG:HCode:=.seq (.region none (qo 12 (.bin .lss (.t 11) (.t 10))::[])) (.seq (.cond (.t 12) .skip (.exit 0)) ach)
def abB:HCode:=.region none (qm 31 1 6::qm 32 1 8::qo 33 (.app true 1 1 (.t 31) (.t 32))::qm 6 1 33::[])
def aaU:HCode:=.region none (qo 34 (.bin .add (.t 27) (qn 1))::qm 27 0 34::[])
def abk:HCode:=.seq (.block 3 (.seq (.region none (qi 29 25 27::ql 30 29::qm 8 1 30::[])) abB)) aaU
def Vz:HCode:=.seq (.region none (qo 28 (.bin .lss (.t 27) (.t 26))::[])) (.seq (.cond (.t 28) .skip (.exit 2)) abk)
def Xc:HCode:=.seq (.region none (qm 35 1 6::qm 2 1 35::[])) .ret
def UG:HCode:=.seq (.seq (.region none (qm 25 1 0::qo 26 (.len (.t 25))::qo 27 (.mv 0 (qn 0))::[])) (.block 2 (.loop Vz))) Xc
def WG:HCode:=.seq (.region none (qm 23 0 3::qo 24 (.call 103 [(.c .nils),.t 23])::qm 6 1 24::[])) UG
def XE:HCode:=.seq (.seq (.region none (qm 9 1 0::qo 10 (.len (.t 9))::qo 11 (.mv 0 (qn 0))::[])) (.block 0 (.loop ZG))) WG
def UI:HCode:=.seq (.region none (qo 3 (.mv 0 (qn 0))::[])) XE
def c74:HCode:=.seq (.region none (qo 2 (.mv 1 (.c .nils))::[])) UI
theorem ad2:dC Try.prog 74=some (c74,[2],36):=by kernel_rfl
def NU:HCode:=.region (some [0,0,0,4,14,0,32,0,128,0,0,1024,3614,8190,16382,32767,65535]) (qm 16 4 0::qm 17 0 2::qf 18 0 8::ql 19 18::qo 20 (.callv (.t 17) [.t 19])::qf 21 1 8::ql 22 21::qf 23 2 8::ql 24 23::qm 25 0 2::qf 26 3 8::ql 27 26::qo 28 (.callv (.t 25) [.t 27])::qo 29 (.bld [.int .i64 0,.int .i64 0,.int .i64 0,.int .i64 0] [(0,1,(.t 20)),(1,1,(.t 22)),(2,1,(.t 24)),(3,1,(.t 28))])::qo 30 (.bsl 4 1 [.t 29])::qo 31 (.app true 4 32 (.t 16) (.t 30))::qm 0 4 31::[])
def aay:HCode:=.region none (qo 32 (.bin .add (.t 12) (qn 1))::qm 12 0 32::[])
def aco:HCode:=.seq (.block 1 (.seq (.region none (qo 14 (.iaddr 4 (.t 10) (.t 12))::qo 15 (.load true 4 (.t 14))::qo 8 (.newz [.int .i64 0,.int .i64 0,.int .i64 0,.int .i64 0])::⟨none,.store true 4 (.t 8) (.t 15),none⟩::[])) NU)) aay
def ZV:HCode:=.seq (.region none (qo 13 (.bin .lss (.t 12) (.t 11))::[])) (.seq (.cond (.t 13) .skip (.exit 0)) aco)
def abn:HCode:=.seq (.region none (qm 33 4 0::qm 6 4 33::[])) .ret
def acK:HCode:=.seq (.seq (.region none (qf 9 1 4::ql 10 9::qo 11 (.len (.t 10))::qo 12 (.mv 0 (qn 0))::[])) (.block 0 (.loop ZV))) abn
def c75:HCode:=.seq (.region none (qo 4 (.newv 2 (.t 1))::qo 6 (.mv 4 (.c .nils))::[])) acK
theorem adQ:dC Try.prog 75=some (c75,[6],34):=by kernel_rfl
def ZR:HCode:=.seq (.region none (qm 5 0 0::qm 6 0 1::qo 7 (.bld [.int .i64 0,.int .i64 0,.int .i64 0,.int .i64 0] [(0,1,(.t 5)),(1,1,(qn (-1))),(2,1,(qn (-1))),(3,1,(.t 6))])::⟨none,.store true 4 (.t 4) (.t 7),none⟩::[])) .ret
def c76:HCode:=.seq (.region none (qo 4 (.newz [.int .i64 0,.int .i64 0,.int .i64 0,.int .i64 0])::[])) ZR
theorem aer:ji Try.prog 76=some (c76,[.c 4 true 4],8):=by kernel_rfl
def abN:HCode:=.seq (.region none (qo 3 (.mkfn 104 [.t 1])::qm 2 0 3::[])) .ret
def c77:HCode:=.seq (.region none (qo 1 (.newv 1 (.t 0))::qo 2 (.mv 0 (.c .nilf))::[])) abN
theorem aeh:dC Try.prog 77=some (c77,[2],4):=by kernel_rfl
def acJ:HCode:=.seq (.region none (qm 3 0 0::qo 4 (.call 72 [.t 3])::qo 5 (.un .not (.t 4))::qm 2 0 5::[])) .ret
def c78:HCode:=.seq (.region none (qo 2 (.mv 0 (.c (.bool false)))::[])) acJ
theorem adT:dC Try.prog 78=some (c78,[2],6):=by kernel_rfl
def aaG:HCode:=.seq (.region none (qm 5 1 0::qm 6 0 1::qo 7 (.call 105 [.t 5,.t 6])::qo 8 (.bin .geq (.t 7) (qn 0))::qm 4 0 8::[])) .ret
def c79:HCode:=.seq (.region none (qo 4 (.mv 0 (.c (.bool false)))::[])) aaG
theorem aes:dC Try.prog 79=some (c79,[4],9):=by kernel_rfl
def ZY:HCode:=.seq (.region none (qm 9 1 0::qm 10 0 1::qi 11 9 10::ql 12 11::qm 4 0 12::[])) .ret
def abe:HCode:=.seq (.region none (qo 4 (.mv 0 (qn (-1)))::[])) .ret
def Y8:HCode:=.seq (.seq (.region none (qm 5 0 1::qm 6 1 0::qo 7 (.len (.t 6))::qo 8 (.bin .lss (.t 5) (.t 7))::[])) (.cond (.t 8) ZY .skip)) abe
def c80:HCode:=.seq (.region none (qo 4 (.mv 0 (qn 0))::[])) Y8
theorem adL:dC Try.prog 80=some (c80,[4],13):=by kernel_rfl
def ZB:HCode:=.seq (.region (some [0,1,0,7,0,16,48,112,0,256,0,1792,4080,15,16383]) (qf 11 3 4::ql 12 11::qm 13 0 2::qo 14 (.bld [.int .i64 0,.int .i64 0] [(0,1,(.t 12)),(1,1,(.t 13))])::qm 15 0 0::qo 16 (.nilck (.t 15))::qf 17 2 16::ql 18 17::qf 19 3 4::ql 20 19::qm 21 0 2::qo 22 (.bld [.int .i64 0,.int .i64 0] [(0,1,(.t 20)),(1,1,(.t 21))])::qo 23 (.mlook false (.ints 2) (.bool false) (.t 18) (.t 22))::⟨none,.store true 2 (.t 6) (.t 14),none⟩::qm 7 0 23::[])) .ret
def acj:HCode:=.seq (.region (some [0,1,0,4,15,0,32,96,224,0,512,0,2048,7680,16352,31,65535]) (qf 43 3 4::ql 44 43::qm 45 0 2::qo 46 (.bin .add (.t 45) (qn 1))::qo 47 (.bld [.int .i64 0,.int .i64 0] [(0,1,(.t 44)),(1,1,(.t 46))])::qm 48 0 0::qo 49 (.nilck (.t 48))::qf 50 2 49::ql 51 50::qf 52 3 4::ql 53 52::qm 54 0 2::qo 55 (.bin .add (.t 54) (qn 1))::qo 56 (.bld [.int .i64 0,.int .i64 0] [(0,1,(.t 53)),(1,1,(.t 55))])::qo 57 (.mlook false (.ints 2) (.bool false) (.t 51) (.t 56))::⟨none,.store true 2 (.t 6) (.t 47),none⟩::qm 7 0 57::[])) .ret
def ZJ:HCode:=.seq (.region none (qo 58 (.bld [.int .i64 0,.int .i64 0] [])::⟨none,.store true 2 (.t 6) (.t 58),none⟩::qo 7 (.mv 0 (.c (.bool false)))::[])) .ret
def aci:HCode:=.seq (.seq (.region (some [0,0,2,6,14,30,63,127,255,511,1023,2047,255,8191,16383,255,33023,131071,262143]) (qm 24 0 2::qm 25 0 0::qo 26 (.nilck (.t 25))::qf 27 0 26::ql 28 27::qo 29 (.len (.t 28))::qo 30 (.bin .lss (.t 24) (.t 29))::qm 31 0 30::qg 32 (.mv 0 (.t 0)) 7 true::qg 33 (.nilck (.t 32)) 7 true::qg 34 (.faddr 0 (.t 33)) 7 true::qg 35 (.load false 1 (.t 34)) 7 true::qg 36 (.mv 0 (.t 2)) 7 true::qg 37 (.iaddr 1 (.t 35) (.t 36)) 7 true::qg 38 (.load false 1 (.t 37)) 7 true::qg 39 (.faddr 1 (.t 4)) 7 true::qg 40 (.load false 1 (.t 39)) 7 true::qg 41 (.bin .eql (.t 38) (.t 40)) 7 true::qo 42 (.pick (.t 31) (.t 41) (.c (.bool false)))::[])) (.cond (.t 42) acj .skip)) ZJ
def YM:HCode:=.seq (.seq (.region none (qf 8 1 4::ql 9 8::qo 10 (.bin .eql (.t 9) (qn (-1)))::[])) (.cond (.t 10) ZB .skip)) aci
def c99:HCode:=.seq (.region none (qo 4 (.newv 4 (.t 1))::qo 6 (.newz [.int .i64 0,.int .i64 0])::qo 7 (.mv 0 (.c (.bool false)))::[])) YM
theorem adH:ji Try.prog 99=some (c99,[.c 6 true 2,.t 7],59):=by kernel_rfl
def V9:HCode:=.seq (.region none (qm 17 0 5::qm 4 0 17::[])) .ret
def VA:HCode:=.seq (.region none (qm 11 0 1::qm 12 2 0::qm 13 0 5::qo 14 (.iaddr 2 (.t 12) (.t 13))::qo 15 (.load true 2 (.t 14))::qo 16 (.callv (.t 11) [.t 15])::[])) (.cond (.t 16) V9 .skip)
def VB:HCode:=.region none (qo 18 (.bin .add (.t 8) (qn 1))::qm 8 0 18::[])
def Ve:HCode:=.seq (.block 1 (.seq (.region none (qm 10 0 8::qm 5 0 10::[])) VA)) VB
def XR:HCode:=.seq (.region none (qo 9 (.bin .lss (.t 8) (.t 7))::[])) (.seq (.cond (.t 9) .skip (.exit 0)) Ve)
def UB:HCode:=.seq (.region none (qo 4 (.mv 0 (qn (-1)))::[])) .ret
def Vs:HCode:=.seq (.seq (.region none (qm 6 2 0::qo 7 (.len (.t 6))::qo 8 (.mv 0 (qn 0))::[])) (.block 0 (.loop XR))) UB
def aa2:HCode:=.seq (.region none (qo 4 (.mv 0 (qn 0))::[])) Vs
theorem Y4:dC Try.prog 100=some (aa2,[4],19):=by kernel_rfl
def XY:HCode:=.seq (.region none (qo 2 (.mv 1 (.c .nils))::[])) .ret
def XA:HCode:=.seq (.region none (qo 5 (.bsl 1 0 [])::qm 6 1 0::qo 7 (.app true 1 8 (.t 5) (.t 6))::qm 2 1 7::[])) .ret
def V8:HCode:=.seq (.seq (.region none (qm 3 1 0::qo 4 (.isn false (.t 3))::[])) (.cond (.t 4) XY .skip)) XA
def WM:HCode:=.seq (.region none (qo 2 (.mv 1 (.c .nils))::[])) V8
theorem Uk:dC Try.prog 101=some (WM,[2],8):=by kernel_rfl
def UE:HCode:=.region none (qo 7 .bad::⟨none,.bad,none⟩::[])
def UU:HCode:=.region none (qm 17 1 0::qm 18 1 0::qo 19 (.bi .cap [] [] [.t 18])::qo 20 (.slc 1 (.t 17) none (some (.t 19)))::qm 21 0 1::qo 22 (.bi .append [1,1] [.bool false] [.t 20,.t 21])::qm 23 1 0::qo 24 (.len (.t 23))::qo 25 (.slc 1 (.t 22) none (some (.t 24)))::qm 0 1 25::[])
def VC:HCode:=.seq (.region none (qm 15 0 1::qo 16 (.bin .gtr (.t 15) (qn 0))::[])) (.cond (.t 16) UU .skip)
def VP:HCode:=.seq (.region none (qm 26 1 0::qm 4 1 26::[])) .ret
def XG:HCode:=.seq (.seq (.region none (qm 8 0 1::qm 9 1 0::qo 10 (.bi .cap [] [] [.t 9])::qm 11 1 0::qo 12 (.len (.t 11))::qo 13 (.bin .sub (.t 10) (.t 12))::qo 14 (.bin .sub (.t 8) (.t 13))::qm 1 0 14::[])) VC) VP
def XN:HCode:=.seq (.seq (.region none (qm 5 0 1::qo 6 (.bin .lss (.t 5) (qn 0))::[])) (.cond (.t 6) UE .skip)) XG
def abZ:HCode:=.seq (.region none (qo 4 (.mv 1 (.c .nils))::[])) XN
theorem adk:dC Try.prog 103=some (abZ,[4],27):=by kernel_rfl
def UF:HCode:=.seq (.region none (qm 4 0 0::ql 5 1::qo 6 (.bin .add (.t 4) (.t 5))::qm 3 0 6::[])) .ret
def aah:HCode:=.seq (.region none (qo 3 (.mv 0 (qn 0))::[])) UF
theorem aaB:dC Try.prog 104=some (aah,[3],7):=by kernel_rfl
def WX:HCode:=.seq (.region none (qm 17 0 5::qm 4 0 17::[])) .ret
def WY:HCode:=.seq (.region none (qm 11 0 1::qm 12 1 0::qm 13 0 5::qi 14 12 13::ql 15 14::qo 16 (.callv (.t 11) [.t 15])::[])) (.cond (.t 16) WX .skip)
def UN:HCode:=.region none (qo 18 (.bin .add (.t 8) (qn 1))::qm 8 0 18::[])
def U3:HCode:=.seq (.block 1 (.seq (.region none (qm 10 0 8::qm 5 0 10::[])) WY)) UN
def VX:HCode:=.seq (.region none (qo 9 (.bin .lss (.t 8) (.t 7))::[])) (.seq (.cond (.t 9) .skip (.exit 0)) U3)
def Xo:HCode:=.seq (.region none (qo 4 (.mv 0 (qn (-1)))::[])) .ret
def VU:HCode:=.seq (.seq (.region none (qm 6 1 0::qo 7 (.len (.t 6))::qo 8 (.mv 0 (qn 0))::[])) (.block 0 (.loop VX))) Xo
def c105:HCode:=.seq (.region none (qo 4 (.mv 0 (qn 0))::[])) VU
theorem ZE:dC Try.prog 105=some (c105,[4],19):=by kernel_rfl
end Go.Proofs.Ytlbdmpjnmfmnfaa
